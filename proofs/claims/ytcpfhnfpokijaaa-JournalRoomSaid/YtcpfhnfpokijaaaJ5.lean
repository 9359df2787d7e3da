/- Walks printed by gen.py out of our own specifications: what the functions named below do. -/
import Derived.Test.YtcpfhnfpokijaaaJ4
set_option linter.unusedSimpArgs false
set_option linter.unusedVariables false
namespace Go.Proofs.Ytcpfhnfpokijaaa
open Go.RowKit


abbrev Cx := Int × Int × Int × List UInt8
/-- The cells that stand one behind the other. -/
def runL (D : Dk) (J : Jn) : Nat → Nat → Int → List Cx
  | 0, _, _ => []
  | r + 1, i, g => match cellAt D ((J.base + (J.head + i) % J.size : Nat) : Int) with
    | some c => if c.2.1 = ((J.head + i : Nat) : Int) ∧ g ≤ c.1 then c :: runL D J r (i + 1) c.1 else []
    | none => []
theorem runL_none {D : Dk} {J : Jn} {n k : Nat} {g : Int} (hk : k < n) (h : cellAt D ((J.base + (J.head + k) % J.size : Nat) : Int) = none) : runL D J (n - k) k g = [] := by
  rw [show n - k = (n - (k + 1)) + 1 by omega, runL, h]
theorem runL_bad {D : Dk} {J : Jn} {n k : Nat} {g : Int} {c : Cx} (hk : k < n) (h : cellAt D ((J.base + (J.head + k) % J.size : Nat) : Int) = some c) (hc : ¬ (c.2.1 = ((J.head + k : Nat) : Int) ∧ g ≤ c.1)) : runL D J (n - k) k g = [] := by
  rw [show n - k = (n - (k + 1)) + 1 by omega, runL, h]
  simp only
  rw [if_neg hc]
theorem runL_some {D : Dk} {J : Jn} {n k : Nat} {g : Int} {c : Cx} (hk : k < n) (h : cellAt D ((J.base + (J.head + k) % J.size : Nat) : Int) = some c) (hc : c.2.1 = ((J.head + k : Nat) : Int) ∧ g ≤ c.1) : runL D J (n - k) k g = c :: runL D J (n - (k + 1)) (k + 1) c.1 := by
  rw [show n - k = (n - (k + 1)) + 1 by omega, runL, h]
  simp only
  rw [if_pos hc]
def RunI (D : Dk) (J : Jn) (k : Nat) (g : Int) : Prop := ∃ pre, runL D J J.size 0 J.least = pre ++ runL D J (J.size - k) k g ∧ pre.length = k
theorem RunI.start (D : Dk) (J : Jn) : RunI D J 0 J.least := ⟨[], rfl, rfl⟩
theorem RunI.stop {D : Dk} {J : Jn} {k : Nat} {g : Int} (h : RunI D J k g) (h2 : runL D J (J.size - k) k g = []) : (runL D J J.size 0 J.least).length = k := by
  obtain ⟨pre, e, hl⟩ := h
  rw [e, h2]; simp [hl]
theorem RunI.at {D : Dk} {J : Jn} {k : Nat} {g : Int} {c : Cx} {r : List Cx} (h : RunI D J k g) (h2 : runL D J (J.size - k) k g = c :: r) : (runL D J J.size 0 J.least)[k]? = some c := by
  obtain ⟨pre, e, hl⟩ := h
  rw [e, h2, List.getElem?_append_right (by omega), hl]; simp
theorem RunI.next {D : Dk} {J : Jn} {k : Nat} {g : Int} {c : Cx} (h : RunI D J k g) (h2 : runL D J (J.size - k) k g = c :: runL D J (J.size - (k + 1)) (k + 1) c.1) : RunI D J (k + 1) c.1 := by
  obtain ⟨pre, e, hl⟩ := h
  exact ⟨pre ++ [c], by rw [e, h2]; simp, by simp [hl]⟩

set_option maxRecDepth 20000 in
theorem jrun_ok (gj gd : Nat) (J : Jn) (w : World) (hp : Hp w [(some gj, Cl (jC gd J) 53)])  :
    Fn Try.prog 43 [.pointer (some ⟨gj, 0, none⟩)] w fun v w' => ∃ g, v = .func (.func 58) #[] #[.pointer (some ⟨g, 0, none⟩)] ∧ New w w' [(some g, Cl [.pointer (some ⟨gj, 0, none⟩)] 29)] := by
  refine Fn_of 4 Ty.en_43 Try.func43 rfl rfl rfl ?_
  dsimp only [argEnv]
  have hp : Hp w [(_, Cl [_, _, _, _, _, _, _, _, _] _)] := hp
  have hF := Fr.refl [] w
  refine Wp_seq fun K1 hK1 => ?_
  refine Wp_region ?_
  refine Ls_a (wtd0 rfl) ?_
  refine a_box1 rfl rfl rfl rfl rfl hp (fun g1 w1 (hp : Hp w1 [(_, Cl [_, _, _, _, _, _, _, _, _] _), (_, Cl [_] _)]) hf hg1 => ?_)
  have hg1 := Nat.le_trans hF.size hg1
  have hF := hF.step0 hf
  refine Ls_y (wtd0 rfl) rfl rfl (y_assign rfl rfl) ?_
  refine Ls_nil (Th_n (hK1 _ _ ?_))
  refine Wp_seq fun K2 hK2 => ?_
  refine Wp_region ?_
  refine Ls_y (wtd0 rfl) rfl rfl (y_mkfn (fs := []) (cs := [_]) rfl rfl rfl) ?_
  refine Ls_y (wtd0 rfl) rfl rfl (y_assign rfl rfl) ?_
  refine Ls_nil (Th_n (hK2 _ _ ?_))
  refine Wp_ret (Fq_ret (Res1 rfl rfl) ?_)
  exact ⟨g1, rfl, ⟨hF, hp.picks [1] (by decide), by intro k hk; simp [keys] at hk; omega⟩⟩

set_option maxRecDepth 20000 in
set_option maxHeartbeats 1000000 in
theorem jrun1_ok (l gb gj : Nat) (p : Dp) (D : Dk) (J : Jn) (w : World) (hD : DkOk D) (hJ : JnB J) (Jk : Nat → Nat → World → Prop) (Jx : World → Prop)
    (hm : ∀ k N W, Jk k N W → N ≤ W.heap.size ∧ ∃ nx ls, Hp W (jH gj p D { J with next := nx, lasts := ls } ++ [(some gb, Cl [.pointer (some ⟨gj, 0, none⟩)] 29)])) (hK : ∀ k N W W', Jk k N W → Fr [] W W' → Jk k N W')
    (hy : ∀ k N c W, (runL D J J.size 0 J.least)[k]? = some c → Jk k N W → YieldsTo Try.prog l [cellV c.1 c.2.1 c.2.2.1 c.2.2.2] W (fun W' => (∃ N', Jk (k + 1) N' W') ∧ ∃ Y, Fr Y W W' ∧ ∀ y ∈ Y, y < N) Jx) (N0 : Nat) (h0 : Jk 0 N0 w) :
    Fn Try.prog 58 [.func (.yield l) #[] #[], .pointer (some ⟨gb, 0, none⟩)] w fun _ W' => (∃ N, Jk (runL D J J.size 0 J.least).length N W') ∨ Jx W' := by
  refine Fn_of 57 Ty.en_58 Try.func58 rfl rfl rfl ?_
  dsimp only [argEnv]
  obtain ⟨_, nx, ls, hp⟩ := hm 0 N0 w h0
  simp only [jH, jC] at hp
  have hp : Hp w [(_, Cl [_, _, _, _, _] _), _, _, (_, Cl [_, _, _, _, _, _, _, _, _] _), (_, Cl [_] _)] := hp
  have hF := Fr.refl [] w
  have hsz := hJ.size
  have hhd := hJ.head
  have hR := RunI.start D J
  refine Wp_seq fun K1 hK1 => ?_
  refine Wp_region ?_
  first
    | refine Ls_y (wtd0 rfl) rfl rfl (y_load (i := 0) rfl rfl Ty.pl_29 (fun _ e => e ▸ hp) rfl rfl) ?_
    | refine Ls_y (wtd0 rfl) rfl rfl (y_load (i := 1) rfl rfl Ty.pl_29 (fun _ e => e ▸ hp) rfl rfl) ?_
    | refine Ls_y (wtd0 rfl) rfl rfl (y_load (i := 2) rfl rfl Ty.pl_29 (fun _ e => e ▸ hp) rfl rfl) ?_
    | refine Ls_y (wtd0 rfl) rfl rfl (y_load (i := 3) rfl rfl Ty.pl_29 (fun _ e => e ▸ hp) rfl rfl) ?_
    | refine Ls_y (wtd0 rfl) rfl rfl (y_load (i := 4) rfl rfl Ty.pl_29 (fun _ e => e ▸ hp) rfl rfl) ?_
  refine Ls_y (wtd0 rfl) rfl rfl (y_nil rfl rfl) ?_
  refine Ls_y (wtd0 rfl) rfl rfl (y_fld rfl rfl Ty.fo_53_4) ?_
  first
    | refine Ls_y (wtd0 rfl) rfl rfl (y_load (i := 0) rfl rfl Ty.pl_33 (fun _ e => e ▸ hp) rfl rfl) ?_
    | refine Ls_y (wtd0 rfl) rfl rfl (y_load (i := 1) rfl rfl Ty.pl_33 (fun _ e => e ▸ hp) rfl rfl) ?_
    | refine Ls_y (wtd0 rfl) rfl rfl (y_load (i := 2) rfl rfl Ty.pl_33 (fun _ e => e ▸ hp) rfl rfl) ?_
    | refine Ls_y (wtd0 rfl) rfl rfl (y_load (i := 3) rfl rfl Ty.pl_33 (fun _ e => e ▸ hp) rfl rfl) ?_
    | refine Ls_y (wtd0 rfl) rfl rfl (y_load (i := 4) rfl rfl Ty.pl_33 (fun _ e => e ▸ hp) rfl rfl) ?_
  refine Ls_y (wtd0 rfl) rfl rfl (y_assign rfl rfl) ?_
  refine Ls_nil (Th_n (hK1 _ _ ?_))
  refine Wp_seq fun K2 hK2 => ?_
  refine Wp_region ?_
  first
    | refine Ls_y (wtd0 rfl) rfl rfl (y_load (i := 0) rfl rfl Ty.pl_29 (fun _ e => e ▸ hp) rfl rfl) ?_
    | refine Ls_y (wtd0 rfl) rfl rfl (y_load (i := 1) rfl rfl Ty.pl_29 (fun _ e => e ▸ hp) rfl rfl) ?_
    | refine Ls_y (wtd0 rfl) rfl rfl (y_load (i := 2) rfl rfl Ty.pl_29 (fun _ e => e ▸ hp) rfl rfl) ?_
    | refine Ls_y (wtd0 rfl) rfl rfl (y_load (i := 3) rfl rfl Ty.pl_29 (fun _ e => e ▸ hp) rfl rfl) ?_
    | refine Ls_y (wtd0 rfl) rfl rfl (y_load (i := 4) rfl rfl Ty.pl_29 (fun _ e => e ▸ hp) rfl rfl) ?_
  refine Ls_y (wtd0 rfl) rfl rfl (y_nil rfl rfl) ?_
  refine Ls_y (wtd0 rfl) rfl rfl (y_fld rfl rfl Ty.fo_53_2) ?_
  first
    | refine Ls_y (wtd0 rfl) rfl rfl (y_load (i := 0) rfl rfl Ty.pl_3 (fun _ e => e ▸ hp) rfl rfl) ?_
    | refine Ls_y (wtd0 rfl) rfl rfl (y_load (i := 1) rfl rfl Ty.pl_3 (fun _ e => e ▸ hp) rfl rfl) ?_
    | refine Ls_y (wtd0 rfl) rfl rfl (y_load (i := 2) rfl rfl Ty.pl_3 (fun _ e => e ▸ hp) rfl rfl) ?_
    | refine Ls_y (wtd0 rfl) rfl rfl (y_load (i := 3) rfl rfl Ty.pl_3 (fun _ e => e ▸ hp) rfl rfl) ?_
    | refine Ls_y (wtd0 rfl) rfl rfl (y_load (i := 4) rfl rfl Ty.pl_3 (fun _ e => e ▸ hp) rfl rfl) ?_
  refine Ls_y (wtd0 rfl) rfl rfl (y_move rfl rfl) ?_
  refine Ls_nil (Th_n (hK2 _ _ ?_))
  refine Wp_block ?_
  refine Wp_loopE (fun m e W => ∃ (k : Nat) (g : Int), k ≤ J.size ∧ m = J.size - k ∧ e = [(0, .func (.yield l) #[] #[]), (1, .pointer (some ⟨gb, 0, none⟩)), (3, .int .u16 g), (15, .int .i64 (J.size : Int)), (16, .int .i64 (k : Int))] ∧ RunI D J k g ∧ ∃ N, Jk k N W) (J.size) [(0, _), (1, _), (3, _), (15, _), (16, _)] ⟨rfl, rfl, rfl, rfl, rfl, trivial⟩ ?_ ?_
  · exact ⟨0, J.least, by omega, by omega, rfl, hR, N0, hK _ _ _ _ h0 hF⟩
  rintro m e W ⟨k, g, hk, rfl, rfl, hR, N, hj⟩
  obtain ⟨hNW, nx, ls, hp⟩ := hm k N W hj
  simp only [jH, jC] at hp
  have hp : Hp W [(_, Cl [_, _, _, _, _] _), _, _, (_, Cl [_, _, _, _, _, _, _, _, _] _), (_, Cl [_] _)] := hp
  have hF := Fr.refl [] W
  refine Wp_seq fun K4 hK4 => ?_
  refine Wp_region ?_
  refine Ls_y (wtd0 rfl) rfl rfl (y_lt rfl rfl rfl) ?_
  refine Ls_bool 17 rfl (fun hlt => ?_) (fun hlt => ?_)
  all_goals try simp only [decide_eq_true_eq, decide_eq_false_iff_not, beq_iff_eq, bne_iff_ne, ne_eq, beq_eq_false_iff_ne, bne_eq_false_iff_eq, Bool.not_eq_true, Bool.not_eq_false] at hlt
  · refine Ls_nil (Th_n (hK4 _ _ ?_))
    refine Wp_seq fun K5 hK5 => ?_
    refine Wp_cond_t rfl ?_
    refine Wp_skip (Th_n (hK5 _ _ ?_))
    refine Wp_seq fun K6 hK6 => ?_
    refine Wp_block ?_
    refine Wp_seq fun K7 hK7 => ?_
    refine Wp_region ?_
    refine Ls_y (wtd0 rfl) rfl rfl (y_move rfl rfl) ?_
    refine Ls_y (wtd0 rfl) rfl rfl (y_assign rfl rfl) ?_
    refine Ls_nil (Th_n (hK7 _ _ ?_))
    refine Wp_seq fun K8 hK8 => ?_
    refine Wp_region ?_
    first
      | refine Ls_y (wtd0 rfl) rfl rfl (y_load (i := 0) rfl rfl Ty.pl_29 (fun _ e => e ▸ hp) rfl rfl) ?_
      | refine Ls_y (wtd0 rfl) rfl rfl (y_load (i := 1) rfl rfl Ty.pl_29 (fun _ e => e ▸ hp) rfl rfl) ?_
      | refine Ls_y (wtd0 rfl) rfl rfl (y_load (i := 2) rfl rfl Ty.pl_29 (fun _ e => e ▸ hp) rfl rfl) ?_
      | refine Ls_y (wtd0 rfl) rfl rfl (y_load (i := 3) rfl rfl Ty.pl_29 (fun _ e => e ▸ hp) rfl rfl) ?_
      | refine Ls_y (wtd0 rfl) rfl rfl (y_load (i := 4) rfl rfl Ty.pl_29 (fun _ e => e ▸ hp) rfl rfl) ?_
    refine Ls_y (wtd0 rfl) rfl rfl (y_nil rfl rfl) ?_
    refine Ls_y (wtd0 rfl) rfl rfl (y_fld rfl rfl Ty.fo_53_5) ?_
    first
      | refine Ls_y (wtd0 rfl) rfl rfl (y_load (i := 0) rfl rfl Ty.pl_32 (fun _ e => e ▸ hp) rfl rfl) ?_
      | refine Ls_y (wtd0 rfl) rfl rfl (y_load (i := 1) rfl rfl Ty.pl_32 (fun _ e => e ▸ hp) rfl rfl) ?_
      | refine Ls_y (wtd0 rfl) rfl rfl (y_load (i := 2) rfl rfl Ty.pl_32 (fun _ e => e ▸ hp) rfl rfl) ?_
      | refine Ls_y (wtd0 rfl) rfl rfl (y_load (i := 3) rfl rfl Ty.pl_32 (fun _ e => e ▸ hp) rfl rfl) ?_
      | refine Ls_y (wtd0 rfl) rfl rfl (y_load (i := 4) rfl rfl Ty.pl_32 (fun _ e => e ▸ hp) rfl rfl) ?_
    refine Ls_y (wtd0 rfl) rfl rfl (y_move rfl rfl) ?_
    first
      | refine Ls_y (wtd0 rfl) rfl rfl (y_cvi rfl rfl Try.underlying3 Try.underlying32 (wf_u32 (by omega))) ?_
      | refine Ls_y (wtd0 rfl) rfl rfl (y_cvi rfl rfl Try.underlying3 Try.underlying32 wm_u32) ?_
    first
      | refine Ls_y (wtd0 rfl) rfl rfl (y_add rfl rfl rfl (wf_u32 (by omega))) ?_
      | refine Ls_y (wtd0 rfl) rfl rfl (y_add rfl rfl rfl rfl) ?_
    refine Ls_y (wtd0 rfl) rfl rfl (y_assign rfl rfl) ?_
    refine Ls_nil (Th_n (hK8 _ _ ?_))
    refine Wp_seq fun K9 hK9 => ?_
    refine Wp_px (fun W => Hp W (pickL (heapOf hp) [0, 1, 2, 3, 4])) 11 rfl Ty.mx_0 (hp.picks [0, 1, 2, 3, 4] (by decide)).drew ?_
    have hp := hp.drew
    have hF := hF.step0 (Fr.drew _)
    first
      | refine Px_y (i := 0) rfl (by kernel_rfl) (wtd0 rfl) rfl rfl (y_load (i := 0) rfl rfl Ty.pl_29 (fun _ h => h) rfl rfl) ?_
      | refine Px_y (i := 0) rfl (by kernel_rfl) (wtd0 rfl) rfl rfl (y_load (i := 1) rfl rfl Ty.pl_29 (fun _ h => h) rfl rfl) ?_
      | refine Px_y (i := 0) rfl (by kernel_rfl) (wtd0 rfl) rfl rfl (y_load (i := 2) rfl rfl Ty.pl_29 (fun _ h => h) rfl rfl) ?_
      | refine Px_y (i := 0) rfl (by kernel_rfl) (wtd0 rfl) rfl rfl (y_load (i := 3) rfl rfl Ty.pl_29 (fun _ h => h) rfl rfl) ?_
      | refine Px_y (i := 0) rfl (by kernel_rfl) (wtd0 rfl) rfl rfl (y_load (i := 4) rfl rfl Ty.pl_29 (fun _ h => h) rfl rfl) ?_
    first
      | refine Px_y (i := 1) rfl (by kernel_rfl) (wtd0 rfl) rfl rfl (y_load (i := 0) rfl rfl Ty.pl_29 (fun _ h => h) rfl rfl) ?_
      | refine Px_y (i := 1) rfl (by kernel_rfl) (wtd0 rfl) rfl rfl (y_load (i := 1) rfl rfl Ty.pl_29 (fun _ h => h) rfl rfl) ?_
      | refine Px_y (i := 1) rfl (by kernel_rfl) (wtd0 rfl) rfl rfl (y_load (i := 2) rfl rfl Ty.pl_29 (fun _ h => h) rfl rfl) ?_
      | refine Px_y (i := 1) rfl (by kernel_rfl) (wtd0 rfl) rfl rfl (y_load (i := 3) rfl rfl Ty.pl_29 (fun _ h => h) rfl rfl) ?_
      | refine Px_y (i := 1) rfl (by kernel_rfl) (wtd0 rfl) rfl rfl (y_load (i := 4) rfl rfl Ty.pl_29 (fun _ h => h) rfl rfl) ?_
    refine Px_y (i := 2) rfl (by kernel_rfl) (wtd0 rfl) rfl rfl (y_move rfl rfl) ?_
    refine Px_a2 (i := 3) (j := 8) (by kernel_rfl) rfl (wtd0 rfl) rfl (wtd0 rfl) ?_ ?_
    · refine a_call rfl rfl rfl rfl (jplace_ok gj p.gd { J with next := nx, lasts := ls } _ (hp.picks [3] (by decide)) ⟨hJ.base, hJ.size, hJ.size1, hJ.head⟩ (J.head + k) (by omega)) (fun v w2 ⟨hv, hf⟩ => ?_)
      subst hv
      have hp := hp.keep0 hf
      have hF := hF.step0 hf
      refine ⟨hp.picks [0, 1, 2, 3, 4] (by decide), ?_⟩
      refine Px_a2 (i := 4) (j := 8) (by kernel_rfl) rfl (wtd0 rfl) rfl (wtd0 rfl) ?_ ?_
      · refine a_call rfl rfl rfl rfl (jcell_ok gj p D { J with next := nx, lasts := ls } _ (hp.picks [0, 1, 2, 3] (by decide)) hD ((J.base + (J.head + k) % J.size : Nat) : Int)) (fun v w3 ⟨hv, hf⟩ => ?_)
        subst hv
        have hp := hp.keep0 hf
        have hF := hF.step0 hf
        refine ⟨hp.picks [0, 1, 2, 3, 4] (by decide), ?_⟩
        refine Px_y (i := 5) rfl (by kernel_rfl) (wtd0 rfl) rfl rfl (y_move rfl rfl) ?_
        refine Px_y (i := 6) rfl (by kernel_rfl) (wtd0 rfl) rfl rfl (y_ext rfl rfl rfl) ?_
        refine Px_y (i := 7) rfl (by kernel_rfl) (wtd0 rfl) rfl rfl (y_ext rfl rfl rfl) ?_
        refine Px_a (i := 8) (by kernel_rfl) rfl (wtd0 rfl) ?_
        refine a_alloc rfl rfl rfl Ty.zc_60 hp (fun g1 w1 (hp : Hp w1 [(_, Cl [_, _, _, _, _] _), _, _, (_, Cl [_, _, _, _, _, _, _, _, _] _), (_, Cl [_] _), (_, Cl [_, _, _, _] _)]) hf hg1 => ?_)
        have hg1 := Nat.le_trans hF.size hg1
        have hF := hF.step0 hf
        refine ⟨hp.picks [0, 1, 2, 3, 4] (by decide), ?_⟩
        refine Px_a (i := 9) (by kernel_rfl) rfl (wtd0 rfl) ?_
        first
          | refine a_storew (i := 0) rfl rfl rfl rfl Ty.sz_60 rfl (by first | assumption | (simp [Value.oneCell']; done)) hp rfl rfl (fun w2 (hp : Hp w2 [(_, Cl [_, _, _, _, _] _), _, _, (_, Cl [_, _, _, _, _, _, _, _, _] _), (_, Cl [_] _), (_, Cl [_, _, _, _] _)]) hf _ => ?_)
          | refine a_storew (i := 1) rfl rfl rfl rfl Ty.sz_60 rfl (by first | assumption | (simp [Value.oneCell']; done)) hp rfl rfl (fun w2 (hp : Hp w2 [(_, Cl [_, _, _, _, _] _), _, _, (_, Cl [_, _, _, _, _, _, _, _, _] _), (_, Cl [_] _), (_, Cl [_, _, _, _] _)]) hf _ => ?_)
          | refine a_storew (i := 2) rfl rfl rfl rfl Ty.sz_60 rfl (by first | assumption | (simp [Value.oneCell']; done)) hp rfl rfl (fun w2 (hp : Hp w2 [(_, Cl [_, _, _, _, _] _), _, _, (_, Cl [_, _, _, _, _, _, _, _, _] _), (_, Cl [_] _), (_, Cl [_, _, _, _] _)]) hf _ => ?_)
          | refine a_storew (i := 3) rfl rfl rfl rfl Ty.sz_60 rfl (by first | assumption | (simp [Value.oneCell']; done)) hp rfl rfl (fun w2 (hp : Hp w2 [(_, Cl [_, _, _, _, _] _), _, _, (_, Cl [_, _, _, _, _, _, _, _, _] _), (_, Cl [_] _), (_, Cl [_, _, _, _] _)]) hf _ => ?_)
          | refine a_storew (i := 4) rfl rfl rfl rfl Ty.sz_60 rfl (by first | assumption | (simp [Value.oneCell']; done)) hp rfl rfl (fun w2 (hp : Hp w2 [(_, Cl [_, _, _, _, _] _), _, _, (_, Cl [_, _, _, _, _, _, _, _, _] _), (_, Cl [_] _), (_, Cl [_, _, _, _] _)]) hf _ => ?_)
          | refine a_storew (i := 5) rfl rfl rfl rfl Ty.sz_60 rfl (by first | assumption | (simp [Value.oneCell']; done)) hp rfl rfl (fun w2 (hp : Hp w2 [(_, Cl [_, _, _, _, _] _), _, _, (_, Cl [_, _, _, _, _, _, _, _, _] _), (_, Cl [_] _), (_, Cl [_, _, _, _] _)]) hf _ => ?_)
        have hF := hF.step hf (by intro y hy; simp only [List.mem_cons, List.not_mem_nil, or_false] at hy; subst hy; first | (exact Or.inr (by omega)) | (exact Or.inl (by simp)))
        refine ⟨hp.picks [0, 1, 2, 3, 4] (by decide), ?_⟩
        refine Px_y (i := 10) rfl (by kernel_rfl) (wtd0 rfl) rfl rfl (y_assign rfl rfl) ?_
        refine Px_done (by kernel_rfl) (Th_n (hK9 _ _ ?_))
        refine Wp_seq fun K10 hK10 => ?_
        refine Wp_seq fun K11 hK11 => ?_
        refine Wp_region ?_
        generalize hc : cellAt D ((J.base + (J.head + k) % J.size : Nat) : Int) = oc at hp ⊢
        rcases oc with _ | ⟨g2, q2, f2, d2⟩
        · refine Ls_y (wtd0 rfl) rfl rfl (y_move rfl rfl) ?_
          refine Ls_y (wtd0 rfl) rfl rfl (y_not rfl rfl) ?_
          refine Ls_y (wtd0 rfl) rfl rfl (y_move rfl rfl) ?_
          refine Ls_bool 36 rfl (fun _ => ?_) (fun hc2 => absurd hc2 (by simp))
          refine Ls_s (wtdF rfl rfl rfl) rfl rfl ?_
          refine Ls_s (wtdF rfl rfl rfl) rfl rfl ?_
          refine Ls_s (wtdF rfl rfl rfl) rfl rfl ?_
          refine Ls_s (wtdF rfl rfl rfl) rfl rfl ?_
          refine Ls_y (wtd0 rfl) rfl rfl (y_pick_t rfl rfl rfl) ?_
          refine Ls_y (wtd0 rfl) rfl rfl (y_move rfl rfl) ?_
          refine Ls_s (wtdF rfl rfl rfl) rfl rfl ?_
          refine Ls_s (wtdF rfl rfl rfl) rfl rfl ?_
          refine Ls_s (wtdF rfl rfl rfl) rfl rfl ?_
          refine Ls_s (wtdF rfl rfl rfl) rfl rfl ?_
          refine Ls_y (wtd0 rfl) rfl rfl (y_pick_t rfl rfl rfl) ?_
          refine Ls_y (wtd0 rfl) rfl rfl (y_move rfl rfl) ?_
          refine Ls_s (wtdF rfl rfl rfl) rfl rfl ?_
          refine Ls_s (wtdF rfl rfl rfl) rfl rfl ?_
          refine Ls_s (wtdF rfl rfl rfl) rfl rfl ?_
          refine Ls_s (wtdF rfl rfl rfl) rfl rfl ?_
          refine Ls_y (wtd0 rfl) rfl rfl (y_pick_t rfl rfl rfl) ?_
          refine Ls_nil (Th_n (hK11 _ _ ?_))
          refine Wp_cond_t rfl ?_
          refine Wp_ret (Th_r (Ib_r (Th_r (Th_r (Ib_r (Fq_ret (Res0 rfl) ?_))))))
          left
          rw [hR.stop (runL_none (by omega) hc)]
          exact ⟨N, hK _ _ _ _ hj hF⟩
        · refine Ls_y (wtd0 rfl) rfl rfl (y_move rfl rfl) ?_
          refine Ls_y (wtd0 rfl) rfl rfl (y_not rfl rfl) ?_
          refine Ls_y (wtd0 rfl) rfl rfl (y_move rfl rfl) ?_
          refine Ls_bool 36 rfl (fun hc3 => absurd hc3 (by simp)) (fun _ => ?_)
          refine Ls_y (wtdT rfl rfl rfl) rfl rfl (y_fld rfl rfl Ty.fo_60_1) ?_
          first
            | refine Ls_y (wtdT rfl rfl rfl) rfl rfl (y_load (i := 0) rfl rfl Ty.pl_32 (fun _ e => e ▸ hp) rfl rfl) ?_
            | refine Ls_y (wtdT rfl rfl rfl) rfl rfl (y_load (i := 1) rfl rfl Ty.pl_32 (fun _ e => e ▸ hp) rfl rfl) ?_
            | refine Ls_y (wtdT rfl rfl rfl) rfl rfl (y_load (i := 2) rfl rfl Ty.pl_32 (fun _ e => e ▸ hp) rfl rfl) ?_
            | refine Ls_y (wtdT rfl rfl rfl) rfl rfl (y_load (i := 3) rfl rfl Ty.pl_32 (fun _ e => e ▸ hp) rfl rfl) ?_
            | refine Ls_y (wtdT rfl rfl rfl) rfl rfl (y_load (i := 4) rfl rfl Ty.pl_32 (fun _ e => e ▸ hp) rfl rfl) ?_
            | refine Ls_y (wtdT rfl rfl rfl) rfl rfl (y_load (i := 5) rfl rfl Ty.pl_32 (fun _ e => e ▸ hp) rfl rfl) ?_
          refine Ls_y (wtdT rfl rfl rfl) rfl rfl (y_move rfl rfl) ?_
          refine Ls_y (wtdT rfl rfl rfl) rfl rfl (y_ne rfl rfl rfl) ?_
          refine Ls_bool 40 rfl (fun hq => ?_) (fun hq => ?_)
          all_goals try simp only [decide_eq_true_eq, decide_eq_false_iff_not, beq_iff_eq, bne_iff_ne, ne_eq, beq_eq_false_iff_ne, bne_eq_false_iff_eq, Bool.not_eq_true, Bool.not_eq_false] at hq
          · refine Ls_y (wtd0 rfl) rfl rfl (y_pick_f rfl rfl rfl) ?_
            refine Ls_y (wtd0 rfl) rfl rfl (y_move rfl rfl) ?_
            refine Ls_s (wtdF rfl rfl rfl) rfl rfl ?_
            refine Ls_s (wtdF rfl rfl rfl) rfl rfl ?_
            refine Ls_s (wtdF rfl rfl rfl) rfl rfl ?_
            refine Ls_s (wtdF rfl rfl rfl) rfl rfl ?_
            refine Ls_y (wtd0 rfl) rfl rfl (y_pick_t rfl rfl rfl) ?_
            refine Ls_y (wtd0 rfl) rfl rfl (y_move rfl rfl) ?_
            refine Ls_s (wtdF rfl rfl rfl) rfl rfl ?_
            refine Ls_s (wtdF rfl rfl rfl) rfl rfl ?_
            refine Ls_s (wtdF rfl rfl rfl) rfl rfl ?_
            refine Ls_s (wtdF rfl rfl rfl) rfl rfl ?_
            refine Ls_y (wtd0 rfl) rfl rfl (y_pick_t rfl rfl rfl) ?_
            refine Ls_nil (Th_n (hK11 _ _ ?_))
            refine Wp_cond_t rfl ?_
            refine Wp_ret (Th_r (Ib_r (Th_r (Th_r (Ib_r (Fq_ret (Res0 rfl) ?_))))))
            left
            rw [hR.stop (runL_bad (by omega) hc (fun h => hq h.1))]
            exact ⟨N, hK _ _ _ _ hj hF⟩
          · refine Ls_y (wtd0 rfl) rfl rfl (y_pick_f rfl rfl rfl) ?_
            refine Ls_y (wtd0 rfl) rfl rfl (y_move rfl rfl) ?_
            refine Ls_y (wtdT rfl rfl rfl) rfl rfl (y_fld rfl rfl Ty.fo_60_0) ?_
            first
              | refine Ls_y (wtdT rfl rfl rfl) rfl rfl (y_load (i := 0) rfl rfl Ty.pl_33 (fun _ e => e ▸ hp) rfl rfl) ?_
              | refine Ls_y (wtdT rfl rfl rfl) rfl rfl (y_load (i := 1) rfl rfl Ty.pl_33 (fun _ e => e ▸ hp) rfl rfl) ?_
              | refine Ls_y (wtdT rfl rfl rfl) rfl rfl (y_load (i := 2) rfl rfl Ty.pl_33 (fun _ e => e ▸ hp) rfl rfl) ?_
              | refine Ls_y (wtdT rfl rfl rfl) rfl rfl (y_load (i := 3) rfl rfl Ty.pl_33 (fun _ e => e ▸ hp) rfl rfl) ?_
              | refine Ls_y (wtdT rfl rfl rfl) rfl rfl (y_load (i := 4) rfl rfl Ty.pl_33 (fun _ e => e ▸ hp) rfl rfl) ?_
              | refine Ls_y (wtdT rfl rfl rfl) rfl rfl (y_load (i := 5) rfl rfl Ty.pl_33 (fun _ e => e ▸ hp) rfl rfl) ?_
            refine Ls_y (wtdT rfl rfl rfl) rfl rfl (y_move rfl rfl) ?_
            refine Ls_y (wtdT rfl rfl rfl) rfl rfl (y_lt rfl rfl rfl) ?_
            refine Ls_bool 46 rfl (fun hg => ?_) (fun hg => ?_)
            all_goals try simp only [decide_eq_true_eq, decide_eq_false_iff_not, beq_iff_eq, bne_iff_ne, ne_eq, beq_eq_false_iff_ne, bne_eq_false_iff_eq, Bool.not_eq_true, Bool.not_eq_false] at hg
            · refine Ls_y (wtd0 rfl) rfl rfl (y_pick_f rfl rfl rfl) ?_
              refine Ls_y (wtd0 rfl) rfl rfl (y_move rfl rfl) ?_
              refine Ls_s (wtdF rfl rfl rfl) rfl rfl ?_
              refine Ls_s (wtdF rfl rfl rfl) rfl rfl ?_
              refine Ls_s (wtdF rfl rfl rfl) rfl rfl ?_
              refine Ls_s (wtdF rfl rfl rfl) rfl rfl ?_
              refine Ls_y (wtd0 rfl) rfl rfl (y_pick_t rfl rfl rfl) ?_
              refine Ls_nil (Th_n (hK11 _ _ ?_))
              refine Wp_cond_t rfl ?_
              refine Wp_ret (Th_r (Ib_r (Th_r (Th_r (Ib_r (Fq_ret (Res0 rfl) ?_))))))
              left
              rw [hR.stop (runL_bad (by omega) hc (fun h => by have h4 : g ≤ g2 := h.2; have h3 : g2 < g := hg; omega))]
              exact ⟨N, hK _ _ _ _ hj hF⟩
            · have hg3 : ¬ g2 < g := hg
              have hrl := runL_some (g := g) (n := J.size) (by omega) hc ⟨hq, show g ≤ g2 by omega⟩
              refine Ls_y (wtd0 rfl) rfl rfl (y_pick_f rfl rfl rfl) ?_
              refine Ls_y (wtd0 rfl) rfl rfl (y_move rfl rfl) ?_
              refine Ls_y (wtdT rfl rfl rfl) rfl rfl (y_move rfl rfl) ?_
              first
                | refine Ls_y (wtdT rfl rfl rfl) rfl rfl (y_loadw (i := 0) rfl rfl Ty.ag_60 (fun _ e => e ▸ hp) rfl rfl) ?_
                | refine Ls_y (wtdT rfl rfl rfl) rfl rfl (y_loadw (i := 1) rfl rfl Ty.ag_60 (fun _ e => e ▸ hp) rfl rfl) ?_
                | refine Ls_y (wtdT rfl rfl rfl) rfl rfl (y_loadw (i := 2) rfl rfl Ty.ag_60 (fun _ e => e ▸ hp) rfl rfl) ?_
                | refine Ls_y (wtdT rfl rfl rfl) rfl rfl (y_loadw (i := 3) rfl rfl Ty.ag_60 (fun _ e => e ▸ hp) rfl rfl) ?_
                | refine Ls_y (wtdT rfl rfl rfl) rfl rfl (y_loadw (i := 4) rfl rfl Ty.ag_60 (fun _ e => e ▸ hp) rfl rfl) ?_
                | refine Ls_y (wtdT rfl rfl rfl) rfl rfl (y_loadw (i := 5) rfl rfl Ty.ag_60 (fun _ e => e ▸ hp) rfl rfl) ?_
              refine Ls_yield (wtdT rfl rfl rfl) rfl rfl rfl rfl rfl (hy k N _ _ (hR.at hrl) (hK _ _ _ _ hj hF)) (fun W3 hT => ?_) (fun W3 hT => ?_)
              · obtain ⟨⟨N2, hj3⟩, Y, hf3, hYN⟩ := hT
                have hp := (hp.picks [5] (by decide)).keep hf3 (by intro y hy hyx; have := hYN y hyx; simp [keys, pickL] at hy; omega)
                have hp : Hp W3 [(_, Cl [_, _, _, _] _)] := hp
                have hF := Fr.refl [] W3
                refine Ls_y (wtdT rfl rfl rfl) rfl rfl (y_not rfl rfl) ?_
                refine Ls_y (wtd0 rfl) rfl rfl (y_pick_f rfl rfl rfl) ?_
                refine Ls_nil (Th_n (hK11 _ _ ?_))
                refine Wp_cond_f rfl ?_
                refine Wp_skip (Th_n (hK10 _ _ ?_))
                refine Wp_region ?_
                refine Ls_y (wtd0 rfl) rfl rfl (y_fld rfl rfl Ty.fo_60_0) ?_
                refine Ls_y (wtd0 rfl) rfl rfl (y_load (i := 0) rfl rfl Ty.pl_33 (fun _ e => e ▸ hp) rfl rfl) ?_
                refine Ls_y (wtd0 rfl) rfl rfl (y_assign rfl rfl) ?_
                refine Ls_nil (Ib_n (Th_n (hK6 _ _ ?_)))
                refine Wp_region ?_
                first
                  | refine Ls_y (wtd0 rfl) rfl rfl (y_add rfl rfl rfl (w_succ (by omega))) ?_
                  | refine Ls_y (wtd0 rfl) rfl rfl (y_add rfl rfl rfl (wf_i64 (by omega))) ?_
                  | refine Ls_y (wtd0 rfl) rfl rfl (y_add rfl rfl rfl rfl) ?_
                refine Ls_y (wtd0 rfl) rfl rfl (y_move rfl rfl) ?_
                refine Ls_nil (Th_n (?_))
                exact ⟨J.size - (k + 1), [(0, _), (1, _), (3, _), (15, _), (16, _)], by omega, ⟨rfl, rfl, rfl, rfl, rfl, trivial⟩, k + 1, _, by omega, rfl, rfl, hR.next hrl, N2, hK _ _ _ _ hj3 hF⟩
              · refine Ls_y (wtdT rfl rfl rfl) rfl rfl (y_not rfl rfl) ?_
                refine Ls_y (wtd0 rfl) rfl rfl (y_pick_f rfl rfl rfl) ?_
                refine Ls_nil (Th_n (hK11 _ _ ?_))
                refine Wp_cond_t rfl ?_
                refine Wp_ret (Th_r (Ib_r (Th_r (Th_r (Ib_r (Fq_ret (Res0 rfl) ?_))))))
                exact .inr hT
      · refine a_alloc rfl rfl rfl Ty.zc_60 hp (fun g1 w1 (hp : Hp w1 [(_, Cl [_, _, _, _, _] _), _, _, (_, Cl [_, _, _, _, _, _, _, _, _] _), (_, Cl [_] _), (_, Cl [_, _, _, _] _)]) hf hg1 => ?_)
        have hg1 := Nat.le_trans hF.size hg1
        have hF := hF.step0 hf
        refine ⟨hp.picks [0, 1, 2, 3, 4] (by decide), ?_⟩
        refine Px_a (i := 4) (by kernel_rfl) rfl (wtd0 rfl) ?_
        refine a_call rfl rfl rfl rfl (jcell_ok gj p D { J with next := nx, lasts := ls } _ (hp.picks [0, 1, 2, 3] (by decide)) hD ((J.base + (J.head + k) % J.size : Nat) : Int)) (fun v w3 ⟨hv, hf⟩ => ?_)
        subst hv
        have hp := hp.keep0 hf
        have hF := hF.step0 hf
        refine ⟨hp.picks [0, 1, 2, 3, 4] (by decide), ?_⟩
        refine Px_y (i := 5) rfl (by kernel_rfl) (wtd0 rfl) rfl rfl (y_move rfl rfl) ?_
        refine Px_y (i := 6) rfl (by kernel_rfl) (wtd0 rfl) rfl rfl (y_ext rfl rfl rfl) ?_
        refine Px_y (i := 7) rfl (by kernel_rfl) (wtd0 rfl) rfl rfl (y_ext rfl rfl rfl) ?_
        refine Px_a (i := 9) (by kernel_rfl) rfl (wtd0 rfl) ?_
        first
          | refine a_storew (i := 0) rfl rfl rfl rfl Ty.sz_60 rfl (by first | assumption | (simp [Value.oneCell']; done)) hp rfl rfl (fun w2 (hp : Hp w2 [(_, Cl [_, _, _, _, _] _), _, _, (_, Cl [_, _, _, _, _, _, _, _, _] _), (_, Cl [_] _), (_, Cl [_, _, _, _] _)]) hf _ => ?_)
          | refine a_storew (i := 1) rfl rfl rfl rfl Ty.sz_60 rfl (by first | assumption | (simp [Value.oneCell']; done)) hp rfl rfl (fun w2 (hp : Hp w2 [(_, Cl [_, _, _, _, _] _), _, _, (_, Cl [_, _, _, _, _, _, _, _, _] _), (_, Cl [_] _), (_, Cl [_, _, _, _] _)]) hf _ => ?_)
          | refine a_storew (i := 2) rfl rfl rfl rfl Ty.sz_60 rfl (by first | assumption | (simp [Value.oneCell']; done)) hp rfl rfl (fun w2 (hp : Hp w2 [(_, Cl [_, _, _, _, _] _), _, _, (_, Cl [_, _, _, _, _, _, _, _, _] _), (_, Cl [_] _), (_, Cl [_, _, _, _] _)]) hf _ => ?_)
          | refine a_storew (i := 3) rfl rfl rfl rfl Ty.sz_60 rfl (by first | assumption | (simp [Value.oneCell']; done)) hp rfl rfl (fun w2 (hp : Hp w2 [(_, Cl [_, _, _, _, _] _), _, _, (_, Cl [_, _, _, _, _, _, _, _, _] _), (_, Cl [_] _), (_, Cl [_, _, _, _] _)]) hf _ => ?_)
          | refine a_storew (i := 4) rfl rfl rfl rfl Ty.sz_60 rfl (by first | assumption | (simp [Value.oneCell']; done)) hp rfl rfl (fun w2 (hp : Hp w2 [(_, Cl [_, _, _, _, _] _), _, _, (_, Cl [_, _, _, _, _, _, _, _, _] _), (_, Cl [_] _), (_, Cl [_, _, _, _] _)]) hf _ => ?_)
          | refine a_storew (i := 5) rfl rfl rfl rfl Ty.sz_60 rfl (by first | assumption | (simp [Value.oneCell']; done)) hp rfl rfl (fun w2 (hp : Hp w2 [(_, Cl [_, _, _, _, _] _), _, _, (_, Cl [_, _, _, _, _, _, _, _, _] _), (_, Cl [_] _), (_, Cl [_, _, _, _] _)]) hf _ => ?_)
        have hF := hF.step hf (by intro y hy; simp only [List.mem_cons, List.not_mem_nil, or_false] at hy; subst hy; first | (exact Or.inr (by omega)) | (exact Or.inl (by simp)))
        refine ⟨hp.picks [0, 1, 2, 3, 4] (by decide), ?_⟩
        refine Px_y (i := 10) rfl (by kernel_rfl) (wtd0 rfl) rfl rfl (y_assign rfl rfl) ?_
        refine Px_done (by kernel_rfl) (Th_n (hK9 _ _ ?_))
        refine Wp_seq fun K12 hK12 => ?_
        refine Wp_seq fun K13 hK13 => ?_
        refine Wp_region ?_
        generalize hc : cellAt D ((J.base + (J.head + k) % J.size : Nat) : Int) = oc at hp ⊢
        rcases oc with _ | ⟨g2, q2, f2, d2⟩
        · refine Ls_y (wtd0 rfl) rfl rfl (y_move rfl rfl) ?_
          refine Ls_y (wtd0 rfl) rfl rfl (y_not rfl rfl) ?_
          refine Ls_y (wtd0 rfl) rfl rfl (y_move rfl rfl) ?_
          refine Ls_bool 36 rfl (fun _ => ?_) (fun hc6 => absurd hc6 (by simp))
          refine Ls_s (wtdF rfl rfl rfl) rfl rfl ?_
          refine Ls_s (wtdF rfl rfl rfl) rfl rfl ?_
          refine Ls_s (wtdF rfl rfl rfl) rfl rfl ?_
          refine Ls_s (wtdF rfl rfl rfl) rfl rfl ?_
          refine Ls_y (wtd0 rfl) rfl rfl (y_pick_t rfl rfl rfl) ?_
          refine Ls_y (wtd0 rfl) rfl rfl (y_move rfl rfl) ?_
          refine Ls_s (wtdF rfl rfl rfl) rfl rfl ?_
          refine Ls_s (wtdF rfl rfl rfl) rfl rfl ?_
          refine Ls_s (wtdF rfl rfl rfl) rfl rfl ?_
          refine Ls_s (wtdF rfl rfl rfl) rfl rfl ?_
          refine Ls_y (wtd0 rfl) rfl rfl (y_pick_t rfl rfl rfl) ?_
          refine Ls_y (wtd0 rfl) rfl rfl (y_move rfl rfl) ?_
          refine Ls_s (wtdF rfl rfl rfl) rfl rfl ?_
          refine Ls_s (wtdF rfl rfl rfl) rfl rfl ?_
          refine Ls_s (wtdF rfl rfl rfl) rfl rfl ?_
          refine Ls_s (wtdF rfl rfl rfl) rfl rfl ?_
          refine Ls_y (wtd0 rfl) rfl rfl (y_pick_t rfl rfl rfl) ?_
          refine Ls_nil (Th_n (hK13 _ _ ?_))
          refine Wp_cond_t rfl ?_
          refine Wp_ret (Th_r (Ib_r (Th_r (Th_r (Ib_r (Fq_ret (Res0 rfl) ?_))))))
          left
          rw [hR.stop (runL_none (by omega) hc)]
          exact ⟨N, hK _ _ _ _ hj hF⟩
        · refine Ls_y (wtd0 rfl) rfl rfl (y_move rfl rfl) ?_
          refine Ls_y (wtd0 rfl) rfl rfl (y_not rfl rfl) ?_
          refine Ls_y (wtd0 rfl) rfl rfl (y_move rfl rfl) ?_
          refine Ls_bool 36 rfl (fun hc7 => absurd hc7 (by simp)) (fun _ => ?_)
          refine Ls_y (wtdT rfl rfl rfl) rfl rfl (y_fld rfl rfl Ty.fo_60_1) ?_
          first
            | refine Ls_y (wtdT rfl rfl rfl) rfl rfl (y_load (i := 0) rfl rfl Ty.pl_32 (fun _ e => e ▸ hp) rfl rfl) ?_
            | refine Ls_y (wtdT rfl rfl rfl) rfl rfl (y_load (i := 1) rfl rfl Ty.pl_32 (fun _ e => e ▸ hp) rfl rfl) ?_
            | refine Ls_y (wtdT rfl rfl rfl) rfl rfl (y_load (i := 2) rfl rfl Ty.pl_32 (fun _ e => e ▸ hp) rfl rfl) ?_
            | refine Ls_y (wtdT rfl rfl rfl) rfl rfl (y_load (i := 3) rfl rfl Ty.pl_32 (fun _ e => e ▸ hp) rfl rfl) ?_
            | refine Ls_y (wtdT rfl rfl rfl) rfl rfl (y_load (i := 4) rfl rfl Ty.pl_32 (fun _ e => e ▸ hp) rfl rfl) ?_
            | refine Ls_y (wtdT rfl rfl rfl) rfl rfl (y_load (i := 5) rfl rfl Ty.pl_32 (fun _ e => e ▸ hp) rfl rfl) ?_
          refine Ls_y (wtdT rfl rfl rfl) rfl rfl (y_move rfl rfl) ?_
          refine Ls_y (wtdT rfl rfl rfl) rfl rfl (y_ne rfl rfl rfl) ?_
          refine Ls_bool 40 rfl (fun hq => ?_) (fun hq => ?_)
          all_goals try simp only [decide_eq_true_eq, decide_eq_false_iff_not, beq_iff_eq, bne_iff_ne, ne_eq, beq_eq_false_iff_ne, bne_eq_false_iff_eq, Bool.not_eq_true, Bool.not_eq_false] at hq
          · refine Ls_y (wtd0 rfl) rfl rfl (y_pick_f rfl rfl rfl) ?_
            refine Ls_y (wtd0 rfl) rfl rfl (y_move rfl rfl) ?_
            refine Ls_s (wtdF rfl rfl rfl) rfl rfl ?_
            refine Ls_s (wtdF rfl rfl rfl) rfl rfl ?_
            refine Ls_s (wtdF rfl rfl rfl) rfl rfl ?_
            refine Ls_s (wtdF rfl rfl rfl) rfl rfl ?_
            refine Ls_y (wtd0 rfl) rfl rfl (y_pick_t rfl rfl rfl) ?_
            refine Ls_y (wtd0 rfl) rfl rfl (y_move rfl rfl) ?_
            refine Ls_s (wtdF rfl rfl rfl) rfl rfl ?_
            refine Ls_s (wtdF rfl rfl rfl) rfl rfl ?_
            refine Ls_s (wtdF rfl rfl rfl) rfl rfl ?_
            refine Ls_s (wtdF rfl rfl rfl) rfl rfl ?_
            refine Ls_y (wtd0 rfl) rfl rfl (y_pick_t rfl rfl rfl) ?_
            refine Ls_nil (Th_n (hK13 _ _ ?_))
            refine Wp_cond_t rfl ?_
            refine Wp_ret (Th_r (Ib_r (Th_r (Th_r (Ib_r (Fq_ret (Res0 rfl) ?_))))))
            left
            rw [hR.stop (runL_bad (by omega) hc (fun h => hq h.1))]
            exact ⟨N, hK _ _ _ _ hj hF⟩
          · refine Ls_y (wtd0 rfl) rfl rfl (y_pick_f rfl rfl rfl) ?_
            refine Ls_y (wtd0 rfl) rfl rfl (y_move rfl rfl) ?_
            refine Ls_y (wtdT rfl rfl rfl) rfl rfl (y_fld rfl rfl Ty.fo_60_0) ?_
            first
              | refine Ls_y (wtdT rfl rfl rfl) rfl rfl (y_load (i := 0) rfl rfl Ty.pl_33 (fun _ e => e ▸ hp) rfl rfl) ?_
              | refine Ls_y (wtdT rfl rfl rfl) rfl rfl (y_load (i := 1) rfl rfl Ty.pl_33 (fun _ e => e ▸ hp) rfl rfl) ?_
              | refine Ls_y (wtdT rfl rfl rfl) rfl rfl (y_load (i := 2) rfl rfl Ty.pl_33 (fun _ e => e ▸ hp) rfl rfl) ?_
              | refine Ls_y (wtdT rfl rfl rfl) rfl rfl (y_load (i := 3) rfl rfl Ty.pl_33 (fun _ e => e ▸ hp) rfl rfl) ?_
              | refine Ls_y (wtdT rfl rfl rfl) rfl rfl (y_load (i := 4) rfl rfl Ty.pl_33 (fun _ e => e ▸ hp) rfl rfl) ?_
              | refine Ls_y (wtdT rfl rfl rfl) rfl rfl (y_load (i := 5) rfl rfl Ty.pl_33 (fun _ e => e ▸ hp) rfl rfl) ?_
            refine Ls_y (wtdT rfl rfl rfl) rfl rfl (y_move rfl rfl) ?_
            refine Ls_y (wtdT rfl rfl rfl) rfl rfl (y_lt rfl rfl rfl) ?_
            refine Ls_bool 46 rfl (fun hg => ?_) (fun hg => ?_)
            all_goals try simp only [decide_eq_true_eq, decide_eq_false_iff_not, beq_iff_eq, bne_iff_ne, ne_eq, beq_eq_false_iff_ne, bne_eq_false_iff_eq, Bool.not_eq_true, Bool.not_eq_false] at hg
            · refine Ls_y (wtd0 rfl) rfl rfl (y_pick_f rfl rfl rfl) ?_
              refine Ls_y (wtd0 rfl) rfl rfl (y_move rfl rfl) ?_
              refine Ls_s (wtdF rfl rfl rfl) rfl rfl ?_
              refine Ls_s (wtdF rfl rfl rfl) rfl rfl ?_
              refine Ls_s (wtdF rfl rfl rfl) rfl rfl ?_
              refine Ls_s (wtdF rfl rfl rfl) rfl rfl ?_
              refine Ls_y (wtd0 rfl) rfl rfl (y_pick_t rfl rfl rfl) ?_
              refine Ls_nil (Th_n (hK13 _ _ ?_))
              refine Wp_cond_t rfl ?_
              refine Wp_ret (Th_r (Ib_r (Th_r (Th_r (Ib_r (Fq_ret (Res0 rfl) ?_))))))
              left
              rw [hR.stop (runL_bad (by omega) hc (fun h => by have h4 : g ≤ g2 := h.2; have h3 : g2 < g := hg; omega))]
              exact ⟨N, hK _ _ _ _ hj hF⟩
            · have hg3 : ¬ g2 < g := hg
              have hrl := runL_some (g := g) (n := J.size) (by omega) hc ⟨hq, show g ≤ g2 by omega⟩
              refine Ls_y (wtd0 rfl) rfl rfl (y_pick_f rfl rfl rfl) ?_
              refine Ls_y (wtd0 rfl) rfl rfl (y_move rfl rfl) ?_
              refine Ls_y (wtdT rfl rfl rfl) rfl rfl (y_move rfl rfl) ?_
              first
                | refine Ls_y (wtdT rfl rfl rfl) rfl rfl (y_loadw (i := 0) rfl rfl Ty.ag_60 (fun _ e => e ▸ hp) rfl rfl) ?_
                | refine Ls_y (wtdT rfl rfl rfl) rfl rfl (y_loadw (i := 1) rfl rfl Ty.ag_60 (fun _ e => e ▸ hp) rfl rfl) ?_
                | refine Ls_y (wtdT rfl rfl rfl) rfl rfl (y_loadw (i := 2) rfl rfl Ty.ag_60 (fun _ e => e ▸ hp) rfl rfl) ?_
                | refine Ls_y (wtdT rfl rfl rfl) rfl rfl (y_loadw (i := 3) rfl rfl Ty.ag_60 (fun _ e => e ▸ hp) rfl rfl) ?_
                | refine Ls_y (wtdT rfl rfl rfl) rfl rfl (y_loadw (i := 4) rfl rfl Ty.ag_60 (fun _ e => e ▸ hp) rfl rfl) ?_
                | refine Ls_y (wtdT rfl rfl rfl) rfl rfl (y_loadw (i := 5) rfl rfl Ty.ag_60 (fun _ e => e ▸ hp) rfl rfl) ?_
              refine Ls_yield (wtdT rfl rfl rfl) rfl rfl rfl rfl rfl (hy k N _ _ (hR.at hrl) (hK _ _ _ _ hj hF)) (fun W3 hT => ?_) (fun W3 hT => ?_)
              · obtain ⟨⟨N2, hj3⟩, Y, hf3, hYN⟩ := hT
                have hp := (hp.picks [5] (by decide)).keep hf3 (by intro y hy hyx; have := hYN y hyx; simp [keys, pickL] at hy; omega)
                have hp : Hp W3 [(_, Cl [_, _, _, _] _)] := hp
                have hF := Fr.refl [] W3
                refine Ls_y (wtdT rfl rfl rfl) rfl rfl (y_not rfl rfl) ?_
                refine Ls_y (wtd0 rfl) rfl rfl (y_pick_f rfl rfl rfl) ?_
                refine Ls_nil (Th_n (hK13 _ _ ?_))
                refine Wp_cond_f rfl ?_
                refine Wp_skip (Th_n (hK12 _ _ ?_))
                refine Wp_region ?_
                refine Ls_y (wtd0 rfl) rfl rfl (y_fld rfl rfl Ty.fo_60_0) ?_
                refine Ls_y (wtd0 rfl) rfl rfl (y_load (i := 0) rfl rfl Ty.pl_33 (fun _ e => e ▸ hp) rfl rfl) ?_
                refine Ls_y (wtd0 rfl) rfl rfl (y_assign rfl rfl) ?_
                refine Ls_nil (Ib_n (Th_n (hK6 _ _ ?_)))
                refine Wp_region ?_
                first
                  | refine Ls_y (wtd0 rfl) rfl rfl (y_add rfl rfl rfl (w_succ (by omega))) ?_
                  | refine Ls_y (wtd0 rfl) rfl rfl (y_add rfl rfl rfl (wf_i64 (by omega))) ?_
                  | refine Ls_y (wtd0 rfl) rfl rfl (y_add rfl rfl rfl rfl) ?_
                refine Ls_y (wtd0 rfl) rfl rfl (y_move rfl rfl) ?_
                refine Ls_nil (Th_n (?_))
                exact ⟨J.size - (k + 1), [(0, _), (1, _), (3, _), (15, _), (16, _)], by omega, ⟨rfl, rfl, rfl, rfl, rfl, trivial⟩, k + 1, _, by omega, rfl, rfl, hR.next hrl, N2, hK _ _ _ _ hj3 hF⟩
              · refine Ls_y (wtdT rfl rfl rfl) rfl rfl (y_not rfl rfl) ?_
                refine Ls_y (wtd0 rfl) rfl rfl (y_pick_f rfl rfl rfl) ?_
                refine Ls_nil (Th_n (hK13 _ _ ?_))
                refine Wp_cond_t rfl ?_
                refine Wp_ret (Th_r (Ib_r (Th_r (Th_r (Ib_r (Fq_ret (Res0 rfl) ?_))))))
                exact .inr hT
    · refine a_alloc rfl rfl rfl Ty.zc_60 hp (fun g1 w1 (hp : Hp w1 [(_, Cl [_, _, _, _, _] _), _, _, (_, Cl [_, _, _, _, _, _, _, _, _] _), (_, Cl [_] _), (_, Cl [_, _, _, _] _)]) hf hg1 => ?_)
      have hg1 := Nat.le_trans hF.size hg1
      have hF := hF.step0 hf
      refine ⟨hp.picks [0, 1, 2, 3, 4] (by decide), ?_⟩
      refine Px_a (i := 3) (by kernel_rfl) rfl (wtd0 rfl) ?_
      refine a_call rfl rfl rfl rfl (jplace_ok gj p.gd { J with next := nx, lasts := ls } _ (hp.picks [3] (by decide)) ⟨hJ.base, hJ.size, hJ.size1, hJ.head⟩ (J.head + k) (by omega)) (fun v w2 ⟨hv, hf⟩ => ?_)
      subst hv
      have hp := hp.keep0 hf
      have hF := hF.step0 hf
      refine ⟨hp.picks [0, 1, 2, 3, 4] (by decide), ?_⟩
      refine Px_a (i := 4) (by kernel_rfl) rfl (wtd0 rfl) ?_
      refine a_call rfl rfl rfl rfl (jcell_ok gj p D { J with next := nx, lasts := ls } _ (hp.picks [0, 1, 2, 3] (by decide)) hD ((J.base + (J.head + k) % J.size : Nat) : Int)) (fun v w3 ⟨hv, hf⟩ => ?_)
      subst hv
      have hp := hp.keep0 hf
      have hF := hF.step0 hf
      refine ⟨hp.picks [0, 1, 2, 3, 4] (by decide), ?_⟩
      refine Px_y (i := 5) rfl (by kernel_rfl) (wtd0 rfl) rfl rfl (y_move rfl rfl) ?_
      refine Px_y (i := 6) rfl (by kernel_rfl) (wtd0 rfl) rfl rfl (y_ext rfl rfl rfl) ?_
      refine Px_y (i := 7) rfl (by kernel_rfl) (wtd0 rfl) rfl rfl (y_ext rfl rfl rfl) ?_
      refine Px_a (i := 9) (by kernel_rfl) rfl (wtd0 rfl) ?_
      first
        | refine a_storew (i := 0) rfl rfl rfl rfl Ty.sz_60 rfl (by first | assumption | (simp [Value.oneCell']; done)) hp rfl rfl (fun w2 (hp : Hp w2 [(_, Cl [_, _, _, _, _] _), _, _, (_, Cl [_, _, _, _, _, _, _, _, _] _), (_, Cl [_] _), (_, Cl [_, _, _, _] _)]) hf _ => ?_)
        | refine a_storew (i := 1) rfl rfl rfl rfl Ty.sz_60 rfl (by first | assumption | (simp [Value.oneCell']; done)) hp rfl rfl (fun w2 (hp : Hp w2 [(_, Cl [_, _, _, _, _] _), _, _, (_, Cl [_, _, _, _, _, _, _, _, _] _), (_, Cl [_] _), (_, Cl [_, _, _, _] _)]) hf _ => ?_)
        | refine a_storew (i := 2) rfl rfl rfl rfl Ty.sz_60 rfl (by first | assumption | (simp [Value.oneCell']; done)) hp rfl rfl (fun w2 (hp : Hp w2 [(_, Cl [_, _, _, _, _] _), _, _, (_, Cl [_, _, _, _, _, _, _, _, _] _), (_, Cl [_] _), (_, Cl [_, _, _, _] _)]) hf _ => ?_)
        | refine a_storew (i := 3) rfl rfl rfl rfl Ty.sz_60 rfl (by first | assumption | (simp [Value.oneCell']; done)) hp rfl rfl (fun w2 (hp : Hp w2 [(_, Cl [_, _, _, _, _] _), _, _, (_, Cl [_, _, _, _, _, _, _, _, _] _), (_, Cl [_] _), (_, Cl [_, _, _, _] _)]) hf _ => ?_)
        | refine a_storew (i := 4) rfl rfl rfl rfl Ty.sz_60 rfl (by first | assumption | (simp [Value.oneCell']; done)) hp rfl rfl (fun w2 (hp : Hp w2 [(_, Cl [_, _, _, _, _] _), _, _, (_, Cl [_, _, _, _, _, _, _, _, _] _), (_, Cl [_] _), (_, Cl [_, _, _, _] _)]) hf _ => ?_)
        | refine a_storew (i := 5) rfl rfl rfl rfl Ty.sz_60 rfl (by first | assumption | (simp [Value.oneCell']; done)) hp rfl rfl (fun w2 (hp : Hp w2 [(_, Cl [_, _, _, _, _] _), _, _, (_, Cl [_, _, _, _, _, _, _, _, _] _), (_, Cl [_] _), (_, Cl [_, _, _, _] _)]) hf _ => ?_)
      have hF := hF.step hf (by intro y hy; simp only [List.mem_cons, List.not_mem_nil, or_false] at hy; subst hy; first | (exact Or.inr (by omega)) | (exact Or.inl (by simp)))
      refine ⟨hp.picks [0, 1, 2, 3, 4] (by decide), ?_⟩
      refine Px_y (i := 10) rfl (by kernel_rfl) (wtd0 rfl) rfl rfl (y_assign rfl rfl) ?_
      refine Px_done (by kernel_rfl) (Th_n (hK9 _ _ ?_))
      refine Wp_seq fun K14 hK14 => ?_
      refine Wp_seq fun K15 hK15 => ?_
      refine Wp_region ?_
      generalize hc : cellAt D ((J.base + (J.head + k) % J.size : Nat) : Int) = oc at hp ⊢
      rcases oc with _ | ⟨g2, q2, f2, d2⟩
      · refine Ls_y (wtd0 rfl) rfl rfl (y_move rfl rfl) ?_
        refine Ls_y (wtd0 rfl) rfl rfl (y_not rfl rfl) ?_
        refine Ls_y (wtd0 rfl) rfl rfl (y_move rfl rfl) ?_
        refine Ls_bool 36 rfl (fun _ => ?_) (fun hc10 => absurd hc10 (by simp))
        refine Ls_s (wtdF rfl rfl rfl) rfl rfl ?_
        refine Ls_s (wtdF rfl rfl rfl) rfl rfl ?_
        refine Ls_s (wtdF rfl rfl rfl) rfl rfl ?_
        refine Ls_s (wtdF rfl rfl rfl) rfl rfl ?_
        refine Ls_y (wtd0 rfl) rfl rfl (y_pick_t rfl rfl rfl) ?_
        refine Ls_y (wtd0 rfl) rfl rfl (y_move rfl rfl) ?_
        refine Ls_s (wtdF rfl rfl rfl) rfl rfl ?_
        refine Ls_s (wtdF rfl rfl rfl) rfl rfl ?_
        refine Ls_s (wtdF rfl rfl rfl) rfl rfl ?_
        refine Ls_s (wtdF rfl rfl rfl) rfl rfl ?_
        refine Ls_y (wtd0 rfl) rfl rfl (y_pick_t rfl rfl rfl) ?_
        refine Ls_y (wtd0 rfl) rfl rfl (y_move rfl rfl) ?_
        refine Ls_s (wtdF rfl rfl rfl) rfl rfl ?_
        refine Ls_s (wtdF rfl rfl rfl) rfl rfl ?_
        refine Ls_s (wtdF rfl rfl rfl) rfl rfl ?_
        refine Ls_s (wtdF rfl rfl rfl) rfl rfl ?_
        refine Ls_y (wtd0 rfl) rfl rfl (y_pick_t rfl rfl rfl) ?_
        refine Ls_nil (Th_n (hK15 _ _ ?_))
        refine Wp_cond_t rfl ?_
        refine Wp_ret (Th_r (Ib_r (Th_r (Th_r (Ib_r (Fq_ret (Res0 rfl) ?_))))))
        left
        rw [hR.stop (runL_none (by omega) hc)]
        exact ⟨N, hK _ _ _ _ hj hF⟩
      · refine Ls_y (wtd0 rfl) rfl rfl (y_move rfl rfl) ?_
        refine Ls_y (wtd0 rfl) rfl rfl (y_not rfl rfl) ?_
        refine Ls_y (wtd0 rfl) rfl rfl (y_move rfl rfl) ?_
        refine Ls_bool 36 rfl (fun hc11 => absurd hc11 (by simp)) (fun _ => ?_)
        refine Ls_y (wtdT rfl rfl rfl) rfl rfl (y_fld rfl rfl Ty.fo_60_1) ?_
        first
          | refine Ls_y (wtdT rfl rfl rfl) rfl rfl (y_load (i := 0) rfl rfl Ty.pl_32 (fun _ e => e ▸ hp) rfl rfl) ?_
          | refine Ls_y (wtdT rfl rfl rfl) rfl rfl (y_load (i := 1) rfl rfl Ty.pl_32 (fun _ e => e ▸ hp) rfl rfl) ?_
          | refine Ls_y (wtdT rfl rfl rfl) rfl rfl (y_load (i := 2) rfl rfl Ty.pl_32 (fun _ e => e ▸ hp) rfl rfl) ?_
          | refine Ls_y (wtdT rfl rfl rfl) rfl rfl (y_load (i := 3) rfl rfl Ty.pl_32 (fun _ e => e ▸ hp) rfl rfl) ?_
          | refine Ls_y (wtdT rfl rfl rfl) rfl rfl (y_load (i := 4) rfl rfl Ty.pl_32 (fun _ e => e ▸ hp) rfl rfl) ?_
          | refine Ls_y (wtdT rfl rfl rfl) rfl rfl (y_load (i := 5) rfl rfl Ty.pl_32 (fun _ e => e ▸ hp) rfl rfl) ?_
        refine Ls_y (wtdT rfl rfl rfl) rfl rfl (y_move rfl rfl) ?_
        refine Ls_y (wtdT rfl rfl rfl) rfl rfl (y_ne rfl rfl rfl) ?_
        refine Ls_bool 40 rfl (fun hq => ?_) (fun hq => ?_)
        all_goals try simp only [decide_eq_true_eq, decide_eq_false_iff_not, beq_iff_eq, bne_iff_ne, ne_eq, beq_eq_false_iff_ne, bne_eq_false_iff_eq, Bool.not_eq_true, Bool.not_eq_false] at hq
        · refine Ls_y (wtd0 rfl) rfl rfl (y_pick_f rfl rfl rfl) ?_
          refine Ls_y (wtd0 rfl) rfl rfl (y_move rfl rfl) ?_
          refine Ls_s (wtdF rfl rfl rfl) rfl rfl ?_
          refine Ls_s (wtdF rfl rfl rfl) rfl rfl ?_
          refine Ls_s (wtdF rfl rfl rfl) rfl rfl ?_
          refine Ls_s (wtdF rfl rfl rfl) rfl rfl ?_
          refine Ls_y (wtd0 rfl) rfl rfl (y_pick_t rfl rfl rfl) ?_
          refine Ls_y (wtd0 rfl) rfl rfl (y_move rfl rfl) ?_
          refine Ls_s (wtdF rfl rfl rfl) rfl rfl ?_
          refine Ls_s (wtdF rfl rfl rfl) rfl rfl ?_
          refine Ls_s (wtdF rfl rfl rfl) rfl rfl ?_
          refine Ls_s (wtdF rfl rfl rfl) rfl rfl ?_
          refine Ls_y (wtd0 rfl) rfl rfl (y_pick_t rfl rfl rfl) ?_
          refine Ls_nil (Th_n (hK15 _ _ ?_))
          refine Wp_cond_t rfl ?_
          refine Wp_ret (Th_r (Ib_r (Th_r (Th_r (Ib_r (Fq_ret (Res0 rfl) ?_))))))
          left
          rw [hR.stop (runL_bad (by omega) hc (fun h => hq h.1))]
          exact ⟨N, hK _ _ _ _ hj hF⟩
        · refine Ls_y (wtd0 rfl) rfl rfl (y_pick_f rfl rfl rfl) ?_
          refine Ls_y (wtd0 rfl) rfl rfl (y_move rfl rfl) ?_
          refine Ls_y (wtdT rfl rfl rfl) rfl rfl (y_fld rfl rfl Ty.fo_60_0) ?_
          first
            | refine Ls_y (wtdT rfl rfl rfl) rfl rfl (y_load (i := 0) rfl rfl Ty.pl_33 (fun _ e => e ▸ hp) rfl rfl) ?_
            | refine Ls_y (wtdT rfl rfl rfl) rfl rfl (y_load (i := 1) rfl rfl Ty.pl_33 (fun _ e => e ▸ hp) rfl rfl) ?_
            | refine Ls_y (wtdT rfl rfl rfl) rfl rfl (y_load (i := 2) rfl rfl Ty.pl_33 (fun _ e => e ▸ hp) rfl rfl) ?_
            | refine Ls_y (wtdT rfl rfl rfl) rfl rfl (y_load (i := 3) rfl rfl Ty.pl_33 (fun _ e => e ▸ hp) rfl rfl) ?_
            | refine Ls_y (wtdT rfl rfl rfl) rfl rfl (y_load (i := 4) rfl rfl Ty.pl_33 (fun _ e => e ▸ hp) rfl rfl) ?_
            | refine Ls_y (wtdT rfl rfl rfl) rfl rfl (y_load (i := 5) rfl rfl Ty.pl_33 (fun _ e => e ▸ hp) rfl rfl) ?_
          refine Ls_y (wtdT rfl rfl rfl) rfl rfl (y_move rfl rfl) ?_
          refine Ls_y (wtdT rfl rfl rfl) rfl rfl (y_lt rfl rfl rfl) ?_
          refine Ls_bool 46 rfl (fun hg => ?_) (fun hg => ?_)
          all_goals try simp only [decide_eq_true_eq, decide_eq_false_iff_not, beq_iff_eq, bne_iff_ne, ne_eq, beq_eq_false_iff_ne, bne_eq_false_iff_eq, Bool.not_eq_true, Bool.not_eq_false] at hg
          · refine Ls_y (wtd0 rfl) rfl rfl (y_pick_f rfl rfl rfl) ?_
            refine Ls_y (wtd0 rfl) rfl rfl (y_move rfl rfl) ?_
            refine Ls_s (wtdF rfl rfl rfl) rfl rfl ?_
            refine Ls_s (wtdF rfl rfl rfl) rfl rfl ?_
            refine Ls_s (wtdF rfl rfl rfl) rfl rfl ?_
            refine Ls_s (wtdF rfl rfl rfl) rfl rfl ?_
            refine Ls_y (wtd0 rfl) rfl rfl (y_pick_t rfl rfl rfl) ?_
            refine Ls_nil (Th_n (hK15 _ _ ?_))
            refine Wp_cond_t rfl ?_
            refine Wp_ret (Th_r (Ib_r (Th_r (Th_r (Ib_r (Fq_ret (Res0 rfl) ?_))))))
            left
            rw [hR.stop (runL_bad (by omega) hc (fun h => by have h4 : g ≤ g2 := h.2; have h3 : g2 < g := hg; omega))]
            exact ⟨N, hK _ _ _ _ hj hF⟩
          · have hg3 : ¬ g2 < g := hg
            have hrl := runL_some (g := g) (n := J.size) (by omega) hc ⟨hq, show g ≤ g2 by omega⟩
            refine Ls_y (wtd0 rfl) rfl rfl (y_pick_f rfl rfl rfl) ?_
            refine Ls_y (wtd0 rfl) rfl rfl (y_move rfl rfl) ?_
            refine Ls_y (wtdT rfl rfl rfl) rfl rfl (y_move rfl rfl) ?_
            first
              | refine Ls_y (wtdT rfl rfl rfl) rfl rfl (y_loadw (i := 0) rfl rfl Ty.ag_60 (fun _ e => e ▸ hp) rfl rfl) ?_
              | refine Ls_y (wtdT rfl rfl rfl) rfl rfl (y_loadw (i := 1) rfl rfl Ty.ag_60 (fun _ e => e ▸ hp) rfl rfl) ?_
              | refine Ls_y (wtdT rfl rfl rfl) rfl rfl (y_loadw (i := 2) rfl rfl Ty.ag_60 (fun _ e => e ▸ hp) rfl rfl) ?_
              | refine Ls_y (wtdT rfl rfl rfl) rfl rfl (y_loadw (i := 3) rfl rfl Ty.ag_60 (fun _ e => e ▸ hp) rfl rfl) ?_
              | refine Ls_y (wtdT rfl rfl rfl) rfl rfl (y_loadw (i := 4) rfl rfl Ty.ag_60 (fun _ e => e ▸ hp) rfl rfl) ?_
              | refine Ls_y (wtdT rfl rfl rfl) rfl rfl (y_loadw (i := 5) rfl rfl Ty.ag_60 (fun _ e => e ▸ hp) rfl rfl) ?_
            refine Ls_yield (wtdT rfl rfl rfl) rfl rfl rfl rfl rfl (hy k N _ _ (hR.at hrl) (hK _ _ _ _ hj hF)) (fun W3 hT => ?_) (fun W3 hT => ?_)
            · obtain ⟨⟨N2, hj3⟩, Y, hf3, hYN⟩ := hT
              have hp := (hp.picks [5] (by decide)).keep hf3 (by intro y hy hyx; have := hYN y hyx; simp [keys, pickL] at hy; omega)
              have hp : Hp W3 [(_, Cl [_, _, _, _] _)] := hp
              have hF := Fr.refl [] W3
              refine Ls_y (wtdT rfl rfl rfl) rfl rfl (y_not rfl rfl) ?_
              refine Ls_y (wtd0 rfl) rfl rfl (y_pick_f rfl rfl rfl) ?_
              refine Ls_nil (Th_n (hK15 _ _ ?_))
              refine Wp_cond_f rfl ?_
              refine Wp_skip (Th_n (hK14 _ _ ?_))
              refine Wp_region ?_
              refine Ls_y (wtd0 rfl) rfl rfl (y_fld rfl rfl Ty.fo_60_0) ?_
              refine Ls_y (wtd0 rfl) rfl rfl (y_load (i := 0) rfl rfl Ty.pl_33 (fun _ e => e ▸ hp) rfl rfl) ?_
              refine Ls_y (wtd0 rfl) rfl rfl (y_assign rfl rfl) ?_
              refine Ls_nil (Ib_n (Th_n (hK6 _ _ ?_)))
              refine Wp_region ?_
              first
                | refine Ls_y (wtd0 rfl) rfl rfl (y_add rfl rfl rfl (w_succ (by omega))) ?_
                | refine Ls_y (wtd0 rfl) rfl rfl (y_add rfl rfl rfl (wf_i64 (by omega))) ?_
                | refine Ls_y (wtd0 rfl) rfl rfl (y_add rfl rfl rfl rfl) ?_
              refine Ls_y (wtd0 rfl) rfl rfl (y_move rfl rfl) ?_
              refine Ls_nil (Th_n (?_))
              exact ⟨J.size - (k + 1), [(0, _), (1, _), (3, _), (15, _), (16, _)], by omega, ⟨rfl, rfl, rfl, rfl, rfl, trivial⟩, k + 1, _, by omega, rfl, rfl, hR.next hrl, N2, hK _ _ _ _ hj3 hF⟩
            · refine Ls_y (wtdT rfl rfl rfl) rfl rfl (y_not rfl rfl) ?_
              refine Ls_y (wtd0 rfl) rfl rfl (y_pick_f rfl rfl rfl) ?_
              refine Ls_nil (Th_n (hK15 _ _ ?_))
              refine Wp_cond_t rfl ?_
              refine Wp_ret (Th_r (Ib_r (Th_r (Th_r (Ib_r (Fq_ret (Res0 rfl) ?_))))))
              exact .inr hT
  · refine Ls_nil (Th_n (hK4 _ _ ?_))
    refine Wp_seq fun K16 hK16 => ?_
    refine Wp_cond_f rfl ?_
    refine Wp_exit (Th_e (Th_e (Ib_hit (Fq_end (Res0 rfl) ?_))))
    obtain rfl : k = J.size := by omega
    left
    rw [hR.stop (by rw [Nat.sub_self]; rfl)]
    exact ⟨N, hj⟩

end Go.Proofs.Ytcpfhnfpokijaaa

/- Walks printed by gen.py out of our own specifications: what the functions named below do. -/
import Derived.Test.YtcpfhnfpokijaaaM6
import Derived.Test.YtcpfhnfpokijaaaSh
set_option linter.unusedSimpArgs false
set_option linter.unusedVariables false
namespace Go.Proofs.Ytcpfhnfpokijaaa
open Go.RowKit


theorem y_cut3E [Dfs] {P : Program} {n : Nat} {env : Env} {S : World → Prop} {o : Oper} {t e m l c g b i j b' l' : Nat} {x lo hi mx : Operand} {kp kq kr : IntKind} (ho : o.op = .slice t x (some lo) (some hi) (some mx)) (hx : env.ev x = some (.slice (some ⟨g, b, none⟩) l c)) (ht : elemSize P t = some (e, m)) (hlo : env.ev lo = some (.int kp (i : Int))) (hhi : env.ev hi = some (.int kq (j : Int))) (hmx : env.ev mx = some (.int kr (j : Int)))
    (h1 : i < j) (h2 : j ≤ c) (hb : b + i * m = b') (hl : j - i = l') : Yld P n env S o (.slice (some ⟨g, b', none⟩) l' l') := by
  subst hb hl
  have := y_cut3 (P := P) (n := n) (S := S) ho hx ht hlo hhi hmx (by omega) (by omega) (by omega) (by omega)
  rw [if_neg (by omega)] at this
  simpa [Addr.add_mid] using this
def chK (n : Nat) : Nat := (n + 49) / 50
abbrev chL (n k : Nat) : Nat := min 50 (n - 50 * k)

set_option maxRecDepth 20000 in
theorem mchunk_ok (A : Option Addr) (l c : Nat) (w : World) : Fn Try.prog 55 [.slice A l c, .int .i64 50] w fun v w' => ∃ gs gn, v = .func (.func 61) #[] #[.pointer (some ⟨gs, 0, none⟩), .pointer (some ⟨gn, 0, none⟩)] ∧ New w w' [(some gs, Cl [.slice A l c] 45), (some gn, Cl [.int .i64 50] 3)] := by
  refine Fn_of 9 Ty.en_55 Try.func55 rfl rfl rfl ?_
  dsimp only [argEnv]
  have hp := Hp.nil w
  have hF := Fr.refl [] w
  refine Wp_seq fun K1 hK1 => ?_
  refine Wp_region ?_
  refine Ls_a (wtd0 rfl) ?_
  refine a_box1 rfl rfl rfl rfl rfl hp (fun g1 w1 (hp : Hp w1 [(_, Cl [_] _)]) hf hg1 => ?_)
  have hg1 := Nat.le_trans hF.size hg1
  have hF := hF.step0 hf
  refine Ls_a (wtd0 rfl) ?_
  refine a_box1 rfl rfl rfl rfl rfl hp (fun g2 w2 (hp : Hp w2 [(_, Cl [_] _), (_, Cl [_] _)]) hf hg2 => ?_)
  have hg2 := Nat.le_trans hF.size hg2
  have hF := hF.step0 hf
  refine Ls_y (wtd0 rfl) rfl rfl (y_assign rfl rfl) ?_
  refine Ls_nil (Th_n (hK1 _ _ ?_))
  refine Wp_seq fun K2 hK2 => ?_
  refine Wp_seq fun K3 hK3 => ?_
  refine Wp_region ?_
  first
    | refine Ls_y (wtd0 rfl) rfl rfl (y_load (i := 0) rfl rfl Ty.pl_3 (fun _ e => e ▸ hp) rfl rfl) ?_
    | refine Ls_y (wtd0 rfl) rfl rfl (y_load (i := 1) rfl rfl Ty.pl_3 (fun _ e => e ▸ hp) rfl rfl) ?_
  refine Ls_y (wtd0 rfl) rfl rfl (y_ltF rfl rfl rfl (by omega)) ?_
  refine Ls_nil (Th_n (hK3 _ _ ?_))
  refine Wp_cond_f rfl ?_
  refine Wp_skip (Th_n (hK2 _ _ ?_))
  refine Wp_seq fun K4 hK4 => ?_
  refine Wp_region ?_
  refine Ls_y (wtd0 rfl) rfl rfl (y_mkfn (fs := []) (cs := [_, _]) rfl rfl rfl) ?_
  refine Ls_y (wtd0 rfl) rfl rfl (y_assign rfl rfl) ?_
  refine Ls_nil (Th_n (hK4 _ _ ?_))
  refine Wp_ret (Fq_ret (Res1 rfl rfl) ?_)
  exact ⟨g1, g2, rfl, ⟨hF, hp, by intro k hk; simp [keys] at hk; omega⟩⟩

set_option maxRecDepth 20000 in
set_option maxHeartbeats 1000000 in
theorem mchunk1_ok (l gs gn g n c : Nat) (w : World) (hn : n ≤ 100000) (hnc : n ≤ c) (J : Nat → World → Prop) (Jx : World → Prop) (hm : ∀ k W, J k W → Hp W [(some gs, Cl [.slice (some ⟨g, 0, none⟩) n c] 45), (some gn, Cl [.int .i64 50] 3)]) (hK : ∀ k W W', J k W → Fr [] W W' → J k W')
    (hy : ∀ k W, k < chK n → J k W → YieldsTo Try.prog l [.slice (some ⟨g, 50 * k, none⟩) (chL n k) (chL n k)] W (J (k + 1)) Jx) (h0 : J 0 w) :
    Fn Try.prog 61 [.func (.yield l) #[] #[], .pointer (some ⟨gs, 0, none⟩), .pointer (some ⟨gn, 0, none⟩)] w fun _ W' => J (chK n) W' ∨ Jx W' := by
  refine Fn_of 31 Ty.en_61 Try.func61 rfl rfl rfl ?_
  dsimp only [argEnv]
  have hp := hm 0 w h0
  have hp : Hp w [(_, Cl [_] _), (_, Cl [_] _)] := hp
  have hF := Fr.refl [] w
  refine Wp_seq fun K1 hK1 => ?_
  refine Wp_region ?_
  refine Ls_y (wtd0 rfl) rfl rfl (y_assign rfl rfl) ?_
  refine Ls_nil (Th_n (hK1 _ _ ?_))
  refine Wp_block ?_
  refine Wp_loopE (fun m e W => ∃ (k : Nat), k ≤ chK n ∧ m = chK n - k ∧ e = [(0, .func (.yield l) #[] #[]), (1, .pointer (some ⟨gs, 0, none⟩)), (2, .pointer (some ⟨gn, 0, none⟩)), (4, .int .i64 ((50 * k : Nat) : Int))] ∧ J k W) (chK n) [(0, _), (1, _), (2, _), (4, _)] ⟨rfl, rfl, rfl, rfl, trivial⟩ ?_ ?_
  · exact ⟨0, by omega, by omega, rfl, h0⟩
  rintro m e W ⟨k, hk, rfl, rfl, hj⟩
  have hp := hm k W hj
  have hp : Hp W [(_, Cl [_] _), (_, Cl [_] _)] := hp
  have hF := Fr.refl [] W
  refine Wp_seq fun K3 hK3 => ?_
  refine Wp_seq fun K4 hK4 => ?_
  refine Wp_region ?_
  refine Ls_y (wtd0 rfl) rfl rfl (y_move rfl rfl) ?_
  first
    | refine Ls_y (wtd0 rfl) rfl rfl (y_load (i := 0) rfl rfl Ty.pl_45 (fun _ e => e ▸ hp) rfl rfl) ?_
    | refine Ls_y (wtd0 rfl) rfl rfl (y_load (i := 1) rfl rfl Ty.pl_45 (fun _ e => e ▸ hp) rfl rfl) ?_
  refine Ls_y (wtd0 rfl) rfl rfl (y_lenl rfl rfl Try.underlying45) ?_
  refine Ls_y (wtd0 rfl) rfl rfl (y_lt rfl rfl rfl) ?_
  refine Ls_bool 9 rfl (fun hlt => ?_) (fun hlt => ?_)
  all_goals try simp only [decide_eq_true_eq, decide_eq_false_iff_not, beq_iff_eq, bne_iff_ne, ne_eq, beq_eq_false_iff_ne, bne_eq_false_iff_eq, Bool.not_eq_true, Bool.not_eq_false] at hlt
  · refine Ls_nil (Th_n (hK4 _ _ ?_))
    have hkn : 50 * k < n := by omega
    have hkK : k < chK n := by unfold chK; omega
    refine Wp_cond_t rfl ?_
    refine Wp_skip (Th_n (hK3 _ _ ?_))
    refine Wp_seq fun K5 hK5 => ?_
    refine Wp_block ?_
    refine Wp_seq fun K6 hK6 => ?_
    refine Wp_plan (fun W => Hp W (heapOf hp)) [(true, 0), (true, 1), (true, 2), (true, 3), (true, 4), (true, 5), (true, 6)] Ty.mx_0 (by kernel_rfl) (by kernel_rfl) rfl (hp.drew) ?_
    have hp := hp.drew
    have hF := hF.step0 (Fr.drew _)
    first
      | refine Pl_y rfl (wtd0 rfl) rfl rfl (y_load (i := 0) rfl rfl Ty.pl_3 (fun _ h => h) rfl rfl) ?_
      | refine Pl_y rfl (wtd0 rfl) rfl rfl (y_load (i := 1) rfl rfl Ty.pl_3 (fun _ h => h) rfl rfl) ?_
    first
      | refine Pl_y rfl (wtd0 rfl) rfl rfl (y_load (i := 0) rfl rfl Ty.pl_45 (fun _ h => h) rfl rfl) ?_
      | refine Pl_y rfl (wtd0 rfl) rfl rfl (y_load (i := 1) rfl rfl Ty.pl_45 (fun _ h => h) rfl rfl) ?_
    refine Pl_y rfl (wtd0 rfl) rfl rfl (y_move rfl rfl) ?_
    refine Pl_y rfl (wtd0 rfl) rfl rfl (y_cutlE (i := 50 * k) (j := n) (b' := 50 * k) (l' := n - 50 * k) rfl rfl Ty.es_45 rfl rfl (by omega) hnc hnc (by omega) (by omega) rfl) ?_
    refine Pl_y rfl (wtd0 rfl) rfl rfl (y_lenl rfl rfl Try.underlying45) ?_
    refine Pl_y rfl (wtd0 rfl) rfl rfl (y_minN (a := 50) rfl rfl rfl) ?_
    refine Pl_y rfl (wtd0 rfl) rfl rfl (y_assign rfl rfl) ?_
    refine Pl_nil (Th_n (hK6 _ _ ?_))
    refine Wp_seq fun K7 hK7 => ?_
    refine Wp_region ?_
    refine Ls_y (wtd0 rfl) rfl rfl (y_move rfl rfl) ?_
    first
      | refine Ls_y (wtd0 rfl) rfl rfl (y_load (i := 0) rfl rfl Ty.pl_45 (fun _ e => e ▸ hp) rfl rfl) ?_
      | refine Ls_y (wtd0 rfl) rfl rfl (y_load (i := 1) rfl rfl Ty.pl_45 (fun _ e => e ▸ hp) rfl rfl) ?_
    refine Ls_y (wtd0 rfl) rfl rfl (y_move rfl rfl) ?_
    refine Ls_y (wtd0 rfl) rfl rfl (y_move rfl rfl) ?_
    refine Ls_y (wtd0 rfl) rfl rfl (y_move rfl rfl) ?_
    refine Ls_y (wtd0 rfl) rfl rfl (y_add (c := ((50 * k + chL n k : Nat) : Int)) rfl rfl rfl (by rw [IntKind.wrap_i64]; simp only [chL]; omega)) ?_
    refine Ls_y (wtd0 rfl) rfl rfl (y_move rfl rfl) ?_
    refine Ls_y (wtd0 rfl) rfl rfl (y_move rfl rfl) ?_
    refine Ls_y (wtd0 rfl) rfl rfl (y_add (c := ((50 * k + chL n k : Nat) : Int)) rfl rfl rfl (by rw [IntKind.wrap_i64]; simp only [chL]; omega)) ?_
    refine Ls_y (wtd0 rfl) rfl rfl (y_cut3E (i := 50 * k) (j := 50 * k + chL n k) (b' := 50 * k) (l' := chL n k) rfl rfl Ty.es_45 rfl rfl rfl (by simp only [chL]; omega) (by simp only [chL]; omega) (by omega) (by omega)) ?_
    refine Ls_yield (wtd0 rfl) rfl rfl rfl rfl rfl (hy k _ hkK (hK _ _ _ hj hF)) (fun W3 hT => ?_) (fun W3 hT => ?_)
    · have hp := hm _ _ hT
      have hp : Hp W3 [(_, Cl [_] _), (_, Cl [_] _)] := hp
      have hF := Fr.refl [] W3
      refine Ls_y (wtd0 rfl) rfl rfl (y_not rfl rfl) ?_
      refine Ls_nil (Th_n (hK7 _ _ ?_))
      refine Wp_cond_f rfl ?_
      refine Wp_skip (Ib_n (Th_n (hK5 _ _ ?_)))
      refine Wp_region ?_
      refine Ls_y (wtd0 rfl) rfl rfl (y_move rfl rfl) ?_
      first
        | refine Ls_y (wtd0 rfl) rfl rfl (y_load (i := 0) rfl rfl Ty.pl_3 (fun _ e => e ▸ hp) rfl rfl) ?_
        | refine Ls_y (wtd0 rfl) rfl rfl (y_load (i := 1) rfl rfl Ty.pl_3 (fun _ e => e ▸ hp) rfl rfl) ?_
      refine Ls_y (wtd0 rfl) rfl rfl (y_add (c := ((50 * (k + 1) : Nat) : Int)) rfl rfl rfl (by rw [IntKind.wrap_i64]; omega)) ?_
      refine Ls_y (wtd0 rfl) rfl rfl (y_assign rfl rfl) ?_
      refine Ls_nil (Th_n (?_))
      exact ⟨chK n - (k + 1), [(0, _), (1, _), (2, _), (4, _)], by omega, ⟨rfl, rfl, rfl, rfl, trivial⟩, k + 1, by omega, rfl, rfl, hT⟩
    · refine Ls_y (wtd0 rfl) rfl rfl (y_not rfl rfl) ?_
      refine Ls_nil (Th_n (hK7 _ _ ?_))
      refine Wp_cond_t rfl ?_
      refine Wp_ret (Ib_r (Th_r (Th_r (Ib_r (Fq_ret (Res0 rfl) ?_)))))
      exact .inr hT
  · refine Ls_nil (Th_n (hK4 _ _ ?_))
    refine Wp_cond_f rfl ?_
    refine Wp_exit (Th_e (Th_e (Ib_hit (Fq_end (Res0 rfl) ?_))))
    obtain rfl : k = chK n := by unfold chK at hk ⊢; omega
    exact .inl hj

end Go.Proofs.Ytcpfhnfpokijaaa

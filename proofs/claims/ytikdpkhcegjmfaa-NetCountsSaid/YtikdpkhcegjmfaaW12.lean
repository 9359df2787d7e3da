/- Walks printed by gen.py out of our own specifications: what the functions named below do. -/
import Derived.Test.YtikdpkhcegjmfaaW11
import Derived.Test.YtikdpkhcegjmfaaRk
set_option linter.unusedSimpArgs false
set_option linter.unusedVariables false
namespace Go.Proofs.Ytikdpkhcegjmfaa
open Go.RowKit


def rkC (p : Dp) (D : Dk) : List Value := [.slice (some ⟨p.gn, 0, none⟩) D.now.length p.cn, .slice (some ⟨p.gl, 0, none⟩) D.lasts.length p.cl, .bool D.armed, .int .i64 D.left, .bool D.down]
/-- The memory of the document's disk. -/
def rkH (p : Dp) (D : Dk) : Heap := [(some p.gd, Cl (rkC p D) 126), (some p.gn, Cl (D.now.map sv ++ p.sn) 9), (some p.gl, Cl (D.lasts.map sv ++ p.sl) 9)]
theorem rk_mod {p : Dp} {D D' : Dk} {w w' : World} {X : List Nat} (hq : Hp w' (rkH p D')) (hF : Fr X w w') (hX : ∀ x ∈ X, x ∈ [p.gd, p.gn, p.gl]) : Mod w w' (rkH p D) (rkH p D') := ⟨hF.mono hX, hq, fun _ hk => .inl hk⟩
theorem noughts_i (n : Nat) (m : Int) (hm : m = (n : Int)) (w : World) (hn : n ≤ 1000000) : Fn Try.prog 71 [.int .i64 m] w fun v w' => v = sv (List.replicate n 0) ∧ w' = w := hm ▸ noughts_ok n w hn
theorem chk_there {D : Dk} {i : Int} (h1 : D.down = false) (h2 : 0 ≤ i ∧ i < (D.now.length : Int)) : chkD D i = 0 := by unfold chkD; rw [if_neg (by simp [h1]), if_neg (by omega)]
theorem chk_off {D : Dk} {i : Int} (h1 : D.down = false) (h2 : ¬ (0 ≤ i ∧ i < (D.now.length : Int))) : chkD D i = 2 := by unfold chkD; rw [if_neg (by simp [h1]), if_pos (by omega)]
theorem chk_dn {D : Dk} {i : Int} (h1 : D.down = true) : chkD D i = 9 := by unfold chkD; rw [if_pos h1]

set_option maxRecDepth 20000 in
theorem rthere_ok (p : Dp) (D : Dk) (w : World) (hp : Hp w (rkH p D)) (i : Int) :
    Fn Try.prog 81 [.pointer (some ⟨p.gd, 0, none⟩), .int .i64 i] w fun v w' => v = .bool (decide (0 ≤ i ∧ i < (D.now.length : Int))) ∧ w' = w := by
  refine Fn_of 16 Ty.en_81 Try.func81 rfl rfl rfl ?_
  dsimp only [argEnv]
  have hp : Hp w [(_, Cl [_, _, _, _, _] _), _, _] := hp
  have hF := Fr.refl [] w
  refine Wp_seq fun K1 hK1 => ?_
  refine Wp_region ?_
  refine Ls_y (wtd0 rfl) rfl rfl (y_assign rfl rfl) ?_
  refine Ls_nil (Th_n (hK1 _ _ ?_))
  refine Wp_seq fun K2 hK2 => ?_
  refine Wp_region ?_
  refine Ls_y (wtd0 rfl) rfl rfl (y_move rfl rfl) ?_
  refine Ls_y (wtd0 rfl) rfl rfl (y_ge rfl rfl rfl) ?_
  refine Ls_bool 6 rfl (fun hc1 => ?_) (fun hc1 => ?_)
  all_goals try simp only [decide_eq_true_eq, decide_eq_false_iff_not, beq_iff_eq, bne_iff_ne, ne_eq, beq_eq_false_iff_ne, bne_eq_false_iff_eq, Bool.not_eq_true, Bool.not_eq_false] at hc1
  · refine Ls_y (wtd0 rfl) rfl rfl (y_move rfl rfl) ?_
    refine Ls_y (wtdT rfl rfl rfl) rfl rfl (y_move rfl rfl) ?_
    refine Ls_y (wtdT rfl rfl rfl) rfl rfl (y_move rfl rfl) ?_
    refine Ls_y (wtdT rfl rfl rfl) rfl rfl (y_nil rfl rfl) ?_
    refine Ls_y (wtdT rfl rfl rfl) rfl rfl (y_fld rfl rfl Ty.fo_126_0) ?_
    first
      | refine Ls_y (wtdT rfl rfl rfl) rfl rfl (y_load (i := 0) rfl rfl Ty.pl_89 (fun _ e => e ▸ hp) rfl rfl) ?_
      | refine Ls_y (wtdT rfl rfl rfl) rfl rfl (y_load (i := 1) rfl rfl Ty.pl_89 (fun _ e => e ▸ hp) rfl rfl) ?_
      | refine Ls_y (wtdT rfl rfl rfl) rfl rfl (y_load (i := 2) rfl rfl Ty.pl_89 (fun _ e => e ▸ hp) rfl rfl) ?_
    refine Ls_y (wtdT rfl rfl rfl) rfl rfl (y_lenl rfl rfl Try.underlying89) ?_
    refine Ls_y (wtdT rfl rfl rfl) rfl rfl (y_lt rfl rfl rfl) ?_
    refine Ls_y (wtd0 rfl) rfl rfl (y_pick_t rfl rfl rfl) ?_
    refine Ls_y (wtd0 rfl) rfl rfl (y_assign rfl rfl) ?_
    refine Ls_nil (Th_n (hK2 _ _ ?_))
    refine Wp_ret (Fq_ret (Res1 rfl rfl) ?_)
    exact ⟨by simp [hc1], rfl⟩
  · refine Ls_y (wtd0 rfl) rfl rfl (y_move rfl rfl) ?_
    refine Ls_s (wtdF rfl rfl rfl) rfl rfl ?_
    refine Ls_s (wtdF rfl rfl rfl) rfl rfl ?_
    refine Ls_s (wtdF rfl rfl rfl) rfl rfl ?_
    refine Ls_s (wtdF rfl rfl rfl) rfl rfl ?_
    refine Ls_s (wtdF rfl rfl rfl) rfl rfl ?_
    refine Ls_s (wtdF rfl rfl rfl) rfl rfl ?_
    refine Ls_s (wtdF rfl rfl rfl) rfl rfl ?_
    refine Ls_y (wtd0 rfl) rfl rfl (y_pick_f rfl rfl rfl) ?_
    refine Ls_y (wtd0 rfl) rfl rfl (y_assign rfl rfl) ?_
    refine Ls_nil (Th_n (hK2 _ _ ?_))
    refine Wp_ret (Fq_ret (Res1 rfl rfl) ?_)
    exact ⟨by simp; omega, rfl⟩

set_option maxRecDepth 20000 in
theorem rstep_ok (p : Dp) (D : Dk) (w : World) (hp : Hp w (rkH p D)) (hd : D.down = false) (hlo : -1 ≤ D.left) (hhi : D.left ≤ 9223372036854775807) :
    Fn Try.prog 82 [.pointer (some ⟨p.gd, 0, none⟩)] w fun v w' => v = .bool (!(rstepD D).down) ∧ Hp w' (rkH p (rstepD D)) ∧ Fr [p.gd] w w' := by
  refine Fn_of 28 Ty.en_82 Try.func82 rfl rfl rfl ?_
  dsimp only [argEnv]
  have hp : Hp w [(_, Cl [_, _, _, _, _] _), _, _] := hp
  have hF := Fr.refl [p.gd] w
  refine Wp_seq fun K1 hK1 => ?_
  refine Wp_region ?_
  refine Ls_y (wtd0 rfl) rfl rfl (y_assign rfl rfl) ?_
  refine Ls_nil (Th_n (hK1 _ _ ?_))
  refine Wp_seq fun K2 hK2 => ?_
  refine Wp_seq fun K3 hK3 => ?_
  refine Wp_region ?_
  refine Ls_y (wtd0 rfl) rfl rfl (y_move rfl rfl) ?_
  refine Ls_y (wtd0 rfl) rfl rfl (y_nil rfl rfl) ?_
  refine Ls_y (wtd0 rfl) rfl rfl (y_fld rfl rfl Ty.fo_126_2) ?_
  first
    | refine Ls_y (wtd0 rfl) rfl rfl (y_load (i := 0) rfl rfl Ty.pl_4 (fun _ e => e ▸ hp) rfl rfl) ?_
    | refine Ls_y (wtd0 rfl) rfl rfl (y_load (i := 1) rfl rfl Ty.pl_4 (fun _ e => e ▸ hp) rfl rfl) ?_
    | refine Ls_y (wtd0 rfl) rfl rfl (y_load (i := 2) rfl rfl Ty.pl_4 (fun _ e => e ▸ hp) rfl rfl) ?_
  refine Ls_y (wtd0 rfl) rfl rfl (y_move rfl rfl) ?_
  refine Ls_bool 7 rfl (fun hc1 => ?_) (fun hc1 => ?_)
  all_goals try simp only [decide_eq_true_eq, decide_eq_false_iff_not, beq_iff_eq, bne_iff_ne, ne_eq, beq_eq_false_iff_ne, bne_eq_false_iff_eq, Bool.not_eq_true, Bool.not_eq_false] at hc1
  · refine Ls_y (wtdT rfl rfl rfl) rfl rfl (y_move rfl rfl) ?_
    refine Ls_y (wtdT rfl rfl rfl) rfl rfl (y_nil rfl rfl) ?_
    refine Ls_y (wtdT rfl rfl rfl) rfl rfl (y_fld rfl rfl Ty.fo_126_3) ?_
    first
      | refine Ls_y (wtdT rfl rfl rfl) rfl rfl (y_load (i := 0) rfl rfl Ty.pl_3 (fun _ e => e ▸ hp) rfl rfl) ?_
      | refine Ls_y (wtdT rfl rfl rfl) rfl rfl (y_load (i := 1) rfl rfl Ty.pl_3 (fun _ e => e ▸ hp) rfl rfl) ?_
      | refine Ls_y (wtdT rfl rfl rfl) rfl rfl (y_load (i := 2) rfl rfl Ty.pl_3 (fun _ e => e ▸ hp) rfl rfl) ?_
    refine Ls_y (wtdT rfl rfl rfl) rfl rfl (y_eq rfl rfl rfl) ?_
    refine Ls_bool 12 rfl (fun hc2 => ?_) (fun hc2 => ?_)
    all_goals try simp only [decide_eq_true_eq, decide_eq_false_iff_not, beq_iff_eq, bne_iff_ne, ne_eq, beq_eq_false_iff_ne, bne_eq_false_iff_eq, Bool.not_eq_true, Bool.not_eq_false] at hc2
    · refine Ls_y (wtd0 rfl) rfl rfl (y_pick_t rfl rfl rfl) ?_
      refine Ls_nil (Th_n (hK3 _ _ ?_))
      refine Wp_cond_t rfl ?_
      refine Wp_seq fun K4 hK4 => ?_
      refine Wp_region ?_
      refine Ls_y (wtd0 rfl) rfl rfl (y_move rfl rfl) ?_
      refine Ls_y (wtd0 rfl) rfl rfl (y_nil rfl rfl) ?_
      refine Ls_y (wtd0 rfl) rfl rfl (y_fld rfl rfl Ty.fo_126_4) ?_
      refine Ls_a (wtd0 rfl) ?_
      first
        | refine a_store (i := 0) rfl rfl rfl rfl rfl Ty.sz_4 rfl hp rfl (by first | decide | (simp; done) | (simp; omega)) (fun w1 (hp : Hp w1 [(_, Cl [_, _, _, _, _] _), _, _]) hf _ => ?_)
        | refine a_store (i := 1) rfl rfl rfl rfl rfl Ty.sz_4 rfl hp rfl (by first | decide | (simp; done) | (simp; omega)) (fun w1 (hp : Hp w1 [(_, Cl [_, _, _, _, _] _), _, _]) hf _ => ?_)
        | refine a_store (i := 2) rfl rfl rfl rfl rfl Ty.sz_4 rfl hp rfl (by first | decide | (simp; done) | (simp; omega)) (fun w1 (hp : Hp w1 [(_, Cl [_, _, _, _, _] _), _, _]) hf _ => ?_)
      have hF := hF.step hf (by intro y hy; simp only [List.mem_cons, List.not_mem_nil, or_false] at hy; subst hy; first | (exact Or.inr (by omega)) | (exact Or.inl (by simp)))
      refine Ls_nil (Th_n (hK4 _ _ ?_))
      refine Wp_seq fun K5 hK5 => ?_
      refine Wp_region ?_
      refine Ls_y (wtd0 rfl) rfl rfl (y_assign rfl rfl) ?_
      refine Ls_nil (Th_n (hK5 _ _ ?_))
      refine Wp_ret (Th_r (Fq_ret (Res1 rfl rfl) ?_))
      exact ⟨by simp [rstepD, hc1, hc2], by rw [rstepD, if_pos ⟨hc1, hc2⟩]; exact hp, hF⟩
    · refine Ls_y (wtd0 rfl) rfl rfl (y_pick_t rfl rfl rfl) ?_
      refine Ls_nil (Th_n (hK3 _ _ ?_))
      refine Wp_cond_f rfl ?_
      refine Wp_skip (Th_n (hK2 _ _ ?_))
      refine Wp_seq fun K6 hK6 => ?_
      refine Wp_seq fun K7 hK7 => ?_
      refine Wp_region ?_
      refine Ls_y (wtd0 rfl) rfl rfl (y_move rfl rfl) ?_
      refine Ls_y (wtd0 rfl) rfl rfl (y_nil rfl rfl) ?_
      refine Ls_y (wtd0 rfl) rfl rfl (y_fld rfl rfl Ty.fo_126_2) ?_
      first
        | refine Ls_y (wtd0 rfl) rfl rfl (y_load (i := 0) rfl rfl Ty.pl_4 (fun _ e => e ▸ hp) rfl rfl) ?_
        | refine Ls_y (wtd0 rfl) rfl rfl (y_load (i := 1) rfl rfl Ty.pl_4 (fun _ e => e ▸ hp) rfl rfl) ?_
        | refine Ls_y (wtd0 rfl) rfl rfl (y_load (i := 2) rfl rfl Ty.pl_4 (fun _ e => e ▸ hp) rfl rfl) ?_
      refine Ls_nil (Th_n (hK7 _ _ ?_))
      refine Wp_bool 20 rfl (fun _ => ?_) (fun hc3 => absurd hc3 (by simp [hc1]))
      refine Wp_cond_t rfl ?_
      refine Wp_region ?_
      refine Ls_y (wtd0 rfl) rfl rfl (y_move rfl rfl) ?_
      refine Ls_y (wtd0 rfl) rfl rfl (y_nil rfl rfl) ?_
      refine Ls_y (wtd0 rfl) rfl rfl (y_fld rfl rfl Ty.fo_126_3) ?_
      first
        | refine Ls_y (wtd0 rfl) rfl rfl (y_load (i := 0) rfl rfl Ty.pl_3 (fun _ e => e ▸ hp) rfl rfl) ?_
        | refine Ls_y (wtd0 rfl) rfl rfl (y_load (i := 1) rfl rfl Ty.pl_3 (fun _ e => e ▸ hp) rfl rfl) ?_
        | refine Ls_y (wtd0 rfl) rfl rfl (y_load (i := 2) rfl rfl Ty.pl_3 (fun _ e => e ▸ hp) rfl rfl) ?_
      first
        | refine Ls_y (wtd0 rfl) rfl rfl (y_sub rfl rfl rfl (w_subN (b := 1) (by first | omega | (simp; omega)) (by first | omega | (simp; omega)))) ?_
        | refine Ls_y (wtd0 rfl) rfl rfl (y_sub rfl rfl rfl (wf_i64 (by omega))) ?_
        | refine Ls_y (wtd0 rfl) rfl rfl (y_sub rfl rfl rfl rfl) ?_
      refine Ls_y (wtd0 rfl) rfl rfl (y_nil rfl rfl) ?_
      refine Ls_y (wtd0 rfl) rfl rfl (y_fld rfl rfl Ty.fo_126_3) ?_
      refine Ls_a (wtd0 rfl) ?_
      first
        | refine a_store (i := 0) rfl rfl rfl rfl rfl Ty.sz_3 rfl hp rfl (by first | decide | (simp; done) | (simp; omega)) (fun w1 (hp : Hp w1 [(_, Cl [_, _, _, _, _] _), _, _]) hf _ => ?_)
        | refine a_store (i := 1) rfl rfl rfl rfl rfl Ty.sz_3 rfl hp rfl (by first | decide | (simp; done) | (simp; omega)) (fun w1 (hp : Hp w1 [(_, Cl [_, _, _, _, _] _), _, _]) hf _ => ?_)
        | refine a_store (i := 2) rfl rfl rfl rfl rfl Ty.sz_3 rfl hp rfl (by first | decide | (simp; done) | (simp; omega)) (fun w1 (hp : Hp w1 [(_, Cl [_, _, _, _, _] _), _, _]) hf _ => ?_)
      have hF := hF.step hf (by intro y hy; simp only [List.mem_cons, List.not_mem_nil, or_false] at hy; subst hy; first | (exact Or.inr (by omega)) | (exact Or.inl (by simp)))
      refine Ls_nil (Th_n (hK6 _ _ ?_))
      refine Wp_seq fun K8 hK8 => ?_
      refine Wp_region ?_
      refine Ls_y (wtd0 rfl) rfl rfl (y_assign rfl rfl) ?_
      refine Ls_nil (Th_n (hK8 _ _ ?_))
      refine Wp_ret (Fq_ret (Res1 rfl rfl) ?_)
      exact ⟨by simp [rstepD, hc1, hc2, hd], by rw [rstepD, if_neg (fun e => hc2 e.2), if_pos hc1]; exact hp, hF⟩
  · refine Ls_s (wtdF rfl rfl rfl) rfl rfl ?_
    refine Ls_s (wtdF rfl rfl rfl) rfl rfl ?_
    refine Ls_s (wtdF rfl rfl rfl) rfl rfl ?_
    refine Ls_s (wtdF rfl rfl rfl) rfl rfl ?_
    refine Ls_s (wtdF rfl rfl rfl) rfl rfl ?_
    refine Ls_y (wtd0 rfl) rfl rfl (y_pick_f rfl rfl rfl) ?_
    refine Ls_nil (Th_n (hK3 _ _ ?_))
    refine Wp_cond_f rfl ?_
    refine Wp_skip (Th_n (hK2 _ _ ?_))
    refine Wp_seq fun K9 hK9 => ?_
    refine Wp_seq fun K10 hK10 => ?_
    refine Wp_region ?_
    refine Ls_y (wtd0 rfl) rfl rfl (y_move rfl rfl) ?_
    refine Ls_y (wtd0 rfl) rfl rfl (y_nil rfl rfl) ?_
    refine Ls_y (wtd0 rfl) rfl rfl (y_fld rfl rfl Ty.fo_126_2) ?_
    first
      | refine Ls_y (wtd0 rfl) rfl rfl (y_load (i := 0) rfl rfl Ty.pl_4 (fun _ e => e ▸ hp) rfl rfl) ?_
      | refine Ls_y (wtd0 rfl) rfl rfl (y_load (i := 1) rfl rfl Ty.pl_4 (fun _ e => e ▸ hp) rfl rfl) ?_
      | refine Ls_y (wtd0 rfl) rfl rfl (y_load (i := 2) rfl rfl Ty.pl_4 (fun _ e => e ▸ hp) rfl rfl) ?_
    refine Ls_nil (Th_n (hK10 _ _ ?_))
    refine Wp_bool 20 rfl (fun hc4 => absurd hc4 (by simp [hc1])) (fun _ => ?_)
    refine Wp_cond_f rfl ?_
    refine Wp_skip (Th_n (hK9 _ _ ?_))
    refine Wp_seq fun K11 hK11 => ?_
    refine Wp_region ?_
    refine Ls_y (wtd0 rfl) rfl rfl (y_assign rfl rfl) ?_
    refine Ls_nil (Th_n (hK11 _ _ ?_))
    refine Wp_ret (Fq_ret (Res1 rfl rfl) ?_)
    exact ⟨by simp [rstepD, hc1, hd], by rw [rstepD, if_neg (fun e => by simp [hc1] at e), if_neg (by simp [hc1])]; exact hp, hF⟩

set_option maxRecDepth 20000 in
theorem rarm_ok (p : Dp) (D : Dk) (w : World) (hp : Hp w (rkH p D)) (i : Int) :
    Fn Try.prog 46 [.pointer (some ⟨p.gd, 0, none⟩), .int .i64 i] w fun v w' => v = .tuple #[] ∧ Mod w w' (rkH p D) (rkH p (armD D i)) := by
  refine Fn_of 12 Ty.en_46 Try.func46 rfl rfl rfl ?_
  dsimp only [argEnv]
  have hp : Hp w [(_, Cl [_, _, _, _, _] _), _, _] := hp
  have hF := Fr.refl [p.gd] w
  refine Wp_seq fun K1 hK1 => ?_
  refine Wp_region ?_
  refine Ls_y (wtd0 rfl) rfl rfl (y_move rfl rfl) ?_
  refine Ls_y (wtd0 rfl) rfl rfl (y_nil rfl rfl) ?_
  refine Ls_y (wtd0 rfl) rfl rfl (y_fld rfl rfl Ty.fo_126_2) ?_
  refine Ls_a (wtd0 rfl) ?_
  first
    | refine a_store (i := 0) rfl rfl rfl rfl rfl Ty.sz_4 rfl hp rfl (by first | decide | (simp; done) | (simp; omega)) (fun w1 (hp : Hp w1 [(_, Cl [_, _, _, _, _] _), _, _]) hf _ => ?_)
    | refine a_store (i := 1) rfl rfl rfl rfl rfl Ty.sz_4 rfl hp rfl (by first | decide | (simp; done) | (simp; omega)) (fun w1 (hp : Hp w1 [(_, Cl [_, _, _, _, _] _), _, _]) hf _ => ?_)
    | refine a_store (i := 2) rfl rfl rfl rfl rfl Ty.sz_4 rfl hp rfl (by first | decide | (simp; done) | (simp; omega)) (fun w1 (hp : Hp w1 [(_, Cl [_, _, _, _, _] _), _, _]) hf _ => ?_)
  have hF := hF.step hf (by intro y hy; simp only [List.mem_cons, List.not_mem_nil, or_false] at hy; subst hy; first | (exact Or.inr (by omega)) | (exact Or.inl (by simp)))
  refine Ls_nil (Th_n (hK1 _ _ ?_))
  refine Wp_region ?_
  refine Ls_y (wtd0 rfl) rfl rfl (y_move rfl rfl) ?_
  refine Ls_y (wtd0 rfl) rfl rfl (y_move rfl rfl) ?_
  refine Ls_y (wtd0 rfl) rfl rfl (y_max rfl rfl rfl) ?_
  refine Ls_y (wtd0 rfl) rfl rfl (y_nil rfl rfl) ?_
  refine Ls_y (wtd0 rfl) rfl rfl (y_fld rfl rfl Ty.fo_126_3) ?_
  refine Ls_a (wtd0 rfl) ?_
  first
    | refine a_store (i := 0) rfl rfl rfl rfl rfl Ty.sz_3 rfl hp rfl (by first | decide | (simp; done) | (simp; omega)) (fun w2 (hp : Hp w2 [(_, Cl [_, _, _, _, _] _), _, _]) hf _ => ?_)
    | refine a_store (i := 1) rfl rfl rfl rfl rfl Ty.sz_3 rfl hp rfl (by first | decide | (simp; done) | (simp; omega)) (fun w2 (hp : Hp w2 [(_, Cl [_, _, _, _, _] _), _, _]) hf _ => ?_)
    | refine a_store (i := 2) rfl rfl rfl rfl rfl Ty.sz_3 rfl hp rfl (by first | decide | (simp; done) | (simp; omega)) (fun w2 (hp : Hp w2 [(_, Cl [_, _, _, _, _] _), _, _]) hf _ => ?_)
  have hF := hF.step hf (by intro y hy; simp only [List.mem_cons, List.not_mem_nil, or_false] at hy; subst hy; first | (exact Or.inr (by omega)) | (exact Or.inl (by simp)))
  refine Ls_nil (Fq_end (Res0 rfl) ?_)
  exact ⟨rfl, rk_mod hp hF (by simp)⟩

set_option maxRecDepth 20000 in
theorem rread_ok (p : Dp) (D : Dk) (w : World) (hp : Hp w (rkH p D)) (hD : DkOk D) (i : Int) :
    Fn Try.prog 87 [.pointer (some ⟨p.gd, 0, none⟩), .int .i64 i] w fun v w' => v = .tuple #[sv (readS D i), .int .i64 (readE D i)] ∧ w' = w := by
  refine Fn_of 23 Ty.en_87 Try.func87 rfl rfl rfl ?_
  dsimp only [argEnv]
  have hp : Hp w [(_, Cl [_, _, _, _, _] _), _, _] := hp
  have hF := Fr.refl [] w
  refine Wp_seq fun K1 hK1 => ?_
  refine Wp_region ?_
  refine Ls_y (wtd0 rfl) rfl rfl (y_assign rfl rfl) ?_
  refine Ls_y (wtd0 rfl) rfl rfl (y_assign rfl rfl) ?_
  refine Ls_nil (Th_n (hK1 _ _ ?_))
  refine Wp_seq fun K2 hK2 => ?_
  refine Wp_block ?_
  refine Wp_seq fun K3 hK3 => ?_
  refine Wp_region ?_
  refine Ls_y (wtd0 rfl) rfl rfl (y_move rfl rfl) ?_
  refine Ls_y (wtd0 rfl) rfl rfl (y_nil rfl rfl) ?_
  refine Ls_y (wtd0 rfl) rfl rfl (y_fld rfl rfl Ty.fo_126_4) ?_
  first
    | refine Ls_y (wtd0 rfl) rfl rfl (y_load (i := 0) rfl rfl Ty.pl_4 (fun _ e => e ▸ hp) rfl rfl) ?_
    | refine Ls_y (wtd0 rfl) rfl rfl (y_load (i := 1) rfl rfl Ty.pl_4 (fun _ e => e ▸ hp) rfl rfl) ?_
    | refine Ls_y (wtd0 rfl) rfl rfl (y_load (i := 2) rfl rfl Ty.pl_4 (fun _ e => e ▸ hp) rfl rfl) ?_
  refine Ls_y (wtd0 rfl) rfl rfl (y_assign rfl rfl) ?_
  refine Ls_nil (Th_n (hK3 _ _ ?_))
  refine Wp_cond rfl (fun hdn => ?_) (fun hdn => ?_)
  all_goals try simp only [decide_eq_true_eq, decide_eq_false_iff_not, beq_iff_eq, bne_iff_ne, ne_eq, beq_eq_false_iff_ne, bne_eq_false_iff_eq, Bool.not_eq_true] at hdn
  · refine Wp_seq fun K4 hK4 => ?_
    refine Wp_region ?_
    refine Ls_y (wtd0 rfl) rfl rfl (y_assign rfl rfl) ?_
    refine Ls_y (wtd0 rfl) rfl rfl (y_assign rfl rfl) ?_
    refine Ls_nil (Th_n (hK4 _ _ ?_))
    refine Wp_ret (Ib_r (Th_r (Fq_ret (Res2 rfl rfl rfl) ?_)))
    exact ⟨by simp [readS, readE, chk_dn hdn], rfl⟩
  · refine Wp_seq fun K5 hK5 => ?_
    refine Wp_region ?_
    refine Ls_y (wtd0 rfl) rfl rfl (y_move rfl rfl) ?_
    refine Ls_y (wtd0 rfl) rfl rfl (y_move rfl rfl) ?_
    refine Ls_a (wtd0 rfl) ?_
    refine a_call rfl rfl rfl rfl (rthere_ok p D _ hp i) (fun v w1 ⟨hv, hw⟩ => ?_)
    subst hv
    subst hw
    refine Ls_y (wtd0 rfl) rfl rfl (y_not rfl rfl) ?_
    refine Ls_y (wtd0 rfl) rfl rfl (y_assign rfl rfl) ?_
    refine Ls_nil (Th_n (hK5 _ _ ?_))
    refine Wp_cond rfl (fun hth => ?_) (fun hth => ?_)
    all_goals try simp only [decide_eq_true_eq, decide_eq_false_iff_not, beq_iff_eq, bne_iff_ne, ne_eq, beq_eq_false_iff_ne, bne_eq_false_iff_eq, Bool.not_eq_true] at hth
    · refine Wp_seq fun K6 hK6 => ?_
      refine Wp_region ?_
      refine Ls_y (wtd0 rfl) rfl rfl (y_assign rfl rfl) ?_
      refine Ls_y (wtd0 rfl) rfl rfl (y_assign rfl rfl) ?_
      refine Ls_nil (Th_n (hK6 _ _ ?_))
      refine Wp_ret (Ib_r (Th_r (Fq_ret (Res2 rfl rfl rfl) ?_)))
      have hz := chk_off (i := i) hdn (by simp at hth; omega)
      exact ⟨by simp [readS, readE, hz], rfl⟩
    · have hth : 0 ≤ i ∧ i < (D.now.length : Int) := by simpa using hth
      obtain ⟨k, rfl⟩ := Int.eq_ofNat_of_zero_le hth.1
      have hk : k < D.now.length := by omega
      have hz := chk_there hdn hth
      have hget := sv_get hk p.sn
      refine Wp_skip (Ib_n (Th_n (hK2 _ _ ?_)))
      refine Wp_seq fun K7 hK7 => ?_
      refine Wp_region ?_
      refine Ls_y (wtd0 rfl) rfl rfl (y_move rfl rfl) ?_
      refine Ls_y (wtd0 rfl) rfl rfl (y_nil rfl rfl) ?_
      refine Ls_y (wtd0 rfl) rfl rfl (y_fld rfl rfl Ty.fo_126_0) ?_
      refine Ls_y (wtd0 rfl) rfl rfl (y_load (i := 0) rfl rfl Ty.pl_89 (fun _ e => e ▸ hp) rfl rfl) ?_
      refine Ls_y (wtd0 rfl) rfl rfl (y_move rfl rfl) ?_
      first
        | refine Ls_y (wtd0 rfl) rfl rfl (y_ixaN rfl rfl rfl Ty.es_89 (by omega)) ?_
        | refine Ls_y (wtd0 rfl) rfl rfl (y_ixa rfl rfl rfl Ty.es_89 (by omega) (by omega)) ?_
      refine Ls_y (wtd0 rfl) rfl rfl (y_load (i := 1) rfl rfl Ty.pl_9 (fun _ e => e ▸ hp) rfl hget) ?_
      refine Ls_y (wtd0 rfl) rfl rfl (y_assign rfl rfl) ?_
      refine Ls_y (wtd0 rfl) rfl rfl (y_assign rfl rfl) ?_
      refine Ls_nil (Th_n (hK7 _ _ ?_))
      refine Wp_ret (Fq_ret (Res2 rfl rfl rfl) ?_)
      exact ⟨by simp [readS, readE, hz, hk], rfl⟩

set_option maxRecDepth 20000 in
theorem rwrite_ok (p : Dp) (D : Dk) (w : World) (hp : Hp w (rkH p D)) (hD : DkOk D) (i : Int) (s : List UInt8) :
    Fn Try.prog 40 [.pointer (some ⟨p.gd, 0, none⟩), .int .i64 i, sv s] w fun v w' => v = .int .i64 (rwriteE D i s) ∧ Mod w w' (rkH p D) (rkH p (rwriteD D i s)) := by
  refine Fn_of 37 Ty.en_40 Try.func40 rfl rfl rfl ?_
  dsimp only [argEnv]
  have hp : Hp w [(_, Cl [_, _, _, _, _] _), _, _] := hp
  have hF := Fr.refl [p.gd, p.gn] w
  refine Wp_seq fun K1 hK1 => ?_
  refine Wp_region ?_
  refine Ls_y (wtd0 rfl) rfl rfl (y_assign rfl rfl) ?_
  refine Ls_nil (Th_n (hK1 _ _ ?_))
  refine Wp_seq fun K2 hK2 => ?_
  refine Wp_block ?_
  refine Wp_seq fun K3 hK3 => ?_
  refine Wp_region ?_
  refine Ls_y (wtd0 rfl) rfl rfl (y_move rfl rfl) ?_
  refine Ls_y (wtd0 rfl) rfl rfl (y_nil rfl rfl) ?_
  refine Ls_y (wtd0 rfl) rfl rfl (y_fld rfl rfl Ty.fo_126_4) ?_
  first
    | refine Ls_y (wtd0 rfl) rfl rfl (y_load (i := 0) rfl rfl Ty.pl_4 (fun _ e => e ▸ hp) rfl rfl) ?_
    | refine Ls_y (wtd0 rfl) rfl rfl (y_load (i := 1) rfl rfl Ty.pl_4 (fun _ e => e ▸ hp) rfl rfl) ?_
    | refine Ls_y (wtd0 rfl) rfl rfl (y_load (i := 2) rfl rfl Ty.pl_4 (fun _ e => e ▸ hp) rfl rfl) ?_
  refine Ls_y (wtd0 rfl) rfl rfl (y_assign rfl rfl) ?_
  refine Ls_nil (Th_n (hK3 _ _ ?_))
  refine Wp_cond rfl (fun hdn => ?_) (fun hdn => ?_)
  all_goals try simp only [decide_eq_true_eq, decide_eq_false_iff_not, beq_iff_eq, bne_iff_ne, ne_eq, beq_eq_false_iff_ne, bne_eq_false_iff_eq, Bool.not_eq_true] at hdn
  · refine Wp_seq fun K4 hK4 => ?_
    refine Wp_region ?_
    refine Ls_y (wtd0 rfl) rfl rfl (y_assign rfl rfl) ?_
    refine Ls_nil (Th_n (hK4 _ _ ?_))
    refine Wp_ret (Ib_r (Th_r (Fq_ret (Res1 rfl rfl) ?_)))
    exact ⟨by simp [rwriteE, chk_dn hdn], rk_mod (by rw [rwriteD, if_pos (by simp [chk_dn hdn])]; exact hp) hF (by simp)⟩
  · refine Wp_seq fun K5 hK5 => ?_
    refine Wp_region ?_
    refine Ls_y (wtd0 rfl) rfl rfl (y_move rfl rfl) ?_
    refine Ls_y (wtd0 rfl) rfl rfl (y_move rfl rfl) ?_
    refine Ls_a (wtd0 rfl) ?_
    refine a_call rfl rfl rfl rfl (rthere_ok p D _ hp i) (fun v w1 ⟨hv, hw⟩ => ?_)
    subst hv
    subst hw
    refine Ls_y (wtd0 rfl) rfl rfl (y_not rfl rfl) ?_
    refine Ls_y (wtd0 rfl) rfl rfl (y_assign rfl rfl) ?_
    refine Ls_nil (Th_n (hK5 _ _ ?_))
    refine Wp_cond rfl (fun hth => ?_) (fun hth => ?_)
    all_goals try simp only [decide_eq_true_eq, decide_eq_false_iff_not, beq_iff_eq, bne_iff_ne, ne_eq, beq_eq_false_iff_ne, bne_eq_false_iff_eq, Bool.not_eq_true] at hth
    · refine Wp_seq fun K6 hK6 => ?_
      refine Wp_region ?_
      refine Ls_y (wtd0 rfl) rfl rfl (y_assign rfl rfl) ?_
      refine Ls_nil (Th_n (hK6 _ _ ?_))
      refine Wp_ret (Ib_r (Th_r (Fq_ret (Res1 rfl rfl) ?_)))
      have hz := chk_off (i := i) hdn (by simp at hth; omega)
      exact ⟨by simp [rwriteE, hz], rk_mod (by rw [rwriteD, if_pos (by simp [hz])]; exact hp) hF (by simp)⟩
    · have hth : 0 ≤ i ∧ i < (D.now.length : Int) := by simpa using hth
      obtain ⟨k, rfl⟩ := Int.eq_ofNat_of_zero_le hth.1
      have hk : k < D.now.length := by omega
      have hz := chk_there hdn hth
      have hz' : ¬ chkD D (k : Int) ≠ 0 := by simp [hz]
      refine Wp_seq fun K7 hK7 => ?_
      refine Wp_region ?_
      refine Ls_y (wtd0 rfl) rfl rfl (y_move rfl rfl) ?_
      refine Ls_y (wtd0 rfl) rfl rfl (y_lens rfl rfl Try.underlying9) ?_
      refine Ls_y (wtd0 rfl) rfl rfl (y_gt rfl rfl rfl) ?_
      refine Ls_bool 20 rfl (fun hlg => ?_) (fun hlg => ?_)
      all_goals try simp only [decide_eq_true_eq, decide_eq_false_iff_not, beq_iff_eq, bne_iff_ne, ne_eq, beq_eq_false_iff_ne, bne_eq_false_iff_eq, Bool.not_eq_true, Bool.not_eq_false] at hlg
      · refine Ls_y (wtd0 rfl) rfl rfl (y_assign rfl rfl) ?_
        refine Ls_nil (Th_n (hK7 _ _ ?_))
        refine Wp_cond_t rfl ?_
        refine Wp_seq fun K8 hK8 => ?_
        refine Wp_region ?_
        refine Ls_y (wtd0 rfl) rfl rfl (y_assign rfl rfl) ?_
        refine Ls_nil (Th_n (hK8 _ _ ?_))
        refine Wp_ret (Ib_r (Th_r (Fq_ret (Res1 rfl rfl) ?_)))
        exact ⟨by rw [rwriteE, if_neg hz', if_pos (by omega)], rk_mod (by rw [rwriteD, if_neg hz', if_pos (by omega)]; exact hp) hF (by simp)⟩
      · refine Ls_y (wtd0 rfl) rfl rfl (y_assign rfl rfl) ?_
        refine Ls_nil (Th_n (hK7 _ _ ?_))
        refine Wp_cond_f rfl ?_
        refine Wp_seq fun K9 hK9 => ?_
        refine Wp_region ?_
        refine Ls_y (wtd0 rfl) rfl rfl (y_move rfl rfl) ?_
        refine Ls_a (wtd0 rfl) ?_
        refine a_call rfl rfl rfl rfl (rstep_ok p D _ hp hdn hD.lo hD.hi) (fun v w2 ⟨hv, hp, hf⟩ => ?_)
        subst hv
        have hF := hF.step hf (by simp)
        have hp : Hp w2 [(_, Cl [_, _, _, _, _] _), _, _] := hp
        refine Ls_y (wtd0 rfl) rfl rfl (y_not rfl rfl) ?_
        refine Ls_y (wtd0 rfl) rfl rfl (y_assign rfl rfl) ?_
        refine Ls_nil (Th_n (hK9 _ _ ?_))
        refine Wp_cond rfl (fun hst => ?_) (fun hst => ?_)
        all_goals try simp only [decide_eq_true_eq, decide_eq_false_iff_not, beq_iff_eq, bne_iff_ne, ne_eq, beq_eq_false_iff_ne, bne_eq_false_iff_eq, Bool.not_eq_true] at hst
        · refine Wp_seq fun K10 hK10 => ?_
          refine Wp_region ?_
          refine Ls_y (wtd0 rfl) rfl rfl (y_assign rfl rfl) ?_
          refine Ls_nil (Th_n (hK10 _ _ ?_))
          refine Wp_ret (Ib_r (Th_r (Fq_ret (Res1 rfl rfl) ?_)))
          exact ⟨by rw [rwriteE, if_neg hz', if_neg (by omega), if_pos (by simpa using hst)], rk_mod (by rw [rwriteD, if_neg hz', if_neg (by omega), if_pos (by simpa using hst)]; exact hp) hF (by simp)⟩
        · have hk2 : k < (rstepD D).now.length := by rw [rstepD_now]; exact hk
          refine Wp_skip (Ib_n (Th_n (hK2 _ _ ?_)))
          refine Wp_seq fun K11 hK11 => ?_
          refine Wp_plan (fun W => Hp W (pickL (heapOf hp) [0])) [(true, 0), (true, 1), (true, 2), (true, 3), (true, 4), (true, 5), (true, 6), (true, 7), (true, 8), (false, 9), (true, 10), (true, 11), (false, 12)] Ty.mx_0 (by kernel_rfl) (by kernel_rfl) rfl ((hp.picks [0] (by decide)).drew) ?_
          have hp := hp.drew
          have hF := hF.step0 (Fr.drew _)
          refine Pl_y rfl (wtd0 rfl) rfl rfl (y_move rfl rfl) ?_
          refine Pl_y rfl (wtd0 rfl) rfl rfl (y_nil rfl rfl) ?_
          refine Pl_y rfl (wtd0 rfl) rfl rfl (y_fld rfl rfl Ty.fo_126_0) ?_
          refine Pl_y rfl (wtd0 rfl) rfl rfl (y_load (i := 0) rfl rfl Ty.pl_89 (fun _ h => h) rfl rfl) ?_
          refine Pl_y rfl (wtd0 rfl) rfl rfl (y_move rfl rfl) ?_
          refine Pl_y rfl (wtd0 rfl) rfl rfl (y_move rfl rfl) ?_
          refine Pl_y rfl (wtd0 rfl) rfl rfl (y_move rfl rfl) ?_
          refine Pl_y rfl (wtd0 rfl) rfl rfl (y_lens rfl rfl Try.underlying9) ?_
          first
            | refine Pl_y rfl (wtd0 rfl) rfl rfl (y_sub rfl rfl rfl (w_subN (a := 64) (by first | omega | (simp; omega)) (by first | omega | (simp; omega)))) ?_
            | refine Pl_y rfl (wtd0 rfl) rfl rfl (y_sub rfl rfl rfl (wf_i64 (by omega))) ?_
            | refine Pl_y rfl (wtd0 rfl) rfl rfl (y_sub rfl rfl rfl rfl) ?_
          refine Pl_a rfl (wtd0 rfl) (by rfl) ?_
          refine a_call rfl rfl rfl rfl (noughts_i (64 - s.length) _ (by omega) _ (by omega)) (fun v w3 ⟨hv, hw⟩ => ?_)
          subst hv
          subst hw
          refine ⟨hp.picks [0] (by decide), ?_⟩
          refine Pl_y rfl (wtd0 rfl) rfl rfl (y_cat rfl rfl rfl (by first | omega | (simp; omega))) ?_
          first
            | refine Pl_y rfl (wtd0 rfl) rfl rfl (y_ixaN rfl rfl rfl Ty.es_89 (by omega)) ?_
            | refine Pl_y rfl (wtd0 rfl) rfl rfl (y_ixa rfl rfl rfl Ty.es_89 (by omega) (by omega)) ?_
          refine Pl_a rfl (wtd0 rfl) (by rfl) ?_
          refine a_store (i := 1) rfl rfl rfl rfl rfl Ty.sz_9 rfl hp rfl (by simp; omega) (fun w5 (hp : Hp w5 [(_, Cl [_, _, _, _, _] _), _, _]) hf _ => ?_)
          have hF := hF.step hf (by intro y hy; simp only [List.mem_cons, List.not_mem_nil, or_false] at hy; subst hy; first | (exact Or.inr (by omega)) | (exact Or.inl (by simp)))
          refine ⟨hp.picks [0] (by decide), ?_⟩
          refine Pl_nil (Th_n (hK11 _ _ ?_))
          have hp : Hp w5 [(_, Cl [_, _, _, _, _] _), _, _] := hp.conv (i := 1) rfl (sv_set hk2 (s ++ List.replicate (64 - s.length) 0) p.sn)
          refine Wp_seq fun K12 hK12 => ?_
          refine Wp_region ?_
          refine Ls_y (wtd0 rfl) rfl rfl (y_assign rfl rfl) ?_
          refine Ls_nil (Th_n (hK12 _ _ ?_))
          refine Wp_ret (Fq_ret (Res1 rfl rfl) ?_)
          refine ⟨by rw [rwriteE, if_neg hz', if_neg (by omega), if_neg (by simpa using hst)], rk_mod ?_ hF (by simp)⟩
          rw [rwriteD, if_neg hz', if_neg (by omega), if_neg (by simpa using hst)]
          simp only [Int.toNat_natCast, rkH, rkC, List.length_set]
          rw [← rstepD_now D]
          exact hp

end Go.Proofs.Ytikdpkhcegjmfaa

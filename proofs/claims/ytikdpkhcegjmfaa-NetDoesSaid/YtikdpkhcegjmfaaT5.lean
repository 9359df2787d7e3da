/- Walks printed by gen2.py out of our own specifications: what the functions named below do. -/
import Derived.Test.YtikdpkhcegjmfaaT4
set_option linter.unusedSimpArgs false
set_option linter.unusedVariables false
namespace Go.Proofs.Ytikdpkhcegjmfaa
open Go.RowKit

set_option maxRecDepth 20000 in
theorem mnew_bad (n : Int) (w : World) (h : n < 1 ∨ 32 < n) :
    Fn Try.prog 18 [.int .i64 n] w fun v w' => v = .tuple #[.pointer none, .int .i64 2] ∧ w' = w := by
  refine Fn_of 14 Ty.en_18 Try.func18 rfl rfl rfl ?_
  dsimp only [argEnv]
  refine Wp_seq fun K1 hK1 => ?_
  refine Wp_region ?_
  refine Ls_y (wtd0 rfl) rfl rfl (y_assign rfl rfl) ?_
  refine Ls_y (wtd0 rfl) rfl rfl (y_assign rfl rfl) ?_
  refine Ls_nil (Th_n (hK1 _ _ ?_))
  refine Wp_seq fun K2 hK2 => ?_
  refine Wp_seq fun K3 hK3 => ?_
  refine Wp_region ?_
  refine Ls_y (wtd0 rfl) rfl rfl (y_move rfl rfl) ?_
  refine Ls_y (wtd0 rfl) rfl rfl (y_lt rfl rfl rfl) ?_
  refine Ls_bool 5 rfl (fun hc1 => ?_) (fun hc1 => ?_)
  all_goals try simp only [decide_eq_true_eq, decide_eq_false_iff_not, beq_iff_eq, bne_iff_ne, ne_eq, beq_eq_false_iff_ne, bne_eq_false_iff_eq, Bool.not_eq_true, Bool.not_eq_false] at hc1
  · refine Ls_y (wtd0 rfl) rfl rfl (y_move rfl rfl) ?_
    refine Ls_s (wtdF rfl rfl rfl) rfl rfl ?_
    refine Ls_s (wtdF rfl rfl rfl) rfl rfl ?_
    refine Ls_y (wtd0 rfl) rfl rfl (y_pick_t rfl rfl rfl) ?_
    refine Ls_nil (Th_n (hK3 _ _ ?_))
    refine Wp_cond_t rfl ?_
    refine Wp_seq fun K4 hK4 => ?_
    refine Wp_region ?_
    refine Ls_y (wtd0 rfl) rfl rfl (y_assign rfl rfl) ?_
    refine Ls_y (wtd0 rfl) rfl rfl (y_assign rfl rfl) ?_
    refine Ls_nil (Th_n (hK4 _ _ ?_))
    refine Wp_ret (Th_r (Fq_ret (Res2 rfl rfl rfl) ?_))
    exact ⟨rfl, rfl⟩
  · refine Ls_y (wtd0 rfl) rfl rfl (y_move rfl rfl) ?_
    refine Ls_y (wtdT rfl rfl rfl) rfl rfl (y_move rfl rfl) ?_
    refine Ls_y (wtdT rfl rfl rfl) rfl rfl (y_gt rfl rfl rfl) ?_
    refine Ls_bool 8 rfl (fun hc2 => ?_) (fun hc2 => ?_)
    all_goals try simp only [decide_eq_true_eq, decide_eq_false_iff_not, beq_iff_eq, bne_iff_ne, ne_eq, beq_eq_false_iff_ne, bne_eq_false_iff_eq, Bool.not_eq_true, Bool.not_eq_false] at hc2
    · refine Ls_y (wtd0 rfl) rfl rfl (y_pick_f rfl rfl rfl) ?_
      refine Ls_nil (Th_n (hK3 _ _ ?_))
      refine Wp_cond_t rfl ?_
      refine Wp_seq fun K5 hK5 => ?_
      refine Wp_region ?_
      refine Ls_y (wtd0 rfl) rfl rfl (y_assign rfl rfl) ?_
      refine Ls_y (wtd0 rfl) rfl rfl (y_assign rfl rfl) ?_
      refine Ls_nil (Th_n (hK5 _ _ ?_))
      refine Wp_ret (Th_r (Fq_ret (Res2 rfl rfl rfl) ?_))
      exact ⟨rfl, rfl⟩
    · exfalso; omega


set_option maxRecDepth 20000 in
theorem netDoesB_ok (X : List Nat) (w : World) (hX : Lo X w) (n : Int) (l : List OpM) (A_l : Option Addr) (c_l : Nat) (h_l : Sld X w A_l l.length c_l 6 (l.flatMap opMC)) (hn : n < 1 ∨ 32 < n) :
    Fn Try.prog 4 [.int .i64 n, .slice A_l l.length c_l] w fun v w' => v = .bool true ∧ Fr [] w w' := by
  refine Fn_of 191 Ty.en_4 Try.func4 rfl rfl rfl ?_
  dsimp only [argEnv]
  have st : St X w [] [kS A_l l.length c_l 6 (l.flatMap opMC)] := (St.nil (X := X) (w := w) hX).addK (kS A_l l.length c_l 6 (l.flatMap opMC)) h_l
  have hF := Fr.refl ([]) w
  have hleA_l := (st.k (i := 0) rfl).le
  refine Wp_seq fun K1 hK1 => ?_
  refine Wp_region ?_
  refine Ls_y (wtd0 rfl) rfl rfl (y_assign rfl rfl) ?_
  refine Ls_nil (Th_n (hK1 _ _ ?_))
  refine Wp_seq fun K2 hK2 => ?_
  refine Wp_region ?_
  refine Ls_y (wtd0 rfl) rfl rfl (y_move rfl rfl) ?_
  refine Ls_a (wtd0 rfl) ?_
  refine a_call rfl rfl rfl rfl (nnew_bad n _ hn) (fun v w1 ⟨hv, hw⟩ => ?_)
  subst hv
  subst hw
  refine Ls_y (wtd0 rfl) rfl rfl (y_move rfl rfl) ?_
  refine Ls_y (wtd0 rfl) rfl rfl (y_ext rfl rfl rfl) ?_
  refine Ls_y (wtd0 rfl) rfl rfl (y_ext rfl rfl rfl) ?_
  refine Ls_y (wtd0 rfl) rfl rfl (y_assign rfl rfl) ?_
  refine Ls_y (wtd0 rfl) rfl rfl (y_assign rfl rfl) ?_
  refine Ls_nil (Th_n (hK2 _ _ ?_))
  refine Wp_seq fun K3 hK3 => ?_
  refine Wp_region ?_
  refine Ls_y (wtd0 rfl) rfl rfl (y_move rfl rfl) ?_
  refine Ls_a (wtd0 rfl) ?_
  refine a_call rfl rfl rfl rfl (mnew_bad n _ hn) (fun v w2 ⟨hv, hw⟩ => ?_)
  subst hv
  subst hw
  refine Ls_y (wtd0 rfl) rfl rfl (y_move rfl rfl) ?_
  refine Ls_y (wtd0 rfl) rfl rfl (y_ext rfl rfl rfl) ?_
  refine Ls_y (wtd0 rfl) rfl rfl (y_ext rfl rfl rfl) ?_
  refine Ls_y (wtd0 rfl) rfl rfl (y_assign rfl rfl) ?_
  refine Ls_y (wtd0 rfl) rfl rfl (y_assign rfl rfl) ?_
  refine Ls_nil (Th_n (hK3 _ _ ?_))
  refine Wp_seq fun K4 hK4 => ?_
  refine Wp_seq fun K5 hK5 => ?_
  refine Wp_region ?_
  refine Ls_y (wtd0 rfl) rfl rfl (y_move rfl rfl) ?_
  refine Ls_y (wtd0 rfl) rfl rfl (y_move rfl rfl) ?_
  refine Ls_y (wtd0 rfl) rfl rfl (y_neF rfl rfl rfl (by decide)) ?_
  refine Ls_y (wtd0 rfl) rfl rfl (y_move rfl rfl) ?_
  refine Ls_y (wtdT rfl rfl rfl) rfl rfl (y_move rfl rfl) ?_
  refine Ls_y (wtdT rfl rfl rfl) rfl rfl (y_neT rfl rfl rfl (by decide)) ?_
  refine Ls_y (wtd0 rfl) rfl rfl (y_pick_f rfl rfl rfl) ?_
  refine Ls_y (wtd0 rfl) rfl rfl (y_move rfl rfl) ?_
  refine Ls_s (wtdF rfl rfl rfl) rfl rfl ?_
  refine Ls_s (wtdF rfl rfl rfl) rfl rfl ?_
  refine Ls_y (wtd0 rfl) rfl rfl (y_pick_t rfl rfl rfl) ?_
  refine Ls_nil (Th_n (hK5 _ _ ?_))
  refine Wp_cond_t rfl ?_
  refine Wp_seq fun K6 hK6 => ?_
  refine Wp_region ?_
  refine Ls_y (wtd0 rfl) rfl rfl (y_move rfl rfl) ?_
  refine Ls_y (wtd0 rfl) rfl rfl (y_move rfl rfl) ?_
  refine Ls_y (wtd0 rfl) rfl rfl (y_eqT rfl rfl rfl (by decide)) ?_
  refine Ls_y (wtd0 rfl) rfl rfl (y_move rfl rfl) ?_
  refine Ls_y (wtdT rfl rfl rfl) rfl rfl (y_move rfl rfl) ?_
  refine Ls_y (wtdT rfl rfl rfl) rfl rfl (y_neT rfl rfl rfl (by decide)) ?_
  refine Ls_y (wtd0 rfl) rfl rfl (y_pick_t rfl rfl rfl) ?_
  refine Ls_y (wtd0 rfl) rfl rfl (y_move rfl rfl) ?_
  refine Ls_y (wtdT rfl rfl rfl) rfl rfl (y_move rfl rfl) ?_
  refine Ls_y (wtdT rfl rfl rfl) rfl rfl (y_eqnp rfl rfl rfl Try.underlying39) ?_
  refine Ls_y (wtd0 rfl) rfl rfl (y_pick_t rfl rfl rfl) ?_
  refine Ls_y (wtd0 rfl) rfl rfl (y_assign rfl rfl) ?_
  refine Ls_nil (Th_n (hK6 _ _ ?_))
  refine Wp_ret (Th_r (Fq_ret (Res1 rfl rfl) ?_))
  exact ⟨rfl, hF⟩

end Go.Proofs.Ytikdpkhcegjmfaa

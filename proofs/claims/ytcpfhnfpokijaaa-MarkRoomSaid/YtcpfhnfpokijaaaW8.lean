/- Walks printed by gen.py out of our own specifications: what the functions named below do. -/
import Derived.Test.YtcpfhnfpokijaaaW7
set_option linter.unusedSimpArgs false
set_option linter.unusedVariables false
namespace Go.Proofs.Ytcpfhnfpokijaaa
open Go.RowKit

set_option maxRecDepth 20000 in
theorem dnew_ok (n : Nat) (w : World) (h1 : 1 ≤ n) (h2 : n ≤ 1024) :
    Fn Try.prog 6 [.int .i64 (n : Int)] w fun v w' => ∃ p : Dp, v = .tuple #[.pointer (some ⟨p.gd, 0, none⟩), .int .i64 0] ∧ New w w' (dkH p (newD n)) ∧ DpOk p (newD n) := by
  refine Fn_of 16 Ty.en_6 Try.func6 rfl rfl rfl ?_
  dsimp only [argEnv]
  have hp := Hp.nil w
  have hF := Fr.refl [] w
  refine Wp_seq fun K1 hK1 => ?_
  refine Wp_region ?_
  refine Ls_y (wtd0 rfl) rfl rfl (y_assign rfl rfl) ?_
  refine Ls_y (wtd0 rfl) rfl rfl (y_assign rfl rfl) ?_
  refine Ls_nil (Th_n (hK1 _ _ ?_))
  refine Wp_seq fun K2 hK2 => ?_
  refine Wp_seq fun K3 hK3 => ?_
  refine Wp_region ?_
  refine Ls_y (wtd0 rfl) rfl rfl (y_move rfl rfl) ?_
  refine Ls_y (wtd0 rfl) rfl rfl (y_ltF rfl rfl rfl (by omega)) ?_
  refine Ls_y (wtd0 rfl) rfl rfl (y_move rfl rfl) ?_
  refine Ls_y (wtdT rfl rfl rfl) rfl rfl (y_move rfl rfl) ?_
  refine Ls_y (wtdT rfl rfl rfl) rfl rfl (y_gtF rfl rfl rfl (by omega)) ?_
  refine Ls_y (wtd0 rfl) rfl rfl (y_pick_f rfl rfl rfl) ?_
  refine Ls_nil (Th_n (hK3 _ _ ?_))
  refine Wp_cond_f rfl ?_
  refine Wp_skip (Th_n (hK2 _ _ ?_))
  refine Wp_seq fun K4 hK4 => ?_
  refine Wp_px (fun W => Hp W (pickL (heapOf hp) [])) 8 rfl Ty.mx_0 (hp.picks [] (by decide)).drew ?_
  have hp := hp.drew
  have hF := hF.step0 (Fr.drew _)
  refine Px_y (i := 0) rfl (by kernel_rfl) (wtd0 rfl) rfl rfl (y_move rfl rfl) ?_
  refine Px_y (i := 2) rfl (by kernel_rfl) (wtd0 rfl) rfl rfl (y_move rfl rfl) ?_
  refine Px_a2 (i := 1) (j := 3) (by kernel_rfl) rfl (wtd0 rfl) rfl (wtd0 rfl) ?_ ?_
  · refine a_mksl rfl rfl rfl rfl rfl Ty.es_49 Ty.zc_82 rfl Ty.by_82 (Nat.le_refl _) (by omega) (by omega) hp (fun ga wa (hp : Hp wa [_]) hf hga => ?_)
    have hga := Nat.le_trans hF.size hga
    have hF := hF.step0 hf
    refine ⟨hp.picks [] (by decide), ?_⟩
    refine Px_str (fun W => Hp W (pickL (heapOf hp) [0])) (fun _ h => h.picks [] (by decide)) (hp.picks [0] (by decide)) ?_
    refine Px_a (i := 3) (by kernel_rfl) rfl (wtd0 rfl) ?_
    refine a_mksl rfl rfl rfl rfl rfl Ty.es_49 Ty.zc_82 rfl Ty.by_82 (Nat.le_refl _) (by omega) (by omega) hp (fun gb wb (hp : Hp wb [_, _]) hf hgb => ?_)
    have hgb := Nat.le_trans hF.size hgb
    have hF := hF.step0 hf
    refine ⟨hp.picks [0] (by decide), ?_⟩
    refine Px_str (fun W => Hp W (pickL (heapOf hp) [0, 1])) (fun _ h => h.picks [0] (by decide)) (hp.picks [0, 1] (by decide)) ?_
    refine Px_y (i := 4) rfl (by kernel_rfl) (wtd0 rfl) rfl rfl (y_build (cells := [_, _, _, _, _]) rfl rfl Ty.zc_51 Ty.ps_51 rfl) ?_
    refine Px_a (i := 5) (by kernel_rfl) rfl (wtd0 rfl) ?_
    refine a_box rfl rfl rfl rfl hp (fun g1 w1 (hp : Hp w1 [_, _, (_, Cl [_, _, _, _, _] _)]) hf hg1 => ?_)
    have hg1 := Nat.le_trans hF.size hg1
    have hF := hF.step0 hf
    refine ⟨hp.picks [0, 1] (by decide), ?_⟩
    refine Px_str (fun W => Hp W (pickL (heapOf hp) [0, 1, 2])) (fun _ h => h.picks [0, 1] (by decide)) (hp.picks [0, 1, 2] (by decide)) ?_
    refine Px_y (i := 6) rfl (by kernel_rfl) (wtd0 rfl) rfl rfl (y_assign rfl rfl) ?_
    refine Px_y (i := 7) rfl (by kernel_rfl) (wtd0 rfl) rfl rfl (y_assign rfl rfl) ?_
    refine Px_done (by kernel_rfl) (Th_n (hK4 _ _ ?_))
    refine Wp_ret (Fq_ret (Res2 rfl rfl rfl) ?_)
    have hz := rowsV_zero n
    have hq : Hp w1 (dkH ⟨g1, ga, gb, n, n, [], []⟩ (newD n)) := by
      have hh := hp.picks [2, 0, 1] (by decide)
      simp only [dkH, dkC, newD, List.length_replicate, List.append_nil, ← hz]
      exact hh
    refine ⟨⟨g1, ga, gb, n, n, [], []⟩, rfl, ⟨hF, hq, fun k hk => ?_⟩, ?_⟩
    · simp only [dkH, keys, List.filterMap_cons, List.filterMap_nil, List.mem_cons, List.not_mem_nil, or_false] at hk
      rcases hk with rfl | rfl | rfl <;> assumption
    · have hl := rowsV_len (newD_ok h1 h2).now
      have hl2 := rowsV_len (newD_ok h1 h2).lasts
      refine ⟨by simp [newD], by simpa [newD] using hl, by simp [newD], by simpa [newD] using hl2, by unfold maxLen; simp only; omega, by unfold maxLen; simp only; omega⟩
  · refine a_mksl rfl rfl rfl rfl rfl Ty.es_49 Ty.zc_82 rfl Ty.by_82 (Nat.le_refl _) (by omega) (by omega) hp (fun ga wa (hp : Hp wa [_]) hf hga => ?_)
    have hga := Nat.le_trans hF.size hga
    have hF := hF.step0 hf
    refine ⟨hp.picks [] (by decide), ?_⟩
    refine Px_str (fun W => Hp W (pickL (heapOf hp) [0])) (fun _ h => h.picks [] (by decide)) (hp.picks [0] (by decide)) ?_
    refine Px_a (i := 1) (by kernel_rfl) rfl (wtd0 rfl) ?_
    refine a_mksl rfl rfl rfl rfl rfl Ty.es_49 Ty.zc_82 rfl Ty.by_82 (Nat.le_refl _) (by omega) (by omega) hp (fun gb wb (hp : Hp wb [_, _]) hf hgb => ?_)
    have hgb := Nat.le_trans hF.size hgb
    have hF := hF.step0 hf
    refine ⟨hp.picks [0] (by decide), ?_⟩
    refine Px_str (fun W => Hp W (pickL (heapOf hp) [0, 1])) (fun _ h => h.picks [0] (by decide)) (hp.picks [0, 1] (by decide)) ?_
    refine Px_y (i := 4) rfl (by kernel_rfl) (wtd0 rfl) rfl rfl (y_build (cells := [_, _, _, _, _]) rfl rfl Ty.zc_51 Ty.ps_51 rfl) ?_
    refine Px_a (i := 5) (by kernel_rfl) rfl (wtd0 rfl) ?_
    refine a_box rfl rfl rfl rfl hp (fun g1 w1 (hp : Hp w1 [_, _, (_, Cl [_, _, _, _, _] _)]) hf hg1 => ?_)
    have hg1 := Nat.le_trans hF.size hg1
    have hF := hF.step0 hf
    refine ⟨hp.picks [0, 1] (by decide), ?_⟩
    refine Px_str (fun W => Hp W (pickL (heapOf hp) [0, 1, 2])) (fun _ h => h.picks [0, 1] (by decide)) (hp.picks [0, 1, 2] (by decide)) ?_
    refine Px_y (i := 6) rfl (by kernel_rfl) (wtd0 rfl) rfl rfl (y_assign rfl rfl) ?_
    refine Px_y (i := 7) rfl (by kernel_rfl) (wtd0 rfl) rfl rfl (y_assign rfl rfl) ?_
    refine Px_done (by kernel_rfl) (Th_n (hK4 _ _ ?_))
    refine Wp_ret (Fq_ret (Res2 rfl rfl rfl) ?_)
    have hz := rowsV_zero n
    have hq : Hp w1 (dkH ⟨g1, gb, ga, n, n, [], []⟩ (newD n)) := by
      have hh := hp.picks [2, 1, 0] (by decide)
      simp only [dkH, dkC, newD, List.length_replicate, List.append_nil, ← hz]
      exact hh
    refine ⟨⟨g1, gb, ga, n, n, [], []⟩, rfl, ⟨hF, hq, fun k hk => ?_⟩, ?_⟩
    · simp only [dkH, keys, List.filterMap_cons, List.filterMap_nil, List.mem_cons, List.not_mem_nil, or_false] at hk
      rcases hk with rfl | rfl | rfl <;> assumption
    · have hl := rowsV_len (newD_ok h1 h2).now
      have hl2 := rowsV_len (newD_ok h1 h2).lasts
      refine ⟨by simp [newD], by simpa [newD] using hl, by simp [newD], by simpa [newD] using hl2, by unfold maxLen; simp only; omega, by unfold maxLen; simp only; omega⟩

set_option maxRecDepth 20000 in
theorem dnew_bad (n : Int) (w : World) (h : n < 1 ∨ 1024 < n) :
    Fn Try.prog 6 [.int .i64 n] w fun v w' => v = .tuple #[.pointer none, .int .i64 2] ∧ w' = w := by
  refine Fn_of 16 Ty.en_6 Try.func6 rfl rfl rfl ?_
  dsimp only [argEnv]
  refine Wp_seq fun K1 hK1 => ?_
  refine Wp_region ?_
  refine Ls_y (wtd0 rfl) rfl rfl (y_assign rfl rfl) ?_
  refine Ls_y (wtd0 rfl) rfl rfl (y_assign rfl rfl) ?_
  refine Ls_nil (Th_n (hK1 _ _ ?_))
  refine Wp_seq fun K2 hK2 => ?_
  refine Wp_seq fun K3 hK3 => ?_
  refine Wp_region ?_
  refine Ls_y (wtd0 rfl) rfl rfl (y_move rfl rfl) ?_
  refine Ls_y (wtd0 rfl) rfl rfl (y_lt rfl rfl rfl) ?_
  refine Ls_bool 5 rfl (fun hc1 => ?_) (fun hc1 => ?_)
  all_goals try simp only [decide_eq_true_eq, decide_eq_false_iff_not, beq_iff_eq, bne_iff_ne, ne_eq, beq_eq_false_iff_ne, bne_eq_false_iff_eq, Bool.not_eq_true, Bool.not_eq_false] at hc1
  · refine Ls_y (wtd0 rfl) rfl rfl (y_move rfl rfl) ?_
    refine Ls_s (wtdF rfl rfl rfl) rfl rfl ?_
    refine Ls_s (wtdF rfl rfl rfl) rfl rfl ?_
    refine Ls_y (wtd0 rfl) rfl rfl (y_pick_t rfl rfl rfl) ?_
    refine Ls_nil (Th_n (hK3 _ _ ?_))
    refine Wp_cond_t rfl ?_
    refine Wp_seq fun K4 hK4 => ?_
    refine Wp_region ?_
    refine Ls_y (wtd0 rfl) rfl rfl (y_assign rfl rfl) ?_
    refine Ls_y (wtd0 rfl) rfl rfl (y_assign rfl rfl) ?_
    refine Ls_nil (Th_n (hK4 _ _ ?_))
    refine Wp_ret (Th_r (Fq_ret (Res2 rfl rfl rfl) ?_))
    exact ⟨rfl, rfl⟩
  · refine Ls_y (wtd0 rfl) rfl rfl (y_move rfl rfl) ?_
    refine Ls_y (wtdT rfl rfl rfl) rfl rfl (y_move rfl rfl) ?_
    refine Ls_y (wtdT rfl rfl rfl) rfl rfl (y_gt rfl rfl rfl) ?_
    refine Ls_bool 8 rfl (fun hc2 => ?_) (fun hc2 => ?_)
    all_goals try simp only [decide_eq_true_eq, decide_eq_false_iff_not, beq_iff_eq, bne_iff_ne, ne_eq, beq_eq_false_iff_ne, bne_eq_false_iff_eq, Bool.not_eq_true, Bool.not_eq_false] at hc2
    · refine Ls_y (wtd0 rfl) rfl rfl (y_pick_f rfl rfl rfl) ?_
      refine Ls_nil (Th_n (hK3 _ _ ?_))
      refine Wp_cond_t rfl ?_
      refine Wp_seq fun K5 hK5 => ?_
      refine Wp_region ?_
      refine Ls_y (wtd0 rfl) rfl rfl (y_assign rfl rfl) ?_
      refine Ls_y (wtd0 rfl) rfl rfl (y_assign rfl rfl) ?_
      refine Ls_nil (Th_n (hK5 _ _ ?_))
      refine Wp_ret (Th_r (Fq_ret (Res2 rfl rfl rfl) ?_))
      exact ⟨rfl, rfl⟩
    · exfalso; omega

end Go.Proofs.Ytcpfhnfpokijaaa

/- Walks printed by gen.py out of our own specifications: what the functions named below do. -/
import Derived.Test.YtikdpkhcegjmfaaW13
import Derived.Test.YtikdpkhcegjmfaaSf
set_option linter.unusedSimpArgs false
set_option linter.unusedVariables false
namespace Go.Proofs.Ytikdpkhcegjmfaa
open Go.RowKit

set_option maxRecDepth 20000 in
set_option maxHeartbeats 800000 in
theorem rnew_ok (n : Nat) (w : World) (h1 : 1 ≤ n) (h2 : n ≤ 1024) :
    Fn Try.prog 37 [.int .i64 (n : Int)] w fun v w' => ∃ p : Dp, v = .tuple #[.pointer (some ⟨p.gd, 0, none⟩), .int .i64 0] ∧ New w w' (rkH p (newD n)) := by
  refine Fn_of 40 Ty.en_37 Try.func37 rfl rfl rfl ?_
  dsimp only [argEnv]
  have hp := Hp.nil w
  have hF := Fr.refl [] w
  refine Wp_seq fun K1 hK1 => ?_
  refine Wp_region ?_
  refine Ls_y (wtd0 rfl) rfl rfl (y_assign rfl rfl) ?_
  refine Ls_y (wtd0 rfl) rfl rfl (y_assign rfl rfl) ?_
  refine Ls_nil (Th_n (hK1 _ _ ?_))
  refine Wp_seq fun K2 hK2 => ?_
  refine Wp_seq fun K3 hK3 => ?_
  refine Wp_region ?_
  refine Ls_y (wtd0 rfl) rfl rfl (y_move rfl rfl) ?_
  refine Ls_y (wtd0 rfl) rfl rfl (y_ltF rfl rfl rfl (by omega)) ?_
  refine Ls_y (wtd0 rfl) rfl rfl (y_move rfl rfl) ?_
  refine Ls_y (wtdT rfl rfl rfl) rfl rfl (y_move rfl rfl) ?_
  refine Ls_y (wtdT rfl rfl rfl) rfl rfl (y_gtF rfl rfl rfl (by omega)) ?_
  refine Ls_y (wtd0 rfl) rfl rfl (y_pick_f rfl rfl rfl) ?_
  refine Ls_nil (Th_n (hK3 _ _ ?_))
  refine Wp_cond_f rfl ?_
  refine Wp_skip (Th_n (hK2 _ _ ?_))
  refine Wp_seq fun K4 hK4 => ?_
  refine Wp_region ?_
  refine Ls_y (wtd0 rfl) rfl rfl (y_build (cells := [_, _, _, _, _]) rfl rfl Ty.zc_126 Ty.ps_126 rfl) ?_
  refine Ls_a (wtd0 rfl) ?_
  refine a_box rfl rfl rfl rfl hp (fun g1 w1 (hp : Hp w1 [(_, Cl [_, _, _, _, _] _)]) hf hg1 => ?_)
  have hg1 := Nat.le_trans hF.size hg1
  have hF := hF.step0 hf
  refine Ls_y (wtd0 rfl) rfl rfl (y_assign rfl rfl) ?_
  refine Ls_nil (Th_n (hK4 _ _ ?_))
  refine Wp_seq fun K5 hK5 => ?_
  refine Wp_seq fun K6 hK6 => ?_
  refine Wp_region ?_
  refine Ls_y (wtd0 rfl) rfl rfl (y_assign rfl rfl) ?_
  refine Ls_nil (Th_n (hK6 _ _ ?_))
  refine Wp_block ?_
  refine Wp_loopE (fun m e W => ∃ (k : Nat) (A B : Option Addr) (ca cb : Nat) (sa sb : List Value), k ≤ n ∧ m = n - k ∧ e = [(0, .int .i64 (n : Int)), (4, .pointer (some ⟨g1, 0, none⟩)), (5, .int .i64 (k : Int))] ∧
    Ow A k ca 1 ((List.replicate k zero64).map sv) sa ∧ Ow B k cb 1 ((List.replicate k zero64).map sv) sb ∧
    Hp W [(some g1, Cl [.slice A k ca, .slice B k cb, .bool false, .int .i64 0, .bool false] 126), (blkOf A, Cl ((List.replicate k zero64).map sv ++ sa) 9), (blkOf B, Cl ((List.replicate k zero64).map sv ++ sb) 9)] ∧ Fr [] w W ∧
    (∀ g, blkOf A = some g → w.heap.size ≤ g) ∧ (∀ g, blkOf B = some g → w.heap.size ≤ g)) (n) [(0, _), (4, _), (5, _)] ⟨rfl, rfl, rfl, trivial⟩ ?_ ?_
  · exact ⟨0, none, none, 0, 0, [], [], by omega, by omega, rfl, Ow.nil 1, Ow.nil 1, (hp.addNone _).addNone _, hF, fun g e => (by cases e), fun g e => (by cases e)⟩
  rintro m e W ⟨k, A, B, ca, cb, sa, sb, hk, rfl, rfl, howA, howB, hp, hF, hA, hB⟩
  refine Wp_seq fun K8 hK8 => ?_
  refine Wp_seq fun K9 hK9 => ?_
  refine Wp_region ?_
  refine Ls_y (wtd0 rfl) rfl rfl (y_move rfl rfl) ?_
  refine Ls_y (wtd0 rfl) rfl rfl (y_move rfl rfl) ?_
  refine Ls_y (wtd0 rfl) rfl rfl (y_lt rfl rfl rfl) ?_
  refine Ls_bool 16 rfl (fun hlt => ?_) (fun hlt => ?_)
  all_goals try simp only [decide_eq_true_eq, decide_eq_false_iff_not, beq_iff_eq, bne_iff_ne, ne_eq, beq_eq_false_iff_ne, bne_eq_false_iff_eq, Bool.not_eq_true, Bool.not_eq_false] at hlt
  · refine Ls_nil (Th_n (hK9 _ _ ?_))
    refine Wp_cond_t rfl ?_
    refine Wp_skip (Th_n (hK8 _ _ ?_))
    refine Wp_seq fun K10 hK10 => ?_
    refine Wp_block ?_
    refine Wp_seq fun K11 hK11 => ?_
    refine Wp_planF (fun W => Hp W (pickL (heapOf hp) [0])) [(true, 0), (true, 1), (true, 2), (true, 3), (true, 4), (false, 5), (false, 6), (false, 7), (true, 8), (true, 9)] 10 Ty.mx_0 (by kernel_rfl) (by kernel_rfl) (by kernel_rfl) rfl ((hp.picks [0] (by decide)).drew) ?_
    have hp := hp.drew
    have hF := hF.step0 (Fr.drew _)
    refine Pl_y rfl (wtd0 rfl) rfl rfl (y_move rfl rfl) ?_
    refine Pl_y rfl (wtd0 rfl) rfl rfl (y_move rfl rfl) ?_
    refine Pl_y rfl (wtd0 rfl) rfl rfl (y_nil rfl rfl) ?_
    refine Pl_y rfl (wtd0 rfl) rfl rfl (y_fld rfl rfl Ty.fo_126_0) ?_
    refine Pl_y rfl (wtd0 rfl) rfl rfl (y_load (i := 0) rfl rfl Ty.pl_89 (fun _ h => h) rfl rfl) ?_
    refine Pl_a rfl (wtd0 rfl) (by rfl) ?_
    refine a_call rfl rfl rfl rfl (noughts_i 64 _ rfl _ (by decide)) (fun v wx1 ⟨hv, hw⟩ => ?_)
    subst hv
    subst hw
    refine ⟨hp.picks [0] (by decide), ?_⟩
    refine Pl_a rfl (wtd0 rfl) (by rfl) ?_
    refine a_bsl rfl rfl rfl rfl rfl Ty.es_89 Ty.zc_9 rfl (by decide) (by simp [Value.cells]) hp (fun gx wx2 (hp : Hp wx2 [(_, Cl [_, _, _, _, _] _), _, _, (_, Cl [_] _)]) hf hgx => ?_)
    have hgx := Nat.le_trans hF.size hgx
    have hF := hF.step0 hf
    refine ⟨hp.picks [0] (by decide), ?_⟩
    refine Pl_a rfl (wtd0 rfl) (by rfl) ?_
    refine a_append (i := 1) rfl rfl rfl rfl rfl rfl Ty.es_89 Ty.zc_9 rfl Ty.by_9 (by decide) howA hp rfl rfl (src_of (range_all (i := 3) hp rfl)) (by simp) (by simp [Value.oneCell']) (by unfold maxLen; omega) (by omega) (fun A' ca' sa' wx3 howA' (hp : Hp wx3 [(_, Cl [_, _, _, _, _] _), _, _, _]) hf hnx => ?_)
    have hszx := hF.size
    have hF := hF.step hf (fun y hy => Or.inr (hA y (by simpa using hy)))
    refine ⟨hp.picks [0] (by decide), ?_⟩
    refine Pl_y rfl (wtd0 rfl) rfl rfl (y_nil rfl rfl) ?_
    refine Pl_y rfl (wtd0 rfl) rfl rfl (y_fld rfl rfl Ty.fo_126_0) ?_
    refine Pl_nil (Fin_a rfl (wtd0 rfl) ?_)
    refine a_store (i := 0) rfl rfl rfl rfl rfl Ty.sz_89 rfl hp rfl (by simp) (fun wx4 (hp : Hp wx4 [(_, Cl [_, _, _, _, _] _), _, _, _]) hf _ => ?_)
    have hF := hF.step hf (fun y hy => Or.inr (by simp at hy; subst hy; exact hg1))
    refine id (Th_n (hK11 _ _ ?_))
    have hp : Hp wx4 [(_, Cl [_, _, _, _, _] _), _, _] := hp.picks [0, 1, 2] (by decide)
    refine Wp_planF (fun W => Hp W (pickL (heapOf hp) [0])) [(true, 0), (true, 1), (true, 2), (true, 3), (true, 4), (false, 5), (false, 6), (false, 7), (true, 8), (true, 9)] 10 Ty.mx_0 (by kernel_rfl) (by kernel_rfl) (by kernel_rfl) rfl ((hp.picks [0] (by decide)).drew) ?_
    have hp := hp.drew
    have hF := hF.step0 (Fr.drew _)
    refine Pl_y rfl (wtd0 rfl) rfl rfl (y_move rfl rfl) ?_
    refine Pl_y rfl (wtd0 rfl) rfl rfl (y_move rfl rfl) ?_
    refine Pl_y rfl (wtd0 rfl) rfl rfl (y_nil rfl rfl) ?_
    refine Pl_y rfl (wtd0 rfl) rfl rfl (y_fld rfl rfl Ty.fo_126_1) ?_
    refine Pl_y rfl (wtd0 rfl) rfl rfl (y_load (i := 0) rfl rfl Ty.pl_89 (fun _ h => h) rfl rfl) ?_
    refine Pl_a rfl (wtd0 rfl) (by rfl) ?_
    refine a_call rfl rfl rfl rfl (noughts_i 64 _ rfl _ (by decide)) (fun v wy1 ⟨hv, hw⟩ => ?_)
    subst hv
    subst hw
    refine ⟨hp.picks [0] (by decide), ?_⟩
    refine Pl_a rfl (wtd0 rfl) (by rfl) ?_
    refine a_bsl rfl rfl rfl rfl rfl Ty.es_89 Ty.zc_9 rfl (by decide) (by simp [Value.cells]) hp (fun gy wy2 (hp : Hp wy2 [(_, Cl [_, _, _, _, _] _), _, _, (_, Cl [_] _)]) hf hgy => ?_)
    have hgy := Nat.le_trans hF.size hgy
    have hF := hF.step0 hf
    refine ⟨hp.picks [0] (by decide), ?_⟩
    refine Pl_a rfl (wtd0 rfl) (by rfl) ?_
    refine a_append (i := 2) rfl rfl rfl rfl rfl rfl Ty.es_89 Ty.zc_9 rfl Ty.by_9 (by decide) howB hp rfl rfl (src_of (range_all (i := 3) hp rfl)) (by simp) (by simp [Value.oneCell']) (by unfold maxLen; omega) (by omega) (fun B' cb' sb' wy3 howB' (hp : Hp wy3 [(_, Cl [_, _, _, _, _] _), _, _, _]) hf hny => ?_)
    have hszy := hF.size
    have hF := hF.step hf (fun y hy => Or.inr (hB y (by simpa using hy)))
    refine ⟨hp.picks [0] (by decide), ?_⟩
    refine Pl_y rfl (wtd0 rfl) rfl rfl (y_nil rfl rfl) ?_
    refine Pl_y rfl (wtd0 rfl) rfl rfl (y_fld rfl rfl Ty.fo_126_1) ?_
    refine Pl_nil (Fin_a rfl (wtd0 rfl) ?_)
    refine a_store (i := 0) rfl rfl rfl rfl rfl Ty.sz_89 rfl hp rfl (by simp) (fun wy4 (hp : Hp wy4 [(_, Cl [_, _, _, _, _] _), _, _, _]) hf _ => ?_)
    have hF := hF.step hf (fun y hy => Or.inr (by simp at hy; subst hy; exact hg1))
    refine id (Ib_n (Th_n (hK10 _ _ ?_)))
    have hp : Hp wy4 [(_, Cl [_, _, _, _, _] _), _, _] := hp.picks [0, 1, 2] (by decide)
    refine Wp_region ?_
    refine Ls_y (wtd0 rfl) rfl rfl (y_move rfl rfl) ?_
    first
      | refine Ls_y (wtd0 rfl) rfl rfl (y_add rfl rfl rfl (w_succ (by omega))) ?_
      | refine Ls_y (wtd0 rfl) rfl rfl (y_add rfl rfl rfl (wf_i64 (by omega))) ?_
      | refine Ls_y (wtd0 rfl) rfl rfl (y_add rfl rfl rfl rfl) ?_
    refine Ls_y (wtd0 rfl) rfl rfl (y_assign rfl rfl) ?_
    refine Ls_nil (Th_n (?_))
    have e3 : (List.replicate k zero64).map sv ++ [sv (List.replicate 64 0)] = (List.replicate (k + 1) zero64).map sv := by rw [List.replicate_succ' (n := k), List.map_append]; rfl
    rw [e3] at howA' howB'
    refine ⟨n - (k + 1), [(0, _), (4, _), (5, _)], by omega, ⟨rfl, rfl, rfl, trivial⟩, k + 1, A', B', ca', cb', sa', sb', by omega, rfl, rfl, howA', howB', ?_, hF, ?_, ?_⟩
    · rw [← e3]; exact hp
    · intro g hg
      rcases hnx g hg with h | h
      · exact hA g h
      · exact Nat.le_trans hszx h
    · intro g hg
      rcases hny g hg with h | h
      · exact hB g h
      · exact Nat.le_trans hszy h
  · refine Ls_nil (Th_n (hK9 _ _ ?_))
    refine Wp_cond_f rfl ?_
    refine Wp_exit (Th_e (Th_e (Ib_hit (Th_n (hK5 _ _ ?_)))))
    refine Wp_seq fun K12 hK12 => ?_
    refine Wp_region ?_
    refine Ls_y (wtd0 rfl) rfl rfl (y_move rfl rfl) ?_
    refine Ls_y (wtd0 rfl) rfl rfl (y_assign rfl rfl) ?_
    refine Ls_y (wtd0 rfl) rfl rfl (y_assign rfl rfl) ?_
    refine Ls_nil (Th_n (hK12 _ _ ?_))
    refine Wp_ret (Fq_ret (Res2 rfl rfl rfl) ?_)
    obtain rfl : k = n := by omega
    obtain ⟨ga, rfl⟩ := howA.some_ h1
    obtain ⟨gb, rfl⟩ := howB.some_ h1
    refine ⟨⟨g1, ga, gb, ca, cb, sa, sb⟩, rfl, ⟨hF, ?_, fun x hx => ?_⟩⟩
    · simp only [rkH, rkC, newD, List.length_replicate]
      exact hp
    · simp only [rkH, keys, List.filterMap_cons, List.filterMap_nil, List.mem_cons, List.not_mem_nil, or_false] at hx
      rcases hx with rfl | rfl | rfl
      · exact hg1
      · exact hA _ rfl
      · exact hB _ rfl

set_option maxRecDepth 20000 in
theorem rnew_bad (n : Int) (w : World) (h : n < 1 ∨ 1024 < n) :
    Fn Try.prog 37 [.int .i64 n] w fun v w' => v = .tuple #[.pointer none, .int .i64 2] ∧ w' = w := by
  refine Fn_of 40 Ty.en_37 Try.func37 rfl rfl rfl ?_
  dsimp only [argEnv]
  refine Wp_seq fun K1 hK1 => ?_
  refine Wp_region ?_
  refine Ls_y (wtd0 rfl) rfl rfl (y_assign rfl rfl) ?_
  refine Ls_y (wtd0 rfl) rfl rfl (y_assign rfl rfl) ?_
  refine Ls_nil (Th_n (hK1 _ _ ?_))
  refine Wp_seq fun K2 hK2 => ?_
  refine Wp_seq fun K3 hK3 => ?_
  refine Wp_region ?_
  refine Ls_y (wtd0 rfl) rfl rfl (y_move rfl rfl) ?_
  refine Ls_y (wtd0 rfl) rfl rfl (y_lt rfl rfl rfl) ?_
  refine Ls_bool 7 rfl (fun hc1 => ?_) (fun hc1 => ?_)
  all_goals try simp only [decide_eq_true_eq, decide_eq_false_iff_not, beq_iff_eq, bne_iff_ne, ne_eq, beq_eq_false_iff_ne, bne_eq_false_iff_eq, Bool.not_eq_true, Bool.not_eq_false] at hc1
  · refine Ls_y (wtd0 rfl) rfl rfl (y_move rfl rfl) ?_
    refine Ls_s (wtdF rfl rfl rfl) rfl rfl ?_
    refine Ls_s (wtdF rfl rfl rfl) rfl rfl ?_
    refine Ls_y (wtd0 rfl) rfl rfl (y_pick_t rfl rfl rfl) ?_
    refine Ls_nil (Th_n (hK3 _ _ ?_))
    refine Wp_cond_t rfl ?_
    refine Wp_seq fun K4 hK4 => ?_
    refine Wp_region ?_
    refine Ls_y (wtd0 rfl) rfl rfl (y_assign rfl rfl) ?_
    refine Ls_y (wtd0 rfl) rfl rfl (y_assign rfl rfl) ?_
    refine Ls_nil (Th_n (hK4 _ _ ?_))
    refine Wp_ret (Th_r (Fq_ret (Res2 rfl rfl rfl) ?_))
    exact ⟨rfl, rfl⟩
  · refine Ls_y (wtd0 rfl) rfl rfl (y_move rfl rfl) ?_
    refine Ls_y (wtdT rfl rfl rfl) rfl rfl (y_move rfl rfl) ?_
    refine Ls_y (wtdT rfl rfl rfl) rfl rfl (y_gt rfl rfl rfl) ?_
    refine Ls_bool 10 rfl (fun hc2 => ?_) (fun hc2 => ?_)
    all_goals try simp only [decide_eq_true_eq, decide_eq_false_iff_not, beq_iff_eq, bne_iff_ne, ne_eq, beq_eq_false_iff_ne, bne_eq_false_iff_eq, Bool.not_eq_true, Bool.not_eq_false] at hc2
    · refine Ls_y (wtd0 rfl) rfl rfl (y_pick_f rfl rfl rfl) ?_
      refine Ls_nil (Th_n (hK3 _ _ ?_))
      refine Wp_cond_t rfl ?_
      refine Wp_seq fun K5 hK5 => ?_
      refine Wp_region ?_
      refine Ls_y (wtd0 rfl) rfl rfl (y_assign rfl rfl) ?_
      refine Ls_y (wtd0 rfl) rfl rfl (y_assign rfl rfl) ?_
      refine Ls_nil (Th_n (hK5 _ _ ?_))
      refine Wp_ret (Th_r (Fq_ret (Res2 rfl rfl rfl) ?_))
      exact ⟨rfl, rfl⟩
    · exfalso; omega

end Go.Proofs.Ytikdpkhcegjmfaa

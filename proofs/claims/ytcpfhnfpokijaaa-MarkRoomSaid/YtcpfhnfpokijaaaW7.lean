/- Walks printed by gen.py out of our own specifications: what the functions named below do. -/
import Derived.Test.YtcpfhnfpokijaaaW6
set_option linter.unusedSimpArgs false
set_option linter.unusedVariables false
namespace Go.Proofs.Ytcpfhnfpokijaaa
open Go.RowKit

set_option maxRecDepth 20000 in
set_option maxHeartbeats 400000 in
theorem ddirty_ok (p : Dp) (D : Dk) (w : World) (hp : Hp w (dkH p D)) (hD : DkOk D) :
    Fn Try.prog 41 [.pointer (some ⟨p.gd, 0, none⟩)] w fun v w' => SlNew w w' 3 1 (dirtyD D).length ((dirtyD D).map natV) v := by
  refine Fn_of 34 Ty.en_41 Try.func41 rfl rfl rfl ?_
  dsimp only [argEnv]
  have hp : Hp w [(_, Cl [_, _, _, _, _] _), _, _] := hp
  have hF := Fr.refl [] w
  refine Wp_seq fun K1 hK1 => ?_
  refine Wp_region ?_
  refine Ls_y (wtd0 rfl) rfl rfl (y_assign rfl rfl) ?_
  refine Ls_nil (Th_n (hK1 _ _ ?_))
  refine Wp_seq fun K2 hK2 => ?_
  refine Wp_region ?_
  refine Ls_y (wtd0 rfl) rfl rfl (y_assign rfl rfl) ?_
  refine Ls_nil (Th_n (hK2 _ _ ?_))
  refine Wp_seq fun K3 hK3 => ?_
  refine Wp_seq fun K4 hK4 => ?_
  refine Wp_region ?_
  refine Ls_y (wtd0 rfl) rfl rfl (y_move rfl rfl) ?_
  refine Ls_y (wtd0 rfl) rfl rfl (y_nil rfl rfl) ?_
  refine Ls_y (wtd0 rfl) rfl rfl (y_fld rfl rfl Ty.fo_51_0) ?_
  first
    | refine Ls_y (wtd0 rfl) rfl rfl (y_load (i := 0) rfl rfl Ty.pl_49 (fun _ e => e ▸ hp) rfl rfl) ?_
    | refine Ls_y (wtd0 rfl) rfl rfl (y_load (i := 1) rfl rfl Ty.pl_49 (fun _ e => e ▸ hp) rfl rfl) ?_
    | refine Ls_y (wtd0 rfl) rfl rfl (y_load (i := 2) rfl rfl Ty.pl_49 (fun _ e => e ▸ hp) rfl rfl) ?_
  refine Ls_y (wtd0 rfl) rfl rfl (y_lenl rfl rfl Try.underlying49) ?_
  refine Ls_y (wtd0 rfl) rfl rfl (y_move rfl rfl) ?_
  refine Ls_nil (Th_n (hK4 _ _ ?_))
  refine Wp_block ?_
  refine Wp_loopE (fun m e W => ∃ (k : Nat) (A : Option Addr) (c : Nat) (sp : List Value), k ≤ D.now.length ∧ m = D.now.length - k ∧ e = [(0, .pointer (some ⟨p.gd, 0, none⟩)), (3, .slice A (dirtyTo D k).length c), (9, .int .i64 (D.now.length : Int)), (10, .int .i64 (k : Int))] ∧ Ow A (dirtyTo D k).length c 1 ((dirtyTo D k).map natV) sp ∧
    Hp W (dkH p D ++ [(blkOf A, Cl ((dirtyTo D k).map natV ++ sp) 3)]) ∧ Fr [] w W ∧ (∀ g, blkOf A = some g → w.heap.size ≤ g)) (D.now.length) [(0, _), (3, _), (9, _), (10, _)] ⟨rfl, rfl, rfl, rfl, trivial⟩ ?_ ?_
  · exact ⟨0, none, 0, [], by omega, by omega, rfl, Ow.nil 1, hp.addNone _, Fr.refl _ _, fun g e => by cases e⟩
  rintro m e W ⟨k, A, c, sp, hk, rfl, rfl, how, hp, hF, hA⟩
  have hmost := hD.most
  have hdl := dirtyTo_le D k
  have hp : Hp W [(_, Cl [_, _, _, _, _] _), _, _, _] := hp
  refine Wp_seq fun K6 hK6 => ?_
  refine Wp_region ?_
  refine Ls_y (wtd0 rfl) rfl rfl (y_lt rfl rfl rfl) ?_
  refine Ls_bool 11 rfl (fun hlt => ?_) (fun hlt => ?_)
  all_goals try simp only [decide_eq_true_eq, decide_eq_false_iff_not, beq_iff_eq, bne_iff_ne, ne_eq, beq_eq_false_iff_ne, bne_eq_false_iff_eq, Bool.not_eq_true, Bool.not_eq_false] at hlt
  · refine Ls_nil (Th_n (hK6 _ _ ?_))
    have hkn : k < D.now.length := by omega
    have hkl : k < D.lasts.length := by have := hD.len; omega
    have hr1 : (D.now[k]).length = 64 := hD.now _ (List.getElem_mem hkn)
    have hr2 : (D.lasts[k]).length = 64 := hD.lasts _ (List.getElem_mem hkl)
    refine Wp_seq fun K7 hK7 => ?_
    refine Wp_cond_t rfl ?_
    refine Wp_skip (Th_n (hK7 _ _ ?_))
    refine Wp_seq fun K8 hK8 => ?_
    refine Wp_block ?_
    refine Wp_seq fun K9 hK9 => ?_
    refine Wp_region ?_
    refine Ls_y (wtd0 rfl) rfl rfl (y_move rfl rfl) ?_
    refine Ls_y (wtd0 rfl) rfl rfl (y_assign rfl rfl) ?_
    refine Ls_nil (Th_n (hK9 _ _ ?_))
    refine Wp_seq fun K10 hK10 => ?_
    refine Wp_plan (fun W => Hp W (heapOf hp)) [(true, 0), (true, 1), (true, 2), (true, 3), (true, 4), (true, 5), (true, 6), (true, 7), (true, 8), (true, 9), (true, 10), (true, 11), (true, 12), (true, 13), (true, 14)] Ty.mx_0 (by kernel_rfl) (by kernel_rfl) rfl (hp.drew) ?_
    have hp := hp.drew
    have hF := hF.step0 (Fr.drew _)
    refine Pl_y rfl (wtd0 rfl) rfl rfl (y_move rfl rfl) ?_
    refine Pl_y rfl (wtd0 rfl) rfl rfl (y_nil rfl rfl) ?_
    refine Pl_y rfl (wtd0 rfl) rfl rfl (y_fld rfl rfl Ty.fo_51_0) ?_
    refine Pl_y rfl (wtd0 rfl) rfl rfl (y_load (i := 0) rfl rfl Ty.pl_49 (fun _ h => h) rfl rfl) ?_
    refine Pl_y rfl (wtd0 rfl) rfl rfl (y_move rfl rfl) ?_
    first
      | refine Pl_y rfl (wtd0 rfl) rfl rfl (y_ixaN rfl rfl rfl Ty.es_49 (by omega)) ?_
      | refine Pl_y rfl (wtd0 rfl) rfl rfl (y_ixa rfl rfl rfl Ty.es_49 (by omega) (by omega)) ?_
    refine Pl_y rfl (wtd0 rfl) rfl rfl (y_loadm (i := 1) rfl rfl Ty.ag_82 (fun _ h => h) rfl (rowsV_get0 hD.now hkn p.sn) (by simpa using hr1)) ?_
    refine Pl_y rfl (wtd0 rfl) rfl rfl (y_move rfl rfl) ?_
    refine Pl_y rfl (wtd0 rfl) rfl rfl (y_nil rfl rfl) ?_
    refine Pl_y rfl (wtd0 rfl) rfl rfl (y_fld rfl rfl Ty.fo_51_1) ?_
    refine Pl_y rfl (wtd0 rfl) rfl rfl (y_load (i := 0) rfl rfl Ty.pl_49 (fun _ h => h) rfl rfl) ?_
    refine Pl_y rfl (wtd0 rfl) rfl rfl (y_move rfl rfl) ?_
    first
      | refine Pl_y rfl (wtd0 rfl) rfl rfl (y_ixaN rfl rfl rfl Ty.es_49 (by omega)) ?_
      | refine Pl_y rfl (wtd0 rfl) rfl rfl (y_ixa rfl rfl rfl Ty.es_49 (by omega) (by omega)) ?_
    refine Pl_y rfl (wtd0 rfl) rfl rfl (y_loadm (i := 2) rfl rfl Ty.ag_82 (fun _ h => h) rfl (rowsV_get0 hD.lasts hkl p.sl) (by simpa using hr2)) ?_
    refine Pl_y rfl (wtd0 rfl) rfl rfl (y_nearr rfl rfl rfl Try.underlying82 Try.underlying5 Ty.sz_5 Ty.eg_82 hr1 hr2) ?_
    refine Pl_nil (Th_n (hK10 _ _ ?_))
    refine Wp_cond rfl (fun hne => ?_) (fun hne => ?_)
    all_goals try simp only [decide_eq_true_eq, decide_eq_false_iff_not, beq_iff_eq, bne_iff_ne, ne_eq, beq_eq_false_iff_ne, bne_eq_false_iff_eq, Bool.not_eq_true] at hne
    · refine Wp_region ?_
      refine Ls_y (wtd0 rfl) rfl rfl (y_move rfl rfl) ?_
      refine Ls_y (wtd0 rfl) rfl rfl (y_move rfl rfl) ?_
      refine Ls_a (wtd0 rfl) ?_
      refine a_bsl rfl rfl rfl rfl rfl Ty.es_79 Ty.zc_3 rfl (by decide) (by simp [Value.cells]) hp (fun g2 w2 (hp : Hp w2 [(_, Cl [_, _, _, _, _] _), _, _, _, (_, Cl [_] _)]) hf hg2 => ?_)
      have hg2 := Nat.le_trans hF.size hg2
      have hF := hF.step0 hf
      refine Ls_a (wtd0 rfl) ?_
      refine a_append (i := 3) rfl rfl rfl rfl rfl rfl Ty.es_79 Ty.zc_3 rfl Ty.by_3 (by decide) how hp rfl rfl (src_of (range_all (i := 4) hp rfl)) (by simp) (by simp [Value.oneCell']) (by unfold maxLen; omega) (by omega) (fun A' c' sp' w3 how' (hp : Hp w3 [(_, Cl [_, _, _, _, _] _), _, _, _, _]) hf hnw => ?_)
      have hsz := hF.size
      have hF := hF.step hf (fun y hy => Or.inr (hA y (by simpa using hy)))
      refine Ls_y (wtd0 rfl) rfl rfl (y_assign rfl rfl) ?_
      refine Ls_nil (Ib_n (Th_n (hK8 _ _ ?_)))
      refine Wp_region ?_
      first
        | refine Ls_y (wtd0 rfl) rfl rfl (y_add rfl rfl rfl (w_succ (by omega))) ?_
        | refine Ls_y (wtd0 rfl) rfl rfl (y_add rfl rfl rfl (wf_i64 (by omega))) ?_
        | refine Ls_y (wtd0 rfl) rfl rfl (y_add rfl rfl rfl rfl) ?_
      refine Ls_y (wtd0 rfl) rfl rfl (y_move rfl rfl) ?_
      refine Ls_nil (Th_n (?_))
      have e1 : dirtyTo D (k + 1) = dirtyTo D k ++ [k] := dirtyTo_yes hkn hkl (by simpa using hne)
      have e2 : (dirtyTo D k).length + 1 = (dirtyTo D (k + 1)).length := by rw [e1]; simp
      have e3 : (dirtyTo D k).map natV ++ [natV k] = (dirtyTo D (k + 1)).map natV := by rw [e1]; simp
      refine ⟨D.now.length - (k + 1), [(0, _), (3, .slice A' (dirtyTo D (k + 1)).length c'), (9, _), (10, _)], by omega, ⟨rfl, by rw [← e2]; rfl, rfl, rfl, trivial⟩, k + 1, A', c', sp', by omega, rfl, rfl, ?_, ?_, hF, ?_⟩
      · rw [← e2, ← e3]; exact how'
      · rw [← e3]; exact hp.picks [0, 1, 2, 3] (by decide)
      · intro g hg
        rcases hnw g hg with h | h
        · exact hA g h
        · omega
    · refine Wp_skip (Ib_n (Th_n (hK8 _ _ ?_)))
      refine Wp_region ?_
      first
        | refine Ls_y (wtd0 rfl) rfl rfl (y_add rfl rfl rfl (w_succ (by omega))) ?_
        | refine Ls_y (wtd0 rfl) rfl rfl (y_add rfl rfl rfl (wf_i64 (by omega))) ?_
        | refine Ls_y (wtd0 rfl) rfl rfl (y_add rfl rfl rfl rfl) ?_
      refine Ls_y (wtd0 rfl) rfl rfl (y_move rfl rfl) ?_
      refine Ls_nil (Th_n (?_))
      have e1 : dirtyTo D (k + 1) = dirtyTo D k := dirtyTo_no hkn hkl (by simpa using hne)
      exact ⟨D.now.length - (k + 1), [(0, _), (3, _), (9, _), (10, _)], by omega, ⟨rfl, rfl, rfl, rfl, trivial⟩, k + 1, A, c, sp, by omega, rfl, by rw [e1], by rw [e1]; exact how, by rw [e1]; exact hp, hF, hA⟩
  · refine Ls_nil (Th_n (hK6 _ _ ?_))
    refine Wp_seq fun K11 hK11 => ?_
    refine Wp_cond_f rfl ?_
    refine Wp_exit (Th_e (Th_e (Ib_hit (Th_n (hK3 _ _ ?_)))))
    refine Wp_seq fun K12 hK12 => ?_
    refine Wp_region ?_
    refine Ls_y (wtd0 rfl) rfl rfl (y_move rfl rfl) ?_
    refine Ls_y (wtd0 rfl) rfl rfl (y_assign rfl rfl) ?_
    refine Ls_nil (Th_n (hK12 _ _ ?_))
    refine Wp_ret (Fq_ret (Res1 rfl rfl) ?_)
    have ek : k = D.now.length := by omega
    subst ek
    exact ⟨A, c, sp, rfl, how, hF, hp.picks [3] (by decide), fun g hg => by
      obtain ⟨i, o, hi⟩ := mem_keys.1 hg
      match i, hi with
      | 0, hi => simp at hi; exact hA g hi.1
      | i + 1, hi => simp at hi⟩

end Go.Proofs.Ytcpfhnfpokijaaa

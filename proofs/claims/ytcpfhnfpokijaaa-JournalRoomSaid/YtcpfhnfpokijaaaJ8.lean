/- Walks printed by gen.py out of our own specifications: what the functions named below do. -/
import Derived.Test.YtcpfhnfpokijaaaJ7
set_option linter.unusedSimpArgs false
set_option linter.unusedVariables false
namespace Go.Proofs.Ytcpfhnfpokijaaa
open Go.RowKit


theorem sv_get {xs : List (List UInt8)} {k : Nat} (sp : List Value) (hk : k < xs.length) : (xs.map sv ++ sp)[0 + k * 1]? = some (sv xs[k]) := by
  rw [Nat.zero_add, Nat.mul_one, List.getElem?_append_left (by simpa using hk), List.getElem?_map, List.getElem?_eq_getElem hk]
  rfl

set_option maxRecDepth 20000 in
theorem same_ok (xs ys : List (List UInt8)) (A B : Option Addr) (cA cB : Nat) (spA spB : List Value) (w : World) (hA : Ow A xs.length cA 1 (xs.map sv) spA) (hB : Ow B ys.length cB 1 (ys.map sv) spB) (hl : xs.length ≤ 1000000) (hl2 : ys.length ≤ 1000000)
    (hp : Hp w [(blkOf A, Cl (xs.map sv ++ spA) 9), (blkOf B, Cl (ys.map sv ++ spB) 9)]) :
    Fn Try.prog 12 [.slice A xs.length cA, .slice B ys.length cB] w fun v w' => v = .bool (decide (xs = ys)) ∧ Fr [] w w' := by
  refine Fn_of 26 Ty.en_12 Try.func12 rfl rfl rfl ?_
  dsimp only [argEnv]
  have hp : Hp w [_, _] := hp
  have hF := Fr.refl [] w
  refine Wp_seq fun K1 hK1 => ?_
  refine Wp_region ?_
  refine Ls_y (wtd0 rfl) rfl rfl (y_assign rfl rfl) ?_
  refine Ls_nil (Th_n (hK1 _ _ ?_))
  refine Wp_seq fun K2 hK2 => ?_
  refine Wp_seq fun K3 hK3 => ?_
  refine Wp_region ?_
  refine Ls_y (wtd0 rfl) rfl rfl (y_move rfl rfl) ?_
  refine Ls_y (wtd0 rfl) rfl rfl (y_lenl rfl rfl Try.underlying22) ?_
  refine Ls_y (wtd0 rfl) rfl rfl (y_move rfl rfl) ?_
  refine Ls_y (wtd0 rfl) rfl rfl (y_lenl rfl rfl Try.underlying22) ?_
  refine Ls_y (wtd0 rfl) rfl rfl (y_ne rfl rfl rfl) ?_
  refine Ls_bool 10 rfl (fun hn => ?_) (fun hn => ?_)
  all_goals try simp only [decide_eq_true_eq, decide_eq_false_iff_not, beq_iff_eq, bne_iff_ne, ne_eq, beq_eq_false_iff_ne, bne_eq_false_iff_eq, Bool.not_eq_true, Bool.not_eq_false] at hn
  · refine Ls_nil (Th_n (hK3 _ _ ?_))
    refine Wp_cond_t rfl ?_
    refine Wp_seq fun K4 hK4 => ?_
    refine Wp_region ?_
    refine Ls_y (wtd0 rfl) rfl rfl (y_assign rfl rfl) ?_
    refine Ls_nil (Th_n (hK4 _ _ ?_))
    refine Wp_ret (Th_r (Fq_ret (Res1 rfl rfl) ?_))
    refine ⟨?_, hF⟩
    rw [decide_eq_false (fun e => hn (by rw [e]))]
  · refine Ls_nil (Th_n (hK3 _ _ ?_))
    have hnn : xs.length = ys.length := by omega
    refine Wp_cond_f rfl ?_
    refine Wp_skip (Th_n (hK2 _ _ ?_))
    refine Wp_seq fun K5 hK5 => ?_
    refine Wp_seq fun K6 hK6 => ?_
    refine Wp_region ?_
    refine Ls_y (wtd0 rfl) rfl rfl (y_assign rfl rfl) ?_
    refine Ls_nil (Th_n (hK6 _ _ ?_))
    refine Wp_block ?_
    refine Wp_loopE (fun m e W => ∃ (k : Nat), k ≤ xs.length ∧ m = xs.length - k ∧ e = [(0, .slice A xs.length cA), (1, .slice B ys.length cB), (5, .int .i64 (k : Int))] ∧ Hp W [(blkOf A, Cl (xs.map sv ++ spA) 9), (blkOf B, Cl (ys.map sv ++ spB) 9)] ∧ Fr [] w W ∧ xs.take k = ys.take k) (xs.length) [(0, _), (1, _), (5, _)] ⟨rfl, rfl, rfl, trivial⟩ ?_ ?_
    · exact ⟨0, by omega, by omega, rfl, hp, hF, rfl⟩
    rintro m e W ⟨k, hk, rfl, rfl, hp, hF, ht⟩
    have hp : Hp W [_, _] := hp
    refine Wp_seq fun K8 hK8 => ?_
    refine Wp_seq fun K9 hK9 => ?_
    refine Wp_region ?_
    refine Ls_y (wtd0 rfl) rfl rfl (y_move rfl rfl) ?_
    refine Ls_y (wtd0 rfl) rfl rfl (y_move rfl rfl) ?_
    refine Ls_y (wtd0 rfl) rfl rfl (y_lenl rfl rfl Try.underlying22) ?_
    refine Ls_y (wtd0 rfl) rfl rfl (y_lt rfl rfl rfl) ?_
    refine Ls_bool 14 rfl (fun hlt => ?_) (fun hlt => ?_)
    all_goals try simp only [decide_eq_true_eq, decide_eq_false_iff_not, beq_iff_eq, bne_iff_ne, ne_eq, beq_eq_false_iff_ne, bne_eq_false_iff_eq, Bool.not_eq_true, Bool.not_eq_false] at hlt
    · refine Ls_nil (Th_n (hK9 _ _ ?_))
      have hkx : k < xs.length := by omega
      have hky : k < ys.length := by omega
      obtain ⟨ga, rfl⟩ := hA.some_ (by omega)
      obtain ⟨gb, rfl⟩ := hB.some_ (by omega)
      have hg1 := sv_get spA hkx
      have hg2 := sv_get spB hky
      refine Wp_cond_t rfl ?_
      refine Wp_skip (Th_n (hK8 _ _ ?_))
      refine Wp_seq fun K10 hK10 => ?_
      refine Wp_block ?_
      refine Wp_seq fun K11 hK11 => ?_
      refine Wp_plan (fun W => Hp W (heapOf hp)) [(true, 0), (true, 1), (true, 2), (true, 3), (true, 4), (true, 5), (true, 6), (true, 7), (true, 8)] Ty.mx_0 (by kernel_rfl) (by kernel_rfl) rfl (hp.drew) ?_
      have hp := hp.drew
      have hF := hF.step0 (Fr.drew _)
      refine Pl_y rfl (wtd0 rfl) rfl rfl (y_move rfl rfl) ?_
      refine Pl_y rfl (wtd0 rfl) rfl rfl (y_move rfl rfl) ?_
      first
        | refine Pl_y rfl (wtd0 rfl) rfl rfl (y_ixaN rfl rfl rfl Ty.es_22 (by omega)) ?_
        | refine Pl_y rfl (wtd0 rfl) rfl rfl (y_ixa rfl rfl rfl Ty.es_22 (by omega) (by omega)) ?_
      refine Pl_y rfl (wtd0 rfl) rfl rfl (y_load (i := 0) rfl rfl Ty.pl_9 (fun _ h => h) rfl hg1) ?_
      refine Pl_y rfl (wtd0 rfl) rfl rfl (y_move rfl rfl) ?_
      refine Pl_y rfl (wtd0 rfl) rfl rfl (y_move rfl rfl) ?_
      first
        | refine Pl_y rfl (wtd0 rfl) rfl rfl (y_ixaN rfl rfl rfl Ty.es_22 (by omega)) ?_
        | refine Pl_y rfl (wtd0 rfl) rfl rfl (y_ixa rfl rfl rfl Ty.es_22 (by omega) (by omega)) ?_
      refine Pl_y rfl (wtd0 rfl) rfl rfl (y_load (i := 1) rfl rfl Ty.pl_9 (fun _ h => h) rfl hg2) ?_
      refine Pl_y rfl (wtd0 rfl) rfl rfl (y_nes rfl rfl rfl) ?_
      refine Pl_bool 25 rfl (fun hne => ?_) (fun hne => ?_)
      all_goals try simp only [decide_eq_true_eq, decide_eq_false_iff_not, beq_iff_eq, bne_iff_ne, ne_eq, beq_eq_false_iff_ne, bne_eq_false_iff_eq, Bool.not_eq_true, Bool.not_eq_false] at hne
      · refine Pl_nil (Th_n (hK11 _ _ ?_))
        refine Wp_cond_t rfl ?_
        refine Wp_seq fun K12 hK12 => ?_
        refine Wp_region ?_
        refine Ls_y (wtd0 rfl) rfl rfl (y_assign rfl rfl) ?_
        refine Ls_nil (Th_n (hK12 _ _ ?_))
        refine Wp_ret (Ib_r (Th_r (Th_r (Ib_r (Th_r (Fq_ret (Res1 rfl rfl) ?_))))))
        refine ⟨?_, hF⟩
        rw [decide_eq_false (fun e => by subst e; exact hne rfl)]
      · refine Pl_nil (Th_n (hK11 _ _ ?_))
        refine Wp_cond_f rfl ?_
        refine Wp_skip (Ib_n (Th_n (hK10 _ _ ?_)))
        refine Wp_region ?_
        refine Ls_y (wtd0 rfl) rfl rfl (y_move rfl rfl) ?_
        first
          | refine Ls_y (wtd0 rfl) rfl rfl (y_add rfl rfl rfl (w_succ (by omega))) ?_
          | refine Ls_y (wtd0 rfl) rfl rfl (y_add rfl rfl rfl (wf_i64 (by omega))) ?_
          | refine Ls_y (wtd0 rfl) rfl rfl (y_add rfl rfl rfl rfl) ?_
        refine Ls_y (wtd0 rfl) rfl rfl (y_assign rfl rfl) ?_
        refine Ls_nil (Th_n (?_))
        exact ⟨xs.length - (k + 1), [(0, _), (1, _), (5, _)], by omega, ⟨rfl, rfl, rfl, trivial⟩, k + 1, by omega, rfl, rfl, hp, hF, by rw [List.take_add_one, List.take_add_one, ht, List.getElem?_eq_getElem hkx, List.getElem?_eq_getElem hky, hne]⟩
    · refine Ls_nil (Th_n (hK9 _ _ ?_))
      refine Wp_cond_f rfl ?_
      refine Wp_exit (Th_e (Th_e (Ib_hit (Th_n (hK5 _ _ ?_)))))
      refine Wp_seq fun K13 hK13 => ?_
      refine Wp_region ?_
      refine Ls_y (wtd0 rfl) rfl rfl (y_assign rfl rfl) ?_
      refine Ls_nil (Th_n (hK13 _ _ ?_))
      refine Wp_ret (Fq_ret (Res1 rfl rfl) ?_)
      refine ⟨?_, hF⟩
      obtain rfl : k = xs.length := by omega
      rw [List.take_length, hnn, List.take_length] at ht
      rw [decide_eq_true ht]

end Go.Proofs.Ytcpfhnfpokijaaa

/- Walks printed by gen.py out of our own specifications: what the functions named below do. -/
import Derived.Test.YtcpfhnfpokijaaaW8
set_option linter.unusedSimpArgs false
set_option linter.unusedVariables false
namespace Go.Proofs.Ytcpfhnfpokijaaa
open Go.RowKit

set_option maxRecDepth 20000 in
set_option maxHeartbeats 800000 in
theorem dmend_ok (p : Dp) (D : Dk) (w : World) (A : Option Addr) (c : Nat) (ks : List Int) (sp : List Value) (how : Ow A ks.length c 1 (ks.map intV) sp) (hp : Hp w (dkH p D ++ [(blkOf A, Cl (ks.map intV ++ sp) 3)])) (hD : DkOk D) :
    Fn Try.prog 22 [.pointer (some ⟨p.gd, 0, none⟩), .slice A ks.length c] w fun v w' => v = .tuple #[] ∧ Mod w w' (dkH p D ++ [(blkOf A, Cl (ks.map intV ++ sp) 3)]) (dkH p (mendD D ks) ++ [(blkOf A, Cl (ks.map intV ++ sp) 3)]) := by
  refine Fn_of 62 Ty.en_22 Try.func22 rfl rfl rfl ?_
  dsimp only [argEnv]
  have hp : Hp w [(_, Cl [_, _, _, _, _] _), _, _, _] := hp
  have hF := Fr.refl [p.gd, p.gn, p.gl] w
  refine Wp_seq fun K1 hK1 => ?_
  refine Wp_seq fun K2 hK2 => ?_
  refine Wp_region ?_
  refine Ls_y (wtd0 rfl) rfl rfl (y_move rfl rfl) ?_
  refine Ls_a (wtd0 rfl) ?_
  refine a_call rfl rfl rfl rfl (ddirty_ok p D _ (hp.picks [0, 1, 2] (by decide)) hD) (fun v w1 ⟨A2, c2, sp2, hv, how2, hN⟩ => ?_)
  subst hv
  have hp : Hp w1 [(_, Cl [_, _, _, _, _] _), _, _, _, _] := hp.add hN
  have hF := hF.step0 hN.fr
  have hmost := hD.most
  have hdl := dirtyTo_le D D.now.length
  rw [dirtyTo_all] at hdl
  refine Ls_y (wtd0 rfl) rfl rfl (y_lenl rfl rfl Try.underlying79) ?_
  refine Ls_y (wtd0 rfl) rfl rfl (y_move rfl rfl) ?_
  refine Ls_nil (Th_n (hK2 _ _ ?_))
  refine Wp_block ?_
  refine Wp_loopE (fun m e W => ∃ (k : Nat), k ≤ (dirtyD D).length ∧ m = (dirtyD D).length - k ∧ e = [(0, .pointer (some ⟨p.gd, 0, none⟩)), (1, .slice A ks.length c), (8, .slice A2 (dirtyD D).length c2), (9, .int .i64 ((dirtyD D).length : Int)), (10, .int .i64 (k : Int))] ∧
    Hp W (dkH p { D with lasts := mendL D ks k } ++ [(blkOf A, Cl (ks.map intV ++ sp) 3), (blkOf A2, Cl ((dirtyD D).map natV ++ sp2) 3)]) ∧ Fr [p.gd, p.gn, p.gl] w W) ((dirtyD D).length) [(0, _), (1, _), (8, _), (9, _), (10, _)] ⟨rfl, rfl, rfl, rfl, rfl, trivial⟩ ?_ ?_
  · exact ⟨0, by omega, by omega, rfl, hp, hF⟩
  rintro m e W ⟨k, hk, rfl, rfl, hp, hF⟩
  have hp : Hp W [(_, Cl [_, _, _, _, _] _), _, _, _, _] := hp
  have hL := mendL_rows hD ks k
  have hLl := mendL_len D ks k
  refine Wp_seq fun K4 hK4 => ?_
  refine Wp_region ?_
  refine Ls_y (wtd0 rfl) rfl rfl (y_lt rfl rfl rfl) ?_
  refine Ls_bool 11 rfl (fun hlt => ?_) (fun hlt => ?_)
  all_goals try simp only [decide_eq_true_eq, decide_eq_false_iff_not, beq_iff_eq, bne_iff_ne, ne_eq, beq_eq_false_iff_ne, bne_eq_false_iff_eq, Bool.not_eq_true, Bool.not_eq_false] at hlt
  · refine Ls_nil (Th_n (hK4 _ _ ?_))
    have hkd : k < (dirtyD D).length := by omega
    obtain ⟨i, hi⟩ : ∃ i, (dirtyD D)[k]? = some i := ⟨_, List.getElem?_eq_getElem hkd⟩
    have hin := dirty_lt hi
    have hil : i < (mendL D ks k).length := by rw [hLl, hD.len]; exact hin
    have hi64 : (D.now[i]).length = 64 := hD.now _ (List.getElem_mem hin)
    obtain ⟨g2, rfl⟩ := how2.some_ (by omega)
    have hget : ((dirtyD D).map natV ++ sp2)[0 + k * 1]? = some (natV i) := by
      rw [Nat.zero_add, Nat.mul_one, List.getElem?_append_left (by simpa using hkd), List.getElem?_map, hi]
      rfl
    refine Wp_seq fun K5 hK5 => ?_
    refine Wp_cond_t rfl ?_
    refine Wp_skip (Th_n (hK5 _ _ ?_))
    refine Wp_seq fun K6 hK6 => ?_
    refine Wp_block ?_
    refine Wp_seq fun K7 hK7 => ?_
    refine Wp_region ?_
    refine Ls_y (wtd0 rfl) rfl rfl (y_move rfl rfl) ?_
    first
      | refine Ls_y (wtd0 rfl) rfl rfl (y_ixaN rfl rfl rfl Ty.es_79 (by omega)) ?_
      | refine Ls_y (wtd0 rfl) rfl rfl (y_ixa rfl rfl rfl Ty.es_79 (by omega) (by omega)) ?_
    refine Ls_y (wtd0 rfl) rfl rfl (y_load (i := 4) rfl rfl Ty.pl_3 (fun _ e => e ▸ hp) rfl hget) ?_
    refine Ls_y (wtd0 rfl) rfl rfl (y_assign rfl rfl) ?_
    refine Ls_y (wtd0 rfl) rfl rfl (y_assign rfl rfl) ?_
    refine Ls_nil (Th_n (hK7 _ _ ?_))
    refine Wp_seq fun K8 hK8 => ?_
    refine Wp_region ?_
    refine Ls_y (wtd0 rfl) rfl rfl (y_assign rfl rfl) ?_
    refine Ls_nil (Th_n (hK8 _ _ ?_))
    refine Wp_seq fun K9 hK9 => ?_
    refine Wp_seq fun K10 hK10 => ?_
    refine Wp_region ?_
    refine Ls_y (wtd0 rfl) rfl rfl (y_move rfl rfl) ?_
    refine Ls_y (wtd0 rfl) rfl rfl (y_move rfl rfl) ?_
    refine Ls_y (wtd0 rfl) rfl rfl (y_lenl rfl rfl Try.underlying79) ?_
    refine Ls_y (wtd0 rfl) rfl rfl (y_lt rfl rfl rfl) ?_
    refine Ls_bool 18 rfl (fun hks => ?_) (fun hks => ?_)
    all_goals try simp only [decide_eq_true_eq, decide_eq_false_iff_not, beq_iff_eq, bne_iff_ne, ne_eq, beq_eq_false_iff_ne, bne_eq_false_iff_eq, Bool.not_eq_true, Bool.not_eq_false] at hks
    · refine Ls_nil (Th_n (hK10 _ _ ?_))
      have hkk : k < ks.length := by omega
      obtain ⟨g3, rfl⟩ := how.some_ (by omega)
      have hkg : ks[k]? = some ks[k] := List.getElem?_eq_getElem hkk
      have hget2 : (ks.map intV ++ sp)[0 + k * 1]? = some (intV ks[k]) := by
        rw [Nat.zero_add, Nat.mul_one, List.getElem?_append_left (by simpa using hkk), List.getElem?_map, hkg]
        rfl
      have hkn : IntKind.i64.wrap (ks[k] % 18446744073709551616 % 65) = ((keepN ks k : Nat) : Int) := by
        unfold keepN; rw [hkg, IntKind.wrap_i64]; simp only; omega
      have hk64 := keepN_le ks k
      refine Wp_cond_t rfl ?_
      refine Wp_region ?_
      refine Ls_y (wtd0 rfl) rfl rfl (y_move rfl rfl) ?_
      refine Ls_y (wtd0 rfl) rfl rfl (y_move rfl rfl) ?_
      first
        | refine Ls_y (wtd0 rfl) rfl rfl (y_ixaN rfl rfl rfl Ty.es_79 (by omega)) ?_
        | refine Ls_y (wtd0 rfl) rfl rfl (y_ixa rfl rfl rfl Ty.es_79 (by omega) (by omega)) ?_
      refine Ls_y (wtd0 rfl) rfl rfl (y_load (i := 3) rfl rfl Ty.pl_3 (fun _ e => e ▸ hp) rfl hget2) ?_
      refine Ls_y (wtd0 rfl) rfl rfl (y_cvi rfl rfl Try.underlying3 Try.underlying24 wm_u64) ?_
      refine Ls_y (wtd0 rfl) rfl rfl (y_remP rfl rfl rfl (by omega) (by omega)) ?_
      refine Ls_y (wtd0 rfl) rfl rfl (y_cvi rfl rfl Try.underlying24 Try.underlying3 hkn) ?_
      refine Ls_y (wtd0 rfl) rfl rfl (y_assign rfl rfl) ?_
      refine Ls_nil (Th_n (hK9 _ _ ?_))
      refine Wp_plan (fun W => Hp W (pickL (heapOf hp) [0])) [(true, 0), (true, 1), (true, 2), (true, 3), (true, 4), (true, 5), (true, 6), (true, 7), (true, 8), (true, 9), (true, 10), (true, 11), (true, 12), (true, 13), (true, 14), (true, 15), (false, 16)] Ty.mx_0 (by kernel_rfl) (by kernel_rfl) rfl ((hp.picks [0] (by decide)).drew) ?_
      have hp := hp.drew
      have hF := hF.step0 (Fr.drew _)
      refine Pl_y rfl (wtd0 rfl) rfl rfl (y_move rfl rfl) ?_
      refine Pl_y rfl (wtd0 rfl) rfl rfl (y_nil rfl rfl) ?_
      refine Pl_y rfl (wtd0 rfl) rfl rfl (y_fld rfl rfl Ty.fo_51_1) ?_
      refine Pl_y rfl (wtd0 rfl) rfl rfl (y_load (i := 0) rfl rfl Ty.pl_49 (fun _ h => h) rfl rfl) ?_
      refine Pl_y rfl (wtd0 rfl) rfl rfl (y_move rfl rfl) ?_
      first
        | refine Pl_y rfl (wtd0 rfl) rfl rfl (y_ixaN rfl rfl rfl Ty.es_49 (by omega)) ?_
        | refine Pl_y rfl (wtd0 rfl) rfl rfl (y_ixa rfl rfl rfl Ty.es_49 (by omega) (by omega)) ?_
      refine Pl_y rfl (wtd0 rfl) rfl rfl (y_move rfl rfl) ?_
      refine Pl_y rfl (wtd0 rfl) rfl rfl (y_cutaN (i := 0) rfl rfl Ty.ar_82 rfl rfl (by first | omega | (simp; omega) | (simp; done)) (by first | omega | (simp; omega) | (simp; done)) (by first | omega | (simp; omega) | (simp; done))) ?_
      refine Pl_y rfl (wtd0 rfl) rfl rfl (y_move rfl rfl) ?_
      refine Pl_y rfl (wtd0 rfl) rfl rfl (y_nil rfl rfl) ?_
      refine Pl_y rfl (wtd0 rfl) rfl rfl (y_fld rfl rfl Ty.fo_51_0) ?_
      refine Pl_y rfl (wtd0 rfl) rfl rfl (y_load (i := 0) rfl rfl Ty.pl_49 (fun _ h => h) rfl rfl) ?_
      refine Pl_y rfl (wtd0 rfl) rfl rfl (y_move rfl rfl) ?_
      first
        | refine Pl_y rfl (wtd0 rfl) rfl rfl (y_ixaN rfl rfl rfl Ty.es_49 (by omega)) ?_
        | refine Pl_y rfl (wtd0 rfl) rfl rfl (y_ixa rfl rfl rfl Ty.es_49 (by omega) (by omega)) ?_
      refine Pl_y rfl (wtd0 rfl) rfl rfl (y_move rfl rfl) ?_
      refine Pl_y rfl (wtd0 rfl) rfl rfl (y_cutaN (i := 0) rfl rfl Ty.ar_82 rfl rfl (by first | omega | (simp; omega) | (simp; done)) (by first | omega | (simp; omega) | (simp; done)) (by first | omega | (simp; omega) | (simp; done))) ?_
      refine Pl_a rfl (wtd0 rfl) (by rfl) ?_
      refine a_copy (i := 2) (vs := ((D.now[i]).take (keepN ks k)).map bv) rfl rfl rfl rfl rfl Ty.es_45 (Nat.min_self _) (range_row (i := 1) hp rfl hD.now hin _) (by first | (simp; done) | (simp; omega)) bytes_one hp rfl (by rw [List.length_append, rowsV_len hL, List.length_map, List.length_take]; omega) (fun w4 (hp : Hp w4 [(_, Cl [_, _, _, _, _] _), _, _, _, _]) hf _ => ?_)
      have hF := hF.step hf (by intro y hy; simp only [List.mem_cons, List.not_mem_nil, or_false] at hy; subst hy; first | (exact Or.inr (by omega)) | (exact Or.inl (by simp)))
      refine ⟨hp.picks [0] (by decide), ?_⟩
      refine Pl_nil (Ib_n (Th_n (hK6 _ _ ?_)))
      have hp : Hp w4 [(_, Cl [_, _, _, _, _] _), _, _, _, _] := hp.conv (i := 2) rfl (rowsV_splice hL hil (by first | (simp; done) | (simp; omega)) p.sl)
      refine Wp_region ?_
      first
        | refine Ls_y (wtd0 rfl) rfl rfl (y_add rfl rfl rfl (w_succ (by omega))) ?_
        | refine Ls_y (wtd0 rfl) rfl rfl (y_add rfl rfl rfl (wf_i64 (by omega))) ?_
        | refine Ls_y (wtd0 rfl) rfl rfl (y_add rfl rfl rfl rfl) ?_
      refine Ls_y (wtd0 rfl) rfl rfl (y_move rfl rfl) ?_
      refine Ls_nil (Th_n (?_))
      have e1 := mendL_succ hD ks hi hin hil
      rw [show keepN ks k = keepN ks k from rfl] at e1
      refine ⟨(dirtyD D).length - (k + 1), [(0, _), (1, _), (8, _), (9, _), (10, _)], by omega, ⟨rfl, rfl, rfl, rfl, rfl, trivial⟩, k + 1, by omega, rfl, rfl, ?_, hF⟩
      rw [e1]
      exact hp
    · refine Ls_nil (Th_n (hK10 _ _ ?_))
      have hkn : keepN ks k = 0 := by unfold keepN; rw [List.getElem?_eq_none (by omega)]
      refine Wp_cond_f rfl ?_
      refine Wp_skip (Th_n (hK9 _ _ ?_))
      refine Wp_plan (fun W => Hp W (pickL (heapOf hp) [0])) [(true, 0), (true, 1), (true, 2), (true, 3), (true, 4), (true, 5), (true, 6), (true, 7), (true, 8), (true, 9), (true, 10), (true, 11), (true, 12), (true, 13), (true, 14), (true, 15), (false, 16)] Ty.mx_0 (by kernel_rfl) (by kernel_rfl) rfl ((hp.picks [0] (by decide)).drew) ?_
      have hp := hp.drew
      have hF := hF.step0 (Fr.drew _)
      refine Pl_y rfl (wtd0 rfl) rfl rfl (y_move rfl rfl) ?_
      refine Pl_y rfl (wtd0 rfl) rfl rfl (y_nil rfl rfl) ?_
      refine Pl_y rfl (wtd0 rfl) rfl rfl (y_fld rfl rfl Ty.fo_51_1) ?_
      refine Pl_y rfl (wtd0 rfl) rfl rfl (y_load (i := 0) rfl rfl Ty.pl_49 (fun _ h => h) rfl rfl) ?_
      refine Pl_y rfl (wtd0 rfl) rfl rfl (y_move rfl rfl) ?_
      first
        | refine Pl_y rfl (wtd0 rfl) rfl rfl (y_ixaN rfl rfl rfl Ty.es_49 (by omega)) ?_
        | refine Pl_y rfl (wtd0 rfl) rfl rfl (y_ixa rfl rfl rfl Ty.es_49 (by omega) (by omega)) ?_
      refine Pl_y rfl (wtd0 rfl) rfl rfl (y_move rfl rfl) ?_
      refine Pl_y rfl (wtd0 rfl) rfl rfl (y_cutaN (i := 0) (j := 0) rfl rfl Ty.ar_82 rfl rfl (by first | omega | (simp; omega) | (simp; done)) (by first | omega | (simp; omega) | (simp; done)) (by first | omega | (simp; omega) | (simp; done))) ?_
      refine Pl_y rfl (wtd0 rfl) rfl rfl (y_move rfl rfl) ?_
      refine Pl_y rfl (wtd0 rfl) rfl rfl (y_nil rfl rfl) ?_
      refine Pl_y rfl (wtd0 rfl) rfl rfl (y_fld rfl rfl Ty.fo_51_0) ?_
      refine Pl_y rfl (wtd0 rfl) rfl rfl (y_load (i := 0) rfl rfl Ty.pl_49 (fun _ h => h) rfl rfl) ?_
      refine Pl_y rfl (wtd0 rfl) rfl rfl (y_move rfl rfl) ?_
      first
        | refine Pl_y rfl (wtd0 rfl) rfl rfl (y_ixaN rfl rfl rfl Ty.es_49 (by omega)) ?_
        | refine Pl_y rfl (wtd0 rfl) rfl rfl (y_ixa rfl rfl rfl Ty.es_49 (by omega) (by omega)) ?_
      refine Pl_y rfl (wtd0 rfl) rfl rfl (y_move rfl rfl) ?_
      refine Pl_y rfl (wtd0 rfl) rfl rfl (y_cutaN (i := 0) (j := 0) rfl rfl Ty.ar_82 rfl rfl (by first | omega | (simp; omega) | (simp; done)) (by first | omega | (simp; omega) | (simp; done)) (by first | omega | (simp; omega) | (simp; done))) ?_
      refine Pl_a rfl (wtd0 rfl) (by rfl) ?_
      refine a_copy (i := 2) (vs := ((D.now[i]).take 0).map bv) rfl rfl rfl rfl rfl Ty.es_45 (Nat.min_self _) (range_row (i := 1) hp rfl hD.now hin _) (by first | (simp; done) | (simp; omega)) bytes_one hp rfl (by rw [List.length_append, rowsV_len hL, List.length_map, List.length_take]; omega) (fun w4 (hp : Hp w4 [(_, Cl [_, _, _, _, _] _), _, _, _, _]) hf _ => ?_)
      have hF := hF.step hf (by intro y hy; simp only [List.mem_cons, List.not_mem_nil, or_false] at hy; subst hy; first | (exact Or.inr (by omega)) | (exact Or.inl (by simp)))
      refine ⟨hp.picks [0] (by decide), ?_⟩
      refine Pl_nil (Ib_n (Th_n (hK6 _ _ ?_)))
      have hp : Hp w4 [(_, Cl [_, _, _, _, _] _), _, _, _, _] := hp.conv (i := 2) rfl (rowsV_splice hL hil (by first | (simp; done) | (simp; omega)) p.sl)
      refine Wp_region ?_
      first
        | refine Ls_y (wtd0 rfl) rfl rfl (y_add rfl rfl rfl (w_succ (by omega))) ?_
        | refine Ls_y (wtd0 rfl) rfl rfl (y_add rfl rfl rfl (wf_i64 (by omega))) ?_
        | refine Ls_y (wtd0 rfl) rfl rfl (y_add rfl rfl rfl rfl) ?_
      refine Ls_y (wtd0 rfl) rfl rfl (y_move rfl rfl) ?_
      refine Ls_nil (Th_n (?_))
      have e1 := mendL_succ hD ks hi hin hil
      rw [hkn] at e1
      refine ⟨(dirtyD D).length - (k + 1), [(0, _), (1, _), (8, _), (9, _), (10, _)], by omega, ⟨rfl, rfl, rfl, rfl, rfl, trivial⟩, k + 1, by omega, rfl, rfl, ?_, hF⟩
      rw [e1]
      exact hp
  · refine Ls_nil (Th_n (hK4 _ _ ?_))
    obtain rfl : k = (dirtyD D).length := by omega
    have hnl : D.now.length = (mendL D ks (dirtyD D).length).length := by rw [hLl, hD.len]
    refine Wp_seq fun K11 hK11 => ?_
    refine Wp_cond_f rfl ?_
    refine Wp_exit (Th_e (Th_e (Ib_hit (Th_n (hK1 _ _ ?_)))))
    refine Wp_seq fun K12 hK12 => ?_
    refine Wp_plan (fun W => Hp W (pickL (heapOf hp) [0])) [(true, 0), (true, 1), (true, 2), (true, 3), (true, 4), (true, 5), (true, 6), (true, 7), (false, 8)] Ty.mx_0 (by kernel_rfl) (by kernel_rfl) rfl ((hp.picks [0] (by decide)).drew) ?_
    have hp := hp.drew
    have hF := hF.step0 (Fr.drew _)
    refine Pl_y rfl (wtd0 rfl) rfl rfl (y_move rfl rfl) ?_
    refine Pl_y rfl (wtd0 rfl) rfl rfl (y_nil rfl rfl) ?_
    refine Pl_y rfl (wtd0 rfl) rfl rfl (y_fld rfl rfl Ty.fo_51_0) ?_
    refine Pl_y rfl (wtd0 rfl) rfl rfl (y_load (i := 0) rfl rfl Ty.pl_49 (fun _ h => h) rfl rfl) ?_
    refine Pl_y rfl (wtd0 rfl) rfl rfl (y_move rfl rfl) ?_
    refine Pl_y rfl (wtd0 rfl) rfl rfl (y_nil rfl rfl) ?_
    refine Pl_y rfl (wtd0 rfl) rfl rfl (y_fld rfl rfl Ty.fo_51_1) ?_
    refine Pl_y rfl (wtd0 rfl) rfl rfl (y_load (i := 0) rfl rfl Ty.pl_49 (fun _ h => h) rfl rfl) ?_
    refine Pl_a rfl (wtd0 rfl) (by rfl) ?_
    refine a_copy (i := 1) (vs := rowsV (mendL D ks (dirtyD D).length)) rfl rfl rfl rfl rfl Ty.es_49 (Nat.min_self _) (rangeAt_pre (range_all (i := 2) hp rfl)) (by rw [rowsV_len hL, ← hnl]) rowsV_one hp rfl (by rw [List.length_append, rowsV_len hL, rowsV_len hD.now, ← hnl]; omega) (fun w5 (hp : Hp w5 [(_, Cl [_, _, _, _, _] _), _, _, _, _]) hf _ => ?_)
    have hF := hF.step hf (by intro y hy; simp only [List.mem_cons, List.not_mem_nil, or_false] at hy; subst hy; first | (exact Or.inr (by omega)) | (exact Or.inl (by simp)))
    refine ⟨hp.picks [0] (by decide), ?_⟩
    refine Pl_nil (Th_n (hK12 _ _ ?_))
    have hp : Hp w5 [(_, Cl [_, _, _, _, _] _), _, _, _, _] := hp.conv (i := 1) rfl (rows_copy hL hD.now hnl.symm p.sn)
    refine Wp_region ?_
    refine Ls_y (wtd0 rfl) rfl rfl (y_move rfl rfl) ?_
    refine Ls_y (wtd0 rfl) rfl rfl (y_move rfl rfl) ?_
    refine Ls_y (wtd0 rfl) rfl rfl (y_move rfl rfl) ?_
    refine Ls_y (wtd0 rfl) rfl rfl (y_nil rfl rfl) ?_
    refine Ls_y (wtd0 rfl) rfl rfl (y_fld rfl rfl Ty.fo_51_2) ?_
    refine Ls_a (wtd0 rfl) ?_
    first
      | refine a_store (i := 0) rfl rfl rfl rfl rfl Ty.sz_4 rfl hp rfl (by first | decide | (simp; done) | (simp; omega)) (fun w1 (hp : Hp w1 [(_, Cl [_, _, _, _, _] _), _, _, _, _]) hf _ => ?_)
      | refine a_store (i := 1) rfl rfl rfl rfl rfl Ty.sz_4 rfl hp rfl (by first | decide | (simp; done) | (simp; omega)) (fun w1 (hp : Hp w1 [(_, Cl [_, _, _, _, _] _), _, _, _, _]) hf _ => ?_)
      | refine a_store (i := 2) rfl rfl rfl rfl rfl Ty.sz_4 rfl hp rfl (by first | decide | (simp; done) | (simp; omega)) (fun w1 (hp : Hp w1 [(_, Cl [_, _, _, _, _] _), _, _, _, _]) hf _ => ?_)
      | refine a_store (i := 3) rfl rfl rfl rfl rfl Ty.sz_4 rfl hp rfl (by first | decide | (simp; done) | (simp; omega)) (fun w1 (hp : Hp w1 [(_, Cl [_, _, _, _, _] _), _, _, _, _]) hf _ => ?_)
      | refine a_store (i := 4) rfl rfl rfl rfl rfl Ty.sz_4 rfl hp rfl (by first | decide | (simp; done) | (simp; omega)) (fun w1 (hp : Hp w1 [(_, Cl [_, _, _, _, _] _), _, _, _, _]) hf _ => ?_)
    have hF := hF.step hf (by intro y hy; simp only [List.mem_cons, List.not_mem_nil, or_false] at hy; subst hy; first | (exact Or.inr (by omega)) | (exact Or.inl (by simp)))
    refine Ls_y (wtd0 rfl) rfl rfl (y_nil rfl rfl) ?_
    refine Ls_y (wtd0 rfl) rfl rfl (y_fld rfl rfl Ty.fo_51_3) ?_
    refine Ls_a (wtd0 rfl) ?_
    first
      | refine a_store (i := 0) rfl rfl rfl rfl rfl Ty.sz_3 rfl hp rfl (by first | decide | (simp; done) | (simp; omega)) (fun w2 (hp : Hp w2 [(_, Cl [_, _, _, _, _] _), _, _, _, _]) hf _ => ?_)
      | refine a_store (i := 1) rfl rfl rfl rfl rfl Ty.sz_3 rfl hp rfl (by first | decide | (simp; done) | (simp; omega)) (fun w2 (hp : Hp w2 [(_, Cl [_, _, _, _, _] _), _, _, _, _]) hf _ => ?_)
      | refine a_store (i := 2) rfl rfl rfl rfl rfl Ty.sz_3 rfl hp rfl (by first | decide | (simp; done) | (simp; omega)) (fun w2 (hp : Hp w2 [(_, Cl [_, _, _, _, _] _), _, _, _, _]) hf _ => ?_)
      | refine a_store (i := 3) rfl rfl rfl rfl rfl Ty.sz_3 rfl hp rfl (by first | decide | (simp; done) | (simp; omega)) (fun w2 (hp : Hp w2 [(_, Cl [_, _, _, _, _] _), _, _, _, _]) hf _ => ?_)
      | refine a_store (i := 4) rfl rfl rfl rfl rfl Ty.sz_3 rfl hp rfl (by first | decide | (simp; done) | (simp; omega)) (fun w2 (hp : Hp w2 [(_, Cl [_, _, _, _, _] _), _, _, _, _]) hf _ => ?_)
    have hF := hF.step hf (by intro y hy; simp only [List.mem_cons, List.not_mem_nil, or_false] at hy; subst hy; first | (exact Or.inr (by omega)) | (exact Or.inl (by simp)))
    refine Ls_y (wtd0 rfl) rfl rfl (y_nil rfl rfl) ?_
    refine Ls_y (wtd0 rfl) rfl rfl (y_fld rfl rfl Ty.fo_51_4) ?_
    refine Ls_a (wtd0 rfl) ?_
    first
      | refine a_store (i := 0) rfl rfl rfl rfl rfl Ty.sz_4 rfl hp rfl (by first | decide | (simp; done) | (simp; omega)) (fun w3 (hp : Hp w3 [(_, Cl [_, _, _, _, _] _), _, _, _, _]) hf _ => ?_)
      | refine a_store (i := 1) rfl rfl rfl rfl rfl Ty.sz_4 rfl hp rfl (by first | decide | (simp; done) | (simp; omega)) (fun w3 (hp : Hp w3 [(_, Cl [_, _, _, _, _] _), _, _, _, _]) hf _ => ?_)
      | refine a_store (i := 2) rfl rfl rfl rfl rfl Ty.sz_4 rfl hp rfl (by first | decide | (simp; done) | (simp; omega)) (fun w3 (hp : Hp w3 [(_, Cl [_, _, _, _, _] _), _, _, _, _]) hf _ => ?_)
      | refine a_store (i := 3) rfl rfl rfl rfl rfl Ty.sz_4 rfl hp rfl (by first | decide | (simp; done) | (simp; omega)) (fun w3 (hp : Hp w3 [(_, Cl [_, _, _, _, _] _), _, _, _, _]) hf _ => ?_)
      | refine a_store (i := 4) rfl rfl rfl rfl rfl Ty.sz_4 rfl hp rfl (by first | decide | (simp; done) | (simp; omega)) (fun w3 (hp : Hp w3 [(_, Cl [_, _, _, _, _] _), _, _, _, _]) hf _ => ?_)
    have hF := hF.step hf (by intro y hy; simp only [List.mem_cons, List.not_mem_nil, or_false] at hy; subst hy; first | (exact Or.inr (by omega)) | (exact Or.inl (by simp)))
    refine Ls_nil (Fq_end (Res0 rfl) ?_)
    have hq := hp.picks [0, 1, 2, 3] (by decide)
    refine ⟨rfl, ⟨hF.mono (fun x hx => ?_), ?_, fun k hk => .inl ?_⟩⟩
    · simp only [List.mem_cons, List.not_mem_nil, or_false] at hx
      rcases hx with rfl | rfl | rfl <;> simp [keys, dkH]
    · simp only [mendD, dkH, dkC, ← hnl]
      exact hq
    · have e : keys (dkH p (mendD D ks) ++ [(blkOf A, Cl (ks.map intV ++ sp) 3)]) = keys (dkH p D ++ [(blkOf A, Cl (ks.map intV ++ sp) 3)]) := rfl
      rw [← e]; exact hk

end Go.Proofs.Ytcpfhnfpokijaaa

/- Walks printed by gen.py out of our own specifications: what the functions named below do. -/
import Derived.Test.YtikdpkhcegjmfaaW20
set_option linter.unusedSimpArgs false
set_option linter.unusedVariables false
namespace Go.Proofs.Ytikdpkhcegjmfaa
open Go.RowKit


theorem erase_rowC (row : List MsgV) (i : Nat) : rowC (row.eraseIdx i) = rowC (row.take i) ++ rowC (row.drop (i + 1)) := by rw [List.eraseIdx_eq_take_drop_succ, rowC_app]
theorem del_cells {row : List MsgV} {sp : List Value} {i : Nat} (hi : i < row.length) : (rowC row ++ sp).take (0 + i * 3) ++ rowC (row.drop (i + 1)) ++ (rowC row ++ sp).drop (0 + i * 3 + (rowC (row.drop (i + 1))).length) = rowC (row.eraseIdx i) ++ (rowC row ++ sp).drop ((row.length - 1) * 3) := by
  have h1 := rowC_len row
  have h2 : (rowC (row.drop (i + 1))).length = (row.length - (i + 1)) * 3 := by rw [rowC_len, List.length_drop]
  rw [erase_rowC, Nat.zero_add, List.take_append_of_le_length (by omega), ← rowC_take, h2, show i * 3 + (row.length - (i + 1)) * 3 = (row.length - 1) * 3 by omega]

set_option maxRecDepth 20000 in
theorem ndel_ok (g c : Nat) (row : List MsgV) (sp : List Value) (i : Nat) (w : World) (hp : Hp w [(some g, Cl (rowC row ++ sp) 51)]) (hi : i < row.length) (hm : row.length ≤ 128) (hrc : row.length ≤ c) (hcl : (rowC row ++ sp).length = c * 3) (hcm : c ≤ maxLen) :
    Fn Try.prog 76 [.slice (some ⟨g, 0, none⟩) row.length c, .int .i64 (i : Int), .int .i64 ((i + 1 : Nat) : Int)] w fun v w' => v = .slice (some ⟨g, 0, none⟩) (row.length - 1) c ∧ ∃ sp', Ow (some ⟨g, 0, none⟩) (row.length - 1) c 3 (rowC (row.eraseIdx i)) sp' ∧ Hp w' [(some g, Cl (rowC (row.eraseIdx i) ++ sp') 51)] ∧ Fr [g] w w' := by
  refine Fn_of 33 Ty.en_76 Try.func76 rfl rfl rfl ?_
  dsimp only [argEnv]
  have hp : Hp w [_] := hp
  have hF := Fr.refl [g] w
  refine Wp_seq fun K1 hK1 => ?_
  refine Wp_region ?_
  refine Ls_y (wtd0 rfl) rfl rfl (y_assign rfl rfl) ?_
  refine Ls_nil (Th_n (hK1 _ _ ?_))
  refine Wp_seq fun K2 hK2 => ?_
  refine Wp_region ?_
  refine Ls_y (wtd0 rfl) rfl rfl (y_move rfl rfl) ?_
  refine Ls_y (wtd0 rfl) rfl rfl (y_move rfl rfl) ?_
  refine Ls_y (wtd0 rfl) rfl rfl (y_move rfl rfl) ?_
  refine Ls_y (wtd0 rfl) rfl rfl (y_move rfl rfl) ?_
  refine Ls_y (wtd0 rfl) rfl rfl (y_lenl rfl rfl Try.underlying113) ?_
  refine Ls_y (wtd0 rfl) rfl rfl (y_cut3 rfl rfl Ty.es_113 rfl rfl rfl (by omega) (by omega) (by omega) (by omega)) ?_
  refine Ls_nil (Th_n (hK2 _ _ ?_))
  refine Wp_seq fun K3 hK3 => ?_
  refine Wp_seq fun K4 hK4 => ?_
  refine Wp_region ?_
  refine Ls_y (wtd0 rfl) rfl rfl (y_move rfl rfl) ?_
  refine Ls_y (wtd0 rfl) rfl rfl (y_move rfl rfl) ?_
  refine Ls_y (wtd0 rfl) rfl rfl (y_eqF rfl rfl rfl (by omega)) ?_
  refine Ls_nil (Th_n (hK4 _ _ ?_))
  have hdl : (rowC (row.drop (i + 1))).length = (row.length - (i + 1)) * 3 := by rw [rowC_len, List.length_drop]
  have hrl := rowC_len row
  refine Wp_cond_f rfl ?_
  refine Wp_skip (Th_n (hK3 _ _ ?_))
  refine Wp_seq fun K5 hK5 => ?_
  refine Wp_region ?_
  refine Ls_y (wtd0 rfl) rfl rfl (y_move rfl rfl) ?_
  refine Ls_y (wtd0 rfl) rfl rfl (y_lenl rfl rfl Try.underlying113) ?_
  refine Ls_y (wtd0 rfl) rfl rfl (y_assign rfl rfl) ?_
  refine Ls_nil (Th_n (hK5 _ _ ?_))
  refine Wp_seq fun K6 hK6 => ?_
  refine Wp_plan (fun _ => True) [(true, 0), (true, 1), (true, 2), (true, 3), (true, 4), (true, 5), (false, 6), (true, 7)] Ty.mx_0 (by kernel_rfl) (by kernel_rfl) rfl (trivial) ?_
  have hp := hp.drew
  have hF := hF.step0 (Fr.drew _)
  refine Pl_y rfl (wtd0 rfl) rfl rfl (y_move rfl rfl) ?_
  refine Pl_y rfl (wtd0 rfl) rfl rfl (y_move rfl rfl) ?_
  refine Pl_y rfl (wtd0 rfl) rfl rfl (y_cutl0 rfl rfl Ty.es_113 rfl (by omega) (by omega) (by omega)) ?_
  refine Pl_y rfl (wtd0 rfl) rfl rfl (y_move rfl rfl) ?_
  refine Pl_y rfl (wtd0 rfl) rfl rfl (y_move rfl rfl) ?_
  refine Pl_y rfl (wtd0 rfl) rfl rfl (y_cutlS rfl rfl Ty.es_113 rfl rfl (by omega) (by omega) (by omega) (by omega)) ?_
  refine Pl_a rfl (wtd0 rfl) (by rfl) ?_
  refine a_append_in (i := 0) (l := i) (sl := row.length - (i + 1)) (m := 3) (news := rowC (row.drop (i + 1))) rfl rfl rfl rfl rfl rfl Ty.es_113 hp rfl hdl (fun j u hj => by
        have hjl := (List.getElem?_eq_some_iff.1 hj).1
        show w.drew.cell? ((cutAd ⟨g, 0, none⟩ c (i + 1) 3).add j) = some u
        rw [cutAd_in (by omega), Addr.add_mid]
        refine cell_of (i := 0) hp rfl ?_
        rw [List.getElem?_append_left (by omega)]
        rw [rowC_drop, List.getElem?_drop] at hj
        rw [show 0 + (i + 1) * 3 + j = (i + 1) * 3 + j by omega]
        exact hj) rowC_one (by omega) (by rw [List.length_append]; omega) (fun w1 (hp : Hp w1 [_]) hf => ?_)
  have hF := hF.step hf (by intro y hy; simp only [List.mem_cons, List.not_mem_nil, or_false] at hy; subst hy; first | (exact Or.inr (by omega)) | (exact Or.inl (by simp)))
  refine ⟨trivial, ?_⟩
  have hp : Hp w1 [_] := hp.conv (i := 0) rfl (del_cells hi)
  rw [show i + (row.length - (i + 1)) = row.length - 1 by omega]
  have hel : (rowC (row.eraseIdx i)).length = (row.length - 1) * 3 := by rw [rowC_len, List.length_eraseIdx, if_pos hi]
  refine Pl_y rfl (wtd0 rfl) rfl rfl (y_assign rfl rfl) ?_
  refine Pl_nil (Th_n (hK6 _ _ ?_))
  refine Wp_seq fun K7 hK7 => ?_
  refine Wp_region ?_
  refine Ls_y (wtd0 rfl) rfl rfl (y_move rfl rfl) ?_
  refine Ls_y (wtd0 rfl) rfl rfl (y_move rfl rfl) ?_
  refine Ls_y (wtd0 rfl) rfl rfl (y_lenl rfl rfl Try.underlying113) ?_
  refine Ls_y (wtd0 rfl) rfl rfl (y_move rfl rfl) ?_
  refine Ls_y (wtd0 rfl) rfl rfl (y_cutlS rfl rfl Ty.es_113 rfl rfl (by omega) (by omega) (by omega) (by omega)) ?_
  rw [show cutAd ⟨g, 0, none⟩ c (((row.length - 1 : Nat) : Int)).toNat 3 = ⟨g, 0 + (row.length - 1) * 3, none⟩ from cutAd_in (by omega)]
  refine Ls_a (wtd0 rfl) ?_
  refine a_clear (i := 0) (l := row.length - (row.length - 1)) (m := 3) (z := [.int .i64 0, .int .i64 0, sv []]) rfl rfl rfl Ty.es_113 Ty.zc_51 rfl (by simp [Value.oneCell']) hp rfl (by simp only [List.length_append, List.length_drop, hel]; omega) (fun w2 (hp : Hp w2 [_]) hf => ?_)
  have hF := hF.step hf (by intro y hy; simp only [List.mem_cons, List.not_mem_nil, or_false] at hy; subst hy; first | (exact Or.inr (by omega)) | (exact Or.inl (by simp)))
  refine Ls_nil (Th_n (hK7 _ _ ?_))
  refine Wp_seq fun K8 hK8 => ?_
  refine Wp_region ?_
  refine Ls_y (wtd0 rfl) rfl rfl (y_move rfl rfl) ?_
  refine Ls_y (wtd0 rfl) rfl rfl (y_assign rfl rfl) ?_
  refine Ls_nil (Th_n (hK8 _ _ ?_))
  refine Wp_ret (Fq_ret (Res1 rfl rfl) ?_)
  have e1 : row.length - (row.length - 1) = 1 := by omega
  rw [e1] at hp
  refine ⟨rfl, [.int .i64 0, .int .i64 0, sv []] ++ (rowC row ++ sp).drop (row.length * 3), ⟨hel, .inr ⟨g, rfl, ?_, by omega, hcm⟩⟩, ?_, hF⟩
  · simp only [List.length_append, List.length_drop, hel] at hcl ⊢
    simp
    omega
  · have e2 : List.take (0 + (row.length - 1) * 3) (rowC (row.eraseIdx i) ++ (rowC row ++ sp).drop ((row.length - 1) * 3)) = rowC (row.eraseIdx i) := by
      rw [List.take_append_of_le_length (by omega), List.take_of_length_le (by omega)]
    have e3 : List.drop (0 + (row.length - 1) * 3 + 1 * 3) (rowC (row.eraseIdx i) ++ (rowC row ++ sp).drop ((row.length - 1) * 3)) = (rowC row ++ sp).drop (row.length * 3) := by
      rw [show 0 + (row.length - 1) * 3 + 1 * 3 = (rowC (row.eraseIdx i)).length + 3 by omega, List.drop_length_add_append, List.drop_drop, show (row.length - 1) * 3 + 3 = row.length * 3 by omega]
    rw [e2, e3] at hp
    simpa [List.append_assoc] using hp

end Go.Proofs.Ytikdpkhcegjmfaa

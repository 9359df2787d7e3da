/- Walks printed by gen.py out of our own specifications: what the functions named below do. -/
import Derived.Test.YtcpfhnfpokijaaaM11
set_option linter.unusedSimpArgs false
set_option linter.unusedVariables false
namespace Go.Proofs.Ytcpfhnfpokijaaa
open Go.RowKit

set_option maxRecDepth 20000 in
set_option maxHeartbeats 4000000 in
theorem markRoom_ok (nn lg : Int) (frm : Nat) (hfr : frm < 4294967296) (w : World) :
    Fn Try.prog 4 [.int .i64 nn, .int .u32 (frm : Int), .int .i64 lg] w fun v w' => v = .bool true ∧ Fr [] w w' := by
  refine Fn_of 77 Ty.en_4 Try.func4 rfl rfl rfl ?_
  dsimp only [argEnv]
  have hp := Hp.nil w
  have hF := Fr.refl [] w
  refine Wp_seq fun K1 hK1 => ?_
  refine Wp_region ?_
  refine Ls_y (wtd0 rfl) rfl rfl (y_assign rfl rfl) ?_
  refine Ls_nil (Th_n (hK1 _ _ ?_))
  refine Wp_seq fun K2 hK2 => ?_
  refine Wp_seq fun K3 hK3 => ?_
  refine Wp_region ?_
  refine Ls_a (wtd0 rfl) ?_
  refine a_call rfl rfl rfl rfl (works19_ok _) (fun v w0 ⟨hv, hf⟩ => ?_)
  subst hv
  have hp := hp.keep0 hf
  have hF := hF.step0 hf
  obtain ⟨n1, hn1⟩ := Int.eq_ofNat_of_zero_le (show 0 ≤ nn % 18446744073709551616 % 20 by omega)
  have hwn : IntKind.i64.wrap (nn % 18446744073709551616 % 20) = (n1 : Int) := by rw [IntKind.wrap_i64]; omega
  obtain ⟨x1, hx1⟩ := Int.eq_ofNat_of_zero_le (show 0 ≤ lg % 18446744073709551616 % 100 by omega)
  have hwx : IntKind.i64.wrap (lg % 18446744073709551616 % 100) = (x1 : Int) := by rw [IntKind.wrap_i64]; omega
  obtain ⟨nk, hnk⟩ : ∃ nk : Nat, nk = 1 + n1 := ⟨_, rfl⟩
  have hn : 1 ≤ nk ∧ nk ≤ 20 := by omega
  obtain ⟨R, hR⟩ : ∃ R : Nat, R = 50 * nk - 14 := ⟨_, rfl⟩
  obtain ⟨L2, hL2⟩ : ∃ L2 : Nat, L2 = 50 * nk + x1 := ⟨_, rfl⟩
  have hnf := numB_len (frm : Int)
  have hcl := mnewD_calm (n := 2 * nk) (by omega) (by omega)
  have hm0 : mnewest (newD (2 * nk)) 0 (2 * nk) = 0 := mnewest_new _ (Nat.le_refl _)
  have hz0 : cellAt (newD (2 * nk)) (((0 : Nat) : Int) + ((0 * nk : Nat) : Int)) = none := by rw [show ((0 : Nat) : Int) + ((0 * nk : Nat) : Int) = ((0 : Nat) : Int) by omega]; exact mcell_new (by omega)
  have hz1 : cellAt (newD (2 * nk)) (((0 : Nat) : Int) + ((1 * nk : Nat) : Int)) = none := by rw [show ((0 : Nat) : Int) + ((1 * nk : Nat) : Int) = ((nk : Nat) : Int) by omega]; exact mcell_new (by omega)
  have hb1 : (mBytes frm (List.replicate R 0)).length ≤ 50 * nk := by
    have h3 := numB_len3 (v := (((List.replicate R (0 : UInt8)).length : Nat) : Int)) (by rw [List.length_replicate]; omega)
    simp only [mBytes, List.length_append, List.length_replicate] at h3 ⊢
    omega
  have hb2 : 50 * nk < (mBytes frm (List.replicate L2 0)).length := by
    have h3 := numB_len (((List.replicate L2 (0 : UInt8)).length : Nat) : Int)
    simp only [mBytes, List.length_append, List.length_replicate] at h3 ⊢
    omega
  have hb3 : (mBytes frm []).length ≤ 50 := by
    have h3 := numB_len3 (v := ((([] : List UInt8).length : Nat) : Int)) (by simp)
    simp only [mBytes, List.length_append, List.length_nil] at h3 ⊢
    omega
  refine Ls_y (wtd0 rfl) rfl rfl (y_not rfl rfl) ?_
  refine Ls_nil (Th_n (hK3 _ _ ?_))
  refine Wp_cond_f rfl ?_
  refine Wp_skip (Th_n (hK2 _ _ ?_))
  refine Wp_seq fun K4 hK4 => ?_
  refine Wp_region ?_
  refine Ls_y (wtd0 rfl) rfl rfl (y_move rfl rfl) ?_
  refine Ls_y (wtd0 rfl) rfl rfl (y_cvi rfl rfl Try.underlying3 Try.underlying24 wm_u64) ?_
  refine Ls_y (wtd0 rfl) rfl rfl (y_remP rfl rfl rfl (by omega) (by omega)) ?_
  refine Ls_y (wtd0 rfl) rfl rfl (y_cvi rfl rfl Try.underlying24 Try.underlying3 hwn) ?_
  refine Ls_y (wtd0 rfl) rfl rfl (y_add (c := (nk : Int)) rfl rfl rfl (by rw [IntKind.wrap_i64]; omega)) ?_
  refine Ls_y (wtd0 rfl) rfl rfl (y_assign rfl rfl) ?_
  refine Ls_nil (Th_n (hK4 _ _ ?_))
  refine Wp_seq fun K5 hK5 => ?_
  refine Wp_region ?_
  refine Ls_y (wtd0 rfl) rfl rfl (y_move rfl rfl) ?_
  refine Ls_y (wtd0 rfl) rfl rfl (y_mul (c := ((2 * nk : Nat) : Int)) rfl rfl rfl (by rw [IntKind.wrap_i64]; omega)) ?_
  refine Ls_a (wtd0 rfl) ?_
  refine a_call rfl rfl rfl rfl (dnew_ok (2 * nk) _ (by omega) (by omega)) (fun v wa ⟨p, hv, hN, _⟩ => ?_)
  subst hv
  have hp : Hp wa [(_, Cl [_, _, _, _, _] _), _, _] := hp.add hN
  have hdk : ∀ y ∈ [p.gd, p.gn, p.gl], w.heap.size ≤ y := fun y hy => Nat.le_trans hF.size (hN.nw y hy)
  have hF := hF.step0 hN.fr
  refine Ls_y (wtd0 rfl) rfl rfl (y_move rfl rfl) ?_
  refine Ls_y (wtd0 rfl) rfl rfl (y_ext rfl rfl rfl) ?_
  refine Ls_y (wtd0 rfl) rfl rfl (y_ext rfl rfl rfl) ?_
  refine Ls_y (wtd0 rfl) rfl rfl (y_assign rfl rfl) ?_
  refine Ls_y (wtd0 rfl) rfl rfl (y_assign rfl rfl) ?_
  refine Ls_nil (Th_n (hK5 _ _ ?_))
  refine Wp_seq fun K6 hK6 => ?_
  refine Wp_region ?_
  refine Ls_y (wtd0 rfl) rfl rfl (y_move rfl rfl) ?_
  refine Ls_y (wtd0 rfl) rfl rfl (y_move rfl rfl) ?_
  refine Ls_a (wtd0 rfl) ?_
  refine a_call rfl rfl rfl rfl (mopen_blank p (newD (2 * nk)) 0 nk _ (hp.picks [0, 1, 2] (by decide)) hcl.1 (by omega) (by rw [hcl.2]; omega) (by rw [hm0]; decide) hz0 hz1) (fun v wb ⟨gm, hv, hN⟩ => ?_)
  rw [hm0] at hN
  have hN : New wa wb [(some gm, Cl (mC p.gd ⟨0, nk, 1, 0, 0, [], false⟩) 74)] := hN
  subst hv
  have hp : Hp wb [(_, Cl [_, _, _, _, _] _), _, _, (_, Cl [_, _, _, _, _, _, _, _] _)] := hp.add hN
  have hgm := Nat.le_trans hF.size (hN.nw gm (by simp [keys]))
  have hF := hF.step0 hN.fr
  refine Ls_y (wtd0 rfl) rfl rfl (y_move rfl rfl) ?_
  refine Ls_y (wtd0 rfl) rfl rfl (y_ext rfl rfl rfl) ?_
  refine Ls_y (wtd0 rfl) rfl rfl (y_ext rfl rfl rfl) ?_
  refine Ls_y (wtd0 rfl) rfl rfl (y_assign rfl rfl) ?_
  refine Ls_y (wtd0 rfl) rfl rfl (y_assign rfl rfl) ?_
  refine Ls_nil (Th_n (hK6 _ _ ?_))
  refine Wp_seq fun K7 hK7 => ?_
  refine Wp_seq fun K8 hK8 => ?_
  refine Wp_region ?_
  refine Ls_y (wtd0 rfl) rfl rfl (y_move rfl rfl) ?_
  refine Ls_y (wtd0 rfl) rfl rfl (y_neF rfl rfl rfl (by omega)) ?_
  refine Ls_y (wtd0 rfl) rfl rfl (y_move rfl rfl) ?_
  refine Ls_y (wtdT rfl rfl rfl) rfl rfl (y_move rfl rfl) ?_
  refine Ls_y (wtdT rfl rfl rfl) rfl rfl (y_eqnp rfl rfl rfl Try.underlying42) ?_
  refine Ls_bool 36 rfl (fun hc1 => absurd hc1 (by simp)) (fun _ => ?_)
  refine Ls_y (wtd0 rfl) rfl rfl (y_pick_f rfl rfl rfl) ?_
  refine Ls_nil (Th_n (hK8 _ _ ?_))
  refine Wp_cond_f rfl ?_
  refine Wp_skip (Th_n (hK7 _ _ ?_))
  refine Wp_seq fun K9 hK9 => ?_
  refine Wp_region ?_
  refine Ls_y (wtd0 rfl) rfl rfl (y_move rfl rfl) ?_
  refine Ls_a (wtd0 rfl) ?_
  refine a_call rfl rfl rfl rfl (mroom_ok gm p.gd ⟨0, nk, 1, 0, 0, [], false⟩ _ (hp.picks [3] (by decide)) ⟨by simp only; omega, by simp only; omega, by simp only; omega⟩) (fun v wr ⟨hv, hw⟩ => ?_)
  have hv : v = .int .i64 ((R : Nat) : Int) := by rw [hv]; congr 1; unfold mroom; simp only; omega
  subst hv
  subst hw
  refine Ls_a (wtd0 rfl) ?_
  refine a_mksl rfl rfl rfl rfl rfl Ty.es_45 Ty.zc_5 rfl Ty.by_5 (Nat.le_refl R) (by first | decide | omega) (by first | decide | omega) hp (fun ga wc (hp : Hp wc [(_, Cl [_, _, _, _, _] _), _, _, (_, Cl [_, _, _, _, _, _, _, _] _), _]) hf hga => ?_)
  have hga := Nat.le_trans hF.size hga
  have hF := hF.step0 hf
  have hzf := zeros_flat R
  refine Ls_y (wtd0 rfl) rfl rfl (y_cvb (r := List.replicate R 0) rfl rfl Try.underlying45 Try.underlying5 Try.underlying9 (by simp) (by rintro _ rfl; have hh := range_all (i := 4) hp rfl; rw [hzf] at hh; exact hh)) ?_
  refine Ls_y (wtd0 rfl) rfl rfl (y_assign rfl rfl) ?_
  refine Ls_nil (Th_n (hK9 _ _ ?_))
  refine Wp_seq fun K10 hK10 => ?_
  refine Wp_seq fun K11 hK11 => ?_
  refine Wp_region ?_
  refine Ls_y (wtd0 rfl) rfl rfl (y_move rfl rfl) ?_
  refine Ls_a (wtd0 rfl) ?_
  refine a_call rfl rfl rfl rfl (mroom_ok gm p.gd ⟨0, nk, 1, 0, 0, [], false⟩ _ (hp.picks [3] (by decide)) ⟨by simp only; omega, by simp only; omega, by simp only; omega⟩) (fun v wr ⟨hv, hw⟩ => ?_)
  have hv : v = .int .i64 ((R : Nat) : Int) := by rw [hv]; congr 1; unfold mroom; simp only; omega
  subst hv
  subst hw
  refine Ls_y (wtd0 rfl) rfl rfl (y_gtT rfl rfl rfl (by omega)) ?_
  refine Ls_y (wtd0 rfl) rfl rfl (y_move rfl rfl) ?_
  refine Ls_y (wtdT rfl rfl rfl) rfl rfl (y_move rfl rfl) ?_
  refine Ls_y (wtdT rfl rfl rfl) rfl rfl (y_move rfl rfl) ?_
  refine Ls_y (wtdT rfl rfl rfl) rfl rfl (y_move rfl rfl) ?_
  refine Ls_a (wtdT rfl rfl rfl) ?_
  refine a_call rfl rfl rfl rfl (mput_calm gm p (newD (2 * nk)) ⟨0, nk, 1, 0, 0, [], false⟩ _ (hp.picks [0, 1, 2, 3] (by decide)) hcl.1 ⟨by simp only; omega, by simp only; omega, by simp only; omega⟩ rfl frm hfr (List.replicate R 0) (by simp; omega) hb1 (show (0 : Int) ≤ 1 ∧ (1 : Int) < 65536 by decide) (by simp) (fun k hk => by rw [hcl.2]; unfold chK at hk; simp only [mSlot]; omega)) (fun v wd ⟨hv, D1, hD1, hM⟩ => ?_)
  subst hv
  have hp : Hp wd [_, (_, Cl [_, _, _, _, _] _), _, _, (_, Cl [_, _, _, _, _, _, _, _] _)] := hp.call [4] [0, 1, 2, 3] (by decide) rfl hM
  have hF := hF.step hM.fr (fr_mk hdk hgm)
  refine Ls_y (wtdT rfl rfl rfl) rfl rfl (y_neF rfl rfl rfl (by omega)) ?_
  refine Ls_y (wtd0 rfl) rfl rfl (y_pick_t rfl rfl rfl) ?_
  refine Ls_nil (Th_n (hK11 _ _ ?_))
  refine Wp_cond_f rfl ?_
  refine Wp_skip (Th_n (hK10 _ _ ?_))
  refine Wp_seq fun K12 hK12 => ?_
  refine Wp_region ?_
  refine Ls_y (wtd0 rfl) rfl rfl (y_move rfl rfl) ?_
  refine Ls_a (wtd0 rfl) ?_
  refine a_call rfl rfl rfl rfl (mcount_ok gm p.gd ⟨0, nk, 1, 0 + 1, (frm : Int), List.replicate R 0, false⟩ _ (hp.picks [4] (by decide))) (fun v wc ⟨hv, hw⟩ => ?_)
  have hv : v = .int .u32 1 := hv
  subst hv
  subst hw
  refine Ls_y (wtd0 rfl) rfl rfl (y_assign rfl rfl) ?_
  refine Ls_nil (Th_n (hK12 _ _ ?_))
  refine Wp_seq fun K13 hK13 => ?_
  refine Wp_seq fun K14 hK14 => ?_
  refine Wp_region ?_
  refine Ls_y (wtd0 rfl) rfl rfl (y_move rfl rfl) ?_
  refine Ls_y (wtd0 rfl) rfl rfl (y_move rfl rfl) ?_
  refine Ls_y (wtd0 rfl) rfl rfl (y_move rfl rfl) ?_
  refine Ls_y (wtd0 rfl) rfl rfl (y_mul (c := ((50 * nk : Nat) : Int)) rfl rfl rfl (by rw [IntKind.wrap_i64]; omega)) ?_
  refine Ls_y (wtd0 rfl) rfl rfl (y_move rfl rfl) ?_
  refine Ls_y (wtd0 rfl) rfl rfl (y_cvi rfl rfl Try.underlying3 Try.underlying24 wm_u64) ?_
  refine Ls_y (wtd0 rfl) rfl rfl (y_remP rfl rfl rfl (by omega) (by omega)) ?_
  refine Ls_y (wtd0 rfl) rfl rfl (y_cvi rfl rfl Try.underlying24 Try.underlying3 hwx) ?_
  refine Ls_y (wtd0 rfl) rfl rfl (y_add (c := ((L2 : Nat) : Int)) rfl rfl rfl (by rw [IntKind.wrap_i64]; omega)) ?_
  refine Ls_a (wtd0 rfl) ?_
  refine a_mksl rfl rfl rfl rfl rfl Ty.es_45 Ty.zc_5 rfl Ty.by_5 (Nat.le_refl L2) (by first | decide | omega) (by first | decide | omega) hp (fun gc we (hp : Hp we [_, (_, Cl [_, _, _, _, _] _), _, _, (_, Cl [_, _, _, _, _, _, _, _] _), _]) hf hgc => ?_)
  have hgc := Nat.le_trans hF.size hgc
  have hF := hF.step0 hf
  have hzf := zeros_flat L2
  refine Ls_y (wtd0 rfl) rfl rfl (y_cvb (r := List.replicate L2 0) rfl rfl Try.underlying45 Try.underlying5 Try.underlying9 (by simp) (by rintro _ rfl; have hh := range_all (i := 5) hp rfl; rw [hzf] at hh; exact hh)) ?_
  refine Ls_a (wtd0 rfl) ?_
  refine a_call rfl rfl rfl rfl (mput_full gm p D1 ⟨0, nk, 1, 0 + 1, (frm : Int), List.replicate R 0, false⟩ _ (hp.picks [1, 2, 3, 4] (by decide)) hD1.1.ok ⟨by simp only; omega, by simp only; omega, by simp only; omega⟩ rfl frm hfr (List.replicate L2 0) (by simp; omega) hb2) (fun v wf ⟨hv, hM⟩ => ?_)
  subst hv
  have hp : Hp wf [_, _, (_, Cl [_, _, _, _, _] _), _, _, (_, Cl [_, _, _, _, _, _, _, _] _)] := hp.call [0, 5] [1, 2, 3, 4] (by decide) rfl hM
  have hF := hF.step hM.fr (fr_mk hdk hgm)
  refine Ls_y (wtd0 rfl) rfl rfl (y_neF rfl rfl rfl (by omega)) ?_
  refine Ls_y (wtd0 rfl) rfl rfl (y_move rfl rfl) ?_
  refine Ls_y (wtdT rfl rfl rfl) rfl rfl (y_move rfl rfl) ?_
  refine Ls_a (wtdT rfl rfl rfl) ?_
  refine a_call rfl rfl rfl rfl (mcount_ok gm p.gd ⟨0, nk, 1, 0 + 1, (frm : Int), List.replicate R 0, false⟩ _ (hp.picks [5] (by decide))) (fun v wc ⟨hv, hw⟩ => ?_)
  have hv : v = .int .u32 1 := hv
  subst hv
  subst hw
  refine Ls_y (wtdT rfl rfl rfl) rfl rfl (y_move rfl rfl) ?_
  refine Ls_y (wtdT rfl rfl rfl) rfl rfl (y_neF rfl rfl rfl (by omega)) ?_
  refine Ls_y (wtd0 rfl) rfl rfl (y_pick_f rfl rfl rfl) ?_
  refine Ls_nil (Th_n (hK14 _ _ ?_))
  refine Wp_cond_f rfl ?_
  refine Wp_skip (Th_n (hK13 _ _ ?_))
  refine Wp_seq fun K15 hK15 => ?_
  refine Wp_region ?_
  refine Ls_y (wtd0 rfl) rfl rfl (y_move rfl rfl) ?_
  refine Ls_y (wtd0 rfl) rfl rfl (y_move rfl rfl) ?_
  refine Ls_a (wtd0 rfl) ?_
  refine a_call rfl rfl rfl rfl (mput_calm gm p D1 ⟨0, nk, 1, 0 + 1, (frm : Int), List.replicate R 0, false⟩ _ (hp.picks [2, 3, 4, 5] (by decide)) hD1.1 ⟨by simp only; omega, by simp only; omega, by simp only; omega⟩ rfl frm hfr [] (by simp) (Nat.le_trans hb3 (by simp only; omega)) (show (0 : Int) ≤ 1 ∧ (1 : Int) < 65536 by decide) (by simp) (fun k hk => by rw [hD1.2, hcl.2]; unfold chK at hk; simp only [mSlot]; omega)) (fun v wg ⟨hv, D2, hD2, hM⟩ => ?_)
  subst hv
  have hp : Hp wg [_, _, (_, Cl [_, _, _, _, _] _), _, _, (_, Cl [_, _, _, _, _, _, _, _] _)] := hp.call [0, 1] [2, 3, 4, 5] (by decide) rfl hM
  have hF := hF.step hM.fr (fr_mk hdk hgm)
  refine Ls_y (wtd0 rfl) rfl rfl (y_eqT rfl rfl rfl (by omega)) ?_
  refine Ls_y (wtd0 rfl) rfl rfl (y_assign rfl rfl) ?_
  refine Ls_nil (Th_n (hK15 _ _ ?_))
  refine Wp_ret (Fq_ret (Res1 rfl rfl) ?_)
  exact ⟨rfl, hF⟩

end Go.Proofs.Ytcpfhnfpokijaaa

/- Walks printed by gen.py out of our own specifications: what the functions named below do. -/
import Derived.Test.YtcpfhnfpokijaaaJ10
set_option linter.unusedSimpArgs false
set_option linter.unusedVariables false
namespace Go.Proofs.Ytcpfhnfpokijaaa
open Go.RowKit

set_option maxRecDepth 20000 in
set_option maxHeartbeats 4000000 in
theorem works18_ok (w : World) : Fn Try.prog 5 [] w fun v w' => v = .bool true ∧ Fr [] w w' := by
  refine Fn_of 123 Ty.en_5 Try.func5 rfl rfl rfl ?_
  dsimp only [argEnv]
  have hp := Hp.nil w
  have hF := Fr.refl [] w
  refine Wp_seq fun K1 hK1 => ?_
  refine Wp_region ?_
  refine Ls_y (wtd0 rfl) rfl rfl (y_assign rfl rfl) ?_
  refine Ls_nil (Th_n (hK1 _ _ ?_))
  refine Wp_seq fun K2 hK2 => ?_
  refine Wp_region ?_
  refine Ls_a (wtd0 rfl) ?_
  refine a_call rfl rfl rfl rfl (dnew_ok 10 _ (by decide) (by decide)) (fun v wa ⟨p, hv, hN, _⟩ => ?_)
  subst hv
  have hp : Hp wa [(_, Cl [_, _, _, _, _] _), _, _] := hp.add hN
  have hdk : ∀ y ∈ [p.gd, p.gn, p.gl], w.heap.size ≤ y := fun y hy => Nat.le_trans hF.size (hN.nw y hy)
  have hF := hF.step0 hN.fr
  refine Ls_y (wtd0 rfl) rfl rfl (y_move rfl rfl) ?_
  refine Ls_y (wtd0 rfl) rfl rfl (y_ext rfl rfl rfl) ?_
  refine Ls_y (wtd0 rfl) rfl rfl (y_ext rfl rfl rfl) ?_
  refine Ls_y (wtd0 rfl) rfl rfl (y_assign rfl rfl) ?_
  refine Ls_y (wtd0 rfl) rfl rfl (y_assign rfl rfl) ?_
  refine Ls_nil (Th_n (hK2 _ _ ?_))
  refine Wp_seq fun K3 hK3 => ?_
  refine Wp_region ?_
  refine Ls_y (wtd0 rfl) rfl rfl (y_move rfl rfl) ?_
  refine Ls_a (wtd0 rfl) ?_
  refine a_call rfl rfl rfl rfl (jopen_ok p (newD 10) 2 8 1 0 _ (hp.picks [0, 1, 2] (by decide)) wc0.1 (by first | decide | omega) (by rw [wc0.2]; first | decide | omega) (by first | decide | omega) (by decide) wg0) (fun v wb ⟨gj, A0, c0, sp0, hv, how0, hN⟩ => ?_)
  rw [wf0.1, wf0.2] at hN
  rw [wf0.2] at hv
  subst hv
  have hp : Hp wb [(_, Cl [_, _, _, _, _] _), _, _, (_, Cl [_, _, _, _, _, _, _, _, _] _), _] := hp.add hN
  have hgj := Nat.le_trans hF.size (hN.nw gj (by simp [keys]))
  have hF := hF.step0 hN.fr
  refine Ls_y (wtd0 rfl) rfl rfl (y_move rfl rfl) ?_
  refine Ls_y (wtd0 rfl) rfl rfl (y_ext rfl rfl rfl) ?_
  refine Ls_y (wtd0 rfl) rfl rfl (y_ext rfl rfl rfl) ?_
  refine Ls_y (wtd0 rfl) rfl rfl (y_ext rfl rfl rfl) ?_
  refine Ls_y (wtd0 rfl) rfl rfl (y_assign rfl rfl) ?_
  refine Ls_y (wtd0 rfl) rfl rfl (y_assign rfl rfl) ?_
  refine Ls_y (wtd0 rfl) rfl rfl (y_assign rfl rfl) ?_
  refine Ls_nil (Th_n (hK3 _ _ ?_))
  refine Wp_seq fun K4 hK4 => ?_
  refine Wp_seq fun K5 hK5 => ?_
  refine Wp_region ?_
  refine Ls_y (wtd0 rfl) rfl rfl (y_move rfl rfl) ?_
  refine Ls_y (wtd0 rfl) rfl rfl (y_neF rfl rfl rfl (by omega)) ?_
  refine Ls_y (wtd0 rfl) rfl rfl (y_move rfl rfl) ?_
  refine Ls_y (wtdT rfl rfl rfl) rfl rfl (y_move rfl rfl) ?_
  refine Ls_y (wtdT rfl rfl rfl) rfl rfl (y_eqnp rfl rfl rfl Try.underlying29) ?_
  refine Ls_bool 33 rfl (fun hc1 => absurd hc1 (by simp)) (fun _ => ?_)
  refine Ls_y (wtd0 rfl) rfl rfl (y_pick_f rfl rfl rfl) ?_
  refine Ls_y (wtd0 rfl) rfl rfl (y_move rfl rfl) ?_
  refine Ls_y (wtdT rfl rfl rfl) rfl rfl (y_move rfl rfl) ?_
  refine Ls_y (wtdT rfl rfl rfl) rfl rfl (y_lenl rfl rfl Try.underlying22) ?_
  refine Ls_y (wtdT rfl rfl rfl) rfl rfl (y_gt rfl rfl rfl) ?_
  refine Ls_bool 38 rfl (fun hc2 => absurd hc2 (by simp)) (fun _ => ?_)
  refine Ls_y (wtd0 rfl) rfl rfl (y_pick_f rfl rfl rfl) ?_
  refine Ls_nil (Th_n (hK5 _ _ ?_))
  refine Wp_cond_f rfl ?_
  refine Wp_skip (Th_n (hK4 _ _ ?_))
  refine Wp_seq fun K6 hK6 => ?_
  refine Wp_region ?_
  refine Ls_a (wtd0 rfl) ?_
  refine a_mksl rfl rfl rfl rfl rfl Ty.es_45 Ty.zc_5 rfl Ty.by_5 (Nat.le_refl 120) (by decide) (by decide) hp (fun ga wc (hp : Hp wc [(_, Cl [_, _, _, _, _] _), _, _, (_, Cl [_, _, _, _, _, _, _, _, _] _), _, _]) hf hga => ?_)
  have hga := Nat.le_trans hF.size hga
  have hF := hF.step0 hf
  refine Ls_y (wtd0 rfl) rfl rfl (y_cvb (r := wLong) rfl rfl Try.underlying45 Try.underlying5 Try.underlying9 (by decide) (by rintro _ rfl; exact range_all (i := 5) hp rfl)) ?_
  refine Ls_y (wtd0 rfl) rfl rfl (y_assign rfl rfl) ?_
  refine Ls_nil (Th_n (hK6 _ _ ?_))
  refine Wp_seq fun K7 hK7 => ?_
  refine Wp_region ?_
  refine Ls_y (wtd0 rfl) rfl rfl (y_move rfl rfl) ?_
  refine Ls_a (wtd0 rfl) ?_
  refine a_call rfl rfl rfl rfl (jappend_ok gj p (newD 10) (wJ 1 1) _ (hp.picks [0, 1, 2, 3] (by decide)) wc0.1 (wJ_ok (nx := 1) (ls := 1) (by decide) (by decide) (by decide)) rfl (by rw [wc0.2]; decide) (by decide) [97] (by decide)) (fun v wd ⟨hv, hM⟩ => ?_)
  rw [we1.1] at hv
  rw [we1.2, wq1] at hM
  subst hv
  have hp : Hp wd [_, _, (_, Cl [_, _, _, _, _] _), _, _, (_, Cl [_, _, _, _, _, _, _, _, _] _)] := hp.call [4, 5] [0, 1, 2, 3] (by decide) rfl hM
  have hF := hF.step hM.fr (fr_jk hdk hgj)
  refine Ls_y (wtd0 rfl) rfl rfl (y_move rfl rfl) ?_
  refine Ls_y (wtd0 rfl) rfl rfl (y_move rfl rfl) ?_
  refine Ls_a (wtd0 rfl) ?_
  refine a_call rfl rfl rfl rfl (jappend_ok gj p wD1 (wJ 2 1) _ (hp.picks [2, 3, 4, 5] (by decide)) wc1.1 (wJ_ok (nx := 2) (ls := 1) (by decide) (by decide) (by decide)) rfl (by rw [wc1.2]; decide) (by decide) wLong (by decide)) (fun v we ⟨hv, hM⟩ => ?_)
  rw [we2.1] at hv
  rw [we2.2, wq2] at hM
  subst hv
  have hp : Hp we [_, _, (_, Cl [_, _, _, _, _] _), _, _, (_, Cl [_, _, _, _, _, _, _, _, _] _)] := hp.call [0, 1] [2, 3, 4, 5] (by decide) rfl hM
  have hF := hF.step hM.fr (fr_jk hdk hgj)
  refine Ls_y (wtd0 rfl) rfl rfl (y_move rfl rfl) ?_
  refine Ls_a (wtd0 rfl) ?_
  refine a_call rfl rfl rfl rfl (jsync_ok gj p wD2 (wJ 5 1) _ (hp.picks [2, 3, 4, 5] (by decide)) wc2.1 rfl) (fun v wf ⟨hv, hM⟩ => ?_)
  subst hv
  rw [wq3, wq3j] at hM
  have hp : Hp wf [_, _, (_, Cl [_, _, _, _, _] _), _, _, (_, Cl [_, _, _, _, _, _, _, _, _] _)] := hp.call [0, 1] [2, 3, 4, 5] (by decide) rfl hM
  have hF := hF.step hM.fr (fr_jk hdk hgj)
  refine Ls_y (wtd0 rfl) rfl rfl (y_move rfl rfl) ?_
  refine Ls_a (wtd0 rfl) ?_
  refine a_call rfl rfl rfl rfl (jlasts_ok gj p.gd (wJ 5 5) _ (hp.picks [5] (by decide))) (fun v wg ⟨hv, hw⟩ => ?_)
  have hv : v = .int .u32 5 := hv
  subst hv
  subst hw
  refine Ls_y (wtd0 rfl) rfl rfl (y_assign rfl rfl) ?_
  refine Ls_y (wtd0 rfl) rfl rfl (y_assign rfl rfl) ?_
  refine Ls_y (wtd0 rfl) rfl rfl (y_assign rfl rfl) ?_
  refine Ls_y (wtd0 rfl) rfl rfl (y_assign rfl rfl) ?_
  refine Ls_nil (Th_n (hK7 _ _ ?_))
  refine Wp_seq fun K8 hK8 => ?_
  refine Wp_px (fun _ => True) 8 rfl Ty.mx_0 trivial ?_
  have hp := hp.drew
  have hF := hF.step0 (Fr.drew _)
  refine Px_y (i := 0) rfl (by kernel_rfl) (wtd0 rfl) rfl rfl (y_move rfl rfl) ?_
  refine Px_y (i := 2) rfl (by kernel_rfl) (wtd0 rfl) rfl rfl (y_move rfl rfl) ?_
  refine Px_a2 (i := 1) (j := 3) (by kernel_rfl) rfl (wtd0 rfl) rfl (wtd0 rfl) ?_ ?_
  · refine a_call rfl rfl rfl rfl (jappend_ok gj p wD3 (wJ 5 5) _ (hp.picks [2, 3, 4, 5] (by decide)) wc3.1 (wJ_ok (nx := 5) (ls := 5) (by decide) (by decide) (by decide)) rfl (by rw [wc3.2]; decide) (by decide) [99] (by decide)) (fun v wh ⟨hv, hM⟩ => ?_)
    rw [we4.1] at hv
    rw [we4.2, wq4] at hM
    subst hv
    have hp : Hp wh [_, _, (_, Cl [_, _, _, _, _] _), _, _, (_, Cl [_, _, _, _, _, _, _, _, _] _)] := hp.call [0, 1] [2, 3, 4, 5] (by decide) rfl hM
    have hF := hF.step hM.fr (fr_jk hdk hgj)
    refine ⟨trivial, ?_⟩
    refine Px_a (i := 3) (by kernel_rfl) rfl (wtd0 rfl) ?_
    refine a_mksl rfl rfl rfl rfl rfl Ty.es_45 Ty.zc_5 rfl Ty.by_5 (Nat.le_refl 200) (by decide) (by decide) hp (fun gb wi (hp : Hp wi [_, _, (_, Cl [_, _, _, _, _] _), _, _, (_, Cl [_, _, _, _, _, _, _, _, _] _), _]) hf hgb => ?_)
    have hgb := Nat.le_trans hF.size hgb
    have hF := hF.step0 hf
    refine ⟨trivial, ?_⟩
    have hS0 : Hp _ [_] := hp.picks [6] (by decide)
    refine Px_str (fun W => Hp W (heapOf hS0)) (fun _ h => trivial) hS0 ?_
    refine Px_y (i := 4) rfl (by kernel_rfl) (wtd0 rfl) rfl rfl (y_cvb (r := wMore) rfl rfl Try.underlying45 Try.underlying5 Try.underlying9 (by decide) (fun _ hS => range_all (i := 0) hS rfl)) ?_
    refine Px_a (i := 5) (by kernel_rfl) rfl (wtd0 rfl) ?_
    refine a_call rfl rfl rfl rfl (jappend_ok gj p wD4 (wJ 6 5) _ (hp.picks [2, 3, 4, 5] (by decide)) wc4.1 (wJ_ok (nx := 6) (ls := 5) (by decide) (by decide) (by decide)) rfl (by rw [wc4.2]; decide) (by decide) wMore (by decide)) (fun v wj ⟨hv, hM⟩ => ?_)
    rw [we5.1] at hv
    rw [we5.2, wq5] at hM
    subst hv
    have hp : Hp wj [_, _, _, (_, Cl [_, _, _, _, _] _), _, _, (_, Cl [_, _, _, _, _, _, _, _, _] _)] := hp.call [0, 1, 6] [2, 3, 4, 5] (by decide) rfl hM
    have hF := hF.step hM.fr (fr_jk hdk hgj)
    refine ⟨hp.picks [2] (by decide), ?_⟩
    refine Px_y (i := 6) rfl (by kernel_rfl) (wtd0 rfl) rfl rfl (y_assign rfl rfl) ?_
    refine Px_y (i := 7) rfl (by kernel_rfl) (wtd0 rfl) rfl rfl (y_assign rfl rfl) ?_
    refine Px_done (by kernel_rfl) (Th_n (hK8 _ _ ?_))
    refine Wp_seq fun K9 hK9 => ?_
    refine Wp_region ?_
    refine Ls_y (wtd0 rfl) rfl rfl (y_move rfl rfl) ?_
    have hp := hp.addNone (Cl [] 3)
    refine Ls_a (wtd0 rfl) ?_
    refine a_call rfl rfl rfl rfl (dmend_ok p wD5 _ none 0 [] [] (Ow.nil 1) (hp.picks [3, 4, 5, 7] (by decide)) wc5.1.ok) (fun v wk ⟨hv, hM⟩ => ?_)
    subst hv
    rw [wq6] at hM
    have hp : Hp wk [_, _, _, (_, Cl [_, _, _, _, _, _, _, _, _] _), (_, Cl [_, _, _, _, _] _), _, _, _] := hp.call [0, 1, 2, 6] [3, 4, 5, 7] (by decide) rfl hM
    have hF := hF.step hM.fr (fr_dkn hdk)
    refine Ls_nil (Th_n (hK9 _ _ ?_))
    refine Wp_seq fun K10 hK10 => ?_
    refine Wp_region ?_
    refine Ls_y (wtd0 rfl) rfl rfl (y_move rfl rfl) ?_
    refine Ls_a (wtd0 rfl) ?_
    refine a_call rfl rfl rfl rfl (jopen_ok p wD6 2 8 1 0 _ (hp.picks [4, 5, 6] (by decide)) wc6.1 (by first | decide | omega) (by rw [wc6.2]; first | decide | omega) (by first | decide | omega) (by decide) wg6) (fun v wl ⟨gj2, A2, c2, sp2, hv, how2, hN⟩ => ?_)
    rw [wf6.2] at hN how2 hv
    subst hv
    have hp : Hp wl [_, _, _, (_, Cl [_, _, _, _, _, _, _, _, _] _), (_, Cl [_, _, _, _, _] _), _, _, _, (_, Cl [_, _, _, _, _, _, _, _, _] _), _] := hp.add hN
    have hgj2 := Nat.le_trans hF.size (hN.nw gj2 (by simp [keys]))
    have hF := hF.step0 hN.fr
    refine Ls_y (wtd0 rfl) rfl rfl (y_move rfl rfl) ?_
    refine Ls_y (wtd0 rfl) rfl rfl (y_ext rfl rfl rfl) ?_
    refine Ls_y (wtd0 rfl) rfl rfl (y_ext rfl rfl rfl) ?_
    refine Ls_y (wtd0 rfl) rfl rfl (y_ext rfl rfl rfl) ?_
    refine Ls_y (wtd0 rfl) rfl rfl (y_assign rfl rfl) ?_
    refine Ls_y (wtd0 rfl) rfl rfl (y_assign rfl rfl) ?_
    refine Ls_y (wtd0 rfl) rfl rfl (y_assign rfl rfl) ?_
    refine Ls_nil (Th_n (hK10 _ _ ?_))
    refine Wp_seq fun K11 hK11 => ?_
    refine Wp_seq fun K12 hK12 => ?_
    refine Wp_region ?_
    refine Ls_y (wtd0 rfl) rfl rfl (y_move rfl rfl) ?_
    refine Ls_y (wtd0 rfl) rfl rfl (y_neF rfl rfl rfl (by omega)) ?_
    refine Ls_y (wtd0 rfl) rfl rfl (y_move rfl rfl) ?_
    refine Ls_y (wtdT rfl rfl rfl) rfl rfl (y_move rfl rfl) ?_
    refine Ls_y (wtdT rfl rfl rfl) rfl rfl (y_eqnp rfl rfl rfl Try.underlying29) ?_
    refine Ls_bool 69 rfl (fun hc3 => absurd hc3 (by simp)) (fun _ => ?_)
    refine Ls_y (wtd0 rfl) rfl rfl (y_pick_f rfl rfl rfl) ?_
    refine Ls_nil (Th_n (hK12 _ _ ?_))
    refine Wp_cond_f rfl ?_
    refine Wp_skip (Th_n (hK11 _ _ ?_))
    refine Wp_seq fun K13 hK13 => ?_
    refine Wp_region ?_
    refine Ls_y (wtd0 rfl) rfl rfl (y_move rfl rfl) ?_
    refine Ls_a (wtd0 rfl) ?_
    refine a_call rfl rfl rfl rfl (jopen_bad p wD6 3 8 1 0 _ (hp.picks [4, 5, 6] (by decide)) wc6.1.ok (by decide) (by rw [wc6.2]; decide) (by rw [wc6.2]; decide)) (fun v wm ⟨hv, hf⟩ => ?_)
    subst hv
    have hp := hp.keep0 hf
    have hF := hF.step0 hf
    refine Ls_y (wtd0 rfl) rfl rfl (y_move rfl rfl) ?_
    refine Ls_y (wtd0 rfl) rfl rfl (y_ext rfl rfl rfl) ?_
    refine Ls_y (wtd0 rfl) rfl rfl (y_ext rfl rfl rfl) ?_
    refine Ls_y (wtd0 rfl) rfl rfl (y_ext rfl rfl rfl) ?_
    refine Ls_y (wtd0 rfl) rfl rfl (y_assign rfl rfl) ?_
    refine Ls_y (wtd0 rfl) rfl rfl (y_assign rfl rfl) ?_
    refine Ls_y (wtd0 rfl) rfl rfl (y_assign rfl rfl) ?_
    refine Ls_nil (Th_n (hK13 _ _ ?_))
    refine Wp_seq fun K14 hK14 => ?_
    refine Wp_region ?_
    refine Ls_y (wtd0 rfl) rfl rfl (y_move rfl rfl) ?_
    refine Ls_y (wtd0 rfl) rfl rfl (y_eqT rfl rfl rfl (by omega)) ?_
    refine Ls_y (wtd0 rfl) rfl rfl (y_move rfl rfl) ?_
    refine Ls_y (wtdT rfl rfl rfl) rfl rfl (y_move rfl rfl) ?_
    refine Ls_y (wtdT rfl rfl rfl) rfl rfl (y_eqT rfl rfl rfl (by omega)) ?_
    refine Ls_y (wtd0 rfl) rfl rfl (y_pick_t rfl rfl rfl) ?_
    refine Ls_y (wtd0 rfl) rfl rfl (y_move rfl rfl) ?_
    refine Ls_y (wtdT rfl rfl rfl) rfl rfl (y_move rfl rfl) ?_
    refine Ls_y (wtdT rfl rfl rfl) rfl rfl (y_eqT rfl rfl rfl (by omega)) ?_
    refine Ls_y (wtd0 rfl) rfl rfl (y_pick_t rfl rfl rfl) ?_
    refine Ls_y (wtd0 rfl) rfl rfl (y_move rfl rfl) ?_
    refine Ls_y (wtdT rfl rfl rfl) rfl rfl (y_move rfl rfl) ?_
    refine Ls_y (wtdT rfl rfl rfl) rfl rfl (y_eqT rfl rfl rfl (by omega)) ?_
    refine Ls_y (wtd0 rfl) rfl rfl (y_pick_t rfl rfl rfl) ?_
    refine Ls_y (wtd0 rfl) rfl rfl (y_move rfl rfl) ?_
    refine Ls_y (wtdT rfl rfl rfl) rfl rfl (y_move rfl rfl) ?_
    refine Ls_y (wtdT rfl rfl rfl) rfl rfl (y_eqT rfl rfl rfl (by omega)) ?_
    refine Ls_y (wtd0 rfl) rfl rfl (y_pick_t rfl rfl rfl) ?_
    refine Ls_y (wtd0 rfl) rfl rfl (y_move rfl rfl) ?_
    refine Ls_y (wtdT rfl rfl rfl) rfl rfl (y_move rfl rfl) ?_
    refine Ls_y (wtdT rfl rfl rfl) rfl rfl (y_eqT rfl rfl rfl (by omega)) ?_
    refine Ls_y (wtd0 rfl) rfl rfl (y_pick_t rfl rfl rfl) ?_
    refine Ls_y (wtd0 rfl) rfl rfl (y_move rfl rfl) ?_
    refine Ls_y (wtdT rfl rfl rfl) rfl rfl (y_move rfl rfl) ?_
    refine Ls_y (wtdT rfl rfl rfl) rfl rfl (y_move rfl rfl) ?_
    refine Ls_a (wtdT rfl rfl rfl) ?_
    refine a_bsl rfl rfl rfl rfl rfl Ty.es_22 Ty.zc_9 rfl (by decide) (by simp [Value.cells]) hp (fun gs wn (hp : Hp wn [_, _, _, (_, Cl [_, _, _, _, _, _, _, _, _] _), (_, Cl [_, _, _, _, _] _), _, _, _, (_, Cl [_, _, _, _, _, _, _, _, _] _), _, (_, Cl [_, _] _)]) hf hgs => ?_)
    have hF := hF.step0 hf
    refine Ls_a (wtdT rfl rfl rfl) ?_
    refine a_call rfl rfl rfl rfl (same_ok [[97], wLong] [[97], wLong] A2 (some ⟨gs, 0, none⟩) c2 2 sp2 [] _ how2 ⟨rfl, .inr ⟨gs, rfl, rfl, by decide, by decide⟩⟩ (by decide) (by decide) (hp.picks [9, 10] (by decide))) (fun v wo ⟨hv, hf⟩ => ?_)
    rw [decide_eq_true rfl] at hv
    subst hv
    have hp := hp.keep0 hf
    have hF := hF.step0 hf
    refine Ls_y (wtd0 rfl) rfl rfl (y_pick_t rfl rfl rfl) ?_
    refine Ls_y (wtd0 rfl) rfl rfl (y_move rfl rfl) ?_
    refine Ls_y (wtdT rfl rfl rfl) rfl rfl (y_move rfl rfl) ?_
    refine Ls_a (wtdT rfl rfl rfl) ?_
    refine a_call rfl rfl rfl rfl (jnext_ok gj2 p.gd (openJ wD6 2 8 1 0) _ (hp.picks [8] (by decide))) (fun v wp ⟨hv, hw⟩ => ?_)
    rw [wf6.1] at hv
    subst hv
    subst hw
    refine Ls_y (wtdT rfl rfl rfl) rfl rfl (y_eqT rfl rfl rfl (by omega)) ?_
    refine Ls_y (wtd0 rfl) rfl rfl (y_pick_t rfl rfl rfl) ?_
    refine Ls_y (wtd0 rfl) rfl rfl (y_move rfl rfl) ?_
    refine Ls_y (wtdT rfl rfl rfl) rfl rfl (y_move rfl rfl) ?_
    refine Ls_y (wtdT rfl rfl rfl) rfl rfl (y_eqT rfl rfl rfl (by omega)) ?_
    refine Ls_y (wtd0 rfl) rfl rfl (y_pick_t rfl rfl rfl) ?_
    refine Ls_y (wtd0 rfl) rfl rfl (y_move rfl rfl) ?_
    refine Ls_y (wtdT rfl rfl rfl) rfl rfl (y_move rfl rfl) ?_
    refine Ls_a (wtdT rfl rfl rfl) ?_
    refine a_call rfl rfl rfl rfl (ncells_ok wLong _ (by decide)) (fun v wq ⟨hv, hf⟩ => ?_)
    have hv : v = .int .i64 3 := hv
    subst hv
    have hp := hp.keep0 hf
    have hF := hF.step0 hf
    refine Ls_y (wtdT rfl rfl rfl) rfl rfl (y_eqT rfl rfl rfl (by omega)) ?_
    refine Ls_y (wtd0 rfl) rfl rfl (y_pick_t rfl rfl rfl) ?_
    refine Ls_y (wtd0 rfl) rfl rfl (y_move rfl rfl) ?_
    refine Ls_a (wtdT rfl rfl rfl) ?_
    refine a_call rfl rfl rfl rfl (ncells_ok [] _ (by decide)) (fun v wr ⟨hv, hf⟩ => ?_)
    have hv : v = .int .i64 1 := hv
    subst hv
    have hp := hp.keep0 hf
    have hF := hF.step0 hf
    refine Ls_y (wtdT rfl rfl rfl) rfl rfl (y_eqT rfl rfl rfl (by omega)) ?_
    refine Ls_y (wtd0 rfl) rfl rfl (y_pick_t rfl rfl rfl) ?_
    refine Ls_y (wtd0 rfl) rfl rfl (y_assign rfl rfl) ?_
    refine Ls_nil (Th_n (hK14 _ _ ?_))
    refine Wp_ret (Fq_ret (Res1 rfl rfl) ?_)
    exact ⟨rfl, hF⟩
  · refine a_mksl rfl rfl rfl rfl rfl Ty.es_45 Ty.zc_5 rfl Ty.by_5 (Nat.le_refl 200) (by decide) (by decide) hp (fun gb wi (hp : Hp wi [_, _, (_, Cl [_, _, _, _, _] _), _, _, (_, Cl [_, _, _, _, _, _, _, _, _] _), _]) hf hgb => ?_)
    have hgb := Nat.le_trans hF.size hgb
    have hF := hF.step0 hf
    refine ⟨trivial, ?_⟩
    have hS0 : Hp _ [_] := hp.picks [6] (by decide)
    refine Px_str (fun W => Hp W (heapOf hS0)) (fun _ h => trivial) hS0 ?_
    refine Px_y (i := 4) rfl (by kernel_rfl) (wtd0 rfl) rfl rfl (y_cvb (r := wMore) rfl rfl Try.underlying45 Try.underlying5 Try.underlying9 (by decide) (fun _ hS => range_all (i := 0) hS rfl)) ?_
    refine Px_a (i := 1) (by kernel_rfl) rfl (wtd0 rfl) ?_
    refine a_call rfl rfl rfl rfl (jappend_ok gj p wD3 (wJ 5 5) _ (hp.picks [2, 3, 4, 5] (by decide)) wc3.1 (wJ_ok (nx := 5) (ls := 5) (by decide) (by decide) (by decide)) rfl (by rw [wc3.2]; decide) (by decide) [99] (by decide)) (fun v wh ⟨hv, hM⟩ => ?_)
    rw [we4.1] at hv
    rw [we4.2, wq4] at hM
    subst hv
    have hp : Hp wh [_, _, _, (_, Cl [_, _, _, _, _] _), _, _, (_, Cl [_, _, _, _, _, _, _, _, _] _)] := hp.call [0, 1, 6] [2, 3, 4, 5] (by decide) rfl hM
    have hF := hF.step hM.fr (fr_jk hdk hgj)
    refine ⟨hp.picks [2] (by decide), ?_⟩
    refine Px_a (i := 5) (by kernel_rfl) rfl (wtd0 rfl) ?_
    refine a_call rfl rfl rfl rfl (jappend_ok gj p wD4 (wJ 6 5) _ (hp.picks [3, 4, 5, 6] (by decide)) wc4.1 (wJ_ok (nx := 6) (ls := 5) (by decide) (by decide) (by decide)) rfl (by rw [wc4.2]; decide) (by decide) wMore (by decide)) (fun v wj ⟨hv, hM⟩ => ?_)
    rw [we5.1] at hv
    rw [we5.2, wq5] at hM
    subst hv
    have hp : Hp wj [_, _, _, (_, Cl [_, _, _, _, _] _), _, _, (_, Cl [_, _, _, _, _, _, _, _, _] _)] := hp.call [0, 1, 2] [3, 4, 5, 6] (by decide) rfl hM
    have hF := hF.step hM.fr (fr_jk hdk hgj)
    refine ⟨hp.picks [2] (by decide), ?_⟩
    refine Px_y (i := 6) rfl (by kernel_rfl) (wtd0 rfl) rfl rfl (y_assign rfl rfl) ?_
    refine Px_y (i := 7) rfl (by kernel_rfl) (wtd0 rfl) rfl rfl (y_assign rfl rfl) ?_
    refine Px_done (by kernel_rfl) (Th_n (hK8 _ _ ?_))
    refine Wp_seq fun K15 hK15 => ?_
    refine Wp_region ?_
    refine Ls_y (wtd0 rfl) rfl rfl (y_move rfl rfl) ?_
    have hp := hp.addNone (Cl [] 3)
    refine Ls_a (wtd0 rfl) ?_
    refine a_call rfl rfl rfl rfl (dmend_ok p wD5 _ none 0 [] [] (Ow.nil 1) (hp.picks [3, 4, 5, 7] (by decide)) wc5.1.ok) (fun v wk ⟨hv, hM⟩ => ?_)
    subst hv
    rw [wq6] at hM
    have hp : Hp wk [_, _, _, (_, Cl [_, _, _, _, _, _, _, _, _] _), (_, Cl [_, _, _, _, _] _), _, _, _] := hp.call [0, 1, 2, 6] [3, 4, 5, 7] (by decide) rfl hM
    have hF := hF.step hM.fr (fr_dkn hdk)
    refine Ls_nil (Th_n (hK15 _ _ ?_))
    refine Wp_seq fun K16 hK16 => ?_
    refine Wp_region ?_
    refine Ls_y (wtd0 rfl) rfl rfl (y_move rfl rfl) ?_
    refine Ls_a (wtd0 rfl) ?_
    refine a_call rfl rfl rfl rfl (jopen_ok p wD6 2 8 1 0 _ (hp.picks [4, 5, 6] (by decide)) wc6.1 (by first | decide | omega) (by rw [wc6.2]; first | decide | omega) (by first | decide | omega) (by decide) wg6) (fun v wl ⟨gj2, A2, c2, sp2, hv, how2, hN⟩ => ?_)
    rw [wf6.2] at hN how2 hv
    subst hv
    have hp : Hp wl [_, _, _, (_, Cl [_, _, _, _, _, _, _, _, _] _), (_, Cl [_, _, _, _, _] _), _, _, _, (_, Cl [_, _, _, _, _, _, _, _, _] _), _] := hp.add hN
    have hgj2 := Nat.le_trans hF.size (hN.nw gj2 (by simp [keys]))
    have hF := hF.step0 hN.fr
    refine Ls_y (wtd0 rfl) rfl rfl (y_move rfl rfl) ?_
    refine Ls_y (wtd0 rfl) rfl rfl (y_ext rfl rfl rfl) ?_
    refine Ls_y (wtd0 rfl) rfl rfl (y_ext rfl rfl rfl) ?_
    refine Ls_y (wtd0 rfl) rfl rfl (y_ext rfl rfl rfl) ?_
    refine Ls_y (wtd0 rfl) rfl rfl (y_assign rfl rfl) ?_
    refine Ls_y (wtd0 rfl) rfl rfl (y_assign rfl rfl) ?_
    refine Ls_y (wtd0 rfl) rfl rfl (y_assign rfl rfl) ?_
    refine Ls_nil (Th_n (hK16 _ _ ?_))
    refine Wp_seq fun K17 hK17 => ?_
    refine Wp_seq fun K18 hK18 => ?_
    refine Wp_region ?_
    refine Ls_y (wtd0 rfl) rfl rfl (y_move rfl rfl) ?_
    refine Ls_y (wtd0 rfl) rfl rfl (y_neF rfl rfl rfl (by omega)) ?_
    refine Ls_y (wtd0 rfl) rfl rfl (y_move rfl rfl) ?_
    refine Ls_y (wtdT rfl rfl rfl) rfl rfl (y_move rfl rfl) ?_
    refine Ls_y (wtdT rfl rfl rfl) rfl rfl (y_eqnp rfl rfl rfl Try.underlying29) ?_
    refine Ls_bool 69 rfl (fun hc4 => absurd hc4 (by simp)) (fun _ => ?_)
    refine Ls_y (wtd0 rfl) rfl rfl (y_pick_f rfl rfl rfl) ?_
    refine Ls_nil (Th_n (hK18 _ _ ?_))
    refine Wp_cond_f rfl ?_
    refine Wp_skip (Th_n (hK17 _ _ ?_))
    refine Wp_seq fun K19 hK19 => ?_
    refine Wp_region ?_
    refine Ls_y (wtd0 rfl) rfl rfl (y_move rfl rfl) ?_
    refine Ls_a (wtd0 rfl) ?_
    refine a_call rfl rfl rfl rfl (jopen_bad p wD6 3 8 1 0 _ (hp.picks [4, 5, 6] (by decide)) wc6.1.ok (by decide) (by rw [wc6.2]; decide) (by rw [wc6.2]; decide)) (fun v wm ⟨hv, hf⟩ => ?_)
    subst hv
    have hp := hp.keep0 hf
    have hF := hF.step0 hf
    refine Ls_y (wtd0 rfl) rfl rfl (y_move rfl rfl) ?_
    refine Ls_y (wtd0 rfl) rfl rfl (y_ext rfl rfl rfl) ?_
    refine Ls_y (wtd0 rfl) rfl rfl (y_ext rfl rfl rfl) ?_
    refine Ls_y (wtd0 rfl) rfl rfl (y_ext rfl rfl rfl) ?_
    refine Ls_y (wtd0 rfl) rfl rfl (y_assign rfl rfl) ?_
    refine Ls_y (wtd0 rfl) rfl rfl (y_assign rfl rfl) ?_
    refine Ls_y (wtd0 rfl) rfl rfl (y_assign rfl rfl) ?_
    refine Ls_nil (Th_n (hK19 _ _ ?_))
    refine Wp_seq fun K20 hK20 => ?_
    refine Wp_region ?_
    refine Ls_y (wtd0 rfl) rfl rfl (y_move rfl rfl) ?_
    refine Ls_y (wtd0 rfl) rfl rfl (y_eqT rfl rfl rfl (by omega)) ?_
    refine Ls_y (wtd0 rfl) rfl rfl (y_move rfl rfl) ?_
    refine Ls_y (wtdT rfl rfl rfl) rfl rfl (y_move rfl rfl) ?_
    refine Ls_y (wtdT rfl rfl rfl) rfl rfl (y_eqT rfl rfl rfl (by omega)) ?_
    refine Ls_y (wtd0 rfl) rfl rfl (y_pick_t rfl rfl rfl) ?_
    refine Ls_y (wtd0 rfl) rfl rfl (y_move rfl rfl) ?_
    refine Ls_y (wtdT rfl rfl rfl) rfl rfl (y_move rfl rfl) ?_
    refine Ls_y (wtdT rfl rfl rfl) rfl rfl (y_eqT rfl rfl rfl (by omega)) ?_
    refine Ls_y (wtd0 rfl) rfl rfl (y_pick_t rfl rfl rfl) ?_
    refine Ls_y (wtd0 rfl) rfl rfl (y_move rfl rfl) ?_
    refine Ls_y (wtdT rfl rfl rfl) rfl rfl (y_move rfl rfl) ?_
    refine Ls_y (wtdT rfl rfl rfl) rfl rfl (y_eqT rfl rfl rfl (by omega)) ?_
    refine Ls_y (wtd0 rfl) rfl rfl (y_pick_t rfl rfl rfl) ?_
    refine Ls_y (wtd0 rfl) rfl rfl (y_move rfl rfl) ?_
    refine Ls_y (wtdT rfl rfl rfl) rfl rfl (y_move rfl rfl) ?_
    refine Ls_y (wtdT rfl rfl rfl) rfl rfl (y_eqT rfl rfl rfl (by omega)) ?_
    refine Ls_y (wtd0 rfl) rfl rfl (y_pick_t rfl rfl rfl) ?_
    refine Ls_y (wtd0 rfl) rfl rfl (y_move rfl rfl) ?_
    refine Ls_y (wtdT rfl rfl rfl) rfl rfl (y_move rfl rfl) ?_
    refine Ls_y (wtdT rfl rfl rfl) rfl rfl (y_eqT rfl rfl rfl (by omega)) ?_
    refine Ls_y (wtd0 rfl) rfl rfl (y_pick_t rfl rfl rfl) ?_
    refine Ls_y (wtd0 rfl) rfl rfl (y_move rfl rfl) ?_
    refine Ls_y (wtdT rfl rfl rfl) rfl rfl (y_move rfl rfl) ?_
    refine Ls_y (wtdT rfl rfl rfl) rfl rfl (y_move rfl rfl) ?_
    refine Ls_a (wtdT rfl rfl rfl) ?_
    refine a_bsl rfl rfl rfl rfl rfl Ty.es_22 Ty.zc_9 rfl (by decide) (by simp [Value.cells]) hp (fun gs wn (hp : Hp wn [_, _, _, (_, Cl [_, _, _, _, _, _, _, _, _] _), (_, Cl [_, _, _, _, _] _), _, _, _, (_, Cl [_, _, _, _, _, _, _, _, _] _), _, (_, Cl [_, _] _)]) hf hgs => ?_)
    have hF := hF.step0 hf
    refine Ls_a (wtdT rfl rfl rfl) ?_
    refine a_call rfl rfl rfl rfl (same_ok [[97], wLong] [[97], wLong] A2 (some ⟨gs, 0, none⟩) c2 2 sp2 [] _ how2 ⟨rfl, .inr ⟨gs, rfl, rfl, by decide, by decide⟩⟩ (by decide) (by decide) (hp.picks [9, 10] (by decide))) (fun v wo ⟨hv, hf⟩ => ?_)
    rw [decide_eq_true rfl] at hv
    subst hv
    have hp := hp.keep0 hf
    have hF := hF.step0 hf
    refine Ls_y (wtd0 rfl) rfl rfl (y_pick_t rfl rfl rfl) ?_
    refine Ls_y (wtd0 rfl) rfl rfl (y_move rfl rfl) ?_
    refine Ls_y (wtdT rfl rfl rfl) rfl rfl (y_move rfl rfl) ?_
    refine Ls_a (wtdT rfl rfl rfl) ?_
    refine a_call rfl rfl rfl rfl (jnext_ok gj2 p.gd (openJ wD6 2 8 1 0) _ (hp.picks [8] (by decide))) (fun v wp ⟨hv, hw⟩ => ?_)
    rw [wf6.1] at hv
    subst hv
    subst hw
    refine Ls_y (wtdT rfl rfl rfl) rfl rfl (y_eqT rfl rfl rfl (by omega)) ?_
    refine Ls_y (wtd0 rfl) rfl rfl (y_pick_t rfl rfl rfl) ?_
    refine Ls_y (wtd0 rfl) rfl rfl (y_move rfl rfl) ?_
    refine Ls_y (wtdT rfl rfl rfl) rfl rfl (y_move rfl rfl) ?_
    refine Ls_y (wtdT rfl rfl rfl) rfl rfl (y_eqT rfl rfl rfl (by omega)) ?_
    refine Ls_y (wtd0 rfl) rfl rfl (y_pick_t rfl rfl rfl) ?_
    refine Ls_y (wtd0 rfl) rfl rfl (y_move rfl rfl) ?_
    refine Ls_y (wtdT rfl rfl rfl) rfl rfl (y_move rfl rfl) ?_
    refine Ls_a (wtdT rfl rfl rfl) ?_
    refine a_call rfl rfl rfl rfl (ncells_ok wLong _ (by decide)) (fun v wq ⟨hv, hf⟩ => ?_)
    have hv : v = .int .i64 3 := hv
    subst hv
    have hp := hp.keep0 hf
    have hF := hF.step0 hf
    refine Ls_y (wtdT rfl rfl rfl) rfl rfl (y_eqT rfl rfl rfl (by omega)) ?_
    refine Ls_y (wtd0 rfl) rfl rfl (y_pick_t rfl rfl rfl) ?_
    refine Ls_y (wtd0 rfl) rfl rfl (y_move rfl rfl) ?_
    refine Ls_a (wtdT rfl rfl rfl) ?_
    refine a_call rfl rfl rfl rfl (ncells_ok [] _ (by decide)) (fun v wr ⟨hv, hf⟩ => ?_)
    have hv : v = .int .i64 1 := hv
    subst hv
    have hp := hp.keep0 hf
    have hF := hF.step0 hf
    refine Ls_y (wtdT rfl rfl rfl) rfl rfl (y_eqT rfl rfl rfl (by omega)) ?_
    refine Ls_y (wtd0 rfl) rfl rfl (y_pick_t rfl rfl rfl) ?_
    refine Ls_y (wtd0 rfl) rfl rfl (y_assign rfl rfl) ?_
    refine Ls_nil (Th_n (hK20 _ _ ?_))
    refine Wp_ret (Fq_ret (Res1 rfl rfl) ?_)
    exact ⟨rfl, hF⟩

end Go.Proofs.Ytcpfhnfpokijaaa

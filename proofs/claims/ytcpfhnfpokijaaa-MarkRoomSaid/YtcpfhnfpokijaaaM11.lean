/- Walks printed by gen.py out of our own specifications: what the functions named below do. -/
import Derived.Test.YtcpfhnfpokijaaaM10
set_option linter.unusedSimpArgs false
set_option linter.unusedVariables false
namespace Go.Proofs.Ytcpfhnfpokijaaa
open Go.RowKit


theorem darm_m (p : Dp) (D : Dk) (w : World) (hp : Hp w (dkH p D)) (i : Int) :
    Fn Try.prog 35 [.pointer (some ⟨p.gd, 0, none⟩), .int .i64 i] w fun v w' => v = .tuple #[] ∧ Mod w w' (dkH p D) (dkH p (armD D i)) :=
  (darm_ok p D w hp i).mono fun _ _ h => ⟨h.1, dk_mod h.2.1 h.2.2 (by simp)⟩
theorem fr_mk {gm : Nat} {p : Dp} {D : Dk} {M : Mr} {w : World} {X : List Nat} (hdk : ∀ y ∈ [p.gd, p.gn, p.gl], w.heap.size ≤ y) (hg : w.heap.size ≤ gm) : ∀ y ∈ keys (mH gm p D M), y ∈ X ∨ w.heap.size ≤ y := fun y hy => by
  have e : keys (mH gm p D M) = [p.gd, p.gn, p.gl] ++ [gm] := rfl
  rw [e, List.mem_append] at hy
  rcases hy with h | h
  · exact .inr (hdk y h)
  · simp only [List.mem_singleton] at h
    subst h
    exact .inr hg
theorem fr_dk0 {p : Dp} {D : Dk} {w : World} {X : List Nat} (hdk : ∀ y ∈ [p.gd, p.gn, p.gl], w.heap.size ≤ y) : ∀ y ∈ keys (dkH p D), y ∈ X ∨ w.heap.size ≤ y := fun y hy => .inr (hdk y hy)
theorem fr_dkm {p : Dp} {D : Dk} {o : Obj} {w : World} {X : List Nat} (hdk : ∀ y ∈ [p.gd, p.gn, p.gl], w.heap.size ≤ y) : ∀ y ∈ keys (dkH p D ++ [(none, o)]), y ∈ X ∨ w.heap.size ≤ y := fun y hy => .inr (hdk y hy)
abbrev vM2 : Mr := ⟨0, 4, 1, 1, 7, [97, 98, 99], true⟩
abbrev vM4 : Mr := ⟨0, 4, 2, 1, 7, [97, 98, 99], false⟩
theorem vq1 : syncD (wrM (newD 8) vM0 (vM0.n + 1) (mBytes 7 [97, 98, 99]) (chK (mBytes 7 [97, 98, 99]).length)) = vD1 := rfl
theorem vq1m : ({ vM0 with n := vM0.n + 1, frm := ((7 : Nat) : Int), text := [97, 98, 99] } : Mr) = vM1 := rfl
theorem vq2 : armD vD1 1 = vD2 := rfl
theorem vq3 : syncD (wrM vD2 vM1 (vM1.n + 1) (mBytes 9 [100, 101]) (chK (mBytes 9 [100, 101]).length)) = vD3 := rfl
theorem vq3m : ({ vM1 with over := true } : Mr) = vM2 := rfl
theorem vq4 : mendD vD3 [] = vD4 := rfl
theorem vB (M : Mr) (h1 : M.base = 0) (h2 : M.size = 4) (h3 : M.n ≤ 1) : MrB M := ⟨by omega, by omega, by omega⟩
theorem vr1 (k : Nat) (hk : k < chK (mBytes 7 [97, 98, 99]).length) : writeE (wrM (newD 8) vM0 (vM0.n + 1) (mBytes 7 [97, 98, 99]) k) ((mSlot vM0 (vM0.n + 1) k : Nat) : Int) (mCell vM0 (vM0.n + 1) (mBytes 7 [97, 98, 99]) k) = 0 := by
  rw [vb1.1, vb1.2.2.1] at hk
  obtain rfl : k = 0 := by omega
  exact vw1.1
theorem vs1 : syncE (wrM (newD 8) vM0 (vM0.n + 1) (mBytes 7 [97, 98, 99]) (chK (mBytes 7 [97, 98, 99]).length)) = 0 := by rw [vb1.1, vb1.2.2.1]; exact vw1.2
theorem vr2 (k : Nat) (hk : k < chK (mBytes 9 [100, 101]).length) : writeE (wrM vD2 vM1 (vM1.n + 1) (mBytes 9 [100, 101]) k) ((mSlot vM1 (vM1.n + 1) k : Nat) : Int) (mCell vM1 (vM1.n + 1) (mBytes 9 [100, 101]) k) = 0 := by
  rw [vb1.2.1, vb1.2.2.2] at hk
  obtain rfl : k = 0 := by omega
  exact vw2.1
theorem vs2 : syncE (wrM vD2 vM1 (vM1.n + 1) (mBytes 9 [100, 101]) (chK (mBytes 9 [100, 101]).length)) = 9 := by rw [vb1.2.1, vb1.2.2.2]; exact vw2.2
theorem vn4 : mnewest vD4 0 (2 * 4) = 1 := vc4.2.2.1
theorem vh0 : cellAt vD4 (((0 : Nat) : Int) + ((0 * 4 : Nat) : Int)) = none := vc4.1
theorem vh1 : cellAt vD4 (((0 : Nat) : Int) + ((1 * 4 : Nat) : Int)) = some (1, ((1 : Nat) : Int), 0, 1 :: 7 :: 1 :: 3 :: [97, 98, 99]) := vc4.2.1
theorem vg0 : mnewest (newD 8) 0 (2 * 4) = 0 := mnewest_new 8 (Nat.le_refl _)
theorem vfull : 50 * 4 < (mBytes 1 (List.replicate 200 0)).length := by decide +kernel

set_option maxRecDepth 20000 in
set_option maxHeartbeats 4000000 in
theorem works19_ok (w : World) : Fn Try.prog 17 [] w fun v w' => v = .bool true ∧ Fr [] w w' := by
  refine Fn_of 99 Ty.en_17 Try.func17 rfl rfl rfl ?_
  dsimp only [argEnv]
  have hp := Hp.nil w
  have hF := Fr.refl [] w
  refine Wp_seq fun K1 hK1 => ?_
  refine Wp_region ?_
  refine Ls_y (wtd0 rfl) rfl rfl (y_assign rfl rfl) ?_
  refine Ls_nil (Th_n (hK1 _ _ ?_))
  refine Wp_seq fun K2 hK2 => ?_
  refine Wp_region ?_
  refine Ls_a (wtd0 rfl) ?_
  refine a_call rfl rfl rfl rfl (dnew_ok 8 _ (by decide) (by decide)) (fun v wa ⟨p, hv, hN, _⟩ => ?_)
  subst hv
  have hp : Hp wa [(_, Cl [_, _, _, _, _] _), _, _] := hp.add hN
  have hdk : ∀ y ∈ [p.gd, p.gn, p.gl], w.heap.size ≤ y := fun y hy => Nat.le_trans hF.size (hN.nw y hy)
  have hF := hF.step0 hN.fr
  refine Ls_y (wtd0 rfl) rfl rfl (y_move rfl rfl) ?_
  refine Ls_y (wtd0 rfl) rfl rfl (y_ext rfl rfl rfl) ?_
  refine Ls_y (wtd0 rfl) rfl rfl (y_ext rfl rfl rfl) ?_
  refine Ls_y (wtd0 rfl) rfl rfl (y_assign rfl rfl) ?_
  refine Ls_y (wtd0 rfl) rfl rfl (y_assign rfl rfl) ?_
  refine Ls_nil (Th_n (hK2 _ _ ?_))
  refine Wp_seq fun K3 hK3 => ?_
  refine Wp_region ?_
  refine Ls_y (wtd0 rfl) rfl rfl (y_move rfl rfl) ?_
  refine Ls_a (wtd0 rfl) ?_
  refine a_call rfl rfl rfl rfl (mopen_blank p (newD 8) 0 4 _ (hp.picks [0, 1, 2] (by decide)) (mnewD_calm (by decide) (by decide)).1 (by decide) (by decide) (by rw [vg0]; decide) (mcell_new (i := 0) (by decide)) (mcell_new (i := 4) (by decide))) (fun v wb ⟨gm, hv, hN⟩ => ?_)
  rw [vg0] at hN
  have hN : New wa wb [(some gm, Cl (mC p.gd vM0) 74)] := hN
  subst hv
  have hp : Hp wb [(_, Cl [_, _, _, _, _] _), _, _, (_, Cl [_, _, _, _, _, _, _, _] _)] := hp.add hN
  have hgm := Nat.le_trans hF.size (hN.nw gm (by simp [keys]))
  have hF := hF.step0 hN.fr
  refine Ls_y (wtd0 rfl) rfl rfl (y_move rfl rfl) ?_
  refine Ls_y (wtd0 rfl) rfl rfl (y_ext rfl rfl rfl) ?_
  refine Ls_y (wtd0 rfl) rfl rfl (y_ext rfl rfl rfl) ?_
  refine Ls_y (wtd0 rfl) rfl rfl (y_assign rfl rfl) ?_
  refine Ls_y (wtd0 rfl) rfl rfl (y_assign rfl rfl) ?_
  refine Ls_nil (Th_n (hK3 _ _ ?_))
  refine Wp_seq fun K4 hK4 => ?_
  refine Wp_seq fun K5 hK5 => ?_
  refine Wp_region ?_
  refine Ls_y (wtd0 rfl) rfl rfl (y_move rfl rfl) ?_
  refine Ls_y (wtd0 rfl) rfl rfl (y_neF rfl rfl rfl (by omega)) ?_
  refine Ls_y (wtd0 rfl) rfl rfl (y_move rfl rfl) ?_
  refine Ls_y (wtdT rfl rfl rfl) rfl rfl (y_move rfl rfl) ?_
  refine Ls_y (wtdT rfl rfl rfl) rfl rfl (y_eqnp rfl rfl rfl Try.underlying42) ?_
  refine Ls_bool 28 rfl (fun hc1 => absurd hc1 (by simp)) (fun _ => ?_)
  refine Ls_y (wtd0 rfl) rfl rfl (y_pick_f rfl rfl rfl) ?_
  refine Ls_nil (Th_n (hK5 _ _ ?_))
  refine Wp_cond_f rfl ?_
  refine Wp_skip (Th_n (hK4 _ _ ?_))
  refine Wp_seq fun K6 hK6 => ?_
  refine Wp_region ?_
  refine Ls_y (wtd0 rfl) rfl rfl (y_move rfl rfl) ?_
  refine Ls_a (wtd0 rfl) ?_
  refine a_call rfl rfl rfl rfl (mget_ok gm p.gd vM0 _ (hp.picks [3] (by decide))) (fun v wc ⟨hv, hf⟩ => ?_)
  have hv : v = .tuple #[.int .u32 0, sv [], .bool false] := hv
  subst hv
  have hp := hp.keep0 hf
  have hF := hF.step0 hf
  refine Ls_y (wtd0 rfl) rfl rfl (y_move rfl rfl) ?_
  refine Ls_y (wtd0 rfl) rfl rfl (y_ext rfl rfl rfl) ?_
  refine Ls_y (wtd0 rfl) rfl rfl (y_ext rfl rfl rfl) ?_
  refine Ls_y (wtd0 rfl) rfl rfl (y_ext rfl rfl rfl) ?_
  refine Ls_y (wtd0 rfl) rfl rfl (y_assign rfl rfl) ?_
  refine Ls_y (wtd0 rfl) rfl rfl (y_assign rfl rfl) ?_
  refine Ls_y (wtd0 rfl) rfl rfl (y_assign rfl rfl) ?_
  refine Ls_nil (Th_n (hK6 _ _ ?_))
  refine Wp_seq fun K7 hK7 => ?_
  refine Wp_region ?_
  refine Ls_y (wtd0 rfl) rfl rfl (y_move rfl rfl) ?_
  refine Ls_a (wtd0 rfl) ?_
  refine a_call rfl rfl rfl rfl (mput_ok gm p (newD 8) vM0 _ (hp.picks [0, 1, 2, 3] (by decide)) vl0 (vB vM0 rfl rfl (by decide)) rfl 7 (by decide) [97, 98, 99] (by decide) (by rw [vb1.1]; decide) (by decide) (by decide) vr1 vs1) (fun v wd ⟨hv, hM⟩ => ?_)
  subst hv
  rw [vq1, vq1m] at hM
  have hp : Hp wd [(_, Cl [_, _, _, _, _] _), _, _, (_, Cl [_, _, _, _, _, _, _, _] _)] := hp.call [] [0, 1, 2, 3] (by decide) rfl hM
  have hF := hF.step hM.fr (fr_mk hdk hgm)
  refine Ls_y (wtd0 rfl) rfl rfl (y_assign rfl rfl) ?_
  refine Ls_nil (Th_n (hK7 _ _ ?_))
  refine Wp_seq fun K8 hK8 => ?_
  refine Wp_region ?_
  refine Ls_y (wtd0 rfl) rfl rfl (y_move rfl rfl) ?_
  refine Ls_a (wtd0 rfl) ?_
  refine a_call rfl rfl rfl rfl (darm_m p vD1 _ (hp.picks [0, 1, 2] (by decide)) 1) (fun v we ⟨hv, hM⟩ => ?_)
  subst hv
  rw [vq2] at hM
  have hp : Hp we [(_, Cl [_, _, _, _, _, _, _, _] _), (_, Cl [_, _, _, _, _] _), _, _] := hp.call [3] [0, 1, 2] (by decide) rfl hM
  have hF := hF.step hM.fr (fr_dk0 hdk)
  refine Ls_nil (Th_n (hK8 _ _ ?_))
  refine Wp_seq fun K9 hK9 => ?_
  refine Wp_region ?_
  refine Ls_y (wtd0 rfl) rfl rfl (y_move rfl rfl) ?_
  refine Ls_a (wtd0 rfl) ?_
  refine a_call rfl rfl rfl rfl (mput_down gm p vD2 vM1 _ (hp.picks [1, 2, 3, 0] (by decide)) vl2 (vB vM1 rfl rfl (by decide)) rfl 9 (by decide) [100, 101] (by decide) (by rw [vb1.2.1]; decide) (by decide) (by decide) vr2 vs2) (fun v wf ⟨hv, hM⟩ => ?_)
  subst hv
  rw [vq3, vq3m] at hM
  have hp : Hp wf [(_, Cl [_, _, _, _, _] _), _, _, (_, Cl [_, _, _, _, _, _, _, _] _)] := hp.call [] [1, 2, 3, 0] (by decide) rfl hM
  have hF := hF.step hM.fr (fr_mk hdk hgm)
  refine Ls_y (wtd0 rfl) rfl rfl (y_assign rfl rfl) ?_
  refine Ls_nil (Th_n (hK9 _ _ ?_))
  refine Wp_seq fun K10 hK10 => ?_
  refine Wp_region ?_
  refine Ls_y (wtd0 rfl) rfl rfl (y_move rfl rfl) ?_
  have hp := hp.addNone (Cl [] 3)
  refine Ls_a (wtd0 rfl) ?_
  refine a_call rfl rfl rfl rfl (dmend_ok p vD3 _ none 0 [] [] (Ow.nil 1) (hp.picks [0, 1, 2, 4] (by decide)) vl3) (fun v wg ⟨hv, hM⟩ => ?_)
  subst hv
  rw [vq4] at hM
  have hp : Hp wg [(_, Cl [_, _, _, _, _, _, _, _] _), (_, Cl [_, _, _, _, _] _), _, _, _] := hp.call [3] [0, 1, 2, 4] (by decide) rfl hM
  have hF := hF.step hM.fr (fr_dkm hdk)
  refine Ls_nil (Th_n (hK10 _ _ ?_))
  refine Wp_seq fun K11 hK11 => ?_
  refine Wp_region ?_
  refine Ls_y (wtd0 rfl) rfl rfl (y_move rfl rfl) ?_
  refine Ls_a (wtd0 rfl) ?_
  refine a_call rfl rfl rfl rfl (mopen_one p vD4 0 4 _ (hp.picks [1, 2, 3] (by decide)) vl4 (by decide) (by rw [vc4.2.2.2]; decide) (by rw [vn4]; decide) vh0 1 1 7 3 [97, 98, 99] (by decide) (by decide) (by decide) (by decide) rfl (by decide) vh1) (fun v wh ⟨gm2, hv, hN⟩ => ?_)
  rw [vn4] at hN
  have hN : New wg wh [(some gm2, Cl (mC p.gd vM4) 74)] := hN
  subst hv
  have hp : Hp wh [(_, Cl [_, _, _, _, _, _, _, _] _), (_, Cl [_, _, _, _, _] _), _, _, _, (_, Cl [_, _, _, _, _, _, _, _] _)] := hp.add hN
  have hgm2 := Nat.le_trans hF.size (hN.nw gm2 (by simp [keys]))
  have hF := hF.step0 hN.fr
  refine Ls_y (wtd0 rfl) rfl rfl (y_move rfl rfl) ?_
  refine Ls_y (wtd0 rfl) rfl rfl (y_ext rfl rfl rfl) ?_
  refine Ls_y (wtd0 rfl) rfl rfl (y_ext rfl rfl rfl) ?_
  refine Ls_y (wtd0 rfl) rfl rfl (y_assign rfl rfl) ?_
  refine Ls_y (wtd0 rfl) rfl rfl (y_assign rfl rfl) ?_
  refine Ls_nil (Th_n (hK11 _ _ ?_))
  refine Wp_seq fun K12 hK12 => ?_
  refine Wp_seq fun K13 hK13 => ?_
  refine Wp_region ?_
  refine Ls_y (wtd0 rfl) rfl rfl (y_move rfl rfl) ?_
  refine Ls_y (wtd0 rfl) rfl rfl (y_neF rfl rfl rfl (by omega)) ?_
  refine Ls_y (wtd0 rfl) rfl rfl (y_move rfl rfl) ?_
  refine Ls_y (wtdT rfl rfl rfl) rfl rfl (y_move rfl rfl) ?_
  refine Ls_y (wtdT rfl rfl rfl) rfl rfl (y_eqnp rfl rfl rfl Try.underlying42) ?_
  refine Ls_bool 53 rfl (fun hc2 => absurd hc2 (by simp)) (fun _ => ?_)
  refine Ls_y (wtd0 rfl) rfl rfl (y_pick_f rfl rfl rfl) ?_
  refine Ls_nil (Th_n (hK13 _ _ ?_))
  refine Wp_cond_f rfl ?_
  refine Wp_skip (Th_n (hK12 _ _ ?_))
  refine Wp_seq fun K14 hK14 => ?_
  refine Wp_region ?_
  refine Ls_y (wtd0 rfl) rfl rfl (y_move rfl rfl) ?_
  refine Ls_a (wtd0 rfl) ?_
  refine a_call rfl rfl rfl rfl (mget_ok gm2 p.gd vM4 _ (hp.picks [5] (by decide))) (fun v wi ⟨hv, hf⟩ => ?_)
  have hv : v = .tuple #[.int .u32 7, sv [97, 98, 99], .bool true] := hv
  subst hv
  have hp := hp.keep0 hf
  have hF := hF.step0 hf
  refine Ls_y (wtd0 rfl) rfl rfl (y_move rfl rfl) ?_
  refine Ls_y (wtd0 rfl) rfl rfl (y_ext rfl rfl rfl) ?_
  refine Ls_y (wtd0 rfl) rfl rfl (y_ext rfl rfl rfl) ?_
  refine Ls_y (wtd0 rfl) rfl rfl (y_ext rfl rfl rfl) ?_
  refine Ls_y (wtd0 rfl) rfl rfl (y_assign rfl rfl) ?_
  refine Ls_y (wtd0 rfl) rfl rfl (y_assign rfl rfl) ?_
  refine Ls_y (wtd0 rfl) rfl rfl (y_assign rfl rfl) ?_
  refine Ls_nil (Th_n (hK14 _ _ ?_))
  refine Wp_seq fun K15 hK15 => ?_
  refine Wp_region ?_
  refine Ls_y (wtd0 rfl) rfl rfl (y_move rfl rfl) ?_
  refine Ls_y (wtd0 rfl) rfl rfl (y_not rfl rfl) ?_
  refine Ls_y (wtd0 rfl) rfl rfl (y_move rfl rfl) ?_
  refine Ls_bool 63 rfl (fun _ => ?_) (fun hc3 => absurd hc3 (by simp))
  refine Ls_y (wtdT rfl rfl rfl) rfl rfl (y_move rfl rfl) ?_
  refine Ls_y (wtdT rfl rfl rfl) rfl rfl (y_eqT rfl rfl rfl (by omega)) ?_
  refine Ls_y (wtd0 rfl) rfl rfl (y_pick_t rfl rfl rfl) ?_
  refine Ls_y (wtd0 rfl) rfl rfl (y_move rfl rfl) ?_
  refine Ls_y (wtdT rfl rfl rfl) rfl rfl (y_move rfl rfl) ?_
  refine Ls_y (wtdT rfl rfl rfl) rfl rfl (y_eqT rfl rfl rfl (by omega)) ?_
  refine Ls_y (wtd0 rfl) rfl rfl (y_pick_t rfl rfl rfl) ?_
  refine Ls_y (wtd0 rfl) rfl rfl (y_move rfl rfl) ?_
  refine Ls_y (wtdT rfl rfl rfl) rfl rfl (y_move rfl rfl) ?_
  refine Ls_y (wtdT rfl rfl rfl) rfl rfl (y_eqT rfl rfl rfl (by omega)) ?_
  refine Ls_y (wtd0 rfl) rfl rfl (y_pick_t rfl rfl rfl) ?_
  refine Ls_y (wtd0 rfl) rfl rfl (y_move rfl rfl) ?_
  refine Ls_y (wtdT rfl rfl rfl) rfl rfl (y_move rfl rfl) ?_
  refine Ls_y (wtdT rfl rfl rfl) rfl rfl (y_eqs rfl rfl rfl) ?_
  refine Ls_bool 77 rfl (fun _ => ?_) (fun hc4 => absurd hc4 (by simp))
  refine Ls_y (wtd0 rfl) rfl rfl (y_pick_t rfl rfl rfl) ?_
  refine Ls_y (wtd0 rfl) rfl rfl (y_move rfl rfl) ?_
  refine Ls_y (wtdT rfl rfl rfl) rfl rfl (y_move rfl rfl) ?_
  refine Ls_y (wtd0 rfl) rfl rfl (y_pick_t rfl rfl rfl) ?_
  refine Ls_y (wtd0 rfl) rfl rfl (y_move rfl rfl) ?_
  refine Ls_bool 82 rfl (fun _ => ?_) (fun hc5 => absurd hc5 (by simp))
  refine Ls_y (wtdT rfl rfl rfl) rfl rfl (y_move rfl rfl) ?_
  refine Ls_a (wtdT rfl rfl rfl) ?_
  refine a_call rfl rfl rfl rfl (mcount_ok gm2 p.gd vM4 _ (hp.picks [5] (by decide))) (fun v wj ⟨hv, hw⟩ => ?_)
  have hv : v = .int .u32 1 := hv
  subst hv
  subst hw
  refine Ls_y (wtdT rfl rfl rfl) rfl rfl (y_eqT rfl rfl rfl (by omega)) ?_
  refine Ls_y (wtd0 rfl) rfl rfl (y_pick_t rfl rfl rfl) ?_
  refine Ls_y (wtd0 rfl) rfl rfl (y_move rfl rfl) ?_
  refine Ls_y (wtdT rfl rfl rfl) rfl rfl (y_move rfl rfl) ?_
  refine Ls_a (wtdT rfl rfl rfl) ?_
  refine a_call rfl rfl rfl rfl (mroom_ok gm2 p.gd vM4 _ (hp.picks [5] (by decide)) (vB vM4 rfl rfl (by decide))) (fun v wj ⟨hv, hw⟩ => ?_)
  have hv : v = .int .i64 186 := hv
  subst hv
  subst hw
  refine Ls_y (wtdT rfl rfl rfl) rfl rfl (y_eqT rfl rfl rfl (by omega)) ?_
  refine Ls_y (wtd0 rfl) rfl rfl (y_pick_t rfl rfl rfl) ?_
  refine Ls_y (wtd0 rfl) rfl rfl (y_move rfl rfl) ?_
  refine Ls_y (wtdT rfl rfl rfl) rfl rfl (y_move rfl rfl) ?_
  refine Ls_a (wtdT rfl rfl rfl) ?_
  refine a_mksl rfl rfl rfl rfl rfl Ty.es_45 Ty.zc_5 rfl Ty.by_5 (Nat.le_refl 200) (by first | decide | omega) (by first | decide | omega) hp (fun gz wk (hp : Hp wk [(_, Cl [_, _, _, _, _, _, _, _] _), (_, Cl [_, _, _, _, _] _), _, _, _, (_, Cl [_, _, _, _, _, _, _, _] _), _]) hf hgz => ?_)
  have hgz := Nat.le_trans hF.size hgz
  have hF := hF.step0 hf
  refine Ls_y (wtdT rfl rfl rfl) rfl rfl (y_cvb (r := List.replicate 200 0) rfl rfl Try.underlying45 Try.underlying5 Try.underlying9 (by decide) (by rintro _ rfl; have hh := range_all (i := 6) hp rfl; rw [zeros_flat] at hh; exact hh)) ?_
  refine Ls_a (wtdT rfl rfl rfl) ?_
  refine a_call rfl rfl rfl rfl (mput_full gm2 p vD4 vM4 _ (hp.picks [1, 2, 3, 5] (by decide)) vl4.ok (vB vM4 rfl rfl (by decide)) rfl 1 (by decide) (List.replicate 200 0) (by decide) vfull) (fun v wl ⟨hv, hM⟩ => ?_)
  subst hv
  have hp : Hp wl [(_, Cl [_, _, _, _, _, _, _, _] _), _, _, (_, Cl [_, _, _, _, _] _), _, _, (_, Cl [_, _, _, _, _, _, _, _] _)] := hp.call [0, 4, 6] [1, 2, 3, 5] (by decide) rfl hM
  have hF := hF.step hM.fr (fr_mk hdk hgm2)
  refine Ls_y (wtdT rfl rfl rfl) rfl rfl (y_eqT rfl rfl rfl (by omega)) ?_
  refine Ls_y (wtd0 rfl) rfl rfl (y_pick_t rfl rfl rfl) ?_
  refine Ls_y (wtd0 rfl) rfl rfl (y_assign rfl rfl) ?_
  refine Ls_nil (Th_n (hK15 _ _ ?_))
  refine Wp_ret (Fq_ret (Res1 rfl rfl) ?_)
  exact ⟨rfl, hF⟩

end Go.Proofs.Ytcpfhnfpokijaaa

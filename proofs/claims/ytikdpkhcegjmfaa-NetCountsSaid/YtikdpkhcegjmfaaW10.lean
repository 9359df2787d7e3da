/- Walks printed by gen.py out of our own specifications: what the functions named below do. -/
import Derived.Test.YtikdpkhcegjmfaaW9
set_option linter.unusedSimpArgs false
set_option linter.unusedVariables false
namespace Go.Proofs.Ytikdpkhcegjmfaa
open Go.RowKit


theorem fr_dk1 {p : Dp} {D : Dk} {w : World} {g : Nat} {o : Obj} {X : List Nat} (hdk : ∀ y ∈ [p.gd, p.gn, p.gl], w.heap.size ≤ y) (hg : w.heap.size ≤ g) : ∀ y ∈ keys (dkH p D ++ [(some g, o)]), y ∈ X ∨ w.heap.size ≤ y := fun y hy => by
  have e : keys (dkH p D ++ [(some g, o)]) = [p.gd, p.gn, p.gl] ++ [g] := rfl
  rw [e, List.mem_append] at hy
  rcases hy with h | h
  · exact .inr (hdk y h)
  · simp only [List.mem_singleton] at h
    subst h
    exact .inr hg
theorem dk_mod {p : Dp} {D D' : Dk} {w w' : World} {X : List Nat} (hq : Hp w' (dkH p D')) (hF : Fr X w w') (hX : ∀ x ∈ X, x ∈ [p.gd, p.gn, p.gl]) : Mod w w' (dkH p D) (dkH p D') := ⟨hF.mono hX, hq, fun _ hk => .inl hk⟩
theorem dwrite_m (p : Dp) (D : Dk) (w : World) (hp : Hp w (dkH p D)) (hD : DkOk D) (i : Int) (s : List UInt8) :
    Fn Try.prog 39 [.pointer (some ⟨p.gd, 0, none⟩), .int .i64 i, sv s] w fun v w' => v = .int .i64 (writeE D i s) ∧ Mod w w' (dkH p D) (dkH p (writeD D i s)) :=
  (dwrite_ok p D w hp hD i s).mono fun _ _ h => ⟨h.1, dk_mod h.2.1 h.2.2 (by simp)⟩
theorem dsync_m (p : Dp) (D : Dk) (w : World) (hp : Hp w (dkH p D)) (hD : DkOk D) :
    Fn Try.prog 41 [.pointer (some ⟨p.gd, 0, none⟩)] w fun v w' => v = .int .i64 (syncE D) ∧ Mod w w' (dkH p D) (dkH p (syncD D)) :=
  (dsync_ok p D w hp hD).mono fun _ _ h => ⟨h.1, dk_mod h.2.1 h.2.2 (by simp)⟩
theorem darm_m (p : Dp) (D : Dk) (w : World) (hp : Hp w (dkH p D)) (i : Int) :
    Fn Try.prog 45 [.pointer (some ⟨p.gd, 0, none⟩), .int .i64 i] w fun v w' => v = .tuple #[] ∧ Mod w w' (dkH p D) (dkH p (armD D i)) :=
  (darm_ok p D w hp i).mono fun _ _ h => ⟨h.1, dk_mod h.2.1 h.2.2 (by simp)⟩

set_option maxRecDepth 20000 in
set_option maxHeartbeats 1000000 in
theorem works17_ok (w : World) : Fn Try.prog 49 [] w fun v w' => v = .bool true ∧ Fr [] w w' := by
  refine Fn_of 104 Ty.en_49 Try.func49 rfl rfl rfl ?_
  dsimp only [argEnv]
  have hp := Hp.nil w
  have hF := Fr.refl [] w
  refine Wp_seq fun K1 hK1 => ?_
  refine Wp_region ?_
  refine Ls_y (wtd0 rfl) rfl rfl (y_assign rfl rfl) ?_
  refine Ls_nil (Th_n (hK1 _ _ ?_))
  refine Wp_seq fun K2 hK2 => ?_
  refine Wp_region ?_
  refine Ls_a (wtd0 rfl) ?_
  refine a_call rfl rfl rfl rfl (dnew_ok 4 _ (by decide) (by decide)) (fun v wa ⟨p, hv, hN, _⟩ => ?_)
  subst hv
  have hp : Hp wa [(_, Cl [_, _, _, _, _] _), _, _] := hp.add hN
  have hdk : ∀ y ∈ [p.gd, p.gn, p.gl], w.heap.size ≤ y := fun y hy => Nat.le_trans hF.size (hN.nw y hy)
  have hF := hF.step0 hN.fr
  refine Ls_y (wtd0 rfl) rfl rfl (y_move rfl rfl) ?_
  refine Ls_y (wtd0 rfl) rfl rfl (y_ext rfl rfl rfl) ?_
  refine Ls_y (wtd0 rfl) rfl rfl (y_ext rfl rfl rfl) ?_
  refine Ls_y (wtd0 rfl) rfl rfl (y_assign rfl rfl) ?_
  refine Ls_y (wtd0 rfl) rfl rfl (y_assign rfl rfl) ?_
  refine Ls_nil (Th_n (hK2 _ _ ?_))
  refine Wp_seq fun K3 hK3 => ?_
  refine Wp_seq fun K4 hK4 => ?_
  refine Wp_region ?_
  refine Ls_y (wtd0 rfl) rfl rfl (y_move rfl rfl) ?_
  refine Ls_y (wtd0 rfl) rfl rfl (y_neF rfl rfl rfl (by omega)) ?_
  refine Ls_y (wtd0 rfl) rfl rfl (y_move rfl rfl) ?_
  refine Ls_y (wtdT rfl rfl rfl) rfl rfl (y_move rfl rfl) ?_
  refine Ls_y (wtdT rfl rfl rfl) rfl rfl (y_eqnp rfl rfl rfl Try.underlying67) ?_
  refine Ls_bool 25 rfl (fun hc1 => absurd hc1 (by simp)) (fun _ => ?_)
  refine Ls_y (wtd0 rfl) rfl rfl (y_pick_f rfl rfl rfl) ?_
  refine Ls_nil (Th_n (hK4 _ _ ?_))
  refine Wp_cond_f rfl ?_
  refine Wp_skip (Th_n (hK3 _ _ ?_))
  refine Wp_seq fun K5 hK5 => ?_
  refine Wp_region ?_
  refine Ls_y (wtd0 rfl) rfl rfl (y_build (cells := [_, _, _, _]) rfl rfl Ty.zc_29 Ty.ps_29 rfl) ?_
  refine Ls_a (wtd0 rfl) ?_
  refine a_call rfl rfl rfl rfl (pack_ok 1 2 0 [97, 98, 99] _ (by decide) (by decide) (by decide) (by decide) (by decide) (by decide)) (fun v wb ⟨hv, hf⟩ => ?_)
  subst hv
  have hp := hp.keep0 hf
  have hF := hF.step0 hf
  refine Ls_y (wtd0 rfl) rfl rfl (y_move rfl rfl) ?_
  refine Ls_y (wtd0 rfl) rfl rfl (y_ext rfl rfl rfl) ?_
  refine Ls_y (wtd0 rfl) rfl rfl (y_ext rfl rfl rfl) ?_
  refine Ls_y (wtd0 rfl) rfl rfl (y_assign rfl rfl) ?_
  refine Ls_y (wtd0 rfl) rfl rfl (y_assign rfl rfl) ?_
  refine Ls_nil (Th_n (hK5 _ _ ?_))
  refine Wp_seq fun K6 hK6 => ?_
  refine Wp_region ?_
  refine Ls_y (wtd0 rfl) rfl rfl (y_move rfl rfl) ?_
  refine Ls_y (wtd0 rfl) rfl rfl (y_move rfl rfl) ?_
  refine Ls_a (wtd0 rfl) ?_
  refine a_call rfl rfl rfl rfl (dwrite_m p (newD 4) _ (hp.picks [0, 1, 2] (by decide)) (newD_ok (by decide) (by decide)) 1 (packS 1 2 0 [97, 98, 99])) (fun v wc ⟨hv, hM⟩ => ?_)
  subst hv
  have hp : Hp wc [(_, Cl [_, _, _, _, _] _), _, _] := hp.call [] [0, 1, 2] (by decide) rfl hM
  have hF := hF.step hM.fr (fun y hy => Or.inr (hdk y hy))
  refine Ls_y (wtd0 rfl) rfl rfl (y_assign rfl rfl) ?_
  refine Ls_nil (Th_n (hK6 _ _ ?_))
  refine Wp_seq fun K7 hK7 => ?_
  refine Wp_region ?_
  refine Ls_y (wtd0 rfl) rfl rfl (y_move rfl rfl) ?_
  refine Ls_a (wtd0 rfl) ?_
  refine a_call rfl rfl rfl rfl (dsync_m p (writeD (newD 4) 1 (packS 1 2 0 [97, 98, 99])) _ (hp.picks [0, 1, 2] (by decide)) (writeD_ok (newD_ok (by decide) (by decide)) _ _)) (fun v wd ⟨hv, hM⟩ => ?_)
  subst hv
  have hp : Hp wd [(_, Cl [_, _, _, _, _] _), _, _] := hp.call [] [0, 1, 2] (by decide) rfl hM
  have hF := hF.step hM.fr (fun y hy => Or.inr (hdk y hy))
  refine Ls_y (wtd0 rfl) rfl rfl (y_assign rfl rfl) ?_
  refine Ls_nil (Th_n (hK7 _ _ ?_))
  refine Wp_seq fun K8 hK8 => ?_
  refine Wp_region ?_
  refine Ls_y (wtd0 rfl) rfl rfl (y_build (cells := [_, _, _, _]) rfl rfl Ty.zc_29 Ty.ps_29 rfl) ?_
  refine Ls_a (wtd0 rfl) ?_
  refine a_call rfl rfl rfl rfl (pack_ok 1 3 0 [120, 121, 122] _ (by decide) (by decide) (by decide) (by decide) (by decide) (by decide)) (fun v we ⟨hv, hf⟩ => ?_)
  subst hv
  have hp := hp.keep0 hf
  have hF := hF.step0 hf
  refine Ls_y (wtd0 rfl) rfl rfl (y_move rfl rfl) ?_
  refine Ls_y (wtd0 rfl) rfl rfl (y_ext rfl rfl rfl) ?_
  refine Ls_y (wtd0 rfl) rfl rfl (y_ext rfl rfl rfl) ?_
  refine Ls_y (wtd0 rfl) rfl rfl (y_assign rfl rfl) ?_
  refine Ls_y (wtd0 rfl) rfl rfl (y_assign rfl rfl) ?_
  refine Ls_nil (Th_n (hK8 _ _ ?_))
  refine Wp_seq fun K9 hK9 => ?_
  refine Wp_region ?_
  refine Ls_y (wtd0 rfl) rfl rfl (y_move rfl rfl) ?_
  refine Ls_y (wtd0 rfl) rfl rfl (y_move rfl rfl) ?_
  refine Ls_a (wtd0 rfl) ?_
  refine a_call rfl rfl rfl rfl (dwrite_m p (syncD (writeD (newD 4) 1 (packS 1 2 0 [97, 98, 99]))) _ (hp.picks [0, 1, 2] (by decide)) (syncD_ok (writeD_ok (newD_ok (by decide) (by decide)) _ _)) 1 (packS 1 3 0 [120, 121, 122])) (fun v wf ⟨hv, hM⟩ => ?_)
  subst hv
  have hp : Hp wf [(_, Cl [_, _, _, _, _] _), _, _] := hp.call [] [0, 1, 2] (by decide) rfl hM
  have hF := hF.step hM.fr (fun y hy => Or.inr (hdk y hy))
  refine Ls_nil (Th_n (hK9 _ _ ?_))
  refine Wp_seq fun K10 hK10 => ?_
  refine Wp_region ?_
  refine Ls_y (wtd0 rfl) rfl rfl (y_move rfl rfl) ?_
  refine Ls_a (wtd0 rfl) ?_
  refine a_bsl rfl rfl rfl rfl rfl Ty.es_73 Ty.zc_3 rfl (by decide) (by simp [Value.cells]) hp (fun gk wg (hp : Hp wg [(_, Cl [_, _, _, _, _] _), _, _, (_, Cl [_] _)]) hf hgk => ?_)
  have hgk := Nat.le_trans hF.size hgk
  have hF := hF.step0 hf
  refine Ls_a (wtd0 rfl) ?_
  refine a_call rfl rfl rfl rfl (dmend_ok p (writeD (syncD (writeD (newD 4) 1 (packS 1 2 0 [97, 98, 99]))) 1 (packS 1 3 0 [120, 121, 122])) _ (some ⟨gk, 0, none⟩) 1 [60] [] ⟨rfl, .inr ⟨gk, rfl, rfl, Nat.le_refl _, by decide⟩⟩ (hp.picks [0, 1, 2, 3] (by decide)) (writeD_ok (syncD_ok (writeD_ok (newD_ok (by decide) (by decide)) _ _)) _ _)) (fun v wh ⟨hv, hM⟩ => ?_)
  subst hv
  have hp : Hp wh [(_, Cl [_, _, _, _, _] _), _, _, (_, Cl [_] _)] := hp.call [] [0, 1, 2, 3] (by decide) rfl hM
  have hF := hF.step hM.fr (fr_dk1 hdk hgk)
  refine Ls_nil (Th_n (hK10 _ _ ?_))
  refine Wp_seq fun K11 hK11 => ?_
  refine Wp_region ?_
  refine Ls_y (wtd0 rfl) rfl rfl (y_move rfl rfl) ?_
  refine Ls_a (wtd0 rfl) ?_
  refine a_call rfl rfl rfl rfl (dread_ok p (mendD (writeD (syncD (writeD (newD 4) 1 (packS 1 2 0 [97, 98, 99]))) 1 (packS 1 3 0 [120, 121, 122])) [60]) _ (hp.picks [0, 1, 2] (by decide)) (mendD_ok (writeD_ok (syncD_ok (writeD_ok (newD_ok (by decide) (by decide)) _ _)) _ _) _) 1) (fun v wi ⟨hv, hw⟩ => ?_)
  subst hv
  subst hw
  refine Ls_y (wtd0 rfl) rfl rfl (y_move rfl rfl) ?_
  refine Ls_y (wtd0 rfl) rfl rfl (y_ext rfl rfl rfl) ?_
  refine Ls_y (wtd0 rfl) rfl rfl (y_ext rfl rfl rfl) ?_
  refine Ls_y (wtd0 rfl) rfl rfl (y_assign rfl rfl) ?_
  refine Ls_y (wtd0 rfl) rfl rfl (y_assign rfl rfl) ?_
  refine Ls_nil (Th_n (hK11 _ _ ?_))
  refine Wp_seq fun K12 hK12 => ?_
  refine Wp_region ?_
  refine Ls_y (wtd0 rfl) rfl rfl (y_move rfl rfl) ?_
  refine Ls_a (wtd0 rfl) ?_
  refine a_call rfl rfl rfl rfl (unpack_ok (readS (mendD (writeD (syncD (writeD (newD 4) 1 (packS 1 2 0 [97, 98, 99]))) 1 (packS 1 3 0 [120, 121, 122])) [60]) 1) _) (fun v wj ⟨hv, hf⟩ => ?_)
  subst hv
  have hp := hp.keep0 hf
  have hF := hF.step0 hf
  refine Ls_y (wtd0 rfl) rfl rfl (y_move rfl rfl) ?_
  refine Ls_y (wtd0 rfl) rfl rfl (y_ext rfl rfl rfl) ?_
  refine Ls_y (wtd0 rfl) rfl rfl (y_ext rfl rfl rfl) ?_
  refine Ls_a (wtd0 rfl) ?_
  refine a_alloc rfl rfl rfl Ty.zc_29 hp (fun g1 w1 (hp : Hp w1 [(_, Cl [_, _, _, _, _] _), _, _, (_, Cl [_] _), (_, Cl [_, _, _, _] _)]) hf hg1 => ?_)
  have hg1 := Nat.le_trans hF.size hg1
  have hF := hF.step0 hf
  refine Ls_a (wtd0 rfl) ?_
  first
    | refine a_storew (i := 0) rfl rfl rfl rfl Ty.sz_29 rfl (by first | assumption | (simp [Value.oneCell']; done)) hp rfl rfl (fun w2 (hp : Hp w2 [(_, Cl [_, _, _, _, _] _), _, _, (_, Cl [_] _), (_, Cl [_, _, _, _] _)]) hf _ => ?_)
    | refine a_storew (i := 1) rfl rfl rfl rfl Ty.sz_29 rfl (by first | assumption | (simp [Value.oneCell']; done)) hp rfl rfl (fun w2 (hp : Hp w2 [(_, Cl [_, _, _, _, _] _), _, _, (_, Cl [_] _), (_, Cl [_, _, _, _] _)]) hf _ => ?_)
    | refine a_storew (i := 2) rfl rfl rfl rfl Ty.sz_29 rfl (by first | assumption | (simp [Value.oneCell']; done)) hp rfl rfl (fun w2 (hp : Hp w2 [(_, Cl [_, _, _, _, _] _), _, _, (_, Cl [_] _), (_, Cl [_, _, _, _] _)]) hf _ => ?_)
    | refine a_storew (i := 3) rfl rfl rfl rfl Ty.sz_29 rfl (by first | assumption | (simp [Value.oneCell']; done)) hp rfl rfl (fun w2 (hp : Hp w2 [(_, Cl [_, _, _, _, _] _), _, _, (_, Cl [_] _), (_, Cl [_, _, _, _] _)]) hf _ => ?_)
    | refine a_storew (i := 4) rfl rfl rfl rfl Ty.sz_29 rfl (by first | assumption | (simp [Value.oneCell']; done)) hp rfl rfl (fun w2 (hp : Hp w2 [(_, Cl [_, _, _, _, _] _), _, _, (_, Cl [_] _), (_, Cl [_, _, _, _] _)]) hf _ => ?_)
  have hF := hF.step hf (by intro y hy; simp only [List.mem_cons, List.not_mem_nil, or_false] at hy; subst hy; first | (exact Or.inr (by omega)) | (exact Or.inl (by simp)))
  refine Ls_y (wtd0 rfl) rfl rfl (y_assign rfl rfl) ?_
  refine Ls_nil (Th_n (hK12 _ _ ?_))
  refine Wp_seq fun K13 hK13 => ?_
  refine Wp_region ?_
  refine Ls_y (wtd0 rfl) rfl rfl (y_move rfl rfl) ?_
  refine Ls_a (wtd0 rfl) ?_
  refine a_call rfl rfl rfl rfl (unpack_ok (packS 1 2 0 [97, 98, 99]) _) (fun v wk ⟨hv, hf⟩ => ?_)
  subst hv
  have hp := hp.keep0 hf
  have hF := hF.step0 hf
  refine Ls_y (wtd0 rfl) rfl rfl (y_move rfl rfl) ?_
  refine Ls_y (wtd0 rfl) rfl rfl (y_ext rfl rfl rfl) ?_
  refine Ls_y (wtd0 rfl) rfl rfl (y_ext rfl rfl rfl) ?_
  refine Ls_a (wtd0 rfl) ?_
  refine a_alloc rfl rfl rfl Ty.zc_29 hp (fun g3 w3 (hp : Hp w3 [(_, Cl [_, _, _, _, _] _), _, _, (_, Cl [_] _), (_, Cl [_, _, _, _] _), (_, Cl [_, _, _, _] _)]) hf hg3 => ?_)
  have hg3 := Nat.le_trans hF.size hg3
  have hF := hF.step0 hf
  refine Ls_a (wtd0 rfl) ?_
  first
    | refine a_storew (i := 0) rfl rfl rfl rfl Ty.sz_29 rfl (by first | assumption | (simp [Value.oneCell']; done)) hp rfl rfl (fun w4 (hp : Hp w4 [(_, Cl [_, _, _, _, _] _), _, _, (_, Cl [_] _), (_, Cl [_, _, _, _] _), (_, Cl [_, _, _, _] _)]) hf _ => ?_)
    | refine a_storew (i := 1) rfl rfl rfl rfl Ty.sz_29 rfl (by first | assumption | (simp [Value.oneCell']; done)) hp rfl rfl (fun w4 (hp : Hp w4 [(_, Cl [_, _, _, _, _] _), _, _, (_, Cl [_] _), (_, Cl [_, _, _, _] _), (_, Cl [_, _, _, _] _)]) hf _ => ?_)
    | refine a_storew (i := 2) rfl rfl rfl rfl Ty.sz_29 rfl (by first | assumption | (simp [Value.oneCell']; done)) hp rfl rfl (fun w4 (hp : Hp w4 [(_, Cl [_, _, _, _, _] _), _, _, (_, Cl [_] _), (_, Cl [_, _, _, _] _), (_, Cl [_, _, _, _] _)]) hf _ => ?_)
    | refine a_storew (i := 3) rfl rfl rfl rfl Ty.sz_29 rfl (by first | assumption | (simp [Value.oneCell']; done)) hp rfl rfl (fun w4 (hp : Hp w4 [(_, Cl [_, _, _, _, _] _), _, _, (_, Cl [_] _), (_, Cl [_, _, _, _] _), (_, Cl [_, _, _, _] _)]) hf _ => ?_)
    | refine a_storew (i := 4) rfl rfl rfl rfl Ty.sz_29 rfl (by first | assumption | (simp [Value.oneCell']; done)) hp rfl rfl (fun w4 (hp : Hp w4 [(_, Cl [_, _, _, _, _] _), _, _, (_, Cl [_] _), (_, Cl [_, _, _, _] _), (_, Cl [_, _, _, _] _)]) hf _ => ?_)
    | refine a_storew (i := 5) rfl rfl rfl rfl Ty.sz_29 rfl (by first | assumption | (simp [Value.oneCell']; done)) hp rfl rfl (fun w4 (hp : Hp w4 [(_, Cl [_, _, _, _, _] _), _, _, (_, Cl [_] _), (_, Cl [_, _, _, _] _), (_, Cl [_, _, _, _] _)]) hf _ => ?_)
  have hF := hF.step hf (by intro y hy; simp only [List.mem_cons, List.not_mem_nil, or_false] at hy; subst hy; first | (exact Or.inr (by omega)) | (exact Or.inl (by simp)))
  refine Ls_y (wtd0 rfl) rfl rfl (y_assign rfl rfl) ?_
  refine Ls_nil (Th_n (hK13 _ _ ?_))
  refine Wp_seq fun K14 hK14 => ?_
  refine Wp_region ?_
  refine Ls_y (wtd0 rfl) rfl rfl (y_build (cells := [_, _, _, _]) rfl rfl Ty.zc_29 Ty.ps_29 rfl) ?_
  refine Ls_a (wtd0 rfl) ?_
  refine a_call rfl rfl rfl rfl (pack_ok 0 0 0 [] _ (by decide) (by decide) (by decide) (by decide) (by decide) (by decide)) (fun v wl ⟨hv, hf⟩ => ?_)
  subst hv
  have hp := hp.keep0 hf
  have hF := hF.step0 hf
  refine Ls_y (wtd0 rfl) rfl rfl (y_move rfl rfl) ?_
  refine Ls_y (wtd0 rfl) rfl rfl (y_ext rfl rfl rfl) ?_
  refine Ls_y (wtd0 rfl) rfl rfl (y_ext rfl rfl rfl) ?_
  refine Ls_y (wtd0 rfl) rfl rfl (y_assign rfl rfl) ?_
  refine Ls_y (wtd0 rfl) rfl rfl (y_assign rfl rfl) ?_
  refine Ls_nil (Th_n (hK14 _ _ ?_))
  refine Wp_seq fun K15 hK15 => ?_
  refine Wp_region ?_
  refine Ls_y (wtd0 rfl) rfl rfl (y_move rfl rfl) ?_
  refine Ls_y (wtd0 rfl) rfl rfl (y_eq rfl rfl rfl) ?_
  refine Ls_bool 69 rfl (fun _ => ?_) (fun hc2 => absurd hc2 (by decide +kernel))
  refine Ls_y (wtd0 rfl) rfl rfl (y_move rfl rfl) ?_
  refine Ls_y (wtdT rfl rfl rfl) rfl rfl (y_move rfl rfl) ?_
  refine Ls_y (wtdT rfl rfl rfl) rfl rfl (y_lens rfl rfl Try.underlying9) ?_
  refine Ls_y (wtdT rfl rfl rfl) rfl rfl (y_eq rfl rfl rfl) ?_
  refine Ls_bool 73 rfl (fun _ => ?_) (fun hc3 => absurd hc3 (by decide +kernel))
  refine Ls_y (wtd0 rfl) rfl rfl (y_pick_t rfl rfl rfl) ?_
  refine Ls_y (wtd0 rfl) rfl rfl (y_move rfl rfl) ?_
  refine Ls_y (wtdT rfl rfl rfl) rfl rfl (y_move rfl rfl) ?_
  refine Ls_y (wtdT rfl rfl rfl) rfl rfl (y_eq rfl rfl rfl) ?_
  refine Ls_bool 77 rfl (fun _ => ?_) (fun hc4 => absurd hc4 (by decide +kernel))
  refine Ls_y (wtd0 rfl) rfl rfl (y_pick_t rfl rfl rfl) ?_
  refine Ls_y (wtd0 rfl) rfl rfl (y_move rfl rfl) ?_
  refine Ls_y (wtdT rfl rfl rfl) rfl rfl (y_move rfl rfl) ?_
  refine Ls_y (wtdT rfl rfl rfl) rfl rfl (y_eq rfl rfl rfl) ?_
  refine Ls_bool 81 rfl (fun _ => ?_) (fun hc5 => absurd hc5 (by decide +kernel))
  refine Ls_y (wtd0 rfl) rfl rfl (y_pick_t rfl rfl rfl) ?_
  refine Ls_y (wtd0 rfl) rfl rfl (y_move rfl rfl) ?_
  refine Ls_y (wtdT rfl rfl rfl) rfl rfl (y_move rfl rfl) ?_
  refine Ls_y (wtdT rfl rfl rfl) rfl rfl (y_not rfl rfl) ?_
  refine Ls_y (wtd0 rfl) rfl rfl (y_pick_t rfl rfl rfl) ?_
  refine Ls_y (wtd0 rfl) rfl rfl (y_move rfl rfl) ?_
  refine Ls_bool 87 rfl (fun _ => ?_) (fun hc6 => absurd hc6 (by decide +kernel))
  refine Ls_y (wtdT rfl rfl rfl) rfl rfl (y_move rfl rfl) ?_
  refine Ls_y (wtd0 rfl) rfl rfl (y_pick_t rfl rfl rfl) ?_
  refine Ls_y (wtd0 rfl) rfl rfl (y_move rfl rfl) ?_
  refine Ls_bool 90 rfl (fun _ => ?_) (fun hc7 => absurd hc7 (by decide +kernel))
  refine Ls_y (wtdT rfl rfl rfl) rfl rfl (y_fld rfl rfl Ty.fo_29_3) ?_
  first
    | refine Ls_y (wtdT rfl rfl rfl) rfl rfl (y_load (i := 0) rfl rfl Ty.pl_9 (fun _ e => e ▸ hp) rfl rfl) ?_
    | refine Ls_y (wtdT rfl rfl rfl) rfl rfl (y_load (i := 1) rfl rfl Ty.pl_9 (fun _ e => e ▸ hp) rfl rfl) ?_
    | refine Ls_y (wtdT rfl rfl rfl) rfl rfl (y_load (i := 2) rfl rfl Ty.pl_9 (fun _ e => e ▸ hp) rfl rfl) ?_
    | refine Ls_y (wtdT rfl rfl rfl) rfl rfl (y_load (i := 3) rfl rfl Ty.pl_9 (fun _ e => e ▸ hp) rfl rfl) ?_
    | refine Ls_y (wtdT rfl rfl rfl) rfl rfl (y_load (i := 4) rfl rfl Ty.pl_9 (fun _ e => e ▸ hp) rfl rfl) ?_
    | refine Ls_y (wtdT rfl rfl rfl) rfl rfl (y_load (i := 5) rfl rfl Ty.pl_9 (fun _ e => e ▸ hp) rfl rfl) ?_
  refine Ls_y (wtdT rfl rfl rfl) rfl rfl (y_eqs rfl rfl rfl) ?_
  refine Ls_bool 93 rfl (fun _ => ?_) (fun hc8 => absurd hc8 (by decide +kernel))
  refine Ls_y (wtd0 rfl) rfl rfl (y_pick_t rfl rfl rfl) ?_
  refine Ls_y (wtd0 rfl) rfl rfl (y_move rfl rfl) ?_
  refine Ls_y (wtdT rfl rfl rfl) rfl rfl (y_move rfl rfl) ?_
  refine Ls_y (wtdT rfl rfl rfl) rfl rfl (y_eq rfl rfl rfl) ?_
  refine Ls_bool 97 rfl (fun _ => ?_) (fun hc9 => absurd hc9 (by decide +kernel))
  refine Ls_y (wtd0 rfl) rfl rfl (y_pick_t rfl rfl rfl) ?_
  refine Ls_y (wtd0 rfl) rfl rfl (y_move rfl rfl) ?_
  refine Ls_y (wtdT rfl rfl rfl) rfl rfl (y_move rfl rfl) ?_
  refine Ls_a (wtdT rfl rfl rfl) ?_
  refine a_call rfl rfl rfl rfl (dwrite_m p (mendD (writeD (syncD (writeD (newD 4) 1 (packS 1 2 0 [97, 98, 99]))) 1 (packS 1 3 0 [120, 121, 122])) [60]) _ (hp.picks [0, 1, 2] (by decide)) (mendD_ok (writeD_ok (syncD_ok (writeD_ok (newD_ok (by decide) (by decide)) _ _)) _ _) _) 4 ([])) (fun v wm ⟨hv, hM⟩ => ?_)
  subst hv
  have hp : Hp wm [(_, Cl [_] _), (_, Cl [_, _, _, _] _), (_, Cl [_, _, _, _] _), (_, Cl [_, _, _, _, _] _), _, _] := hp.call [3, 4, 5] [0, 1, 2] (by decide) rfl hM
  have hF := hF.step hM.fr (fun y hy => Or.inr (hdk y hy))
  refine Ls_y (wtdT rfl rfl rfl) rfl rfl (y_eq rfl rfl rfl) ?_
  refine Ls_bool 102 rfl (fun _ => ?_) (fun hc10 => absurd hc10 (by decide +kernel))
  refine Ls_y (wtd0 rfl) rfl rfl (y_pick_t rfl rfl rfl) ?_
  refine Ls_y (wtd0 rfl) rfl rfl (y_assign rfl rfl) ?_
  refine Ls_nil (Th_n (hK15 _ _ ?_))
  refine Wp_ret (Fq_ret (Res1 rfl rfl) ?_)
  exact ⟨rfl, hF⟩

end Go.Proofs.Ytikdpkhcegjmfaa

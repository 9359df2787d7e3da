/- Walks printed by gen2.py out of our own specifications: what the functions named below do. -/
import Derived.Test.YtmajjdpioillaaaDoorK4
set_option linter.unusedSimpArgs false
set_option linter.unusedVariables false
namespace Go.Proofs.YtmajjdpioillaaaDoor
open Go.RowKit



set_option maxRecDepth 20000 in
set_option maxHeartbeats 4000000 in
theorem objKeys_ok (X : List Nat) (w : World) (hX : Lo X w) (key : List UInt8) (o : OpM) (e : EffectM) (A_e_tags : Option Addr) (c_e_tags : Nat) (h_e_tags : Sld X w A_e_tags e.tags.length c_e_tags 3 (e.tags.flatMap tagMC)) (mx : Int) (hmx : w.cell? ⟨0, 0, none⟩ = some (.int .i64 mx)) (hwf : EffWf e) :
    Fn Tryd.prog 3 [sv key, .agg (opMC o).toArray, .agg #[.int .i64 e.act, sv e.name, .int .i64 e.val, .int .i64 e.tag.id.origin, .int .u32 e.tag.id.seq, .int .i64 e.tag.n, .int .u32 e.atF.time, .int .i64 e.atF.origin, .slice A_e_tags e.tags.length c_e_tags]] w fun v w' => v = .bool true ∧ Fr [] w w' := by
  refine Fn_of 68 Ty.en_3 Tryd.func3 rfl rfl rfl ?_
  dsimp only [argEnv]
  have st : St X w [] [kS A_e_tags e.tags.length c_e_tags 3 (e.tags.flatMap tagMC)] := (St.nil (X := X) (w := w) hX).addK (kS A_e_tags e.tags.length c_e_tags 3 (e.tags.flatMap tagMC)) h_e_tags
  have hF := Fr.refl ([]) w
  have hleA_e_tags := (st.k (i := 0) rfl).le
  refine Wp_seq fun K1 hK1 => ?_
  refine Wp_region (Ls_a (wtd0 rfl) ?_)
  refine a_box rfl rfl rfl rfl st.hp (fun g1 w1 (hp : Hp w1 [(_, Cl [_, _, _] _)]) hf hg1 => ?_)
  have st : St X w1 [(_, Cl [_, _, _] _)] [_] := st.push hp hf hg1
  have hg1 := Nat.le_trans hF.size hg1
  have hF := hF.step0 hf
  refine Ls_a (wtd0 rfl) ?_
  refine a_box rfl rfl rfl rfl st.hp (fun g2 w2 (hp : Hp w2 [(_, Cl [_, _, _] _), (_, Cl [_, _, _, _, _, _, _, _, _] _)]) hf hg2 => ?_)
  have st : St X w2 [(_, Cl [_, _, _] _), (_, Cl [_, _, _, _, _, _, _, _, _] _)] [_] := st.push hp hf hg2
  have hg2 := Nat.le_trans hF.size hg2
  have hF := hF.step0 hf
  refine Las rfl rfl rfl rfl rfl (Ls_nil (Th_n (hK1 _ _ ?_)))
  refine Wp_seq fun K2 hK2 => ?_
  refine Wp_seq fun K3 hK3 => ?_
  refine Wp_region (Lmv rfl rfl rfl rfl rfl (Ls_y (wtd0 rfl) rfl rfl (y_lens rfl rfl Tryd.underlying9) ?_))
  refine Ls_y (wtd0 rfl) rfl rfl (y_gt rfl rfl rfl) (Lmv rfl rfl rfl rfl rfl (Ls_bool 14 rfl (fun hc1 => ?_) (fun hc1 => ?_)))
  · have hc1 := dT hc1
    refine Ls_s (wtdF rfl rfl rfl) rfl rfl (Ls_s (wtdF rfl rfl rfl) rfl rfl (Ls_s (wtdF rfl rfl rfl) rfl rfl (Ls_s (wtdF rfl rfl rfl) rfl rfl (Ls_y (wtd0 rfl) rfl rfl (y_pick_t rfl rfl rfl) (Lmv rfl rfl rfl rfl rfl (Ls_s (wtdF rfl rfl rfl) rfl rfl (Ls_s (wtdF rfl rfl rfl) rfl rfl (Ls_s (wtdF rfl rfl rfl) rfl rfl (Ls_y (wtd0 rfl) rfl rfl (y_pick_t rfl rfl rfl) (Ls_nil (Th_n (hK3 _ _ ?_))))))))))))
    refine Wp_cond_t rfl (Wp_seq fun K4 hK4 => ?_)
    refine Wp_region (Las rfl rfl rfl rfl rfl (Ls_nil (Th_n (hK4 _ _ ?_))))
    refine Wp_ret (Th_r (Fq_ret (Res1 rfl rfl) ?_))
    exact ⟨rfl, hF⟩
  have hc1 := dF hc1
  refine Ls_y (wtdT rfl rfl rfl) rfl rfl (y_fld rfl rfl Ty.fo_23_1) (Ls_y (wtdT rfl rfl rfl) rfl rfl (y_load (i := 0) rfl rfl Ty.pl_9 (fun _ e => e ▸ st.hp) rfl rfl) ?_)
  refine Ls_y (wtdT rfl rfl rfl) rfl rfl (y_lens rfl rfl Tryd.underlying9) ?_
  refine Ls_y (wtdT rfl rfl rfl) rfl rfl (y_gt rfl rfl rfl) (Ls_y (wtd0 rfl) rfl rfl (y_pick_f rfl rfl rfl) (Lmv rfl rfl rfl rfl rfl (Ls_bool 20 rfl (fun hc2 => ?_) (fun hc2 => ?_))))
  · have hc2 := dT hc2
    refine Ls_s (wtdF rfl rfl rfl) rfl rfl (Ls_s (wtdF rfl rfl rfl) rfl rfl (Ls_s (wtdF rfl rfl rfl) rfl rfl (Ls_y (wtd0 rfl) rfl rfl (y_pick_t rfl rfl rfl) (Ls_nil (Th_n (hK3 _ _ ?_))))))
    refine Wp_cond_t rfl (Wp_seq fun K5 hK5 => ?_)
    refine Wp_region (Las rfl rfl rfl rfl rfl (Ls_nil (Th_n (hK5 _ _ ?_))))
    refine Wp_ret (Th_r (Fq_ret (Res1 rfl rfl) ?_))
    exact ⟨rfl, hF⟩
  have hc2 := dF hc2
  refine Ls_y (wtdT rfl rfl rfl) rfl rfl (y_build (cells := [_, _, _, _, _, _, _, _, _, _]) rfl rfl Ty.zc_46 Ty.ps_46 rfl) ?_
  refine Ls_y (wtdT rfl rfl rfl) rfl rfl (y_loadw (i := 1) rfl rfl Ty.ag_33 (fun _ e => e ▸ st.hp) rfl rfl) ?_
  have st := st.addK (kS none 0 0 4 []) ⟨Rdx.nil, by simp, Nat.le_refl _, Nat.zero_le _⟩
  have st : St X w2 [(_, Cl [_, _, _] _), (_, Cl [_, _, _, _, _, _, _, _, _] _)] [_, _] := st
  have st := st.addK (kS none 0 0 3 []) ⟨Rdx.nil, by simp, Nat.le_refl _, Nat.zero_le _⟩
  have st : St X w2 [(_, Cl [_, _, _] _), (_, Cl [_, _, _, _, _, _, _, _, _] _)] [_, _, _] := st
  have st := st.addK (kS none 0 0 7 []) ⟨Rdx.nil, by simp, Nat.le_refl _, Nat.zero_le _⟩
  have st : St X w2 [(_, Cl [_, _, _] _), (_, Cl [_, _, _, _, _, _, _, _, _] _)] [_, _, _, _] := st
  have st := st.addK (kS none 0 0 3 []) ⟨Rdx.nil, by simp, Nat.le_refl _, Nat.zero_le _⟩
  have st : St X w2 [(_, Cl [_, _, _] _), (_, Cl [_, _, _, _, _, _, _, _, _] _)] [_, _, _, _, _] := st
  refine Ls_a (wtdT rfl rfl rfl) ?_
  refine a_call rfl rfl rfl rfl (great14_ok (keys (hOf st) ++ X) _ st.Lo (⟨0, (⟨0, (⟨0, 0⟩ : StampM)⟩ : RegM), (⟨0, 0⟩ : NumM), (⟨([] : List AddM), ([] : List TagM)⟩ : SetM), (⟨([] : List PutM), ([] : List TagM)⟩ : MapM)⟩ : ObjM) none 0 none 0 none 0 none 0 e A_e_tags c_e_tags (st.k (i := 1) rfl) (st.k (i := 2) rfl) (st.k (i := 3) rfl) (st.k (i := 4) rfl) (st.k (i := 0) rfl)) (fun v w3 ⟨hv, hf⟩ => ?_)
  subst hv
  have st := st.keep0 hf
  have hF := hF.step0 hf
  have st : St X w3 [(_, Cl [_, _, _] _), (_, Cl [_, _, _, _, _, _, _, _, _] _)] [_, _, _, _, _] := st
  refine Ls_y (wtd0 rfl) rfl rfl (y_pick_f rfl rfl rfl) (Ls_nil (Th_n (hK3 _ _ ?_)))
  refine Wp_cond rfl (fun hc3 => ?_) (fun hc3 => ?_)
  · refine Wp_seq fun K6 hK6 => ?_
    refine Wp_region (Las rfl rfl rfl rfl rfl (Ls_nil (Th_n (hK6 _ _ ?_))))
    refine Wp_ret (Th_r (Fq_ret (Res1 rfl rfl) ?_))
    exact ⟨rfl, hF⟩
  have hc3 := bF hc3
  obtain ⟨kb1, kb2⟩ := great_bnd hc3
  refine Wp_skip (Th_n (hK2 _ _ ?_))
  refine Wp_seq fun K7 hK7 => ?_
  refine Wp_region (Lmv rfl rfl rfl rfl rfl (Ls_a (wtd0 rfl) ?_))
  refine a_call rfl rfl rfl rfl (okey_ok (keys (hOf st) ++ X) _ st.Lo key mx (cellF hF hmx)) (fun v w4 ⟨hv, hf⟩ => ?_)
  subst hv
  have st := st.keep0 hf
  have hF := hF.step0 hf
  have st : St X w4 [(_, Cl [_, _, _] _), (_, Cl [_, _, _, _, _, _, _, _, _] _)] [_, _, _, _, _] := st
  refine Lmv rfl rfl rfl rfl rfl (Lex rfl rfl rfl rfl rfl rfl (Lex rfl rfl rfl rfl rfl rfl (Las rfl rfl rfl rfl rfl (Las rfl rfl rfl rfl rfl (Ls_nil (Th_n (hK7 _ _ ?_)))))))
  refine Wp_seq fun K8 hK8 => ?_
  refine Wp_region (Lmv rfl rfl rfl rfl rfl (Ls_a (wtd0 rfl) ?_))
  refine a_call rfl rfl rfl rfl (r14key_ok _ key) (fun v w5 ⟨hv, hf⟩ => ?_)
  subst hv
  have st := st.keep0 hf
  have hF := hF.step0 hf
  have st : St X w5 [(_, Cl [_, _, _] _), (_, Cl [_, _, _, _, _, _, _, _, _] _)] [_, _, _, _, _] := st
  refine Lmv rfl rfl rfl rfl rfl (Lex rfl rfl rfl rfl rfl rfl (Lex rfl rfl rfl rfl rfl rfl (Las rfl rfl rfl rfl rfl (Las rfl rfl rfl rfl rfl (Ls_nil (Th_n (hK8 _ _ ?_)))))))
  refine Wp_seq fun K9 hK9 => ?_
  refine Wp_plan (fun W => St X W (pickL (hOf st) [0, 1]) (kOf st)) [(true, 0), (true, 1), (true, 2), (true, 3), (true, 4), (true, 5), (true, 6), (true, 7), (true, 8), (true, 9), (true, 10), (true, 12), (true, 13), (false, 11), (false, 14), (true, 15), (true, 16), (true, 17), (true, 18), (true, 21), (false, 19), (false, 20), (false, 22), (true, 23), (true, 24), (true, 25), (true, 26), (true, 29), (false, 27), (false, 28), (false, 30), (true, 31), (true, 32), (true, 33)] Ty.mx_0 (by kernel_rfl) (by kernel_rfl) rfl ((st.picks [0, 1] (by decide)).drew) ?_
  have st := st.drew
  have hF := hF.step0 (Fr.drew _)
  refine Pmv rfl rfl rfl rfl rfl rfl (Pmv rfl rfl rfl rfl rfl rfl (Pl_y rfl (wtd0 rfl) rfl rfl (y_eq rfl rfl rfl) (Pmv rfl rfl rfl rfl rfl rfl ?_)))
  have hd1 : ((okey_m key).1) = ((r14key_m key).1) := by
    rw [okey_eq]
  refine Pl_bool 38 rfl (fun _ => ?_) (fun hc4 => absurd hc4 (by first | (simp [hd1]; done) | (rw [hd1]; simp; done) | simpa using hd1))
  refine Pl_y rfl (wtdT rfl rfl rfl) rfl rfl (y_move rfl rfl) (Pl_y rfl (wtdT rfl rfl rfl) rfl rfl (y_move rfl rfl) (Pl_y rfl (wtdT rfl rfl rfl) rfl rfl (y_eq rfl rfl rfl) (Pl_y rfl (wtd0 rfl) rfl rfl (y_pick_t rfl rfl rfl) (Pmv rfl rfl rfl rfl rfl rfl ?_))))
  have hd2 : ((okey_m key).2) = ((r14key_m key).2) := by
    rw [okey_eq]
  refine Pl_bool 43 rfl (fun _ => ?_) (fun hc5 => absurd hc5 (by first | (simp [hd2]; done) | (rw [hd2]; simp; done) | simpa using hd2))
  refine Pl_y rfl (wtdT rfl rfl rfl) rfl rfl (y_fld rfl rfl Ty.fo_23_0) (Pl_y rfl (wtdT rfl rfl rfl) rfl rfl (y_load (i := 0) rfl rfl Ty.pl_3 (fun _ h => h.hp) rfl rfl) ?_)
  refine Pl_y rfl (wtdT rfl rfl rfl) rfl rfl (y_fld rfl rfl Ty.fo_23_0) (Pl_y rfl (wtdT rfl rfl rfl) rfl rfl (y_load (i := 0) rfl rfl Ty.pl_3 (fun _ h => h.hp) rfl rfl) ?_)
  refine Pl_a rfl (wtdT rfl rfl rfl) (by rfl) ?_
  refine a_call rfl rfl rfl rfl (okind_ok _ o.act) (fun v w6 ⟨hv, hf⟩ => ?_)
  subst hv
  have st := st.keep0 hf
  have hF := hF.step0 hf
  have st : St X w6 [(_, Cl [_, _, _] _), (_, Cl [_, _, _, _, _, _, _, _, _] _)] [_, _, _, _, _] := st
  refine ⟨(st.picks [0, 1] (by decide)).takeK 5, ?_⟩
  refine Pl_a rfl (wtdT rfl rfl rfl) (by rfl) ?_
  refine a_call rfl rfl rfl rfl (r14kind_ok _ o.act) (fun v w7 ⟨hv, hf⟩ => ?_)
  subst hv
  have st := st.keep0 hf
  have hF := hF.step0 hf
  have st : St X w7 [(_, Cl [_, _, _] _), (_, Cl [_, _, _, _, _, _, _, _, _] _)] [_, _, _, _, _] := st
  refine ⟨(st.picks [0, 1] (by decide)).takeK 5, ?_⟩
  refine Pl_y rfl (wtdT rfl rfl rfl) rfl rfl (y_eq rfl rfl rfl) (Pl_y rfl (wtd0 rfl) rfl rfl (y_pick_t rfl rfl rfl) (Pmv rfl rfl rfl rfl rfl rfl ?_))
  have hd3 : (okind_m o.act) = (r14kind_m o.act) := by
    rfl
  refine Pl_bool 52 rfl (fun _ => ?_) (fun hc6 => absurd hc6 (by first | (simp [hd3]; done) | (rw [hd3]; simp; done) | simpa using hd3))
  refine Pl_y rfl (wtdT rfl rfl rfl) rfl rfl (y_loadw (i := 0) rfl rfl Ty.ag_23 (fun _ h => h.hp) rfl rfl) ?_
  refine Pl_y rfl (wtdT rfl rfl rfl) rfl rfl (y_loadw (i := 0) rfl rfl Ty.ag_23 (fun _ h => h.hp) rfl rfl) ?_
  refine Pl_a rfl (wtdT rfl rfl rfl) (by rfl) ?_
  refine a_call rfl rfl rfl rfl (op14_ok _ o) (fun v w8 ⟨hv, hf⟩ => ?_)
  subst hv
  have st := st.keep0 hf
  have hF := hF.step0 hf
  have st : St X w8 [(_, Cl [_, _, _] _), (_, Cl [_, _, _, _, _, _, _, _, _] _)] [_, _, _, _, _] := st
  refine ⟨(st.picks [0, 1] (by decide)).takeK 5, ?_⟩
  refine Pl_a rfl (wtdT rfl rfl rfl) (by rfl) ?_
  refine a_call rfl rfl rfl rfl (ocheckOp_ok _ (op14_m o)) (fun v w9 ⟨hv, hf⟩ => ?_)
  subst hv
  have st := st.keep0 hf
  have hF := hF.step0 hf
  have st : St X w9 [(_, Cl [_, _, _] _), (_, Cl [_, _, _, _, _, _, _, _, _] _)] [_, _, _, _, _] := st
  refine ⟨(st.picks [0, 1] (by decide)).takeK 5, ?_⟩
  refine Pl_a rfl (wtdT rfl rfl rfl) (by rfl) ?_
  refine a_call rfl rfl rfl rfl (r14checkOp_ok _ o) (fun v w10 ⟨hv, hf⟩ => ?_)
  subst hv
  have st := st.keep0 hf
  have hF := hF.step0 hf
  have st : St X w10 [(_, Cl [_, _, _] _), (_, Cl [_, _, _, _, _, _, _, _, _] _)] [_, _, _, _, _] := st
  refine ⟨(st.picks [0, 1] (by decide)).takeK 5, ?_⟩
  refine Pl_y rfl (wtdT rfl rfl rfl) rfl rfl (y_eq rfl rfl rfl) (Pl_y rfl (wtd0 rfl) rfl rfl (y_pick_t rfl rfl rfl) (Pmv rfl rfl rfl rfl rfl rfl ?_))
  have hd4 : (ocheckOp_m (op14_m o)) = (r14checkOp_m o) := by
    exact checkOp_eq _
  refine Pl_bool 60 rfl (fun _ => ?_) (fun hc7 => absurd hc7 (by first | (simp [hd4]; done) | (rw [hd4]; simp; done) | simpa using hd4))
  refine Pl_y rfl (wtdT rfl rfl rfl) rfl rfl (y_loadw (i := 1) rfl rfl Ty.ag_33 (fun _ h => h.hp) rfl rfl) ?_
  refine Pl_y rfl (wtdT rfl rfl rfl) rfl rfl (y_loadw (i := 1) rfl rfl Ty.ag_33 (fun _ h => h.hp) rfl rfl) ?_
  refine Pl_a rfl (wtdT rfl rfl rfl) (by rfl) ?_
  refine a_call rfl rfl rfl rfl (eff14_ok (keys (hOf st) ++ X) _ st.Lo e A_e_tags c_e_tags (st.k (i := 0) rfl) (by omega)) (fun v w11 ⟨Ar1, cr1, hv, hr1, hf⟩ => ?_)
  subst hv
  have st := st.keep0 hf
  have hF := hF.step0 hf
  have hlehr1 := Sld.le hr1
  have st := st.addK (kS Ar1 ((eff14_m e).tags).length cr1 3 (((eff14_m e).tags).flatMap tagMC)) hr1
  have st : St X w11 [(_, Cl [_, _, _] _), (_, Cl [_, _, _, _, _, _, _, _, _] _)] [_, _, _, _, _, _] := st
  refine ⟨(st.picks [0, 1] (by decide)).takeK 5, ?_⟩
  refine Pl_a rfl (wtdT rfl rfl rfl) (by rfl) ?_
  refine a_call rfl rfl rfl rfl (ocheckE_ok (keys (hOf st) ++ X) _ st.Lo (eff14_m e) Ar1 cr1 (st.k (i := 5) rfl)) (fun v w12 ⟨hv, hf⟩ => ?_)
  subst hv
  have st := st.keep0 hf
  have hF := hF.step0 hf
  have st : St X w12 [(_, Cl [_, _, _] _), (_, Cl [_, _, _, _, _, _, _, _, _] _)] [_, _, _, _, _, _] := st
  refine ⟨(st.picks [0, 1] (by decide)).takeK 5, ?_⟩
  refine Pl_a rfl (wtdT rfl rfl rfl) (by rfl) ?_
  refine a_call rfl rfl rfl rfl (r14checkE_ok (keys (hOf st) ++ X) _ st.Lo e A_e_tags c_e_tags (st.k (i := 0) rfl)) (fun v w13 ⟨hv, hf⟩ => ?_)
  subst hv
  have st := st.keep0 hf
  have hF := hF.step0 hf
  have st : St X w13 [(_, Cl [_, _, _] _), (_, Cl [_, _, _, _, _, _, _, _, _] _)] [_, _, _, _, _, _] := st
  refine ⟨(st.picks [0, 1] (by decide)).takeK 5, ?_⟩
  refine Pl_y rfl (wtdT rfl rfl rfl) rfl rfl (y_eq rfl rfl rfl) (Pl_y rfl (wtd0 rfl) rfl rfl (y_pick_t rfl rfl rfl) (Pl_y rfl (wtd0 rfl) rfl rfl (y_assign rfl rfl) (Pl_nil (Th_n (hK9 _ _ ?_)))))
  refine Wp_ret (Fq_ret (Res1 rfl rfl) ?_)
  have hres : ((ocheckE_m (eff14_m e)) == (r14checkE_m e)) = true := by
    rw [eff14_eq, checkE_eq hwf]; exact beq_iff_eq.2 rfl
  rw [hres]
  exact ⟨rfl, hF⟩

end Go.Proofs.YtmajjdpioillaaaDoor

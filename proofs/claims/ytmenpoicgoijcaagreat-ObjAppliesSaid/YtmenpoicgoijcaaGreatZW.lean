/- Walks printed by gen2.py out of our own specifications: what the functions named below do. -/
import Derived.Test.YtmenpoicgoijcaaGreatSc
import Derived.Test.YtmenpoicgoijcaaGreatZO
set_option linter.unusedSimpArgs false
set_option linter.unusedVariables false
set_option maxRecDepth 20000
namespace Go.Proofs.YtmenpoicgoijcaaGreat
open Go.RowKit
set_option maxHeartbeats 4000000 in
theorem objApplies_ok (X : List Nat) (w : World) (hX : Lo X w) (s : ObjM) (A1 : Option Addr) (C1 : Nat) (A2 : Option Addr) (C2 : Nat) (A4 : Option Addr) (C4 : Nat) (A3 : Option Addr) (C3 : Nat) (e : EffectM) (A5 : Option Addr) (C5 : Nat) (vv : A8u32M) (z5 : Sld X w A1 s.setF.adds.length C1 4 (s.setF.adds.flatMap addMC)) (z6 : Sld X w A2 s.setF.gone.length C2 3 (s.setF.gone.flatMap tagMC)) (z8 : Sld X w A4 s.map.puts.length C4 7 (s.map.puts.flatMap putMC)) (z7 : Sld X w A3 s.map.gone.length C3 3 (s.map.gone.flatMap tagMC)) (z10 : Sld X w A5 e.tags.length C5 3 (e.tags.flatMap tagMC)) (w1 : SetWf s.setF) (w2 : MapWf s.map) (w3 : EffWf e) :
    Fn Tryz.prog 3 [.agg #[.int .i64 s.kind, .int .i64 s.reg.val, .int .u32 s.reg.atF.time, .int .i64 s.reg.atF.origin, .int .i64 s.num.plus, .int .i64 s.num.minus, .slice A1 s.setF.adds.length C1, .slice A2 s.setF.gone.length C2, .slice A4 s.map.puts.length C4, .slice A3 s.map.gone.length C3], .agg #[.int .i64 e.act, sv e.name, .int .i64 e.val, .int .i64 e.tag.id.origin, .int .u32 e.tag.id.seq, .int .i64 e.tag.n, .int .u32 e.atF.time, .int .i64 e.atF.origin, .slice A5 e.tags.length C5], .agg (a8u32C vv).toArray] w fun v w' => v = .bool true ∧ Fr [] w w' := by
  refine Fn_of 80 Ty.en_3 Tryz.func3 rfl rfl rfl ?_
  dsimp only [argEnv]
  have st := stn5 hX z5 z6 z8 z7 z10
  have hF := Fr.refl ([]) w
  have hap : oapply_m (to14_m s) (toEff_m e) = r14apply_m s e := by rw [to14_eq, toEff_eq]; exact apply_eq w1 w2 w3
  have hcp : bcompact_m (to14_m s) vv = r14compact_m s vv := by rw [to14_eq]; exact compact_eq w1 w2 vv
  have hsay : osay_m (to14_m s) = r14say_m s := by rw [to14_eq]; exact say_eq w1 w2
  refine sq fun _ k1 => rg (La rfl (Sbx st hF rfl fun g1 w1 (st : St _ _ [_] _) hF hg1 => La rfl (Sbx st hF rfl fun g2 w2 (st : St _ _ [_, _] _) hF hg2 => La rfl (Sbx st hF rfl fun g3 w3 (st : St _ _ [_, _, _] _) hF hg3 => Ls' rfl (Ln k1 (sq fun _ k2 => sq fun _ k3 => rg (Ly rfl (yw 0 Ty.ag_37 st rfl) (Ly rfl (yw 1 Ty.ag_43 st rfl) (La rfl (Scl st hF rfl (great14_ok (keys (hOf st) ++ X) _ st.Lo s A1 C1 A2 C2 A4 C4 A3 C3 e A5 C5 (st.q 0 rfl) (st.q 1 rfl) (st.q 2 rfl) (st.q 3 rfl) (st.q 4 rfl)) fun w4 st hF => Ln k3 (cB rfl (fun hc1 => ?_) (fun hc1 => ?_))))))))))))
  · refine sq fun _ k4 => rg (Ls' rfl (Ln k4 (wR (Th_r (fR (Res1 rfl rfl) ?_)))))
    exact ⟨rfl, hF⟩
  obtain ⟨kb1, kb2, kb3, kb4, kb5, _⟩ := great14_bnd hc1
  have ksm : Small (to14_m s) 1000 := by rw [to14_eq]; exact ⟨by omega, by omega, by omega, by omega⟩
  obtain ⟨ka1, ka2, ka3, ka4⟩ := apply_small ksm (toEff_m e)
  obtain ⟨kc1, kc2, kc3, kc4⟩ := compact_small ksm vv
  have ksy := say_small ksm
  obtain ⟨kt1, kt2, kt3, kt4⟩ := ksm
  have kte : (toEff_m e).tags.length ≤ 100 := by rw [toEff_eq]; exact kb5
  refine sk k2 (sq fun _ k5 => rg (Ly rfl (yw 0 Ty.ag_37 st rfl) (La rfl (a_call rfl rfl rfl rfl (to14_ok (keys (hOf st) ++ X) _ st.Lo s A1 C1 A2 C2 A4 C4 A3 C3 (st.q 0 rfl) (st.q 1 rfl) (st.q 2 rfl) (st.q 3 rfl) (by omega) (by omega) (by omega) (by omega)) (fun v w5 ⟨Ar1, cr1, Ar2, cr2, Ar3, cr3, Ar4, cr4, hv, hr1, hr2, hr3, hr4, hf⟩ => ?_)))))
  subst hv
  have st := st.keep0 hf
  have hF := hF.step0 hf
  have z101 := Sld.le hr1
  have st := st.addK (kS Ar1 (((to14_m s).setF).adds).length cr1 4 ((((to14_m s).setF).adds).flatMap addMC)) hr1
  have z102 := Sld.le hr2
  have st := st.addK (kS Ar2 (((to14_m s).setF).gone).length cr2 3 ((((to14_m s).setF).gone).flatMap tagMC)) hr2
  have z103 := Sld.le hr3
  have st := st.addK (kS Ar3 (((to14_m s).map).puts).length cr3 7 ((((to14_m s).map).puts).flatMap putMC)) hr3
  have z104 := Sld.le hr4
  have st := st.addK (kS Ar4 (((to14_m s).map).gone).length cr4 3 ((((to14_m s).map).gone).flatMap tagMC)) hr4
  have st : St X w5 [_, _, _] [_, _, _, _, _, _, _, _, _] := st
  refine La rfl (Sal Ty.zc_56 st hF rfl fun g4 w6 (st : St _ _ [_, _, _, _] _) hF hg4 => La rfl (Ssw 3 Ty.sz_56 st hF (.inr hg4) rfl fun w7 (st : St _ _ [_, _, _, _] _) hF => Ln k5 (sq fun _ k6 => ?_)))
  refine Wp_px (fun W => St X W (pickL (hOf st) [0, 1, 2, 3]) (kOf st)) 10 rfl Ty.mx_0 ((st.pk [0, 1, 2, 3] (by decide)).drew) ?_
  have st := st.drew
  have hF := hF.step0 (Fr.drew _)
  refine Px_y (i := 0) rfl (by kernel_rfl) (wtd0 rfl) rfl rfl (y_loadw (i := 3) rfl rfl Ty.ag_56 (fun _ h => h.hp) rfl rfl) ?_
  refine Px_y (i := 1) rfl (by kernel_rfl) (wtd0 rfl) rfl rfl (y_loadw (i := 1) rfl rfl Ty.ag_43 (fun _ h => h.hp) rfl rfl) ?_
  refine Px_a2 (i := 2) (j := 7) (by kernel_rfl) rfl (wtd0 rfl) rfl (wtd0 rfl) ?_ ?_
  · refine a_call rfl rfl rfl rfl (toEff_ok (keys (hOf st) ++ X) _ st.Lo e A5 C5 (st.q 4 rfl) (by omega)) (fun v w8 ⟨Ar5, cr5, hv, hr5, hf⟩ => ?_)
    subst hv
    have st := st.keep0 hf
    have hF := hF.step0 hf
    have z105 := Sld.le hr5
    have st := st.addK (kS Ar5 ((toEff_m e).tags).length cr5 3 (((toEff_m e).tags).flatMap tagMC)) hr5
    have st : St X w8 [_, _, _, _] [_, _, _, _, _, _, _, _, _, _] := st
    refine ⟨(st.pk [0, 1, 2, 3] (by decide)).tK 9, ?_⟩
    refine Px_a2 (i := 3) (j := 7) (by kernel_rfl) rfl (wtd0 rfl) rfl (wtd0 rfl) ?_ ?_
    · refine a_call rfl rfl rfl rfl (oapply_ok (keys (hOf st) ++ X) _ st.Lo (to14_m s) Ar1 cr1 Ar2 cr2 Ar3 cr3 Ar4 cr4 (toEff_m e) Ar5 cr5 (st.q 5 rfl) (st.q 6 rfl) (st.q 7 rfl) (st.q 8 rfl) (st.q 9 rfl) (by omega) (by omega) (by omega) (by omega) (by omega)) (fun v w9 ⟨Ar6, cr6, Ar7, cr7, Ar8, cr8, Ar9, cr9, hv, hr6, hr7, hr8, hr9, hf⟩ => ?_)
      subst hv
      have st := st.keep0 hf
      have hF := hF.step0 hf
      have z106 := Sld.le hr6
      have st := st.addK (kS Ar6 ((((oapply_m (to14_m s) (toEff_m e)).1).setF).adds).length cr6 4 (((((oapply_m (to14_m s) (toEff_m e)).1).setF).adds).flatMap addMC)) hr6
      have z107 := Sld.le hr7
      have st := st.addK (kS Ar7 ((((oapply_m (to14_m s) (toEff_m e)).1).setF).gone).length cr7 3 (((((oapply_m (to14_m s) (toEff_m e)).1).setF).gone).flatMap tagMC)) hr7
      have z108 := Sld.le hr8
      have st := st.addK (kS Ar8 ((((oapply_m (to14_m s) (toEff_m e)).1).map).puts).length cr8 7 (((((oapply_m (to14_m s) (toEff_m e)).1).map).puts).flatMap putMC)) hr8
      have z109 := Sld.le hr9
      have st := st.addK (kS Ar9 ((((oapply_m (to14_m s) (toEff_m e)).1).map).gone).length cr9 3 (((((oapply_m (to14_m s) (toEff_m e)).1).map).gone).flatMap tagMC)) hr9
      have st : St X w9 [_, _, _, _] [_, _, _, _, _, _, _, _, _, _, _, _, _, _] := st
      refine ⟨(st.pk [0, 1, 2, 3] (by decide)).tK 9, ?_⟩
      refine Px_y (i := 4) rfl (by kernel_rfl) (wtd0 rfl) rfl rfl (y_move rfl rfl) ?_
      refine Px_y (i := 5) rfl (by kernel_rfl) (wtd0 rfl) rfl rfl (y_ext rfl rfl rfl) ?_
      refine Px_y (i := 6) rfl (by kernel_rfl) (wtd0 rfl) rfl rfl (y_ext rfl rfl rfl) ?_
      refine Px_a (i := 7) (by kernel_rfl) rfl (wtd0 rfl) ?_
      refine Sal Ty.zc_56 st hF rfl fun g5 w10 (st : St _ _ [_, _, _, _, _] _) hF hg5 => ?_
      refine ⟨(st.pk [0, 1, 2, 3] (by decide)).tK 9, ?_⟩
      refine Px_a (i := 8) (by kernel_rfl) rfl (wtd0 rfl) ?_
      refine Ssw 4 Ty.sz_56 st hF (.inr hg5) rfl fun w11 (st : St _ _ [_, _, _, _, _] _) hF => ?_
      refine ⟨(st.pk [0, 1, 2, 3] (by decide)).tK 9, ?_⟩
      refine Px_y (i := 9) rfl (by kernel_rfl) (wtd0 rfl) rfl rfl (y_assign rfl rfl) ?_
      refine Px_done (by kernel_rfl) (Th_n (k6 _ _ ?_))
      refine sq fun _ k7 => rg (Ly rfl (yw 0 Ty.ag_37 st rfl) (Ly rfl (yw 1 Ty.ag_43 st rfl) (La rfl (a_call rfl rfl rfl rfl (r14apply_ok (keys (hOf st) ++ X) _ st.Lo s A1 C1 A2 C2 A4 C4 A3 C3 e A5 C5 (st.q 0 rfl) (st.q 1 rfl) (st.q 2 rfl) (st.q 3 rfl) (st.q 4 rfl) (by omega) (by omega) (by omega) (by omega)) (fun v w12 ⟨Ar10, cr10, Ar11, cr11, Ar12, cr12, Ar13, cr13, hv, hr10, hr11, hr12, hr13, hf⟩ => ?_)))))
      subst hv
      have st := st.keep0 hf
      have hF := hF.step0 hf
      have z11 := Sld.le hr10
      have st := st.addK (kS Ar10 ((((r14apply_m s e).1).setF).adds).length cr10 4 (((((r14apply_m s e).1).setF).adds).flatMap addMC)) hr10
      have z12 := Sld.le hr11
      have st := st.addK (kS Ar11 ((((r14apply_m s e).1).setF).gone).length cr11 3 (((((r14apply_m s e).1).setF).gone).flatMap tagMC)) hr11
      have z13 := Sld.le hr12
      have st := st.addK (kS Ar12 ((((r14apply_m s e).1).map).puts).length cr12 7 (((((r14apply_m s e).1).map).puts).flatMap putMC)) hr12
      have z14 := Sld.le hr13
      have st := st.addK (kS Ar13 ((((r14apply_m s e).1).map).gone).length cr13 3 (((((r14apply_m s e).1).map).gone).flatMap tagMC)) hr13
      have st : St X w12 [_, _, _, _, _] [_, _, _, _, _, _, _, _, _, _, _, _, _, _, _, _, _, _] := st
      refine Lm rfl (Lx rfl (Lx rfl (La rfl (Sal Ty.zc_37 st hF rfl fun g6 w13 (st : St _ _ [_, _, _, _, _, _] _) hF hg6 => La rfl (Ssw 5 Ty.sz_37 st hF (.inr hg6) rfl fun w14 (st : St _ _ [_, _, _, _, _, _] _) hF => Ls' rfl (Ln k7 (sq fun _ k8 => rg (Ly rfl (yw 3 Ty.ag_56 st rfl) (Ly rfl (yw 2 Ty.ag_45 st rfl) (La rfl (a_call rfl rfl rfl rfl (bcompact_ok (keys (hOf st) ++ X) _ st.Lo (to14_m s) Ar1 cr1 Ar2 cr2 Ar3 cr3 Ar4 cr4 vv (st.q 5 rfl) (st.q 6 rfl) (st.q 7 rfl) (st.q 8 rfl) (by omega) (by omega) (by omega) (by omega)) (fun v w15 ⟨Ar14, cr14, Ar15, cr15, Ar16, cr16, Ar17, cr17, hv, hr14, hr15, hr16, hr17, hf⟩ => ?_))))))))))))
      subst hv
      have st := st.keep0 hf
      have hF := hF.step0 hf
      have z15 := Sld.le hr14
      have st := st.addK (kS Ar14 ((((bcompact_m (to14_m s) vv).1).setF).adds).length cr14 4 (((((bcompact_m (to14_m s) vv).1).setF).adds).flatMap addMC)) hr14
      have z16 := Sld.le hr15
      have st := st.addK (kS Ar15 ((((bcompact_m (to14_m s) vv).1).setF).gone).length cr15 3 (((((bcompact_m (to14_m s) vv).1).setF).gone).flatMap tagMC)) hr15
      have z17 := Sld.le hr16
      have st := st.addK (kS Ar16 ((((bcompact_m (to14_m s) vv).1).map).puts).length cr16 7 (((((bcompact_m (to14_m s) vv).1).map).puts).flatMap putMC)) hr16
      have z18 := Sld.le hr17
      have st := st.addK (kS Ar17 ((((bcompact_m (to14_m s) vv).1).map).gone).length cr17 3 (((((bcompact_m (to14_m s) vv).1).map).gone).flatMap tagMC)) hr17
      have st : St X w15 [_, _, _, _, _, _] [_, _, _, _, _, _, _, _, _, _, _, _, _, _, _, _, _, _, _, _, _, _] := st
      refine Lm rfl (Lx rfl (Lx rfl (La rfl (Sal Ty.zc_56 st hF rfl fun g7 w16 (st : St _ _ [_, _, _, _, _, _, _] _) hF hg7 => La rfl (Ssw 6 Ty.sz_56 st hF (.inr hg7) rfl fun w17 (st : St _ _ [_, _, _, _, _, _, _] _) hF => Ls' rfl (Ln k8 (sq fun _ k9 => rg (Ly rfl (yw 0 Ty.ag_37 st rfl) (Ly rfl (yw 2 Ty.ag_45 st rfl) (La rfl (a_call rfl rfl rfl rfl (r14compact_ok (keys (hOf st) ++ X) _ st.Lo s A1 C1 A2 C2 A4 C4 A3 C3 vv (st.q 0 rfl) (st.q 1 rfl) (st.q 2 rfl) (st.q 3 rfl) (by omega) (by omega) (by omega) (by omega)) (fun v w18 ⟨Ar18, cr18, Ar19, cr19, Ar20, cr20, Ar21, cr21, hv, hr18, hr19, hr20, hr21, hf⟩ => ?_))))))))))))
      subst hv
      have st := st.keep0 hf
      have hF := hF.step0 hf
      have z19 := Sld.le hr18
      have st := st.addK (kS Ar18 ((((r14compact_m s vv).1).setF).adds).length cr18 4 (((((r14compact_m s vv).1).setF).adds).flatMap addMC)) hr18
      have z20 := Sld.le hr19
      have st := st.addK (kS Ar19 ((((r14compact_m s vv).1).setF).gone).length cr19 3 (((((r14compact_m s vv).1).setF).gone).flatMap tagMC)) hr19
      have z21 := Sld.le hr20
      have st := st.addK (kS Ar20 ((((r14compact_m s vv).1).map).puts).length cr20 7 (((((r14compact_m s vv).1).map).puts).flatMap putMC)) hr20
      have z22 := Sld.le hr21
      have st := st.addK (kS Ar21 ((((r14compact_m s vv).1).map).gone).length cr21 3 (((((r14compact_m s vv).1).map).gone).flatMap tagMC)) hr21
      have st : St X w18 [_, _, _, _, _, _, _] [_, _, _, _, _, _, _, _, _, _, _, _, _, _, _, _, _, _, _, _, _, _, _, _, _, _] := st
      refine Lm rfl (Lx rfl (Lx rfl (La rfl (Sal Ty.zc_37 st hF rfl fun g8 w19 (st : St _ _ [_, _, _, _, _, _, _, _] _) hF hg8 => La rfl (Ssw 7 Ty.sz_37 st hF (.inr hg8) rfl fun w20 (st : St _ _ [_, _, _, _, _, _, _, _] _) hF => Ls' rfl (Ln k9 (sq fun _ k10 => ?_)))))))
      refine Wp_plan (fun W => St X W (pickL (hOf st) [0, 1, 2, 3, 4, 5, 6, 7]) (kOf st)) [(true, 0), (true, 2), (false, 1), (false, 3), (true, 4), (true, 5), (true, 6), (true, 7), (true, 8), (true, 9), (true, 10), (true, 12), (false, 11), (false, 13), (true, 14), (true, 15), (true, 16), (true, 17), (true, 18), (true, 19), (true, 20), (true, 21), (true, 24), (false, 22), (false, 23), (false, 25), (false, 26), (true, 27), (true, 28), (true, 29), (true, 31), (false, 30), (false, 32), (true, 33), (true, 34)] Ty.mx_0 (by kernel_rfl) (by kernel_rfl) rfl ((st.pk [0, 1, 2, 3, 4, 5, 6, 7] (by decide)).drew) ?_
      have st := st.drew
      have hF := hF.step0 (Fr.drew _)
      refine Py rfl (y_loadw (i := 4) rfl rfl Ty.ag_56 (fun _ h => h.hp) rfl rfl) (Py rfl (y_loadw (i := 5) rfl rfl Ty.ag_37 (fun _ h => h.hp) rfl rfl) (Pl_a rfl (wtd0 rfl) (by rfl) ?_))
      refine a_call rfl rfl rfl rfl (from14_ok (keys (hOf st) ++ X) _ st.Lo ((oapply_m (to14_m s) (toEff_m e)).1) Ar6 cr6 Ar7 cr7 Ar8 cr8 Ar9 cr9 (st.q 10 rfl) (st.q 11 rfl) (st.q 12 rfl) (st.q 13 rfl) (by omega) (by omega) (by omega) (by omega)) (fun v w21 ⟨Ar22, cr22, Ar23, cr23, Ar24, cr24, Ar25, cr25, hv, hr22, hr23, hr24, hr25, hf⟩ => ?_)
      subst hv
      have st := st.keep0 hf
      have hF := hF.step0 hf
      have z23 := Sld.le hr22
      have st := st.addK (kS Ar22 (((from14_m ((oapply_m (to14_m s) (toEff_m e)).1)).setF).adds).length cr22 4 ((((from14_m ((oapply_m (to14_m s) (toEff_m e)).1)).setF).adds).flatMap addMC)) hr22
      have z24 := Sld.le hr23
      have st := st.addK (kS Ar23 (((from14_m ((oapply_m (to14_m s) (toEff_m e)).1)).setF).gone).length cr23 3 ((((from14_m ((oapply_m (to14_m s) (toEff_m e)).1)).setF).gone).flatMap tagMC)) hr23
      have z25 := Sld.le hr24
      have st := st.addK (kS Ar24 (((from14_m ((oapply_m (to14_m s) (toEff_m e)).1)).map).puts).length cr24 7 ((((from14_m ((oapply_m (to14_m s) (toEff_m e)).1)).map).puts).flatMap putMC)) hr24
      have z26 := Sld.le hr25
      have st := st.addK (kS Ar25 (((from14_m ((oapply_m (to14_m s) (toEff_m e)).1)).map).gone).length cr25 3 ((((from14_m ((oapply_m (to14_m s) (toEff_m e)).1)).map).gone).flatMap tagMC)) hr25
      have st : St X w21 [_, _, _, _, _, _, _, _] [_, _, _, _, _, _, _, _, _, _, _, _, _, _, _, _, _, _, _, _, _, _, _, _, _, _, _, _, _, _] := st
      refine ⟨(st.pk [0, 1, 2, 3, 4, 5, 6, 7] (by decide)).tK 26, ?_⟩
      refine Pl_a rfl (wtd0 rfl) (by rfl) ?_
      refine Scl st hF rfl (r14same_ok (keys (hOf st) ++ X) _ st.Lo (from14_m ((oapply_m (to14_m s) (toEff_m e)).1)) Ar22 cr22 Ar23 cr23 Ar24 cr24 Ar25 cr25 ((r14apply_m s e).1) Ar10 cr10 Ar11 cr11 Ar12 cr12 Ar13 cr13 (st.q 26 rfl) (st.q 27 rfl) (st.q 28 rfl) (st.q 29 rfl) (st.q 14 rfl) (st.q 15 rfl) (st.q 16 rfl) (st.q 17 rfl)) fun w22 st hF => ?_
      refine ⟨(st.pk [0, 1, 2, 3, 4, 5, 6, 7] (by decide)).tK 26, ?_⟩
      refine Pm rfl ?_
      have hd1 : (r14same_m (from14_m ((oapply_m (to14_m s) (toEff_m e)).1)) ((r14apply_m s e).1)) = true := by
        first | (rw [from14_eq, hap]; exact r14same_refl _) | (rw [from14_eq, hcp]; exact r14same_refl _) | (rw [from14_eq, to14_eq]; exact r14same_refl _)
      refine Pl_bool 50 rfl (fun _ => ?_) (fun hc2 => absurd hc2 (by first | (simp [hd1]; done) | (rw [hd1]; simp; done) | simpa using hd1))
      refine Pl_y rfl (wtdT rfl rfl rfl) rfl rfl (y_move rfl rfl) (Pl_y rfl (wtdT rfl rfl rfl) rfl rfl (y_move rfl rfl) (Pl_y rfl (wtdT rfl rfl rfl) rfl rfl (yeq rfl) (Py rfl (yT rfl) (Pm rfl ?_))))
      have hd2 : ((oapply_m (to14_m s) (toEff_m e)).2) = ((r14apply_m s e).2) := by
        rw [hap]
      refine Pl_bool 55 rfl (fun _ => ?_) (fun hc3 => absurd hc3 (by first | (simp [hd2]; done) | (rw [hd2]; simp; done) | simpa using hd2))
      refine Pl_y rfl (wtdT rfl rfl rfl) rfl rfl (y_loadw (i := 6) rfl rfl Ty.ag_56 (fun _ h => h.hp) rfl rfl) (Pl_y rfl (wtdT rfl rfl rfl) rfl rfl (y_loadw (i := 7) rfl rfl Ty.ag_37 (fun _ h => h.hp) rfl rfl) (Pl_a rfl (wtdT rfl rfl rfl) (by rfl) ?_))
      refine a_call rfl rfl rfl rfl (from14_ok (keys (hOf st) ++ X) _ st.Lo ((bcompact_m (to14_m s) vv).1) Ar14 cr14 Ar15 cr15 Ar16 cr16 Ar17 cr17 (st.q 18 rfl) (st.q 19 rfl) (st.q 20 rfl) (st.q 21 rfl) (by omega) (by omega) (by omega) (by omega)) (fun v w23 ⟨Ar26, cr26, Ar27, cr27, Ar28, cr28, Ar29, cr29, hv, hr26, hr27, hr28, hr29, hf⟩ => ?_)
      subst hv
      have st := st.keep0 hf
      have hF := hF.step0 hf
      have z27 := Sld.le hr26
      have st := st.addK (kS Ar26 (((from14_m ((bcompact_m (to14_m s) vv).1)).setF).adds).length cr26 4 ((((from14_m ((bcompact_m (to14_m s) vv).1)).setF).adds).flatMap addMC)) hr26
      have z28 := Sld.le hr27
      have st := st.addK (kS Ar27 (((from14_m ((bcompact_m (to14_m s) vv).1)).setF).gone).length cr27 3 ((((from14_m ((bcompact_m (to14_m s) vv).1)).setF).gone).flatMap tagMC)) hr27
      have z29 := Sld.le hr28
      have st := st.addK (kS Ar28 (((from14_m ((bcompact_m (to14_m s) vv).1)).map).puts).length cr28 7 ((((from14_m ((bcompact_m (to14_m s) vv).1)).map).puts).flatMap putMC)) hr28
      have z30 := Sld.le hr29
      have st := st.addK (kS Ar29 (((from14_m ((bcompact_m (to14_m s) vv).1)).map).gone).length cr29 3 ((((from14_m ((bcompact_m (to14_m s) vv).1)).map).gone).flatMap tagMC)) hr29
      have st : St X w23 [_, _, _, _, _, _, _, _] [_, _, _, _, _, _, _, _, _, _, _, _, _, _, _, _, _, _, _, _, _, _, _, _, _, _, _, _, _, _, _, _, _, _] := st
      refine ⟨(st.pk [0, 1, 2, 3, 4, 5, 6, 7] (by decide)).tK 26, ?_⟩
      refine Pl_a rfl (wtdT rfl rfl rfl) (by rfl) ?_
      refine Scl st hF rfl (r14same_ok (keys (hOf st) ++ X) _ st.Lo (from14_m ((bcompact_m (to14_m s) vv).1)) Ar26 cr26 Ar27 cr27 Ar28 cr28 Ar29 cr29 ((r14compact_m s vv).1) Ar18 cr18 Ar19 cr19 Ar20 cr20 Ar21 cr21 (st.q 30 rfl) (st.q 31 rfl) (st.q 32 rfl) (st.q 33 rfl) (st.q 22 rfl) (st.q 23 rfl) (st.q 24 rfl) (st.q 25 rfl)) fun w24 st hF => ?_
      refine ⟨(st.pk [0, 1, 2, 3, 4, 5, 6, 7] (by decide)).tK 26, ?_⟩
      refine Py rfl (yT rfl) (Pm rfl ?_)
      have hd3 : (r14same_m (from14_m ((bcompact_m (to14_m s) vv).1)) ((r14compact_m s vv).1)) = true := by
        first | (rw [from14_eq, hap]; exact r14same_refl _) | (rw [from14_eq, hcp]; exact r14same_refl _) | (rw [from14_eq, to14_eq]; exact r14same_refl _)
      refine Pl_bool 61 rfl (fun _ => ?_) (fun hc4 => absurd hc4 (by first | (simp [hd3]; done) | (rw [hd3]; simp; done) | simpa using hd3))
      refine Pl_y rfl (wtdT rfl rfl rfl) rfl rfl (y_move rfl rfl) (Pl_y rfl (wtdT rfl rfl rfl) rfl rfl (y_move rfl rfl) (Pl_y rfl (wtdT rfl rfl rfl) rfl rfl (yeq rfl) (Py rfl (yT rfl) (Pm rfl ?_))))
      have hd4 : ((bcompact_m (to14_m s) vv).2) = ((r14compact_m s vv).2) := by
        rw [hcp]
      refine Pl_bool 66 rfl (fun _ => ?_) (fun hc5 => absurd hc5 (by first | (simp [hd4]; done) | (rw [hd4]; simp; done) | simpa using hd4))
      refine Pl_y rfl (wtdT rfl rfl rfl) rfl rfl (y_loadw (i := 3) rfl rfl Ty.ag_56 (fun _ h => h.hp) rfl rfl) (Pl_y rfl (wtdT rfl rfl rfl) rfl rfl (y_loadw (i := 0) rfl rfl Ty.ag_37 (fun _ h => h.hp) rfl rfl) (Pl_a rfl (wtdT rfl rfl rfl) (by rfl) ?_))
      refine a_call rfl rfl rfl rfl (osay_ok (keys (hOf st) ++ X) _ st.Lo (to14_m s) Ar1 cr1 Ar2 cr2 Ar3 cr3 Ar4 cr4 (st.q 5 rfl) (st.q 6 rfl) (st.q 7 rfl) (st.q 8 rfl) (by omega) (by omega) (by omega) (by omega)) (fun v w25 ⟨Ar30, cr30, hv, hr30, hf⟩ => ?_)
      subst hv
      have st := st.keep0 hf
      have hF := hF.step0 hf
      have z31 := Sld.le hr30
      have st := st.addK (kS Ar30 ((osay_m (to14_m s)).items).length cr30 2 (((osay_m (to14_m s)).items).flatMap itemMC)) hr30
      have st : St X w25 [_, _, _, _, _, _, _, _] [_, _, _, _, _, _, _, _, _, _, _, _, _, _, _, _, _, _, _, _, _, _, _, _, _, _, _, _, _, _, _, _, _, _, _] := st
      refine ⟨(st.pk [0, 1, 2, 3, 4, 5, 6, 7] (by decide)).tK 26, ?_⟩
      refine Pl_a rfl (wtdT rfl rfl rfl) (by rfl) ?_
      refine a_call rfl rfl rfl rfl (fromVal_ok (keys (hOf st) ++ X) _ st.Lo (osay_m (to14_m s)) Ar30 cr30 (st.q 34 rfl) (by omega)) (fun v w26 ⟨Ar31, cr31, hv, hr31, hf⟩ => ?_)
      subst hv
      have st := st.keep0 hf
      have hF := hF.step0 hf
      have z32 := Sld.le hr31
      have st := st.addK (kS Ar31 ((fromVal_m (osay_m (to14_m s))).items).length cr31 2 (((fromVal_m (osay_m (to14_m s))).items).flatMap itemMC)) hr31
      have st : St X w26 [_, _, _, _, _, _, _, _] [_, _, _, _, _, _, _, _, _, _, _, _, _, _, _, _, _, _, _, _, _, _, _, _, _, _, _, _, _, _, _, _, _, _, _, _] := st
      refine ⟨(st.pk [0, 1, 2, 3, 4, 5, 6, 7] (by decide)).tK 26, ?_⟩
      refine Pl_a rfl (wtdT rfl rfl rfl) (by rfl) ?_
      refine a_call rfl rfl rfl rfl (r14say_ok (keys (hOf st) ++ X) _ st.Lo s A1 C1 A2 C2 A4 C4 A3 C3 (st.q 0 rfl) (st.q 1 rfl) (st.q 2 rfl) (st.q 3 rfl) (by omega) (by omega) (by omega) (by omega)) (fun v w27 ⟨Ar32, cr32, hv, hr32, hf⟩ => ?_)
      subst hv
      have st := st.keep0 hf
      have hF := hF.step0 hf
      have z33 := Sld.le hr32
      have st := st.addK (kS Ar32 ((r14say_m s).items).length cr32 2 (((r14say_m s).items).flatMap itemMC)) hr32
      have st : St X w27 [_, _, _, _, _, _, _, _] [_, _, _, _, _, _, _, _, _, _, _, _, _, _, _, _, _, _, _, _, _, _, _, _, _, _, _, _, _, _, _, _, _, _, _, _, _] := st
      refine ⟨(st.pk [0, 1, 2, 3, 4, 5, 6, 7] (by decide)).tK 26, ?_⟩
      refine Pl_a rfl (wtdT rfl rfl rfl) (by rfl) ?_
      refine Scl st hF rfl (sameValue_ok (keys (hOf st) ++ X) _ st.Lo (fromVal_m (osay_m (to14_m s))) Ar31 cr31 (r14say_m s) Ar32 cr32 (st.q 35 rfl) (st.q 36 rfl)) fun w28 st hF => ?_
      refine ⟨(st.pk [0, 1, 2, 3, 4, 5, 6, 7] (by decide)).tK 26, ?_⟩
      refine Py rfl (yT rfl) (Pm rfl ?_)
      have hd5 : (sameValue_m (fromVal_m (osay_m (to14_m s))) (r14say_m s)) = true := by
        rw [fromVal_eq, hsay]; exact sameValue_refl _
      refine Pl_bool 74 rfl (fun _ => ?_) (fun hc6 => absurd hc6 (by first | (simp [hd5]; done) | (rw [hd5]; simp; done) | simpa using hd5))
      refine Pl_y rfl (wtdT rfl rfl rfl) rfl rfl (y_loadw (i := 3) rfl rfl Ty.ag_56 (fun _ h => h.hp) rfl rfl) (Pl_y rfl (wtdT rfl rfl rfl) rfl rfl (y_loadw (i := 0) rfl rfl Ty.ag_37 (fun _ h => h.hp) rfl rfl) (Pl_a rfl (wtdT rfl rfl rfl) (by rfl) ?_))
      refine a_call rfl rfl rfl rfl (from14_ok (keys (hOf st) ++ X) _ st.Lo (to14_m s) Ar1 cr1 Ar2 cr2 Ar3 cr3 Ar4 cr4 (st.q 5 rfl) (st.q 6 rfl) (st.q 7 rfl) (st.q 8 rfl) (by omega) (by omega) (by omega) (by omega)) (fun v w29 ⟨Ar33, cr33, Ar34, cr34, Ar35, cr35, Ar36, cr36, hv, hr33, hr34, hr35, hr36, hf⟩ => ?_)
      subst hv
      have st := st.keep0 hf
      have hF := hF.step0 hf
      have z34 := Sld.le hr33
      have st := st.addK (kS Ar33 (((from14_m (to14_m s)).setF).adds).length cr33 4 ((((from14_m (to14_m s)).setF).adds).flatMap addMC)) hr33
      have z35 := Sld.le hr34
      have st := st.addK (kS Ar34 (((from14_m (to14_m s)).setF).gone).length cr34 3 ((((from14_m (to14_m s)).setF).gone).flatMap tagMC)) hr34
      have z36 := Sld.le hr35
      have st := st.addK (kS Ar35 (((from14_m (to14_m s)).map).puts).length cr35 7 ((((from14_m (to14_m s)).map).puts).flatMap putMC)) hr35
      have z37 := Sld.le hr36
      have st := st.addK (kS Ar36 (((from14_m (to14_m s)).map).gone).length cr36 3 ((((from14_m (to14_m s)).map).gone).flatMap tagMC)) hr36
      have st : St X w29 [_, _, _, _, _, _, _, _] [_, _, _, _, _, _, _, _, _, _, _, _, _, _, _, _, _, _, _, _, _, _, _, _, _, _, _, _, _, _, _, _, _, _, _, _, _, _, _, _, _] := st
      refine ⟨(st.pk [0, 1, 2, 3, 4, 5, 6, 7] (by decide)).tK 26, ?_⟩
      refine Pl_a rfl (wtdT rfl rfl rfl) (by rfl) ?_
      refine Scl st hF rfl (r14same_ok (keys (hOf st) ++ X) _ st.Lo (from14_m (to14_m s)) Ar33 cr33 Ar34 cr34 Ar35 cr35 Ar36 cr36 s A1 C1 A2 C2 A4 C4 A3 C3 (st.q 37 rfl) (st.q 38 rfl) (st.q 39 rfl) (st.q 40 rfl) (st.q 0 rfl) (st.q 1 rfl) (st.q 2 rfl) (st.q 3 rfl)) fun w30 st hF => ?_
      refine ⟨(st.pk [0, 1, 2, 3, 4, 5, 6, 7] (by decide)).tK 26, ?_⟩
      refine Py rfl (yT rfl) (Py rfl (y_assign rfl rfl) (Pl_nil (Th_n (k10 _ _ (wR (fR (Res1 rfl rfl) ?_))))))
      have hres : (r14same_m (from14_m (to14_m s)) s) = true := by
        rw [from14_eq, to14_eq]; exact r14same_refl _
      rw [hres]
      exact ⟨rfl, hF⟩
    refine Sal Ty.zc_56 st hF rfl fun g9 w31 (st : St _ _ [_, _, _, _, _] _) hF hg9 => ?_
    refine ⟨(st.pk [0, 1, 2, 3] (by decide)).tK 9, ?_⟩
    refine Px_a (i := 3) (by kernel_rfl) rfl (wtd0 rfl) ?_
    refine a_call rfl rfl rfl rfl (oapply_ok (keys (hOf st) ++ X) _ st.Lo (to14_m s) Ar1 cr1 Ar2 cr2 Ar3 cr3 Ar4 cr4 (toEff_m e) Ar5 cr5 (st.q 5 rfl) (st.q 6 rfl) (st.q 7 rfl) (st.q 8 rfl) (st.q 9 rfl) (by omega) (by omega) (by omega) (by omega) (by omega)) (fun v w32 ⟨Ar37, cr37, Ar38, cr38, Ar39, cr39, Ar40, cr40, hv, hr37, hr38, hr39, hr40, hf⟩ => ?_)
    subst hv
    have st := st.keep0 hf
    have hF := hF.step0 hf
    have z38 := Sld.le hr37
    have st := st.addK (kS Ar37 ((((oapply_m (to14_m s) (toEff_m e)).1).setF).adds).length cr37 4 (((((oapply_m (to14_m s) (toEff_m e)).1).setF).adds).flatMap addMC)) hr37
    have z39 := Sld.le hr38
    have st := st.addK (kS Ar38 ((((oapply_m (to14_m s) (toEff_m e)).1).setF).gone).length cr38 3 (((((oapply_m (to14_m s) (toEff_m e)).1).setF).gone).flatMap tagMC)) hr38
    have z40 := Sld.le hr39
    have st := st.addK (kS Ar39 ((((oapply_m (to14_m s) (toEff_m e)).1).map).puts).length cr39 7 (((((oapply_m (to14_m s) (toEff_m e)).1).map).puts).flatMap putMC)) hr39
    have z41 := Sld.le hr40
    have st := st.addK (kS Ar40 ((((oapply_m (to14_m s) (toEff_m e)).1).map).gone).length cr40 3 (((((oapply_m (to14_m s) (toEff_m e)).1).map).gone).flatMap tagMC)) hr40
    have st : St X w32 [_, _, _, _, _] [_, _, _, _, _, _, _, _, _, _, _, _, _, _] := st
    refine ⟨(st.pk [0, 1, 2, 3] (by decide)).tK 9, ?_⟩
    refine Px_y (i := 4) rfl (by kernel_rfl) (wtd0 rfl) rfl rfl (y_move rfl rfl) ?_
    refine Px_y (i := 5) rfl (by kernel_rfl) (wtd0 rfl) rfl rfl (y_ext rfl rfl rfl) ?_
    refine Px_y (i := 6) rfl (by kernel_rfl) (wtd0 rfl) rfl rfl (y_ext rfl rfl rfl) ?_
    refine Px_a (i := 8) (by kernel_rfl) rfl (wtd0 rfl) ?_
    refine Ssw 4 Ty.sz_56 st hF (.inr hg9) rfl fun w33 (st : St _ _ [_, _, _, _, _] _) hF => ?_
    refine ⟨(st.pk [0, 1, 2, 3] (by decide)).tK 9, ?_⟩
    refine Px_y (i := 9) rfl (by kernel_rfl) (wtd0 rfl) rfl rfl (y_assign rfl rfl) ?_
    refine Px_done (by kernel_rfl) (Th_n (k6 _ _ ?_))
    refine sq fun _ k11 => rg (Ly rfl (yw 0 Ty.ag_37 st rfl) (Ly rfl (yw 1 Ty.ag_43 st rfl) (La rfl (a_call rfl rfl rfl rfl (r14apply_ok (keys (hOf st) ++ X) _ st.Lo s A1 C1 A2 C2 A4 C4 A3 C3 e A5 C5 (st.q 0 rfl) (st.q 1 rfl) (st.q 2 rfl) (st.q 3 rfl) (st.q 4 rfl) (by omega) (by omega) (by omega) (by omega)) (fun v w34 ⟨Ar41, cr41, Ar42, cr42, Ar43, cr43, Ar44, cr44, hv, hr41, hr42, hr43, hr44, hf⟩ => ?_)))))
    subst hv
    have st := st.keep0 hf
    have hF := hF.step0 hf
    have z42 := Sld.le hr41
    have st := st.addK (kS Ar41 ((((r14apply_m s e).1).setF).adds).length cr41 4 (((((r14apply_m s e).1).setF).adds).flatMap addMC)) hr41
    have z43 := Sld.le hr42
    have st := st.addK (kS Ar42 ((((r14apply_m s e).1).setF).gone).length cr42 3 (((((r14apply_m s e).1).setF).gone).flatMap tagMC)) hr42
    have z44 := Sld.le hr43
    have st := st.addK (kS Ar43 ((((r14apply_m s e).1).map).puts).length cr43 7 (((((r14apply_m s e).1).map).puts).flatMap putMC)) hr43
    have z45 := Sld.le hr44
    have st := st.addK (kS Ar44 ((((r14apply_m s e).1).map).gone).length cr44 3 (((((r14apply_m s e).1).map).gone).flatMap tagMC)) hr44
    have st : St X w34 [_, _, _, _, _] [_, _, _, _, _, _, _, _, _, _, _, _, _, _, _, _, _, _] := st
    refine Lm rfl (Lx rfl (Lx rfl (La rfl (Sal Ty.zc_37 st hF rfl fun g10 w35 (st : St _ _ [_, _, _, _, _, _] _) hF hg10 => La rfl (Ssw 5 Ty.sz_37 st hF (.inr hg10) rfl fun w36 (st : St _ _ [_, _, _, _, _, _] _) hF => Ls' rfl (Ln k11 (sq fun _ k12 => rg (Ly rfl (yw 3 Ty.ag_56 st rfl) (Ly rfl (yw 2 Ty.ag_45 st rfl) (La rfl (a_call rfl rfl rfl rfl (bcompact_ok (keys (hOf st) ++ X) _ st.Lo (to14_m s) Ar1 cr1 Ar2 cr2 Ar3 cr3 Ar4 cr4 vv (st.q 5 rfl) (st.q 6 rfl) (st.q 7 rfl) (st.q 8 rfl) (by omega) (by omega) (by omega) (by omega)) (fun v w37 ⟨Ar45, cr45, Ar46, cr46, Ar47, cr47, Ar48, cr48, hv, hr45, hr46, hr47, hr48, hf⟩ => ?_))))))))))))
    subst hv
    have st := st.keep0 hf
    have hF := hF.step0 hf
    have z46 := Sld.le hr45
    have st := st.addK (kS Ar45 ((((bcompact_m (to14_m s) vv).1).setF).adds).length cr45 4 (((((bcompact_m (to14_m s) vv).1).setF).adds).flatMap addMC)) hr45
    have z47 := Sld.le hr46
    have st := st.addK (kS Ar46 ((((bcompact_m (to14_m s) vv).1).setF).gone).length cr46 3 (((((bcompact_m (to14_m s) vv).1).setF).gone).flatMap tagMC)) hr46
    have z48 := Sld.le hr47
    have st := st.addK (kS Ar47 ((((bcompact_m (to14_m s) vv).1).map).puts).length cr47 7 (((((bcompact_m (to14_m s) vv).1).map).puts).flatMap putMC)) hr47
    have z49 := Sld.le hr48
    have st := st.addK (kS Ar48 ((((bcompact_m (to14_m s) vv).1).map).gone).length cr48 3 (((((bcompact_m (to14_m s) vv).1).map).gone).flatMap tagMC)) hr48
    have st : St X w37 [_, _, _, _, _, _] [_, _, _, _, _, _, _, _, _, _, _, _, _, _, _, _, _, _, _, _, _, _] := st
    refine Lm rfl (Lx rfl (Lx rfl (La rfl (Sal Ty.zc_56 st hF rfl fun g11 w38 (st : St _ _ [_, _, _, _, _, _, _] _) hF hg11 => La rfl (Ssw 6 Ty.sz_56 st hF (.inr hg11) rfl fun w39 (st : St _ _ [_, _, _, _, _, _, _] _) hF => Ls' rfl (Ln k12 (sq fun _ k13 => rg (Ly rfl (yw 0 Ty.ag_37 st rfl) (Ly rfl (yw 2 Ty.ag_45 st rfl) (La rfl (a_call rfl rfl rfl rfl (r14compact_ok (keys (hOf st) ++ X) _ st.Lo s A1 C1 A2 C2 A4 C4 A3 C3 vv (st.q 0 rfl) (st.q 1 rfl) (st.q 2 rfl) (st.q 3 rfl) (by omega) (by omega) (by omega) (by omega)) (fun v w40 ⟨Ar49, cr49, Ar50, cr50, Ar51, cr51, Ar52, cr52, hv, hr49, hr50, hr51, hr52, hf⟩ => ?_))))))))))))
    subst hv
    have st := st.keep0 hf
    have hF := hF.step0 hf
    have z50 := Sld.le hr49
    have st := st.addK (kS Ar49 ((((r14compact_m s vv).1).setF).adds).length cr49 4 (((((r14compact_m s vv).1).setF).adds).flatMap addMC)) hr49
    have z51 := Sld.le hr50
    have st := st.addK (kS Ar50 ((((r14compact_m s vv).1).setF).gone).length cr50 3 (((((r14compact_m s vv).1).setF).gone).flatMap tagMC)) hr50
    have z52 := Sld.le hr51
    have st := st.addK (kS Ar51 ((((r14compact_m s vv).1).map).puts).length cr51 7 (((((r14compact_m s vv).1).map).puts).flatMap putMC)) hr51
    have z53 := Sld.le hr52
    have st := st.addK (kS Ar52 ((((r14compact_m s vv).1).map).gone).length cr52 3 (((((r14compact_m s vv).1).map).gone).flatMap tagMC)) hr52
    have st : St X w40 [_, _, _, _, _, _, _] [_, _, _, _, _, _, _, _, _, _, _, _, _, _, _, _, _, _, _, _, _, _, _, _, _, _] := st
    refine Lm rfl (Lx rfl (Lx rfl (La rfl (Sal Ty.zc_37 st hF rfl fun g12 w41 (st : St _ _ [_, _, _, _, _, _, _, _] _) hF hg12 => La rfl (Ssw 7 Ty.sz_37 st hF (.inr hg12) rfl fun w42 (st : St _ _ [_, _, _, _, _, _, _, _] _) hF => Ls' rfl (Ln k13 (sq fun _ k14 => ?_)))))))
    refine Wp_plan (fun W => St X W (pickL (hOf st) [0, 1, 2, 3, 4, 5, 6, 7]) (kOf st)) [(true, 0), (true, 2), (false, 1), (false, 3), (true, 4), (true, 5), (true, 6), (true, 7), (true, 8), (true, 9), (true, 10), (true, 12), (false, 11), (false, 13), (true, 14), (true, 15), (true, 16), (true, 17), (true, 18), (true, 19), (true, 20), (true, 21), (true, 24), (false, 22), (false, 23), (false, 25), (false, 26), (true, 27), (true, 28), (true, 29), (true, 31), (false, 30), (false, 32), (true, 33), (true, 34)] Ty.mx_0 (by kernel_rfl) (by kernel_rfl) rfl ((st.pk [0, 1, 2, 3, 4, 5, 6, 7] (by decide)).drew) ?_
    have st := st.drew
    have hF := hF.step0 (Fr.drew _)
    refine Py rfl (y_loadw (i := 4) rfl rfl Ty.ag_56 (fun _ h => h.hp) rfl rfl) (Py rfl (y_loadw (i := 5) rfl rfl Ty.ag_37 (fun _ h => h.hp) rfl rfl) (Pl_a rfl (wtd0 rfl) (by rfl) ?_))
    refine a_call rfl rfl rfl rfl (from14_ok (keys (hOf st) ++ X) _ st.Lo ((oapply_m (to14_m s) (toEff_m e)).1) Ar37 cr37 Ar38 cr38 Ar39 cr39 Ar40 cr40 (st.q 10 rfl) (st.q 11 rfl) (st.q 12 rfl) (st.q 13 rfl) (by omega) (by omega) (by omega) (by omega)) (fun v w43 ⟨Ar53, cr53, Ar54, cr54, Ar55, cr55, Ar56, cr56, hv, hr53, hr54, hr55, hr56, hf⟩ => ?_)
    subst hv
    have st := st.keep0 hf
    have hF := hF.step0 hf
    have z54 := Sld.le hr53
    have st := st.addK (kS Ar53 (((from14_m ((oapply_m (to14_m s) (toEff_m e)).1)).setF).adds).length cr53 4 ((((from14_m ((oapply_m (to14_m s) (toEff_m e)).1)).setF).adds).flatMap addMC)) hr53
    have z55 := Sld.le hr54
    have st := st.addK (kS Ar54 (((from14_m ((oapply_m (to14_m s) (toEff_m e)).1)).setF).gone).length cr54 3 ((((from14_m ((oapply_m (to14_m s) (toEff_m e)).1)).setF).gone).flatMap tagMC)) hr54
    have z56 := Sld.le hr55
    have st := st.addK (kS Ar55 (((from14_m ((oapply_m (to14_m s) (toEff_m e)).1)).map).puts).length cr55 7 ((((from14_m ((oapply_m (to14_m s) (toEff_m e)).1)).map).puts).flatMap putMC)) hr55
    have z57 := Sld.le hr56
    have st := st.addK (kS Ar56 (((from14_m ((oapply_m (to14_m s) (toEff_m e)).1)).map).gone).length cr56 3 ((((from14_m ((oapply_m (to14_m s) (toEff_m e)).1)).map).gone).flatMap tagMC)) hr56
    have st : St X w43 [_, _, _, _, _, _, _, _] [_, _, _, _, _, _, _, _, _, _, _, _, _, _, _, _, _, _, _, _, _, _, _, _, _, _, _, _, _, _] := st
    refine ⟨(st.pk [0, 1, 2, 3, 4, 5, 6, 7] (by decide)).tK 26, ?_⟩
    refine Pl_a rfl (wtd0 rfl) (by rfl) ?_
    refine Scl st hF rfl (r14same_ok (keys (hOf st) ++ X) _ st.Lo (from14_m ((oapply_m (to14_m s) (toEff_m e)).1)) Ar53 cr53 Ar54 cr54 Ar55 cr55 Ar56 cr56 ((r14apply_m s e).1) Ar41 cr41 Ar42 cr42 Ar43 cr43 Ar44 cr44 (st.q 26 rfl) (st.q 27 rfl) (st.q 28 rfl) (st.q 29 rfl) (st.q 14 rfl) (st.q 15 rfl) (st.q 16 rfl) (st.q 17 rfl)) fun w44 st hF => ?_
    refine ⟨(st.pk [0, 1, 2, 3, 4, 5, 6, 7] (by decide)).tK 26, ?_⟩
    refine Pm rfl ?_
    have hd6 : (r14same_m (from14_m ((oapply_m (to14_m s) (toEff_m e)).1)) ((r14apply_m s e).1)) = true := by
      first | (rw [from14_eq, hap]; exact r14same_refl _) | (rw [from14_eq, hcp]; exact r14same_refl _) | (rw [from14_eq, to14_eq]; exact r14same_refl _)
    refine Pl_bool 50 rfl (fun _ => ?_) (fun hc7 => absurd hc7 (by first | (simp [hd6]; done) | (rw [hd6]; simp; done) | simpa using hd6))
    refine Pl_y rfl (wtdT rfl rfl rfl) rfl rfl (y_move rfl rfl) (Pl_y rfl (wtdT rfl rfl rfl) rfl rfl (y_move rfl rfl) (Pl_y rfl (wtdT rfl rfl rfl) rfl rfl (yeq rfl) (Py rfl (yT rfl) (Pm rfl ?_))))
    have hd7 : ((oapply_m (to14_m s) (toEff_m e)).2) = ((r14apply_m s e).2) := by
      rw [hap]
    refine Pl_bool 55 rfl (fun _ => ?_) (fun hc8 => absurd hc8 (by first | (simp [hd7]; done) | (rw [hd7]; simp; done) | simpa using hd7))
    refine Pl_y rfl (wtdT rfl rfl rfl) rfl rfl (y_loadw (i := 6) rfl rfl Ty.ag_56 (fun _ h => h.hp) rfl rfl) (Pl_y rfl (wtdT rfl rfl rfl) rfl rfl (y_loadw (i := 7) rfl rfl Ty.ag_37 (fun _ h => h.hp) rfl rfl) (Pl_a rfl (wtdT rfl rfl rfl) (by rfl) ?_))
    refine a_call rfl rfl rfl rfl (from14_ok (keys (hOf st) ++ X) _ st.Lo ((bcompact_m (to14_m s) vv).1) Ar45 cr45 Ar46 cr46 Ar47 cr47 Ar48 cr48 (st.q 18 rfl) (st.q 19 rfl) (st.q 20 rfl) (st.q 21 rfl) (by omega) (by omega) (by omega) (by omega)) (fun v w45 ⟨Ar57, cr57, Ar58, cr58, Ar59, cr59, Ar60, cr60, hv, hr57, hr58, hr59, hr60, hf⟩ => ?_)
    subst hv
    have st := st.keep0 hf
    have hF := hF.step0 hf
    have z58 := Sld.le hr57
    have st := st.addK (kS Ar57 (((from14_m ((bcompact_m (to14_m s) vv).1)).setF).adds).length cr57 4 ((((from14_m ((bcompact_m (to14_m s) vv).1)).setF).adds).flatMap addMC)) hr57
    have z59 := Sld.le hr58
    have st := st.addK (kS Ar58 (((from14_m ((bcompact_m (to14_m s) vv).1)).setF).gone).length cr58 3 ((((from14_m ((bcompact_m (to14_m s) vv).1)).setF).gone).flatMap tagMC)) hr58
    have z60 := Sld.le hr59
    have st := st.addK (kS Ar59 (((from14_m ((bcompact_m (to14_m s) vv).1)).map).puts).length cr59 7 ((((from14_m ((bcompact_m (to14_m s) vv).1)).map).puts).flatMap putMC)) hr59
    have z61 := Sld.le hr60
    have st := st.addK (kS Ar60 (((from14_m ((bcompact_m (to14_m s) vv).1)).map).gone).length cr60 3 ((((from14_m ((bcompact_m (to14_m s) vv).1)).map).gone).flatMap tagMC)) hr60
    have st : St X w45 [_, _, _, _, _, _, _, _] [_, _, _, _, _, _, _, _, _, _, _, _, _, _, _, _, _, _, _, _, _, _, _, _, _, _, _, _, _, _, _, _, _, _] := st
    refine ⟨(st.pk [0, 1, 2, 3, 4, 5, 6, 7] (by decide)).tK 26, ?_⟩
    refine Pl_a rfl (wtdT rfl rfl rfl) (by rfl) ?_
    refine Scl st hF rfl (r14same_ok (keys (hOf st) ++ X) _ st.Lo (from14_m ((bcompact_m (to14_m s) vv).1)) Ar57 cr57 Ar58 cr58 Ar59 cr59 Ar60 cr60 ((r14compact_m s vv).1) Ar49 cr49 Ar50 cr50 Ar51 cr51 Ar52 cr52 (st.q 30 rfl) (st.q 31 rfl) (st.q 32 rfl) (st.q 33 rfl) (st.q 22 rfl) (st.q 23 rfl) (st.q 24 rfl) (st.q 25 rfl)) fun w46 st hF => ?_
    refine ⟨(st.pk [0, 1, 2, 3, 4, 5, 6, 7] (by decide)).tK 26, ?_⟩
    refine Py rfl (yT rfl) (Pm rfl ?_)
    have hd8 : (r14same_m (from14_m ((bcompact_m (to14_m s) vv).1)) ((r14compact_m s vv).1)) = true := by
      first | (rw [from14_eq, hap]; exact r14same_refl _) | (rw [from14_eq, hcp]; exact r14same_refl _) | (rw [from14_eq, to14_eq]; exact r14same_refl _)
    refine Pl_bool 61 rfl (fun _ => ?_) (fun hc9 => absurd hc9 (by first | (simp [hd8]; done) | (rw [hd8]; simp; done) | simpa using hd8))
    refine Pl_y rfl (wtdT rfl rfl rfl) rfl rfl (y_move rfl rfl) (Pl_y rfl (wtdT rfl rfl rfl) rfl rfl (y_move rfl rfl) (Pl_y rfl (wtdT rfl rfl rfl) rfl rfl (yeq rfl) (Py rfl (yT rfl) (Pm rfl ?_))))
    have hd9 : ((bcompact_m (to14_m s) vv).2) = ((r14compact_m s vv).2) := by
      rw [hcp]
    refine Pl_bool 66 rfl (fun _ => ?_) (fun hc10 => absurd hc10 (by first | (simp [hd9]; done) | (rw [hd9]; simp; done) | simpa using hd9))
    refine Pl_y rfl (wtdT rfl rfl rfl) rfl rfl (y_loadw (i := 3) rfl rfl Ty.ag_56 (fun _ h => h.hp) rfl rfl) (Pl_y rfl (wtdT rfl rfl rfl) rfl rfl (y_loadw (i := 0) rfl rfl Ty.ag_37 (fun _ h => h.hp) rfl rfl) (Pl_a rfl (wtdT rfl rfl rfl) (by rfl) ?_))
    refine a_call rfl rfl rfl rfl (osay_ok (keys (hOf st) ++ X) _ st.Lo (to14_m s) Ar1 cr1 Ar2 cr2 Ar3 cr3 Ar4 cr4 (st.q 5 rfl) (st.q 6 rfl) (st.q 7 rfl) (st.q 8 rfl) (by omega) (by omega) (by omega) (by omega)) (fun v w47 ⟨Ar61, cr61, hv, hr61, hf⟩ => ?_)
    subst hv
    have st := st.keep0 hf
    have hF := hF.step0 hf
    have z62 := Sld.le hr61
    have st := st.addK (kS Ar61 ((osay_m (to14_m s)).items).length cr61 2 (((osay_m (to14_m s)).items).flatMap itemMC)) hr61
    have st : St X w47 [_, _, _, _, _, _, _, _] [_, _, _, _, _, _, _, _, _, _, _, _, _, _, _, _, _, _, _, _, _, _, _, _, _, _, _, _, _, _, _, _, _, _, _] := st
    refine ⟨(st.pk [0, 1, 2, 3, 4, 5, 6, 7] (by decide)).tK 26, ?_⟩
    refine Pl_a rfl (wtdT rfl rfl rfl) (by rfl) ?_
    refine a_call rfl rfl rfl rfl (fromVal_ok (keys (hOf st) ++ X) _ st.Lo (osay_m (to14_m s)) Ar61 cr61 (st.q 34 rfl) (by omega)) (fun v w48 ⟨Ar62, cr62, hv, hr62, hf⟩ => ?_)
    subst hv
    have st := st.keep0 hf
    have hF := hF.step0 hf
    have z63 := Sld.le hr62
    have st := st.addK (kS Ar62 ((fromVal_m (osay_m (to14_m s))).items).length cr62 2 (((fromVal_m (osay_m (to14_m s))).items).flatMap itemMC)) hr62
    have st : St X w48 [_, _, _, _, _, _, _, _] [_, _, _, _, _, _, _, _, _, _, _, _, _, _, _, _, _, _, _, _, _, _, _, _, _, _, _, _, _, _, _, _, _, _, _, _] := st
    refine ⟨(st.pk [0, 1, 2, 3, 4, 5, 6, 7] (by decide)).tK 26, ?_⟩
    refine Pl_a rfl (wtdT rfl rfl rfl) (by rfl) ?_
    refine a_call rfl rfl rfl rfl (r14say_ok (keys (hOf st) ++ X) _ st.Lo s A1 C1 A2 C2 A4 C4 A3 C3 (st.q 0 rfl) (st.q 1 rfl) (st.q 2 rfl) (st.q 3 rfl) (by omega) (by omega) (by omega) (by omega)) (fun v w49 ⟨Ar63, cr63, hv, hr63, hf⟩ => ?_)
    subst hv
    have st := st.keep0 hf
    have hF := hF.step0 hf
    have z64 := Sld.le hr63
    have st := st.addK (kS Ar63 ((r14say_m s).items).length cr63 2 (((r14say_m s).items).flatMap itemMC)) hr63
    have st : St X w49 [_, _, _, _, _, _, _, _] [_, _, _, _, _, _, _, _, _, _, _, _, _, _, _, _, _, _, _, _, _, _, _, _, _, _, _, _, _, _, _, _, _, _, _, _, _] := st
    refine ⟨(st.pk [0, 1, 2, 3, 4, 5, 6, 7] (by decide)).tK 26, ?_⟩
    refine Pl_a rfl (wtdT rfl rfl rfl) (by rfl) ?_
    refine Scl st hF rfl (sameValue_ok (keys (hOf st) ++ X) _ st.Lo (fromVal_m (osay_m (to14_m s))) Ar62 cr62 (r14say_m s) Ar63 cr63 (st.q 35 rfl) (st.q 36 rfl)) fun w50 st hF => ?_
    refine ⟨(st.pk [0, 1, 2, 3, 4, 5, 6, 7] (by decide)).tK 26, ?_⟩
    refine Py rfl (yT rfl) (Pm rfl ?_)
    have hd10 : (sameValue_m (fromVal_m (osay_m (to14_m s))) (r14say_m s)) = true := by
      rw [fromVal_eq, hsay]; exact sameValue_refl _
    refine Pl_bool 74 rfl (fun _ => ?_) (fun hc11 => absurd hc11 (by first | (simp [hd10]; done) | (rw [hd10]; simp; done) | simpa using hd10))
    refine Pl_y rfl (wtdT rfl rfl rfl) rfl rfl (y_loadw (i := 3) rfl rfl Ty.ag_56 (fun _ h => h.hp) rfl rfl) (Pl_y rfl (wtdT rfl rfl rfl) rfl rfl (y_loadw (i := 0) rfl rfl Ty.ag_37 (fun _ h => h.hp) rfl rfl) (Pl_a rfl (wtdT rfl rfl rfl) (by rfl) ?_))
    refine a_call rfl rfl rfl rfl (from14_ok (keys (hOf st) ++ X) _ st.Lo (to14_m s) Ar1 cr1 Ar2 cr2 Ar3 cr3 Ar4 cr4 (st.q 5 rfl) (st.q 6 rfl) (st.q 7 rfl) (st.q 8 rfl) (by omega) (by omega) (by omega) (by omega)) (fun v w51 ⟨Ar64, cr64, Ar65, cr65, Ar66, cr66, Ar67, cr67, hv, hr64, hr65, hr66, hr67, hf⟩ => ?_)
    subst hv
    have st := st.keep0 hf
    have hF := hF.step0 hf
    have z65 := Sld.le hr64
    have st := st.addK (kS Ar64 (((from14_m (to14_m s)).setF).adds).length cr64 4 ((((from14_m (to14_m s)).setF).adds).flatMap addMC)) hr64
    have z66 := Sld.le hr65
    have st := st.addK (kS Ar65 (((from14_m (to14_m s)).setF).gone).length cr65 3 ((((from14_m (to14_m s)).setF).gone).flatMap tagMC)) hr65
    have z67 := Sld.le hr66
    have st := st.addK (kS Ar66 (((from14_m (to14_m s)).map).puts).length cr66 7 ((((from14_m (to14_m s)).map).puts).flatMap putMC)) hr66
    have z68 := Sld.le hr67
    have st := st.addK (kS Ar67 (((from14_m (to14_m s)).map).gone).length cr67 3 ((((from14_m (to14_m s)).map).gone).flatMap tagMC)) hr67
    have st : St X w51 [_, _, _, _, _, _, _, _] [_, _, _, _, _, _, _, _, _, _, _, _, _, _, _, _, _, _, _, _, _, _, _, _, _, _, _, _, _, _, _, _, _, _, _, _, _, _, _, _, _] := st
    refine ⟨(st.pk [0, 1, 2, 3, 4, 5, 6, 7] (by decide)).tK 26, ?_⟩
    refine Pl_a rfl (wtdT rfl rfl rfl) (by rfl) ?_
    refine Scl st hF rfl (r14same_ok (keys (hOf st) ++ X) _ st.Lo (from14_m (to14_m s)) Ar64 cr64 Ar65 cr65 Ar66 cr66 Ar67 cr67 s A1 C1 A2 C2 A4 C4 A3 C3 (st.q 37 rfl) (st.q 38 rfl) (st.q 39 rfl) (st.q 40 rfl) (st.q 0 rfl) (st.q 1 rfl) (st.q 2 rfl) (st.q 3 rfl)) fun w52 st hF => ?_
    refine ⟨(st.pk [0, 1, 2, 3, 4, 5, 6, 7] (by decide)).tK 26, ?_⟩
    refine Py rfl (yT rfl) (Py rfl (y_assign rfl rfl) (Pl_nil (Th_n (k14 _ _ (wR (fR (Res1 rfl rfl) ?_))))))
    have hres : (r14same_m (from14_m (to14_m s)) s) = true := by
      rw [from14_eq, to14_eq]; exact r14same_refl _
    rw [hres]
    exact ⟨rfl, hF⟩
  refine Sal Ty.zc_56 st hF rfl fun g13 w53 (st : St _ _ [_, _, _, _, _] _) hF hg13 => ?_
  refine ⟨(st.pk [0, 1, 2, 3] (by decide)).tK 9, ?_⟩
  refine Px_a (i := 2) (by kernel_rfl) rfl (wtd0 rfl) ?_
  refine a_call rfl rfl rfl rfl (toEff_ok (keys (hOf st) ++ X) _ st.Lo e A5 C5 (st.q 4 rfl) (by omega)) (fun v w54 ⟨Ar68, cr68, hv, hr68, hf⟩ => ?_)
  subst hv
  have st := st.keep0 hf
  have hF := hF.step0 hf
  have z69 := Sld.le hr68
  have st := st.addK (kS Ar68 ((toEff_m e).tags).length cr68 3 (((toEff_m e).tags).flatMap tagMC)) hr68
  have st : St X w54 [_, _, _, _, _] [_, _, _, _, _, _, _, _, _, _] := st
  refine ⟨(st.pk [0, 1, 2, 3] (by decide)).tK 9, ?_⟩
  refine Px_a (i := 3) (by kernel_rfl) rfl (wtd0 rfl) ?_
  refine a_call rfl rfl rfl rfl (oapply_ok (keys (hOf st) ++ X) _ st.Lo (to14_m s) Ar1 cr1 Ar2 cr2 Ar3 cr3 Ar4 cr4 (toEff_m e) Ar68 cr68 (st.q 5 rfl) (st.q 6 rfl) (st.q 7 rfl) (st.q 8 rfl) (st.q 9 rfl) (by omega) (by omega) (by omega) (by omega) (by omega)) (fun v w55 ⟨Ar69, cr69, Ar70, cr70, Ar71, cr71, Ar72, cr72, hv, hr69, hr70, hr71, hr72, hf⟩ => ?_)
  subst hv
  have st := st.keep0 hf
  have hF := hF.step0 hf
  have z70 := Sld.le hr69
  have st := st.addK (kS Ar69 ((((oapply_m (to14_m s) (toEff_m e)).1).setF).adds).length cr69 4 (((((oapply_m (to14_m s) (toEff_m e)).1).setF).adds).flatMap addMC)) hr69
  have z71 := Sld.le hr70
  have st := st.addK (kS Ar70 ((((oapply_m (to14_m s) (toEff_m e)).1).setF).gone).length cr70 3 (((((oapply_m (to14_m s) (toEff_m e)).1).setF).gone).flatMap tagMC)) hr70
  have z72 := Sld.le hr71
  have st := st.addK (kS Ar71 ((((oapply_m (to14_m s) (toEff_m e)).1).map).puts).length cr71 7 (((((oapply_m (to14_m s) (toEff_m e)).1).map).puts).flatMap putMC)) hr71
  have z73 := Sld.le hr72
  have st := st.addK (kS Ar72 ((((oapply_m (to14_m s) (toEff_m e)).1).map).gone).length cr72 3 (((((oapply_m (to14_m s) (toEff_m e)).1).map).gone).flatMap tagMC)) hr72
  have st : St X w55 [_, _, _, _, _] [_, _, _, _, _, _, _, _, _, _, _, _, _, _] := st
  refine ⟨(st.pk [0, 1, 2, 3] (by decide)).tK 9, ?_⟩
  refine Px_y (i := 4) rfl (by kernel_rfl) (wtd0 rfl) rfl rfl (y_move rfl rfl) ?_
  refine Px_y (i := 5) rfl (by kernel_rfl) (wtd0 rfl) rfl rfl (y_ext rfl rfl rfl) ?_
  refine Px_y (i := 6) rfl (by kernel_rfl) (wtd0 rfl) rfl rfl (y_ext rfl rfl rfl) ?_
  refine Px_a (i := 8) (by kernel_rfl) rfl (wtd0 rfl) ?_
  refine Ssw 4 Ty.sz_56 st hF (.inr hg13) rfl fun w56 (st : St _ _ [_, _, _, _, _] _) hF => ?_
  refine ⟨(st.pk [0, 1, 2, 3] (by decide)).tK 9, ?_⟩
  refine Px_y (i := 9) rfl (by kernel_rfl) (wtd0 rfl) rfl rfl (y_assign rfl rfl) ?_
  refine Px_done (by kernel_rfl) (Th_n (k6 _ _ ?_))
  refine sq fun _ k15 => rg (Ly rfl (yw 0 Ty.ag_37 st rfl) (Ly rfl (yw 1 Ty.ag_43 st rfl) (La rfl (a_call rfl rfl rfl rfl (r14apply_ok (keys (hOf st) ++ X) _ st.Lo s A1 C1 A2 C2 A4 C4 A3 C3 e A5 C5 (st.q 0 rfl) (st.q 1 rfl) (st.q 2 rfl) (st.q 3 rfl) (st.q 4 rfl) (by omega) (by omega) (by omega) (by omega)) (fun v w57 ⟨Ar73, cr73, Ar74, cr74, Ar75, cr75, Ar76, cr76, hv, hr73, hr74, hr75, hr76, hf⟩ => ?_)))))
  subst hv
  have st := st.keep0 hf
  have hF := hF.step0 hf
  have z74 := Sld.le hr73
  have st := st.addK (kS Ar73 ((((r14apply_m s e).1).setF).adds).length cr73 4 (((((r14apply_m s e).1).setF).adds).flatMap addMC)) hr73
  have z75 := Sld.le hr74
  have st := st.addK (kS Ar74 ((((r14apply_m s e).1).setF).gone).length cr74 3 (((((r14apply_m s e).1).setF).gone).flatMap tagMC)) hr74
  have z76 := Sld.le hr75
  have st := st.addK (kS Ar75 ((((r14apply_m s e).1).map).puts).length cr75 7 (((((r14apply_m s e).1).map).puts).flatMap putMC)) hr75
  have z77 := Sld.le hr76
  have st := st.addK (kS Ar76 ((((r14apply_m s e).1).map).gone).length cr76 3 (((((r14apply_m s e).1).map).gone).flatMap tagMC)) hr76
  have st : St X w57 [_, _, _, _, _] [_, _, _, _, _, _, _, _, _, _, _, _, _, _, _, _, _, _] := st
  refine Lm rfl (Lx rfl (Lx rfl (La rfl (Sal Ty.zc_37 st hF rfl fun g14 w58 (st : St _ _ [_, _, _, _, _, _] _) hF hg14 => La rfl (Ssw 5 Ty.sz_37 st hF (.inr hg14) rfl fun w59 (st : St _ _ [_, _, _, _, _, _] _) hF => Ls' rfl (Ln k15 (sq fun _ k16 => rg (Ly rfl (yw 3 Ty.ag_56 st rfl) (Ly rfl (yw 2 Ty.ag_45 st rfl) (La rfl (a_call rfl rfl rfl rfl (bcompact_ok (keys (hOf st) ++ X) _ st.Lo (to14_m s) Ar1 cr1 Ar2 cr2 Ar3 cr3 Ar4 cr4 vv (st.q 5 rfl) (st.q 6 rfl) (st.q 7 rfl) (st.q 8 rfl) (by omega) (by omega) (by omega) (by omega)) (fun v w60 ⟨Ar77, cr77, Ar78, cr78, Ar79, cr79, Ar80, cr80, hv, hr77, hr78, hr79, hr80, hf⟩ => ?_))))))))))))
  subst hv
  have st := st.keep0 hf
  have hF := hF.step0 hf
  have z78 := Sld.le hr77
  have st := st.addK (kS Ar77 ((((bcompact_m (to14_m s) vv).1).setF).adds).length cr77 4 (((((bcompact_m (to14_m s) vv).1).setF).adds).flatMap addMC)) hr77
  have z79 := Sld.le hr78
  have st := st.addK (kS Ar78 ((((bcompact_m (to14_m s) vv).1).setF).gone).length cr78 3 (((((bcompact_m (to14_m s) vv).1).setF).gone).flatMap tagMC)) hr78
  have z80 := Sld.le hr79
  have st := st.addK (kS Ar79 ((((bcompact_m (to14_m s) vv).1).map).puts).length cr79 7 (((((bcompact_m (to14_m s) vv).1).map).puts).flatMap putMC)) hr79
  have z81 := Sld.le hr80
  have st := st.addK (kS Ar80 ((((bcompact_m (to14_m s) vv).1).map).gone).length cr80 3 (((((bcompact_m (to14_m s) vv).1).map).gone).flatMap tagMC)) hr80
  have st : St X w60 [_, _, _, _, _, _] [_, _, _, _, _, _, _, _, _, _, _, _, _, _, _, _, _, _, _, _, _, _] := st
  refine Lm rfl (Lx rfl (Lx rfl (La rfl (Sal Ty.zc_56 st hF rfl fun g15 w61 (st : St _ _ [_, _, _, _, _, _, _] _) hF hg15 => La rfl (Ssw 6 Ty.sz_56 st hF (.inr hg15) rfl fun w62 (st : St _ _ [_, _, _, _, _, _, _] _) hF => Ls' rfl (Ln k16 (sq fun _ k17 => rg (Ly rfl (yw 0 Ty.ag_37 st rfl) (Ly rfl (yw 2 Ty.ag_45 st rfl) (La rfl (a_call rfl rfl rfl rfl (r14compact_ok (keys (hOf st) ++ X) _ st.Lo s A1 C1 A2 C2 A4 C4 A3 C3 vv (st.q 0 rfl) (st.q 1 rfl) (st.q 2 rfl) (st.q 3 rfl) (by omega) (by omega) (by omega) (by omega)) (fun v w63 ⟨Ar81, cr81, Ar82, cr82, Ar83, cr83, Ar84, cr84, hv, hr81, hr82, hr83, hr84, hf⟩ => ?_))))))))))))
  subst hv
  have st := st.keep0 hf
  have hF := hF.step0 hf
  have z82 := Sld.le hr81
  have st := st.addK (kS Ar81 ((((r14compact_m s vv).1).setF).adds).length cr81 4 (((((r14compact_m s vv).1).setF).adds).flatMap addMC)) hr81
  have z83 := Sld.le hr82
  have st := st.addK (kS Ar82 ((((r14compact_m s vv).1).setF).gone).length cr82 3 (((((r14compact_m s vv).1).setF).gone).flatMap tagMC)) hr82
  have z84 := Sld.le hr83
  have st := st.addK (kS Ar83 ((((r14compact_m s vv).1).map).puts).length cr83 7 (((((r14compact_m s vv).1).map).puts).flatMap putMC)) hr83
  have z85 := Sld.le hr84
  have st := st.addK (kS Ar84 ((((r14compact_m s vv).1).map).gone).length cr84 3 (((((r14compact_m s vv).1).map).gone).flatMap tagMC)) hr84
  have st : St X w63 [_, _, _, _, _, _, _] [_, _, _, _, _, _, _, _, _, _, _, _, _, _, _, _, _, _, _, _, _, _, _, _, _, _] := st
  refine Lm rfl (Lx rfl (Lx rfl (La rfl (Sal Ty.zc_37 st hF rfl fun g16 w64 (st : St _ _ [_, _, _, _, _, _, _, _] _) hF hg16 => La rfl (Ssw 7 Ty.sz_37 st hF (.inr hg16) rfl fun w65 (st : St _ _ [_, _, _, _, _, _, _, _] _) hF => Ls' rfl (Ln k17 (sq fun _ k18 => ?_)))))))
  refine Wp_plan (fun W => St X W (pickL (hOf st) [0, 1, 2, 3, 4, 5, 6, 7]) (kOf st)) [(true, 0), (true, 2), (false, 1), (false, 3), (true, 4), (true, 5), (true, 6), (true, 7), (true, 8), (true, 9), (true, 10), (true, 12), (false, 11), (false, 13), (true, 14), (true, 15), (true, 16), (true, 17), (true, 18), (true, 19), (true, 20), (true, 21), (true, 24), (false, 22), (false, 23), (false, 25), (false, 26), (true, 27), (true, 28), (true, 29), (true, 31), (false, 30), (false, 32), (true, 33), (true, 34)] Ty.mx_0 (by kernel_rfl) (by kernel_rfl) rfl ((st.pk [0, 1, 2, 3, 4, 5, 6, 7] (by decide)).drew) ?_
  have st := st.drew
  have hF := hF.step0 (Fr.drew _)
  refine Py rfl (y_loadw (i := 4) rfl rfl Ty.ag_56 (fun _ h => h.hp) rfl rfl) (Py rfl (y_loadw (i := 5) rfl rfl Ty.ag_37 (fun _ h => h.hp) rfl rfl) (Pl_a rfl (wtd0 rfl) (by rfl) ?_))
  refine a_call rfl rfl rfl rfl (from14_ok (keys (hOf st) ++ X) _ st.Lo ((oapply_m (to14_m s) (toEff_m e)).1) Ar69 cr69 Ar70 cr70 Ar71 cr71 Ar72 cr72 (st.q 10 rfl) (st.q 11 rfl) (st.q 12 rfl) (st.q 13 rfl) (by omega) (by omega) (by omega) (by omega)) (fun v w66 ⟨Ar85, cr85, Ar86, cr86, Ar87, cr87, Ar88, cr88, hv, hr85, hr86, hr87, hr88, hf⟩ => ?_)
  subst hv
  have st := st.keep0 hf
  have hF := hF.step0 hf
  have z86 := Sld.le hr85
  have st := st.addK (kS Ar85 (((from14_m ((oapply_m (to14_m s) (toEff_m e)).1)).setF).adds).length cr85 4 ((((from14_m ((oapply_m (to14_m s) (toEff_m e)).1)).setF).adds).flatMap addMC)) hr85
  have z87 := Sld.le hr86
  have st := st.addK (kS Ar86 (((from14_m ((oapply_m (to14_m s) (toEff_m e)).1)).setF).gone).length cr86 3 ((((from14_m ((oapply_m (to14_m s) (toEff_m e)).1)).setF).gone).flatMap tagMC)) hr86
  have z88 := Sld.le hr87
  have st := st.addK (kS Ar87 (((from14_m ((oapply_m (to14_m s) (toEff_m e)).1)).map).puts).length cr87 7 ((((from14_m ((oapply_m (to14_m s) (toEff_m e)).1)).map).puts).flatMap putMC)) hr87
  have z89 := Sld.le hr88
  have st := st.addK (kS Ar88 (((from14_m ((oapply_m (to14_m s) (toEff_m e)).1)).map).gone).length cr88 3 ((((from14_m ((oapply_m (to14_m s) (toEff_m e)).1)).map).gone).flatMap tagMC)) hr88
  have st : St X w66 [_, _, _, _, _, _, _, _] [_, _, _, _, _, _, _, _, _, _, _, _, _, _, _, _, _, _, _, _, _, _, _, _, _, _, _, _, _, _] := st
  refine ⟨(st.pk [0, 1, 2, 3, 4, 5, 6, 7] (by decide)).tK 26, ?_⟩
  refine Pl_a rfl (wtd0 rfl) (by rfl) ?_
  refine Scl st hF rfl (r14same_ok (keys (hOf st) ++ X) _ st.Lo (from14_m ((oapply_m (to14_m s) (toEff_m e)).1)) Ar85 cr85 Ar86 cr86 Ar87 cr87 Ar88 cr88 ((r14apply_m s e).1) Ar73 cr73 Ar74 cr74 Ar75 cr75 Ar76 cr76 (st.q 26 rfl) (st.q 27 rfl) (st.q 28 rfl) (st.q 29 rfl) (st.q 14 rfl) (st.q 15 rfl) (st.q 16 rfl) (st.q 17 rfl)) fun w67 st hF => ?_
  refine ⟨(st.pk [0, 1, 2, 3, 4, 5, 6, 7] (by decide)).tK 26, ?_⟩
  refine Pm rfl ?_
  have hd11 : (r14same_m (from14_m ((oapply_m (to14_m s) (toEff_m e)).1)) ((r14apply_m s e).1)) = true := by
    first | (rw [from14_eq, hap]; exact r14same_refl _) | (rw [from14_eq, hcp]; exact r14same_refl _) | (rw [from14_eq, to14_eq]; exact r14same_refl _)
  refine Pl_bool 50 rfl (fun _ => ?_) (fun hc12 => absurd hc12 (by first | (simp [hd11]; done) | (rw [hd11]; simp; done) | simpa using hd11))
  refine Pl_y rfl (wtdT rfl rfl rfl) rfl rfl (y_move rfl rfl) (Pl_y rfl (wtdT rfl rfl rfl) rfl rfl (y_move rfl rfl) (Pl_y rfl (wtdT rfl rfl rfl) rfl rfl (yeq rfl) (Py rfl (yT rfl) (Pm rfl ?_))))
  have hd12 : ((oapply_m (to14_m s) (toEff_m e)).2) = ((r14apply_m s e).2) := by
    rw [hap]
  refine Pl_bool 55 rfl (fun _ => ?_) (fun hc13 => absurd hc13 (by first | (simp [hd12]; done) | (rw [hd12]; simp; done) | simpa using hd12))
  refine Pl_y rfl (wtdT rfl rfl rfl) rfl rfl (y_loadw (i := 6) rfl rfl Ty.ag_56 (fun _ h => h.hp) rfl rfl) (Pl_y rfl (wtdT rfl rfl rfl) rfl rfl (y_loadw (i := 7) rfl rfl Ty.ag_37 (fun _ h => h.hp) rfl rfl) (Pl_a rfl (wtdT rfl rfl rfl) (by rfl) ?_))
  refine a_call rfl rfl rfl rfl (from14_ok (keys (hOf st) ++ X) _ st.Lo ((bcompact_m (to14_m s) vv).1) Ar77 cr77 Ar78 cr78 Ar79 cr79 Ar80 cr80 (st.q 18 rfl) (st.q 19 rfl) (st.q 20 rfl) (st.q 21 rfl) (by omega) (by omega) (by omega) (by omega)) (fun v w68 ⟨Ar89, cr89, Ar90, cr90, Ar91, cr91, Ar92, cr92, hv, hr89, hr90, hr91, hr92, hf⟩ => ?_)
  subst hv
  have st := st.keep0 hf
  have hF := hF.step0 hf
  have z90 := Sld.le hr89
  have st := st.addK (kS Ar89 (((from14_m ((bcompact_m (to14_m s) vv).1)).setF).adds).length cr89 4 ((((from14_m ((bcompact_m (to14_m s) vv).1)).setF).adds).flatMap addMC)) hr89
  have z91 := Sld.le hr90
  have st := st.addK (kS Ar90 (((from14_m ((bcompact_m (to14_m s) vv).1)).setF).gone).length cr90 3 ((((from14_m ((bcompact_m (to14_m s) vv).1)).setF).gone).flatMap tagMC)) hr90
  have z92 := Sld.le hr91
  have st := st.addK (kS Ar91 (((from14_m ((bcompact_m (to14_m s) vv).1)).map).puts).length cr91 7 ((((from14_m ((bcompact_m (to14_m s) vv).1)).map).puts).flatMap putMC)) hr91
  have z93 := Sld.le hr92
  have st := st.addK (kS Ar92 (((from14_m ((bcompact_m (to14_m s) vv).1)).map).gone).length cr92 3 ((((from14_m ((bcompact_m (to14_m s) vv).1)).map).gone).flatMap tagMC)) hr92
  have st : St X w68 [_, _, _, _, _, _, _, _] [_, _, _, _, _, _, _, _, _, _, _, _, _, _, _, _, _, _, _, _, _, _, _, _, _, _, _, _, _, _, _, _, _, _] := st
  refine ⟨(st.pk [0, 1, 2, 3, 4, 5, 6, 7] (by decide)).tK 26, ?_⟩
  refine Pl_a rfl (wtdT rfl rfl rfl) (by rfl) ?_
  refine Scl st hF rfl (r14same_ok (keys (hOf st) ++ X) _ st.Lo (from14_m ((bcompact_m (to14_m s) vv).1)) Ar89 cr89 Ar90 cr90 Ar91 cr91 Ar92 cr92 ((r14compact_m s vv).1) Ar81 cr81 Ar82 cr82 Ar83 cr83 Ar84 cr84 (st.q 30 rfl) (st.q 31 rfl) (st.q 32 rfl) (st.q 33 rfl) (st.q 22 rfl) (st.q 23 rfl) (st.q 24 rfl) (st.q 25 rfl)) fun w69 st hF => ?_
  refine ⟨(st.pk [0, 1, 2, 3, 4, 5, 6, 7] (by decide)).tK 26, ?_⟩
  refine Py rfl (yT rfl) (Pm rfl ?_)
  have hd13 : (r14same_m (from14_m ((bcompact_m (to14_m s) vv).1)) ((r14compact_m s vv).1)) = true := by
    first | (rw [from14_eq, hap]; exact r14same_refl _) | (rw [from14_eq, hcp]; exact r14same_refl _) | (rw [from14_eq, to14_eq]; exact r14same_refl _)
  refine Pl_bool 61 rfl (fun _ => ?_) (fun hc14 => absurd hc14 (by first | (simp [hd13]; done) | (rw [hd13]; simp; done) | simpa using hd13))
  refine Pl_y rfl (wtdT rfl rfl rfl) rfl rfl (y_move rfl rfl) (Pl_y rfl (wtdT rfl rfl rfl) rfl rfl (y_move rfl rfl) (Pl_y rfl (wtdT rfl rfl rfl) rfl rfl (yeq rfl) (Py rfl (yT rfl) (Pm rfl ?_))))
  have hd14 : ((bcompact_m (to14_m s) vv).2) = ((r14compact_m s vv).2) := by
    rw [hcp]
  refine Pl_bool 66 rfl (fun _ => ?_) (fun hc15 => absurd hc15 (by first | (simp [hd14]; done) | (rw [hd14]; simp; done) | simpa using hd14))
  refine Pl_y rfl (wtdT rfl rfl rfl) rfl rfl (y_loadw (i := 3) rfl rfl Ty.ag_56 (fun _ h => h.hp) rfl rfl) (Pl_y rfl (wtdT rfl rfl rfl) rfl rfl (y_loadw (i := 0) rfl rfl Ty.ag_37 (fun _ h => h.hp) rfl rfl) (Pl_a rfl (wtdT rfl rfl rfl) (by rfl) ?_))
  refine a_call rfl rfl rfl rfl (osay_ok (keys (hOf st) ++ X) _ st.Lo (to14_m s) Ar1 cr1 Ar2 cr2 Ar3 cr3 Ar4 cr4 (st.q 5 rfl) (st.q 6 rfl) (st.q 7 rfl) (st.q 8 rfl) (by omega) (by omega) (by omega) (by omega)) (fun v w70 ⟨Ar93, cr93, hv, hr93, hf⟩ => ?_)
  subst hv
  have st := st.keep0 hf
  have hF := hF.step0 hf
  have z94 := Sld.le hr93
  have st := st.addK (kS Ar93 ((osay_m (to14_m s)).items).length cr93 2 (((osay_m (to14_m s)).items).flatMap itemMC)) hr93
  have st : St X w70 [_, _, _, _, _, _, _, _] [_, _, _, _, _, _, _, _, _, _, _, _, _, _, _, _, _, _, _, _, _, _, _, _, _, _, _, _, _, _, _, _, _, _, _] := st
  refine ⟨(st.pk [0, 1, 2, 3, 4, 5, 6, 7] (by decide)).tK 26, ?_⟩
  refine Pl_a rfl (wtdT rfl rfl rfl) (by rfl) ?_
  refine a_call rfl rfl rfl rfl (fromVal_ok (keys (hOf st) ++ X) _ st.Lo (osay_m (to14_m s)) Ar93 cr93 (st.q 34 rfl) (by omega)) (fun v w71 ⟨Ar94, cr94, hv, hr94, hf⟩ => ?_)
  subst hv
  have st := st.keep0 hf
  have hF := hF.step0 hf
  have z95 := Sld.le hr94
  have st := st.addK (kS Ar94 ((fromVal_m (osay_m (to14_m s))).items).length cr94 2 (((fromVal_m (osay_m (to14_m s))).items).flatMap itemMC)) hr94
  have st : St X w71 [_, _, _, _, _, _, _, _] [_, _, _, _, _, _, _, _, _, _, _, _, _, _, _, _, _, _, _, _, _, _, _, _, _, _, _, _, _, _, _, _, _, _, _, _] := st
  refine ⟨(st.pk [0, 1, 2, 3, 4, 5, 6, 7] (by decide)).tK 26, ?_⟩
  refine Pl_a rfl (wtdT rfl rfl rfl) (by rfl) ?_
  refine a_call rfl rfl rfl rfl (r14say_ok (keys (hOf st) ++ X) _ st.Lo s A1 C1 A2 C2 A4 C4 A3 C3 (st.q 0 rfl) (st.q 1 rfl) (st.q 2 rfl) (st.q 3 rfl) (by omega) (by omega) (by omega) (by omega)) (fun v w72 ⟨Ar95, cr95, hv, hr95, hf⟩ => ?_)
  subst hv
  have st := st.keep0 hf
  have hF := hF.step0 hf
  have z96 := Sld.le hr95
  have st := st.addK (kS Ar95 ((r14say_m s).items).length cr95 2 (((r14say_m s).items).flatMap itemMC)) hr95
  have st : St X w72 [_, _, _, _, _, _, _, _] [_, _, _, _, _, _, _, _, _, _, _, _, _, _, _, _, _, _, _, _, _, _, _, _, _, _, _, _, _, _, _, _, _, _, _, _, _] := st
  refine ⟨(st.pk [0, 1, 2, 3, 4, 5, 6, 7] (by decide)).tK 26, ?_⟩
  refine Pl_a rfl (wtdT rfl rfl rfl) (by rfl) ?_
  refine Scl st hF rfl (sameValue_ok (keys (hOf st) ++ X) _ st.Lo (fromVal_m (osay_m (to14_m s))) Ar94 cr94 (r14say_m s) Ar95 cr95 (st.q 35 rfl) (st.q 36 rfl)) fun w73 st hF => ?_
  refine ⟨(st.pk [0, 1, 2, 3, 4, 5, 6, 7] (by decide)).tK 26, ?_⟩
  refine Py rfl (yT rfl) (Pm rfl ?_)
  have hd15 : (sameValue_m (fromVal_m (osay_m (to14_m s))) (r14say_m s)) = true := by
    rw [fromVal_eq, hsay]; exact sameValue_refl _
  refine Pl_bool 74 rfl (fun _ => ?_) (fun hc16 => absurd hc16 (by first | (simp [hd15]; done) | (rw [hd15]; simp; done) | simpa using hd15))
  refine Pl_y rfl (wtdT rfl rfl rfl) rfl rfl (y_loadw (i := 3) rfl rfl Ty.ag_56 (fun _ h => h.hp) rfl rfl) (Pl_y rfl (wtdT rfl rfl rfl) rfl rfl (y_loadw (i := 0) rfl rfl Ty.ag_37 (fun _ h => h.hp) rfl rfl) (Pl_a rfl (wtdT rfl rfl rfl) (by rfl) ?_))
  refine a_call rfl rfl rfl rfl (from14_ok (keys (hOf st) ++ X) _ st.Lo (to14_m s) Ar1 cr1 Ar2 cr2 Ar3 cr3 Ar4 cr4 (st.q 5 rfl) (st.q 6 rfl) (st.q 7 rfl) (st.q 8 rfl) (by omega) (by omega) (by omega) (by omega)) (fun v w74 ⟨Ar96, cr96, Ar97, cr97, Ar98, cr98, Ar99, cr99, hv, hr96, hr97, hr98, hr99, hf⟩ => ?_)
  subst hv
  have st := st.keep0 hf
  have hF := hF.step0 hf
  have z97 := Sld.le hr96
  have st := st.addK (kS Ar96 (((from14_m (to14_m s)).setF).adds).length cr96 4 ((((from14_m (to14_m s)).setF).adds).flatMap addMC)) hr96
  have z98 := Sld.le hr97
  have st := st.addK (kS Ar97 (((from14_m (to14_m s)).setF).gone).length cr97 3 ((((from14_m (to14_m s)).setF).gone).flatMap tagMC)) hr97
  have z99 := Sld.le hr98
  have st := st.addK (kS Ar98 (((from14_m (to14_m s)).map).puts).length cr98 7 ((((from14_m (to14_m s)).map).puts).flatMap putMC)) hr98
  have z100 := Sld.le hr99
  have st := st.addK (kS Ar99 (((from14_m (to14_m s)).map).gone).length cr99 3 ((((from14_m (to14_m s)).map).gone).flatMap tagMC)) hr99
  have st : St X w74 [_, _, _, _, _, _, _, _] [_, _, _, _, _, _, _, _, _, _, _, _, _, _, _, _, _, _, _, _, _, _, _, _, _, _, _, _, _, _, _, _, _, _, _, _, _, _, _, _, _] := st
  refine ⟨(st.pk [0, 1, 2, 3, 4, 5, 6, 7] (by decide)).tK 26, ?_⟩
  refine Pl_a rfl (wtdT rfl rfl rfl) (by rfl) ?_
  refine Scl st hF rfl (r14same_ok (keys (hOf st) ++ X) _ st.Lo (from14_m (to14_m s)) Ar96 cr96 Ar97 cr97 Ar98 cr98 Ar99 cr99 s A1 C1 A2 C2 A4 C4 A3 C3 (st.q 37 rfl) (st.q 38 rfl) (st.q 39 rfl) (st.q 40 rfl) (st.q 0 rfl) (st.q 1 rfl) (st.q 2 rfl) (st.q 3 rfl)) fun w75 st hF => ?_
  refine ⟨(st.pk [0, 1, 2, 3, 4, 5, 6, 7] (by decide)).tK 26, ?_⟩
  refine Py rfl (yT rfl) (Py rfl (y_assign rfl rfl) (Pl_nil (Th_n (k18 _ _ (wR (fR (Res1 rfl rfl) ?_))))))
  have hres : (r14same_m (from14_m (to14_m s)) s) = true := by
    rw [from14_eq, to14_eq]; exact r14same_refl _
  rw [hres]
  exact ⟨rfl, hF⟩
end Go.Proofs.YtmenpoicgoijcaaGreat

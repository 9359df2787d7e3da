/- Walks printed by gen2.py out of our own specifications: what the functions named below do. -/
import Derived.Test.YtdckemiebnfjcaaGreatDoorSc
import Derived.Test.YtdckemiebnfjcaaGreatDoorQe
set_option linter.unusedSimpArgs false
set_option linter.unusedVariables false
set_option maxRecDepth 20000
namespace Go.Proofs.YtdckemiebnfjcaaGreatDoor
open Go.RowKit
set_option maxHeartbeats 4000000 in
theorem objBack_ok (X : List Nat) (w : World) (hX : Lo X w) (s : ObjM) (A1 : Option Addr) (C1 : Nat) (A2 : Option Addr) (C2 : Nat) (A4 : Option Addr) (C4 : Nat) (A3 : Option Addr) (C3 : Nat) (o : OpM) (tag : TagM) (more : List UInt8) (z5 : Sld X w A1 s.setF.adds.length C1 4 (s.setF.adds.flatMap addMC)) (z6 : Sld X w A2 s.setF.gone.length C2 3 (s.setF.gone.flatMap tagMC)) (z8 : Sld X w A4 s.map.puts.length C4 7 (s.map.puts.flatMap putMC)) (z7 : Sld X w A3 s.map.gone.length C3 3 (s.map.gone.flatMap tagMC)) (mx : Int) (hmx : w.cell? ⟨0, 0, none⟩ = some (.int .i64 mx)) (hwf : WfA s o tag) :
    Fn Tryz.prog 3 [.agg #[.int .i64 s.kind, .int .i64 s.reg.val, .int .u32 s.reg.atF.time, .int .i64 s.reg.atF.origin, .int .i64 s.num.plus, .int .i64 s.num.minus, .slice A1 s.setF.adds.length C1, .slice A2 s.setF.gone.length C2, .slice A4 s.map.puts.length C4, .slice A3 s.map.gone.length C3], .agg (opMC o).toArray, .agg (tagMC tag).toArray, sv more] w fun v w' => v = .bool true ∧ Fr [] w w' := by
  refine Fn_of 129 Ty.en_3 Tryz.func3 rfl rfl rfl ?_
  dsimp only [argEnv]
  have st := stn4 hX z5 z6 z8 z7
  have hF := Fr.refl ([]) w
  have z1 := (st.q 0 rfl).le
  have z2 := (st.q 1 rfl).le
  have z4 := (st.q 2 rfl).le
  have z3 := (st.q 3 rfl).le
  have he14 := to14_eq s
  have hop : op14_m o = o := rfl
  refine sq fun _ k1 => rg (La rfl (Sbx st hF rfl fun g1 w1 (st : St _ _ [_] _) hF hg1 => La rfl (Sbx st hF rfl fun g2 w2 (st : St _ _ [_, _] _) hF hg2 => La rfl (Sbx st hF rfl fun g3 w3 (st : St _ _ [_, _, _] _) hF hg3 => Ls' rfl (Ln k1 (sq fun _ k2 => sq fun _ k3 => rg (La rfl (Scl st hF rfl (works14_ok (keys (hOf st) ++ X) _ st.Lo mx (cellF hF hmx)) fun w4 st hF => Ly rfl (yn rfl) (Ln k3 ?_)))))))))
  have hd1 : works14_m = true := by
    exact works14_t
  refine Wp_cond rfl (fun hc1 => absurd hc1 (by first | (simp [hd1]; done) | (rw [hd1]; simp; done) | simpa using hd1)) (fun _ => ?_)
  refine sk k2 (sq fun _ k4 => sq fun _ k5 => rg (Ly rfl (yw 0 Ty.ag_37 st rfl) (Ly rfl (y_build (cells := [_, _, _, _, _, _, _, _, _]) rfl rfl Ty.zc_47 Ty.ps_47 rfl) ?_)))
  have st := st.aN 3
  refine La rfl (Scl st hF rfl (great14_ok (keys (hOf st) ++ X) _ st.Lo s A1 C1 A2 C2 A4 C4 A3 C3 (⟨0, [], 0, (⟨(⟨0, 0⟩ : IdM), 0⟩ : TagM), (⟨0, 0⟩ : StampM), ([] : List TagM)⟩ : EffectM) none 0 (st.q 0 rfl) (st.q 1 rfl) (st.q 2 rfl) (st.q 3 rfl) (st.q 4 rfl)) fun w5 st hF => Lm rfl (bB (s := 24) rfl (fun hc2 => ?_) (fun hc2 => ?_)))
  · refine LsF rfl (LsF rfl (LsF rfl (LsF rfl (Ly rfl (yT rfl) (Lm rfl (LsF rfl (LsF rfl (LsF rfl (Ly rfl (yT rfl) (Ln k5 (Wp_cond_t rfl (sq fun _ k6 => rg (Ls' rfl (Ln k6 (wR (Th_r (fR (Res1 rfl rfl) ?_)))))))))))))))))
    exact ⟨rfl, hF⟩
  obtain ⟨kb1, kb2, kb3, kb4⟩ := great_obj hc2
  obtain ⟨kc1, kc2, kc3, kc4⟩ := to_small ⟨kb1, kb2, kb3, kb4⟩
  refine LyT rfl (yf rfl Ty.fo_39_1) (LyT rfl (yl 1 Ty.pl_9 st rfl) (LyT rfl (y_lens rfl rfl Tryz.underlying9) (LyT rfl (ygt rfl) (Ly rfl (yF rfl) (Lm rfl (bD (s := 30) rfl (fun hc3 => ?_) (fun hc3 => ?_)))))))
  · refine LsF rfl (LsF rfl (LsF rfl (Ly rfl (yT rfl) (Ln k5 (Wp_cond_t rfl (sq fun _ k7 => rg (Ls' rfl (Ln k7 (wR (Th_r (fR (Res1 rfl rfl) ?_)))))))))))
    exact ⟨rfl, hF⟩
  refine LyT rfl (y_move rfl rfl) (LyT rfl (y_lens rfl rfl Tryz.underlying9) (LyT rfl (ygt rfl) (Ly rfl (yF rfl) (Ln k5 (cD rfl (fun hc4 => ?_) (fun hc4 => ?_))))))
  · refine sq fun _ k8 => rg (Ls' rfl (Ln k8 (wR (Th_r (fR (Res1 rfl rfl) ?_)))))
    exact ⟨rfl, hF⟩
  refine sk k4 (sq fun _ k9 => rg (Ly rfl (yw 0 Ty.ag_37 st rfl) (La rfl (a_call rfl rfl rfl rfl (to14_ok (keys (hOf st) ++ X) _ st.Lo s A1 C1 A2 C2 A4 C4 A3 C3 (st.q 0 rfl) (st.q 1 rfl) (st.q 2 rfl) (st.q 3 rfl) (by omega) (by omega) (by omega) (by omega)) (fun v w6 ⟨Ar1, cr1, Ar2, cr2, Ar3, cr3, Ar4, cr4, hv, hr1, hr2, hr3, hr4, hf⟩ => ?_)))))
  subst hv
  have st := st.keep0 hf
  have hF := hF.step0 hf
  have z34 := Sld.le hr1
  have st := st.addK (kS Ar1 (((to14_m s).setF).adds).length cr1 4 ((((to14_m s).setF).adds).flatMap addMC)) hr1
  have z35 := Sld.le hr2
  have st := st.addK (kS Ar2 (((to14_m s).setF).gone).length cr2 3 ((((to14_m s).setF).gone).flatMap tagMC)) hr2
  have z36 := Sld.le hr3
  have st := st.addK (kS Ar3 (((to14_m s).map).puts).length cr3 7 ((((to14_m s).map).puts).flatMap putMC)) hr3
  have z37 := Sld.le hr4
  have st := st.addK (kS Ar4 (((to14_m s).map).gone).length cr4 3 ((((to14_m s).map).gone).flatMap tagMC)) hr4
  have st : St X w6 [_, _, _] [_, _, _, _, _, _, _, _, _] := st
  refine La rfl (Sal Ty.zc_57 st hF rfl fun g4 w7 (st : St _ _ [_, _, _, _] _) hF hg4 => La rfl (Ssw 3 Ty.sz_57 st hF (.inr hg4) rfl fun w8 (st : St _ _ [_, _, _, _] _) hF => Ln k9 (sq fun _ k10 => ?_)))
  refine Wp_px (fun W => St X W (pickL (hOf st) [0, 1, 2, 3]) (kOf st)) 12 rfl Ty.mx_0 ((st.pk [0, 1, 2, 3] (by decide)).drew) ?_
  have st := st.drew
  have hF := hF.step0 (Fr.drew _)
  refine Px_y (i := 0) rfl (by kernel_rfl) (wtd0 rfl) rfl rfl (y_loadw (i := 3) rfl rfl Ty.ag_57 (fun _ h => h.hp) rfl rfl) ?_
  refine Px_y (i := 1) rfl (by kernel_rfl) (wtd0 rfl) rfl rfl (y_loadw (i := 1) rfl rfl Ty.ag_39 (fun _ h => h.hp) rfl rfl) ?_
  refine Px_y (i := 3) rfl (by kernel_rfl) (wtd0 rfl) rfl rfl (y_loadw (i := 2) rfl rfl Ty.ag_43 (fun _ h => h.hp) rfl rfl) ?_
  refine Px_y (i := 4) rfl (by kernel_rfl) (wtd0 rfl) rfl rfl (y_build (cells := [_, _]) rfl rfl Ty.zc_24 Ty.ps_24 rfl) ?_
  refine Px_a2 (i := 2) (j := 9) (by kernel_rfl) rfl (wtd0 rfl) rfl (wtd0 rfl) ?_ ?_
  · refine Scl st hF rfl (op14_ok _ o) fun w9 st hF => ?_
    refine ⟨(st.pk [0, 1, 2, 3] (by decide)).tK 9, ?_⟩
    refine Px_a2 (i := 5) (j := 9) (by kernel_rfl) rfl (wtd0 rfl) rfl (wtd0 rfl) ?_ ?_
    · refine a_call rfl rfl rfl rfl (oprepare_ok (keys (hOf st) ++ X) _ st.Lo (to14_m s) Ar1 cr1 Ar2 cr2 Ar3 cr3 Ar4 cr4 (op14_m o) tag (⟨1048576, 7⟩ : StampM) (st.q 5 rfl) (st.q 6 rfl) (st.q 7 rfl) (st.q 8 rfl) (by omega) (by omega) (by omega) (by omega)) (fun v w10 ⟨Ar5, cr5, hv, hr5, hf⟩ => ?_)
      subst hv
      have st := st.keep0 hf
      have hF := hF.step0 hf
      have z38 := Sld.le hr5
      have st := st.addK (kS Ar5 (((oprepare_m (to14_m s) (op14_m o) tag (⟨1048576, 7⟩ : StampM)).1).tags).length cr5 3 ((((oprepare_m (to14_m s) (op14_m o) tag (⟨1048576, 7⟩ : StampM)).1).tags).flatMap tagMC)) hr5
      have st : St X w10 [_, _, _, _] [_, _, _, _, _, _, _, _, _, _] := st
      refine ⟨(st.pk [0, 1, 2, 3] (by decide)).tK 9, ?_⟩
      refine Px_y (i := 6) rfl (by kernel_rfl) (wtd0 rfl) rfl rfl (y_move rfl rfl) ?_
      refine Px_y (i := 7) rfl (by kernel_rfl) (wtd0 rfl) rfl rfl (y_ext rfl rfl rfl) ?_
      refine Px_y (i := 8) rfl (by kernel_rfl) (wtd0 rfl) rfl rfl (y_ext rfl rfl rfl) ?_
      refine Px_a (i := 9) (by kernel_rfl) rfl (wtd0 rfl) ?_
      refine Sal Ty.zc_59 st hF rfl fun g5 w11 (st : St _ _ [_, _, _, _, _] _) hF hg5 => ?_
      refine ⟨(st.pk [0, 1, 2, 3] (by decide)).tK 9, ?_⟩
      refine Px_a (i := 10) (by kernel_rfl) rfl (wtd0 rfl) ?_
      refine Ssw 4 Ty.sz_59 st hF (.inr hg5) rfl fun w12 (st : St _ _ [_, _, _, _, _] _) hF => ?_
      refine ⟨(st.pk [0, 1, 2, 3] (by decide)).tK 9, ?_⟩
      refine Px_str (fun W => St X W (hOf st) (kOf st)) (fun _ st => (st.pk [0, 1, 2, 3] (by decide)).tK 9) st ?_
      refine Px_pl [(true, 11)] (by kernel_rfl) (by kernel_rfl) rfl ?_
      refine Py rfl (y_assign rfl rfl) (Pl_nil (Th_n (k10 _ _ (sq fun _ k11 => sq fun _ k12 => rg (Lm rfl (Ly rfl (yne rfl) (Ln k12 (cN rfl (fun hc5 => ?_) (fun hc5 => ?_)))))))))
      · refine sq fun _ k13 => rg (Ls' rfl (Ln k13 (wR (Th_r (fR (Res1 rfl rfl) ?_)))))
        exact ⟨rfl, hF⟩
      have hbk := bk_to (more := more) hc5 hwf kb1 kb3
      have hbl := hbk.l
      have hbn := hbk.n
      have hbt := hbk.tl
      refine sk k11 (sq fun _ k14 => rg (Ly rfl (yw 4 Ty.ag_59 st rfl) (La rfl (Scl st hF rfl (owrite_ok (keys (hOf st) ++ X) _ st.Lo ((oprepare_m (to14_m s) (op14_m o) tag (⟨1048576, 7⟩ : StampM)).1) Ar5 cr5 (st.q 9 rfl) (by omega) (by omega)) fun w13 st hF => ?_))))
      refine Lm rfl (Lx rfl (Lx rfl (Ls' rfl (Ls' rfl (Ln k14 (sq fun _ k15 => sq fun _ k16 => rg (Lm rfl (Ly rfl (yne rfl) (Ln k16 ?_)))))))))
      have hd2 : ((owrite_m ((oprepare_m (to14_m s) (op14_m o) tag (⟨1048576, 7⟩ : StampM)).1)).2) = 0 := by
        rw [hbk.w]
      refine Wp_cond rfl (fun hc6 => absurd hc6 (by first | (simp [hd2]; done) | (rw [hd2]; simp; done) | simpa using hd2)) (fun _ => ?_)
      refine sk k15 (sq fun _ k17 => rg (Lm rfl (Lm rfl (Ly rfl (y_cat rfl rfl rfl (by first | omega | (simp; done) | (simp; omega))) ?_))))
      refine La rfl (a_call rfl rfl rfl rfl (sNew_ok (keys (hOf st) ++ X) _ st.Lo (((owrite_m ((oprepare_m (to14_m s) (op14_m o) tag (⟨1048576, 7⟩ : StampM)).1)).1) ++ more) (by first | omega | (simp; omega))) (fun v w14 ⟨g6, q1, hv, hok1, hN1, hf, hkc1⟩ => ?_))
      subst hv
      have hfo1 : ∀ k ∈ keys [(some g6, Cl (rdC q1 (rnew_m (((owrite_m ((oprepare_m (to14_m s) (op14_m o) tag (⟨1048576, 7⟩ : StampM)).1)).1) ++ more))) 110), (q1, Cl (ftC (rnew_m (((owrite_m ((oprepare_m (to14_m s) (op14_m o) tag (⟨1048576, 7⟩ : StampM)).1)).1) ++ more))) 163)], k ∈ ([]) ∨ w.heap.size ≤ k := fun k hk => .inr (Nat.le_trans hF.size (hkc1 k hk))
      have st := st.callN hN1 hf hkc1
      have hF := hF.step0 hf
      have st : St X w14 [_, _, _, _, _, _, _] [_, _, _, _, _, _, _, _, _, _] := st
      refine Ls' rfl (Ln k17 (sq fun _ k18 => sq fun _ k19 => ?_))
      refine Wp_plan (fun W => St X W (pickL (hOf st) [0, 1, 2, 3, 4]) (kOf st)) [(true, 0), (true, 3), (false, 1), (false, 2), (false, 4), (false, 5), (true, 6), (true, 7), (true, 8), (true, 10), (true, 11), (false, 9), (true, 12), (true, 13)] Ty.mx_0 (by kernel_rfl) (by kernel_rfl) rfl ((st.pk [0, 1, 2, 3, 4] (by decide)).drew) ?_
      have st := st.drew
      have hF := hF.step0 (Fr.drew _)
      refine Pm rfl (Py rfl (y_loadw (i := 4) rfl rfl Ty.ag_59 (fun _ h => h.hp) rfl rfl) (Pl_a rfl (wtd0 rfl) (by rfl) ?_))
      refine a_call rfl rfl rfl rfl (oread_ok (keys (pickL (hOf st) [0, 1, 2, 3, 4]) ++ X) _ g6 q1 (rnew_m (((owrite_m ((oprepare_m (to14_m s) (op14_m o) tag (⟨1048576, 7⟩ : StampM)).1)).1) ++ more)) hok1 (st.sub [0, 1, 2, 3, 4] [5, 6] [] (by decide))) (fun v w15 ⟨Ar6, cr6, q2, hv, hok2, hN2, hfO1, hkc2⟩ => ?_)
      subst hv
      have hfo2 : ∀ k ∈ keys [(some g6, Cl (rdC q2 ((oread_m (rnew_m (((owrite_m ((oprepare_m (to14_m s) (op14_m o) tag (⟨1048576, 7⟩ : StampM)).1)).1) ++ more))).2)) 110), (q2, Cl (ftC ((oread_m (rnew_m (((owrite_m ((oprepare_m (to14_m s) (op14_m o) tag (⟨1048576, 7⟩ : StampM)).1)).1) ++ more))).2)) 163)], k ∈ ([]) ∨ w.heap.size ≤ k := fun k hk => (hkc2 k (hk)).elim (fun h => (kc_app hfo1 (kc_n)) k h) (fun h => .inr (Nat.le_trans hF.size h))
      have st := st.callS [0, 1, 2, 3, 4] [5, 6] (by decide) rfl hN2 hfO1 hkc2
      have hF := hF.step hfO1 (kc_app hfo1 (kc_n))
      have st : St X w15 [_, _, _, _, _, _, _] [_, _, _, _, _, _, _, _, _, _, _] := st
      refine ⟨(st.pk [0, 1, 2, 3, 4] (by decide)).tK 10, ?_⟩
      have z39 := (st.q 10 rfl).le
      refine Pl_a rfl (wtd0 rfl) (by rfl) ?_
      refine a_call rfl rfl rfl rfl (fromEff_ok (keys (hOf st) ++ X) _ st.Lo ((oread_m (rnew_m (((owrite_m ((oprepare_m (to14_m s) (op14_m o) tag (⟨1048576, 7⟩ : StampM)).1)).1) ++ more))).1) Ar6 cr6 (st.q 10 rfl)) (fun v w16 ⟨Ar7, cr7, hv, hr7, hf⟩ => ?_)
      subst hv
      have st := st.keep0 hf
      have hF := hF.step0 hf
      have z40 := Sld.le hr7
      have st := st.addK (kS Ar7 ((fromEff_m ((oread_m (rnew_m (((owrite_m ((oprepare_m (to14_m s) (op14_m o) tag (⟨1048576, 7⟩ : StampM)).1)).1) ++ more))).1)).tags).length cr7 3 (((fromEff_m ((oread_m (rnew_m (((owrite_m ((oprepare_m (to14_m s) (op14_m o) tag (⟨1048576, 7⟩ : StampM)).1)).1) ++ more))).1)).tags).flatMap tagMC)) hr7
      have st : St X w16 [_, _, _, _, _, _, _] [_, _, _, _, _, _, _, _, _, _, _, _] := st
      refine ⟨(st.pk [0, 1, 2, 3, 4] (by decide)).tK 10, ?_⟩
      refine Pl_a rfl (wtd0 rfl) (by rfl) ?_
      refine a_call rfl rfl rfl rfl (fromEff_ok (keys (hOf st) ++ X) _ st.Lo ((oprepare_m (to14_m s) (op14_m o) tag (⟨1048576, 7⟩ : StampM)).1) Ar5 cr5 (st.q 9 rfl)) (fun v w17 ⟨Ar8, cr8, hv, hr8, hf⟩ => ?_)
      subst hv
      have st := st.keep0 hf
      have hF := hF.step0 hf
      have z41 := Sld.le hr8
      have st := st.addK (kS Ar8 ((fromEff_m ((oprepare_m (to14_m s) (op14_m o) tag (⟨1048576, 7⟩ : StampM)).1)).tags).length cr8 3 (((fromEff_m ((oprepare_m (to14_m s) (op14_m o) tag (⟨1048576, 7⟩ : StampM)).1)).tags).flatMap tagMC)) hr8
      have st : St X w17 [_, _, _, _, _, _, _] [_, _, _, _, _, _, _, _, _, _, _, _, _] := st
      refine ⟨(st.pk [0, 1, 2, 3, 4] (by decide)).tK 10, ?_⟩
      refine Pl_a rfl (wtd0 rfl) (by rfl) ?_
      refine Scl st hF rfl (sameEffect_ok (keys (hOf st) ++ X) _ st.Lo (fromEff_m ((oread_m (rnew_m (((owrite_m ((oprepare_m (to14_m s) (op14_m o) tag (⟨1048576, 7⟩ : StampM)).1)).1) ++ more))).1)) Ar7 cr7 (fromEff_m ((oprepare_m (to14_m s) (op14_m o) tag (⟨1048576, 7⟩ : StampM)).1)) Ar8 cr8 (st.q 11 rfl) (st.q 12 rfl)) fun w18 st hF => ?_
      refine ⟨(st.pk [0, 1, 2, 3, 4] (by decide)).tK 10, ?_⟩
      refine Py rfl (yn rfl) (Pm rfl ?_)
      have hd3 : (sameEffect_m (fromEff_m ((oread_m (rnew_m (((owrite_m ((oprepare_m (to14_m s) (op14_m o) tag (⟨1048576, 7⟩ : StampM)).1)).1) ++ more))).1)) (fromEff_m ((oprepare_m (to14_m s) (op14_m o) tag (⟨1048576, 7⟩ : StampM)).1))) = true := by
        exact hbk.same
      refine Pl_bool 66 rfl (fun hc7 => absurd hc7 (by first | (simp [hd3]; done) | (rw [hd3]; simp; done) | simpa using hd3)) (fun _ => ?_)
      refine Pl_y rfl (wtdT rfl rfl rfl) rfl rfl (y_move rfl rfl) (Pl_y rfl (wtdT rfl rfl rfl) rfl rfl (y_move rfl rfl) (Pl_y rfl (wtdT rfl rfl rfl) rfl rfl (y_lens rfl rfl Tryz.underlying9) (Pl_a rfl (wtdT rfl rfl rfl) (by rfl) ?_)))
      refine a_call rfl rfl rfl rfl (sLeft_ok (keys (pickL (hOf st) [0, 1, 2, 3, 4]) ++ X) _ g6 q2 ((oread_m (rnew_m (((owrite_m ((oprepare_m (to14_m s) (op14_m o) tag (⟨1048576, 7⟩ : StampM)).1)).1) ++ more))).2) hok2 (st.sub [0, 1, 2, 3, 4] [5, 6] [] (by decide))) (fun v w19 ⟨hv, hf⟩ => ?_)
      subst hv
      have st := st.keep0 hf
      have hF := hF.step0 hf
      have st : St X w19 [_, _, _, _, _, _, _] [_, _, _, _, _, _, _, _, _, _, _, _, _] := st
      refine ⟨(st.pk [0, 1, 2, 3, 4] (by decide)).tK 10, ?_⟩
      refine Pl_y rfl (wtdT rfl rfl rfl) rfl rfl (yne rfl) (Py rfl (yF rfl) (Pl_nil (Th_n (k19 _ _ ?_))))
      have hd4 : (rleft_m ((oread_m (rnew_m (((owrite_m ((oprepare_m (to14_m s) (op14_m o) tag (⟨1048576, 7⟩ : StampM)).1)).1) ++ more))).2)) = (more.length : Int) := by
        exact hbk.left
      refine Wp_cond rfl (fun hc8 => absurd hc8 (by first | (simp [hd4]; done) | (rw [hd4]; simp; done) | simpa using hd4)) (fun _ => ?_)
      refine sk k18 (sq fun _ k20 => rg (Ly rfl (yw 3 Ty.ag_57 st rfl) (Ly rfl (yw 4 Ty.ag_59 st rfl) (La rfl (a_call rfl rfl rfl rfl (oapply_ok (keys (hOf st) ++ X) _ st.Lo (to14_m s) Ar1 cr1 Ar2 cr2 Ar3 cr3 Ar4 cr4 ((oprepare_m (to14_m s) (op14_m o) tag (⟨1048576, 7⟩ : StampM)).1) Ar5 cr5 (st.q 5 rfl) (st.q 6 rfl) (st.q 7 rfl) (st.q 8 rfl) (st.q 9 rfl) (by omega) (by omega) (by omega) (by omega) (by omega)) (fun v w20 ⟨Ar9, cr9, Ar10, cr10, Ar11, cr11, Ar12, cr12, hv, hr9, hr10, hr11, hr12, hf⟩ => ?_))))))
      subst hv
      have st := st.keep0 hf
      have hF := hF.step0 hf
      have z42 := Sld.le hr9
      have st := st.addK (kS Ar9 ((((oapply_m (to14_m s) ((oprepare_m (to14_m s) (op14_m o) tag (⟨1048576, 7⟩ : StampM)).1)).1).setF).adds).length cr9 4 (((((oapply_m (to14_m s) ((oprepare_m (to14_m s) (op14_m o) tag (⟨1048576, 7⟩ : StampM)).1)).1).setF).adds).flatMap addMC)) hr9
      have z9 := Sld.le hr10
      have st := st.addK (kS Ar10 ((((oapply_m (to14_m s) ((oprepare_m (to14_m s) (op14_m o) tag (⟨1048576, 7⟩ : StampM)).1)).1).setF).gone).length cr10 3 (((((oapply_m (to14_m s) ((oprepare_m (to14_m s) (op14_m o) tag (⟨1048576, 7⟩ : StampM)).1)).1).setF).gone).flatMap tagMC)) hr10
      have z10 := Sld.le hr11
      have st := st.addK (kS Ar11 ((((oapply_m (to14_m s) ((oprepare_m (to14_m s) (op14_m o) tag (⟨1048576, 7⟩ : StampM)).1)).1).map).puts).length cr11 7 (((((oapply_m (to14_m s) ((oprepare_m (to14_m s) (op14_m o) tag (⟨1048576, 7⟩ : StampM)).1)).1).map).puts).flatMap putMC)) hr11
      have z11 := Sld.le hr12
      have st := st.addK (kS Ar12 ((((oapply_m (to14_m s) ((oprepare_m (to14_m s) (op14_m o) tag (⟨1048576, 7⟩ : StampM)).1)).1).map).gone).length cr12 3 (((((oapply_m (to14_m s) ((oprepare_m (to14_m s) (op14_m o) tag (⟨1048576, 7⟩ : StampM)).1)).1).map).gone).flatMap tagMC)) hr12
      have st : St X w20 [_, _, _, _, _, _, _] [_, _, _, _, _, _, _, _, _, _, _, _, _, _, _, _, _] := st
      refine Lm rfl (Lx rfl (Lx rfl (La rfl (Sal Ty.zc_57 st hF rfl fun g7 w21 (st : St _ _ [_, _, _, _, _, _, _, _] _) hF hg6 => La rfl (Ssw 7 Ty.sz_57 st hF (.inr hg6) rfl fun w22 (st : St _ _ [_, _, _, _, _, _, _, _] _) hF => Ls' rfl (Ln k20 (sq fun _ k21 => sq fun _ k22 => rg (Lm rfl (Ly rfl (yne rfl) (Ln k22 (cN rfl (fun hc9 => ?_) (fun hc9 => ?_))))))))))))
      · refine sq fun _ k23 => rg (Ls' rfl (Ln k23 (wR (Th_r (fR (Res1 rfl rfl) ?_)))))
        exact ⟨rfl, hF⟩
      have haf := aft_of hbk hc9 ⟨kc1, kc2, kc3, kc4⟩
      obtain ⟨kd1, kd2, kd3, kd4⟩ := haf.small
      refine sk k21 (sq fun _ k24 => rg (Ly rfl (yw 7 Ty.ag_57 st rfl) (La rfl (a_call rfl rfl rfl rfl (osay_ok (keys (hOf st) ++ X) _ st.Lo ((oapply_m (to14_m s) ((oprepare_m (to14_m s) (op14_m o) tag (⟨1048576, 7⟩ : StampM)).1)).1) Ar9 cr9 Ar10 cr10 Ar11 cr11 Ar12 cr12 (st.q 13 rfl) (st.q 14 rfl) (st.q 15 rfl) (st.q 16 rfl) (by omega) (by omega) (by omega) (by omega)) (fun v w23 ⟨Ar13, cr13, hv, hr13, hf⟩ => ?_)))))
      subst hv
      have st := st.keep0 hf
      have hF := hF.step0 hf
      have z12 := Sld.le hr13
      have st := st.addK (kS Ar13 ((osay_m ((oapply_m (to14_m s) ((oprepare_m (to14_m s) (op14_m o) tag (⟨1048576, 7⟩ : StampM)).1)).1)).items).length cr13 2 (((osay_m ((oapply_m (to14_m s) ((oprepare_m (to14_m s) (op14_m o) tag (⟨1048576, 7⟩ : StampM)).1)).1)).items).flatMap itemMC)) hr13
      have st : St X w23 [_, _, _, _, _, _, _, _] [_, _, _, _, _, _, _, _, _, _, _, _, _, _, _, _, _, _] := st
      refine La rfl (Sal Ty.zc_77 st hF rfl fun g8 w24 (st : St _ _ [_, _, _, _, _, _, _, _, _] _) hF hg7 => La rfl (Ssw 8 Ty.sz_77 st hF (.inr hg7) rfl fun w25 (st : St _ _ [_, _, _, _, _, _, _, _, _] _) hF => Ln k24 (sq fun _ k25 => sq fun _ k26 => rg (Ly rfl (yf rfl Ty.fo_39_0) (Ly rfl (yl 1 Ty.pl_3 st rfl) (Ln k26 (Wp_block (sq fun _ k27 => rg (Ly rfl (yeq rfl) (Ls' rfl (Ln k27 (cE rfl (fun hc10 => ?_) (fun hc10 => ?_)))))))))))))
      · refine sq fun _ k28 => rg (Ly rfl (yf rfl Ty.fo_77_1) (Ly rfl (yl 8 Ty.pl_2 st rfl) (Ly rfl (yf rfl Ty.fo_39_2) (Ly rfl (yl 1 Ty.pl_2 st rfl) (Ly rfl (yeq rfl) (Lm rfl (bE (s := 92) rfl (fun hc11 => ?_) (fun hc11 => ?_))))))))
        · refine LsF rfl (LsF rfl (LsF rfl (LsF rfl (LsF rfl (Ly rfl (yT rfl) (Ls' rfl (Ln k28 (wR (Ib_r (Th_r (fR (Res1 rfl rfl) ?_)))))))))))
          exact ⟨rfl, hF⟩
        refine LyT rfl (yf rfl Ty.fo_37_1) (LyT rfl (yf rfl Ty.fo_26_1) (LyT rfl (yf rfl Ty.fo_24_0) (LyT rfl (yl 0 Ty.pl_22 st rfl) (LyT rfl (yeq rfl) (Ly rfl (yF rfl) (Ls' rfl (Ln k28 (wR (Ib_r (Th_r (fR (Res1 rfl rfl) ?_)))))))))))
        have hres : (s.reg.atF.time == 1048576) = true := by
          first
          | (rcases haf.set (by assumption) with q | q
             · exact absurd q (by assumption)
             · exact beq_iff_eq.2 q)
          | exact beq_iff_eq.2 (haf.count (by assumption)).1
        rw [hres]
        exact ⟨rfl, hF⟩
      refine sq fun _ k29 => rg (Ly rfl (yeq rfl) (Ls' rfl (Ln k29 (cE rfl (fun hc12 => ?_) (fun hc12 => ?_)))))
      · obtain ⟨_, kt1, kt2, kt3, kt4⟩ := haf.count hc12
        have kt5 : (op14_m o).val = o.val := rfl
        refine sq fun _ k30 => ?_
        refine Wp_plan (fun W => St X W (pickL (hOf st) [0, 1, 2, 3, 4, 5, 6, 7, 8]) (kOf st)) [(true, 0), (true, 1), (true, 2), (true, 5), (true, 6), (false, 3), (true, 4), (true, 7), (true, 8), (true, 9)] Ty.mx_0 (by kernel_rfl) (by kernel_rfl) rfl ((st.pk [0, 1, 2, 3, 4, 5, 6, 7, 8] (by decide)).drew) ?_
        have st := st.drew
        have hF := hF.step0 (Fr.drew _)
        refine Py rfl (yf rfl Ty.fo_77_1) (Py rfl (y_load (i := 8) rfl rfl Ty.pl_2 (fun _ h => h.hp) rfl rfl) (Py rfl (y_loadw (i := 3) rfl rfl Ty.ag_57 (fun _ h => h.hp) rfl rfl) (Py rfl (yf rfl Ty.fo_39_2) (Py rfl (y_load (i := 1) rfl rfl Ty.pl_2 (fun _ h => h.hp) rfl rfl) (Pl_a rfl (wtd0 rfl) (by rfl) ?_)))))
        refine a_call rfl rfl rfl rfl (osay_ok (keys (hOf st) ++ X) _ st.Lo (to14_m s) Ar1 cr1 Ar2 cr2 Ar3 cr3 Ar4 cr4 (st.q 5 rfl) (st.q 6 rfl) (st.q 7 rfl) (st.q 8 rfl) (by omega) (by omega) (by omega) (by omega)) (fun v w26 ⟨Ar14, cr14, hv, hr14, hf⟩ => ?_)
        subst hv
        have st := st.keep0 hf
        have hF := hF.step0 hf
        have z13 := Sld.le hr14
        have st := st.addK (kS Ar14 ((osay_m (to14_m s)).items).length cr14 2 (((osay_m (to14_m s)).items).flatMap itemMC)) hr14
        have st : St X w26 [_, _, _, _, _, _, _, _, _] [_, _, _, _, _, _, _, _, _, _, _, _, _, _, _, _, _, _, _] := st
        refine ⟨(st.pk [0, 1, 2, 3, 4, 5, 6, 7, 8] (by decide)).tK 18, ?_⟩
        refine Py rfl (y_field rfl rfl Ty.fo_77_1 rfl Ty.pl_2 rfl) (Py rfl (y_add (c := ((osay_m (to14_m s)).val) + o.val) rfl rfl rfl (wf_i64 (by first | omega | (simp; done) | (simp; omega)))) ?_)
        refine Py rfl (yeq rfl) (Py rfl (y_assign rfl rfl) (Pl_nil (Th_n (k30 _ _ (wR (Ib_r (Th_r (fR (Res1 rfl rfl) ?_))))))))
        have hres : (((osay_m ((oapply_m (to14_m s) ((oprepare_m (to14_m s) (op14_m o) tag (⟨1048576, 7⟩ : StampM)).1)).1)).val) == (((osay_m (to14_m s)).val) + o.val)) = true := by
          first
          | (rcases haf.set (by assumption) with q | q
             · exact absurd q (by assumption)
             · exact beq_iff_eq.2 q)
          | exact beq_iff_eq.2 (haf.count (by assumption)).1
        rw [hres]
        exact ⟨rfl, hF⟩
      refine sq fun _ k31 => sq fun _ k32 => rg (Ly rfl (yeq rfl) (Ls' rfl (Ln k32 (cE rfl (fun hc13 => ?_) (fun hc13 => ?_)))))
      · have kgo := haf.gone (.inl hc13)
        refine sk k31 (Wp_cond rfl (fun _ => ?_) (fun hc14 => absurd hc14 (by simp [hc13])))
        refine sq fun _ k33 => rg (Ls' rfl (Ln k33 (Wp_block ?_)))
        refine lp (fun q E W => ∃ (s18 : Int), E = [(5, .pointer (some ⟨g2, 0, none⟩)), (17, .pointer (some ⟨g8, 0, none⟩)), (18, .int .i64 s18)] ∧ jq q (fun m => (((((osay_m ((oapply_m (to14_m s) ((oprepare_m (to14_m s) (op14_m o) tag (⟨1048576, 7⟩ : StampM)).1)).1)).items).length : Int) - s18).toNat < m)) (True) ∧ (0 ≤ s18 ∧ True) ∧ St X W [(some g1, Cl [.int .i64 s.kind, .int .i64 s.reg.val, .int .u32 s.reg.atF.time, .int .i64 s.reg.atF.origin, .int .i64 s.num.plus, .int .i64 s.num.minus, .slice A1 s.setF.adds.length C1, .slice A2 s.setF.gone.length C2, .slice A4 s.map.puts.length C4, .slice A3 s.map.gone.length C3] 37), (some g2, Cl [.int .i64 o.act, sv o.name, .int .i64 o.val] 39), (some g3, Cl [.int .i64 tag.id.origin, .int .u32 tag.id.seq, .int .i64 tag.n] 43), (some g4, Cl [.int .i64 ((to14_m s).kind), .int .i64 (((to14_m s).reg).val), .int .u32 (((to14_m s).reg).atF.time), .int .i64 (((to14_m s).reg).atF.origin), .int .i64 (((to14_m s).num).plus), .int .i64 (((to14_m s).num).minus), .slice Ar1 ((((to14_m s).setF).adds).length) cr1, .slice Ar2 ((((to14_m s).setF).gone).length) cr2, .slice Ar3 ((((to14_m s).map).puts).length) cr3, .slice Ar4 ((((to14_m s).map).gone).length) cr4] 57), (some g5, Cl [.int .i64 (((oprepare_m (to14_m s) (op14_m o) tag (⟨1048576, 7⟩ : StampM)).1).act), sv (((oprepare_m (to14_m s) (op14_m o) tag (⟨1048576, 7⟩ : StampM)).1).name), .int .i64 (((oprepare_m (to14_m s) (op14_m o) tag (⟨1048576, 7⟩ : StampM)).1).val), .int .i64 ((((oprepare_m (to14_m s) (op14_m o) tag (⟨1048576, 7⟩ : StampM)).1).tag).id.origin), .int .u32 ((((oprepare_m (to14_m s) (op14_m o) tag (⟨1048576, 7⟩ : StampM)).1).tag).id.seq), .int .i64 ((((oprepare_m (to14_m s) (op14_m o) tag (⟨1048576, 7⟩ : StampM)).1).tag).n), .int .u32 ((((oprepare_m (to14_m s) (op14_m o) tag (⟨1048576, 7⟩ : StampM)).1).atF).time), .int .i64 ((((oprepare_m (to14_m s) (op14_m o) tag (⟨1048576, 7⟩ : StampM)).1).atF).origin), .slice Ar5 ((((oprepare_m (to14_m s) (op14_m o) tag (⟨1048576, 7⟩ : StampM)).1).tags).length) cr5] 59), (some g6, Cl (rdC q2 ((oread_m (rnew_m (((owrite_m ((oprepare_m (to14_m s) (op14_m o) tag (⟨1048576, 7⟩ : StampM)).1)).1) ++ more))).2)) 110), (q2, Cl (ftC ((oread_m (rnew_m (((owrite_m ((oprepare_m (to14_m s) (op14_m o) tag (⟨1048576, 7⟩ : StampM)).1)).1) ++ more))).2)) 163), (some g7, Cl [.int .i64 (((oapply_m (to14_m s) ((oprepare_m (to14_m s) (op14_m o) tag (⟨1048576, 7⟩ : StampM)).1)).1).kind), .int .i64 ((((oapply_m (to14_m s) ((oprepare_m (to14_m s) (op14_m o) tag (⟨1048576, 7⟩ : StampM)).1)).1).reg).val), .int .u32 ((((oapply_m (to14_m s) ((oprepare_m (to14_m s) (op14_m o) tag (⟨1048576, 7⟩ : StampM)).1)).1).reg).atF.time), .int .i64 ((((oapply_m (to14_m s) ((oprepare_m (to14_m s) (op14_m o) tag (⟨1048576, 7⟩ : StampM)).1)).1).reg).atF.origin), .int .i64 ((((oapply_m (to14_m s) ((oprepare_m (to14_m s) (op14_m o) tag (⟨1048576, 7⟩ : StampM)).1)).1).num).plus), .int .i64 ((((oapply_m (to14_m s) ((oprepare_m (to14_m s) (op14_m o) tag (⟨1048576, 7⟩ : StampM)).1)).1).num).minus), .slice Ar9 (((((oapply_m (to14_m s) ((oprepare_m (to14_m s) (op14_m o) tag (⟨1048576, 7⟩ : StampM)).1)).1).setF).adds).length) cr9, .slice Ar10 (((((oapply_m (to14_m s) ((oprepare_m (to14_m s) (op14_m o) tag (⟨1048576, 7⟩ : StampM)).1)).1).setF).gone).length) cr10, .slice Ar11 (((((oapply_m (to14_m s) ((oprepare_m (to14_m s) (op14_m o) tag (⟨1048576, 7⟩ : StampM)).1)).1).map).puts).length) cr11, .slice Ar12 (((((oapply_m (to14_m s) ((oprepare_m (to14_m s) (op14_m o) tag (⟨1048576, 7⟩ : StampM)).1)).1).map).gone).length) cr12] 57), (some g8, Cl [.int .i64 ((osay_m ((oapply_m (to14_m s) ((oprepare_m (to14_m s) (op14_m o) tag (⟨1048576, 7⟩ : StampM)).1)).1)).kind), .int .i64 ((osay_m ((oapply_m (to14_m s) ((oprepare_m (to14_m s) (op14_m o) tag (⟨1048576, 7⟩ : StampM)).1)).1)).val), .slice Ar13 (((osay_m ((oapply_m (to14_m s) ((oprepare_m (to14_m s) (op14_m o) tag (⟨1048576, 7⟩ : StampM)).1)).1)).items).length) cr13] 77)] [kS A1 s.setF.adds.length C1 4 (s.setF.adds.flatMap addMC), kS A2 s.setF.gone.length C2 3 (s.setF.gone.flatMap tagMC), kS A4 s.map.puts.length C4 7 (s.map.puts.flatMap putMC), kS A3 s.map.gone.length C3 3 (s.map.gone.flatMap tagMC), kS none ([] : List TagM).length 0 3 (([] : List TagM).flatMap tagMC), kS Ar1 (((to14_m s).setF).adds).length cr1 4 ((((to14_m s).setF).adds).flatMap addMC), kS Ar2 (((to14_m s).setF).gone).length cr2 3 ((((to14_m s).setF).gone).flatMap tagMC), kS Ar3 (((to14_m s).map).puts).length cr3 7 ((((to14_m s).map).puts).flatMap putMC), kS Ar4 (((to14_m s).map).gone).length cr4 3 ((((to14_m s).map).gone).flatMap tagMC), kS Ar5 (((oprepare_m (to14_m s) (op14_m o) tag (⟨1048576, 7⟩ : StampM)).1).tags).length cr5 3 ((((oprepare_m (to14_m s) (op14_m o) tag (⟨1048576, 7⟩ : StampM)).1).tags).flatMap tagMC), kS Ar6 (((oread_m (rnew_m (((owrite_m ((oprepare_m (to14_m s) (op14_m o) tag (⟨1048576, 7⟩ : StampM)).1)).1) ++ more))).1).tags).length cr6 3 ((((oread_m (rnew_m (((owrite_m ((oprepare_m (to14_m s) (op14_m o) tag (⟨1048576, 7⟩ : StampM)).1)).1) ++ more))).1).tags).flatMap tagMC), kS Ar7 ((fromEff_m ((oread_m (rnew_m (((owrite_m ((oprepare_m (to14_m s) (op14_m o) tag (⟨1048576, 7⟩ : StampM)).1)).1) ++ more))).1)).tags).length cr7 3 (((fromEff_m ((oread_m (rnew_m (((owrite_m ((oprepare_m (to14_m s) (op14_m o) tag (⟨1048576, 7⟩ : StampM)).1)).1) ++ more))).1)).tags).flatMap tagMC), kS Ar8 ((fromEff_m ((oprepare_m (to14_m s) (op14_m o) tag (⟨1048576, 7⟩ : StampM)).1)).tags).length cr8 3 (((fromEff_m ((oprepare_m (to14_m s) (op14_m o) tag (⟨1048576, 7⟩ : StampM)).1)).tags).flatMap tagMC), kS Ar9 ((((oapply_m (to14_m s) ((oprepare_m (to14_m s) (op14_m o) tag (⟨1048576, 7⟩ : StampM)).1)).1).setF).adds).length cr9 4 (((((oapply_m (to14_m s) ((oprepare_m (to14_m s) (op14_m o) tag (⟨1048576, 7⟩ : StampM)).1)).1).setF).adds).flatMap addMC), kS Ar10 ((((oapply_m (to14_m s) ((oprepare_m (to14_m s) (op14_m o) tag (⟨1048576, 7⟩ : StampM)).1)).1).setF).gone).length cr10 3 (((((oapply_m (to14_m s) ((oprepare_m (to14_m s) (op14_m o) tag (⟨1048576, 7⟩ : StampM)).1)).1).setF).gone).flatMap tagMC), kS Ar11 ((((oapply_m (to14_m s) ((oprepare_m (to14_m s) (op14_m o) tag (⟨1048576, 7⟩ : StampM)).1)).1).map).puts).length cr11 7 (((((oapply_m (to14_m s) ((oprepare_m (to14_m s) (op14_m o) tag (⟨1048576, 7⟩ : StampM)).1)).1).map).puts).flatMap putMC), kS Ar12 ((((oapply_m (to14_m s) ((oprepare_m (to14_m s) (op14_m o) tag (⟨1048576, 7⟩ : StampM)).1)).1).map).gone).length cr12 3 (((((oapply_m (to14_m s) ((oprepare_m (to14_m s) (op14_m o) tag (⟨1048576, 7⟩ : StampM)).1)).1).map).gone).flatMap tagMC), kS Ar13 ((osay_m ((oapply_m (to14_m s) ((oprepare_m (to14_m s) (op14_m o) tag (⟨1048576, 7⟩ : StampM)).1)).1)).items).length cr13 2 (((osay_m ((oapply_m (to14_m s) ((oprepare_m (to14_m s) (op14_m o) tag (⟨1048576, 7⟩ : StampM)).1)).1)).items).flatMap itemMC)] ∧ Fr ([]) w W) (((((osay_m ((oapply_m (to14_m s) ((oprepare_m (to14_m s) (op14_m o) tag (⟨1048576, 7⟩ : StampM)).1)).1)).items).length : Int) - (0 : Int)).toNat + 1) [(5, _), (17, _), (18, _)] ⟨rfl, rfl, rfl, trivial⟩ ⟨_, rfl, Nat.lt_succ_self _, by first | omega | (simp; done) | (simp; omega), st, hF⟩ k25 ?_ fun hout1 => ?_
        · rintro E w27 ⟨s18, rfl, _, hinv, st, hF⟩
          refine sq fun _ k34 => rg (Ls' rfl (Ln k34 (wR (fR (Res1 rfl rfl) ?_))))
          exact ⟨rfl, hF⟩
        rintro m E w28 ⟨s18, rfl, hmu, hinv, st, hF⟩
        unfold jq at hmu; dsimp only at hmu
        obtain ⟨fuel, rfl⟩ : ∃ q, m = q + 1 := ⟨m - 1, by omega⟩
        refine sq fun _ k35 => sq fun _ k36 => rg (Lm rfl (Ly rfl (yf rfl Ty.fo_77_2) (Ly rfl (yl 8 Ty.pl_75 st rfl) (Ly rfl (yll rfl Tryz.underlying75) (Ly rfl (ylt rfl) (Ln k36 (cD rfl (fun hc15 => ?_) (fun hc15 => ?_))))))))
        · refine sk k35 (sq fun _ k37 => Wp_block (sq fun _ k38 => ?_))
          refine Wp_plan (fun W => St X W (pickL (hOf st) [0, 1, 2, 3, 4, 5, 6, 7, 8]) (kOf st)) [(true, 0), (true, 1), (true, 2), (true, 3), (true, 4), (true, 5), (true, 6), (true, 7), (true, 8)] Ty.mx_0 (by kernel_rfl) (by kernel_rfl) rfl ((st.pk [0, 1, 2, 3, 4, 5, 6, 7, 8] (by decide)).drew) ?_
          have st := st.drew
          have hF := hF.step0 (Fr.drew _)
          refine Py rfl (yf rfl Ty.fo_77_2) (Py rfl (y_load (i := 8) rfl rfl Ty.pl_75 (fun _ h => h.hp) rfl rfl) (Pm rfl ?_))
          obtain ⟨gi1, bi1, egi1⟩ := (st.k (i := 17) rfl).addr (fun _ => rfl) (by decide) (q := s18) (by first | omega | (simp; done) | (simp; omega)) (by first | omega | (simp; done) | (simp; omega))
          subst egi1
          refine Py rfl (y_ixa (q := s18) rfl rfl rfl Ty.es_75 (by first | omega | (simp; done) | (simp; omega)) (by first | omega | (simp; done) | (simp; omega))) ?_
          refine Py rfl (yf rfl Ty.fo_80_0) (Py rfl (y_ldk1 (q := s18) 0 rfl rfl Ty.pl_9 (fun _ h => h.k (i := 17) rfl) (fun _ => rfl) (by first | omega | (simp; done) | (simp; omega)) (by first | omega | (simp; done) | (simp; omega)) rfl) ?_)
          refine Py rfl (yf rfl Ty.fo_39_1) (Py rfl (y_load (i := 1) rfl rfl Ty.pl_9 (fun _ h => h.hp) rfl rfl) (Py rfl (y_eqs rfl rfl rfl) (Pl_nil (Th_n (k38 _ _ (cE rfl (fun hc16 => ?_) (fun hc16 => ?_)))))))
          · have kx := kgo _ (ix_memI _ (by omega) (by omega)) hc16
            refine sq fun _ k39 => rg (Ls' rfl (Ln k39 (wR (Ib_r (Th_r (Th_r (Ib_r (Ib_r (Th_r (fR (Res1 rfl rfl) ?_))))))))))
            exfalso
            first | omega | contradiction | simp_all
          refine Wp_skip (Ib_n (Th_n (k37 _ _ (rg (Lm rfl (Ly rfl (y_add (c := s18 + 1) rfl rfl rfl (wf_i64 (by first | omega | (simp; done) | (simp; omega)))) ?_))))))
          refine Ls' rfl (Ls_nil (Th_n (?_)))
          exact ⟨fuel, [(5, _), (17, _), (18, _)], Nat.lt_succ_self _, ⟨rfl, rfl, rfl, trivial⟩, (s18 + 1), rfl, show _ < _ by first | omega | (simp; done) | (simp; omega), by first | omega | (simp; done) | (simp; omega), (st.pk [0, 1, 2, 3, 4, 5, 6, 7, 8] (by decide)).pickK [0, 1, 2, 3, 4, 5, 6, 7, 8, 9, 10, 11, 12, 13, 14, 15, 16, 17], hF⟩
        refine Wp_exit (Th_e (Th_e (Ib_hit (Ib_n (Th_n (?_))))))
        exact hout1 _ [(5, _), (17, _), (18, _)] _ ⟨rfl, rfl, rfl, trivial⟩ ⟨s18, rfl, trivial, by first | omega | (simp; done) | (simp; omega), (st.pk [0, 1, 2, 3, 4, 5, 6, 7, 8] (by decide)).pickK [0, 1, 2, 3, 4, 5, 6, 7, 8, 9, 10, 11, 12, 13, 14, 15, 16, 17], hF⟩
      refine rg (Ly rfl (yeq rfl) (Ls' rfl (Ln k31 (cE rfl (fun hc17 => ?_) (fun hc17 => ?_)))))
      · have kgo := haf.gone (.inr hc17)
        refine sq fun _ k40 => rg (Ls' rfl (Ln k40 (Wp_block ?_)))
        refine lp (fun q E W => ∃ (s18 : Int), E = [(5, .pointer (some ⟨g2, 0, none⟩)), (17, .pointer (some ⟨g8, 0, none⟩)), (18, .int .i64 s18)] ∧ jq q (fun m => (((((osay_m ((oapply_m (to14_m s) ((oprepare_m (to14_m s) (op14_m o) tag (⟨1048576, 7⟩ : StampM)).1)).1)).items).length : Int) - s18).toNat < m)) (True) ∧ (0 ≤ s18) ∧ St X W [(some g1, Cl [.int .i64 s.kind, .int .i64 s.reg.val, .int .u32 s.reg.atF.time, .int .i64 s.reg.atF.origin, .int .i64 s.num.plus, .int .i64 s.num.minus, .slice A1 s.setF.adds.length C1, .slice A2 s.setF.gone.length C2, .slice A4 s.map.puts.length C4, .slice A3 s.map.gone.length C3] 37), (some g2, Cl [.int .i64 o.act, sv o.name, .int .i64 o.val] 39), (some g3, Cl [.int .i64 tag.id.origin, .int .u32 tag.id.seq, .int .i64 tag.n] 43), (some g4, Cl [.int .i64 ((to14_m s).kind), .int .i64 (((to14_m s).reg).val), .int .u32 (((to14_m s).reg).atF.time), .int .i64 (((to14_m s).reg).atF.origin), .int .i64 (((to14_m s).num).plus), .int .i64 (((to14_m s).num).minus), .slice Ar1 ((((to14_m s).setF).adds).length) cr1, .slice Ar2 ((((to14_m s).setF).gone).length) cr2, .slice Ar3 ((((to14_m s).map).puts).length) cr3, .slice Ar4 ((((to14_m s).map).gone).length) cr4] 57), (some g5, Cl [.int .i64 (((oprepare_m (to14_m s) (op14_m o) tag (⟨1048576, 7⟩ : StampM)).1).act), sv (((oprepare_m (to14_m s) (op14_m o) tag (⟨1048576, 7⟩ : StampM)).1).name), .int .i64 (((oprepare_m (to14_m s) (op14_m o) tag (⟨1048576, 7⟩ : StampM)).1).val), .int .i64 ((((oprepare_m (to14_m s) (op14_m o) tag (⟨1048576, 7⟩ : StampM)).1).tag).id.origin), .int .u32 ((((oprepare_m (to14_m s) (op14_m o) tag (⟨1048576, 7⟩ : StampM)).1).tag).id.seq), .int .i64 ((((oprepare_m (to14_m s) (op14_m o) tag (⟨1048576, 7⟩ : StampM)).1).tag).n), .int .u32 ((((oprepare_m (to14_m s) (op14_m o) tag (⟨1048576, 7⟩ : StampM)).1).atF).time), .int .i64 ((((oprepare_m (to14_m s) (op14_m o) tag (⟨1048576, 7⟩ : StampM)).1).atF).origin), .slice Ar5 ((((oprepare_m (to14_m s) (op14_m o) tag (⟨1048576, 7⟩ : StampM)).1).tags).length) cr5] 59), (some g6, Cl (rdC q2 ((oread_m (rnew_m (((owrite_m ((oprepare_m (to14_m s) (op14_m o) tag (⟨1048576, 7⟩ : StampM)).1)).1) ++ more))).2)) 110), (q2, Cl (ftC ((oread_m (rnew_m (((owrite_m ((oprepare_m (to14_m s) (op14_m o) tag (⟨1048576, 7⟩ : StampM)).1)).1) ++ more))).2)) 163), (some g7, Cl [.int .i64 (((oapply_m (to14_m s) ((oprepare_m (to14_m s) (op14_m o) tag (⟨1048576, 7⟩ : StampM)).1)).1).kind), .int .i64 ((((oapply_m (to14_m s) ((oprepare_m (to14_m s) (op14_m o) tag (⟨1048576, 7⟩ : StampM)).1)).1).reg).val), .int .u32 ((((oapply_m (to14_m s) ((oprepare_m (to14_m s) (op14_m o) tag (⟨1048576, 7⟩ : StampM)).1)).1).reg).atF.time), .int .i64 ((((oapply_m (to14_m s) ((oprepare_m (to14_m s) (op14_m o) tag (⟨1048576, 7⟩ : StampM)).1)).1).reg).atF.origin), .int .i64 ((((oapply_m (to14_m s) ((oprepare_m (to14_m s) (op14_m o) tag (⟨1048576, 7⟩ : StampM)).1)).1).num).plus), .int .i64 ((((oapply_m (to14_m s) ((oprepare_m (to14_m s) (op14_m o) tag (⟨1048576, 7⟩ : StampM)).1)).1).num).minus), .slice Ar9 (((((oapply_m (to14_m s) ((oprepare_m (to14_m s) (op14_m o) tag (⟨1048576, 7⟩ : StampM)).1)).1).setF).adds).length) cr9, .slice Ar10 (((((oapply_m (to14_m s) ((oprepare_m (to14_m s) (op14_m o) tag (⟨1048576, 7⟩ : StampM)).1)).1).setF).gone).length) cr10, .slice Ar11 (((((oapply_m (to14_m s) ((oprepare_m (to14_m s) (op14_m o) tag (⟨1048576, 7⟩ : StampM)).1)).1).map).puts).length) cr11, .slice Ar12 (((((oapply_m (to14_m s) ((oprepare_m (to14_m s) (op14_m o) tag (⟨1048576, 7⟩ : StampM)).1)).1).map).gone).length) cr12] 57), (some g8, Cl [.int .i64 ((osay_m ((oapply_m (to14_m s) ((oprepare_m (to14_m s) (op14_m o) tag (⟨1048576, 7⟩ : StampM)).1)).1)).kind), .int .i64 ((osay_m ((oapply_m (to14_m s) ((oprepare_m (to14_m s) (op14_m o) tag (⟨1048576, 7⟩ : StampM)).1)).1)).val), .slice Ar13 (((osay_m ((oapply_m (to14_m s) ((oprepare_m (to14_m s) (op14_m o) tag (⟨1048576, 7⟩ : StampM)).1)).1)).items).length) cr13] 77)] [kS A1 s.setF.adds.length C1 4 (s.setF.adds.flatMap addMC), kS A2 s.setF.gone.length C2 3 (s.setF.gone.flatMap tagMC), kS A4 s.map.puts.length C4 7 (s.map.puts.flatMap putMC), kS A3 s.map.gone.length C3 3 (s.map.gone.flatMap tagMC), kS none ([] : List TagM).length 0 3 (([] : List TagM).flatMap tagMC), kS Ar1 (((to14_m s).setF).adds).length cr1 4 ((((to14_m s).setF).adds).flatMap addMC), kS Ar2 (((to14_m s).setF).gone).length cr2 3 ((((to14_m s).setF).gone).flatMap tagMC), kS Ar3 (((to14_m s).map).puts).length cr3 7 ((((to14_m s).map).puts).flatMap putMC), kS Ar4 (((to14_m s).map).gone).length cr4 3 ((((to14_m s).map).gone).flatMap tagMC), kS Ar5 (((oprepare_m (to14_m s) (op14_m o) tag (⟨1048576, 7⟩ : StampM)).1).tags).length cr5 3 ((((oprepare_m (to14_m s) (op14_m o) tag (⟨1048576, 7⟩ : StampM)).1).tags).flatMap tagMC), kS Ar6 (((oread_m (rnew_m (((owrite_m ((oprepare_m (to14_m s) (op14_m o) tag (⟨1048576, 7⟩ : StampM)).1)).1) ++ more))).1).tags).length cr6 3 ((((oread_m (rnew_m (((owrite_m ((oprepare_m (to14_m s) (op14_m o) tag (⟨1048576, 7⟩ : StampM)).1)).1) ++ more))).1).tags).flatMap tagMC), kS Ar7 ((fromEff_m ((oread_m (rnew_m (((owrite_m ((oprepare_m (to14_m s) (op14_m o) tag (⟨1048576, 7⟩ : StampM)).1)).1) ++ more))).1)).tags).length cr7 3 (((fromEff_m ((oread_m (rnew_m (((owrite_m ((oprepare_m (to14_m s) (op14_m o) tag (⟨1048576, 7⟩ : StampM)).1)).1) ++ more))).1)).tags).flatMap tagMC), kS Ar8 ((fromEff_m ((oprepare_m (to14_m s) (op14_m o) tag (⟨1048576, 7⟩ : StampM)).1)).tags).length cr8 3 (((fromEff_m ((oprepare_m (to14_m s) (op14_m o) tag (⟨1048576, 7⟩ : StampM)).1)).tags).flatMap tagMC), kS Ar9 ((((oapply_m (to14_m s) ((oprepare_m (to14_m s) (op14_m o) tag (⟨1048576, 7⟩ : StampM)).1)).1).setF).adds).length cr9 4 (((((oapply_m (to14_m s) ((oprepare_m (to14_m s) (op14_m o) tag (⟨1048576, 7⟩ : StampM)).1)).1).setF).adds).flatMap addMC), kS Ar10 ((((oapply_m (to14_m s) ((oprepare_m (to14_m s) (op14_m o) tag (⟨1048576, 7⟩ : StampM)).1)).1).setF).gone).length cr10 3 (((((oapply_m (to14_m s) ((oprepare_m (to14_m s) (op14_m o) tag (⟨1048576, 7⟩ : StampM)).1)).1).setF).gone).flatMap tagMC), kS Ar11 ((((oapply_m (to14_m s) ((oprepare_m (to14_m s) (op14_m o) tag (⟨1048576, 7⟩ : StampM)).1)).1).map).puts).length cr11 7 (((((oapply_m (to14_m s) ((oprepare_m (to14_m s) (op14_m o) tag (⟨1048576, 7⟩ : StampM)).1)).1).map).puts).flatMap putMC), kS Ar12 ((((oapply_m (to14_m s) ((oprepare_m (to14_m s) (op14_m o) tag (⟨1048576, 7⟩ : StampM)).1)).1).map).gone).length cr12 3 (((((oapply_m (to14_m s) ((oprepare_m (to14_m s) (op14_m o) tag (⟨1048576, 7⟩ : StampM)).1)).1).map).gone).flatMap tagMC), kS Ar13 ((osay_m ((oapply_m (to14_m s) ((oprepare_m (to14_m s) (op14_m o) tag (⟨1048576, 7⟩ : StampM)).1)).1)).items).length cr13 2 (((osay_m ((oapply_m (to14_m s) ((oprepare_m (to14_m s) (op14_m o) tag (⟨1048576, 7⟩ : StampM)).1)).1)).items).flatMap itemMC)] ∧ Fr ([]) w W) (((((osay_m ((oapply_m (to14_m s) ((oprepare_m (to14_m s) (op14_m o) tag (⟨1048576, 7⟩ : StampM)).1)).1)).items).length : Int) - (0 : Int)).toNat + 1) [(5, _), (17, _), (18, _)] ⟨rfl, rfl, rfl, trivial⟩ ⟨_, rfl, Nat.lt_succ_self _, by first | omega | (simp; done) | (simp; omega), st, hF⟩ k25 ?_ fun hout2 => ?_
        · rintro E w29 ⟨s18, rfl, _, hinv, st, hF⟩
          refine sq fun _ k41 => rg (Ls' rfl (Ln k41 (wR (fR (Res1 rfl rfl) ?_))))
          exact ⟨rfl, hF⟩
        rintro m E w30 ⟨s18, rfl, hmu, hinv, st, hF⟩
        unfold jq at hmu; dsimp only at hmu
        obtain ⟨fuel, rfl⟩ : ∃ q, m = q + 1 := ⟨m - 1, by omega⟩
        refine sq fun _ k42 => sq fun _ k43 => rg (Lm rfl (Ly rfl (yf rfl Ty.fo_77_2) (Ly rfl (yl 8 Ty.pl_75 st rfl) (Ly rfl (yll rfl Tryz.underlying75) (Ly rfl (ylt rfl) (Ln k43 (cD rfl (fun hc18 => ?_) (fun hc18 => ?_))))))))
        · refine sk k42 (sq fun _ k44 => Wp_block (sq fun _ k45 => ?_))
          refine Wp_plan (fun W => St X W (pickL (hOf st) [0, 1, 2, 3, 4, 5, 6, 7, 8]) (kOf st)) [(true, 0), (true, 1), (true, 2), (true, 3), (true, 4), (true, 5), (true, 6), (true, 7), (true, 8)] Ty.mx_0 (by kernel_rfl) (by kernel_rfl) rfl ((st.pk [0, 1, 2, 3, 4, 5, 6, 7, 8] (by decide)).drew) ?_
          have st := st.drew
          have hF := hF.step0 (Fr.drew _)
          refine Py rfl (yf rfl Ty.fo_77_2) (Py rfl (y_load (i := 8) rfl rfl Ty.pl_75 (fun _ h => h.hp) rfl rfl) (Pm rfl ?_))
          obtain ⟨gi2, bi2, egi2⟩ := (st.k (i := 17) rfl).addr (fun _ => rfl) (by decide) (q := s18) (by first | omega | (simp; done) | (simp; omega)) (by first | omega | (simp; done) | (simp; omega))
          subst egi2
          refine Py rfl (y_ixa (q := s18) rfl rfl rfl Ty.es_75 (by first | omega | (simp; done) | (simp; omega)) (by first | omega | (simp; done) | (simp; omega))) ?_
          refine Py rfl (yf rfl Ty.fo_80_0) (Py rfl (y_ldk1 (q := s18) 0 rfl rfl Ty.pl_9 (fun _ h => h.k (i := 17) rfl) (fun _ => rfl) (by first | omega | (simp; done) | (simp; omega)) (by first | omega | (simp; done) | (simp; omega)) rfl) ?_)
          refine Py rfl (yf rfl Ty.fo_39_1) (Py rfl (y_load (i := 1) rfl rfl Ty.pl_9 (fun _ h => h.hp) rfl rfl) (Py rfl (y_eqs rfl rfl rfl) (Pl_nil (Th_n (k45 _ _ (cE rfl (fun hc19 => ?_) (fun hc19 => ?_)))))))
          · have kx := kgo _ (ix_memI _ (by omega) (by omega)) hc19
            refine sq fun _ k46 => rg (Ls' rfl (Ln k46 (wR (Ib_r (Th_r (Th_r (Ib_r (Ib_r (Th_r (fR (Res1 rfl rfl) ?_))))))))))
            exfalso
            first | omega | contradiction | simp_all
          refine Wp_skip (Ib_n (Th_n (k44 _ _ (rg (Lm rfl (Ly rfl (y_add (c := s18 + 1) rfl rfl rfl (wf_i64 (by first | omega | (simp; done) | (simp; omega)))) ?_))))))
          refine Ls' rfl (Ls_nil (Th_n (?_)))
          exact ⟨fuel, [(5, _), (17, _), (18, _)], Nat.lt_succ_self _, ⟨rfl, rfl, rfl, trivial⟩, (s18 + 1), rfl, show _ < _ by first | omega | (simp; done) | (simp; omega), by first | omega | (simp; done) | (simp; omega), (st.pk [0, 1, 2, 3, 4, 5, 6, 7, 8] (by decide)).pickK [0, 1, 2, 3, 4, 5, 6, 7, 8, 9, 10, 11, 12, 13, 14, 15, 16, 17], hF⟩
        refine Wp_exit (Th_e (Th_e (Ib_hit (Ib_n (Th_n (?_))))))
        exact hout2 _ [(5, _), (17, _), (18, _)] _ ⟨rfl, rfl, rfl, trivial⟩ ⟨s18, rfl, trivial, by first | omega | (simp; done) | (simp; omega), (st.pk [0, 1, 2, 3, 4, 5, 6, 7, 8] (by decide)).pickK [0, 1, 2, 3, 4, 5, 6, 7, 8, 9, 10, 11, 12, 13, 14, 15, 16, 17], hF⟩
      refine Wp_skip (Ib_n (Th_n (k25 _ _ (sq fun _ k47 => rg (Ls' rfl (Ln k47 (wR (fR (Res1 rfl rfl) ?_))))))))
      exact ⟨rfl, hF⟩
    refine Sal Ty.zc_59 st hF rfl fun g9 w31 (st : St _ _ [_, _, _, _, _] _) hF hg8 => ?_
    refine ⟨(st.pk [0, 1, 2, 3] (by decide)).tK 9, ?_⟩
    refine Px_a (i := 5) (by kernel_rfl) rfl (wtd0 rfl) ?_
    refine a_call rfl rfl rfl rfl (oprepare_ok (keys (hOf st) ++ X) _ st.Lo (to14_m s) Ar1 cr1 Ar2 cr2 Ar3 cr3 Ar4 cr4 (op14_m o) tag (⟨1048576, 7⟩ : StampM) (st.q 5 rfl) (st.q 6 rfl) (st.q 7 rfl) (st.q 8 rfl) (by omega) (by omega) (by omega) (by omega)) (fun v w32 ⟨Ar15, cr15, hv, hr15, hf⟩ => ?_)
    subst hv
    have st := st.keep0 hf
    have hF := hF.step0 hf
    have z14 := Sld.le hr15
    have st := st.addK (kS Ar15 (((oprepare_m (to14_m s) (op14_m o) tag (⟨1048576, 7⟩ : StampM)).1).tags).length cr15 3 ((((oprepare_m (to14_m s) (op14_m o) tag (⟨1048576, 7⟩ : StampM)).1).tags).flatMap tagMC)) hr15
    have st : St X w32 [_, _, _, _, _] [_, _, _, _, _, _, _, _, _, _] := st
    refine ⟨(st.pk [0, 1, 2, 3] (by decide)).tK 9, ?_⟩
    refine Px_y (i := 6) rfl (by kernel_rfl) (wtd0 rfl) rfl rfl (y_move rfl rfl) ?_
    refine Px_y (i := 7) rfl (by kernel_rfl) (wtd0 rfl) rfl rfl (y_ext rfl rfl rfl) ?_
    refine Px_y (i := 8) rfl (by kernel_rfl) (wtd0 rfl) rfl rfl (y_ext rfl rfl rfl) ?_
    refine Px_a (i := 10) (by kernel_rfl) rfl (wtd0 rfl) ?_
    refine Ssw 4 Ty.sz_59 st hF (.inr hg8) rfl fun w33 (st : St _ _ [_, _, _, _, _] _) hF => ?_
    refine ⟨(st.pk [0, 1, 2, 3] (by decide)).tK 9, ?_⟩
    refine Px_str (fun W => St X W (hOf st) (kOf st)) (fun _ st => (st.pk [0, 1, 2, 3] (by decide)).tK 9) st ?_
    refine Px_pl [(true, 11)] (by kernel_rfl) (by kernel_rfl) rfl ?_
    refine Py rfl (y_assign rfl rfl) (Pl_nil (Th_n (k10 _ _ (sq fun _ k48 => sq fun _ k49 => rg (Lm rfl (Ly rfl (yne rfl) (Ln k49 (cN rfl (fun hc20 => ?_) (fun hc20 => ?_)))))))))
    · refine sq fun _ k50 => rg (Ls' rfl (Ln k50 (wR (Th_r (fR (Res1 rfl rfl) ?_)))))
      exact ⟨rfl, hF⟩
    have hbk := bk_to (more := more) hc20 hwf kb1 kb3
    have hbl := hbk.l
    have hbn := hbk.n
    have hbt := hbk.tl
    refine sk k48 (sq fun _ k51 => rg (Ly rfl (yw 4 Ty.ag_59 st rfl) (La rfl (Scl st hF rfl (owrite_ok (keys (hOf st) ++ X) _ st.Lo ((oprepare_m (to14_m s) (op14_m o) tag (⟨1048576, 7⟩ : StampM)).1) Ar15 cr15 (st.q 9 rfl) (by omega) (by omega)) fun w34 st hF => ?_))))
    refine Lm rfl (Lx rfl (Lx rfl (Ls' rfl (Ls' rfl (Ln k51 (sq fun _ k52 => sq fun _ k53 => rg (Lm rfl (Ly rfl (yne rfl) (Ln k53 ?_)))))))))
    have hd5 : ((owrite_m ((oprepare_m (to14_m s) (op14_m o) tag (⟨1048576, 7⟩ : StampM)).1)).2) = 0 := by
      rw [hbk.w]
    refine Wp_cond rfl (fun hc21 => absurd hc21 (by first | (simp [hd5]; done) | (rw [hd5]; simp; done) | simpa using hd5)) (fun _ => ?_)
    refine sk k52 (sq fun _ k54 => rg (Lm rfl (Lm rfl (Ly rfl (y_cat rfl rfl rfl (by first | omega | (simp; done) | (simp; omega))) ?_))))
    refine La rfl (a_call rfl rfl rfl rfl (sNew_ok (keys (hOf st) ++ X) _ st.Lo (((owrite_m ((oprepare_m (to14_m s) (op14_m o) tag (⟨1048576, 7⟩ : StampM)).1)).1) ++ more) (by first | omega | (simp; omega))) (fun v w35 ⟨g10, q3, hv, hok3, hN3, hf, hkc3⟩ => ?_))
    subst hv
    have hfo3 : ∀ k ∈ keys [(some g10, Cl (rdC q3 (rnew_m (((owrite_m ((oprepare_m (to14_m s) (op14_m o) tag (⟨1048576, 7⟩ : StampM)).1)).1) ++ more))) 110), (q3, Cl (ftC (rnew_m (((owrite_m ((oprepare_m (to14_m s) (op14_m o) tag (⟨1048576, 7⟩ : StampM)).1)).1) ++ more))) 163)], k ∈ ([]) ∨ w.heap.size ≤ k := fun k hk => .inr (Nat.le_trans hF.size (hkc3 k hk))
    have st := st.callN hN3 hf hkc3
    have hF := hF.step0 hf
    have st : St X w35 [_, _, _, _, _, _, _] [_, _, _, _, _, _, _, _, _, _] := st
    refine Ls' rfl (Ln k54 (sq fun _ k55 => sq fun _ k56 => ?_))
    refine Wp_plan (fun W => St X W (pickL (hOf st) [0, 1, 2, 3, 4]) (kOf st)) [(true, 0), (true, 3), (false, 1), (false, 2), (false, 4), (false, 5), (true, 6), (true, 7), (true, 8), (true, 10), (true, 11), (false, 9), (true, 12), (true, 13)] Ty.mx_0 (by kernel_rfl) (by kernel_rfl) rfl ((st.pk [0, 1, 2, 3, 4] (by decide)).drew) ?_
    have st := st.drew
    have hF := hF.step0 (Fr.drew _)
    refine Pm rfl (Py rfl (y_loadw (i := 4) rfl rfl Ty.ag_59 (fun _ h => h.hp) rfl rfl) (Pl_a rfl (wtd0 rfl) (by rfl) ?_))
    refine a_call rfl rfl rfl rfl (oread_ok (keys (pickL (hOf st) [0, 1, 2, 3, 4]) ++ X) _ g10 q3 (rnew_m (((owrite_m ((oprepare_m (to14_m s) (op14_m o) tag (⟨1048576, 7⟩ : StampM)).1)).1) ++ more)) hok3 (st.sub [0, 1, 2, 3, 4] [5, 6] [] (by decide))) (fun v w36 ⟨Ar16, cr16, q4, hv, hok4, hN4, hfO2, hkc4⟩ => ?_)
    subst hv
    have hfo4 : ∀ k ∈ keys [(some g10, Cl (rdC q4 ((oread_m (rnew_m (((owrite_m ((oprepare_m (to14_m s) (op14_m o) tag (⟨1048576, 7⟩ : StampM)).1)).1) ++ more))).2)) 110), (q4, Cl (ftC ((oread_m (rnew_m (((owrite_m ((oprepare_m (to14_m s) (op14_m o) tag (⟨1048576, 7⟩ : StampM)).1)).1) ++ more))).2)) 163)], k ∈ ([]) ∨ w.heap.size ≤ k := fun k hk => (hkc4 k (hk)).elim (fun h => (kc_app hfo3 (kc_n)) k h) (fun h => .inr (Nat.le_trans hF.size h))
    have st := st.callS [0, 1, 2, 3, 4] [5, 6] (by decide) rfl hN4 hfO2 hkc4
    have hF := hF.step hfO2 (kc_app hfo3 (kc_n))
    have st : St X w36 [_, _, _, _, _, _, _] [_, _, _, _, _, _, _, _, _, _, _] := st
    refine ⟨(st.pk [0, 1, 2, 3, 4] (by decide)).tK 10, ?_⟩
    have z15 := (st.q 10 rfl).le
    refine Pl_a rfl (wtd0 rfl) (by rfl) ?_
    refine a_call rfl rfl rfl rfl (fromEff_ok (keys (hOf st) ++ X) _ st.Lo ((oread_m (rnew_m (((owrite_m ((oprepare_m (to14_m s) (op14_m o) tag (⟨1048576, 7⟩ : StampM)).1)).1) ++ more))).1) Ar16 cr16 (st.q 10 rfl)) (fun v w37 ⟨Ar17, cr17, hv, hr17, hf⟩ => ?_)
    subst hv
    have st := st.keep0 hf
    have hF := hF.step0 hf
    have z16 := Sld.le hr17
    have st := st.addK (kS Ar17 ((fromEff_m ((oread_m (rnew_m (((owrite_m ((oprepare_m (to14_m s) (op14_m o) tag (⟨1048576, 7⟩ : StampM)).1)).1) ++ more))).1)).tags).length cr17 3 (((fromEff_m ((oread_m (rnew_m (((owrite_m ((oprepare_m (to14_m s) (op14_m o) tag (⟨1048576, 7⟩ : StampM)).1)).1) ++ more))).1)).tags).flatMap tagMC)) hr17
    have st : St X w37 [_, _, _, _, _, _, _] [_, _, _, _, _, _, _, _, _, _, _, _] := st
    refine ⟨(st.pk [0, 1, 2, 3, 4] (by decide)).tK 10, ?_⟩
    refine Pl_a rfl (wtd0 rfl) (by rfl) ?_
    refine a_call rfl rfl rfl rfl (fromEff_ok (keys (hOf st) ++ X) _ st.Lo ((oprepare_m (to14_m s) (op14_m o) tag (⟨1048576, 7⟩ : StampM)).1) Ar15 cr15 (st.q 9 rfl)) (fun v w38 ⟨Ar18, cr18, hv, hr18, hf⟩ => ?_)
    subst hv
    have st := st.keep0 hf
    have hF := hF.step0 hf
    have z17 := Sld.le hr18
    have st := st.addK (kS Ar18 ((fromEff_m ((oprepare_m (to14_m s) (op14_m o) tag (⟨1048576, 7⟩ : StampM)).1)).tags).length cr18 3 (((fromEff_m ((oprepare_m (to14_m s) (op14_m o) tag (⟨1048576, 7⟩ : StampM)).1)).tags).flatMap tagMC)) hr18
    have st : St X w38 [_, _, _, _, _, _, _] [_, _, _, _, _, _, _, _, _, _, _, _, _] := st
    refine ⟨(st.pk [0, 1, 2, 3, 4] (by decide)).tK 10, ?_⟩
    refine Pl_a rfl (wtd0 rfl) (by rfl) ?_
    refine Scl st hF rfl (sameEffect_ok (keys (hOf st) ++ X) _ st.Lo (fromEff_m ((oread_m (rnew_m (((owrite_m ((oprepare_m (to14_m s) (op14_m o) tag (⟨1048576, 7⟩ : StampM)).1)).1) ++ more))).1)) Ar17 cr17 (fromEff_m ((oprepare_m (to14_m s) (op14_m o) tag (⟨1048576, 7⟩ : StampM)).1)) Ar18 cr18 (st.q 11 rfl) (st.q 12 rfl)) fun w39 st hF => ?_
    refine ⟨(st.pk [0, 1, 2, 3, 4] (by decide)).tK 10, ?_⟩
    refine Py rfl (yn rfl) (Pm rfl ?_)
    have hd6 : (sameEffect_m (fromEff_m ((oread_m (rnew_m (((owrite_m ((oprepare_m (to14_m s) (op14_m o) tag (⟨1048576, 7⟩ : StampM)).1)).1) ++ more))).1)) (fromEff_m ((oprepare_m (to14_m s) (op14_m o) tag (⟨1048576, 7⟩ : StampM)).1))) = true := by
      exact hbk.same
    refine Pl_bool 66 rfl (fun hc22 => absurd hc22 (by first | (simp [hd6]; done) | (rw [hd6]; simp; done) | simpa using hd6)) (fun _ => ?_)
    refine Pl_y rfl (wtdT rfl rfl rfl) rfl rfl (y_move rfl rfl) (Pl_y rfl (wtdT rfl rfl rfl) rfl rfl (y_move rfl rfl) (Pl_y rfl (wtdT rfl rfl rfl) rfl rfl (y_lens rfl rfl Tryz.underlying9) (Pl_a rfl (wtdT rfl rfl rfl) (by rfl) ?_)))
    refine a_call rfl rfl rfl rfl (sLeft_ok (keys (pickL (hOf st) [0, 1, 2, 3, 4]) ++ X) _ g10 q4 ((oread_m (rnew_m (((owrite_m ((oprepare_m (to14_m s) (op14_m o) tag (⟨1048576, 7⟩ : StampM)).1)).1) ++ more))).2) hok4 (st.sub [0, 1, 2, 3, 4] [5, 6] [] (by decide))) (fun v w40 ⟨hv, hf⟩ => ?_)
    subst hv
    have st := st.keep0 hf
    have hF := hF.step0 hf
    have st : St X w40 [_, _, _, _, _, _, _] [_, _, _, _, _, _, _, _, _, _, _, _, _] := st
    refine ⟨(st.pk [0, 1, 2, 3, 4] (by decide)).tK 10, ?_⟩
    refine Pl_y rfl (wtdT rfl rfl rfl) rfl rfl (yne rfl) (Py rfl (yF rfl) (Pl_nil (Th_n (k56 _ _ ?_))))
    have hd7 : (rleft_m ((oread_m (rnew_m (((owrite_m ((oprepare_m (to14_m s) (op14_m o) tag (⟨1048576, 7⟩ : StampM)).1)).1) ++ more))).2)) = (more.length : Int) := by
      exact hbk.left
    refine Wp_cond rfl (fun hc23 => absurd hc23 (by first | (simp [hd7]; done) | (rw [hd7]; simp; done) | simpa using hd7)) (fun _ => ?_)
    refine sk k55 (sq fun _ k57 => rg (Ly rfl (yw 3 Ty.ag_57 st rfl) (Ly rfl (yw 4 Ty.ag_59 st rfl) (La rfl (a_call rfl rfl rfl rfl (oapply_ok (keys (hOf st) ++ X) _ st.Lo (to14_m s) Ar1 cr1 Ar2 cr2 Ar3 cr3 Ar4 cr4 ((oprepare_m (to14_m s) (op14_m o) tag (⟨1048576, 7⟩ : StampM)).1) Ar15 cr15 (st.q 5 rfl) (st.q 6 rfl) (st.q 7 rfl) (st.q 8 rfl) (st.q 9 rfl) (by omega) (by omega) (by omega) (by omega) (by omega)) (fun v w41 ⟨Ar19, cr19, Ar20, cr20, Ar21, cr21, Ar22, cr22, hv, hr19, hr20, hr21, hr22, hf⟩ => ?_))))))
    subst hv
    have st := st.keep0 hf
    have hF := hF.step0 hf
    have z18 := Sld.le hr19
    have st := st.addK (kS Ar19 ((((oapply_m (to14_m s) ((oprepare_m (to14_m s) (op14_m o) tag (⟨1048576, 7⟩ : StampM)).1)).1).setF).adds).length cr19 4 (((((oapply_m (to14_m s) ((oprepare_m (to14_m s) (op14_m o) tag (⟨1048576, 7⟩ : StampM)).1)).1).setF).adds).flatMap addMC)) hr19
    have z19 := Sld.le hr20
    have st := st.addK (kS Ar20 ((((oapply_m (to14_m s) ((oprepare_m (to14_m s) (op14_m o) tag (⟨1048576, 7⟩ : StampM)).1)).1).setF).gone).length cr20 3 (((((oapply_m (to14_m s) ((oprepare_m (to14_m s) (op14_m o) tag (⟨1048576, 7⟩ : StampM)).1)).1).setF).gone).flatMap tagMC)) hr20
    have z20 := Sld.le hr21
    have st := st.addK (kS Ar21 ((((oapply_m (to14_m s) ((oprepare_m (to14_m s) (op14_m o) tag (⟨1048576, 7⟩ : StampM)).1)).1).map).puts).length cr21 7 (((((oapply_m (to14_m s) ((oprepare_m (to14_m s) (op14_m o) tag (⟨1048576, 7⟩ : StampM)).1)).1).map).puts).flatMap putMC)) hr21
    have z21 := Sld.le hr22
    have st := st.addK (kS Ar22 ((((oapply_m (to14_m s) ((oprepare_m (to14_m s) (op14_m o) tag (⟨1048576, 7⟩ : StampM)).1)).1).map).gone).length cr22 3 (((((oapply_m (to14_m s) ((oprepare_m (to14_m s) (op14_m o) tag (⟨1048576, 7⟩ : StampM)).1)).1).map).gone).flatMap tagMC)) hr22
    have st : St X w41 [_, _, _, _, _, _, _] [_, _, _, _, _, _, _, _, _, _, _, _, _, _, _, _, _] := st
    refine Lm rfl (Lx rfl (Lx rfl (La rfl (Sal Ty.zc_57 st hF rfl fun g11 w42 (st : St _ _ [_, _, _, _, _, _, _, _] _) hF hg9 => La rfl (Ssw 7 Ty.sz_57 st hF (.inr hg9) rfl fun w43 (st : St _ _ [_, _, _, _, _, _, _, _] _) hF => Ls' rfl (Ln k57 (sq fun _ k58 => sq fun _ k59 => rg (Lm rfl (Ly rfl (yne rfl) (Ln k59 (cN rfl (fun hc24 => ?_) (fun hc24 => ?_))))))))))))
    · refine sq fun _ k60 => rg (Ls' rfl (Ln k60 (wR (Th_r (fR (Res1 rfl rfl) ?_)))))
      exact ⟨rfl, hF⟩
    have haf := aft_of hbk hc24 ⟨kc1, kc2, kc3, kc4⟩
    obtain ⟨kd1, kd2, kd3, kd4⟩ := haf.small
    refine sk k58 (sq fun _ k61 => rg (Ly rfl (yw 7 Ty.ag_57 st rfl) (La rfl (a_call rfl rfl rfl rfl (osay_ok (keys (hOf st) ++ X) _ st.Lo ((oapply_m (to14_m s) ((oprepare_m (to14_m s) (op14_m o) tag (⟨1048576, 7⟩ : StampM)).1)).1) Ar19 cr19 Ar20 cr20 Ar21 cr21 Ar22 cr22 (st.q 13 rfl) (st.q 14 rfl) (st.q 15 rfl) (st.q 16 rfl) (by omega) (by omega) (by omega) (by omega)) (fun v w44 ⟨Ar23, cr23, hv, hr23, hf⟩ => ?_)))))
    subst hv
    have st := st.keep0 hf
    have hF := hF.step0 hf
    have z22 := Sld.le hr23
    have st := st.addK (kS Ar23 ((osay_m ((oapply_m (to14_m s) ((oprepare_m (to14_m s) (op14_m o) tag (⟨1048576, 7⟩ : StampM)).1)).1)).items).length cr23 2 (((osay_m ((oapply_m (to14_m s) ((oprepare_m (to14_m s) (op14_m o) tag (⟨1048576, 7⟩ : StampM)).1)).1)).items).flatMap itemMC)) hr23
    have st : St X w44 [_, _, _, _, _, _, _, _] [_, _, _, _, _, _, _, _, _, _, _, _, _, _, _, _, _, _] := st
    refine La rfl (Sal Ty.zc_77 st hF rfl fun g12 w45 (st : St _ _ [_, _, _, _, _, _, _, _, _] _) hF hg10 => La rfl (Ssw 8 Ty.sz_77 st hF (.inr hg10) rfl fun w46 (st : St _ _ [_, _, _, _, _, _, _, _, _] _) hF => Ln k61 (sq fun _ k62 => sq fun _ k63 => rg (Ly rfl (yf rfl Ty.fo_39_0) (Ly rfl (yl 1 Ty.pl_3 st rfl) (Ln k63 (Wp_block (sq fun _ k64 => rg (Ly rfl (yeq rfl) (Ls' rfl (Ln k64 (cE rfl (fun hc25 => ?_) (fun hc25 => ?_)))))))))))))
    · refine sq fun _ k65 => rg (Ly rfl (yf rfl Ty.fo_77_1) (Ly rfl (yl 8 Ty.pl_2 st rfl) (Ly rfl (yf rfl Ty.fo_39_2) (Ly rfl (yl 1 Ty.pl_2 st rfl) (Ly rfl (yeq rfl) (Lm rfl (bE (s := 92) rfl (fun hc26 => ?_) (fun hc26 => ?_))))))))
      · refine LsF rfl (LsF rfl (LsF rfl (LsF rfl (LsF rfl (Ly rfl (yT rfl) (Ls' rfl (Ln k65 (wR (Ib_r (Th_r (fR (Res1 rfl rfl) ?_)))))))))))
        exact ⟨rfl, hF⟩
      refine LyT rfl (yf rfl Ty.fo_37_1) (LyT rfl (yf rfl Ty.fo_26_1) (LyT rfl (yf rfl Ty.fo_24_0) (LyT rfl (yl 0 Ty.pl_22 st rfl) (LyT rfl (yeq rfl) (Ly rfl (yF rfl) (Ls' rfl (Ln k65 (wR (Ib_r (Th_r (fR (Res1 rfl rfl) ?_)))))))))))
      have hres : (s.reg.atF.time == 1048576) = true := by
        first
        | (rcases haf.set (by assumption) with q | q
           · exact absurd q (by assumption)
           · exact beq_iff_eq.2 q)
        | exact beq_iff_eq.2 (haf.count (by assumption)).1
      rw [hres]
      exact ⟨rfl, hF⟩
    refine sq fun _ k66 => rg (Ly rfl (yeq rfl) (Ls' rfl (Ln k66 (cE rfl (fun hc27 => ?_) (fun hc27 => ?_)))))
    · obtain ⟨_, kt1, kt2, kt3, kt4⟩ := haf.count hc27
      have kt5 : (op14_m o).val = o.val := rfl
      refine sq fun _ k67 => ?_
      refine Wp_plan (fun W => St X W (pickL (hOf st) [0, 1, 2, 3, 4, 5, 6, 7, 8]) (kOf st)) [(true, 0), (true, 1), (true, 2), (true, 5), (true, 6), (false, 3), (true, 4), (true, 7), (true, 8), (true, 9)] Ty.mx_0 (by kernel_rfl) (by kernel_rfl) rfl ((st.pk [0, 1, 2, 3, 4, 5, 6, 7, 8] (by decide)).drew) ?_
      have st := st.drew
      have hF := hF.step0 (Fr.drew _)
      refine Py rfl (yf rfl Ty.fo_77_1) (Py rfl (y_load (i := 8) rfl rfl Ty.pl_2 (fun _ h => h.hp) rfl rfl) (Py rfl (y_loadw (i := 3) rfl rfl Ty.ag_57 (fun _ h => h.hp) rfl rfl) (Py rfl (yf rfl Ty.fo_39_2) (Py rfl (y_load (i := 1) rfl rfl Ty.pl_2 (fun _ h => h.hp) rfl rfl) (Pl_a rfl (wtd0 rfl) (by rfl) ?_)))))
      refine a_call rfl rfl rfl rfl (osay_ok (keys (hOf st) ++ X) _ st.Lo (to14_m s) Ar1 cr1 Ar2 cr2 Ar3 cr3 Ar4 cr4 (st.q 5 rfl) (st.q 6 rfl) (st.q 7 rfl) (st.q 8 rfl) (by omega) (by omega) (by omega) (by omega)) (fun v w47 ⟨Ar24, cr24, hv, hr24, hf⟩ => ?_)
      subst hv
      have st := st.keep0 hf
      have hF := hF.step0 hf
      have z23 := Sld.le hr24
      have st := st.addK (kS Ar24 ((osay_m (to14_m s)).items).length cr24 2 (((osay_m (to14_m s)).items).flatMap itemMC)) hr24
      have st : St X w47 [_, _, _, _, _, _, _, _, _] [_, _, _, _, _, _, _, _, _, _, _, _, _, _, _, _, _, _, _] := st
      refine ⟨(st.pk [0, 1, 2, 3, 4, 5, 6, 7, 8] (by decide)).tK 18, ?_⟩
      refine Py rfl (y_field rfl rfl Ty.fo_77_1 rfl Ty.pl_2 rfl) (Py rfl (y_add (c := ((osay_m (to14_m s)).val) + o.val) rfl rfl rfl (wf_i64 (by first | omega | (simp; done) | (simp; omega)))) ?_)
      refine Py rfl (yeq rfl) (Py rfl (y_assign rfl rfl) (Pl_nil (Th_n (k67 _ _ (wR (Ib_r (Th_r (fR (Res1 rfl rfl) ?_))))))))
      have hres : (((osay_m ((oapply_m (to14_m s) ((oprepare_m (to14_m s) (op14_m o) tag (⟨1048576, 7⟩ : StampM)).1)).1)).val) == (((osay_m (to14_m s)).val) + o.val)) = true := by
        first
        | (rcases haf.set (by assumption) with q | q
           · exact absurd q (by assumption)
           · exact beq_iff_eq.2 q)
        | exact beq_iff_eq.2 (haf.count (by assumption)).1
      rw [hres]
      exact ⟨rfl, hF⟩
    refine sq fun _ k68 => sq fun _ k69 => rg (Ly rfl (yeq rfl) (Ls' rfl (Ln k69 (cE rfl (fun hc28 => ?_) (fun hc28 => ?_)))))
    · have kgo := haf.gone (.inl hc28)
      refine sk k68 (Wp_cond rfl (fun _ => ?_) (fun hc29 => absurd hc29 (by simp [hc28])))
      refine sq fun _ k70 => rg (Ls' rfl (Ln k70 (Wp_block ?_)))
      refine lp (fun q E W => ∃ (s18 : Int), E = [(5, .pointer (some ⟨g2, 0, none⟩)), (17, .pointer (some ⟨g12, 0, none⟩)), (18, .int .i64 s18)] ∧ jq q (fun m => (((((osay_m ((oapply_m (to14_m s) ((oprepare_m (to14_m s) (op14_m o) tag (⟨1048576, 7⟩ : StampM)).1)).1)).items).length : Int) - s18).toNat < m)) (True) ∧ (0 ≤ s18) ∧ St X W [(some g1, Cl [.int .i64 s.kind, .int .i64 s.reg.val, .int .u32 s.reg.atF.time, .int .i64 s.reg.atF.origin, .int .i64 s.num.plus, .int .i64 s.num.minus, .slice A1 s.setF.adds.length C1, .slice A2 s.setF.gone.length C2, .slice A4 s.map.puts.length C4, .slice A3 s.map.gone.length C3] 37), (some g2, Cl [.int .i64 o.act, sv o.name, .int .i64 o.val] 39), (some g3, Cl [.int .i64 tag.id.origin, .int .u32 tag.id.seq, .int .i64 tag.n] 43), (some g4, Cl [.int .i64 ((to14_m s).kind), .int .i64 (((to14_m s).reg).val), .int .u32 (((to14_m s).reg).atF.time), .int .i64 (((to14_m s).reg).atF.origin), .int .i64 (((to14_m s).num).plus), .int .i64 (((to14_m s).num).minus), .slice Ar1 ((((to14_m s).setF).adds).length) cr1, .slice Ar2 ((((to14_m s).setF).gone).length) cr2, .slice Ar3 ((((to14_m s).map).puts).length) cr3, .slice Ar4 ((((to14_m s).map).gone).length) cr4] 57), (some g9, Cl [.int .i64 (((oprepare_m (to14_m s) (op14_m o) tag (⟨1048576, 7⟩ : StampM)).1).act), sv (((oprepare_m (to14_m s) (op14_m o) tag (⟨1048576, 7⟩ : StampM)).1).name), .int .i64 (((oprepare_m (to14_m s) (op14_m o) tag (⟨1048576, 7⟩ : StampM)).1).val), .int .i64 ((((oprepare_m (to14_m s) (op14_m o) tag (⟨1048576, 7⟩ : StampM)).1).tag).id.origin), .int .u32 ((((oprepare_m (to14_m s) (op14_m o) tag (⟨1048576, 7⟩ : StampM)).1).tag).id.seq), .int .i64 ((((oprepare_m (to14_m s) (op14_m o) tag (⟨1048576, 7⟩ : StampM)).1).tag).n), .int .u32 ((((oprepare_m (to14_m s) (op14_m o) tag (⟨1048576, 7⟩ : StampM)).1).atF).time), .int .i64 ((((oprepare_m (to14_m s) (op14_m o) tag (⟨1048576, 7⟩ : StampM)).1).atF).origin), .slice Ar15 ((((oprepare_m (to14_m s) (op14_m o) tag (⟨1048576, 7⟩ : StampM)).1).tags).length) cr15] 59), (some g10, Cl (rdC q4 ((oread_m (rnew_m (((owrite_m ((oprepare_m (to14_m s) (op14_m o) tag (⟨1048576, 7⟩ : StampM)).1)).1) ++ more))).2)) 110), (q4, Cl (ftC ((oread_m (rnew_m (((owrite_m ((oprepare_m (to14_m s) (op14_m o) tag (⟨1048576, 7⟩ : StampM)).1)).1) ++ more))).2)) 163), (some g11, Cl [.int .i64 (((oapply_m (to14_m s) ((oprepare_m (to14_m s) (op14_m o) tag (⟨1048576, 7⟩ : StampM)).1)).1).kind), .int .i64 ((((oapply_m (to14_m s) ((oprepare_m (to14_m s) (op14_m o) tag (⟨1048576, 7⟩ : StampM)).1)).1).reg).val), .int .u32 ((((oapply_m (to14_m s) ((oprepare_m (to14_m s) (op14_m o) tag (⟨1048576, 7⟩ : StampM)).1)).1).reg).atF.time), .int .i64 ((((oapply_m (to14_m s) ((oprepare_m (to14_m s) (op14_m o) tag (⟨1048576, 7⟩ : StampM)).1)).1).reg).atF.origin), .int .i64 ((((oapply_m (to14_m s) ((oprepare_m (to14_m s) (op14_m o) tag (⟨1048576, 7⟩ : StampM)).1)).1).num).plus), .int .i64 ((((oapply_m (to14_m s) ((oprepare_m (to14_m s) (op14_m o) tag (⟨1048576, 7⟩ : StampM)).1)).1).num).minus), .slice Ar19 (((((oapply_m (to14_m s) ((oprepare_m (to14_m s) (op14_m o) tag (⟨1048576, 7⟩ : StampM)).1)).1).setF).adds).length) cr19, .slice Ar20 (((((oapply_m (to14_m s) ((oprepare_m (to14_m s) (op14_m o) tag (⟨1048576, 7⟩ : StampM)).1)).1).setF).gone).length) cr20, .slice Ar21 (((((oapply_m (to14_m s) ((oprepare_m (to14_m s) (op14_m o) tag (⟨1048576, 7⟩ : StampM)).1)).1).map).puts).length) cr21, .slice Ar22 (((((oapply_m (to14_m s) ((oprepare_m (to14_m s) (op14_m o) tag (⟨1048576, 7⟩ : StampM)).1)).1).map).gone).length) cr22] 57), (some g12, Cl [.int .i64 ((osay_m ((oapply_m (to14_m s) ((oprepare_m (to14_m s) (op14_m o) tag (⟨1048576, 7⟩ : StampM)).1)).1)).kind), .int .i64 ((osay_m ((oapply_m (to14_m s) ((oprepare_m (to14_m s) (op14_m o) tag (⟨1048576, 7⟩ : StampM)).1)).1)).val), .slice Ar23 (((osay_m ((oapply_m (to14_m s) ((oprepare_m (to14_m s) (op14_m o) tag (⟨1048576, 7⟩ : StampM)).1)).1)).items).length) cr23] 77)] [kS A1 s.setF.adds.length C1 4 (s.setF.adds.flatMap addMC), kS A2 s.setF.gone.length C2 3 (s.setF.gone.flatMap tagMC), kS A4 s.map.puts.length C4 7 (s.map.puts.flatMap putMC), kS A3 s.map.gone.length C3 3 (s.map.gone.flatMap tagMC), kS none ([] : List TagM).length 0 3 (([] : List TagM).flatMap tagMC), kS Ar1 (((to14_m s).setF).adds).length cr1 4 ((((to14_m s).setF).adds).flatMap addMC), kS Ar2 (((to14_m s).setF).gone).length cr2 3 ((((to14_m s).setF).gone).flatMap tagMC), kS Ar3 (((to14_m s).map).puts).length cr3 7 ((((to14_m s).map).puts).flatMap putMC), kS Ar4 (((to14_m s).map).gone).length cr4 3 ((((to14_m s).map).gone).flatMap tagMC), kS Ar15 (((oprepare_m (to14_m s) (op14_m o) tag (⟨1048576, 7⟩ : StampM)).1).tags).length cr15 3 ((((oprepare_m (to14_m s) (op14_m o) tag (⟨1048576, 7⟩ : StampM)).1).tags).flatMap tagMC), kS Ar16 (((oread_m (rnew_m (((owrite_m ((oprepare_m (to14_m s) (op14_m o) tag (⟨1048576, 7⟩ : StampM)).1)).1) ++ more))).1).tags).length cr16 3 ((((oread_m (rnew_m (((owrite_m ((oprepare_m (to14_m s) (op14_m o) tag (⟨1048576, 7⟩ : StampM)).1)).1) ++ more))).1).tags).flatMap tagMC), kS Ar17 ((fromEff_m ((oread_m (rnew_m (((owrite_m ((oprepare_m (to14_m s) (op14_m o) tag (⟨1048576, 7⟩ : StampM)).1)).1) ++ more))).1)).tags).length cr17 3 (((fromEff_m ((oread_m (rnew_m (((owrite_m ((oprepare_m (to14_m s) (op14_m o) tag (⟨1048576, 7⟩ : StampM)).1)).1) ++ more))).1)).tags).flatMap tagMC), kS Ar18 ((fromEff_m ((oprepare_m (to14_m s) (op14_m o) tag (⟨1048576, 7⟩ : StampM)).1)).tags).length cr18 3 (((fromEff_m ((oprepare_m (to14_m s) (op14_m o) tag (⟨1048576, 7⟩ : StampM)).1)).tags).flatMap tagMC), kS Ar19 ((((oapply_m (to14_m s) ((oprepare_m (to14_m s) (op14_m o) tag (⟨1048576, 7⟩ : StampM)).1)).1).setF).adds).length cr19 4 (((((oapply_m (to14_m s) ((oprepare_m (to14_m s) (op14_m o) tag (⟨1048576, 7⟩ : StampM)).1)).1).setF).adds).flatMap addMC), kS Ar20 ((((oapply_m (to14_m s) ((oprepare_m (to14_m s) (op14_m o) tag (⟨1048576, 7⟩ : StampM)).1)).1).setF).gone).length cr20 3 (((((oapply_m (to14_m s) ((oprepare_m (to14_m s) (op14_m o) tag (⟨1048576, 7⟩ : StampM)).1)).1).setF).gone).flatMap tagMC), kS Ar21 ((((oapply_m (to14_m s) ((oprepare_m (to14_m s) (op14_m o) tag (⟨1048576, 7⟩ : StampM)).1)).1).map).puts).length cr21 7 (((((oapply_m (to14_m s) ((oprepare_m (to14_m s) (op14_m o) tag (⟨1048576, 7⟩ : StampM)).1)).1).map).puts).flatMap putMC), kS Ar22 ((((oapply_m (to14_m s) ((oprepare_m (to14_m s) (op14_m o) tag (⟨1048576, 7⟩ : StampM)).1)).1).map).gone).length cr22 3 (((((oapply_m (to14_m s) ((oprepare_m (to14_m s) (op14_m o) tag (⟨1048576, 7⟩ : StampM)).1)).1).map).gone).flatMap tagMC), kS Ar23 ((osay_m ((oapply_m (to14_m s) ((oprepare_m (to14_m s) (op14_m o) tag (⟨1048576, 7⟩ : StampM)).1)).1)).items).length cr23 2 (((osay_m ((oapply_m (to14_m s) ((oprepare_m (to14_m s) (op14_m o) tag (⟨1048576, 7⟩ : StampM)).1)).1)).items).flatMap itemMC)] ∧ Fr ([]) w W) (((((osay_m ((oapply_m (to14_m s) ((oprepare_m (to14_m s) (op14_m o) tag (⟨1048576, 7⟩ : StampM)).1)).1)).items).length : Int) - (0 : Int)).toNat + 1) [(5, _), (17, _), (18, _)] ⟨rfl, rfl, rfl, trivial⟩ ⟨_, rfl, Nat.lt_succ_self _, by first | omega | (simp; done) | (simp; omega), st, hF⟩ k62 ?_ fun hout3 => ?_
      · rintro E w48 ⟨s18, rfl, _, hinv, st, hF⟩
        refine sq fun _ k71 => rg (Ls' rfl (Ln k71 (wR (fR (Res1 rfl rfl) ?_))))
        exact ⟨rfl, hF⟩
      rintro m E w49 ⟨s18, rfl, hmu, hinv, st, hF⟩
      unfold jq at hmu; dsimp only at hmu
      obtain ⟨fuel, rfl⟩ : ∃ q, m = q + 1 := ⟨m - 1, by omega⟩
      refine sq fun _ k72 => sq fun _ k73 => rg (Lm rfl (Ly rfl (yf rfl Ty.fo_77_2) (Ly rfl (yl 8 Ty.pl_75 st rfl) (Ly rfl (yll rfl Tryz.underlying75) (Ly rfl (ylt rfl) (Ln k73 (cD rfl (fun hc30 => ?_) (fun hc30 => ?_))))))))
      · refine sk k72 (sq fun _ k74 => Wp_block (sq fun _ k75 => ?_))
        refine Wp_plan (fun W => St X W (pickL (hOf st) [0, 1, 2, 3, 4, 5, 6, 7, 8]) (kOf st)) [(true, 0), (true, 1), (true, 2), (true, 3), (true, 4), (true, 5), (true, 6), (true, 7), (true, 8)] Ty.mx_0 (by kernel_rfl) (by kernel_rfl) rfl ((st.pk [0, 1, 2, 3, 4, 5, 6, 7, 8] (by decide)).drew) ?_
        have st := st.drew
        have hF := hF.step0 (Fr.drew _)
        refine Py rfl (yf rfl Ty.fo_77_2) (Py rfl (y_load (i := 8) rfl rfl Ty.pl_75 (fun _ h => h.hp) rfl rfl) (Pm rfl ?_))
        obtain ⟨gi3, bi3, egi3⟩ := (st.k (i := 17) rfl).addr (fun _ => rfl) (by decide) (q := s18) (by first | omega | (simp; done) | (simp; omega)) (by first | omega | (simp; done) | (simp; omega))
        subst egi3
        refine Py rfl (y_ixa (q := s18) rfl rfl rfl Ty.es_75 (by first | omega | (simp; done) | (simp; omega)) (by first | omega | (simp; done) | (simp; omega))) ?_
        refine Py rfl (yf rfl Ty.fo_80_0) (Py rfl (y_ldk1 (q := s18) 0 rfl rfl Ty.pl_9 (fun _ h => h.k (i := 17) rfl) (fun _ => rfl) (by first | omega | (simp; done) | (simp; omega)) (by first | omega | (simp; done) | (simp; omega)) rfl) ?_)
        refine Py rfl (yf rfl Ty.fo_39_1) (Py rfl (y_load (i := 1) rfl rfl Ty.pl_9 (fun _ h => h.hp) rfl rfl) (Py rfl (y_eqs rfl rfl rfl) (Pl_nil (Th_n (k75 _ _ (cE rfl (fun hc31 => ?_) (fun hc31 => ?_)))))))
        · have kx := kgo _ (ix_memI _ (by omega) (by omega)) hc31
          refine sq fun _ k76 => rg (Ls' rfl (Ln k76 (wR (Ib_r (Th_r (Th_r (Ib_r (Ib_r (Th_r (fR (Res1 rfl rfl) ?_))))))))))
          exfalso
          first | omega | contradiction | simp_all
        refine Wp_skip (Ib_n (Th_n (k74 _ _ (rg (Lm rfl (Ly rfl (y_add (c := s18 + 1) rfl rfl rfl (wf_i64 (by first | omega | (simp; done) | (simp; omega)))) ?_))))))
        refine Ls' rfl (Ls_nil (Th_n (?_)))
        exact ⟨fuel, [(5, _), (17, _), (18, _)], Nat.lt_succ_self _, ⟨rfl, rfl, rfl, trivial⟩, (s18 + 1), rfl, show _ < _ by first | omega | (simp; done) | (simp; omega), by first | omega | (simp; done) | (simp; omega), (st.pk [0, 1, 2, 3, 4, 5, 6, 7, 8] (by decide)).pickK [0, 1, 2, 3, 4, 5, 6, 7, 8, 9, 10, 11, 12, 13, 14, 15, 16, 17], hF⟩
      refine Wp_exit (Th_e (Th_e (Ib_hit (Ib_n (Th_n (?_))))))
      exact hout3 _ [(5, _), (17, _), (18, _)] _ ⟨rfl, rfl, rfl, trivial⟩ ⟨s18, rfl, trivial, by first | omega | (simp; done) | (simp; omega), (st.pk [0, 1, 2, 3, 4, 5, 6, 7, 8] (by decide)).pickK [0, 1, 2, 3, 4, 5, 6, 7, 8, 9, 10, 11, 12, 13, 14, 15, 16, 17], hF⟩
    refine rg (Ly rfl (yeq rfl) (Ls' rfl (Ln k68 (cE rfl (fun hc32 => ?_) (fun hc32 => ?_)))))
    · have kgo := haf.gone (.inr hc32)
      refine sq fun _ k77 => rg (Ls' rfl (Ln k77 (Wp_block ?_)))
      refine lp (fun q E W => ∃ (s18 : Int), E = [(5, .pointer (some ⟨g2, 0, none⟩)), (17, .pointer (some ⟨g12, 0, none⟩)), (18, .int .i64 s18)] ∧ jq q (fun m => (((((osay_m ((oapply_m (to14_m s) ((oprepare_m (to14_m s) (op14_m o) tag (⟨1048576, 7⟩ : StampM)).1)).1)).items).length : Int) - s18).toNat < m)) (True) ∧ (0 ≤ s18) ∧ St X W [(some g1, Cl [.int .i64 s.kind, .int .i64 s.reg.val, .int .u32 s.reg.atF.time, .int .i64 s.reg.atF.origin, .int .i64 s.num.plus, .int .i64 s.num.minus, .slice A1 s.setF.adds.length C1, .slice A2 s.setF.gone.length C2, .slice A4 s.map.puts.length C4, .slice A3 s.map.gone.length C3] 37), (some g2, Cl [.int .i64 o.act, sv o.name, .int .i64 o.val] 39), (some g3, Cl [.int .i64 tag.id.origin, .int .u32 tag.id.seq, .int .i64 tag.n] 43), (some g4, Cl [.int .i64 ((to14_m s).kind), .int .i64 (((to14_m s).reg).val), .int .u32 (((to14_m s).reg).atF.time), .int .i64 (((to14_m s).reg).atF.origin), .int .i64 (((to14_m s).num).plus), .int .i64 (((to14_m s).num).minus), .slice Ar1 ((((to14_m s).setF).adds).length) cr1, .slice Ar2 ((((to14_m s).setF).gone).length) cr2, .slice Ar3 ((((to14_m s).map).puts).length) cr3, .slice Ar4 ((((to14_m s).map).gone).length) cr4] 57), (some g9, Cl [.int .i64 (((oprepare_m (to14_m s) (op14_m o) tag (⟨1048576, 7⟩ : StampM)).1).act), sv (((oprepare_m (to14_m s) (op14_m o) tag (⟨1048576, 7⟩ : StampM)).1).name), .int .i64 (((oprepare_m (to14_m s) (op14_m o) tag (⟨1048576, 7⟩ : StampM)).1).val), .int .i64 ((((oprepare_m (to14_m s) (op14_m o) tag (⟨1048576, 7⟩ : StampM)).1).tag).id.origin), .int .u32 ((((oprepare_m (to14_m s) (op14_m o) tag (⟨1048576, 7⟩ : StampM)).1).tag).id.seq), .int .i64 ((((oprepare_m (to14_m s) (op14_m o) tag (⟨1048576, 7⟩ : StampM)).1).tag).n), .int .u32 ((((oprepare_m (to14_m s) (op14_m o) tag (⟨1048576, 7⟩ : StampM)).1).atF).time), .int .i64 ((((oprepare_m (to14_m s) (op14_m o) tag (⟨1048576, 7⟩ : StampM)).1).atF).origin), .slice Ar15 ((((oprepare_m (to14_m s) (op14_m o) tag (⟨1048576, 7⟩ : StampM)).1).tags).length) cr15] 59), (some g10, Cl (rdC q4 ((oread_m (rnew_m (((owrite_m ((oprepare_m (to14_m s) (op14_m o) tag (⟨1048576, 7⟩ : StampM)).1)).1) ++ more))).2)) 110), (q4, Cl (ftC ((oread_m (rnew_m (((owrite_m ((oprepare_m (to14_m s) (op14_m o) tag (⟨1048576, 7⟩ : StampM)).1)).1) ++ more))).2)) 163), (some g11, Cl [.int .i64 (((oapply_m (to14_m s) ((oprepare_m (to14_m s) (op14_m o) tag (⟨1048576, 7⟩ : StampM)).1)).1).kind), .int .i64 ((((oapply_m (to14_m s) ((oprepare_m (to14_m s) (op14_m o) tag (⟨1048576, 7⟩ : StampM)).1)).1).reg).val), .int .u32 ((((oapply_m (to14_m s) ((oprepare_m (to14_m s) (op14_m o) tag (⟨1048576, 7⟩ : StampM)).1)).1).reg).atF.time), .int .i64 ((((oapply_m (to14_m s) ((oprepare_m (to14_m s) (op14_m o) tag (⟨1048576, 7⟩ : StampM)).1)).1).reg).atF.origin), .int .i64 ((((oapply_m (to14_m s) ((oprepare_m (to14_m s) (op14_m o) tag (⟨1048576, 7⟩ : StampM)).1)).1).num).plus), .int .i64 ((((oapply_m (to14_m s) ((oprepare_m (to14_m s) (op14_m o) tag (⟨1048576, 7⟩ : StampM)).1)).1).num).minus), .slice Ar19 (((((oapply_m (to14_m s) ((oprepare_m (to14_m s) (op14_m o) tag (⟨1048576, 7⟩ : StampM)).1)).1).setF).adds).length) cr19, .slice Ar20 (((((oapply_m (to14_m s) ((oprepare_m (to14_m s) (op14_m o) tag (⟨1048576, 7⟩ : StampM)).1)).1).setF).gone).length) cr20, .slice Ar21 (((((oapply_m (to14_m s) ((oprepare_m (to14_m s) (op14_m o) tag (⟨1048576, 7⟩ : StampM)).1)).1).map).puts).length) cr21, .slice Ar22 (((((oapply_m (to14_m s) ((oprepare_m (to14_m s) (op14_m o) tag (⟨1048576, 7⟩ : StampM)).1)).1).map).gone).length) cr22] 57), (some g12, Cl [.int .i64 ((osay_m ((oapply_m (to14_m s) ((oprepare_m (to14_m s) (op14_m o) tag (⟨1048576, 7⟩ : StampM)).1)).1)).kind), .int .i64 ((osay_m ((oapply_m (to14_m s) ((oprepare_m (to14_m s) (op14_m o) tag (⟨1048576, 7⟩ : StampM)).1)).1)).val), .slice Ar23 (((osay_m ((oapply_m (to14_m s) ((oprepare_m (to14_m s) (op14_m o) tag (⟨1048576, 7⟩ : StampM)).1)).1)).items).length) cr23] 77)] [kS A1 s.setF.adds.length C1 4 (s.setF.adds.flatMap addMC), kS A2 s.setF.gone.length C2 3 (s.setF.gone.flatMap tagMC), kS A4 s.map.puts.length C4 7 (s.map.puts.flatMap putMC), kS A3 s.map.gone.length C3 3 (s.map.gone.flatMap tagMC), kS none ([] : List TagM).length 0 3 (([] : List TagM).flatMap tagMC), kS Ar1 (((to14_m s).setF).adds).length cr1 4 ((((to14_m s).setF).adds).flatMap addMC), kS Ar2 (((to14_m s).setF).gone).length cr2 3 ((((to14_m s).setF).gone).flatMap tagMC), kS Ar3 (((to14_m s).map).puts).length cr3 7 ((((to14_m s).map).puts).flatMap putMC), kS Ar4 (((to14_m s).map).gone).length cr4 3 ((((to14_m s).map).gone).flatMap tagMC), kS Ar15 (((oprepare_m (to14_m s) (op14_m o) tag (⟨1048576, 7⟩ : StampM)).1).tags).length cr15 3 ((((oprepare_m (to14_m s) (op14_m o) tag (⟨1048576, 7⟩ : StampM)).1).tags).flatMap tagMC), kS Ar16 (((oread_m (rnew_m (((owrite_m ((oprepare_m (to14_m s) (op14_m o) tag (⟨1048576, 7⟩ : StampM)).1)).1) ++ more))).1).tags).length cr16 3 ((((oread_m (rnew_m (((owrite_m ((oprepare_m (to14_m s) (op14_m o) tag (⟨1048576, 7⟩ : StampM)).1)).1) ++ more))).1).tags).flatMap tagMC), kS Ar17 ((fromEff_m ((oread_m (rnew_m (((owrite_m ((oprepare_m (to14_m s) (op14_m o) tag (⟨1048576, 7⟩ : StampM)).1)).1) ++ more))).1)).tags).length cr17 3 (((fromEff_m ((oread_m (rnew_m (((owrite_m ((oprepare_m (to14_m s) (op14_m o) tag (⟨1048576, 7⟩ : StampM)).1)).1) ++ more))).1)).tags).flatMap tagMC), kS Ar18 ((fromEff_m ((oprepare_m (to14_m s) (op14_m o) tag (⟨1048576, 7⟩ : StampM)).1)).tags).length cr18 3 (((fromEff_m ((oprepare_m (to14_m s) (op14_m o) tag (⟨1048576, 7⟩ : StampM)).1)).tags).flatMap tagMC), kS Ar19 ((((oapply_m (to14_m s) ((oprepare_m (to14_m s) (op14_m o) tag (⟨1048576, 7⟩ : StampM)).1)).1).setF).adds).length cr19 4 (((((oapply_m (to14_m s) ((oprepare_m (to14_m s) (op14_m o) tag (⟨1048576, 7⟩ : StampM)).1)).1).setF).adds).flatMap addMC), kS Ar20 ((((oapply_m (to14_m s) ((oprepare_m (to14_m s) (op14_m o) tag (⟨1048576, 7⟩ : StampM)).1)).1).setF).gone).length cr20 3 (((((oapply_m (to14_m s) ((oprepare_m (to14_m s) (op14_m o) tag (⟨1048576, 7⟩ : StampM)).1)).1).setF).gone).flatMap tagMC), kS Ar21 ((((oapply_m (to14_m s) ((oprepare_m (to14_m s) (op14_m o) tag (⟨1048576, 7⟩ : StampM)).1)).1).map).puts).length cr21 7 (((((oapply_m (to14_m s) ((oprepare_m (to14_m s) (op14_m o) tag (⟨1048576, 7⟩ : StampM)).1)).1).map).puts).flatMap putMC), kS Ar22 ((((oapply_m (to14_m s) ((oprepare_m (to14_m s) (op14_m o) tag (⟨1048576, 7⟩ : StampM)).1)).1).map).gone).length cr22 3 (((((oapply_m (to14_m s) ((oprepare_m (to14_m s) (op14_m o) tag (⟨1048576, 7⟩ : StampM)).1)).1).map).gone).flatMap tagMC), kS Ar23 ((osay_m ((oapply_m (to14_m s) ((oprepare_m (to14_m s) (op14_m o) tag (⟨1048576, 7⟩ : StampM)).1)).1)).items).length cr23 2 (((osay_m ((oapply_m (to14_m s) ((oprepare_m (to14_m s) (op14_m o) tag (⟨1048576, 7⟩ : StampM)).1)).1)).items).flatMap itemMC)] ∧ Fr ([]) w W) (((((osay_m ((oapply_m (to14_m s) ((oprepare_m (to14_m s) (op14_m o) tag (⟨1048576, 7⟩ : StampM)).1)).1)).items).length : Int) - (0 : Int)).toNat + 1) [(5, _), (17, _), (18, _)] ⟨rfl, rfl, rfl, trivial⟩ ⟨_, rfl, Nat.lt_succ_self _, by first | omega | (simp; done) | (simp; omega), st, hF⟩ k62 ?_ fun hout4 => ?_
      · rintro E w50 ⟨s18, rfl, _, hinv, st, hF⟩
        refine sq fun _ k78 => rg (Ls' rfl (Ln k78 (wR (fR (Res1 rfl rfl) ?_))))
        exact ⟨rfl, hF⟩
      rintro m E w51 ⟨s18, rfl, hmu, hinv, st, hF⟩
      unfold jq at hmu; dsimp only at hmu
      obtain ⟨fuel, rfl⟩ : ∃ q, m = q + 1 := ⟨m - 1, by omega⟩
      refine sq fun _ k79 => sq fun _ k80 => rg (Lm rfl (Ly rfl (yf rfl Ty.fo_77_2) (Ly rfl (yl 8 Ty.pl_75 st rfl) (Ly rfl (yll rfl Tryz.underlying75) (Ly rfl (ylt rfl) (Ln k80 (cD rfl (fun hc33 => ?_) (fun hc33 => ?_))))))))
      · refine sk k79 (sq fun _ k81 => Wp_block (sq fun _ k82 => ?_))
        refine Wp_plan (fun W => St X W (pickL (hOf st) [0, 1, 2, 3, 4, 5, 6, 7, 8]) (kOf st)) [(true, 0), (true, 1), (true, 2), (true, 3), (true, 4), (true, 5), (true, 6), (true, 7), (true, 8)] Ty.mx_0 (by kernel_rfl) (by kernel_rfl) rfl ((st.pk [0, 1, 2, 3, 4, 5, 6, 7, 8] (by decide)).drew) ?_
        have st := st.drew
        have hF := hF.step0 (Fr.drew _)
        refine Py rfl (yf rfl Ty.fo_77_2) (Py rfl (y_load (i := 8) rfl rfl Ty.pl_75 (fun _ h => h.hp) rfl rfl) (Pm rfl ?_))
        obtain ⟨gi4, bi4, egi4⟩ := (st.k (i := 17) rfl).addr (fun _ => rfl) (by decide) (q := s18) (by first | omega | (simp; done) | (simp; omega)) (by first | omega | (simp; done) | (simp; omega))
        subst egi4
        refine Py rfl (y_ixa (q := s18) rfl rfl rfl Ty.es_75 (by first | omega | (simp; done) | (simp; omega)) (by first | omega | (simp; done) | (simp; omega))) ?_
        refine Py rfl (yf rfl Ty.fo_80_0) (Py rfl (y_ldk1 (q := s18) 0 rfl rfl Ty.pl_9 (fun _ h => h.k (i := 17) rfl) (fun _ => rfl) (by first | omega | (simp; done) | (simp; omega)) (by first | omega | (simp; done) | (simp; omega)) rfl) ?_)
        refine Py rfl (yf rfl Ty.fo_39_1) (Py rfl (y_load (i := 1) rfl rfl Ty.pl_9 (fun _ h => h.hp) rfl rfl) (Py rfl (y_eqs rfl rfl rfl) (Pl_nil (Th_n (k82 _ _ (cE rfl (fun hc34 => ?_) (fun hc34 => ?_)))))))
        · have kx := kgo _ (ix_memI _ (by omega) (by omega)) hc34
          refine sq fun _ k83 => rg (Ls' rfl (Ln k83 (wR (Ib_r (Th_r (Th_r (Ib_r (Ib_r (Th_r (fR (Res1 rfl rfl) ?_))))))))))
          exfalso
          first | omega | contradiction | simp_all
        refine Wp_skip (Ib_n (Th_n (k81 _ _ (rg (Lm rfl (Ly rfl (y_add (c := s18 + 1) rfl rfl rfl (wf_i64 (by first | omega | (simp; done) | (simp; omega)))) ?_))))))
        refine Ls' rfl (Ls_nil (Th_n (?_)))
        exact ⟨fuel, [(5, _), (17, _), (18, _)], Nat.lt_succ_self _, ⟨rfl, rfl, rfl, trivial⟩, (s18 + 1), rfl, show _ < _ by first | omega | (simp; done) | (simp; omega), by first | omega | (simp; done) | (simp; omega), (st.pk [0, 1, 2, 3, 4, 5, 6, 7, 8] (by decide)).pickK [0, 1, 2, 3, 4, 5, 6, 7, 8, 9, 10, 11, 12, 13, 14, 15, 16, 17], hF⟩
      refine Wp_exit (Th_e (Th_e (Ib_hit (Ib_n (Th_n (?_))))))
      exact hout4 _ [(5, _), (17, _), (18, _)] _ ⟨rfl, rfl, rfl, trivial⟩ ⟨s18, rfl, trivial, by first | omega | (simp; done) | (simp; omega), (st.pk [0, 1, 2, 3, 4, 5, 6, 7, 8] (by decide)).pickK [0, 1, 2, 3, 4, 5, 6, 7, 8, 9, 10, 11, 12, 13, 14, 15, 16, 17], hF⟩
    refine Wp_skip (Ib_n (Th_n (k62 _ _ (sq fun _ k84 => rg (Ls' rfl (Ln k84 (wR (fR (Res1 rfl rfl) ?_))))))))
    exact ⟨rfl, hF⟩
  refine Sal Ty.zc_59 st hF rfl fun g13 w52 (st : St _ _ [_, _, _, _, _] _) hF hg11 => ?_
  refine ⟨(st.pk [0, 1, 2, 3] (by decide)).tK 9, ?_⟩
  refine Px_a (i := 2) (by kernel_rfl) rfl (wtd0 rfl) ?_
  refine Scl st hF rfl (op14_ok _ o) fun w53 st hF => ?_
  refine ⟨(st.pk [0, 1, 2, 3] (by decide)).tK 9, ?_⟩
  refine Px_a (i := 5) (by kernel_rfl) rfl (wtd0 rfl) ?_
  refine a_call rfl rfl rfl rfl (oprepare_ok (keys (hOf st) ++ X) _ st.Lo (to14_m s) Ar1 cr1 Ar2 cr2 Ar3 cr3 Ar4 cr4 (op14_m o) tag (⟨1048576, 7⟩ : StampM) (st.q 5 rfl) (st.q 6 rfl) (st.q 7 rfl) (st.q 8 rfl) (by omega) (by omega) (by omega) (by omega)) (fun v w54 ⟨Ar25, cr25, hv, hr25, hf⟩ => ?_)
  subst hv
  have st := st.keep0 hf
  have hF := hF.step0 hf
  have z24 := Sld.le hr25
  have st := st.addK (kS Ar25 (((oprepare_m (to14_m s) (op14_m o) tag (⟨1048576, 7⟩ : StampM)).1).tags).length cr25 3 ((((oprepare_m (to14_m s) (op14_m o) tag (⟨1048576, 7⟩ : StampM)).1).tags).flatMap tagMC)) hr25
  have st : St X w54 [_, _, _, _, _] [_, _, _, _, _, _, _, _, _, _] := st
  refine ⟨(st.pk [0, 1, 2, 3] (by decide)).tK 9, ?_⟩
  refine Px_y (i := 6) rfl (by kernel_rfl) (wtd0 rfl) rfl rfl (y_move rfl rfl) ?_
  refine Px_y (i := 7) rfl (by kernel_rfl) (wtd0 rfl) rfl rfl (y_ext rfl rfl rfl) ?_
  refine Px_y (i := 8) rfl (by kernel_rfl) (wtd0 rfl) rfl rfl (y_ext rfl rfl rfl) ?_
  refine Px_a (i := 10) (by kernel_rfl) rfl (wtd0 rfl) ?_
  refine Ssw 4 Ty.sz_59 st hF (.inr hg11) rfl fun w55 (st : St _ _ [_, _, _, _, _] _) hF => ?_
  refine ⟨(st.pk [0, 1, 2, 3] (by decide)).tK 9, ?_⟩
  refine Px_str (fun W => St X W (hOf st) (kOf st)) (fun _ st => (st.pk [0, 1, 2, 3] (by decide)).tK 9) st ?_
  refine Px_pl [(true, 11)] (by kernel_rfl) (by kernel_rfl) rfl ?_
  refine Py rfl (y_assign rfl rfl) (Pl_nil (Th_n (k10 _ _ (sq fun _ k85 => sq fun _ k86 => rg (Lm rfl (Ly rfl (yne rfl) (Ln k86 (cN rfl (fun hc35 => ?_) (fun hc35 => ?_)))))))))
  · refine sq fun _ k87 => rg (Ls' rfl (Ln k87 (wR (Th_r (fR (Res1 rfl rfl) ?_)))))
    exact ⟨rfl, hF⟩
  have hbk := bk_to (more := more) hc35 hwf kb1 kb3
  have hbl := hbk.l
  have hbn := hbk.n
  have hbt := hbk.tl
  refine sk k85 (sq fun _ k88 => rg (Ly rfl (yw 4 Ty.ag_59 st rfl) (La rfl (Scl st hF rfl (owrite_ok (keys (hOf st) ++ X) _ st.Lo ((oprepare_m (to14_m s) (op14_m o) tag (⟨1048576, 7⟩ : StampM)).1) Ar25 cr25 (st.q 9 rfl) (by omega) (by omega)) fun w56 st hF => ?_))))
  refine Lm rfl (Lx rfl (Lx rfl (Ls' rfl (Ls' rfl (Ln k88 (sq fun _ k89 => sq fun _ k90 => rg (Lm rfl (Ly rfl (yne rfl) (Ln k90 ?_)))))))))
  have hd8 : ((owrite_m ((oprepare_m (to14_m s) (op14_m o) tag (⟨1048576, 7⟩ : StampM)).1)).2) = 0 := by
    rw [hbk.w]
  refine Wp_cond rfl (fun hc36 => absurd hc36 (by first | (simp [hd8]; done) | (rw [hd8]; simp; done) | simpa using hd8)) (fun _ => ?_)
  refine sk k89 (sq fun _ k91 => rg (Lm rfl (Lm rfl (Ly rfl (y_cat rfl rfl rfl (by first | omega | (simp; done) | (simp; omega))) ?_))))
  refine La rfl (a_call rfl rfl rfl rfl (sNew_ok (keys (hOf st) ++ X) _ st.Lo (((owrite_m ((oprepare_m (to14_m s) (op14_m o) tag (⟨1048576, 7⟩ : StampM)).1)).1) ++ more) (by first | omega | (simp; omega))) (fun v w57 ⟨g14, q5, hv, hok5, hN5, hf, hkc5⟩ => ?_))
  subst hv
  have hfo5 : ∀ k ∈ keys [(some g14, Cl (rdC q5 (rnew_m (((owrite_m ((oprepare_m (to14_m s) (op14_m o) tag (⟨1048576, 7⟩ : StampM)).1)).1) ++ more))) 110), (q5, Cl (ftC (rnew_m (((owrite_m ((oprepare_m (to14_m s) (op14_m o) tag (⟨1048576, 7⟩ : StampM)).1)).1) ++ more))) 163)], k ∈ ([]) ∨ w.heap.size ≤ k := fun k hk => .inr (Nat.le_trans hF.size (hkc5 k hk))
  have st := st.callN hN5 hf hkc5
  have hF := hF.step0 hf
  have st : St X w57 [_, _, _, _, _, _, _] [_, _, _, _, _, _, _, _, _, _] := st
  refine Ls' rfl (Ln k91 (sq fun _ k92 => sq fun _ k93 => ?_))
  refine Wp_plan (fun W => St X W (pickL (hOf st) [0, 1, 2, 3, 4]) (kOf st)) [(true, 0), (true, 3), (false, 1), (false, 2), (false, 4), (false, 5), (true, 6), (true, 7), (true, 8), (true, 10), (true, 11), (false, 9), (true, 12), (true, 13)] Ty.mx_0 (by kernel_rfl) (by kernel_rfl) rfl ((st.pk [0, 1, 2, 3, 4] (by decide)).drew) ?_
  have st := st.drew
  have hF := hF.step0 (Fr.drew _)
  refine Pm rfl (Py rfl (y_loadw (i := 4) rfl rfl Ty.ag_59 (fun _ h => h.hp) rfl rfl) (Pl_a rfl (wtd0 rfl) (by rfl) ?_))
  refine a_call rfl rfl rfl rfl (oread_ok (keys (pickL (hOf st) [0, 1, 2, 3, 4]) ++ X) _ g14 q5 (rnew_m (((owrite_m ((oprepare_m (to14_m s) (op14_m o) tag (⟨1048576, 7⟩ : StampM)).1)).1) ++ more)) hok5 (st.sub [0, 1, 2, 3, 4] [5, 6] [] (by decide))) (fun v w58 ⟨Ar26, cr26, q6, hv, hok6, hN6, hfO3, hkc6⟩ => ?_)
  subst hv
  have hfo6 : ∀ k ∈ keys [(some g14, Cl (rdC q6 ((oread_m (rnew_m (((owrite_m ((oprepare_m (to14_m s) (op14_m o) tag (⟨1048576, 7⟩ : StampM)).1)).1) ++ more))).2)) 110), (q6, Cl (ftC ((oread_m (rnew_m (((owrite_m ((oprepare_m (to14_m s) (op14_m o) tag (⟨1048576, 7⟩ : StampM)).1)).1) ++ more))).2)) 163)], k ∈ ([]) ∨ w.heap.size ≤ k := fun k hk => (hkc6 k (hk)).elim (fun h => (kc_app hfo5 (kc_n)) k h) (fun h => .inr (Nat.le_trans hF.size h))
  have st := st.callS [0, 1, 2, 3, 4] [5, 6] (by decide) rfl hN6 hfO3 hkc6
  have hF := hF.step hfO3 (kc_app hfo5 (kc_n))
  have st : St X w58 [_, _, _, _, _, _, _] [_, _, _, _, _, _, _, _, _, _, _] := st
  refine ⟨(st.pk [0, 1, 2, 3, 4] (by decide)).tK 10, ?_⟩
  have z25 := (st.q 10 rfl).le
  refine Pl_a rfl (wtd0 rfl) (by rfl) ?_
  refine a_call rfl rfl rfl rfl (fromEff_ok (keys (hOf st) ++ X) _ st.Lo ((oread_m (rnew_m (((owrite_m ((oprepare_m (to14_m s) (op14_m o) tag (⟨1048576, 7⟩ : StampM)).1)).1) ++ more))).1) Ar26 cr26 (st.q 10 rfl)) (fun v w59 ⟨Ar27, cr27, hv, hr27, hf⟩ => ?_)
  subst hv
  have st := st.keep0 hf
  have hF := hF.step0 hf
  have z26 := Sld.le hr27
  have st := st.addK (kS Ar27 ((fromEff_m ((oread_m (rnew_m (((owrite_m ((oprepare_m (to14_m s) (op14_m o) tag (⟨1048576, 7⟩ : StampM)).1)).1) ++ more))).1)).tags).length cr27 3 (((fromEff_m ((oread_m (rnew_m (((owrite_m ((oprepare_m (to14_m s) (op14_m o) tag (⟨1048576, 7⟩ : StampM)).1)).1) ++ more))).1)).tags).flatMap tagMC)) hr27
  have st : St X w59 [_, _, _, _, _, _, _] [_, _, _, _, _, _, _, _, _, _, _, _] := st
  refine ⟨(st.pk [0, 1, 2, 3, 4] (by decide)).tK 10, ?_⟩
  refine Pl_a rfl (wtd0 rfl) (by rfl) ?_
  refine a_call rfl rfl rfl rfl (fromEff_ok (keys (hOf st) ++ X) _ st.Lo ((oprepare_m (to14_m s) (op14_m o) tag (⟨1048576, 7⟩ : StampM)).1) Ar25 cr25 (st.q 9 rfl)) (fun v w60 ⟨Ar28, cr28, hv, hr28, hf⟩ => ?_)
  subst hv
  have st := st.keep0 hf
  have hF := hF.step0 hf
  have z27 := Sld.le hr28
  have st := st.addK (kS Ar28 ((fromEff_m ((oprepare_m (to14_m s) (op14_m o) tag (⟨1048576, 7⟩ : StampM)).1)).tags).length cr28 3 (((fromEff_m ((oprepare_m (to14_m s) (op14_m o) tag (⟨1048576, 7⟩ : StampM)).1)).tags).flatMap tagMC)) hr28
  have st : St X w60 [_, _, _, _, _, _, _] [_, _, _, _, _, _, _, _, _, _, _, _, _] := st
  refine ⟨(st.pk [0, 1, 2, 3, 4] (by decide)).tK 10, ?_⟩
  refine Pl_a rfl (wtd0 rfl) (by rfl) ?_
  refine Scl st hF rfl (sameEffect_ok (keys (hOf st) ++ X) _ st.Lo (fromEff_m ((oread_m (rnew_m (((owrite_m ((oprepare_m (to14_m s) (op14_m o) tag (⟨1048576, 7⟩ : StampM)).1)).1) ++ more))).1)) Ar27 cr27 (fromEff_m ((oprepare_m (to14_m s) (op14_m o) tag (⟨1048576, 7⟩ : StampM)).1)) Ar28 cr28 (st.q 11 rfl) (st.q 12 rfl)) fun w61 st hF => ?_
  refine ⟨(st.pk [0, 1, 2, 3, 4] (by decide)).tK 10, ?_⟩
  refine Py rfl (yn rfl) (Pm rfl ?_)
  have hd9 : (sameEffect_m (fromEff_m ((oread_m (rnew_m (((owrite_m ((oprepare_m (to14_m s) (op14_m o) tag (⟨1048576, 7⟩ : StampM)).1)).1) ++ more))).1)) (fromEff_m ((oprepare_m (to14_m s) (op14_m o) tag (⟨1048576, 7⟩ : StampM)).1))) = true := by
    exact hbk.same
  refine Pl_bool 66 rfl (fun hc37 => absurd hc37 (by first | (simp [hd9]; done) | (rw [hd9]; simp; done) | simpa using hd9)) (fun _ => ?_)
  refine Pl_y rfl (wtdT rfl rfl rfl) rfl rfl (y_move rfl rfl) (Pl_y rfl (wtdT rfl rfl rfl) rfl rfl (y_move rfl rfl) (Pl_y rfl (wtdT rfl rfl rfl) rfl rfl (y_lens rfl rfl Tryz.underlying9) (Pl_a rfl (wtdT rfl rfl rfl) (by rfl) ?_)))
  refine a_call rfl rfl rfl rfl (sLeft_ok (keys (pickL (hOf st) [0, 1, 2, 3, 4]) ++ X) _ g14 q6 ((oread_m (rnew_m (((owrite_m ((oprepare_m (to14_m s) (op14_m o) tag (⟨1048576, 7⟩ : StampM)).1)).1) ++ more))).2) hok6 (st.sub [0, 1, 2, 3, 4] [5, 6] [] (by decide))) (fun v w62 ⟨hv, hf⟩ => ?_)
  subst hv
  have st := st.keep0 hf
  have hF := hF.step0 hf
  have st : St X w62 [_, _, _, _, _, _, _] [_, _, _, _, _, _, _, _, _, _, _, _, _] := st
  refine ⟨(st.pk [0, 1, 2, 3, 4] (by decide)).tK 10, ?_⟩
  refine Pl_y rfl (wtdT rfl rfl rfl) rfl rfl (yne rfl) (Py rfl (yF rfl) (Pl_nil (Th_n (k93 _ _ ?_))))
  have hd10 : (rleft_m ((oread_m (rnew_m (((owrite_m ((oprepare_m (to14_m s) (op14_m o) tag (⟨1048576, 7⟩ : StampM)).1)).1) ++ more))).2)) = (more.length : Int) := by
    exact hbk.left
  refine Wp_cond rfl (fun hc38 => absurd hc38 (by first | (simp [hd10]; done) | (rw [hd10]; simp; done) | simpa using hd10)) (fun _ => ?_)
  refine sk k92 (sq fun _ k94 => rg (Ly rfl (yw 3 Ty.ag_57 st rfl) (Ly rfl (yw 4 Ty.ag_59 st rfl) (La rfl (a_call rfl rfl rfl rfl (oapply_ok (keys (hOf st) ++ X) _ st.Lo (to14_m s) Ar1 cr1 Ar2 cr2 Ar3 cr3 Ar4 cr4 ((oprepare_m (to14_m s) (op14_m o) tag (⟨1048576, 7⟩ : StampM)).1) Ar25 cr25 (st.q 5 rfl) (st.q 6 rfl) (st.q 7 rfl) (st.q 8 rfl) (st.q 9 rfl) (by omega) (by omega) (by omega) (by omega) (by omega)) (fun v w63 ⟨Ar29, cr29, Ar30, cr30, Ar31, cr31, Ar32, cr32, hv, hr29, hr30, hr31, hr32, hf⟩ => ?_))))))
  subst hv
  have st := st.keep0 hf
  have hF := hF.step0 hf
  have z28 := Sld.le hr29
  have st := st.addK (kS Ar29 ((((oapply_m (to14_m s) ((oprepare_m (to14_m s) (op14_m o) tag (⟨1048576, 7⟩ : StampM)).1)).1).setF).adds).length cr29 4 (((((oapply_m (to14_m s) ((oprepare_m (to14_m s) (op14_m o) tag (⟨1048576, 7⟩ : StampM)).1)).1).setF).adds).flatMap addMC)) hr29
  have z29 := Sld.le hr30
  have st := st.addK (kS Ar30 ((((oapply_m (to14_m s) ((oprepare_m (to14_m s) (op14_m o) tag (⟨1048576, 7⟩ : StampM)).1)).1).setF).gone).length cr30 3 (((((oapply_m (to14_m s) ((oprepare_m (to14_m s) (op14_m o) tag (⟨1048576, 7⟩ : StampM)).1)).1).setF).gone).flatMap tagMC)) hr30
  have z30 := Sld.le hr31
  have st := st.addK (kS Ar31 ((((oapply_m (to14_m s) ((oprepare_m (to14_m s) (op14_m o) tag (⟨1048576, 7⟩ : StampM)).1)).1).map).puts).length cr31 7 (((((oapply_m (to14_m s) ((oprepare_m (to14_m s) (op14_m o) tag (⟨1048576, 7⟩ : StampM)).1)).1).map).puts).flatMap putMC)) hr31
  have z31 := Sld.le hr32
  have st := st.addK (kS Ar32 ((((oapply_m (to14_m s) ((oprepare_m (to14_m s) (op14_m o) tag (⟨1048576, 7⟩ : StampM)).1)).1).map).gone).length cr32 3 (((((oapply_m (to14_m s) ((oprepare_m (to14_m s) (op14_m o) tag (⟨1048576, 7⟩ : StampM)).1)).1).map).gone).flatMap tagMC)) hr32
  have st : St X w63 [_, _, _, _, _, _, _] [_, _, _, _, _, _, _, _, _, _, _, _, _, _, _, _, _] := st
  refine Lm rfl (Lx rfl (Lx rfl (La rfl (Sal Ty.zc_57 st hF rfl fun g15 w64 (st : St _ _ [_, _, _, _, _, _, _, _] _) hF hg12 => La rfl (Ssw 7 Ty.sz_57 st hF (.inr hg12) rfl fun w65 (st : St _ _ [_, _, _, _, _, _, _, _] _) hF => Ls' rfl (Ln k94 (sq fun _ k95 => sq fun _ k96 => rg (Lm rfl (Ly rfl (yne rfl) (Ln k96 (cN rfl (fun hc39 => ?_) (fun hc39 => ?_))))))))))))
  · refine sq fun _ k97 => rg (Ls' rfl (Ln k97 (wR (Th_r (fR (Res1 rfl rfl) ?_)))))
    exact ⟨rfl, hF⟩
  have haf := aft_of hbk hc39 ⟨kc1, kc2, kc3, kc4⟩
  obtain ⟨kd1, kd2, kd3, kd4⟩ := haf.small
  refine sk k95 (sq fun _ k98 => rg (Ly rfl (yw 7 Ty.ag_57 st rfl) (La rfl (a_call rfl rfl rfl rfl (osay_ok (keys (hOf st) ++ X) _ st.Lo ((oapply_m (to14_m s) ((oprepare_m (to14_m s) (op14_m o) tag (⟨1048576, 7⟩ : StampM)).1)).1) Ar29 cr29 Ar30 cr30 Ar31 cr31 Ar32 cr32 (st.q 13 rfl) (st.q 14 rfl) (st.q 15 rfl) (st.q 16 rfl) (by omega) (by omega) (by omega) (by omega)) (fun v w66 ⟨Ar33, cr33, hv, hr33, hf⟩ => ?_)))))
  subst hv
  have st := st.keep0 hf
  have hF := hF.step0 hf
  have z32 := Sld.le hr33
  have st := st.addK (kS Ar33 ((osay_m ((oapply_m (to14_m s) ((oprepare_m (to14_m s) (op14_m o) tag (⟨1048576, 7⟩ : StampM)).1)).1)).items).length cr33 2 (((osay_m ((oapply_m (to14_m s) ((oprepare_m (to14_m s) (op14_m o) tag (⟨1048576, 7⟩ : StampM)).1)).1)).items).flatMap itemMC)) hr33
  have st : St X w66 [_, _, _, _, _, _, _, _] [_, _, _, _, _, _, _, _, _, _, _, _, _, _, _, _, _, _] := st
  refine La rfl (Sal Ty.zc_77 st hF rfl fun g16 w67 (st : St _ _ [_, _, _, _, _, _, _, _, _] _) hF hg13 => La rfl (Ssw 8 Ty.sz_77 st hF (.inr hg13) rfl fun w68 (st : St _ _ [_, _, _, _, _, _, _, _, _] _) hF => Ln k98 (sq fun _ k99 => sq fun _ k100 => rg (Ly rfl (yf rfl Ty.fo_39_0) (Ly rfl (yl 1 Ty.pl_3 st rfl) (Ln k100 (Wp_block (sq fun _ k101 => rg (Ly rfl (yeq rfl) (Ls' rfl (Ln k101 (cE rfl (fun hc40 => ?_) (fun hc40 => ?_)))))))))))))
  · refine sq fun _ k102 => rg (Ly rfl (yf rfl Ty.fo_77_1) (Ly rfl (yl 8 Ty.pl_2 st rfl) (Ly rfl (yf rfl Ty.fo_39_2) (Ly rfl (yl 1 Ty.pl_2 st rfl) (Ly rfl (yeq rfl) (Lm rfl (bE (s := 92) rfl (fun hc41 => ?_) (fun hc41 => ?_))))))))
    · refine LsF rfl (LsF rfl (LsF rfl (LsF rfl (LsF rfl (Ly rfl (yT rfl) (Ls' rfl (Ln k102 (wR (Ib_r (Th_r (fR (Res1 rfl rfl) ?_)))))))))))
      exact ⟨rfl, hF⟩
    refine LyT rfl (yf rfl Ty.fo_37_1) (LyT rfl (yf rfl Ty.fo_26_1) (LyT rfl (yf rfl Ty.fo_24_0) (LyT rfl (yl 0 Ty.pl_22 st rfl) (LyT rfl (yeq rfl) (Ly rfl (yF rfl) (Ls' rfl (Ln k102 (wR (Ib_r (Th_r (fR (Res1 rfl rfl) ?_)))))))))))
    have hres : (s.reg.atF.time == 1048576) = true := by
      first
      | (rcases haf.set (by assumption) with q | q
         · exact absurd q (by assumption)
         · exact beq_iff_eq.2 q)
      | exact beq_iff_eq.2 (haf.count (by assumption)).1
    rw [hres]
    exact ⟨rfl, hF⟩
  refine sq fun _ k103 => rg (Ly rfl (yeq rfl) (Ls' rfl (Ln k103 (cE rfl (fun hc42 => ?_) (fun hc42 => ?_)))))
  · obtain ⟨_, kt1, kt2, kt3, kt4⟩ := haf.count hc42
    have kt5 : (op14_m o).val = o.val := rfl
    refine sq fun _ k104 => ?_
    refine Wp_plan (fun W => St X W (pickL (hOf st) [0, 1, 2, 3, 4, 5, 6, 7, 8]) (kOf st)) [(true, 0), (true, 1), (true, 2), (true, 5), (true, 6), (false, 3), (true, 4), (true, 7), (true, 8), (true, 9)] Ty.mx_0 (by kernel_rfl) (by kernel_rfl) rfl ((st.pk [0, 1, 2, 3, 4, 5, 6, 7, 8] (by decide)).drew) ?_
    have st := st.drew
    have hF := hF.step0 (Fr.drew _)
    refine Py rfl (yf rfl Ty.fo_77_1) (Py rfl (y_load (i := 8) rfl rfl Ty.pl_2 (fun _ h => h.hp) rfl rfl) (Py rfl (y_loadw (i := 3) rfl rfl Ty.ag_57 (fun _ h => h.hp) rfl rfl) (Py rfl (yf rfl Ty.fo_39_2) (Py rfl (y_load (i := 1) rfl rfl Ty.pl_2 (fun _ h => h.hp) rfl rfl) (Pl_a rfl (wtd0 rfl) (by rfl) ?_)))))
    refine a_call rfl rfl rfl rfl (osay_ok (keys (hOf st) ++ X) _ st.Lo (to14_m s) Ar1 cr1 Ar2 cr2 Ar3 cr3 Ar4 cr4 (st.q 5 rfl) (st.q 6 rfl) (st.q 7 rfl) (st.q 8 rfl) (by omega) (by omega) (by omega) (by omega)) (fun v w69 ⟨Ar34, cr34, hv, hr34, hf⟩ => ?_)
    subst hv
    have st := st.keep0 hf
    have hF := hF.step0 hf
    have z33 := Sld.le hr34
    have st := st.addK (kS Ar34 ((osay_m (to14_m s)).items).length cr34 2 (((osay_m (to14_m s)).items).flatMap itemMC)) hr34
    have st : St X w69 [_, _, _, _, _, _, _, _, _] [_, _, _, _, _, _, _, _, _, _, _, _, _, _, _, _, _, _, _] := st
    refine ⟨(st.pk [0, 1, 2, 3, 4, 5, 6, 7, 8] (by decide)).tK 18, ?_⟩
    refine Py rfl (y_field rfl rfl Ty.fo_77_1 rfl Ty.pl_2 rfl) (Py rfl (y_add (c := ((osay_m (to14_m s)).val) + o.val) rfl rfl rfl (wf_i64 (by first | omega | (simp; done) | (simp; omega)))) ?_)
    refine Py rfl (yeq rfl) (Py rfl (y_assign rfl rfl) (Pl_nil (Th_n (k104 _ _ (wR (Ib_r (Th_r (fR (Res1 rfl rfl) ?_))))))))
    have hres : (((osay_m ((oapply_m (to14_m s) ((oprepare_m (to14_m s) (op14_m o) tag (⟨1048576, 7⟩ : StampM)).1)).1)).val) == (((osay_m (to14_m s)).val) + o.val)) = true := by
      first
      | (rcases haf.set (by assumption) with q | q
         · exact absurd q (by assumption)
         · exact beq_iff_eq.2 q)
      | exact beq_iff_eq.2 (haf.count (by assumption)).1
    rw [hres]
    exact ⟨rfl, hF⟩
  refine sq fun _ k105 => sq fun _ k106 => rg (Ly rfl (yeq rfl) (Ls' rfl (Ln k106 (cE rfl (fun hc43 => ?_) (fun hc43 => ?_)))))
  · have kgo := haf.gone (.inl hc43)
    refine sk k105 (Wp_cond rfl (fun _ => ?_) (fun hc44 => absurd hc44 (by simp [hc43])))
    refine sq fun _ k107 => rg (Ls' rfl (Ln k107 (Wp_block ?_)))
    refine lp (fun q E W => ∃ (s18 : Int), E = [(5, .pointer (some ⟨g2, 0, none⟩)), (17, .pointer (some ⟨g16, 0, none⟩)), (18, .int .i64 s18)] ∧ jq q (fun m => (((((osay_m ((oapply_m (to14_m s) ((oprepare_m (to14_m s) (op14_m o) tag (⟨1048576, 7⟩ : StampM)).1)).1)).items).length : Int) - s18).toNat < m)) (True) ∧ (0 ≤ s18) ∧ St X W [(some g1, Cl [.int .i64 s.kind, .int .i64 s.reg.val, .int .u32 s.reg.atF.time, .int .i64 s.reg.atF.origin, .int .i64 s.num.plus, .int .i64 s.num.minus, .slice A1 s.setF.adds.length C1, .slice A2 s.setF.gone.length C2, .slice A4 s.map.puts.length C4, .slice A3 s.map.gone.length C3] 37), (some g2, Cl [.int .i64 o.act, sv o.name, .int .i64 o.val] 39), (some g3, Cl [.int .i64 tag.id.origin, .int .u32 tag.id.seq, .int .i64 tag.n] 43), (some g4, Cl [.int .i64 ((to14_m s).kind), .int .i64 (((to14_m s).reg).val), .int .u32 (((to14_m s).reg).atF.time), .int .i64 (((to14_m s).reg).atF.origin), .int .i64 (((to14_m s).num).plus), .int .i64 (((to14_m s).num).minus), .slice Ar1 ((((to14_m s).setF).adds).length) cr1, .slice Ar2 ((((to14_m s).setF).gone).length) cr2, .slice Ar3 ((((to14_m s).map).puts).length) cr3, .slice Ar4 ((((to14_m s).map).gone).length) cr4] 57), (some g13, Cl [.int .i64 (((oprepare_m (to14_m s) (op14_m o) tag (⟨1048576, 7⟩ : StampM)).1).act), sv (((oprepare_m (to14_m s) (op14_m o) tag (⟨1048576, 7⟩ : StampM)).1).name), .int .i64 (((oprepare_m (to14_m s) (op14_m o) tag (⟨1048576, 7⟩ : StampM)).1).val), .int .i64 ((((oprepare_m (to14_m s) (op14_m o) tag (⟨1048576, 7⟩ : StampM)).1).tag).id.origin), .int .u32 ((((oprepare_m (to14_m s) (op14_m o) tag (⟨1048576, 7⟩ : StampM)).1).tag).id.seq), .int .i64 ((((oprepare_m (to14_m s) (op14_m o) tag (⟨1048576, 7⟩ : StampM)).1).tag).n), .int .u32 ((((oprepare_m (to14_m s) (op14_m o) tag (⟨1048576, 7⟩ : StampM)).1).atF).time), .int .i64 ((((oprepare_m (to14_m s) (op14_m o) tag (⟨1048576, 7⟩ : StampM)).1).atF).origin), .slice Ar25 ((((oprepare_m (to14_m s) (op14_m o) tag (⟨1048576, 7⟩ : StampM)).1).tags).length) cr25] 59), (some g14, Cl (rdC q6 ((oread_m (rnew_m (((owrite_m ((oprepare_m (to14_m s) (op14_m o) tag (⟨1048576, 7⟩ : StampM)).1)).1) ++ more))).2)) 110), (q6, Cl (ftC ((oread_m (rnew_m (((owrite_m ((oprepare_m (to14_m s) (op14_m o) tag (⟨1048576, 7⟩ : StampM)).1)).1) ++ more))).2)) 163), (some g15, Cl [.int .i64 (((oapply_m (to14_m s) ((oprepare_m (to14_m s) (op14_m o) tag (⟨1048576, 7⟩ : StampM)).1)).1).kind), .int .i64 ((((oapply_m (to14_m s) ((oprepare_m (to14_m s) (op14_m o) tag (⟨1048576, 7⟩ : StampM)).1)).1).reg).val), .int .u32 ((((oapply_m (to14_m s) ((oprepare_m (to14_m s) (op14_m o) tag (⟨1048576, 7⟩ : StampM)).1)).1).reg).atF.time), .int .i64 ((((oapply_m (to14_m s) ((oprepare_m (to14_m s) (op14_m o) tag (⟨1048576, 7⟩ : StampM)).1)).1).reg).atF.origin), .int .i64 ((((oapply_m (to14_m s) ((oprepare_m (to14_m s) (op14_m o) tag (⟨1048576, 7⟩ : StampM)).1)).1).num).plus), .int .i64 ((((oapply_m (to14_m s) ((oprepare_m (to14_m s) (op14_m o) tag (⟨1048576, 7⟩ : StampM)).1)).1).num).minus), .slice Ar29 (((((oapply_m (to14_m s) ((oprepare_m (to14_m s) (op14_m o) tag (⟨1048576, 7⟩ : StampM)).1)).1).setF).adds).length) cr29, .slice Ar30 (((((oapply_m (to14_m s) ((oprepare_m (to14_m s) (op14_m o) tag (⟨1048576, 7⟩ : StampM)).1)).1).setF).gone).length) cr30, .slice Ar31 (((((oapply_m (to14_m s) ((oprepare_m (to14_m s) (op14_m o) tag (⟨1048576, 7⟩ : StampM)).1)).1).map).puts).length) cr31, .slice Ar32 (((((oapply_m (to14_m s) ((oprepare_m (to14_m s) (op14_m o) tag (⟨1048576, 7⟩ : StampM)).1)).1).map).gone).length) cr32] 57), (some g16, Cl [.int .i64 ((osay_m ((oapply_m (to14_m s) ((oprepare_m (to14_m s) (op14_m o) tag (⟨1048576, 7⟩ : StampM)).1)).1)).kind), .int .i64 ((osay_m ((oapply_m (to14_m s) ((oprepare_m (to14_m s) (op14_m o) tag (⟨1048576, 7⟩ : StampM)).1)).1)).val), .slice Ar33 (((osay_m ((oapply_m (to14_m s) ((oprepare_m (to14_m s) (op14_m o) tag (⟨1048576, 7⟩ : StampM)).1)).1)).items).length) cr33] 77)] [kS A1 s.setF.adds.length C1 4 (s.setF.adds.flatMap addMC), kS A2 s.setF.gone.length C2 3 (s.setF.gone.flatMap tagMC), kS A4 s.map.puts.length C4 7 (s.map.puts.flatMap putMC), kS A3 s.map.gone.length C3 3 (s.map.gone.flatMap tagMC), kS none ([] : List TagM).length 0 3 (([] : List TagM).flatMap tagMC), kS Ar1 (((to14_m s).setF).adds).length cr1 4 ((((to14_m s).setF).adds).flatMap addMC), kS Ar2 (((to14_m s).setF).gone).length cr2 3 ((((to14_m s).setF).gone).flatMap tagMC), kS Ar3 (((to14_m s).map).puts).length cr3 7 ((((to14_m s).map).puts).flatMap putMC), kS Ar4 (((to14_m s).map).gone).length cr4 3 ((((to14_m s).map).gone).flatMap tagMC), kS Ar25 (((oprepare_m (to14_m s) (op14_m o) tag (⟨1048576, 7⟩ : StampM)).1).tags).length cr25 3 ((((oprepare_m (to14_m s) (op14_m o) tag (⟨1048576, 7⟩ : StampM)).1).tags).flatMap tagMC), kS Ar26 (((oread_m (rnew_m (((owrite_m ((oprepare_m (to14_m s) (op14_m o) tag (⟨1048576, 7⟩ : StampM)).1)).1) ++ more))).1).tags).length cr26 3 ((((oread_m (rnew_m (((owrite_m ((oprepare_m (to14_m s) (op14_m o) tag (⟨1048576, 7⟩ : StampM)).1)).1) ++ more))).1).tags).flatMap tagMC), kS Ar27 ((fromEff_m ((oread_m (rnew_m (((owrite_m ((oprepare_m (to14_m s) (op14_m o) tag (⟨1048576, 7⟩ : StampM)).1)).1) ++ more))).1)).tags).length cr27 3 (((fromEff_m ((oread_m (rnew_m (((owrite_m ((oprepare_m (to14_m s) (op14_m o) tag (⟨1048576, 7⟩ : StampM)).1)).1) ++ more))).1)).tags).flatMap tagMC), kS Ar28 ((fromEff_m ((oprepare_m (to14_m s) (op14_m o) tag (⟨1048576, 7⟩ : StampM)).1)).tags).length cr28 3 (((fromEff_m ((oprepare_m (to14_m s) (op14_m o) tag (⟨1048576, 7⟩ : StampM)).1)).tags).flatMap tagMC), kS Ar29 ((((oapply_m (to14_m s) ((oprepare_m (to14_m s) (op14_m o) tag (⟨1048576, 7⟩ : StampM)).1)).1).setF).adds).length cr29 4 (((((oapply_m (to14_m s) ((oprepare_m (to14_m s) (op14_m o) tag (⟨1048576, 7⟩ : StampM)).1)).1).setF).adds).flatMap addMC), kS Ar30 ((((oapply_m (to14_m s) ((oprepare_m (to14_m s) (op14_m o) tag (⟨1048576, 7⟩ : StampM)).1)).1).setF).gone).length cr30 3 (((((oapply_m (to14_m s) ((oprepare_m (to14_m s) (op14_m o) tag (⟨1048576, 7⟩ : StampM)).1)).1).setF).gone).flatMap tagMC), kS Ar31 ((((oapply_m (to14_m s) ((oprepare_m (to14_m s) (op14_m o) tag (⟨1048576, 7⟩ : StampM)).1)).1).map).puts).length cr31 7 (((((oapply_m (to14_m s) ((oprepare_m (to14_m s) (op14_m o) tag (⟨1048576, 7⟩ : StampM)).1)).1).map).puts).flatMap putMC), kS Ar32 ((((oapply_m (to14_m s) ((oprepare_m (to14_m s) (op14_m o) tag (⟨1048576, 7⟩ : StampM)).1)).1).map).gone).length cr32 3 (((((oapply_m (to14_m s) ((oprepare_m (to14_m s) (op14_m o) tag (⟨1048576, 7⟩ : StampM)).1)).1).map).gone).flatMap tagMC), kS Ar33 ((osay_m ((oapply_m (to14_m s) ((oprepare_m (to14_m s) (op14_m o) tag (⟨1048576, 7⟩ : StampM)).1)).1)).items).length cr33 2 (((osay_m ((oapply_m (to14_m s) ((oprepare_m (to14_m s) (op14_m o) tag (⟨1048576, 7⟩ : StampM)).1)).1)).items).flatMap itemMC)] ∧ Fr ([]) w W) (((((osay_m ((oapply_m (to14_m s) ((oprepare_m (to14_m s) (op14_m o) tag (⟨1048576, 7⟩ : StampM)).1)).1)).items).length : Int) - (0 : Int)).toNat + 1) [(5, _), (17, _), (18, _)] ⟨rfl, rfl, rfl, trivial⟩ ⟨_, rfl, Nat.lt_succ_self _, by first | omega | (simp; done) | (simp; omega), st, hF⟩ k99 ?_ fun hout5 => ?_
    · rintro E w70 ⟨s18, rfl, _, hinv, st, hF⟩
      refine sq fun _ k108 => rg (Ls' rfl (Ln k108 (wR (fR (Res1 rfl rfl) ?_))))
      exact ⟨rfl, hF⟩
    rintro m E w71 ⟨s18, rfl, hmu, hinv, st, hF⟩
    unfold jq at hmu; dsimp only at hmu
    obtain ⟨fuel, rfl⟩ : ∃ q, m = q + 1 := ⟨m - 1, by omega⟩
    refine sq fun _ k109 => sq fun _ k110 => rg (Lm rfl (Ly rfl (yf rfl Ty.fo_77_2) (Ly rfl (yl 8 Ty.pl_75 st rfl) (Ly rfl (yll rfl Tryz.underlying75) (Ly rfl (ylt rfl) (Ln k110 (cD rfl (fun hc45 => ?_) (fun hc45 => ?_))))))))
    · refine sk k109 (sq fun _ k111 => Wp_block (sq fun _ k112 => ?_))
      refine Wp_plan (fun W => St X W (pickL (hOf st) [0, 1, 2, 3, 4, 5, 6, 7, 8]) (kOf st)) [(true, 0), (true, 1), (true, 2), (true, 3), (true, 4), (true, 5), (true, 6), (true, 7), (true, 8)] Ty.mx_0 (by kernel_rfl) (by kernel_rfl) rfl ((st.pk [0, 1, 2, 3, 4, 5, 6, 7, 8] (by decide)).drew) ?_
      have st := st.drew
      have hF := hF.step0 (Fr.drew _)
      refine Py rfl (yf rfl Ty.fo_77_2) (Py rfl (y_load (i := 8) rfl rfl Ty.pl_75 (fun _ h => h.hp) rfl rfl) (Pm rfl ?_))
      obtain ⟨gi5, bi5, egi5⟩ := (st.k (i := 17) rfl).addr (fun _ => rfl) (by decide) (q := s18) (by first | omega | (simp; done) | (simp; omega)) (by first | omega | (simp; done) | (simp; omega))
      subst egi5
      refine Py rfl (y_ixa (q := s18) rfl rfl rfl Ty.es_75 (by first | omega | (simp; done) | (simp; omega)) (by first | omega | (simp; done) | (simp; omega))) ?_
      refine Py rfl (yf rfl Ty.fo_80_0) (Py rfl (y_ldk1 (q := s18) 0 rfl rfl Ty.pl_9 (fun _ h => h.k (i := 17) rfl) (fun _ => rfl) (by first | omega | (simp; done) | (simp; omega)) (by first | omega | (simp; done) | (simp; omega)) rfl) ?_)
      refine Py rfl (yf rfl Ty.fo_39_1) (Py rfl (y_load (i := 1) rfl rfl Ty.pl_9 (fun _ h => h.hp) rfl rfl) (Py rfl (y_eqs rfl rfl rfl) (Pl_nil (Th_n (k112 _ _ (cE rfl (fun hc46 => ?_) (fun hc46 => ?_)))))))
      · have kx := kgo _ (ix_memI _ (by omega) (by omega)) hc46
        refine sq fun _ k113 => rg (Ls' rfl (Ln k113 (wR (Ib_r (Th_r (Th_r (Ib_r (Ib_r (Th_r (fR (Res1 rfl rfl) ?_))))))))))
        exfalso
        first | omega | contradiction | simp_all
      refine Wp_skip (Ib_n (Th_n (k111 _ _ (rg (Lm rfl (Ly rfl (y_add (c := s18 + 1) rfl rfl rfl (wf_i64 (by first | omega | (simp; done) | (simp; omega)))) ?_))))))
      refine Ls' rfl (Ls_nil (Th_n (?_)))
      exact ⟨fuel, [(5, _), (17, _), (18, _)], Nat.lt_succ_self _, ⟨rfl, rfl, rfl, trivial⟩, (s18 + 1), rfl, show _ < _ by first | omega | (simp; done) | (simp; omega), by first | omega | (simp; done) | (simp; omega), (st.pk [0, 1, 2, 3, 4, 5, 6, 7, 8] (by decide)).pickK [0, 1, 2, 3, 4, 5, 6, 7, 8, 9, 10, 11, 12, 13, 14, 15, 16, 17], hF⟩
    refine Wp_exit (Th_e (Th_e (Ib_hit (Ib_n (Th_n (?_))))))
    exact hout5 _ [(5, _), (17, _), (18, _)] _ ⟨rfl, rfl, rfl, trivial⟩ ⟨s18, rfl, trivial, by first | omega | (simp; done) | (simp; omega), (st.pk [0, 1, 2, 3, 4, 5, 6, 7, 8] (by decide)).pickK [0, 1, 2, 3, 4, 5, 6, 7, 8, 9, 10, 11, 12, 13, 14, 15, 16, 17], hF⟩
  refine rg (Ly rfl (yeq rfl) (Ls' rfl (Ln k105 (cE rfl (fun hc47 => ?_) (fun hc47 => ?_)))))
  · have kgo := haf.gone (.inr hc47)
    refine sq fun _ k114 => rg (Ls' rfl (Ln k114 (Wp_block ?_)))
    refine lp (fun q E W => ∃ (s18 : Int), E = [(5, .pointer (some ⟨g2, 0, none⟩)), (17, .pointer (some ⟨g16, 0, none⟩)), (18, .int .i64 s18)] ∧ jq q (fun m => (((((osay_m ((oapply_m (to14_m s) ((oprepare_m (to14_m s) (op14_m o) tag (⟨1048576, 7⟩ : StampM)).1)).1)).items).length : Int) - s18).toNat < m)) (True) ∧ (0 ≤ s18) ∧ St X W [(some g1, Cl [.int .i64 s.kind, .int .i64 s.reg.val, .int .u32 s.reg.atF.time, .int .i64 s.reg.atF.origin, .int .i64 s.num.plus, .int .i64 s.num.minus, .slice A1 s.setF.adds.length C1, .slice A2 s.setF.gone.length C2, .slice A4 s.map.puts.length C4, .slice A3 s.map.gone.length C3] 37), (some g2, Cl [.int .i64 o.act, sv o.name, .int .i64 o.val] 39), (some g3, Cl [.int .i64 tag.id.origin, .int .u32 tag.id.seq, .int .i64 tag.n] 43), (some g4, Cl [.int .i64 ((to14_m s).kind), .int .i64 (((to14_m s).reg).val), .int .u32 (((to14_m s).reg).atF.time), .int .i64 (((to14_m s).reg).atF.origin), .int .i64 (((to14_m s).num).plus), .int .i64 (((to14_m s).num).minus), .slice Ar1 ((((to14_m s).setF).adds).length) cr1, .slice Ar2 ((((to14_m s).setF).gone).length) cr2, .slice Ar3 ((((to14_m s).map).puts).length) cr3, .slice Ar4 ((((to14_m s).map).gone).length) cr4] 57), (some g13, Cl [.int .i64 (((oprepare_m (to14_m s) (op14_m o) tag (⟨1048576, 7⟩ : StampM)).1).act), sv (((oprepare_m (to14_m s) (op14_m o) tag (⟨1048576, 7⟩ : StampM)).1).name), .int .i64 (((oprepare_m (to14_m s) (op14_m o) tag (⟨1048576, 7⟩ : StampM)).1).val), .int .i64 ((((oprepare_m (to14_m s) (op14_m o) tag (⟨1048576, 7⟩ : StampM)).1).tag).id.origin), .int .u32 ((((oprepare_m (to14_m s) (op14_m o) tag (⟨1048576, 7⟩ : StampM)).1).tag).id.seq), .int .i64 ((((oprepare_m (to14_m s) (op14_m o) tag (⟨1048576, 7⟩ : StampM)).1).tag).n), .int .u32 ((((oprepare_m (to14_m s) (op14_m o) tag (⟨1048576, 7⟩ : StampM)).1).atF).time), .int .i64 ((((oprepare_m (to14_m s) (op14_m o) tag (⟨1048576, 7⟩ : StampM)).1).atF).origin), .slice Ar25 ((((oprepare_m (to14_m s) (op14_m o) tag (⟨1048576, 7⟩ : StampM)).1).tags).length) cr25] 59), (some g14, Cl (rdC q6 ((oread_m (rnew_m (((owrite_m ((oprepare_m (to14_m s) (op14_m o) tag (⟨1048576, 7⟩ : StampM)).1)).1) ++ more))).2)) 110), (q6, Cl (ftC ((oread_m (rnew_m (((owrite_m ((oprepare_m (to14_m s) (op14_m o) tag (⟨1048576, 7⟩ : StampM)).1)).1) ++ more))).2)) 163), (some g15, Cl [.int .i64 (((oapply_m (to14_m s) ((oprepare_m (to14_m s) (op14_m o) tag (⟨1048576, 7⟩ : StampM)).1)).1).kind), .int .i64 ((((oapply_m (to14_m s) ((oprepare_m (to14_m s) (op14_m o) tag (⟨1048576, 7⟩ : StampM)).1)).1).reg).val), .int .u32 ((((oapply_m (to14_m s) ((oprepare_m (to14_m s) (op14_m o) tag (⟨1048576, 7⟩ : StampM)).1)).1).reg).atF.time), .int .i64 ((((oapply_m (to14_m s) ((oprepare_m (to14_m s) (op14_m o) tag (⟨1048576, 7⟩ : StampM)).1)).1).reg).atF.origin), .int .i64 ((((oapply_m (to14_m s) ((oprepare_m (to14_m s) (op14_m o) tag (⟨1048576, 7⟩ : StampM)).1)).1).num).plus), .int .i64 ((((oapply_m (to14_m s) ((oprepare_m (to14_m s) (op14_m o) tag (⟨1048576, 7⟩ : StampM)).1)).1).num).minus), .slice Ar29 (((((oapply_m (to14_m s) ((oprepare_m (to14_m s) (op14_m o) tag (⟨1048576, 7⟩ : StampM)).1)).1).setF).adds).length) cr29, .slice Ar30 (((((oapply_m (to14_m s) ((oprepare_m (to14_m s) (op14_m o) tag (⟨1048576, 7⟩ : StampM)).1)).1).setF).gone).length) cr30, .slice Ar31 (((((oapply_m (to14_m s) ((oprepare_m (to14_m s) (op14_m o) tag (⟨1048576, 7⟩ : StampM)).1)).1).map).puts).length) cr31, .slice Ar32 (((((oapply_m (to14_m s) ((oprepare_m (to14_m s) (op14_m o) tag (⟨1048576, 7⟩ : StampM)).1)).1).map).gone).length) cr32] 57), (some g16, Cl [.int .i64 ((osay_m ((oapply_m (to14_m s) ((oprepare_m (to14_m s) (op14_m o) tag (⟨1048576, 7⟩ : StampM)).1)).1)).kind), .int .i64 ((osay_m ((oapply_m (to14_m s) ((oprepare_m (to14_m s) (op14_m o) tag (⟨1048576, 7⟩ : StampM)).1)).1)).val), .slice Ar33 (((osay_m ((oapply_m (to14_m s) ((oprepare_m (to14_m s) (op14_m o) tag (⟨1048576, 7⟩ : StampM)).1)).1)).items).length) cr33] 77)] [kS A1 s.setF.adds.length C1 4 (s.setF.adds.flatMap addMC), kS A2 s.setF.gone.length C2 3 (s.setF.gone.flatMap tagMC), kS A4 s.map.puts.length C4 7 (s.map.puts.flatMap putMC), kS A3 s.map.gone.length C3 3 (s.map.gone.flatMap tagMC), kS none ([] : List TagM).length 0 3 (([] : List TagM).flatMap tagMC), kS Ar1 (((to14_m s).setF).adds).length cr1 4 ((((to14_m s).setF).adds).flatMap addMC), kS Ar2 (((to14_m s).setF).gone).length cr2 3 ((((to14_m s).setF).gone).flatMap tagMC), kS Ar3 (((to14_m s).map).puts).length cr3 7 ((((to14_m s).map).puts).flatMap putMC), kS Ar4 (((to14_m s).map).gone).length cr4 3 ((((to14_m s).map).gone).flatMap tagMC), kS Ar25 (((oprepare_m (to14_m s) (op14_m o) tag (⟨1048576, 7⟩ : StampM)).1).tags).length cr25 3 ((((oprepare_m (to14_m s) (op14_m o) tag (⟨1048576, 7⟩ : StampM)).1).tags).flatMap tagMC), kS Ar26 (((oread_m (rnew_m (((owrite_m ((oprepare_m (to14_m s) (op14_m o) tag (⟨1048576, 7⟩ : StampM)).1)).1) ++ more))).1).tags).length cr26 3 ((((oread_m (rnew_m (((owrite_m ((oprepare_m (to14_m s) (op14_m o) tag (⟨1048576, 7⟩ : StampM)).1)).1) ++ more))).1).tags).flatMap tagMC), kS Ar27 ((fromEff_m ((oread_m (rnew_m (((owrite_m ((oprepare_m (to14_m s) (op14_m o) tag (⟨1048576, 7⟩ : StampM)).1)).1) ++ more))).1)).tags).length cr27 3 (((fromEff_m ((oread_m (rnew_m (((owrite_m ((oprepare_m (to14_m s) (op14_m o) tag (⟨1048576, 7⟩ : StampM)).1)).1) ++ more))).1)).tags).flatMap tagMC), kS Ar28 ((fromEff_m ((oprepare_m (to14_m s) (op14_m o) tag (⟨1048576, 7⟩ : StampM)).1)).tags).length cr28 3 (((fromEff_m ((oprepare_m (to14_m s) (op14_m o) tag (⟨1048576, 7⟩ : StampM)).1)).tags).flatMap tagMC), kS Ar29 ((((oapply_m (to14_m s) ((oprepare_m (to14_m s) (op14_m o) tag (⟨1048576, 7⟩ : StampM)).1)).1).setF).adds).length cr29 4 (((((oapply_m (to14_m s) ((oprepare_m (to14_m s) (op14_m o) tag (⟨1048576, 7⟩ : StampM)).1)).1).setF).adds).flatMap addMC), kS Ar30 ((((oapply_m (to14_m s) ((oprepare_m (to14_m s) (op14_m o) tag (⟨1048576, 7⟩ : StampM)).1)).1).setF).gone).length cr30 3 (((((oapply_m (to14_m s) ((oprepare_m (to14_m s) (op14_m o) tag (⟨1048576, 7⟩ : StampM)).1)).1).setF).gone).flatMap tagMC), kS Ar31 ((((oapply_m (to14_m s) ((oprepare_m (to14_m s) (op14_m o) tag (⟨1048576, 7⟩ : StampM)).1)).1).map).puts).length cr31 7 (((((oapply_m (to14_m s) ((oprepare_m (to14_m s) (op14_m o) tag (⟨1048576, 7⟩ : StampM)).1)).1).map).puts).flatMap putMC), kS Ar32 ((((oapply_m (to14_m s) ((oprepare_m (to14_m s) (op14_m o) tag (⟨1048576, 7⟩ : StampM)).1)).1).map).gone).length cr32 3 (((((oapply_m (to14_m s) ((oprepare_m (to14_m s) (op14_m o) tag (⟨1048576, 7⟩ : StampM)).1)).1).map).gone).flatMap tagMC), kS Ar33 ((osay_m ((oapply_m (to14_m s) ((oprepare_m (to14_m s) (op14_m o) tag (⟨1048576, 7⟩ : StampM)).1)).1)).items).length cr33 2 (((osay_m ((oapply_m (to14_m s) ((oprepare_m (to14_m s) (op14_m o) tag (⟨1048576, 7⟩ : StampM)).1)).1)).items).flatMap itemMC)] ∧ Fr ([]) w W) (((((osay_m ((oapply_m (to14_m s) ((oprepare_m (to14_m s) (op14_m o) tag (⟨1048576, 7⟩ : StampM)).1)).1)).items).length : Int) - (0 : Int)).toNat + 1) [(5, _), (17, _), (18, _)] ⟨rfl, rfl, rfl, trivial⟩ ⟨_, rfl, Nat.lt_succ_self _, by first | omega | (simp; done) | (simp; omega), st, hF⟩ k99 ?_ fun hout6 => ?_
    · rintro E w72 ⟨s18, rfl, _, hinv, st, hF⟩
      refine sq fun _ k115 => rg (Ls' rfl (Ln k115 (wR (fR (Res1 rfl rfl) ?_))))
      exact ⟨rfl, hF⟩
    rintro m E w73 ⟨s18, rfl, hmu, hinv, st, hF⟩
    unfold jq at hmu; dsimp only at hmu
    obtain ⟨fuel, rfl⟩ : ∃ q, m = q + 1 := ⟨m - 1, by omega⟩
    refine sq fun _ k116 => sq fun _ k117 => rg (Lm rfl (Ly rfl (yf rfl Ty.fo_77_2) (Ly rfl (yl 8 Ty.pl_75 st rfl) (Ly rfl (yll rfl Tryz.underlying75) (Ly rfl (ylt rfl) (Ln k117 (cD rfl (fun hc48 => ?_) (fun hc48 => ?_))))))))
    · refine sk k116 (sq fun _ k118 => Wp_block (sq fun _ k119 => ?_))
      refine Wp_plan (fun W => St X W (pickL (hOf st) [0, 1, 2, 3, 4, 5, 6, 7, 8]) (kOf st)) [(true, 0), (true, 1), (true, 2), (true, 3), (true, 4), (true, 5), (true, 6), (true, 7), (true, 8)] Ty.mx_0 (by kernel_rfl) (by kernel_rfl) rfl ((st.pk [0, 1, 2, 3, 4, 5, 6, 7, 8] (by decide)).drew) ?_
      have st := st.drew
      have hF := hF.step0 (Fr.drew _)
      refine Py rfl (yf rfl Ty.fo_77_2) (Py rfl (y_load (i := 8) rfl rfl Ty.pl_75 (fun _ h => h.hp) rfl rfl) (Pm rfl ?_))
      obtain ⟨gi6, bi6, egi6⟩ := (st.k (i := 17) rfl).addr (fun _ => rfl) (by decide) (q := s18) (by first | omega | (simp; done) | (simp; omega)) (by first | omega | (simp; done) | (simp; omega))
      subst egi6
      refine Py rfl (y_ixa (q := s18) rfl rfl rfl Ty.es_75 (by first | omega | (simp; done) | (simp; omega)) (by first | omega | (simp; done) | (simp; omega))) ?_
      refine Py rfl (yf rfl Ty.fo_80_0) (Py rfl (y_ldk1 (q := s18) 0 rfl rfl Ty.pl_9 (fun _ h => h.k (i := 17) rfl) (fun _ => rfl) (by first | omega | (simp; done) | (simp; omega)) (by first | omega | (simp; done) | (simp; omega)) rfl) ?_)
      refine Py rfl (yf rfl Ty.fo_39_1) (Py rfl (y_load (i := 1) rfl rfl Ty.pl_9 (fun _ h => h.hp) rfl rfl) (Py rfl (y_eqs rfl rfl rfl) (Pl_nil (Th_n (k119 _ _ (cE rfl (fun hc49 => ?_) (fun hc49 => ?_)))))))
      · have kx := kgo _ (ix_memI _ (by omega) (by omega)) hc49
        refine sq fun _ k120 => rg (Ls' rfl (Ln k120 (wR (Ib_r (Th_r (Th_r (Ib_r (Ib_r (Th_r (fR (Res1 rfl rfl) ?_))))))))))
        exfalso
        first | omega | contradiction | simp_all
      refine Wp_skip (Ib_n (Th_n (k118 _ _ (rg (Lm rfl (Ly rfl (y_add (c := s18 + 1) rfl rfl rfl (wf_i64 (by first | omega | (simp; done) | (simp; omega)))) ?_))))))
      refine Ls' rfl (Ls_nil (Th_n (?_)))
      exact ⟨fuel, [(5, _), (17, _), (18, _)], Nat.lt_succ_self _, ⟨rfl, rfl, rfl, trivial⟩, (s18 + 1), rfl, show _ < _ by first | omega | (simp; done) | (simp; omega), by first | omega | (simp; done) | (simp; omega), (st.pk [0, 1, 2, 3, 4, 5, 6, 7, 8] (by decide)).pickK [0, 1, 2, 3, 4, 5, 6, 7, 8, 9, 10, 11, 12, 13, 14, 15, 16, 17], hF⟩
    refine Wp_exit (Th_e (Th_e (Ib_hit (Ib_n (Th_n (?_))))))
    exact hout6 _ [(5, _), (17, _), (18, _)] _ ⟨rfl, rfl, rfl, trivial⟩ ⟨s18, rfl, trivial, by first | omega | (simp; done) | (simp; omega), (st.pk [0, 1, 2, 3, 4, 5, 6, 7, 8] (by decide)).pickK [0, 1, 2, 3, 4, 5, 6, 7, 8, 9, 10, 11, 12, 13, 14, 15, 16, 17], hF⟩
  refine Wp_skip (Ib_n (Th_n (k99 _ _ (sq fun _ k121 => rg (Ls' rfl (Ln k121 (wR (fR (Res1 rfl rfl) ?_))))))))
  exact ⟨rfl, hF⟩
end Go.Proofs.YtdckemiebnfjcaaGreatDoor

/- Plain: loops that walks print, as functions on lists. -/
import Derived.Test.YtdckemiebnfjcaaGreatDoorSc
import Derived.Test.YtdckemiebnfjcaaGreatDoorZ3
section
set_option linter.unusedSimpArgs false
set_option linter.unusedVariables false
set_option maxRecDepth 20000
namespace Go.Proofs.YtdckemiebnfjcaaGreatDoor
open Go.RowKit
def oown_m (s : ObjM) : ObjM :=
  (⟨s.kind, s.reg, s.num, (⟨cloneAdd_m s.setF.adds, cloneTag_m s.setF.gone⟩ : SetM), (⟨clonePut_m s.map.puts, cloneTag_m s.map.gone⟩ : MapM)⟩ : ObjM)
theorem oown_ok (X : List Nat) (w : World) (hX : Lo X w) (s : ObjM) (A1 : Option Addr) (C1 : Nat) (A2 : Option Addr) (C2 : Nat) (A4 : Option Addr) (C4 : Nat) (A3 : Option Addr) (C3 : Nat) (z5 : Sld X w A1 s.setF.adds.length C1 4 (s.setF.adds.flatMap addMC)) (z6 : Sld X w A2 s.setF.gone.length C2 3 (s.setF.gone.flatMap tagMC)) (z8 : Sld X w A4 s.map.puts.length C4 7 (s.map.puts.flatMap putMC)) (z7 : Sld X w A3 s.map.gone.length C3 3 (s.map.gone.flatMap tagMC)) (h1 : s.setF.adds.length ≤ 1000000) (h2 : s.setF.gone.length ≤ 1000000) (h3 : s.map.puts.length ≤ 1000000) (h4 : s.map.gone.length ≤ 1000000) :
    Fn Tryz.prog 46 [.agg #[.int .i64 s.kind, .int .i64 s.reg.val, .int .u32 s.reg.atF.time, .int .i64 s.reg.atF.origin, .int .i64 s.num.plus, .int .i64 s.num.minus, .slice A1 s.setF.adds.length C1, .slice A2 s.setF.gone.length C2, .slice A4 s.map.puts.length C4, .slice A3 s.map.gone.length C3]] w fun v w' => ∃ (A5 : Option Addr) (C5 : Nat) (A6 : Option Addr) (C6 : Nat) (A8 : Option Addr) (C8 : Nat) (A7 : Option Addr) (C7 : Nat), v = .agg #[.int .i64 ((oown_m s).kind), .int .i64 (((oown_m s).reg).val), .int .u32 (((oown_m s).reg).atF.time), .int .i64 (((oown_m s).reg).atF.origin), .int .i64 (((oown_m s).num).plus), .int .i64 (((oown_m s).num).minus), .slice A5 (((oown_m s).setF).adds).length C5, .slice A6 (((oown_m s).setF).gone).length C6, .slice A8 (((oown_m s).map).puts).length C8, .slice A7 (((oown_m s).map).gone).length C7] ∧ Sld X w' A5 (((oown_m s).setF).adds).length C5 4 ((((oown_m s).setF).adds).flatMap addMC) ∧ Sld X w' A6 (((oown_m s).setF).gone).length C6 3 ((((oown_m s).setF).gone).flatMap tagMC) ∧ Sld X w' A8 (((oown_m s).map).puts).length C8 7 ((((oown_m s).map).puts).flatMap putMC) ∧ Sld X w' A7 (((oown_m s).map).gone).length C7 3 ((((oown_m s).map).gone).flatMap tagMC) ∧ Fr [] w w' := by
  refine Fn_of 24 Ty.en_46 Tryz.func46 rfl rfl rfl ?_
  dsimp only [argEnv]
  have st := stn4 hX z5 z6 z8 z7
  have hF := Fr.refl ([]) w
  have z1 := (st.q 0 rfl).le
  have z2 := (st.q 1 rfl).le
  have z4 := (st.q 2 rfl).le
  have z3 := (st.q 3 rfl).le
  refine sq fun _ k1 => rg (La rfl (Sbx st hF rfl fun g1 w1 (st : St _ _ [_] _) hF hg1 => La rfl (Sal Ty.zc_57 st hF rfl fun g2 w2 (st : St _ _ [_, _] _) hF hg2 => Ln k1 (sq fun _ k2 => ?_))))
  refine Wp_planF (fun W => St X W (pickL (hOf st) [0, 1]) (kOf st)) [(true, 0), (true, 1), (true, 2), (true, 4), (true, 5), (true, 6), (false, 3), (false, 7), (true, 8), (true, 9)] 10 Ty.mx_0 (by kernel_rfl) (by kernel_rfl) (by kernel_rfl) rfl ((st.pk [0, 1] (by decide)).drew) ?_
  have st := st.drew
  have hF := hF.step0 (Fr.drew _)
  refine Py rfl (yf rfl Ty.fo_57_3) (Py rfl (yf rfl Ty.fo_52_0) (Py rfl (y_load (i := 0) rfl rfl Ty.pl_50 (fun _ h => h.hp) rfl rfl) (Py rfl (yf rfl Ty.fo_57_3) (Py rfl (yf rfl Ty.fo_52_1) (Py rfl (y_load (i := 0) rfl rfl Ty.pl_30 (fun _ h => h.hp) rfl rfl) (Pl_a rfl (wtd0 rfl) (by rfl) ?_))))))
  refine a_call rfl rfl rfl rfl (cloneAdd_ok (keys (hOf st) ++ X) _ st.Lo s.setF.adds A1 C1 (st.q 0 rfl) h1) (fun v w3 ⟨Ao1, co1, spo1, hv, how1, hN1, hfO1, hkc1⟩ => ?_)
  subst hv
  have hnew1 : ∀ g, blkOf Ao1 = some g → g ∈ ([]) ∨ w.heap.size ≤ g := fun g hg => (hkc1 g (by simp [keys, hg])).elim (fun h => by simp at h) (fun h => .inr (Nat.le_trans hF.size h))
  have st := st.callN hN1 hfO1 (fun k hk => (hkc1 k hk).elim (fun h => by simp at h) id)
  have hF := hF.step0 hfO1
  have z9 := Ow.le how1
  have st : St X w3 [_, _, _] [_, _, _, _] := st
  refine ⟨(st.pk [0, 1] (by decide)).tK 4, ?_⟩
  refine Pl_a rfl (wtd0 rfl) (by rfl) ?_
  refine a_call rfl rfl rfl rfl (cloneTag_ok (keys (hOf st) ++ X) _ st.Lo s.setF.gone A2 C2 (st.q 1 rfl) (by assumption)) (fun v w4 ⟨Ao2, co2, spo2, hv, how2, hN2, hfO2, hkc2⟩ => ?_)
  subst hv
  have hnew2 : ∀ g, blkOf Ao2 = some g → g ∈ ([]) ∨ w.heap.size ≤ g := fun g hg => (hkc2 g (by simp [keys, hg])).elim (fun h => by simp at h) (fun h => .inr (Nat.le_trans hF.size h))
  have st := st.callN hN2 hfO2 (fun k hk => (hkc2 k hk).elim (fun h => by simp at h) id)
  have hF := hF.step0 hfO2
  have z10 := Ow.le how2
  have st : St X w4 [_, _, _, _] [_, _, _, _] := st
  refine ⟨(st.pk [0, 1] (by decide)).tK 4, ?_⟩
  refine Py rfl (y_build (cells := [_, _]) rfl rfl Ty.zc_52 Ty.ps_52 rfl) (Py rfl (yf rfl Ty.fo_57_3) (Pl_nil (Fin_a rfl (wtd0 rfl) (Ssm 0 Ty.sz_52 st hF (.inr hg1) rfl fun w5 (st : St _ _ [(_, Cl [_, _, _, _, _, _, _, _, _, _] _), _, _, _] _) hF => id (Th_n (k2 _ _ (sq fun _ k3 => ?_)))))))
  refine Wp_planF (fun W => St X W (pickL (hOf st) [0, 1, 2, 3]) (kOf st)) [(true, 0), (true, 1), (true, 2), (true, 4), (true, 5), (true, 6), (false, 3), (false, 7), (true, 8), (true, 9)] 10 Ty.mx_0 (by kernel_rfl) (by kernel_rfl) (by kernel_rfl) rfl ((st.pk [0, 1, 2, 3] (by decide)).drew) ?_
  have st := st.drew
  have hF := hF.step0 (Fr.drew _)
  refine Py rfl (yf rfl Ty.fo_57_4) (Py rfl (yf rfl Ty.fo_55_0) (Py rfl (y_load (i := 0) rfl rfl Ty.pl_53 (fun _ h => h.hp) rfl rfl) (Py rfl (yf rfl Ty.fo_57_4) (Py rfl (yf rfl Ty.fo_55_1) (Py rfl (y_load (i := 0) rfl rfl Ty.pl_30 (fun _ h => h.hp) rfl rfl) (Pl_a rfl (wtd0 rfl) (by rfl) ?_))))))
  refine a_call rfl rfl rfl rfl (clonePut_ok (keys (hOf st) ++ X) _ st.Lo s.map.puts A4 C4 (st.q 2 rfl) h3) (fun v w6 ⟨Ao3, co3, spo3, hv, how3, hN3, hfO3, hkc3⟩ => ?_)
  subst hv
  have hnew3 : ∀ g, blkOf Ao3 = some g → g ∈ ([]) ∨ w.heap.size ≤ g := fun g hg => (hkc3 g (by simp [keys, hg])).elim (fun h => by simp at h) (fun h => .inr (Nat.le_trans hF.size h))
  have st := st.callN hN3 hfO3 (fun k hk => (hkc3 k hk).elim (fun h => by simp at h) id)
  have hF := hF.step0 hfO3
  have z11 := Ow.le how3
  have st : St X w6 [_, _, _, _, _] [_, _, _, _] := st
  refine ⟨(st.pk [0, 1, 2, 3] (by decide)).tK 4, ?_⟩
  refine Pl_a rfl (wtd0 rfl) (by rfl) ?_
  refine a_call rfl rfl rfl rfl (cloneTag_ok (keys (hOf st) ++ X) _ st.Lo s.map.gone A3 C3 (st.q 3 rfl) (by assumption)) (fun v w7 ⟨Ao4, co4, spo4, hv, how4, hN4, hfO4, hkc4⟩ => ?_)
  subst hv
  have hnew4 : ∀ g, blkOf Ao4 = some g → g ∈ ([]) ∨ w.heap.size ≤ g := fun g hg => (hkc4 g (by simp [keys, hg])).elim (fun h => by simp at h) (fun h => .inr (Nat.le_trans hF.size h))
  have st := st.callN hN4 hfO4 (fun k hk => (hkc4 k hk).elim (fun h => by simp at h) id)
  have hF := hF.step0 hfO4
  have z12 := Ow.le how4
  have st : St X w7 [_, _, _, _, _, _] [_, _, _, _] := st
  refine ⟨(st.pk [0, 1, 2, 3] (by decide)).tK 4, ?_⟩
  refine Py rfl (y_build (cells := [_, _]) rfl rfl Ty.zc_55 Ty.ps_55 rfl) (Py rfl (yf rfl Ty.fo_57_4) (Pl_nil (Fin_a rfl (wtd0 rfl) (Ssm 0 Ty.sz_55 st hF (.inr hg1) rfl fun w8 (st : St _ _ [(_, Cl [_, _, _, _, _, _, _, _, _, _] _), _, _, _, _, _] _) hF => id (Th_n (k3 _ _ (sq fun _ k4 => rg (Ly rfl (yw 0 Ty.ag_57 st rfl) (La rfl (Ssw 1 Ty.sz_57 st hF (.inr hg2) rfl fun w9 (st : St _ _ [_, _, _, _, _, _] _) hF => Ln k4 ?_))))))))))
  have st : St X w9 [_, _, _, _, _] [_, _, _, _, _] := st.freeze (i := 2) [0, 1, 3, 4, 5] (by decide) rfl how1 (by decide)
  have st : St X w9 [_, _, _, _] [_, _, _, _, _, _] := st.freeze (i := 2) [0, 1, 3, 4] (by decide) rfl how2 (by decide)
  have st : St X w9 [_, _, _] [_, _, _, _, _, _, _] := st.freeze (i := 2) [0, 1, 3] (by decide) rfl how3 (by decide)
  have st : St X w9 [_, _] [_, _, _, _, _, _, _, _] := st.freeze (i := 2) [0, 1] (by decide) rfl how4 (by decide)
  refine wR (fR (ResN1 rfl (rvc (i := 1) rfl Ty.ag_57 st.hp rfl rfl)) ?_)
  unfold oown_m
  exact ⟨_, _, _, _, _, _, _, _, rfl, st.ot 4 rfl, st.ot 5 rfl, st.ot 6 rfl, st.ot 7 rfl, hF⟩
end Go.Proofs.YtdckemiebnfjcaaGreatDoor
end

section
set_option linter.unusedSimpArgs false
set_option linter.unusedVariables false
set_option maxRecDepth 20000
namespace Go.Proofs.YtdckemiebnfjcaaGreatDoor
open Go.RowKit
def to14_m (s : ObjM) : ObjM :=
  (⟨s.kind, (⟨(to10_m s.reg).val, (⟨(to10_m s.reg).atF.time, (to10_m s.reg).atF.origin⟩ : StampM)⟩ : RegM), (⟨(to11_m s.num).plus, (to11_m s.num).minus⟩ : NumM), (⟨(to12_m s.setF).adds, (to12_m s.setF).gone⟩ : SetM), (⟨(to13_m s.map).puts, (to13_m s.map).gone⟩ : MapM)⟩ : ObjM)
theorem to14_ok (X : List Nat) (w : World) (hX : Lo X w) (s : ObjM) (A1 : Option Addr) (C1 : Nat) (A2 : Option Addr) (C2 : Nat) (A4 : Option Addr) (C4 : Nat) (A3 : Option Addr) (C3 : Nat) (z5 : Sld X w A1 s.setF.adds.length C1 4 (s.setF.adds.flatMap addMC)) (z6 : Sld X w A2 s.setF.gone.length C2 3 (s.setF.gone.flatMap tagMC)) (z8 : Sld X w A4 s.map.puts.length C4 7 (s.map.puts.flatMap putMC)) (z7 : Sld X w A3 s.map.gone.length C3 3 (s.map.gone.flatMap tagMC)) (h1 : s.setF.adds.length ≤ 1000000) (h2 : s.setF.gone.length ≤ 1000000) (h3 : s.map.puts.length ≤ 1000000) (h4 : s.map.gone.length ≤ 1000000) :
    Fn Tryz.prog 6 [.agg #[.int .i64 s.kind, .int .i64 s.reg.val, .int .u32 s.reg.atF.time, .int .i64 s.reg.atF.origin, .int .i64 s.num.plus, .int .i64 s.num.minus, .slice A1 s.setF.adds.length C1, .slice A2 s.setF.gone.length C2, .slice A4 s.map.puts.length C4, .slice A3 s.map.gone.length C3]] w fun v w' => ∃ (A5 : Option Addr) (C5 : Nat) (A6 : Option Addr) (C6 : Nat) (A8 : Option Addr) (C8 : Nat) (A7 : Option Addr) (C7 : Nat), v = .agg #[.int .i64 ((to14_m s).kind), .int .i64 (((to14_m s).reg).val), .int .u32 (((to14_m s).reg).atF.time), .int .i64 (((to14_m s).reg).atF.origin), .int .i64 (((to14_m s).num).plus), .int .i64 (((to14_m s).num).minus), .slice A5 (((to14_m s).setF).adds).length C5, .slice A6 (((to14_m s).setF).gone).length C6, .slice A8 (((to14_m s).map).puts).length C8, .slice A7 (((to14_m s).map).gone).length C7] ∧ Sld X w' A5 (((to14_m s).setF).adds).length C5 4 ((((to14_m s).setF).adds).flatMap addMC) ∧ Sld X w' A6 (((to14_m s).setF).gone).length C6 3 ((((to14_m s).setF).gone).flatMap tagMC) ∧ Sld X w' A8 (((to14_m s).map).puts).length C8 7 ((((to14_m s).map).puts).flatMap putMC) ∧ Sld X w' A7 (((to14_m s).map).gone).length C7 3 ((((to14_m s).map).gone).flatMap tagMC) ∧ Fr [] w w' := by
  refine Fn_of 18 Ty.en_6 Tryz.func6 rfl rfl rfl ?_
  dsimp only [argEnv]
  have st := stn4 hX z5 z6 z8 z7
  have hF := Fr.refl ([]) w
  have z1 := (st.q 0 rfl).le
  have z2 := (st.q 1 rfl).le
  have z4 := (st.q 2 rfl).le
  have z3 := (st.q 3 rfl).le
  refine sq fun _ k1 => rg (La rfl (Sbx st hF rfl fun g1 w1 (st : St _ _ [_] _) hF hg1 => La rfl (Sal Ty.zc_57 st hF rfl fun g2 w2 (st : St _ _ [_, _] _) hF hg2 => Ln k1 (sq fun _ k2 => ?_))))
  refine Wp_planF (fun W => St X W (pickL (hOf st) [0, 1]) (kOf st)) [(true, 0), (true, 1), (true, 2), (true, 3), (true, 5), (true, 6), (true, 8), (true, 9), (true, 11), (true, 12), (false, 4), (false, 7), (false, 10), (false, 13), (true, 14)] 15 Ty.mx_0 (by kernel_rfl) (by kernel_rfl) (by kernel_rfl) rfl ((st.pk [0, 1] (by decide)).drew) ?_
  have st := st.drew
  have hF := hF.step0 (Fr.drew _)
  refine Py rfl (yf rfl Ty.fo_37_0) (Py rfl (y_load (i := 0) rfl rfl Ty.pl_3 (fun _ h => h.hp) rfl rfl) (Py rfl (yf rfl Ty.fo_37_1) (Py rfl (y_loadm (i := 0) rfl rfl Ty.ag_26 (fun _ h => h.hp) rfl rfl rfl) (Py rfl (yf rfl Ty.fo_37_2) (Py rfl (y_loadm (i := 0) rfl rfl Ty.ag_28 (fun _ h => h.hp) rfl rfl rfl) (Py rfl (yf rfl Ty.fo_37_3) (Py rfl (y_loadm (i := 0) rfl rfl Ty.ag_32 (fun _ h => h.hp) rfl rfl rfl) (Py rfl (yf rfl Ty.fo_37_4) (Py rfl (y_loadm (i := 0) rfl rfl Ty.ag_35 (fun _ h => h.hp) rfl rfl rfl) (Pl_a rfl (wtd0 rfl) (by rfl) ?_))))))))))
  refine Scl st hF rfl (to10_ok _ s.reg) fun w3 st hF => ?_
  refine ⟨(st.pk [0, 1] (by decide)).tK 4, ?_⟩
  refine Pl_a rfl (wtd0 rfl) (by rfl) ?_
  refine Scl st hF rfl (to11_ok _ s.num) fun w4 st hF => ?_
  refine ⟨(st.pk [0, 1] (by decide)).tK 4, ?_⟩
  refine Pl_a rfl (wtd0 rfl) (by rfl) ?_
  refine a_call rfl rfl rfl rfl (to12_ok (keys (hOf st) ++ X) _ st.Lo s.setF A1 C1 A2 C2 (st.q 0 rfl) (st.q 1 rfl) h1 h2) (fun v w5 ⟨Ar1, cr1, Ar2, cr2, hv, hr1, hr2, hf⟩ => ?_)
  subst hv
  have st := st.keep0 hf
  have hF := hF.step0 hf
  have z9 := Sld.le hr1
  have st := st.addK (kS Ar1 ((to12_m s.setF).adds).length cr1 4 (((to12_m s.setF).adds).flatMap addMC)) hr1
  have z10 := Sld.le hr2
  have st := st.addK (kS Ar2 ((to12_m s.setF).gone).length cr2 3 (((to12_m s.setF).gone).flatMap tagMC)) hr2
  have st : St X w5 [_, _] [_, _, _, _, _, _] := st
  refine ⟨(st.pk [0, 1] (by decide)).tK 4, ?_⟩
  refine Pl_a rfl (wtd0 rfl) (by rfl) ?_
  refine a_call rfl rfl rfl rfl (to13_ok (keys (hOf st) ++ X) _ st.Lo s.map A4 C4 A3 C3 (st.q 2 rfl) (st.q 3 rfl) h3 h4) (fun v w6 ⟨Ar3, cr3, Ar4, cr4, hv, hr3, hr4, hf⟩ => ?_)
  subst hv
  have st := st.keep0 hf
  have hF := hF.step0 hf
  have z11 := Sld.le hr3
  have st := st.addK (kS Ar3 ((to13_m s.map).puts).length cr3 7 (((to13_m s.map).puts).flatMap putMC)) hr3
  have z12 := Sld.le hr4
  have st := st.addK (kS Ar4 ((to13_m s.map).gone).length cr4 3 (((to13_m s.map).gone).flatMap tagMC)) hr4
  have st : St X w6 [_, _] [_, _, _, _, _, _, _, _] := st
  refine ⟨(st.pk [0, 1] (by decide)).tK 4, ?_⟩
  refine Py rfl (y_build (cells := [_, _, _, _, _, _, _, _, _, _]) rfl rfl Ty.zc_57 Ty.ps_57 rfl) (Pl_nil (Fin_a rfl (wtd0 rfl) (Ssw 1 Ty.sz_57 st hF (.inr hg2) rfl fun w7 (st : St _ _ [_, _] _) hF => id (Th_n (k2 _ _ (wR (fR (ResN1 rfl (rvc (i := 1) rfl Ty.ag_57 st.hp rfl rfl)) ?_)))))))
  unfold to14_m
  exact ⟨_, _, _, _, _, _, _, _, rfl, st.ot 4 rfl, st.ot 5 rfl, st.ot 6 rfl, st.ot 7 rfl, hF⟩
def fromEff_m (e : EffectM) : EffectM :=
  e
theorem fromEff_ok (X : List Nat) (w : World) (hX : Lo X w) (e : EffectM) (A1 : Option Addr) (C1 : Nat) (z2 : Sld X w A1 e.tags.length C1 3 (e.tags.flatMap tagMC)) :
    Fn Tryz.prog 12 [.agg #[.int .i64 e.act, sv e.name, .int .i64 e.val, .int .i64 e.tag.id.origin, .int .u32 e.tag.id.seq, .int .i64 e.tag.n, .int .u32 e.atF.time, .int .i64 e.atF.origin, .slice A1 e.tags.length C1]] w fun v w' => ∃ (A2 : Option Addr) (C2 : Nat), v = .agg #[.int .i64 ((fromEff_m e).act), sv ((fromEff_m e).name), .int .i64 ((fromEff_m e).val), .int .i64 (((fromEff_m e).tag).id.origin), .int .u32 (((fromEff_m e).tag).id.seq), .int .i64 (((fromEff_m e).tag).n), .int .u32 (((fromEff_m e).atF).time), .int .i64 (((fromEff_m e).atF).origin), .slice A2 ((fromEff_m e).tags).length C2] ∧ Sld X w' A2 ((fromEff_m e).tags).length C2 3 (((fromEff_m e).tags).flatMap tagMC) ∧ Fr [] w w' := by
  refine Fn_of 16 Ty.en_12 Tryz.func12 rfl rfl rfl ?_
  dsimp only [argEnv]
  have st := stn1 hX z2
  have hF := Fr.refl ([]) w
  have z1 := (st.q 0 rfl).le
  refine sq fun _ k1 => rg (La rfl (Sbx st hF rfl fun g1 w1 (st : St _ _ [_] _) hF hg1 => La rfl (Sal Ty.zc_47 st hF rfl fun g2 w2 (st : St _ _ [_, _] _) hF hg2 => Ln k1 (sq fun _ k2 => rg (Ly rfl (yf rfl Ty.fo_59_0) (Ly rfl (yl 0 Ty.pl_3 st rfl) (Ly rfl (yf rfl Ty.fo_59_1) (Ly rfl (yl 0 Ty.pl_9 st rfl) (Ly rfl (yf rfl Ty.fo_59_2) (Ly rfl (yl 0 Ty.pl_2 st rfl) (Ly rfl (yf rfl Ty.fo_59_3) (Ly rfl (ym 0 Ty.ag_43 st rfl) (Ly rfl (yf rfl Ty.fo_59_4) (Ly rfl (ym 0 Ty.ag_24 st rfl) (Ly rfl (yf rfl Ty.fo_59_5) (Ly rfl (yl 0 Ty.pl_30 st rfl) (Ly rfl (y_build (cells := [_, _, _, _, _, _, _, _, _]) rfl rfl Ty.zc_47 Ty.ps_47 rfl) (La rfl (Ssw 1 Ty.sz_47 st hF (.inr hg2) rfl fun w3 (st : St _ _ [_, _] _) hF => Ln k2 (wR (fR (ResN1 rfl (rvc (i := 1) rfl Ty.ag_47 st.hp rfl rfl)) ?_)))))))))))))))))))))
  unfold fromEff_m
  exact ⟨_, _, rfl, st.ot 0 rfl, hF⟩
end Go.Proofs.YtdckemiebnfjcaaGreatDoor
end

section
set_option linter.unusedSimpArgs false
set_option linter.unusedVariables false
set_option maxRecDepth 20000
namespace Go.Proofs.YtdckemiebnfjcaaGreatDoor
open Go.RowKit
def compactTag_L2 (s : List TagM) (s3 : Int) (r0 : List TagM) : Nat → Int → Int → (List TagM) → ((List TagM)) ⊕ (Int × Int × (List TagM))
  | 0, s3', s5, r0' => .inr (s3', s5, r0')
  | fuel + 1, s3', s5, r0' =>
    if s5 < ((s.length - s3.toNat : Nat) : Int) then
      if ix r0' (s3 + s5) = ix r0' (s3 + (s5 - 1)) then
        compactTag_L2 s s3 r0 fuel s3' (s5 + 1) r0'
      else
        compactTag_L2 s s3 r0 fuel (s3' + 1) (s5 + 1) (r0'.set s3'.toNat (ix r0' (s3 + s5)))
    else
      .inr (s3', s5, r0')
def compactTag_L1 (s : List TagM) : Nat → Int → (List TagM) → ((List TagM)) ⊕ (Int × (List TagM))
  | 0, s3, r0 => .inr (s3, r0)
  | fuel + 1, s3, r0 =>
    if s3 < (s.length : Int) then
      if ix r0 s3 = ix r0 (s3 - 1) then
        match compactTag_L2 s s3 r0 (((s.length : Int) - (1 : Int)).toNat + 1) s3 (1 : Int) r0 with
        | .inl r => .inl r
        | .inr (s3', s5, r0') =>
          .inl ((r0'.take s3'.toNat ++ List.replicate (r0'.length - s3'.toNat) (⟨(⟨0, 0⟩ : IdM), 0⟩ : TagM)).take s3'.toNat)
      else
        compactTag_L1 s fuel (s3 + 1) r0
    else
      .inr (s3, r0)
def compactTag_m (s : List TagM) : (List TagM) :=
  if (s.length : Int) < 2 then
    s
  else
    match compactTag_L1 s (((s.length : Int) - (1 : Int)).toNat + 1) (1 : Int) s with
    | .inl r => r
    | .inr (s3, r0) =>
      r0
theorem compactTag_ok (X : List Nat) (w : World) (s : List TagM) (A_s : Option Addr) (c_s : Nat) (s1 : List Value) (hs : St X w [(blkOf A_s, Cl (s.flatMap tagMC ++ s1) 43)] []) (z4 : Ow A_s s.length c_s 3 (s.flatMap tagMC) s1) :
    Fn Tryz.prog 88 [.slice A_s s.length c_s] w fun v w' => ∃ (A' : Option Addr) (c' : Nat) (sp' : List Value), v = .slice A' (compactTag_m s).length c' ∧ Ow A' (compactTag_m s).length c' 3 ((compactTag_m s).flatMap tagMC) sp' ∧ St X w' [(blkOf A', Cl ((compactTag_m s).flatMap tagMC ++ sp') 43)] [] ∧ Fr (keys [(blkOf A_s, Cl (s.flatMap tagMC ++ s1) 43)]) w w' ∧ (∀ k ∈ keys [(blkOf A', Cl ((compactTag_m s).flatMap tagMC ++ sp') 43)], k ∈ (keys [(blkOf A_s, Cl (s.flatMap tagMC ++ s1) 43)]) ∨ w.heap.size ≤ k) := by
  refine Fn_of 61 Ty.en_88 Tryz.func88 rfl rfl rfl ?_
  dsimp only [argEnv]
  have hs0 := hs
  have st : St X w [(blkOf A_s, Cl (s.flatMap tagMC ++ s1) 43)] [] := hs
  have z2 : ∀ g, blkOf A_s = some g → g ∈ (keys [(blkOf A_s, Cl (s.flatMap tagMC ++ s1) 43)]) ∨ w.heap.size ≤ g := fun g hg => .inl (by simp [keys, hg])
  have z3 := Ow.le z4
  have hF := Fr.refl (keys [(blkOf A_s, Cl (s.flatMap tagMC ++ s1) 43)]) w
  refine sq fun _ k1 => rg (Ls' rfl (Ln k1 (sq fun _ k2 => sq fun _ k3 => rg (Lm rfl (Ly rfl (yll rfl Tryz.underlying30) (Ly rfl (ylt rfl) (Ln k3 (cD rfl (fun hc1 => ?_) (fun hc1 => ?_)))))))))
  · refine sq fun _ k4 => rg (Lm rfl (Ls' rfl (Ln k4 (wR (Th_r (fR (Res1 rfl rfl) ?_))))))
    unfold compactTag_m; rewrite [iP hc1]
    exact ⟨_, _, _, rfl, z4, (st.pk [0] (by decide)).pickK [], hF, kc_b z2 kc_n⟩
  refine sk k2 (sq fun _ k5 => sq fun _ k6 => rg (Ls' rfl (Ln k6 (Wp_block (lp (fun q E W => ∃ (s3 : Int) (r0 : List TagM), E = [(0, .slice A_s s.length c_s), (3, .int .i64 s3)] ∧ jq q (fun m => (compactTag_L1 s m s3 r0 = compactTag_L1 s (((s.length : Int) - (1 : Int)).toNat + 1) (1 : Int) s ∧ ((s.length : Int) - s3).toNat < m)) (compactTag_L1 s (((s.length : Int) - (1 : Int)).toNat + 1) (1 : Int) s = .inr (s3, r0)) ∧ (1 ≤ s3 ∧ 1 ≤ s3) ∧ Ow A_s s.length c_s 3 (r0.flatMap tagMC) s1 ∧ (r0.length = s.length) ∧ St X W [(blkOf A_s, Cl (r0.flatMap tagMC ++ s1) 43)] [] ∧ Fr (keys [(blkOf A_s, Cl (s.flatMap tagMC ++ s1) 43)]) w W) (((s.length : Int) - (1 : Int)).toNat + 1) [(0, _), (3, _)] ⟨rfl, rfl, trivial⟩ ⟨_, _, rfl, ⟨rfl, Nat.lt_succ_self _⟩, by first | omega | (simp; done) | (simp; omega), z4, rfl, st, hF⟩ k5 ?_ fun hout1 => ?_)))))
  · rintro E w1 ⟨s3, r0, rfl, hLk1, hinv, howr0, hlmr0, st, hF⟩
    unfold jq at hLk1; dsimp only at hLk1
    refine sq fun _ k7 => rg (Lm rfl (Ls' rfl (Ln k7 (wR (fR (Res1 rfl rfl) ?_)))))
    unfold compactTag_m; rewrite [iN hc1, hLk1]; (try dsimp only)
    exact ⟨A_s, c_s, s1, by rw [hlmr0], by rw [hlmr0]; exact howr0, (st.pk [0] (by decide)).pickK [], hF, kc_b z2 kc_n⟩
  rintro m E w2 ⟨s3, r0, rfl, ⟨hL1, hmu⟩, hinv, howr0, hlmr0, st, hF⟩
  obtain ⟨fuel, rfl⟩ : ∃ q, m = q + 1 := ⟨m - 1, by omega⟩
  have z1 := Ow.le howr0
  refine sq fun _ k8 => sq fun _ k9 => rg (Lm rfl (Lm rfl (Ly rfl (yll rfl Tryz.underlying30) (Ly rfl (ylt rfl) (Ln k9 (cD rfl (fun hc2 => ?_) (fun hc2 => ?_)))))))
  · refine sk k8 (sq fun _ k10 => Wp_block (sq fun _ k11 => ?_))
    refine Wp_plan (fun W => St X W (pickL (hOf st) [0]) (kOf st)) [(true, 0), (true, 1), (true, 2), (true, 3), (true, 4), (true, 5), (true, 6), (true, 7), (true, 8), (true, 9)] Ty.mx_0 (by kernel_rfl) (by kernel_rfl) rfl ((st.pk [0] (by decide)).drew) ?_
    have st := st.drew
    have hF := hF.step0 (Fr.drew _)
    refine Pm rfl (Pm rfl ?_)
    obtain ⟨gi1, egi1⟩ := (howr0).some_ (by first | omega | (simp; done) | (simp; omega))
    subst egi1
    refine Py rfl (y_ixa (q := s3) rfl rfl rfl Ty.es_30 (by first | omega | (simp; done) | (simp; omega)) (by first | omega | (simp; done) | (simp; omega))) ?_
    refine Py rfl (y_ldk (q := s3) rfl rfl Ty.ag_43 (fun _ h => Sld.own (i := 0) h.hp rfl howr0 (by decide)) (fun _ => rfl) (by first | omega | (simp; done) | (simp; omega)) (by first | omega | (simp; done) | (simp; omega))) ?_
    refine Pm rfl (Pm rfl (Py rfl (y_sub (c := s3 - 1) rfl rfl rfl (wf_i64 (by first | omega | (simp; done) | (simp; omega)))) ?_))
    refine Py rfl (y_ixa (q := s3 - 1) rfl rfl rfl Ty.es_30 (by first | omega | (simp; done) | (simp; omega)) (by first | omega | (simp; done) | (simp; omega))) ?_
    refine Py rfl (y_ldk (q := s3 - 1) rfl rfl Ty.ag_43 (fun _ h => Sld.own (i := 0) h.hp rfl howr0 (by decide)) (fun _ => rfl) (by first | omega | (simp; done) | (simp; omega)) (by first | omega | (simp; done) | (simp; omega))) ?_
    refine Py rfl (y_eqv (b := decide (ix r0 s3 = ix r0 (s3 - 1))) rfl rfl rfl Ty.eg_43 (by rw [Ty.ag_43]; simp) (eqv_43 (ix r0 s3) (ix r0 (s3 - 1)))) ?_
    refine Pl_nil (Th_n (k11 _ _ (cD rfl (fun hc3 => ?_) (fun hc3 => ?_))))
    · refine sq fun _ k12 => rg (Lm rfl (Lm rfl (Ly rfl (y_cuttM (enc := tagMC) (xs := r0) (p := s3) rfl rfl (hlmr0).symm Ty.es_30 rfl rfl (by first | omega | (simp; done) | (simp; omega)) (by first | omega | (simp; done) | (simp; omega)) howr0) ?_)))
      refine Ls' rfl (Ln k12 (sq fun _ k13 => sq fun _ k14 => rg (Ls' rfl (Ln k14 (Wp_block (lp (fun q E W => ∃ (s3' : Int) (s5 : Int) (r0' : List TagM), E = [(0, .slice (some ⟨gi1, 0, none⟩) s.length c_s), (3, .int .i64 s3'), (4, .slice (some ⟨gi1, 0 + s3.toNat * 3, none⟩) (s.length - s3.toNat) (c_s - s3.toNat)), (5, .int .i64 s5)] ∧ jq q (fun m => (compactTag_L2 s s3 r0 m s3' s5 r0' = compactTag_L2 s s3 r0 (((s.length : Int) - (1 : Int)).toNat + 1) s3 (1 : Int) r0 ∧ ((s.length : Int) - s5).toNat < m)) (compactTag_L2 s s3 r0 (((s.length : Int) - (1 : Int)).toNat + 1) s3 (1 : Int) r0 = .inr (s3', s5, r0')) ∧ (1 ≤ s5 ∧ s3 ≤ s3' ∧ s3' < s3 + s5 ∧ s5 ≤ s.length - s3 ∧ 1 ≤ s3) ∧ Ow (some ⟨gi1, 0, none⟩) s.length c_s 3 (r0'.flatMap tagMC) s1 ∧ (r0'.length = s.length) ∧ St X W [(blkOf (some ⟨gi1, 0, none⟩), Cl (r0'.flatMap tagMC ++ s1) 43)] [] ∧ Fr (keys [(blkOf (some ⟨gi1, 0, none⟩), Cl (s.flatMap tagMC ++ s1) 43)]) w W) (((s.length : Int) - (1 : Int)).toNat + 1) [(0, _), (3, _), (4, _), (5, _)] ⟨rfl, rfl, rfl, rfl, trivial⟩ ⟨_, _, _, rfl, ⟨rfl, Nat.lt_succ_self _⟩, by first | omega | (simp; done) | (simp; omega), howr0, hlmr0, st, hF⟩ k13 ?_ fun hout2 => ?_))))))
      · rintro E w3 ⟨s3', s5, r0', rfl, hLk2, hinv, howr0', hlmr0', st, hF⟩
        unfold jq at hLk2; dsimp only at hLk2
        refine sq fun _ k15 => rg (Lm rfl (Lm rfl (Ly rfl (y_cuttM (enc := tagMC) (xs := r0') (p := s3') rfl rfl (hlmr0').symm Ty.es_30 rfl rfl (by first | omega | (simp; done) | (simp; omega)) (by first | omega | (simp; done) | (simp; omega)) howr0') ?_)))
        refine La rfl (a_clearM (i := 0) (enc := tagMC) (xs := r0') (u := (⟨(⟨0, 0⟩ : IdM), 0⟩ : TagM)) (p := s3') rfl rfl rfl (hlmr0').symm Ty.es_30 Ty.zc_43 rfl (fun _ => rfl) (by intro v hv; simp only [tagMC, List.mem_cons, List.not_mem_nil, or_false] at hv; rcases hv with rfl | rfl | rfl <;> rfl) howr0' (by first | omega | (simp; done) | (simp; omega)) (by first | omega | (simp; done) | (simp; omega)) st.hp rfl (fun w4 how1 (hp : Hp w4 [_]) hf => ?_))
        have st : St X w4 [_] [] := st.set (i := 0) rfl hp hf
        have st : St X w4 [_] [] := st
        have hF := hF.step hf (fun y hy => z2 y (by simp at hy; subst hy; rfl))
        have hln1 : (r0'.take s3'.toNat ++ List.replicate (r0'.length - s3'.toNat) (⟨(⟨0, 0⟩ : IdM), 0⟩ : TagM)).length = s.length := by simp only [List.length_append, List.length_take, List.length_replicate]; omega
        refine Ln k15 (sq fun _ k16 => rg (Lm rfl (Lm rfl (Ly rfl (y_cut0M (enc := tagMC) (xs := r0'.take s3'.toNat ++ List.replicate (r0'.length - s3'.toNat) (⟨(⟨0, 0⟩ : IdM), 0⟩ : TagM)) (q := s3') rfl rfl (hln1).symm Ty.es_30 rfl rfl (by first | omega | (simp; done) | (simp; omega)) (by first | omega | (simp; done) | (simp; omega)) how1) ?_))))
        have how2 := Ow.cut (enc := tagMC) (xs := r0'.take s3'.toNat ++ List.replicate (r0'.length - s3'.toNat) (⟨(⟨0, 0⟩ : IdM), 0⟩ : TagM)) (fun _ => rfl) how1 (hln1).symm s3'.toNat
        have st : St X _ [_] [] := st.conv (i := 0) rfl (cut_cells s3'.toNat)
        refine Ls' rfl (Ln k16 (wR (Ib_r (Th_r (Th_r (Ib_r (Th_r (fR (Res1 rfl rfl) ?_))))))))
        have hret1 : compactTag_L1 s (((s.length : Int) - (1 : Int)).toNat + 1) (1 : Int) s = .inl ((r0'.take s3'.toNat ++ List.replicate (r0'.length - s3'.toNat) (⟨(⟨0, 0⟩ : IdM), 0⟩ : TagM)).take s3'.toNat) := by rewrite [← hL1, compactTag_L1]; rewrite [iP hc2, iP hc3, hLk2]; (try dsimp only); all_goals rfl
        have he3 : compactTag_m s = ((r0'.take s3'.toNat ++ List.replicate (r0'.length - s3'.toNat) (⟨(⟨0, 0⟩ : IdM), 0⟩ : TagM)).take s3'.toNat) := by unfold compactTag_m; rewrite [iN hc1, hret1]; (try dsimp only); all_goals rfl
        rewrite [he3]
        exact ⟨_, _, _, rfl, how2, (st.pk [0] (by decide)).pickK [], hF, kc_b z2 kc_n⟩
      rintro m E w5 ⟨s3', s5, r0', rfl, ⟨hL2, hmu⟩, hinv, howr0', hlmr0', st, hF⟩
      obtain ⟨fuel, rfl⟩ : ∃ q, m = q + 1 := ⟨m - 1, by omega⟩
      have hlehowr0' := Ow.le howr0'
      refine sq fun _ k17 => sq fun _ k18 => rg (Lm rfl (Lm rfl (Ly rfl (yll rfl Tryz.underlying30) (Ly rfl (ylt rfl) (Ln k18 (cD rfl (fun hc4 => ?_) (fun hc4 => ?_)))))))
      · refine sk k17 (sq fun _ k19 => Wp_block (sq fun _ k20 => ?_))
        refine Wp_plan (fun W => St X W (pickL (hOf st) [0]) (kOf st)) [(true, 0), (true, 1), (true, 2), (true, 3), (true, 4), (true, 5), (true, 6), (true, 7), (true, 8), (true, 9)] Ty.mx_0 (by kernel_rfl) (by kernel_rfl) rfl ((st.pk [0] (by decide)).drew) ?_
        have st := st.drew
        have hF := hF.step0 (Fr.drew _)
        refine Pm rfl (Pm rfl (Py rfl (y_ixav (p := s3) (q := s5) rfl rfl rfl Ty.es_30 (by first | omega | (simp; done) | (simp; omega)) (by first | omega | (simp; done) | (simp; omega)) (by first | omega | (simp; done) | (simp; omega))) ?_))
        refine Py rfl (y_ldk (q := s3 + s5) rfl rfl Ty.ag_43 (fun _ h => Sld.own (i := 0) h.hp rfl howr0' (by decide)) (fun _ => rfl) (by first | omega | (simp; done) | (simp; omega)) (by first | omega | (simp; done) | (simp; omega))) ?_
        refine Pm rfl (Pm rfl (Py rfl (y_sub (c := s5 - 1) rfl rfl rfl (wf_i64 (by first | omega | (simp; done) | (simp; omega)))) ?_))
        refine Py rfl (y_ixav (p := s3) (q := s5 - 1) rfl rfl rfl Ty.es_30 (by first | omega | (simp; done) | (simp; omega)) (by first | omega | (simp; done) | (simp; omega)) (by first | omega | (simp; done) | (simp; omega))) ?_
        refine Py rfl (y_ldk (q := s3 + (s5 - 1)) rfl rfl Ty.ag_43 (fun _ h => Sld.own (i := 0) h.hp rfl howr0' (by decide)) (fun _ => rfl) (by first | omega | (simp; done) | (simp; omega)) (by first | omega | (simp; done) | (simp; omega))) ?_
        refine Py rfl (y_nev (b := decide (ix r0' (s3 + s5) = ix r0' (s3 + (s5 - 1)))) rfl rfl rfl Ty.eg_43 (by rw [Ty.ag_43]; simp) (eqv_43 (ix r0' (s3 + s5)) (ix r0' (s3 + (s5 - 1))))) ?_
        refine Pl_nil (Th_n (k20 _ _ (cDn rfl (fun hc5 => ?_) (fun hc5 => ?_))))
        · refine sq fun _ k21 => rg (Lm rfl (Lm rfl (Lm rfl (Lm rfl (Ly rfl (y_ixav (p := s3) (q := s5) rfl rfl rfl Ty.es_30 (by first | omega | (simp; done) | (simp; omega)) (by first | omega | (simp; done) | (simp; omega)) (by first | omega | (simp; done) | (simp; omega))) ?_)))))
          refine Ly rfl (y_ldk (q := s3 + s5) rfl rfl Ty.ag_43 (fun _ e => e ▸ Sld.own (i := 0) st.hp rfl howr0' (by decide)) (fun _ => rfl) (by first | omega | (simp; done) | (simp; omega)) (by first | omega | (simp; done) | (simp; omega))) ?_
          refine Ly rfl (y_ixa (q := s3') rfl rfl rfl Ty.es_30 (by first | omega | (simp; done) | (simp; omega)) (by first | omega | (simp; done) | (simp; omega))) ?_
          refine La rfl (a_setrow (i := 0) (q := s3') (u := ix r0' (s3 + s5)) rfl rfl rfl rfl rfl (fun _ => rfl) Ty.sz_43 (by intro v hv; simp only [tagMC, List.mem_cons, List.not_mem_nil, or_false] at hv; rcases hv with rfl | rfl | rfl <;> rfl) howr0' st.hp rfl (by first | omega | (simp; done) | (simp; omega)) (by first | omega | (simp; done) | (simp; omega)) (by decide) (fun w6 how3 (hp : Hp w6 [_]) hf => ?_))
          have st : St X w6 [_] [] := st.set (i := 0) rfl hp hf
          have st : St X w6 [_] [] := st
          have hF := hF.step hf (fun y hy => z2 y (by simp at hy; subst hy; rfl))
          have hln2 : (r0'.set s3'.toNat (ix r0' (s3 + s5))).length = s.length := by rw [List.length_set]; exact hlmr0'
          rewrite [hln2] at how3
          refine Ln k21 (rg (Lm rfl (Ly rfl (y_add (c := s3' + 1) rfl rfl rfl (wf_i64 (by first | omega | (simp; done) | (simp; omega)))) ?_)))
          refine Ls' rfl (Ls_nil (Ib_n (Th_n (k19 _ _ (rg (Lm rfl (Ly rfl (y_add (c := s5 + 1) rfl rfl rfl (wf_i64 (by first | omega | (simp; done) | (simp; omega)))) ?_)))))))
          refine Ls' rfl (Ls_nil (Th_n (?_)))
          exact ⟨fuel, [(0, _), (3, _), (4, _), (5, _)], Nat.lt_succ_self _, ⟨rfl, rfl, rfl, rfl, trivial⟩, (s3' + 1), (s5 + 1), (r0'.set s3'.toNat (ix r0' (s3 + s5))), rfl, ⟨by rewrite [← hL2, compactTag_L2]; rewrite [iP hc4, iN hc5]; rfl, by first | omega | (simp; done) | (simp; omega)⟩, by first | omega | (simp; done) | (simp; omega), how3, hln2, (st.pk [0] (by decide)).pickK [], hF⟩
        refine Wp_skip (Ib_n (Th_n (k19 _ _ (rg (Lm rfl (Ly rfl (y_add (c := s5 + 1) rfl rfl rfl (wf_i64 (by first | omega | (simp; done) | (simp; omega)))) ?_))))))
        refine Ls' rfl (Ls_nil (Th_n (?_)))
        exact ⟨fuel, [(0, _), (3, _), (4, _), (5, _)], Nat.lt_succ_self _, ⟨rfl, rfl, rfl, rfl, trivial⟩, s3', (s5 + 1), r0', rfl, ⟨by rewrite [← hL2, compactTag_L2]; rewrite [iP hc4, iP hc5]; rfl, by first | omega | (simp; done) | (simp; omega)⟩, by first | omega | (simp; done) | (simp; omega), howr0', hlmr0', (st.pk [0] (by decide)).pickK [], hF⟩
      refine Wp_exit (Th_e (Th_e (Ib_hit (Th_n (?_)))))
      exact hout2 _ [(0, _), (3, _), (4, _), (5, _)] _ ⟨rfl, rfl, rfl, rfl, trivial⟩ ⟨s3', s5, r0', rfl, show _ = _ from by rewrite [← hL2, compactTag_L2]; rewrite [iN hc4]; rfl, by first | omega | (simp; done) | (simp; omega), howr0', hlmr0', (st.pk [0] (by decide)).pickK [], hF⟩
    refine Wp_skip (Ib_n (Th_n (k10 _ _ (rg (Lm rfl (Ly rfl (y_add (c := s3 + 1) rfl rfl rfl (wf_i64 (by first | omega | (simp; done) | (simp; omega)))) ?_))))))
    refine Ls' rfl (Ls_nil (Th_n (?_)))
    exact ⟨fuel, [(0, _), (3, _)], Nat.lt_succ_self _, ⟨rfl, rfl, trivial⟩, (s3 + 1), r0, rfl, ⟨by rewrite [← hL1, compactTag_L1]; rewrite [iP hc2, iN hc3]; rfl, by first | omega | (simp; done) | (simp; omega)⟩, by first | omega | (simp; done) | (simp; omega), howr0, hlmr0, (st.pk [0] (by decide)).pickK [], hF⟩
  refine Wp_exit (Th_e (Th_e (Ib_hit (Th_n (?_)))))
  exact hout1 _ [(0, _), (3, _)] _ ⟨rfl, rfl, trivial⟩ ⟨s3, r0, rfl, show _ = _ from by rewrite [← hL1, compactTag_L1]; rewrite [iN hc2]; rfl, by first | omega | (simp; done) | (simp; omega), howr0, hlmr0, (st.pk [0] (by decide)).pickK [], hF⟩
def compactStr_L2 (s : List (List UInt8)) (s3 : Int) (r0 : List (List UInt8)) : Nat → Int → Int → (List (List UInt8)) → ((List (List UInt8))) ⊕ (Int × Int × (List (List UInt8)))
  | 0, s3', s5, r0' => .inr (s3', s5, r0')
  | fuel + 1, s3', s5, r0' =>
    if s5 < ((s.length - s3.toNat : Nat) : Int) then
      if (ix r0' (s3 + s5)) = (ix r0' (s3 + (s5 - 1))) then
        compactStr_L2 s s3 r0 fuel s3' (s5 + 1) r0'
      else
        compactStr_L2 s s3 r0 fuel (s3' + 1) (s5 + 1) (r0'.set s3'.toNat (ix r0' (s3 + s5)))
    else
      .inr (s3', s5, r0')
def compactStr_L1 (s : List (List UInt8)) : Nat → Int → (List (List UInt8)) → ((List (List UInt8))) ⊕ (Int × (List (List UInt8)))
  | 0, s3, r0 => .inr (s3, r0)
  | fuel + 1, s3, r0 =>
    if s3 < (s.length : Int) then
      if (ix r0 s3) = (ix r0 (s3 - 1)) then
        match compactStr_L2 s s3 r0 (((s.length : Int) - (1 : Int)).toNat + 1) s3 (1 : Int) r0 with
        | .inl r => .inl r
        | .inr (s3', s5, r0') =>
          .inl ((r0'.take s3'.toNat ++ List.replicate (r0'.length - s3'.toNat) []).take s3'.toNat)
      else
        compactStr_L1 s fuel (s3 + 1) r0
    else
      .inr (s3, r0)
def compactStr_m (s : List (List UInt8)) : (List (List UInt8)) :=
  if (s.length : Int) < 2 then
    s
  else
    match compactStr_L1 s (((s.length : Int) - (1 : Int)).toNat + 1) (1 : Int) s with
    | .inl r => r
    | .inr (s3, r0) =>
      r0
theorem compactStr_ok (X : List Nat) (w : World) (s : List (List UInt8)) (A_s : Option Addr) (c_s : Nat) (s1 : List Value) (hs : St X w [(blkOf A_s, Cl (s.flatMap (fun x => [sv x]) ++ s1) 9)] []) (z4 : Ow A_s s.length c_s 1 (s.flatMap (fun x => [sv x])) s1) :
    Fn Tryz.prog 101 [.slice A_s s.length c_s] w fun v w' => ∃ (A' : Option Addr) (c' : Nat) (sp' : List Value), v = .slice A' (compactStr_m s).length c' ∧ Ow A' (compactStr_m s).length c' 1 ((compactStr_m s).flatMap (fun x => [sv x])) sp' ∧ St X w' [(blkOf A', Cl ((compactStr_m s).flatMap (fun x => [sv x]) ++ sp') 9)] [] ∧ Fr (keys [(blkOf A_s, Cl (s.flatMap (fun x => [sv x]) ++ s1) 9)]) w w' ∧ (∀ k ∈ keys [(blkOf A', Cl ((compactStr_m s).flatMap (fun x => [sv x]) ++ sp') 9)], k ∈ (keys [(blkOf A_s, Cl (s.flatMap (fun x => [sv x]) ++ s1) 9)]) ∨ w.heap.size ≤ k) := by
  refine Fn_of 61 Ty.en_101 Tryz.func101 rfl rfl rfl ?_
  dsimp only [argEnv]
  have hs0 := hs
  have st : St X w [(blkOf A_s, Cl (s.flatMap (fun x => [sv x]) ++ s1) 9)] [] := hs
  have z2 : ∀ g, blkOf A_s = some g → g ∈ (keys [(blkOf A_s, Cl (s.flatMap (fun x => [sv x]) ++ s1) 9)]) ∨ w.heap.size ≤ g := fun g hg => .inl (by simp [keys, hg])
  have z3 := Ow.le z4
  have hF := Fr.refl (keys [(blkOf A_s, Cl (s.flatMap (fun x => [sv x]) ++ s1) 9)]) w
  refine sq fun _ k1 => rg (Ls' rfl (Ln k1 (sq fun _ k2 => sq fun _ k3 => rg (Lm rfl (Ly rfl (yll rfl Tryz.underlying134) (Ly rfl (ylt rfl) (Ln k3 (cD rfl (fun hc1 => ?_) (fun hc1 => ?_)))))))))
  · refine sq fun _ k4 => rg (Lm rfl (Ls' rfl (Ln k4 (wR (Th_r (fR (Res1 rfl rfl) ?_))))))
    unfold compactStr_m; rewrite [iP hc1]
    exact ⟨_, _, _, rfl, z4, (st.pk [0] (by decide)).pickK [], hF, kc_b z2 kc_n⟩
  refine sk k2 (sq fun _ k5 => sq fun _ k6 => rg (Ls' rfl (Ln k6 (Wp_block (lp (fun q E W => ∃ (s3 : Int) (r0 : List (List UInt8)), E = [(0, .slice A_s s.length c_s), (3, .int .i64 s3)] ∧ jq q (fun m => (compactStr_L1 s m s3 r0 = compactStr_L1 s (((s.length : Int) - (1 : Int)).toNat + 1) (1 : Int) s ∧ ((s.length : Int) - s3).toNat < m)) (compactStr_L1 s (((s.length : Int) - (1 : Int)).toNat + 1) (1 : Int) s = .inr (s3, r0)) ∧ (1 ≤ s3 ∧ 1 ≤ s3) ∧ Ow A_s s.length c_s 1 (r0.flatMap (fun x => [sv x])) s1 ∧ (r0.length = s.length) ∧ St X W [(blkOf A_s, Cl (r0.flatMap (fun x => [sv x]) ++ s1) 9)] [] ∧ Fr (keys [(blkOf A_s, Cl (s.flatMap (fun x => [sv x]) ++ s1) 9)]) w W) (((s.length : Int) - (1 : Int)).toNat + 1) [(0, _), (3, _)] ⟨rfl, rfl, trivial⟩ ⟨_, _, rfl, ⟨rfl, Nat.lt_succ_self _⟩, by first | omega | (simp; done) | (simp; omega), z4, rfl, st, hF⟩ k5 ?_ fun hout1 => ?_)))))
  · rintro E w1 ⟨s3, r0, rfl, hLk1, hinv, howr0, hlmr0, st, hF⟩
    unfold jq at hLk1; dsimp only at hLk1
    refine sq fun _ k7 => rg (Lm rfl (Ls' rfl (Ln k7 (wR (fR (Res1 rfl rfl) ?_)))))
    unfold compactStr_m; rewrite [iN hc1, hLk1]; (try dsimp only)
    exact ⟨A_s, c_s, s1, by rw [hlmr0], by rw [hlmr0]; exact howr0, (st.pk [0] (by decide)).pickK [], hF, kc_b z2 kc_n⟩
  rintro m E w2 ⟨s3, r0, rfl, ⟨hL1, hmu⟩, hinv, howr0, hlmr0, st, hF⟩
  obtain ⟨fuel, rfl⟩ : ∃ q, m = q + 1 := ⟨m - 1, by omega⟩
  have z1 := Ow.le howr0
  refine sq fun _ k8 => sq fun _ k9 => rg (Lm rfl (Lm rfl (Ly rfl (yll rfl Tryz.underlying134) (Ly rfl (ylt rfl) (Ln k9 (cD rfl (fun hc2 => ?_) (fun hc2 => ?_)))))))
  · refine sk k8 (sq fun _ k10 => Wp_block (sq fun _ k11 => ?_))
    refine Wp_plan (fun W => St X W (pickL (hOf st) [0]) (kOf st)) [(true, 0), (true, 1), (true, 2), (true, 3), (true, 4), (true, 5), (true, 6), (true, 7), (true, 8), (true, 9)] Ty.mx_0 (by kernel_rfl) (by kernel_rfl) rfl ((st.pk [0] (by decide)).drew) ?_
    have st := st.drew
    have hF := hF.step0 (Fr.drew _)
    refine Pm rfl (Pm rfl ?_)
    obtain ⟨gi1, egi1⟩ := (howr0).some_ (by first | omega | (simp; done) | (simp; omega))
    subst egi1
    refine Py rfl (y_ixa (q := s3) rfl rfl rfl Ty.es_134 (by first | omega | (simp; done) | (simp; omega)) (by first | omega | (simp; done) | (simp; omega))) ?_
    refine Py rfl (y_ldk1 (q := s3) 0 rfl rfl Ty.pl_9 (fun _ h => Sld.own (i := 0) h.hp rfl howr0 (by decide)) (fun _ => rfl) (by first | omega | (simp; done) | (simp; omega)) (by first | omega | (simp; done) | (simp; omega)) rfl) ?_
    refine Pm rfl (Pm rfl (Py rfl (y_sub (c := s3 - 1) rfl rfl rfl (wf_i64 (by first | omega | (simp; done) | (simp; omega)))) ?_))
    refine Py rfl (y_ixa (q := s3 - 1) rfl rfl rfl Ty.es_134 (by first | omega | (simp; done) | (simp; omega)) (by first | omega | (simp; done) | (simp; omega))) ?_
    refine Py rfl (y_ldk1 (q := s3 - 1) 0 rfl rfl Ty.pl_9 (fun _ h => Sld.own (i := 0) h.hp rfl howr0 (by decide)) (fun _ => rfl) (by first | omega | (simp; done) | (simp; omega)) (by first | omega | (simp; done) | (simp; omega)) rfl) ?_
    refine Py rfl (y_eqs rfl rfl rfl) (Pl_nil (Th_n (k11 _ _ (cE rfl (fun hc3 => ?_) (fun hc3 => ?_)))))
    · refine sq fun _ k12 => rg (Lm rfl (Lm rfl (Ly rfl (y_cuttM (enc := (fun x => [sv x])) (xs := r0) (p := s3) rfl rfl (hlmr0).symm Ty.es_134 rfl rfl (by first | omega | (simp; done) | (simp; omega)) (by first | omega | (simp; done) | (simp; omega)) howr0) ?_)))
      refine Ls' rfl (Ln k12 (sq fun _ k13 => sq fun _ k14 => rg (Ls' rfl (Ln k14 (Wp_block (lp (fun q E W => ∃ (s3' : Int) (s5 : Int) (r0' : List (List UInt8)), E = [(0, .slice (some ⟨gi1, 0, none⟩) s.length c_s), (3, .int .i64 s3'), (4, .slice (some ⟨gi1, 0 + s3.toNat * 1, none⟩) (s.length - s3.toNat) (c_s - s3.toNat)), (5, .int .i64 s5)] ∧ jq q (fun m => (compactStr_L2 s s3 r0 m s3' s5 r0' = compactStr_L2 s s3 r0 (((s.length : Int) - (1 : Int)).toNat + 1) s3 (1 : Int) r0 ∧ ((s.length : Int) - s5).toNat < m)) (compactStr_L2 s s3 r0 (((s.length : Int) - (1 : Int)).toNat + 1) s3 (1 : Int) r0 = .inr (s3', s5, r0')) ∧ (1 ≤ s5 ∧ s3 ≤ s3' ∧ s3' < s3 + s5 ∧ s5 ≤ s.length - s3 ∧ 1 ≤ s3) ∧ Ow (some ⟨gi1, 0, none⟩) s.length c_s 1 (r0'.flatMap (fun x => [sv x])) s1 ∧ (r0'.length = s.length) ∧ St X W [(blkOf (some ⟨gi1, 0, none⟩), Cl (r0'.flatMap (fun x => [sv x]) ++ s1) 9)] [] ∧ Fr (keys [(blkOf (some ⟨gi1, 0, none⟩), Cl (s.flatMap (fun x => [sv x]) ++ s1) 9)]) w W) (((s.length : Int) - (1 : Int)).toNat + 1) [(0, _), (3, _), (4, _), (5, _)] ⟨rfl, rfl, rfl, rfl, trivial⟩ ⟨_, _, _, rfl, ⟨rfl, Nat.lt_succ_self _⟩, by first | omega | (simp; done) | (simp; omega), howr0, hlmr0, st, hF⟩ k13 ?_ fun hout2 => ?_))))))
      · rintro E w3 ⟨s3', s5, r0', rfl, hLk2, hinv, howr0', hlmr0', st, hF⟩
        unfold jq at hLk2; dsimp only at hLk2
        refine sq fun _ k15 => rg (Lm rfl (Lm rfl (Ly rfl (y_cuttM (enc := (fun x => [sv x])) (xs := r0') (p := s3') rfl rfl (hlmr0').symm Ty.es_134 rfl rfl (by first | omega | (simp; done) | (simp; omega)) (by first | omega | (simp; done) | (simp; omega)) howr0') ?_)))
        refine La rfl (a_clearM (i := 0) (enc := (fun x => [sv x])) (xs := r0') (u := []) (p := s3') rfl rfl rfl (hlmr0').symm Ty.es_134 Ty.zc_9 rfl (fun _ => rfl) (by intro v hv; simp only [List.mem_singleton] at hv; subst hv; rfl) howr0' (by first | omega | (simp; done) | (simp; omega)) (by first | omega | (simp; done) | (simp; omega)) st.hp rfl (fun w4 how1 (hp : Hp w4 [_]) hf => ?_))
        have st : St X w4 [_] [] := st.set (i := 0) rfl hp hf
        have st : St X w4 [_] [] := st
        have hF := hF.step hf (fun y hy => z2 y (by simp at hy; subst hy; rfl))
        have hln1 : (r0'.take s3'.toNat ++ List.replicate (r0'.length - s3'.toNat) []).length = s.length := by simp only [List.length_append, List.length_take, List.length_replicate]; omega
        refine Ln k15 (sq fun _ k16 => rg (Lm rfl (Lm rfl (Ly rfl (y_cut0M (enc := (fun x => [sv x])) (xs := r0'.take s3'.toNat ++ List.replicate (r0'.length - s3'.toNat) []) (q := s3') rfl rfl (hln1).symm Ty.es_134 rfl rfl (by first | omega | (simp; done) | (simp; omega)) (by first | omega | (simp; done) | (simp; omega)) how1) ?_))))
        have how2 := Ow.cut (enc := (fun x => [sv x])) (xs := r0'.take s3'.toNat ++ List.replicate (r0'.length - s3'.toNat) []) (fun _ => rfl) how1 (hln1).symm s3'.toNat
        have st : St X _ [_] [] := st.conv (i := 0) rfl (cut_cells s3'.toNat)
        refine Ls' rfl (Ln k16 (wR (Ib_r (Th_r (Th_r (Ib_r (Th_r (fR (Res1 rfl rfl) ?_))))))))
        have hret1 : compactStr_L1 s (((s.length : Int) - (1 : Int)).toNat + 1) (1 : Int) s = .inl ((r0'.take s3'.toNat ++ List.replicate (r0'.length - s3'.toNat) []).take s3'.toNat) := by rewrite [← hL1, compactStr_L1]; rewrite [iP hc2, iP hc3, hLk2]; (try dsimp only); all_goals rfl
        have he3 : compactStr_m s = ((r0'.take s3'.toNat ++ List.replicate (r0'.length - s3'.toNat) []).take s3'.toNat) := by unfold compactStr_m; rewrite [iN hc1, hret1]; (try dsimp only); all_goals rfl
        rewrite [he3]
        exact ⟨_, _, _, rfl, how2, (st.pk [0] (by decide)).pickK [], hF, kc_b z2 kc_n⟩
      rintro m E w5 ⟨s3', s5, r0', rfl, ⟨hL2, hmu⟩, hinv, howr0', hlmr0', st, hF⟩
      obtain ⟨fuel, rfl⟩ : ∃ q, m = q + 1 := ⟨m - 1, by omega⟩
      have hlehowr0' := Ow.le howr0'
      refine sq fun _ k17 => sq fun _ k18 => rg (Lm rfl (Lm rfl (Ly rfl (yll rfl Tryz.underlying134) (Ly rfl (ylt rfl) (Ln k18 (cD rfl (fun hc4 => ?_) (fun hc4 => ?_)))))))
      · refine sk k17 (sq fun _ k19 => Wp_block (sq fun _ k20 => ?_))
        refine Wp_plan (fun W => St X W (pickL (hOf st) [0]) (kOf st)) [(true, 0), (true, 1), (true, 2), (true, 3), (true, 4), (true, 5), (true, 6), (true, 7), (true, 8), (true, 9)] Ty.mx_0 (by kernel_rfl) (by kernel_rfl) rfl ((st.pk [0] (by decide)).drew) ?_
        have st := st.drew
        have hF := hF.step0 (Fr.drew _)
        refine Pm rfl (Pm rfl (Py rfl (y_ixav (p := s3) (q := s5) rfl rfl rfl Ty.es_134 (by first | omega | (simp; done) | (simp; omega)) (by first | omega | (simp; done) | (simp; omega)) (by first | omega | (simp; done) | (simp; omega))) ?_))
        refine Py rfl (y_ldk1 (q := s3 + s5) 0 rfl rfl Ty.pl_9 (fun _ h => Sld.own (i := 0) h.hp rfl howr0' (by decide)) (fun _ => rfl) (by first | omega | (simp; done) | (simp; omega)) (by first | omega | (simp; done) | (simp; omega)) rfl) ?_
        refine Pm rfl (Pm rfl (Py rfl (y_sub (c := s5 - 1) rfl rfl rfl (wf_i64 (by first | omega | (simp; done) | (simp; omega)))) ?_))
        refine Py rfl (y_ixav (p := s3) (q := s5 - 1) rfl rfl rfl Ty.es_134 (by first | omega | (simp; done) | (simp; omega)) (by first | omega | (simp; done) | (simp; omega)) (by first | omega | (simp; done) | (simp; omega))) ?_
        refine Py rfl (y_ldk1 (q := s3 + (s5 - 1)) 0 rfl rfl Ty.pl_9 (fun _ h => Sld.own (i := 0) h.hp rfl howr0' (by decide)) (fun _ => rfl) (by first | omega | (simp; done) | (simp; omega)) (by first | omega | (simp; done) | (simp; omega)) rfl) ?_
        refine Py rfl (y_nes rfl rfl rfl) (Pl_nil (Th_n (k20 _ _ (cN rfl (fun hc5 => ?_) (fun hc5 => ?_)))))
        · refine sq fun _ k21 => rg (Lm rfl (Lm rfl (Lm rfl (Lm rfl (Ly rfl (y_ixav (p := s3) (q := s5) rfl rfl rfl Ty.es_134 (by first | omega | (simp; done) | (simp; omega)) (by first | omega | (simp; done) | (simp; omega)) (by first | omega | (simp; done) | (simp; omega))) ?_)))))
          refine Ly rfl (y_ldk1 (q := s3 + s5) 0 rfl rfl Ty.pl_9 (fun _ e => e ▸ Sld.own (i := 0) st.hp rfl howr0' (by decide)) (fun _ => rfl) (by first | omega | (simp; done) | (simp; omega)) (by first | omega | (simp; done) | (simp; omega)) rfl) ?_
          refine Ly rfl (y_ixa (q := s3') rfl rfl rfl Ty.es_134 (by first | omega | (simp; done) | (simp; omega)) (by first | omega | (simp; done) | (simp; omega))) ?_
          refine La rfl (a_setrow (i := 0) (q := s3') (u := ix r0' (s3 + s5)) rfl rfl rfl rfl rfl (fun _ => rfl) Ty.sz_9 (by intro v hv; simp only [List.mem_singleton] at hv; subst hv; rfl) howr0' st.hp rfl (by first | omega | (simp; done) | (simp; omega)) (by first | omega | (simp; done) | (simp; omega)) (by decide) (fun w6 how3 (hp : Hp w6 [_]) hf => ?_))
          have st : St X w6 [_] [] := st.set (i := 0) rfl hp hf
          have st : St X w6 [_] [] := st
          have hF := hF.step hf (fun y hy => z2 y (by simp at hy; subst hy; rfl))
          have hln2 : (r0'.set s3'.toNat (ix r0' (s3 + s5))).length = s.length := by rw [List.length_set]; exact hlmr0'
          rewrite [hln2] at how3
          refine Ln k21 (rg (Lm rfl (Ly rfl (y_add (c := s3' + 1) rfl rfl rfl (wf_i64 (by first | omega | (simp; done) | (simp; omega)))) ?_)))
          refine Ls' rfl (Ls_nil (Ib_n (Th_n (k19 _ _ (rg (Lm rfl (Ly rfl (y_add (c := s5 + 1) rfl rfl rfl (wf_i64 (by first | omega | (simp; done) | (simp; omega)))) ?_)))))))
          refine Ls' rfl (Ls_nil (Th_n (?_)))
          exact ⟨fuel, [(0, _), (3, _), (4, _), (5, _)], Nat.lt_succ_self _, ⟨rfl, rfl, rfl, rfl, trivial⟩, (s3' + 1), (s5 + 1), (r0'.set s3'.toNat (ix r0' (s3 + s5))), rfl, ⟨by rewrite [← hL2, compactStr_L2]; rewrite [iP hc4, iN hc5]; rfl, by first | omega | (simp; done) | (simp; omega)⟩, by first | omega | (simp; done) | (simp; omega), how3, hln2, (st.pk [0] (by decide)).pickK [], hF⟩
        refine Wp_skip (Ib_n (Th_n (k19 _ _ (rg (Lm rfl (Ly rfl (y_add (c := s5 + 1) rfl rfl rfl (wf_i64 (by first | omega | (simp; done) | (simp; omega)))) ?_))))))
        refine Ls' rfl (Ls_nil (Th_n (?_)))
        exact ⟨fuel, [(0, _), (3, _), (4, _), (5, _)], Nat.lt_succ_self _, ⟨rfl, rfl, rfl, rfl, trivial⟩, s3', (s5 + 1), r0', rfl, ⟨by rewrite [← hL2, compactStr_L2]; rewrite [iP hc4, iP hc5]; rfl, by first | omega | (simp; done) | (simp; omega)⟩, by first | omega | (simp; done) | (simp; omega), howr0', hlmr0', (st.pk [0] (by decide)).pickK [], hF⟩
      refine Wp_exit (Th_e (Th_e (Ib_hit (Th_n (?_)))))
      exact hout2 _ [(0, _), (3, _), (4, _), (5, _)] _ ⟨rfl, rfl, rfl, rfl, trivial⟩ ⟨s3', s5, r0', rfl, show _ = _ from by rewrite [← hL2, compactStr_L2]; rewrite [iN hc4]; rfl, by first | omega | (simp; done) | (simp; omega), howr0', hlmr0', (st.pk [0] (by decide)).pickK [], hF⟩
    refine Wp_skip (Ib_n (Th_n (k10 _ _ (rg (Lm rfl (Ly rfl (y_add (c := s3 + 1) rfl rfl rfl (wf_i64 (by first | omega | (simp; done) | (simp; omega)))) ?_))))))
    refine Ls' rfl (Ls_nil (Th_n (?_)))
    exact ⟨fuel, [(0, _), (3, _)], Nat.lt_succ_self _, ⟨rfl, rfl, trivial⟩, (s3 + 1), r0, rfl, ⟨by rewrite [← hL1, compactStr_L1]; rewrite [iP hc2, iN hc3]; rfl, by first | omega | (simp; done) | (simp; omega)⟩, by first | omega | (simp; done) | (simp; omega), howr0, hlmr0, (st.pk [0] (by decide)).pickK [], hF⟩
  refine Wp_exit (Th_e (Th_e (Ib_hit (Th_n (?_)))))
  exact hout1 _ [(0, _), (3, _)] _ ⟨rfl, rfl, trivial⟩ ⟨s3, r0, rfl, show _ = _ from by rewrite [← hL1, compactStr_L1]; rewrite [iN hc2]; rfl, by first | omega | (simp; done) | (simp; omega), howr0, hlmr0, (st.pk [0] (by decide)).pickK [], hF⟩
end Go.Proofs.YtdckemiebnfjcaaGreatDoor
end

section
set_option linter.unusedVariables false
set_option linter.unusedSimpArgs false
namespace Go.Proofs.YtdckemiebnfjcaaGreatDoor
section
variable {α : Type} [Inhabited α]
theorem ix_nat (l : List α) (k : Nat) : ix l (k : Int) = (l[k]?).getD default := by unfold ix; rw [Int.toNat_natCast]
theorem ix_at (l : List α) {k : Nat} (h : k < l.length) : ix l (k : Int) = l[k] := by rw [ix_nat, List.getElem?_eq_getElem h]; rfl
theorem ix_memI (l : List α) {j : Int} (h0 : 0 ≤ j) (h1 : j < l.length) : ix l j ∈ l := by
  have hl : j.toNat < l.length := by omega
  unfold ix; rw [List.getElem?_eq_getElem hl]; exact List.getElem_mem hl
theorem ix_drop (l : List α) {j : Int} (h0 : 0 ≤ j) (h1 : j < l.length) : l.drop j.toNat = ix l j :: l.drop (j + 1).toNat := by
  have hl : j.toNat < l.length := by omega
  rw [List.drop_eq_getElem_cons hl, show (j + 1).toNat = j.toNat + 1 by omega]
  unfold ix; rw [List.getElem?_eq_getElem hl]; rfl
theorem loop_all {R : Type} (l : List α) (p : α → Bool) (r : R) (L : Nat → Int → R ⊕ Int) (hL : ∀ fuel i, 0 ≤ i → L (fuel + 1) i = if i < (l.length : Int) then (if p (ix l i) = true then L fuel (i + 1) else .inl r) else .inr i) :
    ∀ (fuel : Nat) (i : Int), 0 ≤ i → ((l.length : Int) - i).toNat < fuel → ∃ q, L fuel i = if (l.drop i.toNat).all p = true then .inr q else .inl r
  | 0, i, _, h => by omega
  | fuel + 1, i, h0, h => by
    rw [hL fuel i h0]
    split
    · rename_i h1
      rw [ix_drop l h0 h1, List.all_cons]
      by_cases hp : p (ix l i) = true
      · obtain ⟨q, hq⟩ := loop_all l p r L hL fuel (i + 1) (by omega) (by omega)
        exact ⟨q, by rw [if_pos hp, hq, hp, Bool.true_and]⟩
      · exact ⟨i, by rw [if_neg hp]; simp [hp]⟩
    · exact ⟨i, by rw [List.drop_of_length_le (by omega)]; simp⟩
theorem loop_all0 {R : Type} (l : List α) (p : α → Bool) (r : R) (L : Nat → Int → R ⊕ Int) (hL : ∀ fuel i, 0 ≤ i → L (fuel + 1) i = if i < (l.length : Int) then (if p (ix l i) = true then L fuel (i + 1) else .inl r) else .inr i) :
    ∃ q, L (((l.length : Int) - (0 : Int)).toNat + 1) 0 = if l.all p = true then .inr q else .inl r := loop_all l p r L hL _ 0 (by omega) (by omega)
theorem loop_ix {R : Type} (n : Int) (P : Int → Bool) (r : R) (L : Nat → Int → R ⊕ Int) (i0 : Int) (hL : ∀ fuel i, i0 ≤ i → L (fuel + 1) i = if i < n then (if P i = true then L fuel (i + 1) else .inl r) else .inr i) :
    ∀ (fuel : Nat) (i : Int), i0 ≤ i → (n - i).toNat < fuel → ((∃ q, L fuel i = .inr q) ∧ ∀ j : Int, i ≤ j → j < n → P j = true) ∨ (L fuel i = .inl r ∧ ∃ j : Int, i ≤ j ∧ j < n ∧ P j = false)
  | 0, i, _, h => by omega
  | fuel + 1, i, h0, h => by
    rw [hL fuel i h0]
    split
    · rename_i h1
      by_cases hp : P i = true
      · rw [if_pos hp]
        rcases loop_ix n P r L i0 hL fuel (i + 1) (by omega) (by omega) with ⟨a, b⟩ | ⟨a, j, b, c, d⟩
        · refine .inl ⟨a, fun j hj hk => ?_⟩
          by_cases e : j = i
          · subst e; exact hp
          · exact b j (by omega) hk
        · exact .inr ⟨a, j, by omega, c, d⟩
      · exact .inr ⟨by rw [if_neg hp], i, by omega, h1, by simpa using hp⟩
    · exact .inl ⟨⟨i, rfl⟩, fun j _ _ => by omega⟩
theorem loop_pairs {R : Type} (l : List α) (p : α → α → Bool) (r : R) (L : Nat → Int → R ⊕ Int) (hL : ∀ fuel i, 1 ≤ i → L (fuel + 1) i = if i < (l.length : Int) then (if p (ix l (i - 1)) (ix l i) = true then L fuel (i + 1) else .inl r) else .inr i) :
    ∀ (fuel : Nat) (i : Int), 1 ≤ i → ((l.length : Int) - i).toNat < fuel → ((∃ q, L fuel i = .inr q) ∧ ∀ j : Int, i ≤ j → j < l.length → p (ix l (j - 1)) (ix l j) = true) ∨ (L fuel i = .inl r ∧ ∃ j : Int, i ≤ j ∧ j < l.length ∧ p (ix l (j - 1)) (ix l j) = false)
  | 0, i, _, h => by omega
  | fuel + 1, i, h0, h => by
    rw [hL fuel i h0]
    split
    · rename_i h1
      by_cases hp : p (ix l (i - 1)) (ix l i) = true
      · rw [if_pos hp]
        rcases loop_pairs l p r L hL fuel (i + 1) (by omega) (by omega) with ⟨a, b⟩ | ⟨a, j, b, c, d⟩
        · refine .inl ⟨a, fun j hj hk => ?_⟩
          by_cases e : j = i
          · subst e; exact hp
          · exact b j (by omega) hk
        · exact .inr ⟨a, j, by omega, c, d⟩
      · exact .inr ⟨by rw [if_neg hp], i, by omega, h1, by simpa using hp⟩
    · exact .inl ⟨⟨i, rfl⟩, fun j _ _ => by omega⟩
theorem pairs_iff (l : List α) (p : α → α → Bool) (tr : ∀ a b c, p a b = true → p b c = true → p a c = true) : (∀ j : Int, 1 ≤ j → j < l.length → p (ix l (j - 1)) (ix l j) = true) ↔ l.Pairwise (fun a b => p a b = true) := by
  constructor
  · intro h
    rw [List.pairwise_iff_getElem]
    have key : ∀ (d i : Nat) (h1 : i + d + 1 < l.length), p (l[i]'(by omega)) (l[i + d + 1]) = true := by
      intro d
      induction d with
      | zero =>
        intro i h1
        have := h ((i : Int) + 1) (by omega) (by omega)
        rw [show (i : Int) + 1 - 1 = (i : Int) by omega, ix_at l (by omega), show (i : Int) + 1 = ((i + 1 : Nat) : Int) by omega, ix_at l (by omega)] at this
        exact this
      | succ d ih =>
        intro i h1
        have h2 := h ((i : Int) + d + 2) (by omega) (by omega)
        rw [show (i : Int) + d + 2 - 1 = ((i + d + 1 : Nat) : Int) by omega, ix_at l (by omega), show (i : Int) + d + 2 = ((i + (d + 1) + 1 : Nat) : Int) by omega, ix_at l (by omega)] at h2
        exact tr _ _ _ (ih i (by omega)) h2
    intro i j hi hj hij
    have := key (j - i - 1) i (by omega)
    have e : i + (j - i - 1) + 1 = j := by omega
    simpa only [e] using this
  · intro h j h1 h2
    rw [List.pairwise_iff_getElem] at h
    have := h (j.toNat - 1) j.toNat (by omega) (by omega) (by omega)
    rw [← ix_at l (by omega), ← ix_at l (by omega)] at this
    rw [show ((j.toNat - 1 : Nat) : Int) = j - 1 by omega, show ((j.toNat : Nat) : Int) = j by omega] at this
    exact this
theorem loop_fold {R β : Type} (l : List α) (f : β → α → β) (L : Nat → β → Int → R ⊕ (β × Int)) (hL : ∀ fuel b i, 0 ≤ i → L (fuel + 1) b i = if i < (l.length : Int) then L fuel (f b (ix l i)) (i + 1) else .inr (b, i)) :
    ∀ (fuel : Nat) (b : β) (i : Int), 0 ≤ i → i ≤ l.length → ((l.length : Int) - i).toNat < fuel → L fuel b i = .inr ((l.drop i.toNat).foldl f b, (l.length : Int))
  | 0, b, i, _, _, h => by omega
  | fuel + 1, b, i, h0, h2, h => by
    rw [hL fuel b i h0]
    split
    · rename_i h1
      rw [loop_fold l f L hL fuel _ (i + 1) (by omega) (by omega) (by omega), ix_drop l h0 h1, List.foldl_cons]
    · have : i = l.length := by omega
      subst this
      rw [List.drop_of_length_le (by omega)]; rfl
theorem loop_fold0 {R β : Type} (l : List α) (f : β → α → β) (L : Nat → β → Int → R ⊕ (β × Int)) (hL : ∀ fuel b i, 0 ≤ i → L (fuel + 1) b i = if i < (l.length : Int) then L fuel (f b (ix l i)) (i + 1) else .inr (b, i)) (b : β) :
    L (((l.length : Int) - (0 : Int)).toNat + 1) b 0 = .inr (l.foldl f b, (l.length : Int)) := loop_fold l f L hL _ b 0 (by omega) (by omega) (by omega)
theorem loop_fold0' {R β : Type} (l : List α) (f : β → α → β) (L : Nat → Int → β → R ⊕ (Int × β)) (hL : ∀ fuel b i, 0 ≤ i → L (fuel + 1) i b = if i < (l.length : Int) then L fuel (i + 1) (f b (ix l i)) else .inr (i, b)) (b : β) :
    L (((l.length : Int) - (0 : Int)).toNat + 1) 0 b = .inr ((l.length : Int), l.foldl f b) := by
  have key : ∀ (fuel : Nat) (b : β) (i : Int), 0 ≤ i → i ≤ l.length → ((l.length : Int) - i).toNat < fuel → L fuel i b = .inr ((l.length : Int), (l.drop i.toNat).foldl f b) := by
    intro fuel
    induction fuel with
    | zero => intro b i _ _ h; omega
    | succ fuel ih =>
      intro b i h0 h2 h
      rw [hL fuel b i h0]
      split
      · rename_i h1
        rw [ih _ (i + 1) (by omega) (by omega) (by omega), ix_drop l h0 h1, List.foldl_cons]
      · have : i = l.length := by omega
        subst this
        rw [List.drop_of_length_le (by omega)]; rfl
  exact key _ b 0 (by omega) (by omega) (by omega)
end
theorem foldl_map_app {α β : Type} (g : α → β) (l : List α) (b : List β) : l.foldl (fun acc x => acc ++ [g x]) b = b ++ l.map g := by
  induction l generalizing b with
  | nil => simp
  | cons a l ih => rw [List.foldl_cons, ih]; simp
theorem foldl_filter_app {α β : Type} (p : α → Bool) (g : α → β) (l : List α) (b : List β) : l.foldl (fun acc x => if p x = true then acc ++ [g x] else acc) b = b ++ (l.filter p).map g := by
  induction l generalizing b with
  | nil => simp
  | cons a l ih =>
    rw [List.foldl_cons, ih]
    by_cases h : p a = true
    · simp [h]
    · simp [h]
theorem bs_spec {α R : Type} [Inhabited α] (x : List α) (c : α → Int) (L : Nat → Int → Int → R ⊕ (Int × Int)) (hL : ∀ fuel i j, L (fuel + 1) i j = if i < j then (if c (ix x ((i + j) / 2)) < 0 then L fuel ((i + j) / 2 + 1) j else L fuel i ((i + j) / 2)) else .inr (i, j))
    (mono : ∀ a b : Int, 0 ≤ a → a < b → b < x.length → c (ix x b) < 0 → c (ix x a) < 0) :
    ∀ (fuel : Nat) (i j : Int), 0 ≤ i → i ≤ j → j ≤ x.length → (j - i).toNat < fuel → (∀ k : Int, 0 ≤ k → k < i → c (ix x k) < 0) → (∀ k : Int, j ≤ k → k < x.length → ¬ c (ix x k) < 0) →
      ∃ q : Int, L fuel i j = .inr (q, q) ∧ 0 ≤ q ∧ q ≤ x.length ∧ (∀ k : Int, 0 ≤ k → k < q → c (ix x k) < 0) ∧ (∀ k : Int, q ≤ k → k < x.length → ¬ c (ix x k) < 0)
  | 0, i, j, _, _, _, h, _, _ => by omega
  | fuel + 1, i, j, h0, h1, h2, h, ha, hb => by
    rw [hL]
    split
    · rename_i hlt
      have hm : i ≤ (i + j) / 2 ∧ (i + j) / 2 < j := by omega
      split
      · rename_i hc
        refine bs_spec x c L hL mono fuel _ j (by omega) (by omega) h2 (by omega) (fun k hk0 hk => ?_) hb
        by_cases e : k = (i + j) / 2
        · rw [e]; exact hc
        · exact mono k ((i + j) / 2) hk0 (by omega) (by omega) hc
      · rename_i hc
        refine bs_spec x c L hL mono fuel i _ h0 (by omega) (by omega) (by omega) ha (fun k hk0 hk hck => ?_)
        by_cases e : k = (i + j) / 2
        · rw [e] at hck; exact hc hck
        · exact hc (mono ((i + j) / 2) k (by omega) (by omega) hk hck)
    · have : i = j := by omega
      subst this
      exact ⟨i, rfl, h0, h2, ha, hb⟩
end Go.Proofs.YtdckemiebnfjcaaGreatDoor
end

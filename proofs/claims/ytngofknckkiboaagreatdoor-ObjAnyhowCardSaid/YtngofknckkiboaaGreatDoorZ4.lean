/- Walks printed by gen2.py out of our own specifications: what the functions named below do. -/
import Derived.Test.YtngofknckkiboaaGreatDoorSc
import Derived.Test.YtngofknckkiboaaGreatDoorZ3
set_option linter.unusedSimpArgs false
set_option linter.unusedVariables false
namespace Go.Proofs.YtngofknckkiboaaGreatDoor
open Go.RowKit




def oown_m (s : ObjM) : ObjM :=
  (⟨s.kind, s.reg, s.num, (⟨cloneAdd_m s.setF.adds, cloneTag_m s.setF.gone⟩ : SetM), (⟨clonePut_m s.map.puts, cloneTag_m s.map.gone⟩ : MapM)⟩ : ObjM)


set_option maxRecDepth 20000 in
theorem oown_ok (X : List Nat) (w : World) (hX : Lo X w) (s : ObjM) (A1 : Option Addr) (C1 : Nat) (A2 : Option Addr) (C2 : Nat) (A4 : Option Addr) (C4 : Nat) (A3 : Option Addr) (C3 : Nat) (z5 : Sld X w A1 s.setF.adds.length C1 4 (s.setF.adds.flatMap addMC)) (z6 : Sld X w A2 s.setF.gone.length C2 3 (s.setF.gone.flatMap tagMC)) (z8 : Sld X w A4 s.map.puts.length C4 7 (s.map.puts.flatMap putMC)) (z7 : Sld X w A3 s.map.gone.length C3 3 (s.map.gone.flatMap tagMC)) (h1 : s.setF.adds.length ≤ 1000000) (h2 : s.setF.gone.length ≤ 1000000) (h3 : s.map.puts.length ≤ 1000000) (h4 : s.map.gone.length ≤ 1000000) :
    Fn Tryz.prog 20 [.agg #[.int .i64 s.kind, .int .i64 s.reg.val, .int .u32 s.reg.atF.time, .int .i64 s.reg.atF.origin, .int .i64 s.num.plus, .int .i64 s.num.minus, .slice A1 s.setF.adds.length C1, .slice A2 s.setF.gone.length C2, .slice A4 s.map.puts.length C4, .slice A3 s.map.gone.length C3]] w fun v w' => ∃ (A5 : Option Addr) (C5 : Nat) (A6 : Option Addr) (C6 : Nat) (A8 : Option Addr) (C8 : Nat) (A7 : Option Addr) (C7 : Nat), v = .agg #[.int .i64 ((oown_m s).kind), .int .i64 (((oown_m s).reg).val), .int .u32 (((oown_m s).reg).atF.time), .int .i64 (((oown_m s).reg).atF.origin), .int .i64 (((oown_m s).num).plus), .int .i64 (((oown_m s).num).minus), .slice A5 (((oown_m s).setF).adds).length C5, .slice A6 (((oown_m s).setF).gone).length C6, .slice A8 (((oown_m s).map).puts).length C8, .slice A7 (((oown_m s).map).gone).length C7] ∧ Sld X w' A5 (((oown_m s).setF).adds).length C5 4 ((((oown_m s).setF).adds).flatMap addMC) ∧ Sld X w' A6 (((oown_m s).setF).gone).length C6 3 ((((oown_m s).setF).gone).flatMap tagMC) ∧ Sld X w' A8 (((oown_m s).map).puts).length C8 7 ((((oown_m s).map).puts).flatMap putMC) ∧ Sld X w' A7 (((oown_m s).map).gone).length C7 3 ((((oown_m s).map).gone).flatMap tagMC) ∧ Fr [] w w' := by
  refine Fn_of 24 Ty.en_20 Tryz.func20 rfl rfl rfl ?_
  dsimp only [argEnv]
  have st := stn4 hX z5 z6 z8 z7
  have hF := Fr.refl ([]) w
  have z1 := (st.q 0 rfl).le
  have z2 := (st.q 1 rfl).le
  have z4 := (st.q 2 rfl).le
  have z3 := (st.q 3 rfl).le
  refine sq fun _ k1 => rg (La rfl (Sbx st hF rfl fun g1 w1 (st : St _ _ [_] _) hF hg1 => La rfl (Sal Ty.zc_40 st hF rfl fun g2 w2 (st : St _ _ [_, _] _) hF hg2 => Ln k1 (sq fun _ k2 => ?_))))
  refine Wp_planF (fun W => St X W (pickL (hOf st) [0, 1]) (kOf st)) [(true, 0), (true, 1), (true, 2), (true, 4), (true, 5), (true, 6), (false, 3), (false, 7), (true, 8), (true, 9)] 10 Ty.mx_0 (by kernel_rfl) (by kernel_rfl) (by kernel_rfl) rfl ((st.picks [0, 1] (by decide)).drew) ?_
  have st := st.drew
  have hF := hF.step0 (Fr.drew _)
  refine Py rfl (yf rfl Ty.fo_40_3) (Py rfl (yf rfl Ty.fo_35_0) (Py rfl (y_load (i := 0) rfl rfl Ty.pl_32 (fun _ h => h.hp) rfl rfl) (Py rfl (yf rfl Ty.fo_40_3) (Py rfl (yf rfl Ty.fo_35_1) (Py rfl (y_load (i := 0) rfl rfl Ty.pl_33 (fun _ h => h.hp) rfl rfl) (Pl_a rfl (wtd0 rfl) (by rfl) ?_))))))
  refine a_call rfl rfl rfl rfl (cloneAdd_ok (keys (hOf st) ++ X) _ st.Lo s.setF.adds A1 C1 (st.q 0 rfl) h1) (fun v w3 ⟨Ao1, co1, spo1, hv, how1, hN1, hfO1, hkc1⟩ => ?_)
  subst hv
  have hnew1 : ∀ g, blkOf Ao1 = some g → g ∈ ([]) ∨ w.heap.size ≤ g := fun g hg => (hkc1 g (by simp [keys, hg])).elim (fun h => by simp at h) (fun h => .inr (Nat.le_trans hF.size h))
  have st := st.callN hN1 hfO1 (fun k hk => (hkc1 k hk).elim (fun h => by simp at h) id)
  have hF := hF.step0 hfO1
  have z9 := Ow.le how1
  have st : St X w3 [_, _, _] [_, _, _, _] := st
  refine ⟨(st.picks [0, 1] (by decide)).takeK 4, ?_⟩
  refine Pl_a rfl (wtd0 rfl) (by rfl) ?_
  refine a_call rfl rfl rfl rfl (cloneTag_ok (keys (hOf st) ++ X) _ st.Lo s.setF.gone A2 C2 (st.q 1 rfl) (by assumption)) (fun v w4 ⟨Ao2, co2, spo2, hv, how2, hN2, hfO2, hkc2⟩ => ?_)
  subst hv
  have hnew2 : ∀ g, blkOf Ao2 = some g → g ∈ ([]) ∨ w.heap.size ≤ g := fun g hg => (hkc2 g (by simp [keys, hg])).elim (fun h => by simp at h) (fun h => .inr (Nat.le_trans hF.size h))
  have st := st.callN hN2 hfO2 (fun k hk => (hkc2 k hk).elim (fun h => by simp at h) id)
  have hF := hF.step0 hfO2
  have z10 := Ow.le how2
  have st : St X w4 [_, _, _, _] [_, _, _, _] := st
  refine ⟨(st.picks [0, 1] (by decide)).takeK 4, ?_⟩
  refine Py rfl (y_build (cells := [_, _]) rfl rfl Ty.zc_35 Ty.ps_35 rfl) (Py rfl (yf rfl Ty.fo_40_3) (Pl_nil (Fin_a rfl (wtd0 rfl) (Ssm 0 Ty.sz_35 st hF (.inr hg1) rfl fun w5 (st : St _ _ [(_, Cl [_, _, _, _, _, _, _, _, _, _] _), _, _, _] _) hF => id (Th_n (k2 _ _ (sq fun _ k3 => ?_)))))))
  refine Wp_planF (fun W => St X W (pickL (hOf st) [0, 1, 2, 3]) (kOf st)) [(true, 0), (true, 1), (true, 2), (true, 4), (true, 5), (true, 6), (false, 3), (false, 7), (true, 8), (true, 9)] 10 Ty.mx_0 (by kernel_rfl) (by kernel_rfl) (by kernel_rfl) rfl ((st.picks [0, 1, 2, 3] (by decide)).drew) ?_
  have st := st.drew
  have hF := hF.step0 (Fr.drew _)
  refine Py rfl (yf rfl Ty.fo_40_4) (Py rfl (yf rfl Ty.fo_38_0) (Py rfl (y_load (i := 0) rfl rfl Ty.pl_36 (fun _ h => h.hp) rfl rfl) (Py rfl (yf rfl Ty.fo_40_4) (Py rfl (yf rfl Ty.fo_38_1) (Py rfl (y_load (i := 0) rfl rfl Ty.pl_33 (fun _ h => h.hp) rfl rfl) (Pl_a rfl (wtd0 rfl) (by rfl) ?_))))))
  refine a_call rfl rfl rfl rfl (clonePut_ok (keys (hOf st) ++ X) _ st.Lo s.map.puts A4 C4 (st.q 2 rfl) h3) (fun v w6 ⟨Ao3, co3, spo3, hv, how3, hN3, hfO3, hkc3⟩ => ?_)
  subst hv
  have hnew3 : ∀ g, blkOf Ao3 = some g → g ∈ ([]) ∨ w.heap.size ≤ g := fun g hg => (hkc3 g (by simp [keys, hg])).elim (fun h => by simp at h) (fun h => .inr (Nat.le_trans hF.size h))
  have st := st.callN hN3 hfO3 (fun k hk => (hkc3 k hk).elim (fun h => by simp at h) id)
  have hF := hF.step0 hfO3
  have z11 := Ow.le how3
  have st : St X w6 [_, _, _, _, _] [_, _, _, _] := st
  refine ⟨(st.picks [0, 1, 2, 3] (by decide)).takeK 4, ?_⟩
  refine Pl_a rfl (wtd0 rfl) (by rfl) ?_
  refine a_call rfl rfl rfl rfl (cloneTag_ok (keys (hOf st) ++ X) _ st.Lo s.map.gone A3 C3 (st.q 3 rfl) (by assumption)) (fun v w7 ⟨Ao4, co4, spo4, hv, how4, hN4, hfO4, hkc4⟩ => ?_)
  subst hv
  have hnew4 : ∀ g, blkOf Ao4 = some g → g ∈ ([]) ∨ w.heap.size ≤ g := fun g hg => (hkc4 g (by simp [keys, hg])).elim (fun h => by simp at h) (fun h => .inr (Nat.le_trans hF.size h))
  have st := st.callN hN4 hfO4 (fun k hk => (hkc4 k hk).elim (fun h => by simp at h) id)
  have hF := hF.step0 hfO4
  have z12 := Ow.le how4
  have st : St X w7 [_, _, _, _, _, _] [_, _, _, _] := st
  refine ⟨(st.picks [0, 1, 2, 3] (by decide)).takeK 4, ?_⟩
  refine Py rfl (y_build (cells := [_, _]) rfl rfl Ty.zc_38 Ty.ps_38 rfl) (Py rfl (yf rfl Ty.fo_40_4) (Pl_nil (Fin_a rfl (wtd0 rfl) (Ssm 0 Ty.sz_38 st hF (.inr hg1) rfl fun w8 (st : St _ _ [(_, Cl [_, _, _, _, _, _, _, _, _, _] _), _, _, _, _, _] _) hF => id (Th_n (k3 _ _ (sq fun _ k4 => rg (Ly rfl (yw 0 Ty.ag_40 st rfl) (La rfl (Ssw 1 Ty.sz_40 st hF (.inr hg2) rfl fun w9 (st : St _ _ [_, _, _, _, _, _] _) hF => Ln k4 ?_))))))))))
  have st : St X w9 [_, _, _, _, _] [_, _, _, _, _] := st.freeze (i := 2) [0, 1, 3, 4, 5] (by decide) rfl how1 (by decide)
  have st : St X w9 [_, _, _, _] [_, _, _, _, _, _] := st.freeze (i := 2) [0, 1, 3, 4] (by decide) rfl how2 (by decide)
  have st : St X w9 [_, _, _] [_, _, _, _, _, _, _] := st.freeze (i := 2) [0, 1, 3] (by decide) rfl how3 (by decide)
  have st : St X w9 [_, _] [_, _, _, _, _, _, _, _] := st.freeze (i := 2) [0, 1] (by decide) rfl how4 (by decide)
  refine Wp_ret (Fq_ret (ResN1 rfl (rvc (i := 1) rfl Ty.ag_40 st.hp rfl rfl)) ?_)
  unfold oown_m
  exact ⟨_, _, _, _, _, _, _, _, rfl, st.ot 4 rfl, st.ot 5 rfl, st.ot 6 rfl, st.ot 7 rfl, hF⟩

end Go.Proofs.YtngofknckkiboaaGreatDoor

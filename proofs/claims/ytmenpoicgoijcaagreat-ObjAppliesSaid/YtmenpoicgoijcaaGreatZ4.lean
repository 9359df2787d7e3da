/- Walks printed by gen2.py out of our own specifications: what the functions named below do. -/
import Derived.Test.YtmenpoicgoijcaaGreatSc
import Derived.Test.YtmenpoicgoijcaaGreatZ3
import Derived.Test.YtmenpoicgoijcaaGreatZ2b
set_option linter.unusedSimpArgs false
set_option linter.unusedVariables false
set_option maxRecDepth 20000
namespace Go.Proofs.YtmenpoicgoijcaaGreat
open Go.RowKit
def ocompact_m (s : SetM) (vv : A8u32M) : SetM × Int :=
  if (ocheck_m s) = 0 then
    ((⟨cloneAdd_m s.adds, deleteF_m (cloneTag_m s.gone) (fun x0 => ocompact1_m x0 vv)⟩ : SetM), 0)
  else
    ((⟨([] : List AddM), ([] : List TagM)⟩ : SetM), ocheck_m s)
theorem ocompact_ok (X : List Nat) (w : World) (hX : Lo X w) (s : SetM) (A1 : Option Addr) (C1 : Nat) (A2 : Option Addr) (C2 : Nat) (vv : A8u32M) (z3 : Sld X w A1 s.adds.length C1 4 (s.adds.flatMap addMC)) (z4 : Sld X w A2 s.gone.length C2 3 (s.gone.flatMap tagMC)) (h1 : s.adds.length ≤ 1000000) (h2 : s.gone.length ≤ 1000000) :
    Fn Tryz.prog 40 [.agg #[.slice A1 s.adds.length C1, .slice A2 s.gone.length C2], .agg (a8u32C vv).toArray] w fun v w' => ∃ (A3 : Option Addr) (C3 : Nat) (A4 : Option Addr) (C4 : Nat), v = .tuple #[.agg #[.slice A3 (((ocompact_m s vv).1).adds).length C3, .slice A4 (((ocompact_m s vv).1).gone).length C4], .int .i64 ((ocompact_m s vv).2)] ∧ Sld X w' A3 (((ocompact_m s vv).1).adds).length C3 4 ((((ocompact_m s vv).1).adds).flatMap addMC) ∧ Sld X w' A4 (((ocompact_m s vv).1).gone).length C4 3 ((((ocompact_m s vv).1).gone).flatMap tagMC) ∧ Fr [] w w' := by
  refine Fn_of 24 Ty.en_40 Tryz.func40 rfl rfl rfl ?_
  dsimp only [argEnv]
  have st := stn2 hX z3 z4
  have hF := Fr.refl ([]) w
  refine sq fun _ k1 => rg (La rfl (Sbx st hF rfl fun g1 w1 (st : St _ _ [_] _) hF hg1 => La rfl (Sbx st hF rfl fun g2 w2 (st : St _ _ [_, _] _) hF hg2 => La rfl (Sal Ty.zc_51 st hF rfl fun g3 w3 (st : St _ _ [_, _, _] _) hF hg3 => Ls' rfl (Ln k1 (sq fun _ k2 => sq fun _ k3 => rg (Ly rfl (yw 0 Ty.ag_51 st rfl) (La rfl (Scl st hF rfl (ocheck_ok (keys (hOf st) ++ X) _ st.Lo s A1 C1 A2 C2 (st.q 0 rfl) (st.q 1 rfl) h2) fun w4 st hF => Ls' rfl (Ln k3 (sq fun _ k4 => rg (Lm rfl (Ly rfl (yne rfl) (Ln k4 (cN rfl (fun hc1 => ?_) (fun hc1 => ?_))))))))))))))))
  · refine sq fun _ k5 => rg (Ly rfl (y_build (cells := [_, _]) rfl rfl Ty.zc_51 Ty.ps_51 rfl) (Lm rfl (La rfl (Ssw 2 Ty.sz_51 st hF (.inr hg3) rfl fun w5 (st : St _ _ [_, _, _] _) hF => Ls' rfl (Ln k5 ?_)))))
    have st := st.aN 4
    have st := st.aN 3
    refine wR (Th_r (fR (ResN2 rfl (rvc (i := 2) rfl Ty.ag_51 st.hp rfl rfl) rfl) ?_))
    unfold ocompact_m; rewrite [iN hc1]
    exact ⟨_, _, _, _, rfl, st.ot 2 rfl, st.ot 3 rfl, hF⟩
  refine sk k2 (sq fun _ k6 => rg (Ly rfl (y_mkfn rfl rfl rfl) (Ls' rfl (Ln k6 (sq fun _ k7 => ?_)))))
  refine Wp_plan (fun W => St X W (pickL (hOf st) [0, 1]) (kOf st)) [(true, 0), (true, 1), (true, 3), (true, 4), (true, 6), (false, 2), (false, 5), (false, 7), (true, 8), (false, 9), (true, 10)] Ty.mx_0 (by kernel_rfl) (by kernel_rfl) rfl ((st.pk [0, 1] (by decide)).drew) ?_
  have st := st.drew
  have hF := hF.step0 (Fr.drew _)
  refine Py rfl (yf rfl Ty.fo_51_0) (Py rfl (y_load (i := 0) rfl rfl Ty.pl_49 (fun _ h => h.hp) rfl rfl) (Py rfl (yf rfl Ty.fo_51_1) (Py rfl (y_load (i := 0) rfl rfl Ty.pl_30 (fun _ h => h.hp) rfl rfl) (Pm rfl (Pl_a rfl (wtd0 rfl) (by rfl) ?_)))))
  refine a_call rfl rfl rfl rfl (cloneAdd_ok (keys (hOf st) ++ X) _ st.Lo s.adds A1 C1 (st.q 0 rfl) h1) (fun v w6 ⟨Ao1, co1, spo1, hv, how1, hN1, hfO1, hkc1⟩ => ?_)
  subst hv
  have hnew1 : ∀ g, blkOf Ao1 = some g → g ∈ ([]) ∨ w.heap.size ≤ g := fun g hg => (hkc1 g (by simp [keys, hg])).elim (fun h => by simp at h) (fun h => .inr (Nat.le_trans hF.size h))
  have st := st.callN hN1 hfO1 (fun k hk => (hkc1 k hk).elim (fun h => by simp at h) id)
  have hF := hF.step0 hfO1
  have st : St X w6 [_, _, _, _] [_, _] := st
  refine ⟨(st.pk [0, 1] (by decide)).tK 2, ?_⟩
  refine Pl_a rfl (wtd0 rfl) (by rfl) ?_
  refine a_call rfl rfl rfl rfl (cloneTag_ok (keys (hOf st) ++ X) _ st.Lo s.gone A2 C2 (st.q 1 rfl) h2) (fun v w7 ⟨Ao2, co2, spo2, hv, how2, hN2, hfO2, hkc2⟩ => ?_)
  subst hv
  have hnew2 : ∀ g, blkOf Ao2 = some g → g ∈ ([]) ∨ w.heap.size ≤ g := fun g hg => (hkc2 g (by simp [keys, hg])).elim (fun h => by simp at h) (fun h => .inr (Nat.le_trans hF.size h))
  have st := st.callN hN2 hfO2 (fun k hk => (hkc2 k hk).elim (fun h => by simp at h) id)
  have hF := hF.step0 hfO2
  have st : St X w7 [_, _, _, _, _] [_, _] := st
  refine ⟨(st.pk [0, 1] (by decide)).tK 2, ?_⟩
  refine Pl_a rfl (wtd0 rfl) (by rfl) ?_
  refine a_call rfl rfl rfl rfl (deleteTag_ok (keys (pickL (hOf st) [0, 1, 2, 3]) ++ X) _ (cloneTag_m s.gone) Ao2 co2 spo2 (.func (.func 110) #[] #[.pointer (some ⟨g2, 0, none⟩)]) (fun x0 => ocompact1_m x0 vv) (st.sub [0, 1, 2, 3] [4] [] (by decide)) how2 (fun w1 x0 hw => FnV.ofc [.pointer (some ⟨g2, 0, none⟩)] (ocompact1_ok (keys (pickL (hOf st) [0, 2, 3, 4]) ++ X) w1 x0 g2 vv ((st.sub [0, 2, 3, 4] [1] [] (by decide)).other hw (fun y hy => List.mem_append_left _ (keys_in (i := 4) (j := 3) (hOf st) [0, 2, 3, 4] rfl rfl hy))) ))) (fun v w8 ⟨Ao3, co3, spo3, hv, how3, hN3, hfO3, hkc3⟩ => ?_)
  subst hv
  have hnew3 : ∀ g, blkOf Ao3 = some g → g ∈ ([]) ∨ w.heap.size ≤ g := fun g hg => (hkc3 g (by simp [keys, hg])).elim (fun h => (kc_b hnew2 (kc_n)) g h) (fun h => .inr (Nat.le_trans hF.size h))
  have st := st.callS [0, 1, 2, 3] [4] (by decide) rfl hN3 hfO3 hkc3
  have hF := hF.step hfO3 (kc_b hnew2 (kc_n))
  have st : St X w8 [_, _, _, _, _] [_, _] := st
  refine ⟨(st.pk [0, 1] (by decide)).tK 2, ?_⟩
  refine Py rfl (y_build (cells := [_, _]) rfl rfl Ty.zc_51 Ty.ps_51 rfl) (Pl_a rfl (wtd0 rfl) (by rfl) ?_)
  refine Ssw 2 Ty.sz_51 st hF (.inr hg3) rfl fun w9 (st : St _ _ [_, _, _, _, _] _) hF => ?_
  refine ⟨(st.pk [0, 1] (by decide)).tK 2, ?_⟩
  refine Py rfl (y_assign rfl rfl) (Pl_nil (Th_n (k7 _ _ ?_)))
  have st : St X w9 [_, _, _, _] [_, _, _] := st.freeze (i := 3) [0, 1, 2, 4] (by decide) rfl how1 (by decide)
  have st : St X w9 [_, _, _] [_, _, _, _] := st.freeze (i := 3) [0, 1, 2] (by decide) rfl how3 (by decide)
  refine wR (fR (ResN2 rfl (rvc (i := 2) rfl Ty.ag_51 st.hp rfl rfl) rfl) ?_)
  unfold ocompact_m; rewrite [iP hc1]
  exact ⟨_, _, _, _, rfl, st.ot 2 rfl, st.ot 3 rfl, hF⟩
def mcompact1_m (t : TagM) (vv : A8u32M) : Bool :=
  vhas_m vv t.id
theorem mcompact1_ok (X : List Nat) (w : World) (t : TagM) (g2 : Nat) (vv : A8u32M) (hs : St X w [(some g2, Cl [.int .u32 vv.e0, .int .u32 vv.e1, .int .u32 vv.e2, .int .u32 vv.e3, .int .u32 vv.e4, .int .u32 vv.e5, .int .u32 vv.e6, .int .u32 vv.e7] 45)] []) :
    Fn Tryz.prog 113 [.agg (tagMC t).toArray, .pointer (some ⟨g2, 0, none⟩)] w fun v w' => v = .bool (mcompact1_m t vv) ∧ Fr [] w w' := by
  refine Fn_of 8 Ty.en_113 Tryz.func113 rfl rfl rfl ?_
  dsimp only [argEnv]
  have hs0 := hs
  have st : St X w [(some g2, Cl [.int .u32 vv.e0, .int .u32 vv.e1, .int .u32 vv.e2, .int .u32 vv.e3, .int .u32 vv.e4, .int .u32 vv.e5, .int .u32 vv.e6, .int .u32 vv.e7] 45)] [] := hs
  have hF := Fr.refl ([]) w
  refine sq fun _ k1 => rg (La rfl (Sbx st hF rfl fun g1 w1 (st : St _ _ [_, _] _) hF hg1 => Ls' rfl (Ln k1 (sq fun _ k2 => rg (Ly rfl (yw 0 Ty.ag_45 st rfl) (Ly rfl (yf rfl Ty.fo_41_0) (Ly rfl (ym 1 Ty.ag_39 st rfl) (La rfl (Scl st hF rfl (vhas_ok _ vv t.id) fun w2 st hF => Ls' rfl (Ln k2 (wR (fR (Res1 rfl rfl) ?_))))))))))))
  unfold mcompact1_m
  exact ⟨rfl, hF⟩
def mcompact_m (s : MapM) (vv : A8u32M) : MapM × Int :=
  if (mcheck_m s) = 0 then
    ((⟨(mown_m s).puts, deleteF_m ((mown_m s).gone) (fun x0 => mcompact1_m x0 vv)⟩ : MapM), 0)
  else
    ((⟨([] : List PutM), ([] : List TagM)⟩ : MapM), mcheck_m s)
theorem mcompact_ok (X : List Nat) (w : World) (hX : Lo X w) (s : MapM) (A2 : Option Addr) (C2 : Nat) (A1 : Option Addr) (C1 : Nat) (vv : A8u32M) (z4 : Sld X w A2 s.puts.length C2 7 (s.puts.flatMap putMC)) (z3 : Sld X w A1 s.gone.length C1 3 (s.gone.flatMap tagMC)) (h1 : s.puts.length ≤ 1000000) (h2 : s.gone.length ≤ 1000000) :
    Fn Tryz.prog 41 [.agg #[.slice A2 s.puts.length C2, .slice A1 s.gone.length C1], .agg (a8u32C vv).toArray] w fun v w' => ∃ (A4 : Option Addr) (C4 : Nat) (A3 : Option Addr) (C3 : Nat), v = .tuple #[.agg #[.slice A4 (((mcompact_m s vv).1).puts).length C4, .slice A3 (((mcompact_m s vv).1).gone).length C3], .int .i64 ((mcompact_m s vv).2)] ∧ Sld X w' A4 (((mcompact_m s vv).1).puts).length C4 7 ((((mcompact_m s vv).1).puts).flatMap putMC) ∧ Sld X w' A3 (((mcompact_m s vv).1).gone).length C3 3 ((((mcompact_m s vv).1).gone).flatMap tagMC) ∧ Fr [] w w' := by
  refine Fn_of 22 Ty.en_41 Tryz.func41 rfl rfl rfl ?_
  dsimp only [argEnv]
  have st := stn2 hX z4 z3
  have hF := Fr.refl ([]) w
  refine sq fun _ k1 => rg (La rfl (Sbx st hF rfl fun g1 w1 (st : St _ _ [_] _) hF hg1 => La rfl (Sbx st hF rfl fun g2 w2 (st : St _ _ [_, _] _) hF hg2 => La rfl (Sal Ty.zc_54 st hF rfl fun g3 w3 (st : St _ _ [_, _, _] _) hF hg3 => Ls' rfl (Ln k1 (sq fun _ k2 => sq fun _ k3 => rg (Ly rfl (yw 0 Ty.ag_54 st rfl) (La rfl (Scl st hF rfl (mcheck_ok (keys (hOf st) ++ X) _ st.Lo s A2 C2 A1 C1 (st.q 0 rfl) (st.q 1 rfl) h1 h2) fun w4 st hF => Ls' rfl (Ln k3 (sq fun _ k4 => rg (Lm rfl (Ly rfl (yne rfl) (Ln k4 (cN rfl (fun hc1 => ?_) (fun hc1 => ?_))))))))))))))))
  · refine sq fun _ k5 => rg (Ly rfl (y_build (cells := [_, _]) rfl rfl Ty.zc_54 Ty.ps_54 rfl) (Lm rfl (La rfl (Ssw 2 Ty.sz_54 st hF (.inr hg3) rfl fun w5 (st : St _ _ [_, _, _] _) hF => Ls' rfl (Ln k5 ?_)))))
    have st := st.aN 7
    have st := st.aN 3
    refine wR (Th_r (fR (ResN2 rfl (rvc (i := 2) rfl Ty.ag_54 st.hp rfl rfl) rfl) ?_))
    unfold mcompact_m; rewrite [iN hc1]
    exact ⟨_, _, _, _, rfl, st.ot 2 rfl, st.ot 3 rfl, hF⟩
  refine sk k2 (sq fun _ k6 => rg (Ly rfl (yw 0 Ty.ag_54 st rfl) (La rfl (a_call rfl rfl rfl rfl (mown_ok (keys (hOf st) ++ X) _ st.Lo s A2 C2 A1 C1 (st.q 0 rfl) (st.q 1 rfl) h1 h2) (fun v w6 ⟨Ao1, co1, spo1, Ao2, co2, spo2, hv, how1, how2, hN1, hfO1, hkc1⟩ => ?_)))))
  subst hv
  have hnew1 : ∀ g, blkOf Ao1 = some g → g ∈ ([]) ∨ w.heap.size ≤ g := fun g hg => (hkc1 g (by simp [keys, hg])).elim (fun h => by simp at h) (fun h => .inr (Nat.le_trans hF.size h))
  have hnew2 : ∀ g, blkOf Ao2 = some g → g ∈ ([]) ∨ w.heap.size ≤ g := fun g hg => (hkc1 g (by simp [keys, hg])).elim (fun h => by simp at h) (fun h => .inr (Nat.le_trans hF.size h))
  have st := st.callN hN1 hfO1 (fun k hk => (hkc1 k hk).elim (fun h => by simp at h) id)
  have hF := hF.step0 hfO1
  have st : St X w6 [_, _, _, _, _] [_, _] := st
  refine La rfl (Sal Ty.zc_54 st hF rfl fun g4 w7 (st : St _ _ [_, _, _, _, _, _] _) hF hg4 => La rfl (Ssw 5 Ty.sz_54 st hF (.inr hg4) rfl fun w8 (st : St _ _ [_, _, _, _, _, _] _) hF => Ln k6 (sq fun _ k7 => rg (Ly rfl (yf rfl Ty.fo_54_1) (Ly rfl (yl 5 Ty.pl_30 st rfl) (Ly rfl (y_mkfn rfl rfl rfl) (La rfl (a_call rfl rfl rfl rfl (deleteTag_ok (keys (pickL (hOf st) [0, 1, 2, 3, 5]) ++ X) _ ((mown_m s).gone) Ao2 co2 spo2 (.func (.func 113) #[] #[.pointer (some ⟨g2, 0, none⟩)]) (fun x0 => mcompact1_m x0 vv) (st.sub [0, 1, 2, 3, 5] [4] [] (by decide)) how2 (fun w1 x0 hw => FnV.ofc [.pointer (some ⟨g2, 0, none⟩)] (mcompact1_ok (keys (pickL (hOf st) [0, 2, 3, 4, 5]) ++ X) w1 x0 g2 vv ((st.sub [0, 2, 3, 4, 5] [1] [] (by decide)).other hw (fun y hy => List.mem_append_left _ (keys_in (i := 4) (j := 3) (hOf st) [0, 2, 3, 4, 5] rfl rfl hy))) ))) (fun v w9 ⟨Ao3, co3, spo3, hv, how3, hN2, hfO2, hkc2⟩ => ?_)))))))))
  subst hv
  have hnew3 : ∀ g, blkOf Ao3 = some g → g ∈ ([]) ∨ w.heap.size ≤ g := fun g hg => (hkc2 g (by simp [keys, hg])).elim (fun h => (kc_b hnew2 (kc_n)) g h) (fun h => .inr (Nat.le_trans hF.size h))
  have st := st.callS [0, 1, 2, 3, 5] [4] (by decide) rfl hN2 hfO2 hkc2
  have hF := hF.step hfO2 (kc_b hnew2 (kc_n))
  have st : St X w9 [_, _, _, _, _, _] [_, _] := st
  refine Ly rfl (yf rfl Ty.fo_54_1) (La rfl (Ss1 4 Ty.sz_30 st hF (.inr hg4) rfl fun w10 (st : St _ _ [_, _, _, _, (_, Cl [_, _] _), _] _) hF => Ln k7 (sq fun _ k8 => rg (Ly rfl (yw 4 Ty.ag_54 st rfl) (La rfl (Ssw 2 Ty.sz_54 st hF (.inr hg3) rfl fun w11 (st : St _ _ [_, _, _, _, _, _] _) hF => Ls' rfl (Ln k8 ?_)))))))
  have st : St X w11 [_, _, _, _, _] [_, _, _] := st.freeze (i := 3) [0, 1, 2, 4, 5] (by decide) rfl how1 (by decide)
  have st : St X w11 [_, _, _, _] [_, _, _, _] := st.freeze (i := 4) [0, 1, 2, 3] (by decide) rfl how3 (by decide)
  refine wR (fR (ResN2 rfl (rvc (i := 2) rfl Ty.ag_54 st.hp rfl rfl) rfl) ?_)
  unfold mcompact_m; rewrite [iP hc1]
  exact ⟨_, _, _, _, rfl, st.ot 2 rfl, st.ot 3 rfl, hF⟩
def oown_m (s : ObjM) : ObjM :=
  (⟨s.kind, s.reg, s.num, (⟨cloneAdd_m s.setF.adds, cloneTag_m s.setF.gone⟩ : SetM), (⟨clonePut_m s.map.puts, cloneTag_m s.map.gone⟩ : MapM)⟩ : ObjM)
theorem oown_ok (X : List Nat) (w : World) (hX : Lo X w) (s : ObjM) (A1 : Option Addr) (C1 : Nat) (A2 : Option Addr) (C2 : Nat) (A4 : Option Addr) (C4 : Nat) (A3 : Option Addr) (C3 : Nat) (z5 : Sld X w A1 s.setF.adds.length C1 4 (s.setF.adds.flatMap addMC)) (z6 : Sld X w A2 s.setF.gone.length C2 3 (s.setF.gone.flatMap tagMC)) (z8 : Sld X w A4 s.map.puts.length C4 7 (s.map.puts.flatMap putMC)) (z7 : Sld X w A3 s.map.gone.length C3 3 (s.map.gone.flatMap tagMC)) (h1 : s.setF.adds.length ≤ 1000000) (h2 : s.setF.gone.length ≤ 1000000) (h3 : s.map.puts.length ≤ 1000000) (h4 : s.map.gone.length ≤ 1000000) :
    Fn Tryz.prog 25 [.agg #[.int .i64 s.kind, .int .i64 s.reg.val, .int .u32 s.reg.atF.time, .int .i64 s.reg.atF.origin, .int .i64 s.num.plus, .int .i64 s.num.minus, .slice A1 s.setF.adds.length C1, .slice A2 s.setF.gone.length C2, .slice A4 s.map.puts.length C4, .slice A3 s.map.gone.length C3]] w fun v w' => ∃ (A5 : Option Addr) (C5 : Nat) (A6 : Option Addr) (C6 : Nat) (A8 : Option Addr) (C8 : Nat) (A7 : Option Addr) (C7 : Nat), v = .agg #[.int .i64 ((oown_m s).kind), .int .i64 (((oown_m s).reg).val), .int .u32 (((oown_m s).reg).atF.time), .int .i64 (((oown_m s).reg).atF.origin), .int .i64 (((oown_m s).num).plus), .int .i64 (((oown_m s).num).minus), .slice A5 (((oown_m s).setF).adds).length C5, .slice A6 (((oown_m s).setF).gone).length C6, .slice A8 (((oown_m s).map).puts).length C8, .slice A7 (((oown_m s).map).gone).length C7] ∧ Sld X w' A5 (((oown_m s).setF).adds).length C5 4 ((((oown_m s).setF).adds).flatMap addMC) ∧ Sld X w' A6 (((oown_m s).setF).gone).length C6 3 ((((oown_m s).setF).gone).flatMap tagMC) ∧ Sld X w' A8 (((oown_m s).map).puts).length C8 7 ((((oown_m s).map).puts).flatMap putMC) ∧ Sld X w' A7 (((oown_m s).map).gone).length C7 3 ((((oown_m s).map).gone).flatMap tagMC) ∧ Fr [] w w' := by
  refine Fn_of 24 Ty.en_25 Tryz.func25 rfl rfl rfl ?_
  dsimp only [argEnv]
  have st := stn4 hX z5 z6 z8 z7
  have hF := Fr.refl ([]) w
  refine sq fun _ k1 => rg (La rfl (Sbx st hF rfl fun g1 w1 (st : St _ _ [_] _) hF hg1 => La rfl (Sal Ty.zc_56 st hF rfl fun g2 w2 (st : St _ _ [_, _] _) hF hg2 => Ln k1 (sq fun _ k2 => ?_))))
  refine Wp_planF (fun W => St X W (pickL (hOf st) [0, 1]) (kOf st)) [(true, 0), (true, 1), (true, 2), (true, 4), (true, 5), (true, 6), (false, 3), (false, 7), (true, 8), (true, 9)] 10 Ty.mx_0 (by kernel_rfl) (by kernel_rfl) (by kernel_rfl) rfl ((st.pk [0, 1] (by decide)).drew) ?_
  have st := st.drew
  have hF := hF.step0 (Fr.drew _)
  refine Py rfl (yf rfl Ty.fo_56_3) (Py rfl (yf rfl Ty.fo_51_0) (Py rfl (y_load (i := 0) rfl rfl Ty.pl_49 (fun _ h => h.hp) rfl rfl) (Py rfl (yf rfl Ty.fo_56_3) (Py rfl (yf rfl Ty.fo_51_1) (Py rfl (y_load (i := 0) rfl rfl Ty.pl_30 (fun _ h => h.hp) rfl rfl) (Pl_a rfl (wtd0 rfl) (by rfl) ?_))))))
  refine a_call rfl rfl rfl rfl (cloneAdd_ok (keys (hOf st) ++ X) _ st.Lo s.setF.adds A1 C1 (st.q 0 rfl) h1) (fun v w3 ⟨Ao1, co1, spo1, hv, how1, hN1, hfO1, hkc1⟩ => ?_)
  subst hv
  have hnew1 : ∀ g, blkOf Ao1 = some g → g ∈ ([]) ∨ w.heap.size ≤ g := fun g hg => (hkc1 g (by simp [keys, hg])).elim (fun h => by simp at h) (fun h => .inr (Nat.le_trans hF.size h))
  have st := st.callN hN1 hfO1 (fun k hk => (hkc1 k hk).elim (fun h => by simp at h) id)
  have hF := hF.step0 hfO1
  have st : St X w3 [_, _, _] [_, _, _, _] := st
  refine ⟨(st.pk [0, 1] (by decide)).tK 4, ?_⟩
  refine Pl_a rfl (wtd0 rfl) (by rfl) ?_
  refine a_call rfl rfl rfl rfl (cloneTag_ok (keys (hOf st) ++ X) _ st.Lo s.setF.gone A2 C2 (st.q 1 rfl) (by assumption)) (fun v w4 ⟨Ao2, co2, spo2, hv, how2, hN2, hfO2, hkc2⟩ => ?_)
  subst hv
  have hnew2 : ∀ g, blkOf Ao2 = some g → g ∈ ([]) ∨ w.heap.size ≤ g := fun g hg => (hkc2 g (by simp [keys, hg])).elim (fun h => by simp at h) (fun h => .inr (Nat.le_trans hF.size h))
  have st := st.callN hN2 hfO2 (fun k hk => (hkc2 k hk).elim (fun h => by simp at h) id)
  have hF := hF.step0 hfO2
  have st : St X w4 [_, _, _, _] [_, _, _, _] := st
  refine ⟨(st.pk [0, 1] (by decide)).tK 4, ?_⟩
  refine Py rfl (y_build (cells := [_, _]) rfl rfl Ty.zc_51 Ty.ps_51 rfl) (Py rfl (yf rfl Ty.fo_56_3) (Pl_nil (Fin_a rfl (wtd0 rfl) (Ssm 0 Ty.sz_51 st hF (.inr hg1) rfl fun w5 (st : St _ _ [(_, Cl [_, _, _, _, _, _, _, _, _, _] _), _, _, _] _) hF => id (Th_n (k2 _ _ (sq fun _ k3 => ?_)))))))
  refine Wp_planF (fun W => St X W (pickL (hOf st) [0, 1, 2, 3]) (kOf st)) [(true, 0), (true, 1), (true, 2), (true, 4), (true, 5), (true, 6), (false, 3), (false, 7), (true, 8), (true, 9)] 10 Ty.mx_0 (by kernel_rfl) (by kernel_rfl) (by kernel_rfl) rfl ((st.pk [0, 1, 2, 3] (by decide)).drew) ?_
  have st := st.drew
  have hF := hF.step0 (Fr.drew _)
  refine Py rfl (yf rfl Ty.fo_56_4) (Py rfl (yf rfl Ty.fo_54_0) (Py rfl (y_load (i := 0) rfl rfl Ty.pl_52 (fun _ h => h.hp) rfl rfl) (Py rfl (yf rfl Ty.fo_56_4) (Py rfl (yf rfl Ty.fo_54_1) (Py rfl (y_load (i := 0) rfl rfl Ty.pl_30 (fun _ h => h.hp) rfl rfl) (Pl_a rfl (wtd0 rfl) (by rfl) ?_))))))
  refine a_call rfl rfl rfl rfl (clonePut_ok (keys (hOf st) ++ X) _ st.Lo s.map.puts A4 C4 (st.q 2 rfl) h3) (fun v w6 ⟨Ao3, co3, spo3, hv, how3, hN3, hfO3, hkc3⟩ => ?_)
  subst hv
  have hnew3 : ∀ g, blkOf Ao3 = some g → g ∈ ([]) ∨ w.heap.size ≤ g := fun g hg => (hkc3 g (by simp [keys, hg])).elim (fun h => by simp at h) (fun h => .inr (Nat.le_trans hF.size h))
  have st := st.callN hN3 hfO3 (fun k hk => (hkc3 k hk).elim (fun h => by simp at h) id)
  have hF := hF.step0 hfO3
  have st : St X w6 [_, _, _, _, _] [_, _, _, _] := st
  refine ⟨(st.pk [0, 1, 2, 3] (by decide)).tK 4, ?_⟩
  refine Pl_a rfl (wtd0 rfl) (by rfl) ?_
  refine a_call rfl rfl rfl rfl (cloneTag_ok (keys (hOf st) ++ X) _ st.Lo s.map.gone A3 C3 (st.q 3 rfl) (by assumption)) (fun v w7 ⟨Ao4, co4, spo4, hv, how4, hN4, hfO4, hkc4⟩ => ?_)
  subst hv
  have hnew4 : ∀ g, blkOf Ao4 = some g → g ∈ ([]) ∨ w.heap.size ≤ g := fun g hg => (hkc4 g (by simp [keys, hg])).elim (fun h => by simp at h) (fun h => .inr (Nat.le_trans hF.size h))
  have st := st.callN hN4 hfO4 (fun k hk => (hkc4 k hk).elim (fun h => by simp at h) id)
  have hF := hF.step0 hfO4
  have st : St X w7 [_, _, _, _, _, _] [_, _, _, _] := st
  refine ⟨(st.pk [0, 1, 2, 3] (by decide)).tK 4, ?_⟩
  refine Py rfl (y_build (cells := [_, _]) rfl rfl Ty.zc_54 Ty.ps_54 rfl) (Py rfl (yf rfl Ty.fo_56_4) (Pl_nil (Fin_a rfl (wtd0 rfl) (Ssm 0 Ty.sz_54 st hF (.inr hg1) rfl fun w8 (st : St _ _ [(_, Cl [_, _, _, _, _, _, _, _, _, _] _), _, _, _, _, _] _) hF => id (Th_n (k3 _ _ (sq fun _ k4 => rg (Ly rfl (yw 0 Ty.ag_56 st rfl) (La rfl (Ssw 1 Ty.sz_56 st hF (.inr hg2) rfl fun w9 (st : St _ _ [_, _, _, _, _, _] _) hF => Ln k4 ?_))))))))))
  have st : St X w9 [_, _, _, _, _] [_, _, _, _, _] := st.freeze (i := 2) [0, 1, 3, 4, 5] (by decide) rfl how1 (by decide)
  have st : St X w9 [_, _, _, _] [_, _, _, _, _, _] := st.freeze (i := 2) [0, 1, 3, 4] (by decide) rfl how2 (by decide)
  have st : St X w9 [_, _, _] [_, _, _, _, _, _, _] := st.freeze (i := 2) [0, 1, 3] (by decide) rfl how3 (by decide)
  have st : St X w9 [_, _] [_, _, _, _, _, _, _, _] := st.freeze (i := 2) [0, 1] (by decide) rfl how4 (by decide)
  refine wR (fR (ResN1 rfl (rvc (i := 1) rfl Ty.ag_56 st.hp rfl rfl)) ?_)
  unfold oown_m
  exact ⟨_, _, _, _, _, _, _, _, rfl, st.ot 4 rfl, st.ot 5 rfl, st.ot 6 rfl, st.ot 7 rfl, hF⟩
end Go.Proofs.YtmenpoicgoijcaaGreat

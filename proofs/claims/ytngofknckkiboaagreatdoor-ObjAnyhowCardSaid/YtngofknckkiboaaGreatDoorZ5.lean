/- Walks printed by gen2.py out of our own specifications: what the functions named below do. -/
import Derived.Test.YtngofknckkiboaaGreatDoorSc
import Derived.Test.YtngofknckkiboaaGreatDoorZ4
set_option linter.unusedSimpArgs false
set_option linter.unusedVariables false
namespace Go.Proofs.YtngofknckkiboaaGreatDoor
open Go.RowKit


def from14_m (s : ObjM) : ObjM :=
  (⟨s.kind, (⟨(from10_m s.reg).val, (⟨(from10_m s.reg).atF.time, (from10_m s.reg).atF.origin⟩ : StampM)⟩ : RegM), (⟨(from11_m s.num).plus, (from11_m s.num).minus⟩ : NumM), (⟨(from12_m s.setF).adds, (from12_m s.setF).gone⟩ : SetM), (⟨(from13_m s.map).puts, (from13_m s.map).gone⟩ : MapM)⟩ : ObjM)


set_option maxRecDepth 20000 in
theorem from14_ok (X : List Nat) (w : World) (hX : Lo X w) (s : ObjM) (A1 : Option Addr) (C1 : Nat) (A2 : Option Addr) (C2 : Nat) (A4 : Option Addr) (C4 : Nat) (A3 : Option Addr) (C3 : Nat) (z5 : Sld X w A1 s.setF.adds.length C1 4 (s.setF.adds.flatMap addMC)) (z6 : Sld X w A2 s.setF.gone.length C2 3 (s.setF.gone.flatMap tagMC)) (z8 : Sld X w A4 s.map.puts.length C4 7 (s.map.puts.flatMap putMC)) (z7 : Sld X w A3 s.map.gone.length C3 3 (s.map.gone.flatMap tagMC)) (h1 : s.setF.adds.length ≤ 1000000) (h2 : s.setF.gone.length ≤ 1000000) (h3 : s.map.puts.length ≤ 1000000) (h4 : s.map.gone.length ≤ 1000000) :
    Fn Tryz.prog 10 [.agg #[.int .i64 s.kind, .int .i64 s.reg.val, .int .u32 s.reg.atF.time, .int .i64 s.reg.atF.origin, .int .i64 s.num.plus, .int .i64 s.num.minus, .slice A1 s.setF.adds.length C1, .slice A2 s.setF.gone.length C2, .slice A4 s.map.puts.length C4, .slice A3 s.map.gone.length C3]] w fun v w' => ∃ (A5 : Option Addr) (C5 : Nat) (A6 : Option Addr) (C6 : Nat) (A8 : Option Addr) (C8 : Nat) (A7 : Option Addr) (C7 : Nat), v = .agg #[.int .i64 ((from14_m s).kind), .int .i64 (((from14_m s).reg).val), .int .u32 (((from14_m s).reg).atF.time), .int .i64 (((from14_m s).reg).atF.origin), .int .i64 (((from14_m s).num).plus), .int .i64 (((from14_m s).num).minus), .slice A5 (((from14_m s).setF).adds).length C5, .slice A6 (((from14_m s).setF).gone).length C6, .slice A8 (((from14_m s).map).puts).length C8, .slice A7 (((from14_m s).map).gone).length C7] ∧ Sld X w' A5 (((from14_m s).setF).adds).length C5 4 ((((from14_m s).setF).adds).flatMap addMC) ∧ Sld X w' A6 (((from14_m s).setF).gone).length C6 3 ((((from14_m s).setF).gone).flatMap tagMC) ∧ Sld X w' A8 (((from14_m s).map).puts).length C8 7 ((((from14_m s).map).puts).flatMap putMC) ∧ Sld X w' A7 (((from14_m s).map).gone).length C7 3 ((((from14_m s).map).gone).flatMap tagMC) ∧ Fr [] w w' := by
  refine Fn_of 18 Ty.en_10 Tryz.func10 rfl rfl rfl ?_
  dsimp only [argEnv]
  have st := stn4 hX z5 z6 z8 z7
  have hF := Fr.refl ([]) w
  have z1 := (st.q 0 rfl).le
  have z2 := (st.q 1 rfl).le
  have z4 := (st.q 2 rfl).le
  have z3 := (st.q 3 rfl).le
  refine sq fun _ k1 => rg (La rfl (Sbx st hF rfl fun g1 w1 (st : St _ _ [_] _) hF hg1 => La rfl (Sal Ty.zc_56 st hF rfl fun g2 w2 (st : St _ _ [_, _] _) hF hg2 => Ln k1 (sq fun _ k2 => ?_))))
  refine Wp_planF (fun W => St X W (pickL (hOf st) [0, 1]) (kOf st)) [(true, 0), (true, 1), (true, 2), (true, 3), (true, 5), (true, 6), (true, 8), (true, 9), (true, 11), (true, 12), (false, 4), (false, 7), (false, 10), (false, 13), (true, 14)] 15 Ty.mx_0 (by kernel_rfl) (by kernel_rfl) (by kernel_rfl) rfl ((st.picks [0, 1] (by decide)).drew) ?_
  have st := st.drew
  have hF := hF.step0 (Fr.drew _)
  refine Py rfl (yf rfl Ty.fo_40_0) (Py rfl (y_load (i := 0) rfl rfl Ty.pl_3 (fun _ h => h.hp) rfl rfl) (Py rfl (yf rfl Ty.fo_40_1) (Py rfl (y_loadm (i := 0) rfl rfl Ty.ag_29 (fun _ h => h.hp) rfl rfl rfl) (Py rfl (yf rfl Ty.fo_40_2) (Py rfl (y_loadm (i := 0) rfl rfl Ty.ag_31 (fun _ h => h.hp) rfl rfl rfl) (Py rfl (yf rfl Ty.fo_40_3) (Py rfl (y_loadm (i := 0) rfl rfl Ty.ag_35 (fun _ h => h.hp) rfl rfl rfl) (Py rfl (yf rfl Ty.fo_40_4) (Py rfl (y_loadm (i := 0) rfl rfl Ty.ag_38 (fun _ h => h.hp) rfl rfl rfl) (Pl_a rfl (wtd0 rfl) (by rfl) ?_))))))))))
  refine Scl st hF rfl (from10_ok _ s.reg) fun w3 st hF => ?_
  refine ⟨(st.picks [0, 1] (by decide)).takeK 4, ?_⟩
  refine Pl_a rfl (wtd0 rfl) (by rfl) ?_
  refine Scl st hF rfl (from11_ok _ s.num) fun w4 st hF => ?_
  refine ⟨(st.picks [0, 1] (by decide)).takeK 4, ?_⟩
  refine Pl_a rfl (wtd0 rfl) (by rfl) ?_
  refine a_call rfl rfl rfl rfl (from12_ok (keys (hOf st) ++ X) _ st.Lo s.setF A1 C1 A2 C2 (st.q 0 rfl) (st.q 1 rfl) h1 h2) (fun v w5 ⟨Ar1, cr1, Ar2, cr2, hv, hr1, hr2, hf⟩ => ?_)
  subst hv
  have st := st.keep0 hf
  have hF := hF.step0 hf
  have z9 := Sld.le hr1
  have st := st.addK (kS Ar1 ((from12_m s.setF).adds).length cr1 4 (((from12_m s.setF).adds).flatMap addMC)) hr1
  have z10 := Sld.le hr2
  have st := st.addK (kS Ar2 ((from12_m s.setF).gone).length cr2 3 (((from12_m s.setF).gone).flatMap tagMC)) hr2
  have st : St X w5 [_, _] [_, _, _, _, _, _] := st
  refine ⟨(st.picks [0, 1] (by decide)).takeK 4, ?_⟩
  refine Pl_a rfl (wtd0 rfl) (by rfl) ?_
  refine a_call rfl rfl rfl rfl (from13_ok (keys (hOf st) ++ X) _ st.Lo s.map A4 C4 A3 C3 (st.q 2 rfl) (st.q 3 rfl) h3 h4) (fun v w6 ⟨Ar3, cr3, Ar4, cr4, hv, hr3, hr4, hf⟩ => ?_)
  subst hv
  have st := st.keep0 hf
  have hF := hF.step0 hf
  have z11 := Sld.le hr3
  have st := st.addK (kS Ar3 ((from13_m s.map).puts).length cr3 7 (((from13_m s.map).puts).flatMap putMC)) hr3
  have z12 := Sld.le hr4
  have st := st.addK (kS Ar4 ((from13_m s.map).gone).length cr4 3 (((from13_m s.map).gone).flatMap tagMC)) hr4
  have st : St X w6 [_, _] [_, _, _, _, _, _, _, _] := st
  refine ⟨(st.picks [0, 1] (by decide)).takeK 4, ?_⟩
  refine Py rfl (y_build (cells := [_, _, _, _, _, _, _, _, _, _]) rfl rfl Ty.zc_56 Ty.ps_56 rfl) (Pl_nil (Fin_a rfl (wtd0 rfl) (Ssw 1 Ty.sz_56 st hF (.inr hg2) rfl fun w7 (st : St _ _ [_, _] _) hF => id (Th_n (k2 _ _ (Wp_ret (Fq_ret (ResN1 rfl (rvc (i := 1) rfl Ty.ag_56 st.hp rfl rfl)) ?_)))))))
  unfold from14_m
  exact ⟨_, _, _, _, _, _, _, _, rfl, st.ot 4 rfl, st.ot 5 rfl, st.ot 6 rfl, st.ot 7 rfl, hF⟩

def toEff_m (e : EffectM) : EffectM :=
  (⟨e.act, e.name, e.val, e.tag, e.atF, ([] : List TagM) ++ e.tags⟩ : EffectM)


set_option maxRecDepth 20000 in
theorem toEff_ok (X : List Nat) (w : World) (hX : Lo X w) (e : EffectM) (A1 : Option Addr) (C1 : Nat) (z2 : Sld X w A1 e.tags.length C1 3 (e.tags.flatMap tagMC)) (h1 : e.tags.length ≤ 1000000) :
    Fn Tryz.prog 8 [.agg #[.int .i64 e.act, sv e.name, .int .i64 e.val, .int .i64 e.tag.id.origin, .int .u32 e.tag.id.seq, .int .i64 e.tag.n, .int .u32 e.atF.time, .int .i64 e.atF.origin, .slice A1 e.tags.length C1]] w fun v w' => ∃ (A2 : Option Addr) (C2 : Nat), v = .agg #[.int .i64 ((toEff_m e).act), sv ((toEff_m e).name), .int .i64 ((toEff_m e).val), .int .i64 (((toEff_m e).tag).id.origin), .int .u32 (((toEff_m e).tag).id.seq), .int .i64 (((toEff_m e).tag).n), .int .u32 (((toEff_m e).atF).time), .int .i64 (((toEff_m e).atF).origin), .slice A2 ((toEff_m e).tags).length C2] ∧ Sld X w' A2 ((toEff_m e).tags).length C2 3 (((toEff_m e).tags).flatMap tagMC) ∧ Fr [] w w' := by
  refine Fn_of 18 Ty.en_8 Tryz.func8 rfl rfl rfl ?_
  dsimp only [argEnv]
  have st := stn1 hX z2
  have hF := Fr.refl ([]) w
  have z1 := (st.q 0 rfl).le
  refine sq fun _ k1 => rg (La rfl (Sbx st hF rfl fun g1 w1 (st : St _ _ [_] _) hF hg1 => La rfl (Sal Ty.zc_64 st hF rfl fun g2 w2 (st : St _ _ [_, _] _) hF hg2 => Ln k1 (sq fun _ k2 => ?_))))
  refine Wp_planF (fun W => St X W (pickL (hOf st) [0, 1]) (kOf st)) [(true, 0), (true, 1), (true, 2), (true, 3), (true, 4), (true, 5), (true, 6), (true, 7), (true, 8), (true, 9), (true, 11), (true, 12), (false, 10), (false, 13), (true, 14)] 15 Ty.mx_0 (by kernel_rfl) (by kernel_rfl) (by kernel_rfl) rfl ((st.picks [0, 1] (by decide)).drew) ?_
  have st := st.drew
  have hF := hF.step0 (Fr.drew _)
  refine Py rfl (yf rfl Ty.fo_62_0) (Py rfl (y_load (i := 0) rfl rfl Ty.pl_3 (fun _ h => h.hp) rfl rfl) (Py rfl (yf rfl Ty.fo_62_1) (Py rfl (y_load (i := 0) rfl rfl Ty.pl_9 (fun _ h => h.hp) rfl rfl) (Py rfl (yf rfl Ty.fo_62_2) (Py rfl (y_load (i := 0) rfl rfl Ty.pl_2 (fun _ h => h.hp) rfl rfl) (Py rfl (yf rfl Ty.fo_62_3) (Py rfl (y_loadm (i := 0) rfl rfl Ty.ag_60 (fun _ h => h.hp) rfl rfl rfl) (Py rfl (yf rfl Ty.fo_62_4) (Py rfl (y_loadm (i := 0) rfl rfl Ty.ag_27 (fun _ h => h.hp) rfl rfl rfl) (Py rfl (yf rfl Ty.fo_62_5) (Py rfl (y_load (i := 0) rfl rfl Ty.pl_33 (fun _ h => h.hp) rfl rfl) (Pl_a rfl (wtd0 rfl) (by rfl) ?_))))))))))))
  refine Sb0 (enc := tagMC) Ty.es_33 Ty.zc_60 st hF rfl fun g3 w3 how1 hnew1 (st : St _ _ [_, _, _] _) hF => ?_
  refine ⟨(st.picks [0, 1] (by decide)).takeK 1, ?_⟩
  refine Pl_a rfl (wtd0 rfl) (by rfl) ?_
  refine Sap (enc := tagMC) ([] : List TagM) e.tags 2 Ty.es_33 Ty.zc_60 Ty.by_60 (fun _ => rfl) tagMC_1 how1 hnew1 st hF (st.k (i := 0) rfl).rd.src (fun h => by have := (st.k (i := 0) rfl).rd; exact rd_none this h (st.k (i := 0) rfl).len (by decide)) rfl (by first | omega | (simp; done) | (simp; omega)) (by first | omega | (simp; done) | (simp; omega)) fun Aa1 ca1 sp1 w4 how2 hnew2 (st : St _ _ [_, _, _] _) hF => ?_
  refine ⟨(st.picks [0, 1] (by decide)).takeK 1, ?_⟩
  refine Py rfl (y_build (cells := [_, _, _, _, _, _, _, _, _]) rfl rfl Ty.zc_64 Ty.ps_64 rfl) (Pl_nil (Fin_a rfl (wtd0 rfl) (Ssw 1 Ty.sz_64 st hF (.inr hg2) rfl fun w5 (st : St _ _ [_, _, _] _) hF => id (Th_n (k2 _ _ ?_)))))
  have st : St X w5 [_, _] [_, _] := st.freeze (i := 2) [0, 1] (by decide) rfl how2 (by decide)
  refine Wp_ret (Fq_ret (ResN1 rfl (rvc (i := 1) rfl Ty.ag_64 st.hp rfl rfl)) ?_)
  unfold toEff_m
  exact ⟨_, _, rfl, st.ot 1 rfl, hF⟩

def fromVal_L1 (v0 : ValueM) : Nat → Int → (List ItemM) → (ValueM) ⊕ (Int × (List ItemM))
  | 0, s4, u2_2 => .inr (s4, u2_2)
  | fuel + 1, s4, u2_2 =>
    if s4 < (v0.items.length : Int) then
      fromVal_L1 v0 fuel (s4 + 1) (u2_2 ++ [(ix v0.items s4)])
    else
      .inr (s4, u2_2)
def fromVal_m (v0 : ValueM) : ValueM :=
  match fromVal_L1 v0 (((v0.items.length : Int) - (0 : Int)).toNat + 1) (0 : Int) ([] : List ItemM) with
  | .inl r => r
  | .inr (s4, u2_2) =>
    (⟨v0.kind, v0.val, u2_2⟩ : ValueM)


set_option maxRecDepth 20000 in
theorem fromVal_ok (X : List Nat) (w : World) (hX : Lo X w) (v0 : ValueM) (A1 : Option Addr) (C1 : Nat) (z2 : Sld X w A1 v0.items.length C1 2 (v0.items.flatMap itemMC)) (h1 : v0.items.length ≤ 2000000) :
    Fn Tryz.prog 12 [.agg #[.int .i64 v0.kind, .int .i64 v0.val, .slice A1 v0.items.length C1]] w fun v w' => ∃ (A2 : Option Addr) (C2 : Nat), v = .agg #[.int .i64 ((fromVal_m v0).kind), .int .i64 ((fromVal_m v0).val), .slice A2 ((fromVal_m v0).items).length C2] ∧ Sld X w' A2 ((fromVal_m v0).items).length C2 2 (((fromVal_m v0).items).flatMap itemMC) ∧ Fr [] w w' := by
  refine Fn_of 36 Ty.en_12 Tryz.func12 rfl rfl rfl ?_
  dsimp only [argEnv]
  have st := stn1 hX z2
  have hF := Fr.refl ([]) w
  have z1 := (st.q 0 rfl).le
  refine sq fun _ k1 => rg (La rfl (Sbx st hF rfl fun g1 w1 (st : St _ _ [_] _) hF hg1 => La rfl (Sal Ty.zc_71 st hF rfl fun g2 w2 (st : St _ _ [_, _] _) hF hg2 => Ln k1 (sq fun _ k2 => rg (Ly rfl (yf rfl Ty.fo_75_0) (Ly rfl (yl 0 Ty.pl_3 st rfl) (Ly rfl (yf rfl Ty.fo_75_1) (Ly rfl (yl 0 Ty.pl_2 st rfl) (Ly rfl (y_build (cells := [_, _, _]) rfl rfl Ty.zc_71 Ty.ps_71 rfl) (La rfl (Sal Ty.zc_71 st hF rfl fun g3 w3 (st : St _ _ [_, _, _] _) hF hg3 => La rfl (Ssw 2 Ty.sz_71 st hF (.inr hg3) rfl fun w4 (st : St _ _ [_, _, _] _) hF => Ln k2 (sq fun _ k3 => sq fun _ k4 => rg (Ls' rfl (Ln k4 (Wp_block ?_))))))))))))))))
  obtain ⟨st, how1, hnew1⟩ := st.rowN itemMC hF 2 112
  have st : St _ _ [_, _, _, _] _ := st
  refine lp (fun q E W => ∃ (s4 : Int) (u2_2 : List ItemM) (Au2_2 : Option Addr) (cu2_2 : Nat) (spu2_2 : List Value), E = [(1, .pointer (some ⟨g1, 0, none⟩)), (2, .pointer (some ⟨g2, 0, none⟩)), (3, .pointer (some ⟨g3, 0, none⟩)), (4, .int .i64 s4)] ∧ jq q (fun m => (fromVal_L1 v0 m s4 u2_2 = fromVal_L1 v0 (((v0.items.length : Int) - (0 : Int)).toNat + 1) (0 : Int) ([] : List ItemM) ∧ ((v0.items.length : Int) - s4).toNat < m)) (fromVal_L1 v0 (((v0.items.length : Int) - (0 : Int)).toNat + 1) (0 : Int) ([] : List ItemM) = .inr (s4, u2_2)) ∧ (0 ≤ s4 ∧ (u2_2.length : Int) ≤ s4) ∧ Ow Au2_2 u2_2.length cu2_2 2 (u2_2.flatMap itemMC) spu2_2 ∧ (∀ g, blkOf Au2_2 = some g → g ∈ ([]) ∨ w.heap.size ≤ g) ∧ St X W [(some g1, Cl [.int .i64 v0.kind, .int .i64 v0.val, .slice A1 v0.items.length C1] 75), (some g2, Cl [.int .i64 0, .int .i64 0, .slice none 0 0] 71), (some g3, Cl [.int .i64 v0.kind, .int .i64 v0.val, .slice Au2_2 u2_2.length cu2_2] 71), (blkOf Au2_2, Cl (u2_2.flatMap itemMC ++ spu2_2) 112)] [kS A1 v0.items.length C1 2 (v0.items.flatMap itemMC)] ∧ Fr ([]) w W) (((v0.items.length : Int) - (0 : Int)).toNat + 1) [(1, _), (2, _), (3, _), (4, _)] ⟨rfl, rfl, rfl, rfl, trivial⟩ ⟨_, _, _, _, _, rfl, ⟨rfl, Nat.lt_succ_self _⟩, by first | omega | (simp; done) | (simp; omega), how1, hnew1, st, hF⟩ k3 ?_ fun hout1 => ?_
  · rintro E w5 ⟨s4, u2_2, Au2_2, cu2_2, spu2_2, rfl, hLk1, hinv, howu2_2, newu2_2, st, hF⟩
    unfold jq at hLk1; dsimp only at hLk1
    refine sq fun _ k5 => rg (Ly rfl (yw 2 Ty.ag_71 st rfl) (La rfl (Ssw 1 Ty.sz_71 st hF (.inr hg2) rfl fun w6 (st : St _ _ [_, _, _, _] _) hF => Ln k5 ?_)))
    have st : St X w6 [_, _, _] [_, _] := st.freeze (i := 3) [0, 1, 2] (by decide) rfl howu2_2 (by decide)
    refine Wp_ret (Fq_ret (ResN1 rfl (rvc (i := 1) rfl Ty.ag_71 st.hp rfl rfl)) ?_)
    unfold fromVal_m; rewrite [hLk1]; (try dsimp only)
    exact ⟨_, _, rfl, st.ot 1 rfl, hF⟩
  rintro m E w7 ⟨s4, u2_2, Au2_2, cu2_2, spu2_2, rfl, ⟨hL1, hmu⟩, hinv, howu2_2, newu2_2, st, hF⟩
  obtain ⟨fuel, rfl⟩ : ∃ q, m = q + 1 := ⟨m - 1, by omega⟩
  have z3 := Ow.le howu2_2
  refine sq fun _ k6 => sq fun _ k7 => rg (Lm rfl (Ly rfl (yf rfl Ty.fo_75_2) (Ly rfl (yl 0 Ty.pl_73 st rfl) (Ly rfl (yll rfl Tryz.underlying73) (Ly rfl (ylt rfl) (Ln k7 (cD rfl (fun hc1 => ?_) (fun hc1 => ?_))))))))
  · refine sk k6 (sq fun _ k8 => Wp_block ?_)
    refine Wp_planF (fun W => St X W (pickL (hOf st) [0, 1, 2]) (kOf st)) [(true, 0), (true, 1), (true, 2), (true, 3), (true, 4), (true, 5), (true, 6), (true, 7), (true, 8), (true, 9), (true, 10), (true, 11), (true, 12), (true, 13), (true, 14), (false, 15), (false, 16), (true, 17)] 18 Ty.mx_0 (by kernel_rfl) (by kernel_rfl) (by kernel_rfl) rfl ((st.picks [0, 1, 2] (by decide)).drew) ?_
    have st := st.drew
    have hF := hF.step0 (Fr.drew _)
    refine Py rfl (yf rfl Ty.fo_71_2) (Py rfl (y_load (i := 2) rfl rfl Ty.pl_69 (fun _ h => h.hp) rfl rfl) (Py rfl (yf rfl Ty.fo_75_2) (Py rfl (y_load (i := 0) rfl rfl Ty.pl_73 (fun _ h => h.hp) rfl rfl) (Pm rfl ?_))))
    obtain ⟨gi1, bi1, egi1⟩ := (st.k (i := 0) rfl).addr (fun _ => rfl) (by decide) (q := s4) (by first | omega | (simp; done) | (simp; omega)) (by first | omega | (simp; done) | (simp; omega))
    subst egi1
    refine Py rfl (y_ixa (q := s4) rfl rfl rfl Ty.es_73 (by first | omega | (simp; done) | (simp; omega)) (by first | omega | (simp; done) | (simp; omega))) ?_
    refine Py rfl (yf rfl Ty.fo_111_0) (Py rfl (y_ldk1 (q := s4) 0 rfl rfl Ty.pl_9 (fun _ h => h.k (i := 0) rfl) (fun _ => rfl) (by first | omega | (simp; done) | (simp; omega)) (by first | omega | (simp; done) | (simp; omega)) rfl) ?_)
    refine Py rfl (yf rfl Ty.fo_75_2) (Py rfl (y_load (i := 0) rfl rfl Ty.pl_73 (fun _ h => h.hp) rfl rfl) (Pm rfl (Py rfl (y_ixa (q := s4) rfl rfl rfl Ty.es_73 (by first | omega | (simp; done) | (simp; omega)) (by first | omega | (simp; done) | (simp; omega))) ?_)))
    refine Py rfl (yf rfl Ty.fo_111_1) (Py rfl (y_ldk1 (q := s4) 1 rfl rfl Ty.pl_2 (fun _ h => h.k (i := 0) rfl) (fun _ => rfl) (by first | omega | (simp; done) | (simp; omega)) (by first | omega | (simp; done) | (simp; omega)) rfl) ?_)
    refine Py rfl (y_build (cells := [_, _]) rfl rfl Ty.zc_112 Ty.ps_112 rfl) (Pl_a rfl (wtd0 rfl) (by rfl) ?_)
    refine Sb (enc := itemMC) (ix v0.items s4) Ty.es_69 Ty.zc_112 (fun _ => rfl) st hF rfl fun g4 w8 how2 hnew2 (st : St _ _ [_, _, _, _, _] _) hF => ?_
    refine ⟨(st.picks [0, 1, 2] (by decide)).takeK 1, ?_⟩
    refine Pl_a rfl (wtd0 rfl) (by rfl) ?_
    refine Sap (enc := itemMC) u2_2 [(ix v0.items s4)] 3 Ty.es_69 Ty.zc_112 Ty.by_112 (fun _ => rfl) itemMC_1 howu2_2 newu2_2 st hF (own_src (i := 4) st.hp rfl how2) (own_none how2) rfl (by first | omega | (simp; done) | (simp; omega)) (by first | omega | (simp; done) | (simp; omega)) fun Aa1 ca1 sp1 w9 how3 hnew3 (st : St _ _ [_, _, _, _, _] _) hF => ?_
    refine ⟨(st.picks [0, 1, 2] (by decide)).takeK 1, ?_⟩
    refine Py rfl (yf rfl Ty.fo_71_2) (Pl_nil (Fin_a rfl (wtd0 rfl) (Ss1 2 Ty.sz_69 st hF (.inr hg3) rfl fun w10 (st : St _ _ [_, _, (_, Cl [_, _, _] _), _, _] _) hF => id (Ib_n (Th_n (k8 _ _ (rg (Lm rfl (Ly rfl (y_add (c := s4 + 1) rfl rfl rfl (wf_i64 (by first | omega | (simp; done) | (simp; omega)))) ?_)))))))))
    refine Ls' rfl (Ls_nil (Th_n (?_)))
    exact ⟨fuel, [(1, _), (2, _), (3, _), (4, _)], Nat.lt_succ_self _, ⟨rfl, rfl, rfl, rfl, trivial⟩, (s4 + 1), (u2_2 ++ [(ix v0.items s4)]), Aa1, ca1, sp1, rfl, ⟨by rewrite [← hL1, fromVal_L1]; rewrite [if_pos hc1]; rfl, by first | omega | (simp; done) | (simp; omega)⟩, by first | omega | (simp; done) | (simp; omega), how3, hnew3, (st.picks [0, 1, 2, 3] (by decide)).pickK [0], hF⟩
  refine Wp_exit (Th_e (Th_e (Ib_hit (Th_n (?_)))))
  exact hout1 _ [(1, _), (2, _), (3, _), (4, _)] _ ⟨rfl, rfl, rfl, rfl, trivial⟩ ⟨s4, u2_2, Au2_2, cu2_2, spu2_2, rfl, show _ = _ from by rewrite [← hL1, fromVal_L1]; rewrite [if_neg hc1]; rfl, by first | omega | (simp; done) | (simp; omega), howu2_2, newu2_2, (st.picks [0, 1, 2, 3] (by decide)).pickK [0], hF⟩

end Go.Proofs.YtngofknckkiboaaGreatDoor

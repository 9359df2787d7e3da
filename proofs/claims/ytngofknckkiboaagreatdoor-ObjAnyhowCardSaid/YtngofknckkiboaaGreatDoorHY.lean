/- Walks printed by gen2.py out of our own specifications: what the functions named below do. -/
import Derived.Test.YtngofknckkiboaaGreatDoorSc
import Derived.Test.YtngofknckkiboaaGreatDoorHI
set_option linter.unusedSimpArgs false
set_option linter.unusedVariables false
namespace Go.Proofs.YtngofknckkiboaaGreatDoor
open Go.RowKit

structure EffectMH where
  act : Int
  name : List UInt8
  val : Int
  tag : TagM
  atF : StampM
  tags : SlM TagM
instance : Inhabited EffectMH := ⟨⟨default, default, default, default, default, default⟩⟩
instance : DecidableEq EffectMH := fun a b => decidable_of_iff (a.act = b.act ∧ a.name = b.name ∧ a.val = b.val ∧ a.tag = b.tag ∧ a.atF = b.atF ∧ a.tags = b.tags) (by cases a; cases b; simp)
def effectMHC (x : EffectMH) : List Value := [.int .i64 x.act, sv x.name, .int .i64 x.val, .int .i64 x.tag.id.origin, .int .u32 x.tag.id.seq, .int .i64 x.tag.n, .int .u32 x.atF.time, .int .i64 x.atF.origin, .slice x.tags.A x.tags.l.length x.tags.c]
theorem effectMHC_1 (x : EffectMH) : ∀ v ∈ effectMHC x, v.oneCell' = true := all_one rfl
abbrev EffectMH.pl (x : EffectMH) : EffectM := ⟨x.act, x.name, x.val, x.tag, x.atF, x.tags.l⟩
def okEffectMH (x : EffectMH) (X : List Nat) (w : World) : Prop := Sld X w x.tags.A x.tags.l.length x.tags.c 3 (x.tags.l.flatMap tagMC)
theorem okEffectMH_st {x : EffectMH} {X Y : List Nat} {w w' : World} (h : okEffectMH x X w) (hf : Fr X w w') (hY : ∀ y ∈ Y, y ∈ X ∨ w.heap.size ≤ y) : okEffectMH x Y w' := by
  unfold okEffectMH at *
  exact h.stable hf hY
def efEffectMH : Ef EffectMH := ⟨okEffectMH, fun h hf hY => okEffectMH_st h hf hY⟩
theorem okEffectMH_0 {x : EffectMH} {X : List Nat} {w : World} (h : efEffectMH.p x X w) : Sld X w x.tags.A x.tags.l.length x.tags.c 3 (x.tags.l.flatMap tagMC) := by
  have h : okEffectMH x X w := h
  unfold okEffectMH at h
  exact h
theorem okEffectMH_mk {x : EffectMH} {X : List Nat} {w : World} (h0 : Sld X w x.tags.A x.tags.l.length x.tags.c 3 (x.tags.l.flatMap tagMC)) : efEffectMH.p x X w := show okEffectMH x X w from h0
set_option maxRecDepth 20000 in
theorem kl_60 : KLaw Tryz.prog 60 (fun x : TagM => Value.agg (tagMC x).toArray) := KLaw.agg Tryz.underlying60 (fun _ _ => rfl) (by rw [Ty.ag_60]; simp) eqv_60 (fun em x w => by kernel_rfl) (fun x v hv => by simp only [tagMC, List.mem_cons, List.not_mem_nil, or_false] at hv; rcases hv with rfl | rfl | rfl <;> rfl)


set_option maxRecDepth 20000 in
set_option maxHeartbeats 4000000 in
theorem objAnyhow_ok (X : List Nat) (w : World) (hX : Lo X w) (kind : Int) (l : List EffectMH) (A_l : Option Addr) (c_l : Nat) (h_l : Sld X w A_l l.length c_l 9 (l.flatMap effectMHC)) (hd_l : ∀ x ∈ l, efEffectMH.p x X w) (mx : Int) (hmx : w.cell? ⟨0, 0, none⟩ = some (.int .i64 mx)) :
    Fn Tryz.prog 3 [.int .i64 kind, .slice A_l l.length c_l] w fun v w' => v = .bool true ∧ Fr [] w w' := by
  refine Fn_of 124 Ty.en_3 Tryz.func3 rfl rfl rfl ?_
  dsimp only [argEnv]
  have st : St X w [] [kS A_l l.length c_l 9 (l.flatMap effectMHC), kAll efEffectMH l] := ((St.nil (X := X) (w := w) hX).addK (kS A_l l.length c_l 9 (l.flatMap effectMHC)) h_l).addK (kAll efEffectMH l) (show (kAll efEffectMH l).p X w from hd_l)
  have hF := Fr.refl ([]) w
  have z38 := (st.q 0 rfl).le
  have hk1 : 1 ≤ (1 + ((kind % 18446744073709551616) % 4)) := by omega
  have hk4 : (1 + ((kind % 18446744073709551616) % 4)) ≤ 4 := by omega
  refine sq fun _ k1 => rg (Ls' rfl (Ln k1 (sq fun _ k2 => sq fun _ k3 => rg (La rfl (Scl st hF rfl (works14_ok (keys (hOf st) ++ X) _ st.Lo mx (cellF hF hmx)) fun w1 st hF => Ly rfl (yn rfl) (Ln k3 ?_))))))
  have hd1 : works14_m = true := by
    exact works14_t
  refine Wp_cond rfl (fun hc1 => absurd hc1 (by first | (simp [hd1]; done) | (rw [hd1]; simp; done) | simpa using hd1)) (fun _ => ?_)
  refine sk k2 (sq fun _ k4 => rg (Lm rfl (Ly rfl (y_cvi (c := kind % 18446744073709551616) rfl rfl Tryz.underlying3 Tryz.underlying24 wm_u64) (Ly rfl (y_remP rfl rfl rfl (by first | omega | (simp; done) | (simp; omega)) (by first | omega | (simp; done) | (simp; omega))) ?_))))
  refine Ly rfl (y_cvi (c := (kind % 18446744073709551616) % 4) rfl rfl Tryz.underlying24 Tryz.underlying3 (wf_i64 (by omega))) ?_
  refine Ly rfl (y_add (c := 1 + ((kind % 18446744073709551616) % 4)) rfl rfl rfl (wf_i64 (by first | omega | (simp; done) | (simp; omega)))) ?_
  refine Ls' rfl (Ln k4 (sq fun _ k5 => rg (Lm rfl (La rfl (a_call rfl rfl rfl rfl (onew_ok (keys (hOf st) ++ X) _ st.Lo (1 + ((kind % 18446744073709551616) % 4))) (fun v w2 ⟨Ar1, cr1, Ar2, cr2, Ar3, cr3, Ar4, cr4, hv, hr1, hr2, hr3, hr4, hf⟩ => ?_))))))
  subst hv
  have st := st.keep0 hf
  have hF := hF.step0 hf
  have z39 := Sld.le hr1
  have st := st.addK (kS Ar1 ((((onew_m (1 + ((kind % 18446744073709551616) % 4))).1).setF).adds).length cr1 4 (((((onew_m (1 + ((kind % 18446744073709551616) % 4))).1).setF).adds).flatMap addMC)) hr1
  have z40 := Sld.le hr2
  have st := st.addK (kS Ar2 ((((onew_m (1 + ((kind % 18446744073709551616) % 4))).1).setF).gone).length cr2 3 (((((onew_m (1 + ((kind % 18446744073709551616) % 4))).1).setF).gone).flatMap tagMC)) hr2
  have z41 := Sld.le hr3
  have st := st.addK (kS Ar3 ((((onew_m (1 + ((kind % 18446744073709551616) % 4))).1).map).puts).length cr3 7 (((((onew_m (1 + ((kind % 18446744073709551616) % 4))).1).map).puts).flatMap putMC)) hr3
  have z42 := Sld.le hr4
  have st := st.addK (kS Ar4 ((((onew_m (1 + ((kind % 18446744073709551616) % 4))).1).map).gone).length cr4 3 (((((onew_m (1 + ((kind % 18446744073709551616) % 4))).1).map).gone).flatMap tagMC)) hr4
  have st : St X w2 [] [_, _, _, _, _, _] := st
  refine Lm rfl (Lx rfl (Lx rfl (La rfl (Sal Ty.zc_40 st hF rfl fun g1 w3 (st : St _ _ [_] _) hF hg1 => La rfl (Ssw 0 Ty.sz_40 st hF (.inr hg1) rfl fun w4 (st : St _ _ [_] _) hF => Ls' rfl (Ln k5 (sq fun _ k6 => rg (Lm rfl (La rfl (a_call rfl rfl rfl rfl (onew_ok (keys (hOf st) ++ X) _ st.Lo (1 + ((kind % 18446744073709551616) % 4))) (fun v w5 ⟨Ar5, cr5, Ar6, cr6, Ar7, cr7, Ar8, cr8, hv, hr5, hr6, hr7, hr8, hf⟩ => ?_)))))))))))
  subst hv
  have st := st.keep0 hf
  have hF := hF.step0 hf
  have z43 := Sld.le hr5
  have st := st.addK (kS Ar5 ((((onew_m (1 + ((kind % 18446744073709551616) % 4))).1).setF).adds).length cr5 4 (((((onew_m (1 + ((kind % 18446744073709551616) % 4))).1).setF).adds).flatMap addMC)) hr5
  have z44 := Sld.le hr6
  have st := st.addK (kS Ar6 ((((onew_m (1 + ((kind % 18446744073709551616) % 4))).1).setF).gone).length cr6 3 (((((onew_m (1 + ((kind % 18446744073709551616) % 4))).1).setF).gone).flatMap tagMC)) hr6
  have z45 := Sld.le hr7
  have st := st.addK (kS Ar7 ((((onew_m (1 + ((kind % 18446744073709551616) % 4))).1).map).puts).length cr7 7 (((((onew_m (1 + ((kind % 18446744073709551616) % 4))).1).map).puts).flatMap putMC)) hr7
  have z46 := Sld.le hr8
  have st := st.addK (kS Ar8 ((((onew_m (1 + ((kind % 18446744073709551616) % 4))).1).map).gone).length cr8 3 (((((onew_m (1 + ((kind % 18446744073709551616) % 4))).1).map).gone).flatMap tagMC)) hr8
  have st : St X w5 [_] [_, _, _, _, _, _, _, _, _, _] := st
  refine Lm rfl (Lx rfl (Lx rfl (La rfl (Sal Ty.zc_40 st hF rfl fun g2 w6 (st : St _ _ [_, _] _) hF hg2 => La rfl (Ssw 1 Ty.sz_40 st hF (.inr hg2) rfl fun w7 (st : St _ _ [_, _] _) hF => Ls' rfl (Ln k6 (sq fun _ k7 => sq fun _ k8 => rg (Lm rfl (Ly rfl (yne rfl) (Lm rfl ?_))))))))))
  have hd2 : ((onew_m (1 + ((kind % 18446744073709551616) % 4))).2) = 0 := by
    rw [onew_z hk1 hk4]
  refine Ls_bool 36 rfl (fun hc2 => absurd hc2 (by first | (simp [hd2]; done) | (rw [hd2]; simp; done) | simpa using hd2)) (fun _ => ?_)
  refine LyT rfl (y_move rfl rfl) (LyT rfl (yne rfl) (Ly rfl (yF rfl) (Ln k8 ?_)))
  have hd3 : ((onew_m (1 + ((kind % 18446744073709551616) % 4))).2) = 0 := by
    rw [onew_z hk1 hk4]
  refine Wp_cond rfl (fun hc3 => absurd hc3 (by first | (simp [hd3]; done) | (rw [hd3]; simp; done) | simpa using hd3)) (fun _ => ?_)
  refine sk k7 (sq fun _ k9 => rg (La rfl (a_mkmap rfl rfl rfl st.hp (fun g3 w8 (hp : Hp w8 [_, _, _]) hf hg3 => ?_))))
  have st : St X w8 [_, _, _] [_, _, _, _, _, _, _, _, _, _] := st.push hp hf hg3
  have hg3 := Nat.le_trans hF.size hg3
  have hF := hF.step0 hf
  have hmap1 : MOk (fun x : TagM => Value.agg (tagMC x).toArray) (fun x : Bool => Value.bool x) #[] 0 ([] : List (TagM × Bool)) := MOk.empty
  refine Ls' rfl (Ln k9 (sq fun _ k10 => rg (Ls' rfl (Ln k10 (sq fun _ k11 => sq fun _ k12 => rg (Ls' rfl (Ln k12 (Wp_block ?_))))))))
  obtain ⟨st, how1, hnew1⟩ := st.rowN effectMHC hF 9 64
  have st : St _ _ [_, _, _, _] _ := st
  have st := st.addK (kAll efEffectMH ([] : List EffectMH)) kAll_nil
  have st : St X _ [_, _, _, _] [_, _, _, _, _, _, _, _, _, _, _] := st
  have st := st.addK (kAll efEffectMH ([] : List EffectMH)) (st.kall (i := 10) rfl)
  have st := st.addK (kS Ar1 ((((onew_m (1 + ((kind % 18446744073709551616) % 4))).1).setF).adds).length cr1 4 (((((onew_m (1 + ((kind % 18446744073709551616) % 4))).1).setF).adds).flatMap addMC)) (st.k (i := 2) rfl)
  have st := st.addK (kS Ar2 ((((onew_m (1 + ((kind % 18446744073709551616) % 4))).1).setF).gone).length cr2 3 (((((onew_m (1 + ((kind % 18446744073709551616) % 4))).1).setF).gone).flatMap tagMC)) (st.k (i := 3) rfl)
  have st := st.addK (kS Ar3 ((((onew_m (1 + ((kind % 18446744073709551616) % 4))).1).map).puts).length cr3 7 (((((onew_m (1 + ((kind % 18446744073709551616) % 4))).1).map).puts).flatMap putMC)) (st.k (i := 4) rfl)
  have st := st.addK (kS Ar4 ((((onew_m (1 + ((kind % 18446744073709551616) % 4))).1).map).gone).length cr4 3 (((((onew_m (1 + ((kind % 18446744073709551616) % 4))).1).map).gone).flatMap tagMC)) (st.k (i := 5) rfl)
  have st : St X _ [_, _, _, _] [_, _, _, _, _, _, _, _, _, _, _, _, _, _, _, _] := st
  refine lp (fun q E W => ∃ (s10 : List EffectMH) (s11 : Int) (u0_0 : Int) (u0_1 : Int) (u0_2 : Int) (u0_3 : Int) (u0_4 : Int) (u0_5 : Int) (u0_6 : List AddM) (u0_7 : List TagM) (u0_8 : List PutM) (u0_9 : List TagM) (mg3 : List (TagM × Bool)) (As10 : Option Addr) (cs10 : Nat) (sps10 : List Value) (Au0_6 : Option Addr) (cu0_6 : Nat) (Au0_7 : Option Addr) (cu0_7 : Nat) (Au0_8 : Option Addr) (cu0_8 : Nat) (Au0_9 : Option Addr) (cu0_9 : Nat) (es_mg3 : Array MapEntry) (cl_mg3 : Nat), E = [(1, .slice A_l l.length c_l), (5, .pointer (some ⟨g1, 0, none⟩)), (7, .pointer (some ⟨g2, 0, none⟩)), (9, .map (some g3)), (10, .slice As10 s10.length cs10), (11, .int .i64 s11)] ∧ jq q (fun m => ((40 - s11).toNat < m)) (True) ∧ (LI (1 + ((kind % 18446744073709551616) % 4)) (⟨u0_0, (⟨u0_1, (⟨u0_2, u0_3⟩ : StampM)⟩ : RegM), (⟨u0_4, u0_5⟩ : NumM), (⟨u0_6, u0_7⟩ : SetM), (⟨u0_8, u0_9⟩ : MapM)⟩ : ObjM) (s10.map EffectMH.pl) mg3 s11) ∧ Ow As10 s10.length cs10 9 (s10.flatMap effectMHC) sps10 ∧ (∀ g, blkOf As10 = some g → g ∈ ([]) ∨ w.heap.size ≤ g) ∧ MOk (fun x : TagM => Value.agg (tagMC x).toArray) (fun x : Bool => Value.bool x) es_mg3 cl_mg3 mg3 ∧ St X W [(some g1, Cl [.int .i64 u0_0, .int .i64 u0_1, .int .u32 u0_2, .int .i64 u0_3, .int .i64 u0_4, .int .i64 u0_5, .slice Au0_6 u0_6.length cu0_6, .slice Au0_7 u0_7.length cu0_7, .slice Au0_8 u0_8.length cu0_8, .slice Au0_9 u0_9.length cu0_9] 40), (some g2, Cl [.int .i64 (((onew_m (1 + ((kind % 18446744073709551616) % 4))).1).kind), .int .i64 ((((onew_m (1 + ((kind % 18446744073709551616) % 4))).1).reg).val), .int .u32 ((((onew_m (1 + ((kind % 18446744073709551616) % 4))).1).reg).atF.time), .int .i64 ((((onew_m (1 + ((kind % 18446744073709551616) % 4))).1).reg).atF.origin), .int .i64 ((((onew_m (1 + ((kind % 18446744073709551616) % 4))).1).num).plus), .int .i64 ((((onew_m (1 + ((kind % 18446744073709551616) % 4))).1).num).minus), .slice Ar5 (((((onew_m (1 + ((kind % 18446744073709551616) % 4))).1).setF).adds).length) cr5, .slice Ar6 (((((onew_m (1 + ((kind % 18446744073709551616) % 4))).1).setF).gone).length) cr6, .slice Ar7 (((((onew_m (1 + ((kind % 18446744073709551616) % 4))).1).map).puts).length) cr7, .slice Ar8 (((((onew_m (1 + ((kind % 18446744073709551616) % 4))).1).map).gone).length) cr8] 40), (some g3, Obj.map es_mg3 cl_mg3), (blkOf As10, Cl (s10.flatMap effectMHC ++ sps10) 64)] [kS A_l l.length c_l 9 (l.flatMap effectMHC), kAll efEffectMH l, kS Ar1 ((((onew_m (1 + ((kind % 18446744073709551616) % 4))).1).setF).adds).length cr1 4 (((((onew_m (1 + ((kind % 18446744073709551616) % 4))).1).setF).adds).flatMap addMC), kS Ar2 ((((onew_m (1 + ((kind % 18446744073709551616) % 4))).1).setF).gone).length cr2 3 (((((onew_m (1 + ((kind % 18446744073709551616) % 4))).1).setF).gone).flatMap tagMC), kS Ar3 ((((onew_m (1 + ((kind % 18446744073709551616) % 4))).1).map).puts).length cr3 7 (((((onew_m (1 + ((kind % 18446744073709551616) % 4))).1).map).puts).flatMap putMC), kS Ar4 ((((onew_m (1 + ((kind % 18446744073709551616) % 4))).1).map).gone).length cr4 3 (((((onew_m (1 + ((kind % 18446744073709551616) % 4))).1).map).gone).flatMap tagMC), kS Ar5 ((((onew_m (1 + ((kind % 18446744073709551616) % 4))).1).setF).adds).length cr5 4 (((((onew_m (1 + ((kind % 18446744073709551616) % 4))).1).setF).adds).flatMap addMC), kS Ar6 ((((onew_m (1 + ((kind % 18446744073709551616) % 4))).1).setF).gone).length cr6 3 (((((onew_m (1 + ((kind % 18446744073709551616) % 4))).1).setF).gone).flatMap tagMC), kS Ar7 ((((onew_m (1 + ((kind % 18446744073709551616) % 4))).1).map).puts).length cr7 7 (((((onew_m (1 + ((kind % 18446744073709551616) % 4))).1).map).puts).flatMap putMC), kS Ar8 ((((onew_m (1 + ((kind % 18446744073709551616) % 4))).1).map).gone).length cr8 3 (((((onew_m (1 + ((kind % 18446744073709551616) % 4))).1).map).gone).flatMap tagMC), kAll efEffectMH ([] : List EffectMH), kAll efEffectMH s10, kS Au0_6 u0_6.length cu0_6 4 (u0_6.flatMap addMC), kS Au0_7 u0_7.length cu0_7 3 (u0_7.flatMap tagMC), kS Au0_8 u0_8.length cu0_8 7 (u0_8.flatMap putMC), kS Au0_9 u0_9.length cu0_9 3 (u0_9.flatMap tagMC)] ∧ Fr ([]) w W) ((40 - (0 : Int)).toNat + 1) [(1, _), (5, _), (7, _), (9, _), (10, _), (11, _)] ⟨rfl, rfl, rfl, rfl, rfl, rfl, trivial⟩ ⟨_, _, _, _, _, _, _, _, _, _, _, _, _, _, _, _, _, _, _, _, _, _, _, _, _, _, rfl, Nat.lt_succ_self _, by exact LI.init hk1 hk4, how1, hnew1, hmap1, st, hF⟩ k11 ?_ fun hout1 => ?_
  · rintro E w9 ⟨s10, s11, u0_0, u0_1, u0_2, u0_3, u0_4, u0_5, u0_6, u0_7, u0_8, u0_9, mg3, As10, cs10, sps10, Au0_6, cu0_6, Au0_7, cu0_7, Au0_8, cu0_8, Au0_9, cu0_9, es_mg3, cl_mg3, rfl, _, hinv, hows10, news10, hmapmg3, st, hF⟩
    have hI := hinv
    obtain ⟨b1, b2, b3, b4⟩ := hinv.small
    simp only at b1 b2 b3 b4
    have hi0 := hinv.i0
    have hn0 := hinv.n
    rw [List.length_map] at hn0
    have hi40 := hinv.i40
    refine sq fun _ k13 => sq fun _ k14 => rg (Lm rfl (Ly rfl (yll rfl Tryz.underlying45) (Ly rfl (y_sub (c := (s10.length : Int) - 1) rfl rfl rfl (wf_i64 (by first | omega | (simp; done) | (simp; omega)))) ?_)))
    refine Ls' rfl (Ln k14 (Wp_block ?_))
    have st := st.addK (kS Ar5 ((((onew_m (1 + ((kind % 18446744073709551616) % 4))).1).setF).adds).length cr5 4 (((((onew_m (1 + ((kind % 18446744073709551616) % 4))).1).setF).adds).flatMap addMC)) (st.k (i := 6) rfl)
    have st := st.addK (kS Ar6 ((((onew_m (1 + ((kind % 18446744073709551616) % 4))).1).setF).gone).length cr6 3 (((((onew_m (1 + ((kind % 18446744073709551616) % 4))).1).setF).gone).flatMap tagMC)) (st.k (i := 7) rfl)
    have st := st.addK (kS Ar7 ((((onew_m (1 + ((kind % 18446744073709551616) % 4))).1).map).puts).length cr7 7 (((((onew_m (1 + ((kind % 18446744073709551616) % 4))).1).map).puts).flatMap putMC)) (st.k (i := 8) rfl)
    have st := st.addK (kS Ar8 ((((onew_m (1 + ((kind % 18446744073709551616) % 4))).1).map).gone).length cr8 3 (((((onew_m (1 + ((kind % 18446744073709551616) % 4))).1).map).gone).flatMap tagMC)) (st.k (i := 9) rfl)
    have st : St X _ [_, _, _, _] [_, _, _, _, _, _, _, _, _, _, _, _, _, _, _, _, _, _, _, _] := st
    refine lp (fun q E W => ∃ (s14 : Int) (u1_0 : Int) (u1_1 : Int) (u1_2 : Int) (u1_3 : Int) (u1_4 : Int) (u1_5 : Int) (u1_6 : List AddM) (u1_7 : List TagM) (u1_8 : List PutM) (u1_9 : List TagM) (Au1_6 : Option Addr) (cu1_6 : Nat) (Au1_7 : Option Addr) (cu1_7 : Nat) (Au1_8 : Option Addr) (cu1_8 : Nat) (Au1_9 : Option Addr) (cu1_9 : Nat), E = [(5, .pointer (some ⟨g1, 0, none⟩)), (7, .pointer (some ⟨g2, 0, none⟩)), (10, .slice As10 s10.length cs10), (14, .int .i64 s14)] ∧ jq q (fun m => ((s14 + 1).toNat < m)) (True) ∧ jq q (fun _ => (LJ (1 + ((kind % 18446744073709551616) % 4)) (⟨u1_0, (⟨u1_1, (⟨u1_2, u1_3⟩ : StampM)⟩ : RegM), (⟨u1_4, u1_5⟩ : NumM), (⟨u1_6, u1_7⟩ : SetM), (⟨u1_8, u1_9⟩ : MapM)⟩ : ObjM) (s10.map EffectMH.pl) s14)) ((LJ (1 + ((kind % 18446744073709551616) % 4)) (⟨u1_0, (⟨u1_1, (⟨u1_2, u1_3⟩ : StampM)⟩ : RegM), (⟨u1_4, u1_5⟩ : NumM), (⟨u1_6, u1_7⟩ : SetM), (⟨u1_8, u1_9⟩ : MapM)⟩ : ObjM) (s10.map EffectMH.pl) s14 ∧ ¬ 0 ≤ s14)) ∧ St X W [(some g1, Cl [.int .i64 u0_0, .int .i64 u0_1, .int .u32 u0_2, .int .i64 u0_3, .int .i64 u0_4, .int .i64 u0_5, .slice Au0_6 u0_6.length cu0_6, .slice Au0_7 u0_7.length cu0_7, .slice Au0_8 u0_8.length cu0_8, .slice Au0_9 u0_9.length cu0_9] 40), (some g2, Cl [.int .i64 u1_0, .int .i64 u1_1, .int .u32 u1_2, .int .i64 u1_3, .int .i64 u1_4, .int .i64 u1_5, .slice Au1_6 u1_6.length cu1_6, .slice Au1_7 u1_7.length cu1_7, .slice Au1_8 u1_8.length cu1_8, .slice Au1_9 u1_9.length cu1_9] 40), (some g3, Obj.map es_mg3 cl_mg3), (blkOf As10, Cl (s10.flatMap effectMHC ++ sps10) 64)] [kS A_l l.length c_l 9 (l.flatMap effectMHC), kAll efEffectMH l, kS Ar1 ((((onew_m (1 + ((kind % 18446744073709551616) % 4))).1).setF).adds).length cr1 4 (((((onew_m (1 + ((kind % 18446744073709551616) % 4))).1).setF).adds).flatMap addMC), kS Ar2 ((((onew_m (1 + ((kind % 18446744073709551616) % 4))).1).setF).gone).length cr2 3 (((((onew_m (1 + ((kind % 18446744073709551616) % 4))).1).setF).gone).flatMap tagMC), kS Ar3 ((((onew_m (1 + ((kind % 18446744073709551616) % 4))).1).map).puts).length cr3 7 (((((onew_m (1 + ((kind % 18446744073709551616) % 4))).1).map).puts).flatMap putMC), kS Ar4 ((((onew_m (1 + ((kind % 18446744073709551616) % 4))).1).map).gone).length cr4 3 (((((onew_m (1 + ((kind % 18446744073709551616) % 4))).1).map).gone).flatMap tagMC), kS Ar5 ((((onew_m (1 + ((kind % 18446744073709551616) % 4))).1).setF).adds).length cr5 4 (((((onew_m (1 + ((kind % 18446744073709551616) % 4))).1).setF).adds).flatMap addMC), kS Ar6 ((((onew_m (1 + ((kind % 18446744073709551616) % 4))).1).setF).gone).length cr6 3 (((((onew_m (1 + ((kind % 18446744073709551616) % 4))).1).setF).gone).flatMap tagMC), kS Ar7 ((((onew_m (1 + ((kind % 18446744073709551616) % 4))).1).map).puts).length cr7 7 (((((onew_m (1 + ((kind % 18446744073709551616) % 4))).1).map).puts).flatMap putMC), kS Ar8 ((((onew_m (1 + ((kind % 18446744073709551616) % 4))).1).map).gone).length cr8 3 (((((onew_m (1 + ((kind % 18446744073709551616) % 4))).1).map).gone).flatMap tagMC), kAll efEffectMH ([] : List EffectMH), kAll efEffectMH s10, kS Au0_6 u0_6.length cu0_6 4 (u0_6.flatMap addMC), kS Au0_7 u0_7.length cu0_7 3 (u0_7.flatMap tagMC), kS Au0_8 u0_8.length cu0_8 7 (u0_8.flatMap putMC), kS Au0_9 u0_9.length cu0_9 3 (u0_9.flatMap tagMC), kS Au1_6 u1_6.length cu1_6 4 (u1_6.flatMap addMC), kS Au1_7 u1_7.length cu1_7 3 (u1_7.flatMap tagMC), kS Au1_8 u1_8.length cu1_8 7 (u1_8.flatMap putMC), kS Au1_9 u1_9.length cu1_9 3 (u1_9.flatMap tagMC)] ∧ Fr ([]) w W) ((((s10.length : Int) - 1) + 1).toNat + 1) [(5, _), (7, _), (10, _), (14, _)] ⟨rfl, rfl, rfl, rfl, trivial⟩ ⟨_, _, _, _, _, _, _, _, _, _, _, _, _, _, _, _, _, _, _, rfl, Nat.lt_succ_self _, show _ from (by have := LJ.init (D := s10.map EffectMH.pl) hk1 hk4; rw [List.length_map] at this; exact this), st, hF⟩ k13 ?_ fun hout2 => ?_
    · rintro E w10 ⟨s14, u1_0, u1_1, u1_2, u1_3, u1_4, u1_5, u1_6, u1_7, u1_8, u1_9, Au1_6, cu1_6, Au1_7, cu1_7, Au1_8, cu1_8, Au1_9, cu1_9, rfl, _, hinv, st, hF⟩
      unfold jq at hinv; dsimp only at hinv
      obtain ⟨d1, d2, d3, d4⟩ := LJ.small hI hinv.1
      simp only at d1 d2 d3 d4
      have hE := LJ.done hI hinv.1 hinv.2
      refine sq fun _ k15 => ?_
      refine Wp_plan (fun W => St X W (pickL (hOf st) [0, 1, 2, 3]) (kOf st)) [(true, 0), (true, 2), (false, 1), (false, 3), (false, 4), (true, 5), (true, 6), (true, 9), (false, 7), (false, 8), (false, 10), (false, 11), (false, 12), (true, 13), (true, 14)] Ty.mx_0 (by kernel_rfl) (by kernel_rfl) rfl ((st.picks [0, 1, 2, 3] (by decide)).drew) ?_
      have st := st.drew
      have hF := hF.step0 (Fr.drew _)
      refine Py rfl (y_loadw (i := 0) rfl rfl Ty.ag_40 (fun _ h => h.hp) rfl rfl) (Py rfl (y_loadw (i := 1) rfl rfl Ty.ag_40 (fun _ h => h.hp) rfl rfl) (Pl_a rfl (wtd0 rfl) (by rfl) ?_))
      refine a_call rfl rfl rfl rfl (from14_ok (keys (hOf st) ++ X) _ st.Lo (⟨u0_0, (⟨u0_1, (⟨u0_2, u0_3⟩ : StampM)⟩ : RegM), (⟨u0_4, u0_5⟩ : NumM), (⟨u0_6, u0_7⟩ : SetM), (⟨u0_8, u0_9⟩ : MapM)⟩ : ObjM) Au0_6 cu0_6 Au0_7 cu0_7 Au0_8 cu0_8 Au0_9 cu0_9 (st.q 12 rfl) (st.q 13 rfl) (st.q 14 rfl) (st.q 15 rfl) (by assumption) (by assumption) (by assumption) (by assumption)) (fun v w11 ⟨Ar9, cr9, Ar10, cr10, Ar11, cr11, Ar12, cr12, hv, hr9, hr10, hr11, hr12, hf⟩ => ?_)
      subst hv
      have st := st.keep0 hf
      have hF := hF.step0 hf
      have z47 := Sld.le hr9
      have st := st.addK (kS Ar9 (((from14_m (⟨u0_0, (⟨u0_1, (⟨u0_2, u0_3⟩ : StampM)⟩ : RegM), (⟨u0_4, u0_5⟩ : NumM), (⟨u0_6, u0_7⟩ : SetM), (⟨u0_8, u0_9⟩ : MapM)⟩ : ObjM)).setF).adds).length cr9 4 ((((from14_m (⟨u0_0, (⟨u0_1, (⟨u0_2, u0_3⟩ : StampM)⟩ : RegM), (⟨u0_4, u0_5⟩ : NumM), (⟨u0_6, u0_7⟩ : SetM), (⟨u0_8, u0_9⟩ : MapM)⟩ : ObjM)).setF).adds).flatMap addMC)) hr9
      have z2 := Sld.le hr10
      have st := st.addK (kS Ar10 (((from14_m (⟨u0_0, (⟨u0_1, (⟨u0_2, u0_3⟩ : StampM)⟩ : RegM), (⟨u0_4, u0_5⟩ : NumM), (⟨u0_6, u0_7⟩ : SetM), (⟨u0_8, u0_9⟩ : MapM)⟩ : ObjM)).setF).gone).length cr10 3 ((((from14_m (⟨u0_0, (⟨u0_1, (⟨u0_2, u0_3⟩ : StampM)⟩ : RegM), (⟨u0_4, u0_5⟩ : NumM), (⟨u0_6, u0_7⟩ : SetM), (⟨u0_8, u0_9⟩ : MapM)⟩ : ObjM)).setF).gone).flatMap tagMC)) hr10
      have z3 := Sld.le hr11
      have st := st.addK (kS Ar11 (((from14_m (⟨u0_0, (⟨u0_1, (⟨u0_2, u0_3⟩ : StampM)⟩ : RegM), (⟨u0_4, u0_5⟩ : NumM), (⟨u0_6, u0_7⟩ : SetM), (⟨u0_8, u0_9⟩ : MapM)⟩ : ObjM)).map).puts).length cr11 7 ((((from14_m (⟨u0_0, (⟨u0_1, (⟨u0_2, u0_3⟩ : StampM)⟩ : RegM), (⟨u0_4, u0_5⟩ : NumM), (⟨u0_6, u0_7⟩ : SetM), (⟨u0_8, u0_9⟩ : MapM)⟩ : ObjM)).map).puts).flatMap putMC)) hr11
      have z4 := Sld.le hr12
      have st := st.addK (kS Ar12 (((from14_m (⟨u0_0, (⟨u0_1, (⟨u0_2, u0_3⟩ : StampM)⟩ : RegM), (⟨u0_4, u0_5⟩ : NumM), (⟨u0_6, u0_7⟩ : SetM), (⟨u0_8, u0_9⟩ : MapM)⟩ : ObjM)).map).gone).length cr12 3 ((((from14_m (⟨u0_0, (⟨u0_1, (⟨u0_2, u0_3⟩ : StampM)⟩ : RegM), (⟨u0_4, u0_5⟩ : NumM), (⟨u0_6, u0_7⟩ : SetM), (⟨u0_8, u0_9⟩ : MapM)⟩ : ObjM)).map).gone).flatMap tagMC)) hr12
      have st : St X w11 [_, _, _, _] [_, _, _, _, _, _, _, _, _, _, _, _, _, _, _, _, _, _, _, _, _, _, _, _] := st
      refine ⟨(st.picks [0, 1, 2, 3] (by decide)).takeK 20, ?_⟩
      refine Pl_a rfl (wtd0 rfl) (by rfl) ?_
      refine a_call rfl rfl rfl rfl (from14_ok (keys (hOf st) ++ X) _ st.Lo (⟨u1_0, (⟨u1_1, (⟨u1_2, u1_3⟩ : StampM)⟩ : RegM), (⟨u1_4, u1_5⟩ : NumM), (⟨u1_6, u1_7⟩ : SetM), (⟨u1_8, u1_9⟩ : MapM)⟩ : ObjM) Au1_6 cu1_6 Au1_7 cu1_7 Au1_8 cu1_8 Au1_9 cu1_9 (st.q 16 rfl) (st.q 17 rfl) (st.q 18 rfl) (st.q 19 rfl) (by assumption) (by assumption) (by assumption) (by assumption)) (fun v w12 ⟨Ar13, cr13, Ar14, cr14, Ar15, cr15, Ar16, cr16, hv, hr13, hr14, hr15, hr16, hf⟩ => ?_)
      subst hv
      have st := st.keep0 hf
      have hF := hF.step0 hf
      have z5 := Sld.le hr13
      have st := st.addK (kS Ar13 (((from14_m (⟨u1_0, (⟨u1_1, (⟨u1_2, u1_3⟩ : StampM)⟩ : RegM), (⟨u1_4, u1_5⟩ : NumM), (⟨u1_6, u1_7⟩ : SetM), (⟨u1_8, u1_9⟩ : MapM)⟩ : ObjM)).setF).adds).length cr13 4 ((((from14_m (⟨u1_0, (⟨u1_1, (⟨u1_2, u1_3⟩ : StampM)⟩ : RegM), (⟨u1_4, u1_5⟩ : NumM), (⟨u1_6, u1_7⟩ : SetM), (⟨u1_8, u1_9⟩ : MapM)⟩ : ObjM)).setF).adds).flatMap addMC)) hr13
      have z6 := Sld.le hr14
      have st := st.addK (kS Ar14 (((from14_m (⟨u1_0, (⟨u1_1, (⟨u1_2, u1_3⟩ : StampM)⟩ : RegM), (⟨u1_4, u1_5⟩ : NumM), (⟨u1_6, u1_7⟩ : SetM), (⟨u1_8, u1_9⟩ : MapM)⟩ : ObjM)).setF).gone).length cr14 3 ((((from14_m (⟨u1_0, (⟨u1_1, (⟨u1_2, u1_3⟩ : StampM)⟩ : RegM), (⟨u1_4, u1_5⟩ : NumM), (⟨u1_6, u1_7⟩ : SetM), (⟨u1_8, u1_9⟩ : MapM)⟩ : ObjM)).setF).gone).flatMap tagMC)) hr14
      have z7 := Sld.le hr15
      have st := st.addK (kS Ar15 (((from14_m (⟨u1_0, (⟨u1_1, (⟨u1_2, u1_3⟩ : StampM)⟩ : RegM), (⟨u1_4, u1_5⟩ : NumM), (⟨u1_6, u1_7⟩ : SetM), (⟨u1_8, u1_9⟩ : MapM)⟩ : ObjM)).map).puts).length cr15 7 ((((from14_m (⟨u1_0, (⟨u1_1, (⟨u1_2, u1_3⟩ : StampM)⟩ : RegM), (⟨u1_4, u1_5⟩ : NumM), (⟨u1_6, u1_7⟩ : SetM), (⟨u1_8, u1_9⟩ : MapM)⟩ : ObjM)).map).puts).flatMap putMC)) hr15
      have z8 := Sld.le hr16
      have st := st.addK (kS Ar16 (((from14_m (⟨u1_0, (⟨u1_1, (⟨u1_2, u1_3⟩ : StampM)⟩ : RegM), (⟨u1_4, u1_5⟩ : NumM), (⟨u1_6, u1_7⟩ : SetM), (⟨u1_8, u1_9⟩ : MapM)⟩ : ObjM)).map).gone).length cr16 3 ((((from14_m (⟨u1_0, (⟨u1_1, (⟨u1_2, u1_3⟩ : StampM)⟩ : RegM), (⟨u1_4, u1_5⟩ : NumM), (⟨u1_6, u1_7⟩ : SetM), (⟨u1_8, u1_9⟩ : MapM)⟩ : ObjM)).map).gone).flatMap tagMC)) hr16
      have st : St X w12 [_, _, _, _] [_, _, _, _, _, _, _, _, _, _, _, _, _, _, _, _, _, _, _, _, _, _, _, _, _, _, _, _] := st
      refine ⟨(st.picks [0, 1, 2, 3] (by decide)).takeK 20, ?_⟩
      refine Pl_a rfl (wtd0 rfl) (by rfl) ?_
      refine Scl st hF rfl (r14same_ok (keys (hOf st) ++ X) _ st.Lo (from14_m (⟨u0_0, (⟨u0_1, (⟨u0_2, u0_3⟩ : StampM)⟩ : RegM), (⟨u0_4, u0_5⟩ : NumM), (⟨u0_6, u0_7⟩ : SetM), (⟨u0_8, u0_9⟩ : MapM)⟩ : ObjM)) Ar9 cr9 Ar10 cr10 Ar11 cr11 Ar12 cr12 (from14_m (⟨u1_0, (⟨u1_1, (⟨u1_2, u1_3⟩ : StampM)⟩ : RegM), (⟨u1_4, u1_5⟩ : NumM), (⟨u1_6, u1_7⟩ : SetM), (⟨u1_8, u1_9⟩ : MapM)⟩ : ObjM)) Ar13 cr13 Ar14 cr14 Ar15 cr15 Ar16 cr16 (st.q 20 rfl) (st.q 21 rfl) (st.q 22 rfl) (st.q 23 rfl) (st.q 24 rfl) (st.q 25 rfl) (st.q 26 rfl) (st.q 27 rfl)) fun w13 st hF => ?_
      refine ⟨(st.picks [0, 1, 2, 3] (by decide)).takeK 20, ?_⟩
      refine Pm rfl ?_
      have hd4 : (r14same_m (from14_m (⟨u0_0, (⟨u0_1, (⟨u0_2, u0_3⟩ : StampM)⟩ : RegM), (⟨u0_4, u0_5⟩ : NumM), (⟨u0_6, u0_7⟩ : SetM), (⟨u0_8, u0_9⟩ : MapM)⟩ : ObjM)) (from14_m (⟨u1_0, (⟨u1_1, (⟨u1_2, u1_3⟩ : StampM)⟩ : RegM), (⟨u1_4, u1_5⟩ : NumM), (⟨u1_6, u1_7⟩ : SetM), (⟨u1_8, u1_9⟩ : MapM)⟩ : ObjM))) = true := by
        rw [hE, from14_eq]; exact r14same_refl _
      refine Pl_bool 115 rfl (fun _ => ?_) (fun hc4 => absurd hc4 (by first | (simp [hd4]; done) | (rw [hd4]; simp; done) | simpa using hd4))
      refine Pl_y rfl (wtdT rfl rfl rfl) rfl rfl (y_loadw (i := 0) rfl rfl Ty.ag_40 (fun _ h => h.hp) rfl rfl) (Pl_y rfl (wtdT rfl rfl rfl) rfl rfl (y_loadw (i := 1) rfl rfl Ty.ag_40 (fun _ h => h.hp) rfl rfl) (Pl_a rfl (wtdT rfl rfl rfl) (by rfl) ?_))
      refine a_call rfl rfl rfl rfl (osay_ok (keys (hOf st) ++ X) _ st.Lo (⟨u0_0, (⟨u0_1, (⟨u0_2, u0_3⟩ : StampM)⟩ : RegM), (⟨u0_4, u0_5⟩ : NumM), (⟨u0_6, u0_7⟩ : SetM), (⟨u0_8, u0_9⟩ : MapM)⟩ : ObjM) Au0_6 cu0_6 Au0_7 cu0_7 Au0_8 cu0_8 Au0_9 cu0_9 (st.q 12 rfl) (st.q 13 rfl) (st.q 14 rfl) (st.q 15 rfl) (by assumption) (by assumption) (by assumption) (by assumption)) (fun v w14 ⟨Ar17, cr17, hv, hr17, hf⟩ => ?_)
      subst hv
      have st := st.keep0 hf
      have hF := hF.step0 hf
      have z9 := Sld.le hr17
      have st := st.addK (kS Ar17 ((osay_m (⟨u0_0, (⟨u0_1, (⟨u0_2, u0_3⟩ : StampM)⟩ : RegM), (⟨u0_4, u0_5⟩ : NumM), (⟨u0_6, u0_7⟩ : SetM), (⟨u0_8, u0_9⟩ : MapM)⟩ : ObjM)).items).length cr17 2 (((osay_m (⟨u0_0, (⟨u0_1, (⟨u0_2, u0_3⟩ : StampM)⟩ : RegM), (⟨u0_4, u0_5⟩ : NumM), (⟨u0_6, u0_7⟩ : SetM), (⟨u0_8, u0_9⟩ : MapM)⟩ : ObjM)).items).flatMap itemMC)) hr17
      have st : St X w14 [_, _, _, _] [_, _, _, _, _, _, _, _, _, _, _, _, _, _, _, _, _, _, _, _, _, _, _, _, _, _, _, _, _] := st
      refine ⟨(st.picks [0, 1, 2, 3] (by decide)).takeK 20, ?_⟩
      refine Pl_a rfl (wtdT rfl rfl rfl) (by rfl) ?_
      refine a_call rfl rfl rfl rfl (fromVal_ok (keys (hOf st) ++ X) _ st.Lo (osay_m (⟨u0_0, (⟨u0_1, (⟨u0_2, u0_3⟩ : StampM)⟩ : RegM), (⟨u0_4, u0_5⟩ : NumM), (⟨u0_6, u0_7⟩ : SetM), (⟨u0_8, u0_9⟩ : MapM)⟩ : ObjM)) Ar17 cr17 (st.q 28 rfl) (Nat.le_trans (say_small (n := 1000000) (by assumption) (by assumption)) (by decide))) (fun v w15 ⟨Ar18, cr18, hv, hr18, hf⟩ => ?_)
      subst hv
      have st := st.keep0 hf
      have hF := hF.step0 hf
      have z10 := Sld.le hr18
      have st := st.addK (kS Ar18 ((fromVal_m (osay_m (⟨u0_0, (⟨u0_1, (⟨u0_2, u0_3⟩ : StampM)⟩ : RegM), (⟨u0_4, u0_5⟩ : NumM), (⟨u0_6, u0_7⟩ : SetM), (⟨u0_8, u0_9⟩ : MapM)⟩ : ObjM))).items).length cr18 2 (((fromVal_m (osay_m (⟨u0_0, (⟨u0_1, (⟨u0_2, u0_3⟩ : StampM)⟩ : RegM), (⟨u0_4, u0_5⟩ : NumM), (⟨u0_6, u0_7⟩ : SetM), (⟨u0_8, u0_9⟩ : MapM)⟩ : ObjM))).items).flatMap itemMC)) hr18
      have st : St X w15 [_, _, _, _] [_, _, _, _, _, _, _, _, _, _, _, _, _, _, _, _, _, _, _, _, _, _, _, _, _, _, _, _, _, _] := st
      refine ⟨(st.picks [0, 1, 2, 3] (by decide)).takeK 20, ?_⟩
      refine Pl_a rfl (wtdT rfl rfl rfl) (by rfl) ?_
      refine a_call rfl rfl rfl rfl (osay_ok (keys (hOf st) ++ X) _ st.Lo (⟨u1_0, (⟨u1_1, (⟨u1_2, u1_3⟩ : StampM)⟩ : RegM), (⟨u1_4, u1_5⟩ : NumM), (⟨u1_6, u1_7⟩ : SetM), (⟨u1_8, u1_9⟩ : MapM)⟩ : ObjM) Au1_6 cu1_6 Au1_7 cu1_7 Au1_8 cu1_8 Au1_9 cu1_9 (st.q 16 rfl) (st.q 17 rfl) (st.q 18 rfl) (st.q 19 rfl) (by assumption) (by assumption) (by assumption) (by assumption)) (fun v w16 ⟨Ar19, cr19, hv, hr19, hf⟩ => ?_)
      subst hv
      have st := st.keep0 hf
      have hF := hF.step0 hf
      have z11 := Sld.le hr19
      have st := st.addK (kS Ar19 ((osay_m (⟨u1_0, (⟨u1_1, (⟨u1_2, u1_3⟩ : StampM)⟩ : RegM), (⟨u1_4, u1_5⟩ : NumM), (⟨u1_6, u1_7⟩ : SetM), (⟨u1_8, u1_9⟩ : MapM)⟩ : ObjM)).items).length cr19 2 (((osay_m (⟨u1_0, (⟨u1_1, (⟨u1_2, u1_3⟩ : StampM)⟩ : RegM), (⟨u1_4, u1_5⟩ : NumM), (⟨u1_6, u1_7⟩ : SetM), (⟨u1_8, u1_9⟩ : MapM)⟩ : ObjM)).items).flatMap itemMC)) hr19
      have st : St X w16 [_, _, _, _] [_, _, _, _, _, _, _, _, _, _, _, _, _, _, _, _, _, _, _, _, _, _, _, _, _, _, _, _, _, _, _] := st
      refine ⟨(st.picks [0, 1, 2, 3] (by decide)).takeK 20, ?_⟩
      refine Pl_a rfl (wtdT rfl rfl rfl) (by rfl) ?_
      refine a_call rfl rfl rfl rfl (fromVal_ok (keys (hOf st) ++ X) _ st.Lo (osay_m (⟨u1_0, (⟨u1_1, (⟨u1_2, u1_3⟩ : StampM)⟩ : RegM), (⟨u1_4, u1_5⟩ : NumM), (⟨u1_6, u1_7⟩ : SetM), (⟨u1_8, u1_9⟩ : MapM)⟩ : ObjM)) Ar19 cr19 (st.q 30 rfl) (Nat.le_trans (say_small (n := 1000000) (by assumption) (by assumption)) (by decide))) (fun v w17 ⟨Ar20, cr20, hv, hr20, hf⟩ => ?_)
      subst hv
      have st := st.keep0 hf
      have hF := hF.step0 hf
      have z12 := Sld.le hr20
      have st := st.addK (kS Ar20 ((fromVal_m (osay_m (⟨u1_0, (⟨u1_1, (⟨u1_2, u1_3⟩ : StampM)⟩ : RegM), (⟨u1_4, u1_5⟩ : NumM), (⟨u1_6, u1_7⟩ : SetM), (⟨u1_8, u1_9⟩ : MapM)⟩ : ObjM))).items).length cr20 2 (((fromVal_m (osay_m (⟨u1_0, (⟨u1_1, (⟨u1_2, u1_3⟩ : StampM)⟩ : RegM), (⟨u1_4, u1_5⟩ : NumM), (⟨u1_6, u1_7⟩ : SetM), (⟨u1_8, u1_9⟩ : MapM)⟩ : ObjM))).items).flatMap itemMC)) hr20
      have st : St X w17 [_, _, _, _] [_, _, _, _, _, _, _, _, _, _, _, _, _, _, _, _, _, _, _, _, _, _, _, _, _, _, _, _, _, _, _, _] := st
      refine ⟨(st.picks [0, 1, 2, 3] (by decide)).takeK 20, ?_⟩
      refine Pl_a rfl (wtdT rfl rfl rfl) (by rfl) ?_
      refine Scl st hF rfl (sameValue_ok (keys (hOf st) ++ X) _ st.Lo (fromVal_m (osay_m (⟨u0_0, (⟨u0_1, (⟨u0_2, u0_3⟩ : StampM)⟩ : RegM), (⟨u0_4, u0_5⟩ : NumM), (⟨u0_6, u0_7⟩ : SetM), (⟨u0_8, u0_9⟩ : MapM)⟩ : ObjM))) Ar18 cr18 (fromVal_m (osay_m (⟨u1_0, (⟨u1_1, (⟨u1_2, u1_3⟩ : StampM)⟩ : RegM), (⟨u1_4, u1_5⟩ : NumM), (⟨u1_6, u1_7⟩ : SetM), (⟨u1_8, u1_9⟩ : MapM)⟩ : ObjM))) Ar20 cr20 (st.q 29 rfl) (st.q 31 rfl)) fun w18 st hF => ?_
      refine ⟨(st.picks [0, 1, 2, 3] (by decide)).takeK 20, ?_⟩
      refine Py rfl (yT rfl) (Py rfl (y_assign rfl rfl) (Pl_nil (Th_n (k15 _ _ (Wp_ret (Fq_ret (Res1 rfl rfl) ?_))))))
      have hres : (sameValue_m (fromVal_m (osay_m (⟨u0_0, (⟨u0_1, (⟨u0_2, u0_3⟩ : StampM)⟩ : RegM), (⟨u0_4, u0_5⟩ : NumM), (⟨u0_6, u0_7⟩ : SetM), (⟨u0_8, u0_9⟩ : MapM)⟩ : ObjM))) (fromVal_m (osay_m (⟨u1_0, (⟨u1_1, (⟨u1_2, u1_3⟩ : StampM)⟩ : RegM), (⟨u1_4, u1_5⟩ : NumM), (⟨u1_6, u1_7⟩ : SetM), (⟨u1_8, u1_9⟩ : MapM)⟩ : ObjM)))) = true := by
        rw [hE, fromVal_eq]; exact sameValue_refl _
      rw [hres]
      exact ⟨rfl, hF⟩
    rintro m E w19 ⟨s14, u1_0, u1_1, u1_2, u1_3, u1_4, u1_5, u1_6, u1_7, u1_8, u1_9, Au1_6, cu1_6, Au1_7, cu1_7, Au1_8, cu1_8, Au1_9, cu1_9, rfl, hmu, hinv, st, hF⟩
    unfold jq at hinv; dsimp only at hinv
    unfold jq at hmu; dsimp only at hmu
    obtain ⟨fuel, rfl⟩ : ∃ q, m = q + 1 := ⟨m - 1, by omega⟩
    have z52 := (st.k (i := 16) rfl).le
    have z53 := (st.k (i := 17) rfl).le
    have z54 := (st.k (i := 18) rfl).le
    have z55 := (st.k (i := 19) rfl).le
    obtain ⟨d1, d2, d3, d4⟩ := LJ.small hI hinv
    simp only at d1 d2 d3 d4
    have hjl := hinv.2.2
    have hj1 := hinv.2.1
    rw [List.length_map] at hjl
    refine sq fun _ k16 => sq fun _ k17 => rg (Lm rfl (Ly rfl (yge rfl) (Ln k17 (cD rfl (fun hc5 => ?_) (fun hc5 => ?_)))))
    · refine sk k16 (sq fun _ k18 => Wp_block (sq fun _ k19 => ?_))
      refine Wp_px (fun W => St X W (pickL (hOf st) [0, 1, 2, 3]) (kOf st)) 12 rfl Ty.mx_0 ((st.picks [0, 1, 2, 3] (by decide)).drew) ?_
      have st := st.drew
      have hF := hF.step0 (Fr.drew _)
      refine Px_y (i := 0) rfl (by kernel_rfl) (wtd0 rfl) rfl rfl (y_loadw (i := 1) rfl rfl Ty.ag_40 (fun _ h => h.hp) rfl rfl) ?_
      refine Px_y (i := 1) rfl (by kernel_rfl) (wtd0 rfl) rfl rfl (y_move rfl rfl) ?_
      refine Px_y (i := 2) rfl (by kernel_rfl) (wtd0 rfl) rfl rfl (y_move rfl rfl) ?_
      obtain ⟨gi1, egi1⟩ := (hows10).some_ (by first | omega | (simp; done) | (simp; omega))
      subst egi1
      refine Px_y (i := 3) rfl (by kernel_rfl) (wtd0 rfl) rfl rfl (y_ixa (q := s14) rfl rfl rfl Ty.es_45 (by first | omega | (simp; done) | (simp; omega)) (by first | omega | (simp; done) | (simp; omega))) ?_
      refine Px_y (i := 4) rfl (by kernel_rfl) (wtd0 rfl) rfl rfl (y_ldk (q := s14) rfl rfl Ty.ag_64 (fun _ h => Sld.own (i := 3) h.hp rfl hows10 (by decide)) (fun _ => rfl) (by first | omega | (simp; done) | (simp; omega)) (by first | omega | (simp; done) | (simp; omega))) ?_
      refine Px_a2 (i := 5) (j := 9) (by kernel_rfl) rfl (wtd0 rfl) rfl (wtd0 rfl) ?_ ?_
      · have st := st.addK (kS ((ix s10 s14).tags.A) ((ix s10 s14).tags.l.length) ((ix s10 s14).tags.c) 3 (((ix s10 s14).tags.l).flatMap tagMC)) (okEffectMH_0 ((st.kall (i := 11) rfl) _ (ix_mem (by first | omega | (simp; done) | (simp; omega)) (by first | omega | (simp; done) | (simp; omega)))))
        have z56 := (st.q 20 rfl).le
        have st : St X _ [_, _, _, _] [_, _, _, _, _, _, _, _, _, _, _, _, _, _, _, _, _, _, _, _, _] := st
        refine a_call rfl rfl rfl rfl (oapply_ok (keys (hOf st) ++ X) _ st.Lo (⟨u1_0, (⟨u1_1, (⟨u1_2, u1_3⟩ : StampM)⟩ : RegM), (⟨u1_4, u1_5⟩ : NumM), (⟨u1_6, u1_7⟩ : SetM), (⟨u1_8, u1_9⟩ : MapM)⟩ : ObjM) Au1_6 cu1_6 Au1_7 cu1_7 Au1_8 cu1_8 Au1_9 cu1_9 ((ix s10 s14).pl) ((ix s10 s14).tags.A) ((ix s10 s14).tags.c) (st.q 16 rfl) (st.q 17 rfl) (st.q 18 rfl) (st.q 19 rfl) (st.q 20 rfl) (by assumption) (by assumption) (by assumption) (by assumption) (by first | exact Nat.le_trans kb3 (by decide) | exact Nat.le_trans ((hI.g _ (List.mem_map_of_mem (ix_mem (by omega) (by omega)))).t) (by decide))) (fun v w20 ⟨Ar21, cr21, Ar22, cr22, Ar23, cr23, Ar24, cr24, hv, hr21, hr22, hr23, hr24, hf⟩ => ?_)
        subst hv
        have st := st.keep0 hf
        have hF := hF.step0 hf
        have z13 := Sld.le hr21
        have st := st.addK (kS Ar21 ((((oapply_m (⟨u1_0, (⟨u1_1, (⟨u1_2, u1_3⟩ : StampM)⟩ : RegM), (⟨u1_4, u1_5⟩ : NumM), (⟨u1_6, u1_7⟩ : SetM), (⟨u1_8, u1_9⟩ : MapM)⟩ : ObjM) ((ix s10 s14).pl)).1).setF).adds).length cr21 4 (((((oapply_m (⟨u1_0, (⟨u1_1, (⟨u1_2, u1_3⟩ : StampM)⟩ : RegM), (⟨u1_4, u1_5⟩ : NumM), (⟨u1_6, u1_7⟩ : SetM), (⟨u1_8, u1_9⟩ : MapM)⟩ : ObjM) ((ix s10 s14).pl)).1).setF).adds).flatMap addMC)) hr21
        have z14 := Sld.le hr22
        have st := st.addK (kS Ar22 ((((oapply_m (⟨u1_0, (⟨u1_1, (⟨u1_2, u1_3⟩ : StampM)⟩ : RegM), (⟨u1_4, u1_5⟩ : NumM), (⟨u1_6, u1_7⟩ : SetM), (⟨u1_8, u1_9⟩ : MapM)⟩ : ObjM) ((ix s10 s14).pl)).1).setF).gone).length cr22 3 (((((oapply_m (⟨u1_0, (⟨u1_1, (⟨u1_2, u1_3⟩ : StampM)⟩ : RegM), (⟨u1_4, u1_5⟩ : NumM), (⟨u1_6, u1_7⟩ : SetM), (⟨u1_8, u1_9⟩ : MapM)⟩ : ObjM) ((ix s10 s14).pl)).1).setF).gone).flatMap tagMC)) hr22
        have z15 := Sld.le hr23
        have st := st.addK (kS Ar23 ((((oapply_m (⟨u1_0, (⟨u1_1, (⟨u1_2, u1_3⟩ : StampM)⟩ : RegM), (⟨u1_4, u1_5⟩ : NumM), (⟨u1_6, u1_7⟩ : SetM), (⟨u1_8, u1_9⟩ : MapM)⟩ : ObjM) ((ix s10 s14).pl)).1).map).puts).length cr23 7 (((((oapply_m (⟨u1_0, (⟨u1_1, (⟨u1_2, u1_3⟩ : StampM)⟩ : RegM), (⟨u1_4, u1_5⟩ : NumM), (⟨u1_6, u1_7⟩ : SetM), (⟨u1_8, u1_9⟩ : MapM)⟩ : ObjM) ((ix s10 s14).pl)).1).map).puts).flatMap putMC)) hr23
        have z16 := Sld.le hr24
        have st := st.addK (kS Ar24 ((((oapply_m (⟨u1_0, (⟨u1_1, (⟨u1_2, u1_3⟩ : StampM)⟩ : RegM), (⟨u1_4, u1_5⟩ : NumM), (⟨u1_6, u1_7⟩ : SetM), (⟨u1_8, u1_9⟩ : MapM)⟩ : ObjM) ((ix s10 s14).pl)).1).map).gone).length cr24 3 (((((oapply_m (⟨u1_0, (⟨u1_1, (⟨u1_2, u1_3⟩ : StampM)⟩ : RegM), (⟨u1_4, u1_5⟩ : NumM), (⟨u1_6, u1_7⟩ : SetM), (⟨u1_8, u1_9⟩ : MapM)⟩ : ObjM) ((ix s10 s14).pl)).1).map).gone).flatMap tagMC)) hr24
        have st : St X w20 [_, _, _, _] [_, _, _, _, _, _, _, _, _, _, _, _, _, _, _, _, _, _, _, _, _, _, _, _, _] := st
        refine ⟨(st.picks [0, 1, 2, 3] (by decide)).takeK 20, ?_⟩
        refine Px_y (i := 6) rfl (by kernel_rfl) (wtd0 rfl) rfl rfl (y_move rfl rfl) ?_
        refine Px_y (i := 7) rfl (by kernel_rfl) (wtd0 rfl) rfl rfl (y_ext rfl rfl rfl) ?_
        refine Px_y (i := 8) rfl (by kernel_rfl) (wtd0 rfl) rfl rfl (y_ext rfl rfl rfl) ?_
        refine Px_a (i := 9) (by kernel_rfl) rfl (wtd0 rfl) ?_
        refine Sal Ty.zc_40 st hF rfl fun g4 w21 (st : St _ _ [_, _, _, _, _] _) hF hg4 => ?_
        refine ⟨(st.picks [0, 1, 2, 3] (by decide)).takeK 20, ?_⟩
        refine Px_a (i := 10) (by kernel_rfl) rfl (wtd0 rfl) ?_
        refine Ssw 4 Ty.sz_40 st hF (.inr hg4) rfl fun w22 (st : St _ _ [_, _, _, _, _] _) hF => ?_
        refine ⟨(st.picks [0, 1, 2, 3] (by decide)).takeK 20, ?_⟩
        refine Px_str (fun W => St X W (hOf st) (kOf st)) (fun _ st => (st.picks [0, 1, 2, 3] (by decide)).takeK 20) st ?_
        refine Px_pl [(true, 11)] (by kernel_rfl) (by kernel_rfl) rfl ?_
        refine Py rfl (y_assign rfl rfl) (Pl_nil (Th_n (k19 _ _ (sq fun _ k20 => sq fun _ k21 => rg (Lm rfl (Ly rfl (yne rfl) (Ln k21 ?_)))))))
        have hd5 : ((oapply_m (⟨u1_0, (⟨u1_1, (⟨u1_2, u1_3⟩ : StampM)⟩ : RegM), (⟨u1_4, u1_5⟩ : NumM), (⟨u1_6, u1_7⟩ : SetM), (⟨u1_8, u1_9⟩ : MapM)⟩ : ObjM) ((ix s10 s14).pl)).2) = 0 := by
          have := (LJ.step hI hk1 hinv (by omega)).1; rw [ix_map EffectMH.pl s10 (by omega) (by omega)] at this; exact this
        refine Wp_cond rfl (fun hc6 => absurd hc6 (by first | (simp [hd5]; done) | (rw [hd5]; simp; done) | simpa using hd5)) (fun _ => ?_)
        refine sk k20 (rg (Ly rfl (yw 4 Ty.ag_40 st rfl) (La rfl (Ssw 1 Ty.sz_40 st hF (.inr hg2) rfl fun w23 (st : St _ _ [_, _, _, _, _] _) hF => Ls_nil (Ib_n (Th_n (k18 _ _ (rg (Lm rfl (Ly rfl (y_sub (c := s14 - 1) rfl rfl rfl (wf_i64 (by first | omega | (simp; done) | (simp; omega)))) ?_))))))))))
        refine Ls' rfl (Ls_nil (Th_n (?_)))
        exact ⟨fuel, [(5, _), (7, _), (10, _), (14, _)], Nat.lt_succ_self _, ⟨rfl, rfl, rfl, rfl, trivial⟩, (s14 - 1), (((oapply_m (⟨u1_0, (⟨u1_1, (⟨u1_2, u1_3⟩ : StampM)⟩ : RegM), (⟨u1_4, u1_5⟩ : NumM), (⟨u1_6, u1_7⟩ : SetM), (⟨u1_8, u1_9⟩ : MapM)⟩ : ObjM) ((ix s10 s14).pl)).1).kind), ((((oapply_m (⟨u1_0, (⟨u1_1, (⟨u1_2, u1_3⟩ : StampM)⟩ : RegM), (⟨u1_4, u1_5⟩ : NumM), (⟨u1_6, u1_7⟩ : SetM), (⟨u1_8, u1_9⟩ : MapM)⟩ : ObjM) ((ix s10 s14).pl)).1).reg).val), ((((oapply_m (⟨u1_0, (⟨u1_1, (⟨u1_2, u1_3⟩ : StampM)⟩ : RegM), (⟨u1_4, u1_5⟩ : NumM), (⟨u1_6, u1_7⟩ : SetM), (⟨u1_8, u1_9⟩ : MapM)⟩ : ObjM) ((ix s10 s14).pl)).1).reg).atF.time), ((((oapply_m (⟨u1_0, (⟨u1_1, (⟨u1_2, u1_3⟩ : StampM)⟩ : RegM), (⟨u1_4, u1_5⟩ : NumM), (⟨u1_6, u1_7⟩ : SetM), (⟨u1_8, u1_9⟩ : MapM)⟩ : ObjM) ((ix s10 s14).pl)).1).reg).atF.origin), ((((oapply_m (⟨u1_0, (⟨u1_1, (⟨u1_2, u1_3⟩ : StampM)⟩ : RegM), (⟨u1_4, u1_5⟩ : NumM), (⟨u1_6, u1_7⟩ : SetM), (⟨u1_8, u1_9⟩ : MapM)⟩ : ObjM) ((ix s10 s14).pl)).1).num).plus), ((((oapply_m (⟨u1_0, (⟨u1_1, (⟨u1_2, u1_3⟩ : StampM)⟩ : RegM), (⟨u1_4, u1_5⟩ : NumM), (⟨u1_6, u1_7⟩ : SetM), (⟨u1_8, u1_9⟩ : MapM)⟩ : ObjM) ((ix s10 s14).pl)).1).num).minus), ((((oapply_m (⟨u1_0, (⟨u1_1, (⟨u1_2, u1_3⟩ : StampM)⟩ : RegM), (⟨u1_4, u1_5⟩ : NumM), (⟨u1_6, u1_7⟩ : SetM), (⟨u1_8, u1_9⟩ : MapM)⟩ : ObjM) ((ix s10 s14).pl)).1).setF).adds), ((((oapply_m (⟨u1_0, (⟨u1_1, (⟨u1_2, u1_3⟩ : StampM)⟩ : RegM), (⟨u1_4, u1_5⟩ : NumM), (⟨u1_6, u1_7⟩ : SetM), (⟨u1_8, u1_9⟩ : MapM)⟩ : ObjM) ((ix s10 s14).pl)).1).setF).gone), ((((oapply_m (⟨u1_0, (⟨u1_1, (⟨u1_2, u1_3⟩ : StampM)⟩ : RegM), (⟨u1_4, u1_5⟩ : NumM), (⟨u1_6, u1_7⟩ : SetM), (⟨u1_8, u1_9⟩ : MapM)⟩ : ObjM) ((ix s10 s14).pl)).1).map).puts), ((((oapply_m (⟨u1_0, (⟨u1_1, (⟨u1_2, u1_3⟩ : StampM)⟩ : RegM), (⟨u1_4, u1_5⟩ : NumM), (⟨u1_6, u1_7⟩ : SetM), (⟨u1_8, u1_9⟩ : MapM)⟩ : ObjM) ((ix s10 s14).pl)).1).map).gone), Ar21, cr21, Ar22, cr22, Ar23, cr23, Ar24, cr24, rfl, show _ < _ by first | omega | (simp; done) | (simp; omega), by unfold jq; dsimp only; (have := (LJ.step hI hk1 hinv (by omega)).2; rw [ix_map EffectMH.pl s10 (by omega) (by omega)] at this; exact this), (st.picks [0, 1, 2, 3] (by decide)).pickK [0, 1, 2, 3, 4, 5, 6, 7, 8, 9, 10, 11, 12, 13, 14, 15, 21, 22, 23, 24], hF⟩
      refine Sal Ty.zc_40 st hF rfl fun g5 w24 (st : St _ _ [_, _, _, _, _] _) hF hg5 => ?_
      refine ⟨(st.picks [0, 1, 2, 3] (by decide)).takeK 20, ?_⟩
      have st := st.addK (kS ((ix s10 s14).tags.A) ((ix s10 s14).tags.l.length) ((ix s10 s14).tags.c) 3 (((ix s10 s14).tags.l).flatMap tagMC)) (okEffectMH_0 ((st.kall (i := 11) rfl) _ (ix_mem (by first | omega | (simp; done) | (simp; omega)) (by first | omega | (simp; done) | (simp; omega)))))
      have z57 := (st.q 20 rfl).le
      have st : St X _ [_, _, _, _, _] [_, _, _, _, _, _, _, _, _, _, _, _, _, _, _, _, _, _, _, _, _] := st
      refine Px_a (i := 5) (by kernel_rfl) rfl (wtd0 rfl) ?_
      refine a_call rfl rfl rfl rfl (oapply_ok (keys (hOf st) ++ X) _ st.Lo (⟨u1_0, (⟨u1_1, (⟨u1_2, u1_3⟩ : StampM)⟩ : RegM), (⟨u1_4, u1_5⟩ : NumM), (⟨u1_6, u1_7⟩ : SetM), (⟨u1_8, u1_9⟩ : MapM)⟩ : ObjM) Au1_6 cu1_6 Au1_7 cu1_7 Au1_8 cu1_8 Au1_9 cu1_9 ((ix s10 s14).pl) ((ix s10 s14).tags.A) ((ix s10 s14).tags.c) (st.q 16 rfl) (st.q 17 rfl) (st.q 18 rfl) (st.q 19 rfl) (st.q 20 rfl) (by assumption) (by assumption) (by assumption) (by assumption) (by first | exact Nat.le_trans kb3 (by decide) | exact Nat.le_trans ((hI.g _ (List.mem_map_of_mem (ix_mem (by omega) (by omega)))).t) (by decide))) (fun v w25 ⟨Ar25, cr25, Ar26, cr26, Ar27, cr27, Ar28, cr28, hv, hr25, hr26, hr27, hr28, hf⟩ => ?_)
      subst hv
      have st := st.keep0 hf
      have hF := hF.step0 hf
      have z17 := Sld.le hr25
      have st := st.addK (kS Ar25 ((((oapply_m (⟨u1_0, (⟨u1_1, (⟨u1_2, u1_3⟩ : StampM)⟩ : RegM), (⟨u1_4, u1_5⟩ : NumM), (⟨u1_6, u1_7⟩ : SetM), (⟨u1_8, u1_9⟩ : MapM)⟩ : ObjM) ((ix s10 s14).pl)).1).setF).adds).length cr25 4 (((((oapply_m (⟨u1_0, (⟨u1_1, (⟨u1_2, u1_3⟩ : StampM)⟩ : RegM), (⟨u1_4, u1_5⟩ : NumM), (⟨u1_6, u1_7⟩ : SetM), (⟨u1_8, u1_9⟩ : MapM)⟩ : ObjM) ((ix s10 s14).pl)).1).setF).adds).flatMap addMC)) hr25
      have z18 := Sld.le hr26
      have st := st.addK (kS Ar26 ((((oapply_m (⟨u1_0, (⟨u1_1, (⟨u1_2, u1_3⟩ : StampM)⟩ : RegM), (⟨u1_4, u1_5⟩ : NumM), (⟨u1_6, u1_7⟩ : SetM), (⟨u1_8, u1_9⟩ : MapM)⟩ : ObjM) ((ix s10 s14).pl)).1).setF).gone).length cr26 3 (((((oapply_m (⟨u1_0, (⟨u1_1, (⟨u1_2, u1_3⟩ : StampM)⟩ : RegM), (⟨u1_4, u1_5⟩ : NumM), (⟨u1_6, u1_7⟩ : SetM), (⟨u1_8, u1_9⟩ : MapM)⟩ : ObjM) ((ix s10 s14).pl)).1).setF).gone).flatMap tagMC)) hr26
      have z19 := Sld.le hr27
      have st := st.addK (kS Ar27 ((((oapply_m (⟨u1_0, (⟨u1_1, (⟨u1_2, u1_3⟩ : StampM)⟩ : RegM), (⟨u1_4, u1_5⟩ : NumM), (⟨u1_6, u1_7⟩ : SetM), (⟨u1_8, u1_9⟩ : MapM)⟩ : ObjM) ((ix s10 s14).pl)).1).map).puts).length cr27 7 (((((oapply_m (⟨u1_0, (⟨u1_1, (⟨u1_2, u1_3⟩ : StampM)⟩ : RegM), (⟨u1_4, u1_5⟩ : NumM), (⟨u1_6, u1_7⟩ : SetM), (⟨u1_8, u1_9⟩ : MapM)⟩ : ObjM) ((ix s10 s14).pl)).1).map).puts).flatMap putMC)) hr27
      have z20 := Sld.le hr28
      have st := st.addK (kS Ar28 ((((oapply_m (⟨u1_0, (⟨u1_1, (⟨u1_2, u1_3⟩ : StampM)⟩ : RegM), (⟨u1_4, u1_5⟩ : NumM), (⟨u1_6, u1_7⟩ : SetM), (⟨u1_8, u1_9⟩ : MapM)⟩ : ObjM) ((ix s10 s14).pl)).1).map).gone).length cr28 3 (((((oapply_m (⟨u1_0, (⟨u1_1, (⟨u1_2, u1_3⟩ : StampM)⟩ : RegM), (⟨u1_4, u1_5⟩ : NumM), (⟨u1_6, u1_7⟩ : SetM), (⟨u1_8, u1_9⟩ : MapM)⟩ : ObjM) ((ix s10 s14).pl)).1).map).gone).flatMap tagMC)) hr28
      have st : St X w25 [_, _, _, _, _] [_, _, _, _, _, _, _, _, _, _, _, _, _, _, _, _, _, _, _, _, _, _, _, _, _] := st
      refine ⟨(st.picks [0, 1, 2, 3] (by decide)).takeK 20, ?_⟩
      refine Px_y (i := 6) rfl (by kernel_rfl) (wtd0 rfl) rfl rfl (y_move rfl rfl) ?_
      refine Px_y (i := 7) rfl (by kernel_rfl) (wtd0 rfl) rfl rfl (y_ext rfl rfl rfl) ?_
      refine Px_y (i := 8) rfl (by kernel_rfl) (wtd0 rfl) rfl rfl (y_ext rfl rfl rfl) ?_
      refine Px_a (i := 10) (by kernel_rfl) rfl (wtd0 rfl) ?_
      refine Ssw 4 Ty.sz_40 st hF (.inr hg5) rfl fun w26 (st : St _ _ [_, _, _, _, _] _) hF => ?_
      refine ⟨(st.picks [0, 1, 2, 3] (by decide)).takeK 20, ?_⟩
      refine Px_str (fun W => St X W (hOf st) (kOf st)) (fun _ st => (st.picks [0, 1, 2, 3] (by decide)).takeK 20) st ?_
      refine Px_pl [(true, 11)] (by kernel_rfl) (by kernel_rfl) rfl ?_
      refine Py rfl (y_assign rfl rfl) (Pl_nil (Th_n (k19 _ _ (sq fun _ k22 => sq fun _ k23 => rg (Lm rfl (Ly rfl (yne rfl) (Ln k23 ?_)))))))
      have hd6 : ((oapply_m (⟨u1_0, (⟨u1_1, (⟨u1_2, u1_3⟩ : StampM)⟩ : RegM), (⟨u1_4, u1_5⟩ : NumM), (⟨u1_6, u1_7⟩ : SetM), (⟨u1_8, u1_9⟩ : MapM)⟩ : ObjM) ((ix s10 s14).pl)).2) = 0 := by
        have := (LJ.step hI hk1 hinv (by omega)).1; rw [ix_map EffectMH.pl s10 (by omega) (by omega)] at this; exact this
      refine Wp_cond rfl (fun hc7 => absurd hc7 (by first | (simp [hd6]; done) | (rw [hd6]; simp; done) | simpa using hd6)) (fun _ => ?_)
      refine sk k22 (rg (Ly rfl (yw 4 Ty.ag_40 st rfl) (La rfl (Ssw 1 Ty.sz_40 st hF (.inr hg2) rfl fun w27 (st : St _ _ [_, _, _, _, _] _) hF => Ls_nil (Ib_n (Th_n (k18 _ _ (rg (Lm rfl (Ly rfl (y_sub (c := s14 - 1) rfl rfl rfl (wf_i64 (by first | omega | (simp; done) | (simp; omega)))) ?_))))))))))
      refine Ls' rfl (Ls_nil (Th_n (?_)))
      exact ⟨fuel, [(5, _), (7, _), (10, _), (14, _)], Nat.lt_succ_self _, ⟨rfl, rfl, rfl, rfl, trivial⟩, (s14 - 1), (((oapply_m (⟨u1_0, (⟨u1_1, (⟨u1_2, u1_3⟩ : StampM)⟩ : RegM), (⟨u1_4, u1_5⟩ : NumM), (⟨u1_6, u1_7⟩ : SetM), (⟨u1_8, u1_9⟩ : MapM)⟩ : ObjM) ((ix s10 s14).pl)).1).kind), ((((oapply_m (⟨u1_0, (⟨u1_1, (⟨u1_2, u1_3⟩ : StampM)⟩ : RegM), (⟨u1_4, u1_5⟩ : NumM), (⟨u1_6, u1_7⟩ : SetM), (⟨u1_8, u1_9⟩ : MapM)⟩ : ObjM) ((ix s10 s14).pl)).1).reg).val), ((((oapply_m (⟨u1_0, (⟨u1_1, (⟨u1_2, u1_3⟩ : StampM)⟩ : RegM), (⟨u1_4, u1_5⟩ : NumM), (⟨u1_6, u1_7⟩ : SetM), (⟨u1_8, u1_9⟩ : MapM)⟩ : ObjM) ((ix s10 s14).pl)).1).reg).atF.time), ((((oapply_m (⟨u1_0, (⟨u1_1, (⟨u1_2, u1_3⟩ : StampM)⟩ : RegM), (⟨u1_4, u1_5⟩ : NumM), (⟨u1_6, u1_7⟩ : SetM), (⟨u1_8, u1_9⟩ : MapM)⟩ : ObjM) ((ix s10 s14).pl)).1).reg).atF.origin), ((((oapply_m (⟨u1_0, (⟨u1_1, (⟨u1_2, u1_3⟩ : StampM)⟩ : RegM), (⟨u1_4, u1_5⟩ : NumM), (⟨u1_6, u1_7⟩ : SetM), (⟨u1_8, u1_9⟩ : MapM)⟩ : ObjM) ((ix s10 s14).pl)).1).num).plus), ((((oapply_m (⟨u1_0, (⟨u1_1, (⟨u1_2, u1_3⟩ : StampM)⟩ : RegM), (⟨u1_4, u1_5⟩ : NumM), (⟨u1_6, u1_7⟩ : SetM), (⟨u1_8, u1_9⟩ : MapM)⟩ : ObjM) ((ix s10 s14).pl)).1).num).minus), ((((oapply_m (⟨u1_0, (⟨u1_1, (⟨u1_2, u1_3⟩ : StampM)⟩ : RegM), (⟨u1_4, u1_5⟩ : NumM), (⟨u1_6, u1_7⟩ : SetM), (⟨u1_8, u1_9⟩ : MapM)⟩ : ObjM) ((ix s10 s14).pl)).1).setF).adds), ((((oapply_m (⟨u1_0, (⟨u1_1, (⟨u1_2, u1_3⟩ : StampM)⟩ : RegM), (⟨u1_4, u1_5⟩ : NumM), (⟨u1_6, u1_7⟩ : SetM), (⟨u1_8, u1_9⟩ : MapM)⟩ : ObjM) ((ix s10 s14).pl)).1).setF).gone), ((((oapply_m (⟨u1_0, (⟨u1_1, (⟨u1_2, u1_3⟩ : StampM)⟩ : RegM), (⟨u1_4, u1_5⟩ : NumM), (⟨u1_6, u1_7⟩ : SetM), (⟨u1_8, u1_9⟩ : MapM)⟩ : ObjM) ((ix s10 s14).pl)).1).map).puts), ((((oapply_m (⟨u1_0, (⟨u1_1, (⟨u1_2, u1_3⟩ : StampM)⟩ : RegM), (⟨u1_4, u1_5⟩ : NumM), (⟨u1_6, u1_7⟩ : SetM), (⟨u1_8, u1_9⟩ : MapM)⟩ : ObjM) ((ix s10 s14).pl)).1).map).gone), Ar25, cr25, Ar26, cr26, Ar27, cr27, Ar28, cr28, rfl, show _ < _ by first | omega | (simp; done) | (simp; omega), by unfold jq; dsimp only; (have := (LJ.step hI hk1 hinv (by omega)).2; rw [ix_map EffectMH.pl s10 (by omega) (by omega)] at this; exact this), (st.picks [0, 1, 2, 3] (by decide)).pickK [0, 1, 2, 3, 4, 5, 6, 7, 8, 9, 10, 11, 12, 13, 14, 15, 21, 22, 23, 24], hF⟩
    refine Wp_exit (Th_e (Th_e (Ib_hit (Th_n (?_)))))
    exact hout2 _ [(5, _), (7, _), (10, _), (14, _)] _ ⟨rfl, rfl, rfl, rfl, trivial⟩ ⟨s14, u1_0, u1_1, u1_2, u1_3, u1_4, u1_5, u1_6, u1_7, u1_8, u1_9, Au1_6, cu1_6, Au1_7, cu1_7, Au1_8, cu1_8, Au1_9, cu1_9, rfl, trivial, by unfold jq; dsimp only; exact ⟨hinv, by omega⟩, (st.picks [0, 1, 2, 3] (by decide)).pickK [0, 1, 2, 3, 4, 5, 6, 7, 8, 9, 10, 11, 12, 13, 14, 15, 16, 17, 18, 19], hF⟩
  rintro m E w28 ⟨s10, s11, u0_0, u0_1, u0_2, u0_3, u0_4, u0_5, u0_6, u0_7, u0_8, u0_9, mg3, As10, cs10, sps10, Au0_6, cu0_6, Au0_7, cu0_7, Au0_8, cu0_8, Au0_9, cu0_9, es_mg3, cl_mg3, rfl, hmu, hinv, hows10, news10, hmapmg3, st, hF⟩
  unfold jq at hmu; dsimp only at hmu
  obtain ⟨fuel, rfl⟩ : ∃ q, m = q + 1 := ⟨m - 1, by omega⟩
  have z1 := Ow.le hows10
  have z48 := (st.k (i := 12) rfl).le
  have z49 := (st.k (i := 13) rfl).le
  have z50 := (st.k (i := 14) rfl).le
  have z51 := (st.k (i := 15) rfl).le
  obtain ⟨b1, b2, b3, b4⟩ := hinv.small
  simp only at b1 b2 b3 b4
  have hi0 := hinv.i0
  have hn0 := hinv.n
  rw [List.length_map] at hn0
  have hi40 := hinv.i40
  refine sq fun _ k24 => sq fun _ k25 => rg (Lm rfl (Lm rfl (Ly rfl (yll rfl Tryz.underlying22) (Ly rfl (ylt rfl) (Lm rfl (bD (s := 45) rfl (fun hc8 => ?_) (fun hc8 => ?_)))))))
  · refine LyT rfl (y_move rfl rfl) (LyT rfl (ylt rfl) (Ly rfl (yT rfl) (Ln k25 (cD rfl (fun hc9 => ?_) (fun hc9 => ?_)))))
    · refine sk k24 (sq fun _ k26 => Wp_block (sq fun _ k27 => sq fun _ k28 => rg (Ly rfl (y_build (cells := [_, _, _, _, _, _, _, _, _, _]) rfl rfl Ty.zc_56 Ty.ps_56 rfl) (Lm rfl (Lm rfl ?_)))))
      obtain ⟨gi2, bi1, egi2⟩ := (st.k (i := 0) rfl).addr (fun _ => rfl) (by decide) (q := s11) (by first | omega | (simp; done) | (simp; omega)) (by first | omega | (simp; done) | (simp; omega))
      subst egi2
      refine Ly rfl (y_ixa (q := s11) rfl rfl rfl Ty.es_22 (by first | omega | (simp; done) | (simp; omega)) (by first | omega | (simp; done) | (simp; omega))) ?_
      refine Ly rfl (y_ldk (q := s11) rfl rfl Ty.ag_62 (fun _ e => e ▸ st.k (i := 0) rfl) (fun _ => rfl) (by first | omega | (simp; done) | (simp; omega)) (by first | omega | (simp; done) | (simp; omega))) ?_
      have st := st.aN 4
      have st := st.aN 3
      have st := st.aN 7
      have st := st.aN 3
      have st := st.addK (kS ((ix l s11).tags.A) ((ix l s11).tags.l.length) ((ix l s11).tags.c) 3 (((ix l s11).tags.l).flatMap tagMC)) (okEffectMH_0 ((st.kall (i := 1) rfl) _ (ix_mem (by first | omega | (simp; done) | (simp; omega)) (by first | omega | (simp; done) | (simp; omega)))))
      have z58 := (st.q 20 rfl).le
      have st : St X _ [_, _, _, _] [_, _, _, _, _, _, _, _, _, _, _, _, _, _, _, _, _, _, _, _, _] := st
      refine La rfl (Scl st hF rfl (great14_ok (keys (hOf st) ++ X) _ st.Lo (⟨0, (⟨0, (⟨0, 0⟩ : StampM)⟩ : RegM), (⟨0, 0⟩ : NumM), (⟨([] : List AddM), ([] : List TagM)⟩ : SetM), (⟨([] : List PutM), ([] : List TagM)⟩ : MapM)⟩ : ObjM) none 0 none 0 none 0 none 0 ((ix l s11).pl) ((ix l s11).tags.A) ((ix l s11).tags.c) (st.q 16 rfl) (st.q 17 rfl) (st.q 18 rfl) (st.q 19 rfl) (st.q 20 rfl)) fun w29 st hF => Ln k28 (cB rfl (fun hc10 => ?_) (fun hc10 => ?_)))
      · refine sq fun _ k29 => rg (Ls' rfl (Ln k29 (Wp_ret (Th_r (Ib_r (Th_r (Th_r (Ib_r (Th_r (Fq_ret (Res1 rfl rfl) ?_))))))))))
        exact ⟨rfl, hF⟩
      obtain ⟨kb1, kb2⟩ := great_bnd hc10
      have kb3 : (toEff_m (ix l s11).pl).tags.length ≤ 100 := by rw [toEff_eq]; exact kb1
      refine sk k27 (sq fun _ k30 => sq fun _ k31 => rg (Lm rfl (Lm rfl (Lm rfl (Ly rfl (y_ixa (q := s11) rfl rfl rfl Ty.es_22 (by first | omega | (simp; done) | (simp; omega)) (by first | omega | (simp; done) | (simp; omega))) ?_)))))
      refine Ly rfl (yf rfl Ty.fo_62_3) (Ly rfl (y_ldkm (q := s11) 3 rfl rfl Ty.ag_60 (fun _ e => e ▸ st.k (i := 0) rfl) (fun _ => rfl) (by first | omega | (simp; done) | (simp; omega)) (by first | omega | (simp; done) | (simp; omega)) rfl rfl) ?_)
      refine Ly rfl (y_lookupM (i := 2) (enc := (fun x : TagM => Value.agg (tagMC x).toArray)) (ev := (fun x : Bool => Value.bool x)) (k := (ix l s11).tag) (z := false) rfl rfl rfl Tryz.underlying44 kl_60 (by kernel_rfl) (fun _ e => e ▸ st.hp) rfl hmapmg3) ?_
      refine Ln k31 (cB rfl (fun hc11 => ?_) (fun hc11 => ?_))
      · refine Wp_exit (Th_e (Ib_hit (Th_n (k26 _ _ (rg (Lm rfl (Ly rfl (y_add (c := s11 + 1) rfl rfl rfl (wf_i64 (by first | omega | (simp; done) | (simp; omega)))) ?_)))))))
        refine Ls' rfl (Ls_nil (Th_n (?_)))
        exact ⟨fuel, [(1, _), (5, _), (7, _), (9, _), (10, _), (11, _)], Nat.lt_succ_self _, ⟨rfl, rfl, rfl, rfl, rfl, rfl, trivial⟩, s10, (s11 + 1), u0_0, u0_1, u0_2, u0_3, u0_4, u0_5, u0_6, u0_7, u0_8, u0_9, mg3, As10, cs10, sps10, Au0_6, cu0_6, Au0_7, cu0_7, Au0_8, cu0_8, Au0_9, cu0_9, es_mg3, cl_mg3, rfl, show _ < _ by first | omega | (simp; done) | (simp; omega), by first | exact hinv.skip (by omega) | (rw [List.map_append]; exact LI.step (e := toEff_m (ix l s11).pl) hinv (by omega) hk1 kb3 (by assumption) (by assumption)), hows10, news10, hmapmg3, (st.picks [0, 1, 2, 3] (by decide)).pickK [0, 1, 2, 3, 4, 5, 6, 7, 8, 9, 10, 11, 12, 13, 14, 15], hF⟩
      refine sk k30 (sq fun _ k32 => ?_)
      refine Wp_px (fun W => St X W (pickL (hOf st) [0, 1, 2, 3]) (kOf st)) 13 rfl Ty.mx_0 ((st.picks [0, 1, 2, 3] (by decide)).drew) ?_
      have st := st.drew
      have hF := hF.step0 (Fr.drew _)
      refine Px_y (i := 0) rfl (by kernel_rfl) (wtd0 rfl) rfl rfl (y_loadw (i := 0) rfl rfl Ty.ag_40 (fun _ h => h.hp) rfl rfl) ?_
      refine Px_y (i := 1) rfl (by kernel_rfl) (wtd0 rfl) rfl rfl (y_move rfl rfl) ?_
      refine Px_y (i := 2) rfl (by kernel_rfl) (wtd0 rfl) rfl rfl (y_move rfl rfl) ?_
      refine Px_y (i := 3) rfl (by kernel_rfl) (wtd0 rfl) rfl rfl (y_ixa (q := s11) rfl rfl rfl Ty.es_22 (by first | omega | (simp; done) | (simp; omega)) (by first | omega | (simp; done) | (simp; omega))) ?_
      refine Px_y (i := 4) rfl (by kernel_rfl) (wtd0 rfl) rfl rfl (y_ldk (q := s11) rfl rfl Ty.ag_62 (fun _ h => h.k (i := 0) rfl) (fun _ => rfl) (by first | omega | (simp; done) | (simp; omega)) (by first | omega | (simp; done) | (simp; omega))) ?_
      refine Px_a2 (i := 5) (j := 10) (by kernel_rfl) rfl (wtd0 rfl) rfl (wtd0 rfl) ?_ ?_
      · have st := st.addK (kS ((ix l s11).tags.A) ((ix l s11).tags.l.length) ((ix l s11).tags.c) 3 (((ix l s11).tags.l).flatMap tagMC)) (okEffectMH_0 ((st.kall (i := 1) rfl) _ (ix_mem (by first | omega | (simp; done) | (simp; omega)) (by first | omega | (simp; done) | (simp; omega)))))
        have z59 := (st.q 21 rfl).le
        have st : St X _ [_, _, _, _] [_, _, _, _, _, _, _, _, _, _, _, _, _, _, _, _, _, _, _, _, _, _] := st
        refine a_call rfl rfl rfl rfl (toEff_ok (keys (hOf st) ++ X) _ st.Lo ((ix l s11).pl) ((ix l s11).tags.A) ((ix l s11).tags.c) (st.q 21 rfl) (by first | omega | exact Nat.le_trans kb1 (by decide))) (fun v w30 ⟨Ar29, cr29, hv, hr29, hf⟩ => ?_)
        subst hv
        have st := st.keep0 hf
        have hF := hF.step0 hf
        have z21 := Sld.le hr29
        have st := st.addK (kS Ar29 ((toEff_m ((ix l s11).pl)).tags).length cr29 3 (((toEff_m ((ix l s11).pl)).tags).flatMap tagMC)) hr29
        have st : St X w30 [_, _, _, _] [_, _, _, _, _, _, _, _, _, _, _, _, _, _, _, _, _, _, _, _, _, _, _] := st
        refine ⟨(st.picks [0, 1, 2, 3] (by decide)).takeK 21, ?_⟩
        refine Px_a2 (i := 6) (j := 10) (by kernel_rfl) rfl (wtd0 rfl) rfl (wtd0 rfl) ?_ ?_
        · refine a_call rfl rfl rfl rfl (oapply_ok (keys (hOf st) ++ X) _ st.Lo (⟨u0_0, (⟨u0_1, (⟨u0_2, u0_3⟩ : StampM)⟩ : RegM), (⟨u0_4, u0_5⟩ : NumM), (⟨u0_6, u0_7⟩ : SetM), (⟨u0_8, u0_9⟩ : MapM)⟩ : ObjM) Au0_6 cu0_6 Au0_7 cu0_7 Au0_8 cu0_8 Au0_9 cu0_9 (toEff_m ((ix l s11).pl)) Ar29 cr29 (st.q 12 rfl) (st.q 13 rfl) (st.q 14 rfl) (st.q 15 rfl) (st.q 22 rfl) (by assumption) (by assumption) (by assumption) (by assumption) (by first | exact Nat.le_trans kb3 (by decide) | exact Nat.le_trans ((hI.g _ (List.mem_map_of_mem (ix_mem (by omega) (by omega)))).t) (by decide))) (fun v w31 ⟨Ar30, cr30, Ar31, cr31, Ar32, cr32, Ar33, cr33, hv, hr30, hr31, hr32, hr33, hf⟩ => ?_)
          subst hv
          have st := st.keep0 hf
          have hF := hF.step0 hf
          have z22 := Sld.le hr30
          have st := st.addK (kS Ar30 ((((oapply_m (⟨u0_0, (⟨u0_1, (⟨u0_2, u0_3⟩ : StampM)⟩ : RegM), (⟨u0_4, u0_5⟩ : NumM), (⟨u0_6, u0_7⟩ : SetM), (⟨u0_8, u0_9⟩ : MapM)⟩ : ObjM) (toEff_m ((ix l s11).pl))).1).setF).adds).length cr30 4 (((((oapply_m (⟨u0_0, (⟨u0_1, (⟨u0_2, u0_3⟩ : StampM)⟩ : RegM), (⟨u0_4, u0_5⟩ : NumM), (⟨u0_6, u0_7⟩ : SetM), (⟨u0_8, u0_9⟩ : MapM)⟩ : ObjM) (toEff_m ((ix l s11).pl))).1).setF).adds).flatMap addMC)) hr30
          have z23 := Sld.le hr31
          have st := st.addK (kS Ar31 ((((oapply_m (⟨u0_0, (⟨u0_1, (⟨u0_2, u0_3⟩ : StampM)⟩ : RegM), (⟨u0_4, u0_5⟩ : NumM), (⟨u0_6, u0_7⟩ : SetM), (⟨u0_8, u0_9⟩ : MapM)⟩ : ObjM) (toEff_m ((ix l s11).pl))).1).setF).gone).length cr31 3 (((((oapply_m (⟨u0_0, (⟨u0_1, (⟨u0_2, u0_3⟩ : StampM)⟩ : RegM), (⟨u0_4, u0_5⟩ : NumM), (⟨u0_6, u0_7⟩ : SetM), (⟨u0_8, u0_9⟩ : MapM)⟩ : ObjM) (toEff_m ((ix l s11).pl))).1).setF).gone).flatMap tagMC)) hr31
          have z24 := Sld.le hr32
          have st := st.addK (kS Ar32 ((((oapply_m (⟨u0_0, (⟨u0_1, (⟨u0_2, u0_3⟩ : StampM)⟩ : RegM), (⟨u0_4, u0_5⟩ : NumM), (⟨u0_6, u0_7⟩ : SetM), (⟨u0_8, u0_9⟩ : MapM)⟩ : ObjM) (toEff_m ((ix l s11).pl))).1).map).puts).length cr32 7 (((((oapply_m (⟨u0_0, (⟨u0_1, (⟨u0_2, u0_3⟩ : StampM)⟩ : RegM), (⟨u0_4, u0_5⟩ : NumM), (⟨u0_6, u0_7⟩ : SetM), (⟨u0_8, u0_9⟩ : MapM)⟩ : ObjM) (toEff_m ((ix l s11).pl))).1).map).puts).flatMap putMC)) hr32
          have z25 := Sld.le hr33
          have st := st.addK (kS Ar33 ((((oapply_m (⟨u0_0, (⟨u0_1, (⟨u0_2, u0_3⟩ : StampM)⟩ : RegM), (⟨u0_4, u0_5⟩ : NumM), (⟨u0_6, u0_7⟩ : SetM), (⟨u0_8, u0_9⟩ : MapM)⟩ : ObjM) (toEff_m ((ix l s11).pl))).1).map).gone).length cr33 3 (((((oapply_m (⟨u0_0, (⟨u0_1, (⟨u0_2, u0_3⟩ : StampM)⟩ : RegM), (⟨u0_4, u0_5⟩ : NumM), (⟨u0_6, u0_7⟩ : SetM), (⟨u0_8, u0_9⟩ : MapM)⟩ : ObjM) (toEff_m ((ix l s11).pl))).1).map).gone).flatMap tagMC)) hr33
          have st : St X w31 [_, _, _, _] [_, _, _, _, _, _, _, _, _, _, _, _, _, _, _, _, _, _, _, _, _, _, _, _, _, _, _] := st
          refine ⟨(st.picks [0, 1, 2, 3] (by decide)).takeK 21, ?_⟩
          refine Px_y (i := 7) rfl (by kernel_rfl) (wtd0 rfl) rfl rfl (y_move rfl rfl) ?_
          refine Px_y (i := 8) rfl (by kernel_rfl) (wtd0 rfl) rfl rfl (y_ext rfl rfl rfl) ?_
          refine Px_y (i := 9) rfl (by kernel_rfl) (wtd0 rfl) rfl rfl (y_ext rfl rfl rfl) ?_
          refine Px_a (i := 10) (by kernel_rfl) rfl (wtd0 rfl) ?_
          refine Sal Ty.zc_40 st hF rfl fun g6 w32 (st : St _ _ [_, _, _, _, _] _) hF hg6 => ?_
          refine ⟨(st.picks [0, 1, 2, 3] (by decide)).takeK 21, ?_⟩
          refine Px_a (i := 11) (by kernel_rfl) rfl (wtd0 rfl) ?_
          refine Ssw 4 Ty.sz_40 st hF (.inr hg6) rfl fun w33 (st : St _ _ [_, _, _, _, _] _) hF => ?_
          refine ⟨(st.picks [0, 1, 2, 3] (by decide)).takeK 21, ?_⟩
          refine Px_str (fun W => St X W (hOf st) (kOf st)) (fun _ st => (st.picks [0, 1, 2, 3] (by decide)).takeK 21) st ?_
          refine Px_pl [(true, 12)] (by kernel_rfl) (by kernel_rfl) rfl ?_
          refine Py rfl (y_assign rfl rfl) (Pl_nil (Th_n (k32 _ _ (sq fun _ k33 => sq fun _ k34 => rg (Lm rfl (Ly rfl (yne rfl) (Ln k34 (cN rfl (fun hc12 => ?_) (fun hc12 => ?_)))))))))
          · refine Wp_exit (Th_e (Ib_hit (Th_n (k26 _ _ (rg (Lm rfl (Ly rfl (y_add (c := s11 + 1) rfl rfl rfl (wf_i64 (by first | omega | (simp; done) | (simp; omega)))) ?_)))))))
            refine Ls' rfl (Ls_nil (Th_n (?_)))
            exact ⟨fuel, [(1, _), (5, _), (7, _), (9, _), (10, _), (11, _)], Nat.lt_succ_self _, ⟨rfl, rfl, rfl, rfl, rfl, rfl, trivial⟩, s10, (s11 + 1), u0_0, u0_1, u0_2, u0_3, u0_4, u0_5, u0_6, u0_7, u0_8, u0_9, mg3, As10, cs10, sps10, Au0_6, cu0_6, Au0_7, cu0_7, Au0_8, cu0_8, Au0_9, cu0_9, es_mg3, cl_mg3, rfl, show _ < _ by first | omega | (simp; done) | (simp; omega), by first | exact hinv.skip (by omega) | (rw [List.map_append]; exact LI.step (e := toEff_m (ix l s11).pl) hinv (by omega) hk1 kb3 (by assumption) (by assumption)), hows10, news10, hmapmg3, (st.picks [0, 1, 2, 3] (by decide)).pickK [0, 1, 2, 3, 4, 5, 6, 7, 8, 9, 10, 11, 12, 13, 14, 15], hF⟩
          refine sk k33 (sq fun _ k35 => rg (Lm rfl (Lm rfl (Lm rfl (Ly rfl (y_ixa (q := s11) rfl rfl rfl Ty.es_22 (by first | omega | (simp; done) | (simp; omega)) (by first | omega | (simp; done) | (simp; omega))) ?_)))))
          refine Ly rfl (yf rfl Ty.fo_62_3) (Ly rfl (y_ldkm (q := s11) 3 rfl rfl Ty.ag_60 (fun _ e => e ▸ st.k (i := 0) rfl) (fun _ => rfl) (by first | omega | (simp; done) | (simp; omega)) (by first | omega | (simp; done) | (simp; omega)) rfl rfl) ?_)
          refine La rfl (a_mapupM (i := 2) (enc := (fun x : TagM => Value.agg (tagMC x).toArray)) (ev := (fun x : Bool => Value.bool x)) (k := (ix l s11).tag) (u := true) rfl rfl rfl rfl rfl Tryz.underlying44 kl_60 st.hp rfl hmapmg3 (fun es1 cl1 w34 hmap2 (hp : Hp w34 [_, _, _, _, _]) hf => ?_))
          have st : St X w34 [_, _, _, _, _] [_, _, _, _, _, _, _, _, _, _, _, _, _, _, _, _, _, _, _, _, _, _, _, _, _, _, _] := st.set (i := 2) rfl hp hf
          have st : St X w34 [_, _, _, _, _] [_, _, _, _, _, _, _, _, _, _, _, _, _, _, _, _, _, _, _, _, _, _, _, _, _, _, _] := st
          have hF := hF.step hf (by intro y hy; simp only [List.mem_cons, List.not_mem_nil, or_false] at hy; subst hy; first | (exact Or.inr (by omega)) | (exact Or.inl (kin0 _ _)) | (exact Or.inl (by simp)))
          refine Ln k35 (sq fun _ k36 => rg (Ly rfl (yw 4 Ty.ag_40 st rfl) (La rfl (Ssw 0 Ty.sz_40 st hF (.inr hg1) rfl fun w35 (st : St _ _ [_, _, _, _, _] _) hF => Ln k36 (rg (Lm rfl (Lm rfl (Lm rfl (Ly rfl (y_ixa (q := s11) rfl rfl rfl Ty.es_22 (by first | omega | (simp; done) | (simp; omega)) (by first | omega | (simp; done) | (simp; omega))) ?_)))))))))
          refine Ly rfl (y_ldk (q := s11) rfl rfl Ty.ag_62 (fun _ e => e ▸ st.k (i := 0) rfl) (fun _ => rfl) (by first | omega | (simp; done) | (simp; omega)) (by first | omega | (simp; done) | (simp; omega))) ?_
          have st := st.addK (kS ((ix l s11).tags.A) ((ix l s11).tags.l.length) ((ix l s11).tags.c) 3 (((ix l s11).tags.l).flatMap tagMC)) (okEffectMH_0 ((st.kall (i := 1) rfl) _ (ix_mem (by first | omega | (simp; done) | (simp; omega)) (by first | omega | (simp; done) | (simp; omega)))))
          have z60 := (st.q 27 rfl).le
          have st : St X _ [_, _, _, _, _] [_, _, _, _, _, _, _, _, _, _, _, _, _, _, _, _, _, _, _, _, _, _, _, _, _, _, _, _] := st
          refine La rfl (a_call rfl rfl rfl rfl (toEff_ok (keys (hOf st) ++ X) _ st.Lo ((ix l s11).pl) ((ix l s11).tags.A) ((ix l s11).tags.c) (st.q 27 rfl) (by first | omega | exact Nat.le_trans kb1 (by decide))) (fun v w36 ⟨Ar34, cr34, hv, hr34, hf⟩ => ?_))
          subst hv
          have st := st.keep0 hf
          have hF := hF.step0 hf
          have z26 := Sld.le hr34
          have st := st.addK (kS Ar34 ((toEff_m ((ix l s11).pl)).tags).length cr34 3 (((toEff_m ((ix l s11).pl)).tags).flatMap tagMC)) hr34
          have st : St X w36 [_, _, _, _, _] [_, _, _, _, _, _, _, _, _, _, _, _, _, _, _, _, _, _, _, _, _, _, _, _, _, _, _, _, _] := st
          refine La rfl (Sb (enc := effectMHC) (⟨(toEff_m ((ix l s11).pl)).act, (toEff_m ((ix l s11).pl)).name, (toEff_m ((ix l s11).pl)).val, (⟨(⟨((toEff_m ((ix l s11).pl)).tag).id.origin, ((toEff_m ((ix l s11).pl)).tag).id.seq⟩ : IdM), ((toEff_m ((ix l s11).pl)).tag).n⟩ : TagM), (⟨((toEff_m ((ix l s11).pl)).atF).time, ((toEff_m ((ix l s11).pl)).atF).origin⟩ : StampM), ⟨Ar34, cr34, (toEff_m ((ix l s11).pl)).tags⟩⟩ : EffectMH) Ty.es_45 Ty.zc_64 (fun _ => rfl) st hF rfl fun g7 w37 how2 hnew2 (st : St _ _ [_, _, _, _, _, _] _) hF => ?_)
          have st := st.addK (kAll efEffectMH [(⟨(toEff_m ((ix l s11).pl)).act, (toEff_m ((ix l s11).pl)).name, (toEff_m ((ix l s11).pl)).val, (⟨(⟨((toEff_m ((ix l s11).pl)).tag).id.origin, ((toEff_m ((ix l s11).pl)).tag).id.seq⟩ : IdM), ((toEff_m ((ix l s11).pl)).tag).n⟩ : TagM), (⟨((toEff_m ((ix l s11).pl)).atF).time, ((toEff_m ((ix l s11).pl)).atF).origin⟩ : StampM), ⟨Ar34, cr34, (toEff_m ((ix l s11).pl)).tags⟩⟩ : EffectMH)]) (kAll_one (okEffectMH_mk (st.q 28 rfl)))
          have st : St X _ [_, _, _, _, _, _] [_, _, _, _, _, _, _, _, _, _, _, _, _, _, _, _, _, _, _, _, _, _, _, _, _, _, _, _, _, _] := st
          refine La rfl (Sap (enc := effectMHC) s10 [(⟨(toEff_m ((ix l s11).pl)).act, (toEff_m ((ix l s11).pl)).name, (toEff_m ((ix l s11).pl)).val, (⟨(⟨((toEff_m ((ix l s11).pl)).tag).id.origin, ((toEff_m ((ix l s11).pl)).tag).id.seq⟩ : IdM), ((toEff_m ((ix l s11).pl)).tag).n⟩ : TagM), (⟨((toEff_m ((ix l s11).pl)).atF).time, ((toEff_m ((ix l s11).pl)).atF).origin⟩ : StampM), ⟨Ar34, cr34, (toEff_m ((ix l s11).pl)).tags⟩⟩ : EffectMH)] 3 Ty.es_45 Ty.zc_64 Ty.by_64 (fun _ => rfl) effectMHC_1 hows10 news10 st hF (own_src (i := 5) st.hp rfl how2) (own_none how2) rfl (by first | omega | (simp; done) | (simp; omega)) (by first | omega | (simp; done) | (simp; omega)) fun Aa1 ca1 sp1 w38 how3 hnew3 (st : St _ _ [_, _, _, _, _, _] _) hF => ?_)
          have st := st.addK (kAll efEffectMH (s10 ++ [(⟨(toEff_m ((ix l s11).pl)).act, (toEff_m ((ix l s11).pl)).name, (toEff_m ((ix l s11).pl)).val, (⟨(⟨((toEff_m ((ix l s11).pl)).tag).id.origin, ((toEff_m ((ix l s11).pl)).tag).id.seq⟩ : IdM), ((toEff_m ((ix l s11).pl)).tag).n⟩ : TagM), (⟨((toEff_m ((ix l s11).pl)).atF).time, ((toEff_m ((ix l s11).pl)).atF).origin⟩ : StampM), ⟨Ar34, cr34, (toEff_m ((ix l s11).pl)).tags⟩⟩ : EffectMH)])) (kAll_app (st.kall (i := 11) rfl) (st.kall (i := 29) rfl))
          have st : St X _ [_, _, _, _, _, _] [_, _, _, _, _, _, _, _, _, _, _, _, _, _, _, _, _, _, _, _, _, _, _, _, _, _, _, _, _, _, _] := st
          refine Ls' rfl (Ls_nil (Ib_n (Th_n (k26 _ _ (rg (Lm rfl (Ly rfl (y_add (c := s11 + 1) rfl rfl rfl (wf_i64 (by first | omega | (simp; done) | (simp; omega)))) ?_)))))))
          refine Ls' rfl (Ls_nil (Th_n (?_)))
          exact ⟨fuel, [(1, _), (5, _), (7, _), (9, _), (10, _), (11, _)], Nat.lt_succ_self _, ⟨rfl, rfl, rfl, rfl, rfl, rfl, trivial⟩, (s10 ++ [(⟨(toEff_m ((ix l s11).pl)).act, (toEff_m ((ix l s11).pl)).name, (toEff_m ((ix l s11).pl)).val, (⟨(⟨((toEff_m ((ix l s11).pl)).tag).id.origin, ((toEff_m ((ix l s11).pl)).tag).id.seq⟩ : IdM), ((toEff_m ((ix l s11).pl)).tag).n⟩ : TagM), (⟨((toEff_m ((ix l s11).pl)).atF).time, ((toEff_m ((ix l s11).pl)).atF).origin⟩ : StampM), ⟨Ar34, cr34, (toEff_m ((ix l s11).pl)).tags⟩⟩ : EffectMH)]), (s11 + 1), (((oapply_m (⟨u0_0, (⟨u0_1, (⟨u0_2, u0_3⟩ : StampM)⟩ : RegM), (⟨u0_4, u0_5⟩ : NumM), (⟨u0_6, u0_7⟩ : SetM), (⟨u0_8, u0_9⟩ : MapM)⟩ : ObjM) (toEff_m ((ix l s11).pl))).1).kind), ((((oapply_m (⟨u0_0, (⟨u0_1, (⟨u0_2, u0_3⟩ : StampM)⟩ : RegM), (⟨u0_4, u0_5⟩ : NumM), (⟨u0_6, u0_7⟩ : SetM), (⟨u0_8, u0_9⟩ : MapM)⟩ : ObjM) (toEff_m ((ix l s11).pl))).1).reg).val), ((((oapply_m (⟨u0_0, (⟨u0_1, (⟨u0_2, u0_3⟩ : StampM)⟩ : RegM), (⟨u0_4, u0_5⟩ : NumM), (⟨u0_6, u0_7⟩ : SetM), (⟨u0_8, u0_9⟩ : MapM)⟩ : ObjM) (toEff_m ((ix l s11).pl))).1).reg).atF.time), ((((oapply_m (⟨u0_0, (⟨u0_1, (⟨u0_2, u0_3⟩ : StampM)⟩ : RegM), (⟨u0_4, u0_5⟩ : NumM), (⟨u0_6, u0_7⟩ : SetM), (⟨u0_8, u0_9⟩ : MapM)⟩ : ObjM) (toEff_m ((ix l s11).pl))).1).reg).atF.origin), ((((oapply_m (⟨u0_0, (⟨u0_1, (⟨u0_2, u0_3⟩ : StampM)⟩ : RegM), (⟨u0_4, u0_5⟩ : NumM), (⟨u0_6, u0_7⟩ : SetM), (⟨u0_8, u0_9⟩ : MapM)⟩ : ObjM) (toEff_m ((ix l s11).pl))).1).num).plus), ((((oapply_m (⟨u0_0, (⟨u0_1, (⟨u0_2, u0_3⟩ : StampM)⟩ : RegM), (⟨u0_4, u0_5⟩ : NumM), (⟨u0_6, u0_7⟩ : SetM), (⟨u0_8, u0_9⟩ : MapM)⟩ : ObjM) (toEff_m ((ix l s11).pl))).1).num).minus), ((((oapply_m (⟨u0_0, (⟨u0_1, (⟨u0_2, u0_3⟩ : StampM)⟩ : RegM), (⟨u0_4, u0_5⟩ : NumM), (⟨u0_6, u0_7⟩ : SetM), (⟨u0_8, u0_9⟩ : MapM)⟩ : ObjM) (toEff_m ((ix l s11).pl))).1).setF).adds), ((((oapply_m (⟨u0_0, (⟨u0_1, (⟨u0_2, u0_3⟩ : StampM)⟩ : RegM), (⟨u0_4, u0_5⟩ : NumM), (⟨u0_6, u0_7⟩ : SetM), (⟨u0_8, u0_9⟩ : MapM)⟩ : ObjM) (toEff_m ((ix l s11).pl))).1).setF).gone), ((((oapply_m (⟨u0_0, (⟨u0_1, (⟨u0_2, u0_3⟩ : StampM)⟩ : RegM), (⟨u0_4, u0_5⟩ : NumM), (⟨u0_6, u0_7⟩ : SetM), (⟨u0_8, u0_9⟩ : MapM)⟩ : ObjM) (toEff_m ((ix l s11).pl))).1).map).puts), ((((oapply_m (⟨u0_0, (⟨u0_1, (⟨u0_2, u0_3⟩ : StampM)⟩ : RegM), (⟨u0_4, u0_5⟩ : NumM), (⟨u0_6, u0_7⟩ : SetM), (⟨u0_8, u0_9⟩ : MapM)⟩ : ObjM) (toEff_m ((ix l s11).pl))).1).map).gone), (mset mg3 ((ix l s11).tag) true), Aa1, ca1, sp1, Ar30, cr30, Ar31, cr31, Ar32, cr32, Ar33, cr33, es1, cl1, rfl, show _ < _ by first | omega | (simp; done) | (simp; omega), by first | exact hinv.skip (by omega) | (rw [List.map_append]; exact LI.step (e := toEff_m (ix l s11).pl) hinv (by omega) hk1 kb3 (by assumption) (by assumption)), how3, hnew3, hmap2, (st.picks [0, 1, 2, 3] (by decide)).pickK [0, 1, 2, 3, 4, 5, 6, 7, 8, 9, 10, 30, 23, 24, 25, 26], hF⟩
        refine Sal Ty.zc_40 st hF rfl fun g8 w39 (st : St _ _ [_, _, _, _, _] _) hF hg8 => ?_
        refine ⟨(st.picks [0, 1, 2, 3] (by decide)).takeK 21, ?_⟩
        refine Px_a (i := 6) (by kernel_rfl) rfl (wtd0 rfl) ?_
        refine a_call rfl rfl rfl rfl (oapply_ok (keys (hOf st) ++ X) _ st.Lo (⟨u0_0, (⟨u0_1, (⟨u0_2, u0_3⟩ : StampM)⟩ : RegM), (⟨u0_4, u0_5⟩ : NumM), (⟨u0_6, u0_7⟩ : SetM), (⟨u0_8, u0_9⟩ : MapM)⟩ : ObjM) Au0_6 cu0_6 Au0_7 cu0_7 Au0_8 cu0_8 Au0_9 cu0_9 (toEff_m ((ix l s11).pl)) Ar29 cr29 (st.q 12 rfl) (st.q 13 rfl) (st.q 14 rfl) (st.q 15 rfl) (st.q 22 rfl) (by assumption) (by assumption) (by assumption) (by assumption) (by first | exact Nat.le_trans kb3 (by decide) | exact Nat.le_trans ((hI.g _ (List.mem_map_of_mem (ix_mem (by omega) (by omega)))).t) (by decide))) (fun v w40 ⟨Ar35, cr35, Ar36, cr36, Ar37, cr37, Ar38, cr38, hv, hr35, hr36, hr37, hr38, hf⟩ => ?_)
        subst hv
        have st := st.keep0 hf
        have hF := hF.step0 hf
        have z27 := Sld.le hr35
        have st := st.addK (kS Ar35 ((((oapply_m (⟨u0_0, (⟨u0_1, (⟨u0_2, u0_3⟩ : StampM)⟩ : RegM), (⟨u0_4, u0_5⟩ : NumM), (⟨u0_6, u0_7⟩ : SetM), (⟨u0_8, u0_9⟩ : MapM)⟩ : ObjM) (toEff_m ((ix l s11).pl))).1).setF).adds).length cr35 4 (((((oapply_m (⟨u0_0, (⟨u0_1, (⟨u0_2, u0_3⟩ : StampM)⟩ : RegM), (⟨u0_4, u0_5⟩ : NumM), (⟨u0_6, u0_7⟩ : SetM), (⟨u0_8, u0_9⟩ : MapM)⟩ : ObjM) (toEff_m ((ix l s11).pl))).1).setF).adds).flatMap addMC)) hr35
        have z28 := Sld.le hr36
        have st := st.addK (kS Ar36 ((((oapply_m (⟨u0_0, (⟨u0_1, (⟨u0_2, u0_3⟩ : StampM)⟩ : RegM), (⟨u0_4, u0_5⟩ : NumM), (⟨u0_6, u0_7⟩ : SetM), (⟨u0_8, u0_9⟩ : MapM)⟩ : ObjM) (toEff_m ((ix l s11).pl))).1).setF).gone).length cr36 3 (((((oapply_m (⟨u0_0, (⟨u0_1, (⟨u0_2, u0_3⟩ : StampM)⟩ : RegM), (⟨u0_4, u0_5⟩ : NumM), (⟨u0_6, u0_7⟩ : SetM), (⟨u0_8, u0_9⟩ : MapM)⟩ : ObjM) (toEff_m ((ix l s11).pl))).1).setF).gone).flatMap tagMC)) hr36
        have z29 := Sld.le hr37
        have st := st.addK (kS Ar37 ((((oapply_m (⟨u0_0, (⟨u0_1, (⟨u0_2, u0_3⟩ : StampM)⟩ : RegM), (⟨u0_4, u0_5⟩ : NumM), (⟨u0_6, u0_7⟩ : SetM), (⟨u0_8, u0_9⟩ : MapM)⟩ : ObjM) (toEff_m ((ix l s11).pl))).1).map).puts).length cr37 7 (((((oapply_m (⟨u0_0, (⟨u0_1, (⟨u0_2, u0_3⟩ : StampM)⟩ : RegM), (⟨u0_4, u0_5⟩ : NumM), (⟨u0_6, u0_7⟩ : SetM), (⟨u0_8, u0_9⟩ : MapM)⟩ : ObjM) (toEff_m ((ix l s11).pl))).1).map).puts).flatMap putMC)) hr37
        have z30 := Sld.le hr38
        have st := st.addK (kS Ar38 ((((oapply_m (⟨u0_0, (⟨u0_1, (⟨u0_2, u0_3⟩ : StampM)⟩ : RegM), (⟨u0_4, u0_5⟩ : NumM), (⟨u0_6, u0_7⟩ : SetM), (⟨u0_8, u0_9⟩ : MapM)⟩ : ObjM) (toEff_m ((ix l s11).pl))).1).map).gone).length cr38 3 (((((oapply_m (⟨u0_0, (⟨u0_1, (⟨u0_2, u0_3⟩ : StampM)⟩ : RegM), (⟨u0_4, u0_5⟩ : NumM), (⟨u0_6, u0_7⟩ : SetM), (⟨u0_8, u0_9⟩ : MapM)⟩ : ObjM) (toEff_m ((ix l s11).pl))).1).map).gone).flatMap tagMC)) hr38
        have st : St X w40 [_, _, _, _, _] [_, _, _, _, _, _, _, _, _, _, _, _, _, _, _, _, _, _, _, _, _, _, _, _, _, _, _] := st
        refine ⟨(st.picks [0, 1, 2, 3] (by decide)).takeK 21, ?_⟩
        refine Px_y (i := 7) rfl (by kernel_rfl) (wtd0 rfl) rfl rfl (y_move rfl rfl) ?_
        refine Px_y (i := 8) rfl (by kernel_rfl) (wtd0 rfl) rfl rfl (y_ext rfl rfl rfl) ?_
        refine Px_y (i := 9) rfl (by kernel_rfl) (wtd0 rfl) rfl rfl (y_ext rfl rfl rfl) ?_
        refine Px_a (i := 11) (by kernel_rfl) rfl (wtd0 rfl) ?_
        refine Ssw 4 Ty.sz_40 st hF (.inr hg8) rfl fun w41 (st : St _ _ [_, _, _, _, _] _) hF => ?_
        refine ⟨(st.picks [0, 1, 2, 3] (by decide)).takeK 21, ?_⟩
        refine Px_str (fun W => St X W (hOf st) (kOf st)) (fun _ st => (st.picks [0, 1, 2, 3] (by decide)).takeK 21) st ?_
        refine Px_pl [(true, 12)] (by kernel_rfl) (by kernel_rfl) rfl ?_
        refine Py rfl (y_assign rfl rfl) (Pl_nil (Th_n (k32 _ _ (sq fun _ k37 => sq fun _ k38 => rg (Lm rfl (Ly rfl (yne rfl) (Ln k38 (cN rfl (fun hc13 => ?_) (fun hc13 => ?_)))))))))
        · refine Wp_exit (Th_e (Ib_hit (Th_n (k26 _ _ (rg (Lm rfl (Ly rfl (y_add (c := s11 + 1) rfl rfl rfl (wf_i64 (by first | omega | (simp; done) | (simp; omega)))) ?_)))))))
          refine Ls' rfl (Ls_nil (Th_n (?_)))
          exact ⟨fuel, [(1, _), (5, _), (7, _), (9, _), (10, _), (11, _)], Nat.lt_succ_self _, ⟨rfl, rfl, rfl, rfl, rfl, rfl, trivial⟩, s10, (s11 + 1), u0_0, u0_1, u0_2, u0_3, u0_4, u0_5, u0_6, u0_7, u0_8, u0_9, mg3, As10, cs10, sps10, Au0_6, cu0_6, Au0_7, cu0_7, Au0_8, cu0_8, Au0_9, cu0_9, es_mg3, cl_mg3, rfl, show _ < _ by first | omega | (simp; done) | (simp; omega), by first | exact hinv.skip (by omega) | (rw [List.map_append]; exact LI.step (e := toEff_m (ix l s11).pl) hinv (by omega) hk1 kb3 (by assumption) (by assumption)), hows10, news10, hmapmg3, (st.picks [0, 1, 2, 3] (by decide)).pickK [0, 1, 2, 3, 4, 5, 6, 7, 8, 9, 10, 11, 12, 13, 14, 15], hF⟩
        refine sk k37 (sq fun _ k39 => rg (Lm rfl (Lm rfl (Lm rfl (Ly rfl (y_ixa (q := s11) rfl rfl rfl Ty.es_22 (by first | omega | (simp; done) | (simp; omega)) (by first | omega | (simp; done) | (simp; omega))) ?_)))))
        refine Ly rfl (yf rfl Ty.fo_62_3) (Ly rfl (y_ldkm (q := s11) 3 rfl rfl Ty.ag_60 (fun _ e => e ▸ st.k (i := 0) rfl) (fun _ => rfl) (by first | omega | (simp; done) | (simp; omega)) (by first | omega | (simp; done) | (simp; omega)) rfl rfl) ?_)
        refine La rfl (a_mapupM (i := 2) (enc := (fun x : TagM => Value.agg (tagMC x).toArray)) (ev := (fun x : Bool => Value.bool x)) (k := (ix l s11).tag) (u := true) rfl rfl rfl rfl rfl Tryz.underlying44 kl_60 st.hp rfl hmapmg3 (fun es2 cl2 w42 hmap3 (hp : Hp w42 [_, _, _, _, _]) hf => ?_))
        have st : St X w42 [_, _, _, _, _] [_, _, _, _, _, _, _, _, _, _, _, _, _, _, _, _, _, _, _, _, _, _, _, _, _, _, _] := st.set (i := 2) rfl hp hf
        have st : St X w42 [_, _, _, _, _] [_, _, _, _, _, _, _, _, _, _, _, _, _, _, _, _, _, _, _, _, _, _, _, _, _, _, _] := st
        have hF := hF.step hf (by intro y hy; simp only [List.mem_cons, List.not_mem_nil, or_false] at hy; subst hy; first | (exact Or.inr (by omega)) | (exact Or.inl (kin0 _ _)) | (exact Or.inl (by simp)))
        refine Ln k39 (sq fun _ k40 => rg (Ly rfl (yw 4 Ty.ag_40 st rfl) (La rfl (Ssw 0 Ty.sz_40 st hF (.inr hg1) rfl fun w43 (st : St _ _ [_, _, _, _, _] _) hF => Ln k40 (rg (Lm rfl (Lm rfl (Lm rfl (Ly rfl (y_ixa (q := s11) rfl rfl rfl Ty.es_22 (by first | omega | (simp; done) | (simp; omega)) (by first | omega | (simp; done) | (simp; omega))) ?_)))))))))
        refine Ly rfl (y_ldk (q := s11) rfl rfl Ty.ag_62 (fun _ e => e ▸ st.k (i := 0) rfl) (fun _ => rfl) (by first | omega | (simp; done) | (simp; omega)) (by first | omega | (simp; done) | (simp; omega))) ?_
        have st := st.addK (kS ((ix l s11).tags.A) ((ix l s11).tags.l.length) ((ix l s11).tags.c) 3 (((ix l s11).tags.l).flatMap tagMC)) (okEffectMH_0 ((st.kall (i := 1) rfl) _ (ix_mem (by first | omega | (simp; done) | (simp; omega)) (by first | omega | (simp; done) | (simp; omega)))))
        have z61 := (st.q 27 rfl).le
        have st : St X _ [_, _, _, _, _] [_, _, _, _, _, _, _, _, _, _, _, _, _, _, _, _, _, _, _, _, _, _, _, _, _, _, _, _] := st
        refine La rfl (a_call rfl rfl rfl rfl (toEff_ok (keys (hOf st) ++ X) _ st.Lo ((ix l s11).pl) ((ix l s11).tags.A) ((ix l s11).tags.c) (st.q 27 rfl) (by first | omega | exact Nat.le_trans kb1 (by decide))) (fun v w44 ⟨Ar39, cr39, hv, hr39, hf⟩ => ?_))
        subst hv
        have st := st.keep0 hf
        have hF := hF.step0 hf
        have z31 := Sld.le hr39
        have st := st.addK (kS Ar39 ((toEff_m ((ix l s11).pl)).tags).length cr39 3 (((toEff_m ((ix l s11).pl)).tags).flatMap tagMC)) hr39
        have st : St X w44 [_, _, _, _, _] [_, _, _, _, _, _, _, _, _, _, _, _, _, _, _, _, _, _, _, _, _, _, _, _, _, _, _, _, _] := st
        refine La rfl (Sb (enc := effectMHC) (⟨(toEff_m ((ix l s11).pl)).act, (toEff_m ((ix l s11).pl)).name, (toEff_m ((ix l s11).pl)).val, (⟨(⟨((toEff_m ((ix l s11).pl)).tag).id.origin, ((toEff_m ((ix l s11).pl)).tag).id.seq⟩ : IdM), ((toEff_m ((ix l s11).pl)).tag).n⟩ : TagM), (⟨((toEff_m ((ix l s11).pl)).atF).time, ((toEff_m ((ix l s11).pl)).atF).origin⟩ : StampM), ⟨Ar39, cr39, (toEff_m ((ix l s11).pl)).tags⟩⟩ : EffectMH) Ty.es_45 Ty.zc_64 (fun _ => rfl) st hF rfl fun g9 w45 how4 hnew4 (st : St _ _ [_, _, _, _, _, _] _) hF => ?_)
        have st := st.addK (kAll efEffectMH [(⟨(toEff_m ((ix l s11).pl)).act, (toEff_m ((ix l s11).pl)).name, (toEff_m ((ix l s11).pl)).val, (⟨(⟨((toEff_m ((ix l s11).pl)).tag).id.origin, ((toEff_m ((ix l s11).pl)).tag).id.seq⟩ : IdM), ((toEff_m ((ix l s11).pl)).tag).n⟩ : TagM), (⟨((toEff_m ((ix l s11).pl)).atF).time, ((toEff_m ((ix l s11).pl)).atF).origin⟩ : StampM), ⟨Ar39, cr39, (toEff_m ((ix l s11).pl)).tags⟩⟩ : EffectMH)]) (kAll_one (okEffectMH_mk (st.q 28 rfl)))
        have st : St X _ [_, _, _, _, _, _] [_, _, _, _, _, _, _, _, _, _, _, _, _, _, _, _, _, _, _, _, _, _, _, _, _, _, _, _, _, _] := st
        refine La rfl (Sap (enc := effectMHC) s10 [(⟨(toEff_m ((ix l s11).pl)).act, (toEff_m ((ix l s11).pl)).name, (toEff_m ((ix l s11).pl)).val, (⟨(⟨((toEff_m ((ix l s11).pl)).tag).id.origin, ((toEff_m ((ix l s11).pl)).tag).id.seq⟩ : IdM), ((toEff_m ((ix l s11).pl)).tag).n⟩ : TagM), (⟨((toEff_m ((ix l s11).pl)).atF).time, ((toEff_m ((ix l s11).pl)).atF).origin⟩ : StampM), ⟨Ar39, cr39, (toEff_m ((ix l s11).pl)).tags⟩⟩ : EffectMH)] 3 Ty.es_45 Ty.zc_64 Ty.by_64 (fun _ => rfl) effectMHC_1 hows10 news10 st hF (own_src (i := 5) st.hp rfl how4) (own_none how4) rfl (by first | omega | (simp; done) | (simp; omega)) (by first | omega | (simp; done) | (simp; omega)) fun Aa2 ca2 sp2 w46 how5 hnew5 (st : St _ _ [_, _, _, _, _, _] _) hF => ?_)
        have st := st.addK (kAll efEffectMH (s10 ++ [(⟨(toEff_m ((ix l s11).pl)).act, (toEff_m ((ix l s11).pl)).name, (toEff_m ((ix l s11).pl)).val, (⟨(⟨((toEff_m ((ix l s11).pl)).tag).id.origin, ((toEff_m ((ix l s11).pl)).tag).id.seq⟩ : IdM), ((toEff_m ((ix l s11).pl)).tag).n⟩ : TagM), (⟨((toEff_m ((ix l s11).pl)).atF).time, ((toEff_m ((ix l s11).pl)).atF).origin⟩ : StampM), ⟨Ar39, cr39, (toEff_m ((ix l s11).pl)).tags⟩⟩ : EffectMH)])) (kAll_app (st.kall (i := 11) rfl) (st.kall (i := 29) rfl))
        have st : St X _ [_, _, _, _, _, _] [_, _, _, _, _, _, _, _, _, _, _, _, _, _, _, _, _, _, _, _, _, _, _, _, _, _, _, _, _, _, _] := st
        refine Ls' rfl (Ls_nil (Ib_n (Th_n (k26 _ _ (rg (Lm rfl (Ly rfl (y_add (c := s11 + 1) rfl rfl rfl (wf_i64 (by first | omega | (simp; done) | (simp; omega)))) ?_)))))))
        refine Ls' rfl (Ls_nil (Th_n (?_)))
        exact ⟨fuel, [(1, _), (5, _), (7, _), (9, _), (10, _), (11, _)], Nat.lt_succ_self _, ⟨rfl, rfl, rfl, rfl, rfl, rfl, trivial⟩, (s10 ++ [(⟨(toEff_m ((ix l s11).pl)).act, (toEff_m ((ix l s11).pl)).name, (toEff_m ((ix l s11).pl)).val, (⟨(⟨((toEff_m ((ix l s11).pl)).tag).id.origin, ((toEff_m ((ix l s11).pl)).tag).id.seq⟩ : IdM), ((toEff_m ((ix l s11).pl)).tag).n⟩ : TagM), (⟨((toEff_m ((ix l s11).pl)).atF).time, ((toEff_m ((ix l s11).pl)).atF).origin⟩ : StampM), ⟨Ar39, cr39, (toEff_m ((ix l s11).pl)).tags⟩⟩ : EffectMH)]), (s11 + 1), (((oapply_m (⟨u0_0, (⟨u0_1, (⟨u0_2, u0_3⟩ : StampM)⟩ : RegM), (⟨u0_4, u0_5⟩ : NumM), (⟨u0_6, u0_7⟩ : SetM), (⟨u0_8, u0_9⟩ : MapM)⟩ : ObjM) (toEff_m ((ix l s11).pl))).1).kind), ((((oapply_m (⟨u0_0, (⟨u0_1, (⟨u0_2, u0_3⟩ : StampM)⟩ : RegM), (⟨u0_4, u0_5⟩ : NumM), (⟨u0_6, u0_7⟩ : SetM), (⟨u0_8, u0_9⟩ : MapM)⟩ : ObjM) (toEff_m ((ix l s11).pl))).1).reg).val), ((((oapply_m (⟨u0_0, (⟨u0_1, (⟨u0_2, u0_3⟩ : StampM)⟩ : RegM), (⟨u0_4, u0_5⟩ : NumM), (⟨u0_6, u0_7⟩ : SetM), (⟨u0_8, u0_9⟩ : MapM)⟩ : ObjM) (toEff_m ((ix l s11).pl))).1).reg).atF.time), ((((oapply_m (⟨u0_0, (⟨u0_1, (⟨u0_2, u0_3⟩ : StampM)⟩ : RegM), (⟨u0_4, u0_5⟩ : NumM), (⟨u0_6, u0_7⟩ : SetM), (⟨u0_8, u0_9⟩ : MapM)⟩ : ObjM) (toEff_m ((ix l s11).pl))).1).reg).atF.origin), ((((oapply_m (⟨u0_0, (⟨u0_1, (⟨u0_2, u0_3⟩ : StampM)⟩ : RegM), (⟨u0_4, u0_5⟩ : NumM), (⟨u0_6, u0_7⟩ : SetM), (⟨u0_8, u0_9⟩ : MapM)⟩ : ObjM) (toEff_m ((ix l s11).pl))).1).num).plus), ((((oapply_m (⟨u0_0, (⟨u0_1, (⟨u0_2, u0_3⟩ : StampM)⟩ : RegM), (⟨u0_4, u0_5⟩ : NumM), (⟨u0_6, u0_7⟩ : SetM), (⟨u0_8, u0_9⟩ : MapM)⟩ : ObjM) (toEff_m ((ix l s11).pl))).1).num).minus), ((((oapply_m (⟨u0_0, (⟨u0_1, (⟨u0_2, u0_3⟩ : StampM)⟩ : RegM), (⟨u0_4, u0_5⟩ : NumM), (⟨u0_6, u0_7⟩ : SetM), (⟨u0_8, u0_9⟩ : MapM)⟩ : ObjM) (toEff_m ((ix l s11).pl))).1).setF).adds), ((((oapply_m (⟨u0_0, (⟨u0_1, (⟨u0_2, u0_3⟩ : StampM)⟩ : RegM), (⟨u0_4, u0_5⟩ : NumM), (⟨u0_6, u0_7⟩ : SetM), (⟨u0_8, u0_9⟩ : MapM)⟩ : ObjM) (toEff_m ((ix l s11).pl))).1).setF).gone), ((((oapply_m (⟨u0_0, (⟨u0_1, (⟨u0_2, u0_3⟩ : StampM)⟩ : RegM), (⟨u0_4, u0_5⟩ : NumM), (⟨u0_6, u0_7⟩ : SetM), (⟨u0_8, u0_9⟩ : MapM)⟩ : ObjM) (toEff_m ((ix l s11).pl))).1).map).puts), ((((oapply_m (⟨u0_0, (⟨u0_1, (⟨u0_2, u0_3⟩ : StampM)⟩ : RegM), (⟨u0_4, u0_5⟩ : NumM), (⟨u0_6, u0_7⟩ : SetM), (⟨u0_8, u0_9⟩ : MapM)⟩ : ObjM) (toEff_m ((ix l s11).pl))).1).map).gone), (mset mg3 ((ix l s11).tag) true), Aa2, ca2, sp2, Ar35, cr35, Ar36, cr36, Ar37, cr37, Ar38, cr38, es2, cl2, rfl, show _ < _ by first | omega | (simp; done) | (simp; omega), by first | exact hinv.skip (by omega) | (rw [List.map_append]; exact LI.step (e := toEff_m (ix l s11).pl) hinv (by omega) hk1 kb3 (by assumption) (by assumption)), how5, hnew5, hmap3, (st.picks [0, 1, 2, 3] (by decide)).pickK [0, 1, 2, 3, 4, 5, 6, 7, 8, 9, 10, 30, 23, 24, 25, 26], hF⟩
      refine Sal Ty.zc_40 st hF rfl fun g10 w47 (st : St _ _ [_, _, _, _, _] _) hF hg10 => ?_
      refine ⟨(st.picks [0, 1, 2, 3] (by decide)).takeK 21, ?_⟩
      have st := st.addK (kS ((ix l s11).tags.A) ((ix l s11).tags.l.length) ((ix l s11).tags.c) 3 (((ix l s11).tags.l).flatMap tagMC)) (okEffectMH_0 ((st.kall (i := 1) rfl) _ (ix_mem (by first | omega | (simp; done) | (simp; omega)) (by first | omega | (simp; done) | (simp; omega)))))
      have z62 := (st.q 21 rfl).le
      have st : St X _ [_, _, _, _, _] [_, _, _, _, _, _, _, _, _, _, _, _, _, _, _, _, _, _, _, _, _, _] := st
      refine Px_a (i := 5) (by kernel_rfl) rfl (wtd0 rfl) ?_
      refine a_call rfl rfl rfl rfl (toEff_ok (keys (hOf st) ++ X) _ st.Lo ((ix l s11).pl) ((ix l s11).tags.A) ((ix l s11).tags.c) (st.q 21 rfl) (by first | omega | exact Nat.le_trans kb1 (by decide))) (fun v w48 ⟨Ar40, cr40, hv, hr40, hf⟩ => ?_)
      subst hv
      have st := st.keep0 hf
      have hF := hF.step0 hf
      have z32 := Sld.le hr40
      have st := st.addK (kS Ar40 ((toEff_m ((ix l s11).pl)).tags).length cr40 3 (((toEff_m ((ix l s11).pl)).tags).flatMap tagMC)) hr40
      have st : St X w48 [_, _, _, _, _] [_, _, _, _, _, _, _, _, _, _, _, _, _, _, _, _, _, _, _, _, _, _, _] := st
      refine ⟨(st.picks [0, 1, 2, 3] (by decide)).takeK 21, ?_⟩
      refine Px_a (i := 6) (by kernel_rfl) rfl (wtd0 rfl) ?_
      refine a_call rfl rfl rfl rfl (oapply_ok (keys (hOf st) ++ X) _ st.Lo (⟨u0_0, (⟨u0_1, (⟨u0_2, u0_3⟩ : StampM)⟩ : RegM), (⟨u0_4, u0_5⟩ : NumM), (⟨u0_6, u0_7⟩ : SetM), (⟨u0_8, u0_9⟩ : MapM)⟩ : ObjM) Au0_6 cu0_6 Au0_7 cu0_7 Au0_8 cu0_8 Au0_9 cu0_9 (toEff_m ((ix l s11).pl)) Ar40 cr40 (st.q 12 rfl) (st.q 13 rfl) (st.q 14 rfl) (st.q 15 rfl) (st.q 22 rfl) (by assumption) (by assumption) (by assumption) (by assumption) (by first | exact Nat.le_trans kb3 (by decide) | exact Nat.le_trans ((hI.g _ (List.mem_map_of_mem (ix_mem (by omega) (by omega)))).t) (by decide))) (fun v w49 ⟨Ar41, cr41, Ar42, cr42, Ar43, cr43, Ar44, cr44, hv, hr41, hr42, hr43, hr44, hf⟩ => ?_)
      subst hv
      have st := st.keep0 hf
      have hF := hF.step0 hf
      have z33 := Sld.le hr41
      have st := st.addK (kS Ar41 ((((oapply_m (⟨u0_0, (⟨u0_1, (⟨u0_2, u0_3⟩ : StampM)⟩ : RegM), (⟨u0_4, u0_5⟩ : NumM), (⟨u0_6, u0_7⟩ : SetM), (⟨u0_8, u0_9⟩ : MapM)⟩ : ObjM) (toEff_m ((ix l s11).pl))).1).setF).adds).length cr41 4 (((((oapply_m (⟨u0_0, (⟨u0_1, (⟨u0_2, u0_3⟩ : StampM)⟩ : RegM), (⟨u0_4, u0_5⟩ : NumM), (⟨u0_6, u0_7⟩ : SetM), (⟨u0_8, u0_9⟩ : MapM)⟩ : ObjM) (toEff_m ((ix l s11).pl))).1).setF).adds).flatMap addMC)) hr41
      have z34 := Sld.le hr42
      have st := st.addK (kS Ar42 ((((oapply_m (⟨u0_0, (⟨u0_1, (⟨u0_2, u0_3⟩ : StampM)⟩ : RegM), (⟨u0_4, u0_5⟩ : NumM), (⟨u0_6, u0_7⟩ : SetM), (⟨u0_8, u0_9⟩ : MapM)⟩ : ObjM) (toEff_m ((ix l s11).pl))).1).setF).gone).length cr42 3 (((((oapply_m (⟨u0_0, (⟨u0_1, (⟨u0_2, u0_3⟩ : StampM)⟩ : RegM), (⟨u0_4, u0_5⟩ : NumM), (⟨u0_6, u0_7⟩ : SetM), (⟨u0_8, u0_9⟩ : MapM)⟩ : ObjM) (toEff_m ((ix l s11).pl))).1).setF).gone).flatMap tagMC)) hr42
      have z35 := Sld.le hr43
      have st := st.addK (kS Ar43 ((((oapply_m (⟨u0_0, (⟨u0_1, (⟨u0_2, u0_3⟩ : StampM)⟩ : RegM), (⟨u0_4, u0_5⟩ : NumM), (⟨u0_6, u0_7⟩ : SetM), (⟨u0_8, u0_9⟩ : MapM)⟩ : ObjM) (toEff_m ((ix l s11).pl))).1).map).puts).length cr43 7 (((((oapply_m (⟨u0_0, (⟨u0_1, (⟨u0_2, u0_3⟩ : StampM)⟩ : RegM), (⟨u0_4, u0_5⟩ : NumM), (⟨u0_6, u0_7⟩ : SetM), (⟨u0_8, u0_9⟩ : MapM)⟩ : ObjM) (toEff_m ((ix l s11).pl))).1).map).puts).flatMap putMC)) hr43
      have z36 := Sld.le hr44
      have st := st.addK (kS Ar44 ((((oapply_m (⟨u0_0, (⟨u0_1, (⟨u0_2, u0_3⟩ : StampM)⟩ : RegM), (⟨u0_4, u0_5⟩ : NumM), (⟨u0_6, u0_7⟩ : SetM), (⟨u0_8, u0_9⟩ : MapM)⟩ : ObjM) (toEff_m ((ix l s11).pl))).1).map).gone).length cr44 3 (((((oapply_m (⟨u0_0, (⟨u0_1, (⟨u0_2, u0_3⟩ : StampM)⟩ : RegM), (⟨u0_4, u0_5⟩ : NumM), (⟨u0_6, u0_7⟩ : SetM), (⟨u0_8, u0_9⟩ : MapM)⟩ : ObjM) (toEff_m ((ix l s11).pl))).1).map).gone).flatMap tagMC)) hr44
      have st : St X w49 [_, _, _, _, _] [_, _, _, _, _, _, _, _, _, _, _, _, _, _, _, _, _, _, _, _, _, _, _, _, _, _, _] := st
      refine ⟨(st.picks [0, 1, 2, 3] (by decide)).takeK 21, ?_⟩
      refine Px_y (i := 7) rfl (by kernel_rfl) (wtd0 rfl) rfl rfl (y_move rfl rfl) ?_
      refine Px_y (i := 8) rfl (by kernel_rfl) (wtd0 rfl) rfl rfl (y_ext rfl rfl rfl) ?_
      refine Px_y (i := 9) rfl (by kernel_rfl) (wtd0 rfl) rfl rfl (y_ext rfl rfl rfl) ?_
      refine Px_a (i := 11) (by kernel_rfl) rfl (wtd0 rfl) ?_
      refine Ssw 4 Ty.sz_40 st hF (.inr hg10) rfl fun w50 (st : St _ _ [_, _, _, _, _] _) hF => ?_
      refine ⟨(st.picks [0, 1, 2, 3] (by decide)).takeK 21, ?_⟩
      refine Px_str (fun W => St X W (hOf st) (kOf st)) (fun _ st => (st.picks [0, 1, 2, 3] (by decide)).takeK 21) st ?_
      refine Px_pl [(true, 12)] (by kernel_rfl) (by kernel_rfl) rfl ?_
      refine Py rfl (y_assign rfl rfl) (Pl_nil (Th_n (k32 _ _ (sq fun _ k41 => sq fun _ k42 => rg (Lm rfl (Ly rfl (yne rfl) (Ln k42 (cN rfl (fun hc14 => ?_) (fun hc14 => ?_)))))))))
      · refine Wp_exit (Th_e (Ib_hit (Th_n (k26 _ _ (rg (Lm rfl (Ly rfl (y_add (c := s11 + 1) rfl rfl rfl (wf_i64 (by first | omega | (simp; done) | (simp; omega)))) ?_)))))))
        refine Ls' rfl (Ls_nil (Th_n (?_)))
        exact ⟨fuel, [(1, _), (5, _), (7, _), (9, _), (10, _), (11, _)], Nat.lt_succ_self _, ⟨rfl, rfl, rfl, rfl, rfl, rfl, trivial⟩, s10, (s11 + 1), u0_0, u0_1, u0_2, u0_3, u0_4, u0_5, u0_6, u0_7, u0_8, u0_9, mg3, As10, cs10, sps10, Au0_6, cu0_6, Au0_7, cu0_7, Au0_8, cu0_8, Au0_9, cu0_9, es_mg3, cl_mg3, rfl, show _ < _ by first | omega | (simp; done) | (simp; omega), by first | exact hinv.skip (by omega) | (rw [List.map_append]; exact LI.step (e := toEff_m (ix l s11).pl) hinv (by omega) hk1 kb3 (by assumption) (by assumption)), hows10, news10, hmapmg3, (st.picks [0, 1, 2, 3] (by decide)).pickK [0, 1, 2, 3, 4, 5, 6, 7, 8, 9, 10, 11, 12, 13, 14, 15], hF⟩
      refine sk k41 (sq fun _ k43 => rg (Lm rfl (Lm rfl (Lm rfl (Ly rfl (y_ixa (q := s11) rfl rfl rfl Ty.es_22 (by first | omega | (simp; done) | (simp; omega)) (by first | omega | (simp; done) | (simp; omega))) ?_)))))
      refine Ly rfl (yf rfl Ty.fo_62_3) (Ly rfl (y_ldkm (q := s11) 3 rfl rfl Ty.ag_60 (fun _ e => e ▸ st.k (i := 0) rfl) (fun _ => rfl) (by first | omega | (simp; done) | (simp; omega)) (by first | omega | (simp; done) | (simp; omega)) rfl rfl) ?_)
      refine La rfl (a_mapupM (i := 2) (enc := (fun x : TagM => Value.agg (tagMC x).toArray)) (ev := (fun x : Bool => Value.bool x)) (k := (ix l s11).tag) (u := true) rfl rfl rfl rfl rfl Tryz.underlying44 kl_60 st.hp rfl hmapmg3 (fun es3 cl3 w51 hmap4 (hp : Hp w51 [_, _, _, _, _]) hf => ?_))
      have st : St X w51 [_, _, _, _, _] [_, _, _, _, _, _, _, _, _, _, _, _, _, _, _, _, _, _, _, _, _, _, _, _, _, _, _] := st.set (i := 2) rfl hp hf
      have st : St X w51 [_, _, _, _, _] [_, _, _, _, _, _, _, _, _, _, _, _, _, _, _, _, _, _, _, _, _, _, _, _, _, _, _] := st
      have hF := hF.step hf (by intro y hy; simp only [List.mem_cons, List.not_mem_nil, or_false] at hy; subst hy; first | (exact Or.inr (by omega)) | (exact Or.inl (kin0 _ _)) | (exact Or.inl (by simp)))
      refine Ln k43 (sq fun _ k44 => rg (Ly rfl (yw 4 Ty.ag_40 st rfl) (La rfl (Ssw 0 Ty.sz_40 st hF (.inr hg1) rfl fun w52 (st : St _ _ [_, _, _, _, _] _) hF => Ln k44 (rg (Lm rfl (Lm rfl (Lm rfl (Ly rfl (y_ixa (q := s11) rfl rfl rfl Ty.es_22 (by first | omega | (simp; done) | (simp; omega)) (by first | omega | (simp; done) | (simp; omega))) ?_)))))))))
      refine Ly rfl (y_ldk (q := s11) rfl rfl Ty.ag_62 (fun _ e => e ▸ st.k (i := 0) rfl) (fun _ => rfl) (by first | omega | (simp; done) | (simp; omega)) (by first | omega | (simp; done) | (simp; omega))) ?_
      have st := st.addK (kS ((ix l s11).tags.A) ((ix l s11).tags.l.length) ((ix l s11).tags.c) 3 (((ix l s11).tags.l).flatMap tagMC)) (okEffectMH_0 ((st.kall (i := 1) rfl) _ (ix_mem (by first | omega | (simp; done) | (simp; omega)) (by first | omega | (simp; done) | (simp; omega)))))
      have z63 := (st.q 27 rfl).le
      have st : St X _ [_, _, _, _, _] [_, _, _, _, _, _, _, _, _, _, _, _, _, _, _, _, _, _, _, _, _, _, _, _, _, _, _, _] := st
      refine La rfl (a_call rfl rfl rfl rfl (toEff_ok (keys (hOf st) ++ X) _ st.Lo ((ix l s11).pl) ((ix l s11).tags.A) ((ix l s11).tags.c) (st.q 27 rfl) (by first | omega | exact Nat.le_trans kb1 (by decide))) (fun v w53 ⟨Ar45, cr45, hv, hr45, hf⟩ => ?_))
      subst hv
      have st := st.keep0 hf
      have hF := hF.step0 hf
      have z37 := Sld.le hr45
      have st := st.addK (kS Ar45 ((toEff_m ((ix l s11).pl)).tags).length cr45 3 (((toEff_m ((ix l s11).pl)).tags).flatMap tagMC)) hr45
      have st : St X w53 [_, _, _, _, _] [_, _, _, _, _, _, _, _, _, _, _, _, _, _, _, _, _, _, _, _, _, _, _, _, _, _, _, _, _] := st
      refine La rfl (Sb (enc := effectMHC) (⟨(toEff_m ((ix l s11).pl)).act, (toEff_m ((ix l s11).pl)).name, (toEff_m ((ix l s11).pl)).val, (⟨(⟨((toEff_m ((ix l s11).pl)).tag).id.origin, ((toEff_m ((ix l s11).pl)).tag).id.seq⟩ : IdM), ((toEff_m ((ix l s11).pl)).tag).n⟩ : TagM), (⟨((toEff_m ((ix l s11).pl)).atF).time, ((toEff_m ((ix l s11).pl)).atF).origin⟩ : StampM), ⟨Ar45, cr45, (toEff_m ((ix l s11).pl)).tags⟩⟩ : EffectMH) Ty.es_45 Ty.zc_64 (fun _ => rfl) st hF rfl fun g11 w54 how6 hnew6 (st : St _ _ [_, _, _, _, _, _] _) hF => ?_)
      have st := st.addK (kAll efEffectMH [(⟨(toEff_m ((ix l s11).pl)).act, (toEff_m ((ix l s11).pl)).name, (toEff_m ((ix l s11).pl)).val, (⟨(⟨((toEff_m ((ix l s11).pl)).tag).id.origin, ((toEff_m ((ix l s11).pl)).tag).id.seq⟩ : IdM), ((toEff_m ((ix l s11).pl)).tag).n⟩ : TagM), (⟨((toEff_m ((ix l s11).pl)).atF).time, ((toEff_m ((ix l s11).pl)).atF).origin⟩ : StampM), ⟨Ar45, cr45, (toEff_m ((ix l s11).pl)).tags⟩⟩ : EffectMH)]) (kAll_one (okEffectMH_mk (st.q 28 rfl)))
      have st : St X _ [_, _, _, _, _, _] [_, _, _, _, _, _, _, _, _, _, _, _, _, _, _, _, _, _, _, _, _, _, _, _, _, _, _, _, _, _] := st
      refine La rfl (Sap (enc := effectMHC) s10 [(⟨(toEff_m ((ix l s11).pl)).act, (toEff_m ((ix l s11).pl)).name, (toEff_m ((ix l s11).pl)).val, (⟨(⟨((toEff_m ((ix l s11).pl)).tag).id.origin, ((toEff_m ((ix l s11).pl)).tag).id.seq⟩ : IdM), ((toEff_m ((ix l s11).pl)).tag).n⟩ : TagM), (⟨((toEff_m ((ix l s11).pl)).atF).time, ((toEff_m ((ix l s11).pl)).atF).origin⟩ : StampM), ⟨Ar45, cr45, (toEff_m ((ix l s11).pl)).tags⟩⟩ : EffectMH)] 3 Ty.es_45 Ty.zc_64 Ty.by_64 (fun _ => rfl) effectMHC_1 hows10 news10 st hF (own_src (i := 5) st.hp rfl how6) (own_none how6) rfl (by first | omega | (simp; done) | (simp; omega)) (by first | omega | (simp; done) | (simp; omega)) fun Aa3 ca3 sp3 w55 how7 hnew7 (st : St _ _ [_, _, _, _, _, _] _) hF => ?_)
      have st := st.addK (kAll efEffectMH (s10 ++ [(⟨(toEff_m ((ix l s11).pl)).act, (toEff_m ((ix l s11).pl)).name, (toEff_m ((ix l s11).pl)).val, (⟨(⟨((toEff_m ((ix l s11).pl)).tag).id.origin, ((toEff_m ((ix l s11).pl)).tag).id.seq⟩ : IdM), ((toEff_m ((ix l s11).pl)).tag).n⟩ : TagM), (⟨((toEff_m ((ix l s11).pl)).atF).time, ((toEff_m ((ix l s11).pl)).atF).origin⟩ : StampM), ⟨Ar45, cr45, (toEff_m ((ix l s11).pl)).tags⟩⟩ : EffectMH)])) (kAll_app (st.kall (i := 11) rfl) (st.kall (i := 29) rfl))
      have st : St X _ [_, _, _, _, _, _] [_, _, _, _, _, _, _, _, _, _, _, _, _, _, _, _, _, _, _, _, _, _, _, _, _, _, _, _, _, _, _] := st
      refine Ls' rfl (Ls_nil (Ib_n (Th_n (k26 _ _ (rg (Lm rfl (Ly rfl (y_add (c := s11 + 1) rfl rfl rfl (wf_i64 (by first | omega | (simp; done) | (simp; omega)))) ?_)))))))
      refine Ls' rfl (Ls_nil (Th_n (?_)))
      exact ⟨fuel, [(1, _), (5, _), (7, _), (9, _), (10, _), (11, _)], Nat.lt_succ_self _, ⟨rfl, rfl, rfl, rfl, rfl, rfl, trivial⟩, (s10 ++ [(⟨(toEff_m ((ix l s11).pl)).act, (toEff_m ((ix l s11).pl)).name, (toEff_m ((ix l s11).pl)).val, (⟨(⟨((toEff_m ((ix l s11).pl)).tag).id.origin, ((toEff_m ((ix l s11).pl)).tag).id.seq⟩ : IdM), ((toEff_m ((ix l s11).pl)).tag).n⟩ : TagM), (⟨((toEff_m ((ix l s11).pl)).atF).time, ((toEff_m ((ix l s11).pl)).atF).origin⟩ : StampM), ⟨Ar45, cr45, (toEff_m ((ix l s11).pl)).tags⟩⟩ : EffectMH)]), (s11 + 1), (((oapply_m (⟨u0_0, (⟨u0_1, (⟨u0_2, u0_3⟩ : StampM)⟩ : RegM), (⟨u0_4, u0_5⟩ : NumM), (⟨u0_6, u0_7⟩ : SetM), (⟨u0_8, u0_9⟩ : MapM)⟩ : ObjM) (toEff_m ((ix l s11).pl))).1).kind), ((((oapply_m (⟨u0_0, (⟨u0_1, (⟨u0_2, u0_3⟩ : StampM)⟩ : RegM), (⟨u0_4, u0_5⟩ : NumM), (⟨u0_6, u0_7⟩ : SetM), (⟨u0_8, u0_9⟩ : MapM)⟩ : ObjM) (toEff_m ((ix l s11).pl))).1).reg).val), ((((oapply_m (⟨u0_0, (⟨u0_1, (⟨u0_2, u0_3⟩ : StampM)⟩ : RegM), (⟨u0_4, u0_5⟩ : NumM), (⟨u0_6, u0_7⟩ : SetM), (⟨u0_8, u0_9⟩ : MapM)⟩ : ObjM) (toEff_m ((ix l s11).pl))).1).reg).atF.time), ((((oapply_m (⟨u0_0, (⟨u0_1, (⟨u0_2, u0_3⟩ : StampM)⟩ : RegM), (⟨u0_4, u0_5⟩ : NumM), (⟨u0_6, u0_7⟩ : SetM), (⟨u0_8, u0_9⟩ : MapM)⟩ : ObjM) (toEff_m ((ix l s11).pl))).1).reg).atF.origin), ((((oapply_m (⟨u0_0, (⟨u0_1, (⟨u0_2, u0_3⟩ : StampM)⟩ : RegM), (⟨u0_4, u0_5⟩ : NumM), (⟨u0_6, u0_7⟩ : SetM), (⟨u0_8, u0_9⟩ : MapM)⟩ : ObjM) (toEff_m ((ix l s11).pl))).1).num).plus), ((((oapply_m (⟨u0_0, (⟨u0_1, (⟨u0_2, u0_3⟩ : StampM)⟩ : RegM), (⟨u0_4, u0_5⟩ : NumM), (⟨u0_6, u0_7⟩ : SetM), (⟨u0_8, u0_9⟩ : MapM)⟩ : ObjM) (toEff_m ((ix l s11).pl))).1).num).minus), ((((oapply_m (⟨u0_0, (⟨u0_1, (⟨u0_2, u0_3⟩ : StampM)⟩ : RegM), (⟨u0_4, u0_5⟩ : NumM), (⟨u0_6, u0_7⟩ : SetM), (⟨u0_8, u0_9⟩ : MapM)⟩ : ObjM) (toEff_m ((ix l s11).pl))).1).setF).adds), ((((oapply_m (⟨u0_0, (⟨u0_1, (⟨u0_2, u0_3⟩ : StampM)⟩ : RegM), (⟨u0_4, u0_5⟩ : NumM), (⟨u0_6, u0_7⟩ : SetM), (⟨u0_8, u0_9⟩ : MapM)⟩ : ObjM) (toEff_m ((ix l s11).pl))).1).setF).gone), ((((oapply_m (⟨u0_0, (⟨u0_1, (⟨u0_2, u0_3⟩ : StampM)⟩ : RegM), (⟨u0_4, u0_5⟩ : NumM), (⟨u0_6, u0_7⟩ : SetM), (⟨u0_8, u0_9⟩ : MapM)⟩ : ObjM) (toEff_m ((ix l s11).pl))).1).map).puts), ((((oapply_m (⟨u0_0, (⟨u0_1, (⟨u0_2, u0_3⟩ : StampM)⟩ : RegM), (⟨u0_4, u0_5⟩ : NumM), (⟨u0_6, u0_7⟩ : SetM), (⟨u0_8, u0_9⟩ : MapM)⟩ : ObjM) (toEff_m ((ix l s11).pl))).1).map).gone), (mset mg3 ((ix l s11).tag) true), Aa3, ca3, sp3, Ar41, cr41, Ar42, cr42, Ar43, cr43, Ar44, cr44, es3, cl3, rfl, show _ < _ by first | omega | (simp; done) | (simp; omega), by first | exact hinv.skip (by omega) | (rw [List.map_append]; exact LI.step (e := toEff_m (ix l s11).pl) hinv (by omega) hk1 kb3 (by assumption) (by assumption)), how7, hnew7, hmap4, (st.picks [0, 1, 2, 3] (by decide)).pickK [0, 1, 2, 3, 4, 5, 6, 7, 8, 9, 10, 30, 23, 24, 25, 26], hF⟩
    refine Wp_exit (Th_e (Th_e (Ib_hit (Th_n (?_)))))
    exact hout1 _ [(1, _), (5, _), (7, _), (9, _), (10, _), (11, _)] _ ⟨rfl, rfl, rfl, rfl, rfl, rfl, trivial⟩ ⟨s10, s11, u0_0, u0_1, u0_2, u0_3, u0_4, u0_5, u0_6, u0_7, u0_8, u0_9, mg3, As10, cs10, sps10, Au0_6, cu0_6, Au0_7, cu0_7, Au0_8, cu0_8, Au0_9, cu0_9, es_mg3, cl_mg3, rfl, trivial, by exact hinv, hows10, news10, hmapmg3, (st.picks [0, 1, 2, 3] (by decide)).pickK [0, 1, 2, 3, 4, 5, 6, 7, 8, 9, 10, 11, 12, 13, 14, 15], hF⟩
  refine LsF rfl (LsF rfl (Ly rfl (yF rfl) (Ln k25 (Wp_cond_f rfl (Wp_exit (Th_e (Th_e (Ib_hit (Th_n (?_))))))))))
  exact hout1 _ [(1, _), (5, _), (7, _), (9, _), (10, _), (11, _)] _ ⟨rfl, rfl, rfl, rfl, rfl, rfl, trivial⟩ ⟨s10, s11, u0_0, u0_1, u0_2, u0_3, u0_4, u0_5, u0_6, u0_7, u0_8, u0_9, mg3, As10, cs10, sps10, Au0_6, cu0_6, Au0_7, cu0_7, Au0_8, cu0_8, Au0_9, cu0_9, es_mg3, cl_mg3, rfl, trivial, by exact hinv, hows10, news10, hmapmg3, (st.picks [0, 1, 2, 3] (by decide)).pickK [0, 1, 2, 3, 4, 5, 6, 7, 8, 9, 10, 11, 12, 13, 14, 15], hF⟩

end Go.Proofs.YtngofknckkiboaaGreatDoor

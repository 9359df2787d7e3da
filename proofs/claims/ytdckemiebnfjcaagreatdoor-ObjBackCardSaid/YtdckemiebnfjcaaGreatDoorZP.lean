/- Walks printed by gen2.py out of our own specifications: what the functions named below do. -/
import Derived.Test.YtdckemiebnfjcaaGreatDoorSc
import Derived.Test.YtdckemiebnfjcaaGreatDoorZ11
set_option linter.unusedSimpArgs false
set_option linter.unusedVariables false
set_option maxRecDepth 20000
namespace Go.Proofs.YtdckemiebnfjcaaGreatDoor
open Go.RowKit
theorem ix_get {α : Type} [Inhabited α] (l : List α) {j : Int} (h0 : 0 ≤ j) (h1 : j < l.length) : l.drop j.toNat = ix l j :: l.drop (j + 1).toNat := by
  have hl : j.toNat < l.length := by omega
  rw [List.drop_eq_getElem_cons hl, show (j + 1).toNat = j.toNat + 1 by omega]
  unfold ix; rw [List.getElem?_eq_getElem hl]; rfl
theorem take_set_succ {α : Type} (l : List α) {i : Int} (v : α) (h0 : 0 ≤ i) (h1 : i < l.length) : (l.set i.toNat v).take (i + 1).toNat = l.take i.toNat ++ [v] := by
  have hl : i.toNat < l.length := by omega
  rw [show (i + 1).toNat = i.toNat + 1 by omega, List.take_add_one, List.take_set_of_le (Nat.le_refl _), List.getElem?_set_self hl]; rfl
theorem drop_set_lt {α : Type} (l : List α) {i j : Int} (v : α) (h0 : 0 ≤ i) (h : i < j) : (l.set i.toNat v).drop j.toNat = l.drop j.toNat := List.drop_set_of_lt (by omega)
theorem deleteF_L1_spec {α : Type} [Inhabited α] [DecidableEq α] (s : List α) (del : α → Bool) : ∀ (fuel : Nat) (i j : Int) (r : List α), 0 ≤ i → i < j → j ≤ s.length → r.length = s.length → ((s.length : Int) - j).toNat < fuel →
    ∃ i' r' j', deleteF_L1 s del fuel i j r = .inr (i', j', r') ∧ r'.length = s.length ∧ 0 ≤ i' ∧ i' ≤ s.length ∧ r'.take i'.toNat = r.take i.toNat ++ (r.drop j.toNat).filter (fun x => !del x)
  | 0, i, j, r, _, _, _, _, h => by omega
  | fuel + 1, i, j, r, h0, h1, h2, hr, h => by
    unfold deleteF_L1
    split
    · rename_i hj
      have hd := ix_get r (j := j) (by omega) (by omega)
      split
      · rename_i hdel
        obtain ⟨i', r', j', a, b, c, c2, d⟩ := deleteF_L1_spec s del fuel i (j + 1) r h0 (by omega) (by omega) hr (by omega)
        refine ⟨i', r', j', a, b, c, c2, ?_⟩
        rw [d, hd, List.filter_cons_of_neg (by simp [hdel])]
      · rename_i hdel
        obtain ⟨i', r', j', a, b, c, c2, d⟩ := deleteF_L1_spec s del fuel (i + 1) (j + 1) (r.set i.toNat (ix r j)) (by omega) (by omega) (by omega) (by simpa using hr) (by omega)
        refine ⟨i', r', j', a, b, c, c2, ?_⟩
        rw [d, take_set_succ r _ h0 (by omega), drop_set_lt r _ h0 (by omega), hd, List.filter_cons_of_pos (by simpa using hdel)]
        simp
    · have : j = s.length := by omega
      subst this
      refine ⟨i, r, _, rfl, hr, h0, by omega, ?_⟩
      rw [List.drop_of_length_le (by omega)]; simp
theorem deleteF_eq {α : Type} [Inhabited α] [DecidableEq α] (s : List α) (del : α → Bool) : deleteF_m s del = s.filter (fun x => !del x) := by
  unfold deleteF_m
  rcases indexF_cases s del with ⟨a, b, c, d⟩ | ⟨a, b⟩
  · rw [if_neg (by omega)]
    obtain ⟨i', r', j', e1, e2, e3, e4, e5⟩ := deleteF_L1_spec s del (((s.length : Int) - (indexF_m s del + 1)).toNat + 1) (indexF_m s del) (indexF_m s del + 1) s a (by omega) (by omega) rfl (by omega)
    rw [e1]
    simp only
    rw [List.take_append_of_le_length (by rw [List.length_take]; omega), List.take_take, Nat.min_self, e5]
    have hs : s = s.take (indexF_m s del).toNat ++ ix s (indexF_m s del) :: s.drop (indexF_m s del + 1).toNat := by
      rw [← ix_get s a b, List.take_append_drop]
    have h1 : (s.take (indexF_m s del).toNat).filter (fun x => !del x) = s.take (indexF_m s del).toNat := by
      rw [List.filter_eq_self]
      intro x hx
      obtain ⟨k, hk⟩ := List.getElem?_of_mem hx
      rw [List.getElem?_take] at hk
      split at hk
      · rename_i hlt
        have := d (k : Int) (by omega) (by omega)
        unfold ix at this
        rw [Int.toNat_natCast, hk] at this
        simpa using this
      · cases hk
    generalize hk : indexF_m s del = k at *
    have h2 : s.filter (fun x => !del x) = (s.take k.toNat ++ ix s k :: s.drop (k + 1).toNat).filter (fun x => !del x) := by rw [← hs]
    rw [h2, List.filter_append, h1, List.filter_cons_of_neg (by simp [c])]
  · rw [if_pos a]
    symm
    rw [List.filter_eq_self]
    intro x hx
    obtain ⟨k, hk⟩ := List.getElem?_of_mem hx
    have hl : k < s.length := (List.getElem?_eq_some_iff.1 hk).1
    have := b (k : Int) (by omega) (by omega)
    unfold ix at this
    rw [Int.toNat_natCast, hk] at this
    simpa using this
def mof1_m (p : PutM) (field : List UInt8) : Bool :=
  p.field != field
theorem mof1_ok (X : List Nat) (w : World) (p : PutM) (g2 : Nat) (field : List UInt8) (hs : St X w [(some g2, Cl [sv field] 9)] []) :
    Fn Tryz.prog 116 [.agg (putMC p).toArray, .pointer (some ⟨g2, 0, none⟩)] w fun v w' => v = .bool (mof1_m p field) ∧ Fr [] w w' := by
  refine Fn_of 8 Ty.en_116 Tryz.func116 rfl rfl rfl ?_
  dsimp only [argEnv]
  have hs0 := hs
  have st : St X w [(some g2, Cl [sv field] 9)] [] := hs
  have hF := Fr.refl ([]) w
  refine sq fun _ k1 => rg (La rfl (Sbx st hF rfl fun g1 w1 (st : St _ _ [_, _] _) hF hg1 => Ls' rfl (Ln k1 (sq fun _ k2 => rg (Ly rfl (yf rfl Ty.fo_131_1) (Ly rfl (yl 1 Ty.pl_9 st rfl) (Ly rfl (yl 0 Ty.pl_9 st rfl) (Ly rfl (y_nes rfl rfl rfl) (Ls' rfl (Ln k2 (wR (fR (Res1 rfl rfl) ?_))))))))))))
  unfold mof1_m
  exact ⟨rfl, hF⟩
def mof_m (s : MapM) (field : List UInt8) : (List PutM) :=
  if (mcheck_m s) = 0 then
    deleteF_m (clonePut_m s.puts) (fun x0 => mof1_m x0 field)
  else
    ([] : List PutM)
theorem mof_ok (X : List Nat) (w : World) (hX : Lo X w) (s : MapM) (A2 : Option Addr) (C2 : Nat) (A1 : Option Addr) (C1 : Nat) (field : List UInt8) (z4 : Sld X w A2 s.puts.length C2 7 (s.puts.flatMap putMC)) (z3 : Sld X w A1 s.gone.length C1 3 (s.gone.flatMap tagMC)) (h1 : s.puts.length ≤ 1000000) (h2 : s.gone.length ≤ 1000000) :
    Fn Tryz.prog 66 [.agg #[.slice A2 s.puts.length C2, .slice A1 s.gone.length C1], sv field] w fun v w' => ∃ (Ar : Option Addr) (cr : Nat), v = .slice Ar (mof_m s field).length cr ∧ Sld X w' Ar (mof_m s field).length cr 7 ((mof_m s field).flatMap putMC) ∧ Fr [] w w' := by
  refine Fn_of 13 Ty.en_66 Tryz.func66 rfl rfl rfl ?_
  dsimp only [argEnv]
  have st := stn2 hX z4 z3
  have hF := Fr.refl ([]) w
  have z2 := (st.q 0 rfl).le
  have z1 := (st.q 1 rfl).le
  refine sq fun _ k1 => rg (La rfl (Sbx st hF rfl fun g1 w1 (st : St _ _ [_] _) hF hg1 => La rfl (Sb1 st hF rfl fun g2 w2 (st : St _ _ [_, _] _) hF hg2 => Ls' rfl (Ln k1 (sq fun _ k2 => sq fun _ k3 => rg (Ly rfl (yw 0 Ty.ag_55 st rfl) (La rfl (Scl st hF rfl (mcheck_ok (keys (hOf st) ++ X) _ st.Lo s A2 C2 A1 C1 (st.q 0 rfl) (st.q 1 rfl) h1 h2) fun w3 st hF => Ly rfl (yne rfl) (Ln k3 (cN rfl (fun hc1 => ?_) (fun hc1 => ?_)))))))))))
  · refine sq fun _ k4 => rg (Ls' rfl (Ln k4 ?_))
    have st := st.aN 7
    refine wR (Th_r (fR (Res1 rfl rfl) ?_))
    unfold mof_m; rewrite [iN hc1]
    exact ⟨_, _, rfl, st.ot 2 rfl, hF⟩
  refine sk k2 (sq fun _ k5 => rg (Ly rfl (yf rfl Ty.fo_55_0) (Ly rfl (yl 0 Ty.pl_53 st rfl) (La rfl (a_call rfl rfl rfl rfl (clonePut_ok (keys (hOf st) ++ X) _ st.Lo s.puts A2 C2 (st.q 0 rfl) h1) (fun v w4 ⟨Ao1, co1, spo1, hv, how1, hN1, hfO1, hkc1⟩ => ?_))))))
  subst hv
  have hnew1 : ∀ g, blkOf Ao1 = some g → g ∈ ([]) ∨ w.heap.size ≤ g := fun g hg => (hkc1 g (by simp [keys, hg])).elim (fun h => by simp at h) (fun h => .inr (Nat.le_trans hF.size h))
  have st := st.callN hN1 hfO1 (fun k hk => (hkc1 k hk).elim (fun h => by simp at h) id)
  have hF := hF.step0 hfO1
  have z5 := Ow.le how1
  have st : St X w4 [_, _, _] [_, _] := st
  refine Ly rfl (y_mkfn rfl rfl rfl) (La rfl (a_call rfl rfl rfl rfl (deletePut_ok (keys (pickL (hOf st) [0, 1]) ++ X) _ (clonePut_m s.puts) Ao1 co1 spo1 (.func (.func 116) #[] #[.pointer (some ⟨g2, 0, none⟩)]) (fun x0 => mof1_m x0 field) (st.sub [0, 1] [2] [] (by decide)) how1 (fun w1 x0 hw => FnV.ofc [.pointer (some ⟨g2, 0, none⟩)] (mof1_ok (keys (pickL (hOf st) [0, 2]) ++ X) w1 x0 g2 field ((st.sub [0, 2] [1] [] (by decide)).other hw (fun y hy => List.mem_append_left _ (keys_in (i := 2) (j := 1) (hOf st) [0, 2] rfl rfl hy))) ))) (fun v w5 ⟨Ao2, co2, spo2, hv, how2, hN2, hfO2, hkc2⟩ => ?_)))
  subst hv
  have hnew2 : ∀ g, blkOf Ao2 = some g → g ∈ ([]) ∨ w.heap.size ≤ g := fun g hg => (hkc2 g (by simp [keys, hg])).elim (fun h => (kc_b hnew1 (kc_n)) g h) (fun h => .inr (Nat.le_trans hF.size h))
  have st := st.callS [0, 1] [2] (by decide) rfl hN2 hfO2 hkc2
  have hF := hF.step hfO2 (kc_b hnew1 (kc_n))
  have z6 := Ow.le how2
  have st : St X w5 [_, _, _] [_, _] := st
  refine Ls' rfl (Ln k5 ?_)
  have st : St X w5 [_, _] [_, _, _] := st.freeze (i := 2) [0, 1] (by decide) rfl how2 (by decide)
  refine wR (fR (Res1 rfl rfl) ?_)
  unfold mof_m; rewrite [iP hc1]
  exact ⟨_, _, rfl, st.ot 2 rfl, hF⟩
theorem mof_len (s : MapM) (field : List UInt8) : (mof_m s field).length ≤ s.puts.length := by
  unfold mof_m
  split
  · rw [deleteF_eq]; exact List.length_filter_le _ _
  · simp
def mTags_m (s : MapM) (field : List UInt8) : (List TagM) :=
  mtags_m (mof_m s field)
theorem mTags_ok (X : List Nat) (w : World) (hX : Lo X w) (s : MapM) (A2 : Option Addr) (C2 : Nat) (A1 : Option Addr) (C1 : Nat) (field : List UInt8) (z4 : Sld X w A2 s.puts.length C2 7 (s.puts.flatMap putMC)) (z3 : Sld X w A1 s.gone.length C1 3 (s.gone.flatMap tagMC)) (h1 : s.puts.length ≤ 1000000) (h2 : s.gone.length ≤ 1000000) :
    Fn Tryz.prog 30 [.agg #[.slice A2 s.puts.length C2, .slice A1 s.gone.length C1], sv field] w fun v w' => ∃ (Ar : Option Addr) (cr : Nat), v = .slice Ar (mTags_m s field).length cr ∧ Sld X w' Ar (mTags_m s field).length cr 3 ((mTags_m s field).flatMap tagMC) ∧ Fr [] w w' := by
  refine Fn_of 9 Ty.en_30 Tryz.func30 rfl rfl rfl ?_
  dsimp only [argEnv]
  have st := stn2 hX z4 z3
  have hF := Fr.refl ([]) w
  have z2 := (st.q 0 rfl).le
  have z1 := (st.q 1 rfl).le
  refine sq fun _ k1 => rg (La rfl (Sbx st hF rfl fun g1 w1 (st : St _ _ [_] _) hF hg1 => Ls' rfl (Ln k1 (sq fun _ k2 => rg (Ly rfl (yw 0 Ty.ag_55 st rfl) (Lm rfl (La rfl (a_call rfl rfl rfl rfl (mof_ok (keys (hOf st) ++ X) _ st.Lo s A2 C2 A1 C1 field (st.q 0 rfl) (st.q 1 rfl) h1 h2) (fun v w2 ⟨Ar1, cr1, hv, hr1, hf⟩ => ?_)))))))))
  subst hv
  have st := st.keep0 hf
  have hF := hF.step0 hf
  have z5 := Sld.le hr1
  have st := st.addK (kS Ar1 (mof_m s field).length cr1 7 ((mof_m s field).flatMap putMC)) hr1
  have st : St X w2 [_] [_, _, _] := st
  refine La rfl (a_call rfl rfl rfl rfl (mtags_ok (keys (hOf st) ++ X) _ st.Lo (mof_m s field) Ar1 cr1 (st.q 2 rfl) (Nat.le_trans (mof_len s field) h1)) (fun v w3 ⟨Ar2, cr2, hv, hr2, hf⟩ => ?_))
  subst hv
  have st := st.keep0 hf
  have hF := hF.step0 hf
  have z6 := Sld.le hr2
  have st := st.addK (kS Ar2 (mtags_m (mof_m s field)).length cr2 3 ((mtags_m (mof_m s field)).flatMap tagMC)) hr2
  have st : St X w3 [_] [_, _, _, _] := st
  refine Ls' rfl (Ln k2 (wR (fR (Res1 rfl rfl) ?_)))
  unfold mTags_m
  exact ⟨_, _, rfl, st.ot 3 rfl, hF⟩
def oprepare_m (s : ObjM) (o : OpM) (tag : TagM) (at_ : StampM) : EffectM × Int :=
  if (ocheckOp_m o) = 0 then
    if (okind_m o.act) = s.kind then
      if (bnotTag_m tag) = true then
        ((⟨0, [], 0, (⟨(⟨0, 0⟩ : IdM), 0⟩ : TagM), (⟨0, 0⟩ : StampM), ([] : List TagM)⟩ : EffectM), 2)
      else
        if (otimed_m at_) = true then
          if o.act = 1 then
            ((⟨o.act, o.name, o.val, tag, at_, ([] : List TagM)⟩ : EffectM), 0)
          else
            if o.act = 5 then
              ((⟨o.act, o.name, o.val, tag, at_, ([] : List TagM)⟩ : EffectM), 0)
            else
              if o.act = 4 then
                ((⟨o.act, o.name, o.val, tag, (⟨0, 0⟩ : StampM), oTags_m s.setF o.name⟩ : EffectM), 0)
              else
                if o.act = 6 then
                  ((⟨o.act, o.name, o.val, tag, (⟨0, 0⟩ : StampM), mTags_m s.map o.name⟩ : EffectM), 0)
                else
                  ((⟨o.act, o.name, o.val, tag, (⟨0, 0⟩ : StampM), ([] : List TagM)⟩ : EffectM), 0)
        else
          ((⟨0, [], 0, (⟨(⟨0, 0⟩ : IdM), 0⟩ : TagM), (⟨0, 0⟩ : StampM), ([] : List TagM)⟩ : EffectM), 3)
    else
      ((⟨0, [], 0, (⟨(⟨0, 0⟩ : IdM), 0⟩ : TagM), (⟨0, 0⟩ : StampM), ([] : List TagM)⟩ : EffectM), 5)
  else
    ((⟨0, [], 0, (⟨(⟨0, 0⟩ : IdM), 0⟩ : TagM), (⟨0, 0⟩ : StampM), ([] : List TagM)⟩ : EffectM), ocheckOp_m o)
theorem oprepare_ok (X : List Nat) (w : World) (hX : Lo X w) (s : ObjM) (A1 : Option Addr) (C1 : Nat) (A2 : Option Addr) (C2 : Nat) (A4 : Option Addr) (C4 : Nat) (A3 : Option Addr) (C3 : Nat) (o : OpM) (tag : TagM) (at_ : StampM) (z5 : Sld X w A1 s.setF.adds.length C1 4 (s.setF.adds.flatMap addMC)) (z6 : Sld X w A2 s.setF.gone.length C2 3 (s.setF.gone.flatMap tagMC)) (z8 : Sld X w A4 s.map.puts.length C4 7 (s.map.puts.flatMap putMC)) (z7 : Sld X w A3 s.map.gone.length C3 3 (s.map.gone.flatMap tagMC)) (h1 : s.setF.adds.length ≤ 1000000) (h2 : s.setF.gone.length ≤ 1000000) (h3 : s.map.puts.length ≤ 1000000) (h4 : s.map.gone.length ≤ 1000000) :
    Fn Tryz.prog 7 [.agg #[.int .i64 s.kind, .int .i64 s.reg.val, .int .u32 s.reg.atF.time, .int .i64 s.reg.atF.origin, .int .i64 s.num.plus, .int .i64 s.num.minus, .slice A1 s.setF.adds.length C1, .slice A2 s.setF.gone.length C2, .slice A4 s.map.puts.length C4, .slice A3 s.map.gone.length C3], .agg (opMC o).toArray, .agg (tagMC tag).toArray, .agg (stampMC at_).toArray] w fun v w' => ∃ (A5 : Option Addr) (C5 : Nat), v = .tuple #[.agg #[.int .i64 (((oprepare_m s o tag at_).1).act), sv (((oprepare_m s o tag at_).1).name), .int .i64 (((oprepare_m s o tag at_).1).val), .int .i64 ((((oprepare_m s o tag at_).1).tag).id.origin), .int .u32 ((((oprepare_m s o tag at_).1).tag).id.seq), .int .i64 ((((oprepare_m s o tag at_).1).tag).n), .int .u32 ((((oprepare_m s o tag at_).1).atF).time), .int .i64 ((((oprepare_m s o tag at_).1).atF).origin), .slice A5 (((oprepare_m s o tag at_).1).tags).length C5], .int .i64 ((oprepare_m s o tag at_).2)] ∧ Sld X w' A5 (((oprepare_m s o tag at_).1).tags).length C5 3 ((((oprepare_m s o tag at_).1).tags).flatMap tagMC) ∧ Fr [] w w' := by
  refine Fn_of 67 Ty.en_7 Tryz.func7 rfl rfl rfl ?_
  dsimp only [argEnv]
  have st := stn4 hX z5 z6 z8 z7
  have hF := Fr.refl ([]) w
  have z1 := (st.q 0 rfl).le
  have z2 := (st.q 1 rfl).le
  have z4 := (st.q 2 rfl).le
  have z3 := (st.q 3 rfl).le
  refine sq fun _ k1 => rg (La rfl (Sbx st hF rfl fun g1 w1 (st : St _ _ [_] _) hF hg1 => La rfl (Sbx st hF rfl fun g2 w2 (st : St _ _ [_, _] _) hF hg2 => La rfl (Sbx st hF rfl fun g3 w3 (st : St _ _ [_, _, _] _) hF hg3 => La rfl (Sbx st hF rfl fun g4 w4 (st : St _ _ [_, _, _, _] _) hF hg4 => La rfl (Sal Ty.zc_59 st hF rfl fun g5 w5 (st : St _ _ [_, _, _, _, _] _) hF hg5 => Ls' rfl (Ln k1 (sq fun _ k2 => sq fun _ k3 => rg (Ly rfl (yw 1 Ty.ag_63 st rfl) (La rfl (Scl st hF rfl (ocheckOp_ok _ o) fun w6 st hF => Ls' rfl (Ln k3 (sq fun _ k4 => rg (Lm rfl (Ly rfl (yne rfl) (Ln k4 (cN rfl (fun hc1 => ?_) (fun hc1 => ?_))))))))))))))))))
  · refine sq fun _ k5 => rg (Ly rfl (y_build (cells := [_, _, _, _, _, _, _, _, _]) rfl rfl Ty.zc_59 Ty.ps_59 rfl) (Lm rfl (La rfl (Ssw 4 Ty.sz_59 st hF (.inr hg5) rfl fun w7 (st : St _ _ [_, _, _, _, _] _) hF => Ls' rfl (Ln k5 ?_)))))
    have st := st.aN 3
    refine wR (Th_r (fR (ResN2 rfl (rvc (i := 4) rfl Ty.ag_59 st.hp rfl rfl) rfl) ?_))
    unfold oprepare_m; rewrite [iN hc1]
    exact ⟨_, _, rfl, st.ot 4 rfl, hF⟩
  refine sk k2 (sq fun _ k6 => Wp_block (sq fun _ k7 => ?_))
  refine Wp_plan (fun W => St X W (pickL (hOf st) [0, 1, 2, 3, 4]) (kOf st)) [(true, 0), (true, 1), (true, 3), (true, 4), (false, 2), (true, 5), (true, 6)] Ty.mx_0 (by kernel_rfl) (by kernel_rfl) rfl ((st.pk [0, 1, 2, 3, 4] (by decide)).drew) ?_
  have st := st.drew
  have hF := hF.step0 (Fr.drew _)
  refine Py rfl (yf rfl Ty.fo_63_0) (Py rfl (y_load (i := 1) rfl rfl Ty.pl_3 (fun _ h => h.hp) rfl rfl) (Py rfl (yf rfl Ty.fo_57_0) (Py rfl (y_load (i := 0) rfl rfl Ty.pl_3 (fun _ h => h.hp) rfl rfl) (Pl_a rfl (wtd0 rfl) (by rfl) ?_))))
  refine Scl st hF rfl (okind_ok _ o.act) fun w8 st hF => ?_
  refine ⟨(st.pk [0, 1, 2, 3, 4] (by decide)).tK 4, ?_⟩
  refine Py rfl (yne rfl) (Py rfl (y_assign rfl rfl) (Pl_nil (Th_n (k7 _ _ (cN rfl (fun hc2 => ?_) (fun hc2 => ?_))))))
  · refine sq fun _ k8 => rg (Ly rfl (y_build (cells := [_, _, _, _, _, _, _, _, _]) rfl rfl Ty.zc_59 Ty.ps_59 rfl) (La rfl (Ssw 4 Ty.sz_59 st hF (.inr hg5) rfl fun w9 (st : St _ _ [_, _, _, _, _] _) hF => Ls' rfl (Ln k8 ?_))))
    have st := st.aN 3
    refine wR (Ib_r (Th_r (fR (ResN2 rfl (rvc (i := 4) rfl Ty.ag_59 st.hp rfl rfl) rfl) ?_)))
    unfold oprepare_m; rewrite [iP hc1, iN hc2]
    exact ⟨_, _, rfl, st.ot 4 rfl, hF⟩
  refine sq fun _ k9 => rg (Ly rfl (yw 2 Ty.ag_43 st rfl) (La rfl (Scl st hF rfl (bnotTag_ok _ tag) fun w10 st hF => Ls' rfl (Ln k9 (cB rfl (fun hc3 => ?_) (fun hc3 => ?_))))))
  · refine sq fun _ k10 => rg (Ly rfl (y_build (cells := [_, _, _, _, _, _, _, _, _]) rfl rfl Ty.zc_59 Ty.ps_59 rfl) (La rfl (Ssw 4 Ty.sz_59 st hF (.inr hg5) rfl fun w11 (st : St _ _ [_, _, _, _, _] _) hF => Ls' rfl (Ln k10 ?_))))
    have st := st.aN 3
    refine wR (Ib_r (Th_r (fR (ResN2 rfl (rvc (i := 4) rfl Ty.ag_59 st.hp rfl rfl) rfl) ?_)))
    unfold oprepare_m; rewrite [iP hc1, iP hc2, iP hc3]
    exact ⟨_, _, rfl, st.ot 4 rfl, hF⟩
  refine sq fun _ k11 => rg (Ly rfl (yw 3 Ty.ag_24 st rfl) (La rfl (Scl st hF rfl (otimed_ok _ at_) fun w12 st hF => Ly rfl (yn rfl) (Ls' rfl (Ln k11 (cBn rfl (fun hc4 => ?_) (fun hc4 => ?_)))))))
  · refine sq fun _ k12 => rg (Ly rfl (y_build (cells := [_, _, _, _, _, _, _, _, _]) rfl rfl Ty.zc_59 Ty.ps_59 rfl) (La rfl (Ssw 4 Ty.sz_59 st hF (.inr hg5) rfl fun w13 (st : St _ _ [_, _, _, _, _] _) hF => Ls' rfl (Ln k12 ?_))))
    have st := st.aN 3
    refine wR (Ib_r (Th_r (fR (ResN2 rfl (rvc (i := 4) rfl Ty.ag_59 st.hp rfl rfl) rfl) ?_)))
    unfold oprepare_m; rewrite [iP hc1, iP hc2, iN hc3, iN hc4]
    exact ⟨_, _, rfl, st.ot 4 rfl, hF⟩
  refine Wp_skip (Ib_n (Th_n (k6 _ _ (sq fun _ k13 => rg (Ly rfl (yf rfl Ty.fo_63_0) (Ly rfl (yl 1 Ty.pl_3 st rfl) (Ly rfl (yf rfl Ty.fo_63_1) (Ly rfl (yl 1 Ty.pl_9 st rfl) (Ly rfl (yf rfl Ty.fo_63_2) (Ly rfl (yl 1 Ty.pl_2 st rfl) (Ly rfl (yw 2 Ty.ag_43 st rfl) (Ly rfl (y_build (cells := [_, _, _, _, _, _, _, _, _]) rfl rfl Ty.zc_59 Ty.ps_59 rfl) (La rfl (Sal Ty.zc_59 st hF rfl fun g6 w14 (st : St _ _ [_, _, _, _, _, _] _) hF hg6 => La rfl (Ssw 5 Ty.sz_59 st hF (.inr hg6) rfl fun w15 (st : St _ _ [_, _, _, _, _, _] _) hF => Ln k13 (sq fun _ k14 => sq fun _ k15 => rg (Ly rfl (yf rfl Ty.fo_63_0) (Ly rfl (yl 1 Ty.pl_3 st rfl) (Ln k15 (Wp_block (sq fun _ k16 => sq fun _ k17 => rg (Ly rfl (yeq rfl) (Ls' rfl (Ln k17 (cE rfl (fun hc5 => ?_) (fun hc5 => ?_))))))))))))))))))))))))))
  · refine sk k16 (Wp_cond rfl (fun _ => ?_) (fun hc6 => absurd hc6 (by simp [hc5])))
    refine rg (Ly rfl (yw 3 Ty.ag_24 st rfl) (Ly rfl (yf rfl Ty.fo_59_4) (La rfl (Ssm 5 Ty.sz_24 st hF (.inr hg6) rfl fun w16 (st : St _ _ [_, _, _, _, _, (_, Cl [_, _, _, _, _, _, _, _, _] _)] _) hF => Ls_nil (Ib_n (Th_n (k14 _ _ (sq fun _ k18 => rg (Ly rfl (yw 5 Ty.ag_59 st rfl) (La rfl (Ssw 4 Ty.sz_59 st hF (.inr hg5) rfl fun w17 (st : St _ _ [_, _, _, _, _, _] _) hF => Ls' rfl (Ln k18 ?_))))))))))))
    have st := st.aN 3
    refine wR (fR (ResN2 rfl (rvc (i := 4) rfl Ty.ag_59 st.hp rfl rfl) rfl) ?_)
    unfold oprepare_m; rewrite [iP hc1, iP hc2, iN hc3, iP hc4, iP hc5]
    exact ⟨_, _, rfl, st.ot 4 rfl, hF⟩
  refine rg (Ly rfl (yeq rfl) (Ls' rfl (Ln k16 (cE rfl (fun hc7 => ?_) (fun hc7 => ?_)))))
  · refine rg (Ly rfl (yw 3 Ty.ag_24 st rfl) (Ly rfl (yf rfl Ty.fo_59_4) (La rfl (Ssm 5 Ty.sz_24 st hF (.inr hg6) rfl fun w18 (st : St _ _ [_, _, _, _, _, (_, Cl [_, _, _, _, _, _, _, _, _] _)] _) hF => Ls_nil (Ib_n (Th_n (k14 _ _ (sq fun _ k19 => rg (Ly rfl (yw 5 Ty.ag_59 st rfl) (La rfl (Ssw 4 Ty.sz_59 st hF (.inr hg5) rfl fun w19 (st : St _ _ [_, _, _, _, _, _] _) hF => Ls' rfl (Ln k19 ?_))))))))))))
    have st := st.aN 3
    refine wR (fR (ResN2 rfl (rvc (i := 4) rfl Ty.ag_59 st.hp rfl rfl) rfl) ?_)
    unfold oprepare_m; rewrite [iP hc1, iP hc2, iN hc3, iP hc4, iN hc5, iP hc7]
    exact ⟨_, _, rfl, st.ot 4 rfl, hF⟩
  refine sq fun _ k20 => rg (Ly rfl (yeq rfl) (Ls' rfl (Ln k20 (cE rfl (fun hc8 => ?_) (fun hc8 => ?_)))))
  · refine rg (Ly rfl (yf rfl Ty.fo_57_3) (Ly rfl (ym 0 Ty.ag_52 st rfl) (Ly rfl (yf rfl Ty.fo_63_1) (Ly rfl (yl 1 Ty.pl_9 st rfl) (La rfl (a_call rfl rfl rfl rfl (oTags_ok (keys (hOf st) ++ X) _ st.Lo s.setF A1 C1 A2 C2 o.name (st.q 0 rfl) (st.q 1 rfl) h1 h2) (fun v w20 ⟨Ar1, cr1, hv, hr1, hf⟩ => ?_)))))))
    subst hv
    have st := st.keep0 hf
    have hF := hF.step0 hf
    have z9 := Sld.le hr1
    have st := st.addK (kS Ar1 (oTags_m s.setF o.name).length cr1 3 ((oTags_m s.setF o.name).flatMap tagMC)) hr1
    have st : St X w20 [_, _, _, _, _, _] [_, _, _, _, _] := st
    refine Ly rfl (yf rfl Ty.fo_59_5) (La rfl (Ss1 5 Ty.sz_30 st hF (.inr hg6) rfl fun w21 (st : St _ _ [_, _, _, _, _, (_, Cl [_, _, _, _, _, _, _, _, _] _)] _) hF => Ls_nil (Ib_n (Th_n (k14 _ _ (sq fun _ k21 => rg (Ly rfl (yw 5 Ty.ag_59 st rfl) (La rfl (Ssw 4 Ty.sz_59 st hF (.inr hg5) rfl fun w22 (st : St _ _ [_, _, _, _, _, _] _) hF => Ls' rfl (Ln k21 (wR (fR (ResN2 rfl (rvc (i := 4) rfl Ty.ag_59 st.hp rfl rfl) rfl) ?_))))))))))))
    unfold oprepare_m; rewrite [iP hc1, iP hc2, iN hc3, iP hc4, iN hc5, iN hc7, iP hc8]
    exact ⟨_, _, rfl, st.ot 4 rfl, hF⟩
  refine sq fun _ k22 => rg (Ly rfl (yeq rfl) (Ls' rfl (Ln k22 (cE rfl (fun hc9 => ?_) (fun hc9 => ?_)))))
  · refine rg (Ly rfl (yf rfl Ty.fo_57_4) (Ly rfl (ym 0 Ty.ag_55 st rfl) (Ly rfl (yf rfl Ty.fo_63_1) (Ly rfl (yl 1 Ty.pl_9 st rfl) (La rfl (a_call rfl rfl rfl rfl (mTags_ok (keys (hOf st) ++ X) _ st.Lo s.map A4 C4 A3 C3 o.name (st.q 2 rfl) (st.q 3 rfl) h3 h4) (fun v w23 ⟨Ar2, cr2, hv, hr2, hf⟩ => ?_)))))))
    subst hv
    have st := st.keep0 hf
    have hF := hF.step0 hf
    have z10 := Sld.le hr2
    have st := st.addK (kS Ar2 (mTags_m s.map o.name).length cr2 3 ((mTags_m s.map o.name).flatMap tagMC)) hr2
    have st : St X w23 [_, _, _, _, _, _] [_, _, _, _, _] := st
    refine Ly rfl (yf rfl Ty.fo_59_5) (La rfl (Ss1 5 Ty.sz_30 st hF (.inr hg6) rfl fun w24 (st : St _ _ [_, _, _, _, _, (_, Cl [_, _, _, _, _, _, _, _, _] _)] _) hF => Ls_nil (Ib_n (Th_n (k14 _ _ (sq fun _ k23 => rg (Ly rfl (yw 5 Ty.ag_59 st rfl) (La rfl (Ssw 4 Ty.sz_59 st hF (.inr hg5) rfl fun w25 (st : St _ _ [_, _, _, _, _, _] _) hF => Ls' rfl (Ln k23 (wR (fR (ResN2 rfl (rvc (i := 4) rfl Ty.ag_59 st.hp rfl rfl) rfl) ?_))))))))))))
    unfold oprepare_m; rewrite [iP hc1, iP hc2, iN hc3, iP hc4, iN hc5, iN hc7, iN hc8, iP hc9]
    exact ⟨_, _, rfl, st.ot 4 rfl, hF⟩
  refine Wp_skip (Ib_n (Th_n (k14 _ _ (sq fun _ k24 => rg (Ly rfl (yw 5 Ty.ag_59 st rfl) (La rfl (Ssw 4 Ty.sz_59 st hF (.inr hg5) rfl fun w26 (st : St _ _ [_, _, _, _, _, _] _) hF => Ls' rfl (Ln k24 ?_))))))))
  have st := st.aN 3
  refine wR (fR (ResN2 rfl (rvc (i := 4) rfl Ty.ag_59 st.hp rfl rfl) rfl) ?_)
  unfold oprepare_m; rewrite [iP hc1, iP hc2, iN hc3, iP hc4, iN hc5, iN hc7, iN hc8, iN hc9]
  exact ⟨_, _, rfl, st.ot 4 rfl, hF⟩
end Go.Proofs.YtdckemiebnfjcaaGreatDoor

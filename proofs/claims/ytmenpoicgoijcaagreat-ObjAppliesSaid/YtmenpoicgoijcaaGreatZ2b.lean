/- Walks printed by gen2.py out of our own specifications: what the functions named below do. -/
import Derived.Test.YtmenpoicgoijcaaGreatSc
import Derived.Test.YtmenpoicgoijcaaGreatZ2
set_option linter.unusedSimpArgs false
set_option linter.unusedVariables false
set_option maxRecDepth 20000
namespace Go.Proofs.YtmenpoicgoijcaaGreat
open Go.RowKit
theorem r12elems_L2_inr (s : SetM) (l : List (List UInt8)) (i : Int) : ∀ (n : Nat) (q : Int), ∃ r, r12elems_L2 s l i n q = .inr r
  | 0, q => ⟨q, rfl⟩
  | n + 1, q => by
    rw [r12elems_L2]; split
    · exact r12elems_L2_inr s l i n _
    · exact ⟨q, rfl⟩
theorem r12elems_L1_inr (s : SetM) : ∀ (n : Nat) (l : List (List UInt8)) (i : Int), ∃ l' i', r12elems_L1 s n l i = .inr (l', i') ∧ l'.length ≤ l.length + n
  | 0, l, i => ⟨l, i, rfl, Nat.le_refl _⟩
  | n + 1, l, i => by
    rw [r12elems_L1]; split
    · obtain ⟨q, e⟩ := r12elems_L2_inr s l i (((l.length : Int) - (0 : Int)).toNat + 1) 0
      rw [e]; dsimp only; split
      · obtain ⟨l', i', e, h⟩ := r12elems_L1_inr s n l (i + 1)
        exact ⟨l', i', e, by omega⟩
      · obtain ⟨l', i', e, h⟩ := r12elems_L1_inr s n (((([] : List (List UInt8)) ++ (l.take q.toNat)) ++ [(ix s.adds i).elem]) ++ (l.drop q.toNat)) (i + 1)
        exact ⟨l', i', e, by simp at h; omega⟩
    · exact ⟨l, i, rfl, by omega⟩
theorem r12elems_len (s : SetM) : (r12elems_m s).length ≤ s.adds.length + 1 := by
  unfold r12elems_m; split
  · obtain ⟨l', i', e, h⟩ := r12elems_L1_inr s (((s.adds.length : Int) - (0 : Int)).toNat + 1) [] 0
    rw [e]; simp at h ⊢; omega
  · simp
def r14apply_m (s : ObjM) (e : EffectM) : ObjM × Int :=
  if (r14checkE_m e) = 0 then
    if (r14kind_m e.act) = s.kind then
      if e.act = 1 then
        if ((r10apply_m s.reg e.val e.atF).2) = 0 then
          ((⟨s.kind, (⟨((r10apply_m s.reg e.val e.atF).1).val, (⟨((r10apply_m s.reg e.val e.atF).1).atF.time, ((r10apply_m s.reg e.val e.atF).1).atF.origin⟩ : StampM)⟩ : RegM), s.num, s.setF, s.map⟩ : ObjM), 0)
        else
          ((⟨0, (⟨0, (⟨0, 0⟩ : StampM)⟩ : RegM), (⟨0, 0⟩ : NumM), (⟨([] : List AddM), ([] : List TagM)⟩ : SetM), (⟨([] : List PutM), ([] : List TagM)⟩ : MapM)⟩ : ObjM), (r10apply_m s.reg e.val e.atF).2)
      else
        if e.act = 2 then
          if ((r11apply_m s.num e.val).2) = 0 then
            ((⟨s.kind, s.reg, (⟨((r11apply_m s.num e.val).1).plus, ((r11apply_m s.num e.val).1).minus⟩ : NumM), s.setF, s.map⟩ : ObjM), 0)
          else
            ((⟨0, (⟨0, (⟨0, 0⟩ : StampM)⟩ : RegM), (⟨0, 0⟩ : NumM), (⟨([] : List AddM), ([] : List TagM)⟩ : SetM), (⟨([] : List PutM), ([] : List TagM)⟩ : MapM)⟩ : ObjM), (r11apply_m s.num e.val).2)
        else
          if e.act = 3 then
            if ((r12put_m s.setF (⟨e.tag, e.name⟩ : AddM)).2) = 0 then
              ((⟨s.kind, s.reg, s.num, (⟨((r12put_m s.setF (⟨e.tag, e.name⟩ : AddM)).1).adds, ((r12put_m s.setF (⟨e.tag, e.name⟩ : AddM)).1).gone⟩ : SetM), s.map⟩ : ObjM), 0)
            else
              ((⟨0, (⟨0, (⟨0, 0⟩ : StampM)⟩ : RegM), (⟨0, 0⟩ : NumM), (⟨([] : List AddM), ([] : List TagM)⟩ : SetM), (⟨([] : List PutM), ([] : List TagM)⟩ : MapM)⟩ : ObjM), (r12put_m s.setF (⟨e.tag, e.name⟩ : AddM)).2)
          else
            if e.act = 4 then
              if ((r12drop_m s.setF e.tags).2) = 0 then
                ((⟨s.kind, s.reg, s.num, (⟨((r12drop_m s.setF e.tags).1).adds, ((r12drop_m s.setF e.tags).1).gone⟩ : SetM), s.map⟩ : ObjM), 0)
              else
                ((⟨0, (⟨0, (⟨0, 0⟩ : StampM)⟩ : RegM), (⟨0, 0⟩ : NumM), (⟨([] : List AddM), ([] : List TagM)⟩ : SetM), (⟨([] : List PutM), ([] : List TagM)⟩ : MapM)⟩ : ObjM), (r12drop_m s.setF e.tags).2)
            else
              if e.act = 5 then
                if ((r13apply_m s.map (⟨e.tag, e.name, e.val, e.atF⟩ : PutM)).2) = 0 then
                  ((⟨s.kind, s.reg, s.num, s.setF, (⟨((r13apply_m s.map (⟨e.tag, e.name, e.val, e.atF⟩ : PutM)).1).puts, ((r13apply_m s.map (⟨e.tag, e.name, e.val, e.atF⟩ : PutM)).1).gone⟩ : MapM)⟩ : ObjM), 0)
                else
                  ((⟨0, (⟨0, (⟨0, 0⟩ : StampM)⟩ : RegM), (⟨0, 0⟩ : NumM), (⟨([] : List AddM), ([] : List TagM)⟩ : SetM), (⟨([] : List PutM), ([] : List TagM)⟩ : MapM)⟩ : ObjM), (r13apply_m s.map (⟨e.tag, e.name, e.val, e.atF⟩ : PutM)).2)
              else
                if e.act = 6 then
                  if ((r13drop_m s.map e.tags).2) = 0 then
                    ((⟨s.kind, s.reg, s.num, s.setF, (⟨((r13drop_m s.map e.tags).1).puts, ((r13drop_m s.map e.tags).1).gone⟩ : MapM)⟩ : ObjM), 0)
                  else
                    ((⟨0, (⟨0, (⟨0, 0⟩ : StampM)⟩ : RegM), (⟨0, 0⟩ : NumM), (⟨([] : List AddM), ([] : List TagM)⟩ : SetM), (⟨([] : List PutM), ([] : List TagM)⟩ : MapM)⟩ : ObjM), (r13drop_m s.map e.tags).2)
                else
                  (s, 0)
    else
      ((⟨0, (⟨0, (⟨0, 0⟩ : StampM)⟩ : RegM), (⟨0, 0⟩ : NumM), (⟨([] : List AddM), ([] : List TagM)⟩ : SetM), (⟨([] : List PutM), ([] : List TagM)⟩ : MapM)⟩ : ObjM), 5)
  else
    ((⟨0, (⟨0, (⟨0, 0⟩ : StampM)⟩ : RegM), (⟨0, 0⟩ : NumM), (⟨([] : List AddM), ([] : List TagM)⟩ : SetM), (⟨([] : List PutM), ([] : List TagM)⟩ : MapM)⟩ : ObjM), r14checkE_m e)
theorem r14apply_ok (X : List Nat) (w : World) (hX : Lo X w) (s : ObjM) (A1 : Option Addr) (C1 : Nat) (A2 : Option Addr) (C2 : Nat) (A6 : Option Addr) (C6 : Nat) (A5 : Option Addr) (C5 : Nat) (e : EffectM) (A9 : Option Addr) (C9 : Nat) (z5 : Sld X w A1 s.setF.adds.length C1 4 (s.setF.adds.flatMap addMC)) (z6 : Sld X w A2 s.setF.gone.length C2 3 (s.setF.gone.flatMap tagMC)) (z8 : Sld X w A6 s.map.puts.length C6 7 (s.map.puts.flatMap putMC)) (z7 : Sld X w A5 s.map.gone.length C5 3 (s.map.gone.flatMap tagMC)) (z10 : Sld X w A9 e.tags.length C9 3 (e.tags.flatMap tagMC)) (h1 : s.setF.adds.length ≤ 1000000) (h2 : s.setF.gone.length ≤ 1000000) (h3 : s.map.puts.length ≤ 1000000) (h4 : s.map.gone.length ≤ 1000000) :
    Fn Tryz.prog 8 [.agg #[.int .i64 s.kind, .int .i64 s.reg.val, .int .u32 s.reg.atF.time, .int .i64 s.reg.atF.origin, .int .i64 s.num.plus, .int .i64 s.num.minus, .slice A1 s.setF.adds.length C1, .slice A2 s.setF.gone.length C2, .slice A6 s.map.puts.length C6, .slice A5 s.map.gone.length C5], .agg #[.int .i64 e.act, sv e.name, .int .i64 e.val, .int .i64 e.tag.id.origin, .int .u32 e.tag.id.seq, .int .i64 e.tag.n, .int .u32 e.atF.time, .int .i64 e.atF.origin, .slice A9 e.tags.length C9]] w fun v w' => ∃ (A3 : Option Addr) (C3 : Nat) (A4 : Option Addr) (C4 : Nat) (A8 : Option Addr) (C8 : Nat) (A7 : Option Addr) (C7 : Nat), v = .tuple #[.agg #[.int .i64 (((r14apply_m s e).1).kind), .int .i64 ((((r14apply_m s e).1).reg).val), .int .u32 ((((r14apply_m s e).1).reg).atF.time), .int .i64 ((((r14apply_m s e).1).reg).atF.origin), .int .i64 ((((r14apply_m s e).1).num).plus), .int .i64 ((((r14apply_m s e).1).num).minus), .slice A3 ((((r14apply_m s e).1).setF).adds).length C3, .slice A4 ((((r14apply_m s e).1).setF).gone).length C4, .slice A8 ((((r14apply_m s e).1).map).puts).length C8, .slice A7 ((((r14apply_m s e).1).map).gone).length C7], .int .i64 ((r14apply_m s e).2)] ∧ Sld X w' A3 ((((r14apply_m s e).1).setF).adds).length C3 4 (((((r14apply_m s e).1).setF).adds).flatMap addMC) ∧ Sld X w' A4 ((((r14apply_m s e).1).setF).gone).length C4 3 (((((r14apply_m s e).1).setF).gone).flatMap tagMC) ∧ Sld X w' A8 ((((r14apply_m s e).1).map).puts).length C8 7 (((((r14apply_m s e).1).map).puts).flatMap putMC) ∧ Sld X w' A7 ((((r14apply_m s e).1).map).gone).length C7 3 (((((r14apply_m s e).1).map).gone).flatMap tagMC) ∧ Fr [] w w' := by
  refine Fn_of 107 Ty.en_8 Tryz.func8 rfl rfl rfl ?_
  dsimp only [argEnv]
  have st := stn5 hX z5 z6 z8 z7 z10
  have hF := Fr.refl ([]) w
  refine sq fun _ k1 => rg (La rfl (Sbx st hF rfl fun g1 w1 (st : St _ _ [_] _) hF hg1 => La rfl (Sbx st hF rfl fun g2 w2 (st : St _ _ [_, _] _) hF hg2 => La rfl (Sal Ty.zc_37 st hF rfl fun g3 w3 (st : St _ _ [_, _, _] _) hF hg3 => Ls' rfl (Ln k1 (sq fun _ k2 => rg (Ly rfl (yw 1 Ty.ag_43 st rfl) (La rfl (Scl st hF rfl (r14checkE_ok (keys (hOf st) ++ X) _ st.Lo e A9 C9 (st.q 4 rfl)) fun w4 st hF => Ls' rfl (Ln k2 (sq fun _ k3 => Wp_block (sq fun _ k4 => rg (Lm rfl (Ly rfl (yne rfl) (Ls' rfl (Ln k4 (cN rfl (fun hc1 => ?_) (fun hc1 => ?_))))))))))))))))))
  · refine sq fun _ k5 => rg (Ly rfl (y_build (cells := [_, _, _, _, _, _, _, _, _, _]) rfl rfl Ty.zc_37 Ty.ps_37 rfl) (Lm rfl (La rfl (Ssw 2 Ty.sz_37 st hF (.inr hg3) rfl fun w5 (st : St _ _ [_, _, _] _) hF => Ls' rfl (Ln k5 ?_)))))
    have st := st.aN 4
    have st := st.aN 3
    have st := st.aN 7
    have st := st.aN 3
    refine wR (Ib_r (Th_r (fR (ResN2 rfl (rvc (i := 2) rfl Ty.ag_37 st.hp rfl rfl) rfl) ?_)))
    unfold r14apply_m; rewrite [iN hc1]
    exact ⟨_, _, _, _, _, _, _, _, rfl, st.ot 5 rfl, st.ot 6 rfl, st.ot 7 rfl, st.ot 8 rfl, hF⟩
  refine sq fun _ k6 => ?_
  refine Wp_plan (fun W => St X W (pickL (hOf st) [0, 1, 2]) (kOf st)) [(true, 0), (true, 1), (true, 3), (true, 4), (false, 2), (true, 5), (true, 6)] Ty.mx_0 (by kernel_rfl) (by kernel_rfl) rfl ((st.pk [0, 1, 2] (by decide)).drew) ?_
  have st := st.drew
  have hF := hF.step0 (Fr.drew _)
  refine Py rfl (yf rfl Ty.fo_43_0) (Py rfl (y_load (i := 1) rfl rfl Ty.pl_3 (fun _ h => h.hp) rfl rfl) (Py rfl (yf rfl Ty.fo_37_0) (Py rfl (y_load (i := 0) rfl rfl Ty.pl_3 (fun _ h => h.hp) rfl rfl) (Pl_a rfl (wtd0 rfl) (by rfl) ?_))))
  refine Scl st hF rfl (r14kind_ok _ e.act) fun w6 st hF => ?_
  refine ⟨(st.pk [0, 1, 2] (by decide)).tK 5, ?_⟩
  refine Py rfl (yne rfl) (Py rfl (y_assign rfl rfl) (Pl_nil (Th_n (k6 _ _ (cN rfl (fun hc2 => ?_) (fun hc2 => ?_))))))
  · refine sq fun _ k7 => rg (Ly rfl (y_build (cells := [_, _, _, _, _, _, _, _, _, _]) rfl rfl Ty.zc_37 Ty.ps_37 rfl) (La rfl (Ssw 2 Ty.sz_37 st hF (.inr hg3) rfl fun w7 (st : St _ _ [_, _, _] _) hF => Ls' rfl (Ln k7 ?_))))
    have st := st.aN 4
    have st := st.aN 3
    have st := st.aN 7
    have st := st.aN 3
    refine wR (Ib_r (Th_r (fR (ResN2 rfl (rvc (i := 2) rfl Ty.ag_37 st.hp rfl rfl) rfl) ?_)))
    unfold r14apply_m; rewrite [iP hc1, iN hc2]
    exact ⟨_, _, _, _, _, _, _, _, rfl, st.ot 5 rfl, st.ot 6 rfl, st.ot 7 rfl, st.ot 8 rfl, hF⟩
  refine Wp_skip (Ib_n (Th_n (k3 _ _ (sq fun _ k8 => sq fun _ k9 => rg (Ly rfl (yf rfl Ty.fo_43_0) (Ly rfl (yl 1 Ty.pl_3 st rfl) (Ln k9 (Wp_block (sq fun _ k10 => rg (Ly rfl (yeq rfl) (Ls' rfl (Ln k10 (cE rfl (fun hc3 => ?_) (fun hc3 => ?_))))))))))))))
  · refine rg (Ly rfl (yf rfl Ty.fo_37_1) (Ly rfl (ym 0 Ty.ag_26 st rfl) (Ly rfl (yf rfl Ty.fo_43_2) (Ly rfl (yl 1 Ty.pl_2 st rfl) (Ly rfl (yf rfl Ty.fo_43_4) (Ly rfl (ym 1 Ty.ag_24 st rfl) (La rfl (Scl st hF rfl (r10apply_ok _ s.reg e.val e.atF) fun w8 st hF => Lm rfl (Lx rfl (Lx rfl (Ly rfl (yf rfl Ty.fo_37_1) (La rfl (Ssm 0 Ty.sz_26 st hF (.inr hg1) rfl fun w9 (st : St _ _ [(_, Cl [_, _, _, _, _, _, _, _, _, _] _), _, _] _) hF => Ls' rfl (Ls_nil (Ib_n (Th_n (k8 _ _ (sq fun _ k11 => sq fun _ k12 => rg (Lm rfl (Ly rfl (yne rfl) (Ln k12 (cN rfl (fun hc4 => ?_) (fun hc4 => ?_)))))))))))))))))))))))
    · refine sq fun _ k13 => rg (Ly rfl (y_build (cells := [_, _, _, _, _, _, _, _, _, _]) rfl rfl Ty.zc_37 Ty.ps_37 rfl) (Lm rfl (La rfl (Ssw 2 Ty.sz_37 st hF (.inr hg3) rfl fun w10 (st : St _ _ [_, _, _] _) hF => Ls' rfl (Ln k13 ?_)))))
      have st := st.aN 4
      have st := st.aN 3
      have st := st.aN 7
      have st := st.aN 3
      refine wR (Th_r (fR (ResN2 rfl (rvc (i := 2) rfl Ty.ag_37 st.hp rfl rfl) rfl) ?_))
      unfold r14apply_m; rewrite [iP hc1, iP hc2, iP hc3, iN hc4]
      exact ⟨_, _, _, _, _, _, _, _, rfl, st.ot 5 rfl, st.ot 6 rfl, st.ot 7 rfl, st.ot 8 rfl, hF⟩
    refine sk k11 (sq fun _ k14 => rg (Ly rfl (yw 0 Ty.ag_37 st rfl) (La rfl (Ssw 2 Ty.sz_37 st hF (.inr hg3) rfl fun w11 (st : St _ _ [_, _, _] _) hF => Ls' rfl (Ln k14 (wR (fR (ResN2 rfl (rvc (i := 2) rfl Ty.ag_37 st.hp rfl rfl) rfl) ?_)))))))
    unfold r14apply_m; rewrite [iP hc1, iP hc2, iP hc3, iP hc4]
    exact ⟨_, _, _, _, _, _, _, _, rfl, st.ot 0 rfl, st.ot 1 rfl, st.ot 2 rfl, st.ot 3 rfl, hF⟩
  refine sq fun _ k15 => rg (Ly rfl (yeq rfl) (Ls' rfl (Ln k15 (cE rfl (fun hc5 => ?_) (fun hc5 => ?_)))))
  · refine rg (Ly rfl (yf rfl Ty.fo_37_2) (Ly rfl (ym 0 Ty.ag_28 st rfl) (Ly rfl (yf rfl Ty.fo_43_2) (Ly rfl (yl 1 Ty.pl_2 st rfl) (La rfl (Scl st hF rfl (r11apply_ok _ s.num e.val) fun w12 st hF => Lm rfl (Lx rfl (Lx rfl (Ly rfl (yf rfl Ty.fo_37_2) (La rfl (Ssm 0 Ty.sz_28 st hF (.inr hg1) rfl fun w13 (st : St _ _ [(_, Cl [_, _, _, _, _, _, _, _, _, _] _), _, _] _) hF => Ls' rfl (Ls_nil (Ib_n (Th_n (k8 _ _ (sq fun _ k16 => sq fun _ k17 => rg (Lm rfl (Ly rfl (yne rfl) (Ln k17 (cN rfl (fun hc6 => ?_) (fun hc6 => ?_)))))))))))))))))))))
    · refine sq fun _ k18 => rg (Ly rfl (y_build (cells := [_, _, _, _, _, _, _, _, _, _]) rfl rfl Ty.zc_37 Ty.ps_37 rfl) (Lm rfl (La rfl (Ssw 2 Ty.sz_37 st hF (.inr hg3) rfl fun w14 (st : St _ _ [_, _, _] _) hF => Ls' rfl (Ln k18 ?_)))))
      have st := st.aN 4
      have st := st.aN 3
      have st := st.aN 7
      have st := st.aN 3
      refine wR (Th_r (fR (ResN2 rfl (rvc (i := 2) rfl Ty.ag_37 st.hp rfl rfl) rfl) ?_))
      unfold r14apply_m; rewrite [iP hc1, iP hc2, iN hc3, iP hc5, iN hc6]
      exact ⟨_, _, _, _, _, _, _, _, rfl, st.ot 5 rfl, st.ot 6 rfl, st.ot 7 rfl, st.ot 8 rfl, hF⟩
    refine sk k16 (sq fun _ k19 => rg (Ly rfl (yw 0 Ty.ag_37 st rfl) (La rfl (Ssw 2 Ty.sz_37 st hF (.inr hg3) rfl fun w15 (st : St _ _ [_, _, _] _) hF => Ls' rfl (Ln k19 (wR (fR (ResN2 rfl (rvc (i := 2) rfl Ty.ag_37 st.hp rfl rfl) rfl) ?_)))))))
    unfold r14apply_m; rewrite [iP hc1, iP hc2, iN hc3, iP hc5, iP hc6]
    exact ⟨_, _, _, _, _, _, _, _, rfl, st.ot 0 rfl, st.ot 1 rfl, st.ot 2 rfl, st.ot 3 rfl, hF⟩
  refine sq fun _ k20 => rg (Ly rfl (yeq rfl) (Ls' rfl (Ln k20 (cE rfl (fun hc7 => ?_) (fun hc7 => ?_)))))
  · refine rg (Ly rfl (yf rfl Ty.fo_37_3) (Ly rfl (ym 0 Ty.ag_32 st rfl) (Ly rfl (yf rfl Ty.fo_43_3) (Ly rfl (ym 1 Ty.ag_41 st rfl) (Ly rfl (yf rfl Ty.fo_43_1) (Ly rfl (yl 1 Ty.pl_9 st rfl) (Ly rfl (y_build (cells := [_, _, _, _]) rfl rfl Ty.zc_110 Ty.ps_110 rfl) (La rfl (a_call rfl rfl rfl rfl (r12put_ok (keys (hOf st) ++ X) _ st.Lo s.setF A1 C1 A2 C2 (⟨e.tag, e.name⟩ : AddM) (st.q 0 rfl) (st.q 1 rfl) h1 h2) (fun v w16 ⟨Ar1, cr1, Ar2, cr2, hv, hr1, hr2, hf⟩ => ?_))))))))))
    subst hv
    have st := st.keep0 hf
    have hF := hF.step0 hf
    have z11 := Sld.le hr1
    have st := st.addK (kS Ar1 (((r12put_m s.setF (⟨e.tag, e.name⟩ : AddM)).1).adds).length cr1 4 ((((r12put_m s.setF (⟨e.tag, e.name⟩ : AddM)).1).adds).flatMap addMC)) hr1
    have z12 := Sld.le hr2
    have st := st.addK (kS Ar2 (((r12put_m s.setF (⟨e.tag, e.name⟩ : AddM)).1).gone).length cr2 3 ((((r12put_m s.setF (⟨e.tag, e.name⟩ : AddM)).1).gone).flatMap tagMC)) hr2
    have st : St X w16 [_, _, _] [_, _, _, _, _, _, _] := st
    refine Lm rfl (Lx rfl (Lx rfl (Ly rfl (yf rfl Ty.fo_37_3) (La rfl (Ssm 0 Ty.sz_32 st hF (.inr hg1) rfl fun w17 (st : St _ _ [(_, Cl [_, _, _, _, _, _, _, _, _, _] _), _, _] _) hF => Ls' rfl (Ls_nil (Ib_n (Th_n (k8 _ _ (sq fun _ k21 => sq fun _ k22 => rg (Lm rfl (Ly rfl (yne rfl) (Ln k22 (cN rfl (fun hc8 => ?_) (fun hc8 => ?_)))))))))))))))
    · refine sq fun _ k23 => rg (Ly rfl (y_build (cells := [_, _, _, _, _, _, _, _, _, _]) rfl rfl Ty.zc_37 Ty.ps_37 rfl) (Lm rfl (La rfl (Ssw 2 Ty.sz_37 st hF (.inr hg3) rfl fun w18 (st : St _ _ [_, _, _] _) hF => Ls' rfl (Ln k23 ?_)))))
      have st := st.aN 4
      have st := st.aN 3
      have st := st.aN 7
      have st := st.aN 3
      refine wR (Th_r (fR (ResN2 rfl (rvc (i := 2) rfl Ty.ag_37 st.hp rfl rfl) rfl) ?_))
      unfold r14apply_m; rewrite [iP hc1, iP hc2, iN hc3, iN hc5, iP hc7, iN hc8]
      exact ⟨_, _, _, _, _, _, _, _, rfl, st.ot 7 rfl, st.ot 8 rfl, st.ot 9 rfl, st.ot 10 rfl, hF⟩
    refine sk k21 (sq fun _ k24 => rg (Ly rfl (yw 0 Ty.ag_37 st rfl) (La rfl (Ssw 2 Ty.sz_37 st hF (.inr hg3) rfl fun w19 (st : St _ _ [_, _, _] _) hF => Ls' rfl (Ln k24 (wR (fR (ResN2 rfl (rvc (i := 2) rfl Ty.ag_37 st.hp rfl rfl) rfl) ?_)))))))
    unfold r14apply_m; rewrite [iP hc1, iP hc2, iN hc3, iN hc5, iP hc7, iP hc8]
    exact ⟨_, _, _, _, _, _, _, _, rfl, st.ot 5 rfl, st.ot 6 rfl, st.ot 2 rfl, st.ot 3 rfl, hF⟩
  refine sq fun _ k25 => rg (Ly rfl (yeq rfl) (Ls' rfl (Ln k25 (cE rfl (fun hc9 => ?_) (fun hc9 => ?_)))))
  · refine rg (Ly rfl (yf rfl Ty.fo_37_3) (Ly rfl (ym 0 Ty.ag_32 st rfl) (Ly rfl (yf rfl Ty.fo_43_5) (Ly rfl (yl 1 Ty.pl_30 st rfl) (La rfl (a_call rfl rfl rfl rfl (r12drop_ok (keys (hOf st) ++ X) _ st.Lo s.setF A1 C1 A2 C2 e.tags A9 C9 (st.q 0 rfl) (st.q 1 rfl) (st.q 4 rfl) h1 h2) (fun v w20 ⟨Ar3, cr3, Ar4, cr4, hv, hr3, hr4, hf⟩ => ?_)))))))
    subst hv
    have st := st.keep0 hf
    have hF := hF.step0 hf
    have z13 := Sld.le hr3
    have st := st.addK (kS Ar3 (((r12drop_m s.setF e.tags).1).adds).length cr3 4 ((((r12drop_m s.setF e.tags).1).adds).flatMap addMC)) hr3
    have z14 := Sld.le hr4
    have st := st.addK (kS Ar4 (((r12drop_m s.setF e.tags).1).gone).length cr4 3 ((((r12drop_m s.setF e.tags).1).gone).flatMap tagMC)) hr4
    have st : St X w20 [_, _, _] [_, _, _, _, _, _, _] := st
    refine Lm rfl (Lx rfl (Lx rfl (Ly rfl (yf rfl Ty.fo_37_3) (La rfl (Ssm 0 Ty.sz_32 st hF (.inr hg1) rfl fun w21 (st : St _ _ [(_, Cl [_, _, _, _, _, _, _, _, _, _] _), _, _] _) hF => Ls' rfl (Ls_nil (Ib_n (Th_n (k8 _ _ (sq fun _ k26 => sq fun _ k27 => rg (Lm rfl (Ly rfl (yne rfl) (Ln k27 (cN rfl (fun hc10 => ?_) (fun hc10 => ?_)))))))))))))))
    · refine sq fun _ k28 => rg (Ly rfl (y_build (cells := [_, _, _, _, _, _, _, _, _, _]) rfl rfl Ty.zc_37 Ty.ps_37 rfl) (Lm rfl (La rfl (Ssw 2 Ty.sz_37 st hF (.inr hg3) rfl fun w22 (st : St _ _ [_, _, _] _) hF => Ls' rfl (Ln k28 ?_)))))
      have st := st.aN 4
      have st := st.aN 3
      have st := st.aN 7
      have st := st.aN 3
      refine wR (Th_r (fR (ResN2 rfl (rvc (i := 2) rfl Ty.ag_37 st.hp rfl rfl) rfl) ?_))
      unfold r14apply_m; rewrite [iP hc1, iP hc2, iN hc3, iN hc5, iN hc7, iP hc9, iN hc10]
      exact ⟨_, _, _, _, _, _, _, _, rfl, st.ot 7 rfl, st.ot 8 rfl, st.ot 9 rfl, st.ot 10 rfl, hF⟩
    refine sk k26 (sq fun _ k29 => rg (Ly rfl (yw 0 Ty.ag_37 st rfl) (La rfl (Ssw 2 Ty.sz_37 st hF (.inr hg3) rfl fun w23 (st : St _ _ [_, _, _] _) hF => Ls' rfl (Ln k29 (wR (fR (ResN2 rfl (rvc (i := 2) rfl Ty.ag_37 st.hp rfl rfl) rfl) ?_)))))))
    unfold r14apply_m; rewrite [iP hc1, iP hc2, iN hc3, iN hc5, iN hc7, iP hc9, iP hc10]
    exact ⟨_, _, _, _, _, _, _, _, rfl, st.ot 5 rfl, st.ot 6 rfl, st.ot 2 rfl, st.ot 3 rfl, hF⟩
  refine sq fun _ k30 => rg (Ly rfl (yeq rfl) (Ls' rfl (Ln k30 (cE rfl (fun hc11 => ?_) (fun hc11 => ?_)))))
  · refine rg (Ly rfl (yf rfl Ty.fo_37_4) (Ly rfl (ym 0 Ty.ag_35 st rfl) (Ly rfl (yf rfl Ty.fo_43_3) (Ly rfl (ym 1 Ty.ag_41 st rfl) (Ly rfl (yf rfl Ty.fo_43_1) (Ly rfl (yl 1 Ty.pl_9 st rfl) (Ly rfl (yf rfl Ty.fo_43_2) (Ly rfl (yl 1 Ty.pl_2 st rfl) (Ly rfl (yf rfl Ty.fo_43_4) (Ly rfl (ym 1 Ty.ag_24 st rfl) (Ly rfl (y_build (cells := [_, _, _, _, _, _, _]) rfl rfl Ty.zc_114 Ty.ps_114 rfl) (La rfl (a_call rfl rfl rfl rfl (r13apply_ok (keys (hOf st) ++ X) _ st.Lo s.map A6 C6 A5 C5 (⟨e.tag, e.name, e.val, e.atF⟩ : PutM) (st.q 2 rfl) (st.q 3 rfl) h3 h4) (fun v w24 ⟨Ar5, cr5, Ar6, cr6, hv, hr5, hr6, hf⟩ => ?_))))))))))))))
    subst hv
    have st := st.keep0 hf
    have hF := hF.step0 hf
    have z15 := Sld.le hr5
    have st := st.addK (kS Ar5 (((r13apply_m s.map (⟨e.tag, e.name, e.val, e.atF⟩ : PutM)).1).puts).length cr5 7 ((((r13apply_m s.map (⟨e.tag, e.name, e.val, e.atF⟩ : PutM)).1).puts).flatMap putMC)) hr5
    have z16 := Sld.le hr6
    have st := st.addK (kS Ar6 (((r13apply_m s.map (⟨e.tag, e.name, e.val, e.atF⟩ : PutM)).1).gone).length cr6 3 ((((r13apply_m s.map (⟨e.tag, e.name, e.val, e.atF⟩ : PutM)).1).gone).flatMap tagMC)) hr6
    have st : St X w24 [_, _, _] [_, _, _, _, _, _, _] := st
    refine Lm rfl (Lx rfl (Lx rfl (Ly rfl (yf rfl Ty.fo_37_4) (La rfl (Ssm 0 Ty.sz_35 st hF (.inr hg1) rfl fun w25 (st : St _ _ [(_, Cl [_, _, _, _, _, _, _, _, _, _] _), _, _] _) hF => Ls' rfl (Ls_nil (Ib_n (Th_n (k8 _ _ (sq fun _ k31 => sq fun _ k32 => rg (Lm rfl (Ly rfl (yne rfl) (Ln k32 (cN rfl (fun hc12 => ?_) (fun hc12 => ?_)))))))))))))))
    · refine sq fun _ k33 => rg (Ly rfl (y_build (cells := [_, _, _, _, _, _, _, _, _, _]) rfl rfl Ty.zc_37 Ty.ps_37 rfl) (Lm rfl (La rfl (Ssw 2 Ty.sz_37 st hF (.inr hg3) rfl fun w26 (st : St _ _ [_, _, _] _) hF => Ls' rfl (Ln k33 ?_)))))
      have st := st.aN 4
      have st := st.aN 3
      have st := st.aN 7
      have st := st.aN 3
      refine wR (Th_r (fR (ResN2 rfl (rvc (i := 2) rfl Ty.ag_37 st.hp rfl rfl) rfl) ?_))
      unfold r14apply_m; rewrite [iP hc1, iP hc2, iN hc3, iN hc5, iN hc7, iN hc9, iP hc11, iN hc12]
      exact ⟨_, _, _, _, _, _, _, _, rfl, st.ot 7 rfl, st.ot 8 rfl, st.ot 9 rfl, st.ot 10 rfl, hF⟩
    refine sk k31 (sq fun _ k34 => rg (Ly rfl (yw 0 Ty.ag_37 st rfl) (La rfl (Ssw 2 Ty.sz_37 st hF (.inr hg3) rfl fun w27 (st : St _ _ [_, _, _] _) hF => Ls' rfl (Ln k34 (wR (fR (ResN2 rfl (rvc (i := 2) rfl Ty.ag_37 st.hp rfl rfl) rfl) ?_)))))))
    unfold r14apply_m; rewrite [iP hc1, iP hc2, iN hc3, iN hc5, iN hc7, iN hc9, iP hc11, iP hc12]
    exact ⟨_, _, _, _, _, _, _, _, rfl, st.ot 0 rfl, st.ot 1 rfl, st.ot 5 rfl, st.ot 6 rfl, hF⟩
  refine sq fun _ k35 => rg (Ly rfl (yeq rfl) (Ls' rfl (Ln k35 (cE rfl (fun hc13 => ?_) (fun hc13 => ?_)))))
  · refine rg (Ly rfl (yf rfl Ty.fo_37_4) (Ly rfl (ym 0 Ty.ag_35 st rfl) (Ly rfl (yf rfl Ty.fo_43_5) (Ly rfl (yl 1 Ty.pl_30 st rfl) (La rfl (a_call rfl rfl rfl rfl (r13drop_ok (keys (hOf st) ++ X) _ st.Lo s.map A6 C6 A5 C5 e.tags A9 C9 (st.q 2 rfl) (st.q 3 rfl) (st.q 4 rfl) h3 h4) (fun v w28 ⟨Ar7, cr7, Ar8, cr8, hv, hr7, hr8, hf⟩ => ?_)))))))
    subst hv
    have st := st.keep0 hf
    have hF := hF.step0 hf
    have z17 := Sld.le hr7
    have st := st.addK (kS Ar7 (((r13drop_m s.map e.tags).1).puts).length cr7 7 ((((r13drop_m s.map e.tags).1).puts).flatMap putMC)) hr7
    have z18 := Sld.le hr8
    have st := st.addK (kS Ar8 (((r13drop_m s.map e.tags).1).gone).length cr8 3 ((((r13drop_m s.map e.tags).1).gone).flatMap tagMC)) hr8
    have st : St X w28 [_, _, _] [_, _, _, _, _, _, _] := st
    refine Lm rfl (Lx rfl (Lx rfl (Ly rfl (yf rfl Ty.fo_37_4) (La rfl (Ssm 0 Ty.sz_35 st hF (.inr hg1) rfl fun w29 (st : St _ _ [(_, Cl [_, _, _, _, _, _, _, _, _, _] _), _, _] _) hF => Ls' rfl (Ls_nil (Ib_n (Th_n (k8 _ _ (sq fun _ k36 => sq fun _ k37 => rg (Lm rfl (Ly rfl (yne rfl) (Ln k37 (cN rfl (fun hc14 => ?_) (fun hc14 => ?_)))))))))))))))
    · refine sq fun _ k38 => rg (Ly rfl (y_build (cells := [_, _, _, _, _, _, _, _, _, _]) rfl rfl Ty.zc_37 Ty.ps_37 rfl) (Lm rfl (La rfl (Ssw 2 Ty.sz_37 st hF (.inr hg3) rfl fun w30 (st : St _ _ [_, _, _] _) hF => Ls' rfl (Ln k38 ?_)))))
      have st := st.aN 4
      have st := st.aN 3
      have st := st.aN 7
      have st := st.aN 3
      refine wR (Th_r (fR (ResN2 rfl (rvc (i := 2) rfl Ty.ag_37 st.hp rfl rfl) rfl) ?_))
      unfold r14apply_m; rewrite [iP hc1, iP hc2, iN hc3, iN hc5, iN hc7, iN hc9, iN hc11, iP hc13, iN hc14]
      exact ⟨_, _, _, _, _, _, _, _, rfl, st.ot 7 rfl, st.ot 8 rfl, st.ot 9 rfl, st.ot 10 rfl, hF⟩
    refine sk k36 (sq fun _ k39 => rg (Ly rfl (yw 0 Ty.ag_37 st rfl) (La rfl (Ssw 2 Ty.sz_37 st hF (.inr hg3) rfl fun w31 (st : St _ _ [_, _, _] _) hF => Ls' rfl (Ln k39 (wR (fR (ResN2 rfl (rvc (i := 2) rfl Ty.ag_37 st.hp rfl rfl) rfl) ?_)))))))
    unfold r14apply_m; rewrite [iP hc1, iP hc2, iN hc3, iN hc5, iN hc7, iN hc9, iN hc11, iP hc13, iP hc14]
    exact ⟨_, _, _, _, _, _, _, _, rfl, st.ot 0 rfl, st.ot 1 rfl, st.ot 5 rfl, st.ot 6 rfl, hF⟩
  refine Wp_skip (Ib_n (Th_n (k8 _ _ (sq fun _ k40 => sq fun _ k41 => rg (Lm rfl (Ly rfl (yne rfl) (Ln k41 (Wp_cond rfl (fun hc15 => absurd hc15 (by simp [hc1])) (fun _ => ?_)))))))))
  refine sk k40 (sq fun _ k42 => rg (Ly rfl (yw 0 Ty.ag_37 st rfl) (La rfl (Ssw 2 Ty.sz_37 st hF (.inr hg3) rfl fun w32 (st : St _ _ [_, _, _] _) hF => Ls' rfl (Ln k42 (wR (fR (ResN2 rfl (rvc (i := 2) rfl Ty.ag_37 st.hp rfl rfl) rfl) ?_)))))))
  unfold r14apply_m; rewrite [iP hc1, iP hc2, iN hc3, iN hc5, iN hc7, iN hc9, iN hc11, iN hc13]
  exact ⟨_, _, _, _, _, _, _, _, rfl, st.ot 0 rfl, st.ot 1 rfl, st.ot 2 rfl, st.ot 3 rfl, hF⟩
def r14compact_m (s : ObjM) (vv : A8u32M) : ObjM × Int :=
  if s.kind = 1 then
    (s, 0)
  else
    if s.kind = 2 then
      (s, 0)
    else
      if s.kind = 3 then
        if ((r12compact_m s.setF vv).2) = 0 then
          ((⟨s.kind, s.reg, s.num, (⟨((r12compact_m s.setF vv).1).adds, ((r12compact_m s.setF vv).1).gone⟩ : SetM), s.map⟩ : ObjM), 0)
        else
          ((⟨0, (⟨0, (⟨0, 0⟩ : StampM)⟩ : RegM), (⟨0, 0⟩ : NumM), (⟨([] : List AddM), ([] : List TagM)⟩ : SetM), (⟨([] : List PutM), ([] : List TagM)⟩ : MapM)⟩ : ObjM), (r12compact_m s.setF vv).2)
      else
        if s.kind = 4 then
          if ((r13compact_m s.map vv).2) = 0 then
            ((⟨s.kind, s.reg, s.num, s.setF, (⟨((r13compact_m s.map vv).1).puts, ((r13compact_m s.map vv).1).gone⟩ : MapM)⟩ : ObjM), 0)
          else
            ((⟨0, (⟨0, (⟨0, 0⟩ : StampM)⟩ : RegM), (⟨0, 0⟩ : NumM), (⟨([] : List AddM), ([] : List TagM)⟩ : SetM), (⟨([] : List PutM), ([] : List TagM)⟩ : MapM)⟩ : ObjM), (r13compact_m s.map vv).2)
        else
          ((⟨0, (⟨0, (⟨0, 0⟩ : StampM)⟩ : RegM), (⟨0, 0⟩ : NumM), (⟨([] : List AddM), ([] : List TagM)⟩ : SetM), (⟨([] : List PutM), ([] : List TagM)⟩ : MapM)⟩ : ObjM), 5)
theorem r14compact_ok (X : List Nat) (w : World) (hX : Lo X w) (s : ObjM) (A1 : Option Addr) (C1 : Nat) (A2 : Option Addr) (C2 : Nat) (A6 : Option Addr) (C6 : Nat) (A5 : Option Addr) (C5 : Nat) (vv : A8u32M) (z5 : Sld X w A1 s.setF.adds.length C1 4 (s.setF.adds.flatMap addMC)) (z6 : Sld X w A2 s.setF.gone.length C2 3 (s.setF.gone.flatMap tagMC)) (z8 : Sld X w A6 s.map.puts.length C6 7 (s.map.puts.flatMap putMC)) (z7 : Sld X w A5 s.map.gone.length C5 3 (s.map.gone.flatMap tagMC)) (h1 : s.setF.adds.length ≤ 1000000) (h2 : s.setF.gone.length ≤ 1000000) (h3 : s.map.puts.length ≤ 1000000) (h4 : s.map.gone.length ≤ 1000000) :
    Fn Tryz.prog 10 [.agg #[.int .i64 s.kind, .int .i64 s.reg.val, .int .u32 s.reg.atF.time, .int .i64 s.reg.atF.origin, .int .i64 s.num.plus, .int .i64 s.num.minus, .slice A1 s.setF.adds.length C1, .slice A2 s.setF.gone.length C2, .slice A6 s.map.puts.length C6, .slice A5 s.map.gone.length C5], .agg (a8u32C vv).toArray] w fun v w' => ∃ (A3 : Option Addr) (C3 : Nat) (A4 : Option Addr) (C4 : Nat) (A8 : Option Addr) (C8 : Nat) (A7 : Option Addr) (C7 : Nat), v = .tuple #[.agg #[.int .i64 (((r14compact_m s vv).1).kind), .int .i64 ((((r14compact_m s vv).1).reg).val), .int .u32 ((((r14compact_m s vv).1).reg).atF.time), .int .i64 ((((r14compact_m s vv).1).reg).atF.origin), .int .i64 ((((r14compact_m s vv).1).num).plus), .int .i64 ((((r14compact_m s vv).1).num).minus), .slice A3 ((((r14compact_m s vv).1).setF).adds).length C3, .slice A4 ((((r14compact_m s vv).1).setF).gone).length C4, .slice A8 ((((r14compact_m s vv).1).map).puts).length C8, .slice A7 ((((r14compact_m s vv).1).map).gone).length C7], .int .i64 ((r14compact_m s vv).2)] ∧ Sld X w' A3 ((((r14compact_m s vv).1).setF).adds).length C3 4 (((((r14compact_m s vv).1).setF).adds).flatMap addMC) ∧ Sld X w' A4 ((((r14compact_m s vv).1).setF).gone).length C4 3 (((((r14compact_m s vv).1).setF).gone).flatMap tagMC) ∧ Sld X w' A8 ((((r14compact_m s vv).1).map).puts).length C8 7 (((((r14compact_m s vv).1).map).puts).flatMap putMC) ∧ Sld X w' A7 ((((r14compact_m s vv).1).map).gone).length C7 3 (((((r14compact_m s vv).1).map).gone).flatMap tagMC) ∧ Fr [] w w' := by
  refine Fn_of 37 Ty.en_10 Tryz.func10 rfl rfl rfl ?_
  dsimp only [argEnv]
  have st := stn4 hX z5 z6 z8 z7
  have hF := Fr.refl ([]) w
  refine sq fun _ k1 => rg (La rfl (Sbx st hF rfl fun g1 w1 (st : St _ _ [_] _) hF hg1 => La rfl (Sbx st hF rfl fun g2 w2 (st : St _ _ [_, _] _) hF hg2 => La rfl (Sal Ty.zc_37 st hF rfl fun g3 w3 (st : St _ _ [_, _, _] _) hF hg3 => Ls' rfl (Ln k1 (sq fun _ k2 => rg (Ls' rfl (Ln k2 (sq fun _ k3 => sq fun _ k4 => rg (Ly rfl (yf rfl Ty.fo_37_0) (Ly rfl (yl 0 Ty.pl_3 st rfl) (Ln k4 (Wp_block (sq fun _ k5 => sq fun _ k6 => rg (Ly rfl (yeq rfl) (Ls' rfl (Ln k6 (cE rfl (fun hc1 => ?_) (fun hc1 => ?_)))))))))))))))))))
  · refine sk k5 (Wp_cond rfl (fun _ => ?_) (fun hc2 => absurd hc2 (by simp [hc1])))
    refine Wp_skip (Ib_n (Th_n (k3 _ _ (sq fun _ k7 => sq fun _ k8 => rg (Lm rfl (Ly rfl (y_neF rfl rfl rfl (by decide)) ?_))))))
    refine Ln k8 (Wp_cond_f rfl (sk k7 (sq fun _ k9 => rg (Ly rfl (yw 0 Ty.ag_37 st rfl) (La rfl (Ssw 2 Ty.sz_37 st hF (.inr hg3) rfl fun w4 (st : St _ _ [_, _, _] _) hF => Ls' rfl (Ln k9 (wR (fR (ResN2 rfl (rvc (i := 2) rfl Ty.ag_37 st.hp rfl rfl) rfl) ?_)))))))))
    unfold r14compact_m; rewrite [iP hc1]
    exact ⟨_, _, _, _, _, _, _, _, rfl, st.ot 0 rfl, st.ot 1 rfl, st.ot 2 rfl, st.ot 3 rfl, hF⟩
  refine rg (Ly rfl (yeq rfl) (Ls' rfl (Ln k5 (cE rfl (fun hc3 => ?_) (fun hc3 => ?_)))))
  · refine Wp_skip (Ib_n (Th_n (k3 _ _ (sq fun _ k10 => sq fun _ k11 => rg (Lm rfl (Ly rfl (y_neF rfl rfl rfl (by decide)) ?_))))))
    refine Ln k11 (Wp_cond_f rfl (sk k10 (sq fun _ k12 => rg (Ly rfl (yw 0 Ty.ag_37 st rfl) (La rfl (Ssw 2 Ty.sz_37 st hF (.inr hg3) rfl fun w5 (st : St _ _ [_, _, _] _) hF => Ls' rfl (Ln k12 (wR (fR (ResN2 rfl (rvc (i := 2) rfl Ty.ag_37 st.hp rfl rfl) rfl) ?_)))))))))
    unfold r14compact_m; rewrite [iN hc1, iP hc3]
    exact ⟨_, _, _, _, _, _, _, _, rfl, st.ot 0 rfl, st.ot 1 rfl, st.ot 2 rfl, st.ot 3 rfl, hF⟩
  refine sq fun _ k13 => rg (Ly rfl (yeq rfl) (Ls' rfl (Ln k13 (cE rfl (fun hc4 => ?_) (fun hc4 => ?_)))))
  · refine rg (Ly rfl (yf rfl Ty.fo_37_3) (Ly rfl (ym 0 Ty.ag_32 st rfl) (Ly rfl (yw 1 Ty.ag_45 st rfl) (La rfl (a_call rfl rfl rfl rfl (r12compact_ok (keys (hOf st) ++ X) _ st.Lo s.setF A1 C1 A2 C2 vv (st.q 0 rfl) (st.q 1 rfl) h1 h2) (fun v w6 ⟨Ar1, cr1, Ar2, cr2, hv, hr1, hr2, hf⟩ => ?_))))))
    subst hv
    have st := st.keep0 hf
    have hF := hF.step0 hf
    have z9 := Sld.le hr1
    have st := st.addK (kS Ar1 (((r12compact_m s.setF vv).1).adds).length cr1 4 ((((r12compact_m s.setF vv).1).adds).flatMap addMC)) hr1
    have z10 := Sld.le hr2
    have st := st.addK (kS Ar2 (((r12compact_m s.setF vv).1).gone).length cr2 3 ((((r12compact_m s.setF vv).1).gone).flatMap tagMC)) hr2
    have st : St X w6 [_, _, _] [_, _, _, _, _, _] := st
    refine Lm rfl (Lx rfl (Lx rfl (Ly rfl (yf rfl Ty.fo_37_3) (La rfl (Ssm 0 Ty.sz_32 st hF (.inr hg1) rfl fun w7 (st : St _ _ [(_, Cl [_, _, _, _, _, _, _, _, _, _] _), _, _] _) hF => Ls' rfl (Ls_nil (Ib_n (Th_n (k3 _ _ (sq fun _ k14 => sq fun _ k15 => rg (Lm rfl (Ly rfl (yne rfl) (Ln k15 (cN rfl (fun hc5 => ?_) (fun hc5 => ?_)))))))))))))))
    · refine sq fun _ k16 => rg (Ly rfl (y_build (cells := [_, _, _, _, _, _, _, _, _, _]) rfl rfl Ty.zc_37 Ty.ps_37 rfl) (Lm rfl (La rfl (Ssw 2 Ty.sz_37 st hF (.inr hg3) rfl fun w8 (st : St _ _ [_, _, _] _) hF => Ls' rfl (Ln k16 ?_)))))
      have st := st.aN 4
      have st := st.aN 3
      have st := st.aN 7
      have st := st.aN 3
      refine wR (Th_r (fR (ResN2 rfl (rvc (i := 2) rfl Ty.ag_37 st.hp rfl rfl) rfl) ?_))
      unfold r14compact_m; rewrite [iN hc1, iN hc3, iP hc4, iN hc5]
      exact ⟨_, _, _, _, _, _, _, _, rfl, st.ot 6 rfl, st.ot 7 rfl, st.ot 8 rfl, st.ot 9 rfl, hF⟩
    refine sk k14 (sq fun _ k17 => rg (Ly rfl (yw 0 Ty.ag_37 st rfl) (La rfl (Ssw 2 Ty.sz_37 st hF (.inr hg3) rfl fun w9 (st : St _ _ [_, _, _] _) hF => Ls' rfl (Ln k17 (wR (fR (ResN2 rfl (rvc (i := 2) rfl Ty.ag_37 st.hp rfl rfl) rfl) ?_)))))))
    unfold r14compact_m; rewrite [iN hc1, iN hc3, iP hc4, iP hc5]
    exact ⟨_, _, _, _, _, _, _, _, rfl, st.ot 4 rfl, st.ot 5 rfl, st.ot 2 rfl, st.ot 3 rfl, hF⟩
  refine sq fun _ k18 => rg (Ly rfl (yeq rfl) (Ls' rfl (Ln k18 (cE rfl (fun hc6 => ?_) (fun hc6 => ?_)))))
  · refine rg (Ly rfl (yf rfl Ty.fo_37_4) (Ly rfl (ym 0 Ty.ag_35 st rfl) (Ly rfl (yw 1 Ty.ag_45 st rfl) (La rfl (a_call rfl rfl rfl rfl (r13compact_ok (keys (hOf st) ++ X) _ st.Lo s.map A6 C6 A5 C5 vv (st.q 2 rfl) (st.q 3 rfl) h3 h4) (fun v w10 ⟨Ar3, cr3, Ar4, cr4, hv, hr3, hr4, hf⟩ => ?_))))))
    subst hv
    have st := st.keep0 hf
    have hF := hF.step0 hf
    have z11 := Sld.le hr3
    have st := st.addK (kS Ar3 (((r13compact_m s.map vv).1).puts).length cr3 7 ((((r13compact_m s.map vv).1).puts).flatMap putMC)) hr3
    have z12 := Sld.le hr4
    have st := st.addK (kS Ar4 (((r13compact_m s.map vv).1).gone).length cr4 3 ((((r13compact_m s.map vv).1).gone).flatMap tagMC)) hr4
    have st : St X w10 [_, _, _] [_, _, _, _, _, _] := st
    refine Lm rfl (Lx rfl (Lx rfl (Ly rfl (yf rfl Ty.fo_37_4) (La rfl (Ssm 0 Ty.sz_35 st hF (.inr hg1) rfl fun w11 (st : St _ _ [(_, Cl [_, _, _, _, _, _, _, _, _, _] _), _, _] _) hF => Ls' rfl (Ls_nil (Ib_n (Th_n (k3 _ _ (sq fun _ k19 => sq fun _ k20 => rg (Lm rfl (Ly rfl (yne rfl) (Ln k20 (cN rfl (fun hc7 => ?_) (fun hc7 => ?_)))))))))))))))
    · refine sq fun _ k21 => rg (Ly rfl (y_build (cells := [_, _, _, _, _, _, _, _, _, _]) rfl rfl Ty.zc_37 Ty.ps_37 rfl) (Lm rfl (La rfl (Ssw 2 Ty.sz_37 st hF (.inr hg3) rfl fun w12 (st : St _ _ [_, _, _] _) hF => Ls' rfl (Ln k21 ?_)))))
      have st := st.aN 4
      have st := st.aN 3
      have st := st.aN 7
      have st := st.aN 3
      refine wR (Th_r (fR (ResN2 rfl (rvc (i := 2) rfl Ty.ag_37 st.hp rfl rfl) rfl) ?_))
      unfold r14compact_m; rewrite [iN hc1, iN hc3, iN hc4, iP hc6, iN hc7]
      exact ⟨_, _, _, _, _, _, _, _, rfl, st.ot 6 rfl, st.ot 7 rfl, st.ot 8 rfl, st.ot 9 rfl, hF⟩
    refine sk k19 (sq fun _ k22 => rg (Ly rfl (yw 0 Ty.ag_37 st rfl) (La rfl (Ssw 2 Ty.sz_37 st hF (.inr hg3) rfl fun w13 (st : St _ _ [_, _, _] _) hF => Ls' rfl (Ln k22 (wR (fR (ResN2 rfl (rvc (i := 2) rfl Ty.ag_37 st.hp rfl rfl) rfl) ?_)))))))
    unfold r14compact_m; rewrite [iN hc1, iN hc3, iN hc4, iP hc6, iP hc7]
    exact ⟨_, _, _, _, _, _, _, _, rfl, st.ot 0 rfl, st.ot 1 rfl, st.ot 4 rfl, st.ot 5 rfl, hF⟩
  refine rg (Ls' rfl (Ls_nil (Ib_n (Th_n (k3 _ _ (sq fun _ k23 => sq fun _ k24 => rg (Lm rfl (Ly rfl (y_neT rfl rfl rfl (by decide)) ?_))))))))
  refine Ln k24 (Wp_cond_t rfl (sq fun _ k25 => rg (Ly rfl (y_build (cells := [_, _, _, _, _, _, _, _, _, _]) rfl rfl Ty.zc_37 Ty.ps_37 rfl) (Lm rfl (La rfl (Ssw 2 Ty.sz_37 st hF (.inr hg3) rfl fun w14 (st : St _ _ [_, _, _] _) hF => Ls' rfl (Ln k25 ?_)))))))
  have st := st.aN 4
  have st := st.aN 3
  have st := st.aN 7
  have st := st.aN 3
  refine wR (Th_r (fR (ResN2 rfl (rvc (i := 2) rfl Ty.ag_37 st.hp rfl rfl) rfl) ?_))
  unfold r14compact_m; rewrite [iN hc1, iN hc3, iN hc4, iN hc6]
  exact ⟨_, _, _, _, _, _, _, _, rfl, st.ot 4 rfl, st.ot 5 rfl, st.ot 6 rfl, st.ot 7 rfl, hF⟩
structure ValueM where
  kind : Int
  val : Int
  items : List ItemM
instance : Inhabited ValueM := ⟨⟨default, default, default⟩⟩
instance : DecidableEq ValueM := fun a b => decidable_of_iff (a.kind = b.kind ∧ a.val = b.val ∧ a.items = b.items) (by cases a; cases b; simp)
def sameValue_m (a : ValueM) (b : ValueM) : Bool :=
  if a.kind = b.kind then
    if a.val = b.val then
      sameItems_m a.items b.items
    else
      false
  else
    false
theorem sameValue_ok (X : List Nat) (w : World) (hX : Lo X w) (a : ValueM) (A1 : Option Addr) (C1 : Nat) (b : ValueM) (A2 : Option Addr) (C2 : Nat) (z3 : Sld X w A1 a.items.length C1 2 (a.items.flatMap itemMC)) (z4 : Sld X w A2 b.items.length C2 2 (b.items.flatMap itemMC)) :
    Fn Tryz.prog 13 [.agg #[.int .i64 a.kind, .int .i64 a.val, .slice A1 a.items.length C1], .agg #[.int .i64 b.kind, .int .i64 b.val, .slice A2 b.items.length C2]] w fun v w' => v = .bool (sameValue_m a b) ∧ Fr [] w w' := by
  refine Fn_of 24 Ty.en_13 Tryz.func13 rfl rfl rfl ?_
  dsimp only [argEnv]
  have st := stn2 hX z3 z4
  have hF := Fr.refl ([]) w
  refine sq fun _ k1 => rg (La rfl (Sbx st hF rfl fun g1 w1 (st : St _ _ [_] _) hF hg1 => La rfl (Sbx st hF rfl fun g2 w2 (st : St _ _ [_, _] _) hF hg2 => Ls' rfl (Ln k1 (sq fun _ k2 => rg (Ly rfl (yf rfl Ty.fo_72_0) (Ly rfl (yl 0 Ty.pl_3 st rfl) (Ly rfl (yf rfl Ty.fo_72_0) (Ly rfl (yl 1 Ty.pl_3 st rfl) (Ly rfl (yeq rfl) (Lm rfl (bE (s := 10) rfl (fun hc1 => ?_) (fun hc1 => ?_)))))))))))))
  · refine LyT rfl (yf rfl Ty.fo_72_1) (LyT rfl (yl 0 Ty.pl_2 st rfl) (LyT rfl (yf rfl Ty.fo_72_1) (LyT rfl (yl 1 Ty.pl_2 st rfl) (LyT rfl (yeq rfl) (Ly rfl (yT rfl) (Lm rfl (bE (s := 17) rfl (fun hc2 => ?_) (fun hc2 => ?_))))))))
    · refine LyT rfl (yf rfl Ty.fo_72_2) (LyT rfl (yl 0 Ty.pl_70 st rfl) (LyT rfl (yf rfl Ty.fo_72_2) (LyT rfl (yl 1 Ty.pl_70 st rfl) (LaT rfl (Scl st hF rfl (sameItems_ok (keys (hOf st) ++ X) _ st.Lo a.items A1 C1 b.items A2 C2 (st.q 0 rfl) (st.q 1 rfl)) fun w3 st hF => Ly rfl (yT rfl) (Ls' rfl (Ln k2 (wR (fR (Res1 rfl rfl) ?_)))))))))
      unfold sameValue_m; rewrite [iP hc1, iP hc2]
      exact ⟨rfl, hF⟩
    refine LsF rfl (LsF rfl (LsF rfl (LsF rfl (LsF rfl (Ly rfl (yF rfl) (Ls' rfl (Ln k2 (wR (fR (Res1 rfl rfl) ?_)))))))))
    unfold sameValue_m; rewrite [iP hc1, iN hc2]
    exact ⟨rfl, hF⟩
  refine LsF rfl (LsF rfl (LsF rfl (LsF rfl (LsF rfl (Ly rfl (yF rfl) (Lm rfl (LsF rfl (LsF rfl (LsF rfl (LsF rfl (LsF rfl (Ly rfl (yF rfl) (Ls' rfl (Ln k2 (wR (fR (Res1 rfl rfl) ?_))))))))))))))))
  unfold sameValue_m; rewrite [iN hc1]
  exact ⟨rfl, hF⟩
def r14say_L1 (s : ObjM) : Nat → Int → (List ItemM) → (ValueM) ⊕ (Int × (List ItemM))
  | 0, s5, u2_2 => .inr (s5, u2_2)
  | fuel + 1, s5, u2_2 =>
    if s5 < ((r12elems_m s.setF).length : Int) then
      r14say_L1 s fuel (s5 + 1) (u2_2 ++ [(⟨ix (r12elems_m s.setF) s5, 0⟩ : ItemM)])
    else
      .inr (s5, u2_2)
def r14say_m (s : ObjM) : ValueM :=
  if s.kind = 1 then
    (⟨s.kind, s.reg.val, ([] : List ItemM)⟩ : ValueM)
  else
    if s.kind = 2 then
      (⟨s.kind, r11value_m s.num, ([] : List ItemM)⟩ : ValueM)
    else
      if s.kind = 3 then
        match r14say_L1 s ((((r12elems_m s.setF).length : Int) - (0 : Int)).toNat + 1) (0 : Int) ([] : List ItemM) with
        | .inl r => r
        | .inr (s5, u2_2) =>
          (⟨s.kind, 0, u2_2⟩ : ValueM)
      else
        if s.kind = 4 then
          (⟨s.kind, 0, r13items_m s.map⟩ : ValueM)
        else
          (⟨0, 0, ([] : List ItemM)⟩ : ValueM)
theorem r14say_ok (X : List Nat) (w : World) (hX : Lo X w) (s : ObjM) (A1 : Option Addr) (C1 : Nat) (A2 : Option Addr) (C2 : Nat) (A4 : Option Addr) (C4 : Nat) (A3 : Option Addr) (C3 : Nat) (z5 : Sld X w A1 s.setF.adds.length C1 4 (s.setF.adds.flatMap addMC)) (z6 : Sld X w A2 s.setF.gone.length C2 3 (s.setF.gone.flatMap tagMC)) (z8 : Sld X w A4 s.map.puts.length C4 7 (s.map.puts.flatMap putMC)) (z7 : Sld X w A3 s.map.gone.length C3 3 (s.map.gone.flatMap tagMC)) (h1 : s.setF.adds.length ≤ 1000000) (h2 : s.setF.gone.length ≤ 1000000) (h3 : s.map.puts.length ≤ 1000000) (h4 : s.map.gone.length ≤ 1000000) :
    Fn Tryz.prog 16 [.agg #[.int .i64 s.kind, .int .i64 s.reg.val, .int .u32 s.reg.atF.time, .int .i64 s.reg.atF.origin, .int .i64 s.num.plus, .int .i64 s.num.minus, .slice A1 s.setF.adds.length C1, .slice A2 s.setF.gone.length C2, .slice A4 s.map.puts.length C4, .slice A3 s.map.gone.length C3]] w fun v w' => ∃ (A5 : Option Addr) (C5 : Nat), v = .agg #[.int .i64 ((r14say_m s).kind), .int .i64 ((r14say_m s).val), .slice A5 ((r14say_m s).items).length C5] ∧ Sld X w' A5 ((r14say_m s).items).length C5 2 (((r14say_m s).items).flatMap itemMC) ∧ Fr [] w w' := by
  refine Fn_of 52 Ty.en_16 Tryz.func16 rfl rfl rfl ?_
  dsimp only [argEnv]
  have st := stn4 hX z5 z6 z8 z7
  have hF := Fr.refl ([]) w
  refine sq fun _ k1 => rg (La rfl (Sbx st hF rfl fun g1 w1 (st : St _ _ [_] _) hF hg1 => La rfl (Sal Ty.zc_72 st hF rfl fun g2 w2 (st : St _ _ [_, _] _) hF hg2 => Ln k1 (sq fun _ k2 => rg (Ly rfl (yf rfl Ty.fo_37_0) (Ly rfl (yl 0 Ty.pl_3 st rfl) (Ly rfl (y_build (cells := [_, _, _]) rfl rfl Ty.zc_72 Ty.ps_72 rfl) (La rfl (Sal Ty.zc_72 st hF rfl fun g3 w3 (st : St _ _ [_, _, _] _) hF hg3 => La rfl (Ssw 2 Ty.sz_72 st hF (.inr hg3) rfl fun w4 (st : St _ _ [_, _, _] _) hF => Ln k2 (sq fun _ k3 => sq fun _ k4 => rg (Ly rfl (yf rfl Ty.fo_37_0) (Ly rfl (yl 0 Ty.pl_3 st rfl) (Ln k4 (Wp_block (sq fun _ k5 => rg (Ly rfl (yeq rfl) (Ls' rfl (Ln k5 (cE rfl (fun hc1 => ?_) (fun hc1 => ?_)))))))))))))))))))))
  · refine rg (Ly rfl (yf rfl Ty.fo_37_1) (Ly rfl (yf rfl Ty.fo_26_0) (Ly rfl (yl 0 Ty.pl_2 st rfl) (Ly rfl (yf rfl Ty.fo_72_1) (La rfl (Ss1 2 Ty.sz_2 st hF (.inr hg3) rfl fun w5 (st : St _ _ [_, _, (_, Cl [_, _, _] _)] _) hF => Ls_nil (Ib_n (Th_n (k3 _ _ (sq fun _ k6 => rg (Ly rfl (yw 2 Ty.ag_72 st rfl) (La rfl (Ssw 1 Ty.sz_72 st hF (.inr hg2) rfl fun w6 (st : St _ _ [_, _, _] _) hF => Ln k6 ?_)))))))))))))
    have st := st.aN 2
    refine wR (fR (ResN1 rfl (rvc (i := 1) rfl Ty.ag_72 st.hp rfl rfl)) ?_)
    unfold r14say_m; rewrite [iP hc1]
    exact ⟨_, _, rfl, st.ot 4 rfl, hF⟩
  refine sq fun _ k7 => rg (Ly rfl (yeq rfl) (Ls' rfl (Ln k7 (cE rfl (fun hc2 => ?_) (fun hc2 => ?_)))))
  · refine rg (Ly rfl (yf rfl Ty.fo_37_2) (Ly rfl (ym 0 Ty.ag_28 st rfl) (La rfl (Scl st hF rfl (r11value_ok _ s.num) fun w7 st hF => Ly rfl (yf rfl Ty.fo_72_1) (La rfl (Ss1 2 Ty.sz_2 st hF (.inr hg3) rfl fun w8 (st : St _ _ [_, _, (_, Cl [_, _, _] _)] _) hF => Ls_nil (Ib_n (Th_n (k3 _ _ (sq fun _ k8 => rg (Ly rfl (yw 2 Ty.ag_72 st rfl) (La rfl (Ssw 1 Ty.sz_72 st hF (.inr hg2) rfl fun w9 (st : St _ _ [_, _, _] _) hF => Ln k8 ?_)))))))))))))
    have st := st.aN 2
    refine wR (fR (ResN1 rfl (rvc (i := 1) rfl Ty.ag_72 st.hp rfl rfl)) ?_)
    unfold r14say_m; rewrite [iN hc1, iP hc2]
    exact ⟨_, _, rfl, st.ot 4 rfl, hF⟩
  refine sq fun _ k9 => rg (Ly rfl (yeq rfl) (Ls' rfl (Ln k9 (cE rfl (fun hc3 => ?_) (fun hc3 => ?_)))))
  · refine sq fun _ k10 => rg (Ly rfl (yf rfl Ty.fo_37_3) (Ly rfl (ym 0 Ty.ag_32 st rfl) (La rfl (a_call rfl rfl rfl rfl (r12elems_ok (keys (hOf st) ++ X) _ st.Lo s.setF A1 C1 A2 C2 (st.q 0 rfl) (st.q 1 rfl) h1 h2) (fun v w10 ⟨Ar1, cr1, hv, hr1, hf⟩ => ?_)))))
    subst hv
    have st := st.keep0 hf
    have hF := hF.step0 hf
    have z10 := Sld.le hr1
    have st := st.addK (kS Ar1 (r12elems_m s.setF).length cr1 1 ((r12elems_m s.setF).flatMap (fun x => [sv x]))) hr1
    have st : St X w10 [_, _, _] [_, _, _, _, _] := st
    have hel := r12elems_len s.setF
    refine Ls' rfl (Ln k10 (sq fun _ k11 => rg (Ls' rfl (Ln k11 (Wp_block ?_)))))
    obtain ⟨st, how1, hnew1⟩ := st.rowN itemMC hF 2 129
    have st : St _ _ [_, _, _, _] _ := st
    refine lp (fun q E W => ∃ (s5 : Int) (u2_2 : List ItemM) (Au2_2 : Option Addr) (cu2_2 : Nat) (spu2_2 : List Value), E = [(2, .pointer (some ⟨g2, 0, none⟩)), (3, .pointer (some ⟨g3, 0, none⟩)), (4, .slice Ar1 ((r12elems_m s.setF).length) cr1), (5, .int .i64 s5)] ∧ jq q (fun m => (r14say_L1 s m s5 u2_2 = r14say_L1 s ((((r12elems_m s.setF).length : Int) - (0 : Int)).toNat + 1) (0 : Int) ([] : List ItemM) ∧ (((r12elems_m s.setF).length : Int) - s5).toNat < m)) (r14say_L1 s ((((r12elems_m s.setF).length : Int) - (0 : Int)).toNat + 1) (0 : Int) ([] : List ItemM) = .inr (s5, u2_2)) ∧ (0 ≤ s5 ∧ (u2_2.length : Int) ≤ s5) ∧ Ow Au2_2 u2_2.length cu2_2 2 (u2_2.flatMap itemMC) spu2_2 ∧ (∀ g, blkOf Au2_2 = some g → g ∈ ([]) ∨ w.heap.size ≤ g) ∧ St X W [(some g1, Cl [.int .i64 s.kind, .int .i64 s.reg.val, .int .u32 s.reg.atF.time, .int .i64 s.reg.atF.origin, .int .i64 s.num.plus, .int .i64 s.num.minus, .slice A1 s.setF.adds.length C1, .slice A2 s.setF.gone.length C2, .slice A4 s.map.puts.length C4, .slice A3 s.map.gone.length C3] 37), (some g2, Cl [.int .i64 0, .int .i64 0, .slice none 0 0] 72), (some g3, Cl [.int .i64 s.kind, .int .i64 0, .slice Au2_2 u2_2.length cu2_2] 72), (blkOf Au2_2, Cl (u2_2.flatMap itemMC ++ spu2_2) 129)] [kS A1 s.setF.adds.length C1 4 (s.setF.adds.flatMap addMC), kS A2 s.setF.gone.length C2 3 (s.setF.gone.flatMap tagMC), kS A4 s.map.puts.length C4 7 (s.map.puts.flatMap putMC), kS A3 s.map.gone.length C3 3 (s.map.gone.flatMap tagMC), kS Ar1 (r12elems_m s.setF).length cr1 1 ((r12elems_m s.setF).flatMap (fun x => [sv x]))] ∧ Fr ([]) w W) ((((r12elems_m s.setF).length : Int) - (0 : Int)).toNat + 1) [(2, _), (3, _), (4, _), (5, _)] ⟨rfl, rfl, rfl, rfl, trivial⟩ ⟨_, _, _, _, _, rfl, ⟨rfl, Nat.lt_succ_self _⟩, by first | omega | (simp; done) | (simp; omega), how1, hnew1, st, hF⟩ k3 ?_ fun hout1 => ?_
    · rintro E w11 ⟨s5, u2_2, Au2_2, cu2_2, spu2_2, rfl, hLk1, hinv, howu2_2, newu2_2, st, hF⟩
      unfold jq at hLk1; dsimp only at hLk1
      refine sq fun _ k12 => rg (Ly rfl (yw 2 Ty.ag_72 st rfl) (La rfl (Ssw 1 Ty.sz_72 st hF (.inr hg2) rfl fun w12 (st : St _ _ [_, _, _, _] _) hF => Ln k12 ?_)))
      have st : St X w12 [_, _, _] [_, _, _, _, _, _] := st.freeze (i := 3) [0, 1, 2] (by decide) rfl howu2_2 (by decide)
      refine wR (fR (ResN1 rfl (rvc (i := 1) rfl Ty.ag_72 st.hp rfl rfl)) ?_)
      unfold r14say_m; rewrite [iN hc1, iN hc2, iP hc3, hLk1]; (try dsimp only)
      exact ⟨_, _, rfl, st.ot 5 rfl, hF⟩
    rintro m E w13 ⟨s5, u2_2, Au2_2, cu2_2, spu2_2, rfl, ⟨hL1, hmu⟩, hinv, howu2_2, newu2_2, st, hF⟩
    obtain ⟨fuel, rfl⟩ : ∃ q, m = q + 1 := ⟨m - 1, by omega⟩
    refine sq fun _ k13 => sq fun _ k14 => rg (Lm rfl (Lm rfl (Ly rfl (yll rfl Tryz.underlying131) (Ly rfl (ylt rfl) (Ln k14 (cD rfl (fun hc4 => ?_) (fun hc4 => ?_)))))))
    · refine sk k13 (sq fun _ k15 => Wp_block ?_)
      refine Wp_planF (fun W => St X W (pickL (hOf st) [0, 1, 2]) (kOf st)) [(true, 0), (true, 1), (true, 2), (true, 3), (true, 4), (true, 5), (true, 6), (false, 7), (false, 8), (true, 9)] 10 Ty.mx_0 (by kernel_rfl) (by kernel_rfl) (by kernel_rfl) rfl ((st.pk [0, 1, 2] (by decide)).drew) ?_
      have st := st.drew
      have hF := hF.step0 (Fr.drew _)
      refine Py rfl (yf rfl Ty.fo_72_2) (Py rfl (y_load (i := 2) rfl rfl Ty.pl_70 (fun _ h => h.hp) rfl rfl) (Pm rfl (Pm rfl ?_)))
      obtain ⟨gi1, bi1, egi1⟩ := (st.k (i := 4) rfl).addr (fun _ => rfl) (by decide) (q := s5) (by omega) (by omega)
      subst egi1
      refine Py rfl (y_ixa (q := s5) rfl rfl rfl Ty.es_131 (by omega) (by omega)) ?_
      refine Py rfl (y_ldk1 (q := s5) 0 rfl rfl Ty.pl_9 (fun _ h => h.k (i := 4) rfl) (fun _ => rfl) (by omega) (by omega) rfl) ?_
      refine Py rfl (y_build (cells := [_, _]) rfl rfl Ty.zc_129 Ty.ps_129 rfl) (Pl_a rfl (wtd0 rfl) (by rfl) ?_)
      refine Sb (enc := itemMC) (⟨ix (r12elems_m s.setF) s5, 0⟩ : ItemM) Ty.es_70 Ty.zc_129 (fun _ => rfl) st hF rfl fun g4 w14 how2 hnew2 (st : St _ _ [_, _, _, _, _] _) hF => ?_
      refine ⟨(st.pk [0, 1, 2] (by decide)).tK 5, ?_⟩
      refine Pl_a rfl (wtd0 rfl) (by rfl) ?_
      refine Sap (enc := itemMC) u2_2 [(⟨ix (r12elems_m s.setF) s5, 0⟩ : ItemM)] 3 Ty.es_70 Ty.zc_129 Ty.by_129 (fun _ => rfl) itemMC_1 howu2_2 newu2_2 st hF (own_src (i := 4) st.hp rfl how2) (own_none how2) rfl (by first | omega | (simp; done) | (simp; omega)) (by first | omega | (simp; done) | (simp; omega)) fun Aa1 ca1 sp1 w15 how3 hnew3 (st : St _ _ [_, _, _, _, _] _) hF => ?_
      refine ⟨(st.pk [0, 1, 2] (by decide)).tK 5, ?_⟩
      refine Py rfl (yf rfl Ty.fo_72_2) (Pl_nil (Fin_a rfl (wtd0 rfl) (Ss1 2 Ty.sz_70 st hF (.inr hg3) rfl fun w16 (st : St _ _ [_, _, (_, Cl [_, _, _] _), _, _] _) hF => id (Ib_n (Th_n (k15 _ _ (rg (Lm rfl (Ly rfl (y_add (c := s5 + 1) rfl rfl rfl (wf_i64 (by omega))) ?_)))))))))
      refine Ls' rfl (Ls_nil (Th_n (?_)))
      exact ⟨fuel, [(2, _), (3, _), (4, _), (5, _)], Nat.lt_succ_self _, ⟨rfl, rfl, rfl, rfl, trivial⟩, (s5 + 1), (u2_2 ++ [(⟨ix (r12elems_m s.setF) s5, 0⟩ : ItemM)]), Aa1, ca1, sp1, rfl, ⟨by rewrite [← hL1, r14say_L1]; rewrite [iP hc4]; rfl, by omega⟩, by first | omega | (simp; done) | (simp; omega), how3, hnew3, (st.pk [0, 1, 2, 3] (by decide)).pickK [0, 1, 2, 3, 4], hF⟩
    refine Wp_exit (Th_e (Th_e (Ib_hit (Ib_n (Th_n (?_))))))
    exact hout1 _ [(2, _), (3, _), (4, _), (5, _)] _ ⟨rfl, rfl, rfl, rfl, trivial⟩ ⟨s5, u2_2, Au2_2, cu2_2, spu2_2, rfl, show _ = _ from by rewrite [← hL1, r14say_L1]; rewrite [iN hc4]; rfl, by omega, howu2_2, newu2_2, (st.pk [0, 1, 2, 3] (by decide)).pickK [0, 1, 2, 3, 4], hF⟩
  refine sq fun _ k16 => rg (Ly rfl (yeq rfl) (Ls' rfl (Ln k16 (cE rfl (fun hc5 => ?_) (fun hc5 => ?_)))))
  · refine rg (Ly rfl (yf rfl Ty.fo_37_4) (Ly rfl (ym 0 Ty.ag_35 st rfl) (La rfl (a_call rfl rfl rfl rfl (r13items_ok (keys (hOf st) ++ X) _ st.Lo s.map A4 C4 A3 C3 (st.q 2 rfl) (st.q 3 rfl) h3 h4) (fun v w17 ⟨Ar2, cr2, hv, hr2, hf⟩ => ?_)))))
    subst hv
    have st := st.keep0 hf
    have hF := hF.step0 hf
    have z11 := Sld.le hr2
    have st := st.addK (kS Ar2 (r13items_m s.map).length cr2 2 ((r13items_m s.map).flatMap itemMC)) hr2
    have st : St X w17 [_, _, _] [_, _, _, _, _] := st
    refine Ly rfl (yf rfl Ty.fo_72_2) (La rfl (Ss1 2 Ty.sz_70 st hF (.inr hg3) rfl fun w18 (st : St _ _ [_, _, (_, Cl [_, _, _] _)] _) hF => Ls_nil (Ib_n (Th_n (k3 _ _ (sq fun _ k17 => rg (Ly rfl (yw 2 Ty.ag_72 st rfl) (La rfl (Ssw 1 Ty.sz_72 st hF (.inr hg2) rfl fun w19 (st : St _ _ [_, _, _] _) hF => Ln k17 (wR (fR (ResN1 rfl (rvc (i := 1) rfl Ty.ag_72 st.hp rfl rfl)) ?_)))))))))))
    unfold r14say_m; rewrite [iN hc1, iN hc2, iN hc3, iP hc5]
    exact ⟨_, _, rfl, st.ot 4 rfl, hF⟩
  refine sq fun _ k18 => rg (Ly rfl (y_build (cells := [_, _, _]) rfl rfl Ty.zc_72 Ty.ps_72 rfl) (La rfl (Ssw 1 Ty.sz_72 st hF (.inr hg2) rfl fun w20 (st : St _ _ [_, _, _] _) hF => Ln k18 ?_)))
  have st := st.aN 2
  refine wR (Ib_r (Th_r (fR (ResN1 rfl (rvc (i := 1) rfl Ty.ag_72 st.hp rfl rfl)) ?_)))
  unfold r14say_m; rewrite [iN hc1, iN hc2, iN hc3, iN hc5]
  exact ⟨_, _, rfl, st.ot 4 rfl, hF⟩
end Go.Proofs.YtmenpoicgoijcaaGreat

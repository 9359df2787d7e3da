/- Walks printed by gen2.py out of our own specifications: what the functions named below do. -/
import Derived.Test.YtdckemiebnfjcaaGreatDoorSc
import Derived.Test.YtdckemiebnfjcaaGreatDoorPc
set_option linter.unusedSimpArgs false
set_option linter.unusedVariables false
set_option maxRecDepth 20000
namespace Go.Proofs.YtdckemiebnfjcaaGreatDoor
open Go.RowKit
theorem compactTag_eq (s : List TagM) : compactTag_m s = dd s := by
  unfold compactTag_m
  split
  · rename_i h0
    match s, h0 with
    | [], _ => rfl
    | [a], _ => rfl
    | a :: b :: l, h => simp at h; omega
  · rename_i h
    have hs : 1 ≤ s.length := by omega
    rcases compact_spec s (⟨⟨0, 0⟩, 0⟩ : TagM) (compactTag_L2 s) (compactTag_L1 s) (fun _ _ _ _ _ _ => rfl) (fun fuel s3 r0 => by
      rw [compactTag_L1]
      generalize compactTag_L2 s s3 r0 (((s.length : Int) - (1 : Int)).toNat + 1) s3 (1 : Int) r0 = X
      rcases X with r | ⟨a, b, c⟩ <;> rfl) hs (((s.length : Int) - (1 : Int)).toNat + 1) 1 (by omega) (by omega) (by
      match s, hs with
      | a :: l, _ => rfl) (by omega) with e | ⟨⟨q, e⟩, e2⟩
    · rw [e]
    · rw [e]; exact e2.symm
theorem compactStr_eq (s : List (List UInt8)) : compactStr_m s = dd s := by
  unfold compactStr_m
  split
  · rename_i h0
    match s, h0 with
    | [], _ => rfl
    | [a], _ => rfl
    | a :: b :: l, h => simp at h; omega
  · rename_i h
    have hs : 1 ≤ s.length := by omega
    rcases compact_spec s ([] : List UInt8) (compactStr_L2 s) (compactStr_L1 s) (fun _ _ _ _ _ _ => rfl) (fun fuel s3 r0 => by
      rw [compactStr_L1]
      generalize compactStr_L2 s s3 r0 (((s.length : Int) - (1 : Int)).toNat + 1) s3 (1 : Int) r0 = X
      rcases X with r | ⟨a, b, c⟩ <;> rfl) hs (((s.length : Int) - (1 : Int)).toNat + 1) 1 (by omega) (by omega) (by
      match s, hs with
      | a :: l, _ => rfl) (by omega) with e | ⟨⟨q, e⟩, e2⟩
    · rw [e]
    · rw [e]; exact e2.symm
theorem oelems_z (s : SetM) : oelems_m s = if ocheck_m s = 0 then dd (sortS (s.adds.map (·.elem))) else [] := by
  unfold oelems_m
  rw [loop_fold0 s.adds (fun acc x => acc ++ [x.elem]) (oelems_L1 s) (fun _ _ _ _ => rfl)]
  simp only [foldl_map_app, List.nil_append, compactStr_eq]
theorem oelems_len (s : SetM) : (oelems_m s).length ≤ s.adds.length := by
  rw [oelems_z]; split
  · have := dd_len (sortS (s.adds.map (·.elem))); rw [sortS_len, List.length_map] at this; exact this
  · simp
def oapply_m (s : ObjM) (e : EffectM) : ObjM × Int :=
  if (ocheckE_m e) = 0 then
    if (okind_m e.act) = s.kind then
      if e.act = 1 then
        if ((wapply_m (⟨((oown_m s).reg).val, (⟨((oown_m s).reg).atF.time, ((oown_m s).reg).atF.origin⟩ : StampM)⟩ : RegM) e.val e.atF).2) = 0 then
          ((⟨(oown_m s).kind, (⟨((wapply_m (⟨((oown_m s).reg).val, (⟨((oown_m s).reg).atF.time, ((oown_m s).reg).atF.origin⟩ : StampM)⟩ : RegM) e.val e.atF).1).val, (⟨((wapply_m (⟨((oown_m s).reg).val, (⟨((oown_m s).reg).atF.time, ((oown_m s).reg).atF.origin⟩ : StampM)⟩ : RegM) e.val e.atF).1).atF.time, ((wapply_m (⟨((oown_m s).reg).val, (⟨((oown_m s).reg).atF.time, ((oown_m s).reg).atF.origin⟩ : StampM)⟩ : RegM) e.val e.atF).1).atF.origin⟩ : StampM)⟩ : RegM), (⟨((oown_m s).num).plus, ((oown_m s).num).minus⟩ : NumM), (⟨((oown_m s).setF).adds, ((oown_m s).setF).gone⟩ : SetM), (⟨((oown_m s).map).puts, ((oown_m s).map).gone⟩ : MapM)⟩ : ObjM), 0)
        else
          ((⟨0, (⟨0, (⟨0, 0⟩ : StampM)⟩ : RegM), (⟨0, 0⟩ : NumM), (⟨([] : List AddM), ([] : List TagM)⟩ : SetM), (⟨([] : List PutM), ([] : List TagM)⟩ : MapM)⟩ : ObjM), (wapply_m (⟨((oown_m s).reg).val, (⟨((oown_m s).reg).atF.time, ((oown_m s).reg).atF.origin⟩ : StampM)⟩ : RegM) e.val e.atF).2)
      else
        if e.act = 2 then
          if ((napply_m (⟨((oown_m s).num).plus, ((oown_m s).num).minus⟩ : NumM) e.val).2) = 0 then
            ((⟨(oown_m s).kind, (⟨((oown_m s).reg).val, (⟨((oown_m s).reg).atF.time, ((oown_m s).reg).atF.origin⟩ : StampM)⟩ : RegM), (⟨((napply_m (⟨((oown_m s).num).plus, ((oown_m s).num).minus⟩ : NumM) e.val).1).plus, ((napply_m (⟨((oown_m s).num).plus, ((oown_m s).num).minus⟩ : NumM) e.val).1).minus⟩ : NumM), (⟨((oown_m s).setF).adds, ((oown_m s).setF).gone⟩ : SetM), (⟨((oown_m s).map).puts, ((oown_m s).map).gone⟩ : MapM)⟩ : ObjM), 0)
          else
            ((⟨0, (⟨0, (⟨0, 0⟩ : StampM)⟩ : RegM), (⟨0, 0⟩ : NumM), (⟨([] : List AddM), ([] : List TagM)⟩ : SetM), (⟨([] : List PutM), ([] : List TagM)⟩ : MapM)⟩ : ObjM), (napply_m (⟨((oown_m s).num).plus, ((oown_m s).num).minus⟩ : NumM) e.val).2)
        else
          if e.act = 3 then
            if ((oput_m (⟨((oown_m s).setF).adds, ((oown_m s).setF).gone⟩ : SetM) (⟨e.tag, e.name⟩ : AddM)).2) = 0 then
              ((⟨(oown_m s).kind, (⟨((oown_m s).reg).val, (⟨((oown_m s).reg).atF.time, ((oown_m s).reg).atF.origin⟩ : StampM)⟩ : RegM), (⟨((oown_m s).num).plus, ((oown_m s).num).minus⟩ : NumM), (⟨((oput_m (⟨((oown_m s).setF).adds, ((oown_m s).setF).gone⟩ : SetM) (⟨e.tag, e.name⟩ : AddM)).1).adds, ((oput_m (⟨((oown_m s).setF).adds, ((oown_m s).setF).gone⟩ : SetM) (⟨e.tag, e.name⟩ : AddM)).1).gone⟩ : SetM), (⟨((oown_m s).map).puts, ((oown_m s).map).gone⟩ : MapM)⟩ : ObjM), 0)
            else
              ((⟨0, (⟨0, (⟨0, 0⟩ : StampM)⟩ : RegM), (⟨0, 0⟩ : NumM), (⟨([] : List AddM), ([] : List TagM)⟩ : SetM), (⟨([] : List PutM), ([] : List TagM)⟩ : MapM)⟩ : ObjM), (oput_m (⟨((oown_m s).setF).adds, ((oown_m s).setF).gone⟩ : SetM) (⟨e.tag, e.name⟩ : AddM)).2)
          else
            if e.act = 4 then
              if ((odrop_m (⟨((oown_m s).setF).adds, ((oown_m s).setF).gone⟩ : SetM) e.tags).2) = 0 then
                ((⟨(oown_m s).kind, (⟨((oown_m s).reg).val, (⟨((oown_m s).reg).atF.time, ((oown_m s).reg).atF.origin⟩ : StampM)⟩ : RegM), (⟨((oown_m s).num).plus, ((oown_m s).num).minus⟩ : NumM), (⟨((odrop_m (⟨((oown_m s).setF).adds, ((oown_m s).setF).gone⟩ : SetM) e.tags).1).adds, ((odrop_m (⟨((oown_m s).setF).adds, ((oown_m s).setF).gone⟩ : SetM) e.tags).1).gone⟩ : SetM), (⟨((oown_m s).map).puts, ((oown_m s).map).gone⟩ : MapM)⟩ : ObjM), 0)
              else
                ((⟨0, (⟨0, (⟨0, 0⟩ : StampM)⟩ : RegM), (⟨0, 0⟩ : NumM), (⟨([] : List AddM), ([] : List TagM)⟩ : SetM), (⟨([] : List PutM), ([] : List TagM)⟩ : MapM)⟩ : ObjM), (odrop_m (⟨((oown_m s).setF).adds, ((oown_m s).setF).gone⟩ : SetM) e.tags).2)
            else
              if e.act = 5 then
                if ((mapply_m (⟨((oown_m s).map).puts, ((oown_m s).map).gone⟩ : MapM) (⟨e.tag, e.name, e.val, e.atF⟩ : PutM)).2) = 0 then
                  ((⟨(oown_m s).kind, (⟨((oown_m s).reg).val, (⟨((oown_m s).reg).atF.time, ((oown_m s).reg).atF.origin⟩ : StampM)⟩ : RegM), (⟨((oown_m s).num).plus, ((oown_m s).num).minus⟩ : NumM), (⟨((oown_m s).setF).adds, ((oown_m s).setF).gone⟩ : SetM), (⟨((mapply_m (⟨((oown_m s).map).puts, ((oown_m s).map).gone⟩ : MapM) (⟨e.tag, e.name, e.val, e.atF⟩ : PutM)).1).puts, ((mapply_m (⟨((oown_m s).map).puts, ((oown_m s).map).gone⟩ : MapM) (⟨e.tag, e.name, e.val, e.atF⟩ : PutM)).1).gone⟩ : MapM)⟩ : ObjM), 0)
                else
                  ((⟨0, (⟨0, (⟨0, 0⟩ : StampM)⟩ : RegM), (⟨0, 0⟩ : NumM), (⟨([] : List AddM), ([] : List TagM)⟩ : SetM), (⟨([] : List PutM), ([] : List TagM)⟩ : MapM)⟩ : ObjM), (mapply_m (⟨((oown_m s).map).puts, ((oown_m s).map).gone⟩ : MapM) (⟨e.tag, e.name, e.val, e.atF⟩ : PutM)).2)
              else
                if e.act = 6 then
                  if ((mdrop_m (⟨((oown_m s).map).puts, ((oown_m s).map).gone⟩ : MapM) e.tags).2) = 0 then
                    ((⟨(oown_m s).kind, (⟨((oown_m s).reg).val, (⟨((oown_m s).reg).atF.time, ((oown_m s).reg).atF.origin⟩ : StampM)⟩ : RegM), (⟨((oown_m s).num).plus, ((oown_m s).num).minus⟩ : NumM), (⟨((oown_m s).setF).adds, ((oown_m s).setF).gone⟩ : SetM), (⟨((mdrop_m (⟨((oown_m s).map).puts, ((oown_m s).map).gone⟩ : MapM) e.tags).1).puts, ((mdrop_m (⟨((oown_m s).map).puts, ((oown_m s).map).gone⟩ : MapM) e.tags).1).gone⟩ : MapM)⟩ : ObjM), 0)
                  else
                    ((⟨0, (⟨0, (⟨0, 0⟩ : StampM)⟩ : RegM), (⟨0, 0⟩ : NumM), (⟨([] : List AddM), ([] : List TagM)⟩ : SetM), (⟨([] : List PutM), ([] : List TagM)⟩ : MapM)⟩ : ObjM), (mdrop_m (⟨((oown_m s).map).puts, ((oown_m s).map).gone⟩ : MapM) e.tags).2)
                else
                  ((⟨(oown_m s).kind, (⟨((oown_m s).reg).val, (⟨((oown_m s).reg).atF.time, ((oown_m s).reg).atF.origin⟩ : StampM)⟩ : RegM), (⟨((oown_m s).num).plus, ((oown_m s).num).minus⟩ : NumM), (⟨((oown_m s).setF).adds, ((oown_m s).setF).gone⟩ : SetM), (⟨((oown_m s).map).puts, ((oown_m s).map).gone⟩ : MapM)⟩ : ObjM), 0)
    else
      ((⟨0, (⟨0, (⟨0, 0⟩ : StampM)⟩ : RegM), (⟨0, 0⟩ : NumM), (⟨([] : List AddM), ([] : List TagM)⟩ : SetM), (⟨([] : List PutM), ([] : List TagM)⟩ : MapM)⟩ : ObjM), 5)
  else
    ((⟨0, (⟨0, (⟨0, 0⟩ : StampM)⟩ : RegM), (⟨0, 0⟩ : NumM), (⟨([] : List AddM), ([] : List TagM)⟩ : SetM), (⟨([] : List PutM), ([] : List TagM)⟩ : MapM)⟩ : ObjM), ocheckE_m e)
theorem oapply_ok (X : List Nat) (w : World) (hX : Lo X w) (s : ObjM) (A1 : Option Addr) (C1 : Nat) (A2 : Option Addr) (C2 : Nat) (A6 : Option Addr) (C6 : Nat) (A5 : Option Addr) (C5 : Nat) (e : EffectM) (A9 : Option Addr) (C9 : Nat) (z5 : Sld X w A1 s.setF.adds.length C1 4 (s.setF.adds.flatMap addMC)) (z6 : Sld X w A2 s.setF.gone.length C2 3 (s.setF.gone.flatMap tagMC)) (z8 : Sld X w A6 s.map.puts.length C6 7 (s.map.puts.flatMap putMC)) (z7 : Sld X w A5 s.map.gone.length C5 3 (s.map.gone.flatMap tagMC)) (z10 : Sld X w A9 e.tags.length C9 3 (e.tags.flatMap tagMC)) (h1 : s.setF.adds.length ≤ 1000000) (h2 : s.setF.gone.length ≤ 1000000) (h3 : s.map.puts.length ≤ 1000000) (h4 : s.map.gone.length ≤ 1000000) (h5 : e.tags.length ≤ 1000000) :
    Fn Tryz.prog 15 [.agg #[.int .i64 s.kind, .int .i64 s.reg.val, .int .u32 s.reg.atF.time, .int .i64 s.reg.atF.origin, .int .i64 s.num.plus, .int .i64 s.num.minus, .slice A1 s.setF.adds.length C1, .slice A2 s.setF.gone.length C2, .slice A6 s.map.puts.length C6, .slice A5 s.map.gone.length C5], .agg #[.int .i64 e.act, sv e.name, .int .i64 e.val, .int .i64 e.tag.id.origin, .int .u32 e.tag.id.seq, .int .i64 e.tag.n, .int .u32 e.atF.time, .int .i64 e.atF.origin, .slice A9 e.tags.length C9]] w fun v w' => ∃ (A3 : Option Addr) (C3 : Nat) (A4 : Option Addr) (C4 : Nat) (A8 : Option Addr) (C8 : Nat) (A7 : Option Addr) (C7 : Nat), v = .tuple #[.agg #[.int .i64 (((oapply_m s e).1).kind), .int .i64 ((((oapply_m s e).1).reg).val), .int .u32 ((((oapply_m s e).1).reg).atF.time), .int .i64 ((((oapply_m s e).1).reg).atF.origin), .int .i64 ((((oapply_m s e).1).num).plus), .int .i64 ((((oapply_m s e).1).num).minus), .slice A3 ((((oapply_m s e).1).setF).adds).length C3, .slice A4 ((((oapply_m s e).1).setF).gone).length C4, .slice A8 ((((oapply_m s e).1).map).puts).length C8, .slice A7 ((((oapply_m s e).1).map).gone).length C7], .int .i64 ((oapply_m s e).2)] ∧ Sld X w' A3 ((((oapply_m s e).1).setF).adds).length C3 4 (((((oapply_m s e).1).setF).adds).flatMap addMC) ∧ Sld X w' A4 ((((oapply_m s e).1).setF).gone).length C4 3 (((((oapply_m s e).1).setF).gone).flatMap tagMC) ∧ Sld X w' A8 ((((oapply_m s e).1).map).puts).length C8 7 (((((oapply_m s e).1).map).puts).flatMap putMC) ∧ Sld X w' A7 ((((oapply_m s e).1).map).gone).length C7 3 (((((oapply_m s e).1).map).gone).flatMap tagMC) ∧ Fr [] w w' := by
  refine Fn_of 107 Ty.en_15 Tryz.func15 rfl rfl rfl ?_
  dsimp only [argEnv]
  have st := stn5 hX z5 z6 z8 z7 z10
  have hF := Fr.refl ([]) w
  have z1 := (st.q 0 rfl).le
  have z2 := (st.q 1 rfl).le
  have z4 := (st.q 2 rfl).le
  have z3 := (st.q 3 rfl).le
  have z9 := (st.q 4 rfl).le
  refine sq fun _ k1 => rg (La rfl (Sbx st hF rfl fun g1 w1 (st : St _ _ [_] _) hF hg1 => La rfl (Sbx st hF rfl fun g2 w2 (st : St _ _ [_, _] _) hF hg2 => La rfl (Sal Ty.zc_57 st hF rfl fun g3 w3 (st : St _ _ [_, _, _] _) hF hg3 => Ls' rfl (Ln k1 (sq fun _ k2 => rg (Ly rfl (yw 1 Ty.ag_59 st rfl) (La rfl (Scl st hF rfl (ocheckE_ok (keys (hOf st) ++ X) _ st.Lo e A9 C9 (st.q 4 rfl)) fun w4 st hF => Ls' rfl (Ln k2 (sq fun _ k3 => sq fun _ k4 => rg (Lm rfl (Ly rfl (yne rfl) (Ln k4 (cN rfl (fun hc1 => ?_) (fun hc1 => ?_))))))))))))))))
  · refine sq fun _ k5 => rg (Ly rfl (y_build (cells := [_, _, _, _, _, _, _, _, _, _]) rfl rfl Ty.zc_57 Ty.ps_57 rfl) (Lm rfl (La rfl (Ssw 2 Ty.sz_57 st hF (.inr hg3) rfl fun w5 (st : St _ _ [_, _, _] _) hF => Ls' rfl (Ln k5 ?_)))))
    have st := st.aN 4
    have st := st.aN 3
    have st := st.aN 7
    have st := st.aN 3
    refine wR (Th_r (fR (ResN2 rfl (rvc (i := 2) rfl Ty.ag_57 st.hp rfl rfl) rfl) ?_))
    unfold oapply_m; rewrite [iN hc1]
    exact ⟨_, _, _, _, _, _, _, _, rfl, st.ot 5 rfl, st.ot 6 rfl, st.ot 7 rfl, st.ot 8 rfl, hF⟩
  refine sk k3 (sq fun _ k6 => sq fun _ k7 => ?_)
  refine Wp_plan (fun W => St X W (pickL (hOf st) [0, 1, 2]) (kOf st)) [(true, 0), (true, 1), (true, 3), (true, 4), (false, 2), (true, 5)] Ty.mx_0 (by kernel_rfl) (by kernel_rfl) rfl ((st.pk [0, 1, 2] (by decide)).drew) ?_
  have st := st.drew
  have hF := hF.step0 (Fr.drew _)
  refine Py rfl (yf rfl Ty.fo_59_0) (Py rfl (y_load (i := 1) rfl rfl Ty.pl_3 (fun _ h => h.hp) rfl rfl) (Py rfl (yf rfl Ty.fo_57_0) (Py rfl (y_load (i := 0) rfl rfl Ty.pl_3 (fun _ h => h.hp) rfl rfl) (Pl_a rfl (wtd0 rfl) (by rfl) ?_))))
  refine Scl st hF rfl (okind_ok _ e.act) fun w6 st hF => ?_
  refine ⟨(st.pk [0, 1, 2] (by decide)).tK 5, ?_⟩
  refine Py rfl (yne rfl) (Pl_nil (Th_n (k7 _ _ (cN rfl (fun hc2 => ?_) (fun hc2 => ?_)))))
  · refine sq fun _ k8 => rg (Ly rfl (y_build (cells := [_, _, _, _, _, _, _, _, _, _]) rfl rfl Ty.zc_57 Ty.ps_57 rfl) (La rfl (Ssw 2 Ty.sz_57 st hF (.inr hg3) rfl fun w7 (st : St _ _ [_, _, _] _) hF => Ls' rfl (Ln k8 ?_))))
    have st := st.aN 4
    have st := st.aN 3
    have st := st.aN 7
    have st := st.aN 3
    refine wR (Th_r (fR (ResN2 rfl (rvc (i := 2) rfl Ty.ag_57 st.hp rfl rfl) rfl) ?_))
    unfold oapply_m; rewrite [iP hc1, iN hc2]
    exact ⟨_, _, _, _, _, _, _, _, rfl, st.ot 5 rfl, st.ot 6 rfl, st.ot 7 rfl, st.ot 8 rfl, hF⟩
  refine sk k6 (sq fun _ k9 => rg (Ly rfl (yw 0 Ty.ag_57 st rfl) (La rfl (a_call rfl rfl rfl rfl (oown_ok (keys (hOf st) ++ X) _ st.Lo s A1 C1 A2 C2 A6 C6 A5 C5 (st.q 0 rfl) (st.q 1 rfl) (st.q 2 rfl) (st.q 3 rfl) h1 h2 h3 h4) (fun v w8 ⟨Ar1, cr1, Ar2, cr2, Ar3, cr3, Ar4, cr4, hv, hr1, hr2, hr3, hr4, hf⟩ => ?_)))))
  subst hv
  have st := st.keep0 hf
  have hF := hF.step0 hf
  have z14 := Sld.le hr1
  have st := st.addK (kS Ar1 (((oown_m s).setF).adds).length cr1 4 ((((oown_m s).setF).adds).flatMap addMC)) hr1
  have z15 := Sld.le hr2
  have st := st.addK (kS Ar2 (((oown_m s).setF).gone).length cr2 3 ((((oown_m s).setF).gone).flatMap tagMC)) hr2
  have z16 := Sld.le hr3
  have st := st.addK (kS Ar3 (((oown_m s).map).puts).length cr3 7 ((((oown_m s).map).puts).flatMap putMC)) hr3
  have z17 := Sld.le hr4
  have st := st.addK (kS Ar4 (((oown_m s).map).gone).length cr4 3 ((((oown_m s).map).gone).flatMap tagMC)) hr4
  have st : St X w8 [_, _, _] [_, _, _, _, _, _, _, _, _] := st
  refine La rfl (Ssw 0 Ty.sz_57 st hF (.inr hg1) rfl fun w9 (st : St _ _ [_, _, _] _) hF => Ln k9 (sq fun _ k10 => sq fun _ k11 => rg (Ly rfl (yf rfl Ty.fo_59_0) (Ly rfl (yl 1 Ty.pl_3 st rfl) (Ln k11 (Wp_block (sq fun _ k12 => rg (Ly rfl (yeq rfl) (Ls' rfl (Ln k12 (cE rfl (fun hc3 => ?_) (fun hc3 => ?_))))))))))))
  · refine rg (Ly rfl (yf rfl Ty.fo_57_1) (Ly rfl (ym 0 Ty.ag_48 st rfl) (Ly rfl (yf rfl Ty.fo_59_2) (Ly rfl (yl 1 Ty.pl_2 st rfl) (Ly rfl (yf rfl Ty.fo_59_4) (Ly rfl (ym 1 Ty.ag_24 st rfl) (La rfl (Scl st hF rfl (wapply_ok _ (⟨((oown_m s).reg).val, (⟨((oown_m s).reg).atF.time, ((oown_m s).reg).atF.origin⟩ : StampM)⟩ : RegM) e.val e.atF) fun w10 st hF => Lm rfl (Lx rfl (Lx rfl (Ly rfl (yf rfl Ty.fo_57_1) (La rfl (Ssm 0 Ty.sz_48 st hF (.inr hg1) rfl fun w11 (st : St _ _ [(_, Cl [_, _, _, _, _, _, _, _, _, _] _), _, _] _) hF => Ls' rfl (Ls_nil (Ib_n (Th_n (k10 _ _ (sq fun _ k13 => sq fun _ k14 => rg (Lm rfl (Ly rfl (yne rfl) (Ln k14 (cN rfl (fun hc4 => ?_) (fun hc4 => ?_)))))))))))))))))))))))
    · refine sq fun _ k15 => rg (Ly rfl (y_build (cells := [_, _, _, _, _, _, _, _, _, _]) rfl rfl Ty.zc_57 Ty.ps_57 rfl) (Lm rfl (La rfl (Ssw 2 Ty.sz_57 st hF (.inr hg3) rfl fun w12 (st : St _ _ [_, _, _] _) hF => Ls' rfl (Ln k15 ?_)))))
      have st := st.aN 4
      have st := st.aN 3
      have st := st.aN 7
      have st := st.aN 3
      refine wR (Th_r (fR (ResN2 rfl (rvc (i := 2) rfl Ty.ag_57 st.hp rfl rfl) rfl) ?_))
      unfold oapply_m; rewrite [iP hc1, iP hc2, iP hc3, iN hc4]
      exact ⟨_, _, _, _, _, _, _, _, rfl, st.ot 9 rfl, st.ot 10 rfl, st.ot 11 rfl, st.ot 12 rfl, hF⟩
    refine sk k13 (sq fun _ k16 => rg (Ly rfl (yw 0 Ty.ag_57 st rfl) (La rfl (Ssw 2 Ty.sz_57 st hF (.inr hg3) rfl fun w13 (st : St _ _ [_, _, _] _) hF => Ls' rfl (Ln k16 (wR (fR (ResN2 rfl (rvc (i := 2) rfl Ty.ag_57 st.hp rfl rfl) rfl) ?_)))))))
    unfold oapply_m; rewrite [iP hc1, iP hc2, iP hc3, iP hc4]
    exact ⟨_, _, _, _, _, _, _, _, rfl, st.ot 5 rfl, st.ot 6 rfl, st.ot 7 rfl, st.ot 8 rfl, hF⟩
  refine sq fun _ k17 => rg (Ly rfl (yeq rfl) (Ls' rfl (Ln k17 (cE rfl (fun hc5 => ?_) (fun hc5 => ?_)))))
  · refine rg (Ly rfl (yf rfl Ty.fo_57_2) (Ly rfl (ym 0 Ty.ag_49 st rfl) (Ly rfl (yf rfl Ty.fo_59_2) (Ly rfl (yl 1 Ty.pl_2 st rfl) (La rfl (Scl st hF rfl (napply_ok _ (⟨((oown_m s).num).plus, ((oown_m s).num).minus⟩ : NumM) e.val) fun w14 st hF => Lm rfl (Lx rfl (Lx rfl (Ly rfl (yf rfl Ty.fo_57_2) (La rfl (Ssm 0 Ty.sz_49 st hF (.inr hg1) rfl fun w15 (st : St _ _ [(_, Cl [_, _, _, _, _, _, _, _, _, _] _), _, _] _) hF => Ls' rfl (Ls_nil (Ib_n (Th_n (k10 _ _ (sq fun _ k18 => sq fun _ k19 => rg (Lm rfl (Ly rfl (yne rfl) (Ln k19 (cN rfl (fun hc6 => ?_) (fun hc6 => ?_)))))))))))))))))))))
    · refine sq fun _ k20 => rg (Ly rfl (y_build (cells := [_, _, _, _, _, _, _, _, _, _]) rfl rfl Ty.zc_57 Ty.ps_57 rfl) (Lm rfl (La rfl (Ssw 2 Ty.sz_57 st hF (.inr hg3) rfl fun w16 (st : St _ _ [_, _, _] _) hF => Ls' rfl (Ln k20 ?_)))))
      have st := st.aN 4
      have st := st.aN 3
      have st := st.aN 7
      have st := st.aN 3
      refine wR (Th_r (fR (ResN2 rfl (rvc (i := 2) rfl Ty.ag_57 st.hp rfl rfl) rfl) ?_))
      unfold oapply_m; rewrite [iP hc1, iP hc2, iN hc3, iP hc5, iN hc6]
      exact ⟨_, _, _, _, _, _, _, _, rfl, st.ot 9 rfl, st.ot 10 rfl, st.ot 11 rfl, st.ot 12 rfl, hF⟩
    refine sk k18 (sq fun _ k21 => rg (Ly rfl (yw 0 Ty.ag_57 st rfl) (La rfl (Ssw 2 Ty.sz_57 st hF (.inr hg3) rfl fun w17 (st : St _ _ [_, _, _] _) hF => Ls' rfl (Ln k21 (wR (fR (ResN2 rfl (rvc (i := 2) rfl Ty.ag_57 st.hp rfl rfl) rfl) ?_)))))))
    unfold oapply_m; rewrite [iP hc1, iP hc2, iN hc3, iP hc5, iP hc6]
    exact ⟨_, _, _, _, _, _, _, _, rfl, st.ot 5 rfl, st.ot 6 rfl, st.ot 7 rfl, st.ot 8 rfl, hF⟩
  refine sq fun _ k22 => rg (Ly rfl (yeq rfl) (Ls' rfl (Ln k22 (cE rfl (fun hc7 => ?_) (fun hc7 => ?_)))))
  · refine rg (Ly rfl (yf rfl Ty.fo_57_3) (Ly rfl (ym 0 Ty.ag_52 st rfl) (Ly rfl (yf rfl Ty.fo_59_3) (Ly rfl (ym 1 Ty.ag_43 st rfl) (Ly rfl (yf rfl Ty.fo_59_1) (Ly rfl (yl 1 Ty.pl_9 st rfl) (Ly rfl (y_build (cells := [_, _, _, _]) rfl rfl Ty.zc_126 Ty.ps_126 rfl) (La rfl (a_call rfl rfl rfl rfl (oput_ok (keys (hOf st) ++ X) _ st.Lo (⟨((oown_m s).setF).adds, ((oown_m s).setF).gone⟩ : SetM) Ar1 cr1 Ar2 cr2 (⟨e.tag, e.name⟩ : AddM) (st.q 5 rfl) (st.q 6 rfl) h1 h2) (fun v w18 ⟨Ar5, cr5, Ar6, cr6, hv, hr5, hr6, hf⟩ => ?_))))))))))
    subst hv
    have st := st.keep0 hf
    have hF := hF.step0 hf
    have z18 := Sld.le hr5
    have st := st.addK (kS Ar5 (((oput_m (⟨((oown_m s).setF).adds, ((oown_m s).setF).gone⟩ : SetM) (⟨e.tag, e.name⟩ : AddM)).1).adds).length cr5 4 ((((oput_m (⟨((oown_m s).setF).adds, ((oown_m s).setF).gone⟩ : SetM) (⟨e.tag, e.name⟩ : AddM)).1).adds).flatMap addMC)) hr5
    have z19 := Sld.le hr6
    have st := st.addK (kS Ar6 (((oput_m (⟨((oown_m s).setF).adds, ((oown_m s).setF).gone⟩ : SetM) (⟨e.tag, e.name⟩ : AddM)).1).gone).length cr6 3 ((((oput_m (⟨((oown_m s).setF).adds, ((oown_m s).setF).gone⟩ : SetM) (⟨e.tag, e.name⟩ : AddM)).1).gone).flatMap tagMC)) hr6
    have st : St X w18 [_, _, _] [_, _, _, _, _, _, _, _, _, _, _] := st
    refine Lm rfl (Lx rfl (Lx rfl (Ly rfl (yf rfl Ty.fo_57_3) (La rfl (Ssm 0 Ty.sz_52 st hF (.inr hg1) rfl fun w19 (st : St _ _ [(_, Cl [_, _, _, _, _, _, _, _, _, _] _), _, _] _) hF => Ls' rfl (Ls_nil (Ib_n (Th_n (k10 _ _ (sq fun _ k23 => sq fun _ k24 => rg (Lm rfl (Ly rfl (yne rfl) (Ln k24 (cN rfl (fun hc8 => ?_) (fun hc8 => ?_)))))))))))))))
    · refine sq fun _ k25 => rg (Ly rfl (y_build (cells := [_, _, _, _, _, _, _, _, _, _]) rfl rfl Ty.zc_57 Ty.ps_57 rfl) (Lm rfl (La rfl (Ssw 2 Ty.sz_57 st hF (.inr hg3) rfl fun w20 (st : St _ _ [_, _, _] _) hF => Ls' rfl (Ln k25 ?_)))))
      have st := st.aN 4
      have st := st.aN 3
      have st := st.aN 7
      have st := st.aN 3
      refine wR (Th_r (fR (ResN2 rfl (rvc (i := 2) rfl Ty.ag_57 st.hp rfl rfl) rfl) ?_))
      unfold oapply_m; rewrite [iP hc1, iP hc2, iN hc3, iN hc5, iP hc7, iN hc8]
      exact ⟨_, _, _, _, _, _, _, _, rfl, st.ot 11 rfl, st.ot 12 rfl, st.ot 13 rfl, st.ot 14 rfl, hF⟩
    refine sk k23 (sq fun _ k26 => rg (Ly rfl (yw 0 Ty.ag_57 st rfl) (La rfl (Ssw 2 Ty.sz_57 st hF (.inr hg3) rfl fun w21 (st : St _ _ [_, _, _] _) hF => Ls' rfl (Ln k26 (wR (fR (ResN2 rfl (rvc (i := 2) rfl Ty.ag_57 st.hp rfl rfl) rfl) ?_)))))))
    unfold oapply_m; rewrite [iP hc1, iP hc2, iN hc3, iN hc5, iP hc7, iP hc8]
    exact ⟨_, _, _, _, _, _, _, _, rfl, st.ot 9 rfl, st.ot 10 rfl, st.ot 7 rfl, st.ot 8 rfl, hF⟩
  refine sq fun _ k27 => rg (Ly rfl (yeq rfl) (Ls' rfl (Ln k27 (cE rfl (fun hc9 => ?_) (fun hc9 => ?_)))))
  · refine rg (Ly rfl (yf rfl Ty.fo_57_3) (Ly rfl (ym 0 Ty.ag_52 st rfl) (Ly rfl (yf rfl Ty.fo_59_5) (Ly rfl (yl 1 Ty.pl_30 st rfl) (La rfl (a_call rfl rfl rfl rfl (odrop_ok (keys (hOf st) ++ X) _ st.Lo (⟨((oown_m s).setF).adds, ((oown_m s).setF).gone⟩ : SetM) Ar1 cr1 Ar2 cr2 e.tags A9 C9 (st.q 5 rfl) (st.q 6 rfl) (st.q 4 rfl) h1 h2 h5) (fun v w22 ⟨Ar7, cr7, Ar8, cr8, hv, hr7, hr8, hf⟩ => ?_)))))))
    subst hv
    have st := st.keep0 hf
    have hF := hF.step0 hf
    have z20 := Sld.le hr7
    have st := st.addK (kS Ar7 (((odrop_m (⟨((oown_m s).setF).adds, ((oown_m s).setF).gone⟩ : SetM) e.tags).1).adds).length cr7 4 ((((odrop_m (⟨((oown_m s).setF).adds, ((oown_m s).setF).gone⟩ : SetM) e.tags).1).adds).flatMap addMC)) hr7
    have z21 := Sld.le hr8
    have st := st.addK (kS Ar8 (((odrop_m (⟨((oown_m s).setF).adds, ((oown_m s).setF).gone⟩ : SetM) e.tags).1).gone).length cr8 3 ((((odrop_m (⟨((oown_m s).setF).adds, ((oown_m s).setF).gone⟩ : SetM) e.tags).1).gone).flatMap tagMC)) hr8
    have st : St X w22 [_, _, _] [_, _, _, _, _, _, _, _, _, _, _] := st
    refine Lm rfl (Lx rfl (Lx rfl (Ly rfl (yf rfl Ty.fo_57_3) (La rfl (Ssm 0 Ty.sz_52 st hF (.inr hg1) rfl fun w23 (st : St _ _ [(_, Cl [_, _, _, _, _, _, _, _, _, _] _), _, _] _) hF => Ls' rfl (Ls_nil (Ib_n (Th_n (k10 _ _ (sq fun _ k28 => sq fun _ k29 => rg (Lm rfl (Ly rfl (yne rfl) (Ln k29 (cN rfl (fun hc10 => ?_) (fun hc10 => ?_)))))))))))))))
    · refine sq fun _ k30 => rg (Ly rfl (y_build (cells := [_, _, _, _, _, _, _, _, _, _]) rfl rfl Ty.zc_57 Ty.ps_57 rfl) (Lm rfl (La rfl (Ssw 2 Ty.sz_57 st hF (.inr hg3) rfl fun w24 (st : St _ _ [_, _, _] _) hF => Ls' rfl (Ln k30 ?_)))))
      have st := st.aN 4
      have st := st.aN 3
      have st := st.aN 7
      have st := st.aN 3
      refine wR (Th_r (fR (ResN2 rfl (rvc (i := 2) rfl Ty.ag_57 st.hp rfl rfl) rfl) ?_))
      unfold oapply_m; rewrite [iP hc1, iP hc2, iN hc3, iN hc5, iN hc7, iP hc9, iN hc10]
      exact ⟨_, _, _, _, _, _, _, _, rfl, st.ot 11 rfl, st.ot 12 rfl, st.ot 13 rfl, st.ot 14 rfl, hF⟩
    refine sk k28 (sq fun _ k31 => rg (Ly rfl (yw 0 Ty.ag_57 st rfl) (La rfl (Ssw 2 Ty.sz_57 st hF (.inr hg3) rfl fun w25 (st : St _ _ [_, _, _] _) hF => Ls' rfl (Ln k31 (wR (fR (ResN2 rfl (rvc (i := 2) rfl Ty.ag_57 st.hp rfl rfl) rfl) ?_)))))))
    unfold oapply_m; rewrite [iP hc1, iP hc2, iN hc3, iN hc5, iN hc7, iP hc9, iP hc10]
    exact ⟨_, _, _, _, _, _, _, _, rfl, st.ot 9 rfl, st.ot 10 rfl, st.ot 7 rfl, st.ot 8 rfl, hF⟩
  refine sq fun _ k32 => rg (Ly rfl (yeq rfl) (Ls' rfl (Ln k32 (cE rfl (fun hc11 => ?_) (fun hc11 => ?_)))))
  · refine rg (Ly rfl (yf rfl Ty.fo_57_4) (Ly rfl (ym 0 Ty.ag_55 st rfl) (Ly rfl (yf rfl Ty.fo_59_3) (Ly rfl (ym 1 Ty.ag_43 st rfl) (Ly rfl (yf rfl Ty.fo_59_1) (Ly rfl (yl 1 Ty.pl_9 st rfl) (Ly rfl (yf rfl Ty.fo_59_2) (Ly rfl (yl 1 Ty.pl_2 st rfl) (Ly rfl (yf rfl Ty.fo_59_4) (Ly rfl (ym 1 Ty.ag_24 st rfl) (Ly rfl (y_build (cells := [_, _, _, _, _, _, _]) rfl rfl Ty.zc_131 Ty.ps_131 rfl) (La rfl (a_call rfl rfl rfl rfl (mapply_ok (keys (hOf st) ++ X) _ st.Lo (⟨((oown_m s).map).puts, ((oown_m s).map).gone⟩ : MapM) Ar3 cr3 Ar4 cr4 (⟨e.tag, e.name, e.val, e.atF⟩ : PutM) (st.q 7 rfl) (st.q 8 rfl) h3 h4) (fun v w26 ⟨Ar9, cr9, Ar10, cr10, hv, hr9, hr10, hf⟩ => ?_))))))))))))))
    subst hv
    have st := st.keep0 hf
    have hF := hF.step0 hf
    have z22 := Sld.le hr9
    have st := st.addK (kS Ar9 (((mapply_m (⟨((oown_m s).map).puts, ((oown_m s).map).gone⟩ : MapM) (⟨e.tag, e.name, e.val, e.atF⟩ : PutM)).1).puts).length cr9 7 ((((mapply_m (⟨((oown_m s).map).puts, ((oown_m s).map).gone⟩ : MapM) (⟨e.tag, e.name, e.val, e.atF⟩ : PutM)).1).puts).flatMap putMC)) hr9
    have z11 := Sld.le hr10
    have st := st.addK (kS Ar10 (((mapply_m (⟨((oown_m s).map).puts, ((oown_m s).map).gone⟩ : MapM) (⟨e.tag, e.name, e.val, e.atF⟩ : PutM)).1).gone).length cr10 3 ((((mapply_m (⟨((oown_m s).map).puts, ((oown_m s).map).gone⟩ : MapM) (⟨e.tag, e.name, e.val, e.atF⟩ : PutM)).1).gone).flatMap tagMC)) hr10
    have st : St X w26 [_, _, _] [_, _, _, _, _, _, _, _, _, _, _] := st
    refine Lm rfl (Lx rfl (Lx rfl (Ly rfl (yf rfl Ty.fo_57_4) (La rfl (Ssm 0 Ty.sz_55 st hF (.inr hg1) rfl fun w27 (st : St _ _ [(_, Cl [_, _, _, _, _, _, _, _, _, _] _), _, _] _) hF => Ls' rfl (Ls_nil (Ib_n (Th_n (k10 _ _ (sq fun _ k33 => sq fun _ k34 => rg (Lm rfl (Ly rfl (yne rfl) (Ln k34 (cN rfl (fun hc12 => ?_) (fun hc12 => ?_)))))))))))))))
    · refine sq fun _ k35 => rg (Ly rfl (y_build (cells := [_, _, _, _, _, _, _, _, _, _]) rfl rfl Ty.zc_57 Ty.ps_57 rfl) (Lm rfl (La rfl (Ssw 2 Ty.sz_57 st hF (.inr hg3) rfl fun w28 (st : St _ _ [_, _, _] _) hF => Ls' rfl (Ln k35 ?_)))))
      have st := st.aN 4
      have st := st.aN 3
      have st := st.aN 7
      have st := st.aN 3
      refine wR (Th_r (fR (ResN2 rfl (rvc (i := 2) rfl Ty.ag_57 st.hp rfl rfl) rfl) ?_))
      unfold oapply_m; rewrite [iP hc1, iP hc2, iN hc3, iN hc5, iN hc7, iN hc9, iP hc11, iN hc12]
      exact ⟨_, _, _, _, _, _, _, _, rfl, st.ot 11 rfl, st.ot 12 rfl, st.ot 13 rfl, st.ot 14 rfl, hF⟩
    refine sk k33 (sq fun _ k36 => rg (Ly rfl (yw 0 Ty.ag_57 st rfl) (La rfl (Ssw 2 Ty.sz_57 st hF (.inr hg3) rfl fun w29 (st : St _ _ [_, _, _] _) hF => Ls' rfl (Ln k36 (wR (fR (ResN2 rfl (rvc (i := 2) rfl Ty.ag_57 st.hp rfl rfl) rfl) ?_)))))))
    unfold oapply_m; rewrite [iP hc1, iP hc2, iN hc3, iN hc5, iN hc7, iN hc9, iP hc11, iP hc12]
    exact ⟨_, _, _, _, _, _, _, _, rfl, st.ot 5 rfl, st.ot 6 rfl, st.ot 9 rfl, st.ot 10 rfl, hF⟩
  refine sq fun _ k37 => rg (Ly rfl (yeq rfl) (Ls' rfl (Ln k37 (cE rfl (fun hc13 => ?_) (fun hc13 => ?_)))))
  · refine rg (Ly rfl (yf rfl Ty.fo_57_4) (Ly rfl (ym 0 Ty.ag_55 st rfl) (Ly rfl (yf rfl Ty.fo_59_5) (Ly rfl (yl 1 Ty.pl_30 st rfl) (La rfl (a_call rfl rfl rfl rfl (mdrop_ok (keys (hOf st) ++ X) _ st.Lo (⟨((oown_m s).map).puts, ((oown_m s).map).gone⟩ : MapM) Ar3 cr3 Ar4 cr4 e.tags A9 C9 (st.q 7 rfl) (st.q 8 rfl) (st.q 4 rfl) h3 h4 h5) (fun v w30 ⟨Ar11, cr11, Ar12, cr12, hv, hr11, hr12, hf⟩ => ?_)))))))
    subst hv
    have st := st.keep0 hf
    have hF := hF.step0 hf
    have z12 := Sld.le hr11
    have st := st.addK (kS Ar11 (((mdrop_m (⟨((oown_m s).map).puts, ((oown_m s).map).gone⟩ : MapM) e.tags).1).puts).length cr11 7 ((((mdrop_m (⟨((oown_m s).map).puts, ((oown_m s).map).gone⟩ : MapM) e.tags).1).puts).flatMap putMC)) hr11
    have z13 := Sld.le hr12
    have st := st.addK (kS Ar12 (((mdrop_m (⟨((oown_m s).map).puts, ((oown_m s).map).gone⟩ : MapM) e.tags).1).gone).length cr12 3 ((((mdrop_m (⟨((oown_m s).map).puts, ((oown_m s).map).gone⟩ : MapM) e.tags).1).gone).flatMap tagMC)) hr12
    have st : St X w30 [_, _, _] [_, _, _, _, _, _, _, _, _, _, _] := st
    refine Lm rfl (Lx rfl (Lx rfl (Ly rfl (yf rfl Ty.fo_57_4) (La rfl (Ssm 0 Ty.sz_55 st hF (.inr hg1) rfl fun w31 (st : St _ _ [(_, Cl [_, _, _, _, _, _, _, _, _, _] _), _, _] _) hF => Ls' rfl (Ls_nil (Ib_n (Th_n (k10 _ _ (sq fun _ k38 => sq fun _ k39 => rg (Lm rfl (Ly rfl (yne rfl) (Ln k39 (cN rfl (fun hc14 => ?_) (fun hc14 => ?_)))))))))))))))
    · refine sq fun _ k40 => rg (Ly rfl (y_build (cells := [_, _, _, _, _, _, _, _, _, _]) rfl rfl Ty.zc_57 Ty.ps_57 rfl) (Lm rfl (La rfl (Ssw 2 Ty.sz_57 st hF (.inr hg3) rfl fun w32 (st : St _ _ [_, _, _] _) hF => Ls' rfl (Ln k40 ?_)))))
      have st := st.aN 4
      have st := st.aN 3
      have st := st.aN 7
      have st := st.aN 3
      refine wR (Th_r (fR (ResN2 rfl (rvc (i := 2) rfl Ty.ag_57 st.hp rfl rfl) rfl) ?_))
      unfold oapply_m; rewrite [iP hc1, iP hc2, iN hc3, iN hc5, iN hc7, iN hc9, iN hc11, iP hc13, iN hc14]
      exact ⟨_, _, _, _, _, _, _, _, rfl, st.ot 11 rfl, st.ot 12 rfl, st.ot 13 rfl, st.ot 14 rfl, hF⟩
    refine sk k38 (sq fun _ k41 => rg (Ly rfl (yw 0 Ty.ag_57 st rfl) (La rfl (Ssw 2 Ty.sz_57 st hF (.inr hg3) rfl fun w33 (st : St _ _ [_, _, _] _) hF => Ls' rfl (Ln k41 (wR (fR (ResN2 rfl (rvc (i := 2) rfl Ty.ag_57 st.hp rfl rfl) rfl) ?_)))))))
    unfold oapply_m; rewrite [iP hc1, iP hc2, iN hc3, iN hc5, iN hc7, iN hc9, iN hc11, iP hc13, iP hc14]
    exact ⟨_, _, _, _, _, _, _, _, rfl, st.ot 5 rfl, st.ot 6 rfl, st.ot 9 rfl, st.ot 10 rfl, hF⟩
  refine Wp_skip (Ib_n (Th_n (k10 _ _ (sq fun _ k42 => sq fun _ k43 => rg (Lm rfl (Ly rfl (yne rfl) (Ln k43 (Wp_cond rfl (fun hc15 => absurd hc15 (by simp [hc1])) (fun _ => ?_)))))))))
  refine sk k42 (sq fun _ k44 => rg (Ly rfl (yw 0 Ty.ag_57 st rfl) (La rfl (Ssw 2 Ty.sz_57 st hF (.inr hg3) rfl fun w34 (st : St _ _ [_, _, _] _) hF => Ls' rfl (Ln k44 (wR (fR (ResN2 rfl (rvc (i := 2) rfl Ty.ag_57 st.hp rfl rfl) rfl) ?_)))))))
  unfold oapply_m; rewrite [iP hc1, iP hc2, iN hc3, iN hc5, iN hc7, iN hc9, iN hc11, iN hc13]
  exact ⟨_, _, _, _, _, _, _, _, rfl, st.ot 5 rfl, st.ot 6 rfl, st.ot 7 rfl, st.ot 8 rfl, hF⟩
structure ValueM where
  kind : Int
  val : Int
  items : List ItemM
instance : Inhabited ValueM := ⟨⟨default, default, default⟩⟩
instance : DecidableEq ValueM := fun a b => decidable_of_iff (a.kind = b.kind ∧ a.val = b.val ∧ a.items = b.items) (by cases a; cases b; simp)
def osay_L1 (s : ObjM) : Nat → Int → (List ItemM) → (ValueM) ⊕ (Int × (List ItemM))
  | 0, s30, u2_2 => .inr (s30, u2_2)
  | fuel + 1, s30, u2_2 =>
    if s30 < ((oelems_m s.setF).length : Int) then
      osay_L1 s fuel (s30 + 1) (u2_2 ++ [(⟨ix (oelems_m s.setF) s30, 0⟩ : ItemM)])
    else
      .inr (s30, u2_2)
def osay_m (s : ObjM) : ValueM :=
  if s.kind = 1 then
    (⟨s.kind, s.reg.val, ([] : List ItemM)⟩ : ValueM)
  else
    if s.kind = 2 then
      (⟨s.kind, nvalue_m s.num, ([] : List ItemM)⟩ : ValueM)
    else
      if s.kind = 3 then
        match osay_L1 s ((((oelems_m s.setF).length : Int) - (0 : Int)).toNat + 1) (0 : Int) ([] : List ItemM) with
        | .inl r => r
        | .inr (s30, u2_2) =>
          (⟨s.kind, 0, u2_2⟩ : ValueM)
      else
        if s.kind = 4 then
          (⟨s.kind, 0, mitems_m s.map⟩ : ValueM)
        else
          (⟨0, 0, ([] : List ItemM)⟩ : ValueM)
theorem osay_ok (X : List Nat) (w : World) (hX : Lo X w) (s : ObjM) (A1 : Option Addr) (C1 : Nat) (A2 : Option Addr) (C2 : Nat) (A4 : Option Addr) (C4 : Nat) (A3 : Option Addr) (C3 : Nat) (z5 : Sld X w A1 s.setF.adds.length C1 4 (s.setF.adds.flatMap addMC)) (z6 : Sld X w A2 s.setF.gone.length C2 3 (s.setF.gone.flatMap tagMC)) (z8 : Sld X w A4 s.map.puts.length C4 7 (s.map.puts.flatMap putMC)) (z7 : Sld X w A3 s.map.gone.length C3 3 (s.map.gone.flatMap tagMC)) (h1 : s.setF.adds.length ≤ 1000000) (h2 : s.setF.gone.length ≤ 1000000) (h3 : s.map.puts.length ≤ 1000000) (h4 : s.map.gone.length ≤ 1000000) :
    Fn Tryz.prog 16 [.agg #[.int .i64 s.kind, .int .i64 s.reg.val, .int .u32 s.reg.atF.time, .int .i64 s.reg.atF.origin, .int .i64 s.num.plus, .int .i64 s.num.minus, .slice A1 s.setF.adds.length C1, .slice A2 s.setF.gone.length C2, .slice A4 s.map.puts.length C4, .slice A3 s.map.gone.length C3]] w fun v w' => ∃ (A5 : Option Addr) (C5 : Nat), v = .agg #[.int .i64 ((osay_m s).kind), .int .i64 ((osay_m s).val), .slice A5 ((osay_m s).items).length C5] ∧ Sld X w' A5 ((osay_m s).items).length C5 2 (((osay_m s).items).flatMap itemMC) ∧ Fr [] w w' := by
  refine Fn_of 49 Ty.en_16 Tryz.func16 rfl rfl rfl ?_
  dsimp only [argEnv]
  have st := stn4 hX z5 z6 z8 z7
  have hF := Fr.refl ([]) w
  have z1 := (st.q 0 rfl).le
  have z2 := (st.q 1 rfl).le
  have z4 := (st.q 2 rfl).le
  have z3 := (st.q 3 rfl).le
  refine sq fun _ k1 => rg (La rfl (Sbx st hF rfl fun g1 w1 (st : St _ _ [_] _) hF hg1 => La rfl (Sal Ty.zc_77 st hF rfl fun g2 w2 (st : St _ _ [_, _] _) hF hg2 => Ln k1 (sq fun _ k2 => rg (Ly rfl (yf rfl Ty.fo_57_0) (Ly rfl (yl 0 Ty.pl_3 st rfl) (Ly rfl (y_build (cells := [_, _, _]) rfl rfl Ty.zc_77 Ty.ps_77 rfl) (La rfl (Sal Ty.zc_77 st hF rfl fun g3 w3 (st : St _ _ [_, _, _] _) hF hg3 => La rfl (Ssw 2 Ty.sz_77 st hF (.inr hg3) rfl fun w4 (st : St _ _ [_, _, _] _) hF => Ln k2 (sq fun _ k3 => sq fun _ k4 => rg (Ly rfl (yf rfl Ty.fo_57_0) (Ly rfl (yl 0 Ty.pl_3 st rfl) (Ln k4 (Wp_block (sq fun _ k5 => rg (Ly rfl (yeq rfl) (Ls' rfl (Ln k5 (cE rfl (fun hc1 => ?_) (fun hc1 => ?_)))))))))))))))))))))
  · refine rg (Ly rfl (yf rfl Ty.fo_57_1) (Ly rfl (yf rfl Ty.fo_48_0) (Ly rfl (yl 0 Ty.pl_2 st rfl) (Ly rfl (yf rfl Ty.fo_77_1) (La rfl (Ss1 2 Ty.sz_2 st hF (.inr hg3) rfl fun w5 (st : St _ _ [_, _, (_, Cl [_, _, _] _)] _) hF => Ls_nil (Ib_n (Th_n (k3 _ _ (sq fun _ k6 => rg (Ly rfl (yw 2 Ty.ag_77 st rfl) (La rfl (Ssw 1 Ty.sz_77 st hF (.inr hg2) rfl fun w6 (st : St _ _ [_, _, _] _) hF => Ln k6 ?_)))))))))))))
    have st := st.aN 2
    refine wR (fR (ResN1 rfl (rvc (i := 1) rfl Ty.ag_77 st.hp rfl rfl)) ?_)
    unfold osay_m; rewrite [iP hc1]
    exact ⟨_, _, rfl, st.ot 4 rfl, hF⟩
  refine sq fun _ k7 => rg (Ly rfl (yeq rfl) (Ls' rfl (Ln k7 (cE rfl (fun hc2 => ?_) (fun hc2 => ?_)))))
  · refine rg (Ly rfl (yf rfl Ty.fo_57_2) (Ly rfl (ym 0 Ty.ag_49 st rfl) (La rfl (Scl st hF rfl (nvalue_ok _ s.num) fun w7 st hF => Ly rfl (yf rfl Ty.fo_77_1) (La rfl (Ss1 2 Ty.sz_2 st hF (.inr hg3) rfl fun w8 (st : St _ _ [_, _, (_, Cl [_, _, _] _)] _) hF => Ls_nil (Ib_n (Th_n (k3 _ _ (sq fun _ k8 => rg (Ly rfl (yw 2 Ty.ag_77 st rfl) (La rfl (Ssw 1 Ty.sz_77 st hF (.inr hg2) rfl fun w9 (st : St _ _ [_, _, _] _) hF => Ln k8 ?_)))))))))))))
    have st := st.aN 2
    refine wR (fR (ResN1 rfl (rvc (i := 1) rfl Ty.ag_77 st.hp rfl rfl)) ?_)
    unfold osay_m; rewrite [iN hc1, iP hc2]
    exact ⟨_, _, rfl, st.ot 4 rfl, hF⟩
  refine sq fun _ k9 => rg (Ly rfl (yeq rfl) (Ls' rfl (Ln k9 (cE rfl (fun hc3 => ?_) (fun hc3 => ?_)))))
  · refine sq fun _ k10 => rg (Ly rfl (yf rfl Ty.fo_57_3) (Ly rfl (ym 0 Ty.ag_52 st rfl) (La rfl (a_call rfl rfl rfl rfl (oelems_ok (keys (hOf st) ++ X) _ st.Lo s.setF A1 C1 A2 C2 (st.q 0 rfl) (st.q 1 rfl) h1 h2) (fun v w10 ⟨Ar1, cr1, hv, hr1, hf⟩ => ?_)))))
    subst hv
    have st := st.keep0 hf
    have hF := hF.step0 hf
    have z10 := Sld.le hr1
    have st := st.addK (kS Ar1 (oelems_m s.setF).length cr1 1 ((oelems_m s.setF).flatMap (fun x => [sv x]))) hr1
    have st : St X w10 [_, _, _] [_, _, _, _, _] := st
    have hel := oelems_len s.setF
    refine Ly rfl (yll rfl Tryz.underlying134) (Lm rfl (Ln k10 (Wp_block ?_)))
    obtain ⟨st, how1, hnew1⟩ := st.rowN itemMC hF 2 80
    have st : St _ _ [_, _, _, _] _ := st
    refine lp (fun q E W => ∃ (s30 : Int) (u2_2 : List ItemM) (Au2_2 : Option Addr) (cu2_2 : Nat) (spu2_2 : List Value), E = [(2, .pointer (some ⟨g2, 0, none⟩)), (3, .pointer (some ⟨g3, 0, none⟩)), (28, .slice Ar1 ((oelems_m s.setF).length) cr1), (29, .int .i64 ((oelems_m s.setF).length : Int)), (30, .int .i64 s30)] ∧ jq q (fun m => (osay_L1 s m s30 u2_2 = osay_L1 s ((((oelems_m s.setF).length : Int) - (0 : Int)).toNat + 1) (0 : Int) ([] : List ItemM) ∧ (((oelems_m s.setF).length : Int) - s30).toNat < m)) (osay_L1 s ((((oelems_m s.setF).length : Int) - (0 : Int)).toNat + 1) (0 : Int) ([] : List ItemM) = .inr (s30, u2_2)) ∧ (0 ≤ s30 ∧ (u2_2.length : Int) ≤ s30) ∧ Ow Au2_2 u2_2.length cu2_2 2 (u2_2.flatMap itemMC) spu2_2 ∧ (∀ g, blkOf Au2_2 = some g → g ∈ ([]) ∨ w.heap.size ≤ g) ∧ St X W [(some g1, Cl [.int .i64 s.kind, .int .i64 s.reg.val, .int .u32 s.reg.atF.time, .int .i64 s.reg.atF.origin, .int .i64 s.num.plus, .int .i64 s.num.minus, .slice A1 s.setF.adds.length C1, .slice A2 s.setF.gone.length C2, .slice A4 s.map.puts.length C4, .slice A3 s.map.gone.length C3] 57), (some g2, Cl [.int .i64 0, .int .i64 0, .slice none 0 0] 77), (some g3, Cl [.int .i64 s.kind, .int .i64 0, .slice Au2_2 u2_2.length cu2_2] 77), (blkOf Au2_2, Cl (u2_2.flatMap itemMC ++ spu2_2) 80)] [kS A1 s.setF.adds.length C1 4 (s.setF.adds.flatMap addMC), kS A2 s.setF.gone.length C2 3 (s.setF.gone.flatMap tagMC), kS A4 s.map.puts.length C4 7 (s.map.puts.flatMap putMC), kS A3 s.map.gone.length C3 3 (s.map.gone.flatMap tagMC), kS Ar1 (oelems_m s.setF).length cr1 1 ((oelems_m s.setF).flatMap (fun x => [sv x]))] ∧ Fr ([]) w W) ((((oelems_m s.setF).length : Int) - (0 : Int)).toNat + 1) [(2, _), (3, _), (28, _), (29, _), (30, _)] ⟨rfl, rfl, rfl, rfl, rfl, trivial⟩ ⟨_, _, _, _, _, rfl, ⟨rfl, Nat.lt_succ_self _⟩, by first | omega | (simp; done) | (simp; omega), how1, hnew1, st, hF⟩ k3 ?_ fun hout1 => ?_
    · rintro E w11 ⟨s30, u2_2, Au2_2, cu2_2, spu2_2, rfl, hLk1, hinv, howu2_2, newu2_2, st, hF⟩
      unfold jq at hLk1; dsimp only at hLk1
      refine sq fun _ k11 => rg (Ly rfl (yw 2 Ty.ag_77 st rfl) (La rfl (Ssw 1 Ty.sz_77 st hF (.inr hg2) rfl fun w12 (st : St _ _ [_, _, _, _] _) hF => Ln k11 ?_)))
      have st : St X w12 [_, _, _] [_, _, _, _, _, _] := st.freeze (i := 3) [0, 1, 2] (by decide) rfl howu2_2 (by decide)
      refine wR (fR (ResN1 rfl (rvc (i := 1) rfl Ty.ag_77 st.hp rfl rfl)) ?_)
      unfold osay_m; rewrite [iN hc1, iN hc2, iP hc3, hLk1]; (try dsimp only)
      exact ⟨_, _, rfl, st.ot 5 rfl, hF⟩
    rintro m E w13 ⟨s30, u2_2, Au2_2, cu2_2, spu2_2, rfl, ⟨hL1, hmu⟩, hinv, howu2_2, newu2_2, st, hF⟩
    obtain ⟨fuel, rfl⟩ : ∃ q, m = q + 1 := ⟨m - 1, by omega⟩
    have z9 := Ow.le howu2_2
    refine sq fun _ k12 => rg (Ly rfl (ylt rfl) (Ln k12 (sq fun _ k13 => cD rfl (fun hc4 => ?_) (fun hc4 => ?_))))
    · refine sk k13 (sq fun _ k14 => Wp_block (sq fun _ k15 => rg ?_))
      obtain ⟨gi1, bi1, egi1⟩ := (st.k (i := 4) rfl).addr (fun _ => rfl) (by decide) (q := s30) (by first | omega | (simp; done) | (simp; omega)) (by first | omega | (simp; done) | (simp; omega))
      subst egi1
      refine Ly rfl (y_ixa (q := s30) rfl rfl rfl Ty.es_134 (by first | omega | (simp; done) | (simp; omega)) (by first | omega | (simp; done) | (simp; omega))) ?_
      refine Ly rfl (y_ldk1 (q := s30) 0 rfl rfl Ty.pl_9 (fun _ e => e ▸ st.k (i := 4) rfl) (fun _ => rfl) (by first | omega | (simp; done) | (simp; omega)) (by first | omega | (simp; done) | (simp; omega)) rfl) ?_
      refine Ls' rfl (Ln k15 (rg (Ly rfl (yf rfl Ty.fo_77_2) (Ly rfl (yl 2 Ty.pl_75 st rfl) (Lm rfl (Ly rfl (y_build (cells := [_, _]) rfl rfl Ty.zc_80 Ty.ps_80 rfl) (La rfl (Sb (enc := itemMC) (⟨ix (oelems_m s.setF) s30, 0⟩ : ItemM) Ty.es_75 Ty.zc_80 (fun _ => rfl) st hF rfl fun g4 w14 how2 hnew2 (st : St _ _ [_, _, _, _, _] _) hF => La rfl (Sap (enc := itemMC) u2_2 [(⟨ix (oelems_m s.setF) s30, 0⟩ : ItemM)] 3 Ty.es_75 Ty.zc_80 Ty.by_80 (fun _ => rfl) itemMC_1 howu2_2 newu2_2 st hF (own_src (i := 4) st.hp rfl how2) (own_none how2) rfl (by first | omega | (simp; done) | (simp; omega)) (by first | omega | (simp; done) | (simp; omega)) fun Aa1 ca1 sp1 w15 how3 hnew3 (st : St _ _ [_, _, _, _, _] _) hF => ?_)))))))))
      refine Ly rfl (yf rfl Ty.fo_77_2) (La rfl (Ss1 2 Ty.sz_75 st hF (.inr hg3) rfl fun w16 (st : St _ _ [_, _, (_, Cl [_, _, _] _), _, _] _) hF => Ls_nil (Ib_n (Th_n (k14 _ _ (rg (Ly rfl (y_add (c := s30 + 1) rfl rfl rfl (wf_i64 (by first | omega | (simp; done) | (simp; omega)))) ?_)))))))
      refine Lm rfl (Ls_nil (Th_n (?_)))
      exact ⟨fuel, [(2, _), (3, _), (28, _), (29, _), (30, _)], Nat.lt_succ_self _, ⟨rfl, rfl, rfl, rfl, rfl, trivial⟩, (s30 + 1), (u2_2 ++ [(⟨ix (oelems_m s.setF) s30, 0⟩ : ItemM)]), Aa1, ca1, sp1, rfl, ⟨by rewrite [← hL1, osay_L1]; rewrite [iP hc4]; rfl, by first | omega | (simp; done) | (simp; omega)⟩, by first | omega | (simp; done) | (simp; omega), how3, hnew3, (st.pk [0, 1, 2, 3] (by decide)).pickK [0, 1, 2, 3, 4], hF⟩
    refine Wp_exit (Th_e (Th_e (Ib_hit (Ib_n (Th_n (?_))))))
    exact hout1 _ [(2, _), (3, _), (28, _), (29, _), (30, _)] _ ⟨rfl, rfl, rfl, rfl, rfl, trivial⟩ ⟨s30, u2_2, Au2_2, cu2_2, spu2_2, rfl, show _ = _ from by rewrite [← hL1, osay_L1]; rewrite [iN hc4]; rfl, by first | omega | (simp; done) | (simp; omega), howu2_2, newu2_2, (st.pk [0, 1, 2, 3] (by decide)).pickK [0, 1, 2, 3, 4], hF⟩
  refine sq fun _ k16 => rg (Ly rfl (yeq rfl) (Ls' rfl (Ln k16 (cE rfl (fun hc5 => ?_) (fun hc5 => ?_)))))
  · refine rg (Ly rfl (yf rfl Ty.fo_57_4) (Ly rfl (ym 0 Ty.ag_55 st rfl) (La rfl (a_call rfl rfl rfl rfl (mitems_ok (keys (hOf st) ++ X) _ st.Lo s.map A4 C4 A3 C3 (st.q 2 rfl) (st.q 3 rfl) h3 h4) (fun v w17 ⟨Ar2, cr2, hv, hr2, hf⟩ => ?_)))))
    subst hv
    have st := st.keep0 hf
    have hF := hF.step0 hf
    have z11 := Sld.le hr2
    have st := st.addK (kS Ar2 (mitems_m s.map).length cr2 2 ((mitems_m s.map).flatMap itemMC)) hr2
    have st : St X w17 [_, _, _] [_, _, _, _, _] := st
    refine Ly rfl (yf rfl Ty.fo_77_2) (La rfl (Ss1 2 Ty.sz_75 st hF (.inr hg3) rfl fun w18 (st : St _ _ [_, _, (_, Cl [_, _, _] _)] _) hF => Ls_nil (Ib_n (Th_n (k3 _ _ (sq fun _ k17 => rg (Ly rfl (yw 2 Ty.ag_77 st rfl) (La rfl (Ssw 1 Ty.sz_77 st hF (.inr hg2) rfl fun w19 (st : St _ _ [_, _, _] _) hF => Ln k17 (wR (fR (ResN1 rfl (rvc (i := 1) rfl Ty.ag_77 st.hp rfl rfl)) ?_)))))))))))
    unfold osay_m; rewrite [iN hc1, iN hc2, iN hc3, iP hc5]
    exact ⟨_, _, rfl, st.ot 4 rfl, hF⟩
  refine sq fun _ k18 => rg (Ly rfl (y_build (cells := [_, _, _]) rfl rfl Ty.zc_77 Ty.ps_77 rfl) (La rfl (Ssw 1 Ty.sz_77 st hF (.inr hg2) rfl fun w20 (st : St _ _ [_, _, _] _) hF => Ln k18 ?_)))
  have st := st.aN 2
  refine wR (Ib_r (Th_r (fR (ResN1 rfl (rvc (i := 1) rfl Ty.ag_77 st.hp rfl rfl)) ?_)))
  unfold osay_m; rewrite [iN hc1, iN hc2, iN hc3, iN hc5]
  exact ⟨_, _, rfl, st.ot 4 rfl, hF⟩
end Go.Proofs.YtdckemiebnfjcaaGreatDoor

/- Walks printed by gen2.py out of our own specifications: what the functions named below do. -/
import Derived.Test.YtdckemiebnfjcaaGreatDoorSc
import Derived.Test.YtdckemiebnfjcaaGreatDoorZ8
import Derived.Test.YtdckemiebnfjcaaGreatDoorZ7
set_option linter.unusedSimpArgs false
set_option linter.unusedVariables false
set_option maxRecDepth 20000
namespace Go.Proofs.YtdckemiebnfjcaaGreatDoor
open Go.RowKit
open Go.Shelf Go.Lib Go.Sort in
theorem sortStr_ok (X : List Nat) (w : World) (s : List (List UInt8)) (A : Option Addr) (c : Nat) (sp : List Value) (hs : St X w [(blkOf A, Cl (s.flatMap (fun x => [sv x]) ++ sp) 9)] []) (how : Ow A s.length c 1 (s.flatMap (fun x => [sv x])) sp) (hs62 : s.length < 4611686018427387904) :
    Fn Tryz.prog 100 [.slice A s.length c] w fun v w' => v = .tuple #[] ∧ Ow A s.length c 1 ((sortS s).flatMap (fun x => [sv x])) sp ∧ (sortS s).length = s.length ∧ St X w' [(blkOf A, Cl ((sortS s).flatMap (fun x => [sv x]) ++ sp) 9)] [] ∧ Fr (keys [(blkOf A, Cl (s.flatMap (fun x => [sv x]) ++ sp) 9)]) w w' :=
  sortStrFn Ty.en_100 (fun blk cap ss w h1 h2 h3 => Tryz.slices_Sort_string blk 0 cap ss w h1 h2 h3) Tryz.slices_Sort_string_none X w s A c sp hs how hs62
theorem bs_in {α R : Type} [Inhabited α] (x : List α) (c : α → Int) (L : Nat → Int → Int → R ⊕ (Int × Int)) (h0 : ∀ i j, L 0 i j = .inr (i, j)) (hL : ∀ fuel i j, L (fuel + 1) i j = if i < j then (if c (ix x ((i + j) / 2)) < 0 then L fuel ((i + j) / 2 + 1) j else L fuel i ((i + j) / 2)) else .inr (i, j)) :
    ∀ (fuel : Nat) (i j : Int), 0 ≤ i → i ≤ j → j ≤ x.length → ∃ q r : Int, L fuel i j = .inr (q, r) ∧ 0 ≤ q ∧ q ≤ x.length
  | 0, i, j, h1, h2, h3 => ⟨i, j, h0 i j, h1, by omega⟩
  | fuel + 1, i, j, h1, h2, h3 => by
    rw [hL]
    split
    · split
      · exact bs_in x c L h0 hL fuel _ _ (by omega) (by omega) h3
      · exact bs_in x c L h0 hL fuel _ _ h1 (by omega) (by omega)
    · exact ⟨i, j, rfl, h1, by omega⟩
theorem bsearchAdd_in (x : List AddM) (t : TagM) (c : AddM → TagM → Int) : 0 ≤ (bsearchAdd_m x t c).1 ∧ (bsearchAdd_m x t c).1 ≤ x.length := by
  obtain ⟨q, r, h, h1, h2⟩ := bs_in x (fun a => c a t) (bsearchAdd_L1 x t c) (fun _ _ => rfl) (fun _ _ _ => rfl) (((x.length : Int) - (0 : Int)).toNat + 1) 0 x.length (by omega) (by omega) (by omega)
  unfold bsearchAdd_m; rw [h]; dsimp only; split <;> exact ⟨h1, h2⟩
theorem bsearch_in (x : List TagM) (t : TagM) (c : TagM → TagM → Int) : 0 ≤ (bsearch_m x t c).1 ∧ (bsearch_m x t c).1 ≤ x.length := by
  obtain ⟨q, r, h, h1, h2⟩ := bs_in x (fun a => c a t) (bsearch_L1 x t c) (fun _ _ => rfl) (fun _ _ _ => rfl) (((x.length : Int) - (0 : Int)).toNat + 1) 0 x.length (by omega) (by omega) (by omega)
  unfold bsearch_m; rw [h]; dsimp only; split <;> exact ⟨h1, h2⟩
def oput_m (s : SetM) (a : AddM) : SetM × Int :=
  if (ocheck_m s) = 0 then
    if (onotTag_m a.tag) = true then
      ((⟨([] : List AddM), ([] : List TagM)⟩ : SetM), 2)
    else
      if (oelem_m a.elem) = true then
        if ((bsearchAdd_m s.adds a.tag obyTag_m).2) = true then
          ((⟨cloneAdd_m s.adds, cloneTag_m s.gone⟩ : SetM), 0)
        else
          if (ogone_m s a.tag) = true then
            ((⟨cloneAdd_m s.adds, cloneTag_m s.gone⟩ : SetM), 0)
          else
            if (s.adds.length : Int) = 4096 then
              ((⟨([] : List AddM), ([] : List TagM)⟩ : SetM), 4)
            else
              ((⟨insertAdd_m (cloneAdd_m s.adds) ((bsearchAdd_m s.adds a.tag obyTag_m).1) [a], cloneTag_m s.gone⟩ : SetM), 0)
      else
        ((⟨([] : List AddM), ([] : List TagM)⟩ : SetM), 3)
  else
    ((⟨([] : List AddM), ([] : List TagM)⟩ : SetM), ocheck_m s)
theorem oput_ok (X : List Nat) (w : World) (hX : Lo X w) (s : SetM) (A1 : Option Addr) (C1 : Nat) (A2 : Option Addr) (C2 : Nat) (a : AddM) (z3 : Sld X w A1 s.adds.length C1 4 (s.adds.flatMap addMC)) (z4 : Sld X w A2 s.gone.length C2 3 (s.gone.flatMap tagMC)) (h1 : s.adds.length ≤ 1000000) (h2 : s.gone.length ≤ 1000000) :
    Fn Tryz.prog 49 [.agg #[.slice A1 s.adds.length C1, .slice A2 s.gone.length C2], .agg (addMC a).toArray] w fun v w' => ∃ (A3 : Option Addr) (C3 : Nat) (A4 : Option Addr) (C4 : Nat), v = .tuple #[.agg #[.slice A3 (((oput_m s a).1).adds).length C3, .slice A4 (((oput_m s a).1).gone).length C4], .int .i64 ((oput_m s a).2)] ∧ Sld X w' A3 (((oput_m s a).1).adds).length C3 4 ((((oput_m s a).1).adds).flatMap addMC) ∧ Sld X w' A4 (((oput_m s a).1).gone).length C4 3 ((((oput_m s a).1).gone).flatMap tagMC) ∧ Fr [] w w' := by
  refine Fn_of 63 Ty.en_49 Tryz.func49 rfl rfl rfl ?_
  dsimp only [argEnv]
  have st := stn2 hX z3 z4
  have hF := Fr.refl ([]) w
  have z1 := (st.q 0 rfl).le
  have z2 := (st.q 1 rfl).le
  refine sq fun _ k1 => rg (La rfl (Sbx st hF rfl fun g1 w1 (st : St _ _ [_] _) hF hg1 => La rfl (Sbx st hF rfl fun g2 w2 (st : St _ _ [_, _] _) hF hg2 => La rfl (Sal Ty.zc_52 st hF rfl fun g3 w3 (st : St _ _ [_, _, _] _) hF hg3 => Ls' rfl (Ln k1 (sq fun _ k2 => sq fun _ k3 => rg (Ly rfl (yw 0 Ty.ag_52 st rfl) (La rfl (Scl st hF rfl (ocheck_ok (keys (hOf st) ++ X) _ st.Lo s A1 C1 A2 C2 (st.q 0 rfl) (st.q 1 rfl) h2) fun w4 st hF => Ls' rfl (Ln k3 (sq fun _ k4 => rg (Lm rfl (Ly rfl (yne rfl) (Ln k4 (cN rfl (fun hc1 => ?_) (fun hc1 => ?_))))))))))))))))
  · refine sq fun _ k5 => rg (Ly rfl (y_build (cells := [_, _]) rfl rfl Ty.zc_52 Ty.ps_52 rfl) (Lm rfl (La rfl (Ssw 2 Ty.sz_52 st hF (.inr hg3) rfl fun w5 (st : St _ _ [_, _, _] _) hF => Ls' rfl (Ln k5 ?_)))))
    have st := st.aN 4
    have st := st.aN 3
    refine wR (Th_r (fR (ResN2 rfl (rvc (i := 2) rfl Ty.ag_52 st.hp rfl rfl) rfl) ?_))
    unfold oput_m; rewrite [iN hc1]
    exact ⟨_, _, _, _, rfl, st.ot 2 rfl, st.ot 3 rfl, hF⟩
  refine sk k2 (sq fun _ k6 => sq fun _ k7 => rg (Ly rfl (yf rfl Ty.fo_126_0) (Ly rfl (ym 1 Ty.ag_43 st rfl) (La rfl (Scl st hF rfl (onotTag_ok _ a.tag) fun w6 st hF => Ln k7 (cB rfl (fun hc2 => ?_) (fun hc2 => ?_)))))))
  · refine sq fun _ k8 => rg (Ly rfl (y_build (cells := [_, _]) rfl rfl Ty.zc_52 Ty.ps_52 rfl) (La rfl (Ssw 2 Ty.sz_52 st hF (.inr hg3) rfl fun w7 (st : St _ _ [_, _, _] _) hF => Ls' rfl (Ln k8 ?_))))
    have st := st.aN 4
    have st := st.aN 3
    refine wR (Th_r (fR (ResN2 rfl (rvc (i := 2) rfl Ty.ag_52 st.hp rfl rfl) rfl) ?_))
    unfold oput_m; rewrite [iP hc1, iP hc2]
    exact ⟨_, _, _, _, rfl, st.ot 2 rfl, st.ot 3 rfl, hF⟩
  refine sk k6 (sq fun _ k9 => sq fun _ k10 => rg (Ly rfl (yf rfl Ty.fo_126_1) (Ly rfl (yl 1 Ty.pl_9 st rfl) (La rfl (Scl st hF rfl (oelem_ok _ a.elem) fun w8 st hF => Ly rfl (yn rfl) (Ln k10 (cBn rfl (fun hc3 => ?_) (fun hc3 => ?_))))))))
  · refine sq fun _ k11 => rg (Ly rfl (y_build (cells := [_, _]) rfl rfl Ty.zc_52 Ty.ps_52 rfl) (La rfl (Ssw 2 Ty.sz_52 st hF (.inr hg3) rfl fun w9 (st : St _ _ [_, _, _] _) hF => Ls' rfl (Ln k11 ?_))))
    have st := st.aN 4
    have st := st.aN 3
    refine wR (Th_r (fR (ResN2 rfl (rvc (i := 2) rfl Ty.ag_52 st.hp rfl rfl) rfl) ?_))
    unfold oput_m; rewrite [iP hc1, iN hc2, iN hc3]
    exact ⟨_, _, _, _, rfl, st.ot 2 rfl, st.ot 3 rfl, hF⟩
  refine sk k9 (sq fun _ k12 => rg (Ly rfl (yf rfl Ty.fo_52_0) (Ly rfl (yl 0 Ty.pl_50 st rfl) (Ly rfl (yf rfl Ty.fo_126_0) (Ly rfl (ym 1 Ty.ag_43 st rfl) (La rfl (Scl st hF rfl (bsearchAdd_ok (keys (hOf st) ++ X) _ st.Lo s.adds A1 C1 a.tag (.func (.func 83) #[] #[]) obyTag_m (st.q 0 rfl) (fun w1 x0 x1 _ => FnV.of (obyTag_ok w1 x0 x1)) h1) fun w10 st hF => ?_)))))))
  have hbi := bsearchAdd_in s.adds a.tag obyTag_m
  refine Lm rfl (Lx rfl (Lx rfl (Ls' rfl (Ls' rfl (Ln k12 (sq fun _ k13 => ?_))))))
  refine Wp_pf (fun W => St X W (pickL (hOf st) [0, 1, 2]) (kOf st)) 9 8 rfl (by kernel_rfl) Ty.mx_0 ((st.pk [0, 1, 2] (by decide)).drew) ?_
  have st := st.drew
  have hF := hF.step0 (Fr.drew _)
  refine Pf_y (i := 0) rfl (by kernel_rfl) (wtd0 rfl) rfl rfl (yf rfl Ty.fo_52_0) ?_
  refine Pf_y (i := 1) rfl (by kernel_rfl) (wtd0 rfl) rfl rfl (y_load (i := 0) rfl rfl Ty.pl_50 (fun _ h => h.hp) rfl rfl) ?_
  refine Pf_y (i := 3) rfl (by kernel_rfl) (wtd0 rfl) rfl rfl (yf rfl Ty.fo_52_1) ?_
  refine Pf_y (i := 4) rfl (by kernel_rfl) (wtd0 rfl) rfl rfl (y_load (i := 0) rfl rfl Ty.pl_30 (fun _ h => h.hp) rfl rfl) ?_
  refine Pf_a2 (i := 2) (j := 7) (by kernel_rfl) rfl (wtd0 rfl) rfl (wtd0 rfl) ?_ ?_
  · refine a_call rfl rfl rfl rfl (cloneAdd_ok (keys (hOf st) ++ X) _ st.Lo s.adds A1 C1 (st.q 0 rfl) h1) (fun v w11 ⟨Ao1, co1, spo1, hv, how1, hN1, hfO1, hkc1⟩ => ?_)
    subst hv
    have hnew1 : ∀ g, blkOf Ao1 = some g → g ∈ ([]) ∨ w.heap.size ≤ g := fun g hg => (hkc1 g (by simp [keys, hg])).elim (fun h => by simp at h) (fun h => .inr (Nat.le_trans hF.size h))
    have st := st.callN hN1 hfO1 (fun k hk => (hkc1 k hk).elim (fun h => by simp at h) id)
    have hF := hF.step0 hfO1
    have z6 := Ow.le how1
    have st : St X w11 [_, _, _, _] [_, _] := st
    refine ⟨(st.pk [0, 1, 2] (by decide)).tK 2, ?_⟩
    refine Pf_a2 (i := 5) (j := 7) (by kernel_rfl) rfl (wtd0 rfl) rfl (wtd0 rfl) ?_ ?_
    · refine a_call rfl rfl rfl rfl (cloneTag_ok (keys (hOf st) ++ X) _ st.Lo s.gone A2 C2 (st.q 1 rfl) h2) (fun v w12 ⟨Ao2, co2, spo2, hv, how2, hN2, hfO2, hkc2⟩ => ?_)
      subst hv
      have hnew2 : ∀ g, blkOf Ao2 = some g → g ∈ ([]) ∨ w.heap.size ≤ g := fun g hg => (hkc2 g (by simp [keys, hg])).elim (fun h => by simp at h) (fun h => .inr (Nat.le_trans hF.size h))
      have st := st.callN hN2 hfO2 (fun k hk => (hkc2 k hk).elim (fun h => by simp at h) id)
      have hF := hF.step0 hfO2
      have z7 := Ow.le how2
      have st : St X w12 [_, _, _, _, _] [_, _] := st
      refine ⟨(st.pk [0, 1, 2] (by decide)).tK 2, ?_⟩
      refine Pf_y (i := 6) rfl (by kernel_rfl) (wtd0 rfl) rfl rfl (y_build (cells := [_, _]) rfl rfl Ty.zc_52 Ty.ps_52 rfl) ?_
      refine Pf_a (i := 7) (by kernel_rfl) rfl (wtd0 rfl) ?_
      refine Sal Ty.zc_52 st hF rfl fun g4 w13 (st : St _ _ [_, _, _, _, _, _] _) hF hg4 => ?_
      refine ⟨(st.pk [0, 1, 2] (by decide)).tK 2, ?_⟩
      refine Pf_fin (by kernel_rfl) (by kernel_rfl) rfl (wtd0 rfl) ?_
      refine Ssw 5 Ty.sz_52 st hF (.inr hg4) rfl fun w14 (st : St _ _ [_, _, _, _, _, _] _) hF => id (Th_n (k13 _ _ (sq fun _ k14 => Wp_block (sq fun _ k15 => rg (Lm rfl (Lm rfl (bB (s := 42) rfl (fun hc4 => ?_) (fun hc4 => ?_))))))))
      · refine LsF rfl (LsF rfl (LsF rfl (LsF rfl (Ly rfl (yT rfl) (Ls' rfl (Ln k15 (Wp_cond_t rfl (sq fun _ k16 => rg (Ly rfl (yw 5 Ty.ag_52 st rfl) (La rfl (Ssw 2 Ty.sz_52 st hF (.inr hg3) rfl fun w15 (st : St _ _ [_, _, _, _, _, _] _) hF => Ls' rfl (Ln k16 ?_))))))))))))
        have st : St X w15 [_, _, _, _, _] [_, _, _] := st.freeze (i := 3) [0, 1, 2, 4, 5] (by decide) rfl how1 (by decide)
        have st : St X w15 [_, _, _, _] [_, _, _, _] := st.freeze (i := 3) [0, 1, 2, 4] (by decide) rfl how2 (by decide)
        refine wR (Ib_r (Th_r (fR (ResN2 rfl (rvc (i := 2) rfl Ty.ag_52 st.hp rfl rfl) rfl) ?_)))
        unfold oput_m; rewrite [iP hc1, iN hc2, iP hc3, iP hc4]
        exact ⟨_, _, _, _, rfl, st.ot 2 rfl, st.ot 3 rfl, hF⟩
      refine LyT rfl (yw 0 Ty.ag_52 st rfl) (LyT rfl (yf rfl Ty.fo_126_0) (LyT rfl (ym 1 Ty.ag_43 st rfl) (LaT rfl (Scl st hF rfl (ogone_ok (keys (hOf st) ++ X) _ st.Lo s A1 C1 A2 C2 a.tag (st.q 0 rfl) (st.q 1 rfl) h2) fun w16 st hF => Ly rfl (yF rfl) (Ls' rfl (Ln k15 (cB rfl (fun hc5 => ?_) (fun hc5 => ?_))))))))
      · refine sq fun _ k17 => rg (Ly rfl (yw 5 Ty.ag_52 st rfl) (La rfl (Ssw 2 Ty.sz_52 st hF (.inr hg3) rfl fun w17 (st : St _ _ [_, _, _, _, _, _] _) hF => Ls' rfl (Ln k17 ?_))))
        have st : St X w17 [_, _, _, _, _] [_, _, _] := st.freeze (i := 3) [0, 1, 2, 4, 5] (by decide) rfl how1 (by decide)
        have st : St X w17 [_, _, _, _] [_, _, _, _] := st.freeze (i := 3) [0, 1, 2, 4] (by decide) rfl how2 (by decide)
        refine wR (Ib_r (Th_r (fR (ResN2 rfl (rvc (i := 2) rfl Ty.ag_52 st.hp rfl rfl) rfl) ?_)))
        unfold oput_m; rewrite [iP hc1, iN hc2, iP hc3, iN hc4, iP hc5]
        exact ⟨_, _, _, _, rfl, st.ot 2 rfl, st.ot 3 rfl, hF⟩
      refine sq fun _ k18 => rg (Ly rfl (yf rfl Ty.fo_52_0) (Ly rfl (yl 0 Ty.pl_50 st rfl) (Ly rfl (yll rfl Tryz.underlying50) (Ly rfl (yeq rfl) (Ls' rfl (Ln k18 (cE rfl (fun hc6 => ?_) (fun hc6 => ?_))))))))
      · refine sq fun _ k19 => rg (Ly rfl (y_build (cells := [_, _]) rfl rfl Ty.zc_52 Ty.ps_52 rfl) (La rfl (Ssw 2 Ty.sz_52 st hF (.inr hg3) rfl fun w18 (st : St _ _ [_, _, _, _, _, _] _) hF => Ls' rfl (Ln k19 ?_))))
        have st := st.aN 4
        have st := st.aN 3
        refine wR (Ib_r (Th_r (fR (ResN2 rfl (rvc (i := 2) rfl Ty.ag_52 st.hp rfl rfl) rfl) ?_)))
        unfold oput_m; rewrite [iP hc1, iN hc2, iP hc3, iN hc4, iN hc5, iP hc6]
        exact ⟨_, _, _, _, rfl, st.ot 2 rfl, st.ot 3 rfl, hF⟩
      refine Wp_skip (Ib_n (Th_n (k14 _ _ (sq fun _ k20 => rg (Ly rfl (yf rfl Ty.fo_52_0) (Ly rfl (yl 5 Ty.pl_50 st rfl) (Lm rfl (Ly rfl (yw 1 Ty.ag_126 st rfl) (La rfl (Sb (enc := addMC) a Ty.es_50 Ty.zc_126 (fun _ => rfl) st hF rfl fun g5 w19 how3 hnew3 (st : St _ _ [_, _, _, _, _, _, _] _) hF => La rfl (a_call rfl rfl rfl rfl (insertAdd_ok (keys (pickL (hOf st) [0, 1, 2, 4, 5]) ++ X) _ (cloneAdd_m s.adds) Ao1 co1 spo1 ((bsearchAdd_m s.adds a.tag obyTag_m).1) [a] (some ⟨g5, 0, none⟩) 1 [] (st.sub [0, 1, 2, 4, 5] [3, 6] [] (by decide)) how1 how3 rfl hbi.1 hbi.2 h1) (fun v w20 ⟨Ao3, co3, spo3, hv, how4, hN3, hfO3, hkc3⟩ => ?_))))))))))))
      subst hv
      have hnew4 : ∀ g, blkOf Ao3 = some g → g ∈ ([]) ∨ w.heap.size ≤ g := fun g hg => (hkc3 g (by simp [keys, hg])).elim (fun h => (kc_b hnew1 (kc_b hnew3 (kc_n))) g h) (fun h => .inr (Nat.le_trans hF.size h))
      have st := st.callS [0, 1, 2, 4, 5] [3, 6] (by decide) rfl hN3 hfO3 hkc3
      have hF := hF.step hfO3 (kc_b hnew1 (kc_b hnew3 (kc_n)))
      have z8 := Ow.le how4
      have st : St X w20 [_, _, _, _, _, _] [_, _] := st
      refine Ly rfl (yf rfl Ty.fo_52_0) (La rfl (Ss1 4 Ty.sz_50 st hF (.inr hg4) rfl fun w21 (st : St _ _ [_, _, _, _, (_, Cl [_, _] _), _] _) hF => Ln k20 (sq fun _ k21 => rg (Ly rfl (yw 4 Ty.ag_52 st rfl) (La rfl (Ssw 2 Ty.sz_52 st hF (.inr hg3) rfl fun w22 (st : St _ _ [_, _, _, _, _, _] _) hF => Ls' rfl (Ln k21 ?_)))))))
      have st : St X w22 [_, _, _, _, _] [_, _, _] := st.freeze (i := 5) [0, 1, 2, 3, 4] (by decide) rfl how4 (by decide)
      have st : St X w22 [_, _, _, _] [_, _, _, _] := st.freeze (i := 3) [0, 1, 2, 4] (by decide) rfl how2 (by decide)
      refine wR (fR (ResN2 rfl (rvc (i := 2) rfl Ty.ag_52 st.hp rfl rfl) rfl) ?_)
      unfold oput_m; rewrite [iP hc1, iN hc2, iP hc3, iN hc4, iN hc5, iN hc6]
      exact ⟨_, _, _, _, rfl, st.ot 2 rfl, st.ot 3 rfl, hF⟩
    refine Sal Ty.zc_52 st hF rfl fun g6 w23 (st : St _ _ [_, _, _, _, _] _) hF hg6 => ?_
    refine ⟨(st.pk [0, 1, 2] (by decide)).tK 2, ?_⟩
    refine Pf_a (i := 5) (by kernel_rfl) rfl (wtd0 rfl) ?_
    refine a_call rfl rfl rfl rfl (cloneTag_ok (keys (hOf st) ++ X) _ st.Lo s.gone A2 C2 (st.q 1 rfl) h2) (fun v w24 ⟨Ao4, co4, spo4, hv, how5, hN4, hfO4, hkc4⟩ => ?_)
    subst hv
    have hnew5 : ∀ g, blkOf Ao4 = some g → g ∈ ([]) ∨ w.heap.size ≤ g := fun g hg => (hkc4 g (by simp [keys, hg])).elim (fun h => by simp at h) (fun h => .inr (Nat.le_trans hF.size h))
    have st := st.callN hN4 hfO4 (fun k hk => (hkc4 k hk).elim (fun h => by simp at h) id)
    have hF := hF.step0 hfO4
    have z9 := Ow.le how5
    have st : St X w24 [_, _, _, _, _, _] [_, _] := st
    refine ⟨(st.pk [0, 1, 2] (by decide)).tK 2, ?_⟩
    refine Pf_y (i := 6) rfl (by kernel_rfl) (wtd0 rfl) rfl rfl (y_build (cells := [_, _]) rfl rfl Ty.zc_52 Ty.ps_52 rfl) ?_
    refine Pf_fin (by kernel_rfl) (by kernel_rfl) rfl (wtd0 rfl) ?_
    refine Ssw 4 Ty.sz_52 st hF (.inr hg6) rfl fun w25 (st : St _ _ [_, _, _, _, _, _] _) hF => id (Th_n (k13 _ _ (sq fun _ k22 => Wp_block (sq fun _ k23 => rg (Lm rfl (Lm rfl (bB (s := 42) rfl (fun hc7 => ?_) (fun hc7 => ?_))))))))
    · refine LsF rfl (LsF rfl (LsF rfl (LsF rfl (Ly rfl (yT rfl) (Ls' rfl (Ln k23 (Wp_cond_t rfl (sq fun _ k24 => rg (Ly rfl (yw 4 Ty.ag_52 st rfl) (La rfl (Ssw 2 Ty.sz_52 st hF (.inr hg3) rfl fun w26 (st : St _ _ [_, _, _, _, _, _] _) hF => Ls' rfl (Ln k24 ?_))))))))))))
      have st : St X w26 [_, _, _, _, _] [_, _, _] := st.freeze (i := 3) [0, 1, 2, 4, 5] (by decide) rfl how1 (by decide)
      have st : St X w26 [_, _, _, _] [_, _, _, _] := st.freeze (i := 4) [0, 1, 2, 3] (by decide) rfl how5 (by decide)
      refine wR (Ib_r (Th_r (fR (ResN2 rfl (rvc (i := 2) rfl Ty.ag_52 st.hp rfl rfl) rfl) ?_)))
      unfold oput_m; rewrite [iP hc1, iN hc2, iP hc3, iP hc7]
      exact ⟨_, _, _, _, rfl, st.ot 2 rfl, st.ot 3 rfl, hF⟩
    refine LyT rfl (yw 0 Ty.ag_52 st rfl) (LyT rfl (yf rfl Ty.fo_126_0) (LyT rfl (ym 1 Ty.ag_43 st rfl) (LaT rfl (Scl st hF rfl (ogone_ok (keys (hOf st) ++ X) _ st.Lo s A1 C1 A2 C2 a.tag (st.q 0 rfl) (st.q 1 rfl) h2) fun w27 st hF => Ly rfl (yF rfl) (Ls' rfl (Ln k23 (cB rfl (fun hc8 => ?_) (fun hc8 => ?_))))))))
    · refine sq fun _ k25 => rg (Ly rfl (yw 4 Ty.ag_52 st rfl) (La rfl (Ssw 2 Ty.sz_52 st hF (.inr hg3) rfl fun w28 (st : St _ _ [_, _, _, _, _, _] _) hF => Ls' rfl (Ln k25 ?_))))
      have st : St X w28 [_, _, _, _, _] [_, _, _] := st.freeze (i := 3) [0, 1, 2, 4, 5] (by decide) rfl how1 (by decide)
      have st : St X w28 [_, _, _, _] [_, _, _, _] := st.freeze (i := 4) [0, 1, 2, 3] (by decide) rfl how5 (by decide)
      refine wR (Ib_r (Th_r (fR (ResN2 rfl (rvc (i := 2) rfl Ty.ag_52 st.hp rfl rfl) rfl) ?_)))
      unfold oput_m; rewrite [iP hc1, iN hc2, iP hc3, iN hc7, iP hc8]
      exact ⟨_, _, _, _, rfl, st.ot 2 rfl, st.ot 3 rfl, hF⟩
    refine sq fun _ k26 => rg (Ly rfl (yf rfl Ty.fo_52_0) (Ly rfl (yl 0 Ty.pl_50 st rfl) (Ly rfl (yll rfl Tryz.underlying50) (Ly rfl (yeq rfl) (Ls' rfl (Ln k26 (cE rfl (fun hc9 => ?_) (fun hc9 => ?_))))))))
    · refine sq fun _ k27 => rg (Ly rfl (y_build (cells := [_, _]) rfl rfl Ty.zc_52 Ty.ps_52 rfl) (La rfl (Ssw 2 Ty.sz_52 st hF (.inr hg3) rfl fun w29 (st : St _ _ [_, _, _, _, _, _] _) hF => Ls' rfl (Ln k27 ?_))))
      have st := st.aN 4
      have st := st.aN 3
      refine wR (Ib_r (Th_r (fR (ResN2 rfl (rvc (i := 2) rfl Ty.ag_52 st.hp rfl rfl) rfl) ?_)))
      unfold oput_m; rewrite [iP hc1, iN hc2, iP hc3, iN hc7, iN hc8, iP hc9]
      exact ⟨_, _, _, _, rfl, st.ot 2 rfl, st.ot 3 rfl, hF⟩
    refine Wp_skip (Ib_n (Th_n (k22 _ _ (sq fun _ k28 => rg (Ly rfl (yf rfl Ty.fo_52_0) (Ly rfl (yl 4 Ty.pl_50 st rfl) (Lm rfl (Ly rfl (yw 1 Ty.ag_126 st rfl) (La rfl (Sb (enc := addMC) a Ty.es_50 Ty.zc_126 (fun _ => rfl) st hF rfl fun g7 w30 how6 hnew6 (st : St _ _ [_, _, _, _, _, _, _] _) hF => La rfl (a_call rfl rfl rfl rfl (insertAdd_ok (keys (pickL (hOf st) [0, 1, 2, 4, 5]) ++ X) _ (cloneAdd_m s.adds) Ao1 co1 spo1 ((bsearchAdd_m s.adds a.tag obyTag_m).1) [a] (some ⟨g7, 0, none⟩) 1 [] (st.sub [0, 1, 2, 4, 5] [3, 6] [] (by decide)) how1 how6 rfl hbi.1 hbi.2 h1) (fun v w31 ⟨Ao5, co5, spo5, hv, how7, hN5, hfO5, hkc5⟩ => ?_))))))))))))
    subst hv
    have hnew7 : ∀ g, blkOf Ao5 = some g → g ∈ ([]) ∨ w.heap.size ≤ g := fun g hg => (hkc5 g (by simp [keys, hg])).elim (fun h => (kc_b hnew1 (kc_b hnew6 (kc_n))) g h) (fun h => .inr (Nat.le_trans hF.size h))
    have st := st.callS [0, 1, 2, 4, 5] [3, 6] (by decide) rfl hN5 hfO5 hkc5
    have hF := hF.step hfO5 (kc_b hnew1 (kc_b hnew6 (kc_n)))
    have z10 := Ow.le how7
    have st : St X w31 [_, _, _, _, _, _] [_, _] := st
    refine Ly rfl (yf rfl Ty.fo_52_0) (La rfl (Ss1 3 Ty.sz_50 st hF (.inr hg6) rfl fun w32 (st : St _ _ [_, _, _, (_, Cl [_, _] _), _, _] _) hF => Ln k28 (sq fun _ k29 => rg (Ly rfl (yw 3 Ty.ag_52 st rfl) (La rfl (Ssw 2 Ty.sz_52 st hF (.inr hg3) rfl fun w33 (st : St _ _ [_, _, _, _, _, _] _) hF => Ls' rfl (Ln k29 ?_)))))))
    have st : St X w33 [_, _, _, _, _] [_, _, _] := st.freeze (i := 5) [0, 1, 2, 3, 4] (by decide) rfl how7 (by decide)
    have st : St X w33 [_, _, _, _] [_, _, _, _] := st.freeze (i := 4) [0, 1, 2, 3] (by decide) rfl how5 (by decide)
    refine wR (fR (ResN2 rfl (rvc (i := 2) rfl Ty.ag_52 st.hp rfl rfl) rfl) ?_)
    unfold oput_m; rewrite [iP hc1, iN hc2, iP hc3, iN hc7, iN hc8, iN hc9]
    exact ⟨_, _, _, _, rfl, st.ot 2 rfl, st.ot 3 rfl, hF⟩
  refine Sal Ty.zc_52 st hF rfl fun g8 w34 (st : St _ _ [_, _, _, _] _) hF hg8 => ?_
  refine ⟨(st.pk [0, 1, 2] (by decide)).tK 2, ?_⟩
  refine Pf_a (i := 2) (by kernel_rfl) rfl (wtd0 rfl) ?_
  refine a_call rfl rfl rfl rfl (cloneAdd_ok (keys (hOf st) ++ X) _ st.Lo s.adds A1 C1 (st.q 0 rfl) h1) (fun v w35 ⟨Ao6, co6, spo6, hv, how8, hN6, hfO6, hkc6⟩ => ?_)
  subst hv
  have hnew8 : ∀ g, blkOf Ao6 = some g → g ∈ ([]) ∨ w.heap.size ≤ g := fun g hg => (hkc6 g (by simp [keys, hg])).elim (fun h => by simp at h) (fun h => .inr (Nat.le_trans hF.size h))
  have st := st.callN hN6 hfO6 (fun k hk => (hkc6 k hk).elim (fun h => by simp at h) id)
  have hF := hF.step0 hfO6
  have z11 := Ow.le how8
  have st : St X w35 [_, _, _, _, _] [_, _] := st
  refine ⟨(st.pk [0, 1, 2] (by decide)).tK 2, ?_⟩
  refine Pf_a (i := 5) (by kernel_rfl) rfl (wtd0 rfl) ?_
  refine a_call rfl rfl rfl rfl (cloneTag_ok (keys (hOf st) ++ X) _ st.Lo s.gone A2 C2 (st.q 1 rfl) h2) (fun v w36 ⟨Ao7, co7, spo7, hv, how9, hN7, hfO7, hkc7⟩ => ?_)
  subst hv
  have hnew9 : ∀ g, blkOf Ao7 = some g → g ∈ ([]) ∨ w.heap.size ≤ g := fun g hg => (hkc7 g (by simp [keys, hg])).elim (fun h => by simp at h) (fun h => .inr (Nat.le_trans hF.size h))
  have st := st.callN hN7 hfO7 (fun k hk => (hkc7 k hk).elim (fun h => by simp at h) id)
  have hF := hF.step0 hfO7
  have z12 := Ow.le how9
  have st : St X w36 [_, _, _, _, _, _] [_, _] := st
  refine ⟨(st.pk [0, 1, 2] (by decide)).tK 2, ?_⟩
  refine Pf_y (i := 6) rfl (by kernel_rfl) (wtd0 rfl) rfl rfl (y_build (cells := [_, _]) rfl rfl Ty.zc_52 Ty.ps_52 rfl) ?_
  refine Pf_fin (by kernel_rfl) (by kernel_rfl) rfl (wtd0 rfl) ?_
  refine Ssw 3 Ty.sz_52 st hF (.inr hg8) rfl fun w37 (st : St _ _ [_, _, _, _, _, _] _) hF => id (Th_n (k13 _ _ (sq fun _ k30 => Wp_block (sq fun _ k31 => rg (Lm rfl (Lm rfl (bB (s := 42) rfl (fun hc10 => ?_) (fun hc10 => ?_))))))))
  · refine LsF rfl (LsF rfl (LsF rfl (LsF rfl (Ly rfl (yT rfl) (Ls' rfl (Ln k31 (Wp_cond_t rfl (sq fun _ k32 => rg (Ly rfl (yw 3 Ty.ag_52 st rfl) (La rfl (Ssw 2 Ty.sz_52 st hF (.inr hg3) rfl fun w38 (st : St _ _ [_, _, _, _, _, _] _) hF => Ls' rfl (Ln k32 ?_))))))))))))
    have st : St X w38 [_, _, _, _, _] [_, _, _] := st.freeze (i := 4) [0, 1, 2, 3, 5] (by decide) rfl how8 (by decide)
    have st : St X w38 [_, _, _, _] [_, _, _, _] := st.freeze (i := 4) [0, 1, 2, 3] (by decide) rfl how9 (by decide)
    refine wR (Ib_r (Th_r (fR (ResN2 rfl (rvc (i := 2) rfl Ty.ag_52 st.hp rfl rfl) rfl) ?_)))
    unfold oput_m; rewrite [iP hc1, iN hc2, iP hc3, iP hc10]
    exact ⟨_, _, _, _, rfl, st.ot 2 rfl, st.ot 3 rfl, hF⟩
  refine LyT rfl (yw 0 Ty.ag_52 st rfl) (LyT rfl (yf rfl Ty.fo_126_0) (LyT rfl (ym 1 Ty.ag_43 st rfl) (LaT rfl (Scl st hF rfl (ogone_ok (keys (hOf st) ++ X) _ st.Lo s A1 C1 A2 C2 a.tag (st.q 0 rfl) (st.q 1 rfl) h2) fun w39 st hF => Ly rfl (yF rfl) (Ls' rfl (Ln k31 (cB rfl (fun hc11 => ?_) (fun hc11 => ?_))))))))
  · refine sq fun _ k33 => rg (Ly rfl (yw 3 Ty.ag_52 st rfl) (La rfl (Ssw 2 Ty.sz_52 st hF (.inr hg3) rfl fun w40 (st : St _ _ [_, _, _, _, _, _] _) hF => Ls' rfl (Ln k33 ?_))))
    have st : St X w40 [_, _, _, _, _] [_, _, _] := st.freeze (i := 4) [0, 1, 2, 3, 5] (by decide) rfl how8 (by decide)
    have st : St X w40 [_, _, _, _] [_, _, _, _] := st.freeze (i := 4) [0, 1, 2, 3] (by decide) rfl how9 (by decide)
    refine wR (Ib_r (Th_r (fR (ResN2 rfl (rvc (i := 2) rfl Ty.ag_52 st.hp rfl rfl) rfl) ?_)))
    unfold oput_m; rewrite [iP hc1, iN hc2, iP hc3, iN hc10, iP hc11]
    exact ⟨_, _, _, _, rfl, st.ot 2 rfl, st.ot 3 rfl, hF⟩
  refine sq fun _ k34 => rg (Ly rfl (yf rfl Ty.fo_52_0) (Ly rfl (yl 0 Ty.pl_50 st rfl) (Ly rfl (yll rfl Tryz.underlying50) (Ly rfl (yeq rfl) (Ls' rfl (Ln k34 (cE rfl (fun hc12 => ?_) (fun hc12 => ?_))))))))
  · refine sq fun _ k35 => rg (Ly rfl (y_build (cells := [_, _]) rfl rfl Ty.zc_52 Ty.ps_52 rfl) (La rfl (Ssw 2 Ty.sz_52 st hF (.inr hg3) rfl fun w41 (st : St _ _ [_, _, _, _, _, _] _) hF => Ls' rfl (Ln k35 ?_))))
    have st := st.aN 4
    have st := st.aN 3
    refine wR (Ib_r (Th_r (fR (ResN2 rfl (rvc (i := 2) rfl Ty.ag_52 st.hp rfl rfl) rfl) ?_)))
    unfold oput_m; rewrite [iP hc1, iN hc2, iP hc3, iN hc10, iN hc11, iP hc12]
    exact ⟨_, _, _, _, rfl, st.ot 2 rfl, st.ot 3 rfl, hF⟩
  refine Wp_skip (Ib_n (Th_n (k30 _ _ (sq fun _ k36 => rg (Ly rfl (yf rfl Ty.fo_52_0) (Ly rfl (yl 3 Ty.pl_50 st rfl) (Lm rfl (Ly rfl (yw 1 Ty.ag_126 st rfl) (La rfl (Sb (enc := addMC) a Ty.es_50 Ty.zc_126 (fun _ => rfl) st hF rfl fun g9 w42 how10 hnew10 (st : St _ _ [_, _, _, _, _, _, _] _) hF => La rfl (a_call rfl rfl rfl rfl (insertAdd_ok (keys (pickL (hOf st) [0, 1, 2, 3, 5]) ++ X) _ (cloneAdd_m s.adds) Ao6 co6 spo6 ((bsearchAdd_m s.adds a.tag obyTag_m).1) [a] (some ⟨g9, 0, none⟩) 1 [] (st.sub [0, 1, 2, 3, 5] [4, 6] [] (by decide)) how8 how10 rfl hbi.1 hbi.2 h1) (fun v w43 ⟨Ao8, co8, spo8, hv, how11, hN8, hfO8, hkc8⟩ => ?_))))))))))))
  subst hv
  have hnew11 : ∀ g, blkOf Ao8 = some g → g ∈ ([]) ∨ w.heap.size ≤ g := fun g hg => (hkc8 g (by simp [keys, hg])).elim (fun h => (kc_b hnew8 (kc_b hnew10 (kc_n))) g h) (fun h => .inr (Nat.le_trans hF.size h))
  have st := st.callS [0, 1, 2, 3, 5] [4, 6] (by decide) rfl hN8 hfO8 hkc8
  have hF := hF.step hfO8 (kc_b hnew8 (kc_b hnew10 (kc_n)))
  have z5 := Ow.le how11
  have st : St X w43 [_, _, _, _, _, _] [_, _] := st
  refine Ly rfl (yf rfl Ty.fo_52_0) (La rfl (Ss1 3 Ty.sz_50 st hF (.inr hg8) rfl fun w44 (st : St _ _ [_, _, _, (_, Cl [_, _] _), _, _] _) hF => Ln k36 (sq fun _ k37 => rg (Ly rfl (yw 3 Ty.ag_52 st rfl) (La rfl (Ssw 2 Ty.sz_52 st hF (.inr hg3) rfl fun w45 (st : St _ _ [_, _, _, _, _, _] _) hF => Ls' rfl (Ln k37 ?_)))))))
  have st : St X w45 [_, _, _, _, _] [_, _, _] := st.freeze (i := 5) [0, 1, 2, 3, 4] (by decide) rfl how11 (by decide)
  have st : St X w45 [_, _, _, _] [_, _, _, _] := st.freeze (i := 4) [0, 1, 2, 3] (by decide) rfl how9 (by decide)
  refine wR (fR (ResN2 rfl (rvc (i := 2) rfl Ty.ag_52 st.hp rfl rfl) rfl) ?_)
  unfold oput_m; rewrite [iP hc1, iN hc2, iP hc3, iN hc10, iN hc11, iN hc12]
  exact ⟨_, _, _, _, rfl, st.ot 2 rfl, st.ot 3 rfl, hF⟩
def odrop1_m (a : AddM) (out : SetM) : Bool :=
  ogone_m out a.tag
theorem odrop1_ok (X : List Nat) (w : World) (a : AddM) (g2 : Nat) (out : SetM) (A1 : Option Addr) (C1 : Nat) (A2 : Option Addr) (C2 : Nat) (hs : St X w [(some g2, Cl [.slice A1 out.adds.length C1, .slice A2 out.gone.length C2] 52)] [kS A1 out.adds.length C1 4 (out.adds.flatMap addMC), kS A2 out.gone.length C2 3 (out.gone.flatMap tagMC)]) (h2 : out.gone.length ≤ 1000000) :
    Fn Tryz.prog 90 [.agg (addMC a).toArray, .pointer (some ⟨g2, 0, none⟩)] w fun v w' => v = .bool (odrop1_m a out) ∧ Fr [] w w' := by
  refine Fn_of 8 Ty.en_90 Tryz.func90 rfl rfl rfl ?_
  dsimp only [argEnv]
  have hs0 := hs
  have st : St X w [(some g2, Cl [.slice A1 out.adds.length C1, .slice A2 out.gone.length C2] 52)] [kS A1 out.adds.length C1 4 (out.adds.flatMap addMC), kS A2 out.gone.length C2 3 (out.gone.flatMap tagMC)] := hs
  have hF := Fr.refl ([]) w
  have z1 := (st.q 0 rfl).le
  have z2 := (st.q 1 rfl).le
  refine sq fun _ k1 => rg (La rfl (Sbx st hF rfl fun g1 w1 (st : St _ _ [_, _] _) hF hg1 => Ls' rfl (Ln k1 (sq fun _ k2 => rg (Ly rfl (yw 0 Ty.ag_52 st rfl) (Ly rfl (yf rfl Ty.fo_126_0) (Ly rfl (ym 1 Ty.ag_43 st rfl) (La rfl (Scl st hF rfl (ogone_ok (keys (hOf st) ++ X) _ st.Lo out A1 C1 A2 C2 a.tag (st.q 0 rfl) (st.q 1 rfl) h2) fun w2 st hF => Ls' rfl (Ln k2 (wR (fR (Res1 rfl rfl) ?_))))))))))))
  unfold odrop1_m
  exact ⟨rfl, hF⟩
def odrop_m (s : SetM) (tags : List TagM) : SetM × Int :=
  if (ocheck_m s) = 0 then
    if 4096 < (tags.length : Int) then
      ((⟨([] : List AddM), ([] : List TagM)⟩ : SetM), 8)
    else
      if (containsF_m tags onotTag_m) = true then
        ((⟨([] : List AddM), ([] : List TagM)⟩ : SetM), 2)
      else
        if 4096 < ((compactTag_m (sortF icompareTag_m (concatTag_m s.gone tags))).length : Int) then
          ((⟨([] : List AddM), ([] : List TagM)⟩ : SetM), 4)
        else
          ((⟨deleteF_m (cloneAdd_m s.adds) (fun x0 => odrop1_m x0 (⟨([] : List AddM), compactTag_m (sortF icompareTag_m (concatTag_m s.gone tags))⟩ : SetM)), compactTag_m (sortF icompareTag_m (concatTag_m s.gone tags))⟩ : SetM), 0)
  else
    ((⟨([] : List AddM), ([] : List TagM)⟩ : SetM), ocheck_m s)
theorem odrop_ok (X : List Nat) (w : World) (hX : Lo X w) (s : SetM) (A1 : Option Addr) (C1 : Nat) (A2 : Option Addr) (C2 : Nat) (tags : List TagM) (A5 : Option Addr) (C5 : Nat) (z4 : Sld X w A1 s.adds.length C1 4 (s.adds.flatMap addMC)) (z5 : Sld X w A2 s.gone.length C2 3 (s.gone.flatMap tagMC)) (z10 : Sld X w A5 tags.length C5 3 (tags.flatMap tagMC)) (h1 : s.adds.length ≤ 1000000) (h2 : s.gone.length ≤ 1000000) (h3 : tags.length ≤ 1000000) :
    Fn Tryz.prog 50 [.agg #[.slice A1 s.adds.length C1, .slice A2 s.gone.length C2], .slice A5 tags.length C5] w fun v w' => ∃ (A3 : Option Addr) (C3 : Nat) (A4 : Option Addr) (C4 : Nat), v = .tuple #[.agg #[.slice A3 (((odrop_m s tags).1).adds).length C3, .slice A4 (((odrop_m s tags).1).gone).length C4], .int .i64 ((odrop_m s tags).2)] ∧ Sld X w' A3 (((odrop_m s tags).1).adds).length C3 4 ((((odrop_m s tags).1).adds).flatMap addMC) ∧ Sld X w' A4 (((odrop_m s tags).1).gone).length C4 3 ((((odrop_m s tags).1).gone).flatMap tagMC) ∧ Fr [] w w' := by
  refine Fn_of 44 Ty.en_50 Tryz.func50 rfl rfl rfl ?_
  dsimp only [argEnv]
  have st := stn3 hX z4 z5 z10
  have hF := Fr.refl ([]) w
  have z1 := (st.q 0 rfl).le
  have z2 := (st.q 1 rfl).le
  have z3 := (st.q 2 rfl).le
  refine sq fun _ k1 => rg (La rfl (Sbx st hF rfl fun g1 w1 (st : St _ _ [_] _) hF hg1 => La rfl (Sal Ty.zc_52 st hF rfl fun g2 w2 (st : St _ _ [_, _] _) hF hg2 => Ls' rfl (Ln k1 (sq fun _ k2 => sq fun _ k3 => rg (Ly rfl (yw 0 Ty.ag_52 st rfl) (La rfl (Scl st hF rfl (ocheck_ok (keys (hOf st) ++ X) _ st.Lo s A1 C1 A2 C2 (st.q 0 rfl) (st.q 1 rfl) h2) fun w3 st hF => Ls' rfl (Ln k3 (sq fun _ k4 => rg (Lm rfl (Ly rfl (yne rfl) (Ln k4 (cN rfl (fun hc1 => ?_) (fun hc1 => ?_)))))))))))))))
  · refine sq fun _ k5 => rg (Ly rfl (y_build (cells := [_, _]) rfl rfl Ty.zc_52 Ty.ps_52 rfl) (Lm rfl (La rfl (Ssw 1 Ty.sz_52 st hF (.inr hg2) rfl fun w4 (st : St _ _ [_, _] _) hF => Ls' rfl (Ln k5 ?_)))))
    have st := st.aN 4
    have st := st.aN 3
    refine wR (Th_r (fR (ResN2 rfl (rvc (i := 1) rfl Ty.ag_52 st.hp rfl rfl) rfl) ?_))
    unfold odrop_m; rewrite [iN hc1]
    exact ⟨_, _, _, _, rfl, st.ot 3 rfl, st.ot 4 rfl, hF⟩
  refine sk k2 (sq fun _ k6 => sq fun _ k7 => rg (Lm rfl (Ly rfl (yll rfl Tryz.underlying30) (Ly rfl (ygt rfl) (Ln k7 (cD rfl (fun hc2 => ?_) (fun hc2 => ?_)))))))
  · refine sq fun _ k8 => rg (Ly rfl (y_build (cells := [_, _]) rfl rfl Ty.zc_52 Ty.ps_52 rfl) (La rfl (Ssw 1 Ty.sz_52 st hF (.inr hg2) rfl fun w5 (st : St _ _ [_, _] _) hF => Ls' rfl (Ln k8 ?_))))
    have st := st.aN 4
    have st := st.aN 3
    refine wR (Th_r (fR (ResN2 rfl (rvc (i := 1) rfl Ty.ag_52 st.hp rfl rfl) rfl) ?_))
    unfold odrop_m; rewrite [iP hc1, iP hc2]
    exact ⟨_, _, _, _, rfl, st.ot 3 rfl, st.ot 4 rfl, hF⟩
  refine sk k6 (sq fun _ k9 => sq fun _ k10 => rg (Lm rfl (La rfl (Scl st hF rfl (containsTag_ok (keys (hOf st) ++ X) _ st.Lo tags A5 C5 (.func (.func 81) #[] #[]) onotTag_m (st.q 2 rfl) (fun w1 x0 _ => FnV.of (onotTag_ok w1 x0))) fun w6 st hF => Ln k10 (cB rfl (fun hc3 => ?_) (fun hc3 => ?_))))))
  · refine sq fun _ k11 => rg (Ly rfl (y_build (cells := [_, _]) rfl rfl Ty.zc_52 Ty.ps_52 rfl) (La rfl (Ssw 1 Ty.sz_52 st hF (.inr hg2) rfl fun w7 (st : St _ _ [_, _] _) hF => Ls' rfl (Ln k11 ?_))))
    have st := st.aN 4
    have st := st.aN 3
    refine wR (Th_r (fR (ResN2 rfl (rvc (i := 1) rfl Ty.ag_52 st.hp rfl rfl) rfl) ?_))
    unfold odrop_m; rewrite [iP hc1, iN hc2, iP hc3]
    exact ⟨_, _, _, _, rfl, st.ot 3 rfl, st.ot 4 rfl, hF⟩
  refine sk k9 (sq fun _ k12 => rg (Ly rfl (yf rfl Ty.fo_52_1) (Ly rfl (yl 0 Ty.pl_30 st rfl) (Lm rfl (La rfl (a_bsl rfl rfl rfl rfl rfl Ty.es_217 Ty.zc_30 rfl (by decide) (by simp [Value.cells]) st.hp (fun g3 w8 (hp : Hp w8 [_, _, _]) hf hg3 => ?_)))))))
  have how1 : Ow (some ⟨g3, 0, none⟩) ([.slice A2 s.gone.length C2, .slice A5 tags.length C5] : List Value).length 2 1 (([.slice A2 s.gone.length C2, .slice A5 tags.length C5] : List Value).flatMap (fun v : Value => [v])) [] := ⟨rfl, .inr ⟨g3, rfl, rfl, Nat.le_refl _, by unfold maxLen; decide⟩⟩
  have st : St X w8 [_, _, _] [_, _, _] := st.push hp hf hg3
  have st : St X w8 [_, _, _] [_, _, _] := st
  have hg3 := Nat.le_trans hF.size hg3
  have hF := hF.step0 hf
  have hnew1 := newB (X0 := []) hg3
  have st : St X w8 [_, _] [_, _, _, _] := st.freeze (i := 2) [0, 1] (by decide) rfl how1 (by decide)
  refine La rfl (a_call rfl rfl rfl rfl (concatTag_ok (keys (hOf st) ++ X) _ st.Lo s.gone A2 C2 tags A5 C5 (some ⟨g3, 0, none⟩) 2 (st.k (i := 1) rfl) (st.k (i := 2) rfl) (st.k (i := 3) rfl) (by omega) (by omega)) (fun v w9 ⟨Ao1, co1, spo1, hv, how2, hN1, hfO1, hkc1⟩ => ?_))
  subst hv
  have hnew2 : ∀ g, blkOf Ao1 = some g → g ∈ ([]) ∨ w.heap.size ≤ g := fun g hg => (hkc1 g (by simp [keys, hg])).elim (fun h => by simp at h) (fun h => .inr (Nat.le_trans hF.size h))
  have st := st.callN hN1 hfO1 (fun k hk => (hkc1 k hk).elim (fun h => by simp at h) id)
  have hF := hF.step0 hfO1
  have z6 := Ow.le how2
  have st : St X w9 [_, _, _] [_, _, _, _] := st
  refine Ls' rfl (Ln k12 (sq fun _ k13 => rg (Lm rfl (La rfl (a_call rfl rfl rfl rfl (sortTag_ok (keys (pickL (hOf st) [0, 1]) ++ X) _ (concatTag_m s.gone tags) Ao1 co1 spo1 (st.sub [0, 1] [2] [] (by decide)) how2 (by simp only [concatTag_m, List.length_append]; omega)) (fun v w10 ⟨hv, how3, hln1, hN2, hfO2⟩ => ?_))))))
  subst hv
  have st := st.callS [0, 1] [2] (by decide) rfl hN2 hfO2 (fun k hk => .inl (keys1 hk))
  have hF := hF.step hfO2 (kc_b hnew2 kc_n)
  have how4 : Ow Ao1 (sortF icompareTag_m (concatTag_m s.gone tags)).length co1 3 ((sortF icompareTag_m (concatTag_m s.gone tags)).flatMap tagMC) spo1 := by rw [hln1]; exact how3
  have st : St X w10 [_, _, _] [_, _, _, _] := st
  refine Ln k13 (sq fun _ k14 => rg (Lm rfl (La rfl (a_call rfl rfl rfl (by rw [hln1]; rfl) (compactTag_ok (keys (pickL (hOf st) [0, 1]) ++ X) _ (sortF icompareTag_m (concatTag_m s.gone tags)) Ao1 co1 spo1 (st.sub [0, 1] [2] [] (by decide)) how4) (fun v w11 ⟨Ao2, co2, spo2, hv, how5, hN3, hfO3, hkc2⟩ => ?_)))))
  subst hv
  have hnew3 : ∀ g, blkOf Ao2 = some g → g ∈ ([]) ∨ w.heap.size ≤ g := fun g hg => (hkc2 g (by simp [keys, hg])).elim (fun h => (kc_b hnew2 (kc_n)) g h) (fun h => .inr (Nat.le_trans hF.size h))
  have st := st.callS [0, 1] [2] (by decide) rfl hN3 hfO3 hkc2
  have hF := hF.step hfO3 (kc_b hnew2 (kc_n))
  have z7 := Ow.le how5
  have st : St X w11 [_, _, _] [_, _, _, _] := st
  refine Ly rfl (y_build (cells := [_, _]) rfl rfl Ty.zc_52 Ty.ps_52 rfl) (La rfl (Sal Ty.zc_52 st hF rfl fun g4 w12 (st : St _ _ [_, _, _, _] _) hF hg4 => La rfl (Ssw 3 Ty.sz_52 st hF (.inr hg4) rfl fun w13 (st : St _ _ [_, _, _, _] _) hF => Ln k14 (sq fun _ k15 => sq fun _ k16 => rg (Ly rfl (yf rfl Ty.fo_52_1) (Ly rfl (yl 3 Ty.pl_30 st rfl) (Ly rfl (yll rfl Tryz.underlying30) (Ly rfl (ygt rfl) (Ln k16 (cD rfl (fun hc4 => ?_) (fun hc4 => ?_)))))))))))
  · refine sq fun _ k17 => rg (Ly rfl (y_build (cells := [_, _]) rfl rfl Ty.zc_52 Ty.ps_52 rfl) (La rfl (Ssw 1 Ty.sz_52 st hF (.inr hg2) rfl fun w14 (st : St _ _ [_, _, _, _] _) hF => Ls' rfl (Ln k17 ?_))))
    have st := st.aN 4
    have st := st.aN 3
    refine wR (Th_r (fR (ResN2 rfl (rvc (i := 1) rfl Ty.ag_52 st.hp rfl rfl) rfl) ?_))
    unfold odrop_m; rewrite [iP hc1, iN hc2, iN hc3, iP hc4]
    exact ⟨_, _, _, _, rfl, st.ot 4 rfl, st.ot 5 rfl, hF⟩
  refine sk k15 (sq fun _ k18 => rg (Ly rfl (yf rfl Ty.fo_52_0) (Ly rfl (yl 0 Ty.pl_50 st rfl) (La rfl (a_call rfl rfl rfl rfl (cloneAdd_ok (keys (hOf st) ++ X) _ st.Lo s.adds A1 C1 (st.q 0 rfl) h1) (fun v w15 ⟨Ao3, co3, spo3, hv, how6, hN4, hfO4, hkc3⟩ => ?_))))))
  subst hv
  have hnew4 : ∀ g, blkOf Ao3 = some g → g ∈ ([]) ∨ w.heap.size ≤ g := fun g hg => (hkc3 g (by simp [keys, hg])).elim (fun h => by simp at h) (fun h => .inr (Nat.le_trans hF.size h))
  have st := st.callN hN4 hfO4 (fun k hk => (hkc3 k hk).elim (fun h => by simp at h) id)
  have hF := hF.step0 hfO4
  have z8 := Ow.le how6
  have st : St X w15 [_, _, _, _, _] [_, _, _, _] := st
  refine Ly rfl (y_mkfn rfl rfl rfl) ?_
  have st := st.aN 4
  have st : St X w15 [_, _, _, _] [_, _, _, _, _, _] := st.freeze (i := 2) [0, 1, 3, 4] (by decide) rfl how5 (by decide)
  refine La rfl (a_call rfl rfl rfl rfl (deleteAdd_ok (keys (pickL (hOf st) [0, 1, 2]) ++ X) _ (cloneAdd_m s.adds) Ao3 co3 spo3 (.func (.func 90) #[] #[.pointer (some ⟨g4, 0, none⟩)]) (fun x0 => odrop1_m x0 (⟨([] : List AddM), compactTag_m (sortF icompareTag_m (concatTag_m s.gone tags))⟩ : SetM)) (st.sub [0, 1, 2] [3] [] (by decide)) how6 (fun w1 x0 hw => FnV.ofc [.pointer (some ⟨g4, 0, none⟩)] (odrop1_ok (keys (pickL (hOf st) [0, 1, 3]) ++ X) w1 x0 g4 (⟨([] : List AddM), compactTag_m (sortF icompareTag_m (concatTag_m s.gone tags))⟩ : SetM) none 0 Ao2 co2 ((st.sub [0, 1, 3] [2] [4, 5] (by decide)).other hw (fun y hy => List.mem_append_left _ (keys_in (i := 3) (j := 2) (hOf st) [0, 1, 3] rfl rfl hy)))  (show (compactTag_m _).length ≤ 1000000 by omega)))) (fun v w16 ⟨Ao4, co4, spo4, hv, how7, hN5, hfO5, hkc4⟩ => ?_))
  subst hv
  have hnew5 : ∀ g, blkOf Ao4 = some g → g ∈ ([]) ∨ w.heap.size ≤ g := fun g hg => (hkc4 g (by simp [keys, hg])).elim (fun h => (kc_b hnew4 (kc_n)) g h) (fun h => .inr (Nat.le_trans hF.size h))
  have st := st.callS [0, 1, 2] [3] (by decide) rfl hN5 hfO5 hkc4
  have hF := hF.step hfO5 (kc_b hnew4 (kc_n))
  have z9 := Ow.le how7
  have st : St X w16 [_, _, _, _] [_, _, _, _, _, _] := st
  refine Ly rfl (yf rfl Ty.fo_52_0) (La rfl (Ss1 2 Ty.sz_50 st hF (.inr hg4) rfl fun w17 (st : St _ _ [_, _, (_, Cl [_, _] _), _] _) hF => Ln k18 (sq fun _ k19 => rg (Ly rfl (yw 2 Ty.ag_52 st rfl) (La rfl (Ssw 1 Ty.sz_52 st hF (.inr hg2) rfl fun w18 (st : St _ _ [_, _, _, _] _) hF => Ls' rfl (Ln k19 ?_)))))))
  have st : St X w18 [_, _, _] [_, _, _, _, _, _, _] := st.freeze (i := 3) [0, 1, 2] (by decide) rfl how7 (by decide)
  refine wR (fR (ResN2 rfl (rvc (i := 1) rfl Ty.ag_52 st.hp rfl rfl) rfl) ?_)
  unfold odrop_m; rewrite [iP hc1, iN hc2, iN hc3, iN hc4]
  exact ⟨_, _, _, _, rfl, st.ot 6 rfl, st.ot 5 rfl, hF⟩
def oelems_L1 (s : SetM) : Nat → (List (List UInt8)) → Int → ((List (List UInt8))) ⊕ ((List (List UInt8)) × Int)
  | 0, s3, s12 => .inr (s3, s12)
  | fuel + 1, s3, s12 =>
    if s12 < (s.adds.length : Int) then
      oelems_L1 s fuel (s3 ++ [(ix s.adds s12).elem]) (s12 + 1)
    else
      .inr (s3, s12)
def oelems_m (s : SetM) : (List (List UInt8)) :=
  if (ocheck_m s) = 0 then
    match oelems_L1 s (((s.adds.length : Int) - (0 : Int)).toNat + 1) ([] : List (List UInt8)) (0 : Int) with
    | .inl r => r
    | .inr (s3, s12) =>
      compactStr_m (sortS s3)
  else
    ([] : List (List UInt8))
theorem oelems_ok (X : List Nat) (w : World) (hX : Lo X w) (s : SetM) (A1 : Option Addr) (C1 : Nat) (A2 : Option Addr) (C2 : Nat) (z3 : Sld X w A1 s.adds.length C1 4 (s.adds.flatMap addMC)) (z4 : Sld X w A2 s.gone.length C2 3 (s.gone.flatMap tagMC)) (h1 : s.adds.length ≤ 1000000) (h2 : s.gone.length ≤ 1000000) :
    Fn Tryz.prog 54 [.agg #[.slice A1 s.adds.length C1, .slice A2 s.gone.length C2]] w fun v w' => ∃ (Ar : Option Addr) (cr : Nat), v = .slice Ar (oelems_m s).length cr ∧ Sld X w' Ar (oelems_m s).length cr 1 ((oelems_m s).flatMap (fun x => [sv x])) ∧ Fr [] w w' := by
  refine Fn_of 26 Ty.en_54 Tryz.func54 rfl rfl rfl ?_
  dsimp only [argEnv]
  have st := stn2 hX z3 z4
  have hF := Fr.refl ([]) w
  have z1 := (st.q 0 rfl).le
  have z2 := (st.q 1 rfl).le
  refine sq fun _ k1 => rg (La rfl (Sbx st hF rfl fun g1 w1 (st : St _ _ [_] _) hF hg1 => Ls' rfl (Ln k1 (sq fun _ k2 => sq fun _ k3 => rg (Ly rfl (yw 0 Ty.ag_52 st rfl) (La rfl (Scl st hF rfl (ocheck_ok (keys (hOf st) ++ X) _ st.Lo s A1 C1 A2 C2 (st.q 0 rfl) (st.q 1 rfl) h2) fun w2 st hF => Ly rfl (yne rfl) (Ln k3 (cN rfl (fun hc1 => ?_) (fun hc1 => ?_))))))))))
  · refine sq fun _ k4 => rg (Ls' rfl (Ln k4 ?_))
    have st := st.aN 1
    refine wR (Th_r (fR (Res1 rfl rfl) ?_))
    unfold oelems_m; rewrite [iN hc1]
    exact ⟨_, _, rfl, st.ot 2 rfl, hF⟩
  refine sk k2 (sq fun _ k5 => rg (Ls' rfl (Ln k5 (sq fun _ k6 => sq fun _ k7 => rg (Ly rfl (yf rfl Ty.fo_52_0) (Ly rfl (yl 0 Ty.pl_50 st rfl) (Ly rfl (yll rfl Tryz.underlying50) (Lm rfl (Ln k7 (Wp_block ?_))))))))))
  obtain ⟨st, how1, hnew1⟩ := st.rowN (fun x => [sv x]) hF 1 9
  have st : St _ _ [_, _] _ := st
  refine lp (fun q E W => ∃ (s3 : List (List UInt8)) (s12 : Int) (As3 : Option Addr) (cs3 : Nat) (sps3 : List Value), E = [(3, .slice As3 s3.length cs3), (10, .slice A1 s.adds.length C1), (11, .int .i64 (s.adds.length : Int)), (12, .int .i64 s12)] ∧ jq q (fun m => (oelems_L1 s m s3 s12 = oelems_L1 s (((s.adds.length : Int) - (0 : Int)).toNat + 1) ([] : List (List UInt8)) (0 : Int) ∧ ((s.adds.length : Int) - s12).toNat < m)) (oelems_L1 s (((s.adds.length : Int) - (0 : Int)).toNat + 1) ([] : List (List UInt8)) (0 : Int) = .inr (s3, s12)) ∧ (0 ≤ s12 ∧ 0 ≤ s12 ∧ s12 ≤ s.adds.length ∧ (s3.length : Int) ≤ s12) ∧ Ow As3 s3.length cs3 1 (s3.flatMap (fun x => [sv x])) sps3 ∧ (∀ g, blkOf As3 = some g → g ∈ ([]) ∨ w.heap.size ≤ g) ∧ St X W [(some g1, Cl [.slice A1 s.adds.length C1, .slice A2 s.gone.length C2] 52), (blkOf As3, Cl (s3.flatMap (fun x => [sv x]) ++ sps3) 9)] [kS A1 s.adds.length C1 4 (s.adds.flatMap addMC), kS A2 s.gone.length C2 3 (s.gone.flatMap tagMC)] ∧ Fr ([]) w W) (((s.adds.length : Int) - (0 : Int)).toNat + 1) [(3, _), (10, _), (11, _), (12, _)] ⟨rfl, rfl, rfl, rfl, trivial⟩ ⟨_, _, _, _, _, rfl, ⟨rfl, Nat.lt_succ_self _⟩, by first | omega | (simp; done) | (simp; omega), how1, hnew1, st, hF⟩ k6 ?_ fun hout1 => ?_
  · rintro E w3 ⟨s3, s12, As3, cs3, sps3, rfl, hLk1, hinv, hows3, news3, st, hF⟩
    unfold jq at hLk1; dsimp only at hLk1
    refine sq fun _ k8 => rg (Lm rfl (La rfl (a_call rfl rfl rfl rfl (sortStr_ok (keys (pickL (hOf st) [0]) ++ X) _ s3 As3 cs3 sps3 (st.sub [0] [1] [] (by decide)) hows3 (by omega)) (fun v w4 ⟨hv, how2, hln1, hN1, hfO1⟩ => ?_))))
    subst hv
    have st := st.callS [0] [1] (by decide) rfl hN1 hfO1 (fun k hk => .inl (keys1 hk))
    have hF := hF.step hfO1 (kc_b news3 kc_n)
    have how3 : Ow As3 (sortS s3).length cs3 1 ((sortS s3).flatMap (fun x => [sv x])) sps3 := by rw [hln1]; exact how2
    have st : St X w4 [_, _] [_, _] := st
    refine Ln k8 (sq fun _ k9 => rg (Lm rfl (La rfl (a_call rfl rfl rfl (by rw [hln1]; rfl) (compactStr_ok (keys (pickL (hOf st) [0]) ++ X) _ (sortS s3) As3 cs3 sps3 (st.sub [0] [1] [] (by decide)) how3) (fun v w5 ⟨Ao1, co1, spo1, hv, how4, hN2, hfO2, hkc1⟩ => ?_)))))
    subst hv
    have hnew2 : ∀ g, blkOf Ao1 = some g → g ∈ ([]) ∨ w.heap.size ≤ g := fun g hg => (hkc1 g (by simp [keys, hg])).elim (fun h => (kc_b news3 (kc_n)) g h) (fun h => .inr (Nat.le_trans hF.size h))
    have st := st.callS [0] [1] (by decide) rfl hN2 hfO2 hkc1
    have hF := hF.step hfO2 (kc_b news3 (kc_n))
    have z6 := Ow.le how4
    have st : St X w5 [_, _] [_, _] := st
    refine Ls' rfl (Ln k9 ?_)
    have st : St X w5 [_] [_, _, _] := st.freeze (i := 1) [0] (by decide) rfl how4 (by decide)
    refine wR (fR (Res1 rfl rfl) ?_)
    unfold oelems_m; rewrite [iP hc1, hLk1]; (try dsimp only)
    exact ⟨_, _, rfl, st.ot 2 rfl, hF⟩
  rintro m E w6 ⟨s3, s12, As3, cs3, sps3, rfl, ⟨hL1, hmu⟩, hinv, hows3, news3, st, hF⟩
  obtain ⟨fuel, rfl⟩ : ∃ q, m = q + 1 := ⟨m - 1, by omega⟩
  have z5 := Ow.le hows3
  refine sq fun _ k10 => rg (Ly rfl (ylt rfl) (Ln k10 (sq fun _ k11 => cD rfl (fun hc2 => ?_) (fun hc2 => ?_))))
  · refine sk k11 (sq fun _ k12 => Wp_block (sq fun _ k13 => rg ?_))
    obtain ⟨gi1, bi1, egi1⟩ := (st.k (i := 0) rfl).addr (fun _ => rfl) (by decide) (q := s12) (by first | omega | (simp; done) | (simp; omega)) (by first | omega | (simp; done) | (simp; omega))
    subst egi1
    refine Ly rfl (y_ixa (q := s12) rfl rfl rfl Ty.es_50 (by first | omega | (simp; done) | (simp; omega)) (by first | omega | (simp; done) | (simp; omega))) ?_
    refine Ly rfl (y_ldk (q := s12) rfl rfl Ty.ag_126 (fun _ e => e ▸ st.k (i := 0) rfl) (fun _ => rfl) (by first | omega | (simp; done) | (simp; omega)) (by first | omega | (simp; done) | (simp; omega))) ?_
    refine La rfl (Sal Ty.zc_126 st hF rfl fun g2 w7 (st : St _ _ [_, _, _] _) hF hg2 => La rfl (Ssw 2 Ty.sz_126 st hF (.inr hg2) rfl fun w8 (st : St _ _ [_, _, _] _) hF => Ln k13 (rg (Lm rfl (Ly rfl (yf rfl Ty.fo_126_1) (Ly rfl (yl 2 Ty.pl_9 st rfl) (La rfl (a_bsl rfl rfl rfl rfl rfl Ty.es_134 Ty.zc_9 rfl (by decide) (by simp [Value.cells]) st.hp (fun g3 w9 (hp : Hp w9 [_, _, _, _]) hf hg3 => ?_)))))))))
    have how5 : Ow (some ⟨g3, 0, none⟩) [(ix s.adds s12).elem].length 1 1 ([(ix s.adds s12).elem].flatMap (fun x => [sv x])) [] := ⟨rfl, .inr ⟨g3, rfl, rfl, Nat.le_refl _, by unfold maxLen; decide⟩⟩
    have st : St X w9 [_, _, _, _] [_, _] := st.push hp hf hg3
    have st : St X w9 [_, _, _, _] [_, _] := st
    have hg3 := Nat.le_trans hF.size hg3
    have hF := hF.step0 hf
    have hnew3 := newB (X0 := []) hg3
    refine La rfl (Sap (enc := (fun x => [sv x])) s3 [(ix s.adds s12).elem] 1 Ty.es_134 Ty.zc_9 Ty.by_9 (fun _ => rfl) (oneS fun _ => rfl) hows3 news3 st hF (own_src (i := 3) st.hp rfl how5) (own_none how5) rfl (by first | omega | (simp; done) | (simp; omega)) (by first | omega | (simp; done) | (simp; omega)) fun Aa1 ca1 sp1 w10 how6 hnew4 (st : St _ _ [_, _, _, _] _) hF => ?_)
    refine Ls' rfl (Ls_nil (Ib_n (Th_n (k12 _ _ (rg (Ly rfl (y_add (c := s12 + 1) rfl rfl rfl (wf_i64 (by first | omega | (simp; done) | (simp; omega)))) ?_))))))
    refine Lm rfl (Ls_nil (Th_n (?_)))
    exact ⟨fuel, [(3, _), (10, _), (11, _), (12, _)], Nat.lt_succ_self _, ⟨rfl, rfl, rfl, rfl, trivial⟩, (s3 ++ [(ix s.adds s12).elem]), (s12 + 1), Aa1, ca1, sp1, rfl, ⟨by rewrite [← hL1, oelems_L1]; rewrite [iP hc2]; rfl, by first | omega | (simp; done) | (simp; omega)⟩, by first | omega | (simp; done) | (simp; omega), how6, hnew4, (st.pk [0, 1] (by decide)).pickK [0, 1], hF⟩
  refine Wp_exit (Th_e (Th_e (Ib_hit (Th_n (?_)))))
  exact hout1 _ [(3, _), (10, _), (11, _), (12, _)] _ ⟨rfl, rfl, rfl, rfl, trivial⟩ ⟨s3, s12, As3, cs3, sps3, rfl, show _ = _ from by rewrite [← hL1, oelems_L1]; rewrite [iN hc2]; rfl, by first | omega | (simp; done) | (simp; omega), hows3, news3, (st.pk [0, 1] (by decide)).pickK [0, 1], hF⟩
def mapply_m (s : MapM) (p : PutM) : MapM × Int :=
  if (mcheck_m s) = 0 then
    if (mnotTag_m p.tag) = true then
      ((⟨([] : List PutM), ([] : List TagM)⟩ : MapM), 2)
    else
      if (mright_m p) = true then
        if ((bsearch_m (mtags_m s.puts) p.tag icompareTag_m).2) = true then
          ((⟨(mown_m s).puts, (mown_m s).gone⟩ : MapM), 0)
        else
          if (mhas_m s.gone p.tag) = true then
            ((⟨(mown_m s).puts, (mown_m s).gone⟩ : MapM), 0)
          else
            if (s.puts.length : Int) = 4096 then
              ((⟨([] : List PutM), ([] : List TagM)⟩ : MapM), 4)
            else
              ((⟨insertPut_m ((mown_m s).puts) ((bsearch_m (mtags_m s.puts) p.tag icompareTag_m).1) [p], (mown_m s).gone⟩ : MapM), 0)
      else
        ((⟨([] : List PutM), ([] : List TagM)⟩ : MapM), 3)
  else
    ((⟨([] : List PutM), ([] : List TagM)⟩ : MapM), mcheck_m s)
theorem mapply_ok (X : List Nat) (w : World) (hX : Lo X w) (s : MapM) (A2 : Option Addr) (C2 : Nat) (A1 : Option Addr) (C1 : Nat) (p : PutM) (z4 : Sld X w A2 s.puts.length C2 7 (s.puts.flatMap putMC)) (z3 : Sld X w A1 s.gone.length C1 3 (s.gone.flatMap tagMC)) (h1 : s.puts.length ≤ 1000000) (h2 : s.gone.length ≤ 1000000) :
    Fn Tryz.prog 51 [.agg #[.slice A2 s.puts.length C2, .slice A1 s.gone.length C1], .agg (putMC p).toArray] w fun v w' => ∃ (A4 : Option Addr) (C4 : Nat) (A3 : Option Addr) (C3 : Nat), v = .tuple #[.agg #[.slice A4 (((mapply_m s p).1).puts).length C4, .slice A3 (((mapply_m s p).1).gone).length C3], .int .i64 ((mapply_m s p).2)] ∧ Sld X w' A4 (((mapply_m s p).1).puts).length C4 7 ((((mapply_m s p).1).puts).flatMap putMC) ∧ Sld X w' A3 (((mapply_m s p).1).gone).length C3 3 ((((mapply_m s p).1).gone).flatMap tagMC) ∧ Fr [] w w' := by
  refine Fn_of 57 Ty.en_51 Tryz.func51 rfl rfl rfl ?_
  dsimp only [argEnv]
  have st := stn2 hX z4 z3
  have hF := Fr.refl ([]) w
  have z2 := (st.q 0 rfl).le
  have z1 := (st.q 1 rfl).le
  refine sq fun _ k1 => rg (La rfl (Sbx st hF rfl fun g1 w1 (st : St _ _ [_] _) hF hg1 => La rfl (Sbx st hF rfl fun g2 w2 (st : St _ _ [_, _] _) hF hg2 => La rfl (Sal Ty.zc_55 st hF rfl fun g3 w3 (st : St _ _ [_, _, _] _) hF hg3 => Ls' rfl (Ln k1 (sq fun _ k2 => sq fun _ k3 => rg (Ly rfl (yw 0 Ty.ag_55 st rfl) (La rfl (Scl st hF rfl (mcheck_ok (keys (hOf st) ++ X) _ st.Lo s A2 C2 A1 C1 (st.q 0 rfl) (st.q 1 rfl) h1 h2) fun w4 st hF => Ls' rfl (Ln k3 (sq fun _ k4 => rg (Lm rfl (Ly rfl (yne rfl) (Ln k4 (cN rfl (fun hc1 => ?_) (fun hc1 => ?_))))))))))))))))
  · refine sq fun _ k5 => rg (Ly rfl (y_build (cells := [_, _]) rfl rfl Ty.zc_55 Ty.ps_55 rfl) (Lm rfl (La rfl (Ssw 2 Ty.sz_55 st hF (.inr hg3) rfl fun w5 (st : St _ _ [_, _, _] _) hF => Ls' rfl (Ln k5 ?_)))))
    have st := st.aN 7
    have st := st.aN 3
    refine wR (Th_r (fR (ResN2 rfl (rvc (i := 2) rfl Ty.ag_55 st.hp rfl rfl) rfl) ?_))
    unfold mapply_m; rewrite [iN hc1]
    exact ⟨_, _, _, _, rfl, st.ot 2 rfl, st.ot 3 rfl, hF⟩
  refine sk k2 (sq fun _ k6 => sq fun _ k7 => rg (Ly rfl (yf rfl Ty.fo_131_0) (Ly rfl (ym 1 Ty.ag_43 st rfl) (La rfl (Scl st hF rfl (mnotTag_ok _ p.tag) fun w6 st hF => Ln k7 (cB rfl (fun hc2 => ?_) (fun hc2 => ?_)))))))
  · refine sq fun _ k8 => rg (Ly rfl (y_build (cells := [_, _]) rfl rfl Ty.zc_55 Ty.ps_55 rfl) (La rfl (Ssw 2 Ty.sz_55 st hF (.inr hg3) rfl fun w7 (st : St _ _ [_, _, _] _) hF => Ls' rfl (Ln k8 ?_))))
    have st := st.aN 7
    have st := st.aN 3
    refine wR (Th_r (fR (ResN2 rfl (rvc (i := 2) rfl Ty.ag_55 st.hp rfl rfl) rfl) ?_))
    unfold mapply_m; rewrite [iP hc1, iP hc2]
    exact ⟨_, _, _, _, rfl, st.ot 2 rfl, st.ot 3 rfl, hF⟩
  refine sk k6 (sq fun _ k9 => sq fun _ k10 => rg (Ly rfl (yw 1 Ty.ag_131 st rfl) (La rfl (Scl st hF rfl (mright_ok _ p) fun w8 st hF => Ly rfl (yn rfl) (Ln k10 (cBn rfl (fun hc3 => ?_) (fun hc3 => ?_)))))))
  · refine sq fun _ k11 => rg (Ly rfl (y_build (cells := [_, _]) rfl rfl Ty.zc_55 Ty.ps_55 rfl) (La rfl (Ssw 2 Ty.sz_55 st hF (.inr hg3) rfl fun w9 (st : St _ _ [_, _, _] _) hF => Ls' rfl (Ln k11 ?_))))
    have st := st.aN 7
    have st := st.aN 3
    refine wR (Th_r (fR (ResN2 rfl (rvc (i := 2) rfl Ty.ag_55 st.hp rfl rfl) rfl) ?_))
    unfold mapply_m; rewrite [iP hc1, iN hc2, iN hc3]
    exact ⟨_, _, _, _, rfl, st.ot 2 rfl, st.ot 3 rfl, hF⟩
  refine sk k9 (sq fun _ k12 => ?_)
  refine Wp_plan (fun W => St X W (pickL (hOf st) [0, 1, 2]) (kOf st)) [(true, 0), (true, 1), (true, 3), (true, 4), (false, 2), (false, 5), (true, 6), (true, 7), (true, 8), (true, 9), (true, 10)] Ty.mx_0 (by kernel_rfl) (by kernel_rfl) rfl ((st.pk [0, 1, 2] (by decide)).drew) ?_
  have st := st.drew
  have hF := hF.step0 (Fr.drew _)
  refine Py rfl (yf rfl Ty.fo_55_0) (Py rfl (y_load (i := 0) rfl rfl Ty.pl_53 (fun _ h => h.hp) rfl rfl) (Py rfl (yf rfl Ty.fo_131_0) (Py rfl (y_loadm (i := 1) rfl rfl Ty.ag_43 (fun _ h => h.hp) rfl rfl rfl) (Pl_a rfl (wtd0 rfl) (by rfl) ?_))))
  refine a_call rfl rfl rfl rfl (mtags_ok (keys (hOf st) ++ X) _ st.Lo s.puts A2 C2 (st.q 0 rfl) h1) (fun v w10 ⟨Ar1, cr1, hv, hr1, hf⟩ => ?_)
  subst hv
  have st := st.keep0 hf
  have hF := hF.step0 hf
  have z8 := Sld.le hr1
  have st := st.addK (kS Ar1 (mtags_m s.puts).length cr1 3 ((mtags_m s.puts).flatMap tagMC)) hr1
  have st : St X w10 [_, _, _] [_, _, _] := st
  refine ⟨(st.pk [0, 1, 2] (by decide)).tK 2, ?_⟩
  have hbl : (mtags_m s.puts).length = s.puts.length := by rw [mtags_eq, List.length_map]
  refine Pl_a rfl (wtd0 rfl) (by rfl) ?_
  refine Scl st hF rfl (bsearch_ok (keys (hOf st) ++ X) _ st.Lo (mtags_m s.puts) Ar1 cr1 p.tag (.func (.func 68) #[] #[]) icompareTag_m (st.q 2 rfl) (fun w1 x0 x1 _ => FnV.of (icompareTag_ok w1 x0 x1)) (by omega)) fun w11 st hF => ?_
  refine ⟨(st.pk [0, 1, 2] (by decide)).tK 2, ?_⟩
  have hbi := bsearch_in (mtags_m s.puts) p.tag icompareTag_m
  refine Pm rfl (Py rfl (y_ext rfl rfl rfl) (Py rfl (y_ext rfl rfl rfl) (Py rfl (y_assign rfl rfl) (Py rfl (y_assign rfl rfl) (Pl_nil (Th_n (k12 _ _ (sq fun _ k13 => rg (Ly rfl (yw 0 Ty.ag_55 st rfl) (La rfl (a_call rfl rfl rfl rfl (mown_ok (keys (hOf st) ++ X) _ st.Lo s A2 C2 A1 C1 (st.q 0 rfl) (st.q 1 rfl) h1 h2) (fun v w12 ⟨Ao1, co1, spo1, Ao2, co2, spo2, hv, how1, how2, hN1, hfO1, hkc1⟩ => ?_))))))))))))
  subst hv
  have hnew1 : ∀ g, blkOf Ao1 = some g → g ∈ ([]) ∨ w.heap.size ≤ g := fun g hg => (hkc1 g (by simp [keys, hg])).elim (fun h => by simp at h) (fun h => .inr (Nat.le_trans hF.size h))
  have hnew2 : ∀ g, blkOf Ao2 = some g → g ∈ ([]) ∨ w.heap.size ≤ g := fun g hg => (hkc1 g (by simp [keys, hg])).elim (fun h => by simp at h) (fun h => .inr (Nat.le_trans hF.size h))
  have st := st.callN hN1 hfO1 (fun k hk => (hkc1 k hk).elim (fun h => by simp at h) id)
  have hF := hF.step0 hfO1
  have st : St X w12 [_, _, _, _, _] [_, _, _] := st
  have z5 := Ow.le how1
  have z6 := Ow.le how2
  have hmo : (mown_m s).puts.length = s.puts.length := rfl
  refine La rfl (Sal Ty.zc_55 st hF rfl fun g4 w13 (st : St _ _ [_, _, _, _, _, _] _) hF hg4 => La rfl (Ssw 5 Ty.sz_55 st hF (.inr hg4) rfl fun w14 (st : St _ _ [_, _, _, _, _, _] _) hF => Ln k13 (sq fun _ k14 => sq fun _ k15 => rg (Lm rfl (Lm rfl (bB (s := 36) rfl (fun hc4 => ?_) (fun hc4 => ?_)))))))
  · refine LsF rfl (LsF rfl (LsF rfl (LsF rfl (LsF rfl (Ly rfl (yT rfl) (Ln k15 (Wp_cond_t rfl (sq fun _ k16 => rg (Ly rfl (yw 5 Ty.ag_55 st rfl) (La rfl (Ssw 2 Ty.sz_55 st hF (.inr hg3) rfl fun w15 (st : St _ _ [_, _, _, _, _, _] _) hF => Ls' rfl (Ln k16 ?_))))))))))))
    have st : St X w15 [_, _, _, _, _] [_, _, _, _] := st.freeze (i := 3) [0, 1, 2, 4, 5] (by decide) rfl how1 (by decide)
    have st : St X w15 [_, _, _, _] [_, _, _, _, _] := st.freeze (i := 3) [0, 1, 2, 4] (by decide) rfl how2 (by decide)
    refine wR (Th_r (fR (ResN2 rfl (rvc (i := 2) rfl Ty.ag_55 st.hp rfl rfl) rfl) ?_))
    unfold mapply_m; rewrite [iP hc1, iN hc2, iP hc3, iP hc4]
    exact ⟨_, _, _, _, rfl, st.ot 3 rfl, st.ot 4 rfl, hF⟩
  refine LyT rfl (yf rfl Ty.fo_55_1) (LyT rfl (yl 0 Ty.pl_30 st rfl) (LyT rfl (yf rfl Ty.fo_131_0) (LyT rfl (ym 1 Ty.ag_43 st rfl) (LaT rfl (Scl st hF rfl (mhas_ok (keys (hOf st) ++ X) _ st.Lo s.gone A1 C1 p.tag (st.q 1 rfl) h2) fun w16 st hF => Ly rfl (yF rfl) (Ln k15 (cB rfl (fun hc5 => ?_) (fun hc5 => ?_))))))))
  · refine sq fun _ k17 => rg (Ly rfl (yw 5 Ty.ag_55 st rfl) (La rfl (Ssw 2 Ty.sz_55 st hF (.inr hg3) rfl fun w17 (st : St _ _ [_, _, _, _, _, _] _) hF => Ls' rfl (Ln k17 ?_))))
    have st : St X w17 [_, _, _, _, _] [_, _, _, _] := st.freeze (i := 3) [0, 1, 2, 4, 5] (by decide) rfl how1 (by decide)
    have st : St X w17 [_, _, _, _] [_, _, _, _, _] := st.freeze (i := 3) [0, 1, 2, 4] (by decide) rfl how2 (by decide)
    refine wR (Th_r (fR (ResN2 rfl (rvc (i := 2) rfl Ty.ag_55 st.hp rfl rfl) rfl) ?_))
    unfold mapply_m; rewrite [iP hc1, iN hc2, iP hc3, iN hc4, iP hc5]
    exact ⟨_, _, _, _, rfl, st.ot 3 rfl, st.ot 4 rfl, hF⟩
  refine sk k14 (sq fun _ k18 => sq fun _ k19 => rg (Ly rfl (yf rfl Ty.fo_55_0) (Ly rfl (yl 0 Ty.pl_53 st rfl) (Ly rfl (yll rfl Tryz.underlying53) (Ly rfl (yeq rfl) (Ln k19 (cE rfl (fun hc6 => ?_) (fun hc6 => ?_))))))))
  · refine sq fun _ k20 => rg (Ly rfl (y_build (cells := [_, _]) rfl rfl Ty.zc_55 Ty.ps_55 rfl) (La rfl (Ssw 2 Ty.sz_55 st hF (.inr hg3) rfl fun w18 (st : St _ _ [_, _, _, _, _, _] _) hF => Ls' rfl (Ln k20 ?_))))
    have st := st.aN 7
    have st := st.aN 3
    refine wR (Th_r (fR (ResN2 rfl (rvc (i := 2) rfl Ty.ag_55 st.hp rfl rfl) rfl) ?_))
    unfold mapply_m; rewrite [iP hc1, iN hc2, iP hc3, iN hc4, iN hc5, iP hc6]
    exact ⟨_, _, _, _, rfl, st.ot 3 rfl, st.ot 4 rfl, hF⟩
  refine sk k18 (sq fun _ k21 => rg (Ly rfl (yf rfl Ty.fo_55_0) (Ly rfl (yl 5 Ty.pl_53 st rfl) (Lm rfl (Ly rfl (yw 1 Ty.ag_131 st rfl) (La rfl (Sb (enc := putMC) p Ty.es_53 Ty.zc_131 (fun _ => rfl) st hF rfl fun g5 w19 how3 hnew3 (st : St _ _ [_, _, _, _, _, _, _] _) hF => La rfl (a_call rfl rfl rfl rfl (insertPut_ok (keys (pickL (hOf st) [0, 1, 2, 4, 5]) ++ X) _ ((mown_m s).puts) Ao1 co1 spo1 ((bsearch_m (mtags_m s.puts) p.tag icompareTag_m).1) [p] (some ⟨g5, 0, none⟩) 1 [] (st.sub [0, 1, 2, 4, 5] [3, 6] [] (by decide)) how1 how3 rfl (by omega) (by omega) (by omega)) (fun v w20 ⟨Ao3, co3, spo3, hv, how4, hN2, hfO2, hkc2⟩ => ?_)))))))))
  subst hv
  have hnew4 : ∀ g, blkOf Ao3 = some g → g ∈ ([]) ∨ w.heap.size ≤ g := fun g hg => (hkc2 g (by simp [keys, hg])).elim (fun h => (kc_b hnew1 (kc_b hnew3 (kc_n))) g h) (fun h => .inr (Nat.le_trans hF.size h))
  have st := st.callS [0, 1, 2, 4, 5] [3, 6] (by decide) rfl hN2 hfO2 hkc2
  have hF := hF.step hfO2 (kc_b hnew1 (kc_b hnew3 (kc_n)))
  have z7 := Ow.le how4
  have st : St X w20 [_, _, _, _, _, _] [_, _, _] := st
  refine Ly rfl (yf rfl Ty.fo_55_0) (La rfl (Ss1 4 Ty.sz_53 st hF (.inr hg4) rfl fun w21 (st : St _ _ [_, _, _, _, (_, Cl [_, _] _), _] _) hF => Ln k21 (sq fun _ k22 => rg (Ly rfl (yw 4 Ty.ag_55 st rfl) (La rfl (Ssw 2 Ty.sz_55 st hF (.inr hg3) rfl fun w22 (st : St _ _ [_, _, _, _, _, _] _) hF => Ls' rfl (Ln k22 ?_)))))))
  have st : St X w22 [_, _, _, _, _] [_, _, _, _] := st.freeze (i := 5) [0, 1, 2, 3, 4] (by decide) rfl how4 (by decide)
  have st : St X w22 [_, _, _, _] [_, _, _, _, _] := st.freeze (i := 3) [0, 1, 2, 4] (by decide) rfl how2 (by decide)
  refine wR (fR (ResN2 rfl (rvc (i := 2) rfl Ty.ag_55 st.hp rfl rfl) rfl) ?_)
  unfold mapply_m; rewrite [iP hc1, iN hc2, iP hc3, iN hc4, iN hc5, iN hc6]
  exact ⟨_, _, _, _, rfl, st.ot 3 rfl, st.ot 4 rfl, hF⟩
def mdrop1_m (p : PutM) (gone : List TagM) : Bool :=
  mhas_m gone p.tag
theorem mdrop1_ok (X : List Nat) (w : World) (p : PutM) (g2 : Nat) (gone : List TagM) (A1 : Option Addr) (C1 : Nat) (hs : St X w [(some g2, Cl [.slice A1 gone.length C1] 30)] [kS A1 gone.length C1 3 (gone.flatMap tagMC)]) (h2 : gone.length ≤ 1000000) :
    Fn Tryz.prog 99 [.agg (putMC p).toArray, .pointer (some ⟨g2, 0, none⟩)] w fun v w' => v = .bool (mdrop1_m p gone) ∧ Fr [] w w' := by
  refine Fn_of 8 Ty.en_99 Tryz.func99 rfl rfl rfl ?_
  dsimp only [argEnv]
  have hs0 := hs
  have st : St X w [(some g2, Cl [.slice A1 gone.length C1] 30)] [kS A1 gone.length C1 3 (gone.flatMap tagMC)] := hs
  have hF := Fr.refl ([]) w
  have z1 := (st.q 0 rfl).le
  refine sq fun _ k1 => rg (La rfl (Sbx st hF rfl fun g1 w1 (st : St _ _ [_, _] _) hF hg1 => Ls' rfl (Ln k1 (sq fun _ k2 => rg (Ly rfl (yl 0 Ty.pl_30 st rfl) (Ly rfl (yf rfl Ty.fo_131_0) (Ly rfl (ym 1 Ty.ag_43 st rfl) (La rfl (Scl st hF rfl (mhas_ok (keys (hOf st) ++ X) _ st.Lo gone A1 C1 p.tag (st.q 0 rfl) h2) fun w2 st hF => Ls' rfl (Ln k2 (wR (fR (Res1 rfl rfl) ?_))))))))))))
  unfold mdrop1_m
  exact ⟨rfl, hF⟩
def mdrop_m (s : MapM) (l : List TagM) : MapM × Int :=
  if (mcheck_m s) = 0 then
    if 4096 < (l.length : Int) then
      ((⟨([] : List PutM), ([] : List TagM)⟩ : MapM), 8)
    else
      if (containsF_m l mnotTag_m) = true then
        ((⟨([] : List PutM), ([] : List TagM)⟩ : MapM), 2)
      else
        if 4096 < ((compactTag_m (sortF icompareTag_m (concatTag_m s.gone l))).length : Int) then
          ((⟨([] : List PutM), ([] : List TagM)⟩ : MapM), 4)
        else
          ((⟨deleteF_m (clonePut_m s.puts) (fun x0 => mdrop1_m x0 (compactTag_m (sortF icompareTag_m (concatTag_m s.gone l)))), compactTag_m (sortF icompareTag_m (concatTag_m s.gone l))⟩ : MapM), 0)
  else
    ((⟨([] : List PutM), ([] : List TagM)⟩ : MapM), mcheck_m s)
theorem mdrop_ok (X : List Nat) (w : World) (hX : Lo X w) (s : MapM) (A2 : Option Addr) (C2 : Nat) (A1 : Option Addr) (C1 : Nat) (l : List TagM) (A_l : Option Addr) (c_l : Nat) (z4 : Sld X w A2 s.puts.length C2 7 (s.puts.flatMap putMC)) (z3 : Sld X w A1 s.gone.length C1 3 (s.gone.flatMap tagMC)) (h_l : Sld X w A_l l.length c_l 3 (l.flatMap tagMC)) (h1 : s.puts.length ≤ 1000000) (h2 : s.gone.length ≤ 1000000) (h3 : l.length ≤ 1000000) :
    Fn Tryz.prog 52 [.agg #[.slice A2 s.puts.length C2, .slice A1 s.gone.length C1], .slice A_l l.length c_l] w fun v w' => ∃ (A4 : Option Addr) (C4 : Nat) (A3 : Option Addr) (C3 : Nat), v = .tuple #[.agg #[.slice A4 (((mdrop_m s l).1).puts).length C4, .slice A3 (((mdrop_m s l).1).gone).length C3], .int .i64 ((mdrop_m s l).2)] ∧ Sld X w' A4 (((mdrop_m s l).1).puts).length C4 7 ((((mdrop_m s l).1).puts).flatMap putMC) ∧ Sld X w' A3 (((mdrop_m s l).1).gone).length C3 3 ((((mdrop_m s l).1).gone).flatMap tagMC) ∧ Fr [] w w' := by
  refine Fn_of 43 Ty.en_52 Tryz.func52 rfl rfl rfl ?_
  dsimp only [argEnv]
  have st := stn3 hX z4 z3 h_l
  have hF := Fr.refl ([]) w
  have z2 := (st.q 0 rfl).le
  have z1 := (st.q 1 rfl).le
  have z9 := (st.q 2 rfl).le
  refine sq fun _ k1 => rg (La rfl (Sbx st hF rfl fun g1 w1 (st : St _ _ [_] _) hF hg1 => La rfl (Sal Ty.zc_55 st hF rfl fun g2 w2 (st : St _ _ [_, _] _) hF hg2 => Ls' rfl (Ln k1 (sq fun _ k2 => sq fun _ k3 => rg (Ly rfl (yw 0 Ty.ag_55 st rfl) (La rfl (Scl st hF rfl (mcheck_ok (keys (hOf st) ++ X) _ st.Lo s A2 C2 A1 C1 (st.q 0 rfl) (st.q 1 rfl) h1 h2) fun w3 st hF => Ls' rfl (Ln k3 (sq fun _ k4 => rg (Lm rfl (Ly rfl (yne rfl) (Ln k4 (cN rfl (fun hc1 => ?_) (fun hc1 => ?_)))))))))))))))
  · refine sq fun _ k5 => rg (Ly rfl (y_build (cells := [_, _]) rfl rfl Ty.zc_55 Ty.ps_55 rfl) (Lm rfl (La rfl (Ssw 1 Ty.sz_55 st hF (.inr hg2) rfl fun w4 (st : St _ _ [_, _] _) hF => Ls' rfl (Ln k5 ?_)))))
    have st := st.aN 7
    have st := st.aN 3
    refine wR (Th_r (fR (ResN2 rfl (rvc (i := 1) rfl Ty.ag_55 st.hp rfl rfl) rfl) ?_))
    unfold mdrop_m; rewrite [iN hc1]
    exact ⟨_, _, _, _, rfl, st.ot 3 rfl, st.ot 4 rfl, hF⟩
  refine sk k2 (sq fun _ k6 => sq fun _ k7 => rg (Lm rfl (Ly rfl (yll rfl Tryz.underlying30) (Ly rfl (ygt rfl) (Ln k7 (cD rfl (fun hc2 => ?_) (fun hc2 => ?_)))))))
  · refine sq fun _ k8 => rg (Ly rfl (y_build (cells := [_, _]) rfl rfl Ty.zc_55 Ty.ps_55 rfl) (La rfl (Ssw 1 Ty.sz_55 st hF (.inr hg2) rfl fun w5 (st : St _ _ [_, _] _) hF => Ls' rfl (Ln k8 ?_))))
    have st := st.aN 7
    have st := st.aN 3
    refine wR (Th_r (fR (ResN2 rfl (rvc (i := 1) rfl Ty.ag_55 st.hp rfl rfl) rfl) ?_))
    unfold mdrop_m; rewrite [iP hc1, iP hc2]
    exact ⟨_, _, _, _, rfl, st.ot 3 rfl, st.ot 4 rfl, hF⟩
  refine sk k6 (sq fun _ k9 => sq fun _ k10 => rg (Lm rfl (La rfl (Scl st hF rfl (containsTag_ok (keys (hOf st) ++ X) _ st.Lo l A_l c_l (.func (.func 92) #[] #[]) mnotTag_m (st.q 2 rfl) (fun w1 x0 _ => FnV.of (mnotTag_ok w1 x0))) fun w6 st hF => Ln k10 (cB rfl (fun hc3 => ?_) (fun hc3 => ?_))))))
  · refine sq fun _ k11 => rg (Ly rfl (y_build (cells := [_, _]) rfl rfl Ty.zc_55 Ty.ps_55 rfl) (La rfl (Ssw 1 Ty.sz_55 st hF (.inr hg2) rfl fun w7 (st : St _ _ [_, _] _) hF => Ls' rfl (Ln k11 ?_))))
    have st := st.aN 7
    have st := st.aN 3
    refine wR (Th_r (fR (ResN2 rfl (rvc (i := 1) rfl Ty.ag_55 st.hp rfl rfl) rfl) ?_))
    unfold mdrop_m; rewrite [iP hc1, iN hc2, iP hc3]
    exact ⟨_, _, _, _, rfl, st.ot 3 rfl, st.ot 4 rfl, hF⟩
  refine sk k9 (sq fun _ k12 => rg (Ly rfl (yf rfl Ty.fo_55_1) (Ly rfl (yl 0 Ty.pl_30 st rfl) (Lm rfl (La rfl (a_bsl rfl rfl rfl rfl rfl Ty.es_217 Ty.zc_30 rfl (by decide) (by simp [Value.cells]) st.hp (fun g3 w8 (hp : Hp w8 [_, _, _]) hf hg3 => ?_)))))))
  have how1 : Ow (some ⟨g3, 0, none⟩) ([.slice A1 s.gone.length C1, .slice A_l l.length c_l] : List Value).length 2 1 (([.slice A1 s.gone.length C1, .slice A_l l.length c_l] : List Value).flatMap (fun v : Value => [v])) [] := ⟨rfl, .inr ⟨g3, rfl, rfl, Nat.le_refl _, by unfold maxLen; decide⟩⟩
  have st : St X w8 [_, _, _] [_, _, _] := st.push hp hf hg3
  have st : St X w8 [_, _, _] [_, _, _] := st
  have hg3 := Nat.le_trans hF.size hg3
  have hF := hF.step0 hf
  have hnew1 := newB (X0 := []) hg3
  have st : St X w8 [_, _] [_, _, _, _] := st.freeze (i := 2) [0, 1] (by decide) rfl how1 (by decide)
  refine La rfl (a_call rfl rfl rfl rfl (concatTag_ok (keys (hOf st) ++ X) _ st.Lo s.gone A1 C1 l A_l c_l (some ⟨g3, 0, none⟩) 2 (st.k (i := 1) rfl) (st.k (i := 2) rfl) (st.k (i := 3) rfl) (by omega) (by omega)) (fun v w9 ⟨Ao1, co1, spo1, hv, how2, hN1, hfO1, hkc1⟩ => ?_))
  subst hv
  have hnew2 : ∀ g, blkOf Ao1 = some g → g ∈ ([]) ∨ w.heap.size ≤ g := fun g hg => (hkc1 g (by simp [keys, hg])).elim (fun h => by simp at h) (fun h => .inr (Nat.le_trans hF.size h))
  have st := st.callN hN1 hfO1 (fun k hk => (hkc1 k hk).elim (fun h => by simp at h) id)
  have hF := hF.step0 hfO1
  have z5 := Ow.le how2
  have st : St X w9 [_, _, _] [_, _, _, _] := st
  refine La rfl (Sal Ty.zc_30 st hF rfl fun g4 w10 (st : St _ _ [_, _, _, _] _) hF hg4 => La rfl (Ss1 3 Ty.sz_30 st hF (.inr hg4) rfl fun w11 (st : St _ _ [_, _, _, (_, Cl [_] _)] _) hF => Ln k12 (sq fun _ k13 => rg (Ly rfl (yl 3 Ty.pl_30 st rfl) (La rfl (a_call rfl rfl rfl rfl (sortTag_ok (keys (pickL (hOf st) [0, 1, 3]) ++ X) _ (concatTag_m s.gone l) Ao1 co1 spo1 (st.sub [0, 1, 3] [2] [] (by decide)) how2 (by simp only [concatTag_m, List.length_append]; omega)) (fun v w12 ⟨hv, how3, hln1, hN2, hfO2⟩ => ?_)))))))
  subst hv
  have st := st.callS [0, 1, 3] [2] (by decide) rfl hN2 hfO2 (fun k hk => .inl (keys1 hk))
  have hF := hF.step hfO2 (kc_b hnew2 kc_n)
  have how4 : Ow Ao1 (sortF icompareTag_m (concatTag_m s.gone l)).length co1 3 ((sortF icompareTag_m (concatTag_m s.gone l)).flatMap tagMC) spo1 := by rw [hln1]; exact how3
  have st : St X w12 [_, _, _, _] [_, _, _, _] := st
  refine Ln k13 (sq fun _ k14 => rg (Ly rfl (yl 2 Ty.pl_30 st rfl) (La rfl (a_call rfl rfl rfl (by rw [hln1]; rfl) (compactTag_ok (keys (pickL (hOf st) [0, 1, 2]) ++ X) _ (sortF icompareTag_m (concatTag_m s.gone l)) Ao1 co1 spo1 (st.sub [0, 1, 2] [3] [] (by decide)) how4) (fun v w13 ⟨Ao2, co2, spo2, hv, how5, hN3, hfO3, hkc2⟩ => ?_)))))
  subst hv
  have hnew3 : ∀ g, blkOf Ao2 = some g → g ∈ ([]) ∨ w.heap.size ≤ g := fun g hg => (hkc2 g (by simp [keys, hg])).elim (fun h => (kc_b hnew2 (kc_n)) g h) (fun h => .inr (Nat.le_trans hF.size h))
  have st := st.callS [0, 1, 2] [3] (by decide) rfl hN3 hfO3 hkc2
  have hF := hF.step hfO3 (kc_b hnew2 (kc_n))
  have z6 := Ow.le how5
  have st : St X w13 [_, _, _, _] [_, _, _, _] := st
  refine La rfl (Ss1 2 Ty.sz_30 st hF (.inr hg4) rfl fun w14 (st : St _ _ [_, _, (_, Cl [_] _), _] _) hF => Ln k14 (sq fun _ k15 => sq fun _ k16 => rg (Ly rfl (yl 2 Ty.pl_30 st rfl) (Ly rfl (yll rfl Tryz.underlying30) (Ly rfl (ygt rfl) (Ln k16 (cD rfl (fun hc4 => ?_) (fun hc4 => ?_))))))))
  · refine sq fun _ k17 => rg (Ly rfl (y_build (cells := [_, _]) rfl rfl Ty.zc_55 Ty.ps_55 rfl) (La rfl (Ssw 1 Ty.sz_55 st hF (.inr hg2) rfl fun w15 (st : St _ _ [_, _, _, _] _) hF => Ls' rfl (Ln k17 ?_))))
    have st := st.aN 7
    have st := st.aN 3
    refine wR (Th_r (fR (ResN2 rfl (rvc (i := 1) rfl Ty.ag_55 st.hp rfl rfl) rfl) ?_))
    unfold mdrop_m; rewrite [iP hc1, iN hc2, iN hc3, iP hc4]
    exact ⟨_, _, _, _, rfl, st.ot 4 rfl, st.ot 5 rfl, hF⟩
  refine sk k15 (sq fun _ k18 => rg (Ly rfl (yf rfl Ty.fo_55_0) (Ly rfl (yl 0 Ty.pl_53 st rfl) (La rfl (a_call rfl rfl rfl rfl (clonePut_ok (keys (hOf st) ++ X) _ st.Lo s.puts A2 C2 (st.q 0 rfl) h1) (fun v w16 ⟨Ao3, co3, spo3, hv, how6, hN4, hfO4, hkc3⟩ => ?_))))))
  subst hv
  have hnew4 : ∀ g, blkOf Ao3 = some g → g ∈ ([]) ∨ w.heap.size ≤ g := fun g hg => (hkc3 g (by simp [keys, hg])).elim (fun h => by simp at h) (fun h => .inr (Nat.le_trans hF.size h))
  have st := st.callN hN4 hfO4 (fun k hk => (hkc3 k hk).elim (fun h => by simp at h) id)
  have hF := hF.step0 hfO4
  have z7 := Ow.le how6
  have st : St X w16 [_, _, _, _, _] [_, _, _, _] := st
  refine Ly rfl (y_mkfn rfl rfl rfl) ?_
  have st : St X w16 [_, _, _, _] [_, _, _, _, _] := st.freeze (i := 3) [0, 1, 2, 4] (by decide) rfl how5 (by decide)
  refine La rfl (a_call rfl rfl rfl rfl (deletePut_ok (keys (pickL (hOf st) [0, 1, 2]) ++ X) _ (clonePut_m s.puts) Ao3 co3 spo3 (.func (.func 99) #[] #[.pointer (some ⟨g4, 0, none⟩)]) (fun x0 => mdrop1_m x0 (compactTag_m (sortF icompareTag_m (concatTag_m s.gone l)))) (st.sub [0, 1, 2] [3] [] (by decide)) how6 (fun w1 x0 hw => FnV.ofc [.pointer (some ⟨g4, 0, none⟩)] (mdrop1_ok (keys (pickL (hOf st) [0, 1, 3]) ++ X) w1 x0 g4 (compactTag_m (sortF icompareTag_m (concatTag_m s.gone l))) Ao2 co2 ((st.sub [0, 1, 3] [2] [4] (by decide)).other hw (fun y hy => List.mem_append_left _ (keys_in (i := 3) (j := 2) (hOf st) [0, 1, 3] rfl rfl hy)))  (show (compactTag_m _).length ≤ 1000000 by omega)))) (fun v w17 ⟨Ao4, co4, spo4, hv, how7, hN5, hfO5, hkc4⟩ => ?_))
  subst hv
  have hnew5 : ∀ g, blkOf Ao4 = some g → g ∈ ([]) ∨ w.heap.size ≤ g := fun g hg => (hkc4 g (by simp [keys, hg])).elim (fun h => (kc_b hnew4 (kc_n)) g h) (fun h => .inr (Nat.le_trans hF.size h))
  have st := st.callS [0, 1, 2] [3] (by decide) rfl hN5 hfO5 hkc4
  have hF := hF.step hfO5 (kc_b hnew4 (kc_n))
  have z8 := Ow.le how7
  have st : St X w17 [_, _, _, _] [_, _, _, _, _] := st
  refine Ls' rfl (Ln k18 (sq fun _ k19 => rg (Lm rfl (Ly rfl (yl 2 Ty.pl_30 st rfl) (Ly rfl (y_build (cells := [_, _]) rfl rfl Ty.zc_55 Ty.ps_55 rfl) (La rfl (Ssw 1 Ty.sz_55 st hF (.inr hg2) rfl fun w18 (st : St _ _ [_, _, _, _] _) hF => Ls' rfl (Ln k19 ?_))))))))
  have st : St X w18 [_, _, _] [_, _, _, _, _, _] := st.freeze (i := 3) [0, 1, 2] (by decide) rfl how7 (by decide)
  refine wR (fR (ResN2 rfl (rvc (i := 1) rfl Ty.ag_55 st.hp rfl rfl) rfl) ?_)
  unfold mdrop_m; rewrite [iP hc1, iN hc2, iN hc3, iN hc4]
  exact ⟨_, _, _, _, rfl, st.ot 5 rfl, st.ot 4 rfl, hF⟩
end Go.Proofs.YtdckemiebnfjcaaGreatDoor

/- Walks printed by gen2.py out of our own specifications: what the functions named below do. -/
import Derived.Test.YtdckemiebnfjcaaGreatDoorSc
import Derived.Test.YtdckemiebnfjcaaGreatDoorO2b
set_option linter.unusedSimpArgs false
set_option linter.unusedVariables false
set_option maxRecDepth 20000
namespace Go.Proofs.YtdckemiebnfjcaaGreatDoor
open Go.RowKit
def nanL_m (x : Int) : Bool :=
  x != x
theorem nanL_ok (w : World) (x : Int) :
    Fn Tryz.prog 144 [.int .i64 x] w fun v w' => v = .bool (nanL_m x) ∧ Fr [] w w' := by
  refine Fn_of 6 Ty.en_144 Tryz.func144 rfl rfl rfl ?_
  dsimp only [argEnv]
  have st := stn0 (X := []) (w := w) (by simp [Lo])
  have hF := Fr.refl ([]) w
  refine sq fun _ k1 => rg (Ls' rfl (Ln k1 (sq fun _ k2 => rg (Lm rfl (Lm rfl (Ly rfl (yne rfl) (Ls' rfl (Ln k2 (wR (fR (Res1 rfl rfl) ?_))))))))))
  unfold nanL_m
  exact ⟨rfl, hF⟩
def nanS_m (x : List UInt8) : Bool :=
  x != x
theorem nanS_ok (w : World) (x : List UInt8) :
    Fn Tryz.prog 138 [sv x] w fun v w' => v = .bool (nanS_m x) ∧ Fr [] w w' := by
  refine Fn_of 6 Ty.en_138 Tryz.func138 rfl rfl rfl ?_
  dsimp only [argEnv]
  have st := stn0 (X := []) (w := w) (by simp [Lo])
  have hF := Fr.refl ([]) w
  refine sq fun _ k1 => rg (Ls' rfl (Ln k1 (sq fun _ k2 => rg (Lm rfl (Lm rfl (Ly rfl (y_nes rfl rfl rfl) (Ls' rfl (Ln k2 (wR (fR (Res1 rfl rfl) ?_))))))))))
  unfold nanS_m
  exact ⟨rfl, hF⟩
def cmpL_m (x : Int) (y : Int) : Int :=
  if (nanL_m x) = true then
    if (nanL_m y) = true then
      0
    else
      (-1)
  else
    if (nanL_m y) = true then
      1
    else
      if x < y then
        (-1)
      else
        if y < x then
          1
        else
          0
theorem cmpL_ok (w : World) (x : Int) (y : Int) :
    Fn Tryz.prog 124 [.int .i64 x, .int .i64 y] w fun v w' => v = .int .i64 (cmpL_m x y) ∧ Fr [] w w' := by
  refine Fn_of 20 Ty.en_124 Tryz.func124 rfl rfl rfl ?_
  dsimp only [argEnv]
  have st := stn0 (X := []) (w := w) (by simp [Lo])
  have hF := Fr.refl ([]) w
  refine sq fun _ k1 => rg (Ls' rfl (Ln k1 (sq fun _ k2 => rg (Lm rfl (La rfl (Scl st hF rfl (nanL_ok _ x) fun w1 st hF => Ls' rfl (Ln k2 (sq fun _ k3 => rg (Lm rfl (La rfl (Scl st hF rfl (nanL_ok _ y) fun w2 st hF => Ls' rfl (Ln k3 (sq fun _ k4 => sq fun _ k5 => rg (Lm rfl (Ln k5 (cB rfl (fun hc1 => ?_) (fun hc1 => ?_)))))))))))))))))
  · refine sq fun _ k6 => sq fun _ k7 => rg (Lm rfl (Ln k7 (cB rfl (fun hc2 => ?_) (fun hc2 => ?_))))
    · refine sq fun _ k8 => rg (Ls' rfl (Ln k8 (wR (Th_r (Th_r (fR (Res1 rfl rfl) ?_))))))
      unfold cmpL_m; rewrite [iP hc1, iP hc2]
      exact ⟨rfl, hF⟩
    refine sk k6 (sq fun _ k9 => rg (Ls' rfl (Ln k9 (wR (Th_r (fR (Res1 rfl rfl) ?_))))))
    unfold cmpL_m; rewrite [iP hc1, iN hc2]
    exact ⟨rfl, hF⟩
  refine sk k4 (sq fun _ k10 => sq fun _ k11 => rg (Lm rfl (Ln k11 (cB rfl (fun hc3 => ?_) (fun hc3 => ?_)))))
  · refine sq fun _ k12 => rg (Ls' rfl (Ln k12 (wR (Th_r (fR (Res1 rfl rfl) ?_)))))
    unfold cmpL_m; rewrite [iN hc1, iP hc3]
    exact ⟨rfl, hF⟩
  refine sk k10 (sq fun _ k13 => sq fun _ k14 => rg (Lm rfl (Lm rfl (Ly rfl (ylt rfl) (Ln k14 (cD rfl (fun hc4 => ?_) (fun hc4 => ?_)))))))
  · refine sq fun _ k15 => rg (Ls' rfl (Ln k15 (wR (Th_r (fR (Res1 rfl rfl) ?_)))))
    unfold cmpL_m; rewrite [iN hc1, iN hc3, iP hc4]
    exact ⟨rfl, hF⟩
  refine sk k13 (sq fun _ k16 => sq fun _ k17 => rg (Lm rfl (Lm rfl (Ly rfl (ygt rfl) (Ln k17 (cD rfl (fun hc5 => ?_) (fun hc5 => ?_)))))))
  · refine sq fun _ k18 => rg (Ls' rfl (Ln k18 (wR (Th_r (fR (Res1 rfl rfl) ?_)))))
    unfold cmpL_m; rewrite [iN hc1, iN hc3, iN hc4, iP hc5]
    exact ⟨rfl, hF⟩
  refine sk k16 (sq fun _ k19 => rg (Ls' rfl (Ln k19 (wR (fR (Res1 rfl rfl) ?_)))))
  unfold cmpL_m; rewrite [iN hc1, iN hc3, iN hc4, iN hc5]
  exact ⟨rfl, hF⟩
def cmpS_m (x : List UInt8) (y : List UInt8) : Int :=
  if (nanS_m x) = true then
    if (nanS_m y) = true then
      0
    else
      (-1)
  else
    if (nanS_m y) = true then
      1
    else
      if x < y then
        (-1)
      else
        if y < x then
          1
        else
          0
theorem cmpS_ok (w : World) (x : List UInt8) (y : List UInt8) :
    Fn Tryz.prog 105 [sv x, sv y] w fun v w' => v = .int .i64 (cmpS_m x y) ∧ Fr [] w w' := by
  refine Fn_of 20 Ty.en_105 Tryz.func105 rfl rfl rfl ?_
  dsimp only [argEnv]
  have st := stn0 (X := []) (w := w) (by simp [Lo])
  have hF := Fr.refl ([]) w
  refine sq fun _ k1 => rg (Ls' rfl (Ln k1 (sq fun _ k2 => rg (Lm rfl (La rfl (Scl st hF rfl (nanS_ok _ x) fun w1 st hF => Ls' rfl (Ln k2 (sq fun _ k3 => rg (Lm rfl (La rfl (Scl st hF rfl (nanS_ok _ y) fun w2 st hF => Ls' rfl (Ln k3 (sq fun _ k4 => sq fun _ k5 => rg (Lm rfl (Ln k5 (cB rfl (fun hc1 => ?_) (fun hc1 => ?_)))))))))))))))))
  · refine sq fun _ k6 => sq fun _ k7 => rg (Lm rfl (Ln k7 (cB rfl (fun hc2 => ?_) (fun hc2 => ?_))))
    · refine sq fun _ k8 => rg (Ls' rfl (Ln k8 (wR (Th_r (Th_r (fR (Res1 rfl rfl) ?_))))))
      unfold cmpS_m; rewrite [iP hc1, iP hc2]
      exact ⟨rfl, hF⟩
    refine sk k6 (sq fun _ k9 => rg (Ls' rfl (Ln k9 (wR (Th_r (fR (Res1 rfl rfl) ?_))))))
    unfold cmpS_m; rewrite [iP hc1, iN hc2]
    exact ⟨rfl, hF⟩
  refine sk k4 (sq fun _ k10 => sq fun _ k11 => rg (Lm rfl (Ln k11 (cB rfl (fun hc3 => ?_) (fun hc3 => ?_)))))
  · refine sq fun _ k12 => rg (Ls' rfl (Ln k12 (wR (Th_r (fR (Res1 rfl rfl) ?_)))))
    unfold cmpS_m; rewrite [iN hc1, iP hc3]
    exact ⟨rfl, hF⟩
  refine sk k10 (sq fun _ k13 => sq fun _ k14 => rg (Lm rfl (Lm rfl (Ly rfl (y_lts rfl rfl rfl) (Ln k14 (cD rfl (fun hc4 => ?_) (fun hc4 => ?_)))))))
  · refine sq fun _ k15 => rg (Ls' rfl (Ln k15 (wR (Th_r (fR (Res1 rfl rfl) ?_)))))
    unfold cmpS_m; rewrite [iN hc1, iN hc3, iP hc4]
    exact ⟨rfl, hF⟩
  refine sk k13 (sq fun _ k16 => sq fun _ k17 => rg (Lm rfl (Lm rfl (Ly rfl (y_gts rfl rfl rfl) (Ln k17 (cD rfl (fun hc5 => ?_) (fun hc5 => ?_)))))))
  · refine sq fun _ k18 => rg (Ls' rfl (Ln k18 (wR (Th_r (fR (Res1 rfl rfl) ?_)))))
    unfold cmpS_m; rewrite [iN hc1, iN hc3, iN hc4, iP hc5]
    exact ⟨rfl, hF⟩
  refine sk k16 (sq fun _ k19 => rg (Ls' rfl (Ln k19 (wR (fR (Res1 rfl rfl) ?_)))))
  unfold cmpS_m; rewrite [iN hc1, iN hc3, iN hc4, iN hc5]
  exact ⟨rfl, hF⟩
def cmpOrE_L1 (l : List Int) : Nat → Int → (Int) ⊕ (Int)
  | 0, s8 => .inr (s8)
  | fuel + 1, s8 =>
    if s8 < (l.length : Int) then
      if (ix l s8) = 0 then
        cmpOrE_L1 l fuel (s8 + 1)
      else
        .inl (ix l s8)
    else
      .inr (s8)
def cmpOrE_m (l : List Int) : Int :=
  match cmpOrE_L1 l (((l.length : Int) - (0 : Int)).toNat + 1) (0 : Int) with
  | .inl r => r
  | .inr (s8) =>
    0
theorem cmpOrE_ok (X : List Nat) (w : World) (hX : Lo X w) (l : List Int) (A_l : Option Addr) (c_l : Nat) (h_l : Sld X w A_l l.length c_l 1 (l.flatMap (fun x => [Value.int .i64 x]))) :
    Fn Tryz.prog 77 [.slice A_l l.length c_l] w fun v w' => v = .int .i64 (cmpOrE_m l) ∧ Fr [] w w' := by
  refine Fn_of 18 Ty.en_77 Tryz.func77 rfl rfl rfl ?_
  dsimp only [argEnv]
  have st := stn1 hX h_l
  have hF := Fr.refl ([]) w
  have z1 := (st.q 0 rfl).le
  refine sq fun _ k1 => rg (Ls' rfl (Ln k1 (sq fun _ k2 => rg (Ls' rfl (Ln k2 (sq fun _ k3 => sq fun _ k4 => rg (Lm rfl (Ly rfl (yll rfl Tryz.underlying210) (Lm rfl (Ln k4 (Wp_block (lp (fun q E W => ∃ (s8 : Int), E = [(3, .int .i64 0), (6, .slice A_l l.length c_l), (7, .int .i64 (l.length : Int)), (8, .int .i64 s8)] ∧ jq q (fun m => (cmpOrE_L1 l m s8 = cmpOrE_L1 l (((l.length : Int) - (0 : Int)).toNat + 1) (0 : Int) ∧ ((l.length : Int) - s8).toNat < m)) (cmpOrE_L1 l (((l.length : Int) - (0 : Int)).toNat + 1) (0 : Int) = .inr (s8)) ∧ (0 ≤ s8) ∧ St X W [] [kS A_l l.length c_l 1 (l.flatMap (fun x => [Value.int .i64 x]))] ∧ Fr ([]) w W) (((l.length : Int) - (0 : Int)).toNat + 1) [(3, _), (6, _), (7, _), (8, _)] ⟨rfl, rfl, rfl, rfl, trivial⟩ ⟨_, rfl, ⟨rfl, Nat.lt_succ_self _⟩, by first | omega | (simp; done) | (simp; omega), st, hF⟩ k3 ?_ fun hout1 => ?_))))))))))))
  · rintro E w1 ⟨s8, rfl, hLk1, hinv, st, hF⟩
    unfold jq at hLk1; dsimp only at hLk1
    refine sq fun _ k5 => rg (Lm rfl (Ls' rfl (Ln k5 (wR (fR (Res1 rfl rfl) ?_)))))
    unfold cmpOrE_m; rewrite [hLk1]; (try dsimp only)
    exact ⟨rfl, hF⟩
  rintro m E w2 ⟨s8, rfl, ⟨hL1, hmu⟩, hinv, st, hF⟩
  obtain ⟨fuel, rfl⟩ : ∃ q, m = q + 1 := ⟨m - 1, by omega⟩
  refine sq fun _ k6 => rg (Ly rfl (ylt rfl) (Ln k6 (sq fun _ k7 => cD rfl (fun hc1 => ?_) (fun hc1 => ?_))))
  · refine sk k7 (sq fun _ k8 => Wp_block (sq fun _ k9 => rg ?_))
    obtain ⟨gi1, bi1, egi1⟩ := (st.k (i := 0) rfl).addr (fun _ => rfl) (by decide) (q := s8) (by first | omega | (simp; done) | (simp; omega)) (by first | omega | (simp; done) | (simp; omega))
    subst egi1
    refine Ly rfl (y_ixa (q := s8) rfl rfl rfl Ty.es_210 (by first | omega | (simp; done) | (simp; omega)) (by first | omega | (simp; done) | (simp; omega))) ?_
    refine Ly rfl (y_ldk1 (q := s8) 0 rfl rfl Ty.pl_60 (fun _ e => e ▸ st.k (i := 0) rfl) (fun _ => rfl) (by first | omega | (simp; done) | (simp; omega)) (by first | omega | (simp; done) | (simp; omega)) rfl) ?_
    refine Ls' rfl (Ln k9 (sq fun _ k10 => rg (Lm rfl (Lm rfl (Ly rfl (yne rfl) (Ln k10 (cN rfl (fun hc2 => ?_) (fun hc2 => ?_))))))))
    · refine sq fun _ k11 => rg (Lm rfl (Ls' rfl (Ln k11 (wR (Ib_r (Th_r (Th_r (Ib_r (Th_r (fR (Res1 rfl rfl) ?_))))))))))
      have hret1 : cmpOrE_L1 l (((l.length : Int) - (0 : Int)).toNat + 1) (0 : Int) = .inl (ix l s8) := by rewrite [← hL1, cmpOrE_L1]; rewrite [iP hc1, iN hc2]; rfl
      have he2 : cmpOrE_m l = (ix l s8) := by unfold cmpOrE_m; rewrite [hret1]; (try dsimp only); all_goals rfl
      rewrite [he2]
      exact ⟨rfl, hF⟩
    refine Wp_skip (Ib_n (Th_n (k8 _ _ (rg (Ly rfl (y_add (c := s8 + 1) rfl rfl rfl (wf_i64 (by first | omega | (simp; done) | (simp; omega)))) ?_)))))
    refine Lm rfl (Ls_nil (Th_n (?_)))
    exact ⟨fuel, [(3, _), (6, _), (7, _), (8, _)], Nat.lt_succ_self _, ⟨rfl, rfl, rfl, rfl, trivial⟩, (s8 + 1), rfl, ⟨by rewrite [← hL1, cmpOrE_L1]; rewrite [iP hc1, iP hc2]; rfl, by first | omega | (simp; done) | (simp; omega)⟩, by first | omega | (simp; done) | (simp; omega), (st.pk [] (by decide)).pickK [0], hF⟩
  refine Wp_exit (Th_e (Th_e (Ib_hit (Th_n (?_)))))
  exact hout1 _ [(3, _), (6, _), (7, _), (8, _)] _ ⟨rfl, rfl, rfl, rfl, trivial⟩ ⟨s8, rfl, show _ = _ from by rewrite [← hL1, cmpOrE_L1]; rewrite [iN hc1]; rfl, by first | omega | (simp; done) | (simp; omega), (st.pk [] (by decide)).pickK [0], hF⟩
def lcompare_m (a : StampM) (b : StampM) : Int :=
  cmpOr_m [cmpU_m a.time b.time, cmpI_m a.origin b.origin]
theorem lcompare_ok (w : World) (a : StampM) (b : StampM) :
    Fn Tryz.prog 123 [.agg (stampMC a).toArray, .agg (stampMC b).toArray] w fun v w' => v = .int .i64 (lcompare_m a b) ∧ Fr [] w w' := by
  refine Fn_of 17 Ty.en_123 Tryz.func123 rfl rfl rfl ?_
  dsimp only [argEnv]
  have st := stn0 (X := []) (w := w) (by simp [Lo])
  have hF := Fr.refl ([]) w
  refine sq fun _ k1 => rg (La rfl (Sbx st hF rfl fun g1 w1 (st : St _ _ [_] _) hF hg1 => La rfl (Sbx st hF rfl fun g2 w2 (st : St _ _ [_, _] _) hF hg2 => Ls' rfl (Ln k1 (sq fun _ k2 => ?_)))))
  refine Wp_plan (fun W => St [] W (pickL (hOf st) [0, 1]) (kOf st)) [(true, 0), (true, 1), (true, 2), (true, 3), (true, 5), (true, 6), (true, 7), (true, 8), (false, 4), (false, 9), (false, 10), (false, 11), (true, 12)] Ty.mx_0 (by kernel_rfl) (by kernel_rfl) rfl ((st.pk [0, 1] (by decide)).drew) ?_
  have st := st.drew
  have hF := hF.step0 (Fr.drew _)
  refine Py rfl (yf rfl Ty.fo_24_0) (Py rfl (y_load (i := 0) rfl rfl Ty.pl_22 (fun _ h => h.hp) rfl rfl) (Py rfl (yf rfl Ty.fo_24_0) (Py rfl (y_load (i := 1) rfl rfl Ty.pl_22 (fun _ h => h.hp) rfl rfl) (Py rfl (yf rfl Ty.fo_24_1) (Py rfl (y_load (i := 0) rfl rfl Ty.pl_3 (fun _ h => h.hp) rfl rfl) (Py rfl (yf rfl Ty.fo_24_1) (Py rfl (y_load (i := 1) rfl rfl Ty.pl_3 (fun _ h => h.hp) rfl rfl) (Pl_a rfl (wtd0 rfl) (by rfl) ?_))))))))
  refine Scl st hF rfl (cmpU_ok _ a.time b.time) fun w3 st hF => ?_
  refine ⟨(st.pk [0, 1] (by decide)).tK 0, ?_⟩
  refine Pl_a rfl (wtd0 rfl) (by rfl) ?_
  refine Scl st hF rfl (cmpI_ok _ a.origin b.origin) fun w4 st hF => ?_
  refine ⟨(st.pk [0, 1] (by decide)).tK 0, ?_⟩
  refine Pl_a rfl (wtd0 rfl) (by rfl) ?_
  refine a_bsl rfl rfl rfl rfl rfl Ty.es_229 Ty.zc_3 rfl (by decide) (by simp [Value.cells]) st.hp (fun g3 w5 (hp : Hp w5 [_, _, _]) hf hg3 => ?_)
  have how1 : Ow (some ⟨g3, 0, none⟩) [cmpU_m a.time b.time, cmpI_m a.origin b.origin].length 2 1 ([cmpU_m a.time b.time, cmpI_m a.origin b.origin].flatMap (fun x => [Value.int .i64 x])) [] := ⟨rfl, .inr ⟨g3, rfl, rfl, Nat.le_refl _, by unfold maxLen; decide⟩⟩
  have st : St [] w5 [_, _, _] [] := st.push hp hf hg3
  have st : St [] w5 [_, _, _] [] := st
  have hg3 := Nat.le_trans hF.size hg3
  have hF := hF.step0 hf
  have hnew1 := newB (X0 := []) hg3
  refine ⟨(st.pk [0, 1] (by decide)).tK 0, ?_⟩
  refine Pl_a rfl (wtd0 rfl) (by rfl) ?_
  refine Scl st hF rfl (cmpOr_ok (keys (pickL (hOf st) [0, 1]) ++ []) _ (st.sub [0, 1] [] [] (by decide)).lo [cmpU_m a.time b.time, cmpI_m a.origin b.origin] (some ⟨g3, 0, none⟩) 2 ((st.freeze (i := 2) [0, 1] (by decide) rfl how1 (by decide)).k (i := 0) rfl)) fun w6 st hF => ?_
  refine ⟨(st.pk [0, 1] (by decide)).tK 0, ?_⟩
  refine Py rfl (y_assign rfl rfl) (Pl_nil (Th_n (k2 _ _ (wR (fR (Res1 rfl rfl) ?_)))))
  unfold lcompare_m
  exact ⟨rfl, hF⟩
def wmerge_m (a : RegM) (b : RegM) : RegM :=
  if (cmpOr_m [lcompare_m a.atF b.atF, cmpL_m a.val b.val]) < 0 then
    b
  else
    a
theorem wmerge_ok (w : World) (a : RegM) (b : RegM) :
    Fn Tryz.prog 78 [.agg (regMC a).toArray, .agg (regMC b).toArray] w fun v w' => v = .agg (regMC (wmerge_m a b)).toArray ∧ Fr [] w w' := by
  refine Fn_of 20 Ty.en_78 Tryz.func78 rfl rfl rfl ?_
  dsimp only [argEnv]
  have st := stn0 (X := []) (w := w) (by simp [Lo])
  have hF := Fr.refl ([]) w
  refine sq fun _ k1 => rg (La rfl (Sbx st hF rfl fun g1 w1 (st : St _ _ [_] _) hF hg1 => La rfl (Sbx st hF rfl fun g2 w2 (st : St _ _ [_, _] _) hF hg2 => La rfl (Sal Ty.zc_48 st hF rfl fun g3 w3 (st : St _ _ [_, _, _] _) hF hg3 => Ln k1 (sq fun _ k2 => sq fun _ k3 => ?_)))))
  refine Wp_plan (fun W => St [] W (pickL (hOf st) [0, 1, 2]) (kOf st)) [(true, 0), (true, 1), (true, 2), (true, 3), (true, 5), (true, 6), (true, 7), (true, 8), (false, 4), (false, 9), (false, 10), (false, 11), (true, 12)] Ty.mx_0 (by kernel_rfl) (by kernel_rfl) rfl ((st.pk [0, 1, 2] (by decide)).drew) ?_
  have st := st.drew
  have hF := hF.step0 (Fr.drew _)
  refine Py rfl (yf rfl Ty.fo_48_1) (Py rfl (y_loadm (i := 0) rfl rfl Ty.ag_24 (fun _ h => h.hp) rfl rfl rfl) (Py rfl (yf rfl Ty.fo_48_1) (Py rfl (y_loadm (i := 1) rfl rfl Ty.ag_24 (fun _ h => h.hp) rfl rfl rfl) (Py rfl (yf rfl Ty.fo_48_0) (Py rfl (y_load (i := 0) rfl rfl Ty.pl_2 (fun _ h => h.hp) rfl rfl) (Py rfl (yf rfl Ty.fo_48_0) (Py rfl (y_load (i := 1) rfl rfl Ty.pl_2 (fun _ h => h.hp) rfl rfl) (Pl_a rfl (wtd0 rfl) (by rfl) ?_))))))))
  refine Scl st hF rfl (lcompare_ok _ a.atF b.atF) fun w4 st hF => ?_
  refine ⟨(st.pk [0, 1, 2] (by decide)).tK 0, ?_⟩
  refine Pl_a rfl (wtd0 rfl) (by rfl) ?_
  refine Scl st hF rfl (cmpL_ok _ a.val b.val) fun w5 st hF => ?_
  refine ⟨(st.pk [0, 1, 2] (by decide)).tK 0, ?_⟩
  refine Pl_a rfl (wtd0 rfl) (by rfl) ?_
  refine a_bsl rfl rfl rfl rfl rfl Ty.es_229 Ty.zc_3 rfl (by decide) (by simp [Value.cells]) st.hp (fun g4 w6 (hp : Hp w6 [_, _, _, _]) hf hg4 => ?_)
  have how1 : Ow (some ⟨g4, 0, none⟩) [lcompare_m a.atF b.atF, cmpL_m a.val b.val].length 2 1 ([lcompare_m a.atF b.atF, cmpL_m a.val b.val].flatMap (fun x => [Value.int .i64 x])) [] := ⟨rfl, .inr ⟨g4, rfl, rfl, Nat.le_refl _, by unfold maxLen; decide⟩⟩
  have st : St [] w6 [_, _, _, _] [] := st.push hp hf hg4
  have st : St [] w6 [_, _, _, _] [] := st
  have hg4 := Nat.le_trans hF.size hg4
  have hF := hF.step0 hf
  have hnew1 := newB (X0 := []) hg4
  refine ⟨(st.pk [0, 1, 2] (by decide)).tK 0, ?_⟩
  refine Pl_a rfl (wtd0 rfl) (by rfl) ?_
  refine Scl st hF rfl (cmpOr_ok (keys (pickL (hOf st) [0, 1, 2]) ++ []) _ (st.sub [0, 1, 2] [] [] (by decide)).lo [lcompare_m a.atF b.atF, cmpL_m a.val b.val] (some ⟨g4, 0, none⟩) 2 ((st.freeze (i := 3) [0, 1, 2] (by decide) rfl how1 (by decide)).k (i := 0) rfl)) fun w7 st hF => ?_
  refine ⟨(st.pk [0, 1, 2] (by decide)).tK 0, ?_⟩
  refine Py rfl (ylt rfl) (Pl_nil (Th_n (k3 _ _ (cD rfl (fun hc1 => ?_) (fun hc1 => ?_)))))
  · refine sq fun _ k4 => rg (Ly rfl (yw 1 Ty.ag_48 st rfl) (La rfl (Ssw 2 Ty.sz_48 st hF (.inr hg3) rfl fun w8 (st : St _ _ [_, _, _, _] _) hF => Ln k4 (wR (Th_r (fR (ResN1 rfl (rvc (i := 2) rfl Ty.ag_48 st.hp rfl rfl)) ?_))))))
    unfold wmerge_m; rewrite [iP hc1]
    exact ⟨rfl, hF⟩
  refine sk k2 (sq fun _ k5 => rg (Ly rfl (yw 0 Ty.ag_48 st rfl) (La rfl (Ssw 2 Ty.sz_48 st hF (.inr hg3) rfl fun w9 (st : St _ _ [_, _, _, _] _) hF => Ln k5 (wR (fR (ResN1 rfl (rvc (i := 2) rfl Ty.ag_48 st.hp rfl rfl)) ?_))))))
  unfold wmerge_m; rewrite [iN hc1]
  exact ⟨rfl, hF⟩
def wapply_m (s : RegM) (x : Int) (at_ : StampM) : RegM × Int :=
  if (cmpOrE_m [lcheck_m s.atF, lcheck_m at_]) = 0 then
    if at_.time = 0 then
      ((⟨0, (⟨0, 0⟩ : StampM)⟩ : RegM), 2)
    else
      ((⟨(wmerge_m s (⟨x, at_⟩ : RegM)).val, (⟨(wmerge_m s (⟨x, at_⟩ : RegM)).atF.time, (wmerge_m s (⟨x, at_⟩ : RegM)).atF.origin⟩ : StampM)⟩ : RegM), 0)
  else
    ((⟨0, (⟨0, 0⟩ : StampM)⟩ : RegM), cmpOrE_m [lcheck_m s.atF, lcheck_m at_])
theorem wapply_ok (w : World) (s : RegM) (x : Int) (at_ : StampM) :
    Fn Tryz.prog 47 [.agg (regMC s).toArray, .int .i64 x, .agg (stampMC at_).toArray] w fun v w' => v = .tuple #[.agg (regMC ((wapply_m s x at_).1)).toArray, .int .i64 ((wapply_m s x at_).2)] ∧ Fr [] w w' := by
  refine Fn_of 29 Ty.en_47 Tryz.func47 rfl rfl rfl ?_
  dsimp only [argEnv]
  have st := stn0 (X := []) (w := w) (by simp [Lo])
  have hF := Fr.refl ([]) w
  refine sq fun _ k1 => rg (La rfl (Sbx st hF rfl fun g1 w1 (st : St _ _ [_] _) hF hg1 => La rfl (Sbx st hF rfl fun g2 w2 (st : St _ _ [_, _] _) hF hg2 => La rfl (Sal Ty.zc_48 st hF rfl fun g3 w3 (st : St _ _ [_, _, _] _) hF hg3 => Ls' rfl (Ln k1 (sq fun _ k2 => sq fun _ k3 => ?_))))))
  refine Wp_plan (fun W => St [] W (pickL (hOf st) [0, 1, 2]) (kOf st)) [(true, 0), (true, 1), (true, 3), (false, 2), (false, 4), (false, 5), (false, 6), (true, 7)] Ty.mx_0 (by kernel_rfl) (by kernel_rfl) rfl ((st.pk [0, 1, 2] (by decide)).drew) ?_
  have st := st.drew
  have hF := hF.step0 (Fr.drew _)
  refine Py rfl (yf rfl Ty.fo_48_1) (Py rfl (y_loadm (i := 0) rfl rfl Ty.ag_24 (fun _ h => h.hp) rfl rfl rfl) (Py rfl (y_loadw (i := 1) rfl rfl Ty.ag_24 (fun _ h => h.hp) rfl rfl) (Pl_a rfl (wtd0 rfl) (by rfl) ?_)))
  refine Scl st hF rfl (lcheck_ok _ s.atF) fun w4 st hF => ?_
  refine ⟨(st.pk [0, 1, 2] (by decide)).tK 0, ?_⟩
  refine Pl_a rfl (wtd0 rfl) (by rfl) ?_
  refine Scl st hF rfl (lcheck_ok _ at_) fun w5 st hF => ?_
  refine ⟨(st.pk [0, 1, 2] (by decide)).tK 0, ?_⟩
  refine Pl_a rfl (wtd0 rfl) (by rfl) ?_
  refine a_bsl rfl rfl rfl rfl rfl Ty.es_210 Ty.zc_60 rfl (by decide) (by simp [Value.cells]) st.hp (fun g4 w6 (hp : Hp w6 [_, _, _, _]) hf hg4 => ?_)
  have how1 : Ow (some ⟨g4, 0, none⟩) [lcheck_m s.atF, lcheck_m at_].length 2 1 ([lcheck_m s.atF, lcheck_m at_].flatMap (fun x => [Value.int .i64 x])) [] := ⟨rfl, .inr ⟨g4, rfl, rfl, Nat.le_refl _, by unfold maxLen; decide⟩⟩
  have st : St [] w6 [_, _, _, _] [] := st.push hp hf hg4
  have st : St [] w6 [_, _, _, _] [] := st
  have hg4 := Nat.le_trans hF.size hg4
  have hF := hF.step0 hf
  have hnew1 := newB (X0 := []) hg4
  refine ⟨(st.pk [0, 1, 2] (by decide)).tK 0, ?_⟩
  refine Pl_a rfl (wtd0 rfl) (by rfl) ?_
  refine Scl st hF rfl (cmpOrE_ok (keys (pickL (hOf st) [0, 1, 2]) ++ []) _ (st.sub [0, 1, 2] [] [] (by decide)).lo [lcheck_m s.atF, lcheck_m at_] (some ⟨g4, 0, none⟩) 2 ((st.freeze (i := 3) [0, 1, 2] (by decide) rfl how1 (by decide)).k (i := 0) rfl)) fun w7 st hF => ?_
  refine ⟨(st.pk [0, 1, 2] (by decide)).tK 0, ?_⟩
  refine Py rfl (y_assign rfl rfl) (Pl_nil (Th_n (k3 _ _ (sq fun _ k4 => rg (Lm rfl (Ly rfl (yne rfl) (Ln k4 (cN rfl (fun hc1 => ?_) (fun hc1 => ?_)))))))))
  · refine sq fun _ k5 => rg (Ly rfl (y_build (cells := [_, _, _]) rfl rfl Ty.zc_48 Ty.ps_48 rfl) (Lm rfl (La rfl (Ssw 2 Ty.sz_48 st hF (.inr hg3) rfl fun w8 (st : St _ _ [_, _, _, _] _) hF => Ls' rfl (Ln k5 (wR (Th_r (fR (ResN2 rfl (rvc (i := 2) rfl Ty.ag_48 st.hp rfl rfl) rfl) ?_))))))))
    unfold wapply_m; rewrite [iN hc1]
    exact ⟨rfl, hF⟩
  refine sk k2 (sq fun _ k6 => sq fun _ k7 => rg (Ly rfl (yf rfl Ty.fo_24_0) (Ly rfl (yl 1 Ty.pl_22 st rfl) (Ly rfl (yeq rfl) (Ln k7 (cE rfl (fun hc2 => ?_) (fun hc2 => ?_)))))))
  · refine sq fun _ k8 => rg (Ly rfl (y_build (cells := [_, _, _]) rfl rfl Ty.zc_48 Ty.ps_48 rfl) (La rfl (Ssw 2 Ty.sz_48 st hF (.inr hg3) rfl fun w9 (st : St _ _ [_, _, _, _] _) hF => Ls' rfl (Ln k8 (wR (Th_r (fR (ResN2 rfl (rvc (i := 2) rfl Ty.ag_48 st.hp rfl rfl) rfl) ?_)))))))
    unfold wapply_m; rewrite [iP hc1, iP hc2]
    exact ⟨rfl, hF⟩
  refine sk k6 (sq fun _ k9 => rg (Ly rfl (yw 0 Ty.ag_48 st rfl) (Lm rfl (Ly rfl (yw 1 Ty.ag_24 st rfl) (Ly rfl (y_build (cells := [_, _, _]) rfl rfl Ty.zc_48 Ty.ps_48 rfl) (La rfl (Scl st hF rfl (wmerge_ok _ s (⟨x, at_⟩ : RegM)) fun w10 st hF => La rfl (Ssw 2 Ty.sz_48 st hF (.inr hg3) rfl fun w11 (st : St _ _ [_, _, _, _] _) hF => Ls' rfl (Ln k9 (wR (fR (ResN2 rfl (rvc (i := 2) rfl Ty.ag_48 st.hp rfl rfl) rfl) ?_)))))))))))
  unfold wapply_m; rewrite [iP hc1, iN hc2]
  exact ⟨rfl, hF⟩
def within_c1 (low : Int) (high : Int) (l : List Int) (s11 : Int) : Bool :=
  (if (ix l s11) < low then true else decide (high < (ix l s11)))
def within_L1 (low : Int) (high : Int) (l : List Int) : Nat → Int → (Bool) ⊕ (Int)
  | 0, s11 => .inr (s11)
  | fuel + 1, s11 =>
    if s11 < (l.length : Int) then
      if (within_c1 low high l s11) = true then
        .inl false
      else
        within_L1 low high l fuel (s11 + 1)
    else
      .inr (s11)
def within_m (low : Int) (high : Int) (l : List Int) : Bool :=
  match within_L1 low high l (((l.length : Int) - (0 : Int)).toNat + 1) (0 : Int) with
  | .inl r => r
  | .inr (s11) =>
    true
theorem within_c1_iff (low : Int) (high : Int) (l : List Int) (s11 : Int) : (within_c1 low high l s11 = true) ↔ (((ix l s11) < low) ∨ (high < (ix l s11))) := by
  unfold within_c1; exact (ci1 decide_eq_true_iff)
theorem within_ok (X : List Nat) (w : World) (hX : Lo X w) (low : Int) (high : Int) (l : List Int) (A_l : Option Addr) (c_l : Nat) (h_l : Sld X w A_l l.length c_l 1 (l.flatMap (fun x => [Value.int .i64 x]))) :
    Fn Tryz.prog 125 [.int .i64 low, .int .i64 high, .slice A_l l.length c_l] w fun v w' => v = .bool (within_m low high l) ∧ Fr [] w w' := by
  refine Fn_of 24 Ty.en_125 Tryz.func125 rfl rfl rfl ?_
  dsimp only [argEnv]
  have st := stn1 hX h_l
  have hF := Fr.refl ([]) w
  have z1 := (st.q 0 rfl).le
  refine sq fun _ k1 => rg (Ls' rfl (Ln k1 (sq fun _ k2 => sq fun _ k3 => rg (Lm rfl (Ly rfl (yll rfl Tryz.underlying232) (Lm rfl (Ln k3 (Wp_block (lp (fun q E W => ∃ (s11 : Int), E = [(0, .int .i64 low), (1, .int .i64 high), (9, .slice A_l l.length c_l), (10, .int .i64 (l.length : Int)), (11, .int .i64 s11)] ∧ jq q (fun m => (within_L1 low high l m s11 = within_L1 low high l (((l.length : Int) - (0 : Int)).toNat + 1) (0 : Int) ∧ ((l.length : Int) - s11).toNat < m)) (within_L1 low high l (((l.length : Int) - (0 : Int)).toNat + 1) (0 : Int) = .inr (s11)) ∧ (0 ≤ s11) ∧ St X W [] [kS A_l l.length c_l 1 (l.flatMap (fun x => [Value.int .i64 x]))] ∧ Fr ([]) w W) (((l.length : Int) - (0 : Int)).toNat + 1) [(0, _), (1, _), (9, _), (10, _), (11, _)] ⟨rfl, rfl, rfl, rfl, rfl, trivial⟩ ⟨_, rfl, ⟨rfl, Nat.lt_succ_self _⟩, by first | omega | (simp; done) | (simp; omega), st, hF⟩ k2 ?_ fun hout1 => ?_)))))))))
  · rintro E w1 ⟨s11, rfl, hLk1, hinv, st, hF⟩
    unfold jq at hLk1; dsimp only at hLk1
    refine sq fun _ k4 => rg (Ls' rfl (Ln k4 (wR (fR (Res1 rfl rfl) ?_))))
    unfold within_m; rewrite [hLk1]; (try dsimp only)
    exact ⟨rfl, hF⟩
  rintro m E w2 ⟨s11, rfl, ⟨hL1, hmu⟩, hinv, st, hF⟩
  obtain ⟨fuel, rfl⟩ : ∃ q, m = q + 1 := ⟨m - 1, by omega⟩
  refine sq fun _ k5 => rg (Ly rfl (ylt rfl) (Ln k5 (sq fun _ k6 => cD rfl (fun hc1 => ?_) (fun hc1 => ?_))))
  · refine sk k6 (sq fun _ k7 => Wp_block (sq fun _ k8 => rg ?_))
    obtain ⟨gi1, bi1, egi1⟩ := (st.k (i := 0) rfl).addr (fun _ => rfl) (by decide) (q := s11) (by first | omega | (simp; done) | (simp; omega)) (by first | omega | (simp; done) | (simp; omega))
    subst egi1
    refine Ly rfl (y_ixa (q := s11) rfl rfl rfl Ty.es_232 (by first | omega | (simp; done) | (simp; omega)) (by first | omega | (simp; done) | (simp; omega))) ?_
    refine Ly rfl (y_ldk1 (q := s11) 0 rfl rfl Ty.pl_2 (fun _ e => e ▸ st.k (i := 0) rfl) (fun _ => rfl) (by first | omega | (simp; done) | (simp; omega)) (by first | omega | (simp; done) | (simp; omega)) rfl) ?_
    refine Ls' rfl (Ln k8 (sq fun _ k9 => ?_))
    refine use_out k9 (fun E W => E = [(0, .int .i64 low), (1, .int .i64 high), (9, .slice (some ⟨gi1, bi1, none⟩) l.length c_l), (10, .int .i64 (l.length : Int)), (11, .int .i64 s11), (22, .bool (within_c1 low high l s11))] ∧ St X W (hOf st) (kOf st) ∧ Fr ([]) w W) ?_ fun hout2 => ?_
    · rintro E w3 ⟨rfl, st, hF⟩
      have st : St X w3 [] [_] := st
      refine cB rfl (fun hc2 => ?_) (fun hc2 => ?_)
      · have jhc2 := (within_c1_iff low high l s11).1 hc2
        refine sq fun _ k10 => rg (Ls' rfl (Ln k10 (wR (Ib_r (Th_r (Th_r (Ib_r (Th_r (fR (Res1 rfl rfl) ?_)))))))))
        have hret1 : within_L1 low high l (((l.length : Int) - (0 : Int)).toNat + 1) (0 : Int) = .inl false := by rewrite [← hL1, within_L1]; rewrite [iP hc1, iP hc2]; rfl
        have he2 : within_m low high l = false := by unfold within_m; rewrite [hret1]; (try dsimp only); all_goals rfl
        rewrite [he2]
        exact ⟨rfl, hF⟩
      have jhc2 := mt (within_c1_iff low high l s11).2 hc2
      refine Wp_skip (Ib_n (Th_n (k7 _ _ (rg (Ly rfl (y_add (c := s11 + 1) rfl rfl rfl (wf_i64 (by first | omega | (simp; done) | (simp; omega)))) ?_)))))
      refine Lm rfl (Ls_nil (Th_n (?_)))
      exact ⟨fuel, [(0, _), (1, _), (9, _), (10, _), (11, _)], Nat.lt_succ_self _, ⟨rfl, rfl, rfl, rfl, rfl, trivial⟩, (s11 + 1), rfl, ⟨by rewrite [← hL1, within_L1]; rewrite [iP hc1, iN hc2]; rfl, by first | omega | (simp; done) | (simp; omega)⟩, by first | omega | (simp; done) | (simp; omega), (st.pk [] (by decide)).pickK [0], hF⟩
    refine rg (Lm rfl (Lm rfl (Ly rfl (ylt rfl) (Lm rfl (bD (s := 18) rfl (fun hc3 => ?_) (fun hc3 => ?_))))))
    · refine LsF rfl (LsF rfl (LsF rfl (Ly rfl (yT rfl) (Ls_nil (Th_n (?_))))))
      exact hout2 _ [(0, _), (1, _), (9, _), (10, _), (11, _), (22, _)] _ ⟨rfl, rfl, rfl, rfl, rfl, rfl, trivial⟩ ⟨by unfold within_c1; rewrite [iP hc3]; rfl, (st.pk [] (by decide)).pickK [0], hF⟩
    refine LyT rfl (y_move rfl rfl) (LyT rfl (y_move rfl rfl) (LyT rfl (ygt rfl) (Ly rfl (yF rfl) (Ls_nil (Th_n (?_))))))
    exact hout2 _ [(0, _), (1, _), (9, _), (10, _), (11, _), (22, _)] _ ⟨rfl, rfl, rfl, rfl, rfl, rfl, trivial⟩ ⟨by unfold within_c1; rewrite [iN hc3]; rfl, (st.pk [] (by decide)).pickK [0], hF⟩
  refine Wp_exit (Th_e (Th_e (Ib_hit (Th_n (?_)))))
  exact hout1 _ [(0, _), (1, _), (9, _), (10, _), (11, _)] _ ⟨rfl, rfl, rfl, rfl, rfl, trivial⟩ ⟨s11, rfl, show _ = _ from by rewrite [← hL1, within_L1]; rewrite [iN hc1]; rfl, by first | omega | (simp; done) | (simp; omega), (st.pk [] (by decide)).pickK [0], hF⟩
theorem within2 (lo hi a b : Int) : within_m lo hi [a, b] = decide (lo ≤ a ∧ a ≤ hi ∧ lo ≤ b ∧ b ≤ hi) := by
  rw [Bool.eq_iff_iff, decide_eq_true_iff]
  show (match within_L1 lo hi [a, b] 3 0 with | .inl r => r | .inr s => true) = true ↔ _
  have i0 : ix [a, b] 0 = a := rfl
  have i1 : ix [a, b] (0 + 1) = b := rfl
  simp only [within_L1, within_c1, i0, i1]
  by_cases h1 : a < lo <;> by_cases h2 : hi < a <;> by_cases h3 : b < lo <;> by_cases h4 : hi < b <;> simp [h1, h2, h3, h4] <;> omega
theorem within1 (lo hi a : Int) : within_m lo hi [a] = decide (lo ≤ a ∧ a ≤ hi) := by
  rw [Bool.eq_iff_iff, decide_eq_true_iff]
  show (match within_L1 lo hi [a] 2 0 with | .inl r => r | .inr s => true) = true ↔ _
  have i0 : ix [a] 0 = a := rfl
  simp only [within_L1, within_c1, i0]
  by_cases h1 : a < lo <;> by_cases h2 : hi < a <;> simp [h1, h2] <;> omega
def tplus_m (a : Int) (b : Int) : Int × Int :=
  if (within_m (-1125899906842624) 1125899906842624 [a, b]) = true then
    if (within_m (-1125899906842624) 1125899906842624 [a + b]) = true then
      (a + b, 0)
    else
      (0, 12)
  else
    (0, 2)
theorem tplus_ok (w : World) (a : Int) (b : Int) :
    Fn Tryz.prog 80 [.int .i64 a, .int .i64 b] w fun v w' => v = .tuple #[.int .i64 ((tplus_m a b).1), .int .i64 ((tplus_m a b).2)] ∧ Fr [] w w' := by
  refine Fn_of 20 Ty.en_80 Tryz.func80 rfl rfl rfl ?_
  dsimp only [argEnv]
  have st := stn0 (X := []) (w := w) (by simp [Lo])
  have hF := Fr.refl ([]) w
  refine sq fun _ k1 => rg (Ls' rfl (Ls' rfl (Ln k1 (sq fun _ k2 => sq fun _ k3 => rg (Lm rfl (Lm rfl (La rfl (a_bsl rfl rfl rfl rfl rfl Ty.es_232 Ty.zc_2 rfl (by decide) (by simp [Value.cells]) st.hp (fun g1 w1 (hp : Hp w1 [_]) hf hg1 => ?_)))))))))
  have how1 : Ow (some ⟨g1, 0, none⟩) [a, b].length 2 1 ([a, b].flatMap (fun x => [Value.int .i64 x])) [] := ⟨rfl, .inr ⟨g1, rfl, rfl, Nat.le_refl _, by unfold maxLen; decide⟩⟩
  have st : St [] w1 [_] [] := st.push hp hf hg1
  have st : St [] w1 [_] [] := st
  have hg1 := Nat.le_trans hF.size hg1
  have hF := hF.step0 hf
  have hnew1 := newB (X0 := []) hg1
  refine La rfl (Scl st hF rfl (within_ok (keys (pickL (hOf st) []) ++ []) _ (st.sub [] [] [] (by decide)).lo (-1125899906842624) 1125899906842624 [a, b] (some ⟨g1, 0, none⟩) 2 ((st.freeze (i := 0) [] (by decide) rfl how1 (by decide)).k (i := 0) rfl)) fun w2 st hF => ?_)
  refine Ly rfl (yn rfl) (Ln k3 (cBn rfl (fun hc1 => ?_) (fun hc1 => ?_)))
  · refine sq fun _ k4 => rg (Ls' rfl (Ls' rfl (Ln k4 (wR (Th_r (fR (Res2 rfl rfl rfl) ?_))))))
    unfold tplus_m; rewrite [iN hc1]
    exact ⟨rfl, hF⟩
  have khc1 := of_decide_eq_true ((within2 _ _ _ _).symm.trans hc1)
  refine sk k2 (sq fun _ k5 => sq fun _ k6 => rg (Lm rfl (Lm rfl (Ly rfl (y_add (c := a + b) rfl rfl rfl (wf_i64 (by first | omega | (simp; done) | (simp; omega)))) ?_))))
  refine La rfl (a_bsl rfl rfl rfl rfl rfl Ty.es_232 Ty.zc_2 rfl (by decide) (by simp [Value.cells]) st.hp (fun g2 w3 (hp : Hp w3 [_, _]) hf hg2 => ?_))
  have how2 : Ow (some ⟨g2, 0, none⟩) [a + b].length 1 1 ([a + b].flatMap (fun x => [Value.int .i64 x])) [] := ⟨rfl, .inr ⟨g2, rfl, rfl, Nat.le_refl _, by unfold maxLen; decide⟩⟩
  have st : St [] w3 [_, _] [] := st.push hp hf hg2
  have st : St [] w3 [_, _] [] := st
  have hg2 := Nat.le_trans hF.size hg2
  have hF := hF.step0 hf
  have hnew2 := newB (X0 := []) hg2
  refine La rfl (Scl st hF rfl (within_ok (keys (pickL (hOf st) [0]) ++ []) _ (st.sub [0] [] [] (by decide)).lo (-1125899906842624) 1125899906842624 [a + b] (some ⟨g2, 0, none⟩) 1 ((st.freeze (i := 1) [0] (by decide) rfl how2 (by decide)).k (i := 0) rfl)) fun w4 st hF => ?_)
  refine Ly rfl (yn rfl) (Ln k6 (cBn rfl (fun hc2 => ?_) (fun hc2 => ?_)))
  · refine sq fun _ k7 => rg (Ls' rfl (Ls' rfl (Ln k7 (wR (Th_r (fR (Res2 rfl rfl rfl) ?_))))))
    unfold tplus_m; rewrite [iP hc1, iN hc2]
    exact ⟨rfl, hF⟩
  refine sk k5 (sq fun _ k8 => rg (Lm rfl (Lm rfl (Ly rfl (y_add (c := a + b) rfl rfl rfl (wf_i64 (by first | omega | (simp; done) | (simp; omega)))) ?_))))
  refine Ls' rfl (Ls' rfl (Ln k8 (wR (fR (Res2 rfl rfl rfl) ?_))))
  unfold tplus_m; rewrite [iP hc1, iP hc2]
  exact ⟨rfl, hF⟩
structure A2i64M where
  e0 : Int
  e1 : Int
instance : Inhabited A2i64M := ⟨⟨default, default⟩⟩
instance : DecidableEq A2i64M := fun a b => decidable_of_iff (a.e0 = b.e0 ∧ a.e1 = b.e1) (by cases a; cases b; simp)
def A2i64M.get (x : A2i64M) (i : Int) : Int := ix [x.e0, x.e1] i
def A2i64M.put (x : A2i64M) (i v : Int) : A2i64M := ⟨if i = 0 then v else x.e0, if i = 1 then v else x.e1⟩
def ncheck_c1 (s : NumM) (s10 : Int) : Bool :=
  (if ((⟨s.plus, s.minus⟩ : A2i64M).get s10) < 0 then true else decide (1125899906842624 < ((⟨s.plus, s.minus⟩ : A2i64M).get s10)))
def ncheck_L1 (s : NumM) : Nat → Int → (Int) ⊕ (Int)
  | 0, s10 => .inr (s10)
  | fuel + 1, s10 =>
    if s10 < 2 then
      if (ncheck_c1 s s10) = true then
        .inl 2
      else
        ncheck_L1 s fuel (s10 + 1)
    else
      .inr (s10)
def ncheck_m (s : NumM) : Int :=
  match ncheck_L1 s ((2 - (0 : Int)).toNat + 1) (0 : Int) with
  | .inl r => r
  | .inr (s10) =>
    0
theorem ncheck_c1_iff (s : NumM) (s10 : Int) : (ncheck_c1 s s10 = true) ↔ ((((⟨s.plus, s.minus⟩ : A2i64M).get s10) < 0) ∨ (1125899906842624 < ((⟨s.plus, s.minus⟩ : A2i64M).get s10))) := by
  unfold ncheck_c1; exact (ci1 decide_eq_true_iff)
theorem ncheck_ok (w : World) (s : NumM) :
    Fn Tryz.prog 79 [.agg (numMC s).toArray] w fun v w' => v = .int .i64 (ncheck_m s) ∧ Fr [] w w' := by
  refine Fn_of 20 Ty.en_79 Tryz.func79 rfl rfl rfl ?_
  dsimp only [argEnv]
  have st := stn0 (X := []) (w := w) (by simp [Lo])
  have hF := Fr.refl ([]) w
  refine sq fun _ k1 => rg (La rfl (Sbx st hF rfl fun g1 w1 (st : St _ _ [_] _) hF hg1 => Ls' rfl (Ln k1 (sq fun _ k2 => sq fun _ k3 => rg (Ly rfl (yf rfl Ty.fo_49_0) (Ly rfl (yl 0 Ty.pl_2 st rfl) (Ly rfl (yf rfl Ty.fo_49_1) (Ly rfl (yl 0 Ty.pl_2 st rfl) (Ly rfl (y_buildA (cells := [_, _]) rfl rfl Tryz.underlying213 Ty.sz_2 Ty.zc_213 rfl) (Lm rfl (Ln k3 (Wp_block (lp (fun q E W => ∃ (s10 : Int), E = [(9, .agg #[.int .i64 s.plus, .int .i64 s.minus]), (10, .int .i64 s10)] ∧ jq q (fun m => (ncheck_L1 s m s10 = ncheck_L1 s ((2 - (0 : Int)).toNat + 1) (0 : Int) ∧ (2 - s10).toNat < m)) (ncheck_L1 s ((2 - (0 : Int)).toNat + 1) (0 : Int) = .inr (s10)) ∧ (0 ≤ s10) ∧ St [] W [(some g1, Cl [.int .i64 s.plus, .int .i64 s.minus] 49)] [] ∧ Fr ([]) w W) ((2 - (0 : Int)).toNat + 1) [(9, _), (10, _)] ⟨rfl, rfl, trivial⟩ ⟨_, rfl, ⟨rfl, Nat.lt_succ_self _⟩, by first | omega | (simp; done) | (simp; omega), st, hF⟩ k2 ?_ fun hout1 => ?_)))))))))))))
  · rintro E w2 ⟨s10, rfl, hLk1, hinv, st, hF⟩
    unfold jq at hLk1; dsimp only at hLk1
    refine sq fun _ k4 => rg (Ls' rfl (Ln k4 (wR (fR (Res1 rfl rfl) ?_))))
    unfold ncheck_m; rewrite [hLk1]; (try dsimp only)
    exact ⟨rfl, hF⟩
  rintro m E w3 ⟨s10, rfl, ⟨hL1, hmu⟩, hinv, st, hF⟩
  obtain ⟨fuel, rfl⟩ : ∃ q, m = q + 1 := ⟨m - 1, by omega⟩
  refine sq fun _ k5 => rg (Ly rfl (ylt rfl) (Ln k5 (sq fun _ k6 => cD rfl (fun hc1 => ?_) (fun hc1 => ?_))))
  · refine sk k6 (sq fun _ k7 => Wp_block (sq fun _ k8 => rg (Ly rfl (y_ixv (q := s10) (v := .int .i64 ((⟨s.plus, s.minus⟩ : A2i64M).get s10)) rfl rfl rfl Tryz.underlying213 Ty.sz_2 Ty.pl_2 (by first | omega | (simp; done) | (simp; omega)) (by first | omega | (simp; done) | (simp; omega)) (by rcases (show s10 = 0 ∨ s10 = 1 by omega) with hq | hq <;> (rw [hq]; rfl))) ?_)))
    refine Ls' rfl (Ln k8 (sq fun _ k9 => ?_))
    refine use_out k9 (fun E W => E = [(9, .agg #[.int .i64 s.plus, .int .i64 s.minus]), (10, .int .i64 s10), (18, .bool (ncheck_c1 s s10))] ∧ St [] W (hOf st) (kOf st) ∧ Fr ([]) w W) ?_ fun hout2 => ?_
    · rintro E w4 ⟨rfl, st, hF⟩
      have st : St [] w4 [_] [] := st
      refine cB rfl (fun hc2 => ?_) (fun hc2 => ?_)
      · have jhc2 := (ncheck_c1_iff s s10).1 hc2
        refine sq fun _ k10 => rg (Ls' rfl (Ln k10 (wR (Ib_r (Th_r (Th_r (Ib_r (Th_r (fR (Res1 rfl rfl) ?_)))))))))
        have hret1 : ncheck_L1 s ((2 - (0 : Int)).toNat + 1) (0 : Int) = .inl 2 := by rewrite [← hL1, ncheck_L1]; rewrite [iP hc1, iP hc2]; rfl
        have he2 : ncheck_m s = 2 := by unfold ncheck_m; rewrite [hret1]; (try dsimp only); all_goals rfl
        rewrite [he2]
        exact ⟨rfl, hF⟩
      have jhc2 := mt (ncheck_c1_iff s s10).2 hc2
      refine Wp_skip (Ib_n (Th_n (k7 _ _ (rg (Ly rfl (y_add (c := s10 + 1) rfl rfl rfl (wf_i64 (by first | omega | (simp; done) | (simp; omega)))) ?_)))))
      refine Lm rfl (Ls_nil (Th_n (?_)))
      exact ⟨fuel, [(9, _), (10, _)], Nat.lt_succ_self _, ⟨rfl, rfl, trivial⟩, (s10 + 1), rfl, ⟨by rewrite [← hL1, ncheck_L1]; rewrite [iP hc1, iN hc2]; rfl, by first | omega | (simp; done) | (simp; omega)⟩, by first | omega | (simp; done) | (simp; omega), (st.pk [0] (by decide)).pickK [], hF⟩
    refine rg (Lm rfl (Ly rfl (ylt rfl) (Lm rfl (bD (s := 15) rfl (fun hc3 => ?_) (fun hc3 => ?_)))))
    · refine LsF rfl (LsF rfl (Ly rfl (yT rfl) (Ls_nil (Th_n (?_)))))
      exact hout2 _ [(9, _), (10, _), (18, _)] _ ⟨rfl, rfl, rfl, trivial⟩ ⟨by unfold ncheck_c1; rewrite [iP hc3]; rfl, (st.pk [0] (by decide)).pickK [], hF⟩
    refine LyT rfl (y_move rfl rfl) (LyT rfl (ygt rfl) (Ly rfl (yF rfl) (Ls_nil (Th_n (?_)))))
    exact hout2 _ [(9, _), (10, _), (18, _)] _ ⟨rfl, rfl, rfl, trivial⟩ ⟨by unfold ncheck_c1; rewrite [iN hc3]; rfl, (st.pk [0] (by decide)).pickK [], hF⟩
  refine Wp_exit (Th_e (Th_e (Ib_hit (Th_n (?_)))))
  exact hout1 _ [(9, _), (10, _)] _ ⟨rfl, rfl, trivial⟩ ⟨s10, rfl, show _ = _ from by rewrite [← hL1, ncheck_L1]; rewrite [iN hc1]; rfl, by first | omega | (simp; done) | (simp; omega), (st.pk [0] (by decide)).pickK [], hF⟩
theorem ncheck_eq (s : NumM) : ncheck_m s = if 0 ≤ s.plus ∧ s.plus ≤ 1125899906842624 ∧ 0 ≤ s.minus ∧ s.minus ≤ 1125899906842624 then 0 else 2 := by
  show (match ncheck_L1 s 3 0 with | .inl r => r | .inr s => 0) = _
  have i0 : (⟨s.plus, s.minus⟩ : A2i64M).get 0 = s.plus := rfl
  have i1 : (⟨s.plus, s.minus⟩ : A2i64M).get (0 + 1) = s.minus := rfl
  simp only [ncheck_L1, ncheck_c1, i0, i1]
  by_cases h1 : s.plus < 0 <;> by_cases h2 : 1125899906842624 < s.plus <;> by_cases h3 : s.minus < 0 <;> by_cases h4 : 1125899906842624 < s.minus <;> simp [h1, h2, h3, h4] <;> omega
theorem ncheck_in {s : NumM} (h : ncheck_m s = 0) : 0 ≤ s.plus ∧ s.plus ≤ 1125899906842624 ∧ 0 ≤ s.minus ∧ s.minus ≤ 1125899906842624 := by
  rw [ncheck_eq] at h; split at h
  · assumption
  · cases h
def napply_c1 (s : NumM) (d : Int) : Bool :=
  (if d < (-1073741824) then true else decide (1073741824 < d))
def napply_m (s : NumM) (d : Int) : NumM × Int :=
  if (ncheck_m s) = 0 then
    if (napply_c1 s d) = true then
      ((⟨0, 0⟩ : NumM), 2)
    else
      if d < 0 then
        if ((tplus_m s.minus (0 - d)).2) = 0 then
          ((⟨s.plus, (tplus_m s.minus (0 - d)).1⟩ : NumM), 0)
        else
          ((⟨0, 0⟩ : NumM), (tplus_m s.minus (0 - d)).2)
      else
        if ((tplus_m s.plus d).2) = 0 then
          ((⟨(tplus_m s.plus d).1, s.minus⟩ : NumM), 0)
        else
          ((⟨0, 0⟩ : NumM), (tplus_m s.plus d).2)
  else
    ((⟨0, 0⟩ : NumM), ncheck_m s)
theorem napply_c1_iff (s : NumM) (d : Int) : (napply_c1 s d = true) ↔ ((d < (-1073741824)) ∨ (1073741824 < d)) := by
  unfold napply_c1; exact (ci1 decide_eq_true_iff)
theorem napply_ok (w : World) (s : NumM) (d : Int) :
    Fn Tryz.prog 48 [.agg (numMC s).toArray, .int .i64 d] w fun v w' => v = .tuple #[.agg (numMC ((napply_m s d).1)).toArray, .int .i64 ((napply_m s d).2)] ∧ Fr [] w w' := by
  refine Fn_of 45 Ty.en_48 Tryz.func48 rfl rfl rfl ?_
  dsimp only [argEnv]
  have st := stn0 (X := []) (w := w) (by simp [Lo])
  have hF := Fr.refl ([]) w
  refine sq fun _ k1 => rg (La rfl (Sbx st hF rfl fun g1 w1 (st : St _ _ [_] _) hF hg1 => La rfl (Sal Ty.zc_49 st hF rfl fun g2 w2 (st : St _ _ [_, _] _) hF hg2 => Ls' rfl (Ln k1 (sq fun _ k2 => sq fun _ k3 => rg (Ly rfl (yw 0 Ty.ag_49 st rfl) (La rfl (Scl st hF rfl (ncheck_ok _ s) fun w3 st hF => Ls' rfl (Ln k3 (sq fun _ k4 => rg (Lm rfl (Ly rfl (yne rfl) (Ln k4 (cN rfl (fun hc1 => ?_) (fun hc1 => ?_)))))))))))))))
  · refine sq fun _ k5 => rg (Ly rfl (y_build (cells := [_, _]) rfl rfl Ty.zc_49 Ty.ps_49 rfl) (Lm rfl (La rfl (Ssw 1 Ty.sz_49 st hF (.inr hg2) rfl fun w4 (st : St _ _ [_, _] _) hF => Ls' rfl (Ln k5 (wR (Th_r (fR (ResN2 rfl (rvc (i := 1) rfl Ty.ag_49 st.hp rfl rfl) rfl) ?_))))))))
    unfold napply_m; rewrite [iN hc1]
    exact ⟨rfl, hF⟩
  have khc1 := ncheck_in hc1
  refine sk k2 (sq fun _ k6 => sq fun _ k7 => ?_)
  refine use_out k7 (fun E W => E = [(1, .int .i64 d), (2, .pointer (some ⟨g1, 0, none⟩)), (4, .pointer (some ⟨g2, 0, none⟩)), (21, .bool (napply_c1 s d))] ∧ St [] W (hOf st) (kOf st) ∧ Fr ([]) w W) ?_ fun hout1 => ?_
  · rintro E w5 ⟨rfl, st, hF⟩
    have st : St [] w5 [_, _] [] := st
    refine cB rfl (fun hc2 => ?_) (fun hc2 => ?_)
    · have jhc2 := (napply_c1_iff s d).1 hc2
      refine sq fun _ k8 => rg (Ly rfl (y_build (cells := [_, _]) rfl rfl Ty.zc_49 Ty.ps_49 rfl) (La rfl (Ssw 1 Ty.sz_49 st hF (.inr hg2) rfl fun w6 (st : St _ _ [_, _] _) hF => Ls' rfl (Ln k8 (wR (Th_r (fR (ResN2 rfl (rvc (i := 1) rfl Ty.ag_49 st.hp rfl rfl) rfl) ?_)))))))
      unfold napply_m; rewrite [iP hc1, iP hc2]
      exact ⟨rfl, hF⟩
    have jhc2 := mt (napply_c1_iff s d).2 hc2
    refine sk k6 (sq fun _ k9 => rg (Ly rfl (yf rfl Ty.fo_49_0) (Ls' rfl (Ln k9 (sq fun _ k10 => sq fun _ k11 => rg (Lm rfl (Ly rfl (ylt rfl) (Ln k11 (cD rfl (fun hc3 => ?_) (fun hc3 => ?_))))))))))
    · refine rg (Ly rfl (yf rfl Ty.fo_49_1) (Lm rfl (Ly rfl (y_neg (c := 0 - d) rfl rfl (wf_i64 (by first | omega | (simp; done) | (simp; omega)))) ?_)))
      refine Ls' rfl (Ls' rfl (Ln k10 (sq fun _ k12 => rg (Lm rfl (Ly rfl (y_nil rfl rfl) (Ly rfl (yl 0 Ty.pl_2 st rfl) (Lm rfl (La rfl (Scl st hF rfl (tplus_ok _ s.minus (0 - d)) fun w7 st hF => Lm rfl (Lx rfl (Lx rfl (Ls' rfl (Ls' rfl (Ln k12 (sq fun _ k13 => sq fun _ k14 => rg (Lm rfl (Ly rfl (yne rfl) (Ln k14 (cN rfl (fun hc4 => ?_) (fun hc4 => ?_))))))))))))))))))))
      · refine sq fun _ k15 => rg (Ly rfl (y_build (cells := [_, _]) rfl rfl Ty.zc_49 Ty.ps_49 rfl) (Lm rfl (La rfl (Ssw 1 Ty.sz_49 st hF (.inr hg2) rfl fun w8 (st : St _ _ [_, _] _) hF => Ls' rfl (Ln k15 (wR (Th_r (fR (ResN2 rfl (rvc (i := 1) rfl Ty.ag_49 st.hp rfl rfl) rfl) ?_))))))))
        unfold napply_m; rewrite [iP hc1, iN hc2, iP hc3, iN hc4]
        exact ⟨rfl, hF⟩
      refine sk k13 (sq fun _ k16 => rg (Lm rfl (Lm rfl (Ly rfl (y_nil rfl rfl) (La rfl (Ss1 0 Ty.sz_2 st hF (.inr hg1) rfl fun w9 (st : St _ _ [(_, Cl [_, _] _), _] _) hF => Ln k16 (sq fun _ k17 => rg (Ly rfl (yw 0 Ty.ag_49 st rfl) (La rfl (Ssw 1 Ty.sz_49 st hF (.inr hg2) rfl fun w10 (st : St _ _ [_, _] _) hF => Ls' rfl (Ln k17 (wR (fR (ResN2 rfl (rvc (i := 1) rfl Ty.ag_49 st.hp rfl rfl) rfl) ?_)))))))))))))
      unfold napply_m; rewrite [iP hc1, iN hc2, iP hc3, iP hc4]
      exact ⟨rfl, hF⟩
    refine sk k10 (sq fun _ k18 => rg (Lm rfl (Ly rfl (y_nil rfl rfl) (Ly rfl (yl 0 Ty.pl_2 st rfl) (Lm rfl (La rfl (Scl st hF rfl (tplus_ok _ s.plus d) fun w11 st hF => Lm rfl (Lx rfl (Lx rfl (Ls' rfl (Ls' rfl (Ln k18 (sq fun _ k19 => sq fun _ k20 => rg (Lm rfl (Ly rfl (yne rfl) (Ln k20 (cN rfl (fun hc5 => ?_) (fun hc5 => ?_))))))))))))))))))
    · refine sq fun _ k21 => rg (Ly rfl (y_build (cells := [_, _]) rfl rfl Ty.zc_49 Ty.ps_49 rfl) (Lm rfl (La rfl (Ssw 1 Ty.sz_49 st hF (.inr hg2) rfl fun w12 (st : St _ _ [_, _] _) hF => Ls' rfl (Ln k21 (wR (Th_r (fR (ResN2 rfl (rvc (i := 1) rfl Ty.ag_49 st.hp rfl rfl) rfl) ?_))))))))
      unfold napply_m; rewrite [iP hc1, iN hc2, iN hc3, iN hc5]
      exact ⟨rfl, hF⟩
    refine sk k19 (sq fun _ k22 => rg (Lm rfl (Lm rfl (Ly rfl (y_nil rfl rfl) (La rfl (Ss1 0 Ty.sz_2 st hF (.inr hg1) rfl fun w13 (st : St _ _ [(_, Cl [_, _] _), _] _) hF => Ln k22 (sq fun _ k23 => rg (Ly rfl (yw 0 Ty.ag_49 st rfl) (La rfl (Ssw 1 Ty.sz_49 st hF (.inr hg2) rfl fun w14 (st : St _ _ [_, _] _) hF => Ls' rfl (Ln k23 (wR (fR (ResN2 rfl (rvc (i := 1) rfl Ty.ag_49 st.hp rfl rfl) rfl) ?_)))))))))))))
    unfold napply_m; rewrite [iP hc1, iN hc2, iN hc3, iP hc5]
    exact ⟨rfl, hF⟩
  refine rg (Lm rfl (Ly rfl (ylt rfl) (Lm rfl (bD (s := 18) rfl (fun hc6 => ?_) (fun hc6 => ?_)))))
  · refine LsF rfl (LsF rfl (Ly rfl (yT rfl) (Ls_nil (Th_n (?_)))))
    exact hout1 _ [(1, _), (2, _), (4, _), (21, _)] _ ⟨rfl, rfl, rfl, rfl, trivial⟩ ⟨by unfold napply_c1; rewrite [iP hc6]; rfl, (st.pk [0, 1] (by decide)).pickK [], hF⟩
  refine LyT rfl (y_move rfl rfl) (LyT rfl (ygt rfl) (Ly rfl (yF rfl) (Ls_nil (Th_n (?_)))))
  exact hout1 _ [(1, _), (2, _), (4, _), (21, _)] _ ⟨rfl, rfl, rfl, rfl, trivial⟩ ⟨by unfold napply_c1; rewrite [iN hc6]; rfl, (st.pk [0, 1] (by decide)).pickK [], hF⟩
def nvalue_m (s : NumM) : Int :=
  if (ncheck_m s) = 0 then
    s.plus - s.minus
  else
    0
theorem nvalue_ok (w : World) (s : NumM) :
    Fn Tryz.prog 53 [.agg (numMC s).toArray] w fun v w' => v = .int .i64 (nvalue_m s) ∧ Fr [] w w' := by
  refine Fn_of 11 Ty.en_53 Tryz.func53 rfl rfl rfl ?_
  dsimp only [argEnv]
  have st := stn0 (X := []) (w := w) (by simp [Lo])
  have hF := Fr.refl ([]) w
  refine sq fun _ k1 => rg (La rfl (Sbx st hF rfl fun g1 w1 (st : St _ _ [_] _) hF hg1 => Ls' rfl (Ln k1 (sq fun _ k2 => sq fun _ k3 => rg (Ly rfl (yw 0 Ty.ag_49 st rfl) (La rfl (Scl st hF rfl (ncheck_ok _ s) fun w2 st hF => Ly rfl (yne rfl) (Ln k3 (cN rfl (fun hc1 => ?_) (fun hc1 => ?_))))))))))
  · refine sq fun _ k4 => rg (Ls' rfl (Ln k4 (wR (Th_r (fR (Res1 rfl rfl) ?_)))))
    unfold nvalue_m; rewrite [iN hc1]
    exact ⟨rfl, hF⟩
  have khc1 := ncheck_in hc1
  refine sk k2 (sq fun _ k5 => rg (Ly rfl (yf rfl Ty.fo_49_0) (Ly rfl (yl 0 Ty.pl_2 st rfl) (Ly rfl (yf rfl Ty.fo_49_1) (Ly rfl (yl 0 Ty.pl_2 st rfl) (Ly rfl (y_sub (c := s.plus - s.minus) rfl rfl rfl (wf_i64 (by first | omega | (simp; done) | (simp; omega)))) ?_))))))
  refine Ls' rfl (Ln k5 (wR (fR (Res1 rfl rfl) ?_)))
  unfold nvalue_m; rewrite [iP hc1]
  exact ⟨rfl, hF⟩
def cloneAdd_m (s : List AddM) : (List AddM) :=
  s
theorem cloneAdd_ok (X : List Nat) (w : World) (hX : Lo X w) (s : List AddM) (A_s : Option Addr) (c_s : Nat) (h_s : Sld X w A_s s.length c_s 4 (s.flatMap addMC)) (hs1 : s.length ≤ 1000000) :
    Fn Tryz.prog 74 [.slice A_s s.length c_s] w fun v w' => ∃ (A' : Option Addr) (c' : Nat) (sp' : List Value), v = .slice A' (cloneAdd_m s).length c' ∧ Ow A' (cloneAdd_m s).length c' 4 ((cloneAdd_m s).flatMap addMC) sp' ∧ St X w' [(blkOf A', Cl ((cloneAdd_m s).flatMap addMC ++ sp') 126)] [] ∧ Fr ([]) w w' ∧ (∀ k ∈ keys [(blkOf A', Cl ((cloneAdd_m s).flatMap addMC ++ sp') 126)], k ∈ ([]) ∨ w.heap.size ≤ k) := by
  refine Fn_of 8 Ty.en_74 Tryz.func74 rfl rfl rfl ?_
  dsimp only [argEnv]
  have st := stn1 hX h_s
  have hF := Fr.refl ([]) w
  have z1 := (st.q 0 rfl).le
  refine sq fun _ k1 => rg (Ls' rfl (Ln k1 (sq fun _ k2 => sq fun _ k3 => rg (Lm rfl (Ly rfl (y_eqnl rfl rfl rfl Tryz.underlying50) (Ln k3 (cB rfl (fun hc1 => ?_) (fun hc1 => ?_))))))))
  · refine sq fun _ k4 => rg (Ls' rfl (Ln k4 ?_))
    obtain ⟨st, how1, hnew1⟩ := st.rowN addMC hF 4 126
    have st : St _ _ [_] _ := st
    refine wR (Th_r (fR (Res1 rfl rfl) ?_))
    have he1 : cloneAdd_m s = ([] : List AddM) := by
      first | rfl | (unfold cloneAdd_m; exact h_s.isNil (by decide) (by simpa using hc1))
    rewrite [he1]
    exact ⟨_, _, _, rfl, how1, (st.pk [0] (by decide)).pickK [], hF, kc_b hnew1 kc_n⟩
  refine sk k2 (sq fun _ k5 => rg (La rfl (Sb0 (enc := addMC) Ty.es_50 Ty.zc_126 st hF rfl fun g1 w1 how2 hnew2 (st : St _ _ [_] _) hF => Lm rfl (La rfl (Sap (enc := addMC) ([] : List AddM) s 0 Ty.es_50 Ty.zc_126 Ty.by_126 (fun _ => rfl) addMC_1 how2 hnew2 st hF (st.k (i := 0) rfl).rd.src (fun h => by have := (st.k (i := 0) rfl).rd; exact rd_none this h (st.k (i := 0) rfl).len (by decide)) rfl (by first | omega | (simp; done) | (simp; omega)) (by first | omega | (simp; done) | (simp; omega)) fun Aa1 ca1 sp1 w2 how3 hnew3 (st : St _ _ [_] _) hF => ?_)))))
  refine Ls' rfl (Ln k5 (wR (fR (Res1 rfl rfl) ?_)))
  have he2 : cloneAdd_m s = (([] : List AddM) ++ s) := by
    first | rfl | (unfold cloneAdd_m; exact h_s.isNil (by decide) (by simpa using hc1))
  rewrite [he2]
  exact ⟨_, _, _, rfl, how3, (st.pk [0] (by decide)).pickK [], hF, kc_b hnew3 kc_n⟩
def cloneTag_m (s : List TagM) : (List TagM) :=
  s
theorem cloneTag_ok (X : List Nat) (w : World) (hX : Lo X w) (s : List TagM) (A_s : Option Addr) (c_s : Nat) (h_s : Sld X w A_s s.length c_s 3 (s.flatMap tagMC)) (hs1 : s.length ≤ 1000000) :
    Fn Tryz.prog 75 [.slice A_s s.length c_s] w fun v w' => ∃ (A' : Option Addr) (c' : Nat) (sp' : List Value), v = .slice A' (cloneTag_m s).length c' ∧ Ow A' (cloneTag_m s).length c' 3 ((cloneTag_m s).flatMap tagMC) sp' ∧ St X w' [(blkOf A', Cl ((cloneTag_m s).flatMap tagMC ++ sp') 43)] [] ∧ Fr ([]) w w' ∧ (∀ k ∈ keys [(blkOf A', Cl ((cloneTag_m s).flatMap tagMC ++ sp') 43)], k ∈ ([]) ∨ w.heap.size ≤ k) := by
  refine Fn_of 8 Ty.en_75 Tryz.func75 rfl rfl rfl ?_
  dsimp only [argEnv]
  have st := stn1 hX h_s
  have hF := Fr.refl ([]) w
  have z1 := (st.q 0 rfl).le
  refine sq fun _ k1 => rg (Ls' rfl (Ln k1 (sq fun _ k2 => sq fun _ k3 => rg (Lm rfl (Ly rfl (y_eqnl rfl rfl rfl Tryz.underlying30) (Ln k3 (cB rfl (fun hc1 => ?_) (fun hc1 => ?_))))))))
  · refine sq fun _ k4 => rg (Ls' rfl (Ln k4 ?_))
    obtain ⟨st, how1, hnew1⟩ := st.rowN tagMC hF 3 43
    have st : St _ _ [_] _ := st
    refine wR (Th_r (fR (Res1 rfl rfl) ?_))
    have he1 : cloneTag_m s = ([] : List TagM) := by
      first | rfl | (unfold cloneTag_m; exact h_s.isNil (by decide) (by simpa using hc1))
    rewrite [he1]
    exact ⟨_, _, _, rfl, how1, (st.pk [0] (by decide)).pickK [], hF, kc_b hnew1 kc_n⟩
  refine sk k2 (sq fun _ k5 => rg (La rfl (Sb0 (enc := tagMC) Ty.es_30 Ty.zc_43 st hF rfl fun g1 w1 how2 hnew2 (st : St _ _ [_] _) hF => Lm rfl (La rfl (Sap (enc := tagMC) ([] : List TagM) s 0 Ty.es_30 Ty.zc_43 Ty.by_43 (fun _ => rfl) tagMC_1 how2 hnew2 st hF (st.k (i := 0) rfl).rd.src (fun h => by have := (st.k (i := 0) rfl).rd; exact rd_none this h (st.k (i := 0) rfl).len (by decide)) rfl (by first | omega | (simp; done) | (simp; omega)) (by first | omega | (simp; done) | (simp; omega)) fun Aa1 ca1 sp1 w2 how3 hnew3 (st : St _ _ [_] _) hF => ?_)))))
  refine Ls' rfl (Ln k5 (wR (fR (Res1 rfl rfl) ?_)))
  have he2 : cloneTag_m s = (([] : List TagM) ++ s) := by
    first | rfl | (unfold cloneTag_m; exact h_s.isNil (by decide) (by simpa using hc1))
  rewrite [he2]
  exact ⟨_, _, _, rfl, how3, (st.pk [0] (by decide)).pickK [], hF, kc_b hnew3 kc_n⟩
def clonePut_m (s : List PutM) : (List PutM) :=
  s
theorem clonePut_ok (X : List Nat) (w : World) (hX : Lo X w) (s : List PutM) (A_s : Option Addr) (c_s : Nat) (h_s : Sld X w A_s s.length c_s 7 (s.flatMap putMC)) (hs1 : s.length ≤ 1000000) :
    Fn Tryz.prog 76 [.slice A_s s.length c_s] w fun v w' => ∃ (A' : Option Addr) (c' : Nat) (sp' : List Value), v = .slice A' (clonePut_m s).length c' ∧ Ow A' (clonePut_m s).length c' 7 ((clonePut_m s).flatMap putMC) sp' ∧ St X w' [(blkOf A', Cl ((clonePut_m s).flatMap putMC ++ sp') 131)] [] ∧ Fr ([]) w w' ∧ (∀ k ∈ keys [(blkOf A', Cl ((clonePut_m s).flatMap putMC ++ sp') 131)], k ∈ ([]) ∨ w.heap.size ≤ k) := by
  refine Fn_of 8 Ty.en_76 Tryz.func76 rfl rfl rfl ?_
  dsimp only [argEnv]
  have st := stn1 hX h_s
  have hF := Fr.refl ([]) w
  have z1 := (st.q 0 rfl).le
  refine sq fun _ k1 => rg (Ls' rfl (Ln k1 (sq fun _ k2 => sq fun _ k3 => rg (Lm rfl (Ly rfl (y_eqnl rfl rfl rfl Tryz.underlying53) (Ln k3 (cB rfl (fun hc1 => ?_) (fun hc1 => ?_))))))))
  · refine sq fun _ k4 => rg (Ls' rfl (Ln k4 ?_))
    obtain ⟨st, how1, hnew1⟩ := st.rowN putMC hF 7 131
    have st : St _ _ [_] _ := st
    refine wR (Th_r (fR (Res1 rfl rfl) ?_))
    have he1 : clonePut_m s = ([] : List PutM) := by
      first | rfl | (unfold clonePut_m; exact h_s.isNil (by decide) (by simpa using hc1))
    rewrite [he1]
    exact ⟨_, _, _, rfl, how1, (st.pk [0] (by decide)).pickK [], hF, kc_b hnew1 kc_n⟩
  refine sk k2 (sq fun _ k5 => rg (La rfl (Sb0 (enc := putMC) Ty.es_53 Ty.zc_131 st hF rfl fun g1 w1 how2 hnew2 (st : St _ _ [_] _) hF => Lm rfl (La rfl (Sap (enc := putMC) ([] : List PutM) s 0 Ty.es_53 Ty.zc_131 Ty.by_131 (fun _ => rfl) putMC_1 how2 hnew2 st hF (st.k (i := 0) rfl).rd.src (fun h => by have := (st.k (i := 0) rfl).rd; exact rd_none this h (st.k (i := 0) rfl).len (by decide)) rfl (by first | omega | (simp; done) | (simp; omega)) (by first | omega | (simp; done) | (simp; omega)) fun Aa1 ca1 sp1 w2 how3 hnew3 (st : St _ _ [_] _) hF => ?_)))))
  refine Ls' rfl (Ln k5 (wR (fR (Res1 rfl rfl) ?_)))
  have he2 : clonePut_m s = (([] : List PutM) ++ s) := by
    first | rfl | (unfold clonePut_m; exact h_s.isNil (by decide) (by simpa using hc1))
  rewrite [he2]
  exact ⟨_, _, _, rfl, how3, (st.pk [0] (by decide)).pickK [], hF, kc_b hnew3 kc_n⟩
theorem indexF_L1_spec {α : Type} [Inhabited α] [DecidableEq α] (s : List α) (f : α → Bool) : ∀ (fuel : Nat) (i : Int), 0 ≤ i → ((s.length : Int) - i).toNat < fuel → (∃ k : Int, indexF_L1 s f fuel i = .inl k ∧ i ≤ k ∧ k < s.length ∧ f (ix s k) = true ∧ ∀ j : Int, i ≤ j → j < k → f (ix s j) = false) ∨ ((∃ q, indexF_L1 s f fuel i = .inr q) ∧ ∀ j : Int, i ≤ j → j < s.length → f (ix s j) = false)
  | 0, i, _, h => by omega
  | fuel + 1, i, h0, h => by
    unfold indexF_L1
    split
    · rename_i h1
      split
      · rename_i h2
        exact .inl ⟨i, rfl, by omega, h1, h2, fun j _ _ => by omega⟩
      · rename_i h2
        have h2 : f (ix s i) = false := by simpa using h2
        rcases indexF_L1_spec s f fuel (i + 1) (by omega) (by omega) with ⟨k, a, b, c, d, e⟩ | ⟨a, b⟩
        · refine .inl ⟨k, a, by omega, c, d, fun j hj hk => ?_⟩
          by_cases e2 : j = i
          · subst e2; exact h2
          · exact e j (by omega) hk
        · refine .inr ⟨a, fun j hj hk => ?_⟩
          by_cases e2 : j = i
          · subst e2; exact h2
          · exact b j (by omega) hk
    · exact .inr ⟨⟨_, rfl⟩, fun j _ _ => by omega⟩
theorem indexF_cases {α : Type} [Inhabited α] [DecidableEq α] (s : List α) (f : α → Bool) : (0 ≤ indexF_m s f ∧ indexF_m s f < s.length ∧ f (ix s (indexF_m s f)) = true ∧ ∀ j : Int, 0 ≤ j → j < indexF_m s f → f (ix s j) = false) ∨ (indexF_m s f = -1 ∧ ∀ j : Int, 0 ≤ j → j < s.length → f (ix s j) = false) := by
  unfold indexF_m
  rcases indexF_L1_spec s f (((s.length : Int) - (0 : Int)).toNat + 1) 0 (by omega) (by omega) with ⟨k, a, b, c, d, e⟩ | ⟨⟨q, a⟩, b⟩
  · rw [a]; exact .inl ⟨b, c, d, e⟩
  · rw [a]; exact .inr ⟨rfl, b⟩
theorem indexF_lt {α : Type} [Inhabited α] [DecidableEq α] {s : List α} {f : α → Bool} (h : ¬ indexF_m s f = -1) : 0 ≤ indexF_m s f ∧ indexF_m s f < s.length := by
  rcases indexF_cases s f with ⟨a, b, _⟩ | ⟨a, _⟩
  · exact ⟨a, b⟩
  · exact absurd a h
def deleteF_L1 {α : Type} [Inhabited α] [DecidableEq α] (s : List α) (del : α → Bool) : Nat → Int → Int → (List α) → ((List α)) ⊕ (Int × Int × (List α))
  | 0, s5, s6, r0 => .inr (s5, s6, r0)
  | fuel + 1, s5, s6, r0 =>
    if s6 < (s.length : Int) then
      if (del (ix r0 s6)) = true then
        deleteF_L1 s del fuel s5 (s6 + 1) r0
      else
        deleteF_L1 s del fuel (s5 + 1) (s6 + 1) (r0.set s5.toNat (ix r0 s6))
    else
      .inr (s5, s6, r0)
def deleteF_m {α : Type} [Inhabited α] [DecidableEq α] (s : List α) (del : α → Bool) : (List α) :=
  if (indexF_m s del) = (-1) then
    s
  else
    match deleteF_L1 s del (((s.length : Int) - ((indexF_m s del) + 1)).toNat + 1) (indexF_m s del) ((indexF_m s del) + 1) s with
    | .inl r => r
    | .inr (s5, s6, r0) =>
      (r0.take s5.toNat ++ List.replicate (r0.length - s5.toNat) default).take s5.toNat
theorem deletePut_ok (X : List Nat) (w : World) (s : List PutM) (A_s : Option Addr) (c_s : Nat) (s1 : List Value) (f1 : Value) (del : PutM → Bool) (hs : St X w [(blkOf A_s, Cl (s.flatMap putMC ++ s1) 131)] []) (z5 : Ow A_s s.length c_s 7 (s.flatMap putMC) s1) (z4 : ∀ (w1 : World) (x0 : PutM), Fr (keys [(blkOf A_s, Cl (s.flatMap putMC ++ s1) 131)]) w w1 → FnV Tryz.prog f1 [.agg (putMC x0).toArray] w1 fun v w2 => v = .bool (del x0) ∧ Fr [] w1 w2) :
    Fn Tryz.prog 98 [.slice A_s s.length c_s, f1] w fun v w' => ∃ (A' : Option Addr) (c' : Nat) (sp' : List Value), v = .slice A' (deleteF_m s del).length c' ∧ Ow A' (deleteF_m s del).length c' 7 ((deleteF_m s del).flatMap putMC) sp' ∧ St X w' [(blkOf A', Cl ((deleteF_m s del).flatMap putMC ++ sp') 131)] [] ∧ Fr (keys [(blkOf A_s, Cl (s.flatMap putMC ++ s1) 131)]) w w' ∧ (∀ k ∈ keys [(blkOf A', Cl ((deleteF_m s del).flatMap putMC ++ sp') 131)], k ∈ (keys [(blkOf A_s, Cl (s.flatMap putMC ++ s1) 131)]) ∨ w.heap.size ≤ k) := by
  refine Fn_of 42 Ty.en_98 Tryz.func98 rfl rfl rfl ?_
  dsimp only [argEnv]
  have hs0 := hs
  have st : St X w [(blkOf A_s, Cl (s.flatMap putMC ++ s1) 131)] [] := hs
  have z2 : ∀ g, blkOf A_s = some g → g ∈ (keys [(blkOf A_s, Cl (s.flatMap putMC ++ s1) 131)]) ∨ w.heap.size ≤ g := fun g hg => .inl (by simp [keys, hg])
  have z3 := Ow.le z5
  have hF := Fr.refl (keys [(blkOf A_s, Cl (s.flatMap putMC ++ s1) 131)]) w
  refine sq fun _ k1 => rg (Ls' rfl (Ln k1 (sq fun _ k2 => rg (Lm rfl (Lm rfl (La rfl (Scl st hF rfl (indexPut_ok (keys (pickL (hOf st) []) ++ X) _ (st.sub [] [] [] (by decide)).lo s A_s c_s f1 del ((st.freeze (i := 0) [] (by decide) rfl z5 (by decide)).k (i := 0) rfl) (fun w1 x0 hw => z4 w1 x0 (hF.step0 hw))) fun w1 st hF => ?_)))))))
  refine Ls' rfl (Ln k2 (sq fun _ k3 => sq fun _ k4 => rg (Lm rfl (Ly rfl (yeq rfl) (Ln k4 (cE rfl (fun hc1 => ?_) (fun hc1 => ?_)))))))
  · refine sq fun _ k5 => rg (Lm rfl (Ls' rfl (Ln k5 (wR (Th_r (fR (Res1 rfl rfl) ?_))))))
    unfold deleteF_m; rewrite [iP hc1]
    exact ⟨_, _, _, rfl, z5, (st.pk [0] (by decide)).pickK [], hF, kc_b z2 kc_n⟩
  have khc1 := indexF_lt hc1
  refine sk k3 (sq fun _ k6 => sq fun _ k7 => rg (Lm rfl (Ly rfl (y_add (c := (indexF_m s del) + 1) rfl rfl rfl (wf_i64 (by first | omega | (simp; done) | (simp; omega)))) ?_)))
  refine Ls' rfl (Ln k7 (Wp_block (lp (fun q E W => ∃ (s5 : Int) (s6 : Int) (r0 : List PutM), E = [(0, .slice A_s s.length c_s), (1, f1), (5, .int .i64 s5), (6, .int .i64 s6)] ∧ jq q (fun m => (deleteF_L1 s del m s5 s6 r0 = deleteF_L1 s del (((s.length : Int) - ((indexF_m s del) + 1)).toNat + 1) (indexF_m s del) ((indexF_m s del) + 1) s ∧ ((s.length : Int) - s6).toNat < m)) (deleteF_L1 s del (((s.length : Int) - ((indexF_m s del) + 1)).toNat + 1) (indexF_m s del) ((indexF_m s del) + 1) s = .inr (s5, s6, r0)) ∧ (0 ≤ s5 ∧ s5 < s6 ∧ s6 ≤ s.length) ∧ Ow A_s s.length c_s 7 (r0.flatMap putMC) s1 ∧ (r0.length = s.length) ∧ St X W [(blkOf A_s, Cl (r0.flatMap putMC ++ s1) 131)] [] ∧ Fr (keys [(blkOf A_s, Cl (s.flatMap putMC ++ s1) 131)]) w W) (((s.length : Int) - ((indexF_m s del) + 1)).toNat + 1) [(0, _), (1, _), (5, _), (6, _)] ⟨rfl, rfl, rfl, rfl, trivial⟩ ⟨_, _, _, rfl, ⟨rfl, Nat.lt_succ_self _⟩, by first | omega | (simp; done) | (simp; omega), z5, rfl, st, hF⟩ k6 ?_ fun hout1 => ?_)))
  · rintro E w2 ⟨s5, s6, r0, rfl, hLk1, hinv, howr0, hlmr0, st, hF⟩
    unfold jq at hLk1; dsimp only at hLk1
    refine sq fun _ k8 => rg (Lm rfl (Lm rfl ?_))
    obtain ⟨gi1, egi1⟩ := (howr0).some_ (by first | omega | (simp; done) | (simp; omega))
    subst egi1
    refine Ly rfl (y_cuttM (enc := putMC) (xs := r0) (p := s5) rfl rfl (hlmr0).symm Ty.es_53 rfl rfl (by first | omega | (simp; done) | (simp; omega)) (by first | omega | (simp; done) | (simp; omega)) howr0) ?_
    refine La rfl (a_clearM (i := 0) (enc := putMC) (xs := r0) (u := default) (p := s5) rfl rfl rfl (hlmr0).symm Ty.es_53 Ty.zc_131 rfl (fun _ => rfl) (by intro v hv; simp only [putMC, List.mem_cons, List.not_mem_nil, or_false] at hv; rcases hv with rfl | rfl | rfl | rfl | rfl | rfl | rfl <;> rfl) howr0 (by first | omega | (simp; done) | (simp; omega)) (by first | omega | (simp; done) | (simp; omega)) st.hp rfl (fun w3 how1 (hp : Hp w3 [_]) hf => ?_))
    have st : St X w3 [_] [] := st.set (i := 0) rfl hp hf
    have st : St X w3 [_] [] := st
    have hF := hF.step hf (fun y hy => z2 y (by simp at hy; subst hy; rfl))
    have hln1 : (r0.take s5.toNat ++ List.replicate (r0.length - s5.toNat) default).length = s.length := by simp only [List.length_append, List.length_take, List.length_replicate]; omega
    refine Ln k8 (sq fun _ k9 => rg (Lm rfl (Lm rfl (Ly rfl (y_cut0M (enc := putMC) (xs := r0.take s5.toNat ++ List.replicate (r0.length - s5.toNat) default) (q := s5) rfl rfl (hln1).symm Ty.es_53 rfl rfl (by first | omega | (simp; done) | (simp; omega)) (by first | omega | (simp; done) | (simp; omega)) how1) ?_))))
    have how2 := Ow.cut (enc := putMC) (xs := r0.take s5.toNat ++ List.replicate (r0.length - s5.toNat) default) (fun _ => rfl) how1 (hln1).symm s5.toNat
    have st : St X _ [_] [] := st.conv (i := 0) rfl (cut_cells s5.toNat)
    refine Ls' rfl (Ln k9 (wR (fR (Res1 rfl rfl) ?_)))
    unfold deleteF_m; rewrite [iN hc1, hLk1]; (try dsimp only)
    exact ⟨_, _, _, rfl, how2, (st.pk [0] (by decide)).pickK [], hF, kc_b z2 kc_n⟩
  rintro m E w4 ⟨s5, s6, r0, rfl, ⟨hL1, hmu⟩, hinv, howr0, hlmr0, st, hF⟩
  obtain ⟨fuel, rfl⟩ : ∃ q, m = q + 1 := ⟨m - 1, by omega⟩
  have z1 := Ow.le howr0
  refine sq fun _ k10 => sq fun _ k11 => rg (Lm rfl (Lm rfl (Ly rfl (yll rfl Tryz.underlying53) (Ly rfl (ylt rfl) (Ln k11 (cD rfl (fun hc2 => ?_) (fun hc2 => ?_)))))))
  · refine sk k10 (sq fun _ k12 => Wp_block (sq fun _ k13 => rg (Lm rfl (Lm rfl ?_))))
    obtain ⟨gi2, egi2⟩ := (howr0).some_ (by first | omega | (simp; done) | (simp; omega))
    subst egi2
    refine Ly rfl (y_ixa (q := s6) rfl rfl rfl Ty.es_53 (by first | omega | (simp; done) | (simp; omega)) (by first | omega | (simp; done) | (simp; omega))) ?_
    refine Ly rfl (y_ldk (q := s6) rfl rfl Ty.ag_131 (fun _ e => e ▸ Sld.own (i := 0) st.hp rfl howr0 (by decide)) (fun _ => rfl) (by first | omega | (simp; done) | (simp; omega)) (by first | omega | (simp; done) | (simp; omega))) ?_
    refine La rfl (Sal Ty.zc_131 st hF rfl fun g1 w5 (st : St _ _ [_, _] _) hF hg1 => La rfl (Ssw 1 Ty.sz_131 st hF (.inr hg1) rfl fun w6 (st : St _ _ [_, _] _) hF => Ln k13 (sq fun _ k14 => rg (Lm rfl (Ly rfl (yw 1 Ty.ag_131 st rfl) (La rfl (Scv st hF rfl (z4 _ (ix r0 s6) hF) fun w7 st hF => Ly rfl (yn rfl) (Ln k14 (cBn rfl (fun hc3 => ?_) (fun hc3 => ?_))))))))))
    · refine sq fun _ k15 => rg (Lm rfl (Lm rfl (Ly rfl (yw 1 Ty.ag_131 st rfl) (Ly rfl (y_ixa (q := s5) rfl rfl rfl Ty.es_53 (by first | omega | (simp; done) | (simp; omega)) (by first | omega | (simp; done) | (simp; omega))) ?_))))
      refine La rfl (a_setrow (i := 0) (q := s5) (u := ix r0 s6) rfl rfl rfl rfl rfl (fun _ => rfl) Ty.sz_131 (by intro v hv; simp only [putMC, List.mem_cons, List.not_mem_nil, or_false] at hv; rcases hv with rfl | rfl | rfl | rfl | rfl | rfl | rfl <;> rfl) howr0 st.hp rfl (by first | omega | (simp; done) | (simp; omega)) (by first | omega | (simp; done) | (simp; omega)) (by decide) (fun w8 how3 (hp : Hp w8 [_, _]) hf => ?_))
      have st : St X w8 [_, _] [] := st.set (i := 0) rfl hp hf
      have st : St X w8 [_, _] [] := st
      have hF := hF.step hf (fun y hy => z2 y (by simp at hy; subst hy; rfl))
      have hln2 : (r0.set s5.toNat (ix r0 s6)).length = s.length := by rw [List.length_set]; exact hlmr0
      rewrite [hln2] at how3
      refine Ln k15 (rg (Lm rfl (Ly rfl (y_add (c := s5 + 1) rfl rfl rfl (wf_i64 (by first | omega | (simp; done) | (simp; omega)))) ?_)))
      refine Ls' rfl (Ls_nil (Ib_n (Th_n (k12 _ _ (rg (Lm rfl (Ly rfl (y_add (c := s6 + 1) rfl rfl rfl (wf_i64 (by first | omega | (simp; done) | (simp; omega)))) ?_)))))))
      refine Ls' rfl (Ls_nil (Th_n (?_)))
      exact ⟨fuel, [(0, _), (1, _), (5, _), (6, _)], Nat.lt_succ_self _, ⟨rfl, rfl, rfl, rfl, trivial⟩, (s5 + 1), (s6 + 1), (r0.set s5.toNat (ix r0 s6)), rfl, ⟨by rewrite [← hL1, deleteF_L1]; rewrite [iP hc2, iN hc3]; rfl, by first | omega | (simp; done) | (simp; omega)⟩, by first | omega | (simp; done) | (simp; omega), how3, hln2, (st.pk [0] (by decide)).pickK [], hF⟩
    refine Wp_skip (Ib_n (Th_n (k12 _ _ (rg (Lm rfl (Ly rfl (y_add (c := s6 + 1) rfl rfl rfl (wf_i64 (by first | omega | (simp; done) | (simp; omega)))) ?_))))))
    refine Ls' rfl (Ls_nil (Th_n (?_)))
    exact ⟨fuel, [(0, _), (1, _), (5, _), (6, _)], Nat.lt_succ_self _, ⟨rfl, rfl, rfl, rfl, trivial⟩, s5, (s6 + 1), r0, rfl, ⟨by rewrite [← hL1, deleteF_L1]; rewrite [iP hc2, iP hc3]; rfl, by first | omega | (simp; done) | (simp; omega)⟩, by first | omega | (simp; done) | (simp; omega), howr0, hlmr0, (st.pk [0] (by decide)).pickK [], hF⟩
  refine Wp_exit (Th_e (Th_e (Ib_hit (Th_n (?_)))))
  exact hout1 _ [(0, _), (1, _), (5, _), (6, _)] _ ⟨rfl, rfl, rfl, rfl, trivial⟩ ⟨s5, s6, r0, rfl, show _ = _ from by rewrite [← hL1, deleteF_L1]; rewrite [iN hc2]; rfl, by first | omega | (simp; done) | (simp; omega), howr0, hlmr0, (st.pk [0] (by decide)).pickK [], hF⟩
theorem deleteAdd_ok (X : List Nat) (w : World) (s : List AddM) (A_s : Option Addr) (c_s : Nat) (s1 : List Value) (f1 : Value) (del : AddM → Bool) (hs : St X w [(blkOf A_s, Cl (s.flatMap addMC ++ s1) 126)] []) (z5 : Ow A_s s.length c_s 4 (s.flatMap addMC) s1) (z4 : ∀ (w1 : World) (x0 : AddM), Fr (keys [(blkOf A_s, Cl (s.flatMap addMC ++ s1) 126)]) w w1 → FnV Tryz.prog f1 [.agg (addMC x0).toArray] w1 fun v w2 => v = .bool (del x0) ∧ Fr [] w1 w2) :
    Fn Tryz.prog 89 [.slice A_s s.length c_s, f1] w fun v w' => ∃ (A' : Option Addr) (c' : Nat) (sp' : List Value), v = .slice A' (deleteF_m s del).length c' ∧ Ow A' (deleteF_m s del).length c' 4 ((deleteF_m s del).flatMap addMC) sp' ∧ St X w' [(blkOf A', Cl ((deleteF_m s del).flatMap addMC ++ sp') 126)] [] ∧ Fr (keys [(blkOf A_s, Cl (s.flatMap addMC ++ s1) 126)]) w w' ∧ (∀ k ∈ keys [(blkOf A', Cl ((deleteF_m s del).flatMap addMC ++ sp') 126)], k ∈ (keys [(blkOf A_s, Cl (s.flatMap addMC ++ s1) 126)]) ∨ w.heap.size ≤ k) := by
  refine Fn_of 42 Ty.en_89 Tryz.func89 rfl rfl rfl ?_
  dsimp only [argEnv]
  have hs0 := hs
  have st : St X w [(blkOf A_s, Cl (s.flatMap addMC ++ s1) 126)] [] := hs
  have z2 : ∀ g, blkOf A_s = some g → g ∈ (keys [(blkOf A_s, Cl (s.flatMap addMC ++ s1) 126)]) ∨ w.heap.size ≤ g := fun g hg => .inl (by simp [keys, hg])
  have z3 := Ow.le z5
  have hF := Fr.refl (keys [(blkOf A_s, Cl (s.flatMap addMC ++ s1) 126)]) w
  refine sq fun _ k1 => rg (Ls' rfl (Ln k1 (sq fun _ k2 => rg (Lm rfl (Lm rfl (La rfl (Scl st hF rfl (indexAdd_ok (keys (pickL (hOf st) []) ++ X) _ (st.sub [] [] [] (by decide)).lo s A_s c_s f1 del ((st.freeze (i := 0) [] (by decide) rfl z5 (by decide)).k (i := 0) rfl) (fun w1 x0 hw => z4 w1 x0 (hF.step0 hw))) fun w1 st hF => ?_)))))))
  refine Ls' rfl (Ln k2 (sq fun _ k3 => sq fun _ k4 => rg (Lm rfl (Ly rfl (yeq rfl) (Ln k4 (cE rfl (fun hc1 => ?_) (fun hc1 => ?_)))))))
  · refine sq fun _ k5 => rg (Lm rfl (Ls' rfl (Ln k5 (wR (Th_r (fR (Res1 rfl rfl) ?_))))))
    unfold deleteF_m; rewrite [iP hc1]
    exact ⟨_, _, _, rfl, z5, (st.pk [0] (by decide)).pickK [], hF, kc_b z2 kc_n⟩
  have khc1 := indexF_lt hc1
  refine sk k3 (sq fun _ k6 => sq fun _ k7 => rg (Lm rfl (Ly rfl (y_add (c := (indexF_m s del) + 1) rfl rfl rfl (wf_i64 (by first | omega | (simp; done) | (simp; omega)))) ?_)))
  refine Ls' rfl (Ln k7 (Wp_block (lp (fun q E W => ∃ (s5 : Int) (s6 : Int) (r0 : List AddM), E = [(0, .slice A_s s.length c_s), (1, f1), (5, .int .i64 s5), (6, .int .i64 s6)] ∧ jq q (fun m => (deleteF_L1 s del m s5 s6 r0 = deleteF_L1 s del (((s.length : Int) - ((indexF_m s del) + 1)).toNat + 1) (indexF_m s del) ((indexF_m s del) + 1) s ∧ ((s.length : Int) - s6).toNat < m)) (deleteF_L1 s del (((s.length : Int) - ((indexF_m s del) + 1)).toNat + 1) (indexF_m s del) ((indexF_m s del) + 1) s = .inr (s5, s6, r0)) ∧ (0 ≤ s5 ∧ s5 < s6 ∧ s6 ≤ s.length) ∧ Ow A_s s.length c_s 4 (r0.flatMap addMC) s1 ∧ (r0.length = s.length) ∧ St X W [(blkOf A_s, Cl (r0.flatMap addMC ++ s1) 126)] [] ∧ Fr (keys [(blkOf A_s, Cl (s.flatMap addMC ++ s1) 126)]) w W) (((s.length : Int) - ((indexF_m s del) + 1)).toNat + 1) [(0, _), (1, _), (5, _), (6, _)] ⟨rfl, rfl, rfl, rfl, trivial⟩ ⟨_, _, _, rfl, ⟨rfl, Nat.lt_succ_self _⟩, by first | omega | (simp; done) | (simp; omega), z5, rfl, st, hF⟩ k6 ?_ fun hout1 => ?_)))
  · rintro E w2 ⟨s5, s6, r0, rfl, hLk1, hinv, howr0, hlmr0, st, hF⟩
    unfold jq at hLk1; dsimp only at hLk1
    refine sq fun _ k8 => rg (Lm rfl (Lm rfl ?_))
    obtain ⟨gi1, egi1⟩ := (howr0).some_ (by first | omega | (simp; done) | (simp; omega))
    subst egi1
    refine Ly rfl (y_cuttM (enc := addMC) (xs := r0) (p := s5) rfl rfl (hlmr0).symm Ty.es_50 rfl rfl (by first | omega | (simp; done) | (simp; omega)) (by first | omega | (simp; done) | (simp; omega)) howr0) ?_
    refine La rfl (a_clearM (i := 0) (enc := addMC) (xs := r0) (u := default) (p := s5) rfl rfl rfl (hlmr0).symm Ty.es_50 Ty.zc_126 rfl (fun _ => rfl) (by intro v hv; simp only [addMC, List.mem_cons, List.not_mem_nil, or_false] at hv; rcases hv with rfl | rfl | rfl | rfl <;> rfl) howr0 (by first | omega | (simp; done) | (simp; omega)) (by first | omega | (simp; done) | (simp; omega)) st.hp rfl (fun w3 how1 (hp : Hp w3 [_]) hf => ?_))
    have st : St X w3 [_] [] := st.set (i := 0) rfl hp hf
    have st : St X w3 [_] [] := st
    have hF := hF.step hf (fun y hy => z2 y (by simp at hy; subst hy; rfl))
    have hln1 : (r0.take s5.toNat ++ List.replicate (r0.length - s5.toNat) default).length = s.length := by simp only [List.length_append, List.length_take, List.length_replicate]; omega
    refine Ln k8 (sq fun _ k9 => rg (Lm rfl (Lm rfl (Ly rfl (y_cut0M (enc := addMC) (xs := r0.take s5.toNat ++ List.replicate (r0.length - s5.toNat) default) (q := s5) rfl rfl (hln1).symm Ty.es_50 rfl rfl (by first | omega | (simp; done) | (simp; omega)) (by first | omega | (simp; done) | (simp; omega)) how1) ?_))))
    have how2 := Ow.cut (enc := addMC) (xs := r0.take s5.toNat ++ List.replicate (r0.length - s5.toNat) default) (fun _ => rfl) how1 (hln1).symm s5.toNat
    have st : St X _ [_] [] := st.conv (i := 0) rfl (cut_cells s5.toNat)
    refine Ls' rfl (Ln k9 (wR (fR (Res1 rfl rfl) ?_)))
    unfold deleteF_m; rewrite [iN hc1, hLk1]; (try dsimp only)
    exact ⟨_, _, _, rfl, how2, (st.pk [0] (by decide)).pickK [], hF, kc_b z2 kc_n⟩
  rintro m E w4 ⟨s5, s6, r0, rfl, ⟨hL1, hmu⟩, hinv, howr0, hlmr0, st, hF⟩
  obtain ⟨fuel, rfl⟩ : ∃ q, m = q + 1 := ⟨m - 1, by omega⟩
  have z1 := Ow.le howr0
  refine sq fun _ k10 => sq fun _ k11 => rg (Lm rfl (Lm rfl (Ly rfl (yll rfl Tryz.underlying50) (Ly rfl (ylt rfl) (Ln k11 (cD rfl (fun hc2 => ?_) (fun hc2 => ?_)))))))
  · refine sk k10 (sq fun _ k12 => Wp_block (sq fun _ k13 => rg (Lm rfl (Lm rfl ?_))))
    obtain ⟨gi2, egi2⟩ := (howr0).some_ (by first | omega | (simp; done) | (simp; omega))
    subst egi2
    refine Ly rfl (y_ixa (q := s6) rfl rfl rfl Ty.es_50 (by first | omega | (simp; done) | (simp; omega)) (by first | omega | (simp; done) | (simp; omega))) ?_
    refine Ly rfl (y_ldk (q := s6) rfl rfl Ty.ag_126 (fun _ e => e ▸ Sld.own (i := 0) st.hp rfl howr0 (by decide)) (fun _ => rfl) (by first | omega | (simp; done) | (simp; omega)) (by first | omega | (simp; done) | (simp; omega))) ?_
    refine La rfl (Sal Ty.zc_126 st hF rfl fun g1 w5 (st : St _ _ [_, _] _) hF hg1 => La rfl (Ssw 1 Ty.sz_126 st hF (.inr hg1) rfl fun w6 (st : St _ _ [_, _] _) hF => Ln k13 (sq fun _ k14 => rg (Lm rfl (Ly rfl (yw 1 Ty.ag_126 st rfl) (La rfl (Scv st hF rfl (z4 _ (ix r0 s6) hF) fun w7 st hF => Ly rfl (yn rfl) (Ln k14 (cBn rfl (fun hc3 => ?_) (fun hc3 => ?_))))))))))
    · refine sq fun _ k15 => rg (Lm rfl (Lm rfl (Ly rfl (yw 1 Ty.ag_126 st rfl) (Ly rfl (y_ixa (q := s5) rfl rfl rfl Ty.es_50 (by first | omega | (simp; done) | (simp; omega)) (by first | omega | (simp; done) | (simp; omega))) ?_))))
      refine La rfl (a_setrow (i := 0) (q := s5) (u := ix r0 s6) rfl rfl rfl rfl rfl (fun _ => rfl) Ty.sz_126 (by intro v hv; simp only [addMC, List.mem_cons, List.not_mem_nil, or_false] at hv; rcases hv with rfl | rfl | rfl | rfl <;> rfl) howr0 st.hp rfl (by first | omega | (simp; done) | (simp; omega)) (by first | omega | (simp; done) | (simp; omega)) (by decide) (fun w8 how3 (hp : Hp w8 [_, _]) hf => ?_))
      have st : St X w8 [_, _] [] := st.set (i := 0) rfl hp hf
      have st : St X w8 [_, _] [] := st
      have hF := hF.step hf (fun y hy => z2 y (by simp at hy; subst hy; rfl))
      have hln2 : (r0.set s5.toNat (ix r0 s6)).length = s.length := by rw [List.length_set]; exact hlmr0
      rewrite [hln2] at how3
      refine Ln k15 (rg (Lm rfl (Ly rfl (y_add (c := s5 + 1) rfl rfl rfl (wf_i64 (by first | omega | (simp; done) | (simp; omega)))) ?_)))
      refine Ls' rfl (Ls_nil (Ib_n (Th_n (k12 _ _ (rg (Lm rfl (Ly rfl (y_add (c := s6 + 1) rfl rfl rfl (wf_i64 (by first | omega | (simp; done) | (simp; omega)))) ?_)))))))
      refine Ls' rfl (Ls_nil (Th_n (?_)))
      exact ⟨fuel, [(0, _), (1, _), (5, _), (6, _)], Nat.lt_succ_self _, ⟨rfl, rfl, rfl, rfl, trivial⟩, (s5 + 1), (s6 + 1), (r0.set s5.toNat (ix r0 s6)), rfl, ⟨by rewrite [← hL1, deleteF_L1]; rewrite [iP hc2, iN hc3]; rfl, by first | omega | (simp; done) | (simp; omega)⟩, by first | omega | (simp; done) | (simp; omega), how3, hln2, (st.pk [0] (by decide)).pickK [], hF⟩
    refine Wp_skip (Ib_n (Th_n (k12 _ _ (rg (Lm rfl (Ly rfl (y_add (c := s6 + 1) rfl rfl rfl (wf_i64 (by first | omega | (simp; done) | (simp; omega)))) ?_))))))
    refine Ls' rfl (Ls_nil (Th_n (?_)))
    exact ⟨fuel, [(0, _), (1, _), (5, _), (6, _)], Nat.lt_succ_self _, ⟨rfl, rfl, rfl, rfl, trivial⟩, s5, (s6 + 1), r0, rfl, ⟨by rewrite [← hL1, deleteF_L1]; rewrite [iP hc2, iP hc3]; rfl, by first | omega | (simp; done) | (simp; omega)⟩, by first | omega | (simp; done) | (simp; omega), howr0, hlmr0, (st.pk [0] (by decide)).pickK [], hF⟩
  refine Wp_exit (Th_e (Th_e (Ib_hit (Th_n (?_)))))
  exact hout1 _ [(0, _), (1, _), (5, _), (6, _)] _ ⟨rfl, rfl, rfl, rfl, trivial⟩ ⟨s5, s6, r0, rfl, show _ = _ from by rewrite [← hL1, deleteF_L1]; rewrite [iN hc2]; rfl, by first | omega | (simp; done) | (simp; omega), howr0, hlmr0, (st.pk [0] (by decide)).pickK [], hF⟩
def bsearchAdd_L1 (x : List AddM) (target : TagM) (c : AddM → TagM → Int) : Nat → Int → Int → (Int × Bool) ⊕ (Int × Int)
  | 0, s9, s10 => .inr (s9, s10)
  | fuel + 1, s9, s10 =>
    if s9 < s10 then
      if (c (ix x ((s9 + s10) / 2)) target) < 0 then
        bsearchAdd_L1 x target c fuel (((s9 + s10) / 2) + 1) s10
      else
        bsearchAdd_L1 x target c fuel s9 ((s9 + s10) / 2)
    else
      .inr (s9, s10)
def bsearchAdd_m (x : List AddM) (target : TagM) (c : AddM → TagM → Int) : Int × Bool :=
  match bsearchAdd_L1 x target c (((x.length : Int) - (0 : Int)).toNat + 1) (0 : Int) (x.length : Int) with
  | .inl r => r
  | .inr (s9, s10) =>
    if s9 < (x.length : Int) then
      (s9, (c (ix x s9) target) == 0)
    else
      (s9, false)
theorem bsearchAdd_ok (X : List Nat) (w : World) (hX : Lo X w) (x : List AddM) (A_x : Option Addr) (c_x : Nat) (target : TagM) (f1 : Value) (c : AddM → TagM → Int) (h_x : Sld X w A_x x.length c_x 4 (x.flatMap addMC)) (z2 : ∀ (w1 : World) (x0 : AddM) (x1 : TagM), Fr ([]) w w1 → FnV Tryz.prog f1 [.agg (addMC x0).toArray, .agg (tagMC x1).toArray] w1 fun v w2 => v = .int .i64 (c x0 x1) ∧ Fr [] w1 w2) (hx : x.length ≤ 1000000) :
    Fn Tryz.prog 82 [.slice A_x x.length c_x, .agg (tagMC target).toArray, f1] w fun v w' => v = .tuple #[.int .i64 ((bsearchAdd_m x target c).1), .bool ((bsearchAdd_m x target c).2)] ∧ Fr [] w w' := by
  refine Fn_of 49 Ty.en_82 Tryz.func82 rfl rfl rfl ?_
  dsimp only [argEnv]
  have st := stn1 hX h_x
  have hF := Fr.refl ([]) w
  have z1 := (st.q 0 rfl).le
  refine sq fun _ k1 => rg (La rfl (Sbx st hF rfl fun g1 w1 (st : St _ _ [_] _) hF hg1 => Ls' rfl (Ls' rfl (Ln k1 (sq fun _ k2 => rg (Lm rfl (Ly rfl (yll rfl Tryz.underlying50) (Ls' rfl (Ln k2 (sq fun _ k3 => rg (Lm rfl (Ls' rfl (Ls' rfl (Ln k3 (sq fun _ k4 => Wp_block (lp (fun q E W => ∃ (s9 : Int) (s10 : Int), E = [(0, .slice A_x x.length c_x), (2, f1), (4, .pointer (some ⟨g1, 0, none⟩)), (8, .int .i64 (x.length : Int)), (9, .int .i64 s9), (10, .int .i64 s10)] ∧ jq q (fun m => (bsearchAdd_L1 x target c m s9 s10 = bsearchAdd_L1 x target c (((x.length : Int) - (0 : Int)).toNat + 1) (0 : Int) (x.length : Int) ∧ (s10 - s9).toNat < m)) (bsearchAdd_L1 x target c (((x.length : Int) - (0 : Int)).toNat + 1) (0 : Int) (x.length : Int) = .inr (s9, s10)) ∧ (0 ≤ s9 ∧ s9 ≤ s10 ∧ s10 ≤ x.length) ∧ St X W [(some g1, Cl [.int .i64 target.id.origin, .int .u32 target.id.seq, .int .i64 target.n] 43)] [kS A_x x.length c_x 4 (x.flatMap addMC)] ∧ Fr ([]) w W) (((x.length : Int) - (0 : Int)).toNat + 1) [(0, _), (2, _), (4, _), (8, _), (9, _), (10, _)] ⟨rfl, rfl, rfl, rfl, rfl, rfl, trivial⟩ ⟨_, _, rfl, ⟨rfl, Nat.lt_succ_self _⟩, by first | omega | (simp; done) | (simp; omega), st, hF⟩ k4 ?_ fun hout1 => ?_))))))))))))))))
  · rintro E w2 ⟨s9, s10, rfl, hLk1, hinv, st, hF⟩
    unfold jq at hLk1; dsimp only at hLk1
    refine sq fun _ k5 => ?_
    refine Wp_plan (fun W => St X W (pickL (hOf st) [0]) (kOf st)) [(true, 0), (true, 1), (true, 2), (true, 3), (true, 4), (true, 5), (true, 6), (true, 7), (true, 8), (true, 9), (true, 10), (false, 11), (true, 12), (true, 13), (true, 14), (true, 15)] Ty.mx_0 (by kernel_rfl) (by kernel_rfl) rfl ((st.pk [0] (by decide)).drew) ?_
    have st := st.drew
    have hF := hF.step0 (Fr.drew _)
    refine Pm rfl (Pm rfl (Pm rfl (Py rfl (ylt rfl) (Pm rfl (Pl_bool 39 rfl (fun hc1 => ?_) (fun hc1 => ?_))))))
    · have hc1 := dT hc1
      refine Pl_y rfl (wtdT rfl rfl rfl) rfl rfl (y_move rfl rfl) (Pl_y rfl (wtdT rfl rfl rfl) rfl rfl (y_move rfl rfl) (Pl_y rfl (wtdT rfl rfl rfl) rfl rfl (y_move rfl rfl) ?_))
      obtain ⟨gi1, bi1, egi1⟩ := (st.k (i := 0) rfl).addr (fun _ => rfl) (by decide) (q := s9) (by first | omega | (simp; done) | (simp; omega)) (by first | omega | (simp; done) | (simp; omega))
      subst egi1
      refine Pl_y rfl (wtdT rfl rfl rfl) rfl rfl (y_ixa (q := s9) rfl rfl rfl Ty.es_50 (by first | omega | (simp; done) | (simp; omega)) (by first | omega | (simp; done) | (simp; omega))) ?_
      refine Pl_y rfl (wtdT rfl rfl rfl) rfl rfl (y_ldk (q := s9) rfl rfl Ty.ag_126 (fun _ h => h.k (i := 0) rfl) (fun _ => rfl) (by first | omega | (simp; done) | (simp; omega)) (by first | omega | (simp; done) | (simp; omega))) ?_
      refine Pl_y rfl (wtdT rfl rfl rfl) rfl rfl (y_loadw (i := 0) rfl rfl Ty.ag_43 (fun _ h => h.hp) rfl rfl) (Pl_a rfl (wtdT rfl rfl rfl) (by rfl) ?_)
      refine Scv st hF rfl (z2 _ (ix x s9) target hF) fun w3 st hF => ?_
      refine ⟨(st.pk [0] (by decide)).tK 1, ?_⟩
      refine Pl_y rfl (wtdT rfl rfl rfl) rfl rfl (yeq rfl) (Py rfl (yT rfl) (Py rfl (y_assign rfl rfl) (Py rfl (y_assign rfl rfl) (Pl_nil (Th_n (k5 _ _ (wR (fR (Res2 rfl rfl rfl) ?_))))))))
      unfold bsearchAdd_m; rewrite [hLk1]; (try dsimp only); rewrite [iP hc1]
      exact ⟨rfl, hF⟩
    have hc1 := dF hc1
    refine Pl_s rfl (wtdF rfl rfl rfl) rfl rfl (Pl_s rfl (wtdF rfl rfl rfl) rfl rfl (Pl_s rfl (wtdF rfl rfl rfl) rfl rfl (Pl_s rfl (wtdF rfl rfl rfl) rfl rfl (Pl_s rfl (wtdF rfl rfl rfl) rfl rfl (Pl_s rfl (wtdF rfl rfl rfl) rfl rfl (Pl_s rfl (wtdF rfl rfl rfl) rfl rfl (Pl_s rfl (wtdF rfl rfl rfl) rfl rfl (Py rfl (yF rfl) (Py rfl (y_assign rfl rfl) (Py rfl (y_assign rfl rfl) (Pl_nil (Th_n (k5 _ _ (wR (fR (Res2 rfl rfl rfl) ?_)))))))))))))))
    unfold bsearchAdd_m; rewrite [hLk1]; (try dsimp only); rewrite [iN hc1]
    exact ⟨rfl, hF⟩
  rintro m E w4 ⟨s9, s10, rfl, ⟨hL1, hmu⟩, hinv, st, hF⟩
  obtain ⟨fuel, rfl⟩ : ∃ q, m = q + 1 := ⟨m - 1, by omega⟩
  refine sq fun _ k6 => sq fun _ k7 => rg (Lm rfl (Lm rfl (Ly rfl (ylt rfl) (Ln k7 (cD rfl (fun hc2 => ?_) (fun hc2 => ?_))))))
  · refine sk k6 (Wp_block (sq fun _ k8 => rg (Lm rfl (Lm rfl (Ly rfl (y_add (c := s9 + s10) rfl rfl rfl (wf_i64 (by first | omega | (simp; done) | (simp; omega)))) ?_)))))
    refine Ly rfl (y_cvi (c := s9 + s10) rfl rfl Tryz.underlying3 Tryz.underlying153 (wf_u64 (by omega))) ?_
    refine Ly rfl (y_shrC 1 2 rfl rfl rfl (by decide) rfl rfl (by decide)) ?_
    refine Ly rfl (y_cvi (c := (s9 + s10) / 2) rfl rfl Tryz.underlying153 Tryz.underlying3 (wf_i64 (by omega))) ?_
    refine Ls' rfl (Ln k8 (sq fun _ k9 => ?_))
    refine Wp_plan (fun W => St X W (pickL (hOf st) [0]) (kOf st)) [(true, 0), (true, 1), (true, 2), (true, 3), (true, 4), (true, 5), (false, 6), (true, 7)] Ty.mx_0 (by kernel_rfl) (by kernel_rfl) rfl ((st.pk [0] (by decide)).drew) ?_
    have st := st.drew
    have hF := hF.step0 (Fr.drew _)
    refine Pm rfl (Pm rfl (Pm rfl ?_))
    obtain ⟨gi2, bi2, egi2⟩ := (st.k (i := 0) rfl).addr (fun _ => rfl) (by decide) (q := (s9 + s10) / 2) (by first | omega | (simp; done) | (simp; omega)) (by first | omega | (simp; done) | (simp; omega))
    subst egi2
    refine Py rfl (y_ixa (q := (s9 + s10) / 2) rfl rfl rfl Ty.es_50 (by first | omega | (simp; done) | (simp; omega)) (by first | omega | (simp; done) | (simp; omega))) ?_
    refine Py rfl (y_ldk (q := (s9 + s10) / 2) rfl rfl Ty.ag_126 (fun _ h => h.k (i := 0) rfl) (fun _ => rfl) (by first | omega | (simp; done) | (simp; omega)) (by first | omega | (simp; done) | (simp; omega))) ?_
    refine Py rfl (y_loadw (i := 0) rfl rfl Ty.ag_43 (fun _ h => h.hp) rfl rfl) (Pl_a rfl (wtd0 rfl) (by rfl) ?_)
    refine Scv st hF rfl (z2 _ (ix x ((s9 + s10) / 2)) target hF) fun w5 st hF => ?_
    refine ⟨(st.pk [0] (by decide)).tK 1, ?_⟩
    refine Py rfl (ylt rfl) (Pl_nil (Th_n (k9 _ _ (cD rfl (fun hc3 => ?_) (fun hc3 => ?_)))))
    · refine rg (Lm rfl (Ly rfl (y_add (c := ((s9 + s10) / 2) + 1) rfl rfl rfl (wf_i64 (by first | omega | (simp; done) | (simp; omega)))) ?_))
      refine Ls' rfl (Ls_nil (Ib_n (Th_n (?_))))
      exact ⟨fuel, [(0, _), (2, _), (4, _), (8, _), (9, _), (10, _)], Nat.lt_succ_self _, ⟨rfl, rfl, rfl, rfl, rfl, rfl, trivial⟩, (((s9 + s10) / 2) + 1), s10, rfl, ⟨by rewrite [← hL1, bsearchAdd_L1]; rewrite [iP hc2, iP hc3]; rfl, by first | omega | (simp; done) | (simp; omega)⟩, by first | omega | (simp; done) | (simp; omega), (st.pk [0] (by decide)).pickK [0], hF⟩
    refine rg (Lm rfl (Ls' rfl (Ls_nil (Ib_n (Th_n (?_))))))
    exact ⟨fuel, [(0, _), (2, _), (4, _), (8, _), (9, _), (10, _)], Nat.lt_succ_self _, ⟨rfl, rfl, rfl, rfl, rfl, rfl, trivial⟩, s9, ((s9 + s10) / 2), rfl, ⟨by rewrite [← hL1, bsearchAdd_L1]; rewrite [iP hc2, iN hc3]; rfl, by first | omega | (simp; done) | (simp; omega)⟩, by first | omega | (simp; done) | (simp; omega), (st.pk [0] (by decide)).pickK [0], hF⟩
  refine Wp_exit (Th_e (Th_e (Ib_hit (Th_n (?_)))))
  exact hout1 _ [(0, _), (2, _), (4, _), (8, _), (9, _), (10, _)] _ ⟨rfl, rfl, rfl, rfl, rfl, rfl, trivial⟩ ⟨s9, s10, rfl, show _ = _ from by rewrite [← hL1, bsearchAdd_L1]; rewrite [iN hc2]; rfl, by first | omega | (simp; done) | (simp; omega), (st.pk [0] (by decide)).pickK [0], hF⟩
def mlater_m (a : PutM) (b : PutM) : Int :=
  cmpOr_m [lcompare_m a.atF b.atF, icompareTag_m a.tag b.tag]
theorem mlater_ok (w : World) (a : PutM) (b : PutM) :
    Fn Tryz.prog 102 [.agg (putMC a).toArray, .agg (putMC b).toArray] w fun v w' => v = .int .i64 (mlater_m a b) ∧ Fr [] w w' := by
  refine Fn_of 17 Ty.en_102 Tryz.func102 rfl rfl rfl ?_
  dsimp only [argEnv]
  have st := stn0 (X := []) (w := w) (by simp [Lo])
  have hF := Fr.refl ([]) w
  refine sq fun _ k1 => rg (La rfl (Sbx st hF rfl fun g1 w1 (st : St _ _ [_] _) hF hg1 => La rfl (Sbx st hF rfl fun g2 w2 (st : St _ _ [_, _] _) hF hg2 => Ls' rfl (Ln k1 (sq fun _ k2 => ?_)))))
  refine Wp_plan (fun W => St [] W (pickL (hOf st) [0, 1]) (kOf st)) [(true, 0), (true, 1), (true, 2), (true, 3), (true, 5), (true, 6), (true, 7), (true, 8), (false, 4), (false, 9), (false, 10), (false, 11), (true, 12)] Ty.mx_0 (by kernel_rfl) (by kernel_rfl) rfl ((st.pk [0, 1] (by decide)).drew) ?_
  have st := st.drew
  have hF := hF.step0 (Fr.drew _)
  refine Py rfl (yf rfl Ty.fo_131_3) (Py rfl (y_loadm (i := 0) rfl rfl Ty.ag_24 (fun _ h => h.hp) rfl rfl rfl) (Py rfl (yf rfl Ty.fo_131_3) (Py rfl (y_loadm (i := 1) rfl rfl Ty.ag_24 (fun _ h => h.hp) rfl rfl rfl) (Py rfl (yf rfl Ty.fo_131_0) (Py rfl (y_loadm (i := 0) rfl rfl Ty.ag_43 (fun _ h => h.hp) rfl rfl rfl) (Py rfl (yf rfl Ty.fo_131_0) (Py rfl (y_loadm (i := 1) rfl rfl Ty.ag_43 (fun _ h => h.hp) rfl rfl rfl) (Pl_a rfl (wtd0 rfl) (by rfl) ?_))))))))
  refine Scl st hF rfl (lcompare_ok _ a.atF b.atF) fun w3 st hF => ?_
  refine ⟨(st.pk [0, 1] (by decide)).tK 0, ?_⟩
  refine Pl_a rfl (wtd0 rfl) (by rfl) ?_
  refine Scl st hF rfl (icompareTag_ok _ a.tag b.tag) fun w4 st hF => ?_
  refine ⟨(st.pk [0, 1] (by decide)).tK 0, ?_⟩
  refine Pl_a rfl (wtd0 rfl) (by rfl) ?_
  refine a_bsl rfl rfl rfl rfl rfl Ty.es_229 Ty.zc_3 rfl (by decide) (by simp [Value.cells]) st.hp (fun g3 w5 (hp : Hp w5 [_, _, _]) hf hg3 => ?_)
  have how1 : Ow (some ⟨g3, 0, none⟩) [lcompare_m a.atF b.atF, icompareTag_m a.tag b.tag].length 2 1 ([lcompare_m a.atF b.atF, icompareTag_m a.tag b.tag].flatMap (fun x => [Value.int .i64 x])) [] := ⟨rfl, .inr ⟨g3, rfl, rfl, Nat.le_refl _, by unfold maxLen; decide⟩⟩
  have st : St [] w5 [_, _, _] [] := st.push hp hf hg3
  have st : St [] w5 [_, _, _] [] := st
  have hg3 := Nat.le_trans hF.size hg3
  have hF := hF.step0 hf
  have hnew1 := newB (X0 := []) hg3
  refine ⟨(st.pk [0, 1] (by decide)).tK 0, ?_⟩
  refine Pl_a rfl (wtd0 rfl) (by rfl) ?_
  refine Scl st hF rfl (cmpOr_ok (keys (pickL (hOf st) [0, 1]) ++ []) _ (st.sub [0, 1] [] [] (by decide)).lo [lcompare_m a.atF b.atF, icompareTag_m a.tag b.tag] (some ⟨g3, 0, none⟩) 2 ((st.freeze (i := 2) [0, 1] (by decide) rfl how1 (by decide)).k (i := 0) rfl)) fun w6 st hF => ?_
  refine ⟨(st.pk [0, 1] (by decide)).tK 0, ?_⟩
  refine Py rfl (y_assign rfl rfl) (Pl_nil (Th_n (k2 _ _ (wR (fR (Res1 rfl rfl) ?_)))))
  unfold mlater_m
  exact ⟨rfl, hF⟩
def mown_m (s : MapM) : MapM :=
  (⟨clonePut_m s.puts, cloneTag_m s.gone⟩ : MapM)
theorem mown_ok (X : List Nat) (w : World) (hX : Lo X w) (s : MapM) (A2 : Option Addr) (C2 : Nat) (A1 : Option Addr) (C1 : Nat) (z4 : Sld X w A2 s.puts.length C2 7 (s.puts.flatMap putMC)) (z3 : Sld X w A1 s.gone.length C1 3 (s.gone.flatMap tagMC)) (h1 : s.puts.length ≤ 1000000) (h2 : s.gone.length ≤ 1000000) :
    Fn Tryz.prog 95 [.agg #[.slice A2 s.puts.length C2, .slice A1 s.gone.length C1]] w fun v w' => ∃ (A0' : Option Addr) (c0' : Nat) (sp0' : List Value) (A1' : Option Addr) (c1' : Nat) (sp1' : List Value), v = .agg #[.slice A0' (mown_m s).puts.length c0', .slice A1' (mown_m s).gone.length c1'] ∧ Ow A0' (mown_m s).puts.length c0' 7 ((mown_m s).puts.flatMap putMC) sp0' ∧ Ow A1' (mown_m s).gone.length c1' 3 ((mown_m s).gone.flatMap tagMC) sp1' ∧ St X w' [(blkOf A0', Cl ((mown_m s).puts.flatMap putMC ++ sp0') 131), (blkOf A1', Cl ((mown_m s).gone.flatMap tagMC ++ sp1') 43)] [] ∧ Fr ([]) w w' ∧ (∀ k ∈ keys [(blkOf A0', Cl ((mown_m s).puts.flatMap putMC ++ sp0') 131), (blkOf A1', Cl ((mown_m s).gone.flatMap tagMC ++ sp1') 43)], k ∈ ([]) ∨ w.heap.size ≤ k) := by
  refine Fn_of 10 Ty.en_95 Tryz.func95 rfl rfl rfl ?_
  dsimp only [argEnv]
  have st := stn2 hX z4 z3
  have hF := Fr.refl ([]) w
  have z2 := (st.q 0 rfl).le
  have z1 := (st.q 1 rfl).le
  refine sq fun _ k1 => rg (La rfl (Sbx st hF rfl fun g1 w1 (st : St _ _ [_] _) hF hg1 => La rfl (Sal Ty.zc_55 st hF rfl fun g2 w2 (st : St _ _ [_, _] _) hF hg2 => Ln k1 (sq fun _ k2 => ?_))))
  refine Wp_planF (fun W => St X W (pickL (hOf st) [0, 1]) (kOf st)) [(true, 0), (true, 1), (true, 3), (true, 4), (false, 2), (false, 5), (true, 6)] 7 Ty.mx_0 (by kernel_rfl) (by kernel_rfl) (by kernel_rfl) rfl ((st.pk [0, 1] (by decide)).drew) ?_
  have st := st.drew
  have hF := hF.step0 (Fr.drew _)
  refine Py rfl (yf rfl Ty.fo_55_0) (Py rfl (y_load (i := 0) rfl rfl Ty.pl_53 (fun _ h => h.hp) rfl rfl) (Py rfl (yf rfl Ty.fo_55_1) (Py rfl (y_load (i := 0) rfl rfl Ty.pl_30 (fun _ h => h.hp) rfl rfl) (Pl_a rfl (wtd0 rfl) (by rfl) ?_))))
  refine a_call rfl rfl rfl rfl (clonePut_ok (keys (hOf st) ++ X) _ st.Lo s.puts A2 C2 (st.q 0 rfl) h1) (fun v w3 ⟨Ao1, co1, spo1, hv, how1, hN1, hfO1, hkc1⟩ => ?_)
  subst hv
  have hnew1 : ∀ g, blkOf Ao1 = some g → g ∈ ([]) ∨ w.heap.size ≤ g := fun g hg => (hkc1 g (by simp [keys, hg])).elim (fun h => by simp at h) (fun h => .inr (Nat.le_trans hF.size h))
  have st := st.callN hN1 hfO1 (fun k hk => (hkc1 k hk).elim (fun h => by simp at h) id)
  have hF := hF.step0 hfO1
  have z5 := Ow.le how1
  have st : St X w3 [_, _, _] [_, _] := st
  refine ⟨(st.pk [0, 1] (by decide)).tK 2, ?_⟩
  refine Pl_a rfl (wtd0 rfl) (by rfl) ?_
  refine a_call rfl rfl rfl rfl (cloneTag_ok (keys (hOf st) ++ X) _ st.Lo s.gone A1 C1 (st.q 1 rfl) h2) (fun v w4 ⟨Ao2, co2, spo2, hv, how2, hN2, hfO2, hkc2⟩ => ?_)
  subst hv
  have hnew2 : ∀ g, blkOf Ao2 = some g → g ∈ ([]) ∨ w.heap.size ≤ g := fun g hg => (hkc2 g (by simp [keys, hg])).elim (fun h => by simp at h) (fun h => .inr (Nat.le_trans hF.size h))
  have st := st.callN hN2 hfO2 (fun k hk => (hkc2 k hk).elim (fun h => by simp at h) id)
  have hF := hF.step0 hfO2
  have z6 := Ow.le how2
  have st : St X w4 [_, _, _, _] [_, _] := st
  refine ⟨(st.pk [0, 1] (by decide)).tK 2, ?_⟩
  refine Py rfl (y_build (cells := [_, _]) rfl rfl Ty.zc_55 Ty.ps_55 rfl) (Pl_nil (Fin_a rfl (wtd0 rfl) (Ssw 1 Ty.sz_55 st hF (.inr hg2) rfl fun w5 (st : St _ _ [_, _, _, _] _) hF => id (Th_n (k2 _ _ (wR (fR (ResN1 rfl (rvc (i := 1) rfl Ty.ag_55 st.hp rfl rfl)) ?_)))))))
  unfold mown_m
  exact ⟨_, _, _, _, _, _, rfl, how1, how2, (st.pk [2, 3] (by decide)).pickK [], hF, (kc_b hnew1 (kc_b hnew2 kc_n))⟩
def ocheckE_c1 (e : EffectM) : Bool :=
  (if (bnotTag_m e.tag) = true then true else containsF_m e.tags bnotTag_m)
def ocheckE_c2 (e : EffectM) : Bool :=
  (if ((oform_m e.act).atF) = true then (if (otimed_m e.atF) = true then (if ((oform_m e.act).tags) = true then false else decide (0 < (e.tags.length : Int))) else true) else (if e.atF = (⟨0, 0⟩ : StampM) then (if ((oform_m e.act).tags) = true then false else decide (0 < (e.tags.length : Int))) else true))
def ocheckE_L1 (e : EffectM) : Nat → Int → (Int) ⊕ (Int)
  | 0, s5 => .inr (s5)
  | fuel + 1, s5 =>
    if s5 < (e.tags.length : Int) then
      if 0 ≤ (icompareTag_m (ix e.tags (s5 - 1)) (ix e.tags s5)) then
        .inl 3
      else
        ocheckE_L1 e fuel (s5 + 1)
    else
      .inr (s5)
def ocheckE_m (e : EffectM) : Int :=
  if (ocheckOp_m (⟨e.act, e.name, e.val⟩ : OpM)) = 0 then
    if (ocheckE_c1 e) = true then
      2
    else
      if 4096 < (e.tags.length : Int) then
        8
      else
        if (ocheckE_c2 e) = true then
          3
        else
          match ocheckE_L1 e (((e.tags.length : Int) - (1 : Int)).toNat + 1) (1 : Int) with
          | .inl r => r
          | .inr (s5) =>
            0
  else
    ocheckOp_m (⟨e.act, e.name, e.val⟩ : OpM)
theorem ocheckE_c1_iff (e : EffectM) : (ocheckE_c1 e = true) ↔ (((bnotTag_m e.tag) = true) ∨ ((containsF_m e.tags bnotTag_m) = true)) := by
  unfold ocheckE_c1; exact (ci1 Iff.rfl)
theorem ocheckE_c2_iff (e : EffectM) : (ocheckE_c2 e = true) ↔ (((((oform_m e.act).atF) = true) ∧ (¬ ((otimed_m e.atF) = true) ∨ (¬ (((oform_m e.act).tags) = true) ∧ (0 < (e.tags.length : Int))))) ∨ (¬ (((oform_m e.act).atF) = true) ∧ (¬ (e.atF = (⟨0, 0⟩ : StampM)) ∨ (¬ (((oform_m e.act).tags) = true) ∧ (0 < (e.tags.length : Int)))))) := by
  unfold ocheckE_c2; exact (ci5 (ci4 (ci3 decide_eq_true_iff)) (ci4 (ci3 decide_eq_true_iff)))
theorem ocheckE_ok (X : List Nat) (w : World) (hX : Lo X w) (e : EffectM) (A1 : Option Addr) (C1 : Nat) (z2 : Sld X w A1 e.tags.length C1 3 (e.tags.flatMap tagMC)) :
    Fn Tryz.prog 31 [.agg #[.int .i64 e.act, sv e.name, .int .i64 e.val, .int .i64 e.tag.id.origin, .int .u32 e.tag.id.seq, .int .i64 e.tag.n, .int .u32 e.atF.time, .int .i64 e.atF.origin, .slice A1 e.tags.length C1]] w fun v w' => v = .int .i64 (ocheckE_m e) ∧ Fr [] w w' := by
  refine Fn_of 82 Ty.en_31 Tryz.func31 rfl rfl rfl ?_
  dsimp only [argEnv]
  have st := stn1 hX z2
  have hF := Fr.refl ([]) w
  have z1 := (st.q 0 rfl).le
  refine sq fun _ k1 => rg (La rfl (Sbx st hF rfl fun g1 w1 (st : St _ _ [_] _) hF hg1 => Ls' rfl (Ln k1 (sq fun _ k2 => sq fun _ k3 => rg (Ly rfl (yf rfl Ty.fo_59_0) (Ly rfl (yl 0 Ty.pl_3 st rfl) (Ly rfl (yf rfl Ty.fo_59_1) (Ly rfl (yl 0 Ty.pl_9 st rfl) (Ly rfl (yf rfl Ty.fo_59_2) (Ly rfl (yl 0 Ty.pl_2 st rfl) (Ly rfl (y_build (cells := [_, _, _]) rfl rfl Ty.zc_63 Ty.ps_63 rfl) (La rfl (Scl st hF rfl (ocheckOp_ok _ (⟨e.act, e.name, e.val⟩ : OpM)) fun w2 st hF => Ls' rfl (Ln k3 (sq fun _ k4 => rg (Lm rfl (Ly rfl (yne rfl) (Ln k4 (cN rfl (fun hc1 => ?_) (fun hc1 => ?_))))))))))))))))))))
  · refine sq fun _ k5 => rg (Lm rfl (Ls' rfl (Ln k5 (wR (Th_r (fR (Res1 rfl rfl) ?_))))))
    unfold ocheckE_m; rewrite [iN hc1]
    exact ⟨rfl, hF⟩
  refine sk k2 (sq fun _ k6 => sq fun _ k7 => ?_)
  refine use_out k7 (fun E W => E = [(1, .pointer (some ⟨g1, 0, none⟩)), (24, .bool (ocheckE_c1 e))] ∧ St X W (hOf st) (kOf st) ∧ Fr ([]) w W) ?_ fun hout1 => ?_
  · rintro E w3 ⟨rfl, st, hF⟩
    have st : St X w3 [_] [_] := st
    refine cB rfl (fun hc2 => ?_) (fun hc2 => ?_)
    · have jhc2 := (ocheckE_c1_iff e).1 hc2
      refine sq fun _ k8 => rg (Ls' rfl (Ln k8 (wR (Th_r (fR (Res1 rfl rfl) ?_)))))
      unfold ocheckE_m; rewrite [iP hc1, iP hc2]
      exact ⟨rfl, hF⟩
    have jhc2 := mt (ocheckE_c1_iff e).2 hc2
    refine sk k6 (sq fun _ k9 => sq fun _ k10 => rg (Ly rfl (yf rfl Ty.fo_59_5) (Ly rfl (yl 0 Ty.pl_30 st rfl) (Ly rfl (yll rfl Tryz.underlying30) (Ly rfl (ygt rfl) (Ln k10 (cD rfl (fun hc3 => ?_) (fun hc3 => ?_))))))))
    · refine sq fun _ k11 => rg (Ls' rfl (Ln k11 (wR (Th_r (fR (Res1 rfl rfl) ?_)))))
      unfold ocheckE_m; rewrite [iP hc1, iN hc2, iP hc3]
      exact ⟨rfl, hF⟩
    refine sk k9 (sq fun _ k12 => rg (Ly rfl (yf rfl Ty.fo_59_0) (Ly rfl (yl 0 Ty.pl_3 st rfl) (La rfl (Scl st hF rfl (oform_ok _ e.act) fun w4 st hF => La rfl (Sal Ty.zc_104 st hF rfl fun g2 w5 (st : St _ _ [_, _] _) hF hg2 => La rfl (Ssw 1 Ty.sz_104 st hF (.inr hg2) rfl fun w6 (st : St _ _ [_, _] _) hF => Ln k12 (sq fun _ k13 => sq fun _ k14 => ?_))))))))
    refine use_out k14 (fun E W => E = [(1, .pointer (some ⟨g1, 0, none⟩)), (61, .bool (ocheckE_c2 e))] ∧ St X W (hOf st) (kOf st) ∧ Fr ([]) w W) ?_ fun hout2 => ?_
    · rintro E w7 ⟨rfl, st, hF⟩
      have st : St X w7 [_, _] [_] := st
      refine cB rfl (fun hc4 => ?_) (fun hc4 => ?_)
      · have jhc4 := (ocheckE_c2_iff e).1 hc4
        refine sq fun _ k15 => rg (Ls' rfl (Ln k15 (wR (Th_r (fR (Res1 rfl rfl) ?_)))))
        unfold ocheckE_m; rewrite [iP hc1, iN hc2, iN hc3, iP hc4]
        exact ⟨rfl, hF⟩
      have jhc4 := mt (ocheckE_c2_iff e).2 hc4
      refine sk k13 (sq fun _ k16 => sq fun _ k17 => rg (Ls' rfl (Ln k17 (Wp_block (lp (fun q E W => ∃ (s5 : Int), E = [(1, .pointer (some ⟨g1, 0, none⟩)), (5, .int .i64 s5)] ∧ jq q (fun m => (ocheckE_L1 e m s5 = ocheckE_L1 e (((e.tags.length : Int) - (1 : Int)).toNat + 1) (1 : Int) ∧ ((e.tags.length : Int) - s5).toNat < m)) (ocheckE_L1 e (((e.tags.length : Int) - (1 : Int)).toNat + 1) (1 : Int) = .inr (s5)) ∧ (1 ≤ s5) ∧ St X W [(some g1, Cl [.int .i64 e.act, sv e.name, .int .i64 e.val, .int .i64 e.tag.id.origin, .int .u32 e.tag.id.seq, .int .i64 e.tag.n, .int .u32 e.atF.time, .int .i64 e.atF.origin, .slice A1 e.tags.length C1] 59), (some g2, Cl [.bool ((oform_m e.act).name), .bool ((oform_m e.act).val), .bool ((oform_m e.act).atF), .bool ((oform_m e.act).tags)] 104)] [kS A1 e.tags.length C1 3 (e.tags.flatMap tagMC)] ∧ Fr ([]) w W) (((e.tags.length : Int) - (1 : Int)).toNat + 1) [(1, _), (5, _)] ⟨rfl, rfl, trivial⟩ ⟨_, rfl, ⟨rfl, Nat.lt_succ_self _⟩, by first | omega | (simp; done) | (simp; omega), st, hF⟩ k16 ?_ fun hout3 => ?_)))))
      · rintro E w8 ⟨s5, rfl, hLk1, hinv, st, hF⟩
        unfold jq at hLk1; dsimp only at hLk1
        refine sq fun _ k18 => rg (Ls' rfl (Ln k18 (wR (fR (Res1 rfl rfl) ?_))))
        unfold ocheckE_m; rewrite [iP hc1, iN hc2, iN hc3, iN hc4, hLk1]; (try dsimp only)
        exact ⟨rfl, hF⟩
      rintro m E w9 ⟨s5, rfl, ⟨hL1, hmu⟩, hinv, st, hF⟩
      obtain ⟨fuel, rfl⟩ : ∃ q, m = q + 1 := ⟨m - 1, by omega⟩
      refine sq fun _ k19 => sq fun _ k20 => rg (Lm rfl (Ly rfl (yf rfl Ty.fo_59_5) (Ly rfl (yl 0 Ty.pl_30 st rfl) (Ly rfl (yll rfl Tryz.underlying30) (Ly rfl (ylt rfl) (Ln k20 (cD rfl (fun hc5 => ?_) (fun hc5 => ?_))))))))
      · refine sk k19 (sq fun _ k21 => Wp_block (sq fun _ k22 => ?_))
        refine Wp_plan (fun W => St X W (pickL (hOf st) [0, 1]) (kOf st)) [(true, 0), (true, 1), (true, 2), (true, 3), (true, 4), (true, 5), (true, 6), (true, 7), (true, 8), (true, 9), (true, 10), (false, 11), (true, 12)] Ty.mx_0 (by kernel_rfl) (by kernel_rfl) rfl ((st.pk [0, 1] (by decide)).drew) ?_
        have st := st.drew
        have hF := hF.step0 (Fr.drew _)
        refine Py rfl (yf rfl Ty.fo_59_5) (Py rfl (y_load (i := 0) rfl rfl Ty.pl_30 (fun _ h => h.hp) rfl rfl) (Pm rfl (Py rfl (y_sub (c := s5 - 1) rfl rfl rfl (wf_i64 (by first | omega | (simp; done) | (simp; omega)))) ?_)))
        obtain ⟨gi1, bi1, egi1⟩ := (st.k (i := 0) rfl).addr (fun _ => rfl) (by decide) (q := s5 - 1) (by first | omega | (simp; done) | (simp; omega)) (by first | omega | (simp; done) | (simp; omega))
        subst egi1
        refine Py rfl (y_ixa (q := s5 - 1) rfl rfl rfl Ty.es_30 (by first | omega | (simp; done) | (simp; omega)) (by first | omega | (simp; done) | (simp; omega))) ?_
        refine Py rfl (y_ldk (q := s5 - 1) rfl rfl Ty.ag_43 (fun _ h => h.k (i := 0) rfl) (fun _ => rfl) (by first | omega | (simp; done) | (simp; omega)) (by first | omega | (simp; done) | (simp; omega))) ?_
        refine Py rfl (yf rfl Ty.fo_59_5) (Py rfl (y_load (i := 0) rfl rfl Ty.pl_30 (fun _ h => h.hp) rfl rfl) (Pm rfl (Py rfl (y_ixa (q := s5) rfl rfl rfl Ty.es_30 (by first | omega | (simp; done) | (simp; omega)) (by first | omega | (simp; done) | (simp; omega))) ?_)))
        refine Py rfl (y_ldk (q := s5) rfl rfl Ty.ag_43 (fun _ h => h.k (i := 0) rfl) (fun _ => rfl) (by first | omega | (simp; done) | (simp; omega)) (by first | omega | (simp; done) | (simp; omega))) ?_
        refine Pl_a rfl (wtd0 rfl) (by rfl) ?_
        refine Scl st hF rfl (icompareTag_ok _ (ix e.tags (s5 - 1)) (ix e.tags s5)) fun w10 st hF => ?_
        refine ⟨(st.pk [0, 1] (by decide)).tK 1, ?_⟩
        refine Py rfl (yge rfl) (Pl_nil (Th_n (k22 _ _ (cD rfl (fun hc6 => ?_) (fun hc6 => ?_)))))
        · refine sq fun _ k23 => rg (Ls' rfl (Ln k23 (wR (Ib_r (Th_r (Th_r (Ib_r (Th_r (fR (Res1 rfl rfl) ?_)))))))))
          have hret1 : ocheckE_L1 e (((e.tags.length : Int) - (1 : Int)).toNat + 1) (1 : Int) = .inl 3 := by rewrite [← hL1, ocheckE_L1]; rewrite [iP hc5, iP hc6]; rfl
          have he6 : ocheckE_m e = 3 := by unfold ocheckE_m; rewrite [iP hc1, iN hc2, iN hc3, iN hc4, hret1]; (try dsimp only); all_goals rfl
          rewrite [he6]
          exact ⟨rfl, hF⟩
        refine Wp_skip (Ib_n (Th_n (k21 _ _ (rg (Lm rfl (Ly rfl (y_add (c := s5 + 1) rfl rfl rfl (wf_i64 (by first | omega | (simp; done) | (simp; omega)))) ?_))))))
        refine Ls' rfl (Ls_nil (Th_n (?_)))
        exact ⟨fuel, [(1, _), (5, _)], Nat.lt_succ_self _, ⟨rfl, rfl, trivial⟩, (s5 + 1), rfl, ⟨by rewrite [← hL1, ocheckE_L1]; rewrite [iP hc5, iN hc6]; rfl, by first | omega | (simp; done) | (simp; omega)⟩, by first | omega | (simp; done) | (simp; omega), (st.pk [0, 1] (by decide)).pickK [0], hF⟩
      refine Wp_exit (Th_e (Th_e (Ib_hit (Th_n (?_)))))
      exact hout3 _ [(1, _), (5, _)] _ ⟨rfl, rfl, trivial⟩ ⟨s5, rfl, show _ = _ from by rewrite [← hL1, ocheckE_L1]; rewrite [iN hc5]; rfl, by first | omega | (simp; done) | (simp; omega), (st.pk [0, 1] (by decide)).pickK [0], hF⟩
    refine rg (Ly rfl (yf rfl Ty.fo_104_2) (Ly rfl (yl 1 Ty.pl_4 st rfl) (Lm rfl (bB (s := 34) rfl (fun hc7 => ?_) (fun hc7 => ?_)))))
    · refine LyT rfl (yf rfl Ty.fo_59_4) (LyT rfl (ym 0 Ty.ag_24 st rfl) (LaT rfl (Scl st hF rfl (otimed_ok _ e.atF) fun w11 st hF => LyT rfl (yn rfl) (Ly rfl (yT rfl) (Lm rfl (bBn (s := 40) rfl (fun hc8 => ?_) (fun hc8 => ?_)))))))
      · refine LsF rfl (LsF rfl (LsF rfl (LsF rfl (LsU rfl (LsU rfl (LsU rfl (LsU rfl (LsF rfl (Ly rfl (yT rfl) (Lm rfl (LsF rfl (LsF rfl (LsF rfl (LsF rfl (LsU rfl (LsU rfl (LsU rfl (LsU rfl (LsF rfl (Ly rfl (yT rfl) (Ls_nil (Th_n (?_)))))))))))))))))))))))
        exact hout2 _ [(1, _), (61, _)] _ ⟨rfl, rfl, trivial⟩ ⟨by unfold ocheckE_c2; rewrite [iP hc7, iN hc8]; rfl, (st.pk [0, 1] (by decide)).pickK [0], hF⟩
      refine LyT rfl (yf rfl Ty.fo_104_2) (LyT rfl (yl 1 Ty.pl_4 st rfl) (LyT rfl (yn rfl) (LyT rfl (y_move rfl rfl) (Ls_bool 44 rfl (fun hc9 => absurd hc9 (by simp [hc7])) (fun _ => ?_)))))
      refine LsF rfl (LsF rfl (LsF rfl (LsF rfl (LyT rfl (yF rfl) (Ly rfl (yF rfl) (Lm rfl (LyT rfl (yf rfl Ty.fo_104_3) (LyT rfl (yl 1 Ty.pl_4 st rfl) (LyT rfl (yn rfl) (LyT rfl (y_move rfl rfl) (bBn (s := 55) rfl (fun hc10 => ?_) (fun hc10 => ?_))))))))))))
      · refine LyT rfl (yf rfl Ty.fo_59_5) (LyT rfl (yl 0 Ty.pl_30 st rfl) (LyT rfl (yll rfl Tryz.underlying30) (LyT rfl (ygt rfl) (LyT rfl (yT rfl) (Ly rfl (yF rfl) (Ls_nil (Th_n (?_))))))))
        exact hout2 _ [(1, _), (61, _)] _ ⟨rfl, rfl, trivial⟩ ⟨by unfold ocheckE_c2; rewrite [iP hc7, iP hc8, iN hc10]; rfl, (st.pk [0, 1] (by decide)).pickK [0], hF⟩
      refine LsF rfl (LsF rfl (LsF rfl (LsF rfl (LyT rfl (yF rfl) (Ly rfl (yF rfl) (Ls_nil (Th_n (?_))))))))
      exact hout2 _ [(1, _), (61, _)] _ ⟨rfl, rfl, trivial⟩ ⟨by unfold ocheckE_c2; rewrite [iP hc7, iP hc8, iP hc10]; rfl, (st.pk [0, 1] (by decide)).pickK [0], hF⟩
    refine LsF rfl (LsF rfl (LsF rfl (LsF rfl (Ly rfl (yF rfl) (Lm rfl (LyT rfl (yf rfl Ty.fo_104_2) (LyT rfl (yl 1 Ty.pl_4 st rfl) (LyT rfl (yn rfl) (LyT rfl (y_move rfl rfl) (Ls_bool 44 rfl (fun _ => ?_) (fun hc11 => absurd hc11 (by simp [hc7]))))))))))))
    refine LyT rfl (yf rfl Ty.fo_59_4) (LyT rfl (ym 0 Ty.ag_24 st rfl) (LyT rfl (y_build (cells := [_, _]) rfl rfl Ty.zc_24 Ty.ps_24 rfl) (LyT rfl (y_nev (b := decide (e.atF = (⟨0, 0⟩ : StampM))) rfl rfl rfl Ty.eg_24 (by rw [Ty.ag_24]; simp) (eqv_24 e.atF (⟨0, 0⟩ : StampM))) ?_)))
    refine LyT rfl (yT rfl) (Ly rfl (yF rfl) (Lm rfl (bDn (s := 51) rfl (fun hc12 => ?_) (fun hc12 => ?_))))
    · refine LsF rfl (LsF rfl (LsF rfl (LsF rfl (LsU rfl (LsU rfl (LsU rfl (LsU rfl (LsF rfl (Ly rfl (yT rfl) (Ls_nil (Th_n (?_))))))))))))
      exact hout2 _ [(1, _), (61, _)] _ ⟨rfl, rfl, trivial⟩ ⟨by unfold ocheckE_c2; rewrite [iN hc7, iN hc12]; rfl, (st.pk [0, 1] (by decide)).pickK [0], hF⟩
    refine LyT rfl (yf rfl Ty.fo_104_3) (LyT rfl (yl 1 Ty.pl_4 st rfl) (LyT rfl (yn rfl) (LyT rfl (y_move rfl rfl) (bBn (s := 55) rfl (fun hc13 => ?_) (fun hc13 => ?_)))))
    · refine LyT rfl (yf rfl Ty.fo_59_5) (LyT rfl (yl 0 Ty.pl_30 st rfl) (LyT rfl (yll rfl Tryz.underlying30) (LyT rfl (ygt rfl) (LyT rfl (yT rfl) (Ly rfl (yF rfl) (Ls_nil (Th_n (?_))))))))
      exact hout2 _ [(1, _), (61, _)] _ ⟨rfl, rfl, trivial⟩ ⟨by unfold ocheckE_c2; rewrite [iN hc7, iP hc12, iN hc13]; rfl, (st.pk [0, 1] (by decide)).pickK [0], hF⟩
    refine LsF rfl (LsF rfl (LsF rfl (LsF rfl (LyT rfl (yF rfl) (Ly rfl (yF rfl) (Ls_nil (Th_n (?_))))))))
    exact hout2 _ [(1, _), (61, _)] _ ⟨rfl, rfl, trivial⟩ ⟨by unfold ocheckE_c2; rewrite [iN hc7, iP hc12, iP hc13]; rfl, (st.pk [0, 1] (by decide)).pickK [0], hF⟩
  refine rg (Ly rfl (yf rfl Ty.fo_59_3) (Ly rfl (ym 0 Ty.ag_43 st rfl) (La rfl (Scl st hF rfl (bnotTag_ok _ e.tag) fun w12 st hF => Lm rfl (bB (s := 20) rfl (fun hc14 => ?_) (fun hc14 => ?_))))))
  · refine LsF rfl (LsF rfl (LsF rfl (Ly rfl (yT rfl) (Ls_nil (Th_n (?_))))))
    exact hout1 _ [(1, _), (24, _)] _ ⟨rfl, rfl, trivial⟩ ⟨by unfold ocheckE_c1; rewrite [iP hc14]; rfl, (st.pk [0] (by decide)).pickK [0], hF⟩
  refine LyT rfl (yf rfl Ty.fo_59_5) (LyT rfl (yl 0 Ty.pl_30 st rfl) (LaT rfl (Scl st hF rfl (containsTag_ok (keys (hOf st) ++ X) _ st.Lo e.tags A1 C1 (.func (.func 27) #[] #[]) bnotTag_m (st.q 0 rfl) (fun w1 x0 _ => FnV.of (bnotTag_ok w1 x0))) fun w13 st hF => Ly rfl (yF rfl) (Ls_nil (Th_n (?_))))))
  exact hout1 _ [(1, _), (24, _)] _ ⟨rfl, rfl, trivial⟩ ⟨by unfold ocheckE_c1; rewrite [iN hc14]; rfl, (st.pk [0] (by decide)).pickK [0], hF⟩
structure ItemM where
  field : List UInt8
  val : Int
instance : Inhabited ItemM := ⟨⟨default, default⟩⟩
instance : DecidableEq ItemM := fun a b => decidable_of_iff (a.field = b.field ∧ a.val = b.val) (by cases a; cases b; simp)
def itemMC (x : ItemM) : List Value := [sv x.field, .int .i64 x.val]
theorem itemMC_1 (x : ItemM) : ∀ v ∈ itemMC x, v.oneCell' = true := all_one rfl
def mitems1_m (a : ItemM) (b : ItemM) : Int :=
  cmpS_m a.field b.field
theorem mitems1_ok (w : World) (a : ItemM) (b : ItemM) :
    Fn Tryz.prog 104 [.agg (itemMC a).toArray, .agg (itemMC b).toArray] w fun v w' => v = .int .i64 (mitems1_m a b) ∧ Fr [] w w' := by
  refine Fn_of 10 Ty.en_104 Tryz.func104 rfl rfl rfl ?_
  dsimp only [argEnv]
  have st := stn0 (X := []) (w := w) (by simp [Lo])
  have hF := Fr.refl ([]) w
  refine sq fun _ k1 => rg (La rfl (Sbx st hF rfl fun g1 w1 (st : St _ _ [_] _) hF hg1 => La rfl (Sbx st hF rfl fun g2 w2 (st : St _ _ [_, _] _) hF hg2 => Ls' rfl (Ln k1 (sq fun _ k2 => rg (Ly rfl (yf rfl Ty.fo_80_0) (Ly rfl (yl 0 Ty.pl_9 st rfl) (Ly rfl (yf rfl Ty.fo_80_0) (Ly rfl (yl 1 Ty.pl_9 st rfl) (La rfl (Scl st hF rfl (cmpS_ok _ a.field b.field) fun w3 st hF => Ls' rfl (Ln k2 (wR (fR (Res1 rfl rfl) ?_))))))))))))))
  unfold mitems1_m
  exact ⟨rfl, hF⟩
end Go.Proofs.YtdckemiebnfjcaaGreatDoor

/- Walks printed by gen2.py out of our own specifications: what the functions named below do. -/
import Derived.Test.YtdckemiebnfjcaaGreatDoorSc
import Derived.Test.YtdckemiebnfjcaaGreatDoorSw
import Derived.Test.YtdckemiebnfjcaaGreatDoorTy
set_option linter.unusedSimpArgs false
set_option linter.unusedVariables false
set_option maxRecDepth 20000
namespace Go.Proofs.YtdckemiebnfjcaaGreatDoor
open Go.RowKit
structure IdM where
  origin : Int
  seq : Int
instance : Inhabited IdM := ⟨⟨default, default⟩⟩
instance : DecidableEq IdM := fun a b => decidable_of_iff (a.origin = b.origin ∧ a.seq = b.seq) (by cases a; cases b; simp)
def idMC (x : IdM) : List Value := [.int .i64 x.origin, .int .u32 x.seq]
structure TagM where
  id : IdM
  n : Int
instance : Inhabited TagM := ⟨⟨default, default⟩⟩
instance : DecidableEq TagM := fun a b => decidable_of_iff (a.id = b.id ∧ a.n = b.n) (by cases a; cases b; simp)
def tagMC (x : TagM) : List Value := [.int .i64 x.id.origin, .int .u32 x.id.seq, .int .i64 x.n]
theorem tagMC_1 (x : TagM) : ∀ v ∈ tagMC x, v.oneCell' = true := all_one rfl
theorem eqv_43r (a0 : Int) (a1 : Int) (a2 : Int) (b0 : Int) (b1 : Int) (b2 : Int) : eqVals Tryz.prog 8 43 [.int .i64 a0, .int .u32 a1, .int .i64 a2] [.int .i64 b0, .int .u32 b1, .int .i64 b2] = some (((a0 == b0) && ((a1 == b1) && true)) && ((a2 == b2) && true)) := by kernel_rfl
theorem eqv_43 (x y : TagM) : eqVals Tryz.prog 8 43 (tagMC x) (tagMC y) = some (decide (x = y)) := by
  obtain ⟨⟨a0, a1⟩, a2⟩ := x
  obtain ⟨⟨b0, b1⟩, b2⟩ := y
  refine (eqv_43r a0 a1 a2 b0 b1 b2).trans (congrArg some ?_)
  rw [Bool.eq_iff_iff]
  simp
def sameTags_L1 (a : List TagM) (b : List TagM) : Nat → Int → (Bool) ⊕ (Int)
  | 0, s5 => .inr (s5)
  | fuel + 1, s5 =>
    if s5 < (a.length : Int) then
      if ix a s5 = ix b s5 then
        sameTags_L1 a b fuel (s5 + 1)
      else
        .inl false
    else
      .inr (s5)
def sameTags_m (a : List TagM) (b : List TagM) : Bool :=
  if (a.length : Int) = (b.length : Int) then
    match sameTags_L1 a b (((a.length : Int) - (0 : Int)).toNat + 1) (0 : Int) with
    | .inl r => r
    | .inr (s5) =>
      true
  else
    false
theorem sameTags_ok (X : List Nat) (w : World) (hX : Lo X w) (a : List TagM) (A_a : Option Addr) (c_a : Nat) (b : List TagM) (A_b : Option Addr) (c_b : Nat) (h_a : Sld X w A_a a.length c_a 3 (a.flatMap tagMC)) (h_b : Sld X w A_b b.length c_b 3 (b.flatMap tagMC)) :
    Fn Tryz.prog 38 [.slice A_a a.length c_a, .slice A_b b.length c_b] w fun v w' => v = .bool (sameTags_m a b) ∧ Fr [] w w' := by
  refine Fn_of 26 Ty.en_38 Tryz.func38 rfl rfl rfl ?_
  dsimp only [argEnv]
  have st := stn2 hX h_a h_b
  have hF := Fr.refl ([]) w
  have z1 := (st.q 0 rfl).le
  have z2 := (st.q 1 rfl).le
  refine sq fun _ k1 => rg (Ls' rfl (Ln k1 (sq fun _ k2 => sq fun _ k3 => rg (Lm rfl (Ly rfl (yll rfl Tryz.underlying30) (Lm rfl (Ly rfl (yll rfl Tryz.underlying30) (Ly rfl (yne rfl) (Ln k3 (cN rfl (fun hc1 => ?_) (fun hc1 => ?_)))))))))))
  · refine sq fun _ k4 => rg (Ls' rfl (Ln k4 (wR (Th_r (fR (Res1 rfl rfl) ?_)))))
    unfold sameTags_m; rewrite [iN hc1]
    exact ⟨rfl, hF⟩
  refine sk k2 (sq fun _ k5 => sq fun _ k6 => rg (Ls' rfl (Ln k6 (Wp_block (lp (fun q E W => ∃ (s5 : Int), E = [(0, .slice A_a a.length c_a), (1, .slice A_b b.length c_b), (5, .int .i64 s5)] ∧ jq q (fun m => (sameTags_L1 a b m s5 = sameTags_L1 a b (((a.length : Int) - (0 : Int)).toNat + 1) (0 : Int) ∧ ((a.length : Int) - s5).toNat < m)) (sameTags_L1 a b (((a.length : Int) - (0 : Int)).toNat + 1) (0 : Int) = .inr (s5)) ∧ (0 ≤ s5) ∧ St X W [] [kS A_a a.length c_a 3 (a.flatMap tagMC), kS A_b b.length c_b 3 (b.flatMap tagMC)] ∧ Fr ([]) w W) (((a.length : Int) - (0 : Int)).toNat + 1) [(0, _), (1, _), (5, _)] ⟨rfl, rfl, rfl, trivial⟩ ⟨_, rfl, ⟨rfl, Nat.lt_succ_self _⟩, by first | omega | (simp; done) | (simp; omega), st, hF⟩ k5 ?_ fun hout1 => ?_)))))
  · rintro E w1 ⟨s5, rfl, hLk1, hinv, st, hF⟩
    unfold jq at hLk1; dsimp only at hLk1
    refine sq fun _ k7 => rg (Ls' rfl (Ln k7 (wR (fR (Res1 rfl rfl) ?_))))
    unfold sameTags_m; rewrite [iP hc1, hLk1]; (try dsimp only)
    exact ⟨rfl, hF⟩
  rintro m E w2 ⟨s5, rfl, ⟨hL1, hmu⟩, hinv, st, hF⟩
  obtain ⟨fuel, rfl⟩ : ∃ q, m = q + 1 := ⟨m - 1, by omega⟩
  refine sq fun _ k8 => sq fun _ k9 => rg (Lm rfl (Lm rfl (Ly rfl (yll rfl Tryz.underlying30) (Ly rfl (ylt rfl) (Ln k9 (cD rfl (fun hc2 => ?_) (fun hc2 => ?_)))))))
  · refine sk k8 (sq fun _ k10 => Wp_block (sq fun _ k11 => ?_))
    refine Wp_plan (fun W => St X W (pickL (hOf st) []) (kOf st)) [(true, 0), (true, 1), (true, 2), (true, 3), (true, 4), (true, 5), (true, 6), (true, 7), (true, 8)] Ty.mx_0 (by kernel_rfl) (by kernel_rfl) rfl ((st.pk [] (by decide)).drew) ?_
    have st := st.drew
    have hF := hF.step0 (Fr.drew _)
    refine Pm rfl (Pm rfl ?_)
    obtain ⟨gi1, bi1, egi1⟩ := (st.k (i := 0) rfl).addr (fun _ => rfl) (by decide) (q := s5) (by first | omega | (simp; done) | (simp; omega)) (by first | omega | (simp; done) | (simp; omega))
    subst egi1
    refine Py rfl (y_ixa (q := s5) rfl rfl rfl Ty.es_30 (by first | omega | (simp; done) | (simp; omega)) (by first | omega | (simp; done) | (simp; omega))) ?_
    refine Py rfl (y_ldk (q := s5) rfl rfl Ty.ag_43 (fun _ h => h.k (i := 0) rfl) (fun _ => rfl) (by first | omega | (simp; done) | (simp; omega)) (by first | omega | (simp; done) | (simp; omega))) ?_
    refine Pm rfl (Pm rfl ?_)
    obtain ⟨gi2, bi2, egi2⟩ := (st.k (i := 1) rfl).addr (fun _ => rfl) (by decide) (q := s5) (by first | omega | (simp; done) | (simp; omega)) (by first | omega | (simp; done) | (simp; omega))
    subst egi2
    refine Py rfl (y_ixa (q := s5) rfl rfl rfl Ty.es_30 (by first | omega | (simp; done) | (simp; omega)) (by first | omega | (simp; done) | (simp; omega))) ?_
    refine Py rfl (y_ldk (q := s5) rfl rfl Ty.ag_43 (fun _ h => h.k (i := 1) rfl) (fun _ => rfl) (by first | omega | (simp; done) | (simp; omega)) (by first | omega | (simp; done) | (simp; omega))) ?_
    refine Py rfl (y_nev (b := decide (ix a s5 = ix b s5)) rfl rfl rfl Ty.eg_43 (by rw [Ty.ag_43]; simp) (eqv_43 (ix a s5) (ix b s5))) ?_
    refine Pl_nil (Th_n (k11 _ _ (cDn rfl (fun hc3 => ?_) (fun hc3 => ?_))))
    · refine sq fun _ k12 => rg (Ls' rfl (Ln k12 (wR (Ib_r (Th_r (Th_r (Ib_r (Th_r (fR (Res1 rfl rfl) ?_)))))))))
      have hret1 : sameTags_L1 a b (((a.length : Int) - (0 : Int)).toNat + 1) (0 : Int) = .inl false := by rewrite [← hL1, sameTags_L1]; rewrite [iP hc2, iN hc3]; rfl
      have he3 : sameTags_m a b = false := by unfold sameTags_m; rewrite [iP hc1, hret1]; (try dsimp only); all_goals rfl
      rewrite [he3]
      exact ⟨rfl, hF⟩
    refine Wp_skip (Ib_n (Th_n (k10 _ _ (rg (Lm rfl (Ly rfl (y_add (c := s5 + 1) rfl rfl rfl (wf_i64 (by first | omega | (simp; done) | (simp; omega)))) ?_))))))
    refine Ls' rfl (Ls_nil (Th_n (?_)))
    exact ⟨fuel, [(0, _), (1, _), (5, _)], Nat.lt_succ_self _, ⟨rfl, rfl, rfl, trivial⟩, (s5 + 1), rfl, ⟨by rewrite [← hL1, sameTags_L1]; rewrite [iP hc2, iP hc3]; rfl, by first | omega | (simp; done) | (simp; omega)⟩, by first | omega | (simp; done) | (simp; omega), (st.pk [] (by decide)).pickK [0, 1], hF⟩
  refine Wp_exit (Th_e (Th_e (Ib_hit (Th_n (?_)))))
  exact hout1 _ [(0, _), (1, _), (5, _)] _ ⟨rfl, rfl, rfl, trivial⟩ ⟨s5, rfl, show _ = _ from by rewrite [← hL1, sameTags_L1]; rewrite [iN hc2]; rfl, by first | omega | (simp; done) | (simp; omega), (st.pk [] (by decide)).pickK [0, 1], hF⟩
structure StampM where
  time : Int
  origin : Int
instance : Inhabited StampM := ⟨⟨default, default⟩⟩
instance : DecidableEq StampM := fun a b => decidable_of_iff (a.time = b.time ∧ a.origin = b.origin) (by cases a; cases b; simp)
def stampMC (x : StampM) : List Value := [.int .u32 x.time, .int .i64 x.origin]
structure EffectM where
  act : Int
  name : List UInt8
  val : Int
  tag : TagM
  atF : StampM
  tags : List TagM
instance : Inhabited EffectM := ⟨⟨default, default, default, default, default, default⟩⟩
instance : DecidableEq EffectM := fun a b => decidable_of_iff (a.act = b.act ∧ a.name = b.name ∧ a.val = b.val ∧ a.tag = b.tag ∧ a.atF = b.atF ∧ a.tags = b.tags) (by cases a; cases b; simp)
theorem eqv_24r (a0 : Int) (a1 : Int) (b0 : Int) (b1 : Int) : eqVals Tryz.prog 8 24 [.int .u32 a0, .int .i64 a1] [.int .u32 b0, .int .i64 b1] = some ((a0 == b0) && ((a1 == b1) && true)) := by kernel_rfl
theorem eqv_24 (x y : StampM) : eqVals Tryz.prog 8 24 (stampMC x) (stampMC y) = some (decide (x = y)) := by
  obtain ⟨a0, a1⟩ := x
  obtain ⟨b0, b1⟩ := y
  refine (eqv_24r a0 a1 b0 b1).trans (congrArg some ?_)
  rw [Bool.eq_iff_iff]
  simp
def sameEffect_m (a : EffectM) (b : EffectM) : Bool :=
  if a.act = b.act then
    if a.name = b.name then
      if a.val = b.val then
        if a.tag = b.tag then
          if a.atF = b.atF then
            sameTags_m a.tags b.tags
          else
            false
        else
          false
      else
        false
    else
      false
  else
    false
theorem sameEffect_ok (X : List Nat) (w : World) (hX : Lo X w) (a : EffectM) (A1 : Option Addr) (C1 : Nat) (b : EffectM) (A2 : Option Addr) (C2 : Nat) (z3 : Sld X w A1 a.tags.length C1 3 (a.tags.flatMap tagMC)) (z4 : Sld X w A2 b.tags.length C2 3 (b.tags.flatMap tagMC)) :
    Fn Tryz.prog 11 [.agg #[.int .i64 a.act, sv a.name, .int .i64 a.val, .int .i64 a.tag.id.origin, .int .u32 a.tag.id.seq, .int .i64 a.tag.n, .int .u32 a.atF.time, .int .i64 a.atF.origin, .slice A1 a.tags.length C1], .agg #[.int .i64 b.act, sv b.name, .int .i64 b.val, .int .i64 b.tag.id.origin, .int .u32 b.tag.id.seq, .int .i64 b.tag.n, .int .u32 b.atF.time, .int .i64 b.atF.origin, .slice A2 b.tags.length C2]] w fun v w' => v = .bool (sameEffect_m a b) ∧ Fr [] w w' := by
  refine Fn_of 45 Ty.en_11 Tryz.func11 rfl rfl rfl ?_
  dsimp only [argEnv]
  have st := stn2 hX z3 z4
  have hF := Fr.refl ([]) w
  have z1 := (st.q 0 rfl).le
  have z2 := (st.q 1 rfl).le
  refine sq fun _ k1 => rg (La rfl (Sbx st hF rfl fun g1 w1 (st : St _ _ [_] _) hF hg1 => La rfl (Sbx st hF rfl fun g2 w2 (st : St _ _ [_, _] _) hF hg2 => Ls' rfl (Ln k1 (sq fun _ k2 => rg (Ly rfl (yf rfl Ty.fo_47_0) (Ly rfl (yl 0 Ty.pl_3 st rfl) (Ly rfl (yf rfl Ty.fo_47_0) (Ly rfl (yl 1 Ty.pl_3 st rfl) (Ly rfl (yeq rfl) (Lm rfl (bE (s := 10) rfl (fun hc1 => ?_) (fun hc1 => ?_)))))))))))))
  · refine LyT rfl (yf rfl Ty.fo_47_1) (LyT rfl (yl 0 Ty.pl_9 st rfl) (LyT rfl (yf rfl Ty.fo_47_1) (LyT rfl (yl 1 Ty.pl_9 st rfl) (LyT rfl (y_eqs rfl rfl rfl) (Ly rfl (yT rfl) (Lm rfl (bE (s := 17) rfl (fun hc2 => ?_) (fun hc2 => ?_))))))))
    · refine LyT rfl (yf rfl Ty.fo_47_2) (LyT rfl (yl 0 Ty.pl_2 st rfl) (LyT rfl (yf rfl Ty.fo_47_2) (LyT rfl (yl 1 Ty.pl_2 st rfl) (LyT rfl (yeq rfl) (Ly rfl (yT rfl) (Lm rfl (bE (s := 24) rfl (fun hc3 => ?_) (fun hc3 => ?_))))))))
      · refine LyT rfl (yf rfl Ty.fo_47_3) (LyT rfl (ym 0 Ty.ag_43 st rfl) (LyT rfl (yf rfl Ty.fo_47_3) (LyT rfl (ym 1 Ty.ag_43 st rfl) (LyT rfl (y_eqv (b := decide (a.tag = b.tag)) rfl rfl rfl Ty.eg_43 (by rw [Ty.ag_43]; simp) (eqv_43 a.tag b.tag)) ?_))))
        refine Ly rfl (yT rfl) (Lm rfl (bD (s := 31) rfl (fun hc4 => ?_) (fun hc4 => ?_)))
        · refine LyT rfl (yf rfl Ty.fo_47_4) (LyT rfl (ym 0 Ty.ag_24 st rfl) (LyT rfl (yf rfl Ty.fo_47_4) (LyT rfl (ym 1 Ty.ag_24 st rfl) (LyT rfl (y_eqv (b := decide (a.atF = b.atF)) rfl rfl rfl Ty.eg_24 (by rw [Ty.ag_24]; simp) (eqv_24 a.atF b.atF)) ?_))))
          refine Ly rfl (yT rfl) (Lm rfl (bD (s := 38) rfl (fun hc5 => ?_) (fun hc5 => ?_)))
          · refine LyT rfl (yf rfl Ty.fo_47_5) (LyT rfl (yl 0 Ty.pl_30 st rfl) (LyT rfl (yf rfl Ty.fo_47_5) (LyT rfl (yl 1 Ty.pl_30 st rfl) (LaT rfl (Scl st hF rfl (sameTags_ok (keys (hOf st) ++ X) _ st.Lo a.tags A1 C1 b.tags A2 C2 (st.q 0 rfl) (st.q 1 rfl)) fun w3 st hF => Ly rfl (yT rfl) (Ls' rfl (Ln k2 (wR (fR (Res1 rfl rfl) ?_)))))))))
            unfold sameEffect_m; rewrite [iP hc1, iP hc2, iP hc3, iP hc4, iP hc5]
            exact ⟨rfl, hF⟩
          refine LsF rfl (LsF rfl (LsF rfl (LsF rfl (LsF rfl (Ly rfl (yF rfl) (Ls' rfl (Ln k2 (wR (fR (Res1 rfl rfl) ?_)))))))))
          unfold sameEffect_m; rewrite [iP hc1, iP hc2, iP hc3, iP hc4, iN hc5]
          exact ⟨rfl, hF⟩
        refine LsF rfl (LsF rfl (LsF rfl (LsF rfl (LsF rfl (Ly rfl (yF rfl) (Lm rfl (LsF rfl (LsF rfl (LsF rfl (LsF rfl (LsF rfl (Ly rfl (yF rfl) (Ls' rfl (Ln k2 (wR (fR (Res1 rfl rfl) ?_))))))))))))))))
        unfold sameEffect_m; rewrite [iP hc1, iP hc2, iP hc3, iN hc4]
        exact ⟨rfl, hF⟩
      refine LsF rfl (LsF rfl (LsF rfl (LsF rfl (LsF rfl (Ly rfl (yF rfl) (Lm rfl (LsF rfl (LsF rfl (LsF rfl (LsF rfl (LsF rfl (Ly rfl (yF rfl) (Lm rfl (LsF rfl (LsF rfl (LsF rfl (LsF rfl (LsF rfl (Ly rfl (yF rfl) (Ls' rfl (Ln k2 (wR (fR (Res1 rfl rfl) ?_)))))))))))))))))))))))
      unfold sameEffect_m; rewrite [iP hc1, iP hc2, iN hc3]
      exact ⟨rfl, hF⟩
    refine LsF rfl (LsF rfl (LsF rfl (LsF rfl (LsF rfl (Ly rfl (yF rfl) (Lm rfl (LsF rfl (LsF rfl (LsF rfl (LsF rfl (LsF rfl (Ly rfl (yF rfl) (Lm rfl (LsF rfl (LsF rfl (LsF rfl (LsF rfl (LsF rfl (Ly rfl (yF rfl) (Lm rfl (LsF rfl (LsF rfl (LsF rfl (LsF rfl (LsF rfl (Ly rfl (yF rfl) (Ls' rfl (Ln k2 (wR (fR (Res1 rfl rfl) ?_))))))))))))))))))))))))))))))
    unfold sameEffect_m; rewrite [iP hc1, iN hc2]
    exact ⟨rfl, hF⟩
  refine LsF rfl (LsF rfl (LsF rfl (LsF rfl (LsF rfl (Ly rfl (yF rfl) (Lm rfl (LsF rfl (LsF rfl (LsF rfl (LsF rfl (LsF rfl (Ly rfl (yF rfl) (Lm rfl (LsF rfl (LsF rfl (LsF rfl (LsF rfl (LsF rfl (Ly rfl (yF rfl) (Lm rfl (LsF rfl (LsF rfl (LsF rfl (LsF rfl (LsF rfl (Ly rfl (yF rfl) (Lm rfl (LsF rfl (LsF rfl (LsF rfl (LsF rfl (LsF rfl (Ly rfl (yF rfl) (Ls' rfl (Ln k2 (wR (fR (Res1 rfl rfl) ?_)))))))))))))))))))))))))))))))))))))
  unfold sameEffect_m; rewrite [iN hc1]
  exact ⟨rfl, hF⟩
def nanI_m (x : Int) : Bool :=
  x != x
theorem nanI_ok (w : World) (x : Int) :
    Fn Tryz.prog 143 [.int .i64 x] w fun v w' => v = .bool (nanI_m x) ∧ Fr [] w w' := by
  refine Fn_of 6 Ty.en_143 Tryz.func143 rfl rfl rfl ?_
  dsimp only [argEnv]
  have st := stn0 (X := []) (w := w) (by simp [Lo])
  have hF := Fr.refl ([]) w
  refine sq fun _ k1 => rg (Ls' rfl (Ln k1 (sq fun _ k2 => rg (Lm rfl (Lm rfl (Ly rfl (yne rfl) (Ls' rfl (Ln k2 (wR (fR (Res1 rfl rfl) ?_))))))))))
  unfold nanI_m
  exact ⟨rfl, hF⟩
def nanU_m (x : Int) : Bool :=
  x != x
theorem nanU_ok (w : World) (x : Int) :
    Fn Tryz.prog 178 [.int .u32 x] w fun v w' => v = .bool (nanU_m x) ∧ Fr [] w w' := by
  refine Fn_of 6 Ty.en_178 Tryz.func178 rfl rfl rfl ?_
  dsimp only [argEnv]
  have st := stn0 (X := []) (w := w) (by simp [Lo])
  have hF := Fr.refl ([]) w
  refine sq fun _ k1 => rg (Ls' rfl (Ln k1 (sq fun _ k2 => rg (Lm rfl (Lm rfl (Ly rfl (yne rfl) (Ls' rfl (Ln k2 (wR (fR (Res1 rfl rfl) ?_))))))))))
  unfold nanU_m
  exact ⟨rfl, hF⟩
def cmpI_m (x : Int) (y : Int) : Int :=
  if (nanI_m x) = true then
    if (nanI_m y) = true then
      0
    else
      (-1)
  else
    if (nanI_m y) = true then
      1
    else
      if x < y then
        (-1)
      else
        if y < x then
          1
        else
          0
theorem cmpI_ok (w : World) (x : Int) (y : Int) :
    Fn Tryz.prog 120 [.int .i64 x, .int .i64 y] w fun v w' => v = .int .i64 (cmpI_m x y) ∧ Fr [] w w' := by
  refine Fn_of 20 Ty.en_120 Tryz.func120 rfl rfl rfl ?_
  dsimp only [argEnv]
  have st := stn0 (X := []) (w := w) (by simp [Lo])
  have hF := Fr.refl ([]) w
  refine sq fun _ k1 => rg (Ls' rfl (Ln k1 (sq fun _ k2 => rg (Lm rfl (La rfl (Scl st hF rfl (nanI_ok _ x) fun w1 st hF => Ls' rfl (Ln k2 (sq fun _ k3 => rg (Lm rfl (La rfl (Scl st hF rfl (nanI_ok _ y) fun w2 st hF => Ls' rfl (Ln k3 (sq fun _ k4 => sq fun _ k5 => rg (Lm rfl (Ln k5 (cB rfl (fun hc1 => ?_) (fun hc1 => ?_)))))))))))))))))
  · refine sq fun _ k6 => sq fun _ k7 => rg (Lm rfl (Ln k7 (cB rfl (fun hc2 => ?_) (fun hc2 => ?_))))
    · refine sq fun _ k8 => rg (Ls' rfl (Ln k8 (wR (Th_r (Th_r (fR (Res1 rfl rfl) ?_))))))
      unfold cmpI_m; rewrite [iP hc1, iP hc2]
      exact ⟨rfl, hF⟩
    refine sk k6 (sq fun _ k9 => rg (Ls' rfl (Ln k9 (wR (Th_r (fR (Res1 rfl rfl) ?_))))))
    unfold cmpI_m; rewrite [iP hc1, iN hc2]
    exact ⟨rfl, hF⟩
  refine sk k4 (sq fun _ k10 => sq fun _ k11 => rg (Lm rfl (Ln k11 (cB rfl (fun hc3 => ?_) (fun hc3 => ?_)))))
  · refine sq fun _ k12 => rg (Ls' rfl (Ln k12 (wR (Th_r (fR (Res1 rfl rfl) ?_)))))
    unfold cmpI_m; rewrite [iN hc1, iP hc3]
    exact ⟨rfl, hF⟩
  refine sk k10 (sq fun _ k13 => sq fun _ k14 => rg (Lm rfl (Lm rfl (Ly rfl (ylt rfl) (Ln k14 (cD rfl (fun hc4 => ?_) (fun hc4 => ?_)))))))
  · refine sq fun _ k15 => rg (Ls' rfl (Ln k15 (wR (Th_r (fR (Res1 rfl rfl) ?_)))))
    unfold cmpI_m; rewrite [iN hc1, iN hc3, iP hc4]
    exact ⟨rfl, hF⟩
  refine sk k13 (sq fun _ k16 => sq fun _ k17 => rg (Lm rfl (Lm rfl (Ly rfl (ygt rfl) (Ln k17 (cD rfl (fun hc5 => ?_) (fun hc5 => ?_)))))))
  · refine sq fun _ k18 => rg (Ls' rfl (Ln k18 (wR (Th_r (fR (Res1 rfl rfl) ?_)))))
    unfold cmpI_m; rewrite [iN hc1, iN hc3, iN hc4, iP hc5]
    exact ⟨rfl, hF⟩
  refine sk k16 (sq fun _ k19 => rg (Ls' rfl (Ln k19 (wR (fR (Res1 rfl rfl) ?_)))))
  unfold cmpI_m; rewrite [iN hc1, iN hc3, iN hc4, iN hc5]
  exact ⟨rfl, hF⟩
def cmpU_m (x : Int) (y : Int) : Int :=
  if (nanU_m x) = true then
    if (nanU_m y) = true then
      0
    else
      (-1)
  else
    if (nanU_m y) = true then
      1
    else
      if x < y then
        (-1)
      else
        if y < x then
          1
        else
          0
theorem cmpU_ok (w : World) (x : Int) (y : Int) :
    Fn Tryz.prog 142 [.int .u32 x, .int .u32 y] w fun v w' => v = .int .i64 (cmpU_m x y) ∧ Fr [] w w' := by
  refine Fn_of 20 Ty.en_142 Tryz.func142 rfl rfl rfl ?_
  dsimp only [argEnv]
  have st := stn0 (X := []) (w := w) (by simp [Lo])
  have hF := Fr.refl ([]) w
  refine sq fun _ k1 => rg (Ls' rfl (Ln k1 (sq fun _ k2 => rg (Lm rfl (La rfl (Scl st hF rfl (nanU_ok _ x) fun w1 st hF => Ls' rfl (Ln k2 (sq fun _ k3 => rg (Lm rfl (La rfl (Scl st hF rfl (nanU_ok _ y) fun w2 st hF => Ls' rfl (Ln k3 (sq fun _ k4 => sq fun _ k5 => rg (Lm rfl (Ln k5 (cB rfl (fun hc1 => ?_) (fun hc1 => ?_)))))))))))))))))
  · refine sq fun _ k6 => sq fun _ k7 => rg (Lm rfl (Ln k7 (cB rfl (fun hc2 => ?_) (fun hc2 => ?_))))
    · refine sq fun _ k8 => rg (Ls' rfl (Ln k8 (wR (Th_r (Th_r (fR (Res1 rfl rfl) ?_))))))
      unfold cmpU_m; rewrite [iP hc1, iP hc2]
      exact ⟨rfl, hF⟩
    refine sk k6 (sq fun _ k9 => rg (Ls' rfl (Ln k9 (wR (Th_r (fR (Res1 rfl rfl) ?_))))))
    unfold cmpU_m; rewrite [iP hc1, iN hc2]
    exact ⟨rfl, hF⟩
  refine sk k4 (sq fun _ k10 => sq fun _ k11 => rg (Lm rfl (Ln k11 (cB rfl (fun hc3 => ?_) (fun hc3 => ?_)))))
  · refine sq fun _ k12 => rg (Ls' rfl (Ln k12 (wR (Th_r (fR (Res1 rfl rfl) ?_)))))
    unfold cmpU_m; rewrite [iN hc1, iP hc3]
    exact ⟨rfl, hF⟩
  refine sk k10 (sq fun _ k13 => sq fun _ k14 => rg (Lm rfl (Lm rfl (Ly rfl (ylt rfl) (Ln k14 (cD rfl (fun hc4 => ?_) (fun hc4 => ?_)))))))
  · refine sq fun _ k15 => rg (Ls' rfl (Ln k15 (wR (Th_r (fR (Res1 rfl rfl) ?_)))))
    unfold cmpU_m; rewrite [iN hc1, iN hc3, iP hc4]
    exact ⟨rfl, hF⟩
  refine sk k13 (sq fun _ k16 => sq fun _ k17 => rg (Lm rfl (Lm rfl (Ly rfl (ygt rfl) (Ln k17 (cD rfl (fun hc5 => ?_) (fun hc5 => ?_)))))))
  · refine sq fun _ k18 => rg (Ls' rfl (Ln k18 (wR (Th_r (fR (Res1 rfl rfl) ?_)))))
    unfold cmpU_m; rewrite [iN hc1, iN hc3, iN hc4, iP hc5]
    exact ⟨rfl, hF⟩
  refine sk k16 (sq fun _ k19 => rg (Ls' rfl (Ln k19 (wR (fR (Res1 rfl rfl) ?_)))))
  unfold cmpU_m; rewrite [iN hc1, iN hc3, iN hc4, iN hc5]
  exact ⟨rfl, hF⟩
def cmpOr_L1 (l : List Int) : Nat → Int → (Int) ⊕ (Int)
  | 0, s8 => .inr (s8)
  | fuel + 1, s8 =>
    if s8 < (l.length : Int) then
      if (ix l s8) = 0 then
        cmpOr_L1 l fuel (s8 + 1)
      else
        .inl (ix l s8)
    else
      .inr (s8)
def cmpOr_m (l : List Int) : Int :=
  match cmpOr_L1 l (((l.length : Int) - (0 : Int)).toNat + 1) (0 : Int) with
  | .inl r => r
  | .inr (s8) =>
    0
theorem cmpOr_ok (X : List Nat) (w : World) (hX : Lo X w) (l : List Int) (A_l : Option Addr) (c_l : Nat) (h_l : Sld X w A_l l.length c_l 1 (l.flatMap (fun x => [Value.int .i64 x]))) :
    Fn Tryz.prog 118 [.slice A_l l.length c_l] w fun v w' => v = .int .i64 (cmpOr_m l) ∧ Fr [] w w' := by
  refine Fn_of 18 Ty.en_118 Tryz.func118 rfl rfl rfl ?_
  dsimp only [argEnv]
  have st := stn1 hX h_l
  have hF := Fr.refl ([]) w
  have z1 := (st.q 0 rfl).le
  refine sq fun _ k1 => rg (Ls' rfl (Ln k1 (sq fun _ k2 => rg (Ls' rfl (Ln k2 (sq fun _ k3 => sq fun _ k4 => rg (Lm rfl (Ly rfl (yll rfl Tryz.underlying229) (Lm rfl (Ln k4 (Wp_block (lp (fun q E W => ∃ (s8 : Int), E = [(3, .int .i64 0), (6, .slice A_l l.length c_l), (7, .int .i64 (l.length : Int)), (8, .int .i64 s8)] ∧ jq q (fun m => (cmpOr_L1 l m s8 = cmpOr_L1 l (((l.length : Int) - (0 : Int)).toNat + 1) (0 : Int) ∧ ((l.length : Int) - s8).toNat < m)) (cmpOr_L1 l (((l.length : Int) - (0 : Int)).toNat + 1) (0 : Int) = .inr (s8)) ∧ (0 ≤ s8) ∧ St X W [] [kS A_l l.length c_l 1 (l.flatMap (fun x => [Value.int .i64 x]))] ∧ Fr ([]) w W) (((l.length : Int) - (0 : Int)).toNat + 1) [(3, _), (6, _), (7, _), (8, _)] ⟨rfl, rfl, rfl, rfl, trivial⟩ ⟨_, rfl, ⟨rfl, Nat.lt_succ_self _⟩, by first | omega | (simp; done) | (simp; omega), st, hF⟩ k3 ?_ fun hout1 => ?_))))))))))))
  · rintro E w1 ⟨s8, rfl, hLk1, hinv, st, hF⟩
    unfold jq at hLk1; dsimp only at hLk1
    refine sq fun _ k5 => rg (Lm rfl (Ls' rfl (Ln k5 (wR (fR (Res1 rfl rfl) ?_)))))
    unfold cmpOr_m; rewrite [hLk1]; (try dsimp only)
    exact ⟨rfl, hF⟩
  rintro m E w2 ⟨s8, rfl, ⟨hL1, hmu⟩, hinv, st, hF⟩
  obtain ⟨fuel, rfl⟩ : ∃ q, m = q + 1 := ⟨m - 1, by omega⟩
  refine sq fun _ k6 => rg (Ly rfl (ylt rfl) (Ln k6 (sq fun _ k7 => cD rfl (fun hc1 => ?_) (fun hc1 => ?_))))
  · refine sk k7 (sq fun _ k8 => Wp_block (sq fun _ k9 => rg ?_))
    obtain ⟨gi1, bi1, egi1⟩ := (st.k (i := 0) rfl).addr (fun _ => rfl) (by decide) (q := s8) (by first | omega | (simp; done) | (simp; omega)) (by first | omega | (simp; done) | (simp; omega))
    subst egi1
    refine Ly rfl (y_ixa (q := s8) rfl rfl rfl Ty.es_229 (by first | omega | (simp; done) | (simp; omega)) (by first | omega | (simp; done) | (simp; omega))) ?_
    refine Ly rfl (y_ldk1 (q := s8) 0 rfl rfl Ty.pl_3 (fun _ e => e ▸ st.k (i := 0) rfl) (fun _ => rfl) (by first | omega | (simp; done) | (simp; omega)) (by first | omega | (simp; done) | (simp; omega)) rfl) ?_
    refine Ls' rfl (Ln k9 (sq fun _ k10 => rg (Lm rfl (Lm rfl (Ly rfl (yne rfl) (Ln k10 (cN rfl (fun hc2 => ?_) (fun hc2 => ?_))))))))
    · refine sq fun _ k11 => rg (Lm rfl (Ls' rfl (Ln k11 (wR (Ib_r (Th_r (Th_r (Ib_r (Th_r (fR (Res1 rfl rfl) ?_))))))))))
      have hret1 : cmpOr_L1 l (((l.length : Int) - (0 : Int)).toNat + 1) (0 : Int) = .inl (ix l s8) := by rewrite [← hL1, cmpOr_L1]; rewrite [iP hc1, iN hc2]; rfl
      have he2 : cmpOr_m l = (ix l s8) := by unfold cmpOr_m; rewrite [hret1]; (try dsimp only); all_goals rfl
      rewrite [he2]
      exact ⟨rfl, hF⟩
    refine Wp_skip (Ib_n (Th_n (k8 _ _ (rg (Ly rfl (y_add (c := s8 + 1) rfl rfl rfl (wf_i64 (by first | omega | (simp; done) | (simp; omega)))) ?_)))))
    refine Lm rfl (Ls_nil (Th_n (?_)))
    exact ⟨fuel, [(3, _), (6, _), (7, _), (8, _)], Nat.lt_succ_self _, ⟨rfl, rfl, rfl, rfl, trivial⟩, (s8 + 1), rfl, ⟨by rewrite [← hL1, cmpOr_L1]; rewrite [iP hc1, iP hc2]; rfl, by first | omega | (simp; done) | (simp; omega)⟩, by first | omega | (simp; done) | (simp; omega), (st.pk [] (by decide)).pickK [0], hF⟩
  refine Wp_exit (Th_e (Th_e (Ib_hit (Th_n (?_)))))
  exact hout1 _ [(3, _), (6, _), (7, _), (8, _)] _ ⟨rfl, rfl, rfl, rfl, trivial⟩ ⟨s8, rfl, show _ = _ from by rewrite [← hL1, cmpOr_L1]; rewrite [iN hc1]; rfl, by first | omega | (simp; done) | (simp; omega), (st.pk [] (by decide)).pickK [0], hF⟩
def icheck_c1 (id : IdM) : Bool :=
  (if id.origin < 0 then true else (if 8 ≤ id.origin then true else (if id.seq = 0 then true else decide (1048576 < id.seq))))
def icheck_m (id : IdM) : Int :=
  if (icheck_c1 id) = true then
    2
  else
    0
theorem icheck_c1_iff (id : IdM) : (icheck_c1 id = true) ↔ ((id.origin < 0) ∨ ((8 ≤ id.origin) ∨ ((id.seq = 0) ∨ (1048576 < id.seq)))) := by
  unfold icheck_c1; exact (ci1 (ci1 (ci1 decide_eq_true_iff)))
theorem icheck_ok (w : World) (id : IdM) :
    Fn Tryz.prog 108 [.agg (idMC id).toArray] w fun v w' => v = .int .i64 (icheck_m id) ∧ Fr [] w w' := by
  refine Fn_of 21 Ty.en_108 Tryz.func108 rfl rfl rfl ?_
  dsimp only [argEnv]
  have st := stn0 (X := []) (w := w) (by simp [Lo])
  have hF := Fr.refl ([]) w
  refine sq fun _ k1 => rg (La rfl (Sbx st hF rfl fun g1 w1 (st : St _ _ [_] _) hF hg1 => Ls' rfl (Ln k1 (sq fun _ k2 => sq fun _ k3 => ?_))))
  refine use_out k3 (fun E W => E = [(20, .bool (icheck_c1 id))] ∧ St [] W (hOf st) (kOf st) ∧ Fr ([]) w W) ?_ fun hout1 => ?_
  · rintro E w2 ⟨rfl, st, hF⟩
    have st : St [] w2 [_] [] := st
    refine cB rfl (fun hc1 => ?_) (fun hc1 => ?_)
    · have jhc1 := (icheck_c1_iff id).1 hc1
      refine sq fun _ k4 => rg (Ls' rfl (Ln k4 (wR (Th_r (fR (Res1 rfl rfl) ?_)))))
      unfold icheck_m; rewrite [iP hc1]
      exact ⟨rfl, hF⟩
    have jhc1 := mt (icheck_c1_iff id).2 hc1
    refine sk k2 (sq fun _ k5 => rg (Ls' rfl (Ln k5 (wR (fR (Res1 rfl rfl) ?_)))))
    unfold icheck_m; rewrite [iN hc1]
    exact ⟨rfl, hF⟩
  refine rg (Ly rfl (yf rfl Ty.fo_41_0) (Ly rfl (yl 0 Ty.pl_3 st rfl) (Ly rfl (ylt rfl) (Lm rfl (bD (s := 6) rfl (fun hc2 => ?_) (fun hc2 => ?_))))))
  · refine LsF rfl (LsF rfl (LsF rfl (Ly rfl (yT rfl) (Lm rfl (LsF rfl (LsF rfl (LsF rfl (Ly rfl (yT rfl) (Lm rfl (LsF rfl (LsF rfl (LsF rfl (Ly rfl (yT rfl) (Ls_nil (Th_n (?_))))))))))))))))
    exact hout1 _ [(20, _)] _ ⟨rfl, trivial⟩ ⟨by unfold icheck_c1; rewrite [iP hc2]; rfl, (st.pk [0] (by decide)).pickK [], hF⟩
  refine LyT rfl (yf rfl Ty.fo_41_0) (LyT rfl (yl 0 Ty.pl_3 st rfl) (LyT rfl (yge rfl) (Ly rfl (yF rfl) (Lm rfl (bD (s := 11) rfl (fun hc3 => ?_) (fun hc3 => ?_))))))
  · refine LsF rfl (LsF rfl (LsF rfl (Ly rfl (yT rfl) (Lm rfl (LsF rfl (LsF rfl (LsF rfl (Ly rfl (yT rfl) (Ls_nil (Th_n (?_)))))))))))
    exact hout1 _ [(20, _)] _ ⟨rfl, trivial⟩ ⟨by unfold icheck_c1; rewrite [iN hc2, iP hc3]; rfl, (st.pk [0] (by decide)).pickK [], hF⟩
  refine LyT rfl (yf rfl Ty.fo_41_1) (LyT rfl (yl 0 Ty.pl_22 st rfl) (LyT rfl (yeq rfl) (Ly rfl (yF rfl) (Lm rfl (bE (s := 16) rfl (fun hc4 => ?_) (fun hc4 => ?_))))))
  · refine LsF rfl (LsF rfl (LsF rfl (Ly rfl (yT rfl) (Ls_nil (Th_n (?_))))))
    exact hout1 _ [(20, _)] _ ⟨rfl, trivial⟩ ⟨by unfold icheck_c1; rewrite [iN hc2, iN hc3, iP hc4]; rfl, (st.pk [0] (by decide)).pickK [], hF⟩
  refine LyT rfl (yf rfl Ty.fo_41_1) (LyT rfl (yl 0 Ty.pl_22 st rfl) (LyT rfl (ygt rfl) (Ly rfl (yF rfl) (Ls_nil (Th_n (?_))))))
  exact hout1 _ [(20, _)] _ ⟨rfl, trivial⟩ ⟨by unfold icheck_c1; rewrite [iN hc2, iN hc3, iN hc4]; rfl, (st.pk [0] (by decide)).pickK [], hF⟩
def icheckTag_c1 (t : TagM) : Bool :=
  (if t.n < 0 then true else decide (16 ≤ t.n))
def icheckTag_m (t : TagM) : Int :=
  if (icheckTag_c1 t) = true then
    2
  else
    icheck_m t.id
theorem icheckTag_c1_iff (t : TagM) : (icheckTag_c1 t = true) ↔ ((t.n < 0) ∨ (16 ≤ t.n)) := by
  unfold icheckTag_c1; exact (ci1 decide_eq_true_iff)
theorem icheckTag_ok (w : World) (t : TagM) :
    Fn Tryz.prog 62 [.agg (tagMC t).toArray] w fun v w' => v = .int .i64 (icheckTag_m t) ∧ Fr [] w w' := by
  refine Fn_of 14 Ty.en_62 Tryz.func62 rfl rfl rfl ?_
  dsimp only [argEnv]
  have st := stn0 (X := []) (w := w) (by simp [Lo])
  have hF := Fr.refl ([]) w
  refine sq fun _ k1 => rg (La rfl (Sbx st hF rfl fun g1 w1 (st : St _ _ [_] _) hF hg1 => Ls' rfl (Ln k1 (sq fun _ k2 => sq fun _ k3 => ?_))))
  refine use_out k3 (fun E W => E = [(1, .pointer (some ⟨g1, 0, none⟩)), (10, .bool (icheckTag_c1 t))] ∧ St [] W (hOf st) (kOf st) ∧ Fr ([]) w W) ?_ fun hout1 => ?_
  · rintro E w2 ⟨rfl, st, hF⟩
    have st : St [] w2 [_] [] := st
    refine cB rfl (fun hc1 => ?_) (fun hc1 => ?_)
    · have jhc1 := (icheckTag_c1_iff t).1 hc1
      refine sq fun _ k4 => rg (Ls' rfl (Ln k4 (wR (Th_r (fR (Res1 rfl rfl) ?_)))))
      unfold icheckTag_m; rewrite [iP hc1]
      exact ⟨rfl, hF⟩
    have jhc1 := mt (icheckTag_c1_iff t).2 hc1
    refine sk k2 (sq fun _ k5 => rg (Ly rfl (yf rfl Ty.fo_43_0) (Ly rfl (ym 0 Ty.ag_41 st rfl) (La rfl (Scl st hF rfl (icheck_ok _ t.id) fun w3 st hF => Ls' rfl (Ln k5 (wR (fR (Res1 rfl rfl) ?_))))))))
    unfold icheckTag_m; rewrite [iN hc1]
    exact ⟨rfl, hF⟩
  refine rg (Ly rfl (yf rfl Ty.fo_43_1) (Ly rfl (yl 0 Ty.pl_3 st rfl) (Ly rfl (ylt rfl) (Lm rfl (bD (s := 6) rfl (fun hc2 => ?_) (fun hc2 => ?_))))))
  · refine LsF rfl (LsF rfl (LsF rfl (Ly rfl (yT rfl) (Ls_nil (Th_n (?_))))))
    exact hout1 _ [(1, _), (10, _)] _ ⟨rfl, rfl, trivial⟩ ⟨by unfold icheckTag_c1; rewrite [iP hc2]; rfl, (st.pk [0] (by decide)).pickK [], hF⟩
  refine LyT rfl (yf rfl Ty.fo_43_1) (LyT rfl (yl 0 Ty.pl_3 st rfl) (LyT rfl (yge rfl) (Ly rfl (yF rfl) (Ls_nil (Th_n (?_))))))
  exact hout1 _ [(1, _), (10, _)] _ ⟨rfl, rfl, trivial⟩ ⟨by unfold icheckTag_c1; rewrite [iN hc2]; rfl, (st.pk [0] (by decide)).pickK [], hF⟩
def icompare_m (a : IdM) (b : IdM) : Int :=
  cmpOr_m [cmpI_m a.origin b.origin, cmpU_m a.seq b.seq]
theorem icompare_ok (w : World) (a : IdM) (b : IdM) :
    Fn Tryz.prog 119 [.agg (idMC a).toArray, .agg (idMC b).toArray] w fun v w' => v = .int .i64 (icompare_m a b) ∧ Fr [] w w' := by
  refine Fn_of 17 Ty.en_119 Tryz.func119 rfl rfl rfl ?_
  dsimp only [argEnv]
  have st := stn0 (X := []) (w := w) (by simp [Lo])
  have hF := Fr.refl ([]) w
  refine sq fun _ k1 => rg (La rfl (Sbx st hF rfl fun g1 w1 (st : St _ _ [_] _) hF hg1 => La rfl (Sbx st hF rfl fun g2 w2 (st : St _ _ [_, _] _) hF hg2 => Ls' rfl (Ln k1 (sq fun _ k2 => ?_)))))
  refine Wp_plan (fun W => St [] W (pickL (hOf st) [0, 1]) (kOf st)) [(true, 0), (true, 1), (true, 2), (true, 3), (true, 5), (true, 6), (true, 7), (true, 8), (false, 4), (false, 9), (false, 10), (false, 11), (true, 12)] Ty.mx_0 (by kernel_rfl) (by kernel_rfl) rfl ((st.pk [0, 1] (by decide)).drew) ?_
  have st := st.drew
  have hF := hF.step0 (Fr.drew _)
  refine Py rfl (yf rfl Ty.fo_41_0) (Py rfl (y_load (i := 0) rfl rfl Ty.pl_3 (fun _ h => h.hp) rfl rfl) (Py rfl (yf rfl Ty.fo_41_0) (Py rfl (y_load (i := 1) rfl rfl Ty.pl_3 (fun _ h => h.hp) rfl rfl) (Py rfl (yf rfl Ty.fo_41_1) (Py rfl (y_load (i := 0) rfl rfl Ty.pl_22 (fun _ h => h.hp) rfl rfl) (Py rfl (yf rfl Ty.fo_41_1) (Py rfl (y_load (i := 1) rfl rfl Ty.pl_22 (fun _ h => h.hp) rfl rfl) (Pl_a rfl (wtd0 rfl) (by rfl) ?_))))))))
  refine Scl st hF rfl (cmpI_ok _ a.origin b.origin) fun w3 st hF => ?_
  refine ⟨(st.pk [0, 1] (by decide)).tK 0, ?_⟩
  refine Pl_a rfl (wtd0 rfl) (by rfl) ?_
  refine Scl st hF rfl (cmpU_ok _ a.seq b.seq) fun w4 st hF => ?_
  refine ⟨(st.pk [0, 1] (by decide)).tK 0, ?_⟩
  refine Pl_a rfl (wtd0 rfl) (by rfl) ?_
  refine a_bsl rfl rfl rfl rfl rfl Ty.es_229 Ty.zc_3 rfl (by decide) (by simp [Value.cells]) st.hp (fun g3 w5 (hp : Hp w5 [_, _, _]) hf hg3 => ?_)
  have how1 : Ow (some ⟨g3, 0, none⟩) [cmpI_m a.origin b.origin, cmpU_m a.seq b.seq].length 2 1 ([cmpI_m a.origin b.origin, cmpU_m a.seq b.seq].flatMap (fun x => [Value.int .i64 x])) [] := ⟨rfl, .inr ⟨g3, rfl, rfl, Nat.le_refl _, by unfold maxLen; decide⟩⟩
  have st : St [] w5 [_, _, _] [] := st.push hp hf hg3
  have st : St [] w5 [_, _, _] [] := st
  have hg3 := Nat.le_trans hF.size hg3
  have hF := hF.step0 hf
  have hnew1 := newB (X0 := []) hg3
  refine ⟨(st.pk [0, 1] (by decide)).tK 0, ?_⟩
  refine Pl_a rfl (wtd0 rfl) (by rfl) ?_
  refine Scl st hF rfl (cmpOr_ok (keys (pickL (hOf st) [0, 1]) ++ []) _ (st.sub [0, 1] [] [] (by decide)).lo [cmpI_m a.origin b.origin, cmpU_m a.seq b.seq] (some ⟨g3, 0, none⟩) 2 ((st.freeze (i := 2) [0, 1] (by decide) rfl how1 (by decide)).k (i := 0) rfl)) fun w6 st hF => ?_
  refine ⟨(st.pk [0, 1] (by decide)).tK 0, ?_⟩
  refine Py rfl (y_assign rfl rfl) (Pl_nil (Th_n (k2 _ _ (wR (fR (Res1 rfl rfl) ?_)))))
  unfold icompare_m
  exact ⟨rfl, hF⟩
def icompareTag_m (a : TagM) (b : TagM) : Int :=
  cmpOr_m [icompare_m a.id b.id, cmpI_m a.n b.n]
theorem icompareTag_ok (w : World) (a : TagM) (b : TagM) :
    Fn Tryz.prog 68 [.agg (tagMC a).toArray, .agg (tagMC b).toArray] w fun v w' => v = .int .i64 (icompareTag_m a b) ∧ Fr [] w w' := by
  refine Fn_of 17 Ty.en_68 Tryz.func68 rfl rfl rfl ?_
  dsimp only [argEnv]
  have st := stn0 (X := []) (w := w) (by simp [Lo])
  have hF := Fr.refl ([]) w
  refine sq fun _ k1 => rg (La rfl (Sbx st hF rfl fun g1 w1 (st : St _ _ [_] _) hF hg1 => La rfl (Sbx st hF rfl fun g2 w2 (st : St _ _ [_, _] _) hF hg2 => Ls' rfl (Ln k1 (sq fun _ k2 => ?_)))))
  refine Wp_plan (fun W => St [] W (pickL (hOf st) [0, 1]) (kOf st)) [(true, 0), (true, 1), (true, 2), (true, 3), (true, 5), (true, 6), (true, 7), (true, 8), (false, 4), (false, 9), (false, 10), (false, 11), (true, 12)] Ty.mx_0 (by kernel_rfl) (by kernel_rfl) rfl ((st.pk [0, 1] (by decide)).drew) ?_
  have st := st.drew
  have hF := hF.step0 (Fr.drew _)
  refine Py rfl (yf rfl Ty.fo_43_0) (Py rfl (y_loadm (i := 0) rfl rfl Ty.ag_41 (fun _ h => h.hp) rfl rfl rfl) (Py rfl (yf rfl Ty.fo_43_0) (Py rfl (y_loadm (i := 1) rfl rfl Ty.ag_41 (fun _ h => h.hp) rfl rfl rfl) (Py rfl (yf rfl Ty.fo_43_1) (Py rfl (y_load (i := 0) rfl rfl Ty.pl_3 (fun _ h => h.hp) rfl rfl) (Py rfl (yf rfl Ty.fo_43_1) (Py rfl (y_load (i := 1) rfl rfl Ty.pl_3 (fun _ h => h.hp) rfl rfl) (Pl_a rfl (wtd0 rfl) (by rfl) ?_))))))))
  refine Scl st hF rfl (icompare_ok _ a.id b.id) fun w3 st hF => ?_
  refine ⟨(st.pk [0, 1] (by decide)).tK 0, ?_⟩
  refine Pl_a rfl (wtd0 rfl) (by rfl) ?_
  refine Scl st hF rfl (cmpI_ok _ a.n b.n) fun w4 st hF => ?_
  refine ⟨(st.pk [0, 1] (by decide)).tK 0, ?_⟩
  refine Pl_a rfl (wtd0 rfl) (by rfl) ?_
  refine a_bsl rfl rfl rfl rfl rfl Ty.es_229 Ty.zc_3 rfl (by decide) (by simp [Value.cells]) st.hp (fun g3 w5 (hp : Hp w5 [_, _, _]) hf hg3 => ?_)
  have how1 : Ow (some ⟨g3, 0, none⟩) [icompare_m a.id b.id, cmpI_m a.n b.n].length 2 1 ([icompare_m a.id b.id, cmpI_m a.n b.n].flatMap (fun x => [Value.int .i64 x])) [] := ⟨rfl, .inr ⟨g3, rfl, rfl, Nat.le_refl _, by unfold maxLen; decide⟩⟩
  have st : St [] w5 [_, _, _] [] := st.push hp hf hg3
  have st : St [] w5 [_, _, _] [] := st
  have hg3 := Nat.le_trans hF.size hg3
  have hF := hF.step0 hf
  have hnew1 := newB (X0 := []) hg3
  refine ⟨(st.pk [0, 1] (by decide)).tK 0, ?_⟩
  refine Pl_a rfl (wtd0 rfl) (by rfl) ?_
  refine Scl st hF rfl (cmpOr_ok (keys (pickL (hOf st) [0, 1]) ++ []) _ (st.sub [0, 1] [] [] (by decide)).lo [icompare_m a.id b.id, cmpI_m a.n b.n] (some ⟨g3, 0, none⟩) 2 ((st.freeze (i := 2) [0, 1] (by decide) rfl how1 (by decide)).k (i := 0) rfl)) fun w6 st hF => ?_
  refine ⟨(st.pk [0, 1] (by decide)).tK 0, ?_⟩
  refine Py rfl (y_assign rfl rfl) (Pl_nil (Th_n (k2 _ _ (wR (fR (Res1 rfl rfl) ?_)))))
  unfold icompareTag_m
  exact ⟨rfl, hF⟩
def lthere_m (origin : Int) : Bool :=
  if 0 ≤ origin then
    decide (origin < 8)
  else
    false
theorem lthere_ok (w : World) (origin : Int) :
    Fn Tryz.prog 109 [.int .i64 origin] w fun v w' => v = .bool (lthere_m origin) ∧ Fr [] w w' := by
  refine Fn_of 9 Ty.en_109 Tryz.func109 rfl rfl rfl ?_
  dsimp only [argEnv]
  have st := stn0 (X := []) (w := w) (by simp [Lo])
  have hF := Fr.refl ([]) w
  refine sq fun _ k1 => rg (Ls' rfl (Ln k1 (sq fun _ k2 => rg (Lm rfl (Ly rfl (yge rfl) (Lm rfl (bD (s := 5) rfl (fun hc1 => ?_) (fun hc1 => ?_))))))))
  · refine LyT rfl (y_move rfl rfl) (LyT rfl (ylt rfl) (Ly rfl (yT rfl) (Ls' rfl (Ln k2 (wR (fR (Res1 rfl rfl) ?_))))))
    unfold lthere_m; rewrite [iP hc1]
    exact ⟨rfl, hF⟩
  refine LsF rfl (LsF rfl (Ly rfl (yF rfl) (Ls' rfl (Ln k2 (wR (fR (Res1 rfl rfl) ?_))))))
  unfold lthere_m; rewrite [iN hc1]
  exact ⟨rfl, hF⟩
def lcheck_c1 (s : StampM) : Bool :=
  (if 1048576 < s.time then true else !(lthere_m s.origin))
def lcheck_m (s : StampM) : Int :=
  if (lcheck_c1 s) = true then
    2
  else
    0
theorem lcheck_c1_iff (s : StampM) : (lcheck_c1 s = true) ↔ ((1048576 < s.time) ∨ (¬ ((lthere_m s.origin) = true))) := by
  unfold lcheck_c1; exact (ci1 (by simp))
theorem lcheck_ok (w : World) (s : StampM) :
    Fn Tryz.prog 63 [.agg (stampMC s).toArray] w fun v w' => v = .int .i64 (lcheck_m s) ∧ Fr [] w w' := by
  refine Fn_of 12 Ty.en_63 Tryz.func63 rfl rfl rfl ?_
  dsimp only [argEnv]
  have st := stn0 (X := []) (w := w) (by simp [Lo])
  have hF := Fr.refl ([]) w
  refine sq fun _ k1 => rg (La rfl (Sbx st hF rfl fun g1 w1 (st : St _ _ [_] _) hF hg1 => Ls' rfl (Ln k1 (sq fun _ k2 => sq fun _ k3 => ?_))))
  refine use_out k3 (fun E W => E = [(11, .bool (lcheck_c1 s))] ∧ St [] W (hOf st) (kOf st) ∧ Fr ([]) w W) ?_ fun hout1 => ?_
  · rintro E w2 ⟨rfl, st, hF⟩
    have st : St [] w2 [_] [] := st
    refine cB rfl (fun hc1 => ?_) (fun hc1 => ?_)
    · have jhc1 := (lcheck_c1_iff s).1 hc1
      refine sq fun _ k4 => rg (Ls' rfl (Ln k4 (wR (Th_r (fR (Res1 rfl rfl) ?_)))))
      unfold lcheck_m; rewrite [iP hc1]
      exact ⟨rfl, hF⟩
    have jhc1 := mt (lcheck_c1_iff s).2 hc1
    refine sk k2 (sq fun _ k5 => rg (Ls' rfl (Ln k5 (wR (fR (Res1 rfl rfl) ?_)))))
    unfold lcheck_m; rewrite [iN hc1]
    exact ⟨rfl, hF⟩
  refine rg (Ly rfl (yf rfl Ty.fo_24_0) (Ly rfl (yl 0 Ty.pl_22 st rfl) (Ly rfl (ygt rfl) (Lm rfl (bD (s := 6) rfl (fun hc2 => ?_) (fun hc2 => ?_))))))
  · refine LsF rfl (LsF rfl (LsF rfl (LsF rfl (Ly rfl (yT rfl) (Ls_nil (Th_n (?_)))))))
    exact hout1 _ [(11, _)] _ ⟨rfl, trivial⟩ ⟨by unfold lcheck_c1; rewrite [iP hc2]; rfl, (st.pk [0] (by decide)).pickK [], hF⟩
  refine LyT rfl (yf rfl Ty.fo_24_1) (LyT rfl (yl 0 Ty.pl_3 st rfl) (LaT rfl (Scl st hF rfl (lthere_ok _ s.origin) fun w3 st hF => LyT rfl (yn rfl) (Ly rfl (yF rfl) (Ls_nil (Th_n (?_)))))))
  exact hout1 _ [(11, _)] _ ⟨rfl, trivial⟩ ⟨by unfold lcheck_c1; rewrite [iN hc2]; rfl, (st.pk [0] (by decide)).pickK [], hF⟩
def oelem_m (s : List UInt8) : Bool :=
  if s = [] then
    false
  else
    decide ((s.length : Int) ≤ 12)
theorem oelem_ok (w : World) (s : List UInt8) :
    Fn Tryz.prog 61 [sv s] w fun v w' => v = .bool (oelem_m s) ∧ Fr [] w w' := by
  refine Fn_of 10 Ty.en_61 Tryz.func61 rfl rfl rfl ?_
  dsimp only [argEnv]
  have st := stn0 (X := []) (w := w) (by simp [Lo])
  have hF := Fr.refl ([]) w
  refine sq fun _ k1 => rg (Ls' rfl (Ln k1 (sq fun _ k2 => rg (Lm rfl (Ly rfl (y_nes rfl rfl rfl) (Lm rfl (bN (s := 5) rfl (fun hc1 => ?_) (fun hc1 => ?_))))))))
  · refine LyT rfl (y_move rfl rfl) (LyT rfl (y_lens rfl rfl Tryz.underlying9) (LyT rfl (yle rfl) (Ly rfl (yT rfl) (Ls' rfl (Ln k2 (wR (fR (Res1 rfl rfl) ?_)))))))
    unfold oelem_m; rewrite [iN hc1]
    exact ⟨rfl, hF⟩
  refine LsF rfl (LsF rfl (LsF rfl (Ly rfl (yF rfl) (Ls' rfl (Ln k2 (wR (fR (Res1 rfl rfl) ?_)))))))
  unfold oelem_m; rewrite [iP hc1]
  exact ⟨rfl, hF⟩
def onotTag_m (t : TagM) : Bool :=
  (icheckTag_m t) != 0
theorem onotTag_ok (w : World) (t : TagM) :
    Fn Tryz.prog 81 [.agg (tagMC t).toArray] w fun v w' => v = .bool (onotTag_m t) ∧ Fr [] w w' := by
  refine Fn_of 6 Ty.en_81 Tryz.func81 rfl rfl rfl ?_
  dsimp only [argEnv]
  have st := stn0 (X := []) (w := w) (by simp [Lo])
  have hF := Fr.refl ([]) w
  refine sq fun _ k1 => rg (La rfl (Sbx st hF rfl fun g1 w1 (st : St _ _ [_] _) hF hg1 => Ls' rfl (Ln k1 (sq fun _ k2 => rg (Ly rfl (yw 0 Ty.ag_43 st rfl) (La rfl (Scl st hF rfl (icheckTag_ok _ t) fun w2 st hF => Ly rfl (yne rfl) (Ls' rfl (Ln k2 (wR (fR (Res1 rfl rfl) ?_)))))))))))
  unfold onotTag_m
  exact ⟨rfl, hF⟩
structure AddM where
  tag : TagM
  elem : List UInt8
instance : Inhabited AddM := ⟨⟨default, default⟩⟩
instance : DecidableEq AddM := fun a b => decidable_of_iff (a.tag = b.tag ∧ a.elem = b.elem) (by cases a; cases b; simp)
def addMC (x : AddM) : List Value := [.int .i64 x.tag.id.origin, .int .u32 x.tag.id.seq, .int .i64 x.tag.n, sv x.elem]
theorem addMC_1 (x : AddM) : ∀ v ∈ addMC x, v.oneCell' = true := all_one rfl
def obyTag_m (a : AddM) (t : TagM) : Int :=
  icompareTag_m a.tag t
theorem obyTag_ok (w : World) (a : AddM) (t : TagM) :
    Fn Tryz.prog 83 [.agg (addMC a).toArray, .agg (tagMC t).toArray] w fun v w' => v = .int .i64 (obyTag_m a t) ∧ Fr [] w w' := by
  refine Fn_of 9 Ty.en_83 Tryz.func83 rfl rfl rfl ?_
  dsimp only [argEnv]
  have st := stn0 (X := []) (w := w) (by simp [Lo])
  have hF := Fr.refl ([]) w
  refine sq fun _ k1 => rg (La rfl (Sbx st hF rfl fun g1 w1 (st : St _ _ [_] _) hF hg1 => La rfl (Sbx st hF rfl fun g2 w2 (st : St _ _ [_, _] _) hF hg2 => Ls' rfl (Ln k1 (sq fun _ k2 => rg (Ly rfl (yf rfl Ty.fo_126_0) (Ly rfl (ym 0 Ty.ag_43 st rfl) (Ly rfl (yw 1 Ty.ag_43 st rfl) (La rfl (Scl st hF rfl (icompareTag_ok _ a.tag t) fun w3 st hF => Ls' rfl (Ln k2 (wR (fR (Res1 rfl rfl) ?_)))))))))))))
  unfold obyTag_m
  exact ⟨rfl, hF⟩
def indexF_L1 {α : Type} [Inhabited α] [DecidableEq α] (s : List α) (f : α → Bool) : Nat → Int → (Int) ⊕ (Int)
  | 0, s8 => .inr (s8)
  | fuel + 1, s8 =>
    if s8 < (s.length : Int) then
      if (f (ix s s8)) = true then
        .inl s8
      else
        indexF_L1 s f fuel (s8 + 1)
    else
      .inr (s8)
def indexF_m {α : Type} [Inhabited α] [DecidableEq α] (s : List α) (f : α → Bool) : Int :=
  match indexF_L1 s f (((s.length : Int) - (0 : Int)).toNat + 1) (0 : Int) with
  | .inl r => r
  | .inr (s8) =>
    (-1)
theorem indexAdd_ok (X : List Nat) (w : World) (hX : Lo X w) (s : List AddM) (A_s : Option Addr) (c_s : Nat) (f1 : Value) (f : AddM → Bool) (h_s : Sld X w A_s s.length c_s 4 (s.flatMap addMC)) (z2 : ∀ (w1 : World) (x0 : AddM), Fr ([]) w w1 → FnV Tryz.prog f1 [.agg (addMC x0).toArray] w1 fun v w2 => v = .bool (f x0) ∧ Fr [] w1 w2) :
    Fn Tryz.prog 131 [.slice A_s s.length c_s, f1] w fun v w' => v = .int .i64 (indexF_m s f) ∧ Fr [] w w' := by
  refine Fn_of 19 Ty.en_131 Tryz.func131 rfl rfl rfl ?_
  dsimp only [argEnv]
  have st := stn1 hX h_s
  have hF := Fr.refl ([]) w
  have z1 := (st.q 0 rfl).le
  refine sq fun _ k1 => rg (Ls' rfl (Ln k1 (sq fun _ k2 => sq fun _ k3 => rg (Lm rfl (Ly rfl (yll rfl Tryz.underlying50) (Lm rfl (Ln k3 (Wp_block (lp (fun q E W => ∃ (s8 : Int), E = [(0, .slice A_s s.length c_s), (1, f1), (7, .int .i64 (s.length : Int)), (8, .int .i64 s8)] ∧ jq q (fun m => (indexF_L1 s f m s8 = indexF_L1 s f (((s.length : Int) - (0 : Int)).toNat + 1) (0 : Int) ∧ ((s.length : Int) - s8).toNat < m)) (indexF_L1 s f (((s.length : Int) - (0 : Int)).toNat + 1) (0 : Int) = .inr (s8)) ∧ (0 ≤ s8) ∧ St X W [] [kS A_s s.length c_s 4 (s.flatMap addMC)] ∧ Fr ([]) w W) (((s.length : Int) - (0 : Int)).toNat + 1) [(0, _), (1, _), (7, _), (8, _)] ⟨rfl, rfl, rfl, rfl, trivial⟩ ⟨_, rfl, ⟨rfl, Nat.lt_succ_self _⟩, by first | omega | (simp; done) | (simp; omega), st, hF⟩ k2 ?_ fun hout1 => ?_)))))))))
  · rintro E w1 ⟨s8, rfl, hLk1, hinv, st, hF⟩
    unfold jq at hLk1; dsimp only at hLk1
    refine sq fun _ k4 => rg (Ls' rfl (Ln k4 (wR (fR (Res1 rfl rfl) ?_))))
    unfold indexF_m; rewrite [hLk1]; (try dsimp only)
    exact ⟨rfl, hF⟩
  rintro m E w2 ⟨s8, rfl, ⟨hL1, hmu⟩, hinv, st, hF⟩
  obtain ⟨fuel, rfl⟩ : ∃ q, m = q + 1 := ⟨m - 1, by omega⟩
  refine sq fun _ k5 => rg (Ly rfl (ylt rfl) (Ln k5 (sq fun _ k6 => cD rfl (fun hc1 => ?_) (fun hc1 => ?_))))
  · refine sk k6 (sq fun _ k7 => Wp_block (sq fun _ k8 => rg (Lm rfl (Ls' rfl (Ln k8 (sq fun _ k9 => rg (Lm rfl (Lm rfl (Lm rfl ?_)))))))))
    obtain ⟨gi1, bi1, egi1⟩ := (st.k (i := 0) rfl).addr (fun _ => rfl) (by decide) (q := s8) (by first | omega | (simp; done) | (simp; omega)) (by first | omega | (simp; done) | (simp; omega))
    subst egi1
    refine Ly rfl (y_ixa (q := s8) rfl rfl rfl Ty.es_50 (by first | omega | (simp; done) | (simp; omega)) (by first | omega | (simp; done) | (simp; omega))) ?_
    refine Ly rfl (y_ldk (q := s8) rfl rfl Ty.ag_126 (fun _ e => e ▸ st.k (i := 0) rfl) (fun _ => rfl) (by first | omega | (simp; done) | (simp; omega)) (by first | omega | (simp; done) | (simp; omega))) ?_
    refine La rfl (Scv st hF rfl (z2 _ (ix s s8) hF) fun w3 st hF => Ln k9 (cB rfl (fun hc2 => ?_) (fun hc2 => ?_)))
    · refine sq fun _ k10 => rg (Lm rfl (Ls' rfl (Ln k10 (wR (Ib_r (Th_r (Th_r (Ib_r (Th_r (fR (Res1 rfl rfl) ?_))))))))))
      have hret1 : indexF_L1 s f (((s.length : Int) - (0 : Int)).toNat + 1) (0 : Int) = .inl s8 := by rewrite [← hL1, indexF_L1]; rewrite [iP hc1, iP hc2]; rfl
      have he2 : indexF_m s f = s8 := by unfold indexF_m; rewrite [hret1]; (try dsimp only); all_goals rfl
      rewrite [he2]
      exact ⟨rfl, hF⟩
    refine Wp_skip (Ib_n (Th_n (k7 _ _ (rg (Ly rfl (y_add (c := s8 + 1) rfl rfl rfl (wf_i64 (by first | omega | (simp; done) | (simp; omega)))) ?_)))))
    refine Lm rfl (Ls_nil (Th_n (?_)))
    exact ⟨fuel, [(0, _), (1, _), (7, _), (8, _)], Nat.lt_succ_self _, ⟨rfl, rfl, rfl, rfl, trivial⟩, (s8 + 1), rfl, ⟨by rewrite [← hL1, indexF_L1]; rewrite [iP hc1, iN hc2]; rfl, by first | omega | (simp; done) | (simp; omega)⟩, by first | omega | (simp; done) | (simp; omega), (st.pk [] (by decide)).pickK [0], hF⟩
  refine Wp_exit (Th_e (Th_e (Ib_hit (Th_n (?_)))))
  exact hout1 _ [(0, _), (1, _), (7, _), (8, _)] _ ⟨rfl, rfl, rfl, rfl, trivial⟩ ⟨s8, rfl, show _ = _ from by rewrite [← hL1, indexF_L1]; rewrite [iN hc1]; rfl, by first | omega | (simp; done) | (simp; omega), (st.pk [] (by decide)).pickK [0], hF⟩
def containsF_m {α : Type} [Inhabited α] [DecidableEq α] (s : List α) (f : α → Bool) : Bool :=
  decide (0 ≤ (indexF_m s f))
theorem containsAdd_ok (X : List Nat) (w : World) (hX : Lo X w) (s : List AddM) (A_s : Option Addr) (c_s : Nat) (f1 : Value) (f : AddM → Bool) (h_s : Sld X w A_s s.length c_s 4 (s.flatMap addMC)) (z2 : ∀ (w1 : World) (x0 : AddM), Fr ([]) w w1 → FnV Tryz.prog f1 [.agg (addMC x0).toArray] w1 fun v w2 => v = .bool (f x0) ∧ Fr [] w1 w2) :
    Fn Tryz.prog 110 [.slice A_s s.length c_s, f1] w fun v w' => v = .bool (containsF_m s f) ∧ Fr [] w w' := by
  refine Fn_of 9 Ty.en_110 Tryz.func110 rfl rfl rfl ?_
  dsimp only [argEnv]
  have st := stn1 hX h_s
  have hF := Fr.refl ([]) w
  have z1 := (st.q 0 rfl).le
  refine sq fun _ k1 => rg (Ls' rfl (Ln k1 (sq fun _ k2 => rg (Lm rfl (Lm rfl (La rfl (Scl st hF rfl (indexAdd_ok (keys (hOf st) ++ X) _ st.Lo s A_s c_s f1 f (st.q 0 rfl) (fun w1 x0 hw => z2 w1 x0 (hF.step0 hw))) fun w1 st hF => Ly rfl (yge rfl) (Ls' rfl (Ln k2 (wR (fR (Res1 rfl rfl) ?_)))))))))))
  unfold containsF_m
  exact ⟨rfl, hF⟩
theorem indexTag_ok (X : List Nat) (w : World) (hX : Lo X w) (s : List TagM) (A_s : Option Addr) (c_s : Nat) (f1 : Value) (f : TagM → Bool) (h_s : Sld X w A_s s.length c_s 3 (s.flatMap tagMC)) (z2 : ∀ (w1 : World) (x0 : TagM), Fr ([]) w w1 → FnV Tryz.prog f1 [.agg (tagMC x0).toArray] w1 fun v w2 => v = .bool (f x0) ∧ Fr [] w1 w2) :
    Fn Tryz.prog 117 [.slice A_s s.length c_s, f1] w fun v w' => v = .int .i64 (indexF_m s f) ∧ Fr [] w w' := by
  refine Fn_of 19 Ty.en_117 Tryz.func117 rfl rfl rfl ?_
  dsimp only [argEnv]
  have st := stn1 hX h_s
  have hF := Fr.refl ([]) w
  have z1 := (st.q 0 rfl).le
  refine sq fun _ k1 => rg (Ls' rfl (Ln k1 (sq fun _ k2 => sq fun _ k3 => rg (Lm rfl (Ly rfl (yll rfl Tryz.underlying30) (Lm rfl (Ln k3 (Wp_block (lp (fun q E W => ∃ (s8 : Int), E = [(0, .slice A_s s.length c_s), (1, f1), (7, .int .i64 (s.length : Int)), (8, .int .i64 s8)] ∧ jq q (fun m => (indexF_L1 s f m s8 = indexF_L1 s f (((s.length : Int) - (0 : Int)).toNat + 1) (0 : Int) ∧ ((s.length : Int) - s8).toNat < m)) (indexF_L1 s f (((s.length : Int) - (0 : Int)).toNat + 1) (0 : Int) = .inr (s8)) ∧ (0 ≤ s8) ∧ St X W [] [kS A_s s.length c_s 3 (s.flatMap tagMC)] ∧ Fr ([]) w W) (((s.length : Int) - (0 : Int)).toNat + 1) [(0, _), (1, _), (7, _), (8, _)] ⟨rfl, rfl, rfl, rfl, trivial⟩ ⟨_, rfl, ⟨rfl, Nat.lt_succ_self _⟩, by first | omega | (simp; done) | (simp; omega), st, hF⟩ k2 ?_ fun hout1 => ?_)))))))))
  · rintro E w1 ⟨s8, rfl, hLk1, hinv, st, hF⟩
    unfold jq at hLk1; dsimp only at hLk1
    refine sq fun _ k4 => rg (Ls' rfl (Ln k4 (wR (fR (Res1 rfl rfl) ?_))))
    unfold indexF_m; rewrite [hLk1]; (try dsimp only)
    exact ⟨rfl, hF⟩
  rintro m E w2 ⟨s8, rfl, ⟨hL1, hmu⟩, hinv, st, hF⟩
  obtain ⟨fuel, rfl⟩ : ∃ q, m = q + 1 := ⟨m - 1, by omega⟩
  refine sq fun _ k5 => rg (Ly rfl (ylt rfl) (Ln k5 (sq fun _ k6 => cD rfl (fun hc1 => ?_) (fun hc1 => ?_))))
  · refine sk k6 (sq fun _ k7 => Wp_block (sq fun _ k8 => rg (Lm rfl (Ls' rfl (Ln k8 (sq fun _ k9 => rg (Lm rfl (Lm rfl (Lm rfl ?_)))))))))
    obtain ⟨gi1, bi1, egi1⟩ := (st.k (i := 0) rfl).addr (fun _ => rfl) (by decide) (q := s8) (by first | omega | (simp; done) | (simp; omega)) (by first | omega | (simp; done) | (simp; omega))
    subst egi1
    refine Ly rfl (y_ixa (q := s8) rfl rfl rfl Ty.es_30 (by first | omega | (simp; done) | (simp; omega)) (by first | omega | (simp; done) | (simp; omega))) ?_
    refine Ly rfl (y_ldk (q := s8) rfl rfl Ty.ag_43 (fun _ e => e ▸ st.k (i := 0) rfl) (fun _ => rfl) (by first | omega | (simp; done) | (simp; omega)) (by first | omega | (simp; done) | (simp; omega))) ?_
    refine La rfl (Scv st hF rfl (z2 _ (ix s s8) hF) fun w3 st hF => Ln k9 (cB rfl (fun hc2 => ?_) (fun hc2 => ?_)))
    · refine sq fun _ k10 => rg (Lm rfl (Ls' rfl (Ln k10 (wR (Ib_r (Th_r (Th_r (Ib_r (Th_r (fR (Res1 rfl rfl) ?_))))))))))
      have hret1 : indexF_L1 s f (((s.length : Int) - (0 : Int)).toNat + 1) (0 : Int) = .inl s8 := by rewrite [← hL1, indexF_L1]; rewrite [iP hc1, iP hc2]; rfl
      have he2 : indexF_m s f = s8 := by unfold indexF_m; rewrite [hret1]; (try dsimp only); all_goals rfl
      rewrite [he2]
      exact ⟨rfl, hF⟩
    refine Wp_skip (Ib_n (Th_n (k7 _ _ (rg (Ly rfl (y_add (c := s8 + 1) rfl rfl rfl (wf_i64 (by first | omega | (simp; done) | (simp; omega)))) ?_)))))
    refine Lm rfl (Ls_nil (Th_n (?_)))
    exact ⟨fuel, [(0, _), (1, _), (7, _), (8, _)], Nat.lt_succ_self _, ⟨rfl, rfl, rfl, rfl, trivial⟩, (s8 + 1), rfl, ⟨by rewrite [← hL1, indexF_L1]; rewrite [iP hc1, iN hc2]; rfl, by first | omega | (simp; done) | (simp; omega)⟩, by first | omega | (simp; done) | (simp; omega), (st.pk [] (by decide)).pickK [0], hF⟩
  refine Wp_exit (Th_e (Th_e (Ib_hit (Th_n (?_)))))
  exact hout1 _ [(0, _), (1, _), (7, _), (8, _)] _ ⟨rfl, rfl, rfl, rfl, trivial⟩ ⟨s8, rfl, show _ = _ from by rewrite [← hL1, indexF_L1]; rewrite [iN hc1]; rfl, by first | omega | (simp; done) | (simp; omega), (st.pk [] (by decide)).pickK [0], hF⟩
theorem containsTag_ok (X : List Nat) (w : World) (hX : Lo X w) (s : List TagM) (A_s : Option Addr) (c_s : Nat) (f1 : Value) (f : TagM → Bool) (h_s : Sld X w A_s s.length c_s 3 (s.flatMap tagMC)) (z2 : ∀ (w1 : World) (x0 : TagM), Fr ([]) w w1 → FnV Tryz.prog f1 [.agg (tagMC x0).toArray] w1 fun v w2 => v = .bool (f x0) ∧ Fr [] w1 w2) :
    Fn Tryz.prog 67 [.slice A_s s.length c_s, f1] w fun v w' => v = .bool (containsF_m s f) ∧ Fr [] w w' := by
  refine Fn_of 9 Ty.en_67 Tryz.func67 rfl rfl rfl ?_
  dsimp only [argEnv]
  have st := stn1 hX h_s
  have hF := Fr.refl ([]) w
  have z1 := (st.q 0 rfl).le
  refine sq fun _ k1 => rg (Ls' rfl (Ln k1 (sq fun _ k2 => rg (Lm rfl (Lm rfl (La rfl (Scl st hF rfl (indexTag_ok (keys (hOf st) ++ X) _ st.Lo s A_s c_s f1 f (st.q 0 rfl) (fun w1 x0 hw => z2 w1 x0 (hF.step0 hw))) fun w1 st hF => Ly rfl (yge rfl) (Ls' rfl (Ln k2 (wR (fR (Res1 rfl rfl) ?_)))))))))))
  unfold containsF_m
  exact ⟨rfl, hF⟩
structure PutM where
  tag : TagM
  field : List UInt8
  val : Int
  atF : StampM
instance : Inhabited PutM := ⟨⟨default, default, default, default⟩⟩
instance : DecidableEq PutM := fun a b => decidable_of_iff (a.tag = b.tag ∧ a.field = b.field ∧ a.val = b.val ∧ a.atF = b.atF) (by cases a; cases b; simp)
def putMC (x : PutM) : List Value := [.int .i64 x.tag.id.origin, .int .u32 x.tag.id.seq, .int .i64 x.tag.n, sv x.field, .int .i64 x.val, .int .u32 x.atF.time, .int .i64 x.atF.origin]
theorem putMC_1 (x : PutM) : ∀ v ∈ putMC x, v.oneCell' = true := all_one rfl
theorem indexPut_ok (X : List Nat) (w : World) (hX : Lo X w) (s : List PutM) (A_s : Option Addr) (c_s : Nat) (f1 : Value) (f : PutM → Bool) (h_s : Sld X w A_s s.length c_s 7 (s.flatMap putMC)) (z2 : ∀ (w1 : World) (x0 : PutM), Fr ([]) w w1 → FnV Tryz.prog f1 [.agg (putMC x0).toArray] w1 fun v w2 => v = .bool (f x0) ∧ Fr [] w1 w2) :
    Fn Tryz.prog 135 [.slice A_s s.length c_s, f1] w fun v w' => v = .int .i64 (indexF_m s f) ∧ Fr [] w w' := by
  refine Fn_of 19 Ty.en_135 Tryz.func135 rfl rfl rfl ?_
  dsimp only [argEnv]
  have st := stn1 hX h_s
  have hF := Fr.refl ([]) w
  have z1 := (st.q 0 rfl).le
  refine sq fun _ k1 => rg (Ls' rfl (Ln k1 (sq fun _ k2 => sq fun _ k3 => rg (Lm rfl (Ly rfl (yll rfl Tryz.underlying53) (Lm rfl (Ln k3 (Wp_block (lp (fun q E W => ∃ (s8 : Int), E = [(0, .slice A_s s.length c_s), (1, f1), (7, .int .i64 (s.length : Int)), (8, .int .i64 s8)] ∧ jq q (fun m => (indexF_L1 s f m s8 = indexF_L1 s f (((s.length : Int) - (0 : Int)).toNat + 1) (0 : Int) ∧ ((s.length : Int) - s8).toNat < m)) (indexF_L1 s f (((s.length : Int) - (0 : Int)).toNat + 1) (0 : Int) = .inr (s8)) ∧ (0 ≤ s8) ∧ St X W [] [kS A_s s.length c_s 7 (s.flatMap putMC)] ∧ Fr ([]) w W) (((s.length : Int) - (0 : Int)).toNat + 1) [(0, _), (1, _), (7, _), (8, _)] ⟨rfl, rfl, rfl, rfl, trivial⟩ ⟨_, rfl, ⟨rfl, Nat.lt_succ_self _⟩, by first | omega | (simp; done) | (simp; omega), st, hF⟩ k2 ?_ fun hout1 => ?_)))))))))
  · rintro E w1 ⟨s8, rfl, hLk1, hinv, st, hF⟩
    unfold jq at hLk1; dsimp only at hLk1
    refine sq fun _ k4 => rg (Ls' rfl (Ln k4 (wR (fR (Res1 rfl rfl) ?_))))
    unfold indexF_m; rewrite [hLk1]; (try dsimp only)
    exact ⟨rfl, hF⟩
  rintro m E w2 ⟨s8, rfl, ⟨hL1, hmu⟩, hinv, st, hF⟩
  obtain ⟨fuel, rfl⟩ : ∃ q, m = q + 1 := ⟨m - 1, by omega⟩
  refine sq fun _ k5 => rg (Ly rfl (ylt rfl) (Ln k5 (sq fun _ k6 => cD rfl (fun hc1 => ?_) (fun hc1 => ?_))))
  · refine sk k6 (sq fun _ k7 => Wp_block (sq fun _ k8 => rg (Lm rfl (Ls' rfl (Ln k8 (sq fun _ k9 => rg (Lm rfl (Lm rfl (Lm rfl ?_)))))))))
    obtain ⟨gi1, bi1, egi1⟩ := (st.k (i := 0) rfl).addr (fun _ => rfl) (by decide) (q := s8) (by first | omega | (simp; done) | (simp; omega)) (by first | omega | (simp; done) | (simp; omega))
    subst egi1
    refine Ly rfl (y_ixa (q := s8) rfl rfl rfl Ty.es_53 (by first | omega | (simp; done) | (simp; omega)) (by first | omega | (simp; done) | (simp; omega))) ?_
    refine Ly rfl (y_ldk (q := s8) rfl rfl Ty.ag_131 (fun _ e => e ▸ st.k (i := 0) rfl) (fun _ => rfl) (by first | omega | (simp; done) | (simp; omega)) (by first | omega | (simp; done) | (simp; omega))) ?_
    refine La rfl (Scv st hF rfl (z2 _ (ix s s8) hF) fun w3 st hF => Ln k9 (cB rfl (fun hc2 => ?_) (fun hc2 => ?_)))
    · refine sq fun _ k10 => rg (Lm rfl (Ls' rfl (Ln k10 (wR (Ib_r (Th_r (Th_r (Ib_r (Th_r (fR (Res1 rfl rfl) ?_))))))))))
      have hret1 : indexF_L1 s f (((s.length : Int) - (0 : Int)).toNat + 1) (0 : Int) = .inl s8 := by rewrite [← hL1, indexF_L1]; rewrite [iP hc1, iP hc2]; rfl
      have he2 : indexF_m s f = s8 := by unfold indexF_m; rewrite [hret1]; (try dsimp only); all_goals rfl
      rewrite [he2]
      exact ⟨rfl, hF⟩
    refine Wp_skip (Ib_n (Th_n (k7 _ _ (rg (Ly rfl (y_add (c := s8 + 1) rfl rfl rfl (wf_i64 (by first | omega | (simp; done) | (simp; omega)))) ?_)))))
    refine Lm rfl (Ls_nil (Th_n (?_)))
    exact ⟨fuel, [(0, _), (1, _), (7, _), (8, _)], Nat.lt_succ_self _, ⟨rfl, rfl, rfl, rfl, trivial⟩, (s8 + 1), rfl, ⟨by rewrite [← hL1, indexF_L1]; rewrite [iP hc1, iN hc2]; rfl, by first | omega | (simp; done) | (simp; omega)⟩, by first | omega | (simp; done) | (simp; omega), (st.pk [] (by decide)).pickK [0], hF⟩
  refine Wp_exit (Th_e (Th_e (Ib_hit (Th_n (?_)))))
  exact hout1 _ [(0, _), (1, _), (7, _), (8, _)] _ ⟨rfl, rfl, rfl, rfl, trivial⟩ ⟨s8, rfl, show _ = _ from by rewrite [← hL1, indexF_L1]; rewrite [iN hc1]; rfl, by first | omega | (simp; done) | (simp; omega), (st.pk [] (by decide)).pickK [0], hF⟩
def bsearch_L1 (x : List TagM) (target : TagM) (c : TagM → TagM → Int) : Nat → Int → Int → (Int × Bool) ⊕ (Int × Int)
  | 0, s9, s10 => .inr (s9, s10)
  | fuel + 1, s9, s10 =>
    if s9 < s10 then
      if (c (ix x ((s9 + s10) / 2)) target) < 0 then
        bsearch_L1 x target c fuel (((s9 + s10) / 2) + 1) s10
      else
        bsearch_L1 x target c fuel s9 ((s9 + s10) / 2)
    else
      .inr (s9, s10)
def bsearch_m (x : List TagM) (target : TagM) (c : TagM → TagM → Int) : Int × Bool :=
  match bsearch_L1 x target c (((x.length : Int) - (0 : Int)).toNat + 1) (0 : Int) (x.length : Int) with
  | .inl r => r
  | .inr (s9, s10) =>
    if s9 < (x.length : Int) then
      (s9, (c (ix x s9) target) == 0)
    else
      (s9, false)
theorem bsearch_ok (X : List Nat) (w : World) (hX : Lo X w) (x : List TagM) (A_x : Option Addr) (c_x : Nat) (target : TagM) (f1 : Value) (c : TagM → TagM → Int) (h_x : Sld X w A_x x.length c_x 3 (x.flatMap tagMC)) (z2 : ∀ (w1 : World) (x0 : TagM) (x1 : TagM), Fr ([]) w w1 → FnV Tryz.prog f1 [.agg (tagMC x0).toArray, .agg (tagMC x1).toArray] w1 fun v w2 => v = .int .i64 (c x0 x1) ∧ Fr [] w1 w2) (hx : x.length ≤ 1000000) :
    Fn Tryz.prog 94 [.slice A_x x.length c_x, .agg (tagMC target).toArray, f1] w fun v w' => v = .tuple #[.int .i64 ((bsearch_m x target c).1), .bool ((bsearch_m x target c).2)] ∧ Fr [] w w' := by
  refine Fn_of 49 Ty.en_94 Tryz.func94 rfl rfl rfl ?_
  dsimp only [argEnv]
  have st := stn1 hX h_x
  have hF := Fr.refl ([]) w
  have z1 := (st.q 0 rfl).le
  refine sq fun _ k1 => rg (La rfl (Sbx st hF rfl fun g1 w1 (st : St _ _ [_] _) hF hg1 => Ls' rfl (Ls' rfl (Ln k1 (sq fun _ k2 => rg (Lm rfl (Ly rfl (yll rfl Tryz.underlying30) (Ls' rfl (Ln k2 (sq fun _ k3 => rg (Lm rfl (Ls' rfl (Ls' rfl (Ln k3 (sq fun _ k4 => Wp_block (lp (fun q E W => ∃ (s9 : Int) (s10 : Int), E = [(0, .slice A_x x.length c_x), (2, f1), (4, .pointer (some ⟨g1, 0, none⟩)), (8, .int .i64 (x.length : Int)), (9, .int .i64 s9), (10, .int .i64 s10)] ∧ jq q (fun m => (bsearch_L1 x target c m s9 s10 = bsearch_L1 x target c (((x.length : Int) - (0 : Int)).toNat + 1) (0 : Int) (x.length : Int) ∧ (s10 - s9).toNat < m)) (bsearch_L1 x target c (((x.length : Int) - (0 : Int)).toNat + 1) (0 : Int) (x.length : Int) = .inr (s9, s10)) ∧ (0 ≤ s9 ∧ s9 ≤ s10 ∧ s10 ≤ x.length) ∧ St X W [(some g1, Cl [.int .i64 target.id.origin, .int .u32 target.id.seq, .int .i64 target.n] 43)] [kS A_x x.length c_x 3 (x.flatMap tagMC)] ∧ Fr ([]) w W) (((x.length : Int) - (0 : Int)).toNat + 1) [(0, _), (2, _), (4, _), (8, _), (9, _), (10, _)] ⟨rfl, rfl, rfl, rfl, rfl, rfl, trivial⟩ ⟨_, _, rfl, ⟨rfl, Nat.lt_succ_self _⟩, by first | omega | (simp; done) | (simp; omega), st, hF⟩ k4 ?_ fun hout1 => ?_))))))))))))))))
  · rintro E w2 ⟨s9, s10, rfl, hLk1, hinv, st, hF⟩
    unfold jq at hLk1; dsimp only at hLk1
    refine sq fun _ k5 => ?_
    refine Wp_plan (fun W => St X W (pickL (hOf st) [0]) (kOf st)) [(true, 0), (true, 1), (true, 2), (true, 3), (true, 4), (true, 5), (true, 6), (true, 7), (true, 8), (true, 9), (true, 10), (false, 11), (true, 12), (true, 13), (true, 14), (true, 15)] Ty.mx_0 (by kernel_rfl) (by kernel_rfl) rfl ((st.pk [0] (by decide)).drew) ?_
    have st := st.drew
    have hF := hF.step0 (Fr.drew _)
    refine Pm rfl (Pm rfl (Pm rfl (Py rfl (ylt rfl) (Pm rfl (Pl_bool 39 rfl (fun hc1 => ?_) (fun hc1 => ?_))))))
    · have hc1 := dT hc1
      refine Pl_y rfl (wtdT rfl rfl rfl) rfl rfl (y_move rfl rfl) (Pl_y rfl (wtdT rfl rfl rfl) rfl rfl (y_move rfl rfl) (Pl_y rfl (wtdT rfl rfl rfl) rfl rfl (y_move rfl rfl) ?_))
      obtain ⟨gi1, bi1, egi1⟩ := (st.k (i := 0) rfl).addr (fun _ => rfl) (by decide) (q := s9) (by first | omega | (simp; done) | (simp; omega)) (by first | omega | (simp; done) | (simp; omega))
      subst egi1
      refine Pl_y rfl (wtdT rfl rfl rfl) rfl rfl (y_ixa (q := s9) rfl rfl rfl Ty.es_30 (by first | omega | (simp; done) | (simp; omega)) (by first | omega | (simp; done) | (simp; omega))) ?_
      refine Pl_y rfl (wtdT rfl rfl rfl) rfl rfl (y_ldk (q := s9) rfl rfl Ty.ag_43 (fun _ h => h.k (i := 0) rfl) (fun _ => rfl) (by first | omega | (simp; done) | (simp; omega)) (by first | omega | (simp; done) | (simp; omega))) ?_
      refine Pl_y rfl (wtdT rfl rfl rfl) rfl rfl (y_loadw (i := 0) rfl rfl Ty.ag_43 (fun _ h => h.hp) rfl rfl) (Pl_a rfl (wtdT rfl rfl rfl) (by rfl) ?_)
      refine Scv st hF rfl (z2 _ (ix x s9) target hF) fun w3 st hF => ?_
      refine ⟨(st.pk [0] (by decide)).tK 1, ?_⟩
      refine Pl_y rfl (wtdT rfl rfl rfl) rfl rfl (yeq rfl) (Py rfl (yT rfl) (Py rfl (y_assign rfl rfl) (Py rfl (y_assign rfl rfl) (Pl_nil (Th_n (k5 _ _ (wR (fR (Res2 rfl rfl rfl) ?_))))))))
      unfold bsearch_m; rewrite [hLk1]; (try dsimp only); rewrite [iP hc1]
      exact ⟨rfl, hF⟩
    have hc1 := dF hc1
    refine Pl_s rfl (wtdF rfl rfl rfl) rfl rfl (Pl_s rfl (wtdF rfl rfl rfl) rfl rfl (Pl_s rfl (wtdF rfl rfl rfl) rfl rfl (Pl_s rfl (wtdF rfl rfl rfl) rfl rfl (Pl_s rfl (wtdF rfl rfl rfl) rfl rfl (Pl_s rfl (wtdF rfl rfl rfl) rfl rfl (Pl_s rfl (wtdF rfl rfl rfl) rfl rfl (Pl_s rfl (wtdF rfl rfl rfl) rfl rfl (Py rfl (yF rfl) (Py rfl (y_assign rfl rfl) (Py rfl (y_assign rfl rfl) (Pl_nil (Th_n (k5 _ _ (wR (fR (Res2 rfl rfl rfl) ?_)))))))))))))))
    unfold bsearch_m; rewrite [hLk1]; (try dsimp only); rewrite [iN hc1]
    exact ⟨rfl, hF⟩
  rintro m E w4 ⟨s9, s10, rfl, ⟨hL1, hmu⟩, hinv, st, hF⟩
  obtain ⟨fuel, rfl⟩ : ∃ q, m = q + 1 := ⟨m - 1, by omega⟩
  refine sq fun _ k6 => sq fun _ k7 => rg (Lm rfl (Lm rfl (Ly rfl (ylt rfl) (Ln k7 (cD rfl (fun hc2 => ?_) (fun hc2 => ?_))))))
  · refine sk k6 (Wp_block (sq fun _ k8 => rg (Lm rfl (Lm rfl (Ly rfl (y_add (c := s9 + s10) rfl rfl rfl (wf_i64 (by first | omega | (simp; done) | (simp; omega)))) ?_)))))
    refine Ly rfl (y_cvi (c := s9 + s10) rfl rfl Tryz.underlying3 Tryz.underlying153 (wf_u64 (by omega))) ?_
    refine Ly rfl (y_shrC 1 2 rfl rfl rfl (by decide) rfl rfl (by decide)) ?_
    refine Ly rfl (y_cvi (c := (s9 + s10) / 2) rfl rfl Tryz.underlying153 Tryz.underlying3 (wf_i64 (by omega))) ?_
    refine Ls' rfl (Ln k8 (sq fun _ k9 => ?_))
    refine Wp_plan (fun W => St X W (pickL (hOf st) [0]) (kOf st)) [(true, 0), (true, 1), (true, 2), (true, 3), (true, 4), (true, 5), (false, 6), (true, 7)] Ty.mx_0 (by kernel_rfl) (by kernel_rfl) rfl ((st.pk [0] (by decide)).drew) ?_
    have st := st.drew
    have hF := hF.step0 (Fr.drew _)
    refine Pm rfl (Pm rfl (Pm rfl ?_))
    obtain ⟨gi2, bi2, egi2⟩ := (st.k (i := 0) rfl).addr (fun _ => rfl) (by decide) (q := (s9 + s10) / 2) (by first | omega | (simp; done) | (simp; omega)) (by first | omega | (simp; done) | (simp; omega))
    subst egi2
    refine Py rfl (y_ixa (q := (s9 + s10) / 2) rfl rfl rfl Ty.es_30 (by first | omega | (simp; done) | (simp; omega)) (by first | omega | (simp; done) | (simp; omega))) ?_
    refine Py rfl (y_ldk (q := (s9 + s10) / 2) rfl rfl Ty.ag_43 (fun _ h => h.k (i := 0) rfl) (fun _ => rfl) (by first | omega | (simp; done) | (simp; omega)) (by first | omega | (simp; done) | (simp; omega))) ?_
    refine Py rfl (y_loadw (i := 0) rfl rfl Ty.ag_43 (fun _ h => h.hp) rfl rfl) (Pl_a rfl (wtd0 rfl) (by rfl) ?_)
    refine Scv st hF rfl (z2 _ (ix x ((s9 + s10) / 2)) target hF) fun w5 st hF => ?_
    refine ⟨(st.pk [0] (by decide)).tK 1, ?_⟩
    refine Py rfl (ylt rfl) (Pl_nil (Th_n (k9 _ _ (cD rfl (fun hc3 => ?_) (fun hc3 => ?_)))))
    · refine rg (Lm rfl (Ly rfl (y_add (c := ((s9 + s10) / 2) + 1) rfl rfl rfl (wf_i64 (by first | omega | (simp; done) | (simp; omega)))) ?_))
      refine Ls' rfl (Ls_nil (Ib_n (Th_n (?_))))
      exact ⟨fuel, [(0, _), (2, _), (4, _), (8, _), (9, _), (10, _)], Nat.lt_succ_self _, ⟨rfl, rfl, rfl, rfl, rfl, rfl, trivial⟩, (((s9 + s10) / 2) + 1), s10, rfl, ⟨by rewrite [← hL1, bsearch_L1]; rewrite [iP hc2, iP hc3]; rfl, by first | omega | (simp; done) | (simp; omega)⟩, by first | omega | (simp; done) | (simp; omega), (st.pk [0] (by decide)).pickK [0], hF⟩
    refine rg (Lm rfl (Ls' rfl (Ls_nil (Ib_n (Th_n (?_))))))
    exact ⟨fuel, [(0, _), (2, _), (4, _), (8, _), (9, _), (10, _)], Nat.lt_succ_self _, ⟨rfl, rfl, rfl, rfl, rfl, rfl, trivial⟩, s9, ((s9 + s10) / 2), rfl, ⟨by rewrite [← hL1, bsearch_L1]; rewrite [iP hc2, iN hc3]; rfl, by first | omega | (simp; done) | (simp; omega)⟩, by first | omega | (simp; done) | (simp; omega), (st.pk [0] (by decide)).pickK [0], hF⟩
  refine Wp_exit (Th_e (Th_e (Ib_hit (Th_n (?_)))))
  exact hout1 _ [(0, _), (2, _), (4, _), (8, _), (9, _), (10, _)] _ ⟨rfl, rfl, rfl, rfl, rfl, rfl, trivial⟩ ⟨s9, s10, rfl, show _ = _ from by rewrite [← hL1, bsearch_L1]; rewrite [iN hc2]; rfl, by first | omega | (simp; done) | (simp; omega), (st.pk [0] (by decide)).pickK [0], hF⟩
def strictF_L1 {α : Type} [Inhabited α] [DecidableEq α] (l : List α) (c : α → α → Int) : Nat → Int → (Bool) ⊕ (Int)
  | 0, s5 => .inr (s5)
  | fuel + 1, s5 =>
    if s5 < (l.length : Int) then
      if 0 ≤ (c (ix l (s5 - 1)) (ix l s5)) then
        .inl false
      else
        strictF_L1 l c fuel (s5 + 1)
    else
      .inr (s5)
def strictF_m {α : Type} [Inhabited α] [DecidableEq α] (l : List α) (c : α → α → Int) : Bool :=
  match strictF_L1 l c (((l.length : Int) - (1 : Int)).toNat + 1) (1 : Int) with
  | .inl r => r
  | .inr (s5) =>
    true
theorem strictAdd_ok (X : List Nat) (w : World) (hX : Lo X w) (l : List AddM) (A_l : Option Addr) (c_l : Nat) (f1 : Value) (c : AddM → AddM → Int) (h_l : Sld X w A_l l.length c_l 4 (l.flatMap addMC)) (z2 : ∀ (w1 : World) (x0 : AddM) (x1 : AddM), Fr ([]) w w1 → FnV Tryz.prog f1 [.agg (addMC x0).toArray, .agg (addMC x1).toArray] w1 fun v w2 => v = .int .i64 (c x0 x1) ∧ Fr [] w1 w2) :
    Fn Tryz.prog 112 [.slice A_l l.length c_l, f1] w fun v w' => v = .bool (strictF_m l c) ∧ Fr [] w w' := by
  refine Fn_of 24 Ty.en_112 Tryz.func112 rfl rfl rfl ?_
  dsimp only [argEnv]
  have st := stn1 hX h_l
  have hF := Fr.refl ([]) w
  have z1 := (st.q 0 rfl).le
  refine sq fun _ k1 => rg (Ls' rfl (Ln k1 (sq fun _ k2 => sq fun _ k3 => rg (Ls' rfl (Ln k3 (Wp_block (lp (fun q E W => ∃ (s5 : Int), E = [(0, .slice A_l l.length c_l), (1, f1), (5, .int .i64 s5)] ∧ jq q (fun m => (strictF_L1 l c m s5 = strictF_L1 l c (((l.length : Int) - (1 : Int)).toNat + 1) (1 : Int) ∧ ((l.length : Int) - s5).toNat < m)) (strictF_L1 l c (((l.length : Int) - (1 : Int)).toNat + 1) (1 : Int) = .inr (s5)) ∧ (1 ≤ s5) ∧ St X W [] [kS A_l l.length c_l 4 (l.flatMap addMC)] ∧ Fr ([]) w W) (((l.length : Int) - (1 : Int)).toNat + 1) [(0, _), (1, _), (5, _)] ⟨rfl, rfl, rfl, trivial⟩ ⟨_, rfl, ⟨rfl, Nat.lt_succ_self _⟩, by first | omega | (simp; done) | (simp; omega), st, hF⟩ k2 ?_ fun hout1 => ?_)))))))
  · rintro E w1 ⟨s5, rfl, hLk1, hinv, st, hF⟩
    unfold jq at hLk1; dsimp only at hLk1
    refine sq fun _ k4 => rg (Ls' rfl (Ln k4 (wR (fR (Res1 rfl rfl) ?_))))
    unfold strictF_m; rewrite [hLk1]; (try dsimp only)
    exact ⟨rfl, hF⟩
  rintro m E w2 ⟨s5, rfl, ⟨hL1, hmu⟩, hinv, st, hF⟩
  obtain ⟨fuel, rfl⟩ : ∃ q, m = q + 1 := ⟨m - 1, by omega⟩
  refine sq fun _ k5 => sq fun _ k6 => rg (Lm rfl (Lm rfl (Ly rfl (yll rfl Tryz.underlying50) (Ly rfl (ylt rfl) (Ln k6 (cD rfl (fun hc1 => ?_) (fun hc1 => ?_)))))))
  · refine sk k5 (sq fun _ k7 => Wp_block (sq fun _ k8 => ?_))
    refine Wp_plan (fun W => St X W (pickL (hOf st) []) (kOf st)) [(true, 0), (true, 1), (true, 2), (true, 3), (true, 4), (true, 5), (true, 6), (true, 7), (true, 8), (true, 9), (false, 10), (true, 11)] Ty.mx_0 (by kernel_rfl) (by kernel_rfl) rfl ((st.pk [] (by decide)).drew) ?_
    have st := st.drew
    have hF := hF.step0 (Fr.drew _)
    refine Pm rfl (Pm rfl (Pm rfl (Py rfl (y_sub (c := s5 - 1) rfl rfl rfl (wf_i64 (by first | omega | (simp; done) | (simp; omega)))) ?_)))
    obtain ⟨gi1, bi1, egi1⟩ := (st.k (i := 0) rfl).addr (fun _ => rfl) (by decide) (q := s5 - 1) (by first | omega | (simp; done) | (simp; omega)) (by first | omega | (simp; done) | (simp; omega))
    subst egi1
    refine Py rfl (y_ixa (q := s5 - 1) rfl rfl rfl Ty.es_50 (by first | omega | (simp; done) | (simp; omega)) (by first | omega | (simp; done) | (simp; omega))) ?_
    refine Py rfl (y_ldk (q := s5 - 1) rfl rfl Ty.ag_126 (fun _ h => h.k (i := 0) rfl) (fun _ => rfl) (by first | omega | (simp; done) | (simp; omega)) (by first | omega | (simp; done) | (simp; omega))) ?_
    refine Pm rfl (Pm rfl (Py rfl (y_ixa (q := s5) rfl rfl rfl Ty.es_50 (by first | omega | (simp; done) | (simp; omega)) (by first | omega | (simp; done) | (simp; omega))) ?_))
    refine Py rfl (y_ldk (q := s5) rfl rfl Ty.ag_126 (fun _ h => h.k (i := 0) rfl) (fun _ => rfl) (by first | omega | (simp; done) | (simp; omega)) (by first | omega | (simp; done) | (simp; omega))) ?_
    refine Pl_a rfl (wtd0 rfl) (by rfl) ?_
    refine Scv st hF rfl (z2 _ (ix l (s5 - 1)) (ix l s5) hF) fun w3 st hF => ?_
    refine ⟨(st.pk [] (by decide)).tK 1, ?_⟩
    refine Py rfl (yge rfl) (Pl_nil (Th_n (k8 _ _ (cD rfl (fun hc2 => ?_) (fun hc2 => ?_)))))
    · refine sq fun _ k9 => rg (Ls' rfl (Ln k9 (wR (Ib_r (Th_r (Th_r (Ib_r (Th_r (fR (Res1 rfl rfl) ?_)))))))))
      have hret1 : strictF_L1 l c (((l.length : Int) - (1 : Int)).toNat + 1) (1 : Int) = .inl false := by rewrite [← hL1, strictF_L1]; rewrite [iP hc1, iP hc2]; rfl
      have he2 : strictF_m l c = false := by unfold strictF_m; rewrite [hret1]; (try dsimp only); all_goals rfl
      rewrite [he2]
      exact ⟨rfl, hF⟩
    refine Wp_skip (Ib_n (Th_n (k7 _ _ (rg (Lm rfl (Ly rfl (y_add (c := s5 + 1) rfl rfl rfl (wf_i64 (by first | omega | (simp; done) | (simp; omega)))) ?_))))))
    refine Ls' rfl (Ls_nil (Th_n (?_)))
    exact ⟨fuel, [(0, _), (1, _), (5, _)], Nat.lt_succ_self _, ⟨rfl, rfl, rfl, trivial⟩, (s5 + 1), rfl, ⟨by rewrite [← hL1, strictF_L1]; rewrite [iP hc1, iN hc2]; rfl, by first | omega | (simp; done) | (simp; omega)⟩, by first | omega | (simp; done) | (simp; omega), (st.pk [] (by decide)).pickK [0], hF⟩
  refine Wp_exit (Th_e (Th_e (Ib_hit (Th_n (?_)))))
  exact hout1 _ [(0, _), (1, _), (5, _)] _ ⟨rfl, rfl, rfl, trivial⟩ ⟨s5, rfl, show _ = _ from by rewrite [← hL1, strictF_L1]; rewrite [iN hc1]; rfl, by first | omega | (simp; done) | (simp; omega), (st.pk [] (by decide)).pickK [0], hF⟩
theorem strictTag_ok (X : List Nat) (w : World) (hX : Lo X w) (l : List TagM) (A_l : Option Addr) (c_l : Nat) (f1 : Value) (c : TagM → TagM → Int) (h_l : Sld X w A_l l.length c_l 3 (l.flatMap tagMC)) (z2 : ∀ (w1 : World) (x0 : TagM) (x1 : TagM), Fr ([]) w w1 → FnV Tryz.prog f1 [.agg (tagMC x0).toArray, .agg (tagMC x1).toArray] w1 fun v w2 => v = .int .i64 (c x0 x1) ∧ Fr [] w1 w2) :
    Fn Tryz.prog 114 [.slice A_l l.length c_l, f1] w fun v w' => v = .bool (strictF_m l c) ∧ Fr [] w w' := by
  refine Fn_of 24 Ty.en_114 Tryz.func114 rfl rfl rfl ?_
  dsimp only [argEnv]
  have st := stn1 hX h_l
  have hF := Fr.refl ([]) w
  have z1 := (st.q 0 rfl).le
  refine sq fun _ k1 => rg (Ls' rfl (Ln k1 (sq fun _ k2 => sq fun _ k3 => rg (Ls' rfl (Ln k3 (Wp_block (lp (fun q E W => ∃ (s5 : Int), E = [(0, .slice A_l l.length c_l), (1, f1), (5, .int .i64 s5)] ∧ jq q (fun m => (strictF_L1 l c m s5 = strictF_L1 l c (((l.length : Int) - (1 : Int)).toNat + 1) (1 : Int) ∧ ((l.length : Int) - s5).toNat < m)) (strictF_L1 l c (((l.length : Int) - (1 : Int)).toNat + 1) (1 : Int) = .inr (s5)) ∧ (1 ≤ s5) ∧ St X W [] [kS A_l l.length c_l 3 (l.flatMap tagMC)] ∧ Fr ([]) w W) (((l.length : Int) - (1 : Int)).toNat + 1) [(0, _), (1, _), (5, _)] ⟨rfl, rfl, rfl, trivial⟩ ⟨_, rfl, ⟨rfl, Nat.lt_succ_self _⟩, by first | omega | (simp; done) | (simp; omega), st, hF⟩ k2 ?_ fun hout1 => ?_)))))))
  · rintro E w1 ⟨s5, rfl, hLk1, hinv, st, hF⟩
    unfold jq at hLk1; dsimp only at hLk1
    refine sq fun _ k4 => rg (Ls' rfl (Ln k4 (wR (fR (Res1 rfl rfl) ?_))))
    unfold strictF_m; rewrite [hLk1]; (try dsimp only)
    exact ⟨rfl, hF⟩
  rintro m E w2 ⟨s5, rfl, ⟨hL1, hmu⟩, hinv, st, hF⟩
  obtain ⟨fuel, rfl⟩ : ∃ q, m = q + 1 := ⟨m - 1, by omega⟩
  refine sq fun _ k5 => sq fun _ k6 => rg (Lm rfl (Lm rfl (Ly rfl (yll rfl Tryz.underlying30) (Ly rfl (ylt rfl) (Ln k6 (cD rfl (fun hc1 => ?_) (fun hc1 => ?_)))))))
  · refine sk k5 (sq fun _ k7 => Wp_block (sq fun _ k8 => ?_))
    refine Wp_plan (fun W => St X W (pickL (hOf st) []) (kOf st)) [(true, 0), (true, 1), (true, 2), (true, 3), (true, 4), (true, 5), (true, 6), (true, 7), (true, 8), (true, 9), (false, 10), (true, 11)] Ty.mx_0 (by kernel_rfl) (by kernel_rfl) rfl ((st.pk [] (by decide)).drew) ?_
    have st := st.drew
    have hF := hF.step0 (Fr.drew _)
    refine Pm rfl (Pm rfl (Pm rfl (Py rfl (y_sub (c := s5 - 1) rfl rfl rfl (wf_i64 (by first | omega | (simp; done) | (simp; omega)))) ?_)))
    obtain ⟨gi1, bi1, egi1⟩ := (st.k (i := 0) rfl).addr (fun _ => rfl) (by decide) (q := s5 - 1) (by first | omega | (simp; done) | (simp; omega)) (by first | omega | (simp; done) | (simp; omega))
    subst egi1
    refine Py rfl (y_ixa (q := s5 - 1) rfl rfl rfl Ty.es_30 (by first | omega | (simp; done) | (simp; omega)) (by first | omega | (simp; done) | (simp; omega))) ?_
    refine Py rfl (y_ldk (q := s5 - 1) rfl rfl Ty.ag_43 (fun _ h => h.k (i := 0) rfl) (fun _ => rfl) (by first | omega | (simp; done) | (simp; omega)) (by first | omega | (simp; done) | (simp; omega))) ?_
    refine Pm rfl (Pm rfl (Py rfl (y_ixa (q := s5) rfl rfl rfl Ty.es_30 (by first | omega | (simp; done) | (simp; omega)) (by first | omega | (simp; done) | (simp; omega))) ?_))
    refine Py rfl (y_ldk (q := s5) rfl rfl Ty.ag_43 (fun _ h => h.k (i := 0) rfl) (fun _ => rfl) (by first | omega | (simp; done) | (simp; omega)) (by first | omega | (simp; done) | (simp; omega))) ?_
    refine Pl_a rfl (wtd0 rfl) (by rfl) ?_
    refine Scv st hF rfl (z2 _ (ix l (s5 - 1)) (ix l s5) hF) fun w3 st hF => ?_
    refine ⟨(st.pk [] (by decide)).tK 1, ?_⟩
    refine Py rfl (yge rfl) (Pl_nil (Th_n (k8 _ _ (cD rfl (fun hc2 => ?_) (fun hc2 => ?_)))))
    · refine sq fun _ k9 => rg (Ls' rfl (Ln k9 (wR (Ib_r (Th_r (Th_r (Ib_r (Th_r (fR (Res1 rfl rfl) ?_)))))))))
      have hret1 : strictF_L1 l c (((l.length : Int) - (1 : Int)).toNat + 1) (1 : Int) = .inl false := by rewrite [← hL1, strictF_L1]; rewrite [iP hc1, iP hc2]; rfl
      have he2 : strictF_m l c = false := by unfold strictF_m; rewrite [hret1]; (try dsimp only); all_goals rfl
      rewrite [he2]
      exact ⟨rfl, hF⟩
    refine Wp_skip (Ib_n (Th_n (k7 _ _ (rg (Lm rfl (Ly rfl (y_add (c := s5 + 1) rfl rfl rfl (wf_i64 (by first | omega | (simp; done) | (simp; omega)))) ?_))))))
    refine Ls' rfl (Ls_nil (Th_n (?_)))
    exact ⟨fuel, [(0, _), (1, _), (5, _)], Nat.lt_succ_self _, ⟨rfl, rfl, rfl, trivial⟩, (s5 + 1), rfl, ⟨by rewrite [← hL1, strictF_L1]; rewrite [iP hc1, iN hc2]; rfl, by first | omega | (simp; done) | (simp; omega)⟩, by first | omega | (simp; done) | (simp; omega), (st.pk [] (by decide)).pickK [0], hF⟩
  refine Wp_exit (Th_e (Th_e (Ib_hit (Th_n (?_)))))
  exact hout1 _ [(0, _), (1, _), (5, _)] _ ⟨rfl, rfl, rfl, trivial⟩ ⟨s5, rfl, show _ = _ from by rewrite [← hL1, strictF_L1]; rewrite [iN hc1]; rfl, by first | omega | (simp; done) | (simp; omega), (st.pk [] (by decide)).pickK [0], hF⟩
structure SetM where
  adds : List AddM
  gone : List TagM
instance : Inhabited SetM := ⟨⟨default, default⟩⟩
instance : DecidableEq SetM := fun a b => decidable_of_iff (a.adds = b.adds ∧ a.gone = b.gone) (by cases a; cases b; simp)
def ogone_m (s : SetM) (t : TagM) : Bool :=
  (bsearch_m s.gone t icompareTag_m).2
theorem ogone_ok (X : List Nat) (w : World) (hX : Lo X w) (s : SetM) (A1 : Option Addr) (C1 : Nat) (A2 : Option Addr) (C2 : Nat) (t : TagM) (z3 : Sld X w A1 s.adds.length C1 4 (s.adds.flatMap addMC)) (z4 : Sld X w A2 s.gone.length C2 3 (s.gone.flatMap tagMC)) (h2 : s.gone.length ≤ 1000000) :
    Fn Tryz.prog 84 [.agg #[.slice A1 s.adds.length C1, .slice A2 s.gone.length C2], .agg (tagMC t).toArray] w fun v w' => v = .bool (ogone_m s t) ∧ Fr [] w w' := by
  refine Fn_of 15 Ty.en_84 Tryz.func84 rfl rfl rfl ?_
  dsimp only [argEnv]
  have st := stn2 hX z3 z4
  have hF := Fr.refl ([]) w
  have z1 := (st.q 0 rfl).le
  have z2 := (st.q 1 rfl).le
  refine sq fun _ k1 => rg (La rfl (Sbx st hF rfl fun g1 w1 (st : St _ _ [_] _) hF hg1 => La rfl (Sbx st hF rfl fun g2 w2 (st : St _ _ [_, _] _) hF hg2 => Ls' rfl (Ln k1 (sq fun _ k2 => rg (Ly rfl (yf rfl Ty.fo_52_1) (Ly rfl (yl 0 Ty.pl_30 st rfl) (Ly rfl (yw 1 Ty.ag_43 st rfl) (La rfl (Scl st hF rfl (bsearch_ok (keys (hOf st) ++ X) _ st.Lo s.gone A2 C2 t (.func (.func 68) #[] #[]) icompareTag_m (st.q 1 rfl) (fun w1 x0 x1 _ => FnV.of (icompareTag_ok w1 x0 x1)) h2) fun w3 st hF => Lm rfl (Lx rfl (Lx rfl (Ls' rfl (Ls' rfl (Ln k2 (sq fun _ k3 => rg (Lm rfl (Ls' rfl (Ln k3 (wR (fR (Res1 rfl rfl) ?_)))))))))))))))))))))
  unfold ogone_m
  exact ⟨rfl, hF⟩
def ocheck1_m (a : AddM) : Bool :=
  onotTag_m a.tag
theorem ocheck1_ok (w : World) (a : AddM) :
    Fn Tryz.prog 111 [.agg (addMC a).toArray] w fun v w' => v = .bool (ocheck1_m a) ∧ Fr [] w w' := by
  refine Fn_of 6 Ty.en_111 Tryz.func111 rfl rfl rfl ?_
  dsimp only [argEnv]
  have st := stn0 (X := []) (w := w) (by simp [Lo])
  have hF := Fr.refl ([]) w
  refine sq fun _ k1 => rg (La rfl (Sbx st hF rfl fun g1 w1 (st : St _ _ [_] _) hF hg1 => Ls' rfl (Ln k1 (sq fun _ k2 => rg (Ly rfl (yf rfl Ty.fo_126_0) (Ly rfl (ym 0 Ty.ag_43 st rfl) (La rfl (Scl st hF rfl (onotTag_ok _ a.tag) fun w2 st hF => Ls' rfl (Ln k2 (wR (fR (Res1 rfl rfl) ?_)))))))))))
  unfold ocheck1_m
  exact ⟨rfl, hF⟩
def ocheck2_m (a : AddM) (b : AddM) : Int :=
  obyTag_m a b.tag
theorem ocheck2_ok (w : World) (a : AddM) (b : AddM) :
    Fn Tryz.prog 113 [.agg (addMC a).toArray, .agg (addMC b).toArray] w fun v w' => v = .int .i64 (ocheck2_m a b) ∧ Fr [] w w' := by
  refine Fn_of 9 Ty.en_113 Tryz.func113 rfl rfl rfl ?_
  dsimp only [argEnv]
  have st := stn0 (X := []) (w := w) (by simp [Lo])
  have hF := Fr.refl ([]) w
  refine sq fun _ k1 => rg (La rfl (Sbx st hF rfl fun g1 w1 (st : St _ _ [_] _) hF hg1 => La rfl (Sbx st hF rfl fun g2 w2 (st : St _ _ [_, _] _) hF hg2 => Ls' rfl (Ln k1 (sq fun _ k2 => rg (Ly rfl (yw 0 Ty.ag_126 st rfl) (Ly rfl (yf rfl Ty.fo_126_0) (Ly rfl (ym 1 Ty.ag_43 st rfl) (La rfl (Scl st hF rfl (obyTag_ok _ a b.tag) fun w3 st hF => Ls' rfl (Ln k2 (wR (fR (Res1 rfl rfl) ?_)))))))))))))
  unfold ocheck2_m
  exact ⟨rfl, hF⟩
def ocheck3_m (a : AddM) (s : SetM) : Bool :=
  if (oelem_m a.elem) = true then
    ogone_m s a.tag
  else
    true
theorem ocheck3_ok (X : List Nat) (w : World) (a : AddM) (g_s : Nat) (s : SetM) (A1 : Option Addr) (C1 : Nat) (A2 : Option Addr) (C2 : Nat) (hs : St X w [(some g_s, Cl [.slice A1 s.adds.length C1, .slice A2 s.gone.length C2] 52)] [kS A1 s.adds.length C1 4 (s.adds.flatMap addMC), kS A2 s.gone.length C2 3 (s.gone.flatMap tagMC)]) (h2 : s.gone.length ≤ 1000000) :
    Fn Tryz.prog 115 [.agg (addMC a).toArray, .pointer (some ⟨g_s, 0, none⟩)] w fun v w' => v = .bool (ocheck3_m a s) ∧ Fr [] w w' := by
  refine Fn_of 14 Ty.en_115 Tryz.func115 rfl rfl rfl ?_
  dsimp only [argEnv]
  have hs0 := hs
  have st : St X w [(some g_s, Cl [.slice A1 s.adds.length C1, .slice A2 s.gone.length C2] 52)] [kS A1 s.adds.length C1 4 (s.adds.flatMap addMC), kS A2 s.gone.length C2 3 (s.gone.flatMap tagMC)] := hs
  have hF := Fr.refl ([]) w
  have z1 := (st.q 0 rfl).le
  have z2 := (st.q 1 rfl).le
  refine sq fun _ k1 => rg (La rfl (Sbx st hF rfl fun g1 w1 (st : St _ _ [_, _] _) hF hg1 => Ls' rfl (Ln k1 (sq fun _ k2 => rg (Ly rfl (yf rfl Ty.fo_126_1) (Ly rfl (yl 1 Ty.pl_9 st rfl) (La rfl (Scl st hF rfl (oelem_ok _ a.elem) fun w2 st hF => Ly rfl (yn rfl) (Lm rfl (bBn (s := 8) rfl (fun hc1 => ?_) (fun hc1 => ?_)))))))))))
  · refine LsF rfl (LsF rfl (LsF rfl (LsF rfl (Ly rfl (yT rfl) (Ls' rfl (Ln k2 (wR (fR (Res1 rfl rfl) ?_))))))))
    unfold ocheck3_m; rewrite [iN hc1]
    exact ⟨rfl, hF⟩
  refine LyT rfl (yw 0 Ty.ag_52 st rfl) (LyT rfl (yf rfl Ty.fo_126_0) (LyT rfl (ym 1 Ty.ag_43 st rfl) (LaT rfl (Scl st hF rfl (ogone_ok (keys (hOf st) ++ X) _ st.Lo s A1 C1 A2 C2 a.tag (st.q 0 rfl) (st.q 1 rfl) h2) fun w3 st hF => Ly rfl (yF rfl) (Ls' rfl (Ln k2 (wR (fR (Res1 rfl rfl) ?_))))))))
  unfold ocheck3_m; rewrite [iP hc1]
  exact ⟨rfl, hF⟩
def ocheck_c1 (s : SetM) : Bool :=
  (if 4096 < (s.adds.length : Int) then true else decide (4096 < (s.gone.length : Int)))
def ocheck_c2 (s : SetM) : Bool :=
  (if (containsF_m s.adds ocheck1_m) = true then true else containsF_m s.gone onotTag_m)
def ocheck_c3 (s : SetM) : Bool :=
  (if (strictF_m s.gone icompareTag_m) = true then containsF_m s.adds (fun x0 => ocheck3_m x0 s) else true)
def ocheck_m (s : SetM) : Int :=
  if (ocheck_c1 s) = true then
    8
  else
    if (ocheck_c2 s) = true then
      2
    else
      if (strictF_m s.adds ocheck2_m) = true then
        if (ocheck_c3 s) = true then
          3
        else
          0
      else
        3
theorem ocheck_c1_iff (s : SetM) : (ocheck_c1 s = true) ↔ ((4096 < (s.adds.length : Int)) ∨ (4096 < (s.gone.length : Int))) := by
  unfold ocheck_c1; exact (ci1 decide_eq_true_iff)
theorem ocheck_c2_iff (s : SetM) : (ocheck_c2 s = true) ↔ (((containsF_m s.adds ocheck1_m) = true) ∨ ((containsF_m s.gone onotTag_m) = true)) := by
  unfold ocheck_c2; exact (ci1 Iff.rfl)
theorem ocheck_c3_iff (s : SetM) : (ocheck_c3 s = true) ↔ (¬ ((strictF_m s.gone icompareTag_m) = true) ∨ ((containsF_m s.adds (fun x0 => ocheck3_m x0 s)) = true)) := by
  unfold ocheck_c3; exact (ci4 Iff.rfl)
theorem ocheck_ok (X : List Nat) (w : World) (hX : Lo X w) (s : SetM) (A1 : Option Addr) (C1 : Nat) (A2 : Option Addr) (C2 : Nat) (z3 : Sld X w A1 s.adds.length C1 4 (s.adds.flatMap addMC)) (z4 : Sld X w A2 s.gone.length C2 3 (s.gone.flatMap tagMC)) (h2 : s.gone.length ≤ 1000000) :
    Fn Tryz.prog 64 [.agg #[.slice A1 s.adds.length C1, .slice A2 s.gone.length C2]] w fun v w' => v = .int .i64 (ocheck_m s) ∧ Fr [] w w' := by
  refine Fn_of 38 Ty.en_64 Tryz.func64 rfl rfl rfl ?_
  dsimp only [argEnv]
  have st := stn2 hX z3 z4
  have hF := Fr.refl ([]) w
  have z1 := (st.q 0 rfl).le
  have z2 := (st.q 1 rfl).le
  refine sq fun _ k1 => rg (La rfl (Sbx st hF rfl fun g1 w1 (st : St _ _ [_] _) hF hg1 => Ls' rfl (Ln k1 (sq fun _ k2 => sq fun _ k3 => ?_))))
  refine use_out k3 (fun E W => E = [(1, .pointer (some ⟨g1, 0, none⟩)), (13, .bool (ocheck_c1 s))] ∧ St X W (hOf st) (kOf st) ∧ Fr ([]) w W) ?_ fun hout1 => ?_
  · rintro E w2 ⟨rfl, st, hF⟩
    have st : St X w2 [_] [_, _] := st
    refine cB rfl (fun hc1 => ?_) (fun hc1 => ?_)
    · have jhc1 := (ocheck_c1_iff s).1 hc1
      refine sq fun _ k4 => rg (Ls' rfl (Ln k4 (wR (Th_r (fR (Res1 rfl rfl) ?_)))))
      unfold ocheck_m; rewrite [iP hc1]
      exact ⟨rfl, hF⟩
    have jhc1 := mt (ocheck_c1_iff s).2 hc1
    refine sk k2 (sq fun _ k5 => sq fun _ k6 => ?_)
    refine use_out k6 (fun E W => E = [(1, .pointer (some ⟨g1, 0, none⟩)), (21, .bool (ocheck_c2 s))] ∧ St X W (hOf st) (kOf st) ∧ Fr ([]) w W) ?_ fun hout2 => ?_
    · rintro E w3 ⟨rfl, st, hF⟩
      have st : St X w3 [_] [_, _] := st
      refine cB rfl (fun hc2 => ?_) (fun hc2 => ?_)
      · have jhc2 := (ocheck_c2_iff s).1 hc2
        refine sq fun _ k7 => rg (Ls' rfl (Ln k7 (wR (Th_r (fR (Res1 rfl rfl) ?_)))))
        unfold ocheck_m; rewrite [iN hc1, iP hc2]
        exact ⟨rfl, hF⟩
      have jhc2 := mt (ocheck_c2_iff s).2 hc2
      refine sk k5 (sq fun _ k8 => rg (Ly rfl (yf rfl Ty.fo_52_0) (Ly rfl (yl 0 Ty.pl_50 st rfl) (La rfl (Scl st hF rfl (strictAdd_ok (keys (hOf st) ++ X) _ st.Lo s.adds A1 C1 (.func (.func 113) #[] #[]) ocheck2_m (st.q 0 rfl) (fun w1 x0 x1 _ => FnV.of (ocheck2_ok w1 x0 x1))) fun w4 st hF => Lm rfl (bB (s := 25) rfl (fun hc3 => ?_) (fun hc3 => ?_)))))))
      · refine LyT rfl (yf rfl Ty.fo_52_1) (LyT rfl (yl 0 Ty.pl_30 st rfl) (LaT rfl (Scl st hF rfl (strictTag_ok (keys (hOf st) ++ X) _ st.Lo s.gone A2 C2 (.func (.func 68) #[] #[]) icompareTag_m (st.q 1 rfl) (fun w1 x0 x1 _ => FnV.of (icompareTag_ok w1 x0 x1))) fun w5 st hF => Ly rfl (yT rfl) (Ls' rfl (Ln k8 (sq fun _ k9 => sq fun _ k10 => ?_))))))
        refine use_out k10 (fun E W => E = [(37, .bool (ocheck_c3 s))] ∧ St X W (hOf st) (kOf st) ∧ Fr ([]) w W) ?_ fun hout3 => ?_
        · rintro E w6 ⟨rfl, st, hF⟩
          have st : St X w6 [_] [_, _] := st
          refine cB rfl (fun hc4 => ?_) (fun hc4 => ?_)
          · have jhc4 := (ocheck_c3_iff s).1 hc4
            refine sq fun _ k11 => rg (Ls' rfl (Ln k11 (wR (Th_r (fR (Res1 rfl rfl) ?_)))))
            unfold ocheck_m; rewrite [iN hc1, iN hc2, iP hc3, iP hc4]
            exact ⟨rfl, hF⟩
          have jhc4 := mt (ocheck_c3_iff s).2 hc4
          refine sk k9 (sq fun _ k12 => rg (Ls' rfl (Ln k12 (wR (fR (Res1 rfl rfl) ?_)))))
          unfold ocheck_m; rewrite [iN hc1, iN hc2, iP hc3, iN hc4]
          exact ⟨rfl, hF⟩
        refine rg (Lm rfl (Ly rfl (yn rfl) (Lm rfl (bBn (s := 32) rfl (fun hc5 => ?_) (fun hc5 => ?_)))))
        · refine LsF rfl (LsF rfl (LsF rfl (LsF rfl (Ly rfl (yT rfl) (Ls_nil (Th_n (?_)))))))
          exact hout3 _ [(37, _)] _ ⟨rfl, trivial⟩ ⟨by unfold ocheck_c3; rewrite [iN hc5]; rfl, (st.pk [0] (by decide)).pickK [0, 1], hF⟩
        refine LyT rfl (yf rfl Ty.fo_52_0) (LyT rfl (yl 0 Ty.pl_50 st rfl) (LyT rfl (y_mkfn rfl rfl rfl) (LaT rfl (Scl st hF rfl (containsAdd_ok (keys (hOf st) ++ X) _ st.Lo s.adds A1 C1 (.func (.func 115) #[] #[.pointer (some ⟨g1, 0, none⟩)]) (fun x0 => ocheck3_m x0 s) (st.q 0 rfl) (fun w1 x0 hw => FnV.ofc [.pointer (some ⟨g1, 0, none⟩)] (ocheck3_ok (keys (pickL (hOf st) []) ++ X) w1 x0 g1 s A1 C1 A2 C2 ((st.sub [] [0] [0, 1] (by decide)).keep0 hw)  h2))) fun w7 st hF => ?_))))
        refine Ly rfl (yF rfl) (Ls_nil (Th_n (?_)))
        exact hout3 _ [(37, _)] _ ⟨rfl, trivial⟩ ⟨by unfold ocheck_c3; rewrite [iP hc5]; rfl, (st.pk [0] (by decide)).pickK [0, 1], hF⟩
      refine LsF rfl (LsF rfl (LsF rfl (Ly rfl (yF rfl) (Ls' rfl (Ln k8 (sq fun _ k13 => sq fun _ k14 => rg (Lm rfl (Ly rfl (yn rfl) (Lm rfl (LsF rfl (LsF rfl (LsF rfl (LsF rfl (Ly rfl (yT rfl) (Ln k14 (Wp_cond_t rfl (sq fun _ k15 => rg (Ls' rfl (Ln k15 (wR (Th_r (fR (Res1 rfl rfl) ?_))))))))))))))))))))))
      unfold ocheck_m; rewrite [iN hc1, iN hc2, iN hc3]
      exact ⟨rfl, hF⟩
    refine rg (Ly rfl (yf rfl Ty.fo_52_0) (Ly rfl (yl 0 Ty.pl_50 st rfl) (La rfl (Scl st hF rfl (containsAdd_ok (keys (hOf st) ++ X) _ st.Lo s.adds A1 C1 (.func (.func 111) #[] #[]) ocheck1_m (st.q 0 rfl) (fun w1 x0 _ => FnV.of (ocheck1_ok w1 x0))) fun w8 st hF => Lm rfl (bB (s := 17) rfl (fun hc6 => ?_) (fun hc6 => ?_))))))
    · refine LsF rfl (LsF rfl (LsF rfl (Ly rfl (yT rfl) (Ls_nil (Th_n (?_))))))
      exact hout2 _ [(1, _), (21, _)] _ ⟨rfl, rfl, trivial⟩ ⟨by unfold ocheck_c2; rewrite [iP hc6]; rfl, (st.pk [0] (by decide)).pickK [0, 1], hF⟩
    refine LyT rfl (yf rfl Ty.fo_52_1) (LyT rfl (yl 0 Ty.pl_30 st rfl) (LaT rfl (Scl st hF rfl (containsTag_ok (keys (hOf st) ++ X) _ st.Lo s.gone A2 C2 (.func (.func 81) #[] #[]) onotTag_m (st.q 1 rfl) (fun w1 x0 _ => FnV.of (onotTag_ok w1 x0))) fun w9 st hF => Ly rfl (yF rfl) (Ls_nil (Th_n (?_))))))
    exact hout2 _ [(1, _), (21, _)] _ ⟨rfl, rfl, trivial⟩ ⟨by unfold ocheck_c2; rewrite [iN hc6]; rfl, (st.pk [0] (by decide)).pickK [0, 1], hF⟩
  refine rg (Ly rfl (yf rfl Ty.fo_52_0) (Ly rfl (yl 0 Ty.pl_50 st rfl) (Ly rfl (yll rfl Tryz.underlying50) (Ly rfl (ygt rfl) (Lm rfl (bD (s := 8) rfl (fun hc7 => ?_) (fun hc7 => ?_)))))))
  · refine LsF rfl (LsF rfl (LsF rfl (LsF rfl (Ly rfl (yT rfl) (Ls_nil (Th_n (?_)))))))
    exact hout1 _ [(1, _), (13, _)] _ ⟨rfl, rfl, trivial⟩ ⟨by unfold ocheck_c1; rewrite [iP hc7]; rfl, (st.pk [0] (by decide)).pickK [0, 1], hF⟩
  refine LyT rfl (yf rfl Ty.fo_52_1) (LyT rfl (yl 0 Ty.pl_30 st rfl) (LyT rfl (yll rfl Tryz.underlying30) (LyT rfl (ygt rfl) (Ly rfl (yF rfl) (Ls_nil (Th_n (?_)))))))
  exact hout1 _ [(1, _), (13, _)] _ ⟨rfl, rfl, trivial⟩ ⟨by unfold ocheck_c1; rewrite [iN hc7]; rfl, (st.pk [0] (by decide)).pickK [0, 1], hF⟩
def oTags_L1 (s : SetM) (elem : List UInt8) : Nat → (List TagM) → Int → ((List TagM)) ⊕ ((List TagM) × Int)
  | 0, s5, s14 => .inr (s5, s14)
  | fuel + 1, s5, s14 =>
    if s14 < (s.adds.length : Int) then
      if ((ix s.adds s14).elem) = elem then
        oTags_L1 s elem fuel (s5 ++ [(ix s.adds s14).tag]) (s14 + 1)
      else
        oTags_L1 s elem fuel s5 (s14 + 1)
    else
      .inr (s5, s14)
def oTags_m (s : SetM) (elem : List UInt8) : (List TagM) :=
  if (ocheck_m s) = 0 then
    match oTags_L1 s elem (((s.adds.length : Int) - (0 : Int)).toNat + 1) ([] : List TagM) (0 : Int) with
    | .inl r => r
    | .inr (s5, s14) =>
      s5
  else
    ([] : List TagM)
theorem oTags_ok (X : List Nat) (w : World) (hX : Lo X w) (s : SetM) (A1 : Option Addr) (C1 : Nat) (A2 : Option Addr) (C2 : Nat) (elem : List UInt8) (z3 : Sld X w A1 s.adds.length C1 4 (s.adds.flatMap addMC)) (z4 : Sld X w A2 s.gone.length C2 3 (s.gone.flatMap tagMC)) (h1 : s.adds.length ≤ 1000000) (h2 : s.gone.length ≤ 1000000) :
    Fn Tryz.prog 29 [.agg #[.slice A1 s.adds.length C1, .slice A2 s.gone.length C2], sv elem] w fun v w' => ∃ (Ar : Option Addr) (cr : Nat), v = .slice Ar (oTags_m s elem).length cr ∧ Sld X w' Ar (oTags_m s elem).length cr 3 ((oTags_m s elem).flatMap tagMC) ∧ Fr [] w w' := by
  refine Fn_of 29 Ty.en_29 Tryz.func29 rfl rfl rfl ?_
  dsimp only [argEnv]
  have st := stn2 hX z3 z4
  have hF := Fr.refl ([]) w
  have z1 := (st.q 0 rfl).le
  have z2 := (st.q 1 rfl).le
  refine sq fun _ k1 => rg (La rfl (Sbx st hF rfl fun g1 w1 (st : St _ _ [_] _) hF hg1 => Ls' rfl (Ln k1 (sq fun _ k2 => sq fun _ k3 => rg (Ly rfl (yw 0 Ty.ag_52 st rfl) (La rfl (Scl st hF rfl (ocheck_ok (keys (hOf st) ++ X) _ st.Lo s A1 C1 A2 C2 (st.q 0 rfl) (st.q 1 rfl) h2) fun w2 st hF => Ly rfl (yne rfl) (Ln k3 (cN rfl (fun hc1 => ?_) (fun hc1 => ?_))))))))))
  · refine sq fun _ k4 => rg (Ls' rfl (Ln k4 ?_))
    have st := st.aN 3
    refine wR (Th_r (fR (Res1 rfl rfl) ?_))
    unfold oTags_m; rewrite [iN hc1]
    exact ⟨_, _, rfl, st.ot 2 rfl, hF⟩
  refine sk k2 (sq fun _ k5 => rg (Ls' rfl (Ln k5 (sq fun _ k6 => sq fun _ k7 => rg (Ly rfl (yf rfl Ty.fo_52_0) (Ly rfl (yl 0 Ty.pl_50 st rfl) (Ly rfl (yll rfl Tryz.underlying50) (Lm rfl (Ln k7 (Wp_block ?_))))))))))
  obtain ⟨st, how1, hnew1⟩ := st.rowN tagMC hF 3 43
  have st : St _ _ [_, _] _ := st
  refine lp (fun q E W => ∃ (s5 : List TagM) (s14 : Int) (As5 : Option Addr) (cs5 : Nat) (sps5 : List Value), E = [(1, sv elem), (5, .slice As5 s5.length cs5), (12, .slice A1 s.adds.length C1), (13, .int .i64 (s.adds.length : Int)), (14, .int .i64 s14)] ∧ jq q (fun m => (oTags_L1 s elem m s5 s14 = oTags_L1 s elem (((s.adds.length : Int) - (0 : Int)).toNat + 1) ([] : List TagM) (0 : Int) ∧ ((s.adds.length : Int) - s14).toNat < m)) (oTags_L1 s elem (((s.adds.length : Int) - (0 : Int)).toNat + 1) ([] : List TagM) (0 : Int) = .inr (s5, s14)) ∧ (0 ≤ s14 ∧ (s5.length : Int) ≤ s14) ∧ Ow As5 s5.length cs5 3 (s5.flatMap tagMC) sps5 ∧ (∀ g, blkOf As5 = some g → g ∈ ([]) ∨ w.heap.size ≤ g) ∧ St X W [(some g1, Cl [.slice A1 s.adds.length C1, .slice A2 s.gone.length C2] 52), (blkOf As5, Cl (s5.flatMap tagMC ++ sps5) 43)] [kS A1 s.adds.length C1 4 (s.adds.flatMap addMC), kS A2 s.gone.length C2 3 (s.gone.flatMap tagMC)] ∧ Fr ([]) w W) (((s.adds.length : Int) - (0 : Int)).toNat + 1) [(1, _), (5, _), (12, _), (13, _), (14, _)] ⟨rfl, rfl, rfl, rfl, rfl, trivial⟩ ⟨_, _, _, _, _, rfl, ⟨rfl, Nat.lt_succ_self _⟩, by first | omega | (simp; done) | (simp; omega), how1, hnew1, st, hF⟩ k6 ?_ fun hout1 => ?_
  · rintro E w3 ⟨s5, s14, As5, cs5, sps5, rfl, hLk1, hinv, hows5, news5, st, hF⟩
    unfold jq at hLk1; dsimp only at hLk1
    refine sq fun _ k8 => rg (Lm rfl (Ls' rfl (Ln k8 ?_)))
    have st : St X w3 [_] [_, _, _] := st.freeze (i := 1) [0] (by decide) rfl hows5 (by decide)
    refine wR (fR (Res1 rfl rfl) ?_)
    unfold oTags_m; rewrite [iP hc1, hLk1]; (try dsimp only)
    exact ⟨_, _, rfl, st.ot 2 rfl, hF⟩
  rintro m E w4 ⟨s5, s14, As5, cs5, sps5, rfl, ⟨hL1, hmu⟩, hinv, hows5, news5, st, hF⟩
  obtain ⟨fuel, rfl⟩ : ∃ q, m = q + 1 := ⟨m - 1, by omega⟩
  have z5 := Ow.le hows5
  refine sq fun _ k9 => rg (Ly rfl (ylt rfl) (Ln k9 (sq fun _ k10 => cD rfl (fun hc2 => ?_) (fun hc2 => ?_))))
  · refine sk k10 (sq fun _ k11 => Wp_block (sq fun _ k12 => rg ?_))
    obtain ⟨gi1, bi1, egi1⟩ := (st.k (i := 0) rfl).addr (fun _ => rfl) (by decide) (q := s14) (by first | omega | (simp; done) | (simp; omega)) (by first | omega | (simp; done) | (simp; omega))
    subst egi1
    refine Ly rfl (y_ixa (q := s14) rfl rfl rfl Ty.es_50 (by first | omega | (simp; done) | (simp; omega)) (by first | omega | (simp; done) | (simp; omega))) ?_
    refine Ly rfl (y_ldk (q := s14) rfl rfl Ty.ag_126 (fun _ e => e ▸ st.k (i := 0) rfl) (fun _ => rfl) (by first | omega | (simp; done) | (simp; omega)) (by first | omega | (simp; done) | (simp; omega))) ?_
    refine La rfl (Sal Ty.zc_126 st hF rfl fun g2 w5 (st : St _ _ [_, _, _] _) hF hg2 => La rfl (Ssw 2 Ty.sz_126 st hF (.inr hg2) rfl fun w6 (st : St _ _ [_, _, _] _) hF => Ln k12 (sq fun _ k13 => rg (Ly rfl (yf rfl Ty.fo_126_1) (Ly rfl (yl 2 Ty.pl_9 st rfl) (Lm rfl (Ly rfl (y_eqs rfl rfl rfl) (Ln k13 (cE rfl (fun hc3 => ?_) (fun hc3 => ?_))))))))))
    · refine rg (Lm rfl (Ly rfl (yf rfl Ty.fo_126_0) (Ly rfl (ym 2 Ty.ag_43 st rfl) (La rfl (Sb (enc := tagMC) ((ix s.adds s14).tag) Ty.es_30 Ty.zc_43 (fun _ => rfl) st hF rfl fun g3 w7 how2 hnew2 (st : St _ _ [_, _, _, _] _) hF => La rfl (Sap (enc := tagMC) s5 [(ix s.adds s14).tag] 1 Ty.es_30 Ty.zc_43 Ty.by_43 (fun _ => rfl) tagMC_1 hows5 news5 st hF (own_src (i := 3) st.hp rfl how2) (own_none how2) rfl (by first | omega | (simp; done) | (simp; omega)) (by first | omega | (simp; done) | (simp; omega)) fun Aa1 ca1 sp1 w8 how3 hnew3 (st : St _ _ [_, _, _, _] _) hF => ?_))))))
      refine Ls' rfl (Ls_nil (Ib_n (Th_n (k11 _ _ (rg (Ly rfl (y_add (c := s14 + 1) rfl rfl rfl (wf_i64 (by first | omega | (simp; done) | (simp; omega)))) ?_))))))
      refine Lm rfl (Ls_nil (Th_n (?_)))
      exact ⟨fuel, [(1, _), (5, _), (12, _), (13, _), (14, _)], Nat.lt_succ_self _, ⟨rfl, rfl, rfl, rfl, rfl, trivial⟩, (s5 ++ [(ix s.adds s14).tag]), (s14 + 1), Aa1, ca1, sp1, rfl, ⟨by rewrite [← hL1, oTags_L1]; rewrite [iP hc2, iP hc3]; rfl, by first | omega | (simp; done) | (simp; omega)⟩, by first | omega | (simp; done) | (simp; omega), how3, hnew3, (st.pk [0, 1] (by decide)).pickK [0, 1], hF⟩
    refine Wp_skip (Ib_n (Th_n (k11 _ _ (rg (Ly rfl (y_add (c := s14 + 1) rfl rfl rfl (wf_i64 (by first | omega | (simp; done) | (simp; omega)))) ?_)))))
    refine Lm rfl (Ls_nil (Th_n (?_)))
    exact ⟨fuel, [(1, _), (5, _), (12, _), (13, _), (14, _)], Nat.lt_succ_self _, ⟨rfl, rfl, rfl, rfl, rfl, trivial⟩, s5, (s14 + 1), As5, cs5, sps5, rfl, ⟨by rewrite [← hL1, oTags_L1]; rewrite [iP hc2, iN hc3]; rfl, by first | omega | (simp; done) | (simp; omega)⟩, by first | omega | (simp; done) | (simp; omega), hows5, news5, (st.pk [0, 1] (by decide)).pickK [0, 1], hF⟩
  refine Wp_exit (Th_e (Th_e (Ib_hit (Th_n (?_)))))
  exact hout1 _ [(1, _), (5, _), (12, _), (13, _), (14, _)] _ ⟨rfl, rfl, rfl, rfl, rfl, trivial⟩ ⟨s5, s14, As5, cs5, sps5, rfl, show _ = _ from by rewrite [← hL1, oTags_L1]; rewrite [iN hc2]; rfl, by first | omega | (simp; done) | (simp; omega), hows5, news5, (st.pk [0, 1] (by decide)).pickK [0, 1], hF⟩
end Go.Proofs.YtdckemiebnfjcaaGreatDoor

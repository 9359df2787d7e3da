/- Walks printed by gen2.py out of our own specifications: what the functions named below do. -/
import Derived.Test.YtdgllcmlfblelaaGreatDoorSc
import Derived.Test.YtdgllcmlfblelaaGreatDoorB2
import Derived.Test.YtdgllcmlfblelaaGreatDoorSr
set_option linter.unusedSimpArgs false
set_option linter.unusedVariables false
namespace Go.Proofs.YtdgllcmlfblelaaGreatDoor
open Go.RowKit

def nanI_m (x : Int) : Bool :=
  x != x


set_option maxRecDepth 20000 in
theorem nanI_ok (w : World) (x : Int) :
    Fn Tryz.prog 90 [.int .i64 x] w fun v w' => v = .bool (nanI_m x) ∧ Fr [] w w' := by
  refine Fn_of 6 Ty.en_90 Tryz.func90 rfl rfl rfl ?_
  dsimp only [argEnv]
  have st := stn0 (X := []) (w := w) (by simp [Lo])
  have hF := Fr.refl ([]) w
  refine sq fun _ k1 => rg (Ls' rfl (Ln k1 (sq fun _ k2 => rg (Lm rfl (Lm rfl (Ly rfl (yne rfl) (Ls' rfl (Ln k2 (Wp_ret (Fq_ret (Res1 rfl rfl) ?_))))))))))
  unfold nanI_m
  exact ⟨rfl, hF⟩

def nanU_m (x : Int) : Bool :=
  x != x


set_option maxRecDepth 20000 in
theorem nanU_ok (w : World) (x : Int) :
    Fn Tryz.prog 91 [.int .u32 x] w fun v w' => v = .bool (nanU_m x) ∧ Fr [] w w' := by
  refine Fn_of 6 Ty.en_91 Tryz.func91 rfl rfl rfl ?_
  dsimp only [argEnv]
  have st := stn0 (X := []) (w := w) (by simp [Lo])
  have hF := Fr.refl ([]) w
  refine sq fun _ k1 => rg (Ls' rfl (Ln k1 (sq fun _ k2 => rg (Lm rfl (Lm rfl (Ly rfl (yne rfl) (Ls' rfl (Ln k2 (Wp_ret (Fq_ret (Res1 rfl rfl) ?_))))))))))
  unfold nanU_m
  exact ⟨rfl, hF⟩

def cmpI_m (x : Int) (y : Int) : Int :=
  if (nanI_m x) = true then
    if (nanI_m y) = true then
      0
    else
      (-1)
  else
    if (nanI_m y) = true then
      1
    else
      if x < y then
        (-1)
      else
        if y < x then
          1
        else
          0


set_option maxRecDepth 20000 in
theorem cmpI_ok (w : World) (x : Int) (y : Int) :
    Fn Tryz.prog 76 [.int .i64 x, .int .i64 y] w fun v w' => v = .int .i64 (cmpI_m x y) ∧ Fr [] w w' := by
  refine Fn_of 20 Ty.en_76 Tryz.func76 rfl rfl rfl ?_
  dsimp only [argEnv]
  have st := stn0 (X := []) (w := w) (by simp [Lo])
  have hF := Fr.refl ([]) w
  refine sq fun _ k1 => rg (Ls' rfl (Ln k1 (sq fun _ k2 => rg (Lm rfl (La rfl (Scl st hF rfl (nanI_ok _ x) fun w1 st hF => Ls' rfl (Ln k2 (sq fun _ k3 => rg (Lm rfl (La rfl (Scl st hF rfl (nanI_ok _ y) fun w2 st hF => Ls' rfl (Ln k3 (sq fun _ k4 => sq fun _ k5 => rg (Lm rfl (Ln k5 (cB rfl (fun hc1 => ?_) (fun hc1 => ?_)))))))))))))))))
  · refine sq fun _ k6 => sq fun _ k7 => rg (Lm rfl (Ln k7 (cB rfl (fun hc2 => ?_) (fun hc2 => ?_))))
    · refine sq fun _ k8 => rg (Ls' rfl (Ln k8 (Wp_ret (Th_r (Th_r (Fq_ret (Res1 rfl rfl) ?_))))))
      unfold cmpI_m; rewrite [if_pos hc1, if_pos hc2]
      exact ⟨rfl, hF⟩
    refine sk k6 (sq fun _ k9 => rg (Ls' rfl (Ln k9 (Wp_ret (Th_r (Fq_ret (Res1 rfl rfl) ?_))))))
    unfold cmpI_m; rewrite [if_pos hc1, if_neg hc2]
    exact ⟨rfl, hF⟩
  refine sk k4 (sq fun _ k10 => sq fun _ k11 => rg (Lm rfl (Ln k11 (cB rfl (fun hc3 => ?_) (fun hc3 => ?_)))))
  · refine sq fun _ k12 => rg (Ls' rfl (Ln k12 (Wp_ret (Th_r (Fq_ret (Res1 rfl rfl) ?_)))))
    unfold cmpI_m; rewrite [if_neg hc1, if_pos hc3]
    exact ⟨rfl, hF⟩
  refine sk k10 (sq fun _ k13 => sq fun _ k14 => rg (Lm rfl (Lm rfl (Ly rfl (ylt rfl) (Ln k14 (cD rfl (fun hc4 => ?_) (fun hc4 => ?_)))))))
  · refine sq fun _ k15 => rg (Ls' rfl (Ln k15 (Wp_ret (Th_r (Fq_ret (Res1 rfl rfl) ?_)))))
    unfold cmpI_m; rewrite [if_neg hc1, if_neg hc3, if_pos hc4]
    exact ⟨rfl, hF⟩
  refine sk k13 (sq fun _ k16 => sq fun _ k17 => rg (Lm rfl (Lm rfl (Ly rfl (ygt rfl) (Ln k17 (cD rfl (fun hc5 => ?_) (fun hc5 => ?_)))))))
  · refine sq fun _ k18 => rg (Ls' rfl (Ln k18 (Wp_ret (Th_r (Fq_ret (Res1 rfl rfl) ?_)))))
    unfold cmpI_m; rewrite [if_neg hc1, if_neg hc3, if_neg hc4, if_pos hc5]
    exact ⟨rfl, hF⟩
  refine sk k16 (sq fun _ k19 => rg (Ls' rfl (Ln k19 (Wp_ret (Fq_ret (Res1 rfl rfl) ?_)))))
  unfold cmpI_m; rewrite [if_neg hc1, if_neg hc3, if_neg hc4, if_neg hc5]
  exact ⟨rfl, hF⟩

def cmpU_m (x : Int) (y : Int) : Int :=
  if (nanU_m x) = true then
    if (nanU_m y) = true then
      0
    else
      (-1)
  else
    if (nanU_m y) = true then
      1
    else
      if x < y then
        (-1)
      else
        if y < x then
          1
        else
          0


set_option maxRecDepth 20000 in
theorem cmpU_ok (w : World) (x : Int) (y : Int) :
    Fn Tryz.prog 89 [.int .u32 x, .int .u32 y] w fun v w' => v = .int .i64 (cmpU_m x y) ∧ Fr [] w w' := by
  refine Fn_of 20 Ty.en_89 Tryz.func89 rfl rfl rfl ?_
  dsimp only [argEnv]
  have st := stn0 (X := []) (w := w) (by simp [Lo])
  have hF := Fr.refl ([]) w
  refine sq fun _ k1 => rg (Ls' rfl (Ln k1 (sq fun _ k2 => rg (Lm rfl (La rfl (Scl st hF rfl (nanU_ok _ x) fun w1 st hF => Ls' rfl (Ln k2 (sq fun _ k3 => rg (Lm rfl (La rfl (Scl st hF rfl (nanU_ok _ y) fun w2 st hF => Ls' rfl (Ln k3 (sq fun _ k4 => sq fun _ k5 => rg (Lm rfl (Ln k5 (cB rfl (fun hc1 => ?_) (fun hc1 => ?_)))))))))))))))))
  · refine sq fun _ k6 => sq fun _ k7 => rg (Lm rfl (Ln k7 (cB rfl (fun hc2 => ?_) (fun hc2 => ?_))))
    · refine sq fun _ k8 => rg (Ls' rfl (Ln k8 (Wp_ret (Th_r (Th_r (Fq_ret (Res1 rfl rfl) ?_))))))
      unfold cmpU_m; rewrite [if_pos hc1, if_pos hc2]
      exact ⟨rfl, hF⟩
    refine sk k6 (sq fun _ k9 => rg (Ls' rfl (Ln k9 (Wp_ret (Th_r (Fq_ret (Res1 rfl rfl) ?_))))))
    unfold cmpU_m; rewrite [if_pos hc1, if_neg hc2]
    exact ⟨rfl, hF⟩
  refine sk k4 (sq fun _ k10 => sq fun _ k11 => rg (Lm rfl (Ln k11 (cB rfl (fun hc3 => ?_) (fun hc3 => ?_)))))
  · refine sq fun _ k12 => rg (Ls' rfl (Ln k12 (Wp_ret (Th_r (Fq_ret (Res1 rfl rfl) ?_)))))
    unfold cmpU_m; rewrite [if_neg hc1, if_pos hc3]
    exact ⟨rfl, hF⟩
  refine sk k10 (sq fun _ k13 => sq fun _ k14 => rg (Lm rfl (Lm rfl (Ly rfl (ylt rfl) (Ln k14 (cD rfl (fun hc4 => ?_) (fun hc4 => ?_)))))))
  · refine sq fun _ k15 => rg (Ls' rfl (Ln k15 (Wp_ret (Th_r (Fq_ret (Res1 rfl rfl) ?_)))))
    unfold cmpU_m; rewrite [if_neg hc1, if_neg hc3, if_pos hc4]
    exact ⟨rfl, hF⟩
  refine sk k13 (sq fun _ k16 => sq fun _ k17 => rg (Lm rfl (Lm rfl (Ly rfl (ygt rfl) (Ln k17 (cD rfl (fun hc5 => ?_) (fun hc5 => ?_)))))))
  · refine sq fun _ k18 => rg (Ls' rfl (Ln k18 (Wp_ret (Th_r (Fq_ret (Res1 rfl rfl) ?_)))))
    unfold cmpU_m; rewrite [if_neg hc1, if_neg hc3, if_neg hc4, if_pos hc5]
    exact ⟨rfl, hF⟩
  refine sk k16 (sq fun _ k19 => rg (Ls' rfl (Ln k19 (Wp_ret (Fq_ret (Res1 rfl rfl) ?_)))))
  unfold cmpU_m; rewrite [if_neg hc1, if_neg hc3, if_neg hc4, if_neg hc5]
  exact ⟨rfl, hF⟩

def cmpOr_L1 (l : List Int) : Nat → Int → (Int) ⊕ (Int)
  | 0, s8 => .inr (s8)
  | fuel + 1, s8 =>
    if s8 < (l.length : Int) then
      if (ix l s8) = 0 then
        cmpOr_L1 l fuel (s8 + 1)
      else
        .inl (ix l s8)
    else
      .inr (s8)
def cmpOr_m (l : List Int) : Int :=
  match cmpOr_L1 l (((l.length : Int) - (0 : Int)).toNat + 1) (0 : Int) with
  | .inl r => r
  | .inr (s8) =>
    0


set_option maxRecDepth 20000 in
theorem cmpOr_ok (X : List Nat) (w : World) (hX : Lo X w) (l : List Int) (A_l : Option Addr) (c_l : Nat) (h_l : Sld X w A_l l.length c_l 1 (l.flatMap (fun x => [Value.int .i64 x]))) :
    Fn Tryz.prog 74 [.slice A_l l.length c_l] w fun v w' => v = .int .i64 (cmpOr_m l) ∧ Fr [] w w' := by
  refine Fn_of 18 Ty.en_74 Tryz.func74 rfl rfl rfl ?_
  dsimp only [argEnv]
  have st := stn1 hX h_l
  have hF := Fr.refl ([]) w
  have z1 := (st.q 0 rfl).le
  refine sq fun _ k1 => rg (Ls' rfl (Ln k1 (sq fun _ k2 => rg (Ls' rfl (Ln k2 (sq fun _ k3 => sq fun _ k4 => rg (Lm rfl (Ly rfl (yll rfl Tryz.underlying154) (Lm rfl (Ln k4 (Wp_block (lp (fun q E W => ∃ (s8 : Int), E = [(3, .int .i64 0), (6, .slice A_l l.length c_l), (7, .int .i64 (l.length : Int)), (8, .int .i64 s8)] ∧ jq q (fun m => (cmpOr_L1 l m s8 = cmpOr_L1 l (((l.length : Int) - (0 : Int)).toNat + 1) (0 : Int) ∧ ((l.length : Int) - s8).toNat < m)) (cmpOr_L1 l (((l.length : Int) - (0 : Int)).toNat + 1) (0 : Int) = .inr (s8)) ∧ (0 ≤ s8) ∧ St X W [] [kS A_l l.length c_l 1 (l.flatMap (fun x => [Value.int .i64 x]))] ∧ Fr ([]) w W) (((l.length : Int) - (0 : Int)).toNat + 1) [(3, _), (6, _), (7, _), (8, _)] ⟨rfl, rfl, rfl, rfl, trivial⟩ ⟨_, rfl, ⟨rfl, Nat.lt_succ_self _⟩, by first | omega | (simp; done) | (simp; omega), st, hF⟩ k3 ?_ fun hout1 => ?_))))))))))))
  · rintro E w1 ⟨s8, rfl, hLk1, hinv, st, hF⟩
    unfold jq at hLk1; dsimp only at hLk1
    refine sq fun _ k5 => rg (Lm rfl (Ls' rfl (Ln k5 (Wp_ret (Fq_ret (Res1 rfl rfl) ?_)))))
    unfold cmpOr_m; rewrite [hLk1]; (try dsimp only)
    exact ⟨rfl, hF⟩
  rintro m E w2 ⟨s8, rfl, ⟨hL1, hmu⟩, hinv, st, hF⟩
  obtain ⟨fuel, rfl⟩ : ∃ q, m = q + 1 := ⟨m - 1, by omega⟩
  refine sq fun _ k6 => rg (Ly rfl (ylt rfl) (Ln k6 (sq fun _ k7 => cD rfl (fun hc1 => ?_) (fun hc1 => ?_))))
  · refine sk k7 (sq fun _ k8 => Wp_block (sq fun _ k9 => rg ?_))
    obtain ⟨gi1, bi1, egi1⟩ := (st.k (i := 0) rfl).addr (fun _ => rfl) (by decide) (q := s8) (by first | omega | (simp; done) | (simp; omega)) (by first | omega | (simp; done) | (simp; omega))
    subst egi1
    refine Ly rfl (y_ixa (q := s8) rfl rfl rfl Ty.es_154 (by first | omega | (simp; done) | (simp; omega)) (by first | omega | (simp; done) | (simp; omega))) ?_
    refine Ly rfl (y_ldk1 (q := s8) 0 rfl rfl Ty.pl_3 (fun _ e => e ▸ st.k (i := 0) rfl) (fun _ => rfl) (by first | omega | (simp; done) | (simp; omega)) (by first | omega | (simp; done) | (simp; omega)) rfl) ?_
    refine Ls' rfl (Ln k9 (sq fun _ k10 => rg (Lm rfl (Lm rfl (Ly rfl (yne rfl) (Ln k10 (cN rfl (fun hc2 => ?_) (fun hc2 => ?_))))))))
    · refine sq fun _ k11 => rg (Lm rfl (Ls' rfl (Ln k11 (Wp_ret (Ib_r (Th_r (Th_r (Ib_r (Th_r (Fq_ret (Res1 rfl rfl) ?_))))))))))
      have hret1 : cmpOr_L1 l (((l.length : Int) - (0 : Int)).toNat + 1) (0 : Int) = .inl (ix l s8) := by rewrite [← hL1, cmpOr_L1]; rewrite [if_pos hc1, if_neg hc2]; rfl
      have he2 : cmpOr_m l = (ix l s8) := by unfold cmpOr_m; rewrite [hret1]; (try dsimp only); all_goals rfl
      rewrite [he2]
      exact ⟨rfl, hF⟩
    refine Wp_skip (Ib_n (Th_n (k8 _ _ (rg (Ly rfl (y_add (c := s8 + 1) rfl rfl rfl (wf_i64 (by first | omega | (simp; done) | (simp; omega)))) ?_)))))
    refine Lm rfl (Ls_nil (Th_n (?_)))
    exact ⟨fuel, [(3, _), (6, _), (7, _), (8, _)], Nat.lt_succ_self _, ⟨rfl, rfl, rfl, rfl, trivial⟩, (s8 + 1), rfl, ⟨by rewrite [← hL1, cmpOr_L1]; rewrite [if_pos hc1, if_pos hc2]; rfl, by first | omega | (simp; done) | (simp; omega)⟩, by first | omega | (simp; done) | (simp; omega), (st.picks [] (by decide)).pickK [0], hF⟩
  refine Wp_exit (Th_e (Th_e (Ib_hit (Th_n (?_)))))
  exact hout1 _ [(3, _), (6, _), (7, _), (8, _)] _ ⟨rfl, rfl, rfl, rfl, trivial⟩ ⟨s8, rfl, show _ = _ from by rewrite [← hL1, cmpOr_L1]; rewrite [if_neg hc1]; rfl, by first | omega | (simp; done) | (simp; omega), (st.picks [] (by decide)).pickK [0], hF⟩

def icheck_c1 (id : IdM) : Bool :=
  (if id.origin < 0 then true else (if 8 ≤ id.origin then true else (if id.seq = 0 then true else decide (1048576 < id.seq))))
def icheck_m (id : IdM) : Int :=
  if (icheck_c1 id) = true then
    2
  else
    0

theorem icheck_c1_iff (id : IdM) : (icheck_c1 id = true) ↔ ((id.origin < 0) ∨ ((8 ≤ id.origin) ∨ ((id.seq = 0) ∨ (1048576 < id.seq)))) := by
  unfold icheck_c1; exact (ci1 (ci1 (ci1 decide_eq_true_iff)))

set_option maxRecDepth 20000 in
theorem icheck_ok (w : World) (id : IdM) :
    Fn Tryz.prog 77 [.agg (idMC id).toArray] w fun v w' => v = .int .i64 (icheck_m id) ∧ Fr [] w w' := by
  refine Fn_of 21 Ty.en_77 Tryz.func77 rfl rfl rfl ?_
  dsimp only [argEnv]
  have st := stn0 (X := []) (w := w) (by simp [Lo])
  have hF := Fr.refl ([]) w
  refine sq fun _ k1 => rg (La rfl (Sbx st hF rfl fun g1 w1 (st : St _ _ [_] _) hF hg1 => Ls' rfl (Ln k1 (sq fun _ k2 => sq fun _ k3 => ?_))))
  refine use_out k3 (fun E W => E = [(20, .bool (icheck_c1 id))] ∧ St [] W (hOf st) (kOf st) ∧ Fr ([]) w W) ?_ fun hout1 => ?_
  · rintro E w2 ⟨rfl, st, hF⟩
    have st : St [] w2 [_] [] := st
    refine cB rfl (fun hc1 => ?_) (fun hc1 => ?_)
    · have jhc1 := (icheck_c1_iff id).1 hc1
      refine sq fun _ k4 => rg (Ls' rfl (Ln k4 (Wp_ret (Th_r (Fq_ret (Res1 rfl rfl) ?_)))))
      unfold icheck_m; rewrite [if_pos hc1]
      exact ⟨rfl, hF⟩
    have jhc1 := mt (icheck_c1_iff id).2 hc1
    refine sk k2 (sq fun _ k5 => rg (Ls' rfl (Ln k5 (Wp_ret (Fq_ret (Res1 rfl rfl) ?_)))))
    unfold icheck_m; rewrite [if_neg hc1]
    exact ⟨rfl, hF⟩
  refine rg (Ly rfl (yf rfl Ty.fo_24_0) (Ly rfl (yl 0 Ty.pl_3 st rfl) (Ly rfl (ylt rfl) (Lm rfl (bD (s := 6) rfl (fun hc2 => ?_) (fun hc2 => ?_))))))
  · refine LsF rfl (LsF rfl (LsF rfl (Ly rfl (yT rfl) (Lm rfl (LsF rfl (LsF rfl (LsF rfl (Ly rfl (yT rfl) (Lm rfl (LsF rfl (LsF rfl (LsF rfl (Ly rfl (yT rfl) (Ls_nil (Th_n (?_))))))))))))))))
    exact hout1 _ [(20, _)] _ ⟨rfl, trivial⟩ ⟨by unfold icheck_c1; rewrite [if_pos hc2]; rfl, (st.picks [0] (by decide)).pickK [], hF⟩
  refine LyT rfl (yf rfl Ty.fo_24_0) (LyT rfl (yl 0 Ty.pl_3 st rfl) (LyT rfl (yge rfl) (Ly rfl (yF rfl) (Lm rfl (bD (s := 11) rfl (fun hc3 => ?_) (fun hc3 => ?_))))))
  · refine LsF rfl (LsF rfl (LsF rfl (Ly rfl (yT rfl) (Lm rfl (LsF rfl (LsF rfl (LsF rfl (Ly rfl (yT rfl) (Ls_nil (Th_n (?_)))))))))))
    exact hout1 _ [(20, _)] _ ⟨rfl, trivial⟩ ⟨by unfold icheck_c1; rewrite [if_neg hc2, if_pos hc3]; rfl, (st.picks [0] (by decide)).pickK [], hF⟩
  refine LyT rfl (yf rfl Ty.fo_24_1) (LyT rfl (yl 0 Ty.pl_22 st rfl) (LyT rfl (yeq rfl) (Ly rfl (yF rfl) (Lm rfl (bE (s := 16) rfl (fun hc4 => ?_) (fun hc4 => ?_))))))
  · refine LsF rfl (LsF rfl (LsF rfl (Ly rfl (yT rfl) (Ls_nil (Th_n (?_))))))
    exact hout1 _ [(20, _)] _ ⟨rfl, trivial⟩ ⟨by unfold icheck_c1; rewrite [if_neg hc2, if_neg hc3, if_pos hc4]; rfl, (st.picks [0] (by decide)).pickK [], hF⟩
  refine LyT rfl (yf rfl Ty.fo_24_1) (LyT rfl (yl 0 Ty.pl_22 st rfl) (LyT rfl (ygt rfl) (Ly rfl (yF rfl) (Ls_nil (Th_n (?_))))))
  exact hout1 _ [(20, _)] _ ⟨rfl, trivial⟩ ⟨by unfold icheck_c1; rewrite [if_neg hc2, if_neg hc3, if_neg hc4]; rfl, (st.picks [0] (by decide)).pickK [], hF⟩

def icheckTag_c1 (t : TagM) : Bool :=
  (if t.n < 0 then true else decide (16 ≤ t.n))
def icheckTag_m (t : TagM) : Int :=
  if (icheckTag_c1 t) = true then
    2
  else
    icheck_m t.id

theorem icheckTag_c1_iff (t : TagM) : (icheckTag_c1 t = true) ↔ ((t.n < 0) ∨ (16 ≤ t.n)) := by
  unfold icheckTag_c1; exact (ci1 decide_eq_true_iff)

set_option maxRecDepth 20000 in
theorem icheckTag_ok (w : World) (t : TagM) :
    Fn Tryz.prog 52 [.agg (tagMC t).toArray] w fun v w' => v = .int .i64 (icheckTag_m t) ∧ Fr [] w w' := by
  refine Fn_of 14 Ty.en_52 Tryz.func52 rfl rfl rfl ?_
  dsimp only [argEnv]
  have st := stn0 (X := []) (w := w) (by simp [Lo])
  have hF := Fr.refl ([]) w
  refine sq fun _ k1 => rg (La rfl (Sbx st hF rfl fun g1 w1 (st : St _ _ [_] _) hF hg1 => Ls' rfl (Ln k1 (sq fun _ k2 => sq fun _ k3 => ?_))))
  refine use_out k3 (fun E W => E = [(1, .pointer (some ⟨g1, 0, none⟩)), (10, .bool (icheckTag_c1 t))] ∧ St [] W (hOf st) (kOf st) ∧ Fr ([]) w W) ?_ fun hout1 => ?_
  · rintro E w2 ⟨rfl, st, hF⟩
    have st : St [] w2 [_] [] := st
    refine cB rfl (fun hc1 => ?_) (fun hc1 => ?_)
    · have jhc1 := (icheckTag_c1_iff t).1 hc1
      refine sq fun _ k4 => rg (Ls' rfl (Ln k4 (Wp_ret (Th_r (Fq_ret (Res1 rfl rfl) ?_)))))
      unfold icheckTag_m; rewrite [if_pos hc1]
      exact ⟨rfl, hF⟩
    have jhc1 := mt (icheckTag_c1_iff t).2 hc1
    refine sk k2 (sq fun _ k5 => rg (Ly rfl (yf rfl Ty.fo_26_0) (Ly rfl (ym 0 Ty.ag_24 st rfl) (La rfl (Scl st hF rfl (icheck_ok _ t.id) fun w3 st hF => Ls' rfl (Ln k5 (Wp_ret (Fq_ret (Res1 rfl rfl) ?_))))))))
    unfold icheckTag_m; rewrite [if_neg hc1]
    exact ⟨rfl, hF⟩
  refine rg (Ly rfl (yf rfl Ty.fo_26_1) (Ly rfl (yl 0 Ty.pl_3 st rfl) (Ly rfl (ylt rfl) (Lm rfl (bD (s := 6) rfl (fun hc2 => ?_) (fun hc2 => ?_))))))
  · refine LsF rfl (LsF rfl (LsF rfl (Ly rfl (yT rfl) (Ls_nil (Th_n (?_))))))
    exact hout1 _ [(1, _), (10, _)] _ ⟨rfl, rfl, trivial⟩ ⟨by unfold icheckTag_c1; rewrite [if_pos hc2]; rfl, (st.picks [0] (by decide)).pickK [], hF⟩
  refine LyT rfl (yf rfl Ty.fo_26_1) (LyT rfl (yl 0 Ty.pl_3 st rfl) (LyT rfl (yge rfl) (Ly rfl (yF rfl) (Ls_nil (Th_n (?_))))))
  exact hout1 _ [(1, _), (10, _)] _ ⟨rfl, rfl, trivial⟩ ⟨by unfold icheckTag_c1; rewrite [if_neg hc2]; rfl, (st.picks [0] (by decide)).pickK [], hF⟩

def icompare_m (a : IdM) (b : IdM) : Int :=
  cmpOr_m [cmpI_m a.origin b.origin, cmpU_m a.seq b.seq]


set_option maxRecDepth 20000 in
theorem icompare_ok (w : World) (a : IdM) (b : IdM) :
    Fn Tryz.prog 75 [.agg (idMC a).toArray, .agg (idMC b).toArray] w fun v w' => v = .int .i64 (icompare_m a b) ∧ Fr [] w w' := by
  refine Fn_of 17 Ty.en_75 Tryz.func75 rfl rfl rfl ?_
  dsimp only [argEnv]
  have st := stn0 (X := []) (w := w) (by simp [Lo])
  have hF := Fr.refl ([]) w
  refine sq fun _ k1 => rg (La rfl (Sbx st hF rfl fun g1 w1 (st : St _ _ [_] _) hF hg1 => La rfl (Sbx st hF rfl fun g2 w2 (st : St _ _ [_, _] _) hF hg2 => Ls' rfl (Ln k1 (sq fun _ k2 => ?_)))))
  refine Wp_plan (fun W => St [] W (pickL (hOf st) [0, 1]) (kOf st)) [(true, 0), (true, 1), (true, 2), (true, 3), (true, 5), (true, 6), (true, 7), (true, 8), (false, 4), (false, 9), (false, 10), (false, 11), (true, 12)] Ty.mx_0 (by kernel_rfl) (by kernel_rfl) rfl ((st.picks [0, 1] (by decide)).drew) ?_
  have st := st.drew
  have hF := hF.step0 (Fr.drew _)
  refine Py rfl (yf rfl Ty.fo_24_0) (Py rfl (y_load (i := 0) rfl rfl Ty.pl_3 (fun _ h => h.hp) rfl rfl) (Py rfl (yf rfl Ty.fo_24_0) (Py rfl (y_load (i := 1) rfl rfl Ty.pl_3 (fun _ h => h.hp) rfl rfl) (Py rfl (yf rfl Ty.fo_24_1) (Py rfl (y_load (i := 0) rfl rfl Ty.pl_22 (fun _ h => h.hp) rfl rfl) (Py rfl (yf rfl Ty.fo_24_1) (Py rfl (y_load (i := 1) rfl rfl Ty.pl_22 (fun _ h => h.hp) rfl rfl) (Pl_a rfl (wtd0 rfl) (by rfl) ?_))))))))
  refine Scl st hF rfl (cmpI_ok _ a.origin b.origin) fun w3 st hF => ?_
  refine ⟨(st.picks [0, 1] (by decide)).takeK 0, ?_⟩
  refine Pl_a rfl (wtd0 rfl) (by rfl) ?_
  refine Scl st hF rfl (cmpU_ok _ a.seq b.seq) fun w4 st hF => ?_
  refine ⟨(st.picks [0, 1] (by decide)).takeK 0, ?_⟩
  refine Pl_a rfl (wtd0 rfl) (by rfl) ?_
  refine a_bsl rfl rfl rfl rfl rfl Ty.es_154 Ty.zc_3 rfl (by decide) (by simp [Value.cells]) st.hp (fun g3 w5 (hp : Hp w5 [_, _, _]) hf hg3 => ?_)
  have how1 : Ow (some ⟨g3, 0, none⟩) [cmpI_m a.origin b.origin, cmpU_m a.seq b.seq].length 2 1 ([cmpI_m a.origin b.origin, cmpU_m a.seq b.seq].flatMap (fun x => [Value.int .i64 x])) [] := ⟨rfl, .inr ⟨g3, rfl, rfl, Nat.le_refl _, by unfold maxLen; decide⟩⟩
  have st : St [] w5 [_, _, _] [] := st.push hp hf hg3
  have st : St [] w5 [_, _, _] [] := st
  have hg3 := Nat.le_trans hF.size hg3
  have hF := hF.step0 hf
  have hnew1 := newB (X0 := []) hg3
  refine ⟨(st.picks [0, 1] (by decide)).takeK 0, ?_⟩
  refine Pl_a rfl (wtd0 rfl) (by rfl) ?_
  refine Scl st hF rfl (cmpOr_ok (keys (pickL (hOf st) [0, 1]) ++ []) _ (st.sub [0, 1] [] [] (by decide)).lo [cmpI_m a.origin b.origin, cmpU_m a.seq b.seq] (some ⟨g3, 0, none⟩) 2 ((st.freeze (i := 2) [0, 1] (by decide) rfl how1 (by decide)).k (i := 0) rfl)) fun w6 st hF => ?_
  refine ⟨(st.picks [0, 1] (by decide)).takeK 0, ?_⟩
  refine Py rfl (y_assign rfl rfl) (Pl_nil (Th_n (k2 _ _ (Wp_ret (Fq_ret (Res1 rfl rfl) ?_)))))
  unfold icompare_m
  exact ⟨rfl, hF⟩

def icompareTag_m (a : TagM) (b : TagM) : Int :=
  cmpOr_m [icompare_m a.id b.id, cmpI_m a.n b.n]


set_option maxRecDepth 20000 in
theorem icompareTag_ok (w : World) (a : TagM) (b : TagM) :
    Fn Tryz.prog 51 [.agg (tagMC a).toArray, .agg (tagMC b).toArray] w fun v w' => v = .int .i64 (icompareTag_m a b) ∧ Fr [] w w' := by
  refine Fn_of 17 Ty.en_51 Tryz.func51 rfl rfl rfl ?_
  dsimp only [argEnv]
  have st := stn0 (X := []) (w := w) (by simp [Lo])
  have hF := Fr.refl ([]) w
  refine sq fun _ k1 => rg (La rfl (Sbx st hF rfl fun g1 w1 (st : St _ _ [_] _) hF hg1 => La rfl (Sbx st hF rfl fun g2 w2 (st : St _ _ [_, _] _) hF hg2 => Ls' rfl (Ln k1 (sq fun _ k2 => ?_)))))
  refine Wp_plan (fun W => St [] W (pickL (hOf st) [0, 1]) (kOf st)) [(true, 0), (true, 1), (true, 2), (true, 3), (true, 5), (true, 6), (true, 7), (true, 8), (false, 4), (false, 9), (false, 10), (false, 11), (true, 12)] Ty.mx_0 (by kernel_rfl) (by kernel_rfl) rfl ((st.picks [0, 1] (by decide)).drew) ?_
  have st := st.drew
  have hF := hF.step0 (Fr.drew _)
  refine Py rfl (yf rfl Ty.fo_26_0) (Py rfl (y_loadm (i := 0) rfl rfl Ty.ag_24 (fun _ h => h.hp) rfl rfl rfl) (Py rfl (yf rfl Ty.fo_26_0) (Py rfl (y_loadm (i := 1) rfl rfl Ty.ag_24 (fun _ h => h.hp) rfl rfl rfl) (Py rfl (yf rfl Ty.fo_26_1) (Py rfl (y_load (i := 0) rfl rfl Ty.pl_3 (fun _ h => h.hp) rfl rfl) (Py rfl (yf rfl Ty.fo_26_1) (Py rfl (y_load (i := 1) rfl rfl Ty.pl_3 (fun _ h => h.hp) rfl rfl) (Pl_a rfl (wtd0 rfl) (by rfl) ?_))))))))
  refine Scl st hF rfl (icompare_ok _ a.id b.id) fun w3 st hF => ?_
  refine ⟨(st.picks [0, 1] (by decide)).takeK 0, ?_⟩
  refine Pl_a rfl (wtd0 rfl) (by rfl) ?_
  refine Scl st hF rfl (cmpI_ok _ a.n b.n) fun w4 st hF => ?_
  refine ⟨(st.picks [0, 1] (by decide)).takeK 0, ?_⟩
  refine Pl_a rfl (wtd0 rfl) (by rfl) ?_
  refine a_bsl rfl rfl rfl rfl rfl Ty.es_154 Ty.zc_3 rfl (by decide) (by simp [Value.cells]) st.hp (fun g3 w5 (hp : Hp w5 [_, _, _]) hf hg3 => ?_)
  have how1 : Ow (some ⟨g3, 0, none⟩) [icompare_m a.id b.id, cmpI_m a.n b.n].length 2 1 ([icompare_m a.id b.id, cmpI_m a.n b.n].flatMap (fun x => [Value.int .i64 x])) [] := ⟨rfl, .inr ⟨g3, rfl, rfl, Nat.le_refl _, by unfold maxLen; decide⟩⟩
  have st : St [] w5 [_, _, _] [] := st.push hp hf hg3
  have st : St [] w5 [_, _, _] [] := st
  have hg3 := Nat.le_trans hF.size hg3
  have hF := hF.step0 hf
  have hnew1 := newB (X0 := []) hg3
  refine ⟨(st.picks [0, 1] (by decide)).takeK 0, ?_⟩
  refine Pl_a rfl (wtd0 rfl) (by rfl) ?_
  refine Scl st hF rfl (cmpOr_ok (keys (pickL (hOf st) [0, 1]) ++ []) _ (st.sub [0, 1] [] [] (by decide)).lo [icompare_m a.id b.id, cmpI_m a.n b.n] (some ⟨g3, 0, none⟩) 2 ((st.freeze (i := 2) [0, 1] (by decide) rfl how1 (by decide)).k (i := 0) rfl)) fun w6 st hF => ?_
  refine ⟨(st.picks [0, 1] (by decide)).takeK 0, ?_⟩
  refine Py rfl (y_assign rfl rfl) (Pl_nil (Th_n (k2 _ _ (Wp_ret (Fq_ret (Res1 rfl rfl) ?_)))))
  unfold icompareTag_m
  exact ⟨rfl, hF⟩

def lthere_m (origin : Int) : Bool :=
  if 0 ≤ origin then
    decide (origin < 8)
  else
    false


set_option maxRecDepth 20000 in
theorem lthere_ok (w : World) (origin : Int) :
    Fn Tryz.prog 78 [.int .i64 origin] w fun v w' => v = .bool (lthere_m origin) ∧ Fr [] w w' := by
  refine Fn_of 9 Ty.en_78 Tryz.func78 rfl rfl rfl ?_
  dsimp only [argEnv]
  have st := stn0 (X := []) (w := w) (by simp [Lo])
  have hF := Fr.refl ([]) w
  refine sq fun _ k1 => rg (Ls' rfl (Ln k1 (sq fun _ k2 => rg (Lm rfl (Ly rfl (yge rfl) (Lm rfl (bD (s := 5) rfl (fun hc1 => ?_) (fun hc1 => ?_))))))))
  · refine LyT rfl (y_move rfl rfl) (LyT rfl (ylt rfl) (Ly rfl (yT rfl) (Ls' rfl (Ln k2 (Wp_ret (Fq_ret (Res1 rfl rfl) ?_))))))
    unfold lthere_m; rewrite [if_pos hc1]
    exact ⟨rfl, hF⟩
  refine LsF rfl (LsF rfl (Ly rfl (yF rfl) (Ls' rfl (Ln k2 (Wp_ret (Fq_ret (Res1 rfl rfl) ?_))))))
  unfold lthere_m; rewrite [if_neg hc1]
  exact ⟨rfl, hF⟩

def lcheck_c1 (s : StampM) : Bool :=
  (if 1048576 < s.time then true else !(lthere_m s.origin))
def lcheck_m (s : StampM) : Int :=
  if (lcheck_c1 s) = true then
    2
  else
    0

theorem lcheck_c1_iff (s : StampM) : (lcheck_c1 s = true) ↔ ((1048576 < s.time) ∨ (¬ ((lthere_m s.origin) = true))) := by
  unfold lcheck_c1; exact (ci1 (by simp))

set_option maxRecDepth 20000 in
theorem lcheck_ok (w : World) (s : StampM) :
    Fn Tryz.prog 54 [.agg (stampMC s).toArray] w fun v w' => v = .int .i64 (lcheck_m s) ∧ Fr [] w w' := by
  refine Fn_of 12 Ty.en_54 Tryz.func54 rfl rfl rfl ?_
  dsimp only [argEnv]
  have st := stn0 (X := []) (w := w) (by simp [Lo])
  have hF := Fr.refl ([]) w
  refine sq fun _ k1 => rg (La rfl (Sbx st hF rfl fun g1 w1 (st : St _ _ [_] _) hF hg1 => Ls' rfl (Ln k1 (sq fun _ k2 => sq fun _ k3 => ?_))))
  refine use_out k3 (fun E W => E = [(11, .bool (lcheck_c1 s))] ∧ St [] W (hOf st) (kOf st) ∧ Fr ([]) w W) ?_ fun hout1 => ?_
  · rintro E w2 ⟨rfl, st, hF⟩
    have st : St [] w2 [_] [] := st
    refine cB rfl (fun hc1 => ?_) (fun hc1 => ?_)
    · have jhc1 := (lcheck_c1_iff s).1 hc1
      refine sq fun _ k4 => rg (Ls' rfl (Ln k4 (Wp_ret (Th_r (Fq_ret (Res1 rfl rfl) ?_)))))
      unfold lcheck_m; rewrite [if_pos hc1]
      exact ⟨rfl, hF⟩
    have jhc1 := mt (lcheck_c1_iff s).2 hc1
    refine sk k2 (sq fun _ k5 => rg (Ls' rfl (Ln k5 (Wp_ret (Fq_ret (Res1 rfl rfl) ?_)))))
    unfold lcheck_m; rewrite [if_neg hc1]
    exact ⟨rfl, hF⟩
  refine rg (Ly rfl (yf rfl Ty.fo_28_0) (Ly rfl (yl 0 Ty.pl_22 st rfl) (Ly rfl (ygt rfl) (Lm rfl (bD (s := 6) rfl (fun hc2 => ?_) (fun hc2 => ?_))))))
  · refine LsF rfl (LsF rfl (LsF rfl (LsF rfl (Ly rfl (yT rfl) (Ls_nil (Th_n (?_)))))))
    exact hout1 _ [(11, _)] _ ⟨rfl, trivial⟩ ⟨by unfold lcheck_c1; rewrite [if_pos hc2]; rfl, (st.picks [0] (by decide)).pickK [], hF⟩
  refine LyT rfl (yf rfl Ty.fo_28_1) (LyT rfl (yl 0 Ty.pl_3 st rfl) (LaT rfl (Scl st hF rfl (lthere_ok _ s.origin) fun w3 st hF => LyT rfl (yn rfl) (Ly rfl (yF rfl) (Ls_nil (Th_n (?_)))))))
  exact hout1 _ [(11, _)] _ ⟨rfl, trivial⟩ ⟨by unfold lcheck_c1; rewrite [if_neg hc2]; rfl, (st.picks [0] (by decide)).pickK [], hF⟩

def oelem_m (s : List UInt8) : Bool :=
  if s = [] then
    false
  else
    decide ((s.length : Int) ≤ 12)


set_option maxRecDepth 20000 in
theorem oelem_ok (w : World) (s : List UInt8) :
    Fn Tryz.prog 72 [sv s] w fun v w' => v = .bool (oelem_m s) ∧ Fr [] w w' := by
  refine Fn_of 10 Ty.en_72 Tryz.func72 rfl rfl rfl ?_
  dsimp only [argEnv]
  have st := stn0 (X := []) (w := w) (by simp [Lo])
  have hF := Fr.refl ([]) w
  refine sq fun _ k1 => rg (Ls' rfl (Ln k1 (sq fun _ k2 => rg (Lm rfl (Ly rfl (y_nes rfl rfl rfl) (Lm rfl (bN (s := 5) rfl (fun hc1 => ?_) (fun hc1 => ?_))))))))
  · refine LyT rfl (y_move rfl rfl) (LyT rfl (y_lens rfl rfl Tryz.underlying9) (LyT rfl (yle rfl) (Ly rfl (yT rfl) (Ls' rfl (Ln k2 (Wp_ret (Fq_ret (Res1 rfl rfl) ?_)))))))
    unfold oelem_m; rewrite [if_neg hc1]
    exact ⟨rfl, hF⟩
  refine LsF rfl (LsF rfl (LsF rfl (Ly rfl (yF rfl) (Ls' rfl (Ln k2 (Wp_ret (Fq_ret (Res1 rfl rfl) ?_)))))))
  unfold oelem_m; rewrite [if_pos hc1]
  exact ⟨rfl, hF⟩

def indexF_L1 {α : Type} [Inhabited α] [DecidableEq α] (s : List α) (f : α → Bool) : Nat → Int → (Int) ⊕ (Int)
  | 0, s8 => .inr (s8)
  | fuel + 1, s8 =>
    if s8 < (s.length : Int) then
      if (f (ix s s8)) = true then
        .inl s8
      else
        indexF_L1 s f fuel (s8 + 1)
    else
      .inr (s8)
def indexF_m {α : Type} [Inhabited α] [DecidableEq α] (s : List α) (f : α → Bool) : Int :=
  match indexF_L1 s f (((s.length : Int) - (0 : Int)).toNat + 1) (0 : Int) with
  | .inl r => r
  | .inr (s8) =>
    (-1)


set_option maxRecDepth 20000 in
theorem indexTag_ok (X : List Nat) (w : World) (hX : Lo X w) (s : List TagM) (A_s : Option Addr) (c_s : Nat) (f1 : Value) (f : TagM → Bool) (h_s : Sld X w A_s s.length c_s 3 (s.flatMap tagMC)) (z2 : ∀ (w1 : World) (x0 : TagM), Fr ([]) w w1 → FnV Tryz.prog f1 [.agg (tagMC x0).toArray] w1 fun v w2 => v = .bool (f x0) ∧ Fr [] w1 w2) :
    Fn Tryz.prog 73 [.slice A_s s.length c_s, f1] w fun v w' => v = .int .i64 (indexF_m s f) ∧ Fr [] w w' := by
  refine Fn_of 19 Ty.en_73 Tryz.func73 rfl rfl rfl ?_
  dsimp only [argEnv]
  have st := stn1 hX h_s
  have hF := Fr.refl ([]) w
  have z1 := (st.q 0 rfl).le
  refine sq fun _ k1 => rg (Ls' rfl (Ln k1 (sq fun _ k2 => sq fun _ k3 => rg (Lm rfl (Ly rfl (yll rfl Tryz.underlying29) (Lm rfl (Ln k3 (Wp_block (lp (fun q E W => ∃ (s8 : Int), E = [(0, .slice A_s s.length c_s), (1, f1), (7, .int .i64 (s.length : Int)), (8, .int .i64 s8)] ∧ jq q (fun m => (indexF_L1 s f m s8 = indexF_L1 s f (((s.length : Int) - (0 : Int)).toNat + 1) (0 : Int) ∧ ((s.length : Int) - s8).toNat < m)) (indexF_L1 s f (((s.length : Int) - (0 : Int)).toNat + 1) (0 : Int) = .inr (s8)) ∧ (0 ≤ s8) ∧ St X W [] [kS A_s s.length c_s 3 (s.flatMap tagMC)] ∧ Fr ([]) w W) (((s.length : Int) - (0 : Int)).toNat + 1) [(0, _), (1, _), (7, _), (8, _)] ⟨rfl, rfl, rfl, rfl, trivial⟩ ⟨_, rfl, ⟨rfl, Nat.lt_succ_self _⟩, by first | omega | (simp; done) | (simp; omega), st, hF⟩ k2 ?_ fun hout1 => ?_)))))))))
  · rintro E w1 ⟨s8, rfl, hLk1, hinv, st, hF⟩
    unfold jq at hLk1; dsimp only at hLk1
    refine sq fun _ k4 => rg (Ls' rfl (Ln k4 (Wp_ret (Fq_ret (Res1 rfl rfl) ?_))))
    unfold indexF_m; rewrite [hLk1]; (try dsimp only)
    exact ⟨rfl, hF⟩
  rintro m E w2 ⟨s8, rfl, ⟨hL1, hmu⟩, hinv, st, hF⟩
  obtain ⟨fuel, rfl⟩ : ∃ q, m = q + 1 := ⟨m - 1, by omega⟩
  refine sq fun _ k5 => rg (Ly rfl (ylt rfl) (Ln k5 (sq fun _ k6 => cD rfl (fun hc1 => ?_) (fun hc1 => ?_))))
  · refine sk k6 (sq fun _ k7 => Wp_block (sq fun _ k8 => rg (Lm rfl (Ls' rfl (Ln k8 (sq fun _ k9 => rg (Lm rfl (Lm rfl (Lm rfl ?_)))))))))
    obtain ⟨gi1, bi1, egi1⟩ := (st.k (i := 0) rfl).addr (fun _ => rfl) (by decide) (q := s8) (by first | omega | (simp; done) | (simp; omega)) (by first | omega | (simp; done) | (simp; omega))
    subst egi1
    refine Ly rfl (y_ixa (q := s8) rfl rfl rfl Ty.es_29 (by first | omega | (simp; done) | (simp; omega)) (by first | omega | (simp; done) | (simp; omega))) ?_
    refine Ly rfl (y_ldk (q := s8) rfl rfl Ty.ag_26 (fun _ e => e ▸ st.k (i := 0) rfl) (fun _ => rfl) (by first | omega | (simp; done) | (simp; omega)) (by first | omega | (simp; done) | (simp; omega))) ?_
    refine La rfl (Scv st hF rfl (z2 _ (ix s s8) hF) fun w3 st hF => Ln k9 (cB rfl (fun hc2 => ?_) (fun hc2 => ?_)))
    · refine sq fun _ k10 => rg (Lm rfl (Ls' rfl (Ln k10 (Wp_ret (Ib_r (Th_r (Th_r (Ib_r (Th_r (Fq_ret (Res1 rfl rfl) ?_))))))))))
      have hret1 : indexF_L1 s f (((s.length : Int) - (0 : Int)).toNat + 1) (0 : Int) = .inl s8 := by rewrite [← hL1, indexF_L1]; rewrite [if_pos hc1, if_pos hc2]; rfl
      have he2 : indexF_m s f = s8 := by unfold indexF_m; rewrite [hret1]; (try dsimp only); all_goals rfl
      rewrite [he2]
      exact ⟨rfl, hF⟩
    refine Wp_skip (Ib_n (Th_n (k7 _ _ (rg (Ly rfl (y_add (c := s8 + 1) rfl rfl rfl (wf_i64 (by first | omega | (simp; done) | (simp; omega)))) ?_)))))
    refine Lm rfl (Ls_nil (Th_n (?_)))
    exact ⟨fuel, [(0, _), (1, _), (7, _), (8, _)], Nat.lt_succ_self _, ⟨rfl, rfl, rfl, rfl, trivial⟩, (s8 + 1), rfl, ⟨by rewrite [← hL1, indexF_L1]; rewrite [if_pos hc1, if_neg hc2]; rfl, by first | omega | (simp; done) | (simp; omega)⟩, by first | omega | (simp; done) | (simp; omega), (st.picks [] (by decide)).pickK [0], hF⟩
  refine Wp_exit (Th_e (Th_e (Ib_hit (Th_n (?_)))))
  exact hout1 _ [(0, _), (1, _), (7, _), (8, _)] _ ⟨rfl, rfl, rfl, rfl, trivial⟩ ⟨s8, rfl, show _ = _ from by rewrite [← hL1, indexF_L1]; rewrite [if_neg hc1]; rfl, by first | omega | (simp; done) | (simp; omega), (st.picks [] (by decide)).pickK [0], hF⟩

def containsF_m {α : Type} [Inhabited α] [DecidableEq α] (s : List α) (f : α → Bool) : Bool :=
  decide (0 ≤ (indexF_m s f))


set_option maxRecDepth 20000 in
theorem containsTag_ok (X : List Nat) (w : World) (hX : Lo X w) (s : List TagM) (A_s : Option Addr) (c_s : Nat) (f1 : Value) (f : TagM → Bool) (h_s : Sld X w A_s s.length c_s 3 (s.flatMap tagMC)) (z2 : ∀ (w1 : World) (x0 : TagM), Fr ([]) w w1 → FnV Tryz.prog f1 [.agg (tagMC x0).toArray] w1 fun v w2 => v = .bool (f x0) ∧ Fr [] w1 w2) :
    Fn Tryz.prog 49 [.slice A_s s.length c_s, f1] w fun v w' => v = .bool (containsF_m s f) ∧ Fr [] w w' := by
  refine Fn_of 9 Ty.en_49 Tryz.func49 rfl rfl rfl ?_
  dsimp only [argEnv]
  have st := stn1 hX h_s
  have hF := Fr.refl ([]) w
  have z1 := (st.q 0 rfl).le
  refine sq fun _ k1 => rg (Ls' rfl (Ln k1 (sq fun _ k2 => rg (Lm rfl (Lm rfl (La rfl (Scl st hF rfl (indexTag_ok (keys (hOf st) ++ X) _ st.Lo s A_s c_s f1 f (st.q 0 rfl) (fun w1 x0 hw => z2 w1 x0 (hF.step0 hw))) fun w1 st hF => Ly rfl (yge rfl) (Ls' rfl (Ln k2 (Wp_ret (Fq_ret (Res1 rfl rfl) ?_)))))))))))
  unfold containsF_m
  exact ⟨rfl, hF⟩

def okind_m (act : Int) : Int :=
  if act = 1 then
    1
  else
    if act = 2 then
      2
    else
      if act = 3 then
        3
      else
        if act = 4 then
          3
        else
          if act = 5 then
            4
          else
            if act = 6 then
              4
            else
              0


set_option maxRecDepth 20000 in
theorem okind_ok (w : World) (act : Int) :
    Fn Tryz.prog 71 [.int .i64 act] w fun v w' => v = .int .i64 (okind_m act) ∧ Fr [] w w' := by
  refine Fn_of 14 Ty.en_71 Tryz.func71 rfl rfl rfl ?_
  dsimp only [argEnv]
  have st := stn0 (X := []) (w := w) (by simp [Lo])
  have hF := Fr.refl ([]) w
  refine sq fun _ k1 => rg (Ls' rfl (Ln k1 (sq fun _ k2 => sq fun _ k3 => rg (Lm rfl (Ln k3 (Wp_block (sq fun _ k4 => rg (Ly rfl (yeq rfl) (Ls' rfl (Ln k4 (cE rfl (fun hc1 => ?_) (fun hc1 => ?_))))))))))))
  · refine sq fun _ k5 => rg (Ls' rfl (Ln k5 (Wp_ret (Ib_r (Th_r (Fq_ret (Res1 rfl rfl) ?_))))))
    unfold okind_m; rewrite [if_pos hc1]
    exact ⟨rfl, hF⟩
  refine sq fun _ k6 => rg (Ly rfl (yeq rfl) (Ls' rfl (Ln k6 (cE rfl (fun hc2 => ?_) (fun hc2 => ?_)))))
  · refine sq fun _ k7 => rg (Ls' rfl (Ln k7 (Wp_ret (Ib_r (Th_r (Fq_ret (Res1 rfl rfl) ?_))))))
    unfold okind_m; rewrite [if_neg hc1, if_pos hc2]
    exact ⟨rfl, hF⟩
  refine sq fun _ k8 => sq fun _ k9 => rg (Ly rfl (yeq rfl) (Ls' rfl (Ln k9 (cE rfl (fun hc3 => ?_) (fun hc3 => ?_)))))
  · refine sk k8 (Wp_cond rfl (fun _ => ?_) (fun hc4 => absurd hc4 (by simp [hc3])))
    refine sq fun _ k10 => rg (Ls' rfl (Ln k10 (Wp_ret (Ib_r (Th_r (Fq_ret (Res1 rfl rfl) ?_))))))
    unfold okind_m; rewrite [if_neg hc1, if_neg hc2, if_pos hc3]
    exact ⟨rfl, hF⟩
  refine rg (Ly rfl (yeq rfl) (Ls' rfl (Ln k8 (cE rfl (fun hc5 => ?_) (fun hc5 => ?_)))))
  · refine sq fun _ k11 => rg (Ls' rfl (Ln k11 (Wp_ret (Ib_r (Th_r (Fq_ret (Res1 rfl rfl) ?_))))))
    unfold okind_m; rewrite [if_neg hc1, if_neg hc2, if_neg hc3, if_pos hc5]
    exact ⟨rfl, hF⟩
  refine sq fun _ k12 => sq fun _ k13 => rg (Ly rfl (yeq rfl) (Ls' rfl (Ln k13 (cE rfl (fun hc6 => ?_) (fun hc6 => ?_)))))
  · refine sk k12 (Wp_cond rfl (fun _ => ?_) (fun hc7 => absurd hc7 (by simp [hc6])))
    refine sq fun _ k14 => rg (Ls' rfl (Ln k14 (Wp_ret (Ib_r (Th_r (Fq_ret (Res1 rfl rfl) ?_))))))
    unfold okind_m; rewrite [if_neg hc1, if_neg hc2, if_neg hc3, if_neg hc5, if_pos hc6]
    exact ⟨rfl, hF⟩
  refine rg (Ly rfl (yeq rfl) (Ls' rfl (Ln k12 (cE rfl (fun hc8 => ?_) (fun hc8 => ?_)))))
  · refine sq fun _ k15 => rg (Ls' rfl (Ln k15 (Wp_ret (Ib_r (Th_r (Fq_ret (Res1 rfl rfl) ?_))))))
    unfold okind_m; rewrite [if_neg hc1, if_neg hc2, if_neg hc3, if_neg hc5, if_neg hc6, if_pos hc8]
    exact ⟨rfl, hF⟩
  refine Wp_skip (Ib_n (Th_n (k2 _ _ (sq fun _ k16 => rg (Ls' rfl (Ln k16 (Wp_ret (Fq_ret (Res1 rfl rfl) ?_))))))))
  unfold okind_m; rewrite [if_neg hc1, if_neg hc2, if_neg hc3, if_neg hc5, if_neg hc6, if_neg hc8]
  exact ⟨rfl, hF⟩

structure AsksM where
  name : Bool
  val : Bool
  atF : Bool
  tags : Bool
instance : Inhabited AsksM := ⟨⟨default, default, default, default⟩⟩
instance : DecidableEq AsksM := fun a b => decidable_of_iff (a.name = b.name ∧ a.val = b.val ∧ a.atF = b.atF ∧ a.tags = b.tags) (by cases a; cases b; simp)
def asksMC (x : AsksM) : List Value := [.bool x.name, .bool x.val, .bool x.atF, .bool x.tags]
theorem asksMC_len (x : AsksM) : (asksMC x).length = 4 := rfl
theorem asksMC_1 (x : AsksM) : ∀ v ∈ asksMC x, v.oneCell' = true := all_one rfl
def oform_m (act : Int) : AsksM :=
  if act = 5 then
    (⟨true, true, true, false⟩ : AsksM)
  else
    if act = 1 then
      (⟨false, true, true, false⟩ : AsksM)
    else
      if act = 2 then
        (⟨false, true, false, false⟩ : AsksM)
      else
        if act = 4 then
          (⟨true, false, false, true⟩ : AsksM)
        else
          if act = 6 then
            (⟨true, false, false, true⟩ : AsksM)
          else
            if act = 3 then
              (⟨true, false, false, false⟩ : AsksM)
            else
              (⟨false, false, false, false⟩ : AsksM)


set_option maxRecDepth 20000 in
theorem oform_ok (w : World) (act : Int) :
    Fn Tryz.prog 23 [.int .i64 act] w fun v w' => v = .agg (asksMC (oform_m act)).toArray ∧ Fr [] w w' := by
  refine Fn_of 22 Ty.en_23 Tryz.func23 rfl rfl rfl ?_
  dsimp only [argEnv]
  have st := stn0 (X := []) (w := w) (by simp [Lo])
  have hF := Fr.refl ([]) w
  refine sq fun _ k1 => rg (La rfl (Sal Ty.zc_77 st hF rfl fun g1 w1 (st : St _ _ [_] _) hF hg1 => Ln k1 (sq fun _ k2 => rg (La rfl (Sal Ty.zc_77 st hF rfl fun g2 w2 (st : St _ _ [_, _] _) hF hg2 => Ln k2 (sq fun _ k3 => sq fun _ k4 => rg (Lm rfl (Ln k4 (Wp_block (sq fun _ k5 => Wp_block (sq fun _ k6 => Wp_block (sq fun _ k7 => Wp_block (sq fun _ k8 => Wp_block (sq fun _ k9 => Wp_block (sq fun _ k10 => sq fun _ k11 => sq fun _ k12 => rg (Ly rfl (yeq rfl) (Ls' rfl (Ln k12 (cE rfl (fun hc1 => ?_) (fun hc1 => ?_))))))))))))))))))))
  · refine Wp_exit (Th_e (Th_e (Ib_hit (Th_n (k9 _ _ (rg (Ly rfl (yf rfl Ty.fo_77_0) (La rfl (Ss1 1 Ty.sz_4 st hF (.inr hg2) rfl fun w3 (st : St _ _ [_, (_, Cl [_, _, _, _] _)] _) hF => Ls_nil (Ib_n (Th_n (k8 _ _ (rg (Ly rfl (yf rfl Ty.fo_77_2) (La rfl (Ss1 1 Ty.sz_4 st hF (.inr hg2) rfl fun w4 (st : St _ _ [_, (_, Cl [_, _, _, _] _)] _) hF => Ls_nil (Ib_n (Th_n (k7 _ _ (sq fun _ k13 => rg (Ly rfl (yf rfl Ty.fo_77_1) (La rfl (Ss1 1 Ty.sz_4 st hF (.inr hg2) rfl fun w5 (st : St _ _ [_, (_, Cl [_, _, _, _] _)] _) hF => Ln k13 (Wp_exit (Ib_miss rfl (Th_e (Ib_miss rfl (Th_e (Ib_hit (Th_n (k3 _ _ (sq fun _ k14 => rg (Ly rfl (yw 1 Ty.ag_77 st rfl) (La rfl (Ssw 0 Ty.sz_77 st hF (.inr hg1) rfl fun w6 (st : St _ _ [_, _] _) hF => Ln k14 (Wp_ret (Fq_ret (ResN1 rfl (rvc (i := 0) rfl Ty.ag_77 st.hp rfl rfl)) ?_)))))))))))))))))))))))))))))))))))))
    unfold oform_m; rewrite [if_pos hc1]
    exact ⟨rfl, hF⟩
  refine sk k11 (sq fun _ k15 => sq fun _ k16 => rg (Ly rfl (yeq rfl) (Ls' rfl (Ln k16 (cE rfl (fun hc2 => ?_) (fun hc2 => ?_))))))
  · refine Wp_exit (Th_e (Th_e (Ib_miss rfl (Th_e (Ib_hit (Th_n (k8 _ _ (rg (Ly rfl (yf rfl Ty.fo_77_2) (La rfl (Ss1 1 Ty.sz_4 st hF (.inr hg2) rfl fun w7 (st : St _ _ [_, (_, Cl [_, _, _, _] _)] _) hF => Ls_nil (Ib_n (Th_n (k7 _ _ (sq fun _ k17 => rg (Ly rfl (yf rfl Ty.fo_77_1) (La rfl (Ss1 1 Ty.sz_4 st hF (.inr hg2) rfl fun w8 (st : St _ _ [_, (_, Cl [_, _, _, _] _)] _) hF => Ln k17 (Wp_exit (Ib_miss rfl (Th_e (Ib_miss rfl (Th_e (Ib_hit (Th_n (k3 _ _ (sq fun _ k18 => rg (Ly rfl (yw 1 Ty.ag_77 st rfl) (La rfl (Ssw 0 Ty.sz_77 st hF (.inr hg1) rfl fun w9 (st : St _ _ [_, _] _) hF => Ln k18 (Wp_ret (Fq_ret (ResN1 rfl (rvc (i := 0) rfl Ty.ag_77 st.hp rfl rfl)) ?_))))))))))))))))))))))))))))))))
    unfold oform_m; rewrite [if_neg hc1, if_pos hc2]
    exact ⟨rfl, hF⟩
  refine sk k15 (sq fun _ k19 => sq fun _ k20 => rg (Ly rfl (yeq rfl) (Ls' rfl (Ln k20 (cE rfl (fun hc3 => ?_) (fun hc3 => ?_))))))
  · refine Wp_exit (Th_e (Th_e (Ib_miss rfl (Th_e (Ib_miss rfl (Th_e (Ib_hit (Th_n (k7 _ _ (sq fun _ k21 => rg (Ly rfl (yf rfl Ty.fo_77_1) (La rfl (Ss1 1 Ty.sz_4 st hF (.inr hg2) rfl fun w10 (st : St _ _ [_, (_, Cl [_, _, _, _] _)] _) hF => Ln k21 (Wp_exit (Ib_miss rfl (Th_e (Ib_miss rfl (Th_e (Ib_hit (Th_n (k3 _ _ (sq fun _ k22 => rg (Ly rfl (yw 1 Ty.ag_77 st rfl) (La rfl (Ssw 0 Ty.sz_77 st hF (.inr hg1) rfl fun w11 (st : St _ _ [_, _] _) hF => Ln k22 (Wp_ret (Fq_ret (ResN1 rfl (rvc (i := 0) rfl Ty.ag_77 st.hp rfl rfl)) ?_)))))))))))))))))))))))))))
    unfold oform_m; rewrite [if_neg hc1, if_neg hc2, if_pos hc3]
    exact ⟨rfl, hF⟩
  refine sk k19 (sq fun _ k23 => sq fun _ k24 => sq fun _ k25 => rg (Ly rfl (yeq rfl) (Ls' rfl (Ln k25 (cE rfl (fun hc4 => ?_) (fun hc4 => ?_))))))
  · refine sk k24 (Wp_cond rfl (fun _ => ?_) (fun hc5 => absurd hc5 (by simp [hc4])))
    refine Wp_exit (Th_e (Th_e (Ib_miss rfl (Th_e (Ib_miss rfl (Th_e (Ib_miss rfl (Th_e (Ib_hit (Th_n (k6 _ _ (rg (Ly rfl (yf rfl Ty.fo_77_3) (La rfl (Ss1 1 Ty.sz_4 st hF (.inr hg2) rfl fun w12 (st : St _ _ [_, (_, Cl [_, _, _, _] _)] _) hF => Ls_nil (Ib_n (Th_n (k5 _ _ (sq fun _ k26 => rg (Ly rfl (yf rfl Ty.fo_77_0) (La rfl (Ss1 1 Ty.sz_4 st hF (.inr hg2) rfl fun w13 (st : St _ _ [_, (_, Cl [_, _, _, _] _)] _) hF => Ln k26 (Wp_exit (Ib_hit (Th_n (k3 _ _ (sq fun _ k27 => rg (Ly rfl (yw 1 Ty.ag_77 st rfl) (La rfl (Ssw 0 Ty.sz_77 st hF (.inr hg1) rfl fun w14 (st : St _ _ [_, _] _) hF => Ln k27 (Wp_ret (Fq_ret (ResN1 rfl (rvc (i := 0) rfl Ty.ag_77 st.hp rfl rfl)) ?_))))))))))))))))))))))))))))))))
    unfold oform_m; rewrite [if_neg hc1, if_neg hc2, if_neg hc3, if_pos hc4]
    exact ⟨rfl, hF⟩
  refine rg (Ly rfl (yeq rfl) (Ls' rfl (Ln k24 (cE rfl (fun hc6 => ?_) (fun hc6 => ?_)))))
  · refine Wp_exit (Th_e (Th_e (Ib_miss rfl (Th_e (Ib_miss rfl (Th_e (Ib_miss rfl (Th_e (Ib_hit (Th_n (k6 _ _ (rg (Ly rfl (yf rfl Ty.fo_77_3) (La rfl (Ss1 1 Ty.sz_4 st hF (.inr hg2) rfl fun w15 (st : St _ _ [_, (_, Cl [_, _, _, _] _)] _) hF => Ls_nil (Ib_n (Th_n (k5 _ _ (sq fun _ k28 => rg (Ly rfl (yf rfl Ty.fo_77_0) (La rfl (Ss1 1 Ty.sz_4 st hF (.inr hg2) rfl fun w16 (st : St _ _ [_, (_, Cl [_, _, _, _] _)] _) hF => Ln k28 (Wp_exit (Ib_hit (Th_n (k3 _ _ (sq fun _ k29 => rg (Ly rfl (yw 1 Ty.ag_77 st rfl) (La rfl (Ssw 0 Ty.sz_77 st hF (.inr hg1) rfl fun w17 (st : St _ _ [_, _] _) hF => Ln k29 (Wp_ret (Fq_ret (ResN1 rfl (rvc (i := 0) rfl Ty.ag_77 st.hp rfl rfl)) ?_))))))))))))))))))))))))))))))))
    unfold oform_m; rewrite [if_neg hc1, if_neg hc2, if_neg hc3, if_neg hc4, if_pos hc6]
    exact ⟨rfl, hF⟩
  refine sk k23 (sq fun _ k30 => rg (Ly rfl (yeq rfl) (Ls' rfl (Ln k30 (cE rfl (fun hc7 => ?_) (fun hc7 => ?_))))))
  · refine Wp_exit (Th_e (Ib_miss rfl (Th_e (Ib_miss rfl (Th_e (Ib_miss rfl (Th_e (Ib_miss rfl (Th_e (Ib_hit (Th_n (k5 _ _ (sq fun _ k31 => rg (Ly rfl (yf rfl Ty.fo_77_0) (La rfl (Ss1 1 Ty.sz_4 st hF (.inr hg2) rfl fun w18 (st : St _ _ [_, (_, Cl [_, _, _, _] _)] _) hF => Ln k31 (Wp_exit (Ib_hit (Th_n (k3 _ _ (sq fun _ k32 => rg (Ly rfl (yw 1 Ty.ag_77 st rfl) (La rfl (Ssw 0 Ty.sz_77 st hF (.inr hg1) rfl fun w19 (st : St _ _ [_, _] _) hF => Ln k32 (Wp_ret (Fq_ret (ResN1 rfl (rvc (i := 0) rfl Ty.ag_77 st.hp rfl rfl)) ?_))))))))))))))))))))))))))
    unfold oform_m; rewrite [if_neg hc1, if_neg hc2, if_neg hc3, if_neg hc4, if_neg hc6, if_pos hc7]
    exact ⟨rfl, hF⟩
  refine sk k10 (Wp_exit (Ib_miss rfl (Th_e (Ib_miss rfl (Th_e (Ib_miss rfl (Th_e (Ib_miss rfl (Th_e (Ib_miss rfl (Th_e (Ib_hit (Th_n (k3 _ _ (sq fun _ k33 => rg (Ly rfl (yw 1 Ty.ag_77 st rfl) (La rfl (Ssw 0 Ty.sz_77 st hF (.inr hg1) rfl fun w20 (st : St _ _ [_, _] _) hF => Ln k33 (Wp_ret (Fq_ret (ResN1 rfl (rvc (i := 0) rfl Ty.ag_77 st.hp rfl rfl)) ?_))))))))))))))))))))
  unfold oform_m; rewrite [if_neg hc1, if_neg hc2, if_neg hc3, if_neg hc4, if_neg hc6, if_neg hc7]
  exact ⟨rfl, hF⟩

def otimed_m (s : StampM) : Bool :=
  if (lcheck_m s) = 0 then
    decide (0 < s.time)
  else
    false


set_option maxRecDepth 20000 in
theorem otimed_ok (w : World) (s : StampM) :
    Fn Tryz.prog 50 [.agg (stampMC s).toArray] w fun v w' => v = .bool (otimed_m s) ∧ Fr [] w w' := by
  refine Fn_of 11 Ty.en_50 Tryz.func50 rfl rfl rfl ?_
  dsimp only [argEnv]
  have st := stn0 (X := []) (w := w) (by simp [Lo])
  have hF := Fr.refl ([]) w
  refine sq fun _ k1 => rg (La rfl (Sbx st hF rfl fun g1 w1 (st : St _ _ [_] _) hF hg1 => Ls' rfl (Ln k1 (sq fun _ k2 => rg (Ly rfl (yw 0 Ty.ag_28 st rfl) (La rfl (Scl st hF rfl (lcheck_ok _ s) fun w2 st hF => Ly rfl (yeq rfl) (Lm rfl (bE (s := 6) rfl (fun hc1 => ?_) (fun hc1 => ?_))))))))))
  · refine LyT rfl (yf rfl Ty.fo_28_0) (LyT rfl (yl 0 Ty.pl_22 st rfl) (LyT rfl (ygt rfl) (Ly rfl (yT rfl) (Ls' rfl (Ln k2 (Wp_ret (Fq_ret (Res1 rfl rfl) ?_)))))))
    unfold otimed_m; rewrite [if_pos hc1]
    exact ⟨rfl, hF⟩
  refine LsF rfl (LsF rfl (LsF rfl (Ly rfl (yF rfl) (Ls' rfl (Ln k2 (Wp_ret (Fq_ret (Res1 rfl rfl) ?_)))))))
  unfold otimed_m; rewrite [if_neg hc1]
  exact ⟨rfl, hF⟩

def bnotTag_m (t : TagM) : Bool :=
  (icheckTag_m t) != 0


set_option maxRecDepth 20000 in
theorem bnotTag_ok (w : World) (t : TagM) :
    Fn Tryz.prog 48 [.agg (tagMC t).toArray] w fun v w' => v = .bool (bnotTag_m t) ∧ Fr [] w w' := by
  refine Fn_of 6 Ty.en_48 Tryz.func48 rfl rfl rfl ?_
  dsimp only [argEnv]
  have st := stn0 (X := []) (w := w) (by simp [Lo])
  have hF := Fr.refl ([]) w
  refine sq fun _ k1 => rg (La rfl (Sbx st hF rfl fun g1 w1 (st : St _ _ [_] _) hF hg1 => Ls' rfl (Ln k1 (sq fun _ k2 => rg (Ly rfl (yw 0 Ty.ag_26 st rfl) (La rfl (Scl st hF rfl (icheckTag_ok _ t) fun w2 st hF => Ly rfl (yne rfl) (Ls' rfl (Ln k2 (Wp_ret (Fq_ret (Res1 rfl rfl) ?_)))))))))))
  unfold bnotTag_m
  exact ⟨rfl, hF⟩

def ocheckOp_c1 (o : OpM) : Bool :=
  (if ((oform_m o.act).name) = true then !(oelem_m o.name) else false)

def ocheckOp_c2 (o : OpM) : Bool :=
  (if ((oform_m o.act).name) = true then false else o.name != [])

def ocheckOp_c3 (o : OpM) : Bool :=
  (if ((oform_m o.act).val) = true then false else o.val != 0)

def ocheckOp_c4 (o : OpM) : Bool :=
  (if o.act = 2 then (if o.val < (-1073741824) then true else decide (1073741824 < o.val)) else false)
def ocheckOp_m (o : OpM) : Int :=
  if (okind_m o.act) = 0 then
    5
  else
    if (ocheckOp_c1 o) = true then
      3
    else
      if (ocheckOp_c2 o) = true then
        3
      else
        if (ocheckOp_c3 o) = true then
          3
        else
          if (ocheckOp_c4 o) = true then
            2
          else
            0

theorem ocheckOp_c1_iff (o : OpM) : (ocheckOp_c1 o = true) ↔ ((((oform_m o.act).name) = true) ∧ (¬ ((oelem_m o.name) = true))) := by
  unfold ocheckOp_c1; exact (ci2 (by simp))

theorem ocheckOp_c2_iff (o : OpM) : (ocheckOp_c2 o = true) ↔ (¬ (((oform_m o.act).name) = true) ∧ (¬ (o.name = []))) := by
  unfold ocheckOp_c2; exact (ci3 (by simp))

theorem ocheckOp_c3_iff (o : OpM) : (ocheckOp_c3 o = true) ↔ (¬ (((oform_m o.act).val) = true) ∧ (¬ (o.val = 0))) := by
  unfold ocheckOp_c3; exact (ci3 (by simp))

theorem ocheckOp_c4_iff (o : OpM) : (ocheckOp_c4 o = true) ↔ ((o.act = 2) ∧ ((o.val < (-1073741824)) ∨ (1073741824 < o.val))) := by
  unfold ocheckOp_c4; exact (ci2 (ci1 decide_eq_true_iff))

set_option maxRecDepth 20000 in
theorem ocheckOp_ok (w : World) (o : OpM) :
    Fn Tryz.prog 47 [.agg (opMC o).toArray] w fun v w' => v = .int .i64 (ocheckOp_m o) ∧ Fr [] w w' := by
  refine Fn_of 50 Ty.en_47 Tryz.func47 rfl rfl rfl ?_
  dsimp only [argEnv]
  have st := stn0 (X := []) (w := w) (by simp [Lo])
  have hF := Fr.refl ([]) w
  refine sq fun _ k1 => rg (La rfl (Sbx st hF rfl fun g1 w1 (st : St _ _ [_] _) hF hg1 => Ls' rfl (Ln k1 (sq fun _ k2 => sq fun _ k3 => rg (Ly rfl (yf rfl Ty.fo_101_0) (Ly rfl (yl 0 Ty.pl_3 st rfl) (La rfl (Scl st hF rfl (okind_ok _ o.act) fun w2 st hF => Ly rfl (yeq rfl) (Ln k3 (cE rfl (fun hc1 => ?_) (fun hc1 => ?_)))))))))))
  · refine sq fun _ k4 => rg (Ls' rfl (Ln k4 (Wp_ret (Th_r (Fq_ret (Res1 rfl rfl) ?_)))))
    unfold ocheckOp_m; rewrite [if_pos hc1]
    exact ⟨rfl, hF⟩
  refine sk k2 (sq fun _ k5 => rg (Ly rfl (yf rfl Ty.fo_101_0) (Ly rfl (yl 0 Ty.pl_3 st rfl) (La rfl (Scl st hF rfl (oform_ok _ o.act) fun w3 st hF => La rfl (Sal Ty.zc_77 st hF rfl fun g2 w4 (st : St _ _ [_, _] _) hF hg2 => La rfl (Ssw 1 Ty.sz_77 st hF (.inr hg2) rfl fun w5 (st : St _ _ [_, _] _) hF => Ln k5 (sq fun _ k6 => Wp_block (sq fun _ k7 => sq fun _ k8 => ?_)))))))))
  refine use_out k8 (fun E W => E = [(1, .pointer (some ⟨g1, 0, none⟩)), (3, .pointer (some ⟨g2, 0, none⟩)), (11, .bool (ocheckOp_c1 o))] ∧ St [] W (hOf st) (kOf st) ∧ Fr ([]) w W) ?_ fun hout1 => ?_
  · rintro E w6 ⟨rfl, st, hF⟩
    have st : St [] w6 [_, _] [] := st
    refine cB rfl (fun hc2 => ?_) (fun hc2 => ?_)
    · have jhc2 := (ocheckOp_c1_iff o).1 hc2
      refine sk k7 (Wp_cond rfl (fun _ => ?_) (fun hc3 => absurd hc3 (by simp [hc2])))
      refine sq fun _ k9 => rg (Ls' rfl (Ln k9 (Wp_ret (Ib_r (Th_r (Fq_ret (Res1 rfl rfl) ?_))))))
      unfold ocheckOp_m; rewrite [if_neg hc1, if_pos hc2]
      exact ⟨rfl, hF⟩
    have jhc2 := mt (ocheckOp_c1_iff o).2 hc2
    refine sq fun _ k10 => ?_
    refine use_out k10 (fun E W => E = [(1, .pointer (some ⟨g1, 0, none⟩)), (3, .pointer (some ⟨g2, 0, none⟩)), (11, .bool (ocheckOp_c2 o))] ∧ St [] W (hOf st) (kOf st) ∧ Fr ([]) w W) ?_ fun hout2 => ?_
    · rintro E w7 ⟨rfl, st, hF⟩
      have st : St [] w7 [_, _] [] := st
      refine cB rfl (fun hc4 => ?_) (fun hc4 => ?_)
      · have jhc4 := (ocheckOp_c2_iff o).1 hc4
        refine sk k7 (Wp_cond rfl (fun _ => ?_) (fun hc5 => absurd hc5 (by simp [hc4])))
        refine sq fun _ k11 => rg (Ls' rfl (Ln k11 (Wp_ret (Ib_r (Th_r (Fq_ret (Res1 rfl rfl) ?_))))))
        unfold ocheckOp_m; rewrite [if_neg hc1, if_neg hc2, if_pos hc4]
        exact ⟨rfl, hF⟩
      have jhc4 := mt (ocheckOp_c2_iff o).2 hc4
      refine use_out k7 (fun E W => E = [(1, .pointer (some ⟨g1, 0, none⟩)), (11, .bool (ocheckOp_c3 o))] ∧ St [] W (hOf st) (kOf st) ∧ Fr ([]) w W) ?_ fun hout3 => ?_
      · rintro E w8 ⟨rfl, st, hF⟩
        have st : St [] w8 [_, _] [] := st
        refine cB rfl (fun hc6 => ?_) (fun hc6 => ?_)
        · have jhc6 := (ocheckOp_c3_iff o).1 hc6
          refine sq fun _ k12 => rg (Ls' rfl (Ln k12 (Wp_ret (Ib_r (Th_r (Fq_ret (Res1 rfl rfl) ?_))))))
          unfold ocheckOp_m; rewrite [if_neg hc1, if_neg hc2, if_neg hc4, if_pos hc6]
          exact ⟨rfl, hF⟩
        have jhc6 := mt (ocheckOp_c3_iff o).2 hc6
        refine sq fun _ k13 => ?_
        refine use_out k13 (fun E W => E = [(36, .bool (ocheckOp_c4 o))] ∧ St [] W (hOf st) (kOf st) ∧ Fr ([]) w W) ?_ fun hout4 => ?_
        · rintro E w9 ⟨rfl, st, hF⟩
          have st : St [] w9 [_, _] [] := st
          refine cB rfl (fun hc7 => ?_) (fun hc7 => ?_)
          · have jhc7 := (ocheckOp_c4_iff o).1 hc7
            refine sq fun _ k14 => rg (Ls' rfl (Ln k14 (Wp_ret (Ib_r (Th_r (Fq_ret (Res1 rfl rfl) ?_))))))
            unfold ocheckOp_m; rewrite [if_neg hc1, if_neg hc2, if_neg hc4, if_neg hc6, if_pos hc7]
            exact ⟨rfl, hF⟩
          have jhc7 := mt (ocheckOp_c4_iff o).2 hc7
          refine Wp_skip (Ib_n (Th_n (k6 _ _ (sq fun _ k15 => rg (Ls' rfl (Ln k15 (Wp_ret (Fq_ret (Res1 rfl rfl) ?_))))))))
          unfold ocheckOp_m; rewrite [if_neg hc1, if_neg hc2, if_neg hc4, if_neg hc6, if_neg hc7]
          exact ⟨rfl, hF⟩
        refine rg (Ly rfl (yf rfl Ty.fo_101_0) (Ly rfl (yl 0 Ty.pl_3 st rfl) (Ly rfl (yeq rfl) (Lm rfl (bE (s := 40) rfl (fun hc8 => ?_) (fun hc8 => ?_))))))
        · refine LyT rfl (yf rfl Ty.fo_101_2) (LyT rfl (yl 0 Ty.pl_2 st rfl) (LyT rfl (ylt rfl) (LyT rfl (y_move rfl rfl) (bD (s := 44) rfl (fun hc9 => ?_) (fun hc9 => ?_)))))
          · refine LsF rfl (LsF rfl (LsF rfl (LyT rfl (yT rfl) (Ly rfl (yT rfl) (Ls' rfl (Ls_nil (Th_n (?_))))))))
            exact hout4 _ [(36, _)] _ ⟨rfl, trivial⟩ ⟨by unfold ocheckOp_c4; rewrite [if_pos hc8, if_pos hc9]; rfl, (st.picks [0, 1] (by decide)).pickK [], hF⟩
          refine LyT rfl (yf rfl Ty.fo_101_2) (LyT rfl (yl 0 Ty.pl_2 st rfl) (LyT rfl (ygt rfl) (LyT rfl (yF rfl) (Ly rfl (yT rfl) (Ls' rfl (Ls_nil (Th_n (?_))))))))
          exact hout4 _ [(36, _)] _ ⟨rfl, trivial⟩ ⟨by unfold ocheckOp_c4; rewrite [if_pos hc8, if_neg hc9]; rfl, (st.picks [0, 1] (by decide)).pickK [], hF⟩
        refine LsF rfl (LsF rfl (LsF rfl (LsF rfl (LsU rfl (LsU rfl (LsU rfl (LsF rfl (Ly rfl (yF rfl) (Ls' rfl (Ls_nil (Th_n (?_))))))))))))
        exact hout4 _ [(36, _)] _ ⟨rfl, trivial⟩ ⟨by unfold ocheckOp_c4; rewrite [if_neg hc8]; rfl, (st.picks [0, 1] (by decide)).pickK [], hF⟩
      refine rg (Ly rfl (yf rfl Ty.fo_77_1) (Ly rfl (yl 1 Ty.pl_4 st rfl) (Ly rfl (yn rfl) (Lm rfl (bBn (s := 31) rfl (fun hc10 => ?_) (fun hc10 => ?_))))))
      · refine LyT rfl (yf rfl Ty.fo_101_2) (LyT rfl (yl 0 Ty.pl_2 st rfl) (LyT rfl (yne rfl) (Ly rfl (yT rfl) (Ls' rfl (Ls_nil (Th_n (?_)))))))
        exact hout3 _ [(1, _), (11, _)] _ ⟨rfl, rfl, trivial⟩ ⟨by unfold ocheckOp_c3; rewrite [if_neg hc10]; rfl, (st.picks [0, 1] (by decide)).pickK [], hF⟩
      refine LsF rfl (LsF rfl (LsF rfl (Ly rfl (yF rfl) (Ls' rfl (Ls_nil (Th_n (?_)))))))
      exact hout3 _ [(1, _), (11, _)] _ ⟨rfl, rfl, trivial⟩ ⟨by unfold ocheckOp_c3; rewrite [if_pos hc10]; rfl, (st.picks [0, 1] (by decide)).pickK [], hF⟩
    refine rg (Ly rfl (yf rfl Ty.fo_77_0) (Ly rfl (yl 1 Ty.pl_4 st rfl) (Ly rfl (yn rfl) (Lm rfl (bBn (s := 23) rfl (fun hc11 => ?_) (fun hc11 => ?_))))))
    · refine LyT rfl (yf rfl Ty.fo_101_1) (LyT rfl (yl 0 Ty.pl_9 st rfl) (LyT rfl (y_nes rfl rfl rfl) (Ly rfl (yT rfl) (Ls' rfl (Ls_nil (Th_n (?_)))))))
      exact hout2 _ [(1, _), (3, _), (11, _)] _ ⟨rfl, rfl, rfl, trivial⟩ ⟨by unfold ocheckOp_c2; rewrite [if_neg hc11]; rfl, (st.picks [0, 1] (by decide)).pickK [], hF⟩
    refine LsF rfl (LsF rfl (LsF rfl (Ly rfl (yF rfl) (Ls' rfl (Ls_nil (Th_n (?_)))))))
    exact hout2 _ [(1, _), (3, _), (11, _)] _ ⟨rfl, rfl, rfl, trivial⟩ ⟨by unfold ocheckOp_c2; rewrite [if_pos hc11]; rfl, (st.picks [0, 1] (by decide)).pickK [], hF⟩
  refine rg (Ly rfl (yf rfl Ty.fo_77_0) (Ly rfl (yl 1 Ty.pl_4 st rfl) (Lm rfl (bB (s := 14) rfl (fun hc12 => ?_) (fun hc12 => ?_)))))
  · refine LyT rfl (yf rfl Ty.fo_101_1) (LyT rfl (yl 0 Ty.pl_9 st rfl) (LaT rfl (Scl st hF rfl (oelem_ok _ o.name) fun w10 st hF => LyT rfl (yn rfl) (Ly rfl (yT rfl) (Ls' rfl (Ls_nil (Th_n (?_))))))))
    exact hout1 _ [(1, _), (3, _), (11, _)] _ ⟨rfl, rfl, rfl, trivial⟩ ⟨by unfold ocheckOp_c1; rewrite [if_pos hc12]; rfl, (st.picks [0, 1] (by decide)).pickK [], hF⟩
  refine LsF rfl (LsF rfl (LsF rfl (LsF rfl (Ly rfl (yF rfl) (Ls' rfl (Ls_nil (Th_n (?_))))))))
  exact hout1 _ [(1, _), (3, _), (11, _)] _ ⟨rfl, rfl, rfl, trivial⟩ ⟨by unfold ocheckOp_c1; rewrite [if_neg hc12]; rfl, (st.picks [0, 1] (by decide)).pickK [], hF⟩

def ocheckE_c1 (e : EffectM) : Bool :=
  (if (bnotTag_m e.tag) = true then true else containsF_m e.tags bnotTag_m)

def ocheckE_c2 (e : EffectM) : Bool :=
  (if ((oform_m e.act).atF) = true then (if (otimed_m e.atF) = true then (if ((oform_m e.act).tags) = true then false else decide (0 < (e.tags.length : Int))) else true) else (if e.atF = (⟨0, 0⟩ : StampM) then (if ((oform_m e.act).tags) = true then false else decide (0 < (e.tags.length : Int))) else true))

def ocheckE_L1 (e : EffectM) : Nat → Int → (Int) ⊕ (Int)
  | 0, s5 => .inr (s5)
  | fuel + 1, s5 =>
    if s5 < (e.tags.length : Int) then
      if 0 ≤ (icompareTag_m (ix e.tags (s5 - 1)) (ix e.tags s5)) then
        .inl 3
      else
        ocheckE_L1 e fuel (s5 + 1)
    else
      .inr (s5)
def ocheckE_m (e : EffectM) : Int :=
  if (ocheckOp_m (⟨e.act, e.name, e.val⟩ : OpM)) = 0 then
    if (ocheckE_c1 e) = true then
      2
    else
      if 4096 < (e.tags.length : Int) then
        8
      else
        if (ocheckE_c2 e) = true then
          3
        else
          match ocheckE_L1 e (((e.tags.length : Int) - (1 : Int)).toNat + 1) (1 : Int) with
          | .inl r => r
          | .inr (s5) =>
            0
  else
    ocheckOp_m (⟨e.act, e.name, e.val⟩ : OpM)

theorem ocheckE_c1_iff (e : EffectM) : (ocheckE_c1 e = true) ↔ (((bnotTag_m e.tag) = true) ∨ ((containsF_m e.tags bnotTag_m) = true)) := by
  unfold ocheckE_c1; exact (ci1 Iff.rfl)

theorem ocheckE_c2_iff (e : EffectM) : (ocheckE_c2 e = true) ↔ (((((oform_m e.act).atF) = true) ∧ (¬ ((otimed_m e.atF) = true) ∨ (¬ (((oform_m e.act).tags) = true) ∧ (0 < (e.tags.length : Int))))) ∨ (¬ (((oform_m e.act).atF) = true) ∧ (¬ (e.atF = (⟨0, 0⟩ : StampM)) ∨ (¬ (((oform_m e.act).tags) = true) ∧ (0 < (e.tags.length : Int)))))) := by
  unfold ocheckE_c2; exact (ci5 (ci4 (ci3 decide_eq_true_iff)) (ci4 (ci3 decide_eq_true_iff)))

set_option maxRecDepth 20000 in
theorem ocheckE_ok (X : List Nat) (w : World) (hX : Lo X w) (e : EffectM) (A1 : Option Addr) (C1 : Nat) (z2 : Sld X w A1 e.tags.length C1 3 (e.tags.flatMap tagMC)) :
    Fn Tryz.prog 18 [.agg #[.int .i64 e.act, sv e.name, .int .i64 e.val, .int .i64 e.tag.id.origin, .int .u32 e.tag.id.seq, .int .i64 e.tag.n, .int .u32 e.atF.time, .int .i64 e.atF.origin, .slice A1 e.tags.length C1]] w fun v w' => v = .int .i64 (ocheckE_m e) ∧ Fr [] w w' := by
  refine Fn_of 82 Ty.en_18 Tryz.func18 rfl rfl rfl ?_
  dsimp only [argEnv]
  have st := stn1 hX z2
  have hF := Fr.refl ([]) w
  have z1 := (st.q 0 rfl).le
  refine sq fun _ k1 => rg (La rfl (Sbx st hF rfl fun g1 w1 (st : St _ _ [_] _) hF hg1 => Ls' rfl (Ln k1 (sq fun _ k2 => sq fun _ k3 => rg (Ly rfl (yf rfl Ty.fo_48_0) (Ly rfl (yl 0 Ty.pl_3 st rfl) (Ly rfl (yf rfl Ty.fo_48_1) (Ly rfl (yl 0 Ty.pl_9 st rfl) (Ly rfl (yf rfl Ty.fo_48_2) (Ly rfl (yl 0 Ty.pl_2 st rfl) (Ly rfl (y_build (cells := [_, _, _]) rfl rfl Ty.zc_101 Ty.ps_101 rfl) (La rfl (Scl st hF rfl (ocheckOp_ok _ (⟨e.act, e.name, e.val⟩ : OpM)) fun w2 st hF => Ls' rfl (Ln k3 (sq fun _ k4 => rg (Lm rfl (Ly rfl (yne rfl) (Ln k4 (cN rfl (fun hc1 => ?_) (fun hc1 => ?_))))))))))))))))))))
  · refine sq fun _ k5 => rg (Lm rfl (Ls' rfl (Ln k5 (Wp_ret (Th_r (Fq_ret (Res1 rfl rfl) ?_))))))
    unfold ocheckE_m; rewrite [if_neg hc1]
    exact ⟨rfl, hF⟩
  refine sk k2 (sq fun _ k6 => sq fun _ k7 => ?_)
  refine use_out k7 (fun E W => E = [(1, .pointer (some ⟨g1, 0, none⟩)), (24, .bool (ocheckE_c1 e))] ∧ St X W (hOf st) (kOf st) ∧ Fr ([]) w W) ?_ fun hout1 => ?_
  · rintro E w3 ⟨rfl, st, hF⟩
    have st : St X w3 [_] [_] := st
    refine cB rfl (fun hc2 => ?_) (fun hc2 => ?_)
    · have jhc2 := (ocheckE_c1_iff e).1 hc2
      refine sq fun _ k8 => rg (Ls' rfl (Ln k8 (Wp_ret (Th_r (Fq_ret (Res1 rfl rfl) ?_)))))
      unfold ocheckE_m; rewrite [if_pos hc1, if_pos hc2]
      exact ⟨rfl, hF⟩
    have jhc2 := mt (ocheckE_c1_iff e).2 hc2
    refine sk k6 (sq fun _ k9 => sq fun _ k10 => rg (Ly rfl (yf rfl Ty.fo_48_5) (Ly rfl (yl 0 Ty.pl_29 st rfl) (Ly rfl (yll rfl Tryz.underlying29) (Ly rfl (ygt rfl) (Ln k10 (cD rfl (fun hc3 => ?_) (fun hc3 => ?_))))))))
    · refine sq fun _ k11 => rg (Ls' rfl (Ln k11 (Wp_ret (Th_r (Fq_ret (Res1 rfl rfl) ?_)))))
      unfold ocheckE_m; rewrite [if_pos hc1, if_neg hc2, if_pos hc3]
      exact ⟨rfl, hF⟩
    refine sk k9 (sq fun _ k12 => rg (Ly rfl (yf rfl Ty.fo_48_0) (Ly rfl (yl 0 Ty.pl_3 st rfl) (La rfl (Scl st hF rfl (oform_ok _ e.act) fun w4 st hF => La rfl (Sal Ty.zc_77 st hF rfl fun g2 w5 (st : St _ _ [_, _] _) hF hg2 => La rfl (Ssw 1 Ty.sz_77 st hF (.inr hg2) rfl fun w6 (st : St _ _ [_, _] _) hF => Ln k12 (sq fun _ k13 => sq fun _ k14 => ?_))))))))
    refine use_out k14 (fun E W => E = [(1, .pointer (some ⟨g1, 0, none⟩)), (61, .bool (ocheckE_c2 e))] ∧ St X W (hOf st) (kOf st) ∧ Fr ([]) w W) ?_ fun hout2 => ?_
    · rintro E w7 ⟨rfl, st, hF⟩
      have st : St X w7 [_, _] [_] := st
      refine cB rfl (fun hc4 => ?_) (fun hc4 => ?_)
      · have jhc4 := (ocheckE_c2_iff e).1 hc4
        refine sq fun _ k15 => rg (Ls' rfl (Ln k15 (Wp_ret (Th_r (Fq_ret (Res1 rfl rfl) ?_)))))
        unfold ocheckE_m; rewrite [if_pos hc1, if_neg hc2, if_neg hc3, if_pos hc4]
        exact ⟨rfl, hF⟩
      have jhc4 := mt (ocheckE_c2_iff e).2 hc4
      refine sk k13 (sq fun _ k16 => sq fun _ k17 => rg (Ls' rfl (Ln k17 (Wp_block (lp (fun q E W => ∃ (s5 : Int), E = [(1, .pointer (some ⟨g1, 0, none⟩)), (5, .int .i64 s5)] ∧ jq q (fun m => (ocheckE_L1 e m s5 = ocheckE_L1 e (((e.tags.length : Int) - (1 : Int)).toNat + 1) (1 : Int) ∧ ((e.tags.length : Int) - s5).toNat < m)) (ocheckE_L1 e (((e.tags.length : Int) - (1 : Int)).toNat + 1) (1 : Int) = .inr (s5)) ∧ (1 ≤ s5) ∧ St X W [(some g1, Cl [.int .i64 e.act, sv e.name, .int .i64 e.val, .int .i64 e.tag.id.origin, .int .u32 e.tag.id.seq, .int .i64 e.tag.n, .int .u32 e.atF.time, .int .i64 e.atF.origin, .slice A1 e.tags.length C1] 48), (some g2, Cl [.bool ((oform_m e.act).name), .bool ((oform_m e.act).val), .bool ((oform_m e.act).atF), .bool ((oform_m e.act).tags)] 77)] [kS A1 e.tags.length C1 3 (e.tags.flatMap tagMC)] ∧ Fr ([]) w W) (((e.tags.length : Int) - (1 : Int)).toNat + 1) [(1, _), (5, _)] ⟨rfl, rfl, trivial⟩ ⟨_, rfl, ⟨rfl, Nat.lt_succ_self _⟩, by first | omega | (simp; done) | (simp; omega), st, hF⟩ k16 ?_ fun hout3 => ?_)))))
      · rintro E w8 ⟨s5, rfl, hLk1, hinv, st, hF⟩
        unfold jq at hLk1; dsimp only at hLk1
        refine sq fun _ k18 => rg (Ls' rfl (Ln k18 (Wp_ret (Fq_ret (Res1 rfl rfl) ?_))))
        unfold ocheckE_m; rewrite [if_pos hc1, if_neg hc2, if_neg hc3, if_neg hc4, hLk1]; (try dsimp only)
        exact ⟨rfl, hF⟩
      rintro m E w9 ⟨s5, rfl, ⟨hL1, hmu⟩, hinv, st, hF⟩
      obtain ⟨fuel, rfl⟩ : ∃ q, m = q + 1 := ⟨m - 1, by omega⟩
      refine sq fun _ k19 => sq fun _ k20 => rg (Lm rfl (Ly rfl (yf rfl Ty.fo_48_5) (Ly rfl (yl 0 Ty.pl_29 st rfl) (Ly rfl (yll rfl Tryz.underlying29) (Ly rfl (ylt rfl) (Ln k20 (cD rfl (fun hc5 => ?_) (fun hc5 => ?_))))))))
      · refine sk k19 (sq fun _ k21 => Wp_block (sq fun _ k22 => ?_))
        refine Wp_plan (fun W => St X W (pickL (hOf st) [0, 1]) (kOf st)) [(true, 0), (true, 1), (true, 2), (true, 3), (true, 4), (true, 5), (true, 6), (true, 7), (true, 8), (true, 9), (true, 10), (false, 11), (true, 12)] Ty.mx_0 (by kernel_rfl) (by kernel_rfl) rfl ((st.picks [0, 1] (by decide)).drew) ?_
        have st := st.drew
        have hF := hF.step0 (Fr.drew _)
        refine Py rfl (yf rfl Ty.fo_48_5) (Py rfl (y_load (i := 0) rfl rfl Ty.pl_29 (fun _ h => h.hp) rfl rfl) (Pm rfl (Py rfl (y_sub (c := s5 - 1) rfl rfl rfl (wf_i64 (by first | omega | (simp; done) | (simp; omega)))) ?_)))
        obtain ⟨gi1, bi1, egi1⟩ := (st.k (i := 0) rfl).addr (fun _ => rfl) (by decide) (q := s5 - 1) (by first | omega | (simp; done) | (simp; omega)) (by first | omega | (simp; done) | (simp; omega))
        subst egi1
        refine Py rfl (y_ixa (q := s5 - 1) rfl rfl rfl Ty.es_29 (by first | omega | (simp; done) | (simp; omega)) (by first | omega | (simp; done) | (simp; omega))) ?_
        refine Py rfl (y_ldk (q := s5 - 1) rfl rfl Ty.ag_26 (fun _ h => h.k (i := 0) rfl) (fun _ => rfl) (by first | omega | (simp; done) | (simp; omega)) (by first | omega | (simp; done) | (simp; omega))) ?_
        refine Py rfl (yf rfl Ty.fo_48_5) (Py rfl (y_load (i := 0) rfl rfl Ty.pl_29 (fun _ h => h.hp) rfl rfl) (Pm rfl (Py rfl (y_ixa (q := s5) rfl rfl rfl Ty.es_29 (by first | omega | (simp; done) | (simp; omega)) (by first | omega | (simp; done) | (simp; omega))) ?_)))
        refine Py rfl (y_ldk (q := s5) rfl rfl Ty.ag_26 (fun _ h => h.k (i := 0) rfl) (fun _ => rfl) (by first | omega | (simp; done) | (simp; omega)) (by first | omega | (simp; done) | (simp; omega))) ?_
        refine Pl_a rfl (wtd0 rfl) (by rfl) ?_
        refine Scl st hF rfl (icompareTag_ok _ (ix e.tags (s5 - 1)) (ix e.tags s5)) fun w10 st hF => ?_
        refine ⟨(st.picks [0, 1] (by decide)).takeK 1, ?_⟩
        refine Py rfl (yge rfl) (Pl_nil (Th_n (k22 _ _ (cD rfl (fun hc6 => ?_) (fun hc6 => ?_)))))
        · refine sq fun _ k23 => rg (Ls' rfl (Ln k23 (Wp_ret (Ib_r (Th_r (Th_r (Ib_r (Th_r (Fq_ret (Res1 rfl rfl) ?_)))))))))
          have hret1 : ocheckE_L1 e (((e.tags.length : Int) - (1 : Int)).toNat + 1) (1 : Int) = .inl 3 := by rewrite [← hL1, ocheckE_L1]; rewrite [if_pos hc5, if_pos hc6]; rfl
          have he6 : ocheckE_m e = 3 := by unfold ocheckE_m; rewrite [if_pos hc1, if_neg hc2, if_neg hc3, if_neg hc4, hret1]; (try dsimp only); all_goals rfl
          rewrite [he6]
          exact ⟨rfl, hF⟩
        refine Wp_skip (Ib_n (Th_n (k21 _ _ (rg (Lm rfl (Ly rfl (y_add (c := s5 + 1) rfl rfl rfl (wf_i64 (by first | omega | (simp; done) | (simp; omega)))) ?_))))))
        refine Ls' rfl (Ls_nil (Th_n (?_)))
        exact ⟨fuel, [(1, _), (5, _)], Nat.lt_succ_self _, ⟨rfl, rfl, trivial⟩, (s5 + 1), rfl, ⟨by rewrite [← hL1, ocheckE_L1]; rewrite [if_pos hc5, if_neg hc6]; rfl, by first | omega | (simp; done) | (simp; omega)⟩, by first | omega | (simp; done) | (simp; omega), (st.picks [0, 1] (by decide)).pickK [0], hF⟩
      refine Wp_exit (Th_e (Th_e (Ib_hit (Th_n (?_)))))
      exact hout3 _ [(1, _), (5, _)] _ ⟨rfl, rfl, trivial⟩ ⟨s5, rfl, show _ = _ from by rewrite [← hL1, ocheckE_L1]; rewrite [if_neg hc5]; rfl, by first | omega | (simp; done) | (simp; omega), (st.picks [0, 1] (by decide)).pickK [0], hF⟩
    refine rg (Ly rfl (yf rfl Ty.fo_77_2) (Ly rfl (yl 1 Ty.pl_4 st rfl) (Lm rfl (bB (s := 34) rfl (fun hc7 => ?_) (fun hc7 => ?_)))))
    · refine LyT rfl (yf rfl Ty.fo_48_4) (LyT rfl (ym 0 Ty.ag_28 st rfl) (LaT rfl (Scl st hF rfl (otimed_ok _ e.atF) fun w11 st hF => LyT rfl (yn rfl) (Ly rfl (yT rfl) (Lm rfl (bBn (s := 40) rfl (fun hc8 => ?_) (fun hc8 => ?_)))))))
      · refine LsF rfl (LsF rfl (LsF rfl (LsF rfl (LsU rfl (LsU rfl (LsU rfl (LsU rfl (LsF rfl (Ly rfl (yT rfl) (Lm rfl (LsF rfl (LsF rfl (LsF rfl (LsF rfl (LsU rfl (LsU rfl (LsU rfl (LsU rfl (LsF rfl (Ly rfl (yT rfl) (Ls_nil (Th_n (?_)))))))))))))))))))))))
        exact hout2 _ [(1, _), (61, _)] _ ⟨rfl, rfl, trivial⟩ ⟨by unfold ocheckE_c2; rewrite [if_pos hc7, if_neg hc8]; rfl, (st.picks [0, 1] (by decide)).pickK [0], hF⟩
      refine LyT rfl (yf rfl Ty.fo_77_2) (LyT rfl (yl 1 Ty.pl_4 st rfl) (LyT rfl (yn rfl) (LyT rfl (y_move rfl rfl) (Ls_bool 44 rfl (fun hc9 => absurd hc9 (by simp [hc7])) (fun _ => ?_)))))
      refine LsF rfl (LsF rfl (LsF rfl (LsF rfl (LyT rfl (yF rfl) (Ly rfl (yF rfl) (Lm rfl (LyT rfl (yf rfl Ty.fo_77_3) (LyT rfl (yl 1 Ty.pl_4 st rfl) (LyT rfl (yn rfl) (LyT rfl (y_move rfl rfl) (bBn (s := 55) rfl (fun hc10 => ?_) (fun hc10 => ?_))))))))))))
      · refine LyT rfl (yf rfl Ty.fo_48_5) (LyT rfl (yl 0 Ty.pl_29 st rfl) (LyT rfl (yll rfl Tryz.underlying29) (LyT rfl (ygt rfl) (LyT rfl (yT rfl) (Ly rfl (yF rfl) (Ls_nil (Th_n (?_))))))))
        exact hout2 _ [(1, _), (61, _)] _ ⟨rfl, rfl, trivial⟩ ⟨by unfold ocheckE_c2; rewrite [if_pos hc7, if_pos hc8, if_neg hc10]; rfl, (st.picks [0, 1] (by decide)).pickK [0], hF⟩
      refine LsF rfl (LsF rfl (LsF rfl (LsF rfl (LyT rfl (yF rfl) (Ly rfl (yF rfl) (Ls_nil (Th_n (?_))))))))
      exact hout2 _ [(1, _), (61, _)] _ ⟨rfl, rfl, trivial⟩ ⟨by unfold ocheckE_c2; rewrite [if_pos hc7, if_pos hc8, if_pos hc10]; rfl, (st.picks [0, 1] (by decide)).pickK [0], hF⟩
    refine LsF rfl (LsF rfl (LsF rfl (LsF rfl (Ly rfl (yF rfl) (Lm rfl (LyT rfl (yf rfl Ty.fo_77_2) (LyT rfl (yl 1 Ty.pl_4 st rfl) (LyT rfl (yn rfl) (LyT rfl (y_move rfl rfl) (Ls_bool 44 rfl (fun _ => ?_) (fun hc11 => absurd hc11 (by simp [hc7]))))))))))))
    refine LyT rfl (yf rfl Ty.fo_48_4) (LyT rfl (ym 0 Ty.ag_28 st rfl) (LyT rfl (y_build (cells := [_, _]) rfl rfl Ty.zc_28 Ty.ps_28 rfl) (LyT rfl (y_nev (b := decide (e.atF = (⟨0, 0⟩ : StampM))) rfl rfl rfl Ty.eg_28 (by rw [Ty.ag_28]; simp) (eqv_28 e.atF (⟨0, 0⟩ : StampM))) ?_)))
    refine LyT rfl (yT rfl) (Ly rfl (yF rfl) (Lm rfl (bDn (s := 51) rfl (fun hc12 => ?_) (fun hc12 => ?_))))
    · refine LsF rfl (LsF rfl (LsF rfl (LsF rfl (LsU rfl (LsU rfl (LsU rfl (LsU rfl (LsF rfl (Ly rfl (yT rfl) (Ls_nil (Th_n (?_))))))))))))
      exact hout2 _ [(1, _), (61, _)] _ ⟨rfl, rfl, trivial⟩ ⟨by unfold ocheckE_c2; rewrite [if_neg hc7, if_neg hc12]; rfl, (st.picks [0, 1] (by decide)).pickK [0], hF⟩
    refine LyT rfl (yf rfl Ty.fo_77_3) (LyT rfl (yl 1 Ty.pl_4 st rfl) (LyT rfl (yn rfl) (LyT rfl (y_move rfl rfl) (bBn (s := 55) rfl (fun hc13 => ?_) (fun hc13 => ?_)))))
    · refine LyT rfl (yf rfl Ty.fo_48_5) (LyT rfl (yl 0 Ty.pl_29 st rfl) (LyT rfl (yll rfl Tryz.underlying29) (LyT rfl (ygt rfl) (LyT rfl (yT rfl) (Ly rfl (yF rfl) (Ls_nil (Th_n (?_))))))))
      exact hout2 _ [(1, _), (61, _)] _ ⟨rfl, rfl, trivial⟩ ⟨by unfold ocheckE_c2; rewrite [if_neg hc7, if_pos hc12, if_neg hc13]; rfl, (st.picks [0, 1] (by decide)).pickK [0], hF⟩
    refine LsF rfl (LsF rfl (LsF rfl (LsF rfl (LyT rfl (yF rfl) (Ly rfl (yF rfl) (Ls_nil (Th_n (?_))))))))
    exact hout2 _ [(1, _), (61, _)] _ ⟨rfl, rfl, trivial⟩ ⟨by unfold ocheckE_c2; rewrite [if_neg hc7, if_pos hc12, if_pos hc13]; rfl, (st.picks [0, 1] (by decide)).pickK [0], hF⟩
  refine rg (Ly rfl (yf rfl Ty.fo_48_3) (Ly rfl (ym 0 Ty.ag_26 st rfl) (La rfl (Scl st hF rfl (bnotTag_ok _ e.tag) fun w12 st hF => Lm rfl (bB (s := 20) rfl (fun hc14 => ?_) (fun hc14 => ?_))))))
  · refine LsF rfl (LsF rfl (LsF rfl (Ly rfl (yT rfl) (Ls_nil (Th_n (?_))))))
    exact hout1 _ [(1, _), (24, _)] _ ⟨rfl, rfl, trivial⟩ ⟨by unfold ocheckE_c1; rewrite [if_pos hc14]; rfl, (st.picks [0] (by decide)).pickK [0], hF⟩
  refine LyT rfl (yf rfl Ty.fo_48_5) (LyT rfl (yl 0 Ty.pl_29 st rfl) (LaT rfl (Scl st hF rfl (containsTag_ok (keys (hOf st) ++ X) _ st.Lo e.tags A1 C1 (.func (.func 48) #[] #[]) bnotTag_m (st.q 0 rfl) (fun w1 x0 _ => FnV.of (bnotTag_ok w1 x0))) fun w13 st hF => Ly rfl (yF rfl) (Ls_nil (Th_n (?_))))))
  exact hout1 _ [(1, _), (24, _)] _ ⟨rfl, rfl, trivial⟩ ⟨by unfold ocheckE_c1; rewrite [if_neg hc14]; rfl, (st.picks [0] (by decide)).pickK [0], hF⟩

structure AddM where
  tag : TagM
  elem : List UInt8
instance : Inhabited AddM := ⟨⟨default, default⟩⟩
instance : DecidableEq AddM := fun a b => decidable_of_iff (a.tag = b.tag ∧ a.elem = b.elem) (by cases a; cases b; simp)
def addMC (x : AddM) : List Value := [.int .i64 x.tag.id.origin, .int .u32 x.tag.id.seq, .int .i64 x.tag.n, sv x.elem]
theorem addMC_len (x : AddM) : (addMC x).length = 4 := rfl
theorem addMC_1 (x : AddM) : ∀ v ∈ addMC x, v.oneCell' = true := all_one rfl
structure SetM where
  adds : List AddM
  gone : List TagM
instance : Inhabited SetM := ⟨⟨default, default⟩⟩
instance : DecidableEq SetM := fun a b => decidable_of_iff (a.adds = b.adds ∧ a.gone = b.gone) (by cases a; cases b; simp)
def great12_m (s : SetM) : Bool :=
  if 200 < (s.adds.length : Int) then
    true
  else
    decide (200 < (s.gone.length : Int))


set_option maxRecDepth 20000 in
theorem great12_ok (X : List Nat) (w : World) (hX : Lo X w) (s : SetM) (A1 : Option Addr) (C1 : Nat) (A2 : Option Addr) (C2 : Nat) (z3 : Sld X w A1 s.adds.length C1 4 (s.adds.flatMap addMC)) (z4 : Sld X w A2 s.gone.length C2 3 (s.gone.flatMap tagMC)) :
    Fn Tryz.prog 16 [.agg #[.slice A1 s.adds.length C1, .slice A2 s.gone.length C2]] w fun v w' => v = .bool (great12_m s) ∧ Fr [] w w' := by
  refine Fn_of 13 Ty.en_16 Tryz.func16 rfl rfl rfl ?_
  dsimp only [argEnv]
  have st := stn2 hX z3 z4
  have hF := Fr.refl ([]) w
  have z1 := (st.q 0 rfl).le
  have z2 := (st.q 1 rfl).le
  refine sq fun _ k1 => rg (La rfl (Sbx st hF rfl fun g1 w1 (st : St _ _ [_] _) hF hg1 => Ls' rfl (Ln k1 (sq fun _ k2 => rg (Ly rfl (yf rfl Ty.fo_39_0) (Ly rfl (yl 0 Ty.pl_37 st rfl) (Ly rfl (yll rfl Tryz.underlying37) (Ly rfl (ygt rfl) (Lm rfl (bD (s := 7) rfl (fun hc1 => ?_) (fun hc1 => ?_)))))))))))
  · refine LsF rfl (LsF rfl (LsF rfl (LsF rfl (Ly rfl (yT rfl) (Ls' rfl (Ln k2 (Wp_ret (Fq_ret (Res1 rfl rfl) ?_))))))))
    unfold great12_m; rewrite [if_pos hc1]
    exact ⟨rfl, hF⟩
  refine LyT rfl (yf rfl Ty.fo_39_1) (LyT rfl (yl 0 Ty.pl_29 st rfl) (LyT rfl (yll rfl Tryz.underlying29) (LyT rfl (ygt rfl) (Ly rfl (yF rfl) (Ls' rfl (Ln k2 (Wp_ret (Fq_ret (Res1 rfl rfl) ?_))))))))
  unfold great12_m; rewrite [if_neg hc1]
  exact ⟨rfl, hF⟩

structure PutM where
  tag : TagM
  field : List UInt8
  val : Int
  atF : StampM
instance : Inhabited PutM := ⟨⟨default, default, default, default⟩⟩
instance : DecidableEq PutM := fun a b => decidable_of_iff (a.tag = b.tag ∧ a.field = b.field ∧ a.val = b.val ∧ a.atF = b.atF) (by cases a; cases b; simp)
def putMC (x : PutM) : List Value := [.int .i64 x.tag.id.origin, .int .u32 x.tag.id.seq, .int .i64 x.tag.n, sv x.field, .int .i64 x.val, .int .u32 x.atF.time, .int .i64 x.atF.origin]
theorem putMC_len (x : PutM) : (putMC x).length = 7 := rfl
theorem putMC_1 (x : PutM) : ∀ v ∈ putMC x, v.oneCell' = true := all_one rfl
structure MapM where
  puts : List PutM
  gone : List TagM
instance : Inhabited MapM := ⟨⟨default, default⟩⟩
instance : DecidableEq MapM := fun a b => decidable_of_iff (a.puts = b.puts ∧ a.gone = b.gone) (by cases a; cases b; simp)
def great13_m (s : MapM) : Bool :=
  if 100 < (s.puts.length : Int) then
    true
  else
    decide (200 < (s.gone.length : Int))


set_option maxRecDepth 20000 in
theorem great13_ok (X : List Nat) (w : World) (hX : Lo X w) (s : MapM) (A2 : Option Addr) (C2 : Nat) (A1 : Option Addr) (C1 : Nat) (z4 : Sld X w A2 s.puts.length C2 7 (s.puts.flatMap putMC)) (z3 : Sld X w A1 s.gone.length C1 3 (s.gone.flatMap tagMC)) :
    Fn Tryz.prog 17 [.agg #[.slice A2 s.puts.length C2, .slice A1 s.gone.length C1]] w fun v w' => v = .bool (great13_m s) ∧ Fr [] w w' := by
  refine Fn_of 13 Ty.en_17 Tryz.func17 rfl rfl rfl ?_
  dsimp only [argEnv]
  have st := stn2 hX z4 z3
  have hF := Fr.refl ([]) w
  have z2 := (st.q 0 rfl).le
  have z1 := (st.q 1 rfl).le
  refine sq fun _ k1 => rg (La rfl (Sbx st hF rfl fun g1 w1 (st : St _ _ [_] _) hF hg1 => Ls' rfl (Ln k1 (sq fun _ k2 => rg (Ly rfl (yf rfl Ty.fo_42_0) (Ly rfl (yl 0 Ty.pl_40 st rfl) (Ly rfl (yll rfl Tryz.underlying40) (Ly rfl (ygt rfl) (Lm rfl (bD (s := 7) rfl (fun hc1 => ?_) (fun hc1 => ?_)))))))))))
  · refine LsF rfl (LsF rfl (LsF rfl (LsF rfl (Ly rfl (yT rfl) (Ls' rfl (Ln k2 (Wp_ret (Fq_ret (Res1 rfl rfl) ?_))))))))
    unfold great13_m; rewrite [if_pos hc1]
    exact ⟨rfl, hF⟩
  refine LyT rfl (yf rfl Ty.fo_42_1) (LyT rfl (yl 0 Ty.pl_29 st rfl) (LyT rfl (yll rfl Tryz.underlying29) (LyT rfl (ygt rfl) (Ly rfl (yF rfl) (Ls' rfl (Ln k2 (Wp_ret (Fq_ret (Res1 rfl rfl) ?_))))))))
  unfold great13_m; rewrite [if_neg hc1]
  exact ⟨rfl, hF⟩

structure RegM where
  val : Int
  atF : StampM
instance : Inhabited RegM := ⟨⟨default, default⟩⟩
instance : DecidableEq RegM := fun a b => decidable_of_iff (a.val = b.val ∧ a.atF = b.atF) (by cases a; cases b; simp)
def regMC (x : RegM) : List Value := [.int .i64 x.val, .int .u32 x.atF.time, .int .i64 x.atF.origin]
theorem regMC_len (x : RegM) : (regMC x).length = 3 := rfl
theorem regMC_1 (x : RegM) : ∀ v ∈ regMC x, v.oneCell' = true := all_one rfl
structure NumM where
  plus : Int
  minus : Int
instance : Inhabited NumM := ⟨⟨default, default⟩⟩
instance : DecidableEq NumM := fun a b => decidable_of_iff (a.plus = b.plus ∧ a.minus = b.minus) (by cases a; cases b; simp)
def numMC (x : NumM) : List Value := [.int .i64 x.plus, .int .i64 x.minus]
theorem numMC_len (x : NumM) : (numMC x).length = 2 := rfl
theorem numMC_1 (x : NumM) : ∀ v ∈ numMC x, v.oneCell' = true := all_one rfl
structure ObjM where
  kind : Int
  reg : RegM
  num : NumM
  setF : SetM
  map : MapM
instance : Inhabited ObjM := ⟨⟨default, default, default, default, default⟩⟩
instance : DecidableEq ObjM := fun a b => decidable_of_iff (a.kind = b.kind ∧ a.reg = b.reg ∧ a.num = b.num ∧ a.setF = b.setF ∧ a.map = b.map) (by cases a; cases b; simp)
def great14_m (s : ObjM) (e : EffectM) : Bool :=
  if (great12_m s.setF) = true then
    true
  else
    if (great13_m s.map) = true then
      true
    else
      if 100 < (e.tags.length : Int) then
        true
      else
        decide (1000 < (e.name.length : Int))


set_option maxRecDepth 20000 in
theorem great14_ok (X : List Nat) (w : World) (hX : Lo X w) (s : ObjM) (A1 : Option Addr) (C1 : Nat) (A2 : Option Addr) (C2 : Nat) (A4 : Option Addr) (C4 : Nat) (A3 : Option Addr) (C3 : Nat) (e : EffectM) (A5 : Option Addr) (C5 : Nat) (z5 : Sld X w A1 s.setF.adds.length C1 4 (s.setF.adds.flatMap addMC)) (z6 : Sld X w A2 s.setF.gone.length C2 3 (s.setF.gone.flatMap tagMC)) (z8 : Sld X w A4 s.map.puts.length C4 7 (s.map.puts.flatMap putMC)) (z7 : Sld X w A3 s.map.gone.length C3 3 (s.map.gone.flatMap tagMC)) (z10 : Sld X w A5 e.tags.length C5 3 (e.tags.flatMap tagMC)) :
    Fn Tryz.prog 4 [.agg #[.int .i64 s.kind, .int .i64 s.reg.val, .int .u32 s.reg.atF.time, .int .i64 s.reg.atF.origin, .int .i64 s.num.plus, .int .i64 s.num.minus, .slice A1 s.setF.adds.length C1, .slice A2 s.setF.gone.length C2, .slice A4 s.map.puts.length C4, .slice A3 s.map.gone.length C3], .agg #[.int .i64 e.act, sv e.name, .int .i64 e.val, .int .i64 e.tag.id.origin, .int .u32 e.tag.id.seq, .int .i64 e.tag.n, .int .u32 e.atF.time, .int .i64 e.atF.origin, .slice A5 e.tags.length C5]] w fun v w' => v = .bool (great14_m s e) ∧ Fr [] w w' := by
  refine Fn_of 25 Ty.en_4 Tryz.func4 rfl rfl rfl ?_
  dsimp only [argEnv]
  have st := stn5 hX z5 z6 z8 z7 z10
  have hF := Fr.refl ([]) w
  have z1 := (st.q 0 rfl).le
  have z2 := (st.q 1 rfl).le
  have z4 := (st.q 2 rfl).le
  have z3 := (st.q 3 rfl).le
  have z9 := (st.q 4 rfl).le
  refine sq fun _ k1 => rg (La rfl (Sbx st hF rfl fun g1 w1 (st : St _ _ [_] _) hF hg1 => La rfl (Sbx st hF rfl fun g2 w2 (st : St _ _ [_, _] _) hF hg2 => Ls' rfl (Ln k1 (sq fun _ k2 => rg (Ly rfl (yf rfl Ty.fo_44_3) (Ly rfl (ym 0 Ty.ag_39 st rfl) (La rfl (Scl st hF rfl (great12_ok (keys (hOf st) ++ X) _ st.Lo s.setF A1 C1 A2 C2 (st.q 0 rfl) (st.q 1 rfl)) fun w3 st hF => Lm rfl (bB (s := 8) rfl (fun hc1 => ?_) (fun hc1 => ?_)))))))))))
  · refine LsF rfl (LsF rfl (LsF rfl (Ly rfl (yT rfl) (Lm rfl (LsF rfl (LsF rfl (LsF rfl (LsF rfl (Ly rfl (yT rfl) (Lm rfl (LsF rfl (LsF rfl (LsF rfl (LsF rfl (Ly rfl (yT rfl) (Ls' rfl (Ln k2 (Wp_ret (Fq_ret (Res1 rfl rfl) ?_)))))))))))))))))))
    unfold great14_m; rewrite [if_pos hc1]
    exact ⟨rfl, hF⟩
  refine LyT rfl (yf rfl Ty.fo_44_4) (LyT rfl (ym 0 Ty.ag_42 st rfl) (LaT rfl (Scl st hF rfl (great13_ok (keys (hOf st) ++ X) _ st.Lo s.map A4 C4 A3 C3 (st.q 2 rfl) (st.q 3 rfl)) fun w4 st hF => Ly rfl (yF rfl) (Lm rfl (bB (s := 13) rfl (fun hc2 => ?_) (fun hc2 => ?_))))))
  · refine LsF rfl (LsF rfl (LsF rfl (LsF rfl (Ly rfl (yT rfl) (Lm rfl (LsF rfl (LsF rfl (LsF rfl (LsF rfl (Ly rfl (yT rfl) (Ls' rfl (Ln k2 (Wp_ret (Fq_ret (Res1 rfl rfl) ?_))))))))))))))
    unfold great14_m; rewrite [if_neg hc1, if_pos hc2]
    exact ⟨rfl, hF⟩
  refine LyT rfl (yf rfl Ty.fo_31_5) (LyT rfl (yl 1 Ty.pl_29 st rfl) (LyT rfl (yll rfl Tryz.underlying29) (LyT rfl (ygt rfl) (Ly rfl (yF rfl) (Lm rfl (bD (s := 19) rfl (fun hc3 => ?_) (fun hc3 => ?_)))))))
  · refine LsF rfl (LsF rfl (LsF rfl (LsF rfl (Ly rfl (yT rfl) (Ls' rfl (Ln k2 (Wp_ret (Fq_ret (Res1 rfl rfl) ?_))))))))
    unfold great14_m; rewrite [if_neg hc1, if_neg hc2, if_pos hc3]
    exact ⟨rfl, hF⟩
  refine LyT rfl (yf rfl Ty.fo_31_1) (LyT rfl (yl 1 Ty.pl_9 st rfl) (LyT rfl (y_lens rfl rfl Tryz.underlying9) (LyT rfl (ygt rfl) (Ly rfl (yF rfl) (Ls' rfl (Ln k2 (Wp_ret (Fq_ret (Res1 rfl rfl) ?_))))))))
  unfold great14_m; rewrite [if_neg hc1, if_neg hc2, if_neg hc3]
  exact ⟨rfl, hF⟩

def eff14_m (e : EffectM) : EffectM :=
  (⟨e.act, e.name, e.val, e.tag, e.atF, ([] : List TagM) ++ e.tags⟩ : EffectM)


set_option maxRecDepth 20000 in
theorem eff14_ok (X : List Nat) (w : World) (hX : Lo X w) (e : EffectM) (A1 : Option Addr) (C1 : Nat) (z2 : Sld X w A1 e.tags.length C1 3 (e.tags.flatMap tagMC)) (h1 : e.tags.length ≤ 1000000) :
    Fn Tryz.prog 6 [.agg #[.int .i64 e.act, sv e.name, .int .i64 e.val, .int .i64 e.tag.id.origin, .int .u32 e.tag.id.seq, .int .i64 e.tag.n, .int .u32 e.atF.time, .int .i64 e.atF.origin, .slice A1 e.tags.length C1]] w fun v w' => ∃ (A2 : Option Addr) (C2 : Nat), v = .agg #[.int .i64 ((eff14_m e).act), sv ((eff14_m e).name), .int .i64 ((eff14_m e).val), .int .i64 (((eff14_m e).tag).id.origin), .int .u32 (((eff14_m e).tag).id.seq), .int .i64 (((eff14_m e).tag).n), .int .u32 (((eff14_m e).atF).time), .int .i64 (((eff14_m e).atF).origin), .slice A2 ((eff14_m e).tags).length C2] ∧ Sld X w' A2 ((eff14_m e).tags).length C2 3 (((eff14_m e).tags).flatMap tagMC) ∧ Fr [] w w' := by
  refine Fn_of 18 Ty.en_6 Tryz.func6 rfl rfl rfl ?_
  dsimp only [argEnv]
  have st := stn1 hX z2
  have hF := Fr.refl ([]) w
  have z1 := (st.q 0 rfl).le
  refine sq fun _ k1 => rg (La rfl (Sbx st hF rfl fun g1 w1 (st : St _ _ [_] _) hF hg1 => La rfl (Sal Ty.zc_48 st hF rfl fun g2 w2 (st : St _ _ [_, _] _) hF hg2 => Ln k1 (sq fun _ k2 => ?_))))
  refine Wp_planF (fun W => St X W (pickL (hOf st) [0, 1]) (kOf st)) [(true, 0), (true, 1), (true, 2), (true, 3), (true, 4), (true, 5), (true, 6), (true, 7), (true, 8), (true, 9), (true, 11), (true, 12), (false, 10), (false, 13), (true, 14)] 15 Ty.mx_0 (by kernel_rfl) (by kernel_rfl) (by kernel_rfl) rfl ((st.picks [0, 1] (by decide)).drew) ?_
  have st := st.drew
  have hF := hF.step0 (Fr.drew _)
  refine Py rfl (yf rfl Ty.fo_31_0) (Py rfl (y_load (i := 0) rfl rfl Ty.pl_3 (fun _ h => h.hp) rfl rfl) (Py rfl (yf rfl Ty.fo_31_1) (Py rfl (y_load (i := 0) rfl rfl Ty.pl_9 (fun _ h => h.hp) rfl rfl) (Py rfl (yf rfl Ty.fo_31_2) (Py rfl (y_load (i := 0) rfl rfl Ty.pl_2 (fun _ h => h.hp) rfl rfl) (Py rfl (yf rfl Ty.fo_31_3) (Py rfl (y_loadm (i := 0) rfl rfl Ty.ag_26 (fun _ h => h.hp) rfl rfl rfl) (Py rfl (yf rfl Ty.fo_31_4) (Py rfl (y_loadm (i := 0) rfl rfl Ty.ag_28 (fun _ h => h.hp) rfl rfl rfl) (Py rfl (yf rfl Ty.fo_31_5) (Py rfl (y_load (i := 0) rfl rfl Ty.pl_29 (fun _ h => h.hp) rfl rfl) (Pl_a rfl (wtd0 rfl) (by rfl) ?_))))))))))))
  refine Sb0 (enc := tagMC) Ty.es_29 Ty.zc_26 st hF rfl fun g3 w3 how1 hnew1 (st : St _ _ [_, _, _] _) hF => ?_
  refine ⟨(st.picks [0, 1] (by decide)).takeK 1, ?_⟩
  refine Pl_a rfl (wtd0 rfl) (by rfl) ?_
  refine Sap (enc := tagMC) ([] : List TagM) e.tags 2 Ty.es_29 Ty.zc_26 Ty.by_26 (fun _ => rfl) tagMC_1 how1 hnew1 st hF (st.k (i := 0) rfl).rd.src (fun h => by have := (st.k (i := 0) rfl).rd; exact rd_none this h (st.k (i := 0) rfl).len (by decide)) rfl (by first | omega | (simp; done) | (simp; omega)) (by first | omega | (simp; done) | (simp; omega)) fun Aa1 ca1 sp1 w4 how2 hnew2 (st : St _ _ [_, _, _] _) hF => ?_
  refine ⟨(st.picks [0, 1] (by decide)).takeK 1, ?_⟩
  refine Py rfl (y_build (cells := [_, _, _, _, _, _, _, _, _]) rfl rfl Ty.zc_48 Ty.ps_48 rfl) (Pl_nil (Fin_a rfl (wtd0 rfl) (Ssw 1 Ty.sz_48 st hF (.inr hg2) rfl fun w5 (st : St _ _ [_, _, _] _) hF => id (Th_n (k2 _ _ ?_)))))
  have st : St X w5 [_, _] [_, _] := st.freeze (i := 2) [0, 1] (by decide) rfl how2 (by decide)
  refine Wp_ret (Fq_ret (ResN1 rfl (rvc (i := 1) rfl Ty.ag_48 st.hp rfl rfl)) ?_)
  unfold eff14_m
  exact ⟨_, _, rfl, st.ot 1 rfl, hF⟩

end Go.Proofs.YtdgllcmlfblelaaGreatDoor

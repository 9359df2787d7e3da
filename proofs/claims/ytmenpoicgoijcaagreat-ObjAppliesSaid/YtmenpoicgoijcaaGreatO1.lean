/- Walks printed by gen2.py out of our own specifications: what the functions named below do. -/
import Derived.Test.YtmenpoicgoijcaaGreatSc
import Derived.Test.YtmenpoicgoijcaaGreatSe
import Derived.Test.YtmenpoicgoijcaaGreatTy
set_option linter.unusedSimpArgs false
set_option linter.unusedVariables false
set_option maxRecDepth 20000
namespace Go.Proofs.YtmenpoicgoijcaaGreat
open Go.RowKit
structure IdM where
  origin : Int
  seq : Int
instance : Inhabited IdM := ⟨⟨default, default⟩⟩
instance : DecidableEq IdM := fun a b => decidable_of_iff (a.origin = b.origin ∧ a.seq = b.seq) (by cases a; cases b; simp)
def idMC (x : IdM) : List Value := [.int .i64 x.origin, .int .u32 x.seq]
def r5check_c1 (id : IdM) : Bool :=
  (if id.origin < 0 then true else (if 7 < id.origin then true else (if id.seq < 1 then true else decide (1048576 < id.seq))))
def r5check_m (id : IdM) : Int :=
  if (r5check_c1 id) = true then
    2
  else
    0
theorem r5check_c1_iff (id : IdM) : (r5check_c1 id = true) ↔ ((id.origin < 0) ∨ ((7 < id.origin) ∨ ((id.seq < 1) ∨ (1048576 < id.seq)))) := by
  unfold r5check_c1; exact (ci1 (ci1 (ci1 decide_eq_true_iff)))
theorem r5check_ok (w : World) (id : IdM) :
    Fn Tryz.prog 148 [.agg (idMC id).toArray] w fun v w' => v = .int .i64 (r5check_m id) ∧ Fr [] w w' := by
  refine Fn_of 21 Ty.en_148 Tryz.func148 rfl rfl rfl ?_
  dsimp only [argEnv]
  have st := stn0 (X := []) (w := w) (by simp [Lo])
  have hF := Fr.refl ([]) w
  refine sq fun _ k1 => rg (La rfl (Sbx st hF rfl fun g1 w1 (st : St _ _ [_] _) hF hg1 => Ls' rfl (Ln k1 (sq fun _ k2 => sq fun _ k3 => ?_))))
  refine use_out k3 (fun E W => E = [(20, .bool (r5check_c1 id))] ∧ St [] W (hOf st) (kOf st) ∧ Fr ([]) w W) ?_ fun hout1 => ?_
  · rintro E w2 ⟨rfl, st, hF⟩
    have st : St [] w2 [_] [] := st
    refine cB rfl (fun hc1 => ?_) (fun hc1 => ?_)
    · have jhc1 := (r5check_c1_iff id).1 hc1
      refine sq fun _ k4 => rg (Ls' rfl (Ln k4 (wR (Th_r (fR (Res1 rfl rfl) ?_)))))
      unfold r5check_m; rewrite [iP hc1]
      exact ⟨rfl, hF⟩
    have jhc1 := mt (r5check_c1_iff id).2 hc1
    refine sk k2 (sq fun _ k5 => rg (Ls' rfl (Ln k5 (wR (fR (Res1 rfl rfl) ?_)))))
    unfold r5check_m; rewrite [iN hc1]
    exact ⟨rfl, hF⟩
  refine rg (Ly rfl (yf rfl Ty.fo_39_0) (Ly rfl (yl 0 Ty.pl_3 st rfl) (Ly rfl (ylt rfl) (Lm rfl (bD (s := 6) rfl (fun hc2 => ?_) (fun hc2 => ?_))))))
  · refine LsF rfl (LsF rfl (LsF rfl (Ly rfl (yT rfl) (Lm rfl (LsF rfl (LsF rfl (LsF rfl (Ly rfl (yT rfl) (Lm rfl (LsF rfl (LsF rfl (LsF rfl (Ly rfl (yT rfl) (Ls_nil (Th_n (?_))))))))))))))))
    exact hout1 _ [(20, _)] _ ⟨rfl, trivial⟩ ⟨by unfold r5check_c1; rewrite [iP hc2]; rfl, (st.pk [0] (by decide)).pickK [], hF⟩
  refine LyT rfl (yf rfl Ty.fo_39_0) (LyT rfl (yl 0 Ty.pl_3 st rfl) (LyT rfl (ygt rfl) (Ly rfl (yF rfl) (Lm rfl (bD (s := 11) rfl (fun hc3 => ?_) (fun hc3 => ?_))))))
  · refine LsF rfl (LsF rfl (LsF rfl (Ly rfl (yT rfl) (Lm rfl (LsF rfl (LsF rfl (LsF rfl (Ly rfl (yT rfl) (Ls_nil (Th_n (?_)))))))))))
    exact hout1 _ [(20, _)] _ ⟨rfl, trivial⟩ ⟨by unfold r5check_c1; rewrite [iN hc2, iP hc3]; rfl, (st.pk [0] (by decide)).pickK [], hF⟩
  refine LyT rfl (yf rfl Ty.fo_39_1) (LyT rfl (yl 0 Ty.pl_22 st rfl) (LyT rfl (ylt rfl) (Ly rfl (yF rfl) (Lm rfl (bD (s := 16) rfl (fun hc4 => ?_) (fun hc4 => ?_))))))
  · refine LsF rfl (LsF rfl (LsF rfl (Ly rfl (yT rfl) (Ls_nil (Th_n (?_))))))
    exact hout1 _ [(20, _)] _ ⟨rfl, trivial⟩ ⟨by unfold r5check_c1; rewrite [iN hc2, iN hc3, iP hc4]; rfl, (st.pk [0] (by decide)).pickK [], hF⟩
  refine LyT rfl (yf rfl Ty.fo_39_1) (LyT rfl (yl 0 Ty.pl_22 st rfl) (LyT rfl (ygt rfl) (Ly rfl (yF rfl) (Ls_nil (Th_n (?_))))))
  exact hout1 _ [(20, _)] _ ⟨rfl, trivial⟩ ⟨by unfold r5check_c1; rewrite [iN hc2, iN hc3, iN hc4]; rfl, (st.pk [0] (by decide)).pickK [], hF⟩
def r5order_m (a : Int) (b : Int) : Int :=
  if a < b then
    (-1)
  else
    if b < a then
      1
    else
      0
theorem r5order_ok (w : World) (a : Int) (b : Int) :
    Fn Tryz.prog 150 [.int .i64 a, .int .i64 b] w fun v w' => v = .int .i64 (r5order_m a b) ∧ Fr [] w w' := by
  refine Fn_of 13 Ty.en_150 Tryz.func150 rfl rfl rfl ?_
  dsimp only [argEnv]
  have st := stn0 (X := []) (w := w) (by simp [Lo])
  have hF := Fr.refl ([]) w
  refine sq fun _ k1 => rg (Ls' rfl (Ln k1 (sq fun _ k2 => Wp_block (sq fun _ k3 => rg (Lm rfl (Lm rfl (Ly rfl (ylt rfl) (Ls' rfl (Ln k3 (cD rfl (fun hc1 => ?_) (fun hc1 => ?_)))))))))))
  · refine sq fun _ k4 => rg (Ls' rfl (Ln k4 (wR (Ib_r (Th_r (fR (Res1 rfl rfl) ?_))))))
    unfold r5order_m; rewrite [iP hc1]
    exact ⟨rfl, hF⟩
  refine sq fun _ k5 => rg (Lm rfl (Lm rfl (Ly rfl (ygt rfl) (Ls' rfl (Ln k5 (cD rfl (fun hc2 => ?_) (fun hc2 => ?_)))))))
  · refine sq fun _ k6 => rg (Ls' rfl (Ln k6 (wR (Ib_r (Th_r (fR (Res1 rfl rfl) ?_))))))
    unfold r5order_m; rewrite [iN hc1, iP hc2]
    exact ⟨rfl, hF⟩
  refine Wp_skip (Ib_n (Th_n (k2 _ _ (sq fun _ k7 => rg (Ls' rfl (Ln k7 (wR (fR (Res1 rfl rfl) ?_))))))))
  unfold r5order_m; rewrite [iN hc1, iN hc2]
  exact ⟨rfl, hF⟩
def r5compare_m (a : IdM) (b : IdM) : Int :=
  if a.origin = b.origin then
    r5order_m (IntKind.i64.wrap a.seq) (IntKind.i64.wrap b.seq)
  else
    r5order_m a.origin b.origin
theorem r5compare_ok (w : World) (a : IdM) (b : IdM) :
    Fn Tryz.prog 149 [.agg (idMC a).toArray, .agg (idMC b).toArray] w fun v w' => v = .int .i64 (r5compare_m a b) ∧ Fr [] w w' := by
  refine Fn_of 22 Ty.en_149 Tryz.func149 rfl rfl rfl ?_
  dsimp only [argEnv]
  have st := stn0 (X := []) (w := w) (by simp [Lo])
  have hF := Fr.refl ([]) w
  refine sq fun _ k1 => rg (La rfl (Sbx st hF rfl fun g1 w1 (st : St _ _ [_] _) hF hg1 => La rfl (Sbx st hF rfl fun g2 w2 (st : St _ _ [_, _] _) hF hg2 => Ls' rfl (Ln k1 (sq fun _ k2 => sq fun _ k3 => rg (Ly rfl (yf rfl Ty.fo_39_0) (Ly rfl (yl 0 Ty.pl_3 st rfl) (Ly rfl (yf rfl Ty.fo_39_0) (Ly rfl (yl 1 Ty.pl_3 st rfl) (Ly rfl (yne rfl) (Ln k3 (cN rfl (fun hc1 => ?_) (fun hc1 => ?_)))))))))))))
  · refine sq fun _ k4 => rg (Ly rfl (yf rfl Ty.fo_39_0) (Ly rfl (yl 0 Ty.pl_3 st rfl) (Ly rfl (yf rfl Ty.fo_39_0) (Ly rfl (yl 1 Ty.pl_3 st rfl) (La rfl (Scl st hF rfl (r5order_ok _ a.origin b.origin) fun w3 st hF => Ls' rfl (Ln k4 (wR (Th_r (fR (Res1 rfl rfl) ?_))))))))))
    unfold r5compare_m; rewrite [iN hc1]
    exact ⟨rfl, hF⟩
  refine sk k2 (sq fun _ k5 => rg (Ly rfl (yf rfl Ty.fo_39_1) (Ly rfl (yl 0 Ty.pl_22 st rfl) (Ly rfl (y_cvi (c := IntKind.i64.wrap a.seq) rfl rfl Tryz.underlying22 Tryz.underlying3 rfl) (Ly rfl (yf rfl Ty.fo_39_1) (Ly rfl (yl 1 Ty.pl_22 st rfl) (Ly rfl (y_cvi (c := IntKind.i64.wrap b.seq) rfl rfl Tryz.underlying22 Tryz.underlying3 rfl) (La rfl (Scl st hF rfl (r5order_ok _ (IntKind.i64.wrap a.seq) (IntKind.i64.wrap b.seq)) fun w4 st hF => Ls' rfl (Ln k5 (wR (fR (Res1 rfl rfl) ?_))))))))))))
  unfold r5compare_m; rewrite [iP hc1]
  exact ⟨rfl, hF⟩
structure TagM where
  id : IdM
  n : Int
instance : Inhabited TagM := ⟨⟨default, default⟩⟩
instance : DecidableEq TagM := fun a b => decidable_of_iff (a.id = b.id ∧ a.n = b.n) (by cases a; cases b; simp)
def tagMC (x : TagM) : List Value := [.int .i64 x.id.origin, .int .u32 x.id.seq, .int .i64 x.n]
theorem tagMC_1 (x : TagM) : ∀ v ∈ tagMC x, v.oneCell' = true := all_one rfl
def r5checkTag_c1 (t : TagM) : Bool :=
  (if (r5check_m t.id) = 0 then (if t.n < 0 then true else decide (15 < t.n)) else true)
def r5checkTag_m (t : TagM) : Int :=
  if (r5checkTag_c1 t) = true then
    2
  else
    0
theorem r5checkTag_c1_iff (t : TagM) : (r5checkTag_c1 t = true) ↔ (¬ ((r5check_m t.id) = 0) ∨ ((t.n < 0) ∨ (15 < t.n))) := by
  unfold r5checkTag_c1; exact (ci4 (ci1 decide_eq_true_iff))
theorem r5checkTag_ok (w : World) (t : TagM) :
    Fn Tryz.prog 95 [.agg (tagMC t).toArray] w fun v w' => v = .int .i64 (r5checkTag_m t) ∧ Fr [] w w' := by
  refine Fn_of 17 Ty.en_95 Tryz.func95 rfl rfl rfl ?_
  dsimp only [argEnv]
  have st := stn0 (X := []) (w := w) (by simp [Lo])
  have hF := Fr.refl ([]) w
  refine sq fun _ k1 => rg (La rfl (Sbx st hF rfl fun g1 w1 (st : St _ _ [_] _) hF hg1 => Ls' rfl (Ln k1 (sq fun _ k2 => sq fun _ k3 => ?_))))
  refine use_out k3 (fun E W => E = [(16, .bool (r5checkTag_c1 t))] ∧ St [] W (hOf st) (kOf st) ∧ Fr ([]) w W) ?_ fun hout1 => ?_
  · rintro E w2 ⟨rfl, st, hF⟩
    have st : St [] w2 [_] [] := st
    refine cB rfl (fun hc1 => ?_) (fun hc1 => ?_)
    · have jhc1 := (r5checkTag_c1_iff t).1 hc1
      refine sq fun _ k4 => rg (Ls' rfl (Ln k4 (wR (Th_r (fR (Res1 rfl rfl) ?_)))))
      unfold r5checkTag_m; rewrite [iP hc1]
      exact ⟨rfl, hF⟩
    have jhc1 := mt (r5checkTag_c1_iff t).2 hc1
    refine sk k2 (sq fun _ k5 => rg (Ls' rfl (Ln k5 (wR (fR (Res1 rfl rfl) ?_)))))
    unfold r5checkTag_m; rewrite [iN hc1]
    exact ⟨rfl, hF⟩
  refine rg (Ly rfl (yf rfl Ty.fo_41_0) (Ly rfl (ym 0 Ty.ag_39 st rfl) (La rfl (Scl st hF rfl (r5check_ok _ t.id) fun w3 st hF => Ly rfl (yne rfl) (Lm rfl (bN (s := 7) rfl (fun hc2 => ?_) (fun hc2 => ?_)))))))
  · refine LsF rfl (LsF rfl (LsF rfl (Ly rfl (yT rfl) (Lm rfl (LsF rfl (LsF rfl (LsF rfl (Ly rfl (yT rfl) (Ls_nil (Th_n (?_)))))))))))
    exact hout1 _ [(16, _)] _ ⟨rfl, trivial⟩ ⟨by unfold r5checkTag_c1; rewrite [iN hc2]; rfl, (st.pk [0] (by decide)).pickK [], hF⟩
  refine LyT rfl (yf rfl Ty.fo_41_1) (LyT rfl (yl 0 Ty.pl_3 st rfl) (LyT rfl (ylt rfl) (Ly rfl (yF rfl) (Lm rfl (bD (s := 12) rfl (fun hc3 => ?_) (fun hc3 => ?_))))))
  · refine LsF rfl (LsF rfl (LsF rfl (Ly rfl (yT rfl) (Ls_nil (Th_n (?_))))))
    exact hout1 _ [(16, _)] _ ⟨rfl, trivial⟩ ⟨by unfold r5checkTag_c1; rewrite [iP hc2, iP hc3]; rfl, (st.pk [0] (by decide)).pickK [], hF⟩
  refine LyT rfl (yf rfl Ty.fo_41_1) (LyT rfl (yl 0 Ty.pl_3 st rfl) (LyT rfl (ygt rfl) (Ly rfl (yF rfl) (Ls_nil (Th_n (?_))))))
  exact hout1 _ [(16, _)] _ ⟨rfl, trivial⟩ ⟨by unfold r5checkTag_c1; rewrite [iP hc2, iN hc3]; rfl, (st.pk [0] (by decide)).pickK [], hF⟩
theorem eqv_39r (a0 : Int) (a1 : Int) (b0 : Int) (b1 : Int) : eqVals Tryz.prog 8 39 [.int .i64 a0, .int .u32 a1] [.int .i64 b0, .int .u32 b1] = some ((a0 == b0) && ((a1 == b1) && true)) := by kernel_rfl
theorem eqv_39 (x y : IdM) : eqVals Tryz.prog 8 39 (idMC x) (idMC y) = some (decide (x = y)) := by
  obtain ⟨a0, a1⟩ := x
  obtain ⟨b0, b1⟩ := y
  refine (eqv_39r a0 a1 b0 b1).trans (congrArg some ?_)
  rw [Bool.eq_iff_iff]
  simp
def r5compareTag_m (a : TagM) (b : TagM) : Int :=
  if a.id = b.id then
    r5order_m a.n b.n
  else
    r5compare_m a.id b.id
theorem r5compareTag_ok (w : World) (a : TagM) (b : TagM) :
    Fn Tryz.prog 99 [.agg (tagMC a).toArray, .agg (tagMC b).toArray] w fun v w' => v = .int .i64 (r5compareTag_m a b) ∧ Fr [] w w' := by
  refine Fn_of 20 Ty.en_99 Tryz.func99 rfl rfl rfl ?_
  dsimp only [argEnv]
  have st := stn0 (X := []) (w := w) (by simp [Lo])
  have hF := Fr.refl ([]) w
  refine sq fun _ k1 => rg (La rfl (Sbx st hF rfl fun g1 w1 (st : St _ _ [_] _) hF hg1 => La rfl (Sbx st hF rfl fun g2 w2 (st : St _ _ [_, _] _) hF hg2 => Ls' rfl (Ln k1 (sq fun _ k2 => sq fun _ k3 => rg (Ly rfl (yf rfl Ty.fo_41_0) (Ly rfl (ym 0 Ty.ag_39 st rfl) (Ly rfl (yf rfl Ty.fo_41_0) (Ly rfl (ym 1 Ty.ag_39 st rfl) (Ly rfl (y_nev (b := decide (a.id = b.id)) rfl rfl rfl Ty.eg_39 (by rw [Ty.ag_39]; simp) (eqv_39 a.id b.id)) ?_))))))))))
  refine Ln k3 (cDn rfl (fun hc1 => ?_) (fun hc1 => ?_))
  · refine sq fun _ k4 => rg (Ly rfl (yf rfl Ty.fo_41_0) (Ly rfl (ym 0 Ty.ag_39 st rfl) (Ly rfl (yf rfl Ty.fo_41_0) (Ly rfl (ym 1 Ty.ag_39 st rfl) (La rfl (Scl st hF rfl (r5compare_ok _ a.id b.id) fun w3 st hF => Ls' rfl (Ln k4 (wR (Th_r (fR (Res1 rfl rfl) ?_))))))))))
    unfold r5compareTag_m; rewrite [iN hc1]
    exact ⟨rfl, hF⟩
  refine sk k2 (sq fun _ k5 => rg (Ly rfl (yf rfl Ty.fo_41_1) (Ly rfl (yl 0 Ty.pl_3 st rfl) (Ly rfl (yf rfl Ty.fo_41_1) (Ly rfl (yl 1 Ty.pl_3 st rfl) (La rfl (Scl st hF rfl (r5order_ok _ a.n b.n) fun w4 st hF => Ls' rfl (Ln k5 (wR (fR (Res1 rfl rfl) ?_))))))))))
  unfold r5compareTag_m; rewrite [iP hc1]
  exact ⟨rfl, hF⟩
structure StampM where
  time : Int
  origin : Int
instance : Inhabited StampM := ⟨⟨default, default⟩⟩
instance : DecidableEq StampM := fun a b => decidable_of_iff (a.time = b.time ∧ a.origin = b.origin) (by cases a; cases b; simp)
def stampMC (x : StampM) : List Value := [.int .u32 x.time, .int .i64 x.origin]
def r9check_c1 (s : StampM) : Bool :=
  (if 1048576 < s.time then true else (if s.origin < 0 then true else decide (7 < s.origin)))
def r9check_m (s : StampM) : Int :=
  if (r9check_c1 s) = true then
    2
  else
    0
theorem r9check_c1_iff (s : StampM) : (r9check_c1 s = true) ↔ ((1048576 < s.time) ∨ ((s.origin < 0) ∨ (7 < s.origin))) := by
  unfold r9check_c1; exact (ci1 (ci1 decide_eq_true_iff))
theorem r9check_ok (w : World) (s : StampM) :
    Fn Tryz.prog 97 [.agg (stampMC s).toArray] w fun v w' => v = .int .i64 (r9check_m s) ∧ Fr [] w w' := by
  refine Fn_of 16 Ty.en_97 Tryz.func97 rfl rfl rfl ?_
  dsimp only [argEnv]
  have st := stn0 (X := []) (w := w) (by simp [Lo])
  have hF := Fr.refl ([]) w
  refine sq fun _ k1 => rg (La rfl (Sbx st hF rfl fun g1 w1 (st : St _ _ [_] _) hF hg1 => Ls' rfl (Ln k1 (sq fun _ k2 => sq fun _ k3 => ?_))))
  refine use_out k3 (fun E W => E = [(15, .bool (r9check_c1 s))] ∧ St [] W (hOf st) (kOf st) ∧ Fr ([]) w W) ?_ fun hout1 => ?_
  · rintro E w2 ⟨rfl, st, hF⟩
    have st : St [] w2 [_] [] := st
    refine cB rfl (fun hc1 => ?_) (fun hc1 => ?_)
    · have jhc1 := (r9check_c1_iff s).1 hc1
      refine sq fun _ k4 => rg (Ls' rfl (Ln k4 (wR (Th_r (fR (Res1 rfl rfl) ?_)))))
      unfold r9check_m; rewrite [iP hc1]
      exact ⟨rfl, hF⟩
    have jhc1 := mt (r9check_c1_iff s).2 hc1
    refine sk k2 (sq fun _ k5 => rg (Ls' rfl (Ln k5 (wR (fR (Res1 rfl rfl) ?_)))))
    unfold r9check_m; rewrite [iN hc1]
    exact ⟨rfl, hF⟩
  refine rg (Ly rfl (yf rfl Ty.fo_24_0) (Ly rfl (yl 0 Ty.pl_22 st rfl) (Ly rfl (ygt rfl) (Lm rfl (bD (s := 6) rfl (fun hc2 => ?_) (fun hc2 => ?_))))))
  · refine LsF rfl (LsF rfl (LsF rfl (Ly rfl (yT rfl) (Lm rfl (LsF rfl (LsF rfl (LsF rfl (Ly rfl (yT rfl) (Ls_nil (Th_n (?_)))))))))))
    exact hout1 _ [(15, _)] _ ⟨rfl, trivial⟩ ⟨by unfold r9check_c1; rewrite [iP hc2]; rfl, (st.pk [0] (by decide)).pickK [], hF⟩
  refine LyT rfl (yf rfl Ty.fo_24_1) (LyT rfl (yl 0 Ty.pl_3 st rfl) (LyT rfl (ylt rfl) (Ly rfl (yF rfl) (Lm rfl (bD (s := 11) rfl (fun hc3 => ?_) (fun hc3 => ?_))))))
  · refine LsF rfl (LsF rfl (LsF rfl (Ly rfl (yT rfl) (Ls_nil (Th_n (?_))))))
    exact hout1 _ [(15, _)] _ ⟨rfl, trivial⟩ ⟨by unfold r9check_c1; rewrite [iN hc2, iP hc3]; rfl, (st.pk [0] (by decide)).pickK [], hF⟩
  refine LyT rfl (yf rfl Ty.fo_24_1) (LyT rfl (yl 0 Ty.pl_3 st rfl) (LyT rfl (ygt rfl) (Ly rfl (yF rfl) (Ls_nil (Th_n (?_))))))
  exact hout1 _ [(15, _)] _ ⟨rfl, trivial⟩ ⟨by unfold r9check_c1; rewrite [iN hc2, iN hc3]; rfl, (st.pk [0] (by decide)).pickK [], hF⟩
def r12elem_m (s : List UInt8) : Bool :=
  if 1 ≤ (s.length : Int) then
    decide ((s.length : Int) ≤ 12)
  else
    false
theorem r12elem_ok (w : World) (s : List UInt8) :
    Fn Tryz.prog 103 [sv s] w fun v w' => v = .bool (r12elem_m s) ∧ Fr [] w w' := by
  refine Fn_of 11 Ty.en_103 Tryz.func103 rfl rfl rfl ?_
  dsimp only [argEnv]
  have st := stn0 (X := []) (w := w) (by simp [Lo])
  have hF := Fr.refl ([]) w
  refine sq fun _ k1 => rg (Ls' rfl (Ln k1 (sq fun _ k2 => rg (Lm rfl (Ly rfl (y_lens rfl rfl Tryz.underlying9) (Ly rfl (yge rfl) (Lm rfl (bD (s := 6) rfl (fun hc1 => ?_) (fun hc1 => ?_)))))))))
  · refine LyT rfl (y_move rfl rfl) (LyT rfl (y_lens rfl rfl Tryz.underlying9) (LyT rfl (yle rfl) (Ly rfl (yT rfl) (Ls' rfl (Ln k2 (wR (fR (Res1 rfl rfl) ?_)))))))
    unfold r12elem_m; rewrite [iP hc1]
    exact ⟨rfl, hF⟩
  refine LsF rfl (LsF rfl (LsF rfl (Ly rfl (yF rfl) (Ls' rfl (Ln k2 (wR (fR (Res1 rfl rfl) ?_)))))))
  unfold r12elem_m; rewrite [iN hc1]
  exact ⟨rfl, hF⟩
theorem eqv_41r (a0 : Int) (a1 : Int) (a2 : Int) (b0 : Int) (b1 : Int) (b2 : Int) : eqVals Tryz.prog 8 41 [.int .i64 a0, .int .u32 a1, .int .i64 a2] [.int .i64 b0, .int .u32 b1, .int .i64 b2] = some (((a0 == b0) && ((a1 == b1) && true)) && ((a2 == b2) && true)) := by kernel_rfl
theorem eqv_41 (x y : TagM) : eqVals Tryz.prog 8 41 (tagMC x) (tagMC y) = some (decide (x = y)) := by
  obtain ⟨⟨a0, a1⟩, a2⟩ := x
  obtain ⟨⟨b0, b1⟩, b2⟩ := y
  refine (eqv_41r a0 a1 a2 b0 b1 b2).trans (congrArg some ?_)
  rw [Bool.eq_iff_iff]
  simp
def r12hasTag_L1 (l : List TagM) (t : TagM) : Nat → Int → (Bool) ⊕ (Int)
  | 0, s5 => .inr (s5)
  | fuel + 1, s5 =>
    if s5 < (l.length : Int) then
      if ix l s5 = t then
        .inl true
      else
        r12hasTag_L1 l t fuel (s5 + 1)
    else
      .inr (s5)
def r12hasTag_m (l : List TagM) (t : TagM) : Bool :=
  match r12hasTag_L1 l t (((l.length : Int) - (0 : Int)).toNat + 1) (0 : Int) with
  | .inl r => r
  | .inr (s5) =>
    false
theorem r12hasTag_ok (X : List Nat) (w : World) (hX : Lo X w) (l : List TagM) (A_l : Option Addr) (c_l : Nat) (t : TagM) (h_l : Sld X w A_l l.length c_l 3 (l.flatMap tagMC)) :
    Fn Tryz.prog 104 [.slice A_l l.length c_l, .agg (tagMC t).toArray] w fun v w' => v = .bool (r12hasTag_m l t) ∧ Fr [] w w' := by
  refine Fn_of 18 Ty.en_104 Tryz.func104 rfl rfl rfl ?_
  dsimp only [argEnv]
  have st := stn1 hX h_l
  have hF := Fr.refl ([]) w
  have z1 := (st.q 0 rfl).le
  refine sq fun _ k1 => rg (La rfl (Sbx st hF rfl fun g1 w1 (st : St _ _ [_] _) hF hg1 => Ls' rfl (Ln k1 (sq fun _ k2 => sq fun _ k3 => rg (Ls' rfl (Ln k3 (Wp_block (lp (fun q E W => ∃ (s5 : Int), E = [(0, .slice A_l l.length c_l), (3, .pointer (some ⟨g1, 0, none⟩)), (5, .int .i64 s5)] ∧ jq q (fun m => (r12hasTag_L1 l t m s5 = r12hasTag_L1 l t (((l.length : Int) - (0 : Int)).toNat + 1) (0 : Int) ∧ ((l.length : Int) - s5).toNat < m)) (r12hasTag_L1 l t (((l.length : Int) - (0 : Int)).toNat + 1) (0 : Int) = .inr (s5)) ∧ (0 ≤ s5) ∧ St X W [(some g1, Cl [.int .i64 t.id.origin, .int .u32 t.id.seq, .int .i64 t.n] 41)] [kS A_l l.length c_l 3 (l.flatMap tagMC)] ∧ Fr ([]) w W) (((l.length : Int) - (0 : Int)).toNat + 1) [(0, _), (3, _), (5, _)] ⟨rfl, rfl, rfl, trivial⟩ ⟨_, rfl, ⟨rfl, Nat.lt_succ_self _⟩, by omega, st, hF⟩ k2 ?_ fun hout1 => ?_))))))))
  · rintro E w2 ⟨s5, rfl, hLk1, hinv, st, hF⟩
    unfold jq at hLk1; dsimp only at hLk1
    refine sq fun _ k4 => rg (Ls' rfl (Ln k4 (wR (fR (Res1 rfl rfl) ?_))))
    unfold r12hasTag_m; rewrite [hLk1]; (try dsimp only)
    exact ⟨rfl, hF⟩
  rintro m E w3 ⟨s5, rfl, ⟨hL1, hmu⟩, hinv, st, hF⟩
  obtain ⟨fuel, rfl⟩ : ∃ q, m = q + 1 := ⟨m - 1, by omega⟩
  refine sq fun _ k5 => sq fun _ k6 => rg (Lm rfl (Lm rfl (Ly rfl (yll rfl Tryz.underlying30) (Ly rfl (ylt rfl) (Ln k6 (cD rfl (fun hc1 => ?_) (fun hc1 => ?_)))))))
  · refine sk k5 (sq fun _ k7 => Wp_block (sq fun _ k8 => ?_))
    refine Wp_plan (fun W => St X W (pickL (hOf st) [0]) (kOf st)) [(true, 0), (true, 1), (true, 2), (true, 3), (true, 4), (true, 5)] Ty.mx_0 (by kernel_rfl) (by kernel_rfl) rfl ((st.pk [0] (by decide)).drew) ?_
    have st := st.drew
    have hF := hF.step0 (Fr.drew _)
    refine Pm rfl (Pm rfl ?_)
    obtain ⟨gi1, bi1, egi1⟩ := (st.k (i := 0) rfl).addr (fun _ => rfl) (by decide) (q := s5) (by omega) (by omega)
    subst egi1
    refine Py rfl (y_ixa (q := s5) rfl rfl rfl Ty.es_30 (by omega) (by omega)) ?_
    refine Py rfl (y_ldk (q := s5) rfl rfl Ty.ag_41 (fun _ h => h.k (i := 0) rfl) (fun _ => rfl) (by omega) (by omega)) ?_
    refine Py rfl (y_loadw (i := 0) rfl rfl Ty.ag_41 (fun _ h => h.hp) rfl rfl) (Py rfl (y_eqv (b := decide (ix l s5 = t)) rfl rfl rfl Ty.eg_41 (by rw [Ty.ag_41]; simp) (eqv_41 (ix l s5) t)) ?_)
    refine Pl_nil (Th_n (k8 _ _ (cD rfl (fun hc2 => ?_) (fun hc2 => ?_))))
    · refine sq fun _ k9 => rg (Ls' rfl (Ln k9 (wR (Ib_r (Th_r (Th_r (Ib_r (Th_r (fR (Res1 rfl rfl) ?_)))))))))
      have hret1 : r12hasTag_L1 l t (((l.length : Int) - (0 : Int)).toNat + 1) (0 : Int) = .inl true := by rewrite [← hL1, r12hasTag_L1]; rewrite [iP hc1, iP hc2]; rfl
      have he2 : r12hasTag_m l t = true := by unfold r12hasTag_m; rewrite [hret1]; (try dsimp only); all_goals rfl
      rewrite [he2]
      exact ⟨rfl, hF⟩
    refine Wp_skip (Ib_n (Th_n (k7 _ _ (rg (Lm rfl (Ly rfl (y_add (c := s5 + 1) rfl rfl rfl (wf_i64 (by first | omega | (simp; done) | (simp; omega)))) ?_))))))
    refine Ls' rfl (Ls_nil (Th_n (?_)))
    exact ⟨fuel, [(0, _), (3, _), (5, _)], Nat.lt_succ_self _, ⟨rfl, rfl, rfl, trivial⟩, (s5 + 1), rfl, ⟨by rewrite [← hL1, r12hasTag_L1]; rewrite [iP hc1, iN hc2]; rfl, by omega⟩, by omega, (st.pk [0] (by decide)).pickK [0], hF⟩
  refine Wp_exit (Th_e (Th_e (Ib_hit (Th_n (?_)))))
  exact hout1 _ [(0, _), (3, _), (5, _)] _ ⟨rfl, rfl, rfl, trivial⟩ ⟨s5, rfl, show _ = _ from by rewrite [← hL1, r12hasTag_L1]; rewrite [iN hc1]; rfl, by omega, (st.pk [0] (by decide)).pickK [0], hF⟩
structure AddM where
  tag : TagM
  elem : List UInt8
instance : Inhabited AddM := ⟨⟨default, default⟩⟩
instance : DecidableEq AddM := fun a b => decidable_of_iff (a.tag = b.tag ∧ a.elem = b.elem) (by cases a; cases b; simp)
def addMC (x : AddM) : List Value := [.int .i64 x.tag.id.origin, .int .u32 x.tag.id.seq, .int .i64 x.tag.n, sv x.elem]
theorem addMC_1 (x : AddM) : ∀ v ∈ addMC x, v.oneCell' = true := all_one rfl
def r12tags_L1 (l : List AddM) : Nat → (List TagM) → Int → ((List TagM)) ⊕ ((List TagM) × Int)
  | 0, s3, s4 => .inr (s3, s4)
  | fuel + 1, s3, s4 =>
    if s4 < (l.length : Int) then
      r12tags_L1 l fuel (s3 ++ [(ix l s4).tag]) (s4 + 1)
    else
      .inr (s3, s4)
def r12tags_m (l : List AddM) : (List TagM) :=
  match r12tags_L1 l (((l.length : Int) - (0 : Int)).toNat + 1) ([] : List TagM) (0 : Int) with
  | .inl r => r
  | .inr (s3, s4) =>
    s3
theorem r12tags_ok (X : List Nat) (w : World) (hX : Lo X w) (l : List AddM) (A_l : Option Addr) (c_l : Nat) (h_l : Sld X w A_l l.length c_l 4 (l.flatMap addMC)) (hl : l.length ≤ 1000000) :
    Fn Tryz.prog 105 [.slice A_l l.length c_l] w fun v w' => ∃ (Ar : Option Addr) (cr : Nat), v = .slice Ar (r12tags_m l).length cr ∧ Sld X w' Ar (r12tags_m l).length cr 3 ((r12tags_m l).flatMap tagMC) ∧ Fr [] w w' := by
  refine Fn_of 20 Ty.en_105 Tryz.func105 rfl rfl rfl ?_
  dsimp only [argEnv]
  have st := stn1 hX h_l
  have hF := Fr.refl ([]) w
  refine sq fun _ k1 => rg (Ls' rfl (Ln k1 (sq fun _ k2 => rg (Ls' rfl (Ln k2 (sq fun _ k3 => sq fun _ k4 => rg (Ls' rfl (Ln k4 (Wp_block ?_)))))))))
  obtain ⟨st, how1, hnew1⟩ := st.rowN tagMC hF 3 41
  have st : St _ _ [_] _ := st
  refine lp (fun q E W => ∃ (s3 : List TagM) (s4 : Int) (As3 : Option Addr) (cs3 : Nat) (sps3 : List Value), E = [(0, .slice A_l l.length c_l), (3, .slice As3 s3.length cs3), (4, .int .i64 s4)] ∧ jq q (fun m => (r12tags_L1 l m s3 s4 = r12tags_L1 l (((l.length : Int) - (0 : Int)).toNat + 1) ([] : List TagM) (0 : Int) ∧ ((l.length : Int) - s4).toNat < m)) (r12tags_L1 l (((l.length : Int) - (0 : Int)).toNat + 1) ([] : List TagM) (0 : Int) = .inr (s3, s4)) ∧ (0 ≤ s4 ∧ (s3.length : Int) ≤ s4) ∧ Ow As3 s3.length cs3 3 (s3.flatMap tagMC) sps3 ∧ (∀ g, blkOf As3 = some g → g ∈ ([]) ∨ w.heap.size ≤ g) ∧ St X W [(blkOf As3, Cl (s3.flatMap tagMC ++ sps3) 41)] [kS A_l l.length c_l 4 (l.flatMap addMC)] ∧ Fr ([]) w W) (((l.length : Int) - (0 : Int)).toNat + 1) [(0, _), (3, _), (4, _)] ⟨rfl, rfl, rfl, trivial⟩ ⟨_, _, _, _, _, rfl, ⟨rfl, Nat.lt_succ_self _⟩, by first | omega | (simp; done) | (simp; omega), how1, hnew1, st, hF⟩ k3 ?_ fun hout1 => ?_
  · rintro E w1 ⟨s3, s4, As3, cs3, sps3, rfl, hLk1, hinv, hows3, news3, st, hF⟩
    unfold jq at hLk1; dsimp only at hLk1
    refine sq fun _ k5 => rg (Lm rfl (Ls' rfl (Ln k5 ?_)))
    have st : St X w1 [] [_, _] := st.freeze (i := 0) [] (by decide) rfl hows3 (by decide)
    refine wR (fR (Res1 rfl rfl) ?_)
    unfold r12tags_m; rewrite [hLk1]; (try dsimp only)
    exact ⟨_, _, rfl, st.ot 1 rfl, hF⟩
  rintro m E w2 ⟨s3, s4, As3, cs3, sps3, rfl, ⟨hL1, hmu⟩, hinv, hows3, news3, st, hF⟩
  obtain ⟨fuel, rfl⟩ : ∃ q, m = q + 1 := ⟨m - 1, by omega⟩
  refine sq fun _ k6 => sq fun _ k7 => rg (Lm rfl (Lm rfl (Ly rfl (yll rfl Tryz.underlying29) (Ly rfl (ylt rfl) (Ln k7 (cD rfl (fun hc1 => ?_) (fun hc1 => ?_)))))))
  · refine sk k6 (sq fun _ k8 => Wp_block (rg (Lm rfl (Lm rfl (Lm rfl ?_)))))
    obtain ⟨gi1, bi1, egi1⟩ := (st.k (i := 0) rfl).addr (fun _ => rfl) (by decide) (q := s4) (by omega) (by omega)
    subst egi1
    refine Ly rfl (y_ixa (q := s4) rfl rfl rfl Ty.es_29 (by omega) (by omega)) ?_
    refine Ly rfl (yf rfl Ty.fo_110_0) (Ly rfl (y_ldkm (q := s4) 0 rfl rfl Ty.ag_41 (fun _ e => e ▸ st.k (i := 0) rfl) (fun _ => rfl) (by omega) (by omega) rfl rfl) ?_)
    refine La rfl (Sb (enc := tagMC) ((ix l s4).tag) Ty.es_30 Ty.zc_41 (fun _ => rfl) st hF rfl fun g1 w3 how2 hnew2 (st : St _ _ [_, _] _) hF => La rfl (Sap (enc := tagMC) s3 [(ix l s4).tag] 0 Ty.es_30 Ty.zc_41 Ty.by_41 (fun _ => rfl) tagMC_1 hows3 news3 st hF (own_src (i := 1) st.hp rfl how2) (own_none how2) rfl (by first | omega | (simp; done) | (simp; omega)) (by first | omega | (simp; done) | (simp; omega)) fun Aa1 ca1 sp1 w4 how3 hnew3 (st : St _ _ [_, _] _) hF => ?_))
    refine Ls' rfl (Ls_nil (Ib_n (Th_n (k8 _ _ (rg (Lm rfl (Ly rfl (y_add (c := s4 + 1) rfl rfl rfl (wf_i64 (by omega))) ?_)))))))
    refine Ls' rfl (Ls_nil (Th_n (?_)))
    exact ⟨fuel, [(0, _), (3, _), (4, _)], Nat.lt_succ_self _, ⟨rfl, rfl, rfl, trivial⟩, (s3 ++ [(ix l s4).tag]), (s4 + 1), Aa1, ca1, sp1, rfl, ⟨by rewrite [← hL1, r12tags_L1]; rewrite [iP hc1]; rfl, by omega⟩, by first | omega | (simp; done) | (simp; omega), how3, hnew3, (st.pk [0] (by decide)).pickK [0], hF⟩
  refine Wp_exit (Th_e (Th_e (Ib_hit (Th_n (?_)))))
  exact hout1 _ [(0, _), (3, _), (4, _)] _ ⟨rfl, rfl, rfl, trivial⟩ ⟨s3, s4, As3, cs3, sps3, rfl, show _ = _ from by rewrite [← hL1, r12tags_L1]; rewrite [iN hc1]; rfl, by omega, hows3, news3, (st.pk [0] (by decide)).pickK [0], hF⟩
def r12right_L1 (l : List TagM) : Nat → Int → (Bool) ⊕ (Int)
  | 0, s3 => .inr (s3)
  | fuel + 1, s3 =>
    if s3 < (l.length : Int) then
      if (r5checkTag_m (ix l s3)) = 0 then
        r12right_L1 l fuel (s3 + 1)
      else
        .inl false
    else
      .inr (s3)
def r12right_m (l : List TagM) : Bool :=
  match r12right_L1 l (((l.length : Int) - (0 : Int)).toNat + 1) (0 : Int) with
  | .inl r => r
  | .inr (s3) =>
    true
theorem r12right_ok (X : List Nat) (w : World) (hX : Lo X w) (l : List TagM) (A_l : Option Addr) (c_l : Nat) (h_l : Sld X w A_l l.length c_l 3 (l.flatMap tagMC)) :
    Fn Tryz.prog 106 [.slice A_l l.length c_l] w fun v w' => v = .bool (r12right_m l) ∧ Fr [] w w' := by
  refine Fn_of 16 Ty.en_106 Tryz.func106 rfl rfl rfl ?_
  dsimp only [argEnv]
  have st := stn1 hX h_l
  have hF := Fr.refl ([]) w
  have z1 := (st.q 0 rfl).le
  refine sq fun _ k1 => rg (Ls' rfl (Ln k1 (sq fun _ k2 => sq fun _ k3 => rg (Ls' rfl (Ln k3 (Wp_block (lp (fun q E W => ∃ (s3 : Int), E = [(0, .slice A_l l.length c_l), (3, .int .i64 s3)] ∧ jq q (fun m => (r12right_L1 l m s3 = r12right_L1 l (((l.length : Int) - (0 : Int)).toNat + 1) (0 : Int) ∧ ((l.length : Int) - s3).toNat < m)) (r12right_L1 l (((l.length : Int) - (0 : Int)).toNat + 1) (0 : Int) = .inr (s3)) ∧ (0 ≤ s3) ∧ St X W [] [kS A_l l.length c_l 3 (l.flatMap tagMC)] ∧ Fr ([]) w W) (((l.length : Int) - (0 : Int)).toNat + 1) [(0, _), (3, _)] ⟨rfl, rfl, trivial⟩ ⟨_, rfl, ⟨rfl, Nat.lt_succ_self _⟩, by omega, st, hF⟩ k2 ?_ fun hout1 => ?_)))))))
  · rintro E w1 ⟨s3, rfl, hLk1, hinv, st, hF⟩
    unfold jq at hLk1; dsimp only at hLk1
    refine sq fun _ k4 => rg (Ls' rfl (Ln k4 (wR (fR (Res1 rfl rfl) ?_))))
    unfold r12right_m; rewrite [hLk1]; (try dsimp only)
    exact ⟨rfl, hF⟩
  rintro m E w2 ⟨s3, rfl, ⟨hL1, hmu⟩, hinv, st, hF⟩
  obtain ⟨fuel, rfl⟩ : ∃ q, m = q + 1 := ⟨m - 1, by omega⟩
  refine sq fun _ k5 => sq fun _ k6 => rg (Lm rfl (Lm rfl (Ly rfl (yll rfl Tryz.underlying30) (Ly rfl (ylt rfl) (Ln k6 (cD rfl (fun hc1 => ?_) (fun hc1 => ?_)))))))
  · refine sk k5 (sq fun _ k7 => Wp_block (sq fun _ k8 => rg (Lm rfl (Lm rfl ?_))))
    obtain ⟨gi1, bi1, egi1⟩ := (st.k (i := 0) rfl).addr (fun _ => rfl) (by decide) (q := s3) (by omega) (by omega)
    subst egi1
    refine Ly rfl (y_ixa (q := s3) rfl rfl rfl Ty.es_30 (by omega) (by omega)) ?_
    refine Ly rfl (y_ldk (q := s3) rfl rfl Ty.ag_41 (fun _ e => e ▸ st.k (i := 0) rfl) (fun _ => rfl) (by omega) (by omega)) ?_
    refine La rfl (Scl st hF rfl (r5checkTag_ok _ (ix l s3)) fun w3 st hF => Ly rfl (yne rfl) (Ln k8 (cN rfl (fun hc2 => ?_) (fun hc2 => ?_))))
    · refine sq fun _ k9 => rg (Ls' rfl (Ln k9 (wR (Ib_r (Th_r (Th_r (Ib_r (Th_r (fR (Res1 rfl rfl) ?_)))))))))
      have hret1 : r12right_L1 l (((l.length : Int) - (0 : Int)).toNat + 1) (0 : Int) = .inl false := by rewrite [← hL1, r12right_L1]; rewrite [iP hc1, iN hc2]; rfl
      have he2 : r12right_m l = false := by unfold r12right_m; rewrite [hret1]; (try dsimp only); all_goals rfl
      rewrite [he2]
      exact ⟨rfl, hF⟩
    refine Wp_skip (Ib_n (Th_n (k7 _ _ (rg (Lm rfl (Ly rfl (y_add (c := s3 + 1) rfl rfl rfl (wf_i64 (by first | omega | (simp; done) | (simp; omega)))) ?_))))))
    refine Ls' rfl (Ls_nil (Th_n (?_)))
    exact ⟨fuel, [(0, _), (3, _)], Nat.lt_succ_self _, ⟨rfl, rfl, trivial⟩, (s3 + 1), rfl, ⟨by rewrite [← hL1, r12right_L1]; rewrite [iP hc1, iP hc2]; rfl, by omega⟩, by omega, (st.pk [] (by decide)).pickK [0], hF⟩
  refine Wp_exit (Th_e (Th_e (Ib_hit (Th_n (?_)))))
  exact hout1 _ [(0, _), (3, _)] _ ⟨rfl, rfl, trivial⟩ ⟨s3, rfl, show _ = _ from by rewrite [← hL1, r12right_L1]; rewrite [iN hc1]; rfl, by omega, (st.pk [] (by decide)).pickK [0], hF⟩
def r12rises_L1 (l : List TagM) : Nat → Int → (Bool) ⊕ (Int)
  | 0, s3 => .inr (s3)
  | fuel + 1, s3 =>
    if s3 < (l.length : Int) then
      if 0 ≤ (r5compareTag_m (ix l (s3 - 1)) (ix l s3)) then
        .inl false
      else
        r12rises_L1 l fuel (s3 + 1)
    else
      .inr (s3)
def r12rises_m (l : List TagM) : Bool :=
  match r12rises_L1 l (((l.length : Int) - (1 : Int)).toNat + 1) (1 : Int) with
  | .inl r => r
  | .inr (s3) =>
    true
theorem r12rises_ok (X : List Nat) (w : World) (hX : Lo X w) (l : List TagM) (A_l : Option Addr) (c_l : Nat) (h_l : Sld X w A_l l.length c_l 3 (l.flatMap tagMC)) :
    Fn Tryz.prog 152 [.slice A_l l.length c_l] w fun v w' => v = .bool (r12rises_m l) ∧ Fr [] w w' := by
  refine Fn_of 21 Ty.en_152 Tryz.func152 rfl rfl rfl ?_
  dsimp only [argEnv]
  have st := stn1 hX h_l
  have hF := Fr.refl ([]) w
  have z1 := (st.q 0 rfl).le
  refine sq fun _ k1 => rg (Ls' rfl (Ln k1 (sq fun _ k2 => sq fun _ k3 => rg (Ls' rfl (Ln k3 (Wp_block (lp (fun q E W => ∃ (s3 : Int), E = [(0, .slice A_l l.length c_l), (3, .int .i64 s3)] ∧ jq q (fun m => (r12rises_L1 l m s3 = r12rises_L1 l (((l.length : Int) - (1 : Int)).toNat + 1) (1 : Int) ∧ ((l.length : Int) - s3).toNat < m)) (r12rises_L1 l (((l.length : Int) - (1 : Int)).toNat + 1) (1 : Int) = .inr (s3)) ∧ (1 ≤ s3) ∧ St X W [] [kS A_l l.length c_l 3 (l.flatMap tagMC)] ∧ Fr ([]) w W) (((l.length : Int) - (1 : Int)).toNat + 1) [(0, _), (3, _)] ⟨rfl, rfl, trivial⟩ ⟨_, rfl, ⟨rfl, Nat.lt_succ_self _⟩, by first | omega | (simp; done) | (simp; omega), st, hF⟩ k2 ?_ fun hout1 => ?_)))))))
  · rintro E w1 ⟨s3, rfl, hLk1, hinv, st, hF⟩
    unfold jq at hLk1; dsimp only at hLk1
    refine sq fun _ k4 => rg (Ls' rfl (Ln k4 (wR (fR (Res1 rfl rfl) ?_))))
    unfold r12rises_m; rewrite [hLk1]; (try dsimp only)
    exact ⟨rfl, hF⟩
  rintro m E w2 ⟨s3, rfl, ⟨hL1, hmu⟩, hinv, st, hF⟩
  obtain ⟨fuel, rfl⟩ : ∃ q, m = q + 1 := ⟨m - 1, by omega⟩
  refine sq fun _ k5 => sq fun _ k6 => rg (Lm rfl (Lm rfl (Ly rfl (yll rfl Tryz.underlying30) (Ly rfl (ylt rfl) (Ln k6 (cD rfl (fun hc1 => ?_) (fun hc1 => ?_)))))))
  · refine sk k5 (sq fun _ k7 => Wp_block (sq fun _ k8 => ?_))
    refine Wp_plan (fun W => St X W (pickL (hOf st) []) (kOf st)) [(true, 0), (true, 1), (true, 2), (true, 3), (true, 4), (true, 5), (true, 6), (true, 7), (true, 8), (false, 9), (true, 10)] Ty.mx_0 (by kernel_rfl) (by kernel_rfl) rfl ((st.pk [] (by decide)).drew) ?_
    have st := st.drew
    have hF := hF.step0 (Fr.drew _)
    refine Pm rfl (Pm rfl (Py rfl (y_sub (c := s3 - 1) rfl rfl rfl (wf_i64 (by first | omega | (simp; done) | (simp; omega)))) ?_))
    obtain ⟨gi1, bi1, egi1⟩ := (st.k (i := 0) rfl).addr (fun _ => rfl) (by decide) (q := s3 - 1) (by first | omega | (simp; done) | (simp; omega)) (by first | omega | (simp; done) | (simp; omega))
    subst egi1
    refine Py rfl (y_ixa (q := s3 - 1) rfl rfl rfl Ty.es_30 (by first | omega | (simp; done) | (simp; omega)) (by first | omega | (simp; done) | (simp; omega))) ?_
    refine Py rfl (y_ldk (q := s3 - 1) rfl rfl Ty.ag_41 (fun _ h => h.k (i := 0) rfl) (fun _ => rfl) (by first | omega | (simp; done) | (simp; omega)) (by first | omega | (simp; done) | (simp; omega))) ?_
    refine Pm rfl (Pm rfl (Py rfl (y_ixa (q := s3) rfl rfl rfl Ty.es_30 (by first | omega | (simp; done) | (simp; omega)) (by first | omega | (simp; done) | (simp; omega))) ?_))
    refine Py rfl (y_ldk (q := s3) rfl rfl Ty.ag_41 (fun _ h => h.k (i := 0) rfl) (fun _ => rfl) (by first | omega | (simp; done) | (simp; omega)) (by first | omega | (simp; done) | (simp; omega))) ?_
    refine Pl_a rfl (wtd0 rfl) (by rfl) ?_
    refine Scl st hF rfl (r5compareTag_ok _ (ix l (s3 - 1)) (ix l s3)) fun w3 st hF => ?_
    refine ⟨(st.pk [] (by decide)).tK 1, ?_⟩
    refine Py rfl (yge rfl) (Pl_nil (Th_n (k8 _ _ (cD rfl (fun hc2 => ?_) (fun hc2 => ?_)))))
    · refine sq fun _ k9 => rg (Ls' rfl (Ln k9 (wR (Ib_r (Th_r (Th_r (Ib_r (Th_r (fR (Res1 rfl rfl) ?_)))))))))
      have hret1 : r12rises_L1 l (((l.length : Int) - (1 : Int)).toNat + 1) (1 : Int) = .inl false := by rewrite [← hL1, r12rises_L1]; rewrite [iP hc1, iP hc2]; rfl
      have he2 : r12rises_m l = false := by unfold r12rises_m; rewrite [hret1]; (try dsimp only); all_goals rfl
      rewrite [he2]
      exact ⟨rfl, hF⟩
    refine Wp_skip (Ib_n (Th_n (k7 _ _ (rg (Lm rfl (Ly rfl (y_add (c := s3 + 1) rfl rfl rfl (wf_i64 (by first | omega | (simp; done) | (simp; omega)))) ?_))))))
    refine Ls' rfl (Ls_nil (Th_n (?_)))
    exact ⟨fuel, [(0, _), (3, _)], Nat.lt_succ_self _, ⟨rfl, rfl, trivial⟩, (s3 + 1), rfl, ⟨by rewrite [← hL1, r12rises_L1]; rewrite [iP hc1, iN hc2]; rfl, by first | omega | (simp; done) | (simp; omega)⟩, by first | omega | (simp; done) | (simp; omega), (st.pk [] (by decide)).pickK [0], hF⟩
  refine Wp_exit (Th_e (Th_e (Ib_hit (Th_n (?_)))))
  exact hout1 _ [(0, _), (3, _)] _ ⟨rfl, rfl, trivial⟩ ⟨s3, rfl, show _ = _ from by rewrite [← hL1, r12rises_L1]; rewrite [iN hc1]; rfl, by first | omega | (simp; done) | (simp; omega), (st.pk [] (by decide)).pickK [0], hF⟩
structure SetM where
  adds : List AddM
  gone : List TagM
instance : Inhabited SetM := ⟨⟨default, default⟩⟩
instance : DecidableEq SetM := fun a b => decidable_of_iff (a.adds = b.adds ∧ a.gone = b.gone) (by cases a; cases b; simp)
def r12check_c1 (s : SetM) : Bool :=
  (if 4096 < (s.adds.length : Int) then true else decide (4096 < (s.gone.length : Int)))
def r12check_c2 (s : SetM) : Bool :=
  (if (r12right_m (r12tags_m s.adds)) = true then !(r12right_m s.gone) else true)
def r12check_c3 (s : SetM) : Bool :=
  (if (r12rises_m (r12tags_m s.adds)) = true then !(r12rises_m s.gone) else true)
def r12check_c4 (s : SetM) (s4 : Int) : Bool :=
  (if (r12elem_m ((ix s.adds s4).elem)) = true then r12hasTag_m s.gone ((ix s.adds s4).tag) else true)
def r12check_L1 (s : SetM) : Nat → Int → (Int) ⊕ (Int)
  | 0, s4 => .inr (s4)
  | fuel + 1, s4 =>
    if s4 < (s.adds.length : Int) then
      if (r12check_c4 s s4) = true then
        .inl 3
      else
        r12check_L1 s fuel (s4 + 1)
    else
      .inr (s4)
def r12check_m (s : SetM) : Int :=
  if (r12check_c1 s) = true then
    8
  else
    if (r12check_c2 s) = true then
      2
    else
      if (r12check_c3 s) = true then
        3
      else
        match r12check_L1 s (((s.adds.length : Int) - (0 : Int)).toNat + 1) (0 : Int) with
        | .inl r => r
        | .inr (s4) =>
          0
theorem r12check_c1_iff (s : SetM) : (r12check_c1 s = true) ↔ ((4096 < (s.adds.length : Int)) ∨ (4096 < (s.gone.length : Int))) := by
  unfold r12check_c1; exact (ci1 decide_eq_true_iff)
theorem r12check_c2_iff (s : SetM) : (r12check_c2 s = true) ↔ (¬ ((r12right_m (r12tags_m s.adds)) = true) ∨ (¬ ((r12right_m s.gone) = true))) := by
  unfold r12check_c2; exact (ci4 (by simp))
theorem r12check_c3_iff (s : SetM) : (r12check_c3 s = true) ↔ (¬ ((r12rises_m (r12tags_m s.adds)) = true) ∨ (¬ ((r12rises_m s.gone) = true))) := by
  unfold r12check_c3; exact (ci4 (by simp))
theorem r12check_c4_iff (s : SetM) (s4 : Int) : (r12check_c4 s s4 = true) ↔ (¬ ((r12elem_m ((ix s.adds s4).elem)) = true) ∨ ((r12hasTag_m s.gone ((ix s.adds s4).tag)) = true)) := by
  unfold r12check_c4; exact (ci4 Iff.rfl)
theorem r12check_ok (X : List Nat) (w : World) (hX : Lo X w) (s : SetM) (A1 : Option Addr) (C1 : Nat) (A2 : Option Addr) (C2 : Nat) (z3 : Sld X w A1 s.adds.length C1 4 (s.adds.flatMap addMC)) (z4 : Sld X w A2 s.gone.length C2 3 (s.gone.flatMap tagMC)) (h1 : s.adds.length ≤ 1000000) :
    Fn Tryz.prog 102 [.agg #[.slice A1 s.adds.length C1, .slice A2 s.gone.length C2]] w fun v w' => v = .int .i64 (r12check_m s) ∧ Fr [] w w' := by
  refine Fn_of 65 Ty.en_102 Tryz.func102 rfl rfl rfl ?_
  dsimp only [argEnv]
  have st := stn2 hX z3 z4
  have hF := Fr.refl ([]) w
  refine sq fun _ k1 => rg (La rfl (Sbx st hF rfl fun g1 w1 (st : St _ _ [_] _) hF hg1 => Ls' rfl (Ln k1 (sq fun _ k2 => rg (Ly rfl (yf rfl Ty.fo_32_0) (Ly rfl (yl 0 Ty.pl_29 st rfl) (La rfl (a_call rfl rfl rfl rfl (r12tags_ok (keys (hOf st) ++ X) _ st.Lo s.adds A1 C1 (st.q 0 rfl) h1) (fun v w2 ⟨Ar1, cr1, hv, hr1, hf⟩ => ?_)))))))))
  subst hv
  have st := st.keep0 hf
  have hF := hF.step0 hf
  have z5 := Sld.le hr1
  have st := st.addK (kS Ar1 (r12tags_m s.adds).length cr1 3 ((r12tags_m s.adds).flatMap tagMC)) hr1
  have st : St X w2 [_] [_, _, _] := st
  refine Ls' rfl (Ln k2 (sq fun _ k3 => Wp_block (sq fun _ k4 => ?_)))
  refine use_out k4 (fun E W => E = [(1, .pointer (some ⟨g1, 0, none⟩)), (3, .slice Ar1 ((r12tags_m s.adds).length) cr1), (8, .bool (r12check_c1 s))] ∧ St X W (hOf st) (kOf st) ∧ Fr ([]) w W) ?_ fun hout1 => ?_
  · rintro E w3 ⟨rfl, st, hF⟩
    have st : St X w3 [_] [_, _, _] := st
    refine cB rfl (fun hc1 => ?_) (fun hc1 => ?_)
    · have jhc1 := (r12check_c1_iff s).1 hc1
      refine sq fun _ k5 => rg (Ls' rfl (Ln k5 (wR (Ib_r (Th_r (fR (Res1 rfl rfl) ?_))))))
      unfold r12check_m; rewrite [iP hc1]
      exact ⟨rfl, hF⟩
    have jhc1 := mt (r12check_c1_iff s).2 hc1
    refine sq fun _ k6 => ?_
    refine use_out k6 (fun E W => E = [(1, .pointer (some ⟨g1, 0, none⟩)), (3, .slice Ar1 ((r12tags_m s.adds).length) cr1), (19, .bool (r12check_c2 s))] ∧ St X W (hOf st) (kOf st) ∧ Fr ([]) w W) ?_ fun hout2 => ?_
    · rintro E w4 ⟨rfl, st, hF⟩
      have st : St X w4 [_] [_, _, _] := st
      refine cB rfl (fun hc2 => ?_) (fun hc2 => ?_)
      · have jhc2 := (r12check_c2_iff s).1 hc2
        refine sq fun _ k7 => rg (Ls' rfl (Ln k7 (wR (Ib_r (Th_r (fR (Res1 rfl rfl) ?_))))))
        unfold r12check_m; rewrite [iN hc1, iP hc2]
        exact ⟨rfl, hF⟩
      have jhc2 := mt (r12check_c2_iff s).2 hc2
      refine sq fun _ k8 => ?_
      refine use_out k8 (fun E W => E = [(1, .pointer (some ⟨g1, 0, none⟩)), (29, .bool (r12check_c3 s))] ∧ St X W (hOf st) (kOf st) ∧ Fr ([]) w W) ?_ fun hout3 => ?_
      · rintro E w5 ⟨rfl, st, hF⟩
        have st : St X w5 [_] [_, _, _] := st
        refine cB rfl (fun hc3 => ?_) (fun hc3 => ?_)
        · have jhc3 := (r12check_c3_iff s).1 hc3
          refine sq fun _ k9 => rg (Ls' rfl (Ln k9 (wR (Ib_r (Th_r (fR (Res1 rfl rfl) ?_))))))
          unfold r12check_m; rewrite [iN hc1, iN hc2, iP hc3]
          exact ⟨rfl, hF⟩
        have jhc3 := mt (r12check_c3_iff s).2 hc3
        refine Wp_skip (Ib_n (Th_n (k3 _ _ (sq fun _ k10 => sq fun _ k11 => rg (Ls' rfl (Ln k11 (Wp_block (lp (fun q E W => ∃ (s4 : Int), E = [(1, .pointer (some ⟨g1, 0, none⟩)), (4, .int .i64 s4)] ∧ jq q (fun m => (r12check_L1 s m s4 = r12check_L1 s (((s.adds.length : Int) - (0 : Int)).toNat + 1) (0 : Int) ∧ ((s.adds.length : Int) - s4).toNat < m)) (r12check_L1 s (((s.adds.length : Int) - (0 : Int)).toNat + 1) (0 : Int) = .inr (s4)) ∧ (0 ≤ s4) ∧ St X W [(some g1, Cl [.slice A1 s.adds.length C1, .slice A2 s.gone.length C2] 32)] [kS A1 s.adds.length C1 4 (s.adds.flatMap addMC), kS A2 s.gone.length C2 3 (s.gone.flatMap tagMC), kS Ar1 (r12tags_m s.adds).length cr1 3 ((r12tags_m s.adds).flatMap tagMC)] ∧ Fr ([]) w W) (((s.adds.length : Int) - (0 : Int)).toNat + 1) [(1, _), (4, _)] ⟨rfl, rfl, trivial⟩ ⟨_, rfl, ⟨rfl, Nat.lt_succ_self _⟩, by omega, st, hF⟩ k10 ?_ fun hout4 => ?_))))))))
        · rintro E w6 ⟨s4, rfl, hLk1, hinv, st, hF⟩
          unfold jq at hLk1; dsimp only at hLk1
          refine sq fun _ k12 => rg (Ls' rfl (Ln k12 (wR (fR (Res1 rfl rfl) ?_))))
          unfold r12check_m; rewrite [iN hc1, iN hc2, iN hc3, hLk1]; (try dsimp only)
          exact ⟨rfl, hF⟩
        rintro m E w7 ⟨s4, rfl, ⟨hL1, hmu⟩, hinv, st, hF⟩
        obtain ⟨fuel, rfl⟩ : ∃ q, m = q + 1 := ⟨m - 1, by omega⟩
        refine sq fun _ k13 => sq fun _ k14 => rg (Lm rfl (Ly rfl (yf rfl Ty.fo_32_0) (Ly rfl (yl 0 Ty.pl_29 st rfl) (Ly rfl (yll rfl Tryz.underlying29) (Ly rfl (ylt rfl) (Ln k14 (cD rfl (fun hc4 => ?_) (fun hc4 => ?_))))))))
        · refine sk k13 (sq fun _ k15 => Wp_block (sq fun _ k16 => ?_))
          refine use_out k16 (fun E W => E = [(1, .pointer (some ⟨g1, 0, none⟩)), (4, .int .i64 s4), (64, .bool (r12check_c4 s s4))] ∧ St X W (hOf st) (kOf st) ∧ Fr ([]) w W) ?_ fun hout5 => ?_
          · rintro E w8 ⟨rfl, st, hF⟩
            have st : St X w8 [_] [_, _, _] := st
            refine cB rfl (fun hc5 => ?_) (fun hc5 => ?_)
            · have jhc5 := (r12check_c4_iff s s4).1 hc5
              refine sq fun _ k17 => rg (Ls' rfl (Ln k17 (wR (Ib_r (Th_r (Th_r (Ib_r (Th_r (fR (Res1 rfl rfl) ?_)))))))))
              have hret1 : r12check_L1 s (((s.adds.length : Int) - (0 : Int)).toNat + 1) (0 : Int) = .inl 3 := by rewrite [← hL1, r12check_L1]; rewrite [iP hc4, iP hc5]; rfl
              have he5 : r12check_m s = 3 := by unfold r12check_m; rewrite [iN hc1, iN hc2, iN hc3, hret1]; (try dsimp only); all_goals rfl
              rewrite [he5]
              exact ⟨rfl, hF⟩
            have jhc5 := mt (r12check_c4_iff s s4).2 hc5
            refine Wp_skip (Ib_n (Th_n (k15 _ _ (rg (Lm rfl (Ly rfl (y_add (c := s4 + 1) rfl rfl rfl (wf_i64 (by omega))) ?_))))))
            refine Ls' rfl (Ls_nil (Th_n (?_)))
            exact ⟨fuel, [(1, _), (4, _)], Nat.lt_succ_self _, ⟨rfl, rfl, trivial⟩, (s4 + 1), rfl, ⟨by rewrite [← hL1, r12check_L1]; rewrite [iP hc4, iN hc5]; rfl, by omega⟩, by omega, (st.pk [0] (by decide)).pickK [0, 1, 2], hF⟩
          refine Wp_plan (fun W => St X W (pickL (hOf st) [0]) (kOf st)) [(true, 0), (true, 1), (true, 2), (true, 3), (true, 4), (true, 5), (false, 6), (true, 7), (true, 8), (true, 9), (true, 10), (true, 11), (true, 12), (true, 13), (true, 14), (true, 15), (true, 16), (false, 17), (true, 18)] Ty.mx_0 (by kernel_rfl) (by kernel_rfl) rfl ((st.pk [0] (by decide)).drew) ?_
          have st := st.drew
          have hF := hF.step0 (Fr.drew _)
          refine Py rfl (yf rfl Ty.fo_32_0) (Py rfl (y_load (i := 0) rfl rfl Ty.pl_29 (fun _ h => h.hp) rfl rfl) (Pm rfl ?_))
          obtain ⟨gi1, bi1, egi1⟩ := (st.k (i := 0) rfl).addr (fun _ => rfl) (by decide) (q := s4) (by omega) (by omega)
          subst egi1
          refine Py rfl (y_ixa (q := s4) rfl rfl rfl Ty.es_29 (by omega) (by omega)) ?_
          refine Py rfl (yf rfl Ty.fo_110_1) (Py rfl (y_ldk1 (q := s4) 3 rfl rfl Ty.pl_9 (fun _ h => h.k (i := 0) rfl) (fun _ => rfl) (by omega) (by omega) rfl) ?_)
          refine Pl_a rfl (wtd0 rfl) (by rfl) ?_
          refine Scl st hF rfl (r12elem_ok _ ((ix s.adds s4).elem)) fun w9 st hF => ?_
          refine ⟨(st.pk [0] (by decide)).tK 3, ?_⟩
          refine Py rfl (yn rfl) (Pm rfl (Pl_bool 54 rfl (fun hc6 => ?_) (fun hc6 => ?_)))
          · have hc6 := bF (nT hc6)
            refine Pl_s rfl (wtdF rfl rfl rfl) rfl rfl (Pl_s rfl (wtdF rfl rfl rfl) rfl rfl (Pl_s rfl (wtdF rfl rfl rfl) rfl rfl (Pl_s rfl (wtdF rfl rfl rfl) rfl rfl (Pl_s rfl (wtdF rfl rfl rfl) rfl rfl (Pl_s rfl (wtdF rfl rfl rfl) rfl rfl (Pl_s rfl (wtdF rfl rfl rfl) rfl rfl (Pl_s rfl (wtdF rfl rfl rfl) rfl rfl (Pl_s rfl (wtdF rfl rfl rfl) rfl rfl (Py rfl (yT rfl) (Pl_nil (Th_n (?_))))))))))))
            exact hout5 _ [(1, _), (4, _), (64, _)] _ ⟨rfl, rfl, rfl, trivial⟩ ⟨by unfold r12check_c4; rewrite [iN hc6]; rfl, (st.pk [0] (by decide)).pickK [0, 1, 2], hF⟩
          have hc6 := (nF hc6)
          refine Pl_y rfl (wtdT rfl rfl rfl) rfl rfl (yf rfl Ty.fo_32_1) (Pl_y rfl (wtdT rfl rfl rfl) rfl rfl (y_load (i := 0) rfl rfl Ty.pl_30 (fun _ h => h.hp) rfl rfl) (Pl_y rfl (wtdT rfl rfl rfl) rfl rfl (yf rfl Ty.fo_32_0) (Pl_y rfl (wtdT rfl rfl rfl) rfl rfl (y_load (i := 0) rfl rfl Ty.pl_29 (fun _ h => h.hp) rfl rfl) (Pl_y rfl (wtdT rfl rfl rfl) rfl rfl (y_move rfl rfl) (Pl_y rfl (wtdT rfl rfl rfl) rfl rfl (y_ixa (q := s4) rfl rfl rfl Ty.es_29 (by omega) (by omega)) ?_)))))
          refine Pl_y rfl (wtdT rfl rfl rfl) rfl rfl (yf rfl Ty.fo_110_0) (Pl_y rfl (wtdT rfl rfl rfl) rfl rfl (y_ldkm (q := s4) 0 rfl rfl Ty.ag_41 (fun _ h => h.k (i := 0) rfl) (fun _ => rfl) (by omega) (by omega) rfl rfl) ?_)
          refine Pl_a rfl (wtdT rfl rfl rfl) (by rfl) ?_
          refine Scl st hF rfl (r12hasTag_ok (keys (hOf st) ++ X) _ st.Lo s.gone A2 C2 ((ix s.adds s4).tag) (st.q 1 rfl)) fun w10 st hF => ?_
          refine ⟨(st.pk [0] (by decide)).tK 3, ?_⟩
          refine Py rfl (yF rfl) (Pl_nil (Th_n (?_)))
          exact hout5 _ [(1, _), (4, _), (64, _)] _ ⟨rfl, rfl, rfl, trivial⟩ ⟨by unfold r12check_c4; rewrite [iP hc6]; rfl, (st.pk [0] (by decide)).pickK [0, 1, 2], hF⟩
        refine Wp_exit (Th_e (Th_e (Ib_hit (Th_n (?_)))))
        exact hout4 _ [(1, _), (4, _)] _ ⟨rfl, rfl, trivial⟩ ⟨s4, rfl, show _ = _ from by rewrite [← hL1, r12check_L1]; rewrite [iN hc4]; rfl, by omega, (st.pk [0] (by decide)).pickK [0, 1, 2], hF⟩
      refine rg (Lm rfl (La rfl (Scl st hF rfl (r12rises_ok (keys (hOf st) ++ X) _ st.Lo (r12tags_m s.adds) Ar1 cr1 (st.q 2 rfl)) fun w11 st hF => Ly rfl (yn rfl) (Lm rfl (bBn (s := 33) rfl (fun hc7 => ?_) (fun hc7 => ?_))))))
      · refine LsF rfl (LsF rfl (LsF rfl (LsF rfl (Ly rfl (yT rfl) (Ls' rfl (Ls_nil (Th_n (?_))))))))
        exact hout3 _ [(1, _), (29, _)] _ ⟨rfl, rfl, trivial⟩ ⟨by unfold r12check_c3; rewrite [iN hc7]; rfl, (st.pk [0] (by decide)).pickK [0, 1, 2], hF⟩
      refine LyT rfl (yf rfl Ty.fo_32_1) (LyT rfl (yl 0 Ty.pl_30 st rfl) (LaT rfl (Scl st hF rfl (r12rises_ok (keys (hOf st) ++ X) _ st.Lo s.gone A2 C2 (st.q 1 rfl)) fun w12 st hF => LyT rfl (yn rfl) (Ly rfl (yF rfl) (Ls' rfl (Ls_nil (Th_n (?_))))))))
      exact hout3 _ [(1, _), (29, _)] _ ⟨rfl, rfl, trivial⟩ ⟨by unfold r12check_c3; rewrite [iP hc7]; rfl, (st.pk [0] (by decide)).pickK [0, 1, 2], hF⟩
    refine rg (Lm rfl (La rfl (Scl st hF rfl (r12right_ok (keys (hOf st) ++ X) _ st.Lo (r12tags_m s.adds) Ar1 cr1 (st.q 2 rfl)) fun w13 st hF => Ly rfl (yn rfl) (Lm rfl (bBn (s := 23) rfl (fun hc8 => ?_) (fun hc8 => ?_))))))
    · refine LsF rfl (LsF rfl (LsF rfl (LsF rfl (Ly rfl (yT rfl) (Ls' rfl (Ls_nil (Th_n (?_))))))))
      exact hout2 _ [(1, _), (3, _), (19, _)] _ ⟨rfl, rfl, rfl, trivial⟩ ⟨by unfold r12check_c2; rewrite [iN hc8]; rfl, (st.pk [0] (by decide)).pickK [0, 1, 2], hF⟩
    refine LyT rfl (yf rfl Ty.fo_32_1) (LyT rfl (yl 0 Ty.pl_30 st rfl) (LaT rfl (Scl st hF rfl (r12right_ok (keys (hOf st) ++ X) _ st.Lo s.gone A2 C2 (st.q 1 rfl)) fun w14 st hF => LyT rfl (yn rfl) (Ly rfl (yF rfl) (Ls' rfl (Ls_nil (Th_n (?_))))))))
    exact hout2 _ [(1, _), (3, _), (19, _)] _ ⟨rfl, rfl, rfl, trivial⟩ ⟨by unfold r12check_c2; rewrite [iP hc8]; rfl, (st.pk [0] (by decide)).pickK [0, 1, 2], hF⟩
  refine rg (Ly rfl (yf rfl Ty.fo_32_0) (Ly rfl (yl 0 Ty.pl_29 st rfl) (Ly rfl (yll rfl Tryz.underlying29) (Ly rfl (ygt rfl) (Lm rfl (bD (s := 13) rfl (fun hc9 => ?_) (fun hc9 => ?_)))))))
  · refine LsF rfl (LsF rfl (LsF rfl (LsF rfl (Ly rfl (yT rfl) (Ls' rfl (Ls_nil (Th_n (?_))))))))
    exact hout1 _ [(1, _), (3, _), (8, _)] _ ⟨rfl, rfl, rfl, trivial⟩ ⟨by unfold r12check_c1; rewrite [iP hc9]; rfl, (st.pk [0] (by decide)).pickK [0, 1, 2], hF⟩
  refine LyT rfl (yf rfl Ty.fo_32_1) (LyT rfl (yl 0 Ty.pl_30 st rfl) (LyT rfl (yll rfl Tryz.underlying30) (LyT rfl (ygt rfl) (Ly rfl (yF rfl) (Ls' rfl (Ls_nil (Th_n (?_))))))))
  exact hout1 _ [(1, _), (3, _), (8, _)] _ ⟨rfl, rfl, rfl, trivial⟩ ⟨by unfold r12check_c1; rewrite [iN hc9]; rfl, (st.pk [0] (by decide)).pickK [0, 1, 2], hF⟩
def sameTags_L1 (a : List TagM) (b : List TagM) : Nat → Int → (Bool) ⊕ (Int)
  | 0, s5 => .inr (s5)
  | fuel + 1, s5 =>
    if s5 < (a.length : Int) then
      if ix a s5 = ix b s5 then
        sameTags_L1 a b fuel (s5 + 1)
      else
        .inl false
    else
      .inr (s5)
def sameTags_m (a : List TagM) (b : List TagM) : Bool :=
  if (a.length : Int) = (b.length : Int) then
    match sameTags_L1 a b (((a.length : Int) - (0 : Int)).toNat + 1) (0 : Int) with
    | .inl r => r
    | .inr (s5) =>
      true
  else
    false
theorem sameTags_ok (X : List Nat) (w : World) (hX : Lo X w) (a : List TagM) (A_a : Option Addr) (c_a : Nat) (b : List TagM) (A_b : Option Addr) (c_b : Nat) (h_a : Sld X w A_a a.length c_a 3 (a.flatMap tagMC)) (h_b : Sld X w A_b b.length c_b 3 (b.flatMap tagMC)) :
    Fn Tryz.prog 115 [.slice A_a a.length c_a, .slice A_b b.length c_b] w fun v w' => v = .bool (sameTags_m a b) ∧ Fr [] w w' := by
  refine Fn_of 26 Ty.en_115 Tryz.func115 rfl rfl rfl ?_
  dsimp only [argEnv]
  have st := stn2 hX h_a h_b
  have hF := Fr.refl ([]) w
  have z1 := (st.q 0 rfl).le
  have z2 := (st.q 1 rfl).le
  refine sq fun _ k1 => rg (Ls' rfl (Ln k1 (sq fun _ k2 => sq fun _ k3 => rg (Lm rfl (Ly rfl (yll rfl Tryz.underlying30) (Lm rfl (Ly rfl (yll rfl Tryz.underlying30) (Ly rfl (yne rfl) (Ln k3 (cN rfl (fun hc1 => ?_) (fun hc1 => ?_)))))))))))
  · refine sq fun _ k4 => rg (Ls' rfl (Ln k4 (wR (Th_r (fR (Res1 rfl rfl) ?_)))))
    unfold sameTags_m; rewrite [iN hc1]
    exact ⟨rfl, hF⟩
  refine sk k2 (sq fun _ k5 => sq fun _ k6 => rg (Ls' rfl (Ln k6 (Wp_block (lp (fun q E W => ∃ (s5 : Int), E = [(0, .slice A_a a.length c_a), (1, .slice A_b b.length c_b), (5, .int .i64 s5)] ∧ jq q (fun m => (sameTags_L1 a b m s5 = sameTags_L1 a b (((a.length : Int) - (0 : Int)).toNat + 1) (0 : Int) ∧ ((a.length : Int) - s5).toNat < m)) (sameTags_L1 a b (((a.length : Int) - (0 : Int)).toNat + 1) (0 : Int) = .inr (s5)) ∧ (0 ≤ s5) ∧ St X W [] [kS A_a a.length c_a 3 (a.flatMap tagMC), kS A_b b.length c_b 3 (b.flatMap tagMC)] ∧ Fr ([]) w W) (((a.length : Int) - (0 : Int)).toNat + 1) [(0, _), (1, _), (5, _)] ⟨rfl, rfl, rfl, trivial⟩ ⟨_, rfl, ⟨rfl, Nat.lt_succ_self _⟩, by omega, st, hF⟩ k5 ?_ fun hout1 => ?_)))))
  · rintro E w1 ⟨s5, rfl, hLk1, hinv, st, hF⟩
    unfold jq at hLk1; dsimp only at hLk1
    refine sq fun _ k7 => rg (Ls' rfl (Ln k7 (wR (fR (Res1 rfl rfl) ?_))))
    unfold sameTags_m; rewrite [iP hc1, hLk1]; (try dsimp only)
    exact ⟨rfl, hF⟩
  rintro m E w2 ⟨s5, rfl, ⟨hL1, hmu⟩, hinv, st, hF⟩
  obtain ⟨fuel, rfl⟩ : ∃ q, m = q + 1 := ⟨m - 1, by omega⟩
  refine sq fun _ k8 => sq fun _ k9 => rg (Lm rfl (Lm rfl (Ly rfl (yll rfl Tryz.underlying30) (Ly rfl (ylt rfl) (Ln k9 (cD rfl (fun hc2 => ?_) (fun hc2 => ?_)))))))
  · refine sk k8 (sq fun _ k10 => Wp_block (sq fun _ k11 => ?_))
    refine Wp_plan (fun W => St X W (pickL (hOf st) []) (kOf st)) [(true, 0), (true, 1), (true, 2), (true, 3), (true, 4), (true, 5), (true, 6), (true, 7), (true, 8)] Ty.mx_0 (by kernel_rfl) (by kernel_rfl) rfl ((st.pk [] (by decide)).drew) ?_
    have st := st.drew
    have hF := hF.step0 (Fr.drew _)
    refine Pm rfl (Pm rfl ?_)
    obtain ⟨gi1, bi1, egi1⟩ := (st.k (i := 0) rfl).addr (fun _ => rfl) (by decide) (q := s5) (by omega) (by omega)
    subst egi1
    refine Py rfl (y_ixa (q := s5) rfl rfl rfl Ty.es_30 (by omega) (by omega)) ?_
    refine Py rfl (y_ldk (q := s5) rfl rfl Ty.ag_41 (fun _ h => h.k (i := 0) rfl) (fun _ => rfl) (by omega) (by omega)) ?_
    refine Pm rfl (Pm rfl ?_)
    obtain ⟨gi2, bi2, egi2⟩ := (st.k (i := 1) rfl).addr (fun _ => rfl) (by decide) (q := s5) (by omega) (by omega)
    subst egi2
    refine Py rfl (y_ixa (q := s5) rfl rfl rfl Ty.es_30 (by omega) (by omega)) ?_
    refine Py rfl (y_ldk (q := s5) rfl rfl Ty.ag_41 (fun _ h => h.k (i := 1) rfl) (fun _ => rfl) (by omega) (by omega)) ?_
    refine Py rfl (y_nev (b := decide (ix a s5 = ix b s5)) rfl rfl rfl Ty.eg_41 (by rw [Ty.ag_41]; simp) (eqv_41 (ix a s5) (ix b s5))) ?_
    refine Pl_nil (Th_n (k11 _ _ (cDn rfl (fun hc3 => ?_) (fun hc3 => ?_))))
    · refine sq fun _ k12 => rg (Ls' rfl (Ln k12 (wR (Ib_r (Th_r (Th_r (Ib_r (Th_r (fR (Res1 rfl rfl) ?_)))))))))
      have hret1 : sameTags_L1 a b (((a.length : Int) - (0 : Int)).toNat + 1) (0 : Int) = .inl false := by rewrite [← hL1, sameTags_L1]; rewrite [iP hc2, iN hc3]; rfl
      have he3 : sameTags_m a b = false := by unfold sameTags_m; rewrite [iP hc1, hret1]; (try dsimp only); all_goals rfl
      rewrite [he3]
      exact ⟨rfl, hF⟩
    refine Wp_skip (Ib_n (Th_n (k10 _ _ (rg (Lm rfl (Ly rfl (y_add (c := s5 + 1) rfl rfl rfl (wf_i64 (by first | omega | (simp; done) | (simp; omega)))) ?_))))))
    refine Ls' rfl (Ls_nil (Th_n (?_)))
    exact ⟨fuel, [(0, _), (1, _), (5, _)], Nat.lt_succ_self _, ⟨rfl, rfl, rfl, trivial⟩, (s5 + 1), rfl, ⟨by rewrite [← hL1, sameTags_L1]; rewrite [iP hc2, iP hc3]; rfl, by omega⟩, by omega, (st.pk [] (by decide)).pickK [0, 1], hF⟩
  refine Wp_exit (Th_e (Th_e (Ib_hit (Th_n (?_)))))
  exact hout1 _ [(0, _), (1, _), (5, _)] _ ⟨rfl, rfl, rfl, trivial⟩ ⟨s5, rfl, show _ = _ from by rewrite [← hL1, sameTags_L1]; rewrite [iN hc2]; rfl, by omega, (st.pk [] (by decide)).pickK [0, 1], hF⟩
theorem eqv_110r (a0 : Int) (a1 : Int) (a2 : Int) (a3 : List UInt8) (b0 : Int) (b1 : Int) (b2 : Int) (b3 : List UInt8) : eqVals Tryz.prog 8 110 [.int .i64 a0, .int .u32 a1, .int .i64 a2, sv a3] [.int .i64 b0, .int .u32 b1, .int .i64 b2, sv b3] = some ((((a0 == b0) && ((a1 == b1) && true)) && ((a2 == b2) && true)) && ((a3 == b3) && true)) := by kernel_rfl
theorem eqv_110 (x y : AddM) : eqVals Tryz.prog 8 110 (addMC x) (addMC y) = some (decide (x = y)) := by
  obtain ⟨⟨⟨a0, a1⟩, a2⟩, a3⟩ := x
  obtain ⟨⟨⟨b0, b1⟩, b2⟩, b3⟩ := y
  refine (eqv_110r a0 a1 a2 a3 b0 b1 b2 b3).trans (congrArg some ?_)
  rw [Bool.eq_iff_iff]
  simp
def r12same_c1 (a : SetM) (b : SetM) : Bool :=
  (if (a.adds.length : Int) = (b.adds.length : Int) then !(sameTags_m a.gone b.gone) else true)
def r12same_L1 (a : SetM) (b : SetM) : Nat → Int → (Bool) ⊕ (Int)
  | 0, s5 => .inr (s5)
  | fuel + 1, s5 =>
    if s5 < (a.adds.length : Int) then
      if ix a.adds s5 = ix b.adds s5 then
        r12same_L1 a b fuel (s5 + 1)
      else
        .inl false
    else
      .inr (s5)
def r12same_m (a : SetM) (b : SetM) : Bool :=
  if (r12same_c1 a b) = true then
    false
  else
    match r12same_L1 a b (((a.adds.length : Int) - (0 : Int)).toNat + 1) (0 : Int) with
    | .inl r => r
    | .inr (s5) =>
      true
theorem r12same_c1_iff (a : SetM) (b : SetM) : (r12same_c1 a b = true) ↔ (¬ ((a.adds.length : Int) = (b.adds.length : Int)) ∨ (¬ ((sameTags_m a.gone b.gone) = true))) := by
  unfold r12same_c1; exact (ci4 (by simp))
theorem r12same_ok (X : List Nat) (w : World) (hX : Lo X w) (a : SetM) (A1 : Option Addr) (C1 : Nat) (A2 : Option Addr) (C2 : Nat) (b : SetM) (A3 : Option Addr) (C3 : Nat) (A4 : Option Addr) (C4 : Nat) (z5 : Sld X w A1 a.adds.length C1 4 (a.adds.flatMap addMC)) (z6 : Sld X w A2 a.gone.length C2 3 (a.gone.flatMap tagMC)) (z7 : Sld X w A3 b.adds.length C3 4 (b.adds.flatMap addMC)) (z8 : Sld X w A4 b.gone.length C4 3 (b.gone.flatMap tagMC)) :
    Fn Tryz.prog 44 [.agg #[.slice A1 a.adds.length C1, .slice A2 a.gone.length C2], .agg #[.slice A3 b.adds.length C3, .slice A4 b.gone.length C4]] w fun v w' => v = .bool (r12same_m a b) ∧ Fr [] w w' := by
  refine Fn_of 39 Ty.en_44 Tryz.func44 rfl rfl rfl ?_
  dsimp only [argEnv]
  have st := stn4 hX z5 z6 z7 z8
  have hF := Fr.refl ([]) w
  have z1 := (st.q 0 rfl).le
  have z2 := (st.q 1 rfl).le
  have z3 := (st.q 2 rfl).le
  have z4 := (st.q 3 rfl).le
  refine sq fun _ k1 => rg (La rfl (Sbx st hF rfl fun g1 w1 (st : St _ _ [_] _) hF hg1 => La rfl (Sbx st hF rfl fun g2 w2 (st : St _ _ [_, _] _) hF hg2 => Ls' rfl (Ln k1 (sq fun _ k2 => sq fun _ k3 => ?_)))))
  refine use_out k3 (fun E W => E = [(2, .pointer (some ⟨g1, 0, none⟩)), (3, .pointer (some ⟨g2, 0, none⟩)), (20, .bool (r12same_c1 a b))] ∧ St X W (hOf st) (kOf st) ∧ Fr ([]) w W) ?_ fun hout1 => ?_
  · rintro E w3 ⟨rfl, st, hF⟩
    have st : St X w3 [_, _] [_, _, _, _] := st
    refine cB rfl (fun hc1 => ?_) (fun hc1 => ?_)
    · have jhc1 := (r12same_c1_iff a b).1 hc1
      refine sq fun _ k4 => rg (Ls' rfl (Ln k4 (wR (Th_r (fR (Res1 rfl rfl) ?_)))))
      unfold r12same_m; rewrite [iP hc1]
      exact ⟨rfl, hF⟩
    have jhc1 := mt (r12same_c1_iff a b).2 hc1
    refine sk k2 (sq fun _ k5 => sq fun _ k6 => rg (Ls' rfl (Ln k6 (Wp_block (lp (fun q E W => ∃ (s5 : Int), E = [(2, .pointer (some ⟨g1, 0, none⟩)), (3, .pointer (some ⟨g2, 0, none⟩)), (5, .int .i64 s5)] ∧ jq q (fun m => (r12same_L1 a b m s5 = r12same_L1 a b (((a.adds.length : Int) - (0 : Int)).toNat + 1) (0 : Int) ∧ ((a.adds.length : Int) - s5).toNat < m)) (r12same_L1 a b (((a.adds.length : Int) - (0 : Int)).toNat + 1) (0 : Int) = .inr (s5)) ∧ (0 ≤ s5) ∧ St X W [(some g1, Cl [.slice A1 a.adds.length C1, .slice A2 a.gone.length C2] 32), (some g2, Cl [.slice A3 b.adds.length C3, .slice A4 b.gone.length C4] 32)] [kS A1 a.adds.length C1 4 (a.adds.flatMap addMC), kS A2 a.gone.length C2 3 (a.gone.flatMap tagMC), kS A3 b.adds.length C3 4 (b.adds.flatMap addMC), kS A4 b.gone.length C4 3 (b.gone.flatMap tagMC)] ∧ Fr ([]) w W) (((a.adds.length : Int) - (0 : Int)).toNat + 1) [(2, _), (3, _), (5, _)] ⟨rfl, rfl, rfl, trivial⟩ ⟨_, rfl, ⟨rfl, Nat.lt_succ_self _⟩, by omega, st, hF⟩ k5 ?_ fun hout2 => ?_)))))
    · rintro E w4 ⟨s5, rfl, hLk1, hinv, st, hF⟩
      unfold jq at hLk1; dsimp only at hLk1
      refine sq fun _ k7 => rg (Ls' rfl (Ln k7 (wR (fR (Res1 rfl rfl) ?_))))
      unfold r12same_m; rewrite [iN hc1, hLk1]; (try dsimp only)
      exact ⟨rfl, hF⟩
    rintro m E w5 ⟨s5, rfl, ⟨hL1, hmu⟩, hinv, st, hF⟩
    obtain ⟨fuel, rfl⟩ : ∃ q, m = q + 1 := ⟨m - 1, by omega⟩
    refine sq fun _ k8 => sq fun _ k9 => rg (Lm rfl (Ly rfl (yf rfl Ty.fo_32_0) (Ly rfl (yl 0 Ty.pl_29 st rfl) (Ly rfl (yll rfl Tryz.underlying29) (Ly rfl (ylt rfl) (Ln k9 (cD rfl (fun hc2 => ?_) (fun hc2 => ?_))))))))
    · refine sk k8 (sq fun _ k10 => Wp_block (sq fun _ k11 => ?_))
      refine Wp_plan (fun W => St X W (pickL (hOf st) [0, 1]) (kOf st)) [(true, 0), (true, 1), (true, 2), (true, 3), (true, 4), (true, 5), (true, 6), (true, 7), (true, 8), (true, 9), (true, 10)] Ty.mx_0 (by kernel_rfl) (by kernel_rfl) rfl ((st.pk [0, 1] (by decide)).drew) ?_
      have st := st.drew
      have hF := hF.step0 (Fr.drew _)
      refine Py rfl (yf rfl Ty.fo_32_0) (Py rfl (y_load (i := 0) rfl rfl Ty.pl_29 (fun _ h => h.hp) rfl rfl) (Pm rfl ?_))
      obtain ⟨gi1, bi1, egi1⟩ := (st.k (i := 0) rfl).addr (fun _ => rfl) (by decide) (q := s5) (by omega) (by omega)
      subst egi1
      refine Py rfl (y_ixa (q := s5) rfl rfl rfl Ty.es_29 (by omega) (by omega)) ?_
      refine Py rfl (y_ldk (q := s5) rfl rfl Ty.ag_110 (fun _ h => h.k (i := 0) rfl) (fun _ => rfl) (by omega) (by omega)) ?_
      refine Py rfl (yf rfl Ty.fo_32_0) (Py rfl (y_load (i := 1) rfl rfl Ty.pl_29 (fun _ h => h.hp) rfl rfl) (Pm rfl ?_))
      obtain ⟨gi2, bi2, egi2⟩ := (st.k (i := 2) rfl).addr (fun _ => rfl) (by decide) (q := s5) (by omega) (by omega)
      subst egi2
      refine Py rfl (y_ixa (q := s5) rfl rfl rfl Ty.es_29 (by omega) (by omega)) ?_
      refine Py rfl (y_ldk (q := s5) rfl rfl Ty.ag_110 (fun _ h => h.k (i := 2) rfl) (fun _ => rfl) (by omega) (by omega)) ?_
      refine Py rfl (y_nev (b := decide (ix a.adds s5 = ix b.adds s5)) rfl rfl rfl Ty.eg_110 (by rw [Ty.ag_110]; simp) (eqv_110 (ix a.adds s5) (ix b.adds s5))) ?_
      refine Pl_nil (Th_n (k11 _ _ (cDn rfl (fun hc3 => ?_) (fun hc3 => ?_))))
      · refine sq fun _ k12 => rg (Ls' rfl (Ln k12 (wR (Ib_r (Th_r (Th_r (Ib_r (Th_r (fR (Res1 rfl rfl) ?_)))))))))
        have hret1 : r12same_L1 a b (((a.adds.length : Int) - (0 : Int)).toNat + 1) (0 : Int) = .inl false := by rewrite [← hL1, r12same_L1]; rewrite [iP hc2, iN hc3]; rfl
        have he3 : r12same_m a b = false := by unfold r12same_m; rewrite [iN hc1, hret1]; (try dsimp only); all_goals rfl
        rewrite [he3]
        exact ⟨rfl, hF⟩
      refine Wp_skip (Ib_n (Th_n (k10 _ _ (rg (Lm rfl (Ly rfl (y_add (c := s5 + 1) rfl rfl rfl (wf_i64 (by first | omega | (simp; done) | (simp; omega)))) ?_))))))
      refine Ls' rfl (Ls_nil (Th_n (?_)))
      exact ⟨fuel, [(2, _), (3, _), (5, _)], Nat.lt_succ_self _, ⟨rfl, rfl, rfl, trivial⟩, (s5 + 1), rfl, ⟨by rewrite [← hL1, r12same_L1]; rewrite [iP hc2, iP hc3]; rfl, by omega⟩, by omega, (st.pk [0, 1] (by decide)).pickK [0, 1, 2, 3], hF⟩
    refine Wp_exit (Th_e (Th_e (Ib_hit (Th_n (?_)))))
    exact hout2 _ [(2, _), (3, _), (5, _)] _ ⟨rfl, rfl, rfl, trivial⟩ ⟨s5, rfl, show _ = _ from by rewrite [← hL1, r12same_L1]; rewrite [iN hc2]; rfl, by omega, (st.pk [0, 1] (by decide)).pickK [0, 1, 2, 3], hF⟩
  refine rg (Ly rfl (yf rfl Ty.fo_32_0) (Ly rfl (yl 0 Ty.pl_29 st rfl) (Ly rfl (yll rfl Tryz.underlying29) (Ly rfl (yf rfl Ty.fo_32_0) (Ly rfl (yl 1 Ty.pl_29 st rfl) (Ly rfl (yll rfl Tryz.underlying29) (Ly rfl (yne rfl) (Lm rfl (bN (s := 13) rfl (fun hc4 => ?_) (fun hc4 => ?_))))))))))
  · refine LsF rfl (LsF rfl (LsF rfl (LsF rfl (LsF rfl (LsF rfl (Ly rfl (yT rfl) (Ls_nil (Th_n (?_)))))))))
    exact hout1 _ [(2, _), (3, _), (20, _)] _ ⟨rfl, rfl, rfl, trivial⟩ ⟨by unfold r12same_c1; rewrite [iN hc4]; rfl, (st.pk [0, 1] (by decide)).pickK [0, 1, 2, 3], hF⟩
  refine LyT rfl (yf rfl Ty.fo_32_1) (LyT rfl (yl 0 Ty.pl_30 st rfl) (LyT rfl (yf rfl Ty.fo_32_1) (LyT rfl (yl 1 Ty.pl_30 st rfl) (LaT rfl (Scl st hF rfl (sameTags_ok (keys (hOf st) ++ X) _ st.Lo a.gone A2 C2 b.gone A4 C4 (st.q 1 rfl) (st.q 3 rfl)) fun w6 st hF => LyT rfl (yn rfl) (Ly rfl (yF rfl) (Ls_nil (Th_n (?_)))))))))
  exact hout1 _ [(2, _), (3, _), (20, _)] _ ⟨rfl, rfl, rfl, trivial⟩ ⟨by unfold r12same_c1; rewrite [iP hc4]; rfl, (st.pk [0, 1] (by decide)).pickK [0, 1, 2, 3], hF⟩
structure PutM where
  tag : TagM
  field : List UInt8
  val : Int
  atF : StampM
instance : Inhabited PutM := ⟨⟨default, default, default, default⟩⟩
instance : DecidableEq PutM := fun a b => decidable_of_iff (a.tag = b.tag ∧ a.field = b.field ∧ a.val = b.val ∧ a.atF = b.atF) (by cases a; cases b; simp)
def putMC (x : PutM) : List Value := [.int .i64 x.tag.id.origin, .int .u32 x.tag.id.seq, .int .i64 x.tag.n, sv x.field, .int .i64 x.val, .int .u32 x.atF.time, .int .i64 x.atF.origin]
theorem putMC_1 (x : PutM) : ∀ v ∈ putMC x, v.oneCell' = true := all_one rfl
def r13fits_m (p : PutM) : Bool :=
  if (r12elem_m p.field) = true then
    if (r9check_m p.atF) = 0 then
      decide (0 < p.atF.time)
    else
      false
  else
    false
theorem r13fits_ok (w : World) (p : PutM) :
    Fn Tryz.prog 109 [.agg (putMC p).toArray] w fun v w' => v = .bool (r13fits_m p) ∧ Fr [] w w' := by
  refine Fn_of 18 Ty.en_109 Tryz.func109 rfl rfl rfl ?_
  dsimp only [argEnv]
  have st := stn0 (X := []) (w := w) (by simp [Lo])
  have hF := Fr.refl ([]) w
  refine sq fun _ k1 => rg (La rfl (Sbx st hF rfl fun g1 w1 (st : St _ _ [_] _) hF hg1 => Ls' rfl (Ln k1 (sq fun _ k2 => rg (Ly rfl (yf rfl Ty.fo_114_1) (Ly rfl (yl 0 Ty.pl_9 st rfl) (La rfl (Scl st hF rfl (r12elem_ok _ p.field) fun w2 st hF => Lm rfl (bB (s := 6) rfl (fun hc1 => ?_) (fun hc1 => ?_))))))))))
  · refine LyT rfl (yf rfl Ty.fo_114_3) (LyT rfl (ym 0 Ty.ag_24 st rfl) (LaT rfl (Scl st hF rfl (r9check_ok _ p.atF) fun w3 st hF => LyT rfl (yeq rfl) (Ly rfl (yT rfl) (Lm rfl (bE (s := 12) rfl (fun hc2 => ?_) (fun hc2 => ?_)))))))
    · refine LyT rfl (yf rfl Ty.fo_114_3) (LyT rfl (yf rfl Ty.fo_24_0) (LyT rfl (yl 0 Ty.pl_22 st rfl) (LyT rfl (ygt rfl) (Ly rfl (yT rfl) (Ls' rfl (Ln k2 (wR (fR (Res1 rfl rfl) ?_))))))))
      unfold r13fits_m; rewrite [iP hc1, iP hc2]
      exact ⟨rfl, hF⟩
    refine LsF rfl (LsF rfl (LsF rfl (LsF rfl (Ly rfl (yF rfl) (Ls' rfl (Ln k2 (wR (fR (Res1 rfl rfl) ?_))))))))
    unfold r13fits_m; rewrite [iP hc1, iN hc2]
    exact ⟨rfl, hF⟩
  refine LsF rfl (LsF rfl (LsF rfl (LsF rfl (Ly rfl (yF rfl) (Lm rfl (LsF rfl (LsF rfl (LsF rfl (LsF rfl (Ly rfl (yF rfl) (Ls' rfl (Ln k2 (wR (fR (Res1 rfl rfl) ?_))))))))))))))
  unfold r13fits_m; rewrite [iN hc1]
  exact ⟨rfl, hF⟩
structure MapM where
  puts : List PutM
  gone : List TagM
instance : Inhabited MapM := ⟨⟨default, default⟩⟩
instance : DecidableEq MapM := fun a b => decidable_of_iff (a.puts = b.puts ∧ a.gone = b.gone) (by cases a; cases b; simp)
def r13check_c1 (s : MapM) : Bool :=
  (if 4096 < (s.puts.length : Int) then true else decide (4096 < (s.gone.length : Int)))
def r13check_L4 (s : MapM) (s3 : Int) (s4 : Int) (s5 : Int) : Nat → Int → (Int) ⊕ (Int)
  | 0, s7 => .inr (s7)
  | fuel + 1, s7 =>
    if s7 < (s.gone.length : Int) then
      if 0 ≤ (r5compareTag_m (ix s.gone (s7 - 1)) (ix s.gone s7)) then
        .inl 3
      else
        r13check_L4 s s3 s4 s5 fuel (s7 + 1)
    else
      .inr (s7)
def r13check_c2 (s : MapM) (s3 : Int) (s4 : Int) (s5 : Int) : Bool :=
  (if (r13fits_m (ix s.puts s5)) = true then (if (r12hasTag_m s.gone ((ix s.puts s5).tag)) = true then true else (if 0 < s5 then decide (0 ≤ (r5compareTag_m ((ix s.puts (s5 - 1)).tag) ((ix s.puts s5).tag))) else false)) else true)
def r13check_L3 (s : MapM) (s3 : Int) (s4 : Int) : Nat → Int → (Int) ⊕ (Int)
  | 0, s5 => .inr (s5)
  | fuel + 1, s5 =>
    if s5 < (s.puts.length : Int) then
      if (r13check_c2 s s3 s4 s5) = true then
        .inl 3
      else
        r13check_L3 s s3 s4 fuel (s5 + 1)
    else
      .inr (s5)
def r13check_L2 (s : MapM) (s3 : Int) : Nat → Int → (Int) ⊕ (Int)
  | 0, s4 => .inr (s4)
  | fuel + 1, s4 =>
    if s4 < (s.gone.length : Int) then
      if (r5checkTag_m (ix s.gone s4)) = 0 then
        r13check_L2 s s3 fuel (s4 + 1)
      else
        .inl 2
    else
      .inr (s4)
def r13check_L1 (s : MapM) : Nat → Int → (Int) ⊕ (Int)
  | 0, s3 => .inr (s3)
  | fuel + 1, s3 =>
    if s3 < (s.puts.length : Int) then
      if (r5checkTag_m ((ix s.puts s3).tag)) = 0 then
        r13check_L1 s fuel (s3 + 1)
      else
        .inl 2
    else
      .inr (s3)
def r13check_m (s : MapM) : Int :=
  if (r13check_c1 s) = true then
    8
  else
    match r13check_L1 s (((s.puts.length : Int) - (0 : Int)).toNat + 1) (0 : Int) with
    | .inl r => r
    | .inr (s3) =>
      match r13check_L2 s s3 (((s.gone.length : Int) - (0 : Int)).toNat + 1) (0 : Int) with
      | .inl r => r
      | .inr (s4) =>
        match r13check_L3 s s3 s4 (((s.puts.length : Int) - (0 : Int)).toNat + 1) (0 : Int) with
        | .inl r => r
        | .inr (s5) =>
          match r13check_L4 s s3 s4 s5 (((s.gone.length : Int) - (1 : Int)).toNat + 1) (1 : Int) with
          | .inl r => r
          | .inr (s7) =>
            0
theorem r13check_c1_iff (s : MapM) : (r13check_c1 s = true) ↔ ((4096 < (s.puts.length : Int)) ∨ (4096 < (s.gone.length : Int))) := by
  unfold r13check_c1; exact (ci1 decide_eq_true_iff)
theorem r13check_c2_iff (s : MapM) (s3 : Int) (s4 : Int) (s5 : Int) : (r13check_c2 s s3 s4 s5 = true) ↔ (¬ ((r13fits_m (ix s.puts s5)) = true) ∨ (((r12hasTag_m s.gone ((ix s.puts s5).tag)) = true) ∨ ((0 < s5) ∧ (0 ≤ (r5compareTag_m ((ix s.puts (s5 - 1)).tag) ((ix s.puts s5).tag)))))) := by
  unfold r13check_c2; exact (ci4 (ci1 (ci2 decide_eq_true_iff)))
theorem r13check_ok (X : List Nat) (w : World) (hX : Lo X w) (s : MapM) (A2 : Option Addr) (C2 : Nat) (A1 : Option Addr) (C1 : Nat) (z4 : Sld X w A2 s.puts.length C2 7 (s.puts.flatMap putMC)) (z3 : Sld X w A1 s.gone.length C1 3 (s.gone.flatMap tagMC)) :
    Fn Tryz.prog 108 [.agg #[.slice A2 s.puts.length C2, .slice A1 s.gone.length C1]] w fun v w' => v = .int .i64 (r13check_m s) ∧ Fr [] w w' := by
  refine Fn_of 106 Ty.en_108 Tryz.func108 rfl rfl rfl ?_
  dsimp only [argEnv]
  have st := stn2 hX z4 z3
  have hF := Fr.refl ([]) w
  refine sq fun _ k1 => rg (La rfl (Sbx st hF rfl fun g1 w1 (st : St _ _ [_] _) hF hg1 => Ls' rfl (Ln k1 (sq fun _ k2 => sq fun _ k3 => ?_))))
  refine use_out k3 (fun E W => E = [(1, .pointer (some ⟨g1, 0, none⟩)), (17, .bool (r13check_c1 s))] ∧ St X W (hOf st) (kOf st) ∧ Fr ([]) w W) ?_ fun hout1 => ?_
  · rintro E w2 ⟨rfl, st, hF⟩
    have st : St X w2 [_] [_, _] := st
    refine cB rfl (fun hc1 => ?_) (fun hc1 => ?_)
    · have jhc1 := (r13check_c1_iff s).1 hc1
      refine sq fun _ k4 => rg (Ls' rfl (Ln k4 (wR (Th_r (fR (Res1 rfl rfl) ?_)))))
      unfold r13check_m; rewrite [iP hc1]
      exact ⟨rfl, hF⟩
    have jhc1 := mt (r13check_c1_iff s).2 hc1
    refine sk k2 (sq fun _ k5 => sq fun _ k6 => rg (Ls' rfl (Ln k6 (Wp_block (lp (fun q E W => ∃ (s3 : Int), E = [(1, .pointer (some ⟨g1, 0, none⟩)), (3, .int .i64 s3)] ∧ jq q (fun m => (r13check_L1 s m s3 = r13check_L1 s (((s.puts.length : Int) - (0 : Int)).toNat + 1) (0 : Int) ∧ ((s.puts.length : Int) - s3).toNat < m)) (r13check_L1 s (((s.puts.length : Int) - (0 : Int)).toNat + 1) (0 : Int) = .inr (s3)) ∧ (0 ≤ s3) ∧ St X W [(some g1, Cl [.slice A2 s.puts.length C2, .slice A1 s.gone.length C1] 35)] [kS A2 s.puts.length C2 7 (s.puts.flatMap putMC), kS A1 s.gone.length C1 3 (s.gone.flatMap tagMC)] ∧ Fr ([]) w W) (((s.puts.length : Int) - (0 : Int)).toNat + 1) [(1, _), (3, _)] ⟨rfl, rfl, trivial⟩ ⟨_, rfl, ⟨rfl, Nat.lt_succ_self _⟩, by omega, st, hF⟩ k5 ?_ fun hout2 => ?_)))))
    · rintro E w3 ⟨s3, rfl, hLk1, hinv, st, hF⟩
      unfold jq at hLk1; dsimp only at hLk1
      refine sq fun _ k7 => sq fun _ k8 => rg (Ls' rfl (Ln k8 (Wp_block (lp (fun q E W => ∃ (s4 : Int), E = [(1, .pointer (some ⟨g1, 0, none⟩)), (4, .int .i64 s4)] ∧ jq q (fun m => (r13check_L2 s s3 m s4 = r13check_L2 s s3 (((s.gone.length : Int) - (0 : Int)).toNat + 1) (0 : Int) ∧ ((s.gone.length : Int) - s4).toNat < m)) (r13check_L2 s s3 (((s.gone.length : Int) - (0 : Int)).toNat + 1) (0 : Int) = .inr (s4)) ∧ (0 ≤ s4) ∧ St X W [(some g1, Cl [.slice A2 s.puts.length C2, .slice A1 s.gone.length C1] 35)] [kS A2 s.puts.length C2 7 (s.puts.flatMap putMC), kS A1 s.gone.length C1 3 (s.gone.flatMap tagMC)] ∧ Fr ([]) w W) (((s.gone.length : Int) - (0 : Int)).toNat + 1) [(1, _), (4, _)] ⟨rfl, rfl, trivial⟩ ⟨_, rfl, ⟨rfl, Nat.lt_succ_self _⟩, by omega, st, hF⟩ k7 ?_ fun hout3 => ?_))))
      · rintro E w4 ⟨s4, rfl, hLk2, hinv, st, hF⟩
        unfold jq at hLk2; dsimp only at hLk2
        refine sq fun _ k9 => sq fun _ k10 => rg (Ls' rfl (Ln k10 (Wp_block (lp (fun q E W => ∃ (s5 : Int), E = [(1, .pointer (some ⟨g1, 0, none⟩)), (5, .int .i64 s5)] ∧ jq q (fun m => (r13check_L3 s s3 s4 m s5 = r13check_L3 s s3 s4 (((s.puts.length : Int) - (0 : Int)).toNat + 1) (0 : Int) ∧ ((s.puts.length : Int) - s5).toNat < m)) (r13check_L3 s s3 s4 (((s.puts.length : Int) - (0 : Int)).toNat + 1) (0 : Int) = .inr (s5)) ∧ (0 ≤ s5) ∧ St X W [(some g1, Cl [.slice A2 s.puts.length C2, .slice A1 s.gone.length C1] 35)] [kS A2 s.puts.length C2 7 (s.puts.flatMap putMC), kS A1 s.gone.length C1 3 (s.gone.flatMap tagMC)] ∧ Fr ([]) w W) (((s.puts.length : Int) - (0 : Int)).toNat + 1) [(1, _), (5, _)] ⟨rfl, rfl, trivial⟩ ⟨_, rfl, ⟨rfl, Nat.lt_succ_self _⟩, by omega, st, hF⟩ k9 ?_ fun hout4 => ?_))))
        · rintro E w5 ⟨s5, rfl, hLk3, hinv, st, hF⟩
          unfold jq at hLk3; dsimp only at hLk3
          refine sq fun _ k11 => sq fun _ k12 => rg (Ls' rfl (Ln k12 (Wp_block (lp (fun q E W => ∃ (s7 : Int), E = [(1, .pointer (some ⟨g1, 0, none⟩)), (7, .int .i64 s7)] ∧ jq q (fun m => (r13check_L4 s s3 s4 s5 m s7 = r13check_L4 s s3 s4 s5 (((s.gone.length : Int) - (1 : Int)).toNat + 1) (1 : Int) ∧ ((s.gone.length : Int) - s7).toNat < m)) (r13check_L4 s s3 s4 s5 (((s.gone.length : Int) - (1 : Int)).toNat + 1) (1 : Int) = .inr (s7)) ∧ (1 ≤ s7) ∧ St X W [(some g1, Cl [.slice A2 s.puts.length C2, .slice A1 s.gone.length C1] 35)] [kS A2 s.puts.length C2 7 (s.puts.flatMap putMC), kS A1 s.gone.length C1 3 (s.gone.flatMap tagMC)] ∧ Fr ([]) w W) (((s.gone.length : Int) - (1 : Int)).toNat + 1) [(1, _), (7, _)] ⟨rfl, rfl, trivial⟩ ⟨_, rfl, ⟨rfl, Nat.lt_succ_self _⟩, by omega, st, hF⟩ k11 ?_ fun hout5 => ?_))))
          · rintro E w6 ⟨s7, rfl, hLk4, hinv, st, hF⟩
            unfold jq at hLk4; dsimp only at hLk4
            refine sq fun _ k13 => rg (Ls' rfl (Ln k13 (wR (fR (Res1 rfl rfl) ?_))))
            unfold r13check_m; rewrite [iN hc1, hLk1]; (try dsimp only); rewrite [hLk2]; (try dsimp only); rewrite [hLk3]; (try dsimp only); rewrite [hLk4]; (try dsimp only)
            exact ⟨rfl, hF⟩
          rintro m E w7 ⟨s7, rfl, ⟨hL4, hmu⟩, hinv, st, hF⟩
          obtain ⟨fuel, rfl⟩ : ∃ q, m = q + 1 := ⟨m - 1, by omega⟩
          refine sq fun _ k14 => sq fun _ k15 => rg (Lm rfl (Ly rfl (yf rfl Ty.fo_35_1) (Ly rfl (yl 0 Ty.pl_30 st rfl) (Ly rfl (yll rfl Tryz.underlying30) (Ly rfl (ylt rfl) (Ln k15 (cD rfl (fun hc2 => ?_) (fun hc2 => ?_))))))))
          · refine sk k14 (sq fun _ k16 => Wp_block (sq fun _ k17 => ?_))
            refine Wp_plan (fun W => St X W (pickL (hOf st) [0]) (kOf st)) [(true, 0), (true, 1), (true, 2), (true, 3), (true, 4), (true, 5), (true, 6), (true, 7), (true, 8), (true, 9), (true, 10), (false, 11), (true, 12)] Ty.mx_0 (by kernel_rfl) (by kernel_rfl) rfl ((st.pk [0] (by decide)).drew) ?_
            have st := st.drew
            have hF := hF.step0 (Fr.drew _)
            refine Py rfl (yf rfl Ty.fo_35_1) (Py rfl (y_load (i := 0) rfl rfl Ty.pl_30 (fun _ h => h.hp) rfl rfl) (Pm rfl (Py rfl (y_sub (c := s7 - 1) rfl rfl rfl (wf_i64 (by omega))) ?_)))
            obtain ⟨gi1, bi1, egi1⟩ := (st.k (i := 1) rfl).addr (fun _ => rfl) (by decide) (q := s7 - 1) (by omega) (by omega)
            subst egi1
            refine Py rfl (y_ixa (q := s7 - 1) rfl rfl rfl Ty.es_30 (by omega) (by omega)) ?_
            refine Py rfl (y_ldk (q := s7 - 1) rfl rfl Ty.ag_41 (fun _ h => h.k (i := 1) rfl) (fun _ => rfl) (by omega) (by omega)) ?_
            refine Py rfl (yf rfl Ty.fo_35_1) (Py rfl (y_load (i := 0) rfl rfl Ty.pl_30 (fun _ h => h.hp) rfl rfl) (Pm rfl (Py rfl (y_ixa (q := s7) rfl rfl rfl Ty.es_30 (by omega) (by omega)) ?_)))
            refine Py rfl (y_ldk (q := s7) rfl rfl Ty.ag_41 (fun _ h => h.k (i := 1) rfl) (fun _ => rfl) (by omega) (by omega)) ?_
            refine Pl_a rfl (wtd0 rfl) (by rfl) ?_
            refine Scl st hF rfl (r5compareTag_ok _ (ix s.gone (s7 - 1)) (ix s.gone s7)) fun w8 st hF => ?_
            refine ⟨(st.pk [0] (by decide)).tK 2, ?_⟩
            refine Py rfl (yge rfl) (Pl_nil (Th_n (k17 _ _ (cD rfl (fun hc3 => ?_) (fun hc3 => ?_)))))
            · refine sq fun _ k18 => rg (Ls' rfl (Ln k18 (wR (Ib_r (Th_r (Th_r (Ib_r (Th_r (fR (Res1 rfl rfl) ?_)))))))))
              have hret1 : r13check_L4 s s3 s4 s5 (((s.gone.length : Int) - (1 : Int)).toNat + 1) (1 : Int) = .inl 3 := by rewrite [← hL4, r13check_L4]; rewrite [iP hc2, iP hc3]; rfl
              have he3 : r13check_m s = 3 := by unfold r13check_m; rewrite [iN hc1, hLk1]; (try dsimp only); all_goals rewrite [hLk2]; (try dsimp only); all_goals rewrite [hLk3]; (try dsimp only); all_goals rewrite [hret1]; (try dsimp only); all_goals rfl
              rewrite [he3]
              exact ⟨rfl, hF⟩
            refine Wp_skip (Ib_n (Th_n (k16 _ _ (rg (Lm rfl (Ly rfl (y_add (c := s7 + 1) rfl rfl rfl (wf_i64 (by omega))) ?_))))))
            refine Ls' rfl (Ls_nil (Th_n (?_)))
            exact ⟨fuel, [(1, _), (7, _)], Nat.lt_succ_self _, ⟨rfl, rfl, trivial⟩, (s7 + 1), rfl, ⟨by rewrite [← hL4, r13check_L4]; rewrite [iP hc2, iN hc3]; rfl, by omega⟩, by omega, (st.pk [0] (by decide)).pickK [0, 1], hF⟩
          refine Wp_exit (Th_e (Th_e (Ib_hit (Th_n (?_)))))
          exact hout5 _ [(1, _), (7, _)] _ ⟨rfl, rfl, trivial⟩ ⟨s7, rfl, show _ = _ from by rewrite [← hL4, r13check_L4]; rewrite [iN hc2]; rfl, by omega, (st.pk [0] (by decide)).pickK [0, 1], hF⟩
        rintro m E w9 ⟨s5, rfl, ⟨hL3, hmu⟩, hinv, st, hF⟩
        obtain ⟨fuel, rfl⟩ : ∃ q, m = q + 1 := ⟨m - 1, by omega⟩
        refine sq fun _ k19 => sq fun _ k20 => rg (Lm rfl (Ly rfl (yf rfl Ty.fo_35_0) (Ly rfl (yl 0 Ty.pl_33 st rfl) (Ly rfl (yll rfl Tryz.underlying33) (Ly rfl (ylt rfl) (Ln k20 (cD rfl (fun hc4 => ?_) (fun hc4 => ?_))))))))
        · refine sk k19 (sq fun _ k21 => Wp_block (sq fun _ k22 => rg (Ly rfl (yf rfl Ty.fo_35_0) (Ly rfl (yl 0 Ty.pl_33 st rfl) (Lm rfl ?_)))))
          obtain ⟨gi2, bi2, egi2⟩ := (st.k (i := 0) rfl).addr (fun _ => rfl) (by decide) (q := s5) (by omega) (by omega)
          subst egi2
          refine Ly rfl (y_ixa (q := s5) rfl rfl rfl Ty.es_33 (by omega) (by omega)) ?_
          refine Ly rfl (y_ldk (q := s5) rfl rfl Ty.ag_114 (fun _ e => e ▸ st.k (i := 0) rfl) (fun _ => rfl) (by omega) (by omega)) ?_
          refine La rfl (Sal Ty.zc_114 st hF rfl fun g2 w10 (st : St _ _ [_, _] _) hF hg2 => La rfl (Ssw 1 Ty.sz_114 st hF (.inr hg2) rfl fun w11 (st : St _ _ [_, _] _) hF => Ln k22 (sq fun _ k23 => ?_)))
          refine use_out k23 (fun E W => E = [(1, .pointer (some ⟨g1, 0, none⟩)), (5, .int .i64 s5), (85, .bool (r13check_c2 s s3 s4 s5))] ∧ St X W (hOf st) (kOf st) ∧ Fr ([]) w W) ?_ fun hout6 => ?_
          · rintro E w12 ⟨rfl, st, hF⟩
            have st : St X w12 [_, _] [_, _] := st
            refine cB rfl (fun hc5 => ?_) (fun hc5 => ?_)
            · have jhc5 := (r13check_c2_iff s s3 s4 s5).1 hc5
              refine sq fun _ k24 => rg (Ls' rfl (Ln k24 (wR (Ib_r (Th_r (Th_r (Ib_r (Th_r (fR (Res1 rfl rfl) ?_)))))))))
              have hret2 : r13check_L3 s s3 s4 (((s.puts.length : Int) - (0 : Int)).toNat + 1) (0 : Int) = .inl 3 := by rewrite [← hL3, r13check_L3]; rewrite [iP hc4, iP hc5]; rfl
              have he4 : r13check_m s = 3 := by unfold r13check_m; rewrite [iN hc1, hLk1]; (try dsimp only); all_goals rewrite [hLk2]; (try dsimp only); all_goals rewrite [hret2]; (try dsimp only); all_goals rfl
              rewrite [he4]
              exact ⟨rfl, hF⟩
            have jhc5 := mt (r13check_c2_iff s s3 s4 s5).2 hc5
            refine Wp_skip (Ib_n (Th_n (k21 _ _ (rg (Lm rfl (Ly rfl (y_add (c := s5 + 1) rfl rfl rfl (wf_i64 (by omega))) ?_))))))
            refine Ls' rfl (Ls_nil (Th_n (?_)))
            exact ⟨fuel, [(1, _), (5, _)], Nat.lt_succ_self _, ⟨rfl, rfl, trivial⟩, (s5 + 1), rfl, ⟨by rewrite [← hL3, r13check_L3]; rewrite [iP hc4, iN hc5]; rfl, by omega⟩, by omega, (st.pk [0] (by decide)).pickK [0, 1], hF⟩
          refine Wp_plan (fun W => St X W (pickL (hOf st) [0, 1]) (kOf st)) [(true, 0), (false, 1), (true, 2), (true, 3), (true, 4), (true, 5), (true, 6), (true, 7), (false, 8), (true, 9), (true, 10), (true, 11), (true, 12), (true, 13), (true, 14), (true, 15), (true, 16), (true, 17), (true, 18), (true, 19), (true, 20), (true, 21), (true, 22), (false, 23), (true, 24), (true, 25), (true, 26)] Ty.mx_0 (by kernel_rfl) (by kernel_rfl) rfl ((st.pk [0, 1] (by decide)).drew) ?_
          have st := st.drew
          have hF := hF.step0 (Fr.drew _)
          refine Py rfl (y_loadw (i := 1) rfl rfl Ty.ag_114 (fun _ h => h.hp) rfl rfl) (Pl_a rfl (wtd0 rfl) (by rfl) ?_)
          refine Scl st hF rfl (r13fits_ok _ (ix s.puts s5)) fun w13 st hF => ?_
          refine ⟨(st.pk [0, 1] (by decide)).tK 2, ?_⟩
          refine Py rfl (yn rfl) (Pm rfl (Pl_bool 62 rfl (fun hc6 => ?_) (fun hc6 => ?_)))
          · have hc6 := bF (nT hc6)
            refine Pl_s rfl (wtdF rfl rfl rfl) rfl rfl (Pl_s rfl (wtdF rfl rfl rfl) rfl rfl (Pl_s rfl (wtdF rfl rfl rfl) rfl rfl (Pl_s rfl (wtdF rfl rfl rfl) rfl rfl (Pl_s rfl (wtdF rfl rfl rfl) rfl rfl (Py rfl (yT rfl) (Pm rfl (Pl_s rfl (wtdF rfl rfl rfl) rfl rfl (Pl_s rfl (wtdF rfl rfl rfl) rfl rfl (Pl_s rfl (wtdF rfl rfl rfl) rfl rfl (Pl_s rfl (wtdU rfl rfl rfl) rfl rfl (Pl_s rfl (wtdU rfl rfl rfl) rfl rfl (Pl_s rfl (wtdU rfl rfl rfl) rfl rfl (Pl_s rfl (wtdU rfl rfl rfl) rfl rfl (Pl_s rfl (wtdU rfl rfl rfl) rfl rfl (Pl_s rfl (wtdU rfl rfl rfl) rfl rfl (Pl_s rfl (wtdU rfl rfl rfl) rfl rfl (Pl_s rfl (wtdU rfl rfl rfl) rfl rfl (Pl_s rfl (wtdU rfl rfl rfl) rfl rfl (Pl_s rfl (wtdU rfl rfl rfl) rfl rfl (Pl_s rfl (wtdU rfl rfl rfl) rfl rfl (Pl_s rfl (wtdF rfl rfl rfl) rfl rfl (Py rfl (yT rfl) (Pl_nil (Th_n (?_)))))))))))))))))))))))))
            exact hout6 _ [(1, _), (5, _), (85, _)] _ ⟨rfl, rfl, rfl, trivial⟩ ⟨by unfold r13check_c2; rewrite [iN hc6]; rfl, (st.pk [0, 1] (by decide)).pickK [0, 1], hF⟩
          have hc6 := (nF hc6)
          refine Pl_y rfl (wtdT rfl rfl rfl) rfl rfl (yf rfl Ty.fo_35_1) (Pl_y rfl (wtdT rfl rfl rfl) rfl rfl (y_load (i := 0) rfl rfl Ty.pl_30 (fun _ h => h.hp) rfl rfl) (Pl_y rfl (wtdT rfl rfl rfl) rfl rfl (yf rfl Ty.fo_114_0) (Pl_y rfl (wtdT rfl rfl rfl) rfl rfl (y_loadm (i := 1) rfl rfl Ty.ag_41 (fun _ h => h.hp) rfl rfl rfl) (Pl_a rfl (wtdT rfl rfl rfl) (by rfl) ?_))))
          refine Scl st hF rfl (r12hasTag_ok (keys (hOf st) ++ X) _ st.Lo s.gone A1 C1 ((ix s.puts s5).tag) (st.q 1 rfl)) fun w14 st hF => ?_
          refine ⟨(st.pk [0, 1] (by decide)).tK 2, ?_⟩
          refine Py rfl (yF rfl) (Pm rfl (Pl_bool 69 rfl (fun hc7 => ?_) (fun hc7 => ?_)))
          · refine Pl_s rfl (wtdF rfl rfl rfl) rfl rfl (Pl_s rfl (wtdF rfl rfl rfl) rfl rfl (Pl_s rfl (wtdF rfl rfl rfl) rfl rfl (Pl_s rfl (wtdU rfl rfl rfl) rfl rfl (Pl_s rfl (wtdU rfl rfl rfl) rfl rfl (Pl_s rfl (wtdU rfl rfl rfl) rfl rfl (Pl_s rfl (wtdU rfl rfl rfl) rfl rfl (Pl_s rfl (wtdU rfl rfl rfl) rfl rfl (Pl_s rfl (wtdU rfl rfl rfl) rfl rfl (Pl_s rfl (wtdU rfl rfl rfl) rfl rfl (Pl_s rfl (wtdU rfl rfl rfl) rfl rfl (Pl_s rfl (wtdU rfl rfl rfl) rfl rfl (Pl_s rfl (wtdU rfl rfl rfl) rfl rfl (Pl_s rfl (wtdU rfl rfl rfl) rfl rfl (Pl_s rfl (wtdF rfl rfl rfl) rfl rfl (Py rfl (yT rfl) (Pl_nil (Th_n (?_))))))))))))))))))
            exact hout6 _ [(1, _), (5, _), (85, _)] _ ⟨rfl, rfl, rfl, trivial⟩ ⟨by unfold r13check_c2; rewrite [iP hc6, iP hc7]; rfl, (st.pk [0, 1] (by decide)).pickK [0, 1], hF⟩
          have hc7 := bF hc7
          refine Pl_y rfl (wtdT rfl rfl rfl) rfl rfl (y_move rfl rfl) (Pl_y rfl (wtdT rfl rfl rfl) rfl rfl (ygt rfl) (Pl_y rfl (wtdT rfl rfl rfl) rfl rfl (y_move rfl rfl) (Pl_bool 72 rfl (fun hc8 => ?_) (fun hc8 => ?_))))
          · have hc8 := dT hc8
            refine Pl_y rfl (wtdT rfl rfl rfl) rfl rfl (yf rfl Ty.fo_35_0) (Pl_y rfl (wtdT rfl rfl rfl) rfl rfl (y_load (i := 0) rfl rfl Ty.pl_33 (fun _ h => h.hp) rfl rfl) (Pl_y rfl (wtdT rfl rfl rfl) rfl rfl (y_move rfl rfl) (Pl_y rfl (wtdT rfl rfl rfl) rfl rfl (y_sub (c := s5 - 1) rfl rfl rfl (wf_i64 (by omega))) ?_)))
            refine Pl_y rfl (wtdT rfl rfl rfl) rfl rfl (y_ixa (q := s5 - 1) rfl rfl rfl Ty.es_33 (by omega) (by omega)) ?_
            refine Pl_y rfl (wtdT rfl rfl rfl) rfl rfl (yf rfl Ty.fo_114_0) (Pl_y rfl (wtdT rfl rfl rfl) rfl rfl (y_ldkm (q := s5 - 1) 0 rfl rfl Ty.ag_41 (fun _ h => h.k (i := 0) rfl) (fun _ => rfl) (by omega) (by omega) rfl rfl) ?_)
            refine Pl_y rfl (wtdT rfl rfl rfl) rfl rfl (yf rfl Ty.fo_114_0) (Pl_y rfl (wtdT rfl rfl rfl) rfl rfl (y_loadm (i := 1) rfl rfl Ty.ag_41 (fun _ h => h.hp) rfl rfl rfl) (Pl_a rfl (wtdT rfl rfl rfl) (by rfl) ?_))
            refine Scl st hF rfl (r5compareTag_ok _ ((ix s.puts (s5 - 1)).tag) ((ix s.puts s5).tag)) fun w15 st hF => ?_
            refine ⟨(st.pk [0, 1] (by decide)).tK 2, ?_⟩
            refine Pl_y rfl (wtdT rfl rfl rfl) rfl rfl (yge rfl) (Pl_y rfl (wtdT rfl rfl rfl) rfl rfl (yT rfl) (Py rfl (yF rfl) (Pl_nil (Th_n (?_)))))
            exact hout6 _ [(1, _), (5, _), (85, _)] _ ⟨rfl, rfl, rfl, trivial⟩ ⟨by unfold r13check_c2; rewrite [iP hc6, iN hc7, iP hc8]; rfl, (st.pk [0, 1] (by decide)).pickK [0, 1], hF⟩
          have hc8 := dF hc8
          refine Pl_s rfl (wtdF rfl rfl rfl) rfl rfl (Pl_s rfl (wtdF rfl rfl rfl) rfl rfl (Pl_s rfl (wtdF rfl rfl rfl) rfl rfl (Pl_s rfl (wtdF rfl rfl rfl) rfl rfl (Pl_s rfl (wtdF rfl rfl rfl) rfl rfl (Pl_s rfl (wtdF rfl rfl rfl) rfl rfl (Pl_s rfl (wtdF rfl rfl rfl) rfl rfl (Pl_s rfl (wtdF rfl rfl rfl) rfl rfl (Pl_s rfl (wtdF rfl rfl rfl) rfl rfl (Pl_s rfl (wtdF rfl rfl rfl) rfl rfl (Pl_s rfl (wtdF rfl rfl rfl) rfl rfl (Pl_y rfl (wtdT rfl rfl rfl) rfl rfl (yF rfl) (Py rfl (yF rfl) (Pl_nil (Th_n (?_)))))))))))))))
          exact hout6 _ [(1, _), (5, _), (85, _)] _ ⟨rfl, rfl, rfl, trivial⟩ ⟨by unfold r13check_c2; rewrite [iP hc6, iN hc7, iN hc8]; rfl, (st.pk [0, 1] (by decide)).pickK [0, 1], hF⟩
        refine Wp_exit (Th_e (Th_e (Ib_hit (Th_n (?_)))))
        exact hout4 _ [(1, _), (5, _)] _ ⟨rfl, rfl, trivial⟩ ⟨s5, rfl, show _ = _ from by rewrite [← hL3, r13check_L3]; rewrite [iN hc4]; rfl, by omega, (st.pk [0] (by decide)).pickK [0, 1], hF⟩
      rintro m E w16 ⟨s4, rfl, ⟨hL2, hmu⟩, hinv, st, hF⟩
      obtain ⟨fuel, rfl⟩ : ∃ q, m = q + 1 := ⟨m - 1, by omega⟩
      refine sq fun _ k25 => sq fun _ k26 => rg (Lm rfl (Ly rfl (yf rfl Ty.fo_35_1) (Ly rfl (yl 0 Ty.pl_30 st rfl) (Ly rfl (yll rfl Tryz.underlying30) (Ly rfl (ylt rfl) (Ln k26 (cD rfl (fun hc9 => ?_) (fun hc9 => ?_))))))))
      · refine sk k25 (sq fun _ k27 => Wp_block (sq fun _ k28 => rg (Ly rfl (yf rfl Ty.fo_35_1) (Ly rfl (yl 0 Ty.pl_30 st rfl) (Lm rfl ?_)))))
        obtain ⟨gi3, bi3, egi3⟩ := (st.k (i := 1) rfl).addr (fun _ => rfl) (by decide) (q := s4) (by omega) (by omega)
        subst egi3
        refine Ly rfl (y_ixa (q := s4) rfl rfl rfl Ty.es_30 (by omega) (by omega)) ?_
        refine Ly rfl (y_ldk (q := s4) rfl rfl Ty.ag_41 (fun _ e => e ▸ st.k (i := 1) rfl) (fun _ => rfl) (by omega) (by omega)) ?_
        refine La rfl (Scl st hF rfl (r5checkTag_ok _ (ix s.gone s4)) fun w17 st hF => Ly rfl (yne rfl) (Ln k28 (cN rfl (fun hc10 => ?_) (fun hc10 => ?_))))
        · refine sq fun _ k29 => rg (Ls' rfl (Ln k29 (wR (Ib_r (Th_r (Th_r (Ib_r (Th_r (fR (Res1 rfl rfl) ?_)))))))))
          have hret3 : r13check_L2 s s3 (((s.gone.length : Int) - (0 : Int)).toNat + 1) (0 : Int) = .inl 2 := by rewrite [← hL2, r13check_L2]; rewrite [iP hc9, iN hc10]; rfl
          have he5 : r13check_m s = 2 := by unfold r13check_m; rewrite [iN hc1, hLk1]; (try dsimp only); all_goals rewrite [hret3]; (try dsimp only); all_goals rfl
          rewrite [he5]
          exact ⟨rfl, hF⟩
        refine Wp_skip (Ib_n (Th_n (k27 _ _ (rg (Lm rfl (Ly rfl (y_add (c := s4 + 1) rfl rfl rfl (wf_i64 (by omega))) ?_))))))
        refine Ls' rfl (Ls_nil (Th_n (?_)))
        exact ⟨fuel, [(1, _), (4, _)], Nat.lt_succ_self _, ⟨rfl, rfl, trivial⟩, (s4 + 1), rfl, ⟨by rewrite [← hL2, r13check_L2]; rewrite [iP hc9, iP hc10]; rfl, by omega⟩, by omega, (st.pk [0] (by decide)).pickK [0, 1], hF⟩
      refine Wp_exit (Th_e (Th_e (Ib_hit (Th_n (?_)))))
      exact hout3 _ [(1, _), (4, _)] _ ⟨rfl, rfl, trivial⟩ ⟨s4, rfl, show _ = _ from by rewrite [← hL2, r13check_L2]; rewrite [iN hc9]; rfl, by omega, (st.pk [0] (by decide)).pickK [0, 1], hF⟩
    rintro m E w18 ⟨s3, rfl, ⟨hL1, hmu⟩, hinv, st, hF⟩
    obtain ⟨fuel, rfl⟩ : ∃ q, m = q + 1 := ⟨m - 1, by omega⟩
    refine sq fun _ k30 => sq fun _ k31 => rg (Lm rfl (Ly rfl (yf rfl Ty.fo_35_0) (Ly rfl (yl 0 Ty.pl_33 st rfl) (Ly rfl (yll rfl Tryz.underlying33) (Ly rfl (ylt rfl) (Ln k31 (cD rfl (fun hc11 => ?_) (fun hc11 => ?_))))))))
    · refine sk k30 (sq fun _ k32 => Wp_block (sq fun _ k33 => rg (Ly rfl (yf rfl Ty.fo_35_0) (Ly rfl (yl 0 Ty.pl_33 st rfl) (Lm rfl ?_)))))
      obtain ⟨gi4, bi4, egi4⟩ := (st.k (i := 0) rfl).addr (fun _ => rfl) (by decide) (q := s3) (by omega) (by omega)
      subst egi4
      refine Ly rfl (y_ixa (q := s3) rfl rfl rfl Ty.es_33 (by omega) (by omega)) ?_
      refine Ly rfl (yf rfl Ty.fo_114_0) (Ly rfl (y_ldkm (q := s3) 0 rfl rfl Ty.ag_41 (fun _ e => e ▸ st.k (i := 0) rfl) (fun _ => rfl) (by omega) (by omega) rfl rfl) ?_)
      refine La rfl (Scl st hF rfl (r5checkTag_ok _ ((ix s.puts s3).tag)) fun w19 st hF => Ly rfl (yne rfl) (Ln k33 (cN rfl (fun hc12 => ?_) (fun hc12 => ?_))))
      · refine sq fun _ k34 => rg (Ls' rfl (Ln k34 (wR (Ib_r (Th_r (Th_r (Ib_r (Th_r (fR (Res1 rfl rfl) ?_)))))))))
        have hret4 : r13check_L1 s (((s.puts.length : Int) - (0 : Int)).toNat + 1) (0 : Int) = .inl 2 := by rewrite [← hL1, r13check_L1]; rewrite [iP hc11, iN hc12]; rfl
        have he6 : r13check_m s = 2 := by unfold r13check_m; rewrite [iN hc1, hret4]; (try dsimp only); all_goals rfl
        rewrite [he6]
        exact ⟨rfl, hF⟩
      refine Wp_skip (Ib_n (Th_n (k32 _ _ (rg (Lm rfl (Ly rfl (y_add (c := s3 + 1) rfl rfl rfl (wf_i64 (by omega))) ?_))))))
      refine Ls' rfl (Ls_nil (Th_n (?_)))
      exact ⟨fuel, [(1, _), (3, _)], Nat.lt_succ_self _, ⟨rfl, rfl, trivial⟩, (s3 + 1), rfl, ⟨by rewrite [← hL1, r13check_L1]; rewrite [iP hc11, iP hc12]; rfl, by omega⟩, by omega, (st.pk [0] (by decide)).pickK [0, 1], hF⟩
    refine Wp_exit (Th_e (Th_e (Ib_hit (Th_n (?_)))))
    exact hout2 _ [(1, _), (3, _)] _ ⟨rfl, rfl, trivial⟩ ⟨s3, rfl, show _ = _ from by rewrite [← hL1, r13check_L1]; rewrite [iN hc11]; rfl, by omega, (st.pk [0] (by decide)).pickK [0, 1], hF⟩
  refine rg (Ly rfl (yf rfl Ty.fo_35_0) (Ly rfl (yl 0 Ty.pl_33 st rfl) (Ly rfl (yll rfl Tryz.underlying33) (Ly rfl (ygt rfl) (Lm rfl (bD (s := 12) rfl (fun hc13 => ?_) (fun hc13 => ?_)))))))
  · refine LsF rfl (LsF rfl (LsF rfl (LsF rfl (Ly rfl (yT rfl) (Ls_nil (Th_n (?_)))))))
    exact hout1 _ [(1, _), (17, _)] _ ⟨rfl, rfl, trivial⟩ ⟨by unfold r13check_c1; rewrite [iP hc13]; rfl, (st.pk [0] (by decide)).pickK [0, 1], hF⟩
  refine LyT rfl (yf rfl Ty.fo_35_1) (LyT rfl (yl 0 Ty.pl_30 st rfl) (LyT rfl (yll rfl Tryz.underlying30) (LyT rfl (ygt rfl) (Ly rfl (yF rfl) (Ls_nil (Th_n (?_)))))))
  exact hout1 _ [(1, _), (17, _)] _ ⟨rfl, rfl, trivial⟩ ⟨by unfold r13check_c1; rewrite [iN hc13]; rfl, (st.pk [0] (by decide)).pickK [0, 1], hF⟩
theorem eqv_114r (a0 : Int) (a1 : Int) (a2 : Int) (a3 : List UInt8) (a4 : Int) (a5 : Int) (a6 : Int) (b0 : Int) (b1 : Int) (b2 : Int) (b3 : List UInt8) (b4 : Int) (b5 : Int) (b6 : Int) : eqVals Tryz.prog 8 114 [.int .i64 a0, .int .u32 a1, .int .i64 a2, sv a3, .int .i64 a4, .int .u32 a5, .int .i64 a6] [.int .i64 b0, .int .u32 b1, .int .i64 b2, sv b3, .int .i64 b4, .int .u32 b5, .int .i64 b6] = some ((((a0 == b0) && ((a1 == b1) && true)) && ((a2 == b2) && true)) && ((a3 == b3) && ((a4 == b4) && (((a5 == b5) && ((a6 == b6) && true)) && true)))) := by kernel_rfl
theorem eqv_114 (x y : PutM) : eqVals Tryz.prog 8 114 (putMC x) (putMC y) = some (decide (x = y)) := by
  obtain ⟨⟨⟨a0, a1⟩, a2⟩, a3, a4, ⟨a5, a6⟩⟩ := x
  obtain ⟨⟨⟨b0, b1⟩, b2⟩, b3, b4, ⟨b5, b6⟩⟩ := y
  refine (eqv_114r a0 a1 a2 a3 a4 a5 a6 b0 b1 b2 b3 b4 b5 b6).trans (congrArg some ?_)
  rw [Bool.eq_iff_iff]
  simp
def r13same_c1 (a : MapM) (b : MapM) : Bool :=
  (if (a.puts.length : Int) = (b.puts.length : Int) then !(sameTags_m a.gone b.gone) else true)
def r13same_L1 (a : MapM) (b : MapM) : Nat → Int → (Bool) ⊕ (Int)
  | 0, s5 => .inr (s5)
  | fuel + 1, s5 =>
    if s5 < (a.puts.length : Int) then
      if ix a.puts s5 = ix b.puts s5 then
        r13same_L1 a b fuel (s5 + 1)
      else
        .inl false
    else
      .inr (s5)
def r13same_m (a : MapM) (b : MapM) : Bool :=
  if (r13same_c1 a b) = true then
    false
  else
    match r13same_L1 a b (((a.puts.length : Int) - (0 : Int)).toNat + 1) (0 : Int) with
    | .inl r => r
    | .inr (s5) =>
      true
theorem r13same_c1_iff (a : MapM) (b : MapM) : (r13same_c1 a b = true) ↔ (¬ ((a.puts.length : Int) = (b.puts.length : Int)) ∨ (¬ ((sameTags_m a.gone b.gone) = true))) := by
  unfold r13same_c1; exact (ci4 (by simp))
theorem r13same_ok (X : List Nat) (w : World) (hX : Lo X w) (a : MapM) (A2 : Option Addr) (C2 : Nat) (A1 : Option Addr) (C1 : Nat) (b : MapM) (A4 : Option Addr) (C4 : Nat) (A3 : Option Addr) (C3 : Nat) (z6 : Sld X w A2 a.puts.length C2 7 (a.puts.flatMap putMC)) (z5 : Sld X w A1 a.gone.length C1 3 (a.gone.flatMap tagMC)) (z8 : Sld X w A4 b.puts.length C4 7 (b.puts.flatMap putMC)) (z7 : Sld X w A3 b.gone.length C3 3 (b.gone.flatMap tagMC)) :
    Fn Tryz.prog 45 [.agg #[.slice A2 a.puts.length C2, .slice A1 a.gone.length C1], .agg #[.slice A4 b.puts.length C4, .slice A3 b.gone.length C3]] w fun v w' => v = .bool (r13same_m a b) ∧ Fr [] w w' := by
  refine Fn_of 39 Ty.en_45 Tryz.func45 rfl rfl rfl ?_
  dsimp only [argEnv]
  have st := stn4 hX z6 z5 z8 z7
  have hF := Fr.refl ([]) w
  have z2 := (st.q 0 rfl).le
  have z1 := (st.q 1 rfl).le
  have z4 := (st.q 2 rfl).le
  have z3 := (st.q 3 rfl).le
  refine sq fun _ k1 => rg (La rfl (Sbx st hF rfl fun g1 w1 (st : St _ _ [_] _) hF hg1 => La rfl (Sbx st hF rfl fun g2 w2 (st : St _ _ [_, _] _) hF hg2 => Ls' rfl (Ln k1 (sq fun _ k2 => sq fun _ k3 => ?_)))))
  refine use_out k3 (fun E W => E = [(2, .pointer (some ⟨g1, 0, none⟩)), (3, .pointer (some ⟨g2, 0, none⟩)), (20, .bool (r13same_c1 a b))] ∧ St X W (hOf st) (kOf st) ∧ Fr ([]) w W) ?_ fun hout1 => ?_
  · rintro E w3 ⟨rfl, st, hF⟩
    have st : St X w3 [_, _] [_, _, _, _] := st
    refine cB rfl (fun hc1 => ?_) (fun hc1 => ?_)
    · have jhc1 := (r13same_c1_iff a b).1 hc1
      refine sq fun _ k4 => rg (Ls' rfl (Ln k4 (wR (Th_r (fR (Res1 rfl rfl) ?_)))))
      unfold r13same_m; rewrite [iP hc1]
      exact ⟨rfl, hF⟩
    have jhc1 := mt (r13same_c1_iff a b).2 hc1
    refine sk k2 (sq fun _ k5 => sq fun _ k6 => rg (Ls' rfl (Ln k6 (Wp_block (lp (fun q E W => ∃ (s5 : Int), E = [(2, .pointer (some ⟨g1, 0, none⟩)), (3, .pointer (some ⟨g2, 0, none⟩)), (5, .int .i64 s5)] ∧ jq q (fun m => (r13same_L1 a b m s5 = r13same_L1 a b (((a.puts.length : Int) - (0 : Int)).toNat + 1) (0 : Int) ∧ ((a.puts.length : Int) - s5).toNat < m)) (r13same_L1 a b (((a.puts.length : Int) - (0 : Int)).toNat + 1) (0 : Int) = .inr (s5)) ∧ (0 ≤ s5) ∧ St X W [(some g1, Cl [.slice A2 a.puts.length C2, .slice A1 a.gone.length C1] 35), (some g2, Cl [.slice A4 b.puts.length C4, .slice A3 b.gone.length C3] 35)] [kS A2 a.puts.length C2 7 (a.puts.flatMap putMC), kS A1 a.gone.length C1 3 (a.gone.flatMap tagMC), kS A4 b.puts.length C4 7 (b.puts.flatMap putMC), kS A3 b.gone.length C3 3 (b.gone.flatMap tagMC)] ∧ Fr ([]) w W) (((a.puts.length : Int) - (0 : Int)).toNat + 1) [(2, _), (3, _), (5, _)] ⟨rfl, rfl, rfl, trivial⟩ ⟨_, rfl, ⟨rfl, Nat.lt_succ_self _⟩, by omega, st, hF⟩ k5 ?_ fun hout2 => ?_)))))
    · rintro E w4 ⟨s5, rfl, hLk1, hinv, st, hF⟩
      unfold jq at hLk1; dsimp only at hLk1
      refine sq fun _ k7 => rg (Ls' rfl (Ln k7 (wR (fR (Res1 rfl rfl) ?_))))
      unfold r13same_m; rewrite [iN hc1, hLk1]; (try dsimp only)
      exact ⟨rfl, hF⟩
    rintro m E w5 ⟨s5, rfl, ⟨hL1, hmu⟩, hinv, st, hF⟩
    obtain ⟨fuel, rfl⟩ : ∃ q, m = q + 1 := ⟨m - 1, by omega⟩
    refine sq fun _ k8 => sq fun _ k9 => rg (Lm rfl (Ly rfl (yf rfl Ty.fo_35_0) (Ly rfl (yl 0 Ty.pl_33 st rfl) (Ly rfl (yll rfl Tryz.underlying33) (Ly rfl (ylt rfl) (Ln k9 (cD rfl (fun hc2 => ?_) (fun hc2 => ?_))))))))
    · refine sk k8 (sq fun _ k10 => Wp_block (sq fun _ k11 => ?_))
      refine Wp_plan (fun W => St X W (pickL (hOf st) [0, 1]) (kOf st)) [(true, 0), (true, 1), (true, 2), (true, 3), (true, 4), (true, 5), (true, 6), (true, 7), (true, 8), (true, 9), (true, 10)] Ty.mx_0 (by kernel_rfl) (by kernel_rfl) rfl ((st.pk [0, 1] (by decide)).drew) ?_
      have st := st.drew
      have hF := hF.step0 (Fr.drew _)
      refine Py rfl (yf rfl Ty.fo_35_0) (Py rfl (y_load (i := 0) rfl rfl Ty.pl_33 (fun _ h => h.hp) rfl rfl) (Pm rfl ?_))
      obtain ⟨gi1, bi1, egi1⟩ := (st.k (i := 0) rfl).addr (fun _ => rfl) (by decide) (q := s5) (by omega) (by omega)
      subst egi1
      refine Py rfl (y_ixa (q := s5) rfl rfl rfl Ty.es_33 (by omega) (by omega)) ?_
      refine Py rfl (y_ldk (q := s5) rfl rfl Ty.ag_114 (fun _ h => h.k (i := 0) rfl) (fun _ => rfl) (by omega) (by omega)) ?_
      refine Py rfl (yf rfl Ty.fo_35_0) (Py rfl (y_load (i := 1) rfl rfl Ty.pl_33 (fun _ h => h.hp) rfl rfl) (Pm rfl ?_))
      obtain ⟨gi2, bi2, egi2⟩ := (st.k (i := 2) rfl).addr (fun _ => rfl) (by decide) (q := s5) (by omega) (by omega)
      subst egi2
      refine Py rfl (y_ixa (q := s5) rfl rfl rfl Ty.es_33 (by omega) (by omega)) ?_
      refine Py rfl (y_ldk (q := s5) rfl rfl Ty.ag_114 (fun _ h => h.k (i := 2) rfl) (fun _ => rfl) (by omega) (by omega)) ?_
      refine Py rfl (y_nev (b := decide (ix a.puts s5 = ix b.puts s5)) rfl rfl rfl Ty.eg_114 (by rw [Ty.ag_114]; simp) (eqv_114 (ix a.puts s5) (ix b.puts s5))) ?_
      refine Pl_nil (Th_n (k11 _ _ (cDn rfl (fun hc3 => ?_) (fun hc3 => ?_))))
      · refine sq fun _ k12 => rg (Ls' rfl (Ln k12 (wR (Ib_r (Th_r (Th_r (Ib_r (Th_r (fR (Res1 rfl rfl) ?_)))))))))
        have hret1 : r13same_L1 a b (((a.puts.length : Int) - (0 : Int)).toNat + 1) (0 : Int) = .inl false := by rewrite [← hL1, r13same_L1]; rewrite [iP hc2, iN hc3]; rfl
        have he3 : r13same_m a b = false := by unfold r13same_m; rewrite [iN hc1, hret1]; (try dsimp only); all_goals rfl
        rewrite [he3]
        exact ⟨rfl, hF⟩
      refine Wp_skip (Ib_n (Th_n (k10 _ _ (rg (Lm rfl (Ly rfl (y_add (c := s5 + 1) rfl rfl rfl (wf_i64 (by first | omega | (simp; done) | (simp; omega)))) ?_))))))
      refine Ls' rfl (Ls_nil (Th_n (?_)))
      exact ⟨fuel, [(2, _), (3, _), (5, _)], Nat.lt_succ_self _, ⟨rfl, rfl, rfl, trivial⟩, (s5 + 1), rfl, ⟨by rewrite [← hL1, r13same_L1]; rewrite [iP hc2, iP hc3]; rfl, by omega⟩, by omega, (st.pk [0, 1] (by decide)).pickK [0, 1, 2, 3], hF⟩
    refine Wp_exit (Th_e (Th_e (Ib_hit (Th_n (?_)))))
    exact hout2 _ [(2, _), (3, _), (5, _)] _ ⟨rfl, rfl, rfl, trivial⟩ ⟨s5, rfl, show _ = _ from by rewrite [← hL1, r13same_L1]; rewrite [iN hc2]; rfl, by omega, (st.pk [0, 1] (by decide)).pickK [0, 1, 2, 3], hF⟩
  refine rg (Ly rfl (yf rfl Ty.fo_35_0) (Ly rfl (yl 0 Ty.pl_33 st rfl) (Ly rfl (yll rfl Tryz.underlying33) (Ly rfl (yf rfl Ty.fo_35_0) (Ly rfl (yl 1 Ty.pl_33 st rfl) (Ly rfl (yll rfl Tryz.underlying33) (Ly rfl (yne rfl) (Lm rfl (bN (s := 13) rfl (fun hc4 => ?_) (fun hc4 => ?_))))))))))
  · refine LsF rfl (LsF rfl (LsF rfl (LsF rfl (LsF rfl (LsF rfl (Ly rfl (yT rfl) (Ls_nil (Th_n (?_)))))))))
    exact hout1 _ [(2, _), (3, _), (20, _)] _ ⟨rfl, rfl, rfl, trivial⟩ ⟨by unfold r13same_c1; rewrite [iN hc4]; rfl, (st.pk [0, 1] (by decide)).pickK [0, 1, 2, 3], hF⟩
  refine LyT rfl (yf rfl Ty.fo_35_1) (LyT rfl (yl 0 Ty.pl_30 st rfl) (LyT rfl (yf rfl Ty.fo_35_1) (LyT rfl (yl 1 Ty.pl_30 st rfl) (LaT rfl (Scl st hF rfl (sameTags_ok (keys (hOf st) ++ X) _ st.Lo a.gone A1 C1 b.gone A3 C3 (st.q 1 rfl) (st.q 3 rfl)) fun w6 st hF => LyT rfl (yn rfl) (Ly rfl (yF rfl) (Ls_nil (Th_n (?_)))))))))
  exact hout1 _ [(2, _), (3, _), (20, _)] _ ⟨rfl, rfl, rfl, trivial⟩ ⟨by unfold r13same_c1; rewrite [iP hc4]; rfl, (st.pk [0, 1] (by decide)).pickK [0, 1, 2, 3], hF⟩
def r14kind_m (act : Int) : Int :=
  if act = 1 then
    1
  else
    if act = 2 then
      2
    else
      if act = 3 then
        3
      else
        if act = 4 then
          3
        else
          if act = 5 then
            4
          else
            if act = 6 then
              4
            else
              0
theorem r14kind_ok (w : World) (act : Int) :
    Fn Tryz.prog 33 [.int .i64 act] w fun v w' => v = .int .i64 (r14kind_m act) ∧ Fr [] w w' := by
  refine Fn_of 14 Ty.en_33 Tryz.func33 rfl rfl rfl ?_
  dsimp only [argEnv]
  have st := stn0 (X := []) (w := w) (by simp [Lo])
  have hF := Fr.refl ([]) w
  refine sq fun _ k1 => rg (Ls' rfl (Ln k1 (sq fun _ k2 => sq fun _ k3 => rg (Lm rfl (Ln k3 (Wp_block (sq fun _ k4 => rg (Ly rfl (yeq rfl) (Ls' rfl (Ln k4 (cE rfl (fun hc1 => ?_) (fun hc1 => ?_))))))))))))
  · refine sq fun _ k5 => rg (Ls' rfl (Ln k5 (wR (Ib_r (Th_r (fR (Res1 rfl rfl) ?_))))))
    unfold r14kind_m; rewrite [iP hc1]
    exact ⟨rfl, hF⟩
  refine sq fun _ k6 => rg (Ly rfl (yeq rfl) (Ls' rfl (Ln k6 (cE rfl (fun hc2 => ?_) (fun hc2 => ?_)))))
  · refine sq fun _ k7 => rg (Ls' rfl (Ln k7 (wR (Ib_r (Th_r (fR (Res1 rfl rfl) ?_))))))
    unfold r14kind_m; rewrite [iN hc1, iP hc2]
    exact ⟨rfl, hF⟩
  refine sq fun _ k8 => sq fun _ k9 => rg (Ly rfl (yeq rfl) (Ls' rfl (Ln k9 (cE rfl (fun hc3 => ?_) (fun hc3 => ?_)))))
  · refine sk k8 (Wp_cond rfl (fun _ => ?_) (fun hc4 => absurd hc4 (by simp [hc3])))
    refine sq fun _ k10 => rg (Ls' rfl (Ln k10 (wR (Ib_r (Th_r (fR (Res1 rfl rfl) ?_))))))
    unfold r14kind_m; rewrite [iN hc1, iN hc2, iP hc3]
    exact ⟨rfl, hF⟩
  refine rg (Ly rfl (yeq rfl) (Ls' rfl (Ln k8 (cE rfl (fun hc5 => ?_) (fun hc5 => ?_)))))
  · refine sq fun _ k11 => rg (Ls' rfl (Ln k11 (wR (Ib_r (Th_r (fR (Res1 rfl rfl) ?_))))))
    unfold r14kind_m; rewrite [iN hc1, iN hc2, iN hc3, iP hc5]
    exact ⟨rfl, hF⟩
  refine sq fun _ k12 => sq fun _ k13 => rg (Ly rfl (yeq rfl) (Ls' rfl (Ln k13 (cE rfl (fun hc6 => ?_) (fun hc6 => ?_)))))
  · refine sk k12 (Wp_cond rfl (fun _ => ?_) (fun hc7 => absurd hc7 (by simp [hc6])))
    refine sq fun _ k14 => rg (Ls' rfl (Ln k14 (wR (Ib_r (Th_r (fR (Res1 rfl rfl) ?_))))))
    unfold r14kind_m; rewrite [iN hc1, iN hc2, iN hc3, iN hc5, iP hc6]
    exact ⟨rfl, hF⟩
  refine rg (Ly rfl (yeq rfl) (Ls' rfl (Ln k12 (cE rfl (fun hc8 => ?_) (fun hc8 => ?_)))))
  · refine sq fun _ k15 => rg (Ls' rfl (Ln k15 (wR (Ib_r (Th_r (fR (Res1 rfl rfl) ?_))))))
    unfold r14kind_m; rewrite [iN hc1, iN hc2, iN hc3, iN hc5, iN hc6, iP hc8]
    exact ⟨rfl, hF⟩
  refine Wp_skip (Ib_n (Th_n (k2 _ _ (sq fun _ k16 => rg (Ls' rfl (Ln k16 (wR (fR (Res1 rfl rfl) ?_))))))))
  unfold r14kind_m; rewrite [iN hc1, iN hc2, iN hc3, iN hc5, iN hc6, iN hc8]
  exact ⟨rfl, hF⟩
def r14timed_m (act : Int) : Bool :=
  if act = 1 then
    true
  else
    act == 5
theorem r14timed_ok (w : World) (act : Int) :
    Fn Tryz.prog 96 [.int .i64 act] w fun v w' => v = .bool (r14timed_m act) ∧ Fr [] w w' := by
  refine Fn_of 9 Ty.en_96 Tryz.func96 rfl rfl rfl ?_
  dsimp only [argEnv]
  have st := stn0 (X := []) (w := w) (by simp [Lo])
  have hF := Fr.refl ([]) w
  refine sq fun _ k1 => rg (Ls' rfl (Ln k1 (sq fun _ k2 => rg (Lm rfl (Ly rfl (yeq rfl) (Lm rfl (bE (s := 5) rfl (fun hc1 => ?_) (fun hc1 => ?_))))))))
  · refine LsF rfl (LsF rfl (Ly rfl (yT rfl) (Ls' rfl (Ln k2 (wR (fR (Res1 rfl rfl) ?_))))))
    unfold r14timed_m; rewrite [iP hc1]
    exact ⟨rfl, hF⟩
  refine LyT rfl (y_move rfl rfl) (LyT rfl (yeq rfl) (Ly rfl (yF rfl) (Ls' rfl (Ln k2 (wR (fR (Res1 rfl rfl) ?_))))))
  unfold r14timed_m; rewrite [iN hc1]
  exact ⟨rfl, hF⟩
structure OpM where
  act : Int
  name : List UInt8
  val : Int
instance : Inhabited OpM := ⟨⟨default, default, default⟩⟩
instance : DecidableEq OpM := fun a b => decidable_of_iff (a.act = b.act ∧ a.name = b.name ∧ a.val = b.val) (by cases a; cases b; simp)
def opMC (x : OpM) : List Value := [.int .i64 x.act, sv x.name, .int .i64 x.val]
def r14checkOp_c1 (o : OpM) : Bool :=
  (if 3 ≤ o.act then (if (r12elem_m o.name) = true then (if o.act < 3 then o.name != [] else false) else true) else (if o.act < 3 then o.name != [] else false))
def r14checkOp_c2 (o : OpM) : Bool :=
  (if o.val = 0 then false else (if o.act = 3 then true else (if o.act = 4 then true else o.act == 6)))
def r14checkOp_c3 (o : OpM) : Bool :=
  (if o.act = 2 then (if o.val < (-1073741824) then true else decide (1073741824 < o.val)) else false)
def r14checkOp_m (o : OpM) : Int :=
  if (r14kind_m o.act) = 0 then
    5
  else
    if (r14checkOp_c1 o) = true then
      3
    else
      if (r14checkOp_c2 o) = true then
        3
      else
        if (r14checkOp_c3 o) = true then
          2
        else
          0
theorem r14checkOp_c1_iff (o : OpM) : (r14checkOp_c1 o = true) ↔ (((3 ≤ o.act) ∧ (¬ ((r12elem_m o.name) = true) ∨ ((o.act < 3) ∧ (¬ (o.name = []))))) ∨ (¬ (3 ≤ o.act) ∧ ((o.act < 3) ∧ (¬ (o.name = []))))) := by
  unfold r14checkOp_c1; exact (ci5 (ci4 (ci2 (by simp))) (ci2 (by simp)))
theorem r14checkOp_c2_iff (o : OpM) : (r14checkOp_c2 o = true) ↔ (¬ (o.val = 0) ∧ ((o.act = 3) ∨ ((o.act = 4) ∨ (o.act = 6)))) := by
  unfold r14checkOp_c2; exact (ci3 (ci1 (ci1 beq_iff_eq)))
theorem r14checkOp_c3_iff (o : OpM) : (r14checkOp_c3 o = true) ↔ ((o.act = 2) ∧ ((o.val < (-1073741824)) ∨ (1073741824 < o.val))) := by
  unfold r14checkOp_c3; exact (ci2 (ci1 decide_eq_true_iff))
theorem r14checkOp_ok (w : World) (o : OpM) :
    Fn Tryz.prog 94 [.agg (opMC o).toArray] w fun v w' => v = .int .i64 (r14checkOp_m o) ∧ Fr [] w w' := by
  refine Fn_of 57 Ty.en_94 Tryz.func94 rfl rfl rfl ?_
  dsimp only [argEnv]
  have st := stn0 (X := []) (w := w) (by simp [Lo])
  have hF := Fr.refl ([]) w
  refine sq fun _ k1 => rg (La rfl (Sbx st hF rfl fun g1 w1 (st : St _ _ [_] _) hF hg1 => Ls' rfl (Ln k1 (sq fun _ k2 => sq fun _ k3 => rg (Ly rfl (yf rfl Ty.fo_178_0) (Ly rfl (yl 0 Ty.pl_3 st rfl) (La rfl (Scl st hF rfl (r14kind_ok _ o.act) fun w2 st hF => Ly rfl (yeq rfl) (Ln k3 (cE rfl (fun hc1 => ?_) (fun hc1 => ?_)))))))))))
  · refine sq fun _ k4 => rg (Ls' rfl (Ln k4 (wR (Th_r (fR (Res1 rfl rfl) ?_)))))
    unfold r14checkOp_m; rewrite [iP hc1]
    exact ⟨rfl, hF⟩
  refine sk k2 (sq fun _ k5 => sq fun _ k6 => ?_)
  refine use_out k6 (fun E W => E = [(1, .pointer (some ⟨g1, 0, none⟩)), (25, .bool (r14checkOp_c1 o))] ∧ St [] W (hOf st) (kOf st) ∧ Fr ([]) w W) ?_ fun hout1 => ?_
  · rintro E w3 ⟨rfl, st, hF⟩
    have st : St [] w3 [_] [] := st
    refine cB rfl (fun hc2 => ?_) (fun hc2 => ?_)
    · have jhc2 := (r14checkOp_c1_iff o).1 hc2
      refine sq fun _ k7 => rg (Ls' rfl (Ln k7 (wR (Th_r (fR (Res1 rfl rfl) ?_)))))
      unfold r14checkOp_m; rewrite [iN hc1, iP hc2]
      exact ⟨rfl, hF⟩
    have jhc2 := mt (r14checkOp_c1_iff o).2 hc2
    refine sk k5 (sq fun _ k8 => sq fun _ k9 => ?_)
    refine use_out k9 (fun E W => E = [(1, .pointer (some ⟨g1, 0, none⟩)), (43, .bool (r14checkOp_c2 o))] ∧ St [] W (hOf st) (kOf st) ∧ Fr ([]) w W) ?_ fun hout2 => ?_
    · rintro E w4 ⟨rfl, st, hF⟩
      have st : St [] w4 [_] [] := st
      refine cB rfl (fun hc3 => ?_) (fun hc3 => ?_)
      · have jhc3 := (r14checkOp_c2_iff o).1 hc3
        refine sq fun _ k10 => rg (Ls' rfl (Ln k10 (wR (Th_r (fR (Res1 rfl rfl) ?_)))))
        unfold r14checkOp_m; rewrite [iN hc1, iN hc2, iP hc3]
        exact ⟨rfl, hF⟩
      have jhc3 := mt (r14checkOp_c2_iff o).2 hc3
      refine sk k8 (sq fun _ k11 => sq fun _ k12 => ?_)
      refine use_out k12 (fun E W => E = [(56, .bool (r14checkOp_c3 o))] ∧ St [] W (hOf st) (kOf st) ∧ Fr ([]) w W) ?_ fun hout3 => ?_
      · rintro E w5 ⟨rfl, st, hF⟩
        have st : St [] w5 [_] [] := st
        refine cB rfl (fun hc4 => ?_) (fun hc4 => ?_)
        · have jhc4 := (r14checkOp_c3_iff o).1 hc4
          refine sq fun _ k13 => rg (Ls' rfl (Ln k13 (wR (Th_r (fR (Res1 rfl rfl) ?_)))))
          unfold r14checkOp_m; rewrite [iN hc1, iN hc2, iN hc3, iP hc4]
          exact ⟨rfl, hF⟩
        have jhc4 := mt (r14checkOp_c3_iff o).2 hc4
        refine sk k11 (sq fun _ k14 => rg (Ls' rfl (Ln k14 (wR (fR (Res1 rfl rfl) ?_)))))
        unfold r14checkOp_m; rewrite [iN hc1, iN hc2, iN hc3, iN hc4]
        exact ⟨rfl, hF⟩
      refine rg (Ly rfl (yf rfl Ty.fo_178_0) (Ly rfl (yl 0 Ty.pl_3 st rfl) (Ly rfl (yeq rfl) (Lm rfl (bE (s := 47) rfl (fun hc5 => ?_) (fun hc5 => ?_))))))
      · refine LyT rfl (yf rfl Ty.fo_178_2) (LyT rfl (yl 0 Ty.pl_2 st rfl) (LyT rfl (ylt rfl) (LyT rfl (y_move rfl rfl) (bD (s := 51) rfl (fun hc6 => ?_) (fun hc6 => ?_)))))
        · refine LsF rfl (LsF rfl (LsF rfl (LyT rfl (yT rfl) (Ly rfl (yT rfl) (Ls_nil (Th_n (?_)))))))
          exact hout3 _ [(56, _)] _ ⟨rfl, trivial⟩ ⟨by unfold r14checkOp_c3; rewrite [iP hc5, iP hc6]; rfl, (st.pk [0] (by decide)).pickK [], hF⟩
        refine LyT rfl (yf rfl Ty.fo_178_2) (LyT rfl (yl 0 Ty.pl_2 st rfl) (LyT rfl (ygt rfl) (LyT rfl (yF rfl) (Ly rfl (yT rfl) (Ls_nil (Th_n (?_)))))))
        exact hout3 _ [(56, _)] _ ⟨rfl, trivial⟩ ⟨by unfold r14checkOp_c3; rewrite [iP hc5, iN hc6]; rfl, (st.pk [0] (by decide)).pickK [], hF⟩
      refine LsF rfl (LsF rfl (LsF rfl (LsF rfl (LsU rfl (LsU rfl (LsU rfl (LsF rfl (Ly rfl (yF rfl) (Ls_nil (Th_n (?_)))))))))))
      exact hout3 _ [(56, _)] _ ⟨rfl, trivial⟩ ⟨by unfold r14checkOp_c3; rewrite [iN hc5]; rfl, (st.pk [0] (by decide)).pickK [], hF⟩
    refine rg (Ly rfl (yf rfl Ty.fo_178_2) (Ly rfl (yl 0 Ty.pl_2 st rfl) (Ly rfl (yne rfl) (Lm rfl (bN (s := 29) rfl (fun hc7 => ?_) (fun hc7 => ?_))))))
    · refine LyT rfl (yf rfl Ty.fo_178_0) (LyT rfl (yl 0 Ty.pl_3 st rfl) (LyT rfl (yeq rfl) (LyT rfl (y_move rfl rfl) (bE (s := 33) rfl (fun hc8 => ?_) (fun hc8 => ?_)))))
      · refine LsF rfl (LsF rfl (LsF rfl (LyT rfl (yT rfl) (LyT rfl (y_move rfl rfl) (LsF rfl (LsF rfl (LsF rfl (LyT rfl (yT rfl) (Ly rfl (yT rfl) (Ls_nil (Th_n (?_))))))))))))
        exact hout2 _ [(1, _), (43, _)] _ ⟨rfl, rfl, trivial⟩ ⟨by unfold r14checkOp_c2; rewrite [iN hc7, iP hc8]; rfl, (st.pk [0] (by decide)).pickK [], hF⟩
      refine LyT rfl (yf rfl Ty.fo_178_0) (LyT rfl (yl 0 Ty.pl_3 st rfl) (LyT rfl (yeq rfl) (LyT rfl (yF rfl) (LyT rfl (y_move rfl rfl) (bE (s := 38) rfl (fun hc9 => ?_) (fun hc9 => ?_))))))
      · refine LsF rfl (LsF rfl (LsF rfl (LyT rfl (yT rfl) (Ly rfl (yT rfl) (Ls_nil (Th_n (?_)))))))
        exact hout2 _ [(1, _), (43, _)] _ ⟨rfl, rfl, trivial⟩ ⟨by unfold r14checkOp_c2; rewrite [iN hc7, iN hc8, iP hc9]; rfl, (st.pk [0] (by decide)).pickK [], hF⟩
      refine LyT rfl (yf rfl Ty.fo_178_0) (LyT rfl (yl 0 Ty.pl_3 st rfl) (LyT rfl (yeq rfl) (LyT rfl (yF rfl) (Ly rfl (yT rfl) (Ls_nil (Th_n (?_)))))))
      exact hout2 _ [(1, _), (43, _)] _ ⟨rfl, rfl, trivial⟩ ⟨by unfold r14checkOp_c2; rewrite [iN hc7, iN hc8, iN hc9]; rfl, (st.pk [0] (by decide)).pickK [], hF⟩
    refine LsF rfl (LsF rfl (LsF rfl (LsF rfl (LsU rfl (LsU rfl (LsU rfl (LsF rfl (LsF rfl (LsU rfl (LsU rfl (LsU rfl (LsF rfl (Ly rfl (yF rfl) (Ls_nil (Th_n (?_))))))))))))))))
    exact hout2 _ [(1, _), (43, _)] _ ⟨rfl, rfl, trivial⟩ ⟨by unfold r14checkOp_c2; rewrite [iP hc7]; rfl, (st.pk [0] (by decide)).pickK [], hF⟩
  refine rg (Ly rfl (yf rfl Ty.fo_178_0) (Ly rfl (yl 0 Ty.pl_3 st rfl) (Ly rfl (yge rfl) (Lm rfl (bD (s := 10) rfl (fun hc10 => ?_) (fun hc10 => ?_))))))
  · refine LyT rfl (yf rfl Ty.fo_178_1) (LyT rfl (yl 0 Ty.pl_9 st rfl) (LaT rfl (Scl st hF rfl (r12elem_ok _ o.name) fun w6 st hF => LyT rfl (yn rfl) (Ly rfl (yT rfl) (Lm rfl (bBn (s := 16) rfl (fun hc11 => ?_) (fun hc11 => ?_)))))))
    · refine LsF rfl (LsF rfl (LsF rfl (LsF rfl (LsU rfl (LsU rfl (LsU rfl (LsF rfl (Ly rfl (yT rfl) (Ls_nil (Th_n (?_)))))))))))
      exact hout1 _ [(1, _), (25, _)] _ ⟨rfl, rfl, trivial⟩ ⟨by unfold r14checkOp_c1; rewrite [iP hc10, iN hc11]; rfl, (st.pk [0] (by decide)).pickK [], hF⟩
    refine LyT rfl (yf rfl Ty.fo_178_0) (LyT rfl (yl 0 Ty.pl_3 st rfl) (LyT rfl (ylt rfl) (LyT rfl (y_move rfl rfl) (bD (s := 20) rfl (fun hc12 => ?_) (fun hc12 => ?_)))))
    · refine LyT rfl (yf rfl Ty.fo_178_1) (LyT rfl (yl 0 Ty.pl_9 st rfl) (LyT rfl (y_nes rfl rfl rfl) (LyT rfl (yT rfl) (Ly rfl (yF rfl) (Ls_nil (Th_n (?_)))))))
      exact hout1 _ [(1, _), (25, _)] _ ⟨rfl, rfl, trivial⟩ ⟨by unfold r14checkOp_c1; rewrite [iP hc10, iP hc11, iP hc12]; rfl, (st.pk [0] (by decide)).pickK [], hF⟩
    refine LsF rfl (LsF rfl (LsF rfl (LyT rfl (yF rfl) (Ly rfl (yF rfl) (Ls_nil (Th_n (?_)))))))
    exact hout1 _ [(1, _), (25, _)] _ ⟨rfl, rfl, trivial⟩ ⟨by unfold r14checkOp_c1; rewrite [iP hc10, iP hc11, iN hc12]; rfl, (st.pk [0] (by decide)).pickK [], hF⟩
  refine LsF rfl (LsF rfl (LsF rfl (LsF rfl (Ly rfl (yF rfl) (Lm rfl (LyT rfl (yf rfl Ty.fo_178_0) (LyT rfl (yl 0 Ty.pl_3 st rfl) (LyT rfl (ylt rfl) (LyT rfl (y_move rfl rfl) (bD (s := 20) rfl (fun hc13 => ?_) (fun hc13 => ?_)))))))))))
  · refine LyT rfl (yf rfl Ty.fo_178_1) (LyT rfl (yl 0 Ty.pl_9 st rfl) (LyT rfl (y_nes rfl rfl rfl) (LyT rfl (yT rfl) (Ly rfl (yF rfl) (Ls_nil (Th_n (?_)))))))
    exact hout1 _ [(1, _), (25, _)] _ ⟨rfl, rfl, trivial⟩ ⟨by unfold r14checkOp_c1; rewrite [iN hc10, iP hc13]; rfl, (st.pk [0] (by decide)).pickK [], hF⟩
  refine LsF rfl (LsF rfl (LsF rfl (LyT rfl (yF rfl) (Ly rfl (yF rfl) (Ls_nil (Th_n (?_)))))))
  exact hout1 _ [(1, _), (25, _)] _ ⟨rfl, rfl, trivial⟩ ⟨by unfold r14checkOp_c1; rewrite [iN hc10, iN hc13]; rfl, (st.pk [0] (by decide)).pickK [], hF⟩
structure RegM where
  val : Int
  atF : StampM
instance : Inhabited RegM := ⟨⟨default, default⟩⟩
instance : DecidableEq RegM := fun a b => decidable_of_iff (a.val = b.val ∧ a.atF = b.atF) (by cases a; cases b; simp)
def regMC (x : RegM) : List Value := [.int .i64 x.val, .int .u32 x.atF.time, .int .i64 x.atF.origin]
structure NumM where
  plus : Int
  minus : Int
instance : Inhabited NumM := ⟨⟨default, default⟩⟩
instance : DecidableEq NumM := fun a b => decidable_of_iff (a.plus = b.plus ∧ a.minus = b.minus) (by cases a; cases b; simp)
def numMC (x : NumM) : List Value := [.int .i64 x.plus, .int .i64 x.minus]
structure ObjM where
  kind : Int
  reg : RegM
  num : NumM
  setF : SetM
  map : MapM
instance : Inhabited ObjM := ⟨⟨default, default, default, default, default⟩⟩
instance : DecidableEq ObjM := fun a b => decidable_of_iff (a.kind = b.kind ∧ a.reg = b.reg ∧ a.num = b.num ∧ a.setF = b.setF ∧ a.map = b.map) (by cases a; cases b; simp)
theorem eqv_26r (a0 : Int) (a1 : Int) (a2 : Int) (b0 : Int) (b1 : Int) (b2 : Int) : eqVals Tryz.prog 8 26 [.int .i64 a0, .int .u32 a1, .int .i64 a2] [.int .i64 b0, .int .u32 b1, .int .i64 b2] = some ((a0 == b0) && (((a1 == b1) && ((a2 == b2) && true)) && true)) := by kernel_rfl
theorem eqv_26 (x y : RegM) : eqVals Tryz.prog 8 26 (regMC x) (regMC y) = some (decide (x = y)) := by
  obtain ⟨a0, ⟨a1, a2⟩⟩ := x
  obtain ⟨b0, ⟨b1, b2⟩⟩ := y
  refine (eqv_26r a0 a1 a2 b0 b1 b2).trans (congrArg some ?_)
  rw [Bool.eq_iff_iff]
  simp
theorem eqv_28r (a0 : Int) (a1 : Int) (b0 : Int) (b1 : Int) : eqVals Tryz.prog 8 28 [.int .i64 a0, .int .i64 a1] [.int .i64 b0, .int .i64 b1] = some ((a0 == b0) && ((a1 == b1) && true)) := by kernel_rfl
theorem eqv_28 (x y : NumM) : eqVals Tryz.prog 8 28 (numMC x) (numMC y) = some (decide (x = y)) := by
  obtain ⟨a0, a1⟩ := x
  obtain ⟨b0, b1⟩ := y
  refine (eqv_28r a0 a1 b0 b1).trans (congrArg some ?_)
  rw [Bool.eq_iff_iff]
  simp
def r14same_m (a : ObjM) (b : ObjM) : Bool :=
  if a.kind = b.kind then
    if a.reg = b.reg then
      if a.num = b.num then
        if (r12same_m a.setF b.setF) = true then
          r13same_m a.map b.map
        else
          false
      else
        false
    else
      false
  else
    false
theorem r14same_ok (X : List Nat) (w : World) (hX : Lo X w) (a : ObjM) (A1 : Option Addr) (C1 : Nat) (A2 : Option Addr) (C2 : Nat) (A6 : Option Addr) (C6 : Nat) (A5 : Option Addr) (C5 : Nat) (b : ObjM) (A3 : Option Addr) (C3 : Nat) (A4 : Option Addr) (C4 : Nat) (A8 : Option Addr) (C8 : Nat) (A7 : Option Addr) (C7 : Nat) (z9 : Sld X w A1 a.setF.adds.length C1 4 (a.setF.adds.flatMap addMC)) (z10 : Sld X w A2 a.setF.gone.length C2 3 (a.setF.gone.flatMap tagMC)) (z14 : Sld X w A6 a.map.puts.length C6 7 (a.map.puts.flatMap putMC)) (z13 : Sld X w A5 a.map.gone.length C5 3 (a.map.gone.flatMap tagMC)) (z11 : Sld X w A3 b.setF.adds.length C3 4 (b.setF.adds.flatMap addMC)) (z12 : Sld X w A4 b.setF.gone.length C4 3 (b.setF.gone.flatMap tagMC)) (z16 : Sld X w A8 b.map.puts.length C8 7 (b.map.puts.flatMap putMC)) (z15 : Sld X w A7 b.map.gone.length C7 3 (b.map.gone.flatMap tagMC)) :
    Fn Tryz.prog 11 [.agg #[.int .i64 a.kind, .int .i64 a.reg.val, .int .u32 a.reg.atF.time, .int .i64 a.reg.atF.origin, .int .i64 a.num.plus, .int .i64 a.num.minus, .slice A1 a.setF.adds.length C1, .slice A2 a.setF.gone.length C2, .slice A6 a.map.puts.length C6, .slice A5 a.map.gone.length C5], .agg #[.int .i64 b.kind, .int .i64 b.reg.val, .int .u32 b.reg.atF.time, .int .i64 b.reg.atF.origin, .int .i64 b.num.plus, .int .i64 b.num.minus, .slice A3 b.setF.adds.length C3, .slice A4 b.setF.gone.length C4, .slice A8 b.map.puts.length C8, .slice A7 b.map.gone.length C7]] w fun v w' => v = .bool (r14same_m a b) ∧ Fr [] w w' := by
  refine Fn_of 38 Ty.en_11 Tryz.func11 rfl rfl rfl ?_
  dsimp only [argEnv]
  have st := stn8 hX z9 z10 z14 z13 z11 z12 z16 z15
  have hF := Fr.refl ([]) w
  refine sq fun _ k1 => rg (La rfl (Sbx st hF rfl fun g1 w1 (st : St _ _ [_] _) hF hg1 => La rfl (Sbx st hF rfl fun g2 w2 (st : St _ _ [_, _] _) hF hg2 => Ls' rfl (Ln k1 (sq fun _ k2 => rg (Ly rfl (yf rfl Ty.fo_37_0) (Ly rfl (yl 0 Ty.pl_3 st rfl) (Ly rfl (yf rfl Ty.fo_37_0) (Ly rfl (yl 1 Ty.pl_3 st rfl) (Ly rfl (yeq rfl) (Lm rfl (bE (s := 10) rfl (fun hc1 => ?_) (fun hc1 => ?_)))))))))))))
  · refine LyT rfl (yf rfl Ty.fo_37_1) (LyT rfl (ym 0 Ty.ag_26 st rfl) (LyT rfl (yf rfl Ty.fo_37_1) (LyT rfl (ym 1 Ty.ag_26 st rfl) (LyT rfl (y_eqv (b := decide (a.reg = b.reg)) rfl rfl rfl Ty.eg_26 (by rw [Ty.ag_26]; simp) (eqv_26 a.reg b.reg)) ?_))))
    refine Ly rfl (yT rfl) (Lm rfl (bD (s := 17) rfl (fun hc2 => ?_) (fun hc2 => ?_)))
    · refine LyT rfl (yf rfl Ty.fo_37_2) (LyT rfl (ym 0 Ty.ag_28 st rfl) (LyT rfl (yf rfl Ty.fo_37_2) (LyT rfl (ym 1 Ty.ag_28 st rfl) (LyT rfl (y_eqv (b := decide (a.num = b.num)) rfl rfl rfl Ty.eg_28 (by rw [Ty.ag_28]; simp) (eqv_28 a.num b.num)) ?_))))
      refine Ly rfl (yT rfl) (Lm rfl (bD (s := 24) rfl (fun hc3 => ?_) (fun hc3 => ?_)))
      · refine LyT rfl (yf rfl Ty.fo_37_3) (LyT rfl (ym 0 Ty.ag_32 st rfl) (LyT rfl (yf rfl Ty.fo_37_3) (LyT rfl (ym 1 Ty.ag_32 st rfl) (LaT rfl (Scl st hF rfl (r12same_ok (keys (hOf st) ++ X) _ st.Lo a.setF A1 C1 A2 C2 b.setF A3 C3 A4 C4 (st.q 0 rfl) (st.q 1 rfl) (st.q 4 rfl) (st.q 5 rfl)) fun w3 st hF => Ly rfl (yT rfl) (Lm rfl (bB (s := 31) rfl (fun hc4 => ?_) (fun hc4 => ?_))))))))
        · refine LyT rfl (yf rfl Ty.fo_37_4) (LyT rfl (ym 0 Ty.ag_35 st rfl) (LyT rfl (yf rfl Ty.fo_37_4) (LyT rfl (ym 1 Ty.ag_35 st rfl) (LaT rfl (Scl st hF rfl (r13same_ok (keys (hOf st) ++ X) _ st.Lo a.map A6 C6 A5 C5 b.map A8 C8 A7 C7 (st.q 2 rfl) (st.q 3 rfl) (st.q 6 rfl) (st.q 7 rfl)) fun w4 st hF => Ly rfl (yT rfl) (Ls' rfl (Ln k2 (wR (fR (Res1 rfl rfl) ?_)))))))))
          unfold r14same_m; rewrite [iP hc1, iP hc2, iP hc3, iP hc4]
          exact ⟨rfl, hF⟩
        refine LsF rfl (LsF rfl (LsF rfl (LsF rfl (LsF rfl (Ly rfl (yF rfl) (Ls' rfl (Ln k2 (wR (fR (Res1 rfl rfl) ?_)))))))))
        unfold r14same_m; rewrite [iP hc1, iP hc2, iP hc3, iN hc4]
        exact ⟨rfl, hF⟩
      refine LsF rfl (LsF rfl (LsF rfl (LsF rfl (LsF rfl (Ly rfl (yF rfl) (Lm rfl (LsF rfl (LsF rfl (LsF rfl (LsF rfl (LsF rfl (Ly rfl (yF rfl) (Ls' rfl (Ln k2 (wR (fR (Res1 rfl rfl) ?_))))))))))))))))
      unfold r14same_m; rewrite [iP hc1, iP hc2, iN hc3]
      exact ⟨rfl, hF⟩
    refine LsF rfl (LsF rfl (LsF rfl (LsF rfl (LsF rfl (Ly rfl (yF rfl) (Lm rfl (LsF rfl (LsF rfl (LsF rfl (LsF rfl (LsF rfl (Ly rfl (yF rfl) (Lm rfl (LsF rfl (LsF rfl (LsF rfl (LsF rfl (LsF rfl (Ly rfl (yF rfl) (Ls' rfl (Ln k2 (wR (fR (Res1 rfl rfl) ?_)))))))))))))))))))))))
    unfold r14same_m; rewrite [iP hc1, iN hc2]
    exact ⟨rfl, hF⟩
  refine LsF rfl (LsF rfl (LsF rfl (LsF rfl (LsF rfl (Ly rfl (yF rfl) (Lm rfl (LsF rfl (LsF rfl (LsF rfl (LsF rfl (LsF rfl (Ly rfl (yF rfl) (Lm rfl (LsF rfl (LsF rfl (LsF rfl (LsF rfl (LsF rfl (Ly rfl (yF rfl) (Lm rfl (LsF rfl (LsF rfl (LsF rfl (LsF rfl (LsF rfl (Ly rfl (yF rfl) (Ls' rfl (Ln k2 (wR (fR (Res1 rfl rfl) ?_))))))))))))))))))))))))))))))
  unfold r14same_m; rewrite [iN hc1]
  exact ⟨rfl, hF⟩
end Go.Proofs.YtmenpoicgoijcaaGreat

/- Walks printed by gen2.py out of our own specifications: what the functions named below do. -/
import Derived.Test.YtdgllcmlfblelaaGreatDoorSc
import Derived.Test.YtdgllcmlfblelaaGreatDoorSe
import Derived.Test.YtdgllcmlfblelaaGreatDoorTy
set_option linter.unusedSimpArgs false
set_option linter.unusedVariables false
namespace Go.Proofs.YtdgllcmlfblelaaGreatDoor
open Go.RowKit

def shrN (p q : Int) (b : Nat) : Int := p / (2 : Int) ^ (min q.toNat b)
theorem y_shrN [Dfs] {P : Program} {n : Nat} {env : Env} {S : World → Prop} {o : Oper} {x y : Operand} {t u : Nat} {k ky : IntKind} {p q : Int} (ho : o.op = .binOp .shr t x y u) (hx : env.ev x = some (.int k p)) (hy : env.ev y = some (.int ky q)) (h0 : 0 ≤ q) : Yld P n env S o (.int k (shrN p q k.bits)) :=
  y_shrC (min q.toNat k.bits) ((2 : Int) ^ (min q.toNat k.bits)) ho hx hy h0 rfl rfl (Int.le_of_lt (Int.pow_pos (by decide)))
theorem map_flat8 : ∀ xs : List Int, xs.map (Value.int .u8) = xs.flatMap (fun x => [Value.int .u8 x])
  | [] => rfl
  | a :: l => by rw [List.flatMap_cons, ← map_flat8 l]; rfl
def bytesOf (xs : List Int) : List UInt8 := xs.map fun q => UInt8.ofNat q.toNat
theorem y_cvO [Dfs] {P : Program} {n : Nat} {env : Env} {S : World → Prop} {o : Oper} {src dst e i e' l c : Nat} {A : Option Addr} {H : Heap} {x : Operand} {xs : List Int} {sp : List Value} (ho : o.op = .convert src dst x) (hx : env.ev x = some (.slice A l c)) (hs : P.underlying src = some (.slice e)) (he : P.underlying e = some (.int .u8)) (hd : P.underlying dst = some .string)
    (how : Ow A l c 1 (xs.flatMap (fun x => [Value.int .u8 x])) sp) (hp : ∀ w, S w → Hp w H) (hi : H[i]? = some (blkOf A, Cl (xs.flatMap (fun x => [Value.int .u8 x]) ++ sp) e')) : Yld P n env S o (sv (bytesOf xs)) := by
  have hlen := how.1
  rw [fl_len (enc := fun x => [Value.int .u8 x]) (m := 1) (fun _ => rfl)] at hlen
  rcases how.2 with ⟨rfl, hl, _⟩ | ⟨g, rfl, _⟩
  · have : xs = [] := List.length_eq_zero_iff.1 (by omega)
    subst this
    exact y_cvnil ho hx hs he hd
  · refine y_cvbs ho hx hs he hd (by omega) (fun w hS => ?_)
    have hr := range_of (k := 0) (m := (xs.flatMap (fun x => [Value.int .u8 x])).length) (hp w hS) hi
    rw [List.drop_zero, List.take_left] at hr
    rw [map_flat8]; exact hr

structure IdM where
  origin : Int
  seq : Int
instance : Inhabited IdM := ⟨⟨default, default⟩⟩
instance : DecidableEq IdM := fun a b => decidable_of_iff (a.origin = b.origin ∧ a.seq = b.seq) (by cases a; cases b; simp)
def idMC (x : IdM) : List Value := [.int .i64 x.origin, .int .u32 x.seq]
theorem idMC_len (x : IdM) : (idMC x).length = 2 := rfl
theorem idMC_1 (x : IdM) : ∀ v ∈ idMC x, v.oneCell' = true := all_one rfl
def r5check_c1 (id : IdM) : Bool :=
  (if id.origin < 0 then true else (if 7 < id.origin then true else (if id.seq < 1 then true else decide (1048576 < id.seq))))
def r5check_m (id : IdM) : Int :=
  if (r5check_c1 id) = true then
    2
  else
    0

theorem r5check_c1_iff (id : IdM) : (r5check_c1 id = true) ↔ ((id.origin < 0) ∨ ((7 < id.origin) ∨ ((id.seq < 1) ∨ (1048576 < id.seq)))) := by
  unfold r5check_c1; exact (ci1 (ci1 (ci1 decide_eq_true_iff)))

set_option maxRecDepth 20000 in
theorem r5check_ok (w : World) (id : IdM) :
    Fn Tryz.prog 81 [.agg (idMC id).toArray] w fun v w' => v = .int .i64 (r5check_m id) ∧ Fr [] w w' := by
  refine Fn_of 21 Ty.en_81 Tryz.func81 rfl rfl rfl ?_
  dsimp only [argEnv]
  have st := stn0 (X := []) (w := w) (by simp [Lo])
  have hF := Fr.refl ([]) w
  refine sq fun _ k1 => rg (La rfl (Sbx st hF rfl fun g1 w1 (st : St _ _ [_] _) hF hg1 => Ls' rfl (Ln k1 (sq fun _ k2 => sq fun _ k3 => ?_))))
  refine use_out k3 (fun E W => E = [(20, .bool (r5check_c1 id))] ∧ St [] W (hOf st) (kOf st) ∧ Fr ([]) w W) ?_ fun hout1 => ?_
  · rintro E w2 ⟨rfl, st, hF⟩
    have st : St [] w2 [_] [] := st
    refine cB rfl (fun hc1 => ?_) (fun hc1 => ?_)
    · have jhc1 := (r5check_c1_iff id).1 hc1
      refine sq fun _ k4 => rg (Ls' rfl (Ln k4 (Wp_ret (Th_r (Fq_ret (Res1 rfl rfl) ?_)))))
      unfold r5check_m; rewrite [if_pos hc1]
      exact ⟨rfl, hF⟩
    have jhc1 := mt (r5check_c1_iff id).2 hc1
    refine sk k2 (sq fun _ k5 => rg (Ls' rfl (Ln k5 (Wp_ret (Fq_ret (Res1 rfl rfl) ?_)))))
    unfold r5check_m; rewrite [if_neg hc1]
    exact ⟨rfl, hF⟩
  refine rg (Ly rfl (yf rfl Ty.fo_24_0) (Ly rfl (yl 0 Ty.pl_3 st rfl) (Ly rfl (ylt rfl) (Lm rfl (bD (s := 6) rfl (fun hc2 => ?_) (fun hc2 => ?_))))))
  · refine LsF rfl (LsF rfl (LsF rfl (Ly rfl (yT rfl) (Lm rfl (LsF rfl (LsF rfl (LsF rfl (Ly rfl (yT rfl) (Lm rfl (LsF rfl (LsF rfl (LsF rfl (Ly rfl (yT rfl) (Ls_nil (Th_n (?_))))))))))))))))
    exact hout1 _ [(20, _)] _ ⟨rfl, trivial⟩ ⟨by unfold r5check_c1; rewrite [if_pos hc2]; rfl, (st.picks [0] (by decide)).pickK [], hF⟩
  refine LyT rfl (yf rfl Ty.fo_24_0) (LyT rfl (yl 0 Ty.pl_3 st rfl) (LyT rfl (ygt rfl) (Ly rfl (yF rfl) (Lm rfl (bD (s := 11) rfl (fun hc3 => ?_) (fun hc3 => ?_))))))
  · refine LsF rfl (LsF rfl (LsF rfl (Ly rfl (yT rfl) (Lm rfl (LsF rfl (LsF rfl (LsF rfl (Ly rfl (yT rfl) (Ls_nil (Th_n (?_)))))))))))
    exact hout1 _ [(20, _)] _ ⟨rfl, trivial⟩ ⟨by unfold r5check_c1; rewrite [if_neg hc2, if_pos hc3]; rfl, (st.picks [0] (by decide)).pickK [], hF⟩
  refine LyT rfl (yf rfl Ty.fo_24_1) (LyT rfl (yl 0 Ty.pl_22 st rfl) (LyT rfl (ylt rfl) (Ly rfl (yF rfl) (Lm rfl (bD (s := 16) rfl (fun hc4 => ?_) (fun hc4 => ?_))))))
  · refine LsF rfl (LsF rfl (LsF rfl (Ly rfl (yT rfl) (Ls_nil (Th_n (?_))))))
    exact hout1 _ [(20, _)] _ ⟨rfl, trivial⟩ ⟨by unfold r5check_c1; rewrite [if_neg hc2, if_neg hc3, if_pos hc4]; rfl, (st.picks [0] (by decide)).pickK [], hF⟩
  refine LyT rfl (yf rfl Ty.fo_24_1) (LyT rfl (yl 0 Ty.pl_22 st rfl) (LyT rfl (ygt rfl) (Ly rfl (yF rfl) (Ls_nil (Th_n (?_))))))
  exact hout1 _ [(20, _)] _ ⟨rfl, trivial⟩ ⟨by unfold r5check_c1; rewrite [if_neg hc2, if_neg hc3, if_neg hc4]; rfl, (st.picks [0] (by decide)).pickK [], hF⟩

def r5order_m (a : Int) (b : Int) : Int :=
  if a < b then
    (-1)
  else
    if b < a then
      1
    else
      0


set_option maxRecDepth 20000 in
theorem r5order_ok (w : World) (a : Int) (b : Int) :
    Fn Tryz.prog 83 [.int .i64 a, .int .i64 b] w fun v w' => v = .int .i64 (r5order_m a b) ∧ Fr [] w w' := by
  refine Fn_of 13 Ty.en_83 Tryz.func83 rfl rfl rfl ?_
  dsimp only [argEnv]
  have st := stn0 (X := []) (w := w) (by simp [Lo])
  have hF := Fr.refl ([]) w
  refine sq fun _ k1 => rg (Ls' rfl (Ln k1 (sq fun _ k2 => Wp_block (sq fun _ k3 => rg (Lm rfl (Lm rfl (Ly rfl (ylt rfl) (Ls' rfl (Ln k3 (cD rfl (fun hc1 => ?_) (fun hc1 => ?_)))))))))))
  · refine sq fun _ k4 => rg (Ls' rfl (Ln k4 (Wp_ret (Ib_r (Th_r (Fq_ret (Res1 rfl rfl) ?_))))))
    unfold r5order_m; rewrite [if_pos hc1]
    exact ⟨rfl, hF⟩
  refine sq fun _ k5 => rg (Lm rfl (Lm rfl (Ly rfl (ygt rfl) (Ls' rfl (Ln k5 (cD rfl (fun hc2 => ?_) (fun hc2 => ?_)))))))
  · refine sq fun _ k6 => rg (Ls' rfl (Ln k6 (Wp_ret (Ib_r (Th_r (Fq_ret (Res1 rfl rfl) ?_))))))
    unfold r5order_m; rewrite [if_neg hc1, if_pos hc2]
    exact ⟨rfl, hF⟩
  refine Wp_skip (Ib_n (Th_n (k2 _ _ (sq fun _ k7 => rg (Ls' rfl (Ln k7 (Wp_ret (Fq_ret (Res1 rfl rfl) ?_))))))))
  unfold r5order_m; rewrite [if_neg hc1, if_neg hc2]
  exact ⟨rfl, hF⟩

def r5compare_m (a : IdM) (b : IdM) : Int :=
  if a.origin = b.origin then
    r5order_m (IntKind.i64.wrap a.seq) (IntKind.i64.wrap b.seq)
  else
    r5order_m a.origin b.origin


set_option maxRecDepth 20000 in
theorem r5compare_ok (w : World) (a : IdM) (b : IdM) :
    Fn Tryz.prog 82 [.agg (idMC a).toArray, .agg (idMC b).toArray] w fun v w' => v = .int .i64 (r5compare_m a b) ∧ Fr [] w w' := by
  refine Fn_of 22 Ty.en_82 Tryz.func82 rfl rfl rfl ?_
  dsimp only [argEnv]
  have st := stn0 (X := []) (w := w) (by simp [Lo])
  have hF := Fr.refl ([]) w
  refine sq fun _ k1 => rg (La rfl (Sbx st hF rfl fun g1 w1 (st : St _ _ [_] _) hF hg1 => La rfl (Sbx st hF rfl fun g2 w2 (st : St _ _ [_, _] _) hF hg2 => Ls' rfl (Ln k1 (sq fun _ k2 => sq fun _ k3 => rg (Ly rfl (yf rfl Ty.fo_24_0) (Ly rfl (yl 0 Ty.pl_3 st rfl) (Ly rfl (yf rfl Ty.fo_24_0) (Ly rfl (yl 1 Ty.pl_3 st rfl) (Ly rfl (yne rfl) (Ln k3 (cN rfl (fun hc1 => ?_) (fun hc1 => ?_)))))))))))))
  · refine sq fun _ k4 => rg (Ly rfl (yf rfl Ty.fo_24_0) (Ly rfl (yl 0 Ty.pl_3 st rfl) (Ly rfl (yf rfl Ty.fo_24_0) (Ly rfl (yl 1 Ty.pl_3 st rfl) (La rfl (Scl st hF rfl (r5order_ok _ a.origin b.origin) fun w3 st hF => Ls' rfl (Ln k4 (Wp_ret (Th_r (Fq_ret (Res1 rfl rfl) ?_))))))))))
    unfold r5compare_m; rewrite [if_neg hc1]
    exact ⟨rfl, hF⟩
  refine sk k2 (sq fun _ k5 => rg (Ly rfl (yf rfl Ty.fo_24_1) (Ly rfl (yl 0 Ty.pl_22 st rfl) (Ly rfl (y_cvi (c := IntKind.i64.wrap a.seq) rfl rfl Tryz.underlying22 Tryz.underlying3 rfl) (Ly rfl (yf rfl Ty.fo_24_1) (Ly rfl (yl 1 Ty.pl_22 st rfl) (Ly rfl (y_cvi (c := IntKind.i64.wrap b.seq) rfl rfl Tryz.underlying22 Tryz.underlying3 rfl) (La rfl (Scl st hF rfl (r5order_ok _ (IntKind.i64.wrap a.seq) (IntKind.i64.wrap b.seq)) fun w4 st hF => Ls' rfl (Ln k5 (Wp_ret (Fq_ret (Res1 rfl rfl) ?_))))))))))))
  unfold r5compare_m; rewrite [if_pos hc1]
  exact ⟨rfl, hF⟩

structure TagM where
  id : IdM
  n : Int
instance : Inhabited TagM := ⟨⟨default, default⟩⟩
instance : DecidableEq TagM := fun a b => decidable_of_iff (a.id = b.id ∧ a.n = b.n) (by cases a; cases b; simp)
def tagMC (x : TagM) : List Value := [.int .i64 x.id.origin, .int .u32 x.id.seq, .int .i64 x.n]
theorem tagMC_len (x : TagM) : (tagMC x).length = 3 := rfl
theorem tagMC_1 (x : TagM) : ∀ v ∈ tagMC x, v.oneCell' = true := all_one rfl
def r5checkTag_c1 (t : TagM) : Bool :=
  (if (r5check_m t.id) = 0 then (if t.n < 0 then true else decide (15 < t.n)) else true)
def r5checkTag_m (t : TagM) : Int :=
  if (r5checkTag_c1 t) = true then
    2
  else
    0

theorem r5checkTag_c1_iff (t : TagM) : (r5checkTag_c1 t = true) ↔ (¬ ((r5check_m t.id) = 0) ∨ ((t.n < 0) ∨ (15 < t.n))) := by
  unfold r5checkTag_c1; exact (ci4 (ci1 decide_eq_true_iff))

set_option maxRecDepth 20000 in
theorem r5checkTag_ok (w : World) (t : TagM) :
    Fn Tryz.prog 56 [.agg (tagMC t).toArray] w fun v w' => v = .int .i64 (r5checkTag_m t) ∧ Fr [] w w' := by
  refine Fn_of 17 Ty.en_56 Tryz.func56 rfl rfl rfl ?_
  dsimp only [argEnv]
  have st := stn0 (X := []) (w := w) (by simp [Lo])
  have hF := Fr.refl ([]) w
  refine sq fun _ k1 => rg (La rfl (Sbx st hF rfl fun g1 w1 (st : St _ _ [_] _) hF hg1 => Ls' rfl (Ln k1 (sq fun _ k2 => sq fun _ k3 => ?_))))
  refine use_out k3 (fun E W => E = [(16, .bool (r5checkTag_c1 t))] ∧ St [] W (hOf st) (kOf st) ∧ Fr ([]) w W) ?_ fun hout1 => ?_
  · rintro E w2 ⟨rfl, st, hF⟩
    have st : St [] w2 [_] [] := st
    refine cB rfl (fun hc1 => ?_) (fun hc1 => ?_)
    · have jhc1 := (r5checkTag_c1_iff t).1 hc1
      refine sq fun _ k4 => rg (Ls' rfl (Ln k4 (Wp_ret (Th_r (Fq_ret (Res1 rfl rfl) ?_)))))
      unfold r5checkTag_m; rewrite [if_pos hc1]
      exact ⟨rfl, hF⟩
    have jhc1 := mt (r5checkTag_c1_iff t).2 hc1
    refine sk k2 (sq fun _ k5 => rg (Ls' rfl (Ln k5 (Wp_ret (Fq_ret (Res1 rfl rfl) ?_)))))
    unfold r5checkTag_m; rewrite [if_neg hc1]
    exact ⟨rfl, hF⟩
  refine rg (Ly rfl (yf rfl Ty.fo_26_0) (Ly rfl (ym 0 Ty.ag_24 st rfl) (La rfl (Scl st hF rfl (r5check_ok _ t.id) fun w3 st hF => Ly rfl (yne rfl) (Lm rfl (bN (s := 7) rfl (fun hc2 => ?_) (fun hc2 => ?_)))))))
  · refine LsF rfl (LsF rfl (LsF rfl (Ly rfl (yT rfl) (Lm rfl (LsF rfl (LsF rfl (LsF rfl (Ly rfl (yT rfl) (Ls_nil (Th_n (?_)))))))))))
    exact hout1 _ [(16, _)] _ ⟨rfl, trivial⟩ ⟨by unfold r5checkTag_c1; rewrite [if_neg hc2]; rfl, (st.picks [0] (by decide)).pickK [], hF⟩
  refine LyT rfl (yf rfl Ty.fo_26_1) (LyT rfl (yl 0 Ty.pl_3 st rfl) (LyT rfl (ylt rfl) (Ly rfl (yF rfl) (Lm rfl (bD (s := 12) rfl (fun hc3 => ?_) (fun hc3 => ?_))))))
  · refine LsF rfl (LsF rfl (LsF rfl (Ly rfl (yT rfl) (Ls_nil (Th_n (?_))))))
    exact hout1 _ [(16, _)] _ ⟨rfl, trivial⟩ ⟨by unfold r5checkTag_c1; rewrite [if_pos hc2, if_pos hc3]; rfl, (st.picks [0] (by decide)).pickK [], hF⟩
  refine LyT rfl (yf rfl Ty.fo_26_1) (LyT rfl (yl 0 Ty.pl_3 st rfl) (LyT rfl (ygt rfl) (Ly rfl (yF rfl) (Ls_nil (Th_n (?_))))))
  exact hout1 _ [(16, _)] _ ⟨rfl, trivial⟩ ⟨by unfold r5checkTag_c1; rewrite [if_pos hc2, if_neg hc3]; rfl, (st.picks [0] (by decide)).pickK [], hF⟩

theorem eqv_24r (a0 : Int) (a1 : Int) (b0 : Int) (b1 : Int) : eqVals Tryz.prog 8 24 [.int .i64 a0, .int .u32 a1] [.int .i64 b0, .int .u32 b1] = some ((a0 == b0) && ((a1 == b1) && true)) := by kernel_rfl
theorem eqv_24 (x y : IdM) : eqVals Tryz.prog 8 24 (idMC x) (idMC y) = some (decide (x = y)) := by
  obtain ⟨a0, a1⟩ := x
  obtain ⟨b0, b1⟩ := y
  refine (eqv_24r a0 a1 b0 b1).trans (congrArg some ?_)
  rw [Bool.eq_iff_iff]
  simp
def r5compareTag_m (a : TagM) (b : TagM) : Int :=
  if a.id = b.id then
    r5order_m a.n b.n
  else
    r5compare_m a.id b.id


set_option maxRecDepth 20000 in
theorem r5compareTag_ok (w : World) (a : TagM) (b : TagM) :
    Fn Tryz.prog 58 [.agg (tagMC a).toArray, .agg (tagMC b).toArray] w fun v w' => v = .int .i64 (r5compareTag_m a b) ∧ Fr [] w w' := by
  refine Fn_of 20 Ty.en_58 Tryz.func58 rfl rfl rfl ?_
  dsimp only [argEnv]
  have st := stn0 (X := []) (w := w) (by simp [Lo])
  have hF := Fr.refl ([]) w
  refine sq fun _ k1 => rg (La rfl (Sbx st hF rfl fun g1 w1 (st : St _ _ [_] _) hF hg1 => La rfl (Sbx st hF rfl fun g2 w2 (st : St _ _ [_, _] _) hF hg2 => Ls' rfl (Ln k1 (sq fun _ k2 => sq fun _ k3 => rg (Ly rfl (yf rfl Ty.fo_26_0) (Ly rfl (ym 0 Ty.ag_24 st rfl) (Ly rfl (yf rfl Ty.fo_26_0) (Ly rfl (ym 1 Ty.ag_24 st rfl) (Ly rfl (y_nev (b := decide (a.id = b.id)) rfl rfl rfl Ty.eg_24 (by rw [Ty.ag_24]; simp) (eqv_24 a.id b.id)) ?_))))))))))
  refine Ln k3 (cDn rfl (fun hc1 => ?_) (fun hc1 => ?_))
  · refine sq fun _ k4 => rg (Ly rfl (yf rfl Ty.fo_26_0) (Ly rfl (ym 0 Ty.ag_24 st rfl) (Ly rfl (yf rfl Ty.fo_26_0) (Ly rfl (ym 1 Ty.ag_24 st rfl) (La rfl (Scl st hF rfl (r5compare_ok _ a.id b.id) fun w3 st hF => Ls' rfl (Ln k4 (Wp_ret (Th_r (Fq_ret (Res1 rfl rfl) ?_))))))))))
    unfold r5compareTag_m; rewrite [if_neg hc1]
    exact ⟨rfl, hF⟩
  refine sk k2 (sq fun _ k5 => rg (Ly rfl (yf rfl Ty.fo_26_1) (Ly rfl (yl 0 Ty.pl_3 st rfl) (Ly rfl (yf rfl Ty.fo_26_1) (Ly rfl (yl 1 Ty.pl_3 st rfl) (La rfl (Scl st hF rfl (r5order_ok _ a.n b.n) fun w4 st hF => Ls' rfl (Ln k5 (Wp_ret (Fq_ret (Res1 rfl rfl) ?_))))))))))
  unfold r5compareTag_m; rewrite [if_pos hc1]
  exact ⟨rfl, hF⟩

structure StampM where
  time : Int
  origin : Int
instance : Inhabited StampM := ⟨⟨default, default⟩⟩
instance : DecidableEq StampM := fun a b => decidable_of_iff (a.time = b.time ∧ a.origin = b.origin) (by cases a; cases b; simp)
def stampMC (x : StampM) : List Value := [.int .u32 x.time, .int .i64 x.origin]
theorem stampMC_len (x : StampM) : (stampMC x).length = 2 := rfl
theorem stampMC_1 (x : StampM) : ∀ v ∈ stampMC x, v.oneCell' = true := all_one rfl
def r9check_c1 (s : StampM) : Bool :=
  (if 1048576 < s.time then true else (if s.origin < 0 then true else decide (7 < s.origin)))
def r9check_m (s : StampM) : Int :=
  if (r9check_c1 s) = true then
    2
  else
    0

theorem r9check_c1_iff (s : StampM) : (r9check_c1 s = true) ↔ ((1048576 < s.time) ∨ ((s.origin < 0) ∨ (7 < s.origin))) := by
  unfold r9check_c1; exact (ci1 (ci1 decide_eq_true_iff))

set_option maxRecDepth 20000 in
theorem r9check_ok (w : World) (s : StampM) :
    Fn Tryz.prog 57 [.agg (stampMC s).toArray] w fun v w' => v = .int .i64 (r9check_m s) ∧ Fr [] w w' := by
  refine Fn_of 16 Ty.en_57 Tryz.func57 rfl rfl rfl ?_
  dsimp only [argEnv]
  have st := stn0 (X := []) (w := w) (by simp [Lo])
  have hF := Fr.refl ([]) w
  refine sq fun _ k1 => rg (La rfl (Sbx st hF rfl fun g1 w1 (st : St _ _ [_] _) hF hg1 => Ls' rfl (Ln k1 (sq fun _ k2 => sq fun _ k3 => ?_))))
  refine use_out k3 (fun E W => E = [(15, .bool (r9check_c1 s))] ∧ St [] W (hOf st) (kOf st) ∧ Fr ([]) w W) ?_ fun hout1 => ?_
  · rintro E w2 ⟨rfl, st, hF⟩
    have st : St [] w2 [_] [] := st
    refine cB rfl (fun hc1 => ?_) (fun hc1 => ?_)
    · have jhc1 := (r9check_c1_iff s).1 hc1
      refine sq fun _ k4 => rg (Ls' rfl (Ln k4 (Wp_ret (Th_r (Fq_ret (Res1 rfl rfl) ?_)))))
      unfold r9check_m; rewrite [if_pos hc1]
      exact ⟨rfl, hF⟩
    have jhc1 := mt (r9check_c1_iff s).2 hc1
    refine sk k2 (sq fun _ k5 => rg (Ls' rfl (Ln k5 (Wp_ret (Fq_ret (Res1 rfl rfl) ?_)))))
    unfold r9check_m; rewrite [if_neg hc1]
    exact ⟨rfl, hF⟩
  refine rg (Ly rfl (yf rfl Ty.fo_28_0) (Ly rfl (yl 0 Ty.pl_22 st rfl) (Ly rfl (ygt rfl) (Lm rfl (bD (s := 6) rfl (fun hc2 => ?_) (fun hc2 => ?_))))))
  · refine LsF rfl (LsF rfl (LsF rfl (Ly rfl (yT rfl) (Lm rfl (LsF rfl (LsF rfl (LsF rfl (Ly rfl (yT rfl) (Ls_nil (Th_n (?_)))))))))))
    exact hout1 _ [(15, _)] _ ⟨rfl, trivial⟩ ⟨by unfold r9check_c1; rewrite [if_pos hc2]; rfl, (st.picks [0] (by decide)).pickK [], hF⟩
  refine LyT rfl (yf rfl Ty.fo_28_1) (LyT rfl (yl 0 Ty.pl_3 st rfl) (LyT rfl (ylt rfl) (Ly rfl (yF rfl) (Lm rfl (bD (s := 11) rfl (fun hc3 => ?_) (fun hc3 => ?_))))))
  · refine LsF rfl (LsF rfl (LsF rfl (Ly rfl (yT rfl) (Ls_nil (Th_n (?_))))))
    exact hout1 _ [(15, _)] _ ⟨rfl, trivial⟩ ⟨by unfold r9check_c1; rewrite [if_neg hc2, if_pos hc3]; rfl, (st.picks [0] (by decide)).pickK [], hF⟩
  refine LyT rfl (yf rfl Ty.fo_28_1) (LyT rfl (yl 0 Ty.pl_3 st rfl) (LyT rfl (ygt rfl) (Ly rfl (yF rfl) (Ls_nil (Th_n (?_))))))
  exact hout1 _ [(15, _)] _ ⟨rfl, trivial⟩ ⟨by unfold r9check_c1; rewrite [if_neg hc2, if_neg hc3]; rfl, (st.picks [0] (by decide)).pickK [], hF⟩

def r12elem_m (s : List UInt8) : Bool :=
  if 1 ≤ (s.length : Int) then
    decide ((s.length : Int) ≤ 12)
  else
    false


set_option maxRecDepth 20000 in
theorem r12elem_ok (w : World) (s : List UInt8) :
    Fn Tryz.prog 80 [sv s] w fun v w' => v = .bool (r12elem_m s) ∧ Fr [] w w' := by
  refine Fn_of 11 Ty.en_80 Tryz.func80 rfl rfl rfl ?_
  dsimp only [argEnv]
  have st := stn0 (X := []) (w := w) (by simp [Lo])
  have hF := Fr.refl ([]) w
  refine sq fun _ k1 => rg (Ls' rfl (Ln k1 (sq fun _ k2 => rg (Lm rfl (Ly rfl (y_lens rfl rfl Tryz.underlying9) (Ly rfl (yge rfl) (Lm rfl (bD (s := 6) rfl (fun hc1 => ?_) (fun hc1 => ?_)))))))))
  · refine LyT rfl (y_move rfl rfl) (LyT rfl (y_lens rfl rfl Tryz.underlying9) (LyT rfl (yle rfl) (Ly rfl (yT rfl) (Ls' rfl (Ln k2 (Wp_ret (Fq_ret (Res1 rfl rfl) ?_)))))))
    unfold r12elem_m; rewrite [if_pos hc1]
    exact ⟨rfl, hF⟩
  refine LsF rfl (LsF rfl (LsF rfl (Ly rfl (yF rfl) (Ls' rfl (Ln k2 (Wp_ret (Fq_ret (Res1 rfl rfl) ?_)))))))
  unfold r12elem_m; rewrite [if_neg hc1]
  exact ⟨rfl, hF⟩

def r14kind_m (act : Int) : Int :=
  if act = 1 then
    1
  else
    if act = 2 then
      2
    else
      if act = 3 then
        3
      else
        if act = 4 then
          3
        else
          if act = 5 then
            4
          else
            if act = 6 then
              4
            else
              0


set_option maxRecDepth 20000 in
theorem r14kind_ok (w : World) (act : Int) :
    Fn Tryz.prog 79 [.int .i64 act] w fun v w' => v = .int .i64 (r14kind_m act) ∧ Fr [] w w' := by
  refine Fn_of 14 Ty.en_79 Tryz.func79 rfl rfl rfl ?_
  dsimp only [argEnv]
  have st := stn0 (X := []) (w := w) (by simp [Lo])
  have hF := Fr.refl ([]) w
  refine sq fun _ k1 => rg (Ls' rfl (Ln k1 (sq fun _ k2 => sq fun _ k3 => rg (Lm rfl (Ln k3 (Wp_block (sq fun _ k4 => rg (Ly rfl (yeq rfl) (Ls' rfl (Ln k4 (cE rfl (fun hc1 => ?_) (fun hc1 => ?_))))))))))))
  · refine sq fun _ k5 => rg (Ls' rfl (Ln k5 (Wp_ret (Ib_r (Th_r (Fq_ret (Res1 rfl rfl) ?_))))))
    unfold r14kind_m; rewrite [if_pos hc1]
    exact ⟨rfl, hF⟩
  refine sq fun _ k6 => rg (Ly rfl (yeq rfl) (Ls' rfl (Ln k6 (cE rfl (fun hc2 => ?_) (fun hc2 => ?_)))))
  · refine sq fun _ k7 => rg (Ls' rfl (Ln k7 (Wp_ret (Ib_r (Th_r (Fq_ret (Res1 rfl rfl) ?_))))))
    unfold r14kind_m; rewrite [if_neg hc1, if_pos hc2]
    exact ⟨rfl, hF⟩
  refine sq fun _ k8 => sq fun _ k9 => rg (Ly rfl (yeq rfl) (Ls' rfl (Ln k9 (cE rfl (fun hc3 => ?_) (fun hc3 => ?_)))))
  · refine sk k8 (Wp_cond rfl (fun _ => ?_) (fun hc4 => absurd hc4 (by simp [hc3])))
    refine sq fun _ k10 => rg (Ls' rfl (Ln k10 (Wp_ret (Ib_r (Th_r (Fq_ret (Res1 rfl rfl) ?_))))))
    unfold r14kind_m; rewrite [if_neg hc1, if_neg hc2, if_pos hc3]
    exact ⟨rfl, hF⟩
  refine rg (Ly rfl (yeq rfl) (Ls' rfl (Ln k8 (cE rfl (fun hc5 => ?_) (fun hc5 => ?_)))))
  · refine sq fun _ k11 => rg (Ls' rfl (Ln k11 (Wp_ret (Ib_r (Th_r (Fq_ret (Res1 rfl rfl) ?_))))))
    unfold r14kind_m; rewrite [if_neg hc1, if_neg hc2, if_neg hc3, if_pos hc5]
    exact ⟨rfl, hF⟩
  refine sq fun _ k12 => sq fun _ k13 => rg (Ly rfl (yeq rfl) (Ls' rfl (Ln k13 (cE rfl (fun hc6 => ?_) (fun hc6 => ?_)))))
  · refine sk k12 (Wp_cond rfl (fun _ => ?_) (fun hc7 => absurd hc7 (by simp [hc6])))
    refine sq fun _ k14 => rg (Ls' rfl (Ln k14 (Wp_ret (Ib_r (Th_r (Fq_ret (Res1 rfl rfl) ?_))))))
    unfold r14kind_m; rewrite [if_neg hc1, if_neg hc2, if_neg hc3, if_neg hc5, if_pos hc6]
    exact ⟨rfl, hF⟩
  refine rg (Ly rfl (yeq rfl) (Ls' rfl (Ln k12 (cE rfl (fun hc8 => ?_) (fun hc8 => ?_)))))
  · refine sq fun _ k15 => rg (Ls' rfl (Ln k15 (Wp_ret (Ib_r (Th_r (Fq_ret (Res1 rfl rfl) ?_))))))
    unfold r14kind_m; rewrite [if_neg hc1, if_neg hc2, if_neg hc3, if_neg hc5, if_neg hc6, if_pos hc8]
    exact ⟨rfl, hF⟩
  refine Wp_skip (Ib_n (Th_n (k2 _ _ (sq fun _ k16 => rg (Ls' rfl (Ln k16 (Wp_ret (Fq_ret (Res1 rfl rfl) ?_))))))))
  unfold r14kind_m; rewrite [if_neg hc1, if_neg hc2, if_neg hc3, if_neg hc5, if_neg hc6, if_neg hc8]
  exact ⟨rfl, hF⟩

def r14timed_m (act : Int) : Bool :=
  if act = 1 then
    true
  else
    act == 5


set_option maxRecDepth 20000 in
theorem r14timed_ok (w : World) (act : Int) :
    Fn Tryz.prog 30 [.int .i64 act] w fun v w' => v = .bool (r14timed_m act) ∧ Fr [] w w' := by
  refine Fn_of 9 Ty.en_30 Tryz.func30 rfl rfl rfl ?_
  dsimp only [argEnv]
  have st := stn0 (X := []) (w := w) (by simp [Lo])
  have hF := Fr.refl ([]) w
  refine sq fun _ k1 => rg (Ls' rfl (Ln k1 (sq fun _ k2 => rg (Lm rfl (Ly rfl (yeq rfl) (Lm rfl (bE (s := 5) rfl (fun hc1 => ?_) (fun hc1 => ?_))))))))
  · refine LsF rfl (LsF rfl (Ly rfl (yT rfl) (Ls' rfl (Ln k2 (Wp_ret (Fq_ret (Res1 rfl rfl) ?_))))))
    unfold r14timed_m; rewrite [if_pos hc1]
    exact ⟨rfl, hF⟩
  refine LyT rfl (y_move rfl rfl) (LyT rfl (yeq rfl) (Ly rfl (yF rfl) (Ls' rfl (Ln k2 (Wp_ret (Fq_ret (Res1 rfl rfl) ?_))))))
  unfold r14timed_m; rewrite [if_neg hc1]
  exact ⟨rfl, hF⟩

def r14takes_m (act : Int) : Bool :=
  if act = 4 then
    true
  else
    act == 6


set_option maxRecDepth 20000 in
theorem r14takes_ok (w : World) (act : Int) :
    Fn Tryz.prog 32 [.int .i64 act] w fun v w' => v = .bool (r14takes_m act) ∧ Fr [] w w' := by
  refine Fn_of 9 Ty.en_32 Tryz.func32 rfl rfl rfl ?_
  dsimp only [argEnv]
  have st := stn0 (X := []) (w := w) (by simp [Lo])
  have hF := Fr.refl ([]) w
  refine sq fun _ k1 => rg (Ls' rfl (Ln k1 (sq fun _ k2 => rg (Lm rfl (Ly rfl (yeq rfl) (Lm rfl (bE (s := 5) rfl (fun hc1 => ?_) (fun hc1 => ?_))))))))
  · refine LsF rfl (LsF rfl (Ly rfl (yT rfl) (Ls' rfl (Ln k2 (Wp_ret (Fq_ret (Res1 rfl rfl) ?_))))))
    unfold r14takes_m; rewrite [if_pos hc1]
    exact ⟨rfl, hF⟩
  refine LyT rfl (y_move rfl rfl) (LyT rfl (yeq rfl) (Ly rfl (yF rfl) (Ls' rfl (Ln k2 (Wp_ret (Fq_ret (Res1 rfl rfl) ?_))))))
  unfold r14takes_m; rewrite [if_neg hc1]
  exact ⟨rfl, hF⟩

structure OpM where
  act : Int
  name : List UInt8
  val : Int
instance : Inhabited OpM := ⟨⟨default, default, default⟩⟩
instance : DecidableEq OpM := fun a b => decidable_of_iff (a.act = b.act ∧ a.name = b.name ∧ a.val = b.val) (by cases a; cases b; simp)
def opMC (x : OpM) : List Value := [.int .i64 x.act, sv x.name, .int .i64 x.val]
theorem opMC_len (x : OpM) : (opMC x).length = 3 := rfl
theorem opMC_1 (x : OpM) : ∀ v ∈ opMC x, v.oneCell' = true := all_one rfl
def r14checkOp_c1 (o : OpM) : Bool :=
  (if 3 ≤ o.act then (if (r12elem_m o.name) = true then (if o.act < 3 then o.name != [] else false) else true) else (if o.act < 3 then o.name != [] else false))

def r14checkOp_c2 (o : OpM) : Bool :=
  (if o.val = 0 then false else (if o.act = 3 then true else (if o.act = 4 then true else o.act == 6)))

def r14checkOp_c3 (o : OpM) : Bool :=
  (if o.act = 2 then (if o.val < (-1073741824) then true else decide (1073741824 < o.val)) else false)
def r14checkOp_m (o : OpM) : Int :=
  if (r14kind_m o.act) = 0 then
    5
  else
    if (r14checkOp_c1 o) = true then
      3
    else
      if (r14checkOp_c2 o) = true then
        3
      else
        if (r14checkOp_c3 o) = true then
          2
        else
          0

theorem r14checkOp_c1_iff (o : OpM) : (r14checkOp_c1 o = true) ↔ (((3 ≤ o.act) ∧ (¬ ((r12elem_m o.name) = true) ∨ ((o.act < 3) ∧ (¬ (o.name = []))))) ∨ (¬ (3 ≤ o.act) ∧ ((o.act < 3) ∧ (¬ (o.name = []))))) := by
  unfold r14checkOp_c1; exact (ci5 (ci4 (ci2 (by simp))) (ci2 (by simp)))

theorem r14checkOp_c2_iff (o : OpM) : (r14checkOp_c2 o = true) ↔ (¬ (o.val = 0) ∧ ((o.act = 3) ∨ ((o.act = 4) ∨ (o.act = 6)))) := by
  unfold r14checkOp_c2; exact (ci3 (ci1 (ci1 beq_iff_eq)))

theorem r14checkOp_c3_iff (o : OpM) : (r14checkOp_c3 o = true) ↔ ((o.act = 2) ∧ ((o.val < (-1073741824)) ∨ (1073741824 < o.val))) := by
  unfold r14checkOp_c3; exact (ci2 (ci1 decide_eq_true_iff))

set_option maxRecDepth 20000 in
theorem r14checkOp_ok (w : World) (o : OpM) :
    Fn Tryz.prog 55 [.agg (opMC o).toArray] w fun v w' => v = .int .i64 (r14checkOp_m o) ∧ Fr [] w w' := by
  refine Fn_of 57 Ty.en_55 Tryz.func55 rfl rfl rfl ?_
  dsimp only [argEnv]
  have st := stn0 (X := []) (w := w) (by simp [Lo])
  have hF := Fr.refl ([]) w
  refine sq fun _ k1 => rg (La rfl (Sbx st hF rfl fun g1 w1 (st : St _ _ [_] _) hF hg1 => Ls' rfl (Ln k1 (sq fun _ k2 => sq fun _ k3 => rg (Ly rfl (yf rfl Ty.fo_113_0) (Ly rfl (yl 0 Ty.pl_3 st rfl) (La rfl (Scl st hF rfl (r14kind_ok _ o.act) fun w2 st hF => Ly rfl (yeq rfl) (Ln k3 (cE rfl (fun hc1 => ?_) (fun hc1 => ?_)))))))))))
  · refine sq fun _ k4 => rg (Ls' rfl (Ln k4 (Wp_ret (Th_r (Fq_ret (Res1 rfl rfl) ?_)))))
    unfold r14checkOp_m; rewrite [if_pos hc1]
    exact ⟨rfl, hF⟩
  refine sk k2 (sq fun _ k5 => sq fun _ k6 => ?_)
  refine use_out k6 (fun E W => E = [(1, .pointer (some ⟨g1, 0, none⟩)), (25, .bool (r14checkOp_c1 o))] ∧ St [] W (hOf st) (kOf st) ∧ Fr ([]) w W) ?_ fun hout1 => ?_
  · rintro E w3 ⟨rfl, st, hF⟩
    have st : St [] w3 [_] [] := st
    refine cB rfl (fun hc2 => ?_) (fun hc2 => ?_)
    · have jhc2 := (r14checkOp_c1_iff o).1 hc2
      refine sq fun _ k7 => rg (Ls' rfl (Ln k7 (Wp_ret (Th_r (Fq_ret (Res1 rfl rfl) ?_)))))
      unfold r14checkOp_m; rewrite [if_neg hc1, if_pos hc2]
      exact ⟨rfl, hF⟩
    have jhc2 := mt (r14checkOp_c1_iff o).2 hc2
    refine sk k5 (sq fun _ k8 => sq fun _ k9 => ?_)
    refine use_out k9 (fun E W => E = [(1, .pointer (some ⟨g1, 0, none⟩)), (43, .bool (r14checkOp_c2 o))] ∧ St [] W (hOf st) (kOf st) ∧ Fr ([]) w W) ?_ fun hout2 => ?_
    · rintro E w4 ⟨rfl, st, hF⟩
      have st : St [] w4 [_] [] := st
      refine cB rfl (fun hc3 => ?_) (fun hc3 => ?_)
      · have jhc3 := (r14checkOp_c2_iff o).1 hc3
        refine sq fun _ k10 => rg (Ls' rfl (Ln k10 (Wp_ret (Th_r (Fq_ret (Res1 rfl rfl) ?_)))))
        unfold r14checkOp_m; rewrite [if_neg hc1, if_neg hc2, if_pos hc3]
        exact ⟨rfl, hF⟩
      have jhc3 := mt (r14checkOp_c2_iff o).2 hc3
      refine sk k8 (sq fun _ k11 => sq fun _ k12 => ?_)
      refine use_out k12 (fun E W => E = [(56, .bool (r14checkOp_c3 o))] ∧ St [] W (hOf st) (kOf st) ∧ Fr ([]) w W) ?_ fun hout3 => ?_
      · rintro E w5 ⟨rfl, st, hF⟩
        have st : St [] w5 [_] [] := st
        refine cB rfl (fun hc4 => ?_) (fun hc4 => ?_)
        · have jhc4 := (r14checkOp_c3_iff o).1 hc4
          refine sq fun _ k13 => rg (Ls' rfl (Ln k13 (Wp_ret (Th_r (Fq_ret (Res1 rfl rfl) ?_)))))
          unfold r14checkOp_m; rewrite [if_neg hc1, if_neg hc2, if_neg hc3, if_pos hc4]
          exact ⟨rfl, hF⟩
        have jhc4 := mt (r14checkOp_c3_iff o).2 hc4
        refine sk k11 (sq fun _ k14 => rg (Ls' rfl (Ln k14 (Wp_ret (Fq_ret (Res1 rfl rfl) ?_)))))
        unfold r14checkOp_m; rewrite [if_neg hc1, if_neg hc2, if_neg hc3, if_neg hc4]
        exact ⟨rfl, hF⟩
      refine rg (Ly rfl (yf rfl Ty.fo_113_0) (Ly rfl (yl 0 Ty.pl_3 st rfl) (Ly rfl (yeq rfl) (Lm rfl (bE (s := 47) rfl (fun hc5 => ?_) (fun hc5 => ?_))))))
      · refine LyT rfl (yf rfl Ty.fo_113_2) (LyT rfl (yl 0 Ty.pl_2 st rfl) (LyT rfl (ylt rfl) (LyT rfl (y_move rfl rfl) (bD (s := 51) rfl (fun hc6 => ?_) (fun hc6 => ?_)))))
        · refine LsF rfl (LsF rfl (LsF rfl (LyT rfl (yT rfl) (Ly rfl (yT rfl) (Ls_nil (Th_n (?_)))))))
          exact hout3 _ [(56, _)] _ ⟨rfl, trivial⟩ ⟨by unfold r14checkOp_c3; rewrite [if_pos hc5, if_pos hc6]; rfl, (st.picks [0] (by decide)).pickK [], hF⟩
        refine LyT rfl (yf rfl Ty.fo_113_2) (LyT rfl (yl 0 Ty.pl_2 st rfl) (LyT rfl (ygt rfl) (LyT rfl (yF rfl) (Ly rfl (yT rfl) (Ls_nil (Th_n (?_)))))))
        exact hout3 _ [(56, _)] _ ⟨rfl, trivial⟩ ⟨by unfold r14checkOp_c3; rewrite [if_pos hc5, if_neg hc6]; rfl, (st.picks [0] (by decide)).pickK [], hF⟩
      refine LsF rfl (LsF rfl (LsF rfl (LsF rfl (LsU rfl (LsU rfl (LsU rfl (LsF rfl (Ly rfl (yF rfl) (Ls_nil (Th_n (?_)))))))))))
      exact hout3 _ [(56, _)] _ ⟨rfl, trivial⟩ ⟨by unfold r14checkOp_c3; rewrite [if_neg hc5]; rfl, (st.picks [0] (by decide)).pickK [], hF⟩
    refine rg (Ly rfl (yf rfl Ty.fo_113_2) (Ly rfl (yl 0 Ty.pl_2 st rfl) (Ly rfl (yne rfl) (Lm rfl (bN (s := 29) rfl (fun hc7 => ?_) (fun hc7 => ?_))))))
    · refine LyT rfl (yf rfl Ty.fo_113_0) (LyT rfl (yl 0 Ty.pl_3 st rfl) (LyT rfl (yeq rfl) (LyT rfl (y_move rfl rfl) (bE (s := 33) rfl (fun hc8 => ?_) (fun hc8 => ?_)))))
      · refine LsF rfl (LsF rfl (LsF rfl (LyT rfl (yT rfl) (LyT rfl (y_move rfl rfl) (LsF rfl (LsF rfl (LsF rfl (LyT rfl (yT rfl) (Ly rfl (yT rfl) (Ls_nil (Th_n (?_))))))))))))
        exact hout2 _ [(1, _), (43, _)] _ ⟨rfl, rfl, trivial⟩ ⟨by unfold r14checkOp_c2; rewrite [if_neg hc7, if_pos hc8]; rfl, (st.picks [0] (by decide)).pickK [], hF⟩
      refine LyT rfl (yf rfl Ty.fo_113_0) (LyT rfl (yl 0 Ty.pl_3 st rfl) (LyT rfl (yeq rfl) (LyT rfl (yF rfl) (LyT rfl (y_move rfl rfl) (bE (s := 38) rfl (fun hc9 => ?_) (fun hc9 => ?_))))))
      · refine LsF rfl (LsF rfl (LsF rfl (LyT rfl (yT rfl) (Ly rfl (yT rfl) (Ls_nil (Th_n (?_)))))))
        exact hout2 _ [(1, _), (43, _)] _ ⟨rfl, rfl, trivial⟩ ⟨by unfold r14checkOp_c2; rewrite [if_neg hc7, if_neg hc8, if_pos hc9]; rfl, (st.picks [0] (by decide)).pickK [], hF⟩
      refine LyT rfl (yf rfl Ty.fo_113_0) (LyT rfl (yl 0 Ty.pl_3 st rfl) (LyT rfl (yeq rfl) (LyT rfl (yF rfl) (Ly rfl (yT rfl) (Ls_nil (Th_n (?_)))))))
      exact hout2 _ [(1, _), (43, _)] _ ⟨rfl, rfl, trivial⟩ ⟨by unfold r14checkOp_c2; rewrite [if_neg hc7, if_neg hc8, if_neg hc9]; rfl, (st.picks [0] (by decide)).pickK [], hF⟩
    refine LsF rfl (LsF rfl (LsF rfl (LsF rfl (LsU rfl (LsU rfl (LsU rfl (LsF rfl (LsF rfl (LsU rfl (LsU rfl (LsU rfl (LsF rfl (Ly rfl (yF rfl) (Ls_nil (Th_n (?_))))))))))))))))
    exact hout2 _ [(1, _), (43, _)] _ ⟨rfl, rfl, trivial⟩ ⟨by unfold r14checkOp_c2; rewrite [if_pos hc7]; rfl, (st.picks [0] (by decide)).pickK [], hF⟩
  refine rg (Ly rfl (yf rfl Ty.fo_113_0) (Ly rfl (yl 0 Ty.pl_3 st rfl) (Ly rfl (yge rfl) (Lm rfl (bD (s := 10) rfl (fun hc10 => ?_) (fun hc10 => ?_))))))
  · refine LyT rfl (yf rfl Ty.fo_113_1) (LyT rfl (yl 0 Ty.pl_9 st rfl) (LaT rfl (Scl st hF rfl (r12elem_ok _ o.name) fun w6 st hF => LyT rfl (yn rfl) (Ly rfl (yT rfl) (Lm rfl (bBn (s := 16) rfl (fun hc11 => ?_) (fun hc11 => ?_)))))))
    · refine LsF rfl (LsF rfl (LsF rfl (LsF rfl (LsU rfl (LsU rfl (LsU rfl (LsF rfl (Ly rfl (yT rfl) (Ls_nil (Th_n (?_)))))))))))
      exact hout1 _ [(1, _), (25, _)] _ ⟨rfl, rfl, trivial⟩ ⟨by unfold r14checkOp_c1; rewrite [if_pos hc10, if_neg hc11]; rfl, (st.picks [0] (by decide)).pickK [], hF⟩
    refine LyT rfl (yf rfl Ty.fo_113_0) (LyT rfl (yl 0 Ty.pl_3 st rfl) (LyT rfl (ylt rfl) (LyT rfl (y_move rfl rfl) (bD (s := 20) rfl (fun hc12 => ?_) (fun hc12 => ?_)))))
    · refine LyT rfl (yf rfl Ty.fo_113_1) (LyT rfl (yl 0 Ty.pl_9 st rfl) (LyT rfl (y_nes rfl rfl rfl) (LyT rfl (yT rfl) (Ly rfl (yF rfl) (Ls_nil (Th_n (?_)))))))
      exact hout1 _ [(1, _), (25, _)] _ ⟨rfl, rfl, trivial⟩ ⟨by unfold r14checkOp_c1; rewrite [if_pos hc10, if_pos hc11, if_pos hc12]; rfl, (st.picks [0] (by decide)).pickK [], hF⟩
    refine LsF rfl (LsF rfl (LsF rfl (LyT rfl (yF rfl) (Ly rfl (yF rfl) (Ls_nil (Th_n (?_)))))))
    exact hout1 _ [(1, _), (25, _)] _ ⟨rfl, rfl, trivial⟩ ⟨by unfold r14checkOp_c1; rewrite [if_pos hc10, if_pos hc11, if_neg hc12]; rfl, (st.picks [0] (by decide)).pickK [], hF⟩
  refine LsF rfl (LsF rfl (LsF rfl (LsF rfl (Ly rfl (yF rfl) (Lm rfl (LyT rfl (yf rfl Ty.fo_113_0) (LyT rfl (yl 0 Ty.pl_3 st rfl) (LyT rfl (ylt rfl) (LyT rfl (y_move rfl rfl) (bD (s := 20) rfl (fun hc13 => ?_) (fun hc13 => ?_)))))))))))
  · refine LyT rfl (yf rfl Ty.fo_113_1) (LyT rfl (yl 0 Ty.pl_9 st rfl) (LyT rfl (y_nes rfl rfl rfl) (LyT rfl (yT rfl) (Ly rfl (yF rfl) (Ls_nil (Th_n (?_)))))))
    exact hout1 _ [(1, _), (25, _)] _ ⟨rfl, rfl, trivial⟩ ⟨by unfold r14checkOp_c1; rewrite [if_neg hc10, if_pos hc13]; rfl, (st.picks [0] (by decide)).pickK [], hF⟩
  refine LsF rfl (LsF rfl (LsF rfl (LyT rfl (yF rfl) (Ly rfl (yF rfl) (Ls_nil (Th_n (?_)))))))
  exact hout1 _ [(1, _), (25, _)] _ ⟨rfl, rfl, trivial⟩ ⟨by unfold r14checkOp_c1; rewrite [if_neg hc10, if_neg hc13]; rfl, (st.picks [0] (by decide)).pickK [], hF⟩

structure EffectM where
  act : Int
  name : List UInt8
  val : Int
  tag : TagM
  atF : StampM
  tags : List TagM
instance : Inhabited EffectM := ⟨⟨default, default, default, default, default, default⟩⟩
instance : DecidableEq EffectM := fun a b => decidable_of_iff (a.act = b.act ∧ a.name = b.name ∧ a.val = b.val ∧ a.tag = b.tag ∧ a.atF = b.atF ∧ a.tags = b.tags) (by cases a; cases b; simp)
theorem eqv_28r (a0 : Int) (a1 : Int) (b0 : Int) (b1 : Int) : eqVals Tryz.prog 8 28 [.int .u32 a0, .int .i64 a1] [.int .u32 b0, .int .i64 b1] = some ((a0 == b0) && ((a1 == b1) && true)) := by kernel_rfl
theorem eqv_28 (x y : StampM) : eqVals Tryz.prog 8 28 (stampMC x) (stampMC y) = some (decide (x = y)) := by
  obtain ⟨a0, a1⟩ := x
  obtain ⟨b0, b1⟩ := y
  refine (eqv_28r a0 a1 b0 b1).trans (congrArg some ?_)
  rw [Bool.eq_iff_iff]
  simp
def r14checkE_c1 (e : EffectM) (s4 : Int) : Bool :=
  (if (r14timed_m e.act) = true then (if (r9check_m e.atF) = 0 then (if e.atF.time = 0 then true else (if (r14takes_m e.act) = true then false else decide (0 < (e.tags.length : Int)))) else true) else (if e.atF = (⟨0, 0⟩ : StampM) then (if (r14takes_m e.act) = true then false else decide (0 < (e.tags.length : Int))) else true))

def r14checkE_L2 (e : EffectM) (s4 : Int) : Nat → Int → (Int) ⊕ (Int)
  | 0, s5 => .inr (s5)
  | fuel + 1, s5 =>
    if s5 < (e.tags.length : Int) then
      if 0 ≤ (r5compareTag_m (ix e.tags (s5 - 1)) (ix e.tags s5)) then
        .inl 3
      else
        r14checkE_L2 e s4 fuel (s5 + 1)
    else
      .inr (s5)

def r14checkE_L1 (e : EffectM) : Nat → Int → (Int) ⊕ (Int)
  | 0, s4 => .inr (s4)
  | fuel + 1, s4 =>
    if s4 < (e.tags.length : Int) then
      if (r5checkTag_m (ix e.tags s4)) = 0 then
        r14checkE_L1 e fuel (s4 + 1)
      else
        .inl 2
    else
      .inr (s4)
def r14checkE_m (e : EffectM) : Int :=
  if (r14checkOp_m (⟨e.act, e.name, e.val⟩ : OpM)) = 0 then
    if (r5checkTag_m e.tag) = 0 then
      match r14checkE_L1 e (((e.tags.length : Int) - (0 : Int)).toNat + 1) (0 : Int) with
      | .inl r => r
      | .inr (s4) =>
        if 4096 < (e.tags.length : Int) then
          8
        else
          if (r14checkE_c1 e s4) = true then
            3
          else
            match r14checkE_L2 e s4 (((e.tags.length : Int) - (1 : Int)).toNat + 1) (1 : Int) with
            | .inl r => r
            | .inr (s5) =>
              0
    else
      2
  else
    r14checkOp_m (⟨e.act, e.name, e.val⟩ : OpM)

theorem r14checkE_c1_iff (e : EffectM) (s4 : Int) : (r14checkE_c1 e s4 = true) ↔ ((((r14timed_m e.act) = true) ∧ (¬ ((r9check_m e.atF) = 0) ∨ ((e.atF.time = 0) ∨ (¬ ((r14takes_m e.act) = true) ∧ (0 < (e.tags.length : Int)))))) ∨ (¬ ((r14timed_m e.act) = true) ∧ (¬ (e.atF = (⟨0, 0⟩ : StampM)) ∨ (¬ ((r14takes_m e.act) = true) ∧ (0 < (e.tags.length : Int)))))) := by
  unfold r14checkE_c1; exact (ci5 (ci4 (ci1 (ci3 decide_eq_true_iff))) (ci4 (ci3 decide_eq_true_iff)))

set_option maxRecDepth 20000 in
theorem r14checkE_ok (X : List Nat) (w : World) (hX : Lo X w) (e : EffectM) (A1 : Option Addr) (C1 : Nat) (z2 : Sld X w A1 e.tags.length C1 3 (e.tags.flatMap tagMC)) :
    Fn Tryz.prog 25 [.agg #[.int .i64 e.act, sv e.name, .int .i64 e.val, .int .i64 e.tag.id.origin, .int .u32 e.tag.id.seq, .int .i64 e.tag.n, .int .u32 e.atF.time, .int .i64 e.atF.origin, .slice A1 e.tags.length C1]] w fun v w' => v = .int .i64 (r14checkE_m e) ∧ Fr [] w w' := by
  refine Fn_of 98 Ty.en_25 Tryz.func25 rfl rfl rfl ?_
  dsimp only [argEnv]
  have st := stn1 hX z2
  have hF := Fr.refl ([]) w
  have z1 := (st.q 0 rfl).le
  refine sq fun _ k1 => rg (La rfl (Sbx st hF rfl fun g1 w1 (st : St _ _ [_] _) hF hg1 => Ls' rfl (Ln k1 (sq fun _ k2 => rg (Ly rfl (yf rfl Ty.fo_31_0) (Ly rfl (yl 0 Ty.pl_3 st rfl) (Ly rfl (yf rfl Ty.fo_31_1) (Ly rfl (yl 0 Ty.pl_9 st rfl) (Ly rfl (yf rfl Ty.fo_31_2) (Ly rfl (yl 0 Ty.pl_2 st rfl) (Ly rfl (y_build (cells := [_, _, _]) rfl rfl Ty.zc_113 Ty.ps_113 rfl) (La rfl (Scl st hF rfl (r14checkOp_ok _ (⟨e.act, e.name, e.val⟩ : OpM)) fun w2 st hF => Ls' rfl (Ln k2 (sq fun _ k3 => sq fun _ k4 => rg (Lm rfl (Ly rfl (yne rfl) (Ln k4 (cN rfl (fun hc1 => ?_) (fun hc1 => ?_))))))))))))))))))))
  · refine sq fun _ k5 => rg (Lm rfl (Ls' rfl (Ln k5 (Wp_ret (Th_r (Fq_ret (Res1 rfl rfl) ?_))))))
    unfold r14checkE_m; rewrite [if_neg hc1]
    exact ⟨rfl, hF⟩
  refine sk k3 (sq fun _ k6 => sq fun _ k7 => rg (Ly rfl (yf rfl Ty.fo_31_3) (Ly rfl (ym 0 Ty.ag_26 st rfl) (La rfl (Scl st hF rfl (r5checkTag_ok _ e.tag) fun w3 st hF => Ly rfl (yne rfl) (Ln k7 (cN rfl (fun hc2 => ?_) (fun hc2 => ?_))))))))
  · refine sq fun _ k8 => rg (Ls' rfl (Ln k8 (Wp_ret (Th_r (Fq_ret (Res1 rfl rfl) ?_)))))
    unfold r14checkE_m; rewrite [if_pos hc1, if_neg hc2]
    exact ⟨rfl, hF⟩
  refine sk k6 (sq fun _ k9 => sq fun _ k10 => rg (Ls' rfl (Ln k10 (Wp_block (lp (fun q E W => ∃ (s4 : Int), E = [(1, .pointer (some ⟨g1, 0, none⟩)), (4, .int .i64 s4)] ∧ jq q (fun m => (r14checkE_L1 e m s4 = r14checkE_L1 e (((e.tags.length : Int) - (0 : Int)).toNat + 1) (0 : Int) ∧ ((e.tags.length : Int) - s4).toNat < m)) (r14checkE_L1 e (((e.tags.length : Int) - (0 : Int)).toNat + 1) (0 : Int) = .inr (s4)) ∧ (0 ≤ s4) ∧ St X W [(some g1, Cl [.int .i64 e.act, sv e.name, .int .i64 e.val, .int .i64 e.tag.id.origin, .int .u32 e.tag.id.seq, .int .i64 e.tag.n, .int .u32 e.atF.time, .int .i64 e.atF.origin, .slice A1 e.tags.length C1] 31)] [kS A1 e.tags.length C1 3 (e.tags.flatMap tagMC)] ∧ Fr ([]) w W) (((e.tags.length : Int) - (0 : Int)).toNat + 1) [(1, _), (4, _)] ⟨rfl, rfl, trivial⟩ ⟨_, rfl, ⟨rfl, Nat.lt_succ_self _⟩, by first | omega | (simp; done) | (simp; omega), st, hF⟩ k9 ?_ fun hout1 => ?_)))))
  · rintro E w4 ⟨s4, rfl, hLk1, hinv, st, hF⟩
    unfold jq at hLk1; dsimp only at hLk1
    refine sq fun _ k11 => sq fun _ k12 => rg (Ly rfl (yf rfl Ty.fo_31_5) (Ly rfl (yl 0 Ty.pl_29 st rfl) (Ly rfl (yll rfl Tryz.underlying29) (Ly rfl (ygt rfl) (Ln k12 (cD rfl (fun hc3 => ?_) (fun hc3 => ?_)))))))
    · refine sq fun _ k13 => rg (Ls' rfl (Ln k13 (Wp_ret (Th_r (Fq_ret (Res1 rfl rfl) ?_)))))
      unfold r14checkE_m; rewrite [if_pos hc1, if_pos hc2, hLk1]; (try dsimp only); rewrite [if_pos hc3]
      exact ⟨rfl, hF⟩
    refine sk k11 (sq fun _ k14 => sq fun _ k15 => ?_)
    refine use_out k15 (fun E W => E = [(1, .pointer (some ⟨g1, 0, none⟩)), (77, .bool (r14checkE_c1 e s4))] ∧ St X W (hOf st) (kOf st) ∧ Fr ([]) w W) ?_ fun hout2 => ?_
    · rintro E w5 ⟨rfl, st, hF⟩
      have st : St X w5 [_] [_] := st
      refine cB rfl (fun hc4 => ?_) (fun hc4 => ?_)
      · have jhc4 := (r14checkE_c1_iff e s4).1 hc4
        refine sq fun _ k16 => rg (Ls' rfl (Ln k16 (Wp_ret (Th_r (Fq_ret (Res1 rfl rfl) ?_)))))
        unfold r14checkE_m; rewrite [if_pos hc1, if_pos hc2, hLk1]; (try dsimp only); rewrite [if_neg hc3, if_pos hc4]
        exact ⟨rfl, hF⟩
      have jhc4 := mt (r14checkE_c1_iff e s4).2 hc4
      refine sk k14 (sq fun _ k17 => sq fun _ k18 => rg (Ls' rfl (Ln k18 (Wp_block (lp (fun q E W => ∃ (s5 : Int), E = [(1, .pointer (some ⟨g1, 0, none⟩)), (5, .int .i64 s5)] ∧ jq q (fun m => (r14checkE_L2 e s4 m s5 = r14checkE_L2 e s4 (((e.tags.length : Int) - (1 : Int)).toNat + 1) (1 : Int) ∧ ((e.tags.length : Int) - s5).toNat < m)) (r14checkE_L2 e s4 (((e.tags.length : Int) - (1 : Int)).toNat + 1) (1 : Int) = .inr (s5)) ∧ (1 ≤ s5) ∧ St X W [(some g1, Cl [.int .i64 e.act, sv e.name, .int .i64 e.val, .int .i64 e.tag.id.origin, .int .u32 e.tag.id.seq, .int .i64 e.tag.n, .int .u32 e.atF.time, .int .i64 e.atF.origin, .slice A1 e.tags.length C1] 31)] [kS A1 e.tags.length C1 3 (e.tags.flatMap tagMC)] ∧ Fr ([]) w W) (((e.tags.length : Int) - (1 : Int)).toNat + 1) [(1, _), (5, _)] ⟨rfl, rfl, trivial⟩ ⟨_, rfl, ⟨rfl, Nat.lt_succ_self _⟩, by first | omega | (simp; done) | (simp; omega), st, hF⟩ k17 ?_ fun hout3 => ?_)))))
      · rintro E w6 ⟨s5, rfl, hLk2, hinv, st, hF⟩
        unfold jq at hLk2; dsimp only at hLk2
        refine sq fun _ k19 => rg (Ls' rfl (Ln k19 (Wp_ret (Fq_ret (Res1 rfl rfl) ?_))))
        unfold r14checkE_m; rewrite [if_pos hc1, if_pos hc2, hLk1]; (try dsimp only); rewrite [if_neg hc3, if_neg hc4, hLk2]; (try dsimp only)
        exact ⟨rfl, hF⟩
      rintro m E w7 ⟨s5, rfl, ⟨hL2, hmu⟩, hinv, st, hF⟩
      obtain ⟨fuel, rfl⟩ : ∃ q, m = q + 1 := ⟨m - 1, by omega⟩
      refine sq fun _ k20 => sq fun _ k21 => rg (Lm rfl (Ly rfl (yf rfl Ty.fo_31_5) (Ly rfl (yl 0 Ty.pl_29 st rfl) (Ly rfl (yll rfl Tryz.underlying29) (Ly rfl (ylt rfl) (Ln k21 (cD rfl (fun hc5 => ?_) (fun hc5 => ?_))))))))
      · refine sk k20 (sq fun _ k22 => Wp_block (sq fun _ k23 => ?_))
        refine Wp_plan (fun W => St X W (pickL (hOf st) [0]) (kOf st)) [(true, 0), (true, 1), (true, 2), (true, 3), (true, 4), (true, 5), (true, 6), (true, 7), (true, 8), (true, 9), (true, 10), (false, 11), (true, 12)] Ty.mx_0 (by kernel_rfl) (by kernel_rfl) rfl ((st.picks [0] (by decide)).drew) ?_
        have st := st.drew
        have hF := hF.step0 (Fr.drew _)
        refine Py rfl (yf rfl Ty.fo_31_5) (Py rfl (y_load (i := 0) rfl rfl Ty.pl_29 (fun _ h => h.hp) rfl rfl) (Pm rfl (Py rfl (y_sub (c := s5 - 1) rfl rfl rfl (wf_i64 (by first | omega | (simp; done) | (simp; omega)))) ?_)))
        obtain ⟨gi1, bi1, egi1⟩ := (st.k (i := 0) rfl).addr (fun _ => rfl) (by decide) (q := s5 - 1) (by first | omega | (simp; done) | (simp; omega)) (by first | omega | (simp; done) | (simp; omega))
        subst egi1
        refine Py rfl (y_ixa (q := s5 - 1) rfl rfl rfl Ty.es_29 (by first | omega | (simp; done) | (simp; omega)) (by first | omega | (simp; done) | (simp; omega))) ?_
        refine Py rfl (y_ldk (q := s5 - 1) rfl rfl Ty.ag_26 (fun _ h => h.k (i := 0) rfl) (fun _ => rfl) (by first | omega | (simp; done) | (simp; omega)) (by first | omega | (simp; done) | (simp; omega))) ?_
        refine Py rfl (yf rfl Ty.fo_31_5) (Py rfl (y_load (i := 0) rfl rfl Ty.pl_29 (fun _ h => h.hp) rfl rfl) (Pm rfl (Py rfl (y_ixa (q := s5) rfl rfl rfl Ty.es_29 (by first | omega | (simp; done) | (simp; omega)) (by first | omega | (simp; done) | (simp; omega))) ?_)))
        refine Py rfl (y_ldk (q := s5) rfl rfl Ty.ag_26 (fun _ h => h.k (i := 0) rfl) (fun _ => rfl) (by first | omega | (simp; done) | (simp; omega)) (by first | omega | (simp; done) | (simp; omega))) ?_
        refine Pl_a rfl (wtd0 rfl) (by rfl) ?_
        refine Scl st hF rfl (r5compareTag_ok _ (ix e.tags (s5 - 1)) (ix e.tags s5)) fun w8 st hF => ?_
        refine ⟨(st.picks [0] (by decide)).takeK 1, ?_⟩
        refine Py rfl (yge rfl) (Pl_nil (Th_n (k23 _ _ (cD rfl (fun hc6 => ?_) (fun hc6 => ?_)))))
        · refine sq fun _ k24 => rg (Ls' rfl (Ln k24 (Wp_ret (Ib_r (Th_r (Th_r (Ib_r (Th_r (Fq_ret (Res1 rfl rfl) ?_)))))))))
          have hret1 : r14checkE_L2 e s4 (((e.tags.length : Int) - (1 : Int)).toNat + 1) (1 : Int) = .inl 3 := by rewrite [← hL2, r14checkE_L2]; rewrite [if_pos hc5, if_pos hc6]; rfl
          have he6 : r14checkE_m e = 3 := by unfold r14checkE_m; rewrite [if_pos hc1, if_pos hc2, hLk1]; (try dsimp only); all_goals rewrite [if_neg hc3, if_neg hc4, hret1]; (try dsimp only); all_goals rfl
          rewrite [he6]
          exact ⟨rfl, hF⟩
        refine Wp_skip (Ib_n (Th_n (k22 _ _ (rg (Lm rfl (Ly rfl (y_add (c := s5 + 1) rfl rfl rfl (wf_i64 (by first | omega | (simp; done) | (simp; omega)))) ?_))))))
        refine Ls' rfl (Ls_nil (Th_n (?_)))
        exact ⟨fuel, [(1, _), (5, _)], Nat.lt_succ_self _, ⟨rfl, rfl, trivial⟩, (s5 + 1), rfl, ⟨by rewrite [← hL2, r14checkE_L2]; rewrite [if_pos hc5, if_neg hc6]; rfl, by first | omega | (simp; done) | (simp; omega)⟩, by first | omega | (simp; done) | (simp; omega), (st.picks [0] (by decide)).pickK [0], hF⟩
      refine Wp_exit (Th_e (Th_e (Ib_hit (Th_n (?_)))))
      exact hout3 _ [(1, _), (5, _)] _ ⟨rfl, rfl, trivial⟩ ⟨s5, rfl, show _ = _ from by rewrite [← hL2, r14checkE_L2]; rewrite [if_neg hc5]; rfl, by first | omega | (simp; done) | (simp; omega), (st.picks [0] (by decide)).pickK [0], hF⟩
    refine rg (Ly rfl (yf rfl Ty.fo_31_0) (Ly rfl (yl 0 Ty.pl_3 st rfl) (La rfl (Scl st hF rfl (r14timed_ok _ e.act) fun w9 st hF => Lm rfl (bB (s := 42) rfl (fun hc7 => ?_) (fun hc7 => ?_))))))
    · refine LyT rfl (yf rfl Ty.fo_31_4) (LyT rfl (ym 0 Ty.ag_28 st rfl) (LaT rfl (Scl st hF rfl (r9check_ok _ e.atF) fun w10 st hF => LyT rfl (yne rfl) (LyT rfl (y_move rfl rfl) (bN (s := 47) rfl (fun hc8 => ?_) (fun hc8 => ?_))))))
      · refine LsF rfl (LsF rfl (LsF rfl (LsF rfl (LyT rfl (yT rfl) (Ly rfl (yT rfl) (Lm rfl (LsF rfl (LsF rfl (LsF rfl (LsF rfl (LsF rfl (LsU rfl (LsU rfl (LsU rfl (LsU rfl (LsF rfl (Ly rfl (yT rfl) (Lm rfl (LsF rfl (LsF rfl (LsF rfl (LsF rfl (LsF rfl (LsU rfl (LsU rfl (LsU rfl (LsU rfl (LsF rfl (Ly rfl (yT rfl) (Ls_nil (Th_n (?_))))))))))))))))))))))))))))))))
        exact hout2 _ [(1, _), (77, _)] _ ⟨rfl, rfl, trivial⟩ ⟨by unfold r14checkE_c1; rewrite [if_pos hc7, if_neg hc8]; rfl, (st.picks [0] (by decide)).pickK [0], hF⟩
      refine LyT rfl (yf rfl Ty.fo_31_4) (LyT rfl (yf rfl Ty.fo_28_0) (LyT rfl (yl 0 Ty.pl_22 st rfl) (LyT rfl (yeq rfl) (LyT rfl (yF rfl) (Ly rfl (yT rfl) (Lm rfl (bE (s := 54) rfl (fun hc9 => ?_) (fun hc9 => ?_))))))))
      · refine LsF rfl (LsF rfl (LsF rfl (LsF rfl (LsF rfl (LsU rfl (LsU rfl (LsU rfl (LsU rfl (LsF rfl (Ly rfl (yT rfl) (Lm rfl (LsF rfl (LsF rfl (LsF rfl (LsF rfl (LsF rfl (LsU rfl (LsU rfl (LsU rfl (LsU rfl (LsF rfl (Ly rfl (yT rfl) (Ls_nil (Th_n (?_)))))))))))))))))))))))))
        exact hout2 _ [(1, _), (77, _)] _ ⟨rfl, rfl, trivial⟩ ⟨by unfold r14checkE_c1; rewrite [if_pos hc7, if_pos hc8, if_pos hc9]; rfl, (st.picks [0] (by decide)).pickK [0], hF⟩
      refine LyT rfl (yf rfl Ty.fo_31_0) (LyT rfl (yl 0 Ty.pl_3 st rfl) (LaT rfl (Scl st hF rfl (r14timed_ok _ e.act) fun w11 st hF => LyT rfl (yn rfl) (LyT rfl (y_move rfl rfl) (Ls_bool 59 rfl (fun hc10 => absurd hc10 (by simp [hc7])) (fun _ => ?_))))))
      refine LsF rfl (LsF rfl (LsF rfl (LsF rfl (LyT rfl (yF rfl) (Ly rfl (yF rfl) (Lm rfl (LyT rfl (yf rfl Ty.fo_31_0) (LyT rfl (yl 0 Ty.pl_3 st rfl) (LaT rfl (Scl st hF rfl (r14takes_ok _ e.act) fun w12 st hF => LyT rfl (yn rfl) (LyT rfl (y_move rfl rfl) (bBn (s := 71) rfl (fun hc11 => ?_) (fun hc11 => ?_)))))))))))))
      · refine LyT rfl (yf rfl Ty.fo_31_5) (LyT rfl (yl 0 Ty.pl_29 st rfl) (LyT rfl (yll rfl Tryz.underlying29) (LyT rfl (ygt rfl) (LyT rfl (yT rfl) (Ly rfl (yF rfl) (Ls_nil (Th_n (?_))))))))
        exact hout2 _ [(1, _), (77, _)] _ ⟨rfl, rfl, trivial⟩ ⟨by unfold r14checkE_c1; rewrite [if_pos hc7, if_pos hc8, if_neg hc9, if_neg hc11]; rfl, (st.picks [0] (by decide)).pickK [0], hF⟩
      refine LsF rfl (LsF rfl (LsF rfl (LsF rfl (LyT rfl (yF rfl) (Ly rfl (yF rfl) (Ls_nil (Th_n (?_))))))))
      exact hout2 _ [(1, _), (77, _)] _ ⟨rfl, rfl, trivial⟩ ⟨by unfold r14checkE_c1; rewrite [if_pos hc7, if_pos hc8, if_neg hc9, if_pos hc11]; rfl, (st.picks [0] (by decide)).pickK [0], hF⟩
    refine LsF rfl (LsF rfl (LsF rfl (LsF rfl (LsF rfl (LsU rfl (LsU rfl (LsU rfl (LsU rfl (LsF rfl (Ly rfl (yF rfl) (Lm rfl (LyT rfl (yf rfl Ty.fo_31_0) (LyT rfl (yl 0 Ty.pl_3 st rfl) (LaT rfl (Scl st hF rfl (r14timed_ok _ e.act) fun w13 st hF => LyT rfl (yn rfl) (LyT rfl (y_move rfl rfl) (Ls_bool 59 rfl (fun _ => ?_) (fun hc12 => absurd hc12 (by simp [hc7])))))))))))))))))))
    refine LyT rfl (yf rfl Ty.fo_31_4) (LyT rfl (ym 0 Ty.ag_28 st rfl) (LyT rfl (y_build (cells := [_, _]) rfl rfl Ty.zc_28 Ty.ps_28 rfl) (LyT rfl (y_nev (b := decide (e.atF = (⟨0, 0⟩ : StampM))) rfl rfl rfl Ty.eg_28 (by rw [Ty.ag_28]; simp) (eqv_28 e.atF (⟨0, 0⟩ : StampM))) ?_)))
    refine LyT rfl (yT rfl) (Ly rfl (yF rfl) (Lm rfl (bDn (s := 66) rfl (fun hc13 => ?_) (fun hc13 => ?_))))
    · refine LsF rfl (LsF rfl (LsF rfl (LsF rfl (LsF rfl (LsU rfl (LsU rfl (LsU rfl (LsU rfl (LsF rfl (Ly rfl (yT rfl) (Ls_nil (Th_n (?_)))))))))))))
      exact hout2 _ [(1, _), (77, _)] _ ⟨rfl, rfl, trivial⟩ ⟨by unfold r14checkE_c1; rewrite [if_neg hc7, if_neg hc13]; rfl, (st.picks [0] (by decide)).pickK [0], hF⟩
    refine LyT rfl (yf rfl Ty.fo_31_0) (LyT rfl (yl 0 Ty.pl_3 st rfl) (LaT rfl (Scl st hF rfl (r14takes_ok _ e.act) fun w14 st hF => LyT rfl (yn rfl) (LyT rfl (y_move rfl rfl) (bBn (s := 71) rfl (fun hc14 => ?_) (fun hc14 => ?_))))))
    · refine LyT rfl (yf rfl Ty.fo_31_5) (LyT rfl (yl 0 Ty.pl_29 st rfl) (LyT rfl (yll rfl Tryz.underlying29) (LyT rfl (ygt rfl) (LyT rfl (yT rfl) (Ly rfl (yF rfl) (Ls_nil (Th_n (?_))))))))
      exact hout2 _ [(1, _), (77, _)] _ ⟨rfl, rfl, trivial⟩ ⟨by unfold r14checkE_c1; rewrite [if_neg hc7, if_pos hc13, if_neg hc14]; rfl, (st.picks [0] (by decide)).pickK [0], hF⟩
    refine LsF rfl (LsF rfl (LsF rfl (LsF rfl (LyT rfl (yF rfl) (Ly rfl (yF rfl) (Ls_nil (Th_n (?_))))))))
    exact hout2 _ [(1, _), (77, _)] _ ⟨rfl, rfl, trivial⟩ ⟨by unfold r14checkE_c1; rewrite [if_neg hc7, if_pos hc13, if_pos hc14]; rfl, (st.picks [0] (by decide)).pickK [0], hF⟩
  rintro m E w15 ⟨s4, rfl, ⟨hL1, hmu⟩, hinv, st, hF⟩
  obtain ⟨fuel, rfl⟩ : ∃ q, m = q + 1 := ⟨m - 1, by omega⟩
  refine sq fun _ k25 => sq fun _ k26 => rg (Lm rfl (Ly rfl (yf rfl Ty.fo_31_5) (Ly rfl (yl 0 Ty.pl_29 st rfl) (Ly rfl (yll rfl Tryz.underlying29) (Ly rfl (ylt rfl) (Ln k26 (cD rfl (fun hc15 => ?_) (fun hc15 => ?_))))))))
  · refine sk k25 (sq fun _ k27 => Wp_block (sq fun _ k28 => rg (Ly rfl (yf rfl Ty.fo_31_5) (Ly rfl (yl 0 Ty.pl_29 st rfl) (Lm rfl ?_)))))
    obtain ⟨gi2, bi2, egi2⟩ := (st.k (i := 0) rfl).addr (fun _ => rfl) (by decide) (q := s4) (by first | omega | (simp; done) | (simp; omega)) (by first | omega | (simp; done) | (simp; omega))
    subst egi2
    refine Ly rfl (y_ixa (q := s4) rfl rfl rfl Ty.es_29 (by first | omega | (simp; done) | (simp; omega)) (by first | omega | (simp; done) | (simp; omega))) ?_
    refine Ly rfl (y_ldk (q := s4) rfl rfl Ty.ag_26 (fun _ e => e ▸ st.k (i := 0) rfl) (fun _ => rfl) (by first | omega | (simp; done) | (simp; omega)) (by first | omega | (simp; done) | (simp; omega))) ?_
    refine La rfl (Scl st hF rfl (r5checkTag_ok _ (ix e.tags s4)) fun w16 st hF => Ly rfl (yne rfl) (Ln k28 (cN rfl (fun hc16 => ?_) (fun hc16 => ?_))))
    · refine sq fun _ k29 => rg (Ls' rfl (Ln k29 (Wp_ret (Ib_r (Th_r (Th_r (Ib_r (Th_r (Fq_ret (Res1 rfl rfl) ?_)))))))))
      have hret2 : r14checkE_L1 e (((e.tags.length : Int) - (0 : Int)).toNat + 1) (0 : Int) = .inl 2 := by rewrite [← hL1, r14checkE_L1]; rewrite [if_pos hc15, if_neg hc16]; rfl
      have he7 : r14checkE_m e = 2 := by unfold r14checkE_m; rewrite [if_pos hc1, if_pos hc2, hret2]; (try dsimp only); all_goals rfl
      rewrite [he7]
      exact ⟨rfl, hF⟩
    refine Wp_skip (Ib_n (Th_n (k27 _ _ (rg (Lm rfl (Ly rfl (y_add (c := s4 + 1) rfl rfl rfl (wf_i64 (by first | omega | (simp; done) | (simp; omega)))) ?_))))))
    refine Ls' rfl (Ls_nil (Th_n (?_)))
    exact ⟨fuel, [(1, _), (4, _)], Nat.lt_succ_self _, ⟨rfl, rfl, trivial⟩, (s4 + 1), rfl, ⟨by rewrite [← hL1, r14checkE_L1]; rewrite [if_pos hc15, if_pos hc16]; rfl, by first | omega | (simp; done) | (simp; omega)⟩, by first | omega | (simp; done) | (simp; omega), (st.picks [0] (by decide)).pickK [0], hF⟩
  refine Wp_exit (Th_e (Th_e (Ib_hit (Th_n (?_)))))
  exact hout1 _ [(1, _), (4, _)] _ ⟨rfl, rfl, trivial⟩ ⟨s4, rfl, show _ = _ from by rewrite [← hL1, r14checkE_L1]; rewrite [if_neg hc15]; rfl, by first | omega | (simp; done) | (simp; omega), (st.picks [0] (by decide)).pickK [0], hF⟩

theorem eqv_26r (a0 : Int) (a1 : Int) (a2 : Int) (b0 : Int) (b1 : Int) (b2 : Int) : eqVals Tryz.prog 8 26 [.int .i64 a0, .int .u32 a1, .int .i64 a2] [.int .i64 b0, .int .u32 b1, .int .i64 b2] = some (((a0 == b0) && ((a1 == b1) && true)) && ((a2 == b2) && true)) := by kernel_rfl
theorem eqv_26 (x y : TagM) : eqVals Tryz.prog 8 26 (tagMC x) (tagMC y) = some (decide (x = y)) := by
  obtain ⟨⟨a0, a1⟩, a2⟩ := x
  obtain ⟨⟨b0, b1⟩, b2⟩ := y
  refine (eqv_26r a0 a1 a2 b0 b1 b2).trans (congrArg some ?_)
  rw [Bool.eq_iff_iff]
  simp
def sameTags_L1 (a : List TagM) (b : List TagM) : Nat → Int → (Bool) ⊕ (Int)
  | 0, s5 => .inr (s5)
  | fuel + 1, s5 =>
    if s5 < (a.length : Int) then
      if ix a s5 = ix b s5 then
        sameTags_L1 a b fuel (s5 + 1)
      else
        .inl false
    else
      .inr (s5)
def sameTags_m (a : List TagM) (b : List TagM) : Bool :=
  if (a.length : Int) = (b.length : Int) then
    match sameTags_L1 a b (((a.length : Int) - (0 : Int)).toNat + 1) (0 : Int) with
    | .inl r => r
    | .inr (s5) =>
      true
  else
    false


set_option maxRecDepth 20000 in
theorem sameTags_ok (X : List Nat) (w : World) (hX : Lo X w) (a : List TagM) (A_a : Option Addr) (c_a : Nat) (b : List TagM) (A_b : Option Addr) (c_b : Nat) (h_a : Sld X w A_a a.length c_a 3 (a.flatMap tagMC)) (h_b : Sld X w A_b b.length c_b 3 (b.flatMap tagMC)) :
    Fn Tryz.prog 33 [.slice A_a a.length c_a, .slice A_b b.length c_b] w fun v w' => v = .bool (sameTags_m a b) ∧ Fr [] w w' := by
  refine Fn_of 26 Ty.en_33 Tryz.func33 rfl rfl rfl ?_
  dsimp only [argEnv]
  have st := stn2 hX h_a h_b
  have hF := Fr.refl ([]) w
  have z1 := (st.q 0 rfl).le
  have z2 := (st.q 1 rfl).le
  refine sq fun _ k1 => rg (Ls' rfl (Ln k1 (sq fun _ k2 => sq fun _ k3 => rg (Lm rfl (Ly rfl (yll rfl Tryz.underlying29) (Lm rfl (Ly rfl (yll rfl Tryz.underlying29) (Ly rfl (yne rfl) (Ln k3 (cN rfl (fun hc1 => ?_) (fun hc1 => ?_)))))))))))
  · refine sq fun _ k4 => rg (Ls' rfl (Ln k4 (Wp_ret (Th_r (Fq_ret (Res1 rfl rfl) ?_)))))
    unfold sameTags_m; rewrite [if_neg hc1]
    exact ⟨rfl, hF⟩
  refine sk k2 (sq fun _ k5 => sq fun _ k6 => rg (Ls' rfl (Ln k6 (Wp_block (lp (fun q E W => ∃ (s5 : Int), E = [(0, .slice A_a a.length c_a), (1, .slice A_b b.length c_b), (5, .int .i64 s5)] ∧ jq q (fun m => (sameTags_L1 a b m s5 = sameTags_L1 a b (((a.length : Int) - (0 : Int)).toNat + 1) (0 : Int) ∧ ((a.length : Int) - s5).toNat < m)) (sameTags_L1 a b (((a.length : Int) - (0 : Int)).toNat + 1) (0 : Int) = .inr (s5)) ∧ (0 ≤ s5) ∧ St X W [] [kS A_a a.length c_a 3 (a.flatMap tagMC), kS A_b b.length c_b 3 (b.flatMap tagMC)] ∧ Fr ([]) w W) (((a.length : Int) - (0 : Int)).toNat + 1) [(0, _), (1, _), (5, _)] ⟨rfl, rfl, rfl, trivial⟩ ⟨_, rfl, ⟨rfl, Nat.lt_succ_self _⟩, by first | omega | (simp; done) | (simp; omega), st, hF⟩ k5 ?_ fun hout1 => ?_)))))
  · rintro E w1 ⟨s5, rfl, hLk1, hinv, st, hF⟩
    unfold jq at hLk1; dsimp only at hLk1
    refine sq fun _ k7 => rg (Ls' rfl (Ln k7 (Wp_ret (Fq_ret (Res1 rfl rfl) ?_))))
    unfold sameTags_m; rewrite [if_pos hc1, hLk1]; (try dsimp only)
    exact ⟨rfl, hF⟩
  rintro m E w2 ⟨s5, rfl, ⟨hL1, hmu⟩, hinv, st, hF⟩
  obtain ⟨fuel, rfl⟩ : ∃ q, m = q + 1 := ⟨m - 1, by omega⟩
  refine sq fun _ k8 => sq fun _ k9 => rg (Lm rfl (Lm rfl (Ly rfl (yll rfl Tryz.underlying29) (Ly rfl (ylt rfl) (Ln k9 (cD rfl (fun hc2 => ?_) (fun hc2 => ?_)))))))
  · refine sk k8 (sq fun _ k10 => Wp_block (sq fun _ k11 => ?_))
    refine Wp_plan (fun W => St X W (pickL (hOf st) []) (kOf st)) [(true, 0), (true, 1), (true, 2), (true, 3), (true, 4), (true, 5), (true, 6), (true, 7), (true, 8)] Ty.mx_0 (by kernel_rfl) (by kernel_rfl) rfl ((st.picks [] (by decide)).drew) ?_
    have st := st.drew
    have hF := hF.step0 (Fr.drew _)
    refine Pm rfl (Pm rfl ?_)
    obtain ⟨gi1, bi1, egi1⟩ := (st.k (i := 0) rfl).addr (fun _ => rfl) (by decide) (q := s5) (by first | omega | (simp; done) | (simp; omega)) (by first | omega | (simp; done) | (simp; omega))
    subst egi1
    refine Py rfl (y_ixa (q := s5) rfl rfl rfl Ty.es_29 (by first | omega | (simp; done) | (simp; omega)) (by first | omega | (simp; done) | (simp; omega))) ?_
    refine Py rfl (y_ldk (q := s5) rfl rfl Ty.ag_26 (fun _ h => h.k (i := 0) rfl) (fun _ => rfl) (by first | omega | (simp; done) | (simp; omega)) (by first | omega | (simp; done) | (simp; omega))) ?_
    refine Pm rfl (Pm rfl ?_)
    obtain ⟨gi2, bi2, egi2⟩ := (st.k (i := 1) rfl).addr (fun _ => rfl) (by decide) (q := s5) (by first | omega | (simp; done) | (simp; omega)) (by first | omega | (simp; done) | (simp; omega))
    subst egi2
    refine Py rfl (y_ixa (q := s5) rfl rfl rfl Ty.es_29 (by first | omega | (simp; done) | (simp; omega)) (by first | omega | (simp; done) | (simp; omega))) ?_
    refine Py rfl (y_ldk (q := s5) rfl rfl Ty.ag_26 (fun _ h => h.k (i := 1) rfl) (fun _ => rfl) (by first | omega | (simp; done) | (simp; omega)) (by first | omega | (simp; done) | (simp; omega))) ?_
    refine Py rfl (y_nev (b := decide (ix a s5 = ix b s5)) rfl rfl rfl Ty.eg_26 (by rw [Ty.ag_26]; simp) (eqv_26 (ix a s5) (ix b s5))) ?_
    refine Pl_nil (Th_n (k11 _ _ (cDn rfl (fun hc3 => ?_) (fun hc3 => ?_))))
    · refine sq fun _ k12 => rg (Ls' rfl (Ln k12 (Wp_ret (Ib_r (Th_r (Th_r (Ib_r (Th_r (Fq_ret (Res1 rfl rfl) ?_)))))))))
      have hret1 : sameTags_L1 a b (((a.length : Int) - (0 : Int)).toNat + 1) (0 : Int) = .inl false := by rewrite [← hL1, sameTags_L1]; rewrite [if_pos hc2, if_neg hc3]; rfl
      have he3 : sameTags_m a b = false := by unfold sameTags_m; rewrite [if_pos hc1, hret1]; (try dsimp only); all_goals rfl
      rewrite [he3]
      exact ⟨rfl, hF⟩
    refine Wp_skip (Ib_n (Th_n (k10 _ _ (rg (Lm rfl (Ly rfl (y_add (c := s5 + 1) rfl rfl rfl (wf_i64 (by first | omega | (simp; done) | (simp; omega)))) ?_))))))
    refine Ls' rfl (Ls_nil (Th_n (?_)))
    exact ⟨fuel, [(0, _), (1, _), (5, _)], Nat.lt_succ_self _, ⟨rfl, rfl, rfl, trivial⟩, (s5 + 1), rfl, ⟨by rewrite [← hL1, sameTags_L1]; rewrite [if_pos hc2, if_pos hc3]; rfl, by first | omega | (simp; done) | (simp; omega)⟩, by first | omega | (simp; done) | (simp; omega), (st.picks [] (by decide)).pickK [0, 1], hF⟩
  refine Wp_exit (Th_e (Th_e (Ib_hit (Th_n (?_)))))
  exact hout1 _ [(0, _), (1, _), (5, _)] _ ⟨rfl, rfl, rfl, trivial⟩ ⟨s5, rfl, show _ = _ from by rewrite [← hL1, sameTags_L1]; rewrite [if_neg hc2]; rfl, by first | omega | (simp; done) | (simp; omega), (st.picks [] (by decide)).pickK [0, 1], hF⟩

def sameEffect_m (a : EffectM) (b : EffectM) : Bool :=
  if a.act = b.act then
    if a.name = b.name then
      if a.val = b.val then
        if a.tag = b.tag then
          if a.atF = b.atF then
            sameTags_m a.tags b.tags
          else
            false
        else
          false
      else
        false
    else
      false
  else
    false


set_option maxRecDepth 20000 in
theorem sameEffect_ok (X : List Nat) (w : World) (hX : Lo X w) (a : EffectM) (A1 : Option Addr) (C1 : Nat) (b : EffectM) (A2 : Option Addr) (C2 : Nat) (z3 : Sld X w A1 a.tags.length C1 3 (a.tags.flatMap tagMC)) (z4 : Sld X w A2 b.tags.length C2 3 (b.tags.flatMap tagMC)) :
    Fn Tryz.prog 9 [.agg #[.int .i64 a.act, sv a.name, .int .i64 a.val, .int .i64 a.tag.id.origin, .int .u32 a.tag.id.seq, .int .i64 a.tag.n, .int .u32 a.atF.time, .int .i64 a.atF.origin, .slice A1 a.tags.length C1], .agg #[.int .i64 b.act, sv b.name, .int .i64 b.val, .int .i64 b.tag.id.origin, .int .u32 b.tag.id.seq, .int .i64 b.tag.n, .int .u32 b.atF.time, .int .i64 b.atF.origin, .slice A2 b.tags.length C2]] w fun v w' => v = .bool (sameEffect_m a b) ∧ Fr [] w w' := by
  refine Fn_of 45 Ty.en_9 Tryz.func9 rfl rfl rfl ?_
  dsimp only [argEnv]
  have st := stn2 hX z3 z4
  have hF := Fr.refl ([]) w
  have z1 := (st.q 0 rfl).le
  have z2 := (st.q 1 rfl).le
  refine sq fun _ k1 => rg (La rfl (Sbx st hF rfl fun g1 w1 (st : St _ _ [_] _) hF hg1 => La rfl (Sbx st hF rfl fun g2 w2 (st : St _ _ [_, _] _) hF hg2 => Ls' rfl (Ln k1 (sq fun _ k2 => rg (Ly rfl (yf rfl Ty.fo_31_0) (Ly rfl (yl 0 Ty.pl_3 st rfl) (Ly rfl (yf rfl Ty.fo_31_0) (Ly rfl (yl 1 Ty.pl_3 st rfl) (Ly rfl (yeq rfl) (Lm rfl (bE (s := 10) rfl (fun hc1 => ?_) (fun hc1 => ?_)))))))))))))
  · refine LyT rfl (yf rfl Ty.fo_31_1) (LyT rfl (yl 0 Ty.pl_9 st rfl) (LyT rfl (yf rfl Ty.fo_31_1) (LyT rfl (yl 1 Ty.pl_9 st rfl) (LyT rfl (y_eqs rfl rfl rfl) (Ly rfl (yT rfl) (Lm rfl (bE (s := 17) rfl (fun hc2 => ?_) (fun hc2 => ?_))))))))
    · refine LyT rfl (yf rfl Ty.fo_31_2) (LyT rfl (yl 0 Ty.pl_2 st rfl) (LyT rfl (yf rfl Ty.fo_31_2) (LyT rfl (yl 1 Ty.pl_2 st rfl) (LyT rfl (yeq rfl) (Ly rfl (yT rfl) (Lm rfl (bE (s := 24) rfl (fun hc3 => ?_) (fun hc3 => ?_))))))))
      · refine LyT rfl (yf rfl Ty.fo_31_3) (LyT rfl (ym 0 Ty.ag_26 st rfl) (LyT rfl (yf rfl Ty.fo_31_3) (LyT rfl (ym 1 Ty.ag_26 st rfl) (LyT rfl (y_eqv (b := decide (a.tag = b.tag)) rfl rfl rfl Ty.eg_26 (by rw [Ty.ag_26]; simp) (eqv_26 a.tag b.tag)) ?_))))
        refine Ly rfl (yT rfl) (Lm rfl (bD (s := 31) rfl (fun hc4 => ?_) (fun hc4 => ?_)))
        · refine LyT rfl (yf rfl Ty.fo_31_4) (LyT rfl (ym 0 Ty.ag_28 st rfl) (LyT rfl (yf rfl Ty.fo_31_4) (LyT rfl (ym 1 Ty.ag_28 st rfl) (LyT rfl (y_eqv (b := decide (a.atF = b.atF)) rfl rfl rfl Ty.eg_28 (by rw [Ty.ag_28]; simp) (eqv_28 a.atF b.atF)) ?_))))
          refine Ly rfl (yT rfl) (Lm rfl (bD (s := 38) rfl (fun hc5 => ?_) (fun hc5 => ?_)))
          · refine LyT rfl (yf rfl Ty.fo_31_5) (LyT rfl (yl 0 Ty.pl_29 st rfl) (LyT rfl (yf rfl Ty.fo_31_5) (LyT rfl (yl 1 Ty.pl_29 st rfl) (LaT rfl (Scl st hF rfl (sameTags_ok (keys (hOf st) ++ X) _ st.Lo a.tags A1 C1 b.tags A2 C2 (st.q 0 rfl) (st.q 1 rfl)) fun w3 st hF => Ly rfl (yT rfl) (Ls' rfl (Ln k2 (Wp_ret (Fq_ret (Res1 rfl rfl) ?_)))))))))
            unfold sameEffect_m; rewrite [if_pos hc1, if_pos hc2, if_pos hc3, if_pos hc4, if_pos hc5]
            exact ⟨rfl, hF⟩
          refine LsF rfl (LsF rfl (LsF rfl (LsF rfl (LsF rfl (Ly rfl (yF rfl) (Ls' rfl (Ln k2 (Wp_ret (Fq_ret (Res1 rfl rfl) ?_)))))))))
          unfold sameEffect_m; rewrite [if_pos hc1, if_pos hc2, if_pos hc3, if_pos hc4, if_neg hc5]
          exact ⟨rfl, hF⟩
        refine LsF rfl (LsF rfl (LsF rfl (LsF rfl (LsF rfl (Ly rfl (yF rfl) (Lm rfl (LsF rfl (LsF rfl (LsF rfl (LsF rfl (LsF rfl (Ly rfl (yF rfl) (Ls' rfl (Ln k2 (Wp_ret (Fq_ret (Res1 rfl rfl) ?_))))))))))))))))
        unfold sameEffect_m; rewrite [if_pos hc1, if_pos hc2, if_pos hc3, if_neg hc4]
        exact ⟨rfl, hF⟩
      refine LsF rfl (LsF rfl (LsF rfl (LsF rfl (LsF rfl (Ly rfl (yF rfl) (Lm rfl (LsF rfl (LsF rfl (LsF rfl (LsF rfl (LsF rfl (Ly rfl (yF rfl) (Lm rfl (LsF rfl (LsF rfl (LsF rfl (LsF rfl (LsF rfl (Ly rfl (yF rfl) (Ls' rfl (Ln k2 (Wp_ret (Fq_ret (Res1 rfl rfl) ?_)))))))))))))))))))))))
      unfold sameEffect_m; rewrite [if_pos hc1, if_pos hc2, if_neg hc3]
      exact ⟨rfl, hF⟩
    refine LsF rfl (LsF rfl (LsF rfl (LsF rfl (LsF rfl (Ly rfl (yF rfl) (Lm rfl (LsF rfl (LsF rfl (LsF rfl (LsF rfl (LsF rfl (Ly rfl (yF rfl) (Lm rfl (LsF rfl (LsF rfl (LsF rfl (LsF rfl (LsF rfl (Ly rfl (yF rfl) (Lm rfl (LsF rfl (LsF rfl (LsF rfl (LsF rfl (LsF rfl (Ly rfl (yF rfl) (Ls' rfl (Ln k2 (Wp_ret (Fq_ret (Res1 rfl rfl) ?_))))))))))))))))))))))))))))))
    unfold sameEffect_m; rewrite [if_pos hc1, if_neg hc2]
    exact ⟨rfl, hF⟩
  refine LsF rfl (LsF rfl (LsF rfl (LsF rfl (LsF rfl (Ly rfl (yF rfl) (Lm rfl (LsF rfl (LsF rfl (LsF rfl (LsF rfl (LsF rfl (Ly rfl (yF rfl) (Lm rfl (LsF rfl (LsF rfl (LsF rfl (LsF rfl (LsF rfl (Ly rfl (yF rfl) (Lm rfl (LsF rfl (LsF rfl (LsF rfl (LsF rfl (LsF rfl (Ly rfl (yF rfl) (Lm rfl (LsF rfl (LsF rfl (LsF rfl (LsF rfl (LsF rfl (Ly rfl (yF rfl) (Ls' rfl (Ln k2 (Wp_ret (Fq_ret (Res1 rfl rfl) ?_)))))))))))))))))))))))))))))))))))))
  unfold sameEffect_m; rewrite [if_neg hc1]
  exact ⟨rfl, hF⟩

def r2num_c1 (u : Int) (s3 : List Int) (s4 : Int) : Bool :=
  (if 0 < (s3.length : Int) then true else ((shrN u ((8 * s4) % 18446744073709551616) 64) % 256) != 0)

def r2num_L1 (u : Int) : Nat → (List Int) → Int → ((List UInt8)) ⊕ ((List Int) × Int)
  | 0, s3, s4 => .inr (s3, s4)
  | fuel + 1, s3, s4 =>
    if 0 ≤ s4 then
      if (r2num_c1 u s3 s4) = true then
        r2num_L1 u fuel (s3 ++ [(shrN u ((8 * s4) % 18446744073709551616) 64) % 256]) (s4 - 1)
      else
        r2num_L1 u fuel s3 (s4 - 1)
    else
      .inr (s3, s4)
def r2num_m (u : Int) : (List UInt8) :=
  match r2num_L1 u (((7 : Int) + 1).toNat + 1) ([] : List Int) (7 : Int) with
  | .inl r => r
  | .inr (s3, s4) =>
    bytesOf ([(s3.length : Int) % 256] ++ s3)

theorem r2num_c1_iff (u : Int) (s3 : List Int) (s4 : Int) : (r2num_c1 u s3 s4 = true) ↔ ((0 < (s3.length : Int)) ∨ (¬ (((shrN u ((8 * s4) % 18446744073709551616) 64) % 256) = 0))) := by
  unfold r2num_c1; exact (ci1 (by simp))

set_option maxRecDepth 20000 in
theorem r2num_ok (w : World) (u : Int) :
    Fn Tryz.prog 26 [.int .u64 u] w fun v w' => v = sv (r2num_m u) ∧ Fr [] w w' := by
  refine Fn_of 34 Ty.en_26 Tryz.func26 rfl rfl rfl ?_
  dsimp only [argEnv]
  have st := stn0 (X := []) (w := w) (by simp [Lo])
  have hF := Fr.refl ([]) w
  refine sq fun _ k1 => rg (Ls' rfl (Ln k1 (sq fun _ k2 => rg (Ls' rfl (Ln k2 (sq fun _ k3 => sq fun _ k4 => rg (Ls' rfl (Ln k4 (Wp_block ?_)))))))))
  obtain ⟨st, how1, hnew1⟩ := st.rowN (fun x => [Value.int .u8 x]) hF 1 5
  have st : St _ _ [_] _ := st
  refine lp (fun q E W => ∃ (s3 : List Int) (s4 : Int) (As3 : Option Addr) (cs3 : Nat) (sps3 : List Value), E = [(0, .int .u64 u), (3, .slice As3 s3.length cs3), (4, .int .i64 s4)] ∧ jq q (fun m => (r2num_L1 u m s3 s4 = r2num_L1 u (((7 : Int) + 1).toNat + 1) ([] : List Int) (7 : Int) ∧ (s4 + 1).toNat < m)) (r2num_L1 u (((7 : Int) + 1).toNat + 1) ([] : List Int) (7 : Int) = .inr (s3, s4)) ∧ (-1 ≤ s4 ∧ s4 ≤ 7 ∧ (s3.length : Int) ≤ 7 - s4) ∧ Ow As3 s3.length cs3 1 (s3.flatMap (fun x => [Value.int .u8 x])) sps3 ∧ (∀ g, blkOf As3 = some g → g ∈ ([]) ∨ w.heap.size ≤ g) ∧ St [] W [(blkOf As3, Cl (s3.flatMap (fun x => [Value.int .u8 x]) ++ sps3) 5)] [] ∧ Fr ([]) w W) (((7 : Int) + 1).toNat + 1) [(0, _), (3, _), (4, _)] ⟨rfl, rfl, rfl, trivial⟩ ⟨_, _, _, _, _, rfl, ⟨rfl, Nat.lt_succ_self _⟩, by first | omega | (simp; done) | (simp; omega), how1, hnew1, st, hF⟩ k3 ?_ fun hout1 => ?_
  · rintro E w1 ⟨s3, s4, As3, cs3, sps3, rfl, hLk1, hinv, hows3, news3, st, hF⟩
    unfold jq at hLk1; dsimp only at hLk1
    refine sq fun _ k5 => rg (Lm rfl (Ly rfl (yll rfl Tryz.underlying108) (Ly rfl (y_cvi (c := (s3.length : Int) % 256) rfl rfl Tryz.underlying3 Tryz.underlying5 wm_u8) (La rfl (a_bsl rfl rfl rfl rfl rfl Ty.es_108 Ty.zc_5 rfl (by decide) (by simp [Value.cells]) st.hp (fun g1 w2 (hp : Hp w2 [_, _]) hf hg1 => ?_))))))
    have how2 : Ow (some ⟨g1, 0, none⟩) [(s3.length : Int) % 256].length 1 1 ([(s3.length : Int) % 256].flatMap (fun x => [Value.int .u8 x])) [] := ⟨rfl, .inr ⟨g1, rfl, rfl, Nat.le_refl _, by unfold maxLen; decide⟩⟩
    have st : St [] w2 [_, _] [] := st.push hp hf hg1
    have st : St [] w2 [_, _] [] := st
    have hg1 := Nat.le_trans hF.size hg1
    have hF := hF.step0 hf
    have hnew2 := newB (X0 := []) hg1
    refine Lm rfl (La rfl (Sap (enc := (fun x => [Value.int .u8 x])) [(s3.length : Int) % 256] s3 1 Ty.es_108 Ty.zc_5 Ty.by_5 (fun _ => rfl) (oneS fun _ => rfl) how2 hnew2 st hF (own_src (i := 0) st.hp rfl hows3) (own_none hows3) rfl (by first | omega | (simp; done) | (simp; omega)) (by first | omega | (simp; done) | (simp; omega)) fun Aa1 ca1 sp1 w3 how3 hnew3 (st : St _ _ [_, _] _) hF => ?_))
    refine Ly rfl (y_cvO (i := 1) rfl rfl Tryz.underlying108 Tryz.underlying5 Tryz.underlying9 how3 (fun _ e => e ▸ st.hp) rfl) (Ls' rfl (Ln k5 (Wp_ret (Fq_ret (Res1 rfl rfl) ?_))))
    unfold r2num_m; rewrite [hLk1]; (try dsimp only)
    exact ⟨rfl, hF⟩
  rintro m E w4 ⟨s3, s4, As3, cs3, sps3, rfl, ⟨hL1, hmu⟩, hinv, hows3, news3, st, hF⟩
  obtain ⟨fuel, rfl⟩ : ∃ q, m = q + 1 := ⟨m - 1, by omega⟩
  have z1 := Ow.le hows3
  refine sq fun _ k6 => sq fun _ k7 => rg (Lm rfl (Ly rfl (yge rfl) (Ln k7 (cD rfl (fun hc1 => ?_) (fun hc1 => ?_)))))
  · refine sk k6 (sq fun _ k8 => Wp_block (sq fun _ k9 => rg (Lm rfl (Lm rfl (Ly rfl (y_mul (c := 8 * s4) rfl rfl rfl (wf_i64 (by first | omega | (simp; done) | (simp; omega)))) ?_)))))
    refine Ly rfl (y_cvi (c := (8 * s4) % 18446744073709551616) rfl rfl Tryz.underlying3 Tryz.underlying107 wm_u64) (Ly rfl (y_shrN rfl rfl rfl (by first | omega | (simp; done) | (simp; omega))) ?_)
    refine Ly rfl (y_cvi (c := (shrN u ((8 * s4) % 18446744073709551616) 64) % 256) rfl rfl Tryz.underlying72 Tryz.underlying5 wm_u8) (Ls' rfl (Ln k9 (sq fun _ k10 => ?_)))
    refine use_out k10 (fun E W => E = [(0, .int .u64 u), (3, .slice As3 s3.length cs3), (4, .int .i64 s4), (5, .int .u8 ((shrN u ((8 * s4) % 18446744073709551616) 64) % 256)), (22, .bool (r2num_c1 u s3 s4))] ∧ St [] W (hOf st) (kOf st) ∧ Fr ([]) w W) ?_ fun hout2 => ?_
    · rintro E w5 ⟨rfl, st, hF⟩
      have st : St [] w5 [_] [] := st
      refine cB rfl (fun hc2 => ?_) (fun hc2 => ?_)
      · have jhc2 := (r2num_c1_iff u s3 s4).1 hc2
        refine rg (Lm rfl (Lm rfl (La rfl (a_bsl rfl rfl rfl rfl rfl Ty.es_108 Ty.zc_5 rfl (by decide) (by simp [Value.cells]) st.hp (fun g2 w6 (hp : Hp w6 [_, _]) hf hg2 => ?_)))))
        have how4 : Ow (some ⟨g2, 0, none⟩) [(shrN u ((8 * s4) % 18446744073709551616) 64) % 256].length 1 1 ([(shrN u ((8 * s4) % 18446744073709551616) 64) % 256].flatMap (fun x => [Value.int .u8 x])) [] := ⟨rfl, .inr ⟨g2, rfl, rfl, Nat.le_refl _, by unfold maxLen; decide⟩⟩
        have st : St [] w6 [_, _] [] := st.push hp hf hg2
        have st : St [] w6 [_, _] [] := st
        have hg2 := Nat.le_trans hF.size hg2
        have hF := hF.step0 hf
        have hnew4 := newB (X0 := []) hg2
        refine La rfl (Sap (enc := (fun x => [Value.int .u8 x])) s3 [(shrN u ((8 * s4) % 18446744073709551616) 64) % 256] 0 Ty.es_108 Ty.zc_5 Ty.by_5 (fun _ => rfl) (oneS fun _ => rfl) hows3 news3 st hF (own_src (i := 1) st.hp rfl how4) (own_none how4) rfl (by first | omega | (simp; done) | (simp; omega)) (by first | omega | (simp; done) | (simp; omega)) fun Aa2 ca2 sp2 w7 how5 hnew5 (st : St _ _ [_, _] _) hF => ?_)
        refine Ls' rfl (Ls_nil (Ib_n (Th_n (k8 _ _ (rg (Lm rfl (Ly rfl (y_sub (c := s4 - 1) rfl rfl rfl (wf_i64 (by first | omega | (simp; done) | (simp; omega)))) ?_)))))))
        refine Ls' rfl (Ls_nil (Th_n (?_)))
        exact ⟨fuel, [(0, _), (3, _), (4, _)], Nat.lt_succ_self _, ⟨rfl, rfl, rfl, trivial⟩, (s3 ++ [(shrN u ((8 * s4) % 18446744073709551616) 64) % 256]), (s4 - 1), Aa2, ca2, sp2, rfl, ⟨by rewrite [← hL1, r2num_L1]; rewrite [if_pos hc1, if_pos hc2]; rfl, by first | omega | (simp; done) | (simp; omega)⟩, by first | omega | (simp; done) | (simp; omega), how5, hnew5, (st.picks [0] (by decide)).pickK [], hF⟩
      have jhc2 := mt (r2num_c1_iff u s3 s4).2 hc2
      refine Wp_skip (Ib_n (Th_n (k8 _ _ (rg (Lm rfl (Ly rfl (y_sub (c := s4 - 1) rfl rfl rfl (wf_i64 (by first | omega | (simp; done) | (simp; omega)))) ?_))))))
      refine Ls' rfl (Ls_nil (Th_n (?_)))
      exact ⟨fuel, [(0, _), (3, _), (4, _)], Nat.lt_succ_self _, ⟨rfl, rfl, rfl, trivial⟩, s3, (s4 - 1), As3, cs3, sps3, rfl, ⟨by rewrite [← hL1, r2num_L1]; rewrite [if_pos hc1, if_neg hc2]; rfl, by first | omega | (simp; done) | (simp; omega)⟩, by first | omega | (simp; done) | (simp; omega), hows3, news3, (st.picks [0] (by decide)).pickK [], hF⟩
    refine rg (Lm rfl (Ly rfl (yll rfl Tryz.underlying108) (Ly rfl (ygt rfl) (Lm rfl (bD (s := 19) rfl (fun hc3 => ?_) (fun hc3 => ?_))))))
    · refine LsF rfl (LsF rfl (Ly rfl (yT rfl) (Ls_nil (Th_n (?_)))))
      exact hout2 _ [(0, _), (3, _), (4, _), (5, _), (22, _)] _ ⟨rfl, rfl, rfl, rfl, rfl, trivial⟩ ⟨by unfold r2num_c1; rewrite [if_pos hc3]; rfl, (st.picks [0] (by decide)).pickK [], hF⟩
    refine LyT rfl (y_move rfl rfl) (LyT rfl (yne rfl) (Ly rfl (yF rfl) (Ls_nil (Th_n (?_)))))
    exact hout2 _ [(0, _), (3, _), (4, _), (5, _), (22, _)] _ ⟨rfl, rfl, rfl, rfl, rfl, trivial⟩ ⟨by unfold r2num_c1; rewrite [if_neg hc3]; rfl, (st.picks [0] (by decide)).pickK [], hF⟩
  refine Wp_exit (Th_e (Th_e (Ib_hit (Th_n (?_)))))
  exact hout1 _ [(0, _), (3, _), (4, _)] _ ⟨rfl, rfl, rfl, trivial⟩ ⟨s3, s4, As3, cs3, sps3, rfl, show _ = _ from by rewrite [← hL1, r2num_L1]; rewrite [if_neg hc1]; rfl, by first | omega | (simp; done) | (simp; omega), hows3, news3, (st.picks [0] (by decide)).pickK [], hF⟩

theorem r2num_L1_len (u : Int) : ∀ (fuel : Nat) (a : List Int) (b : Int), -1 ≤ b → ∃ c d, r2num_L1 u fuel a b = .inr (c, d) ∧ (c.length : Int) ≤ a.length + b + 1
  | 0, a, b, h => ⟨a, b, rfl, by omega⟩
  | fuel + 1, a, b, h => by
    rw [r2num_L1]
    split
    · split
      · obtain ⟨c, d, e, l⟩ := r2num_L1_len u fuel (a ++ [(shrN u ((8 * b) % 18446744073709551616) 64) % 256]) (b - 1) (by omega)
        exact ⟨c, d, e, by rw [List.length_append, List.length_singleton] at l; omega⟩
      · obtain ⟨c, d, e, l⟩ := r2num_L1_len u fuel a (b - 1) (by omega)
        exact ⟨c, d, e, by omega⟩
    · exact ⟨a, b, rfl, by omega⟩
theorem r2num_len (u : Int) : (r2num_m u).length ≤ 9 := by
  obtain ⟨c, d, e, l⟩ := r2num_L1_len u (((7 : Int) + 1).toNat + 1) [] 7 (by decide)
  unfold r2num_m
  rw [e]
  simp only [bytesOf, List.length_map, List.length_append, List.length_singleton, List.length_nil] at l ⊢
  omega

def r2signed_m (u : Int) : (List UInt8) :=
  if 0 ≤ u then
    r2num_m ((2 * (u % 18446744073709551616)) % 18446744073709551616)
  else
    r2num_m ((((2 * ((0 - (u + 1)) % 18446744073709551616)) % 18446744073709551616) + 1) % 18446744073709551616)


set_option maxRecDepth 20000 in
theorem r2signed_ok (w : World) (u : Int) (hu : -9223372036854775808 ≤ u) :
    Fn Tryz.prog 28 [.int .i64 u] w fun v w' => v = sv (r2signed_m u) ∧ Fr [] w w' := by
  refine Fn_of 16 Ty.en_28 Tryz.func28 rfl rfl rfl ?_
  dsimp only [argEnv]
  have st := stn0 (X := []) (w := w) (by simp [Lo])
  have hF := Fr.refl ([]) w
  refine sq fun _ k1 => rg (Ls' rfl (Ln k1 (sq fun _ k2 => sq fun _ k3 => rg (Lm rfl (Ly rfl (yge rfl) (Ln k3 (cD rfl (fun hc1 => ?_) (fun hc1 => ?_))))))))
  · refine sq fun _ k4 => rg (Lm rfl (Ly rfl (y_cvi (c := u % 18446744073709551616) rfl rfl Tryz.underlying2 Tryz.underlying72 wm_u64) (Ly rfl (y_mul (c := (2 * (u % 18446744073709551616)) % 18446744073709551616) rfl rfl rfl wm_u64) (La rfl (Scl st hF rfl (r2num_ok _ ((2 * (u % 18446744073709551616)) % 18446744073709551616)) fun w1 st hF => Ls' rfl (Ln k4 (Wp_ret (Th_r (Fq_ret (Res1 rfl rfl) ?_)))))))))
    unfold r2signed_m; rewrite [if_pos hc1]
    exact ⟨rfl, hF⟩
  refine sk k2 (sq fun _ k5 => rg (Lm rfl (Ly rfl (y_add (c := u + 1) rfl rfl rfl (wf_i64 (by first | omega | (simp; done) | (simp; omega)))) ?_)))
  refine Ly rfl (y_neg (c := 0 - (u + 1)) rfl rfl (wf_i64 (by first | omega | (simp; done) | (simp; omega)))) ?_
  refine Ly rfl (y_cvi (c := (0 - (u + 1)) % 18446744073709551616) rfl rfl Tryz.underlying2 Tryz.underlying72 wm_u64) (Ly rfl (y_mul (c := (2 * ((0 - (u + 1)) % 18446744073709551616)) % 18446744073709551616) rfl rfl rfl wm_u64) (Ly rfl (y_add (c := (((2 * ((0 - (u + 1)) % 18446744073709551616)) % 18446744073709551616) + 1) % 18446744073709551616) rfl rfl rfl wm_u64) (La rfl (Scl st hF rfl (r2num_ok _ ((((2 * ((0 - (u + 1)) % 18446744073709551616)) % 18446744073709551616) + 1) % 18446744073709551616)) fun w2 st hF => Ls' rfl (Ln k5 (Wp_ret (Fq_ret (Res1 rfl rfl) ?_)))))))
  unfold r2signed_m; rewrite [if_neg hc1]
  exact ⟨rfl, hF⟩

def r2text_m (s : List UInt8) : (List UInt8) :=
  (r2num_m ((s.length : Int) % 18446744073709551616)) ++ s


set_option maxRecDepth 20000 in
theorem r2text_ok (w : World) (s : List UInt8) (h1 : s.length ≤ 1000000) :
    Fn Tryz.prog 27 [sv s] w fun v w' => v = sv (r2text_m s) ∧ Fr [] w w' := by
  refine Fn_of 9 Ty.en_27 Tryz.func27 rfl rfl rfl ?_
  dsimp only [argEnv]
  have st := stn0 (X := []) (w := w) (by simp [Lo])
  have hF := Fr.refl ([]) w
  refine sq fun _ k1 => rg (Ls' rfl (Ln k1 (sq fun _ k2 => rg (Lm rfl (Ly rfl (y_lens rfl rfl Tryz.underlying9) (Ly rfl (y_cvi (c := (s.length : Int) % 18446744073709551616) rfl rfl Tryz.underlying3 Tryz.underlying72 wm_u64) (La rfl (Scl st hF rfl (r2num_ok _ ((s.length : Int) % 18446744073709551616)) fun w1 st hF => ?_))))))))
  have hln0 := show ((r2num_m ((s.length : Int) % 18446744073709551616))).length ≤ 9 from r2num_len _
  refine Lm rfl (Ly rfl (y_cat rfl rfl rfl (by first | omega | (simp; done) | (simp; omega))) ?_)
  refine Ls' rfl (Ln k2 (Wp_ret (Fq_ret (Res1 rfl rfl) ?_)))
  unfold r2text_m
  exact ⟨rfl, hF⟩

theorem r2signed_len (u : Int) : (r2signed_m u).length ≤ 9 := by unfold r2signed_m; split <;> exact r2num_len _
theorem r2text_len (s : List UInt8) : (r2text_m s).length ≤ s.length + 9 := by have := r2num_len ((s.length : Int) % 18446744073709551616); unfold r2text_m; rw [List.length_append]; omega

def r5write_m (id : IdM) : (List UInt8) :=
  if (r5check_m id) = 0 then
    (r2num_m (id.origin % 18446744073709551616)) ++ (r2num_m (id.seq % 18446744073709551616))
  else
    []


set_option maxRecDepth 20000 in
theorem r5write_ok (w : World) (id : IdM) :
    Fn Tryz.prog 59 [.agg (idMC id).toArray] w fun v w' => v = sv (r5write_m id) ∧ Fr [] w w' := by
  refine Fn_of 15 Ty.en_59 Tryz.func59 rfl rfl rfl ?_
  dsimp only [argEnv]
  have st := stn0 (X := []) (w := w) (by simp [Lo])
  have hF := Fr.refl ([]) w
  refine sq fun _ k1 => rg (La rfl (Sbx st hF rfl fun g1 w1 (st : St _ _ [_] _) hF hg1 => Ls' rfl (Ln k1 (sq fun _ k2 => sq fun _ k3 => rg (Ly rfl (yw 0 Ty.ag_24 st rfl) (La rfl (Scl st hF rfl (r5check_ok _ id) fun w2 st hF => Ly rfl (yne rfl) (Ln k3 (cN rfl (fun hc1 => ?_) (fun hc1 => ?_))))))))))
  · refine sq fun _ k4 => rg (Ls' rfl (Ln k4 (Wp_ret (Th_r (Fq_ret (Res1 rfl rfl) ?_)))))
    unfold r5write_m; rewrite [if_neg hc1]
    exact ⟨rfl, hF⟩
  refine sk k2 (sq fun _ k5 => ?_)
  refine Wp_plan (fun W => St [] W (pickL (hOf st) [0]) (kOf st)) [(true, 0), (true, 1), (true, 2), (true, 4), (true, 5), (true, 6), (false, 3), (false, 7), (true, 8), (true, 9)] Ty.mx_0 (by kernel_rfl) (by kernel_rfl) rfl ((st.picks [0] (by decide)).drew) ?_
  have st := st.drew
  have hF := hF.step0 (Fr.drew _)
  refine Py rfl (yf rfl Ty.fo_24_0) (Py rfl (y_load (i := 0) rfl rfl Ty.pl_3 (fun _ h => h.hp) rfl rfl) (Py rfl (y_cvi (c := id.origin % 18446744073709551616) rfl rfl Tryz.underlying3 Tryz.underlying72 wm_u64) (Py rfl (yf rfl Ty.fo_24_1) (Py rfl (y_load (i := 0) rfl rfl Ty.pl_22 (fun _ h => h.hp) rfl rfl) (Py rfl (y_cvi (c := id.seq % 18446744073709551616) rfl rfl Tryz.underlying22 Tryz.underlying72 wm_u64) (Pl_a rfl (wtd0 rfl) (by rfl) ?_))))))
  refine Scl st hF rfl (r2num_ok _ (id.origin % 18446744073709551616)) fun w3 st hF => ?_
  refine ⟨(st.picks [0] (by decide)).takeK 0, ?_⟩
  have hlnu1 := show ((r2num_m (id.origin % 18446744073709551616))).length ≤ 9 from r2num_len _
  refine Pl_a rfl (wtd0 rfl) (by rfl) ?_
  refine Scl st hF rfl (r2num_ok _ (id.seq % 18446744073709551616)) fun w4 st hF => ?_
  refine ⟨(st.picks [0] (by decide)).takeK 0, ?_⟩
  have hlnu2 := show ((r2num_m (id.seq % 18446744073709551616))).length ≤ 9 from r2num_len _
  refine Py rfl (y_cat rfl rfl rfl (by first | omega | (simp; done) | (simp; omega))) ?_
  refine Py rfl (y_assign rfl rfl) (Pl_nil (Th_n (k5 _ _ (Wp_ret (Fq_ret (Res1 rfl rfl) ?_)))))
  unfold r5write_m; rewrite [if_pos hc1]
  exact ⟨rfl, hF⟩

theorem r5write_len (x : IdM) : (r5write_m x).length ≤ 18 := by
  unfold r5write_m
  split
  · rw [List.length_append]; have h1 := r2num_len (x.origin % 18446744073709551616); have h2 := r2num_len (x.seq % 18446744073709551616); omega
  · simp

def r5writeTag_m (t : TagM) : (List UInt8) :=
  if (r5checkTag_m t) = 0 then
    (r5write_m t.id) ++ (r2num_m (t.n % 18446744073709551616))
  else
    []


set_option maxRecDepth 20000 in
theorem r5writeTag_ok (w : World) (t : TagM) :
    Fn Tryz.prog 29 [.agg (tagMC t).toArray] w fun v w' => v = sv (r5writeTag_m t) ∧ Fr [] w w' := by
  refine Fn_of 14 Ty.en_29 Tryz.func29 rfl rfl rfl ?_
  dsimp only [argEnv]
  have st := stn0 (X := []) (w := w) (by simp [Lo])
  have hF := Fr.refl ([]) w
  refine sq fun _ k1 => rg (La rfl (Sbx st hF rfl fun g1 w1 (st : St _ _ [_] _) hF hg1 => Ls' rfl (Ln k1 (sq fun _ k2 => sq fun _ k3 => rg (Ly rfl (yw 0 Ty.ag_26 st rfl) (La rfl (Scl st hF rfl (r5checkTag_ok _ t) fun w2 st hF => Ly rfl (yne rfl) (Ln k3 (cN rfl (fun hc1 => ?_) (fun hc1 => ?_))))))))))
  · refine sq fun _ k4 => rg (Ls' rfl (Ln k4 (Wp_ret (Th_r (Fq_ret (Res1 rfl rfl) ?_)))))
    unfold r5writeTag_m; rewrite [if_neg hc1]
    exact ⟨rfl, hF⟩
  refine sk k2 (sq fun _ k5 => ?_)
  refine Wp_plan (fun W => St [] W (pickL (hOf st) [0]) (kOf st)) [(true, 0), (true, 1), (true, 3), (true, 4), (true, 5), (false, 2), (false, 6), (true, 7), (true, 8)] Ty.mx_0 (by kernel_rfl) (by kernel_rfl) rfl ((st.picks [0] (by decide)).drew) ?_
  have st := st.drew
  have hF := hF.step0 (Fr.drew _)
  refine Py rfl (yf rfl Ty.fo_26_0) (Py rfl (y_loadm (i := 0) rfl rfl Ty.ag_24 (fun _ h => h.hp) rfl rfl rfl) (Py rfl (yf rfl Ty.fo_26_1) (Py rfl (y_load (i := 0) rfl rfl Ty.pl_3 (fun _ h => h.hp) rfl rfl) (Py rfl (y_cvi (c := t.n % 18446744073709551616) rfl rfl Tryz.underlying3 Tryz.underlying72 wm_u64) (Pl_a rfl (wtd0 rfl) (by rfl) ?_)))))
  refine Scl st hF rfl (r5write_ok _ t.id) fun w3 st hF => ?_
  refine ⟨(st.picks [0] (by decide)).takeK 0, ?_⟩
  have hln1 := show ((r5write_m t.id)).length ≤ 18 from r5write_len _
  refine Pl_a rfl (wtd0 rfl) (by rfl) ?_
  refine Scl st hF rfl (r2num_ok _ (t.n % 18446744073709551616)) fun w4 st hF => ?_
  refine ⟨(st.picks [0] (by decide)).takeK 0, ?_⟩
  have hln0 := show ((r2num_m (t.n % 18446744073709551616))).length ≤ 9 from r2num_len _
  refine Py rfl (y_cat rfl rfl rfl (by first | omega | (simp; done) | (simp; omega))) ?_
  refine Py rfl (y_assign rfl rfl) (Pl_nil (Th_n (k5 _ _ (Wp_ret (Fq_ret (Res1 rfl rfl) ?_)))))
  unfold r5writeTag_m; rewrite [if_pos hc1]
  exact ⟨rfl, hF⟩

theorem r5writeTag_len (x : TagM) : (r5writeTag_m x).length ≤ 27 := by
  unfold r5writeTag_m
  split
  · rw [List.length_append]; have h1 := r5write_len x.id; have h2 := r2num_len (x.n % 18446744073709551616); omega
  · simp

def r9write_m (s : StampM) : (List UInt8) :=
  if (r9check_m s) = 0 then
    (r2num_m (s.time % 18446744073709551616)) ++ (r2num_m (s.origin % 18446744073709551616))
  else
    []


set_option maxRecDepth 20000 in
theorem r9write_ok (w : World) (s : StampM) :
    Fn Tryz.prog 31 [.agg (stampMC s).toArray] w fun v w' => v = sv (r9write_m s) ∧ Fr [] w w' := by
  refine Fn_of 15 Ty.en_31 Tryz.func31 rfl rfl rfl ?_
  dsimp only [argEnv]
  have st := stn0 (X := []) (w := w) (by simp [Lo])
  have hF := Fr.refl ([]) w
  refine sq fun _ k1 => rg (La rfl (Sbx st hF rfl fun g1 w1 (st : St _ _ [_] _) hF hg1 => Ls' rfl (Ln k1 (sq fun _ k2 => sq fun _ k3 => rg (Ly rfl (yw 0 Ty.ag_28 st rfl) (La rfl (Scl st hF rfl (r9check_ok _ s) fun w2 st hF => Ly rfl (yne rfl) (Ln k3 (cN rfl (fun hc1 => ?_) (fun hc1 => ?_))))))))))
  · refine sq fun _ k4 => rg (Ls' rfl (Ln k4 (Wp_ret (Th_r (Fq_ret (Res1 rfl rfl) ?_)))))
    unfold r9write_m; rewrite [if_neg hc1]
    exact ⟨rfl, hF⟩
  refine sk k2 (sq fun _ k5 => ?_)
  refine Wp_plan (fun W => St [] W (pickL (hOf st) [0]) (kOf st)) [(true, 0), (true, 1), (true, 2), (true, 4), (true, 5), (true, 6), (false, 3), (false, 7), (true, 8), (true, 9)] Ty.mx_0 (by kernel_rfl) (by kernel_rfl) rfl ((st.picks [0] (by decide)).drew) ?_
  have st := st.drew
  have hF := hF.step0 (Fr.drew _)
  refine Py rfl (yf rfl Ty.fo_28_0) (Py rfl (y_load (i := 0) rfl rfl Ty.pl_22 (fun _ h => h.hp) rfl rfl) (Py rfl (y_cvi (c := s.time % 18446744073709551616) rfl rfl Tryz.underlying22 Tryz.underlying72 wm_u64) (Py rfl (yf rfl Ty.fo_28_1) (Py rfl (y_load (i := 0) rfl rfl Ty.pl_3 (fun _ h => h.hp) rfl rfl) (Py rfl (y_cvi (c := s.origin % 18446744073709551616) rfl rfl Tryz.underlying3 Tryz.underlying72 wm_u64) (Pl_a rfl (wtd0 rfl) (by rfl) ?_))))))
  refine Scl st hF rfl (r2num_ok _ (s.time % 18446744073709551616)) fun w3 st hF => ?_
  refine ⟨(st.picks [0] (by decide)).takeK 0, ?_⟩
  have hlnu1 := show ((r2num_m (s.time % 18446744073709551616))).length ≤ 9 from r2num_len _
  refine Pl_a rfl (wtd0 rfl) (by rfl) ?_
  refine Scl st hF rfl (r2num_ok _ (s.origin % 18446744073709551616)) fun w4 st hF => ?_
  refine ⟨(st.picks [0] (by decide)).takeK 0, ?_⟩
  have hlnu2 := show ((r2num_m (s.origin % 18446744073709551616))).length ≤ 9 from r2num_len _
  refine Py rfl (y_cat rfl rfl rfl (by first | omega | (simp; done) | (simp; omega))) ?_
  refine Py rfl (y_assign rfl rfl) (Pl_nil (Th_n (k5 _ _ (Wp_ret (Fq_ret (Res1 rfl rfl) ?_)))))
  unfold r9write_m; rewrite [if_pos hc1]
  exact ⟨rfl, hF⟩

theorem r9write_len (x : StampM) : (r9write_m x).length ≤ 18 := by
  unfold r9write_m
  split
  · rw [List.length_append]; have h1 := r2num_len (x.time % 18446744073709551616); have h2 := r2num_len (x.origin % 18446744073709551616); omega
  · simp

def r14write_L1 (e : EffectM) : Nat → (List UInt8) → Int → ((List UInt8) × Int) ⊕ ((List UInt8) × Int)
  | 0, s5, s6 => .inr (s5, s6)
  | fuel + 1, s5, s6 =>
    if s6 < (e.tags.length : Int) then
      r14write_L1 e fuel (s5 ++ (r5writeTag_m (ix e.tags s6))) (s6 + 1)
    else
      .inr (s5, s6)

def r14write_L2 (e : EffectM) : Nat → (List UInt8) → Int → ((List UInt8) × Int) ⊕ ((List UInt8) × Int)
  | 0, s5, s6 => .inr (s5, s6)
  | fuel + 1, s5, s6 =>
    if s6 < (e.tags.length : Int) then
      r14write_L2 e fuel (s5 ++ (r5writeTag_m (ix e.tags s6))) (s6 + 1)
    else
      .inr (s5, s6)
def r14write_m (e : EffectM) : (List UInt8) × Int :=
  if (r14checkE_m e) = 0 then
    if (r14timed_m e.act) = true then
      if (r14takes_m e.act) = true then
        match r14write_L1 e (((e.tags.length : Int) - (0 : Int)).toNat + 1) ((((((r2num_m (e.act % 18446744073709551616)) ++ (r2text_m e.name)) ++ (r2signed_m e.val)) ++ (r5writeTag_m e.tag)) ++ (r9write_m e.atF)) ++ (r2num_m ((e.tags.length : Int) % 18446744073709551616))) (0 : Int) with
        | .inl r => r
        | .inr (s5, s6) =>
          (s5, 0)
      else
        (((((r2num_m (e.act % 18446744073709551616)) ++ (r2text_m e.name)) ++ (r2signed_m e.val)) ++ (r5writeTag_m e.tag)) ++ (r9write_m e.atF), 0)
    else
      if (r14takes_m e.act) = true then
        match r14write_L2 e (((e.tags.length : Int) - (0 : Int)).toNat + 1) (((((r2num_m (e.act % 18446744073709551616)) ++ (r2text_m e.name)) ++ (r2signed_m e.val)) ++ (r5writeTag_m e.tag)) ++ (r2num_m ((e.tags.length : Int) % 18446744073709551616))) (0 : Int) with
        | .inl r => r
        | .inr (s5, s6) =>
          (s5, 0)
      else
        ((((r2num_m (e.act % 18446744073709551616)) ++ (r2text_m e.name)) ++ (r2signed_m e.val)) ++ (r5writeTag_m e.tag), 0)
  else
    ([], r14checkE_m e)


set_option maxRecDepth 20000 in
theorem r14write_ok (X : List Nat) (w : World) (hX : Lo X w) (e : EffectM) (A1 : Option Addr) (C1 : Nat) (z2 : Sld X w A1 e.tags.length C1 3 (e.tags.flatMap tagMC)) (h1 : e.tags.length ≤ 1000000) (h2 : e.name.length ≤ 1000000) (h3 : -9223372036854775808 ≤ e.val) :
    Fn Tryz.prog 7 [.agg #[.int .i64 e.act, sv e.name, .int .i64 e.val, .int .i64 e.tag.id.origin, .int .u32 e.tag.id.seq, .int .i64 e.tag.n, .int .u32 e.atF.time, .int .i64 e.atF.origin, .slice A1 e.tags.length C1]] w fun v w' => v = .tuple #[sv ((r14write_m e).1), .int .i64 ((r14write_m e).2)] ∧ Fr [] w w' := by
  refine Fn_of 62 Ty.en_7 Tryz.func7 rfl rfl rfl ?_
  dsimp only [argEnv]
  have st := stn1 hX z2
  have hF := Fr.refl ([]) w
  have z1 := (st.q 0 rfl).le
  have hq1 := r2text_len e.name
  refine sq fun _ k1 => rg (La rfl (Sbx st hF rfl fun g1 w1 (st : St _ _ [_] _) hF hg1 => Ls' rfl (Ls' rfl (Ln k1 (sq fun _ k2 => rg (Ly rfl (yw 0 Ty.ag_31 st rfl) (La rfl (Scl st hF rfl (r14checkE_ok (keys (hOf st) ++ X) _ st.Lo e A1 C1 (st.q 0 rfl)) fun w2 st hF => Ls' rfl (Ln k2 (sq fun _ k3 => sq fun _ k4 => rg (Lm rfl (Ly rfl (yne rfl) (Ln k4 (cN rfl (fun hc1 => ?_) (fun hc1 => ?_)))))))))))))))
  · refine sq fun _ k5 => rg (Lm rfl (Ls' rfl (Ls' rfl (Ln k5 (Wp_ret (Th_r (Fq_ret (Res2 rfl rfl rfl) ?_)))))))
    unfold r14write_m; rewrite [if_neg hc1]
    exact ⟨rfl, hF⟩
  refine sk k3 (sq fun _ k6 => ?_)
  refine Wp_plan (fun W => St X W (pickL (hOf st) [0]) (kOf st)) [(true, 0), (true, 1), (true, 2), (true, 4), (true, 5), (true, 8), (true, 9), (true, 12), (true, 13), (false, 3), (false, 6), (true, 7), (false, 10), (true, 11), (false, 14), (true, 15), (true, 16)] Ty.mx_0 (by kernel_rfl) (by kernel_rfl) rfl ((st.picks [0] (by decide)).drew) ?_
  have st := st.drew
  have hF := hF.step0 (Fr.drew _)
  refine Py rfl (yf rfl Ty.fo_31_0) (Py rfl (y_load (i := 0) rfl rfl Ty.pl_3 (fun _ h => h.hp) rfl rfl) (Py rfl (y_cvi (c := e.act % 18446744073709551616) rfl rfl Tryz.underlying3 Tryz.underlying72 wm_u64) (Py rfl (yf rfl Ty.fo_31_1) (Py rfl (y_load (i := 0) rfl rfl Ty.pl_9 (fun _ h => h.hp) rfl rfl) (Py rfl (yf rfl Ty.fo_31_2) (Py rfl (y_load (i := 0) rfl rfl Ty.pl_2 (fun _ h => h.hp) rfl rfl) (Py rfl (yf rfl Ty.fo_31_3) (Py rfl (y_loadm (i := 0) rfl rfl Ty.ag_26 (fun _ h => h.hp) rfl rfl rfl) (Pl_a rfl (wtd0 rfl) (by rfl) ?_)))))))))
  refine Scl st hF rfl (r2num_ok _ (e.act % 18446744073709551616)) fun w3 st hF => ?_
  refine ⟨(st.picks [0] (by decide)).takeK 1, ?_⟩
  have hlnu1 := show ((r2num_m (e.act % 18446744073709551616))).length ≤ 9 from r2num_len _
  refine Pl_a rfl (wtd0 rfl) (by rfl) ?_
  refine Scl st hF rfl (r2text_ok _ e.name h2) fun w4 st hF => ?_
  refine ⟨(st.picks [0] (by decide)).takeK 1, ?_⟩
  refine Py rfl (y_cat rfl rfl rfl (by first | omega | (simp; done) | (simp; omega))) ?_
  refine Pl_a rfl (wtd0 rfl) (by rfl) ?_
  refine Scl st hF rfl (r2signed_ok _ e.val h3) fun w5 st hF => ?_
  refine ⟨(st.picks [0] (by decide)).takeK 1, ?_⟩
  have hlnu2 := show ((r2signed_m e.val)).length ≤ 9 from r2signed_len _
  refine Py rfl (y_cat rfl rfl rfl (by first | omega | (simp; done) | (simp; omega))) ?_
  refine Pl_a rfl (wtd0 rfl) (by rfl) ?_
  refine Scl st hF rfl (r5writeTag_ok _ e.tag) fun w6 st hF => ?_
  refine ⟨(st.picks [0] (by decide)).takeK 1, ?_⟩
  have hlnu3 := show ((r5writeTag_m e.tag)).length ≤ 27 from r5writeTag_len _
  refine Py rfl (y_cat rfl rfl rfl (by first | omega | (simp; done) | (simp; omega))) ?_
  refine Py rfl (y_assign rfl rfl) (Pl_nil (Th_n (k6 _ _ (sq fun _ k7 => sq fun _ k8 => rg (Ly rfl (yf rfl Ty.fo_31_0) (Ly rfl (yl 0 Ty.pl_3 st rfl) (La rfl (Scl st hF rfl (r14timed_ok _ e.act) fun w7 st hF => Ln k8 (cB rfl (fun hc2 => ?_) (fun hc2 => ?_))))))))))
  · refine rg (Lm rfl (Ly rfl (yf rfl Ty.fo_31_4) (Ly rfl (ym 0 Ty.ag_28 st rfl) (La rfl (Scl st hF rfl (r9write_ok _ e.atF) fun w8 st hF => ?_)))))
    have hlnu4 := show ((r9write_m e.atF)).length ≤ 18 from r9write_len _
    refine Ly rfl (y_cat rfl rfl rfl (by first | omega | (simp; done) | (simp; omega))) ?_
    refine Ls' rfl (Ln k7 (sq fun _ k9 => sq fun _ k10 => rg (Ly rfl (yf rfl Ty.fo_31_0) (Ly rfl (yl 0 Ty.pl_3 st rfl) (La rfl (Scl st hF rfl (r14takes_ok _ e.act) fun w9 st hF => Ln k10 (cB rfl (fun hc3 => ?_) (fun hc3 => ?_))))))))
    · refine sq fun _ k11 => rg (Lm rfl (Ly rfl (yf rfl Ty.fo_31_5) (Ly rfl (yl 0 Ty.pl_29 st rfl) (Ly rfl (yll rfl Tryz.underlying29) (Ly rfl (y_cvi (c := (e.tags.length : Int) % 18446744073709551616) rfl rfl Tryz.underlying3 Tryz.underlying72 wm_u64) (La rfl (Scl st hF rfl (r2num_ok _ ((e.tags.length : Int) % 18446744073709551616)) fun w10 st hF => ?_)))))))
      have hlnu5 := show ((r2num_m ((e.tags.length : Int) % 18446744073709551616))).length ≤ 9 from r2num_len _
      refine Ly rfl (y_cat rfl rfl rfl (by first | omega | (simp; done) | (simp; omega))) ?_
      refine Ls' rfl (Ln k11 (sq fun _ k12 => rg (Ls' rfl (Ln k12 (Wp_block (lp (fun q E W => ∃ (s5 : List UInt8) (s6 : Int), E = [(1, .pointer (some ⟨g1, 0, none⟩)), (5, sv s5), (6, .int .i64 s6)] ∧ jq q (fun m => (r14write_L1 e m s5 s6 = r14write_L1 e (((e.tags.length : Int) - (0 : Int)).toNat + 1) ((((((r2num_m (e.act % 18446744073709551616)) ++ (r2text_m e.name)) ++ (r2signed_m e.val)) ++ (r5writeTag_m e.tag)) ++ (r9write_m e.atF)) ++ (r2num_m ((e.tags.length : Int) % 18446744073709551616))) (0 : Int) ∧ ((e.tags.length : Int) - s6).toNat < m)) (r14write_L1 e (((e.tags.length : Int) - (0 : Int)).toNat + 1) ((((((r2num_m (e.act % 18446744073709551616)) ++ (r2text_m e.name)) ++ (r2signed_m e.val)) ++ (r5writeTag_m e.tag)) ++ (r9write_m e.atF)) ++ (r2num_m ((e.tags.length : Int) % 18446744073709551616))) (0 : Int) = .inr (s5, s6)) ∧ (0 ≤ s6 ∧ 0 ≤ s6 ∧ (s5.length : Int) ≤ 2000000 + 27 * s6) ∧ St X W [(some g1, Cl [.int .i64 e.act, sv e.name, .int .i64 e.val, .int .i64 e.tag.id.origin, .int .u32 e.tag.id.seq, .int .i64 e.tag.n, .int .u32 e.atF.time, .int .i64 e.atF.origin, .slice A1 e.tags.length C1] 31)] [kS A1 e.tags.length C1 3 (e.tags.flatMap tagMC)] ∧ Fr ([]) w W) (((e.tags.length : Int) - (0 : Int)).toNat + 1) [(1, _), (5, _), (6, _)] ⟨rfl, rfl, rfl, trivial⟩ ⟨_, _, rfl, ⟨rfl, Nat.lt_succ_self _⟩, by first | omega | (simp; done) | (simp; omega), st, hF⟩ k9 ?_ fun hout1 => ?_))))))
      · rintro E w11 ⟨s5, s6, rfl, hLk1, hinv, st, hF⟩
        unfold jq at hLk1; dsimp only at hLk1
        refine sq fun _ k13 => rg (Lm rfl (Ls' rfl (Ls' rfl (Ln k13 (Wp_ret (Fq_ret (Res2 rfl rfl rfl) ?_))))))
        unfold r14write_m; rewrite [if_pos hc1, if_pos hc2, if_pos hc3, hLk1]; (try dsimp only)
        exact ⟨rfl, hF⟩
      rintro m E w12 ⟨s5, s6, rfl, ⟨hL1, hmu⟩, hinv, st, hF⟩
      obtain ⟨fuel, rfl⟩ : ∃ q, m = q + 1 := ⟨m - 1, by omega⟩
      refine sq fun _ k14 => sq fun _ k15 => rg (Lm rfl (Ly rfl (yf rfl Ty.fo_31_5) (Ly rfl (yl 0 Ty.pl_29 st rfl) (Ly rfl (yll rfl Tryz.underlying29) (Ly rfl (ylt rfl) (Ln k15 (cD rfl (fun hc4 => ?_) (fun hc4 => ?_))))))))
      · refine sk k14 (sq fun _ k16 => Wp_block (rg (Lm rfl (Ly rfl (yf rfl Ty.fo_31_5) (Ly rfl (yl 0 Ty.pl_29 st rfl) (Lm rfl ?_))))))
        obtain ⟨gi1, bi1, egi1⟩ := (st.k (i := 0) rfl).addr (fun _ => rfl) (by decide) (q := s6) (by first | omega | (simp; done) | (simp; omega)) (by first | omega | (simp; done) | (simp; omega))
        subst egi1
        refine Ly rfl (y_ixa (q := s6) rfl rfl rfl Ty.es_29 (by first | omega | (simp; done) | (simp; omega)) (by first | omega | (simp; done) | (simp; omega))) ?_
        refine Ly rfl (y_ldk (q := s6) rfl rfl Ty.ag_26 (fun _ e => e ▸ st.k (i := 0) rfl) (fun _ => rfl) (by first | omega | (simp; done) | (simp; omega)) (by first | omega | (simp; done) | (simp; omega))) ?_
        refine La rfl (Scl st hF rfl (r5writeTag_ok _ (ix e.tags s6)) fun w13 st hF => ?_)
        have hlnu6 := show ((r5writeTag_m (ix e.tags s6))).length ≤ 27 from r5writeTag_len _
        refine Ly rfl (y_cat rfl rfl rfl (by first | omega | (simp; done) | (simp; omega))) ?_
        refine Ls' rfl (Ls_nil (Ib_n (Th_n (k16 _ _ (rg (Lm rfl (Ly rfl (y_add (c := s6 + 1) rfl rfl rfl (wf_i64 (by first | omega | (simp; done) | (simp; omega)))) ?_)))))))
        refine Ls' rfl (Ls_nil (Th_n (?_)))
        exact ⟨fuel, [(1, _), (5, _), (6, _)], Nat.lt_succ_self _, ⟨rfl, rfl, rfl, trivial⟩, (s5 ++ (r5writeTag_m (ix e.tags s6))), (s6 + 1), rfl, ⟨by rewrite [← hL1, r14write_L1]; rewrite [if_pos hc4]; rfl, by first | omega | (simp; done) | (simp; omega)⟩, by first | omega | (simp; done) | (simp; omega), (st.picks [0] (by decide)).pickK [0], hF⟩
      refine Wp_exit (Th_e (Th_e (Ib_hit (Th_n (?_)))))
      exact hout1 _ [(1, _), (5, _), (6, _)] _ ⟨rfl, rfl, rfl, trivial⟩ ⟨s5, s6, rfl, show _ = _ from by rewrite [← hL1, r14write_L1]; rewrite [if_neg hc4]; rfl, by first | omega | (simp; done) | (simp; omega), (st.picks [0] (by decide)).pickK [0], hF⟩
    refine sk k9 (sq fun _ k17 => rg (Lm rfl (Ls' rfl (Ls' rfl (Ln k17 (Wp_ret (Fq_ret (Res2 rfl rfl rfl) ?_)))))))
    unfold r14write_m; rewrite [if_pos hc1, if_pos hc2, if_neg hc3]
    exact ⟨rfl, hF⟩
  refine sk k7 (sq fun _ k18 => sq fun _ k19 => rg (Ly rfl (yf rfl Ty.fo_31_0) (Ly rfl (yl 0 Ty.pl_3 st rfl) (La rfl (Scl st hF rfl (r14takes_ok _ e.act) fun w14 st hF => Ln k19 (cB rfl (fun hc5 => ?_) (fun hc5 => ?_)))))))
  · refine sq fun _ k20 => rg (Lm rfl (Ly rfl (yf rfl Ty.fo_31_5) (Ly rfl (yl 0 Ty.pl_29 st rfl) (Ly rfl (yll rfl Tryz.underlying29) (Ly rfl (y_cvi (c := (e.tags.length : Int) % 18446744073709551616) rfl rfl Tryz.underlying3 Tryz.underlying72 wm_u64) (La rfl (Scl st hF rfl (r2num_ok _ ((e.tags.length : Int) % 18446744073709551616)) fun w15 st hF => ?_)))))))
    have hlnu7 := show ((r2num_m ((e.tags.length : Int) % 18446744073709551616))).length ≤ 9 from r2num_len _
    refine Ly rfl (y_cat rfl rfl rfl (by first | omega | (simp; done) | (simp; omega))) ?_
    refine Ls' rfl (Ln k20 (sq fun _ k21 => rg (Ls' rfl (Ln k21 (Wp_block (lp (fun q E W => ∃ (s5 : List UInt8) (s6 : Int), E = [(1, .pointer (some ⟨g1, 0, none⟩)), (5, sv s5), (6, .int .i64 s6)] ∧ jq q (fun m => (r14write_L2 e m s5 s6 = r14write_L2 e (((e.tags.length : Int) - (0 : Int)).toNat + 1) (((((r2num_m (e.act % 18446744073709551616)) ++ (r2text_m e.name)) ++ (r2signed_m e.val)) ++ (r5writeTag_m e.tag)) ++ (r2num_m ((e.tags.length : Int) % 18446744073709551616))) (0 : Int) ∧ ((e.tags.length : Int) - s6).toNat < m)) (r14write_L2 e (((e.tags.length : Int) - (0 : Int)).toNat + 1) (((((r2num_m (e.act % 18446744073709551616)) ++ (r2text_m e.name)) ++ (r2signed_m e.val)) ++ (r5writeTag_m e.tag)) ++ (r2num_m ((e.tags.length : Int) % 18446744073709551616))) (0 : Int) = .inr (s5, s6)) ∧ (0 ≤ s6 ∧ 0 ≤ s6 ∧ (s5.length : Int) ≤ 2000000 + 27 * s6) ∧ St X W [(some g1, Cl [.int .i64 e.act, sv e.name, .int .i64 e.val, .int .i64 e.tag.id.origin, .int .u32 e.tag.id.seq, .int .i64 e.tag.n, .int .u32 e.atF.time, .int .i64 e.atF.origin, .slice A1 e.tags.length C1] 31)] [kS A1 e.tags.length C1 3 (e.tags.flatMap tagMC)] ∧ Fr ([]) w W) (((e.tags.length : Int) - (0 : Int)).toNat + 1) [(1, _), (5, _), (6, _)] ⟨rfl, rfl, rfl, trivial⟩ ⟨_, _, rfl, ⟨rfl, Nat.lt_succ_self _⟩, by first | omega | (simp; done) | (simp; omega), st, hF⟩ k18 ?_ fun hout2 => ?_))))))
    · rintro E w16 ⟨s5, s6, rfl, hLk2, hinv, st, hF⟩
      unfold jq at hLk2; dsimp only at hLk2
      refine sq fun _ k22 => rg (Lm rfl (Ls' rfl (Ls' rfl (Ln k22 (Wp_ret (Fq_ret (Res2 rfl rfl rfl) ?_))))))
      unfold r14write_m; rewrite [if_pos hc1, if_neg hc2, if_pos hc5, hLk2]; (try dsimp only)
      exact ⟨rfl, hF⟩
    rintro m E w17 ⟨s5, s6, rfl, ⟨hL2, hmu⟩, hinv, st, hF⟩
    obtain ⟨fuel, rfl⟩ : ∃ q, m = q + 1 := ⟨m - 1, by omega⟩
    refine sq fun _ k23 => sq fun _ k24 => rg (Lm rfl (Ly rfl (yf rfl Ty.fo_31_5) (Ly rfl (yl 0 Ty.pl_29 st rfl) (Ly rfl (yll rfl Tryz.underlying29) (Ly rfl (ylt rfl) (Ln k24 (cD rfl (fun hc6 => ?_) (fun hc6 => ?_))))))))
    · refine sk k23 (sq fun _ k25 => Wp_block (rg (Lm rfl (Ly rfl (yf rfl Ty.fo_31_5) (Ly rfl (yl 0 Ty.pl_29 st rfl) (Lm rfl ?_))))))
      obtain ⟨gi2, bi2, egi2⟩ := (st.k (i := 0) rfl).addr (fun _ => rfl) (by decide) (q := s6) (by first | omega | (simp; done) | (simp; omega)) (by first | omega | (simp; done) | (simp; omega))
      subst egi2
      refine Ly rfl (y_ixa (q := s6) rfl rfl rfl Ty.es_29 (by first | omega | (simp; done) | (simp; omega)) (by first | omega | (simp; done) | (simp; omega))) ?_
      refine Ly rfl (y_ldk (q := s6) rfl rfl Ty.ag_26 (fun _ e => e ▸ st.k (i := 0) rfl) (fun _ => rfl) (by first | omega | (simp; done) | (simp; omega)) (by first | omega | (simp; done) | (simp; omega))) ?_
      refine La rfl (Scl st hF rfl (r5writeTag_ok _ (ix e.tags s6)) fun w18 st hF => ?_)
      have hlnu8 := show ((r5writeTag_m (ix e.tags s6))).length ≤ 27 from r5writeTag_len _
      refine Ly rfl (y_cat rfl rfl rfl (by first | omega | (simp; done) | (simp; omega))) ?_
      refine Ls' rfl (Ls_nil (Ib_n (Th_n (k25 _ _ (rg (Lm rfl (Ly rfl (y_add (c := s6 + 1) rfl rfl rfl (wf_i64 (by first | omega | (simp; done) | (simp; omega)))) ?_)))))))
      refine Ls' rfl (Ls_nil (Th_n (?_)))
      exact ⟨fuel, [(1, _), (5, _), (6, _)], Nat.lt_succ_self _, ⟨rfl, rfl, rfl, trivial⟩, (s5 ++ (r5writeTag_m (ix e.tags s6))), (s6 + 1), rfl, ⟨by rewrite [← hL2, r14write_L2]; rewrite [if_pos hc6]; rfl, by first | omega | (simp; done) | (simp; omega)⟩, by first | omega | (simp; done) | (simp; omega), (st.picks [0] (by decide)).pickK [0], hF⟩
    refine Wp_exit (Th_e (Th_e (Ib_hit (Th_n (?_)))))
    exact hout2 _ [(1, _), (5, _), (6, _)] _ ⟨rfl, rfl, rfl, trivial⟩ ⟨s5, s6, rfl, show _ = _ from by rewrite [← hL2, r14write_L2]; rewrite [if_neg hc6]; rfl, by first | omega | (simp; done) | (simp; omega), (st.picks [0] (by decide)).pickK [0], hF⟩
  refine sk k18 (sq fun _ k26 => rg (Lm rfl (Ls' rfl (Ls' rfl (Ln k26 (Wp_ret (Fq_ret (Res2 rfl rfl rfl) ?_)))))))
  unfold r14write_m; rewrite [if_pos hc1, if_neg hc2, if_neg hc5]
  exact ⟨rfl, hF⟩

end Go.Proofs.YtdgllcmlfblelaaGreatDoor

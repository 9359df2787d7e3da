/- Walks printed by gen2.py out of our own specifications: what the functions named below do. -/
import Derived.Test.YtmajjdpioillaaaDoorSe
import Derived.Test.YtmajjdpioillaaaDoorTy
set_option linter.unusedSimpArgs false
set_option linter.unusedVariables false
namespace Go.Proofs.YtmajjdpioillaaaDoor
open Go.RowKit

structure IdM where
  origin : Int
  seq : Int
instance : Inhabited IdM := ⟨⟨default, default⟩⟩
instance : DecidableEq IdM := fun a b => decidable_of_iff (a.origin = b.origin ∧ a.seq = b.seq) (by cases a; cases b; simp)
def idMC (x : IdM) : List Value := [.int .i64 x.origin, .int .u32 x.seq]
theorem idMC_len (x : IdM) : (idMC x).length = 2 := rfl
def r5check_c1 (id : IdM) : Bool :=
  (if id.origin < 0 then true else (if 7 < id.origin then true else (if id.seq < 1 then true else decide (1048576 < id.seq))))
def r5check_m (id : IdM) : Int :=
  if (r5check_c1 id) = true then
    2
  else
    0

theorem r5check_c1_iff (id : IdM) : (r5check_c1 id = true) ↔ ((id.origin < 0) ∨ ((7 < id.origin) ∨ ((id.seq < 1) ∨ (1048576 < id.seq)))) := by
  unfold r5check_c1; exact (ci1 (ci1 (ci1 decide_eq_true_iff)))

set_option maxRecDepth 20000 in
theorem r5check_ok (w : World) (id : IdM) :
    Fn Tryd.prog 41 [.agg (idMC id).toArray] w fun v w' => v = .int .i64 (r5check_m id) ∧ Fr [] w w' := by
  refine Fn_of 21 Ty.en_41 Tryd.func41 rfl rfl rfl ?_
  dsimp only [argEnv]
  have st : St [] w [] [] := St.nil (X := []) (w := w) (by simp [Lo])
  have hF := Fr.refl ([]) w
  refine Wp_seq fun K1 hK1 => ?_
  refine Wp_region (Ls_a (wtd0 rfl) ?_)
  refine a_box rfl rfl rfl rfl st.hp (fun g1 w1 (hp : Hp w1 [(_, Cl [_, _] _)]) hf hg1 => ?_)
  have st : St [] w1 [(_, Cl [_, _] _)] [] := st.push hp hf hg1
  have hg1 := Nat.le_trans hF.size hg1
  have hF := hF.step0 hf
  refine Las rfl rfl rfl rfl rfl (Ls_nil (Th_n (hK1 _ _ ?_)))
  refine Wp_seq fun K2 hK2 => ?_
  refine Wp_seq fun K3 hK3 => ?_
  refine use_out hK3 (fun E W => E = [(20, .bool (r5check_c1 id))] ∧ St [] W (hOf st) (kOf st) ∧ Fr ([]) w W) ?_ fun hout1 => ?_
  · rintro E w2 ⟨rfl, st, hF⟩
    have st : St [] w2 [(_, Cl [_, _] _)] [] := st
    refine Wp_cond rfl (fun hc1 => ?_) (fun hc1 => ?_)
    · have jhc1 := (r5check_c1_iff id).1 hc1
      refine Wp_seq fun K4 hK4 => ?_
      refine Wp_region (Las rfl rfl rfl rfl rfl (Ls_nil (Th_n (hK4 _ _ ?_))))
      refine Wp_ret (Th_r (Fq_ret (Res1 rfl rfl) ?_))
      have he1 : r5check_m id = 2 := by unfold r5check_m; rewrite [if_pos hc1]; rfl
      rewrite [he1]
      exact ⟨rfl, hF⟩
    have jhc1 := mt (r5check_c1_iff id).2 (bF hc1)
    have hc1 := bF hc1
    refine Wp_skip (Th_n (hK2 _ _ ?_))
    refine Wp_seq fun K5 hK5 => ?_
    refine Wp_region (Las rfl rfl rfl rfl rfl (Ls_nil (Th_n (hK5 _ _ ?_))))
    refine Wp_ret (Fq_ret (Res1 rfl rfl) ?_)
    have he2 : r5check_m id = 0 := by unfold r5check_m; rewrite [if_neg hc1]; rfl
    rewrite [he2]
    exact ⟨rfl, hF⟩
  refine Wp_region (Ls_y (wtd0 rfl) rfl rfl (y_fld rfl rfl Ty.fo_26_0) (Ls_y (wtd0 rfl) rfl rfl (y_load (i := 0) rfl rfl Ty.pl_3 (fun _ e => e ▸ st.hp) rfl rfl) ?_))
  refine Ls_y (wtd0 rfl) rfl rfl (y_lt rfl rfl rfl) (Lmv rfl rfl rfl rfl rfl (Ls_bool 6 rfl (fun hc2 => ?_) (fun hc2 => ?_)))
  · have hc2 := dT hc2
    refine Ls_s (wtdF rfl rfl rfl) rfl rfl (Ls_s (wtdF rfl rfl rfl) rfl rfl (Ls_s (wtdF rfl rfl rfl) rfl rfl (Ls_y (wtd0 rfl) rfl rfl (y_pick_t rfl rfl rfl) (Lmv rfl rfl rfl rfl rfl (Ls_s (wtdF rfl rfl rfl) rfl rfl (Ls_s (wtdF rfl rfl rfl) rfl rfl (Ls_s (wtdF rfl rfl rfl) rfl rfl (Ls_y (wtd0 rfl) rfl rfl (y_pick_t rfl rfl rfl) (Lmv rfl rfl rfl rfl rfl (Ls_s (wtdF rfl rfl rfl) rfl rfl (Ls_s (wtdF rfl rfl rfl) rfl rfl (Ls_s (wtdF rfl rfl rfl) rfl rfl (Ls_y (wtd0 rfl) rfl rfl (y_pick_t rfl rfl rfl) (Ls_nil (Th_n (?_))))))))))))))))
    have hcj1 : r5check_c1 id = true := by unfold r5check_c1; rewrite [if_pos hc2]; rfl
    exact hout1 _ [(20, _)] _ ⟨rfl, trivial⟩ ⟨by rw [hcj1], (st.picks [0] (by decide)).pickK [], hF⟩
  have hc2 := dF hc2
  refine Ls_y (wtdT rfl rfl rfl) rfl rfl (y_fld rfl rfl Ty.fo_26_0) (Ls_y (wtdT rfl rfl rfl) rfl rfl (y_load (i := 0) rfl rfl Ty.pl_3 (fun _ e => e ▸ st.hp) rfl rfl) ?_)
  refine Ls_y (wtdT rfl rfl rfl) rfl rfl (y_gt rfl rfl rfl) (Ls_y (wtd0 rfl) rfl rfl (y_pick_f rfl rfl rfl) (Lmv rfl rfl rfl rfl rfl (Ls_bool 11 rfl (fun hc3 => ?_) (fun hc3 => ?_))))
  · have hc3 := dT hc3
    refine Ls_s (wtdF rfl rfl rfl) rfl rfl (Ls_s (wtdF rfl rfl rfl) rfl rfl (Ls_s (wtdF rfl rfl rfl) rfl rfl (Ls_y (wtd0 rfl) rfl rfl (y_pick_t rfl rfl rfl) (Lmv rfl rfl rfl rfl rfl (Ls_s (wtdF rfl rfl rfl) rfl rfl (Ls_s (wtdF rfl rfl rfl) rfl rfl (Ls_s (wtdF rfl rfl rfl) rfl rfl (Ls_y (wtd0 rfl) rfl rfl (y_pick_t rfl rfl rfl) (Ls_nil (Th_n (?_)))))))))))
    have hcj2 : r5check_c1 id = true := by unfold r5check_c1; rewrite [if_neg hc2, if_pos hc3]; rfl
    exact hout1 _ [(20, _)] _ ⟨rfl, trivial⟩ ⟨by rw [hcj2], (st.picks [0] (by decide)).pickK [], hF⟩
  have hc3 := dF hc3
  refine Ls_y (wtdT rfl rfl rfl) rfl rfl (y_fld rfl rfl Ty.fo_26_1) (Ls_y (wtdT rfl rfl rfl) rfl rfl (y_load (i := 0) rfl rfl Ty.pl_24 (fun _ e => e ▸ st.hp) rfl rfl) ?_)
  refine Ls_y (wtdT rfl rfl rfl) rfl rfl (y_lt rfl rfl rfl) (Ls_y (wtd0 rfl) rfl rfl (y_pick_f rfl rfl rfl) (Lmv rfl rfl rfl rfl rfl (Ls_bool 16 rfl (fun hc4 => ?_) (fun hc4 => ?_))))
  · have hc4 := dT hc4
    refine Ls_s (wtdF rfl rfl rfl) rfl rfl (Ls_s (wtdF rfl rfl rfl) rfl rfl (Ls_s (wtdF rfl rfl rfl) rfl rfl (Ls_y (wtd0 rfl) rfl rfl (y_pick_t rfl rfl rfl) (Ls_nil (Th_n (?_))))))
    have hcj3 : r5check_c1 id = true := by unfold r5check_c1; rewrite [if_neg hc2, if_neg hc3, if_pos hc4]; rfl
    exact hout1 _ [(20, _)] _ ⟨rfl, trivial⟩ ⟨by rw [hcj3], (st.picks [0] (by decide)).pickK [], hF⟩
  have hc4 := dF hc4
  refine Ls_y (wtdT rfl rfl rfl) rfl rfl (y_fld rfl rfl Ty.fo_26_1) (Ls_y (wtdT rfl rfl rfl) rfl rfl (y_load (i := 0) rfl rfl Ty.pl_24 (fun _ e => e ▸ st.hp) rfl rfl) ?_)
  refine Ls_y (wtdT rfl rfl rfl) rfl rfl (y_gt rfl rfl rfl) (Ls_y (wtd0 rfl) rfl rfl (y_pick_f rfl rfl rfl) (Ls_nil (Th_n (?_))))
  have hcj4 : r5check_c1 id = (decide (1048576 < id.seq)) := by unfold r5check_c1; rewrite [if_neg hc2, if_neg hc3, if_neg hc4]; rfl
  exact hout1 _ [(20, _)] _ ⟨rfl, trivial⟩ ⟨by rw [hcj4], (st.picks [0] (by decide)).pickK [], hF⟩

def r5order_m (a : Int) (b : Int) : Int :=
  if a < b then
    (-1)
  else
    if b < a then
      1
    else
      0


set_option maxRecDepth 20000 in
theorem r5order_ok (w : World) (a : Int) (b : Int) :
    Fn Tryd.prog 43 [.int .i64 a, .int .i64 b] w fun v w' => v = .int .i64 (r5order_m a b) ∧ Fr [] w w' := by
  refine Fn_of 13 Ty.en_43 Tryd.func43 rfl rfl rfl ?_
  dsimp only [argEnv]
  have st : St [] w [] [] := St.nil (X := []) (w := w) (by simp [Lo])
  have hF := Fr.refl ([]) w
  refine Wp_seq fun K1 hK1 => ?_
  refine Wp_region (Las rfl rfl rfl rfl rfl (Ls_nil (Th_n (hK1 _ _ ?_))))
  refine Wp_seq fun K2 hK2 => ?_
  refine Wp_block (Wp_seq fun K3 hK3 => ?_)
  refine Wp_region (Lmv rfl rfl rfl rfl rfl (Lmv rfl rfl rfl rfl rfl (Ls_y (wtd0 rfl) rfl rfl (y_lt rfl rfl rfl) (Las rfl rfl rfl rfl rfl (Ls_nil (Th_n (hK3 _ _ ?_)))))))
  refine Wp_cond rfl (fun hc1 => ?_) (fun hc1 => ?_)
  · have hc1 := dT hc1
    refine Wp_seq fun K4 hK4 => ?_
    refine Wp_region (Las rfl rfl rfl rfl rfl (Ls_nil (Th_n (hK4 _ _ ?_))))
    refine Wp_ret (Ib_r (Th_r (Fq_ret (Res1 rfl rfl) ?_)))
    have he1 : r5order_m a b = (-1) := by unfold r5order_m; rewrite [if_pos hc1]; rfl
    rewrite [he1]
    exact ⟨rfl, hF⟩
  have hc1 := dF hc1
  refine Wp_seq fun K5 hK5 => ?_
  refine Wp_region (Lmv rfl rfl rfl rfl rfl (Lmv rfl rfl rfl rfl rfl (Ls_y (wtd0 rfl) rfl rfl (y_gt rfl rfl rfl) (Las rfl rfl rfl rfl rfl (Ls_nil (Th_n (hK5 _ _ ?_)))))))
  refine Wp_cond rfl (fun hc2 => ?_) (fun hc2 => ?_)
  · have hc2 := dT hc2
    refine Wp_seq fun K6 hK6 => ?_
    refine Wp_region (Las rfl rfl rfl rfl rfl (Ls_nil (Th_n (hK6 _ _ ?_))))
    refine Wp_ret (Ib_r (Th_r (Fq_ret (Res1 rfl rfl) ?_)))
    have he2 : r5order_m a b = 1 := by unfold r5order_m; rewrite [if_neg hc1, if_pos hc2]; rfl
    rewrite [he2]
    exact ⟨rfl, hF⟩
  have hc2 := dF hc2
  refine Wp_skip (Ib_n (Th_n (hK2 _ _ ?_)))
  refine Wp_seq fun K7 hK7 => ?_
  refine Wp_region (Las rfl rfl rfl rfl rfl (Ls_nil (Th_n (hK7 _ _ ?_))))
  refine Wp_ret (Fq_ret (Res1 rfl rfl) ?_)
  have he3 : r5order_m a b = 0 := by unfold r5order_m; rewrite [if_neg hc1, if_neg hc2]; rfl
  rewrite [he3]
  exact ⟨rfl, hF⟩

def r5compare_m (a : IdM) (b : IdM) : Int :=
  if a.origin = b.origin then
    r5order_m (IntKind.i64.wrap a.seq) (IntKind.i64.wrap b.seq)
  else
    r5order_m a.origin b.origin


set_option maxRecDepth 20000 in
theorem r5compare_ok (w : World) (a : IdM) (b : IdM) :
    Fn Tryd.prog 42 [.agg (idMC a).toArray, .agg (idMC b).toArray] w fun v w' => v = .int .i64 (r5compare_m a b) ∧ Fr [] w w' := by
  refine Fn_of 22 Ty.en_42 Tryd.func42 rfl rfl rfl ?_
  dsimp only [argEnv]
  have st : St [] w [] [] := St.nil (X := []) (w := w) (by simp [Lo])
  have hF := Fr.refl ([]) w
  refine Wp_seq fun K1 hK1 => ?_
  refine Wp_region (Ls_a (wtd0 rfl) ?_)
  refine a_box rfl rfl rfl rfl st.hp (fun g1 w1 (hp : Hp w1 [(_, Cl [_, _] _)]) hf hg1 => ?_)
  have st : St [] w1 [(_, Cl [_, _] _)] [] := st.push hp hf hg1
  have hg1 := Nat.le_trans hF.size hg1
  have hF := hF.step0 hf
  refine Ls_a (wtd0 rfl) ?_
  refine a_box rfl rfl rfl rfl st.hp (fun g2 w2 (hp : Hp w2 [(_, Cl [_, _] _), (_, Cl [_, _] _)]) hf hg2 => ?_)
  have st : St [] w2 [(_, Cl [_, _] _), (_, Cl [_, _] _)] [] := st.push hp hf hg2
  have hg2 := Nat.le_trans hF.size hg2
  have hF := hF.step0 hf
  refine Las rfl rfl rfl rfl rfl (Ls_nil (Th_n (hK1 _ _ ?_)))
  refine Wp_seq fun K2 hK2 => ?_
  refine Wp_seq fun K3 hK3 => ?_
  refine Wp_region (Ls_y (wtd0 rfl) rfl rfl (y_fld rfl rfl Ty.fo_26_0) (Ls_y (wtd0 rfl) rfl rfl (y_load (i := 0) rfl rfl Ty.pl_3 (fun _ e => e ▸ st.hp) rfl rfl) ?_))
  refine Ls_y (wtd0 rfl) rfl rfl (y_fld rfl rfl Ty.fo_26_0) (Ls_y (wtd0 rfl) rfl rfl (y_load (i := 1) rfl rfl Ty.pl_3 (fun _ e => e ▸ st.hp) rfl rfl) ?_)
  refine Ls_y (wtd0 rfl) rfl rfl (y_ne rfl rfl rfl) (Ls_nil (Th_n (hK3 _ _ ?_)))
  refine Wp_cond rfl (fun hc1 => ?_) (fun hc1 => ?_)
  · have hc1 := neT hc1
    refine Wp_seq fun K4 hK4 => ?_
    refine Wp_region (Ls_y (wtd0 rfl) rfl rfl (y_fld rfl rfl Ty.fo_26_0) (Ls_y (wtd0 rfl) rfl rfl (y_load (i := 0) rfl rfl Ty.pl_3 (fun _ e => e ▸ st.hp) rfl rfl) ?_))
    refine Ls_y (wtd0 rfl) rfl rfl (y_fld rfl rfl Ty.fo_26_0) (Ls_y (wtd0 rfl) rfl rfl (y_load (i := 1) rfl rfl Ty.pl_3 (fun _ e => e ▸ st.hp) rfl rfl) ?_)
    refine Ls_a (wtd0 rfl) ?_
    refine a_call rfl rfl rfl rfl (r5order_ok _ a.origin b.origin) (fun v w3 ⟨hv, hf⟩ => ?_)
    subst hv
    have st := st.keep0 hf
    have hF := hF.step0 hf
    have st : St [] w3 [(_, Cl [_, _] _), (_, Cl [_, _] _)] [] := st
    refine Las rfl rfl rfl rfl rfl (Ls_nil (Th_n (hK4 _ _ ?_)))
    refine Wp_ret (Th_r (Fq_ret (Res1 rfl rfl) ?_))
    have he1 : r5compare_m a b = (r5order_m a.origin b.origin) := by unfold r5compare_m; rewrite [if_neg hc1]; rfl
    rewrite [he1]
    exact ⟨rfl, hF⟩
  have hc1 := neF hc1
  refine Wp_skip (Th_n (hK2 _ _ ?_))
  refine Wp_seq fun K5 hK5 => ?_
  refine Wp_region (Ls_y (wtd0 rfl) rfl rfl (y_fld rfl rfl Ty.fo_26_1) (Ls_y (wtd0 rfl) rfl rfl (y_load (i := 0) rfl rfl Ty.pl_24 (fun _ e => e ▸ st.hp) rfl rfl) ?_))
  refine Ls_y (wtd0 rfl) rfl rfl (y_cvi (c := IntKind.i64.wrap a.seq) rfl rfl Tryd.underlying24 Tryd.underlying3 rfl) ?_
  refine Ls_y (wtd0 rfl) rfl rfl (y_fld rfl rfl Ty.fo_26_1) (Ls_y (wtd0 rfl) rfl rfl (y_load (i := 1) rfl rfl Ty.pl_24 (fun _ e => e ▸ st.hp) rfl rfl) ?_)
  refine Ls_y (wtd0 rfl) rfl rfl (y_cvi (c := IntKind.i64.wrap b.seq) rfl rfl Tryd.underlying24 Tryd.underlying3 rfl) ?_
  refine Ls_a (wtd0 rfl) ?_
  refine a_call rfl rfl rfl rfl (r5order_ok _ (IntKind.i64.wrap a.seq) (IntKind.i64.wrap b.seq)) (fun v w4 ⟨hv, hf⟩ => ?_)
  subst hv
  have st := st.keep0 hf
  have hF := hF.step0 hf
  have st : St [] w4 [(_, Cl [_, _] _), (_, Cl [_, _] _)] [] := st
  refine Las rfl rfl rfl rfl rfl (Ls_nil (Th_n (hK5 _ _ ?_)))
  refine Wp_ret (Fq_ret (Res1 rfl rfl) ?_)
  have he2 : r5compare_m a b = (r5order_m (IntKind.i64.wrap a.seq) (IntKind.i64.wrap b.seq)) := by unfold r5compare_m; rewrite [if_pos hc1]; rfl
  rewrite [he2]
  exact ⟨rfl, hF⟩

structure TagM where
  id : IdM
  n : Int
instance : Inhabited TagM := ⟨⟨default, default⟩⟩
instance : DecidableEq TagM := fun a b => decidable_of_iff (a.id = b.id ∧ a.n = b.n) (by cases a; cases b; simp)
def tagMC (x : TagM) : List Value := [.int .i64 x.id.origin, .int .u32 x.id.seq, .int .i64 x.n]
theorem tagMC_len (x : TagM) : (tagMC x).length = 3 := rfl
def r5checkTag_c1 (t : TagM) : Bool :=
  (if (r5check_m t.id) = 0 then (if t.n < 0 then true else decide (15 < t.n)) else true)
def r5checkTag_m (t : TagM) : Int :=
  if (r5checkTag_c1 t) = true then
    2
  else
    0

theorem r5checkTag_c1_iff (t : TagM) : (r5checkTag_c1 t = true) ↔ (¬ ((r5check_m t.id) = 0) ∨ ((t.n < 0) ∨ (15 < t.n))) := by
  unfold r5checkTag_c1; exact (ci4 (ci1 decide_eq_true_iff))

set_option maxRecDepth 20000 in
theorem r5checkTag_ok (w : World) (t : TagM) :
    Fn Tryd.prog 28 [.agg (tagMC t).toArray] w fun v w' => v = .int .i64 (r5checkTag_m t) ∧ Fr [] w w' := by
  refine Fn_of 17 Ty.en_28 Tryd.func28 rfl rfl rfl ?_
  dsimp only [argEnv]
  have st : St [] w [] [] := St.nil (X := []) (w := w) (by simp [Lo])
  have hF := Fr.refl ([]) w
  refine Wp_seq fun K1 hK1 => ?_
  refine Wp_region (Ls_a (wtd0 rfl) ?_)
  refine a_box rfl rfl rfl rfl st.hp (fun g1 w1 (hp : Hp w1 [(_, Cl [_, _, _] _)]) hf hg1 => ?_)
  have st : St [] w1 [(_, Cl [_, _, _] _)] [] := st.push hp hf hg1
  have hg1 := Nat.le_trans hF.size hg1
  have hF := hF.step0 hf
  refine Las rfl rfl rfl rfl rfl (Ls_nil (Th_n (hK1 _ _ ?_)))
  refine Wp_seq fun K2 hK2 => ?_
  refine Wp_seq fun K3 hK3 => ?_
  refine use_out hK3 (fun E W => E = [(16, .bool (r5checkTag_c1 t))] ∧ St [] W (hOf st) (kOf st) ∧ Fr ([]) w W) ?_ fun hout1 => ?_
  · rintro E w2 ⟨rfl, st, hF⟩
    have st : St [] w2 [(_, Cl [_, _, _] _)] [] := st
    refine Wp_cond rfl (fun hc1 => ?_) (fun hc1 => ?_)
    · have jhc1 := (r5checkTag_c1_iff t).1 hc1
      refine Wp_seq fun K4 hK4 => ?_
      refine Wp_region (Las rfl rfl rfl rfl rfl (Ls_nil (Th_n (hK4 _ _ ?_))))
      refine Wp_ret (Th_r (Fq_ret (Res1 rfl rfl) ?_))
      have he1 : r5checkTag_m t = 2 := by unfold r5checkTag_m; rewrite [if_pos hc1]; rfl
      rewrite [he1]
      exact ⟨rfl, hF⟩
    have jhc1 := mt (r5checkTag_c1_iff t).2 (bF hc1)
    have hc1 := bF hc1
    refine Wp_skip (Th_n (hK2 _ _ ?_))
    refine Wp_seq fun K5 hK5 => ?_
    refine Wp_region (Las rfl rfl rfl rfl rfl (Ls_nil (Th_n (hK5 _ _ ?_))))
    refine Wp_ret (Fq_ret (Res1 rfl rfl) ?_)
    have he2 : r5checkTag_m t = 0 := by unfold r5checkTag_m; rewrite [if_neg hc1]; rfl
    rewrite [he2]
    exact ⟨rfl, hF⟩
  refine Wp_region (Ls_y (wtd0 rfl) rfl rfl (y_fld rfl rfl Ty.fo_28_0) (Ls_y (wtd0 rfl) rfl rfl (y_loadm (i := 0) rfl rfl Ty.ag_26 (fun _ e => e ▸ st.hp) rfl rfl rfl) ?_))
  refine Ls_a (wtd0 rfl) ?_
  refine a_call rfl rfl rfl rfl (r5check_ok _ t.id) (fun v w3 ⟨hv, hf⟩ => ?_)
  subst hv
  have st := st.keep0 hf
  have hF := hF.step0 hf
  have st : St [] w3 [(_, Cl [_, _, _] _)] [] := st
  refine Ls_y (wtd0 rfl) rfl rfl (y_ne rfl rfl rfl) (Lmv rfl rfl rfl rfl rfl (Ls_bool 7 rfl (fun hc2 => ?_) (fun hc2 => ?_)))
  · have hc2 := neT hc2
    refine Ls_s (wtdF rfl rfl rfl) rfl rfl (Ls_s (wtdF rfl rfl rfl) rfl rfl (Ls_s (wtdF rfl rfl rfl) rfl rfl (Ls_y (wtd0 rfl) rfl rfl (y_pick_t rfl rfl rfl) (Lmv rfl rfl rfl rfl rfl (Ls_s (wtdF rfl rfl rfl) rfl rfl (Ls_s (wtdF rfl rfl rfl) rfl rfl (Ls_s (wtdF rfl rfl rfl) rfl rfl (Ls_y (wtd0 rfl) rfl rfl (y_pick_t rfl rfl rfl) (Ls_nil (Th_n (?_)))))))))))
    have hcj1 : r5checkTag_c1 t = true := by unfold r5checkTag_c1; rewrite [if_neg hc2]; rfl
    exact hout1 _ [(16, _)] _ ⟨rfl, trivial⟩ ⟨by rw [hcj1], (st.picks [0] (by decide)).pickK [], hF⟩
  have hc2 := neF hc2
  refine Ls_y (wtdT rfl rfl rfl) rfl rfl (y_fld rfl rfl Ty.fo_28_1) (Ls_y (wtdT rfl rfl rfl) rfl rfl (y_load (i := 0) rfl rfl Ty.pl_3 (fun _ e => e ▸ st.hp) rfl rfl) ?_)
  refine Ls_y (wtdT rfl rfl rfl) rfl rfl (y_lt rfl rfl rfl) (Ls_y (wtd0 rfl) rfl rfl (y_pick_f rfl rfl rfl) (Lmv rfl rfl rfl rfl rfl (Ls_bool 12 rfl (fun hc3 => ?_) (fun hc3 => ?_))))
  · have hc3 := dT hc3
    refine Ls_s (wtdF rfl rfl rfl) rfl rfl (Ls_s (wtdF rfl rfl rfl) rfl rfl (Ls_s (wtdF rfl rfl rfl) rfl rfl (Ls_y (wtd0 rfl) rfl rfl (y_pick_t rfl rfl rfl) (Ls_nil (Th_n (?_))))))
    have hcj2 : r5checkTag_c1 t = true := by unfold r5checkTag_c1; rewrite [if_pos hc2, if_pos hc3]; rfl
    exact hout1 _ [(16, _)] _ ⟨rfl, trivial⟩ ⟨by rw [hcj2], (st.picks [0] (by decide)).pickK [], hF⟩
  have hc3 := dF hc3
  refine Ls_y (wtdT rfl rfl rfl) rfl rfl (y_fld rfl rfl Ty.fo_28_1) (Ls_y (wtdT rfl rfl rfl) rfl rfl (y_load (i := 0) rfl rfl Ty.pl_3 (fun _ e => e ▸ st.hp) rfl rfl) ?_)
  refine Ls_y (wtdT rfl rfl rfl) rfl rfl (y_gt rfl rfl rfl) (Ls_y (wtd0 rfl) rfl rfl (y_pick_f rfl rfl rfl) (Ls_nil (Th_n (?_))))
  have hcj3 : r5checkTag_c1 t = (decide (15 < t.n)) := by unfold r5checkTag_c1; rewrite [if_pos hc2, if_neg hc3]; rfl
  exact hout1 _ [(16, _)] _ ⟨rfl, trivial⟩ ⟨by rw [hcj3], (st.picks [0] (by decide)).pickK [], hF⟩

theorem eqv_26r (a0 : Int) (a1 : Int) (b0 : Int) (b1 : Int) : eqVals Tryd.prog 8 26 [.int .i64 a0, .int .u32 a1] [.int .i64 b0, .int .u32 b1] = some ((a0 == b0) && ((a1 == b1) && true)) := by kernel_rfl
theorem eqv_26 (x y : IdM) : eqVals Tryd.prog 8 26 (idMC x) (idMC y) = some (decide (x = y)) := by
  obtain ⟨a0, a1⟩ := x
  obtain ⟨b0, b1⟩ := y
  refine (eqv_26r a0 a1 b0 b1).trans (congrArg some ?_)
  rw [Bool.eq_iff_iff]
  simp
def r5compareTag_m (a : TagM) (b : TagM) : Int :=
  if a.id = b.id then
    r5order_m a.n b.n
  else
    r5compare_m a.id b.id


set_option maxRecDepth 20000 in
theorem r5compareTag_ok (w : World) (a : TagM) (b : TagM) :
    Fn Tryd.prog 32 [.agg (tagMC a).toArray, .agg (tagMC b).toArray] w fun v w' => v = .int .i64 (r5compareTag_m a b) ∧ Fr [] w w' := by
  refine Fn_of 20 Ty.en_32 Tryd.func32 rfl rfl rfl ?_
  dsimp only [argEnv]
  have st : St [] w [] [] := St.nil (X := []) (w := w) (by simp [Lo])
  have hF := Fr.refl ([]) w
  refine Wp_seq fun K1 hK1 => ?_
  refine Wp_region (Ls_a (wtd0 rfl) ?_)
  refine a_box rfl rfl rfl rfl st.hp (fun g1 w1 (hp : Hp w1 [(_, Cl [_, _, _] _)]) hf hg1 => ?_)
  have st : St [] w1 [(_, Cl [_, _, _] _)] [] := st.push hp hf hg1
  have hg1 := Nat.le_trans hF.size hg1
  have hF := hF.step0 hf
  refine Ls_a (wtd0 rfl) ?_
  refine a_box rfl rfl rfl rfl st.hp (fun g2 w2 (hp : Hp w2 [(_, Cl [_, _, _] _), (_, Cl [_, _, _] _)]) hf hg2 => ?_)
  have st : St [] w2 [(_, Cl [_, _, _] _), (_, Cl [_, _, _] _)] [] := st.push hp hf hg2
  have hg2 := Nat.le_trans hF.size hg2
  have hF := hF.step0 hf
  refine Las rfl rfl rfl rfl rfl (Ls_nil (Th_n (hK1 _ _ ?_)))
  refine Wp_seq fun K2 hK2 => ?_
  refine Wp_seq fun K3 hK3 => ?_
  refine Wp_region (Ls_y (wtd0 rfl) rfl rfl (y_fld rfl rfl Ty.fo_28_0) (Ls_y (wtd0 rfl) rfl rfl (y_loadm (i := 0) rfl rfl Ty.ag_26 (fun _ e => e ▸ st.hp) rfl rfl rfl) ?_))
  refine Ls_y (wtd0 rfl) rfl rfl (y_fld rfl rfl Ty.fo_28_0) (Ls_y (wtd0 rfl) rfl rfl (y_loadm (i := 1) rfl rfl Ty.ag_26 (fun _ e => e ▸ st.hp) rfl rfl rfl) ?_)
  refine Ls_y (wtd0 rfl) rfl rfl (y_nev (b := decide (a.id = b.id)) rfl rfl rfl Ty.eg_26 (by rw [Ty.ag_26]; simp) (eqv_26 a.id b.id)) ?_
  refine Ls_nil (Th_n (hK3 _ _ ?_))
  refine Wp_cond rfl (fun hc1 => ?_) (fun hc1 => ?_)
  · have hc1 := dF (nT hc1)
    refine Wp_seq fun K4 hK4 => ?_
    refine Wp_region (Ls_y (wtd0 rfl) rfl rfl (y_fld rfl rfl Ty.fo_28_0) (Ls_y (wtd0 rfl) rfl rfl (y_loadm (i := 0) rfl rfl Ty.ag_26 (fun _ e => e ▸ st.hp) rfl rfl rfl) ?_))
    refine Ls_y (wtd0 rfl) rfl rfl (y_fld rfl rfl Ty.fo_28_0) (Ls_y (wtd0 rfl) rfl rfl (y_loadm (i := 1) rfl rfl Ty.ag_26 (fun _ e => e ▸ st.hp) rfl rfl rfl) ?_)
    refine Ls_a (wtd0 rfl) ?_
    refine a_call rfl rfl rfl rfl (r5compare_ok _ a.id b.id) (fun v w3 ⟨hv, hf⟩ => ?_)
    subst hv
    have st := st.keep0 hf
    have hF := hF.step0 hf
    have st : St [] w3 [(_, Cl [_, _, _] _), (_, Cl [_, _, _] _)] [] := st
    refine Las rfl rfl rfl rfl rfl (Ls_nil (Th_n (hK4 _ _ ?_)))
    refine Wp_ret (Th_r (Fq_ret (Res1 rfl rfl) ?_))
    have he1 : r5compareTag_m a b = (r5compare_m a.id b.id) := by unfold r5compareTag_m; rewrite [if_neg hc1]; rfl
    rewrite [he1]
    exact ⟨rfl, hF⟩
  have hc1 := dT (nF hc1)
  refine Wp_skip (Th_n (hK2 _ _ ?_))
  refine Wp_seq fun K5 hK5 => ?_
  refine Wp_region (Ls_y (wtd0 rfl) rfl rfl (y_fld rfl rfl Ty.fo_28_1) (Ls_y (wtd0 rfl) rfl rfl (y_load (i := 0) rfl rfl Ty.pl_3 (fun _ e => e ▸ st.hp) rfl rfl) ?_))
  refine Ls_y (wtd0 rfl) rfl rfl (y_fld rfl rfl Ty.fo_28_1) (Ls_y (wtd0 rfl) rfl rfl (y_load (i := 1) rfl rfl Ty.pl_3 (fun _ e => e ▸ st.hp) rfl rfl) ?_)
  refine Ls_a (wtd0 rfl) ?_
  refine a_call rfl rfl rfl rfl (r5order_ok _ a.n b.n) (fun v w4 ⟨hv, hf⟩ => ?_)
  subst hv
  have st := st.keep0 hf
  have hF := hF.step0 hf
  have st : St [] w4 [(_, Cl [_, _, _] _), (_, Cl [_, _, _] _)] [] := st
  refine Las rfl rfl rfl rfl rfl (Ls_nil (Th_n (hK5 _ _ ?_)))
  refine Wp_ret (Fq_ret (Res1 rfl rfl) ?_)
  have he2 : r5compareTag_m a b = (r5order_m a.n b.n) := by unfold r5compareTag_m; rewrite [if_pos hc1]; rfl
  rewrite [he2]
  exact ⟨rfl, hF⟩

structure StampM where
  time : Int
  origin : Int
instance : Inhabited StampM := ⟨⟨default, default⟩⟩
instance : DecidableEq StampM := fun a b => decidable_of_iff (a.time = b.time ∧ a.origin = b.origin) (by cases a; cases b; simp)
def stampMC (x : StampM) : List Value := [.int .u32 x.time, .int .i64 x.origin]
theorem stampMC_len (x : StampM) : (stampMC x).length = 2 := rfl
def r9check_c1 (s : StampM) : Bool :=
  (if 1048576 < s.time then true else (if s.origin < 0 then true else decide (7 < s.origin)))
def r9check_m (s : StampM) : Int :=
  if (r9check_c1 s) = true then
    2
  else
    0

theorem r9check_c1_iff (s : StampM) : (r9check_c1 s = true) ↔ ((1048576 < s.time) ∨ ((s.origin < 0) ∨ (7 < s.origin))) := by
  unfold r9check_c1; exact (ci1 (ci1 decide_eq_true_iff))

set_option maxRecDepth 20000 in
theorem r9check_ok (w : World) (s : StampM) :
    Fn Tryd.prog 30 [.agg (stampMC s).toArray] w fun v w' => v = .int .i64 (r9check_m s) ∧ Fr [] w w' := by
  refine Fn_of 16 Ty.en_30 Tryd.func30 rfl rfl rfl ?_
  dsimp only [argEnv]
  have st : St [] w [] [] := St.nil (X := []) (w := w) (by simp [Lo])
  have hF := Fr.refl ([]) w
  refine Wp_seq fun K1 hK1 => ?_
  refine Wp_region (Ls_a (wtd0 rfl) ?_)
  refine a_box rfl rfl rfl rfl st.hp (fun g1 w1 (hp : Hp w1 [(_, Cl [_, _] _)]) hf hg1 => ?_)
  have st : St [] w1 [(_, Cl [_, _] _)] [] := st.push hp hf hg1
  have hg1 := Nat.le_trans hF.size hg1
  have hF := hF.step0 hf
  refine Las rfl rfl rfl rfl rfl (Ls_nil (Th_n (hK1 _ _ ?_)))
  refine Wp_seq fun K2 hK2 => ?_
  refine Wp_seq fun K3 hK3 => ?_
  refine use_out hK3 (fun E W => E = [(15, .bool (r9check_c1 s))] ∧ St [] W (hOf st) (kOf st) ∧ Fr ([]) w W) ?_ fun hout1 => ?_
  · rintro E w2 ⟨rfl, st, hF⟩
    have st : St [] w2 [(_, Cl [_, _] _)] [] := st
    refine Wp_cond rfl (fun hc1 => ?_) (fun hc1 => ?_)
    · have jhc1 := (r9check_c1_iff s).1 hc1
      refine Wp_seq fun K4 hK4 => ?_
      refine Wp_region (Las rfl rfl rfl rfl rfl (Ls_nil (Th_n (hK4 _ _ ?_))))
      refine Wp_ret (Th_r (Fq_ret (Res1 rfl rfl) ?_))
      have he1 : r9check_m s = 2 := by unfold r9check_m; rewrite [if_pos hc1]; rfl
      rewrite [he1]
      exact ⟨rfl, hF⟩
    have jhc1 := mt (r9check_c1_iff s).2 (bF hc1)
    have hc1 := bF hc1
    refine Wp_skip (Th_n (hK2 _ _ ?_))
    refine Wp_seq fun K5 hK5 => ?_
    refine Wp_region (Las rfl rfl rfl rfl rfl (Ls_nil (Th_n (hK5 _ _ ?_))))
    refine Wp_ret (Fq_ret (Res1 rfl rfl) ?_)
    have he2 : r9check_m s = 0 := by unfold r9check_m; rewrite [if_neg hc1]; rfl
    rewrite [he2]
    exact ⟨rfl, hF⟩
  refine Wp_region (Ls_y (wtd0 rfl) rfl rfl (y_fld rfl rfl Ty.fo_30_0) (Ls_y (wtd0 rfl) rfl rfl (y_load (i := 0) rfl rfl Ty.pl_24 (fun _ e => e ▸ st.hp) rfl rfl) ?_))
  refine Ls_y (wtd0 rfl) rfl rfl (y_gt rfl rfl rfl) (Lmv rfl rfl rfl rfl rfl (Ls_bool 6 rfl (fun hc2 => ?_) (fun hc2 => ?_)))
  · have hc2 := dT hc2
    refine Ls_s (wtdF rfl rfl rfl) rfl rfl (Ls_s (wtdF rfl rfl rfl) rfl rfl (Ls_s (wtdF rfl rfl rfl) rfl rfl (Ls_y (wtd0 rfl) rfl rfl (y_pick_t rfl rfl rfl) (Lmv rfl rfl rfl rfl rfl (Ls_s (wtdF rfl rfl rfl) rfl rfl (Ls_s (wtdF rfl rfl rfl) rfl rfl (Ls_s (wtdF rfl rfl rfl) rfl rfl (Ls_y (wtd0 rfl) rfl rfl (y_pick_t rfl rfl rfl) (Ls_nil (Th_n (?_)))))))))))
    have hcj1 : r9check_c1 s = true := by unfold r9check_c1; rewrite [if_pos hc2]; rfl
    exact hout1 _ [(15, _)] _ ⟨rfl, trivial⟩ ⟨by rw [hcj1], (st.picks [0] (by decide)).pickK [], hF⟩
  have hc2 := dF hc2
  refine Ls_y (wtdT rfl rfl rfl) rfl rfl (y_fld rfl rfl Ty.fo_30_1) (Ls_y (wtdT rfl rfl rfl) rfl rfl (y_load (i := 0) rfl rfl Ty.pl_3 (fun _ e => e ▸ st.hp) rfl rfl) ?_)
  refine Ls_y (wtdT rfl rfl rfl) rfl rfl (y_lt rfl rfl rfl) (Ls_y (wtd0 rfl) rfl rfl (y_pick_f rfl rfl rfl) (Lmv rfl rfl rfl rfl rfl (Ls_bool 11 rfl (fun hc3 => ?_) (fun hc3 => ?_))))
  · have hc3 := dT hc3
    refine Ls_s (wtdF rfl rfl rfl) rfl rfl (Ls_s (wtdF rfl rfl rfl) rfl rfl (Ls_s (wtdF rfl rfl rfl) rfl rfl (Ls_y (wtd0 rfl) rfl rfl (y_pick_t rfl rfl rfl) (Ls_nil (Th_n (?_))))))
    have hcj2 : r9check_c1 s = true := by unfold r9check_c1; rewrite [if_neg hc2, if_pos hc3]; rfl
    exact hout1 _ [(15, _)] _ ⟨rfl, trivial⟩ ⟨by rw [hcj2], (st.picks [0] (by decide)).pickK [], hF⟩
  have hc3 := dF hc3
  refine Ls_y (wtdT rfl rfl rfl) rfl rfl (y_fld rfl rfl Ty.fo_30_1) (Ls_y (wtdT rfl rfl rfl) rfl rfl (y_load (i := 0) rfl rfl Ty.pl_3 (fun _ e => e ▸ st.hp) rfl rfl) ?_)
  refine Ls_y (wtdT rfl rfl rfl) rfl rfl (y_gt rfl rfl rfl) (Ls_y (wtd0 rfl) rfl rfl (y_pick_f rfl rfl rfl) (Ls_nil (Th_n (?_))))
  have hcj3 : r9check_c1 s = (decide (7 < s.origin)) := by unfold r9check_c1; rewrite [if_neg hc2, if_neg hc3]; rfl
  exact hout1 _ [(15, _)] _ ⟨rfl, trivial⟩ ⟨by rw [hcj3], (st.picks [0] (by decide)).pickK [], hF⟩

def r12elem_m (s : List UInt8) : Bool :=
  if 1 ≤ (s.length : Int) then
    decide ((s.length : Int) ≤ 12)
  else
    false


set_option maxRecDepth 20000 in
theorem r12elem_ok (w : World) (s : List UInt8) :
    Fn Tryd.prog 23 [sv s] w fun v w' => v = .bool (r12elem_m s) ∧ Fr [] w w' := by
  refine Fn_of 11 Ty.en_23 Tryd.func23 rfl rfl rfl ?_
  dsimp only [argEnv]
  have st : St [] w [] [] := St.nil (X := []) (w := w) (by simp [Lo])
  have hF := Fr.refl ([]) w
  refine Wp_seq fun K1 hK1 => ?_
  refine Wp_region (Las rfl rfl rfl rfl rfl (Ls_nil (Th_n (hK1 _ _ ?_))))
  refine Wp_seq fun K2 hK2 => ?_
  refine Wp_region (Lmv rfl rfl rfl rfl rfl (Ls_y (wtd0 rfl) rfl rfl (y_lens rfl rfl Tryd.underlying9) ?_))
  refine Ls_y (wtd0 rfl) rfl rfl (y_ge rfl rfl rfl) (Lmv rfl rfl rfl rfl rfl (Ls_bool 6 rfl (fun hc1 => ?_) (fun hc1 => ?_)))
  · have hc1 := dT hc1
    refine Ls_y (wtdT rfl rfl rfl) rfl rfl (y_move rfl rfl) (Ls_y (wtdT rfl rfl rfl) rfl rfl (y_lens rfl rfl Tryd.underlying9) ?_)
    refine Ls_y (wtdT rfl rfl rfl) rfl rfl (y_le rfl rfl rfl) (Ls_y (wtd0 rfl) rfl rfl (y_pick_t rfl rfl rfl) (Las rfl rfl rfl rfl rfl (Ls_nil (Th_n (hK2 _ _ ?_)))))
    refine Wp_ret (Fq_ret (Res1 rfl rfl) ?_)
    have he1 : r12elem_m s = (decide ((s.length : Int) ≤ 12)) := by unfold r12elem_m; rewrite [if_pos hc1]; rfl
    rewrite [he1]
    exact ⟨rfl, hF⟩
  have hc1 := dF hc1
  refine Ls_s (wtdF rfl rfl rfl) rfl rfl (Ls_s (wtdF rfl rfl rfl) rfl rfl (Ls_s (wtdF rfl rfl rfl) rfl rfl (Ls_y (wtd0 rfl) rfl rfl (y_pick_f rfl rfl rfl) (Las rfl rfl rfl rfl rfl (Ls_nil (Th_n (hK2 _ _ ?_)))))))
  refine Wp_ret (Fq_ret (Res1 rfl rfl) ?_)
  have he2 : r12elem_m s = false := by unfold r12elem_m; rewrite [if_neg hc1]; rfl
  rewrite [he2]
  exact ⟨rfl, hF⟩

def r14kind_m (act : Int) : Int :=
  if act = 1 then
    1
  else
    if act = 2 then
      2
    else
      if act = 3 then
        3
      else
        if act = 4 then
          3
        else
          if act = 5 then
            4
          else
            if act = 6 then
              4
            else
              0


set_option maxRecDepth 20000 in
theorem r14kind_ok (w : World) (act : Int) :
    Fn Tryd.prog 8 [.int .i64 act] w fun v w' => v = .int .i64 (r14kind_m act) ∧ Fr [] w w' := by
  refine Fn_of 14 Ty.en_8 Tryd.func8 rfl rfl rfl ?_
  dsimp only [argEnv]
  have st : St [] w [] [] := St.nil (X := []) (w := w) (by simp [Lo])
  have hF := Fr.refl ([]) w
  refine Wp_seq fun K1 hK1 => ?_
  refine Wp_region (Las rfl rfl rfl rfl rfl (Ls_nil (Th_n (hK1 _ _ ?_))))
  refine Wp_seq fun K2 hK2 => ?_
  refine Wp_seq fun K3 hK3 => ?_
  refine Wp_region (Lmv rfl rfl rfl rfl rfl (Ls_nil (Th_n (hK3 _ _ ?_))))
  refine Wp_block (Wp_seq fun K4 hK4 => ?_)
  refine Wp_region (Ls_y (wtd0 rfl) rfl rfl (y_eq rfl rfl rfl) (Las rfl rfl rfl rfl rfl (Ls_nil (Th_n (hK4 _ _ ?_)))))
  refine Wp_cond rfl (fun hc1 => ?_) (fun hc1 => ?_)
  · have hc1 := eT hc1
    refine Wp_seq fun K5 hK5 => ?_
    refine Wp_region (Las rfl rfl rfl rfl rfl (Ls_nil (Th_n (hK5 _ _ ?_))))
    refine Wp_ret (Ib_r (Th_r (Fq_ret (Res1 rfl rfl) ?_)))
    have he1 : r14kind_m act = 1 := by unfold r14kind_m; rewrite [if_pos hc1]; rfl
    rewrite [he1]
    exact ⟨rfl, hF⟩
  have hc1 := eF hc1
  refine Wp_seq fun K6 hK6 => ?_
  refine Wp_region (Ls_y (wtd0 rfl) rfl rfl (y_eq rfl rfl rfl) (Las rfl rfl rfl rfl rfl (Ls_nil (Th_n (hK6 _ _ ?_)))))
  refine Wp_cond rfl (fun hc2 => ?_) (fun hc2 => ?_)
  · have hc2 := eT hc2
    refine Wp_seq fun K7 hK7 => ?_
    refine Wp_region (Las rfl rfl rfl rfl rfl (Ls_nil (Th_n (hK7 _ _ ?_))))
    refine Wp_ret (Ib_r (Th_r (Fq_ret (Res1 rfl rfl) ?_)))
    have he2 : r14kind_m act = 2 := by unfold r14kind_m; rewrite [if_neg hc1, if_pos hc2]; rfl
    rewrite [he2]
    exact ⟨rfl, hF⟩
  have hc2 := eF hc2
  refine Wp_seq fun K8 hK8 => ?_
  refine Wp_seq fun K9 hK9 => ?_
  refine Wp_region (Ls_y (wtd0 rfl) rfl rfl (y_eq rfl rfl rfl) (Las rfl rfl rfl rfl rfl (Ls_nil (Th_n (hK9 _ _ ?_)))))
  refine Wp_cond rfl (fun hc3 => ?_) (fun hc3 => ?_)
  · have hc3 := eT hc3
    refine Wp_skip (Th_n (hK8 _ _ ?_))
    refine Wp_cond rfl (fun _ => ?_) (fun hc4 => absurd hc4 (by simp [hc3]))
    refine Wp_seq fun K10 hK10 => ?_
    refine Wp_region (Las rfl rfl rfl rfl rfl (Ls_nil (Th_n (hK10 _ _ ?_))))
    refine Wp_ret (Ib_r (Th_r (Fq_ret (Res1 rfl rfl) ?_)))
    have he3 : r14kind_m act = 3 := by unfold r14kind_m; rewrite [if_neg hc1, if_neg hc2, if_pos hc3]; rfl
    rewrite [he3]
    exact ⟨rfl, hF⟩
  have hc3 := eF hc3
  refine Wp_region (Ls_y (wtd0 rfl) rfl rfl (y_eq rfl rfl rfl) (Las rfl rfl rfl rfl rfl (Ls_nil (Th_n (hK8 _ _ ?_)))))
  refine Wp_cond rfl (fun hc5 => ?_) (fun hc5 => ?_)
  · have hc5 := eT hc5
    refine Wp_seq fun K11 hK11 => ?_
    refine Wp_region (Las rfl rfl rfl rfl rfl (Ls_nil (Th_n (hK11 _ _ ?_))))
    refine Wp_ret (Ib_r (Th_r (Fq_ret (Res1 rfl rfl) ?_)))
    have he4 : r14kind_m act = 3 := by unfold r14kind_m; rewrite [if_neg hc1, if_neg hc2, if_neg hc3, if_pos hc5]; rfl
    rewrite [he4]
    exact ⟨rfl, hF⟩
  have hc5 := eF hc5
  refine Wp_seq fun K12 hK12 => ?_
  refine Wp_seq fun K13 hK13 => ?_
  refine Wp_region (Ls_y (wtd0 rfl) rfl rfl (y_eq rfl rfl rfl) (Las rfl rfl rfl rfl rfl (Ls_nil (Th_n (hK13 _ _ ?_)))))
  refine Wp_cond rfl (fun hc6 => ?_) (fun hc6 => ?_)
  · have hc6 := eT hc6
    refine Wp_skip (Th_n (hK12 _ _ ?_))
    refine Wp_cond rfl (fun _ => ?_) (fun hc7 => absurd hc7 (by simp [hc6]))
    refine Wp_seq fun K14 hK14 => ?_
    refine Wp_region (Las rfl rfl rfl rfl rfl (Ls_nil (Th_n (hK14 _ _ ?_))))
    refine Wp_ret (Ib_r (Th_r (Fq_ret (Res1 rfl rfl) ?_)))
    have he5 : r14kind_m act = 4 := by unfold r14kind_m; rewrite [if_neg hc1, if_neg hc2, if_neg hc3, if_neg hc5, if_pos hc6]; rfl
    rewrite [he5]
    exact ⟨rfl, hF⟩
  have hc6 := eF hc6
  refine Wp_region (Ls_y (wtd0 rfl) rfl rfl (y_eq rfl rfl rfl) (Las rfl rfl rfl rfl rfl (Ls_nil (Th_n (hK12 _ _ ?_)))))
  refine Wp_cond rfl (fun hc8 => ?_) (fun hc8 => ?_)
  · have hc8 := eT hc8
    refine Wp_seq fun K15 hK15 => ?_
    refine Wp_region (Las rfl rfl rfl rfl rfl (Ls_nil (Th_n (hK15 _ _ ?_))))
    refine Wp_ret (Ib_r (Th_r (Fq_ret (Res1 rfl rfl) ?_)))
    have he6 : r14kind_m act = 4 := by unfold r14kind_m; rewrite [if_neg hc1, if_neg hc2, if_neg hc3, if_neg hc5, if_neg hc6, if_pos hc8]; rfl
    rewrite [he6]
    exact ⟨rfl, hF⟩
  have hc8 := eF hc8
  refine Wp_skip (Ib_n (Th_n (hK2 _ _ ?_)))
  refine Wp_seq fun K16 hK16 => ?_
  refine Wp_region (Las rfl rfl rfl rfl rfl (Ls_nil (Th_n (hK16 _ _ ?_))))
  refine Wp_ret (Fq_ret (Res1 rfl rfl) ?_)
  have he7 : r14kind_m act = 0 := by unfold r14kind_m; rewrite [if_neg hc1, if_neg hc2, if_neg hc3, if_neg hc5, if_neg hc6, if_neg hc8]; rfl
  rewrite [he7]
  exact ⟨rfl, hF⟩

def r14timed_m (act : Int) : Bool :=
  if act = 1 then
    true
  else
    act == 5


set_option maxRecDepth 20000 in
theorem r14timed_ok (w : World) (act : Int) :
    Fn Tryd.prog 29 [.int .i64 act] w fun v w' => v = .bool (r14timed_m act) ∧ Fr [] w w' := by
  refine Fn_of 9 Ty.en_29 Tryd.func29 rfl rfl rfl ?_
  dsimp only [argEnv]
  have st : St [] w [] [] := St.nil (X := []) (w := w) (by simp [Lo])
  have hF := Fr.refl ([]) w
  refine Wp_seq fun K1 hK1 => ?_
  refine Wp_region (Las rfl rfl rfl rfl rfl (Ls_nil (Th_n (hK1 _ _ ?_))))
  refine Wp_seq fun K2 hK2 => ?_
  refine Wp_region (Lmv rfl rfl rfl rfl rfl (Ls_y (wtd0 rfl) rfl rfl (y_eq rfl rfl rfl) (Lmv rfl rfl rfl rfl rfl (Ls_bool 5 rfl (fun hc1 => ?_) (fun hc1 => ?_)))))
  · have hc1 := eT hc1
    refine Ls_s (wtdF rfl rfl rfl) rfl rfl (Ls_s (wtdF rfl rfl rfl) rfl rfl (Ls_y (wtd0 rfl) rfl rfl (y_pick_t rfl rfl rfl) (Las rfl rfl rfl rfl rfl (Ls_nil (Th_n (hK2 _ _ ?_))))))
    refine Wp_ret (Fq_ret (Res1 rfl rfl) ?_)
    have he1 : r14timed_m act = true := by unfold r14timed_m; rewrite [if_pos hc1]; rfl
    rewrite [he1]
    exact ⟨rfl, hF⟩
  have hc1 := eF hc1
  refine Ls_y (wtdT rfl rfl rfl) rfl rfl (y_move rfl rfl) (Ls_y (wtdT rfl rfl rfl) rfl rfl (y_eq rfl rfl rfl) (Ls_y (wtd0 rfl) rfl rfl (y_pick_f rfl rfl rfl) (Las rfl rfl rfl rfl rfl (Ls_nil (Th_n (hK2 _ _ ?_))))))
  refine Wp_ret (Fq_ret (Res1 rfl rfl) ?_)
  have he2 : r14timed_m act = (act == 5) := by unfold r14timed_m; rewrite [if_neg hc1]; rfl
  rewrite [he2]
  exact ⟨rfl, hF⟩

def r14takes_m (act : Int) : Bool :=
  if act = 4 then
    true
  else
    act == 6


set_option maxRecDepth 20000 in
theorem r14takes_ok (w : World) (act : Int) :
    Fn Tryd.prog 31 [.int .i64 act] w fun v w' => v = .bool (r14takes_m act) ∧ Fr [] w w' := by
  refine Fn_of 9 Ty.en_31 Tryd.func31 rfl rfl rfl ?_
  dsimp only [argEnv]
  have st : St [] w [] [] := St.nil (X := []) (w := w) (by simp [Lo])
  have hF := Fr.refl ([]) w
  refine Wp_seq fun K1 hK1 => ?_
  refine Wp_region (Las rfl rfl rfl rfl rfl (Ls_nil (Th_n (hK1 _ _ ?_))))
  refine Wp_seq fun K2 hK2 => ?_
  refine Wp_region (Lmv rfl rfl rfl rfl rfl (Ls_y (wtd0 rfl) rfl rfl (y_eq rfl rfl rfl) (Lmv rfl rfl rfl rfl rfl (Ls_bool 5 rfl (fun hc1 => ?_) (fun hc1 => ?_)))))
  · have hc1 := eT hc1
    refine Ls_s (wtdF rfl rfl rfl) rfl rfl (Ls_s (wtdF rfl rfl rfl) rfl rfl (Ls_y (wtd0 rfl) rfl rfl (y_pick_t rfl rfl rfl) (Las rfl rfl rfl rfl rfl (Ls_nil (Th_n (hK2 _ _ ?_))))))
    refine Wp_ret (Fq_ret (Res1 rfl rfl) ?_)
    have he1 : r14takes_m act = true := by unfold r14takes_m; rewrite [if_pos hc1]; rfl
    rewrite [he1]
    exact ⟨rfl, hF⟩
  have hc1 := eF hc1
  refine Ls_y (wtdT rfl rfl rfl) rfl rfl (y_move rfl rfl) (Ls_y (wtdT rfl rfl rfl) rfl rfl (y_eq rfl rfl rfl) (Ls_y (wtd0 rfl) rfl rfl (y_pick_f rfl rfl rfl) (Las rfl rfl rfl rfl rfl (Ls_nil (Th_n (hK2 _ _ ?_))))))
  refine Wp_ret (Fq_ret (Res1 rfl rfl) ?_)
  have he2 : r14takes_m act = (act == 6) := by unfold r14takes_m; rewrite [if_neg hc1]; rfl
  rewrite [he2]
  exact ⟨rfl, hF⟩

structure OpM where
  act : Int
  name : List UInt8
  val : Int
instance : Inhabited OpM := ⟨⟨default, default, default⟩⟩
instance : DecidableEq OpM := fun a b => decidable_of_iff (a.act = b.act ∧ a.name = b.name ∧ a.val = b.val) (by cases a; cases b; simp)
def opMC (x : OpM) : List Value := [.int .i64 x.act, sv x.name, .int .i64 x.val]
theorem opMC_len (x : OpM) : (opMC x).length = 3 := rfl
def r14checkOp_c1 (o : OpM) : Bool :=
  (if 3 ≤ o.act then (if (r12elem_m o.name) = true then (if o.act < 3 then o.name != [] else false) else true) else (if o.act < 3 then o.name != [] else false))

def r14checkOp_c2 (o : OpM) : Bool :=
  (if o.val = 0 then false else (if o.act = 3 then true else (if o.act = 4 then true else o.act == 6)))

def r14checkOp_c3 (o : OpM) : Bool :=
  (if o.act = 2 then (if o.val < (-1073741824) then true else decide (1073741824 < o.val)) else false)
def r14checkOp_m (o : OpM) : Int :=
  if (r14kind_m o.act) = 0 then
    5
  else
    if (r14checkOp_c1 o) = true then
      3
    else
      if (r14checkOp_c2 o) = true then
        3
      else
        if (r14checkOp_c3 o) = true then
          2
        else
          0

theorem r14checkOp_c1_iff (o : OpM) : (r14checkOp_c1 o = true) ↔ (((3 ≤ o.act) ∧ (¬ ((r12elem_m o.name) = true) ∨ ((o.act < 3) ∧ (¬ (o.name = []))))) ∨ (¬ (3 ≤ o.act) ∧ ((o.act < 3) ∧ (¬ (o.name = []))))) := by
  unfold r14checkOp_c1; exact (ci5 (ci4 (ci2 (by simp))) (ci2 (by simp)))

theorem r14checkOp_c2_iff (o : OpM) : (r14checkOp_c2 o = true) ↔ (¬ (o.val = 0) ∧ ((o.act = 3) ∨ ((o.act = 4) ∨ (o.act = 6)))) := by
  unfold r14checkOp_c2; exact (ci3 (ci1 (ci1 beq_iff_eq)))

theorem r14checkOp_c3_iff (o : OpM) : (r14checkOp_c3 o = true) ↔ ((o.act = 2) ∧ ((o.val < (-1073741824)) ∨ (1073741824 < o.val))) := by
  unfold r14checkOp_c3; exact (ci2 (ci1 decide_eq_true_iff))

set_option maxRecDepth 20000 in
theorem r14checkOp_ok (w : World) (o : OpM) :
    Fn Tryd.prog 11 [.agg (opMC o).toArray] w fun v w' => v = .int .i64 (r14checkOp_m o) ∧ Fr [] w w' := by
  refine Fn_of 57 Ty.en_11 Tryd.func11 rfl rfl rfl ?_
  dsimp only [argEnv]
  have st : St [] w [] [] := St.nil (X := []) (w := w) (by simp [Lo])
  have hF := Fr.refl ([]) w
  refine Wp_seq fun K1 hK1 => ?_
  refine Wp_region (Ls_a (wtd0 rfl) ?_)
  refine a_box rfl rfl rfl rfl st.hp (fun g1 w1 (hp : Hp w1 [(_, Cl [_, _, _] _)]) hf hg1 => ?_)
  have st : St [] w1 [(_, Cl [_, _, _] _)] [] := st.push hp hf hg1
  have hg1 := Nat.le_trans hF.size hg1
  have hF := hF.step0 hf
  refine Las rfl rfl rfl rfl rfl (Ls_nil (Th_n (hK1 _ _ ?_)))
  refine Wp_seq fun K2 hK2 => ?_
  refine Wp_seq fun K3 hK3 => ?_
  refine Wp_region (Ls_y (wtd0 rfl) rfl rfl (y_fld rfl rfl Ty.fo_23_0) (Ls_y (wtd0 rfl) rfl rfl (y_load (i := 0) rfl rfl Ty.pl_3 (fun _ e => e ▸ st.hp) rfl rfl) ?_))
  refine Ls_a (wtd0 rfl) ?_
  refine a_call rfl rfl rfl rfl (r14kind_ok _ o.act) (fun v w2 ⟨hv, hf⟩ => ?_)
  subst hv
  have st := st.keep0 hf
  have hF := hF.step0 hf
  have st : St [] w2 [(_, Cl [_, _, _] _)] [] := st
  refine Ls_y (wtd0 rfl) rfl rfl (y_eq rfl rfl rfl) (Ls_nil (Th_n (hK3 _ _ ?_)))
  refine Wp_cond rfl (fun hc1 => ?_) (fun hc1 => ?_)
  · have hc1 := eT hc1
    refine Wp_seq fun K4 hK4 => ?_
    refine Wp_region (Las rfl rfl rfl rfl rfl (Ls_nil (Th_n (hK4 _ _ ?_))))
    refine Wp_ret (Th_r (Fq_ret (Res1 rfl rfl) ?_))
    have he1 : r14checkOp_m o = 5 := by unfold r14checkOp_m; rewrite [if_pos hc1]; rfl
    rewrite [he1]
    exact ⟨rfl, hF⟩
  have hc1 := eF hc1
  refine Wp_skip (Th_n (hK2 _ _ ?_))
  refine Wp_seq fun K5 hK5 => ?_
  refine Wp_seq fun K6 hK6 => ?_
  refine use_out hK6 (fun E W => E = [(1, .pointer (some ⟨g1, 0, none⟩)), (25, .bool (r14checkOp_c1 o))] ∧ St [] W (hOf st) (kOf st) ∧ Fr ([]) w W) ?_ fun hout1 => ?_
  · rintro E w3 ⟨rfl, st, hF⟩
    have st : St [] w3 [(_, Cl [_, _, _] _)] [] := st
    refine Wp_cond rfl (fun hc2 => ?_) (fun hc2 => ?_)
    · have jhc2 := (r14checkOp_c1_iff o).1 hc2
      refine Wp_seq fun K7 hK7 => ?_
      refine Wp_region (Las rfl rfl rfl rfl rfl (Ls_nil (Th_n (hK7 _ _ ?_))))
      refine Wp_ret (Th_r (Fq_ret (Res1 rfl rfl) ?_))
      have he2 : r14checkOp_m o = 3 := by unfold r14checkOp_m; rewrite [if_neg hc1, if_pos hc2]; rfl
      rewrite [he2]
      exact ⟨rfl, hF⟩
    have jhc2 := mt (r14checkOp_c1_iff o).2 (bF hc2)
    have hc2 := bF hc2
    refine Wp_skip (Th_n (hK5 _ _ ?_))
    refine Wp_seq fun K8 hK8 => ?_
    refine Wp_seq fun K9 hK9 => ?_
    refine use_out hK9 (fun E W => E = [(1, .pointer (some ⟨g1, 0, none⟩)), (43, .bool (r14checkOp_c2 o))] ∧ St [] W (hOf st) (kOf st) ∧ Fr ([]) w W) ?_ fun hout2 => ?_
    · rintro E w4 ⟨rfl, st, hF⟩
      have st : St [] w4 [(_, Cl [_, _, _] _)] [] := st
      refine Wp_cond rfl (fun hc3 => ?_) (fun hc3 => ?_)
      · have jhc3 := (r14checkOp_c2_iff o).1 hc3
        refine Wp_seq fun K10 hK10 => ?_
        refine Wp_region (Las rfl rfl rfl rfl rfl (Ls_nil (Th_n (hK10 _ _ ?_))))
        refine Wp_ret (Th_r (Fq_ret (Res1 rfl rfl) ?_))
        have he3 : r14checkOp_m o = 3 := by unfold r14checkOp_m; rewrite [if_neg hc1, if_neg hc2, if_pos hc3]; rfl
        rewrite [he3]
        exact ⟨rfl, hF⟩
      have jhc3 := mt (r14checkOp_c2_iff o).2 (bF hc3)
      have hc3 := bF hc3
      refine Wp_skip (Th_n (hK8 _ _ ?_))
      refine Wp_seq fun K11 hK11 => ?_
      refine Wp_seq fun K12 hK12 => ?_
      refine use_out hK12 (fun E W => E = [(56, .bool (r14checkOp_c3 o))] ∧ St [] W (hOf st) (kOf st) ∧ Fr ([]) w W) ?_ fun hout3 => ?_
      · rintro E w5 ⟨rfl, st, hF⟩
        have st : St [] w5 [(_, Cl [_, _, _] _)] [] := st
        refine Wp_cond rfl (fun hc4 => ?_) (fun hc4 => ?_)
        · have jhc4 := (r14checkOp_c3_iff o).1 hc4
          refine Wp_seq fun K13 hK13 => ?_
          refine Wp_region (Las rfl rfl rfl rfl rfl (Ls_nil (Th_n (hK13 _ _ ?_))))
          refine Wp_ret (Th_r (Fq_ret (Res1 rfl rfl) ?_))
          have he4 : r14checkOp_m o = 2 := by unfold r14checkOp_m; rewrite [if_neg hc1, if_neg hc2, if_neg hc3, if_pos hc4]; rfl
          rewrite [he4]
          exact ⟨rfl, hF⟩
        have jhc4 := mt (r14checkOp_c3_iff o).2 (bF hc4)
        have hc4 := bF hc4
        refine Wp_skip (Th_n (hK11 _ _ ?_))
        refine Wp_seq fun K14 hK14 => ?_
        refine Wp_region (Las rfl rfl rfl rfl rfl (Ls_nil (Th_n (hK14 _ _ ?_))))
        refine Wp_ret (Fq_ret (Res1 rfl rfl) ?_)
        have he5 : r14checkOp_m o = 0 := by unfold r14checkOp_m; rewrite [if_neg hc1, if_neg hc2, if_neg hc3, if_neg hc4]; rfl
        rewrite [he5]
        exact ⟨rfl, hF⟩
      refine Wp_region (Ls_y (wtd0 rfl) rfl rfl (y_fld rfl rfl Ty.fo_23_0) (Ls_y (wtd0 rfl) rfl rfl (y_load (i := 0) rfl rfl Ty.pl_3 (fun _ e => e ▸ st.hp) rfl rfl) ?_))
      refine Ls_y (wtd0 rfl) rfl rfl (y_eq rfl rfl rfl) (Lmv rfl rfl rfl rfl rfl (Ls_bool 47 rfl (fun hc5 => ?_) (fun hc5 => ?_)))
      · have hc5 := eT hc5
        refine Ls_y (wtdT rfl rfl rfl) rfl rfl (y_fld rfl rfl Ty.fo_23_2) (Ls_y (wtdT rfl rfl rfl) rfl rfl (y_load (i := 0) rfl rfl Ty.pl_2 (fun _ e => e ▸ st.hp) rfl rfl) ?_)
        refine Ls_y (wtdT rfl rfl rfl) rfl rfl (y_lt rfl rfl rfl) (Ls_y (wtdT rfl rfl rfl) rfl rfl (y_move rfl rfl) (Ls_bool 51 rfl (fun hc6 => ?_) (fun hc6 => ?_)))
        · have hc6 := dT hc6
          refine Ls_s (wtdF rfl rfl rfl) rfl rfl (Ls_s (wtdF rfl rfl rfl) rfl rfl (Ls_s (wtdF rfl rfl rfl) rfl rfl (Ls_y (wtdT rfl rfl rfl) rfl rfl (y_pick_t rfl rfl rfl) (Ls_y (wtd0 rfl) rfl rfl (y_pick_t rfl rfl rfl) (Ls_nil (Th_n (?_)))))))
          have hcj1 : r14checkOp_c3 o = true := by unfold r14checkOp_c3; rewrite [if_pos hc5, if_pos hc6]; rfl
          exact hout3 _ [(56, _)] _ ⟨rfl, trivial⟩ ⟨by rw [hcj1], (st.picks [0] (by decide)).pickK [], hF⟩
        have hc6 := dF hc6
        refine Ls_y (wtdT rfl rfl rfl) rfl rfl (y_fld rfl rfl Ty.fo_23_2) (Ls_y (wtdT rfl rfl rfl) rfl rfl (y_load (i := 0) rfl rfl Ty.pl_2 (fun _ e => e ▸ st.hp) rfl rfl) ?_)
        refine Ls_y (wtdT rfl rfl rfl) rfl rfl (y_gt rfl rfl rfl) (Ls_y (wtdT rfl rfl rfl) rfl rfl (y_pick_f rfl rfl rfl) (Ls_y (wtd0 rfl) rfl rfl (y_pick_t rfl rfl rfl) (Ls_nil (Th_n (?_)))))
        have hcj2 : r14checkOp_c3 o = (decide (1073741824 < o.val)) := by unfold r14checkOp_c3; rewrite [if_pos hc5, if_neg hc6]; rfl
        exact hout3 _ [(56, _)] _ ⟨rfl, trivial⟩ ⟨by rw [hcj2], (st.picks [0] (by decide)).pickK [], hF⟩
      have hc5 := eF hc5
      refine Ls_s (wtdF rfl rfl rfl) rfl rfl (Ls_s (wtdF rfl rfl rfl) rfl rfl (Ls_s (wtdF rfl rfl rfl) rfl rfl (Ls_s (wtdF rfl rfl rfl) rfl rfl (Ls_s (wtdU rfl rfl rfl) rfl rfl (Ls_s (wtdU rfl rfl rfl) rfl rfl (Ls_s (wtdU rfl rfl rfl) rfl rfl (Ls_s (wtdF rfl rfl rfl) rfl rfl (Ls_y (wtd0 rfl) rfl rfl (y_pick_f rfl rfl rfl) (Ls_nil (Th_n (?_)))))))))))
      have hcj3 : r14checkOp_c3 o = false := by unfold r14checkOp_c3; rewrite [if_neg hc5]; rfl
      exact hout3 _ [(56, _)] _ ⟨rfl, trivial⟩ ⟨by rw [hcj3], (st.picks [0] (by decide)).pickK [], hF⟩
    refine Wp_region (Ls_y (wtd0 rfl) rfl rfl (y_fld rfl rfl Ty.fo_23_2) (Ls_y (wtd0 rfl) rfl rfl (y_load (i := 0) rfl rfl Ty.pl_2 (fun _ e => e ▸ st.hp) rfl rfl) ?_))
    refine Ls_y (wtd0 rfl) rfl rfl (y_ne rfl rfl rfl) (Lmv rfl rfl rfl rfl rfl (Ls_bool 29 rfl (fun hc7 => ?_) (fun hc7 => ?_)))
    · have hc7 := neT hc7
      refine Ls_y (wtdT rfl rfl rfl) rfl rfl (y_fld rfl rfl Ty.fo_23_0) (Ls_y (wtdT rfl rfl rfl) rfl rfl (y_load (i := 0) rfl rfl Ty.pl_3 (fun _ e => e ▸ st.hp) rfl rfl) ?_)
      refine Ls_y (wtdT rfl rfl rfl) rfl rfl (y_eq rfl rfl rfl) (Ls_y (wtdT rfl rfl rfl) rfl rfl (y_move rfl rfl) (Ls_bool 33 rfl (fun hc8 => ?_) (fun hc8 => ?_)))
      · have hc8 := eT hc8
        refine Ls_s (wtdF rfl rfl rfl) rfl rfl (Ls_s (wtdF rfl rfl rfl) rfl rfl (Ls_s (wtdF rfl rfl rfl) rfl rfl (Ls_y (wtdT rfl rfl rfl) rfl rfl (y_pick_t rfl rfl rfl) (Ls_y (wtdT rfl rfl rfl) rfl rfl (y_move rfl rfl) (Ls_s (wtdF rfl rfl rfl) rfl rfl (Ls_s (wtdF rfl rfl rfl) rfl rfl (Ls_s (wtdF rfl rfl rfl) rfl rfl (Ls_y (wtdT rfl rfl rfl) rfl rfl (y_pick_t rfl rfl rfl) (Ls_y (wtd0 rfl) rfl rfl (y_pick_t rfl rfl rfl) (Ls_nil (Th_n (?_))))))))))))
        have hcj4 : r14checkOp_c2 o = true := by unfold r14checkOp_c2; rewrite [if_neg hc7, if_pos hc8]; rfl
        exact hout2 _ [(1, _), (43, _)] _ ⟨rfl, rfl, trivial⟩ ⟨by rw [hcj4], (st.picks [0] (by decide)).pickK [], hF⟩
      have hc8 := eF hc8
      refine Ls_y (wtdT rfl rfl rfl) rfl rfl (y_fld rfl rfl Ty.fo_23_0) (Ls_y (wtdT rfl rfl rfl) rfl rfl (y_load (i := 0) rfl rfl Ty.pl_3 (fun _ e => e ▸ st.hp) rfl rfl) ?_)
      refine Ls_y (wtdT rfl rfl rfl) rfl rfl (y_eq rfl rfl rfl) (Ls_y (wtdT rfl rfl rfl) rfl rfl (y_pick_f rfl rfl rfl) (Ls_y (wtdT rfl rfl rfl) rfl rfl (y_move rfl rfl) (Ls_bool 38 rfl (fun hc9 => ?_) (fun hc9 => ?_))))
      · have hc9 := eT hc9
        refine Ls_s (wtdF rfl rfl rfl) rfl rfl (Ls_s (wtdF rfl rfl rfl) rfl rfl (Ls_s (wtdF rfl rfl rfl) rfl rfl (Ls_y (wtdT rfl rfl rfl) rfl rfl (y_pick_t rfl rfl rfl) (Ls_y (wtd0 rfl) rfl rfl (y_pick_t rfl rfl rfl) (Ls_nil (Th_n (?_)))))))
        have hcj5 : r14checkOp_c2 o = true := by unfold r14checkOp_c2; rewrite [if_neg hc7, if_neg hc8, if_pos hc9]; rfl
        exact hout2 _ [(1, _), (43, _)] _ ⟨rfl, rfl, trivial⟩ ⟨by rw [hcj5], (st.picks [0] (by decide)).pickK [], hF⟩
      have hc9 := eF hc9
      refine Ls_y (wtdT rfl rfl rfl) rfl rfl (y_fld rfl rfl Ty.fo_23_0) (Ls_y (wtdT rfl rfl rfl) rfl rfl (y_load (i := 0) rfl rfl Ty.pl_3 (fun _ e => e ▸ st.hp) rfl rfl) ?_)
      refine Ls_y (wtdT rfl rfl rfl) rfl rfl (y_eq rfl rfl rfl) (Ls_y (wtdT rfl rfl rfl) rfl rfl (y_pick_f rfl rfl rfl) (Ls_y (wtd0 rfl) rfl rfl (y_pick_t rfl rfl rfl) (Ls_nil (Th_n (?_)))))
      have hcj6 : r14checkOp_c2 o = (o.act == 6) := by unfold r14checkOp_c2; rewrite [if_neg hc7, if_neg hc8, if_neg hc9]; rfl
      exact hout2 _ [(1, _), (43, _)] _ ⟨rfl, rfl, trivial⟩ ⟨by rw [hcj6], (st.picks [0] (by decide)).pickK [], hF⟩
    have hc7 := neF hc7
    refine Ls_s (wtdF rfl rfl rfl) rfl rfl (Ls_s (wtdF rfl rfl rfl) rfl rfl (Ls_s (wtdF rfl rfl rfl) rfl rfl (Ls_s (wtdF rfl rfl rfl) rfl rfl (Ls_s (wtdU rfl rfl rfl) rfl rfl (Ls_s (wtdU rfl rfl rfl) rfl rfl (Ls_s (wtdU rfl rfl rfl) rfl rfl (Ls_s (wtdF rfl rfl rfl) rfl rfl (Ls_s (wtdF rfl rfl rfl) rfl rfl (Ls_s (wtdU rfl rfl rfl) rfl rfl (Ls_s (wtdU rfl rfl rfl) rfl rfl (Ls_s (wtdU rfl rfl rfl) rfl rfl (Ls_s (wtdF rfl rfl rfl) rfl rfl (Ls_y (wtd0 rfl) rfl rfl (y_pick_f rfl rfl rfl) (Ls_nil (Th_n (?_))))))))))))))))
    have hcj7 : r14checkOp_c2 o = false := by unfold r14checkOp_c2; rewrite [if_pos hc7]; rfl
    exact hout2 _ [(1, _), (43, _)] _ ⟨rfl, rfl, trivial⟩ ⟨by rw [hcj7], (st.picks [0] (by decide)).pickK [], hF⟩
  refine Wp_region (Ls_y (wtd0 rfl) rfl rfl (y_fld rfl rfl Ty.fo_23_0) (Ls_y (wtd0 rfl) rfl rfl (y_load (i := 0) rfl rfl Ty.pl_3 (fun _ e => e ▸ st.hp) rfl rfl) ?_))
  refine Ls_y (wtd0 rfl) rfl rfl (y_ge rfl rfl rfl) (Lmv rfl rfl rfl rfl rfl (Ls_bool 10 rfl (fun hc10 => ?_) (fun hc10 => ?_)))
  · have hc10 := dT hc10
    refine Ls_y (wtdT rfl rfl rfl) rfl rfl (y_fld rfl rfl Ty.fo_23_1) (Ls_y (wtdT rfl rfl rfl) rfl rfl (y_load (i := 0) rfl rfl Ty.pl_9 (fun _ e => e ▸ st.hp) rfl rfl) ?_)
    refine Ls_a (wtdT rfl rfl rfl) ?_
    refine a_call rfl rfl rfl rfl (r12elem_ok _ o.name) (fun v w6 ⟨hv, hf⟩ => ?_)
    subst hv
    have st := st.keep0 hf
    have hF := hF.step0 hf
    have st : St [] w6 [(_, Cl [_, _, _] _)] [] := st
    refine Ls_y (wtdT rfl rfl rfl) rfl rfl (y_not rfl rfl) (Ls_y (wtd0 rfl) rfl rfl (y_pick_t rfl rfl rfl) (Lmv rfl rfl rfl rfl rfl (Ls_bool 16 rfl (fun hc11 => ?_) (fun hc11 => ?_))))
    · have hc11 := bF (nT hc11)
      refine Ls_s (wtdF rfl rfl rfl) rfl rfl (Ls_s (wtdF rfl rfl rfl) rfl rfl (Ls_s (wtdF rfl rfl rfl) rfl rfl (Ls_s (wtdF rfl rfl rfl) rfl rfl (Ls_s (wtdU rfl rfl rfl) rfl rfl (Ls_s (wtdU rfl rfl rfl) rfl rfl (Ls_s (wtdU rfl rfl rfl) rfl rfl (Ls_s (wtdF rfl rfl rfl) rfl rfl (Ls_y (wtd0 rfl) rfl rfl (y_pick_t rfl rfl rfl) (Ls_nil (Th_n (?_)))))))))))
      have hcj8 : r14checkOp_c1 o = true := by unfold r14checkOp_c1; rewrite [if_pos hc10, if_neg hc11]; rfl
      exact hout1 _ [(1, _), (25, _)] _ ⟨rfl, rfl, trivial⟩ ⟨by rw [hcj8], (st.picks [0] (by decide)).pickK [], hF⟩
    have hc11 := (nF hc11)
    refine Ls_y (wtdT rfl rfl rfl) rfl rfl (y_fld rfl rfl Ty.fo_23_0) (Ls_y (wtdT rfl rfl rfl) rfl rfl (y_load (i := 0) rfl rfl Ty.pl_3 (fun _ e => e ▸ st.hp) rfl rfl) ?_)
    refine Ls_y (wtdT rfl rfl rfl) rfl rfl (y_lt rfl rfl rfl) (Ls_y (wtdT rfl rfl rfl) rfl rfl (y_move rfl rfl) (Ls_bool 20 rfl (fun hc12 => ?_) (fun hc12 => ?_)))
    · have hc12 := dT hc12
      refine Ls_y (wtdT rfl rfl rfl) rfl rfl (y_fld rfl rfl Ty.fo_23_1) (Ls_y (wtdT rfl rfl rfl) rfl rfl (y_load (i := 0) rfl rfl Ty.pl_9 (fun _ e => e ▸ st.hp) rfl rfl) ?_)
      refine Ls_y (wtdT rfl rfl rfl) rfl rfl (y_nes rfl rfl rfl) ?_
      refine Ls_y (wtdT rfl rfl rfl) rfl rfl (y_pick_t rfl rfl rfl) (Ls_y (wtd0 rfl) rfl rfl (y_pick_f rfl rfl rfl) (Ls_nil (Th_n (?_))))
      have hcj9 : r14checkOp_c1 o = (o.name != []) := by unfold r14checkOp_c1; rewrite [if_pos hc10, if_pos hc11, if_pos hc12]; rfl
      exact hout1 _ [(1, _), (25, _)] _ ⟨rfl, rfl, trivial⟩ ⟨by rw [hcj9], (st.picks [0] (by decide)).pickK [], hF⟩
    have hc12 := dF hc12
    refine Ls_s (wtdF rfl rfl rfl) rfl rfl (Ls_s (wtdF rfl rfl rfl) rfl rfl (Ls_s (wtdF rfl rfl rfl) rfl rfl (Ls_y (wtdT rfl rfl rfl) rfl rfl (y_pick_f rfl rfl rfl) (Ls_y (wtd0 rfl) rfl rfl (y_pick_f rfl rfl rfl) (Ls_nil (Th_n (?_)))))))
    have hcj10 : r14checkOp_c1 o = false := by unfold r14checkOp_c1; rewrite [if_pos hc10, if_pos hc11, if_neg hc12]; rfl
    exact hout1 _ [(1, _), (25, _)] _ ⟨rfl, rfl, trivial⟩ ⟨by rw [hcj10], (st.picks [0] (by decide)).pickK [], hF⟩
  have hc10 := dF hc10
  refine Ls_s (wtdF rfl rfl rfl) rfl rfl (Ls_s (wtdF rfl rfl rfl) rfl rfl (Ls_s (wtdF rfl rfl rfl) rfl rfl (Ls_s (wtdF rfl rfl rfl) rfl rfl (Ls_y (wtd0 rfl) rfl rfl (y_pick_f rfl rfl rfl) (Lmv rfl rfl rfl rfl rfl (Ls_y (wtdT rfl rfl rfl) rfl rfl (y_fld rfl rfl Ty.fo_23_0) (Ls_y (wtdT rfl rfl rfl) rfl rfl (y_load (i := 0) rfl rfl Ty.pl_3 (fun _ e => e ▸ st.hp) rfl rfl) ?_)))))))
  refine Ls_y (wtdT rfl rfl rfl) rfl rfl (y_lt rfl rfl rfl) (Ls_y (wtdT rfl rfl rfl) rfl rfl (y_move rfl rfl) (Ls_bool 20 rfl (fun hc13 => ?_) (fun hc13 => ?_)))
  · have hc13 := dT hc13
    refine Ls_y (wtdT rfl rfl rfl) rfl rfl (y_fld rfl rfl Ty.fo_23_1) (Ls_y (wtdT rfl rfl rfl) rfl rfl (y_load (i := 0) rfl rfl Ty.pl_9 (fun _ e => e ▸ st.hp) rfl rfl) ?_)
    refine Ls_y (wtdT rfl rfl rfl) rfl rfl (y_nes rfl rfl rfl) ?_
    refine Ls_y (wtdT rfl rfl rfl) rfl rfl (y_pick_t rfl rfl rfl) (Ls_y (wtd0 rfl) rfl rfl (y_pick_f rfl rfl rfl) (Ls_nil (Th_n (?_))))
    have hcj11 : r14checkOp_c1 o = (o.name != []) := by unfold r14checkOp_c1; rewrite [if_neg hc10, if_pos hc13]; rfl
    exact hout1 _ [(1, _), (25, _)] _ ⟨rfl, rfl, trivial⟩ ⟨by rw [hcj11], (st.picks [0] (by decide)).pickK [], hF⟩
  have hc13 := dF hc13
  refine Ls_s (wtdF rfl rfl rfl) rfl rfl (Ls_s (wtdF rfl rfl rfl) rfl rfl (Ls_s (wtdF rfl rfl rfl) rfl rfl (Ls_y (wtdT rfl rfl rfl) rfl rfl (y_pick_f rfl rfl rfl) (Ls_y (wtd0 rfl) rfl rfl (y_pick_f rfl rfl rfl) (Ls_nil (Th_n (?_)))))))
  have hcj12 : r14checkOp_c1 o = false := by unfold r14checkOp_c1; rewrite [if_neg hc10, if_neg hc13]; rfl
  exact hout1 _ [(1, _), (25, _)] _ ⟨rfl, rfl, trivial⟩ ⟨by rw [hcj12], (st.picks [0] (by decide)).pickK [], hF⟩

structure EffectM where
  act : Int
  name : List UInt8
  val : Int
  tag : TagM
  atF : StampM
  tags : List TagM
instance : Inhabited EffectM := ⟨⟨default, default, default, default, default, default⟩⟩
instance : DecidableEq EffectM := fun a b => decidable_of_iff (a.act = b.act ∧ a.name = b.name ∧ a.val = b.val ∧ a.tag = b.tag ∧ a.atF = b.atF ∧ a.tags = b.tags) (by cases a; cases b; simp)
theorem eqv_30r (a0 : Int) (a1 : Int) (b0 : Int) (b1 : Int) : eqVals Tryd.prog 8 30 [.int .u32 a0, .int .i64 a1] [.int .u32 b0, .int .i64 b1] = some ((a0 == b0) && ((a1 == b1) && true)) := by kernel_rfl
theorem eqv_30 (x y : StampM) : eqVals Tryd.prog 8 30 (stampMC x) (stampMC y) = some (decide (x = y)) := by
  obtain ⟨a0, a1⟩ := x
  obtain ⟨b0, b1⟩ := y
  refine (eqv_30r a0 a1 b0 b1).trans (congrArg some ?_)
  rw [Bool.eq_iff_iff]
  simp
def r14checkE_c1 (e : EffectM) (s4 : Int) : Bool :=
  (if (r14timed_m e.act) = true then (if (r9check_m e.atF) = 0 then (if e.atF.time = 0 then true else (if (r14takes_m e.act) = true then false else decide (0 < (e.tags.length : Int)))) else true) else (if e.atF = (⟨0, 0⟩ : StampM) then (if (r14takes_m e.act) = true then false else decide (0 < (e.tags.length : Int))) else true))

def r14checkE_L2 (e : EffectM) (s4 : Int) : Nat → Int → (Int) ⊕ (Int)
  | 0, s5 => .inr (s5)
  | fuel + 1, s5 =>
    if s5 < (e.tags.length : Int) then
      if 0 ≤ (r5compareTag_m (ix e.tags (s5 - 1)) (ix e.tags s5)) then
        .inl 3
      else
        r14checkE_L2 e s4 fuel (s5 + 1)
    else
      .inr (s5)

def r14checkE_L1 (e : EffectM) : Nat → Int → (Int) ⊕ (Int)
  | 0, s4 => .inr (s4)
  | fuel + 1, s4 =>
    if s4 < (e.tags.length : Int) then
      if (r5checkTag_m (ix e.tags s4)) = 0 then
        r14checkE_L1 e fuel (s4 + 1)
      else
        .inl 2
    else
      .inr (s4)
def r14checkE_m (e : EffectM) : Int :=
  if (r14checkOp_m (⟨e.act, e.name, e.val⟩ : OpM)) = 0 then
    if (r5checkTag_m e.tag) = 0 then
      match r14checkE_L1 e (((e.tags.length : Int) - (0 : Int)).toNat + 1) (0 : Int) with
      | .inl r => r
      | .inr (s4) =>
        if 4096 < (e.tags.length : Int) then
          8
        else
          if (r14checkE_c1 e s4) = true then
            3
          else
            match r14checkE_L2 e s4 (((e.tags.length : Int) - (1 : Int)).toNat + 1) (1 : Int) with
            | .inl r => r
            | .inr (s5) =>
              0
    else
      2
  else
    r14checkOp_m (⟨e.act, e.name, e.val⟩ : OpM)

theorem r14checkE_c1_iff (e : EffectM) (s4 : Int) : (r14checkE_c1 e s4 = true) ↔ ((((r14timed_m e.act) = true) ∧ (¬ ((r9check_m e.atF) = 0) ∨ ((e.atF.time = 0) ∨ (¬ ((r14takes_m e.act) = true) ∧ (0 < (e.tags.length : Int)))))) ∨ (¬ ((r14timed_m e.act) = true) ∧ (¬ (e.atF = (⟨0, 0⟩ : StampM)) ∨ (¬ ((r14takes_m e.act) = true) ∧ (0 < (e.tags.length : Int)))))) := by
  unfold r14checkE_c1; exact (ci5 (ci4 (ci1 (ci3 decide_eq_true_iff))) (ci4 (ci3 decide_eq_true_iff)))

set_option maxRecDepth 20000 in
theorem r14checkE_ok (X : List Nat) (w : World) (hX : Lo X w) (e : EffectM) (A_e_tags : Option Addr) (c_e_tags : Nat) (h_e_tags : Sld X w A_e_tags e.tags.length c_e_tags 3 (e.tags.flatMap tagMC)) :
    Fn Tryd.prog 14 [.agg #[.int .i64 e.act, sv e.name, .int .i64 e.val, .int .i64 e.tag.id.origin, .int .u32 e.tag.id.seq, .int .i64 e.tag.n, .int .u32 e.atF.time, .int .i64 e.atF.origin, .slice A_e_tags e.tags.length c_e_tags]] w fun v w' => v = .int .i64 (r14checkE_m e) ∧ Fr [] w w' := by
  refine Fn_of 98 Ty.en_14 Tryd.func14 rfl rfl rfl ?_
  dsimp only [argEnv]
  have st : St X w [] [kS A_e_tags e.tags.length c_e_tags 3 (e.tags.flatMap tagMC)] := (St.nil (X := X) (w := w) hX).addK (kS A_e_tags e.tags.length c_e_tags 3 (e.tags.flatMap tagMC)) h_e_tags
  have hF := Fr.refl ([]) w
  have hleA_e_tags := (st.k (i := 0) rfl).le
  refine Wp_seq fun K1 hK1 => ?_
  refine Wp_region (Ls_a (wtd0 rfl) ?_)
  refine a_box rfl rfl rfl rfl st.hp (fun g1 w1 (hp : Hp w1 [(_, Cl [_, _, _, _, _, _, _, _, _] _)]) hf hg1 => ?_)
  have st : St X w1 [(_, Cl [_, _, _, _, _, _, _, _, _] _)] [_] := st.push hp hf hg1
  have hg1 := Nat.le_trans hF.size hg1
  have hF := hF.step0 hf
  refine Las rfl rfl rfl rfl rfl (Ls_nil (Th_n (hK1 _ _ ?_)))
  refine Wp_seq fun K2 hK2 => ?_
  refine Wp_region (Ls_y (wtd0 rfl) rfl rfl (y_fld rfl rfl Ty.fo_33_0) (Ls_y (wtd0 rfl) rfl rfl (y_load (i := 0) rfl rfl Ty.pl_3 (fun _ e => e ▸ st.hp) rfl rfl) ?_))
  refine Ls_y (wtd0 rfl) rfl rfl (y_fld rfl rfl Ty.fo_33_1) (Ls_y (wtd0 rfl) rfl rfl (y_load (i := 0) rfl rfl Ty.pl_9 (fun _ e => e ▸ st.hp) rfl rfl) ?_)
  refine Ls_y (wtd0 rfl) rfl rfl (y_fld rfl rfl Ty.fo_33_2) (Ls_y (wtd0 rfl) rfl rfl (y_load (i := 0) rfl rfl Ty.pl_2 (fun _ e => e ▸ st.hp) rfl rfl) ?_)
  refine Ls_y (wtd0 rfl) rfl rfl (y_build (cells := [_, _, _]) rfl rfl Ty.zc_23 Ty.ps_23 rfl) ?_
  refine Ls_a (wtd0 rfl) ?_
  refine a_call rfl rfl rfl rfl (r14checkOp_ok _ (⟨e.act, e.name, e.val⟩ : OpM)) (fun v w2 ⟨hv, hf⟩ => ?_)
  subst hv
  have st := st.keep0 hf
  have hF := hF.step0 hf
  have st : St X w2 [(_, Cl [_, _, _, _, _, _, _, _, _] _)] [_] := st
  refine Las rfl rfl rfl rfl rfl (Ls_nil (Th_n (hK2 _ _ ?_)))
  refine Wp_seq fun K3 hK3 => ?_
  refine Wp_seq fun K4 hK4 => ?_
  refine Wp_region (Lmv rfl rfl rfl rfl rfl (Ls_y (wtd0 rfl) rfl rfl (y_ne rfl rfl rfl) (Ls_nil (Th_n (hK4 _ _ ?_)))))
  refine Wp_cond rfl (fun hc1 => ?_) (fun hc1 => ?_)
  · have hc1 := neT hc1
    refine Wp_seq fun K5 hK5 => ?_
    refine Wp_region (Lmv rfl rfl rfl rfl rfl (Las rfl rfl rfl rfl rfl (Ls_nil (Th_n (hK5 _ _ ?_)))))
    refine Wp_ret (Th_r (Fq_ret (Res1 rfl rfl) ?_))
    have he1 : r14checkE_m e = (r14checkOp_m (⟨e.act, e.name, e.val⟩ : OpM)) := by unfold r14checkE_m; rewrite [if_neg hc1]; rfl
    rewrite [he1]
    exact ⟨rfl, hF⟩
  have hc1 := neF hc1
  refine Wp_skip (Th_n (hK3 _ _ ?_))
  refine Wp_seq fun K6 hK6 => ?_
  refine Wp_seq fun K7 hK7 => ?_
  refine Wp_region (Ls_y (wtd0 rfl) rfl rfl (y_fld rfl rfl Ty.fo_33_3) (Ls_y (wtd0 rfl) rfl rfl (y_loadm (i := 0) rfl rfl Ty.ag_28 (fun _ e => e ▸ st.hp) rfl rfl rfl) ?_))
  refine Ls_a (wtd0 rfl) ?_
  refine a_call rfl rfl rfl rfl (r5checkTag_ok _ e.tag) (fun v w3 ⟨hv, hf⟩ => ?_)
  subst hv
  have st := st.keep0 hf
  have hF := hF.step0 hf
  have st : St X w3 [(_, Cl [_, _, _, _, _, _, _, _, _] _)] [_] := st
  refine Ls_y (wtd0 rfl) rfl rfl (y_ne rfl rfl rfl) (Ls_nil (Th_n (hK7 _ _ ?_)))
  refine Wp_cond rfl (fun hc2 => ?_) (fun hc2 => ?_)
  · have hc2 := neT hc2
    refine Wp_seq fun K8 hK8 => ?_
    refine Wp_region (Las rfl rfl rfl rfl rfl (Ls_nil (Th_n (hK8 _ _ ?_))))
    refine Wp_ret (Th_r (Fq_ret (Res1 rfl rfl) ?_))
    have he2 : r14checkE_m e = 2 := by unfold r14checkE_m; rewrite [if_pos hc1, if_neg hc2]; rfl
    rewrite [he2]
    exact ⟨rfl, hF⟩
  have hc2 := neF hc2
  refine Wp_skip (Th_n (hK6 _ _ ?_))
  refine Wp_seq fun K9 hK9 => ?_
  refine Wp_seq fun K10 hK10 => ?_
  refine Wp_region (Las rfl rfl rfl rfl rfl (Ls_nil (Th_n (hK10 _ _ ?_))))
  refine Wp_block (use_out hK9 (fun E W => ∃ (s4 : Int), E = [(1, .pointer (some ⟨g1, 0, none⟩)), (4, .int .i64 s4)] ∧ r14checkE_L1 e (((e.tags.length : Int) - (0 : Int)).toNat + 1) (0 : Int) = .inr (s4) ∧ (0 ≤ s4) ∧ St X W [(some g1, Cl [.int .i64 e.act, sv e.name, .int .i64 e.val, .int .i64 e.tag.id.origin, .int .u32 e.tag.id.seq, .int .i64 e.tag.n, .int .u32 e.atF.time, .int .i64 e.atF.origin, .slice A_e_tags e.tags.length c_e_tags] 33)] [kS A_e_tags e.tags.length c_e_tags 3 (e.tags.flatMap tagMC)] ∧ Fr ([]) w W) ?_ fun hout1 => ?_)
  · rintro E w4 ⟨s4, rfl, hLk1, hinv, st, hF⟩
    refine Wp_seq fun K11 hK11 => ?_
    refine Wp_seq fun K12 hK12 => ?_
    refine Wp_region (Ls_y (wtd0 rfl) rfl rfl (y_fld rfl rfl Ty.fo_33_5) (Ls_y (wtd0 rfl) rfl rfl (y_load (i := 0) rfl rfl Ty.pl_31 (fun _ e => e ▸ st.hp) rfl rfl) ?_))
    refine Ls_y (wtd0 rfl) rfl rfl (y_lenl rfl rfl Tryd.underlying31) ?_
    refine Ls_y (wtd0 rfl) rfl rfl (y_gt rfl rfl rfl) (Ls_nil (Th_n (hK12 _ _ ?_)))
    refine Wp_cond rfl (fun hc3 => ?_) (fun hc3 => ?_)
    · have hc3 := dT hc3
      refine Wp_seq fun K13 hK13 => ?_
      refine Wp_region (Las rfl rfl rfl rfl rfl (Ls_nil (Th_n (hK13 _ _ ?_))))
      refine Wp_ret (Th_r (Fq_ret (Res1 rfl rfl) ?_))
      have he3 : r14checkE_m e = 8 := by unfold r14checkE_m; rewrite [if_pos hc1, if_pos hc2, hLk1]; (try dsimp only); all_goals rewrite [if_pos hc3]; all_goals rfl
      rewrite [he3]
      exact ⟨rfl, hF⟩
    have hc3 := dF hc3
    refine Wp_skip (Th_n (hK11 _ _ ?_))
    refine Wp_seq fun K14 hK14 => ?_
    refine Wp_seq fun K15 hK15 => ?_
    refine use_out hK15 (fun E W => E = [(1, .pointer (some ⟨g1, 0, none⟩)), (77, .bool (r14checkE_c1 e s4))] ∧ St X W (hOf st) (kOf st) ∧ Fr ([]) w W) ?_ fun hout2 => ?_
    · rintro E w5 ⟨rfl, st, hF⟩
      have st : St X w5 [(_, Cl [_, _, _, _, _, _, _, _, _] _)] [_] := st
      refine Wp_cond rfl (fun hc4 => ?_) (fun hc4 => ?_)
      · have jhc4 := (r14checkE_c1_iff e s4).1 hc4
        refine Wp_seq fun K16 hK16 => ?_
        refine Wp_region (Las rfl rfl rfl rfl rfl (Ls_nil (Th_n (hK16 _ _ ?_))))
        refine Wp_ret (Th_r (Fq_ret (Res1 rfl rfl) ?_))
        have he4 : r14checkE_m e = 3 := by unfold r14checkE_m; rewrite [if_pos hc1, if_pos hc2, hLk1]; (try dsimp only); all_goals rewrite [if_neg hc3, if_pos hc4]; all_goals rfl
        rewrite [he4]
        exact ⟨rfl, hF⟩
      have jhc4 := mt (r14checkE_c1_iff e s4).2 (bF hc4)
      have hc4 := bF hc4
      refine Wp_skip (Th_n (hK14 _ _ ?_))
      refine Wp_seq fun K17 hK17 => ?_
      refine Wp_seq fun K18 hK18 => ?_
      refine Wp_region (Las rfl rfl rfl rfl rfl (Ls_nil (Th_n (hK18 _ _ ?_))))
      refine Wp_block (use_out hK17 (fun E W => ∃ (s5 : Int), E = [(1, .pointer (some ⟨g1, 0, none⟩)), (5, .int .i64 s5)] ∧ r14checkE_L2 e s4 (((e.tags.length : Int) - (1 : Int)).toNat + 1) (1 : Int) = .inr (s5) ∧ (1 ≤ s5) ∧ St X W [(some g1, Cl [.int .i64 e.act, sv e.name, .int .i64 e.val, .int .i64 e.tag.id.origin, .int .u32 e.tag.id.seq, .int .i64 e.tag.n, .int .u32 e.atF.time, .int .i64 e.atF.origin, .slice A_e_tags e.tags.length c_e_tags] 33)] [kS A_e_tags e.tags.length c_e_tags 3 (e.tags.flatMap tagMC)] ∧ Fr ([]) w W) ?_ fun hout3 => ?_)
      · rintro E w6 ⟨s5, rfl, hLk2, hinv, st, hF⟩
        refine Wp_seq fun K19 hK19 => ?_
        refine Wp_region (Las rfl rfl rfl rfl rfl (Ls_nil (Th_n (hK19 _ _ ?_))))
        refine Wp_ret (Fq_ret (Res1 rfl rfl) ?_)
        have he5 : r14checkE_m e = 0 := by unfold r14checkE_m; rewrite [if_pos hc1, if_pos hc2, hLk1]; (try dsimp only); all_goals rewrite [if_neg hc3, if_neg hc4, hLk2]; (try dsimp only); all_goals rfl
        rewrite [he5]
        exact ⟨rfl, hF⟩
      refine Wp_loopE (fun m E W => ∃ (s5 : Int), E = [(1, .pointer (some ⟨g1, 0, none⟩)), (5, .int .i64 s5)] ∧ r14checkE_L2 e s4 m s5 = r14checkE_L2 e s4 (((e.tags.length : Int) - (1 : Int)).toNat + 1) (1 : Int) ∧ ((e.tags.length : Int) - s5).toNat < m ∧ (1 ≤ s5) ∧ St X W [(some g1, Cl [.int .i64 e.act, sv e.name, .int .i64 e.val, .int .i64 e.tag.id.origin, .int .u32 e.tag.id.seq, .int .i64 e.tag.n, .int .u32 e.atF.time, .int .i64 e.atF.origin, .slice A_e_tags e.tags.length c_e_tags] 33)] [kS A_e_tags e.tags.length c_e_tags 3 (e.tags.flatMap tagMC)] ∧ Fr ([]) w W) (((e.tags.length : Int) - (1 : Int)).toNat + 1) [(1, _), (5, _)] ⟨rfl, rfl, trivial⟩ ?_ ?_
      · exact ⟨_, rfl, rfl, Nat.lt_succ_self _, by first | omega | (simp; done) | (simp; omega), st, hF⟩
      rintro m E w7 ⟨s5, rfl, hL2, hmu, hinv, st, hF⟩
      obtain ⟨fuel, rfl⟩ : ∃ q, m = q + 1 := ⟨m - 1, by omega⟩
      refine Wp_seq fun K20 hK20 => ?_
      refine Wp_seq fun K21 hK21 => ?_
      refine Wp_region (Lmv rfl rfl rfl rfl rfl (Ls_y (wtd0 rfl) rfl rfl (y_fld rfl rfl Ty.fo_33_5) (Ls_y (wtd0 rfl) rfl rfl (y_load (i := 0) rfl rfl Ty.pl_31 (fun _ e => e ▸ st.hp) rfl rfl) ?_)))
      refine Ls_y (wtd0 rfl) rfl rfl (y_lenl rfl rfl Tryd.underlying31) ?_
      refine Ls_y (wtd0 rfl) rfl rfl (y_lt rfl rfl rfl) (Ls_nil (Th_n (hK21 _ _ ?_)))
      refine Wp_cond rfl (fun hc5 => ?_) (fun hc5 => ?_)
      · have hc5 := dT hc5
        refine Wp_skip (Th_n (hK20 _ _ ?_))
        refine Wp_seq fun K22 hK22 => ?_
        refine Wp_block (Wp_seq fun K23 hK23 => ?_)
        refine Wp_plan (fun W => St X W (pickL (hOf st) [0]) (kOf st)) [(true, 0), (true, 1), (true, 2), (true, 3), (true, 4), (true, 5), (true, 6), (true, 7), (true, 8), (true, 9), (true, 10), (false, 11), (true, 12)] Ty.mx_0 (by kernel_rfl) (by kernel_rfl) rfl ((st.picks [0] (by decide)).drew) ?_
        have st := st.drew
        have hF := hF.step0 (Fr.drew _)
        refine Pl_y rfl (wtd0 rfl) rfl rfl (y_fld rfl rfl Ty.fo_33_5) (Pl_y rfl (wtd0 rfl) rfl rfl (y_load (i := 0) rfl rfl Ty.pl_31 (fun _ h => h.hp) rfl rfl) ?_)
        refine Pmv rfl rfl rfl rfl rfl rfl (Pl_y rfl (wtd0 rfl) rfl rfl (y_sub (c := s5 - 1) rfl rfl rfl (wf_i64 (by first | omega | (simp; done) | (simp; omega)))) ?_)
        obtain ⟨gi1, bi1, egi1⟩ := (st.k (i := 0) rfl).addr (fun _ => rfl) (by decide) (q := s5 - 1) (by first | omega | (simp; done) | (simp; omega)) (by first | omega | (simp; done) | (simp; omega))
        subst egi1
        refine Pl_y rfl (wtd0 rfl) rfl rfl (y_ixa (q := s5 - 1) rfl rfl rfl Ty.es_31 (by first | omega | (simp; done) | (simp; omega)) (by first | omega | (simp; done) | (simp; omega))) ?_
        refine Pl_y rfl (wtd0 rfl) rfl rfl (y_ldk (q := s5 - 1) rfl rfl Ty.ag_28 (fun _ h => h.k (i := 0) rfl) (fun _ => rfl) (by first | omega | (simp; done) | (simp; omega)) (by first | omega | (simp; done) | (simp; omega))) ?_
        refine Pl_y rfl (wtd0 rfl) rfl rfl (y_fld rfl rfl Ty.fo_33_5) (Pl_y rfl (wtd0 rfl) rfl rfl (y_load (i := 0) rfl rfl Ty.pl_31 (fun _ h => h.hp) rfl rfl) ?_)
        refine Pmv rfl rfl rfl rfl rfl rfl (Pl_y rfl (wtd0 rfl) rfl rfl (y_ixa (q := s5) rfl rfl rfl Ty.es_31 (by first | omega | (simp; done) | (simp; omega)) (by first | omega | (simp; done) | (simp; omega))) ?_)
        refine Pl_y rfl (wtd0 rfl) rfl rfl (y_ldk (q := s5) rfl rfl Ty.ag_28 (fun _ h => h.k (i := 0) rfl) (fun _ => rfl) (by first | omega | (simp; done) | (simp; omega)) (by first | omega | (simp; done) | (simp; omega))) ?_
        refine Pl_a rfl (wtd0 rfl) (by rfl) ?_
        refine a_call rfl rfl rfl rfl (r5compareTag_ok _ (ix e.tags (s5 - 1)) (ix e.tags s5)) (fun v w8 ⟨hv, hf⟩ => ?_)
        subst hv
        have st := st.keep0 hf
        have hF := hF.step0 hf
        have st : St X w8 [(_, Cl [_, _, _, _, _, _, _, _, _] _)] [_] := st
        refine ⟨(st.picks [0] (by decide)).takeK 1, ?_⟩
        refine Pl_y rfl (wtd0 rfl) rfl rfl (y_ge rfl rfl rfl) (Pl_nil (Th_n (hK23 _ _ ?_)))
        refine Wp_cond rfl (fun hc6 => ?_) (fun hc6 => ?_)
        · have hc6 := dT hc6
          refine Wp_seq fun K24 hK24 => ?_
          refine Wp_region (Las rfl rfl rfl rfl rfl (Ls_nil (Th_n (hK24 _ _ ?_))))
          refine Wp_ret (Ib_r (Th_r (Th_r (Ib_r (Th_r (Fq_ret (Res1 rfl rfl) ?_))))))
          have hret1 : r14checkE_L2 e s4 (((e.tags.length : Int) - (1 : Int)).toNat + 1) (1 : Int) = .inl 3 := by rewrite [← hL2, r14checkE_L2]; rewrite [if_pos hc5, if_pos hc6]; rfl
          have he6 : r14checkE_m e = 3 := by unfold r14checkE_m; rewrite [if_pos hc1, if_pos hc2, hLk1]; (try dsimp only); all_goals rewrite [if_neg hc3, if_neg hc4, hret1]; (try dsimp only); all_goals rfl
          rewrite [he6]
          exact ⟨rfl, hF⟩
        have hc6 := dF hc6
        refine Wp_skip (Ib_n (Th_n (hK22 _ _ ?_)))
        refine Wp_region (Lmv rfl rfl rfl rfl rfl (Ls_y (wtd0 rfl) rfl rfl (y_add (c := s5 + 1) rfl rfl rfl (wf_i64 (by first | omega | (simp; done) | (simp; omega)))) ?_))
        refine Las rfl rfl rfl rfl rfl (Ls_nil (Th_n (?_)))
        have hE1 : r14checkE_L2 e s4 fuel (s5 + 1) = r14checkE_L2 e s4 (((e.tags.length : Int) - (1 : Int)).toNat + 1) (1 : Int) := by rewrite [← hL2, r14checkE_L2]; rewrite [if_pos hc5, if_neg hc6]; rfl
        exact ⟨fuel, [(1, _), (5, _)], Nat.lt_succ_self _, ⟨rfl, rfl, trivial⟩, (s5 + 1), rfl, hE1, by first | omega | (simp; done) | (simp; omega), by first | omega | (simp; done) | (simp; omega), (st.picks [0] (by decide)).pickK [0], hF⟩
      have hc5 := dF hc5
      refine Wp_exit (Th_e (Th_e (Ib_hit (Th_n (?_)))))
      have hE2 : r14checkE_L2 e s4 (((e.tags.length : Int) - (1 : Int)).toNat + 1) (1 : Int) = .inr (s5) := by rewrite [← hL2, r14checkE_L2]; rewrite [if_neg hc5]; rfl
      exact hout3 _ [(1, _), (5, _)] _ ⟨rfl, rfl, trivial⟩ ⟨s5, rfl, hE2, by first | omega | (simp; done) | (simp; omega), (st.picks [0] (by decide)).pickK [0], hF⟩
    refine Wp_region (Ls_y (wtd0 rfl) rfl rfl (y_fld rfl rfl Ty.fo_33_0) (Ls_y (wtd0 rfl) rfl rfl (y_load (i := 0) rfl rfl Ty.pl_3 (fun _ e => e ▸ st.hp) rfl rfl) ?_))
    refine Ls_a (wtd0 rfl) ?_
    refine a_call rfl rfl rfl rfl (r14timed_ok _ e.act) (fun v w9 ⟨hv, hf⟩ => ?_)
    subst hv
    have st := st.keep0 hf
    have hF := hF.step0 hf
    have st : St X w9 [(_, Cl [_, _, _, _, _, _, _, _, _] _)] [_] := st
    refine Lmv rfl rfl rfl rfl rfl (Ls_bool 42 rfl (fun hc7 => ?_) (fun hc7 => ?_))
    · refine Ls_y (wtdT rfl rfl rfl) rfl rfl (y_fld rfl rfl Ty.fo_33_4) (Ls_y (wtdT rfl rfl rfl) rfl rfl (y_loadm (i := 0) rfl rfl Ty.ag_30 (fun _ e => e ▸ st.hp) rfl rfl rfl) ?_)
      refine Ls_a (wtdT rfl rfl rfl) ?_
      refine a_call rfl rfl rfl rfl (r9check_ok _ e.atF) (fun v w10 ⟨hv, hf⟩ => ?_)
      subst hv
      have st := st.keep0 hf
      have hF := hF.step0 hf
      have st : St X w10 [(_, Cl [_, _, _, _, _, _, _, _, _] _)] [_] := st
      refine Ls_y (wtdT rfl rfl rfl) rfl rfl (y_ne rfl rfl rfl) (Ls_y (wtdT rfl rfl rfl) rfl rfl (y_move rfl rfl) (Ls_bool 47 rfl (fun hc8 => ?_) (fun hc8 => ?_)))
      · have hc8 := neT hc8
        refine Ls_s (wtdF rfl rfl rfl) rfl rfl (Ls_s (wtdF rfl rfl rfl) rfl rfl (Ls_s (wtdF rfl rfl rfl) rfl rfl (Ls_s (wtdF rfl rfl rfl) rfl rfl (Ls_y (wtdT rfl rfl rfl) rfl rfl (y_pick_t rfl rfl rfl) (Ls_y (wtd0 rfl) rfl rfl (y_pick_t rfl rfl rfl) (Lmv rfl rfl rfl rfl rfl (Ls_s (wtdF rfl rfl rfl) rfl rfl (Ls_s (wtdF rfl rfl rfl) rfl rfl (Ls_s (wtdF rfl rfl rfl) rfl rfl (Ls_s (wtdF rfl rfl rfl) rfl rfl (Ls_s (wtdF rfl rfl rfl) rfl rfl (Ls_s (wtdU rfl rfl rfl) rfl rfl (Ls_s (wtdU rfl rfl rfl) rfl rfl (Ls_s (wtdU rfl rfl rfl) rfl rfl (Ls_s (wtdU rfl rfl rfl) rfl rfl (Ls_s (wtdF rfl rfl rfl) rfl rfl (Ls_y (wtd0 rfl) rfl rfl (y_pick_t rfl rfl rfl) (Lmv rfl rfl rfl rfl rfl (Ls_s (wtdF rfl rfl rfl) rfl rfl ?_)))))))))))))))))))
        refine Ls_s (wtdF rfl rfl rfl) rfl rfl (Ls_s (wtdF rfl rfl rfl) rfl rfl (Ls_s (wtdF rfl rfl rfl) rfl rfl (Ls_s (wtdF rfl rfl rfl) rfl rfl (Ls_s (wtdU rfl rfl rfl) rfl rfl (Ls_s (wtdU rfl rfl rfl) rfl rfl (Ls_s (wtdU rfl rfl rfl) rfl rfl (Ls_s (wtdU rfl rfl rfl) rfl rfl (Ls_s (wtdF rfl rfl rfl) rfl rfl (Ls_y (wtd0 rfl) rfl rfl (y_pick_t rfl rfl rfl) (Ls_nil (Th_n (?_))))))))))))
        have hcj1 : r14checkE_c1 e s4 = true := by unfold r14checkE_c1; rewrite [if_pos hc7, if_neg hc8]; rfl
        exact hout2 _ [(1, _), (77, _)] _ ⟨rfl, rfl, trivial⟩ ⟨by rw [hcj1], (st.picks [0] (by decide)).pickK [0], hF⟩
      have hc8 := neF hc8
      refine Ls_y (wtdT rfl rfl rfl) rfl rfl (y_fld rfl rfl Ty.fo_33_4) (Ls_y (wtdT rfl rfl rfl) rfl rfl (y_fld rfl rfl Ty.fo_30_0) (Ls_y (wtdT rfl rfl rfl) rfl rfl (y_load (i := 0) rfl rfl Ty.pl_24 (fun _ e => e ▸ st.hp) rfl rfl) ?_))
      refine Ls_y (wtdT rfl rfl rfl) rfl rfl (y_eq rfl rfl rfl) (Ls_y (wtdT rfl rfl rfl) rfl rfl (y_pick_f rfl rfl rfl) (Ls_y (wtd0 rfl) rfl rfl (y_pick_t rfl rfl rfl) (Lmv rfl rfl rfl rfl rfl (Ls_bool 54 rfl (fun hc9 => ?_) (fun hc9 => ?_)))))
      · have hc9 := eT hc9
        refine Ls_s (wtdF rfl rfl rfl) rfl rfl (Ls_s (wtdF rfl rfl rfl) rfl rfl (Ls_s (wtdF rfl rfl rfl) rfl rfl (Ls_s (wtdF rfl rfl rfl) rfl rfl (Ls_s (wtdF rfl rfl rfl) rfl rfl (Ls_s (wtdU rfl rfl rfl) rfl rfl (Ls_s (wtdU rfl rfl rfl) rfl rfl (Ls_s (wtdU rfl rfl rfl) rfl rfl (Ls_s (wtdU rfl rfl rfl) rfl rfl (Ls_s (wtdF rfl rfl rfl) rfl rfl (Ls_y (wtd0 rfl) rfl rfl (y_pick_t rfl rfl rfl) (Lmv rfl rfl rfl rfl rfl (Ls_s (wtdF rfl rfl rfl) rfl rfl (Ls_s (wtdF rfl rfl rfl) rfl rfl (Ls_s (wtdF rfl rfl rfl) rfl rfl (Ls_s (wtdF rfl rfl rfl) rfl rfl (Ls_s (wtdF rfl rfl rfl) rfl rfl (Ls_s (wtdU rfl rfl rfl) rfl rfl (Ls_s (wtdU rfl rfl rfl) rfl rfl (Ls_s (wtdU rfl rfl rfl) rfl rfl ?_)))))))))))))))))))
        refine Ls_s (wtdU rfl rfl rfl) rfl rfl (Ls_s (wtdF rfl rfl rfl) rfl rfl (Ls_y (wtd0 rfl) rfl rfl (y_pick_t rfl rfl rfl) (Ls_nil (Th_n (?_)))))
        have hcj2 : r14checkE_c1 e s4 = true := by unfold r14checkE_c1; rewrite [if_pos hc7, if_pos hc8, if_pos hc9]; rfl
        exact hout2 _ [(1, _), (77, _)] _ ⟨rfl, rfl, trivial⟩ ⟨by rw [hcj2], (st.picks [0] (by decide)).pickK [0], hF⟩
      have hc9 := eF hc9
      refine Ls_y (wtdT rfl rfl rfl) rfl rfl (y_fld rfl rfl Ty.fo_33_0) (Ls_y (wtdT rfl rfl rfl) rfl rfl (y_load (i := 0) rfl rfl Ty.pl_3 (fun _ e => e ▸ st.hp) rfl rfl) ?_)
      refine Ls_a (wtdT rfl rfl rfl) ?_
      refine a_call rfl rfl rfl rfl (r14timed_ok _ e.act) (fun v w11 ⟨hv, hf⟩ => ?_)
      subst hv
      have st := st.keep0 hf
      have hF := hF.step0 hf
      have st : St X w11 [(_, Cl [_, _, _, _, _, _, _, _, _] _)] [_] := st
      refine Ls_y (wtdT rfl rfl rfl) rfl rfl (y_not rfl rfl) (Ls_y (wtdT rfl rfl rfl) rfl rfl (y_move rfl rfl) (Ls_bool 59 rfl (fun hc10 => absurd hc10 (by simp [hc7])) (fun _ => ?_)))
      refine Ls_s (wtdF rfl rfl rfl) rfl rfl (Ls_s (wtdF rfl rfl rfl) rfl rfl (Ls_s (wtdF rfl rfl rfl) rfl rfl (Ls_s (wtdF rfl rfl rfl) rfl rfl (Ls_y (wtdT rfl rfl rfl) rfl rfl (y_pick_f rfl rfl rfl) (Ls_y (wtd0 rfl) rfl rfl (y_pick_f rfl rfl rfl) (Lmv rfl rfl rfl rfl rfl (Ls_y (wtdT rfl rfl rfl) rfl rfl (y_fld rfl rfl Ty.fo_33_0) (Ls_y (wtdT rfl rfl rfl) rfl rfl (y_load (i := 0) rfl rfl Ty.pl_3 (fun _ e => e ▸ st.hp) rfl rfl) ?_))))))))
      refine Ls_a (wtdT rfl rfl rfl) ?_
      refine a_call rfl rfl rfl rfl (r14takes_ok _ e.act) (fun v w12 ⟨hv, hf⟩ => ?_)
      subst hv
      have st := st.keep0 hf
      have hF := hF.step0 hf
      have st : St X w12 [(_, Cl [_, _, _, _, _, _, _, _, _] _)] [_] := st
      refine Ls_y (wtdT rfl rfl rfl) rfl rfl (y_not rfl rfl) (Ls_y (wtdT rfl rfl rfl) rfl rfl (y_move rfl rfl) (Ls_bool 71 rfl (fun hc11 => ?_) (fun hc11 => ?_)))
      · have hc11 := bF (nT hc11)
        refine Ls_y (wtdT rfl rfl rfl) rfl rfl (y_fld rfl rfl Ty.fo_33_5) (Ls_y (wtdT rfl rfl rfl) rfl rfl (y_load (i := 0) rfl rfl Ty.pl_31 (fun _ e => e ▸ st.hp) rfl rfl) ?_)
        refine Ls_y (wtdT rfl rfl rfl) rfl rfl (y_lenl rfl rfl Tryd.underlying31) ?_
        refine Ls_y (wtdT rfl rfl rfl) rfl rfl (y_gt rfl rfl rfl) (Ls_y (wtdT rfl rfl rfl) rfl rfl (y_pick_t rfl rfl rfl) (Ls_y (wtd0 rfl) rfl rfl (y_pick_f rfl rfl rfl) (Ls_nil (Th_n (?_)))))
        have hcj3 : r14checkE_c1 e s4 = (decide (0 < (e.tags.length : Int))) := by unfold r14checkE_c1; rewrite [if_pos hc7, if_pos hc8, if_neg hc9, if_neg hc11]; rfl
        exact hout2 _ [(1, _), (77, _)] _ ⟨rfl, rfl, trivial⟩ ⟨by rw [hcj3], (st.picks [0] (by decide)).pickK [0], hF⟩
      have hc11 := (nF hc11)
      refine Ls_s (wtdF rfl rfl rfl) rfl rfl (Ls_s (wtdF rfl rfl rfl) rfl rfl (Ls_s (wtdF rfl rfl rfl) rfl rfl (Ls_s (wtdF rfl rfl rfl) rfl rfl (Ls_y (wtdT rfl rfl rfl) rfl rfl (y_pick_f rfl rfl rfl) (Ls_y (wtd0 rfl) rfl rfl (y_pick_f rfl rfl rfl) (Ls_nil (Th_n (?_))))))))
      have hcj4 : r14checkE_c1 e s4 = false := by unfold r14checkE_c1; rewrite [if_pos hc7, if_pos hc8, if_neg hc9, if_pos hc11]; rfl
      exact hout2 _ [(1, _), (77, _)] _ ⟨rfl, rfl, trivial⟩ ⟨by rw [hcj4], (st.picks [0] (by decide)).pickK [0], hF⟩
    have hc7 := bF hc7
    refine Ls_s (wtdF rfl rfl rfl) rfl rfl (Ls_s (wtdF rfl rfl rfl) rfl rfl (Ls_s (wtdF rfl rfl rfl) rfl rfl (Ls_s (wtdF rfl rfl rfl) rfl rfl (Ls_s (wtdF rfl rfl rfl) rfl rfl (Ls_s (wtdU rfl rfl rfl) rfl rfl (Ls_s (wtdU rfl rfl rfl) rfl rfl (Ls_s (wtdU rfl rfl rfl) rfl rfl (Ls_s (wtdU rfl rfl rfl) rfl rfl (Ls_s (wtdF rfl rfl rfl) rfl rfl (Ls_y (wtd0 rfl) rfl rfl (y_pick_f rfl rfl rfl) (Lmv rfl rfl rfl rfl rfl (Ls_y (wtdT rfl rfl rfl) rfl rfl (y_fld rfl rfl Ty.fo_33_0) (Ls_y (wtdT rfl rfl rfl) rfl rfl (y_load (i := 0) rfl rfl Ty.pl_3 (fun _ e => e ▸ st.hp) rfl rfl) ?_)))))))))))))
    refine Ls_a (wtdT rfl rfl rfl) ?_
    refine a_call rfl rfl rfl rfl (r14timed_ok _ e.act) (fun v w13 ⟨hv, hf⟩ => ?_)
    subst hv
    have st := st.keep0 hf
    have hF := hF.step0 hf
    have st : St X w13 [(_, Cl [_, _, _, _, _, _, _, _, _] _)] [_] := st
    refine Ls_y (wtdT rfl rfl rfl) rfl rfl (y_not rfl rfl) (Ls_y (wtdT rfl rfl rfl) rfl rfl (y_move rfl rfl) (Ls_bool 59 rfl (fun _ => ?_) (fun hc12 => absurd hc12 (by simp [hc7]))))
    refine Ls_y (wtdT rfl rfl rfl) rfl rfl (y_fld rfl rfl Ty.fo_33_4) (Ls_y (wtdT rfl rfl rfl) rfl rfl (y_loadm (i := 0) rfl rfl Ty.ag_30 (fun _ e => e ▸ st.hp) rfl rfl rfl) ?_)
    refine Ls_y (wtdT rfl rfl rfl) rfl rfl (y_build (cells := [_, _]) rfl rfl Ty.zc_30 Ty.ps_30 rfl) ?_
    refine Ls_y (wtdT rfl rfl rfl) rfl rfl (y_nev (b := decide (e.atF = (⟨0, 0⟩ : StampM))) rfl rfl rfl Ty.eg_30 (by rw [Ty.ag_30]; simp) (eqv_30 e.atF (⟨0, 0⟩ : StampM))) ?_
    refine Ls_y (wtdT rfl rfl rfl) rfl rfl (y_pick_t rfl rfl rfl) (Ls_y (wtd0 rfl) rfl rfl (y_pick_f rfl rfl rfl) (Lmv rfl rfl rfl rfl rfl (Ls_bool 66 rfl (fun hc13 => ?_) (fun hc13 => ?_))))
    · have hc13 := dF (nT hc13)
      refine Ls_s (wtdF rfl rfl rfl) rfl rfl (Ls_s (wtdF rfl rfl rfl) rfl rfl (Ls_s (wtdF rfl rfl rfl) rfl rfl (Ls_s (wtdF rfl rfl rfl) rfl rfl (Ls_s (wtdF rfl rfl rfl) rfl rfl (Ls_s (wtdU rfl rfl rfl) rfl rfl (Ls_s (wtdU rfl rfl rfl) rfl rfl (Ls_s (wtdU rfl rfl rfl) rfl rfl (Ls_s (wtdU rfl rfl rfl) rfl rfl (Ls_s (wtdF rfl rfl rfl) rfl rfl (Ls_y (wtd0 rfl) rfl rfl (y_pick_t rfl rfl rfl) (Ls_nil (Th_n (?_)))))))))))))
      have hcj5 : r14checkE_c1 e s4 = true := by unfold r14checkE_c1; rewrite [if_neg hc7, if_neg hc13]; rfl
      exact hout2 _ [(1, _), (77, _)] _ ⟨rfl, rfl, trivial⟩ ⟨by rw [hcj5], (st.picks [0] (by decide)).pickK [0], hF⟩
    have hc13 := dT (nF hc13)
    refine Ls_y (wtdT rfl rfl rfl) rfl rfl (y_fld rfl rfl Ty.fo_33_0) (Ls_y (wtdT rfl rfl rfl) rfl rfl (y_load (i := 0) rfl rfl Ty.pl_3 (fun _ e => e ▸ st.hp) rfl rfl) ?_)
    refine Ls_a (wtdT rfl rfl rfl) ?_
    refine a_call rfl rfl rfl rfl (r14takes_ok _ e.act) (fun v w14 ⟨hv, hf⟩ => ?_)
    subst hv
    have st := st.keep0 hf
    have hF := hF.step0 hf
    have st : St X w14 [(_, Cl [_, _, _, _, _, _, _, _, _] _)] [_] := st
    refine Ls_y (wtdT rfl rfl rfl) rfl rfl (y_not rfl rfl) (Ls_y (wtdT rfl rfl rfl) rfl rfl (y_move rfl rfl) (Ls_bool 71 rfl (fun hc14 => ?_) (fun hc14 => ?_)))
    · have hc14 := bF (nT hc14)
      refine Ls_y (wtdT rfl rfl rfl) rfl rfl (y_fld rfl rfl Ty.fo_33_5) (Ls_y (wtdT rfl rfl rfl) rfl rfl (y_load (i := 0) rfl rfl Ty.pl_31 (fun _ e => e ▸ st.hp) rfl rfl) ?_)
      refine Ls_y (wtdT rfl rfl rfl) rfl rfl (y_lenl rfl rfl Tryd.underlying31) ?_
      refine Ls_y (wtdT rfl rfl rfl) rfl rfl (y_gt rfl rfl rfl) (Ls_y (wtdT rfl rfl rfl) rfl rfl (y_pick_t rfl rfl rfl) (Ls_y (wtd0 rfl) rfl rfl (y_pick_f rfl rfl rfl) (Ls_nil (Th_n (?_)))))
      have hcj6 : r14checkE_c1 e s4 = (decide (0 < (e.tags.length : Int))) := by unfold r14checkE_c1; rewrite [if_neg hc7, if_pos hc13, if_neg hc14]; rfl
      exact hout2 _ [(1, _), (77, _)] _ ⟨rfl, rfl, trivial⟩ ⟨by rw [hcj6], (st.picks [0] (by decide)).pickK [0], hF⟩
    have hc14 := (nF hc14)
    refine Ls_s (wtdF rfl rfl rfl) rfl rfl (Ls_s (wtdF rfl rfl rfl) rfl rfl (Ls_s (wtdF rfl rfl rfl) rfl rfl (Ls_s (wtdF rfl rfl rfl) rfl rfl (Ls_y (wtdT rfl rfl rfl) rfl rfl (y_pick_f rfl rfl rfl) (Ls_y (wtd0 rfl) rfl rfl (y_pick_f rfl rfl rfl) (Ls_nil (Th_n (?_))))))))
    have hcj7 : r14checkE_c1 e s4 = false := by unfold r14checkE_c1; rewrite [if_neg hc7, if_pos hc13, if_pos hc14]; rfl
    exact hout2 _ [(1, _), (77, _)] _ ⟨rfl, rfl, trivial⟩ ⟨by rw [hcj7], (st.picks [0] (by decide)).pickK [0], hF⟩
  refine Wp_loopE (fun m E W => ∃ (s4 : Int), E = [(1, .pointer (some ⟨g1, 0, none⟩)), (4, .int .i64 s4)] ∧ r14checkE_L1 e m s4 = r14checkE_L1 e (((e.tags.length : Int) - (0 : Int)).toNat + 1) (0 : Int) ∧ ((e.tags.length : Int) - s4).toNat < m ∧ (0 ≤ s4) ∧ St X W [(some g1, Cl [.int .i64 e.act, sv e.name, .int .i64 e.val, .int .i64 e.tag.id.origin, .int .u32 e.tag.id.seq, .int .i64 e.tag.n, .int .u32 e.atF.time, .int .i64 e.atF.origin, .slice A_e_tags e.tags.length c_e_tags] 33)] [kS A_e_tags e.tags.length c_e_tags 3 (e.tags.flatMap tagMC)] ∧ Fr ([]) w W) (((e.tags.length : Int) - (0 : Int)).toNat + 1) [(1, _), (4, _)] ⟨rfl, rfl, trivial⟩ ?_ ?_
  · exact ⟨_, rfl, rfl, Nat.lt_succ_self _, by first | omega | (simp; done) | (simp; omega), st, hF⟩
  rintro m E w15 ⟨s4, rfl, hL1, hmu, hinv, st, hF⟩
  obtain ⟨fuel, rfl⟩ : ∃ q, m = q + 1 := ⟨m - 1, by omega⟩
  refine Wp_seq fun K25 hK25 => ?_
  refine Wp_seq fun K26 hK26 => ?_
  refine Wp_region (Lmv rfl rfl rfl rfl rfl (Ls_y (wtd0 rfl) rfl rfl (y_fld rfl rfl Ty.fo_33_5) (Ls_y (wtd0 rfl) rfl rfl (y_load (i := 0) rfl rfl Ty.pl_31 (fun _ e => e ▸ st.hp) rfl rfl) ?_)))
  refine Ls_y (wtd0 rfl) rfl rfl (y_lenl rfl rfl Tryd.underlying31) ?_
  refine Ls_y (wtd0 rfl) rfl rfl (y_lt rfl rfl rfl) (Ls_nil (Th_n (hK26 _ _ ?_)))
  refine Wp_cond rfl (fun hc15 => ?_) (fun hc15 => ?_)
  · have hc15 := dT hc15
    refine Wp_skip (Th_n (hK25 _ _ ?_))
    refine Wp_seq fun K27 hK27 => ?_
    refine Wp_block (Wp_seq fun K28 hK28 => ?_)
    refine Wp_region (Ls_y (wtd0 rfl) rfl rfl (y_fld rfl rfl Ty.fo_33_5) (Ls_y (wtd0 rfl) rfl rfl (y_load (i := 0) rfl rfl Ty.pl_31 (fun _ e => e ▸ st.hp) rfl rfl) ?_))
    refine Lmv rfl rfl rfl rfl rfl ?_
    obtain ⟨gi2, bi2, egi2⟩ := (st.k (i := 0) rfl).addr (fun _ => rfl) (by decide) (q := s4) (by first | omega | (simp; done) | (simp; omega)) (by first | omega | (simp; done) | (simp; omega))
    subst egi2
    refine Ls_y (wtd0 rfl) rfl rfl (y_ixa (q := s4) rfl rfl rfl Ty.es_31 (by first | omega | (simp; done) | (simp; omega)) (by first | omega | (simp; done) | (simp; omega))) ?_
    refine Ls_y (wtd0 rfl) rfl rfl (y_ldk (q := s4) rfl rfl Ty.ag_28 (fun _ e => e ▸ st.k (i := 0) rfl) (fun _ => rfl) (by first | omega | (simp; done) | (simp; omega)) (by first | omega | (simp; done) | (simp; omega))) ?_
    refine Ls_a (wtd0 rfl) ?_
    refine a_call rfl rfl rfl rfl (r5checkTag_ok _ (ix e.tags s4)) (fun v w16 ⟨hv, hf⟩ => ?_)
    subst hv
    have st := st.keep0 hf
    have hF := hF.step0 hf
    have st : St X w16 [(_, Cl [_, _, _, _, _, _, _, _, _] _)] [_] := st
    refine Ls_y (wtd0 rfl) rfl rfl (y_ne rfl rfl rfl) (Ls_nil (Th_n (hK28 _ _ ?_)))
    refine Wp_cond rfl (fun hc16 => ?_) (fun hc16 => ?_)
    · have hc16 := neT hc16
      refine Wp_seq fun K29 hK29 => ?_
      refine Wp_region (Las rfl rfl rfl rfl rfl (Ls_nil (Th_n (hK29 _ _ ?_))))
      refine Wp_ret (Ib_r (Th_r (Th_r (Ib_r (Th_r (Fq_ret (Res1 rfl rfl) ?_))))))
      have hret2 : r14checkE_L1 e (((e.tags.length : Int) - (0 : Int)).toNat + 1) (0 : Int) = .inl 2 := by rewrite [← hL1, r14checkE_L1]; rewrite [if_pos hc15, if_neg hc16]; rfl
      have he7 : r14checkE_m e = 2 := by unfold r14checkE_m; rewrite [if_pos hc1, if_pos hc2, hret2]; (try dsimp only); all_goals rfl
      rewrite [he7]
      exact ⟨rfl, hF⟩
    have hc16 := neF hc16
    refine Wp_skip (Ib_n (Th_n (hK27 _ _ ?_)))
    refine Wp_region (Lmv rfl rfl rfl rfl rfl (Ls_y (wtd0 rfl) rfl rfl (y_add (c := s4 + 1) rfl rfl rfl (wf_i64 (by first | omega | (simp; done) | (simp; omega)))) ?_))
    refine Las rfl rfl rfl rfl rfl (Ls_nil (Th_n (?_)))
    have hE3 : r14checkE_L1 e fuel (s4 + 1) = r14checkE_L1 e (((e.tags.length : Int) - (0 : Int)).toNat + 1) (0 : Int) := by rewrite [← hL1, r14checkE_L1]; rewrite [if_pos hc15, if_pos hc16]; rfl
    exact ⟨fuel, [(1, _), (4, _)], Nat.lt_succ_self _, ⟨rfl, rfl, trivial⟩, (s4 + 1), rfl, hE3, by first | omega | (simp; done) | (simp; omega), by first | omega | (simp; done) | (simp; omega), (st.picks [0] (by decide)).pickK [0], hF⟩
  have hc15 := dF hc15
  refine Wp_exit (Th_e (Th_e (Ib_hit (Th_n (?_)))))
  have hE4 : r14checkE_L1 e (((e.tags.length : Int) - (0 : Int)).toNat + 1) (0 : Int) = .inr (s4) := by rewrite [← hL1, r14checkE_L1]; rewrite [if_neg hc15]; rfl
  exact hout1 _ [(1, _), (4, _)] _ ⟨rfl, rfl, trivial⟩ ⟨s4, rfl, hE4, by first | omega | (simp; done) | (simp; omega), (st.picks [0] (by decide)).pickK [0], hF⟩

def r14key_c1 (s : List UInt8) (s4 : Int) (s5 : Int) (s6 : Int) : Bool :=
  (if 97 ≤ ((ix s s6).toNat : Int) then (if ((ix s s6).toNat : Int) ≤ 122 then true else (if 48 ≤ ((ix s s6).toNat : Int) then decide (((ix s s6).toNat : Int) ≤ 57) else false)) else (if 48 ≤ ((ix s s6).toNat : Int) then decide (((ix s s6).toNat : Int) ≤ 57) else false))

def r14key_c2 (s : List UInt8) (s4 : Int) (s5 : Int) (s6 : Int) : Bool :=
  (if ((ix s s6).toNat : Int) = 47 then decide (0 < s5) else false)

def r14key_L1 (s : List UInt8) : Nat → Int → Int → Int → (Int × Int) ⊕ (Int × Int × Int)
  | 0, s4, s5, s6 => .inr (s4, s5, s6)
  | fuel + 1, s4, s5, s6 =>
    if s6 < (s.length : Int) then
      if (r14key_c1 s s4 s5 s6) = true then
        if s5 = 0 then
          r14key_L1 s fuel ((ix s s6).toNat : Int) (s5 + 1) (s6 + 1)
        else
          r14key_L1 s fuel s4 (s5 + 1) (s6 + 1)
      else
        if (r14key_c2 s s4 s5 s6) = true then
          r14key_L1 s fuel s4 0 (s6 + 1)
        else
          .inl (0, 3)
    else
      .inr (s4, s5, s6)
def r14key_m (s : List UInt8) : Int × Int :=
  if 24 < (s.length : Int) then
    (0, 8)
  else
    match r14key_L1 s (((s.length : Int) - (0 : Int)).toNat + 1) (0 : Int) (0 : Int) (0 : Int) with
    | .inl r => r
    | .inr (s4, s5, s6) =>
      if s5 = 0 then
        (0, 3)
      else
        if s4 = 114 then
          (1, 0)
        else
          if s4 = 99 then
            (2, 0)
          else
            if s4 = 115 then
              (3, 0)
            else
              if s4 = 109 then
                (4, 0)
              else
                (0, 5)

theorem r14key_c1_iff (s : List UInt8) (s4 : Int) (s5 : Int) (s6 : Int) : (r14key_c1 s s4 s5 s6 = true) ↔ (((97 ≤ ((ix s s6).toNat : Int)) ∧ ((((ix s s6).toNat : Int) ≤ 122) ∨ ((48 ≤ ((ix s s6).toNat : Int)) ∧ (((ix s s6).toNat : Int) ≤ 57)))) ∨ (¬ (97 ≤ ((ix s s6).toNat : Int)) ∧ ((48 ≤ ((ix s s6).toNat : Int)) ∧ (((ix s s6).toNat : Int) ≤ 57)))) := by
  unfold r14key_c1; exact (ci5 (ci1 (ci2 decide_eq_true_iff)) (ci2 decide_eq_true_iff))

theorem r14key_c2_iff (s : List UInt8) (s4 : Int) (s5 : Int) (s6 : Int) : (r14key_c2 s s4 s5 s6 = true) ↔ ((((ix s s6).toNat : Int) = 47) ∧ (0 < s5)) := by
  unfold r14key_c2; exact (ci2 decide_eq_true_iff)

set_option maxRecDepth 20000 in
theorem r14key_ok (w : World) (s : List UInt8) :
    Fn Tryd.prog 6 [sv s] w fun v w' => v = .tuple #[.int .i64 ((r14key_m s).1), .int .i64 ((r14key_m s).2)] ∧ Fr [] w w' := by
  refine Fn_of 58 Ty.en_6 Tryd.func6 rfl rfl rfl ?_
  dsimp only [argEnv]
  have st : St [] w [] [] := St.nil (X := []) (w := w) (by simp [Lo])
  have hF := Fr.refl ([]) w
  refine Wp_seq fun K1 hK1 => ?_
  refine Wp_region (Las rfl rfl rfl rfl rfl (Las rfl rfl rfl rfl rfl (Ls_nil (Th_n (hK1 _ _ ?_)))))
  refine Wp_seq fun K2 hK2 => ?_
  refine Wp_seq fun K3 hK3 => ?_
  refine Wp_region (Lmv rfl rfl rfl rfl rfl (Ls_y (wtd0 rfl) rfl rfl (y_lens rfl rfl Tryd.underlying9) ?_))
  refine Ls_y (wtd0 rfl) rfl rfl (y_gt rfl rfl rfl) (Ls_nil (Th_n (hK3 _ _ ?_)))
  refine Wp_cond rfl (fun hc1 => ?_) (fun hc1 => ?_)
  · have hc1 := dT hc1
    refine Wp_seq fun K4 hK4 => ?_
    refine Wp_region (Las rfl rfl rfl rfl rfl (Las rfl rfl rfl rfl rfl (Ls_nil (Th_n (hK4 _ _ ?_)))))
    refine Wp_ret (Th_r (Fq_ret (Res2 rfl rfl rfl) ?_))
    have he1 : r14key_m s = (0, 8) := by unfold r14key_m; rewrite [if_pos hc1]; rfl
    rewrite [he1]
    exact ⟨rfl, hF⟩
  have hc1 := dF hc1
  refine Wp_skip (Th_n (hK2 _ _ ?_))
  refine Wp_seq fun K5 hK5 => ?_
  refine Wp_region (Las rfl rfl rfl rfl rfl (Ls_nil (Th_n (hK5 _ _ ?_))))
  refine Wp_seq fun K6 hK6 => ?_
  refine Wp_region (Las rfl rfl rfl rfl rfl (Ls_nil (Th_n (hK6 _ _ ?_))))
  refine Wp_seq fun K7 hK7 => ?_
  refine Wp_seq fun K8 hK8 => ?_
  refine Wp_region (Las rfl rfl rfl rfl rfl (Ls_nil (Th_n (hK8 _ _ ?_))))
  refine Wp_block (use_out hK7 (fun E W => ∃ (s4 : Int) (s5 : Int) (s6 : Int), E = [(0, sv s), (4, .int .u8 s4), (5, .int .i64 s5), (6, .int .i64 s6)] ∧ r14key_L1 s (((s.length : Int) - (0 : Int)).toNat + 1) (0 : Int) (0 : Int) (0 : Int) = .inr (s4, s5, s6) ∧ (0 ≤ s6 ∧ 0 ≤ s5 ∧ s5 ≤ s6) ∧ St [] W [] [] ∧ Fr ([]) w W) ?_ fun hout1 => ?_)
  · rintro E w1 ⟨s4, s5, s6, rfl, hLk1, hinv, st, hF⟩
    refine Wp_seq fun K9 hK9 => ?_
    refine Wp_seq fun K10 hK10 => ?_
    refine Wp_region (Lmv rfl rfl rfl rfl rfl (Ls_y (wtd0 rfl) rfl rfl (y_eq rfl rfl rfl) (Ls_nil (Th_n (hK10 _ _ ?_)))))
    refine Wp_cond rfl (fun hc2 => ?_) (fun hc2 => ?_)
    · have hc2 := eT hc2
      refine Wp_seq fun K11 hK11 => ?_
      refine Wp_region (Las rfl rfl rfl rfl rfl (Las rfl rfl rfl rfl rfl (Ls_nil (Th_n (hK11 _ _ ?_)))))
      refine Wp_ret (Th_r (Fq_ret (Res2 rfl rfl rfl) ?_))
      have he2 : r14key_m s = (0, 3) := by unfold r14key_m; rewrite [if_neg hc1, hLk1]; (try dsimp only); all_goals rewrite [if_pos hc2]; all_goals rfl
      rewrite [he2]
      exact ⟨rfl, hF⟩
    have hc2 := eF hc2
    refine Wp_skip (Th_n (hK9 _ _ ?_))
    refine Wp_seq fun K12 hK12 => ?_
    refine Wp_seq fun K13 hK13 => ?_
    refine Wp_region (Lmv rfl rfl rfl rfl rfl (Ls_nil (Th_n (hK13 _ _ ?_))))
    refine Wp_block (Wp_seq fun K14 hK14 => ?_)
    refine Wp_region (Ls_y (wtd0 rfl) rfl rfl (y_eq rfl rfl rfl) (Las rfl rfl rfl rfl rfl (Ls_nil (Th_n (hK14 _ _ ?_)))))
    refine Wp_cond rfl (fun hc3 => ?_) (fun hc3 => ?_)
    · have hc3 := eT hc3
      refine Wp_seq fun K15 hK15 => ?_
      refine Wp_region (Las rfl rfl rfl rfl rfl (Las rfl rfl rfl rfl rfl (Ls_nil (Th_n (hK15 _ _ ?_)))))
      refine Wp_ret (Ib_r (Th_r (Fq_ret (Res2 rfl rfl rfl) ?_)))
      have he3 : r14key_m s = (1, 0) := by unfold r14key_m; rewrite [if_neg hc1, hLk1]; (try dsimp only); all_goals rewrite [if_neg hc2, if_pos hc3]; all_goals rfl
      rewrite [he3]
      exact ⟨rfl, hF⟩
    have hc3 := eF hc3
    refine Wp_seq fun K16 hK16 => ?_
    refine Wp_region (Ls_y (wtd0 rfl) rfl rfl (y_eq rfl rfl rfl) (Las rfl rfl rfl rfl rfl (Ls_nil (Th_n (hK16 _ _ ?_)))))
    refine Wp_cond rfl (fun hc4 => ?_) (fun hc4 => ?_)
    · have hc4 := eT hc4
      refine Wp_seq fun K17 hK17 => ?_
      refine Wp_region (Las rfl rfl rfl rfl rfl (Las rfl rfl rfl rfl rfl (Ls_nil (Th_n (hK17 _ _ ?_)))))
      refine Wp_ret (Ib_r (Th_r (Fq_ret (Res2 rfl rfl rfl) ?_)))
      have he4 : r14key_m s = (2, 0) := by unfold r14key_m; rewrite [if_neg hc1, hLk1]; (try dsimp only); all_goals rewrite [if_neg hc2, if_neg hc3, if_pos hc4]; all_goals rfl
      rewrite [he4]
      exact ⟨rfl, hF⟩
    have hc4 := eF hc4
    refine Wp_seq fun K18 hK18 => ?_
    refine Wp_region (Ls_y (wtd0 rfl) rfl rfl (y_eq rfl rfl rfl) (Las rfl rfl rfl rfl rfl (Ls_nil (Th_n (hK18 _ _ ?_)))))
    refine Wp_cond rfl (fun hc5 => ?_) (fun hc5 => ?_)
    · have hc5 := eT hc5
      refine Wp_seq fun K19 hK19 => ?_
      refine Wp_region (Las rfl rfl rfl rfl rfl (Las rfl rfl rfl rfl rfl (Ls_nil (Th_n (hK19 _ _ ?_)))))
      refine Wp_ret (Ib_r (Th_r (Fq_ret (Res2 rfl rfl rfl) ?_)))
      have he5 : r14key_m s = (3, 0) := by unfold r14key_m; rewrite [if_neg hc1, hLk1]; (try dsimp only); all_goals rewrite [if_neg hc2, if_neg hc3, if_neg hc4, if_pos hc5]; all_goals rfl
      rewrite [he5]
      exact ⟨rfl, hF⟩
    have hc5 := eF hc5
    refine Wp_seq fun K20 hK20 => ?_
    refine Wp_region (Ls_y (wtd0 rfl) rfl rfl (y_eq rfl rfl rfl) (Las rfl rfl rfl rfl rfl (Ls_nil (Th_n (hK20 _ _ ?_)))))
    refine Wp_cond rfl (fun hc6 => ?_) (fun hc6 => ?_)
    · have hc6 := eT hc6
      refine Wp_seq fun K21 hK21 => ?_
      refine Wp_region (Las rfl rfl rfl rfl rfl (Las rfl rfl rfl rfl rfl (Ls_nil (Th_n (hK21 _ _ ?_)))))
      refine Wp_ret (Ib_r (Th_r (Fq_ret (Res2 rfl rfl rfl) ?_)))
      have he6 : r14key_m s = (4, 0) := by unfold r14key_m; rewrite [if_neg hc1, hLk1]; (try dsimp only); all_goals rewrite [if_neg hc2, if_neg hc3, if_neg hc4, if_neg hc5, if_pos hc6]; all_goals rfl
      rewrite [he6]
      exact ⟨rfl, hF⟩
    have hc6 := eF hc6
    refine Wp_skip (Ib_n (Th_n (hK12 _ _ ?_)))
    refine Wp_seq fun K22 hK22 => ?_
    refine Wp_region (Las rfl rfl rfl rfl rfl (Las rfl rfl rfl rfl rfl (Ls_nil (Th_n (hK22 _ _ ?_)))))
    refine Wp_ret (Fq_ret (Res2 rfl rfl rfl) ?_)
    have he7 : r14key_m s = (0, 5) := by unfold r14key_m; rewrite [if_neg hc1, hLk1]; (try dsimp only); all_goals rewrite [if_neg hc2, if_neg hc3, if_neg hc4, if_neg hc5, if_neg hc6]; all_goals rfl
    rewrite [he7]
    exact ⟨rfl, hF⟩
  refine Wp_loopE (fun m E W => ∃ (s4 : Int) (s5 : Int) (s6 : Int), E = [(0, sv s), (4, .int .u8 s4), (5, .int .i64 s5), (6, .int .i64 s6)] ∧ r14key_L1 s m s4 s5 s6 = r14key_L1 s (((s.length : Int) - (0 : Int)).toNat + 1) (0 : Int) (0 : Int) (0 : Int) ∧ ((s.length : Int) - s6).toNat < m ∧ (0 ≤ s6 ∧ 0 ≤ s5 ∧ s5 ≤ s6) ∧ St [] W [] [] ∧ Fr ([]) w W) (((s.length : Int) - (0 : Int)).toNat + 1) [(0, _), (4, _), (5, _), (6, _)] ⟨rfl, rfl, rfl, rfl, trivial⟩ ?_ ?_
  · exact ⟨_, _, _, rfl, rfl, Nat.lt_succ_self _, by first | omega | (simp; done) | (simp; omega), st, hF⟩
  rintro m E w2 ⟨s4, s5, s6, rfl, hL1, hmu, hinv, st, hF⟩
  obtain ⟨fuel, rfl⟩ : ∃ q, m = q + 1 := ⟨m - 1, by omega⟩
  refine Wp_seq fun K23 hK23 => ?_
  refine Wp_seq fun K24 hK24 => ?_
  refine Wp_region (Lmv rfl rfl rfl rfl rfl (Lmv rfl rfl rfl rfl rfl (Ls_y (wtd0 rfl) rfl rfl (y_lens rfl rfl Tryd.underlying9) ?_)))
  refine Ls_y (wtd0 rfl) rfl rfl (y_lt rfl rfl rfl) (Ls_nil (Th_n (hK24 _ _ ?_)))
  refine Wp_cond rfl (fun hc7 => ?_) (fun hc7 => ?_)
  · have hc7 := dT hc7
    refine Wp_skip (Th_n (hK23 _ _ ?_))
    refine Wp_seq fun K25 hK25 => ?_
    refine Wp_block (Wp_seq fun K26 hK26 => ?_)
    refine Wp_region (Lmv rfl rfl rfl rfl rfl (Lmv rfl rfl rfl rfl rfl (Ls_y (wtd0 rfl) rfl rfl (y_ixs2 (q := s6) rfl rfl rfl Tryd.underlying9 (by first | omega | (simp; done) | (simp; omega)) (by first | omega | (simp; done) | (simp; omega))) ?_)))
    refine Las rfl rfl rfl rfl rfl (Ls_nil (Th_n (hK26 _ _ ?_)))
    refine Wp_block (Wp_seq fun K27 hK27 => ?_)
    refine use_out hK27 (fun E W => E = [(0, sv s), (4, .int .u8 s4), (5, .int .i64 s5), (6, .int .i64 s6), (7, .int .u8 ((ix s s6).toNat : Int)), (20, .bool (r14key_c1 s s4 s5 s6))] ∧ St [] W (hOf st) (kOf st) ∧ Fr ([]) w W) ?_ fun hout2 => ?_
    · rintro E w3 ⟨rfl, st, hF⟩
      have st : St [] w3 [] [] := st
      refine Wp_cond rfl (fun hc8 => ?_) (fun hc8 => ?_)
      · have jhc8 := (r14key_c1_iff s s4 s5 s6).1 hc8
        refine Wp_seq fun K28 hK28 => ?_
        refine Wp_seq fun K29 hK29 => ?_
        refine Wp_region (Lmv rfl rfl rfl rfl rfl (Ls_y (wtd0 rfl) rfl rfl (y_eq rfl rfl rfl) (Ls_nil (Th_n (hK29 _ _ ?_)))))
        refine Wp_cond rfl (fun hc9 => ?_) (fun hc9 => ?_)
        · have hc9 := eT hc9
          refine Wp_region (Lmv rfl rfl rfl rfl rfl (Las rfl rfl rfl rfl rfl (Ls_nil (Th_n (hK28 _ _ ?_)))))
          refine Wp_region (Lmv rfl rfl rfl rfl rfl (Ls_y (wtd0 rfl) rfl rfl (y_add (c := s5 + 1) rfl rfl rfl (wf_i64 (by first | omega | (simp; done) | (simp; omega)))) ?_))
          refine Las rfl rfl rfl rfl rfl (Ls_nil (Ib_n (Ib_n (Th_n (hK25 _ _ ?_)))))
          refine Wp_region (Lmv rfl rfl rfl rfl rfl (Ls_y (wtd0 rfl) rfl rfl (y_add (c := s6 + 1) rfl rfl rfl (wf_i64 (by first | omega | (simp; done) | (simp; omega)))) ?_))
          refine Las rfl rfl rfl rfl rfl (Ls_nil (Th_n (?_)))
          have hE1 : r14key_L1 s fuel ((ix s s6).toNat : Int) (s5 + 1) (s6 + 1) = r14key_L1 s (((s.length : Int) - (0 : Int)).toNat + 1) (0 : Int) (0 : Int) (0 : Int) := by rewrite [← hL1, r14key_L1]; rewrite [if_pos hc7, if_pos hc8, if_pos hc9]; rfl
          exact ⟨fuel, [(0, _), (4, _), (5, _), (6, _)], Nat.lt_succ_self _, ⟨rfl, rfl, rfl, rfl, trivial⟩, ((ix s s6).toNat : Int), (s5 + 1), (s6 + 1), rfl, hE1, by first | omega | (simp; done) | (simp; omega), by first | omega | (simp; done) | (simp; omega), (st.picks [] (by decide)).pickK [], hF⟩
        have hc9 := eF hc9
        refine Wp_skip (Th_n (hK28 _ _ ?_))
        refine Wp_region (Lmv rfl rfl rfl rfl rfl (Ls_y (wtd0 rfl) rfl rfl (y_add (c := s5 + 1) rfl rfl rfl (wf_i64 (by first | omega | (simp; done) | (simp; omega)))) ?_))
        refine Las rfl rfl rfl rfl rfl (Ls_nil (Ib_n (Ib_n (Th_n (hK25 _ _ ?_)))))
        refine Wp_region (Lmv rfl rfl rfl rfl rfl (Ls_y (wtd0 rfl) rfl rfl (y_add (c := s6 + 1) rfl rfl rfl (wf_i64 (by first | omega | (simp; done) | (simp; omega)))) ?_))
        refine Las rfl rfl rfl rfl rfl (Ls_nil (Th_n (?_)))
        have hE2 : r14key_L1 s fuel s4 (s5 + 1) (s6 + 1) = r14key_L1 s (((s.length : Int) - (0 : Int)).toNat + 1) (0 : Int) (0 : Int) (0 : Int) := by rewrite [← hL1, r14key_L1]; rewrite [if_pos hc7, if_pos hc8, if_neg hc9]; rfl
        exact ⟨fuel, [(0, _), (4, _), (5, _), (6, _)], Nat.lt_succ_self _, ⟨rfl, rfl, rfl, rfl, trivial⟩, s4, (s5 + 1), (s6 + 1), rfl, hE2, by first | omega | (simp; done) | (simp; omega), by first | omega | (simp; done) | (simp; omega), (st.picks [] (by decide)).pickK [], hF⟩
      have jhc8 := mt (r14key_c1_iff s s4 s5 s6).2 (bF hc8)
      have hc8 := bF hc8
      refine Wp_seq fun K30 hK30 => ?_
      refine use_out hK30 (fun E W => E = [(0, sv s), (4, .int .u8 s4), (6, .int .i64 s6), (40, .bool (r14key_c2 s s4 s5 s6))] ∧ St [] W (hOf st) (kOf st) ∧ Fr ([]) w W) ?_ fun hout3 => ?_
      · rintro E w4 ⟨rfl, st, hF⟩
        have st : St [] w4 [] [] := st
        refine Wp_cond rfl (fun hc10 => ?_) (fun hc10 => ?_)
        · have jhc10 := (r14key_c2_iff s s4 s5 s6).1 hc10
          refine Wp_region (Las rfl rfl rfl rfl rfl (Ls_nil (Ib_n (Ib_n (Th_n (hK25 _ _ ?_))))))
          refine Wp_region (Lmv rfl rfl rfl rfl rfl (Ls_y (wtd0 rfl) rfl rfl (y_add (c := s6 + 1) rfl rfl rfl (wf_i64 (by first | omega | (simp; done) | (simp; omega)))) ?_))
          refine Las rfl rfl rfl rfl rfl (Ls_nil (Th_n (?_)))
          have hE3 : r14key_L1 s fuel s4 0 (s6 + 1) = r14key_L1 s (((s.length : Int) - (0 : Int)).toNat + 1) (0 : Int) (0 : Int) (0 : Int) := by rewrite [← hL1, r14key_L1]; rewrite [if_pos hc7, if_neg hc8, if_pos hc10]; rfl
          exact ⟨fuel, [(0, _), (4, _), (5, _), (6, _)], Nat.lt_succ_self _, ⟨rfl, rfl, rfl, rfl, trivial⟩, s4, 0, (s6 + 1), rfl, hE3, by first | omega | (simp; done) | (simp; omega), by first | omega | (simp; done) | (simp; omega), (st.picks [] (by decide)).pickK [], hF⟩
        have jhc10 := mt (r14key_c2_iff s s4 s5 s6).2 (bF hc10)
        have hc10 := bF hc10
        refine Wp_seq fun K31 hK31 => ?_
        refine Wp_region (Las rfl rfl rfl rfl rfl (Las rfl rfl rfl rfl rfl (Ls_nil (Th_n (hK31 _ _ ?_)))))
        refine Wp_ret (Ib_r (Ib_r (Th_r (Th_r (Ib_r (Th_r (Fq_ret (Res2 rfl rfl rfl) ?_)))))))
        have hret1 : r14key_L1 s (((s.length : Int) - (0 : Int)).toNat + 1) (0 : Int) (0 : Int) (0 : Int) = .inl (0, 3) := by rewrite [← hL1, r14key_L1]; rewrite [if_pos hc7, if_neg hc8, if_neg hc10]; rfl
        have he8 : r14key_m s = (0, 3) := by unfold r14key_m; rewrite [if_neg hc1, hret1]; (try dsimp only); all_goals rfl
        rewrite [he8]
        exact ⟨rfl, hF⟩
      refine Wp_region (Lmv rfl rfl rfl rfl rfl (Ls_y (wtd0 rfl) rfl rfl (y_eq rfl rfl rfl) (Lmv rfl rfl rfl rfl rfl (Ls_bool 43 rfl (fun hc11 => ?_) (fun hc11 => ?_)))))
      · have hc11 := eT hc11
        refine Ls_y (wtdT rfl rfl rfl) rfl rfl (y_move rfl rfl) (Ls_y (wtdT rfl rfl rfl) rfl rfl (y_gt rfl rfl rfl) (Ls_y (wtd0 rfl) rfl rfl (y_pick_t rfl rfl rfl) (Las rfl rfl rfl rfl rfl (Ls_nil (Th_n (?_))))))
        have hcj1 : r14key_c2 s s4 s5 s6 = (decide (0 < s5)) := by unfold r14key_c2; rewrite [if_pos hc11]; rfl
        exact hout3 _ [(0, _), (4, _), (6, _), (40, _)] _ ⟨rfl, rfl, rfl, rfl, trivial⟩ ⟨by rw [hcj1], (st.picks [] (by decide)).pickK [], hF⟩
      have hc11 := eF hc11
      refine Ls_s (wtdF rfl rfl rfl) rfl rfl (Ls_s (wtdF rfl rfl rfl) rfl rfl (Ls_y (wtd0 rfl) rfl rfl (y_pick_f rfl rfl rfl) (Las rfl rfl rfl rfl rfl (Ls_nil (Th_n (?_))))))
      have hcj2 : r14key_c2 s s4 s5 s6 = false := by unfold r14key_c2; rewrite [if_neg hc11]; rfl
      exact hout3 _ [(0, _), (4, _), (6, _), (40, _)] _ ⟨rfl, rfl, rfl, rfl, trivial⟩ ⟨by rw [hcj2], (st.picks [] (by decide)).pickK [], hF⟩
    refine Wp_region (Lmv rfl rfl rfl rfl rfl (Ls_y (wtd0 rfl) rfl rfl (y_ge rfl rfl rfl) (Lmv rfl rfl rfl rfl rfl (Ls_bool 23 rfl (fun hc12 => ?_) (fun hc12 => ?_)))))
    · have hc12 := dT hc12
      refine Ls_y (wtdT rfl rfl rfl) rfl rfl (y_move rfl rfl) (Ls_y (wtdT rfl rfl rfl) rfl rfl (y_le rfl rfl rfl) (Ls_y (wtd0 rfl) rfl rfl (y_pick_t rfl rfl rfl) (Lmv rfl rfl rfl rfl rfl (Ls_bool 27 rfl (fun hc13 => ?_) (fun hc13 => ?_)))))
      · have hc13 := dT hc13
        refine Ls_s (wtdF rfl rfl rfl) rfl rfl (Ls_s (wtdF rfl rfl rfl) rfl rfl (Ls_s (wtdF rfl rfl rfl) rfl rfl (Ls_s (wtdU rfl rfl rfl) rfl rfl (Ls_s (wtdU rfl rfl rfl) rfl rfl (Ls_s (wtdF rfl rfl rfl) rfl rfl (Ls_y (wtd0 rfl) rfl rfl (y_pick_t rfl rfl rfl) (Las rfl rfl rfl rfl rfl (Ls_nil (Th_n (?_))))))))))
        have hcj3 : r14key_c1 s s4 s5 s6 = true := by unfold r14key_c1; rewrite [if_pos hc12, if_pos hc13]; rfl
        exact hout2 _ [(0, _), (4, _), (5, _), (6, _), (7, _), (20, _)] _ ⟨rfl, rfl, rfl, rfl, rfl, rfl, trivial⟩ ⟨by rw [hcj3], (st.picks [] (by decide)).pickK [], hF⟩
      have hc13 := dF hc13
      refine Ls_y (wtdT rfl rfl rfl) rfl rfl (y_move rfl rfl) (Ls_y (wtdT rfl rfl rfl) rfl rfl (y_ge rfl rfl rfl) (Ls_y (wtdT rfl rfl rfl) rfl rfl (y_move rfl rfl) (Ls_bool 30 rfl (fun hc14 => ?_) (fun hc14 => ?_))))
      · have hc14 := dT hc14
        refine Ls_y (wtdT rfl rfl rfl) rfl rfl (y_move rfl rfl) (Ls_y (wtdT rfl rfl rfl) rfl rfl (y_le rfl rfl rfl) (Ls_y (wtdT rfl rfl rfl) rfl rfl (y_pick_t rfl rfl rfl) (Ls_y (wtd0 rfl) rfl rfl (y_pick_f rfl rfl rfl) (Las rfl rfl rfl rfl rfl (Ls_nil (Th_n (?_)))))))
        have hcj4 : r14key_c1 s s4 s5 s6 = (decide (((ix s s6).toNat : Int) ≤ 57)) := by unfold r14key_c1; rewrite [if_pos hc12, if_neg hc13, if_pos hc14]; rfl
        exact hout2 _ [(0, _), (4, _), (5, _), (6, _), (7, _), (20, _)] _ ⟨rfl, rfl, rfl, rfl, rfl, rfl, trivial⟩ ⟨by rw [hcj4], (st.picks [] (by decide)).pickK [], hF⟩
      have hc14 := dF hc14
      refine Ls_s (wtdF rfl rfl rfl) rfl rfl (Ls_s (wtdF rfl rfl rfl) rfl rfl (Ls_y (wtdT rfl rfl rfl) rfl rfl (y_pick_f rfl rfl rfl) (Ls_y (wtd0 rfl) rfl rfl (y_pick_f rfl rfl rfl) (Las rfl rfl rfl rfl rfl (Ls_nil (Th_n (?_)))))))
      have hcj5 : r14key_c1 s s4 s5 s6 = false := by unfold r14key_c1; rewrite [if_pos hc12, if_neg hc13, if_neg hc14]; rfl
      exact hout2 _ [(0, _), (4, _), (5, _), (6, _), (7, _), (20, _)] _ ⟨rfl, rfl, rfl, rfl, rfl, rfl, trivial⟩ ⟨by rw [hcj5], (st.picks [] (by decide)).pickK [], hF⟩
    have hc12 := dF hc12
    refine Ls_s (wtdF rfl rfl rfl) rfl rfl (Ls_s (wtdF rfl rfl rfl) rfl rfl (Ls_y (wtd0 rfl) rfl rfl (y_pick_f rfl rfl rfl) (Lmv rfl rfl rfl rfl rfl (Ls_y (wtdT rfl rfl rfl) rfl rfl (y_move rfl rfl) (Ls_y (wtdT rfl rfl rfl) rfl rfl (y_ge rfl rfl rfl) (Ls_y (wtdT rfl rfl rfl) rfl rfl (y_move rfl rfl) (Ls_bool 30 rfl (fun hc15 => ?_) (fun hc15 => ?_))))))))
    · have hc15 := dT hc15
      refine Ls_y (wtdT rfl rfl rfl) rfl rfl (y_move rfl rfl) (Ls_y (wtdT rfl rfl rfl) rfl rfl (y_le rfl rfl rfl) (Ls_y (wtdT rfl rfl rfl) rfl rfl (y_pick_t rfl rfl rfl) (Ls_y (wtd0 rfl) rfl rfl (y_pick_f rfl rfl rfl) (Las rfl rfl rfl rfl rfl (Ls_nil (Th_n (?_)))))))
      have hcj6 : r14key_c1 s s4 s5 s6 = (decide (((ix s s6).toNat : Int) ≤ 57)) := by unfold r14key_c1; rewrite [if_neg hc12, if_pos hc15]; rfl
      exact hout2 _ [(0, _), (4, _), (5, _), (6, _), (7, _), (20, _)] _ ⟨rfl, rfl, rfl, rfl, rfl, rfl, trivial⟩ ⟨by rw [hcj6], (st.picks [] (by decide)).pickK [], hF⟩
    have hc15 := dF hc15
    refine Ls_s (wtdF rfl rfl rfl) rfl rfl (Ls_s (wtdF rfl rfl rfl) rfl rfl (Ls_y (wtdT rfl rfl rfl) rfl rfl (y_pick_f rfl rfl rfl) (Ls_y (wtd0 rfl) rfl rfl (y_pick_f rfl rfl rfl) (Las rfl rfl rfl rfl rfl (Ls_nil (Th_n (?_)))))))
    have hcj7 : r14key_c1 s s4 s5 s6 = false := by unfold r14key_c1; rewrite [if_neg hc12, if_neg hc15]; rfl
    exact hout2 _ [(0, _), (4, _), (5, _), (6, _), (7, _), (20, _)] _ ⟨rfl, rfl, rfl, rfl, rfl, rfl, trivial⟩ ⟨by rw [hcj7], (st.picks [] (by decide)).pickK [], hF⟩
  have hc7 := dF hc7
  refine Wp_exit (Th_e (Th_e (Ib_hit (Th_n (?_)))))
  have hE4 : r14key_L1 s (((s.length : Int) - (0 : Int)).toNat + 1) (0 : Int) (0 : Int) (0 : Int) = .inr (s4, s5, s6) := by rewrite [← hL1, r14key_L1]; rewrite [if_neg hc7]; rfl
  exact hout1 _ [(0, _), (4, _), (5, _), (6, _)] _ ⟨rfl, rfl, rfl, rfl, trivial⟩ ⟨s4, s5, s6, rfl, hE4, by first | omega | (simp; done) | (simp; omega), (st.picks [] (by decide)).pickK [], hF⟩

end Go.Proofs.YtmajjdpioillaaaDoor

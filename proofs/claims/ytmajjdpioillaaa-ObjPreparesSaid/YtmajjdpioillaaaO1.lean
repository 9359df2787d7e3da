/- Walks printed by gen2.py out of our own specifications: what the functions named below do. -/
import Derived.Test.YtmajjdpioillaaaSe
import Derived.Test.YtmajjdpioillaaaTy
set_option linter.unusedSimpArgs false
set_option linter.unusedVariables false
namespace Go.Proofs.Ytmajjdpioillaaa
open Go.RowKit

structure IdM where
  origin : Int
  seq : Int
instance : Inhabited IdM := ⟨⟨default, default⟩⟩
instance : DecidableEq IdM := fun a b => decidable_of_iff (a.origin = b.origin ∧ a.seq = b.seq) (by cases a; cases b; simp)
def idMC (x : IdM) : List Value := [.int .i64 x.origin, .int .u32 x.seq]
theorem idMC_len (x : IdM) : (idMC x).length = 2 := rfl
def r5check_c1 (id : IdM) : Bool :=
  (if id.origin < 0 then true else (if 7 < id.origin then true else (if id.seq < 1 then true else decide (1048576 < id.seq))))
def r5check_m (id : IdM) : Int :=
  if (r5check_c1 id) = true then
    2
  else
    0

theorem r5check_c1_iff (id : IdM) : (r5check_c1 id = true) ↔ ((id.origin < 0) ∨ ((7 < id.origin) ∨ ((id.seq < 1) ∨ (1048576 < id.seq)))) := by
  unfold r5check_c1; exact (ci1 (ci1 (ci1 decide_eq_true_iff)))

set_option maxRecDepth 20000 in
theorem r5check_ok (w : World) (id : IdM) :
    Fn Try.prog 50 [.agg (idMC id).toArray] w fun v w' => v = .int .i64 (r5check_m id) ∧ Fr [] w w' := by
  refine Fn_of 21 Ty.en_50 Try.func50 rfl rfl rfl ?_
  dsimp only [argEnv]
  have st : St [] w [] [] := St.nil (X := []) (w := w) (by simp [Lo])
  have hF := Fr.refl ([]) w
  refine Wp_seq fun K1 hK1 => ?_
  refine Wp_region (Ls_a (wtd0 rfl) ?_)
  refine a_box rfl rfl rfl rfl st.hp (fun g1 w1 (hp : Hp w1 [(_, Cl [_, _] _)]) hf hg1 => ?_)
  have st : St [] w1 [(_, Cl [_, _] _)] [] := st.push hp hf hg1
  have hg1 := Nat.le_trans hF.size hg1
  have hF := hF.step0 hf
  refine Las rfl rfl rfl rfl rfl (Ls_nil (Th_n (hK1 _ _ ?_)))
  refine Wp_seq fun K2 hK2 => ?_
  refine Wp_seq fun K3 hK3 => ?_
  refine use_out hK3 (fun E W => E = [(20, .bool (r5check_c1 id))] ∧ St [] W (hOf st) (kOf st) ∧ Fr ([]) w W) ?_ fun hout1 => ?_
  · rintro E w2 ⟨rfl, st, hF⟩
    have st : St [] w2 [(_, Cl [_, _] _)] [] := st
    refine Wp_cond rfl (fun hc1 => ?_) (fun hc1 => ?_)
    · have jhc1 := (r5check_c1_iff id).1 hc1
      refine Wp_seq fun K4 hK4 => ?_
      refine Wp_region (Las rfl rfl rfl rfl rfl (Ls_nil (Th_n (hK4 _ _ ?_))))
      refine Wp_ret (Th_r (Fq_ret (Res1 rfl rfl) ?_))
      have he1 : r5check_m id = 2 := by unfold r5check_m; rewrite [if_pos hc1]; rfl
      rewrite [he1]
      exact ⟨rfl, hF⟩
    have jhc1 := mt (r5check_c1_iff id).2 (bF hc1)
    have hc1 := bF hc1
    refine Wp_skip (Th_n (hK2 _ _ ?_))
    refine Wp_seq fun K5 hK5 => ?_
    refine Wp_region (Las rfl rfl rfl rfl rfl (Ls_nil (Th_n (hK5 _ _ ?_))))
    refine Wp_ret (Fq_ret (Res1 rfl rfl) ?_)
    have he2 : r5check_m id = 0 := by unfold r5check_m; rewrite [if_neg hc1]; rfl
    rewrite [he2]
    exact ⟨rfl, hF⟩
  refine Wp_region (Ls_y (wtd0 rfl) rfl rfl (y_fld rfl rfl Ty.fo_41_0) (Ls_y (wtd0 rfl) rfl rfl (y_load (i := 0) rfl rfl Ty.pl_3 (fun _ e => e ▸ st.hp) rfl rfl) ?_))
  refine Ls_y (wtd0 rfl) rfl rfl (y_lt rfl rfl rfl) (Lmv rfl rfl rfl rfl rfl (Ls_bool 6 rfl (fun hc2 => ?_) (fun hc2 => ?_)))
  · have hc2 := dT hc2
    refine Ls_s (wtdF rfl rfl rfl) rfl rfl (Ls_s (wtdF rfl rfl rfl) rfl rfl (Ls_s (wtdF rfl rfl rfl) rfl rfl (Ls_y (wtd0 rfl) rfl rfl (y_pick_t rfl rfl rfl) (Lmv rfl rfl rfl rfl rfl (Ls_s (wtdF rfl rfl rfl) rfl rfl (Ls_s (wtdF rfl rfl rfl) rfl rfl (Ls_s (wtdF rfl rfl rfl) rfl rfl (Ls_y (wtd0 rfl) rfl rfl (y_pick_t rfl rfl rfl) (Lmv rfl rfl rfl rfl rfl (Ls_s (wtdF rfl rfl rfl) rfl rfl (Ls_s (wtdF rfl rfl rfl) rfl rfl (Ls_s (wtdF rfl rfl rfl) rfl rfl (Ls_y (wtd0 rfl) rfl rfl (y_pick_t rfl rfl rfl) (Ls_nil (Th_n (?_))))))))))))))))
    have hcj1 : r5check_c1 id = true := by unfold r5check_c1; rewrite [if_pos hc2]; rfl
    exact hout1 _ [(20, _)] _ ⟨rfl, trivial⟩ ⟨by rw [hcj1], (st.picks [0] (by decide)).pickK [], hF⟩
  have hc2 := dF hc2
  refine Ls_y (wtdT rfl rfl rfl) rfl rfl (y_fld rfl rfl Ty.fo_41_0) (Ls_y (wtdT rfl rfl rfl) rfl rfl (y_load (i := 0) rfl rfl Ty.pl_3 (fun _ e => e ▸ st.hp) rfl rfl) ?_)
  refine Ls_y (wtdT rfl rfl rfl) rfl rfl (y_gt rfl rfl rfl) (Ls_y (wtd0 rfl) rfl rfl (y_pick_f rfl rfl rfl) (Lmv rfl rfl rfl rfl rfl (Ls_bool 11 rfl (fun hc3 => ?_) (fun hc3 => ?_))))
  · have hc3 := dT hc3
    refine Ls_s (wtdF rfl rfl rfl) rfl rfl (Ls_s (wtdF rfl rfl rfl) rfl rfl (Ls_s (wtdF rfl rfl rfl) rfl rfl (Ls_y (wtd0 rfl) rfl rfl (y_pick_t rfl rfl rfl) (Lmv rfl rfl rfl rfl rfl (Ls_s (wtdF rfl rfl rfl) rfl rfl (Ls_s (wtdF rfl rfl rfl) rfl rfl (Ls_s (wtdF rfl rfl rfl) rfl rfl (Ls_y (wtd0 rfl) rfl rfl (y_pick_t rfl rfl rfl) (Ls_nil (Th_n (?_)))))))))))
    have hcj2 : r5check_c1 id = true := by unfold r5check_c1; rewrite [if_neg hc2, if_pos hc3]; rfl
    exact hout1 _ [(20, _)] _ ⟨rfl, trivial⟩ ⟨by rw [hcj2], (st.picks [0] (by decide)).pickK [], hF⟩
  have hc3 := dF hc3
  refine Ls_y (wtdT rfl rfl rfl) rfl rfl (y_fld rfl rfl Ty.fo_41_1) (Ls_y (wtdT rfl rfl rfl) rfl rfl (y_load (i := 0) rfl rfl Ty.pl_22 (fun _ e => e ▸ st.hp) rfl rfl) ?_)
  refine Ls_y (wtdT rfl rfl rfl) rfl rfl (y_lt rfl rfl rfl) (Ls_y (wtd0 rfl) rfl rfl (y_pick_f rfl rfl rfl) (Lmv rfl rfl rfl rfl rfl (Ls_bool 16 rfl (fun hc4 => ?_) (fun hc4 => ?_))))
  · have hc4 := dT hc4
    refine Ls_s (wtdF rfl rfl rfl) rfl rfl (Ls_s (wtdF rfl rfl rfl) rfl rfl (Ls_s (wtdF rfl rfl rfl) rfl rfl (Ls_y (wtd0 rfl) rfl rfl (y_pick_t rfl rfl rfl) (Ls_nil (Th_n (?_))))))
    have hcj3 : r5check_c1 id = true := by unfold r5check_c1; rewrite [if_neg hc2, if_neg hc3, if_pos hc4]; rfl
    exact hout1 _ [(20, _)] _ ⟨rfl, trivial⟩ ⟨by rw [hcj3], (st.picks [0] (by decide)).pickK [], hF⟩
  have hc4 := dF hc4
  refine Ls_y (wtdT rfl rfl rfl) rfl rfl (y_fld rfl rfl Ty.fo_41_1) (Ls_y (wtdT rfl rfl rfl) rfl rfl (y_load (i := 0) rfl rfl Ty.pl_22 (fun _ e => e ▸ st.hp) rfl rfl) ?_)
  refine Ls_y (wtdT rfl rfl rfl) rfl rfl (y_gt rfl rfl rfl) (Ls_y (wtd0 rfl) rfl rfl (y_pick_f rfl rfl rfl) (Ls_nil (Th_n (?_))))
  have hcj4 : r5check_c1 id = (decide (1048576 < id.seq)) := by unfold r5check_c1; rewrite [if_neg hc2, if_neg hc3, if_neg hc4]; rfl
  exact hout1 _ [(20, _)] _ ⟨rfl, trivial⟩ ⟨by rw [hcj4], (st.picks [0] (by decide)).pickK [], hF⟩

def r5order_m (a : Int) (b : Int) : Int :=
  if a < b then
    (-1)
  else
    if b < a then
      1
    else
      0


set_option maxRecDepth 20000 in
theorem r5order_ok (w : World) (a : Int) (b : Int) :
    Fn Try.prog 88 [.int .i64 a, .int .i64 b] w fun v w' => v = .int .i64 (r5order_m a b) ∧ Fr [] w w' := by
  refine Fn_of 13 Ty.en_88 Try.func88 rfl rfl rfl ?_
  dsimp only [argEnv]
  have st : St [] w [] [] := St.nil (X := []) (w := w) (by simp [Lo])
  have hF := Fr.refl ([]) w
  refine Wp_seq fun K1 hK1 => ?_
  refine Wp_region (Las rfl rfl rfl rfl rfl (Ls_nil (Th_n (hK1 _ _ ?_))))
  refine Wp_seq fun K2 hK2 => ?_
  refine Wp_block (Wp_seq fun K3 hK3 => ?_)
  refine Wp_region (Lmv rfl rfl rfl rfl rfl (Lmv rfl rfl rfl rfl rfl (Ls_y (wtd0 rfl) rfl rfl (y_lt rfl rfl rfl) (Las rfl rfl rfl rfl rfl (Ls_nil (Th_n (hK3 _ _ ?_)))))))
  refine Wp_cond rfl (fun hc1 => ?_) (fun hc1 => ?_)
  · have hc1 := dT hc1
    refine Wp_seq fun K4 hK4 => ?_
    refine Wp_region (Las rfl rfl rfl rfl rfl (Ls_nil (Th_n (hK4 _ _ ?_))))
    refine Wp_ret (Ib_r (Th_r (Fq_ret (Res1 rfl rfl) ?_)))
    have he1 : r5order_m a b = (-1) := by unfold r5order_m; rewrite [if_pos hc1]; rfl
    rewrite [he1]
    exact ⟨rfl, hF⟩
  have hc1 := dF hc1
  refine Wp_seq fun K5 hK5 => ?_
  refine Wp_region (Lmv rfl rfl rfl rfl rfl (Lmv rfl rfl rfl rfl rfl (Ls_y (wtd0 rfl) rfl rfl (y_gt rfl rfl rfl) (Las rfl rfl rfl rfl rfl (Ls_nil (Th_n (hK5 _ _ ?_)))))))
  refine Wp_cond rfl (fun hc2 => ?_) (fun hc2 => ?_)
  · have hc2 := dT hc2
    refine Wp_seq fun K6 hK6 => ?_
    refine Wp_region (Las rfl rfl rfl rfl rfl (Ls_nil (Th_n (hK6 _ _ ?_))))
    refine Wp_ret (Ib_r (Th_r (Fq_ret (Res1 rfl rfl) ?_)))
    have he2 : r5order_m a b = 1 := by unfold r5order_m; rewrite [if_neg hc1, if_pos hc2]; rfl
    rewrite [he2]
    exact ⟨rfl, hF⟩
  have hc2 := dF hc2
  refine Wp_skip (Ib_n (Th_n (hK2 _ _ ?_)))
  refine Wp_seq fun K7 hK7 => ?_
  refine Wp_region (Las rfl rfl rfl rfl rfl (Ls_nil (Th_n (hK7 _ _ ?_))))
  refine Wp_ret (Fq_ret (Res1 rfl rfl) ?_)
  have he3 : r5order_m a b = 0 := by unfold r5order_m; rewrite [if_neg hc1, if_neg hc2]; rfl
  rewrite [he3]
  exact ⟨rfl, hF⟩

def r5compare_m (a : IdM) (b : IdM) : Int :=
  if a.origin = b.origin then
    r5order_m (IntKind.i64.wrap a.seq) (IntKind.i64.wrap b.seq)
  else
    r5order_m a.origin b.origin


set_option maxRecDepth 20000 in
theorem r5compare_ok (w : World) (a : IdM) (b : IdM) :
    Fn Try.prog 87 [.agg (idMC a).toArray, .agg (idMC b).toArray] w fun v w' => v = .int .i64 (r5compare_m a b) ∧ Fr [] w w' := by
  refine Fn_of 22 Ty.en_87 Try.func87 rfl rfl rfl ?_
  dsimp only [argEnv]
  have st : St [] w [] [] := St.nil (X := []) (w := w) (by simp [Lo])
  have hF := Fr.refl ([]) w
  refine Wp_seq fun K1 hK1 => ?_
  refine Wp_region (Ls_a (wtd0 rfl) ?_)
  refine a_box rfl rfl rfl rfl st.hp (fun g1 w1 (hp : Hp w1 [(_, Cl [_, _] _)]) hf hg1 => ?_)
  have st : St [] w1 [(_, Cl [_, _] _)] [] := st.push hp hf hg1
  have hg1 := Nat.le_trans hF.size hg1
  have hF := hF.step0 hf
  refine Ls_a (wtd0 rfl) ?_
  refine a_box rfl rfl rfl rfl st.hp (fun g2 w2 (hp : Hp w2 [(_, Cl [_, _] _), (_, Cl [_, _] _)]) hf hg2 => ?_)
  have st : St [] w2 [(_, Cl [_, _] _), (_, Cl [_, _] _)] [] := st.push hp hf hg2
  have hg2 := Nat.le_trans hF.size hg2
  have hF := hF.step0 hf
  refine Las rfl rfl rfl rfl rfl (Ls_nil (Th_n (hK1 _ _ ?_)))
  refine Wp_seq fun K2 hK2 => ?_
  refine Wp_seq fun K3 hK3 => ?_
  refine Wp_region (Ls_y (wtd0 rfl) rfl rfl (y_fld rfl rfl Ty.fo_41_0) (Ls_y (wtd0 rfl) rfl rfl (y_load (i := 0) rfl rfl Ty.pl_3 (fun _ e => e ▸ st.hp) rfl rfl) ?_))
  refine Ls_y (wtd0 rfl) rfl rfl (y_fld rfl rfl Ty.fo_41_0) (Ls_y (wtd0 rfl) rfl rfl (y_load (i := 1) rfl rfl Ty.pl_3 (fun _ e => e ▸ st.hp) rfl rfl) ?_)
  refine Ls_y (wtd0 rfl) rfl rfl (y_ne rfl rfl rfl) (Ls_nil (Th_n (hK3 _ _ ?_)))
  refine Wp_cond rfl (fun hc1 => ?_) (fun hc1 => ?_)
  · have hc1 := neT hc1
    refine Wp_seq fun K4 hK4 => ?_
    refine Wp_region (Ls_y (wtd0 rfl) rfl rfl (y_fld rfl rfl Ty.fo_41_0) (Ls_y (wtd0 rfl) rfl rfl (y_load (i := 0) rfl rfl Ty.pl_3 (fun _ e => e ▸ st.hp) rfl rfl) ?_))
    refine Ls_y (wtd0 rfl) rfl rfl (y_fld rfl rfl Ty.fo_41_0) (Ls_y (wtd0 rfl) rfl rfl (y_load (i := 1) rfl rfl Ty.pl_3 (fun _ e => e ▸ st.hp) rfl rfl) ?_)
    refine Ls_a (wtd0 rfl) ?_
    refine a_call rfl rfl rfl rfl (r5order_ok _ a.origin b.origin) (fun v w3 ⟨hv, hf⟩ => ?_)
    subst hv
    have st := st.keep0 hf
    have hF := hF.step0 hf
    have st : St [] w3 [(_, Cl [_, _] _), (_, Cl [_, _] _)] [] := st
    refine Las rfl rfl rfl rfl rfl (Ls_nil (Th_n (hK4 _ _ ?_)))
    refine Wp_ret (Th_r (Fq_ret (Res1 rfl rfl) ?_))
    have he1 : r5compare_m a b = (r5order_m a.origin b.origin) := by unfold r5compare_m; rewrite [if_neg hc1]; rfl
    rewrite [he1]
    exact ⟨rfl, hF⟩
  have hc1 := neF hc1
  refine Wp_skip (Th_n (hK2 _ _ ?_))
  refine Wp_seq fun K5 hK5 => ?_
  refine Wp_region (Ls_y (wtd0 rfl) rfl rfl (y_fld rfl rfl Ty.fo_41_1) (Ls_y (wtd0 rfl) rfl rfl (y_load (i := 0) rfl rfl Ty.pl_22 (fun _ e => e ▸ st.hp) rfl rfl) ?_))
  refine Ls_y (wtd0 rfl) rfl rfl (y_cvi (c := IntKind.i64.wrap a.seq) rfl rfl Try.underlying22 Try.underlying3 rfl) ?_
  refine Ls_y (wtd0 rfl) rfl rfl (y_fld rfl rfl Ty.fo_41_1) (Ls_y (wtd0 rfl) rfl rfl (y_load (i := 1) rfl rfl Ty.pl_22 (fun _ e => e ▸ st.hp) rfl rfl) ?_)
  refine Ls_y (wtd0 rfl) rfl rfl (y_cvi (c := IntKind.i64.wrap b.seq) rfl rfl Try.underlying22 Try.underlying3 rfl) ?_
  refine Ls_a (wtd0 rfl) ?_
  refine a_call rfl rfl rfl rfl (r5order_ok _ (IntKind.i64.wrap a.seq) (IntKind.i64.wrap b.seq)) (fun v w4 ⟨hv, hf⟩ => ?_)
  subst hv
  have st := st.keep0 hf
  have hF := hF.step0 hf
  have st : St [] w4 [(_, Cl [_, _] _), (_, Cl [_, _] _)] [] := st
  refine Las rfl rfl rfl rfl rfl (Ls_nil (Th_n (hK5 _ _ ?_)))
  refine Wp_ret (Fq_ret (Res1 rfl rfl) ?_)
  have he2 : r5compare_m a b = (r5order_m (IntKind.i64.wrap a.seq) (IntKind.i64.wrap b.seq)) := by unfold r5compare_m; rewrite [if_pos hc1]; rfl
  rewrite [he2]
  exact ⟨rfl, hF⟩

structure TagM where
  id : IdM
  n : Int
instance : Inhabited TagM := ⟨⟨default, default⟩⟩
instance : DecidableEq TagM := fun a b => decidable_of_iff (a.id = b.id ∧ a.n = b.n) (by cases a; cases b; simp)
def tagMC (x : TagM) : List Value := [.int .i64 x.id.origin, .int .u32 x.id.seq, .int .i64 x.n]
theorem tagMC_len (x : TagM) : (tagMC x).length = 3 := rfl
def r5checkTag_c1 (t : TagM) : Bool :=
  (if (r5check_m t.id) = 0 then (if t.n < 0 then true else decide (15 < t.n)) else true)
def r5checkTag_m (t : TagM) : Int :=
  if (r5checkTag_c1 t) = true then
    2
  else
    0

theorem r5checkTag_c1_iff (t : TagM) : (r5checkTag_c1 t = true) ↔ (¬ ((r5check_m t.id) = 0) ∨ ((t.n < 0) ∨ (15 < t.n))) := by
  unfold r5checkTag_c1; exact (ci4 (ci1 decide_eq_true_iff))

set_option maxRecDepth 20000 in
theorem r5checkTag_ok (w : World) (t : TagM) :
    Fn Try.prog 29 [.agg (tagMC t).toArray] w fun v w' => v = .int .i64 (r5checkTag_m t) ∧ Fr [] w w' := by
  refine Fn_of 17 Ty.en_29 Try.func29 rfl rfl rfl ?_
  dsimp only [argEnv]
  have st : St [] w [] [] := St.nil (X := []) (w := w) (by simp [Lo])
  have hF := Fr.refl ([]) w
  refine Wp_seq fun K1 hK1 => ?_
  refine Wp_region (Ls_a (wtd0 rfl) ?_)
  refine a_box rfl rfl rfl rfl st.hp (fun g1 w1 (hp : Hp w1 [(_, Cl [_, _, _] _)]) hf hg1 => ?_)
  have st : St [] w1 [(_, Cl [_, _, _] _)] [] := st.push hp hf hg1
  have hg1 := Nat.le_trans hF.size hg1
  have hF := hF.step0 hf
  refine Las rfl rfl rfl rfl rfl (Ls_nil (Th_n (hK1 _ _ ?_)))
  refine Wp_seq fun K2 hK2 => ?_
  refine Wp_seq fun K3 hK3 => ?_
  refine use_out hK3 (fun E W => E = [(16, .bool (r5checkTag_c1 t))] ∧ St [] W (hOf st) (kOf st) ∧ Fr ([]) w W) ?_ fun hout1 => ?_
  · rintro E w2 ⟨rfl, st, hF⟩
    have st : St [] w2 [(_, Cl [_, _, _] _)] [] := st
    refine Wp_cond rfl (fun hc1 => ?_) (fun hc1 => ?_)
    · have jhc1 := (r5checkTag_c1_iff t).1 hc1
      refine Wp_seq fun K4 hK4 => ?_
      refine Wp_region (Las rfl rfl rfl rfl rfl (Ls_nil (Th_n (hK4 _ _ ?_))))
      refine Wp_ret (Th_r (Fq_ret (Res1 rfl rfl) ?_))
      have he1 : r5checkTag_m t = 2 := by unfold r5checkTag_m; rewrite [if_pos hc1]; rfl
      rewrite [he1]
      exact ⟨rfl, hF⟩
    have jhc1 := mt (r5checkTag_c1_iff t).2 (bF hc1)
    have hc1 := bF hc1
    refine Wp_skip (Th_n (hK2 _ _ ?_))
    refine Wp_seq fun K5 hK5 => ?_
    refine Wp_region (Las rfl rfl rfl rfl rfl (Ls_nil (Th_n (hK5 _ _ ?_))))
    refine Wp_ret (Fq_ret (Res1 rfl rfl) ?_)
    have he2 : r5checkTag_m t = 0 := by unfold r5checkTag_m; rewrite [if_neg hc1]; rfl
    rewrite [he2]
    exact ⟨rfl, hF⟩
  refine Wp_region (Ls_y (wtd0 rfl) rfl rfl (y_fld rfl rfl Ty.fo_43_0) (Ls_y (wtd0 rfl) rfl rfl (y_loadm (i := 0) rfl rfl Ty.ag_41 (fun _ e => e ▸ st.hp) rfl rfl rfl) ?_))
  refine Ls_a (wtd0 rfl) ?_
  refine a_call rfl rfl rfl rfl (r5check_ok _ t.id) (fun v w3 ⟨hv, hf⟩ => ?_)
  subst hv
  have st := st.keep0 hf
  have hF := hF.step0 hf
  have st : St [] w3 [(_, Cl [_, _, _] _)] [] := st
  refine Ls_y (wtd0 rfl) rfl rfl (y_ne rfl rfl rfl) (Lmv rfl rfl rfl rfl rfl (Ls_bool 7 rfl (fun hc2 => ?_) (fun hc2 => ?_)))
  · have hc2 := neT hc2
    refine Ls_s (wtdF rfl rfl rfl) rfl rfl (Ls_s (wtdF rfl rfl rfl) rfl rfl (Ls_s (wtdF rfl rfl rfl) rfl rfl (Ls_y (wtd0 rfl) rfl rfl (y_pick_t rfl rfl rfl) (Lmv rfl rfl rfl rfl rfl (Ls_s (wtdF rfl rfl rfl) rfl rfl (Ls_s (wtdF rfl rfl rfl) rfl rfl (Ls_s (wtdF rfl rfl rfl) rfl rfl (Ls_y (wtd0 rfl) rfl rfl (y_pick_t rfl rfl rfl) (Ls_nil (Th_n (?_)))))))))))
    have hcj1 : r5checkTag_c1 t = true := by unfold r5checkTag_c1; rewrite [if_neg hc2]; rfl
    exact hout1 _ [(16, _)] _ ⟨rfl, trivial⟩ ⟨by rw [hcj1], (st.picks [0] (by decide)).pickK [], hF⟩
  have hc2 := neF hc2
  refine Ls_y (wtdT rfl rfl rfl) rfl rfl (y_fld rfl rfl Ty.fo_43_1) (Ls_y (wtdT rfl rfl rfl) rfl rfl (y_load (i := 0) rfl rfl Ty.pl_3 (fun _ e => e ▸ st.hp) rfl rfl) ?_)
  refine Ls_y (wtdT rfl rfl rfl) rfl rfl (y_lt rfl rfl rfl) (Ls_y (wtd0 rfl) rfl rfl (y_pick_f rfl rfl rfl) (Lmv rfl rfl rfl rfl rfl (Ls_bool 12 rfl (fun hc3 => ?_) (fun hc3 => ?_))))
  · have hc3 := dT hc3
    refine Ls_s (wtdF rfl rfl rfl) rfl rfl (Ls_s (wtdF rfl rfl rfl) rfl rfl (Ls_s (wtdF rfl rfl rfl) rfl rfl (Ls_y (wtd0 rfl) rfl rfl (y_pick_t rfl rfl rfl) (Ls_nil (Th_n (?_))))))
    have hcj2 : r5checkTag_c1 t = true := by unfold r5checkTag_c1; rewrite [if_pos hc2, if_pos hc3]; rfl
    exact hout1 _ [(16, _)] _ ⟨rfl, trivial⟩ ⟨by rw [hcj2], (st.picks [0] (by decide)).pickK [], hF⟩
  have hc3 := dF hc3
  refine Ls_y (wtdT rfl rfl rfl) rfl rfl (y_fld rfl rfl Ty.fo_43_1) (Ls_y (wtdT rfl rfl rfl) rfl rfl (y_load (i := 0) rfl rfl Ty.pl_3 (fun _ e => e ▸ st.hp) rfl rfl) ?_)
  refine Ls_y (wtdT rfl rfl rfl) rfl rfl (y_gt rfl rfl rfl) (Ls_y (wtd0 rfl) rfl rfl (y_pick_f rfl rfl rfl) (Ls_nil (Th_n (?_))))
  have hcj3 : r5checkTag_c1 t = (decide (15 < t.n)) := by unfold r5checkTag_c1; rewrite [if_pos hc2, if_neg hc3]; rfl
  exact hout1 _ [(16, _)] _ ⟨rfl, trivial⟩ ⟨by rw [hcj3], (st.picks [0] (by decide)).pickK [], hF⟩

theorem eqv_41r (a0 : Int) (a1 : Int) (b0 : Int) (b1 : Int) : eqVals Try.prog 8 41 [.int .i64 a0, .int .u32 a1] [.int .i64 b0, .int .u32 b1] = some ((a0 == b0) && ((a1 == b1) && true)) := by kernel_rfl
theorem eqv_41 (x y : IdM) : eqVals Try.prog 8 41 (idMC x) (idMC y) = some (decide (x = y)) := by
  obtain ⟨a0, a1⟩ := x
  obtain ⟨b0, b1⟩ := y
  refine (eqv_41r a0 a1 b0 b1).trans (congrArg some ?_)
  rw [Bool.eq_iff_iff]
  simp
def r5compareTag_m (a : TagM) (b : TagM) : Int :=
  if a.id = b.id then
    r5order_m a.n b.n
  else
    r5compare_m a.id b.id


set_option maxRecDepth 20000 in
theorem r5compareTag_ok (w : World) (a : TagM) (b : TagM) :
    Fn Try.prog 75 [.agg (tagMC a).toArray, .agg (tagMC b).toArray] w fun v w' => v = .int .i64 (r5compareTag_m a b) ∧ Fr [] w w' := by
  refine Fn_of 20 Ty.en_75 Try.func75 rfl rfl rfl ?_
  dsimp only [argEnv]
  have st : St [] w [] [] := St.nil (X := []) (w := w) (by simp [Lo])
  have hF := Fr.refl ([]) w
  refine Wp_seq fun K1 hK1 => ?_
  refine Wp_region (Ls_a (wtd0 rfl) ?_)
  refine a_box rfl rfl rfl rfl st.hp (fun g1 w1 (hp : Hp w1 [(_, Cl [_, _, _] _)]) hf hg1 => ?_)
  have st : St [] w1 [(_, Cl [_, _, _] _)] [] := st.push hp hf hg1
  have hg1 := Nat.le_trans hF.size hg1
  have hF := hF.step0 hf
  refine Ls_a (wtd0 rfl) ?_
  refine a_box rfl rfl rfl rfl st.hp (fun g2 w2 (hp : Hp w2 [(_, Cl [_, _, _] _), (_, Cl [_, _, _] _)]) hf hg2 => ?_)
  have st : St [] w2 [(_, Cl [_, _, _] _), (_, Cl [_, _, _] _)] [] := st.push hp hf hg2
  have hg2 := Nat.le_trans hF.size hg2
  have hF := hF.step0 hf
  refine Las rfl rfl rfl rfl rfl (Ls_nil (Th_n (hK1 _ _ ?_)))
  refine Wp_seq fun K2 hK2 => ?_
  refine Wp_seq fun K3 hK3 => ?_
  refine Wp_region (Ls_y (wtd0 rfl) rfl rfl (y_fld rfl rfl Ty.fo_43_0) (Ls_y (wtd0 rfl) rfl rfl (y_loadm (i := 0) rfl rfl Ty.ag_41 (fun _ e => e ▸ st.hp) rfl rfl rfl) ?_))
  refine Ls_y (wtd0 rfl) rfl rfl (y_fld rfl rfl Ty.fo_43_0) (Ls_y (wtd0 rfl) rfl rfl (y_loadm (i := 1) rfl rfl Ty.ag_41 (fun _ e => e ▸ st.hp) rfl rfl rfl) ?_)
  refine Ls_y (wtd0 rfl) rfl rfl (y_nev (b := decide (a.id = b.id)) rfl rfl rfl Ty.eg_41 (by rw [Ty.ag_41]; simp) (eqv_41 a.id b.id)) ?_
  refine Ls_nil (Th_n (hK3 _ _ ?_))
  refine Wp_cond rfl (fun hc1 => ?_) (fun hc1 => ?_)
  · have hc1 := dF (nT hc1)
    refine Wp_seq fun K4 hK4 => ?_
    refine Wp_region (Ls_y (wtd0 rfl) rfl rfl (y_fld rfl rfl Ty.fo_43_0) (Ls_y (wtd0 rfl) rfl rfl (y_loadm (i := 0) rfl rfl Ty.ag_41 (fun _ e => e ▸ st.hp) rfl rfl rfl) ?_))
    refine Ls_y (wtd0 rfl) rfl rfl (y_fld rfl rfl Ty.fo_43_0) (Ls_y (wtd0 rfl) rfl rfl (y_loadm (i := 1) rfl rfl Ty.ag_41 (fun _ e => e ▸ st.hp) rfl rfl rfl) ?_)
    refine Ls_a (wtd0 rfl) ?_
    refine a_call rfl rfl rfl rfl (r5compare_ok _ a.id b.id) (fun v w3 ⟨hv, hf⟩ => ?_)
    subst hv
    have st := st.keep0 hf
    have hF := hF.step0 hf
    have st : St [] w3 [(_, Cl [_, _, _] _), (_, Cl [_, _, _] _)] [] := st
    refine Las rfl rfl rfl rfl rfl (Ls_nil (Th_n (hK4 _ _ ?_)))
    refine Wp_ret (Th_r (Fq_ret (Res1 rfl rfl) ?_))
    have he1 : r5compareTag_m a b = (r5compare_m a.id b.id) := by unfold r5compareTag_m; rewrite [if_neg hc1]; rfl
    rewrite [he1]
    exact ⟨rfl, hF⟩
  have hc1 := dT (nF hc1)
  refine Wp_skip (Th_n (hK2 _ _ ?_))
  refine Wp_seq fun K5 hK5 => ?_
  refine Wp_region (Ls_y (wtd0 rfl) rfl rfl (y_fld rfl rfl Ty.fo_43_1) (Ls_y (wtd0 rfl) rfl rfl (y_load (i := 0) rfl rfl Ty.pl_3 (fun _ e => e ▸ st.hp) rfl rfl) ?_))
  refine Ls_y (wtd0 rfl) rfl rfl (y_fld rfl rfl Ty.fo_43_1) (Ls_y (wtd0 rfl) rfl rfl (y_load (i := 1) rfl rfl Ty.pl_3 (fun _ e => e ▸ st.hp) rfl rfl) ?_)
  refine Ls_a (wtd0 rfl) ?_
  refine a_call rfl rfl rfl rfl (r5order_ok _ a.n b.n) (fun v w4 ⟨hv, hf⟩ => ?_)
  subst hv
  have st := st.keep0 hf
  have hF := hF.step0 hf
  have st : St [] w4 [(_, Cl [_, _, _] _), (_, Cl [_, _, _] _)] [] := st
  refine Las rfl rfl rfl rfl rfl (Ls_nil (Th_n (hK5 _ _ ?_)))
  refine Wp_ret (Fq_ret (Res1 rfl rfl) ?_)
  have he2 : r5compareTag_m a b = (r5order_m a.n b.n) := by unfold r5compareTag_m; rewrite [if_pos hc1]; rfl
  rewrite [he2]
  exact ⟨rfl, hF⟩

structure StampM where
  time : Int
  origin : Int
instance : Inhabited StampM := ⟨⟨default, default⟩⟩
instance : DecidableEq StampM := fun a b => decidable_of_iff (a.time = b.time ∧ a.origin = b.origin) (by cases a; cases b; simp)
def stampMC (x : StampM) : List Value := [.int .u32 x.time, .int .i64 x.origin]
theorem stampMC_len (x : StampM) : (stampMC x).length = 2 := rfl
def r9check_c1 (s : StampM) : Bool :=
  (if 1048576 < s.time then true else (if s.origin < 0 then true else decide (7 < s.origin)))
def r9check_m (s : StampM) : Int :=
  if (r9check_c1 s) = true then
    2
  else
    0

theorem r9check_c1_iff (s : StampM) : (r9check_c1 s = true) ↔ ((1048576 < s.time) ∨ ((s.origin < 0) ∨ (7 < s.origin))) := by
  unfold r9check_c1; exact (ci1 (ci1 decide_eq_true_iff))

set_option maxRecDepth 20000 in
theorem r9check_ok (w : World) (s : StampM) :
    Fn Try.prog 30 [.agg (stampMC s).toArray] w fun v w' => v = .int .i64 (r9check_m s) ∧ Fr [] w w' := by
  refine Fn_of 16 Ty.en_30 Try.func30 rfl rfl rfl ?_
  dsimp only [argEnv]
  have st : St [] w [] [] := St.nil (X := []) (w := w) (by simp [Lo])
  have hF := Fr.refl ([]) w
  refine Wp_seq fun K1 hK1 => ?_
  refine Wp_region (Ls_a (wtd0 rfl) ?_)
  refine a_box rfl rfl rfl rfl st.hp (fun g1 w1 (hp : Hp w1 [(_, Cl [_, _] _)]) hf hg1 => ?_)
  have st : St [] w1 [(_, Cl [_, _] _)] [] := st.push hp hf hg1
  have hg1 := Nat.le_trans hF.size hg1
  have hF := hF.step0 hf
  refine Las rfl rfl rfl rfl rfl (Ls_nil (Th_n (hK1 _ _ ?_)))
  refine Wp_seq fun K2 hK2 => ?_
  refine Wp_seq fun K3 hK3 => ?_
  refine use_out hK3 (fun E W => E = [(15, .bool (r9check_c1 s))] ∧ St [] W (hOf st) (kOf st) ∧ Fr ([]) w W) ?_ fun hout1 => ?_
  · rintro E w2 ⟨rfl, st, hF⟩
    have st : St [] w2 [(_, Cl [_, _] _)] [] := st
    refine Wp_cond rfl (fun hc1 => ?_) (fun hc1 => ?_)
    · have jhc1 := (r9check_c1_iff s).1 hc1
      refine Wp_seq fun K4 hK4 => ?_
      refine Wp_region (Las rfl rfl rfl rfl rfl (Ls_nil (Th_n (hK4 _ _ ?_))))
      refine Wp_ret (Th_r (Fq_ret (Res1 rfl rfl) ?_))
      have he1 : r9check_m s = 2 := by unfold r9check_m; rewrite [if_pos hc1]; rfl
      rewrite [he1]
      exact ⟨rfl, hF⟩
    have jhc1 := mt (r9check_c1_iff s).2 (bF hc1)
    have hc1 := bF hc1
    refine Wp_skip (Th_n (hK2 _ _ ?_))
    refine Wp_seq fun K5 hK5 => ?_
    refine Wp_region (Las rfl rfl rfl rfl rfl (Ls_nil (Th_n (hK5 _ _ ?_))))
    refine Wp_ret (Fq_ret (Res1 rfl rfl) ?_)
    have he2 : r9check_m s = 0 := by unfold r9check_m; rewrite [if_neg hc1]; rfl
    rewrite [he2]
    exact ⟨rfl, hF⟩
  refine Wp_region (Ls_y (wtd0 rfl) rfl rfl (y_fld rfl rfl Ty.fo_24_0) (Ls_y (wtd0 rfl) rfl rfl (y_load (i := 0) rfl rfl Ty.pl_22 (fun _ e => e ▸ st.hp) rfl rfl) ?_))
  refine Ls_y (wtd0 rfl) rfl rfl (y_gt rfl rfl rfl) (Lmv rfl rfl rfl rfl rfl (Ls_bool 6 rfl (fun hc2 => ?_) (fun hc2 => ?_)))
  · have hc2 := dT hc2
    refine Ls_s (wtdF rfl rfl rfl) rfl rfl (Ls_s (wtdF rfl rfl rfl) rfl rfl (Ls_s (wtdF rfl rfl rfl) rfl rfl (Ls_y (wtd0 rfl) rfl rfl (y_pick_t rfl rfl rfl) (Lmv rfl rfl rfl rfl rfl (Ls_s (wtdF rfl rfl rfl) rfl rfl (Ls_s (wtdF rfl rfl rfl) rfl rfl (Ls_s (wtdF rfl rfl rfl) rfl rfl (Ls_y (wtd0 rfl) rfl rfl (y_pick_t rfl rfl rfl) (Ls_nil (Th_n (?_)))))))))))
    have hcj1 : r9check_c1 s = true := by unfold r9check_c1; rewrite [if_pos hc2]; rfl
    exact hout1 _ [(15, _)] _ ⟨rfl, trivial⟩ ⟨by rw [hcj1], (st.picks [0] (by decide)).pickK [], hF⟩
  have hc2 := dF hc2
  refine Ls_y (wtdT rfl rfl rfl) rfl rfl (y_fld rfl rfl Ty.fo_24_1) (Ls_y (wtdT rfl rfl rfl) rfl rfl (y_load (i := 0) rfl rfl Ty.pl_3 (fun _ e => e ▸ st.hp) rfl rfl) ?_)
  refine Ls_y (wtdT rfl rfl rfl) rfl rfl (y_lt rfl rfl rfl) (Ls_y (wtd0 rfl) rfl rfl (y_pick_f rfl rfl rfl) (Lmv rfl rfl rfl rfl rfl (Ls_bool 11 rfl (fun hc3 => ?_) (fun hc3 => ?_))))
  · have hc3 := dT hc3
    refine Ls_s (wtdF rfl rfl rfl) rfl rfl (Ls_s (wtdF rfl rfl rfl) rfl rfl (Ls_s (wtdF rfl rfl rfl) rfl rfl (Ls_y (wtd0 rfl) rfl rfl (y_pick_t rfl rfl rfl) (Ls_nil (Th_n (?_))))))
    have hcj2 : r9check_c1 s = true := by unfold r9check_c1; rewrite [if_neg hc2, if_pos hc3]; rfl
    exact hout1 _ [(15, _)] _ ⟨rfl, trivial⟩ ⟨by rw [hcj2], (st.picks [0] (by decide)).pickK [], hF⟩
  have hc3 := dF hc3
  refine Ls_y (wtdT rfl rfl rfl) rfl rfl (y_fld rfl rfl Ty.fo_24_1) (Ls_y (wtdT rfl rfl rfl) rfl rfl (y_load (i := 0) rfl rfl Ty.pl_3 (fun _ e => e ▸ st.hp) rfl rfl) ?_)
  refine Ls_y (wtdT rfl rfl rfl) rfl rfl (y_gt rfl rfl rfl) (Ls_y (wtd0 rfl) rfl rfl (y_pick_f rfl rfl rfl) (Ls_nil (Th_n (?_))))
  have hcj3 : r9check_c1 s = (decide (7 < s.origin)) := by unfold r9check_c1; rewrite [if_neg hc2, if_neg hc3]; rfl
  exact hout1 _ [(15, _)] _ ⟨rfl, trivial⟩ ⟨by rw [hcj3], (st.picks [0] (by decide)).pickK [], hF⟩

def r12elem_m (s : List UInt8) : Bool :=
  if 1 ≤ (s.length : Int) then
    decide ((s.length : Int) ≤ 12)
  else
    false


set_option maxRecDepth 20000 in
theorem r12elem_ok (w : World) (s : List UInt8) :
    Fn Try.prog 49 [sv s] w fun v w' => v = .bool (r12elem_m s) ∧ Fr [] w w' := by
  refine Fn_of 11 Ty.en_49 Try.func49 rfl rfl rfl ?_
  dsimp only [argEnv]
  have st : St [] w [] [] := St.nil (X := []) (w := w) (by simp [Lo])
  have hF := Fr.refl ([]) w
  refine Wp_seq fun K1 hK1 => ?_
  refine Wp_region (Las rfl rfl rfl rfl rfl (Ls_nil (Th_n (hK1 _ _ ?_))))
  refine Wp_seq fun K2 hK2 => ?_
  refine Wp_region (Lmv rfl rfl rfl rfl rfl (Ls_y (wtd0 rfl) rfl rfl (y_lens rfl rfl Try.underlying9) ?_))
  refine Ls_y (wtd0 rfl) rfl rfl (y_ge rfl rfl rfl) (Lmv rfl rfl rfl rfl rfl (Ls_bool 6 rfl (fun hc1 => ?_) (fun hc1 => ?_)))
  · have hc1 := dT hc1
    refine Ls_y (wtdT rfl rfl rfl) rfl rfl (y_move rfl rfl) (Ls_y (wtdT rfl rfl rfl) rfl rfl (y_lens rfl rfl Try.underlying9) ?_)
    refine Ls_y (wtdT rfl rfl rfl) rfl rfl (y_le rfl rfl rfl) (Ls_y (wtd0 rfl) rfl rfl (y_pick_t rfl rfl rfl) (Las rfl rfl rfl rfl rfl (Ls_nil (Th_n (hK2 _ _ ?_)))))
    refine Wp_ret (Fq_ret (Res1 rfl rfl) ?_)
    have he1 : r12elem_m s = (decide ((s.length : Int) ≤ 12)) := by unfold r12elem_m; rewrite [if_pos hc1]; rfl
    rewrite [he1]
    exact ⟨rfl, hF⟩
  have hc1 := dF hc1
  refine Ls_s (wtdF rfl rfl rfl) rfl rfl (Ls_s (wtdF rfl rfl rfl) rfl rfl (Ls_s (wtdF rfl rfl rfl) rfl rfl (Ls_y (wtd0 rfl) rfl rfl (y_pick_f rfl rfl rfl) (Las rfl rfl rfl rfl rfl (Ls_nil (Th_n (hK2 _ _ ?_)))))))
  refine Wp_ret (Fq_ret (Res1 rfl rfl) ?_)
  have he2 : r12elem_m s = false := by unfold r12elem_m; rewrite [if_neg hc1]; rfl
  rewrite [he2]
  exact ⟨rfl, hF⟩

theorem eqv_43r (a0 : Int) (a1 : Int) (a2 : Int) (b0 : Int) (b1 : Int) (b2 : Int) : eqVals Try.prog 8 43 [.int .i64 a0, .int .u32 a1, .int .i64 a2] [.int .i64 b0, .int .u32 b1, .int .i64 b2] = some (((a0 == b0) && ((a1 == b1) && true)) && ((a2 == b2) && true)) := by kernel_rfl
theorem eqv_43 (x y : TagM) : eqVals Try.prog 8 43 (tagMC x) (tagMC y) = some (decide (x = y)) := by
  obtain ⟨⟨a0, a1⟩, a2⟩ := x
  obtain ⟨⟨b0, b1⟩, b2⟩ := y
  refine (eqv_43r a0 a1 a2 b0 b1 b2).trans (congrArg some ?_)
  rw [Bool.eq_iff_iff]
  simp
def r12hasTag_L1 (l : List TagM) (t : TagM) : Nat → Int → (Bool) ⊕ (Int)
  | 0, s5 => .inr (s5)
  | fuel + 1, s5 =>
    if s5 < (l.length : Int) then
      if ix l s5 = t then
        .inl true
      else
        r12hasTag_L1 l t fuel (s5 + 1)
    else
      .inr (s5)
def r12hasTag_m (l : List TagM) (t : TagM) : Bool :=
  match r12hasTag_L1 l t (((l.length : Int) - (0 : Int)).toNat + 1) (0 : Int) with
  | .inl r => r
  | .inr (s5) =>
    false


set_option maxRecDepth 20000 in
theorem r12hasTag_ok (X : List Nat) (w : World) (hX : Lo X w) (l : List TagM) (A_l : Option Addr) (c_l : Nat) (t : TagM) (h_l : Sld X w A_l l.length c_l 3 (l.flatMap tagMC)) :
    Fn Try.prog 73 [.slice A_l l.length c_l, .agg (tagMC t).toArray] w fun v w' => v = .bool (r12hasTag_m l t) ∧ Fr [] w w' := by
  refine Fn_of 18 Ty.en_73 Try.func73 rfl rfl rfl ?_
  dsimp only [argEnv]
  have st : St X w [] [kS A_l l.length c_l 3 (l.flatMap tagMC)] := (St.nil (X := X) (w := w) hX).addK (kS A_l l.length c_l 3 (l.flatMap tagMC)) h_l
  have hF := Fr.refl ([]) w
  have hleA_l := (st.k (i := 0) rfl).le
  refine Wp_seq fun K1 hK1 => ?_
  refine Wp_region (Ls_a (wtd0 rfl) ?_)
  refine a_box rfl rfl rfl rfl st.hp (fun g1 w1 (hp : Hp w1 [(_, Cl [_, _, _] _)]) hf hg1 => ?_)
  have st : St X w1 [(_, Cl [_, _, _] _)] [_] := st.push hp hf hg1
  have hg1 := Nat.le_trans hF.size hg1
  have hF := hF.step0 hf
  refine Las rfl rfl rfl rfl rfl (Ls_nil (Th_n (hK1 _ _ ?_)))
  refine Wp_seq fun K2 hK2 => ?_
  refine Wp_seq fun K3 hK3 => ?_
  refine Wp_region (Las rfl rfl rfl rfl rfl (Ls_nil (Th_n (hK3 _ _ ?_))))
  refine Wp_block (use_out hK2 (fun E W => ∃ (s5 : Int), E = [(0, .slice A_l l.length c_l), (3, .pointer (some ⟨g1, 0, none⟩)), (5, .int .i64 s5)] ∧ r12hasTag_L1 l t (((l.length : Int) - (0 : Int)).toNat + 1) (0 : Int) = .inr (s5) ∧ (0 ≤ s5) ∧ St X W [(some g1, Cl [.int .i64 t.id.origin, .int .u32 t.id.seq, .int .i64 t.n] 43)] [kS A_l l.length c_l 3 (l.flatMap tagMC)] ∧ Fr ([]) w W) ?_ fun hout1 => ?_)
  · rintro E w2 ⟨s5, rfl, hLk1, hinv, st, hF⟩
    refine Wp_seq fun K4 hK4 => ?_
    refine Wp_region (Las rfl rfl rfl rfl rfl (Ls_nil (Th_n (hK4 _ _ ?_))))
    refine Wp_ret (Fq_ret (Res1 rfl rfl) ?_)
    have he1 : r12hasTag_m l t = false := by unfold r12hasTag_m; rewrite [hLk1]; (try dsimp only); all_goals rfl
    rewrite [he1]
    exact ⟨rfl, hF⟩
  refine Wp_loopE (fun m E W => ∃ (s5 : Int), E = [(0, .slice A_l l.length c_l), (3, .pointer (some ⟨g1, 0, none⟩)), (5, .int .i64 s5)] ∧ r12hasTag_L1 l t m s5 = r12hasTag_L1 l t (((l.length : Int) - (0 : Int)).toNat + 1) (0 : Int) ∧ ((l.length : Int) - s5).toNat < m ∧ (0 ≤ s5) ∧ St X W [(some g1, Cl [.int .i64 t.id.origin, .int .u32 t.id.seq, .int .i64 t.n] 43)] [kS A_l l.length c_l 3 (l.flatMap tagMC)] ∧ Fr ([]) w W) (((l.length : Int) - (0 : Int)).toNat + 1) [(0, _), (3, _), (5, _)] ⟨rfl, rfl, rfl, trivial⟩ ?_ ?_
  · exact ⟨_, rfl, rfl, Nat.lt_succ_self _, by first | omega | (simp; done) | (simp; omega), st, hF⟩
  rintro m E w3 ⟨s5, rfl, hL1, hmu, hinv, st, hF⟩
  obtain ⟨fuel, rfl⟩ : ∃ q, m = q + 1 := ⟨m - 1, by omega⟩
  refine Wp_seq fun K5 hK5 => ?_
  refine Wp_seq fun K6 hK6 => ?_
  refine Wp_region (Lmv rfl rfl rfl rfl rfl (Lmv rfl rfl rfl rfl rfl (Ls_y (wtd0 rfl) rfl rfl (y_lenl rfl rfl Try.underlying30) ?_)))
  refine Ls_y (wtd0 rfl) rfl rfl (y_lt rfl rfl rfl) (Ls_nil (Th_n (hK6 _ _ ?_)))
  refine Wp_cond rfl (fun hc1 => ?_) (fun hc1 => ?_)
  · have hc1 := dT hc1
    refine Wp_skip (Th_n (hK5 _ _ ?_))
    refine Wp_seq fun K7 hK7 => ?_
    refine Wp_block (Wp_seq fun K8 hK8 => ?_)
    refine Wp_plan (fun W => St X W (pickL (hOf st) [0]) (kOf st)) [(true, 0), (true, 1), (true, 2), (true, 3), (true, 4), (true, 5)] Ty.mx_0 (by kernel_rfl) (by kernel_rfl) rfl ((st.picks [0] (by decide)).drew) ?_
    have st := st.drew
    have hF := hF.step0 (Fr.drew _)
    refine Pmv rfl rfl rfl rfl rfl rfl (Pmv rfl rfl rfl rfl rfl rfl ?_)
    obtain ⟨gi1, bi1, egi1⟩ := (st.k (i := 0) rfl).addr (fun _ => rfl) (by decide) (q := s5) (by first | omega | (simp; done) | (simp; omega)) (by first | omega | (simp; done) | (simp; omega))
    subst egi1
    refine Pl_y rfl (wtd0 rfl) rfl rfl (y_ixa (q := s5) rfl rfl rfl Ty.es_30 (by first | omega | (simp; done) | (simp; omega)) (by first | omega | (simp; done) | (simp; omega))) ?_
    refine Pl_y rfl (wtd0 rfl) rfl rfl (y_ldk (q := s5) rfl rfl Ty.ag_43 (fun _ h => h.k (i := 0) rfl) (fun _ => rfl) (by first | omega | (simp; done) | (simp; omega)) (by first | omega | (simp; done) | (simp; omega))) ?_
    refine Pl_y rfl (wtd0 rfl) rfl rfl (y_loadw (i := 0) rfl rfl Ty.ag_43 (fun _ h => h.hp) rfl rfl) ?_
    refine Pl_y rfl (wtd0 rfl) rfl rfl (y_eqv (b := decide (ix l s5 = t)) rfl rfl rfl Ty.eg_43 (by rw [Ty.ag_43]; simp) (eqv_43 (ix l s5) t)) ?_
    refine Pl_nil (Th_n (hK8 _ _ ?_))
    refine Wp_cond rfl (fun hc2 => ?_) (fun hc2 => ?_)
    · have hc2 := dT hc2
      refine Wp_seq fun K9 hK9 => ?_
      refine Wp_region (Las rfl rfl rfl rfl rfl (Ls_nil (Th_n (hK9 _ _ ?_))))
      refine Wp_ret (Ib_r (Th_r (Th_r (Ib_r (Th_r (Fq_ret (Res1 rfl rfl) ?_))))))
      have hret1 : r12hasTag_L1 l t (((l.length : Int) - (0 : Int)).toNat + 1) (0 : Int) = .inl true := by rewrite [← hL1, r12hasTag_L1]; rewrite [if_pos hc1, if_pos hc2]; rfl
      have he2 : r12hasTag_m l t = true := by unfold r12hasTag_m; rewrite [hret1]; (try dsimp only); all_goals rfl
      rewrite [he2]
      exact ⟨rfl, hF⟩
    have hc2 := dF hc2
    refine Wp_skip (Ib_n (Th_n (hK7 _ _ ?_)))
    refine Wp_region (Lmv rfl rfl rfl rfl rfl (Ls_y (wtd0 rfl) rfl rfl (y_add (c := s5 + 1) rfl rfl rfl (wf_i64 (by first | omega | (simp; done) | (simp; omega)))) ?_))
    refine Las rfl rfl rfl rfl rfl (Ls_nil (Th_n (?_)))
    have hE1 : r12hasTag_L1 l t fuel (s5 + 1) = r12hasTag_L1 l t (((l.length : Int) - (0 : Int)).toNat + 1) (0 : Int) := by rewrite [← hL1, r12hasTag_L1]; rewrite [if_pos hc1, if_neg hc2]; rfl
    exact ⟨fuel, [(0, _), (3, _), (5, _)], Nat.lt_succ_self _, ⟨rfl, rfl, rfl, trivial⟩, (s5 + 1), rfl, hE1, by first | omega | (simp; done) | (simp; omega), by first | omega | (simp; done) | (simp; omega), (st.picks [0] (by decide)).pickK [0], hF⟩
  have hc1 := dF hc1
  refine Wp_exit (Th_e (Th_e (Ib_hit (Th_n (?_)))))
  have hE2 : r12hasTag_L1 l t (((l.length : Int) - (0 : Int)).toNat + 1) (0 : Int) = .inr (s5) := by rewrite [← hL1, r12hasTag_L1]; rewrite [if_neg hc1]; rfl
  exact hout1 _ [(0, _), (3, _), (5, _)] _ ⟨rfl, rfl, rfl, trivial⟩ ⟨s5, rfl, hE2, by first | omega | (simp; done) | (simp; omega), (st.picks [0] (by decide)).pickK [0], hF⟩

structure AddM where
  tag : TagM
  elem : List UInt8
instance : Inhabited AddM := ⟨⟨default, default⟩⟩
instance : DecidableEq AddM := fun a b => decidable_of_iff (a.tag = b.tag ∧ a.elem = b.elem) (by cases a; cases b; simp)
def addMC (x : AddM) : List Value := [.int .i64 x.tag.id.origin, .int .u32 x.tag.id.seq, .int .i64 x.tag.n, sv x.elem]
theorem addMC_len (x : AddM) : (addMC x).length = 4 := rfl
def r12tags_L1 (l : List AddM) : Nat → (List TagM) → Int → ((List TagM)) ⊕ ((List TagM) × Int)
  | 0, s3, s4 => .inr (s3, s4)
  | fuel + 1, s3, s4 =>
    if s4 < (l.length : Int) then
      r12tags_L1 l fuel (s3 ++ [(ix l s4).tag]) (s4 + 1)
    else
      .inr (s3, s4)
def r12tags_m (l : List AddM) : (List TagM) :=
  match r12tags_L1 l (((l.length : Int) - (0 : Int)).toNat + 1) ([] : List TagM) (0 : Int) with
  | .inl r => r
  | .inr (s3, s4) =>
    s3


set_option maxRecDepth 20000 in
theorem r12tags_ok (X : List Nat) (w : World) (hX : Lo X w) (l : List AddM) (A_l : Option Addr) (c_l : Nat) (h_l : Sld X w A_l l.length c_l 4 (l.flatMap addMC)) (hl : l.length ≤ 1000000) :
    Fn Try.prog 70 [.slice A_l l.length c_l] w fun v w' => ∃ (Ar : Option Addr) (cr : Nat), v = .slice Ar (r12tags_m l).length cr ∧ Sld X w' Ar (r12tags_m l).length cr 3 ((r12tags_m l).flatMap tagMC) ∧ Fr [] w w' := by
  refine Fn_of 20 Ty.en_70 Try.func70 rfl rfl rfl ?_
  dsimp only [argEnv]
  have st : St X w [] [kS A_l l.length c_l 4 (l.flatMap addMC)] := (St.nil (X := X) (w := w) hX).addK (kS A_l l.length c_l 4 (l.flatMap addMC)) h_l
  have hF := Fr.refl ([]) w
  have hleA_l := (st.k (i := 0) rfl).le
  refine Wp_seq fun K1 hK1 => ?_
  refine Wp_region (Las rfl rfl rfl rfl rfl (Ls_nil (Th_n (hK1 _ _ ?_))))
  refine Wp_seq fun K2 hK2 => ?_
  refine Wp_region (Las rfl rfl rfl rfl rfl (Ls_nil (Th_n (hK2 _ _ ?_))))
  refine Wp_seq fun K3 hK3 => ?_
  refine Wp_seq fun K4 hK4 => ?_
  refine Wp_region (Las rfl rfl rfl rfl rfl (Ls_nil (Th_n (hK4 _ _ ?_))))
  refine Wp_block ?_
  have st : St X _ [(blkOf none, Cl (([] : List TagM).flatMap tagMC ++ []) 43)] [_] := st.addN _
  have how1 : Ow none ([] : List TagM).length 0 3 (([] : List TagM).flatMap tagMC) [] := Ow.nil 3
  have hnew1 : ∀ g, blkOf none = some g → g ∈ ([]) ∨ w.heap.size ≤ g := fun g hg => by cases hg
  refine use_out hK3 (fun E W => ∃ (s3 : List TagM) (s4 : Int) (As3 : Option Addr) (cs3 : Nat) (sps3 : List Value), E = [(0, .slice A_l l.length c_l), (3, .slice As3 s3.length cs3), (4, .int .i64 s4)] ∧ r12tags_L1 l (((l.length : Int) - (0 : Int)).toNat + 1) ([] : List TagM) (0 : Int) = .inr (s3, s4) ∧ (0 ≤ s4 ∧ (s3.length : Int) ≤ s4) ∧ Ow As3 s3.length cs3 3 (s3.flatMap tagMC) sps3 ∧ (∀ g, blkOf As3 = some g → g ∈ ([]) ∨ w.heap.size ≤ g) ∧ St X W [(blkOf As3, Cl (s3.flatMap tagMC ++ sps3) 43)] [kS A_l l.length c_l 4 (l.flatMap addMC)] ∧ Fr ([]) w W) ?_ fun hout1 => ?_
  · rintro E w1 ⟨s3, s4, As3, cs3, sps3, rfl, hLk1, hinv, hows3, news3, st, hF⟩
    refine Wp_seq fun K5 hK5 => ?_
    refine Wp_region (Lmv rfl rfl rfl rfl rfl (Las rfl rfl rfl rfl rfl (Ls_nil (Th_n (hK5 _ _ ?_)))))
    have st : St X w1 [] [_, _] := st.freeze (i := 0) [] (by decide) rfl hows3 (by decide)
    refine Wp_ret (Fq_ret (Res1 rfl rfl) ?_)
    have he1 : r12tags_m l = s3 := by unfold r12tags_m; rewrite [hLk1]; (try dsimp only); all_goals rfl
    rewrite [he1]
    exact ⟨_, _, rfl, st.out (i := 1) rfl, hF⟩
  refine Wp_loopE (fun m E W => ∃ (s3 : List TagM) (s4 : Int) (As3 : Option Addr) (cs3 : Nat) (sps3 : List Value), E = [(0, .slice A_l l.length c_l), (3, .slice As3 s3.length cs3), (4, .int .i64 s4)] ∧ r12tags_L1 l m s3 s4 = r12tags_L1 l (((l.length : Int) - (0 : Int)).toNat + 1) ([] : List TagM) (0 : Int) ∧ ((l.length : Int) - s4).toNat < m ∧ (0 ≤ s4 ∧ (s3.length : Int) ≤ s4) ∧ Ow As3 s3.length cs3 3 (s3.flatMap tagMC) sps3 ∧ (∀ g, blkOf As3 = some g → g ∈ ([]) ∨ w.heap.size ≤ g) ∧ St X W [(blkOf As3, Cl (s3.flatMap tagMC ++ sps3) 43)] [kS A_l l.length c_l 4 (l.flatMap addMC)] ∧ Fr ([]) w W) (((l.length : Int) - (0 : Int)).toNat + 1) [(0, _), (3, _), (4, _)] ⟨rfl, rfl, rfl, trivial⟩ ?_ ?_
  · exact ⟨_, _, _, _, _, rfl, rfl, Nat.lt_succ_self _, by first | omega | (simp; done) | (simp; omega), how1, hnew1, st, hF⟩
  rintro m E w2 ⟨s3, s4, As3, cs3, sps3, rfl, hL1, hmu, hinv, hows3, news3, st, hF⟩
  obtain ⟨fuel, rfl⟩ : ∃ q, m = q + 1 := ⟨m - 1, by omega⟩
  have hlehows3 := Ow.le hows3
  refine Wp_seq fun K6 hK6 => ?_
  refine Wp_seq fun K7 hK7 => ?_
  refine Wp_region (Lmv rfl rfl rfl rfl rfl (Lmv rfl rfl rfl rfl rfl (Ls_y (wtd0 rfl) rfl rfl (y_lenl rfl rfl Try.underlying29) ?_)))
  refine Ls_y (wtd0 rfl) rfl rfl (y_lt rfl rfl rfl) (Ls_nil (Th_n (hK7 _ _ ?_)))
  refine Wp_cond rfl (fun hc1 => ?_) (fun hc1 => ?_)
  · have hc1 := dT hc1
    refine Wp_skip (Th_n (hK6 _ _ ?_))
    refine Wp_seq fun K8 hK8 => ?_
    refine Wp_block (Wp_region (Lmv rfl rfl rfl rfl rfl (Lmv rfl rfl rfl rfl rfl (Lmv rfl rfl rfl rfl rfl ?_))))
    obtain ⟨gi1, bi1, egi1⟩ := (st.k (i := 0) rfl).addr (fun _ => rfl) (by decide) (q := s4) (by first | omega | (simp; done) | (simp; omega)) (by first | omega | (simp; done) | (simp; omega))
    subst egi1
    refine Ls_y (wtd0 rfl) rfl rfl (y_ixa (q := s4) rfl rfl rfl Ty.es_29 (by first | omega | (simp; done) | (simp; omega)) (by first | omega | (simp; done) | (simp; omega))) ?_
    refine Ls_y (wtd0 rfl) rfl rfl (y_fld rfl rfl Ty.fo_109_0) (Ls_y (wtd0 rfl) rfl rfl (y_ldkm (q := s4) 0 rfl rfl Ty.ag_43 (fun _ e => e ▸ st.k (i := 0) rfl) (fun _ => rfl) (by first | omega | (simp; done) | (simp; omega)) (by first | omega | (simp; done) | (simp; omega)) rfl rfl) ?_)
    refine Ls_a (wtd0 rfl) ?_
    refine a_bsls (us := [.int .i64 (((ix l s4).tag).id.origin), .int .u32 (((ix l s4).tag).id.seq), .int .i64 (((ix l s4).tag).n)]) rfl rfl rfl rfl Ty.es_30 Ty.zc_43 rfl (by decide) st.hp (fun g1 w3 (hp : Hp w3 [_, _]) hf hg1 => ?_)
    have how2 : Ow (some ⟨g1, 0, none⟩) [(ix l s4).tag].length 1 3 ([(ix l s4).tag].flatMap tagMC) [] := ⟨rfl, .inr ⟨g1, rfl, rfl, Nat.le_refl _, by unfold maxLen; decide⟩⟩
    have st : St X w3 [_, _] [_] := st.push hp hf hg1
    have st : St X w3 [_, _] [_] := st
    have hg1 := Nat.le_trans hF.size hg1
    have hF := hF.step0 hf
    have hnew2 : ∀ g, blkOf (some ⟨g1, 0, none⟩) = some g → g ∈ ([]) ∨ w.heap.size ≤ g := fun g hg => by simp [blkOf] at hg; subst hg; exact .inr hg1
    refine Ls_a (wtd0 rfl) ?_
    refine a_appM (i := 0) (xs := s3) (ys := [(ix l s4).tag]) (enc := tagMC) rfl rfl rfl rfl rfl rfl Ty.es_30 Ty.zc_43 rfl Ty.by_43 (by decide) (fun _ => rfl) hows3 st.hp rfl (own_src (i := 1) st.hp rfl how2) (own_none how2) (by intro x v hv; simp only [tagMC, List.mem_cons, List.not_mem_nil, or_false] at hv; rcases hv with rfl | rfl | rfl <;> rfl) (by first | (unfold maxLen; omega) | (simp [maxLen]; omega)) (by first | (unfold maxLen; omega) | (simp [maxLen]; omega)) (fun Aa1 ca1 sp1 w4 how3 (hp : Hp w4 [_, _]) hf hnw1 => ?_)
    have st : St X w4 [_, _] [_] := st.setAny (i := 0) rfl hp hf hnw1
    have st : St X w4 [_, _] [_] := st
    have hnew3 : ∀ g, blkOf Aa1 = some g → g ∈ ([]) ∨ w.heap.size ≤ g := fun g hg => (hnw1 g hg).elim (news3 g) (fun h => .inr (Nat.le_trans hF.size h))
    have hF := hF.step hf (fun y hy => news3 y (by simpa using hy))
    refine Las rfl rfl rfl rfl rfl (Ls_nil (Ib_n (Th_n (hK8 _ _ ?_))))
    refine Wp_region (Lmv rfl rfl rfl rfl rfl (Ls_y (wtd0 rfl) rfl rfl (y_add (c := s4 + 1) rfl rfl rfl (wf_i64 (by first | omega | (simp; done) | (simp; omega)))) ?_))
    refine Las rfl rfl rfl rfl rfl (Ls_nil (Th_n (?_)))
    have hE1 : r12tags_L1 l fuel (s3 ++ [(ix l s4).tag]) (s4 + 1) = r12tags_L1 l (((l.length : Int) - (0 : Int)).toNat + 1) ([] : List TagM) (0 : Int) := by rewrite [← hL1, r12tags_L1]; rewrite [if_pos hc1]; rfl
    exact ⟨fuel, [(0, _), (3, _), (4, _)], Nat.lt_succ_self _, ⟨rfl, rfl, rfl, trivial⟩, (s3 ++ [(ix l s4).tag]), (s4 + 1), Aa1, ca1, sp1, rfl, hE1, by first | omega | (simp; done) | (simp; omega), by first | omega | (simp; done) | (simp; omega), how3, hnew3, (st.picks [0] (by decide)).pickK [0], hF⟩
  have hc1 := dF hc1
  refine Wp_exit (Th_e (Th_e (Ib_hit (Th_n (?_)))))
  have hE2 : r12tags_L1 l (((l.length : Int) - (0 : Int)).toNat + 1) ([] : List TagM) (0 : Int) = .inr (s3, s4) := by rewrite [← hL1, r12tags_L1]; rewrite [if_neg hc1]; rfl
  exact hout1 _ [(0, _), (3, _), (4, _)] _ ⟨rfl, rfl, rfl, trivial⟩ ⟨s3, s4, As3, cs3, sps3, rfl, hE2, by first | omega | (simp; done) | (simp; omega), hows3, news3, (st.picks [0] (by decide)).pickK [0], hF⟩

def r12right_L1 (l : List TagM) : Nat → Int → (Bool) ⊕ (Int)
  | 0, s3 => .inr (s3)
  | fuel + 1, s3 =>
    if s3 < (l.length : Int) then
      if (r5checkTag_m (ix l s3)) = 0 then
        r12right_L1 l fuel (s3 + 1)
      else
        .inl false
    else
      .inr (s3)
def r12right_m (l : List TagM) : Bool :=
  match r12right_L1 l (((l.length : Int) - (0 : Int)).toNat + 1) (0 : Int) with
  | .inl r => r
  | .inr (s3) =>
    true


set_option maxRecDepth 20000 in
theorem r12right_ok (X : List Nat) (w : World) (hX : Lo X w) (l : List TagM) (A_l : Option Addr) (c_l : Nat) (h_l : Sld X w A_l l.length c_l 3 (l.flatMap tagMC)) :
    Fn Try.prog 71 [.slice A_l l.length c_l] w fun v w' => v = .bool (r12right_m l) ∧ Fr [] w w' := by
  refine Fn_of 16 Ty.en_71 Try.func71 rfl rfl rfl ?_
  dsimp only [argEnv]
  have st : St X w [] [kS A_l l.length c_l 3 (l.flatMap tagMC)] := (St.nil (X := X) (w := w) hX).addK (kS A_l l.length c_l 3 (l.flatMap tagMC)) h_l
  have hF := Fr.refl ([]) w
  have hleA_l := (st.k (i := 0) rfl).le
  refine Wp_seq fun K1 hK1 => ?_
  refine Wp_region (Las rfl rfl rfl rfl rfl (Ls_nil (Th_n (hK1 _ _ ?_))))
  refine Wp_seq fun K2 hK2 => ?_
  refine Wp_seq fun K3 hK3 => ?_
  refine Wp_region (Las rfl rfl rfl rfl rfl (Ls_nil (Th_n (hK3 _ _ ?_))))
  refine Wp_block (use_out hK2 (fun E W => ∃ (s3 : Int), E = [(0, .slice A_l l.length c_l), (3, .int .i64 s3)] ∧ r12right_L1 l (((l.length : Int) - (0 : Int)).toNat + 1) (0 : Int) = .inr (s3) ∧ (0 ≤ s3) ∧ St X W [] [kS A_l l.length c_l 3 (l.flatMap tagMC)] ∧ Fr ([]) w W) ?_ fun hout1 => ?_)
  · rintro E w1 ⟨s3, rfl, hLk1, hinv, st, hF⟩
    refine Wp_seq fun K4 hK4 => ?_
    refine Wp_region (Las rfl rfl rfl rfl rfl (Ls_nil (Th_n (hK4 _ _ ?_))))
    refine Wp_ret (Fq_ret (Res1 rfl rfl) ?_)
    have he1 : r12right_m l = true := by unfold r12right_m; rewrite [hLk1]; (try dsimp only); all_goals rfl
    rewrite [he1]
    exact ⟨rfl, hF⟩
  refine Wp_loopE (fun m E W => ∃ (s3 : Int), E = [(0, .slice A_l l.length c_l), (3, .int .i64 s3)] ∧ r12right_L1 l m s3 = r12right_L1 l (((l.length : Int) - (0 : Int)).toNat + 1) (0 : Int) ∧ ((l.length : Int) - s3).toNat < m ∧ (0 ≤ s3) ∧ St X W [] [kS A_l l.length c_l 3 (l.flatMap tagMC)] ∧ Fr ([]) w W) (((l.length : Int) - (0 : Int)).toNat + 1) [(0, _), (3, _)] ⟨rfl, rfl, trivial⟩ ?_ ?_
  · exact ⟨_, rfl, rfl, Nat.lt_succ_self _, by first | omega | (simp; done) | (simp; omega), st, hF⟩
  rintro m E w2 ⟨s3, rfl, hL1, hmu, hinv, st, hF⟩
  obtain ⟨fuel, rfl⟩ : ∃ q, m = q + 1 := ⟨m - 1, by omega⟩
  refine Wp_seq fun K5 hK5 => ?_
  refine Wp_seq fun K6 hK6 => ?_
  refine Wp_region (Lmv rfl rfl rfl rfl rfl (Lmv rfl rfl rfl rfl rfl (Ls_y (wtd0 rfl) rfl rfl (y_lenl rfl rfl Try.underlying30) ?_)))
  refine Ls_y (wtd0 rfl) rfl rfl (y_lt rfl rfl rfl) (Ls_nil (Th_n (hK6 _ _ ?_)))
  refine Wp_cond rfl (fun hc1 => ?_) (fun hc1 => ?_)
  · have hc1 := dT hc1
    refine Wp_skip (Th_n (hK5 _ _ ?_))
    refine Wp_seq fun K7 hK7 => ?_
    refine Wp_block (Wp_seq fun K8 hK8 => ?_)
    refine Wp_region (Lmv rfl rfl rfl rfl rfl (Lmv rfl rfl rfl rfl rfl ?_))
    obtain ⟨gi1, bi1, egi1⟩ := (st.k (i := 0) rfl).addr (fun _ => rfl) (by decide) (q := s3) (by first | omega | (simp; done) | (simp; omega)) (by first | omega | (simp; done) | (simp; omega))
    subst egi1
    refine Ls_y (wtd0 rfl) rfl rfl (y_ixa (q := s3) rfl rfl rfl Ty.es_30 (by first | omega | (simp; done) | (simp; omega)) (by first | omega | (simp; done) | (simp; omega))) ?_
    refine Ls_y (wtd0 rfl) rfl rfl (y_ldk (q := s3) rfl rfl Ty.ag_43 (fun _ e => e ▸ st.k (i := 0) rfl) (fun _ => rfl) (by first | omega | (simp; done) | (simp; omega)) (by first | omega | (simp; done) | (simp; omega))) ?_
    refine Ls_a (wtd0 rfl) ?_
    refine a_call rfl rfl rfl rfl (r5checkTag_ok _ (ix l s3)) (fun v w3 ⟨hv, hf⟩ => ?_)
    subst hv
    have st := st.keep0 hf
    have hF := hF.step0 hf
    have st : St X w3 [] [_] := st
    refine Ls_y (wtd0 rfl) rfl rfl (y_ne rfl rfl rfl) (Ls_nil (Th_n (hK8 _ _ ?_)))
    refine Wp_cond rfl (fun hc2 => ?_) (fun hc2 => ?_)
    · have hc2 := neT hc2
      refine Wp_seq fun K9 hK9 => ?_
      refine Wp_region (Las rfl rfl rfl rfl rfl (Ls_nil (Th_n (hK9 _ _ ?_))))
      refine Wp_ret (Ib_r (Th_r (Th_r (Ib_r (Th_r (Fq_ret (Res1 rfl rfl) ?_))))))
      have hret1 : r12right_L1 l (((l.length : Int) - (0 : Int)).toNat + 1) (0 : Int) = .inl false := by rewrite [← hL1, r12right_L1]; rewrite [if_pos hc1, if_neg hc2]; rfl
      have he2 : r12right_m l = false := by unfold r12right_m; rewrite [hret1]; (try dsimp only); all_goals rfl
      rewrite [he2]
      exact ⟨rfl, hF⟩
    have hc2 := neF hc2
    refine Wp_skip (Ib_n (Th_n (hK7 _ _ ?_)))
    refine Wp_region (Lmv rfl rfl rfl rfl rfl (Ls_y (wtd0 rfl) rfl rfl (y_add (c := s3 + 1) rfl rfl rfl (wf_i64 (by first | omega | (simp; done) | (simp; omega)))) ?_))
    refine Las rfl rfl rfl rfl rfl (Ls_nil (Th_n (?_)))
    have hE1 : r12right_L1 l fuel (s3 + 1) = r12right_L1 l (((l.length : Int) - (0 : Int)).toNat + 1) (0 : Int) := by rewrite [← hL1, r12right_L1]; rewrite [if_pos hc1, if_pos hc2]; rfl
    exact ⟨fuel, [(0, _), (3, _)], Nat.lt_succ_self _, ⟨rfl, rfl, trivial⟩, (s3 + 1), rfl, hE1, by first | omega | (simp; done) | (simp; omega), by first | omega | (simp; done) | (simp; omega), (st.picks [] (by decide)).pickK [0], hF⟩
  have hc1 := dF hc1
  refine Wp_exit (Th_e (Th_e (Ib_hit (Th_n (?_)))))
  have hE2 : r12right_L1 l (((l.length : Int) - (0 : Int)).toNat + 1) (0 : Int) = .inr (s3) := by rewrite [← hL1, r12right_L1]; rewrite [if_neg hc1]; rfl
  exact hout1 _ [(0, _), (3, _)] _ ⟨rfl, rfl, trivial⟩ ⟨s3, rfl, hE2, by first | omega | (simp; done) | (simp; omega), (st.picks [] (by decide)).pickK [0], hF⟩

def r12rises_L1 (l : List TagM) : Nat → Int → (Bool) ⊕ (Int)
  | 0, s3 => .inr (s3)
  | fuel + 1, s3 =>
    if s3 < (l.length : Int) then
      if 0 ≤ (r5compareTag_m (ix l (s3 - 1)) (ix l s3)) then
        .inl false
      else
        r12rises_L1 l fuel (s3 + 1)
    else
      .inr (s3)
def r12rises_m (l : List TagM) : Bool :=
  match r12rises_L1 l (((l.length : Int) - (1 : Int)).toNat + 1) (1 : Int) with
  | .inl r => r
  | .inr (s3) =>
    true


set_option maxRecDepth 20000 in
theorem r12rises_ok (X : List Nat) (w : World) (hX : Lo X w) (l : List TagM) (A_l : Option Addr) (c_l : Nat) (h_l : Sld X w A_l l.length c_l 3 (l.flatMap tagMC)) :
    Fn Try.prog 72 [.slice A_l l.length c_l] w fun v w' => v = .bool (r12rises_m l) ∧ Fr [] w w' := by
  refine Fn_of 21 Ty.en_72 Try.func72 rfl rfl rfl ?_
  dsimp only [argEnv]
  have st : St X w [] [kS A_l l.length c_l 3 (l.flatMap tagMC)] := (St.nil (X := X) (w := w) hX).addK (kS A_l l.length c_l 3 (l.flatMap tagMC)) h_l
  have hF := Fr.refl ([]) w
  have hleA_l := (st.k (i := 0) rfl).le
  refine Wp_seq fun K1 hK1 => ?_
  refine Wp_region (Las rfl rfl rfl rfl rfl (Ls_nil (Th_n (hK1 _ _ ?_))))
  refine Wp_seq fun K2 hK2 => ?_
  refine Wp_seq fun K3 hK3 => ?_
  refine Wp_region (Las rfl rfl rfl rfl rfl (Ls_nil (Th_n (hK3 _ _ ?_))))
  refine Wp_block (use_out hK2 (fun E W => ∃ (s3 : Int), E = [(0, .slice A_l l.length c_l), (3, .int .i64 s3)] ∧ r12rises_L1 l (((l.length : Int) - (1 : Int)).toNat + 1) (1 : Int) = .inr (s3) ∧ (1 ≤ s3) ∧ St X W [] [kS A_l l.length c_l 3 (l.flatMap tagMC)] ∧ Fr ([]) w W) ?_ fun hout1 => ?_)
  · rintro E w1 ⟨s3, rfl, hLk1, hinv, st, hF⟩
    refine Wp_seq fun K4 hK4 => ?_
    refine Wp_region (Las rfl rfl rfl rfl rfl (Ls_nil (Th_n (hK4 _ _ ?_))))
    refine Wp_ret (Fq_ret (Res1 rfl rfl) ?_)
    have he1 : r12rises_m l = true := by unfold r12rises_m; rewrite [hLk1]; (try dsimp only); all_goals rfl
    rewrite [he1]
    exact ⟨rfl, hF⟩
  refine Wp_loopE (fun m E W => ∃ (s3 : Int), E = [(0, .slice A_l l.length c_l), (3, .int .i64 s3)] ∧ r12rises_L1 l m s3 = r12rises_L1 l (((l.length : Int) - (1 : Int)).toNat + 1) (1 : Int) ∧ ((l.length : Int) - s3).toNat < m ∧ (1 ≤ s3) ∧ St X W [] [kS A_l l.length c_l 3 (l.flatMap tagMC)] ∧ Fr ([]) w W) (((l.length : Int) - (1 : Int)).toNat + 1) [(0, _), (3, _)] ⟨rfl, rfl, trivial⟩ ?_ ?_
  · exact ⟨_, rfl, rfl, Nat.lt_succ_self _, by first | omega | (simp; done) | (simp; omega), st, hF⟩
  rintro m E w2 ⟨s3, rfl, hL1, hmu, hinv, st, hF⟩
  obtain ⟨fuel, rfl⟩ : ∃ q, m = q + 1 := ⟨m - 1, by omega⟩
  refine Wp_seq fun K5 hK5 => ?_
  refine Wp_seq fun K6 hK6 => ?_
  refine Wp_region (Lmv rfl rfl rfl rfl rfl (Lmv rfl rfl rfl rfl rfl (Ls_y (wtd0 rfl) rfl rfl (y_lenl rfl rfl Try.underlying30) ?_)))
  refine Ls_y (wtd0 rfl) rfl rfl (y_lt rfl rfl rfl) (Ls_nil (Th_n (hK6 _ _ ?_)))
  refine Wp_cond rfl (fun hc1 => ?_) (fun hc1 => ?_)
  · have hc1 := dT hc1
    refine Wp_skip (Th_n (hK5 _ _ ?_))
    refine Wp_seq fun K7 hK7 => ?_
    refine Wp_block (Wp_seq fun K8 hK8 => ?_)
    refine Wp_plan (fun W => St X W (pickL (hOf st) []) (kOf st)) [(true, 0), (true, 1), (true, 2), (true, 3), (true, 4), (true, 5), (true, 6), (true, 7), (true, 8), (false, 9), (true, 10)] Ty.mx_0 (by kernel_rfl) (by kernel_rfl) rfl ((st.picks [] (by decide)).drew) ?_
    have st := st.drew
    have hF := hF.step0 (Fr.drew _)
    refine Pmv rfl rfl rfl rfl rfl rfl (Pmv rfl rfl rfl rfl rfl rfl (Pl_y rfl (wtd0 rfl) rfl rfl (y_sub (c := s3 - 1) rfl rfl rfl (wf_i64 (by first | omega | (simp; done) | (simp; omega)))) ?_))
    obtain ⟨gi1, bi1, egi1⟩ := (st.k (i := 0) rfl).addr (fun _ => rfl) (by decide) (q := s3 - 1) (by first | omega | (simp; done) | (simp; omega)) (by first | omega | (simp; done) | (simp; omega))
    subst egi1
    refine Pl_y rfl (wtd0 rfl) rfl rfl (y_ixa (q := s3 - 1) rfl rfl rfl Ty.es_30 (by first | omega | (simp; done) | (simp; omega)) (by first | omega | (simp; done) | (simp; omega))) ?_
    refine Pl_y rfl (wtd0 rfl) rfl rfl (y_ldk (q := s3 - 1) rfl rfl Ty.ag_43 (fun _ h => h.k (i := 0) rfl) (fun _ => rfl) (by first | omega | (simp; done) | (simp; omega)) (by first | omega | (simp; done) | (simp; omega))) ?_
    refine Pmv rfl rfl rfl rfl rfl rfl (Pmv rfl rfl rfl rfl rfl rfl (Pl_y rfl (wtd0 rfl) rfl rfl (y_ixa (q := s3) rfl rfl rfl Ty.es_30 (by first | omega | (simp; done) | (simp; omega)) (by first | omega | (simp; done) | (simp; omega))) ?_))
    refine Pl_y rfl (wtd0 rfl) rfl rfl (y_ldk (q := s3) rfl rfl Ty.ag_43 (fun _ h => h.k (i := 0) rfl) (fun _ => rfl) (by first | omega | (simp; done) | (simp; omega)) (by first | omega | (simp; done) | (simp; omega))) ?_
    refine Pl_a rfl (wtd0 rfl) (by rfl) ?_
    refine a_call rfl rfl rfl rfl (r5compareTag_ok _ (ix l (s3 - 1)) (ix l s3)) (fun v w3 ⟨hv, hf⟩ => ?_)
    subst hv
    have st := st.keep0 hf
    have hF := hF.step0 hf
    have st : St X w3 [] [_] := st
    refine ⟨(st.picks [] (by decide)).takeK 1, ?_⟩
    refine Pl_y rfl (wtd0 rfl) rfl rfl (y_ge rfl rfl rfl) (Pl_nil (Th_n (hK8 _ _ ?_)))
    refine Wp_cond rfl (fun hc2 => ?_) (fun hc2 => ?_)
    · have hc2 := dT hc2
      refine Wp_seq fun K9 hK9 => ?_
      refine Wp_region (Las rfl rfl rfl rfl rfl (Ls_nil (Th_n (hK9 _ _ ?_))))
      refine Wp_ret (Ib_r (Th_r (Th_r (Ib_r (Th_r (Fq_ret (Res1 rfl rfl) ?_))))))
      have hret1 : r12rises_L1 l (((l.length : Int) - (1 : Int)).toNat + 1) (1 : Int) = .inl false := by rewrite [← hL1, r12rises_L1]; rewrite [if_pos hc1, if_pos hc2]; rfl
      have he2 : r12rises_m l = false := by unfold r12rises_m; rewrite [hret1]; (try dsimp only); all_goals rfl
      rewrite [he2]
      exact ⟨rfl, hF⟩
    have hc2 := dF hc2
    refine Wp_skip (Ib_n (Th_n (hK7 _ _ ?_)))
    refine Wp_region (Lmv rfl rfl rfl rfl rfl (Ls_y (wtd0 rfl) rfl rfl (y_add (c := s3 + 1) rfl rfl rfl (wf_i64 (by first | omega | (simp; done) | (simp; omega)))) ?_))
    refine Las rfl rfl rfl rfl rfl (Ls_nil (Th_n (?_)))
    have hE1 : r12rises_L1 l fuel (s3 + 1) = r12rises_L1 l (((l.length : Int) - (1 : Int)).toNat + 1) (1 : Int) := by rewrite [← hL1, r12rises_L1]; rewrite [if_pos hc1, if_neg hc2]; rfl
    exact ⟨fuel, [(0, _), (3, _)], Nat.lt_succ_self _, ⟨rfl, rfl, trivial⟩, (s3 + 1), rfl, hE1, by first | omega | (simp; done) | (simp; omega), by first | omega | (simp; done) | (simp; omega), (st.picks [] (by decide)).pickK [0], hF⟩
  have hc1 := dF hc1
  refine Wp_exit (Th_e (Th_e (Ib_hit (Th_n (?_)))))
  have hE2 : r12rises_L1 l (((l.length : Int) - (1 : Int)).toNat + 1) (1 : Int) = .inr (s3) := by rewrite [← hL1, r12rises_L1]; rewrite [if_neg hc1]; rfl
  exact hout1 _ [(0, _), (3, _)] _ ⟨rfl, rfl, trivial⟩ ⟨s3, rfl, hE2, by first | omega | (simp; done) | (simp; omega), (st.picks [] (by decide)).pickK [0], hF⟩

structure SetM where
  adds : List AddM
  gone : List TagM
instance : Inhabited SetM := ⟨⟨default, default⟩⟩
instance : DecidableEq SetM := fun a b => decidable_of_iff (a.adds = b.adds ∧ a.gone = b.gone) (by cases a; cases b; simp)
def r12check_c1 (s : SetM) : Bool :=
  (if 4096 < (s.adds.length : Int) then true else decide (4096 < (s.gone.length : Int)))

def r12check_c2 (s : SetM) : Bool :=
  (if (r12right_m (r12tags_m s.adds)) = true then !(r12right_m s.gone) else true)

def r12check_c3 (s : SetM) : Bool :=
  (if (r12rises_m (r12tags_m s.adds)) = true then !(r12rises_m s.gone) else true)

def r12check_c4 (s : SetM) (s4 : Int) : Bool :=
  (if (r12elem_m ((ix s.adds s4).elem)) = true then r12hasTag_m s.gone ((ix s.adds s4).tag) else true)

def r12check_L1 (s : SetM) : Nat → Int → (Int) ⊕ (Int)
  | 0, s4 => .inr (s4)
  | fuel + 1, s4 =>
    if s4 < (s.adds.length : Int) then
      if (r12check_c4 s s4) = true then
        .inl 3
      else
        r12check_L1 s fuel (s4 + 1)
    else
      .inr (s4)
def r12check_m (s : SetM) : Int :=
  if (r12check_c1 s) = true then
    8
  else
    if (r12check_c2 s) = true then
      2
    else
      if (r12check_c3 s) = true then
        3
      else
        match r12check_L1 s (((s.adds.length : Int) - (0 : Int)).toNat + 1) (0 : Int) with
        | .inl r => r
        | .inr (s4) =>
          0

theorem r12check_c1_iff (s : SetM) : (r12check_c1 s = true) ↔ ((4096 < (s.adds.length : Int)) ∨ (4096 < (s.gone.length : Int))) := by
  unfold r12check_c1; exact (ci1 decide_eq_true_iff)

theorem r12check_c2_iff (s : SetM) : (r12check_c2 s = true) ↔ (¬ ((r12right_m (r12tags_m s.adds)) = true) ∨ (¬ ((r12right_m s.gone) = true))) := by
  unfold r12check_c2; exact (ci4 (by simp))

theorem r12check_c3_iff (s : SetM) : (r12check_c3 s = true) ↔ (¬ ((r12rises_m (r12tags_m s.adds)) = true) ∨ (¬ ((r12rises_m s.gone) = true))) := by
  unfold r12check_c3; exact (ci4 (by simp))

theorem r12check_c4_iff (s : SetM) (s4 : Int) : (r12check_c4 s s4 = true) ↔ (¬ ((r12elem_m ((ix s.adds s4).elem)) = true) ∨ ((r12hasTag_m s.gone ((ix s.adds s4).tag)) = true)) := by
  unfold r12check_c4; exact (ci4 Iff.rfl)

set_option maxRecDepth 20000 in
theorem r12check_ok (X : List Nat) (w : World) (hX : Lo X w) (s : SetM) (A_s_adds : Option Addr) (c_s_adds : Nat) (A_s_gone : Option Addr) (c_s_gone : Nat) (h_s_adds : Sld X w A_s_adds s.adds.length c_s_adds 4 (s.adds.flatMap addMC)) (h_s_gone : Sld X w A_s_gone s.gone.length c_s_gone 3 (s.gone.flatMap tagMC)) (h1 : s.adds.length ≤ 1000000) :
    Fn Try.prog 51 [.agg #[.slice A_s_adds s.adds.length c_s_adds, .slice A_s_gone s.gone.length c_s_gone]] w fun v w' => v = .int .i64 (r12check_m s) ∧ Fr [] w w' := by
  refine Fn_of 65 Ty.en_51 Try.func51 rfl rfl rfl ?_
  dsimp only [argEnv]
  have st : St X w [] [kS A_s_adds s.adds.length c_s_adds 4 (s.adds.flatMap addMC), kS A_s_gone s.gone.length c_s_gone 3 (s.gone.flatMap tagMC)] := ((St.nil (X := X) (w := w) hX).addK (kS A_s_adds s.adds.length c_s_adds 4 (s.adds.flatMap addMC)) h_s_adds).addK (kS A_s_gone s.gone.length c_s_gone 3 (s.gone.flatMap tagMC)) h_s_gone
  have hF := Fr.refl ([]) w
  have hleA_s_adds := (st.k (i := 0) rfl).le
  have hleA_s_gone := (st.k (i := 1) rfl).le
  refine Wp_seq fun K1 hK1 => ?_
  refine Wp_region (Ls_a (wtd0 rfl) ?_)
  refine a_box rfl rfl rfl rfl st.hp (fun g1 w1 (hp : Hp w1 [(_, Cl [_, _] _)]) hf hg1 => ?_)
  have st : St X w1 [(_, Cl [_, _] _)] [_, _] := st.push hp hf hg1
  have hg1 := Nat.le_trans hF.size hg1
  have hF := hF.step0 hf
  refine Las rfl rfl rfl rfl rfl (Ls_nil (Th_n (hK1 _ _ ?_)))
  refine Wp_seq fun K2 hK2 => ?_
  refine Wp_region (Ls_y (wtd0 rfl) rfl rfl (y_fld rfl rfl Ty.fo_32_0) (Ls_y (wtd0 rfl) rfl rfl (y_load (i := 0) rfl rfl Ty.pl_29 (fun _ e => e ▸ st.hp) rfl rfl) ?_))
  refine Ls_a (wtd0 rfl) ?_
  refine a_call rfl rfl rfl rfl (r12tags_ok (keys (hOf st) ++ X) _ st.Lo s.adds A_s_adds c_s_adds (st.k (i := 0) rfl) h1) (fun v w2 ⟨Ar1, cr1, hv, hr1, hf⟩ => ?_)
  subst hv
  have st := st.keep0 hf
  have hF := hF.step0 hf
  have hlehr1 := Sld.le hr1
  have st := st.addK (kS Ar1 (r12tags_m s.adds).length cr1 3 ((r12tags_m s.adds).flatMap tagMC)) hr1
  have st : St X w2 [(_, Cl [_, _] _)] [_, _, _] := st
  refine Las rfl rfl rfl rfl rfl (Ls_nil (Th_n (hK2 _ _ ?_)))
  refine Wp_seq fun K3 hK3 => ?_
  refine Wp_block (Wp_seq fun K4 hK4 => ?_)
  refine use_out hK4 (fun E W => E = [(1, .pointer (some ⟨g1, 0, none⟩)), (3, .slice Ar1 ((r12tags_m s.adds).length) cr1), (8, .bool (r12check_c1 s))] ∧ St X W (hOf st) (kOf st) ∧ Fr ([]) w W) ?_ fun hout1 => ?_
  · rintro E w3 ⟨rfl, st, hF⟩
    have st : St X w3 [(_, Cl [_, _] _)] [_, _, _] := st
    refine Wp_cond rfl (fun hc1 => ?_) (fun hc1 => ?_)
    · have jhc1 := (r12check_c1_iff s).1 hc1
      refine Wp_seq fun K5 hK5 => ?_
      refine Wp_region (Las rfl rfl rfl rfl rfl (Ls_nil (Th_n (hK5 _ _ ?_))))
      refine Wp_ret (Ib_r (Th_r (Fq_ret (Res1 rfl rfl) ?_)))
      have he1 : r12check_m s = 8 := by unfold r12check_m; rewrite [if_pos hc1]; rfl
      rewrite [he1]
      exact ⟨rfl, hF⟩
    have jhc1 := mt (r12check_c1_iff s).2 (bF hc1)
    have hc1 := bF hc1
    refine Wp_seq fun K6 hK6 => ?_
    refine use_out hK6 (fun E W => E = [(1, .pointer (some ⟨g1, 0, none⟩)), (3, .slice Ar1 ((r12tags_m s.adds).length) cr1), (19, .bool (r12check_c2 s))] ∧ St X W (hOf st) (kOf st) ∧ Fr ([]) w W) ?_ fun hout2 => ?_
    · rintro E w4 ⟨rfl, st, hF⟩
      have st : St X w4 [(_, Cl [_, _] _)] [_, _, _] := st
      refine Wp_cond rfl (fun hc2 => ?_) (fun hc2 => ?_)
      · have jhc2 := (r12check_c2_iff s).1 hc2
        refine Wp_seq fun K7 hK7 => ?_
        refine Wp_region (Las rfl rfl rfl rfl rfl (Ls_nil (Th_n (hK7 _ _ ?_))))
        refine Wp_ret (Ib_r (Th_r (Fq_ret (Res1 rfl rfl) ?_)))
        have he2 : r12check_m s = 2 := by unfold r12check_m; rewrite [if_neg hc1, if_pos hc2]; rfl
        rewrite [he2]
        exact ⟨rfl, hF⟩
      have jhc2 := mt (r12check_c2_iff s).2 (bF hc2)
      have hc2 := bF hc2
      refine Wp_seq fun K8 hK8 => ?_
      refine use_out hK8 (fun E W => E = [(1, .pointer (some ⟨g1, 0, none⟩)), (29, .bool (r12check_c3 s))] ∧ St X W (hOf st) (kOf st) ∧ Fr ([]) w W) ?_ fun hout3 => ?_
      · rintro E w5 ⟨rfl, st, hF⟩
        have st : St X w5 [(_, Cl [_, _] _)] [_, _, _] := st
        refine Wp_cond rfl (fun hc3 => ?_) (fun hc3 => ?_)
        · have jhc3 := (r12check_c3_iff s).1 hc3
          refine Wp_seq fun K9 hK9 => ?_
          refine Wp_region (Las rfl rfl rfl rfl rfl (Ls_nil (Th_n (hK9 _ _ ?_))))
          refine Wp_ret (Ib_r (Th_r (Fq_ret (Res1 rfl rfl) ?_)))
          have he3 : r12check_m s = 3 := by unfold r12check_m; rewrite [if_neg hc1, if_neg hc2, if_pos hc3]; rfl
          rewrite [he3]
          exact ⟨rfl, hF⟩
        have jhc3 := mt (r12check_c3_iff s).2 (bF hc3)
        have hc3 := bF hc3
        refine Wp_skip (Ib_n (Th_n (hK3 _ _ ?_)))
        refine Wp_seq fun K10 hK10 => ?_
        refine Wp_seq fun K11 hK11 => ?_
        refine Wp_region (Las rfl rfl rfl rfl rfl (Ls_nil (Th_n (hK11 _ _ ?_))))
        refine Wp_block (use_out hK10 (fun E W => ∃ (s4 : Int), E = [(1, .pointer (some ⟨g1, 0, none⟩)), (4, .int .i64 s4)] ∧ r12check_L1 s (((s.adds.length : Int) - (0 : Int)).toNat + 1) (0 : Int) = .inr (s4) ∧ (0 ≤ s4) ∧ St X W [(some g1, Cl [.slice A_s_adds s.adds.length c_s_adds, .slice A_s_gone s.gone.length c_s_gone] 32)] [kS A_s_adds s.adds.length c_s_adds 4 (s.adds.flatMap addMC), kS A_s_gone s.gone.length c_s_gone 3 (s.gone.flatMap tagMC), kS Ar1 (r12tags_m s.adds).length cr1 3 ((r12tags_m s.adds).flatMap tagMC)] ∧ Fr ([]) w W) ?_ fun hout4 => ?_)
        · rintro E w6 ⟨s4, rfl, hLk1, hinv, st, hF⟩
          refine Wp_seq fun K12 hK12 => ?_
          refine Wp_region (Las rfl rfl rfl rfl rfl (Ls_nil (Th_n (hK12 _ _ ?_))))
          refine Wp_ret (Fq_ret (Res1 rfl rfl) ?_)
          have he4 : r12check_m s = 0 := by unfold r12check_m; rewrite [if_neg hc1, if_neg hc2, if_neg hc3, hLk1]; (try dsimp only); all_goals rfl
          rewrite [he4]
          exact ⟨rfl, hF⟩
        refine Wp_loopE (fun m E W => ∃ (s4 : Int), E = [(1, .pointer (some ⟨g1, 0, none⟩)), (4, .int .i64 s4)] ∧ r12check_L1 s m s4 = r12check_L1 s (((s.adds.length : Int) - (0 : Int)).toNat + 1) (0 : Int) ∧ ((s.adds.length : Int) - s4).toNat < m ∧ (0 ≤ s4) ∧ St X W [(some g1, Cl [.slice A_s_adds s.adds.length c_s_adds, .slice A_s_gone s.gone.length c_s_gone] 32)] [kS A_s_adds s.adds.length c_s_adds 4 (s.adds.flatMap addMC), kS A_s_gone s.gone.length c_s_gone 3 (s.gone.flatMap tagMC), kS Ar1 (r12tags_m s.adds).length cr1 3 ((r12tags_m s.adds).flatMap tagMC)] ∧ Fr ([]) w W) (((s.adds.length : Int) - (0 : Int)).toNat + 1) [(1, _), (4, _)] ⟨rfl, rfl, trivial⟩ ?_ ?_
        · exact ⟨_, rfl, rfl, Nat.lt_succ_self _, by first | omega | (simp; done) | (simp; omega), st, hF⟩
        rintro m E w7 ⟨s4, rfl, hL1, hmu, hinv, st, hF⟩
        obtain ⟨fuel, rfl⟩ : ∃ q, m = q + 1 := ⟨m - 1, by omega⟩
        refine Wp_seq fun K13 hK13 => ?_
        refine Wp_seq fun K14 hK14 => ?_
        refine Wp_region (Lmv rfl rfl rfl rfl rfl (Ls_y (wtd0 rfl) rfl rfl (y_fld rfl rfl Ty.fo_32_0) (Ls_y (wtd0 rfl) rfl rfl (y_load (i := 0) rfl rfl Ty.pl_29 (fun _ e => e ▸ st.hp) rfl rfl) ?_)))
        refine Ls_y (wtd0 rfl) rfl rfl (y_lenl rfl rfl Try.underlying29) ?_
        refine Ls_y (wtd0 rfl) rfl rfl (y_lt rfl rfl rfl) (Ls_nil (Th_n (hK14 _ _ ?_)))
        refine Wp_cond rfl (fun hc4 => ?_) (fun hc4 => ?_)
        · have hc4 := dT hc4
          refine Wp_skip (Th_n (hK13 _ _ ?_))
          refine Wp_seq fun K15 hK15 => ?_
          refine Wp_block (Wp_seq fun K16 hK16 => ?_)
          refine use_out hK16 (fun E W => E = [(1, .pointer (some ⟨g1, 0, none⟩)), (4, .int .i64 s4), (64, .bool (r12check_c4 s s4))] ∧ St X W (hOf st) (kOf st) ∧ Fr ([]) w W) ?_ fun hout5 => ?_
          · rintro E w8 ⟨rfl, st, hF⟩
            have st : St X w8 [(_, Cl [_, _] _)] [_, _, _] := st
            refine Wp_cond rfl (fun hc5 => ?_) (fun hc5 => ?_)
            · have jhc5 := (r12check_c4_iff s s4).1 hc5
              refine Wp_seq fun K17 hK17 => ?_
              refine Wp_region (Las rfl rfl rfl rfl rfl (Ls_nil (Th_n (hK17 _ _ ?_))))
              refine Wp_ret (Ib_r (Th_r (Th_r (Ib_r (Th_r (Fq_ret (Res1 rfl rfl) ?_))))))
              have hret1 : r12check_L1 s (((s.adds.length : Int) - (0 : Int)).toNat + 1) (0 : Int) = .inl 3 := by rewrite [← hL1, r12check_L1]; rewrite [if_pos hc4, if_pos hc5]; rfl
              have he5 : r12check_m s = 3 := by unfold r12check_m; rewrite [if_neg hc1, if_neg hc2, if_neg hc3, hret1]; (try dsimp only); all_goals rfl
              rewrite [he5]
              exact ⟨rfl, hF⟩
            have jhc5 := mt (r12check_c4_iff s s4).2 (bF hc5)
            have hc5 := bF hc5
            refine Wp_skip (Ib_n (Th_n (hK15 _ _ ?_)))
            refine Wp_region (Lmv rfl rfl rfl rfl rfl (Ls_y (wtd0 rfl) rfl rfl (y_add (c := s4 + 1) rfl rfl rfl (wf_i64 (by first | omega | (simp; done) | (simp; omega)))) ?_))
            refine Las rfl rfl rfl rfl rfl (Ls_nil (Th_n (?_)))
            have hE1 : r12check_L1 s fuel (s4 + 1) = r12check_L1 s (((s.adds.length : Int) - (0 : Int)).toNat + 1) (0 : Int) := by rewrite [← hL1, r12check_L1]; rewrite [if_pos hc4, if_neg hc5]; rfl
            exact ⟨fuel, [(1, _), (4, _)], Nat.lt_succ_self _, ⟨rfl, rfl, trivial⟩, (s4 + 1), rfl, hE1, by first | omega | (simp; done) | (simp; omega), by first | omega | (simp; done) | (simp; omega), (st.picks [0] (by decide)).pickK [0, 1, 2], hF⟩
          refine Wp_plan (fun W => St X W (pickL (hOf st) [0]) (kOf st)) [(true, 0), (true, 1), (true, 2), (true, 3), (true, 4), (true, 5), (false, 6), (true, 7), (true, 8), (true, 9), (true, 10), (true, 11), (true, 12), (true, 13), (true, 14), (true, 15), (true, 16), (false, 17), (true, 18)] Ty.mx_0 (by kernel_rfl) (by kernel_rfl) rfl ((st.picks [0] (by decide)).drew) ?_
          have st := st.drew
          have hF := hF.step0 (Fr.drew _)
          refine Pl_y rfl (wtd0 rfl) rfl rfl (y_fld rfl rfl Ty.fo_32_0) (Pl_y rfl (wtd0 rfl) rfl rfl (y_load (i := 0) rfl rfl Ty.pl_29 (fun _ h => h.hp) rfl rfl) ?_)
          refine Pmv rfl rfl rfl rfl rfl rfl ?_
          obtain ⟨gi1, bi1, egi1⟩ := (st.k (i := 0) rfl).addr (fun _ => rfl) (by decide) (q := s4) (by first | omega | (simp; done) | (simp; omega)) (by first | omega | (simp; done) | (simp; omega))
          subst egi1
          refine Pl_y rfl (wtd0 rfl) rfl rfl (y_ixa (q := s4) rfl rfl rfl Ty.es_29 (by first | omega | (simp; done) | (simp; omega)) (by first | omega | (simp; done) | (simp; omega))) ?_
          refine Pl_y rfl (wtd0 rfl) rfl rfl (y_fld rfl rfl Ty.fo_109_1) (Pl_y rfl (wtd0 rfl) rfl rfl (y_ldk1 (q := s4) 3 rfl rfl Ty.pl_9 (fun _ h => h.k (i := 0) rfl) (fun _ => rfl) (by first | omega | (simp; done) | (simp; omega)) (by first | omega | (simp; done) | (simp; omega)) rfl) ?_)
          refine Pl_a rfl (wtd0 rfl) (by rfl) ?_
          refine a_call rfl rfl rfl rfl (r12elem_ok _ ((ix s.adds s4).elem)) (fun v w9 ⟨hv, hf⟩ => ?_)
          subst hv
          have st := st.keep0 hf
          have hF := hF.step0 hf
          have st : St X w9 [(_, Cl [_, _] _)] [_, _, _] := st
          refine ⟨(st.picks [0] (by decide)).takeK 3, ?_⟩
          refine Pl_y rfl (wtd0 rfl) rfl rfl (y_not rfl rfl) (Pmv rfl rfl rfl rfl rfl rfl (Pl_bool 54 rfl (fun hc6 => ?_) (fun hc6 => ?_)))
          · have hc6 := bF (nT hc6)
            refine Pl_s rfl (wtdF rfl rfl rfl) rfl rfl (Pl_s rfl (wtdF rfl rfl rfl) rfl rfl (Pl_s rfl (wtdF rfl rfl rfl) rfl rfl (Pl_s rfl (wtdF rfl rfl rfl) rfl rfl (Pl_s rfl (wtdF rfl rfl rfl) rfl rfl (Pl_s rfl (wtdF rfl rfl rfl) rfl rfl (Pl_s rfl (wtdF rfl rfl rfl) rfl rfl (Pl_s rfl (wtdF rfl rfl rfl) rfl rfl (Pl_s rfl (wtdF rfl rfl rfl) rfl rfl (Pl_y rfl (wtd0 rfl) rfl rfl (y_pick_t rfl rfl rfl) (Pl_nil (Th_n (?_))))))))))))
            have hcj1 : r12check_c4 s s4 = true := by unfold r12check_c4; rewrite [if_neg hc6]; rfl
            exact hout5 _ [(1, _), (4, _), (64, _)] _ ⟨rfl, rfl, rfl, trivial⟩ ⟨by rw [hcj1], (st.picks [0] (by decide)).pickK [0, 1, 2], hF⟩
          have hc6 := (nF hc6)
          refine Pl_y rfl (wtdT rfl rfl rfl) rfl rfl (y_fld rfl rfl Ty.fo_32_1) (Pl_y rfl (wtdT rfl rfl rfl) rfl rfl (y_load (i := 0) rfl rfl Ty.pl_30 (fun _ h => h.hp) rfl rfl) ?_)
          refine Pl_y rfl (wtdT rfl rfl rfl) rfl rfl (y_fld rfl rfl Ty.fo_32_0) (Pl_y rfl (wtdT rfl rfl rfl) rfl rfl (y_load (i := 0) rfl rfl Ty.pl_29 (fun _ h => h.hp) rfl rfl) ?_)
          refine Pl_y rfl (wtdT rfl rfl rfl) rfl rfl (y_move rfl rfl) (Pl_y rfl (wtdT rfl rfl rfl) rfl rfl (y_ixa (q := s4) rfl rfl rfl Ty.es_29 (by first | omega | (simp; done) | (simp; omega)) (by first | omega | (simp; done) | (simp; omega))) ?_)
          refine Pl_y rfl (wtdT rfl rfl rfl) rfl rfl (y_fld rfl rfl Ty.fo_109_0) (Pl_y rfl (wtdT rfl rfl rfl) rfl rfl (y_ldkm (q := s4) 0 rfl rfl Ty.ag_43 (fun _ h => h.k (i := 0) rfl) (fun _ => rfl) (by first | omega | (simp; done) | (simp; omega)) (by first | omega | (simp; done) | (simp; omega)) rfl rfl) ?_)
          refine Pl_a rfl (wtdT rfl rfl rfl) (by rfl) ?_
          refine a_call rfl rfl rfl rfl (r12hasTag_ok (keys (hOf st) ++ X) _ st.Lo s.gone A_s_gone c_s_gone ((ix s.adds s4).tag) (st.k (i := 1) rfl)) (fun v w10 ⟨hv, hf⟩ => ?_)
          subst hv
          have st := st.keep0 hf
          have hF := hF.step0 hf
          have st : St X w10 [(_, Cl [_, _] _)] [_, _, _] := st
          refine ⟨(st.picks [0] (by decide)).takeK 3, ?_⟩
          refine Pl_y rfl (wtd0 rfl) rfl rfl (y_pick_f rfl rfl rfl) (Pl_nil (Th_n (?_)))
          have hcj2 : r12check_c4 s s4 = (r12hasTag_m s.gone ((ix s.adds s4).tag)) := by unfold r12check_c4; rewrite [if_pos hc6]; rfl
          exact hout5 _ [(1, _), (4, _), (64, _)] _ ⟨rfl, rfl, rfl, trivial⟩ ⟨by rw [hcj2], (st.picks [0] (by decide)).pickK [0, 1, 2], hF⟩
        have hc4 := dF hc4
        refine Wp_exit (Th_e (Th_e (Ib_hit (Th_n (?_)))))
        have hE2 : r12check_L1 s (((s.adds.length : Int) - (0 : Int)).toNat + 1) (0 : Int) = .inr (s4) := by rewrite [← hL1, r12check_L1]; rewrite [if_neg hc4]; rfl
        exact hout4 _ [(1, _), (4, _)] _ ⟨rfl, rfl, trivial⟩ ⟨s4, rfl, hE2, by first | omega | (simp; done) | (simp; omega), (st.picks [0] (by decide)).pickK [0, 1, 2], hF⟩
      refine Wp_region (Lmv rfl rfl rfl rfl rfl (Ls_a (wtd0 rfl) ?_))
      refine a_call rfl rfl rfl rfl (r12rises_ok (keys (hOf st) ++ X) _ st.Lo (r12tags_m s.adds) Ar1 cr1 (st.k (i := 2) rfl)) (fun v w11 ⟨hv, hf⟩ => ?_)
      subst hv
      have st := st.keep0 hf
      have hF := hF.step0 hf
      have st : St X w11 [(_, Cl [_, _] _)] [_, _, _] := st
      refine Ls_y (wtd0 rfl) rfl rfl (y_not rfl rfl) (Lmv rfl rfl rfl rfl rfl (Ls_bool 33 rfl (fun hc7 => ?_) (fun hc7 => ?_)))
      · have hc7 := bF (nT hc7)
        refine Ls_s (wtdF rfl rfl rfl) rfl rfl (Ls_s (wtdF rfl rfl rfl) rfl rfl (Ls_s (wtdF rfl rfl rfl) rfl rfl (Ls_s (wtdF rfl rfl rfl) rfl rfl (Ls_y (wtd0 rfl) rfl rfl (y_pick_t rfl rfl rfl) (Las rfl rfl rfl rfl rfl (Ls_nil (Th_n (?_))))))))
        have hcj3 : r12check_c3 s = true := by unfold r12check_c3; rewrite [if_neg hc7]; rfl
        exact hout3 _ [(1, _), (29, _)] _ ⟨rfl, rfl, trivial⟩ ⟨by rw [hcj3], (st.picks [0] (by decide)).pickK [0, 1, 2], hF⟩
      have hc7 := (nF hc7)
      refine Ls_y (wtdT rfl rfl rfl) rfl rfl (y_fld rfl rfl Ty.fo_32_1) (Ls_y (wtdT rfl rfl rfl) rfl rfl (y_load (i := 0) rfl rfl Ty.pl_30 (fun _ e => e ▸ st.hp) rfl rfl) ?_)
      refine Ls_a (wtdT rfl rfl rfl) ?_
      refine a_call rfl rfl rfl rfl (r12rises_ok (keys (hOf st) ++ X) _ st.Lo s.gone A_s_gone c_s_gone (st.k (i := 1) rfl)) (fun v w12 ⟨hv, hf⟩ => ?_)
      subst hv
      have st := st.keep0 hf
      have hF := hF.step0 hf
      have st : St X w12 [(_, Cl [_, _] _)] [_, _, _] := st
      refine Ls_y (wtdT rfl rfl rfl) rfl rfl (y_not rfl rfl) (Ls_y (wtd0 rfl) rfl rfl (y_pick_f rfl rfl rfl) (Las rfl rfl rfl rfl rfl (Ls_nil (Th_n (?_)))))
      have hcj4 : r12check_c3 s = (!(r12rises_m s.gone)) := by unfold r12check_c3; rewrite [if_pos hc7]; rfl
      exact hout3 _ [(1, _), (29, _)] _ ⟨rfl, rfl, trivial⟩ ⟨by rw [hcj4], (st.picks [0] (by decide)).pickK [0, 1, 2], hF⟩
    refine Wp_region (Lmv rfl rfl rfl rfl rfl (Ls_a (wtd0 rfl) ?_))
    refine a_call rfl rfl rfl rfl (r12right_ok (keys (hOf st) ++ X) _ st.Lo (r12tags_m s.adds) Ar1 cr1 (st.k (i := 2) rfl)) (fun v w13 ⟨hv, hf⟩ => ?_)
    subst hv
    have st := st.keep0 hf
    have hF := hF.step0 hf
    have st : St X w13 [(_, Cl [_, _] _)] [_, _, _] := st
    refine Ls_y (wtd0 rfl) rfl rfl (y_not rfl rfl) (Lmv rfl rfl rfl rfl rfl (Ls_bool 23 rfl (fun hc8 => ?_) (fun hc8 => ?_)))
    · have hc8 := bF (nT hc8)
      refine Ls_s (wtdF rfl rfl rfl) rfl rfl (Ls_s (wtdF rfl rfl rfl) rfl rfl (Ls_s (wtdF rfl rfl rfl) rfl rfl (Ls_s (wtdF rfl rfl rfl) rfl rfl (Ls_y (wtd0 rfl) rfl rfl (y_pick_t rfl rfl rfl) (Las rfl rfl rfl rfl rfl (Ls_nil (Th_n (?_))))))))
      have hcj5 : r12check_c2 s = true := by unfold r12check_c2; rewrite [if_neg hc8]; rfl
      exact hout2 _ [(1, _), (3, _), (19, _)] _ ⟨rfl, rfl, rfl, trivial⟩ ⟨by rw [hcj5], (st.picks [0] (by decide)).pickK [0, 1, 2], hF⟩
    have hc8 := (nF hc8)
    refine Ls_y (wtdT rfl rfl rfl) rfl rfl (y_fld rfl rfl Ty.fo_32_1) (Ls_y (wtdT rfl rfl rfl) rfl rfl (y_load (i := 0) rfl rfl Ty.pl_30 (fun _ e => e ▸ st.hp) rfl rfl) ?_)
    refine Ls_a (wtdT rfl rfl rfl) ?_
    refine a_call rfl rfl rfl rfl (r12right_ok (keys (hOf st) ++ X) _ st.Lo s.gone A_s_gone c_s_gone (st.k (i := 1) rfl)) (fun v w14 ⟨hv, hf⟩ => ?_)
    subst hv
    have st := st.keep0 hf
    have hF := hF.step0 hf
    have st : St X w14 [(_, Cl [_, _] _)] [_, _, _] := st
    refine Ls_y (wtdT rfl rfl rfl) rfl rfl (y_not rfl rfl) (Ls_y (wtd0 rfl) rfl rfl (y_pick_f rfl rfl rfl) (Las rfl rfl rfl rfl rfl (Ls_nil (Th_n (?_)))))
    have hcj6 : r12check_c2 s = (!(r12right_m s.gone)) := by unfold r12check_c2; rewrite [if_pos hc8]; rfl
    exact hout2 _ [(1, _), (3, _), (19, _)] _ ⟨rfl, rfl, rfl, trivial⟩ ⟨by rw [hcj6], (st.picks [0] (by decide)).pickK [0, 1, 2], hF⟩
  refine Wp_region (Ls_y (wtd0 rfl) rfl rfl (y_fld rfl rfl Ty.fo_32_0) (Ls_y (wtd0 rfl) rfl rfl (y_load (i := 0) rfl rfl Ty.pl_29 (fun _ e => e ▸ st.hp) rfl rfl) ?_))
  refine Ls_y (wtd0 rfl) rfl rfl (y_lenl rfl rfl Try.underlying29) ?_
  refine Ls_y (wtd0 rfl) rfl rfl (y_gt rfl rfl rfl) (Lmv rfl rfl rfl rfl rfl (Ls_bool 13 rfl (fun hc9 => ?_) (fun hc9 => ?_)))
  · have hc9 := dT hc9
    refine Ls_s (wtdF rfl rfl rfl) rfl rfl (Ls_s (wtdF rfl rfl rfl) rfl rfl (Ls_s (wtdF rfl rfl rfl) rfl rfl (Ls_s (wtdF rfl rfl rfl) rfl rfl (Ls_y (wtd0 rfl) rfl rfl (y_pick_t rfl rfl rfl) (Las rfl rfl rfl rfl rfl (Ls_nil (Th_n (?_))))))))
    have hcj7 : r12check_c1 s = true := by unfold r12check_c1; rewrite [if_pos hc9]; rfl
    exact hout1 _ [(1, _), (3, _), (8, _)] _ ⟨rfl, rfl, rfl, trivial⟩ ⟨by rw [hcj7], (st.picks [0] (by decide)).pickK [0, 1, 2], hF⟩
  have hc9 := dF hc9
  refine Ls_y (wtdT rfl rfl rfl) rfl rfl (y_fld rfl rfl Ty.fo_32_1) (Ls_y (wtdT rfl rfl rfl) rfl rfl (y_load (i := 0) rfl rfl Ty.pl_30 (fun _ e => e ▸ st.hp) rfl rfl) ?_)
  refine Ls_y (wtdT rfl rfl rfl) rfl rfl (y_lenl rfl rfl Try.underlying30) ?_
  refine Ls_y (wtdT rfl rfl rfl) rfl rfl (y_gt rfl rfl rfl) (Ls_y (wtd0 rfl) rfl rfl (y_pick_f rfl rfl rfl) (Las rfl rfl rfl rfl rfl (Ls_nil (Th_n (?_)))))
  have hcj8 : r12check_c1 s = (decide (4096 < (s.gone.length : Int))) := by unfold r12check_c1; rewrite [if_neg hc9]; rfl
  exact hout1 _ [(1, _), (3, _), (8, _)] _ ⟨rfl, rfl, rfl, trivial⟩ ⟨by rw [hcj8], (st.picks [0] (by decide)).pickK [0, 1, 2], hF⟩

def r12Tags_L1 (s : SetM) (elem : List UInt8) : Nat → (List TagM) → Int → ((List TagM)) ⊕ ((List TagM) × Int)
  | 0, s5, s6 => .inr (s5, s6)
  | fuel + 1, s5, s6 =>
    if s6 < (s.adds.length : Int) then
      if ((ix s.adds s6).elem) = elem then
        r12Tags_L1 s elem fuel (s5 ++ [(ix s.adds s6).tag]) (s6 + 1)
      else
        r12Tags_L1 s elem fuel s5 (s6 + 1)
    else
      .inr (s5, s6)
def r12Tags_m (s : SetM) (elem : List UInt8) : (List TagM) :=
  if (r12check_m s) = 0 then
    match r12Tags_L1 s elem (((s.adds.length : Int) - (0 : Int)).toNat + 1) ([] : List TagM) (0 : Int) with
    | .inl r => r
    | .inr (s5, s6) =>
      s5
  else
    ([] : List TagM)


set_option maxRecDepth 20000 in
theorem r12Tags_ok (X : List Nat) (w : World) (hX : Lo X w) (s : SetM) (A_s_adds : Option Addr) (c_s_adds : Nat) (A_s_gone : Option Addr) (c_s_gone : Nat) (elem : List UInt8) (h_s_adds : Sld X w A_s_adds s.adds.length c_s_adds 4 (s.adds.flatMap addMC)) (h_s_gone : Sld X w A_s_gone s.gone.length c_s_gone 3 (s.gone.flatMap tagMC)) (h1 : s.adds.length ≤ 1000000) :
    Fn Try.prog 32 [.agg #[.slice A_s_adds s.adds.length c_s_adds, .slice A_s_gone s.gone.length c_s_gone], sv elem] w fun v w' => ∃ (Ar : Option Addr) (cr : Nat), v = .slice Ar (r12Tags_m s elem).length cr ∧ Sld X w' Ar (r12Tags_m s elem).length cr 3 ((r12Tags_m s elem).flatMap tagMC) ∧ Fr [] w w' := by
  refine Fn_of 35 Ty.en_32 Try.func32 rfl rfl rfl ?_
  dsimp only [argEnv]
  have st : St X w [] [kS A_s_adds s.adds.length c_s_adds 4 (s.adds.flatMap addMC), kS A_s_gone s.gone.length c_s_gone 3 (s.gone.flatMap tagMC)] := ((St.nil (X := X) (w := w) hX).addK (kS A_s_adds s.adds.length c_s_adds 4 (s.adds.flatMap addMC)) h_s_adds).addK (kS A_s_gone s.gone.length c_s_gone 3 (s.gone.flatMap tagMC)) h_s_gone
  have hF := Fr.refl ([]) w
  have hleA_s_adds := (st.k (i := 0) rfl).le
  have hleA_s_gone := (st.k (i := 1) rfl).le
  refine Wp_seq fun K1 hK1 => ?_
  refine Wp_region (Ls_a (wtd0 rfl) ?_)
  refine a_box rfl rfl rfl rfl st.hp (fun g1 w1 (hp : Hp w1 [(_, Cl [_, _] _)]) hf hg1 => ?_)
  have st : St X w1 [(_, Cl [_, _] _)] [_, _] := st.push hp hf hg1
  have hg1 := Nat.le_trans hF.size hg1
  have hF := hF.step0 hf
  refine Las rfl rfl rfl rfl rfl (Ls_nil (Th_n (hK1 _ _ ?_)))
  refine Wp_seq fun K2 hK2 => ?_
  refine Wp_seq fun K3 hK3 => ?_
  refine Wp_region (Ls_y (wtd0 rfl) rfl rfl (y_loadw (i := 0) rfl rfl Ty.ag_32 (fun _ e => e ▸ st.hp) rfl rfl) ?_)
  refine Ls_a (wtd0 rfl) ?_
  refine a_call rfl rfl rfl rfl (r12check_ok (keys (hOf st) ++ X) _ st.Lo s A_s_adds c_s_adds A_s_gone c_s_gone (st.k (i := 0) rfl) (st.k (i := 1) rfl) h1) (fun v w2 ⟨hv, hf⟩ => ?_)
  subst hv
  have st := st.keep0 hf
  have hF := hF.step0 hf
  have st : St X w2 [(_, Cl [_, _] _)] [_, _] := st
  refine Ls_y (wtd0 rfl) rfl rfl (y_ne rfl rfl rfl) (Ls_nil (Th_n (hK3 _ _ ?_)))
  refine Wp_cond rfl (fun hc1 => ?_) (fun hc1 => ?_)
  · have hc1 := neT hc1
    refine Wp_seq fun K4 hK4 => ?_
    refine Wp_region (Las rfl rfl rfl rfl rfl (Ls_nil (Th_n (hK4 _ _ ?_))))
    have st := st.addK (kS none 0 0 3 []) ⟨Rdx.nil, by simp, Nat.le_refl _, Nat.zero_le _⟩
    have st : St X w2 [(_, Cl [_, _] _)] [_, _, _] := st
    refine Wp_ret (Th_r (Fq_ret (Res1 rfl rfl) ?_))
    have he1 : r12Tags_m s elem = ([] : List TagM) := by unfold r12Tags_m; rewrite [if_neg hc1]; rfl
    rewrite [he1]
    exact ⟨_, _, rfl, st.out (i := 2) rfl, hF⟩
  have hc1 := neF hc1
  refine Wp_skip (Th_n (hK2 _ _ ?_))
  refine Wp_seq fun K5 hK5 => ?_
  refine Wp_region (Las rfl rfl rfl rfl rfl (Ls_nil (Th_n (hK5 _ _ ?_))))
  refine Wp_seq fun K6 hK6 => ?_
  refine Wp_seq fun K7 hK7 => ?_
  refine Wp_region (Las rfl rfl rfl rfl rfl (Ls_nil (Th_n (hK7 _ _ ?_))))
  refine Wp_block ?_
  have st : St X _ [(some g1, Cl [.slice A_s_adds s.adds.length c_s_adds, .slice A_s_gone s.gone.length c_s_gone] 32), (blkOf none, Cl (([] : List TagM).flatMap tagMC ++ []) 43)] [_, _] := st.addN _
  have how1 : Ow none ([] : List TagM).length 0 3 (([] : List TagM).flatMap tagMC) [] := Ow.nil 3
  have hnew1 : ∀ g, blkOf none = some g → g ∈ ([]) ∨ w.heap.size ≤ g := fun g hg => by cases hg
  refine use_out hK6 (fun E W => ∃ (s5 : List TagM) (s6 : Int) (As5 : Option Addr) (cs5 : Nat) (sps5 : List Value), E = [(1, sv elem), (2, .pointer (some ⟨g1, 0, none⟩)), (5, .slice As5 s5.length cs5), (6, .int .i64 s6)] ∧ r12Tags_L1 s elem (((s.adds.length : Int) - (0 : Int)).toNat + 1) ([] : List TagM) (0 : Int) = .inr (s5, s6) ∧ (0 ≤ s6 ∧ (s5.length : Int) ≤ s6) ∧ Ow As5 s5.length cs5 3 (s5.flatMap tagMC) sps5 ∧ (∀ g, blkOf As5 = some g → g ∈ ([]) ∨ w.heap.size ≤ g) ∧ St X W [(some g1, Cl [.slice A_s_adds s.adds.length c_s_adds, .slice A_s_gone s.gone.length c_s_gone] 32), (blkOf As5, Cl (s5.flatMap tagMC ++ sps5) 43)] [kS A_s_adds s.adds.length c_s_adds 4 (s.adds.flatMap addMC), kS A_s_gone s.gone.length c_s_gone 3 (s.gone.flatMap tagMC)] ∧ Fr ([]) w W) ?_ fun hout1 => ?_
  · rintro E w3 ⟨s5, s6, As5, cs5, sps5, rfl, hLk1, hinv, hows5, news5, st, hF⟩
    refine Wp_seq fun K8 hK8 => ?_
    refine Wp_region (Lmv rfl rfl rfl rfl rfl (Las rfl rfl rfl rfl rfl (Ls_nil (Th_n (hK8 _ _ ?_)))))
    have st : St X w3 [(_, Cl [_, _] _)] [_, _, _] := st.freeze (i := 1) [0] (by decide) rfl hows5 (by decide)
    refine Wp_ret (Fq_ret (Res1 rfl rfl) ?_)
    have he2 : r12Tags_m s elem = s5 := by unfold r12Tags_m; rewrite [if_pos hc1, hLk1]; (try dsimp only); all_goals rfl
    rewrite [he2]
    exact ⟨_, _, rfl, st.out (i := 2) rfl, hF⟩
  refine Wp_loopE (fun m E W => ∃ (s5 : List TagM) (s6 : Int) (As5 : Option Addr) (cs5 : Nat) (sps5 : List Value), E = [(1, sv elem), (2, .pointer (some ⟨g1, 0, none⟩)), (5, .slice As5 s5.length cs5), (6, .int .i64 s6)] ∧ r12Tags_L1 s elem m s5 s6 = r12Tags_L1 s elem (((s.adds.length : Int) - (0 : Int)).toNat + 1) ([] : List TagM) (0 : Int) ∧ ((s.adds.length : Int) - s6).toNat < m ∧ (0 ≤ s6 ∧ (s5.length : Int) ≤ s6) ∧ Ow As5 s5.length cs5 3 (s5.flatMap tagMC) sps5 ∧ (∀ g, blkOf As5 = some g → g ∈ ([]) ∨ w.heap.size ≤ g) ∧ St X W [(some g1, Cl [.slice A_s_adds s.adds.length c_s_adds, .slice A_s_gone s.gone.length c_s_gone] 32), (blkOf As5, Cl (s5.flatMap tagMC ++ sps5) 43)] [kS A_s_adds s.adds.length c_s_adds 4 (s.adds.flatMap addMC), kS A_s_gone s.gone.length c_s_gone 3 (s.gone.flatMap tagMC)] ∧ Fr ([]) w W) (((s.adds.length : Int) - (0 : Int)).toNat + 1) [(1, _), (2, _), (5, _), (6, _)] ⟨rfl, rfl, rfl, rfl, trivial⟩ ?_ ?_
  · exact ⟨_, _, _, _, _, rfl, rfl, Nat.lt_succ_self _, by first | omega | (simp; done) | (simp; omega), how1, hnew1, st, hF⟩
  rintro m E w4 ⟨s5, s6, As5, cs5, sps5, rfl, hL1, hmu, hinv, hows5, news5, st, hF⟩
  obtain ⟨fuel, rfl⟩ : ∃ q, m = q + 1 := ⟨m - 1, by omega⟩
  have hlehows5 := Ow.le hows5
  refine Wp_seq fun K9 hK9 => ?_
  refine Wp_seq fun K10 hK10 => ?_
  refine Wp_region (Lmv rfl rfl rfl rfl rfl (Ls_y (wtd0 rfl) rfl rfl (y_fld rfl rfl Ty.fo_32_0) (Ls_y (wtd0 rfl) rfl rfl (y_load (i := 0) rfl rfl Ty.pl_29 (fun _ e => e ▸ st.hp) rfl rfl) ?_)))
  refine Ls_y (wtd0 rfl) rfl rfl (y_lenl rfl rfl Try.underlying29) ?_
  refine Ls_y (wtd0 rfl) rfl rfl (y_lt rfl rfl rfl) (Ls_nil (Th_n (hK10 _ _ ?_)))
  refine Wp_cond rfl (fun hc2 => ?_) (fun hc2 => ?_)
  · have hc2 := dT hc2
    refine Wp_skip (Th_n (hK9 _ _ ?_))
    refine Wp_seq fun K11 hK11 => ?_
    refine Wp_block (Wp_seq fun K12 hK12 => ?_)
    refine Wp_region (Ls_y (wtd0 rfl) rfl rfl (y_fld rfl rfl Ty.fo_32_0) (Ls_y (wtd0 rfl) rfl rfl (y_load (i := 0) rfl rfl Ty.pl_29 (fun _ e => e ▸ st.hp) rfl rfl) ?_))
    refine Lmv rfl rfl rfl rfl rfl ?_
    obtain ⟨gi1, bi1, egi1⟩ := (st.k (i := 0) rfl).addr (fun _ => rfl) (by decide) (q := s6) (by first | omega | (simp; done) | (simp; omega)) (by first | omega | (simp; done) | (simp; omega))
    subst egi1
    refine Ls_y (wtd0 rfl) rfl rfl (y_ixa (q := s6) rfl rfl rfl Ty.es_29 (by first | omega | (simp; done) | (simp; omega)) (by first | omega | (simp; done) | (simp; omega))) ?_
    refine Ls_y (wtd0 rfl) rfl rfl (y_fld rfl rfl Ty.fo_109_1) (Ls_y (wtd0 rfl) rfl rfl (y_ldk1 (q := s6) 3 rfl rfl Ty.pl_9 (fun _ e => e ▸ st.k (i := 0) rfl) (fun _ => rfl) (by first | omega | (simp; done) | (simp; omega)) (by first | omega | (simp; done) | (simp; omega)) rfl) ?_)
    refine Lmv rfl rfl rfl rfl rfl (Ls_y (wtd0 rfl) rfl rfl (y_eqs rfl rfl rfl) ?_)
    refine Ls_nil (Th_n (hK12 _ _ ?_))
    refine Wp_cond rfl (fun hc3 => ?_) (fun hc3 => ?_)
    · have hc3 := eT hc3
      refine Wp_region (Lmv rfl rfl rfl rfl rfl (Ls_y (wtd0 rfl) rfl rfl (y_fld rfl rfl Ty.fo_32_0) (Ls_y (wtd0 rfl) rfl rfl (y_load (i := 0) rfl rfl Ty.pl_29 (fun _ e => e ▸ st.hp) rfl rfl) ?_)))
      refine Lmv rfl rfl rfl rfl rfl (Ls_y (wtd0 rfl) rfl rfl (y_ixa (q := s6) rfl rfl rfl Ty.es_29 (by first | omega | (simp; done) | (simp; omega)) (by first | omega | (simp; done) | (simp; omega))) ?_)
      refine Ls_y (wtd0 rfl) rfl rfl (y_fld rfl rfl Ty.fo_109_0) (Ls_y (wtd0 rfl) rfl rfl (y_ldkm (q := s6) 0 rfl rfl Ty.ag_43 (fun _ e => e ▸ st.k (i := 0) rfl) (fun _ => rfl) (by first | omega | (simp; done) | (simp; omega)) (by first | omega | (simp; done) | (simp; omega)) rfl rfl) ?_)
      refine Ls_a (wtd0 rfl) ?_
      refine a_bsls (us := [.int .i64 (((ix s.adds s6).tag).id.origin), .int .u32 (((ix s.adds s6).tag).id.seq), .int .i64 (((ix s.adds s6).tag).n)]) rfl rfl rfl rfl Ty.es_30 Ty.zc_43 rfl (by decide) st.hp (fun g2 w5 (hp : Hp w5 [(_, Cl [_, _] _), _, _]) hf hg2 => ?_)
      have how2 : Ow (some ⟨g2, 0, none⟩) [(ix s.adds s6).tag].length 1 3 ([(ix s.adds s6).tag].flatMap tagMC) [] := ⟨rfl, .inr ⟨g2, rfl, rfl, Nat.le_refl _, by unfold maxLen; decide⟩⟩
      have st : St X w5 [(_, Cl [_, _] _), _, _] [_, _] := st.push hp hf hg2
      have st : St X w5 [(_, Cl [_, _] _), _, _] [_, _] := st
      have hg2 := Nat.le_trans hF.size hg2
      have hF := hF.step0 hf
      have hnew2 : ∀ g, blkOf (some ⟨g2, 0, none⟩) = some g → g ∈ ([]) ∨ w.heap.size ≤ g := fun g hg => by simp [blkOf] at hg; subst hg; exact .inr hg2
      refine Ls_a (wtd0 rfl) ?_
      refine a_appM (i := 1) (xs := s5) (ys := [(ix s.adds s6).tag]) (enc := tagMC) rfl rfl rfl rfl rfl rfl Ty.es_30 Ty.zc_43 rfl Ty.by_43 (by decide) (fun _ => rfl) hows5 st.hp rfl (own_src (i := 2) st.hp rfl how2) (own_none how2) (by intro x v hv; simp only [tagMC, List.mem_cons, List.not_mem_nil, or_false] at hv; rcases hv with rfl | rfl | rfl <;> rfl) (by first | (unfold maxLen; omega) | (simp [maxLen]; omega)) (by first | (unfold maxLen; omega) | (simp [maxLen]; omega)) (fun Aa1 ca1 sp1 w6 how3 (hp : Hp w6 [(_, Cl [_, _] _), _, _]) hf hnw1 => ?_)
      have st : St X w6 [(_, Cl [_, _] _), _, _] [_, _] := st.setAny (i := 1) rfl hp hf hnw1
      have st : St X w6 [(_, Cl [_, _] _), _, _] [_, _] := st
      have hnew3 : ∀ g, blkOf Aa1 = some g → g ∈ ([]) ∨ w.heap.size ≤ g := fun g hg => (hnw1 g hg).elim (news5 g) (fun h => .inr (Nat.le_trans hF.size h))
      have hF := hF.step hf (fun y hy => news5 y (by simpa using hy))
      refine Las rfl rfl rfl rfl rfl (Ls_nil (Ib_n (Th_n (hK11 _ _ ?_))))
      refine Wp_region (Lmv rfl rfl rfl rfl rfl (Ls_y (wtd0 rfl) rfl rfl (y_add (c := s6 + 1) rfl rfl rfl (wf_i64 (by first | omega | (simp; done) | (simp; omega)))) ?_))
      refine Las rfl rfl rfl rfl rfl (Ls_nil (Th_n (?_)))
      have hE1 : r12Tags_L1 s elem fuel (s5 ++ [(ix s.adds s6).tag]) (s6 + 1) = r12Tags_L1 s elem (((s.adds.length : Int) - (0 : Int)).toNat + 1) ([] : List TagM) (0 : Int) := by rewrite [← hL1, r12Tags_L1]; rewrite [if_pos hc2, if_pos hc3]; rfl
      exact ⟨fuel, [(1, _), (2, _), (5, _), (6, _)], Nat.lt_succ_self _, ⟨rfl, rfl, rfl, rfl, trivial⟩, (s5 ++ [(ix s.adds s6).tag]), (s6 + 1), Aa1, ca1, sp1, rfl, hE1, by first | omega | (simp; done) | (simp; omega), by first | omega | (simp; done) | (simp; omega), how3, hnew3, (st.picks [0, 1] (by decide)).pickK [0, 1], hF⟩
    have hc3 := eF hc3
    refine Wp_skip (Ib_n (Th_n (hK11 _ _ ?_)))
    refine Wp_region (Lmv rfl rfl rfl rfl rfl (Ls_y (wtd0 rfl) rfl rfl (y_add (c := s6 + 1) rfl rfl rfl (wf_i64 (by first | omega | (simp; done) | (simp; omega)))) ?_))
    refine Las rfl rfl rfl rfl rfl (Ls_nil (Th_n (?_)))
    have hE2 : r12Tags_L1 s elem fuel s5 (s6 + 1) = r12Tags_L1 s elem (((s.adds.length : Int) - (0 : Int)).toNat + 1) ([] : List TagM) (0 : Int) := by rewrite [← hL1, r12Tags_L1]; rewrite [if_pos hc2, if_neg hc3]; rfl
    exact ⟨fuel, [(1, _), (2, _), (5, _), (6, _)], Nat.lt_succ_self _, ⟨rfl, rfl, rfl, rfl, trivial⟩, s5, (s6 + 1), As5, cs5, sps5, rfl, hE2, by first | omega | (simp; done) | (simp; omega), by first | omega | (simp; done) | (simp; omega), hows5, news5, (st.picks [0, 1] (by decide)).pickK [0, 1], hF⟩
  have hc2 := dF hc2
  refine Wp_exit (Th_e (Th_e (Ib_hit (Th_n (?_)))))
  have hE3 : r12Tags_L1 s elem (((s.adds.length : Int) - (0 : Int)).toNat + 1) ([] : List TagM) (0 : Int) = .inr (s5, s6) := by rewrite [← hL1, r12Tags_L1]; rewrite [if_neg hc2]; rfl
  exact hout1 _ [(1, _), (2, _), (5, _), (6, _)] _ ⟨rfl, rfl, rfl, rfl, trivial⟩ ⟨s5, s6, As5, cs5, sps5, rfl, hE3, by first | omega | (simp; done) | (simp; omega), hows5, news5, (st.picks [0, 1] (by decide)).pickK [0, 1], hF⟩

def sameTags_L1 (a : List TagM) (b : List TagM) : Nat → Int → (Bool) ⊕ (Int)
  | 0, s5 => .inr (s5)
  | fuel + 1, s5 =>
    if s5 < (a.length : Int) then
      if ix a s5 = ix b s5 then
        sameTags_L1 a b fuel (s5 + 1)
      else
        .inl false
    else
      .inr (s5)
def sameTags_m (a : List TagM) (b : List TagM) : Bool :=
  if (a.length : Int) = (b.length : Int) then
    match sameTags_L1 a b (((a.length : Int) - (0 : Int)).toNat + 1) (0 : Int) with
    | .inl r => r
    | .inr (s5) =>
      true
  else
    false


set_option maxRecDepth 20000 in
theorem sameTags_ok (X : List Nat) (w : World) (hX : Lo X w) (a : List TagM) (A_a : Option Addr) (c_a : Nat) (b : List TagM) (A_b : Option Addr) (c_b : Nat) (h_a : Sld X w A_a a.length c_a 3 (a.flatMap tagMC)) (h_b : Sld X w A_b b.length c_b 3 (b.flatMap tagMC)) :
    Fn Try.prog 34 [.slice A_a a.length c_a, .slice A_b b.length c_b] w fun v w' => v = .bool (sameTags_m a b) ∧ Fr [] w w' := by
  refine Fn_of 26 Ty.en_34 Try.func34 rfl rfl rfl ?_
  dsimp only [argEnv]
  have st : St X w [] [kS A_a a.length c_a 3 (a.flatMap tagMC), kS A_b b.length c_b 3 (b.flatMap tagMC)] := ((St.nil (X := X) (w := w) hX).addK (kS A_a a.length c_a 3 (a.flatMap tagMC)) h_a).addK (kS A_b b.length c_b 3 (b.flatMap tagMC)) h_b
  have hF := Fr.refl ([]) w
  have hleA_a := (st.k (i := 0) rfl).le
  have hleA_b := (st.k (i := 1) rfl).le
  refine Wp_seq fun K1 hK1 => ?_
  refine Wp_region (Las rfl rfl rfl rfl rfl (Ls_nil (Th_n (hK1 _ _ ?_))))
  refine Wp_seq fun K2 hK2 => ?_
  refine Wp_seq fun K3 hK3 => ?_
  refine Wp_region (Lmv rfl rfl rfl rfl rfl (Ls_y (wtd0 rfl) rfl rfl (y_lenl rfl rfl Try.underlying30) ?_))
  refine Lmv rfl rfl rfl rfl rfl (Ls_y (wtd0 rfl) rfl rfl (y_lenl rfl rfl Try.underlying30) ?_)
  refine Ls_y (wtd0 rfl) rfl rfl (y_ne rfl rfl rfl) (Ls_nil (Th_n (hK3 _ _ ?_)))
  refine Wp_cond rfl (fun hc1 => ?_) (fun hc1 => ?_)
  · have hc1 := neT hc1
    refine Wp_seq fun K4 hK4 => ?_
    refine Wp_region (Las rfl rfl rfl rfl rfl (Ls_nil (Th_n (hK4 _ _ ?_))))
    refine Wp_ret (Th_r (Fq_ret (Res1 rfl rfl) ?_))
    have he1 : sameTags_m a b = false := by unfold sameTags_m; rewrite [if_neg hc1]; rfl
    rewrite [he1]
    exact ⟨rfl, hF⟩
  have hc1 := neF hc1
  refine Wp_skip (Th_n (hK2 _ _ ?_))
  refine Wp_seq fun K5 hK5 => ?_
  refine Wp_seq fun K6 hK6 => ?_
  refine Wp_region (Las rfl rfl rfl rfl rfl (Ls_nil (Th_n (hK6 _ _ ?_))))
  refine Wp_block (use_out hK5 (fun E W => ∃ (s5 : Int), E = [(0, .slice A_a a.length c_a), (1, .slice A_b b.length c_b), (5, .int .i64 s5)] ∧ sameTags_L1 a b (((a.length : Int) - (0 : Int)).toNat + 1) (0 : Int) = .inr (s5) ∧ (0 ≤ s5) ∧ St X W [] [kS A_a a.length c_a 3 (a.flatMap tagMC), kS A_b b.length c_b 3 (b.flatMap tagMC)] ∧ Fr ([]) w W) ?_ fun hout1 => ?_)
  · rintro E w1 ⟨s5, rfl, hLk1, hinv, st, hF⟩
    refine Wp_seq fun K7 hK7 => ?_
    refine Wp_region (Las rfl rfl rfl rfl rfl (Ls_nil (Th_n (hK7 _ _ ?_))))
    refine Wp_ret (Fq_ret (Res1 rfl rfl) ?_)
    have he2 : sameTags_m a b = true := by unfold sameTags_m; rewrite [if_pos hc1, hLk1]; (try dsimp only); all_goals rfl
    rewrite [he2]
    exact ⟨rfl, hF⟩
  refine Wp_loopE (fun m E W => ∃ (s5 : Int), E = [(0, .slice A_a a.length c_a), (1, .slice A_b b.length c_b), (5, .int .i64 s5)] ∧ sameTags_L1 a b m s5 = sameTags_L1 a b (((a.length : Int) - (0 : Int)).toNat + 1) (0 : Int) ∧ ((a.length : Int) - s5).toNat < m ∧ (0 ≤ s5) ∧ St X W [] [kS A_a a.length c_a 3 (a.flatMap tagMC), kS A_b b.length c_b 3 (b.flatMap tagMC)] ∧ Fr ([]) w W) (((a.length : Int) - (0 : Int)).toNat + 1) [(0, _), (1, _), (5, _)] ⟨rfl, rfl, rfl, trivial⟩ ?_ ?_
  · exact ⟨_, rfl, rfl, Nat.lt_succ_self _, by first | omega | (simp; done) | (simp; omega), st, hF⟩
  rintro m E w2 ⟨s5, rfl, hL1, hmu, hinv, st, hF⟩
  obtain ⟨fuel, rfl⟩ : ∃ q, m = q + 1 := ⟨m - 1, by omega⟩
  refine Wp_seq fun K8 hK8 => ?_
  refine Wp_seq fun K9 hK9 => ?_
  refine Wp_region (Lmv rfl rfl rfl rfl rfl (Lmv rfl rfl rfl rfl rfl (Ls_y (wtd0 rfl) rfl rfl (y_lenl rfl rfl Try.underlying30) ?_)))
  refine Ls_y (wtd0 rfl) rfl rfl (y_lt rfl rfl rfl) (Ls_nil (Th_n (hK9 _ _ ?_)))
  refine Wp_cond rfl (fun hc2 => ?_) (fun hc2 => ?_)
  · have hc2 := dT hc2
    refine Wp_skip (Th_n (hK8 _ _ ?_))
    refine Wp_seq fun K10 hK10 => ?_
    refine Wp_block (Wp_seq fun K11 hK11 => ?_)
    refine Wp_plan (fun W => St X W (pickL (hOf st) []) (kOf st)) [(true, 0), (true, 1), (true, 2), (true, 3), (true, 4), (true, 5), (true, 6), (true, 7), (true, 8)] Ty.mx_0 (by kernel_rfl) (by kernel_rfl) rfl ((st.picks [] (by decide)).drew) ?_
    have st := st.drew
    have hF := hF.step0 (Fr.drew _)
    refine Pmv rfl rfl rfl rfl rfl rfl (Pmv rfl rfl rfl rfl rfl rfl ?_)
    obtain ⟨gi1, bi1, egi1⟩ := (st.k (i := 0) rfl).addr (fun _ => rfl) (by decide) (q := s5) (by first | omega | (simp; done) | (simp; omega)) (by first | omega | (simp; done) | (simp; omega))
    subst egi1
    refine Pl_y rfl (wtd0 rfl) rfl rfl (y_ixa (q := s5) rfl rfl rfl Ty.es_30 (by first | omega | (simp; done) | (simp; omega)) (by first | omega | (simp; done) | (simp; omega))) ?_
    refine Pl_y rfl (wtd0 rfl) rfl rfl (y_ldk (q := s5) rfl rfl Ty.ag_43 (fun _ h => h.k (i := 0) rfl) (fun _ => rfl) (by first | omega | (simp; done) | (simp; omega)) (by first | omega | (simp; done) | (simp; omega))) ?_
    refine Pmv rfl rfl rfl rfl rfl rfl (Pmv rfl rfl rfl rfl rfl rfl ?_)
    obtain ⟨gi2, bi2, egi2⟩ := (st.k (i := 1) rfl).addr (fun _ => rfl) (by decide) (q := s5) (by first | omega | (simp; done) | (simp; omega)) (by first | omega | (simp; done) | (simp; omega))
    subst egi2
    refine Pl_y rfl (wtd0 rfl) rfl rfl (y_ixa (q := s5) rfl rfl rfl Ty.es_30 (by first | omega | (simp; done) | (simp; omega)) (by first | omega | (simp; done) | (simp; omega))) ?_
    refine Pl_y rfl (wtd0 rfl) rfl rfl (y_ldk (q := s5) rfl rfl Ty.ag_43 (fun _ h => h.k (i := 1) rfl) (fun _ => rfl) (by first | omega | (simp; done) | (simp; omega)) (by first | omega | (simp; done) | (simp; omega))) ?_
    refine Pl_y rfl (wtd0 rfl) rfl rfl (y_nev (b := decide (ix a s5 = ix b s5)) rfl rfl rfl Ty.eg_43 (by rw [Ty.ag_43]; simp) (eqv_43 (ix a s5) (ix b s5))) ?_
    refine Pl_nil (Th_n (hK11 _ _ ?_))
    refine Wp_cond rfl (fun hc3 => ?_) (fun hc3 => ?_)
    · have hc3 := dF (nT hc3)
      refine Wp_seq fun K12 hK12 => ?_
      refine Wp_region (Las rfl rfl rfl rfl rfl (Ls_nil (Th_n (hK12 _ _ ?_))))
      refine Wp_ret (Ib_r (Th_r (Th_r (Ib_r (Th_r (Fq_ret (Res1 rfl rfl) ?_))))))
      have hret1 : sameTags_L1 a b (((a.length : Int) - (0 : Int)).toNat + 1) (0 : Int) = .inl false := by rewrite [← hL1, sameTags_L1]; rewrite [if_pos hc2, if_neg hc3]; rfl
      have he3 : sameTags_m a b = false := by unfold sameTags_m; rewrite [if_pos hc1, hret1]; (try dsimp only); all_goals rfl
      rewrite [he3]
      exact ⟨rfl, hF⟩
    have hc3 := dT (nF hc3)
    refine Wp_skip (Ib_n (Th_n (hK10 _ _ ?_)))
    refine Wp_region (Lmv rfl rfl rfl rfl rfl (Ls_y (wtd0 rfl) rfl rfl (y_add (c := s5 + 1) rfl rfl rfl (wf_i64 (by first | omega | (simp; done) | (simp; omega)))) ?_))
    refine Las rfl rfl rfl rfl rfl (Ls_nil (Th_n (?_)))
    have hE1 : sameTags_L1 a b fuel (s5 + 1) = sameTags_L1 a b (((a.length : Int) - (0 : Int)).toNat + 1) (0 : Int) := by rewrite [← hL1, sameTags_L1]; rewrite [if_pos hc2, if_pos hc3]; rfl
    exact ⟨fuel, [(0, _), (1, _), (5, _)], Nat.lt_succ_self _, ⟨rfl, rfl, rfl, trivial⟩, (s5 + 1), rfl, hE1, by first | omega | (simp; done) | (simp; omega), by first | omega | (simp; done) | (simp; omega), (st.picks [] (by decide)).pickK [0, 1], hF⟩
  have hc2 := dF hc2
  refine Wp_exit (Th_e (Th_e (Ib_hit (Th_n (?_)))))
  have hE2 : sameTags_L1 a b (((a.length : Int) - (0 : Int)).toNat + 1) (0 : Int) = .inr (s5) := by rewrite [← hL1, sameTags_L1]; rewrite [if_neg hc2]; rfl
  exact hout1 _ [(0, _), (1, _), (5, _)] _ ⟨rfl, rfl, rfl, trivial⟩ ⟨s5, rfl, hE2, by first | omega | (simp; done) | (simp; omega), (st.picks [] (by decide)).pickK [0, 1], hF⟩

theorem eqv_109r (a0 : Int) (a1 : Int) (a2 : Int) (a3 : List UInt8) (b0 : Int) (b1 : Int) (b2 : Int) (b3 : List UInt8) : eqVals Try.prog 8 109 [.int .i64 a0, .int .u32 a1, .int .i64 a2, sv a3] [.int .i64 b0, .int .u32 b1, .int .i64 b2, sv b3] = some ((((a0 == b0) && ((a1 == b1) && true)) && ((a2 == b2) && true)) && ((a3 == b3) && true)) := by kernel_rfl
theorem eqv_109 (x y : AddM) : eqVals Try.prog 8 109 (addMC x) (addMC y) = some (decide (x = y)) := by
  obtain ⟨⟨⟨a0, a1⟩, a2⟩, a3⟩ := x
  obtain ⟨⟨⟨b0, b1⟩, b2⟩, b3⟩ := y
  refine (eqv_109r a0 a1 a2 a3 b0 b1 b2 b3).trans (congrArg some ?_)
  rw [Bool.eq_iff_iff]
  simp
def r12same_c1 (a : SetM) (b : SetM) : Bool :=
  (if (a.adds.length : Int) = (b.adds.length : Int) then !(sameTags_m a.gone b.gone) else true)

def r12same_L1 (a : SetM) (b : SetM) : Nat → Int → (Bool) ⊕ (Int)
  | 0, s5 => .inr (s5)
  | fuel + 1, s5 =>
    if s5 < (a.adds.length : Int) then
      if ix a.adds s5 = ix b.adds s5 then
        r12same_L1 a b fuel (s5 + 1)
      else
        .inl false
    else
      .inr (s5)
def r12same_m (a : SetM) (b : SetM) : Bool :=
  if (r12same_c1 a b) = true then
    false
  else
    match r12same_L1 a b (((a.adds.length : Int) - (0 : Int)).toNat + 1) (0 : Int) with
    | .inl r => r
    | .inr (s5) =>
      true

theorem r12same_c1_iff (a : SetM) (b : SetM) : (r12same_c1 a b = true) ↔ (¬ ((a.adds.length : Int) = (b.adds.length : Int)) ∨ (¬ ((sameTags_m a.gone b.gone) = true))) := by
  unfold r12same_c1; exact (ci4 (by simp))

set_option maxRecDepth 20000 in
theorem r12same_ok (X : List Nat) (w : World) (hX : Lo X w) (a : SetM) (A_a_adds : Option Addr) (c_a_adds : Nat) (A_a_gone : Option Addr) (c_a_gone : Nat) (b : SetM) (A_b_adds : Option Addr) (c_b_adds : Nat) (A_b_gone : Option Addr) (c_b_gone : Nat) (h_a_adds : Sld X w A_a_adds a.adds.length c_a_adds 4 (a.adds.flatMap addMC)) (h_a_gone : Sld X w A_a_gone a.gone.length c_a_gone 3 (a.gone.flatMap tagMC)) (h_b_adds : Sld X w A_b_adds b.adds.length c_b_adds 4 (b.adds.flatMap addMC)) (h_b_gone : Sld X w A_b_gone b.gone.length c_b_gone 3 (b.gone.flatMap tagMC)) :
    Fn Try.prog 35 [.agg #[.slice A_a_adds a.adds.length c_a_adds, .slice A_a_gone a.gone.length c_a_gone], .agg #[.slice A_b_adds b.adds.length c_b_adds, .slice A_b_gone b.gone.length c_b_gone]] w fun v w' => v = .bool (r12same_m a b) ∧ Fr [] w w' := by
  refine Fn_of 39 Ty.en_35 Try.func35 rfl rfl rfl ?_
  dsimp only [argEnv]
  have st : St X w [] [kS A_a_adds a.adds.length c_a_adds 4 (a.adds.flatMap addMC), kS A_a_gone a.gone.length c_a_gone 3 (a.gone.flatMap tagMC), kS A_b_adds b.adds.length c_b_adds 4 (b.adds.flatMap addMC), kS A_b_gone b.gone.length c_b_gone 3 (b.gone.flatMap tagMC)] := ((((St.nil (X := X) (w := w) hX).addK (kS A_a_adds a.adds.length c_a_adds 4 (a.adds.flatMap addMC)) h_a_adds).addK (kS A_a_gone a.gone.length c_a_gone 3 (a.gone.flatMap tagMC)) h_a_gone).addK (kS A_b_adds b.adds.length c_b_adds 4 (b.adds.flatMap addMC)) h_b_adds).addK (kS A_b_gone b.gone.length c_b_gone 3 (b.gone.flatMap tagMC)) h_b_gone
  have hF := Fr.refl ([]) w
  have hleA_a_adds := (st.k (i := 0) rfl).le
  have hleA_a_gone := (st.k (i := 1) rfl).le
  have hleA_b_adds := (st.k (i := 2) rfl).le
  have hleA_b_gone := (st.k (i := 3) rfl).le
  refine Wp_seq fun K1 hK1 => ?_
  refine Wp_region (Ls_a (wtd0 rfl) ?_)
  refine a_box rfl rfl rfl rfl st.hp (fun g1 w1 (hp : Hp w1 [(_, Cl [_, _] _)]) hf hg1 => ?_)
  have st : St X w1 [(_, Cl [_, _] _)] [_, _, _, _] := st.push hp hf hg1
  have hg1 := Nat.le_trans hF.size hg1
  have hF := hF.step0 hf
  refine Ls_a (wtd0 rfl) ?_
  refine a_box rfl rfl rfl rfl st.hp (fun g2 w2 (hp : Hp w2 [(_, Cl [_, _] _), (_, Cl [_, _] _)]) hf hg2 => ?_)
  have st : St X w2 [(_, Cl [_, _] _), (_, Cl [_, _] _)] [_, _, _, _] := st.push hp hf hg2
  have hg2 := Nat.le_trans hF.size hg2
  have hF := hF.step0 hf
  refine Las rfl rfl rfl rfl rfl (Ls_nil (Th_n (hK1 _ _ ?_)))
  refine Wp_seq fun K2 hK2 => ?_
  refine Wp_seq fun K3 hK3 => ?_
  refine use_out hK3 (fun E W => E = [(2, .pointer (some ⟨g1, 0, none⟩)), (3, .pointer (some ⟨g2, 0, none⟩)), (20, .bool (r12same_c1 a b))] ∧ St X W (hOf st) (kOf st) ∧ Fr ([]) w W) ?_ fun hout1 => ?_
  · rintro E w3 ⟨rfl, st, hF⟩
    have st : St X w3 [(_, Cl [_, _] _), (_, Cl [_, _] _)] [_, _, _, _] := st
    refine Wp_cond rfl (fun hc1 => ?_) (fun hc1 => ?_)
    · have jhc1 := (r12same_c1_iff a b).1 hc1
      refine Wp_seq fun K4 hK4 => ?_
      refine Wp_region (Las rfl rfl rfl rfl rfl (Ls_nil (Th_n (hK4 _ _ ?_))))
      refine Wp_ret (Th_r (Fq_ret (Res1 rfl rfl) ?_))
      have he1 : r12same_m a b = false := by unfold r12same_m; rewrite [if_pos hc1]; rfl
      rewrite [he1]
      exact ⟨rfl, hF⟩
    have jhc1 := mt (r12same_c1_iff a b).2 (bF hc1)
    have hc1 := bF hc1
    refine Wp_skip (Th_n (hK2 _ _ ?_))
    refine Wp_seq fun K5 hK5 => ?_
    refine Wp_seq fun K6 hK6 => ?_
    refine Wp_region (Las rfl rfl rfl rfl rfl (Ls_nil (Th_n (hK6 _ _ ?_))))
    refine Wp_block (use_out hK5 (fun E W => ∃ (s5 : Int), E = [(2, .pointer (some ⟨g1, 0, none⟩)), (3, .pointer (some ⟨g2, 0, none⟩)), (5, .int .i64 s5)] ∧ r12same_L1 a b (((a.adds.length : Int) - (0 : Int)).toNat + 1) (0 : Int) = .inr (s5) ∧ (0 ≤ s5) ∧ St X W [(some g1, Cl [.slice A_a_adds a.adds.length c_a_adds, .slice A_a_gone a.gone.length c_a_gone] 32), (some g2, Cl [.slice A_b_adds b.adds.length c_b_adds, .slice A_b_gone b.gone.length c_b_gone] 32)] [kS A_a_adds a.adds.length c_a_adds 4 (a.adds.flatMap addMC), kS A_a_gone a.gone.length c_a_gone 3 (a.gone.flatMap tagMC), kS A_b_adds b.adds.length c_b_adds 4 (b.adds.flatMap addMC), kS A_b_gone b.gone.length c_b_gone 3 (b.gone.flatMap tagMC)] ∧ Fr ([]) w W) ?_ fun hout2 => ?_)
    · rintro E w4 ⟨s5, rfl, hLk1, hinv, st, hF⟩
      refine Wp_seq fun K7 hK7 => ?_
      refine Wp_region (Las rfl rfl rfl rfl rfl (Ls_nil (Th_n (hK7 _ _ ?_))))
      refine Wp_ret (Fq_ret (Res1 rfl rfl) ?_)
      have he2 : r12same_m a b = true := by unfold r12same_m; rewrite [if_neg hc1, hLk1]; (try dsimp only); all_goals rfl
      rewrite [he2]
      exact ⟨rfl, hF⟩
    refine Wp_loopE (fun m E W => ∃ (s5 : Int), E = [(2, .pointer (some ⟨g1, 0, none⟩)), (3, .pointer (some ⟨g2, 0, none⟩)), (5, .int .i64 s5)] ∧ r12same_L1 a b m s5 = r12same_L1 a b (((a.adds.length : Int) - (0 : Int)).toNat + 1) (0 : Int) ∧ ((a.adds.length : Int) - s5).toNat < m ∧ (0 ≤ s5) ∧ St X W [(some g1, Cl [.slice A_a_adds a.adds.length c_a_adds, .slice A_a_gone a.gone.length c_a_gone] 32), (some g2, Cl [.slice A_b_adds b.adds.length c_b_adds, .slice A_b_gone b.gone.length c_b_gone] 32)] [kS A_a_adds a.adds.length c_a_adds 4 (a.adds.flatMap addMC), kS A_a_gone a.gone.length c_a_gone 3 (a.gone.flatMap tagMC), kS A_b_adds b.adds.length c_b_adds 4 (b.adds.flatMap addMC), kS A_b_gone b.gone.length c_b_gone 3 (b.gone.flatMap tagMC)] ∧ Fr ([]) w W) (((a.adds.length : Int) - (0 : Int)).toNat + 1) [(2, _), (3, _), (5, _)] ⟨rfl, rfl, rfl, trivial⟩ ?_ ?_
    · exact ⟨_, rfl, rfl, Nat.lt_succ_self _, by first | omega | (simp; done) | (simp; omega), st, hF⟩
    rintro m E w5 ⟨s5, rfl, hL1, hmu, hinv, st, hF⟩
    obtain ⟨fuel, rfl⟩ : ∃ q, m = q + 1 := ⟨m - 1, by omega⟩
    refine Wp_seq fun K8 hK8 => ?_
    refine Wp_seq fun K9 hK9 => ?_
    refine Wp_region (Lmv rfl rfl rfl rfl rfl (Ls_y (wtd0 rfl) rfl rfl (y_fld rfl rfl Ty.fo_32_0) (Ls_y (wtd0 rfl) rfl rfl (y_load (i := 0) rfl rfl Ty.pl_29 (fun _ e => e ▸ st.hp) rfl rfl) ?_)))
    refine Ls_y (wtd0 rfl) rfl rfl (y_lenl rfl rfl Try.underlying29) ?_
    refine Ls_y (wtd0 rfl) rfl rfl (y_lt rfl rfl rfl) (Ls_nil (Th_n (hK9 _ _ ?_)))
    refine Wp_cond rfl (fun hc2 => ?_) (fun hc2 => ?_)
    · have hc2 := dT hc2
      refine Wp_skip (Th_n (hK8 _ _ ?_))
      refine Wp_seq fun K10 hK10 => ?_
      refine Wp_block (Wp_seq fun K11 hK11 => ?_)
      refine Wp_plan (fun W => St X W (pickL (hOf st) [0, 1]) (kOf st)) [(true, 0), (true, 1), (true, 2), (true, 3), (true, 4), (true, 5), (true, 6), (true, 7), (true, 8), (true, 9), (true, 10)] Ty.mx_0 (by kernel_rfl) (by kernel_rfl) rfl ((st.picks [0, 1] (by decide)).drew) ?_
      have st := st.drew
      have hF := hF.step0 (Fr.drew _)
      refine Pl_y rfl (wtd0 rfl) rfl rfl (y_fld rfl rfl Ty.fo_32_0) (Pl_y rfl (wtd0 rfl) rfl rfl (y_load (i := 0) rfl rfl Ty.pl_29 (fun _ h => h.hp) rfl rfl) ?_)
      refine Pmv rfl rfl rfl rfl rfl rfl ?_
      obtain ⟨gi1, bi1, egi1⟩ := (st.k (i := 0) rfl).addr (fun _ => rfl) (by decide) (q := s5) (by first | omega | (simp; done) | (simp; omega)) (by first | omega | (simp; done) | (simp; omega))
      subst egi1
      refine Pl_y rfl (wtd0 rfl) rfl rfl (y_ixa (q := s5) rfl rfl rfl Ty.es_29 (by first | omega | (simp; done) | (simp; omega)) (by first | omega | (simp; done) | (simp; omega))) ?_
      refine Pl_y rfl (wtd0 rfl) rfl rfl (y_ldk (q := s5) rfl rfl Ty.ag_109 (fun _ h => h.k (i := 0) rfl) (fun _ => rfl) (by first | omega | (simp; done) | (simp; omega)) (by first | omega | (simp; done) | (simp; omega))) ?_
      refine Pl_y rfl (wtd0 rfl) rfl rfl (y_fld rfl rfl Ty.fo_32_0) (Pl_y rfl (wtd0 rfl) rfl rfl (y_load (i := 1) rfl rfl Ty.pl_29 (fun _ h => h.hp) rfl rfl) ?_)
      refine Pmv rfl rfl rfl rfl rfl rfl ?_
      obtain ⟨gi2, bi2, egi2⟩ := (st.k (i := 2) rfl).addr (fun _ => rfl) (by decide) (q := s5) (by first | omega | (simp; done) | (simp; omega)) (by first | omega | (simp; done) | (simp; omega))
      subst egi2
      refine Pl_y rfl (wtd0 rfl) rfl rfl (y_ixa (q := s5) rfl rfl rfl Ty.es_29 (by first | omega | (simp; done) | (simp; omega)) (by first | omega | (simp; done) | (simp; omega))) ?_
      refine Pl_y rfl (wtd0 rfl) rfl rfl (y_ldk (q := s5) rfl rfl Ty.ag_109 (fun _ h => h.k (i := 2) rfl) (fun _ => rfl) (by first | omega | (simp; done) | (simp; omega)) (by first | omega | (simp; done) | (simp; omega))) ?_
      refine Pl_y rfl (wtd0 rfl) rfl rfl (y_nev (b := decide (ix a.adds s5 = ix b.adds s5)) rfl rfl rfl Ty.eg_109 (by rw [Ty.ag_109]; simp) (eqv_109 (ix a.adds s5) (ix b.adds s5))) ?_
      refine Pl_nil (Th_n (hK11 _ _ ?_))
      refine Wp_cond rfl (fun hc3 => ?_) (fun hc3 => ?_)
      · have hc3 := dF (nT hc3)
        refine Wp_seq fun K12 hK12 => ?_
        refine Wp_region (Las rfl rfl rfl rfl rfl (Ls_nil (Th_n (hK12 _ _ ?_))))
        refine Wp_ret (Ib_r (Th_r (Th_r (Ib_r (Th_r (Fq_ret (Res1 rfl rfl) ?_))))))
        have hret1 : r12same_L1 a b (((a.adds.length : Int) - (0 : Int)).toNat + 1) (0 : Int) = .inl false := by rewrite [← hL1, r12same_L1]; rewrite [if_pos hc2, if_neg hc3]; rfl
        have he3 : r12same_m a b = false := by unfold r12same_m; rewrite [if_neg hc1, hret1]; (try dsimp only); all_goals rfl
        rewrite [he3]
        exact ⟨rfl, hF⟩
      have hc3 := dT (nF hc3)
      refine Wp_skip (Ib_n (Th_n (hK10 _ _ ?_)))
      refine Wp_region (Lmv rfl rfl rfl rfl rfl (Ls_y (wtd0 rfl) rfl rfl (y_add (c := s5 + 1) rfl rfl rfl (wf_i64 (by first | omega | (simp; done) | (simp; omega)))) ?_))
      refine Las rfl rfl rfl rfl rfl (Ls_nil (Th_n (?_)))
      have hE1 : r12same_L1 a b fuel (s5 + 1) = r12same_L1 a b (((a.adds.length : Int) - (0 : Int)).toNat + 1) (0 : Int) := by rewrite [← hL1, r12same_L1]; rewrite [if_pos hc2, if_pos hc3]; rfl
      exact ⟨fuel, [(2, _), (3, _), (5, _)], Nat.lt_succ_self _, ⟨rfl, rfl, rfl, trivial⟩, (s5 + 1), rfl, hE1, by first | omega | (simp; done) | (simp; omega), by first | omega | (simp; done) | (simp; omega), (st.picks [0, 1] (by decide)).pickK [0, 1, 2, 3], hF⟩
    have hc2 := dF hc2
    refine Wp_exit (Th_e (Th_e (Ib_hit (Th_n (?_)))))
    have hE2 : r12same_L1 a b (((a.adds.length : Int) - (0 : Int)).toNat + 1) (0 : Int) = .inr (s5) := by rewrite [← hL1, r12same_L1]; rewrite [if_neg hc2]; rfl
    exact hout2 _ [(2, _), (3, _), (5, _)] _ ⟨rfl, rfl, rfl, trivial⟩ ⟨s5, rfl, hE2, by first | omega | (simp; done) | (simp; omega), (st.picks [0, 1] (by decide)).pickK [0, 1, 2, 3], hF⟩
  refine Wp_region (Ls_y (wtd0 rfl) rfl rfl (y_fld rfl rfl Ty.fo_32_0) (Ls_y (wtd0 rfl) rfl rfl (y_load (i := 0) rfl rfl Ty.pl_29 (fun _ e => e ▸ st.hp) rfl rfl) ?_))
  refine Ls_y (wtd0 rfl) rfl rfl (y_lenl rfl rfl Try.underlying29) ?_
  refine Ls_y (wtd0 rfl) rfl rfl (y_fld rfl rfl Ty.fo_32_0) (Ls_y (wtd0 rfl) rfl rfl (y_load (i := 1) rfl rfl Ty.pl_29 (fun _ e => e ▸ st.hp) rfl rfl) ?_)
  refine Ls_y (wtd0 rfl) rfl rfl (y_lenl rfl rfl Try.underlying29) ?_
  refine Ls_y (wtd0 rfl) rfl rfl (y_ne rfl rfl rfl) (Lmv rfl rfl rfl rfl rfl (Ls_bool 13 rfl (fun hc4 => ?_) (fun hc4 => ?_)))
  · have hc4 := neT hc4
    refine Ls_s (wtdF rfl rfl rfl) rfl rfl (Ls_s (wtdF rfl rfl rfl) rfl rfl (Ls_s (wtdF rfl rfl rfl) rfl rfl (Ls_s (wtdF rfl rfl rfl) rfl rfl (Ls_s (wtdF rfl rfl rfl) rfl rfl (Ls_s (wtdF rfl rfl rfl) rfl rfl (Ls_y (wtd0 rfl) rfl rfl (y_pick_t rfl rfl rfl) (Ls_nil (Th_n (?_)))))))))
    have hcj1 : r12same_c1 a b = true := by unfold r12same_c1; rewrite [if_neg hc4]; rfl
    exact hout1 _ [(2, _), (3, _), (20, _)] _ ⟨rfl, rfl, rfl, trivial⟩ ⟨by rw [hcj1], (st.picks [0, 1] (by decide)).pickK [0, 1, 2, 3], hF⟩
  have hc4 := neF hc4
  refine Ls_y (wtdT rfl rfl rfl) rfl rfl (y_fld rfl rfl Ty.fo_32_1) (Ls_y (wtdT rfl rfl rfl) rfl rfl (y_load (i := 0) rfl rfl Ty.pl_30 (fun _ e => e ▸ st.hp) rfl rfl) ?_)
  refine Ls_y (wtdT rfl rfl rfl) rfl rfl (y_fld rfl rfl Ty.fo_32_1) (Ls_y (wtdT rfl rfl rfl) rfl rfl (y_load (i := 1) rfl rfl Ty.pl_30 (fun _ e => e ▸ st.hp) rfl rfl) ?_)
  refine Ls_a (wtdT rfl rfl rfl) ?_
  refine a_call rfl rfl rfl rfl (sameTags_ok (keys (hOf st) ++ X) _ st.Lo a.gone A_a_gone c_a_gone b.gone A_b_gone c_b_gone (st.k (i := 1) rfl) (st.k (i := 3) rfl)) (fun v w6 ⟨hv, hf⟩ => ?_)
  subst hv
  have st := st.keep0 hf
  have hF := hF.step0 hf
  have st : St X w6 [(_, Cl [_, _] _), (_, Cl [_, _] _)] [_, _, _, _] := st
  refine Ls_y (wtdT rfl rfl rfl) rfl rfl (y_not rfl rfl) (Ls_y (wtd0 rfl) rfl rfl (y_pick_f rfl rfl rfl) (Ls_nil (Th_n (?_))))
  have hcj2 : r12same_c1 a b = (!(sameTags_m a.gone b.gone)) := by unfold r12same_c1; rewrite [if_pos hc4]; rfl
  exact hout1 _ [(2, _), (3, _), (20, _)] _ ⟨rfl, rfl, rfl, trivial⟩ ⟨by rw [hcj2], (st.picks [0, 1] (by decide)).pickK [0, 1, 2, 3], hF⟩

structure PutM where
  tag : TagM
  field : List UInt8
  val : Int
  atF : StampM
instance : Inhabited PutM := ⟨⟨default, default, default, default⟩⟩
instance : DecidableEq PutM := fun a b => decidable_of_iff (a.tag = b.tag ∧ a.field = b.field ∧ a.val = b.val ∧ a.atF = b.atF) (by cases a; cases b; simp)
def putMC (x : PutM) : List Value := [.int .i64 x.tag.id.origin, .int .u32 x.tag.id.seq, .int .i64 x.tag.n, sv x.field, .int .i64 x.val, .int .u32 x.atF.time, .int .i64 x.atF.origin]
theorem putMC_len (x : PutM) : (putMC x).length = 7 := rfl
def r13fits_m (p : PutM) : Bool :=
  if (r12elem_m p.field) = true then
    if (r9check_m p.atF) = 0 then
      decide (0 < p.atF.time)
    else
      false
  else
    false


set_option maxRecDepth 20000 in
theorem r13fits_ok (w : World) (p : PutM) :
    Fn Try.prog 74 [.agg (putMC p).toArray] w fun v w' => v = .bool (r13fits_m p) ∧ Fr [] w w' := by
  refine Fn_of 18 Ty.en_74 Try.func74 rfl rfl rfl ?_
  dsimp only [argEnv]
  have st : St [] w [] [] := St.nil (X := []) (w := w) (by simp [Lo])
  have hF := Fr.refl ([]) w
  refine Wp_seq fun K1 hK1 => ?_
  refine Wp_region (Ls_a (wtd0 rfl) ?_)
  refine a_box rfl rfl rfl rfl st.hp (fun g1 w1 (hp : Hp w1 [(_, Cl [_, _, _, _, _, _, _] _)]) hf hg1 => ?_)
  have st : St [] w1 [(_, Cl [_, _, _, _, _, _, _] _)] [] := st.push hp hf hg1
  have hg1 := Nat.le_trans hF.size hg1
  have hF := hF.step0 hf
  refine Las rfl rfl rfl rfl rfl (Ls_nil (Th_n (hK1 _ _ ?_)))
  refine Wp_seq fun K2 hK2 => ?_
  refine Wp_region (Ls_y (wtd0 rfl) rfl rfl (y_fld rfl rfl Ty.fo_113_1) (Ls_y (wtd0 rfl) rfl rfl (y_load (i := 0) rfl rfl Ty.pl_9 (fun _ e => e ▸ st.hp) rfl rfl) ?_))
  refine Ls_a (wtd0 rfl) ?_
  refine a_call rfl rfl rfl rfl (r12elem_ok _ p.field) (fun v w2 ⟨hv, hf⟩ => ?_)
  subst hv
  have st := st.keep0 hf
  have hF := hF.step0 hf
  have st : St [] w2 [(_, Cl [_, _, _, _, _, _, _] _)] [] := st
  refine Lmv rfl rfl rfl rfl rfl (Ls_bool 6 rfl (fun hc1 => ?_) (fun hc1 => ?_))
  · refine Ls_y (wtdT rfl rfl rfl) rfl rfl (y_fld rfl rfl Ty.fo_113_3) (Ls_y (wtdT rfl rfl rfl) rfl rfl (y_loadm (i := 0) rfl rfl Ty.ag_24 (fun _ e => e ▸ st.hp) rfl rfl rfl) ?_)
    refine Ls_a (wtdT rfl rfl rfl) ?_
    refine a_call rfl rfl rfl rfl (r9check_ok _ p.atF) (fun v w3 ⟨hv, hf⟩ => ?_)
    subst hv
    have st := st.keep0 hf
    have hF := hF.step0 hf
    have st : St [] w3 [(_, Cl [_, _, _, _, _, _, _] _)] [] := st
    refine Ls_y (wtdT rfl rfl rfl) rfl rfl (y_eq rfl rfl rfl) (Ls_y (wtd0 rfl) rfl rfl (y_pick_t rfl rfl rfl) (Lmv rfl rfl rfl rfl rfl (Ls_bool 12 rfl (fun hc2 => ?_) (fun hc2 => ?_))))
    · have hc2 := eT hc2
      refine Ls_y (wtdT rfl rfl rfl) rfl rfl (y_fld rfl rfl Ty.fo_113_3) (Ls_y (wtdT rfl rfl rfl) rfl rfl (y_fld rfl rfl Ty.fo_24_0) (Ls_y (wtdT rfl rfl rfl) rfl rfl (y_load (i := 0) rfl rfl Ty.pl_22 (fun _ e => e ▸ st.hp) rfl rfl) ?_))
      refine Ls_y (wtdT rfl rfl rfl) rfl rfl (y_gt rfl rfl rfl) (Ls_y (wtd0 rfl) rfl rfl (y_pick_t rfl rfl rfl) (Las rfl rfl rfl rfl rfl (Ls_nil (Th_n (hK2 _ _ ?_)))))
      refine Wp_ret (Fq_ret (Res1 rfl rfl) ?_)
      have he1 : r13fits_m p = (decide (0 < p.atF.time)) := by unfold r13fits_m; rewrite [if_pos hc1, if_pos hc2]; rfl
      rewrite [he1]
      exact ⟨rfl, hF⟩
    have hc2 := eF hc2
    refine Ls_s (wtdF rfl rfl rfl) rfl rfl (Ls_s (wtdF rfl rfl rfl) rfl rfl (Ls_s (wtdF rfl rfl rfl) rfl rfl (Ls_s (wtdF rfl rfl rfl) rfl rfl (Ls_y (wtd0 rfl) rfl rfl (y_pick_f rfl rfl rfl) (Las rfl rfl rfl rfl rfl (Ls_nil (Th_n (hK2 _ _ ?_))))))))
    refine Wp_ret (Fq_ret (Res1 rfl rfl) ?_)
    have he2 : r13fits_m p = false := by unfold r13fits_m; rewrite [if_pos hc1, if_neg hc2]; rfl
    rewrite [he2]
    exact ⟨rfl, hF⟩
  have hc1 := bF hc1
  refine Ls_s (wtdF rfl rfl rfl) rfl rfl (Ls_s (wtdF rfl rfl rfl) rfl rfl (Ls_s (wtdF rfl rfl rfl) rfl rfl (Ls_s (wtdF rfl rfl rfl) rfl rfl (Ls_y (wtd0 rfl) rfl rfl (y_pick_f rfl rfl rfl) (Lmv rfl rfl rfl rfl rfl (Ls_s (wtdF rfl rfl rfl) rfl rfl (Ls_s (wtdF rfl rfl rfl) rfl rfl (Ls_s (wtdF rfl rfl rfl) rfl rfl (Ls_s (wtdF rfl rfl rfl) rfl rfl (Ls_y (wtd0 rfl) rfl rfl (y_pick_f rfl rfl rfl) (Las rfl rfl rfl rfl rfl (Ls_nil (Th_n (hK2 _ _ ?_))))))))))))))
  refine Wp_ret (Fq_ret (Res1 rfl rfl) ?_)
  have he3 : r13fits_m p = false := by unfold r13fits_m; rewrite [if_neg hc1]; rfl
  rewrite [he3]
  exact ⟨rfl, hF⟩

structure MapM where
  puts : List PutM
  gone : List TagM
instance : Inhabited MapM := ⟨⟨default, default⟩⟩
instance : DecidableEq MapM := fun a b => decidable_of_iff (a.puts = b.puts ∧ a.gone = b.gone) (by cases a; cases b; simp)
def r13check_c1 (s : MapM) : Bool :=
  (if 4096 < (s.puts.length : Int) then true else decide (4096 < (s.gone.length : Int)))

def r13check_L4 (s : MapM) (s3 : Int) (s4 : Int) (s5 : Int) : Nat → Int → (Int) ⊕ (Int)
  | 0, s7 => .inr (s7)
  | fuel + 1, s7 =>
    if s7 < (s.gone.length : Int) then
      if 0 ≤ (r5compareTag_m (ix s.gone (s7 - 1)) (ix s.gone s7)) then
        .inl 3
      else
        r13check_L4 s s3 s4 s5 fuel (s7 + 1)
    else
      .inr (s7)

def r13check_c2 (s : MapM) (s3 : Int) (s4 : Int) (s5 : Int) : Bool :=
  (if (r13fits_m (ix s.puts s5)) = true then (if (r12hasTag_m s.gone ((ix s.puts s5).tag)) = true then true else (if 0 < s5 then decide (0 ≤ (r5compareTag_m ((ix s.puts (s5 - 1)).tag) ((ix s.puts s5).tag))) else false)) else true)

def r13check_L3 (s : MapM) (s3 : Int) (s4 : Int) : Nat → Int → (Int) ⊕ (Int)
  | 0, s5 => .inr (s5)
  | fuel + 1, s5 =>
    if s5 < (s.puts.length : Int) then
      if (r13check_c2 s s3 s4 s5) = true then
        .inl 3
      else
        r13check_L3 s s3 s4 fuel (s5 + 1)
    else
      .inr (s5)

def r13check_L2 (s : MapM) (s3 : Int) : Nat → Int → (Int) ⊕ (Int)
  | 0, s4 => .inr (s4)
  | fuel + 1, s4 =>
    if s4 < (s.gone.length : Int) then
      if (r5checkTag_m (ix s.gone s4)) = 0 then
        r13check_L2 s s3 fuel (s4 + 1)
      else
        .inl 2
    else
      .inr (s4)

def r13check_L1 (s : MapM) : Nat → Int → (Int) ⊕ (Int)
  | 0, s3 => .inr (s3)
  | fuel + 1, s3 =>
    if s3 < (s.puts.length : Int) then
      if (r5checkTag_m ((ix s.puts s3).tag)) = 0 then
        r13check_L1 s fuel (s3 + 1)
      else
        .inl 2
    else
      .inr (s3)
def r13check_m (s : MapM) : Int :=
  if (r13check_c1 s) = true then
    8
  else
    match r13check_L1 s (((s.puts.length : Int) - (0 : Int)).toNat + 1) (0 : Int) with
    | .inl r => r
    | .inr (s3) =>
      match r13check_L2 s s3 (((s.gone.length : Int) - (0 : Int)).toNat + 1) (0 : Int) with
      | .inl r => r
      | .inr (s4) =>
        match r13check_L3 s s3 s4 (((s.puts.length : Int) - (0 : Int)).toNat + 1) (0 : Int) with
        | .inl r => r
        | .inr (s5) =>
          match r13check_L4 s s3 s4 s5 (((s.gone.length : Int) - (1 : Int)).toNat + 1) (1 : Int) with
          | .inl r => r
          | .inr (s7) =>
            0

theorem r13check_c1_iff (s : MapM) : (r13check_c1 s = true) ↔ ((4096 < (s.puts.length : Int)) ∨ (4096 < (s.gone.length : Int))) := by
  unfold r13check_c1; exact (ci1 decide_eq_true_iff)

theorem r13check_c2_iff (s : MapM) (s3 : Int) (s4 : Int) (s5 : Int) : (r13check_c2 s s3 s4 s5 = true) ↔ (¬ ((r13fits_m (ix s.puts s5)) = true) ∨ (((r12hasTag_m s.gone ((ix s.puts s5).tag)) = true) ∨ ((0 < s5) ∧ (0 ≤ (r5compareTag_m ((ix s.puts (s5 - 1)).tag) ((ix s.puts s5).tag)))))) := by
  unfold r13check_c2; exact (ci4 (ci1 (ci2 decide_eq_true_iff)))

set_option maxRecDepth 20000 in
theorem r13check_ok (X : List Nat) (w : World) (hX : Lo X w) (s : MapM) (A_s_puts : Option Addr) (c_s_puts : Nat) (A_s_gone : Option Addr) (c_s_gone : Nat) (h_s_puts : Sld X w A_s_puts s.puts.length c_s_puts 7 (s.puts.flatMap putMC)) (h_s_gone : Sld X w A_s_gone s.gone.length c_s_gone 3 (s.gone.flatMap tagMC)) :
    Fn Try.prog 52 [.agg #[.slice A_s_puts s.puts.length c_s_puts, .slice A_s_gone s.gone.length c_s_gone]] w fun v w' => v = .int .i64 (r13check_m s) ∧ Fr [] w w' := by
  refine Fn_of 106 Ty.en_52 Try.func52 rfl rfl rfl ?_
  dsimp only [argEnv]
  have st : St X w [] [kS A_s_puts s.puts.length c_s_puts 7 (s.puts.flatMap putMC), kS A_s_gone s.gone.length c_s_gone 3 (s.gone.flatMap tagMC)] := ((St.nil (X := X) (w := w) hX).addK (kS A_s_puts s.puts.length c_s_puts 7 (s.puts.flatMap putMC)) h_s_puts).addK (kS A_s_gone s.gone.length c_s_gone 3 (s.gone.flatMap tagMC)) h_s_gone
  have hF := Fr.refl ([]) w
  have hleA_s_puts := (st.k (i := 0) rfl).le
  have hleA_s_gone := (st.k (i := 1) rfl).le
  refine Wp_seq fun K1 hK1 => ?_
  refine Wp_region (Ls_a (wtd0 rfl) ?_)
  refine a_box rfl rfl rfl rfl st.hp (fun g1 w1 (hp : Hp w1 [(_, Cl [_, _] _)]) hf hg1 => ?_)
  have st : St X w1 [(_, Cl [_, _] _)] [_, _] := st.push hp hf hg1
  have hg1 := Nat.le_trans hF.size hg1
  have hF := hF.step0 hf
  refine Las rfl rfl rfl rfl rfl (Ls_nil (Th_n (hK1 _ _ ?_)))
  refine Wp_seq fun K2 hK2 => ?_
  refine Wp_seq fun K3 hK3 => ?_
  refine use_out hK3 (fun E W => E = [(1, .pointer (some ⟨g1, 0, none⟩)), (17, .bool (r13check_c1 s))] ∧ St X W (hOf st) (kOf st) ∧ Fr ([]) w W) ?_ fun hout1 => ?_
  · rintro E w2 ⟨rfl, st, hF⟩
    have st : St X w2 [(_, Cl [_, _] _)] [_, _] := st
    refine Wp_cond rfl (fun hc1 => ?_) (fun hc1 => ?_)
    · have jhc1 := (r13check_c1_iff s).1 hc1
      refine Wp_seq fun K4 hK4 => ?_
      refine Wp_region (Las rfl rfl rfl rfl rfl (Ls_nil (Th_n (hK4 _ _ ?_))))
      refine Wp_ret (Th_r (Fq_ret (Res1 rfl rfl) ?_))
      have he1 : r13check_m s = 8 := by unfold r13check_m; rewrite [if_pos hc1]; rfl
      rewrite [he1]
      exact ⟨rfl, hF⟩
    have jhc1 := mt (r13check_c1_iff s).2 (bF hc1)
    have hc1 := bF hc1
    refine Wp_skip (Th_n (hK2 _ _ ?_))
    refine Wp_seq fun K5 hK5 => ?_
    refine Wp_seq fun K6 hK6 => ?_
    refine Wp_region (Las rfl rfl rfl rfl rfl (Ls_nil (Th_n (hK6 _ _ ?_))))
    refine Wp_block (use_out hK5 (fun E W => ∃ (s3 : Int), E = [(1, .pointer (some ⟨g1, 0, none⟩)), (3, .int .i64 s3)] ∧ r13check_L1 s (((s.puts.length : Int) - (0 : Int)).toNat + 1) (0 : Int) = .inr (s3) ∧ (0 ≤ s3) ∧ St X W [(some g1, Cl [.slice A_s_puts s.puts.length c_s_puts, .slice A_s_gone s.gone.length c_s_gone] 35)] [kS A_s_puts s.puts.length c_s_puts 7 (s.puts.flatMap putMC), kS A_s_gone s.gone.length c_s_gone 3 (s.gone.flatMap tagMC)] ∧ Fr ([]) w W) ?_ fun hout2 => ?_)
    · rintro E w3 ⟨s3, rfl, hLk1, hinv, st, hF⟩
      refine Wp_seq fun K7 hK7 => ?_
      refine Wp_seq fun K8 hK8 => ?_
      refine Wp_region (Las rfl rfl rfl rfl rfl (Ls_nil (Th_n (hK8 _ _ ?_))))
      refine Wp_block (use_out hK7 (fun E W => ∃ (s4 : Int), E = [(1, .pointer (some ⟨g1, 0, none⟩)), (4, .int .i64 s4)] ∧ r13check_L2 s s3 (((s.gone.length : Int) - (0 : Int)).toNat + 1) (0 : Int) = .inr (s4) ∧ (0 ≤ s4) ∧ St X W [(some g1, Cl [.slice A_s_puts s.puts.length c_s_puts, .slice A_s_gone s.gone.length c_s_gone] 35)] [kS A_s_puts s.puts.length c_s_puts 7 (s.puts.flatMap putMC), kS A_s_gone s.gone.length c_s_gone 3 (s.gone.flatMap tagMC)] ∧ Fr ([]) w W) ?_ fun hout3 => ?_)
      · rintro E w4 ⟨s4, rfl, hLk2, hinv, st, hF⟩
        refine Wp_seq fun K9 hK9 => ?_
        refine Wp_seq fun K10 hK10 => ?_
        refine Wp_region (Las rfl rfl rfl rfl rfl (Ls_nil (Th_n (hK10 _ _ ?_))))
        refine Wp_block (use_out hK9 (fun E W => ∃ (s5 : Int), E = [(1, .pointer (some ⟨g1, 0, none⟩)), (5, .int .i64 s5)] ∧ r13check_L3 s s3 s4 (((s.puts.length : Int) - (0 : Int)).toNat + 1) (0 : Int) = .inr (s5) ∧ (0 ≤ s5) ∧ St X W [(some g1, Cl [.slice A_s_puts s.puts.length c_s_puts, .slice A_s_gone s.gone.length c_s_gone] 35)] [kS A_s_puts s.puts.length c_s_puts 7 (s.puts.flatMap putMC), kS A_s_gone s.gone.length c_s_gone 3 (s.gone.flatMap tagMC)] ∧ Fr ([]) w W) ?_ fun hout4 => ?_)
        · rintro E w5 ⟨s5, rfl, hLk3, hinv, st, hF⟩
          refine Wp_seq fun K11 hK11 => ?_
          refine Wp_seq fun K12 hK12 => ?_
          refine Wp_region (Las rfl rfl rfl rfl rfl (Ls_nil (Th_n (hK12 _ _ ?_))))
          refine Wp_block (use_out hK11 (fun E W => ∃ (s7 : Int), E = [(1, .pointer (some ⟨g1, 0, none⟩)), (7, .int .i64 s7)] ∧ r13check_L4 s s3 s4 s5 (((s.gone.length : Int) - (1 : Int)).toNat + 1) (1 : Int) = .inr (s7) ∧ (1 ≤ s7) ∧ St X W [(some g1, Cl [.slice A_s_puts s.puts.length c_s_puts, .slice A_s_gone s.gone.length c_s_gone] 35)] [kS A_s_puts s.puts.length c_s_puts 7 (s.puts.flatMap putMC), kS A_s_gone s.gone.length c_s_gone 3 (s.gone.flatMap tagMC)] ∧ Fr ([]) w W) ?_ fun hout5 => ?_)
          · rintro E w6 ⟨s7, rfl, hLk4, hinv, st, hF⟩
            refine Wp_seq fun K13 hK13 => ?_
            refine Wp_region (Las rfl rfl rfl rfl rfl (Ls_nil (Th_n (hK13 _ _ ?_))))
            refine Wp_ret (Fq_ret (Res1 rfl rfl) ?_)
            have he2 : r13check_m s = 0 := by unfold r13check_m; rewrite [if_neg hc1, hLk1]; (try dsimp only); all_goals rewrite [hLk2]; (try dsimp only); all_goals rewrite [hLk3]; (try dsimp only); all_goals rewrite [hLk4]; (try dsimp only); all_goals rfl
            rewrite [he2]
            exact ⟨rfl, hF⟩
          refine Wp_loopE (fun m E W => ∃ (s7 : Int), E = [(1, .pointer (some ⟨g1, 0, none⟩)), (7, .int .i64 s7)] ∧ r13check_L4 s s3 s4 s5 m s7 = r13check_L4 s s3 s4 s5 (((s.gone.length : Int) - (1 : Int)).toNat + 1) (1 : Int) ∧ ((s.gone.length : Int) - s7).toNat < m ∧ (1 ≤ s7) ∧ St X W [(some g1, Cl [.slice A_s_puts s.puts.length c_s_puts, .slice A_s_gone s.gone.length c_s_gone] 35)] [kS A_s_puts s.puts.length c_s_puts 7 (s.puts.flatMap putMC), kS A_s_gone s.gone.length c_s_gone 3 (s.gone.flatMap tagMC)] ∧ Fr ([]) w W) (((s.gone.length : Int) - (1 : Int)).toNat + 1) [(1, _), (7, _)] ⟨rfl, rfl, trivial⟩ ?_ ?_
          · exact ⟨_, rfl, rfl, Nat.lt_succ_self _, by first | omega | (simp; done) | (simp; omega), st, hF⟩
          rintro m E w7 ⟨s7, rfl, hL4, hmu, hinv, st, hF⟩
          obtain ⟨fuel, rfl⟩ : ∃ q, m = q + 1 := ⟨m - 1, by omega⟩
          refine Wp_seq fun K14 hK14 => ?_
          refine Wp_seq fun K15 hK15 => ?_
          refine Wp_region (Lmv rfl rfl rfl rfl rfl (Ls_y (wtd0 rfl) rfl rfl (y_fld rfl rfl Ty.fo_35_1) (Ls_y (wtd0 rfl) rfl rfl (y_load (i := 0) rfl rfl Ty.pl_30 (fun _ e => e ▸ st.hp) rfl rfl) ?_)))
          refine Ls_y (wtd0 rfl) rfl rfl (y_lenl rfl rfl Try.underlying30) ?_
          refine Ls_y (wtd0 rfl) rfl rfl (y_lt rfl rfl rfl) (Ls_nil (Th_n (hK15 _ _ ?_)))
          refine Wp_cond rfl (fun hc2 => ?_) (fun hc2 => ?_)
          · have hc2 := dT hc2
            refine Wp_skip (Th_n (hK14 _ _ ?_))
            refine Wp_seq fun K16 hK16 => ?_
            refine Wp_block (Wp_seq fun K17 hK17 => ?_)
            refine Wp_plan (fun W => St X W (pickL (hOf st) [0]) (kOf st)) [(true, 0), (true, 1), (true, 2), (true, 3), (true, 4), (true, 5), (true, 6), (true, 7), (true, 8), (true, 9), (true, 10), (false, 11), (true, 12)] Ty.mx_0 (by kernel_rfl) (by kernel_rfl) rfl ((st.picks [0] (by decide)).drew) ?_
            have st := st.drew
            have hF := hF.step0 (Fr.drew _)
            refine Pl_y rfl (wtd0 rfl) rfl rfl (y_fld rfl rfl Ty.fo_35_1) (Pl_y rfl (wtd0 rfl) rfl rfl (y_load (i := 0) rfl rfl Ty.pl_30 (fun _ h => h.hp) rfl rfl) ?_)
            refine Pmv rfl rfl rfl rfl rfl rfl (Pl_y rfl (wtd0 rfl) rfl rfl (y_sub (c := s7 - 1) rfl rfl rfl (wf_i64 (by first | omega | (simp; done) | (simp; omega)))) ?_)
            obtain ⟨gi1, bi1, egi1⟩ := (st.k (i := 1) rfl).addr (fun _ => rfl) (by decide) (q := s7 - 1) (by first | omega | (simp; done) | (simp; omega)) (by first | omega | (simp; done) | (simp; omega))
            subst egi1
            refine Pl_y rfl (wtd0 rfl) rfl rfl (y_ixa (q := s7 - 1) rfl rfl rfl Ty.es_30 (by first | omega | (simp; done) | (simp; omega)) (by first | omega | (simp; done) | (simp; omega))) ?_
            refine Pl_y rfl (wtd0 rfl) rfl rfl (y_ldk (q := s7 - 1) rfl rfl Ty.ag_43 (fun _ h => h.k (i := 1) rfl) (fun _ => rfl) (by first | omega | (simp; done) | (simp; omega)) (by first | omega | (simp; done) | (simp; omega))) ?_
            refine Pl_y rfl (wtd0 rfl) rfl rfl (y_fld rfl rfl Ty.fo_35_1) (Pl_y rfl (wtd0 rfl) rfl rfl (y_load (i := 0) rfl rfl Ty.pl_30 (fun _ h => h.hp) rfl rfl) ?_)
            refine Pmv rfl rfl rfl rfl rfl rfl (Pl_y rfl (wtd0 rfl) rfl rfl (y_ixa (q := s7) rfl rfl rfl Ty.es_30 (by first | omega | (simp; done) | (simp; omega)) (by first | omega | (simp; done) | (simp; omega))) ?_)
            refine Pl_y rfl (wtd0 rfl) rfl rfl (y_ldk (q := s7) rfl rfl Ty.ag_43 (fun _ h => h.k (i := 1) rfl) (fun _ => rfl) (by first | omega | (simp; done) | (simp; omega)) (by first | omega | (simp; done) | (simp; omega))) ?_
            refine Pl_a rfl (wtd0 rfl) (by rfl) ?_
            refine a_call rfl rfl rfl rfl (r5compareTag_ok _ (ix s.gone (s7 - 1)) (ix s.gone s7)) (fun v w8 ⟨hv, hf⟩ => ?_)
            subst hv
            have st := st.keep0 hf
            have hF := hF.step0 hf
            have st : St X w8 [(_, Cl [_, _] _)] [_, _] := st
            refine ⟨(st.picks [0] (by decide)).takeK 2, ?_⟩
            refine Pl_y rfl (wtd0 rfl) rfl rfl (y_ge rfl rfl rfl) (Pl_nil (Th_n (hK17 _ _ ?_)))
            refine Wp_cond rfl (fun hc3 => ?_) (fun hc3 => ?_)
            · have hc3 := dT hc3
              refine Wp_seq fun K18 hK18 => ?_
              refine Wp_region (Las rfl rfl rfl rfl rfl (Ls_nil (Th_n (hK18 _ _ ?_))))
              refine Wp_ret (Ib_r (Th_r (Th_r (Ib_r (Th_r (Fq_ret (Res1 rfl rfl) ?_))))))
              have hret1 : r13check_L4 s s3 s4 s5 (((s.gone.length : Int) - (1 : Int)).toNat + 1) (1 : Int) = .inl 3 := by rewrite [← hL4, r13check_L4]; rewrite [if_pos hc2, if_pos hc3]; rfl
              have he3 : r13check_m s = 3 := by unfold r13check_m; rewrite [if_neg hc1, hLk1]; (try dsimp only); all_goals rewrite [hLk2]; (try dsimp only); all_goals rewrite [hLk3]; (try dsimp only); all_goals rewrite [hret1]; (try dsimp only); all_goals rfl
              rewrite [he3]
              exact ⟨rfl, hF⟩
            have hc3 := dF hc3
            refine Wp_skip (Ib_n (Th_n (hK16 _ _ ?_)))
            refine Wp_region (Lmv rfl rfl rfl rfl rfl (Ls_y (wtd0 rfl) rfl rfl (y_add (c := s7 + 1) rfl rfl rfl (wf_i64 (by first | omega | (simp; done) | (simp; omega)))) ?_))
            refine Las rfl rfl rfl rfl rfl (Ls_nil (Th_n (?_)))
            have hE1 : r13check_L4 s s3 s4 s5 fuel (s7 + 1) = r13check_L4 s s3 s4 s5 (((s.gone.length : Int) - (1 : Int)).toNat + 1) (1 : Int) := by rewrite [← hL4, r13check_L4]; rewrite [if_pos hc2, if_neg hc3]; rfl
            exact ⟨fuel, [(1, _), (7, _)], Nat.lt_succ_self _, ⟨rfl, rfl, trivial⟩, (s7 + 1), rfl, hE1, by first | omega | (simp; done) | (simp; omega), by first | omega | (simp; done) | (simp; omega), (st.picks [0] (by decide)).pickK [0, 1], hF⟩
          have hc2 := dF hc2
          refine Wp_exit (Th_e (Th_e (Ib_hit (Th_n (?_)))))
          have hE2 : r13check_L4 s s3 s4 s5 (((s.gone.length : Int) - (1 : Int)).toNat + 1) (1 : Int) = .inr (s7) := by rewrite [← hL4, r13check_L4]; rewrite [if_neg hc2]; rfl
          exact hout5 _ [(1, _), (7, _)] _ ⟨rfl, rfl, trivial⟩ ⟨s7, rfl, hE2, by first | omega | (simp; done) | (simp; omega), (st.picks [0] (by decide)).pickK [0, 1], hF⟩
        refine Wp_loopE (fun m E W => ∃ (s5 : Int), E = [(1, .pointer (some ⟨g1, 0, none⟩)), (5, .int .i64 s5)] ∧ r13check_L3 s s3 s4 m s5 = r13check_L3 s s3 s4 (((s.puts.length : Int) - (0 : Int)).toNat + 1) (0 : Int) ∧ ((s.puts.length : Int) - s5).toNat < m ∧ (0 ≤ s5) ∧ St X W [(some g1, Cl [.slice A_s_puts s.puts.length c_s_puts, .slice A_s_gone s.gone.length c_s_gone] 35)] [kS A_s_puts s.puts.length c_s_puts 7 (s.puts.flatMap putMC), kS A_s_gone s.gone.length c_s_gone 3 (s.gone.flatMap tagMC)] ∧ Fr ([]) w W) (((s.puts.length : Int) - (0 : Int)).toNat + 1) [(1, _), (5, _)] ⟨rfl, rfl, trivial⟩ ?_ ?_
        · exact ⟨_, rfl, rfl, Nat.lt_succ_self _, by first | omega | (simp; done) | (simp; omega), st, hF⟩
        rintro m E w9 ⟨s5, rfl, hL3, hmu, hinv, st, hF⟩
        obtain ⟨fuel, rfl⟩ : ∃ q, m = q + 1 := ⟨m - 1, by omega⟩
        refine Wp_seq fun K19 hK19 => ?_
        refine Wp_seq fun K20 hK20 => ?_
        refine Wp_region (Lmv rfl rfl rfl rfl rfl (Ls_y (wtd0 rfl) rfl rfl (y_fld rfl rfl Ty.fo_35_0) (Ls_y (wtd0 rfl) rfl rfl (y_load (i := 0) rfl rfl Ty.pl_33 (fun _ e => e ▸ st.hp) rfl rfl) ?_)))
        refine Ls_y (wtd0 rfl) rfl rfl (y_lenl rfl rfl Try.underlying33) ?_
        refine Ls_y (wtd0 rfl) rfl rfl (y_lt rfl rfl rfl) (Ls_nil (Th_n (hK20 _ _ ?_)))
        refine Wp_cond rfl (fun hc4 => ?_) (fun hc4 => ?_)
        · have hc4 := dT hc4
          refine Wp_skip (Th_n (hK19 _ _ ?_))
          refine Wp_seq fun K21 hK21 => ?_
          refine Wp_block (Wp_seq fun K22 hK22 => ?_)
          refine Wp_region (Ls_y (wtd0 rfl) rfl rfl (y_fld rfl rfl Ty.fo_35_0) (Ls_y (wtd0 rfl) rfl rfl (y_load (i := 0) rfl rfl Ty.pl_33 (fun _ e => e ▸ st.hp) rfl rfl) ?_))
          refine Lmv rfl rfl rfl rfl rfl ?_
          obtain ⟨gi2, bi2, egi2⟩ := (st.k (i := 0) rfl).addr (fun _ => rfl) (by decide) (q := s5) (by first | omega | (simp; done) | (simp; omega)) (by first | omega | (simp; done) | (simp; omega))
          subst egi2
          refine Ls_y (wtd0 rfl) rfl rfl (y_ixa (q := s5) rfl rfl rfl Ty.es_33 (by first | omega | (simp; done) | (simp; omega)) (by first | omega | (simp; done) | (simp; omega))) ?_
          refine Ls_y (wtd0 rfl) rfl rfl (y_ldk (q := s5) rfl rfl Ty.ag_113 (fun _ e => e ▸ st.k (i := 0) rfl) (fun _ => rfl) (by first | omega | (simp; done) | (simp; omega)) (by first | omega | (simp; done) | (simp; omega))) ?_
          refine Ls_a (wtd0 rfl) ?_
          refine a_alloc rfl rfl rfl Ty.zc_113 st.hp (fun g2 w10 (hp : Hp w10 [(_, Cl [_, _] _), (_, Cl [_, _, _, _, _, _, _] _)]) hf hg2 => ?_)
          have st : St X w10 [(_, Cl [_, _] _), (_, Cl [_, _, _, _, _, _, _] _)] [_, _] := st.push hp hf hg2
          have hg2 := Nat.le_trans hF.size hg2
          have hF := hF.step0 hf
          refine Ls_a (wtd0 rfl) ?_
          refine a_storew (i := 1) rfl rfl rfl rfl Ty.sz_113 rfl (by first | assumption | (simp [Value.oneCell', putMC]; done)) st.hp rfl rfl (fun w11 (hp : Hp w11 [(_, Cl [_, _] _), (_, Cl [_, _, _, _, _, _, _] _)]) hf _ => ?_)
          have st : St X w11 [(_, Cl [_, _] _), (_, Cl [_, _, _, _, _, _, _] _)] [_, _] := st.set (i := 1) rfl hp hf
          have hF := hF.step hf (by intro y hy; simp only [List.mem_cons, List.not_mem_nil, or_false] at hy; subst hy; first | (exact Or.inr (by omega)) | (exact Or.inl (kin0 _ _)) | (exact Or.inl (by simp)))
          refine Ls_nil (Th_n (hK22 _ _ ?_))
          refine Wp_seq fun K23 hK23 => ?_
          refine use_out hK23 (fun E W => E = [(1, .pointer (some ⟨g1, 0, none⟩)), (5, .int .i64 s5), (85, .bool (r13check_c2 s s3 s4 s5))] ∧ St X W (hOf st) (kOf st) ∧ Fr ([]) w W) ?_ fun hout6 => ?_
          · rintro E w12 ⟨rfl, st, hF⟩
            have st : St X w12 [(_, Cl [_, _] _), (_, Cl [_, _, _, _, _, _, _] _)] [_, _] := st
            refine Wp_cond rfl (fun hc5 => ?_) (fun hc5 => ?_)
            · have jhc5 := (r13check_c2_iff s s3 s4 s5).1 hc5
              refine Wp_seq fun K24 hK24 => ?_
              refine Wp_region (Las rfl rfl rfl rfl rfl (Ls_nil (Th_n (hK24 _ _ ?_))))
              refine Wp_ret (Ib_r (Th_r (Th_r (Ib_r (Th_r (Fq_ret (Res1 rfl rfl) ?_))))))
              have hret2 : r13check_L3 s s3 s4 (((s.puts.length : Int) - (0 : Int)).toNat + 1) (0 : Int) = .inl 3 := by rewrite [← hL3, r13check_L3]; rewrite [if_pos hc4, if_pos hc5]; rfl
              have he4 : r13check_m s = 3 := by unfold r13check_m; rewrite [if_neg hc1, hLk1]; (try dsimp only); all_goals rewrite [hLk2]; (try dsimp only); all_goals rewrite [hret2]; (try dsimp only); all_goals rfl
              rewrite [he4]
              exact ⟨rfl, hF⟩
            have jhc5 := mt (r13check_c2_iff s s3 s4 s5).2 (bF hc5)
            have hc5 := bF hc5
            refine Wp_skip (Ib_n (Th_n (hK21 _ _ ?_)))
            refine Wp_region (Lmv rfl rfl rfl rfl rfl (Ls_y (wtd0 rfl) rfl rfl (y_add (c := s5 + 1) rfl rfl rfl (wf_i64 (by first | omega | (simp; done) | (simp; omega)))) ?_))
            refine Las rfl rfl rfl rfl rfl (Ls_nil (Th_n (?_)))
            have hE3 : r13check_L3 s s3 s4 fuel (s5 + 1) = r13check_L3 s s3 s4 (((s.puts.length : Int) - (0 : Int)).toNat + 1) (0 : Int) := by rewrite [← hL3, r13check_L3]; rewrite [if_pos hc4, if_neg hc5]; rfl
            exact ⟨fuel, [(1, _), (5, _)], Nat.lt_succ_self _, ⟨rfl, rfl, trivial⟩, (s5 + 1), rfl, hE3, by first | omega | (simp; done) | (simp; omega), by first | omega | (simp; done) | (simp; omega), (st.picks [0] (by decide)).pickK [0, 1], hF⟩
          refine Wp_plan (fun W => St X W (pickL (hOf st) [0, 1]) (kOf st)) [(true, 0), (false, 1), (true, 2), (true, 3), (true, 4), (true, 5), (true, 6), (true, 7), (false, 8), (true, 9), (true, 10), (true, 11), (true, 12), (true, 13), (true, 14), (true, 15), (true, 16), (true, 17), (true, 18), (true, 19), (true, 20), (true, 21), (true, 22), (false, 23), (true, 24), (true, 25), (true, 26)] Ty.mx_0 (by kernel_rfl) (by kernel_rfl) rfl ((st.picks [0, 1] (by decide)).drew) ?_
          have st := st.drew
          have hF := hF.step0 (Fr.drew _)
          refine Pl_y rfl (wtd0 rfl) rfl rfl (y_loadw (i := 1) rfl rfl Ty.ag_113 (fun _ h => h.hp) rfl rfl) ?_
          refine Pl_a rfl (wtd0 rfl) (by rfl) ?_
          refine a_call rfl rfl rfl rfl (r13fits_ok _ (ix s.puts s5)) (fun v w13 ⟨hv, hf⟩ => ?_)
          subst hv
          have st := st.keep0 hf
          have hF := hF.step0 hf
          have st : St X w13 [(_, Cl [_, _] _), (_, Cl [_, _, _, _, _, _, _] _)] [_, _] := st
          refine ⟨(st.picks [0, 1] (by decide)).takeK 2, ?_⟩
          refine Pl_y rfl (wtd0 rfl) rfl rfl (y_not rfl rfl) (Pmv rfl rfl rfl rfl rfl rfl (Pl_bool 62 rfl (fun hc6 => ?_) (fun hc6 => ?_)))
          · have hc6 := bF (nT hc6)
            refine Pl_s rfl (wtdF rfl rfl rfl) rfl rfl (Pl_s rfl (wtdF rfl rfl rfl) rfl rfl (Pl_s rfl (wtdF rfl rfl rfl) rfl rfl (Pl_s rfl (wtdF rfl rfl rfl) rfl rfl (Pl_s rfl (wtdF rfl rfl rfl) rfl rfl (Pl_y rfl (wtd0 rfl) rfl rfl (y_pick_t rfl rfl rfl) (Pmv rfl rfl rfl rfl rfl rfl (Pl_s rfl (wtdF rfl rfl rfl) rfl rfl (Pl_s rfl (wtdF rfl rfl rfl) rfl rfl (Pl_s rfl (wtdF rfl rfl rfl) rfl rfl (Pl_s rfl (wtdU rfl rfl rfl) rfl rfl (Pl_s rfl (wtdU rfl rfl rfl) rfl rfl (Pl_s rfl (wtdU rfl rfl rfl) rfl rfl (Pl_s rfl (wtdU rfl rfl rfl) rfl rfl (Pl_s rfl (wtdU rfl rfl rfl) rfl rfl (Pl_s rfl (wtdU rfl rfl rfl) rfl rfl (Pl_s rfl (wtdU rfl rfl rfl) rfl rfl (Pl_s rfl (wtdU rfl rfl rfl) rfl rfl ?_)))))))))))))))))
            refine Pl_s rfl (wtdU rfl rfl rfl) rfl rfl (Pl_s rfl (wtdU rfl rfl rfl) rfl rfl (Pl_s rfl (wtdU rfl rfl rfl) rfl rfl (Pl_s rfl (wtdF rfl rfl rfl) rfl rfl (Pl_y rfl (wtd0 rfl) rfl rfl (y_pick_t rfl rfl rfl) (Pl_nil (Th_n (?_)))))))
            have hcj1 : r13check_c2 s s3 s4 s5 = true := by unfold r13check_c2; rewrite [if_neg hc6]; rfl
            exact hout6 _ [(1, _), (5, _), (85, _)] _ ⟨rfl, rfl, rfl, trivial⟩ ⟨by rw [hcj1], (st.picks [0, 1] (by decide)).pickK [0, 1], hF⟩
          have hc6 := (nF hc6)
          refine Pl_y rfl (wtdT rfl rfl rfl) rfl rfl (y_fld rfl rfl Ty.fo_35_1) (Pl_y rfl (wtdT rfl rfl rfl) rfl rfl (y_load (i := 0) rfl rfl Ty.pl_30 (fun _ h => h.hp) rfl rfl) ?_)
          refine Pl_y rfl (wtdT rfl rfl rfl) rfl rfl (y_fld rfl rfl Ty.fo_113_0) (Pl_y rfl (wtdT rfl rfl rfl) rfl rfl (y_loadm (i := 1) rfl rfl Ty.ag_43 (fun _ h => h.hp) rfl rfl rfl) ?_)
          refine Pl_a rfl (wtdT rfl rfl rfl) (by rfl) ?_
          refine a_call rfl rfl rfl rfl (r12hasTag_ok (keys (hOf st) ++ X) _ st.Lo s.gone A_s_gone c_s_gone ((ix s.puts s5).tag) (st.k (i := 1) rfl)) (fun v w14 ⟨hv, hf⟩ => ?_)
          subst hv
          have st := st.keep0 hf
          have hF := hF.step0 hf
          have st : St X w14 [(_, Cl [_, _] _), (_, Cl [_, _, _, _, _, _, _] _)] [_, _] := st
          refine ⟨(st.picks [0, 1] (by decide)).takeK 2, ?_⟩
          refine Pl_y rfl (wtd0 rfl) rfl rfl (y_pick_f rfl rfl rfl) (Pmv rfl rfl rfl rfl rfl rfl (Pl_bool 69 rfl (fun hc7 => ?_) (fun hc7 => ?_)))
          · refine Pl_s rfl (wtdF rfl rfl rfl) rfl rfl (Pl_s rfl (wtdF rfl rfl rfl) rfl rfl (Pl_s rfl (wtdF rfl rfl rfl) rfl rfl (Pl_s rfl (wtdU rfl rfl rfl) rfl rfl (Pl_s rfl (wtdU rfl rfl rfl) rfl rfl (Pl_s rfl (wtdU rfl rfl rfl) rfl rfl (Pl_s rfl (wtdU rfl rfl rfl) rfl rfl (Pl_s rfl (wtdU rfl rfl rfl) rfl rfl (Pl_s rfl (wtdU rfl rfl rfl) rfl rfl (Pl_s rfl (wtdU rfl rfl rfl) rfl rfl (Pl_s rfl (wtdU rfl rfl rfl) rfl rfl (Pl_s rfl (wtdU rfl rfl rfl) rfl rfl (Pl_s rfl (wtdU rfl rfl rfl) rfl rfl (Pl_s rfl (wtdU rfl rfl rfl) rfl rfl (Pl_s rfl (wtdF rfl rfl rfl) rfl rfl (Pl_y rfl (wtd0 rfl) rfl rfl (y_pick_t rfl rfl rfl) (Pl_nil (Th_n (?_))))))))))))))))))
            have hcj2 : r13check_c2 s s3 s4 s5 = true := by unfold r13check_c2; rewrite [if_pos hc6, if_pos hc7]; rfl
            exact hout6 _ [(1, _), (5, _), (85, _)] _ ⟨rfl, rfl, rfl, trivial⟩ ⟨by rw [hcj2], (st.picks [0, 1] (by decide)).pickK [0, 1], hF⟩
          have hc7 := bF hc7
          refine Pl_y rfl (wtdT rfl rfl rfl) rfl rfl (y_move rfl rfl) (Pl_y rfl (wtdT rfl rfl rfl) rfl rfl (y_gt rfl rfl rfl) (Pl_y rfl (wtdT rfl rfl rfl) rfl rfl (y_move rfl rfl) (Pl_bool 72 rfl (fun hc8 => ?_) (fun hc8 => ?_))))
          · have hc8 := dT hc8
            refine Pl_y rfl (wtdT rfl rfl rfl) rfl rfl (y_fld rfl rfl Ty.fo_35_0) (Pl_y rfl (wtdT rfl rfl rfl) rfl rfl (y_load (i := 0) rfl rfl Ty.pl_33 (fun _ h => h.hp) rfl rfl) ?_)
            refine Pl_y rfl (wtdT rfl rfl rfl) rfl rfl (y_move rfl rfl) (Pl_y rfl (wtdT rfl rfl rfl) rfl rfl (y_sub (c := s5 - 1) rfl rfl rfl (wf_i64 (by first | omega | (simp; done) | (simp; omega)))) ?_)
            refine Pl_y rfl (wtdT rfl rfl rfl) rfl rfl (y_ixa (q := s5 - 1) rfl rfl rfl Ty.es_33 (by first | omega | (simp; done) | (simp; omega)) (by first | omega | (simp; done) | (simp; omega))) ?_
            refine Pl_y rfl (wtdT rfl rfl rfl) rfl rfl (y_fld rfl rfl Ty.fo_113_0) (Pl_y rfl (wtdT rfl rfl rfl) rfl rfl (y_ldkm (q := s5 - 1) 0 rfl rfl Ty.ag_43 (fun _ h => h.k (i := 0) rfl) (fun _ => rfl) (by first | omega | (simp; done) | (simp; omega)) (by first | omega | (simp; done) | (simp; omega)) rfl rfl) ?_)
            refine Pl_y rfl (wtdT rfl rfl rfl) rfl rfl (y_fld rfl rfl Ty.fo_113_0) (Pl_y rfl (wtdT rfl rfl rfl) rfl rfl (y_loadm (i := 1) rfl rfl Ty.ag_43 (fun _ h => h.hp) rfl rfl rfl) ?_)
            refine Pl_a rfl (wtdT rfl rfl rfl) (by rfl) ?_
            refine a_call rfl rfl rfl rfl (r5compareTag_ok _ ((ix s.puts (s5 - 1)).tag) ((ix s.puts s5).tag)) (fun v w15 ⟨hv, hf⟩ => ?_)
            subst hv
            have st := st.keep0 hf
            have hF := hF.step0 hf
            have st : St X w15 [(_, Cl [_, _] _), (_, Cl [_, _, _, _, _, _, _] _)] [_, _] := st
            refine ⟨(st.picks [0, 1] (by decide)).takeK 2, ?_⟩
            refine Pl_y rfl (wtdT rfl rfl rfl) rfl rfl (y_ge rfl rfl rfl) (Pl_y rfl (wtdT rfl rfl rfl) rfl rfl (y_pick_t rfl rfl rfl) (Pl_y rfl (wtd0 rfl) rfl rfl (y_pick_f rfl rfl rfl) (Pl_nil (Th_n (?_)))))
            have hcj3 : r13check_c2 s s3 s4 s5 = (decide (0 ≤ (r5compareTag_m ((ix s.puts (s5 - 1)).tag) ((ix s.puts s5).tag)))) := by unfold r13check_c2; rewrite [if_pos hc6, if_neg hc7, if_pos hc8]; rfl
            exact hout6 _ [(1, _), (5, _), (85, _)] _ ⟨rfl, rfl, rfl, trivial⟩ ⟨by rw [hcj3], (st.picks [0, 1] (by decide)).pickK [0, 1], hF⟩
          have hc8 := dF hc8
          refine Pl_s rfl (wtdF rfl rfl rfl) rfl rfl (Pl_s rfl (wtdF rfl rfl rfl) rfl rfl (Pl_s rfl (wtdF rfl rfl rfl) rfl rfl (Pl_s rfl (wtdF rfl rfl rfl) rfl rfl (Pl_s rfl (wtdF rfl rfl rfl) rfl rfl (Pl_s rfl (wtdF rfl rfl rfl) rfl rfl (Pl_s rfl (wtdF rfl rfl rfl) rfl rfl (Pl_s rfl (wtdF rfl rfl rfl) rfl rfl (Pl_s rfl (wtdF rfl rfl rfl) rfl rfl (Pl_s rfl (wtdF rfl rfl rfl) rfl rfl (Pl_s rfl (wtdF rfl rfl rfl) rfl rfl (Pl_y rfl (wtdT rfl rfl rfl) rfl rfl (y_pick_f rfl rfl rfl) (Pl_y rfl (wtd0 rfl) rfl rfl (y_pick_f rfl rfl rfl) (Pl_nil (Th_n (?_)))))))))))))))
          have hcj4 : r13check_c2 s s3 s4 s5 = false := by unfold r13check_c2; rewrite [if_pos hc6, if_neg hc7, if_neg hc8]; rfl
          exact hout6 _ [(1, _), (5, _), (85, _)] _ ⟨rfl, rfl, rfl, trivial⟩ ⟨by rw [hcj4], (st.picks [0, 1] (by decide)).pickK [0, 1], hF⟩
        have hc4 := dF hc4
        refine Wp_exit (Th_e (Th_e (Ib_hit (Th_n (?_)))))
        have hE4 : r13check_L3 s s3 s4 (((s.puts.length : Int) - (0 : Int)).toNat + 1) (0 : Int) = .inr (s5) := by rewrite [← hL3, r13check_L3]; rewrite [if_neg hc4]; rfl
        exact hout4 _ [(1, _), (5, _)] _ ⟨rfl, rfl, trivial⟩ ⟨s5, rfl, hE4, by first | omega | (simp; done) | (simp; omega), (st.picks [0] (by decide)).pickK [0, 1], hF⟩
      refine Wp_loopE (fun m E W => ∃ (s4 : Int), E = [(1, .pointer (some ⟨g1, 0, none⟩)), (4, .int .i64 s4)] ∧ r13check_L2 s s3 m s4 = r13check_L2 s s3 (((s.gone.length : Int) - (0 : Int)).toNat + 1) (0 : Int) ∧ ((s.gone.length : Int) - s4).toNat < m ∧ (0 ≤ s4) ∧ St X W [(some g1, Cl [.slice A_s_puts s.puts.length c_s_puts, .slice A_s_gone s.gone.length c_s_gone] 35)] [kS A_s_puts s.puts.length c_s_puts 7 (s.puts.flatMap putMC), kS A_s_gone s.gone.length c_s_gone 3 (s.gone.flatMap tagMC)] ∧ Fr ([]) w W) (((s.gone.length : Int) - (0 : Int)).toNat + 1) [(1, _), (4, _)] ⟨rfl, rfl, trivial⟩ ?_ ?_
      · exact ⟨_, rfl, rfl, Nat.lt_succ_self _, by first | omega | (simp; done) | (simp; omega), st, hF⟩
      rintro m E w16 ⟨s4, rfl, hL2, hmu, hinv, st, hF⟩
      obtain ⟨fuel, rfl⟩ : ∃ q, m = q + 1 := ⟨m - 1, by omega⟩
      refine Wp_seq fun K25 hK25 => ?_
      refine Wp_seq fun K26 hK26 => ?_
      refine Wp_region (Lmv rfl rfl rfl rfl rfl (Ls_y (wtd0 rfl) rfl rfl (y_fld rfl rfl Ty.fo_35_1) (Ls_y (wtd0 rfl) rfl rfl (y_load (i := 0) rfl rfl Ty.pl_30 (fun _ e => e ▸ st.hp) rfl rfl) ?_)))
      refine Ls_y (wtd0 rfl) rfl rfl (y_lenl rfl rfl Try.underlying30) ?_
      refine Ls_y (wtd0 rfl) rfl rfl (y_lt rfl rfl rfl) (Ls_nil (Th_n (hK26 _ _ ?_)))
      refine Wp_cond rfl (fun hc9 => ?_) (fun hc9 => ?_)
      · have hc9 := dT hc9
        refine Wp_skip (Th_n (hK25 _ _ ?_))
        refine Wp_seq fun K27 hK27 => ?_
        refine Wp_block (Wp_seq fun K28 hK28 => ?_)
        refine Wp_region (Ls_y (wtd0 rfl) rfl rfl (y_fld rfl rfl Ty.fo_35_1) (Ls_y (wtd0 rfl) rfl rfl (y_load (i := 0) rfl rfl Ty.pl_30 (fun _ e => e ▸ st.hp) rfl rfl) ?_))
        refine Lmv rfl rfl rfl rfl rfl ?_
        obtain ⟨gi3, bi3, egi3⟩ := (st.k (i := 1) rfl).addr (fun _ => rfl) (by decide) (q := s4) (by first | omega | (simp; done) | (simp; omega)) (by first | omega | (simp; done) | (simp; omega))
        subst egi3
        refine Ls_y (wtd0 rfl) rfl rfl (y_ixa (q := s4) rfl rfl rfl Ty.es_30 (by first | omega | (simp; done) | (simp; omega)) (by first | omega | (simp; done) | (simp; omega))) ?_
        refine Ls_y (wtd0 rfl) rfl rfl (y_ldk (q := s4) rfl rfl Ty.ag_43 (fun _ e => e ▸ st.k (i := 1) rfl) (fun _ => rfl) (by first | omega | (simp; done) | (simp; omega)) (by first | omega | (simp; done) | (simp; omega))) ?_
        refine Ls_a (wtd0 rfl) ?_
        refine a_call rfl rfl rfl rfl (r5checkTag_ok _ (ix s.gone s4)) (fun v w17 ⟨hv, hf⟩ => ?_)
        subst hv
        have st := st.keep0 hf
        have hF := hF.step0 hf
        have st : St X w17 [(_, Cl [_, _] _)] [_, _] := st
        refine Ls_y (wtd0 rfl) rfl rfl (y_ne rfl rfl rfl) (Ls_nil (Th_n (hK28 _ _ ?_)))
        refine Wp_cond rfl (fun hc10 => ?_) (fun hc10 => ?_)
        · have hc10 := neT hc10
          refine Wp_seq fun K29 hK29 => ?_
          refine Wp_region (Las rfl rfl rfl rfl rfl (Ls_nil (Th_n (hK29 _ _ ?_))))
          refine Wp_ret (Ib_r (Th_r (Th_r (Ib_r (Th_r (Fq_ret (Res1 rfl rfl) ?_))))))
          have hret3 : r13check_L2 s s3 (((s.gone.length : Int) - (0 : Int)).toNat + 1) (0 : Int) = .inl 2 := by rewrite [← hL2, r13check_L2]; rewrite [if_pos hc9, if_neg hc10]; rfl
          have he5 : r13check_m s = 2 := by unfold r13check_m; rewrite [if_neg hc1, hLk1]; (try dsimp only); all_goals rewrite [hret3]; (try dsimp only); all_goals rfl
          rewrite [he5]
          exact ⟨rfl, hF⟩
        have hc10 := neF hc10
        refine Wp_skip (Ib_n (Th_n (hK27 _ _ ?_)))
        refine Wp_region (Lmv rfl rfl rfl rfl rfl (Ls_y (wtd0 rfl) rfl rfl (y_add (c := s4 + 1) rfl rfl rfl (wf_i64 (by first | omega | (simp; done) | (simp; omega)))) ?_))
        refine Las rfl rfl rfl rfl rfl (Ls_nil (Th_n (?_)))
        have hE5 : r13check_L2 s s3 fuel (s4 + 1) = r13check_L2 s s3 (((s.gone.length : Int) - (0 : Int)).toNat + 1) (0 : Int) := by rewrite [← hL2, r13check_L2]; rewrite [if_pos hc9, if_pos hc10]; rfl
        exact ⟨fuel, [(1, _), (4, _)], Nat.lt_succ_self _, ⟨rfl, rfl, trivial⟩, (s4 + 1), rfl, hE5, by first | omega | (simp; done) | (simp; omega), by first | omega | (simp; done) | (simp; omega), (st.picks [0] (by decide)).pickK [0, 1], hF⟩
      have hc9 := dF hc9
      refine Wp_exit (Th_e (Th_e (Ib_hit (Th_n (?_)))))
      have hE6 : r13check_L2 s s3 (((s.gone.length : Int) - (0 : Int)).toNat + 1) (0 : Int) = .inr (s4) := by rewrite [← hL2, r13check_L2]; rewrite [if_neg hc9]; rfl
      exact hout3 _ [(1, _), (4, _)] _ ⟨rfl, rfl, trivial⟩ ⟨s4, rfl, hE6, by first | omega | (simp; done) | (simp; omega), (st.picks [0] (by decide)).pickK [0, 1], hF⟩
    refine Wp_loopE (fun m E W => ∃ (s3 : Int), E = [(1, .pointer (some ⟨g1, 0, none⟩)), (3, .int .i64 s3)] ∧ r13check_L1 s m s3 = r13check_L1 s (((s.puts.length : Int) - (0 : Int)).toNat + 1) (0 : Int) ∧ ((s.puts.length : Int) - s3).toNat < m ∧ (0 ≤ s3) ∧ St X W [(some g1, Cl [.slice A_s_puts s.puts.length c_s_puts, .slice A_s_gone s.gone.length c_s_gone] 35)] [kS A_s_puts s.puts.length c_s_puts 7 (s.puts.flatMap putMC), kS A_s_gone s.gone.length c_s_gone 3 (s.gone.flatMap tagMC)] ∧ Fr ([]) w W) (((s.puts.length : Int) - (0 : Int)).toNat + 1) [(1, _), (3, _)] ⟨rfl, rfl, trivial⟩ ?_ ?_
    · exact ⟨_, rfl, rfl, Nat.lt_succ_self _, by first | omega | (simp; done) | (simp; omega), st, hF⟩
    rintro m E w18 ⟨s3, rfl, hL1, hmu, hinv, st, hF⟩
    obtain ⟨fuel, rfl⟩ : ∃ q, m = q + 1 := ⟨m - 1, by omega⟩
    refine Wp_seq fun K30 hK30 => ?_
    refine Wp_seq fun K31 hK31 => ?_
    refine Wp_region (Lmv rfl rfl rfl rfl rfl (Ls_y (wtd0 rfl) rfl rfl (y_fld rfl rfl Ty.fo_35_0) (Ls_y (wtd0 rfl) rfl rfl (y_load (i := 0) rfl rfl Ty.pl_33 (fun _ e => e ▸ st.hp) rfl rfl) ?_)))
    refine Ls_y (wtd0 rfl) rfl rfl (y_lenl rfl rfl Try.underlying33) ?_
    refine Ls_y (wtd0 rfl) rfl rfl (y_lt rfl rfl rfl) (Ls_nil (Th_n (hK31 _ _ ?_)))
    refine Wp_cond rfl (fun hc11 => ?_) (fun hc11 => ?_)
    · have hc11 := dT hc11
      refine Wp_skip (Th_n (hK30 _ _ ?_))
      refine Wp_seq fun K32 hK32 => ?_
      refine Wp_block (Wp_seq fun K33 hK33 => ?_)
      refine Wp_region (Ls_y (wtd0 rfl) rfl rfl (y_fld rfl rfl Ty.fo_35_0) (Ls_y (wtd0 rfl) rfl rfl (y_load (i := 0) rfl rfl Ty.pl_33 (fun _ e => e ▸ st.hp) rfl rfl) ?_))
      refine Lmv rfl rfl rfl rfl rfl ?_
      obtain ⟨gi4, bi4, egi4⟩ := (st.k (i := 0) rfl).addr (fun _ => rfl) (by decide) (q := s3) (by first | omega | (simp; done) | (simp; omega)) (by first | omega | (simp; done) | (simp; omega))
      subst egi4
      refine Ls_y (wtd0 rfl) rfl rfl (y_ixa (q := s3) rfl rfl rfl Ty.es_33 (by first | omega | (simp; done) | (simp; omega)) (by first | omega | (simp; done) | (simp; omega))) ?_
      refine Ls_y (wtd0 rfl) rfl rfl (y_fld rfl rfl Ty.fo_113_0) (Ls_y (wtd0 rfl) rfl rfl (y_ldkm (q := s3) 0 rfl rfl Ty.ag_43 (fun _ e => e ▸ st.k (i := 0) rfl) (fun _ => rfl) (by first | omega | (simp; done) | (simp; omega)) (by first | omega | (simp; done) | (simp; omega)) rfl rfl) ?_)
      refine Ls_a (wtd0 rfl) ?_
      refine a_call rfl rfl rfl rfl (r5checkTag_ok _ ((ix s.puts s3).tag)) (fun v w19 ⟨hv, hf⟩ => ?_)
      subst hv
      have st := st.keep0 hf
      have hF := hF.step0 hf
      have st : St X w19 [(_, Cl [_, _] _)] [_, _] := st
      refine Ls_y (wtd0 rfl) rfl rfl (y_ne rfl rfl rfl) (Ls_nil (Th_n (hK33 _ _ ?_)))
      refine Wp_cond rfl (fun hc12 => ?_) (fun hc12 => ?_)
      · have hc12 := neT hc12
        refine Wp_seq fun K34 hK34 => ?_
        refine Wp_region (Las rfl rfl rfl rfl rfl (Ls_nil (Th_n (hK34 _ _ ?_))))
        refine Wp_ret (Ib_r (Th_r (Th_r (Ib_r (Th_r (Fq_ret (Res1 rfl rfl) ?_))))))
        have hret4 : r13check_L1 s (((s.puts.length : Int) - (0 : Int)).toNat + 1) (0 : Int) = .inl 2 := by rewrite [← hL1, r13check_L1]; rewrite [if_pos hc11, if_neg hc12]; rfl
        have he6 : r13check_m s = 2 := by unfold r13check_m; rewrite [if_neg hc1, hret4]; (try dsimp only); all_goals rfl
        rewrite [he6]
        exact ⟨rfl, hF⟩
      have hc12 := neF hc12
      refine Wp_skip (Ib_n (Th_n (hK32 _ _ ?_)))
      refine Wp_region (Lmv rfl rfl rfl rfl rfl (Ls_y (wtd0 rfl) rfl rfl (y_add (c := s3 + 1) rfl rfl rfl (wf_i64 (by first | omega | (simp; done) | (simp; omega)))) ?_))
      refine Las rfl rfl rfl rfl rfl (Ls_nil (Th_n (?_)))
      have hE7 : r13check_L1 s fuel (s3 + 1) = r13check_L1 s (((s.puts.length : Int) - (0 : Int)).toNat + 1) (0 : Int) := by rewrite [← hL1, r13check_L1]; rewrite [if_pos hc11, if_pos hc12]; rfl
      exact ⟨fuel, [(1, _), (3, _)], Nat.lt_succ_self _, ⟨rfl, rfl, trivial⟩, (s3 + 1), rfl, hE7, by first | omega | (simp; done) | (simp; omega), by first | omega | (simp; done) | (simp; omega), (st.picks [0] (by decide)).pickK [0, 1], hF⟩
    have hc11 := dF hc11
    refine Wp_exit (Th_e (Th_e (Ib_hit (Th_n (?_)))))
    have hE8 : r13check_L1 s (((s.puts.length : Int) - (0 : Int)).toNat + 1) (0 : Int) = .inr (s3) := by rewrite [← hL1, r13check_L1]; rewrite [if_neg hc11]; rfl
    exact hout2 _ [(1, _), (3, _)] _ ⟨rfl, rfl, trivial⟩ ⟨s3, rfl, hE8, by first | omega | (simp; done) | (simp; omega), (st.picks [0] (by decide)).pickK [0, 1], hF⟩
  refine Wp_region (Ls_y (wtd0 rfl) rfl rfl (y_fld rfl rfl Ty.fo_35_0) (Ls_y (wtd0 rfl) rfl rfl (y_load (i := 0) rfl rfl Ty.pl_33 (fun _ e => e ▸ st.hp) rfl rfl) ?_))
  refine Ls_y (wtd0 rfl) rfl rfl (y_lenl rfl rfl Try.underlying33) ?_
  refine Ls_y (wtd0 rfl) rfl rfl (y_gt rfl rfl rfl) (Lmv rfl rfl rfl rfl rfl (Ls_bool 12 rfl (fun hc13 => ?_) (fun hc13 => ?_)))
  · have hc13 := dT hc13
    refine Ls_s (wtdF rfl rfl rfl) rfl rfl (Ls_s (wtdF rfl rfl rfl) rfl rfl (Ls_s (wtdF rfl rfl rfl) rfl rfl (Ls_s (wtdF rfl rfl rfl) rfl rfl (Ls_y (wtd0 rfl) rfl rfl (y_pick_t rfl rfl rfl) (Ls_nil (Th_n (?_)))))))
    have hcj5 : r13check_c1 s = true := by unfold r13check_c1; rewrite [if_pos hc13]; rfl
    exact hout1 _ [(1, _), (17, _)] _ ⟨rfl, rfl, trivial⟩ ⟨by rw [hcj5], (st.picks [0] (by decide)).pickK [0, 1], hF⟩
  have hc13 := dF hc13
  refine Ls_y (wtdT rfl rfl rfl) rfl rfl (y_fld rfl rfl Ty.fo_35_1) (Ls_y (wtdT rfl rfl rfl) rfl rfl (y_load (i := 0) rfl rfl Ty.pl_30 (fun _ e => e ▸ st.hp) rfl rfl) ?_)
  refine Ls_y (wtdT rfl rfl rfl) rfl rfl (y_lenl rfl rfl Try.underlying30) ?_
  refine Ls_y (wtdT rfl rfl rfl) rfl rfl (y_gt rfl rfl rfl) (Ls_y (wtd0 rfl) rfl rfl (y_pick_f rfl rfl rfl) (Ls_nil (Th_n (?_))))
  have hcj6 : r13check_c1 s = (decide (4096 < (s.gone.length : Int))) := by unfold r13check_c1; rewrite [if_neg hc13]; rfl
  exact hout1 _ [(1, _), (17, _)] _ ⟨rfl, rfl, trivial⟩ ⟨by rw [hcj6], (st.picks [0] (by decide)).pickK [0, 1], hF⟩

def r13Tags_L1 (s : MapM) (field : List UInt8) : Nat → (List TagM) → Int → ((List TagM)) ⊕ ((List TagM) × Int)
  | 0, s5, s6 => .inr (s5, s6)
  | fuel + 1, s5, s6 =>
    if s6 < (s.puts.length : Int) then
      if ((ix s.puts s6).field) = field then
        r13Tags_L1 s field fuel (s5 ++ [(ix s.puts s6).tag]) (s6 + 1)
      else
        r13Tags_L1 s field fuel s5 (s6 + 1)
    else
      .inr (s5, s6)
def r13Tags_m (s : MapM) (field : List UInt8) : (List TagM) :=
  if (r13check_m s) = 0 then
    match r13Tags_L1 s field (((s.puts.length : Int) - (0 : Int)).toNat + 1) ([] : List TagM) (0 : Int) with
    | .inl r => r
    | .inr (s5, s6) =>
      s5
  else
    ([] : List TagM)


set_option maxRecDepth 20000 in
theorem r13Tags_ok (X : List Nat) (w : World) (hX : Lo X w) (s : MapM) (A_s_puts : Option Addr) (c_s_puts : Nat) (A_s_gone : Option Addr) (c_s_gone : Nat) (field : List UInt8) (h_s_puts : Sld X w A_s_puts s.puts.length c_s_puts 7 (s.puts.flatMap putMC)) (h_s_gone : Sld X w A_s_gone s.gone.length c_s_gone 3 (s.gone.flatMap tagMC)) (h2 : s.puts.length ≤ 1000000) :
    Fn Try.prog 33 [.agg #[.slice A_s_puts s.puts.length c_s_puts, .slice A_s_gone s.gone.length c_s_gone], sv field] w fun v w' => ∃ (Ar : Option Addr) (cr : Nat), v = .slice Ar (r13Tags_m s field).length cr ∧ Sld X w' Ar (r13Tags_m s field).length cr 3 ((r13Tags_m s field).flatMap tagMC) ∧ Fr [] w w' := by
  refine Fn_of 35 Ty.en_33 Try.func33 rfl rfl rfl ?_
  dsimp only [argEnv]
  have st : St X w [] [kS A_s_puts s.puts.length c_s_puts 7 (s.puts.flatMap putMC), kS A_s_gone s.gone.length c_s_gone 3 (s.gone.flatMap tagMC)] := ((St.nil (X := X) (w := w) hX).addK (kS A_s_puts s.puts.length c_s_puts 7 (s.puts.flatMap putMC)) h_s_puts).addK (kS A_s_gone s.gone.length c_s_gone 3 (s.gone.flatMap tagMC)) h_s_gone
  have hF := Fr.refl ([]) w
  have hleA_s_puts := (st.k (i := 0) rfl).le
  have hleA_s_gone := (st.k (i := 1) rfl).le
  refine Wp_seq fun K1 hK1 => ?_
  refine Wp_region (Ls_a (wtd0 rfl) ?_)
  refine a_box rfl rfl rfl rfl st.hp (fun g1 w1 (hp : Hp w1 [(_, Cl [_, _] _)]) hf hg1 => ?_)
  have st : St X w1 [(_, Cl [_, _] _)] [_, _] := st.push hp hf hg1
  have hg1 := Nat.le_trans hF.size hg1
  have hF := hF.step0 hf
  refine Las rfl rfl rfl rfl rfl (Ls_nil (Th_n (hK1 _ _ ?_)))
  refine Wp_seq fun K2 hK2 => ?_
  refine Wp_seq fun K3 hK3 => ?_
  refine Wp_region (Ls_y (wtd0 rfl) rfl rfl (y_loadw (i := 0) rfl rfl Ty.ag_35 (fun _ e => e ▸ st.hp) rfl rfl) ?_)
  refine Ls_a (wtd0 rfl) ?_
  refine a_call rfl rfl rfl rfl (r13check_ok (keys (hOf st) ++ X) _ st.Lo s A_s_puts c_s_puts A_s_gone c_s_gone (st.k (i := 0) rfl) (st.k (i := 1) rfl)) (fun v w2 ⟨hv, hf⟩ => ?_)
  subst hv
  have st := st.keep0 hf
  have hF := hF.step0 hf
  have st : St X w2 [(_, Cl [_, _] _)] [_, _] := st
  refine Ls_y (wtd0 rfl) rfl rfl (y_ne rfl rfl rfl) (Ls_nil (Th_n (hK3 _ _ ?_)))
  refine Wp_cond rfl (fun hc1 => ?_) (fun hc1 => ?_)
  · have hc1 := neT hc1
    refine Wp_seq fun K4 hK4 => ?_
    refine Wp_region (Las rfl rfl rfl rfl rfl (Ls_nil (Th_n (hK4 _ _ ?_))))
    have st := st.addK (kS none 0 0 3 []) ⟨Rdx.nil, by simp, Nat.le_refl _, Nat.zero_le _⟩
    have st : St X w2 [(_, Cl [_, _] _)] [_, _, _] := st
    refine Wp_ret (Th_r (Fq_ret (Res1 rfl rfl) ?_))
    have he1 : r13Tags_m s field = ([] : List TagM) := by unfold r13Tags_m; rewrite [if_neg hc1]; rfl
    rewrite [he1]
    exact ⟨_, _, rfl, st.out (i := 2) rfl, hF⟩
  have hc1 := neF hc1
  refine Wp_skip (Th_n (hK2 _ _ ?_))
  refine Wp_seq fun K5 hK5 => ?_
  refine Wp_region (Las rfl rfl rfl rfl rfl (Ls_nil (Th_n (hK5 _ _ ?_))))
  refine Wp_seq fun K6 hK6 => ?_
  refine Wp_seq fun K7 hK7 => ?_
  refine Wp_region (Las rfl rfl rfl rfl rfl (Ls_nil (Th_n (hK7 _ _ ?_))))
  refine Wp_block ?_
  have st : St X _ [(some g1, Cl [.slice A_s_puts s.puts.length c_s_puts, .slice A_s_gone s.gone.length c_s_gone] 35), (blkOf none, Cl (([] : List TagM).flatMap tagMC ++ []) 43)] [_, _] := st.addN _
  have how1 : Ow none ([] : List TagM).length 0 3 (([] : List TagM).flatMap tagMC) [] := Ow.nil 3
  have hnew1 : ∀ g, blkOf none = some g → g ∈ ([]) ∨ w.heap.size ≤ g := fun g hg => by cases hg
  refine use_out hK6 (fun E W => ∃ (s5 : List TagM) (s6 : Int) (As5 : Option Addr) (cs5 : Nat) (sps5 : List Value), E = [(1, sv field), (2, .pointer (some ⟨g1, 0, none⟩)), (5, .slice As5 s5.length cs5), (6, .int .i64 s6)] ∧ r13Tags_L1 s field (((s.puts.length : Int) - (0 : Int)).toNat + 1) ([] : List TagM) (0 : Int) = .inr (s5, s6) ∧ (0 ≤ s6 ∧ (s5.length : Int) ≤ s6) ∧ Ow As5 s5.length cs5 3 (s5.flatMap tagMC) sps5 ∧ (∀ g, blkOf As5 = some g → g ∈ ([]) ∨ w.heap.size ≤ g) ∧ St X W [(some g1, Cl [.slice A_s_puts s.puts.length c_s_puts, .slice A_s_gone s.gone.length c_s_gone] 35), (blkOf As5, Cl (s5.flatMap tagMC ++ sps5) 43)] [kS A_s_puts s.puts.length c_s_puts 7 (s.puts.flatMap putMC), kS A_s_gone s.gone.length c_s_gone 3 (s.gone.flatMap tagMC)] ∧ Fr ([]) w W) ?_ fun hout1 => ?_
  · rintro E w3 ⟨s5, s6, As5, cs5, sps5, rfl, hLk1, hinv, hows5, news5, st, hF⟩
    refine Wp_seq fun K8 hK8 => ?_
    refine Wp_region (Lmv rfl rfl rfl rfl rfl (Las rfl rfl rfl rfl rfl (Ls_nil (Th_n (hK8 _ _ ?_)))))
    have st : St X w3 [(_, Cl [_, _] _)] [_, _, _] := st.freeze (i := 1) [0] (by decide) rfl hows5 (by decide)
    refine Wp_ret (Fq_ret (Res1 rfl rfl) ?_)
    have he2 : r13Tags_m s field = s5 := by unfold r13Tags_m; rewrite [if_pos hc1, hLk1]; (try dsimp only); all_goals rfl
    rewrite [he2]
    exact ⟨_, _, rfl, st.out (i := 2) rfl, hF⟩
  refine Wp_loopE (fun m E W => ∃ (s5 : List TagM) (s6 : Int) (As5 : Option Addr) (cs5 : Nat) (sps5 : List Value), E = [(1, sv field), (2, .pointer (some ⟨g1, 0, none⟩)), (5, .slice As5 s5.length cs5), (6, .int .i64 s6)] ∧ r13Tags_L1 s field m s5 s6 = r13Tags_L1 s field (((s.puts.length : Int) - (0 : Int)).toNat + 1) ([] : List TagM) (0 : Int) ∧ ((s.puts.length : Int) - s6).toNat < m ∧ (0 ≤ s6 ∧ (s5.length : Int) ≤ s6) ∧ Ow As5 s5.length cs5 3 (s5.flatMap tagMC) sps5 ∧ (∀ g, blkOf As5 = some g → g ∈ ([]) ∨ w.heap.size ≤ g) ∧ St X W [(some g1, Cl [.slice A_s_puts s.puts.length c_s_puts, .slice A_s_gone s.gone.length c_s_gone] 35), (blkOf As5, Cl (s5.flatMap tagMC ++ sps5) 43)] [kS A_s_puts s.puts.length c_s_puts 7 (s.puts.flatMap putMC), kS A_s_gone s.gone.length c_s_gone 3 (s.gone.flatMap tagMC)] ∧ Fr ([]) w W) (((s.puts.length : Int) - (0 : Int)).toNat + 1) [(1, _), (2, _), (5, _), (6, _)] ⟨rfl, rfl, rfl, rfl, trivial⟩ ?_ ?_
  · exact ⟨_, _, _, _, _, rfl, rfl, Nat.lt_succ_self _, by first | omega | (simp; done) | (simp; omega), how1, hnew1, st, hF⟩
  rintro m E w4 ⟨s5, s6, As5, cs5, sps5, rfl, hL1, hmu, hinv, hows5, news5, st, hF⟩
  obtain ⟨fuel, rfl⟩ : ∃ q, m = q + 1 := ⟨m - 1, by omega⟩
  have hlehows5 := Ow.le hows5
  refine Wp_seq fun K9 hK9 => ?_
  refine Wp_seq fun K10 hK10 => ?_
  refine Wp_region (Lmv rfl rfl rfl rfl rfl (Ls_y (wtd0 rfl) rfl rfl (y_fld rfl rfl Ty.fo_35_0) (Ls_y (wtd0 rfl) rfl rfl (y_load (i := 0) rfl rfl Ty.pl_33 (fun _ e => e ▸ st.hp) rfl rfl) ?_)))
  refine Ls_y (wtd0 rfl) rfl rfl (y_lenl rfl rfl Try.underlying33) ?_
  refine Ls_y (wtd0 rfl) rfl rfl (y_lt rfl rfl rfl) (Ls_nil (Th_n (hK10 _ _ ?_)))
  refine Wp_cond rfl (fun hc2 => ?_) (fun hc2 => ?_)
  · have hc2 := dT hc2
    refine Wp_skip (Th_n (hK9 _ _ ?_))
    refine Wp_seq fun K11 hK11 => ?_
    refine Wp_block (Wp_seq fun K12 hK12 => ?_)
    refine Wp_region (Ls_y (wtd0 rfl) rfl rfl (y_fld rfl rfl Ty.fo_35_0) (Ls_y (wtd0 rfl) rfl rfl (y_load (i := 0) rfl rfl Ty.pl_33 (fun _ e => e ▸ st.hp) rfl rfl) ?_))
    refine Lmv rfl rfl rfl rfl rfl ?_
    obtain ⟨gi1, bi1, egi1⟩ := (st.k (i := 0) rfl).addr (fun _ => rfl) (by decide) (q := s6) (by first | omega | (simp; done) | (simp; omega)) (by first | omega | (simp; done) | (simp; omega))
    subst egi1
    refine Ls_y (wtd0 rfl) rfl rfl (y_ixa (q := s6) rfl rfl rfl Ty.es_33 (by first | omega | (simp; done) | (simp; omega)) (by first | omega | (simp; done) | (simp; omega))) ?_
    refine Ls_y (wtd0 rfl) rfl rfl (y_fld rfl rfl Ty.fo_113_1) (Ls_y (wtd0 rfl) rfl rfl (y_ldk1 (q := s6) 3 rfl rfl Ty.pl_9 (fun _ e => e ▸ st.k (i := 0) rfl) (fun _ => rfl) (by first | omega | (simp; done) | (simp; omega)) (by first | omega | (simp; done) | (simp; omega)) rfl) ?_)
    refine Lmv rfl rfl rfl rfl rfl (Ls_y (wtd0 rfl) rfl rfl (y_eqs rfl rfl rfl) ?_)
    refine Ls_nil (Th_n (hK12 _ _ ?_))
    refine Wp_cond rfl (fun hc3 => ?_) (fun hc3 => ?_)
    · have hc3 := eT hc3
      refine Wp_region (Lmv rfl rfl rfl rfl rfl (Ls_y (wtd0 rfl) rfl rfl (y_fld rfl rfl Ty.fo_35_0) (Ls_y (wtd0 rfl) rfl rfl (y_load (i := 0) rfl rfl Ty.pl_33 (fun _ e => e ▸ st.hp) rfl rfl) ?_)))
      refine Lmv rfl rfl rfl rfl rfl (Ls_y (wtd0 rfl) rfl rfl (y_ixa (q := s6) rfl rfl rfl Ty.es_33 (by first | omega | (simp; done) | (simp; omega)) (by first | omega | (simp; done) | (simp; omega))) ?_)
      refine Ls_y (wtd0 rfl) rfl rfl (y_fld rfl rfl Ty.fo_113_0) (Ls_y (wtd0 rfl) rfl rfl (y_ldkm (q := s6) 0 rfl rfl Ty.ag_43 (fun _ e => e ▸ st.k (i := 0) rfl) (fun _ => rfl) (by first | omega | (simp; done) | (simp; omega)) (by first | omega | (simp; done) | (simp; omega)) rfl rfl) ?_)
      refine Ls_a (wtd0 rfl) ?_
      refine a_bsls (us := [.int .i64 (((ix s.puts s6).tag).id.origin), .int .u32 (((ix s.puts s6).tag).id.seq), .int .i64 (((ix s.puts s6).tag).n)]) rfl rfl rfl rfl Ty.es_30 Ty.zc_43 rfl (by decide) st.hp (fun g2 w5 (hp : Hp w5 [(_, Cl [_, _] _), _, _]) hf hg2 => ?_)
      have how2 : Ow (some ⟨g2, 0, none⟩) [(ix s.puts s6).tag].length 1 3 ([(ix s.puts s6).tag].flatMap tagMC) [] := ⟨rfl, .inr ⟨g2, rfl, rfl, Nat.le_refl _, by unfold maxLen; decide⟩⟩
      have st : St X w5 [(_, Cl [_, _] _), _, _] [_, _] := st.push hp hf hg2
      have st : St X w5 [(_, Cl [_, _] _), _, _] [_, _] := st
      have hg2 := Nat.le_trans hF.size hg2
      have hF := hF.step0 hf
      have hnew2 : ∀ g, blkOf (some ⟨g2, 0, none⟩) = some g → g ∈ ([]) ∨ w.heap.size ≤ g := fun g hg => by simp [blkOf] at hg; subst hg; exact .inr hg2
      refine Ls_a (wtd0 rfl) ?_
      refine a_appM (i := 1) (xs := s5) (ys := [(ix s.puts s6).tag]) (enc := tagMC) rfl rfl rfl rfl rfl rfl Ty.es_30 Ty.zc_43 rfl Ty.by_43 (by decide) (fun _ => rfl) hows5 st.hp rfl (own_src (i := 2) st.hp rfl how2) (own_none how2) (by intro x v hv; simp only [tagMC, List.mem_cons, List.not_mem_nil, or_false] at hv; rcases hv with rfl | rfl | rfl <;> rfl) (by first | (unfold maxLen; omega) | (simp [maxLen]; omega)) (by first | (unfold maxLen; omega) | (simp [maxLen]; omega)) (fun Aa1 ca1 sp1 w6 how3 (hp : Hp w6 [(_, Cl [_, _] _), _, _]) hf hnw1 => ?_)
      have st : St X w6 [(_, Cl [_, _] _), _, _] [_, _] := st.setAny (i := 1) rfl hp hf hnw1
      have st : St X w6 [(_, Cl [_, _] _), _, _] [_, _] := st
      have hnew3 : ∀ g, blkOf Aa1 = some g → g ∈ ([]) ∨ w.heap.size ≤ g := fun g hg => (hnw1 g hg).elim (news5 g) (fun h => .inr (Nat.le_trans hF.size h))
      have hF := hF.step hf (fun y hy => news5 y (by simpa using hy))
      refine Las rfl rfl rfl rfl rfl (Ls_nil (Ib_n (Th_n (hK11 _ _ ?_))))
      refine Wp_region (Lmv rfl rfl rfl rfl rfl (Ls_y (wtd0 rfl) rfl rfl (y_add (c := s6 + 1) rfl rfl rfl (wf_i64 (by first | omega | (simp; done) | (simp; omega)))) ?_))
      refine Las rfl rfl rfl rfl rfl (Ls_nil (Th_n (?_)))
      have hE1 : r13Tags_L1 s field fuel (s5 ++ [(ix s.puts s6).tag]) (s6 + 1) = r13Tags_L1 s field (((s.puts.length : Int) - (0 : Int)).toNat + 1) ([] : List TagM) (0 : Int) := by rewrite [← hL1, r13Tags_L1]; rewrite [if_pos hc2, if_pos hc3]; rfl
      exact ⟨fuel, [(1, _), (2, _), (5, _), (6, _)], Nat.lt_succ_self _, ⟨rfl, rfl, rfl, rfl, trivial⟩, (s5 ++ [(ix s.puts s6).tag]), (s6 + 1), Aa1, ca1, sp1, rfl, hE1, by first | omega | (simp; done) | (simp; omega), by first | omega | (simp; done) | (simp; omega), how3, hnew3, (st.picks [0, 1] (by decide)).pickK [0, 1], hF⟩
    have hc3 := eF hc3
    refine Wp_skip (Ib_n (Th_n (hK11 _ _ ?_)))
    refine Wp_region (Lmv rfl rfl rfl rfl rfl (Ls_y (wtd0 rfl) rfl rfl (y_add (c := s6 + 1) rfl rfl rfl (wf_i64 (by first | omega | (simp; done) | (simp; omega)))) ?_))
    refine Las rfl rfl rfl rfl rfl (Ls_nil (Th_n (?_)))
    have hE2 : r13Tags_L1 s field fuel s5 (s6 + 1) = r13Tags_L1 s field (((s.puts.length : Int) - (0 : Int)).toNat + 1) ([] : List TagM) (0 : Int) := by rewrite [← hL1, r13Tags_L1]; rewrite [if_pos hc2, if_neg hc3]; rfl
    exact ⟨fuel, [(1, _), (2, _), (5, _), (6, _)], Nat.lt_succ_self _, ⟨rfl, rfl, rfl, rfl, trivial⟩, s5, (s6 + 1), As5, cs5, sps5, rfl, hE2, by first | omega | (simp; done) | (simp; omega), by first | omega | (simp; done) | (simp; omega), hows5, news5, (st.picks [0, 1] (by decide)).pickK [0, 1], hF⟩
  have hc2 := dF hc2
  refine Wp_exit (Th_e (Th_e (Ib_hit (Th_n (?_)))))
  have hE3 : r13Tags_L1 s field (((s.puts.length : Int) - (0 : Int)).toNat + 1) ([] : List TagM) (0 : Int) = .inr (s5, s6) := by rewrite [← hL1, r13Tags_L1]; rewrite [if_neg hc2]; rfl
  exact hout1 _ [(1, _), (2, _), (5, _), (6, _)] _ ⟨rfl, rfl, rfl, rfl, trivial⟩ ⟨s5, s6, As5, cs5, sps5, rfl, hE3, by first | omega | (simp; done) | (simp; omega), hows5, news5, (st.picks [0, 1] (by decide)).pickK [0, 1], hF⟩

theorem eqv_113r (a0 : Int) (a1 : Int) (a2 : Int) (a3 : List UInt8) (a4 : Int) (a5 : Int) (a6 : Int) (b0 : Int) (b1 : Int) (b2 : Int) (b3 : List UInt8) (b4 : Int) (b5 : Int) (b6 : Int) : eqVals Try.prog 8 113 [.int .i64 a0, .int .u32 a1, .int .i64 a2, sv a3, .int .i64 a4, .int .u32 a5, .int .i64 a6] [.int .i64 b0, .int .u32 b1, .int .i64 b2, sv b3, .int .i64 b4, .int .u32 b5, .int .i64 b6] = some ((((a0 == b0) && ((a1 == b1) && true)) && ((a2 == b2) && true)) && ((a3 == b3) && ((a4 == b4) && (((a5 == b5) && ((a6 == b6) && true)) && true)))) := by kernel_rfl
theorem eqv_113 (x y : PutM) : eqVals Try.prog 8 113 (putMC x) (putMC y) = some (decide (x = y)) := by
  obtain ⟨⟨⟨a0, a1⟩, a2⟩, a3, a4, ⟨a5, a6⟩⟩ := x
  obtain ⟨⟨⟨b0, b1⟩, b2⟩, b3, b4, ⟨b5, b6⟩⟩ := y
  refine (eqv_113r a0 a1 a2 a3 a4 a5 a6 b0 b1 b2 b3 b4 b5 b6).trans (congrArg some ?_)
  rw [Bool.eq_iff_iff]
  simp
def r13same_c1 (a : MapM) (b : MapM) : Bool :=
  (if (a.puts.length : Int) = (b.puts.length : Int) then !(sameTags_m a.gone b.gone) else true)

def r13same_L1 (a : MapM) (b : MapM) : Nat → Int → (Bool) ⊕ (Int)
  | 0, s5 => .inr (s5)
  | fuel + 1, s5 =>
    if s5 < (a.puts.length : Int) then
      if ix a.puts s5 = ix b.puts s5 then
        r13same_L1 a b fuel (s5 + 1)
      else
        .inl false
    else
      .inr (s5)
def r13same_m (a : MapM) (b : MapM) : Bool :=
  if (r13same_c1 a b) = true then
    false
  else
    match r13same_L1 a b (((a.puts.length : Int) - (0 : Int)).toNat + 1) (0 : Int) with
    | .inl r => r
    | .inr (s5) =>
      true

theorem r13same_c1_iff (a : MapM) (b : MapM) : (r13same_c1 a b = true) ↔ (¬ ((a.puts.length : Int) = (b.puts.length : Int)) ∨ (¬ ((sameTags_m a.gone b.gone) = true))) := by
  unfold r13same_c1; exact (ci4 (by simp))

set_option maxRecDepth 20000 in
theorem r13same_ok (X : List Nat) (w : World) (hX : Lo X w) (a : MapM) (A_a_puts : Option Addr) (c_a_puts : Nat) (A_a_gone : Option Addr) (c_a_gone : Nat) (b : MapM) (A_b_puts : Option Addr) (c_b_puts : Nat) (A_b_gone : Option Addr) (c_b_gone : Nat) (h_a_puts : Sld X w A_a_puts a.puts.length c_a_puts 7 (a.puts.flatMap putMC)) (h_a_gone : Sld X w A_a_gone a.gone.length c_a_gone 3 (a.gone.flatMap tagMC)) (h_b_puts : Sld X w A_b_puts b.puts.length c_b_puts 7 (b.puts.flatMap putMC)) (h_b_gone : Sld X w A_b_gone b.gone.length c_b_gone 3 (b.gone.flatMap tagMC)) :
    Fn Try.prog 36 [.agg #[.slice A_a_puts a.puts.length c_a_puts, .slice A_a_gone a.gone.length c_a_gone], .agg #[.slice A_b_puts b.puts.length c_b_puts, .slice A_b_gone b.gone.length c_b_gone]] w fun v w' => v = .bool (r13same_m a b) ∧ Fr [] w w' := by
  refine Fn_of 39 Ty.en_36 Try.func36 rfl rfl rfl ?_
  dsimp only [argEnv]
  have st : St X w [] [kS A_a_puts a.puts.length c_a_puts 7 (a.puts.flatMap putMC), kS A_a_gone a.gone.length c_a_gone 3 (a.gone.flatMap tagMC), kS A_b_puts b.puts.length c_b_puts 7 (b.puts.flatMap putMC), kS A_b_gone b.gone.length c_b_gone 3 (b.gone.flatMap tagMC)] := ((((St.nil (X := X) (w := w) hX).addK (kS A_a_puts a.puts.length c_a_puts 7 (a.puts.flatMap putMC)) h_a_puts).addK (kS A_a_gone a.gone.length c_a_gone 3 (a.gone.flatMap tagMC)) h_a_gone).addK (kS A_b_puts b.puts.length c_b_puts 7 (b.puts.flatMap putMC)) h_b_puts).addK (kS A_b_gone b.gone.length c_b_gone 3 (b.gone.flatMap tagMC)) h_b_gone
  have hF := Fr.refl ([]) w
  have hleA_a_puts := (st.k (i := 0) rfl).le
  have hleA_a_gone := (st.k (i := 1) rfl).le
  have hleA_b_puts := (st.k (i := 2) rfl).le
  have hleA_b_gone := (st.k (i := 3) rfl).le
  refine Wp_seq fun K1 hK1 => ?_
  refine Wp_region (Ls_a (wtd0 rfl) ?_)
  refine a_box rfl rfl rfl rfl st.hp (fun g1 w1 (hp : Hp w1 [(_, Cl [_, _] _)]) hf hg1 => ?_)
  have st : St X w1 [(_, Cl [_, _] _)] [_, _, _, _] := st.push hp hf hg1
  have hg1 := Nat.le_trans hF.size hg1
  have hF := hF.step0 hf
  refine Ls_a (wtd0 rfl) ?_
  refine a_box rfl rfl rfl rfl st.hp (fun g2 w2 (hp : Hp w2 [(_, Cl [_, _] _), (_, Cl [_, _] _)]) hf hg2 => ?_)
  have st : St X w2 [(_, Cl [_, _] _), (_, Cl [_, _] _)] [_, _, _, _] := st.push hp hf hg2
  have hg2 := Nat.le_trans hF.size hg2
  have hF := hF.step0 hf
  refine Las rfl rfl rfl rfl rfl (Ls_nil (Th_n (hK1 _ _ ?_)))
  refine Wp_seq fun K2 hK2 => ?_
  refine Wp_seq fun K3 hK3 => ?_
  refine use_out hK3 (fun E W => E = [(2, .pointer (some ⟨g1, 0, none⟩)), (3, .pointer (some ⟨g2, 0, none⟩)), (20, .bool (r13same_c1 a b))] ∧ St X W (hOf st) (kOf st) ∧ Fr ([]) w W) ?_ fun hout1 => ?_
  · rintro E w3 ⟨rfl, st, hF⟩
    have st : St X w3 [(_, Cl [_, _] _), (_, Cl [_, _] _)] [_, _, _, _] := st
    refine Wp_cond rfl (fun hc1 => ?_) (fun hc1 => ?_)
    · have jhc1 := (r13same_c1_iff a b).1 hc1
      refine Wp_seq fun K4 hK4 => ?_
      refine Wp_region (Las rfl rfl rfl rfl rfl (Ls_nil (Th_n (hK4 _ _ ?_))))
      refine Wp_ret (Th_r (Fq_ret (Res1 rfl rfl) ?_))
      have he1 : r13same_m a b = false := by unfold r13same_m; rewrite [if_pos hc1]; rfl
      rewrite [he1]
      exact ⟨rfl, hF⟩
    have jhc1 := mt (r13same_c1_iff a b).2 (bF hc1)
    have hc1 := bF hc1
    refine Wp_skip (Th_n (hK2 _ _ ?_))
    refine Wp_seq fun K5 hK5 => ?_
    refine Wp_seq fun K6 hK6 => ?_
    refine Wp_region (Las rfl rfl rfl rfl rfl (Ls_nil (Th_n (hK6 _ _ ?_))))
    refine Wp_block (use_out hK5 (fun E W => ∃ (s5 : Int), E = [(2, .pointer (some ⟨g1, 0, none⟩)), (3, .pointer (some ⟨g2, 0, none⟩)), (5, .int .i64 s5)] ∧ r13same_L1 a b (((a.puts.length : Int) - (0 : Int)).toNat + 1) (0 : Int) = .inr (s5) ∧ (0 ≤ s5) ∧ St X W [(some g1, Cl [.slice A_a_puts a.puts.length c_a_puts, .slice A_a_gone a.gone.length c_a_gone] 35), (some g2, Cl [.slice A_b_puts b.puts.length c_b_puts, .slice A_b_gone b.gone.length c_b_gone] 35)] [kS A_a_puts a.puts.length c_a_puts 7 (a.puts.flatMap putMC), kS A_a_gone a.gone.length c_a_gone 3 (a.gone.flatMap tagMC), kS A_b_puts b.puts.length c_b_puts 7 (b.puts.flatMap putMC), kS A_b_gone b.gone.length c_b_gone 3 (b.gone.flatMap tagMC)] ∧ Fr ([]) w W) ?_ fun hout2 => ?_)
    · rintro E w4 ⟨s5, rfl, hLk1, hinv, st, hF⟩
      refine Wp_seq fun K7 hK7 => ?_
      refine Wp_region (Las rfl rfl rfl rfl rfl (Ls_nil (Th_n (hK7 _ _ ?_))))
      refine Wp_ret (Fq_ret (Res1 rfl rfl) ?_)
      have he2 : r13same_m a b = true := by unfold r13same_m; rewrite [if_neg hc1, hLk1]; (try dsimp only); all_goals rfl
      rewrite [he2]
      exact ⟨rfl, hF⟩
    refine Wp_loopE (fun m E W => ∃ (s5 : Int), E = [(2, .pointer (some ⟨g1, 0, none⟩)), (3, .pointer (some ⟨g2, 0, none⟩)), (5, .int .i64 s5)] ∧ r13same_L1 a b m s5 = r13same_L1 a b (((a.puts.length : Int) - (0 : Int)).toNat + 1) (0 : Int) ∧ ((a.puts.length : Int) - s5).toNat < m ∧ (0 ≤ s5) ∧ St X W [(some g1, Cl [.slice A_a_puts a.puts.length c_a_puts, .slice A_a_gone a.gone.length c_a_gone] 35), (some g2, Cl [.slice A_b_puts b.puts.length c_b_puts, .slice A_b_gone b.gone.length c_b_gone] 35)] [kS A_a_puts a.puts.length c_a_puts 7 (a.puts.flatMap putMC), kS A_a_gone a.gone.length c_a_gone 3 (a.gone.flatMap tagMC), kS A_b_puts b.puts.length c_b_puts 7 (b.puts.flatMap putMC), kS A_b_gone b.gone.length c_b_gone 3 (b.gone.flatMap tagMC)] ∧ Fr ([]) w W) (((a.puts.length : Int) - (0 : Int)).toNat + 1) [(2, _), (3, _), (5, _)] ⟨rfl, rfl, rfl, trivial⟩ ?_ ?_
    · exact ⟨_, rfl, rfl, Nat.lt_succ_self _, by first | omega | (simp; done) | (simp; omega), st, hF⟩
    rintro m E w5 ⟨s5, rfl, hL1, hmu, hinv, st, hF⟩
    obtain ⟨fuel, rfl⟩ : ∃ q, m = q + 1 := ⟨m - 1, by omega⟩
    refine Wp_seq fun K8 hK8 => ?_
    refine Wp_seq fun K9 hK9 => ?_
    refine Wp_region (Lmv rfl rfl rfl rfl rfl (Ls_y (wtd0 rfl) rfl rfl (y_fld rfl rfl Ty.fo_35_0) (Ls_y (wtd0 rfl) rfl rfl (y_load (i := 0) rfl rfl Ty.pl_33 (fun _ e => e ▸ st.hp) rfl rfl) ?_)))
    refine Ls_y (wtd0 rfl) rfl rfl (y_lenl rfl rfl Try.underlying33) ?_
    refine Ls_y (wtd0 rfl) rfl rfl (y_lt rfl rfl rfl) (Ls_nil (Th_n (hK9 _ _ ?_)))
    refine Wp_cond rfl (fun hc2 => ?_) (fun hc2 => ?_)
    · have hc2 := dT hc2
      refine Wp_skip (Th_n (hK8 _ _ ?_))
      refine Wp_seq fun K10 hK10 => ?_
      refine Wp_block (Wp_seq fun K11 hK11 => ?_)
      refine Wp_plan (fun W => St X W (pickL (hOf st) [0, 1]) (kOf st)) [(true, 0), (true, 1), (true, 2), (true, 3), (true, 4), (true, 5), (true, 6), (true, 7), (true, 8), (true, 9), (true, 10)] Ty.mx_0 (by kernel_rfl) (by kernel_rfl) rfl ((st.picks [0, 1] (by decide)).drew) ?_
      have st := st.drew
      have hF := hF.step0 (Fr.drew _)
      refine Pl_y rfl (wtd0 rfl) rfl rfl (y_fld rfl rfl Ty.fo_35_0) (Pl_y rfl (wtd0 rfl) rfl rfl (y_load (i := 0) rfl rfl Ty.pl_33 (fun _ h => h.hp) rfl rfl) ?_)
      refine Pmv rfl rfl rfl rfl rfl rfl ?_
      obtain ⟨gi1, bi1, egi1⟩ := (st.k (i := 0) rfl).addr (fun _ => rfl) (by decide) (q := s5) (by first | omega | (simp; done) | (simp; omega)) (by first | omega | (simp; done) | (simp; omega))
      subst egi1
      refine Pl_y rfl (wtd0 rfl) rfl rfl (y_ixa (q := s5) rfl rfl rfl Ty.es_33 (by first | omega | (simp; done) | (simp; omega)) (by first | omega | (simp; done) | (simp; omega))) ?_
      refine Pl_y rfl (wtd0 rfl) rfl rfl (y_ldk (q := s5) rfl rfl Ty.ag_113 (fun _ h => h.k (i := 0) rfl) (fun _ => rfl) (by first | omega | (simp; done) | (simp; omega)) (by first | omega | (simp; done) | (simp; omega))) ?_
      refine Pl_y rfl (wtd0 rfl) rfl rfl (y_fld rfl rfl Ty.fo_35_0) (Pl_y rfl (wtd0 rfl) rfl rfl (y_load (i := 1) rfl rfl Ty.pl_33 (fun _ h => h.hp) rfl rfl) ?_)
      refine Pmv rfl rfl rfl rfl rfl rfl ?_
      obtain ⟨gi2, bi2, egi2⟩ := (st.k (i := 2) rfl).addr (fun _ => rfl) (by decide) (q := s5) (by first | omega | (simp; done) | (simp; omega)) (by first | omega | (simp; done) | (simp; omega))
      subst egi2
      refine Pl_y rfl (wtd0 rfl) rfl rfl (y_ixa (q := s5) rfl rfl rfl Ty.es_33 (by first | omega | (simp; done) | (simp; omega)) (by first | omega | (simp; done) | (simp; omega))) ?_
      refine Pl_y rfl (wtd0 rfl) rfl rfl (y_ldk (q := s5) rfl rfl Ty.ag_113 (fun _ h => h.k (i := 2) rfl) (fun _ => rfl) (by first | omega | (simp; done) | (simp; omega)) (by first | omega | (simp; done) | (simp; omega))) ?_
      refine Pl_y rfl (wtd0 rfl) rfl rfl (y_nev (b := decide (ix a.puts s5 = ix b.puts s5)) rfl rfl rfl Ty.eg_113 (by rw [Ty.ag_113]; simp) (eqv_113 (ix a.puts s5) (ix b.puts s5))) ?_
      refine Pl_nil (Th_n (hK11 _ _ ?_))
      refine Wp_cond rfl (fun hc3 => ?_) (fun hc3 => ?_)
      · have hc3 := dF (nT hc3)
        refine Wp_seq fun K12 hK12 => ?_
        refine Wp_region (Las rfl rfl rfl rfl rfl (Ls_nil (Th_n (hK12 _ _ ?_))))
        refine Wp_ret (Ib_r (Th_r (Th_r (Ib_r (Th_r (Fq_ret (Res1 rfl rfl) ?_))))))
        have hret1 : r13same_L1 a b (((a.puts.length : Int) - (0 : Int)).toNat + 1) (0 : Int) = .inl false := by rewrite [← hL1, r13same_L1]; rewrite [if_pos hc2, if_neg hc3]; rfl
        have he3 : r13same_m a b = false := by unfold r13same_m; rewrite [if_neg hc1, hret1]; (try dsimp only); all_goals rfl
        rewrite [he3]
        exact ⟨rfl, hF⟩
      have hc3 := dT (nF hc3)
      refine Wp_skip (Ib_n (Th_n (hK10 _ _ ?_)))
      refine Wp_region (Lmv rfl rfl rfl rfl rfl (Ls_y (wtd0 rfl) rfl rfl (y_add (c := s5 + 1) rfl rfl rfl (wf_i64 (by first | omega | (simp; done) | (simp; omega)))) ?_))
      refine Las rfl rfl rfl rfl rfl (Ls_nil (Th_n (?_)))
      have hE1 : r13same_L1 a b fuel (s5 + 1) = r13same_L1 a b (((a.puts.length : Int) - (0 : Int)).toNat + 1) (0 : Int) := by rewrite [← hL1, r13same_L1]; rewrite [if_pos hc2, if_pos hc3]; rfl
      exact ⟨fuel, [(2, _), (3, _), (5, _)], Nat.lt_succ_self _, ⟨rfl, rfl, rfl, trivial⟩, (s5 + 1), rfl, hE1, by first | omega | (simp; done) | (simp; omega), by first | omega | (simp; done) | (simp; omega), (st.picks [0, 1] (by decide)).pickK [0, 1, 2, 3], hF⟩
    have hc2 := dF hc2
    refine Wp_exit (Th_e (Th_e (Ib_hit (Th_n (?_)))))
    have hE2 : r13same_L1 a b (((a.puts.length : Int) - (0 : Int)).toNat + 1) (0 : Int) = .inr (s5) := by rewrite [← hL1, r13same_L1]; rewrite [if_neg hc2]; rfl
    exact hout2 _ [(2, _), (3, _), (5, _)] _ ⟨rfl, rfl, rfl, trivial⟩ ⟨s5, rfl, hE2, by first | omega | (simp; done) | (simp; omega), (st.picks [0, 1] (by decide)).pickK [0, 1, 2, 3], hF⟩
  refine Wp_region (Ls_y (wtd0 rfl) rfl rfl (y_fld rfl rfl Ty.fo_35_0) (Ls_y (wtd0 rfl) rfl rfl (y_load (i := 0) rfl rfl Ty.pl_33 (fun _ e => e ▸ st.hp) rfl rfl) ?_))
  refine Ls_y (wtd0 rfl) rfl rfl (y_lenl rfl rfl Try.underlying33) ?_
  refine Ls_y (wtd0 rfl) rfl rfl (y_fld rfl rfl Ty.fo_35_0) (Ls_y (wtd0 rfl) rfl rfl (y_load (i := 1) rfl rfl Ty.pl_33 (fun _ e => e ▸ st.hp) rfl rfl) ?_)
  refine Ls_y (wtd0 rfl) rfl rfl (y_lenl rfl rfl Try.underlying33) ?_
  refine Ls_y (wtd0 rfl) rfl rfl (y_ne rfl rfl rfl) (Lmv rfl rfl rfl rfl rfl (Ls_bool 13 rfl (fun hc4 => ?_) (fun hc4 => ?_)))
  · have hc4 := neT hc4
    refine Ls_s (wtdF rfl rfl rfl) rfl rfl (Ls_s (wtdF rfl rfl rfl) rfl rfl (Ls_s (wtdF rfl rfl rfl) rfl rfl (Ls_s (wtdF rfl rfl rfl) rfl rfl (Ls_s (wtdF rfl rfl rfl) rfl rfl (Ls_s (wtdF rfl rfl rfl) rfl rfl (Ls_y (wtd0 rfl) rfl rfl (y_pick_t rfl rfl rfl) (Ls_nil (Th_n (?_)))))))))
    have hcj1 : r13same_c1 a b = true := by unfold r13same_c1; rewrite [if_neg hc4]; rfl
    exact hout1 _ [(2, _), (3, _), (20, _)] _ ⟨rfl, rfl, rfl, trivial⟩ ⟨by rw [hcj1], (st.picks [0, 1] (by decide)).pickK [0, 1, 2, 3], hF⟩
  have hc4 := neF hc4
  refine Ls_y (wtdT rfl rfl rfl) rfl rfl (y_fld rfl rfl Ty.fo_35_1) (Ls_y (wtdT rfl rfl rfl) rfl rfl (y_load (i := 0) rfl rfl Ty.pl_30 (fun _ e => e ▸ st.hp) rfl rfl) ?_)
  refine Ls_y (wtdT rfl rfl rfl) rfl rfl (y_fld rfl rfl Ty.fo_35_1) (Ls_y (wtdT rfl rfl rfl) rfl rfl (y_load (i := 1) rfl rfl Ty.pl_30 (fun _ e => e ▸ st.hp) rfl rfl) ?_)
  refine Ls_a (wtdT rfl rfl rfl) ?_
  refine a_call rfl rfl rfl rfl (sameTags_ok (keys (hOf st) ++ X) _ st.Lo a.gone A_a_gone c_a_gone b.gone A_b_gone c_b_gone (st.k (i := 1) rfl) (st.k (i := 3) rfl)) (fun v w6 ⟨hv, hf⟩ => ?_)
  subst hv
  have st := st.keep0 hf
  have hF := hF.step0 hf
  have st : St X w6 [(_, Cl [_, _] _), (_, Cl [_, _] _)] [_, _, _, _] := st
  refine Ls_y (wtdT rfl rfl rfl) rfl rfl (y_not rfl rfl) (Ls_y (wtd0 rfl) rfl rfl (y_pick_f rfl rfl rfl) (Ls_nil (Th_n (?_))))
  have hcj2 : r13same_c1 a b = (!(sameTags_m a.gone b.gone)) := by unfold r13same_c1; rewrite [if_pos hc4]; rfl
  exact hout1 _ [(2, _), (3, _), (20, _)] _ ⟨rfl, rfl, rfl, trivial⟩ ⟨by rw [hcj2], (st.picks [0, 1] (by decide)).pickK [0, 1, 2, 3], hF⟩

def r14kind_m (act : Int) : Int :=
  if act = 1 then
    1
  else
    if act = 2 then
      2
    else
      if act = 3 then
        3
      else
        if act = 4 then
          3
        else
          if act = 5 then
            4
          else
            if act = 6 then
              4
            else
              0


set_option maxRecDepth 20000 in
theorem r14kind_ok (w : World) (act : Int) :
    Fn Try.prog 28 [.int .i64 act] w fun v w' => v = .int .i64 (r14kind_m act) ∧ Fr [] w w' := by
  refine Fn_of 14 Ty.en_28 Try.func28 rfl rfl rfl ?_
  dsimp only [argEnv]
  have st : St [] w [] [] := St.nil (X := []) (w := w) (by simp [Lo])
  have hF := Fr.refl ([]) w
  refine Wp_seq fun K1 hK1 => ?_
  refine Wp_region (Las rfl rfl rfl rfl rfl (Ls_nil (Th_n (hK1 _ _ ?_))))
  refine Wp_seq fun K2 hK2 => ?_
  refine Wp_seq fun K3 hK3 => ?_
  refine Wp_region (Lmv rfl rfl rfl rfl rfl (Ls_nil (Th_n (hK3 _ _ ?_))))
  refine Wp_block (Wp_seq fun K4 hK4 => ?_)
  refine Wp_region (Ls_y (wtd0 rfl) rfl rfl (y_eq rfl rfl rfl) (Las rfl rfl rfl rfl rfl (Ls_nil (Th_n (hK4 _ _ ?_)))))
  refine Wp_cond rfl (fun hc1 => ?_) (fun hc1 => ?_)
  · have hc1 := eT hc1
    refine Wp_seq fun K5 hK5 => ?_
    refine Wp_region (Las rfl rfl rfl rfl rfl (Ls_nil (Th_n (hK5 _ _ ?_))))
    refine Wp_ret (Ib_r (Th_r (Fq_ret (Res1 rfl rfl) ?_)))
    have he1 : r14kind_m act = 1 := by unfold r14kind_m; rewrite [if_pos hc1]; rfl
    rewrite [he1]
    exact ⟨rfl, hF⟩
  have hc1 := eF hc1
  refine Wp_seq fun K6 hK6 => ?_
  refine Wp_region (Ls_y (wtd0 rfl) rfl rfl (y_eq rfl rfl rfl) (Las rfl rfl rfl rfl rfl (Ls_nil (Th_n (hK6 _ _ ?_)))))
  refine Wp_cond rfl (fun hc2 => ?_) (fun hc2 => ?_)
  · have hc2 := eT hc2
    refine Wp_seq fun K7 hK7 => ?_
    refine Wp_region (Las rfl rfl rfl rfl rfl (Ls_nil (Th_n (hK7 _ _ ?_))))
    refine Wp_ret (Ib_r (Th_r (Fq_ret (Res1 rfl rfl) ?_)))
    have he2 : r14kind_m act = 2 := by unfold r14kind_m; rewrite [if_neg hc1, if_pos hc2]; rfl
    rewrite [he2]
    exact ⟨rfl, hF⟩
  have hc2 := eF hc2
  refine Wp_seq fun K8 hK8 => ?_
  refine Wp_seq fun K9 hK9 => ?_
  refine Wp_region (Ls_y (wtd0 rfl) rfl rfl (y_eq rfl rfl rfl) (Las rfl rfl rfl rfl rfl (Ls_nil (Th_n (hK9 _ _ ?_)))))
  refine Wp_cond rfl (fun hc3 => ?_) (fun hc3 => ?_)
  · have hc3 := eT hc3
    refine Wp_skip (Th_n (hK8 _ _ ?_))
    refine Wp_cond rfl (fun _ => ?_) (fun hc4 => absurd hc4 (by simp [hc3]))
    refine Wp_seq fun K10 hK10 => ?_
    refine Wp_region (Las rfl rfl rfl rfl rfl (Ls_nil (Th_n (hK10 _ _ ?_))))
    refine Wp_ret (Ib_r (Th_r (Fq_ret (Res1 rfl rfl) ?_)))
    have he3 : r14kind_m act = 3 := by unfold r14kind_m; rewrite [if_neg hc1, if_neg hc2, if_pos hc3]; rfl
    rewrite [he3]
    exact ⟨rfl, hF⟩
  have hc3 := eF hc3
  refine Wp_region (Ls_y (wtd0 rfl) rfl rfl (y_eq rfl rfl rfl) (Las rfl rfl rfl rfl rfl (Ls_nil (Th_n (hK8 _ _ ?_)))))
  refine Wp_cond rfl (fun hc5 => ?_) (fun hc5 => ?_)
  · have hc5 := eT hc5
    refine Wp_seq fun K11 hK11 => ?_
    refine Wp_region (Las rfl rfl rfl rfl rfl (Ls_nil (Th_n (hK11 _ _ ?_))))
    refine Wp_ret (Ib_r (Th_r (Fq_ret (Res1 rfl rfl) ?_)))
    have he4 : r14kind_m act = 3 := by unfold r14kind_m; rewrite [if_neg hc1, if_neg hc2, if_neg hc3, if_pos hc5]; rfl
    rewrite [he4]
    exact ⟨rfl, hF⟩
  have hc5 := eF hc5
  refine Wp_seq fun K12 hK12 => ?_
  refine Wp_seq fun K13 hK13 => ?_
  refine Wp_region (Ls_y (wtd0 rfl) rfl rfl (y_eq rfl rfl rfl) (Las rfl rfl rfl rfl rfl (Ls_nil (Th_n (hK13 _ _ ?_)))))
  refine Wp_cond rfl (fun hc6 => ?_) (fun hc6 => ?_)
  · have hc6 := eT hc6
    refine Wp_skip (Th_n (hK12 _ _ ?_))
    refine Wp_cond rfl (fun _ => ?_) (fun hc7 => absurd hc7 (by simp [hc6]))
    refine Wp_seq fun K14 hK14 => ?_
    refine Wp_region (Las rfl rfl rfl rfl rfl (Ls_nil (Th_n (hK14 _ _ ?_))))
    refine Wp_ret (Ib_r (Th_r (Fq_ret (Res1 rfl rfl) ?_)))
    have he5 : r14kind_m act = 4 := by unfold r14kind_m; rewrite [if_neg hc1, if_neg hc2, if_neg hc3, if_neg hc5, if_pos hc6]; rfl
    rewrite [he5]
    exact ⟨rfl, hF⟩
  have hc6 := eF hc6
  refine Wp_region (Ls_y (wtd0 rfl) rfl rfl (y_eq rfl rfl rfl) (Las rfl rfl rfl rfl rfl (Ls_nil (Th_n (hK12 _ _ ?_)))))
  refine Wp_cond rfl (fun hc8 => ?_) (fun hc8 => ?_)
  · have hc8 := eT hc8
    refine Wp_seq fun K15 hK15 => ?_
    refine Wp_region (Las rfl rfl rfl rfl rfl (Ls_nil (Th_n (hK15 _ _ ?_))))
    refine Wp_ret (Ib_r (Th_r (Fq_ret (Res1 rfl rfl) ?_)))
    have he6 : r14kind_m act = 4 := by unfold r14kind_m; rewrite [if_neg hc1, if_neg hc2, if_neg hc3, if_neg hc5, if_neg hc6, if_pos hc8]; rfl
    rewrite [he6]
    exact ⟨rfl, hF⟩
  have hc8 := eF hc8
  refine Wp_skip (Ib_n (Th_n (hK2 _ _ ?_)))
  refine Wp_seq fun K16 hK16 => ?_
  refine Wp_region (Las rfl rfl rfl rfl rfl (Ls_nil (Th_n (hK16 _ _ ?_))))
  refine Wp_ret (Fq_ret (Res1 rfl rfl) ?_)
  have he7 : r14kind_m act = 0 := by unfold r14kind_m; rewrite [if_neg hc1, if_neg hc2, if_neg hc3, if_neg hc5, if_neg hc6, if_neg hc8]; rfl
  rewrite [he7]
  exact ⟨rfl, hF⟩

def r14timed_m (act : Int) : Bool :=
  if act = 1 then
    true
  else
    act == 5


set_option maxRecDepth 20000 in
theorem r14timed_ok (w : World) (act : Int) :
    Fn Try.prog 31 [.int .i64 act] w fun v w' => v = .bool (r14timed_m act) ∧ Fr [] w w' := by
  refine Fn_of 9 Ty.en_31 Try.func31 rfl rfl rfl ?_
  dsimp only [argEnv]
  have st : St [] w [] [] := St.nil (X := []) (w := w) (by simp [Lo])
  have hF := Fr.refl ([]) w
  refine Wp_seq fun K1 hK1 => ?_
  refine Wp_region (Las rfl rfl rfl rfl rfl (Ls_nil (Th_n (hK1 _ _ ?_))))
  refine Wp_seq fun K2 hK2 => ?_
  refine Wp_region (Lmv rfl rfl rfl rfl rfl (Ls_y (wtd0 rfl) rfl rfl (y_eq rfl rfl rfl) (Lmv rfl rfl rfl rfl rfl (Ls_bool 5 rfl (fun hc1 => ?_) (fun hc1 => ?_)))))
  · have hc1 := eT hc1
    refine Ls_s (wtdF rfl rfl rfl) rfl rfl (Ls_s (wtdF rfl rfl rfl) rfl rfl (Ls_y (wtd0 rfl) rfl rfl (y_pick_t rfl rfl rfl) (Las rfl rfl rfl rfl rfl (Ls_nil (Th_n (hK2 _ _ ?_))))))
    refine Wp_ret (Fq_ret (Res1 rfl rfl) ?_)
    have he1 : r14timed_m act = true := by unfold r14timed_m; rewrite [if_pos hc1]; rfl
    rewrite [he1]
    exact ⟨rfl, hF⟩
  have hc1 := eF hc1
  refine Ls_y (wtdT rfl rfl rfl) rfl rfl (y_move rfl rfl) (Ls_y (wtdT rfl rfl rfl) rfl rfl (y_eq rfl rfl rfl) (Ls_y (wtd0 rfl) rfl rfl (y_pick_f rfl rfl rfl) (Las rfl rfl rfl rfl rfl (Ls_nil (Th_n (hK2 _ _ ?_))))))
  refine Wp_ret (Fq_ret (Res1 rfl rfl) ?_)
  have he2 : r14timed_m act = (act == 5) := by unfold r14timed_m; rewrite [if_neg hc1]; rfl
  rewrite [he2]
  exact ⟨rfl, hF⟩

structure OpM where
  act : Int
  name : List UInt8
  val : Int
instance : Inhabited OpM := ⟨⟨default, default, default⟩⟩
instance : DecidableEq OpM := fun a b => decidable_of_iff (a.act = b.act ∧ a.name = b.name ∧ a.val = b.val) (by cases a; cases b; simp)
def opMC (x : OpM) : List Value := [.int .i64 x.act, sv x.name, .int .i64 x.val]
theorem opMC_len (x : OpM) : (opMC x).length = 3 := rfl
def r14checkOp_c1 (o : OpM) : Bool :=
  (if 3 ≤ o.act then (if (r12elem_m o.name) = true then (if o.act < 3 then o.name != [] else false) else true) else (if o.act < 3 then o.name != [] else false))

def r14checkOp_c2 (o : OpM) : Bool :=
  (if o.val = 0 then false else (if o.act = 3 then true else (if o.act = 4 then true else o.act == 6)))

def r14checkOp_c3 (o : OpM) : Bool :=
  (if o.act = 2 then (if o.val < (-1073741824) then true else decide (1073741824 < o.val)) else false)
def r14checkOp_m (o : OpM) : Int :=
  if (r14kind_m o.act) = 0 then
    5
  else
    if (r14checkOp_c1 o) = true then
      3
    else
      if (r14checkOp_c2 o) = true then
        3
      else
        if (r14checkOp_c3 o) = true then
          2
        else
          0

theorem r14checkOp_c1_iff (o : OpM) : (r14checkOp_c1 o = true) ↔ (((3 ≤ o.act) ∧ (¬ ((r12elem_m o.name) = true) ∨ ((o.act < 3) ∧ (¬ (o.name = []))))) ∨ (¬ (3 ≤ o.act) ∧ ((o.act < 3) ∧ (¬ (o.name = []))))) := by
  unfold r14checkOp_c1; exact (ci5 (ci4 (ci2 (by simp))) (ci2 (by simp)))

theorem r14checkOp_c2_iff (o : OpM) : (r14checkOp_c2 o = true) ↔ (¬ (o.val = 0) ∧ ((o.act = 3) ∨ ((o.act = 4) ∨ (o.act = 6)))) := by
  unfold r14checkOp_c2; exact (ci3 (ci1 (ci1 beq_iff_eq)))

theorem r14checkOp_c3_iff (o : OpM) : (r14checkOp_c3 o = true) ↔ ((o.act = 2) ∧ ((o.val < (-1073741824)) ∨ (1073741824 < o.val))) := by
  unfold r14checkOp_c3; exact (ci2 (ci1 decide_eq_true_iff))

set_option maxRecDepth 20000 in
theorem r14checkOp_ok (w : World) (o : OpM) :
    Fn Try.prog 27 [.agg (opMC o).toArray] w fun v w' => v = .int .i64 (r14checkOp_m o) ∧ Fr [] w w' := by
  refine Fn_of 57 Ty.en_27 Try.func27 rfl rfl rfl ?_
  dsimp only [argEnv]
  have st : St [] w [] [] := St.nil (X := []) (w := w) (by simp [Lo])
  have hF := Fr.refl ([]) w
  refine Wp_seq fun K1 hK1 => ?_
  refine Wp_region (Ls_a (wtd0 rfl) ?_)
  refine a_box rfl rfl rfl rfl st.hp (fun g1 w1 (hp : Hp w1 [(_, Cl [_, _, _] _)]) hf hg1 => ?_)
  have st : St [] w1 [(_, Cl [_, _, _] _)] [] := st.push hp hf hg1
  have hg1 := Nat.le_trans hF.size hg1
  have hF := hF.step0 hf
  refine Las rfl rfl rfl rfl rfl (Ls_nil (Th_n (hK1 _ _ ?_)))
  refine Wp_seq fun K2 hK2 => ?_
  refine Wp_seq fun K3 hK3 => ?_
  refine Wp_region (Ls_y (wtd0 rfl) rfl rfl (y_fld rfl rfl Ty.fo_39_0) (Ls_y (wtd0 rfl) rfl rfl (y_load (i := 0) rfl rfl Ty.pl_3 (fun _ e => e ▸ st.hp) rfl rfl) ?_))
  refine Ls_a (wtd0 rfl) ?_
  refine a_call rfl rfl rfl rfl (r14kind_ok _ o.act) (fun v w2 ⟨hv, hf⟩ => ?_)
  subst hv
  have st := st.keep0 hf
  have hF := hF.step0 hf
  have st : St [] w2 [(_, Cl [_, _, _] _)] [] := st
  refine Ls_y (wtd0 rfl) rfl rfl (y_eq rfl rfl rfl) (Ls_nil (Th_n (hK3 _ _ ?_)))
  refine Wp_cond rfl (fun hc1 => ?_) (fun hc1 => ?_)
  · have hc1 := eT hc1
    refine Wp_seq fun K4 hK4 => ?_
    refine Wp_region (Las rfl rfl rfl rfl rfl (Ls_nil (Th_n (hK4 _ _ ?_))))
    refine Wp_ret (Th_r (Fq_ret (Res1 rfl rfl) ?_))
    have he1 : r14checkOp_m o = 5 := by unfold r14checkOp_m; rewrite [if_pos hc1]; rfl
    rewrite [he1]
    exact ⟨rfl, hF⟩
  have hc1 := eF hc1
  refine Wp_skip (Th_n (hK2 _ _ ?_))
  refine Wp_seq fun K5 hK5 => ?_
  refine Wp_seq fun K6 hK6 => ?_
  refine use_out hK6 (fun E W => E = [(1, .pointer (some ⟨g1, 0, none⟩)), (25, .bool (r14checkOp_c1 o))] ∧ St [] W (hOf st) (kOf st) ∧ Fr ([]) w W) ?_ fun hout1 => ?_
  · rintro E w3 ⟨rfl, st, hF⟩
    have st : St [] w3 [(_, Cl [_, _, _] _)] [] := st
    refine Wp_cond rfl (fun hc2 => ?_) (fun hc2 => ?_)
    · have jhc2 := (r14checkOp_c1_iff o).1 hc2
      refine Wp_seq fun K7 hK7 => ?_
      refine Wp_region (Las rfl rfl rfl rfl rfl (Ls_nil (Th_n (hK7 _ _ ?_))))
      refine Wp_ret (Th_r (Fq_ret (Res1 rfl rfl) ?_))
      have he2 : r14checkOp_m o = 3 := by unfold r14checkOp_m; rewrite [if_neg hc1, if_pos hc2]; rfl
      rewrite [he2]
      exact ⟨rfl, hF⟩
    have jhc2 := mt (r14checkOp_c1_iff o).2 (bF hc2)
    have hc2 := bF hc2
    refine Wp_skip (Th_n (hK5 _ _ ?_))
    refine Wp_seq fun K8 hK8 => ?_
    refine Wp_seq fun K9 hK9 => ?_
    refine use_out hK9 (fun E W => E = [(1, .pointer (some ⟨g1, 0, none⟩)), (43, .bool (r14checkOp_c2 o))] ∧ St [] W (hOf st) (kOf st) ∧ Fr ([]) w W) ?_ fun hout2 => ?_
    · rintro E w4 ⟨rfl, st, hF⟩
      have st : St [] w4 [(_, Cl [_, _, _] _)] [] := st
      refine Wp_cond rfl (fun hc3 => ?_) (fun hc3 => ?_)
      · have jhc3 := (r14checkOp_c2_iff o).1 hc3
        refine Wp_seq fun K10 hK10 => ?_
        refine Wp_region (Las rfl rfl rfl rfl rfl (Ls_nil (Th_n (hK10 _ _ ?_))))
        refine Wp_ret (Th_r (Fq_ret (Res1 rfl rfl) ?_))
        have he3 : r14checkOp_m o = 3 := by unfold r14checkOp_m; rewrite [if_neg hc1, if_neg hc2, if_pos hc3]; rfl
        rewrite [he3]
        exact ⟨rfl, hF⟩
      have jhc3 := mt (r14checkOp_c2_iff o).2 (bF hc3)
      have hc3 := bF hc3
      refine Wp_skip (Th_n (hK8 _ _ ?_))
      refine Wp_seq fun K11 hK11 => ?_
      refine Wp_seq fun K12 hK12 => ?_
      refine use_out hK12 (fun E W => E = [(56, .bool (r14checkOp_c3 o))] ∧ St [] W (hOf st) (kOf st) ∧ Fr ([]) w W) ?_ fun hout3 => ?_
      · rintro E w5 ⟨rfl, st, hF⟩
        have st : St [] w5 [(_, Cl [_, _, _] _)] [] := st
        refine Wp_cond rfl (fun hc4 => ?_) (fun hc4 => ?_)
        · have jhc4 := (r14checkOp_c3_iff o).1 hc4
          refine Wp_seq fun K13 hK13 => ?_
          refine Wp_region (Las rfl rfl rfl rfl rfl (Ls_nil (Th_n (hK13 _ _ ?_))))
          refine Wp_ret (Th_r (Fq_ret (Res1 rfl rfl) ?_))
          have he4 : r14checkOp_m o = 2 := by unfold r14checkOp_m; rewrite [if_neg hc1, if_neg hc2, if_neg hc3, if_pos hc4]; rfl
          rewrite [he4]
          exact ⟨rfl, hF⟩
        have jhc4 := mt (r14checkOp_c3_iff o).2 (bF hc4)
        have hc4 := bF hc4
        refine Wp_skip (Th_n (hK11 _ _ ?_))
        refine Wp_seq fun K14 hK14 => ?_
        refine Wp_region (Las rfl rfl rfl rfl rfl (Ls_nil (Th_n (hK14 _ _ ?_))))
        refine Wp_ret (Fq_ret (Res1 rfl rfl) ?_)
        have he5 : r14checkOp_m o = 0 := by unfold r14checkOp_m; rewrite [if_neg hc1, if_neg hc2, if_neg hc3, if_neg hc4]; rfl
        rewrite [he5]
        exact ⟨rfl, hF⟩
      refine Wp_region (Ls_y (wtd0 rfl) rfl rfl (y_fld rfl rfl Ty.fo_39_0) (Ls_y (wtd0 rfl) rfl rfl (y_load (i := 0) rfl rfl Ty.pl_3 (fun _ e => e ▸ st.hp) rfl rfl) ?_))
      refine Ls_y (wtd0 rfl) rfl rfl (y_eq rfl rfl rfl) (Lmv rfl rfl rfl rfl rfl (Ls_bool 47 rfl (fun hc5 => ?_) (fun hc5 => ?_)))
      · have hc5 := eT hc5
        refine Ls_y (wtdT rfl rfl rfl) rfl rfl (y_fld rfl rfl Ty.fo_39_2) (Ls_y (wtdT rfl rfl rfl) rfl rfl (y_load (i := 0) rfl rfl Ty.pl_2 (fun _ e => e ▸ st.hp) rfl rfl) ?_)
        refine Ls_y (wtdT rfl rfl rfl) rfl rfl (y_lt rfl rfl rfl) (Ls_y (wtdT rfl rfl rfl) rfl rfl (y_move rfl rfl) (Ls_bool 51 rfl (fun hc6 => ?_) (fun hc6 => ?_)))
        · have hc6 := dT hc6
          refine Ls_s (wtdF rfl rfl rfl) rfl rfl (Ls_s (wtdF rfl rfl rfl) rfl rfl (Ls_s (wtdF rfl rfl rfl) rfl rfl (Ls_y (wtdT rfl rfl rfl) rfl rfl (y_pick_t rfl rfl rfl) (Ls_y (wtd0 rfl) rfl rfl (y_pick_t rfl rfl rfl) (Ls_nil (Th_n (?_)))))))
          have hcj1 : r14checkOp_c3 o = true := by unfold r14checkOp_c3; rewrite [if_pos hc5, if_pos hc6]; rfl
          exact hout3 _ [(56, _)] _ ⟨rfl, trivial⟩ ⟨by rw [hcj1], (st.picks [0] (by decide)).pickK [], hF⟩
        have hc6 := dF hc6
        refine Ls_y (wtdT rfl rfl rfl) rfl rfl (y_fld rfl rfl Ty.fo_39_2) (Ls_y (wtdT rfl rfl rfl) rfl rfl (y_load (i := 0) rfl rfl Ty.pl_2 (fun _ e => e ▸ st.hp) rfl rfl) ?_)
        refine Ls_y (wtdT rfl rfl rfl) rfl rfl (y_gt rfl rfl rfl) (Ls_y (wtdT rfl rfl rfl) rfl rfl (y_pick_f rfl rfl rfl) (Ls_y (wtd0 rfl) rfl rfl (y_pick_t rfl rfl rfl) (Ls_nil (Th_n (?_)))))
        have hcj2 : r14checkOp_c3 o = (decide (1073741824 < o.val)) := by unfold r14checkOp_c3; rewrite [if_pos hc5, if_neg hc6]; rfl
        exact hout3 _ [(56, _)] _ ⟨rfl, trivial⟩ ⟨by rw [hcj2], (st.picks [0] (by decide)).pickK [], hF⟩
      have hc5 := eF hc5
      refine Ls_s (wtdF rfl rfl rfl) rfl rfl (Ls_s (wtdF rfl rfl rfl) rfl rfl (Ls_s (wtdF rfl rfl rfl) rfl rfl (Ls_s (wtdF rfl rfl rfl) rfl rfl (Ls_s (wtdU rfl rfl rfl) rfl rfl (Ls_s (wtdU rfl rfl rfl) rfl rfl (Ls_s (wtdU rfl rfl rfl) rfl rfl (Ls_s (wtdF rfl rfl rfl) rfl rfl (Ls_y (wtd0 rfl) rfl rfl (y_pick_f rfl rfl rfl) (Ls_nil (Th_n (?_)))))))))))
      have hcj3 : r14checkOp_c3 o = false := by unfold r14checkOp_c3; rewrite [if_neg hc5]; rfl
      exact hout3 _ [(56, _)] _ ⟨rfl, trivial⟩ ⟨by rw [hcj3], (st.picks [0] (by decide)).pickK [], hF⟩
    refine Wp_region (Ls_y (wtd0 rfl) rfl rfl (y_fld rfl rfl Ty.fo_39_2) (Ls_y (wtd0 rfl) rfl rfl (y_load (i := 0) rfl rfl Ty.pl_2 (fun _ e => e ▸ st.hp) rfl rfl) ?_))
    refine Ls_y (wtd0 rfl) rfl rfl (y_ne rfl rfl rfl) (Lmv rfl rfl rfl rfl rfl (Ls_bool 29 rfl (fun hc7 => ?_) (fun hc7 => ?_)))
    · have hc7 := neT hc7
      refine Ls_y (wtdT rfl rfl rfl) rfl rfl (y_fld rfl rfl Ty.fo_39_0) (Ls_y (wtdT rfl rfl rfl) rfl rfl (y_load (i := 0) rfl rfl Ty.pl_3 (fun _ e => e ▸ st.hp) rfl rfl) ?_)
      refine Ls_y (wtdT rfl rfl rfl) rfl rfl (y_eq rfl rfl rfl) (Ls_y (wtdT rfl rfl rfl) rfl rfl (y_move rfl rfl) (Ls_bool 33 rfl (fun hc8 => ?_) (fun hc8 => ?_)))
      · have hc8 := eT hc8
        refine Ls_s (wtdF rfl rfl rfl) rfl rfl (Ls_s (wtdF rfl rfl rfl) rfl rfl (Ls_s (wtdF rfl rfl rfl) rfl rfl (Ls_y (wtdT rfl rfl rfl) rfl rfl (y_pick_t rfl rfl rfl) (Ls_y (wtdT rfl rfl rfl) rfl rfl (y_move rfl rfl) (Ls_s (wtdF rfl rfl rfl) rfl rfl (Ls_s (wtdF rfl rfl rfl) rfl rfl (Ls_s (wtdF rfl rfl rfl) rfl rfl (Ls_y (wtdT rfl rfl rfl) rfl rfl (y_pick_t rfl rfl rfl) (Ls_y (wtd0 rfl) rfl rfl (y_pick_t rfl rfl rfl) (Ls_nil (Th_n (?_))))))))))))
        have hcj4 : r14checkOp_c2 o = true := by unfold r14checkOp_c2; rewrite [if_neg hc7, if_pos hc8]; rfl
        exact hout2 _ [(1, _), (43, _)] _ ⟨rfl, rfl, trivial⟩ ⟨by rw [hcj4], (st.picks [0] (by decide)).pickK [], hF⟩
      have hc8 := eF hc8
      refine Ls_y (wtdT rfl rfl rfl) rfl rfl (y_fld rfl rfl Ty.fo_39_0) (Ls_y (wtdT rfl rfl rfl) rfl rfl (y_load (i := 0) rfl rfl Ty.pl_3 (fun _ e => e ▸ st.hp) rfl rfl) ?_)
      refine Ls_y (wtdT rfl rfl rfl) rfl rfl (y_eq rfl rfl rfl) (Ls_y (wtdT rfl rfl rfl) rfl rfl (y_pick_f rfl rfl rfl) (Ls_y (wtdT rfl rfl rfl) rfl rfl (y_move rfl rfl) (Ls_bool 38 rfl (fun hc9 => ?_) (fun hc9 => ?_))))
      · have hc9 := eT hc9
        refine Ls_s (wtdF rfl rfl rfl) rfl rfl (Ls_s (wtdF rfl rfl rfl) rfl rfl (Ls_s (wtdF rfl rfl rfl) rfl rfl (Ls_y (wtdT rfl rfl rfl) rfl rfl (y_pick_t rfl rfl rfl) (Ls_y (wtd0 rfl) rfl rfl (y_pick_t rfl rfl rfl) (Ls_nil (Th_n (?_)))))))
        have hcj5 : r14checkOp_c2 o = true := by unfold r14checkOp_c2; rewrite [if_neg hc7, if_neg hc8, if_pos hc9]; rfl
        exact hout2 _ [(1, _), (43, _)] _ ⟨rfl, rfl, trivial⟩ ⟨by rw [hcj5], (st.picks [0] (by decide)).pickK [], hF⟩
      have hc9 := eF hc9
      refine Ls_y (wtdT rfl rfl rfl) rfl rfl (y_fld rfl rfl Ty.fo_39_0) (Ls_y (wtdT rfl rfl rfl) rfl rfl (y_load (i := 0) rfl rfl Ty.pl_3 (fun _ e => e ▸ st.hp) rfl rfl) ?_)
      refine Ls_y (wtdT rfl rfl rfl) rfl rfl (y_eq rfl rfl rfl) (Ls_y (wtdT rfl rfl rfl) rfl rfl (y_pick_f rfl rfl rfl) (Ls_y (wtd0 rfl) rfl rfl (y_pick_t rfl rfl rfl) (Ls_nil (Th_n (?_)))))
      have hcj6 : r14checkOp_c2 o = (o.act == 6) := by unfold r14checkOp_c2; rewrite [if_neg hc7, if_neg hc8, if_neg hc9]; rfl
      exact hout2 _ [(1, _), (43, _)] _ ⟨rfl, rfl, trivial⟩ ⟨by rw [hcj6], (st.picks [0] (by decide)).pickK [], hF⟩
    have hc7 := neF hc7
    refine Ls_s (wtdF rfl rfl rfl) rfl rfl (Ls_s (wtdF rfl rfl rfl) rfl rfl (Ls_s (wtdF rfl rfl rfl) rfl rfl (Ls_s (wtdF rfl rfl rfl) rfl rfl (Ls_s (wtdU rfl rfl rfl) rfl rfl (Ls_s (wtdU rfl rfl rfl) rfl rfl (Ls_s (wtdU rfl rfl rfl) rfl rfl (Ls_s (wtdF rfl rfl rfl) rfl rfl (Ls_s (wtdF rfl rfl rfl) rfl rfl (Ls_s (wtdU rfl rfl rfl) rfl rfl (Ls_s (wtdU rfl rfl rfl) rfl rfl (Ls_s (wtdU rfl rfl rfl) rfl rfl (Ls_s (wtdF rfl rfl rfl) rfl rfl (Ls_y (wtd0 rfl) rfl rfl (y_pick_f rfl rfl rfl) (Ls_nil (Th_n (?_))))))))))))))))
    have hcj7 : r14checkOp_c2 o = false := by unfold r14checkOp_c2; rewrite [if_pos hc7]; rfl
    exact hout2 _ [(1, _), (43, _)] _ ⟨rfl, rfl, trivial⟩ ⟨by rw [hcj7], (st.picks [0] (by decide)).pickK [], hF⟩
  refine Wp_region (Ls_y (wtd0 rfl) rfl rfl (y_fld rfl rfl Ty.fo_39_0) (Ls_y (wtd0 rfl) rfl rfl (y_load (i := 0) rfl rfl Ty.pl_3 (fun _ e => e ▸ st.hp) rfl rfl) ?_))
  refine Ls_y (wtd0 rfl) rfl rfl (y_ge rfl rfl rfl) (Lmv rfl rfl rfl rfl rfl (Ls_bool 10 rfl (fun hc10 => ?_) (fun hc10 => ?_)))
  · have hc10 := dT hc10
    refine Ls_y (wtdT rfl rfl rfl) rfl rfl (y_fld rfl rfl Ty.fo_39_1) (Ls_y (wtdT rfl rfl rfl) rfl rfl (y_load (i := 0) rfl rfl Ty.pl_9 (fun _ e => e ▸ st.hp) rfl rfl) ?_)
    refine Ls_a (wtdT rfl rfl rfl) ?_
    refine a_call rfl rfl rfl rfl (r12elem_ok _ o.name) (fun v w6 ⟨hv, hf⟩ => ?_)
    subst hv
    have st := st.keep0 hf
    have hF := hF.step0 hf
    have st : St [] w6 [(_, Cl [_, _, _] _)] [] := st
    refine Ls_y (wtdT rfl rfl rfl) rfl rfl (y_not rfl rfl) (Ls_y (wtd0 rfl) rfl rfl (y_pick_t rfl rfl rfl) (Lmv rfl rfl rfl rfl rfl (Ls_bool 16 rfl (fun hc11 => ?_) (fun hc11 => ?_))))
    · have hc11 := bF (nT hc11)
      refine Ls_s (wtdF rfl rfl rfl) rfl rfl (Ls_s (wtdF rfl rfl rfl) rfl rfl (Ls_s (wtdF rfl rfl rfl) rfl rfl (Ls_s (wtdF rfl rfl rfl) rfl rfl (Ls_s (wtdU rfl rfl rfl) rfl rfl (Ls_s (wtdU rfl rfl rfl) rfl rfl (Ls_s (wtdU rfl rfl rfl) rfl rfl (Ls_s (wtdF rfl rfl rfl) rfl rfl (Ls_y (wtd0 rfl) rfl rfl (y_pick_t rfl rfl rfl) (Ls_nil (Th_n (?_)))))))))))
      have hcj8 : r14checkOp_c1 o = true := by unfold r14checkOp_c1; rewrite [if_pos hc10, if_neg hc11]; rfl
      exact hout1 _ [(1, _), (25, _)] _ ⟨rfl, rfl, trivial⟩ ⟨by rw [hcj8], (st.picks [0] (by decide)).pickK [], hF⟩
    have hc11 := (nF hc11)
    refine Ls_y (wtdT rfl rfl rfl) rfl rfl (y_fld rfl rfl Ty.fo_39_0) (Ls_y (wtdT rfl rfl rfl) rfl rfl (y_load (i := 0) rfl rfl Ty.pl_3 (fun _ e => e ▸ st.hp) rfl rfl) ?_)
    refine Ls_y (wtdT rfl rfl rfl) rfl rfl (y_lt rfl rfl rfl) (Ls_y (wtdT rfl rfl rfl) rfl rfl (y_move rfl rfl) (Ls_bool 20 rfl (fun hc12 => ?_) (fun hc12 => ?_)))
    · have hc12 := dT hc12
      refine Ls_y (wtdT rfl rfl rfl) rfl rfl (y_fld rfl rfl Ty.fo_39_1) (Ls_y (wtdT rfl rfl rfl) rfl rfl (y_load (i := 0) rfl rfl Ty.pl_9 (fun _ e => e ▸ st.hp) rfl rfl) ?_)
      refine Ls_y (wtdT rfl rfl rfl) rfl rfl (y_nes rfl rfl rfl) ?_
      refine Ls_y (wtdT rfl rfl rfl) rfl rfl (y_pick_t rfl rfl rfl) (Ls_y (wtd0 rfl) rfl rfl (y_pick_f rfl rfl rfl) (Ls_nil (Th_n (?_))))
      have hcj9 : r14checkOp_c1 o = (o.name != []) := by unfold r14checkOp_c1; rewrite [if_pos hc10, if_pos hc11, if_pos hc12]; rfl
      exact hout1 _ [(1, _), (25, _)] _ ⟨rfl, rfl, trivial⟩ ⟨by rw [hcj9], (st.picks [0] (by decide)).pickK [], hF⟩
    have hc12 := dF hc12
    refine Ls_s (wtdF rfl rfl rfl) rfl rfl (Ls_s (wtdF rfl rfl rfl) rfl rfl (Ls_s (wtdF rfl rfl rfl) rfl rfl (Ls_y (wtdT rfl rfl rfl) rfl rfl (y_pick_f rfl rfl rfl) (Ls_y (wtd0 rfl) rfl rfl (y_pick_f rfl rfl rfl) (Ls_nil (Th_n (?_)))))))
    have hcj10 : r14checkOp_c1 o = false := by unfold r14checkOp_c1; rewrite [if_pos hc10, if_pos hc11, if_neg hc12]; rfl
    exact hout1 _ [(1, _), (25, _)] _ ⟨rfl, rfl, trivial⟩ ⟨by rw [hcj10], (st.picks [0] (by decide)).pickK [], hF⟩
  have hc10 := dF hc10
  refine Ls_s (wtdF rfl rfl rfl) rfl rfl (Ls_s (wtdF rfl rfl rfl) rfl rfl (Ls_s (wtdF rfl rfl rfl) rfl rfl (Ls_s (wtdF rfl rfl rfl) rfl rfl (Ls_y (wtd0 rfl) rfl rfl (y_pick_f rfl rfl rfl) (Lmv rfl rfl rfl rfl rfl (Ls_y (wtdT rfl rfl rfl) rfl rfl (y_fld rfl rfl Ty.fo_39_0) (Ls_y (wtdT rfl rfl rfl) rfl rfl (y_load (i := 0) rfl rfl Ty.pl_3 (fun _ e => e ▸ st.hp) rfl rfl) ?_)))))))
  refine Ls_y (wtdT rfl rfl rfl) rfl rfl (y_lt rfl rfl rfl) (Ls_y (wtdT rfl rfl rfl) rfl rfl (y_move rfl rfl) (Ls_bool 20 rfl (fun hc13 => ?_) (fun hc13 => ?_)))
  · have hc13 := dT hc13
    refine Ls_y (wtdT rfl rfl rfl) rfl rfl (y_fld rfl rfl Ty.fo_39_1) (Ls_y (wtdT rfl rfl rfl) rfl rfl (y_load (i := 0) rfl rfl Ty.pl_9 (fun _ e => e ▸ st.hp) rfl rfl) ?_)
    refine Ls_y (wtdT rfl rfl rfl) rfl rfl (y_nes rfl rfl rfl) ?_
    refine Ls_y (wtdT rfl rfl rfl) rfl rfl (y_pick_t rfl rfl rfl) (Ls_y (wtd0 rfl) rfl rfl (y_pick_f rfl rfl rfl) (Ls_nil (Th_n (?_))))
    have hcj11 : r14checkOp_c1 o = (o.name != []) := by unfold r14checkOp_c1; rewrite [if_neg hc10, if_pos hc13]; rfl
    exact hout1 _ [(1, _), (25, _)] _ ⟨rfl, rfl, trivial⟩ ⟨by rw [hcj11], (st.picks [0] (by decide)).pickK [], hF⟩
  have hc13 := dF hc13
  refine Ls_s (wtdF rfl rfl rfl) rfl rfl (Ls_s (wtdF rfl rfl rfl) rfl rfl (Ls_s (wtdF rfl rfl rfl) rfl rfl (Ls_y (wtdT rfl rfl rfl) rfl rfl (y_pick_f rfl rfl rfl) (Ls_y (wtd0 rfl) rfl rfl (y_pick_f rfl rfl rfl) (Ls_nil (Th_n (?_)))))))
  have hcj12 : r14checkOp_c1 o = false := by unfold r14checkOp_c1; rewrite [if_neg hc10, if_neg hc13]; rfl
  exact hout1 _ [(1, _), (25, _)] _ ⟨rfl, rfl, trivial⟩ ⟨by rw [hcj12], (st.picks [0] (by decide)).pickK [], hF⟩

structure RegM where
  val : Int
  atF : StampM
instance : Inhabited RegM := ⟨⟨default, default⟩⟩
instance : DecidableEq RegM := fun a b => decidable_of_iff (a.val = b.val ∧ a.atF = b.atF) (by cases a; cases b; simp)
def regMC (x : RegM) : List Value := [.int .i64 x.val, .int .u32 x.atF.time, .int .i64 x.atF.origin]
theorem regMC_len (x : RegM) : (regMC x).length = 3 := rfl
structure NumM where
  plus : Int
  minus : Int
instance : Inhabited NumM := ⟨⟨default, default⟩⟩
instance : DecidableEq NumM := fun a b => decidable_of_iff (a.plus = b.plus ∧ a.minus = b.minus) (by cases a; cases b; simp)
def numMC (x : NumM) : List Value := [.int .i64 x.plus, .int .i64 x.minus]
theorem numMC_len (x : NumM) : (numMC x).length = 2 := rfl
structure ObjM where
  kind : Int
  reg : RegM
  num : NumM
  setF : SetM
  map : MapM
instance : Inhabited ObjM := ⟨⟨default, default, default, default, default⟩⟩
instance : DecidableEq ObjM := fun a b => decidable_of_iff (a.kind = b.kind ∧ a.reg = b.reg ∧ a.num = b.num ∧ a.setF = b.setF ∧ a.map = b.map) (by cases a; cases b; simp)
def r14new_c1 (kind : Int) : Bool :=
  (if kind < 1 then true else decide (4 < kind))
def r14new_m (kind : Int) : ObjM × Int :=
  if (r14new_c1 kind) = true then
    ((⟨0, (⟨0, (⟨0, 0⟩ : StampM)⟩ : RegM), (⟨0, 0⟩ : NumM), (⟨([] : List AddM), ([] : List TagM)⟩ : SetM), (⟨([] : List PutM), ([] : List TagM)⟩ : MapM)⟩ : ObjM), 5)
  else
    ((⟨kind, (⟨0, (⟨0, 0⟩ : StampM)⟩ : RegM), (⟨0, 0⟩ : NumM), (⟨([] : List AddM), ([] : List TagM)⟩ : SetM), (⟨([] : List PutM), ([] : List TagM)⟩ : MapM)⟩ : ObjM), 0)

theorem r14new_c1_iff (kind : Int) : (r14new_c1 kind = true) ↔ ((kind < 1) ∨ (4 < kind)) := by
  unfold r14new_c1; exact (ci1 decide_eq_true_iff)

set_option maxRecDepth 20000 in
theorem r14new_ok (X : List Nat) (w : World) (hX : Lo X w) (kind : Int) :
    Fn Try.prog 10 [.int .i64 kind] w fun v w' => ∃ (Ar0_setF_adds : Option Addr) (cr0_setF_adds : Nat) (Ar0_setF_gone : Option Addr) (cr0_setF_gone : Nat) (Ar0_map_puts : Option Addr) (cr0_map_puts : Nat) (Ar0_map_gone : Option Addr) (cr0_map_gone : Nat), v = .tuple #[.agg #[.int .i64 (((r14new_m kind).1).kind), .int .i64 ((((r14new_m kind).1).reg).val), .int .u32 ((((r14new_m kind).1).reg).atF.time), .int .i64 ((((r14new_m kind).1).reg).atF.origin), .int .i64 ((((r14new_m kind).1).num).plus), .int .i64 ((((r14new_m kind).1).num).minus), .slice Ar0_setF_adds ((((r14new_m kind).1).setF).adds).length cr0_setF_adds, .slice Ar0_setF_gone ((((r14new_m kind).1).setF).gone).length cr0_setF_gone, .slice Ar0_map_puts ((((r14new_m kind).1).map).puts).length cr0_map_puts, .slice Ar0_map_gone ((((r14new_m kind).1).map).gone).length cr0_map_gone], .int .i64 ((r14new_m kind).2)] ∧ Sld X w' Ar0_setF_adds ((((r14new_m kind).1).setF).adds).length cr0_setF_adds 4 (((((r14new_m kind).1).setF).adds).flatMap addMC) ∧ Sld X w' Ar0_setF_gone ((((r14new_m kind).1).setF).gone).length cr0_setF_gone 3 (((((r14new_m kind).1).setF).gone).flatMap tagMC) ∧ Sld X w' Ar0_map_puts ((((r14new_m kind).1).map).puts).length cr0_map_puts 7 (((((r14new_m kind).1).map).puts).flatMap putMC) ∧ Sld X w' Ar0_map_gone ((((r14new_m kind).1).map).gone).length cr0_map_gone 3 (((((r14new_m kind).1).map).gone).flatMap tagMC) ∧ Fr [] w w' := by
  refine Fn_of 13 Ty.en_10 Try.func10 rfl rfl rfl ?_
  dsimp only [argEnv]
  have st : St X w [] [] := St.nil (X := X) (w := w) hX
  have hF := Fr.refl ([]) w
  refine Wp_seq fun K1 hK1 => ?_
  refine Wp_region (Ls_a (wtd0 rfl) ?_)
  refine a_alloc rfl rfl rfl Ty.zc_37 st.hp (fun g1 w1 (hp : Hp w1 [(_, Cl [_, _, _, _, _, _, _, _, _, _] _)]) hf hg1 => ?_)
  have st : St X w1 [(_, Cl [_, _, _, _, _, _, _, _, _, _] _)] [] := st.push hp hf hg1
  have hg1 := Nat.le_trans hF.size hg1
  have hF := hF.step0 hf
  refine Las rfl rfl rfl rfl rfl (Ls_nil (Th_n (hK1 _ _ ?_)))
  refine Wp_seq fun K2 hK2 => ?_
  refine Wp_seq fun K3 hK3 => ?_
  refine use_out hK3 (fun E W => E = [(0, .int .i64 kind), (2, .pointer (some ⟨g1, 0, none⟩)), (9, .bool (r14new_c1 kind))] ∧ St X W (hOf st) (kOf st) ∧ Fr ([]) w W) ?_ fun hout1 => ?_
  · rintro E w2 ⟨rfl, st, hF⟩
    have st : St X w2 [(_, Cl [_, _, _, _, _, _, _, _, _, _] _)] [] := st
    refine Wp_cond rfl (fun hc1 => ?_) (fun hc1 => ?_)
    · have jhc1 := (r14new_c1_iff kind).1 hc1
      refine Wp_seq fun K4 hK4 => ?_
      refine Wp_region (Ls_y (wtd0 rfl) rfl rfl (y_build (cells := [_, _, _, _, _, _, _, _, _, _]) rfl rfl Ty.zc_37 Ty.ps_37 rfl) ?_)
      refine Ls_a (wtd0 rfl) ?_
      refine a_storew (i := 0) rfl rfl rfl rfl Ty.sz_37 rfl (by first | assumption | (simp [Value.oneCell']; done)) st.hp rfl rfl (fun w3 (hp : Hp w3 [(_, Cl [_, _, _, _, _, _, _, _, _, _] _)]) hf _ => ?_)
      have st : St X w3 [(_, Cl [_, _, _, _, _, _, _, _, _, _] _)] [] := st.set (i := 0) rfl hp hf
      have hF := hF.step hf (by intro y hy; simp only [List.mem_cons, List.not_mem_nil, or_false] at hy; subst hy; first | (exact Or.inr (by omega)) | (exact Or.inl (kin0 _ _)) | (exact Or.inl (by simp)))
      refine Las rfl rfl rfl rfl rfl (Ls_nil (Th_n (hK4 _ _ ?_)))
      have st := st.addK (kS none 0 0 4 []) ⟨Rdx.nil, by simp, Nat.le_refl _, Nat.zero_le _⟩
      have st : St X w3 [(_, Cl [_, _, _, _, _, _, _, _, _, _] _)] [_] := st
      have st := st.addK (kS none 0 0 3 []) ⟨Rdx.nil, by simp, Nat.le_refl _, Nat.zero_le _⟩
      have st : St X w3 [(_, Cl [_, _, _, _, _, _, _, _, _, _] _)] [_, _] := st
      have st := st.addK (kS none 0 0 7 []) ⟨Rdx.nil, by simp, Nat.le_refl _, Nat.zero_le _⟩
      have st : St X w3 [(_, Cl [_, _, _, _, _, _, _, _, _, _] _)] [_, _, _] := st
      have st := st.addK (kS none 0 0 3 []) ⟨Rdx.nil, by simp, Nat.le_refl _, Nat.zero_le _⟩
      have st : St X w3 [(_, Cl [_, _, _, _, _, _, _, _, _, _] _)] [_, _, _, _] := st
      refine Wp_ret (Th_r (Fq_ret (ResN2 rfl (rvc (i := 0) rfl Ty.ag_37 st.hp rfl rfl) rfl) ?_))
      have he1 : r14new_m kind = ((⟨0, (⟨0, (⟨0, 0⟩ : StampM)⟩ : RegM), (⟨0, 0⟩ : NumM), (⟨([] : List AddM), ([] : List TagM)⟩ : SetM), (⟨([] : List PutM), ([] : List TagM)⟩ : MapM)⟩ : ObjM), 5) := by unfold r14new_m; rewrite [if_pos hc1]; rfl
      rewrite [he1]
      exact ⟨_, _, _, _, _, _, _, _, rfl, st.out (i := 0) rfl, st.out (i := 1) rfl, st.out (i := 2) rfl, st.out (i := 3) rfl, hF⟩
    have jhc1 := mt (r14new_c1_iff kind).2 (bF hc1)
    have hc1 := bF hc1
    refine Wp_skip (Th_n (hK2 _ _ ?_))
    refine Wp_seq fun K5 hK5 => ?_
    refine Wp_region (Lmv rfl rfl rfl rfl rfl (Ls_y (wtd0 rfl) rfl rfl (y_build (cells := [_, _, _, _, _, _, _, _, _, _]) rfl rfl Ty.zc_37 Ty.ps_37 rfl) ?_))
    refine Ls_a (wtd0 rfl) ?_
    refine a_storew (i := 0) rfl rfl rfl rfl Ty.sz_37 rfl (by first | assumption | (simp [Value.oneCell']; done)) st.hp rfl rfl (fun w4 (hp : Hp w4 [(_, Cl [_, _, _, _, _, _, _, _, _, _] _)]) hf _ => ?_)
    have st : St X w4 [(_, Cl [_, _, _, _, _, _, _, _, _, _] _)] [] := st.set (i := 0) rfl hp hf
    have hF := hF.step hf (by intro y hy; simp only [List.mem_cons, List.not_mem_nil, or_false] at hy; subst hy; first | (exact Or.inr (by omega)) | (exact Or.inl (kin0 _ _)) | (exact Or.inl (by simp)))
    refine Las rfl rfl rfl rfl rfl (Ls_nil (Th_n (hK5 _ _ ?_)))
    have st := st.addK (kS none 0 0 4 []) ⟨Rdx.nil, by simp, Nat.le_refl _, Nat.zero_le _⟩
    have st : St X w4 [(_, Cl [_, _, _, _, _, _, _, _, _, _] _)] [_] := st
    have st := st.addK (kS none 0 0 3 []) ⟨Rdx.nil, by simp, Nat.le_refl _, Nat.zero_le _⟩
    have st : St X w4 [(_, Cl [_, _, _, _, _, _, _, _, _, _] _)] [_, _] := st
    have st := st.addK (kS none 0 0 7 []) ⟨Rdx.nil, by simp, Nat.le_refl _, Nat.zero_le _⟩
    have st : St X w4 [(_, Cl [_, _, _, _, _, _, _, _, _, _] _)] [_, _, _] := st
    have st := st.addK (kS none 0 0 3 []) ⟨Rdx.nil, by simp, Nat.le_refl _, Nat.zero_le _⟩
    have st : St X w4 [(_, Cl [_, _, _, _, _, _, _, _, _, _] _)] [_, _, _, _] := st
    refine Wp_ret (Fq_ret (ResN2 rfl (rvc (i := 0) rfl Ty.ag_37 st.hp rfl rfl) rfl) ?_)
    have he2 : r14new_m kind = ((⟨kind, (⟨0, (⟨0, 0⟩ : StampM)⟩ : RegM), (⟨0, 0⟩ : NumM), (⟨([] : List AddM), ([] : List TagM)⟩ : SetM), (⟨([] : List PutM), ([] : List TagM)⟩ : MapM)⟩ : ObjM), 0) := by unfold r14new_m; rewrite [if_neg hc1]; rfl
    rewrite [he2]
    exact ⟨_, _, _, _, _, _, _, _, rfl, st.out (i := 0) rfl, st.out (i := 1) rfl, st.out (i := 2) rfl, st.out (i := 3) rfl, hF⟩
  refine Wp_region (Lmv rfl rfl rfl rfl rfl (Ls_y (wtd0 rfl) rfl rfl (y_lt rfl rfl rfl) (Lmv rfl rfl rfl rfl rfl (Ls_bool 6 rfl (fun hc2 => ?_) (fun hc2 => ?_)))))
  · have hc2 := dT hc2
    refine Ls_s (wtdF rfl rfl rfl) rfl rfl (Ls_s (wtdF rfl rfl rfl) rfl rfl (Ls_y (wtd0 rfl) rfl rfl (y_pick_t rfl rfl rfl) (Ls_nil (Th_n (?_)))))
    have hcj1 : r14new_c1 kind = true := by unfold r14new_c1; rewrite [if_pos hc2]; rfl
    exact hout1 _ [(0, _), (2, _), (9, _)] _ ⟨rfl, rfl, rfl, trivial⟩ ⟨by rw [hcj1], (st.picks [0] (by decide)).pickK [], hF⟩
  have hc2 := dF hc2
  refine Ls_y (wtdT rfl rfl rfl) rfl rfl (y_move rfl rfl) (Ls_y (wtdT rfl rfl rfl) rfl rfl (y_gt rfl rfl rfl) (Ls_y (wtd0 rfl) rfl rfl (y_pick_f rfl rfl rfl) (Ls_nil (Th_n (?_)))))
  have hcj2 : r14new_c1 kind = (decide (4 < kind)) := by unfold r14new_c1; rewrite [if_neg hc2]; rfl
  exact hout1 _ [(0, _), (2, _), (9, _)] _ ⟨rfl, rfl, rfl, trivial⟩ ⟨by rw [hcj2], (st.picks [0] (by decide)).pickK [], hF⟩

structure EffectM where
  act : Int
  name : List UInt8
  val : Int
  tag : TagM
  atF : StampM
  tags : List TagM
instance : Inhabited EffectM := ⟨⟨default, default, default, default, default, default⟩⟩
instance : DecidableEq EffectM := fun a b => decidable_of_iff (a.act = b.act ∧ a.name = b.name ∧ a.val = b.val ∧ a.tag = b.tag ∧ a.atF = b.atF ∧ a.tags = b.tags) (by cases a; cases b; simp)
def r14prepare_c1 (s : ObjM) (o : OpM) (tag : TagM) (at_ : StampM) : Bool :=
  (if (r9check_m at_) = 0 then at_.time == 0 else true)
def r14prepare_m (s : ObjM) (o : OpM) (tag : TagM) (at_ : StampM) : EffectM × Int :=
  if (r14checkOp_m o) = 0 then
    if (r14kind_m o.act) = s.kind then
      if (r5checkTag_m tag) = 0 then
        if (r14prepare_c1 s o tag at_) = true then
          ((⟨0, [], 0, (⟨(⟨0, 0⟩ : IdM), 0⟩ : TagM), (⟨0, 0⟩ : StampM), ([] : List TagM)⟩ : EffectM), 3)
        else
          if (r14timed_m o.act) = true then
            ((⟨o.act, o.name, o.val, tag, at_, ([] : List TagM)⟩ : EffectM), 0)
          else
            if o.act = 4 then
              ((⟨o.act, o.name, o.val, tag, (⟨0, 0⟩ : StampM), r12Tags_m s.setF o.name⟩ : EffectM), 0)
            else
              if o.act = 6 then
                ((⟨o.act, o.name, o.val, tag, (⟨0, 0⟩ : StampM), r13Tags_m s.map o.name⟩ : EffectM), 0)
              else
                ((⟨o.act, o.name, o.val, tag, (⟨0, 0⟩ : StampM), ([] : List TagM)⟩ : EffectM), 0)
      else
        ((⟨0, [], 0, (⟨(⟨0, 0⟩ : IdM), 0⟩ : TagM), (⟨0, 0⟩ : StampM), ([] : List TagM)⟩ : EffectM), 2)
    else
      ((⟨0, [], 0, (⟨(⟨0, 0⟩ : IdM), 0⟩ : TagM), (⟨0, 0⟩ : StampM), ([] : List TagM)⟩ : EffectM), 5)
  else
    ((⟨0, [], 0, (⟨(⟨0, 0⟩ : IdM), 0⟩ : TagM), (⟨0, 0⟩ : StampM), ([] : List TagM)⟩ : EffectM), r14checkOp_m o)

theorem r14prepare_c1_iff (s : ObjM) (o : OpM) (tag : TagM) (at_ : StampM) : (r14prepare_c1 s o tag at_ = true) ↔ (¬ ((r9check_m at_) = 0) ∨ (at_.time = 0)) := by
  unfold r14prepare_c1; exact (ci4 beq_iff_eq)

set_option maxRecDepth 20000 in
theorem r14prepare_ok (X : List Nat) (w : World) (hX : Lo X w) (s : ObjM) (A_s_setF_adds : Option Addr) (c_s_setF_adds : Nat) (A_s_setF_gone : Option Addr) (c_s_setF_gone : Nat) (A_s_map_puts : Option Addr) (c_s_map_puts : Nat) (A_s_map_gone : Option Addr) (c_s_map_gone : Nat) (o : OpM) (tag : TagM) (at_ : StampM) (h_s_setF_adds : Sld X w A_s_setF_adds s.setF.adds.length c_s_setF_adds 4 (s.setF.adds.flatMap addMC)) (h_s_setF_gone : Sld X w A_s_setF_gone s.setF.gone.length c_s_setF_gone 3 (s.setF.gone.flatMap tagMC)) (h_s_map_puts : Sld X w A_s_map_puts s.map.puts.length c_s_map_puts 7 (s.map.puts.flatMap putMC)) (h_s_map_gone : Sld X w A_s_map_gone s.map.gone.length c_s_map_gone 3 (s.map.gone.flatMap tagMC)) (h1 : s.setF.adds.length ≤ 1000000) (h2 : s.map.puts.length ≤ 1000000) :
    Fn Try.prog 8 [.agg #[.int .i64 s.kind, .int .i64 s.reg.val, .int .u32 s.reg.atF.time, .int .i64 s.reg.atF.origin, .int .i64 s.num.plus, .int .i64 s.num.minus, .slice A_s_setF_adds s.setF.adds.length c_s_setF_adds, .slice A_s_setF_gone s.setF.gone.length c_s_setF_gone, .slice A_s_map_puts s.map.puts.length c_s_map_puts, .slice A_s_map_gone s.map.gone.length c_s_map_gone], .agg (opMC o).toArray, .agg (tagMC tag).toArray, .agg (stampMC at_).toArray] w fun v w' => ∃ (Ar0_tags : Option Addr) (cr0_tags : Nat), v = .tuple #[.agg #[.int .i64 (((r14prepare_m s o tag at_).1).act), sv (((r14prepare_m s o tag at_).1).name), .int .i64 (((r14prepare_m s o tag at_).1).val), .int .i64 ((((r14prepare_m s o tag at_).1).tag).id.origin), .int .u32 ((((r14prepare_m s o tag at_).1).tag).id.seq), .int .i64 ((((r14prepare_m s o tag at_).1).tag).n), .int .u32 ((((r14prepare_m s o tag at_).1).atF).time), .int .i64 ((((r14prepare_m s o tag at_).1).atF).origin), .slice Ar0_tags (((r14prepare_m s o tag at_).1).tags).length cr0_tags], .int .i64 ((r14prepare_m s o tag at_).2)] ∧ Sld X w' Ar0_tags (((r14prepare_m s o tag at_).1).tags).length cr0_tags 3 ((((r14prepare_m s o tag at_).1).tags).flatMap tagMC) ∧ Fr [] w w' := by
  refine Fn_of 77 Ty.en_8 Try.func8 rfl rfl rfl ?_
  dsimp only [argEnv]
  have st : St X w [] [kS A_s_setF_adds s.setF.adds.length c_s_setF_adds 4 (s.setF.adds.flatMap addMC), kS A_s_setF_gone s.setF.gone.length c_s_setF_gone 3 (s.setF.gone.flatMap tagMC), kS A_s_map_puts s.map.puts.length c_s_map_puts 7 (s.map.puts.flatMap putMC), kS A_s_map_gone s.map.gone.length c_s_map_gone 3 (s.map.gone.flatMap tagMC)] := ((((St.nil (X := X) (w := w) hX).addK (kS A_s_setF_adds s.setF.adds.length c_s_setF_adds 4 (s.setF.adds.flatMap addMC)) h_s_setF_adds).addK (kS A_s_setF_gone s.setF.gone.length c_s_setF_gone 3 (s.setF.gone.flatMap tagMC)) h_s_setF_gone).addK (kS A_s_map_puts s.map.puts.length c_s_map_puts 7 (s.map.puts.flatMap putMC)) h_s_map_puts).addK (kS A_s_map_gone s.map.gone.length c_s_map_gone 3 (s.map.gone.flatMap tagMC)) h_s_map_gone
  have hF := Fr.refl ([]) w
  have hleA_s_setF_adds := (st.k (i := 0) rfl).le
  have hleA_s_setF_gone := (st.k (i := 1) rfl).le
  have hleA_s_map_puts := (st.k (i := 2) rfl).le
  have hleA_s_map_gone := (st.k (i := 3) rfl).le
  refine Wp_seq fun K1 hK1 => ?_
  refine Wp_region (Ls_a (wtd0 rfl) ?_)
  refine a_box rfl rfl rfl rfl st.hp (fun g1 w1 (hp : Hp w1 [(_, Cl [_, _, _, _, _, _, _, _, _, _] _)]) hf hg1 => ?_)
  have st : St X w1 [(_, Cl [_, _, _, _, _, _, _, _, _, _] _)] [_, _, _, _] := st.push hp hf hg1
  have hg1 := Nat.le_trans hF.size hg1
  have hF := hF.step0 hf
  refine Ls_a (wtd0 rfl) ?_
  refine a_box rfl rfl rfl rfl st.hp (fun g2 w2 (hp : Hp w2 [(_, Cl [_, _, _, _, _, _, _, _, _, _] _), (_, Cl [_, _, _] _)]) hf hg2 => ?_)
  have st : St X w2 [(_, Cl [_, _, _, _, _, _, _, _, _, _] _), (_, Cl [_, _, _] _)] [_, _, _, _] := st.push hp hf hg2
  have hg2 := Nat.le_trans hF.size hg2
  have hF := hF.step0 hf
  refine Ls_a (wtd0 rfl) ?_
  refine a_box rfl rfl rfl rfl st.hp (fun g3 w3 (hp : Hp w3 [(_, Cl [_, _, _, _, _, _, _, _, _, _] _), (_, Cl [_, _, _] _), (_, Cl [_, _, _] _)]) hf hg3 => ?_)
  have st : St X w3 [(_, Cl [_, _, _, _, _, _, _, _, _, _] _), (_, Cl [_, _, _] _), (_, Cl [_, _, _] _)] [_, _, _, _] := st.push hp hf hg3
  have hg3 := Nat.le_trans hF.size hg3
  have hF := hF.step0 hf
  refine Ls_a (wtd0 rfl) ?_
  refine a_box rfl rfl rfl rfl st.hp (fun g4 w4 (hp : Hp w4 [(_, Cl [_, _, _, _, _, _, _, _, _, _] _), (_, Cl [_, _, _] _), (_, Cl [_, _, _] _), (_, Cl [_, _] _)]) hf hg4 => ?_)
  have st : St X w4 [(_, Cl [_, _, _, _, _, _, _, _, _, _] _), (_, Cl [_, _, _] _), (_, Cl [_, _, _] _), (_, Cl [_, _] _)] [_, _, _, _] := st.push hp hf hg4
  have hg4 := Nat.le_trans hF.size hg4
  have hF := hF.step0 hf
  refine Ls_a (wtd0 rfl) ?_
  refine a_alloc rfl rfl rfl Ty.zc_46 st.hp (fun g5 w5 (hp : Hp w5 [(_, Cl [_, _, _, _, _, _, _, _, _, _] _), (_, Cl [_, _, _] _), (_, Cl [_, _, _] _), (_, Cl [_, _] _), (_, Cl [_, _, _, _, _, _, _, _, _] _)]) hf hg5 => ?_)
  have st : St X w5 [(_, Cl [_, _, _, _, _, _, _, _, _, _] _), (_, Cl [_, _, _] _), (_, Cl [_, _, _] _), (_, Cl [_, _] _), (_, Cl [_, _, _, _, _, _, _, _, _] _)] [_, _, _, _] := st.push hp hf hg5
  have hg5 := Nat.le_trans hF.size hg5
  have hF := hF.step0 hf
  refine Las rfl rfl rfl rfl rfl (Ls_nil (Th_n (hK1 _ _ ?_)))
  refine Wp_seq fun K2 hK2 => ?_
  refine Wp_region (Ls_y (wtd0 rfl) rfl rfl (y_loadw (i := 1) rfl rfl Ty.ag_39 (fun _ e => e ▸ st.hp) rfl rfl) ?_)
  refine Ls_a (wtd0 rfl) ?_
  refine a_call rfl rfl rfl rfl (r14checkOp_ok _ o) (fun v w6 ⟨hv, hf⟩ => ?_)
  subst hv
  have st := st.keep0 hf
  have hF := hF.step0 hf
  have st : St X w6 [(_, Cl [_, _, _, _, _, _, _, _, _, _] _), (_, Cl [_, _, _] _), (_, Cl [_, _, _] _), (_, Cl [_, _] _), (_, Cl [_, _, _, _, _, _, _, _, _] _)] [_, _, _, _] := st
  refine Las rfl rfl rfl rfl rfl (Ls_nil (Th_n (hK2 _ _ ?_)))
  refine Wp_seq fun K3 hK3 => ?_
  refine Wp_block (Wp_seq fun K4 hK4 => ?_)
  refine Wp_region (Lmv rfl rfl rfl rfl rfl (Ls_y (wtd0 rfl) rfl rfl (y_ne rfl rfl rfl) (Las rfl rfl rfl rfl rfl (Ls_nil (Th_n (hK4 _ _ ?_))))))
  refine Wp_cond rfl (fun hc1 => ?_) (fun hc1 => ?_)
  · have hc1 := neT hc1
    refine Wp_seq fun K5 hK5 => ?_
    refine Wp_region (Ls_y (wtd0 rfl) rfl rfl (y_build (cells := [_, _, _, _, _, _, _, _, _]) rfl rfl Ty.zc_46 Ty.ps_46 rfl) ?_)
    refine Lmv rfl rfl rfl rfl rfl (Ls_a (wtd0 rfl) ?_)
    refine a_storew (i := 4) rfl rfl rfl rfl Ty.sz_46 rfl (by first | assumption | (simp [Value.oneCell']; done)) st.hp rfl rfl (fun w7 (hp : Hp w7 [(_, Cl [_, _, _, _, _, _, _, _, _, _] _), (_, Cl [_, _, _] _), (_, Cl [_, _, _] _), (_, Cl [_, _] _), (_, Cl [_, _, _, _, _, _, _, _, _] _)]) hf _ => ?_)
    have st : St X w7 [(_, Cl [_, _, _, _, _, _, _, _, _, _] _), (_, Cl [_, _, _] _), (_, Cl [_, _, _] _), (_, Cl [_, _] _), (_, Cl [_, _, _, _, _, _, _, _, _] _)] [_, _, _, _] := st.set (i := 4) rfl hp hf
    have hF := hF.step hf (by intro y hy; simp only [List.mem_cons, List.not_mem_nil, or_false] at hy; subst hy; first | (exact Or.inr (by omega)) | (exact Or.inl (kin0 _ _)) | (exact Or.inl (by simp)))
    refine Las rfl rfl rfl rfl rfl (Ls_nil (Th_n (hK5 _ _ ?_)))
    have st := st.addK (kS none 0 0 3 []) ⟨Rdx.nil, by simp, Nat.le_refl _, Nat.zero_le _⟩
    have st : St X w7 [(_, Cl [_, _, _, _, _, _, _, _, _, _] _), (_, Cl [_, _, _] _), (_, Cl [_, _, _] _), (_, Cl [_, _] _), (_, Cl [_, _, _, _, _, _, _, _, _] _)] [_, _, _, _, _] := st
    refine Wp_ret (Ib_r (Th_r (Fq_ret (ResN2 rfl (rvc (i := 4) rfl Ty.ag_46 st.hp rfl rfl) rfl) ?_)))
    have he1 : r14prepare_m s o tag at_ = ((⟨0, [], 0, (⟨(⟨0, 0⟩ : IdM), 0⟩ : TagM), (⟨0, 0⟩ : StampM), ([] : List TagM)⟩ : EffectM), r14checkOp_m o) := by unfold r14prepare_m; rewrite [if_neg hc1]; rfl
    rewrite [he1]
    exact ⟨_, _, rfl, st.out (i := 4) rfl, hF⟩
  have hc1 := neF hc1
  refine Wp_seq fun K6 hK6 => ?_
  refine Wp_plan (fun W => St X W (pickL (hOf st) [0, 1, 2, 3, 4]) (kOf st)) [(true, 0), (true, 1), (true, 3), (true, 4), (false, 2), (true, 5), (true, 6)] Ty.mx_0 (by kernel_rfl) (by kernel_rfl) rfl ((st.picks [0, 1, 2, 3, 4] (by decide)).drew) ?_
  have st := st.drew
  have hF := hF.step0 (Fr.drew _)
  refine Pl_y rfl (wtd0 rfl) rfl rfl (y_fld rfl rfl Ty.fo_39_0) (Pl_y rfl (wtd0 rfl) rfl rfl (y_load (i := 1) rfl rfl Ty.pl_3 (fun _ h => h.hp) rfl rfl) ?_)
  refine Pl_y rfl (wtd0 rfl) rfl rfl (y_fld rfl rfl Ty.fo_37_0) (Pl_y rfl (wtd0 rfl) rfl rfl (y_load (i := 0) rfl rfl Ty.pl_3 (fun _ h => h.hp) rfl rfl) ?_)
  refine Pl_a rfl (wtd0 rfl) (by rfl) ?_
  refine a_call rfl rfl rfl rfl (r14kind_ok _ o.act) (fun v w8 ⟨hv, hf⟩ => ?_)
  subst hv
  have st := st.keep0 hf
  have hF := hF.step0 hf
  have st : St X w8 [(_, Cl [_, _, _, _, _, _, _, _, _, _] _), (_, Cl [_, _, _] _), (_, Cl [_, _, _] _), (_, Cl [_, _] _), (_, Cl [_, _, _, _, _, _, _, _, _] _)] [_, _, _, _] := st
  refine ⟨(st.picks [0, 1, 2, 3, 4] (by decide)).takeK 4, ?_⟩
  refine Pl_y rfl (wtd0 rfl) rfl rfl (y_ne rfl rfl rfl) (Pl_y rfl (wtd0 rfl) rfl rfl (y_assign rfl rfl) (Pl_nil (Th_n (hK6 _ _ ?_))))
  refine Wp_cond rfl (fun hc2 => ?_) (fun hc2 => ?_)
  · have hc2 := neT hc2
    refine Wp_seq fun K7 hK7 => ?_
    refine Wp_region (Ls_y (wtd0 rfl) rfl rfl (y_build (cells := [_, _, _, _, _, _, _, _, _]) rfl rfl Ty.zc_46 Ty.ps_46 rfl) ?_)
    refine Ls_a (wtd0 rfl) ?_
    refine a_storew (i := 4) rfl rfl rfl rfl Ty.sz_46 rfl (by first | assumption | (simp [Value.oneCell']; done)) st.hp rfl rfl (fun w9 (hp : Hp w9 [(_, Cl [_, _, _, _, _, _, _, _, _, _] _), (_, Cl [_, _, _] _), (_, Cl [_, _, _] _), (_, Cl [_, _] _), (_, Cl [_, _, _, _, _, _, _, _, _] _)]) hf _ => ?_)
    have st : St X w9 [(_, Cl [_, _, _, _, _, _, _, _, _, _] _), (_, Cl [_, _, _] _), (_, Cl [_, _, _] _), (_, Cl [_, _] _), (_, Cl [_, _, _, _, _, _, _, _, _] _)] [_, _, _, _] := st.set (i := 4) rfl hp hf
    have hF := hF.step hf (by intro y hy; simp only [List.mem_cons, List.not_mem_nil, or_false] at hy; subst hy; first | (exact Or.inr (by omega)) | (exact Or.inl (kin0 _ _)) | (exact Or.inl (by simp)))
    refine Las rfl rfl rfl rfl rfl (Ls_nil (Th_n (hK7 _ _ ?_)))
    have st := st.addK (kS none 0 0 3 []) ⟨Rdx.nil, by simp, Nat.le_refl _, Nat.zero_le _⟩
    have st : St X w9 [(_, Cl [_, _, _, _, _, _, _, _, _, _] _), (_, Cl [_, _, _] _), (_, Cl [_, _, _] _), (_, Cl [_, _] _), (_, Cl [_, _, _, _, _, _, _, _, _] _)] [_, _, _, _, _] := st
    refine Wp_ret (Ib_r (Th_r (Fq_ret (ResN2 rfl (rvc (i := 4) rfl Ty.ag_46 st.hp rfl rfl) rfl) ?_)))
    have he2 : r14prepare_m s o tag at_ = ((⟨0, [], 0, (⟨(⟨0, 0⟩ : IdM), 0⟩ : TagM), (⟨0, 0⟩ : StampM), ([] : List TagM)⟩ : EffectM), 5) := by unfold r14prepare_m; rewrite [if_pos hc1, if_neg hc2]; rfl
    rewrite [he2]
    exact ⟨_, _, rfl, st.out (i := 4) rfl, hF⟩
  have hc2 := neF hc2
  refine Wp_seq fun K8 hK8 => ?_
  refine Wp_region (Ls_y (wtd0 rfl) rfl rfl (y_loadw (i := 2) rfl rfl Ty.ag_43 (fun _ e => e ▸ st.hp) rfl rfl) ?_)
  refine Ls_a (wtd0 rfl) ?_
  refine a_call rfl rfl rfl rfl (r5checkTag_ok _ tag) (fun v w10 ⟨hv, hf⟩ => ?_)
  subst hv
  have st := st.keep0 hf
  have hF := hF.step0 hf
  have st : St X w10 [(_, Cl [_, _, _, _, _, _, _, _, _, _] _), (_, Cl [_, _, _] _), (_, Cl [_, _, _] _), (_, Cl [_, _] _), (_, Cl [_, _, _, _, _, _, _, _, _] _)] [_, _, _, _] := st
  refine Ls_y (wtd0 rfl) rfl rfl (y_ne rfl rfl rfl) (Las rfl rfl rfl rfl rfl (Ls_nil (Th_n (hK8 _ _ ?_))))
  refine Wp_cond rfl (fun hc3 => ?_) (fun hc3 => ?_)
  · have hc3 := neT hc3
    refine Wp_seq fun K9 hK9 => ?_
    refine Wp_region (Ls_y (wtd0 rfl) rfl rfl (y_build (cells := [_, _, _, _, _, _, _, _, _]) rfl rfl Ty.zc_46 Ty.ps_46 rfl) ?_)
    refine Ls_a (wtd0 rfl) ?_
    refine a_storew (i := 4) rfl rfl rfl rfl Ty.sz_46 rfl (by first | assumption | (simp [Value.oneCell']; done)) st.hp rfl rfl (fun w11 (hp : Hp w11 [(_, Cl [_, _, _, _, _, _, _, _, _, _] _), (_, Cl [_, _, _] _), (_, Cl [_, _, _] _), (_, Cl [_, _] _), (_, Cl [_, _, _, _, _, _, _, _, _] _)]) hf _ => ?_)
    have st : St X w11 [(_, Cl [_, _, _, _, _, _, _, _, _, _] _), (_, Cl [_, _, _] _), (_, Cl [_, _, _] _), (_, Cl [_, _] _), (_, Cl [_, _, _, _, _, _, _, _, _] _)] [_, _, _, _] := st.set (i := 4) rfl hp hf
    have hF := hF.step hf (by intro y hy; simp only [List.mem_cons, List.not_mem_nil, or_false] at hy; subst hy; first | (exact Or.inr (by omega)) | (exact Or.inl (kin0 _ _)) | (exact Or.inl (by simp)))
    refine Las rfl rfl rfl rfl rfl (Ls_nil (Th_n (hK9 _ _ ?_)))
    have st := st.addK (kS none 0 0 3 []) ⟨Rdx.nil, by simp, Nat.le_refl _, Nat.zero_le _⟩
    have st : St X w11 [(_, Cl [_, _, _, _, _, _, _, _, _, _] _), (_, Cl [_, _, _] _), (_, Cl [_, _, _] _), (_, Cl [_, _] _), (_, Cl [_, _, _, _, _, _, _, _, _] _)] [_, _, _, _, _] := st
    refine Wp_ret (Ib_r (Th_r (Fq_ret (ResN2 rfl (rvc (i := 4) rfl Ty.ag_46 st.hp rfl rfl) rfl) ?_)))
    have he3 : r14prepare_m s o tag at_ = ((⟨0, [], 0, (⟨(⟨0, 0⟩ : IdM), 0⟩ : TagM), (⟨0, 0⟩ : StampM), ([] : List TagM)⟩ : EffectM), 2) := by unfold r14prepare_m; rewrite [if_pos hc1, if_pos hc2, if_neg hc3]; rfl
    rewrite [he3]
    exact ⟨_, _, rfl, st.out (i := 4) rfl, hF⟩
  have hc3 := neF hc3
  refine Wp_seq fun K10 hK10 => ?_
  refine use_out hK10 (fun E W => E = [(4, .pointer (some ⟨g1, 0, none⟩)), (5, .pointer (some ⟨g2, 0, none⟩)), (6, .pointer (some ⟨g3, 0, none⟩)), (7, .pointer (some ⟨g4, 0, none⟩)), (8, .pointer (some ⟨g5, 0, none⟩)), (32, .bool (r14prepare_c1 s o tag at_))] ∧ St X W (hOf st) (kOf st) ∧ Fr ([]) w W) ?_ fun hout1 => ?_
  · rintro E w12 ⟨rfl, st, hF⟩
    have st : St X w12 [(_, Cl [_, _, _, _, _, _, _, _, _, _] _), (_, Cl [_, _, _] _), (_, Cl [_, _, _] _), (_, Cl [_, _] _), (_, Cl [_, _, _, _, _, _, _, _, _] _)] [_, _, _, _] := st
    refine Wp_cond rfl (fun hc4 => ?_) (fun hc4 => ?_)
    · have jhc4 := (r14prepare_c1_iff s o tag at_).1 hc4
      refine Wp_seq fun K11 hK11 => ?_
      refine Wp_region (Ls_y (wtd0 rfl) rfl rfl (y_build (cells := [_, _, _, _, _, _, _, _, _]) rfl rfl Ty.zc_46 Ty.ps_46 rfl) ?_)
      refine Ls_a (wtd0 rfl) ?_
      refine a_storew (i := 4) rfl rfl rfl rfl Ty.sz_46 rfl (by first | assumption | (simp [Value.oneCell']; done)) st.hp rfl rfl (fun w13 (hp : Hp w13 [(_, Cl [_, _, _, _, _, _, _, _, _, _] _), (_, Cl [_, _, _] _), (_, Cl [_, _, _] _), (_, Cl [_, _] _), (_, Cl [_, _, _, _, _, _, _, _, _] _)]) hf _ => ?_)
      have st : St X w13 [(_, Cl [_, _, _, _, _, _, _, _, _, _] _), (_, Cl [_, _, _] _), (_, Cl [_, _, _] _), (_, Cl [_, _] _), (_, Cl [_, _, _, _, _, _, _, _, _] _)] [_, _, _, _] := st.set (i := 4) rfl hp hf
      have hF := hF.step hf (by intro y hy; simp only [List.mem_cons, List.not_mem_nil, or_false] at hy; subst hy; first | (exact Or.inr (by omega)) | (exact Or.inl (kin0 _ _)) | (exact Or.inl (by simp)))
      refine Las rfl rfl rfl rfl rfl (Ls_nil (Th_n (hK11 _ _ ?_)))
      have st := st.addK (kS none 0 0 3 []) ⟨Rdx.nil, by simp, Nat.le_refl _, Nat.zero_le _⟩
      have st : St X w13 [(_, Cl [_, _, _, _, _, _, _, _, _, _] _), (_, Cl [_, _, _] _), (_, Cl [_, _, _] _), (_, Cl [_, _] _), (_, Cl [_, _, _, _, _, _, _, _, _] _)] [_, _, _, _, _] := st
      refine Wp_ret (Ib_r (Th_r (Fq_ret (ResN2 rfl (rvc (i := 4) rfl Ty.ag_46 st.hp rfl rfl) rfl) ?_)))
      have he4 : r14prepare_m s o tag at_ = ((⟨0, [], 0, (⟨(⟨0, 0⟩ : IdM), 0⟩ : TagM), (⟨0, 0⟩ : StampM), ([] : List TagM)⟩ : EffectM), 3) := by unfold r14prepare_m; rewrite [if_pos hc1, if_pos hc2, if_pos hc3, if_pos hc4]; rfl
      rewrite [he4]
      exact ⟨_, _, rfl, st.out (i := 4) rfl, hF⟩
    have jhc4 := mt (r14prepare_c1_iff s o tag at_).2 (bF hc4)
    have hc4 := bF hc4
    refine Wp_skip (Ib_n (Th_n (hK3 _ _ ?_)))
    refine Wp_seq fun K12 hK12 => ?_
    refine Wp_region (Ls_y (wtd0 rfl) rfl rfl (y_fld rfl rfl Ty.fo_39_0) (Ls_y (wtd0 rfl) rfl rfl (y_load (i := 1) rfl rfl Ty.pl_3 (fun _ e => e ▸ st.hp) rfl rfl) ?_))
    refine Ls_y (wtd0 rfl) rfl rfl (y_fld rfl rfl Ty.fo_39_1) (Ls_y (wtd0 rfl) rfl rfl (y_load (i := 1) rfl rfl Ty.pl_9 (fun _ e => e ▸ st.hp) rfl rfl) ?_)
    refine Ls_y (wtd0 rfl) rfl rfl (y_fld rfl rfl Ty.fo_39_2) (Ls_y (wtd0 rfl) rfl rfl (y_load (i := 1) rfl rfl Ty.pl_2 (fun _ e => e ▸ st.hp) rfl rfl) ?_)
    refine Ls_y (wtd0 rfl) rfl rfl (y_loadw (i := 2) rfl rfl Ty.ag_43 (fun _ e => e ▸ st.hp) rfl rfl) ?_
    refine Ls_y (wtd0 rfl) rfl rfl (y_build (cells := [_, _, _, _, _, _, _, _, _]) rfl rfl Ty.zc_46 Ty.ps_46 rfl) ?_
    refine Ls_a (wtd0 rfl) ?_
    refine a_alloc rfl rfl rfl Ty.zc_46 st.hp (fun g6 w14 (hp : Hp w14 [(_, Cl [_, _, _, _, _, _, _, _, _, _] _), (_, Cl [_, _, _] _), (_, Cl [_, _, _] _), (_, Cl [_, _] _), (_, Cl [_, _, _, _, _, _, _, _, _] _), (_, Cl [_, _, _, _, _, _, _, _, _] _)]) hf hg6 => ?_)
    have st : St X w14 [(_, Cl [_, _, _, _, _, _, _, _, _, _] _), (_, Cl [_, _, _] _), (_, Cl [_, _, _] _), (_, Cl [_, _] _), (_, Cl [_, _, _, _, _, _, _, _, _] _), (_, Cl [_, _, _, _, _, _, _, _, _] _)] [_, _, _, _] := st.push hp hf hg6
    have hg6 := Nat.le_trans hF.size hg6
    have hF := hF.step0 hf
    refine Ls_a (wtd0 rfl) ?_
    refine a_storew (i := 5) rfl rfl rfl rfl Ty.sz_46 rfl (by first | assumption | (simp [Value.oneCell']; done)) st.hp rfl rfl (fun w15 (hp : Hp w15 [(_, Cl [_, _, _, _, _, _, _, _, _, _] _), (_, Cl [_, _, _] _), (_, Cl [_, _, _] _), (_, Cl [_, _] _), (_, Cl [_, _, _, _, _, _, _, _, _] _), (_, Cl [_, _, _, _, _, _, _, _, _] _)]) hf _ => ?_)
    have st : St X w15 [(_, Cl [_, _, _, _, _, _, _, _, _, _] _), (_, Cl [_, _, _] _), (_, Cl [_, _, _] _), (_, Cl [_, _] _), (_, Cl [_, _, _, _, _, _, _, _, _] _), (_, Cl [_, _, _, _, _, _, _, _, _] _)] [_, _, _, _] := st.set (i := 5) rfl hp hf
    have hF := hF.step hf (by intro y hy; simp only [List.mem_cons, List.not_mem_nil, or_false] at hy; subst hy; first | (exact Or.inr (by omega)) | (exact Or.inl (kin0 _ _)) | (exact Or.inl (by simp)))
    refine Ls_nil (Th_n (hK12 _ _ ?_))
    refine Wp_seq fun K13 hK13 => ?_
    refine Wp_block (Wp_seq fun K14 hK14 => ?_)
    refine Wp_region (Ls_y (wtd0 rfl) rfl rfl (y_fld rfl rfl Ty.fo_39_0) (Ls_y (wtd0 rfl) rfl rfl (y_load (i := 1) rfl rfl Ty.pl_3 (fun _ e => e ▸ st.hp) rfl rfl) ?_))
    refine Ls_a (wtd0 rfl) ?_
    refine a_call rfl rfl rfl rfl (r14timed_ok _ o.act) (fun v w16 ⟨hv, hf⟩ => ?_)
    subst hv
    have st := st.keep0 hf
    have hF := hF.step0 hf
    have st : St X w16 [(_, Cl [_, _, _, _, _, _, _, _, _, _] _), (_, Cl [_, _, _] _), (_, Cl [_, _, _] _), (_, Cl [_, _] _), (_, Cl [_, _, _, _, _, _, _, _, _] _), (_, Cl [_, _, _, _, _, _, _, _, _] _)] [_, _, _, _] := st
    refine Las rfl rfl rfl rfl rfl (Ls_nil (Th_n (hK14 _ _ ?_)))
    refine Wp_cond rfl (fun hc5 => ?_) (fun hc5 => ?_)
    · refine Wp_region (Ls_y (wtd0 rfl) rfl rfl (y_loadw (i := 3) rfl rfl Ty.ag_24 (fun _ e => e ▸ st.hp) rfl rfl) ?_)
      refine Ls_y (wtd0 rfl) rfl rfl (y_fld rfl rfl Ty.fo_46_4) (Ls_a (wtd0 rfl) ?_)
      refine a_storem (i := 5) rfl rfl rfl rfl Ty.sz_24 rfl (by first | assumption | (simp [Value.oneCell']; done)) st.hp rfl (by simp) (fun w17 (hp : Hp w17 [(_, Cl [_, _, _, _, _, _, _, _, _, _] _), (_, Cl [_, _, _] _), (_, Cl [_, _, _] _), (_, Cl [_, _] _), (_, Cl [_, _, _, _, _, _, _, _, _] _), (_, Cl [_, _, _, _, _, _, _, _, _] _)]) hf _ => ?_)
      have st : St X w17 [(_, Cl [_, _, _, _, _, _, _, _, _, _] _), (_, Cl [_, _, _] _), (_, Cl [_, _, _] _), (_, Cl [_, _] _), (_, Cl [_, _, _, _, _, _, _, _, _] _), (_, Cl [_, _, _, _, _, _, _, _, _] _)] [_, _, _, _] := st.set (i := 5) rfl hp hf
      have hF := hF.step hf (by intro y hy; simp only [List.mem_cons, List.not_mem_nil, or_false] at hy; subst hy; first | (exact Or.inr (by omega)) | (exact Or.inl (kin0 _ _)) | (exact Or.inl (by simp)))
      refine Ls_nil (Ib_n (Th_n (hK13 _ _ ?_)))
      refine Wp_seq fun K15 hK15 => ?_
      refine Wp_region (Ls_y (wtd0 rfl) rfl rfl (y_loadw (i := 5) rfl rfl Ty.ag_46 (fun _ e => e ▸ st.hp) rfl rfl) ?_)
      refine Ls_a (wtd0 rfl) ?_
      refine a_storew (i := 4) rfl rfl rfl rfl Ty.sz_46 rfl (by first | assumption | (simp [Value.oneCell']; done)) st.hp rfl rfl (fun w18 (hp : Hp w18 [(_, Cl [_, _, _, _, _, _, _, _, _, _] _), (_, Cl [_, _, _] _), (_, Cl [_, _, _] _), (_, Cl [_, _] _), (_, Cl [_, _, _, _, _, _, _, _, _] _), (_, Cl [_, _, _, _, _, _, _, _, _] _)]) hf _ => ?_)
      have st : St X w18 [(_, Cl [_, _, _, _, _, _, _, _, _, _] _), (_, Cl [_, _, _] _), (_, Cl [_, _, _] _), (_, Cl [_, _] _), (_, Cl [_, _, _, _, _, _, _, _, _] _), (_, Cl [_, _, _, _, _, _, _, _, _] _)] [_, _, _, _] := st.set (i := 4) rfl hp hf
      have hF := hF.step hf (by intro y hy; simp only [List.mem_cons, List.not_mem_nil, or_false] at hy; subst hy; first | (exact Or.inr (by omega)) | (exact Or.inl (kin0 _ _)) | (exact Or.inl (by simp)))
      refine Las rfl rfl rfl rfl rfl (Ls_nil (Th_n (hK15 _ _ ?_)))
      have st := st.addK (kS none 0 0 3 []) ⟨Rdx.nil, by simp, Nat.le_refl _, Nat.zero_le _⟩
      have st : St X w18 [(_, Cl [_, _, _, _, _, _, _, _, _, _] _), (_, Cl [_, _, _] _), (_, Cl [_, _, _] _), (_, Cl [_, _] _), (_, Cl [_, _, _, _, _, _, _, _, _] _), (_, Cl [_, _, _, _, _, _, _, _, _] _)] [_, _, _, _, _] := st
      refine Wp_ret (Fq_ret (ResN2 rfl (rvc (i := 4) rfl Ty.ag_46 st.hp rfl rfl) rfl) ?_)
      have he5 : r14prepare_m s o tag at_ = ((⟨o.act, o.name, o.val, tag, at_, ([] : List TagM)⟩ : EffectM), 0) := by unfold r14prepare_m; rewrite [if_pos hc1, if_pos hc2, if_pos hc3, if_neg hc4, if_pos hc5]; rfl
      rewrite [he5]
      exact ⟨_, _, rfl, st.out (i := 4) rfl, hF⟩
    have hc5 := bF hc5
    refine Wp_seq fun K16 hK16 => ?_
    refine Wp_region (Ls_y (wtd0 rfl) rfl rfl (y_fld rfl rfl Ty.fo_39_0) (Ls_y (wtd0 rfl) rfl rfl (y_load (i := 1) rfl rfl Ty.pl_3 (fun _ e => e ▸ st.hp) rfl rfl) ?_))
    refine Ls_y (wtd0 rfl) rfl rfl (y_eq rfl rfl rfl) (Las rfl rfl rfl rfl rfl (Ls_nil (Th_n (hK16 _ _ ?_))))
    refine Wp_cond rfl (fun hc6 => ?_) (fun hc6 => ?_)
    · have hc6 := eT hc6
      refine Wp_region (Ls_y (wtd0 rfl) rfl rfl (y_fld rfl rfl Ty.fo_37_3) (Ls_y (wtd0 rfl) rfl rfl (y_loadm (i := 0) rfl rfl Ty.ag_32 (fun _ e => e ▸ st.hp) rfl rfl rfl) ?_))
      refine Ls_y (wtd0 rfl) rfl rfl (y_fld rfl rfl Ty.fo_39_1) (Ls_y (wtd0 rfl) rfl rfl (y_load (i := 1) rfl rfl Ty.pl_9 (fun _ e => e ▸ st.hp) rfl rfl) ?_)
      refine Ls_a (wtd0 rfl) ?_
      refine a_call rfl rfl rfl rfl (r12Tags_ok (keys (hOf st) ++ X) _ st.Lo s.setF A_s_setF_adds c_s_setF_adds A_s_setF_gone c_s_setF_gone o.name (st.k (i := 0) rfl) (st.k (i := 1) rfl) h1) (fun v w19 ⟨Ar1, cr1, hv, hr1, hf⟩ => ?_)
      subst hv
      have st := st.keep0 hf
      have hF := hF.step0 hf
      have hlehr1 := Sld.le hr1
      have st := st.addK (kS Ar1 (r12Tags_m s.setF o.name).length cr1 3 ((r12Tags_m s.setF o.name).flatMap tagMC)) hr1
      have st : St X w19 [(_, Cl [_, _, _, _, _, _, _, _, _, _] _), (_, Cl [_, _, _] _), (_, Cl [_, _, _] _), (_, Cl [_, _] _), (_, Cl [_, _, _, _, _, _, _, _, _] _), (_, Cl [_, _, _, _, _, _, _, _, _] _)] [_, _, _, _, _] := st
      refine Ls_y (wtd0 rfl) rfl rfl (y_fld rfl rfl Ty.fo_46_5) (Ls_a (wtd0 rfl) ?_)
      refine a_store (i := 5) rfl rfl rfl rfl rfl Ty.sz_30 rfl st.hp rfl (by simp) (fun w20 (hp : Hp w20 [(_, Cl [_, _, _, _, _, _, _, _, _, _] _), (_, Cl [_, _, _] _), (_, Cl [_, _, _] _), (_, Cl [_, _] _), (_, Cl [_, _, _, _, _, _, _, _, _] _), (_, Cl [_, _, _, _, _, _, _, _, _] _)]) hf _ => ?_)
      have st : St X w20 [(_, Cl [_, _, _, _, _, _, _, _, _, _] _), (_, Cl [_, _, _] _), (_, Cl [_, _, _] _), (_, Cl [_, _] _), (_, Cl [_, _, _, _, _, _, _, _, _] _), (_, Cl [_, _, _, _, _, _, _, _, _] _)] [_, _, _, _, _] := st.set (i := 5) rfl hp hf
      have hF := hF.step hf (by intro y hy; simp only [List.mem_cons, List.not_mem_nil, or_false] at hy; subst hy; first | (exact Or.inr (by omega)) | (exact Or.inl (kin0 _ _)) | (exact Or.inl (by simp)))
      refine Ls_nil (Ib_n (Th_n (hK13 _ _ ?_)))
      refine Wp_seq fun K17 hK17 => ?_
      refine Wp_region (Ls_y (wtd0 rfl) rfl rfl (y_loadw (i := 5) rfl rfl Ty.ag_46 (fun _ e => e ▸ st.hp) rfl rfl) ?_)
      refine Ls_a (wtd0 rfl) ?_
      refine a_storew (i := 4) rfl rfl rfl rfl Ty.sz_46 rfl (by first | assumption | (simp [Value.oneCell']; done)) st.hp rfl rfl (fun w21 (hp : Hp w21 [(_, Cl [_, _, _, _, _, _, _, _, _, _] _), (_, Cl [_, _, _] _), (_, Cl [_, _, _] _), (_, Cl [_, _] _), (_, Cl [_, _, _, _, _, _, _, _, _] _), (_, Cl [_, _, _, _, _, _, _, _, _] _)]) hf _ => ?_)
      have st : St X w21 [(_, Cl [_, _, _, _, _, _, _, _, _, _] _), (_, Cl [_, _, _] _), (_, Cl [_, _, _] _), (_, Cl [_, _] _), (_, Cl [_, _, _, _, _, _, _, _, _] _), (_, Cl [_, _, _, _, _, _, _, _, _] _)] [_, _, _, _, _] := st.set (i := 4) rfl hp hf
      have hF := hF.step hf (by intro y hy; simp only [List.mem_cons, List.not_mem_nil, or_false] at hy; subst hy; first | (exact Or.inr (by omega)) | (exact Or.inl (kin0 _ _)) | (exact Or.inl (by simp)))
      refine Las rfl rfl rfl rfl rfl (Ls_nil (Th_n (hK17 _ _ ?_)))
      refine Wp_ret (Fq_ret (ResN2 rfl (rvc (i := 4) rfl Ty.ag_46 st.hp rfl rfl) rfl) ?_)
      have he6 : r14prepare_m s o tag at_ = ((⟨o.act, o.name, o.val, tag, (⟨0, 0⟩ : StampM), r12Tags_m s.setF o.name⟩ : EffectM), 0) := by unfold r14prepare_m; rewrite [if_pos hc1, if_pos hc2, if_pos hc3, if_neg hc4, if_neg hc5, if_pos hc6]; rfl
      rewrite [he6]
      exact ⟨_, _, rfl, st.out (i := 4) rfl, hF⟩
    have hc6 := eF hc6
    refine Wp_seq fun K18 hK18 => ?_
    refine Wp_region (Ls_y (wtd0 rfl) rfl rfl (y_fld rfl rfl Ty.fo_39_0) (Ls_y (wtd0 rfl) rfl rfl (y_load (i := 1) rfl rfl Ty.pl_3 (fun _ e => e ▸ st.hp) rfl rfl) ?_))
    refine Ls_y (wtd0 rfl) rfl rfl (y_eq rfl rfl rfl) (Las rfl rfl rfl rfl rfl (Ls_nil (Th_n (hK18 _ _ ?_))))
    refine Wp_cond rfl (fun hc7 => ?_) (fun hc7 => ?_)
    · have hc7 := eT hc7
      refine Wp_region (Ls_y (wtd0 rfl) rfl rfl (y_fld rfl rfl Ty.fo_37_4) (Ls_y (wtd0 rfl) rfl rfl (y_loadm (i := 0) rfl rfl Ty.ag_35 (fun _ e => e ▸ st.hp) rfl rfl rfl) ?_))
      refine Ls_y (wtd0 rfl) rfl rfl (y_fld rfl rfl Ty.fo_39_1) (Ls_y (wtd0 rfl) rfl rfl (y_load (i := 1) rfl rfl Ty.pl_9 (fun _ e => e ▸ st.hp) rfl rfl) ?_)
      refine Ls_a (wtd0 rfl) ?_
      refine a_call rfl rfl rfl rfl (r13Tags_ok (keys (hOf st) ++ X) _ st.Lo s.map A_s_map_puts c_s_map_puts A_s_map_gone c_s_map_gone o.name (st.k (i := 2) rfl) (st.k (i := 3) rfl) h2) (fun v w22 ⟨Ar2, cr2, hv, hr2, hf⟩ => ?_)
      subst hv
      have st := st.keep0 hf
      have hF := hF.step0 hf
      have hlehr2 := Sld.le hr2
      have st := st.addK (kS Ar2 (r13Tags_m s.map o.name).length cr2 3 ((r13Tags_m s.map o.name).flatMap tagMC)) hr2
      have st : St X w22 [(_, Cl [_, _, _, _, _, _, _, _, _, _] _), (_, Cl [_, _, _] _), (_, Cl [_, _, _] _), (_, Cl [_, _] _), (_, Cl [_, _, _, _, _, _, _, _, _] _), (_, Cl [_, _, _, _, _, _, _, _, _] _)] [_, _, _, _, _] := st
      refine Ls_y (wtd0 rfl) rfl rfl (y_fld rfl rfl Ty.fo_46_5) (Ls_a (wtd0 rfl) ?_)
      refine a_store (i := 5) rfl rfl rfl rfl rfl Ty.sz_30 rfl st.hp rfl (by simp) (fun w23 (hp : Hp w23 [(_, Cl [_, _, _, _, _, _, _, _, _, _] _), (_, Cl [_, _, _] _), (_, Cl [_, _, _] _), (_, Cl [_, _] _), (_, Cl [_, _, _, _, _, _, _, _, _] _), (_, Cl [_, _, _, _, _, _, _, _, _] _)]) hf _ => ?_)
      have st : St X w23 [(_, Cl [_, _, _, _, _, _, _, _, _, _] _), (_, Cl [_, _, _] _), (_, Cl [_, _, _] _), (_, Cl [_, _] _), (_, Cl [_, _, _, _, _, _, _, _, _] _), (_, Cl [_, _, _, _, _, _, _, _, _] _)] [_, _, _, _, _] := st.set (i := 5) rfl hp hf
      have hF := hF.step hf (by intro y hy; simp only [List.mem_cons, List.not_mem_nil, or_false] at hy; subst hy; first | (exact Or.inr (by omega)) | (exact Or.inl (kin0 _ _)) | (exact Or.inl (by simp)))
      refine Ls_nil (Ib_n (Th_n (hK13 _ _ ?_)))
      refine Wp_seq fun K19 hK19 => ?_
      refine Wp_region (Ls_y (wtd0 rfl) rfl rfl (y_loadw (i := 5) rfl rfl Ty.ag_46 (fun _ e => e ▸ st.hp) rfl rfl) ?_)
      refine Ls_a (wtd0 rfl) ?_
      refine a_storew (i := 4) rfl rfl rfl rfl Ty.sz_46 rfl (by first | assumption | (simp [Value.oneCell']; done)) st.hp rfl rfl (fun w24 (hp : Hp w24 [(_, Cl [_, _, _, _, _, _, _, _, _, _] _), (_, Cl [_, _, _] _), (_, Cl [_, _, _] _), (_, Cl [_, _] _), (_, Cl [_, _, _, _, _, _, _, _, _] _), (_, Cl [_, _, _, _, _, _, _, _, _] _)]) hf _ => ?_)
      have st : St X w24 [(_, Cl [_, _, _, _, _, _, _, _, _, _] _), (_, Cl [_, _, _] _), (_, Cl [_, _, _] _), (_, Cl [_, _] _), (_, Cl [_, _, _, _, _, _, _, _, _] _), (_, Cl [_, _, _, _, _, _, _, _, _] _)] [_, _, _, _, _] := st.set (i := 4) rfl hp hf
      have hF := hF.step hf (by intro y hy; simp only [List.mem_cons, List.not_mem_nil, or_false] at hy; subst hy; first | (exact Or.inr (by omega)) | (exact Or.inl (kin0 _ _)) | (exact Or.inl (by simp)))
      refine Las rfl rfl rfl rfl rfl (Ls_nil (Th_n (hK19 _ _ ?_)))
      refine Wp_ret (Fq_ret (ResN2 rfl (rvc (i := 4) rfl Ty.ag_46 st.hp rfl rfl) rfl) ?_)
      have he7 : r14prepare_m s o tag at_ = ((⟨o.act, o.name, o.val, tag, (⟨0, 0⟩ : StampM), r13Tags_m s.map o.name⟩ : EffectM), 0) := by unfold r14prepare_m; rewrite [if_pos hc1, if_pos hc2, if_pos hc3, if_neg hc4, if_neg hc5, if_neg hc6, if_pos hc7]; rfl
      rewrite [he7]
      exact ⟨_, _, rfl, st.out (i := 4) rfl, hF⟩
    have hc7 := eF hc7
    refine Wp_skip (Ib_n (Th_n (hK13 _ _ ?_)))
    refine Wp_seq fun K20 hK20 => ?_
    refine Wp_region (Ls_y (wtd0 rfl) rfl rfl (y_loadw (i := 5) rfl rfl Ty.ag_46 (fun _ e => e ▸ st.hp) rfl rfl) ?_)
    refine Ls_a (wtd0 rfl) ?_
    refine a_storew (i := 4) rfl rfl rfl rfl Ty.sz_46 rfl (by first | assumption | (simp [Value.oneCell']; done)) st.hp rfl rfl (fun w25 (hp : Hp w25 [(_, Cl [_, _, _, _, _, _, _, _, _, _] _), (_, Cl [_, _, _] _), (_, Cl [_, _, _] _), (_, Cl [_, _] _), (_, Cl [_, _, _, _, _, _, _, _, _] _), (_, Cl [_, _, _, _, _, _, _, _, _] _)]) hf _ => ?_)
    have st : St X w25 [(_, Cl [_, _, _, _, _, _, _, _, _, _] _), (_, Cl [_, _, _] _), (_, Cl [_, _, _] _), (_, Cl [_, _] _), (_, Cl [_, _, _, _, _, _, _, _, _] _), (_, Cl [_, _, _, _, _, _, _, _, _] _)] [_, _, _, _] := st.set (i := 4) rfl hp hf
    have hF := hF.step hf (by intro y hy; simp only [List.mem_cons, List.not_mem_nil, or_false] at hy; subst hy; first | (exact Or.inr (by omega)) | (exact Or.inl (kin0 _ _)) | (exact Or.inl (by simp)))
    refine Las rfl rfl rfl rfl rfl (Ls_nil (Th_n (hK20 _ _ ?_)))
    have st := st.addK (kS none 0 0 3 []) ⟨Rdx.nil, by simp, Nat.le_refl _, Nat.zero_le _⟩
    have st : St X w25 [(_, Cl [_, _, _, _, _, _, _, _, _, _] _), (_, Cl [_, _, _] _), (_, Cl [_, _, _] _), (_, Cl [_, _] _), (_, Cl [_, _, _, _, _, _, _, _, _] _), (_, Cl [_, _, _, _, _, _, _, _, _] _)] [_, _, _, _, _] := st
    refine Wp_ret (Fq_ret (ResN2 rfl (rvc (i := 4) rfl Ty.ag_46 st.hp rfl rfl) rfl) ?_)
    have he8 : r14prepare_m s o tag at_ = ((⟨o.act, o.name, o.val, tag, (⟨0, 0⟩ : StampM), ([] : List TagM)⟩ : EffectM), 0) := by unfold r14prepare_m; rewrite [if_pos hc1, if_pos hc2, if_pos hc3, if_neg hc4, if_neg hc5, if_neg hc6, if_neg hc7]; rfl
    rewrite [he8]
    exact ⟨_, _, rfl, st.out (i := 4) rfl, hF⟩
  refine Wp_region (Ls_y (wtd0 rfl) rfl rfl (y_loadw (i := 3) rfl rfl Ty.ag_24 (fun _ e => e ▸ st.hp) rfl rfl) ?_)
  refine Ls_a (wtd0 rfl) ?_
  refine a_call rfl rfl rfl rfl (r9check_ok _ at_) (fun v w26 ⟨hv, hf⟩ => ?_)
  subst hv
  have st := st.keep0 hf
  have hF := hF.step0 hf
  have st : St X w26 [(_, Cl [_, _, _, _, _, _, _, _, _, _] _), (_, Cl [_, _, _] _), (_, Cl [_, _, _] _), (_, Cl [_, _] _), (_, Cl [_, _, _, _, _, _, _, _, _] _)] [_, _, _, _] := st
  refine Ls_y (wtd0 rfl) rfl rfl (y_ne rfl rfl rfl) (Lmv rfl rfl rfl rfl rfl (Ls_bool 36 rfl (fun hc8 => ?_) (fun hc8 => ?_)))
  · have hc8 := neT hc8
    refine Ls_s (wtdF rfl rfl rfl) rfl rfl (Ls_s (wtdF rfl rfl rfl) rfl rfl (Ls_s (wtdF rfl rfl rfl) rfl rfl (Ls_y (wtd0 rfl) rfl rfl (y_pick_t rfl rfl rfl) (Las rfl rfl rfl rfl rfl (Ls_nil (Th_n (?_)))))))
    have hcj1 : r14prepare_c1 s o tag at_ = true := by unfold r14prepare_c1; rewrite [if_neg hc8]; rfl
    exact hout1 _ [(4, _), (5, _), (6, _), (7, _), (8, _), (32, _)] _ ⟨rfl, rfl, rfl, rfl, rfl, rfl, trivial⟩ ⟨by rw [hcj1], (st.picks [0, 1, 2, 3, 4] (by decide)).pickK [0, 1, 2, 3], hF⟩
  have hc8 := neF hc8
  refine Ls_y (wtdT rfl rfl rfl) rfl rfl (y_fld rfl rfl Ty.fo_24_0) (Ls_y (wtdT rfl rfl rfl) rfl rfl (y_load (i := 3) rfl rfl Ty.pl_22 (fun _ e => e ▸ st.hp) rfl rfl) ?_)
  refine Ls_y (wtdT rfl rfl rfl) rfl rfl (y_eq rfl rfl rfl) (Ls_y (wtd0 rfl) rfl rfl (y_pick_f rfl rfl rfl) (Las rfl rfl rfl rfl rfl (Ls_nil (Th_n (?_)))))
  have hcj2 : r14prepare_c1 s o tag at_ = (at_.time == 0) := by unfold r14prepare_c1; rewrite [if_pos hc8]; rfl
  exact hout1 _ [(4, _), (5, _), (6, _), (7, _), (8, _), (32, _)] _ ⟨rfl, rfl, rfl, rfl, rfl, rfl, trivial⟩ ⟨by rw [hcj2], (st.picks [0, 1, 2, 3, 4] (by decide)).pickK [0, 1, 2, 3], hF⟩

theorem eqv_24r (a0 : Int) (a1 : Int) (b0 : Int) (b1 : Int) : eqVals Try.prog 8 24 [.int .u32 a0, .int .i64 a1] [.int .u32 b0, .int .i64 b1] = some ((a0 == b0) && ((a1 == b1) && true)) := by kernel_rfl
theorem eqv_24 (x y : StampM) : eqVals Try.prog 8 24 (stampMC x) (stampMC y) = some (decide (x = y)) := by
  obtain ⟨a0, a1⟩ := x
  obtain ⟨b0, b1⟩ := y
  refine (eqv_24r a0 a1 b0 b1).trans (congrArg some ?_)
  rw [Bool.eq_iff_iff]
  simp
def sameEffect_m (a : EffectM) (b : EffectM) : Bool :=
  if a.act = b.act then
    if a.name = b.name then
      if a.val = b.val then
        if a.tag = b.tag then
          if a.atF = b.atF then
            sameTags_m a.tags b.tags
          else
            false
        else
          false
      else
        false
    else
      false
  else
    false


set_option maxRecDepth 20000 in
theorem sameEffect_ok (X : List Nat) (w : World) (hX : Lo X w) (a : EffectM) (A_a_tags : Option Addr) (c_a_tags : Nat) (b : EffectM) (A_b_tags : Option Addr) (c_b_tags : Nat) (h_a_tags : Sld X w A_a_tags a.tags.length c_a_tags 3 (a.tags.flatMap tagMC)) (h_b_tags : Sld X w A_b_tags b.tags.length c_b_tags 3 (b.tags.flatMap tagMC)) :
    Fn Try.prog 11 [.agg #[.int .i64 a.act, sv a.name, .int .i64 a.val, .int .i64 a.tag.id.origin, .int .u32 a.tag.id.seq, .int .i64 a.tag.n, .int .u32 a.atF.time, .int .i64 a.atF.origin, .slice A_a_tags a.tags.length c_a_tags], .agg #[.int .i64 b.act, sv b.name, .int .i64 b.val, .int .i64 b.tag.id.origin, .int .u32 b.tag.id.seq, .int .i64 b.tag.n, .int .u32 b.atF.time, .int .i64 b.atF.origin, .slice A_b_tags b.tags.length c_b_tags]] w fun v w' => v = .bool (sameEffect_m a b) ∧ Fr [] w w' := by
  refine Fn_of 45 Ty.en_11 Try.func11 rfl rfl rfl ?_
  dsimp only [argEnv]
  have st : St X w [] [kS A_a_tags a.tags.length c_a_tags 3 (a.tags.flatMap tagMC), kS A_b_tags b.tags.length c_b_tags 3 (b.tags.flatMap tagMC)] := ((St.nil (X := X) (w := w) hX).addK (kS A_a_tags a.tags.length c_a_tags 3 (a.tags.flatMap tagMC)) h_a_tags).addK (kS A_b_tags b.tags.length c_b_tags 3 (b.tags.flatMap tagMC)) h_b_tags
  have hF := Fr.refl ([]) w
  have hleA_a_tags := (st.k (i := 0) rfl).le
  have hleA_b_tags := (st.k (i := 1) rfl).le
  refine Wp_seq fun K1 hK1 => ?_
  refine Wp_region (Ls_a (wtd0 rfl) ?_)
  refine a_box rfl rfl rfl rfl st.hp (fun g1 w1 (hp : Hp w1 [(_, Cl [_, _, _, _, _, _, _, _, _] _)]) hf hg1 => ?_)
  have st : St X w1 [(_, Cl [_, _, _, _, _, _, _, _, _] _)] [_, _] := st.push hp hf hg1
  have hg1 := Nat.le_trans hF.size hg1
  have hF := hF.step0 hf
  refine Ls_a (wtd0 rfl) ?_
  refine a_box rfl rfl rfl rfl st.hp (fun g2 w2 (hp : Hp w2 [(_, Cl [_, _, _, _, _, _, _, _, _] _), (_, Cl [_, _, _, _, _, _, _, _, _] _)]) hf hg2 => ?_)
  have st : St X w2 [(_, Cl [_, _, _, _, _, _, _, _, _] _), (_, Cl [_, _, _, _, _, _, _, _, _] _)] [_, _] := st.push hp hf hg2
  have hg2 := Nat.le_trans hF.size hg2
  have hF := hF.step0 hf
  refine Las rfl rfl rfl rfl rfl (Ls_nil (Th_n (hK1 _ _ ?_)))
  refine Wp_seq fun K2 hK2 => ?_
  refine Wp_region (Ls_y (wtd0 rfl) rfl rfl (y_fld rfl rfl Ty.fo_46_0) (Ls_y (wtd0 rfl) rfl rfl (y_load (i := 0) rfl rfl Ty.pl_3 (fun _ e => e ▸ st.hp) rfl rfl) ?_))
  refine Ls_y (wtd0 rfl) rfl rfl (y_fld rfl rfl Ty.fo_46_0) (Ls_y (wtd0 rfl) rfl rfl (y_load (i := 1) rfl rfl Ty.pl_3 (fun _ e => e ▸ st.hp) rfl rfl) ?_)
  refine Ls_y (wtd0 rfl) rfl rfl (y_eq rfl rfl rfl) (Lmv rfl rfl rfl rfl rfl (Ls_bool 10 rfl (fun hc1 => ?_) (fun hc1 => ?_)))
  · have hc1 := eT hc1
    refine Ls_y (wtdT rfl rfl rfl) rfl rfl (y_fld rfl rfl Ty.fo_46_1) (Ls_y (wtdT rfl rfl rfl) rfl rfl (y_load (i := 0) rfl rfl Ty.pl_9 (fun _ e => e ▸ st.hp) rfl rfl) ?_)
    refine Ls_y (wtdT rfl rfl rfl) rfl rfl (y_fld rfl rfl Ty.fo_46_1) (Ls_y (wtdT rfl rfl rfl) rfl rfl (y_load (i := 1) rfl rfl Ty.pl_9 (fun _ e => e ▸ st.hp) rfl rfl) ?_)
    refine Ls_y (wtdT rfl rfl rfl) rfl rfl (y_eqs rfl rfl rfl) ?_
    refine Ls_y (wtd0 rfl) rfl rfl (y_pick_t rfl rfl rfl) (Lmv rfl rfl rfl rfl rfl (Ls_bool 17 rfl (fun hc2 => ?_) (fun hc2 => ?_)))
    · have hc2 := eT hc2
      refine Ls_y (wtdT rfl rfl rfl) rfl rfl (y_fld rfl rfl Ty.fo_46_2) (Ls_y (wtdT rfl rfl rfl) rfl rfl (y_load (i := 0) rfl rfl Ty.pl_2 (fun _ e => e ▸ st.hp) rfl rfl) ?_)
      refine Ls_y (wtdT rfl rfl rfl) rfl rfl (y_fld rfl rfl Ty.fo_46_2) (Ls_y (wtdT rfl rfl rfl) rfl rfl (y_load (i := 1) rfl rfl Ty.pl_2 (fun _ e => e ▸ st.hp) rfl rfl) ?_)
      refine Ls_y (wtdT rfl rfl rfl) rfl rfl (y_eq rfl rfl rfl) (Ls_y (wtd0 rfl) rfl rfl (y_pick_t rfl rfl rfl) (Lmv rfl rfl rfl rfl rfl (Ls_bool 24 rfl (fun hc3 => ?_) (fun hc3 => ?_))))
      · have hc3 := eT hc3
        refine Ls_y (wtdT rfl rfl rfl) rfl rfl (y_fld rfl rfl Ty.fo_46_3) (Ls_y (wtdT rfl rfl rfl) rfl rfl (y_loadm (i := 0) rfl rfl Ty.ag_43 (fun _ e => e ▸ st.hp) rfl rfl rfl) ?_)
        refine Ls_y (wtdT rfl rfl rfl) rfl rfl (y_fld rfl rfl Ty.fo_46_3) (Ls_y (wtdT rfl rfl rfl) rfl rfl (y_loadm (i := 1) rfl rfl Ty.ag_43 (fun _ e => e ▸ st.hp) rfl rfl rfl) ?_)
        refine Ls_y (wtdT rfl rfl rfl) rfl rfl (y_eqv (b := decide (a.tag = b.tag)) rfl rfl rfl Ty.eg_43 (by rw [Ty.ag_43]; simp) (eqv_43 a.tag b.tag)) ?_
        refine Ls_y (wtd0 rfl) rfl rfl (y_pick_t rfl rfl rfl) (Lmv rfl rfl rfl rfl rfl (Ls_bool 31 rfl (fun hc4 => ?_) (fun hc4 => ?_)))
        · have hc4 := dT hc4
          refine Ls_y (wtdT rfl rfl rfl) rfl rfl (y_fld rfl rfl Ty.fo_46_4) (Ls_y (wtdT rfl rfl rfl) rfl rfl (y_loadm (i := 0) rfl rfl Ty.ag_24 (fun _ e => e ▸ st.hp) rfl rfl rfl) ?_)
          refine Ls_y (wtdT rfl rfl rfl) rfl rfl (y_fld rfl rfl Ty.fo_46_4) (Ls_y (wtdT rfl rfl rfl) rfl rfl (y_loadm (i := 1) rfl rfl Ty.ag_24 (fun _ e => e ▸ st.hp) rfl rfl rfl) ?_)
          refine Ls_y (wtdT rfl rfl rfl) rfl rfl (y_eqv (b := decide (a.atF = b.atF)) rfl rfl rfl Ty.eg_24 (by rw [Ty.ag_24]; simp) (eqv_24 a.atF b.atF)) ?_
          refine Ls_y (wtd0 rfl) rfl rfl (y_pick_t rfl rfl rfl) (Lmv rfl rfl rfl rfl rfl (Ls_bool 38 rfl (fun hc5 => ?_) (fun hc5 => ?_)))
          · have hc5 := dT hc5
            refine Ls_y (wtdT rfl rfl rfl) rfl rfl (y_fld rfl rfl Ty.fo_46_5) (Ls_y (wtdT rfl rfl rfl) rfl rfl (y_load (i := 0) rfl rfl Ty.pl_30 (fun _ e => e ▸ st.hp) rfl rfl) ?_)
            refine Ls_y (wtdT rfl rfl rfl) rfl rfl (y_fld rfl rfl Ty.fo_46_5) (Ls_y (wtdT rfl rfl rfl) rfl rfl (y_load (i := 1) rfl rfl Ty.pl_30 (fun _ e => e ▸ st.hp) rfl rfl) ?_)
            refine Ls_a (wtdT rfl rfl rfl) ?_
            refine a_call rfl rfl rfl rfl (sameTags_ok (keys (hOf st) ++ X) _ st.Lo a.tags A_a_tags c_a_tags b.tags A_b_tags c_b_tags (st.k (i := 0) rfl) (st.k (i := 1) rfl)) (fun v w3 ⟨hv, hf⟩ => ?_)
            subst hv
            have st := st.keep0 hf
            have hF := hF.step0 hf
            have st : St X w3 [(_, Cl [_, _, _, _, _, _, _, _, _] _), (_, Cl [_, _, _, _, _, _, _, _, _] _)] [_, _] := st
            refine Ls_y (wtd0 rfl) rfl rfl (y_pick_t rfl rfl rfl) (Las rfl rfl rfl rfl rfl (Ls_nil (Th_n (hK2 _ _ ?_))))
            refine Wp_ret (Fq_ret (Res1 rfl rfl) ?_)
            have he1 : sameEffect_m a b = (sameTags_m a.tags b.tags) := by unfold sameEffect_m; rewrite [if_pos hc1, if_pos hc2, if_pos hc3, if_pos hc4, if_pos hc5]; rfl
            rewrite [he1]
            exact ⟨rfl, hF⟩
          have hc5 := dF hc5
          refine Ls_s (wtdF rfl rfl rfl) rfl rfl (Ls_s (wtdF rfl rfl rfl) rfl rfl (Ls_s (wtdF rfl rfl rfl) rfl rfl (Ls_s (wtdF rfl rfl rfl) rfl rfl (Ls_s (wtdF rfl rfl rfl) rfl rfl (Ls_y (wtd0 rfl) rfl rfl (y_pick_f rfl rfl rfl) (Las rfl rfl rfl rfl rfl (Ls_nil (Th_n (hK2 _ _ ?_)))))))))
          refine Wp_ret (Fq_ret (Res1 rfl rfl) ?_)
          have he2 : sameEffect_m a b = false := by unfold sameEffect_m; rewrite [if_pos hc1, if_pos hc2, if_pos hc3, if_pos hc4, if_neg hc5]; rfl
          rewrite [he2]
          exact ⟨rfl, hF⟩
        have hc4 := dF hc4
        refine Ls_s (wtdF rfl rfl rfl) rfl rfl (Ls_s (wtdF rfl rfl rfl) rfl rfl (Ls_s (wtdF rfl rfl rfl) rfl rfl (Ls_s (wtdF rfl rfl rfl) rfl rfl (Ls_s (wtdF rfl rfl rfl) rfl rfl (Ls_y (wtd0 rfl) rfl rfl (y_pick_f rfl rfl rfl) (Lmv rfl rfl rfl rfl rfl (Ls_s (wtdF rfl rfl rfl) rfl rfl (Ls_s (wtdF rfl rfl rfl) rfl rfl (Ls_s (wtdF rfl rfl rfl) rfl rfl (Ls_s (wtdF rfl rfl rfl) rfl rfl (Ls_s (wtdF rfl rfl rfl) rfl rfl (Ls_y (wtd0 rfl) rfl rfl (y_pick_f rfl rfl rfl) (Las rfl rfl rfl rfl rfl (Ls_nil (Th_n (hK2 _ _ ?_))))))))))))))))
        refine Wp_ret (Fq_ret (Res1 rfl rfl) ?_)
        have he3 : sameEffect_m a b = false := by unfold sameEffect_m; rewrite [if_pos hc1, if_pos hc2, if_pos hc3, if_neg hc4]; rfl
        rewrite [he3]
        exact ⟨rfl, hF⟩
      have hc3 := eF hc3
      refine Ls_s (wtdF rfl rfl rfl) rfl rfl (Ls_s (wtdF rfl rfl rfl) rfl rfl (Ls_s (wtdF rfl rfl rfl) rfl rfl (Ls_s (wtdF rfl rfl rfl) rfl rfl (Ls_s (wtdF rfl rfl rfl) rfl rfl (Ls_y (wtd0 rfl) rfl rfl (y_pick_f rfl rfl rfl) (Lmv rfl rfl rfl rfl rfl (Ls_s (wtdF rfl rfl rfl) rfl rfl (Ls_s (wtdF rfl rfl rfl) rfl rfl (Ls_s (wtdF rfl rfl rfl) rfl rfl (Ls_s (wtdF rfl rfl rfl) rfl rfl (Ls_s (wtdF rfl rfl rfl) rfl rfl (Ls_y (wtd0 rfl) rfl rfl (y_pick_f rfl rfl rfl) (Lmv rfl rfl rfl rfl rfl (Ls_s (wtdF rfl rfl rfl) rfl rfl (Ls_s (wtdF rfl rfl rfl) rfl rfl (Ls_s (wtdF rfl rfl rfl) rfl rfl (Ls_s (wtdF rfl rfl rfl) rfl rfl (Ls_s (wtdF rfl rfl rfl) rfl rfl (Ls_y (wtd0 rfl) rfl rfl (y_pick_f rfl rfl rfl) ?_)))))))))))))))))))
      refine Las rfl rfl rfl rfl rfl (Ls_nil (Th_n (hK2 _ _ ?_)))
      refine Wp_ret (Fq_ret (Res1 rfl rfl) ?_)
      have he4 : sameEffect_m a b = false := by unfold sameEffect_m; rewrite [if_pos hc1, if_pos hc2, if_neg hc3]; rfl
      rewrite [he4]
      exact ⟨rfl, hF⟩
    have hc2 := eF hc2
    refine Ls_s (wtdF rfl rfl rfl) rfl rfl (Ls_s (wtdF rfl rfl rfl) rfl rfl (Ls_s (wtdF rfl rfl rfl) rfl rfl (Ls_s (wtdF rfl rfl rfl) rfl rfl (Ls_s (wtdF rfl rfl rfl) rfl rfl (Ls_y (wtd0 rfl) rfl rfl (y_pick_f rfl rfl rfl) (Lmv rfl rfl rfl rfl rfl (Ls_s (wtdF rfl rfl rfl) rfl rfl (Ls_s (wtdF rfl rfl rfl) rfl rfl (Ls_s (wtdF rfl rfl rfl) rfl rfl (Ls_s (wtdF rfl rfl rfl) rfl rfl (Ls_s (wtdF rfl rfl rfl) rfl rfl (Ls_y (wtd0 rfl) rfl rfl (y_pick_f rfl rfl rfl) (Lmv rfl rfl rfl rfl rfl (Ls_s (wtdF rfl rfl rfl) rfl rfl (Ls_s (wtdF rfl rfl rfl) rfl rfl (Ls_s (wtdF rfl rfl rfl) rfl rfl (Ls_s (wtdF rfl rfl rfl) rfl rfl (Ls_s (wtdF rfl rfl rfl) rfl rfl (Ls_y (wtd0 rfl) rfl rfl (y_pick_f rfl rfl rfl) ?_)))))))))))))))))))
    refine Lmv rfl rfl rfl rfl rfl (Ls_s (wtdF rfl rfl rfl) rfl rfl (Ls_s (wtdF rfl rfl rfl) rfl rfl (Ls_s (wtdF rfl rfl rfl) rfl rfl (Ls_s (wtdF rfl rfl rfl) rfl rfl (Ls_s (wtdF rfl rfl rfl) rfl rfl (Ls_y (wtd0 rfl) rfl rfl (y_pick_f rfl rfl rfl) (Las rfl rfl rfl rfl rfl (Ls_nil (Th_n (hK2 _ _ ?_))))))))))
    refine Wp_ret (Fq_ret (Res1 rfl rfl) ?_)
    have he5 : sameEffect_m a b = false := by unfold sameEffect_m; rewrite [if_pos hc1, if_neg hc2]; rfl
    rewrite [he5]
    exact ⟨rfl, hF⟩
  have hc1 := eF hc1
  refine Ls_s (wtdF rfl rfl rfl) rfl rfl (Ls_s (wtdF rfl rfl rfl) rfl rfl (Ls_s (wtdF rfl rfl rfl) rfl rfl (Ls_s (wtdF rfl rfl rfl) rfl rfl (Ls_s (wtdF rfl rfl rfl) rfl rfl (Ls_y (wtd0 rfl) rfl rfl (y_pick_f rfl rfl rfl) (Lmv rfl rfl rfl rfl rfl (Ls_s (wtdF rfl rfl rfl) rfl rfl (Ls_s (wtdF rfl rfl rfl) rfl rfl (Ls_s (wtdF rfl rfl rfl) rfl rfl (Ls_s (wtdF rfl rfl rfl) rfl rfl (Ls_s (wtdF rfl rfl rfl) rfl rfl (Ls_y (wtd0 rfl) rfl rfl (y_pick_f rfl rfl rfl) (Lmv rfl rfl rfl rfl rfl (Ls_s (wtdF rfl rfl rfl) rfl rfl (Ls_s (wtdF rfl rfl rfl) rfl rfl (Ls_s (wtdF rfl rfl rfl) rfl rfl (Ls_s (wtdF rfl rfl rfl) rfl rfl (Ls_s (wtdF rfl rfl rfl) rfl rfl (Ls_y (wtd0 rfl) rfl rfl (y_pick_f rfl rfl rfl) ?_)))))))))))))))))))
  refine Lmv rfl rfl rfl rfl rfl (Ls_s (wtdF rfl rfl rfl) rfl rfl (Ls_s (wtdF rfl rfl rfl) rfl rfl (Ls_s (wtdF rfl rfl rfl) rfl rfl (Ls_s (wtdF rfl rfl rfl) rfl rfl (Ls_s (wtdF rfl rfl rfl) rfl rfl (Ls_y (wtd0 rfl) rfl rfl (y_pick_f rfl rfl rfl) (Lmv rfl rfl rfl rfl rfl (Ls_s (wtdF rfl rfl rfl) rfl rfl (Ls_s (wtdF rfl rfl rfl) rfl rfl (Ls_s (wtdF rfl rfl rfl) rfl rfl (Ls_s (wtdF rfl rfl rfl) rfl rfl (Ls_s (wtdF rfl rfl rfl) rfl rfl (Ls_y (wtd0 rfl) rfl rfl (y_pick_f rfl rfl rfl) (Las rfl rfl rfl rfl rfl (Ls_nil (Th_n (hK2 _ _ ?_)))))))))))))))))
  refine Wp_ret (Fq_ret (Res1 rfl rfl) ?_)
  have he6 : sameEffect_m a b = false := by unfold sameEffect_m; rewrite [if_neg hc1]; rfl
  rewrite [he6]
  exact ⟨rfl, hF⟩

theorem eqv_26r (a0 : Int) (a1 : Int) (a2 : Int) (b0 : Int) (b1 : Int) (b2 : Int) : eqVals Try.prog 8 26 [.int .i64 a0, .int .u32 a1, .int .i64 a2] [.int .i64 b0, .int .u32 b1, .int .i64 b2] = some ((a0 == b0) && (((a1 == b1) && ((a2 == b2) && true)) && true)) := by kernel_rfl
theorem eqv_26 (x y : RegM) : eqVals Try.prog 8 26 (regMC x) (regMC y) = some (decide (x = y)) := by
  obtain ⟨a0, ⟨a1, a2⟩⟩ := x
  obtain ⟨b0, ⟨b1, b2⟩⟩ := y
  refine (eqv_26r a0 a1 a2 b0 b1 b2).trans (congrArg some ?_)
  rw [Bool.eq_iff_iff]
  simp
theorem eqv_28r (a0 : Int) (a1 : Int) (b0 : Int) (b1 : Int) : eqVals Try.prog 8 28 [.int .i64 a0, .int .i64 a1] [.int .i64 b0, .int .i64 b1] = some ((a0 == b0) && ((a1 == b1) && true)) := by kernel_rfl
theorem eqv_28 (x y : NumM) : eqVals Try.prog 8 28 (numMC x) (numMC y) = some (decide (x = y)) := by
  obtain ⟨a0, a1⟩ := x
  obtain ⟨b0, b1⟩ := y
  refine (eqv_28r a0 a1 b0 b1).trans (congrArg some ?_)
  rw [Bool.eq_iff_iff]
  simp
def r14same_m (a : ObjM) (b : ObjM) : Bool :=
  if a.kind = b.kind then
    if a.reg = b.reg then
      if a.num = b.num then
        if (r12same_m a.setF b.setF) = true then
          r13same_m a.map b.map
        else
          false
      else
        false
    else
      false
  else
    false


set_option maxRecDepth 20000 in
theorem r14same_ok (X : List Nat) (w : World) (hX : Lo X w) (a : ObjM) (A_a_setF_adds : Option Addr) (c_a_setF_adds : Nat) (A_a_setF_gone : Option Addr) (c_a_setF_gone : Nat) (A_a_map_puts : Option Addr) (c_a_map_puts : Nat) (A_a_map_gone : Option Addr) (c_a_map_gone : Nat) (b : ObjM) (A_b_setF_adds : Option Addr) (c_b_setF_adds : Nat) (A_b_setF_gone : Option Addr) (c_b_setF_gone : Nat) (A_b_map_puts : Option Addr) (c_b_map_puts : Nat) (A_b_map_gone : Option Addr) (c_b_map_gone : Nat) (h_a_setF_adds : Sld X w A_a_setF_adds a.setF.adds.length c_a_setF_adds 4 (a.setF.adds.flatMap addMC)) (h_a_setF_gone : Sld X w A_a_setF_gone a.setF.gone.length c_a_setF_gone 3 (a.setF.gone.flatMap tagMC)) (h_a_map_puts : Sld X w A_a_map_puts a.map.puts.length c_a_map_puts 7 (a.map.puts.flatMap putMC)) (h_a_map_gone : Sld X w A_a_map_gone a.map.gone.length c_a_map_gone 3 (a.map.gone.flatMap tagMC)) (h_b_setF_adds : Sld X w A_b_setF_adds b.setF.adds.length c_b_setF_adds 4 (b.setF.adds.flatMap addMC)) (h_b_setF_gone : Sld X w A_b_setF_gone b.setF.gone.length c_b_setF_gone 3 (b.setF.gone.flatMap tagMC)) (h_b_map_puts : Sld X w A_b_map_puts b.map.puts.length c_b_map_puts 7 (b.map.puts.flatMap putMC)) (h_b_map_gone : Sld X w A_b_map_gone b.map.gone.length c_b_map_gone 3 (b.map.gone.flatMap tagMC)) :
    Fn Try.prog 13 [.agg #[.int .i64 a.kind, .int .i64 a.reg.val, .int .u32 a.reg.atF.time, .int .i64 a.reg.atF.origin, .int .i64 a.num.plus, .int .i64 a.num.minus, .slice A_a_setF_adds a.setF.adds.length c_a_setF_adds, .slice A_a_setF_gone a.setF.gone.length c_a_setF_gone, .slice A_a_map_puts a.map.puts.length c_a_map_puts, .slice A_a_map_gone a.map.gone.length c_a_map_gone], .agg #[.int .i64 b.kind, .int .i64 b.reg.val, .int .u32 b.reg.atF.time, .int .i64 b.reg.atF.origin, .int .i64 b.num.plus, .int .i64 b.num.minus, .slice A_b_setF_adds b.setF.adds.length c_b_setF_adds, .slice A_b_setF_gone b.setF.gone.length c_b_setF_gone, .slice A_b_map_puts b.map.puts.length c_b_map_puts, .slice A_b_map_gone b.map.gone.length c_b_map_gone]] w fun v w' => v = .bool (r14same_m a b) ∧ Fr [] w w' := by
  refine Fn_of 38 Ty.en_13 Try.func13 rfl rfl rfl ?_
  dsimp only [argEnv]
  have st : St X w [] [kS A_a_setF_adds a.setF.adds.length c_a_setF_adds 4 (a.setF.adds.flatMap addMC), kS A_a_setF_gone a.setF.gone.length c_a_setF_gone 3 (a.setF.gone.flatMap tagMC), kS A_a_map_puts a.map.puts.length c_a_map_puts 7 (a.map.puts.flatMap putMC), kS A_a_map_gone a.map.gone.length c_a_map_gone 3 (a.map.gone.flatMap tagMC), kS A_b_setF_adds b.setF.adds.length c_b_setF_adds 4 (b.setF.adds.flatMap addMC), kS A_b_setF_gone b.setF.gone.length c_b_setF_gone 3 (b.setF.gone.flatMap tagMC), kS A_b_map_puts b.map.puts.length c_b_map_puts 7 (b.map.puts.flatMap putMC), kS A_b_map_gone b.map.gone.length c_b_map_gone 3 (b.map.gone.flatMap tagMC)] := ((((((((St.nil (X := X) (w := w) hX).addK (kS A_a_setF_adds a.setF.adds.length c_a_setF_adds 4 (a.setF.adds.flatMap addMC)) h_a_setF_adds).addK (kS A_a_setF_gone a.setF.gone.length c_a_setF_gone 3 (a.setF.gone.flatMap tagMC)) h_a_setF_gone).addK (kS A_a_map_puts a.map.puts.length c_a_map_puts 7 (a.map.puts.flatMap putMC)) h_a_map_puts).addK (kS A_a_map_gone a.map.gone.length c_a_map_gone 3 (a.map.gone.flatMap tagMC)) h_a_map_gone).addK (kS A_b_setF_adds b.setF.adds.length c_b_setF_adds 4 (b.setF.adds.flatMap addMC)) h_b_setF_adds).addK (kS A_b_setF_gone b.setF.gone.length c_b_setF_gone 3 (b.setF.gone.flatMap tagMC)) h_b_setF_gone).addK (kS A_b_map_puts b.map.puts.length c_b_map_puts 7 (b.map.puts.flatMap putMC)) h_b_map_puts).addK (kS A_b_map_gone b.map.gone.length c_b_map_gone 3 (b.map.gone.flatMap tagMC)) h_b_map_gone
  have hF := Fr.refl ([]) w
  have hleA_a_setF_adds := (st.k (i := 0) rfl).le
  have hleA_a_setF_gone := (st.k (i := 1) rfl).le
  have hleA_a_map_puts := (st.k (i := 2) rfl).le
  have hleA_a_map_gone := (st.k (i := 3) rfl).le
  have hleA_b_setF_adds := (st.k (i := 4) rfl).le
  have hleA_b_setF_gone := (st.k (i := 5) rfl).le
  have hleA_b_map_puts := (st.k (i := 6) rfl).le
  have hleA_b_map_gone := (st.k (i := 7) rfl).le
  refine Wp_seq fun K1 hK1 => ?_
  refine Wp_region (Ls_a (wtd0 rfl) ?_)
  refine a_box rfl rfl rfl rfl st.hp (fun g1 w1 (hp : Hp w1 [(_, Cl [_, _, _, _, _, _, _, _, _, _] _)]) hf hg1 => ?_)
  have st : St X w1 [(_, Cl [_, _, _, _, _, _, _, _, _, _] _)] [_, _, _, _, _, _, _, _] := st.push hp hf hg1
  have hg1 := Nat.le_trans hF.size hg1
  have hF := hF.step0 hf
  refine Ls_a (wtd0 rfl) ?_
  refine a_box rfl rfl rfl rfl st.hp (fun g2 w2 (hp : Hp w2 [(_, Cl [_, _, _, _, _, _, _, _, _, _] _), (_, Cl [_, _, _, _, _, _, _, _, _, _] _)]) hf hg2 => ?_)
  have st : St X w2 [(_, Cl [_, _, _, _, _, _, _, _, _, _] _), (_, Cl [_, _, _, _, _, _, _, _, _, _] _)] [_, _, _, _, _, _, _, _] := st.push hp hf hg2
  have hg2 := Nat.le_trans hF.size hg2
  have hF := hF.step0 hf
  refine Las rfl rfl rfl rfl rfl (Ls_nil (Th_n (hK1 _ _ ?_)))
  refine Wp_seq fun K2 hK2 => ?_
  refine Wp_region (Ls_y (wtd0 rfl) rfl rfl (y_fld rfl rfl Ty.fo_37_0) (Ls_y (wtd0 rfl) rfl rfl (y_load (i := 0) rfl rfl Ty.pl_3 (fun _ e => e ▸ st.hp) rfl rfl) ?_))
  refine Ls_y (wtd0 rfl) rfl rfl (y_fld rfl rfl Ty.fo_37_0) (Ls_y (wtd0 rfl) rfl rfl (y_load (i := 1) rfl rfl Ty.pl_3 (fun _ e => e ▸ st.hp) rfl rfl) ?_)
  refine Ls_y (wtd0 rfl) rfl rfl (y_eq rfl rfl rfl) (Lmv rfl rfl rfl rfl rfl (Ls_bool 10 rfl (fun hc1 => ?_) (fun hc1 => ?_)))
  · have hc1 := eT hc1
    refine Ls_y (wtdT rfl rfl rfl) rfl rfl (y_fld rfl rfl Ty.fo_37_1) (Ls_y (wtdT rfl rfl rfl) rfl rfl (y_loadm (i := 0) rfl rfl Ty.ag_26 (fun _ e => e ▸ st.hp) rfl rfl rfl) ?_)
    refine Ls_y (wtdT rfl rfl rfl) rfl rfl (y_fld rfl rfl Ty.fo_37_1) (Ls_y (wtdT rfl rfl rfl) rfl rfl (y_loadm (i := 1) rfl rfl Ty.ag_26 (fun _ e => e ▸ st.hp) rfl rfl rfl) ?_)
    refine Ls_y (wtdT rfl rfl rfl) rfl rfl (y_eqv (b := decide (a.reg = b.reg)) rfl rfl rfl Ty.eg_26 (by rw [Ty.ag_26]; simp) (eqv_26 a.reg b.reg)) ?_
    refine Ls_y (wtd0 rfl) rfl rfl (y_pick_t rfl rfl rfl) (Lmv rfl rfl rfl rfl rfl (Ls_bool 17 rfl (fun hc2 => ?_) (fun hc2 => ?_)))
    · have hc2 := dT hc2
      refine Ls_y (wtdT rfl rfl rfl) rfl rfl (y_fld rfl rfl Ty.fo_37_2) (Ls_y (wtdT rfl rfl rfl) rfl rfl (y_loadm (i := 0) rfl rfl Ty.ag_28 (fun _ e => e ▸ st.hp) rfl rfl rfl) ?_)
      refine Ls_y (wtdT rfl rfl rfl) rfl rfl (y_fld rfl rfl Ty.fo_37_2) (Ls_y (wtdT rfl rfl rfl) rfl rfl (y_loadm (i := 1) rfl rfl Ty.ag_28 (fun _ e => e ▸ st.hp) rfl rfl rfl) ?_)
      refine Ls_y (wtdT rfl rfl rfl) rfl rfl (y_eqv (b := decide (a.num = b.num)) rfl rfl rfl Ty.eg_28 (by rw [Ty.ag_28]; simp) (eqv_28 a.num b.num)) ?_
      refine Ls_y (wtd0 rfl) rfl rfl (y_pick_t rfl rfl rfl) (Lmv rfl rfl rfl rfl rfl (Ls_bool 24 rfl (fun hc3 => ?_) (fun hc3 => ?_)))
      · have hc3 := dT hc3
        refine Ls_y (wtdT rfl rfl rfl) rfl rfl (y_fld rfl rfl Ty.fo_37_3) (Ls_y (wtdT rfl rfl rfl) rfl rfl (y_loadm (i := 0) rfl rfl Ty.ag_32 (fun _ e => e ▸ st.hp) rfl rfl rfl) ?_)
        refine Ls_y (wtdT rfl rfl rfl) rfl rfl (y_fld rfl rfl Ty.fo_37_3) (Ls_y (wtdT rfl rfl rfl) rfl rfl (y_loadm (i := 1) rfl rfl Ty.ag_32 (fun _ e => e ▸ st.hp) rfl rfl rfl) ?_)
        refine Ls_a (wtdT rfl rfl rfl) ?_
        refine a_call rfl rfl rfl rfl (r12same_ok (keys (hOf st) ++ X) _ st.Lo a.setF A_a_setF_adds c_a_setF_adds A_a_setF_gone c_a_setF_gone b.setF A_b_setF_adds c_b_setF_adds A_b_setF_gone c_b_setF_gone (st.k (i := 0) rfl) (st.k (i := 1) rfl) (st.k (i := 4) rfl) (st.k (i := 5) rfl)) (fun v w3 ⟨hv, hf⟩ => ?_)
        subst hv
        have st := st.keep0 hf
        have hF := hF.step0 hf
        have st : St X w3 [(_, Cl [_, _, _, _, _, _, _, _, _, _] _), (_, Cl [_, _, _, _, _, _, _, _, _, _] _)] [_, _, _, _, _, _, _, _] := st
        refine Ls_y (wtd0 rfl) rfl rfl (y_pick_t rfl rfl rfl) (Lmv rfl rfl rfl rfl rfl (Ls_bool 31 rfl (fun hc4 => ?_) (fun hc4 => ?_)))
        · refine Ls_y (wtdT rfl rfl rfl) rfl rfl (y_fld rfl rfl Ty.fo_37_4) (Ls_y (wtdT rfl rfl rfl) rfl rfl (y_loadm (i := 0) rfl rfl Ty.ag_35 (fun _ e => e ▸ st.hp) rfl rfl rfl) ?_)
          refine Ls_y (wtdT rfl rfl rfl) rfl rfl (y_fld rfl rfl Ty.fo_37_4) (Ls_y (wtdT rfl rfl rfl) rfl rfl (y_loadm (i := 1) rfl rfl Ty.ag_35 (fun _ e => e ▸ st.hp) rfl rfl rfl) ?_)
          refine Ls_a (wtdT rfl rfl rfl) ?_
          refine a_call rfl rfl rfl rfl (r13same_ok (keys (hOf st) ++ X) _ st.Lo a.map A_a_map_puts c_a_map_puts A_a_map_gone c_a_map_gone b.map A_b_map_puts c_b_map_puts A_b_map_gone c_b_map_gone (st.k (i := 2) rfl) (st.k (i := 3) rfl) (st.k (i := 6) rfl) (st.k (i := 7) rfl)) (fun v w4 ⟨hv, hf⟩ => ?_)
          subst hv
          have st := st.keep0 hf
          have hF := hF.step0 hf
          have st : St X w4 [(_, Cl [_, _, _, _, _, _, _, _, _, _] _), (_, Cl [_, _, _, _, _, _, _, _, _, _] _)] [_, _, _, _, _, _, _, _] := st
          refine Ls_y (wtd0 rfl) rfl rfl (y_pick_t rfl rfl rfl) (Las rfl rfl rfl rfl rfl (Ls_nil (Th_n (hK2 _ _ ?_))))
          refine Wp_ret (Fq_ret (Res1 rfl rfl) ?_)
          have he1 : r14same_m a b = (r13same_m a.map b.map) := by unfold r14same_m; rewrite [if_pos hc1, if_pos hc2, if_pos hc3, if_pos hc4]; rfl
          rewrite [he1]
          exact ⟨rfl, hF⟩
        have hc4 := bF hc4
        refine Ls_s (wtdF rfl rfl rfl) rfl rfl (Ls_s (wtdF rfl rfl rfl) rfl rfl (Ls_s (wtdF rfl rfl rfl) rfl rfl (Ls_s (wtdF rfl rfl rfl) rfl rfl (Ls_s (wtdF rfl rfl rfl) rfl rfl (Ls_y (wtd0 rfl) rfl rfl (y_pick_f rfl rfl rfl) (Las rfl rfl rfl rfl rfl (Ls_nil (Th_n (hK2 _ _ ?_)))))))))
        refine Wp_ret (Fq_ret (Res1 rfl rfl) ?_)
        have he2 : r14same_m a b = false := by unfold r14same_m; rewrite [if_pos hc1, if_pos hc2, if_pos hc3, if_neg hc4]; rfl
        rewrite [he2]
        exact ⟨rfl, hF⟩
      have hc3 := dF hc3
      refine Ls_s (wtdF rfl rfl rfl) rfl rfl (Ls_s (wtdF rfl rfl rfl) rfl rfl (Ls_s (wtdF rfl rfl rfl) rfl rfl (Ls_s (wtdF rfl rfl rfl) rfl rfl (Ls_s (wtdF rfl rfl rfl) rfl rfl (Ls_y (wtd0 rfl) rfl rfl (y_pick_f rfl rfl rfl) (Lmv rfl rfl rfl rfl rfl (Ls_s (wtdF rfl rfl rfl) rfl rfl (Ls_s (wtdF rfl rfl rfl) rfl rfl (Ls_s (wtdF rfl rfl rfl) rfl rfl (Ls_s (wtdF rfl rfl rfl) rfl rfl (Ls_s (wtdF rfl rfl rfl) rfl rfl (Ls_y (wtd0 rfl) rfl rfl (y_pick_f rfl rfl rfl) (Las rfl rfl rfl rfl rfl (Ls_nil (Th_n (hK2 _ _ ?_))))))))))))))))
      refine Wp_ret (Fq_ret (Res1 rfl rfl) ?_)
      have he3 : r14same_m a b = false := by unfold r14same_m; rewrite [if_pos hc1, if_pos hc2, if_neg hc3]; rfl
      rewrite [he3]
      exact ⟨rfl, hF⟩
    have hc2 := dF hc2
    refine Ls_s (wtdF rfl rfl rfl) rfl rfl (Ls_s (wtdF rfl rfl rfl) rfl rfl (Ls_s (wtdF rfl rfl rfl) rfl rfl (Ls_s (wtdF rfl rfl rfl) rfl rfl (Ls_s (wtdF rfl rfl rfl) rfl rfl (Ls_y (wtd0 rfl) rfl rfl (y_pick_f rfl rfl rfl) (Lmv rfl rfl rfl rfl rfl (Ls_s (wtdF rfl rfl rfl) rfl rfl (Ls_s (wtdF rfl rfl rfl) rfl rfl (Ls_s (wtdF rfl rfl rfl) rfl rfl (Ls_s (wtdF rfl rfl rfl) rfl rfl (Ls_s (wtdF rfl rfl rfl) rfl rfl (Ls_y (wtd0 rfl) rfl rfl (y_pick_f rfl rfl rfl) (Lmv rfl rfl rfl rfl rfl (Ls_s (wtdF rfl rfl rfl) rfl rfl (Ls_s (wtdF rfl rfl rfl) rfl rfl (Ls_s (wtdF rfl rfl rfl) rfl rfl (Ls_s (wtdF rfl rfl rfl) rfl rfl (Ls_s (wtdF rfl rfl rfl) rfl rfl (Ls_y (wtd0 rfl) rfl rfl (y_pick_f rfl rfl rfl) ?_)))))))))))))))))))
    refine Las rfl rfl rfl rfl rfl (Ls_nil (Th_n (hK2 _ _ ?_)))
    refine Wp_ret (Fq_ret (Res1 rfl rfl) ?_)
    have he4 : r14same_m a b = false := by unfold r14same_m; rewrite [if_pos hc1, if_neg hc2]; rfl
    rewrite [he4]
    exact ⟨rfl, hF⟩
  have hc1 := eF hc1
  refine Ls_s (wtdF rfl rfl rfl) rfl rfl (Ls_s (wtdF rfl rfl rfl) rfl rfl (Ls_s (wtdF rfl rfl rfl) rfl rfl (Ls_s (wtdF rfl rfl rfl) rfl rfl (Ls_s (wtdF rfl rfl rfl) rfl rfl (Ls_y (wtd0 rfl) rfl rfl (y_pick_f rfl rfl rfl) (Lmv rfl rfl rfl rfl rfl (Ls_s (wtdF rfl rfl rfl) rfl rfl (Ls_s (wtdF rfl rfl rfl) rfl rfl (Ls_s (wtdF rfl rfl rfl) rfl rfl (Ls_s (wtdF rfl rfl rfl) rfl rfl (Ls_s (wtdF rfl rfl rfl) rfl rfl (Ls_y (wtd0 rfl) rfl rfl (y_pick_f rfl rfl rfl) (Lmv rfl rfl rfl rfl rfl (Ls_s (wtdF rfl rfl rfl) rfl rfl (Ls_s (wtdF rfl rfl rfl) rfl rfl (Ls_s (wtdF rfl rfl rfl) rfl rfl (Ls_s (wtdF rfl rfl rfl) rfl rfl (Ls_s (wtdF rfl rfl rfl) rfl rfl (Ls_y (wtd0 rfl) rfl rfl (y_pick_f rfl rfl rfl) ?_)))))))))))))))))))
  refine Lmv rfl rfl rfl rfl rfl (Ls_s (wtdF rfl rfl rfl) rfl rfl (Ls_s (wtdF rfl rfl rfl) rfl rfl (Ls_s (wtdF rfl rfl rfl) rfl rfl (Ls_s (wtdF rfl rfl rfl) rfl rfl (Ls_s (wtdF rfl rfl rfl) rfl rfl (Ls_y (wtd0 rfl) rfl rfl (y_pick_f rfl rfl rfl) (Las rfl rfl rfl rfl rfl (Ls_nil (Th_n (hK2 _ _ ?_))))))))))
  refine Wp_ret (Fq_ret (Res1 rfl rfl) ?_)
  have he5 : r14same_m a b = false := by unfold r14same_m; rewrite [if_neg hc1]; rfl
  rewrite [he5]
  exact ⟨rfl, hF⟩

end Go.Proofs.Ytmajjdpioillaaa

/- Walks printed by gen2.py out of our own specifications: what the functions named below do. -/
import Derived.Test.YtmenpoicgoijcaaGreatSc
import Derived.Test.YtmenpoicgoijcaaGreatO2b
import Derived.Test.YtmenpoicgoijcaaGreatSr
set_option linter.unusedSimpArgs false
set_option linter.unusedVariables false
set_option maxRecDepth 20000
namespace Go.Proofs.YtmenpoicgoijcaaGreat
open Go.RowKit
theorem eqv_24r (a0 : Int) (a1 : Int) (b0 : Int) (b1 : Int) : eqVals Tryz.prog 8 24 [.int .u32 a0, .int .i64 a1] [.int .u32 b0, .int .i64 b1] = some ((a0 == b0) && ((a1 == b1) && true)) := by kernel_rfl
theorem eqv_24 (x y : StampM) : eqVals Tryz.prog 8 24 (stampMC x) (stampMC y) = some (decide (x = y)) := by
  obtain ⟨a0, a1⟩ := x
  obtain ⟨b0, b1⟩ := y
  refine (eqv_24r a0 a1 b0 b1).trans (congrArg some ?_)
  rw [Bool.eq_iff_iff]
  simp
def r9compare_c1 (a : StampM) (b : StampM) : Bool :=
  (if a.time < b.time then true else (if a.time = b.time then decide (a.origin < b.origin) else false))
def r9compare_m (a : StampM) (b : StampM) : Int :=
  if (r9compare_c1 a b) = true then
    (-1)
  else
    if a = b then
      0
    else
      1
theorem r9compare_c1_iff (a : StampM) (b : StampM) : (r9compare_c1 a b = true) ↔ ((a.time < b.time) ∨ ((a.time = b.time) ∧ (a.origin < b.origin))) := by
  unfold r9compare_c1; exact (ci1 (ci2 decide_eq_true_iff))
theorem r9compare_ok (w : World) (a : StampM) (b : StampM) :
    Fn Tryz.prog 151 [.agg (stampMC a).toArray, .agg (stampMC b).toArray] w fun v w' => v = .int .i64 (r9compare_m a b) ∧ Fr [] w w' := by
  refine Fn_of 29 Ty.en_151 Tryz.func151 rfl rfl rfl ?_
  dsimp only [argEnv]
  have st := stn0 (X := []) (w := w) (by simp [Lo])
  have hF := Fr.refl ([]) w
  refine sq fun _ k1 => rg (La rfl (Sbx st hF rfl fun g1 w1 (st : St _ _ [_] _) hF hg1 => La rfl (Sbx st hF rfl fun g2 w2 (st : St _ _ [_, _] _) hF hg2 => Ls' rfl (Ln k1 (sq fun _ k2 => Wp_block (sq fun _ k3 => ?_))))))
  refine use_out k3 (fun E W => E = [(2, .pointer (some ⟨g1, 0, none⟩)), (3, .pointer (some ⟨g2, 0, none⟩)), (5, .bool (r9compare_c1 a b))] ∧ St [] W (hOf st) (kOf st) ∧ Fr ([]) w W) ?_ fun hout1 => ?_
  · rintro E w3 ⟨rfl, st, hF⟩
    have st : St [] w3 [_, _] [] := st
    refine cB rfl (fun hc1 => ?_) (fun hc1 => ?_)
    · have jhc1 := (r9compare_c1_iff a b).1 hc1
      refine sq fun _ k4 => rg (Ls' rfl (Ln k4 (wR (Ib_r (Th_r (fR (Res1 rfl rfl) ?_))))))
      unfold r9compare_m; rewrite [iP hc1]
      exact ⟨rfl, hF⟩
    have jhc1 := mt (r9compare_c1_iff a b).2 hc1
    refine sq fun _ k5 => rg (Ly rfl (yw 0 Ty.ag_24 st rfl) (Ly rfl (yw 1 Ty.ag_24 st rfl) (Ly rfl (y_eqv (b := decide (a = b)) rfl rfl rfl Ty.eg_24 (by rw [Ty.ag_24]; simp) (eqv_24 a b)) ?_)))
    refine Ls' rfl (Ln k5 (cD rfl (fun hc2 => ?_) (fun hc2 => ?_)))
    · refine sq fun _ k6 => rg (Ls' rfl (Ln k6 (wR (Ib_r (Th_r (fR (Res1 rfl rfl) ?_))))))
      unfold r9compare_m; rewrite [iN hc1, iP hc2]
      exact ⟨rfl, hF⟩
    refine Wp_skip (Ib_n (Th_n (k2 _ _ (sq fun _ k7 => rg (Ls' rfl (Ln k7 (wR (fR (Res1 rfl rfl) ?_))))))))
    unfold r9compare_m; rewrite [iN hc1, iN hc2]
    exact ⟨rfl, hF⟩
  refine rg (Ly rfl (yf rfl Ty.fo_24_0) (Ly rfl (yl 0 Ty.pl_22 st rfl) (Ly rfl (yf rfl Ty.fo_24_0) (Ly rfl (yl 1 Ty.pl_22 st rfl) (Ly rfl (ylt rfl) (Lm rfl (bD (s := 11) rfl (fun hc3 => ?_) (fun hc3 => ?_))))))))
  · refine LsF rfl (LsF rfl (LsF rfl (LsF rfl (LsF rfl (LsF rfl (LsU rfl (LsU rfl (LsU rfl (LsU rfl (LsU rfl (LsF rfl (Ly rfl (yT rfl) (Ls' rfl (Ls_nil (Th_n (?_))))))))))))))))
    exact hout1 _ [(2, _), (3, _), (5, _)] _ ⟨rfl, rfl, rfl, trivial⟩ ⟨by unfold r9compare_c1; rewrite [iP hc3]; rfl, (st.pk [0, 1] (by decide)).pickK [], hF⟩
  refine LyT rfl (yf rfl Ty.fo_24_0) (LyT rfl (yl 0 Ty.pl_22 st rfl) (LyT rfl (yf rfl Ty.fo_24_0) (LyT rfl (yl 1 Ty.pl_22 st rfl) (LyT rfl (yeq rfl) (LyT rfl (y_move rfl rfl) (bE (s := 17) rfl (fun hc4 => ?_) (fun hc4 => ?_)))))))
  · refine LyT rfl (yf rfl Ty.fo_24_1) (LyT rfl (yl 0 Ty.pl_3 st rfl) (LyT rfl (yf rfl Ty.fo_24_1) (LyT rfl (yl 1 Ty.pl_3 st rfl) (LyT rfl (ylt rfl) (LyT rfl (yT rfl) (Ly rfl (yF rfl) (Ls' rfl (Ls_nil (Th_n (?_))))))))))
    exact hout1 _ [(2, _), (3, _), (5, _)] _ ⟨rfl, rfl, rfl, trivial⟩ ⟨by unfold r9compare_c1; rewrite [iN hc3, iP hc4]; rfl, (st.pk [0, 1] (by decide)).pickK [], hF⟩
  refine LsF rfl (LsF rfl (LsF rfl (LsF rfl (LsF rfl (LyT rfl (yF rfl) (Ly rfl (yF rfl) (Ls' rfl (Ls_nil (Th_n (?_))))))))))
  exact hout1 _ [(2, _), (3, _), (5, _)] _ ⟨rfl, rfl, rfl, trivial⟩ ⟨by unfold r9compare_c1; rewrite [iN hc3, iN hc4]; rfl, (st.pk [0, 1] (by decide)).pickK [], hF⟩
def r10merge_c1 (a : RegM) (b : RegM) : Bool :=
  (if 0 < (r9compare_m a.atF b.atF) then true else (if (r9compare_m a.atF b.atF) = 0 then decide (b.val ≤ a.val) else false))
def r10merge_m (a : RegM) (b : RegM) : RegM :=
  if (r10merge_c1 a b) = true then
    a
  else
    b
theorem r10merge_c1_iff (a : RegM) (b : RegM) : (r10merge_c1 a b = true) ↔ ((0 < (r9compare_m a.atF b.atF)) ∨ (((r9compare_m a.atF b.atF) = 0) ∧ (b.val ≤ a.val))) := by
  unfold r10merge_c1; exact (ci1 (ci2 decide_eq_true_iff))
theorem r10merge_ok (w : World) (a : RegM) (b : RegM) :
    Fn Tryz.prog 100 [.agg (regMC a).toArray, .agg (regMC b).toArray] w fun v w' => v = .agg (regMC (r10merge_m a b)).toArray ∧ Fr [] w w' := by
  refine Fn_of 26 Ty.en_100 Tryz.func100 rfl rfl rfl ?_
  dsimp only [argEnv]
  have st := stn0 (X := []) (w := w) (by simp [Lo])
  have hF := Fr.refl ([]) w
  refine sq fun _ k1 => rg (La rfl (Sbx st hF rfl fun g1 w1 (st : St _ _ [_] _) hF hg1 => La rfl (Sbx st hF rfl fun g2 w2 (st : St _ _ [_, _] _) hF hg2 => La rfl (Sal Ty.zc_26 st hF rfl fun g3 w3 (st : St _ _ [_, _, _] _) hF hg3 => Ln k1 (sq fun _ k2 => rg (Ly rfl (yf rfl Ty.fo_26_1) (Ly rfl (ym 0 Ty.ag_24 st rfl) (Ly rfl (yf rfl Ty.fo_26_1) (Ly rfl (ym 1 Ty.ag_24 st rfl) (La rfl (Scl st hF rfl (r9compare_ok _ a.atF b.atF) fun w4 st hF => Ls' rfl (Ln k2 (sq fun _ k3 => sq fun _ k4 => ?_)))))))))))))
  refine use_out k4 (fun E W => E = [(2, .pointer (some ⟨g1, 0, none⟩)), (3, .pointer (some ⟨g2, 0, none⟩)), (4, .pointer (some ⟨g3, 0, none⟩)), (23, .bool (r10merge_c1 a b))] ∧ St [] W (hOf st) (kOf st) ∧ Fr ([]) w W) ?_ fun hout1 => ?_
  · rintro E w5 ⟨rfl, st, hF⟩
    have st : St [] w5 [_, _, _] [] := st
    refine cB rfl (fun hc1 => ?_) (fun hc1 => ?_)
    · have jhc1 := (r10merge_c1_iff a b).1 hc1
      refine sq fun _ k5 => rg (Ly rfl (yw 0 Ty.ag_26 st rfl) (La rfl (Ssw 2 Ty.sz_26 st hF (.inr hg3) rfl fun w6 (st : St _ _ [_, _, _] _) hF => Ln k5 (wR (Th_r (fR (ResN1 rfl (rvc (i := 2) rfl Ty.ag_26 st.hp rfl rfl)) ?_))))))
      unfold r10merge_m; rewrite [iP hc1]
      exact ⟨rfl, hF⟩
    have jhc1 := mt (r10merge_c1_iff a b).2 hc1
    refine sk k3 (sq fun _ k6 => rg (Ly rfl (yw 1 Ty.ag_26 st rfl) (La rfl (Ssw 2 Ty.sz_26 st hF (.inr hg3) rfl fun w7 (st : St _ _ [_, _, _] _) hF => Ln k6 (wR (fR (ResN1 rfl (rvc (i := 2) rfl Ty.ag_26 st.hp rfl rfl)) ?_))))))
    unfold r10merge_m; rewrite [iN hc1]
    exact ⟨rfl, hF⟩
  refine rg (Lm rfl (Ly rfl (ygt rfl) (Lm rfl (bD (s := 13) rfl (fun hc2 => ?_) (fun hc2 => ?_)))))
  · refine LsF rfl (LsF rfl (LsF rfl (LsU rfl (LsU rfl (LsU rfl (LsU rfl (LsU rfl (LsF rfl (Ly rfl (yT rfl) (Ls_nil (Th_n (?_))))))))))))
    exact hout1 _ [(2, _), (3, _), (4, _), (23, _)] _ ⟨rfl, rfl, rfl, rfl, trivial⟩ ⟨by unfold r10merge_c1; rewrite [iP hc2]; rfl, (st.pk [0, 1, 2] (by decide)).pickK [], hF⟩
  refine LyT rfl (y_move rfl rfl) (LyT rfl (yeq rfl) (LyT rfl (y_move rfl rfl) (bE (s := 16) rfl (fun hc3 => ?_) (fun hc3 => ?_))))
  · refine LyT rfl (yf rfl Ty.fo_26_0) (LyT rfl (yl 0 Ty.pl_2 st rfl) (LyT rfl (yf rfl Ty.fo_26_0) (LyT rfl (yl 1 Ty.pl_2 st rfl) (LyT rfl (yge rfl) (LyT rfl (yT rfl) (Ly rfl (yF rfl) (Ls_nil (Th_n (?_)))))))))
    exact hout1 _ [(2, _), (3, _), (4, _), (23, _)] _ ⟨rfl, rfl, rfl, rfl, trivial⟩ ⟨by unfold r10merge_c1; rewrite [iN hc2, iP hc3]; rfl, (st.pk [0, 1, 2] (by decide)).pickK [], hF⟩
  refine LsF rfl (LsF rfl (LsF rfl (LsF rfl (LsF rfl (LyT rfl (yF rfl) (Ly rfl (yF rfl) (Ls_nil (Th_n (?_)))))))))
  exact hout1 _ [(2, _), (3, _), (4, _), (23, _)] _ ⟨rfl, rfl, rfl, rfl, trivial⟩ ⟨by unfold r10merge_c1; rewrite [iN hc2, iN hc3]; rfl, (st.pk [0, 1, 2] (by decide)).pickK [], hF⟩
def r10apply_c1 (s : RegM) (x : Int) (at_ : StampM) : Bool :=
  (if (r9check_m s.atF) = 0 then (if (r9check_m at_) = 0 then at_.time == 0 else true) else true)
def r10apply_m (s : RegM) (x : Int) (at_ : StampM) : RegM × Int :=
  if (r10apply_c1 s x at_) = true then
    ((⟨0, (⟨0, 0⟩ : StampM)⟩ : RegM), 2)
  else
    ((⟨(r10merge_m s (⟨x, at_⟩ : RegM)).val, (⟨(r10merge_m s (⟨x, at_⟩ : RegM)).atF.time, (r10merge_m s (⟨x, at_⟩ : RegM)).atF.origin⟩ : StampM)⟩ : RegM), 0)
theorem r10apply_c1_iff (s : RegM) (x : Int) (at_ : StampM) : (r10apply_c1 s x at_ = true) ↔ (¬ ((r9check_m s.atF) = 0) ∨ (¬ ((r9check_m at_) = 0) ∨ (at_.time = 0))) := by
  unfold r10apply_c1; exact (ci4 (ci4 beq_iff_eq))
theorem r10apply_ok (w : World) (s : RegM) (x : Int) (at_ : StampM) :
    Fn Tryz.prog 34 [.agg (regMC s).toArray, .int .i64 x, .agg (stampMC at_).toArray] w fun v w' => v = .tuple #[.agg (regMC ((r10apply_m s x at_).1)).toArray, .int .i64 ((r10apply_m s x at_).2)] ∧ Fr [] w w' := by
  refine Fn_of 28 Ty.en_34 Tryz.func34 rfl rfl rfl ?_
  dsimp only [argEnv]
  have st := stn0 (X := []) (w := w) (by simp [Lo])
  have hF := Fr.refl ([]) w
  refine sq fun _ k1 => rg (La rfl (Sbx st hF rfl fun g1 w1 (st : St _ _ [_] _) hF hg1 => La rfl (Sbx st hF rfl fun g2 w2 (st : St _ _ [_, _] _) hF hg2 => La rfl (Sal Ty.zc_26 st hF rfl fun g3 w3 (st : St _ _ [_, _, _] _) hF hg3 => Ls' rfl (Ln k1 (sq fun _ k2 => sq fun _ k3 => ?_))))))
  refine use_out k3 (fun E W => E = [(1, .int .i64 x), (3, .pointer (some ⟨g1, 0, none⟩)), (5, .pointer (some ⟨g2, 0, none⟩)), (6, .pointer (some ⟨g3, 0, none⟩)), (21, .bool (r10apply_c1 s x at_))] ∧ St [] W (hOf st) (kOf st) ∧ Fr ([]) w W) ?_ fun hout1 => ?_
  · rintro E w4 ⟨rfl, st, hF⟩
    have st : St [] w4 [_, _, _] [] := st
    refine cB rfl (fun hc1 => ?_) (fun hc1 => ?_)
    · have jhc1 := (r10apply_c1_iff s x at_).1 hc1
      refine sq fun _ k4 => rg (Ly rfl (y_build (cells := [_, _, _]) rfl rfl Ty.zc_26 Ty.ps_26 rfl) (La rfl (Ssw 2 Ty.sz_26 st hF (.inr hg3) rfl fun w5 (st : St _ _ [_, _, _] _) hF => Ls' rfl (Ln k4 (wR (Th_r (fR (ResN2 rfl (rvc (i := 2) rfl Ty.ag_26 st.hp rfl rfl) rfl) ?_)))))))
      unfold r10apply_m; rewrite [iP hc1]
      exact ⟨rfl, hF⟩
    have jhc1 := mt (r10apply_c1_iff s x at_).2 hc1
    refine sk k2 (sq fun _ k5 => rg (Ly rfl (yw 0 Ty.ag_26 st rfl) (Lm rfl (Ly rfl (yw 1 Ty.ag_24 st rfl) (Ly rfl (y_build (cells := [_, _, _]) rfl rfl Ty.zc_26 Ty.ps_26 rfl) (La rfl (Scl st hF rfl (r10merge_ok _ s (⟨x, at_⟩ : RegM)) fun w6 st hF => La rfl (Ssw 2 Ty.sz_26 st hF (.inr hg3) rfl fun w7 (st : St _ _ [_, _, _] _) hF => Ls' rfl (Ln k5 (wR (fR (ResN2 rfl (rvc (i := 2) rfl Ty.ag_26 st.hp rfl rfl) rfl) ?_)))))))))))
    unfold r10apply_m; rewrite [iN hc1]
    exact ⟨rfl, hF⟩
  refine rg (Ly rfl (yf rfl Ty.fo_26_1) (Ly rfl (ym 0 Ty.ag_24 st rfl) (La rfl (Scl st hF rfl (r9check_ok _ s.atF) fun w8 st hF => Ly rfl (yne rfl) (Lm rfl (bN (s := 12) rfl (fun hc2 => ?_) (fun hc2 => ?_)))))))
  · refine LsF rfl (LsF rfl (LsF rfl (Ly rfl (yT rfl) (Lm rfl (LsF rfl (LsF rfl (LsF rfl (Ly rfl (yT rfl) (Ls_nil (Th_n (?_)))))))))))
    exact hout1 _ [(1, _), (3, _), (5, _), (6, _), (21, _)] _ ⟨rfl, rfl, rfl, rfl, rfl, trivial⟩ ⟨by unfold r10apply_c1; rewrite [iN hc2]; rfl, (st.pk [0, 1, 2] (by decide)).pickK [], hF⟩
  refine LyT rfl (yw 1 Ty.ag_24 st rfl) (LaT rfl (Scl st hF rfl (r9check_ok _ at_) fun w9 st hF => LyT rfl (yne rfl) (Ly rfl (yF rfl) (Lm rfl (bN (s := 17) rfl (fun hc3 => ?_) (fun hc3 => ?_))))))
  · refine LsF rfl (LsF rfl (LsF rfl (Ly rfl (yT rfl) (Ls_nil (Th_n (?_))))))
    exact hout1 _ [(1, _), (3, _), (5, _), (6, _), (21, _)] _ ⟨rfl, rfl, rfl, rfl, rfl, trivial⟩ ⟨by unfold r10apply_c1; rewrite [iP hc2, iN hc3]; rfl, (st.pk [0, 1, 2] (by decide)).pickK [], hF⟩
  refine LyT rfl (yf rfl Ty.fo_24_0) (LyT rfl (yl 1 Ty.pl_22 st rfl) (LyT rfl (yeq rfl) (Ly rfl (yF rfl) (Ls_nil (Th_n (?_))))))
  exact hout1 _ [(1, _), (3, _), (5, _), (6, _), (21, _)] _ ⟨rfl, rfl, rfl, rfl, rfl, trivial⟩ ⟨by unfold r10apply_c1; rewrite [iP hc2, iP hc3]; rfl, (st.pk [0, 1, 2] (by decide)).pickK [], hF⟩
def r11check_c1 (s : NumM) : Bool :=
  (if s.plus < 0 then true else (if 1125899906842624 < s.plus then true else (if s.minus < 0 then true else decide (1125899906842624 < s.minus))))
def r11check_m (s : NumM) : Int :=
  if (r11check_c1 s) = true then
    2
  else
    0
theorem r11check_c1_iff (s : NumM) : (r11check_c1 s = true) ↔ ((s.plus < 0) ∨ ((1125899906842624 < s.plus) ∨ ((s.minus < 0) ∨ (1125899906842624 < s.minus)))) := by
  unfold r11check_c1; exact (ci1 (ci1 (ci1 decide_eq_true_iff)))
theorem r11check_ok (w : World) (s : NumM) :
    Fn Tryz.prog 101 [.agg (numMC s).toArray] w fun v w' => v = .int .i64 (r11check_m s) ∧ Fr [] w w' := by
  refine Fn_of 21 Ty.en_101 Tryz.func101 rfl rfl rfl ?_
  dsimp only [argEnv]
  have st := stn0 (X := []) (w := w) (by simp [Lo])
  have hF := Fr.refl ([]) w
  refine sq fun _ k1 => rg (La rfl (Sbx st hF rfl fun g1 w1 (st : St _ _ [_] _) hF hg1 => Ls' rfl (Ln k1 (sq fun _ k2 => sq fun _ k3 => ?_))))
  refine use_out k3 (fun E W => E = [(20, .bool (r11check_c1 s))] ∧ St [] W (hOf st) (kOf st) ∧ Fr ([]) w W) ?_ fun hout1 => ?_
  · rintro E w2 ⟨rfl, st, hF⟩
    have st : St [] w2 [_] [] := st
    refine cB rfl (fun hc1 => ?_) (fun hc1 => ?_)
    · have jhc1 := (r11check_c1_iff s).1 hc1
      refine sq fun _ k4 => rg (Ls' rfl (Ln k4 (wR (Th_r (fR (Res1 rfl rfl) ?_)))))
      unfold r11check_m; rewrite [iP hc1]
      exact ⟨rfl, hF⟩
    have jhc1 := mt (r11check_c1_iff s).2 hc1
    refine sk k2 (sq fun _ k5 => rg (Ls' rfl (Ln k5 (wR (fR (Res1 rfl rfl) ?_)))))
    unfold r11check_m; rewrite [iN hc1]
    exact ⟨rfl, hF⟩
  refine rg (Ly rfl (yf rfl Ty.fo_28_0) (Ly rfl (yl 0 Ty.pl_2 st rfl) (Ly rfl (ylt rfl) (Lm rfl (bD (s := 6) rfl (fun hc2 => ?_) (fun hc2 => ?_))))))
  · refine LsF rfl (LsF rfl (LsF rfl (Ly rfl (yT rfl) (Lm rfl (LsF rfl (LsF rfl (LsF rfl (Ly rfl (yT rfl) (Lm rfl (LsF rfl (LsF rfl (LsF rfl (Ly rfl (yT rfl) (Ls_nil (Th_n (?_))))))))))))))))
    exact hout1 _ [(20, _)] _ ⟨rfl, trivial⟩ ⟨by unfold r11check_c1; rewrite [iP hc2]; rfl, (st.pk [0] (by decide)).pickK [], hF⟩
  refine LyT rfl (yf rfl Ty.fo_28_0) (LyT rfl (yl 0 Ty.pl_2 st rfl) (LyT rfl (ygt rfl) (Ly rfl (yF rfl) (Lm rfl (bD (s := 11) rfl (fun hc3 => ?_) (fun hc3 => ?_))))))
  · refine LsF rfl (LsF rfl (LsF rfl (Ly rfl (yT rfl) (Lm rfl (LsF rfl (LsF rfl (LsF rfl (Ly rfl (yT rfl) (Ls_nil (Th_n (?_)))))))))))
    exact hout1 _ [(20, _)] _ ⟨rfl, trivial⟩ ⟨by unfold r11check_c1; rewrite [iN hc2, iP hc3]; rfl, (st.pk [0] (by decide)).pickK [], hF⟩
  refine LyT rfl (yf rfl Ty.fo_28_1) (LyT rfl (yl 0 Ty.pl_2 st rfl) (LyT rfl (ylt rfl) (Ly rfl (yF rfl) (Lm rfl (bD (s := 16) rfl (fun hc4 => ?_) (fun hc4 => ?_))))))
  · refine LsF rfl (LsF rfl (LsF rfl (Ly rfl (yT rfl) (Ls_nil (Th_n (?_))))))
    exact hout1 _ [(20, _)] _ ⟨rfl, trivial⟩ ⟨by unfold r11check_c1; rewrite [iN hc2, iN hc3, iP hc4]; rfl, (st.pk [0] (by decide)).pickK [], hF⟩
  refine LyT rfl (yf rfl Ty.fo_28_1) (LyT rfl (yl 0 Ty.pl_2 st rfl) (LyT rfl (ygt rfl) (Ly rfl (yF rfl) (Ls_nil (Th_n (?_))))))
  exact hout1 _ [(20, _)] _ ⟨rfl, trivial⟩ ⟨by unfold r11check_c1; rewrite [iN hc2, iN hc3, iN hc4]; rfl, (st.pk [0] (by decide)).pickK [], hF⟩
theorem r11check_in {s : NumM} (h : r11check_m s = 0) : 0 ≤ s.plus ∧ s.plus ≤ 1125899906842624 ∧ 0 ≤ s.minus ∧ s.minus ≤ 1125899906842624 := by
  unfold r11check_m at h; split at h
  · cases h
  · rename_i hc; have := mt (r11check_c1_iff s).2 hc; omega
def r11apply_m (s : NumM) (d : Int) : NumM × Int :=
  if (r11check_m s) = 0 then
    if d < (-1073741824) then
      ((⟨0, 0⟩ : NumM), 2)
    else
      if 1073741824 < d then
        ((⟨0, 0⟩ : NumM), 2)
      else
        if 0 ≤ d then
          if (r11check_m (⟨s.plus + d, s.minus⟩ : NumM)) = 0 then
            ((⟨s.plus + d, s.minus⟩ : NumM), 0)
          else
            ((⟨0, 0⟩ : NumM), 12)
        else
          if (r11check_m (⟨s.plus, s.minus - d⟩ : NumM)) = 0 then
            ((⟨s.plus, s.minus - d⟩ : NumM), 0)
          else
            ((⟨0, 0⟩ : NumM), 12)
  else
    ((⟨0, 0⟩ : NumM), 2)
theorem r11apply_ok (w : World) (s : NumM) (d : Int) :
    Fn Tryz.prog 35 [.agg (numMC s).toArray, .int .i64 d] w fun v w' => v = .tuple #[.agg (numMC ((r11apply_m s d).1)).toArray, .int .i64 ((r11apply_m s d).2)] ∧ Fr [] w w' := by
  refine Fn_of 35 Ty.en_35 Tryz.func35 rfl rfl rfl ?_
  dsimp only [argEnv]
  have st := stn0 (X := []) (w := w) (by simp [Lo])
  have hF := Fr.refl ([]) w
  refine sq fun _ k1 => rg (La rfl (Sbx st hF rfl fun g1 w1 (st : St _ _ [_] _) hF hg1 => La rfl (Sal Ty.zc_28 st hF rfl fun g2 w2 (st : St _ _ [_, _] _) hF hg2 => Ls' rfl (Ln k1 (sq fun _ k2 => sq fun _ k3 => rg (Ly rfl (yw 0 Ty.ag_28 st rfl) (La rfl (Scl st hF rfl (r11check_ok _ s) fun w3 st hF => Ly rfl (yne rfl) (Lm rfl (bN (s := 9) rfl (fun hc1 => ?_) (fun hc1 => ?_)))))))))))
  · refine LsF rfl (LsF rfl (Ly rfl (yT rfl) (Lm rfl (LsF rfl (LsF rfl (Ly rfl (yT rfl) (Ln k3 (Wp_cond_t rfl (sq fun _ k4 => rg (Ly rfl (y_build (cells := [_, _]) rfl rfl Ty.zc_28 Ty.ps_28 rfl) (La rfl (Ssw 1 Ty.sz_28 st hF (.inr hg2) rfl fun w4 (st : St _ _ [_, _] _) hF => Ls' rfl (Ln k4 (wR (Th_r (fR (ResN2 rfl (rvc (i := 1) rfl Ty.ag_28 st.hp rfl rfl) rfl) ?_))))))))))))))))
    unfold r11apply_m; rewrite [iN hc1]
    exact ⟨rfl, hF⟩
  have khc1 := r11check_in hc1
  refine LyT rfl (y_move rfl rfl) (LyT rfl (ylt rfl) (Ly rfl (yF rfl) (Lm rfl (bD (s := 13) rfl (fun hc2 => ?_) (fun hc2 => ?_)))))
  · refine LsF rfl (LsF rfl (Ly rfl (yT rfl) (Ln k3 (Wp_cond_t rfl (sq fun _ k5 => rg (Ly rfl (y_build (cells := [_, _]) rfl rfl Ty.zc_28 Ty.ps_28 rfl) (La rfl (Ssw 1 Ty.sz_28 st hF (.inr hg2) rfl fun w5 (st : St _ _ [_, _] _) hF => Ls' rfl (Ln k5 (wR (Th_r (fR (ResN2 rfl (rvc (i := 1) rfl Ty.ag_28 st.hp rfl rfl) rfl) ?_))))))))))))
    unfold r11apply_m; rewrite [iP hc1, iP hc2]
    exact ⟨rfl, hF⟩
  refine LyT rfl (y_move rfl rfl) (LyT rfl (ygt rfl) (Ly rfl (yF rfl) (Ln k3 (cD rfl (fun hc3 => ?_) (fun hc3 => ?_)))))
  · refine sq fun _ k6 => rg (Ly rfl (y_build (cells := [_, _]) rfl rfl Ty.zc_28 Ty.ps_28 rfl) (La rfl (Ssw 1 Ty.sz_28 st hF (.inr hg2) rfl fun w6 (st : St _ _ [_, _] _) hF => Ls' rfl (Ln k6 (wR (Th_r (fR (ResN2 rfl (rvc (i := 1) rfl Ty.ag_28 st.hp rfl rfl) rfl) ?_)))))))
    unfold r11apply_m; rewrite [iP hc1, iN hc2, iP hc3]
    exact ⟨rfl, hF⟩
  refine sk k2 (sq fun _ k7 => sq fun _ k8 => rg (Lm rfl (Ly rfl (yge rfl) (Ln k8 (cD rfl (fun hc4 => ?_) (fun hc4 => ?_))))))
  · refine rg (Ly rfl (yf rfl Ty.fo_28_0) (Ly rfl (yl 0 Ty.pl_2 st rfl) (Lm rfl (Ly rfl (y_add (c := s.plus + d) rfl rfl rfl (wf_i64 (by omega))) ?_))))
    refine Ly rfl (yf rfl Ty.fo_28_0) (La rfl (Ss1 0 Ty.sz_2 st hF (.inr hg1) rfl fun w7 (st : St _ _ [(_, Cl [_, _] _), _] _) hF => Ln k7 (sq fun _ k9 => sq fun _ k10 => rg (Ly rfl (yw 0 Ty.ag_28 st rfl) (La rfl (Scl st hF rfl (r11check_ok _ (⟨s.plus + d, s.minus⟩ : NumM)) fun w8 st hF => Ly rfl (yne rfl) (Ln k10 (cN rfl (fun hc5 => ?_) (fun hc5 => ?_)))))))))
    · refine sq fun _ k11 => rg (Ly rfl (y_build (cells := [_, _]) rfl rfl Ty.zc_28 Ty.ps_28 rfl) (La rfl (Ssw 1 Ty.sz_28 st hF (.inr hg2) rfl fun w9 (st : St _ _ [_, _] _) hF => Ls' rfl (Ln k11 (wR (Th_r (fR (ResN2 rfl (rvc (i := 1) rfl Ty.ag_28 st.hp rfl rfl) rfl) ?_)))))))
      unfold r11apply_m; rewrite [iP hc1, iN hc2, iN hc3, iP hc4, iN hc5]
      exact ⟨rfl, hF⟩
    refine sk k9 (sq fun _ k12 => rg (Ly rfl (yw 0 Ty.ag_28 st rfl) (La rfl (Ssw 1 Ty.sz_28 st hF (.inr hg2) rfl fun w10 (st : St _ _ [_, _] _) hF => Ls' rfl (Ln k12 (wR (fR (ResN2 rfl (rvc (i := 1) rfl Ty.ag_28 st.hp rfl rfl) rfl) ?_)))))))
    unfold r11apply_m; rewrite [iP hc1, iN hc2, iN hc3, iP hc4, iP hc5]
    exact ⟨rfl, hF⟩
  refine rg (Ly rfl (yf rfl Ty.fo_28_1) (Ly rfl (yl 0 Ty.pl_2 st rfl) (Lm rfl (Ly rfl (y_sub (c := s.minus - d) rfl rfl rfl (wf_i64 (by omega))) ?_))))
  refine Ly rfl (yf rfl Ty.fo_28_1) (La rfl (Ss1 0 Ty.sz_2 st hF (.inr hg1) rfl fun w11 (st : St _ _ [(_, Cl [_, _] _), _] _) hF => Ln k7 (sq fun _ k13 => sq fun _ k14 => rg (Ly rfl (yw 0 Ty.ag_28 st rfl) (La rfl (Scl st hF rfl (r11check_ok _ (⟨s.plus, s.minus - d⟩ : NumM)) fun w12 st hF => Ly rfl (yne rfl) (Ln k14 (cN rfl (fun hc6 => ?_) (fun hc6 => ?_)))))))))
  · refine sq fun _ k15 => rg (Ly rfl (y_build (cells := [_, _]) rfl rfl Ty.zc_28 Ty.ps_28 rfl) (La rfl (Ssw 1 Ty.sz_28 st hF (.inr hg2) rfl fun w13 (st : St _ _ [_, _] _) hF => Ls' rfl (Ln k15 (wR (Th_r (fR (ResN2 rfl (rvc (i := 1) rfl Ty.ag_28 st.hp rfl rfl) rfl) ?_)))))))
    unfold r11apply_m; rewrite [iP hc1, iN hc2, iN hc3, iN hc4, iN hc6]
    exact ⟨rfl, hF⟩
  refine sk k13 (sq fun _ k16 => rg (Ly rfl (yw 0 Ty.ag_28 st rfl) (La rfl (Ssw 1 Ty.sz_28 st hF (.inr hg2) rfl fun w14 (st : St _ _ [_, _] _) hF => Ls' rfl (Ln k16 (wR (fR (ResN2 rfl (rvc (i := 1) rfl Ty.ag_28 st.hp rfl rfl) rfl) ?_)))))))
  unfold r11apply_m; rewrite [iP hc1, iN hc2, iN hc3, iN hc4, iP hc6]
  exact ⟨rfl, hF⟩
def r11value_m (s : NumM) : Int :=
  if (r11check_m s) = 0 then
    s.plus - s.minus
  else
    0
theorem r11value_ok (w : World) (s : NumM) :
    Fn Tryz.prog 54 [.agg (numMC s).toArray] w fun v w' => v = .int .i64 (r11value_m s) ∧ Fr [] w w' := by
  refine Fn_of 11 Ty.en_54 Tryz.func54 rfl rfl rfl ?_
  dsimp only [argEnv]
  have st := stn0 (X := []) (w := w) (by simp [Lo])
  have hF := Fr.refl ([]) w
  refine sq fun _ k1 => rg (La rfl (Sbx st hF rfl fun g1 w1 (st : St _ _ [_] _) hF hg1 => Ls' rfl (Ln k1 (sq fun _ k2 => sq fun _ k3 => rg (Ly rfl (yw 0 Ty.ag_28 st rfl) (La rfl (Scl st hF rfl (r11check_ok _ s) fun w2 st hF => Ly rfl (yne rfl) (Ln k3 (cN rfl (fun hc1 => ?_) (fun hc1 => ?_))))))))))
  · refine sq fun _ k4 => rg (Ls' rfl (Ln k4 (wR (Th_r (fR (Res1 rfl rfl) ?_)))))
    unfold r11value_m; rewrite [iN hc1]
    exact ⟨rfl, hF⟩
  have khc1 := r11check_in hc1
  refine sk k2 (sq fun _ k5 => rg (Ly rfl (yf rfl Ty.fo_28_0) (Ly rfl (yl 0 Ty.pl_2 st rfl) (Ly rfl (yf rfl Ty.fo_28_1) (Ly rfl (yl 0 Ty.pl_2 st rfl) (Ly rfl (y_sub (c := s.plus - s.minus) rfl rfl rfl (wf_i64 (by omega))) ?_))))))
  refine Ls' rfl (Ln k5 (wR (fR (Res1 rfl rfl) ?_)))
  unfold r11value_m; rewrite [iP hc1]
  exact ⟨rfl, hF⟩
theorem r5check_in {id : IdM} (h : r5check_m id = 0) : 0 ≤ id.origin ∧ id.origin ≤ 7 ∧ 1 ≤ id.seq ∧ id.seq ≤ 1048576 := by
  unfold r5check_m at h; split at h
  · cases h
  · rename_i hc; have := mt (r5check_c1_iff id).2 hc; omega
structure A8u32M where
  e0 : Int
  e1 : Int
  e2 : Int
  e3 : Int
  e4 : Int
  e5 : Int
  e6 : Int
  e7 : Int
instance : Inhabited A8u32M := ⟨⟨default, default, default, default, default, default, default, default⟩⟩
instance : DecidableEq A8u32M := fun a b => decidable_of_iff (a.e0 = b.e0 ∧ a.e1 = b.e1 ∧ a.e2 = b.e2 ∧ a.e3 = b.e3 ∧ a.e4 = b.e4 ∧ a.e5 = b.e5 ∧ a.e6 = b.e6 ∧ a.e7 = b.e7) (by cases a; cases b; simp)
def a8u32C (x : A8u32M) : List Value := [.int .u32 x.e0, .int .u32 x.e1, .int .u32 x.e2, .int .u32 x.e3, .int .u32 x.e4, .int .u32 x.e5, .int .u32 x.e6, .int .u32 x.e7]
def A8u32M.get (x : A8u32M) (i : Int) : Int := ix [x.e0, x.e1, x.e2, x.e3, x.e4, x.e5, x.e6, x.e7] i
def A8u32M.put (x : A8u32M) (i v : Int) : A8u32M := ⟨if i = 0 then v else x.e0, if i = 1 then v else x.e1, if i = 2 then v else x.e2, if i = 3 then v else x.e3, if i = 4 then v else x.e4, if i = 5 then v else x.e5, if i = 6 then v else x.e6, if i = 7 then v else x.e7⟩
def r6has_m (vv : A8u32M) (id : IdM) : Bool :=
  if (r5check_m id) = 0 then
    decide (id.seq ≤ (vv.get id.origin))
  else
    false
theorem r6has_ok (w : World) (vv : A8u32M) (id : IdM) :
    Fn Tryz.prog 114 [.agg (a8u32C vv).toArray, .agg (idMC id).toArray] w fun v w' => v = .bool (r6has_m vv id) ∧ Fr [] w w' := by
  refine Fn_of 17 Ty.en_114 Tryz.func114 rfl rfl rfl ?_
  dsimp only [argEnv]
  have st := stn0 (X := []) (w := w) (by simp [Lo])
  have hF := Fr.refl ([]) w
  refine sq fun _ k1 => rg (La rfl (Sbx st hF rfl fun g1 w1 (st : St _ _ [_] _) hF hg1 => La rfl (Sbx st hF rfl fun g2 w2 (st : St _ _ [_, _] _) hF hg2 => Ls' rfl (Ln k1 (sq fun _ k2 => ?_)))))
  refine Wp_plan (fun W => St [] W (pickL (hOf st) [0, 1]) (kOf st)) [(true, 0), (false, 1), (true, 2), (true, 3), (true, 4), (true, 5), (true, 6), (true, 7), (true, 8), (true, 9), (true, 10), (true, 11), (true, 12)] Ty.mx_0 (by kernel_rfl) (by kernel_rfl) rfl ((st.pk [0, 1] (by decide)).drew) ?_
  have st := st.drew
  have hF := hF.step0 (Fr.drew _)
  refine Py rfl (y_loadw (i := 1) rfl rfl Ty.ag_39 (fun _ h => h.hp) rfl rfl) (Pl_a rfl (wtd0 rfl) (by rfl) ?_)
  refine Scl st hF rfl (r5check_ok _ id) fun w3 st hF => ?_
  refine ⟨(st.pk [0, 1] (by decide)).tK 0, ?_⟩
  refine Py rfl (yeq rfl) (Pm rfl (Pl_bool 8 rfl (fun hc1 => ?_) (fun hc1 => ?_)))
  · have hc1 := eT hc1
    have khc1 := r5check_in hc1
    refine Pl_y rfl (wtdT rfl rfl rfl) rfl rfl (yf rfl Ty.fo_39_1) (Pl_y rfl (wtdT rfl rfl rfl) rfl rfl (y_load (i := 1) rfl rfl Ty.pl_22 (fun _ h => h.hp) rfl rfl) (Pl_y rfl (wtdT rfl rfl rfl) rfl rfl (yf rfl Ty.fo_39_0) (Pl_y rfl (wtdT rfl rfl rfl) rfl rfl (y_load (i := 1) rfl rfl Ty.pl_3 (fun _ h => h.hp) rfl rfl) (Pl_y rfl (wtdT rfl rfl rfl) rfl rfl (y_ixr (q := id.origin) rfl rfl rfl Ty.ar_45 (by omega) (by omega)) ?_))))
    refine Pl_y rfl (wtdT rfl rfl rfl) rfl rfl (y_load (v := .int .u32 (vv.get id.origin)) (i := 0) rfl rfl Ty.pl_22 (fun _ h => h.hp) rfl (by rcases (show id.origin = 0 ∨ id.origin = 1 ∨ id.origin = 2 ∨ id.origin = 3 ∨ id.origin = 4 ∨ id.origin = 5 ∨ id.origin = 6 ∨ id.origin = 7 by omega) with hq | hq | hq | hq | hq | hq | hq | hq <;> (rw [hq]; rfl))) ?_
    refine Pl_y rfl (wtdT rfl rfl rfl) rfl rfl (yle rfl) (Py rfl (yT rfl) (Py rfl (y_assign rfl rfl) (Pl_nil (Th_n (k2 _ _ (wR (fR (Res1 rfl rfl) ?_)))))))
    unfold r6has_m; rewrite [iP hc1]
    exact ⟨rfl, hF⟩
  have hc1 := eF hc1
  refine Pl_s rfl (wtdF rfl rfl rfl) rfl rfl (Pl_s rfl (wtdF rfl rfl rfl) rfl rfl (Pl_s rfl (wtdF rfl rfl rfl) rfl rfl (Pl_s rfl (wtdF rfl rfl rfl) rfl rfl (Pl_s rfl (wtdF rfl rfl rfl) rfl rfl (Pl_s rfl (wtdF rfl rfl rfl) rfl rfl (Pl_s rfl (wtdF rfl rfl rfl) rfl rfl (Py rfl (yF rfl) (Py rfl (y_assign rfl rfl) (Pl_nil (Th_n (k2 _ _ (wR (fR (Res1 rfl rfl) ?_)))))))))))))
  unfold r6has_m; rewrite [iN hc1]
  exact ⟨rfl, hF⟩
def r12put_c1 (s : SetM) (a : AddM) : Bool :=
  (if (r12hasTag_m s.gone a.tag) = true then true else r12hasTag_m (r12tags_m s.adds) a.tag)
def r12put_c2 (s : SetM) (a : AddM) (s7 : Int) : Bool :=
  (if s7 < (s.adds.length : Int) then decide ((r5compareTag_m ((ix s.adds s7).tag) a.tag) < 0) else false)
def r12put_L1 (s : SetM) (a : AddM) : Nat → Int → (SetM × Int) ⊕ (Int)
  | 0, s7 => .inr (s7)
  | fuel + 1, s7 =>
    if (r12put_c2 s a s7) = true then
      r12put_L1 s a fuel (s7 + 1)
    else
      .inr (s7)
def r12put_m (s : SetM) (a : AddM) : SetM × Int :=
  if (r12check_m s) = 0 then
    if (r5checkTag_m a.tag) = 0 then
      if (r12elem_m a.elem) = true then
        if (r12put_c1 s a) = true then
          (s, 0)
        else
          if (s.adds.length : Int) = 4096 then
            ((⟨([] : List AddM), ([] : List TagM)⟩ : SetM), 4)
          else
            match r12put_L1 s a (((s.adds.length : Int) - (0 : Int)).toNat + 1) (0 : Int) with
            | .inl r => r
            | .inr (s7) =>
              ((⟨((([] : List AddM) ++ (s.adds.take s7.toNat)) ++ [a]) ++ (s.adds.drop s7.toNat), s.gone⟩ : SetM), 0)
      else
        ((⟨([] : List AddM), ([] : List TagM)⟩ : SetM), 3)
    else
      ((⟨([] : List AddM), ([] : List TagM)⟩ : SetM), 2)
  else
    ((⟨([] : List AddM), ([] : List TagM)⟩ : SetM), r12check_m s)
theorem r12put_c1_iff (s : SetM) (a : AddM) : (r12put_c1 s a = true) ↔ (((r12hasTag_m s.gone a.tag) = true) ∨ ((r12hasTag_m (r12tags_m s.adds) a.tag) = true)) := by
  unfold r12put_c1; exact (ci1 Iff.rfl)
theorem r12put_c2_iff (s : SetM) (a : AddM) (s7 : Int) : (r12put_c2 s a s7 = true) ↔ ((s7 < (s.adds.length : Int)) ∧ ((r5compareTag_m ((ix s.adds s7).tag) a.tag) < 0)) := by
  unfold r12put_c2; exact (ci2 decide_eq_true_iff)
theorem r12put_ok (X : List Nat) (w : World) (hX : Lo X w) (s : SetM) (A1 : Option Addr) (C1 : Nat) (A2 : Option Addr) (C2 : Nat) (a : AddM) (z3 : Sld X w A1 s.adds.length C1 4 (s.adds.flatMap addMC)) (z4 : Sld X w A2 s.gone.length C2 3 (s.gone.flatMap tagMC)) (h1 : s.adds.length ≤ 1000000) (h2 : s.gone.length ≤ 1000000) :
    Fn Tryz.prog 36 [.agg #[.slice A1 s.adds.length C1, .slice A2 s.gone.length C2], .agg (addMC a).toArray] w fun v w' => ∃ (A3 : Option Addr) (C3 : Nat) (A4 : Option Addr) (C4 : Nat), v = .tuple #[.agg #[.slice A3 (((r12put_m s a).1).adds).length C3, .slice A4 (((r12put_m s a).1).gone).length C4], .int .i64 ((r12put_m s a).2)] ∧ Sld X w' A3 (((r12put_m s a).1).adds).length C3 4 ((((r12put_m s a).1).adds).flatMap addMC) ∧ Sld X w' A4 (((r12put_m s a).1).gone).length C4 3 ((((r12put_m s a).1).gone).flatMap tagMC) ∧ Fr [] w w' := by
  refine Fn_of 87 Ty.en_36 Tryz.func36 rfl rfl rfl ?_
  dsimp only [argEnv]
  have st := stn2 hX z3 z4
  have hF := Fr.refl ([]) w
  refine sq fun _ k1 => rg (La rfl (Sbx st hF rfl fun g1 w1 (st : St _ _ [_] _) hF hg1 => La rfl (Sbx st hF rfl fun g2 w2 (st : St _ _ [_, _] _) hF hg2 => La rfl (Sal Ty.zc_32 st hF rfl fun g3 w3 (st : St _ _ [_, _, _] _) hF hg3 => Ls' rfl (Ln k1 (sq fun _ k2 => rg (Ly rfl (yw 0 Ty.ag_32 st rfl) (La rfl (Scl st hF rfl (r12check_ok (keys (hOf st) ++ X) _ st.Lo s A1 C1 A2 C2 (st.q 0 rfl) (st.q 1 rfl) h1) fun w4 st hF => Ls' rfl (Ln k2 (sq fun _ k3 => Wp_block (sq fun _ k4 => rg (Lm rfl (Ly rfl (yne rfl) (Ls' rfl (Ln k4 (cN rfl (fun hc1 => ?_) (fun hc1 => ?_))))))))))))))))))
  · refine sq fun _ k5 => rg (Ly rfl (y_build (cells := [_, _]) rfl rfl Ty.zc_32 Ty.ps_32 rfl) (Lm rfl (La rfl (Ssw 2 Ty.sz_32 st hF (.inr hg3) rfl fun w5 (st : St _ _ [_, _, _] _) hF => Ls' rfl (Ln k5 ?_)))))
    have st := st.aN 4
    have st := st.aN 3
    refine wR (Ib_r (Th_r (fR (ResN2 rfl (rvc (i := 2) rfl Ty.ag_32 st.hp rfl rfl) rfl) ?_)))
    unfold r12put_m; rewrite [iN hc1]
    exact ⟨_, _, _, _, rfl, st.ot 2 rfl, st.ot 3 rfl, hF⟩
  refine sq fun _ k6 => rg (Ly rfl (yf rfl Ty.fo_110_0) (Ly rfl (ym 1 Ty.ag_41 st rfl) (La rfl (Scl st hF rfl (r5checkTag_ok _ a.tag) fun w6 st hF => Ly rfl (yne rfl) (Ls' rfl (Ln k6 (cN rfl (fun hc2 => ?_) (fun hc2 => ?_))))))))
  · refine sq fun _ k7 => rg (Ly rfl (y_build (cells := [_, _]) rfl rfl Ty.zc_32 Ty.ps_32 rfl) (La rfl (Ssw 2 Ty.sz_32 st hF (.inr hg3) rfl fun w7 (st : St _ _ [_, _, _] _) hF => Ls' rfl (Ln k7 ?_))))
    have st := st.aN 4
    have st := st.aN 3
    refine wR (Ib_r (Th_r (fR (ResN2 rfl (rvc (i := 2) rfl Ty.ag_32 st.hp rfl rfl) rfl) ?_)))
    unfold r12put_m; rewrite [iP hc1, iN hc2]
    exact ⟨_, _, _, _, rfl, st.ot 2 rfl, st.ot 3 rfl, hF⟩
  refine sq fun _ k8 => rg (Ly rfl (yf rfl Ty.fo_110_1) (Ly rfl (yl 1 Ty.pl_9 st rfl) (La rfl (Scl st hF rfl (r12elem_ok _ a.elem) fun w8 st hF => Ly rfl (yn rfl) (Ls' rfl (Ln k8 (cBn rfl (fun hc3 => ?_) (fun hc3 => ?_))))))))
  · refine sq fun _ k9 => rg (Ly rfl (y_build (cells := [_, _]) rfl rfl Ty.zc_32 Ty.ps_32 rfl) (La rfl (Ssw 2 Ty.sz_32 st hF (.inr hg3) rfl fun w9 (st : St _ _ [_, _, _] _) hF => Ls' rfl (Ln k9 ?_))))
    have st := st.aN 4
    have st := st.aN 3
    refine wR (Ib_r (Th_r (fR (ResN2 rfl (rvc (i := 2) rfl Ty.ag_32 st.hp rfl rfl) rfl) ?_)))
    unfold r12put_m; rewrite [iP hc1, iP hc2, iN hc3]
    exact ⟨_, _, _, _, rfl, st.ot 2 rfl, st.ot 3 rfl, hF⟩
  refine sq fun _ k10 => ?_
  refine use_out k10 (fun E W => E = [(2, .pointer (some ⟨g1, 0, none⟩)), (3, .pointer (some ⟨g2, 0, none⟩)), (4, .pointer (some ⟨g3, 0, none⟩)), (28, .bool (r12put_c1 s a))] ∧ St X W (hOf st) (kOf st) ∧ Fr ([]) w W) ?_ fun hout1 => ?_
  · rintro E w10 ⟨rfl, st, hF⟩
    have st : St X w10 [_, _, _] [_, _] := st
    refine cB rfl (fun hc4 => ?_) (fun hc4 => ?_)
    · have jhc4 := (r12put_c1_iff s a).1 hc4
      refine sq fun _ k11 => rg (Ly rfl (yw 0 Ty.ag_32 st rfl) (La rfl (Ssw 2 Ty.sz_32 st hF (.inr hg3) rfl fun w11 (st : St _ _ [_, _, _] _) hF => Ls' rfl (Ln k11 (wR (Ib_r (Th_r (fR (ResN2 rfl (rvc (i := 2) rfl Ty.ag_32 st.hp rfl rfl) rfl) ?_))))))))
      unfold r12put_m; rewrite [iP hc1, iP hc2, iP hc3, iP hc4]
      exact ⟨_, _, _, _, rfl, st.ot 0 rfl, st.ot 1 rfl, hF⟩
    have jhc4 := mt (r12put_c1_iff s a).2 hc4
    refine sq fun _ k12 => rg (Ly rfl (yf rfl Ty.fo_32_0) (Ly rfl (yl 0 Ty.pl_29 st rfl) (Ly rfl (yll rfl Tryz.underlying29) (Ly rfl (yeq rfl) (Ls' rfl (Ln k12 (cE rfl (fun hc5 => ?_) (fun hc5 => ?_))))))))
    · refine sq fun _ k13 => rg (Ly rfl (y_build (cells := [_, _]) rfl rfl Ty.zc_32 Ty.ps_32 rfl) (La rfl (Ssw 2 Ty.sz_32 st hF (.inr hg3) rfl fun w12 (st : St _ _ [_, _, _] _) hF => Ls' rfl (Ln k13 ?_))))
      have st := st.aN 4
      have st := st.aN 3
      refine wR (Ib_r (Th_r (fR (ResN2 rfl (rvc (i := 2) rfl Ty.ag_32 st.hp rfl rfl) rfl) ?_)))
      unfold r12put_m; rewrite [iP hc1, iP hc2, iP hc3, iN hc4, iP hc5]
      exact ⟨_, _, _, _, rfl, st.ot 2 rfl, st.ot 3 rfl, hF⟩
    refine Wp_skip (Ib_n (Th_n (k3 _ _ (sq fun _ k14 => rg (Ls' rfl (Ln k14 (sq fun _ k15 => Wp_block (lp (fun q E W => ∃ (s7 : Int), E = [(2, .pointer (some ⟨g1, 0, none⟩)), (3, .pointer (some ⟨g2, 0, none⟩)), (4, .pointer (some ⟨g3, 0, none⟩)), (7, .int .i64 s7)] ∧ jq q (fun m => (r12put_L1 s a m s7 = r12put_L1 s a (((s.adds.length : Int) - (0 : Int)).toNat + 1) (0 : Int) ∧ ((s.adds.length : Int) - s7).toNat < m)) (r12put_L1 s a (((s.adds.length : Int) - (0 : Int)).toNat + 1) (0 : Int) = .inr (s7)) ∧ (0 ≤ s7 ∧ 0 ≤ s7 ∧ s7 ≤ s.adds.length) ∧ St X W [(some g1, Cl [.slice A1 s.adds.length C1, .slice A2 s.gone.length C2] 32), (some g2, Cl [.int .i64 a.tag.id.origin, .int .u32 a.tag.id.seq, .int .i64 a.tag.n, sv a.elem] 110), (some g3, Cl [.slice none 0 0, .slice none 0 0] 32)] [kS A1 s.adds.length C1 4 (s.adds.flatMap addMC), kS A2 s.gone.length C2 3 (s.gone.flatMap tagMC)] ∧ Fr ([]) w W) (((s.adds.length : Int) - (0 : Int)).toNat + 1) [(2, _), (3, _), (4, _), (7, _)] ⟨rfl, rfl, rfl, rfl, trivial⟩ ⟨_, rfl, ⟨rfl, Nat.lt_succ_self _⟩, by omega, st, hF⟩ k15 ?_ fun hout2 => ?_))))))))
    · rintro E w13 ⟨s7, rfl, hLk1, hinv, st, hF⟩
      unfold jq at hLk1; dsimp only at hLk1
      refine sq fun _ k16 => rg (La rfl (Sb0 (enc := addMC) Ty.es_29 Ty.zc_110 st hF rfl fun g4 w14 how1 hnew1 (st : St _ _ [_, _, _, _] _) hF => Ly rfl (yf rfl Ty.fo_32_0) (Ly rfl (yl 0 Ty.pl_29 st rfl) (Lm rfl ?_))))
      obtain ⟨Ak1, ck1, hk1, hk1y⟩ := cutK0 (enc := addMC) (m := 4) (l := s.adds) (q := s7) (fun _ => rfl) (by decide) (st.k (i := 0) rfl) (by omega) (by omega)
      refine Ly rfl (hk1y rfl rfl Ty.es_29 rfl rfl) ?_
      have st := st.addK (kS Ak1 (s.adds.take s7.toNat).length ck1 4 ((s.adds.take s7.toNat).flatMap addMC)) hk1
      have st : St X _ [_, _, _, _] [_, _, _] := st
      refine La rfl (Sap (enc := addMC) ([] : List AddM) (s.adds.take s7.toNat) 3 Ty.es_29 Ty.zc_110 Ty.by_110 (fun _ => rfl) addMC_1 how1 hnew1 st hF (st.k (i := 2) rfl).rd.src (fun h => by have := (st.k (i := 2) rfl).rd; exact rd_none this h (st.k (i := 2) rfl).len (by decide)) rfl (by first | omega | (simp; done) | (simp; omega)) (by first | omega | (simp; done) | (simp; omega)) fun Aa1 ca1 sp1 w15 how2 hnew2 (st : St _ _ [_, _, _, _] _) hF => ?_)
      refine Ls' rfl (Ln k16 (sq fun _ k17 => rg (Lm rfl (Ly rfl (yw 1 Ty.ag_110 st rfl) (La rfl (Sb (enc := addMC) a Ty.es_29 Ty.zc_110 (fun _ => rfl) st hF rfl fun g5 w16 how3 hnew3 (st : St _ _ [_, _, _, _, _] _) hF => La rfl (Sap (enc := addMC) (([] : List AddM) ++ (s.adds.take s7.toNat)) [a] 3 Ty.es_29 Ty.zc_110 Ty.by_110 (fun _ => rfl) addMC_1 how2 hnew2 st hF (own_src (i := 4) st.hp rfl how3) (own_none how3) rfl (by first | omega | (simp; done) | (simp; omega)) (by first | omega | (simp; done) | (simp; omega)) fun Aa2 ca2 sp2 w17 how4 hnew4 (st : St _ _ [_, _, _, _, _] _) hF => ?_)))))))
      refine Ls' rfl (Ln k17 (sq fun _ k18 => ?_))
      refine Wp_plan (fun W => St X W (pickL (hOf st) [0, 1, 4]) (kOf st)) [(true, 0), (true, 1), (true, 2), (true, 3), (true, 4), (true, 6), (true, 7), (false, 5), (true, 8), (false, 9), (true, 10)] Ty.mx_0 (by kernel_rfl) (by kernel_rfl) rfl ((st.pk [0, 1, 4] (by decide)).drew) ?_
      have st := st.drew
      have hF := hF.step0 (Fr.drew _)
      refine Pm rfl (Py rfl (yf rfl Ty.fo_32_0) (Py rfl (y_load (i := 0) rfl rfl Ty.pl_29 (fun _ h => h.hp) rfl rfl) (Pm rfl ?_)))
      obtain ⟨Ak2, ck2, hk2, hk2y⟩ := cutKe (enc := addMC) (m := 4) (l := s.adds) (p := s7) (fun _ => rfl) (by decide) (st.k (i := 0) rfl) (by omega) (by omega)
      refine Py rfl (hk2y rfl rfl Ty.es_29 rfl rfl) ?_
      have st := st.addK (kS Ak2 (s.adds.drop s7.toNat).length ck2 4 ((s.adds.drop s7.toNat).flatMap addMC)) hk2
      have st : St X _ [_, _, _, _, _] [_, _, _, _] := st
      refine Py rfl (yf rfl Ty.fo_32_1) (Py rfl (y_load (i := 0) rfl rfl Ty.pl_30 (fun _ h => h.hp) rfl rfl) (Pl_a rfl (wtd0 rfl) (by rfl) ?_))
      refine Sap (enc := addMC) ((([] : List AddM) ++ (s.adds.take s7.toNat)) ++ [a]) (s.adds.drop s7.toNat) 3 Ty.es_29 Ty.zc_110 Ty.by_110 (fun _ => rfl) addMC_1 how4 hnew4 st hF (st.k (i := 3) rfl).rd.src (fun h => by have := (st.k (i := 3) rfl).rd; exact rd_none this h (st.k (i := 3) rfl).len (by decide)) rfl (by first | omega | (simp; done) | (simp; omega)) (by first | omega | (simp; done) | (simp; omega)) fun Aa3 ca3 sp3 w18 how5 hnew5 (st : St _ _ [_, _, _, _, _] _) hF => ?_
      refine ⟨(st.pk [0, 1, 4] (by decide)).tK 3, ?_⟩
      refine Py rfl (y_build (cells := [_, _]) rfl rfl Ty.zc_32 Ty.ps_32 rfl) (Pl_a rfl (wtd0 rfl) (by rfl) ?_)
      refine Ssw 2 Ty.sz_32 st hF (.inr hg3) rfl fun w19 (st : St _ _ [_, _, _, _, _] _) hF => ?_
      refine ⟨(st.pk [0, 1, 4] (by decide)).tK 3, ?_⟩
      refine Py rfl (y_assign rfl rfl) (Pl_nil (Th_n (k18 _ _ ?_)))
      have st : St X w19 [_, _, _, _] [_, _, _, _, _] := st.freeze (i := 3) [0, 1, 2, 4] (by decide) rfl how5 (by decide)
      refine wR (fR (ResN2 rfl (rvc (i := 2) rfl Ty.ag_32 st.hp rfl rfl) rfl) ?_)
      unfold r12put_m; rewrite [iP hc1, iP hc2, iP hc3, iN hc4, iN hc5, hLk1]; (try dsimp only)
      exact ⟨_, _, _, _, rfl, st.ot 4 rfl, st.ot 1 rfl, hF⟩
    rintro m E w20 ⟨s7, rfl, ⟨hL1, hmu⟩, hinv, st, hF⟩
    obtain ⟨fuel, rfl⟩ : ∃ q, m = q + 1 := ⟨m - 1, by omega⟩
    refine sq fun _ k19 => sq fun _ k20 => ?_
    refine use_out k20 (fun E W => E = [(2, .pointer (some ⟨g1, 0, none⟩)), (3, .pointer (some ⟨g2, 0, none⟩)), (4, .pointer (some ⟨g3, 0, none⟩)), (7, .int .i64 s7), (65, .bool (r12put_c2 s a s7))] ∧ St X W (hOf st) (kOf st) ∧ Fr ([]) w W) ?_ fun hout3 => ?_
    · rintro E w21 ⟨rfl, st, hF⟩
      have st : St X w21 [_, _, _] [_, _] := st
      refine cB rfl (fun hc6 => ?_) (fun hc6 => ?_)
      · have jhc6 := (r12put_c2_iff s a s7).1 hc6
        refine sk k19 (Wp_block (rg (Lm rfl (Ly rfl (y_add (c := s7 + 1) rfl rfl rfl (wf_i64 (by omega))) ?_))))
        refine Ls' rfl (Ls_nil (Ib_n (Th_n (?_))))
        exact ⟨fuel, [(2, _), (3, _), (4, _), (7, _)], Nat.lt_succ_self _, ⟨rfl, rfl, rfl, rfl, trivial⟩, (s7 + 1), rfl, ⟨by rewrite [← hL1, r12put_L1]; rewrite [iP hc6]; rfl, by omega⟩, by omega, (st.pk [0, 1, 2] (by decide)).pickK [0, 1], hF⟩
      have jhc6 := mt (r12put_c2_iff s a s7).2 hc6
      refine Wp_exit (Th_e (Th_e (Ib_hit (Th_n (?_)))))
      exact hout2 _ [(2, _), (3, _), (4, _), (7, _)] _ ⟨rfl, rfl, rfl, rfl, trivial⟩ ⟨s7, rfl, show _ = _ from by rewrite [← hL1, r12put_L1]; rewrite [iN hc6]; rfl, by omega, (st.pk [0, 1, 2] (by decide)).pickK [0, 1], hF⟩
    refine Wp_plan (fun W => St X W (pickL (hOf st) [0, 1, 2]) (kOf st)) [(true, 0), (true, 1), (true, 2), (true, 3), (true, 4), (true, 5), (true, 6), (true, 7), (true, 8), (true, 9), (true, 10), (true, 11), (true, 12), (true, 13), (false, 14), (true, 15), (true, 16)] Ty.mx_0 (by kernel_rfl) (by kernel_rfl) rfl ((st.pk [0, 1, 2] (by decide)).drew) ?_
    have st := st.drew
    have hF := hF.step0 (Fr.drew _)
    refine Pm rfl (Py rfl (yf rfl Ty.fo_32_0) (Py rfl (y_load (i := 0) rfl rfl Ty.pl_29 (fun _ h => h.hp) rfl rfl) (Py rfl (yll rfl Tryz.underlying29) (Py rfl (ylt rfl) (Pm rfl (Pl_bool 54 rfl (fun hc7 => ?_) (fun hc7 => ?_)))))))
    · have hc7 := dT hc7
      refine Pl_y rfl (wtdT rfl rfl rfl) rfl rfl (yf rfl Ty.fo_32_0) (Pl_y rfl (wtdT rfl rfl rfl) rfl rfl (y_load (i := 0) rfl rfl Ty.pl_29 (fun _ h => h.hp) rfl rfl) (Pl_y rfl (wtdT rfl rfl rfl) rfl rfl (y_move rfl rfl) ?_))
      obtain ⟨gi1, bi1, egi1⟩ := (st.k (i := 0) rfl).addr (fun _ => rfl) (by decide) (q := s7) (by omega) (by omega)
      subst egi1
      refine Pl_y rfl (wtdT rfl rfl rfl) rfl rfl (y_ixa (q := s7) rfl rfl rfl Ty.es_29 (by omega) (by omega)) ?_
      refine Pl_y rfl (wtdT rfl rfl rfl) rfl rfl (yf rfl Ty.fo_110_0) (Pl_y rfl (wtdT rfl rfl rfl) rfl rfl (y_ldkm (q := s7) 0 rfl rfl Ty.ag_41 (fun _ h => h.k (i := 0) rfl) (fun _ => rfl) (by omega) (by omega) rfl rfl) ?_)
      refine Pl_y rfl (wtdT rfl rfl rfl) rfl rfl (yf rfl Ty.fo_110_0) (Pl_y rfl (wtdT rfl rfl rfl) rfl rfl (y_loadm (i := 1) rfl rfl Ty.ag_41 (fun _ h => h.hp) rfl rfl rfl) (Pl_a rfl (wtdT rfl rfl rfl) (by rfl) ?_))
      refine Scl st hF rfl (r5compareTag_ok _ ((ix s.adds s7).tag) a.tag) fun w22 st hF => ?_
      refine ⟨(st.pk [0, 1, 2] (by decide)).tK 2, ?_⟩
      refine Pl_y rfl (wtdT rfl rfl rfl) rfl rfl (ylt rfl) (Py rfl (yT rfl) (Pl_nil (Th_n (?_))))
      exact hout3 _ [(2, _), (3, _), (4, _), (7, _), (65, _)] _ ⟨rfl, rfl, rfl, rfl, rfl, trivial⟩ ⟨by unfold r12put_c2; rewrite [iP hc7]; rfl, (st.pk [0, 1, 2] (by decide)).pickK [0, 1], hF⟩
    have hc7 := dF hc7
    refine Pl_s rfl (wtdF rfl rfl rfl) rfl rfl (Pl_s rfl (wtdF rfl rfl rfl) rfl rfl (Pl_s rfl (wtdF rfl rfl rfl) rfl rfl (Pl_s rfl (wtdF rfl rfl rfl) rfl rfl (Pl_s rfl (wtdF rfl rfl rfl) rfl rfl (Pl_s rfl (wtdF rfl rfl rfl) rfl rfl (Pl_s rfl (wtdF rfl rfl rfl) rfl rfl (Pl_s rfl (wtdF rfl rfl rfl) rfl rfl (Pl_s rfl (wtdF rfl rfl rfl) rfl rfl (Pl_s rfl (wtdF rfl rfl rfl) rfl rfl (Py rfl (yF rfl) (Pl_nil (Th_n (?_)))))))))))))
    exact hout3 _ [(2, _), (3, _), (4, _), (7, _), (65, _)] _ ⟨rfl, rfl, rfl, rfl, rfl, trivial⟩ ⟨by unfold r12put_c2; rewrite [iN hc7]; rfl, (st.pk [0, 1, 2] (by decide)).pickK [0, 1], hF⟩
  refine Wp_plan (fun W => St X W (pickL (hOf st) [0, 1, 2]) (kOf st)) [(true, 0), (true, 1), (true, 2), (true, 3), (false, 4), (true, 5), (true, 6), (true, 7), (true, 9), (true, 10), (false, 8), (false, 11), (true, 12), (true, 13)] Ty.mx_0 (by kernel_rfl) (by kernel_rfl) rfl ((st.pk [0, 1, 2] (by decide)).drew) ?_
  have st := st.drew
  have hF := hF.step0 (Fr.drew _)
  refine Py rfl (yf rfl Ty.fo_32_1) (Py rfl (y_load (i := 0) rfl rfl Ty.pl_30 (fun _ h => h.hp) rfl rfl) (Py rfl (yf rfl Ty.fo_110_0) (Py rfl (y_loadm (i := 1) rfl rfl Ty.ag_41 (fun _ h => h.hp) rfl rfl rfl) (Pl_a rfl (wtd0 rfl) (by rfl) ?_))))
  refine Scl st hF rfl (r12hasTag_ok (keys (hOf st) ++ X) _ st.Lo s.gone A2 C2 a.tag (st.q 1 rfl)) fun w23 st hF => ?_
  refine ⟨(st.pk [0, 1, 2] (by decide)).tK 2, ?_⟩
  refine Pm rfl (Pl_bool 34 rfl (fun hc8 => ?_) (fun hc8 => ?_))
  · refine Pl_s rfl (wtdF rfl rfl rfl) rfl rfl (Pl_s rfl (wtdF rfl rfl rfl) rfl rfl (Pl_s rfl (wtdF rfl rfl rfl) rfl rfl (Pl_s rfl (wtdF rfl rfl rfl) rfl rfl (Pl_s rfl (wtdF rfl rfl rfl) rfl rfl (Pl_s rfl (wtdF rfl rfl rfl) rfl rfl (Py rfl (yT rfl) (Py rfl (y_assign rfl rfl) (Pl_nil (Th_n (?_))))))))))
    exact hout1 _ [(2, _), (3, _), (4, _), (28, _)] _ ⟨rfl, rfl, rfl, rfl, trivial⟩ ⟨by unfold r12put_c1; rewrite [iP hc8]; rfl, (st.pk [0, 1, 2] (by decide)).pickK [0, 1], hF⟩
  have hc8 := bF hc8
  refine Pl_y rfl (wtdT rfl rfl rfl) rfl rfl (yf rfl Ty.fo_32_0) (Pl_y rfl (wtdT rfl rfl rfl) rfl rfl (y_load (i := 0) rfl rfl Ty.pl_29 (fun _ h => h.hp) rfl rfl) (Pl_y rfl (wtdT rfl rfl rfl) rfl rfl (yf rfl Ty.fo_110_0) (Pl_y rfl (wtdT rfl rfl rfl) rfl rfl (y_loadm (i := 1) rfl rfl Ty.ag_41 (fun _ h => h.hp) rfl rfl rfl) (Pl_a rfl (wtdT rfl rfl rfl) (by rfl) ?_))))
  refine a_call rfl rfl rfl rfl (r12tags_ok (keys (hOf st) ++ X) _ st.Lo s.adds A1 C1 (st.q 0 rfl) h1) (fun v w24 ⟨Ar1, cr1, hv, hr1, hf⟩ => ?_)
  subst hv
  have st := st.keep0 hf
  have hF := hF.step0 hf
  have z5 := Sld.le hr1
  have st := st.addK (kS Ar1 (r12tags_m s.adds).length cr1 3 ((r12tags_m s.adds).flatMap tagMC)) hr1
  have st : St X w24 [_, _, _] [_, _, _] := st
  refine ⟨(st.pk [0, 1, 2] (by decide)).tK 2, ?_⟩
  refine Pl_a rfl (wtdT rfl rfl rfl) (by rfl) ?_
  refine Scl st hF rfl (r12hasTag_ok (keys (hOf st) ++ X) _ st.Lo (r12tags_m s.adds) Ar1 cr1 a.tag (st.q 2 rfl)) fun w25 st hF => ?_
  refine ⟨(st.pk [0, 1, 2] (by decide)).tK 2, ?_⟩
  refine Py rfl (yF rfl) (Py rfl (y_assign rfl rfl) (Pl_nil (Th_n (?_))))
  exact hout1 _ [(2, _), (3, _), (4, _), (28, _)] _ ⟨rfl, rfl, rfl, rfl, trivial⟩ ⟨by unfold r12put_c1; rewrite [iN hc8]; rfl, (st.pk [0, 1, 2] (by decide)).pickK [0, 1], hF⟩
def r12gone_c1 (l : List TagM) (t : TagM) (s5 : Int) : Bool :=
  (if s5 < (l.length : Int) then decide ((r5compareTag_m (ix l s5) t) < 0) else false)
def r12gone_L1 (l : List TagM) (t : TagM) : Nat → Int → ((List TagM)) ⊕ (Int)
  | 0, s5 => .inr (s5)
  | fuel + 1, s5 =>
    if (r12gone_c1 l t s5) = true then
      r12gone_L1 l t fuel (s5 + 1)
    else
      .inr (s5)
def r12gone_m (l : List TagM) (t : TagM) : (List TagM) :=
  if (r12hasTag_m l t) = true then
    l
  else
    match r12gone_L1 l t (((l.length : Int) - (0 : Int)).toNat + 1) (0 : Int) with
    | .inl r => r
    | .inr (s5) =>
      ((([] : List TagM) ++ (l.take s5.toNat)) ++ [t]) ++ (l.drop s5.toNat)
theorem r12gone_c1_iff (l : List TagM) (t : TagM) (s5 : Int) : (r12gone_c1 l t s5 = true) ↔ ((s5 < (l.length : Int)) ∧ ((r5compareTag_m (ix l s5) t) < 0)) := by
  unfold r12gone_c1; exact (ci2 decide_eq_true_iff)
theorem r12gone_ok (X : List Nat) (w : World) (hX : Lo X w) (l : List TagM) (A_l : Option Addr) (c_l : Nat) (t : TagM) (h_l : Sld X w A_l l.length c_l 3 (l.flatMap tagMC)) (h2 : l.length ≤ 2000000) :
    Fn Tryz.prog 107 [.slice A_l l.length c_l, .agg (tagMC t).toArray] w fun v w' => ∃ (Ar : Option Addr) (cr : Nat), v = .slice Ar (r12gone_m l t).length cr ∧ Sld X w' Ar (r12gone_m l t).length cr 3 ((r12gone_m l t).flatMap tagMC) ∧ Fr [] w w' := by
  refine Fn_of 40 Ty.en_107 Tryz.func107 rfl rfl rfl ?_
  dsimp only [argEnv]
  have st := stn1 hX h_l
  have hF := Fr.refl ([]) w
  refine sq fun _ k1 => rg (La rfl (Sbx st hF rfl fun g1 w1 (st : St _ _ [_] _) hF hg1 => Ls' rfl (Ln k1 (sq fun _ k2 => sq fun _ k3 => rg (Lm rfl (Ly rfl (yw 0 Ty.ag_41 st rfl) (La rfl (Scl st hF rfl (r12hasTag_ok (keys (hOf st) ++ X) _ st.Lo l A_l c_l t (st.q 0 rfl)) fun w2 st hF => Ln k3 (cB rfl (fun hc1 => ?_) (fun hc1 => ?_))))))))))
  · refine sq fun _ k4 => rg (Lm rfl (Ls' rfl (Ln k4 (wR (Th_r (fR (Res1 rfl rfl) ?_))))))
    unfold r12gone_m; rewrite [iP hc1]
    exact ⟨_, _, rfl, st.ot 0 rfl, hF⟩
  refine sk k2 (sq fun _ k5 => rg (Ls' rfl (Ln k5 (sq fun _ k6 => Wp_block (lp (fun q E W => ∃ (s5 : Int), E = [(0, .slice A_l l.length c_l), (3, .pointer (some ⟨g1, 0, none⟩)), (5, .int .i64 s5)] ∧ jq q (fun m => (r12gone_L1 l t m s5 = r12gone_L1 l t (((l.length : Int) - (0 : Int)).toNat + 1) (0 : Int) ∧ ((l.length : Int) - s5).toNat < m)) (r12gone_L1 l t (((l.length : Int) - (0 : Int)).toNat + 1) (0 : Int) = .inr (s5)) ∧ (0 ≤ s5 ∧ 0 ≤ s5 ∧ s5 ≤ l.length) ∧ St X W [(some g1, Cl [.int .i64 t.id.origin, .int .u32 t.id.seq, .int .i64 t.n] 41)] [kS A_l l.length c_l 3 (l.flatMap tagMC)] ∧ Fr ([]) w W) (((l.length : Int) - (0 : Int)).toNat + 1) [(0, _), (3, _), (5, _)] ⟨rfl, rfl, rfl, trivial⟩ ⟨_, rfl, ⟨rfl, Nat.lt_succ_self _⟩, by omega, st, hF⟩ k6 ?_ fun hout1 => ?_)))))
  · rintro E w3 ⟨s5, rfl, hLk1, hinv, st, hF⟩
    unfold jq at hLk1; dsimp only at hLk1
    refine sq fun _ k7 => rg (La rfl (Sb0 (enc := tagMC) Ty.es_30 Ty.zc_41 st hF rfl fun g2 w4 how1 hnew1 (st : St _ _ [_, _] _) hF => Lm rfl (Lm rfl ?_)))
    obtain ⟨Ak1, ck1, hk1, hk1y⟩ := cutK0 (enc := tagMC) (m := 3) (l := l) (q := s5) (fun _ => rfl) (by decide) (st.k (i := 0) rfl) (by omega) (by omega)
    refine Ly rfl (hk1y rfl rfl Ty.es_30 rfl rfl) ?_
    have st := st.addK (kS Ak1 (l.take s5.toNat).length ck1 3 ((l.take s5.toNat).flatMap tagMC)) hk1
    have st : St X _ [_, _] [_, _] := st
    refine La rfl (Sap (enc := tagMC) ([] : List TagM) (l.take s5.toNat) 1 Ty.es_30 Ty.zc_41 Ty.by_41 (fun _ => rfl) tagMC_1 how1 hnew1 st hF (st.k (i := 1) rfl).rd.src (fun h => by have := (st.k (i := 1) rfl).rd; exact rd_none this h (st.k (i := 1) rfl).len (by decide)) rfl (by first | omega | (simp; done) | (simp; omega)) (by first | omega | (simp; done) | (simp; omega)) fun Aa1 ca1 sp1 w5 how2 hnew2 (st : St _ _ [_, _] _) hF => ?_)
    refine Ls' rfl (Ln k7 (sq fun _ k8 => rg (Lm rfl (Ly rfl (yw 0 Ty.ag_41 st rfl) (La rfl (Sb (enc := tagMC) t Ty.es_30 Ty.zc_41 (fun _ => rfl) st hF rfl fun g3 w6 how3 hnew3 (st : St _ _ [_, _, _] _) hF => La rfl (Sap (enc := tagMC) (([] : List TagM) ++ (l.take s5.toNat)) [t] 1 Ty.es_30 Ty.zc_41 Ty.by_41 (fun _ => rfl) tagMC_1 how2 hnew2 st hF (own_src (i := 2) st.hp rfl how3) (own_none how3) rfl (by first | omega | (simp; done) | (simp; omega)) (by first | omega | (simp; done) | (simp; omega)) fun Aa2 ca2 sp2 w7 how4 hnew4 (st : St _ _ [_, _, _] _) hF => ?_)))))))
    refine Ls' rfl (Ln k8 (sq fun _ k9 => rg (Lm rfl (Lm rfl (Lm rfl ?_)))))
    obtain ⟨Ak2, ck2, hk2, hk2y⟩ := cutKe (enc := tagMC) (m := 3) (l := l) (p := s5) (fun _ => rfl) (by decide) (st.k (i := 0) rfl) (by omega) (by omega)
    refine Ly rfl (hk2y rfl rfl Ty.es_30 rfl rfl) ?_
    have st := st.addK (kS Ak2 (l.drop s5.toNat).length ck2 3 ((l.drop s5.toNat).flatMap tagMC)) hk2
    have st : St X _ [_, _, _] [_, _, _] := st
    refine La rfl (Sap (enc := tagMC) ((([] : List TagM) ++ (l.take s5.toNat)) ++ [t]) (l.drop s5.toNat) 1 Ty.es_30 Ty.zc_41 Ty.by_41 (fun _ => rfl) tagMC_1 how4 hnew4 st hF (st.k (i := 2) rfl).rd.src (fun h => by have := (st.k (i := 2) rfl).rd; exact rd_none this h (st.k (i := 2) rfl).len (by decide)) rfl (by first | omega | (simp; done) | (simp; omega)) (by first | omega | (simp; done) | (simp; omega)) fun Aa3 ca3 sp3 w8 how5 hnew5 (st : St _ _ [_, _, _] _) hF => ?_)
    refine Ls' rfl (Ln k9 ?_)
    have st : St X w8 [_, _] [_, _, _, _] := st.freeze (i := 1) [0, 2] (by decide) rfl how5 (by decide)
    refine wR (fR (Res1 rfl rfl) ?_)
    unfold r12gone_m; rewrite [iN hc1, hLk1]; (try dsimp only)
    exact ⟨_, _, rfl, st.ot 3 rfl, hF⟩
  rintro m E w9 ⟨s5, rfl, ⟨hL1, hmu⟩, hinv, st, hF⟩
  obtain ⟨fuel, rfl⟩ : ∃ q, m = q + 1 := ⟨m - 1, by omega⟩
  refine sq fun _ k10 => sq fun _ k11 => ?_
  refine use_out k11 (fun E W => E = [(0, .slice A_l l.length c_l), (3, .pointer (some ⟨g1, 0, none⟩)), (5, .int .i64 s5), (23, .bool (r12gone_c1 l t s5))] ∧ St X W (hOf st) (kOf st) ∧ Fr ([]) w W) ?_ fun hout2 => ?_
  · rintro E w10 ⟨rfl, st, hF⟩
    have st : St X w10 [_] [_] := st
    refine cB rfl (fun hc2 => ?_) (fun hc2 => ?_)
    · have jhc2 := (r12gone_c1_iff l t s5).1 hc2
      refine sk k10 (Wp_block (rg (Lm rfl (Ly rfl (y_add (c := s5 + 1) rfl rfl rfl (wf_i64 (by omega))) ?_))))
      refine Ls' rfl (Ls_nil (Ib_n (Th_n (?_))))
      exact ⟨fuel, [(0, _), (3, _), (5, _)], Nat.lt_succ_self _, ⟨rfl, rfl, rfl, trivial⟩, (s5 + 1), rfl, ⟨by rewrite [← hL1, r12gone_L1]; rewrite [iP hc2]; rfl, by omega⟩, by omega, (st.pk [0] (by decide)).pickK [0], hF⟩
    have jhc2 := mt (r12gone_c1_iff l t s5).2 hc2
    refine Wp_exit (Th_e (Th_e (Ib_hit (Th_n (?_)))))
    exact hout1 _ [(0, _), (3, _), (5, _)] _ ⟨rfl, rfl, rfl, trivial⟩ ⟨s5, rfl, show _ = _ from by rewrite [← hL1, r12gone_L1]; rewrite [iN hc2]; rfl, by omega, (st.pk [0] (by decide)).pickK [0], hF⟩
  refine Wp_plan (fun W => St X W (pickL (hOf st) [0]) (kOf st)) [(true, 0), (true, 1), (true, 2), (true, 3), (true, 4), (true, 5), (true, 6), (true, 7), (true, 8), (true, 9), (false, 10), (true, 11), (true, 12)] Ty.mx_0 (by kernel_rfl) (by kernel_rfl) rfl ((st.pk [0] (by decide)).drew) ?_
  have st := st.drew
  have hF := hF.step0 (Fr.drew _)
  refine Pm rfl (Pm rfl (Py rfl (yll rfl Tryz.underlying30) (Py rfl (ylt rfl) (Pm rfl (Pl_bool 15 rfl (fun hc3 => ?_) (fun hc3 => ?_))))))
  · have hc3 := dT hc3
    refine Pl_y rfl (wtdT rfl rfl rfl) rfl rfl (y_move rfl rfl) (Pl_y rfl (wtdT rfl rfl rfl) rfl rfl (y_move rfl rfl) ?_)
    obtain ⟨gi1, bi1, egi1⟩ := (st.k (i := 0) rfl).addr (fun _ => rfl) (by decide) (q := s5) (by omega) (by omega)
    subst egi1
    refine Pl_y rfl (wtdT rfl rfl rfl) rfl rfl (y_ixa (q := s5) rfl rfl rfl Ty.es_30 (by omega) (by omega)) ?_
    refine Pl_y rfl (wtdT rfl rfl rfl) rfl rfl (y_ldk (q := s5) rfl rfl Ty.ag_41 (fun _ h => h.k (i := 0) rfl) (fun _ => rfl) (by omega) (by omega)) ?_
    refine Pl_y rfl (wtdT rfl rfl rfl) rfl rfl (y_loadw (i := 0) rfl rfl Ty.ag_41 (fun _ h => h.hp) rfl rfl) (Pl_a rfl (wtdT rfl rfl rfl) (by rfl) ?_)
    refine Scl st hF rfl (r5compareTag_ok _ (ix l s5) t) fun w11 st hF => ?_
    refine ⟨(st.pk [0] (by decide)).tK 1, ?_⟩
    refine Pl_y rfl (wtdT rfl rfl rfl) rfl rfl (ylt rfl) (Py rfl (yT rfl) (Pl_nil (Th_n (?_))))
    exact hout2 _ [(0, _), (3, _), (5, _), (23, _)] _ ⟨rfl, rfl, rfl, rfl, trivial⟩ ⟨by unfold r12gone_c1; rewrite [iP hc3]; rfl, (st.pk [0] (by decide)).pickK [0], hF⟩
  have hc3 := dF hc3
  refine Pl_s rfl (wtdF rfl rfl rfl) rfl rfl (Pl_s rfl (wtdF rfl rfl rfl) rfl rfl (Pl_s rfl (wtdF rfl rfl rfl) rfl rfl (Pl_s rfl (wtdF rfl rfl rfl) rfl rfl (Pl_s rfl (wtdF rfl rfl rfl) rfl rfl (Pl_s rfl (wtdF rfl rfl rfl) rfl rfl (Pl_s rfl (wtdF rfl rfl rfl) rfl rfl (Py rfl (yF rfl) (Pl_nil (Th_n (?_))))))))))
  exact hout2 _ [(0, _), (3, _), (5, _), (23, _)] _ ⟨rfl, rfl, rfl, rfl, trivial⟩ ⟨by unfold r12gone_c1; rewrite [iN hc3]; rfl, (st.pk [0] (by decide)).pickK [0], hF⟩
theorem r12gone_L1_inr (l : List TagM) (t : TagM) : ∀ (n : Nat) (q : Int), ∃ s, r12gone_L1 l t n q = .inr s
  | 0, q => ⟨q, rfl⟩
  | n + 1, q => by
    rw [r12gone_L1]; split
    · exact r12gone_L1_inr l t n _
    · exact ⟨q, rfl⟩
theorem r12gone_len (l : List TagM) (t : TagM) : ((r12gone_m l t).length : Int) ≤ l.length + 1 := by
  unfold r12gone_m; split
  · omega
  · obtain ⟨s, e⟩ := r12gone_L1_inr l t (((l.length : Int) - (0 : Int)).toNat + 1) 0
    rw [e]; simp; omega
def r12drop_L2 (s : SetM) (l : List TagM) (s8 : Int) (u2_1 : List TagM) : Nat → Int → (List AddM) → (SetM × Int) ⊕ (Int × (List AddM))
  | 0, s9, u2_0 => .inr (s9, u2_0)
  | fuel + 1, s9, u2_0 =>
    if s9 < (s.adds.length : Int) then
      if (r12hasTag_m l ((ix s.adds s9).tag)) = true then
        r12drop_L2 s l s8 u2_1 fuel (s9 + 1) u2_0
      else
        r12drop_L2 s l s8 u2_1 fuel (s9 + 1) (u2_0 ++ [ix s.adds s9])
    else
      .inr (s9, u2_0)
def r12drop_L1 (s : SetM) (l : List TagM) : Nat → Int → (List TagM) → (SetM × Int) ⊕ (Int × (List TagM))
  | 0, s8, u2_1 => .inr (s8, u2_1)
  | fuel + 1, s8, u2_1 =>
    if s8 < (l.length : Int) then
      r12drop_L1 s l fuel (s8 + 1) (r12gone_m u2_1 (ix l s8))
    else
      .inr (s8, u2_1)
def r12drop_m (s : SetM) (l : List TagM) : SetM × Int :=
  if (r12check_m s) = 0 then
    if 4096 < (l.length : Int) then
      ((⟨([] : List AddM), ([] : List TagM)⟩ : SetM), 8)
    else
      if (r12right_m l) = true then
        match r12drop_L1 s l (((l.length : Int) - (0 : Int)).toNat + 1) (0 : Int) s.gone with
        | .inl r => r
        | .inr (s8, u2_1) =>
          if 4096 < (u2_1.length : Int) then
            ((⟨([] : List AddM), ([] : List TagM)⟩ : SetM), 4)
          else
            match r12drop_L2 s l s8 u2_1 (((s.adds.length : Int) - (0 : Int)).toNat + 1) (0 : Int) ([] : List AddM) with
            | .inl r => r
            | .inr (s9, u2_0) =>
              ((⟨u2_0, u2_1⟩ : SetM), 0)
      else
        ((⟨([] : List AddM), ([] : List TagM)⟩ : SetM), 2)
  else
    ((⟨([] : List AddM), ([] : List TagM)⟩ : SetM), r12check_m s)
theorem r12drop_ok (X : List Nat) (w : World) (hX : Lo X w) (s : SetM) (A1 : Option Addr) (C1 : Nat) (A2 : Option Addr) (C2 : Nat) (l : List TagM) (A_l : Option Addr) (c_l : Nat) (z4 : Sld X w A1 s.adds.length C1 4 (s.adds.flatMap addMC)) (z5 : Sld X w A2 s.gone.length C2 3 (s.gone.flatMap tagMC)) (h_l : Sld X w A_l l.length c_l 3 (l.flatMap tagMC)) (h1 : s.adds.length ≤ 1000000) (h2 : s.gone.length ≤ 1000000) :
    Fn Tryz.prog 37 [.agg #[.slice A1 s.adds.length C1, .slice A2 s.gone.length C2], .slice A_l l.length c_l] w fun v w' => ∃ (A3 : Option Addr) (C3 : Nat) (A4 : Option Addr) (C4 : Nat), v = .tuple #[.agg #[.slice A3 (((r12drop_m s l).1).adds).length C3, .slice A4 (((r12drop_m s l).1).gone).length C4], .int .i64 ((r12drop_m s l).2)] ∧ Sld X w' A3 (((r12drop_m s l).1).adds).length C3 4 ((((r12drop_m s l).1).adds).flatMap addMC) ∧ Sld X w' A4 (((r12drop_m s l).1).gone).length C4 3 ((((r12drop_m s l).1).gone).flatMap tagMC) ∧ Fr [] w w' := by
  refine Fn_of 76 Ty.en_37 Tryz.func37 rfl rfl rfl ?_
  dsimp only [argEnv]
  have st := stn3 hX z4 z5 h_l
  have hF := Fr.refl ([]) w
  refine sq fun _ k1 => rg (La rfl (Sbx st hF rfl fun g1 w1 (st : St _ _ [_] _) hF hg1 => La rfl (Sal Ty.zc_32 st hF rfl fun g2 w2 (st : St _ _ [_, _] _) hF hg2 => Ls' rfl (Ln k1 (sq fun _ k2 => rg (Ly rfl (yw 0 Ty.ag_32 st rfl) (La rfl (Scl st hF rfl (r12check_ok (keys (hOf st) ++ X) _ st.Lo s A1 C1 A2 C2 (st.q 0 rfl) (st.q 1 rfl) h1) fun w3 st hF => Ls' rfl (Ln k2 (sq fun _ k3 => Wp_block (sq fun _ k4 => rg (Lm rfl (Ly rfl (yne rfl) (Ls' rfl (Ln k4 (cN rfl (fun hc1 => ?_) (fun hc1 => ?_)))))))))))))))))
  · refine sq fun _ k5 => rg (Ly rfl (y_build (cells := [_, _]) rfl rfl Ty.zc_32 Ty.ps_32 rfl) (Lm rfl (La rfl (Ssw 1 Ty.sz_32 st hF (.inr hg2) rfl fun w4 (st : St _ _ [_, _] _) hF => Ls' rfl (Ln k5 ?_)))))
    have st := st.aN 4
    have st := st.aN 3
    refine wR (Ib_r (Th_r (fR (ResN2 rfl (rvc (i := 1) rfl Ty.ag_32 st.hp rfl rfl) rfl) ?_)))
    unfold r12drop_m; rewrite [iN hc1]
    exact ⟨_, _, _, _, rfl, st.ot 3 rfl, st.ot 4 rfl, hF⟩
  refine sq fun _ k6 => rg (Lm rfl (Ly rfl (yll rfl Tryz.underlying30) (Ly rfl (ygt rfl) (Ls' rfl (Ln k6 (cD rfl (fun hc2 => ?_) (fun hc2 => ?_)))))))
  · refine sq fun _ k7 => rg (Ly rfl (y_build (cells := [_, _]) rfl rfl Ty.zc_32 Ty.ps_32 rfl) (La rfl (Ssw 1 Ty.sz_32 st hF (.inr hg2) rfl fun w5 (st : St _ _ [_, _] _) hF => Ls' rfl (Ln k7 ?_))))
    have st := st.aN 4
    have st := st.aN 3
    refine wR (Ib_r (Th_r (fR (ResN2 rfl (rvc (i := 1) rfl Ty.ag_32 st.hp rfl rfl) rfl) ?_)))
    unfold r12drop_m; rewrite [iP hc1, iP hc2]
    exact ⟨_, _, _, _, rfl, st.ot 3 rfl, st.ot 4 rfl, hF⟩
  refine sq fun _ k8 => rg (Lm rfl (La rfl (Scl st hF rfl (r12right_ok (keys (hOf st) ++ X) _ st.Lo l A_l c_l (st.q 2 rfl)) fun w6 st hF => Ly rfl (yn rfl) (Ls' rfl (Ln k8 (cBn rfl (fun hc3 => ?_) (fun hc3 => ?_)))))))
  · refine sq fun _ k9 => rg (Ly rfl (y_build (cells := [_, _]) rfl rfl Ty.zc_32 Ty.ps_32 rfl) (La rfl (Ssw 1 Ty.sz_32 st hF (.inr hg2) rfl fun w7 (st : St _ _ [_, _] _) hF => Ls' rfl (Ln k9 ?_))))
    have st := st.aN 4
    have st := st.aN 3
    refine wR (Ib_r (Th_r (fR (ResN2 rfl (rvc (i := 1) rfl Ty.ag_32 st.hp rfl rfl) rfl) ?_)))
    unfold r12drop_m; rewrite [iP hc1, iN hc2, iN hc3]
    exact ⟨_, _, _, _, rfl, st.ot 3 rfl, st.ot 4 rfl, hF⟩
  refine Wp_skip (Ib_n (Th_n (k3 _ _ (sq fun _ k10 => rg (Ly rfl (yf rfl Ty.fo_32_1) (Ly rfl (yl 0 Ty.pl_30 st rfl) (Ly rfl (y_build (cells := [_, _]) rfl rfl Ty.zc_32 Ty.ps_32 rfl) (La rfl (Sal Ty.zc_32 st hF rfl fun g3 w8 (st : St _ _ [_, _, _] _) hF hg3 => La rfl (Ssw 2 Ty.sz_32 st hF (.inr hg3) rfl fun w9 (st : St _ _ [_, _, _] _) hF => Ln k10 (sq fun _ k11 => sq fun _ k12 => rg (Ls' rfl (Ln k12 (Wp_block ?_))))))))))))))
  have st := st.addK (kS A2 s.gone.length C2 3 (s.gone.flatMap tagMC)) (st.k (i := 1) rfl)
  have st : St X _ [_, _, _] [_, _, _, _] := st
  refine lp (fun q E W => ∃ (s8 : Int) (u2_1 : List TagM) (Au2_1 : Option Addr) (cu2_1 : Nat), E = [(1, .slice A_l l.length c_l), (2, .pointer (some ⟨g1, 0, none⟩)), (4, .pointer (some ⟨g2, 0, none⟩)), (7, .pointer (some ⟨g3, 0, none⟩)), (8, .int .i64 s8)] ∧ jq q (fun m => (r12drop_L1 s l m s8 u2_1 = r12drop_L1 s l (((l.length : Int) - (0 : Int)).toNat + 1) (0 : Int) s.gone ∧ ((l.length : Int) - s8).toNat < m)) (r12drop_L1 s l (((l.length : Int) - (0 : Int)).toNat + 1) (0 : Int) s.gone = .inr (s8, u2_1)) ∧ (0 ≤ s8 ∧ 0 ≤ s8 ∧ s8 ≤ l.length ∧ (u2_1.length : Int) ≤ s.gone.length + s8) ∧ St X W [(some g1, Cl [.slice A1 s.adds.length C1, .slice A2 s.gone.length C2] 32), (some g2, Cl [.slice none 0 0, .slice none 0 0] 32), (some g3, Cl [.slice none 0 0, .slice Au2_1 u2_1.length cu2_1] 32)] [kS A1 s.adds.length C1 4 (s.adds.flatMap addMC), kS A2 s.gone.length C2 3 (s.gone.flatMap tagMC), kS A_l l.length c_l 3 (l.flatMap tagMC), kS Au2_1 u2_1.length cu2_1 3 (u2_1.flatMap tagMC)] ∧ Fr ([]) w W) (((l.length : Int) - (0 : Int)).toNat + 1) [(1, _), (2, _), (4, _), (7, _), (8, _)] ⟨rfl, rfl, rfl, rfl, rfl, trivial⟩ ⟨_, _, _, _, rfl, ⟨rfl, Nat.lt_succ_self _⟩, by omega, st, hF⟩ k11 ?_ fun hout1 => ?_
  · rintro E w10 ⟨s8, u2_1, Au2_1, cu2_1, rfl, hLk1, hinv, st, hF⟩
    unfold jq at hLk1; dsimp only at hLk1
    refine sq fun _ k13 => sq fun _ k14 => rg (Ly rfl (yf rfl Ty.fo_32_1) (Ly rfl (yl 2 Ty.pl_30 st rfl) (Ly rfl (yll rfl Tryz.underlying30) (Ly rfl (ygt rfl) (Ln k14 (cD rfl (fun hc4 => ?_) (fun hc4 => ?_)))))))
    · refine sq fun _ k15 => rg (Ly rfl (y_build (cells := [_, _]) rfl rfl Ty.zc_32 Ty.ps_32 rfl) (La rfl (Ssw 1 Ty.sz_32 st hF (.inr hg2) rfl fun w11 (st : St _ _ [_, _, _] _) hF => Ls' rfl (Ln k15 ?_))))
      have st := st.aN 4
      have st := st.aN 3
      refine wR (Th_r (fR (ResN2 rfl (rvc (i := 1) rfl Ty.ag_32 st.hp rfl rfl) rfl) ?_))
      unfold r12drop_m; rewrite [iP hc1, iN hc2, iP hc3, hLk1]; (try dsimp only); rewrite [iP hc4]
      exact ⟨_, _, _, _, rfl, st.ot 4 rfl, st.ot 5 rfl, hF⟩
    refine sk k13 (sq fun _ k16 => sq fun _ k17 => rg (Ls' rfl (Ln k17 (Wp_block ?_))))
    obtain ⟨st, how1, hnew1⟩ := st.rowN addMC hF 4 110
    have st : St _ _ [_, _, _, _] _ := st
    refine lp (fun q E W => ∃ (s9 : Int) (u2_0 : List AddM) (Au2_0 : Option Addr) (cu2_0 : Nat) (spu2_0 : List Value), E = [(1, .slice A_l l.length c_l), (2, .pointer (some ⟨g1, 0, none⟩)), (4, .pointer (some ⟨g2, 0, none⟩)), (7, .pointer (some ⟨g3, 0, none⟩)), (9, .int .i64 s9)] ∧ jq q (fun m => (r12drop_L2 s l s8 u2_1 m s9 u2_0 = r12drop_L2 s l s8 u2_1 (((s.adds.length : Int) - (0 : Int)).toNat + 1) (0 : Int) ([] : List AddM) ∧ ((s.adds.length : Int) - s9).toNat < m)) (r12drop_L2 s l s8 u2_1 (((s.adds.length : Int) - (0 : Int)).toNat + 1) (0 : Int) ([] : List AddM) = .inr (s9, u2_0)) ∧ (0 ≤ s9 ∧ (u2_0.length : Int) ≤ s9) ∧ Ow Au2_0 u2_0.length cu2_0 4 (u2_0.flatMap addMC) spu2_0 ∧ (∀ g, blkOf Au2_0 = some g → g ∈ ([]) ∨ w.heap.size ≤ g) ∧ St X W [(some g1, Cl [.slice A1 s.adds.length C1, .slice A2 s.gone.length C2] 32), (some g2, Cl [.slice none 0 0, .slice none 0 0] 32), (some g3, Cl [.slice Au2_0 u2_0.length cu2_0, .slice Au2_1 u2_1.length cu2_1] 32), (blkOf Au2_0, Cl (u2_0.flatMap addMC ++ spu2_0) 110)] [kS A1 s.adds.length C1 4 (s.adds.flatMap addMC), kS A2 s.gone.length C2 3 (s.gone.flatMap tagMC), kS A_l l.length c_l 3 (l.flatMap tagMC), kS Au2_1 u2_1.length cu2_1 3 (u2_1.flatMap tagMC)] ∧ Fr ([]) w W) (((s.adds.length : Int) - (0 : Int)).toNat + 1) [(1, _), (2, _), (4, _), (7, _), (9, _)] ⟨rfl, rfl, rfl, rfl, rfl, trivial⟩ ⟨_, _, _, _, _, rfl, ⟨rfl, Nat.lt_succ_self _⟩, by first | omega | (simp; done) | (simp; omega), how1, hnew1, st, hF⟩ k16 ?_ fun hout2 => ?_
    · rintro E w12 ⟨s9, u2_0, Au2_0, cu2_0, spu2_0, rfl, hLk2, hinv, howu2_0, newu2_0, st, hF⟩
      unfold jq at hLk2; dsimp only at hLk2
      refine sq fun _ k18 => rg (Ly rfl (yw 2 Ty.ag_32 st rfl) (La rfl (Ssw 1 Ty.sz_32 st hF (.inr hg2) rfl fun w13 (st : St _ _ [_, _, _, _] _) hF => Ls' rfl (Ln k18 ?_))))
      have st : St X w13 [_, _, _] [_, _, _, _, _] := st.freeze (i := 3) [0, 1, 2] (by decide) rfl howu2_0 (by decide)
      refine wR (fR (ResN2 rfl (rvc (i := 1) rfl Ty.ag_32 st.hp rfl rfl) rfl) ?_)
      unfold r12drop_m; rewrite [iP hc1, iN hc2, iP hc3, hLk1]; (try dsimp only); rewrite [iN hc4, hLk2]; (try dsimp only)
      exact ⟨_, _, _, _, rfl, st.ot 4 rfl, st.ot 3 rfl, hF⟩
    rintro m E w14 ⟨s9, u2_0, Au2_0, cu2_0, spu2_0, rfl, ⟨hL2, hmu⟩, hinv, howu2_0, newu2_0, st, hF⟩
    obtain ⟨fuel, rfl⟩ : ∃ q, m = q + 1 := ⟨m - 1, by omega⟩
    refine sq fun _ k19 => sq fun _ k20 => rg (Lm rfl (Ly rfl (yf rfl Ty.fo_32_0) (Ly rfl (yl 0 Ty.pl_29 st rfl) (Ly rfl (yll rfl Tryz.underlying29) (Ly rfl (ylt rfl) (Ln k20 (cD rfl (fun hc5 => ?_) (fun hc5 => ?_))))))))
    · refine sk k19 (sq fun _ k21 => Wp_block (sq fun _ k22 => rg (Lm rfl (Ly rfl (yf rfl Ty.fo_32_0) (Ly rfl (yl 0 Ty.pl_29 st rfl) (Lm rfl ?_))))))
      obtain ⟨gi1, bi1, egi1⟩ := (st.k (i := 0) rfl).addr (fun _ => rfl) (by decide) (q := s9) (by omega) (by omega)
      subst egi1
      refine Ly rfl (y_ixa (q := s9) rfl rfl rfl Ty.es_29 (by omega) (by omega)) ?_
      refine Ly rfl (yf rfl Ty.fo_110_0) (Ly rfl (y_ldkm (q := s9) 0 rfl rfl Ty.ag_41 (fun _ e => e ▸ st.k (i := 0) rfl) (fun _ => rfl) (by omega) (by omega) rfl rfl) ?_)
      refine La rfl (Scl st hF rfl (r12hasTag_ok (keys (hOf st) ++ X) _ st.Lo l A_l c_l ((ix s.adds s9).tag) (st.q 2 rfl)) fun w15 st hF => Ly rfl (yn rfl) (Ln k22 (cBn rfl (fun hc6 => ?_) (fun hc6 => ?_))))
      · refine Wp_planF (fun W => St X W (pickL (hOf st) [0, 1, 2]) (kOf st)) [(true, 0), (true, 1), (true, 2), (true, 3), (true, 4), (true, 5), (true, 6), (false, 7), (false, 8), (true, 9)] 10 Ty.mx_0 (by kernel_rfl) (by kernel_rfl) (by kernel_rfl) rfl ((st.pk [0, 1, 2] (by decide)).drew) ?_
        have st := st.drew
        have hF := hF.step0 (Fr.drew _)
        refine Py rfl (yf rfl Ty.fo_32_0) (Py rfl (y_load (i := 2) rfl rfl Ty.pl_29 (fun _ h => h.hp) rfl rfl) (Py rfl (yf rfl Ty.fo_32_0) (Py rfl (y_load (i := 0) rfl rfl Ty.pl_29 (fun _ h => h.hp) rfl rfl) (Pm rfl (Py rfl (y_ixa (q := s9) rfl rfl rfl Ty.es_29 (by omega) (by omega)) ?_)))))
        refine Py rfl (y_ldk (q := s9) rfl rfl Ty.ag_110 (fun _ h => h.k (i := 0) rfl) (fun _ => rfl) (by omega) (by omega)) ?_
        refine Pl_a rfl (wtd0 rfl) (by rfl) ?_
        refine Sb (enc := addMC) (ix s.adds s9) Ty.es_29 Ty.zc_110 (fun _ => rfl) st hF rfl fun g4 w16 how2 hnew2 (st : St _ _ [_, _, _, _, _] _) hF => ?_
        refine ⟨(st.pk [0, 1, 2] (by decide)).tK 4, ?_⟩
        refine Pl_a rfl (wtd0 rfl) (by rfl) ?_
        refine Sap (enc := addMC) u2_0 [ix s.adds s9] 3 Ty.es_29 Ty.zc_110 Ty.by_110 (fun _ => rfl) addMC_1 howu2_0 newu2_0 st hF (own_src (i := 4) st.hp rfl how2) (own_none how2) rfl (by first | omega | (simp; done) | (simp; omega)) (by first | omega | (simp; done) | (simp; omega)) fun Aa1 ca1 sp1 w17 how3 hnew3 (st : St _ _ [_, _, _, _, _] _) hF => ?_
        refine ⟨(st.pk [0, 1, 2] (by decide)).tK 4, ?_⟩
        refine Py rfl (yf rfl Ty.fo_32_0) (Pl_nil (Fin_a rfl (wtd0 rfl) (Ss1 2 Ty.sz_29 st hF (.inr hg3) rfl fun w18 (st : St _ _ [_, _, (_, Cl [_, _] _), _, _] _) hF => id (Ib_n (Th_n (k21 _ _ (rg (Lm rfl (Ly rfl (y_add (c := s9 + 1) rfl rfl rfl (wf_i64 (by omega))) ?_)))))))))
        refine Ls' rfl (Ls_nil (Th_n (?_)))
        exact ⟨fuel, [(1, _), (2, _), (4, _), (7, _), (9, _)], Nat.lt_succ_self _, ⟨rfl, rfl, rfl, rfl, rfl, trivial⟩, (s9 + 1), (u2_0 ++ [ix s.adds s9]), Aa1, ca1, sp1, rfl, ⟨by rewrite [← hL2, r12drop_L2]; rewrite [iP hc5, iN hc6]; rfl, by omega⟩, by first | omega | (simp; done) | (simp; omega), how3, hnew3, (st.pk [0, 1, 2, 3] (by decide)).pickK [0, 1, 2, 3], hF⟩
      refine Wp_skip (Ib_n (Th_n (k21 _ _ (rg (Lm rfl (Ly rfl (y_add (c := s9 + 1) rfl rfl rfl (wf_i64 (by omega))) ?_))))))
      refine Ls' rfl (Ls_nil (Th_n (?_)))
      exact ⟨fuel, [(1, _), (2, _), (4, _), (7, _), (9, _)], Nat.lt_succ_self _, ⟨rfl, rfl, rfl, rfl, rfl, trivial⟩, (s9 + 1), u2_0, Au2_0, cu2_0, spu2_0, rfl, ⟨by rewrite [← hL2, r12drop_L2]; rewrite [iP hc5, iP hc6]; rfl, by omega⟩, by omega, howu2_0, newu2_0, (st.pk [0, 1, 2, 3] (by decide)).pickK [0, 1, 2, 3], hF⟩
    refine Wp_exit (Th_e (Th_e (Ib_hit (Th_n (?_)))))
    exact hout2 _ [(1, _), (2, _), (4, _), (7, _), (9, _)] _ ⟨rfl, rfl, rfl, rfl, rfl, trivial⟩ ⟨s9, u2_0, Au2_0, cu2_0, spu2_0, rfl, show _ = _ from by rewrite [← hL2, r12drop_L2]; rewrite [iN hc5]; rfl, by omega, howu2_0, newu2_0, (st.pk [0, 1, 2, 3] (by decide)).pickK [0, 1, 2, 3], hF⟩
  rintro m E w19 ⟨s8, u2_1, Au2_1, cu2_1, rfl, ⟨hL1, hmu⟩, hinv, st, hF⟩
  obtain ⟨fuel, rfl⟩ : ∃ q, m = q + 1 := ⟨m - 1, by omega⟩
  refine sq fun _ k23 => sq fun _ k24 => rg (Lm rfl (Lm rfl (Ly rfl (yll rfl Tryz.underlying30) (Ly rfl (ylt rfl) (Ln k24 (cD rfl (fun hc7 => ?_) (fun hc7 => ?_)))))))
  · refine sk k23 (sq fun _ k25 => Wp_block ?_)
    refine Wp_planF (fun W => St X W (pickL (hOf st) [0, 1, 2]) (kOf st)) [(true, 0), (true, 1), (true, 2), (true, 3), (true, 4), (true, 5), (false, 6), (true, 7)] 8 Ty.mx_0 (by kernel_rfl) (by kernel_rfl) (by kernel_rfl) rfl ((st.pk [0, 1, 2] (by decide)).drew) ?_
    have st := st.drew
    have hF := hF.step0 (Fr.drew _)
    refine Py rfl (yf rfl Ty.fo_32_1) (Py rfl (y_load (i := 2) rfl rfl Ty.pl_30 (fun _ h => h.hp) rfl rfl) (Pm rfl (Pm rfl ?_)))
    obtain ⟨gi2, bi2, egi2⟩ := (st.k (i := 2) rfl).addr (fun _ => rfl) (by decide) (q := s8) (by omega) (by omega)
    subst egi2
    refine Py rfl (y_ixa (q := s8) rfl rfl rfl Ty.es_30 (by omega) (by omega)) ?_
    refine Py rfl (y_ldk (q := s8) rfl rfl Ty.ag_41 (fun _ h => h.k (i := 2) rfl) (fun _ => rfl) (by omega) (by omega)) ?_
    refine Pl_a rfl (wtd0 rfl) (by rfl) ?_
    refine a_call rfl rfl rfl rfl (r12gone_ok (keys (hOf st) ++ X) _ st.Lo u2_1 Au2_1 cu2_1 (ix l s8) (st.q 3 rfl) (by omega)) (fun v w20 ⟨Ar1, cr1, hv, hr1, hf⟩ => ?_)
    subst hv
    have st := st.keep0 hf
    have hF := hF.step0 hf
    have z7 := Sld.le hr1
    have st := st.addK (kS Ar1 (r12gone_m u2_1 (ix l s8)).length cr1 3 ((r12gone_m u2_1 (ix l s8)).flatMap tagMC)) hr1
    have st : St X w20 [_, _, _] [_, _, _, _, _] := st
    refine ⟨(st.pk [0, 1, 2] (by decide)).tK 4, ?_⟩
    have hgl := r12gone_len u2_1 (ix l s8)
    refine Py rfl (yf rfl Ty.fo_32_1) (Pl_nil (Fin_a rfl (wtd0 rfl) (Ss1 2 Ty.sz_30 st hF (.inr hg3) rfl fun w21 (st : St _ _ [_, _, (_, Cl [_, _] _)] _) hF => id (Ib_n (Th_n (k25 _ _ (rg (Lm rfl (Ly rfl (y_add (c := s8 + 1) rfl rfl rfl (wf_i64 (by omega))) ?_)))))))))
    refine Ls' rfl (Ls_nil (Th_n (?_)))
    exact ⟨fuel, [(1, _), (2, _), (4, _), (7, _), (8, _)], Nat.lt_succ_self _, ⟨rfl, rfl, rfl, rfl, rfl, trivial⟩, (s8 + 1), (r12gone_m u2_1 (ix l s8)), Ar1, cr1, rfl, ⟨by rewrite [← hL1, r12drop_L1]; rewrite [iP hc7]; rfl, by omega⟩, by omega, (st.pk [0, 1, 2] (by decide)).pickK [0, 1, 2, 4], hF⟩
  refine Wp_exit (Th_e (Th_e (Ib_hit (Th_n (?_)))))
  exact hout1 _ [(1, _), (2, _), (4, _), (7, _), (8, _)] _ ⟨rfl, rfl, rfl, rfl, rfl, trivial⟩ ⟨s8, u2_1, Au2_1, cu2_1, rfl, show _ = _ from by rewrite [← hL1, r12drop_L1]; rewrite [iN hc7]; rfl, by omega, (st.pk [0, 1, 2] (by decide)).pickK [0, 1, 2, 3], hF⟩
def r12elems_c1 (s : SetM) (s3 : List (List UInt8)) (s4 : Int) (s6 : Int) : Bool :=
  (if s6 < (s3.length : Int) then (ix s3 s6) == ((ix s.adds s4).elem) else false)
def r12elems_c2 (s : SetM) (s3 : List (List UInt8)) (s4 : Int) (s6 : Int) : Bool :=
  (if s6 < (s3.length : Int) then decide ((ix s3 s6) < ((ix s.adds s4).elem)) else false)
def r12elems_L2 (s : SetM) (s3 : List (List UInt8)) (s4 : Int) : Nat → Int → ((List (List UInt8))) ⊕ (Int)
  | 0, s6 => .inr (s6)
  | fuel + 1, s6 =>
    if (r12elems_c2 s s3 s4 s6) = true then
      r12elems_L2 s s3 s4 fuel (s6 + 1)
    else
      .inr (s6)
def r12elems_L1 (s : SetM) : Nat → (List (List UInt8)) → Int → ((List (List UInt8))) ⊕ ((List (List UInt8)) × Int)
  | 0, s3, s4 => .inr (s3, s4)
  | fuel + 1, s3, s4 =>
    if s4 < (s.adds.length : Int) then
      match r12elems_L2 s s3 s4 (((s3.length : Int) - (0 : Int)).toNat + 1) (0 : Int) with
      | .inl r => .inl r
      | .inr (s6) =>
        if (r12elems_c1 s s3 s4 s6) = true then
          r12elems_L1 s fuel s3 (s4 + 1)
        else
          r12elems_L1 s fuel (((([] : List (List UInt8)) ++ (s3.take s6.toNat)) ++ [(ix s.adds s4).elem]) ++ (s3.drop s6.toNat)) (s4 + 1)
    else
      .inr (s3, s4)
def r12elems_m (s : SetM) : (List (List UInt8)) :=
  if (r12check_m s) = 0 then
    match r12elems_L1 s (((s.adds.length : Int) - (0 : Int)).toNat + 1) ([] : List (List UInt8)) (0 : Int) with
    | .inl r => r
    | .inr (s3, s4) =>
      s3
  else
    ([] : List (List UInt8))
theorem r12elems_c1_iff (s : SetM) (s3 : List (List UInt8)) (s4 : Int) (s6 : Int) : (r12elems_c1 s s3 s4 s6 = true) ↔ ((s6 < (s3.length : Int)) ∧ ((ix s3 s6) = ((ix s.adds s4).elem))) := by
  unfold r12elems_c1; exact (ci2 beq_iff_eq)
theorem r12elems_c2_iff (s : SetM) (s3 : List (List UInt8)) (s4 : Int) (s6 : Int) : (r12elems_c2 s s3 s4 s6 = true) ↔ ((s6 < (s3.length : Int)) ∧ ((ix s3 s6) < ((ix s.adds s4).elem))) := by
  unfold r12elems_c2; exact (ci2 decide_eq_true_iff)
theorem r12elems_ok (X : List Nat) (w : World) (hX : Lo X w) (s : SetM) (A1 : Option Addr) (C1 : Nat) (A2 : Option Addr) (C2 : Nat) (z3 : Sld X w A1 s.adds.length C1 4 (s.adds.flatMap addMC)) (z4 : Sld X w A2 s.gone.length C2 3 (s.gone.flatMap tagMC)) (h1 : s.adds.length ≤ 1000000) (h2 : s.gone.length ≤ 1000000) :
    Fn Tryz.prog 55 [.agg #[.slice A1 s.adds.length C1, .slice A2 s.gone.length C2]] w fun v w' => ∃ (Ar : Option Addr) (cr : Nat), v = .slice Ar (r12elems_m s).length cr ∧ Sld X w' Ar (r12elems_m s).length cr 1 ((r12elems_m s).flatMap (fun x => [sv x])) ∧ Fr [] w w' := by
  refine Fn_of 65 Ty.en_55 Tryz.func55 rfl rfl rfl ?_
  dsimp only [argEnv]
  have st := stn2 hX z3 z4
  have hF := Fr.refl ([]) w
  refine sq fun _ k1 => rg (La rfl (Sbx st hF rfl fun g1 w1 (st : St _ _ [_] _) hF hg1 => Ls' rfl (Ln k1 (sq fun _ k2 => sq fun _ k3 => rg (Ly rfl (yw 0 Ty.ag_32 st rfl) (La rfl (Scl st hF rfl (r12check_ok (keys (hOf st) ++ X) _ st.Lo s A1 C1 A2 C2 (st.q 0 rfl) (st.q 1 rfl) h1) fun w2 st hF => Ly rfl (yne rfl) (Ln k3 (cN rfl (fun hc1 => ?_) (fun hc1 => ?_))))))))))
  · refine sq fun _ k4 => rg (Ls' rfl (Ln k4 ?_))
    have st := st.aN 1
    refine wR (Th_r (fR (Res1 rfl rfl) ?_))
    unfold r12elems_m; rewrite [iN hc1]
    exact ⟨_, _, rfl, st.ot 2 rfl, hF⟩
  refine sk k2 (sq fun _ k5 => rg (Ls' rfl (Ln k5 (sq fun _ k6 => sq fun _ k7 => rg (Ls' rfl (Ln k7 (Wp_block ?_)))))))
  have st := st.aN 1
  have st := st.addK (kS none ([] : List (List UInt8)).length 0 1 (([] : List (List UInt8)).flatMap (fun x => [sv x]))) (st.k (i := 2) rfl)
  have st : St X _ [_] [_, _, _, _] := st
  refine lp (fun q E W => ∃ (s3 : List (List UInt8)) (s4 : Int) (As3 : Option Addr) (cs3 : Nat), E = [(1, .pointer (some ⟨g1, 0, none⟩)), (3, .slice As3 s3.length cs3), (4, .int .i64 s4)] ∧ jq q (fun m => (r12elems_L1 s m s3 s4 = r12elems_L1 s (((s.adds.length : Int) - (0 : Int)).toNat + 1) ([] : List (List UInt8)) (0 : Int) ∧ ((s.adds.length : Int) - s4).toNat < m)) (r12elems_L1 s (((s.adds.length : Int) - (0 : Int)).toNat + 1) ([] : List (List UInt8)) (0 : Int) = .inr (s3, s4)) ∧ (0 ≤ s4 ∧ 0 ≤ s4 ∧ s4 ≤ s.adds.length ∧ (s3.length : Int) ≤ s4) ∧ St X W [(some g1, Cl [.slice A1 s.adds.length C1, .slice A2 s.gone.length C2] 32)] [kS A1 s.adds.length C1 4 (s.adds.flatMap addMC), kS A2 s.gone.length C2 3 (s.gone.flatMap tagMC), kS none ([] : List (List UInt8)).length 0 1 (([] : List (List UInt8)).flatMap (fun x => [sv x])), kS As3 s3.length cs3 1 (s3.flatMap (fun x => [sv x]))] ∧ Fr ([]) w W) (((s.adds.length : Int) - (0 : Int)).toNat + 1) [(1, _), (3, _), (4, _)] ⟨rfl, rfl, rfl, trivial⟩ ⟨_, _, _, _, rfl, ⟨rfl, Nat.lt_succ_self _⟩, by first | omega | (simp; done) | (simp; omega), st, hF⟩ k6 ?_ fun hout1 => ?_
  · rintro E w3 ⟨s3, s4, As3, cs3, rfl, hLk1, hinv, st, hF⟩
    unfold jq at hLk1; dsimp only at hLk1
    refine sq fun _ k8 => rg (Lm rfl (Ls' rfl (Ln k8 (wR (fR (Res1 rfl rfl) ?_)))))
    unfold r12elems_m; rewrite [iP hc1, hLk1]; (try dsimp only)
    exact ⟨_, _, rfl, st.ot 3 rfl, hF⟩
  rintro m E w4 ⟨s3, s4, As3, cs3, rfl, ⟨hL1, hmu⟩, hinv, st, hF⟩
  obtain ⟨fuel, rfl⟩ : ∃ q, m = q + 1 := ⟨m - 1, by omega⟩
  refine sq fun _ k9 => sq fun _ k10 => rg (Lm rfl (Ly rfl (yf rfl Ty.fo_32_0) (Ly rfl (yl 0 Ty.pl_29 st rfl) (Ly rfl (yll rfl Tryz.underlying29) (Ly rfl (ylt rfl) (Ln k10 (cD rfl (fun hc2 => ?_) (fun hc2 => ?_))))))))
  · refine sk k9 (sq fun _ k11 => Wp_block (sq fun _ k12 => rg (Ly rfl (yf rfl Ty.fo_32_0) (Ly rfl (yl 0 Ty.pl_29 st rfl) (Lm rfl ?_)))))
    obtain ⟨gi1, bi1, egi1⟩ := (st.k (i := 0) rfl).addr (fun _ => rfl) (by decide) (q := s4) (by omega) (by omega)
    subst egi1
    refine Ly rfl (y_ixa (q := s4) rfl rfl rfl Ty.es_29 (by omega) (by omega)) ?_
    refine Ly rfl (yf rfl Ty.fo_110_1) (Ly rfl (y_ldk1 (q := s4) 3 rfl rfl Ty.pl_9 (fun _ e => e ▸ st.k (i := 0) rfl) (fun _ => rfl) (by omega) (by omega) rfl) ?_)
    refine Ls' rfl (Ln k12 (sq fun _ k13 => rg (Ls' rfl (Ln k13 (sq fun _ k14 => Wp_block (lp (fun q E W => ∃ (s6 : Int), E = [(1, .pointer (some ⟨g1, 0, none⟩)), (3, .slice As3 s3.length cs3), (4, .int .i64 s4), (5, sv ((ix s.adds s4).elem)), (6, .int .i64 s6)] ∧ jq q (fun m => (r12elems_L2 s s3 s4 m s6 = r12elems_L2 s s3 s4 (((s3.length : Int) - (0 : Int)).toNat + 1) (0 : Int) ∧ ((s3.length : Int) - s6).toNat < m)) (r12elems_L2 s s3 s4 (((s3.length : Int) - (0 : Int)).toNat + 1) (0 : Int) = .inr (s6)) ∧ (0 ≤ s6 ∧ 0 ≤ s6 ∧ s6 ≤ s3.length) ∧ St X W [(some g1, Cl [.slice (some ⟨gi1, bi1, none⟩) s.adds.length C1, .slice A2 s.gone.length C2] 32)] [kS (some ⟨gi1, bi1, none⟩) s.adds.length C1 4 (s.adds.flatMap addMC), kS A2 s.gone.length C2 3 (s.gone.flatMap tagMC), kS none ([] : List (List UInt8)).length 0 1 (([] : List (List UInt8)).flatMap (fun x => [sv x])), kS As3 s3.length cs3 1 (s3.flatMap (fun x => [sv x]))] ∧ Fr ([]) w W) (((s3.length : Int) - (0 : Int)).toNat + 1) [(1, _), (3, _), (4, _), (5, _), (6, _)] ⟨rfl, rfl, rfl, rfl, rfl, trivial⟩ ⟨_, rfl, ⟨rfl, Nat.lt_succ_self _⟩, by omega, st, hF⟩ k14 ?_ fun hout2 => ?_))))))
    · rintro E w5 ⟨s6, rfl, hLk2, hinv, st, hF⟩
      unfold jq at hLk2; dsimp only at hLk2
      refine sq fun _ k15 => sq fun _ k16 => ?_
      refine use_out k16 (fun E W => E = [(1, .pointer (some ⟨g1, 0, none⟩)), (3, .slice As3 s3.length cs3), (4, .int .i64 s4), (5, sv ((ix s.adds s4).elem)), (6, .int .i64 s6), (49, .bool (r12elems_c1 s s3 s4 s6))] ∧ St X W (hOf st) (kOf st) ∧ Fr ([]) w W) ?_ fun hout3 => ?_
      · rintro E w6 ⟨rfl, st, hF⟩
        have st : St X w6 [_] [_, _, _, _] := st
        refine cB rfl (fun hc3 => ?_) (fun hc3 => ?_)
        · have jhc3 := (r12elems_c1_iff s s3 s4 s6).1 hc3
          refine Wp_exit (Th_e (Ib_hit (Th_n (k11 _ _ (rg (Lm rfl (Ly rfl (y_add (c := s4 + 1) rfl rfl rfl (wf_i64 (by omega))) ?_)))))))
          refine Ls' rfl (Ls_nil (Th_n (?_)))
          exact ⟨fuel, [(1, _), (3, _), (4, _)], Nat.lt_succ_self _, ⟨rfl, rfl, rfl, trivial⟩, s3, (s4 + 1), As3, cs3, rfl, ⟨by rewrite [← hL1, r12elems_L1]; rewrite [iP hc2, hLk2]; (try dsimp only); all_goals rewrite [iP hc3]; all_goals rfl, by omega⟩, by omega, (st.pk [0] (by decide)).pickK [0, 1, 2, 3], hF⟩
        have jhc3 := mt (r12elems_c1_iff s s3 s4 s6).2 hc3
        refine sk k15 (sq fun _ k17 => rg (La rfl (Sb0 (enc := (fun x => [sv x])) Ty.es_131 Ty.zc_9 st hF rfl fun g2 w7 how1 hnew1 (st : St _ _ [_, _] _) hF => Lm rfl (Lm rfl ?_))))
        obtain ⟨Ak1, ck1, hk1, hk1y⟩ := cutK0 (enc := (fun x => [sv x])) (m := 1) (l := s3) (q := s6) (fun _ => rfl) (by decide) (st.k (i := 3) rfl) (by omega) (by omega)
        refine Ly rfl (hk1y rfl rfl Ty.es_131 rfl rfl) ?_
        have st := st.addK (kS Ak1 (s3.take s6.toNat).length ck1 1 ((s3.take s6.toNat).flatMap (fun x => [sv x]))) hk1
        have st : St X _ [_, _] [_, _, _, _, _] := st
        refine La rfl (Sap (enc := (fun x => [sv x])) ([] : List (List UInt8)) (s3.take s6.toNat) 1 Ty.es_131 Ty.zc_9 Ty.by_9 (fun _ => rfl) (oneS fun _ => rfl) how1 hnew1 st hF (st.k (i := 4) rfl).rd.src (fun h => by have := (st.k (i := 4) rfl).rd; exact rd_none this h (st.k (i := 4) rfl).len (by decide)) rfl (by first | omega | (simp; done) | (simp; omega)) (by first | omega | (simp; done) | (simp; omega)) fun Aa1 ca1 sp1 w8 how2 hnew2 (st : St _ _ [_, _] _) hF => ?_)
        refine Ls' rfl (Ln k17 (sq fun _ k18 => rg (Lm rfl (Lm rfl (La rfl (a_bsl rfl rfl rfl rfl rfl Ty.es_131 Ty.zc_9 rfl (by decide) (by simp [Value.cells]) st.hp (fun g3 w9 (hp : Hp w9 [_, _, _]) hf hg3 => ?_)))))))
        have how3 : Ow (some ⟨g3, 0, none⟩) [(ix s.adds s4).elem].length 1 1 ([(ix s.adds s4).elem].flatMap (fun x => [sv x])) [] := ⟨rfl, .inr ⟨g3, rfl, rfl, Nat.le_refl _, by unfold maxLen; decide⟩⟩
        have st : St X w9 [_, _, _] [_, _, _, _, _] := st.push hp hf hg3
        have st : St X w9 [_, _, _] [_, _, _, _, _] := st
        have hg3 := Nat.le_trans hF.size hg3
        have hF := hF.step0 hf
        have hnew3 := newB (X0 := []) hg3
        refine La rfl (Sap (enc := (fun x => [sv x])) (([] : List (List UInt8)) ++ (s3.take s6.toNat)) [(ix s.adds s4).elem] 1 Ty.es_131 Ty.zc_9 Ty.by_9 (fun _ => rfl) (oneS fun _ => rfl) how2 hnew2 st hF (own_src (i := 2) st.hp rfl how3) (own_none how3) rfl (by first | omega | (simp; done) | (simp; omega)) (by first | omega | (simp; done) | (simp; omega)) fun Aa2 ca2 sp2 w10 how4 hnew4 (st : St _ _ [_, _, _] _) hF => ?_)
        refine Ls' rfl (Ln k18 (rg (Lm rfl (Lm rfl (Lm rfl ?_)))))
        obtain ⟨Ak2, ck2, hk2, hk2y⟩ := cutKe (enc := (fun x => [sv x])) (m := 1) (l := s3) (p := s6) (fun _ => rfl) (by decide) (st.k (i := 3) rfl) (by omega) (by omega)
        refine Ly rfl (hk2y rfl rfl Ty.es_131 rfl rfl) ?_
        have st := st.addK (kS Ak2 (s3.drop s6.toNat).length ck2 1 ((s3.drop s6.toNat).flatMap (fun x => [sv x]))) hk2
        have st : St X _ [_, _, _] [_, _, _, _, _, _] := st
        refine La rfl (Sap (enc := (fun x => [sv x])) ((([] : List (List UInt8)) ++ (s3.take s6.toNat)) ++ [(ix s.adds s4).elem]) (s3.drop s6.toNat) 1 Ty.es_131 Ty.zc_9 Ty.by_9 (fun _ => rfl) (oneS fun _ => rfl) how4 hnew4 st hF (st.k (i := 5) rfl).rd.src (fun h => by have := (st.k (i := 5) rfl).rd; exact rd_none this h (st.k (i := 5) rfl).len (by decide)) rfl (by first | omega | (simp; done) | (simp; omega)) (by first | omega | (simp; done) | (simp; omega)) fun Aa3 ca3 sp3 w11 how5 hnew5 (st : St _ _ [_, _, _] _) hF => ?_)
        refine Ls' rfl (Ls_nil (Ib_n (Th_n (k11 _ _ (rg (Lm rfl (Ly rfl (y_add (c := s4 + 1) rfl rfl rfl (wf_i64 (by omega))) ?_)))))))
        refine Ls' rfl (Ls_nil (Th_n (?_)))
        have st : St X w11 [_, _] [_, _, _, _, _, _, _] := st.freeze (i := 1) [0, 2] (by decide) rfl how5 (by decide)
        exact ⟨fuel, [(1, _), (3, _), (4, _)], Nat.lt_succ_self _, ⟨rfl, rfl, rfl, trivial⟩, (((([] : List (List UInt8)) ++ (s3.take s6.toNat)) ++ [(ix s.adds s4).elem]) ++ (s3.drop s6.toNat)), (s4 + 1), Aa3, ca3, rfl, ⟨by rewrite [← hL1, r12elems_L1]; rewrite [iP hc2, hLk2]; (try dsimp only); all_goals rewrite [iN hc3]; all_goals rfl, by omega⟩, by first | omega | (simp; done) | (simp; omega), (st.pk [0] (by decide)).pickK [0, 1, 2, 6], hF⟩
      refine rg (Lm rfl (Lm rfl (Ly rfl (yll rfl Tryz.underlying131) (Ly rfl (ylt rfl) (Lm rfl (bD (s := 42) rfl (fun hc4 => ?_) (fun hc4 => ?_)))))))
      · refine LyT rfl (y_move rfl rfl) (LyT rfl (y_move rfl rfl) ?_)
        obtain ⟨gi2, bi2, egi2⟩ := (st.k (i := 3) rfl).addr (fun _ => rfl) (by decide) (q := s6) (by omega) (by omega)
        subst egi2
        refine LyT rfl (y_ixa (q := s6) rfl rfl rfl Ty.es_131 (by omega) (by omega)) ?_
        refine LyT rfl (y_ldk1 (q := s6) 0 rfl rfl Ty.pl_9 (fun _ e => e ▸ st.k (i := 3) rfl) (fun _ => rfl) (by omega) (by omega) rfl) ?_
        refine LyT rfl (y_move rfl rfl) (LyT rfl (y_eqs rfl rfl rfl) (Ly rfl (yT rfl) (Ls_nil (Th_n (?_)))))
        exact hout3 _ [(1, _), (3, _), (4, _), (5, _), (6, _), (49, _)] _ ⟨rfl, rfl, rfl, rfl, rfl, rfl, trivial⟩ ⟨by unfold r12elems_c1; rewrite [iP hc4]; rfl, (st.pk [0] (by decide)).pickK [0, 1, 2, 3], hF⟩
      refine LsF rfl (LsF rfl (LsF rfl (LsF rfl (LsF rfl (LsF rfl (Ly rfl (yF rfl) (Ls_nil (Th_n (?_)))))))))
      exact hout3 _ [(1, _), (3, _), (4, _), (5, _), (6, _), (49, _)] _ ⟨rfl, rfl, rfl, rfl, rfl, rfl, trivial⟩ ⟨by unfold r12elems_c1; rewrite [iN hc4]; rfl, (st.pk [0] (by decide)).pickK [0, 1, 2, 3], hF⟩
    rintro m E w12 ⟨s6, rfl, ⟨hL2, hmu⟩, hinv, st, hF⟩
    obtain ⟨fuel, rfl⟩ : ∃ q, m = q + 1 := ⟨m - 1, by omega⟩
    refine sq fun _ k19 => sq fun _ k20 => ?_
    refine use_out k20 (fun E W => E = [(1, .pointer (some ⟨g1, 0, none⟩)), (3, .slice As3 s3.length cs3), (4, .int .i64 s4), (5, sv ((ix s.adds s4).elem)), (6, .int .i64 s6), (35, .bool (r12elems_c2 s s3 s4 s6))] ∧ St X W (hOf st) (kOf st) ∧ Fr ([]) w W) ?_ fun hout4 => ?_
    · rintro E w13 ⟨rfl, st, hF⟩
      have st : St X w13 [_] [_, _, _, _] := st
      refine cB rfl (fun hc5 => ?_) (fun hc5 => ?_)
      · have jhc5 := (r12elems_c2_iff s s3 s4 s6).1 hc5
        refine sk k19 (Wp_block (rg (Lm rfl (Ly rfl (y_add (c := s6 + 1) rfl rfl rfl (wf_i64 (by omega))) ?_))))
        refine Ls' rfl (Ls_nil (Ib_n (Th_n (?_))))
        exact ⟨fuel, [(1, _), (3, _), (4, _), (5, _), (6, _)], Nat.lt_succ_self _, ⟨rfl, rfl, rfl, rfl, rfl, trivial⟩, (s6 + 1), rfl, ⟨by rewrite [← hL2, r12elems_L2]; rewrite [iP hc5]; rfl, by omega⟩, by omega, (st.pk [0] (by decide)).pickK [0, 1, 2, 3], hF⟩
      have jhc5 := mt (r12elems_c2_iff s s3 s4 s6).2 hc5
      refine Wp_exit (Th_e (Th_e (Ib_hit (Th_n (?_)))))
      exact hout2 _ [(1, _), (3, _), (4, _), (5, _), (6, _)] _ ⟨rfl, rfl, rfl, rfl, rfl, trivial⟩ ⟨s6, rfl, show _ = _ from by rewrite [← hL2, r12elems_L2]; rewrite [iN hc5]; rfl, by omega, (st.pk [0] (by decide)).pickK [0, 1, 2, 3], hF⟩
    refine rg (Lm rfl (Lm rfl (Ly rfl (yll rfl Tryz.underlying131) (Ly rfl (ylt rfl) (Lm rfl (bD (s := 28) rfl (fun hc6 => ?_) (fun hc6 => ?_)))))))
    · refine LyT rfl (y_move rfl rfl) (LyT rfl (y_move rfl rfl) ?_)
      obtain ⟨gi3, bi3, egi3⟩ := (st.k (i := 3) rfl).addr (fun _ => rfl) (by decide) (q := s6) (by omega) (by omega)
      subst egi3
      refine LyT rfl (y_ixa (q := s6) rfl rfl rfl Ty.es_131 (by omega) (by omega)) ?_
      refine LyT rfl (y_ldk1 (q := s6) 0 rfl rfl Ty.pl_9 (fun _ e => e ▸ st.k (i := 3) rfl) (fun _ => rfl) (by omega) (by omega) rfl) ?_
      refine LyT rfl (y_move rfl rfl) (LyT rfl (y_lts rfl rfl rfl) (Ly rfl (yT rfl) (Ls_nil (Th_n (?_)))))
      exact hout4 _ [(1, _), (3, _), (4, _), (5, _), (6, _), (35, _)] _ ⟨rfl, rfl, rfl, rfl, rfl, rfl, trivial⟩ ⟨by unfold r12elems_c2; rewrite [iP hc6]; rfl, (st.pk [0] (by decide)).pickK [0, 1, 2, 3], hF⟩
    refine LsF rfl (LsF rfl (LsF rfl (LsF rfl (LsF rfl (LsF rfl (Ly rfl (yF rfl) (Ls_nil (Th_n (?_)))))))))
    exact hout4 _ [(1, _), (3, _), (4, _), (5, _), (6, _), (35, _)] _ ⟨rfl, rfl, rfl, rfl, rfl, rfl, trivial⟩ ⟨by unfold r12elems_c2; rewrite [iN hc6]; rfl, (st.pk [0] (by decide)).pickK [0, 1, 2, 3], hF⟩
  refine Wp_exit (Th_e (Th_e (Ib_hit (Th_n (?_)))))
  exact hout1 _ [(1, _), (3, _), (4, _)] _ ⟨rfl, rfl, rfl, trivial⟩ ⟨s3, s4, As3, cs3, rfl, show _ = _ from by rewrite [← hL1, r12elems_L1]; rewrite [iN hc2]; rfl, by omega, (st.pk [0] (by decide)).pickK [0, 1, 2, 3], hF⟩
def r12compact_L1 (s : SetM) (vv : A8u32M) : Nat → Int → (List TagM) → (SetM × Int) ⊕ (Int × (List TagM))
  | 0, s8, u3_1 => .inr (s8, u3_1)
  | fuel + 1, s8, u3_1 =>
    if s8 < (s.gone.length : Int) then
      if (r6has_m vv ((ix s.gone s8).id)) = true then
        r12compact_L1 s vv fuel (s8 + 1) u3_1
      else
        r12compact_L1 s vv fuel (s8 + 1) (u3_1 ++ [ix s.gone s8])
    else
      .inr (s8, u3_1)
def r12compact_m (s : SetM) (vv : A8u32M) : SetM × Int :=
  if (r12check_m s) = 0 then
    match r12compact_L1 s vv (((s.gone.length : Int) - (0 : Int)).toNat + 1) (0 : Int) ([] : List TagM) with
    | .inl r => r
    | .inr (s8, u3_1) =>
      ((⟨s.adds, u3_1⟩ : SetM), 0)
  else
    ((⟨([] : List AddM), ([] : List TagM)⟩ : SetM), r12check_m s)
theorem r12compact_ok (X : List Nat) (w : World) (hX : Lo X w) (s : SetM) (A1 : Option Addr) (C1 : Nat) (A2 : Option Addr) (C2 : Nat) (vv : A8u32M) (z4 : Sld X w A1 s.adds.length C1 4 (s.adds.flatMap addMC)) (z5 : Sld X w A2 s.gone.length C2 3 (s.gone.flatMap tagMC)) (h1 : s.adds.length ≤ 1000000) (h2 : s.gone.length ≤ 1000000) :
    Fn Tryz.prog 42 [.agg #[.slice A1 s.adds.length C1, .slice A2 s.gone.length C2], .agg (a8u32C vv).toArray] w fun v w' => ∃ (A3 : Option Addr) (C3 : Nat) (A4 : Option Addr) (C4 : Nat), v = .tuple #[.agg #[.slice A3 (((r12compact_m s vv).1).adds).length C3, .slice A4 (((r12compact_m s vv).1).gone).length C4], .int .i64 ((r12compact_m s vv).2)] ∧ Sld X w' A3 (((r12compact_m s vv).1).adds).length C3 4 ((((r12compact_m s vv).1).adds).flatMap addMC) ∧ Sld X w' A4 (((r12compact_m s vv).1).gone).length C4 3 ((((r12compact_m s vv).1).gone).flatMap tagMC) ∧ Fr [] w w' := by
  refine Fn_of 45 Ty.en_42 Tryz.func42 rfl rfl rfl ?_
  dsimp only [argEnv]
  have st := stn2 hX z4 z5
  have hF := Fr.refl ([]) w
  refine sq fun _ k1 => rg (La rfl (Sbx st hF rfl fun g1 w1 (st : St _ _ [_] _) hF hg1 => La rfl (Sbx st hF rfl fun g2 w2 (st : St _ _ [_, _] _) hF hg2 => La rfl (Sal Ty.zc_32 st hF rfl fun g3 w3 (st : St _ _ [_, _, _] _) hF hg3 => Ls' rfl (Ln k1 (sq fun _ k2 => rg (Ly rfl (yw 0 Ty.ag_32 st rfl) (La rfl (Scl st hF rfl (r12check_ok (keys (hOf st) ++ X) _ st.Lo s A1 C1 A2 C2 (st.q 0 rfl) (st.q 1 rfl) h1) fun w4 st hF => Ls' rfl (Ln k2 (sq fun _ k3 => sq fun _ k4 => rg (Lm rfl (Ly rfl (yne rfl) (Ln k4 (cN rfl (fun hc1 => ?_) (fun hc1 => ?_))))))))))))))))
  · refine sq fun _ k5 => rg (Ly rfl (y_build (cells := [_, _]) rfl rfl Ty.zc_32 Ty.ps_32 rfl) (Lm rfl (La rfl (Ssw 2 Ty.sz_32 st hF (.inr hg3) rfl fun w5 (st : St _ _ [_, _, _] _) hF => Ls' rfl (Ln k5 ?_)))))
    have st := st.aN 4
    have st := st.aN 3
    refine wR (Th_r (fR (ResN2 rfl (rvc (i := 2) rfl Ty.ag_32 st.hp rfl rfl) rfl) ?_))
    unfold r12compact_m; rewrite [iN hc1]
    exact ⟨_, _, _, _, rfl, st.ot 2 rfl, st.ot 3 rfl, hF⟩
  refine sk k3 (sq fun _ k6 => rg (Ly rfl (yf rfl Ty.fo_32_0) (Ly rfl (yl 0 Ty.pl_29 st rfl) (Ly rfl (y_build (cells := [_, _]) rfl rfl Ty.zc_32 Ty.ps_32 rfl) (La rfl (Sal Ty.zc_32 st hF rfl fun g4 w6 (st : St _ _ [_, _, _, _] _) hF hg4 => La rfl (Ssw 3 Ty.sz_32 st hF (.inr hg4) rfl fun w7 (st : St _ _ [_, _, _, _] _) hF => Ln k6 (sq fun _ k7 => sq fun _ k8 => rg (Ls' rfl (Ln k8 (Wp_block ?_)))))))))))
  obtain ⟨st, how1, hnew1⟩ := st.rowN tagMC hF 3 41
  have st : St _ _ [_, _, _, _, _] _ := st
  refine lp (fun q E W => ∃ (s8 : Int) (u3_1 : List TagM) (Au3_1 : Option Addr) (cu3_1 : Nat) (spu3_1 : List Value), E = [(2, .pointer (some ⟨g1, 0, none⟩)), (3, .pointer (some ⟨g2, 0, none⟩)), (4, .pointer (some ⟨g3, 0, none⟩)), (7, .pointer (some ⟨g4, 0, none⟩)), (8, .int .i64 s8)] ∧ jq q (fun m => (r12compact_L1 s vv m s8 u3_1 = r12compact_L1 s vv (((s.gone.length : Int) - (0 : Int)).toNat + 1) (0 : Int) ([] : List TagM) ∧ ((s.gone.length : Int) - s8).toNat < m)) (r12compact_L1 s vv (((s.gone.length : Int) - (0 : Int)).toNat + 1) (0 : Int) ([] : List TagM) = .inr (s8, u3_1)) ∧ (0 ≤ s8 ∧ (u3_1.length : Int) ≤ s8) ∧ Ow Au3_1 u3_1.length cu3_1 3 (u3_1.flatMap tagMC) spu3_1 ∧ (∀ g, blkOf Au3_1 = some g → g ∈ ([]) ∨ w.heap.size ≤ g) ∧ St X W [(some g1, Cl [.slice A1 s.adds.length C1, .slice A2 s.gone.length C2] 32), (some g2, Cl [.int .u32 vv.e0, .int .u32 vv.e1, .int .u32 vv.e2, .int .u32 vv.e3, .int .u32 vv.e4, .int .u32 vv.e5, .int .u32 vv.e6, .int .u32 vv.e7] 45), (some g3, Cl [.slice none 0 0, .slice none 0 0] 32), (some g4, Cl [.slice A1 s.adds.length C1, .slice Au3_1 u3_1.length cu3_1] 32), (blkOf Au3_1, Cl (u3_1.flatMap tagMC ++ spu3_1) 41)] [kS A1 s.adds.length C1 4 (s.adds.flatMap addMC), kS A2 s.gone.length C2 3 (s.gone.flatMap tagMC)] ∧ Fr ([]) w W) (((s.gone.length : Int) - (0 : Int)).toNat + 1) [(2, _), (3, _), (4, _), (7, _), (8, _)] ⟨rfl, rfl, rfl, rfl, rfl, trivial⟩ ⟨_, _, _, _, _, rfl, ⟨rfl, Nat.lt_succ_self _⟩, by first | omega | (simp; done) | (simp; omega), how1, hnew1, st, hF⟩ k7 ?_ fun hout1 => ?_
  · rintro E w8 ⟨s8, u3_1, Au3_1, cu3_1, spu3_1, rfl, hLk1, hinv, howu3_1, newu3_1, st, hF⟩
    unfold jq at hLk1; dsimp only at hLk1
    refine sq fun _ k9 => rg (Ly rfl (yw 3 Ty.ag_32 st rfl) (La rfl (Ssw 2 Ty.sz_32 st hF (.inr hg3) rfl fun w9 (st : St _ _ [_, _, _, _, _] _) hF => Ls' rfl (Ln k9 ?_))))
    have st : St X w9 [_, _, _, _] [_, _, _] := st.freeze (i := 4) [0, 1, 2, 3] (by decide) rfl howu3_1 (by decide)
    refine wR (fR (ResN2 rfl (rvc (i := 2) rfl Ty.ag_32 st.hp rfl rfl) rfl) ?_)
    unfold r12compact_m; rewrite [iP hc1, hLk1]; (try dsimp only)
    exact ⟨_, _, _, _, rfl, st.ot 0 rfl, st.ot 2 rfl, hF⟩
  rintro m E w10 ⟨s8, u3_1, Au3_1, cu3_1, spu3_1, rfl, ⟨hL1, hmu⟩, hinv, howu3_1, newu3_1, st, hF⟩
  obtain ⟨fuel, rfl⟩ : ∃ q, m = q + 1 := ⟨m - 1, by omega⟩
  refine sq fun _ k10 => sq fun _ k11 => rg (Lm rfl (Ly rfl (yf rfl Ty.fo_32_1) (Ly rfl (yl 0 Ty.pl_30 st rfl) (Ly rfl (yll rfl Tryz.underlying30) (Ly rfl (ylt rfl) (Ln k11 (cD rfl (fun hc2 => ?_) (fun hc2 => ?_))))))))
  · refine sk k10 (sq fun _ k12 => Wp_block (sq fun _ k13 => ?_))
    refine Wp_plan (fun W => St X W (pickL (hOf st) [0, 1, 2, 3, 4]) (kOf st)) [(true, 0), (true, 1), (true, 2), (true, 3), (true, 4), (true, 5), (true, 6), (false, 7), (true, 8)] Ty.mx_0 (by kernel_rfl) (by kernel_rfl) rfl ((st.pk [0, 1, 2, 3, 4] (by decide)).drew) ?_
    have st := st.drew
    have hF := hF.step0 (Fr.drew _)
    refine Py rfl (y_loadw (i := 1) rfl rfl Ty.ag_45 (fun _ h => h.hp) rfl rfl) (Py rfl (yf rfl Ty.fo_32_1) (Py rfl (y_load (i := 0) rfl rfl Ty.pl_30 (fun _ h => h.hp) rfl rfl) (Pm rfl ?_)))
    obtain ⟨gi1, bi1, egi1⟩ := (st.k (i := 1) rfl).addr (fun _ => rfl) (by decide) (q := s8) (by omega) (by omega)
    subst egi1
    refine Py rfl (y_ixa (q := s8) rfl rfl rfl Ty.es_30 (by omega) (by omega)) ?_
    refine Py rfl (yf rfl Ty.fo_41_0) (Py rfl (y_ldkm (q := s8) 0 rfl rfl Ty.ag_39 (fun _ h => h.k (i := 1) rfl) (fun _ => rfl) (by omega) (by omega) rfl rfl) ?_)
    refine Pl_a rfl (wtd0 rfl) (by rfl) ?_
    refine Scl st hF rfl (r6has_ok _ vv ((ix s.gone s8).id)) fun w11 st hF => ?_
    refine ⟨(st.pk [0, 1, 2, 3, 4] (by decide)).tK 2, ?_⟩
    refine Py rfl (yn rfl) (Pl_nil (Th_n (k13 _ _ (cBn rfl (fun hc3 => ?_) (fun hc3 => ?_)))))
    · refine Wp_planF (fun W => St X W (pickL (hOf st) [0, 1, 2, 3]) (kOf st)) [(true, 0), (true, 1), (true, 2), (true, 3), (true, 4), (true, 5), (true, 6), (false, 7), (false, 8), (true, 9)] 10 Ty.mx_0 (by kernel_rfl) (by kernel_rfl) (by kernel_rfl) rfl ((st.pk [0, 1, 2, 3] (by decide)).drew) ?_
      have st := st.drew
      have hF := hF.step0 (Fr.drew _)
      refine Py rfl (yf rfl Ty.fo_32_1) (Py rfl (y_load (i := 3) rfl rfl Ty.pl_30 (fun _ h => h.hp) rfl rfl) (Py rfl (yf rfl Ty.fo_32_1) (Py rfl (y_load (i := 0) rfl rfl Ty.pl_30 (fun _ h => h.hp) rfl rfl) (Pm rfl (Py rfl (y_ixa (q := s8) rfl rfl rfl Ty.es_30 (by omega) (by omega)) ?_)))))
      refine Py rfl (y_ldk (q := s8) rfl rfl Ty.ag_41 (fun _ h => h.k (i := 1) rfl) (fun _ => rfl) (by omega) (by omega)) ?_
      refine Pl_a rfl (wtd0 rfl) (by rfl) ?_
      refine Sb (enc := tagMC) (ix s.gone s8) Ty.es_30 Ty.zc_41 (fun _ => rfl) st hF rfl fun g5 w12 how2 hnew2 (st : St _ _ [_, _, _, _, _, _] _) hF => ?_
      refine ⟨(st.pk [0, 1, 2, 3] (by decide)).tK 2, ?_⟩
      refine Pl_a rfl (wtd0 rfl) (by rfl) ?_
      refine Sap (enc := tagMC) u3_1 [ix s.gone s8] 4 Ty.es_30 Ty.zc_41 Ty.by_41 (fun _ => rfl) tagMC_1 howu3_1 newu3_1 st hF (own_src (i := 5) st.hp rfl how2) (own_none how2) rfl (by first | omega | (simp; done) | (simp; omega)) (by first | omega | (simp; done) | (simp; omega)) fun Aa1 ca1 sp1 w13 how3 hnew3 (st : St _ _ [_, _, _, _, _, _] _) hF => ?_
      refine ⟨(st.pk [0, 1, 2, 3] (by decide)).tK 2, ?_⟩
      refine Py rfl (yf rfl Ty.fo_32_1) (Pl_nil (Fin_a rfl (wtd0 rfl) (Ss1 3 Ty.sz_30 st hF (.inr hg4) rfl fun w14 (st : St _ _ [_, _, _, (_, Cl [_, _] _), _, _] _) hF => id (Ib_n (Th_n (k12 _ _ (rg (Lm rfl (Ly rfl (y_add (c := s8 + 1) rfl rfl rfl (wf_i64 (by omega))) ?_)))))))))
      refine Ls' rfl (Ls_nil (Th_n (?_)))
      exact ⟨fuel, [(2, _), (3, _), (4, _), (7, _), (8, _)], Nat.lt_succ_self _, ⟨rfl, rfl, rfl, rfl, rfl, trivial⟩, (s8 + 1), (u3_1 ++ [ix s.gone s8]), Aa1, ca1, sp1, rfl, ⟨by rewrite [← hL1, r12compact_L1]; rewrite [iP hc2, iN hc3]; rfl, by omega⟩, by first | omega | (simp; done) | (simp; omega), how3, hnew3, (st.pk [0, 1, 2, 3, 4] (by decide)).pickK [0, 1], hF⟩
    refine Wp_skip (Ib_n (Th_n (k12 _ _ (rg (Lm rfl (Ly rfl (y_add (c := s8 + 1) rfl rfl rfl (wf_i64 (by omega))) ?_))))))
    refine Ls' rfl (Ls_nil (Th_n (?_)))
    exact ⟨fuel, [(2, _), (3, _), (4, _), (7, _), (8, _)], Nat.lt_succ_self _, ⟨rfl, rfl, rfl, rfl, rfl, trivial⟩, (s8 + 1), u3_1, Au3_1, cu3_1, spu3_1, rfl, ⟨by rewrite [← hL1, r12compact_L1]; rewrite [iP hc2, iP hc3]; rfl, by omega⟩, by omega, howu3_1, newu3_1, (st.pk [0, 1, 2, 3, 4] (by decide)).pickK [0, 1], hF⟩
  refine Wp_exit (Th_e (Th_e (Ib_hit (Th_n (?_)))))
  exact hout1 _ [(2, _), (3, _), (4, _), (7, _), (8, _)] _ ⟨rfl, rfl, rfl, rfl, rfl, trivial⟩ ⟨s8, u3_1, Au3_1, cu3_1, spu3_1, rfl, show _ = _ from by rewrite [← hL1, r12compact_L1]; rewrite [iN hc2]; rfl, by omega, howu3_1, newu3_1, (st.pk [0, 1, 2, 3, 4] (by decide)).pickK [0, 1], hF⟩
def r13apply_c1 (s : MapM) (p : PutM) (s7 : List PutM) (s8 : Bool) (s9 : Int) (u2_0 : List PutM) (u2_1 : List TagM) : Bool :=
  (if 0 < (r5compareTag_m ((ix s.puts s9).tag) p.tag) then !s8 else false)
def r13apply_L1 (s : MapM) (p : PutM) : Nat → (List PutM) → Bool → Int → (List PutM) → (List TagM) → (MapM × Int) ⊕ ((List PutM) × Bool × Int × (List PutM) × (List TagM))
  | 0, s7, s8, s9, u2_0, u2_1 => .inr (s7, s8, s9, u2_0, u2_1)
  | fuel + 1, s7, s8, s9, u2_0, u2_1 =>
    if s9 < (s.puts.length : Int) then
      if (r5compareTag_m ((ix s.puts s9).tag) p.tag) = 0 then
        .inl (s, 0)
      else
        if (r13apply_c1 s p s7 s8 s9 u2_0 u2_1) = true then
          r13apply_L1 s p fuel ((s7 ++ [p]) ++ [ix s.puts s9]) true (s9 + 1) u2_0 u2_1
        else
          r13apply_L1 s p fuel (s7 ++ [ix s.puts s9]) s8 (s9 + 1) u2_0 u2_1
    else
      .inr (s7, s8, s9, u2_0, u2_1)
def r13apply_m (s : MapM) (p : PutM) : MapM × Int :=
  if (r13check_m s) = 0 then
    if (r5checkTag_m p.tag) = 0 then
      if (r13fits_m p) = true then
        if (r12hasTag_m s.gone p.tag) = true then
          (s, 0)
        else
          match r13apply_L1 s p (((s.puts.length : Int) - (0 : Int)).toNat + 1) ([] : List PutM) false (0 : Int) ([] : List PutM) ([] : List TagM) with
          | .inl r => r
          | .inr (s7, s8, s9, u2_0, u2_1) =>
            if s8 = true then
              if 4096 < (s7.length : Int) then
                ((⟨([] : List PutM), ([] : List TagM)⟩ : MapM), 4)
              else
                ((⟨s7, s.gone⟩ : MapM), 0)
            else
              if 4096 < ((s7 ++ [p]).length : Int) then
                ((⟨([] : List PutM), ([] : List TagM)⟩ : MapM), 4)
              else
                ((⟨s7 ++ [p], s.gone⟩ : MapM), 0)
      else
        ((⟨([] : List PutM), ([] : List TagM)⟩ : MapM), 3)
    else
      ((⟨([] : List PutM), ([] : List TagM)⟩ : MapM), 2)
  else
    ((⟨([] : List PutM), ([] : List TagM)⟩ : MapM), r13check_m s)
theorem r13apply_c1_iff (s : MapM) (p : PutM) (s7 : List PutM) (s8 : Bool) (s9 : Int) (u2_0 : List PutM) (u2_1 : List TagM) : (r13apply_c1 s p s7 s8 s9 u2_0 u2_1 = true) ↔ ((0 < (r5compareTag_m ((ix s.puts s9).tag) p.tag)) ∧ (¬ (s8 = true))) := by
  unfold r13apply_c1; exact (ci2 (by simp))
theorem r13apply_ok (X : List Nat) (w : World) (hX : Lo X w) (s : MapM) (A2 : Option Addr) (C2 : Nat) (A1 : Option Addr) (C1 : Nat) (p : PutM) (z6 : Sld X w A2 s.puts.length C2 7 (s.puts.flatMap putMC)) (z5 : Sld X w A1 s.gone.length C1 3 (s.gone.flatMap tagMC)) (h1 : s.puts.length ≤ 1000000) (h2 : s.gone.length ≤ 1000000) :
    Fn Tryz.prog 38 [.agg #[.slice A2 s.puts.length C2, .slice A1 s.gone.length C1], .agg (putMC p).toArray] w fun v w' => ∃ (A4 : Option Addr) (C4 : Nat) (A3 : Option Addr) (C3 : Nat), v = .tuple #[.agg #[.slice A4 (((r13apply_m s p).1).puts).length C4, .slice A3 (((r13apply_m s p).1).gone).length C3], .int .i64 ((r13apply_m s p).2)] ∧ Sld X w' A4 (((r13apply_m s p).1).puts).length C4 7 ((((r13apply_m s p).1).puts).flatMap putMC) ∧ Sld X w' A3 (((r13apply_m s p).1).gone).length C3 3 ((((r13apply_m s p).1).gone).flatMap tagMC) ∧ Fr [] w w' := by
  refine Fn_of 87 Ty.en_38 Tryz.func38 rfl rfl rfl ?_
  dsimp only [argEnv]
  have st := stn2 hX z6 z5
  have hF := Fr.refl ([]) w
  refine sq fun _ k1 => rg (La rfl (Sbx st hF rfl fun g1 w1 (st : St _ _ [_] _) hF hg1 => La rfl (Sbx st hF rfl fun g2 w2 (st : St _ _ [_, _] _) hF hg2 => La rfl (Sal Ty.zc_35 st hF rfl fun g3 w3 (st : St _ _ [_, _, _] _) hF hg3 => Ls' rfl (Ln k1 (sq fun _ k2 => rg (Ly rfl (yw 0 Ty.ag_35 st rfl) (La rfl (Scl st hF rfl (r13check_ok (keys (hOf st) ++ X) _ st.Lo s A2 C2 A1 C1 (st.q 0 rfl) (st.q 1 rfl)) fun w4 st hF => Ls' rfl (Ln k2 (sq fun _ k3 => Wp_block (sq fun _ k4 => rg (Lm rfl (Ly rfl (yne rfl) (Ls' rfl (Ln k4 (cN rfl (fun hc1 => ?_) (fun hc1 => ?_))))))))))))))))))
  · refine sq fun _ k5 => rg (Ly rfl (y_build (cells := [_, _]) rfl rfl Ty.zc_35 Ty.ps_35 rfl) (Lm rfl (La rfl (Ssw 2 Ty.sz_35 st hF (.inr hg3) rfl fun w5 (st : St _ _ [_, _, _] _) hF => Ls' rfl (Ln k5 ?_)))))
    have st := st.aN 7
    have st := st.aN 3
    refine wR (Ib_r (Th_r (fR (ResN2 rfl (rvc (i := 2) rfl Ty.ag_35 st.hp rfl rfl) rfl) ?_)))
    unfold r13apply_m; rewrite [iN hc1]
    exact ⟨_, _, _, _, rfl, st.ot 2 rfl, st.ot 3 rfl, hF⟩
  refine sq fun _ k6 => rg (Ly rfl (yf rfl Ty.fo_114_0) (Ly rfl (ym 1 Ty.ag_41 st rfl) (La rfl (Scl st hF rfl (r5checkTag_ok _ p.tag) fun w6 st hF => Ly rfl (yne rfl) (Ls' rfl (Ln k6 (cN rfl (fun hc2 => ?_) (fun hc2 => ?_))))))))
  · refine sq fun _ k7 => rg (Ly rfl (y_build (cells := [_, _]) rfl rfl Ty.zc_35 Ty.ps_35 rfl) (La rfl (Ssw 2 Ty.sz_35 st hF (.inr hg3) rfl fun w7 (st : St _ _ [_, _, _] _) hF => Ls' rfl (Ln k7 ?_))))
    have st := st.aN 7
    have st := st.aN 3
    refine wR (Ib_r (Th_r (fR (ResN2 rfl (rvc (i := 2) rfl Ty.ag_35 st.hp rfl rfl) rfl) ?_)))
    unfold r13apply_m; rewrite [iP hc1, iN hc2]
    exact ⟨_, _, _, _, rfl, st.ot 2 rfl, st.ot 3 rfl, hF⟩
  refine sq fun _ k8 => rg (Ly rfl (yw 1 Ty.ag_114 st rfl) (La rfl (Scl st hF rfl (r13fits_ok _ p) fun w8 st hF => Ly rfl (yn rfl) (Ls' rfl (Ln k8 (cBn rfl (fun hc3 => ?_) (fun hc3 => ?_)))))))
  · refine sq fun _ k9 => rg (Ly rfl (y_build (cells := [_, _]) rfl rfl Ty.zc_35 Ty.ps_35 rfl) (La rfl (Ssw 2 Ty.sz_35 st hF (.inr hg3) rfl fun w9 (st : St _ _ [_, _, _] _) hF => Ls' rfl (Ln k9 ?_))))
    have st := st.aN 7
    have st := st.aN 3
    refine wR (Ib_r (Th_r (fR (ResN2 rfl (rvc (i := 2) rfl Ty.ag_35 st.hp rfl rfl) rfl) ?_)))
    unfold r13apply_m; rewrite [iP hc1, iP hc2, iN hc3]
    exact ⟨_, _, _, _, rfl, st.ot 2 rfl, st.ot 3 rfl, hF⟩
  refine sq fun _ k10 => rg (Ly rfl (yf rfl Ty.fo_35_1) (Ly rfl (yl 0 Ty.pl_30 st rfl) (Ly rfl (yf rfl Ty.fo_114_0) (Ly rfl (ym 1 Ty.ag_41 st rfl) (La rfl (Scl st hF rfl (r12hasTag_ok (keys (hOf st) ++ X) _ st.Lo s.gone A1 C1 p.tag (st.q 1 rfl)) fun w10 st hF => Ls' rfl (Ln k10 (cB rfl (fun hc4 => ?_) (fun hc4 => ?_)))))))))
  · refine sq fun _ k11 => rg (Ly rfl (yw 0 Ty.ag_35 st rfl) (La rfl (Ssw 2 Ty.sz_35 st hF (.inr hg3) rfl fun w11 (st : St _ _ [_, _, _] _) hF => Ls' rfl (Ln k11 (wR (Ib_r (Th_r (fR (ResN2 rfl (rvc (i := 2) rfl Ty.ag_35 st.hp rfl rfl) rfl) ?_))))))))
    unfold r13apply_m; rewrite [iP hc1, iP hc2, iP hc3, iP hc4]
    exact ⟨_, _, _, _, rfl, st.ot 0 rfl, st.ot 1 rfl, hF⟩
  refine Wp_skip (Ib_n (Th_n (k3 _ _ (sq fun _ k12 => rg (Ls' rfl (Ln k12 (sq fun _ k13 => rg (Ls' rfl (Ln k13 (sq fun _ k14 => sq fun _ k15 => rg (Ls' rfl (Ln k15 (Wp_block ?_)))))))))))))
  obtain ⟨st, how1, hnew1⟩ := st.rowN putMC hF 7 114
  have st : St _ _ [_, _, _, _] _ := st
  obtain ⟨st, how2, hnew2⟩ := st.rowN putMC hF 7 114
  have st : St _ _ [_, _, _, _, _] _ := st
  obtain ⟨st, how3, hnew3⟩ := st.rowN tagMC hF 3 41
  have st : St _ _ [_, _, _, _, _, _] _ := st
  refine lp (fun q E W => ∃ (s7 : List PutM) (s8 : Bool) (s9 : Int) (u2_0 : List PutM) (u2_1 : List TagM) (As7 : Option Addr) (cs7 : Nat) (sps7 : List Value) (Au2_0 : Option Addr) (cu2_0 : Nat) (spu2_0 : List Value) (Au2_1 : Option Addr) (cu2_1 : Nat) (spu2_1 : List Value), E = [(2, .pointer (some ⟨g1, 0, none⟩)), (3, .pointer (some ⟨g2, 0, none⟩)), (4, .pointer (some ⟨g3, 0, none⟩)), (7, .slice As7 s7.length cs7), (8, .bool s8), (9, .int .i64 s9)] ∧ jq q (fun m => (r13apply_L1 s p m s7 s8 s9 u2_0 u2_1 = r13apply_L1 s p (((s.puts.length : Int) - (0 : Int)).toNat + 1) ([] : List PutM) false (0 : Int) ([] : List PutM) ([] : List TagM) ∧ ((s.puts.length : Int) - s9).toNat < m)) (r13apply_L1 s p (((s.puts.length : Int) - (0 : Int)).toNat + 1) ([] : List PutM) false (0 : Int) ([] : List PutM) ([] : List TagM) = .inr (s7, s8, s9, u2_0, u2_1)) ∧ (0 ≤ s9 ∧ 0 ≤ s9 ∧ s9 ≤ s.puts.length ∧ (s7.length : Int) ≤ 2 * s9) ∧ Ow As7 s7.length cs7 7 (s7.flatMap putMC) sps7 ∧ (∀ g, blkOf As7 = some g → g ∈ ([]) ∨ w.heap.size ≤ g) ∧ Ow Au2_0 u2_0.length cu2_0 7 (u2_0.flatMap putMC) spu2_0 ∧ (∀ g, blkOf Au2_0 = some g → g ∈ ([]) ∨ w.heap.size ≤ g) ∧ Ow Au2_1 u2_1.length cu2_1 3 (u2_1.flatMap tagMC) spu2_1 ∧ (∀ g, blkOf Au2_1 = some g → g ∈ ([]) ∨ w.heap.size ≤ g) ∧ St X W [(some g1, Cl [.slice A2 s.puts.length C2, .slice A1 s.gone.length C1] 35), (some g2, Cl [.int .i64 p.tag.id.origin, .int .u32 p.tag.id.seq, .int .i64 p.tag.n, sv p.field, .int .i64 p.val, .int .u32 p.atF.time, .int .i64 p.atF.origin] 114), (some g3, Cl [.slice Au2_0 u2_0.length cu2_0, .slice Au2_1 u2_1.length cu2_1] 35), (blkOf As7, Cl (s7.flatMap putMC ++ sps7) 114), (blkOf Au2_0, Cl (u2_0.flatMap putMC ++ spu2_0) 114), (blkOf Au2_1, Cl (u2_1.flatMap tagMC ++ spu2_1) 41)] [kS A2 s.puts.length C2 7 (s.puts.flatMap putMC), kS A1 s.gone.length C1 3 (s.gone.flatMap tagMC)] ∧ Fr ([]) w W) (((s.puts.length : Int) - (0 : Int)).toNat + 1) [(2, _), (3, _), (4, _), (7, _), (8, _), (9, _)] ⟨rfl, rfl, rfl, rfl, rfl, rfl, trivial⟩ ⟨_, _, _, _, _, _, _, _, _, _, _, _, _, _, rfl, ⟨rfl, Nat.lt_succ_self _⟩, by first | omega | (simp; done) | (simp; omega), how1, hnew1, how2, hnew2, how3, hnew3, st, hF⟩ k14 ?_ fun hout1 => ?_
  · rintro E w12 ⟨s7, s8, s9, u2_0, u2_1, As7, cs7, sps7, Au2_0, cu2_0, spu2_0, Au2_1, cu2_1, spu2_1, rfl, hLk1, hinv, hows7, news7, howu2_0, newu2_0, howu2_1, newu2_1, st, hF⟩
    unfold jq at hLk1; dsimp only at hLk1
    refine sq fun _ k16 => sq fun _ k17 => rg (Lm rfl (Ly rfl (yn rfl) (Ln k17 (cBn rfl (fun hc5 => ?_) (fun hc5 => ?_)))))
    · refine rg (Lm rfl (Ly rfl (yw 1 Ty.ag_114 st rfl) (La rfl (Sb (enc := putMC) p Ty.es_33 Ty.zc_114 (fun _ => rfl) st hF rfl fun g4 w13 how4 hnew4 (st : St _ _ [_, _, _, _, _, _, _] _) hF => La rfl (Sap (enc := putMC) s7 [p] 3 Ty.es_33 Ty.zc_114 Ty.by_114 (fun _ => rfl) putMC_1 hows7 news7 st hF (own_src (i := 6) st.hp rfl how4) (own_none how4) rfl (by first | omega | (simp; done) | (simp; omega)) (by first | omega | (simp; done) | (simp; omega)) fun Aa1 ca1 sp1 w14 how5 hnew5 (st : St _ _ [_, _, _, _, _, _, _] _) hF => ?_)))))
      refine Ls' rfl (Ln k16 (sq fun _ k18 => sq fun _ k19 => rg (Lm rfl (Ly rfl (yll rfl Tryz.underlying33) (Ly rfl (ygt rfl) (Ln k19 (cD rfl (fun hc6 => ?_) (fun hc6 => ?_))))))))
      · refine sq fun _ k20 => rg (Ly rfl (y_build (cells := [_, _]) rfl rfl Ty.zc_35 Ty.ps_35 rfl) (La rfl (Ssw 2 Ty.sz_35 st hF (.inr hg3) rfl fun w15 (st : St _ _ [_, _, _, _, _, _, _] _) hF => Ls' rfl (Ln k20 ?_))))
        have st := st.aN 7
        have st := st.aN 3
        refine wR (Th_r (fR (ResN2 rfl (rvc (i := 2) rfl Ty.ag_35 st.hp rfl rfl) rfl) ?_))
        unfold r13apply_m; rewrite [iP hc1, iP hc2, iP hc3, iN hc4, hLk1]; (try dsimp only); rewrite [iN hc5, iP hc6]
        exact ⟨_, _, _, _, rfl, st.ot 2 rfl, st.ot 3 rfl, hF⟩
      refine sk k18 (sq fun _ k21 => rg (Lm rfl (Ly rfl (yf rfl Ty.fo_35_1) (Ly rfl (yl 0 Ty.pl_30 st rfl) (Ly rfl (y_build (cells := [_, _]) rfl rfl Ty.zc_35 Ty.ps_35 rfl) (La rfl (Ssw 2 Ty.sz_35 st hF (.inr hg3) rfl fun w16 (st : St _ _ [_, _, _, _, _, _, _] _) hF => Ls' rfl (Ln k21 ?_))))))))
      have st : St X w16 [_, _, _, _, _, _] [_, _, _] := st.freeze (i := 3) [0, 1, 2, 4, 5, 6] (by decide) rfl how5 (by decide)
      refine wR (fR (ResN2 rfl (rvc (i := 2) rfl Ty.ag_35 st.hp rfl rfl) rfl) ?_)
      unfold r13apply_m; rewrite [iP hc1, iP hc2, iP hc3, iN hc4, hLk1]; (try dsimp only); rewrite [iN hc5, iN hc6]
      exact ⟨_, _, _, _, rfl, st.ot 2 rfl, st.ot 1 rfl, hF⟩
    refine sk k16 (sq fun _ k22 => sq fun _ k23 => rg (Lm rfl (Ly rfl (yll rfl Tryz.underlying33) (Ly rfl (ygt rfl) (Ln k23 (cD rfl (fun hc7 => ?_) (fun hc7 => ?_)))))))
    · refine sq fun _ k24 => rg (Ly rfl (y_build (cells := [_, _]) rfl rfl Ty.zc_35 Ty.ps_35 rfl) (La rfl (Ssw 2 Ty.sz_35 st hF (.inr hg3) rfl fun w17 (st : St _ _ [_, _, _, _, _, _] _) hF => Ls' rfl (Ln k24 ?_))))
      have st := st.aN 7
      have st := st.aN 3
      refine wR (Th_r (fR (ResN2 rfl (rvc (i := 2) rfl Ty.ag_35 st.hp rfl rfl) rfl) ?_))
      unfold r13apply_m; rewrite [iP hc1, iP hc2, iP hc3, iN hc4, hLk1]; (try dsimp only); rewrite [iP hc5, iP hc7]
      exact ⟨_, _, _, _, rfl, st.ot 2 rfl, st.ot 3 rfl, hF⟩
    refine sk k22 (sq fun _ k25 => rg (Lm rfl (Ly rfl (yf rfl Ty.fo_35_1) (Ly rfl (yl 0 Ty.pl_30 st rfl) (Ly rfl (y_build (cells := [_, _]) rfl rfl Ty.zc_35 Ty.ps_35 rfl) (La rfl (Ssw 2 Ty.sz_35 st hF (.inr hg3) rfl fun w18 (st : St _ _ [_, _, _, _, _, _] _) hF => Ls' rfl (Ln k25 ?_))))))))
    have st : St X w18 [_, _, _, _, _] [_, _, _] := st.freeze (i := 3) [0, 1, 2, 4, 5] (by decide) rfl hows7 (by decide)
    refine wR (fR (ResN2 rfl (rvc (i := 2) rfl Ty.ag_35 st.hp rfl rfl) rfl) ?_)
    unfold r13apply_m; rewrite [iP hc1, iP hc2, iP hc3, iN hc4, hLk1]; (try dsimp only); rewrite [iP hc5, iN hc7]
    exact ⟨_, _, _, _, rfl, st.ot 2 rfl, st.ot 1 rfl, hF⟩
  rintro m E w19 ⟨s7, s8, s9, u2_0, u2_1, As7, cs7, sps7, Au2_0, cu2_0, spu2_0, Au2_1, cu2_1, spu2_1, rfl, ⟨hL1, hmu⟩, hinv, hows7, news7, howu2_0, newu2_0, howu2_1, newu2_1, st, hF⟩
  obtain ⟨fuel, rfl⟩ : ∃ q, m = q + 1 := ⟨m - 1, by omega⟩
  refine sq fun _ k26 => sq fun _ k27 => rg (Lm rfl (Ly rfl (yf rfl Ty.fo_35_0) (Ly rfl (yl 0 Ty.pl_33 st rfl) (Ly rfl (yll rfl Tryz.underlying33) (Ly rfl (ylt rfl) (Ln k27 (cD rfl (fun hc8 => ?_) (fun hc8 => ?_))))))))
  · refine sk k26 (sq fun _ k28 => Wp_block (sq fun _ k29 => ?_))
    refine Wp_plan (fun W => St X W (pickL (hOf st) [0, 1, 2, 3, 4, 5]) (kOf st)) [(true, 0), (true, 1), (true, 2), (true, 3), (true, 4), (true, 5), (true, 6), (true, 7), (false, 8), (true, 9)] Ty.mx_0 (by kernel_rfl) (by kernel_rfl) rfl ((st.pk [0, 1, 2, 3, 4, 5] (by decide)).drew) ?_
    have st := st.drew
    have hF := hF.step0 (Fr.drew _)
    refine Py rfl (yf rfl Ty.fo_35_0) (Py rfl (y_load (i := 0) rfl rfl Ty.pl_33 (fun _ h => h.hp) rfl rfl) (Pm rfl ?_))
    obtain ⟨gi1, bi1, egi1⟩ := (st.k (i := 0) rfl).addr (fun _ => rfl) (by decide) (q := s9) (by omega) (by omega)
    subst egi1
    refine Py rfl (y_ixa (q := s9) rfl rfl rfl Ty.es_33 (by omega) (by omega)) ?_
    refine Py rfl (yf rfl Ty.fo_114_0) (Py rfl (y_ldkm (q := s9) 0 rfl rfl Ty.ag_41 (fun _ h => h.k (i := 0) rfl) (fun _ => rfl) (by omega) (by omega) rfl rfl) ?_)
    refine Py rfl (yf rfl Ty.fo_114_0) (Py rfl (y_loadm (i := 1) rfl rfl Ty.ag_41 (fun _ h => h.hp) rfl rfl rfl) (Pl_a rfl (wtd0 rfl) (by rfl) ?_))
    refine Scl st hF rfl (r5compareTag_ok _ ((ix s.puts s9).tag) p.tag) fun w20 st hF => ?_
    refine ⟨(st.pk [0, 1, 2, 3, 4, 5] (by decide)).tK 2, ?_⟩
    refine Py rfl (y_assign rfl rfl) (Pl_nil (Th_n (k29 _ _ (sq fun _ k30 => sq fun _ k31 => rg (Lm rfl (Ly rfl (yeq rfl) (Ln k31 (cE rfl (fun hc9 => ?_) (fun hc9 => ?_)))))))))
    · refine sq fun _ k32 => rg (Ly rfl (yw 0 Ty.ag_35 st rfl) (La rfl (Ssw 2 Ty.sz_35 st hF (.inr hg3) rfl fun w21 (st : St _ _ [_, _, _, _, _, _] _) hF => Ls' rfl (Ln k32 (wR (Th_r (Ib_r (Th_r (Th_r (Ib_r (Th_r (fR (ResN2 rfl (rvc (i := 2) rfl Ty.ag_35 st.hp rfl rfl) rfl) ?_))))))))))))
      have hret1 : r13apply_L1 s p (((s.puts.length : Int) - (0 : Int)).toNat + 1) ([] : List PutM) false (0 : Int) ([] : List PutM) ([] : List TagM) = .inl (s, 0) := by rewrite [← hL1, r13apply_L1]; rewrite [iP hc8, iP hc9]; rfl
      have he9 : r13apply_m s p = (s, 0) := by unfold r13apply_m; rewrite [iP hc1, iP hc2, iP hc3, iN hc4, hret1]; (try dsimp only); all_goals rfl
      rewrite [he9]
      exact ⟨_, _, _, _, rfl, st.ot 0 rfl, st.ot 1 rfl, hF⟩
    refine sk k30 (sq fun _ k33 => sq fun _ k34 => ?_)
    refine use_out k34 (fun E W => E = [(2, .pointer (some ⟨g1, 0, none⟩)), (3, .pointer (some ⟨g2, 0, none⟩)), (4, .pointer (some ⟨g3, 0, none⟩)), (7, .slice As7 s7.length cs7), (8, .bool s8), (9, .int .i64 s9), (60, .bool (r13apply_c1 s p s7 s8 s9 u2_0 u2_1))] ∧ St X W (hOf st) (kOf st) ∧ Fr ([]) w W) ?_ fun hout2 => ?_
    · rintro E w22 ⟨rfl, st, hF⟩
      have st : St X w22 [_, _, _, _, _, _] [_, _] := st
      refine cB rfl (fun hc10 => ?_) (fun hc10 => ?_)
      · have jhc10 := (r13apply_c1_iff s p s7 s8 s9 u2_0 u2_1).1 hc10
        refine sq fun _ k35 => rg (Lm rfl (Ly rfl (yw 1 Ty.ag_114 st rfl) (La rfl (Sb (enc := putMC) p Ty.es_33 Ty.zc_114 (fun _ => rfl) st hF rfl fun g5 w23 how6 hnew6 (st : St _ _ [_, _, _, _, _, _, _] _) hF => La rfl (Sap (enc := putMC) s7 [p] 3 Ty.es_33 Ty.zc_114 Ty.by_114 (fun _ => rfl) putMC_1 hows7 news7 st hF (own_src (i := 6) st.hp rfl how6) (own_none how6) rfl (by first | omega | (simp; done) | (simp; omega)) (by first | omega | (simp; done) | (simp; omega)) fun Aa2 ca2 sp2 w24 how7 hnew7 (st : St _ _ [_, _, _, _, _, _, _] _) hF => ?_)))))
        refine Ls' rfl (Ln k35 (rg (Ls' rfl (Ln k33 (rg (Lm rfl (Ly rfl (yf rfl Ty.fo_35_0) (Ly rfl (yl 0 Ty.pl_33 st rfl) (Lm rfl (Ly rfl (y_ixa (q := s9) rfl rfl rfl Ty.es_33 (by omega) (by omega)) ?_))))))))))
        refine Ly rfl (y_ldk (q := s9) rfl rfl Ty.ag_114 (fun _ e => e ▸ st.k (i := 0) rfl) (fun _ => rfl) (by omega) (by omega)) ?_
        refine La rfl (Sb (enc := putMC) (ix s.puts s9) Ty.es_33 Ty.zc_114 (fun _ => rfl) st hF rfl fun g6 w25 how8 hnew8 (st : St _ _ [_, _, _, _, _, _, _, _] _) hF => La rfl (Sap (enc := putMC) (s7 ++ [p]) [ix s.puts s9] 3 Ty.es_33 Ty.zc_114 Ty.by_114 (fun _ => rfl) putMC_1 how7 hnew7 st hF (own_src (i := 7) st.hp rfl how8) (own_none how8) rfl (by first | omega | (simp; done) | (simp; omega)) (by first | omega | (simp; done) | (simp; omega)) fun Aa3 ca3 sp3 w26 how9 hnew9 (st : St _ _ [_, _, _, _, _, _, _, _] _) hF => ?_))
        refine Ls' rfl (Ls_nil (Ib_n (Th_n (k28 _ _ (rg (Lm rfl (Ly rfl (y_add (c := s9 + 1) rfl rfl rfl (wf_i64 (by omega))) ?_)))))))
        refine Ls' rfl (Ls_nil (Th_n (?_)))
        exact ⟨fuel, [(2, _), (3, _), (4, _), (7, _), (8, _), (9, _)], Nat.lt_succ_self _, ⟨rfl, rfl, rfl, rfl, rfl, rfl, trivial⟩, ((s7 ++ [p]) ++ [ix s.puts s9]), true, (s9 + 1), u2_0, u2_1, Aa3, ca3, sp3, Au2_0, cu2_0, spu2_0, Au2_1, cu2_1, spu2_1, rfl, ⟨by rewrite [← hL1, r13apply_L1]; rewrite [iP hc8, iN hc9, iP hc10]; rfl, by omega⟩, by first | omega | (simp; done) | (simp; omega), how9, hnew9, howu2_0, newu2_0, howu2_1, newu2_1, (st.pk [0, 1, 2, 3, 4, 5] (by decide)).pickK [0, 1], hF⟩
      have jhc10 := mt (r13apply_c1_iff s p s7 s8 s9 u2_0 u2_1).2 hc10
      refine sk k33 (rg (Lm rfl (Ly rfl (yf rfl Ty.fo_35_0) (Ly rfl (yl 0 Ty.pl_33 st rfl) (Lm rfl (Ly rfl (y_ixa (q := s9) rfl rfl rfl Ty.es_33 (by omega) (by omega)) ?_))))))
      refine Ly rfl (y_ldk (q := s9) rfl rfl Ty.ag_114 (fun _ e => e ▸ st.k (i := 0) rfl) (fun _ => rfl) (by omega) (by omega)) ?_
      refine La rfl (Sb (enc := putMC) (ix s.puts s9) Ty.es_33 Ty.zc_114 (fun _ => rfl) st hF rfl fun g7 w27 how10 hnew10 (st : St _ _ [_, _, _, _, _, _, _] _) hF => La rfl (Sap (enc := putMC) s7 [ix s.puts s9] 3 Ty.es_33 Ty.zc_114 Ty.by_114 (fun _ => rfl) putMC_1 hows7 news7 st hF (own_src (i := 6) st.hp rfl how10) (own_none how10) rfl (by first | omega | (simp; done) | (simp; omega)) (by first | omega | (simp; done) | (simp; omega)) fun Aa4 ca4 sp4 w28 how11 hnew11 (st : St _ _ [_, _, _, _, _, _, _] _) hF => ?_))
      refine Ls' rfl (Ls_nil (Ib_n (Th_n (k28 _ _ (rg (Lm rfl (Ly rfl (y_add (c := s9 + 1) rfl rfl rfl (wf_i64 (by omega))) ?_)))))))
      refine Ls' rfl (Ls_nil (Th_n (?_)))
      exact ⟨fuel, [(2, _), (3, _), (4, _), (7, _), (8, _), (9, _)], Nat.lt_succ_self _, ⟨rfl, rfl, rfl, rfl, rfl, rfl, trivial⟩, (s7 ++ [ix s.puts s9]), s8, (s9 + 1), u2_0, u2_1, Aa4, ca4, sp4, Au2_0, cu2_0, spu2_0, Au2_1, cu2_1, spu2_1, rfl, ⟨by rewrite [← hL1, r13apply_L1]; rewrite [iP hc8, iN hc9, iN hc10]; rfl, by omega⟩, by first | omega | (simp; done) | (simp; omega), how11, hnew11, howu2_0, newu2_0, howu2_1, newu2_1, (st.pk [0, 1, 2, 3, 4, 5] (by decide)).pickK [0, 1], hF⟩
    refine rg (Lm rfl (Ly rfl (ygt rfl) (Lm rfl (bD (s := 57) rfl (fun hc11 => ?_) (fun hc11 => ?_)))))
    · refine LyT rfl (y_move rfl rfl) (LyT rfl (yn rfl) (Ly rfl (yT rfl) (Ls_nil (Th_n (?_)))))
      exact hout2 _ [(2, _), (3, _), (4, _), (7, _), (8, _), (9, _), (60, _)] _ ⟨rfl, rfl, rfl, rfl, rfl, rfl, rfl, trivial⟩ ⟨by unfold r13apply_c1; rewrite [iP hc11]; rfl, (st.pk [0, 1, 2, 3, 4, 5] (by decide)).pickK [0, 1], hF⟩
    refine LsF rfl (LsF rfl (Ly rfl (yF rfl) (Ls_nil (Th_n (?_)))))
    exact hout2 _ [(2, _), (3, _), (4, _), (7, _), (8, _), (9, _), (60, _)] _ ⟨rfl, rfl, rfl, rfl, rfl, rfl, rfl, trivial⟩ ⟨by unfold r13apply_c1; rewrite [iN hc11]; rfl, (st.pk [0, 1, 2, 3, 4, 5] (by decide)).pickK [0, 1], hF⟩
  refine Wp_exit (Th_e (Th_e (Ib_hit (Th_n (?_)))))
  exact hout1 _ [(2, _), (3, _), (4, _), (7, _), (8, _), (9, _)] _ ⟨rfl, rfl, rfl, rfl, rfl, rfl, trivial⟩ ⟨s7, s8, s9, u2_0, u2_1, As7, cs7, sps7, Au2_0, cu2_0, spu2_0, Au2_1, cu2_1, spu2_1, rfl, show _ = _ from by rewrite [← hL1, r13apply_L1]; rewrite [iN hc8]; rfl, by omega, hows7, news7, howu2_0, newu2_0, howu2_1, newu2_1, (st.pk [0, 1, 2, 3, 4, 5] (by decide)).pickK [0, 1], hF⟩
def r13drop_L1 (s : MapM) (tags : List TagM) : Nat → Int → (List PutM) → (MapM × Int) ⊕ (Int × (List PutM))
  | 0, s9, u3_0 => .inr (s9, u3_0)
  | fuel + 1, s9, u3_0 =>
    if s9 < (s.puts.length : Int) then
      if (r12hasTag_m tags ((ix s.puts s9).tag)) = true then
        r13drop_L1 s tags fuel (s9 + 1) u3_0
      else
        r13drop_L1 s tags fuel (s9 + 1) (u3_0 ++ [ix s.puts s9])
    else
      .inr (s9, u3_0)
def r13drop_m (s : MapM) (tags : List TagM) : MapM × Int :=
  if (r13check_m s) = 0 then
    if ((r12drop_m (⟨([] : List AddM), s.gone⟩ : SetM) tags).2) = 0 then
      match r13drop_L1 s tags (((s.puts.length : Int) - (0 : Int)).toNat + 1) (0 : Int) ([] : List PutM) with
      | .inl r => r
      | .inr (s9, u3_0) =>
        ((⟨u3_0, ((r12drop_m (⟨([] : List AddM), s.gone⟩ : SetM) tags).1).gone⟩ : MapM), 0)
    else
      ((⟨([] : List PutM), ([] : List TagM)⟩ : MapM), (r12drop_m (⟨([] : List AddM), s.gone⟩ : SetM) tags).2)
  else
    ((⟨([] : List PutM), ([] : List TagM)⟩ : MapM), r13check_m s)
theorem r13drop_ok (X : List Nat) (w : World) (hX : Lo X w) (s : MapM) (A2 : Option Addr) (C2 : Nat) (A1 : Option Addr) (C1 : Nat) (tags : List TagM) (A5 : Option Addr) (C5 : Nat) (z6 : Sld X w A2 s.puts.length C2 7 (s.puts.flatMap putMC)) (z5 : Sld X w A1 s.gone.length C1 3 (s.gone.flatMap tagMC)) (z7 : Sld X w A5 tags.length C5 3 (tags.flatMap tagMC)) (h1 : s.puts.length ≤ 1000000) (h2 : s.gone.length ≤ 1000000) :
    Fn Tryz.prog 39 [.agg #[.slice A2 s.puts.length C2, .slice A1 s.gone.length C1], .slice A5 tags.length C5] w fun v w' => ∃ (A4 : Option Addr) (C4 : Nat) (A3 : Option Addr) (C3 : Nat), v = .tuple #[.agg #[.slice A4 (((r13drop_m s tags).1).puts).length C4, .slice A3 (((r13drop_m s tags).1).gone).length C3], .int .i64 ((r13drop_m s tags).2)] ∧ Sld X w' A4 (((r13drop_m s tags).1).puts).length C4 7 ((((r13drop_m s tags).1).puts).flatMap putMC) ∧ Sld X w' A3 (((r13drop_m s tags).1).gone).length C3 3 ((((r13drop_m s tags).1).gone).flatMap tagMC) ∧ Fr [] w w' := by
  refine Fn_of 58 Ty.en_39 Tryz.func39 rfl rfl rfl ?_
  dsimp only [argEnv]
  have st := stn3 hX z6 z5 z7
  have hF := Fr.refl ([]) w
  refine sq fun _ k1 => rg (La rfl (Sbx st hF rfl fun g1 w1 (st : St _ _ [_] _) hF hg1 => La rfl (Sal Ty.zc_35 st hF rfl fun g2 w2 (st : St _ _ [_, _] _) hF hg2 => Ls' rfl (Ln k1 (sq fun _ k2 => rg (Ly rfl (yw 0 Ty.ag_35 st rfl) (La rfl (Scl st hF rfl (r13check_ok (keys (hOf st) ++ X) _ st.Lo s A2 C2 A1 C1 (st.q 0 rfl) (st.q 1 rfl)) fun w3 st hF => Ls' rfl (Ln k2 (sq fun _ k3 => sq fun _ k4 => rg (Lm rfl (Ly rfl (yne rfl) (Ln k4 (cN rfl (fun hc1 => ?_) (fun hc1 => ?_)))))))))))))))
  · refine sq fun _ k5 => rg (Ly rfl (y_build (cells := [_, _]) rfl rfl Ty.zc_35 Ty.ps_35 rfl) (Lm rfl (La rfl (Ssw 1 Ty.sz_35 st hF (.inr hg2) rfl fun w4 (st : St _ _ [_, _] _) hF => Ls' rfl (Ln k5 ?_)))))
    have st := st.aN 7
    have st := st.aN 3
    refine wR (Th_r (fR (ResN2 rfl (rvc (i := 1) rfl Ty.ag_35 st.hp rfl rfl) rfl) ?_))
    unfold r13drop_m; rewrite [iN hc1]
    exact ⟨_, _, _, _, rfl, st.ot 3 rfl, st.ot 4 rfl, hF⟩
  refine sk k3 (sq fun _ k6 => rg (Ly rfl (yf rfl Ty.fo_35_1) (Ly rfl (yl 0 Ty.pl_30 st rfl) (Ly rfl (y_build (cells := [_, _]) rfl rfl Ty.zc_32 Ty.ps_32 rfl) (Lm rfl ?_)))))
  have st := st.aN 4
  refine La rfl (a_call rfl rfl rfl rfl (r12drop_ok (keys (hOf st) ++ X) _ st.Lo (⟨([] : List AddM), s.gone⟩ : SetM) none 0 A1 C1 tags A5 C5 (st.q 3 rfl) (st.q 1 rfl) (st.q 2 rfl) (by simp) h2) (fun v w5 ⟨Ar1, cr1, Ar2, cr2, hv, hr1, hr2, hf⟩ => ?_))
  subst hv
  have st := st.keep0 hf
  have hF := hF.step0 hf
  have z8 := Sld.le hr1
  have st := st.addK (kS Ar1 (((r12drop_m (⟨([] : List AddM), s.gone⟩ : SetM) tags).1).adds).length cr1 4 ((((r12drop_m (⟨([] : List AddM), s.gone⟩ : SetM) tags).1).adds).flatMap addMC)) hr1
  have z9 := Sld.le hr2
  have st := st.addK (kS Ar2 (((r12drop_m (⟨([] : List AddM), s.gone⟩ : SetM) tags).1).gone).length cr2 3 ((((r12drop_m (⟨([] : List AddM), s.gone⟩ : SetM) tags).1).gone).flatMap tagMC)) hr2
  have st : St X w5 [_, _] [_, _, _, _, _, _] := st
  refine Lm rfl (Lx rfl (Lx rfl (La rfl (Sal Ty.zc_32 st hF rfl fun g3 w6 (st : St _ _ [_, _, _] _) hF hg3 => La rfl (Ssw 2 Ty.sz_32 st hF (.inr hg3) rfl fun w7 (st : St _ _ [_, _, _] _) hF => Ls' rfl (Ln k6 (sq fun _ k7 => sq fun _ k8 => rg (Lm rfl (Ly rfl (yne rfl) (Ln k8 (cN rfl (fun hc2 => ?_) (fun hc2 => ?_))))))))))))
  · refine sq fun _ k9 => rg (Ly rfl (y_build (cells := [_, _]) rfl rfl Ty.zc_35 Ty.ps_35 rfl) (Lm rfl (La rfl (Ssw 1 Ty.sz_35 st hF (.inr hg2) rfl fun w8 (st : St _ _ [_, _, _] _) hF => Ls' rfl (Ln k9 ?_)))))
    have st := st.aN 7
    have st := st.aN 3
    refine wR (Th_r (fR (ResN2 rfl (rvc (i := 1) rfl Ty.ag_35 st.hp rfl rfl) rfl) ?_))
    unfold r13drop_m; rewrite [iP hc1, iN hc2]
    exact ⟨_, _, _, _, rfl, st.ot 6 rfl, st.ot 7 rfl, hF⟩
  refine sk k7 (sq fun _ k10 => rg (Ly rfl (yf rfl Ty.fo_32_1) (Ly rfl (yl 2 Ty.pl_30 st rfl) (Ly rfl (y_build (cells := [_, _]) rfl rfl Ty.zc_35 Ty.ps_35 rfl) (La rfl (Sal Ty.zc_35 st hF rfl fun g4 w9 (st : St _ _ [_, _, _, _] _) hF hg4 => La rfl (Ssw 3 Ty.sz_35 st hF (.inr hg4) rfl fun w10 (st : St _ _ [_, _, _, _] _) hF => Ln k10 (sq fun _ k11 => sq fun _ k12 => rg (Ls' rfl (Ln k12 (Wp_block ?_)))))))))))
  obtain ⟨st, how1, hnew1⟩ := st.rowN putMC hF 7 114
  have st : St _ _ [_, _, _, _, _] _ := st
  refine lp (fun q E W => ∃ (s9 : Int) (u3_0 : List PutM) (Au3_0 : Option Addr) (cu3_0 : Nat) (spu3_0 : List Value), E = [(1, .slice A5 tags.length C5), (2, .pointer (some ⟨g1, 0, none⟩)), (4, .pointer (some ⟨g2, 0, none⟩)), (8, .pointer (some ⟨g4, 0, none⟩)), (9, .int .i64 s9)] ∧ jq q (fun m => (r13drop_L1 s tags m s9 u3_0 = r13drop_L1 s tags (((s.puts.length : Int) - (0 : Int)).toNat + 1) (0 : Int) ([] : List PutM) ∧ ((s.puts.length : Int) - s9).toNat < m)) (r13drop_L1 s tags (((s.puts.length : Int) - (0 : Int)).toNat + 1) (0 : Int) ([] : List PutM) = .inr (s9, u3_0)) ∧ (0 ≤ s9 ∧ (u3_0.length : Int) ≤ s9) ∧ Ow Au3_0 u3_0.length cu3_0 7 (u3_0.flatMap putMC) spu3_0 ∧ (∀ g, blkOf Au3_0 = some g → g ∈ ([]) ∨ w.heap.size ≤ g) ∧ St X W [(some g1, Cl [.slice A2 s.puts.length C2, .slice A1 s.gone.length C1] 35), (some g2, Cl [.slice none 0 0, .slice none 0 0] 35), (some g3, Cl [.slice Ar1 ((((r12drop_m (⟨([] : List AddM), s.gone⟩ : SetM) tags).1).adds).length) cr1, .slice Ar2 ((((r12drop_m (⟨([] : List AddM), s.gone⟩ : SetM) tags).1).gone).length) cr2] 32), (some g4, Cl [.slice Au3_0 u3_0.length cu3_0, .slice Ar2 ((((r12drop_m (⟨([] : List AddM), s.gone⟩ : SetM) tags).1).gone).length) cr2] 35), (blkOf Au3_0, Cl (u3_0.flatMap putMC ++ spu3_0) 114)] [kS A2 s.puts.length C2 7 (s.puts.flatMap putMC), kS A1 s.gone.length C1 3 (s.gone.flatMap tagMC), kS A5 tags.length C5 3 (tags.flatMap tagMC), kS none ([] : List AddM).length 0 4 (([] : List AddM).flatMap addMC), kS Ar1 (((r12drop_m (⟨([] : List AddM), s.gone⟩ : SetM) tags).1).adds).length cr1 4 ((((r12drop_m (⟨([] : List AddM), s.gone⟩ : SetM) tags).1).adds).flatMap addMC), kS Ar2 (((r12drop_m (⟨([] : List AddM), s.gone⟩ : SetM) tags).1).gone).length cr2 3 ((((r12drop_m (⟨([] : List AddM), s.gone⟩ : SetM) tags).1).gone).flatMap tagMC)] ∧ Fr ([]) w W) (((s.puts.length : Int) - (0 : Int)).toNat + 1) [(1, _), (2, _), (4, _), (8, _), (9, _)] ⟨rfl, rfl, rfl, rfl, rfl, trivial⟩ ⟨_, _, _, _, _, rfl, ⟨rfl, Nat.lt_succ_self _⟩, by first | omega | (simp; done) | (simp; omega), how1, hnew1, st, hF⟩ k11 ?_ fun hout1 => ?_
  · rintro E w11 ⟨s9, u3_0, Au3_0, cu3_0, spu3_0, rfl, hLk1, hinv, howu3_0, newu3_0, st, hF⟩
    unfold jq at hLk1; dsimp only at hLk1
    refine sq fun _ k13 => rg (Ly rfl (yw 3 Ty.ag_35 st rfl) (La rfl (Ssw 1 Ty.sz_35 st hF (.inr hg2) rfl fun w12 (st : St _ _ [_, _, _, _, _] _) hF => Ls' rfl (Ln k13 ?_))))
    have st : St X w12 [_, _, _, _] [_, _, _, _, _, _, _] := st.freeze (i := 4) [0, 1, 2, 3] (by decide) rfl howu3_0 (by decide)
    refine wR (fR (ResN2 rfl (rvc (i := 1) rfl Ty.ag_35 st.hp rfl rfl) rfl) ?_)
    unfold r13drop_m; rewrite [iP hc1, iP hc2, hLk1]; (try dsimp only)
    exact ⟨_, _, _, _, rfl, st.ot 6 rfl, st.ot 5 rfl, hF⟩
  rintro m E w13 ⟨s9, u3_0, Au3_0, cu3_0, spu3_0, rfl, ⟨hL1, hmu⟩, hinv, howu3_0, newu3_0, st, hF⟩
  obtain ⟨fuel, rfl⟩ : ∃ q, m = q + 1 := ⟨m - 1, by omega⟩
  refine sq fun _ k14 => sq fun _ k15 => rg (Lm rfl (Ly rfl (yf rfl Ty.fo_35_0) (Ly rfl (yl 0 Ty.pl_33 st rfl) (Ly rfl (yll rfl Tryz.underlying33) (Ly rfl (ylt rfl) (Ln k15 (cD rfl (fun hc3 => ?_) (fun hc3 => ?_))))))))
  · refine sk k14 (sq fun _ k16 => Wp_block (sq fun _ k17 => rg (Lm rfl (Ly rfl (yf rfl Ty.fo_35_0) (Ly rfl (yl 0 Ty.pl_33 st rfl) (Lm rfl ?_))))))
    obtain ⟨gi1, bi1, egi1⟩ := (st.k (i := 0) rfl).addr (fun _ => rfl) (by decide) (q := s9) (by omega) (by omega)
    subst egi1
    refine Ly rfl (y_ixa (q := s9) rfl rfl rfl Ty.es_33 (by omega) (by omega)) ?_
    refine Ly rfl (yf rfl Ty.fo_114_0) (Ly rfl (y_ldkm (q := s9) 0 rfl rfl Ty.ag_41 (fun _ e => e ▸ st.k (i := 0) rfl) (fun _ => rfl) (by omega) (by omega) rfl rfl) ?_)
    refine La rfl (Scl st hF rfl (r12hasTag_ok (keys (hOf st) ++ X) _ st.Lo tags A5 C5 ((ix s.puts s9).tag) (st.q 2 rfl)) fun w14 st hF => Ly rfl (yn rfl) (Ln k17 (cBn rfl (fun hc4 => ?_) (fun hc4 => ?_))))
    · refine Wp_planF (fun W => St X W (pickL (hOf st) [0, 1, 2, 3]) (kOf st)) [(true, 0), (true, 1), (true, 2), (true, 3), (true, 4), (true, 5), (true, 6), (false, 7), (false, 8), (true, 9)] 10 Ty.mx_0 (by kernel_rfl) (by kernel_rfl) (by kernel_rfl) rfl ((st.pk [0, 1, 2, 3] (by decide)).drew) ?_
      have st := st.drew
      have hF := hF.step0 (Fr.drew _)
      refine Py rfl (yf rfl Ty.fo_35_0) (Py rfl (y_load (i := 3) rfl rfl Ty.pl_33 (fun _ h => h.hp) rfl rfl) (Py rfl (yf rfl Ty.fo_35_0) (Py rfl (y_load (i := 0) rfl rfl Ty.pl_33 (fun _ h => h.hp) rfl rfl) (Pm rfl (Py rfl (y_ixa (q := s9) rfl rfl rfl Ty.es_33 (by omega) (by omega)) ?_)))))
      refine Py rfl (y_ldk (q := s9) rfl rfl Ty.ag_114 (fun _ h => h.k (i := 0) rfl) (fun _ => rfl) (by omega) (by omega)) ?_
      refine Pl_a rfl (wtd0 rfl) (by rfl) ?_
      refine Sb (enc := putMC) (ix s.puts s9) Ty.es_33 Ty.zc_114 (fun _ => rfl) st hF rfl fun g5 w15 how2 hnew2 (st : St _ _ [_, _, _, _, _, _] _) hF => ?_
      refine ⟨(st.pk [0, 1, 2, 3] (by decide)).tK 6, ?_⟩
      refine Pl_a rfl (wtd0 rfl) (by rfl) ?_
      refine Sap (enc := putMC) u3_0 [ix s.puts s9] 4 Ty.es_33 Ty.zc_114 Ty.by_114 (fun _ => rfl) putMC_1 howu3_0 newu3_0 st hF (own_src (i := 5) st.hp rfl how2) (own_none how2) rfl (by first | omega | (simp; done) | (simp; omega)) (by first | omega | (simp; done) | (simp; omega)) fun Aa1 ca1 sp1 w16 how3 hnew3 (st : St _ _ [_, _, _, _, _, _] _) hF => ?_
      refine ⟨(st.pk [0, 1, 2, 3] (by decide)).tK 6, ?_⟩
      refine Py rfl (yf rfl Ty.fo_35_0) (Pl_nil (Fin_a rfl (wtd0 rfl) (Ss1 3 Ty.sz_33 st hF (.inr hg4) rfl fun w17 (st : St _ _ [_, _, _, (_, Cl [_, _] _), _, _] _) hF => id (Ib_n (Th_n (k16 _ _ (rg (Lm rfl (Ly rfl (y_add (c := s9 + 1) rfl rfl rfl (wf_i64 (by omega))) ?_)))))))))
      refine Ls' rfl (Ls_nil (Th_n (?_)))
      exact ⟨fuel, [(1, _), (2, _), (4, _), (8, _), (9, _)], Nat.lt_succ_self _, ⟨rfl, rfl, rfl, rfl, rfl, trivial⟩, (s9 + 1), (u3_0 ++ [ix s.puts s9]), Aa1, ca1, sp1, rfl, ⟨by rewrite [← hL1, r13drop_L1]; rewrite [iP hc3, iN hc4]; rfl, by omega⟩, by first | omega | (simp; done) | (simp; omega), how3, hnew3, (st.pk [0, 1, 2, 3, 4] (by decide)).pickK [0, 1, 2, 3, 4, 5], hF⟩
    refine Wp_skip (Ib_n (Th_n (k16 _ _ (rg (Lm rfl (Ly rfl (y_add (c := s9 + 1) rfl rfl rfl (wf_i64 (by omega))) ?_))))))
    refine Ls' rfl (Ls_nil (Th_n (?_)))
    exact ⟨fuel, [(1, _), (2, _), (4, _), (8, _), (9, _)], Nat.lt_succ_self _, ⟨rfl, rfl, rfl, rfl, rfl, trivial⟩, (s9 + 1), u3_0, Au3_0, cu3_0, spu3_0, rfl, ⟨by rewrite [← hL1, r13drop_L1]; rewrite [iP hc3, iP hc4]; rfl, by omega⟩, by omega, howu3_0, newu3_0, (st.pk [0, 1, 2, 3, 4] (by decide)).pickK [0, 1, 2, 3, 4, 5], hF⟩
  refine Wp_exit (Th_e (Th_e (Ib_hit (Th_n (?_)))))
  exact hout1 _ [(1, _), (2, _), (4, _), (8, _), (9, _)] _ ⟨rfl, rfl, rfl, rfl, rfl, trivial⟩ ⟨s9, u3_0, Au3_0, cu3_0, spu3_0, rfl, show _ = _ from by rewrite [← hL1, r13drop_L1]; rewrite [iN hc3]; rfl, by omega, howu3_0, newu3_0, (st.pk [0, 1, 2, 3, 4] (by decide)).pickK [0, 1, 2, 3, 4, 5], hF⟩
end Go.Proofs.YtmenpoicgoijcaaGreat

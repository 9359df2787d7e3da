/- Walks printed by gen2.py out of our own specifications: what the functions named below do. -/
import Derived.Test.YtdckemiebnfjcaaGreatDoorSc
import Derived.Test.YtdckemiebnfjcaaGreatDoorB4
import Derived.Laws.Closers25b
import Derived.Laws.Build
import Derived.Stop.Asserts
section
set_option linter.unusedSimpArgs false
set_option linter.unusedVariables false
set_option maxRecDepth 20000
namespace Go.Proofs.YtdckemiebnfjcaaGreatDoor
open Go.RowKit
def osigned_m (u : Int) : (List UInt8) :=
  numB (bits .xor .u64 ((u % 18446744073709551616) * 2 % 18446744073709551616) ((u / 9223372036854775808) % 18446744073709551616))
theorem osigned_ok (w : World) (u : Int) :
    Fn Tryz.prog 34 [.int .i64 u] w fun v w' => v = sv (osigned_m u) ∧ Fr [] w w' := by
  refine Fn_of 11 Ty.en_34 Tryz.func34 rfl rfl rfl ?_
  dsimp only [argEnv]
  have st := stn0 (X := []) (w := w) (by simp [Lo])
  have hF := Fr.refl ([]) w
  refine sq fun _ k1 => rg (Ls' rfl (Ln k1 (sq fun _ k2 => rg (Lm rfl (Ly rfl (y_cvi (c := u % 18446744073709551616) rfl rfl Tryz.underlying2 Tryz.underlying99 wm_u64) (Ly rfl (y_shlC (c := (u % 18446744073709551616) * 2 % 18446744073709551616) 1 2 rfl rfl rfl (by decide) rfl rfl wm_u64) ?_))))))
  refine Lm rfl (Ly rfl (y_shrC 63 9223372036854775808 rfl rfl rfl (by decide) rfl rfl (by decide)) ?_)
  refine Ly rfl (y_cvi (c := (u / 9223372036854775808) % 18446744073709551616) rfl rfl Tryz.underlying2 Tryz.underlying99 wm_u64) (Ly rfl (y_bits rfl rfl rfl (by simp) rfl) ?_)
  refine La rfl (Scl st hF rfl (onum_ok _ (bits .xor .u64 ((u % 18446744073709551616) * 2 % 18446744073709551616) ((u / 9223372036854775808) % 18446744073709551616)) ⟨bits_lo_u64 _ _ _, Int.lt_of_le_of_lt (bits_hi_u64 _ _ _) (by decide)⟩) fun w1 st hF => ?_)
  refine Ls' rfl (Ln k2 (wR (fR (Res1 rfl rfl) ?_)))
  unfold osigned_m
  exact ⟨rfl, hF⟩
def otext_m (s : List UInt8) : (List UInt8) :=
  (numB ((s.length : Int) % 18446744073709551616)) ++ s
theorem otext_ok (w : World) (s : List UInt8) (h1 : s.length ≤ 1000000) :
    Fn Tryz.prog 33 [sv s] w fun v w' => v = sv (otext_m s) ∧ Fr [] w w' := by
  refine Fn_of 9 Ty.en_33 Tryz.func33 rfl rfl rfl ?_
  dsimp only [argEnv]
  have st := stn0 (X := []) (w := w) (by simp [Lo])
  have hF := Fr.refl ([]) w
  refine sq fun _ k1 => rg (Ls' rfl (Ln k1 (sq fun _ k2 => rg (Lm rfl (Ly rfl (y_lens rfl rfl Tryz.underlying9) (Ly rfl (y_cvi (c := (s.length : Int) % 18446744073709551616) rfl rfl Tryz.underlying3 Tryz.underlying99 wm_u64) (La rfl (Scl st hF rfl (onum_ok _ ((s.length : Int) % 18446744073709551616) (by omega)) fun w1 st hF => ?_))))))))
  have hlnu1 := show ((numB ((s.length : Int) % 18446744073709551616))).length ≤ 9 from numB_len _
  refine Lm rfl (Ly rfl (y_cat rfl rfl rfl (by first | omega | (simp; done) | (simp; omega))) ?_)
  refine Ls' rfl (Ln k2 (wR (fR (Res1 rfl rfl) ?_)))
  unfold otext_m
  exact ⟨rfl, hF⟩
theorem osigned_len (u : Int) : (osigned_m u).length ≤ 9 := by unfold osigned_m; exact numB_len _
theorem otext_len (s : List UInt8) : (otext_m s).length ≤ s.length + 9 := by have := numB_len ((s.length : Int) % 18446744073709551616); unfold otext_m; rw [List.length_append]; omega
def iwrite_m (id : IdM) : (List UInt8) :=
  if (icheck_m id) = 0 then
    (numB (id.origin % 18446744073709551616)) ++ (numB (id.seq % 18446744073709551616))
  else
    []
theorem iwrite_ok (w : World) (id : IdM) :
    Fn Tryz.prog 69 [.agg (idMC id).toArray] w fun v w' => v = sv (iwrite_m id) ∧ Fr [] w w' := by
  refine Fn_of 15 Ty.en_69 Tryz.func69 rfl rfl rfl ?_
  dsimp only [argEnv]
  have st := stn0 (X := []) (w := w) (by simp [Lo])
  have hF := Fr.refl ([]) w
  refine sq fun _ k1 => rg (La rfl (Sbx st hF rfl fun g1 w1 (st : St _ _ [_] _) hF hg1 => Ls' rfl (Ln k1 (sq fun _ k2 => sq fun _ k3 => rg (Ly rfl (yw 0 Ty.ag_41 st rfl) (La rfl (Scl st hF rfl (icheck_ok _ id) fun w2 st hF => Ly rfl (yne rfl) (Ln k3 (cN rfl (fun hc1 => ?_) (fun hc1 => ?_))))))))))
  · refine sq fun _ k4 => rg (Ls' rfl (Ln k4 (wR (Th_r (fR (Res1 rfl rfl) ?_)))))
    unfold iwrite_m; rewrite [iN hc1]
    exact ⟨rfl, hF⟩
  refine sk k2 (sq fun _ k5 => ?_)
  refine Wp_plan (fun W => St [] W (pickL (hOf st) [0]) (kOf st)) [(true, 0), (true, 1), (true, 2), (true, 4), (true, 5), (true, 6), (false, 3), (false, 7), (true, 8), (true, 9)] Ty.mx_0 (by kernel_rfl) (by kernel_rfl) rfl ((st.pk [0] (by decide)).drew) ?_
  have st := st.drew
  have hF := hF.step0 (Fr.drew _)
  refine Py rfl (yf rfl Ty.fo_41_0) (Py rfl (y_load (i := 0) rfl rfl Ty.pl_3 (fun _ h => h.hp) rfl rfl) (Py rfl (y_cvi (c := id.origin % 18446744073709551616) rfl rfl Tryz.underlying3 Tryz.underlying99 wm_u64) (Py rfl (yf rfl Ty.fo_41_1) (Py rfl (y_load (i := 0) rfl rfl Ty.pl_22 (fun _ h => h.hp) rfl rfl) (Py rfl (y_cvi (c := id.seq % 18446744073709551616) rfl rfl Tryz.underlying22 Tryz.underlying99 wm_u64) (Pl_a rfl (wtd0 rfl) (by rfl) ?_))))))
  refine Scl st hF rfl (onum_ok _ (id.origin % 18446744073709551616) (by omega)) fun w3 st hF => ?_
  refine ⟨(st.pk [0] (by decide)).tK 0, ?_⟩
  have hlnu1 := show ((numB (id.origin % 18446744073709551616))).length ≤ 9 from numB_len _
  refine Pl_a rfl (wtd0 rfl) (by rfl) ?_
  refine Scl st hF rfl (onum_ok _ (id.seq % 18446744073709551616) (by omega)) fun w4 st hF => ?_
  refine ⟨(st.pk [0] (by decide)).tK 0, ?_⟩
  have hlnu2 := show ((numB (id.seq % 18446744073709551616))).length ≤ 9 from numB_len _
  refine Py rfl (y_cat rfl rfl rfl (by first | omega | (simp; done) | (simp; omega))) ?_
  refine Py rfl (y_assign rfl rfl) (Pl_nil (Th_n (k5 _ _ (wR (fR (Res1 rfl rfl) ?_)))))
  unfold iwrite_m; rewrite [iP hc1]
  exact ⟨rfl, hF⟩
theorem iwrite_len (x : IdM) : (iwrite_m x).length ≤ 18 := by
  unfold iwrite_m
  split
  · rw [List.length_append]; have h1 := numB_len (x.origin % 18446744073709551616); have h2 := numB_len (x.seq % 18446744073709551616); omega
  · simp
def iwriteTag_m (t : TagM) : (List UInt8) :=
  if (icheckTag_m t) = 0 then
    (iwrite_m t.id) ++ (numB (t.n % 18446744073709551616))
  else
    []
theorem iwriteTag_ok (w : World) (t : TagM) :
    Fn Tryz.prog 35 [.agg (tagMC t).toArray] w fun v w' => v = sv (iwriteTag_m t) ∧ Fr [] w w' := by
  refine Fn_of 14 Ty.en_35 Tryz.func35 rfl rfl rfl ?_
  dsimp only [argEnv]
  have st := stn0 (X := []) (w := w) (by simp [Lo])
  have hF := Fr.refl ([]) w
  refine sq fun _ k1 => rg (La rfl (Sbx st hF rfl fun g1 w1 (st : St _ _ [_] _) hF hg1 => Ls' rfl (Ln k1 (sq fun _ k2 => sq fun _ k3 => rg (Ly rfl (yw 0 Ty.ag_43 st rfl) (La rfl (Scl st hF rfl (icheckTag_ok _ t) fun w2 st hF => Ly rfl (yne rfl) (Ln k3 (cN rfl (fun hc1 => ?_) (fun hc1 => ?_))))))))))
  · refine sq fun _ k4 => rg (Ls' rfl (Ln k4 (wR (Th_r (fR (Res1 rfl rfl) ?_)))))
    unfold iwriteTag_m; rewrite [iN hc1]
    exact ⟨rfl, hF⟩
  refine sk k2 (sq fun _ k5 => ?_)
  refine Wp_plan (fun W => St [] W (pickL (hOf st) [0]) (kOf st)) [(true, 0), (true, 1), (true, 3), (true, 4), (true, 5), (false, 2), (false, 6), (true, 7), (true, 8)] Ty.mx_0 (by kernel_rfl) (by kernel_rfl) rfl ((st.pk [0] (by decide)).drew) ?_
  have st := st.drew
  have hF := hF.step0 (Fr.drew _)
  refine Py rfl (yf rfl Ty.fo_43_0) (Py rfl (y_loadm (i := 0) rfl rfl Ty.ag_41 (fun _ h => h.hp) rfl rfl rfl) (Py rfl (yf rfl Ty.fo_43_1) (Py rfl (y_load (i := 0) rfl rfl Ty.pl_3 (fun _ h => h.hp) rfl rfl) (Py rfl (y_cvi (c := t.n % 18446744073709551616) rfl rfl Tryz.underlying3 Tryz.underlying99 wm_u64) (Pl_a rfl (wtd0 rfl) (by rfl) ?_)))))
  refine Scl st hF rfl (iwrite_ok _ t.id) fun w3 st hF => ?_
  refine ⟨(st.pk [0] (by decide)).tK 0, ?_⟩
  have hlnu1 := show ((iwrite_m t.id)).length ≤ 18 from iwrite_len _
  refine Pl_a rfl (wtd0 rfl) (by rfl) ?_
  refine Scl st hF rfl (onum_ok _ (t.n % 18446744073709551616) (by omega)) fun w4 st hF => ?_
  refine ⟨(st.pk [0] (by decide)).tK 0, ?_⟩
  have hlnu2 := show ((numB (t.n % 18446744073709551616))).length ≤ 9 from numB_len _
  refine Py rfl (y_cat rfl rfl rfl (by first | omega | (simp; done) | (simp; omega))) ?_
  refine Py rfl (y_assign rfl rfl) (Pl_nil (Th_n (k5 _ _ (wR (fR (Res1 rfl rfl) ?_)))))
  unfold iwriteTag_m; rewrite [iP hc1]
  exact ⟨rfl, hF⟩
theorem iwriteTag_len (x : TagM) : (iwriteTag_m x).length ≤ 27 := by
  unfold iwriteTag_m
  split
  · rw [List.length_append]; have h1 := iwrite_len x.id; have h2 := numB_len (x.n % 18446744073709551616); omega
  · simp
def lwrite_m (s : StampM) : (List UInt8) :=
  if (lcheck_m s) = 0 then
    (numB (s.time % 18446744073709551616)) ++ (numB (s.origin % 18446744073709551616))
  else
    []
theorem lwrite_ok (w : World) (s : StampM) :
    Fn Tryz.prog 37 [.agg (stampMC s).toArray] w fun v w' => v = sv (lwrite_m s) ∧ Fr [] w w' := by
  refine Fn_of 15 Ty.en_37 Tryz.func37 rfl rfl rfl ?_
  dsimp only [argEnv]
  have st := stn0 (X := []) (w := w) (by simp [Lo])
  have hF := Fr.refl ([]) w
  refine sq fun _ k1 => rg (La rfl (Sbx st hF rfl fun g1 w1 (st : St _ _ [_] _) hF hg1 => Ls' rfl (Ln k1 (sq fun _ k2 => sq fun _ k3 => rg (Ly rfl (yw 0 Ty.ag_24 st rfl) (La rfl (Scl st hF rfl (lcheck_ok _ s) fun w2 st hF => Ly rfl (yne rfl) (Ln k3 (cN rfl (fun hc1 => ?_) (fun hc1 => ?_))))))))))
  · refine sq fun _ k4 => rg (Ls' rfl (Ln k4 (wR (Th_r (fR (Res1 rfl rfl) ?_)))))
    unfold lwrite_m; rewrite [iN hc1]
    exact ⟨rfl, hF⟩
  refine sk k2 (sq fun _ k5 => ?_)
  refine Wp_plan (fun W => St [] W (pickL (hOf st) [0]) (kOf st)) [(true, 0), (true, 1), (true, 2), (true, 4), (true, 5), (true, 6), (false, 3), (false, 7), (true, 8), (true, 9)] Ty.mx_0 (by kernel_rfl) (by kernel_rfl) rfl ((st.pk [0] (by decide)).drew) ?_
  have st := st.drew
  have hF := hF.step0 (Fr.drew _)
  refine Py rfl (yf rfl Ty.fo_24_0) (Py rfl (y_load (i := 0) rfl rfl Ty.pl_22 (fun _ h => h.hp) rfl rfl) (Py rfl (y_cvi (c := s.time % 18446744073709551616) rfl rfl Tryz.underlying22 Tryz.underlying99 wm_u64) (Py rfl (yf rfl Ty.fo_24_1) (Py rfl (y_load (i := 0) rfl rfl Ty.pl_3 (fun _ h => h.hp) rfl rfl) (Py rfl (y_cvi (c := s.origin % 18446744073709551616) rfl rfl Tryz.underlying3 Tryz.underlying99 wm_u64) (Pl_a rfl (wtd0 rfl) (by rfl) ?_))))))
  refine Scl st hF rfl (onum_ok _ (s.time % 18446744073709551616) (by omega)) fun w3 st hF => ?_
  refine ⟨(st.pk [0] (by decide)).tK 0, ?_⟩
  have hlnu1 := show ((numB (s.time % 18446744073709551616))).length ≤ 9 from numB_len _
  refine Pl_a rfl (wtd0 rfl) (by rfl) ?_
  refine Scl st hF rfl (onum_ok _ (s.origin % 18446744073709551616) (by omega)) fun w4 st hF => ?_
  refine ⟨(st.pk [0] (by decide)).tK 0, ?_⟩
  have hlnu2 := show ((numB (s.origin % 18446744073709551616))).length ≤ 9 from numB_len _
  refine Py rfl (y_cat rfl rfl rfl (by first | omega | (simp; done) | (simp; omega))) ?_
  refine Py rfl (y_assign rfl rfl) (Pl_nil (Th_n (k5 _ _ (wR (fR (Res1 rfl rfl) ?_)))))
  unfold lwrite_m; rewrite [iP hc1]
  exact ⟨rfl, hF⟩
theorem lwrite_len (x : StampM) : (lwrite_m x).length ≤ 18 := by
  unfold lwrite_m
  split
  · rw [List.length_append]; have h1 := numB_len (x.time % 18446744073709551616); have h2 := numB_len (x.origin % 18446744073709551616); omega
  · simp
def owrite_L1 (e : EffectM) : Nat → (List UInt8) → Int → ((List UInt8) × Int) ⊕ ((List UInt8) × Int)
  | 0, s5, s52 => .inr (s5, s52)
  | fuel + 1, s5, s52 =>
    if s52 < (e.tags.length : Int) then
      owrite_L1 e fuel (s5 ++ (iwriteTag_m (ix e.tags s52))) (s52 + 1)
    else
      .inr (s5, s52)
def owrite_L2 (e : EffectM) : Nat → (List UInt8) → Int → ((List UInt8) × Int) ⊕ ((List UInt8) × Int)
  | 0, s5, s52 => .inr (s5, s52)
  | fuel + 1, s5, s52 =>
    if s52 < (e.tags.length : Int) then
      owrite_L2 e fuel (s5 ++ (iwriteTag_m (ix e.tags s52))) (s52 + 1)
    else
      .inr (s5, s52)
def owrite_m (e : EffectM) : (List UInt8) × Int :=
  if (ocheckE_m e) = 0 then
    if ((oform_m e.act).atF) = true then
      if ((oform_m e.act).tags) = true then
        match owrite_L1 e (((e.tags.length : Int) - (0 : Int)).toNat + 1) ((((((numB (e.act % 18446744073709551616)) ++ (otext_m e.name)) ++ (osigned_m e.val)) ++ (iwriteTag_m e.tag)) ++ (lwrite_m e.atF)) ++ (numB ((e.tags.length : Int) % 18446744073709551616))) (0 : Int) with
        | .inl r => r
        | .inr (s5, s52) =>
          (s5, 0)
      else
        (((((numB (e.act % 18446744073709551616)) ++ (otext_m e.name)) ++ (osigned_m e.val)) ++ (iwriteTag_m e.tag)) ++ (lwrite_m e.atF), 0)
    else
      if ((oform_m e.act).tags) = true then
        match owrite_L2 e (((e.tags.length : Int) - (0 : Int)).toNat + 1) (((((numB (e.act % 18446744073709551616)) ++ (otext_m e.name)) ++ (osigned_m e.val)) ++ (iwriteTag_m e.tag)) ++ (numB ((e.tags.length : Int) % 18446744073709551616))) (0 : Int) with
        | .inl r => r
        | .inr (s5, s52) =>
          (s5, 0)
      else
        ((((numB (e.act % 18446744073709551616)) ++ (otext_m e.name)) ++ (osigned_m e.val)) ++ (iwriteTag_m e.tag), 0)
  else
    ([], ocheckE_m e)
theorem owrite_ok (X : List Nat) (w : World) (hX : Lo X w) (e : EffectM) (A1 : Option Addr) (C1 : Nat) (z2 : Sld X w A1 e.tags.length C1 3 (e.tags.flatMap tagMC)) (h1 : e.tags.length ≤ 1000000) (h2 : e.name.length ≤ 1000000) :
    Fn Tryz.prog 9 [.agg #[.int .i64 e.act, sv e.name, .int .i64 e.val, .int .i64 e.tag.id.origin, .int .u32 e.tag.id.seq, .int .i64 e.tag.n, .int .u32 e.atF.time, .int .i64 e.atF.origin, .slice A1 e.tags.length C1]] w fun v w' => v = .tuple #[sv ((owrite_m e).1), .int .i64 ((owrite_m e).2)] ∧ Fr [] w w' := by
  refine Fn_of 62 Ty.en_9 Tryz.func9 rfl rfl rfl ?_
  dsimp only [argEnv]
  have st := stn1 hX z2
  have hF := Fr.refl ([]) w
  have z1 := (st.q 0 rfl).le
  have hq1 := otext_len e.name
  refine sq fun _ k1 => rg (La rfl (Sbx st hF rfl fun g1 w1 (st : St _ _ [_] _) hF hg1 => Ls' rfl (Ls' rfl (Ln k1 (sq fun _ k2 => sq fun _ k3 => rg (Ly rfl (yw 0 Ty.ag_59 st rfl) (La rfl (Scl st hF rfl (ocheckE_ok (keys (hOf st) ++ X) _ st.Lo e A1 C1 (st.q 0 rfl)) fun w2 st hF => Ls' rfl (Ln k3 (sq fun _ k4 => rg (Lm rfl (Ly rfl (yne rfl) (Ln k4 (cN rfl (fun hc1 => ?_) (fun hc1 => ?_)))))))))))))))
  · refine sq fun _ k5 => rg (Lm rfl (Ls' rfl (Ls' rfl (Ln k5 (wR (Th_r (fR (Res2 rfl rfl rfl) ?_)))))))
    unfold owrite_m; rewrite [iN hc1]
    exact ⟨rfl, hF⟩
  refine sk k2 (sq fun _ k6 => ?_)
  refine Wp_plan (fun W => St X W (pickL (hOf st) [0]) (kOf st)) [(true, 0), (true, 1), (true, 2), (true, 4), (true, 5), (true, 8), (true, 9), (true, 12), (true, 13), (false, 3), (false, 6), (true, 7), (false, 10), (true, 11), (false, 14), (true, 15), (true, 16)] Ty.mx_0 (by kernel_rfl) (by kernel_rfl) rfl ((st.pk [0] (by decide)).drew) ?_
  have st := st.drew
  have hF := hF.step0 (Fr.drew _)
  refine Py rfl (yf rfl Ty.fo_59_0) (Py rfl (y_load (i := 0) rfl rfl Ty.pl_3 (fun _ h => h.hp) rfl rfl) (Py rfl (y_cvi (c := e.act % 18446744073709551616) rfl rfl Tryz.underlying3 Tryz.underlying99 wm_u64) (Py rfl (yf rfl Ty.fo_59_1) (Py rfl (y_load (i := 0) rfl rfl Ty.pl_9 (fun _ h => h.hp) rfl rfl) (Py rfl (yf rfl Ty.fo_59_2) (Py rfl (y_load (i := 0) rfl rfl Ty.pl_2 (fun _ h => h.hp) rfl rfl) (Py rfl (yf rfl Ty.fo_59_3) (Py rfl (y_loadm (i := 0) rfl rfl Ty.ag_43 (fun _ h => h.hp) rfl rfl rfl) (Pl_a rfl (wtd0 rfl) (by rfl) ?_)))))))))
  refine Scl st hF rfl (onum_ok _ (e.act % 18446744073709551616) (by omega)) fun w3 st hF => ?_
  refine ⟨(st.pk [0] (by decide)).tK 1, ?_⟩
  have hlnu1 := show ((numB (e.act % 18446744073709551616))).length ≤ 9 from numB_len _
  refine Pl_a rfl (wtd0 rfl) (by rfl) ?_
  refine Scl st hF rfl (otext_ok _ e.name h2) fun w4 st hF => ?_
  refine ⟨(st.pk [0] (by decide)).tK 1, ?_⟩
  refine Py rfl (y_cat rfl rfl rfl (by first | omega | (simp; done) | (simp; omega))) ?_
  refine Pl_a rfl (wtd0 rfl) (by rfl) ?_
  refine Scl st hF rfl (osigned_ok _ e.val) fun w5 st hF => ?_
  refine ⟨(st.pk [0] (by decide)).tK 1, ?_⟩
  have hlnu2 := show ((osigned_m e.val)).length ≤ 9 from osigned_len _
  refine Py rfl (y_cat rfl rfl rfl (by first | omega | (simp; done) | (simp; omega))) ?_
  refine Pl_a rfl (wtd0 rfl) (by rfl) ?_
  refine Scl st hF rfl (iwriteTag_ok _ e.tag) fun w6 st hF => ?_
  refine ⟨(st.pk [0] (by decide)).tK 1, ?_⟩
  have hlnu3 := show ((iwriteTag_m e.tag)).length ≤ 27 from iwriteTag_len _
  refine Py rfl (y_cat rfl rfl rfl (by first | omega | (simp; done) | (simp; omega))) ?_
  refine Py rfl (y_assign rfl rfl) (Pl_nil (Th_n (k6 _ _ (sq fun _ k7 => rg (Ly rfl (yf rfl Ty.fo_59_0) (Ly rfl (yl 0 Ty.pl_3 st rfl) (La rfl (Scl st hF rfl (oform_ok _ e.act) fun w7 st hF => La rfl (Sal Ty.zc_104 st hF rfl fun g2 w8 (st : St _ _ [_, _] _) hF hg2 => La rfl (Ssw 1 Ty.sz_104 st hF (.inr hg2) rfl fun w9 (st : St _ _ [_, _] _) hF => Ln k7 (sq fun _ k8 => sq fun _ k9 => rg (Ly rfl (yf rfl Ty.fo_104_2) (Ly rfl (yl 1 Ty.pl_4 st rfl) (Ln k9 (cB rfl (fun hc2 => ?_) (fun hc2 => ?_))))))))))))))))
  · refine rg (Lm rfl (Ly rfl (yf rfl Ty.fo_59_4) (Ly rfl (ym 0 Ty.ag_24 st rfl) (La rfl (Scl st hF rfl (lwrite_ok _ e.atF) fun w10 st hF => ?_)))))
    have hlnu4 := show ((lwrite_m e.atF)).length ≤ 18 from lwrite_len _
    refine Ly rfl (y_cat rfl rfl rfl (by first | omega | (simp; done) | (simp; omega))) ?_
    refine Ls' rfl (Ln k8 (sq fun _ k10 => sq fun _ k11 => rg (Ly rfl (yf rfl Ty.fo_104_3) (Ly rfl (yl 1 Ty.pl_4 st rfl) (Ln k11 (cB rfl (fun hc3 => ?_) (fun hc3 => ?_)))))))
    · refine sq fun _ k12 => rg (Lm rfl (Ly rfl (yf rfl Ty.fo_59_5) (Ly rfl (yl 0 Ty.pl_30 st rfl) (Ly rfl (yll rfl Tryz.underlying30) (Ly rfl (y_cvi (c := (e.tags.length : Int) % 18446744073709551616) rfl rfl Tryz.underlying3 Tryz.underlying99 wm_u64) (La rfl (Scl st hF rfl (onum_ok _ ((e.tags.length : Int) % 18446744073709551616) (by omega)) fun w11 st hF => ?_)))))))
      have hlnu5 := show ((numB ((e.tags.length : Int) % 18446744073709551616))).length ≤ 9 from numB_len _
      refine Ly rfl (y_cat rfl rfl rfl (by first | omega | (simp; done) | (simp; omega))) ?_
      refine Ls' rfl (Ln k12 (sq fun _ k13 => rg (Ly rfl (yf rfl Ty.fo_59_5) (Ly rfl (yl 0 Ty.pl_30 st rfl) (Ly rfl (yll rfl Tryz.underlying30) (Lm rfl (Ln k13 (Wp_block (lp (fun q E W => ∃ (s5 : List UInt8) (s52 : Int), E = [(5, sv s5), (50, .slice A1 e.tags.length C1), (51, .int .i64 (e.tags.length : Int)), (52, .int .i64 s52)] ∧ jq q (fun m => (owrite_L1 e m s5 s52 = owrite_L1 e (((e.tags.length : Int) - (0 : Int)).toNat + 1) ((((((numB (e.act % 18446744073709551616)) ++ (otext_m e.name)) ++ (osigned_m e.val)) ++ (iwriteTag_m e.tag)) ++ (lwrite_m e.atF)) ++ (numB ((e.tags.length : Int) % 18446744073709551616))) (0 : Int) ∧ ((e.tags.length : Int) - s52).toNat < m)) (owrite_L1 e (((e.tags.length : Int) - (0 : Int)).toNat + 1) ((((((numB (e.act % 18446744073709551616)) ++ (otext_m e.name)) ++ (osigned_m e.val)) ++ (iwriteTag_m e.tag)) ++ (lwrite_m e.atF)) ++ (numB ((e.tags.length : Int) % 18446744073709551616))) (0 : Int) = .inr (s5, s52)) ∧ (0 ≤ s52 ∧ 0 ≤ s52 ∧ (s5.length : Int) ≤ 2000000 + 27 * s52) ∧ St X W [(some g1, Cl [.int .i64 e.act, sv e.name, .int .i64 e.val, .int .i64 e.tag.id.origin, .int .u32 e.tag.id.seq, .int .i64 e.tag.n, .int .u32 e.atF.time, .int .i64 e.atF.origin, .slice A1 e.tags.length C1] 59), (some g2, Cl [.bool ((oform_m e.act).name), .bool ((oform_m e.act).val), .bool ((oform_m e.act).atF), .bool ((oform_m e.act).tags)] 104)] [kS A1 e.tags.length C1 3 (e.tags.flatMap tagMC)] ∧ Fr ([]) w W) (((e.tags.length : Int) - (0 : Int)).toNat + 1) [(5, _), (50, _), (51, _), (52, _)] ⟨rfl, rfl, rfl, rfl, trivial⟩ ⟨_, _, rfl, ⟨rfl, Nat.lt_succ_self _⟩, by first | omega | (simp; done) | (simp; omega), st, hF⟩ k10 ?_ fun hout1 => ?_)))))))))
      · rintro E w12 ⟨s5, s52, rfl, hLk1, hinv, st, hF⟩
        unfold jq at hLk1; dsimp only at hLk1
        refine sq fun _ k14 => rg (Lm rfl (Ls' rfl (Ls' rfl (Ln k14 (wR (fR (Res2 rfl rfl rfl) ?_))))))
        unfold owrite_m; rewrite [iP hc1, iP hc2, iP hc3, hLk1]; (try dsimp only)
        exact ⟨rfl, hF⟩
      rintro m E w13 ⟨s5, s52, rfl, ⟨hL1, hmu⟩, hinv, st, hF⟩
      obtain ⟨fuel, rfl⟩ : ∃ q, m = q + 1 := ⟨m - 1, by omega⟩
      refine sq fun _ k15 => rg (Ly rfl (ylt rfl) (Ln k15 (sq fun _ k16 => cD rfl (fun hc4 => ?_) (fun hc4 => ?_))))
      · refine sk k16 (sq fun _ k17 => Wp_block (sq fun _ k18 => rg ?_))
        obtain ⟨gi1, bi1, egi1⟩ := (st.k (i := 0) rfl).addr (fun _ => rfl) (by decide) (q := s52) (by first | omega | (simp; done) | (simp; omega)) (by first | omega | (simp; done) | (simp; omega))
        subst egi1
        refine Ly rfl (y_ixa (q := s52) rfl rfl rfl Ty.es_30 (by first | omega | (simp; done) | (simp; omega)) (by first | omega | (simp; done) | (simp; omega))) ?_
        refine Ly rfl (y_ldk (q := s52) rfl rfl Ty.ag_43 (fun _ e => e ▸ st.k (i := 0) rfl) (fun _ => rfl) (by first | omega | (simp; done) | (simp; omega)) (by first | omega | (simp; done) | (simp; omega))) ?_
        refine La rfl (Sal Ty.zc_43 st hF rfl fun g3 w14 (st : St _ _ [_, _, _] _) hF hg3 => La rfl (Ssw 2 Ty.sz_43 st hF (.inr hg3) rfl fun w15 (st : St _ _ [_, _, _] _) hF => Ln k18 (rg (Lm rfl (Ly rfl (yw 2 Ty.ag_43 st rfl) (La rfl (Scl st hF rfl (iwriteTag_ok _ (ix e.tags s52)) fun w16 st hF => ?_)))))))
        have hlnu6 := show ((iwriteTag_m (ix e.tags s52))).length ≤ 27 from iwriteTag_len _
        refine Ly rfl (y_cat rfl rfl rfl (by first | omega | (simp; done) | (simp; omega))) ?_
        refine Ls' rfl (Ls_nil (Ib_n (Th_n (k17 _ _ (rg (Ly rfl (y_add (c := s52 + 1) rfl rfl rfl (wf_i64 (by first | omega | (simp; done) | (simp; omega)))) ?_))))))
        refine Lm rfl (Ls_nil (Th_n (?_)))
        exact ⟨fuel, [(5, _), (50, _), (51, _), (52, _)], Nat.lt_succ_self _, ⟨rfl, rfl, rfl, rfl, trivial⟩, (s5 ++ (iwriteTag_m (ix e.tags s52))), (s52 + 1), rfl, ⟨by rewrite [← hL1, owrite_L1]; rewrite [iP hc4]; rfl, by first | omega | (simp; done) | (simp; omega)⟩, by first | omega | (simp; done) | (simp; omega), (st.pk [0, 1] (by decide)).pickK [0], hF⟩
      refine Wp_exit (Th_e (Th_e (Ib_hit (Th_n (?_)))))
      exact hout1 _ [(5, _), (50, _), (51, _), (52, _)] _ ⟨rfl, rfl, rfl, rfl, trivial⟩ ⟨s5, s52, rfl, show _ = _ from by rewrite [← hL1, owrite_L1]; rewrite [iN hc4]; rfl, by first | omega | (simp; done) | (simp; omega), (st.pk [0, 1] (by decide)).pickK [0], hF⟩
    refine sk k10 (sq fun _ k19 => rg (Lm rfl (Ls' rfl (Ls' rfl (Ln k19 (wR (fR (Res2 rfl rfl rfl) ?_)))))))
    unfold owrite_m; rewrite [iP hc1, iP hc2, iN hc3]
    exact ⟨rfl, hF⟩
  refine sk k8 (sq fun _ k20 => sq fun _ k21 => rg (Ly rfl (yf rfl Ty.fo_104_3) (Ly rfl (yl 1 Ty.pl_4 st rfl) (Ln k21 (cB rfl (fun hc5 => ?_) (fun hc5 => ?_))))))
  · refine sq fun _ k22 => rg (Lm rfl (Ly rfl (yf rfl Ty.fo_59_5) (Ly rfl (yl 0 Ty.pl_30 st rfl) (Ly rfl (yll rfl Tryz.underlying30) (Ly rfl (y_cvi (c := (e.tags.length : Int) % 18446744073709551616) rfl rfl Tryz.underlying3 Tryz.underlying99 wm_u64) (La rfl (Scl st hF rfl (onum_ok _ ((e.tags.length : Int) % 18446744073709551616) (by omega)) fun w17 st hF => ?_)))))))
    have hlnu7 := show ((numB ((e.tags.length : Int) % 18446744073709551616))).length ≤ 9 from numB_len _
    refine Ly rfl (y_cat rfl rfl rfl (by first | omega | (simp; done) | (simp; omega))) ?_
    refine Ls' rfl (Ln k22 (sq fun _ k23 => rg (Ly rfl (yf rfl Ty.fo_59_5) (Ly rfl (yl 0 Ty.pl_30 st rfl) (Ly rfl (yll rfl Tryz.underlying30) (Lm rfl (Ln k23 (Wp_block (lp (fun q E W => ∃ (s5 : List UInt8) (s52 : Int), E = [(5, sv s5), (50, .slice A1 e.tags.length C1), (51, .int .i64 (e.tags.length : Int)), (52, .int .i64 s52)] ∧ jq q (fun m => (owrite_L2 e m s5 s52 = owrite_L2 e (((e.tags.length : Int) - (0 : Int)).toNat + 1) (((((numB (e.act % 18446744073709551616)) ++ (otext_m e.name)) ++ (osigned_m e.val)) ++ (iwriteTag_m e.tag)) ++ (numB ((e.tags.length : Int) % 18446744073709551616))) (0 : Int) ∧ ((e.tags.length : Int) - s52).toNat < m)) (owrite_L2 e (((e.tags.length : Int) - (0 : Int)).toNat + 1) (((((numB (e.act % 18446744073709551616)) ++ (otext_m e.name)) ++ (osigned_m e.val)) ++ (iwriteTag_m e.tag)) ++ (numB ((e.tags.length : Int) % 18446744073709551616))) (0 : Int) = .inr (s5, s52)) ∧ (0 ≤ s52 ∧ 0 ≤ s52 ∧ (s5.length : Int) ≤ 2000000 + 27 * s52) ∧ St X W [(some g1, Cl [.int .i64 e.act, sv e.name, .int .i64 e.val, .int .i64 e.tag.id.origin, .int .u32 e.tag.id.seq, .int .i64 e.tag.n, .int .u32 e.atF.time, .int .i64 e.atF.origin, .slice A1 e.tags.length C1] 59), (some g2, Cl [.bool ((oform_m e.act).name), .bool ((oform_m e.act).val), .bool ((oform_m e.act).atF), .bool ((oform_m e.act).tags)] 104)] [kS A1 e.tags.length C1 3 (e.tags.flatMap tagMC)] ∧ Fr ([]) w W) (((e.tags.length : Int) - (0 : Int)).toNat + 1) [(5, _), (50, _), (51, _), (52, _)] ⟨rfl, rfl, rfl, rfl, trivial⟩ ⟨_, _, rfl, ⟨rfl, Nat.lt_succ_self _⟩, by first | omega | (simp; done) | (simp; omega), st, hF⟩ k20 ?_ fun hout2 => ?_)))))))))
    · rintro E w18 ⟨s5, s52, rfl, hLk2, hinv, st, hF⟩
      unfold jq at hLk2; dsimp only at hLk2
      refine sq fun _ k24 => rg (Lm rfl (Ls' rfl (Ls' rfl (Ln k24 (wR (fR (Res2 rfl rfl rfl) ?_))))))
      unfold owrite_m; rewrite [iP hc1, iN hc2, iP hc5, hLk2]; (try dsimp only)
      exact ⟨rfl, hF⟩
    rintro m E w19 ⟨s5, s52, rfl, ⟨hL2, hmu⟩, hinv, st, hF⟩
    obtain ⟨fuel, rfl⟩ : ∃ q, m = q + 1 := ⟨m - 1, by omega⟩
    refine sq fun _ k25 => rg (Ly rfl (ylt rfl) (Ln k25 (sq fun _ k26 => cD rfl (fun hc6 => ?_) (fun hc6 => ?_))))
    · refine sk k26 (sq fun _ k27 => Wp_block (sq fun _ k28 => rg ?_))
      obtain ⟨gi2, bi2, egi2⟩ := (st.k (i := 0) rfl).addr (fun _ => rfl) (by decide) (q := s52) (by first | omega | (simp; done) | (simp; omega)) (by first | omega | (simp; done) | (simp; omega))
      subst egi2
      refine Ly rfl (y_ixa (q := s52) rfl rfl rfl Ty.es_30 (by first | omega | (simp; done) | (simp; omega)) (by first | omega | (simp; done) | (simp; omega))) ?_
      refine Ly rfl (y_ldk (q := s52) rfl rfl Ty.ag_43 (fun _ e => e ▸ st.k (i := 0) rfl) (fun _ => rfl) (by first | omega | (simp; done) | (simp; omega)) (by first | omega | (simp; done) | (simp; omega))) ?_
      refine La rfl (Sal Ty.zc_43 st hF rfl fun g4 w20 (st : St _ _ [_, _, _] _) hF hg4 => La rfl (Ssw 2 Ty.sz_43 st hF (.inr hg4) rfl fun w21 (st : St _ _ [_, _, _] _) hF => Ln k28 (rg (Lm rfl (Ly rfl (yw 2 Ty.ag_43 st rfl) (La rfl (Scl st hF rfl (iwriteTag_ok _ (ix e.tags s52)) fun w22 st hF => ?_)))))))
      have hlnu8 := show ((iwriteTag_m (ix e.tags s52))).length ≤ 27 from iwriteTag_len _
      refine Ly rfl (y_cat rfl rfl rfl (by first | omega | (simp; done) | (simp; omega))) ?_
      refine Ls' rfl (Ls_nil (Ib_n (Th_n (k27 _ _ (rg (Ly rfl (y_add (c := s52 + 1) rfl rfl rfl (wf_i64 (by first | omega | (simp; done) | (simp; omega)))) ?_))))))
      refine Lm rfl (Ls_nil (Th_n (?_)))
      exact ⟨fuel, [(5, _), (50, _), (51, _), (52, _)], Nat.lt_succ_self _, ⟨rfl, rfl, rfl, rfl, trivial⟩, (s5 ++ (iwriteTag_m (ix e.tags s52))), (s52 + 1), rfl, ⟨by rewrite [← hL2, owrite_L2]; rewrite [iP hc6]; rfl, by first | omega | (simp; done) | (simp; omega)⟩, by first | omega | (simp; done) | (simp; omega), (st.pk [0, 1] (by decide)).pickK [0], hF⟩
    refine Wp_exit (Th_e (Th_e (Ib_hit (Th_n (?_)))))
    exact hout2 _ [(5, _), (50, _), (51, _), (52, _)] _ ⟨rfl, rfl, rfl, rfl, trivial⟩ ⟨s5, s52, rfl, show _ = _ from by rewrite [← hL2, owrite_L2]; rewrite [iN hc6]; rfl, by first | omega | (simp; done) | (simp; omega), (st.pk [0, 1] (by decide)).pickK [0], hF⟩
  refine sk k20 (sq fun _ k29 => rg (Lm rfl (Ls' rfl (Ls' rfl (Ln k29 (wR (fR (Res2 rfl rfl rfl) ?_)))))))
  unfold owrite_m; rewrite [iP hc1, iN hc2, iN hc5]
  exact ⟨rfl, hF⟩
end Go.Proofs.YtdckemiebnfjcaaGreatDoor
end

section
set_option linter.unusedSimpArgs false
set_option linter.unusedVariables false
set_option maxRecDepth 20000
namespace Go.Proofs.YtdckemiebnfjcaaGreatDoor
open Go.RowKit
def number_c1 (s : List UInt8) : Bool :=
  (if 1 < (1 + ((ix s 0).toNat : Int)) then ((ix s 1).toNat : Int) == 0 else false)
def number_L1 (s : List UInt8) : Nat → Int → Int → (Int × Int × Int) ⊕ (Int × Int)
  | 0, s2, s5 => .inr (s2, s5)
  | fuel + 1, s2, s5 =>
    if s5 < (1 + ((ix s 0).toNat : Int)) then
      number_L1 s fuel (bits .or .u64 (s2 * 256 % 18446744073709551616) ((ix s s5).toNat : Int)) (s5 + 1)
    else
      .inr (s2, s5)
def number_m (s : List UInt8) : Int × Int × Int :=
  if s = [] then
    (0, 0, 1)
  else
    if 9 < (1 + ((ix s 0).toNat : Int)) then
      (0, 0, 3)
    else
      if (s.length : Int) < (1 + ((ix s 0).toNat : Int)) then
        (0, 0, 1)
      else
        if (number_c1 s) = true then
          (0, 0, 3)
        else
          match number_L1 s ((1 + ((ix s 0).toNat : Int) - (1 : Int)).toNat + 1) (0 : Int) (1 : Int) with
          | .inl r => r
          | .inr (s2, s5) =>
            (s2, 1 + ((ix s 0).toNat : Int), 0)
theorem number_c1_iff (s : List UInt8) : (number_c1 s = true) ↔ ((1 < (1 + ((ix s 0).toNat : Int))) ∧ (((ix s 1).toNat : Int) = 0)) := by
  unfold number_c1; exact (ci2 beq_iff_eq)
theorem number_ok (w : World) (s : List UInt8) (h1 : s.length ≤ 1000000) :
    Fn Tryz.prog 121 [sv s] w fun v w' => v = .tuple #[.int .u64 ((number_m s).1), .int .i64 ((number_m s).2.1), .int .i64 ((number_m s).2.2)] ∧ Fr [] w w' := by
  refine Fn_of 42 Ty.en_121 Tryz.func121 rfl rfl rfl ?_
  dsimp only [argEnv]
  have st := stn0 (X := []) (w := w) (by simp [Lo])
  have hF := Fr.refl ([]) w
  refine sq fun _ k1 => rg (Ls' rfl (Ls' rfl (Ls' rfl (Ln k1 (sq fun _ k2 => sq fun _ k3 => rg (Lm rfl (Ly rfl (y_eqs rfl rfl rfl) (Ln k3 (cE rfl (fun hc1 => ?_) (fun hc1 => ?_))))))))))
  · refine sq fun _ k4 => rg (Ls' rfl (Ls' rfl (Ls' rfl (Ln k4 (wR (Th_r (fR (Res3 rfl rfl rfl rfl) ?_)))))))
    unfold number_m; rewrite [iP hc1]
    exact ⟨rfl, hF⟩
  have khc1 := List.length_pos_iff.2 hc1
  refine sk k2 (sq fun _ k5 => rg (Lm rfl (Ly rfl (y_ixs2 (q := 0) rfl rfl rfl Tryz.underlying9 (by first | omega | (simp; done) | (simp; omega)) (by first | omega | (simp; done) | (simp; omega))) ?_)))
  have hby1 := UInt8.toNat_lt (ix s 0)
  refine Ly rfl (y_cvi (c := ((ix s 0).toNat : Int)) rfl rfl Tryz.underlying5 Tryz.underlying3 (wf_i64 (by omega))) ?_
  refine Ly rfl (y_add (c := 1 + ((ix s 0).toNat : Int)) rfl rfl rfl (wf_i64 (by first | omega | (simp; done) | (simp; omega)))) ?_
  refine Ls' rfl (Ln k5 (sq fun _ k6 => Wp_block (sq fun _ k7 => rg (Lm rfl (Ly rfl (ygt rfl) (Ls' rfl (Ln k7 (cD rfl (fun hc2 => ?_) (fun hc2 => ?_)))))))))
  · refine sq fun _ k8 => rg (Ls' rfl (Ls' rfl (Ls' rfl (Ln k8 (wR (Ib_r (Th_r (fR (Res3 rfl rfl rfl rfl) ?_))))))))
    unfold number_m; rewrite [iN hc1, iP hc2]
    exact ⟨rfl, hF⟩
  refine sq fun _ k9 => rg (Lm rfl (Lm rfl (Ly rfl (y_lens rfl rfl Tryz.underlying9) (Ly rfl (ygt rfl) (Ls' rfl (Ln k9 (cD rfl (fun hc3 => ?_) (fun hc3 => ?_))))))))
  · refine sq fun _ k10 => rg (Ls' rfl (Ls' rfl (Ls' rfl (Ln k10 (wR (Ib_r (Th_r (fR (Res3 rfl rfl rfl rfl) ?_))))))))
    unfold number_m; rewrite [iN hc1, iN hc2, iP hc3]
    exact ⟨rfl, hF⟩
  refine sq fun _ k11 => ?_
  refine use_out k11 (fun E W => E = [(0, sv s), (2, .int .u64 0), (3, .int .i64 (1 + ((ix s 0).toNat : Int))), (20, .bool (number_c1 s))] ∧ St [] W (hOf st) (kOf st) ∧ Fr ([]) w W) ?_ fun hout1 => ?_
  · rintro E w1 ⟨rfl, st, hF⟩
    have st : St [] w1 [] [] := st
    refine cB rfl (fun hc4 => ?_) (fun hc4 => ?_)
    · have jhc4 := (number_c1_iff s).1 hc4
      refine sq fun _ k12 => rg (Ls' rfl (Ls' rfl (Ls' rfl (Ln k12 (wR (Ib_r (Th_r (fR (Res3 rfl rfl rfl rfl) ?_))))))))
      unfold number_m; rewrite [iN hc1, iN hc2, iN hc3, iP hc4]
      exact ⟨rfl, hF⟩
    have jhc4 := mt (number_c1_iff s).2 hc4
    refine Wp_skip (Ib_n (Th_n (k6 _ _ (sq fun _ k13 => sq fun _ k14 => rg (Ls' rfl (Ln k14 (Wp_block (lp (fun q E W => ∃ (s2 : Int) (s5 : Int), E = [(0, sv s), (2, .int .u64 s2), (3, .int .i64 (1 + ((ix s 0).toNat : Int))), (5, .int .i64 s5)] ∧ jq q (fun m => (number_L1 s m s2 s5 = number_L1 s ((1 + ((ix s 0).toNat : Int) - (1 : Int)).toNat + 1) (0 : Int) (1 : Int) ∧ (1 + ((ix s 0).toNat : Int) - s5).toNat < m)) (number_L1 s ((1 + ((ix s 0).toNat : Int) - (1 : Int)).toNat + 1) (0 : Int) (1 : Int) = .inr (s2, s5)) ∧ (1 ≤ s5) ∧ St [] W [] [] ∧ Fr ([]) w W) ((1 + ((ix s 0).toNat : Int) - (1 : Int)).toNat + 1) [(0, _), (2, _), (3, _), (5, _)] ⟨rfl, rfl, rfl, rfl, trivial⟩ ⟨_, _, rfl, ⟨rfl, Nat.lt_succ_self _⟩, by first | omega | (simp; done) | (simp; omega), st, hF⟩ k13 ?_ fun hout2 => ?_))))))))
    · rintro E w2 ⟨s2, s5, rfl, hLk1, hinv, st, hF⟩
      unfold jq at hLk1; dsimp only at hLk1
      refine sq fun _ k15 => rg (Lm rfl (Lm rfl (Ls' rfl (Ls' rfl (Ls' rfl (Ln k15 (wR (fR (Res3 rfl rfl rfl rfl) ?_))))))))
      unfold number_m; rewrite [iN hc1, iN hc2, iN hc3, iN hc4, hLk1]; (try dsimp only)
      exact ⟨rfl, hF⟩
    rintro m E w3 ⟨s2, s5, rfl, ⟨hL1, hmu⟩, hinv, st, hF⟩
    obtain ⟨fuel, rfl⟩ : ∃ q, m = q + 1 := ⟨m - 1, by omega⟩
    refine sq fun _ k16 => sq fun _ k17 => rg (Lm rfl (Lm rfl (Ly rfl (ylt rfl) (Ln k17 (cD rfl (fun hc5 => ?_) (fun hc5 => ?_))))))
    · refine sk k16 (sq fun _ k18 => Wp_block (rg (Lm rfl (Ly rfl (y_shlC (c := s2 * 256 % 18446744073709551616) 8 256 rfl rfl rfl (by decide) rfl rfl wm_u64) ?_))))
      refine Lm rfl (Lm rfl (Ly rfl (y_ixs2 (q := s5) rfl rfl rfl Tryz.underlying9 (by first | omega | (simp; done) | (simp; omega)) (by first | omega | (simp; done) | (simp; omega))) ?_))
      have hby2 := UInt8.toNat_lt (ix s s5)
      refine Ly rfl (y_cvi (c := ((ix s s5).toNat : Int)) rfl rfl Tryz.underlying5 Tryz.underlying99 (wf_u64 (by omega))) ?_
      refine Ly rfl (y_bits rfl rfl rfl (by simp) rfl) ?_
      refine Ls' rfl (Ls_nil (Ib_n (Th_n (k18 _ _ (rg (Lm rfl (Ly rfl (y_add (c := s5 + 1) rfl rfl rfl (wf_i64 (by first | omega | (simp; done) | (simp; omega)))) ?_)))))))
      refine Ls' rfl (Ls_nil (Th_n (?_)))
      exact ⟨fuel, [(0, _), (2, _), (3, _), (5, _)], Nat.lt_succ_self _, ⟨rfl, rfl, rfl, rfl, trivial⟩, (bits .or .u64 (s2 * 256 % 18446744073709551616) ((ix s s5).toNat : Int)), (s5 + 1), rfl, ⟨by rewrite [← hL1, number_L1]; rewrite [iP hc5]; rfl, by first | omega | (simp; done) | (simp; omega)⟩, by first | omega | (simp; done) | (simp; omega), (st.pk [] (by decide)).pickK [], hF⟩
    refine Wp_exit (Th_e (Th_e (Ib_hit (Th_n (?_)))))
    exact hout2 _ [(0, _), (2, _), (3, _), (5, _)] _ ⟨rfl, rfl, rfl, rfl, trivial⟩ ⟨s2, s5, rfl, show _ = _ from by rewrite [← hL1, number_L1]; rewrite [iN hc5]; rfl, by first | omega | (simp; done) | (simp; omega), (st.pk [] (by decide)).pickK [], hF⟩
  refine rg (Lm rfl (Ly rfl (ygt rfl) (Lm rfl (bD (s := 23) rfl (fun hc6 => ?_) (fun hc6 => ?_)))))
  · refine LyT rfl (y_move rfl rfl) (LyT rfl (y_ixs2 (q := 1) rfl rfl rfl Tryz.underlying9 (by first | omega | (simp; done) | (simp; omega)) (by first | omega | (simp; done) | (simp; omega))) ?_)
    refine LyT rfl (yeq rfl) (Ly rfl (yT rfl) (Ls' rfl (Ls_nil (Th_n (?_)))))
    exact hout1 _ [(0, _), (2, _), (3, _), (20, _)] _ ⟨rfl, rfl, rfl, rfl, trivial⟩ ⟨by unfold number_c1; rewrite [iP hc6]; rfl, (st.pk [] (by decide)).pickK [], hF⟩
  refine LsF rfl (LsF rfl (LsF rfl (Ly rfl (yF rfl) (Ls' rfl (Ls_nil (Th_n (?_)))))))
  exact hout1 _ [(0, _), (2, _), (3, _), (20, _)] _ ⟨rfl, rfl, rfl, rfl, trivial⟩ ⟨by unfold number_c1; rewrite [iN hc6]; rfl, (st.pk [] (by decide)).pickK [], hF⟩
def every_m (u : Int) : Int :=
  0
theorem every_ok (w : World) (u : Int) :
    Fn Tryz.prog 122 [.int .u64 u] w fun v w' => v = .int .i64 (every_m u) ∧ Fr [] w w' := by
  refine Fn_of 3 Ty.en_122 Tryz.func122 rfl rfl rfl ?_
  dsimp only [argEnv]
  have st := stn0 (X := []) (w := w) (by simp [Lo])
  have hF := Fr.refl ([]) w
  refine sq fun _ k1 => rg (Ls' rfl (Ln k1 (sq fun _ k2 => rg (Ls' rfl (Ln k2 (wR (fR (Res1 rfl rfl) ?_)))))))
  unfold every_m
  exact ⟨rfl, hF⟩
def oright_c1 (m : Int) (u : Int) : Bool :=
  (if m < 0 then true else decide ((m % 18446744073709551616) < u))
def oright_m (m : Int) (u : Int) : Int :=
  if (oright_c1 m u) = true then
    2
  else
    0
theorem oright_c1_iff (m : Int) (u : Int) : (oright_c1 m u = true) ↔ ((m < 0) ∨ ((m % 18446744073709551616) < u)) := by
  unfold oright_c1; exact (ci1 decide_eq_true_iff)
theorem oright_ok (w : World) (m : Int) (u : Int) :
    Fn Tryz.prog 71 [.int .i64 m, .int .u64 u] w fun v w' => v = .int .i64 (oright_m m u) ∧ Fr [] w w' := by
  refine Fn_of 13 Ty.en_71 Tryz.func71 rfl rfl rfl ?_
  dsimp only [argEnv]
  have st := stn0 (X := []) (w := w) (by simp [Lo])
  have hF := Fr.refl ([]) w
  refine sq fun _ k1 => rg (Ls' rfl (Ln k1 (sq fun _ k2 => sq fun _ k3 => ?_)))
  refine use_out k3 (fun E W => E = [(12, .bool (oright_c1 m u))] ∧ St [] W (hOf st) (kOf st) ∧ Fr ([]) w W) ?_ fun hout1 => ?_
  · rintro E w1 ⟨rfl, st, hF⟩
    have st : St [] w1 [] [] := st
    refine cB rfl (fun hc1 => ?_) (fun hc1 => ?_)
    · have jhc1 := (oright_c1_iff m u).1 hc1
      refine sq fun _ k4 => rg (Ls' rfl (Ln k4 (wR (Th_r (fR (Res1 rfl rfl) ?_)))))
      unfold oright_m; rewrite [iP hc1]
      exact ⟨rfl, hF⟩
    have jhc1 := mt (oright_c1_iff m u).2 hc1
    refine sk k2 (sq fun _ k5 => rg (Ls' rfl (Ln k5 (wR (fR (Res1 rfl rfl) ?_)))))
    unfold oright_m; rewrite [iN hc1]
    exact ⟨rfl, hF⟩
  refine rg (Lm rfl (Ly rfl (ylt rfl) (Lm rfl (bD (s := 7) rfl (fun hc2 => ?_) (fun hc2 => ?_)))))
  · refine LsF rfl (LsF rfl (LsF rfl (LsF rfl (Ly rfl (yT rfl) (Ls_nil (Th_n (?_)))))))
    exact hout1 _ [(12, _)] _ ⟨rfl, trivial⟩ ⟨by unfold oright_c1; rewrite [iP hc2]; rfl, (st.pk [] (by decide)).pickK [], hF⟩
  refine LyT rfl (y_move rfl rfl) (LyT rfl (y_move rfl rfl) (LyT rfl (y_cvi (c := m % 18446744073709551616) rfl rfl Tryz.underlying158 Tryz.underlying99 wm_u64) (LyT rfl (ygt rfl) (Ly rfl (yF rfl) (Ls_nil (Th_n (?_)))))))
  exact hout1 _ [(12, _)] _ ⟨rfl, trivial⟩ ⟨by unfold oright_c1; rewrite [iN hc2]; rfl, (st.pk [] (by decide)).pickK [], hF⟩
end Go.Proofs.YtdckemiebnfjcaaGreatDoor
end

section
set_option linter.unusedVariables false
set_option linter.unusedSimpArgs false
namespace Go.Proofs.YtdckemiebnfjcaaGreatDoor
open Go.RowKit
def errV (t : Nat) : Option Nat → Value
  | none => .nilIface
  | some q => .iface t (.pointer (some ⟨q, 0, none⟩))
theorem run_eq_nilii {P : Program} {t : Nat} {ms : Array (String × TypeId)} (ht : P.underlying t = some (.interface ms)) (d : Nat) (w : World) : (Op.equalIn (d + 1) t .nilIface .nilIface).run P w = .ok true w := by
  simp [Op.equalIn, run_underlying ht]
theorem run_eq_ifni {P : Program} {t u : Nat} {v : Value} {ms : Array (String × TypeId)} (ht : P.underlying t = some (.interface ms)) (d : Nat) (w : World) : (Op.equalIn (d + 1) t (.iface u v) .nilIface).run P w = .ok false w := by
  simp [Op.equalIn, run_underlying ht]
section
variable [Dfs] {P : Program} {n : Nat} {env : Env} {S : World → Prop} {o : Oper}
theorem y_mki {t : Nat} {x : Operand} {v : Value} (ho : o.op = .makeInterface t x) (hx : env.ev x = some v) (ht : P.concrete t = true) : Yld P n env S o (.iface t v) := fun a r w _ => by
  have h := run_makeInterface (P := P) w t v ht
  unfold execOp
  simp only [ho, r.eval hx, Sem.run_bind, h, Result.andThen_ok]
  rfl
theorem y_eqNil {x : Operand} {t u : Nat} {ms : Array (String × TypeId)} {b : Bool} {v : Value} (ho : o.op = .binOp .eql t x (.const .nilIface) u) (hx : env.ev x = some v) (ht : P.underlying t = some (.interface ms)) (hv : ∀ d w, (Op.equalIn (d + 1) t v .nilIface).run P w = .ok b w) (hv0 : ∀ w y, (eqGuard .eql t y (.const .nilIface) v .nilIface).run P w = .ok () w) : Yld P n env S o (.bool b) := fun a r w _ => by
  have h := hv 9999 w
  have hg := hv0 w x
  unfold execOp
  have ey : a.eval (.const .nilIface) = .nilIface := rfl
  simp only [ho, r.eval hx, ey, Sem.run_bind, hg, Result.andThen_ok, binOp]
  simp only [Op.equal, Op.maxDepth, h, Result.andThen_ok]
  rfl
theorem y_neNil {x : Operand} {t u : Nat} {ms : Array (String × TypeId)} {b : Bool} {v : Value} (ho : o.op = .binOp .neq t x (.const .nilIface) u) (hx : env.ev x = some v) (ht : P.underlying t = some (.interface ms)) (hv : ∀ d w, (Op.equalIn (d + 1) t v .nilIface).run P w = .ok b w) (hv0 : ∀ w y, (eqGuard .neq t y (.const .nilIface) v .nilIface).run P w = .ok () w) : Yld P n env S o (.bool (!b)) := fun a r w _ => by
  have h := hv 9999 w
  have hg := hv0 w x
  unfold execOp
  have ey : a.eval (.const .nilIface) = .nilIface := rfl
  simp only [ho, r.eval hx, ey, Sem.run_bind, hg, Result.andThen_ok, binOp]
  simp only [Op.equal, Op.maxDepth, h, Result.andThen_ok]
  rfl
theorem y_eqE {x : Operand} {t u ty : Nat} {ms : Array (String × TypeId)} {q : Option Nat} {e : Int} (ho : o.op = .binOp .eql t x (.const .nilIface) u) (hx : env.ev x = some (errV ty q)) (ht : P.underlying t = some (.interface ms)) (hq : q = none ↔ e = 0) : Yld P n env S o (.bool (e == 0)) := by
  cases q with
  | none =>
    have h0 : e = 0 := hq.1 rfl
    subst h0
    exact y_eqNil (b := true) ho hx ht (fun d w => run_eq_nilii ht d w) (fun w y => by cases y <;> rfl)
  | some q =>
    have h0 : (e == 0) = false := by simpa using fun h => by have := hq.2 h; cases this
    rw [h0]
    exact y_eqNil (b := false) ho hx ht (fun d w => run_eq_ifni ht d w) (fun w y => by cases y <;> rfl)
theorem y_neE {x : Operand} {t u ty : Nat} {ms : Array (String × TypeId)} {q : Option Nat} {e : Int} (ho : o.op = .binOp .neq t x (.const .nilIface) u) (hx : env.ev x = some (errV ty q)) (ht : P.underlying t = some (.interface ms)) (hq : q = none ↔ e = 0) : Yld P n env S o (.bool (e != 0)) := by
  cases q with
  | none =>
    have h0 : e = 0 := hq.1 rfl
    subst h0
    exact y_neNil (b := true) ho hx ht (fun d w => run_eq_nilii ht d w) (fun w y => by cases y <;> rfl)
  | some q =>
    have h0 : (e != 0) = true := by simpa using fun h => by have := hq.2 h; cases this
    rw [h0]
    exact y_neNil (b := false) ho hx ht (fun d w => run_eq_ifni ht d w) (fun w y => by cases y <;> rfl)
end
end Go.Proofs.YtdckemiebnfjcaaGreatDoor
end

section
set_option linter.unusedSimpArgs false
set_option linter.unusedVariables false
set_option maxRecDepth 20000
namespace Go.Proofs.YtdckemiebnfjcaaGreatDoor
open Go.RowKit
def rdC (q : Option Nat) (t : RdM) : List Value := [sv t.s, .int .i64 t.a, errV 161 q]
def ftC (t : RdM) : List Value := [.int .i64 t.f.atF, .iface 60 (.int .i64 t.f.e)]
def rdH (g : Nat) (q : Option Nat) (t : RdM) : Heap := [(some g, Cl (rdC q t) 110), (q, Cl (ftC t) 163)]
def Eok (q : Option Nat) (t : RdM) : Prop := Rok t ∧ (q = none ↔ t.f.e = 0)
def RdTo (g : Nat) (q : Option Nat) (t t' : RdM) (w w' : World) : Prop := ∃ q', Eok q' t' ∧ Mod w w' (rdH g q t) (rdH g q' t')
theorem RdTo.same {g : Nat} {q : Option Nat} {t : RdM} {w : World} (hk : Eok q t) (hp : Hp w (rdH g q t)) : RdTo g q t t w w := ⟨q, hk, Fr.refl _ _, hp, fun k hk => .inl hk⟩
theorem RdTo.drew {g : Nat} {q : Option Nat} {t t' : RdM} {w w' : World} (h : RdTo g q t t' w w') : RdTo g q t t' w w'.drew := by
  obtain ⟨q', hk, m⟩ := h
  exact ⟨q', hk, m.fr.step0 (Fr.drew _), m.hp.drew, m.nw⟩
theorem RdTo.at_ {g : Nat} {q : Option Nat} {t : RdM} {a : Int} {w w' : World} (hk : Eok q t) (hr : Rok ⟨t.s, a, t.f⟩) (hp : Hp w (rdH g q t)) (hp' : Hp w' [(some g, Cl (rdC q ⟨t.s, a, t.f⟩) 110)]) (hf : Fr [g] w w') : RdTo g q t ⟨t.s, a, t.f⟩ w w' := by
  refine ⟨q, ⟨hr, hk.2⟩, hf.mono (by simp [keys, rdH]), ?_, fun k hk => .inl hk⟩
  cases q with
  | none => exact hp'.addNone _
  | some q =>
    have h := hp.call [1] [0] (by decide) rfl (⟨hf, hp', fun k hk => .inl hk⟩ : Mod w w' [(some g, Cl (rdC (some q) t) 110)] _)
    exact h.pk [1, 0] (by decide)
theorem ofail_err (g : Nat) (t : RdM) (w : World) (q : Nat) (e : Int) (hp : Hp w [(some g, Cl (rdC (some q) t) 110)])  :
    Fn Tryz.prog 45 [.pointer (some ⟨g, 0, none⟩), .int .i64 e] w fun v w' => v = .tuple #[] ∧ w' = w := by
  refine Fn_of 25 Ty.en_45 Tryz.func45 rfl rfl rfl ?_
  dsimp only [argEnv]
  have hp : Hp w [(_, Cl [_, _, _] _)] := hp
  have hF := Fr.refl [] w
  refine Wp_seq fun K1 hK1 => ?_
  refine Wp_region ?_
  refine Ls_y (wtd0 rfl) rfl rfl (y_move rfl rfl) ?_
  refine Ls_y (wtd0 rfl) rfl rfl (y_nil rfl rfl) ?_
  refine Ls_y (wtd0 rfl) rfl rfl (y_fld rfl rfl Ty.fo_110_2) ?_
  refine Ls_y (wtd0 rfl) rfl rfl (y_load (i := 0) rfl rfl Ty.pl_108 (fun _ e => e ▸ hp) rfl rfl) ?_
  refine Ls_y (wtd0 rfl) rfl rfl (y_eqNil (b := false) rfl rfl Tryz.underlying108 (fun d w => run_eq_ifni Tryz.underlying108 d w) (fun w y => by cases y <;> rfl)) ?_
  refine Ls_y (wtd0 rfl) rfl rfl (y_move rfl rfl) ?_
  refine Ls_s (wtdF rfl rfl rfl) rfl rfl ?_
  refine Ls_s (wtdF rfl rfl rfl) rfl rfl ?_
  refine Ls_y (wtd0 rfl) rfl rfl (y_pick_f rfl rfl rfl) ?_
  refine Ls_nil (Th_n (hK1 _ _ ?_))
  refine Wp_cond_f rfl ?_
  refine Wp_skip (fE (Res0 rfl) ?_)
  exact ⟨rfl, rfl⟩
theorem ofail_no (g : Nat) (t : RdM) (w : World)  (hp : Hp w [(some g, Cl (rdC none t) 110)])  :
    Fn Tryz.prog 45 [.pointer (some ⟨g, 0, none⟩), .int .i64 0] w fun v w' => v = .tuple #[] ∧ w' = w := by
  refine Fn_of 25 Ty.en_45 Tryz.func45 rfl rfl rfl ?_
  dsimp only [argEnv]
  have hp : Hp w [(_, Cl [_, _, _] _)] := hp
  have hF := Fr.refl [] w
  refine Wp_seq fun K1 hK1 => ?_
  refine Wp_region ?_
  refine Ls_y (wtd0 rfl) rfl rfl (y_move rfl rfl) ?_
  refine Ls_y (wtd0 rfl) rfl rfl (y_nil rfl rfl) ?_
  refine Ls_y (wtd0 rfl) rfl rfl (y_fld rfl rfl Ty.fo_110_2) ?_
  refine Ls_y (wtd0 rfl) rfl rfl (y_load (i := 0) rfl rfl Ty.pl_108 (fun _ e => e ▸ hp) rfl rfl) ?_
  refine Ls_y (wtd0 rfl) rfl rfl (y_eqNil (b := true) rfl rfl Tryz.underlying108 (fun d w => run_eq_nilii Tryz.underlying108 d w) (fun w y => by cases y <;> rfl)) ?_
  refine Ls_y (wtd0 rfl) rfl rfl (y_move rfl rfl) ?_
  refine Ls_y (wtdT rfl rfl rfl) rfl rfl (y_move rfl rfl) ?_
  refine Ls_y (wtdT rfl rfl rfl) rfl rfl (y_neF rfl rfl rfl (by omega)) ?_
  refine Ls_y (wtd0 rfl) rfl rfl (y_pick_t rfl rfl rfl) ?_
  refine Ls_nil (Th_n (hK1 _ _ ?_))
  refine Wp_cond_f rfl ?_
  refine Wp_skip (fE (Res0 rfl) ?_)
  exact ⟨rfl, rfl⟩
theorem ofail_new (g : Nat) (t : RdM) (w : World) (e : Int) (hp : Hp w [(some g, Cl (rdC none t) 110)]) (he : ¬ e = 0) :
    Fn Tryz.prog 45 [.pointer (some ⟨g, 0, none⟩), .int .i64 e] w fun v w' => v = .tuple #[] ∧ ∃ q', Mod w w' [(some g, Cl (rdC none t) 110)] (rdH g (some q') ⟨t.s, t.a, ⟨t.a, e⟩⟩) := by
  refine Fn_of 25 Ty.en_45 Tryz.func45 rfl rfl rfl ?_
  dsimp only [argEnv]
  have hp : Hp w [(_, Cl [_, _, _] _)] := hp
  have hF := Fr.refl [g] w
  refine Wp_seq fun K1 hK1 => ?_
  refine Wp_region ?_
  refine Ls_y (wtd0 rfl) rfl rfl (y_move rfl rfl) ?_
  refine Ls_y (wtd0 rfl) rfl rfl (y_nil rfl rfl) ?_
  refine Ls_y (wtd0 rfl) rfl rfl (y_fld rfl rfl Ty.fo_110_2) ?_
  refine Ls_y (wtd0 rfl) rfl rfl (y_load (i := 0) rfl rfl Ty.pl_108 (fun _ e => e ▸ hp) rfl rfl) ?_
  refine Ls_y (wtd0 rfl) rfl rfl (y_eqNil (b := true) rfl rfl Tryz.underlying108 (fun d w => run_eq_nilii Tryz.underlying108 d w) (fun w y => by cases y <;> rfl)) ?_
  refine Ls_y (wtd0 rfl) rfl rfl (y_move rfl rfl) ?_
  refine Ls_y (wtdT rfl rfl rfl) rfl rfl (y_move rfl rfl) ?_
  refine Ls_y (wtdT rfl rfl rfl) rfl rfl (y_neT rfl rfl rfl (by omega)) ?_
  refine Ls_y (wtd0 rfl) rfl rfl (y_pick_t rfl rfl rfl) ?_
  refine Ls_nil (Th_n (hK1 _ _ ?_))
  refine Wp_cond_t rfl ?_
  refine Wp_region ?_
  refine Ls_y (wtd0 rfl) rfl rfl (y_move rfl rfl) ?_
  refine Ls_y (wtd0 rfl) rfl rfl (y_move rfl rfl) ?_
  refine Ls_y (wtd0 rfl) rfl rfl (y_nil rfl rfl) ?_
  refine Ls_y (wtd0 rfl) rfl rfl (y_fld rfl rfl Ty.fo_110_1) ?_
  refine Ls_y (wtd0 rfl) rfl rfl (y_load (i := 0) rfl rfl Ty.pl_3 (fun _ e => e ▸ hp) rfl rfl) ?_
  refine Ls_y (wtd0 rfl) rfl rfl (y_move rfl rfl) ?_
  refine Ls_y (wtd0 rfl) rfl rfl (y_mki rfl rfl (by kernel_rfl)) ?_
  refine Ls_y (wtd0 rfl) rfl rfl (y_build (cells := [_, _]) rfl rfl Ty.zc_163 Ty.ps_163 rfl) ?_
  refine Ls_a (wtd0 rfl) ?_
  refine a_box rfl rfl rfl rfl hp (fun g1 w1 (hp : Hp w1 [(_, Cl [_, _, _] _), (_, Cl [_, _] _)]) hf hg1 => ?_)
  have hg1 := Nat.le_trans hF.size hg1
  have hF := hF.step0 hf
  refine Ls_y (wtd0 rfl) rfl rfl (y_mki rfl rfl (by kernel_rfl)) ?_
  refine Ls_y (wtd0 rfl) rfl rfl (y_nil rfl rfl) ?_
  refine Ls_y (wtd0 rfl) rfl rfl (y_fld rfl rfl Ty.fo_110_2) ?_
  refine Ls_a (wtd0 rfl) ?_
  first
    | refine a_store (i := 0) rfl rfl rfl rfl rfl Ty.sz_108 rfl hp rfl (by first | decide | (simp; done) | (simp; omega)) (fun w2 (hp : Hp w2 [(_, Cl [_, _, _] _), (_, Cl [_, _] _)]) hf _ => ?_)
    | refine a_store (i := 1) rfl rfl rfl rfl rfl Ty.sz_108 rfl hp rfl (by first | decide | (simp; done) | (simp; omega)) (fun w2 (hp : Hp w2 [(_, Cl [_, _, _] _), (_, Cl [_, _] _)]) hf _ => ?_)
  have hF := hF.step hf (by intro y hy; simp only [List.mem_cons, List.not_mem_nil, or_false] at hy; subst hy; first | (exact Or.inr (by omega)) | (exact Or.inl (by simp)))
  refine Ls_nil (fE (Res0 rfl) ?_)
  exact ⟨rfl, g1, hF, hp, fun k hk => by simp [keys, rdH] at hk ⊢; omega⟩
theorem ofail_ok (g : Nat) (q : Option Nat) (t : RdM) (e : Int) (w : World) (hk : Eok q t) (hp : Hp w (rdH g q t)) :
    Fn Tryz.prog 45 [.pointer (some ⟨g, 0, none⟩), .int .i64 e] w fun v w' => v = .tuple #[] ∧ RdTo g q t (rfail_m t e) w w' := by
  cases q with
  | some q =>
    have h0 : ¬ t.f.e = 0 := fun h => by have := hk.2.2 h; cases this
    have e1 : rfail_m t e = t := by unfold rfail_m; rw [if_neg (fun hc => h0 ((rfail_c1_iff t e).1 hc).1)]
    rw [e1]
    refine (ofail_err g t w q e (hp.pk [0] (by decide))).mono ?_
    rintro v w' ⟨rfl, rfl⟩
    exact ⟨rfl, RdTo.same hk hp⟩
  | none =>
    by_cases he : e = 0
    · subst he
      have e1 : rfail_m t 0 = t := by unfold rfail_m; rw [if_neg (fun hc => ((rfail_c1_iff t 0).1 hc).2 rfl)]
      rw [e1]
      refine (ofail_no g t w (hp.pk [0] (by decide))).mono ?_
      rintro v w' ⟨rfl, rfl⟩
      exact ⟨rfl, RdTo.same hk hp⟩
    · have hr := rfail_rok (e := e) hk.1
      rw [rfail_at (hk.2.1 rfl) he] at hr ⊢
      refine (ofail_new g t w e (hp.pk [0] (by decide)) he).mono ?_
      rintro v w' ⟨rfl, q', m⟩
      exact ⟨rfl, some q', ⟨hr, by simp [he]⟩, m.fr, m.hp, m.nw⟩
end Go.Proofs.YtdckemiebnfjcaaGreatDoor
end

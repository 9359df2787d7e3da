/- Walks printed by gen2.py out of our own specifications: what the functions named below do. -/
import Derived.Test.YtdgllcmlfblelaaGreatDoorSc
import Derived.Test.YtdgllcmlfblelaaGreatDoorB4
import Derived.Laws.Closers25b
set_option linter.unusedSimpArgs false
set_option linter.unusedVariables false
namespace Go.Proofs.YtdgllcmlfblelaaGreatDoor
open Go.RowKit

def osigned_m (u : Int) : (List UInt8) :=
  numB (bits .xor .u64 ((u % 18446744073709551616) * 2 % 18446744073709551616) ((u / 9223372036854775808) % 18446744073709551616))


set_option maxRecDepth 20000 in
theorem osigned_ok (w : World) (u : Int) :
    Fn Tryz.prog 21 [.int .i64 u] w fun v w' => v = sv (osigned_m u) ∧ Fr [] w w' := by
  refine Fn_of 11 Ty.en_21 Tryz.func21 rfl rfl rfl ?_
  dsimp only [argEnv]
  have st := stn0 (X := []) (w := w) (by simp [Lo])
  have hF := Fr.refl ([]) w
  refine sq fun _ k1 => rg (Ls' rfl (Ln k1 (sq fun _ k2 => rg (Lm rfl (Ly rfl (y_cvi (c := u % 18446744073709551616) rfl rfl Tryz.underlying2 Tryz.underlying72 wm_u64) (Ly rfl (y_shlC (c := (u % 18446744073709551616) * 2 % 18446744073709551616) 1 2 rfl rfl rfl (by decide) rfl rfl wm_u64) ?_))))))
  refine Lm rfl (Ly rfl (y_shrC 63 9223372036854775808 rfl rfl rfl (by decide) rfl rfl (by decide)) ?_)
  refine Ly rfl (y_cvi (c := (u / 9223372036854775808) % 18446744073709551616) rfl rfl Tryz.underlying2 Tryz.underlying72 wm_u64) (Ly rfl (y_bits rfl rfl rfl (by simp) rfl) ?_)
  refine La rfl (Scl st hF rfl (onum_ok _ (bits .xor .u64 ((u % 18446744073709551616) * 2 % 18446744073709551616) ((u / 9223372036854775808) % 18446744073709551616)) ⟨bits_lo_u64 _ _ _, Int.lt_of_le_of_lt (bits_hi_u64 _ _ _) (by decide)⟩) fun w1 st hF => ?_)
  refine Ls' rfl (Ln k2 (Wp_ret (Fq_ret (Res1 rfl rfl) ?_)))
  unfold osigned_m
  exact ⟨rfl, hF⟩

def otext_m (s : List UInt8) : (List UInt8) :=
  (numB ((s.length : Int) % 18446744073709551616)) ++ s


set_option maxRecDepth 20000 in
theorem otext_ok (w : World) (s : List UInt8) (h1 : s.length ≤ 1000000) :
    Fn Tryz.prog 20 [sv s] w fun v w' => v = sv (otext_m s) ∧ Fr [] w w' := by
  refine Fn_of 9 Ty.en_20 Tryz.func20 rfl rfl rfl ?_
  dsimp only [argEnv]
  have st := stn0 (X := []) (w := w) (by simp [Lo])
  have hF := Fr.refl ([]) w
  refine sq fun _ k1 => rg (Ls' rfl (Ln k1 (sq fun _ k2 => rg (Lm rfl (Ly rfl (y_lens rfl rfl Tryz.underlying9) (Ly rfl (y_cvi (c := (s.length : Int) % 18446744073709551616) rfl rfl Tryz.underlying3 Tryz.underlying72 wm_u64) (La rfl (Scl st hF rfl (onum_ok _ ((s.length : Int) % 18446744073709551616) (by omega)) fun w1 st hF => ?_))))))))
  have hlnu1 := show ((numB ((s.length : Int) % 18446744073709551616))).length ≤ 9 from numB_len _
  refine Lm rfl (Ly rfl (y_cat rfl rfl rfl (by first | omega | (simp; done) | (simp; omega))) ?_)
  refine Ls' rfl (Ln k2 (Wp_ret (Fq_ret (Res1 rfl rfl) ?_)))
  unfold otext_m
  exact ⟨rfl, hF⟩

theorem osigned_len (u : Int) : (osigned_m u).length ≤ 9 := by unfold osigned_m; exact numB_len _
theorem otext_len (s : List UInt8) : (otext_m s).length ≤ s.length + 9 := by have := numB_len ((s.length : Int) % 18446744073709551616); unfold otext_m; rw [List.length_append]; omega

def iwrite_m (id : IdM) : (List UInt8) :=
  if (icheck_m id) = 0 then
    (numB (id.origin % 18446744073709551616)) ++ (numB (id.seq % 18446744073709551616))
  else
    []


set_option maxRecDepth 20000 in
theorem iwrite_ok (w : World) (id : IdM) :
    Fn Tryz.prog 53 [.agg (idMC id).toArray] w fun v w' => v = sv (iwrite_m id) ∧ Fr [] w w' := by
  refine Fn_of 15 Ty.en_53 Tryz.func53 rfl rfl rfl ?_
  dsimp only [argEnv]
  have st := stn0 (X := []) (w := w) (by simp [Lo])
  have hF := Fr.refl ([]) w
  refine sq fun _ k1 => rg (La rfl (Sbx st hF rfl fun g1 w1 (st : St _ _ [_] _) hF hg1 => Ls' rfl (Ln k1 (sq fun _ k2 => sq fun _ k3 => rg (Ly rfl (yw 0 Ty.ag_24 st rfl) (La rfl (Scl st hF rfl (icheck_ok _ id) fun w2 st hF => Ly rfl (yne rfl) (Ln k3 (cN rfl (fun hc1 => ?_) (fun hc1 => ?_))))))))))
  · refine sq fun _ k4 => rg (Ls' rfl (Ln k4 (Wp_ret (Th_r (Fq_ret (Res1 rfl rfl) ?_)))))
    unfold iwrite_m; rewrite [if_neg hc1]
    exact ⟨rfl, hF⟩
  refine sk k2 (sq fun _ k5 => ?_)
  refine Wp_plan (fun W => St [] W (pickL (hOf st) [0]) (kOf st)) [(true, 0), (true, 1), (true, 2), (true, 4), (true, 5), (true, 6), (false, 3), (false, 7), (true, 8), (true, 9)] Ty.mx_0 (by kernel_rfl) (by kernel_rfl) rfl ((st.picks [0] (by decide)).drew) ?_
  have st := st.drew
  have hF := hF.step0 (Fr.drew _)
  refine Py rfl (yf rfl Ty.fo_24_0) (Py rfl (y_load (i := 0) rfl rfl Ty.pl_3 (fun _ h => h.hp) rfl rfl) (Py rfl (y_cvi (c := id.origin % 18446744073709551616) rfl rfl Tryz.underlying3 Tryz.underlying72 wm_u64) (Py rfl (yf rfl Ty.fo_24_1) (Py rfl (y_load (i := 0) rfl rfl Ty.pl_22 (fun _ h => h.hp) rfl rfl) (Py rfl (y_cvi (c := id.seq % 18446744073709551616) rfl rfl Tryz.underlying22 Tryz.underlying72 wm_u64) (Pl_a rfl (wtd0 rfl) (by rfl) ?_))))))
  refine Scl st hF rfl (onum_ok _ (id.origin % 18446744073709551616) (by omega)) fun w3 st hF => ?_
  refine ⟨(st.picks [0] (by decide)).takeK 0, ?_⟩
  have hlnu1 := show ((numB (id.origin % 18446744073709551616))).length ≤ 9 from numB_len _
  refine Pl_a rfl (wtd0 rfl) (by rfl) ?_
  refine Scl st hF rfl (onum_ok _ (id.seq % 18446744073709551616) (by omega)) fun w4 st hF => ?_
  refine ⟨(st.picks [0] (by decide)).takeK 0, ?_⟩
  have hlnu2 := show ((numB (id.seq % 18446744073709551616))).length ≤ 9 from numB_len _
  refine Py rfl (y_cat rfl rfl rfl (by first | omega | (simp; done) | (simp; omega))) ?_
  refine Py rfl (y_assign rfl rfl) (Pl_nil (Th_n (k5 _ _ (Wp_ret (Fq_ret (Res1 rfl rfl) ?_)))))
  unfold iwrite_m; rewrite [if_pos hc1]
  exact ⟨rfl, hF⟩

theorem iwrite_len (x : IdM) : (iwrite_m x).length ≤ 18 := by
  unfold iwrite_m
  split
  · rw [List.length_append]; have h1 := numB_len (x.origin % 18446744073709551616); have h2 := numB_len (x.seq % 18446744073709551616); omega
  · simp

def iwriteTag_m (t : TagM) : (List UInt8) :=
  if (icheckTag_m t) = 0 then
    (iwrite_m t.id) ++ (numB (t.n % 18446744073709551616))
  else
    []


set_option maxRecDepth 20000 in
theorem iwriteTag_ok (w : World) (t : TagM) :
    Fn Tryz.prog 22 [.agg (tagMC t).toArray] w fun v w' => v = sv (iwriteTag_m t) ∧ Fr [] w w' := by
  refine Fn_of 14 Ty.en_22 Tryz.func22 rfl rfl rfl ?_
  dsimp only [argEnv]
  have st := stn0 (X := []) (w := w) (by simp [Lo])
  have hF := Fr.refl ([]) w
  refine sq fun _ k1 => rg (La rfl (Sbx st hF rfl fun g1 w1 (st : St _ _ [_] _) hF hg1 => Ls' rfl (Ln k1 (sq fun _ k2 => sq fun _ k3 => rg (Ly rfl (yw 0 Ty.ag_26 st rfl) (La rfl (Scl st hF rfl (icheckTag_ok _ t) fun w2 st hF => Ly rfl (yne rfl) (Ln k3 (cN rfl (fun hc1 => ?_) (fun hc1 => ?_))))))))))
  · refine sq fun _ k4 => rg (Ls' rfl (Ln k4 (Wp_ret (Th_r (Fq_ret (Res1 rfl rfl) ?_)))))
    unfold iwriteTag_m; rewrite [if_neg hc1]
    exact ⟨rfl, hF⟩
  refine sk k2 (sq fun _ k5 => ?_)
  refine Wp_plan (fun W => St [] W (pickL (hOf st) [0]) (kOf st)) [(true, 0), (true, 1), (true, 3), (true, 4), (true, 5), (false, 2), (false, 6), (true, 7), (true, 8)] Ty.mx_0 (by kernel_rfl) (by kernel_rfl) rfl ((st.picks [0] (by decide)).drew) ?_
  have st := st.drew
  have hF := hF.step0 (Fr.drew _)
  refine Py rfl (yf rfl Ty.fo_26_0) (Py rfl (y_loadm (i := 0) rfl rfl Ty.ag_24 (fun _ h => h.hp) rfl rfl rfl) (Py rfl (yf rfl Ty.fo_26_1) (Py rfl (y_load (i := 0) rfl rfl Ty.pl_3 (fun _ h => h.hp) rfl rfl) (Py rfl (y_cvi (c := t.n % 18446744073709551616) rfl rfl Tryz.underlying3 Tryz.underlying72 wm_u64) (Pl_a rfl (wtd0 rfl) (by rfl) ?_)))))
  refine Scl st hF rfl (iwrite_ok _ t.id) fun w3 st hF => ?_
  refine ⟨(st.picks [0] (by decide)).takeK 0, ?_⟩
  have hlnu1 := show ((iwrite_m t.id)).length ≤ 18 from iwrite_len _
  refine Pl_a rfl (wtd0 rfl) (by rfl) ?_
  refine Scl st hF rfl (onum_ok _ (t.n % 18446744073709551616) (by omega)) fun w4 st hF => ?_
  refine ⟨(st.picks [0] (by decide)).takeK 0, ?_⟩
  have hlnu2 := show ((numB (t.n % 18446744073709551616))).length ≤ 9 from numB_len _
  refine Py rfl (y_cat rfl rfl rfl (by first | omega | (simp; done) | (simp; omega))) ?_
  refine Py rfl (y_assign rfl rfl) (Pl_nil (Th_n (k5 _ _ (Wp_ret (Fq_ret (Res1 rfl rfl) ?_)))))
  unfold iwriteTag_m; rewrite [if_pos hc1]
  exact ⟨rfl, hF⟩

theorem iwriteTag_len (x : TagM) : (iwriteTag_m x).length ≤ 27 := by
  unfold iwriteTag_m
  split
  · rw [List.length_append]; have h1 := iwrite_len x.id; have h2 := numB_len (x.n % 18446744073709551616); omega
  · simp

def lwrite_m (s : StampM) : (List UInt8) :=
  if (lcheck_m s) = 0 then
    (numB (s.time % 18446744073709551616)) ++ (numB (s.origin % 18446744073709551616))
  else
    []


set_option maxRecDepth 20000 in
theorem lwrite_ok (w : World) (s : StampM) :
    Fn Tryz.prog 24 [.agg (stampMC s).toArray] w fun v w' => v = sv (lwrite_m s) ∧ Fr [] w w' := by
  refine Fn_of 15 Ty.en_24 Tryz.func24 rfl rfl rfl ?_
  dsimp only [argEnv]
  have st := stn0 (X := []) (w := w) (by simp [Lo])
  have hF := Fr.refl ([]) w
  refine sq fun _ k1 => rg (La rfl (Sbx st hF rfl fun g1 w1 (st : St _ _ [_] _) hF hg1 => Ls' rfl (Ln k1 (sq fun _ k2 => sq fun _ k3 => rg (Ly rfl (yw 0 Ty.ag_28 st rfl) (La rfl (Scl st hF rfl (lcheck_ok _ s) fun w2 st hF => Ly rfl (yne rfl) (Ln k3 (cN rfl (fun hc1 => ?_) (fun hc1 => ?_))))))))))
  · refine sq fun _ k4 => rg (Ls' rfl (Ln k4 (Wp_ret (Th_r (Fq_ret (Res1 rfl rfl) ?_)))))
    unfold lwrite_m; rewrite [if_neg hc1]
    exact ⟨rfl, hF⟩
  refine sk k2 (sq fun _ k5 => ?_)
  refine Wp_plan (fun W => St [] W (pickL (hOf st) [0]) (kOf st)) [(true, 0), (true, 1), (true, 2), (true, 4), (true, 5), (true, 6), (false, 3), (false, 7), (true, 8), (true, 9)] Ty.mx_0 (by kernel_rfl) (by kernel_rfl) rfl ((st.picks [0] (by decide)).drew) ?_
  have st := st.drew
  have hF := hF.step0 (Fr.drew _)
  refine Py rfl (yf rfl Ty.fo_28_0) (Py rfl (y_load (i := 0) rfl rfl Ty.pl_22 (fun _ h => h.hp) rfl rfl) (Py rfl (y_cvi (c := s.time % 18446744073709551616) rfl rfl Tryz.underlying22 Tryz.underlying72 wm_u64) (Py rfl (yf rfl Ty.fo_28_1) (Py rfl (y_load (i := 0) rfl rfl Ty.pl_3 (fun _ h => h.hp) rfl rfl) (Py rfl (y_cvi (c := s.origin % 18446744073709551616) rfl rfl Tryz.underlying3 Tryz.underlying72 wm_u64) (Pl_a rfl (wtd0 rfl) (by rfl) ?_))))))
  refine Scl st hF rfl (onum_ok _ (s.time % 18446744073709551616) (by omega)) fun w3 st hF => ?_
  refine ⟨(st.picks [0] (by decide)).takeK 0, ?_⟩
  have hlnu1 := show ((numB (s.time % 18446744073709551616))).length ≤ 9 from numB_len _
  refine Pl_a rfl (wtd0 rfl) (by rfl) ?_
  refine Scl st hF rfl (onum_ok _ (s.origin % 18446744073709551616) (by omega)) fun w4 st hF => ?_
  refine ⟨(st.picks [0] (by decide)).takeK 0, ?_⟩
  have hlnu2 := show ((numB (s.origin % 18446744073709551616))).length ≤ 9 from numB_len _
  refine Py rfl (y_cat rfl rfl rfl (by first | omega | (simp; done) | (simp; omega))) ?_
  refine Py rfl (y_assign rfl rfl) (Pl_nil (Th_n (k5 _ _ (Wp_ret (Fq_ret (Res1 rfl rfl) ?_)))))
  unfold lwrite_m; rewrite [if_pos hc1]
  exact ⟨rfl, hF⟩

theorem lwrite_len (x : StampM) : (lwrite_m x).length ≤ 18 := by
  unfold lwrite_m
  split
  · rw [List.length_append]; have h1 := numB_len (x.time % 18446744073709551616); have h2 := numB_len (x.origin % 18446744073709551616); omega
  · simp

def owrite_L1 (e : EffectM) : Nat → (List UInt8) → Int → ((List UInt8) × Int) ⊕ ((List UInt8) × Int)
  | 0, s5, s52 => .inr (s5, s52)
  | fuel + 1, s5, s52 =>
    if s52 < (e.tags.length : Int) then
      owrite_L1 e fuel (s5 ++ (iwriteTag_m (ix e.tags s52))) (s52 + 1)
    else
      .inr (s5, s52)

def owrite_L2 (e : EffectM) : Nat → (List UInt8) → Int → ((List UInt8) × Int) ⊕ ((List UInt8) × Int)
  | 0, s5, s52 => .inr (s5, s52)
  | fuel + 1, s5, s52 =>
    if s52 < (e.tags.length : Int) then
      owrite_L2 e fuel (s5 ++ (iwriteTag_m (ix e.tags s52))) (s52 + 1)
    else
      .inr (s5, s52)
def owrite_m (e : EffectM) : (List UInt8) × Int :=
  if (ocheckE_m e) = 0 then
    if ((oform_m e.act).atF) = true then
      if ((oform_m e.act).tags) = true then
        match owrite_L1 e (((e.tags.length : Int) - (0 : Int)).toNat + 1) ((((((numB (e.act % 18446744073709551616)) ++ (otext_m e.name)) ++ (osigned_m e.val)) ++ (iwriteTag_m e.tag)) ++ (lwrite_m e.atF)) ++ (numB ((e.tags.length : Int) % 18446744073709551616))) (0 : Int) with
        | .inl r => r
        | .inr (s5, s52) =>
          (s5, 0)
      else
        (((((numB (e.act % 18446744073709551616)) ++ (otext_m e.name)) ++ (osigned_m e.val)) ++ (iwriteTag_m e.tag)) ++ (lwrite_m e.atF), 0)
    else
      if ((oform_m e.act).tags) = true then
        match owrite_L2 e (((e.tags.length : Int) - (0 : Int)).toNat + 1) (((((numB (e.act % 18446744073709551616)) ++ (otext_m e.name)) ++ (osigned_m e.val)) ++ (iwriteTag_m e.tag)) ++ (numB ((e.tags.length : Int) % 18446744073709551616))) (0 : Int) with
        | .inl r => r
        | .inr (s5, s52) =>
          (s5, 0)
      else
        ((((numB (e.act % 18446744073709551616)) ++ (otext_m e.name)) ++ (osigned_m e.val)) ++ (iwriteTag_m e.tag), 0)
  else
    ([], ocheckE_m e)


set_option maxRecDepth 20000 in
theorem owrite_ok (X : List Nat) (w : World) (hX : Lo X w) (e : EffectM) (A1 : Option Addr) (C1 : Nat) (z2 : Sld X w A1 e.tags.length C1 3 (e.tags.flatMap tagMC)) (h1 : e.tags.length ≤ 1000000) (h2 : e.name.length ≤ 1000000) :
    Fn Tryz.prog 5 [.agg #[.int .i64 e.act, sv e.name, .int .i64 e.val, .int .i64 e.tag.id.origin, .int .u32 e.tag.id.seq, .int .i64 e.tag.n, .int .u32 e.atF.time, .int .i64 e.atF.origin, .slice A1 e.tags.length C1]] w fun v w' => v = .tuple #[sv ((owrite_m e).1), .int .i64 ((owrite_m e).2)] ∧ Fr [] w w' := by
  refine Fn_of 62 Ty.en_5 Tryz.func5 rfl rfl rfl ?_
  dsimp only [argEnv]
  have st := stn1 hX z2
  have hF := Fr.refl ([]) w
  have z1 := (st.q 0 rfl).le
  have hq1 := otext_len e.name
  refine sq fun _ k1 => rg (La rfl (Sbx st hF rfl fun g1 w1 (st : St _ _ [_] _) hF hg1 => Ls' rfl (Ls' rfl (Ln k1 (sq fun _ k2 => sq fun _ k3 => rg (Ly rfl (yw 0 Ty.ag_48 st rfl) (La rfl (Scl st hF rfl (ocheckE_ok (keys (hOf st) ++ X) _ st.Lo e A1 C1 (st.q 0 rfl)) fun w2 st hF => Ls' rfl (Ln k3 (sq fun _ k4 => rg (Lm rfl (Ly rfl (yne rfl) (Ln k4 (cN rfl (fun hc1 => ?_) (fun hc1 => ?_)))))))))))))))
  · refine sq fun _ k5 => rg (Lm rfl (Ls' rfl (Ls' rfl (Ln k5 (Wp_ret (Th_r (Fq_ret (Res2 rfl rfl rfl) ?_)))))))
    unfold owrite_m; rewrite [if_neg hc1]
    exact ⟨rfl, hF⟩
  refine sk k2 (sq fun _ k6 => ?_)
  refine Wp_plan (fun W => St X W (pickL (hOf st) [0]) (kOf st)) [(true, 0), (true, 1), (true, 2), (true, 4), (true, 5), (true, 8), (true, 9), (true, 12), (true, 13), (false, 3), (false, 6), (true, 7), (false, 10), (true, 11), (false, 14), (true, 15), (true, 16)] Ty.mx_0 (by kernel_rfl) (by kernel_rfl) rfl ((st.picks [0] (by decide)).drew) ?_
  have st := st.drew
  have hF := hF.step0 (Fr.drew _)
  refine Py rfl (yf rfl Ty.fo_48_0) (Py rfl (y_load (i := 0) rfl rfl Ty.pl_3 (fun _ h => h.hp) rfl rfl) (Py rfl (y_cvi (c := e.act % 18446744073709551616) rfl rfl Tryz.underlying3 Tryz.underlying72 wm_u64) (Py rfl (yf rfl Ty.fo_48_1) (Py rfl (y_load (i := 0) rfl rfl Ty.pl_9 (fun _ h => h.hp) rfl rfl) (Py rfl (yf rfl Ty.fo_48_2) (Py rfl (y_load (i := 0) rfl rfl Ty.pl_2 (fun _ h => h.hp) rfl rfl) (Py rfl (yf rfl Ty.fo_48_3) (Py rfl (y_loadm (i := 0) rfl rfl Ty.ag_26 (fun _ h => h.hp) rfl rfl rfl) (Pl_a rfl (wtd0 rfl) (by rfl) ?_)))))))))
  refine Scl st hF rfl (onum_ok _ (e.act % 18446744073709551616) (by omega)) fun w3 st hF => ?_
  refine ⟨(st.picks [0] (by decide)).takeK 1, ?_⟩
  have hlnu1 := show ((numB (e.act % 18446744073709551616))).length ≤ 9 from numB_len _
  refine Pl_a rfl (wtd0 rfl) (by rfl) ?_
  refine Scl st hF rfl (otext_ok _ e.name h2) fun w4 st hF => ?_
  refine ⟨(st.picks [0] (by decide)).takeK 1, ?_⟩
  refine Py rfl (y_cat rfl rfl rfl (by first | omega | (simp; done) | (simp; omega))) ?_
  refine Pl_a rfl (wtd0 rfl) (by rfl) ?_
  refine Scl st hF rfl (osigned_ok _ e.val) fun w5 st hF => ?_
  refine ⟨(st.picks [0] (by decide)).takeK 1, ?_⟩
  have hlnu2 := show ((osigned_m e.val)).length ≤ 9 from osigned_len _
  refine Py rfl (y_cat rfl rfl rfl (by first | omega | (simp; done) | (simp; omega))) ?_
  refine Pl_a rfl (wtd0 rfl) (by rfl) ?_
  refine Scl st hF rfl (iwriteTag_ok _ e.tag) fun w6 st hF => ?_
  refine ⟨(st.picks [0] (by decide)).takeK 1, ?_⟩
  have hlnu3 := show ((iwriteTag_m e.tag)).length ≤ 27 from iwriteTag_len _
  refine Py rfl (y_cat rfl rfl rfl (by first | omega | (simp; done) | (simp; omega))) ?_
  refine Py rfl (y_assign rfl rfl) (Pl_nil (Th_n (k6 _ _ (sq fun _ k7 => rg (Ly rfl (yf rfl Ty.fo_48_0) (Ly rfl (yl 0 Ty.pl_3 st rfl) (La rfl (Scl st hF rfl (oform_ok _ e.act) fun w7 st hF => La rfl (Sal Ty.zc_77 st hF rfl fun g2 w8 (st : St _ _ [_, _] _) hF hg2 => La rfl (Ssw 1 Ty.sz_77 st hF (.inr hg2) rfl fun w9 (st : St _ _ [_, _] _) hF => Ln k7 (sq fun _ k8 => sq fun _ k9 => rg (Ly rfl (yf rfl Ty.fo_77_2) (Ly rfl (yl 1 Ty.pl_4 st rfl) (Ln k9 (cB rfl (fun hc2 => ?_) (fun hc2 => ?_))))))))))))))))
  · refine rg (Lm rfl (Ly rfl (yf rfl Ty.fo_48_4) (Ly rfl (ym 0 Ty.ag_28 st rfl) (La rfl (Scl st hF rfl (lwrite_ok _ e.atF) fun w10 st hF => ?_)))))
    have hlnu4 := show ((lwrite_m e.atF)).length ≤ 18 from lwrite_len _
    refine Ly rfl (y_cat rfl rfl rfl (by first | omega | (simp; done) | (simp; omega))) ?_
    refine Ls' rfl (Ln k8 (sq fun _ k10 => sq fun _ k11 => rg (Ly rfl (yf rfl Ty.fo_77_3) (Ly rfl (yl 1 Ty.pl_4 st rfl) (Ln k11 (cB rfl (fun hc3 => ?_) (fun hc3 => ?_)))))))
    · refine sq fun _ k12 => rg (Lm rfl (Ly rfl (yf rfl Ty.fo_48_5) (Ly rfl (yl 0 Ty.pl_29 st rfl) (Ly rfl (yll rfl Tryz.underlying29) (Ly rfl (y_cvi (c := (e.tags.length : Int) % 18446744073709551616) rfl rfl Tryz.underlying3 Tryz.underlying72 wm_u64) (La rfl (Scl st hF rfl (onum_ok _ ((e.tags.length : Int) % 18446744073709551616) (by omega)) fun w11 st hF => ?_)))))))
      have hlnu5 := show ((numB ((e.tags.length : Int) % 18446744073709551616))).length ≤ 9 from numB_len _
      refine Ly rfl (y_cat rfl rfl rfl (by first | omega | (simp; done) | (simp; omega))) ?_
      refine Ls' rfl (Ln k12 (sq fun _ k13 => rg (Ly rfl (yf rfl Ty.fo_48_5) (Ly rfl (yl 0 Ty.pl_29 st rfl) (Ly rfl (yll rfl Tryz.underlying29) (Lm rfl (Ln k13 (Wp_block (lp (fun q E W => ∃ (s5 : List UInt8) (s52 : Int), E = [(5, sv s5), (50, .slice A1 e.tags.length C1), (51, .int .i64 (e.tags.length : Int)), (52, .int .i64 s52)] ∧ jq q (fun m => (owrite_L1 e m s5 s52 = owrite_L1 e (((e.tags.length : Int) - (0 : Int)).toNat + 1) ((((((numB (e.act % 18446744073709551616)) ++ (otext_m e.name)) ++ (osigned_m e.val)) ++ (iwriteTag_m e.tag)) ++ (lwrite_m e.atF)) ++ (numB ((e.tags.length : Int) % 18446744073709551616))) (0 : Int) ∧ ((e.tags.length : Int) - s52).toNat < m)) (owrite_L1 e (((e.tags.length : Int) - (0 : Int)).toNat + 1) ((((((numB (e.act % 18446744073709551616)) ++ (otext_m e.name)) ++ (osigned_m e.val)) ++ (iwriteTag_m e.tag)) ++ (lwrite_m e.atF)) ++ (numB ((e.tags.length : Int) % 18446744073709551616))) (0 : Int) = .inr (s5, s52)) ∧ (0 ≤ s52 ∧ 0 ≤ s52 ∧ (s5.length : Int) ≤ 2000000 + 27 * s52) ∧ St X W [(some g1, Cl [.int .i64 e.act, sv e.name, .int .i64 e.val, .int .i64 e.tag.id.origin, .int .u32 e.tag.id.seq, .int .i64 e.tag.n, .int .u32 e.atF.time, .int .i64 e.atF.origin, .slice A1 e.tags.length C1] 48), (some g2, Cl [.bool ((oform_m e.act).name), .bool ((oform_m e.act).val), .bool ((oform_m e.act).atF), .bool ((oform_m e.act).tags)] 77)] [kS A1 e.tags.length C1 3 (e.tags.flatMap tagMC)] ∧ Fr ([]) w W) (((e.tags.length : Int) - (0 : Int)).toNat + 1) [(5, _), (50, _), (51, _), (52, _)] ⟨rfl, rfl, rfl, rfl, trivial⟩ ⟨_, _, rfl, ⟨rfl, Nat.lt_succ_self _⟩, by first | omega | (simp; done) | (simp; omega), st, hF⟩ k10 ?_ fun hout1 => ?_)))))))))
      · rintro E w12 ⟨s5, s52, rfl, hLk1, hinv, st, hF⟩
        unfold jq at hLk1; dsimp only at hLk1
        refine sq fun _ k14 => rg (Lm rfl (Ls' rfl (Ls' rfl (Ln k14 (Wp_ret (Fq_ret (Res2 rfl rfl rfl) ?_))))))
        unfold owrite_m; rewrite [if_pos hc1, if_pos hc2, if_pos hc3, hLk1]; (try dsimp only)
        exact ⟨rfl, hF⟩
      rintro m E w13 ⟨s5, s52, rfl, ⟨hL1, hmu⟩, hinv, st, hF⟩
      obtain ⟨fuel, rfl⟩ : ∃ q, m = q + 1 := ⟨m - 1, by omega⟩
      refine sq fun _ k15 => rg (Ly rfl (ylt rfl) (Ln k15 (sq fun _ k16 => cD rfl (fun hc4 => ?_) (fun hc4 => ?_))))
      · refine sk k16 (sq fun _ k17 => Wp_block (sq fun _ k18 => rg ?_))
        obtain ⟨gi1, bi1, egi1⟩ := (st.k (i := 0) rfl).addr (fun _ => rfl) (by decide) (q := s52) (by first | omega | (simp; done) | (simp; omega)) (by first | omega | (simp; done) | (simp; omega))
        subst egi1
        refine Ly rfl (y_ixa (q := s52) rfl rfl rfl Ty.es_29 (by first | omega | (simp; done) | (simp; omega)) (by first | omega | (simp; done) | (simp; omega))) ?_
        refine Ly rfl (y_ldk (q := s52) rfl rfl Ty.ag_26 (fun _ e => e ▸ st.k (i := 0) rfl) (fun _ => rfl) (by first | omega | (simp; done) | (simp; omega)) (by first | omega | (simp; done) | (simp; omega))) ?_
        refine La rfl (Sal Ty.zc_26 st hF rfl fun g3 w14 (st : St _ _ [_, _, _] _) hF hg3 => La rfl (Ssw 2 Ty.sz_26 st hF (.inr hg3) rfl fun w15 (st : St _ _ [_, _, _] _) hF => Ln k18 (rg (Lm rfl (Ly rfl (yw 2 Ty.ag_26 st rfl) (La rfl (Scl st hF rfl (iwriteTag_ok _ (ix e.tags s52)) fun w16 st hF => ?_)))))))
        have hlnu6 := show ((iwriteTag_m (ix e.tags s52))).length ≤ 27 from iwriteTag_len _
        refine Ly rfl (y_cat rfl rfl rfl (by first | omega | (simp; done) | (simp; omega))) ?_
        refine Ls' rfl (Ls_nil (Ib_n (Th_n (k17 _ _ (rg (Ly rfl (y_add (c := s52 + 1) rfl rfl rfl (wf_i64 (by first | omega | (simp; done) | (simp; omega)))) ?_))))))
        refine Lm rfl (Ls_nil (Th_n (?_)))
        exact ⟨fuel, [(5, _), (50, _), (51, _), (52, _)], Nat.lt_succ_self _, ⟨rfl, rfl, rfl, rfl, trivial⟩, (s5 ++ (iwriteTag_m (ix e.tags s52))), (s52 + 1), rfl, ⟨by rewrite [← hL1, owrite_L1]; rewrite [if_pos hc4]; rfl, by first | omega | (simp; done) | (simp; omega)⟩, by first | omega | (simp; done) | (simp; omega), (st.picks [0, 1] (by decide)).pickK [0], hF⟩
      refine Wp_exit (Th_e (Th_e (Ib_hit (Th_n (?_)))))
      exact hout1 _ [(5, _), (50, _), (51, _), (52, _)] _ ⟨rfl, rfl, rfl, rfl, trivial⟩ ⟨s5, s52, rfl, show _ = _ from by rewrite [← hL1, owrite_L1]; rewrite [if_neg hc4]; rfl, by first | omega | (simp; done) | (simp; omega), (st.picks [0, 1] (by decide)).pickK [0], hF⟩
    refine sk k10 (sq fun _ k19 => rg (Lm rfl (Ls' rfl (Ls' rfl (Ln k19 (Wp_ret (Fq_ret (Res2 rfl rfl rfl) ?_)))))))
    unfold owrite_m; rewrite [if_pos hc1, if_pos hc2, if_neg hc3]
    exact ⟨rfl, hF⟩
  refine sk k8 (sq fun _ k20 => sq fun _ k21 => rg (Ly rfl (yf rfl Ty.fo_77_3) (Ly rfl (yl 1 Ty.pl_4 st rfl) (Ln k21 (cB rfl (fun hc5 => ?_) (fun hc5 => ?_))))))
  · refine sq fun _ k22 => rg (Lm rfl (Ly rfl (yf rfl Ty.fo_48_5) (Ly rfl (yl 0 Ty.pl_29 st rfl) (Ly rfl (yll rfl Tryz.underlying29) (Ly rfl (y_cvi (c := (e.tags.length : Int) % 18446744073709551616) rfl rfl Tryz.underlying3 Tryz.underlying72 wm_u64) (La rfl (Scl st hF rfl (onum_ok _ ((e.tags.length : Int) % 18446744073709551616) (by omega)) fun w17 st hF => ?_)))))))
    have hlnu7 := show ((numB ((e.tags.length : Int) % 18446744073709551616))).length ≤ 9 from numB_len _
    refine Ly rfl (y_cat rfl rfl rfl (by first | omega | (simp; done) | (simp; omega))) ?_
    refine Ls' rfl (Ln k22 (sq fun _ k23 => rg (Ly rfl (yf rfl Ty.fo_48_5) (Ly rfl (yl 0 Ty.pl_29 st rfl) (Ly rfl (yll rfl Tryz.underlying29) (Lm rfl (Ln k23 (Wp_block (lp (fun q E W => ∃ (s5 : List UInt8) (s52 : Int), E = [(5, sv s5), (50, .slice A1 e.tags.length C1), (51, .int .i64 (e.tags.length : Int)), (52, .int .i64 s52)] ∧ jq q (fun m => (owrite_L2 e m s5 s52 = owrite_L2 e (((e.tags.length : Int) - (0 : Int)).toNat + 1) (((((numB (e.act % 18446744073709551616)) ++ (otext_m e.name)) ++ (osigned_m e.val)) ++ (iwriteTag_m e.tag)) ++ (numB ((e.tags.length : Int) % 18446744073709551616))) (0 : Int) ∧ ((e.tags.length : Int) - s52).toNat < m)) (owrite_L2 e (((e.tags.length : Int) - (0 : Int)).toNat + 1) (((((numB (e.act % 18446744073709551616)) ++ (otext_m e.name)) ++ (osigned_m e.val)) ++ (iwriteTag_m e.tag)) ++ (numB ((e.tags.length : Int) % 18446744073709551616))) (0 : Int) = .inr (s5, s52)) ∧ (0 ≤ s52 ∧ 0 ≤ s52 ∧ (s5.length : Int) ≤ 2000000 + 27 * s52) ∧ St X W [(some g1, Cl [.int .i64 e.act, sv e.name, .int .i64 e.val, .int .i64 e.tag.id.origin, .int .u32 e.tag.id.seq, .int .i64 e.tag.n, .int .u32 e.atF.time, .int .i64 e.atF.origin, .slice A1 e.tags.length C1] 48), (some g2, Cl [.bool ((oform_m e.act).name), .bool ((oform_m e.act).val), .bool ((oform_m e.act).atF), .bool ((oform_m e.act).tags)] 77)] [kS A1 e.tags.length C1 3 (e.tags.flatMap tagMC)] ∧ Fr ([]) w W) (((e.tags.length : Int) - (0 : Int)).toNat + 1) [(5, _), (50, _), (51, _), (52, _)] ⟨rfl, rfl, rfl, rfl, trivial⟩ ⟨_, _, rfl, ⟨rfl, Nat.lt_succ_self _⟩, by first | omega | (simp; done) | (simp; omega), st, hF⟩ k20 ?_ fun hout2 => ?_)))))))))
    · rintro E w18 ⟨s5, s52, rfl, hLk2, hinv, st, hF⟩
      unfold jq at hLk2; dsimp only at hLk2
      refine sq fun _ k24 => rg (Lm rfl (Ls' rfl (Ls' rfl (Ln k24 (Wp_ret (Fq_ret (Res2 rfl rfl rfl) ?_))))))
      unfold owrite_m; rewrite [if_pos hc1, if_neg hc2, if_pos hc5, hLk2]; (try dsimp only)
      exact ⟨rfl, hF⟩
    rintro m E w19 ⟨s5, s52, rfl, ⟨hL2, hmu⟩, hinv, st, hF⟩
    obtain ⟨fuel, rfl⟩ : ∃ q, m = q + 1 := ⟨m - 1, by omega⟩
    refine sq fun _ k25 => rg (Ly rfl (ylt rfl) (Ln k25 (sq fun _ k26 => cD rfl (fun hc6 => ?_) (fun hc6 => ?_))))
    · refine sk k26 (sq fun _ k27 => Wp_block (sq fun _ k28 => rg ?_))
      obtain ⟨gi2, bi2, egi2⟩ := (st.k (i := 0) rfl).addr (fun _ => rfl) (by decide) (q := s52) (by first | omega | (simp; done) | (simp; omega)) (by first | omega | (simp; done) | (simp; omega))
      subst egi2
      refine Ly rfl (y_ixa (q := s52) rfl rfl rfl Ty.es_29 (by first | omega | (simp; done) | (simp; omega)) (by first | omega | (simp; done) | (simp; omega))) ?_
      refine Ly rfl (y_ldk (q := s52) rfl rfl Ty.ag_26 (fun _ e => e ▸ st.k (i := 0) rfl) (fun _ => rfl) (by first | omega | (simp; done) | (simp; omega)) (by first | omega | (simp; done) | (simp; omega))) ?_
      refine La rfl (Sal Ty.zc_26 st hF rfl fun g4 w20 (st : St _ _ [_, _, _] _) hF hg4 => La rfl (Ssw 2 Ty.sz_26 st hF (.inr hg4) rfl fun w21 (st : St _ _ [_, _, _] _) hF => Ln k28 (rg (Lm rfl (Ly rfl (yw 2 Ty.ag_26 st rfl) (La rfl (Scl st hF rfl (iwriteTag_ok _ (ix e.tags s52)) fun w22 st hF => ?_)))))))
      have hlnu8 := show ((iwriteTag_m (ix e.tags s52))).length ≤ 27 from iwriteTag_len _
      refine Ly rfl (y_cat rfl rfl rfl (by first | omega | (simp; done) | (simp; omega))) ?_
      refine Ls' rfl (Ls_nil (Ib_n (Th_n (k27 _ _ (rg (Ly rfl (y_add (c := s52 + 1) rfl rfl rfl (wf_i64 (by first | omega | (simp; done) | (simp; omega)))) ?_))))))
      refine Lm rfl (Ls_nil (Th_n (?_)))
      exact ⟨fuel, [(5, _), (50, _), (51, _), (52, _)], Nat.lt_succ_self _, ⟨rfl, rfl, rfl, rfl, trivial⟩, (s5 ++ (iwriteTag_m (ix e.tags s52))), (s52 + 1), rfl, ⟨by rewrite [← hL2, owrite_L2]; rewrite [if_pos hc6]; rfl, by first | omega | (simp; done) | (simp; omega)⟩, by first | omega | (simp; done) | (simp; omega), (st.picks [0, 1] (by decide)).pickK [0], hF⟩
    refine Wp_exit (Th_e (Th_e (Ib_hit (Th_n (?_)))))
    exact hout2 _ [(5, _), (50, _), (51, _), (52, _)] _ ⟨rfl, rfl, rfl, rfl, trivial⟩ ⟨s5, s52, rfl, show _ = _ from by rewrite [← hL2, owrite_L2]; rewrite [if_neg hc6]; rfl, by first | omega | (simp; done) | (simp; omega), (st.picks [0, 1] (by decide)).pickK [0], hF⟩
  refine sk k20 (sq fun _ k29 => rg (Lm rfl (Ls' rfl (Ls' rfl (Ln k29 (Wp_ret (Fq_ret (Res2 rfl rfl rfl) ?_)))))))
  unfold owrite_m; rewrite [if_pos hc1, if_neg hc2, if_neg hc5]
  exact ⟨rfl, hF⟩

def fromEff_m (e : EffectM) : EffectM :=
  e


set_option maxRecDepth 20000 in
theorem fromEff_ok (X : List Nat) (w : World) (hX : Lo X w) (e : EffectM) (A1 : Option Addr) (C1 : Nat) (z2 : Sld X w A1 e.tags.length C1 3 (e.tags.flatMap tagMC)) :
    Fn Tryz.prog 10 [.agg #[.int .i64 e.act, sv e.name, .int .i64 e.val, .int .i64 e.tag.id.origin, .int .u32 e.tag.id.seq, .int .i64 e.tag.n, .int .u32 e.atF.time, .int .i64 e.atF.origin, .slice A1 e.tags.length C1]] w fun v w' => ∃ (A2 : Option Addr) (C2 : Nat), v = .agg #[.int .i64 ((fromEff_m e).act), sv ((fromEff_m e).name), .int .i64 ((fromEff_m e).val), .int .i64 (((fromEff_m e).tag).id.origin), .int .u32 (((fromEff_m e).tag).id.seq), .int .i64 (((fromEff_m e).tag).n), .int .u32 (((fromEff_m e).atF).time), .int .i64 (((fromEff_m e).atF).origin), .slice A2 ((fromEff_m e).tags).length C2] ∧ Sld X w' A2 ((fromEff_m e).tags).length C2 3 (((fromEff_m e).tags).flatMap tagMC) ∧ Fr [] w w' := by
  refine Fn_of 16 Ty.en_10 Tryz.func10 rfl rfl rfl ?_
  dsimp only [argEnv]
  have st := stn1 hX z2
  have hF := Fr.refl ([]) w
  have z1 := (st.q 0 rfl).le
  refine sq fun _ k1 => rg (La rfl (Sbx st hF rfl fun g1 w1 (st : St _ _ [_] _) hF hg1 => La rfl (Sal Ty.zc_31 st hF rfl fun g2 w2 (st : St _ _ [_, _] _) hF hg2 => Ln k1 (sq fun _ k2 => rg (Ly rfl (yf rfl Ty.fo_48_0) (Ly rfl (yl 0 Ty.pl_3 st rfl) (Ly rfl (yf rfl Ty.fo_48_1) (Ly rfl (yl 0 Ty.pl_9 st rfl) (Ly rfl (yf rfl Ty.fo_48_2) (Ly rfl (yl 0 Ty.pl_2 st rfl) (Ly rfl (yf rfl Ty.fo_48_3) (Ly rfl (ym 0 Ty.ag_26 st rfl) (Ly rfl (yf rfl Ty.fo_48_4) (Ly rfl (ym 0 Ty.ag_28 st rfl) (Ly rfl (yf rfl Ty.fo_48_5) (Ly rfl (yl 0 Ty.pl_29 st rfl) (Ly rfl (y_build (cells := [_, _, _, _, _, _, _, _, _]) rfl rfl Ty.zc_31 Ty.ps_31 rfl) (La rfl (Ssw 1 Ty.sz_31 st hF (.inr hg2) rfl fun w3 (st : St _ _ [_, _] _) hF => Ln k2 (Wp_ret (Fq_ret (ResN1 rfl (rvc (i := 1) rfl Ty.ag_31 st.hp rfl rfl)) ?_)))))))))))))))))))))
  unfold fromEff_m
  exact ⟨_, _, rfl, st.ot 0 rfl, hF⟩

end Go.Proofs.YtdgllcmlfblelaaGreatDoor

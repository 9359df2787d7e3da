/- Walks printed by gen2.py out of our own specifications: what the functions named below do. -/
import Derived.Test.YtdckemiebnfjcaaGreatDoorSc
import Derived.Test.YtdckemiebnfjcaaGreatDoorQa
section
set_option linter.unusedSimpArgs false
set_option linter.unusedVariables false
namespace Go.Proofs.YtdckemiebnfjcaaGreatDoor
open Go.RowKit
theorem xor_ones (x : BitVec 64) : (x ^^^ BitVec.allOnes 64).toNat = 18446744073709551615 - x.toNat := by
  rw [BitVec.xor_allOnes, BitVec.toNat_not]
theorem u64_xor_zero {x : Int} (h : 0 ≤ x ∧ x < 18446744073709551616) : bits .xor .u64 x 0 = x := by
  rw [u64_xor x 0 h.1 h.2 (by decide) (by decide)]
  simp; omega
theorem u64_xor_ones {x : Int} (h : 0 ≤ x ∧ x < 18446744073709551616) : bits .xor .u64 x 18446744073709551615 = 18446744073709551615 - x := by
  show IntKind.u64.wrap ((BitVec.ofInt 64 x ^^^ BitVec.ofInt 64 18446744073709551615).toNat : Int) = _
  have e : BitVec.ofInt 64 18446744073709551615 = BitVec.allOnes 64 := by decide
  rw [e, xor_ones, BitVec.toNat_ofInt, IntKind.wrap_u64]
  simp; omega
theorem i64_xor_zero {x : Int} (h : -9223372036854775808 ≤ x ∧ x ≤ 9223372036854775807) : bits .xor .i64 x 0 = x := by
  show IntKind.i64.wrap ((BitVec.ofInt 64 x ^^^ BitVec.ofInt 64 0).toNat : Int) = _
  have e : BitVec.ofInt 64 0 = 0#64 := by decide
  rw [e, BitVec.xor_zero, BitVec.toNat_ofInt, IntKind.wrap_i64]
  simp; omega
theorem i64_xor_ones {x : Int} (h : -9223372036854775808 ≤ x ∧ x ≤ 9223372036854775807) : bits .xor .i64 x (-1) = -1 - x := by
  show IntKind.i64.wrap ((BitVec.ofInt 64 x ^^^ BitVec.ofInt 64 (-1)).toNat : Int) = _
  have e : BitVec.ofInt 64 (-1) = BitVec.allOnes 64 := by decide
  rw [e, xor_ones, BitVec.toNat_ofInt, IntKind.wrap_i64]
  simp; omega
structure AtR (T : RdM) (r : List UInt8) : Prop where
  e : T.f.e = 0
  a0 : 0 ≤ T.a
  al : T.a ≤ T.s.length
  d : T.s.drop T.a.toNat = r
def advR (T : RdM) (k : Nat) : RdM := ⟨T.s, T.a + k, T.f⟩
theorem AtR.adv {T : RdM} {b r : List UInt8} (h : AtR T (b ++ r)) : AtR (advR T b.length) r := by
  have hl := congrArg List.length h.d
  have h0 := h.a0; have h1 := h.al
  rw [List.length_drop, List.length_append] at hl
  refine ⟨h.e, by unfold advR; simp only; omega, by unfold advR; simp only; omega, ?_⟩
  unfold advR; simp only
  rw [show (T.a + (b.length : Int)).toNat = T.a.toNat + b.length by omega, ← List.drop_drop, h.d, List.drop_left]
theorem advR_adv (T : RdM) (a b : Nat) : advR (advR T a) b = advR T (a + b) := by
  unfold advR; simp only; congr 1; omega
theorem AtR.len {T : RdM} {r : List UInt8} (h : AtR T r) : (T.s.length : Int) = T.a + r.length := by
  have hl := congrArg List.length h.d
  have h0 := h.a0; have h1 := h.al
  rw [List.length_drop] at hl
  omega
theorem AtR.get {T : RdM} {r : List UInt8} (h : AtR T r) {i : Int} (h0 : 0 ≤ i) (h1 : i < r.length) : ix T.s (T.a + i) = ix r i := by
  have ha := h.a0
  unfold ix
  rw [← h.d, List.getElem?_drop, show (T.a + i).toNat = T.a.toNat + i.toNat by omega]
theorem dgs_rng : ∀ (f : Nat) (n : Int), ∀ x ∈ dgs f n, 0 ≤ x ∧ x < 256
  | 0, n, x, h => by simp [dgs] at h
  | f + 1, n, x, h => by
    rw [dgs] at h
    split at h
    · rcases List.mem_append.1 h with q | q
      · exact dgs_rng f _ x q
      · rw [List.mem_singleton] at q; omega
    · cases h
theorem dgs_nil {f : Nat} {n : Int} (h : dgs f n = []) (h1 : n < (256 : Int) ^ f) : n ≤ 0 := by
  match f with
  | 0 => simp at h1; omega
  | f + 1 =>
    rw [dgs] at h
    split at h
    · simp at h
    · omega
theorem dgs_hd : ∀ (f : Nat) (n x : Int) (l : List Int), n < (256 : Int) ^ f → dgs f n = x :: l → 0 < x
  | 0, n, x, l, h1, h => by simp [dgs] at h
  | f + 1, n, x, l, h1, h => by
    rw [dgs] at h
    split at h
    · rename_i hn
      have hlt : n / 256 < (256 : Int) ^ f := by
        rw [Int.pow_succ] at h1
        exact Int.ediv_lt_of_lt_mul (by decide) h1
      cases hd : dgs f (n / 256) with
      | nil =>
        rw [hd] at h
        simp at h
        have := dgs_nil hd hlt
        omega
      | cons y m =>
        rw [hd] at h
        simp at h
        exact h.1 ▸ dgs_hd f (n / 256) y m hlt hd
    · cases h
def horn (a : Int) (l : List Int) : Int := l.foldl (fun a x => (((a * 256) % 18446744073709551616) + x) % 18446744073709551616) a
theorem horn_dgs : ∀ (f : Nat) (n : Int), 0 ≤ n → n < (256 : Int) ^ f → n < 18446744073709551616 → horn 0 (dgs f n) = n
  | 0, n, h0, h1, _ => by simp at h1; simp [dgs, horn]; omega
  | f + 1, n, h0, h1, h2 => by
    rw [dgs]
    split
    · have hlt : n / 256 < (256 : Int) ^ f := by
        rw [Int.pow_succ] at h1
        exact Int.ediv_lt_of_lt_mul (by decide) h1
      have ih := horn_dgs f (n / 256) (by omega) hlt (by omega)
      unfold horn at ih ⊢
      rw [List.foldl_append, ih]
      simp only [List.foldl_cons, List.foldl_nil]
      omega
    · unfold horn; simp; omega
theorem rnum_run (T : RdM) (r : List UInt8) (ds : List Int) (hk : (ix T.s T.a).toNat = ds.length) (hb : ∀ i : Int, 0 ≤ i → i < ds.length → ((ix T.s (T.a + (1 + i))).toNat : Int) = ix ds i) : ∀ (fuel : Nat) (acc : Int) (i : Int), 0 ≤ i → i ≤ ds.length → (ds.length : Int) - i < fuel → ∃ j, rnum_L1 T fuel acc (1 + i) = .inr (horn acc (ds.drop i.toNat), j)
  | 0, acc, i, h0, h1, h2 => by omega
  | fuel + 1, acc, i, h0, h1, h2 => by
    rw [rnum_L1]
    by_cases hi : i < ds.length
    · rw [if_pos (by omega), hb i h0 hi]
      have := rnum_run T r ds hk hb fuel ((((acc * 256) % 18446744073709551616) + ix ds i) % 18446744073709551616) (i + 1) (by omega) (by omega) (by omega)
      obtain ⟨j, e⟩ := this
      rw [show 1 + i + 1 = 1 + (i + 1) by omega, e]
      refine ⟨j, ?_⟩
      rw [ix_drop ds h0 hi]
      rfl
    · rw [if_neg (by omega)]
      refine ⟨1 + i, ?_⟩
      rw [show i.toNat = ds.length by omega, List.drop_length]; rfl
theorem numB_ix0 (v : Int) (r : List UInt8) : (ix (numB v ++ r) 0).toNat = (dgs 8 v).length := by
  have := dgs_len 8 v
  show (UInt8.ofNat ((dgs 8 v).length : Int).toNat).toNat = _
  rw [Int.toNat_natCast, UInt8.toNat_ofNat']
  omega
theorem numB_ixs (v : Int) (r : List UInt8) (i : Int) (h0 : 0 ≤ i) (h1 : i < (dgs 8 v).length) : ((ix (numB v ++ r) (1 + i)).toNat : Int) = ix (dgs 8 v) i := by
  have hr := dgs_rng 8 v (ix (dgs 8 v) i) (ix_memI _ h0 h1)
  unfold numB bytesOf ix
  rw [List.map_cons, List.cons_append, show (1 + i).toNat = i.toNat + 1 by omega, List.getElem?_cons_succ, List.getElem?_append_left (by rw [List.length_map]; omega), List.getElem?_map, List.getElem?_eq_getElem (by omega)]
  unfold ix at hr
  rw [List.getElem?_eq_getElem (by omega)] at hr
  simp only [Option.getD_some, Option.map_some] at hr ⊢
  rw [UInt8.toNat_ofNat']
  omega
theorem numB_length (v : Int) : (numB v).length = 1 + (dgs 8 v).length := by unfold numB bytesOf; rw [List.length_map, List.length_cons]; omega
theorem rnum_at {T : RdM} {v : Int} {r : List UInt8} (h : AtR T (numB v ++ r)) (hv : 0 ≤ v ∧ v < 18446744073709551616) : rnum_m T = (v, advR T (numB v).length) := by
  have hlen := h.len
  have hd8 := dgs_len 8 v
  rw [List.length_append, numB_length] at hlen
  have e0 : (ix T.s T.a).toNat = (dgs 8 v).length := by
    have := h.get (i := 0) (by decide) (by rw [List.length_append, numB_length]; omega)
    rw [Int.add_zero] at this
    rw [this]; exact numB_ix0 v r
  have eb : ∀ i : Int, 0 ≤ i → i < (dgs 8 v).length → ((ix T.s (T.a + (1 + i))).toNat : Int) = ix (dgs 8 v) i := fun i h0 h1 => by
    rw [h.get (i := 1 + i) (by omega) (by rw [List.length_append, numB_length]; omega)]; exact numB_ixs v r i h0 h1
  have hc1 : ¬ rnum_c1 T = true := by
    unfold rnum_c1
    split
    · rename_i hp
      rw [e0] at hp
      have e1 := eb 0 (by decide) (by omega)
      rw [Int.add_zero] at e1
      cases hd : dgs 8 v with
      | nil => rw [hd] at hp; simp at hp
      | cons x l =>
        have hx := dgs_hd 8 v x l (by have := hv.2; simp only [show (256 : Int) ^ 8 = 18446744073709551616 from rfl]; exact this) hd
        rw [hd] at e1
        have e2 : ix (x :: l) 0 = x := rfl
        rw [e2] at e1
        rw [e1]
        simp; omega
    · simp
  unfold rnum_m
  rw [if_pos h.e, if_neg (by omega), if_neg (by rw [e0]; omega), if_neg (by rw [e0]; omega), if_neg hc1]
  obtain ⟨j, e⟩ := rnum_run T r (dgs 8 v) e0 eb (((((ix T.s T.a).toNat : Int) + 1) - (1 : Int)).toNat + 1) 0 0 (by decide) (by omega) (by rw [e0]; omega)
  rw [Int.add_zero] at e
  rw [e]
  simp only
  rw [show (0 : Int).toNat = 0 from rfl, List.drop_zero, horn_dgs 8 v hv.1 hv.2 hv.2, e0, numB_length]
  unfold advR
  congr 2; omega
theorem rint_at {T : RdM} {v m : Int} {r : List UInt8} (h : AtR T (numB v ++ r)) (hv : 0 ≤ v ∧ v ≤ m) (hm : m < 9223372036854775808) : rint_m T m = (v, advR T (numB v).length) := by
  have e := rnum_at h (by omega)
  have hc : ¬ rint_c1 T m = true := by
    rw [rint_c1_iff, e]; simp only; omega
  unfold rint_m
  rw [if_neg hc, e, if_pos (show (advR T (numB v).length).f.e = 0 from h.e)]
  simp only
  rw [IntKind.wrap_i64]
  congr 1; omega
theorem rtext_at {T : RdM} {s r : List UInt8} {m : Int} (h : AtR T (otext_m s ++ r)) (hs : (s.length : Int) ≤ m) (hm : m < 9223372036854775808) : rtext_m T m = (s, advR T (otext_m s).length) := by
  have e0 : (s.length : Int) % 18446744073709551616 = s.length := by omega
  have eo : otext_m s = numB s.length ++ s := by unfold otext_m; rw [e0]
  rw [eo] at h ⊢
  rw [List.append_assoc] at h
  have e := rint_at h (by omega) hm
  have h2 := h.adv
  have hl := h2.len
  have h20 := h2.a0
  rw [List.length_append] at hl
  have hc : ¬ rtext_c1 T m = true := by
    rw [rtext_c1_iff, e]; simp only
    have : (advR T (numB (s.length : Int)).length).s = T.s := rfl
    omega
  unfold rtext_m
  rw [if_neg hc, e, if_pos (show (advR T (numB (s.length : Int)).length).f.e = 0 from h.e)]
  simp only
  have ht : ((advR T (numB (s.length : Int)).length).s.take ((advR T (numB (s.length : Int)).length).a + s.length).toNat).drop (advR T (numB (s.length : Int)).length).a.toNat = s := by
    rw [List.drop_take, h2.d, show ((advR T (numB (s.length : Int)).length).a + (s.length : Int)).toNat - (advR T (numB (s.length : Int)).length).a.toNat = s.length by omega, List.take_left]
  rw [ht, List.length_append]
  congr 1
  unfold advR; simp only
  congr 1; omega
theorem osigned_z {u : Int} (h : -9223372036854775808 ≤ u ∧ u ≤ 9223372036854775807) : osigned_m u = numB (if 0 ≤ u then 2 * u else 0 - 2 * u - 1) := by
  unfold osigned_m
  split
  · rw [show (u / 9223372036854775808) % 18446744073709551616 = 0 by omega, u64_xor_zero (by omega)]
    congr 1; omega
  · rw [show (u / 9223372036854775808) % 18446744073709551616 = 18446744073709551615 by omega, u64_xor_ones (by omega)]
    congr 1; omega
theorem rsigned_at {T : RdM} {u : Int} {r : List UInt8} (h : AtR T (osigned_m u ++ r)) (hu : -9223372036854775808 ≤ u ∧ u ≤ 9223372036854775807) : oRsigned_m T = (u, advR T (osigned_m u).length) := by
  rw [osigned_z hu] at h ⊢
  have e := rnum_at h (by split <;> omega)
  unfold oRsigned_m
  rw [e]
  simp only
  rw [and_one (by split <;> omega)]
  have hw : ∀ x : Int, 0 ≤ x → x < 18446744073709551616 → IntKind.i64.wrap (x / 2) = x / 2 := fun x h0 h1 => by rw [IntKind.wrap_i64]; omega
  split
  · rw [hw _ (by omega) (by omega), show 2 * u % 2 = 0 by omega, show (0 : Int) - 0 = 0 from rfl, i64_xor_zero (by omega)]
    congr 1; omega
  · rw [hw _ (by omega) (by omega), show (0 - 2 * u - 1) % 2 = 1 by omega, show (0 : Int) - 1 = -1 from rfl, i64_xor_ones (by omega)]
    congr 1; omega
def tagIn (t : TagM) : Prop := 0 ≤ t.id.origin ∧ t.id.origin ≤ 7 ∧ 1 ≤ t.id.seq ∧ t.id.seq ≤ 1048576 ∧ 0 ≤ t.n ∧ t.n ≤ 15
theorem tagIn_of {t : TagM} (h : icheckTag_m t = 0) (h0 : 0 ≤ t.id.seq) : tagIn t := by
  rw [icheckTag_z] at h
  split at h
  · cases h
  · split at h
    · cases h
    · unfold tagIn; omega
theorem iread_at {T : RdM} {i : IdM} {r : List UInt8} (h : AtR T (iwrite_m i ++ r)) (hi : 0 ≤ i.origin ∧ i.origin ≤ 7 ∧ 1 ≤ i.seq ∧ i.seq ≤ 1048576) : iread_m T = (i, advR T (iwrite_m i).length) := by
  have hc : icheck_m i = 0 := by unfold icheck_m; rw [if_neg (fun q => by have := (icheck_c1_iff i).1 q; omega)]
  have ew : iwrite_m i = numB i.origin ++ numB i.seq := by
    unfold iwrite_m; rw [if_pos hc, show i.origin % 18446744073709551616 = i.origin by omega, show i.seq % 18446744073709551616 = i.seq by omega]
  rw [ew] at h ⊢
  rw [List.append_assoc] at h
  have e1 := rint_at h (m := 7) (by omega) (by decide)
  have h2 := h.adv
  have e2 := rint_at h2 (m := 1048576) (by omega) (by decide)
  unfold iread_m
  rw [e1]; simp only; rw [e2]; simp only
  rw [show i.seq % 4294967296 = i.seq by omega, if_neg (by omega), if_pos (show (advR (advR T (numB i.origin).length) (numB i.seq).length).f.e = 0 from h.e), advR_adv, List.length_append]
theorem readTag_at {T : RdM} {t : TagM} {r : List UInt8} (h : AtR T (iwriteTag_m t ++ r)) (ht : tagIn t) : ireadTag_m T = (t, advR T (iwriteTag_m t).length) := by
  obtain ⟨t1, t2, t3, t4, t5, t6⟩ := ht
  have hc : icheckTag_m t = 0 := by rw [icheckTag_z, if_neg (by omega), if_neg (by omega)]
  have ew : iwriteTag_m t = iwrite_m t.id ++ numB t.n := by
    unfold iwriteTag_m; rw [if_pos hc, show t.n % 18446744073709551616 = t.n by omega]
  rw [ew] at h ⊢
  rw [List.append_assoc] at h
  have e1 := iread_at h ⟨t1, t2, t3, t4⟩
  have h2 := h.adv
  have e2 := rint_at h2 (m := 15) (by omega) (by decide)
  unfold ireadTag_m
  rw [e1]; simp only; rw [e2]; simp only
  rw [if_pos (show (advR (advR T (iwrite_m t.id).length) (numB t.n).length).f.e = 0 from h.e), advR_adv, List.length_append]
theorem lread_at {T : RdM} {s : StampM} {r : List UInt8} (h : AtR T (lwrite_m s ++ r)) (hc : lcheck_m s = 0) (h0 : 0 ≤ s.time) : lread_m T = (s, advR T (lwrite_m s).length) := by
  have hb : s.time ≤ 1048576 ∧ 0 ≤ s.origin ∧ s.origin < 8 := by
    unfold lcheck_m at hc
    split at hc
    · cases hc
    · rename_i q
      have hq := mt (lcheck_c1_iff s).2 q
      have h1 : ¬ 1048576 < s.time := fun z => hq (.inl z)
      have h2 : lthere_m s.origin = true := Classical.byContradiction fun z => hq (.inr z)
      have := (lthere_iff _).1 h2
      omega
  have ew : lwrite_m s = numB s.time ++ numB s.origin := by
    unfold lwrite_m; rw [if_pos hc, show s.origin % 18446744073709551616 = s.origin by omega, show s.time % 18446744073709551616 = s.time by omega]
  rw [ew] at h ⊢
  rw [List.append_assoc] at h
  have e1 := rint_at h (m := 1048576) (by omega) (by decide)
  have h2 := h.adv
  have e2 := rint_at h2 (m := 7) (by omega) (by decide)
  unfold lread_m
  rw [e1]; simp only; rw [e2]; simp only
  rw [if_pos (show (advR (advR T (numB s.time).length) (numB s.origin).length).f.e = 0 from h.e), show s.time % 4294967296 = s.time by omega, advR_adv, List.length_append]
theorem tags_at (t : RdM) (L : Nat → Int → List TagM → RdM → (EffectM × RdM) ⊕ (Int × (List TagM) × RdM)) (c : Int → List TagM → RdM → Bool) (hL0 : ∀ a b T, L 0 a b T = .inr (a, b, T)) (hL : ∀ fuel a b T, L (fuel + 1) a b T = if c a b T = true then L fuel (a - 1) (b ++ [(ireadTag_m T).1]) (ireadTag_m T).2 else .inr (a, b, T)) (hc : ∀ a b T, c a b T = true ↔ (0 < a ∧ T.f.e = 0)) :
    ∀ (tags acc : List TagM) (T : RdM) (r : List UInt8) (fuel : Nat), (∀ x ∈ tags, tagIn x) → AtR T (tags.flatMap iwriteTag_m ++ r) → tags.length < fuel → L fuel (tags.length : Int) acc T = .inr (0, acc ++ tags, advR T (tags.flatMap iwriteTag_m).length)
  | [], acc, T, r, fuel + 1, hx, h, hf => by
    rw [hL, if_neg (by rw [hc]; simp)]
    simp [advR]
  | x :: tags, acc, T, r, fuel + 1, hx, h, hf => by
    rw [List.flatMap_cons, List.append_assoc] at h
    have e1 := readTag_at h (hx x (by simp))
    have h2 := h.adv
    have ih := tags_at t L c hL0 hL hc tags (acc ++ [x]) _ r fuel (fun y hy => hx y (by simp [hy])) h2 (by simp at hf; omega)
    rw [hL, if_pos ((hc _ _ _).2 ⟨by first | (simp; done) | (simp; omega), h.e⟩), e1]
    simp only
    rw [show ((x :: tags).length : Int) - 1 = tags.length by simp, ih, advR_adv, List.flatMap_cons, List.length_append, List.append_assoc]
    rfl
def effB (e : EffectM) : List UInt8 := numB e.act ++ (otext_m e.name ++ (osigned_m e.val ++ (iwriteTag_m e.tag ++ ((if (oform_m e.act).atF = true then lwrite_m e.atF else []) ++ (if (oform_m e.act).tags = true then numB e.tags.length ++ e.tags.flatMap iwriteTag_m else [])))))
theorem wtags (L : Nat → List UInt8 → Int → ((List UInt8) × Int) ⊕ ((List UInt8) × Int)) (tags : List TagM) (hL : ∀ fuel a i, L (fuel + 1) a i = if i < (tags.length : Int) then L fuel (a ++ iwriteTag_m (ix tags i)) (i + 1) else .inr (a, i)) :
    ∀ (fuel : Nat) (a : List UInt8) (i : Int), 0 ≤ i → i ≤ tags.length → (tags.length : Int) - i < fuel → ∃ j, L fuel a i = .inr (a ++ (tags.drop i.toNat).flatMap iwriteTag_m, j)
  | 0, a, i, h0, h1, h2 => by omega
  | fuel + 1, a, i, h0, h1, h2 => by
    rw [hL]
    by_cases hi : i < tags.length
    · rw [if_pos hi]
      obtain ⟨j, e⟩ := wtags L tags hL fuel (a ++ iwriteTag_m (ix tags i)) (i + 1) (by omega) (by omega) (by omega)
      refine ⟨j, ?_⟩
      rw [e, ix_drop tags h0 hi, List.flatMap_cons, List.append_assoc]
    · rw [if_neg hi]
      refine ⟨i, ?_⟩
      rw [show i.toNat = tags.length by omega, List.drop_length]; simp
theorem owrite_z {e : EffectM} (h : ocheckE_m e = 0) (ha : 0 ≤ e.act ∧ e.act ≤ 6) (hl : e.tags.length ≤ 1000000) : owrite_m e = (effB e, 0) := by
  have e0 : e.act % 18446744073709551616 = e.act := by omega
  have e1 : (e.tags.length : Int) % 18446744073709551616 = e.tags.length := by omega
  unfold owrite_m effB
  rw [if_pos h, e0, e1]
  by_cases c1 : (oform_m e.act).atF = true
  · by_cases c2 : (oform_m e.act).tags = true
    · rw [if_pos c1, if_pos c2, if_pos c1, if_pos c2]
      obtain ⟨j, q⟩ := wtags (owrite_L1 e) e.tags (fun _ _ _ => rfl) (((e.tags.length : Int) - (0 : Int)).toNat + 1) ((((((numB e.act) ++ (otext_m e.name)) ++ (osigned_m e.val)) ++ (iwriteTag_m e.tag)) ++ (lwrite_m e.atF)) ++ (numB (e.tags.length : Int))) 0 (by decide) (by omega) (by omega)
      rw [q]; simp
    · rw [if_pos c1, if_neg c2, if_pos c1, if_neg c2]; simp
  · by_cases c2 : (oform_m e.act).tags = true
    · rw [if_neg c1, if_pos c2, if_neg c1, if_pos c2]
      obtain ⟨j, q⟩ := wtags (owrite_L2 e) e.tags (fun _ _ _ => rfl) (((e.tags.length : Int) - (0 : Int)).toNat + 1) (((((numB e.act) ++ (otext_m e.name)) ++ (osigned_m e.val)) ++ (iwriteTag_m e.tag)) ++ (numB (e.tags.length : Int))) 0 (by decide) (by omega) (by omega)
      rw [q]; simp
    · rw [if_neg c1, if_neg c2, if_neg c1, if_neg c2]; simp
structure EffIn (e : EffectM) : Prop where
  c : ocheckE_m e = 0
  a : 0 ≤ e.act ∧ e.act ≤ 6
  n : (e.name.length : Int) ≤ 12
  v : -9223372036854775808 ≤ e.val ∧ e.val ≤ 9223372036854775807
  t : tagIn e.tag
  at1 : (oform_m e.act).atF = true → lcheck_m e.atF = 0 ∧ 0 ≤ e.atF.time
  at0 : ¬ (oform_m e.act).atF = true → e.atF = ⟨0, 0⟩
  ts1 : ∀ x ∈ e.tags, tagIn x
  ts0 : ¬ (oform_m e.act).tags = true → e.tags = []
  tl : e.tags.length ≤ 4096
theorem rfail_z (t : RdM) : rfail_m t 0 = t := by unfold rfail_m; rw [if_neg (fun hc => ((rfail_c1_iff t 0).1 hc).2 rfl)]
theorem advR_e (T : RdM) (k : Nat) : (advR T k).f.e = T.f.e := rfl
theorem oread_at {T : RdM} {e : EffectM} {r : List UInt8} (h : AtR T (effB e ++ r)) (he : EffIn e) : oread_m T = (e, advR T (effB e).length) := by
  have hc := he.c
  obtain ⟨act, name, val, tag, atF, tags⟩ := e
  have hlen : ∀ b : List UInt8, effB ⟨act, name, val, tag, atF, tags⟩ = b → (effB ⟨act, name, val, tag, atF, tags⟩).length = b.length := fun b q => by rw [q]
  unfold effB at h
  simp only [List.append_assoc] at h
  have e1 := rint_at h (m := 6) he.a (by decide)
  have h1 := h.adv
  have e2 := rtext_at h1 (m := 12) he.n (by decide)
  have h2 := h1.adv
  have e3 := rsigned_at h2 he.v
  have h3 := h2.adv
  have e4 := readTag_at h3 he.t
  have h4 := h3.adv
  try simp only at e1 e2 e3 e4 h4 hc
  have ex1 : (⟨(⟨tag.id.origin, tag.id.seq⟩ : IdM), tag.n⟩ : TagM) = tag := rfl
  by_cases c1 : (oform_m act).atF = true
  · rw [if_pos c1] at h4
    have e5 := lread_at h4 (he.at1 c1).1 (he.at1 c1).2
    have h5 := h4.adv
    try simp only at e5 h5
    have ex2 : (⟨atF.time, atF.origin⟩ : StampM) = atF := rfl
    by_cases c2 : (oform_m act).tags = true
    · rw [if_pos c2] at h5
      rw [List.append_assoc] at h5
      have e6 := rint_at h5 (m := 4096) (by have := he.tl; simp only at this; omega) (by decide)
      have h6 := h5.adv
      have e7 := tags_at T (oread_L1 T) (oread_c1 T) (fun _ _ _ => rfl) (fun _ _ _ _ => rfl) (fun a b q => oread_c1_iff T a b q) tags [] _ r (((tags.length : Int)).toNat + 1) he.ts1 h6 (by omega)
      unfold oread_m
      simp only [e1, e2, e3, e4, e5, e6, e7, c1, c2, if_true, List.nil_append, hc, rfail_z, ex1, ex2]
      simp only [advR_e, h.e, if_true]
      simp only [advR_adv]
      unfold effB
      rw [if_pos c1, if_pos c2]
      simp only [List.length_append, Nat.add_assoc]
    · rw [if_neg c2, List.nil_append] at h5
      have ht := he.ts0 c2
      simp only at ht
      unfold oread_m
      simp only [e1, e2, e3, e4, e5, c1, c2, if_true, if_false, rfail_z, ex1, ex2, Bool.false_eq_true]
      subst ht
      simp only [hc, rfail_z]
      simp only [advR_e, h.e, if_true]
      simp only [advR_adv]
      unfold effB
      rw [if_pos c1, if_neg c2]
      simp only [List.length_append, Nat.add_assoc, List.length_nil, Nat.add_zero]
  · rw [if_neg c1, List.nil_append] at h4
    have ha := he.at0 c1
    simp only at ha
    subst ha
    by_cases c2 : (oform_m act).tags = true
    · rw [if_pos c2] at h4
      rw [List.append_assoc] at h4
      have e6 := rint_at h4 (m := 4096) (by have := he.tl; simp only at this; omega) (by decide)
      have h6 := h4.adv
      have e7 := tags_at T (oread_L2 T) (oread_c2 T) (fun _ _ _ => rfl) (fun _ _ _ _ => rfl) (fun a b q => oread_c2_iff T a b q) tags [] _ r (((tags.length : Int)).toNat + 1) he.ts1 h6 (by omega)
      unfold oread_m
      simp only [e1, e2, e3, e4, e6, e7, c1, c2, if_true, if_false, List.nil_append, hc, rfail_z, ex1, Bool.false_eq_true]
      simp only [advR_e, h.e, if_true]
      simp only [advR_adv]
      unfold effB
      rw [if_neg c1, if_pos c2]
      simp only [List.length_append, Nat.add_assoc, List.length_nil, Nat.zero_add]
    · rw [if_neg c2, List.nil_append] at h4
      have ht := he.ts0 c2
      simp only at ht
      subst ht
      unfold oread_m
      simp only [e1, e2, e3, e4, c1, c2, if_true, if_false, rfail_z, ex1, Bool.false_eq_true, hc]
      simp only [advR_e, h.e, if_true]
      simp only [advR_adv]
      unfold effB
      rw [if_neg c1, if_neg c2]
      simp only [List.length_append, Nat.add_assoc, List.length_nil, Nat.add_zero]
end Go.Proofs.YtdckemiebnfjcaaGreatDoor
end

section
set_option linter.unusedSimpArgs false
set_option linter.unusedVariables false
namespace Go.Proofs.YtdckemiebnfjcaaGreatDoor
open Go.RowKit
theorem oTags_z (s : SetM) (elem : List UInt8) : oTags_m s elem = if ocheck_m s = 0 then (s.adds.filter (fun x => decide (x.elem = elem))).map (·.tag) else [] := by
  unfold oTags_m
  split
  · rw [loop_fold0 s.adds (fun acc x => if decide (x.elem = elem) = true then acc ++ [x.tag] else acc) (oTags_L1 s elem) (fun fuel b i _ => by rw [oTags_L1]; by_cases h : (ix s.adds i).elem = elem <;> simp [h])]
    simp only [foldl_filter_app, List.nil_append]
  · rfl
theorem mTags_z (s : MapM) (field : List UInt8) : mTags_m s field = if mcheck_m s = 0 then (s.puts.filter (fun x => decide (x.field = field))).map (·.tag) else [] := by
  unfold mTags_m mof_m
  split
  · rw [deleteF_eq, mtags_eq]
    unfold clonePut_m
    congr 2
    funext x
    unfold mof1_m
    by_cases h : x.field = field <;> simp [h]
  · rfl
theorem fine_of {s : SetM} (h : ocheck_m s = 0) : SetFine s := by
  have ok := setOk_of h
  unfold ocheck_m at h
  split at h
  · cases h
  split at h
  · cases h
  rename_i c2
  split at h
  · split at h
    · cases h
    rename_i c4
    rw [ocheck_c2_iff, containsF_eq, containsF_eq] at c2
    rw [ocheck_c3_iff, containsF_eq] at c4
    refine ⟨ok.la, ok.lg, fun a ha => ?_, fun t ht => ?_, ok.ra, ok.rg, fun a ha => ?_, ok.dj⟩
    · exact Classical.byContradiction fun q => c2 (.inl (List.any_eq_true.2 ⟨a, ha, by unfold ocheck1_m onotTag_m; simpa using q⟩))
    · exact Classical.byContradiction fun q => c2 (.inr (List.any_eq_true.2 ⟨t, ht, by unfold onotTag_m; simpa using q⟩))
    · exact Classical.byContradiction fun q => c4 (.inr (List.any_eq_true.2 ⟨a, ha, by unfold ocheck3_m; rw [if_neg q]⟩))
  · cases h
theorem mfine_of {s : MapM} (h : mcheck_m s = 0) : MapFine s := by
  have ok := mapOk_of h
  unfold mcheck_m at h
  split at h
  · cases h
  split at h
  · cases h
  rename_i c2
  split at h
  · cases h
  rw [mcheck_c2_iff, containsF_eq, containsF_eq, mtags_eq] at c2
  obtain ⟨q5, l5⟩ := loop_all0 s.puts (fun p => mright_m p && !decide (p.tag ∈ s.gone)) 3 (mcheck_L1 s) (fun fuel i _ => by
    rw [mcheck_L1]
    split
    · have := mcheck_c4_iff s i
      rw [has_eq ok.rg] at this
      by_cases x1 : mright_m (ix s.puts i) = true <;> by_cases x2 : (ix s.puts i).tag ∈ s.gone <;> simp [this, x1, x2]
    · rfl)
  rw [l5] at h
  refine ⟨ok.lp, ok.lg, fun a ha => ?_, fun t ht => ?_, ok.rp, ok.rg, fun a ha => ?_, ok.dj⟩
  · exact Classical.byContradiction fun q => c2 (.inl (List.any_eq_true.2 ⟨a.tag, List.mem_map_of_mem ha, by unfold mnotTag_m; simpa using q⟩))
  · exact Classical.byContradiction fun q => c2 (.inr (List.any_eq_true.2 ⟨t, ht, by unfold mnotTag_m; simpa using q⟩))
  · by_cases q : s.puts.all (fun p => mright_m p && !decide (p.tag ∈ s.gone)) = true
    · have := List.all_eq_true.1 q a ha
      simp at this; exact this.1
    · rw [if_neg q] at h; cases h
theorem filter_rises {α : Type} (key : α → TagM) (p : α → Bool) {l : List α} (h : Rises (l.map key)) : Rises ((l.filter p).map key) := by
  unfold Rises at *
  exact h.sublist (List.filter_sublist.map _)
structure TagsIn (l : List TagM) : Prop where
  f : ∀ x ∈ l, icheckTag_m x = 0 ∧ 0 ≤ x.id.seq
  r : Rises l
  n : l.length ≤ 1000
theorem TagsIn.nil : TagsIn [] := ⟨by simp, List.Pairwise.nil, by simp⟩
theorem oTags_in {s : SetM} (hw : ∀ a ∈ s.adds, 0 ≤ a.tag.id.seq) (hl : s.adds.length ≤ 1000) (elem : List UInt8) : TagsIn (oTags_m s elem) := by
  rw [oTags_z]
  split
  · rename_i h
    have hf := fine_of h
    refine ⟨fun x hx => ?_, filter_rises _ _ hf.ra, ?_⟩
    · obtain ⟨a, ha, rfl⟩ := List.mem_map.1 hx
      have ha := (List.mem_filter.1 ha).1
      exact ⟨hf.ta a ha, hw a ha⟩
    · rw [List.length_map]; exact Nat.le_trans (List.length_filter_le _ _) hl
  · exact TagsIn.nil
theorem mTags_in {s : MapM} (hw : ∀ a ∈ s.puts, 0 ≤ a.tag.id.seq) (hl : s.puts.length ≤ 1000) (field : List UInt8) : TagsIn (mTags_m s field) := by
  rw [mTags_z]
  split
  · rename_i h
    have hf := mfine_of h
    refine ⟨fun x hx => ?_, filter_rises _ _ hf.ra, ?_⟩
    · obtain ⟨a, ha, rfl⟩ := List.mem_map.1 hx
      have ha := (List.mem_filter.1 ha).1
      exact ⟨hf.ta a ha, hw a ha⟩
    · rw [List.length_map]; exact Nat.le_trans (List.length_filter_le _ _) hl
  · exact TagsIn.nil
theorem checkE_L1 {e : EffectM} (h : Rises e.tags) : ∀ (fuel : Nat) (i : Int), 1 ≤ i → ∃ j, ocheckE_L1 e fuel i = .inr j
  | 0, i, _ => ⟨i, rfl⟩
  | fuel + 1, i, hi => by
    rw [ocheckE_L1]
    by_cases hl : i < (e.tags.length : Int)
    · rw [if_pos hl]
      have hp := List.pairwise_iff_getElem.1 h (i - 1).toNat i.toNat (by omega) (by omega) (by omega)
      have hc := (tagCmp_neg _ _).2 hp
      rw [← icompareTag_eq] at hc
      have e1 : ix e.tags (i - 1) = e.tags[(i - 1).toNat]'(by omega) := by unfold ix; rw [List.getElem?_eq_getElem (by omega)]; rfl
      have e2 : ix e.tags i = e.tags[i.toNat]'(by omega) := by unfold ix; rw [List.getElem?_eq_getElem (by omega)]; rfl
      rw [if_neg (by rw [e1, e2]; omega)]
      exact checkE_L1 h fuel (i + 1) (by omega)
    · rw [if_neg hl]; exact ⟨i, rfl⟩
theorem timed_max : otimed_m (⟨1048576, 7⟩ : StampM) = true := by decide
theorem effIn_mk {act : Int} {name : List UInt8} {val : Int} {tag : TagM} {atF : StampM} {tags : List TagM} (ho : ocheckOp_m ⟨act, name, val⟩ = 0) (ha : 1 ≤ act ∧ act ≤ 6) (ht : icheckTag_m tag = 0) (h0 : 0 ≤ tag.id.seq) (hv : -9223372036854775808 ≤ val ∧ val ≤ 9223372036854775807)
    (hts : TagsIn tags) (h1 : (oform_m act).atF = true → atF = ⟨1048576, 7⟩) (h2 : ¬ (oform_m act).atF = true → atF = ⟨0, 0⟩) (h3 : ¬ (oform_m act).tags = true → tags = []) : EffIn ⟨act, name, val, tag, atF, tags⟩ := by
  have hn : (name.length : Int) ≤ 12 := by
    unfold ocheckOp_m at ho
    split at ho
    · cases ho
    split at ho
    · cases ho
    rename_i o1
    split at ho
    · cases ho
    rename_i o2
    unfold ocheckOp_c1 at o1
    unfold ocheckOp_c2 at o2
    simp only at o1 o2
    by_cases q : (oform_m act).name = true
    · rw [if_pos q] at o1
      have o1 : oelem_m name = true := by simpa using o1
      unfold oelem_m at o1
      split at o1
      · cases o1
      · exact of_decide_eq_true o1
    · rw [if_neg q] at o2
      have : name = [] := by simpa using o2
      subst this; simp
  have hlen := hts.n
  refine ⟨?_, by simp only; omega, hn, hv, tagIn_of ht h0, fun q => ?_, h2, fun x hx => tagIn_of (hts.f x hx).1 (hts.f x hx).2, h3, by simp only; omega⟩
  · have n1 : ¬ ocheckE_c1 ⟨act, name, val, tag, atF, tags⟩ = true := by
      rw [ocheckE_c1_iff, containsF_eq]
      rintro (q | q)
      · unfold bnotTag_m at q; simp only at q; rw [ht] at q; simp at q
      · obtain ⟨x, hx, h⟩ := List.any_eq_true.1 q
        unfold bnotTag_m at h; rw [(hts.f x hx).1] at h; simp at h
    have n2 : ¬ ocheckE_c2 ⟨act, name, val, tag, atF, tags⟩ = true := by
      unfold ocheckE_c2
      simp only
      by_cases q : (oform_m act).atF = true
      · rw [if_pos q, h1 q, if_pos timed_max]
        by_cases z : (oform_m act).tags = true
        · rw [if_pos z]; simp
        · rw [if_neg z, h3 z]; simp
      · rw [if_neg q, if_pos (h2 q)]
        by_cases z : (oform_m act).tags = true
        · rw [if_pos z]; simp
        · rw [if_neg z, h3 z]; simp
    obtain ⟨j, hj⟩ := checkE_L1 (e := ⟨act, name, val, tag, atF, tags⟩) hts.r (((tags.length : Int) - (1 : Int)).toNat + 1) 1 (by decide)
    unfold ocheckE_m
    rw [if_pos ho, if_neg n1, if_neg (by simp only; omega), if_neg n2]
    simp only at hj ⊢
    rw [hj]
  · have := h1 q
    simp only at this ⊢
    rw [this]
    exact ⟨by decide, by decide⟩
theorem kind_act {a : Int} (h : ¬ okind_m a = 0) : a = 1 ∨ a = 2 ∨ a = 3 ∨ a = 4 ∨ a = 5 ∨ a = 6 := by
  unfold okind_m at h
  by_cases h1 : a = 1
  · exact .inl h1
  by_cases h2 : a = 2
  · exact .inr (.inl h2)
  by_cases h3 : a = 3
  · exact .inr (.inr (.inl h3))
  by_cases h4 : a = 4
  · exact .inr (.inr (.inr (.inl h4)))
  by_cases h5 : a = 5
  · exact .inr (.inr (.inr (.inr (.inl h5))))
  by_cases h6 : a = 6
  · exact .inr (.inr (.inr (.inr (.inr h6))))
  simp [h1, h2, h3, h4, h5, h6] at h
theorem op_act {o : OpM} (h : ocheckOp_m o = 0) : o.act = 1 ∨ o.act = 2 ∨ o.act = 3 ∨ o.act = 4 ∨ o.act = 5 ∨ o.act = 6 := by
  unfold ocheckOp_m at h
  split at h
  · cases h
  · rename_i q; exact kind_act q
theorem prep_in {s : ObjM} {o : OpM} {tag : TagM} (h : (oprepare_m s o tag ⟨1048576, 7⟩).2 = 0) (h0 : 0 ≤ tag.id.seq) (hv : -9223372036854775808 ≤ o.val ∧ o.val ≤ 9223372036854775807) (hs : TagsIn (oTags_m s.setF o.name)) (hm : TagsIn (mTags_m s.map o.name)) :
    EffIn (oprepare_m s o tag ⟨1048576, 7⟩).1 ∧ okind_m o.act = s.kind ∧ (oprepare_m s o tag ⟨1048576, 7⟩).1.act = o.act ∧ (oprepare_m s o tag ⟨1048576, 7⟩).1.name = o.name ∧ (oprepare_m s o tag ⟨1048576, 7⟩).1.val = o.val ∧ (o.act = 1 → (oprepare_m s o tag ⟨1048576, 7⟩).1.atF = ⟨1048576, 7⟩) ∧ (o.act = 4 → (oprepare_m s o tag ⟨1048576, 7⟩).1.tags = oTags_m s.setF o.name) ∧ (o.act = 6 → (oprepare_m s o tag ⟨1048576, 7⟩).1.tags = mTags_m s.map o.name) := by
  unfold oprepare_m at h ⊢
  by_cases c1 : ocheckOp_m o = 0
  · rw [if_pos c1] at h ⊢
    by_cases c2 : okind_m o.act = s.kind
    · rw [if_pos c2] at h ⊢
      by_cases c3 : bnotTag_m tag = true
      · rw [if_pos c3] at h; cases h
      · rw [if_neg c3, if_pos timed_max] at *
        have ht : icheckTag_m tag = 0 := by unfold bnotTag_m at c3; simpa using c3
        have ha := op_act c1
        have eta : (⟨o.act, o.name, o.val⟩ : OpM) = o := rfl
        rcases ha with ha | ha | ha | ha | ha | ha
        · rw [if_pos ha]
          refine ⟨effIn_mk (eta ▸ c1) (by omega) ht h0 hv TagsIn.nil (fun _ => rfl) (fun q => absurd (by rw [ha]; rfl) q) (fun _ => rfl), c2, rfl, rfl, rfl, fun _ => rfl, fun q => by omega, fun q => by omega⟩
        · rw [if_neg (by omega), if_neg (by omega), if_neg (by omega), if_neg (by omega)]
          refine ⟨effIn_mk (eta ▸ c1) (by omega) ht h0 hv TagsIn.nil (fun q => by rw [ha] at q; cases q) (fun _ => rfl) (fun _ => rfl), c2, rfl, rfl, rfl, fun q => by omega, fun q => by omega, fun q => by omega⟩
        · rw [if_neg (by omega), if_neg (by omega), if_neg (by omega), if_neg (by omega)]
          refine ⟨effIn_mk (eta ▸ c1) (by omega) ht h0 hv TagsIn.nil (fun q => by rw [ha] at q; cases q) (fun _ => rfl) (fun _ => rfl), c2, rfl, rfl, rfl, fun q => by omega, fun q => by omega, fun q => by omega⟩
        · rw [if_neg (by omega), if_neg (by omega), if_pos ha]
          refine ⟨effIn_mk (eta ▸ c1) (by omega) ht h0 hv hs (fun q => by rw [ha] at q; cases q) (fun _ => rfl) (fun q => absurd (by rw [ha]; rfl) q), c2, rfl, rfl, rfl, fun q => by omega, fun _ => rfl, fun q => by omega⟩
        · rw [if_neg (by omega), if_pos ha]
          refine ⟨effIn_mk (eta ▸ c1) (by omega) ht h0 hv TagsIn.nil (fun _ => rfl) (fun q => absurd (by rw [ha]; rfl) q) (fun _ => rfl), c2, rfl, rfl, rfl, fun q => by omega, fun q => by omega, fun q => by omega⟩
        · rw [if_neg (by omega), if_neg (by omega), if_neg (by omega), if_pos ha]
          refine ⟨effIn_mk (eta ▸ c1) (by omega) ht h0 hv hm (fun q => by rw [ha] at q; cases q) (fun _ => rfl) (fun q => absurd (by rw [ha]; rfl) q), c2, rfl, rfl, rfl, fun q => by omega, fun q => by omega, fun _ => rfl⟩
    · rw [if_neg c2] at h; cases h
  · rw [if_neg c1] at h; exact absurd h c1
end Go.Proofs.YtdckemiebnfjcaaGreatDoor
end

section
set_option linter.unusedSimpArgs false
set_option linter.unusedVariables false
namespace Go.Proofs.YtdckemiebnfjcaaGreatDoor
open Go.RowKit
def rLt (a b : RegM) : Prop := a.atF.time < b.atF.time ∨ (a.atF.time = b.atF.time ∧ (a.atF.origin < b.atF.origin ∨ (a.atF.origin = b.atF.origin ∧ a.val < b.val)))
def pstep (m : List (List UInt8 × PutM)) (p : PutM) : List (List UInt8 × PutM) := match mget m p.field with | none => mset m p.field p | some q => if mlater_m q p < 0 then mset m p.field p else m
theorem mitems_z (s : MapM) : mitems_m s = if mcheck_m s = 0 then sortI ((s.puts.foldl pstep []).map (fun p : List UInt8 × PutM => (⟨p.1, p.2.val⟩ : ItemM))) else [] := by
  unfold mitems_m
  rw [loop_fold0' s.puts pstep (mitems_L1 s) (fun fuel b i _ => by
    rw [mitems_L1]
    have hc : pstep b (ix s.puts i) = if mitems_c1 s i b = true then mset b (ix s.puts i).field (ix s.puts i) else b := by
      unfold pstep mitems_c1
      cases hg : mget b (ix s.puts i).field with
      | none => simp
      | some q => simp
    rw [hc]
    by_cases q : mitems_c1 s i b = true
    · simp [q]
    · simp [q])]
theorem mset_keys {α β : Type} [DecidableEq α] : ∀ (m : List (α × β)) (k : α) (v : β), (mset m k v).map (·.1) = if k ∈ m.map (·.1) then m.map (·.1) else m.map (·.1) ++ [k]
  | [], k, v => by simp [mset]
  | e :: r, k, v => by
    unfold mset
    split
    · rename_i h; rw [if_pos (by simp [h])]; simp [h]
    · rename_i h
      rw [List.map_cons, mset_keys r k v, List.map_cons]
      by_cases q : k ∈ r.map (·.1)
      · rw [if_pos q, if_pos (by simp [q])]
      · rw [if_neg q, if_neg (by rw [List.mem_cons]; rintro (g | g); exact h g.symm; exact q g)]; rfl
theorem cmpL_z (x y : Int) : cmpL_m x y = if x < y then -1 else if y < x then 1 else 0 := by unfold cmpL_m nanL_m; simp
theorem cmpOrE_z (a b : Int) : cmpOrE_m [a, b] = if a = 0 then b else a := by
  unfold cmpOrE_m
  rw [show (((([a, b] : List Int).length : Int) - (0 : Int)).toNat + 1) = 3 from rfl]
  simp only [cmpOrE_L1, ix, List.length_cons, List.length_nil]
  by_cases ha : a = 0 <;> by_cases hb : b = 0 <;> simp [ha, hb]
theorem wmerge_z (a b : RegM) : (rLt a b → wmerge_m a b = b) ∧ (¬ rLt a b → wmerge_m a b = a) := by
  have : (cmpOr_m [lcompare_m a.atF b.atF, cmpL_m a.val b.val] < 0) ↔ rLt a b := by
    rw [cmpOr2, cmpL_z]
    unfold lcompare_m
    rw [cmpOr2, cmpU_eq, cmpI_eq]
    unfold rLt
    by_cases h1 : a.atF.time < b.atF.time
    · simp [h1]
    · by_cases h2 : b.atF.time < a.atF.time
      · simp [h1, h2]; omega
      · by_cases h3 : a.atF.origin < b.atF.origin
        · have e : a.atF.time = b.atF.time := by omega
          simp [h3, e]
        · by_cases h4 : b.atF.origin < a.atF.origin
          · have e : a.atF.time = b.atF.time := by omega
            simp [h3, h4, e]; omega
          · have e : a.atF.time = b.atF.time := by omega
            have e2 : a.atF.origin = b.atF.origin := by omega
            by_cases h5 : a.val < b.val
            · simp [e, e2, h5]
            · by_cases h6 : b.val < a.val
              · simp [e, e2, h5, h6]
              · simp [e, e2, h5, h6]
  unfold wmerge_m
  exact ⟨fun h => if_pos (this.2 h), fun h => if_neg (fun q => h (this.1 q))⟩
theorem oapply_bad {k : Int} {s : ObjM} {e : EffectM} (hs : s.kind = k) (h : (oapply_m s e).2 = 0) : ocheckE_m e = 0 ∧ okind_m e.act = k := by
  by_cases h1 : ocheckE_m e = 0
  · by_cases h2 : okind_m e.act = s.kind
    · exact ⟨h1, h2.trans hs⟩
    · have : oapply_m s e = (⟨0, ⟨0, ⟨0, 0⟩⟩, ⟨0, 0⟩, ⟨[], []⟩, ⟨[], []⟩⟩, 5) := (if_pos h1).trans (if_neg h2)
      rw [this] at h; cases h
  · have : oapply_m s e = (⟨0, ⟨0, ⟨0, 0⟩⟩, ⟨0, 0⟩, ⟨[], []⟩, ⟨[], []⟩⟩, ocheckE_m e) := if_neg h1
    rw [this] at h; exact absurd h h1
def zE : ObjM := ⟨0, ⟨0, ⟨0, 0⟩⟩, ⟨0, 0⟩, ⟨[], []⟩, ⟨[], []⟩⟩
section
variable {s : ObjM} {e : EffectM}
theorem ap_1 (h : (oapply_m s e).2 = 0) (ha : e.act = 1) : (wapply_m s.reg e.val e.atF).2 = 0 ∧ (oapply_m s e).1 = ⟨s.kind, (wapply_m s.reg e.val e.atF).1, s.num, s.setF, s.map⟩ := by
  obtain ⟨c1, c2⟩ := oapply_bad rfl h
  by_cases c3 : (wapply_m s.reg e.val e.atF).2 = 0
  · have q : oapply_m s e = (⟨s.kind, (wapply_m s.reg e.val e.atF).1, s.num, s.setF, s.map⟩, 0) := (if_pos c1).trans ((if_pos c2).trans ((if_pos ha).trans (if_pos c3)))
    exact ⟨c3, by rw [q]⟩
  · have q : oapply_m s e = (zE, (wapply_m s.reg e.val e.atF).2) := (if_pos c1).trans ((if_pos c2).trans ((if_pos ha).trans (if_neg c3)))
    rw [q] at h; exact absurd h c3
theorem ap_2 (h : (oapply_m s e).2 = 0) (ha : e.act = 2) : (napply_m s.num e.val).2 = 0 ∧ (oapply_m s e).1 = ⟨s.kind, s.reg, (napply_m s.num e.val).1, s.setF, s.map⟩ := by
  obtain ⟨c1, c2⟩ := oapply_bad rfl h
  by_cases c3 : (napply_m s.num e.val).2 = 0
  · have q : oapply_m s e = (⟨s.kind, s.reg, (napply_m s.num e.val).1, s.setF, s.map⟩, 0) := (if_pos c1).trans ((if_pos c2).trans ((if_neg (show ¬ e.act = 1 by omega)).trans ((if_pos ha).trans (if_pos c3))))
    exact ⟨c3, by rw [q]⟩
  · have q : oapply_m s e = (zE, (napply_m s.num e.val).2) := (if_pos c1).trans ((if_pos c2).trans ((if_neg (show ¬ e.act = 1 by omega)).trans ((if_pos ha).trans (if_neg c3))))
    rw [q] at h; exact absurd h c3
theorem ap_4 (h : (oapply_m s e).2 = 0) (ha : e.act = 4) : (odrop_m s.setF e.tags).2 = 0 ∧ (oapply_m s e).1 = ⟨s.kind, s.reg, s.num, (odrop_m s.setF e.tags).1, s.map⟩ := by
  obtain ⟨c1, c2⟩ := oapply_bad rfl h
  by_cases c3 : (odrop_m s.setF e.tags).2 = 0
  · have q : oapply_m s e = (⟨s.kind, s.reg, s.num, (odrop_m s.setF e.tags).1, s.map⟩, 0) := (if_pos c1).trans ((if_pos c2).trans ((if_neg (show ¬ e.act = 1 by omega)).trans ((if_neg (show ¬ e.act = 2 by omega)).trans ((if_neg (show ¬ e.act = 3 by omega)).trans ((if_pos ha).trans (if_pos c3))))))
    exact ⟨c3, by rw [q]⟩
  · have q : oapply_m s e = (zE, (odrop_m s.setF e.tags).2) := (if_pos c1).trans ((if_pos c2).trans ((if_neg (show ¬ e.act = 1 by omega)).trans ((if_neg (show ¬ e.act = 2 by omega)).trans ((if_neg (show ¬ e.act = 3 by omega)).trans ((if_pos ha).trans (if_neg c3))))))
    rw [q] at h; exact absurd h c3
theorem ap_6 (h : (oapply_m s e).2 = 0) (ha : e.act = 6) : (mdrop_m s.map e.tags).2 = 0 ∧ (oapply_m s e).1 = ⟨s.kind, s.reg, s.num, s.setF, (mdrop_m s.map e.tags).1⟩ := by
  obtain ⟨c1, c2⟩ := oapply_bad rfl h
  by_cases c3 : (mdrop_m s.map e.tags).2 = 0
  · have q : oapply_m s e = (⟨s.kind, s.reg, s.num, s.setF, (mdrop_m s.map e.tags).1⟩, 0) := (if_pos c1).trans ((if_pos c2).trans ((if_neg (show ¬ e.act = 1 by omega)).trans ((if_neg (show ¬ e.act = 2 by omega)).trans ((if_neg (show ¬ e.act = 3 by omega)).trans ((if_neg (show ¬ e.act = 4 by omega)).trans ((if_neg (show ¬ e.act = 5 by omega)).trans ((if_pos ha).trans (if_pos c3))))))))
    exact ⟨c3, by rw [q]⟩
  · have q : oapply_m s e = (zE, (mdrop_m s.map e.tags).2) := (if_pos c1).trans ((if_pos c2).trans ((if_neg (show ¬ e.act = 1 by omega)).trans ((if_neg (show ¬ e.act = 2 by omega)).trans ((if_neg (show ¬ e.act = 3 by omega)).trans ((if_neg (show ¬ e.act = 4 by omega)).trans ((if_neg (show ¬ e.act = 5 by omega)).trans ((if_pos ha).trans (if_neg c3))))))))
    rw [q] at h; exact absurd h c3
theorem say_set (h : (oapply_m s e).2 = 0) (ha : e.act = 1) (ht : e.atF = ⟨1048576, 7⟩) : (osay_m (oapply_m s e).1).val = e.val ∨ s.reg.atF.time = 1048576 := by
  have hk := (oapply_bad rfl h).2
  rw [ha] at hk
  have hk : s.kind = 1 := hk.symm
  obtain ⟨h1, h2⟩ := ap_1 h ha
  rw [h2]
  unfold osay_m
  rw [if_pos (show (ObjM.mk s.kind (wapply_m s.reg e.val e.atF).1 s.num s.setF s.map).kind = 1 from hk)]
  simp only
  rw [ht] at h1 ⊢
  unfold wapply_m at h1 ⊢
  by_cases c : cmpOrE_m [lcheck_m s.reg.atF, lcheck_m (⟨1048576, 7⟩ : StampM)] = 0
  · rw [if_pos c, if_neg (by decide)] at *
    simp only
    by_cases q : rLt s.reg ⟨e.val, ⟨1048576, 7⟩⟩
    · rw [(wmerge_z _ _).1 q]; exact .inl rfl
    · right
      have hl : lcheck_m s.reg.atF = 0 := by
        rw [cmpOrE_z] at c
        by_cases z : lcheck_m s.reg.atF = 0
        · exact z
        · rw [if_neg z] at c; exact absurd c z
      have hb : s.reg.atF.time ≤ 1048576 := by
        unfold lcheck_m at hl
        split at hl
        · cases hl
        · rename_i w
          have := mt (lcheck_c1_iff s.reg.atF).2 w
          have h1 : ¬ 1048576 < s.reg.atF.time := fun z => this (.inl z)
          omega
      unfold rLt at q
      simp only at q
      omega
  · rw [if_neg c] at h1; exact absurd h1 c
theorem tplus_of {a b : Int} (h : (tplus_m a b).2 = 0) : tplus_m a b = (a + b, 0) ∧ -1125899906842624 ≤ a + b ∧ a + b ≤ 1125899906842624 := by
  unfold tplus_m at h ⊢
  rw [within2, within1] at *
  by_cases c1 : decide (-1125899906842624 ≤ a ∧ a ≤ 1125899906842624 ∧ -1125899906842624 ≤ b ∧ b ≤ 1125899906842624) = true
  · rw [if_pos c1] at h ⊢
    by_cases c2 : decide (-1125899906842624 ≤ a + b ∧ a + b ≤ 1125899906842624) = true
    · rw [if_pos c2]; exact ⟨rfl, of_decide_eq_true c2⟩
    · rw [if_neg c2] at h; cases h
  · rw [if_neg c1] at h; cases h
theorem nvalue_z (n : NumM) (h : 0 ≤ n.plus ∧ n.plus ≤ 1125899906842624 ∧ 0 ≤ n.minus ∧ n.minus ≤ 1125899906842624) : nvalue_m n = n.plus - n.minus := by
  unfold nvalue_m; rw [if_pos (by rw [ncheck_eq, if_pos h])]
theorem napply_of {n : NumM} {d : Int} (h : (napply_m n d).2 = 0) : nvalue_m (napply_m n d).1 = nvalue_m n + d ∧ -1125899906842624 ≤ nvalue_m n ∧ nvalue_m n ≤ 1125899906842624 ∧ -1073741824 ≤ d ∧ d ≤ 1073741824 := by
  unfold napply_m at h ⊢
  by_cases c1 : ncheck_m n = 0
  · have hn := ncheck_in c1
    rw [if_pos c1] at h ⊢
    by_cases c2 : napply_c1 n d = true
    · rw [if_pos c2] at h; cases h
    · rw [if_neg c2] at h ⊢
      have hd := mt (napply_c1_iff n d).2 c2
      by_cases c3 : d < 0
      · rw [if_pos c3] at h ⊢
        by_cases c4 : (tplus_m n.minus (0 - d)).2 = 0
        · obtain ⟨e, b1, b2⟩ := tplus_of c4
          rw [if_pos c4, e, nvalue_z n hn, nvalue_z _ (by simp only; omega)]
          simp only; omega
        · rw [if_neg c4] at h; exact absurd h c4
      · rw [if_neg c3] at h ⊢
        by_cases c4 : (tplus_m n.plus d).2 = 0
        · obtain ⟨e, b1, b2⟩ := tplus_of c4
          rw [if_pos c4, e, nvalue_z n hn, nvalue_z _ (by simp only; omega)]
          simp only; omega
        · rw [if_neg c4] at h; exact absurd h c4
  · rw [if_neg c1] at h; exact absurd h c1
theorem say_num {x : ObjM} (h : x.kind = 2) : (osay_m x).val = nvalue_m x.num := by unfold osay_m; rw [if_neg (by omega), if_pos h]
theorem say_count (h : (oapply_m s e).2 = 0) (ha : e.act = 2) : (osay_m (oapply_m s e).1).val = (osay_m s).val + e.val ∧ -1125899906842624 ≤ (osay_m s).val ∧ (osay_m s).val ≤ 1125899906842624 ∧ -1073741824 ≤ e.val ∧ e.val ≤ 1073741824 := by
  have hk := (oapply_bad rfl h).2
  rw [ha] at hk
  have hk : s.kind = 2 := hk.symm
  obtain ⟨h1, h2⟩ := ap_2 h ha
  rw [h2, say_num hk, say_num (x := ⟨s.kind, s.reg, (napply_m s.num e.val).1, s.setF, s.map⟩) hk]
  exact napply_of h1
open Go.Shelf Go.Lib Go.Sort in
theorem elems_mem (x : SetM) (f : List UInt8) (h : f ∈ oelems_m x) : ∃ a ∈ x.adds, a.elem = f := by
  rw [oelems_z] at h
  split at h
  · rw [dd_mem] at h
    have hp : (sortS (x.adds.map (·.elem))).Perm (x.adds.map (·.elem)) := List.mergeSort_perm _ _
    rw [hp.mem_iff] at h
    obtain ⟨a, ha, h2⟩ := List.mem_map.1 h
    exact ⟨a, ha, h2⟩
  · cases h
theorem pfold_keys : ∀ (l : List PutM) (m : List (List UInt8 × PutM)) (k : List UInt8), k ∈ (l.foldl pstep m).map (·.1) → k ∈ m.map (·.1) ∨ k ∈ l.map (·.field)
  | [], m, k, h => .inl h
  | p :: l, m, k, h => by
    have hs : ∀ k, k ∈ (pstep m p).map (·.1) → k ∈ m.map (·.1) ∨ k = p.field := fun k hk => by
      have hset : k ∈ (mset m p.field p).map (·.1) → k ∈ m.map (·.1) ∨ k = p.field := fun q => by
        rw [mset_keys] at q
        split at q
        · exact .inl q
        · rcases List.mem_append.1 q with z | z
          · exact .inl z
          · rw [List.mem_singleton] at z; exact .inr z
      unfold pstep at hk
      split at hk
      · exact hset hk
      · split at hk
        · exact hset hk
        · exact .inl hk
    rw [List.foldl_cons] at h
    rcases pfold_keys l _ k h with q | q
    · rcases hs k q with z | z
      · exact .inl z
      · exact .inr (by rw [z]; simp)
    · exact .inr (by rw [List.map_cons]; exact List.mem_cons_of_mem _ q)
theorem mitems_mem (x : MapM) (it : ItemM) (h : it ∈ mitems_m x) : ∃ a ∈ x.puts, a.field = it.field := by
  rw [mitems_z] at h
  split at h
  · have hp : (sortI ((x.puts.foldl pstep []).map (fun p : List UInt8 × PutM => (⟨p.1, p.2.val⟩ : ItemM)))).Perm _ := List.mergeSort_perm _ _
    rw [hp.mem_iff] at h
    obtain ⟨p, hp1, rfl⟩ := List.mem_map.1 h
    rcases pfold_keys x.puts [] p.1 (List.mem_map_of_mem hp1) with q | q
    · cases q
    · obtain ⟨a, ha, h2⟩ := List.mem_map.1 q
      exact ⟨a, ha, h2⟩
  · cases h
theorem say_set3 {x : ObjM} (h : x.kind = 3) : (osay_m x).items = (oelems_m x.setF).map (fun f => (⟨f, 0⟩ : ItemM)) := by
  unfold osay_m
  rw [if_neg (by omega), if_neg (by omega), if_pos h, loop_fold0' (oelems_m x.setF) (fun acc y => acc ++ [(⟨y, 0⟩ : ItemM)]) (osay_L1 x) (fun _ _ _ _ => rfl)]
  simp only [foldl_map_app (fun y : List UInt8 => (⟨y, 0⟩ : ItemM)), List.nil_append]
theorem say_map4 {x : ObjM} (h : x.kind = 4) : (osay_m x).items = mitems_m x.map := by
  unfold osay_m
  rw [if_neg (by omega), if_neg (by omega), if_neg (by omega), if_pos h]
theorem oapply_kind (h : (oapply_m s e).2 = 0) (ha : e.act = 4 ∨ e.act = 6) : (oapply_m s e).1.kind = s.kind := by
  rcases ha with ha | ha
  · rw [(ap_4 h ha).2]
  · rw [(ap_6 h ha).2]
theorem say_gone (h : (oapply_m s e).2 = 0) (ha : e.act = 4 ∨ e.act = 6) (name : List UInt8) (h4 : e.act = 4 → e.tags = oTags_m s.setF name) (h6 : e.act = 6 → e.tags = mTags_m s.map name) (hl : s.setF.adds.length ≤ 1000 ∧ s.setF.gone.length ≤ 1000 ∧ s.map.puts.length ≤ 1000 ∧ s.map.gone.length ≤ 1000) :
    ∀ it ∈ (osay_m (oapply_m s e).1).items, ¬ it.field = name := by
  intro it hit hn
  have hk := (oapply_bad rfl h).2
  have hkk := oapply_kind h ha
  rcases ha with ha | ha
  · rw [ha] at hk
    have hk : s.kind = 3 := hk.symm
    rw [say_set3 (hkk.trans hk)] at hit
    obtain ⟨f, hf, rfl⟩ := List.mem_map.1 hit
    obtain ⟨a, ha1, ha2⟩ := elems_mem _ _ hf
    obtain ⟨h1, h2⟩ := ap_4 h ha
    rw [h2] at ha1
    simp only at ha1 hn
    have hc : ocheck_m s.setF = 0 := by
      unfold odrop_m at h1
      by_cases q : ocheck_m s.setF = 0
      · exact q
      · rw [if_neg q] at h1; exact absurd h1 q
    have hfi := fine_of hc
    have ht := h4 ha
    rw [oTags_z, if_pos hc] at ht
    have hlt : e.tags.length ≤ 1000 := by rw [ht, List.length_map]; exact Nat.le_trans (List.length_filter_le _ _) hl.1
    have hdr := odrop_fine hfi (l := e.tags) (fun t hx => by rw [ht] at hx; obtain ⟨b, hb, rfl⟩ := List.mem_map.1 hx; exact hfi.ta b (List.mem_filter.1 hb).1) (by omega) (by have := hl.2.1; omega)
    rw [hdr] at ha1
    obtain ⟨hm1, hm2⟩ := List.mem_filter.1 ha1
    have hm2 : a.tag ∉ dropG s.setF.gone e.tags := by simpa using hm2
    refine hm2 (((dropG_facts _ _).2.1 _).2 (.inr ?_))
    rw [ht]
    exact List.mem_map.2 ⟨a, List.mem_filter.2 ⟨hm1, decide_eq_true (ha2.trans hn)⟩, rfl⟩
  · rw [ha] at hk
    have hk : s.kind = 4 := hk.symm
    rw [say_map4 (hkk.trans hk)] at hit
    obtain ⟨a, ha1, ha2⟩ := mitems_mem _ _ hit
    obtain ⟨h1, h2⟩ := ap_6 h ha
    rw [h2] at ha1
    simp only at ha1
    have hc : mcheck_m s.map = 0 := by
      unfold mdrop_m at h1
      by_cases q : mcheck_m s.map = 0
      · exact q
      · rw [if_neg q] at h1; exact absurd h1 q
    have hfi := mfine_of hc
    have ht := h6 ha
    rw [mTags_z, if_pos hc] at ht
    have hlt : e.tags.length ≤ 1000 := by rw [ht, List.length_map]; exact Nat.le_trans (List.length_filter_le _ _) hl.2.2.1
    have hdr := mdrop_fine hfi (l := e.tags) (fun t hx => by rw [ht] at hx; obtain ⟨b, hb, rfl⟩ := List.mem_map.1 hx; exact hfi.ta b (List.mem_filter.1 hb).1) (by omega) (by have := hl.2.2.2; omega)
    rw [hdr] at ha1
    obtain ⟨hm1, hm2⟩ := List.mem_filter.1 ha1
    have hm2 : a.tag ∉ dropG s.map.gone e.tags := by simpa using hm2
    refine hm2 (((dropG_facts _ _).2.1 _).2 (.inr ?_))
    rw [ht]
    exact List.mem_map.2 ⟨a, List.mem_filter.2 ⟨hm1, decide_eq_true (ha2.trans hn)⟩, rfl⟩
end
theorem effB_len (e : EffectM) : (effB e).length ≤ 100 + e.name.length + 27 * e.tags.length := by
  have hf : (e.tags.flatMap iwriteTag_m).length ≤ 27 * e.tags.length := by
    induction e.tags with
    | nil => simp
    | cons x l ih => rw [List.flatMap_cons, List.length_append, List.length_cons]; have := iwriteTag_len x; omega
  have h1 := numB_len e.act; have h2 := otext_len e.name; have h3 := osigned_len e.val; have h4 := iwriteTag_len e.tag; have h5 := lwrite_len e.atF; have h6 := numB_len e.tags.length
  unfold effB
  simp only [List.length_append]
  split <;> split <;> simp only [List.length_append, List.length_nil] <;> omega
end Go.Proofs.YtdckemiebnfjcaaGreatDoor
end

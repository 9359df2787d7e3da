/- Walks printed by gen2.py out of our own specifications: what the functions named below do. -/
import Derived.Test.YtdgllcmlfblelaaGreatDoorSc
import Derived.Test.YtdgllcmlfblelaaGreatDoorBd
import Derived.Test.YtdgllcmlfblelaaGreatDoorPl
set_option linter.unusedSimpArgs false
set_option linter.unusedVariables false
namespace Go.Proofs.YtdgllcmlfblelaaGreatDoor
open Go.RowKit


theorem indexF_L1_spec {α : Type} [Inhabited α] [DecidableEq α] (s : List α) (f : α → Bool) : ∀ (fuel : Nat) (i : Int), 0 ≤ i → ((s.length : Int) - i).toNat < fuel → (∃ k : Int, indexF_L1 s f fuel i = .inl k ∧ i ≤ k ∧ k < s.length ∧ f (ix s k) = true ∧ ∀ j : Int, i ≤ j → j < k → f (ix s j) = false) ∨ ((∃ q, indexF_L1 s f fuel i = .inr q) ∧ ∀ j : Int, i ≤ j → j < s.length → f (ix s j) = false)
  | 0, i, _, h => by omega
  | fuel + 1, i, h0, h => by
    unfold indexF_L1
    split
    · rename_i h1
      split
      · rename_i h2
        exact .inl ⟨i, rfl, by omega, h1, h2, fun j _ _ => by omega⟩
      · rename_i h2
        have h2 : f (ix s i) = false := by simpa using h2
        rcases indexF_L1_spec s f fuel (i + 1) (by omega) (by omega) with ⟨k, a, b, c, d, e⟩ | ⟨a, b⟩
        · refine .inl ⟨k, a, by omega, c, d, fun j hj hk => ?_⟩
          by_cases e2 : j = i
          · subst e2; exact h2
          · exact e j (by omega) hk
        · refine .inr ⟨a, fun j hj hk => ?_⟩
          by_cases e2 : j = i
          · subst e2; exact h2
          · exact b j (by omega) hk
    · exact .inr ⟨⟨_, rfl⟩, fun j _ _ => by omega⟩
theorem indexF_cases {α : Type} [Inhabited α] [DecidableEq α] (s : List α) (f : α → Bool) : (0 ≤ indexF_m s f ∧ indexF_m s f < s.length ∧ f (ix s (indexF_m s f)) = true ∧ ∀ j : Int, 0 ≤ j → j < indexF_m s f → f (ix s j) = false) ∨ (indexF_m s f = -1 ∧ ∀ j : Int, 0 ≤ j → j < s.length → f (ix s j) = false) := by
  unfold indexF_m
  rcases indexF_L1_spec s f (((s.length : Int) - (0 : Int)).toNat + 1) 0 (by omega) (by omega) with ⟨k, a, b, c, d, e⟩ | ⟨⟨q, a⟩, b⟩
  · rw [a]; exact .inl ⟨b, c, d, e⟩
  · rw [a]; exact .inr ⟨rfl, b⟩
theorem indexF_lt {α : Type} [Inhabited α] [DecidableEq α] {s : List α} {f : α → Bool} (h : ¬ indexF_m s f = -1) : 0 ≤ indexF_m s f ∧ indexF_m s f < s.length := by
  rcases indexF_cases s f with ⟨a, b, _⟩ | ⟨a, _⟩
  · exact ⟨a, b⟩
  · exact absurd a h

/-- Names stand in the order of whose they are, their number, and which operation. -/
def tagLt (a b : TagM) : Bool := decide (a.id.origin < b.id.origin ∨ (a.id.origin = b.id.origin ∧ (a.id.seq < b.id.seq ∨ (a.id.seq = b.id.seq ∧ a.n < b.n))))
theorem tagLt_trans (a b c : TagM) (h1 : tagLt a b = true) (h2 : tagLt b c = true) : tagLt a c = true := by
  simp only [tagLt, decide_eq_true_eq] at *
  omega
theorem tagLt_irrefl (a : TagM) : tagLt a a = false := by simp [tagLt]
theorem tagLt_asymm {a b : TagM} (h1 : tagLt a b = true) : tagLt b a = false := by
  simp only [tagLt, decide_eq_true_eq, decide_eq_false_iff_not] at *
  omega
theorem tag_ext {a b : TagM} (h1 : a.id.origin = b.id.origin) (h2 : a.id.seq = b.id.seq) (h3 : a.n = b.n) : a = b := by
  obtain ⟨⟨a1, a2⟩, a3⟩ := a
  obtain ⟨⟨b1, b2⟩, b3⟩ := b
  simp only at h1 h2 h3
  subst h1; subst h2; subst h3; rfl
theorem tagLt_tri (a b : TagM) : tagLt a b = true ∨ a = b ∨ tagLt b a = true := by
  by_cases h : tagLt a b = true
  · exact .inl h
  · by_cases h2 : tagLt b a = true
    · exact .inr (.inr h2)
    · refine .inr (.inl (tag_ext ?_ ?_ ?_)) <;> simp only [tagLt, decide_eq_true_eq] at * <;> omega
def tagCmp (a b : TagM) : Int := if tagLt a b = true then -1 else if a = b then 0 else 1
theorem tagCmp_neg (a b : TagM) : tagCmp a b < 0 ↔ tagLt a b = true := by
  unfold tagCmp
  split
  · simp [*]
  · rename_i h
    split <;> simp [h]
theorem tagCmp_zero (a b : TagM) : tagCmp a b = 0 ↔ a = b := by
  unfold tagCmp
  split
  · rename_i h
    constructor
    · intro e; omega
    · intro e; subst e; rw [tagLt_irrefl] at h; cases h
  · split
    · simp [*]
    · simp [*]
theorem nanI_f (x : Int) : nanI_m x = false := by simp [nanI_m]
theorem nanU_f (x : Int) : nanU_m x = false := by simp [nanU_m]
theorem cmpI_eq (x y : Int) : cmpI_m x y = if x < y then -1 else if y < x then 1 else 0 := by unfold cmpI_m; simp [nanI_f]
theorem cmpU_eq (x y : Int) : cmpU_m x y = if x < y then -1 else if y < x then 1 else 0 := by unfold cmpU_m; simp [nanU_f]
theorem cmpOr2 (a b : Int) : cmpOr_m [a, b] = if a = 0 then b else a := by
  unfold cmpOr_m
  rw [show (((([a, b] : List Int).length : Int) - (0 : Int)).toNat + 1) = 3 from rfl]
  simp only [cmpOr_L1, ix, List.length_cons, List.length_nil]
  by_cases ha : a = 0 <;> by_cases hb : b = 0 <;> simp [ha, hb]
theorem icompare_eq (a b : IdM) : icompare_m a b = if a.origin < b.origin then -1 else if b.origin < a.origin then 1 else if a.seq < b.seq then -1 else if b.seq < a.seq then 1 else 0 := by
  unfold icompare_m
  rw [cmpOr2, cmpI_eq, cmpU_eq]
  by_cases h1 : a.origin < b.origin
  · simp [h1]
  · by_cases h2 : b.origin < a.origin
    · simp [h1, h2]
    · simp [h1, h2]
theorem icompareTag_eq (a b : TagM) : icompareTag_m a b = tagCmp a b := by
  unfold icompareTag_m tagCmp
  rw [cmpOr2, icompare_eq, cmpI_eq]
  by_cases h1 : a.id.origin < b.id.origin
  · simp [h1, tagLt]
  · by_cases h2 : b.id.origin < a.id.origin
    · have hne : ¬ a = b := fun e => by subst e; omega
      simp [h1, h2, tagLt, hne] <;> omega
    · have e1 : a.id.origin = b.id.origin := by omega
      by_cases h3 : a.id.seq < b.id.seq
      · simp [h1, h2, h3, tagLt] <;> omega
      · by_cases h4 : b.id.seq < a.id.seq
        · have hne : ¬ a = b := fun e => by subst e; omega
          simp [h1, h2, h3, h4, tagLt, hne] <;> omega
        · have e2 : a.id.seq = b.id.seq := by omega
          by_cases h5 : a.n < b.n
          · simp [h1, h2, h3, h4, h5, tagLt] <;> omega
          · by_cases h6 : b.n < a.n
            · have hne : ¬ a = b := fun e => by subst e; omega
              simp [h1, h2, h3, h4, h5, h6, tagLt, hne] <;> omega
            · have e3 : a.n = b.n := by omega
              have he : a = b := tag_ext e1 e2 e3
              subst he
              simp [tagLt]
/-- A number that stays as it is as an int. -/
def seqOk (t : TagM) : Prop := -9223372036854775808 ≤ t.id.seq ∧ t.id.seq ≤ 9223372036854775807
theorem r5compareTag_eq {a b : TagM} (ha : seqOk a) (hb : seqOk b) : r5compareTag_m a b = tagCmp a b := by
  have wa : IntKind.i64.wrap a.id.seq = a.id.seq := wf_i64 ha
  have wb : IntKind.i64.wrap b.id.seq = b.id.seq := wf_i64 hb
  unfold r5compareTag_m r5compare_m r5order_m tagCmp
  rw [wa, wb]
  by_cases e : a.id = b.id
  · rw [if_pos e]
    have e1 : a.id.origin = b.id.origin := by rw [e]
    have e2 : a.id.seq = b.id.seq := by rw [e]
    by_cases h5 : a.n < b.n
    · simp [tagLt, h5, e1, e2]
    · by_cases h6 : b.n < a.n
      · have hne : ¬ a = b := fun e => by subst e; omega
        simp [tagLt, h5, h6, hne, e1, e2]
      · have he : a = b := tag_ext e1 e2 (by omega)
        subst he
        simp [tagLt]
  · rw [if_neg e]
    have hne : ¬ a = b := fun q => e (by rw [q])
    have hid : ¬ (a.id.origin = b.id.origin ∧ a.id.seq = b.id.seq) := fun ⟨q1, q2⟩ => e (by
      obtain ⟨⟨a1, a2⟩, a3⟩ := a
      obtain ⟨⟨b1, b2⟩, b3⟩ := b
      simp only at q1 q2
      subst q1; subst q2; rfl)
    by_cases h1 : a.id.origin = b.id.origin
    · rw [if_pos h1]
      have h2 : ¬ a.id.seq = b.id.seq := fun q => hid ⟨h1, q⟩
      by_cases h3 : a.id.seq < b.id.seq
      · simp [h3, tagLt, h1]
      · have h4 : b.id.seq < a.id.seq := by omega
        simp [h3, h4, tagLt, hne, h1, h2]
    · rw [if_neg h1]
      by_cases h3 : a.id.origin < b.id.origin
      · simp [h3, tagLt]
      · have h4 : b.id.origin < a.id.origin := by omega
        simp [h3, h4, tagLt, hne, h1]
/-- A name as it can stand in memory. -/
def tagOk (t : TagM) : Prop := 0 ≤ t.id.seq ∧ t.id.seq ≤ 4294967295
theorem tagOk.seq {t : TagM} (h : tagOk t) : seqOk t := by unfold tagOk at h; unfold seqOk; omega
theorem r5check_z (i : IdM) : r5check_m i = if (i.origin < 0) ∨ (7 < i.origin) ∨ (i.seq < 1) ∨ (1048576 < i.seq) then 2 else 0 := by unfold r5check_m; simp only [r5check_c1_iff]
theorem r5checkTag_z (t : TagM) : r5checkTag_m t = if ¬ (r5check_m t.id = 0) ∨ (t.n < 0) ∨ (15 < t.n) then 2 else 0 := by unfold r5checkTag_m; simp only [r5checkTag_c1_iff]
theorem r5checkTag_fine (t : TagM) : r5checkTag_m t = 0 ↔ (0 ≤ t.id.origin ∧ t.id.origin ≤ 7 ∧ 1 ≤ t.id.seq ∧ t.id.seq ≤ 1048576 ∧ 0 ≤ t.n ∧ t.n ≤ 15) := by
  rw [r5checkTag_z, r5check_z]
  by_cases h1 : (t.id.origin < 0) ∨ (7 < t.id.origin) ∨ (t.id.seq < 1) ∨ (1048576 < t.id.seq)
  · rw [if_pos h1]; simp; omega
  · rw [if_neg h1]
    by_cases h2 : (t.n < 0) ∨ (15 < t.n)
    · simp [h2]; omega
    · rw [if_neg (by simp only [not_true_eq_false, false_or]; exact h2)]
      simp only [true_iff]; omega
theorem r5checkTag_or (t : TagM) : r5checkTag_m t = 0 ∨ r5checkTag_m t = 2 := by rw [r5checkTag_z]; split <;> simp
theorem icheckTag_z (t : TagM) : icheckTag_m t = if (t.n < 0) ∨ (16 ≤ t.n) then 2 else if (t.id.origin < 0) ∨ (8 ≤ t.id.origin) ∨ (t.id.seq = 0) ∨ (1048576 < t.id.seq) then 2 else 0 := by
  unfold icheckTag_m icheck_m; simp only [icheckTag_c1_iff, icheck_c1_iff]
theorem checkTag_eq {t : TagM} (h : tagOk t) : icheckTag_m t = r5checkTag_m t := by
  unfold tagOk at h
  have h5 := r5checkTag_fine t
  have h6 := r5checkTag_or t
  rw [icheckTag_z]
  split
  · rcases h6 with h6 | h6
    · have := h5.1 h6; omega
    · rw [h6]
  · split
    · rcases h6 with h6 | h6
      · have := h5.1 h6; omega
      · rw [h6]
    · rw [h5.2 (by omega)]
theorem r12elem_eq (s : List UInt8) : oelem_m s = r12elem_m s := by
  unfold oelem_m r12elem_m
  cases s with
  | nil => rfl
  | cons a s => rw [if_neg (by simp), if_pos (by simp; omega)]
theorem lthere_iff (o : Int) : lthere_m o = true ↔ (0 ≤ o ∧ o < 8) := by unfold lthere_m; split <;> simp <;> omega
theorem lcheck_eq (s : StampM) : lcheck_m s = r9check_m s := by
  unfold lcheck_m r9check_m
  simp only [lcheck_c1_iff, r9check_c1_iff, lthere_iff]
  repeat' split
  all_goals first | rfl | omega
theorem containsF_eq {α : Type} [Inhabited α] [DecidableEq α] (s : List α) (f : α → Bool) : containsF_m s f = s.any f := by
  unfold containsF_m
  rcases indexF_cases s f with ⟨a, b, c, d⟩ | ⟨a, b⟩
  · rw [decide_eq_true a]; symm; rw [List.any_eq_true]; exact ⟨_, ix_memI s a b, c⟩
  · rw [a]; symm
    rw [show decide ((0 : Int) ≤ -1) = false from rfl, List.any_eq_false]
    intro x hx
    obtain ⟨k, hk, rfl⟩ := List.getElem_of_mem hx
    have := b (k : Int) (by omega) (by omega)
    rw [ix_at s hk] at this
    simp [this]
theorem valid_seq {t : TagM} (h : r5checkTag_m t = 0) : seqOk t := by
  have := (r5checkTag_fine t).1 h
  unfold seqOk
  omega
theorem checkOp_eq (o : OpM) : ocheckOp_m o = r14checkOp_m o := by
  unfold ocheckOp_m r14checkOp_m
  have hk : okind_m o.act = r14kind_m o.act := rfl
  rw [hk]
  by_cases h0 : r14kind_m o.act = 0
  · rw [if_pos h0, if_pos h0]
  · rw [if_neg h0, if_neg h0]
    have : o.act = 1 ∨ o.act = 2 ∨ o.act = 3 ∨ o.act = 4 ∨ o.act = 5 ∨ o.act = 6 := by
      unfold r14kind_m at h0
      repeat' split at h0
      all_goals first | omega | (exact absurd rfl h0)
    simp only [ocheckOp_c1_iff, ocheckOp_c2_iff, ocheckOp_c3_iff, ocheckOp_c4_iff, r14checkOp_c1_iff, r14checkOp_c2_iff, r14checkOp_c3_iff, r12elem_eq, oform_m]
    rcases this with h | h | h | h | h | h <;> simp only [h] <;> simp


structure EffWf (e : EffectM) : Prop where
  tag : tagOk e.tag
  tags : ∀ t ∈ e.tags, tagOk t
  time : 0 ≤ e.atF.time
theorem formAt (a : Int) : (oform_m a).atF = r14timed_m a := by
  unfold oform_m r14timed_m
  by_cases h1 : a = 5
  · simp [h1]
  · by_cases h2 : a = 1
    · simp [h2]
    · simp only [h1, h2, if_false]
      have : (a == 5) = false := by simpa using h1
      rw [this]
      repeat' split
      all_goals rfl
theorem formTags (a : Int) : (oform_m a).tags = r14takes_m a := by
  unfold oform_m r14takes_m
  by_cases h1 : a = 4
  · simp [h1]
  · by_cases h2 : a = 6
    · simp [h2]
    · simp only [h1, h2, if_false]
      have e4 : (a == 4) = false := by simpa using h1
      have e6 : (a == 6) = false := by simpa using h2
      repeat' split
      all_goals first | rfl | simp_all
theorem otimed_iff {s : StampM} (h : 0 ≤ s.time) : otimed_m s = true ↔ (r9check_m s = 0 ∧ ¬ s.time = 0) := by
  unfold otimed_m; rw [lcheck_eq]
  by_cases e : r9check_m s = 0
  · simp [e]; omega
  · simp [e]
theorem checkE_eq {e : EffectM} (h : EffWf e) : ocheckE_m e = r14checkE_m e := by
  unfold ocheckE_m r14checkE_m
  rw [checkOp_eq]
  split
  · have k1 : (ocheckE_c1 e = true) ↔ ¬ (r5checkTag_m e.tag = 0 ∧ e.tags.all (fun t => decide (r5checkTag_m t = 0)) = true) := by
      rw [ocheckE_c1_iff, containsF_eq]
      have b1 : (bnotTag_m e.tag = true) ↔ ¬ r5checkTag_m e.tag = 0 := by unfold bnotTag_m; rw [checkTag_eq h.tag]; simp
      have b2 : e.tags.any bnotTag_m = !e.tags.all (fun t => decide (r5checkTag_m t = 0)) := by
        rw [List.not_all_eq_any_not, Bool.eq_iff_iff]
        simp only [List.any_eq_true]
        constructor
        · rintro ⟨t, ht, q⟩
          exact ⟨t, ht, by unfold bnotTag_m at q; rw [checkTag_eq (h.tags t ht)] at q; simpa using q⟩
        · rintro ⟨t, ht, q⟩
          exact ⟨t, ht, by unfold bnotTag_m; rw [checkTag_eq (h.tags t ht)]; simpa using q⟩
      rw [b1, b2]
      by_cases x : r5checkTag_m e.tag = 0 <;> by_cases y : e.tags.all (fun t => decide (r5checkTag_m t = 0)) = true <;> simp [x, y]
    obtain ⟨q1, l1⟩ := loop_all0 e.tags (fun t => decide (r5checkTag_m t = 0)) 2 (r14checkE_L1 e) (fun fuel i _ => by rw [r14checkE_L1]; simp only [decide_eq_true_eq])
    by_cases c1 : r5checkTag_m e.tag = 0
    · by_cases c2 : e.tags.all (fun t => decide (r5checkTag_m t = 0)) = true
      · rw [if_neg (fun q => k1.1 q ⟨c1, c2⟩), if_pos c1, l1, if_pos c2]
        simp only
        split
        · rfl
        · have k2 : (ocheckE_c2 e = true) ↔ (r14checkE_c1 e q1 = true) := by
            rw [ocheckE_c2_iff, r14checkE_c1_iff, formAt, formTags, otimed_iff h.time]
            by_cases x : r14timed_m e.act = true <;> by_cases y : r9check_m e.atF = 0 <;> by_cases z : e.atF.time = 0 <;> simp [x, y, z]
          by_cases c3 : r14checkE_c1 e q1 = true
          · rw [if_pos (k2.2 c3), if_pos c3]
          · rw [if_neg (fun q => c3 (k2.1 q)), if_neg c3]
            have v : ∀ t ∈ e.tags, seqOk t := fun t ht => by
              rw [List.all_eq_true] at c2
              exact valid_seq (by simpa using c2 t ht)
            have key : ∀ fuel (i : Int), 1 ≤ i → ocheckE_L1 e fuel i = r14checkE_L2 e q1 fuel i := by
              intro fuel
              induction fuel with
              | zero => intro i _; rfl
              | succ fuel ih =>
                intro i hi
                rw [ocheckE_L1, r14checkE_L2, ih (i + 1) (by omega)]
                split
                · rw [r5compareTag_eq (v _ (ix_memI _ (by omega) (by omega))) (v _ (ix_memI _ (by omega) (by omega))), icompareTag_eq]
                · rfl
            rw [key _ 1 (by omega)]
            rfl
      · rw [if_pos (k1.2 fun q => c2 q.2), if_pos c1, l1, if_neg c2]
    · rw [if_pos (k1.2 fun q => c1 q.1), if_neg c1]
  · rfl
theorem eff14_eq (e : EffectM) : eff14_m e = e := by unfold eff14_m; simp
theorem great_bnd {s : ObjM} {e : EffectM} (h : ¬ great14_m s e = true) : e.tags.length ≤ 100 ∧ e.name.length ≤ 1000 := by
  unfold great14_m at h
  repeat' split at h
  all_goals simp_all
  all_goals omega


theorem dgs_pos : ∀ (f : Nat) (n : Int), 0 ≤ n → n < (256 : Int) ^ f → (0 < (dgs f n).length ↔ 0 < n)
  | 0, n, h0, h1 => by simp [dgs]; simp at h1; omega
  | f + 1, n, h0, h1 => by
    rw [dgs]
    split
    · rw [List.length_append, List.length_singleton]; omega
    · simp; omega


theorem r2num_run (u : Int) (hu : 0 ≤ u ∧ u < 18446744073709551616) : ∀ (j fuel : Nat), j ≤ 8 → j + 1 ≤ fuel → r2num_L1 u fuel (dgs (8 - j) (u / (256 : Int) ^ j)) ((j : Int) - 1) = .inr (dgs 8 u, -1)
  | 0, fuel + 1, _, _ => by
    rw [r2num_L1, if_neg (by omega)]
    simp
  | j + 1, fuel + 1, hj, hf => by
    rw [r2num_L1, if_pos (by omega)]
    have hi : ((j + 1 : Nat) : Int) - 1 = (j : Int) := by omega
    have hc := r2num_c1_iff u (dgs (8 - (j + 1)) (u / (256 : Int) ^ (j + 1))) (j : Int)
    have hs : shrN u ((8 * (j : Int)) % 18446744073709551616) 64 = u / (256 : Int) ^ j := by
      unfold shrN
      have h1 : ((8 * (j : Int)) % 18446744073709551616).toNat = 8 * j := by omega
      rw [h1, Nat.min_eq_left (by omega), Int.pow_mul]
      rfl
    have hd : u / (256 : Int) ^ (j + 1) = u / (256 : Int) ^ j / 256 := by
      rw [Int.pow_succ, Int.ediv_ediv_of_nonneg (Int.le_of_lt (Int.pow_pos (by decide)))]
    have hn0 : 0 ≤ u / (256 : Int) ^ j := Int.ediv_nonneg hu.1 (Int.le_of_lt (Int.pow_pos (by decide)))
    have hlt : u / (256 : Int) ^ (j + 1) < (256 : Int) ^ (8 - (j + 1)) := by
      rw [Int.ediv_lt_iff_lt_mul (Int.pow_pos (by decide)), ← Int.pow_add, show 8 - (j + 1) + (j + 1) = 8 by omega]
      exact hu.2
    have hpos := dgs_pos (8 - (j + 1)) (u / (256 : Int) ^ (j + 1)) (by rw [hd]; omega) hlt
    have h8 : dgs (8 - j) (u / (256 : Int) ^ j) = if 0 < u / (256 : Int) ^ j then dgs (8 - (j + 1)) (u / (256 : Int) ^ (j + 1)) ++ [u / (256 : Int) ^ j % 256] else [] := by
      rw [show 8 - j = (8 - (j + 1)) + 1 by omega, dgs, hd]
    rw [hs] at hc
    rw [hi, hs]
    have ih := r2num_run u hu j fuel (by omega) (by omega)
    rw [h8] at ih
    rw [hd] at hpos
    by_cases c : 0 < u / (256 : Int) ^ j
    · rw [if_pos c] at ih
      rw [if_pos (hc.2 (by rw [hd] at *; omega))]
      exact ih
    · rw [if_neg c] at ih
      have hz : dgs (8 - (j + 1)) (u / (256 : Int) ^ (j + 1)) = [] := by
        rw [hd]
        exact List.length_eq_zero_iff.1 (by omega)
      rw [if_neg (fun q => by have := hc.1 q; rw [hz] at this; simp at this; omega), hz]
      exact ih
theorem num_eq {u : Int} (hu : 0 ≤ u ∧ u < 18446744073709551616) : r2num_m u = numB u := by
  have h := r2num_run u hu 8 9 (by decide) (by decide)
  have e0 : dgs (8 - 8) (u / (256 : Int) ^ 8) = [] := rfl
  have e1 : ((8 : Nat) : Int) - 1 = 7 := rfl
  have e2 : (((7 : Int) + 1).toNat + 1) = 9 := rfl
  rw [e0, e1] at h
  unfold r2num_m numB
  rw [e2, h]
  have := dgs_len 8 u
  dsimp only
  rw [show ((dgs 8 u).length : Int) % 256 = ((dgs 8 u).length : Int) by omega]
  rfl

end Go.Proofs.YtdgllcmlfblelaaGreatDoor

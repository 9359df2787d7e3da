/- Walks printed by gen2.py out of our own specifications: what the functions named below do. -/
import Derived.Test.YtmajjdpioillaaaDoorK3
import Derived.Test.YtmajjdpioillaaaDoorPl
set_option linter.unusedSimpArgs false
set_option linter.unusedVariables false
namespace Go.Proofs.YtmajjdpioillaaaDoor
open Go.RowKit


theorem indexF_L1_spec {α : Type} [Inhabited α] [DecidableEq α] (s : List α) (f : α → Bool) : ∀ (fuel : Nat) (i : Int), 0 ≤ i → ((s.length : Int) - i).toNat < fuel → (∃ k : Int, indexF_L1 s f fuel i = .inl k ∧ i ≤ k ∧ k < s.length ∧ f (ix s k) = true ∧ ∀ j : Int, i ≤ j → j < k → f (ix s j) = false) ∨ ((∃ q, indexF_L1 s f fuel i = .inr q) ∧ ∀ j : Int, i ≤ j → j < s.length → f (ix s j) = false)
  | 0, i, _, h => by omega
  | fuel + 1, i, h0, h => by
    unfold indexF_L1
    split
    · rename_i h1
      split
      · rename_i h2
        exact .inl ⟨i, rfl, by omega, h1, h2, fun j _ _ => by omega⟩
      · rename_i h2
        have h2 : f (ix s i) = false := by simpa using h2
        rcases indexF_L1_spec s f fuel (i + 1) (by omega) (by omega) with ⟨k, a, b, c, d, e⟩ | ⟨a, b⟩
        · refine .inl ⟨k, a, by omega, c, d, fun j hj hk => ?_⟩
          by_cases e2 : j = i
          · subst e2; exact h2
          · exact e j (by omega) hk
        · refine .inr ⟨a, fun j hj hk => ?_⟩
          by_cases e2 : j = i
          · subst e2; exact h2
          · exact b j (by omega) hk
    · exact .inr ⟨⟨_, rfl⟩, fun j _ _ => by omega⟩
theorem indexF_cases {α : Type} [Inhabited α] [DecidableEq α] (s : List α) (f : α → Bool) : (0 ≤ indexF_m s f ∧ indexF_m s f < s.length ∧ f (ix s (indexF_m s f)) = true ∧ ∀ j : Int, 0 ≤ j → j < indexF_m s f → f (ix s j) = false) ∨ (indexF_m s f = -1 ∧ ∀ j : Int, 0 ≤ j → j < s.length → f (ix s j) = false) := by
  unfold indexF_m
  rcases indexF_L1_spec s f (((s.length : Int) - (0 : Int)).toNat + 1) 0 (by omega) (by omega) with ⟨k, a, b, c, d, e⟩ | ⟨⟨q, a⟩, b⟩
  · rw [a]; exact .inl ⟨b, c, d, e⟩
  · rw [a]; exact .inr ⟨rfl, b⟩
theorem indexF_lt {α : Type} [Inhabited α] [DecidableEq α] {s : List α} {f : α → Bool} (h : ¬ indexF_m s f = -1) : 0 ≤ indexF_m s f ∧ indexF_m s f < s.length := by
  rcases indexF_cases s f with ⟨a, b, _⟩ | ⟨a, _⟩
  · exact ⟨a, b⟩
  · exact absurd a h

/-- Names stand in the order of whose they are, their number, and which operation. -/
def tagLt (a b : TagM) : Bool := decide (a.id.origin < b.id.origin ∨ (a.id.origin = b.id.origin ∧ (a.id.seq < b.id.seq ∨ (a.id.seq = b.id.seq ∧ a.n < b.n))))
theorem tagLt_trans (a b c : TagM) (h1 : tagLt a b = true) (h2 : tagLt b c = true) : tagLt a c = true := by
  simp only [tagLt, decide_eq_true_eq] at *
  omega
theorem tagLt_irrefl (a : TagM) : tagLt a a = false := by simp [tagLt]
theorem tagLt_asymm {a b : TagM} (h1 : tagLt a b = true) : tagLt b a = false := by
  simp only [tagLt, decide_eq_true_eq, decide_eq_false_iff_not] at *
  omega
theorem tag_ext {a b : TagM} (h1 : a.id.origin = b.id.origin) (h2 : a.id.seq = b.id.seq) (h3 : a.n = b.n) : a = b := by
  obtain ⟨⟨a1, a2⟩, a3⟩ := a
  obtain ⟨⟨b1, b2⟩, b3⟩ := b
  simp only at h1 h2 h3
  subst h1; subst h2; subst h3; rfl
theorem tagLt_tri (a b : TagM) : tagLt a b = true ∨ a = b ∨ tagLt b a = true := by
  by_cases h : tagLt a b = true
  · exact .inl h
  · by_cases h2 : tagLt b a = true
    · exact .inr (.inr h2)
    · refine .inr (.inl (tag_ext ?_ ?_ ?_)) <;> simp only [tagLt, decide_eq_true_eq] at * <;> omega
def tagCmp (a b : TagM) : Int := if tagLt a b = true then -1 else if a = b then 0 else 1
theorem tagCmp_neg (a b : TagM) : tagCmp a b < 0 ↔ tagLt a b = true := by
  unfold tagCmp
  split
  · simp [*]
  · rename_i h
    split <;> simp [h]
theorem tagCmp_zero (a b : TagM) : tagCmp a b = 0 ↔ a = b := by
  unfold tagCmp
  split
  · rename_i h
    constructor
    · intro e; omega
    · intro e; subst e; rw [tagLt_irrefl] at h; cases h
  · split
    · simp [*]
    · simp [*]
theorem nanI_f (x : Int) : nanI_m x = false := by simp [nanI_m]
theorem nanU_f (x : Int) : nanU_m x = false := by simp [nanU_m]
theorem cmpI_eq (x y : Int) : cmpI_m x y = if x < y then -1 else if y < x then 1 else 0 := by unfold cmpI_m; simp [nanI_f]
theorem cmpU_eq (x y : Int) : cmpU_m x y = if x < y then -1 else if y < x then 1 else 0 := by unfold cmpU_m; simp [nanU_f]
theorem cmpOr2 (a b : Int) : cmpOr_m [a, b] = if a = 0 then b else a := by
  unfold cmpOr_m
  rw [show (((([a, b] : List Int).length : Int) - (0 : Int)).toNat + 1) = 3 from rfl]
  simp only [cmpOr_L1, ix, List.length_cons, List.length_nil]
  by_cases ha : a = 0 <;> by_cases hb : b = 0 <;> simp [ha, hb]
theorem icompare_eq (a b : IdM) : icompare_m a b = if a.origin < b.origin then -1 else if b.origin < a.origin then 1 else if a.seq < b.seq then -1 else if b.seq < a.seq then 1 else 0 := by
  unfold icompare_m
  rw [cmpOr2, cmpI_eq, cmpU_eq]
  by_cases h1 : a.origin < b.origin
  · simp [h1]
  · by_cases h2 : b.origin < a.origin
    · simp [h1, h2]
    · simp [h1, h2]
theorem icompareTag_eq (a b : TagM) : icompareTag_m a b = tagCmp a b := by
  unfold icompareTag_m tagCmp
  rw [cmpOr2, icompare_eq, cmpI_eq]
  by_cases h1 : a.id.origin < b.id.origin
  · simp [h1, tagLt]
  · by_cases h2 : b.id.origin < a.id.origin
    · have hne : ¬ a = b := fun e => by subst e; omega
      simp [h1, h2, tagLt, hne] <;> omega
    · have e1 : a.id.origin = b.id.origin := by omega
      by_cases h3 : a.id.seq < b.id.seq
      · simp [h1, h2, h3, tagLt] <;> omega
      · by_cases h4 : b.id.seq < a.id.seq
        · have hne : ¬ a = b := fun e => by subst e; omega
          simp [h1, h2, h3, h4, tagLt, hne] <;> omega
        · have e2 : a.id.seq = b.id.seq := by omega
          by_cases h5 : a.n < b.n
          · simp [h1, h2, h3, h4, h5, tagLt] <;> omega
          · by_cases h6 : b.n < a.n
            · have hne : ¬ a = b := fun e => by subst e; omega
              simp [h1, h2, h3, h4, h5, h6, tagLt, hne] <;> omega
            · have e3 : a.n = b.n := by omega
              have he : a = b := tag_ext e1 e2 e3
              subst he
              simp [tagLt]
/-- A number that stays as it is as an int. -/
def seqOk (t : TagM) : Prop := -9223372036854775808 ≤ t.id.seq ∧ t.id.seq ≤ 9223372036854775807
theorem r5compareTag_eq {a b : TagM} (ha : seqOk a) (hb : seqOk b) : r5compareTag_m a b = tagCmp a b := by
  have wa : IntKind.i64.wrap a.id.seq = a.id.seq := wf_i64 ha
  have wb : IntKind.i64.wrap b.id.seq = b.id.seq := wf_i64 hb
  unfold r5compareTag_m r5compare_m r5order_m tagCmp
  rw [wa, wb]
  by_cases e : a.id = b.id
  · rw [if_pos e]
    have e1 : a.id.origin = b.id.origin := by rw [e]
    have e2 : a.id.seq = b.id.seq := by rw [e]
    by_cases h5 : a.n < b.n
    · simp [tagLt, h5, e1, e2]
    · by_cases h6 : b.n < a.n
      · have hne : ¬ a = b := fun e => by subst e; omega
        simp [tagLt, h5, h6, hne, e1, e2]
      · have he : a = b := tag_ext e1 e2 (by omega)
        subst he
        simp [tagLt]
  · rw [if_neg e]
    have hne : ¬ a = b := fun q => e (by rw [q])
    have hid : ¬ (a.id.origin = b.id.origin ∧ a.id.seq = b.id.seq) := fun ⟨q1, q2⟩ => e (by
      obtain ⟨⟨a1, a2⟩, a3⟩ := a
      obtain ⟨⟨b1, b2⟩, b3⟩ := b
      simp only at q1 q2
      subst q1; subst q2; rfl)
    by_cases h1 : a.id.origin = b.id.origin
    · rw [if_pos h1]
      have h2 : ¬ a.id.seq = b.id.seq := fun q => hid ⟨h1, q⟩
      by_cases h3 : a.id.seq < b.id.seq
      · simp [h3, tagLt, h1]
      · have h4 : b.id.seq < a.id.seq := by omega
        simp [h3, h4, tagLt, hne, h1, h2]
    · rw [if_neg h1]
      by_cases h3 : a.id.origin < b.id.origin
      · simp [h3, tagLt]
      · have h4 : b.id.origin < a.id.origin := by omega
        simp [h3, h4, tagLt, hne, h1]
/-- A name as it can stand in memory. -/
def tagOk (t : TagM) : Prop := 0 ≤ t.id.seq ∧ t.id.seq ≤ 4294967295
theorem tagOk.seq {t : TagM} (h : tagOk t) : seqOk t := by unfold tagOk at h; unfold seqOk; omega
theorem r5check_z (i : IdM) : r5check_m i = if (i.origin < 0) ∨ (7 < i.origin) ∨ (i.seq < 1) ∨ (1048576 < i.seq) then 2 else 0 := by unfold r5check_m; simp only [r5check_c1_iff]
theorem r5checkTag_z (t : TagM) : r5checkTag_m t = if ¬ (r5check_m t.id = 0) ∨ (t.n < 0) ∨ (15 < t.n) then 2 else 0 := by unfold r5checkTag_m; simp only [r5checkTag_c1_iff]
theorem r5checkTag_fine (t : TagM) : r5checkTag_m t = 0 ↔ (0 ≤ t.id.origin ∧ t.id.origin ≤ 7 ∧ 1 ≤ t.id.seq ∧ t.id.seq ≤ 1048576 ∧ 0 ≤ t.n ∧ t.n ≤ 15) := by
  rw [r5checkTag_z, r5check_z]
  by_cases h1 : (t.id.origin < 0) ∨ (7 < t.id.origin) ∨ (t.id.seq < 1) ∨ (1048576 < t.id.seq)
  · rw [if_pos h1]; simp; omega
  · rw [if_neg h1]
    by_cases h2 : (t.n < 0) ∨ (15 < t.n)
    · simp [h2]; omega
    · rw [if_neg (by simp only [not_true_eq_false, false_or]; exact h2)]
      simp only [true_iff]; omega
theorem r5checkTag_or (t : TagM) : r5checkTag_m t = 0 ∨ r5checkTag_m t = 2 := by rw [r5checkTag_z]; split <;> simp
theorem icheckTag_z (t : TagM) : icheckTag_m t = if (t.n < 0) ∨ (16 ≤ t.n) then 2 else if (t.id.origin < 0) ∨ (8 ≤ t.id.origin) ∨ (t.id.seq = 0) ∨ (1048576 < t.id.seq) then 2 else 0 := by
  unfold icheckTag_m icheck_m; simp only [icheckTag_c1_iff, icheck_c1_iff]
theorem checkTag_eq {t : TagM} (h : tagOk t) : icheckTag_m t = r5checkTag_m t := by
  unfold tagOk at h
  have h5 := r5checkTag_fine t
  have h6 := r5checkTag_or t
  rw [icheckTag_z]
  split
  · rcases h6 with h6 | h6
    · have := h5.1 h6; omega
    · rw [h6]
  · split
    · rcases h6 with h6 | h6
      · have := h5.1 h6; omega
      · rw [h6]
    · rw [h5.2 (by omega)]
theorem r12elem_eq (s : List UInt8) : oelem_m s = r12elem_m s := by
  unfold oelem_m r12elem_m
  cases s with
  | nil => rfl
  | cons a s => rw [if_neg (by simp), if_pos (by simp; omega)]
theorem lthere_iff (o : Int) : lthere_m o = true ↔ (0 ≤ o ∧ o < 8) := by unfold lthere_m; split <;> simp <;> omega
theorem lcheck_eq (s : StampM) : lcheck_m s = r9check_m s := by
  unfold lcheck_m r9check_m
  simp only [lcheck_c1_iff, r9check_c1_iff, lthere_iff]
  repeat' split
  all_goals first | rfl | omega
theorem containsF_eq {α : Type} [Inhabited α] [DecidableEq α] (s : List α) (f : α → Bool) : containsF_m s f = s.any f := by
  unfold containsF_m
  rcases indexF_cases s f with ⟨a, b, c, d⟩ | ⟨a, b⟩
  · rw [decide_eq_true a]; symm; rw [List.any_eq_true]; exact ⟨_, ix_memI s a b, c⟩
  · rw [a]; symm
    rw [show decide ((0 : Int) ≤ -1) = false from rfl, List.any_eq_false]
    intro x hx
    obtain ⟨k, hk, rfl⟩ := List.getElem_of_mem hx
    have := b (k : Int) (by omega) (by omega)
    rw [ix_at s hk] at this
    simp [this]
theorem valid_seq {t : TagM} (h : r5checkTag_m t = 0) : seqOk t := by
  have := (r5checkTag_fine t).1 h
  unfold seqOk
  omega
theorem checkOp_eq (o : OpM) : ocheckOp_m o = r14checkOp_m o := by
  unfold ocheckOp_m r14checkOp_m
  have hk : okind_m o.act = r14kind_m o.act := rfl
  rw [hk]
  by_cases h0 : r14kind_m o.act = 0
  · rw [if_pos h0, if_pos h0]
  · rw [if_neg h0, if_neg h0]
    have : o.act = 1 ∨ o.act = 2 ∨ o.act = 3 ∨ o.act = 4 ∨ o.act = 5 ∨ o.act = 6 := by
      unfold r14kind_m at h0
      repeat' split at h0
      all_goals first | omega | (exact absurd rfl h0)
    simp only [ocheckOp_c1_iff, ocheckOp_c2_iff, ocheckOp_c3_iff, ocheckOp_c4_iff, r14checkOp_c1_iff, r14checkOp_c2_iff, r14checkOp_c3_iff, r12elem_eq, oform_m]
    rcases this with h | h | h | h | h | h <;> simp only [h] <;> simp


def okB (b : UInt8) : Bool := inPart_m (b.toNat : Int)
theorem okB_iff (b : UInt8) : okB b = true ↔ ((97 ≤ b.toNat ∧ b.toNat ≤ 122) ∨ (48 ≤ b.toNat ∧ b.toNat ≤ 57)) := by
  unfold okB inPart_m
  repeat' split
  all_goals simp
  all_goals omega
theorem decode_big (s : ByteArray) (i : Nat) (h : 128 ≤ (s.get! i).toNat) : 128 ≤ (Utf8.decode s i).1 := by
  unfold Utf8.decode
  simp only [Nat.add_zero]
  rw [if_neg (by omega)]
  repeat' split
  all_goals first | (simp only [Utf8.runeError]; omega) | (rename_i h; simp at h; simp only; omega) | decide
theorem okey1_big {x : Nat} (h : 128 ≤ x) : okey1_m (x : Int) = true := by unfold okey1_m; rw [if_pos (by omega)]
theorem okey1_small (b : UInt8) (h : b.toNat < 128) : okey1_m (b.toNat : Int) = !okB b := by
  unfold okey1_m okB
  rw [if_neg (by omega), show (b.toNat : Int) % 256 = b.toNat by omega]
theorem getb {p : List UInt8} {j : Nat} (h : j < p.length) : (⟨p.toArray⟩ : ByteArray).get! j = p[j] := by
  show p.toArray[j]! = p[j]
  simp [h]
theorem idx_from (p : List UInt8) : ∀ (fuel pos : Nat), p.length - pos ≤ fuel → (Lib.idxFuncFrom (fun x => okey1_m (x : Int)) true ⟨p.toArray⟩ fuel pos = -1 ↔ (p.drop pos).all okB = true) ∧ -1 ≤ Lib.idxFuncFrom (fun x => okey1_m (x : Int)) true ⟨p.toArray⟩ fuel pos
  | 0, pos, h => by
    rw [Lib.idxFuncFrom, List.drop_of_length_le (by omega)]; simp
  | fuel + 1, pos, h => by
    rw [Lib.idxFuncFrom]
    by_cases hp : pos < p.length
    · have hs : pos < (⟨p.toArray⟩ : ByteArray).size := by simpa [ByteArray.size] using hp
      rw [if_pos hs, List.drop_eq_getElem_cons hp, List.all_cons]
      by_cases hb : (p[pos]).toNat < 128
      · have hd : Utf8.decode ⟨p.toArray⟩ pos = ((p[pos]).toNat, 1) := by
          have hbe : (⟨p.toArray⟩ : ByteArray)[pos]'hs = p[pos] := by show p.toArray[pos] = p[pos]; simp
          have := decode_ascii ⟨p.toArray⟩ pos hs (by rw [hbe]; exact hb)
          rw [this, hbe]
        rw [hd, okey1_small _ hb]
        by_cases hk : okB p[pos] = true
        · simp only [hk, Bool.not_true, Bool.false_eq_true, if_false, Bool.true_and]
          exact idx_from p fuel (pos + 1) (by omega)
        · have hk : okB p[pos] = false := by simpa using hk
          simp only [hk, Bool.not_false, if_true, Bool.false_and]
          constructor
          · constructor
            · intro e; omega
            · intro e; cases e
          · omega
      · have h2 := decode_big ⟨p.toArray⟩ pos (by rw [getb hp]; omega)
        have hk : okB p[pos] = false := by
          cases hq : okB p[pos] with
          | false => rfl
          | true => have := (okB_iff _).1 hq; omega
        rw [if_pos (okey1_big h2), hk, Bool.false_and]
        constructor
        · constructor
          · intro e; omega
          · intro e; cases e
        · omega
    · have hs : ¬ pos < (⟨p.toArray⟩ : ByteArray).size := by simpa [ByteArray.size] using hp
      rw [if_neg hs, List.drop_of_length_le (by omega)]; simp
theorem idxKey_iff (p : List UInt8) : 0 ≤ idxKey_m p ↔ ¬ p.all okB = true := by
  have h := idx_from p p.length 0 (by omega)
  have e : idxKey_m p = Lib.idxFuncFrom (fun x => okey1_m (x : Int)) true ⟨p.toArray⟩ p.length 0 := by unfold idxKey_m Lib.idxFunc; simp [ByteArray.size]
  rw [e]
  rw [List.drop_zero] at h
  generalize Lib.idxFuncFrom (fun x => okey1_m (x : Int)) true ⟨p.toArray⟩ p.length 0 = r at h
  constructor
  · intro h1 h2; have := h.1.2 h2; omega
  · intro h1
    have : r ≠ -1 := fun e => h1 (h.1.1 e)
    omega
/-- The parts between the strokes. -/
def spl : List UInt8 → List (List UInt8)
  | [] => [[]]
  | c :: t => if c = 47 then [] :: spl t else match spl t with
    | [] => [[c]]
    | p :: r => (c :: p) :: r
theorem spl_ne (s : List UInt8) : spl s ≠ [] := by
  cases s with
  | nil => simp [spl]
  | cons c t =>
    unfold spl
    split
    · simp
    · split <;> simp
theorem indexByte_none (t : List UInt8) (c : UInt8) (h : Lib.indexByte t c = -1) : t.count c = 0 := by
  induction t with
  | nil => rfl
  | cons b l ih =>
    unfold Lib.indexByte at h
    by_cases e : b = c
    · subst e; simp at h
    · have e2 : (b == c) = false := by simpa using e
      rw [if_neg (by simp [e2])] at h
      by_cases h2 : (Lib.indexByte l c == -1) = true
      · rw [List.count_cons, ih (by simpa using h2)]; simp [e]
      · rw [if_neg h2] at h
        have := Lib.indexByte_ge l c
        omega
theorem splitK_spl : ∀ s : List UInt8, Lib.splitK [47] 0 (s.count 47) s = spl s
  | [] => rfl
  | c :: t => by
    have ih := splitK_spl t
    by_cases e : c = 47
    · subst e
      rw [List.count_cons_self, Lib.splitK, Lib.index_one]
      have h0 : Lib.indexByte (47 :: t) 47 = 0 := by simp [Lib.indexByte]
      rw [h0]
      simp only [spl, if_true]
      rw [if_neg (by decide)]
      simp only [Int.toNat_zero, Nat.zero_add, List.take_zero, List.length_singleton, List.drop_succ_cons, List.drop_zero]
      rw [ih]
    · rw [List.count_cons_of_ne e]
      have hs : spl (c :: t) = match spl t with | [] => [[c]] | p :: r => (c :: p) :: r := by rw [spl, if_neg e]
      rw [hs, ← ih]
      cases hk : t.count 47 with
      | zero => simp [Lib.splitK]
      | succ k =>
        have hi : Lib.indexByte t 47 ≠ -1 := fun q => by have := indexByte_none t 47 q; omega
        have hg := Lib.indexByte_ge t 47
        have h1 : Lib.indexByte (c :: t) 47 = Lib.indexByte t 47 + 1 := by
          rw [Lib.indexByte]
          rw [if_neg (by simpa using e), if_neg (by simpa using hi)]
        simp only [Lib.splitK, Lib.index_one, h1]
        rw [if_neg (by simp; omega), if_neg (by simpa using hi)]
        have e1 : (Lib.indexByte t 47 + 1).toNat = (Lib.indexByte t 47).toNat + 1 := by omega
        simp only [e1, Nat.add_zero, List.take_succ_cons, List.length_singleton, List.drop_succ_cons]
theorem split_spl (s : List UInt8) : split_m s [47] = spl s := by
  unfold split_m Lib.split
  rw [Lib.count_one, splitK_spl]
def kindOf (f : Int) : Int × Int := if f = 114 then (1, 0) else if f = 99 then (2, 0) else if f = 115 then (3, 0) else if f = 109 then (4, 0) else (0, 5)
/-- A run over the bytes: are we in a part, what it begins with. -/
def rk : Bool → Int → List UInt8 → Option Int
  | part, first, [] => if part then some first else none
  | part, first, c :: t => if okB c = true then rk true (if part then first else (c.toNat : Int)) t else if c = 47 ∧ part = true then rk false first t else none
def goodP (p : List UInt8) : Bool := !p.isEmpty && p.all okB
def headI (p : List UInt8) : Int := ((ix p 0).toNat : Int)
def lastI (first : Int) (r : List (List UInt8)) : Int := match r.getLast? with
  | none => first
  | some q => headI q
theorem lastI_cons (f g : Int) (p : List UInt8) (r : List (List UInt8)) (h : g = headI p ∨ r ≠ []) : lastI f (p :: r) = lastI g r := by
  unfold lastI
  cases r with
  | nil => rcases h with h | h
           · simp [h]
           · exact absurd rfl h
  | cons a b => rw [List.getLast?_cons_cons, List.getLast?_eq_some_getLast (by simp)]
theorem rk_spl : ∀ (s : List UInt8) (first : Int) (p : List UInt8) (r : List (List UInt8)), spl s = p :: r →
    rk true first s = (if p.all okB && r.all goodP then some (lastI first r) else none) ∧ rk false first s = (if goodP p && r.all goodP then some (lastI (headI p) r) else none)
  | [], first, p, r, h => by
    simp only [spl, List.cons.injEq] at h
    obtain ⟨rfl, rfl⟩ := h
    simp [rk, goodP, lastI]
  | c :: t, first, p, r, h => by
    have h47 : okB 47 = false := by decide
    cases hs : spl t with
    | nil => exact absurd hs (spl_ne t)
    | cons p2 r2 =>
      have ih := fun f => rk_spl t f p2 r2 hs
      by_cases e : c = 47
      · subst e
        simp only [spl, if_true, hs, List.cons.injEq] at h
        obtain ⟨rfl, rfl⟩ := h
        simp only [rk, h47, Bool.false_eq_true, if_false]
        refine ⟨?_, ?_⟩
        · simp only [and_self, if_true]
          rw [(ih first).2]
          simp only [List.all_nil, List.all_cons, Bool.true_and]
          by_cases hg : (goodP p2 && r2.all goodP) = true
          · rw [if_pos hg, if_pos hg, lastI_cons first (headI p2) p2 r2 (.inl rfl)]
          · rw [if_neg hg, if_neg hg]
        · simp [goodP]
      · simp only [spl, e, if_false, hs, List.cons.injEq] at h
        obtain ⟨rfl, rfl⟩ := h
        simp only [rk, e, false_and, if_false]
        by_cases hk : okB c = true
        · simp only [hk, if_true, List.all_cons, Bool.true_and]
          refine ⟨(ih first).1, ?_⟩
          simp only [Bool.false_eq_true, if_false]
          rw [(ih (c.toNat : Int)).1]
          have hh : headI (c :: p2) = (c.toNat : Int) := by simp [headI, ix]
          simp [goodP, hk, hh]
        · simp only [hk, if_false, List.all_cons, Bool.false_eq_true]
          have hk2 : okB c = false := by simpa using hk
          simp [goodP, hk2]
def finK (r : (Int × Int) ⊕ (Int × Int × Int)) : Int × Int := match r with
  | .inl r => r
  | .inr (s4, s5, _) => if s5 = 0 then (0, 3) else kindOf s4
theorem r14key_run (s : List UInt8) : ∀ (fuel : Nat) (s4 s5 s6 : Int), 0 ≤ s5 → 0 ≤ s6 → ((s.length : Int) - s6).toNat < fuel → finK (r14key_L1 s fuel s4 s5 s6) = match rk (decide (¬ s5 = 0)) s4 (s.drop s6.toNat) with | none => (0, 3) | some f => kindOf f
  | 0, _, _, s6, _, _, h => by omega
  | fuel + 1, s4, s5, s6, h0, h6, h => by
    rw [r14key_L1]
    by_cases hl : s6 < (s.length : Int)
    · rw [if_pos hl, ix_drop s h6 hl]
      have k1 : (r14key_c1 s s4 s5 s6 = true) ↔ okB (ix s s6) = true := by rw [r14key_c1_iff, okB_iff]; omega
      have k2 := r14key_c2_iff s s4 s5 s6
      have h47 : ((ix s s6).toNat : Int) = 47 ↔ ix s s6 = 47 := by
        constructor
        · intro q; apply UInt8.toNat_inj.1; simpa using (show (ix s s6).toNat = 47 by omega)
        · intro q; rw [q]; rfl
      rw [rk]
      by_cases c1 : okB (ix s s6) = true
      · rw [if_pos (k1.2 c1), if_pos c1]
        by_cases c2 : s5 = 0
        · rw [if_pos c2, r14key_run s fuel _ _ _ (by omega) (by omega) (by omega)]
          simp [c2]
        · rw [if_neg c2, r14key_run s fuel _ _ _ (by omega) (by omega) (by omega)]
          have : ¬ s5 + 1 = 0 := by omega
          simp [c2, this]
      · rw [if_neg (fun q => c1 (k1.1 q)), if_neg c1]
        by_cases c3 : r14key_c2 s s4 s5 s6 = true
        · have := k2.1 c3
          rw [if_pos c3, if_pos ⟨h47.1 this.1, by simp; omega⟩, r14key_run s fuel _ _ _ (by omega) (by omega) (by omega)]
          simp
        · rw [if_neg c3, if_neg (fun q => c3 (k2.2 ⟨h47.2 q.1, by have := q.2; simp at this; omega⟩))]
          rfl
    · rw [if_neg hl, List.drop_of_length_le (by omega)]
      simp only [finK, rk]
      by_cases c : s5 = 0 <;> simp [c]
theorem r14key_eq (s : List UInt8) : r14key_m s = if 24 < (s.length : Int) then (0, 8) else match rk false 0 s with | none => (0, 3) | some f => kindOf f := by
  unfold r14key_m
  split
  · rfl
  · have := r14key_run s (((s.length : Int) - (0 : Int)).toNat + 1) 0 0 0 (by omega) (by omega) (by omega)
    simp only [not_true_eq_false, decide_false, Int.toNat_zero, List.drop_zero] at this
    rw [← this]
    cases r14key_L1 s (((s.length : Int) - (0 : Int)).toNat + 1) 0 0 0 with
    | inl r => rfl
    | inr r => obtain ⟨a, b, c⟩ := r; rfl
theorem goodP_iff (p : List UInt8) : goodP p = true ↔ ¬ (p = [] ∨ 0 ≤ idxKey_m p) := by
  rw [idxKey_iff]
  unfold goodP
  cases p with
  | nil => simp
  | cons a b => simp only [List.isEmpty_cons, Bool.not_false, Bool.true_and, reduceCtorEq, false_or]; by_cases h : (a :: b).all okB = true <;> simp_all
theorem okey_eq (s : List UInt8) : okey_m s = r14key_m s := by
  rw [r14key_eq]
  unfold okey_m
  split
  · rfl
  · cases hs : spl s with
    | nil => exact absurd hs (spl_ne s)
    | cons p r =>
      have hrk := (rk_spl s 0 p r hs).2
      have hL := loop_all0 (split_m s [47]) goodP (0, 3) (okey_L1 s) (fun fuel i _ => by
        rw [okey_L1]
        split
        · have k := okey_c1_iff s i
          have g := goodP_iff (ix (split_m s [47]) i)
          by_cases c : okey_c1 s i = true
          · rw [if_pos c, if_neg (fun q => g.1 q (k.1 c))]
          · rw [if_neg c, if_pos (g.2 (fun q => c (k.2 q)))]
        · rfl)
      obtain ⟨q, hq⟩ := hL
      rw [hq, hrk, split_spl, hs, List.all_cons]
      by_cases hg : (goodP p && r.all goodP) = true
      · rw [if_pos hg, if_pos hg]
        have hlast : ((ix (ix (p :: r) (((p :: r).length : Int) - 1)) 0).toNat : Int) = lastI (headI p) r := by
          unfold lastI
          have e1 : ix (p :: r) (((p :: r).length : Int) - 1) = (p :: r).getLast (by simp) := by
            rw [List.getLast_eq_getElem]
            have : ((((p :: r).length : Int) - 1)) = (((p :: r).length - 1 : Nat) : Int) := by simp
            rw [this, ix_at _ (by simp)]
          rw [e1]
          cases r with
          | nil => simp [headI]
          | cons a b => rw [List.getLast_cons (by simp), List.getLast?_eq_some_getLast (by simp)]; rfl
        simp only [hlast]
        rfl
      · rw [if_neg hg, if_neg hg]


structure EffWf (e : EffectM) : Prop where
  tag : tagOk e.tag
  tags : ∀ t ∈ e.tags, tagOk t
  time : 0 ≤ e.atF.time
theorem formAt (a : Int) : (oform_m a).atF = r14timed_m a := by
  unfold oform_m r14timed_m
  by_cases h1 : a = 5
  · simp [h1]
  · by_cases h2 : a = 1
    · simp [h2]
    · simp only [h1, h2, if_false]
      have : (a == 5) = false := by simpa using h1
      rw [this]
      repeat' split
      all_goals rfl
theorem formTags (a : Int) : (oform_m a).tags = r14takes_m a := by
  unfold oform_m r14takes_m
  by_cases h1 : a = 4
  · simp [h1]
  · by_cases h2 : a = 6
    · simp [h2]
    · simp only [h1, h2, if_false]
      have e4 : (a == 4) = false := by simpa using h1
      have e6 : (a == 6) = false := by simpa using h2
      repeat' split
      all_goals first | rfl | simp_all
theorem otimed_iff {s : StampM} (h : 0 ≤ s.time) : otimed_m s = true ↔ (r9check_m s = 0 ∧ ¬ s.time = 0) := by
  unfold otimed_m; rw [lcheck_eq]
  by_cases e : r9check_m s = 0
  · simp [e]; omega
  · simp [e]
theorem checkE_eq {e : EffectM} (h : EffWf e) : ocheckE_m e = r14checkE_m e := by
  unfold ocheckE_m r14checkE_m
  rw [checkOp_eq]
  split
  · have k1 : (ocheckE_c1 e = true) ↔ ¬ (r5checkTag_m e.tag = 0 ∧ e.tags.all (fun t => decide (r5checkTag_m t = 0)) = true) := by
      rw [ocheckE_c1_iff, containsF_eq]
      have b1 : (bnotTag_m e.tag = true) ↔ ¬ r5checkTag_m e.tag = 0 := by unfold bnotTag_m; rw [checkTag_eq h.tag]; simp
      have b2 : e.tags.any bnotTag_m = !e.tags.all (fun t => decide (r5checkTag_m t = 0)) := by
        rw [List.not_all_eq_any_not, Bool.eq_iff_iff]
        simp only [List.any_eq_true]
        constructor
        · rintro ⟨t, ht, q⟩
          exact ⟨t, ht, by unfold bnotTag_m at q; rw [checkTag_eq (h.tags t ht)] at q; simpa using q⟩
        · rintro ⟨t, ht, q⟩
          exact ⟨t, ht, by unfold bnotTag_m; rw [checkTag_eq (h.tags t ht)]; simpa using q⟩
      rw [b1, b2]
      by_cases x : r5checkTag_m e.tag = 0 <;> by_cases y : e.tags.all (fun t => decide (r5checkTag_m t = 0)) = true <;> simp [x, y]
    obtain ⟨q1, l1⟩ := loop_all0 e.tags (fun t => decide (r5checkTag_m t = 0)) 2 (r14checkE_L1 e) (fun fuel i _ => by rw [r14checkE_L1]; simp only [decide_eq_true_eq])
    by_cases c1 : r5checkTag_m e.tag = 0
    · by_cases c2 : e.tags.all (fun t => decide (r5checkTag_m t = 0)) = true
      · rw [if_neg (fun q => k1.1 q ⟨c1, c2⟩), if_pos c1, l1, if_pos c2]
        simp only
        split
        · rfl
        · have k2 : (ocheckE_c2 e = true) ↔ (r14checkE_c1 e q1 = true) := by
            rw [ocheckE_c2_iff, r14checkE_c1_iff, formAt, formTags, otimed_iff h.time]
            by_cases x : r14timed_m e.act = true <;> by_cases y : r9check_m e.atF = 0 <;> by_cases z : e.atF.time = 0 <;> simp [x, y, z]
          by_cases c3 : r14checkE_c1 e q1 = true
          · rw [if_pos (k2.2 c3), if_pos c3]
          · rw [if_neg (fun q => c3 (k2.1 q)), if_neg c3]
            have v : ∀ t ∈ e.tags, seqOk t := fun t ht => by
              rw [List.all_eq_true] at c2
              exact valid_seq (by simpa using c2 t ht)
            have key : ∀ fuel (i : Int), 1 ≤ i → ocheckE_L1 e fuel i = r14checkE_L2 e q1 fuel i := by
              intro fuel
              induction fuel with
              | zero => intro i _; rfl
              | succ fuel ih =>
                intro i hi
                rw [ocheckE_L1, r14checkE_L2, ih (i + 1) (by omega)]
                split
                · rw [r5compareTag_eq (v _ (ix_memI _ (by omega) (by omega))) (v _ (ix_memI _ (by omega) (by omega))), icompareTag_eq]
                · rfl
            rw [key _ 1 (by omega)]
            rfl
      · rw [if_pos (k1.2 fun q => c2 q.2), if_pos c1, l1, if_neg c2]
    · rw [if_pos (k1.2 fun q => c1 q.1), if_neg c1]
  · rfl
theorem eff14_eq (e : EffectM) : eff14_m e = e := by unfold eff14_m; simp
theorem great_bnd {s : ObjM} {e : EffectM} (h : ¬ great14_m s e = true) : e.tags.length ≤ 100 ∧ e.name.length ≤ 1000 := by
  unfold great14_m at h
  repeat' split at h
  all_goals simp_all
  all_goals omega

end Go.Proofs.YtmajjdpioillaaaDoor

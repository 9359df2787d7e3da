/- Walks printed by gen2.py out of our own specifications: what the functions named below do. -/
import Derived.Test.YtmenpoicgoijcaaGreatSc
import Derived.Test.YtmenpoicgoijcaaGreatZ6
import Derived.Test.YtmenpoicgoijcaaGreatPl
import Derived.Test.YtmenpoicgoijcaaGreatSs
set_option linter.unusedSimpArgs false
set_option linter.unusedVariables false
namespace Go.Proofs.YtmenpoicgoijcaaGreat
open Go.RowKit
def tagLt (a b : TagM) : Bool := decide (a.id.origin < b.id.origin ∨ (a.id.origin = b.id.origin ∧ (a.id.seq < b.id.seq ∨ (a.id.seq = b.id.seq ∧ a.n < b.n))))
theorem tagLt_trans (a b c : TagM) (h1 : tagLt a b = true) (h2 : tagLt b c = true) : tagLt a c = true := by
  simp only [tagLt, decide_eq_true_eq] at *
  omega
theorem tagLt_irrefl (a : TagM) : tagLt a a = false := by simp [tagLt]
theorem tagLt_asymm {a b : TagM} (h1 : tagLt a b = true) : tagLt b a = false := by
  simp only [tagLt, decide_eq_true_eq, decide_eq_false_iff_not] at *
  omega
theorem tag_ext {a b : TagM} (h1 : a.id.origin = b.id.origin) (h2 : a.id.seq = b.id.seq) (h3 : a.n = b.n) : a = b := by
  obtain ⟨⟨a1, a2⟩, a3⟩ := a
  obtain ⟨⟨b1, b2⟩, b3⟩ := b
  simp only at h1 h2 h3
  subst h1; subst h2; subst h3; rfl
theorem tagLt_tri (a b : TagM) : tagLt a b = true ∨ a = b ∨ tagLt b a = true := by
  by_cases h : tagLt a b = true
  · exact .inl h
  · by_cases h2 : tagLt b a = true
    · exact .inr (.inr h2)
    · refine .inr (.inl (tag_ext ?_ ?_ ?_)) <;> simp only [tagLt, decide_eq_true_eq] at * <;> omega
def tagCmp (a b : TagM) : Int := if tagLt a b = true then -1 else if a = b then 0 else 1
theorem tagCmp_neg (a b : TagM) : tagCmp a b < 0 ↔ tagLt a b = true := by
  unfold tagCmp
  split
  · simp [*]
  · rename_i h
    split <;> simp [h]
theorem tagCmp_zero (a b : TagM) : tagCmp a b = 0 ↔ a = b := by
  unfold tagCmp
  split
  · rename_i h
    constructor
    · intro e; omega
    · intro e; subst e; rw [tagLt_irrefl] at h; cases h
  · split
    · simp [*]
    · simp [*]
theorem nanI_f (x : Int) : nanI_m x = false := by simp [nanI_m]
theorem nanU_f (x : Int) : nanU_m x = false := by simp [nanU_m]
theorem cmpI_eq (x y : Int) : cmpI_m x y = if x < y then -1 else if y < x then 1 else 0 := by unfold cmpI_m; simp [nanI_f]
theorem cmpU_eq (x y : Int) : cmpU_m x y = if x < y then -1 else if y < x then 1 else 0 := by unfold cmpU_m; simp [nanU_f]
theorem cmpOr2 (a b : Int) : cmpOr_m [a, b] = if a = 0 then b else a := by
  unfold cmpOr_m
  rw [show (((([a, b] : List Int).length : Int) - (0 : Int)).toNat + 1) = 3 from rfl]
  simp only [cmpOr_L1, ix, List.length_cons, List.length_nil]
  by_cases ha : a = 0 <;> by_cases hb : b = 0 <;> simp [ha, hb]
theorem icompare_eq (a b : IdM) : icompare_m a b = if a.origin < b.origin then -1 else if b.origin < a.origin then 1 else if a.seq < b.seq then -1 else if b.seq < a.seq then 1 else 0 := by
  unfold icompare_m
  rw [cmpOr2, cmpI_eq, cmpU_eq]
  by_cases h1 : a.origin < b.origin
  · simp [h1]
  · by_cases h2 : b.origin < a.origin
    · simp [h1, h2]
    · simp [h1, h2]
theorem icompareTag_eq (a b : TagM) : icompareTag_m a b = tagCmp a b := by
  unfold icompareTag_m tagCmp
  rw [cmpOr2, icompare_eq, cmpI_eq]
  by_cases h1 : a.id.origin < b.id.origin
  · simp [h1, tagLt]
  · by_cases h2 : b.id.origin < a.id.origin
    · have hne : ¬ a = b := fun e => by subst e; omega
      simp [h1, h2, tagLt, hne] <;> omega
    · have e1 : a.id.origin = b.id.origin := by omega
      by_cases h3 : a.id.seq < b.id.seq
      · simp [h1, h2, h3, tagLt] <;> omega
      · by_cases h4 : b.id.seq < a.id.seq
        · have hne : ¬ a = b := fun e => by subst e; omega
          simp [h1, h2, h3, h4, tagLt, hne] <;> omega
        · have e2 : a.id.seq = b.id.seq := by omega
          by_cases h5 : a.n < b.n
          · simp [h1, h2, h3, h4, h5, tagLt] <;> omega
          · by_cases h6 : b.n < a.n
            · have hne : ¬ a = b := fun e => by subst e; omega
              simp [h1, h2, h3, h4, h5, h6, tagLt, hne] <;> omega
            · have e3 : a.n = b.n := by omega
              have he : a = b := tag_ext e1 e2 e3
              subst he
              simp [tagLt]
def seqOk (t : TagM) : Prop := -9223372036854775808 ≤ t.id.seq ∧ t.id.seq ≤ 9223372036854775807
theorem r5compareTag_eq {a b : TagM} (ha : seqOk a) (hb : seqOk b) : r5compareTag_m a b = tagCmp a b := by
  have wa : IntKind.i64.wrap a.id.seq = a.id.seq := wf_i64 ha
  have wb : IntKind.i64.wrap b.id.seq = b.id.seq := wf_i64 hb
  unfold r5compareTag_m r5compare_m r5order_m tagCmp
  rw [wa, wb]
  by_cases e : a.id = b.id
  · rw [if_pos e]
    have e1 : a.id.origin = b.id.origin := by rw [e]
    have e2 : a.id.seq = b.id.seq := by rw [e]
    by_cases h5 : a.n < b.n
    · simp [tagLt, h5, e1, e2]
    · by_cases h6 : b.n < a.n
      · have hne : ¬ a = b := fun e => by subst e; omega
        simp [tagLt, h5, h6, hne, e1, e2]
      · have he : a = b := tag_ext e1 e2 (by omega)
        subst he
        simp [tagLt]
  · rw [if_neg e]
    have hne : ¬ a = b := fun q => e (by rw [q])
    have hid : ¬ (a.id.origin = b.id.origin ∧ a.id.seq = b.id.seq) := fun ⟨q1, q2⟩ => e (by
      obtain ⟨⟨a1, a2⟩, a3⟩ := a
      obtain ⟨⟨b1, b2⟩, b3⟩ := b
      simp only at q1 q2
      subst q1; subst q2; rfl)
    by_cases h1 : a.id.origin = b.id.origin
    · rw [if_pos h1]
      have h2 : ¬ a.id.seq = b.id.seq := fun q => hid ⟨h1, q⟩
      by_cases h3 : a.id.seq < b.id.seq
      · simp [h3, tagLt, h1]
      · have h4 : b.id.seq < a.id.seq := by omega
        simp [h3, h4, tagLt, hne, h1, h2]
    · rw [if_neg h1]
      by_cases h3 : a.id.origin < b.id.origin
      · simp [h3, tagLt]
      · have h4 : b.id.origin < a.id.origin := by omega
        simp [h3, h4, tagLt, hne, h1]
def tagOk (t : TagM) : Prop := 0 ≤ t.id.seq ∧ t.id.seq ≤ 4294967295
theorem tagOk.seq {t : TagM} (h : tagOk t) : seqOk t := by unfold tagOk at h; unfold seqOk; omega
theorem r5check_z (i : IdM) : r5check_m i = if (i.origin < 0) ∨ (7 < i.origin) ∨ (i.seq < 1) ∨ (1048576 < i.seq) then 2 else 0 := by unfold r5check_m; simp only [r5check_c1_iff]
theorem r5checkTag_z (t : TagM) : r5checkTag_m t = if ¬ (r5check_m t.id = 0) ∨ (t.n < 0) ∨ (15 < t.n) then 2 else 0 := by unfold r5checkTag_m; simp only [r5checkTag_c1_iff]
theorem r5checkTag_fine (t : TagM) : r5checkTag_m t = 0 ↔ (0 ≤ t.id.origin ∧ t.id.origin ≤ 7 ∧ 1 ≤ t.id.seq ∧ t.id.seq ≤ 1048576 ∧ 0 ≤ t.n ∧ t.n ≤ 15) := by
  rw [r5checkTag_z, r5check_z]
  by_cases h1 : (t.id.origin < 0) ∨ (7 < t.id.origin) ∨ (t.id.seq < 1) ∨ (1048576 < t.id.seq)
  · rw [if_pos h1]; simp; omega
  · rw [if_neg h1]
    by_cases h2 : (t.n < 0) ∨ (15 < t.n)
    · simp [h2]; omega
    · rw [if_neg (by simp only [not_true_eq_false, false_or]; exact h2)]
      simp only [true_iff]; omega
theorem r5checkTag_or (t : TagM) : r5checkTag_m t = 0 ∨ r5checkTag_m t = 2 := by rw [r5checkTag_z]; split <;> simp
theorem icheckTag_z (t : TagM) : icheckTag_m t = if (t.n < 0) ∨ (16 ≤ t.n) then 2 else if (t.id.origin < 0) ∨ (8 ≤ t.id.origin) ∨ (t.id.seq = 0) ∨ (1048576 < t.id.seq) then 2 else 0 := by
  unfold icheckTag_m icheck_m; simp only [icheckTag_c1_iff, icheck_c1_iff]
theorem checkTag_eq {t : TagM} (h : tagOk t) : icheckTag_m t = r5checkTag_m t := by
  unfold tagOk at h
  have h5 := r5checkTag_fine t
  have h6 := r5checkTag_or t
  rw [icheckTag_z]
  split
  · rcases h6 with h6 | h6
    · have := h5.1 h6; omega
    · rw [h6]
  · split
    · rcases h6 with h6 | h6
      · have := h5.1 h6; omega
      · rw [h6]
    · rw [h5.2 (by omega)]
theorem r12elem_eq (s : List UInt8) : oelem_m s = r12elem_m s := by
  unfold oelem_m r12elem_m
  cases s with
  | nil => rfl
  | cons a s => rw [if_neg (by simp), if_pos (by simp; omega)]
theorem lthere_iff (o : Int) : lthere_m o = true ↔ (0 ≤ o ∧ o < 8) := by unfold lthere_m; split <;> simp <;> omega
theorem lcheck_eq (s : StampM) : lcheck_m s = r9check_m s := by
  unfold lcheck_m r9check_m
  simp only [lcheck_c1_iff, r9check_c1_iff, lthere_iff]
  repeat' split
  all_goals first | rfl | omega
theorem containsF_eq {α : Type} [Inhabited α] [DecidableEq α] (s : List α) (f : α → Bool) : containsF_m s f = s.any f := by
  unfold containsF_m
  rcases indexF_cases s f with ⟨a, b, c, d⟩ | ⟨a, b⟩
  · rw [decide_eq_true a]; symm; rw [List.any_eq_true]; exact ⟨_, ix_memI s a b, c⟩
  · rw [a]; symm
    rw [show decide ((0 : Int) ≤ -1) = false from rfl, List.any_eq_false]
    intro x hx
    obtain ⟨k, hk, rfl⟩ := List.getElem_of_mem hx
    have := b (k : Int) (by omega) (by omega)
    rw [ix_at s hk] at this
    simp [this]
theorem strictF_iff {α : Type} [Inhabited α] [DecidableEq α] (l : List α) (c : α → α → Int) (tr : ∀ a b d, decide (c a b < 0) = true → decide (c b d < 0) = true → decide (c a d < 0) = true) : strictF_m l c = true ↔ l.Pairwise (fun a b => c a b < 0) := by
  have h := loop_pairs l (fun a b => decide (c a b < 0)) false (strictF_L1 l c) (fun fuel i _ => by
    rw [strictF_L1]
    split
    · by_cases h : (0 : Int) ≤ c (ix l (i - 1)) (ix l i)
      · rw [if_pos h, if_neg (by simp; omega)]
      · rw [if_neg h, if_pos (by simp; omega)]
    · rfl) (((l.length : Int) - (1 : Int)).toNat + 1) 1 (by omega) (by omega)
  have hp := pairs_iff l (fun a b => decide (c a b < 0)) tr
  simp only [decide_eq_true_eq] at hp
  unfold strictF_m
  rcases h with ⟨⟨q, a⟩, b⟩ | ⟨a, j, b, d, e⟩
  · rw [a]
    simp only [decide_eq_true_eq] at b
    exact ⟨fun _ => hp.1 b, fun _ => rfl⟩
  · rw [a]
    simp only [Bool.false_eq_true, false_iff]
    intro hw
    have := hp.2 hw j b d
    simp only [decide_eq_false_iff_not] at e
    exact e this
theorem mrise_eq (l : List TagM) : mrise_m l = strictF_m l icompareTag_m := by
  have key : ∀ fuel i, mrise_L1 l fuel i = strictF_L1 l icompareTag_m fuel i := by
    intro fuel
    induction fuel with
    | zero => intro i; rfl
    | succ fuel ih => intro i; rw [mrise_L1, strictF_L1, ih]
  unfold mrise_m strictF_m
  rw [key]
  rfl
theorem cmp_tr (a b d : TagM) (h1 : decide (icompareTag_m a b < 0) = true) (h2 : decide (icompareTag_m b d < 0) = true) : decide (icompareTag_m a d < 0) = true := by
  simp only [icompareTag_eq, decide_eq_true_eq, tagCmp_neg] at *
  exact tagLt_trans a b d h1 h2
def Rises (l : List TagM) : Prop := l.Pairwise (fun a b => tagLt a b = true)
theorem strictTag_iff (l : List TagM) : strictF_m l icompareTag_m = true ↔ Rises l := by
  rw [strictF_iff l _ cmp_tr]
  unfold Rises
  simp only [icompareTag_eq, tagCmp_neg]
theorem strictAdd_iff (l : List AddM) : strictF_m l ocheck2_m = true ↔ Rises (l.map (·.tag)) := by
  rw [strictF_iff l ocheck2_m (fun a b d => cmp_tr a.tag b.tag d.tag)]
  unfold Rises
  rw [List.pairwise_map]
  have : ∀ a b : AddM, ocheck2_m a b = icompareTag_m a.tag b.tag := fun _ _ => rfl
  simp only [this, icompareTag_eq, tagCmp_neg]
theorem r12rises_iff {l : List TagM} (hl : ∀ t ∈ l, seqOk t) : r12rises_m l = true ↔ Rises l := by
  rw [← strictTag_iff]
  have key : ∀ fuel (i : Int), 1 ≤ i → r12rises_L1 l fuel i = strictF_L1 l icompareTag_m fuel i := by
    intro fuel
    induction fuel with
    | zero => intro i _; rfl
    | succ fuel ih =>
      intro i hi
      rw [r12rises_L1, strictF_L1, ih (i + 1) (by omega)]
      split
      · rw [r5compareTag_eq (hl _ (ix_memI l (by omega) (by omega))) (hl _ (ix_memI l (by omega) (by omega))), icompareTag_eq]
      · rfl
  unfold r12rises_m strictF_m
  rw [key _ 1 (by omega)]
  exact Iff.rfl
theorem r12tags_eq (l : List AddM) : r12tags_m l = l.map (·.tag) := by
  unfold r12tags_m
  rw [loop_fold0 l (fun acc x => acc ++ [x.tag]) (r12tags_L1 l) (fun _ _ _ _ => rfl)]
  simp only [foldl_map_app, List.nil_append]
theorem mtags_eq (l : List PutM) : mtags_m l = l.map (·.tag) := by
  unfold mtags_m
  rw [loop_fold0 l (fun acc x => acc ++ [x.tag]) (mtags_L1 l) (fun _ _ _ _ => rfl)]
  simp only [foldl_map_app, List.nil_append]
theorem r12right_eq (l : List TagM) : r12right_m l = l.all (fun t => decide (r5checkTag_m t = 0)) := by
  unfold r12right_m
  obtain ⟨q, h⟩ := loop_all0 l (fun t => decide (r5checkTag_m t = 0)) false (r12right_L1 l) (fun fuel i _ => by rw [r12right_L1]; simp only [decide_eq_true_eq])
  rw [h]
  by_cases e : l.all (fun t => decide (r5checkTag_m t = 0)) = true
  · rw [if_pos e, e]
  · rw [if_neg e]; simpa using e
theorem hasTag_eq (l : List TagM) (t : TagM) : r12hasTag_m l t = decide (t ∈ l) := by
  unfold r12hasTag_m
  obtain ⟨q, h⟩ := loop_all0 l (fun x => decide (¬ x = t)) true (r12hasTag_L1 l t) (fun fuel i _ => by
    rw [r12hasTag_L1]
    split
    · by_cases e : ix l i = t
      · rw [if_pos e, if_neg (by simp [e])]
      · rw [if_neg e, if_pos (by simp [e])]
    · rfl)
  rw [h]
  by_cases e : l.all (fun x => decide (¬ x = t)) = true
  · rw [if_pos e]
    simp only [List.all_eq_true, decide_eq_true_eq] at e
    simp only
    symm; rw [decide_eq_false_iff_not]
    exact fun hm => e t hm rfl
  · rw [if_neg e]
    simp only
    symm; rw [decide_eq_true_eq]
    simp only [List.all_eq_true, decide_eq_true_eq] at e
    by_cases hm : t ∈ l
    · exact hm
    · exact absurd (fun x hx (q : x = t) => hm (q ▸ hx)) e
theorem bsearch_spec {x : List TagM} (hx : Rises x) (t : TagM) : ∃ q : Int, (bsearch_m x t icompareTag_m) = (q, decide (t ∈ x)) ∧ 0 ≤ q ∧ q ≤ x.length ∧ (∀ k : Int, 0 ≤ k → k < q → tagLt (ix x k) t = true) ∧ (∀ k : Int, q ≤ k → k < x.length → tagLt (ix x k) t = false) := by
  have hp : ∀ a b : Int, 0 ≤ a → a < b → b < x.length → tagLt (ix x a) (ix x b) = true := fun a b h0 h1 h2 => by
    have := List.pairwise_iff_getElem.1 hx a.toNat b.toNat (by omega) (by omega) (by omega)
    rw [← ix_at x (by omega), ← ix_at x (by omega)] at this
    rw [show ((a.toNat : Nat) : Int) = a by omega, show ((b.toNat : Nat) : Int) = b by omega] at this
    exact this
  obtain ⟨q, h, h0, h1, h2, h3⟩ := bs_spec x (fun a => icompareTag_m a t) (bsearch_L1 x t icompareTag_m) (fun _ _ _ => rfl) (fun a b ha hab hb hc => by
      simp only [icompareTag_eq, tagCmp_neg] at *
      exact tagLt_trans _ _ _ (hp a b ha hab hb) hc) (((x.length : Int) - (0 : Int)).toNat + 1) 0 x.length (by omega) (by omega) (by omega) (by omega) (fun _ _ _ => by omega) (fun _ _ _ => by omega)
  simp only [icompareTag_eq, tagCmp_neg] at h2 h3
  refine ⟨q, ?_, h0, h1, h2, fun k a b => by simpa using h3 k a b⟩
  unfold bsearch_m
  rw [h]
  simp only
  split
  · rename_i hlt
    congr 1
    rw [icompareTag_eq, Bool.eq_iff_iff, beq_iff_eq, tagCmp_zero, decide_eq_true_eq]
    constructor
    · intro e; rw [← e]; exact ix_memI x h0 hlt
    · intro hm
      obtain ⟨k, hk, rfl⟩ := List.getElem_of_mem hm
      rcases Int.lt_trichotomy (k : Int) q with hkq | hkq | hkq
      · have := h2 k (by omega) hkq
        rw [ix_at x hk, tagLt_irrefl] at this; cases this
      · rw [← hkq, ix_at x hk]
      · have h4 := hp q k h0 hkq (by omega)
        rw [ix_at x hk] at h4
        exact absurd h4 (h3 q (by omega) hlt)
  · rename_i hge
    congr 1
    symm; rw [decide_eq_false_iff_not]
    intro hm
    obtain ⟨k, hk, rfl⟩ := List.getElem_of_mem hm
    have := h2 k (by omega) (by omega)
    rw [ix_at x hk, tagLt_irrefl] at this; cases this
theorem bs_mem {x : List TagM} (hx : Rises x) (t : TagM) : (bsearch_m x t icompareTag_m).2 = decide (t ∈ x) := by
  obtain ⟨q, h, _⟩ := bsearch_spec hx t
  rw [h]
structure SetWf (s : SetM) : Prop where
  adds : ∀ a ∈ s.adds, tagOk a.tag
  gone : ∀ t ∈ s.gone, tagOk t
theorem any_notTag {l : List TagM} (hl : ∀ t ∈ l, tagOk t) (f : TagM → Bool) (hf : ∀ t, f t = (icheckTag_m t != 0)) : l.any f = !r12right_m l := by
  rw [r12right_eq, List.not_all_eq_any_not, Bool.eq_iff_iff]
  simp only [List.any_eq_true]
  constructor
  · rintro ⟨t, ht, h⟩
    refine ⟨t, ht, ?_⟩
    rw [hf, checkTag_eq (hl t ht)] at h
    simpa using h
  · rintro ⟨t, ht, h⟩
    refine ⟨t, ht, ?_⟩
    rw [hf, checkTag_eq (hl t ht)]
    simpa using h
theorem valid_seq {t : TagM} (h : r5checkTag_m t = 0) : seqOk t := by
  have := (r5checkTag_fine t).1 h
  unfold seqOk
  omega
theorem ocheck_eq {s : SetM} (hs : SetWf s) : ocheck_m s = r12check_m s := by
  have h1 : s.adds.any ocheck1_m = !r12right_m (r12tags_m s.adds) := by
    rw [r12tags_eq, ← any_notTag (l := s.adds.map (·.tag)) (by simpa using hs.adds) onotTag_m (fun _ => rfl), List.any_map]
    rfl
  have h2 : s.gone.any onotTag_m = !r12right_m s.gone := any_notTag hs.gone onotTag_m (fun _ => rfl)
  unfold ocheck_m r12check_m
  have k1 : (ocheck_c1 s = true) ↔ (r12check_c1 s = true) := by rw [ocheck_c1_iff, r12check_c1_iff]
  have k2 : (ocheck_c2 s = true) ↔ (r12check_c2 s = true) := by rw [ocheck_c2_iff, r12check_c2_iff, containsF_eq, containsF_eq, h1, h2]; simp
  simp only [k1, k2]
  by_cases c1 : r12check_c1 s = true
  · rw [if_pos c1, if_pos c1]
  rw [if_neg c1, if_neg c1]
  by_cases c2 : r12check_c2 s = true
  · rw [if_pos c2, if_pos c2]
  rw [if_neg c2, if_neg c2]
  rw [r12check_c2_iff] at c2
  have c3 : r12right_m (r12tags_m s.adds) = true := by by_cases h : r12right_m (r12tags_m s.adds) = true <;> simp_all
  have c4 : r12right_m s.gone = true := by by_cases h : r12right_m s.gone = true <;> simp_all
  have v1 : ∀ t ∈ s.adds.map (·.tag), seqOk t := fun t ht => by
    rw [r12tags_eq, r12right_eq, List.all_eq_true] at c3
    exact valid_seq (by simpa using c3 t ht)
  have v2 : ∀ t ∈ s.gone, seqOk t := fun t ht => by
    rw [r12right_eq, List.all_eq_true] at c4
    exact valid_seq (by simpa using c4 t ht)
  have e1 : (strictF_m s.adds ocheck2_m = true) ↔ (r12rises_m (r12tags_m s.adds) = true) := by rw [strictAdd_iff, r12tags_eq, r12rises_iff v1]
  have e2 : (strictF_m s.gone icompareTag_m = true) ↔ (r12rises_m s.gone = true) := by rw [strictTag_iff, r12rises_iff v2]
  by_cases c5 : r12rises_m (r12tags_m s.adds) = true
  · rw [if_pos (e1.2 c5)]
    by_cases c6 : r12rises_m s.gone = true
    · have n3 : ¬ r12check_c3 s = true := by rw [r12check_c3_iff]; simp [c5, c6]
      rw [if_neg n3]
      have hr : Rises s.gone := (r12rises_iff v2).1 c6
      obtain ⟨q, hl⟩ := loop_all0 s.adds (fun a => r12elem_m a.elem && !decide (a.tag ∈ s.gone)) 3 (r12check_L1 s) (fun fuel i _ => by
        rw [r12check_L1]
        split
        · have := r12check_c4_iff s i
          rw [hasTag_eq] at this
          by_cases x1 : r12elem_m (ix s.adds i).elem = true <;> by_cases x2 : (ix s.adds i).tag ∈ s.gone <;> simp [this, x1, x2]
        · rfl)
      rw [hl]
      have e3 : s.adds.any (fun x0 => ocheck3_m x0 s) = !s.adds.all (fun a => r12elem_m a.elem && !decide (a.tag ∈ s.gone)) := by
        rw [List.not_all_eq_any_not]
        congr 1
        funext a
        unfold ocheck3_m ogone_m
        rw [r12elem_eq, bs_mem hr]
        by_cases x1 : r12elem_m a.elem = true <;> simp [x1]
      have k3 : (ocheck_c3 s = true) ↔ ¬ (s.adds.all (fun a => r12elem_m a.elem && !decide (a.tag ∈ s.gone)) = true) := by
        rw [ocheck_c3_iff, containsF_eq, e3]; simp [e2.2 c6]
      by_cases c7 : s.adds.all (fun a => r12elem_m a.elem && !decide (a.tag ∈ s.gone)) = true
      · rw [if_pos c7, if_neg (fun h => k3.1 h c7)]
      · rw [if_neg c7, if_pos (k3.2 c7)]
    · have n3 : r12check_c3 s = true := by rw [r12check_c3_iff]; exact .inr c6
      have n4 : ocheck_c3 s = true := by rw [ocheck_c3_iff]; exact .inl (fun h => c6 (e2.1 h))
      rw [if_pos n3, if_pos n4]
  · have n3 : r12check_c3 s = true := by rw [r12check_c3_iff]; exact .inl c5
    rw [if_pos n3, if_neg (fun h => c5 (e1.1 h))]
structure MapWf (s : MapM) : Prop where
  puts : ∀ a ∈ s.puts, tagOk a.tag
  gone : ∀ t ∈ s.gone, tagOk t
theorem mright_eq (p : PutM) : mright_m p = r13fits_m p := by
  unfold mright_m r13fits_m
  rw [lcheck_eq, ← r12elem_eq]
  unfold oelem_m
  by_cases h1 : p.field = []
  · simp [h1]
  · by_cases h2 : (p.field.length : Int) ≤ 12
    · simp [h1, h2]
    · simp [h1, h2]
theorem rises_cons_iff {l : List PutM} (v : ∀ a ∈ l, seqOk a.tag) : (∀ j : Int, 1 ≤ j → j < l.length → ¬ (0 ≤ r5compareTag_m (ix l (j - 1)).tag (ix l j).tag)) ↔ Rises (l.map (·.tag)) := by
  have := pairs_iff l (fun a b => tagLt a.tag b.tag) (fun a b c => tagLt_trans a.tag b.tag c.tag)
  unfold Rises
  rw [List.pairwise_map, ← this]
  constructor
  · intro h j h1 h2
    have := h j h1 h2
    rw [r5compareTag_eq (v _ (ix_memI l (by omega) (by omega))) (v _ (ix_memI l (by omega) h2))] at this
    exact (tagCmp_neg _ _).1 (by omega)
  · intro h j h1 h2
    rw [r5compareTag_eq (v _ (ix_memI l (by omega) (by omega))) (v _ (ix_memI l (by omega) h2))]
    have := (tagCmp_neg _ _).2 (h j h1 h2)
    omega
theorem has_eq {l : List TagM} (h : Rises l) (t : TagM) : mhas_m l t = decide (t ∈ l) := bs_mem h t
theorem mcheck_eq {s : MapM} (hs : MapWf s) : mcheck_m s = r13check_m s := by
  have h1 : (s.puts.map (·.tag)).any mnotTag_m = !r12right_m (s.puts.map (·.tag)) := any_notTag (by simpa using hs.puts) mnotTag_m (fun _ => rfl)
  have h2 : s.gone.any mnotTag_m = !r12right_m s.gone := any_notTag hs.gone mnotTag_m (fun _ => rfl)
  unfold mcheck_m r13check_m
  have k1 : (mcheck_c1 s = true) ↔ (r13check_c1 s = true) := by rw [mcheck_c1_iff, r13check_c1_iff]
  have k2 : (mcheck_c2 s = true) ↔ ¬ (r12right_m (s.puts.map (·.tag)) = true ∧ r12right_m s.gone = true) := by
    rw [mcheck_c2_iff, containsF_eq, containsF_eq, mtags_eq, h1, h2]
    by_cases x : r12right_m (s.puts.map (·.tag)) = true <;> simp [x]
  simp only [k1]
  by_cases c1 : r13check_c1 s = true
  · rw [if_pos c1, if_pos c1]
  rw [if_neg c1, if_neg c1]
  obtain ⟨q1, l1⟩ := loop_all0 s.puts (fun p => decide (r5checkTag_m p.tag = 0)) 2 (r13check_L1 s) (fun fuel i _ => by rw [r13check_L1]; simp only [decide_eq_true_eq])
  rw [l1]
  have a1 : s.puts.all (fun p => decide (r5checkTag_m p.tag = 0)) = r12right_m (s.puts.map (·.tag)) := by rw [r12right_eq, List.all_map]; rfl
  rw [a1]
  by_cases c3 : r12right_m (s.puts.map (·.tag)) = true
  · rw [if_pos c3]
    obtain ⟨q2, l2⟩ := loop_all0 s.gone (fun t => decide (r5checkTag_m t = 0)) 2 (r13check_L2 s q1) (fun fuel i _ => by rw [r13check_L2]; simp only [decide_eq_true_eq])
    have a2 : s.gone.all (fun t => decide (r5checkTag_m t = 0)) = r12right_m s.gone := by rw [r12right_eq]
    simp only [l2, a2]
    by_cases c4 : r12right_m s.gone = true
    · rw [if_neg (fun h => k2.1 h ⟨c3, c4⟩), if_pos c4]
      have v1 : ∀ a ∈ s.puts, seqOk a.tag := fun a ha => by
        rw [r12right_eq, List.all_eq_true] at c3
        exact valid_seq (by simpa using c3 a.tag (List.mem_map_of_mem ha))
      have v2 : ∀ t ∈ s.gone, seqOk t := fun t ht => by
        rw [r12right_eq, List.all_eq_true] at c4
        exact valid_seq (by simpa using c4 t ht)
      have l3 := loop_ix (s.puts.length : Int) (fun i => r13fits_m (ix s.puts i) && (!decide ((ix s.puts i).tag ∈ s.gone) && (decide (i ≤ 0) || decide (¬ (0 ≤ r5compareTag_m (ix s.puts (i - 1)).tag (ix s.puts i).tag))))) 3 (r13check_L3 s q1 q2) 0 (fun fuel i _ => by
        rw [r13check_L3]
        split
        · have := r13check_c2_iff s q1 q2 i
          rw [hasTag_eq] at this
          by_cases x1 : r13fits_m (ix s.puts i) = true <;> by_cases x2 : (ix s.puts i).tag ∈ s.gone <;> by_cases x3 : 0 < i <;> by_cases x4 : 0 ≤ r5compareTag_m (ix s.puts (i - 1)).tag (ix s.puts i).tag <;> simp [this, x1, x2, x3, x4] <;> omega
        · rfl) (((s.puts.length : Int) - (0 : Int)).toNat + 1) 0 (by omega) (by omega)
      have hl4 := fun q3 => loop_ix (s.gone.length : Int) (fun i => decide (¬ (0 ≤ r5compareTag_m (ix s.gone (i - 1)) (ix s.gone i)))) 3 (r13check_L4 s q1 q2 q3) 1 (fun fuel i _ => by
        rw [r13check_L4]
        by_cases x : 0 ≤ r5compareTag_m (ix s.gone (i - 1)) (ix s.gone i) <;> simp [x] <;> omega) (((s.gone.length : Int) - (1 : Int)).toNat + 1) 1 (by omega) (by omega)
      have hg : Rises s.gone ↔ ∀ j : Int, 1 ≤ j → j < s.gone.length → decide (¬ (0 ≤ r5compareTag_m (ix s.gone (j - 1)) (ix s.gone j))) = true := by
        have := pairs_iff s.gone tagLt tagLt_trans
        unfold Rises
        rw [← this]
        constructor
        · intro h j h1 h2
          rw [r5compareTag_eq (v2 _ (ix_memI _ (by omega) (by omega))) (v2 _ (ix_memI _ (by omega) h2)), decide_eq_true_eq]
          have := (tagCmp_neg _ _).2 (h j h1 h2)
          omega
        · intro h j h1 h2
          have := h j h1 h2
          rw [r5compareTag_eq (v2 _ (ix_memI _ (by omega) (by omega))) (v2 _ (ix_memI _ (by omega) h2)), decide_eq_true_eq] at this
          exact (tagCmp_neg _ _).1 (by omega)
      have hp := rises_cons_iff v1
      have k3 : (mcheck_c3 s = true) ↔ ¬ (Rises (s.puts.map (·.tag)) ∧ Rises s.gone) := by
        rw [mcheck_c3_iff, mtags_eq, mrise_eq, mrise_eq, strictTag_iff, strictTag_iff]
        by_cases x : Rises (s.puts.map (·.tag)) <;> simp [x]
      by_cases g : Rises (s.puts.map (·.tag)) ∧ Rises s.gone
      · obtain ⟨g1, g2⟩ := g
        rw [if_neg (fun h => k3.1 h ⟨g1, g2⟩)]
        obtain ⟨q5, l5⟩ := loop_all0 s.puts (fun p => r13fits_m p && !decide (p.tag ∈ s.gone)) 3 (mcheck_L1 s) (fun fuel i _ => by
          rw [mcheck_L1]
          split
          · have := mcheck_c4_iff s i
            rw [mright_eq, has_eq g2] at this
            by_cases x1 : r13fits_m (ix s.puts i) = true <;> by_cases x2 : (ix s.puts i).tag ∈ s.gone <;> simp [this, x1, x2]
          · rfl)
        rw [l5]
        rcases l3 with ⟨⟨q3, e3⟩, f3⟩ | ⟨e3, j, f1, f2, f3⟩
        · have all : s.puts.all (fun p => r13fits_m p && !decide (p.tag ∈ s.gone)) = true := by
            rw [List.all_eq_true]
            intro p hp'
            obtain ⟨k, hk, rfl⟩ := List.getElem_of_mem hp'
            have := f3 k (by omega) (by omega)
            rw [ix_at _ hk] at this
            simp only [Bool.and_eq_true] at this ⊢
            exact ⟨this.1, this.2.1⟩
          rw [if_pos all]
          simp only [e3]
          rcases hl4 q3 with ⟨⟨q4, e4⟩, f4⟩ | ⟨e4, j, f1, f2, f4⟩
          · simp only [e4]
          · have := hg.1 g2 j f1 f2
            rw [this] at f4; cases f4
        · have nall : ¬ s.puts.all (fun p => r13fits_m p && !decide (p.tag ∈ s.gone)) = true := fun hall => by
            rw [List.all_eq_true] at hall
            have h3 := hall (ix s.puts j) (ix_memI _ (by omega) f2)
            simp only [Bool.and_eq_true] at h3
            have h4 : (decide (j ≤ 0) || decide (¬ (0 ≤ r5compareTag_m (ix s.puts (j - 1)).tag (ix s.puts j).tag))) = true := by
              by_cases e : j ≤ 0
              · simp [e]
              · have := hp.2 g1 j (by omega) f2
                simp only [Bool.or_eq_true, decide_eq_true_eq]
                exact .inr this
            simp only [h3.1, h3.2, h4, Bool.and_self] at f3
            cases f3
          rw [if_neg nall]
          simp only [e3]
      · rw [if_pos (k3.2 g)]
        rcases l3 with ⟨⟨q3, e3⟩, f3⟩ | ⟨e3, j, f1, f2, f3⟩
        · have g1 : Rises (s.puts.map (·.tag)) := hp.1 fun j h1 h2 => by
            have := f3 j (by omega) h2
            simp only [Bool.and_eq_true, Bool.or_eq_true, decide_eq_true_eq] at this
            rcases this.2.2 with h | h
            · omega
            · exact h
          simp only [e3]
          rcases hl4 q3 with ⟨⟨q4, e4⟩, f4⟩ | ⟨e4, j, f1, f2, f4⟩
          · exact absurd ⟨g1, hg.2 f4⟩ g
          · simp only [e4]
        · simp only [e3]
    · rw [if_pos (k2.2 fun h => c4 h.2), if_neg c4]
  · rw [if_pos (k2.2 fun h => c3 h.1), if_neg c3]
theorem checkOp_eq (o : OpM) : ocheckOp_m o = r14checkOp_m o := by
  unfold ocheckOp_m r14checkOp_m
  have hk : okind_m o.act = r14kind_m o.act := rfl
  rw [hk]
  by_cases h0 : r14kind_m o.act = 0
  · rw [if_pos h0, if_pos h0]
  · rw [if_neg h0, if_neg h0]
    have : o.act = 1 ∨ o.act = 2 ∨ o.act = 3 ∨ o.act = 4 ∨ o.act = 5 ∨ o.act = 6 := by
      unfold r14kind_m at h0
      repeat' split at h0
      all_goals first | omega | (exact absurd rfl h0)
    simp only [ocheckOp_c1_iff, ocheckOp_c2_iff, ocheckOp_c3_iff, ocheckOp_c4_iff, r14checkOp_c1_iff, r14checkOp_c2_iff, r14checkOp_c3_iff, r12elem_eq, oform_m]
    rcases this with h | h | h | h | h | h <;> simp only [h] <;> simp
theorem to12_eq (s : SetM) : to12_m s = s := by
  unfold to12_m
  rw [loop_fold0' s.adds (fun acc x => acc ++ [x]) (to12_L1 s) (fun _ _ _ _ => rfl)]
  simp only [foldl_map_app (fun x : AddM => x), List.nil_append, List.map_id']
theorem from12_eq (s : SetM) : from12_m s = s := by
  unfold from12_m
  rw [loop_fold0' s.adds (fun acc x => acc ++ [x]) (from12_L1 s) (fun _ _ _ _ => rfl)]
  simp only [foldl_map_app (fun x : AddM => x), List.nil_append, List.map_id']
theorem to13_eq (s : MapM) : to13_m s = s := by
  unfold to13_m
  rw [loop_fold0' s.puts (fun acc x => acc ++ [x]) (to13_L1 s) (fun _ _ _ _ => rfl)]
  simp only [foldl_map_app (fun x : PutM => x), List.nil_append, List.map_id']
theorem from13_eq (s : MapM) : from13_m s = s := by
  unfold from13_m
  rw [loop_fold0' s.puts (fun acc x => acc ++ [x]) (from13_L1 s) (fun _ _ _ _ => rfl)]
  simp only [foldl_map_app (fun x : PutM => x), List.nil_append, List.map_id']
theorem to14_eq (s : ObjM) : to14_m s = s := by unfold to14_m; rw [to12_eq, to13_eq]; rfl
theorem from14_eq (s : ObjM) : from14_m s = s := by unfold from14_m; rw [from12_eq, from13_eq]; rfl
theorem sameTags_refl (a : List TagM) : sameTags_m a a = true := by
  unfold sameTags_m
  rw [if_pos rfl]
  obtain ⟨q, h⟩ := loop_all0 a (fun _ => true) false (sameTags_L1 a a) (fun fuel i _ => by rw [sameTags_L1]; simp)
  rw [h]; simp
theorem r12same_refl (a : SetM) : r12same_m a a = true := by
  unfold r12same_m
  rw [if_neg (by rw [r12same_c1_iff]; simp [sameTags_refl])]
  obtain ⟨q, h⟩ := loop_all0 a.adds (fun _ => true) false (r12same_L1 a a) (fun fuel i _ => by rw [r12same_L1]; simp)
  rw [h]; simp
theorem r13same_refl (a : MapM) : r13same_m a a = true := by
  unfold r13same_m
  rw [if_neg (by rw [r13same_c1_iff]; simp [sameTags_refl])]
  obtain ⟨q, h⟩ := loop_all0 a.puts (fun _ => true) false (r13same_L1 a a) (fun fuel i _ => by rw [r13same_L1]; simp)
  rw [h]; simp
theorem r14same_refl (a : ObjM) : r14same_m a a = true := by unfold r14same_m; simp [r12same_refl, r13same_refl]
theorem great14_bnd {s : ObjM} {e : EffectM} (h : ¬ great14_m s e = true) : s.setF.adds.length ≤ 200 ∧ s.setF.gone.length ≤ 200 ∧ s.map.puts.length ≤ 100 ∧ s.map.gone.length ≤ 200 ∧ e.tags.length ≤ 100 ∧ e.name.length ≤ 1000 := by
  unfold great14_m great12_m great13_m at h
  repeat' split at h
  all_goals simp_all
  all_goals omega
open Go.Shelf Go.Lib Go.Sort
theorem swo_tag : SWO (ltOf icompareTag_m) := by
  have e : ∀ a b, ltOf icompareTag_m a b = tagLt a b := fun a b => by
    unfold ltOf; rw [icompareTag_eq, Bool.eq_iff_iff, decide_eq_true_iff]; exact tagCmp_neg a b
  refine ⟨fun x => by rw [e]; exact tagLt_irrefl x, fun x y z h1 h2 => by rw [e] at *; exact tagLt_trans x y z h1 h2, fun x y z h1 h2 => ?_⟩
  rw [e] at *
  rcases tagLt_tri x z with h | h | h
  · rcases tagLt_tri x y with g | g | g
    · rw [g] at h1; cases h1
    · subst g; rw [h] at h2; cases h2
    · have := tagLt_trans y x z g h; rw [this] at h2; cases h2
  · subst h; exact tagLt_irrefl x
  · exact tagLt_asymm h
theorem tot_tag (x y : TagM) (h1 : ltOf icompareTag_m x y = false) (h2 : ltOf icompareTag_m y x = false) : x = y := by
  unfold ltOf at h1 h2; rw [icompareTag_eq] at h1 h2
  have h1 := of_decide_eq_false h1; have h2 := of_decide_eq_false h2
  rcases tagLt_tri x y with g | g | g
  · exact absurd ((tagCmp_neg x y).2 g) h1
  · exact g
  · exact absurd ((tagCmp_neg y x).2 g) h2
end Go.Proofs.YtmenpoicgoijcaaGreat

/- Walks printed by gen2.py out of our own specifications: what the functions named below do. -/
import Derived.Test.YtngofknckkiboaaGreatDoorSc
import Derived.Test.YtngofknckkiboaaGreatDoorZ6
import Derived.Test.YtngofknckkiboaaGreatDoorPl
set_option linter.unusedSimpArgs false
set_option linter.unusedVariables false
namespace Go.Proofs.YtngofknckkiboaaGreatDoor
open Go.RowKit

/-- Names stand in the order of whose they are, their number, and which operation. -/
def tagLt (a b : TagM) : Bool := decide (a.id.origin < b.id.origin ∨ (a.id.origin = b.id.origin ∧ (a.id.seq < b.id.seq ∨ (a.id.seq = b.id.seq ∧ a.n < b.n))))
theorem tagLt_trans (a b c : TagM) (h1 : tagLt a b = true) (h2 : tagLt b c = true) : tagLt a c = true := by
  simp only [tagLt, decide_eq_true_eq] at *
  omega
theorem tagLt_irrefl (a : TagM) : tagLt a a = false := by simp [tagLt]
theorem tagLt_asymm {a b : TagM} (h1 : tagLt a b = true) : tagLt b a = false := by
  simp only [tagLt, decide_eq_true_eq, decide_eq_false_iff_not] at *
  omega
theorem tag_ext {a b : TagM} (h1 : a.id.origin = b.id.origin) (h2 : a.id.seq = b.id.seq) (h3 : a.n = b.n) : a = b := by
  obtain ⟨⟨a1, a2⟩, a3⟩ := a
  obtain ⟨⟨b1, b2⟩, b3⟩ := b
  simp only at h1 h2 h3
  subst h1; subst h2; subst h3; rfl
theorem tagLt_tri (a b : TagM) : tagLt a b = true ∨ a = b ∨ tagLt b a = true := by
  by_cases h : tagLt a b = true
  · exact .inl h
  · by_cases h2 : tagLt b a = true
    · exact .inr (.inr h2)
    · refine .inr (.inl (tag_ext ?_ ?_ ?_)) <;> simp only [tagLt, decide_eq_true_eq] at * <;> omega
def tagCmp (a b : TagM) : Int := if tagLt a b = true then -1 else if a = b then 0 else 1
theorem tagCmp_neg (a b : TagM) : tagCmp a b < 0 ↔ tagLt a b = true := by
  unfold tagCmp
  split
  · simp [*]
  · rename_i h
    split <;> simp [h]
theorem tagCmp_zero (a b : TagM) : tagCmp a b = 0 ↔ a = b := by
  unfold tagCmp
  split
  · rename_i h
    constructor
    · intro e; omega
    · intro e; subst e; rw [tagLt_irrefl] at h; cases h
  · split
    · simp [*]
    · simp [*]
theorem nanI_f (x : Int) : nanI_m x = false := by simp [nanI_m]
theorem nanU_f (x : Int) : nanU_m x = false := by simp [nanU_m]
theorem cmpI_eq (x y : Int) : cmpI_m x y = if x < y then -1 else if y < x then 1 else 0 := by unfold cmpI_m; simp [nanI_f]
theorem cmpU_eq (x y : Int) : cmpU_m x y = if x < y then -1 else if y < x then 1 else 0 := by unfold cmpU_m; simp [nanU_f]
theorem cmpOr2 (a b : Int) : cmpOr_m [a, b] = if a = 0 then b else a := by
  unfold cmpOr_m
  rw [show (((([a, b] : List Int).length : Int) - (0 : Int)).toNat + 1) = 3 from rfl]
  simp only [cmpOr_L1, ix, List.length_cons, List.length_nil]
  by_cases ha : a = 0 <;> by_cases hb : b = 0 <;> simp [ha, hb]
theorem icompare_eq (a b : IdM) : icompare_m a b = if a.origin < b.origin then -1 else if b.origin < a.origin then 1 else if a.seq < b.seq then -1 else if b.seq < a.seq then 1 else 0 := by
  unfold icompare_m
  rw [cmpOr2, cmpI_eq, cmpU_eq]
  by_cases h1 : a.origin < b.origin
  · simp [h1]
  · by_cases h2 : b.origin < a.origin
    · simp [h1, h2]
    · simp [h1, h2]
theorem icompareTag_eq (a b : TagM) : icompareTag_m a b = tagCmp a b := by
  unfold icompareTag_m tagCmp
  rw [cmpOr2, icompare_eq, cmpI_eq]
  by_cases h1 : a.id.origin < b.id.origin
  · simp [h1, tagLt]
  · by_cases h2 : b.id.origin < a.id.origin
    · have hne : ¬ a = b := fun e => by subst e; omega
      simp [h1, h2, tagLt, hne] <;> omega
    · have e1 : a.id.origin = b.id.origin := by omega
      by_cases h3 : a.id.seq < b.id.seq
      · simp [h1, h2, h3, tagLt] <;> omega
      · by_cases h4 : b.id.seq < a.id.seq
        · have hne : ¬ a = b := fun e => by subst e; omega
          simp [h1, h2, h3, h4, tagLt, hne] <;> omega
        · have e2 : a.id.seq = b.id.seq := by omega
          by_cases h5 : a.n < b.n
          · simp [h1, h2, h3, h4, h5, tagLt] <;> omega
          · by_cases h6 : b.n < a.n
            · have hne : ¬ a = b := fun e => by subst e; omega
              simp [h1, h2, h3, h4, h5, h6, tagLt, hne] <;> omega
            · have e3 : a.n = b.n := by omega
              have he : a = b := tag_ext e1 e2 e3
              subst he
              simp [tagLt]
theorem icheckTag_z (t : TagM) : icheckTag_m t = if (t.n < 0) ∨ (16 ≤ t.n) then 2 else if (t.id.origin < 0) ∨ (8 ≤ t.id.origin) ∨ (t.id.seq = 0) ∨ (1048576 < t.id.seq) then 2 else 0 := by
  unfold icheckTag_m icheck_m; simp only [icheckTag_c1_iff, icheck_c1_iff]
theorem lthere_iff (o : Int) : lthere_m o = true ↔ (0 ≤ o ∧ o < 8) := by unfold lthere_m; split <;> simp <;> omega
theorem containsF_eq {α : Type} [Inhabited α] [DecidableEq α] (s : List α) (f : α → Bool) : containsF_m s f = s.any f := by
  unfold containsF_m
  rcases indexF_cases s f with ⟨a, b, c, d⟩ | ⟨a, b⟩
  · rw [decide_eq_true a]; symm; rw [List.any_eq_true]; exact ⟨_, ix_memI s a b, c⟩
  · rw [a]; symm
    rw [show decide ((0 : Int) ≤ -1) = false from rfl, List.any_eq_false]
    intro x hx
    obtain ⟨k, hk, rfl⟩ := List.getElem_of_mem hx
    have := b (k : Int) (by omega) (by omega)
    rw [ix_at s hk] at this
    simp [this]
theorem strictF_iff {α : Type} [Inhabited α] [DecidableEq α] (l : List α) (c : α → α → Int) (tr : ∀ a b d, decide (c a b < 0) = true → decide (c b d < 0) = true → decide (c a d < 0) = true) : strictF_m l c = true ↔ l.Pairwise (fun a b => c a b < 0) := by
  have h := loop_pairs l (fun a b => decide (c a b < 0)) false (strictF_L1 l c) (fun fuel i _ => by
    rw [strictF_L1]
    split
    · by_cases h : (0 : Int) ≤ c (ix l (i - 1)) (ix l i)
      · rw [if_pos h, if_neg (by simp; omega)]
      · rw [if_neg h, if_pos (by simp; omega)]
    · rfl) (((l.length : Int) - (1 : Int)).toNat + 1) 1 (by omega) (by omega)
  have hp := pairs_iff l (fun a b => decide (c a b < 0)) tr
  simp only [decide_eq_true_eq] at hp
  unfold strictF_m
  rcases h with ⟨⟨q, a⟩, b⟩ | ⟨a, j, b, d, e⟩
  · rw [a]
    simp only [decide_eq_true_eq] at b
    exact ⟨fun _ => hp.1 b, fun _ => rfl⟩
  · rw [a]
    simp only [Bool.false_eq_true, false_iff]
    intro hw
    have := hp.2 hw j b d
    simp only [decide_eq_false_iff_not] at e
    exact e this
theorem mrise_eq (l : List TagM) : mrise_m l = strictF_m l icompareTag_m := by
  have key : ∀ fuel i, mrise_L1 l fuel i = strictF_L1 l icompareTag_m fuel i := by
    intro fuel
    induction fuel with
    | zero => intro i; rfl
    | succ fuel ih => intro i; rw [mrise_L1, strictF_L1, ih]
  unfold mrise_m strictF_m
  rw [key]
  rfl
theorem cmp_tr (a b d : TagM) (h1 : decide (icompareTag_m a b < 0) = true) (h2 : decide (icompareTag_m b d < 0) = true) : decide (icompareTag_m a d < 0) = true := by
  simp only [icompareTag_eq, decide_eq_true_eq, tagCmp_neg] at *
  exact tagLt_trans a b d h1 h2
def Rises (l : List TagM) : Prop := l.Pairwise (fun a b => tagLt a b = true)
theorem strictTag_iff (l : List TagM) : strictF_m l icompareTag_m = true ↔ Rises l := by
  rw [strictF_iff l _ cmp_tr]
  unfold Rises
  simp only [icompareTag_eq, tagCmp_neg]
theorem strictAdd_iff (l : List AddM) : strictF_m l ocheck2_m = true ↔ Rises (l.map (·.tag)) := by
  rw [strictF_iff l ocheck2_m (fun a b d => cmp_tr a.tag b.tag d.tag)]
  unfold Rises
  rw [List.pairwise_map]
  have : ∀ a b : AddM, ocheck2_m a b = icompareTag_m a.tag b.tag := fun _ _ => rfl
  simp only [this, icompareTag_eq, tagCmp_neg]
theorem mtags_eq (l : List PutM) : mtags_m l = l.map (·.tag) := by
  unfold mtags_m
  rw [loop_fold0 l (fun acc x => acc ++ [x.tag]) (mtags_L1 l) (fun _ _ _ _ => rfl)]
  simp only [foldl_map_app, List.nil_append]
theorem bsearch_spec {x : List TagM} (hx : Rises x) (t : TagM) : ∃ q : Int, (bsearch_m x t icompareTag_m) = (q, decide (t ∈ x)) ∧ 0 ≤ q ∧ q ≤ x.length ∧ (∀ k : Int, 0 ≤ k → k < q → tagLt (ix x k) t = true) ∧ (∀ k : Int, q ≤ k → k < x.length → tagLt (ix x k) t = false) := by
  have hp : ∀ a b : Int, 0 ≤ a → a < b → b < x.length → tagLt (ix x a) (ix x b) = true := fun a b h0 h1 h2 => by
    have := List.pairwise_iff_getElem.1 hx a.toNat b.toNat (by omega) (by omega) (by omega)
    rw [← ix_at x (by omega), ← ix_at x (by omega)] at this
    rw [show ((a.toNat : Nat) : Int) = a by omega, show ((b.toNat : Nat) : Int) = b by omega] at this
    exact this
  obtain ⟨q, h, h0, h1, h2, h3⟩ := bs_spec x (fun a => icompareTag_m a t) (bsearch_L1 x t icompareTag_m) (fun _ _ _ => rfl) (fun a b ha hab hb hc => by
      simp only [icompareTag_eq, tagCmp_neg] at *
      exact tagLt_trans _ _ _ (hp a b ha hab hb) hc) (((x.length : Int) - (0 : Int)).toNat + 1) 0 x.length (by omega) (by omega) (by omega) (by omega) (fun _ _ _ => by omega) (fun _ _ _ => by omega)
  simp only [icompareTag_eq, tagCmp_neg] at h2 h3
  refine ⟨q, ?_, h0, h1, h2, fun k a b => by simpa using h3 k a b⟩
  unfold bsearch_m
  rw [h]
  simp only
  split
  · rename_i hlt
    congr 1
    rw [icompareTag_eq, Bool.eq_iff_iff, beq_iff_eq, tagCmp_zero, decide_eq_true_eq]
    constructor
    · intro e; rw [← e]; exact ix_memI x h0 hlt
    · intro hm
      obtain ⟨k, hk, rfl⟩ := List.getElem_of_mem hm
      rcases Int.lt_trichotomy (k : Int) q with hkq | hkq | hkq
      · have := h2 k (by omega) hkq
        rw [ix_at x hk, tagLt_irrefl] at this; cases this
      · rw [← hkq, ix_at x hk]
      · have h4 := hp q k h0 hkq (by omega)
        rw [ix_at x hk] at h4
        exact absurd h4 (h3 q (by omega) hlt)
  · rename_i hge
    congr 1
    symm; rw [decide_eq_false_iff_not]
    intro hm
    obtain ⟨k, hk, rfl⟩ := List.getElem_of_mem hm
    have := h2 k (by omega) (by omega)
    rw [ix_at x hk, tagLt_irrefl] at this; cases this
theorem bs_mem {x : List TagM} (hx : Rises x) (t : TagM) : (bsearch_m x t icompareTag_m).2 = decide (t ∈ x) := by
  obtain ⟨q, h, _⟩ := bsearch_spec hx t
  rw [h]
theorem has_eq {l : List TagM} (h : Rises l) (t : TagM) : mhas_m l t = decide (t ∈ l) := bs_mem h t
theorem from12_eq (s : SetM) : from12_m s = s := by
  unfold from12_m
  rw [loop_fold0' s.adds (fun acc x => acc ++ [x]) (from12_L1 s) (fun _ _ _ _ => rfl)]
  simp only [foldl_map_app (fun x : AddM => x), List.nil_append, List.map_id']
theorem from13_eq (s : MapM) : from13_m s = s := by
  unfold from13_m
  rw [loop_fold0' s.puts (fun acc x => acc ++ [x]) (from13_L1 s) (fun _ _ _ _ => rfl)]
  simp only [foldl_map_app (fun x : PutM => x), List.nil_append, List.map_id']
theorem from14_eq (s : ObjM) : from14_m s = s := by unfold from14_m; rw [from12_eq, from13_eq]; rfl
theorem sameTags_refl (a : List TagM) : sameTags_m a a = true := by
  unfold sameTags_m
  rw [if_pos rfl]
  obtain ⟨q, h⟩ := loop_all0 a (fun _ => true) false (sameTags_L1 a a) (fun fuel i _ => by rw [sameTags_L1]; simp)
  rw [h]; simp
theorem r12same_refl (a : SetM) : r12same_m a a = true := by
  unfold r12same_m
  rw [if_neg (by rw [r12same_c1_iff]; simp [sameTags_refl])]
  obtain ⟨q, h⟩ := loop_all0 a.adds (fun _ => true) false (r12same_L1 a a) (fun fuel i _ => by rw [r12same_L1]; simp)
  rw [h]; simp
theorem r13same_refl (a : MapM) : r13same_m a a = true := by
  unfold r13same_m
  rw [if_neg (by rw [r13same_c1_iff]; simp [sameTags_refl])]
  obtain ⟨q, h⟩ := loop_all0 a.puts (fun _ => true) false (r13same_L1 a a) (fun fuel i _ => by rw [r13same_L1]; simp)
  rw [h]; simp
theorem r14same_refl (a : ObjM) : r14same_m a a = true := by unfold r14same_m; simp [r12same_refl, r13same_refl]
theorem great14_bnd {s : ObjM} {e : EffectM} (h : ¬ great14_m s e = true) : s.setF.adds.length ≤ 200 ∧ s.setF.gone.length ≤ 200 ∧ s.map.puts.length ≤ 100 ∧ s.map.gone.length ≤ 200 ∧ e.tags.length ≤ 100 ∧ e.name.length ≤ 1000 := by
  unfold great14_m great12_m great13_m at h
  repeat' split at h
  all_goals simp_all
  all_goals omega

end Go.Proofs.YtngofknckkiboaaGreatDoor

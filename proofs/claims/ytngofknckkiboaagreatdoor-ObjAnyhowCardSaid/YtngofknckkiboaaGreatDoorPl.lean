/- Plain: loops that walks print, as functions on lists. -/
import Derived.Test.YtngofknckkiboaaGreatDoorSr
set_option linter.unusedVariables false
set_option linter.unusedSimpArgs false
namespace Go.Proofs.YtngofknckkiboaaGreatDoor

section
variable {α : Type} [Inhabited α]
theorem ix_nat (l : List α) (k : Nat) : ix l (k : Int) = (l[k]?).getD default := by unfold ix; rw [Int.toNat_natCast]
theorem ix_at (l : List α) {k : Nat} (h : k < l.length) : ix l (k : Int) = l[k] := by rw [ix_nat, List.getElem?_eq_getElem h]; rfl
theorem ix_memI (l : List α) {j : Int} (h0 : 0 ≤ j) (h1 : j < l.length) : ix l j ∈ l := by
  have hl : j.toNat < l.length := by omega
  unfold ix; rw [List.getElem?_eq_getElem hl]; exact List.getElem_mem hl
theorem ix_drop (l : List α) {j : Int} (h0 : 0 ≤ j) (h1 : j < l.length) : l.drop j.toNat = ix l j :: l.drop (j + 1).toNat := by
  have hl : j.toNat < l.length := by omega
  rw [List.drop_eq_getElem_cons hl, show (j + 1).toNat = j.toNat + 1 by omega]
  unfold ix; rw [List.getElem?_eq_getElem hl]; rfl
theorem ix_map {β : Type} [Inhabited β] (f : α → β) (l : List α) {j : Int} (h0 : 0 ≤ j) (h1 : j < l.length) : ix (l.map f) j = f (ix l j) := by
  have hl : j.toNat < l.length := by omega
  unfold ix; rw [List.getElem?_map, List.getElem?_eq_getElem hl]; rfl
/-- A loop that leaves at the first element that is not right. -/
theorem loop_all {R : Type} (l : List α) (p : α → Bool) (r : R) (L : Nat → Int → R ⊕ Int) (hL : ∀ fuel i, 0 ≤ i → L (fuel + 1) i = if i < (l.length : Int) then (if p (ix l i) = true then L fuel (i + 1) else .inl r) else .inr i) :
    ∀ (fuel : Nat) (i : Int), 0 ≤ i → ((l.length : Int) - i).toNat < fuel → ∃ q, L fuel i = if (l.drop i.toNat).all p = true then .inr q else .inl r
  | 0, i, _, h => by omega
  | fuel + 1, i, h0, h => by
    rw [hL fuel i h0]
    split
    · rename_i h1
      rw [ix_drop l h0 h1, List.all_cons]
      by_cases hp : p (ix l i) = true
      · obtain ⟨q, hq⟩ := loop_all l p r L hL fuel (i + 1) (by omega) (by omega)
        exact ⟨q, by rw [if_pos hp, hq, hp, Bool.true_and]⟩
      · exact ⟨i, by rw [if_neg hp]; simp [hp]⟩
    · exact ⟨i, by rw [List.drop_of_length_le (by omega)]; simp⟩
theorem loop_all0 {R : Type} (l : List α) (p : α → Bool) (r : R) (L : Nat → Int → R ⊕ Int) (hL : ∀ fuel i, 0 ≤ i → L (fuel + 1) i = if i < (l.length : Int) then (if p (ix l i) = true then L fuel (i + 1) else .inl r) else .inr i) :
    ∃ q, L (((l.length : Int) - (0 : Int)).toNat + 1) 0 = if l.all p = true then .inr q else .inl r := loop_all l p r L hL _ 0 (by omega) (by omega)
theorem loop_ix {R : Type} (n : Int) (P : Int → Bool) (r : R) (L : Nat → Int → R ⊕ Int) (i0 : Int) (hL : ∀ fuel i, i0 ≤ i → L (fuel + 1) i = if i < n then (if P i = true then L fuel (i + 1) else .inl r) else .inr i) :
    ∀ (fuel : Nat) (i : Int), i0 ≤ i → (n - i).toNat < fuel → ((∃ q, L fuel i = .inr q) ∧ ∀ j : Int, i ≤ j → j < n → P j = true) ∨ (L fuel i = .inl r ∧ ∃ j : Int, i ≤ j ∧ j < n ∧ P j = false)
  | 0, i, _, h => by omega
  | fuel + 1, i, h0, h => by
    rw [hL fuel i h0]
    split
    · rename_i h1
      by_cases hp : P i = true
      · rw [if_pos hp]
        rcases loop_ix n P r L i0 hL fuel (i + 1) (by omega) (by omega) with ⟨a, b⟩ | ⟨a, j, b, c, d⟩
        · refine .inl ⟨a, fun j hj hk => ?_⟩
          by_cases e : j = i
          · subst e; exact hp
          · exact b j (by omega) hk
        · exact .inr ⟨a, j, by omega, c, d⟩
      · exact .inr ⟨by rw [if_neg hp], i, by omega, h1, by simpa using hp⟩
    · exact .inl ⟨⟨i, rfl⟩, fun j _ _ => by omega⟩
/-- A loop that looks at an element and the one ahead of it. -/
theorem loop_pairs {R : Type} (l : List α) (p : α → α → Bool) (r : R) (L : Nat → Int → R ⊕ Int) (hL : ∀ fuel i, 1 ≤ i → L (fuel + 1) i = if i < (l.length : Int) then (if p (ix l (i - 1)) (ix l i) = true then L fuel (i + 1) else .inl r) else .inr i) :
    ∀ (fuel : Nat) (i : Int), 1 ≤ i → ((l.length : Int) - i).toNat < fuel → ((∃ q, L fuel i = .inr q) ∧ ∀ j : Int, i ≤ j → j < l.length → p (ix l (j - 1)) (ix l j) = true) ∨ (L fuel i = .inl r ∧ ∃ j : Int, i ≤ j ∧ j < l.length ∧ p (ix l (j - 1)) (ix l j) = false)
  | 0, i, _, h => by omega
  | fuel + 1, i, h0, h => by
    rw [hL fuel i h0]
    split
    · rename_i h1
      by_cases hp : p (ix l (i - 1)) (ix l i) = true
      · rw [if_pos hp]
        rcases loop_pairs l p r L hL fuel (i + 1) (by omega) (by omega) with ⟨a, b⟩ | ⟨a, j, b, c, d⟩
        · refine .inl ⟨a, fun j hj hk => ?_⟩
          by_cases e : j = i
          · subst e; exact hp
          · exact b j (by omega) hk
        · exact .inr ⟨a, j, by omega, c, d⟩
      · exact .inr ⟨by rw [if_neg hp], i, by omega, h1, by simpa using hp⟩
    · exact .inl ⟨⟨i, rfl⟩, fun j _ _ => by omega⟩
/-- Rising, as a property of the whole. -/
theorem pairs_iff (l : List α) (p : α → α → Bool) (tr : ∀ a b c, p a b = true → p b c = true → p a c = true) : (∀ j : Int, 1 ≤ j → j < l.length → p (ix l (j - 1)) (ix l j) = true) ↔ l.Pairwise (fun a b => p a b = true) := by
  constructor
  · intro h
    rw [List.pairwise_iff_getElem]
    have key : ∀ (d i : Nat) (h1 : i + d + 1 < l.length), p (l[i]'(by omega)) (l[i + d + 1]) = true := by
      intro d
      induction d with
      | zero =>
        intro i h1
        have := h ((i : Int) + 1) (by omega) (by omega)
        rw [show (i : Int) + 1 - 1 = (i : Int) by omega, ix_at l (by omega), show (i : Int) + 1 = ((i + 1 : Nat) : Int) by omega, ix_at l (by omega)] at this
        exact this
      | succ d ih =>
        intro i h1
        have h2 := h ((i : Int) + d + 2) (by omega) (by omega)
        rw [show (i : Int) + d + 2 - 1 = ((i + d + 1 : Nat) : Int) by omega, ix_at l (by omega), show (i : Int) + d + 2 = ((i + (d + 1) + 1 : Nat) : Int) by omega, ix_at l (by omega)] at h2
        exact tr _ _ _ (ih i (by omega)) h2
    intro i j hi hj hij
    have := key (j - i - 1) i (by omega)
    have e : i + (j - i - 1) + 1 = j := by omega
    simpa only [e] using this
  · intro h j h1 h2
    rw [List.pairwise_iff_getElem] at h
    have := h (j.toNat - 1) j.toNat (by omega) (by omega) (by omega)
    rw [← ix_at l (by omega), ← ix_at l (by omega)] at this
    rw [show ((j.toNat - 1 : Nat) : Int) = j - 1 by omega, show ((j.toNat : Nat) : Int) = j by omega] at this
    exact this
/-- A loop that gathers. -/
theorem loop_fold {R β : Type} (l : List α) (f : β → α → β) (L : Nat → β → Int → R ⊕ (β × Int)) (hL : ∀ fuel b i, 0 ≤ i → L (fuel + 1) b i = if i < (l.length : Int) then L fuel (f b (ix l i)) (i + 1) else .inr (b, i)) :
    ∀ (fuel : Nat) (b : β) (i : Int), 0 ≤ i → i ≤ l.length → ((l.length : Int) - i).toNat < fuel → L fuel b i = .inr ((l.drop i.toNat).foldl f b, (l.length : Int))
  | 0, b, i, _, _, h => by omega
  | fuel + 1, b, i, h0, h2, h => by
    rw [hL fuel b i h0]
    split
    · rename_i h1
      rw [loop_fold l f L hL fuel _ (i + 1) (by omega) (by omega) (by omega), ix_drop l h0 h1, List.foldl_cons]
    · have : i = l.length := by omega
      subst this
      rw [List.drop_of_length_le (by omega)]; rfl
theorem loop_fold0 {R β : Type} (l : List α) (f : β → α → β) (L : Nat → β → Int → R ⊕ (β × Int)) (hL : ∀ fuel b i, 0 ≤ i → L (fuel + 1) b i = if i < (l.length : Int) then L fuel (f b (ix l i)) (i + 1) else .inr (b, i)) (b : β) :
    L (((l.length : Int) - (0 : Int)).toNat + 1) b 0 = .inr (l.foldl f b, (l.length : Int)) := loop_fold l f L hL _ b 0 (by omega) (by omega) (by omega)
theorem loop_fold0' {R β : Type} (l : List α) (f : β → α → β) (L : Nat → Int → β → R ⊕ (Int × β)) (hL : ∀ fuel b i, 0 ≤ i → L (fuel + 1) i b = if i < (l.length : Int) then L fuel (i + 1) (f b (ix l i)) else .inr (i, b)) (b : β) :
    L (((l.length : Int) - (0 : Int)).toNat + 1) 0 b = .inr ((l.length : Int), l.foldl f b) := by
  have key : ∀ (fuel : Nat) (b : β) (i : Int), 0 ≤ i → i ≤ l.length → ((l.length : Int) - i).toNat < fuel → L fuel i b = .inr ((l.length : Int), (l.drop i.toNat).foldl f b) := by
    intro fuel
    induction fuel with
    | zero => intro b i _ _ h; omega
    | succ fuel ih =>
      intro b i h0 h2 h
      rw [hL fuel b i h0]
      split
      · rename_i h1
        rw [ih _ (i + 1) (by omega) (by omega) (by omega), ix_drop l h0 h1, List.foldl_cons]
      · have : i = l.length := by omega
        subst this
        rw [List.drop_of_length_le (by omega)]; rfl
  exact key _ b 0 (by omega) (by omega) (by omega)
end
theorem foldl_map_app {α β : Type} (g : α → β) (l : List α) (b : List β) : l.foldl (fun acc x => acc ++ [g x]) b = b ++ l.map g := by
  induction l generalizing b with
  | nil => simp
  | cons a l ih => rw [List.foldl_cons, ih]; simp
theorem foldl_filter_app {α β : Type} (p : α → Bool) (g : α → β) (l : List α) (b : List β) : l.foldl (fun acc x => if p x = true then acc ++ [g x] else acc) b = b ++ (l.filter p).map g := by
  induction l generalizing b with
  | nil => simp
  | cons a l ih =>
    rw [List.foldl_cons, ih]
    by_cases h : p a = true
    · simp [h]
    · simp [h]
/-- A binary search: where the elements below what is sought end. -/
theorem bs_spec {α R : Type} [Inhabited α] (x : List α) (c : α → Int) (L : Nat → Int → Int → R ⊕ (Int × Int)) (hL : ∀ fuel i j, L (fuel + 1) i j = if i < j then (if c (ix x ((i + j) / 2)) < 0 then L fuel ((i + j) / 2 + 1) j else L fuel i ((i + j) / 2)) else .inr (i, j))
    (mono : ∀ a b : Int, 0 ≤ a → a < b → b < x.length → c (ix x b) < 0 → c (ix x a) < 0) :
    ∀ (fuel : Nat) (i j : Int), 0 ≤ i → i ≤ j → j ≤ x.length → (j - i).toNat < fuel → (∀ k : Int, 0 ≤ k → k < i → c (ix x k) < 0) → (∀ k : Int, j ≤ k → k < x.length → ¬ c (ix x k) < 0) →
      ∃ q : Int, L fuel i j = .inr (q, q) ∧ 0 ≤ q ∧ q ≤ x.length ∧ (∀ k : Int, 0 ≤ k → k < q → c (ix x k) < 0) ∧ (∀ k : Int, q ≤ k → k < x.length → ¬ c (ix x k) < 0)
  | 0, i, j, _, _, _, h, _, _ => by omega
  | fuel + 1, i, j, h0, h1, h2, h, ha, hb => by
    rw [hL]
    split
    · rename_i hlt
      have hm : i ≤ (i + j) / 2 ∧ (i + j) / 2 < j := by omega
      split
      · rename_i hc
        refine bs_spec x c L hL mono fuel _ j (by omega) (by omega) h2 (by omega) (fun k hk0 hk => ?_) hb
        by_cases e : k = (i + j) / 2
        · rw [e]; exact hc
        · exact mono k ((i + j) / 2) hk0 (by omega) (by omega) hc
      · rename_i hc
        refine bs_spec x c L hL mono fuel i _ h0 (by omega) (by omega) (by omega) ha (fun k hk0 hk hck => ?_)
        by_cases e : k = (i + j) / 2
        · rw [e] at hck; exact hc hck
        · exact hc (mono ((i + j) / 2) k (by omega) (by omega) hk hck)
    · have : i = j := by omega
      subst this
      exact ⟨i, rfl, h0, h2, ha, hb⟩
end Go.Proofs.YtngofknckkiboaaGreatDoor

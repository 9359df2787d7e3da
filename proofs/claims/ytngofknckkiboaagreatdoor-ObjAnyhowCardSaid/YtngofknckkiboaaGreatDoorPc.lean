/- Plain: lists that rise, insertion, adjacent duplicates. -/
import Derived.Test.YtngofknckkiboaaGreatDoorPl
set_option linter.unusedVariables false
set_option linter.unusedSimpArgs false
namespace Go.Proofs.YtngofknckkiboaaGreatDoor

def ddl {α : Type} : α → List α → α
  | p, [] => p
  | _, b :: l => ddl b l
theorem ddl_last {α : Type} : ∀ (p : α) (l : List α), ddl p l = (p :: l).getLast (by simp)
  | p, [] => rfl
  | p, b :: l => by rw [List.getLast_cons (by simp)]; exact ddl_last b l
section
variable {α : Type} [DecidableEq α]
/-- What is left behind an element, if no element may equal the one ahead. -/
def ddp : α → List α → List α
  | _, [] => []
  | p, b :: l => if b = p then ddp p l else b :: ddp b l
def dd : List α → List α
  | [] => []
  | a :: l => a :: ddp a l
theorem ddp_mem : ∀ (p : α) (l : List α) (x : α), x = p ∨ x ∈ ddp p l ↔ x = p ∨ x ∈ l
  | p, [], x => by simp [ddp]
  | p, b :: l, x => by
    unfold ddp
    split
    · rename_i h; subst h
      rw [ddp_mem b l x]; simp
    · have := ddp_mem b l x
      simp only [List.mem_cons, this]
theorem dd_mem (l : List α) (x : α) : x ∈ dd l ↔ x ∈ l := by
  cases l with
  | nil => simp [dd]
  | cons a l => simp only [dd, List.mem_cons]; exact ddp_mem a l x
theorem ddp_snoc : ∀ (p : α) (l : List α) (x : α), ddp p (l ++ [x]) = ddp p l ++ (if x = ddl p l then [] else [x])
  | p, [], x => by by_cases h : x = p <;> simp [ddp, ddl, h]
  | p, b :: l, x => by
    rw [List.cons_append]
    unfold ddp ddl
    split
    · rename_i h; subst h
      exact ddp_snoc b l x
    · rw [ddp_snoc b l x]; rfl
theorem dd_snoc {l : List α} (h : l ≠ []) (x y : α) (hy : l.getLast h = y) : dd (l ++ [x]) = dd l ++ (if x = y then [] else [x]) := by
  cases l with
  | nil => exact absurd rfl h
  | cons a l => simp only [List.cons_append, dd]; rw [ddp_snoc, ddl_last, hy]
theorem ddp_len : ∀ (p : α) (l : List α), (ddp p l).length ≤ l.length
  | p, [] => by simp [ddp]
  | p, b :: l => by
    unfold ddp
    split
    · have := ddp_len p l; simp; omega
    · have := ddp_len b l; simp; omega
theorem dd_len (l : List α) : (dd l).length ≤ l.length := by
  cases l with
  | nil => simp [dd]
  | cons a l => have := ddp_len a l; simp [dd]; omega
theorem ddp_strict (lt : α → α → Bool) (tot : ∀ a b, lt a b = false → lt b a = false → a = b) (tr : ∀ a b c, lt a b = true → lt b c = true → lt a c = true) : ∀ (p : α) (l : List α), (p :: l).Pairwise (fun a b => lt b a = false) → (p :: ddp p l).Pairwise (fun a b => lt a b = true)
  | p, [], _ => by simp [ddp]
  | p, b :: l, h => by
    rw [List.pairwise_cons, List.pairwise_cons] at h
    obtain ⟨h1, h2, h3⟩ := h
    unfold ddp
    split
    · rename_i e; subst e
      exact ddp_strict lt tot tr b l (List.pairwise_cons.2 ⟨h2, h3⟩)
    · rename_i e
      have hpb : lt p b = true := by
        have := h1 b (by simp)
        by_cases q : lt p b = true
        · exact q
        · exact absurd (tot b p this (by simpa using q)) e
      have ih := ddp_strict lt tot tr b l (List.pairwise_cons.2 ⟨h2, h3⟩)
      refine List.pairwise_cons.2 ⟨fun x hx => ?_, ih⟩
      rcases List.mem_cons.1 hx with rfl | hx
      · exact hpb
      · exact tr _ _ _ hpb ((List.pairwise_cons.1 ih).1 x hx)
theorem dd_strict (lt : α → α → Bool) (tot : ∀ a b, lt a b = false → lt b a = false → a = b) (tr : ∀ a b c, lt a b = true → lt b c = true → lt a c = true) (l : List α) (h : l.Pairwise (fun a b => lt b a = false)) : (dd l).Pairwise (fun a b => lt a b = true) := by
  cases l with
  | nil => simp [dd]
  | cons a l => exact ddp_strict lt tot tr a l h
end
/-- Lists that rise and have the same members are one. -/
theorem strict_ext {α : Type} (lt : α → α → Bool) (asy : ∀ a b, lt a b = true → lt b a = false) : ∀ {l l' : List α}, l.Pairwise (fun a b => lt a b = true) → l'.Pairwise (fun a b => lt a b = true) → (∀ x, x ∈ l ↔ x ∈ l') → l = l'
  | [], [], _, _, _ => rfl
  | [], b :: l', _, _, h => absurd ((h b).2 (by simp)) (by simp)
  | a :: l, [], _, _, h => absurd ((h a).1 (by simp)) (by simp)
  | a :: l, b :: l', h1, h2, h => by
    rw [List.pairwise_cons] at h1 h2
    have irr : ∀ x, lt x x = false := fun x => by
      by_cases q : lt x x = true
      · exact asy x x q
      · simpa using q
    have hab : a = b := by
      rcases List.mem_cons.1 ((h a).1 (by simp)) with e | hm
      · exact e
      · rcases List.mem_cons.1 ((h b).2 (by simp)) with e | hm2
        · exact e.symm
        · have := asy _ _ (h2.1 a hm)
          rw [h1.1 b hm2] at this; cases this
    subst hab
    congr 1
    refine strict_ext lt asy h1.2 h2.2 fun x => ?_
    constructor
    · intro hx
      rcases List.mem_cons.1 ((h x).1 (List.mem_cons_of_mem _ hx)) with e | hm
      · subst e; have := h1.1 x hx; rw [irr] at this; cases this
      · exact hm
    · intro hx
      rcases List.mem_cons.1 ((h x).2 (List.mem_cons_of_mem _ hx)) with e | hm
      · subst e; have := h2.1 x hx; rw [irr] at this; cases this
      · exact hm
/-- A loop that looks for the first element that is not below. -/
theorem loop_while {α R : Type} [Inhabited α] (l : List α) (p : α → Bool) (L : Nat → Int → R ⊕ Int) (hL : ∀ fuel i, 0 ≤ i → L (fuel + 1) i = if i < (l.length : Int) ∧ p (ix l i) = true then L fuel (i + 1) else .inr i) :
    ∀ (fuel : Nat) (i : Int), 0 ≤ i → i ≤ l.length → ((l.length : Int) - i).toNat < fuel → L fuel i = .inr (i + ((l.drop i.toNat).takeWhile p).length)
  | 0, i, _, _, h => by omega
  | fuel + 1, i, h0, h2, h => by
    rw [hL fuel i h0]
    by_cases h1 : i < (l.length : Int)
    · rw [ix_drop l h0 h1]
      by_cases hp : p (ix l i) = true
      · rw [if_pos ⟨h1, hp⟩, loop_while l p L hL fuel (i + 1) (by omega) (by omega) (by omega), List.takeWhile_cons, if_pos hp]
        congr 1; simp; omega
      · rw [if_neg (fun q => hp q.2), List.takeWhile_cons, if_neg hp]; simp
    · rw [if_neg (fun q => h1 q.1), List.drop_of_length_le (by omega)]; simp
theorem loop_while0 {α R : Type} [Inhabited α] (l : List α) (p : α → Bool) (L : Nat → Int → R ⊕ Int) (hL : ∀ fuel i, 0 ≤ i → L (fuel + 1) i = if i < (l.length : Int) ∧ p (ix l i) = true then L fuel (i + 1) else .inr i) :
    L (((l.length : Int) - (0 : Int)).toNat + 1) 0 = .inr ((l.takeWhile p).length : Int) := by
  have := loop_while l p L hL (((l.length : Int) - (0 : Int)).toNat + 1) 0 (by omega) (by omega) (by omega)
  simpa using this
theorem take_tw {α : Type} (p : α → Bool) (l : List α) : l.take (l.takeWhile p).length = l.takeWhile p := by
  conv => lhs; arg 2; rw [← List.takeWhile_append_dropWhile (p := p) (l := l)]
  exact List.take_left
theorem drop_tw {α : Type} (p : α → Bool) (l : List α) : l.drop (l.takeWhile p).length = l.dropWhile p := by
  conv => lhs; arg 2; rw [← List.takeWhile_append_dropWhile (p := p) (l := l)]
  exact List.drop_left
theorem tw_of {α : Type} (p : α → Bool) (l : List α) (q : Nat) (h1 : ∀ k, k < q → ∀ (h : k < l.length), p l[k] = true) (h2 : ∀ k, q ≤ k → ∀ (h : k < l.length), p l[k] = false) (hq : q ≤ l.length) : (l.takeWhile p).length = q := by
  have e : l.takeWhile p = l.take q := by
    have hl : l.take q ++ l.drop q = l := List.take_append_drop q l
    conv => lhs; rw [← hl]
    rw [List.takeWhile_append_of_pos (fun a ha => by
      obtain ⟨k, hk, rfl⟩ := List.getElem_of_mem ha
      rw [List.length_take] at hk
      rw [List.getElem_take]
      exact h1 k (by omega) (by omega))]
    have : (l.drop q).takeWhile p = [] := by
      cases hd : l.drop q with
      | nil => rfl
      | cons a r =>
        have hlt : q < l.length := by
          rcases Nat.lt_or_ge q l.length with h | h
          · exact h
          · rw [List.drop_of_length_le h] at hd; cases hd
        have ha : a = l[q] := by
          have := List.drop_eq_getElem_cons hlt
          rw [hd] at this
          exact (List.cons.inj this).1
        rw [List.takeWhile_cons, if_neg (by rw [ha, h2 q (Nat.le_refl _) hlt]; simp)]
    rw [this, List.append_nil]
  rw [e, List.length_take]; omega
section
variable {α : Type} (lt : α → α → Bool)
/-- A rising list with one more. -/
def insL (l : List α) (t : α) : List α := l.takeWhile (fun x => lt x t) ++ [t] ++ l.dropWhile (fun x => lt x t)
theorem insL_mem (l : List α) (t x : α) : x ∈ insL lt l t ↔ x = t ∨ x ∈ l := by
  have := List.takeWhile_append_dropWhile (p := fun x => lt x t) (l := l)
  unfold insL
  conv => rhs; rw [← this]
  simp only [List.mem_append, List.mem_singleton]
  constructor
  · rintro ((h | h) | h)
    · exact .inr (.inl h)
    · exact .inl h
    · exact .inr (.inr h)
  · rintro (h | h | h)
    · exact .inl (.inr h)
    · exact .inl (.inl h)
    · exact .inr h
theorem insL_len (l : List α) (t : α) : (insL lt l t).length = l.length + 1 := by
  have := congrArg List.length (List.takeWhile_append_dropWhile (p := fun x => lt x t) (l := l))
  unfold insL
  simp only [List.length_append, List.length_singleton] at *
  omega
theorem insL_strict (tot : ∀ a b, lt a b = false → lt b a = false → a = b) (tr : ∀ a b c, lt a b = true → lt b c = true → lt a c = true) {l : List α} {t : α} (h : l.Pairwise (fun a b => lt a b = true)) (hn : ∀ x ∈ l, ¬ x = t) : (insL lt l t).Pairwise (fun a b => lt a b = true) := by
  have e := List.takeWhile_append_dropWhile (p := fun x => lt x t) (l := l)
  rw [← e, List.pairwise_append] at h
  obtain ⟨h1, h2, h3⟩ := h
  have hA : ∀ x ∈ l.takeWhile (fun x => lt x t), lt x t = true := fun x hx => by
    have := List.all_takeWhile (p := fun x => lt x t) (l := l)
    exact List.all_eq_true.1 this x hx
  have hB : ∀ x ∈ l.dropWhile (fun x => lt x t), lt t x = true := by
    cases hd : l.dropWhile (fun x => lt x t) with
    | nil => simp
    | cons a r =>
      have ha : lt a t = false := by
        have := List.head?_dropWhile_not (fun x => lt x t) l
        rw [hd] at this
        simpa using this
      have ham : a ∈ l := by rw [← e, hd]; simp
      have hta : lt t a = true := by
        by_cases q : lt t a = true
        · exact q
        · exact absurd (tot a t ha (by simpa using q)) (hn a ham)
      rw [hd, List.pairwise_cons] at h2
      intro x hx
      rcases List.mem_cons.1 hx with rfl | hx
      · exact hta
      · exact tr _ _ _ hta (h2.1 x hx)
  unfold insL
  rw [List.append_assoc, List.pairwise_append]
  refine ⟨h1, ?_, fun a ha b hb => ?_⟩
  · rw [List.singleton_append, List.pairwise_cons]
    exact ⟨hB, h2⟩
  · rw [List.singleton_append] at hb
    rcases List.mem_cons.1 hb with rfl | hb
    · exact hA a ha
    · exact h3 a ha b hb
end
/-- slices.Compact: what its loops leave. -/
theorem compact_spec {α : Type} [Inhabited α] [DecidableEq α] (s : List α) (z : α) (L2 : Int → List α → Nat → Int → Int → List α → (List α) ⊕ (Int × Int × List α)) (L1 : Nat → Int → List α → (List α) ⊕ (Int × List α))
    (h2 : ∀ (s3 : Int) r0 fuel s3' s5 r', L2 s3 r0 (fuel + 1) s3' s5 r' = if s5 < ((s.length - s3.toNat : Nat) : Int) then (if ix r' (s3 + s5) = ix r' (s3 + (s5 - 1)) then L2 s3 r0 fuel s3' (s5 + 1) r' else L2 s3 r0 fuel (s3' + 1) (s5 + 1) (r'.set s3'.toNat (ix r' (s3 + s5)))) else .inr (s3', s5, r'))
    (h1 : ∀ fuel s3 r0, L1 (fuel + 1) s3 r0 = if s3 < (s.length : Int) then (if ix r0 s3 = ix r0 (s3 - 1) then (match L2 s3 r0 (((s.length : Int) - (1 : Int)).toNat + 1) s3 (1 : Int) r0 with | .inl r => .inl r | .inr (s3', s5, r') => .inl ((r'.take s3'.toNat ++ List.replicate (r'.length - s3'.toNat) z).take s3'.toNat)) else L1 fuel (s3 + 1) r0) else .inr (s3, r0)) (hs : 1 ≤ s.length) :
    ∀ (fuel : Nat) (s3 : Int), 1 ≤ s3 → s3 ≤ s.length → dd (s.take s3.toNat) = s.take s3.toNat → ((s.length : Int) - s3).toNat < fuel → (L1 fuel s3 s = .inl (dd s) ∨ (∃ q, L1 fuel s3 s = .inr (q, s)) ∧ dd s = s) := by
  have step : ∀ n : Nat, 1 ≤ n → n < s.length → dd (s.take (n + 1)) = dd (s.take n) ++ (if ix s (n : Int) = ix s ((n : Int) - 1) then [] else [ix s (n : Int)]) := by
    intro n hn1 hn
    have e1 : s.take (n + 1) = s.take n ++ [s[n]] := by rw [List.take_add_one, List.getElem?_eq_getElem hn]; rfl
    have hne : s.take n ≠ [] := by intro h; have := congrArg List.length h; rw [List.length_take, List.length_nil] at this; omega
    have e2 : (s.take n).getLast hne = s[n - 1] := by
      rw [List.getLast_eq_getElem]
      have : (s.take n).length - 1 = n - 1 := by rw [List.length_take]; omega
      simp only [this, List.getElem_take]
    rw [e1, dd_snoc hne _ _ e2]
    rw [ix_at s hn, show (n : Int) - 1 = ((n - 1 : Nat) : Int) by omega, ix_at s (by omega)]
  have inner : ∀ (fuel : Nat) (k : Int) (k' j : Int) (r : List α), 1 ≤ k → k < s.length → 1 ≤ j → k + j ≤ s.length → k ≤ k' → k' < k + j → r.length = s.length → (∀ i : Nat, (k + j - 1).toNat ≤ i → r[i]? = s[i]?) → r.take k'.toNat = dd (s.take (k + j).toNat) → ((s.length : Int) - (k + j)).toNat < fuel →
      ∃ q p r', L2 k s fuel q j r = L2 k s fuel q j r ∧ L2 k s fuel k' j r = .inr (p, q, r') ∧ r'.length = s.length ∧ r'.take p.toNat = dd s ∧ p ≤ s.length := by
    intro fuel
    induction fuel with
    | zero => intro k k' j r _ _ _ _ _ _ _ _ _ h; omega
    | succ fuel ih =>
      intro k k' j r hk1 hk2 hj hkj hkk hk' hrl hr hd hf
      rw [h2 k s fuel k' j r]
      by_cases hlt : j < ((s.length - k.toNat : Nat) : Int)
      · rw [if_pos hlt]
        have hn : (k + j).toNat < s.length := by omega
        have eA : ix r (k + j) = ix s (k + j) := by unfold ix; rw [hr (k + j).toNat (by omega)]
        have eB : ix r (k + (j - 1)) = ix s (k + j - 1) := by unfold ix; rw [show k + (j - 1) = k + j - 1 by omega, hr (k + j - 1).toNat (Nat.le_refl _)]
        have hst := step (k + j).toNat (by omega) hn
        rw [show (((k + j).toNat : Nat) : Int) = k + j by omega] at hst
        rw [eA, eB]
        by_cases heq : ix s (k + j) = ix s (k + j - 1)
        · rw [if_pos heq]
          rw [if_pos heq, List.append_nil] at hst
          obtain ⟨q, p, r', _, h3, h4, h5, h6⟩ := ih k k' (j + 1) r hk1 hk2 (by omega) (by omega) hkk (by omega) hrl (fun i hi => hr i (by omega)) (by rw [hd, show (k + (j + 1)).toNat = (k + j).toNat + 1 by omega, hst]) (by omega)
          exact ⟨q, p, r', rfl, h3, h4, h5, h6⟩
        · rw [if_neg heq]
          rw [if_neg heq] at hst
          obtain ⟨q, p, r', _, h3, h4, h5, h6⟩ := ih k (k' + 1) (j + 1) (r.set k'.toNat (ix s (k + j))) hk1 hk2 (by omega) (by omega) (by omega) (by omega) (by simpa using hrl) (fun i hi => by rw [List.getElem?_set_ne (by omega)]; exact hr i (by omega)) (by
            rw [show (k + (j + 1)).toNat = (k + j).toNat + 1 by omega, hst, ← hd, show (k' + 1).toNat = k'.toNat + 1 by omega, List.take_add_one, List.getElem?_set_self (by omega), List.take_set_of_le (by omega)]
            rfl) (by omega)
          exact ⟨q, p, r', rfl, h3, h4, h5, h6⟩
      · rw [if_neg hlt]
        refine ⟨j, k', r, rfl, rfl, hrl, ?_, by omega⟩
        rw [hd, List.take_of_length_le (by omega)]
  intro fuel
  induction fuel with
  | zero => intro s3 _ _ _ h; omega
  | succ fuel ih =>
    intro s3 hs1 hs2 hd hf
    rw [h1 fuel s3 s]
    by_cases hlt : s3 < (s.length : Int)
    · rw [if_pos hlt]
      have hst := step s3.toNat (by omega) (by omega)
      rw [show ((s3.toNat : Nat) : Int) = s3 by omega] at hst
      by_cases heq : ix s s3 = ix s (s3 - 1)
      · rw [if_pos heq]
        rw [if_pos heq, List.append_nil, hd] at hst
        obtain ⟨q, p, r', _, h3, h4, h5, h6⟩ := inner (((s.length : Int) - (1 : Int)).toNat + 1) s3 s3 1 s hs1 hlt (by omega) (by omega) (by omega) (by omega) rfl (fun _ _ => rfl) (by rw [show (s3 + 1).toNat = s3.toNat + 1 by omega, hst]) (by omega)
        rw [h3]
        left
        simp only
        congr 1
        rw [List.take_append_of_le_length (by rw [List.length_take]; omega), List.take_take, Nat.min_self, h5]
      · rw [if_neg heq]
        rw [if_neg heq, hd] at hst
        exact ih (s3 + 1) (by omega) (by omega) (by
          rw [show (s3 + 1).toNat = s3.toNat + 1 by omega, hst, List.take_add_one, ix, List.getElem?_eq_getElem (show s3.toNat < s.length by omega)]
          rfl) (by omega)
    · rw [if_neg hlt]
      right
      refine ⟨⟨s3, rfl⟩, ?_⟩
      rw [List.take_of_length_le (by omega)] at hd
      exact hd
end Go.Proofs.YtngofknckkiboaaGreatDoor

/- Walks printed by gen2.py out of our own specifications: what the functions named below do. -/
import Derived.Test.YtngofknckkiboaaGreatDoorSc
import Derived.Test.YtngofknckkiboaaGreatDoorZT
import Derived.Test.YtngofknckkiboaaGreatDoorPc
set_option linter.unusedSimpArgs false
set_option linter.unusedVariables false
namespace Go.Proofs.YtngofknckkiboaaGreatDoor
open Go.RowKit

theorem tagTot (a b : TagM) (h1 : tagLt a b = false) (h2 : tagLt b a = false) : a = b := by
  rcases tagLt_tri a b with h | h | h
  · rw [h] at h1; cases h1
  · exact h
  · rw [h] at h2; cases h2


/-- Records in the order of their names, with one more. -/
def insK {α : Type} (key : α → TagM) (l : List α) (a : α) : List α := insL (fun x y => tagLt (key x) (key y)) l a
theorem insK_map {α : Type} (key : α → TagM) (l : List α) (a : α) : (insK key l a).map key = insL tagLt (l.map key) (key a) := by
  unfold insK insL
  rw [List.map_append, List.map_append, List.takeWhile_map, List.dropWhile_map]; rfl
theorem insK_mem {α : Type} (key : α → TagM) (l : List α) (a x : α) : x ∈ insK key l a ↔ x = a ∨ x ∈ l := insL_mem _ l a x
theorem insK_len {α : Type} (key : α → TagM) (l : List α) (a : α) : (insK key l a).length = l.length + 1 := insL_len _ l a
theorem insK_rises {α : Type} {key : α → TagM} {l : List α} {a : α} (h : Rises (l.map key)) (hn : key a ∉ l.map key) : Rises ((insK key l a).map key) := by
  rw [insK_map]
  exact insL_strict tagLt tagTot tagLt_trans h (fun x hx q => hn (q ▸ hx))
theorem keys_ext {α : Type} {key : α → TagM} {l l' : List α} (h : Rises (l.map key)) (h' : Rises (l'.map key)) (hm : ∀ x, x ∈ l ↔ x ∈ l') : l = l' := by
  unfold Rises at h h'
  rw [List.pairwise_map] at h h'
  exact strict_ext (fun x y => tagLt (key x) (key y)) (fun a b q => tagLt_asymm q) h h' hm
theorem tags_ext {l l' : List TagM} (h : Rises l) (h' : Rises l') (hm : ∀ x, x ∈ l ↔ x ∈ l') : l = l' := strict_ext tagLt (fun a b q => tagLt_asymm q) h h' hm
/-- What effects of two acts make of records by name: what was put, but what was taken. -/
structure GInv {α : Type} (key : α → TagM) (mk : EffectM → α) (A D : Int) (adds : List α) (gone : List TagM) (L : List EffectM) : Prop where
  n : adds.length ≤ L.length
  g : gone.length ≤ 100 * L.length
  ra : Rises (adds.map key)
  rg : Rises gone
  mg : ∀ t, t ∈ gone ↔ ∃ e ∈ L, e.act = D ∧ t ∈ e.tags
  ma : ∀ a, a ∈ adds ↔ (∃ e ∈ L, e.act = A ∧ a = mk e) ∧ key a ∉ gone
section
variable {α : Type} {key : α → TagM} {mk : EffectM → α} {A D : Int} {adds adds' : List α} {gone gone' : List TagM} {L L' : List EffectM} {e : EffectM}
theorem GInv.nil : GInv key mk A D [] [] [] := ⟨Nat.le_refl _, Nat.le_refl _, List.Pairwise.nil, List.Pairwise.nil, by simp, by simp⟩
theorem GInv.dj (h : GInv key mk A D adds gone L) : ∀ a ∈ adds, key a ∉ gone := fun a ha => ((h.ma a).1 ha).2
theorem GInv.other (h : GInv key mk A D adds gone L) (h1 : ¬ e.act = A) (h2 : ¬ e.act = D) : GInv key mk A D adds gone (L ++ [e]) := by
  refine ⟨by have := h.n; simp; omega, by have := h.g; simp; omega, h.ra, h.rg, fun t => ?_, fun a => ?_⟩
  · rw [h.mg]; simp [h2]
  · rw [h.ma]; simp [h1]
theorem GInv.fresh (h : GInv key mk A D adds gone L) (hk : ∀ e, key (mk e) = e.tag) (hf : e.tag ∉ L.map (·.tag)) : key (mk e) ∉ adds.map key := fun hm => by
  obtain ⟨a, ha, h2⟩ := List.mem_map.1 hm
  obtain ⟨⟨e', he', _, rfl⟩, _⟩ := (h.ma a).1 ha
  rw [hk, hk] at h2
  exact hf (List.mem_map.2 ⟨e', he', h2⟩)
theorem GInv.put (h : GInv key mk A D adds gone L) (hk : ∀ e, key (mk e) = e.tag) (hA : e.act = A) (hAD : ¬ A = D) (hf : e.tag ∉ L.map (·.tag)) : GInv key mk A D (if key (mk e) ∈ gone then adds else insK key adds (mk e)) gone (L ++ [e]) := by
  have hfr := h.fresh (e := e) hk hf
  have hg : ∀ t, t ∈ gone ↔ ∃ x ∈ L ++ [e], x.act = D ∧ t ∈ x.tags := fun t => by rw [h.mg]; simp [hA, hAD]
  split
  · rename_i hm
    refine ⟨by have := h.n; simp; omega, by have := h.g; simp; omega, h.ra, h.rg, hg, fun a => ?_⟩
    rw [h.ma]
    constructor
    · rintro ⟨⟨x, hx, h1, h2⟩, h3⟩; exact ⟨⟨x, by simp [hx], h1, h2⟩, h3⟩
    · rintro ⟨⟨x, hx, h1, rfl⟩, h3⟩
      rcases List.mem_append.1 hx with hx | hx
      · exact ⟨⟨x, hx, h1, rfl⟩, h3⟩
      · rw [List.mem_singleton] at hx; subst hx; exact absurd hm h3
  · rename_i hm
    refine ⟨by have := h.n; rw [insK_len]; simp; omega, by have := h.g; simp; omega, insK_rises h.ra hfr, h.rg, hg, fun a => ?_⟩
    rw [insK_mem, h.ma]
    constructor
    · rintro (rfl | ⟨⟨x, hx, h1, h2⟩, h3⟩)
      · exact ⟨⟨e, by simp, hA, rfl⟩, hm⟩
      · exact ⟨⟨x, by simp [hx], h1, h2⟩, h3⟩
    · rintro ⟨⟨x, hx, h1, rfl⟩, h3⟩
      rcases List.mem_append.1 hx with hx | hx
      · exact .inr ⟨⟨x, hx, h1, rfl⟩, h3⟩
      · rw [List.mem_singleton] at hx; subst hx; exact .inl rfl
theorem GInv.drop (h : GInv key mk A D adds gone L) (hD : e.act = D) (hAD : ¬ A = D) (hr : Rises gone') (hm : ∀ t, t ∈ gone' ↔ t ∈ gone ∨ t ∈ e.tags) (hl : gone'.length ≤ gone.length + e.tags.length) (h100 : e.tags.length ≤ 100) : GInv key mk A D (adds.filter (fun a => !decide (key a ∈ gone'))) gone' (L ++ [e]) := by
  refine ⟨by have := h.n; have := List.length_filter_le (fun a => !decide (key a ∈ gone')) adds; simp; omega, by have := h.g; simp; omega, ?_, hr, fun t => ?_, fun a => ?_⟩
  · have := h.ra
    unfold Rises at this ⊢
    exact this.sublist (List.filter_sublist.map _)
  · rw [hm, h.mg]
    constructor
    · rintro (⟨x, hx, h1, h2⟩ | h1)
      · exact ⟨x, by simp [hx], h1, h2⟩
      · exact ⟨e, by simp, hD, h1⟩
    · rintro ⟨x, hx, h1, h2⟩
      rcases List.mem_append.1 hx with hx | hx
      · exact .inl ⟨x, hx, h1, h2⟩
      · rw [List.mem_singleton] at hx; subst hx; exact .inr h2
  · rw [List.mem_filter, h.ma]
    constructor
    · rintro ⟨⟨⟨x, hx, h1, h2⟩, h3⟩, h4⟩; exact ⟨⟨x, by simp [hx], h1, h2⟩, by simpa using h4⟩
    · rintro ⟨⟨x, hx, h1, rfl⟩, h3⟩
      rcases List.mem_append.1 hx with hx | hx
      · exact ⟨⟨⟨x, hx, h1, rfl⟩, fun q => h3 ((hm _).2 (.inl q))⟩, by simpa using h3⟩
      · rw [List.mem_singleton] at hx; subst hx; exact absurd (h1.symm.trans hD) hAD
theorem GInv.ext (h : GInv key mk A D adds gone L) (h' : GInv key mk A D adds' gone' L') (hm : ∀ e, e ∈ L ↔ e ∈ L') : adds = adds' ∧ gone = gone' := by
  have hg : gone = gone' := tags_ext h.rg h'.rg fun t => by rw [h.mg, h'.mg]; simp only [hm]
  subst hg
  exact ⟨keys_ext h.ra h'.ra fun a => by rw [h.ma, h'.ma]; simp only [hm], rfl⟩
end
/-- The later of two values of a field. -/
def rLt (a b : RegM) : Prop := a.atF.time < b.atF.time ∨ (a.atF.time = b.atF.time ∧ (a.atF.origin < b.atF.origin ∨ (a.atF.origin = b.atF.origin ∧ a.val < b.val)))
def zR : RegM := ⟨0, ⟨0, 0⟩⟩
def rOf (e : EffectM) : RegM := ⟨e.val, e.atF⟩
theorem reg_ext {a b : RegM} (h1 : a.val = b.val) (h2 : a.atF.time = b.atF.time) (h3 : a.atF.origin = b.atF.origin) : a = b := by
  obtain ⟨a1, ⟨a2, a3⟩⟩ := a; obtain ⟨b1, ⟨b2, b3⟩⟩ := b
  simp only at h1 h2 h3; subst h1; subst h2; subst h3; rfl
theorem rLt_tot {a b : RegM} (h1 : ¬ rLt a b) (h2 : ¬ rLt b a) : a = b := by
  unfold rLt at h1 h2
  exact reg_ext (by omega) (by omega) (by omega)
theorem rLt_trans' {a b c : RegM} (h1 : rLt a b) (h2 : ¬ rLt c b) : rLt a c := by unfold rLt at *; omega
structure RInv (r : RegM) (L : List EffectM) : Prop where
  i : r = zR ∨ ∃ e ∈ L, e.act = 1 ∧ r = rOf e
  z : ¬ rLt r zR
  m : ∀ e ∈ L, e.act = 1 → ¬ rLt r (rOf e)
theorem rLt_irr (a : RegM) : ¬ rLt a a := by unfold rLt; omega
theorem RInv.nil : RInv zR [] := ⟨.inl rfl, rLt_irr _, by simp⟩
theorem RInv.other {r : RegM} {L : List EffectM} {e : EffectM} (h : RInv r L) (h1 : ¬ e.act = 1) : RInv r (L ++ [e]) := by
  refine ⟨?_, h.z, fun x hx h2 => ?_⟩
  · rcases h.i with q | ⟨x, hx, q⟩
    · exact .inl q
    · exact .inr ⟨x, by simp [hx], q⟩
  · rcases List.mem_append.1 hx with hx | hx
    · exact h.m x hx h2
    · rw [List.mem_singleton] at hx; subst hx; exact absurd h2 h1
theorem RInv.ext {r r' : RegM} {L L' : List EffectM} (h : RInv r L) (h' : RInv r' L') (hm : ∀ e, e ∈ L ↔ e ∈ L') : r = r' := by
  have key : ∀ {r r' : RegM} {L L' : List EffectM}, RInv r L → RInv r' L' → (∀ e, e ∈ L ↔ e ∈ L') → ¬ rLt r r' := fun {r r' L L'} h h' hm => by
    rcases h'.i with q | ⟨x, hx, h1, q⟩
    · rw [q]; exact h.z
    · rw [q]; exact h.m x ((hm x).2 hx) h1
  exact rLt_tot (key h h' hm) (key h' h (fun e => (hm e).symm))
def sP : List EffectM → Int
  | [] => 0
  | e :: l => (if e.act = 2 ∧ 0 ≤ e.val then e.val else 0) + sP l
def sM : List EffectM → Int
  | [] => 0
  | e :: l => (if e.act = 2 ∧ e.val < 0 then 0 - e.val else 0) + sM l
theorem sP_app : ∀ (l m : List EffectM), sP (l ++ m) = sP l + sP m
  | [], m => by simp [sP]
  | e :: l, m => by rw [List.cons_append, sP, sP, sP_app l m]; omega
theorem sM_app : ∀ (l m : List EffectM), sM (l ++ m) = sM l + sM m
  | [], m => by simp [sM]
  | e :: l, m => by rw [List.cons_append, sM, sM, sM_app l m]; omega
theorem sP_perm {l m : List EffectM} (h : l.Perm m) : sP l = sP m := by
  induction h with
  | nil => rfl
  | cons x _ ih => simp only [sP, ih]
  | swap x y l => simp only [sP]; omega
  | trans _ _ h1 h2 => exact h1.trans h2
theorem sM_perm {l m : List EffectM} (h : l.Perm m) : sM l = sM m := by
  induction h with
  | nil => rfl
  | cons x _ ih => simp only [sM, ih]
  | swap x y l => simp only [sM]; omega
  | trans _ _ h1 h2 => exact h1.trans h2
theorem s_bnd : ∀ {l : List EffectM}, (∀ e ∈ l, e.act = 2 → -1073741824 ≤ e.val ∧ e.val ≤ 1073741824) → 0 ≤ sP l ∧ sP l ≤ 1073741824 * l.length ∧ 0 ≤ sM l ∧ sM l ≤ 1073741824 * l.length
  | [], _ => by simp [sP, sM]
  | e :: l, h => by
    have ih := s_bnd (l := l) (fun x hx => h x (by simp [hx]))
    have he := h e (by simp)
    simp only [sP, sM, List.length_cons]
    split <;> split <;> omega

end Go.Proofs.YtngofknckkiboaaGreatDoor

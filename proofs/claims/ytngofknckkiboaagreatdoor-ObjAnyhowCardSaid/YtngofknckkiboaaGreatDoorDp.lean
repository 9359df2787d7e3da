/- Rows whose elements hold slices: the model of an element carries where its slices lie. -/
import Derived.Test.YtngofknckkiboaaGreatDoorSt
import Derived.Test.YtngofknckkiboaaGreatDoorOp
set_option linter.unusedVariables false
set_option linter.unusedSimpArgs false
namespace Go.Proofs.YtngofknckkiboaaGreatDoor
open Go.RowKit

/-- A slice within an element: where it lies, its capacity, its elements. -/
structure SlM (α : Type) where
  A : Option Addr
  c : Nat
  l : List α
instance {α : Type} : Inhabited (SlM α) := ⟨⟨none, 0, []⟩⟩
instance {α : Type} [DecidableEq α] : DecidableEq (SlM α) := fun a b => decidable_of_iff (a.A = b.A ∧ a.c = b.c ∧ a.l = b.l) (by cases a; cases b; simp)
/-- What lasts of an element. -/
structure Ef (α : Type) where
  p : α → List Nat → World → Prop
  st : ∀ {x : α} {X Y : List Nat} {w w' : World}, p x X w → Fr X w w' → (∀ y ∈ Y, y ∈ X ∨ w.heap.size ≤ y) → p x Y w'
/-- It lasts of all elements of a list. -/
def kAll {α : Type} (e : Ef α) (xs : List α) : Kf := ⟨fun X w => ∀ x ∈ xs, e.p x X w, fun h hf hY x hx => e.st (h x hx) hf hY⟩
section
variable {α : Type} {e : Ef α} {X : List Nat} {w : World} {xs ys : List α} {H : Heap} {K : List Kf} {i : Nat}
theorem St.kall (h : St X w H K) (hk : K[i]? = some (kAll e xs)) : ∀ x ∈ xs, e.p x (keys H ++ X) w := h.kr _ (List.mem_of_getElem? hk)
theorem kAll_nil : (kAll e []).p X w := fun _ h => by cases h
theorem kAll_one {x : α} (h : e.p x X w) : (kAll e [x]).p X w := fun y hy => by rw [List.mem_singleton] at hy; exact hy ▸ h
theorem kAll_app (h1 : ∀ x ∈ xs, e.p x X w) (h2 : ∀ x ∈ ys, e.p x X w) : (kAll e (xs ++ ys)).p X w := fun x hx => (List.mem_append.1 hx).elim (h1 x) (h2 x)
theorem kAll_sub (h1 : ∀ x ∈ xs, e.p x X w) (hs : ∀ x ∈ ys, x ∈ xs) : (kAll e ys).p X w := fun x hx => h1 x (hs x hx)
end
end Go.Proofs.YtngofknckkiboaaGreatDoor

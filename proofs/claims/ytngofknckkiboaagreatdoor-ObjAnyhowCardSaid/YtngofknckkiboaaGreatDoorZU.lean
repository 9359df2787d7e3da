/- Walks printed by gen2.py out of our own specifications: what the functions named below do. -/
import Derived.Test.YtngofknckkiboaaGreatDoorSc
import Derived.Test.YtngofknckkiboaaGreatDoorZT
import Derived.Test.YtngofknckkiboaaGreatDoorSs
set_option linter.unusedSimpArgs false
set_option linter.unusedVariables false
namespace Go.Proofs.YtngofknckkiboaaGreatDoor
open Go.RowKit


open Go.Shelf Go.Lib Go.Sort
theorem swo_tag : SWO (ltOf icompareTag_m) := by
  have e : ∀ a b, ltOf icompareTag_m a b = tagLt a b := fun a b => by
    unfold ltOf; rw [icompareTag_eq, Bool.eq_iff_iff, decide_eq_true_iff]; exact tagCmp_neg a b
  refine ⟨fun x => by rw [e]; exact tagLt_irrefl x, fun x y z h1 h2 => by rw [e] at *; exact tagLt_trans x y z h1 h2, fun x y z h1 h2 => ?_⟩
  rw [e] at *
  rcases tagLt_tri x z with h | h | h
  · rcases tagLt_tri x y with g | g | g
    · rw [g] at h1; cases h1
    · subst g; rw [h] at h2; cases h2
    · have := tagLt_trans y x z g h; rw [this] at h2; cases h2
  · subst h; exact tagLt_irrefl x
  · exact tagLt_asymm h
theorem tot_tag (x y : TagM) (h1 : ltOf icompareTag_m x y = false) (h2 : ltOf icompareTag_m y x = false) : x = y := by
  unfold ltOf at h1 h2; rw [icompareTag_eq] at h1 h2
  have h1 := of_decide_eq_false h1; have h2 := of_decide_eq_false h2
  rcases tagLt_tri x y with g | g | g
  · exact absurd ((tagCmp_neg x y).2 g) h1
  · exact g
  · exact absurd ((tagCmp_neg y x).2 g) h2

end Go.Proofs.YtngofknckkiboaaGreatDoor

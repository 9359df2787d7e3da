/-
  DERIVED. GIVEN WITH THE SEED: THE CARDS: each row of YtdckemiebnfjcaaGreatDoorRows.lean that lists a variable, with what it lists TIED to the program's text (the seventh form; the later family's looks); each row that meets fmt, with fmt's text TOLD by the authors' own Lean function (tested against real Go, not proved from fmt's source: count such statements apart). THE CARD IS WHAT COUNTS. Prove the row's statement (the work); the ties are given (YtdckemiebnfjcaaGreatDoorTie.lean); close each card by the builder's one call (the guide's Derived/Test/ToyasCard.lean, 'card_holds'). Laid BY PROGRAM, IN A SANDBOX (cutbox-door.mjs). By AI agents, Wed Nov 11 2026. No macro, syntax, notation, axiom, sorry.
-/
import Derived.Test.YtdckemiebnfjcaaGreatDoorRows
import GoSem.ClaimSeven
namespace Go.Proofs.YtdckemiebnfjcaaGreatDoor
namespace Rows

/-- THE TIED CARD OF 'selkielaw14.ObjBack'. -/
def objBackCard : Claim7 := { stood := { row := objBackRow, standIns := [], harness := (true, "68cbd0f1c0c1822916011cf3eb89f9c9e34aa5f95cddb0769dbc55943943ff06"), looks := false }, kinds := [], alts := [], laidByText := true, laidKinds := [.data, .pinned], laidTests := true, laidLooks := .later }
def ObjBackCardSaid : Prop := Claim7.holds Tryz.pinned (.plain (OpenSpec.ofChange objBackSpec)) objBackCard

/-- THE SECOND FORM's CARD OF 'selkielaw14.ObjBack'. -/
def objBackUptoCard : Claim7 := { stood := { row := objBackUptoRow, standIns := [], harness := (true, "68cbd0f1c0c1822916011cf3eb89f9c9e34aa5f95cddb0769dbc55943943ff06"), looks := false }, kinds := [], alts := [], laidByText := true, laidKinds := [.data, .pinned], laidTests := true, laidLooks := .later }
def ObjBackUptoCardSaid : Prop := Claim7.holds Tryz.pinned (.plain (OpenSpec.upto objBackSpec)) objBackUptoCard
end Rows
end Go.Proofs.YtdckemiebnfjcaaGreatDoor

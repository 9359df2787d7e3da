/-
  DERIVED. GIVEN WITH THE SEED: THE CARDS: each row of YtdgllcmlfblelaaGreatDoorRows.lean that lists a variable, with what it lists TIED to the program's text (the seventh form; the later family's looks); each row that meets fmt, with fmt's text TOLD by the authors' own Lean function (tested against real Go, not proved from fmt's source: count such statements apart). THE CARD IS WHAT COUNTS. Prove the row's statement (the work); the ties are given (YtdgllcmlfblelaaGreatDoorTie.lean); close each card by the builder's one call (the guide's Derived/Test/ToyasCard.lean, 'card_holds'). Laid BY PROGRAM, IN A SANDBOX (cutbox-door.mjs). By AI agents, Wed Nov 11 2026. No macro, syntax, notation, axiom, sorry.
-/
import Derived.Test.YtdgllcmlfblelaaGreatDoorRows
import GoSem.ClaimSeven
namespace Go.Proofs.YtdgllcmlfblelaaGreatDoor
namespace Rows

/-- THE TIED CARD OF 'selkielaw14.ObjBytes'. -/
def objBytesCard : Claim7 := { stood := { row := objBytesRow, standIns := [], harness := (true, "432a3bf1bd17f492b58bf68aa5951a6ff4a59489e06624bd12fe0ea160e66273"), looks := true }, kinds := [], alts := [], laidByText := true, laidKinds := [.handle], laidTests := true, laidLooks := .later }
def ObjBytesCardSaid : Prop := Claim7.holds Tryz.pinned (.plain (OpenSpec.ofChange objBytesSpec)) objBytesCard

/-- THE SECOND FORM's CARD OF 'selkielaw14.ObjBytes'. -/
def objBytesUptoCard : Claim7 := { stood := { row := objBytesUptoRow, standIns := [], harness := (true, "432a3bf1bd17f492b58bf68aa5951a6ff4a59489e06624bd12fe0ea160e66273"), looks := true }, kinds := [], alts := [], laidByText := true, laidKinds := [.handle], laidTests := true, laidLooks := .later }
def ObjBytesUptoCardSaid : Prop := Claim7.holds Tryz.pinned (.plain (OpenSpec.upto objBytesSpec)) objBytesUptoCard
end Rows
end Go.Proofs.YtdgllcmlfblelaaGreatDoor

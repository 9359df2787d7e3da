/-
  DERIVED. GIVEN WITH THE SEED: THE CARDS: each row of YtngofknckkiboaaGreatDoorRows.lean that lists a variable, with what it lists TIED to the program's text (the seventh form; the later family's looks); each row that meets fmt, with fmt's text TOLD by the authors' own Lean function (tested against real Go, not proved from fmt's source: count such statements apart). THE CARD IS WHAT COUNTS. Prove the row's statement (the work); the ties are given (YtngofknckkiboaaGreatDoorTie.lean); close each card by the builder's one call (the guide's Derived/Test/ToyasCard.lean, 'card_holds'). Laid BY PROGRAM, IN A SANDBOX (cutbox-door.mjs). By AI agents, Wed Nov 11 2026. No macro, syntax, notation, axiom, sorry.
-/
import Derived.Test.YtngofknckkiboaaGreatDoorRows
import GoSem.ClaimSeven
namespace Go.Proofs.YtngofknckkiboaaGreatDoor
namespace Rows

/-- THE TIED CARD OF 'selkielaw14.ObjAnyhow'. -/
def objAnyhowCard : Claim7 := { stood := { row := objAnyhowRow, standIns := [], harness := (true, "fcd4c0154a611d7b443b3797c9643ef03b9ed4e4686526fea88a2a57016394c1"), looks := false }, kinds := [], alts := [], laidByText := true, laidKinds := [.data, .pinned], laidTests := true, laidLooks := .later }
def ObjAnyhowCardSaid : Prop := Claim7.holds Tryz.pinned (.plain (OpenSpec.ofChange objAnyhowSpec)) objAnyhowCard

/-- THE SECOND FORM's CARD OF 'selkielaw14.ObjAnyhow'. -/
def objAnyhowUptoCard : Claim7 := { stood := { row := objAnyhowUptoRow, standIns := [], harness := (true, "fcd4c0154a611d7b443b3797c9643ef03b9ed4e4686526fea88a2a57016394c1"), looks := false }, kinds := [], alts := [], laidByText := true, laidKinds := [.data, .pinned], laidTests := true, laidLooks := .later }
def ObjAnyhowUptoCardSaid : Prop := Claim7.holds Tryz.pinned (.plain (OpenSpec.upto objAnyhowSpec)) objAnyhowUptoCard
end Rows
end Go.Proofs.YtngofknckkiboaaGreatDoor

/-
  DERIVED. GIVEN WITH THE SEED: THE CARDS: each row of YtiliglahlfkikaaGreatDoorRows.lean that lists a variable, with what it lists TIED to the program's text (the seventh form; the later family's looks); each row that meets fmt, with fmt's text TOLD by the authors' own Lean function (tested against real Go, not proved from fmt's source: count such statements apart). THE CARD IS WHAT COUNTS. Prove the row's statement (the work); the ties are given (YtiliglahlfkikaaGreatDoorTie.lean); close each card by the builder's one call (the guide's Derived/Test/ToyasCard.lean, 'card_holds'). Laid BY PROGRAM, IN A SANDBOX (cutbox-door.mjs). By AI agents, Wed Nov 11 2026. No macro, syntax, notation, axiom, sorry.
-/
import Derived.Test.YtiliglahlfkikaaGreatDoorRows
import GoSem.ClaimSeven
namespace Go.Proofs.YtiliglahlfkikaaGreatDoor
namespace Rows

/-- THE TIED CARD OF 'selkielaw20.VersDoes'. -/
def versDoesCard : Claim7 := { stood := { row := versDoesRow, standIns := [], harness := (true, "54e6e229de8d222a1c082359c87be7c0e9cfdc4a3ad15fd56f32009ea3509c97"), looks := true }, kinds := [], alts := [], laidByText := true, laidKinds := [.data, .pinned], laidTests := true, laidLooks := .later }
def VersDoesCardSaid : Prop := Claim7.holds Tryz.pinned (.plain (OpenSpec.ofChange versDoesSpec)) versDoesCard

/-- THE TIED CARD OF 'selkielaw20.VersAnyhow'. -/
def versAnyhowCard : Claim7 := { stood := { row := versAnyhowRow, standIns := [], harness := (true, "54e6e229de8d222a1c082359c87be7c0e9cfdc4a3ad15fd56f32009ea3509c97"), looks := true }, kinds := [], alts := [], laidByText := true, laidKinds := [.data, .pinned], laidTests := true, laidLooks := .later }
def VersAnyhowCardSaid : Prop := Claim7.holds Tryz.pinned (.plain (OpenSpec.ofChange versAnyhowSpec)) versAnyhowCard

/-- THE TIED CARD OF 'selkielaw20.VersTrims'. -/
def versTrimsCard : Claim7 := { stood := { row := versTrimsRow, standIns := [], harness := (true, "54e6e229de8d222a1c082359c87be7c0e9cfdc4a3ad15fd56f32009ea3509c97"), looks := true }, kinds := [], alts := [], laidByText := true, laidKinds := [.data, .pinned], laidTests := true, laidLooks := .later }
def VersTrimsCardSaid : Prop := Claim7.holds Tryz.pinned (.plain (OpenSpec.ofChange versTrimsSpec)) versTrimsCard

/-- THE SECOND FORM's CARD OF 'selkielaw20.VersDoes'. -/
def versDoesUptoCard : Claim7 := { stood := { row := versDoesUptoRow, standIns := [], harness := (true, "54e6e229de8d222a1c082359c87be7c0e9cfdc4a3ad15fd56f32009ea3509c97"), looks := true }, kinds := [], alts := [], laidByText := true, laidKinds := [.data, .pinned], laidTests := true, laidLooks := .later }
def VersDoesUptoCardSaid : Prop := Claim7.holds Tryz.pinned (.plain (OpenSpec.upto versDoesSpec)) versDoesUptoCard

/-- THE SECOND FORM's CARD OF 'selkielaw20.VersAnyhow'. -/
def versAnyhowUptoCard : Claim7 := { stood := { row := versAnyhowUptoRow, standIns := [], harness := (true, "54e6e229de8d222a1c082359c87be7c0e9cfdc4a3ad15fd56f32009ea3509c97"), looks := true }, kinds := [], alts := [], laidByText := true, laidKinds := [.data, .pinned], laidTests := true, laidLooks := .later }
def VersAnyhowUptoCardSaid : Prop := Claim7.holds Tryz.pinned (.plain (OpenSpec.upto versAnyhowSpec)) versAnyhowUptoCard

/-- THE SECOND FORM's CARD OF 'selkielaw20.VersTrims'. -/
def versTrimsUptoCard : Claim7 := { stood := { row := versTrimsUptoRow, standIns := [], harness := (true, "54e6e229de8d222a1c082359c87be7c0e9cfdc4a3ad15fd56f32009ea3509c97"), looks := true }, kinds := [], alts := [], laidByText := true, laidKinds := [.data, .pinned], laidTests := true, laidLooks := .later }
def VersTrimsUptoCardSaid : Prop := Claim7.holds Tryz.pinned (.plain (OpenSpec.upto versTrimsSpec)) versTrimsUptoCard
end Rows
end Go.Proofs.YtiliglahlfkikaaGreatDoor

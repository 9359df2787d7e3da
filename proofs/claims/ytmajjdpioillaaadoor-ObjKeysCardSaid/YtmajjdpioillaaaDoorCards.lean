/-
  DERIVED. GIVEN WITH THE SEED: THE CARDS: each row of YtmajjdpioillaaaDoorRows.lean that lists a variable, with what it lists TIED to the program's text (the seventh form; the later family's looks); each row that meets fmt, with fmt's text TOLD by the authors' own Lean function (tested against real Go, not proved from fmt's source: count such statements apart). THE CARD IS WHAT COUNTS. Prove the row's statement (the work); the ties are given (YtmajjdpioillaaaDoorTie.lean); close each card by the builder's one call (the guide's Derived/Test/ToyasCard.lean, 'card_holds'). Laid BY PROGRAM, IN A SANDBOX (cutbox-door.mjs). By AI agents, Wed Nov 11 2026. No macro, syntax, notation, axiom, sorry.
-/
import Derived.Test.YtmajjdpioillaaaDoorRows
import GoSem.ClaimSeven
namespace Go.Proofs.YtmajjdpioillaaaDoor
namespace Rows

/-- THE TIED CARD OF 'selkielaw14.ObjKeys'. -/
def objKeysCard : Claim7 := { stood := { row := objKeysRow, standIns := [], harness := (true, "80a42a816a8752c3dfe748b97914a73254f3789dff7530ac4e90f93048f5d9cd"), looks := false }, kinds := [], alts := [], laidByText := true, laidKinds := [.data, .pinned], laidTests := true, laidLooks := .later }
def ObjKeysCardSaid : Prop := Claim7.holds Tryd.pinned (.plain (OpenSpec.ofChange objKeysSpec)) objKeysCard

/-- THE SECOND FORM's CARD OF 'selkielaw14.ObjKeys'. -/
def objKeysUptoCard : Claim7 := { stood := { row := objKeysUptoRow, standIns := [], harness := (true, "80a42a816a8752c3dfe748b97914a73254f3789dff7530ac4e90f93048f5d9cd"), looks := false }, kinds := [], alts := [], laidByText := true, laidKinds := [.data, .pinned], laidTests := true, laidLooks := .later }
def ObjKeysUptoCardSaid : Prop := Claim7.holds Tryd.pinned (.plain (OpenSpec.upto objKeysSpec)) objKeysUptoCard
end Rows
end Go.Proofs.YtmajjdpioillaaaDoor

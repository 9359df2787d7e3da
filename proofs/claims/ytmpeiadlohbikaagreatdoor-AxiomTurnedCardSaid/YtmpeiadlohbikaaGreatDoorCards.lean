/-
  DERIVED. GIVEN WITH THE SEED: THE CARDS: each row of YtmpeiadlohbikaaGreatDoorRows.lean that lists a variable, with what it lists TIED to the program's text (the seventh form; the later family's looks); each row that meets fmt, with fmt's text TOLD by the authors' own Lean function (tested against real Go, not proved from fmt's source: count such statements apart). THE CARD IS WHAT COUNTS. Prove the row's statement (the work); the ties are given (YtmpeiadlohbikaaGreatDoorTie.lean); close each card by the builder's one call (the guide's Derived/Test/ToyasCard.lean, 'card_holds'). Laid BY PROGRAM, IN A SANDBOX (cutbox-door.mjs). By AI agents, Wed Nov 11 2026. No macro, syntax, notation, axiom, sorry.
-/
import Derived.Test.YtmpeiadlohbikaaGreatDoorRows
import GoSem.ClaimSeven
namespace Go.Proofs.YtmpeiadlohbikaaGreatDoor
namespace Rows

/-- THE TIED CARD OF 'selkielaw16.SpecMeans'. -/
def specMeansCard : Claim7 := { stood := { row := specMeansRow, standIns := [], harness := (true, "fbcb941b98e2d45fb2b9acbd9234b7d7085aca444e05f69b8d361142b4351a11"), looks := true }, kinds := [], alts := [], laidByText := true, laidKinds := [.data, .pinned], laidTests := true, laidLooks := .later }
def SpecMeansCardSaid : Prop := Claim7.holds Tryz.pinned (.plain (OpenSpec.ofChange specMeansSpec)) specMeansCard

/-- THE TIED CARD OF 'selkielaw36.AxiomOrder'. -/
def axiomOrderCard : Claim7 := { stood := { row := axiomOrderRow, standIns := [], harness := (true, "fbcb941b98e2d45fb2b9acbd9234b7d7085aca444e05f69b8d361142b4351a11"), looks := true }, kinds := [], alts := [], laidByText := true, laidKinds := [.data, .pinned], laidTests := true, laidLooks := .later }
def AxiomOrderCardSaid : Prop := Claim7.holds Tryz.pinned (.plain (OpenSpec.ofChange axiomOrderSpec)) axiomOrderCard

/-- THE TIED CARD OF 'selkielaw36.AxiomTurned'. -/
def axiomTurnedCard : Claim7 := { stood := { row := axiomTurnedRow, standIns := [], harness := (true, "fbcb941b98e2d45fb2b9acbd9234b7d7085aca444e05f69b8d361142b4351a11"), looks := true }, kinds := [], alts := [], laidByText := true, laidKinds := [.data, .pinned], laidTests := true, laidLooks := .later }
def AxiomTurnedCardSaid : Prop := Claim7.holds Tryz.pinned (.plain (OpenSpec.ofChange axiomTurnedSpec)) axiomTurnedCard

/-- THE SECOND FORM's CARD OF 'selkielaw16.SpecMeans'. -/
def specMeansUptoCard : Claim7 := { stood := { row := specMeansUptoRow, standIns := [], harness := (true, "fbcb941b98e2d45fb2b9acbd9234b7d7085aca444e05f69b8d361142b4351a11"), looks := true }, kinds := [], alts := [], laidByText := true, laidKinds := [.data, .pinned], laidTests := true, laidLooks := .later }
def SpecMeansUptoCardSaid : Prop := Claim7.holds Tryz.pinned (.plain (OpenSpec.upto specMeansSpec)) specMeansUptoCard

/-- THE SECOND FORM's CARD OF 'selkielaw36.AxiomOrder'. -/
def axiomOrderUptoCard : Claim7 := { stood := { row := axiomOrderUptoRow, standIns := [], harness := (true, "fbcb941b98e2d45fb2b9acbd9234b7d7085aca444e05f69b8d361142b4351a11"), looks := true }, kinds := [], alts := [], laidByText := true, laidKinds := [.data, .pinned], laidTests := true, laidLooks := .later }
def AxiomOrderUptoCardSaid : Prop := Claim7.holds Tryz.pinned (.plain (OpenSpec.upto axiomOrderSpec)) axiomOrderUptoCard

/-- THE SECOND FORM's CARD OF 'selkielaw36.AxiomTurned'. -/
def axiomTurnedUptoCard : Claim7 := { stood := { row := axiomTurnedUptoRow, standIns := [], harness := (true, "fbcb941b98e2d45fb2b9acbd9234b7d7085aca444e05f69b8d361142b4351a11"), looks := true }, kinds := [], alts := [], laidByText := true, laidKinds := [.data, .pinned], laidTests := true, laidLooks := .later }
def AxiomTurnedUptoCardSaid : Prop := Claim7.holds Tryz.pinned (.plain (OpenSpec.upto axiomTurnedSpec)) axiomTurnedUptoCard
end Rows
end Go.Proofs.YtmpeiadlohbikaaGreatDoor

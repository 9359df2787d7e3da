/-
  DERIVED. GIVEN WITH THE SEED: THE CARDS: each row of YtfgofabojepcmaaGreatDoorRows.lean that lists a variable, with what it lists TIED to the program's text (the seventh form; the later family's looks); each row that meets fmt, with fmt's text TOLD by the authors' own Lean function (tested against real Go, not proved from fmt's source: count such statements apart). THE CARD IS WHAT COUNTS. Prove the row's statement (the work); the ties are given (YtfgofabojepcmaaGreatDoorTie.lean); close each card by the builder's one call (the guide's Derived/Test/ToyasCard.lean, 'card_holds'). Laid BY PROGRAM, IN A SANDBOX (cutbox-door.mjs). By AI agents, Wed Nov 11 2026. No macro, syntax, notation, axiom, sorry.
-/
import Derived.Test.YtfgofabojepcmaaGreatDoorRows
import GoSem.ClaimSeven
namespace Go.Proofs.YtfgofabojepcmaaGreatDoor
namespace Rows

/-- THE TIED CARD OF 'selkielaw28.ExecIsolates'. -/
def execIsolatesCard : Claim7 := { stood := { row := execIsolatesRow, standIns := [], harness := (true, "3bbf2b1498f01d55109f3c8ecda23e6a28e8ca65714cf728bb7992632f22129d"), looks := true }, kinds := [], alts := [], laidByText := true, laidKinds := [.data, .pinned], laidTests := true, laidLooks := .later }
def ExecIsolatesCardSaid : Prop := Claim7.holds Tryz.pinned (.plain (OpenSpec.ofChange execIsolatesSpec)) execIsolatesCard

/-- THE TIED CARD OF 'selkielaw38.ScriptParses'. -/
def scriptParsesCard : Claim7 := { stood := { row := scriptParsesRow, standIns := [], harness := (true, "3bbf2b1498f01d55109f3c8ecda23e6a28e8ca65714cf728bb7992632f22129d"), looks := true }, kinds := [], alts := [], laidByText := true, laidKinds := [.data, .data, .data, .data, .handle, .sentinel, .sentinel, .pinned], laidTests := true, laidLooks := .later }
def ScriptParsesCardSaid : Prop := Claim7.holds Tryz.pinned (.plain (OpenSpec.ofChange scriptParsesSpec)) scriptParsesCard

/-- THE TIED CARD OF 'selkielaw32.PeerLetters'. -/
def peerLettersCard : Claim7 := { stood := { row := peerLettersRow, standIns := [], harness := (true, "3bbf2b1498f01d55109f3c8ecda23e6a28e8ca65714cf728bb7992632f22129d"), looks := true }, kinds := [], alts := [], laidByText := true, laidKinds := [.data, .handle, .pinned], laidTests := true, laidLooks := .later }
def PeerLettersCardSaid : Prop := Claim7.holds Tryz.pinned (.plain (OpenSpec.ofChange peerLettersSpec)) peerLettersCard

/-- THE SECOND FORM's CARD OF 'selkielaw28.ExecIsolates'. -/
def execIsolatesUptoCard : Claim7 := { stood := { row := execIsolatesUptoRow, standIns := [], harness := (true, "3bbf2b1498f01d55109f3c8ecda23e6a28e8ca65714cf728bb7992632f22129d"), looks := true }, kinds := [], alts := [], laidByText := true, laidKinds := [.data, .pinned], laidTests := true, laidLooks := .later }
def ExecIsolatesUptoCardSaid : Prop := Claim7.holds Tryz.pinned (.plain (OpenSpec.upto execIsolatesSpec)) execIsolatesUptoCard

/-- THE SECOND FORM's CARD OF 'selkielaw38.ScriptParses'. -/
def scriptParsesUptoCard : Claim7 := { stood := { row := scriptParsesUptoRow, standIns := [], harness := (true, "3bbf2b1498f01d55109f3c8ecda23e6a28e8ca65714cf728bb7992632f22129d"), looks := true }, kinds := [], alts := [], laidByText := true, laidKinds := [.data, .data, .data, .data, .handle, .sentinel, .sentinel, .pinned], laidTests := true, laidLooks := .later }
def ScriptParsesUptoCardSaid : Prop := Claim7.holds Tryz.pinned (.plain (OpenSpec.upto scriptParsesSpec)) scriptParsesUptoCard

/-- THE SECOND FORM's CARD OF 'selkielaw32.PeerLetters'. -/
def peerLettersUptoCard : Claim7 := { stood := { row := peerLettersUptoRow, standIns := [], harness := (true, "3bbf2b1498f01d55109f3c8ecda23e6a28e8ca65714cf728bb7992632f22129d"), looks := true }, kinds := [], alts := [], laidByText := true, laidKinds := [.data, .handle, .pinned], laidTests := true, laidLooks := .later }
def PeerLettersUptoCardSaid : Prop := Claim7.holds Tryz.pinned (.plain (OpenSpec.upto peerLettersSpec)) peerLettersUptoCard
end Rows
end Go.Proofs.YtfgofabojepcmaaGreatDoor

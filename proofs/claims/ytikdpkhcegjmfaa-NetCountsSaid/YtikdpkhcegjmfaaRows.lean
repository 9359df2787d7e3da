/-
  No cell of these rows narrows 'for every input' (looked for: loops, veiled, ifaces, maps, wideKeys, modest, calm, conditions, laid).
  DERIVED. THE GIVEN ROWS OF THIS SEAT. 8 by the template 'for every input the law returns true; each argument reads behind the call as it read before'; 0 by the template 'total and deterministic' (their statements: YtikdpkhcegjmfaaTotals.lean).
  GIVEN WITH THE SEED: the statements are not yours to turn. If you find one false, say at which input.
  Laid BY PROGRAM, IN A SANDBOX (cutbox-rows.mjs): the forced cells as the released guide's own fill.sh prints them over the translation 227655b070afa5d5… (all of the seat's roots in one cut). By AI agents, Wed Nov 11 2026. No macro, syntax, notation, axiom, sorry.
-/
import Derived.Test.YtikdpkhcegjmfaaChecked
import GoSem.Claim
import GoSem.ClaimJoined
import GoSem.ClaimMapViews
import Derived.JoinedTies
import Derived.KernelRfl
namespace Go.Proofs.Ytikdpkhcegjmfaa
/- THE CELL 'sum', in the pinned program and in every row, IS THE sha256 OF THE DUMP (.gsa) THAT YtikdpkhcegjmfaaProg.lean LOADS. Nothing in Lean hashes anything: it is a label: what it is worth is what the hold of that sum in a sandbox is worth. -/
noncomputable def Try.pinned : Pinned := { name := "ytikdpkhcegjmfaa", sum := "227655b070afa5d5c980ffe7b51f5f10fdca8866538054ce2c9f61c9ad0d6137", checked := Try.checked }
namespace Rows
def none {H : Type} : Left H := { results := [], args := [] }

/-- 'selkielaw17.SectorCells': WHATEVER THE INPUT: true; the input reads as it did. -/
def sectorCellsSpec : ChangeSpec := { name := "sectorCells", fn := fun _ => fun
  | [d1, d2] => { results := [.lit (.bool true)], args := [d1, d2] }
  | _ => none }
def sectorCellsRow : OpenClaim := { program := "ytikdpkhcegjmfaa", sum := "227655b070afa5d5c980ffe7b51f5f10fdca8866538054ce2c9f61c9ad0d6137", func := "selkie/selkielaw17.SectorCells", spec := "sectorCells", plainKeys := false, apart := false }
def SectorCellsSaid : Prop := sectorCellsRow.holds Try.pinned (OpenSpec.ofChange sectorCellsSpec)

/-- ITS FALSE NEIGHBOUR: 'it returns false'. Refute it at one input. -/
def sectorCellsWrong : ChangeSpec := { name := "sectorCells", fn := fun _ => fun
  | [d1, d2] => { results := [.lit (.bool false)], args := [d1, d2] }
  | _ => none }
def SectorCellsWrongFalsely : Prop := sectorCellsRow.holds Try.pinned (OpenSpec.ofChange sectorCellsWrong)

/-- 'selkielaw31.NetDoes': WHATEVER THE INPUT: true; the input reads as it did. -/
def netDoesSpec : ChangeSpec := { name := "netDoes", fn := fun _ => fun
  | [d1, d2] => { results := [.lit (.bool true)], args := [d1, d2] }
  | _ => none }
def netDoesRow : OpenClaim := { program := "ytikdpkhcegjmfaa", sum := "227655b070afa5d5c980ffe7b51f5f10fdca8866538054ce2c9f61c9ad0d6137", func := "selkie/selkielaw31.NetDoes", spec := "netDoes", plainKeys := false, apart := false }
def NetDoesSaid : Prop := netDoesRow.holds Try.pinned (OpenSpec.ofChange netDoesSpec)

/-- ITS FALSE NEIGHBOUR: 'it returns false'. Refute it at one input. -/
def netDoesWrong : ChangeSpec := { name := "netDoes", fn := fun _ => fun
  | [d1, d2] => { results := [.lit (.bool false)], args := [d1, d2] }
  | _ => none }
def NetDoesWrongFalsely : Prop := netDoesRow.holds Try.pinned (OpenSpec.ofChange netDoesWrong)

/-- 'selkielaw31.NetCounts': WHATEVER THE INPUT: true; the input reads as it did. -/
def netCountsSpec : ChangeSpec := { name := "netCounts", fn := fun _ => fun
  | [d1, d2] => { results := [.lit (.bool true)], args := [d1, d2] }
  | _ => none }
def netCountsRow : OpenClaim := { program := "ytikdpkhcegjmfaa", sum := "227655b070afa5d5c980ffe7b51f5f10fdca8866538054ce2c9f61c9ad0d6137", func := "selkie/selkielaw31.NetCounts", spec := "netCounts", plainKeys := false, apart := false }
def NetCountsSaid : Prop := netCountsRow.holds Try.pinned (OpenSpec.ofChange netCountsSpec)

/-- ITS FALSE NEIGHBOUR: 'it returns false'. Refute it at one input. -/
def netCountsWrong : ChangeSpec := { name := "netCounts", fn := fun _ => fun
  | [d1, d2] => { results := [.lit (.bool false)], args := [d1, d2] }
  | _ => none }
def NetCountsWrongFalsely : Prop := netCountsRow.holds Try.pinned (OpenSpec.ofChange netCountsWrong)

/-- 'selkielaw17.SectorDoes': WHATEVER THE INPUT: true; the input reads as it did. -/
def sectorDoesSpec : ChangeSpec := { name := "sectorDoes", fn := fun _ => fun
  | [d1, d2] => { results := [.lit (.bool true)], args := [d1, d2] }
  | _ => none }
def sectorDoesRow : OpenClaim := { program := "ytikdpkhcegjmfaa", sum := "227655b070afa5d5c980ffe7b51f5f10fdca8866538054ce2c9f61c9ad0d6137", func := "selkie/selkielaw17.SectorDoes", spec := "sectorDoes", plainKeys := false, apart := false }
def SectorDoesSaid : Prop := sectorDoesRow.holds Try.pinned (OpenSpec.ofChange sectorDoesSpec)

/-- ITS FALSE NEIGHBOUR: 'it returns false'. Refute it at one input. -/
def sectorDoesWrong : ChangeSpec := { name := "sectorDoes", fn := fun _ => fun
  | [d1, d2] => { results := [.lit (.bool false)], args := [d1, d2] }
  | _ => none }
def SectorDoesWrongFalsely : Prop := sectorDoesRow.holds Try.pinned (OpenSpec.ofChange sectorDoesWrong)

/-- 'selkielaw17.SectorTorn': WHATEVER THE INPUT: true; the input reads as it did. -/
def sectorTornSpec : ChangeSpec := { name := "sectorTorn", fn := fun _ => fun
  | [d1, d2, d3, d4] => { results := [.lit (.bool true)], args := [d1, d2, d3, d4] }
  | _ => none }
def sectorTornRow : OpenClaim := { program := "ytikdpkhcegjmfaa", sum := "227655b070afa5d5c980ffe7b51f5f10fdca8866538054ce2c9f61c9ad0d6137", func := "selkie/selkielaw17.SectorTorn", spec := "sectorTorn", plainKeys := false, apart := false }
def SectorTornSaid : Prop := sectorTornRow.holds Try.pinned (OpenSpec.ofChange sectorTornSpec)

/-- ITS FALSE NEIGHBOUR: 'it returns false'. Refute it at one input. -/
def sectorTornWrong : ChangeSpec := { name := "sectorTorn", fn := fun _ => fun
  | [d1, d2, d3, d4] => { results := [.lit (.bool false)], args := [d1, d2, d3, d4] }
  | _ => none }
def SectorTornWrongFalsely : Prop := sectorTornRow.holds Try.pinned (OpenSpec.ofChange sectorTornWrong)

/-- 'selkielaw17.SectorLasts': WHATEVER THE INPUT: true; the input reads as it did. -/
def sectorLastsSpec : ChangeSpec := { name := "sectorLasts", fn := fun _ => fun
  | [d1, d2, d3, d4, d5] => { results := [.lit (.bool true)], args := [d1, d2, d3, d4, d5] }
  | _ => none }
def sectorLastsRow : OpenClaim := { program := "ytikdpkhcegjmfaa", sum := "227655b070afa5d5c980ffe7b51f5f10fdca8866538054ce2c9f61c9ad0d6137", func := "selkie/selkielaw17.SectorLasts", spec := "sectorLasts", plainKeys := false, apart := false }
def SectorLastsSaid : Prop := sectorLastsRow.holds Try.pinned (OpenSpec.ofChange sectorLastsSpec)

/-- ITS FALSE NEIGHBOUR: 'it returns false'. Refute it at one input. -/
def sectorLastsWrong : ChangeSpec := { name := "sectorLasts", fn := fun _ => fun
  | [d1, d2, d3, d4, d5] => { results := [.lit (.bool false)], args := [d1, d2, d3, d4, d5] }
  | _ => none }
def SectorLastsWrongFalsely : Prop := sectorLastsRow.holds Try.pinned (OpenSpec.ofChange sectorLastsWrong)

/-- 'selkielaw18.JournalRoom': WHATEVER THE INPUT: true; the input reads as it did. -/
def journalRoomSpec : ChangeSpec := { name := "journalRoom", fn := fun _ => fun
  | [d1, d2, d3] => { results := [.lit (.bool true)], args := [d1, d2, d3] }
  | _ => none }
def journalRoomRow : OpenClaim := { program := "ytikdpkhcegjmfaa", sum := "227655b070afa5d5c980ffe7b51f5f10fdca8866538054ce2c9f61c9ad0d6137", func := "selkie/selkielaw18.JournalRoom", spec := "journalRoom", unfollowed := true, recurses := true, plainKeys := false, apart := false }
def JournalRoomSaid : Prop := journalRoomRow.holds Try.pinned (OpenSpec.ofChange journalRoomSpec)

/-- ITS FALSE NEIGHBOUR: 'it returns false'. Refute it at one input. -/
def journalRoomWrong : ChangeSpec := { name := "journalRoom", fn := fun _ => fun
  | [d1, d2, d3] => { results := [.lit (.bool false)], args := [d1, d2, d3] }
  | _ => none }
def JournalRoomWrongFalsely : Prop := journalRoomRow.holds Try.pinned (OpenSpec.ofChange journalRoomWrong)

/-- 'selkielaw19.MarkRoom': WHATEVER THE INPUT: true; the input reads as it did. -/
def markRoomSpec : ChangeSpec := { name := "markRoom", fn := fun _ => fun
  | [d1, d2, d3] => { results := [.lit (.bool true)], args := [d1, d2, d3] }
  | _ => none }
def markRoomRow : OpenClaim := { program := "ytikdpkhcegjmfaa", sum := "227655b070afa5d5c980ffe7b51f5f10fdca8866538054ce2c9f61c9ad0d6137", func := "selkie/selkielaw19.MarkRoom", spec := "markRoom", unfollowed := true, recurses := true, plainKeys := false, apart := false }
def MarkRoomSaid : Prop := markRoomRow.holds Try.pinned (OpenSpec.ofChange markRoomSpec)

/-- ITS FALSE NEIGHBOUR: 'it returns false'. Refute it at one input. -/
def markRoomWrong : ChangeSpec := { name := "markRoom", fn := fun _ => fun
  | [d1, d2, d3] => { results := [.lit (.bool false)], args := [d1, d2, d3] }
  | _ => none }
def MarkRoomWrongFalsely : Prop := markRoomRow.holds Try.pinned (OpenSpec.ofChange markRoomWrong)

/- THE SECOND FORM. 'bulk': how many values and letters a reading holds, each counted each time it is reached (what is shared counts as often as it is met; a slice's spare places count too). A statement '..UptoSaid' is the law's where the arguments, and the package variables that the reading takes, are together of bulk at most 1048576: NARROWER than '..Said'. Prove '..Said' where nothing that the law and all that it calls make is longer than what came in: it says more and counts as full. Else prove '..UptoSaid'. A law counts once. -/
mutual
def uptoBulk {H : Type} : DataW H → Nat
  | .lit (.string bytes) => bytes.length + 1
  | .lit _ => 1
  | .nil => 1
  | .ptr d => uptoBulk d + 1
  | .slice elems spare => uptoBulkAll elems + uptoBulkAll spare + 1
  | .agg parts => uptoBulkAll parts + 1
  | .iface _ d => uptoBulk d + 1
  | .map entries => uptoBulkEntries entries + 1
  | .held _ => 1
def uptoBulkAll {H : Type} : List (DataW H) → Nat
  | [] => 0
  | d :: r => uptoBulk d + uptoBulkAll r
def uptoBulkEntries {H : Type} : List (Lit × DataW H) → Nat
  | [] => 0
  | x :: r => uptoBulkEntry x + uptoBulkEntries r
def uptoBulkEntry {H : Type} : Lit × DataW H → Nat
  | (.string bytes, d) => bytes.length + uptoBulk d + 1
  | (_, d) => uptoBulk d + 1
 end
def uptoSmall : (H : Type) → List (DataW H) → Bool := fun _ ds => decide (uptoBulkAll ds ≤ 1048576)
def OpenSpec.upto (s : _root_.Go.ChangeSpec) : _root_.Go.OpenSpec := { _root_.Go.OpenSpec.ofChange s with cond := some uptoSmall }

/-- 'selkielaw17.SectorCells', WHERE WHAT IT READS IS OF BULK AT MOST 1048576: true; the input reads as it did. -/
def sectorCellsUptoRow : OpenClaim := { program := "ytikdpkhcegjmfaa", sum := "227655b070afa5d5c980ffe7b51f5f10fdca8866538054ce2c9f61c9ad0d6137", func := "selkie/selkielaw17.SectorCells", spec := "sectorCells", plainKeys := false, apart := false, narrowed := true }
def SectorCellsUptoSaid : Prop := sectorCellsUptoRow.holds Try.pinned (OpenSpec.upto sectorCellsSpec)

/-- 'selkielaw31.NetDoes', WHERE WHAT IT READS IS OF BULK AT MOST 1048576: true; the input reads as it did. -/
def netDoesUptoRow : OpenClaim := { program := "ytikdpkhcegjmfaa", sum := "227655b070afa5d5c980ffe7b51f5f10fdca8866538054ce2c9f61c9ad0d6137", func := "selkie/selkielaw31.NetDoes", spec := "netDoes", plainKeys := false, apart := false, narrowed := true }
def NetDoesUptoSaid : Prop := netDoesUptoRow.holds Try.pinned (OpenSpec.upto netDoesSpec)

/-- 'selkielaw31.NetCounts', WHERE WHAT IT READS IS OF BULK AT MOST 1048576: true; the input reads as it did. -/
def netCountsUptoRow : OpenClaim := { program := "ytikdpkhcegjmfaa", sum := "227655b070afa5d5c980ffe7b51f5f10fdca8866538054ce2c9f61c9ad0d6137", func := "selkie/selkielaw31.NetCounts", spec := "netCounts", plainKeys := false, apart := false, narrowed := true }
def NetCountsUptoSaid : Prop := netCountsUptoRow.holds Try.pinned (OpenSpec.upto netCountsSpec)

/-- 'selkielaw17.SectorDoes', WHERE WHAT IT READS IS OF BULK AT MOST 1048576: true; the input reads as it did. -/
def sectorDoesUptoRow : OpenClaim := { program := "ytikdpkhcegjmfaa", sum := "227655b070afa5d5c980ffe7b51f5f10fdca8866538054ce2c9f61c9ad0d6137", func := "selkie/selkielaw17.SectorDoes", spec := "sectorDoes", plainKeys := false, apart := false, narrowed := true }
def SectorDoesUptoSaid : Prop := sectorDoesUptoRow.holds Try.pinned (OpenSpec.upto sectorDoesSpec)

/-- 'selkielaw17.SectorTorn', WHERE WHAT IT READS IS OF BULK AT MOST 1048576: true; the input reads as it did. -/
def sectorTornUptoRow : OpenClaim := { program := "ytikdpkhcegjmfaa", sum := "227655b070afa5d5c980ffe7b51f5f10fdca8866538054ce2c9f61c9ad0d6137", func := "selkie/selkielaw17.SectorTorn", spec := "sectorTorn", plainKeys := false, apart := false, narrowed := true }
def SectorTornUptoSaid : Prop := sectorTornUptoRow.holds Try.pinned (OpenSpec.upto sectorTornSpec)

/-- 'selkielaw17.SectorLasts', WHERE WHAT IT READS IS OF BULK AT MOST 1048576: true; the input reads as it did. -/
def sectorLastsUptoRow : OpenClaim := { program := "ytikdpkhcegjmfaa", sum := "227655b070afa5d5c980ffe7b51f5f10fdca8866538054ce2c9f61c9ad0d6137", func := "selkie/selkielaw17.SectorLasts", spec := "sectorLasts", plainKeys := false, apart := false, narrowed := true }
def SectorLastsUptoSaid : Prop := sectorLastsUptoRow.holds Try.pinned (OpenSpec.upto sectorLastsSpec)

/-- 'selkielaw18.JournalRoom', WHERE WHAT IT READS IS OF BULK AT MOST 1048576: true; the input reads as it did. -/
def journalRoomUptoRow : OpenClaim := { program := "ytikdpkhcegjmfaa", sum := "227655b070afa5d5c980ffe7b51f5f10fdca8866538054ce2c9f61c9ad0d6137", func := "selkie/selkielaw18.JournalRoom", spec := "journalRoom", unfollowed := true, recurses := true, plainKeys := false, apart := false, narrowed := true }
def JournalRoomUptoSaid : Prop := journalRoomUptoRow.holds Try.pinned (OpenSpec.upto journalRoomSpec)

/-- 'selkielaw19.MarkRoom', WHERE WHAT IT READS IS OF BULK AT MOST 1048576: true; the input reads as it did. -/
def markRoomUptoRow : OpenClaim := { program := "ytikdpkhcegjmfaa", sum := "227655b070afa5d5c980ffe7b51f5f10fdca8866538054ce2c9f61c9ad0d6137", func := "selkie/selkielaw19.MarkRoom", spec := "markRoom", unfollowed := true, recurses := true, plainKeys := false, apart := false, narrowed := true }
def MarkRoomUptoSaid : Prop := markRoomUptoRow.holds Try.pinned (OpenSpec.upto markRoomSpec)

end Rows
end Go.Proofs.Ytikdpkhcegjmfaa

/- A world that holds what ScriptParses asks for. -/
import Derived.Test.YtfgofabojepcmaaGreatDoorSp25
set_option linter.unusedVariables false
set_option linter.unusedSimpArgs false
namespace Go.Proofs.YtfgofabojepcmaaGreatDoor
open Go.ChangeShapes Go.WideShapes Go.ChangeAt Go.RowKit Go.Joins
noncomputable def wW (os:Os):World:=
 let w0:=World.holding Tryz.prog os ⟨#[], #[],[]⟩
 {w0 with heap:=w0.heap.modify 0 fun
   | .cells _ t frozen=> .cells #[.iface 349 (.agg #[.pointer (some ⟨9,64,none⟩)])] t frozen
   |o=>o}
noncomputable def kZ (os:Os):World:=(wW os).layVars Tryz.prog V.iw
theorem nC(os:Os)(args:Array Value):laidMetH Tryz.prog Rows.scriptParsesRow.laid ((kZ os).forCall (fun _ _=>0) ⟨#[],args,[]⟩).memory:=by
 have e1:(V.iw.filter fun x=>(V.iw.map (·.1)).contains x.1)=V.iw:=List.filter_eq_self.2 fun x hx=>List.contains_iff_mem.2 (List.mem_map.2 ⟨x,hx,rfl⟩);have e2:(V.iw.filter fun x=>!(V.iw.map (·.1)).contains x.1)= []:=List.filter_eq_nil_iff.2 fun x hx=>by rw[List.contains_iff_mem.2 (List.mem_map.2 ⟨x,hx,rfl⟩)];simp
 have h:laidMet Tryz.prog V.iw (kZ os):=laidMet_layVars (w0:=wW os) (V.iw.map (·.1)) [] (by rw[e1];rfl) (by rw[e1];kernel_rfl) (by rw[e1];kernel_rfl) (by rw[e2];exact LaidIn.none);exact(laidMetH_of_parts h (by kernel_rfl)).of_heap (by simp[World.memory,World.forCall,Input.heap])
end Go.Proofs.YtfgofabojepcmaaGreatDoor

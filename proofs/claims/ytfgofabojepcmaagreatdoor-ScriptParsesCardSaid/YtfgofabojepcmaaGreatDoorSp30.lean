/- The statement: ScriptParses. -/
import Derived.Test.YtfgofabojepcmaaGreatDoorSp29
set_option linter.unusedVariables false
set_option linter.unusedSimpArgs false
namespace Go.Proofs.YtfgofabojepcmaaGreatDoor
open Go.ChangeShapes Go.WideShapes Go.ChangeAt Go.RowKit Go.Joins
theorem Gb:Rows.scriptParsesRow.wfByText (OpenSpec.ofChange Rows.scriptParsesSpec)=true:=by kernel_rfl
theorem wn:Rows.scriptParsesCard.stood.looks=Tryz.prog.looks []:=by kernel_rfl
theorem zW:false=Rows.scriptParsesRow.goesBy Tryz.checked.prog:=by kernel_rfl
theorem scriptParses_holds:Rows.ScriptParsesCardSaid:=
 Claim7.holds_tied_plain_at .later [] Rows.scriptParsesCard.laidKinds true Rows.scriptParsesCard.stood.harness Rows.scriptParsesCard.stood.looks kq (fun _ h=>by cases h) Gb (fun _ h=>by cases h) scriptParses_row_tie rfl ⟨rfl,rfl⟩ (by kernel_rfl) rfl
  (fun f fn hf hfn=>by
   obtain rfl:f=4:=Option.some.inj ((show Tryz.prog.funcNamed Rows.scriptParsesRow.func=some 4 by kernel_rfl).symm.trans hf)|>.symm;obtain rfl:fn=Tryz.f4:=(Option.some.inj (Tryz.func4.symm.trans hfn)).symm;exact⟨wn,fun j t ht=>by
    rw[Tryz.params4]at ht;have hm:t∈ [9]:=by simpa using Array.mem_of_getElem? ht
    have hall:([9].all fun u=>!Tryz.prog.wantsStandIn u)=true:=by kernel_rfl
    exact(show Tryz.prog.wantsStandIn t=false by simpa using List.all_eq_true.1 hall t hm)⟩)
  zW
#print axioms scriptParses_holds
end Go.Proofs.YtfgofabojepcmaaGreatDoor

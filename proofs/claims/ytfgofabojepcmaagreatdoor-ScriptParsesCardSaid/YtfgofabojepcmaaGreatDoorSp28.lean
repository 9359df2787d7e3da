/- ScriptParses: the closed facts of its row, one by one. -/
import Derived.Test.YtfgofabojepcmaaGreatDoorSp25
set_option linter.unusedVariables false
set_option linter.unusedSimpArgs false
namespace Go.Proofs.YtfgofabojepcmaaGreatDoor
open Go.ChangeShapes Go.WideShapes Go.ChangeAt Go.RowKit Go.Joins
theorem Ef{a b:Bool}(h1:a=true)(h2:b=true):(a&&b)=true:=by rw[h1,h2];rfl
set_option maxHeartbeats 40000000 in
theorem uc:joinedFacts Tryz.checked.prog 4 Tryz.f4 Rows.scriptParsesSpec Rows.scriptParsesRow=true:=by
 unfold joinedFacts
 repeat' with_reducible refine Ef ?_ ?_
 all_goals as_aux_lemma=>kernel_rfl
end Go.Proofs.YtfgofabojepcmaaGreatDoor

/- ScriptParses: the walk, lifted. -/
import Derived.Test.YtfgofabojepcmaaGreatDoorSp25
import Derived.Test.YtfgofabojepcmaaGreatDoorSp26
set_option linter.unusedVariables false
set_option linter.unusedSimpArgs false
namespace Go.Proofs.YtfgofabojepcmaaGreatDoor
open Go.ChangeShapes Go.WideShapes Go.ChangeAt Go.RowKit Go.Joins
set_option maxRecDepth 100000 in
theorem ko(W:World)(args:Array Value)(h:wq Tryz.f4 W args)(hsh:W.ShapedOpen Tryz.prog)(hL:laidMetH Tryz.prog Rows.scriptParsesRow.laid W):Fn Tryz.prog 4 args.toList W fun v w'=>v= .bool true∧Fr [] W w':=by
 obtain⟨H,enc,base,ds,p,hval,hA,_⟩:=h;rw[Tryz.params4]at hA hval;obtain⟨v0,vs0,d0,ds0,p0,q0,hargs,rfl,rfl,h0,r0⟩:=trodAll_cons hA;obtain⟨rfl,rfl,rfl⟩:=trodAll_nil r0;obtain rfl:args= #[v0]:=by cases args;simp_all
 obtain⟨fu0,h0⟩:=h0;obtain⟨(s:List UInt8),D0⟩:=V.o9 _ _ _ _ _ h0;obtain rfl:=zX Tryz.underlying9 (hval 0 9 v0 rfl rfl) (V.aG.inv D0).1;have hg:V.Gv W:=V.GD hsh hL;exact V.Ax V.k4 hg (xs:= [⟨false,[(1,.d .str s)]⟩]) (fun F ρ=>⟨_,_,rfl,V.eD D0,rfl⟩) ⟨s,rfl,rfl,by rw[V.rD s];exact⟨rfl,rfl⟩⟩
set_option maxRecDepth 100000 in
theorem jc(os:Os)(started:os.Started)(H:Type)(enc:TypeId×Value→H):
  ReturnsInHanded {} Tryz.checked os 4 .any (fun w args=>(Rows.scriptParsesSpec.pre enc Tryz.prog Tryz.f4 Rows.scriptParsesRow.domain false w args∧laidMetH Tryz.prog Rows.scriptParsesRow.laid w)∧sizedMet enc Tryz.prog Tryz.f4 (OpenSpec.ofChange Rows.scriptParsesSpec) false w args) (Rows.scriptParsesSpec.post enc Tryz.prog Tryz.f4 false true false false):=
 tN Tryz.func4 (by kernel_rfl) rfl rfl Tryz.underlying4 (by kernel_rfl) (fun H ds h=>by
  match ds,h with
  | [a0],_=>rfl) ko os started H enc
  (ChangeSpec.witness_shaped (enc:=enc) (C:=Tryz.checked) (os:=os) (X:=fun w _=>laidMetH Tryz.prog Rows.scriptParsesRow.laid w) false (kZ os) #[sv []] 8 (World.layVars_os _ _ _)
   (World.shaped_of_ZipB (by kernel_rfl) (by kernel_rfl)) (by kernel_rfl) (by kernel_rfl) (by kernel_rfl)
   (nC os _))
end Go.Proofs.YtfgofabojepcmaaGreatDoor

/- The statement: AxiomOrder. -/
import Derived.Test.YtmpeiadlohbikaaGreatDoorAx25
import Derived.Test.YtmpeiadlohbikaaGreatDoorAx15
set_option linter.unusedVariables false
set_option linter.unusedSimpArgs false
namespace Go.Proofs.YtmpeiadlohbikaaGreatDoor
open Go.ChangeShapes Go.WideShapes Go.ChangeAt Go.RowKit Go.Joins
set_option maxRecDepth 100000 in
theorem nT(W:World)(args:Array Value)(h:zD Tryz.f4 W args)(hsh:W.ShapedOpen Tryz.prog)(hL:laidMetH Tryz.prog Rows.axiomOrderRow.laid W):Fn Tryz.prog 4 args.toList W fun v w'=>v= .bool true∧Fr [] W w':=by
 obtain⟨H,enc,base,ds,p,hval,hA,_⟩:=h;rw[Tryz.params4]at hA hval;obtain⟨v0,EM,d0,ds0,p0,q0,hargs,rfl,rfl,h0,r0⟩:=trodAll_cons hA;obtain⟨rfl,rfl,rfl⟩:=trodAll_nil r0;obtain rfl:args= #[v0]:=by cases args;simp_all
 obtain⟨fu0,h0⟩:=h0;obtain⟨(l:List V.ao),D0⟩:=V.SE (V.JS hsh) _ _ _ _ _ h0;obtain⟨A,c,cs,e1,hl,_⟩:=V.aC.inv D0;obtain rfl:=HE Tryz.underlying86 (hval 0 86 v0 rfl rfl) e1;have hg:V.Gv W:=Tryz.laysM219.s1_3 W hsh;have hw: ∀x∈l,V.lm x:=fun x hx=>by
  obtain⟨us,hu⟩:=V.aT.mem hl x hx;exact V.Dk hu
 exact V.Dq V.k4 hg (xs:= [⟨false,[(1,.d (.sl (.st 9)) l)]⟩]) (fun F ρ=>⟨_,_,rfl,V.gu D0,rfl⟩) ⟨l,rfl,rfl,by rw[V.pi hw];exact⟨rfl,rfl⟩⟩
set_option maxRecDepth 100000 in
theorem mo(os:Os)(started:os.Started)(H:Type)(enc:TypeId×Value→H):
  ReturnsInHanded {} Tryz.checked os 4 .any (fun w args=>(Rows.axiomOrderSpec.pre enc Tryz.prog Tryz.f4 Rows.axiomOrderRow.domain false w args∧laidMetH Tryz.prog Rows.axiomOrderRow.laid w)∧sizedMet enc Tryz.prog Tryz.f4 (OpenSpec.ofChange Rows.axiomOrderSpec) false w args) (Rows.axiomOrderSpec.post enc Tryz.prog Tryz.f4 false true false false):=
 xw Tryz.func4 (by kernel_rfl) rfl rfl Tryz.underlying4 (by kernel_rfl) (fun H ds h=>by
  match ds,h with
  | [a0],_=>rfl) nT os started H enc
  (ChangeSpec.witness_shaped (enc:=enc) (C:=Tryz.checked) (os:=os) (X:=fun w _=>laidMetH Tryz.prog Rows.axiomOrderRow.laid w) false (World.laidAll Tryz.prog os Rows.axiomOrderRow.laid) #[.slice none 0 0] 8 (World.laidAll_os _ _ _)
   (World.shaped_of_ZipB (by kernel_rfl) (by kernel_rfl)) (by kernel_rfl) (by kernel_rfl) (by kernel_rfl)
   (by rw[MakeChecks.laidMetH_plain _ _ _ (by kernel_rfl)];exact laidMet_laidAll _ (by kernel_rfl) (by kernel_rfl)))
theorem nU:Rows.AxiomOrderSaid:=
 OpenClaim.holds_of_wide 4 Tryz.f4 rfl rfl rfl rfl rfl rfl rfl ⟨rfl,rfl,rfl,rfl,rfl⟩ rfl rfl rfl rfl rfl (by kernel_rfl) Tryz.func4 (by kernel_rfl)
  (of_decide_eq_true (by kernel_rfl)) (by unfold Func.isWrapper;first|(rw[if_pos (by decide+kernel)];kernel_rfl)|(rw[if_neg (by decide+kernel)];exact⟨rfl,rfl⟩))
  (fun os started H enc _=>mo os started H enc)
theorem axiomOrder_holds:Rows.AxiomOrderCardSaid:=
 Claim7.holds_tied_plain_at .later [] Rows.axiomOrderCard.laidKinds true Rows.axiomOrderCard.stood.harness Rows.axiomOrderCard.stood.looks nU (fun _ h=>by cases h) (by kernel_rfl) (fun _ h=>by cases h) axiomOrder_row_tie rfl ⟨rfl,rfl⟩ (by kernel_rfl) rfl
  (fun f fn hf hfn=>by
   obtain rfl:f=4:=Option.some.inj ((show Tryz.prog.funcNamed Rows.axiomOrderRow.func=some 4 by kernel_rfl).symm.trans hf)|>.symm;obtain rfl:fn=Tryz.f4:=(Option.some.inj (Tryz.func4.symm.trans hfn)).symm;exact⟨by kernel_rfl,fun j t ht=>by
    rw[Tryz.params4]at ht;have hm:t∈ [86]:=by simpa using Array.mem_of_getElem? ht
    have hall:([86].all fun u=>!Tryz.prog.wantsStandIn u)=true:=by kernel_rfl
    exact(show Tryz.prog.wantsStandIn t=false by simpa using List.all_eq_true.1 hall t hm)⟩)
  (by kernel_rfl)
#print axioms axiomOrder_holds
end Go.Proofs.YtmpeiadlohbikaaGreatDoor

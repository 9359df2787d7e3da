/- The statement: SpecMeans. -/
import Derived.Test.YtmpeiadlohbikaaGreatDoorYs26
set_option linter.unusedVariables false
set_option linter.unusedSimpArgs false
namespace Go.Proofs.YtmpeiadlohbikaaGreatDoor
open Go.ChangeShapes Go.WideShapes Go.ChangeAt Go.RowKit Go.Joins
set_option maxRecDepth 100000 in
theorem oV(W:World)(args:Array Value)(h:Ad Tryz.f3 W args)(hsh:W.ShapedOpen Tryz.prog)(hL:laidMetH Tryz.prog Rows.specMeansRow.laid W):Fn Tryz.prog 3 args.toList W fun v w'=>v= .bool true∧Fr [] W w':=by
 obtain⟨H,enc,base,ds,p,hval,hA,_⟩:=h;rw[Tryz.params3]at hA hval;obtain⟨v0,F6,d0,ds0,p0,q0,hargs,rfl,rfl,h0,r0⟩:=trodAll_cons hA;obtain⟨v1,LO,d1,ds1,p1,q1,rfl,rfl,rfl,h1,r1⟩:=trodAll_cons r0;obtain⟨rfl,rfl,rfl⟩:=trodAll_nil r1;obtain rfl:args= #[v0,v1]:=by cases args;simp_all
 obtain⟨fu0,h0⟩:=h0;obtain⟨(kind:Int),D0⟩:=V.o3 _ _ _ _ _ h0;obtain rfl:=Dq Tryz.underlying3 (hval 0 3 v0 rfl rfl) (V.aK.inv (s:= .int .i64) D0).1;obtain⟨fu1,h1⟩:=h1;obtain⟨(l:List V.e8),D1⟩:=V.Q8 (V.JK hsh) _ _ _ _ _ h1;obtain⟨A,c,cs,e1,hl,_⟩:=V.aK.inv D1;obtain rfl:=Ho Tryz.underlying22 (hval 1 22 v1 rfl rfl) e1;have hg:V.Gv W:=Tryz.laysM219.s1_3 W hsh;exact V.DD V.k3 hg (xs:= [⟨false,[(1,.d (.int .i64) kind)]⟩,⟨false,[(1,.d (.sl (.st 19)) l)]⟩]) (fun F ρ=>⟨_,_,rfl,V.iz D0,_,_,rfl,V.iz D1,rfl⟩) ⟨kind,l,rfl,rfl,by rw[V.qc kind l];exact⟨rfl,rfl⟩⟩
set_option maxRecDepth 100000 in
theorem m8(os:Os)(started:os.Started)(H:Type)(enc:TypeId×Value→H):
  ReturnsInHanded {} Tryz.checked os 3 .any (fun w args=>(Rows.specMeansSpec.pre enc Tryz.prog Tryz.f3 Rows.specMeansRow.domain false w args∧laidMetH Tryz.prog Rows.specMeansRow.laid w)∧sizedMet enc Tryz.prog Tryz.f3 (OpenSpec.ofChange Rows.specMeansSpec) false w args) (Rows.specMeansSpec.post enc Tryz.prog Tryz.f3 false true false false):=
 xT Tryz.func3 (by kernel_rfl) rfl rfl Tryz.underlying4 (by kernel_rfl) (fun H ds h=>by
  match ds,h with
  | [a0,a1],_=>rfl) oV os started H enc
  (ChangeSpec.witness_shaped (enc:=enc) (C:=Tryz.checked) (os:=os) (X:=fun w _=>laidMetH Tryz.prog Rows.specMeansRow.laid w) false (World.laidAll Tryz.prog os Rows.specMeansRow.laid) #[.int .i64 0,.slice none 0 0] 8 (World.laidAll_os _ _ _)
   (World.shaped_of_ZipB (by kernel_rfl) (by kernel_rfl)) (by kernel_rfl) (by kernel_rfl) (by kernel_rfl)
   (by rw[MakeChecks.laidMetH_plain _ _ _ (by kernel_rfl)];exact laidMet_laidAll _ (by kernel_rfl) (by kernel_rfl)))
theorem oW:Rows.SpecMeansSaid:=
 OpenClaim.holds_of_wide 3 Tryz.f3 rfl rfl rfl rfl rfl rfl rfl ⟨rfl,rfl,rfl,rfl,rfl⟩ rfl rfl rfl rfl rfl (by kernel_rfl) Tryz.func3 (by kernel_rfl)
  (of_decide_eq_true (by kernel_rfl)) (by unfold Func.isWrapper;first|(rw[if_pos (by decide+kernel)];kernel_rfl)|(rw[if_neg (by decide+kernel)];exact⟨rfl,rfl⟩))
  (fun os started H enc _=>m8 os started H enc)
theorem specMeans_holds:Rows.SpecMeansCardSaid:=
 Claim7.holds_tied_plain_at .later [] Rows.specMeansCard.laidKinds true Rows.specMeansCard.stood.harness Rows.specMeansCard.stood.looks oW (fun _ h=>by cases h) (by kernel_rfl) (fun _ h=>by cases h) specMeans_row_tie rfl ⟨rfl,rfl⟩ (by kernel_rfl) rfl
  (fun f fn hf hfn=>by
   obtain rfl:f=3:=Option.some.inj ((show Tryz.prog.funcNamed Rows.specMeansRow.func=some 3 by kernel_rfl).symm.trans hf)|>.symm;obtain rfl:fn=Tryz.f3:=(Option.some.inj (Tryz.func3.symm.trans hfn)).symm;exact⟨by kernel_rfl,fun j t ht=>by
    rw[Tryz.params3]at ht;have hm:t∈ [3,22]:=by simpa using Array.mem_of_getElem? ht
    have hall:([3,22].all fun u=>!Tryz.prog.wantsStandIn u)=true:=by kernel_rfl
    exact(show Tryz.prog.wantsStandIn t=false by simpa using List.all_eq_true.1 hall t hm)⟩)
  (by kernel_rfl)
#print axioms specMeans_holds
end Go.Proofs.YtmpeiadlohbikaaGreatDoor

/- The statement: AxiomTurned. -/
import Derived.Test.YtmpeiadlohbikaaGreatDoorAt26
import Derived.Test.YtmpeiadlohbikaaGreatDoorAt27
set_option linter.unusedVariables false
set_option linter.unusedSimpArgs false
namespace Go.Proofs.YtmpeiadlohbikaaGreatDoor
open Go.ChangeShapes Go.WideShapes Go.ChangeAt Go.RowKit Go.Joins
set_option maxRecDepth 100000 in
theorem nO(W:World)(args:Array Value)(h:AK Tryz.f5 W args)(hsh:W.ShapedOpen Tryz.prog)(hL:laidMetH Tryz.prog Rows.axiomTurnedRow.laid W):Fn Tryz.prog 5 args.toList W fun v w'=>v= .bool true∧Fr [] W w':=by
 obtain⟨H,enc,base,ds,p,hval,hA,_⟩:=h;rw[Tryz.params5]at hA hval;obtain⟨v0,FZ,d0,ds0,p0,q0,hargs,rfl,rfl,h0,r0⟩:=trodAll_cons hA;obtain⟨v1,N3,d1,ds1,p1,q1,rfl,rfl,rfl,h1,r1⟩:=trodAll_cons r0;obtain⟨v2,J3,d2,ds2,p2,q2,rfl,rfl,rfl,h2,r2⟩:=trodAll_cons r1;obtain⟨v3,y9,d3,ds3,p3,q3,rfl,rfl,rfl,h3,r3⟩:=trodAll_cons r2;obtain⟨rfl,rfl,rfl⟩:=trodAll_nil r3;obtain rfl:args= #[v0,v1,v2,v3]:=by cases args;simp_all
 obtain⟨fu0,h0⟩:=h0;obtain⟨(l:List V.al),D0⟩:=V.Un (V.Gt hsh) _ _ _ _ _ h0;obtain⟨A,c,cs,e1,hl,_⟩:=V.aC.inv D0;obtain rfl:=I0 Tryz.underlying86 (hval 0 86 v0 rfl rfl) e1;obtain⟨fu1,h1⟩:=h1;obtain⟨(a:Int),D1⟩:=V.o3 _ _ _ _ _ h1;obtain rfl:=xA Tryz.underlying3 (hval 1 3 v1 rfl rfl) (V.aC.inv (s:= .int .i64) D1).1;obtain⟨fu2,h2⟩:=h2;obtain⟨(b:Int),D2⟩:=V.o3 _ _ _ _ _ h2;obtain rfl:=xA Tryz.underlying3 (hval 2 3 v2 rfl rfl) (V.aC.inv (s:= .int .i64) D2).1;obtain⟨fu3,h3⟩:=h3;obtain⟨(v:V.aB),D3⟩:=V.So (V.Gt hsh) _ _ _ _ _ h3;have e3:=Ew (show ba Tryz.prog 81≠none by rw[show ba Tryz.prog 81=some 3 by kernel_rfl];exact fun h=>nomatch h) (hval 3 81 v3 rfl rfl) rfl;have hv3: ∀(F:V.ao) (ρ:Nat→V.Rz),V.cM (@V.Vw F V.U V.gB W ρ 0 []) ⟨true,[(3,.d (.st 7) v)]⟩ v3:=fun F ρ=>⟨v3.cells.toList,e3,v3.cells.toList,[],(List.append_nil _).symm,V.aC.length D3,D3,rfl⟩;have hg:V.Gv W:=Tryz.laysM219.s1_3 W hsh;exact V.EB V.k5 hg (xs:= [⟨false,[(1,.d (.sl (.st 9)) l)]⟩,⟨false,[(1,.d (.int .i64) a)]⟩,⟨false,[(1,.d (.int .i64) b)]⟩,⟨true,[(3,.d (.st 7) v)]⟩]) (fun F ρ=>⟨_,_,rfl,V.gz D0,_,_,rfl,V.gz D1,_,_,rfl,V.gz D2,_,_,rfl,hv3 F ρ,rfl⟩) ⟨l,a,b,v,rfl,rfl,V.v8,rfl,rfl⟩
set_option maxRecDepth 100000 in
theorem mc(os:Os)(started:os.Started)(H:Type)(enc:TypeId×Value→H):
  ReturnsInHanded {} Tryz.checked os 5 .any (fun w args=>(Rows.axiomTurnedSpec.pre enc Tryz.prog Tryz.f5 Rows.axiomTurnedRow.domain false w args∧laidMetH Tryz.prog Rows.axiomTurnedRow.laid w)∧sizedMet enc Tryz.prog Tryz.f5 (OpenSpec.ofChange Rows.axiomTurnedSpec) false w args) (Rows.axiomTurnedSpec.post enc Tryz.prog Tryz.f5 false true false false):=
 yx Tryz.func5 (by kernel_rfl) rfl rfl Tryz.underlying4 (by kernel_rfl) (fun H ds h=>by
  match ds,h with
  | [a0,a1,a2,a3],_=>rfl) nO os started H enc
  (ChangeSpec.witness_shaped (enc:=enc) (C:=Tryz.checked) (os:=os) (X:=fun w _=>laidMetH Tryz.prog Rows.axiomTurnedRow.laid w) false (World.laidAll Tryz.prog os Rows.axiomTurnedRow.laid) #[.slice none 0 0,.int .i64 0,.int .i64 0,.agg #[.int .i64 0,.int .i64 0,.slice none 0 0]] 8 (World.laidAll_os _ _ _)
   (World.shaped_of_ZipB (by kernel_rfl) (by kernel_rfl)) (by kernel_rfl) (by kernel_rfl) (by kernel_rfl)
   (by rw[MakeChecks.laidMetH_plain _ _ _ (by kernel_rfl)];exact laidMet_laidAll _ (by kernel_rfl) (by kernel_rfl)))
theorem nP:Rows.AxiomTurnedSaid:=
 OpenClaim.holds_of_wide 5 Tryz.f5 rfl rfl rfl rfl rfl rfl rfl ⟨rfl,rfl,rfl,rfl,rfl⟩ rfl rfl rfl rfl rfl (by kernel_rfl) Tryz.func5 (by kernel_rfl)
  (of_decide_eq_true (by kernel_rfl)) (by unfold Func.isWrapper;first|(rw[if_pos (by decide+kernel)];kernel_rfl)|(rw[if_neg (by decide+kernel)];exact⟨rfl,rfl⟩))
  (fun os started H enc _=>mc os started H enc)
theorem axiomTurned_holds:Rows.AxiomTurnedCardSaid:=
 Claim7.holds_tied_plain_at .later [] Rows.axiomTurnedCard.laidKinds true Rows.axiomTurnedCard.stood.harness Rows.axiomTurnedCard.stood.looks nP (fun _ h=>by cases h) (by kernel_rfl) (fun _ h=>by cases h) axiomTurned_row_tie rfl ⟨rfl,rfl⟩ (by kernel_rfl) rfl
  (fun f fn hf hfn=>by
   obtain rfl:f=5:=Option.some.inj ((show Tryz.prog.funcNamed Rows.axiomTurnedRow.func=some 5 by kernel_rfl).symm.trans hf)|>.symm;obtain rfl:fn=Tryz.f5:=(Option.some.inj (Tryz.func5.symm.trans hfn)).symm;exact⟨by kernel_rfl,fun j t ht=>by
    rw[Tryz.params5]at ht;have hm:t∈ [86,3,3,81]:=by simpa using Array.mem_of_getElem? ht
    have hall:([86,3,3,81].all fun u=>!Tryz.prog.wantsStandIn u)=true:=by kernel_rfl
    exact(show Tryz.prog.wantsStandIn t=false by simpa using List.all_eq_true.1 hall t hm)⟩)
  (by kernel_rfl)
#print axioms axiomTurned_holds
end Go.Proofs.YtmpeiadlohbikaaGreatDoor

/- The statement: VersTrims. -/
import Derived.Test.YtiliglahlfkikaaGreatDoorYt23
import Derived.Test.YtiliglahlfkikaaGreatDoorYt24
set_option linter.unusedVariables false
set_option linter.unusedSimpArgs false
namespace Go.Proofs.YtiliglahlfkikaaGreatDoor
open Go.ChangeShapes Go.WideShapes Go.ChangeAt Go.RowKit Go.Joins
set_option maxRecDepth 100000 in
theorem oG(W:World)(args:Array Value)(h:zl Tryz.f5 W args)(hsh:W.ShapedOpen Tryz.prog)(hL:laidMetH Tryz.prog Rows.versTrimsRow.laid W):Fn Tryz.prog 5 args.toList W fun v w'=>v= .bool true∧Fr [] W w':=by
 obtain⟨H,enc,base,ds,p,hval,hA,_⟩:=h;rw[Tryz.params5]at hA hval;obtain⟨v0,D5,d0,ds0,p0,q0,hargs,rfl,rfl,h0,r0⟩:=trodAll_cons hA;obtain⟨v1,u4,d1,ds1,p1,q1,rfl,rfl,rfl,h1,r1⟩:=trodAll_cons r0;obtain⟨v2,HY,d2,ds2,p2,q2,rfl,rfl,rfl,h2,r2⟩:=trodAll_cons r1;obtain⟨v3,D4,d3,ds3,p3,q3,rfl,rfl,rfl,h3,r3⟩:=trodAll_cons r2;obtain⟨rfl,rfl,rfl⟩:=trodAll_nil r3;obtain rfl:args= #[v0,v1,v2,v3]:=by cases args;simp_all
 obtain⟨fu0,h0⟩:=h0;obtain⟨(key:List UInt8),D0⟩:=V.o9 _ _ _ _ _ h0;obtain rfl:=CD Tryz.underlying9 (hval 0 9 v0 rfl rfl) (V.aD.inv D0).1;obtain⟨fu1,h1⟩:=h1;obtain⟨(l:List V.ab),D1⟩:=V.Qu (V.IU hsh) _ _ _ _ _ h1;obtain⟨A,c,cs,e1,hl,_⟩:=V.aD.inv D1;obtain rfl:=Gz Tryz.underlying42 (hval 1 42 v1 rfl rfl) e1;obtain⟨fu2,h2⟩:=h2;obtain⟨(v:List Int),D2⟩:=V.Ov _ _ _ _ _ h2;have e2:=wb (show aW Tryz.prog 41≠none by rw[show aW Tryz.prog 41=some 8 by kernel_rfl];exact fun h=>nomatch h) (hval 2 41 v2 rfl rfl) rfl;obtain⟨fu3,h3⟩:=h3;obtain⟨(w:List Int),D3⟩:=V.Ov _ _ _ _ _ h3;have e3:=wb (show aW Tryz.prog 41≠none by rw[show aW Tryz.prog 41=some 8 by kernel_rfl];exact fun h=>nomatch h) (hval 3 41 v3 rfl rfl) rfl;have hg:V.Gv W:=Tryz.laysM219.s1_3 W hsh;have hw: ∀o∈l,V.ip o:=fun o ho=>by
  obtain⟨us,hu⟩:=V.aQ.mem hl o ho;exact V.CJ hu
 have hv2: ∀(F:V.ao) (ρ:Nat→V.Rz),V.cP (@V.Vw F V.U V.gB W ρ 0 []) ⟨true,[(8,.d (.arr 8 (.int .u32)) v)]⟩ v2:=fun F ρ=>⟨v2.cells.toList,e2,v2.cells.toList,[],(List.append_nil _).symm,V.aD.length D2,D2,rfl⟩;have hv3: ∀(F:V.ao) (ρ:Nat→V.Rz),V.cP (@V.Vw F V.U V.gB W ρ 0 []) ⟨true,[(8,.d (.arr 8 (.int .u32)) w)]⟩ v3:=fun F ρ=>⟨v3.cells.toList,e3,v3.cells.toList,[],(List.append_nil _).symm,V.aD.length D3,D3,rfl⟩;have i2:=V.aD.inv (s:= .arr 8 (.int .u32)) D2;have i3:=V.aD.inv (s:= .arr 8 (.int .u32)) D3;have h0: ∀x∈v,0≤x:=fun x hx=>by
  obtain⟨us,hu⟩:=V.aQ.mem i2.1 x hx;exact(V.aD.inv (s:= .int .u32) hu).2.1
 exact V.CF V.k5 hg (xs:= [⟨false,[(1,.d .str key)]⟩,⟨false,[(1,.d (.sl (.st 3)) l)]⟩,⟨true,[(8,.d (.arr 8 (.int .u32)) v)]⟩,⟨true,[(8,.d (.arr 8 (.int .u32)) w)]⟩]) (fun F ρ=>⟨_,_,rfl,V.ia D0,_,_,rfl,V.ia D1,_,_,rfl,hv2 F ρ,_,_,rfl,hv3 F ρ,rfl⟩) ⟨key,l,v,w,rfl,rfl,by rw[V.pF key l v w hw i2.2 i3.2 h0];exact⟨rfl,rfl⟩⟩
set_option maxRecDepth 100000 in
theorem mV(os:Os)(started:os.Started)(H:Type)(enc:TypeId×Value→H):
  ReturnsInHanded {} Tryz.checked os 5 .any (fun w args=>(Rows.versTrimsSpec.pre enc Tryz.prog Tryz.f5 Rows.versTrimsRow.domain false w args∧laidMetH Tryz.prog Rows.versTrimsRow.laid w)∧sizedMet enc Tryz.prog Tryz.f5 (OpenSpec.ofChange Rows.versTrimsSpec) false w args) (Rows.versTrimsSpec.post enc Tryz.prog Tryz.f5 false true false false):=
 xk Tryz.func5 (by kernel_rfl) rfl rfl Tryz.underlying4 (by kernel_rfl) (fun H ds h=>by
  match ds,h with
  | [a0,a1,a2,a3],_=>rfl) oG os started H enc
  (ChangeSpec.witness_shaped (enc:=enc) (C:=Tryz.checked) (os:=os) (X:=fun w _=>laidMetH Tryz.prog Rows.versTrimsRow.laid w) false (World.laidAll Tryz.prog os Rows.versTrimsRow.laid) #[sv [],.slice none 0 0,.agg #[.int .u32 0,.int .u32 0,.int .u32 0,.int .u32 0,.int .u32 0,.int .u32 0,.int .u32 0,.int .u32 0],.agg #[.int .u32 0,.int .u32 0,.int .u32 0,.int .u32 0,.int .u32 0,.int .u32 0,.int .u32 0,.int .u32 0]] 8 (World.laidAll_os _ _ _)
   (World.shaped_of_ZipB (by kernel_rfl) (by kernel_rfl)) (by kernel_rfl) (by kernel_rfl) (by kernel_rfl)
   (by rw[MakeChecks.laidMetH_plain _ _ _ (by kernel_rfl)];exact laidMet_laidAll _ (by kernel_rfl) (by kernel_rfl)))
theorem oH:Rows.VersTrimsSaid:=
 OpenClaim.holds_of_wide 5 Tryz.f5 rfl rfl rfl rfl rfl rfl rfl ⟨rfl,rfl,rfl,rfl,rfl⟩ rfl rfl rfl rfl rfl (by kernel_rfl) Tryz.func5 (by kernel_rfl)
  (of_decide_eq_true (by kernel_rfl)) (by unfold Func.isWrapper;first|(rw[if_pos (by decide+kernel)];kernel_rfl)|(rw[if_neg (by decide+kernel)];exact⟨rfl,rfl⟩))
  (fun os started H enc _=>mV os started H enc)
theorem versTrims_holds:Rows.VersTrimsCardSaid:=
 Claim7.holds_tied_plain_at .later [] Rows.versTrimsCard.laidKinds true Rows.versTrimsCard.stood.harness Rows.versTrimsCard.stood.looks oH (fun _ h=>by cases h) (by kernel_rfl) (fun _ h=>by cases h) versTrims_row_tie rfl ⟨rfl,rfl⟩ (by kernel_rfl) rfl
  (fun f fn hf hfn=>by
   obtain rfl:f=5:=Option.some.inj ((show Tryz.prog.funcNamed Rows.versTrimsRow.func=some 5 by kernel_rfl).symm.trans hf)|>.symm;obtain rfl:fn=Tryz.f5:=(Option.some.inj (Tryz.func5.symm.trans hfn)).symm;exact⟨by kernel_rfl,fun j t ht=>by
    rw[Tryz.params5]at ht;have hm:t∈ [9,42,41,41]:=by simpa using Array.mem_of_getElem? ht
    have hall:([9,42,41,41].all fun u=>!Tryz.prog.wantsStandIn u)=true:=by kernel_rfl
    exact(show Tryz.prog.wantsStandIn t=false by simpa using List.all_eq_true.1 hall t hm)⟩)
  (by kernel_rfl)
#print axioms versTrims_holds
end Go.Proofs.YtiliglahlfkikaaGreatDoor

/- The statement: VersAnyhow. -/
import Derived.Test.YtiliglahlfkikaaGreatDoorYa22
import Derived.Test.YtiliglahlfkikaaGreatDoorYa23
set_option linter.unusedVariables false
set_option linter.unusedSimpArgs false
namespace Go.Proofs.YtiliglahlfkikaaGreatDoor
open Go.ChangeShapes Go.WideShapes Go.ChangeAt Go.RowKit Go.Joins
set_option maxRecDepth 100000 in
theorem mf(W:World)(args:Array Value)(h:xV Tryz.f4 W args)(hsh:W.ShapedOpen Tryz.prog)(hL:laidMetH Tryz.prog Rows.versAnyhowRow.laid W):Fn Tryz.prog 4 args.toList W fun v w'=>v= .bool true∧Fr [] W w':=by
 obtain⟨H,enc,base,ds,p,hval,hA,_⟩:=h;rw[Tryz.params4]at hA hval;obtain⟨v0,Cp,d0,ds0,p0,q0,hargs,rfl,rfl,h0,r0⟩:=trodAll_cons hA;obtain⟨v1,tB,d1,ds1,p1,q1,rfl,rfl,rfl,h1,r1⟩:=trodAll_cons r0;obtain⟨v2,Gd,d2,ds2,p2,q2,rfl,rfl,rfl,h2,r2⟩:=trodAll_cons r1;obtain⟨rfl,rfl,rfl⟩:=trodAll_nil r2;obtain rfl:args= #[v0,v1,v2]:=by cases args;simp_all
 obtain⟨fu0,h0⟩:=h0;obtain⟨(key:List UInt8),D0⟩:=V.o9 _ _ _ _ _ h0;obtain rfl:=A6 Tryz.underlying9 (hval 0 9 v0 rfl rfl) (V.aC.inv D0).1;obtain⟨fu1,h1⟩:=h1;obtain⟨(l:List V.ab),D1⟩:=V.OM (V.G2 hsh) _ _ _ _ _ h1;obtain⟨A,c,cs,e1,hl,_⟩:=V.aC.inv D1;obtain rfl:=ER Tryz.underlying42 (hval 1 42 v1 rfl rfl) e1;obtain⟨fu2,h2⟩:=h2;obtain⟨(v:List Int),D2⟩:=V.OL _ _ _ _ _ h2;have e2:=A5 (show aV Tryz.prog 41≠none by rw[show aV Tryz.prog 41=some 8 by kernel_rfl];exact fun h=>nomatch h) (hval 2 41 v2 rfl rfl) rfl;have hg:V.Gv W:=Tryz.laysM219.s1_3 W hsh;have hw: ∀o∈l,V.jj o:=fun o ho=>by
  obtain⟨us,hu⟩:=V.aN.mem hl o ho;exact V.Ba hu
 have hv2: ∀(F:V.ao) (ρ:Nat→V.Rz),V.cx (@V.Vw F V.U V.gB W ρ 0 []) ⟨true,[(8,.d (.arr 8 (.int .u32)) v)]⟩ v2:=fun F ρ=>⟨v2.cells.toList,e2,v2.cells.toList,[],(List.append_nil _).symm,V.aC.length D2,D2,rfl⟩;exact V.A8 V.k4 hg (xs:= [⟨false,[(1,.d .str key)]⟩,⟨false,[(1,.d (.sl (.st 3)) l)]⟩,⟨true,[(8,.d (.arr 8 (.int .u32)) v)]⟩]) (fun F ρ=>⟨_,_,rfl,V.ga D0,_,_,rfl,V.ga D1,_,_,rfl,hv2 F ρ,rfl⟩) ⟨key,l,v,rfl,rfl,by rw[V.nz key l v hw];exact⟨rfl,rfl⟩⟩
set_option maxRecDepth 100000 in
theorem kU(os:Os)(started:os.Started)(H:Type)(enc:TypeId×Value→H):
  ReturnsInHanded {} Tryz.checked os 4 .any (fun w args=>(Rows.versAnyhowSpec.pre enc Tryz.prog Tryz.f4 Rows.versAnyhowRow.domain false w args∧laidMetH Tryz.prog Rows.versAnyhowRow.laid w)∧sizedMet enc Tryz.prog Tryz.f4 (OpenSpec.ofChange Rows.versAnyhowSpec) false w args) (Rows.versAnyhowSpec.post enc Tryz.prog Tryz.f4 false true false false):=
 vE Tryz.func4 (by kernel_rfl) rfl rfl Tryz.underlying4 (by kernel_rfl) (fun H ds h=>by
  match ds,h with
  | [a0,a1,a2],_=>rfl) mf os started H enc
  (ChangeSpec.witness_shaped (enc:=enc) (C:=Tryz.checked) (os:=os) (X:=fun w _=>laidMetH Tryz.prog Rows.versAnyhowRow.laid w) false (World.laidAll Tryz.prog os Rows.versAnyhowRow.laid) #[sv [],.slice none 0 0,.agg #[.int .u32 0,.int .u32 0,.int .u32 0,.int .u32 0,.int .u32 0,.int .u32 0,.int .u32 0,.int .u32 0]] 8 (World.laidAll_os _ _ _)
   (World.shaped_of_ZipB (by kernel_rfl) (by kernel_rfl)) (by kernel_rfl) (by kernel_rfl) (by kernel_rfl)
   (by rw[MakeChecks.laidMetH_plain _ _ _ (by kernel_rfl)];exact laidMet_laidAll _ (by kernel_rfl) (by kernel_rfl)))
theorem mh:Rows.VersAnyhowSaid:=
 OpenClaim.holds_of_wide 4 Tryz.f4 rfl rfl rfl rfl rfl rfl rfl ⟨rfl,rfl,rfl,rfl,rfl⟩ rfl rfl rfl rfl rfl (by kernel_rfl) Tryz.func4 (by kernel_rfl)
  (of_decide_eq_true (by kernel_rfl)) (by unfold Func.isWrapper;first|(rw[if_pos (by decide+kernel)];kernel_rfl)|(rw[if_neg (by decide+kernel)];exact⟨rfl,rfl⟩))
  (fun os started H enc _=>kU os started H enc)
theorem versAnyhow_holds:Rows.VersAnyhowCardSaid:=
 Claim7.holds_tied_plain_at .later [] Rows.versAnyhowCard.laidKinds true Rows.versAnyhowCard.stood.harness Rows.versAnyhowCard.stood.looks mh (fun _ h=>by cases h) (by kernel_rfl) (fun _ h=>by cases h) versAnyhow_row_tie rfl ⟨rfl,rfl⟩ (by kernel_rfl) rfl
  (fun f fn hf hfn=>by
   obtain rfl:f=4:=Option.some.inj ((show Tryz.prog.funcNamed Rows.versAnyhowRow.func=some 4 by kernel_rfl).symm.trans hf)|>.symm;obtain rfl:fn=Tryz.f4:=(Option.some.inj (Tryz.func4.symm.trans hfn)).symm;exact⟨by kernel_rfl,fun j t ht=>by
    rw[Tryz.params4]at ht;have hm:t∈ [9,42,41]:=by simpa using Array.mem_of_getElem? ht
    have hall:([9,42,41].all fun u=>!Tryz.prog.wantsStandIn u)=true:=by kernel_rfl
    exact(show Tryz.prog.wantsStandIn t=false by simpa using List.all_eq_true.1 hall t hm)⟩)
  (by kernel_rfl)
#print axioms versAnyhow_holds
end Go.Proofs.YtiliglahlfkikaaGreatDoor

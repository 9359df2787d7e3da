/- Calls are right. -/
import Derived.Test.YtfgofabojepcmaaGreatDoorSp0
import Derived.Test.YtfgofabojepcmaaGreatDoorSp8
section
set_option linter.unusedVariables false
namespace Go.Proofs.YtfgofabojepcmaaGreatDoor
open Go.RowKit
def wv(P:Program)(f:FuncId)(args:List Value)(w:World)(Post PP:Value→World→Prop):Prop:=bI P f=true∧Calls P f args.toArray w fun e w'=>(∃v,e= .returned v∧Post v w')∨ ∃v,e= .panicked [{v:=v,recovered:=false}]∧PP v w'
theorem Fn.p{P:Program}{f:FuncId}{args:List Value}{w:World}{Post PP:Value→World→Prop}(h:Fn P f args w Post):wv P f args w Post PP:=⟨h.1,Calls.mono h.2 fun _ _ h=> .inl h⟩
theorem wv.mono{P:Program}{f:FuncId}{args:List Value}{w:World}{Post Post' PP PP':Value→World→Prop}(h:wv P f args w Post PP)(hp: ∀v w',Post v w'→Post' v w')(hq: ∀v w',PP v w'→PP' v w'):wv P f args w Post' PP':=
 ⟨h.1,Calls.mono h.2 fun _ _ h=>h.imp (fun⟨v,he,hv⟩=>⟨v,he,hp _ _ hv⟩) (fun⟨v,he,hv⟩=>⟨v,he,hq _ _ hv⟩)⟩
theorem nT{P:Program}{o:Oper}{n:Nat} [bF]{env:aK}{a:Act}{w:World}{f:FuncId}{xs:List Operand}{ts:Array TypeId}{vs:List Value}(h1:bI P f=true)(ho:o.op= .call {callee:= .value (.func f),args:=xs.toArray,argTypes:=ts})(hx:env.evs xs=some vs)(r:gj n env a):(execOp a.eval o).run P w= .ok (.enter f vs.toArray) w:=by
 have e:(xs.toArray.map a.eval)=vs.toArray:=by rw[List.map_toArray,r.evals hx]
 unfold bI at h1;cases hq:P.funcs[f]? with
 |none=>simp[hq]at h1
 |some fn=>
  simp only[hq,Bool.and_eq_true,Bool.not_eq_true',beq_eq_false_iff_ne]at h1;obtain⟨h2,h3⟩:=h1;have h4: ¬fn.body=none:=by intro hbb;simp[hbb]at h3
  unfold execOp;simp only[ho,resolve,e,Act.eval,Deferred.ofValue,Sem.run_bind,Sem.run_pure,Result.andThen_ok,invoke];simp[callFunc,hq,h2,h4]
class lV where
 pe:aK
instance(priority:=100) pes0:lV:=⟨[]⟩
section
variable [bF] {P:Program} {n:Nat} {Q:EQ} {env:aK} {w:World} {ops:Array Oper} {o:Oper} {rest:List Oper}
theorem J1{f:FuncId}{xs:List Operand}{ts:Array TypeId}{vs:List Value}{Post PP:Value→World→Prop}(hw:lH n env ops o true)(ho:o.op= .call {callee:= .value (.func f),args:=xs.toArray,argTypes:=ts})(hd:(o.dst.all (Nat.blt · n))=true)
  (hx:env.evs xs=some vs) (hc:wv P f vs w Post PP) (hk: ∀v w',Post v w'→Ls P n ops Q rest (env.dst o.dst v) w') (hp: ∀v w',PP v w'→ ∃env',aK.Le env' env∧Q (.panic [{v:=v,recovered:=false}]) env' w'):Ls P n ops Q (o::rest) env w:=fun hnd a r=>
 wpListIn_step fun K hK=>by
  rw[if_pos (hw a r)];refine lY (tf hnd) ?_;unfold Oper.wp;rw[nT hc.1 ho hx r];refine Calls.mono hc.2 fun e w' he=>?_;rcases he with⟨v,rfl,hv⟩|⟨v,rfl,hv⟩
  ·exact hK _ _ (hk v w' hv (m5 hnd) _ (r.dst hd v))
  ·obtain⟨env',h1,h2⟩:=hp v w' hv;exact⟨env',r.weak h1,h2⟩
end
end Go.Proofs.YtfgofabojepcmaaGreatDoor
end

section
set_option linter.unusedVariables false
set_option linter.unusedSimpArgs false
namespace Go.Proofs.YtfgofabojepcmaaGreatDoor.V
open Go.RowKit
section
variable [F:al] {U:bJ} {P:Program} {nt:Nat} {T:cH U} {G:bS U} {X:List Nat} {w w':World} {ρ ρ':Nat→Rz} {n:Nat} {H:Hs U} {R e:En U} {ce:aK} {o:Oper} {L:List Nat} {z:Bool} {es:List (aN U)}
theorem jX(hl:es.length=L.length)(hes: ∀(j i:Nat),L[j]? =some i→ ∃x y,aB H i=some x∧es[j]? =some y∧mu U X w ρ n H z L x y): ∀p∈aJ 0 es,∀g,Lv (fm ρ L) p g→ ∃i x,L[p.1]? =some i∧aB H i=some x∧Lv ρ (i,x) g:=fun p hp g hg=>by
 have h1:=du.1 hp;have hj:=bC h1;obtain⟨x,y,h2,h3,h4⟩:=hes p.1 _ (List.getElem?_eq_getElem (by omega));rw[h1]at h3;injection h3 with h3;subst h3;exact⟨_,x,List.getElem?_eq_getElem (by omega),h2,DG (List.getElem?_eq_getElem (by omega)) h4 hg⟩
theorem ep(hl:es.length=L.length)(hes: ∀(j i:Nat),L[j]? =some i→ ∃x y,aB H i=some x∧es[j]? =some y∧mu U X w ρ n H z L x y): ∀g∈aj (fm ρ L) (aJ 0 es),g∈aj ρ H:=fun g hg=>by
 obtain⟨p,hp,hg⟩:=az.1 hg;obtain⟨i,x,_,h2,h3⟩:=jX hl hes p hp g hg;exact az.2 ⟨_,af h2,h3⟩
theorem qZ(hl:es.length=L.length)(hes: ∀(j i:Nat),L[j]? =some i→ ∃x y,aB H i=some x∧es[j]? =some y∧mu U X w ρ n H z L x y): ∀g∈aj (fm ρ L) (aJ 0 es)++Xo ρ H X (fm ρ L) (aJ 0 es),g∈aj ρ H++X:=fun g hg=>by
 rcases List.mem_append.1 hg with hg|hg
 ·exact List.mem_append_left _ (ep hl hes g hg)
 ·exact(List.mem_filter.1 hg).1
omit [al]in
theorem x9.inst{F0:al} [F:al](hx: ∀z∈F0.xf,z∈al.xf)(hp:F0.pr=al.pr){Y:List Nat}{S:World→Prop}{u:Value}{a:bj}{g:TT U.ty a→Bool}(h: @x9 F0 U Y S u a g):x9 U Y S u a g:=⟨h.1,fun w hw w2 hl=>by
 obtain⟨O,h1,h2⟩:=hl;rw[←hp];exact h.2 w hw w2 ⟨O,h1,fun o ho=>⟨fun hz=>(h2 o ho).1 (hx o hz),(h2 o ho).2⟩⟩⟩
omit [al]in
theorem ya.inst{F0:al} [F:al](hx: ∀z∈F0.xf,z∈al.xf)(hp:F0.pr=al.pr){Y:List Nat}{S:World→Prop}{u:Value}{a b:bj}{g:TT U.ty a→TT U.ty b→Int}(h: @ya F0 U Y S u a b g):ya U Y S u a b g:=⟨h.1,fun w hw w2 hl=>by
 obtain⟨O,h1,h2⟩:=hl;rw[←hp];exact h.2 w hw w2 ⟨O,h1,fun o ho=>⟨fun hz=>(h2 o ho).1 (hx o hz),(h2 o ho).2⟩⟩⟩
omit [al]in
theorem aV.inst{F0:al} [F:al](hx: ∀z∈F0.xf,z∈al.xf)(hp:F0.pr=al.pr){Y:List Nat}{S:World→Prop}{x:Cx U}{vs:List Value}(h: @aV F0 U Y S ρ n H x vs):aV U Y S ρ n H x vs:=by
 cases x with
 |f1 a g=>obtain⟨u,e,hf⟩:=h;exact⟨u,e,hf.inst hx hp⟩
 |f2 a b g=>obtain⟨u,e,hf⟩:=h;exact⟨u,e,hf.inst hx hp⟩
 |_=>exact h
omit [al]in
theorem rY.inst{F0:al} [F:al](hp:F0.pr=al.pr){d:KD U}(h: @rY F0 U d):rY U d:=by unfold rY at*;rw[←hp];exact h
omit [al]in
theorem sf{F0:al} [F:al](M:qY U F0 X w ρ n H)(hx: ∀z∈F0.xf,z∈al.xf)(qG:F0.pr=al.pr)(hxo: ∀z∈al.xf,z∈Xo ρ H X (fm ρ L) (aJ 0 es))(hL:L.Nodup)(hl:es.length=L.length)(hes: ∀(j i:Nat),L[j]? =some i→ ∃x y,aB H i=some x∧es[j]? =some y∧mu U X w ρ n H z L x y):bd U (Xo ρ H X (fm ρ L) (aJ 0 es)) (· =w) (fm ρ L) es.length (aJ 0 es):=by
 have hY:=qZ hl hes;have mv:Mv (aj ρ H++X) (· =w) (aj (fm ρ L) (aJ 0 es)++Xo ρ H X (fm ρ L) (aJ 0 es)) (· =w):=fun w2 h2=>⟨w2,[],h2,Fr.refl _ _,fun _ h=>(by cases h),fun y hy=> .inl (hY y hy)⟩;have rel:=gX.of hl hes;refine⟨by rw[mr];exact List.nodup_range',fun p hp=>bC (du.1 hp),fun p hp=>?_,fun p hp q hq g h1 h2=>?_,fun g hg hx=>?_,fun w2 h2 g hg=>?_,fun z hz=>?_,⟨fun z hz=>hx z (M.gv.1 z hz),M.gv.2⟩⟩
 ·have h1:=du.1 hp;have hj:=bC h1;have hLj:L[p.1]? =some L[p.1]:=List.getElem?_eq_getElem (by omega);obtain⟨x,y,h2,h3,h4⟩:=hes p.1 _ hLj;rw[h1]at h3;injection h3 with h3;have hx:=M.ent _ (af h2);rw[h3];cases x with
  |cells l t=>
   obtain⟨l',rfl,hc⟩:=h4;obtain⟨g,vs,hA,hs,hw⟩:=hx;exact⟨g,vs,by rw[bQ hLj];exact hA,hc es _ hY rel vs (hs.imp fun _ _ h=>aV.inst hx qG h),hw⟩
  |row v s xs t=>
   obtain⟨hm,cs,sp,hd,ho,hw⟩:=hx;rw[show y=_ from h4];exact⟨hm,cs,sp,ba.mv mv hd,by rw[bQ hLj];exact ho,fun g hg=>by rw[bQ hLj]at hg;exact hw g hg⟩
  |map d l=>
   obtain⟨hk,g,es',clock,m,hA,hm,hd,hw⟩:=hx;rw[show y=_ from h4];exact⟨rY.inst qG hk,g,es',clock,m,by rw[bQ hLj];exact hA,hm,aH.mv mv hd,hw⟩
  |mapr d l left cur gh=>
   obtain⟨hk,g,es',clock,m,lv,cv,hA,hm,hd,hl,hc,hw⟩:=hx;rw[show y=_ from h4];exact⟨rY.inst qG hk,g,es',clock,m,by rw[bQ hLj];exact hA,hm.ok,aH.mv mv hd,hw⟩
  |ext v d xs op=>cases op with
   |none=>
    obtain⟨C,hd,hw,_⟩:=hx;rw[show y=_ from h4];exact⟨C,by rw[bQ hLj];exact d.mv mv.fr hd,by rw[bQ hLj];exact hw,trivial⟩
   |some o=>rw[show y=_ from h4];trivial
  |_=>rw[show y=_ from h4];trivial
 ·obtain⟨i,x,a1,a2,a3⟩:=jX hl hes p hp g h1;obtain⟨k,y,b1,b2,b3⟩:=jX hl hes q hq g h2;have:=M.inj _ (af a2) _ (af b2) g a3 b3;simp only at this;subst this;exact(List.getElem?_inj (bC a1) hL).1 (a1.trans b1.symm)
 ·have:=(List.mem_filter.1 hx).2;simp at this;exact this hg
 ·subst h2;rcases List.mem_append.1 (List.mem_filter.1 hg).1 with h|h
  ·obtain⟨p,hp,h⟩:=az.1 h;exact M.olt p hp g h
  ·exact M.lo g h
 ·exact hxo z hz
def aQ(P:Program)(U:bJ)(f:FuncId)(c:bZ U):Prop:= ∀ [F:al],F.pr=P→ ∀X w ρ (es:List (aN U)) xs vs K,bd U X (· =w) ρ es.length (aJ 0 es)→bB (Vw U X w ρ es.length (aJ 0 es)) xs vs→c.run xs es K→
 Fn P f vs w fun v w'=> ∃r es' ρ',K r es'∧jg (Vw U X w' ρ' es'.length (aJ 0 es')) r v∧bd U X (· =w') ρ' es'.length (aJ 0 es')∧bP ρ es.length (aJ 0 es) w ρ' es'.length (aJ 0 es') w'
def BX(P:Program)(U:bJ)(bx:Int→Value)(f:FuncId)(c:bZ U):Prop:= ∀ [F:al],F.pr=P→ ∀X w ρ (es:List (aN U)) xs vs K,bd U X (· =w) ρ es.length (aJ 0 es)→bB (Vw U X w ρ es.length (aJ 0 es)) xs vs→c.run xs es K→
 wv P f vs w (fun v w'=> ∃r es' ρ',(∀z,r≠ .pan z)∧K r es'∧jg (Vw U X w' ρ' es'.length (aJ 0 es')) r v∧bd U X (· =w') ρ' es'.length (aJ 0 es')∧bP ρ es.length (aJ 0 es) w ρ' es'.length (aJ 0 es') w')
  (fun v w'=> ∃z,v=bx z∧ ∃es' ρ',K (.pan z) es'∧bd U X (· =w') ρ' es'.length (aJ 0 es')∧bP ρ es.length (aJ 0 es) w ρ' es'.length (aJ 0 es') w')
abbrev DH(P:Program)(U:bJ)(bx:Int→Value)(G:bS U):Prop:= ∀f c,aB G f=some c→BX P U bx f c
abbrev ay(P:Program)(U:bJ)(G:bS U):Prop:= ∀f c,aB G f=some c→aQ P U f c
abbrev c6 [al](P:Program)(U:bJ)(G:bS U):Prop:=al.pr=P∧ay P U G
omit [al]in
theorem Fr.sub{O Y:List Nat}{w2:World}(hf:Fr O w w2)(hO: ∀o∈O,o∈Y∨w.heap.size≤o):Fr Y w w2:=⟨hf.os,hf.tape,hf.output,hf.size,fun k hk hn=>hf.block k hk fun ho=>(hO k ho).elim hn fun h=>by omega⟩
theorem oA: ∀{js:List Nat} {H:Hs U} {K:Hs U→List (Va U)→Prop},yw T js H K→bd U X (· =w) ρ n H→ ∃H' caps,K H' caps∧bd U X (· =w) ρ n H'∧bP ρ n H w ρ n H' w∧CP H H'∧(∀j∈js,∃l t,aB H' j=some (.cells l t))∧
  ∀w2 O,Fr O w w2→(∀o∈O,o∈aj ρ H'++X∨w.heap.size≤o)→(∀j∈js,∀g,(ρ j).A=some ⟨g,0,none⟩→g∉O)→ ∀(F0:al) (ρ0:Nat→Rz),bB (@aV F0 U gB (· =w2) ρ0 0 []) caps (js.map fun j=>Value.pointer (ρ j).A)
 | [],H,K,h,M=>⟨H,[],h,M,M.stp0,CP.refl _,fun j hj=>(by cases hj),fun _ _ _ _ _ _ _=>rfl⟩
 |j::js,H,K,h,M=>by
  have h:(match aB H j with
   |some (.cells l t)=>(match aB T t with
    |some ti=>(match ti.sh with
     |some s=>i6 l H fun H l=>cQ 20 s l fun x=>yw T js H fun H r=>K H (⟨false,[(1,.pd s x)]⟩::r)
     |none=>False)
    |none=>False)
   |_=>False):=h
  split at h
  ·rename_i l t hl;split at h
   ·rename_i ti hti;split at h
    ·rename_i s hs;obtain⟨H1,l',⟨h,cp1⟩,M1,s1,c1⟩:=fa (ic h fun H' r cp _ h=>(⟨h,cp⟩:_∧CP H H')) M;obtain⟨x,h,hx⟩:=bt h;obtain⟨H2,caps,hK,M2,s2,cp2,cells,hcap⟩:=oA (js:=js) h M1;refine⟨H2,_,hK,M2,s1.trans s2,cp1.trans cp2,fun k hk=>?_,fun w2 O hf hO hj=>?_⟩
     ·rcases List.mem_cons.1 hk with rfl|hk
      ·exact⟨l,t,cp2 _ _ rfl (cp1 _ _ rfl hl)⟩
      ·exact cells k hk
     ·obtain⟨g,vs,hA,hsg,hw⟩:=M.ent _ (af hl);have hg:g∉O:=hj j (by simp) g hA;have hheap:=hw w rfl;have hd:=aG.mv (s2.mv (X:=X)) (hx _ _ _ _ _ _ (c1 _ hsg));have hd2:aG U gB (· =w2) s x vs:= @aG.mv ⟨[],al.pr⟩ U (aj ρ H2++X) gB (· =w) (· =w2) (fun w3 h3=>by
       subst h3;exact⟨w,_,rfl,Fr.sub hf hO,fun y hy=>⟨hy,fun h=>(by cases h)⟩,fun y hy=> .inl (List.mem_append_right _ (M.xs y (M.gv.1 y hy)))⟩) s x vs hd
      have gv0:=M.gv.1;have xd0:=M.xd;intro F0 ρ0;refine⟨_,_,rfl,?_,hcap w2 O hf hO (fun k hk=>hj k (by simp[hk])) F0 ρ0⟩;have hA:(ρ j).A=some ⟨g,0,none⟩:=hA;show ct _ _ (Value.pointer (ρ j).A)
      rw[hA];refine eD ⟨g,0,vs,rfl,hd2,fun w3 h3=>?_⟩;subst h3;intro i v hi;refine⟨g,0,rfl,fun hb=>xd0 g (az.2 ⟨_,af hl,(show ao (ρ j).A=some g by rw[hA];rfl)⟩) (gv0 g hb),?_⟩;have hb:w3.heap[g]? =some (Cl vs t):=by rw[hf.block g (bR hheap) hg];exact hheap
      rw[Nat.zero_add,cell_of_row w3 g i vs.toArray t (0,0) hb];simpa using hi
    ·exact h.elim
   ·exact h.elim
  ·exact h.elim
omit [al]in
theorem vE{F0:al}{Y:List Nat}{w2:World}{ρ0:Nat→Rz}{a:bj}{t:TT U.ty a}{vs:List Value}{v:Value}(hd:aG U Y (· =w2) a t vs)(hv:d9 (e8 a) v vs):ct (@aV F0 U Y (· =w2) ρ0 0 []) ⟨e8 a,[(aS U a,.d a t)]⟩ v:=by
 unfold ct;unfold d9 at hv;cases hag:e8 a with
 |true=>simp only[hag]at hv⊢;exact⟨vs,hv,vs,[],(List.append_nil _).symm,hd.length,hd,rfl⟩
 |false=>simp only[hag]at hv⊢;subst hv;exact⟨_,[],(List.append_nil _).symm,hd.length,hd,rfl⟩
omit [al]in
theorem FA{F0:al}(hx:F0.xf=gB){w2:World}{ρ0:Nat→Rz}(hg:Gv w2): @bd F0 U gB (· =w2) ρ0 ([]:List (aN U)).length (aJ 0 []):=
 ⟨List.nodup_nil,fun p hp=>(by cases hp),fun p hp=>(by cases hp),fun p hp=>(by cases hp),fun g hg=>(by cases hg),fun w3 h3 g hgm=>(by subst h3;exact hg.lt g hgm),fun z hz=>hx▸hz,⟨fun z hz=>hx▸hz,fun w3 h3=>by subst h3;exact hg⟩⟩
theorem oB{f:FuncId}{c:bZ U}{caps:List (Va U)}{a:bj}{g:TT U.ty a→Bool}{cvs:List Value}{Y:List Nat}(hC:aQ P U f c)(hpr:al.pr=P)(hgv:pJ (· =w))(hr:uO c caps a g)(hcap: ∀w2,jJ Y w w2→ ∀(F0:al) (ρ0:Nat→Rz),bB (@aV F0 U gB (· =w2) ρ0 0 []) caps cvs):x9 U Y (· =w) (.func (.func f) #[] cvs.toArray) a g:=⟨⟨f,cvs,rfl⟩,fun w1 hw1 w2 hl t vs v hd hv hdm=>by
 subst hw1;rw[hpr];refine nE.ofc cvs ?_;have:= @hC ⟨gB,P⟩ rfl gB w2 (fun _=>(rz none 0)) [] (⟨e8 a,[(aS U a,.d a t)]⟩::caps) (v::cvs) _ (FA rfl (by obtain⟨O,h1,h2⟩:=hl;exact(hgv.2 _ rfl).fr h1 fun o ho hb=>(h2 o ho).1 (hgv.1 o hb))) ⟨v,cvs,rfl,vE hd hv,hcap w2 hl _ _⟩ (yx (hr t) hdm);refine this.mono fun r w3 ⟨x,es',ρ',⟨e1,e2⟩,hav,M',st⟩=>?_;have hfr:= @bP.fr ⟨gB,P⟩ U _ _ _ _ _ _ _ _ st;subst e1;subst e2;have e: [r]= [Value.bool (g t)]:=aG.inv (show aG U _ _ .bool (g t) [r]from(show bK _ [(1,.d .bool (g t))] [r]from hav).one1.1);injection e with e;exact⟨e,hfr⟩⟩
theorem oC{f:FuncId}{c:bZ U}{caps:List (Va U)}{a b:bj}{g:TT U.ty a→TT U.ty b→Int}{cvs:List Value}{Y:List Nat}(hC:aQ P U f c)(hpr:al.pr=P)(hgv:pJ (· =w))(hr:uP c caps a b g)(hcap: ∀w2,jJ Y w w2→ ∀(F0:al) (ρ0:Nat→Rz),bB (@aV F0 U gB (· =w2) ρ0 0 []) caps cvs):ya U Y (· =w) (.func (.func f) #[] cvs.toArray) a b g:=⟨⟨f,cvs,rfl⟩,fun w1 hw1 w2 hl t vs v t' vs' v' hd hv hd' hv'=>by
 subst hw1;rw[hpr];refine nE.ofc cvs ?_;have:= @hC ⟨gB,P⟩ rfl gB w2 (fun _=>(rz none 0)) [] (⟨e8 a,[(aS U a,.d a t)]⟩::⟨e8 b,[(aS U b,.d b t')]⟩::caps) (v::v'::cvs) _ (FA rfl (by obtain⟨O,h1,h2⟩:=hl;exact(hgv.2 _ rfl).fr h1 fun o ho hb=>(h2 o ho).1 (hgv.1 o hb))) ⟨v,_,rfl,vE hd hv,v',cvs,rfl,vE hd' hv',hcap w2 hl _ _⟩ (hr t t');refine this.mono fun r w3 ⟨x,es',ρ',⟨e1,e2⟩,hav,M',st⟩=>?_;have hfr:= @bP.fr ⟨gB,P⟩ U _ _ _ _ _ _ _ _ st;subst e1;subst e2;have e:=aG.inv (show aG U _ _ (.int .i64) (g t t') [r]from(show bK _ [(1,.d (.int .i64) (g t t'))] [r]from hav).one1.1);obtain⟨e,hin⟩:=e;injection e with e;exact⟨e,hin,hfr⟩⟩
omit [al]in
theorem gc{f:FuncId}{K:bZ U→Prop}(h:nr G f K)(hG:ay P U G): ∃c,K c∧aQ P U f c:=by
 unfold nr at h;split at h
 ·rename_i c hc;exact⟨c,h,hG f c hc⟩
 ·exact h.elim
def Cv(U:bJ) [F:al](X:List Nat)(w:World)(ρ:Nat→Rz)(n:Nat)(H:Hs U)(x:Va U)(H':Hs U)(c:Cx U)(Z:List Nat):Prop:=bd U X (· =w) ρ n H'∧bP ρ n H w ρ n H' w∧CP H H'∧(∀j∈Z,∃l t,aB H' j=some (.cells l t))∧
 ∀F1:al,F1.pr=F.pr→(∀z∈F.xf,z∈F1.xf)→(∀j∈Z,∀g,(ρ j).A=some ⟨g,0,none⟩→g∈F1.xf)→ ∀v,ct (@Vw F U X w ρ n H) x v→ @aV F1 U (aj ρ H'++X) (· =w) ρ n H' c [v]
omit [al]in
theorem ze [F:al](hG:c6 P U G){a:bj}{x:Va U}{K:Hs U→(TT U.ty a→Bool)→List Nat→Prop}(h:yA T G a x H K)(M:bd U X (· =w) ρ n H): ∃H' g Z,K H' g Z∧Cv U X w ρ n H x H' (.f1 a g) Z:=by
 have gv0:=M.gv;unfold yA at h;split at h
 ·rename_i k f;obtain⟨c,⟨g,hr,hK⟩,hC⟩:=gc h hG.2;refine⟨H,g,[],hK,M,M.stp0,CP.refl _,fun j hj=>(by cases hj),fun F1 hp hx hz v hv=>?_⟩;have e:=(show bK _ [(k,.fn f)] [v]from hv).one1.1;have e: [v]= [Value.func (.func f) #[] #[]]:=e;injection e with e;subst e;exact⟨_,rfl,oB (cvs:= []) hC (hp.trans hG.1) ⟨fun z hz=>hx z (gv0.1 z hz),gv0.2⟩ hr fun _ _ _ _=>rfl⟩
 ·rename_i k f js;obtain⟨H1,caps,h,M1,s1,cp,cells,hcap⟩:=oA h M;obtain⟨c,⟨g,hr,hK⟩,hC⟩:=gc h hG.2;refine⟨H1,g,js,hK,M1,s1,cp,cells,fun F1 hp hx hz v hv=>?_⟩;have e:=(show bK _ [(k,.clo f js)] [v]from hv).one1.1;have e:=e.1;injection e with e;subst e;exact⟨_,rfl,oB hC (hp.trans hG.1) ⟨fun z hz=>hx z (gv0.1 z hz),gv0.2⟩ hr fun w2 ⟨O,hf,hO⟩ F0 ρ0=>hcap w2 O hf (fun o ho=>(hO o ho).2) (fun j hj g hA ho=>(hO g ho).1 (hz j hj g hA)) F0 ρ0⟩
 ·rename_i k a' g;split at h
  ·rename_i g' hc;obtain⟨e1,e2⟩:=df _ _ _ _ _ hc;subst e1;have e2:g=g':=eq_of_heq e2;subst e2;refine⟨H,g,[],h,M,M.stp0,CP.refl _,fun j hj=>(by cases hj),fun F1 hp hx hz v hv=>?_⟩;exact aV.inst hx hp.symm (show bK _ [(k,.f1 _ g)] [v]from hv).one1.1
  ·exact h.elim
 ·exact h.elim
omit [al]in
theorem zf [F:al](hG:c6 P U G){a b:bj}{x:Va U}{K:Hs U→(TT U.ty a→TT U.ty b→Int)→List Nat→Prop}(h:yB T G a b x H K)(M:bd U X (· =w) ρ n H): ∃H' g Z,K H' g Z∧Cv U X w ρ n H x H' (.f2 a b g) Z:=by
 have gv0:=M.gv;unfold yB at h;split at h
 ·rename_i k f;obtain⟨c,⟨g,hr,hK⟩,hC⟩:=gc h hG.2;refine⟨H,g,[],hK,M,M.stp0,CP.refl _,fun j hj=>(by cases hj),fun F1 hp hx hz v hv=>?_⟩;have e:=(show bK _ [(k,.fn f)] [v]from hv).one1.1;have e: [v]= [Value.func (.func f) #[] #[]]:=e;injection e with e;subst e;exact⟨_,rfl,oC (cvs:= []) hC (hp.trans hG.1) ⟨fun z hz=>hx z (gv0.1 z hz),gv0.2⟩ hr fun _ _ _ _=>rfl⟩
 ·rename_i k f js;obtain⟨H1,caps,h,M1,s1,cp,cells,hcap⟩:=oA h M;obtain⟨c,⟨g,hr,hK⟩,hC⟩:=gc h hG.2;refine⟨H1,g,js,hK,M1,s1,cp,cells,fun F1 hp hx hz v hv=>?_⟩;have e:=(show bK _ [(k,.clo f js)] [v]from hv).one1.1;have e:=e.1;injection e with e;subst e;exact⟨_,rfl,oC hC (hp.trans hG.1) ⟨fun z hz=>hx z (gv0.1 z hz),gv0.2⟩ hr fun w2 ⟨O,hf,hO⟩ F0 ρ0=>hcap w2 O hf (fun o ho=>(hO o ho).2) (fun j hj g hA ho=>(hO g ho).1 (hz j hj g hA)) F0 ρ0⟩
 ·rename_i k a' b' g;split at h
  ·rename_i g1 hc;obtain⟨e1,e2⟩:=df _ _ _ _ _ hc;subst e1;have e2:g=g1:=eq_of_heq e2;subst e2;split at h
   ·rename_i g2 hc2;obtain⟨e1,e2⟩:=df _ _ _ _ _ hc2;subst e1;have e2:g=g2:=eq_of_heq e2;subst e2;refine⟨H,g,[],h,M,M.stp0,CP.refl _,fun j hj=>(by cases hj),fun F1 hp hx hz v hv=>?_⟩;exact aV.inst hx hp.symm (show bK _ [(k,.f2 _ _ g)] [v]from hv).one1.1
   ·exact h.elim
  ·exact h.elim
 ·exact h.elim
omit [al]in
theorem aV.same{H1 H':Hs U}(nb: ∀g∈aj ρ H',g∈aj ρ H1∨w.heap.size≤g){F1:al}{c:Cx U}{vs:List Value}(hc:(∃a g,c= .f1 a g)∨ ∃a b g,c= .f2 a b g)(h: @aV F1 U (aj ρ H1++X) (· =w) ρ n H1 c vs): @aV F1 U (aj ρ H'++X) (· =w) ρ n H' c vs:=by
 have hl: ∀w2, @jJ F1 (aj ρ H'++X) w w2→ @jJ F1 (aj ρ H1++X) w w2:=fun w2 ⟨O,h1,h2⟩=>⟨O,h1,fun o ho=>⟨(h2 o ho).1,by
  rcases(h2 o ho).2 with h|h
  ·rcases List.mem_append.1 h with h|h
   ·exact(nb o h).imp (fun h=>List.mem_append_left _ h) id
   ·exact .inl (List.mem_append_right _ h)
  ·exact .inr h⟩⟩
 rcases hc with⟨a,g,rfl⟩|⟨a,b,g,rfl⟩
 ·obtain⟨u,e,hf,h⟩:=h;exact⟨u,e,hf,fun w1 h1 w2 h2=>by subst h1;exact h _ rfl w2 (hl w2 h2)⟩
 ·obtain⟨u,e,hf,h⟩:=h;exact⟨u,e,hf,fun w1 h1 w2 h2=>by subst h1;exact h _ rfl w2 (hl w2 h2)⟩
theorem sg{ag:Bool}{s:bj}{t:TT U.ty s}{Y:List Nat}{v:Value}(hd:aG U Y (· =w) s t v.cells.toList)(hv:d9 ag v v.cells.toList):ct (aV U Y (· =w) ρ n H) ⟨ag,[(aS U s,.d s t)]⟩ v:=by
 have hseg:bK (aV U Y (· =w) ρ n H) [(aS U s,.d s t)] v.cells.toList:=⟨_,[],(List.append_nil _).symm,hd.length,hd,rfl⟩;unfold ct;unfold d9 at hv;cases ag with
 |true=>exact⟨_,hv,hseg⟩
 |false=>exact hv▸hseg
omit [al]in
theorem kU [F:al](hG:c6 P U G): ∀{md:List Md} {xs:List (Va U)} {H:Hs U} {K:Hs U→List (Va U)→List Nat→Prop},C5 T G md xs H K→bd U X (· =w) ρ n H→ ∃H' xs' Z,K H' xs' Z∧bd U X (· =w) ρ n H'∧bP ρ n H w ρ n H' w∧CP H H'∧(∀j∈Z,∃l t,aB H' j=some (.cells l t))∧
  ∀F1:al,F1.pr=F.pr→(∀z∈F.xf,z∈F1.xf)→(∀j∈Z,∀g,(ρ j).A=some ⟨g,0,none⟩→g∈F1.xf)→ ∀vs,bB (@Vw F U X w ρ n H) xs vs→bB (@Vw F1 U X w ρ n H') xs' vs
 | [],xs,H,K,h,M=>⟨H,xs,[],h,M,M.stp0,CP.refl _,fun j hj=>(by cases hj),fun F1 hp hx hz vs hv=>bB.imp (fun _ _ h=>aV.inst hx hp.symm h) hv⟩
 |m::md,[],H,K,h,M=>⟨H,[],[],h,M,M.stp0,CP.refl _,fun j hj=>(by cases hj),fun F1 hp hx hz vs hv=>hv⟩
 | .n::md,x::xs,H,K,h,M=>by
  have h:C5 T G md xs H fun H r Z=>K H (x::r) Z:=h;obtain⟨H',xs',Z,h,M',s',cp,cells,c'⟩:=kU hG (md:=md) h M;have hs: ∀v,ct (Vw U X w ρ n H) x v→ct (Vw U X w ρ n H') x v:=fun v h1=>h1.imp fun _ _ h=>h.step s';refine⟨H',_,Z,h,M',s',cp,cells,fun F1 hp hx hz vs hv=>?_⟩;obtain⟨v,us,e1,h1,h2⟩:=hv;exact⟨v,us,e1,(hs v h1).imp fun _ _ h=>aV.inst hx hp.symm h,c' F1 hp hx hz _ h2⟩
 | .p _::md,x::xs,H,K,h,M=>by
  have h:C5 T G md xs H fun H r Z=>K H (x::r) Z:=h;obtain⟨H',xs',Z,h,M',s',cp,cells,c'⟩:=kU hG (md:=md) h M;have hs: ∀v,ct (Vw U X w ρ n H) x v→ct (Vw U X w ρ n H') x v:=fun v h1=>h1.imp fun _ _ h=>h.step s';refine⟨H',_,Z,h,M',s',cp,cells,fun F1 hp hx hz vs hv=>?_⟩;obtain⟨v,us,e1,h1,h2⟩:=hv;exact⟨v,us,e1,(hs v h1).imp fun _ _ h=>aV.inst hx hp.symm h,c' F1 hp hx hz _ h2⟩
 | .d s::md,x::xs,H,K,h,M=>by
  have h:i6 x.l H fun H l=>cQ 20 s l fun t=>C5 T G md xs H fun H r Z=>K H (⟨x.ag,[(aS U s,.d s t)]⟩::r) Z:=h;obtain⟨H1,l',⟨h,cp1⟩,M1,s1,c1⟩:=fa (ic h fun H' r cp _ h=>(⟨h,cp⟩:_∧CP H H')) M;obtain⟨t,h,ht⟩:=bt h;obtain⟨H',xs',Z,h,M',s',cp,cells,c'⟩:=kU hG (md:=md) h M1;have d1: ∀u,ct (Vw U X w ρ n H) x u→aG U (aj ρ H'++X) (· =w) s t u.cells.toList:=fun u hu=>aG.mv (s'.mv (X:=X)) (ht _ _ _ _ _ _ (c1 _ hu.cells));have hA: ∀u,ct (Vw U X w ρ n H) x u→d9 x.ag u u.cells.toList:=fun u hu=>ma hu;have hs: ∀us,bB (Vw U X w ρ n H) xs us→bB (Vw U X w ρ n H1) xs us:=fun us hu=>bB.imp (fun _ _ h=>h.step s1) hu;refine⟨H',_,Z,h,M',s1.trans s',cp1.trans cp,cells,fun F1 hp hx hz vs hv=>?_⟩;obtain⟨v,us,e1,h1,h2⟩:=hv;exact⟨v,us,e1,sg (d1 v h1) (hA v h1),c' F1 hp hx hz _ (hs _ h2)⟩
 | .f1 a::md,x::xs,H,K,h,M=>by
  have h:yA T G a x H fun H g js=>C5 T G md xs H fun H r Z=>K H (⟨false,[(1,.f1 a g)]⟩::r) (js++Z):=h;obtain⟨H1,g,js,h,M1,s1,cp1,cells1,cv⟩:=ze hG h M;obtain⟨H',xs',Z,h,M',s',cp,cells,c'⟩:=kU hG (md:=md) h M1;have hs: ∀us,bB (Vw U X w ρ n H) xs us→bB (Vw U X w ρ n H1) xs us:=fun us hu=>bB.imp (fun _ _ h=>h.step s1) hu;have nb:=s'.nb;refine⟨H',_,js++Z,h,M',s1.trans s',cp1.trans cp,fun j hj=>?_,fun F1 hp hx hz vs hv=>?_⟩
  ·rcases List.mem_append.1 hj with hj|hj
   ·obtain⟨l,t,hl⟩:=cells1 j hj;exact⟨l,t,cp _ _ rfl hl⟩
   ·exact cells j hj
  ·obtain⟨v,us,e1,h1,h2⟩:=hv;refine⟨v,us,e1,eD ?_,c' F1 hp hx (fun j hj=>hz j (List.mem_append_right _ hj)) _ (hs _ h2)⟩;exact aV.same nb (.inl ⟨_,_,rfl⟩) (cv F1 hp hx (fun j hj=>hz j (List.mem_append_left _ hj)) v h1)
 | .f2 a b::md,x::xs,H,K,h,M=>by
  have h:yB T G a b x H fun H g js=>C5 T G md xs H fun H r Z=>K H (⟨false,[(1,.f2 a b g)]⟩::r) (js++Z):=h;obtain⟨H1,g,js,h,M1,s1,cp1,cells1,cv⟩:=zf hG h M;obtain⟨H',xs',Z,h,M',s',cp,cells,c'⟩:=kU hG (md:=md) h M1;have hs: ∀us,bB (Vw U X w ρ n H) xs us→bB (Vw U X w ρ n H1) xs us:=fun us hu=>bB.imp (fun _ _ h=>h.step s1) hu;have nb:=s'.nb;refine⟨H',_,js++Z,h,M',s1.trans s',cp1.trans cp,fun j hj=>?_,fun F1 hp hx hz vs hv=>?_⟩
  ·rcases List.mem_append.1 hj with hj|hj
   ·obtain⟨l,t,hl⟩:=cells1 j hj;exact⟨l,t,cp _ _ rfl hl⟩
   ·exact cells j hj
  ·obtain⟨v,us,e1,h1,h2⟩:=hv;refine⟨v,us,e1,eD ?_,c' F1 hp hx (fun j hj=>hz j (List.mem_append_right _ hj)) _ (hs _ h2)⟩;exact aV.same nb (.inr ⟨_,_,_,rfl⟩) (cv F1 hp hx (fun j hj=>hz j (List.mem_append_left _ hj)) v h1)
theorem zg{x:bH U}{K:Hs U→bH U→Prop}(h:yk H x K)(M:bd U X (· =w) ρ n H): ∃H' y,K H' y∧BK H H'∧bd U X (· =w) ρ n H'∧bP ρ n H w ρ n H' w∧ ∀vs,bK (Vw U X w ρ n H) [x] vs→bK (Vw U X w ρ n H') [y] vs:=by
 unfold yk at h;split at h
 ·rename_i i;split at h
  ·rename_i l t hl;cases hb:Nat.beq (gI l) 2 with
   |false=>rw[hb]at h;exact h.elim
   |true=>
    rw[hb]at h;simp only[cond_true]at h;obtain⟨l1,h,h1⟩:=dM h;obtain⟨l2,h,h2⟩:=dM h;obtain⟨a,h,ha⟩:=bt h;obtain⟨e,h,he⟩:=bt h;have hK:=b9 h;obtain⟨g,vs0,hA,hs0,hw⟩:=M.ent _ (af hl);have hb0: ∀g,Lv (ci ρ i (ρ i)) (i,(.dead:aN U)) g→Lv ρ (i,(.cells l t:aN U)) g∨w.heap.size≤g:=fun g hg=>by cases hg
    have hr0: ∀v' l' m',bc (some (.dead:aN U))=some (v',l',m')→ ∃v0 l0 m,bc (some (.cells l t:aN U))=some (v0,l0,m)∧v0≤v'∧(v0=v'→ρ i=ρ i∧l'=l0∧m'=m):=fun v' l' m' hr=>by cases hr
    have hf:Fr (dX ρ (i,(.cells l t:aN U))) w w:=Fr.refl _ _;have st:=bP.upd (n:=n) M.xd M.nd hl hf (ρ i) hb0 hr0 (fun _=>rfl);rw[aP]at st;have M':=M.upd hl hf (ρ i) hb0 hr0 (fun _=>rfl) (x:= .dead) trivial;rw[aP]at M';have hlen:=hs0.len;rw[Nat.eq_of_beq_eq_true hb]at hlen;obtain⟨v1,v2,rfl⟩: ∃v1 v2,vs0= [v1,v2]:=by
     match vs0,hlen with
     | [v1,v2],_=>exact⟨v1,v2,rfl⟩
    have d1:aG U (aj ρ H++X) (· =w) (.int .i64) a [v1]:=ha _ _ _ _ _ _ (h1 _ _ _ _ _ _ hs0).1;have d2:aG U (aj ρ H++X) (· =w) .err e [v2]:=he _ _ _ _ _ _ (h2 _ _ _ _ _ _ hs0).1;obtain⟨e1,hin⟩:=aG.inv d1;injection e1 with e1;subst e1;have hrd:nk (aj ρ (ej H i .dead)++X) (· =w) (some ⟨g,0,none⟩) [Value.int .i64 a,v2]:=fun w2 hw2 j u hj=>by
     subst hw2;refine⟨g,0,rfl,fun hg=>?_,?_⟩
     ·rcases List.mem_append.1 hg with hg|hg
      ·obtain⟨p,hp,hg⟩:=az.1 hg;rcases fj M.nd ⟨_,hl⟩ p hp with rfl|⟨hp,hne⟩
       ·cases hg
       ·exact hne (M.inj (i,.cells l t) (af hl) p hp g (show ao (ρ i).A=some g by rw[hA];rfl) hg)
      ·exact M.dj g (az.2 ⟨(i,.cells l t),af hl,show ao (ρ i).A=some g by rw[hA];rfl⟩) hg
     ·rw[cell_of_row w2 g (0+j) [Value.int .i64 a,v2].toArray t (0,0) (hw w2 rfl)];simp only[List.getElem?_toArray,Nat.zero_add];exact hj
    refine⟨_,_,hK,fun j l1 t1 hj=>?_,M',st,fun vs hs=>?_⟩
    ·rw[dt ⟨_,hl⟩]at hj;split at hj
     ·cases hj
     ·exact hj
    ·obtain⟨⟨_,_,g',hA',e2⟩,hlen⟩:=hs.one1;rw[hA]at hA';injection hA' with hA';injection hA' with hA';subst hA';subst e2;exact⟨_,[],(List.append_nil _).symm,rfl,aG.eflt a e g v2 hin (aG.mv (st.mv (X:=X)) d2) hrd,rfl⟩
  ·exact h.elim
 ·exact⟨_,_,h,fun _ _ _ h=>h,M,M.stp0,fun _ hs=>hs⟩
theorem oD: ∀{l:List (bH U)} {H:Hs U} {K:Hs U→List (bH U)→Prop},tk l H K→bd U X (· =w) ρ n H→ ∃H' l',K H' l'∧BK H H'∧bd U X (· =w) ρ n H'∧bP ρ n H w ρ n H' w∧ ∀vs,bK (Vw U X w ρ n H) l vs→bK (Vw U X w ρ n H') l' vs
 | [],H,K,h,M=>⟨H,[],h,fun _ _ _ h=>h,M,M.stp0,fun _ hs=>hs⟩
 |x::l,H,K,h,M=>by
  obtain⟨H1,y,h1,b1,M1,s1,c1⟩:=zg (show yk H x (fun H y=>tk l H fun H r=>K H (y::r))from h) M;obtain⟨H2,l2,h2,b2,M2,s2,c2⟩:=oD (l:=l) h1 M1;refine⟨H2,_,h2,fun j l t h=>b1 j l t (b2 j l t h),M2,s1.trans s2,fun vs hs=>?_⟩;obtain⟨v1,v2,rfl,ha,hb⟩:=hs.cons;have hy:bK (Vw U X w ρ n H2) [y] v1:=(c1 _ ha).imp fun _ _ h=>h.step s2;have hr:=c2 _ (hb.imp fun _ _ h=>h.step s1);exact bK.app (l:= [y]) hy hr
theorem oE: ∀{fs:List (Nat×Option bj)} {H:Hs U} {l:List (bH U)} {K:Hs U→List (bH U)→Prop},yv fs H l K→bd U X (· =w) ρ n H→ ∃H' l',K H' l'∧BK H H'∧bd U X (· =w) ρ n H'∧bP ρ n H w ρ n H' w∧ ∀vs,bK (Vw U X w ρ n H) l vs→bK (Vw U X w ρ n H') l' vs
 | [],H,l,K,h,M=>⟨H,l,h,fun _ _ _ h=>h,M,M.stp0,fun _ h=>h⟩
 |(k,o)::fs,H,l,K,h,M=>by
  have h:tK 40 l k fun l1=>fO 40 l k fun l2=>match (generalizing:=false) o with
   |some s=>bif Nat.beq k (aS U s)then tk l1 H fun H l1=>i6 l1 H fun H l1=>cQ 20 s l1 fun u=>yv fs H l2 fun H r=>K H ((k,.d s u)::r)else False
   |none=>yv fs H l2 fun H r=>oe l1 r fun r=>K H r:=h
  obtain⟨l1,h,h1⟩:=fP h;obtain⟨l2,h,h2⟩:=ff h;cases o with
  |none=>
   obtain⟨H',l',h,cp,M',s',c'⟩:=oE (fs:=fs) h M;refine⟨H',_,lP h,cp,M',s',fun vs hs=>?_⟩;obtain⟨a1,a2⟩:=h1 _ _ _ _ _ _ hs;obtain⟨a3,_⟩:=h2 _ _ _ _ _ _ hs;have:=bK.app (a1.imp fun _ _ h=>h.step s') (c' _ a3)
   rwa [List.take_append_drop]at this
  |some s=>
   simp only at h;cases hb:Nat.beq k (aS U s)with
   |false=>rw[hb]at h;exact h.elim
   |true=>
    rw[hb]at h;simp only[cond_true]at h;obtain⟨H0,l0,h,b0,M0,s0,c0⟩:=oD h M;obtain⟨H1,l3,⟨h,b1⟩,M1,s1,c1⟩:=fa (ic h fun H' r _ bk h=>(⟨h,bk⟩:_∧BK H0 H')) M0;obtain⟨u,h,hu⟩:=bt h;obtain⟨H',l',h,cp,M',s',c'⟩:=oE (fs:=fs) h M1;refine⟨H',_,h,fun j l t hj=>b0 j l t (b1 j l t (cp j l t hj)),M',(s0.trans s1).trans s',fun vs hs=>?_⟩;obtain⟨a1,a2⟩:=h1 _ _ _ _ _ _ hs;obtain⟨a3,_⟩:=h2 _ _ _ _ _ _ hs;have d1:=aG.mv (s'.mv (X:=X)) (hu _ _ _ _ _ _ (c1 _ (c0 _ a1)));exact⟨vs.take k,vs.drop k,(List.take_append_drop _ _).symm,by rw[List.length_take];omega,d1,c' _ ((a3.imp fun _ _ h=>h.step s0).imp fun _ _ h=>h.step s1)⟩
theorem si{fs:List (Nat×Option bj)}{j:Nat}{K:Hs U→Prop}(h:tt fs j H K)(M:bd U X (· =w) ρ n H): ∃H',K H'∧bd U X (· =w) ρ n H'∧bP ρ n H w ρ n H' w:=by
 unfold tt at h;split at h
 ·rename_i l t hl;obtain⟨H1,l',h,bk,M1,s1,c1⟩:=oE h M;split at h;case h_2=>exact h.elim
  rename_i l2 t2 hl1;have e:=bk _ _ _ hl1;rw[hl]at e;injection e with e;injection e with e1 e2;subst e1;subst e2;have hK:=b9 h;obtain⟨g,vs,hA,hs,hw⟩:=M.ent _ (af hl);have hb0: ∀g,Lv (ci ρ j (ρ j)) (j,(.cells l' t:aN U)) g→Lv ρ (j,(.cells l t:aN U)) g∨w.heap.size≤g:=fun g hg=>by rw[aP]at hg;exact .inl hg
  have hr0: ∀v' l'' m',bc (some (.cells l' t:aN U))=some (v',l'',m')→ ∃v0 l0 m,bc (some (.cells l t:aN U))=some (v0,l0,m)∧v0≤v'∧(v0=v'→ρ j=ρ j∧l''=l0∧m'=m):=fun v' l'' m' hr=>by cases hr
  have hf:Fr (dX ρ (j,(.cells l t:aN U))) w w:=Fr.refl _ _;have st:=bP.upd (n:=n) M1.xd M1.nd hl1 hf (ρ j) hb0 hr0 (fun _=>rfl);rw[aP]at st;have M':=M1.upd hl1 hf (ρ j) hb0 hr0 (fun _=>rfl) (x:= .cells l' t) (by
   rw[aP];exact⟨g,vs,hA,(c1 vs hs).imp fun _ _ h=>h.step st,hw⟩)
  rw[aP]at M';exact⟨_,hK,M',s1.trans st⟩
 ·exact h.elim
theorem vG: ∀{em:List (Nat×List (Nat×Option bj))} {H:Hs U} {K:Hs U→Prop},Ir em H K→bd U X (· =w) ρ n H→ ∃H',K H'∧bd U X (· =w) ρ n H'∧bP ρ n H w ρ n H' w
 | [],H,K,h,M=>⟨H,h,M,M.stp0⟩
 |x::em,H,K,h,M=>by
  obtain⟨H1,h,M1,s1⟩:=si (show tt x.2 x.1 H (fun H=>Ir em H K)from h) M;obtain⟨H2,h,M2,s2⟩:=vG (em:=em) h M1;exact⟨H2,h,M2,s1.trans s2⟩
theorem im: ∀{md:List Md} {xs:List (Va U)} {H:Hs U} {K:Hs U→Prop},EW md xs H K→bd U X (· =w) ρ n H→ ∃H',K H'∧bd U X (· =w) ρ n H'∧bP ρ n H w ρ n H' w
 | [],xs,H,K,h,M=>⟨H,h,M,M.stp0⟩
 |m::md,[],H,K,h,M=>⟨H,h,M,M.stp0⟩
 | .n::md,x::xs,H,K,h,M=>im (md:=md) (xs:=xs) h M
 | .d _::md,x::xs,H,K,h,M=>im (md:=md) (xs:=xs) h M
 | .f1 _::md,x::xs,H,K,h,M=>im (md:=md) (xs:=xs) h M
 | .f2 _ _::md,x::xs,H,K,h,M=>im (md:=md) (xs:=xs) h M
 | .p fs::md,x::xs,H,K,h,M=>by
  have h:(match (generalizing:=false) x with
    |⟨false,(_,.ptr j 0):: []⟩=>tt fs j H fun H=>EW md xs H K
    |⟨false,(_,.nilp):: []⟩=>EW md xs H K
    |_=>False):=h
  split at h
  ·obtain⟨H1,h,M1,s1⟩:=si h M;obtain⟨H2,h,M2,s2⟩:=im (md:=md) (xs:=xs) h M1;exact⟨H2,h,M2,s1.trans s2⟩
  ·exact im (md:=md) (xs:=xs) h M
  ·exact h.elim
theorem kV: ∀{md:List Md} {xs:List (Va U)} {H:Hs U} {K:Hs U→List (Va U)→Prop},BR md xs H K→bd U X (· =w) ρ n H→ ∃H' xs',K H' xs'∧bd U X (· =w) ρ n H'∧bP ρ n H w ρ n H' w∧ ∀vs,bB (Vw U X w ρ n H) xs vs→bB (Vw U X w ρ n H') xs' vs
 | [],xs,H,K,h,M=>⟨H,xs,h,M,M.stp0,fun _ h=>h⟩
 |m::md,[],H,K,h,M=>⟨H,[],h,M,M.stp0,fun _ h=>h⟩
 | .n::md,x::xs,H,K,h,M=>by
  have h:BR md xs H fun H r=>K H (x::r):=h;obtain⟨H',xs',h,M',s',c'⟩:=kV (md:=md) h M;refine⟨H',_,h,M',s',fun vs hv=>?_⟩;obtain⟨v,us,e1,h1,h2⟩:=hv;exact⟨v,us,e1,h1.imp fun _ _ h=>h.step s',c' _ h2⟩
 | .f1 _::md,x::xs,H,K,h,M=>by
  have h:BR md xs H fun H r=>K H (x::r):=h;obtain⟨H',xs',h,M',s',c'⟩:=kV (md:=md) h M;refine⟨H',_,h,M',s',fun vs hv=>?_⟩;obtain⟨v,us,e1,h1,h2⟩:=hv;exact⟨v,us,e1,h1.imp fun _ _ h=>h.step s',c' _ h2⟩
 | .f2 _ _::md,x::xs,H,K,h,M=>by
  have h:BR md xs H fun H r=>K H (x::r):=h;obtain⟨H',xs',h,M',s',c'⟩:=kV (md:=md) h M;refine⟨H',_,h,M',s',fun vs hv=>?_⟩;obtain⟨v,us,e1,h1,h2⟩:=hv;exact⟨v,us,e1,h1.imp fun _ _ h=>h.step s',c' _ h2⟩
 | .p _::md,x::xs,H,K,h,M=>by
  have h:BR md xs H fun H r=>K H (x::r):=h;obtain⟨H',xs',h,M',s',c'⟩:=kV (md:=md) h M;refine⟨H',_,h,M',s',fun vs hv=>?_⟩;obtain⟨v,us,e1,h1,h2⟩:=hv;exact⟨v,us,e1,h1.imp fun _ _ h=>h.step s',c' _ h2⟩
 | .d s::md,x::xs,H,K,h,M=>by
  have h:tk x.l H fun H l=>uJ s H ⟨x.ag,l⟩ fun H t=>BR md xs H fun H r=>K H (⟨x.ag,[(aS U s,.d s t)]⟩::r):=h;obtain⟨H0,l0,h,_,M0,s0,c0⟩:=oD h M;obtain⟨H1,t,h,M1,s1,d1⟩:=jp h M0;obtain⟨H',xs',h,M',s',c'⟩:=kV (md:=md) h M1;refine⟨H',_,h,M',(s0.trans s1).trans s',fun vs hv=>?_⟩;obtain⟨v,us,e1,h1,h2⟩:=hv;have hv0:ct (Vw U X w ρ n H0) ⟨x.ag,l0⟩ v:=by
   unfold ct at h1⊢;cases hag:x.ag with
   |true=>simp only[hag]at h1⊢;obtain⟨ws,e,hs⟩:=h1;exact⟨ws,e,c0 _ hs⟩
   |false=>simp only[hag]at h1⊢;exact c0 _ h1
  have hd:=aG.mv (s'.mv (X:=X)) (d1 v hv0);have hseg:bK (Vw U X w ρ n H') [(aS U s,.d s t)] v.cells.toList:=⟨_,[],(List.append_nil _).symm,hd.length,hd,rfl⟩;refine⟨v,us,e1,?_,c' _ ?_⟩
  ·unfold ct at h1⊢;cases hag:x.ag with
   |true=>
    simp only[hag]at h1⊢;obtain⟨ws,rfl,_⟩:=h1;exact⟨ws,rfl,by simpa[Value.cells]using hseg⟩
   |false=>
    simp only[hag]at h1⊢;have:=h1.one v (by simp);have e:v.cells.toList= [v]:=by cases v<;>first|rfl|(simp[Value.oneCell']at this)
    rw[e]at hseg;exact hseg
  ·exact bB.imp (fun _ _ h=>h.step (s0.trans s1)) h2
omit [al]in
theorem oF: ∀{es:List (aN U)} {L:List Nat} {n:Nat} {K:List Nat→Nat→Prop},yC es L n K→ ∃L2 n2,K L2 n2∧L2.length=es.length∧n≤n2∧(L.length≤es.length→ ∀(j:Nat),j<L.length→L2[j]? =L[j]?)∧ ∀(j:Nat),L.length≤j→j<es.length→L2[j]? =some (n+(j - L.length))∧n+(j - L.length)<n2
 | [],L,n,K,h=>⟨[],n,h,rfl,Nat.le_refl _,fun h j hj=>by simp at h;subst h;rfl,fun j _ hj=>by simp at hj⟩
 |x::es,i::L,n,K,h=>by
  obtain⟨L2,n2,h,h1,h2,h3,h4⟩:=oF (es:=es) (show yC es L n (fun l n=>K (i::l) n)from h);refine⟨_,n2,h,by simp[h1],h2,fun hle j hj=>?_,fun j hj1 hj2=>?_⟩
  ·cases j with
   |zero=>rfl
   |succ j=>simpa using h3 (by simpa using hle) j (by simpa using hj)
  ·cases j with
   |zero=>simp at hj1
   |succ j=>
    simp only[List.length_cons]at hj1 hj2⊢;have:=h4 j (by omega) (by omega);rw[show j+1 -(L.length+1)=j - L.length by omega];simpa using this
 |x::es,[],n,K,h=>by
  obtain⟨L2,n2,h,h1,h2,h3,h4⟩:=oF (es:=es) (show yC es [] (n+1) (fun l n'=>K (n::l) n')from h);refine⟨_,n2,h,by simp[h1],by omega,fun hle j hj=>by simp at hj,fun j hj1 hj2=>?_⟩;simp only[List.length_cons]at hj2;cases j with
  |zero=>exact⟨rfl,by simp;omega⟩
  |succ j=>
   have:=h4 j (by simp) (by omega);simp only[List.length_nil,Nat.sub_zero]at this⊢;rw[show n+(j+1)=n+1+j by omega];simpa using this
def jY:List Nat→Nat→Option Nat
 | [],_=>none
 |a::L,i=>bif Nat.beq a i then some 0 else(jY L i).map (· +1)
omit [al]in
theorem jZ: ∀{L:List Nat} {i j:Nat},jY L i=some j→L[j]? =some i
 |a::L,i,j,h=>by
  unfold jY at h;cases hb:Nat.beq a i with
  |true=>rw[hb]at h;injection h with h;subst h;rw[Nat.eq_of_beq_eq_true hb];rfl
  |false=>
   rw[hb]at h;simp only[cond_false,Option.map_eq_some_iff]at h;obtain⟨k,hk,rfl⟩:=h;simpa using jZ hk
omit [al]in
theorem oG: ∀{L:List Nat} {i j:Nat},L.Nodup→L[j]? =some i→jY L i=some j
 |a::L,i,j,hn,h=>by
  unfold jY;rw[List.nodup_cons]at hn;cases j with
  |zero=>simp at h;subst h;rw[Nat.beq_refl];rfl
  |succ j=>
   simp at h;have: ¬a=i:=by rintro rfl;exact hn.1 (List.mem_of_getElem? h)
   rw[cn this,oG hn.2 h];rfl
def j1(ρ ρ':Nat→Rz)(L:List Nat):Nat→Rz:=fun i=>match jY L i with
 |some j=>ρ' j
 |none=>ρ i
def nu(H:Hs U)(i:Nat):Nat:=match aB H i with
 |some (.row v _ _ _)=>v
 |some (.ext v _ _ _)=>v
 |_=>0
omit [al]in
theorem lT{i v:Nat}{K:Nat→Prop}(h:ol H i v K):K (nu H i+v):=by
 unfold ol at h;unfold nu;split at h
 ·rename_i hl;rw[hl];exact h
 ·rename_i hl;rw[hl];exact h
 ·rename_i hn hn2;have:(match aB H i with|some (.row v _ _ _)=>v|some (.ext v _ _ _)=>v|_=>0)=0:=by
   split
   ·rename_i hl;exact absurd hl (hn _ _ _ _)
   ·rename_i hl;exact absurd hl (hn2 _ _ _ _)
   ·rfl
  rw[this,Nat.zero_add];exact h
structure gN(H0:Hs U)(L:List Nat)(Yc:List Nat)(ρ':Nat→Rz)(es:List (aN U))(Yf:List Nat)(ρf:Nat→Rz)(nf:Nat)(Hf:Hs U):Prop where
 Y: ∀y∈Yf,y∈Yc
 at_: ∀(j i:Nat),L[j]? =some i→i<nf∧ρf i=ρ' j∧(∀v' l m,bc (aB Hf i)=some (v',l,m)→ ∃v,bc es[j]? =some (v,l,m)∧v'=nu H0 i+v)∧(bc es[j]? =none→bc (aB Hf i)=none)
omit [al]in
theorem cu{α:Type}: ∀{l:List α} {j:Nat},cL l j=l[j]?
 | [],j=>by cases j<;>rfl
 |_::_,0=>rfl
 |_::l,j+1=>by simpa[cL]using cu (l:=l) (j:=j)
variable {H0:Hs U} {Yc:List Nat}
omit [al]in
theorem vH{F1:al} [F:al]{x:Cx U}{K:Cx U→Prop}(h:nH H0 L x K): ∃y,K y∧ ∀Yf ρf nf Hf,gN H0 L Yc ρ' es Yf ρf nf Hf→ ∀vs, @aV F1 U Yc (· =w') ρ' es.length (aJ 0 es) x vs→aV U Yf (· =w') ρf nf Hf y vs:=by
 have mvY: ∀{Yf ρf nf Hf},gN H0 L Yc ρ' es Yf ρf nf Hf→Mv Yc (· =w') Yf (· =w'):=fun b w2 h2=>⟨w2,[],h2,Fr.refl _ _,fun _ h=>(by cases h),fun y hy=> .inl (b.Y y hy)⟩;cases x with
 |own j v=>
  unfold nH at h;simp only at h;split at h
  ·rename_i i hi;rw[cu]at hi;have h:=lT h;refine⟨_,h,fun Yf ρf nf Hf b vs hv=>?_⟩;obtain⟨h1,h2,h3,h4⟩:=b.at_ j i hi;obtain⟨hj,A,l,c,e,hn⟩:=hv;refine⟨h1,A,l,c,e,fun v' l' m' hr=>?_⟩;obtain⟨v1,hr1,hv1⟩:=h3 _ _ _ hr;obtain⟨a1,a2⟩:=hn _ _ _ (by rw[dJ];exact hr1);subst hv1;exact⟨by omega,fun h=>by rw[h2];exact a2 (by omega)⟩
  ·exact⟨.un,h,fun Yf ρf nf Hf b vs hv=>by obtain⟨_,A,l,c,e,_⟩:=hv;exact⟨_,e,rfl⟩⟩
 |ptr j off=>
  unfold nH at h;simp only at h;split at h
  ·rename_i i hi;rw[cu]at hi;refine⟨_,h,fun Yf ρf nf Hf b vs hv=>?_⟩;obtain⟨h1,h2,h3,h4⟩:=b.at_ j i hi;obtain⟨hj,hr,g,hA,e⟩:=hv;exact⟨h1,h4 (by rw[←dJ];exact hr),g,by rw[h2];exact hA,e⟩
  ·exact⟨.un,h,fun Yf ρf nf Hf b vs hv=>by obtain⟨_,_,g,_,e⟩:=hv;exact⟨_,e,rfl⟩⟩
 |pel j v q off=>exact⟨.un,h,fun Yf ρf nf Hf b vs hv=>by obtain⟨_,a,e,_⟩:=hv;exact⟨_,e,rfl⟩⟩
 |pax i off m s q o=>exact⟨.un,h,fun Yf ρf nf Hf b vs hv=>by obtain⟨_,_,_,_,g,_,e⟩:=hv;exact⟨_,e,rfl⟩⟩
 |clo f js=>
  match js,h with
  | [],h=>exact⟨.un,h,fun Yf ρf nf Hf b vs hv=>⟨_,hv.1,rfl⟩⟩
  |_::_::_,h=>exact⟨.un,h,fun Yf ρf nf Hf b vs hv=>⟨_,hv.1,rfl⟩⟩
  |j:: [],h=>
   have h:(match cL L j with|some i=>K (.clo f [i])|none=>K .un):=h;split at h
   ·rename_i i hi;rw[cu]at hi;refine⟨_,h,fun Yf ρf nf Hf b vs hv=>?_⟩;obtain⟨h1,h2,h3,h4⟩:=b.at_ j i hi;obtain⟨e,hall⟩:=hv;obtain⟨hj,hr,g,hA⟩:=hall j (by simp);exact⟨by rw[e];simp[h2],fun k hk=>by
     have hk:=List.mem_singleton.1 hk;subst hk;exact⟨h1,h4 (by rw[←dJ];exact hr),g,by rw[h2];exact hA⟩⟩
   ·exact⟨.un,h,fun Yf ρf nf Hf b vs hv=>⟨_,hv.1,rfl⟩⟩
 |f1 a g=>exact⟨.un,h,fun Yf ρf nf Hf b vs hv=>by obtain⟨u,e,⟨f,ca,e2⟩,_⟩:=hv;exact⟨u,e,by rw[e2];rfl⟩⟩
 |f2 a c g=>exact⟨.un,h,fun Yf ρf nf Hf b vs hv=>by obtain⟨u,e,⟨f,ca,e2⟩,_⟩:=hv;exact⟨u,e,by rw[e2];rfl⟩⟩
 |mp j=>
  unfold nH at h;simp only at h;split at h
  ·rename_i i hi;rw[cu]at hi;refine⟨_,h,fun Yf ρf nf Hf b vs hv=>?_⟩;obtain⟨h1,h2,h3,h4⟩:=b.at_ j i hi;obtain⟨hj,hr,g,hA,e⟩:=hv;exact⟨h1,h4 (by rw[←dJ];exact hr),g,by rw[h2];exact hA,e⟩
  ·exact⟨.un,h,fun Yf ρf nf Hf b vs hv=>by obtain⟨_,_,g,_,e⟩:=hv;exact⟨_,e,rfl⟩⟩
 |ifp i=>exact⟨.un,h,fun Yf ρf nf Hf b vs hv=>by obtain⟨_,_,g,_,e⟩:=hv;exact⟨_,e,rfl⟩⟩
 |bnd f s t=>exact⟨_,h,fun Yf ρf nf Hf b vs hv=>by obtain⟨u,e,hd⟩:=hv;exact⟨u,e,aG.mv (mvY b) hd⟩⟩
 |d s t=>exact⟨_,h,fun Yf ρf nf Hf b vs hv=>aG.mv (mvY b) hv⟩
 |pd s t=>exact⟨_,h,fun Yf ρf nf Hf b vs hv=>by obtain⟨g,b0,us,e,hd,hr⟩:=hv;exact⟨g,b0,us,e,aG.mv (mvY b) hd,hr.mv (mvY b)⟩⟩
 |nilp=>exact⟨_,h,fun Yf ρf nf Hf b vs hv=>hv⟩
 |nils=>exact⟨_,h,fun Yf ρf nf Hf b vs hv=>hv⟩
 |nilf=>exact⟨_,h,fun Yf ρf nf Hf b vs hv=>hv⟩
 |nilm=>exact⟨_,h,fun Yf ρf nf Hf b vs hv=>hv⟩
 |fn f=>exact⟨_,h,fun Yf ρf nf Hf b vs hv=>hv⟩
 |un=>exact⟨_,h,fun Yf ρf nf Hf b vs hv=>hv⟩
omit [al]in
theorem j2{F1:al} [F:al]: ∀{l:List (bH U)} {K:List (bH U)→Prop},ln H0 L l K→ ∃l',K l'∧ ∀Yf ρf nf Hf,gN H0 L Yc ρ' es Yf ρf nf Hf→ ∀vs,bK (@aV F1 U Yc (· =w') ρ' es.length (aJ 0 es)) l vs→bK (aV U Yf (· =w') ρf nf Hf) l' vs
 | [],K,h=>⟨[],h,fun _ _ _ _ _ _ hs=>hs⟩
 |(k,x)::l,K,h=>by
  have h:nH H0 L x fun y=>ln H0 L l fun r=>K ((k,y)::r):=h;obtain⟨y,h,hy⟩:=vH (Yc:=Yc) (ρ':=ρ') (es:=es) (w':=w') h;obtain⟨l',h,hl⟩:=j2 (l:=l) h;refine⟨_,h,fun Yf ρf nf Hf b vs hs=>?_⟩;obtain⟨v1,v2,e,hk,hx,hr⟩:=hs;exact⟨v1,v2,e,hk,hy _ _ _ _ b _ hx,hl _ _ _ _ b _ hr⟩
omit [al]in
theorem oH{V V':Cx U→List Value→Prop}{a:Bool}{l l':List (bH U)}(h: ∀vs,bK V l vs→bK V' l' vs){v:Value}(hv:ct V ⟨a,l⟩ v):ct V' ⟨a,l'⟩ v:=by
 unfold ct at hv⊢;cases a with
 |true=>obtain⟨vs,e,hs⟩:=hv;exact⟨vs,e,h _ hs⟩
 |false=>exact h _ hv
omit [al]in
theorem nO{F1:al} [F:al]: ∀{l:List (Va U)} {K:List (Va U)→Prop},om H0 L l K→ ∃l',K l'∧ ∀Yf ρf nf Hf,gN H0 L Yc ρ' es Yf ρf nf Hf→ ∀vs,bB (@aV F1 U Yc (· =w') ρ' es.length (aJ 0 es)) l vs→bB (aV U Yf (· =w') ρf nf Hf) l' vs
 | [],K,h=>⟨[],h,fun _ _ _ _ _ _ hs=>hs⟩
 |x::l,K,h=>by
  have h:ln H0 L x.l fun l1=>om H0 L l fun r=>K (⟨x.ag,l1⟩::r):=h;obtain⟨l1,h,h1⟩:=j2 (Yc:=Yc) (ρ':=ρ') (es:=es) (w':=w') h;obtain⟨l',h,hl⟩:=nO (l:=l) h;refine⟨_,h,fun Yf ρf nf Hf b vs hs=>?_⟩;obtain⟨v,us,e,hx,hr⟩:=hs;exact⟨v,us,e,oH (h1 _ _ _ _ b) hx,hl _ _ _ _ b _ hr⟩
omit [al]in
theorem vJ{F1:al} [F:al]{x:AV U}{K:AV U→Prop}(h:BS H0 L x K): ∃y,K y∧(∀z,x= .pan z↔y= .pan z)∧ ∀Yf ρf nf Hf,gN H0 L Yc ρ' es Yf ρf nf Hf→ ∀v,jg (@aV F1 U Yc (· =w') ρ' es.length (aJ 0 es)) x v→jg (aV U Yf (· =w') ρf nf Hf) y v:=by
 cases x with
 |v x=>
  obtain⟨l',h,hl⟩:=j2 (Yc:=Yc) (ρ':=ρ') (es:=es) (w':=w') (show ln H0 L x.l (fun l=>K (.v ⟨x.ag,l⟩))from h);exact⟨_,h,fun _=>⟨fun q=>(by cases q),fun q=>(by cases q)⟩,fun Yf ρf nf Hf b v hv=>oH (hl _ _ _ _ b) hv⟩
 |tup l=>
  obtain⟨l',h,hl⟩:=nO (Yc:=Yc) (ρ':=ρ') (es:=es) (w':=w') (show om H0 L l (fun l=>K (.tup l))from h);exact⟨_,h,fun _=>⟨fun q=>(by cases q),fun q=>(by cases q)⟩,fun Yf ρf nf Hf b v hv=>by obtain⟨us,e,hs⟩:=hv;exact⟨us,e,hl _ _ _ _ b _ hs⟩⟩
 |pan z=>exact⟨.pan z,h,fun _=>Iff.rfl,fun _ _ _ _ _ _ _=>trivial⟩
 |gd p x=>exact⟨.un,h,fun _=>⟨fun q=>(by cases q),fun q=>(by cases q)⟩,fun _ _ _ _ _ _ _=>trivial⟩
 |un=>exact⟨.un,h,fun _=>⟨fun q=>(by cases q),fun q=>(by cases q)⟩,fun _ _ _ _ _ _ _=>trivial⟩
end
end Go.Proofs.YtfgofabojepcmaaGreatDoor.V
end

/- Calls are right: the whole. -/
import Derived.Test.YtmpeiadlohbikaaGreatDoorAt8
section
set_option linter.unusedVariables false
set_option linter.unusedSimpArgs false
namespace Go.Proofs.YtmpeiadlohbikaaGreatDoor.V
open Go.RowKit
section
variable [F:ao] {U:bD} {P:Program} {nt:Nat} {T:cW U} {G:c6 U} {X:List Nat} {w w':World} {ρ ρ':Nat→Rz} {n:Nat} {H:Hs U} {R e:En U} {ce:aI} {o:Oper} {L:List Nat} {z:Bool} {es:List (aH U)}
theorem mM(hl:es.length=L.length)(hes: ∀(j i:Nat),L[j]? =some i→ ∃x y,aD H i=some x∧es[j]? =some y∧pt U X w ρ n H z L x y): ∀p∈au 0 es,∀g,Lv (gA ρ L) p g→ ∃i x,L[p.1]? =some i∧aD H i=some x∧Lv ρ (i,x) g:=fun p hp g hg=>by
 have h1:=d5.1 hp;have hj:=bL h1;obtain⟨x,y,h2,h3,h4⟩:=hes p.1 _ (List.getElem?_eq_getElem (by omega));rw[h1]at h3;injection h3 with h3;subst h3;exact⟨_,x,List.getElem?_eq_getElem (by omega),h2,IA (List.getElem?_eq_getElem (by omega)) h4 hg⟩
theorem fm(hl:es.length=L.length)(hes: ∀(j i:Nat),L[j]? =some i→ ∃x y,aD H i=some x∧es[j]? =some y∧pt U X w ρ n H z L x y): ∀g∈aj (gA ρ L) (au 0 es),g∈aj ρ H:=fun g hg=>by
 obtain⟨p,hp,hg⟩:=aA.1 hg;obtain⟨i,x,_,h2,h3⟩:=mM hl hes p hp g hg;exact aA.2 ⟨_,af h2,h3⟩
theorem vH(hl:es.length=L.length)(hes: ∀(j i:Nat),L[j]? =some i→ ∃x y,aD H i=some x∧es[j]? =some y∧pt U X w ρ n H z L x y): ∀g∈aj (gA ρ L) (au 0 es)++Xo ρ H X (gA ρ L) (au 0 es),g∈aj ρ H++X:=fun g hg=>by
 rcases List.mem_append.1 hg with hg|hg
 ·exact List.mem_append_left _ (fm hl hes g hg)
 ·exact(List.mem_filter.1 hg).1
omit [ao]in
theorem y3.inst{F0:ao} [F:ao](hx: ∀z∈F0.xf,z∈ao.xf)(hp:F0.pr=ao.pr){Y:List Nat}{S:World→Prop}{u:Value}{a:aZ}{g:TT U.ty a→Bool}(h: @y3 F0 U Y S u a g):y3 U Y S u a g:=⟨h.1,fun w hw w2 hl=>by
 obtain⟨O,h1,h2⟩:=hl;rw[←hp];exact h.2 w hw w2 ⟨O,h1,fun o ho=>⟨fun hz=>(h2 o ho).1 (hx o hz),(h2 o ho).2⟩⟩⟩
omit [ao]in
theorem y4.inst{F0:ao} [F:ao](hx: ∀z∈F0.xf,z∈ao.xf)(hp:F0.pr=ao.pr){Y:List Nat}{S:World→Prop}{u:Value}{a b:aZ}{g:TT U.ty a→TT U.ty b→Int}(h: @y4 F0 U Y S u a b g):y4 U Y S u a b g:=⟨h.1,fun w hw w2 hl=>by
 obtain⟨O,h1,h2⟩:=hl;rw[←hp];exact h.2 w hw w2 ⟨O,h1,fun o ho=>⟨fun hz=>(h2 o ho).1 (hx o hz),(h2 o ho).2⟩⟩⟩
omit [ao]in
theorem bd.inst{F0:ao} [F:ao](hx: ∀z∈F0.xf,z∈ao.xf)(hp:F0.pr=ao.pr){Y:List Nat}{S:World→Prop}{x:Cx U}{vs:List Value}(h: @bd F0 U Y S ρ n H x vs):bd U Y S ρ n H x vs:=by
 cases x with
 |f1 a g=>obtain⟨u,e,hf⟩:=h;exact⟨u,e,hf.inst hx hp⟩
 |f2 a b g=>obtain⟨u,e,hf⟩:=h;exact⟨u,e,hf.inst hx hp⟩
 |_=>exact h
omit [ao]in
theorem wJ.inst{F0:ao} [F:ao](hp:F0.pr=ao.pr){d:KD U}(h: @wJ F0 U d):wJ U d:=by unfold wJ at*;rw[←hp];exact h
omit [ao]in
theorem wX{F0:ao} [F:ao](M:vG U F0 X w ρ n H)(hx: ∀z∈F0.xf,z∈ao.xf)(CK:F0.pr=ao.pr)(hxo: ∀z∈ao.xf,z∈Xo ρ H X (gA ρ L) (au 0 es))(hL:L.Nodup)(hl:es.length=L.length)(hes: ∀(j i:Nat),L[j]? =some i→ ∃x y,aD H i=some x∧es[j]? =some y∧pt U X w ρ n H z L x y):aX U (Xo ρ H X (gA ρ L) (au 0 es)) (· =w) (gA ρ L) es.length (au 0 es):=by
 have hY:=vH hl hes;have mv:Mv (aj ρ H++X) (· =w) (aj (gA ρ L) (au 0 es)++Xo ρ H X (gA ρ L) (au 0 es)) (· =w):=fun w2 h2=>⟨w2,[],h2,Fr.refl _ _,fun _ h=>(by cases h),fun y hy=> .inl (hY y hy)⟩;have rel:=jW.of hl hes;refine⟨by rw[po];exact List.nodup_range',fun p hp=>bL (d5.1 hp),fun p hp=>?_,fun p hp q hq g h1 h2=>?_,fun g hg hx=>?_,fun w2 h2 g hg=>?_,fun z hz=>?_,⟨fun z hz=>hx z (M.gv.1 z hz),M.gv.2⟩⟩
 ·have h1:=d5.1 hp;have hj:=bL h1;have hLj:L[p.1]? =some L[p.1]:=List.getElem?_eq_getElem (by omega);obtain⟨x,y,h2,h3,h4⟩:=hes p.1 _ hLj;rw[h1]at h3;injection h3 with h3;have hx:=M.ent _ (af h2);rw[h3];cases x with
  |cells l t=>
   obtain⟨l',rfl,hc⟩:=h4;obtain⟨g,vs,hA,hs,hw⟩:=hx;exact⟨g,vs,by rw[bW hLj];exact hA,hc es _ hY rel vs (hs.imp fun _ _ h=>bd.inst hx CK h),hw⟩
  |row v s xs t=>
   obtain⟨hm,cs,sp,hd,ho,hw⟩:=hx;rw[show y=_ from h4];exact⟨hm,cs,sp,aR.mv mv hd,by rw[bW hLj];exact ho,fun g hg=>by rw[bW hLj]at hg;exact hw g hg⟩
  |map d l=>
   obtain⟨hk,g,es',clock,m,hA,hm,hd,hw⟩:=hx;rw[show y=_ from h4];exact⟨wJ.inst CK hk,g,es',clock,m,by rw[bW hLj];exact hA,hm,aK.mv mv hd,hw⟩
  |mapr d l left cur gh=>
   obtain⟨hk,g,es',clock,m,lv,cv,hA,hm,hd,hl,hc,hw⟩:=hx;rw[show y=_ from h4];exact⟨wJ.inst CK hk,g,es',clock,m,by rw[bW hLj];exact hA,hm.ok,aK.mv mv hd,hw⟩
  |ext v d xs op=>cases op with
   |none=>
    obtain⟨C,hd,hw,_⟩:=hx;rw[show y=_ from h4];exact⟨C,by rw[bW hLj];exact d.mv mv.fr hd,by rw[bW hLj];exact hw,trivial⟩
   |some o=>rw[show y=_ from h4];trivial
  |_=>rw[show y=_ from h4];trivial
 ·obtain⟨i,x,a1,a2,a3⟩:=mM hl hes p hp g h1;obtain⟨k,y,b1,b2,b3⟩:=mM hl hes q hq g h2;have:=M.inj _ (af a2) _ (af b2) g a3 b3;simp only at this;subst this;exact(List.getElem?_inj (bL a1) hL).1 (a1.trans b1.symm)
 ·have:=(List.mem_filter.1 hx).2;simp at this;exact this hg
 ·subst h2;rcases List.mem_append.1 (List.mem_filter.1 hg).1 with h|h
  ·obtain⟨p,hp,h⟩:=aA.1 h;exact M.olt p hp g h
  ·exact M.lo g h
 ·exact hxo z hz
def bh(P:Program)(U:bD)(f:FuncId)(c:aW U):Prop:= ∀ [F:ao],F.pr=P→ ∀X w ρ (es:List (aH U)) xs vs K,aX U X (· =w) ρ es.length (au 0 es)→bM (Vw U X w ρ es.length (au 0 es)) xs vs→c.run xs es K→
 Fn P f vs w fun v w'=> ∃r es' ρ',K r es'∧nv (Vw U X w' ρ' es'.length (au 0 es')) r v∧aX U X (· =w') ρ' es'.length (au 0 es')∧bQ ρ es.length (au 0 es) w ρ' es'.length (au 0 es') w'
def mN(P:Program)(U:bD)(bx:Int→Value)(f:FuncId)(c:aW U):Prop:= ∀ [F:ao],F.pr=P→ ∀X w ρ (es:List (aH U)) xs vs K,aX U X (· =w) ρ es.length (au 0 es)→bM (Vw U X w ρ es.length (au 0 es)) xs vs→c.run xs es K→
 xC P f vs w (fun v w'=> ∃r es' ρ',(∀z,r≠ .pan z)∧K r es'∧nv (Vw U X w' ρ' es'.length (au 0 es')) r v∧aX U X (· =w') ρ' es'.length (au 0 es')∧bQ ρ es.length (au 0 es) w ρ' es'.length (au 0 es') w')
  (fun v w'=> ∃z,v=bx z∧ ∃es' ρ',K (.pan z) es'∧aX U X (· =w') ρ' es'.length (au 0 es')∧bQ ρ es.length (au 0 es) w ρ' es'.length (au 0 es') w')
abbrev nI(P:Program)(U:bD)(bx:Int→Value)(G:c6 U):Prop:= ∀f c,aD G f=some c→mN P U bx f c
abbrev bi(P:Program)(U:bD)(G:c6 U):Prop:= ∀f c,aD G f=some c→bh P U f c
abbrev dF [ao](P:Program)(U:bD)(G:c6 U):Prop:=ao.pr=P∧bi P U G
omit [ao]in
theorem Fr.sub{O Y:List Nat}{w2:World}(hf:Fr O w w2)(hO: ∀o∈O,o∈Y∨w.heap.size≤o):Fr Y w w2:=⟨hf.os,hf.tape,hf.output,hf.size,fun k hk hn=>hf.block k hk fun ho=>(hO k ho).elim hn fun h=>by omega,hf.drawn⟩
theorem oN: ∀{js:List Nat} {H:Hs U} {K:Hs U→List (Va U)→Prop},zq T js H K→aX U X (· =w) ρ n H→ ∃H' caps,K H' caps∧aX U X (· =w) ρ n H'∧bQ ρ n H w ρ n H' w∧CP H H'∧(∀j∈js,∃l t,aD H' j=some (.cells l t))∧
  ∀w2 O,Fr O w w2→(∀o∈O,o∈aj ρ H'++X∨w.heap.size≤o)→(∀j∈js,∀g,(ρ j).A=some ⟨g,0,none⟩→g∉O)→ ∀(F0:ao) (ρ0:Nat→Rz),bM (@bd F0 U gB (· =w2) ρ0 0 []) caps (js.map fun j=>Value.pointer (ρ j).A)
 | [],H,K,h,M=>⟨H,[],h,M,M.stp0,CP.refl _,fun j hj=>(by cases hj),fun _ _ _ _ _ _ _=>rfl⟩
 |j::js,H,K,h,M=>by
  have h:(match aD H j with
   |some (.cells l t)=>(match aD T t with
    |some ti=>(match ti.sh with
     |some s=>lF l H fun H l=>cG 20 s l fun x=>zq T js H fun H r=>K H (⟨false,[(1,.pd s x)]⟩::r)
     |none=>False)
    |none=>False)
   |_=>False):=h
  split at h
  ·rename_i l t hl;split at h
   ·rename_i ti hti;split at h
    ·rename_i s hs;obtain⟨H1,l',⟨h,cp1⟩,M1,s1,c1⟩:=fZ (j9 h fun H' r cp h=>(⟨h,cp⟩:_∧CP H H')) M;obtain⟨x,h,hx⟩:=bu h;obtain⟨H2,caps,hK,M2,s2,cp2,cells,hcap⟩:=oN (js:=js) h M1;refine⟨H2,_,hK,M2,s1.trans s2,cp1.trans cp2,fun k hk=>?_,fun w2 O hf hO hj=>?_⟩
     ·rcases List.mem_cons.1 hk with rfl|hk
      ·exact⟨l,t,cp2 _ _ rfl (cp1 _ _ rfl hl)⟩
      ·exact cells k hk
     ·obtain⟨g,vs,hA,hsg,hw⟩:=M.ent _ (af hl);have hg:g∉O:=hj j (by simp) g hA;have hheap:=hw w rfl;have hd:=aC.mv (s2.mv (X:=X)) (hx _ _ _ _ _ _ (c1 _ hsg));have hd2:aC U gB (· =w2) s x vs:= @aC.mv ⟨[],ao.pr⟩ U (aj ρ H2++X) gB (· =w) (· =w2) (fun w3 h3=>by
       subst h3;exact⟨w,_,rfl,Fr.sub hf hO,fun y hy=>⟨hy,fun h=>(by cases h)⟩,fun y hy=> .inl (List.mem_append_right _ (M.xs y (M.gv.1 y hy)))⟩) s x vs hd
      have gv0:=M.gv.1;have xd0:=M.xd;intro F0 ρ0;refine⟨_,_,rfl,?_,hcap w2 O hf hO (fun k hk=>hj k (by simp[hk])) F0 ρ0⟩;have hA:(ρ j).A=some ⟨g,0,none⟩:=hA;show cM _ _ (Value.pointer (ρ j).A)
      rw[hA];refine gz ⟨g,0,vs,rfl,hd2,fun w3 h3=>?_⟩;subst h3;intro i v hi;refine⟨g,0,rfl,fun hb=>xd0 g (aA.2 ⟨_,af hl,(show ab (ρ j).A=some g by rw[hA];rfl)⟩) (gv0 g hb),?_⟩;have hb:w3.heap[g]? =some (Cl vs t):=by rw[hf.block g (cg hheap) hg];exact hheap
      rw[Nat.zero_add,cell_of_row w3 g i vs.toArray t (0,0) hb];simpa using hi
    ·exact h.elim
   ·exact h.elim
  ·exact h.elim
omit [ao]in
theorem zZ{F0:ao}{Y:List Nat}{w2:World}{ρ0:Nat→Rz}{a:aZ}{t:TT U.ty a}{vs:List Value}{v:Value}(hd:aC U Y (· =w2) a t vs)(hv:d4 (eK a) v vs):cM (@bd F0 U Y (· =w2) ρ0 0 []) ⟨eK a,[(aG U a,.d a t)]⟩ v:=by
 unfold cM;unfold d4 at hv;cases hag:eK a with
 |true=>simp only[hag]at hv⊢;exact⟨vs,hv,vs,[],(List.append_nil _).symm,hd.length,hd,rfl⟩
 |false=>simp only[hag]at hv⊢;subst hv;exact⟨_,[],(List.append_nil _).symm,hd.length,hd,rfl⟩
omit [ao]in
theorem K9{F0:ao}(hx:F0.xf=gB){w2:World}{ρ0:Nat→Rz}(hg:Gv w2): @aX F0 U gB (· =w2) ρ0 ([]:List (aH U)).length (au 0 []):=
 ⟨List.nodup_nil,fun p hp=>(by cases hp),fun p hp=>(by cases hp),fun p hp=>(by cases hp),fun g hg=>(by cases hg),fun w3 h3 g hgm=>(by subst h3;exact hg.lt g hgm),fun z hz=>hx▸hz,⟨fun z hz=>hx▸hz,fun w3 h3=>by subst h3;exact hg⟩⟩
theorem sf{f:FuncId}{c:aW U}{caps:List (Va U)}{a:aZ}{g:TT U.ty a→Bool}{cvs:List Value}{Y:List Nat}(hC:bh P U f c)(hpr:ao.pr=P)(hgv:tQ (· =w))(hr:zr c caps a g)(hcap: ∀w2,mB Y w w2→ ∀(F0:ao) (ρ0:Nat→Rz),bM (@bd F0 U gB (· =w2) ρ0 0 []) caps cvs):y3 U Y (· =w) (.func (.func f) #[] cvs.toArray) a g:=⟨⟨f,cvs,rfl⟩,fun w1 hw1 w2 hl t vs v hd hv=>by
 subst hw1;rw[hpr];refine pZ.ofc cvs ?_;have:= @hC ⟨gB,P⟩ rfl gB w2 (fun _=>(rz none 0)) [] (⟨eK a,[(aG U a,.d a t)]⟩::caps) (v::cvs) _ (K9 rfl (by obtain⟨O,h1,h2⟩:=hl;exact(hgv.2 _ rfl).fr h1 fun o ho hb=>(h2 o ho).1 (hgv.1 o hb))) ⟨v,cvs,rfl,zZ hd hv,hcap w2 hl _ _⟩ (hr t);refine this.mono fun r w3 ⟨x,es',ρ',⟨e1,e2⟩,hav,M',st⟩=>?_;have hfr:= @bQ.fr ⟨gB,P⟩ U _ _ _ _ _ _ _ _ st;subst e1;subst e2;have e: [r]= [Value.bool (g t)]:=aC.inv (show aC U _ _ .bool (g t) [r]from(show bJ _ [(1,.d .bool (g t))] [r]from hav).one1.1);injection e with e;exact⟨e,hfr⟩⟩
theorem sg{f:FuncId}{c:aW U}{caps:List (Va U)}{a b:aZ}{g:TT U.ty a→TT U.ty b→Int}{cvs:List Value}{Y:List Nat}(hC:bh P U f c)(hpr:ao.pr=P)(hgv:tQ (· =w))(hr:zt c caps a b g)(hcap: ∀w2,mB Y w w2→ ∀(F0:ao) (ρ0:Nat→Rz),bM (@bd F0 U gB (· =w2) ρ0 0 []) caps cvs):y4 U Y (· =w) (.func (.func f) #[] cvs.toArray) a b g:=⟨⟨f,cvs,rfl⟩,fun w1 hw1 w2 hl t vs v t' vs' v' hd hv hd' hv'=>by
 subst hw1;rw[hpr];refine pZ.ofc cvs ?_;have:= @hC ⟨gB,P⟩ rfl gB w2 (fun _=>(rz none 0)) [] (⟨eK a,[(aG U a,.d a t)]⟩::⟨eK b,[(aG U b,.d b t')]⟩::caps) (v::v'::cvs) _ (K9 rfl (by obtain⟨O,h1,h2⟩:=hl;exact(hgv.2 _ rfl).fr h1 fun o ho hb=>(h2 o ho).1 (hgv.1 o hb))) ⟨v,_,rfl,zZ hd hv,v',cvs,rfl,zZ hd' hv',hcap w2 hl _ _⟩ (hr t t');refine this.mono fun r w3 ⟨x,es',ρ',⟨e1,e2⟩,hav,M',st⟩=>?_;have hfr:= @bQ.fr ⟨gB,P⟩ U _ _ _ _ _ _ _ _ st;subst e1;subst e2;have e:=aC.inv (show aC U _ _ (.int .i64) (g t t') [r]from(show bJ _ [(1,.d (.int .i64) (g t t'))] [r]from hav).one1.1);obtain⟨e,hin⟩:=e;injection e with e;exact⟨e,hin,hfr⟩⟩
omit [ao]in
theorem iM{f:FuncId}{K:aW U→Prop}(h:oF G f K)(hG:bi P U G): ∃c,K c∧bh P U f c:=by
 unfold oF at h;split at h
 ·rename_i c hc;exact⟨c,h,hG f c hc⟩
 ·exact h.elim
def Cv(U:bD) [F:ao](X:List Nat)(w:World)(ρ:Nat→Rz)(n:Nat)(H:Hs U)(x:Va U)(H':Hs U)(c:Cx U)(Z:List Nat):Prop:=aX U X (· =w) ρ n H'∧bQ ρ n H w ρ n H' w∧CP H H'∧(∀j∈Z,∃l t,aD H' j=some (.cells l t))∧
 ∀F1:ao,F1.pr=F.pr→(∀z∈F.xf,z∈F1.xf)→(∀j∈Z,∀g,(ρ j).A=some ⟨g,0,none⟩→g∈F1.xf)→ ∀v,cM (@Vw F U X w ρ n H) x v→ @bd F1 U (aj ρ H'++X) (· =w) ρ n H' c [v]
omit [ao]in
theorem DL [F:ao](hG:dF P U G){a:aZ}{x:Va U}{K:Hs U→(TT U.ty a→Bool)→List Nat→Prop}(h:C7 T G a x H K)(M:aX U X (· =w) ρ n H): ∃H' g Z,K H' g Z∧Cv U X w ρ n H x H' (.f1 a g) Z:=by
 have gv0:=M.gv;unfold C7 at h;split at h
 ·rename_i k f;obtain⟨c,⟨g,hr,hK⟩,hC⟩:=iM h hG.2;refine⟨H,g,[],hK,M,M.stp0,CP.refl _,fun j hj=>(by cases hj),fun F1 hp hx hz v hv=>?_⟩;have e:=(show bJ _ [(k,.fn f)] [v]from hv).one1.1;have e: [v]= [Value.func (.func f) #[] #[]]:=e;injection e with e;subst e;exact⟨_,rfl,sf (cvs:= []) hC (hp.trans hG.1) ⟨fun z hz=>hx z (gv0.1 z hz),gv0.2⟩ hr fun _ _ _ _=>rfl⟩
 ·rename_i k f js;obtain⟨H1,caps,h,M1,s1,cp,cells,hcap⟩:=oN h M;obtain⟨c,⟨g,hr,hK⟩,hC⟩:=iM h hG.2;refine⟨H1,g,js,hK,M1,s1,cp,cells,fun F1 hp hx hz v hv=>?_⟩;have e:=(show bJ _ [(k,.clo f js)] [v]from hv).one1.1;have e:=e.1;injection e with e;subst e;exact⟨_,rfl,sf hC (hp.trans hG.1) ⟨fun z hz=>hx z (gv0.1 z hz),gv0.2⟩ hr fun w2 ⟨O,hf,hO⟩ F0 ρ0=>hcap w2 O hf (fun o ho=>(hO o ho).2) (fun j hj g hA ho=>(hO g ho).1 (hz j hj g hA)) F0 ρ0⟩
 ·rename_i k a' g;split at h
  ·rename_i g' hc;obtain⟨e1,e2⟩:=dv _ _ _ _ _ hc;subst e1;have e2:g=g':=eq_of_heq e2;subst e2;refine⟨H,g,[],h,M,M.stp0,CP.refl _,fun j hj=>(by cases hj),fun F1 hp hx hz v hv=>?_⟩;exact bd.inst hx hp.symm (show bJ _ [(k,.f1 _ g)] [v]from hv).one1.1
  ·exact h.elim
 ·exact h.elim
omit [ao]in
theorem DM [F:ao](hG:dF P U G){a b:aZ}{x:Va U}{K:Hs U→(TT U.ty a→TT U.ty b→Int)→List Nat→Prop}(h:C8 T G a b x H K)(M:aX U X (· =w) ρ n H): ∃H' g Z,K H' g Z∧Cv U X w ρ n H x H' (.f2 a b g) Z:=by
 have gv0:=M.gv;unfold C8 at h;split at h
 ·rename_i k f;obtain⟨c,⟨g,hr,hK⟩,hC⟩:=iM h hG.2;refine⟨H,g,[],hK,M,M.stp0,CP.refl _,fun j hj=>(by cases hj),fun F1 hp hx hz v hv=>?_⟩;have e:=(show bJ _ [(k,.fn f)] [v]from hv).one1.1;have e: [v]= [Value.func (.func f) #[] #[]]:=e;injection e with e;subst e;exact⟨_,rfl,sg (cvs:= []) hC (hp.trans hG.1) ⟨fun z hz=>hx z (gv0.1 z hz),gv0.2⟩ hr fun _ _ _ _=>rfl⟩
 ·rename_i k f js;obtain⟨H1,caps,h,M1,s1,cp,cells,hcap⟩:=oN h M;obtain⟨c,⟨g,hr,hK⟩,hC⟩:=iM h hG.2;refine⟨H1,g,js,hK,M1,s1,cp,cells,fun F1 hp hx hz v hv=>?_⟩;have e:=(show bJ _ [(k,.clo f js)] [v]from hv).one1.1;have e:=e.1;injection e with e;subst e;exact⟨_,rfl,sg hC (hp.trans hG.1) ⟨fun z hz=>hx z (gv0.1 z hz),gv0.2⟩ hr fun w2 ⟨O,hf,hO⟩ F0 ρ0=>hcap w2 O hf (fun o ho=>(hO o ho).2) (fun j hj g hA ho=>(hO g ho).1 (hz j hj g hA)) F0 ρ0⟩
 ·rename_i k a' b' g;split at h
  ·rename_i g1 hc;obtain⟨e1,e2⟩:=dv _ _ _ _ _ hc;subst e1;have e2:g=g1:=eq_of_heq e2;subst e2;split at h
   ·rename_i g2 hc2;obtain⟨e1,e2⟩:=dv _ _ _ _ _ hc2;subst e1;have e2:g=g2:=eq_of_heq e2;subst e2;refine⟨H,g,[],h,M,M.stp0,CP.refl _,fun j hj=>(by cases hj),fun F1 hp hx hz v hv=>?_⟩;exact bd.inst hx hp.symm (show bJ _ [(k,.f2 _ _ g)] [v]from hv).one1.1
   ·exact h.elim
  ·exact h.elim
 ·exact h.elim
omit [ao]in
theorem bd.same{H1 H':Hs U}(nb: ∀g∈aj ρ H',g∈aj ρ H1∨w.heap.size≤g){F1:ao}{c:Cx U}{vs:List Value}(hc:(∃a g,c= .f1 a g)∨ ∃a b g,c= .f2 a b g)(h: @bd F1 U (aj ρ H1++X) (· =w) ρ n H1 c vs): @bd F1 U (aj ρ H'++X) (· =w) ρ n H' c vs:=by
 have hl: ∀w2, @mB F1 (aj ρ H'++X) w w2→ @mB F1 (aj ρ H1++X) w w2:=fun w2 ⟨O,h1,h2⟩=>⟨O,h1,fun o ho=>⟨(h2 o ho).1,by
  rcases(h2 o ho).2 with h|h
  ·rcases List.mem_append.1 h with h|h
   ·exact(nb o h).imp (fun h=>List.mem_append_left _ h) id
   ·exact .inl (List.mem_append_right _ h)
  ·exact .inr h⟩⟩
 rcases hc with⟨a,g,rfl⟩|⟨a,b,g,rfl⟩
 ·obtain⟨u,e,hf,h⟩:=h;exact⟨u,e,hf,fun w1 h1 w2 h2=>by subst h1;exact h _ rfl w2 (hl w2 h2)⟩
 ·obtain⟨u,e,hf,h⟩:=h;exact⟨u,e,hf,fun w1 h1 w2 h2=>by subst h1;exact h _ rfl w2 (hl w2 h2)⟩
theorem Gi{ag:Bool}{s:aZ}{t:TT U.ty s}{Y:List Nat}{v:Value}(hd:aC U Y (· =w) s t v.cells.toList)(hv:d4 ag v v.cells.toList):cM (bd U Y (· =w) ρ n H) ⟨ag,[(aG U s,.d s t)]⟩ v:=by
 have hseg:bJ (bd U Y (· =w) ρ n H) [(aG U s,.d s t)] v.cells.toList:=⟨_,[],(List.append_nil _).symm,hd.length,hd,rfl⟩;unfold cM;unfold d4 at hv;cases ag with
 |true=>exact⟨_,hv,hseg⟩
 |false=>exact hv▸hseg
omit [ao]in
theorem nJ [F:ao](hG:dF P U G): ∀{md:List Md} {xs:List (Va U)} {H:Hs U} {K:Hs U→List (Va U)→List Nat→Prop},HU T G md xs H K→aX U X (· =w) ρ n H→ ∃H' xs' Z,K H' xs' Z∧aX U X (· =w) ρ n H'∧bQ ρ n H w ρ n H' w∧CP H H'∧(∀j∈Z,∃l t,aD H' j=some (.cells l t))∧
  ∀F1:ao,F1.pr=F.pr→(∀z∈F.xf,z∈F1.xf)→(∀j∈Z,∀g,(ρ j).A=some ⟨g,0,none⟩→g∈F1.xf)→ ∀vs,bM (@Vw F U X w ρ n H) xs vs→bM (@Vw F1 U X w ρ n H') xs' vs
 | [],xs,H,K,h,M=>⟨H,xs,[],h,M,M.stp0,CP.refl _,fun j hj=>(by cases hj),fun F1 hp hx hz vs hv=>bM.imp (fun _ _ h=>bd.inst hx hp.symm h) hv⟩
 |m::md,[],H,K,h,M=>⟨H,[],[],h,M,M.stp0,CP.refl _,fun j hj=>(by cases hj),fun F1 hp hx hz vs hv=>hv⟩
 | .n::md,x::xs,H,K,h,M=>by
  have h:HU T G md xs H fun H r Z=>K H (x::r) Z:=h;obtain⟨H',xs',Z,h,M',s',cp,cells,c'⟩:=nJ hG (md:=md) h M;have hs: ∀v,cM (Vw U X w ρ n H) x v→cM (Vw U X w ρ n H') x v:=fun v h1=>h1.imp fun _ _ h=>h.step s';refine⟨H',_,Z,h,M',s',cp,cells,fun F1 hp hx hz vs hv=>?_⟩;obtain⟨v,us,e1,h1,h2⟩:=hv;exact⟨v,us,e1,(hs v h1).imp fun _ _ h=>bd.inst hx hp.symm h,c' F1 hp hx hz _ h2⟩
 | .p _::md,x::xs,H,K,h,M=>by
  have h:HU T G md xs H fun H r Z=>K H (x::r) Z:=h;obtain⟨H',xs',Z,h,M',s',cp,cells,c'⟩:=nJ hG (md:=md) h M;have hs: ∀v,cM (Vw U X w ρ n H) x v→cM (Vw U X w ρ n H') x v:=fun v h1=>h1.imp fun _ _ h=>h.step s';refine⟨H',_,Z,h,M',s',cp,cells,fun F1 hp hx hz vs hv=>?_⟩;obtain⟨v,us,e1,h1,h2⟩:=hv;exact⟨v,us,e1,(hs v h1).imp fun _ _ h=>bd.inst hx hp.symm h,c' F1 hp hx hz _ h2⟩
 | .d s::md,x::xs,H,K,h,M=>by
  have h:lF x.l H fun H l=>cG 20 s l fun t=>HU T G md xs H fun H r Z=>K H (⟨x.ag,[(aG U s,.d s t)]⟩::r) Z:=h;obtain⟨H1,l',⟨h,cp1⟩,M1,s1,c1⟩:=fZ (j9 h fun H' r cp h=>(⟨h,cp⟩:_∧CP H H')) M;obtain⟨t,h,ht⟩:=bu h;obtain⟨H',xs',Z,h,M',s',cp,cells,c'⟩:=nJ hG (md:=md) h M1;have d1: ∀u,cM (Vw U X w ρ n H) x u→aC U (aj ρ H'++X) (· =w) s t u.cells.toList:=fun u hu=>aC.mv (s'.mv (X:=X)) (ht _ _ _ _ _ _ (c1 _ hu.cells));have hA: ∀u,cM (Vw U X w ρ n H) x u→d4 x.ag u u.cells.toList:=fun u hu=>rQ hu;have hs: ∀us,bM (Vw U X w ρ n H) xs us→bM (Vw U X w ρ n H1) xs us:=fun us hu=>bM.imp (fun _ _ h=>h.step s1) hu;refine⟨H',_,Z,h,M',s1.trans s',cp1.trans cp,cells,fun F1 hp hx hz vs hv=>?_⟩;obtain⟨v,us,e1,h1,h2⟩:=hv;exact⟨v,us,e1,Gi (d1 v h1) (hA v h1),c' F1 hp hx hz _ (hs _ h2)⟩
 | .f1 a::md,x::xs,H,K,h,M=>by
  have h:C7 T G a x H fun H g js=>HU T G md xs H fun H r Z=>K H (⟨false,[(1,.f1 a g)]⟩::r) (js++Z):=h;obtain⟨H1,g,js,h,M1,s1,cp1,cells1,cv⟩:=DL hG h M;obtain⟨H',xs',Z,h,M',s',cp,cells,c'⟩:=nJ hG (md:=md) h M1;have hs: ∀us,bM (Vw U X w ρ n H) xs us→bM (Vw U X w ρ n H1) xs us:=fun us hu=>bM.imp (fun _ _ h=>h.step s1) hu;have nb:=s'.nb;refine⟨H',_,js++Z,h,M',s1.trans s',cp1.trans cp,fun j hj=>?_,fun F1 hp hx hz vs hv=>?_⟩
  ·rcases List.mem_append.1 hj with hj|hj
   ·obtain⟨l,t,hl⟩:=cells1 j hj;exact⟨l,t,cp _ _ rfl hl⟩
   ·exact cells j hj
  ·obtain⟨v,us,e1,h1,h2⟩:=hv;refine⟨v,us,e1,gz ?_,c' F1 hp hx (fun j hj=>hz j (List.mem_append_right _ hj)) _ (hs _ h2)⟩;exact bd.same nb (.inl ⟨_,_,rfl⟩) (cv F1 hp hx (fun j hj=>hz j (List.mem_append_left _ hj)) v h1)
 | .f2 a b::md,x::xs,H,K,h,M=>by
  have h:C8 T G a b x H fun H g js=>HU T G md xs H fun H r Z=>K H (⟨false,[(1,.f2 a b g)]⟩::r) (js++Z):=h;obtain⟨H1,g,js,h,M1,s1,cp1,cells1,cv⟩:=DM hG h M;obtain⟨H',xs',Z,h,M',s',cp,cells,c'⟩:=nJ hG (md:=md) h M1;have hs: ∀us,bM (Vw U X w ρ n H) xs us→bM (Vw U X w ρ n H1) xs us:=fun us hu=>bM.imp (fun _ _ h=>h.step s1) hu;have nb:=s'.nb;refine⟨H',_,js++Z,h,M',s1.trans s',cp1.trans cp,fun j hj=>?_,fun F1 hp hx hz vs hv=>?_⟩
  ·rcases List.mem_append.1 hj with hj|hj
   ·obtain⟨l,t,hl⟩:=cells1 j hj;exact⟨l,t,cp _ _ rfl hl⟩
   ·exact cells j hj
  ·obtain⟨v,us,e1,h1,h2⟩:=hv;refine⟨v,us,e1,gz ?_,c' F1 hp hx (fun j hj=>hz j (List.mem_append_right _ hj)) _ (hs _ h2)⟩;exact bd.same nb (.inr ⟨_,_,_,rfl⟩) (cv F1 hp hx (fun j hj=>hz j (List.mem_append_left _ hj)) v h1)
theorem si: ∀{fs:List (Nat×Option aZ)} {H:Hs U} {l:List (cd U)} {K:Hs U→List (cd U)→Prop},C6 fs H l K→aX U X (· =w) ρ n H→ ∃H' l',K H' l'∧CP H H'∧aX U X (· =w) ρ n H'∧bQ ρ n H w ρ n H' w∧ ∀vs,bJ (Vw U X w ρ n H) l vs→bJ (Vw U X w ρ n H') l' vs
 | [],H,l,K,h,M=>⟨H,l,h,CP.refl _,M,M.stp0,fun _ h=>h⟩
 |(k,o)::fs,H,l,K,h,M=>by
  have h:tK 40 l k fun l1=>gQ 40 l k fun l2=>match (generalizing:=false) o with
   |some s=>bif Nat.beq k (aG U s)then lF l1 H fun H l1=>cG 20 s l1 fun u=>C6 fs H l2 fun H r=>K H ((k,.d s u)::r)else False
   |none=>C6 fs H l2 fun H r=>qF l1 r fun r=>K H r:=h
  obtain⟨l1,h,h1⟩:=gu h;obtain⟨l2,h,h2⟩:=fj h;cases o with
  |none=>
   obtain⟨H',l',h,cp,M',s',c'⟩:=si (fs:=fs) h M;refine⟨H',_,mG h,cp,M',s',fun vs hs=>?_⟩;obtain⟨a1,a2⟩:=h1 _ _ _ _ _ _ hs;obtain⟨a3,_⟩:=h2 _ _ _ _ _ _ hs;have:=bJ.app (a1.imp fun _ _ h=>h.step s') (c' _ a3)
   rwa [List.take_append_drop]at this
  |some s=>
   simp only at h;cases hb:Nat.beq k (aG U s)with
   |false=>rw[hb]at h;exact h.elim
   |true=>
    rw[hb]at h;simp only[cond_true]at h;obtain⟨H1,l3,⟨h,cp1⟩,M1,s1,c1⟩:=fZ (j9 h fun H' r cp h=>(⟨h,cp⟩:_∧CP H H')) M;obtain⟨u,h,hu⟩:=bu h;obtain⟨H',l',h,cp,M',s',c'⟩:=si (fs:=fs) h M1;refine⟨H',_,h,cp1.trans cp,M',s1.trans s',fun vs hs=>?_⟩;obtain⟨a1,a2⟩:=h1 _ _ _ _ _ _ hs;obtain⟨a3,_⟩:=h2 _ _ _ _ _ _ hs;have d1:=aC.mv (s'.mv (X:=X)) (hu _ _ _ _ _ _ (c1 _ a1));exact⟨vs.take k,vs.drop k,(List.take_append_drop _ _).symm,by rw[List.length_take];omega,d1,c' _ (a3.imp fun _ _ h=>h.step s1)⟩
theorem wY{fs:List (Nat×Option aZ)}{j:Nat}{K:Hs U→Prop}(h:x8 fs j H K)(M:aX U X (· =w) ρ n H): ∃H',K H'∧aX U X (· =w) ρ n H'∧bQ ρ n H w ρ n H' w:=by
 unfold x8 at h;split at h
 ·rename_i l t hl;obtain⟨H1,l',h,cp,M1,s1,c1⟩:=si h M;have hl1:=cp _ _ rfl hl;have hK:=bU h;obtain⟨g,vs,hA,hs,hw⟩:=M.ent _ (af hl);have hb0: ∀g,Lv (bR ρ j (ρ j)) (j,(.cells l' t:aH U)) g→Lv ρ (j,(.cells l t:aH U)) g∨w.heap.size≤g:=fun g hg=>by rw[aU]at hg;exact .inl hg
  have hr0: ∀v' l'' m',bg (some (.cells l' t:aH U))=some (v',l'',m')→ ∃v0 l0 m,bg (some (.cells l t:aH U))=some (v0,l0,m)∧v0≤v'∧(v0=v'→ρ j=ρ j∧l''=l0∧m'=m):=fun v' l'' m' hr=>by cases hr
  have hf:Fr (gy ρ (j,(.cells l t:aH U))) w w:=Fr.refl _ _;have st:=bQ.upd (n:=n) M1.xd M1.nd hl1 hf (ρ j) hb0 hr0 (fun _=>rfl);rw[aU]at st;have M':=M1.upd hl1 hf (ρ j) hb0 hr0 (fun _=>rfl) (x:= .cells l' t) (by
   rw[aU];exact⟨g,vs,hA,(c1 vs hs).imp fun _ _ h=>h.step st,hw⟩)
  rw[aU]at M';exact⟨_,hK,M',s1.trans st⟩
 ·exact h.elim
theorem z7: ∀{em:List (Nat×List (Nat×Option aZ))} {H:Hs U} {K:Hs U→Prop},Oh em H K→aX U X (· =w) ρ n H→ ∃H',K H'∧aX U X (· =w) ρ n H'∧bQ ρ n H w ρ n H' w
 | [],H,K,h,M=>⟨H,h,M,M.stp0⟩
 |x::em,H,K,h,M=>by
  obtain⟨H1,h,M1,s1⟩:=wY (show x8 x.2 x.1 H (fun H=>Oh em H K)from h) M;obtain⟨H2,h,M2,s2⟩:=z7 (em:=em) h M1;exact⟨H2,h,M2,s1.trans s2⟩
theorem ki: ∀{md:List Md} {xs:List (Va U)} {H:Hs U} {K:Hs U→Prop},Kr md xs H K→aX U X (· =w) ρ n H→ ∃H',K H'∧aX U X (· =w) ρ n H'∧bQ ρ n H w ρ n H' w
 | [],xs,H,K,h,M=>⟨H,h,M,M.stp0⟩
 |m::md,[],H,K,h,M=>⟨H,h,M,M.stp0⟩
 | .n::md,x::xs,H,K,h,M=>ki (md:=md) (xs:=xs) h M
 | .d _::md,x::xs,H,K,h,M=>ki (md:=md) (xs:=xs) h M
 | .f1 _::md,x::xs,H,K,h,M=>ki (md:=md) (xs:=xs) h M
 | .f2 _ _::md,x::xs,H,K,h,M=>ki (md:=md) (xs:=xs) h M
 | .p fs::md,x::xs,H,K,h,M=>by
  have h:(match (generalizing:=false) x with
    |⟨false,(_,.ptr j 0):: []⟩=>x8 fs j H fun H=>Kr md xs H K
    |⟨false,(_,.nilp):: []⟩=>Kr md xs H K
    |_=>False):=h
  split at h
  ·obtain⟨H1,h,M1,s1⟩:=wY h M;obtain⟨H2,h,M2,s2⟩:=ki (md:=md) (xs:=xs) h M1;exact⟨H2,h,M2,s1.trans s2⟩
  ·exact ki (md:=md) (xs:=xs) h M
  ·exact h.elim
theorem nL: ∀{md:List Md} {xs:List (Va U)} {H:Hs U} {K:Hs U→List (Va U)→Prop},Gb md xs H K→aX U X (· =w) ρ n H→ ∃H' xs',K H' xs'∧aX U X (· =w) ρ n H'∧bQ ρ n H w ρ n H' w∧ ∀vs,bM (Vw U X w ρ n H) xs vs→bM (Vw U X w ρ n H') xs' vs
 | [],xs,H,K,h,M=>⟨H,xs,h,M,M.stp0,fun _ h=>h⟩
 |m::md,[],H,K,h,M=>⟨H,[],h,M,M.stp0,fun _ h=>h⟩
 | .n::md,x::xs,H,K,h,M=>by
  have h:Gb md xs H fun H r=>K H (x::r):=h;obtain⟨H',xs',h,M',s',c'⟩:=nL (md:=md) h M;refine⟨H',_,h,M',s',fun vs hv=>?_⟩;obtain⟨v,us,e1,h1,h2⟩:=hv;exact⟨v,us,e1,h1.imp fun _ _ h=>h.step s',c' _ h2⟩
 | .f1 _::md,x::xs,H,K,h,M=>by
  have h:Gb md xs H fun H r=>K H (x::r):=h;obtain⟨H',xs',h,M',s',c'⟩:=nL (md:=md) h M;refine⟨H',_,h,M',s',fun vs hv=>?_⟩;obtain⟨v,us,e1,h1,h2⟩:=hv;exact⟨v,us,e1,h1.imp fun _ _ h=>h.step s',c' _ h2⟩
 | .f2 _ _::md,x::xs,H,K,h,M=>by
  have h:Gb md xs H fun H r=>K H (x::r):=h;obtain⟨H',xs',h,M',s',c'⟩:=nL (md:=md) h M;refine⟨H',_,h,M',s',fun vs hv=>?_⟩;obtain⟨v,us,e1,h1,h2⟩:=hv;exact⟨v,us,e1,h1.imp fun _ _ h=>h.step s',c' _ h2⟩
 | .p _::md,x::xs,H,K,h,M=>by
  have h:Gb md xs H fun H r=>K H (x::r):=h;obtain⟨H',xs',h,M',s',c'⟩:=nL (md:=md) h M;refine⟨H',_,h,M',s',fun vs hv=>?_⟩;obtain⟨v,us,e1,h1,h2⟩:=hv;exact⟨v,us,e1,h1.imp fun _ _ h=>h.step s',c' _ h2⟩
 | .d s::md,x::xs,H,K,h,M=>by
  have h:zj s H x fun H t=>Gb md xs H fun H r=>K H (⟨x.ag,[(aG U s,.d s t)]⟩::r):=h;obtain⟨H1,t,h,M1,s1,d1⟩:=pm h M;obtain⟨H',xs',h,M',s',c'⟩:=nL (md:=md) h M1;refine⟨H',_,h,M',s1.trans s',fun vs hv=>?_⟩;obtain⟨v,us,e1,h1,h2⟩:=hv;have hd:=aC.mv (s'.mv (X:=X)) (d1 v h1);have hseg:bJ (Vw U X w ρ n H') [(aG U s,.d s t)] v.cells.toList:=⟨_,[],(List.append_nil _).symm,hd.length,hd,rfl⟩;refine⟨v,us,e1,?_,c' _ ?_⟩
  ·unfold cM at h1⊢;cases hag:x.ag with
   |true=>
    simp only[hag]at h1⊢;obtain⟨ws,rfl,_⟩:=h1;exact⟨ws,rfl,by simpa[Value.cells]using hseg⟩
   |false=>
    simp only[hag]at h1⊢;have:=h1.one v (by simp);have e:v.cells.toList= [v]:=by cases v<;>first|rfl|(simp[Value.oneCell']at this)
    rw[e]at hseg;exact hseg
  ·exact bM.imp (fun _ _ h=>h.step s1) h2
omit [ao]in
theorem sj: ∀{es:List (aH U)} {L:List Nat} {n:Nat} {K:List Nat→Nat→Prop},C9 es L n K→ ∃L2 n2,K L2 n2∧L2.length=es.length∧n≤n2∧(L.length≤es.length→ ∀(j:Nat),j<L.length→L2[j]? =L[j]?)∧ ∀(j:Nat),L.length≤j→j<es.length→L2[j]? =some (n+(j - L.length))∧n+(j - L.length)<n2
 | [],L,n,K,h=>⟨[],n,h,rfl,Nat.le_refl _,fun h j hj=>by simp at h;subst h;rfl,fun j _ hj=>by simp at hj⟩
 |x::es,i::L,n,K,h=>by
  obtain⟨L2,n2,h,h1,h2,h3,h4⟩:=sj (es:=es) (show C9 es L n (fun l n=>K (i::l) n)from h);refine⟨_,n2,h,by simp[h1],h2,fun hle j hj=>?_,fun j hj1 hj2=>?_⟩
  ·cases j with
   |zero=>rfl
   |succ j=>simpa using h3 (by simpa using hle) j (by simpa using hj)
  ·cases j with
   |zero=>simp at hj1
   |succ j=>
    simp only[List.length_cons]at hj1 hj2⊢;have:=h4 j (by omega) (by omega);rw[show j+1 -(L.length+1)=j - L.length by omega];simpa using this
 |x::es,[],n,K,h=>by
  obtain⟨L2,n2,h,h1,h2,h3,h4⟩:=sj (es:=es) (show C9 es [] (n+1) (fun l n'=>K (n::l) n')from h);refine⟨_,n2,h,by simp[h1],by omega,fun hle j hj=>by simp at hj,fun j hj1 hj2=>?_⟩;simp only[List.length_cons]at hj2;cases j with
  |zero=>exact⟨rfl,by simp;omega⟩
  |succ j=>
   have:=h4 j (by simp) (by omega);simp only[List.length_nil,Nat.sub_zero]at this⊢;rw[show n+(j+1)=n+1+j by omega];simpa using this
def mO:List Nat→Nat→Option Nat
 | [],_=>none
 |a::L,i=>bif Nat.beq a i then some 0 else(mO L i).map (· +1)
omit [ao]in
theorem mP: ∀{L:List Nat} {i j:Nat},mO L i=some j→L[j]? =some i
 |a::L,i,j,h=>by
  unfold mO at h;cases hb:Nat.beq a i with
  |true=>rw[hb]at h;injection h with h;subst h;rw[Nat.eq_of_beq_eq_true hb];rfl
  |false=>
   rw[hb]at h;simp only[cond_false,Option.map_eq_some_iff]at h;obtain⟨k,hk,rfl⟩:=h;simpa using mP hk
omit [ao]in
theorem sm: ∀{L:List Nat} {i j:Nat},L.Nodup→L[j]? =some i→mO L i=some j
 |a::L,i,j,hn,h=>by
  unfold mO;rw[List.nodup_cons]at hn;cases j with
  |zero=>simp at h;subst h;rw[Nat.beq_refl];rfl
  |succ j=>
   simp at h;have: ¬a=i:=by rintro rfl;exact hn.1 (List.mem_of_getElem? h)
   rw[cu this,sm hn.2 h];rfl
def mQ(ρ ρ':Nat→Rz)(L:List Nat):Nat→Rz:=fun i=>match mO L i with
 |some j=>ρ' j
 |none=>ρ i
def qK(H:Hs U)(i:Nat):Nat:=match aD H i with
 |some (.row v _ _ _)=>v
 |some (.ext v _ _ _)=>v
 |_=>0
omit [ao]in
theorem oO{i v:Nat}{K:Nat→Prop}(h:rV H i v K):K (qK H i+v):=by
 unfold rV at h;unfold qK;split at h
 ·rename_i hl;rw[hl];exact h
 ·rename_i hl;rw[hl];exact h
 ·rename_i hn hn2;have:(match aD H i with|some (.row v _ _ _)=>v|some (.ext v _ _ _)=>v|_=>0)=0:=by
   split
   ·rename_i hl;exact absurd hl (hn _ _ _ _)
   ·rename_i hl;exact absurd hl (hn2 _ _ _ _)
   ·rfl
  rw[this,Nat.zero_add];exact h
structure jC(H0:Hs U)(L:List Nat)(Yc:List Nat)(ρ':Nat→Rz)(es:List (aH U))(Yf:List Nat)(ρf:Nat→Rz)(nf:Nat)(Hf:Hs U):Prop where
 Y: ∀y∈Yf,y∈Yc
 at_: ∀(j i:Nat),L[j]? =some i→i<nf∧ρf i=ρ' j∧(∀v' l m,bg (aD Hf i)=some (v',l,m)→ ∃v,bg es[j]? =some (v,l,m)∧v'=qK H0 i+v)∧(bg es[j]? =none→bg (aD Hf i)=none)
omit [ao]in
theorem da{α:Type}: ∀{l:List α} {j:Nat},dT l j=l[j]?
 | [],j=>by cases j<;>rfl
 |_::_,0=>rfl
 |_::l,j+1=>by simpa[dT]using da (l:=l) (j:=j)
variable {H0:Hs U} {Yc:List Nat}
omit [ao]in
theorem Aa{F1:ao} [F:ao]{x:Cx U}{K:Cx U→Prop}(h:qW H0 L x K): ∃y,K y∧ ∀Yf ρf nf Hf,jC H0 L Yc ρ' es Yf ρf nf Hf→ ∀vs, @bd F1 U Yc (· =w') ρ' es.length (au 0 es) x vs→bd U Yf (· =w') ρf nf Hf y vs:=by
 have mvY: ∀{Yf ρf nf Hf},jC H0 L Yc ρ' es Yf ρf nf Hf→Mv Yc (· =w') Yf (· =w'):=fun b w2 h2=>⟨w2,[],h2,Fr.refl _ _,fun _ h=>(by cases h),fun y hy=> .inl (b.Y y hy)⟩;cases x with
 |own j v=>
  unfold qW at h;simp only at h;split at h
  ·rename_i i hi;rw[da]at hi;have h:=oO h;refine⟨_,h,fun Yf ρf nf Hf b vs hv=>?_⟩;obtain⟨h1,h2,h3,h4⟩:=b.at_ j i hi;obtain⟨hj,A,l,c,e,hn⟩:=hv;refine⟨h1,A,l,c,e,fun v' l' m' hr=>?_⟩;obtain⟨v1,hr1,hv1⟩:=h3 _ _ _ hr;obtain⟨a1,a2⟩:=hn _ _ _ (by rw[eJ];exact hr1);subst hv1;exact⟨by omega,fun h=>by rw[h2];exact a2 (by omega)⟩
  ·exact⟨.un,h,fun Yf ρf nf Hf b vs hv=>by obtain⟨_,A,l,c,e,_⟩:=hv;exact⟨_,e,rfl⟩⟩
 |ptr j off=>
  unfold qW at h;simp only at h;split at h
  ·rename_i i hi;rw[da]at hi;refine⟨_,h,fun Yf ρf nf Hf b vs hv=>?_⟩;obtain⟨h1,h2,h3,h4⟩:=b.at_ j i hi;obtain⟨hj,hr,g,hA,e⟩:=hv;exact⟨h1,h4 (by rw[←eJ];exact hr),g,by rw[h2];exact hA,e⟩
  ·exact⟨.un,h,fun Yf ρf nf Hf b vs hv=>by obtain⟨_,_,g,_,e⟩:=hv;exact⟨_,e,rfl⟩⟩
 |pel j v q off=>exact⟨.un,h,fun Yf ρf nf Hf b vs hv=>by obtain⟨_,a,e,_⟩:=hv;exact⟨_,e,rfl⟩⟩
 |pax i off m s q o=>exact⟨.un,h,fun Yf ρf nf Hf b vs hv=>by obtain⟨_,_,_,_,g,_,e⟩:=hv;exact⟨_,e,rfl⟩⟩
 |clo f js=>
  match js,h with
  | [],h=>exact⟨.un,h,fun Yf ρf nf Hf b vs hv=>⟨_,hv.1,rfl⟩⟩
  |_::_::_,h=>exact⟨.un,h,fun Yf ρf nf Hf b vs hv=>⟨_,hv.1,rfl⟩⟩
  |j:: [],h=>
   have h:(match dT L j with|some i=>K (.clo f [i])|none=>K .un):=h;split at h
   ·rename_i i hi;rw[da]at hi;refine⟨_,h,fun Yf ρf nf Hf b vs hv=>?_⟩;obtain⟨h1,h2,h3,h4⟩:=b.at_ j i hi;obtain⟨e,hall⟩:=hv;obtain⟨hj,hr,g,hA⟩:=hall j (by simp);exact⟨by rw[e];simp[h2],fun k hk=>by
     have hk:=List.mem_singleton.1 hk;subst hk;exact⟨h1,h4 (by rw[←eJ];exact hr),g,by rw[h2];exact hA⟩⟩
   ·exact⟨.un,h,fun Yf ρf nf Hf b vs hv=>⟨_,hv.1,rfl⟩⟩
 |f1 a g=>exact⟨.un,h,fun Yf ρf nf Hf b vs hv=>by obtain⟨u,e,⟨f,ca,e2⟩,_⟩:=hv;exact⟨u,e,by rw[e2];rfl⟩⟩
 |f2 a c g=>exact⟨.un,h,fun Yf ρf nf Hf b vs hv=>by obtain⟨u,e,⟨f,ca,e2⟩,_⟩:=hv;exact⟨u,e,by rw[e2];rfl⟩⟩
 |mp j=>
  unfold qW at h;simp only at h;split at h
  ·rename_i i hi;rw[da]at hi;refine⟨_,h,fun Yf ρf nf Hf b vs hv=>?_⟩;obtain⟨h1,h2,h3,h4⟩:=b.at_ j i hi;obtain⟨hj,hr,g,hA,e⟩:=hv;exact⟨h1,h4 (by rw[←eJ];exact hr),g,by rw[h2];exact hA,e⟩
  ·exact⟨.un,h,fun Yf ρf nf Hf b vs hv=>by obtain⟨_,_,g,_,e⟩:=hv;exact⟨_,e,rfl⟩⟩
 |d s t=>exact⟨_,h,fun Yf ρf nf Hf b vs hv=>aC.mv (mvY b) hv⟩
 |pd s t=>exact⟨_,h,fun Yf ρf nf Hf b vs hv=>by obtain⟨g,b0,us,e,hd,hr⟩:=hv;exact⟨g,b0,us,e,aC.mv (mvY b) hd,hr.mv (mvY b)⟩⟩
 |nilp=>exact⟨_,h,fun Yf ρf nf Hf b vs hv=>hv⟩
 |nils=>exact⟨_,h,fun Yf ρf nf Hf b vs hv=>hv⟩
 |nilf=>exact⟨_,h,fun Yf ρf nf Hf b vs hv=>hv⟩
 |nilm=>exact⟨_,h,fun Yf ρf nf Hf b vs hv=>hv⟩
 |fn f=>exact⟨_,h,fun Yf ρf nf Hf b vs hv=>hv⟩
 |un=>exact⟨_,h,fun Yf ρf nf Hf b vs hv=>hv⟩
omit [ao]in
theorem mR{F1:ao} [F:ao]: ∀{l:List (cd U)} {K:List (cd U)→Prop},og H0 L l K→ ∃l',K l'∧ ∀Yf ρf nf Hf,jC H0 L Yc ρ' es Yf ρf nf Hf→ ∀vs,bJ (@bd F1 U Yc (· =w') ρ' es.length (au 0 es)) l vs→bJ (bd U Yf (· =w') ρf nf Hf) l' vs
 | [],K,h=>⟨[],h,fun _ _ _ _ _ _ hs=>hs⟩
 |(k,x)::l,K,h=>by
  have h:qW H0 L x fun y=>og H0 L l fun r=>K ((k,y)::r):=h;obtain⟨y,h,hy⟩:=Aa (Yc:=Yc) (ρ':=ρ') (es:=es) (w':=w') h;obtain⟨l',h,hl⟩:=mR (l:=l) h;refine⟨_,h,fun Yf ρf nf Hf b vs hs=>?_⟩;obtain⟨v1,v2,e,hk,hx,hr⟩:=hs;exact⟨v1,v2,e,hk,hy _ _ _ _ b _ hx,hl _ _ _ _ b _ hr⟩
omit [ao]in
theorem so{V V':Cx U→List Value→Prop}{a:Bool}{l l':List (cd U)}(h: ∀vs,bJ V l vs→bJ V' l' vs){v:Value}(hv:cM V ⟨a,l⟩ v):cM V' ⟨a,l'⟩ v:=by
 unfold cM at hv⊢;cases a with
 |true=>obtain⟨vs,e,hs⟩:=hv;exact⟨vs,e,h _ hs⟩
 |false=>exact h _ hv
omit [ao]in
theorem re{F1:ao} [F:ao]: ∀{l:List (Va U)} {K:List (Va U)→Prop},rW H0 L l K→ ∃l',K l'∧ ∀Yf ρf nf Hf,jC H0 L Yc ρ' es Yf ρf nf Hf→ ∀vs,bM (@bd F1 U Yc (· =w') ρ' es.length (au 0 es)) l vs→bM (bd U Yf (· =w') ρf nf Hf) l' vs
 | [],K,h=>⟨[],h,fun _ _ _ _ _ _ hs=>hs⟩
 |x::l,K,h=>by
  have h:og H0 L x.l fun l1=>rW H0 L l fun r=>K (⟨x.ag,l1⟩::r):=h;obtain⟨l1,h,h1⟩:=mR (Yc:=Yc) (ρ':=ρ') (es:=es) (w':=w') h;obtain⟨l',h,hl⟩:=re (l:=l) h;refine⟨_,h,fun Yf ρf nf Hf b vs hs=>?_⟩;obtain⟨v,us,e,hx,hr⟩:=hs;exact⟨v,us,e,so (h1 _ _ _ _ b) hx,hl _ _ _ _ b _ hr⟩
omit [ao]in
theorem Ab{F1:ao} [F:ao]{x:AV U}{K:AV U→Prop}(h:Gc H0 L x K): ∃y,K y∧(∀z,x= .pan z↔y= .pan z)∧ ∀Yf ρf nf Hf,jC H0 L Yc ρ' es Yf ρf nf Hf→ ∀v,nv (@bd F1 U Yc (· =w') ρ' es.length (au 0 es)) x v→nv (bd U Yf (· =w') ρf nf Hf) y v:=by
 cases x with
 |v x=>
  obtain⟨l',h,hl⟩:=mR (Yc:=Yc) (ρ':=ρ') (es:=es) (w':=w') (show og H0 L x.l (fun l=>K (.v ⟨x.ag,l⟩))from h);exact⟨_,h,fun _=>⟨fun q=>(by cases q),fun q=>(by cases q)⟩,fun Yf ρf nf Hf b v hv=>so (hl _ _ _ _ b) hv⟩
 |tup l=>
  obtain⟨l',h,hl⟩:=re (Yc:=Yc) (ρ':=ρ') (es:=es) (w':=w') (show rW H0 L l (fun l=>K (.tup l))from h);exact⟨_,h,fun _=>⟨fun q=>(by cases q),fun q=>(by cases q)⟩,fun Yf ρf nf Hf b v hv=>by obtain⟨us,e,hs⟩:=hv;exact⟨us,e,hl _ _ _ _ b _ hs⟩⟩
 |pan z=>exact⟨.pan z,h,fun _=>Iff.rfl,fun _ _ _ _ _ _ _=>trivial⟩
 |gd p x=>exact⟨.un,h,fun _=>⟨fun q=>(by cases q),fun q=>(by cases q)⟩,fun _ _ _ _ _ _ _=>trivial⟩
 |un=>exact⟨.un,h,fun _=>⟨fun q=>(by cases q),fun q=>(by cases q)⟩,fun _ _ _ _ _ _ _=>trivial⟩
end
end Go.Proofs.YtmpeiadlohbikaaGreatDoor.V
end

section
set_option linter.unusedVariables false
set_option linter.unusedSimpArgs false
namespace Go.Proofs.YtmpeiadlohbikaaGreatDoor.V
open Go.RowKit
section
variable [ao] {U:bD} {P:Program} {nt:Nat} {T:cW U} {G:c6 U} {X:List Nat} {w w':World} {ρ ρ':Nat→Rz} {n:Nat} {H H0:Hs U} {L:List Nat} {es:List (aH U)} {Yc:List Nat}
def vJ(F1:ao) [F:ao](U:bD)(H0:Hs U)(L Yc:List Nat)(w':World)(ρ':Nat→Rz)(es:List (aH U))(i:Nat)(x y:aH U):Prop:=match x with
 | .cells l t=> ∃l',y= .cells l' t∧ ∀Yf ρf nf Hf,jC H0 L Yc ρ' es Yf ρf nf Hf→ ∀vs,bJ (@bd F1 U Yc (· =w') ρ' es.length (au 0 es)) l vs→bJ (bd U Yf (· =w') ρf nf Hf) l' vs
 | .row v s xs t=>y= .row (qK H0 i+v) s xs t
 | .frz v s xs=>y= .frz (qK H0 i+v) s xs
 | .map d l=>y= .map d l
 | .ext v d xs none=>y= .ext (qK H0 i+v) d xs none
 |_=>y= .dead
omit [ao]in
theorem Ac{F1:ao} [F:ao]{i:Nat}{x:aH U}{K:aH U→Prop}(h:zw H0 L i x K): ∃y,K y∧vJ F1 U H0 L Yc w' ρ' es i x y:=by
 cases x with
 |cells l t=>
  obtain⟨l',h,hl⟩:=mR (Yc:=Yc) (ρ':=ρ') (es:=es) (w':=w') (show og H0 L l (fun l=>K (.cells l t))from h);exact⟨_,h,l',rfl,hl⟩
 |row v s xs t=>
  have h:rV H0 i v fun v=>K (.row v s xs t):=h;exact⟨_,oO h,rfl⟩
 |frz v s xs=>
  have h:rV H0 i v fun v=>K (.frz v s xs):=h;exact⟨_,oO h,rfl⟩
 |map d l=>exact⟨_,h,rfl⟩
 |mapr d l r q g=>exact⟨_,h,rfl⟩
 |it i g=>exact⟨_,h,rfl⟩
 |ext v d xs op=>cases op with
  |none=>
   have h:rV H0 i v fun v=>K (.ext v d xs none):=h;exact⟨_,oO h,rfl⟩
  |some o=>exact⟨_,h,rfl⟩
 |clo f l=>exact⟨_,h,rfl⟩
 |hid v l m=>exact⟨_,h,rfl⟩
 |dead=>exact⟨_,h,rfl⟩
omit [ao]in
theorem vJ.row{F1:ao} [F:ao]{i:Nat}{x y:aH U}(h:vJ F1 U H0 L Yc w' ρ' es i x y):(∀v' l m,bg (some y)=some (v',l,m)→ ∃v,bg (some x)=some (v,l,m)∧v'=qK H0 i+v)∧(bg (some x)=none→bg (some y)=none):=by
 cases x with
 |cells l t=>obtain⟨l',rfl,_⟩:=h;exact⟨fun _ _ _ h=>(by cases h),fun _=>rfl⟩
 |row v s xs t=>
  rw[show y=_ from h];refine⟨fun v' l m hr=>?_,fun hr=>by cases hr⟩;injection hr with hr;injection hr with h1 hr;exact⟨v,by rw[←hr];rfl,h1.symm⟩
 |frz v s xs=>
  rw[show y=_ from h];refine⟨fun v' l m hr=>?_,fun hr=>by cases hr⟩;injection hr with hr;injection hr with h1 hr;exact⟨v,by rw[←hr];rfl,h1.symm⟩
 |ext v d xs op=>cases op with
  |none=>
   rw[show y=_ from h];refine⟨fun v' l m hr=>?_,fun hr=>by cases hr⟩;injection hr with hr;injection hr with h1 hr;exact⟨v,by rw[←hr];rfl,h1.symm⟩
  |some o=>rw[show y=_ from h];exact⟨fun _ _ _ h=>(by cases h),fun _=>rfl⟩
 |_=>rw[show y=_ from h];exact⟨fun _ _ _ h=>(by cases h),fun _=>rfl⟩
omit [ao]in
theorem vJ.live{F1:ao} [F:ao]{i j g:Nat}{x y:aH U}{ρf:Nat→Rz}(h:vJ F1 U H0 L Yc w' ρ' es i x y)(hr:ρf i=ρ' j)(hg:Lv ρf (i,y) g):Lv ρ' (j,x) g:=by
 cases x with
 |cells l t=>obtain⟨l',rfl,_⟩:=h;unfold Lv at hg⊢;simp only[hr]at hg;exact hg
 |row v s xs t=>rw[show y=_ from h]at hg;unfold Lv at hg⊢;simp only[hr]at hg;exact hg
 |map d l=>rw[show y=_ from h]at hg;unfold Lv at hg⊢;simp only[hr]at hg;exact hg
 |ext v d xs op=>cases op with
  |none=>rw[show y=_ from h]at hg;unfold Lv at hg⊢;simp only[hr]at hg;exact hg
  |some o=>rw[show y=_ from h]at hg;cases hg
 |_=>rw[show y=_ from h]at hg;cases hg
def t8(H:Hs U)(i:Nat)(y:aH U):Hs U:=match aD H i with
 |some _=>cO H i y
 |none=>(i,y)::H
omit [ao]in
theorem DN{i:Nat}{y:aH U}{K:Hs U→Prop}(h:Da H i y K):K (t8 H i y):=by
 unfold Da at h;unfold t8;split at h
 ·rename_i hl;rw[hl];exact bU h
 ·rename_i hl;rw[hl];exact h
omit [ao]in
theorem wZ{i k:Nat}{y:aH U}:aD (t8 H i y) k=if i=k then some y else aD H k:=by
 unfold t8;split
 ·rename_i x hl;exact bV ⟨x,hl⟩
 ·by_cases e:i=k
  ·subst e;rw[if_pos rfl,nH]
  ·rw[if_neg e];show(bif Nat.beq i k then some y else aD H k)=aD H k
   rw[cu e];rfl
omit [ao]in
theorem Ad{i:Nat}{y:aH U}:(t8 H i y).map (·.1)=H.map (·.1)∨(t8 H i y).map (·.1)=i::H.map (·.1)∧i∉H.map (·.1):=by
 unfold t8;split
 ·exact .inl eL
 ·rename_i hl;refine .inr ⟨rfl,fun h=>?_⟩;have: ∀(H:Hs U),i∈H.map (·.1)→aD H i≠none:=by
   intro H;induction H with
   |nil=>intro h;simp at h
   |cons p r ih=>
    intro h;obtain⟨a,b⟩:=p;unfold aD;by_cases e:a=i
    ·subst e;rw[Nat.beq_refl];simp
    ·rw[cu e];simp only[List.map_cons,List.mem_cons]at h;rcases h with h|h
     ·exact absurd h.symm e
     ·exact ih h
  exact this H h hl
def e9:Hs U→List Nat→List (aH U)→Hs U
 |H,i::Q,y::ys=>e9 (t8 H i y) Q ys
 |H,_,_=>H
omit [ao]in
theorem ub: ∀{Q:List Nat} {ys:List (aH U)} {H:Hs U} {k:Nat},Q.Nodup→ys.length=Q.length→aD (e9 H Q ys) k=match mO Q k with|some j=>ys[j]? |none=>aD H k
 | [],ys,H,k,_,_=>by unfold e9;simp[mO]
 |i::Q,[],H,k,_,hl=>by simp at hl
 |i::Q,y::ys,H,k,hn,hl=>by
  rw[List.nodup_cons]at hn;unfold e9 mO;rw[ub hn.2 (by simpa using hl)];by_cases e:i=k
  ·subst e;have:mO Q i=none:=by
    cases h:mO Q i with
    |none=>rfl
    |some j=>exact absurd (List.mem_of_getElem? (mP h)) hn.1
   rw[this,Nat.beq_refl];simp only[cond_true,List.getElem?_cons_zero];rw[wZ,if_pos rfl]
  ·rw[cu e];simp only[cond_false];cases h:mO Q k with
   |none=>simp only[Option.map_none];rw[wZ,if_neg e]
   |some j=>simp
omit [ao]in
theorem uc: ∀{Q:List Nat} {ys:List (aH U)} {H:Hs U},(H.map (·.1)).Nodup→((e9 H Q ys).map (·.1)).Nodup
 | [],ys,H,h=>by unfold e9;exact h
 |i::Q,[],H,h=>by unfold e9;exact h
 |i::Q,y::ys,H,h=>by
  unfold e9;refine uc ?_;rcases Ad (H:=H) (i:=i) (y:=y)with e|⟨e,e2⟩
  ·rw[e];exact h
  ·rw[e];exact List.nodup_cons.2 ⟨e2,h⟩
omit [ao]in
theorem ud{F1:ao} [F:ao]: ∀{Q:List Nat} {xs:List (aH U)} {H:Hs U} {K:Hs U→Prop},zx H0 L Q xs H K→xs.length=Q.length→ ∃ys,K (e9 H Q ys)∧ys.length=Q.length∧ ∀(j i:Nat) x,Q[j]? =some i→xs[j]? =some x→ ∃y,ys[j]? =some y∧vJ F1 U H0 L Yc w' ρ' es i x y
 | [],xs,H,K,h,hl=>⟨[],by unfold e9;exact h,rfl,fun j i x hj=>by simp at hj⟩
 |i::Q,[],H,K,h,hl=>by simp at hl
 |i::Q,x::xs,H,K,h,hl=>by
  have h:zw H0 L i x fun y=>Da H i y fun H=>zx H0 L Q xs H K:=h;obtain⟨y,h,hy⟩:=Ac (Yc:=Yc) (ρ':=ρ') (es:=es) (w':=w') h;obtain⟨ys,h,hl',hys⟩:=ud (Q:=Q) (DN h) (by simpa using hl);refine⟨y::ys,by unfold e9;exact h,by simp[hl'],fun j k x' hj hx=>?_⟩;cases j with
  |zero=>simp at hj hx;subst hj;subst hx;exact⟨y,rfl,hy⟩
  |succ j=>simp at hj hx;simpa using hys j k x' hj hx
structure Bx where
 f:ao
omit [ao]in
theorem w9: ∀{L Z:List Nat},zu L Z=true→ ∀z∈Z,z∉L
 |L,[],_,z,hz=>by cases hz
 |L,y::Z,h,z,hz=>by
  have h:(bif gx y L then false else zu L Z)=true:=h;cases hb:gx y L with
  |true=>rw[hb]at h;cases h
  |false=>
   rw[hb]at h;rcases List.mem_cons.1 hz with rfl|hz
   ·exact d6 hb
   ·exact w9 (Z:=Z) h z hz
omit [ao]in
theorem xa [F:ao]{c:aW U}(hG:dF P U G){xs:List (Va U)}{vs:List Value}{K:AV U→Nat→Hs U→Prop}(h:x9 T G c xs n H K)(M:aX U X (· =w) ρ n H)(hv:bM (Vw U X w ρ n H) xs vs):
  ∃(b:Bx) (Xc:List Nat) (ρc:Nat→Rz) (es:List (aH U)) (ys:List (Va U)) (Kc:AV U→List (aH U)→Prop),b.f.pr=P∧ @aX b.f U Xc (· =w) ρc es.length (au 0 es)∧bM (@Vw b.f U Xc w ρc es.length (au 0 es)) ys vs∧c.run ys es Kc∧
   ∀r v w',(∃es' ρ',Kc r es'∧nv (@Vw b.f U Xc w' ρ' es'.length (au 0 es')) r v∧ @aX b.f U Xc (· =w') ρ' es'.length (au 0 es')∧ @bQ b.f U ρc es.length (au 0 es) w ρ' es'.length (au 0 es') w')→
    ∃av n' H' ρ',K av n' H'∧nv (Vw U X w' ρ' n' H') av v∧aX U X (· =w') ρ' n' H'∧bQ ρ n H w ρ' n' H' w'∧ ∀z,r= .pan z↔av= .pan z:=by
 obtain⟨Hp,h,Mp,sp⟩:=ki h M;obtain⟨H1,xs1,Z,h,M1,s2,cp,cells,c1⟩:=nJ hG h Mp;have s1:=sp.trans s2;have hv:bM (Vw U X w ρ n Hp) xs vs:=bM.imp (fun _ _ h=>h.step sp) hv;have h:=se h;generalize hLe:vq H1 30 0 (x7 H1 xs1 [])=L at h;clear hLe;cases hb:(nB L&&zu L Z)with
 |false=>rw[hb]at h;exact h.elim
 |true=>
  rw[hb]at h;simp only[cond_true]at h;rw[Bool.and_eq_true]at hb;have hL:=mL hb.1;have hD:=w9 hb.2;obtain⟨b,bp,bx,bz,bo⟩: ∃b:Bx,b.f.pr=F.pr∧(∀z∈F.xf,z∈b.f.xf)∧(∀j∈Z,∀g,(ρ j).A=some ⟨g,0,none⟩→g∈b.f.xf)∧ ∀z∈b.f.xf,z∈F.xf∨ ∃j∈Z,ab (ρ j).A=some z:=
   ⟨⟨⟨F.xf++Z.filterMap (fun j=>ab (ρ j).A),F.pr⟩⟩,rfl,fun z hz=>List.mem_append_left _ hz,fun j hj g hA=>List.mem_append_right _ (List.mem_filterMap.2 ⟨j,hj,by rw[hA];rfl⟩),fun z hz=>(List.mem_append.1 hz).imp id fun h=>List.mem_filterMap.1 h⟩
  obtain⟨ys,h,hys⟩:=pq (F:=b.f) M1.i h;obtain⟨es,h,hl,hes⟩:=pu (F:=b.f) M1.i h;have rel:=jW.of (F:=b.f) hl hes;have hY:=vH (F:=b.f) (X:=X) hl hes;have fm:=fm (F:=b.f) hl hes;have hxo: ∀z∈b.f.xf,z∈Xo ρ H1 X (gA ρ L) (au 0 es):=fun z hz=>by
   rcases bo z hz with h|⟨j,hj,hA⟩
   ·exact List.mem_filter.2 ⟨List.mem_append_right _ (M1.xs z h),by simpa using fun h'=>M1.dj z (fm z h') (M1.xs z h)⟩
   ·obtain⟨l,t,hlk⟩:=cells j hj;have hlv:Lv ρ (j,(.cells l t:aH U)) z:=hA;refine List.mem_filter.2 ⟨List.mem_append_left _ (aA.2 ⟨_,af hlk,hlv⟩),?_⟩;simp only[decide_eq_true_eq];intro hm;obtain⟨p,hp,hpg⟩:=aA.1 hm;obtain⟨i,x,a1,a2,a3⟩:=mM (F:=b.f) hl hes p hp z hpg;have:=M1.inj _ (af a2) _ (af hlk) z a3 hlv;simp only at this;subst this;exact hD _ hj (List.mem_of_getElem? a1)
  have Mc:=wX (F:=b.f) M1.i bx bp.symm hxo hL hl hes;refine⟨b,_,_,es,ys,_,bp.trans hG.1,Mc,hys es _ hY rel _ (c1 b.f bp bx bz _ hv),h,fun r v w'=>?_⟩;rintro⟨es',ρ',h,hav,M0,st0⟩;have M':=aX.i (F0:=b.f) M0;have st:=bQ.i (F0:=b.f) st0;obtain⟨L2,n2,h,g1,g2,g3,g4⟩:=sj h;have hle:L.length≤es'.length:=by rw[←hl];exact st.nn
  have g3:=g3 hle;obtain⟨av,h,hpan,hav2⟩:=Ab (F1:=b.f) (Yc:=aj ρ' (au 0 es')++Xo ρ H1 X (gA ρ L) (au 0 es)) (ρ':=ρ') (es:=es') (w':=w') h;obtain⟨zs,h,hzl,hzs⟩:=ud (F1:=b.f) (Yc:=aj ρ' (au 0 es')++Xo ρ H1 X (gA ρ L) (au 0 es)) (ρ':=ρ') (es:=es') (w':=w') h g1.symm;have Llt: ∀(j i:Nat),L[j]? =some i→i<n:=fun j i hj=>by obtain⟨x,y,h1,_⟩:=hes j i hj;exact M1.lt _ (af h1)
  have old: ∀(j i:Nat),L2[j]? =some i→i<n→j<L.length∧L[j]? =some i:=fun j i hj hi=>by
   rcases Nat.lt_or_ge j L.length with hlt|hge
   ·exact⟨hlt,by rw[←g3 j hlt];exact hj⟩
   ·have:=(g4 j hge (by rw[←g1];exact bL hj)).1;rw[hj]at this;injection this with this;omega
  have L2lt: ∀(j i:Nat),L2[j]? =some i→i<n2:=fun j i hj=>by
   rcases Nat.lt_or_ge j L.length with hlt|hge
   ·have:=Llt j i (by rw[←g3 j hlt];exact hj);omega
   ·obtain⟨a,b⟩:=g4 j hge (by rw[←g1];exact bL hj);rw[hj]at a;injection a with a;omega
  have L2inj: ∀(j k i:Nat),L2[j]? =some i→L2[k]? =some i→j=k:=fun j k i hj hk=>by
   rcases Nat.lt_or_ge i n with hi|hi
   ·obtain⟨a1,a2⟩:=old j i hj hi;obtain⟨b1,b2⟩:=old k i hk hi;exact(List.getElem?_inj a1 hL).1 (a2.trans b2.symm)
   ·have key: ∀(j:Nat),L2[j]? =some i→L.length≤j∧i=n+(j - L.length):=fun j hj=>by
     rcases Nat.lt_or_ge j L.length with hlt|hge
     ·have:=Llt j i (by rw[←g3 j hlt];exact hj);omega
     ·have:=(g4 j hge (by rw[←g1];exact bL hj)).1;rw[hj]at this;injection this with this;exact⟨hge,this⟩
    have a:=key j hj;have b:=key k hk;omega
  have hL2:L2.Nodup:=by
   rw[List.nodup_iff_pairwise_ne,List.pairwise_iff_getElem];intro i j hi hj hij he;have:=L2inj i j L2[i] (List.getElem?_eq_getElem hi) (by rw[he];exact List.getElem?_eq_getElem hj);omega
  have lk:=fun k=>ub (H:=H1) (ys:=zs) (k:=k) hL2 hzl;have ent: ∀i y,aD (e9 H1 L2 zs) i=some y→(∃j x,L2[j]? =some i∧es'[j]? =some x∧mQ ρ ρ' L2 i=ρ' j∧vJ b.f U H1 L2 (aj ρ' (au 0 es')++Xo ρ H1 X (gA ρ L) (au 0 es)) w' ρ' es' i x y)∨(aD H1 i=some y∧mQ ρ ρ' L2 i=ρ i∧ ∀j:Nat,L2[j]? ≠some i):=fun i y hy=>by
   rw[lk]at hy;cases hp:mO L2 i with
   |none=>
    rw[hp]at hy;refine .inr ⟨hy,by unfold mQ;rw[hp],fun j hj=>?_⟩;rw[sm hL2 hj]at hp;cases hp
   |some j=>
    rw[hp]at hy;have hj:=mP hp;have hlt:j<es'.length:=by rw[←g1];exact bL hj
    obtain⟨y',hy',he⟩:=hzs j i _ hj (List.getElem?_eq_getElem hlt);rw[show zs[j]? =some y from hy]at hy';injection hy' with hy';subst hy';exact .inl ⟨j,_,hj,List.getElem?_eq_getElem hlt,by unfold mQ;rw[hp],he⟩
  have nd:((e9 H1 L2 zs).map (·.1)).Nodup:=uc M1.nd;have ent': ∀p∈e9 H1 L2 zs,_:=fun p hp=>ent p.1 p.2 (dC nd hp);have apart: ∀i y g,aD H1 i=some y→Lv ρ (i,y) g→(∀j:Nat,L2[j]? ≠some i)→g∉aj (gA ρ L) (au 0 es):=fun i y g hi hg hno hm=>by
   obtain⟨p,hp,hpg⟩:=aA.1 hm;obtain⟨k,x,a1,a2,a3⟩:=mM (F:=b.f) hl hes p hp g hpg;have:=M1.inj _ (af hi) _ (af a2) g hg a3;simp only at this;subst this;exact hno p.1 (by rw[g3 _ (bL a1)];exact a1)
  have XinXo: ∀g∈X,g∈Xo ρ H1 X (gA ρ L) (au 0 es):=fun g hg=>List.mem_filter.2 ⟨List.mem_append_right _ hg,by simpa using fun h=>M1.dj g (fm g h) hg⟩;have back:jC H1 L2 (aj ρ' (au 0 es')++Xo ρ H1 X (gA ρ L) (au 0 es)) ρ' es' (aj (mQ ρ ρ' L2) (e9 H1 L2 zs)++X) (mQ ρ ρ' L2) n2 (e9 H1 L2 zs):=by
   refine⟨fun g hg=>?_,fun j i hj=>?_⟩
   ·rcases List.mem_append.1 hg with hg|hg
    ·obtain⟨p,hp,hpg⟩:=aA.1 hg;rcases ent' p hp with⟨j,x,a1,a2,a3,a4⟩|⟨a1,a2,a3⟩
     ·exact List.mem_append_left _ (aA.2 ⟨(j,x),d5.2 a2,a4.live a3 hpg⟩)
     ·have hpg':Lv ρ p g:=by
       obtain⟨i,y⟩:=p;simp only at a2;unfold Lv at hpg⊢;cases y<;>simp only[a2]at hpg⊢ <;>exact hpg
      refine List.mem_append_right _ (List.mem_filter.2 ⟨List.mem_append_left _ (aA.2 ⟨p,af a1,hpg'⟩),?_⟩);simpa using apart p.1 p.2 g a1 hpg' a3
    ·exact List.mem_append_right _ (XinXo g hg)
   ·have hp:=sm hL2 hj;have hlt:j<es'.length:=by rw[←g1];exact bL hj
    obtain⟨y,hy,he⟩:=hzs j i _ hj (List.getElem?_eq_getElem hlt);have hly:aD (e9 H1 L2 zs) i=some y:=by rw[lk,hp];exact hy
    refine⟨L2lt j i hj,by unfold mQ;rw[hp],?_,?_⟩
    ·rw[hly,List.getElem?_eq_getElem hlt];exact he.row.1
    ·rw[hly,List.getElem?_eq_getElem hlt];exact he.row.2
  have rhoEq: ∀i y,mQ ρ ρ' L2 i=ρ i→Lv (mQ ρ ρ' L2) (i,(y:aH U))=Lv ρ (i,y):=fun i y hr=>by
   funext g;cases y<;>simp only[Lv,hr]
  have hStp:bQ ρ n H1 w (mQ ρ ρ' L2) n2 (e9 H1 L2 zs) w':=by
   refine⟨M1.xd,g2,st.fr.mono fun g hg=>fm g hg,fun g hg=>?_,fun i hi v' l' m' hr=>?_,fun i hi hr=>?_⟩
   ·obtain⟨p,hp,hpg⟩:=aA.1 hg;rcases ent' p hp with⟨j,x,a1,a2,a3,a4⟩|⟨a1,a2,a3⟩
    ·rcases st.nb g (aA.2 ⟨(j,x),d5.2 a2,a4.live a3 hpg⟩)with h|h
     ·exact .inl (fm g h)
     ·exact .inr h
    ·rw[show p=(p.1,p.2)from rfl,rhoEq p.1 p.2 a2]at hpg;exact .inl (aA.2 ⟨p,af a1,hpg⟩)
   ·cases hy:aD (e9 H1 L2 zs) i with
    |none=>rw[hy]at hr;cases hr
    |some y=>
     rw[hy]at hr;rcases ent i y hy with⟨j,x,a1,a2,a3,a4⟩|⟨a1,a2,a3⟩
     ·obtain⟨hjl,hj⟩:=old j i a1 hi;obtain⟨v,hx,hv'⟩:=a4.row.1 _ _ _ hr;obtain⟨v0,l0,m0,b1,b2,b3⟩:=st.row j (by rw[hl];exact hjl) v l' m' (by rw[eJ,a2];exact hx);rw[eJ]at b1;obtain⟨x1,y1,c1,c2,c3⟩:=hes j i hj;rw[c2]at b1;have hrow: ∃vv ll mm,bg (some x1)=some (vv,ll,mm)∧qK H1 i=vv∧v0=0∧l0=ll∧m0=mm:=by
       cases x1 with
       |row vv s ys t=>
        rw[show y1=_ from c3]at b1;injection b1 with b1;injection b1 with d1 b1;injection b1 with d2 d3;exact⟨vv,_,_,rfl,by unfold qK;rw[c1],d1.symm,d2.symm,d3.symm⟩
       |ext vv d ys op=>cases op with
        |none=>
         rw[show y1=_ from c3]at b1;injection b1 with b1;injection b1 with d1 b1;injection b1 with d2 d3;exact⟨vv,_,_,rfl,by unfold qK;rw[c1],d1.symm,d2.symm,d3.symm⟩
        |some o=>rw[show y1=_ from c3]at b1;cases b1
       |cells l t=>obtain⟨l'',rfl,_⟩:=c3;cases b1
       |_=>rw[show y1=_ from c3]at b1;cases b1
      obtain⟨vv,ll,mm,hrx,hv0,e1,e2,e3⟩:=hrow;refine⟨vv,ll,mm,by rw[c1];exact hrx,by omega,fun he=>?_⟩;obtain⟨f1,f2,f3⟩:=b3 (by omega);exact⟨by rw[a3,f1,bW hj],by omega,by omega⟩
     ·exact⟨v',l',m',by rw[a1];exact hr,Nat.le_refl _,fun _=>⟨a2,rfl,rfl⟩⟩
   ·cases hp:mO L2 i with
    |none=>unfold mQ;rw[hp]
    |some j=>
     have hj2:=mP hp;obtain⟨hjl,hj⟩:=old j i hj2 hi;obtain⟨x1,y1,c1,c2,c3⟩:=hes j i hj;rw[c1]at hr;have:=st.cel j (by rw[hl];exact hjl) (by rw[eJ,c2];exact(pt.row (F:=b.f) c3).2 hr);unfold mQ;rw[hp];simp only;rw[this,bW hj]
  refine⟨av,n2,_,mQ ρ ρ' L2,h,hav2 _ _ _ _ back v hav,?_,s1.trans hStp,hpan⟩;refine⟨nd,fun p hp=>?_,fun p hp=>?_,fun p hp q hq g h1 h2=>?_,fun g hg hx=>?_,fun w2 h2 g hg=>?_,M1.xs,M1.gv.fr hStp.fr M1.xd⟩
  ·rcases ent' p hp with⟨j,x,a1,a2,a3,a4⟩|⟨a1,a2,a3⟩
   ·exact L2lt j _ a1
   ·have:=M1.lt _ (af a1);simp only at this;omega
  ·rcases ent' p hp with⟨j,x,a1,a2,a3,a4⟩|⟨a1,a2,a3⟩
   ·have mv:Mv (aj ρ' (au 0 es')++Xo ρ H1 X (gA ρ L) (au 0 es)) (· =w') (aj (mQ ρ ρ' L2) (e9 H1 L2 zs)++X) (· =w'):=fun w2 h2=>⟨w2,[],h2,Fr.refl _ _,fun _ h=>(by cases h),fun y hy=> .inl (back.Y y hy)⟩;have hM:=M'.ent (j,x) (d5.2 a2);obtain⟨i,y⟩:=p;simp only at a1 a3 a4⊢;cases x with
    |cells l t=>
     obtain⟨l',rfl,hc⟩:=a4;obtain⟨g,vs,hA,hs,hw⟩:=hM;exact⟨g,vs,by rw[a3];exact hA,hc _ _ _ _ back vs hs,hw⟩
    |row v s xs t=>
     obtain⟨hm,cs,sp,hd,ho,hw⟩:=hM;rw[show y=_ from a4];exact⟨hm,cs,sp,aR.mv mv hd,by rw[a3];exact ho,fun g hg=>by rw[a3]at hg;exact hw g hg⟩
    |frz v s xs=>
     obtain⟨hm,cs,hd,hr,k1,k2⟩:=hM;rw[show y=_ from a4];exact⟨hm,cs,aR.mv mv hd,by rw[a3];exact hr.mv mv,by rw[a3];exact k1,by rw[a3];exact k2⟩
    |map d l=>
     obtain⟨hk,g,es2,clock,m,hA,hm,hd,hw⟩:=hM;rw[show y=_ from a4];exact⟨wJ.inst bp hk,g,es2,clock,m,by rw[a3];exact hA,hm,aK.mv mv hd,hw⟩
    |ext v d xs op=>cases op with
     |none=>
      obtain⟨C,hd,hw,_⟩:=hM;rw[show y=_ from a4];exact⟨C,by rw[a3];exact d.mv mv.fr hd,by rw[a3];exact hw,trivial⟩
     |some o=>rw[show y=_ from a4];trivial
    |_=>rw[show y=_ from a4];trivial
   ·refine(M1.ent (p.1,p.2) (af a1)).step hStp a2 fun g hg=>?_;exact st.fr.block g (cl M1 (p.1,p.2) (af a1) g hg) (apart p.1 p.2 g a1 hg a3)
  ·rcases ent' p hp with⟨j,x,a1,a2,a3,a4⟩|⟨a1,a2,a3⟩<;>rcases ent' q hq with⟨k,y,b1,b2,b3,b4⟩|⟨b1,b2,b3⟩
   ·have:=M'.inj (j,x) (d5.2 a2) (k,y) (d5.2 b2) g (a4.live a3 h1) (b4.live b3 h2);simp only at this;subst this;rw[a1]at b1;injection b1
   ·rw[show q=(q.1,q.2)from rfl,rhoEq q.1 q.2 b2]at h2;rcases st.nb g (aA.2 ⟨(j,x),d5.2 a2,a4.live a3 h1⟩)with h|h
    ·exact absurd h (apart q.1 q.2 g b1 h2 b3)
    ·have:=cl M1 (q.1,q.2) (af b1) g h2;omega
   ·rw[show p=(p.1,p.2)from rfl,rhoEq p.1 p.2 a2]at h1;rcases st.nb g (aA.2 ⟨(k,y),d5.2 b2,b4.live b3 h2⟩)with h|h
    ·exact absurd h (apart p.1 p.2 g a1 h1 a3)
    ·have:=cl M1 (p.1,p.2) (af a1) g h1;omega
   ·rw[show p=(p.1,p.2)from rfl,rhoEq p.1 p.2 a2]at h1;rw[show q=(q.1,q.2)from rfl,rhoEq q.1 q.2 b2]at h2;exact M1.inj _ (af a1) _ (af b1) g h1 h2
  ·obtain⟨p,hp,hpg⟩:=aA.1 hg;rcases ent' p hp with⟨j,x,a1,a2,a3,a4⟩|⟨a1,a2,a3⟩
   ·exact M'.dj g (aA.2 ⟨(j,x),d5.2 a2,a4.live a3 hpg⟩) (XinXo g hx)
   ·rw[show p=(p.1,p.2)from rfl,rhoEq p.1 p.2 a2]at hpg;exact M1.dj g (aA.2 ⟨_,af a1,hpg⟩) hx
  ·subst h2;have:=M1.lo w rfl g hg;exact Nat.lt_of_lt_of_le this st.fr.size
omit [ao]in
theorem Ae [F:ao]{f:FuncId}{c:aW U}(hG:dF P U G)(hC:bh P U f c){xs:List (Va U)}{vs:List Value}{K:AV U→Nat→Hs U→Prop}(h:x9 T G c xs n H K)(M:aX U X (· =w) ρ n H)(hv:bM (Vw U X w ρ n H) xs vs):
  Fn P f vs w fun v w'=> ∃av n' H' ρ',K av n' H'∧nv (Vw U X w' ρ' n' H') av v∧aX U X (· =w') ρ' n' H'∧bQ ρ n H w ρ' n' H' w':=by
 obtain⟨b,Xc,ρc,es,ys,Kc,h1,h2,h3,h4,h5⟩:=xa hG h M hv;refine Fn.mono (@hC b.f h1 Xc w ρc es ys vs Kc h2 h3 h4) fun v w'=>?_;rintro⟨r,hr⟩;obtain⟨av,n',H',ρ',a,b,c,d,_⟩:=h5 r v w' hr;exact⟨av,n',H',ρ',a,b,c,d⟩
omit [ao]in
theorem DO [F:ao]{bx:Int→Value}{f:FuncId}{c:aW U}(hG:dF P U G)(hC:mN P U bx f c){xs:List (Va U)}{vs:List Value}{K:AV U→Nat→Hs U→Prop}(h:x9 T G c xs n H K)(M:aX U X (· =w) ρ n H)(hv:bM (Vw U X w ρ n H) xs vs):
  xC P f vs w (fun v w'=> ∃av n' H' ρ',(∀z,av≠ .pan z)∧K av n' H'∧nv (Vw U X w' ρ' n' H') av v∧aX U X (· =w') ρ' n' H'∧bQ ρ n H w ρ' n' H' w') fun v w'=> ∃z,v=bx z∧ ∃n' H' ρ',K (.pan z) n' H'∧aX U X (· =w') ρ' n' H'∧bQ ρ n H w ρ' n' H' w':=by
 obtain⟨b,Xc,ρc,es,ys,Kc,h1,h2,h3,h4,h5⟩:=xa hG h M hv;refine xC.mono (@hC b.f h1 Xc w ρc es ys vs Kc h2 h3 h4) (fun v w'=>?_) fun v w'=>?_
 ·rintro⟨r,es',ρ1,hn,hr⟩;obtain⟨av,n',H',ρ',a,b,c,d,e⟩:=h5 r v w' ⟨es',ρ1,hr⟩;exact⟨av,n',H',ρ',fun z q=>hn z ((e z).2 q),a,b,c,d⟩
 ·rintro⟨z,hz,es',ρ',a,c,d⟩;obtain⟨av,n',H',ρ2,a2,_,c2,d2,e2⟩:=h5 (.pan z) v w' ⟨es',ρ',a,trivial,c,d⟩;rw[(e2 z).1 rfl]at a2;exact⟨z,hz,n',H',ρ2,a2,c2,d2⟩
end
end Go.Proofs.YtmpeiadlohbikaaGreatDoor.V
end

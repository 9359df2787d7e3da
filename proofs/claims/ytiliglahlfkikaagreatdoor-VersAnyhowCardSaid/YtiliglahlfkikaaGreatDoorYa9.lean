/- Calls are right: the whole. -/
import Derived.Test.YtiliglahlfkikaaGreatDoorYa8
section
set_option linter.unusedVariables false
set_option linter.unusedSimpArgs false
namespace Go.Proofs.YtiliglahlfkikaaGreatDoor.V
open Go.RowKit
section
variable [F:ao] {U:bH} {P:Program} {nt:Nat} {T:cZ U} {G:gD U} {X:List Nat} {w w':World} {ρ ρ':Nat→Rz} {n:Nat} {H:Hs U} {R e:En U} {ce:aG} {o:Oper} {L:List Nat} {z:Bool} {es:List (aJ U)}
theorem kA(hl:es.length=L.length)(hes: ∀(j i:Nat),L[j]? =some i→ ∃x y,aB H i=some x∧es[j]? =some y∧mT U X w ρ n H z L x y): ∀p∈aH 0 es,∀g,aq (eQ ρ L) p=some g→ ∃i x,L[p.1]? =some i∧aB H i=some x∧aq ρ (i,x)=some g:=fun p hp g hg=>by
 have h1:=dq.1 hp;have hj:=bE h1;obtain⟨x,y,h2,h3,h4⟩:=hes p.1 _ (List.getElem?_eq_getElem (by omega));rw[h1]at h3;injection h3 with h3;subst h3;exact⟨_,x,List.getElem?_eq_getElem (by omega),h2,Ey (List.getElem?_eq_getElem (by omega)) h4 hg⟩
theorem dZ(hl:es.length=L.length)(hes: ∀(j i:Nat),L[j]? =some i→ ∃x y,aB H i=some x∧es[j]? =some y∧mT U X w ρ n H z L x y): ∀g∈ak (eQ ρ L) (aH 0 es),g∈ak ρ H:=fun g hg=>by
 obtain⟨p,hp,hg⟩:=aF.1 hg;obtain⟨i,x,_,h2,h3⟩:=kA hl hes p hp g hg;exact aF.2 ⟨_,al h2,h3⟩
theorem sD(hl:es.length=L.length)(hes: ∀(j i:Nat),L[j]? =some i→ ∃x y,aB H i=some x∧es[j]? =some y∧mT U X w ρ n H z L x y): ∀g∈ak (eQ ρ L) (aH 0 es)++Xo ρ H X (eQ ρ L) (aH 0 es),g∈ak ρ H++X:=fun g hg=>by
 rcases List.mem_append.1 hg with hg|hg
 ·exact List.mem_append_left _ (dZ hl hes g hg)
 ·exact(List.mem_filter.1 hg).1
omit [ao]in
theorem v8.inst{F0:ao} [F:ao](hx: ∀z∈F0.xf,z∈ao.xf)(hp:F0.pr=ao.pr){Y:List Nat}{S:World→Prop}{u:Value}{a:aY}{g:TT U.ty a→Bool}(h: @v8 F0 U Y S u a g):v8 U Y S u a g:=⟨h.1,fun w hw w2 hl=>by
 obtain⟨O,h1,h2⟩:=hl;rw[←hp];exact h.2 w hw w2 ⟨O,h1,fun o ho=>⟨fun hz=>(h2 o ho).1 (hx o hz),(h2 o ho).2⟩⟩⟩
omit [ao]in
theorem wa.inst{F0:ao} [F:ao](hx: ∀z∈F0.xf,z∈ao.xf)(hp:F0.pr=ao.pr){Y:List Nat}{S:World→Prop}{u:Value}{a b:aY}{g:TT U.ty a→TT U.ty b→Int}(h: @wa F0 U Y S u a b g):wa U Y S u a b g:=⟨h.1,fun w hw w2 hl=>by
 obtain⟨O,h1,h2⟩:=hl;rw[←hp];exact h.2 w hw w2 ⟨O,h1,fun o ho=>⟨fun hz=>(h2 o ho).1 (hx o hz),(h2 o ho).2⟩⟩⟩
omit [ao]in
theorem ba.inst{F0:ao} [F:ao](hx: ∀z∈F0.xf,z∈ao.xf)(hp:F0.pr=ao.pr){Y:List Nat}{S:World→Prop}{x:Cx U}{vs:List Value}(h: @ba F0 U Y S ρ n H x vs):ba U Y S ρ n H x vs:=by
 cases x with
 |f1 a g=>obtain⟨u,e,hf⟩:=h;exact⟨u,e,hf.inst hx hp⟩
 |f2 a b g=>obtain⟨u,e,hf⟩:=h;exact⟨u,e,hf.inst hx hp⟩
 |_=>exact h
omit [ao]in
theorem sA.inst{F0:ao} [F:ao](hp:F0.pr=ao.pr){d:KD U}(h: @sA F0 U d):sA U d:=by unfold sA at*;rw[←hp];exact h
omit [ao]in
theorem t8{F0:ao} [F:ao](M:sC U F0 X w ρ n H)(hx: ∀z∈F0.xf,z∈ao.xf)(Et:F0.pr=ao.pr)(hxo: ∀z∈ao.xf,z∈Xo ρ H X (eQ ρ L) (aH 0 es))(hL:L.Nodup)(hl:es.length=L.length)(hes: ∀(j i:Nat),L[j]? =some i→ ∃x y,aB H i=some x∧es[j]? =some y∧mT U X w ρ n H z L x y):bh U (Xo ρ H X (eQ ρ L) (aH 0 es)) (· =w) (eQ ρ L) es.length (aH 0 es):=by
 have hY:=sD hl hes;have mv:Mv (ak ρ H++X) (· =w) (ak (eQ ρ L) (aH 0 es)++Xo ρ H X (eQ ρ L) (aH 0 es)) (· =w):=fun w2 h2=>⟨w2,[],h2,Fr.refl _ _,fun _ h=>(by cases h),fun y hy=> .inl (hY y hy)⟩;have rel:=iW.of hl hes;refine⟨by rw[mR];exact List.nodup_range',fun p hp=>bE (dq.1 hp),fun p hp=>?_,fun p hp q hq g h1 h2=>?_,fun g hg hx=>?_,fun w2 h2 g hg=>?_,fun z hz=>?_,⟨fun z hz=>hx z (M.gv.1 z hz),M.gv.2⟩⟩
 ·have h1:=dq.1 hp;have hj:=bE h1;have hLj:L[p.1]? =some L[p.1]:=List.getElem?_eq_getElem (by omega);obtain⟨x,y,h2,h3,h4⟩:=hes p.1 _ hLj;rw[h1]at h3;injection h3 with h3;have hx:=M.ent _ (al h2);rw[h3];cases x with
  |cells l t=>
   obtain⟨l',rfl,hc⟩:=h4;obtain⟨g,vs,hA,hs,hw⟩:=hx;exact⟨g,vs,by rw[cq hLj];exact hA,hc es _ hY rel vs (hs.imp fun _ _ h=>ba.inst hx Et h),hw⟩
  |row v s xs t=>
   obtain⟨hm,cs,sp,hd,ho,hw⟩:=hx;rw[show y=_ from h4];exact⟨hm,cs,sp,aN.mv mv hd,by rw[cq hLj];exact ho,fun g hg=>by rw[cq hLj]at hg;exact hw g hg⟩
  |map d l=>
   obtain⟨hk,g,es',clock,m,hA,hm,hd,hw⟩:=hx;rw[show y=_ from h4];exact⟨sA.inst Et hk,g,es',clock,m,by rw[cq hLj];exact hA,hm,ax.mv mv hd,hw⟩
  |mapr d l left cur gh=>
   obtain⟨hk,g,es',clock,m,lv,cv,hA,hm,hd,hl,hc,hw⟩:=hx;rw[show y=_ from h4];exact⟨sA.inst Et hk,g,es',clock,m,by rw[cq hLj];exact hA,hm.ok,ax.mv mv hd,hw⟩
  |_=>rw[show y=_ from h4];trivial
 ·obtain⟨i,x,a1,a2,a3⟩:=kA hl hes p hp g h1;obtain⟨k,y,b1,b2,b3⟩:=kA hl hes q hq g h2;have:=M.inj _ (al a2) _ (al b2) g a3 b3;simp only at this;subst this;exact(List.getElem?_inj (bE a1) hL).1 (a1.trans b1.symm)
 ·have:=(List.mem_filter.1 hx).2;simp at this;exact this hg
 ·subst h2;rcases List.mem_append.1 (List.mem_filter.1 hg).1 with h|h
  ·obtain⟨p,hp,h⟩:=aF.1 h;exact M.olt p hp g h
  ·exact M.lo g h
 ·exact hxo z hz
def bR(P:Program)(U:bH)(f:FuncId)(c:aZ U):Prop:= ∀ [F:ao],F.pr=P→ ∀X w ρ (es:List (aJ U)) xs vs K,bh U X (· =w) ρ es.length (aH 0 es)→bS (Vw U X w ρ es.length (aH 0 es)) xs vs→c.run xs es K→
 Fn P f vs w fun v w'=> ∃r es' ρ',K r es'∧n9 (Vw U X w' ρ' es'.length (aH 0 es')) r v∧bh U X (· =w') ρ' es'.length (aH 0 es')∧co ρ es.length (aH 0 es) w ρ' es'.length (aH 0 es') w'
abbrev ij(P:Program)(U:bH)(G:gD U):Prop:= ∀f c,aB G f=some c→bR P U f c
abbrev dT [ao](P:Program)(U:bH)(G:gD U):Prop:=ao.pr=P∧ij P U G
omit [ao]in
theorem Fr.sub{O Y:List Nat}{w2:World}(hf:Fr O w w2)(hO: ∀o∈O,o∈Y∨w.heap.size≤o):Fr Y w w2:=⟨hf.os,hf.tape,hf.output,hf.size,fun k hk hn=>hf.block k hk fun ho=>(hO k ho).elim hn fun h=>by omega,hf.drawn⟩
theorem pn: ∀{js:List Nat} {H:Hs U} {K:Hs U→List (Va U)→Prop},zH T js H K→bh U X (· =w) ρ n H→ ∃H' caps,K H' caps∧bh U X (· =w) ρ n H'∧co ρ n H w ρ n H' w∧CP H H'∧(∀j∈js,∃l t,aB H' j=some (.cells l t))∧
  ∀w2 O,Fr O w w2→(∀o∈O,o∈ak ρ H'++X∨w.heap.size≤o)→(∀j∈js,∀g,(ρ j).A=some ⟨g,0,none⟩→g∉O)→ ∀(F0:ao) (ρ0:Nat→Rz),bS (@ba F0 U gB (· =w2) ρ0 0 []) caps (js.map fun j=>Value.pointer (ρ j).A)
 | [],H,K,h,M=>⟨H,[],h,M,M.stp0,CP.refl _,fun j hj=>(by cases hj),fun _ _ _ _ _ _ _=>rfl⟩
 |j::js,H,K,h,M=>by
  have h:(match aB H j with
   |some (.cells l t)=>(match aB T t with
    |some ti=>(match ti.sh with
     |some s=>jQ l H fun H l=>cJ 20 s l fun x=>zH T js H fun H r=>K H (⟨false,[(1,.pd s x)]⟩::r)
     |none=>False)
    |none=>False)
   |_=>False):=h
  split at h
  ·rename_i l t hl;split at h
   ·rename_i ti hti;split at h
    ·rename_i s hs;obtain⟨H1,l',⟨h,cp1⟩,M1,s1,c1⟩:=gc (iR h fun H' r cp h=>(⟨h,cp⟩:_∧CP H H')) M;obtain⟨x,h,hx⟩:=bq h;obtain⟨H2,caps,hK,M2,s2,cp2,cells,hcap⟩:=pn (js:=js) h M1;refine⟨H2,_,hK,M2,s1.trans s2,cp1.trans cp2,fun k hk=>?_,fun w2 O hf hO hj=>?_⟩
     ·rcases List.mem_cons.1 hk with rfl|hk
      ·exact⟨l,t,cp2 _ _ rfl (cp1 _ _ rfl hl)⟩
      ·exact cells k hk
     ·obtain⟨g,vs,hA,hsg,hw⟩:=M.ent _ (al hl);have hg:g∉O:=hj j (by simp) g hA;have hheap:=hw w rfl;have hd:=aC.mv (s2.mv (X:=X)) (hx _ _ _ _ _ _ (c1 _ hsg));have hd2:aC U gB (· =w2) s x vs:= @aC.mv ⟨[],ao.pr⟩ U (ak ρ H2++X) gB (· =w) (· =w2) (fun w3 h3=>by
       subst h3;exact⟨w,_,rfl,Fr.sub hf hO,fun y hy=>⟨hy,fun h=>(by cases h)⟩,fun y hy=> .inl (List.mem_append_right _ (M.xs y (M.gv.1 y hy)))⟩) s x vs hd
      have gv0:=M.gv.1;have xd0:=M.xd;intro F0 ρ0;refine⟨_,_,rfl,?_,hcap w2 O hf hO (fun k hk=>hj k (by simp[hk])) F0 ρ0⟩;have hA:(ρ j).A=some ⟨g,0,none⟩:=hA;show cx _ _ (Value.pointer (ρ j).A)
      rw[hA];refine ga ⟨g,0,vs,rfl,hd2,fun w3 h3=>?_⟩;subst h3;intro i v hi;refine⟨g,0,rfl,fun hb=>xd0 g (aF.2 ⟨_,al hl,(show ah (ρ j).A=some g by rw[hA];rfl)⟩) (gv0 g hb),?_⟩;have hb:w3.heap[g]? =some (Cl vs t):=by rw[hf.block g (bd hheap) hg];exact hheap
      rw[Nat.zero_add,cell_of_row w3 g i vs.toArray t (0,0) hb];simpa using hi
    ·exact h.elim
   ·exact h.elim
  ·exact h.elim
omit [ao]in
theorem xb{F0:ao}{Y:List Nat}{w2:World}{ρ0:Nat→Rz}{a:aY}{t:TT U.ty a}{vs:List Value}{v:Value}(hd:aC U Y (· =w2) a t vs)(hv:dg (dI a) v vs):cx (@ba F0 U Y (· =w2) ρ0 0 []) ⟨dI a,[(aI U a,.d a t)]⟩ v:=by
 unfold cx;unfold dg at hv;cases hag:dI a with
 |true=>simp only[hag]at hv⊢;exact⟨vs,hv,vs,[],(List.append_nil _).symm,hd.length,hd,rfl⟩
 |false=>simp only[hag]at hv⊢;subst hv;exact⟨_,[],(List.append_nil _).symm,hd.length,hd,rfl⟩
omit [ao]in
theorem GF{F0:ao}(hx:F0.xf=gB){w2:World}{ρ0:Nat→Rz}(hg:Gv w2): @bh F0 U gB (· =w2) ρ0 ([]:List (aJ U)).length (aH 0 []):=
 ⟨List.nodup_nil,fun p hp=>(by cases hp),fun p hp=>(by cases hp),fun p hp=>(by cases hp),fun g hg=>(by cases hg),fun w3 h3 g hgm=>(by subst h3;exact hg.lt g hgm),fun z hz=>hx▸hz,⟨fun z hz=>hx▸hz,fun w3 h3=>by subst h3;exact hg⟩⟩
theorem po{f:FuncId}{c:aZ U}{caps:List (Va U)}{a:aY}{g:TT U.ty a→Bool}{cvs:List Value}{Y:List Nat}(hC:bR P U f c)(hpr:ao.pr=P)(hgv:qJ (· =w))(hr:wt c caps a g)(hcap: ∀w2,kb Y w w2→ ∀(F0:ao) (ρ0:Nat→Rz),bS (@ba F0 U gB (· =w2) ρ0 0 []) caps cvs):v8 U Y (· =w) (.func (.func f) #[] cvs.toArray) a g:=⟨⟨f,cvs,rfl⟩,fun w1 hw1 w2 hl t vs v hd hv=>by
 subst hw1;rw[hpr];refine nC.ofc cvs ?_;have:= @hC ⟨gB,P⟩ rfl gB w2 (fun _=>⟨none,0⟩) [] (⟨dI a,[(aI U a,.d a t)]⟩::caps) (v::cvs) _ (GF rfl (by obtain⟨O,h1,h2⟩:=hl;exact(hgv.2 _ rfl).fr h1 fun o ho hb=>(h2 o ho).1 (hgv.1 o hb))) ⟨v,cvs,rfl,xb hd hv,hcap w2 hl _ _⟩ (hr t);refine this.mono fun r w3 ⟨x,es',ρ',⟨e1,e2⟩,hav,M',st⟩=>?_;have hfr:= @co.fr ⟨gB,P⟩ U _ _ _ _ _ _ _ _ st;subst e1;subst e2;have e: [r]= [Value.bool (g t)]:=aC.inv (show aC U _ _ .bool (g t) [r]from(show bJ _ [(1,.d .bool (g t))] [r]from hav).one1.1);injection e with e;exact⟨e,hfr⟩⟩
theorem pq{f:FuncId}{c:aZ U}{caps:List (Va U)}{a b:aY}{g:TT U.ty a→TT U.ty b→Int}{cvs:List Value}{Y:List Nat}(hC:bR P U f c)(hpr:ao.pr=P)(hgv:qJ (· =w))(hr:wu c caps a b g)(hcap: ∀w2,kb Y w w2→ ∀(F0:ao) (ρ0:Nat→Rz),bS (@ba F0 U gB (· =w2) ρ0 0 []) caps cvs):wa U Y (· =w) (.func (.func f) #[] cvs.toArray) a b g:=⟨⟨f,cvs,rfl⟩,fun w1 hw1 w2 hl t vs v t' vs' v' hd hv hd' hv'=>by
 subst hw1;rw[hpr];refine nC.ofc cvs ?_;have:= @hC ⟨gB,P⟩ rfl gB w2 (fun _=>⟨none,0⟩) [] (⟨dI a,[(aI U a,.d a t)]⟩::⟨dI b,[(aI U b,.d b t')]⟩::caps) (v::v'::cvs) _ (GF rfl (by obtain⟨O,h1,h2⟩:=hl;exact(hgv.2 _ rfl).fr h1 fun o ho hb=>(h2 o ho).1 (hgv.1 o hb))) ⟨v,_,rfl,xb hd hv,v',cvs,rfl,xb hd' hv',hcap w2 hl _ _⟩ (hr t t');refine this.mono fun r w3 ⟨x,es',ρ',⟨e1,e2⟩,hav,M',st⟩=>?_;have hfr:= @co.fr ⟨gB,P⟩ U _ _ _ _ _ _ _ _ st;subst e1;subst e2;have e:=aC.inv (show aC U _ _ (.int .i64) (g t t') [r]from(show bJ _ [(1,.d (.int .i64) (g t t'))] [r]from hav).one1.1);obtain⟨e,hin⟩:=e;injection e with e;exact⟨e,hin,hfr⟩⟩
omit [ao]in
theorem gg{f:FuncId}{K:aZ U→Prop}(h:n8 G f K)(hG:ij P U G): ∃c,K c∧bR P U f c:=by
 unfold n8 at h;split at h
 ·rename_i c hc;exact⟨c,h,hG f c hc⟩
 ·exact h.elim
def Cv(U:bH) [F:ao](X:List Nat)(w:World)(ρ:Nat→Rz)(n:Nat)(H:Hs U)(x:Va U)(H':Hs U)(c:Cx U)(Z:List Nat):Prop:=bh U X (· =w) ρ n H'∧co ρ n H w ρ n H' w∧CP H H'∧(∀j∈Z,∃l t,aB H' j=some (.cells l t))∧
 ∀F1:ao,F1.pr=F.pr→(∀z∈F.xf,z∈F1.xf)→(∀j∈Z,∀g,(ρ j).A=some ⟨g,0,none⟩→g∈F1.xf)→ ∀v,cx (@Vw F U X w ρ n H) x v→ @ba F1 U (ak ρ H'++X) (· =w) ρ n H' c [v]
omit [ao]in
theorem Av [F:ao](hG:dT P U G){a:aY}{x:Va U}{K:Hs U→(TT U.ty a→Bool)→List Nat→Prop}(h:zI T G a x H K)(M:bh U X (· =w) ρ n H): ∃H' g Z,K H' g Z∧Cv U X w ρ n H x H' (.f1 a g) Z:=by
 have gv0:=M.gv;unfold zI at h;split at h
 ·rename_i k f;obtain⟨c,⟨g,hr,hK⟩,hC⟩:=gg h hG.2;refine⟨H,g,[],hK,M,M.stp0,CP.refl _,fun j hj=>(by cases hj),fun F1 hp hx hz v hv=>?_⟩;have e:=(show bJ _ [(k,.fn f)] [v]from hv).one1.1;have e: [v]= [Value.func (.func f) #[] #[]]:=e;injection e with e;subst e;exact⟨_,rfl,po (cvs:= []) hC (hp.trans hG.1) ⟨fun z hz=>hx z (gv0.1 z hz),gv0.2⟩ hr fun _ _ _ _=>rfl⟩
 ·rename_i k f js;obtain⟨H1,caps,h,M1,s1,cp,cells,hcap⟩:=pn h M;obtain⟨c,⟨g,hr,hK⟩,hC⟩:=gg h hG.2;refine⟨H1,g,js,hK,M1,s1,cp,cells,fun F1 hp hx hz v hv=>?_⟩;have e:=(show bJ _ [(k,.clo f js)] [v]from hv).one1.1;have e:=e.1;injection e with e;subst e;exact⟨_,rfl,po hC (hp.trans hG.1) ⟨fun z hz=>hx z (gv0.1 z hz),gv0.2⟩ hr fun w2 ⟨O,hf,hO⟩ F0 ρ0=>hcap w2 O hf (fun o ho=>(hO o ho).2) (fun j hj g hA ho=>(hO g ho).1 (hz j hj g hA)) F0 ρ0⟩
 ·rename_i k a' g;split at h
  ·rename_i g' hc;obtain⟨e1,e2⟩:=c5 _ _ _ _ _ hc;subst e1;have e2:g=g':=eq_of_heq e2;subst e2;refine⟨H,g,[],h,M,M.stp0,CP.refl _,fun j hj=>(by cases hj),fun F1 hp hx hz v hv=>?_⟩;exact ba.inst hx hp.symm (show bJ _ [(k,.f1 _ g)] [v]from hv).one1.1
  ·exact h.elim
 ·exact h.elim
omit [ao]in
theorem Aw [F:ao](hG:dT P U G){a b:aY}{x:Va U}{K:Hs U→(TT U.ty a→TT U.ty b→Int)→List Nat→Prop}(h:zJ T G a b x H K)(M:bh U X (· =w) ρ n H): ∃H' g Z,K H' g Z∧Cv U X w ρ n H x H' (.f2 a b g) Z:=by
 have gv0:=M.gv;unfold zJ at h;split at h
 ·rename_i k f;obtain⟨c,⟨g,hr,hK⟩,hC⟩:=gg h hG.2;refine⟨H,g,[],hK,M,M.stp0,CP.refl _,fun j hj=>(by cases hj),fun F1 hp hx hz v hv=>?_⟩;have e:=(show bJ _ [(k,.fn f)] [v]from hv).one1.1;have e: [v]= [Value.func (.func f) #[] #[]]:=e;injection e with e;subst e;exact⟨_,rfl,pq (cvs:= []) hC (hp.trans hG.1) ⟨fun z hz=>hx z (gv0.1 z hz),gv0.2⟩ hr fun _ _ _ _=>rfl⟩
 ·rename_i k f js;obtain⟨H1,caps,h,M1,s1,cp,cells,hcap⟩:=pn h M;obtain⟨c,⟨g,hr,hK⟩,hC⟩:=gg h hG.2;refine⟨H1,g,js,hK,M1,s1,cp,cells,fun F1 hp hx hz v hv=>?_⟩;have e:=(show bJ _ [(k,.clo f js)] [v]from hv).one1.1;have e:=e.1;injection e with e;subst e;exact⟨_,rfl,pq hC (hp.trans hG.1) ⟨fun z hz=>hx z (gv0.1 z hz),gv0.2⟩ hr fun w2 ⟨O,hf,hO⟩ F0 ρ0=>hcap w2 O hf (fun o ho=>(hO o ho).2) (fun j hj g hA ho=>(hO g ho).1 (hz j hj g hA)) F0 ρ0⟩
 ·rename_i k a' b' g;split at h
  ·rename_i g1 hc;obtain⟨e1,e2⟩:=c5 _ _ _ _ _ hc;subst e1;have e2:g=g1:=eq_of_heq e2;subst e2;split at h
   ·rename_i g2 hc2;obtain⟨e1,e2⟩:=c5 _ _ _ _ _ hc2;subst e1;have e2:g=g2:=eq_of_heq e2;subst e2;refine⟨H,g,[],h,M,M.stp0,CP.refl _,fun j hj=>(by cases hj),fun F1 hp hx hz v hv=>?_⟩;exact ba.inst hx hp.symm (show bJ _ [(k,.f2 _ _ g)] [v]from hv).one1.1
   ·exact h.elim
  ·exact h.elim
 ·exact h.elim
omit [ao]in
theorem ba.same{H1 H':Hs U}(nb: ∀g∈ak ρ H',g∈ak ρ H1∨w.heap.size≤g){F1:ao}{c:Cx U}{vs:List Value}(hc:(∃a g,c= .f1 a g)∨ ∃a b g,c= .f2 a b g)(h: @ba F1 U (ak ρ H1++X) (· =w) ρ n H1 c vs): @ba F1 U (ak ρ H'++X) (· =w) ρ n H' c vs:=by
 have hl: ∀w2, @kb F1 (ak ρ H'++X) w w2→ @kb F1 (ak ρ H1++X) w w2:=fun w2 ⟨O,h1,h2⟩=>⟨O,h1,fun o ho=>⟨(h2 o ho).1,by
  rcases(h2 o ho).2 with h|h
  ·rcases List.mem_append.1 h with h|h
   ·exact(nb o h).imp (fun h=>List.mem_append_left _ h) id
   ·exact .inl (List.mem_append_right _ h)
  ·exact .inr h⟩⟩
 rcases hc with⟨a,g,rfl⟩|⟨a,b,g,rfl⟩
 ·obtain⟨u,e,hf,h⟩:=h;exact⟨u,e,hf,fun w1 h1 w2 h2=>by subst h1;exact h _ rfl w2 (hl w2 h2)⟩
 ·obtain⟨u,e,hf,h⟩:=h;exact⟨u,e,hf,fun w1 h1 w2 h2=>by subst h1;exact h _ rfl w2 (hl w2 h2)⟩
theorem CH{ag:Bool}{s:aY}{t:TT U.ty s}{Y:List Nat}{v:Value}(hd:aC U Y (· =w) s t v.cells.toList)(hv:dg ag v v.cells.toList):cx (ba U Y (· =w) ρ n H) ⟨ag,[(aI U s,.d s t)]⟩ v:=by
 have hseg:bJ (ba U Y (· =w) ρ n H) [(aI U s,.d s t)] v.cells.toList:=⟨_,[],(List.append_nil _).symm,hd.length,hd,rfl⟩;unfold cx;unfold dg at hv;cases ag with
 |true=>exact⟨_,hv,hseg⟩
 |false=>exact hv▸hseg
omit [ao]in
theorem lC [F:ao](hG:dT P U G): ∀{md:List Md} {xs:List (Va U)} {H:Hs U} {K:Hs U→List (Va U)→List Nat→Prop},DW T G md xs H K→bh U X (· =w) ρ n H→ ∃H' xs' Z,K H' xs' Z∧bh U X (· =w) ρ n H'∧co ρ n H w ρ n H' w∧CP H H'∧(∀j∈Z,∃l t,aB H' j=some (.cells l t))∧
  ∀F1:ao,F1.pr=F.pr→(∀z∈F.xf,z∈F1.xf)→(∀j∈Z,∀g,(ρ j).A=some ⟨g,0,none⟩→g∈F1.xf)→ ∀vs,bS (@Vw F U X w ρ n H) xs vs→bS (@Vw F1 U X w ρ n H') xs' vs
 | [],xs,H,K,h,M=>⟨H,xs,[],h,M,M.stp0,CP.refl _,fun j hj=>(by cases hj),fun F1 hp hx hz vs hv=>bS.imp (fun _ _ h=>ba.inst hx hp.symm h) hv⟩
 |m::md,[],H,K,h,M=>⟨H,[],[],h,M,M.stp0,CP.refl _,fun j hj=>(by cases hj),fun F1 hp hx hz vs hv=>hv⟩
 | .n::md,x::xs,H,K,h,M=>by
  have h:DW T G md xs H fun H r Z=>K H (x::r) Z:=h;obtain⟨H',xs',Z,h,M',s',cp,cells,c'⟩:=lC hG (md:=md) h M;have hs: ∀v,cx (Vw U X w ρ n H) x v→cx (Vw U X w ρ n H') x v:=fun v h1=>h1.imp fun _ _ h=>h.step s';refine⟨H',_,Z,h,M',s',cp,cells,fun F1 hp hx hz vs hv=>?_⟩;obtain⟨v,us,e1,h1,h2⟩:=hv;exact⟨v,us,e1,(hs v h1).imp fun _ _ h=>ba.inst hx hp.symm h,c' F1 hp hx hz _ h2⟩
 | .p _::md,x::xs,H,K,h,M=>by
  have h:DW T G md xs H fun H r Z=>K H (x::r) Z:=h;obtain⟨H',xs',Z,h,M',s',cp,cells,c'⟩:=lC hG (md:=md) h M;have hs: ∀v,cx (Vw U X w ρ n H) x v→cx (Vw U X w ρ n H') x v:=fun v h1=>h1.imp fun _ _ h=>h.step s';refine⟨H',_,Z,h,M',s',cp,cells,fun F1 hp hx hz vs hv=>?_⟩;obtain⟨v,us,e1,h1,h2⟩:=hv;exact⟨v,us,e1,(hs v h1).imp fun _ _ h=>ba.inst hx hp.symm h,c' F1 hp hx hz _ h2⟩
 | .d s::md,x::xs,H,K,h,M=>by
  have h:jQ x.l H fun H l=>cJ 20 s l fun t=>DW T G md xs H fun H r Z=>K H (⟨x.ag,[(aI U s,.d s t)]⟩::r) Z:=h;obtain⟨H1,l',⟨h,cp1⟩,M1,s1,c1⟩:=gc (iR h fun H' r cp h=>(⟨h,cp⟩:_∧CP H H')) M;obtain⟨t,h,ht⟩:=bq h;obtain⟨H',xs',Z,h,M',s',cp,cells,c'⟩:=lC hG (md:=md) h M1;have d1: ∀u,cx (Vw U X w ρ n H) x u→aC U (ak ρ H'++X) (· =w) s t u.cells.toList:=fun u hu=>aC.mv (s'.mv (X:=X)) (ht _ _ _ _ _ _ (c1 _ hu.cells));have hA: ∀u,cx (Vw U X w ρ n H) x u→dg x.ag u u.cells.toList:=fun u hu=>oZ hu;have hs: ∀us,bS (Vw U X w ρ n H) xs us→bS (Vw U X w ρ n H1) xs us:=fun us hu=>bS.imp (fun _ _ h=>h.step s1) hu;refine⟨H',_,Z,h,M',s1.trans s',cp1.trans cp,cells,fun F1 hp hx hz vs hv=>?_⟩;obtain⟨v,us,e1,h1,h2⟩:=hv;exact⟨v,us,e1,CH (d1 v h1) (hA v h1),c' F1 hp hx hz _ (hs _ h2)⟩
 | .f1 a::md,x::xs,H,K,h,M=>by
  have h:zI T G a x H fun H g js=>DW T G md xs H fun H r Z=>K H (⟨false,[(1,.f1 a g)]⟩::r) (js++Z):=h;obtain⟨H1,g,js,h,M1,s1,cp1,cells1,cv⟩:=Av hG h M;obtain⟨H',xs',Z,h,M',s',cp,cells,c'⟩:=lC hG (md:=md) h M1;have hs: ∀us,bS (Vw U X w ρ n H) xs us→bS (Vw U X w ρ n H1) xs us:=fun us hu=>bS.imp (fun _ _ h=>h.step s1) hu;have nb:=s'.nb;refine⟨H',_,js++Z,h,M',s1.trans s',cp1.trans cp,fun j hj=>?_,fun F1 hp hx hz vs hv=>?_⟩
  ·rcases List.mem_append.1 hj with hj|hj
   ·obtain⟨l,t,hl⟩:=cells1 j hj;exact⟨l,t,cp _ _ rfl hl⟩
   ·exact cells j hj
  ·obtain⟨v,us,e1,h1,h2⟩:=hv;refine⟨v,us,e1,ga ?_,c' F1 hp hx (fun j hj=>hz j (List.mem_append_right _ hj)) _ (hs _ h2)⟩;exact ba.same nb (.inl ⟨_,_,rfl⟩) (cv F1 hp hx (fun j hj=>hz j (List.mem_append_left _ hj)) v h1)
 | .f2 a b::md,x::xs,H,K,h,M=>by
  have h:zJ T G a b x H fun H g js=>DW T G md xs H fun H r Z=>K H (⟨false,[(1,.f2 a b g)]⟩::r) (js++Z):=h;obtain⟨H1,g,js,h,M1,s1,cp1,cells1,cv⟩:=Aw hG h M;obtain⟨H',xs',Z,h,M',s',cp,cells,c'⟩:=lC hG (md:=md) h M1;have hs: ∀us,bS (Vw U X w ρ n H) xs us→bS (Vw U X w ρ n H1) xs us:=fun us hu=>bS.imp (fun _ _ h=>h.step s1) hu;have nb:=s'.nb;refine⟨H',_,js++Z,h,M',s1.trans s',cp1.trans cp,fun j hj=>?_,fun F1 hp hx hz vs hv=>?_⟩
  ·rcases List.mem_append.1 hj with hj|hj
   ·obtain⟨l,t,hl⟩:=cells1 j hj;exact⟨l,t,cp _ _ rfl hl⟩
   ·exact cells j hj
  ·obtain⟨v,us,e1,h1,h2⟩:=hv;refine⟨v,us,e1,ga ?_,c' F1 hp hx (fun j hj=>hz j (List.mem_append_right _ hj)) _ (hs _ h2)⟩;exact ba.same nb (.inr ⟨_,_,_,rfl⟩) (cv F1 hp hx (fun j hj=>hz j (List.mem_append_left _ hj)) v h1)
theorem pt: ∀{fs:List (Nat×Option aY)} {H:Hs U} {l:List (bO U)} {K:Hs U→List (bO U)→Prop},zG fs H l K→bh U X (· =w) ρ n H→ ∃H' l',K H' l'∧CP H H'∧bh U X (· =w) ρ n H'∧co ρ n H w ρ n H' w∧ ∀vs,bJ (Vw U X w ρ n H) l vs→bJ (Vw U X w ρ n H') l' vs
 | [],H,l,K,h,M=>⟨H,l,h,CP.refl _,M,M.stp0,fun _ h=>h⟩
 |(k,o)::fs,H,l,K,h,M=>by
  have h:tK 40 l k fun l1=>fA 40 l k fun l2=>match (generalizing:=false) o with
   |some s=>bif Nat.beq k (aI U s)then jQ l1 H fun H l1=>cJ 20 s l1 fun u=>zG fs H l2 fun H r=>K H ((k,.d s u)::r)else False
   |none=>zG fs H l2 fun H r=>o5 l1 r fun r=>K H r:=h
  obtain⟨l1,h,h1⟩:=fB h;obtain⟨l2,h,h2⟩:=eN h;cases o with
  |none=>
   obtain⟨H',l',h,cp,M',s',c'⟩:=pt (fs:=fs) h M;refine⟨H',_,mn h,cp,M',s',fun vs hs=>?_⟩;obtain⟨a1,a2⟩:=h1 _ _ _ _ _ _ hs;obtain⟨a3,_⟩:=h2 _ _ _ _ _ _ hs;have:=bJ.app (a1.imp fun _ _ h=>h.step s') (c' _ a3)
   rwa [List.take_append_drop]at this
  |some s=>
   simp only at h;cases hb:Nat.beq k (aI U s)with
   |false=>rw[hb]at h;exact h.elim
   |true=>
    rw[hb]at h;simp only[cond_true]at h;obtain⟨H1,l3,⟨h,cp1⟩,M1,s1,c1⟩:=gc (iR h fun H' r cp h=>(⟨h,cp⟩:_∧CP H H')) M;obtain⟨u,h,hu⟩:=bq h;obtain⟨H',l',h,cp,M',s',c'⟩:=pt (fs:=fs) h M1;refine⟨H',_,h,cp1.trans cp,M',s1.trans s',fun vs hs=>?_⟩;obtain⟨a1,a2⟩:=h1 _ _ _ _ _ _ hs;obtain⟨a3,_⟩:=h2 _ _ _ _ _ _ hs;have d1:=aC.mv (s'.mv (X:=X)) (hu _ _ _ _ _ _ (c1 _ a1));exact⟨vs.take k,vs.drop k,(List.take_append_drop _ _).symm,by rw[List.length_take];omega,d1,c' _ (a3.imp fun _ _ h=>h.step s1)⟩
theorem ua{fs:List (Nat×Option aY)}{j:Nat}{K:Hs U→Prop}(h:u4 fs j H K)(M:bh U X (· =w) ρ n H): ∃H',K H'∧bh U X (· =w) ρ n H'∧co ρ n H w ρ n H' w:=by
 unfold u4 at h;split at h
 ·rename_i l t hl;obtain⟨H1,l',h,cp,M1,s1,c1⟩:=pt h M;have hl1:=cp _ _ rfl hl;have hK:=cT h;obtain⟨g,vs,hA,hs,hw⟩:=M.ent _ (al hl);have hb0: ∀g,aq (ci ρ j (ρ j)) (j,(.cells l' t:aJ U))=some g→aq ρ (j,(.cells l t:aJ U))=some g∨w.heap.size≤g:=fun g hg=>by rw[aT]at hg;exact .inl hg
  have hr0: ∀v' l'' m',bf (some (.cells l' t:aJ U))=some (v',l'',m')→ ∃v0 l0 m,bf (some (.cells l t:aJ U))=some (v0,l0,m)∧v0≤v'∧(v0=v'→ρ j=ρ j∧l''=l0∧m'=m):=fun v' l'' m' hr=>by cases hr
  have hf:Fr (aq ρ (j,(.cells l t:aJ U))).toList w w:=Fr.refl _ _;have st:=co.upd (n:=n) M1.xd M1.nd hl1 hf (ρ j) hb0 hr0 (fun _=>rfl);rw[aT]at st;have M':=M1.upd hl1 hf (ρ j) hb0 hr0 (fun _=>rfl) (x:= .cells l' t) (by
   rw[aT];exact⟨g,vs,hA,(c1 vs hs).imp fun _ _ h=>h.step st,hw⟩)
  rw[aT]at M';exact⟨_,hK,M',s1.trans st⟩
 ·exact h.elim
theorem xc: ∀{em:List (Nat×List (Nat×Option aY))} {H:Hs U} {K:Hs U→Prop},I8 em H K→bh U X (· =w) ρ n H→ ∃H',K H'∧bh U X (· =w) ρ n H'∧co ρ n H w ρ n H' w
 | [],H,K,h,M=>⟨H,h,M,M.stp0⟩
 |x::em,H,K,h,M=>by
  obtain⟨H1,h,M1,s1⟩:=ua (show u4 x.2 x.1 H (fun H=>I8 em H K)from h) M;obtain⟨H2,h,M2,s2⟩:=xc (em:=em) h M1;exact⟨H2,h,M2,s1.trans s2⟩
theorem iX: ∀{md:List Md} {xs:List (Va U)} {H:Hs U} {K:Hs U→Prop},F6 md xs H K→bh U X (· =w) ρ n H→ ∃H',K H'∧bh U X (· =w) ρ n H'∧co ρ n H w ρ n H' w
 | [],xs,H,K,h,M=>⟨H,h,M,M.stp0⟩
 |m::md,[],H,K,h,M=>⟨H,h,M,M.stp0⟩
 | .n::md,x::xs,H,K,h,M=>iX (md:=md) (xs:=xs) h M
 | .d _::md,x::xs,H,K,h,M=>iX (md:=md) (xs:=xs) h M
 | .f1 _::md,x::xs,H,K,h,M=>iX (md:=md) (xs:=xs) h M
 | .f2 _ _::md,x::xs,H,K,h,M=>iX (md:=md) (xs:=xs) h M
 | .p fs::md,x::xs,H,K,h,M=>by
  have h:(match (generalizing:=false) x with
    |⟨false,(_,.ptr j 0):: []⟩=>u4 fs j H fun H=>F6 md xs H K
    |⟨false,(_,.nilp):: []⟩=>F6 md xs H K
    |_=>False):=h
  split at h
  ·obtain⟨H1,h,M1,s1⟩:=ua h M;obtain⟨H2,h,M2,s2⟩:=iX (md:=md) (xs:=xs) h M1;exact⟨H2,h,M2,s1.trans s2⟩
  ·exact iX (md:=md) (xs:=xs) h M
  ·exact h.elim
theorem lD: ∀{md:List Md} {xs:List (Va U)} {H:Hs U} {K:Hs U→List (Va U)→Prop},CA md xs H K→bh U X (· =w) ρ n H→ ∃H' xs',K H' xs'∧bh U X (· =w) ρ n H'∧co ρ n H w ρ n H' w∧ ∀vs,bS (Vw U X w ρ n H) xs vs→bS (Vw U X w ρ n H') xs' vs
 | [],xs,H,K,h,M=>⟨H,xs,h,M,M.stp0,fun _ h=>h⟩
 |m::md,[],H,K,h,M=>⟨H,[],h,M,M.stp0,fun _ h=>h⟩
 | .n::md,x::xs,H,K,h,M=>by
  have h:CA md xs H fun H r=>K H (x::r):=h;obtain⟨H',xs',h,M',s',c'⟩:=lD (md:=md) h M;refine⟨H',_,h,M',s',fun vs hv=>?_⟩;obtain⟨v,us,e1,h1,h2⟩:=hv;exact⟨v,us,e1,h1.imp fun _ _ h=>h.step s',c' _ h2⟩
 | .f1 _::md,x::xs,H,K,h,M=>by
  have h:CA md xs H fun H r=>K H (x::r):=h;obtain⟨H',xs',h,M',s',c'⟩:=lD (md:=md) h M;refine⟨H',_,h,M',s',fun vs hv=>?_⟩;obtain⟨v,us,e1,h1,h2⟩:=hv;exact⟨v,us,e1,h1.imp fun _ _ h=>h.step s',c' _ h2⟩
 | .f2 _ _::md,x::xs,H,K,h,M=>by
  have h:CA md xs H fun H r=>K H (x::r):=h;obtain⟨H',xs',h,M',s',c'⟩:=lD (md:=md) h M;refine⟨H',_,h,M',s',fun vs hv=>?_⟩;obtain⟨v,us,e1,h1,h2⟩:=hv;exact⟨v,us,e1,h1.imp fun _ _ h=>h.step s',c' _ h2⟩
 | .p _::md,x::xs,H,K,h,M=>by
  have h:CA md xs H fun H r=>K H (x::r):=h;obtain⟨H',xs',h,M',s',c'⟩:=lD (md:=md) h M;refine⟨H',_,h,M',s',fun vs hv=>?_⟩;obtain⟨v,us,e1,h1,h2⟩:=hv;exact⟨v,us,e1,h1.imp fun _ _ h=>h.step s',c' _ h2⟩
 | .d s::md,x::xs,H,K,h,M=>by
  have h:wl s H x fun H t=>CA md xs H fun H r=>K H (⟨x.ag,[(aI U s,.d s t)]⟩::r):=h;obtain⟨H1,t,h,M1,s1,d1⟩:=mP h M;obtain⟨H',xs',h,M',s',c'⟩:=lD (md:=md) h M1;refine⟨H',_,h,M',s1.trans s',fun vs hv=>?_⟩;obtain⟨v,us,e1,h1,h2⟩:=hv;have hd:=aC.mv (s'.mv (X:=X)) (d1 v h1);have hseg:bJ (Vw U X w ρ n H') [(aI U s,.d s t)] v.cells.toList:=⟨_,[],(List.append_nil _).symm,hd.length,hd,rfl⟩;refine⟨v,us,e1,?_,c' _ ?_⟩
  ·unfold cx at h1⊢;cases hag:x.ag with
   |true=>
    simp only[hag]at h1⊢;obtain⟨ws,rfl,_⟩:=h1;exact⟨ws,rfl,by simpa[Value.cells]using hseg⟩
   |false=>
    simp only[hag]at h1⊢;have:=h1.one v (by simp);have e:v.cells.toList= [v]:=by cases v<;>first|rfl|(simp[Value.oneCell']at this)
    rw[e]at hseg;exact hseg
  ·exact bS.imp (fun _ _ h=>h.step s1) h2
omit [ao]in
theorem pu: ∀{es:List (aJ U)} {L:List Nat} {n:Nat} {K:List Nat→Nat→Prop},zK es L n K→ ∃L2 n2,K L2 n2∧L2.length=es.length∧n≤n2∧(L.length≤es.length→ ∀(j:Nat),j<L.length→L2[j]? =L[j]?)∧ ∀(j:Nat),L.length≤j→j<es.length→L2[j]? =some (n+(j - L.length))∧n+(j - L.length)<n2
 | [],L,n,K,h=>⟨[],n,h,rfl,Nat.le_refl _,fun h j hj=>by simp at h;subst h;rfl,fun j _ hj=>by simp at hj⟩
 |x::es,i::L,n,K,h=>by
  obtain⟨L2,n2,h,h1,h2,h3,h4⟩:=pu (es:=es) (show zK es L n (fun l n=>K (i::l) n)from h);refine⟨_,n2,h,by simp[h1],h2,fun hle j hj=>?_,fun j hj1 hj2=>?_⟩
  ·cases j with
   |zero=>rfl
   |succ j=>simpa using h3 (by simpa using hle) j (by simpa using hj)
  ·cases j with
   |zero=>simp at hj1
   |succ j=>
    simp only[List.length_cons]at hj1 hj2⊢;have:=h4 j (by omega) (by omega);rw[show j+1 -(L.length+1)=j - L.length by omega];simpa using this
 |x::es,[],n,K,h=>by
  obtain⟨L2,n2,h,h1,h2,h3,h4⟩:=pu (es:=es) (show zK es [] (n+1) (fun l n'=>K (n::l) n')from h);refine⟨_,n2,h,by simp[h1],by omega,fun hle j hj=>by simp at hj,fun j hj1 hj2=>?_⟩;simp only[List.length_cons]at hj2;cases j with
  |zero=>exact⟨rfl,by simp;omega⟩
  |succ j=>
   have:=h4 j (by simp) (by omega);simp only[List.length_nil,Nat.sub_zero]at this⊢;rw[show n+(j+1)=n+1+j by omega];simpa using this
def kB:List Nat→Nat→Option Nat
 | [],_=>none
 |a::L,i=>bif Nat.beq a i then some 0 else(kB L i).map (· +1)
omit [ao]in
theorem kC: ∀{L:List Nat} {i j:Nat},kB L i=some j→L[j]? =some i
 |a::L,i,j,h=>by
  unfold kB at h;cases hb:Nat.beq a i with
  |true=>rw[hb]at h;injection h with h;subst h;rw[Nat.eq_of_beq_eq_true hb];rfl
  |false=>
   rw[hb]at h;simp only[cond_false,Option.map_eq_some_iff]at h;obtain⟨k,hk,rfl⟩:=h;simpa using kC hk
omit [ao]in
theorem pv: ∀{L:List Nat} {i j:Nat},L.Nodup→L[j]? =some i→kB L i=some j
 |a::L,i,j,hn,h=>by
  unfold kB;rw[List.nodup_cons]at hn;cases j with
  |zero=>simp at h;subst h;rw[Nat.beq_refl];rfl
  |succ j=>
   simp at h;have: ¬a=i:=by rintro rfl;exact hn.1 (List.mem_of_getElem? h)
   rw[cu this,pv hn.2 h];rfl
def kD(ρ ρ':Nat→Rz)(L:List Nat):Nat→Rz:=fun i=>match kB L i with
 |some j=>ρ' j
 |none=>ρ i
def qR(H:Hs U)(i:Nat):Nat:=match aB H i with
 |some (.row v _ _ _)=>v
 |_=>0
omit [ao]in
theorem pw{i v:Nat}{K:Nat→Prop}(h:sr H i v K):K (qR H i+v):=by
 unfold sr at h;unfold qR;split at h
 ·rename_i hl;rw[hl];exact h
 ·rename_i hn;have:(match aB H i with|some (.row v _ _ _)=>v|_=>0)=0:=by
   split
   ·rename_i hl;exact absurd hl (hn _ _ _ _)
   ·rfl
  rw[this,Nat.zero_add];exact h
structure ik(H0:Hs U)(L:List Nat)(Yc:List Nat)(ρ':Nat→Rz)(es:List (aJ U))(Yf:List Nat)(ρf:Nat→Rz)(nf:Nat)(Hf:Hs U):Prop where
 Y: ∀y∈Yf,y∈Yc
 at_: ∀(j i:Nat),L[j]? =some i→i<nf∧ρf i=ρ' j∧(∀v' l m,bf (aB Hf i)=some (v',l,m)→ ∃v,bf es[j]? =some (v,l,m)∧v'=qR H0 i+v)∧(bf es[j]? =none→bf (aB Hf i)=none)
omit [ao]in
theorem cy{α:Type}: ∀{l:List α} {j:Nat},df l j=l[j]?
 | [],j=>by cases j<;>rfl
 |_::_,0=>rfl
 |_::l,j+1=>by simpa[df]using cy (l:=l) (j:=j)
variable {H0:Hs U} {Yc:List Nat}
omit [ao]in
theorem xe{F1:ao} [F:ao]{x:Cx U}{K:Cx U→Prop}(h:ov H0 L x K): ∃y,K y∧ ∀Yf ρf nf Hf,ik H0 L Yc ρ' es Yf ρf nf Hf→ ∀vs, @ba F1 U Yc (· =w') ρ' es.length (aH 0 es) x vs→ba U Yf (· =w') ρf nf Hf y vs:=by
 have mvY: ∀{Yf ρf nf Hf},ik H0 L Yc ρ' es Yf ρf nf Hf→Mv Yc (· =w') Yf (· =w'):=fun b w2 h2=>⟨w2,[],h2,Fr.refl _ _,fun _ h=>(by cases h),fun y hy=> .inl (b.Y y hy)⟩;cases x with
 |own j v=>
  unfold ov at h;simp only at h;split at h
  ·rename_i i hi;rw[cy]at hi;have h:=pw h;refine⟨_,h,fun Yf ρf nf Hf b vs hv=>?_⟩;obtain⟨h1,h2,h3,h4⟩:=b.at_ j i hi;obtain⟨hj,A,l,c,e,hn⟩:=hv;refine⟨h1,A,l,c,e,fun v' l' m' hr=>?_⟩;obtain⟨v1,hr1,hv1⟩:=h3 _ _ _ hr;obtain⟨a1,a2⟩:=hn _ _ _ (by rw[dQ];exact hr1);subst hv1;exact⟨by omega,fun h=>by rw[h2];exact a2 (by omega)⟩
  ·exact⟨.un,h,fun Yf ρf nf Hf b vs hv=>by obtain⟨_,A,l,c,e,_⟩:=hv;exact⟨_,e,rfl⟩⟩
 |ptr j off=>
  unfold ov at h;simp only at h;split at h
  ·rename_i i hi;rw[cy]at hi;refine⟨_,h,fun Yf ρf nf Hf b vs hv=>?_⟩;obtain⟨h1,h2,h3,h4⟩:=b.at_ j i hi;obtain⟨hj,hr,g,hA,e⟩:=hv;exact⟨h1,h4 (by rw[←dQ];exact hr),g,by rw[h2];exact hA,e⟩
  ·exact⟨.un,h,fun Yf ρf nf Hf b vs hv=>by obtain⟨_,_,g,_,e⟩:=hv;exact⟨_,e,rfl⟩⟩
 |pel j v q off=>exact⟨.un,h,fun Yf ρf nf Hf b vs hv=>by obtain⟨_,a,e,_⟩:=hv;exact⟨_,e,rfl⟩⟩
 |pax i off m s q o=>exact⟨.un,h,fun Yf ρf nf Hf b vs hv=>by obtain⟨_,_,_,_,g,_,e⟩:=hv;exact⟨_,e,rfl⟩⟩
 |clo f js=>
  match js,h with
  | [],h=>exact⟨.un,h,fun Yf ρf nf Hf b vs hv=>⟨_,hv.1,rfl⟩⟩
  |_::_::_,h=>exact⟨.un,h,fun Yf ρf nf Hf b vs hv=>⟨_,hv.1,rfl⟩⟩
  |j:: [],h=>
   have h:(match df L j with|some i=>K (.clo f [i])|none=>K .un):=h;split at h
   ·rename_i i hi;rw[cy]at hi;refine⟨_,h,fun Yf ρf nf Hf b vs hv=>?_⟩;obtain⟨h1,h2,h3,h4⟩:=b.at_ j i hi;obtain⟨e,hall⟩:=hv;obtain⟨hj,hr,g,hA⟩:=hall j (by simp);exact⟨by rw[e];simp[h2],fun k hk=>by
     have hk:=List.mem_singleton.1 hk;subst hk;exact⟨h1,h4 (by rw[←dQ];exact hr),g,by rw[h2];exact hA⟩⟩
   ·exact⟨.un,h,fun Yf ρf nf Hf b vs hv=>⟨_,hv.1,rfl⟩⟩
 |f1 a g=>exact⟨.un,h,fun Yf ρf nf Hf b vs hv=>by obtain⟨u,e,⟨f,ca,e2⟩,_⟩:=hv;exact⟨u,e,by rw[e2];rfl⟩⟩
 |f2 a c g=>exact⟨.un,h,fun Yf ρf nf Hf b vs hv=>by obtain⟨u,e,⟨f,ca,e2⟩,_⟩:=hv;exact⟨u,e,by rw[e2];rfl⟩⟩
 |mp j=>
  unfold ov at h;simp only at h;split at h
  ·rename_i i hi;rw[cy]at hi;refine⟨_,h,fun Yf ρf nf Hf b vs hv=>?_⟩;obtain⟨h1,h2,h3,h4⟩:=b.at_ j i hi;obtain⟨hj,hr,g,hA,e⟩:=hv;exact⟨h1,h4 (by rw[←dQ];exact hr),g,by rw[h2];exact hA,e⟩
  ·exact⟨.un,h,fun Yf ρf nf Hf b vs hv=>by obtain⟨_,_,g,_,e⟩:=hv;exact⟨_,e,rfl⟩⟩
 |d s t=>exact⟨_,h,fun Yf ρf nf Hf b vs hv=>aC.mv (mvY b) hv⟩
 |pd s t=>exact⟨_,h,fun Yf ρf nf Hf b vs hv=>by obtain⟨g,b0,us,e,hd,hr⟩:=hv;exact⟨g,b0,us,e,aC.mv (mvY b) hd,hr.mv (mvY b)⟩⟩
 |nilp=>exact⟨_,h,fun Yf ρf nf Hf b vs hv=>hv⟩
 |nils=>exact⟨_,h,fun Yf ρf nf Hf b vs hv=>hv⟩
 |nilf=>exact⟨_,h,fun Yf ρf nf Hf b vs hv=>hv⟩
 |nilm=>exact⟨_,h,fun Yf ρf nf Hf b vs hv=>hv⟩
 |fn f=>exact⟨_,h,fun Yf ρf nf Hf b vs hv=>hv⟩
 |un=>exact⟨_,h,fun Yf ρf nf Hf b vs hv=>hv⟩
omit [ao]in
theorem kE{F1:ao} [F:ao]: ∀{l:List (bO U)} {K:List (bO U)→Prop},lV H0 L l K→ ∃l',K l'∧ ∀Yf ρf nf Hf,ik H0 L Yc ρ' es Yf ρf nf Hf→ ∀vs,bJ (@ba F1 U Yc (· =w') ρ' es.length (aH 0 es)) l vs→bJ (ba U Yf (· =w') ρf nf Hf) l' vs
 | [],K,h=>⟨[],h,fun _ _ _ _ _ _ hs=>hs⟩
 |(k,x)::l,K,h=>by
  have h:ov H0 L x fun y=>lV H0 L l fun r=>K ((k,y)::r):=h;obtain⟨y,h,hy⟩:=xe (Yc:=Yc) (ρ':=ρ') (es:=es) (w':=w') h;obtain⟨l',h,hl⟩:=kE (l:=l) h;refine⟨_,h,fun Yf ρf nf Hf b vs hs=>?_⟩;obtain⟨v1,v2,e,hk,hx,hr⟩:=hs;exact⟨v1,v2,e,hk,hy _ _ _ _ b _ hx,hl _ _ _ _ b _ hr⟩
omit [ao]in
theorem pz{V V':Cx U→List Value→Prop}{a:Bool}{l l':List (bO U)}(h: ∀vs,bJ V l vs→bJ V' l' vs){v:Value}(hv:cx V ⟨a,l⟩ v):cx V' ⟨a,l'⟩ v:=by
 unfold cx at hv⊢;cases a with
 |true=>obtain⟨vs,e,hs⟩:=hv;exact⟨vs,e,h _ hs⟩
 |false=>exact h _ hv
omit [ao]in
theorem oB{F1:ao} [F:ao]: ∀{l:List (Va U)} {K:List (Va U)→Prop},o7 H0 L l K→ ∃l',K l'∧ ∀Yf ρf nf Hf,ik H0 L Yc ρ' es Yf ρf nf Hf→ ∀vs,bS (@ba F1 U Yc (· =w') ρ' es.length (aH 0 es)) l vs→bS (ba U Yf (· =w') ρf nf Hf) l' vs
 | [],K,h=>⟨[],h,fun _ _ _ _ _ _ hs=>hs⟩
 |x::l,K,h=>by
  have h:lV H0 L x.l fun l1=>o7 H0 L l fun r=>K (⟨x.ag,l1⟩::r):=h;obtain⟨l1,h,h1⟩:=kE (Yc:=Yc) (ρ':=ρ') (es:=es) (w':=w') h;obtain⟨l',h,hl⟩:=oB (l:=l) h;refine⟨_,h,fun Yf ρf nf Hf b vs hs=>?_⟩;obtain⟨v,us,e,hx,hr⟩:=hs;exact⟨v,us,e,pz (h1 _ _ _ _ b) hx,hl _ _ _ _ b _ hr⟩
omit [ao]in
theorem xg{F1:ao} [F:ao]{x:AV U}{K:AV U→Prop}(h:CB H0 L x K): ∃y,K y∧ ∀Yf ρf nf Hf,ik H0 L Yc ρ' es Yf ρf nf Hf→ ∀v,n9 (@ba F1 U Yc (· =w') ρ' es.length (aH 0 es)) x v→n9 (ba U Yf (· =w') ρf nf Hf) y v:=by
 cases x with
 |v x=>
  obtain⟨l',h,hl⟩:=kE (Yc:=Yc) (ρ':=ρ') (es:=es) (w':=w') (show lV H0 L x.l (fun l=>K (.v ⟨x.ag,l⟩))from h);exact⟨_,h,fun Yf ρf nf Hf b v hv=>pz (hl _ _ _ _ b) hv⟩
 |tup l=>
  obtain⟨l',h,hl⟩:=oB (Yc:=Yc) (ρ':=ρ') (es:=es) (w':=w') (show o7 H0 L l (fun l=>K (.tup l))from h);exact⟨_,h,fun Yf ρf nf Hf b v hv=>by obtain⟨us,e,hs⟩:=hv;exact⟨us,e,hl _ _ _ _ b _ hs⟩⟩
 |gd p x=>exact⟨.un,h,fun _ _ _ _ _ _ _=>trivial⟩
 |un=>exact⟨.un,h,fun _ _ _ _ _ _ _=>trivial⟩
end
end Go.Proofs.YtiliglahlfkikaaGreatDoor.V
end

section
set_option linter.unusedVariables false
set_option linter.unusedSimpArgs false
namespace Go.Proofs.YtiliglahlfkikaaGreatDoor.V
open Go.RowKit
section
variable [ao] {U:bH} {P:Program} {nt:Nat} {T:cZ U} {G:gD U} {X:List Nat} {w w':World} {ρ ρ':Nat→Rz} {n:Nat} {H H0:Hs U} {L:List Nat} {es:List (aJ U)} {Yc:List Nat}
def sE(F1:ao) [F:ao](U:bH)(H0:Hs U)(L Yc:List Nat)(w':World)(ρ':Nat→Rz)(es:List (aJ U))(i:Nat)(x y:aJ U):Prop:=match x with
 | .cells l t=> ∃l',y= .cells l' t∧ ∀Yf ρf nf Hf,ik H0 L Yc ρ' es Yf ρf nf Hf→ ∀vs,bJ (@ba F1 U Yc (· =w') ρ' es.length (aH 0 es)) l vs→bJ (ba U Yf (· =w') ρf nf Hf) l' vs
 | .row v s xs t=>y= .row (qR H0 i+v) s xs t
 | .frz v s xs=>y= .frz (qR H0 i+v) s xs
 | .map d l=>y= .map d l
 |_=>y= .dead
omit [ao]in
theorem xh{F1:ao} [F:ao]{i:Nat}{x:aJ U}{K:aJ U→Prop}(h:ww H0 L i x K): ∃y,K y∧sE F1 U H0 L Yc w' ρ' es i x y:=by
 cases x with
 |cells l t=>
  obtain⟨l',h,hl⟩:=kE (Yc:=Yc) (ρ':=ρ') (es:=es) (w':=w') (show lV H0 L l (fun l=>K (.cells l t))from h);exact⟨_,h,l',rfl,hl⟩
 |row v s xs t=>
  have h:sr H0 i v fun v=>K (.row v s xs t):=h;exact⟨_,pw h,rfl⟩
 |frz v s xs=>
  have h:sr H0 i v fun v=>K (.frz v s xs):=h;exact⟨_,pw h,rfl⟩
 |map d l=>exact⟨_,h,rfl⟩
 |mapr d l r q g=>exact⟨_,h,rfl⟩
 |it i g=>exact⟨_,h,rfl⟩
 |clo f l=>exact⟨_,h,rfl⟩
 |hid v l m=>exact⟨_,h,rfl⟩
 |dead=>exact⟨_,h,rfl⟩
omit [ao]in
theorem sE.row{F1:ao} [F:ao]{i:Nat}{x y:aJ U}(h:sE F1 U H0 L Yc w' ρ' es i x y):(∀v' l m,bf (some y)=some (v',l,m)→ ∃v,bf (some x)=some (v,l,m)∧v'=qR H0 i+v)∧(bf (some x)=none→bf (some y)=none):=by
 cases x with
 |cells l t=>obtain⟨l',rfl,_⟩:=h;exact⟨fun _ _ _ h=>(by cases h),fun _=>rfl⟩
 |row v s xs t=>
  rw[show y=_ from h];refine⟨fun v' l m hr=>?_,fun hr=>by cases hr⟩;injection hr with hr;injection hr with h1 hr;exact⟨v,by rw[←hr];rfl,h1.symm⟩
 |frz v s xs=>
  rw[show y=_ from h];refine⟨fun v' l m hr=>?_,fun hr=>by cases hr⟩;injection hr with hr;injection hr with h1 hr;exact⟨v,by rw[←hr];rfl,h1.symm⟩
 |_=>rw[show y=_ from h];exact⟨fun _ _ _ h=>(by cases h),fun _=>rfl⟩
omit [ao]in
theorem sE.live{F1:ao} [F:ao]{i j g:Nat}{x y:aJ U}{ρf:Nat→Rz}(h:sE F1 U H0 L Yc w' ρ' es i x y)(hr:ρf i=ρ' j)(hg:aq ρf (i,y)=some g):aq ρ' (j,x)=some g:=by
 cases x with
 |cells l t=>obtain⟨l',rfl,_⟩:=h;unfold aq at hg⊢;simp only[hr]at hg;exact hg
 |row v s xs t=>rw[show y=_ from h]at hg;unfold aq at hg⊢;simp only[hr]at hg;exact hg
 |map d l=>rw[show y=_ from h]at hg;unfold aq at hg⊢;simp only[hr]at hg;exact hg
 |_=>rw[show y=_ from h]at hg;cases hg
def qS(H:Hs U)(i:Nat)(y:aJ U):Hs U:=match aB H i with
 |some _=>dH H i y
 |none=>(i,y)::H
omit [ao]in
theorem Ax{i:Nat}{y:aJ U}{K:Hs U→Prop}(h:zL H i y K):K (qS H i y):=by
 unfold zL at h;unfold qS;split at h
 ·rename_i hl;rw[hl];exact cT h
 ·rename_i hl;rw[hl];exact h
omit [ao]in
theorem ub{i k:Nat}{y:aJ U}:aB (qS H i y) k=if i=k then some y else aB H k:=by
 unfold qS;split
 ·rename_i x hl;exact eP ⟨x,hl⟩
 ·by_cases e:i=k
  ·subst e;rw[if_pos rfl,ph]
  ·rw[if_neg e];show(bif Nat.beq i k then some y else aB H k)=aB H k
   rw[cu e];rfl
omit [ao]in
theorem xi{i:Nat}{y:aJ U}:(qS H i y).map (·.1)=H.map (·.1)∨(qS H i y).map (·.1)=i::H.map (·.1)∧i∉H.map (·.1):=by
 unfold qS;split
 ·exact .inl kq
 ·rename_i hl;refine .inr ⟨rfl,fun h=>?_⟩;have: ∀(H:Hs U),i∈H.map (·.1)→aB H i≠none:=by
   intro H;induction H with
   |nil=>intro h;simp at h
   |cons p r ih=>
    intro h;obtain⟨a,b⟩:=p;unfold aB;by_cases e:a=i
    ·subst e;rw[Nat.beq_refl];simp
    ·rw[cu e];simp only[List.map_cons,List.mem_cons]at h;rcases h with h|h
     ·exact absurd h.symm e
     ·exact ih h
  exact this H h hl
def dU:Hs U→List Nat→List (aJ U)→Hs U
 |H,i::Q,y::ys=>dU (qS H i y) Q ys
 |H,_,_=>H
omit [ao]in
theorem qT: ∀{Q:List Nat} {ys:List (aJ U)} {H:Hs U} {k:Nat},Q.Nodup→ys.length=Q.length→aB (dU H Q ys) k=match kB Q k with|some j=>ys[j]? |none=>aB H k
 | [],ys,H,k,_,_=>by unfold dU;simp[kB]
 |i::Q,[],H,k,_,hl=>by simp at hl
 |i::Q,y::ys,H,k,hn,hl=>by
  rw[List.nodup_cons]at hn;unfold dU kB;rw[qT hn.2 (by simpa using hl)];by_cases e:i=k
  ·subst e;have:kB Q i=none:=by
    cases h:kB Q i with
    |none=>rfl
    |some j=>exact absurd (List.mem_of_getElem? (kC h)) hn.1
   rw[this,Nat.beq_refl];simp only[cond_true,List.getElem?_cons_zero];rw[ub,if_pos rfl]
  ·rw[cu e];simp only[cond_false];cases h:kB Q k with
   |none=>simp only[Option.map_none];rw[ub,if_neg e]
   |some j=>simp
omit [ao]in
theorem qU: ∀{Q:List Nat} {ys:List (aJ U)} {H:Hs U},(H.map (·.1)).Nodup→((dU H Q ys).map (·.1)).Nodup
 | [],ys,H,h=>by unfold dU;exact h
 |i::Q,[],H,h=>by unfold dU;exact h
 |i::Q,y::ys,H,h=>by
  unfold dU;refine qU ?_;rcases xi (H:=H) (i:=i) (y:=y)with e|⟨e,e2⟩
  ·rw[e];exact h
  ·rw[e];exact List.nodup_cons.2 ⟨e2,h⟩
omit [ao]in
theorem qV{F1:ao} [F:ao]: ∀{Q:List Nat} {xs:List (aJ U)} {H:Hs U} {K:Hs U→Prop},wx H0 L Q xs H K→xs.length=Q.length→ ∃ys,K (dU H Q ys)∧ys.length=Q.length∧ ∀(j i:Nat) x,Q[j]? =some i→xs[j]? =some x→ ∃y,ys[j]? =some y∧sE F1 U H0 L Yc w' ρ' es i x y
 | [],xs,H,K,h,hl=>⟨[],by unfold dU;exact h,rfl,fun j i x hj=>by simp at hj⟩
 |i::Q,[],H,K,h,hl=>by simp at hl
 |i::Q,x::xs,H,K,h,hl=>by
  have h:ww H0 L i x fun y=>zL H i y fun H=>wx H0 L Q xs H K:=h;obtain⟨y,h,hy⟩:=xh (Yc:=Yc) (ρ':=ρ') (es:=es) (w':=w') h;obtain⟨ys,h,hl',hys⟩:=qV (Q:=Q) (Ax h) (by simpa using hl);refine⟨y::ys,by unfold dU;exact h,by simp[hl'],fun j k x' hj hx=>?_⟩;cases j with
  |zero=>simp at hj hx;subst hj;subst hx;exact⟨y,rfl,hy⟩
  |succ j=>simp at hj hx;simpa using hys j k x' hj hx
structure Bx where
 f:ao
omit [ao]in
theorem uc: ∀{L Z:List Nat},wv L Z=true→ ∀z∈Z,z∉L
 |L,[],_,z,hz=>by cases hz
 |L,y::Z,h,z,hz=>by
  have h:(bif gE y L then false else wv L Z)=true:=h;cases hb:gE y L with
  |true=>rw[hb]at h;cases h
  |false=>
   rw[hb]at h;rcases List.mem_cons.1 hz with rfl|hz
   ·exact fD hb
   ·exact uc (Z:=Z) h z hz
omit [ao]in
theorem xj [F:ao]{f:FuncId}{c:aZ U}(hG:dT P U G)(hC:bR P U f c){xs:List (Va U)}{vs:List Value}{K:AV U→Nat→Hs U→Prop}(h:DX T G c xs n H K)(M:bh U X (· =w) ρ n H)(hv:bS (Vw U X w ρ n H) xs vs):
  Fn P f vs w fun v w'=> ∃av n' H' ρ',K av n' H'∧n9 (Vw U X w' ρ' n' H') av v∧bh U X (· =w') ρ' n' H'∧co ρ n H w ρ' n' H' w':=by
 obtain⟨Hp,h,Mp,sp⟩:=iX h M;obtain⟨H1,xs1,Z,h,M1,s2,cp,cells,c1⟩:=lC hG h Mp;have s1:=sp.trans s2;have hv:bS (Vw U X w ρ n Hp) xs vs:=bS.imp (fun _ _ h=>h.step sp) hv;have h:=pm h;generalize hLe:uY H1 30 0 (uZ H1 xs1 [])=L at h;clear hLe;cases hb:(l8 L&&wv L Z)with
 |false=>rw[hb]at h;exact h.elim
 |true=>
  rw[hb]at h;simp only[cond_true]at h;rw[Bool.and_eq_true]at hb;have hL:=kz hb.1;have hD:=uc hb.2;obtain⟨b,bp,bx,bz,bo⟩: ∃b:Bx,b.f.pr=F.pr∧(∀z∈F.xf,z∈b.f.xf)∧(∀j∈Z,∀g,(ρ j).A=some ⟨g,0,none⟩→g∈b.f.xf)∧ ∀z∈b.f.xf,z∈F.xf∨ ∃j∈Z,ah (ρ j).A=some z:=
   ⟨⟨⟨F.xf++Z.filterMap (fun j=>ah (ρ j).A),F.pr⟩⟩,rfl,fun z hz=>List.mem_append_left _ hz,fun j hj g hA=>List.mem_append_right _ (List.mem_filterMap.2 ⟨j,hj,by rw[hA];rfl⟩),fun z hz=>(List.mem_append.1 hz).imp id fun h=>List.mem_filterMap.1 h⟩
  obtain⟨ys,h,hys⟩:=mS (F:=b.f) M1.i h;obtain⟨es,h,hl,hes⟩:=mU (F:=b.f) M1.i h;have rel:=iW.of (F:=b.f) hl hes;have hY:=sD (F:=b.f) (X:=X) hl hes;have dZ:=dZ (F:=b.f) hl hes;have hxo: ∀z∈b.f.xf,z∈Xo ρ H1 X (eQ ρ L) (aH 0 es):=fun z hz=>by
   rcases bo z hz with h|⟨j,hj,hA⟩
   ·exact List.mem_filter.2 ⟨List.mem_append_right _ (M1.xs z h),by simpa using fun h'=>M1.dj z (dZ z h') (M1.xs z h)⟩
   ·obtain⟨l,t,hlk⟩:=cells j hj;have hlv:aq ρ (j,(.cells l t:aJ U))=some z:=hA;refine List.mem_filter.2 ⟨List.mem_append_left _ (aF.2 ⟨_,al hlk,hlv⟩),?_⟩;simp only[decide_eq_true_eq];intro hm;obtain⟨p,hp,hpg⟩:=aF.1 hm;obtain⟨i,x,a1,a2,a3⟩:=kA (F:=b.f) hl hes p hp z hpg;have:=M1.inj _ (al a2) _ (al hlk) z a3 hlv;simp only at this;subst this;exact hD _ hj (List.mem_of_getElem? a1)
  have Mc:=t8 (F:=b.f) M1.i bx bp.symm hxo hL hl hes;refine Fn.mono (@hC b.f (bp.trans hG.1) _ w _ es ys vs _ Mc (hys es _ hY rel _ (c1 b.f bp bx bz _ hv)) h) fun v w'=>?_;rintro⟨r,es',ρ',h,hav,M0,st0⟩;have M':=bh.i (F0:=b.f) M0;have st:=co.i (F0:=b.f) st0;obtain⟨L2,n2,h,g1,g2,g3,g4⟩:=pu h;have hle:L.length≤es'.length:=by rw[←hl];exact st.nn
  have g3:=g3 hle;obtain⟨av,h,hav2⟩:=xg (F1:=b.f) (Yc:=ak ρ' (aH 0 es')++Xo ρ H1 X (eQ ρ L) (aH 0 es)) (ρ':=ρ') (es:=es') (w':=w') h;obtain⟨zs,h,hzl,hzs⟩:=qV (F1:=b.f) (Yc:=ak ρ' (aH 0 es')++Xo ρ H1 X (eQ ρ L) (aH 0 es)) (ρ':=ρ') (es:=es') (w':=w') h g1.symm;have Llt: ∀(j i:Nat),L[j]? =some i→i<n:=fun j i hj=>by obtain⟨x,y,h1,_⟩:=hes j i hj;exact M1.lt _ (al h1)
  have old: ∀(j i:Nat),L2[j]? =some i→i<n→j<L.length∧L[j]? =some i:=fun j i hj hi=>by
   rcases Nat.lt_or_ge j L.length with hlt|hge
   ·exact⟨hlt,by rw[←g3 j hlt];exact hj⟩
   ·have:=(g4 j hge (by rw[←g1];exact bE hj)).1;rw[hj]at this;injection this with this;omega
  have L2lt: ∀(j i:Nat),L2[j]? =some i→i<n2:=fun j i hj=>by
   rcases Nat.lt_or_ge j L.length with hlt|hge
   ·have:=Llt j i (by rw[←g3 j hlt];exact hj);omega
   ·obtain⟨a,b⟩:=g4 j hge (by rw[←g1];exact bE hj);rw[hj]at a;injection a with a;omega
  have L2inj: ∀(j k i:Nat),L2[j]? =some i→L2[k]? =some i→j=k:=fun j k i hj hk=>by
   rcases Nat.lt_or_ge i n with hi|hi
   ·obtain⟨a1,a2⟩:=old j i hj hi;obtain⟨b1,b2⟩:=old k i hk hi;exact(List.getElem?_inj a1 hL).1 (a2.trans b2.symm)
   ·have key: ∀(j:Nat),L2[j]? =some i→L.length≤j∧i=n+(j - L.length):=fun j hj=>by
     rcases Nat.lt_or_ge j L.length with hlt|hge
     ·have:=Llt j i (by rw[←g3 j hlt];exact hj);omega
     ·have:=(g4 j hge (by rw[←g1];exact bE hj)).1;rw[hj]at this;injection this with this;exact⟨hge,this⟩
    have a:=key j hj;have b:=key k hk;omega
  have hL2:L2.Nodup:=by
   rw[List.nodup_iff_pairwise_ne,List.pairwise_iff_getElem];intro i j hi hj hij he;have:=L2inj i j L2[i] (List.getElem?_eq_getElem hi) (by rw[he];exact List.getElem?_eq_getElem hj);omega
  have lk:=fun k=>qT (H:=H1) (ys:=zs) (k:=k) hL2 hzl;have ent: ∀i y,aB (dU H1 L2 zs) i=some y→(∃j x,L2[j]? =some i∧es'[j]? =some x∧kD ρ ρ' L2 i=ρ' j∧sE b.f U H1 L2 (ak ρ' (aH 0 es')++Xo ρ H1 X (eQ ρ L) (aH 0 es)) w' ρ' es' i x y)∨(aB H1 i=some y∧kD ρ ρ' L2 i=ρ i∧ ∀j:Nat,L2[j]? ≠some i):=fun i y hy=>by
   rw[lk]at hy;cases hp:kB L2 i with
   |none=>
    rw[hp]at hy;refine .inr ⟨hy,by unfold kD;rw[hp],fun j hj=>?_⟩;rw[pv hL2 hj]at hp;cases hp
   |some j=>
    rw[hp]at hy;have hj:=kC hp;have hlt:j<es'.length:=by rw[←g1];exact bE hj
    obtain⟨y',hy',he⟩:=hzs j i _ hj (List.getElem?_eq_getElem hlt);rw[show zs[j]? =some y from hy]at hy';injection hy' with hy';subst hy';exact .inl ⟨j,_,hj,List.getElem?_eq_getElem hlt,by unfold kD;rw[hp],he⟩
  have nd:((dU H1 L2 zs).map (·.1)).Nodup:=qU M1.nd;have ent': ∀p∈dU H1 L2 zs,_:=fun p hp=>ent p.1 p.2 (cO nd hp);have apart: ∀i y g,aB H1 i=some y→aq ρ (i,y)=some g→(∀j:Nat,L2[j]? ≠some i)→g∉ak (eQ ρ L) (aH 0 es):=fun i y g hi hg hno hm=>by
   obtain⟨p,hp,hpg⟩:=aF.1 hm;obtain⟨k,x,a1,a2,a3⟩:=kA (F:=b.f) hl hes p hp g hpg;have:=M1.inj _ (al hi) _ (al a2) g hg a3;simp only at this;subst this;exact hno p.1 (by rw[g3 _ (bE a1)];exact a1)
  have XinXo: ∀g∈X,g∈Xo ρ H1 X (eQ ρ L) (aH 0 es):=fun g hg=>List.mem_filter.2 ⟨List.mem_append_right _ hg,by simpa using fun h=>M1.dj g (dZ g h) hg⟩;have back:ik H1 L2 (ak ρ' (aH 0 es')++Xo ρ H1 X (eQ ρ L) (aH 0 es)) ρ' es' (ak (kD ρ ρ' L2) (dU H1 L2 zs)++X) (kD ρ ρ' L2) n2 (dU H1 L2 zs):=by
   refine⟨fun g hg=>?_,fun j i hj=>?_⟩
   ·rcases List.mem_append.1 hg with hg|hg
    ·obtain⟨p,hp,hpg⟩:=aF.1 hg;rcases ent' p hp with⟨j,x,a1,a2,a3,a4⟩|⟨a1,a2,a3⟩
     ·exact List.mem_append_left _ (aF.2 ⟨(j,x),dq.2 a2,a4.live a3 hpg⟩)
     ·have hpg':aq ρ p=some g:=by
       obtain⟨i,y⟩:=p;simp only at a2;unfold aq at hpg⊢;cases y<;>simp only[a2]at hpg⊢ <;>exact hpg
      refine List.mem_append_right _ (List.mem_filter.2 ⟨List.mem_append_left _ (aF.2 ⟨p,al a1,hpg'⟩),?_⟩);simpa using apart p.1 p.2 g a1 hpg' a3
    ·exact List.mem_append_right _ (XinXo g hg)
   ·have hp:=pv hL2 hj;have hlt:j<es'.length:=by rw[←g1];exact bE hj
    obtain⟨y,hy,he⟩:=hzs j i _ hj (List.getElem?_eq_getElem hlt);have hly:aB (dU H1 L2 zs) i=some y:=by rw[lk,hp];exact hy
    refine⟨L2lt j i hj,by unfold kD;rw[hp],?_,?_⟩
    ·rw[hly,List.getElem?_eq_getElem hlt];exact he.row.1
    ·rw[hly,List.getElem?_eq_getElem hlt];exact he.row.2
  have rhoEq: ∀i y,kD ρ ρ' L2 i=ρ i→aq (kD ρ ρ' L2) (i,(y:aJ U))=aq ρ (i,y):=fun i y hr=>by
   unfold aq;cases y<;>simp only[hr]
  have hStp:co ρ n H1 w (kD ρ ρ' L2) n2 (dU H1 L2 zs) w':=by
   refine⟨M1.xd,g2,st.fr.mono fun g hg=>dZ g hg,fun g hg=>?_,fun i hi v' l' m' hr=>?_,fun i hi hr=>?_⟩
   ·obtain⟨p,hp,hpg⟩:=aF.1 hg;rcases ent' p hp with⟨j,x,a1,a2,a3,a4⟩|⟨a1,a2,a3⟩
    ·rcases st.nb g (aF.2 ⟨(j,x),dq.2 a2,a4.live a3 hpg⟩)with h|h
     ·exact .inl (dZ g h)
     ·exact .inr h
    ·rw[show p=(p.1,p.2)from rfl,rhoEq p.1 p.2 a2]at hpg;exact .inl (aF.2 ⟨p,al a1,hpg⟩)
   ·cases hy:aB (dU H1 L2 zs) i with
    |none=>rw[hy]at hr;cases hr
    |some y=>
     rw[hy]at hr;rcases ent i y hy with⟨j,x,a1,a2,a3,a4⟩|⟨a1,a2,a3⟩
     ·obtain⟨hjl,hj⟩:=old j i a1 hi;obtain⟨v,hx,hv'⟩:=a4.row.1 _ _ _ hr;obtain⟨v0,l0,m0,b1,b2,b3⟩:=st.row j (by rw[hl];exact hjl) v l' m' (by rw[dQ,a2];exact hx);rw[dQ]at b1;obtain⟨x1,y1,c1,c2,c3⟩:=hes j i hj;rw[c2]at b1;have hrow: ∃vv s ys t,x1=(.row vv s ys t:aJ U)∧v0=0∧l0=ys.length∧m0=aI U s:=by
       cases x1 with
       |row vv s ys t=>
        rw[show y1=_ from c3]at b1;injection b1 with b1;injection b1 with d1 b1;injection b1 with d2 d3;exact⟨vv,s,ys,t,rfl,d1.symm,d2.symm,d3.symm⟩
       |cells l t=>obtain⟨l'',rfl,_⟩:=c3;cases b1
       |_=>rw[show y1=_ from c3]at b1;cases b1
      obtain⟨vv,s,ys2,t,rfl,e1,e2,e3⟩:=hrow;have hv0:qR H1 i=vv:=by unfold qR;rw[c1]
      refine⟨vv,ys2.length,aI U s,by rw[c1];rfl,by omega,fun he=>?_⟩;obtain⟨f1,f2,f3⟩:=b3 (by omega);exact⟨by rw[a3,f1,cq hj],by omega,by omega⟩
     ·exact⟨v',l',m',by rw[a1];exact hr,Nat.le_refl _,fun _=>⟨a2,rfl,rfl⟩⟩
   ·cases hp:kB L2 i with
    |none=>unfold kD;rw[hp]
    |some j=>
     have hj2:=kC hp;obtain⟨hjl,hj⟩:=old j i hj2 hi;obtain⟨x1,y1,c1,c2,c3⟩:=hes j i hj;rw[c1]at hr;have:=st.cel j (by rw[hl];exact hjl) (by rw[dQ,c2];exact(mT.row (F:=b.f) c3).2 hr);unfold kD;rw[hp];simp only;rw[this,cq hj]
  refine⟨av,n2,_,kD ρ ρ' L2,h,hav2 _ _ _ _ back v hav,?_,s1.trans hStp⟩;refine⟨nd,fun p hp=>?_,fun p hp=>?_,fun p hp q hq g h1 h2=>?_,fun g hg hx=>?_,fun w2 h2 g hg=>?_,M1.xs,M1.gv.fr hStp.fr M1.xd⟩
  ·rcases ent' p hp with⟨j,x,a1,a2,a3,a4⟩|⟨a1,a2,a3⟩
   ·exact L2lt j _ a1
   ·have:=M1.lt _ (al a1);simp only at this;omega
  ·rcases ent' p hp with⟨j,x,a1,a2,a3,a4⟩|⟨a1,a2,a3⟩
   ·have mv:Mv (ak ρ' (aH 0 es')++Xo ρ H1 X (eQ ρ L) (aH 0 es)) (· =w') (ak (kD ρ ρ' L2) (dU H1 L2 zs)++X) (· =w'):=fun w2 h2=>⟨w2,[],h2,Fr.refl _ _,fun _ h=>(by cases h),fun y hy=> .inl (back.Y y hy)⟩;have hM:=M'.ent (j,x) (dq.2 a2);obtain⟨i,y⟩:=p;simp only at a1 a3 a4⊢;cases x with
    |cells l t=>
     obtain⟨l',rfl,hc⟩:=a4;obtain⟨g,vs,hA,hs,hw⟩:=hM;exact⟨g,vs,by rw[a3];exact hA,hc _ _ _ _ back vs hs,hw⟩
    |row v s xs t=>
     obtain⟨hm,cs,sp,hd,ho,hw⟩:=hM;rw[show y=_ from a4];exact⟨hm,cs,sp,aN.mv mv hd,by rw[a3];exact ho,fun g hg=>by rw[a3]at hg;exact hw g hg⟩
    |frz v s xs=>
     obtain⟨hm,cs,hd,hr,k1,k2⟩:=hM;rw[show y=_ from a4];exact⟨hm,cs,aN.mv mv hd,by rw[a3];exact hr.mv mv,by rw[a3];exact k1,by rw[a3];exact k2⟩
    |map d l=>
     obtain⟨hk,g,es2,clock,m,hA,hm,hd,hw⟩:=hM;rw[show y=_ from a4];exact⟨sA.inst bp hk,g,es2,clock,m,by rw[a3];exact hA,hm,ax.mv mv hd,hw⟩
    |_=>rw[show y=_ from a4];trivial
   ·refine(M1.ent (p.1,p.2) (al a1)).step hStp a2 fun g hg=>?_;exact st.fr.block g (dh M1 (p.1,p.2) (al a1) g hg) (apart p.1 p.2 g a1 hg a3)
  ·rcases ent' p hp with⟨j,x,a1,a2,a3,a4⟩|⟨a1,a2,a3⟩<;>rcases ent' q hq with⟨k,y,b1,b2,b3,b4⟩|⟨b1,b2,b3⟩
   ·have:=M'.inj (j,x) (dq.2 a2) (k,y) (dq.2 b2) g (a4.live a3 h1) (b4.live b3 h2);simp only at this;subst this;rw[a1]at b1;injection b1
   ·rw[show q=(q.1,q.2)from rfl,rhoEq q.1 q.2 b2]at h2;rcases st.nb g (aF.2 ⟨(j,x),dq.2 a2,a4.live a3 h1⟩)with h|h
    ·exact absurd h (apart q.1 q.2 g b1 h2 b3)
    ·have:=dh M1 (q.1,q.2) (al b1) g h2;omega
   ·rw[show p=(p.1,p.2)from rfl,rhoEq p.1 p.2 a2]at h1;rcases st.nb g (aF.2 ⟨(k,y),dq.2 b2,b4.live b3 h2⟩)with h|h
    ·exact absurd h (apart p.1 p.2 g a1 h1 a3)
    ·have:=dh M1 (p.1,p.2) (al a1) g h1;omega
   ·rw[show p=(p.1,p.2)from rfl,rhoEq p.1 p.2 a2]at h1;rw[show q=(q.1,q.2)from rfl,rhoEq q.1 q.2 b2]at h2;exact M1.inj _ (al a1) _ (al b1) g h1 h2
  ·obtain⟨p,hp,hpg⟩:=aF.1 hg;rcases ent' p hp with⟨j,x,a1,a2,a3,a4⟩|⟨a1,a2,a3⟩
   ·exact M'.dj g (aF.2 ⟨(j,x),dq.2 a2,a4.live a3 hpg⟩) (XinXo g hx)
   ·rw[show p=(p.1,p.2)from rfl,rhoEq p.1 p.2 a2]at hpg;exact M1.dj g (aF.2 ⟨_,al a1,hpg⟩) hx
  ·subst h2;have:=M1.lo w rfl g hg;exact Nat.lt_of_lt_of_le this st.fr.size
end
end Go.Proofs.YtiliglahlfkikaaGreatDoor.V
end

/- Calls are right: the whole. -/
import Derived.Test.YtmpeiadlohbikaaGreatDoorYs9
section
set_option linter.unusedVariables false
set_option linter.unusedSimpArgs false
namespace Go.Proofs.YtmpeiadlohbikaaGreatDoor.V
open Go.RowKit
section
variable [F:ay] {U:cw} {P:Program} {nt:Nat} {T:dO U} {G:jm U} {X:List Nat} {w w':World} {ρ ρ':Nat→Rz} {n:Nat} {H:Hs U} {R e:En U} {ce:aS} {o:Oper} {L:List Nat} {z:Bool} {es:List (aU U)}
theorem lZ(hl:es.length=L.length)(hes: ∀(j i:Nat),L[j]? =some i→ ∃x y,aI H i=some x∧es[j]? =some y∧oL U X w ρ n H z L x y): ∀p∈aV 0 es,∀g,aC (gk ρ L) p=some g→ ∃i x,L[p.1]? =some i∧aI H i=some x∧aC ρ (i,x)=some g:=fun p hp g hg=>by
 have h1:=eo.1 hp;have hj:=bZ h1;obtain⟨x,y,h2,h3,h4⟩:=hes p.1 _ (List.getElem?_eq_getElem (by omega));rw[h1]at h3;injection h3 with h3;subst h3;exact⟨_,x,List.getElem?_eq_getElem (by omega),h2,G6 (List.getElem?_eq_getElem (by omega)) h4 hg⟩
theorem fz(hl:es.length=L.length)(hes: ∀(j i:Nat),L[j]? =some i→ ∃x y,aI H i=some x∧es[j]? =some y∧oL U X w ρ n H z L x y): ∀g∈ao (gk ρ L) (aV 0 es),g∈ao ρ H:=fun g hg=>by
 obtain⟨p,hp,hg⟩:=aL.1 hg;obtain⟨i,x,_,h2,h3⟩:=lZ hl hes p hp g hg;exact aL.2 ⟨_,ar h2,h3⟩
theorem uK(hl:es.length=L.length)(hes: ∀(j i:Nat),L[j]? =some i→ ∃x y,aI H i=some x∧es[j]? =some y∧oL U X w ρ n H z L x y): ∀g∈ao (gk ρ L) (aV 0 es)++Xo ρ H X (gk ρ L) (aV 0 es),g∈ao ρ H++X:=fun g hg=>by
 rcases List.mem_append.1 hg with hg|hg
 ·exact List.mem_append_left _ (fz hl hes g hg)
 ·exact(List.mem_filter.1 hg).1
omit [ay]in
theorem yu.inst{F0:ay} [F:ay](hx: ∀z∈F0.xf,z∈ay.xf)(hp:F0.pr=ay.pr){Y:List Nat}{S:World→Prop}{u:Value}{a:bq}{g:TT U.ty a→Bool}(h: @yu F0 U Y S u a g):yu U Y S u a g:=⟨h.1,fun w hw w2 hl=>by
 obtain⟨O,h1,h2⟩:=hl;rw[←hp];exact h.2 w hw w2 ⟨O,h1,fun o ho=>⟨fun hz=>(h2 o ho).1 (hx o hz),(h2 o ho).2⟩⟩⟩
omit [ay]in
theorem yv.inst{F0:ay} [F:ay](hx: ∀z∈F0.xf,z∈ay.xf)(hp:F0.pr=ay.pr){Y:List Nat}{S:World→Prop}{u:Value}{a b:bq}{g:TT U.ty a→TT U.ty b→Int}(h: @yv F0 U Y S u a b g):yv U Y S u a b g:=⟨h.1,fun w hw w2 hl=>by
 obtain⟨O,h1,h2⟩:=hl;rw[←hp];exact h.2 w hw w2 ⟨O,h1,fun o ho=>⟨fun hz=>(h2 o ho).1 (hx o hz),(h2 o ho).2⟩⟩⟩
omit [ay]in
theorem bn.inst{F0:ay} [F:ay](hx: ∀z∈F0.xf,z∈ay.xf)(hp:F0.pr=ay.pr){Y:List Nat}{S:World→Prop}{x:Cx U}{vs:List Value}(h: @bn F0 U Y S ρ n H x vs):bn U Y S ρ n H x vs:=by
 cases x with
 |f1 a g=>obtain⟨u,e,hf⟩:=h;exact⟨u,e,hf.inst hx hp⟩
 |f2 a b g=>obtain⟨u,e,hf⟩:=h;exact⟨u,e,hf.inst hx hp⟩
 |_=>exact h
omit [ay]in
theorem we.inst{F0:ay} [F:ay](hp:F0.pr=ay.pr){d:KD U}(h: @we F0 U d):we U d:=by unfold we at*;rw[←hp];exact h
omit [ay]in
theorem wq{F0:ay} [F:ay](M:uJ U F0 X w ρ n H)(hx: ∀z∈F0.xf,z∈ay.xf)(G2:F0.pr=ay.pr)(hxo: ∀z∈ay.xf,z∈Xo ρ H X (gk ρ L) (aV 0 es))(hL:L.Nodup)(hl:es.length=L.length)(hes: ∀(j i:Nat),L[j]? =some i→ ∃x y,aI H i=some x∧es[j]? =some y∧oL U X w ρ n H z L x y):bH U (Xo ρ H X (gk ρ L) (aV 0 es)) (· =w) (gk ρ L) es.length (aV 0 es):=by
 have hY:=uK hl hes;have mv:Mv (ao ρ H++X) (· =w) (ao (gk ρ L) (aV 0 es)++Xo ρ H X (gk ρ L) (aV 0 es)) (· =w):=fun w2 h2=>⟨w2,[],h2,Fr.refl _ _,fun _ h=>(by cases h),fun y hy=> .inl (hY y hy)⟩;have rel:=jO.of hl hes;refine⟨by rw[oJ];exact List.nodup_range',fun p hp=>bZ (eo.1 hp),fun p hp=>?_,fun p hp q hq g h1 h2=>?_,fun g hg hx=>?_,fun w2 h2 g hg=>?_,fun z hz=>?_,⟨fun z hz=>hx z (M.gv.1 z hz),M.gv.2⟩⟩
 ·have h1:=eo.1 hp;have hj:=bZ h1;have hLj:L[p.1]? =some L[p.1]:=List.getElem?_eq_getElem (by omega);obtain⟨x,y,h2,h3,h4⟩:=hes p.1 _ hLj;rw[h1]at h3;injection h3 with h3;have hx:=M.ent _ (ar h2);rw[h3];cases x with
  |cells l t=>
   obtain⟨l',rfl,hc⟩:=h4;obtain⟨g,vs,hA,hs,hw⟩:=hx;exact⟨g,vs,by rw[cS hLj];exact hA,hc es _ hY rel vs (hs.imp fun _ _ h=>bn.inst hx G2 h),hw⟩
  |row v s xs t=>
   obtain⟨hm,cs,sp,hd,ho,hw⟩:=hx;rw[show y=_ from h4];exact⟨hm,cs,sp,ba.mv mv hd,by rw[cS hLj];exact ho,fun g hg=>by rw[cS hLj]at hg;exact hw g hg⟩
  |map d l=>
   obtain⟨hk,g,es',clock,m,hA,hm,hd,hw⟩:=hx;rw[show y=_ from h4];exact⟨we.inst G2 hk,g,es',clock,m,by rw[cS hLj];exact hA,hm,aJ.mv mv hd,hw⟩
  |mapr d l left cur gh=>
   obtain⟨hk,g,es',clock,m,lv,cv,hA,hm,hd,hl,hc,hw⟩:=hx;rw[show y=_ from h4];exact⟨we.inst G2 hk,g,es',clock,m,by rw[cS hLj];exact hA,hm.ok,aJ.mv mv hd,hw⟩
  |_=>rw[show y=_ from h4];trivial
 ·obtain⟨i,x,a1,a2,a3⟩:=lZ hl hes p hp g h1;obtain⟨k,y,b1,b2,b3⟩:=lZ hl hes q hq g h2;have:=M.inj _ (ar a2) _ (ar b2) g a3 b3;simp only at this;subst this;exact(List.getElem?_inj (bZ a1) hL).1 (a1.trans b1.symm)
 ·have:=(List.mem_filter.1 hx).2;simp at this;exact this hg
 ·subst h2;rcases List.mem_append.1 (List.mem_filter.1 hg).1 with h|h
  ·obtain⟨p,hp,h⟩:=aL.1 h;exact M.olt p hp g h
  ·exact M.lo g h
 ·exact hxo z hz
def dz(P:Program)(U:cw)(f:FuncId)(c:bG U):Prop:= ∀ [F:ay],F.pr=P→ ∀X w ρ (es:List (aU U)) xs vs K,bH U X (· =w) ρ es.length (aV 0 es)→cx (Vw U X w ρ es.length (aV 0 es)) xs vs→c.run xs es K→
 Fn P f vs w fun v w'=> ∃r es' ρ',K r es'∧pZ (Vw U X w' ρ' es'.length (aV 0 es')) r v∧bH U X (· =w') ρ' es'.length (aV 0 es')∧cW ρ es.length (aV 0 es) w ρ' es'.length (aV 0 es') w'
abbrev lj(P:Program)(U:cw)(G:jm U):Prop:= ∀f c,aI G f=some c→dz P U f c
abbrev eQ [ay](P:Program)(U:cw)(G:jm U):Prop:=ay.pr=P∧lj P U G
omit [ay]in
theorem Fr.sub{O Y:List Nat}{w2:World}(hf:Fr O w w2)(hO: ∀o∈O,o∈Y∨w.heap.size≤o):Fr Y w w2:=⟨hf.os,hf.tape,hf.output,hf.size,fun k hk hn=>hf.block k hk fun ho=>(hO k ho).elim hn fun h=>by omega,hf.drawn⟩
theorem ri: ∀{js:List Nat} {H:Hs U} {K:Hs U→List (Va U)→Prop},Ch T js H K→bH U X (· =w) ρ n H→ ∃H' caps,K H' caps∧bH U X (· =w) ρ n H'∧cW ρ n H w ρ n H' w∧CP H H'∧(∀j∈js,∃l t,aI H' j=some (.cells l t))∧
  ∀w2 O,Fr O w w2→(∀o∈O,o∈ao ρ H'++X∨w.heap.size≤o)→(∀j∈js,∀g,(ρ j).A=some ⟨g,0,none⟩→g∉O)→ ∀(F0:ay) (ρ0:Nat→Rz),cx (@bn F0 U gB (· =w2) ρ0 0 []) caps (js.map fun j=>Value.pointer (ρ j).A)
 | [],H,K,h,M=>⟨H,[],h,M,M.stp0,CP.refl _,fun j hj=>(by cases hj),fun _ _ _ _ _ _ _=>rfl⟩
 |j::js,H,K,h,M=>by
  have h:(match aI H j with
   |some (.cells l t)=>(match aI T t with
    |some ti=>(match ti.sh with
     |some s=>kP l H fun H l=>du 20 s l fun x=>Ch T js H fun H r=>K H (⟨false,[(1,.pd s x)]⟩::r)
     |none=>False)
    |none=>False)
   |_=>False):=h
  split at h
  ·rename_i l t hl;split at h
   ·rename_i ti hti;split at h
    ·rename_i s hs;obtain⟨H1,l',⟨h,cp1⟩,M1,s1,c1⟩:=fX (jY h fun H' r cp h=>(⟨h,cp⟩:_∧CP H H')) M;obtain⟨x,h,hx⟩:=bI h;obtain⟨H2,caps,hK,M2,s2,cp2,cells,hcap⟩:=ri (js:=js) h M1;refine⟨H2,_,hK,M2,s1.trans s2,cp1.trans cp2,fun k hk=>?_,fun w2 O hf hO hj=>?_⟩
     ·rcases List.mem_cons.1 hk with rfl|hk
      ·exact⟨l,t,cp2 _ _ rfl (cp1 _ _ rfl hl)⟩
      ·exact cells k hk
     ·obtain⟨g,vs,hA,hsg,hw⟩:=M.ent _ (ar hl);have hg:g∉O:=hj j (by simp) g hA;have hheap:=hw w rfl;have hd:=aK.mv (s2.mv (X:=X)) (hx _ _ _ _ _ _ (c1 _ hsg));have hd2:aK U gB (· =w2) s x vs:= @aK.mv ⟨[],ay.pr⟩ U (ao ρ H2++X) gB (· =w) (· =w2) (fun w3 h3=>by
       subst h3;exact⟨w,_,rfl,Fr.sub hf hO,fun y hy=>⟨hy,fun h=>(by cases h)⟩,fun y hy=> .inl (List.mem_append_right _ (M.xs y (M.gv.1 y hy)))⟩) s x vs hd
      have gv0:=M.gv.1;have xd0:=M.xd;intro F0 ρ0;refine⟨_,_,rfl,?_,hcap w2 O hf hO (fun k hk=>hj k (by simp[hk])) F0 ρ0⟩;have hA:(ρ j).A=some ⟨g,0,none⟩:=hA;show de _ _ (Value.pointer (ρ j).A)
      rw[hA];refine iz ⟨g,0,vs,rfl,hd2,fun w3 h3=>?_⟩;subst h3;intro i v hi;refine⟨g,0,rfl,fun hb=>xd0 g (aL.2 ⟨_,ar hl,(show ap (ρ j).A=some g by rw[hA];rfl)⟩) (gv0 g hb),?_⟩;have hb:w3.heap[g]? =some (Cl vs t):=by rw[hf.block g (cO hheap) hg];exact hheap
      rw[Nat.zero_add,cell_of_row w3 g i vs.toArray t (0,0) hb];simpa using hi
    ·exact h.elim
   ·exact h.elim
  ·exact h.elim
omit [ay]in
theorem zq{F0:ay}{Y:List Nat}{w2:World}{ρ0:Nat→Rz}{a:bq}{t:TT U.ty a}{vs:List Value}{v:Value}(hd:aK U Y (· =w2) a t vs)(hv:ef (e9 a) v vs):de (@bn F0 U Y (· =w2) ρ0 0 []) ⟨e9 a,[(aQ U a,.d a t)]⟩ v:=by
 unfold de;unfold ef at hv;cases hag:e9 a with
 |true=>simp only[hag]at hv⊢;exact⟨vs,hv,vs,[],(List.append_nil _).symm,hd.length,hd,rfl⟩
 |false=>simp only[hag]at hv⊢;subst hv;exact⟨_,[],(List.append_nil _).symm,hd.length,hd,rfl⟩
omit [ay]in
theorem zr{F0:ay}(hx:F0.xf=gB){w2:World}{ρ0:Nat→Rz}(hg:Gv w2): @bH F0 U gB (· =w2) ρ0 ([]:List (aU U)).length (aV 0 []):=
 ⟨List.nodup_nil,fun p hp=>(by cases hp),fun p hp=>(by cases hp),fun p hp=>(by cases hp),fun g hg=>(by cases hg),fun w3 h3 g hgm=>(by subst h3;exact hg.lt g hgm),fun z hz=>hx▸hz,⟨fun z hz=>hx▸hz,fun w3 h3=>by subst h3;exact hg⟩⟩
theorem rj{f:FuncId}{c:bG U}{caps:List (Va U)}{a:bq}{g:TT U.ty a→Bool}{cvs:List Value}{Y:List Nat}(hC:dz P U f c)(hpr:ay.pr=P)(hgv:sQ (· =w))(hr:yQ c caps a g)(hcap: ∀w2,lM Y w w2→ ∀(F0:ay) (ρ0:Nat→Rz),cx (@bn F0 U gB (· =w2) ρ0 0 []) caps cvs):yu U Y (· =w) (.func (.func f) #[] cvs.toArray) a g:=⟨⟨f,cvs,rfl⟩,fun w1 hw1 w2 hl t vs v hd hv=>by
 subst hw1;rw[hpr];refine pA.ofc cvs ?_;have:= @hC ⟨gB,P⟩ rfl gB w2 (fun _=>⟨none,0⟩) [] (⟨e9 a,[(aQ U a,.d a t)]⟩::caps) (v::cvs) _ (zr rfl (by obtain⟨O,h1,h2⟩:=hl;exact(hgv.2 _ rfl).fr h1 fun o ho hb=>(h2 o ho).1 (hgv.1 o hb))) ⟨v,cvs,rfl,zq hd hv,hcap w2 hl _ _⟩ (hr t);refine this.mono fun r w3 ⟨x,es',ρ',⟨e1,e2⟩,hav,M',st⟩=>?_;have hfr:= @cW.fr ⟨gB,P⟩ U _ _ _ _ _ _ _ _ st;subst e1;subst e2;have e: [r]= [Value.bool (g t)]:=aK.inv (show aK U _ _ .bool (g t) [r]from(show cg _ [(1,.d .bool (g t))] [r]from hav).one1.1);injection e with e;exact⟨e,hfr⟩⟩
theorem rk{f:FuncId}{c:bG U}{caps:List (Va U)}{a b:bq}{g:TT U.ty a→TT U.ty b→Int}{cvs:List Value}{Y:List Nat}(hC:dz P U f c)(hpr:ay.pr=P)(hgv:sQ (· =w))(hr:yR c caps a b g)(hcap: ∀w2,lM Y w w2→ ∀(F0:ay) (ρ0:Nat→Rz),cx (@bn F0 U gB (· =w2) ρ0 0 []) caps cvs):yv U Y (· =w) (.func (.func f) #[] cvs.toArray) a b g:=⟨⟨f,cvs,rfl⟩,fun w1 hw1 w2 hl t vs v t' vs' v' hd hv hd' hv'=>by
 subst hw1;rw[hpr];refine pA.ofc cvs ?_;have:= @hC ⟨gB,P⟩ rfl gB w2 (fun _=>⟨none,0⟩) [] (⟨e9 a,[(aQ U a,.d a t)]⟩::⟨e9 b,[(aQ U b,.d b t')]⟩::caps) (v::v'::cvs) _ (zr rfl (by obtain⟨O,h1,h2⟩:=hl;exact(hgv.2 _ rfl).fr h1 fun o ho hb=>(h2 o ho).1 (hgv.1 o hb))) ⟨v,_,rfl,zq hd hv,v',cvs,rfl,zq hd' hv',hcap w2 hl _ _⟩ (hr t t');refine this.mono fun r w3 ⟨x,es',ρ',⟨e1,e2⟩,hav,M',st⟩=>?_;have hfr:= @cW.fr ⟨gB,P⟩ U _ _ _ _ _ _ _ _ st;subst e1;subst e2;have e:=aK.inv (show aK U _ _ (.int .i64) (g t t') [r]from(show cg _ [(1,.d (.int .i64) (g t t'))] [r]from hav).one1.1);obtain⟨e,hin⟩:=e;injection e with e;exact⟨e,hin,hfr⟩⟩
omit [ay]in
theorem iH{f:FuncId}{K:bG U→Prop}(h:pY G f K)(hG:lj P U G): ∃c,K c∧dz P U f c:=by
 unfold pY at h;split at h
 ·rename_i c hc;exact⟨c,h,hG f c hc⟩
 ·exact h.elim
def Cv(U:cw) [F:ay](X:List Nat)(w:World)(ρ:Nat→Rz)(n:Nat)(H:Hs U)(x:Va U)(H':Hs U)(c:Cx U)(Z:List Nat):Prop:=bH U X (· =w) ρ n H'∧cW ρ n H w ρ n H' w∧CP H H'∧(∀j∈Z,∃l t,aI H' j=some (.cells l t))∧
 ∀F1:ay,F1.pr=F.pr→(∀z∈F.xf,z∈F1.xf)→(∀j∈Z,∀g,(ρ j).A=some ⟨g,0,none⟩→g∈F1.xf)→ ∀v,de (@Vw F U X w ρ n H) x v→ @bn F1 U (ao ρ H'++X) (· =w) ρ n H' c [v]
omit [ay]in
theorem CY [F:ay](hG:eQ P U G){a:bq}{x:Va U}{K:Hs U→(TT U.ty a→Bool)→List Nat→Prop}(h:Ci T G a x H K)(M:bH U X (· =w) ρ n H): ∃H' g Z,K H' g Z∧Cv U X w ρ n H x H' (.f1 a g) Z:=by
 have gv0:=M.gv;unfold Ci at h;split at h
 ·rename_i k f;obtain⟨c,⟨g,hr,hK⟩,hC⟩:=iH h hG.2;refine⟨H,g,[],hK,M,M.stp0,CP.refl _,fun j hj=>(by cases hj),fun F1 hp hx hz v hv=>?_⟩;have e:=(show cg _ [(k,.fn f)] [v]from hv).one1.1;have e: [v]= [Value.func (.func f) #[] #[]]:=e;injection e with e;subst e;exact⟨_,rfl,rj (cvs:= []) hC (hp.trans hG.1) ⟨fun z hz=>hx z (gv0.1 z hz),gv0.2⟩ hr fun _ _ _ _=>rfl⟩
 ·rename_i k f js;obtain⟨H1,caps,h,M1,s1,cp,cells,hcap⟩:=ri h M;obtain⟨c,⟨g,hr,hK⟩,hC⟩:=iH h hG.2;refine⟨H1,g,js,hK,M1,s1,cp,cells,fun F1 hp hx hz v hv=>?_⟩;have e:=(show cg _ [(k,.clo f js)] [v]from hv).one1.1;have e:=e.1;injection e with e;subst e;exact⟨_,rfl,rj hC (hp.trans hG.1) ⟨fun z hz=>hx z (gv0.1 z hz),gv0.2⟩ hr fun w2 ⟨O,hf,hO⟩ F0 ρ0=>hcap w2 O hf (fun o ho=>(hO o ho).2) (fun j hj g hA ho=>(hO g ho).1 (hz j hj g hA)) F0 ρ0⟩
 ·rename_i k a' g;split at h
  ·rename_i g' hc;obtain⟨e1,e2⟩:=dY _ _ _ _ _ hc;subst e1;have e2:g=g':=eq_of_heq e2;subst e2;refine⟨H,g,[],h,M,M.stp0,CP.refl _,fun j hj=>(by cases hj),fun F1 hp hx hz v hv=>?_⟩;exact bn.inst hx hp.symm (show cg _ [(k,.f1 _ g)] [v]from hv).one1.1
  ·exact h.elim
 ·exact h.elim
omit [ay]in
theorem CZ [F:ay](hG:eQ P U G){a b:bq}{x:Va U}{K:Hs U→(TT U.ty a→TT U.ty b→Int)→List Nat→Prop}(h:Cj T G a b x H K)(M:bH U X (· =w) ρ n H): ∃H' g Z,K H' g Z∧Cv U X w ρ n H x H' (.f2 a b g) Z:=by
 have gv0:=M.gv;unfold Cj at h;split at h
 ·rename_i k f;obtain⟨c,⟨g,hr,hK⟩,hC⟩:=iH h hG.2;refine⟨H,g,[],hK,M,M.stp0,CP.refl _,fun j hj=>(by cases hj),fun F1 hp hx hz v hv=>?_⟩;have e:=(show cg _ [(k,.fn f)] [v]from hv).one1.1;have e: [v]= [Value.func (.func f) #[] #[]]:=e;injection e with e;subst e;exact⟨_,rfl,rk (cvs:= []) hC (hp.trans hG.1) ⟨fun z hz=>hx z (gv0.1 z hz),gv0.2⟩ hr fun _ _ _ _=>rfl⟩
 ·rename_i k f js;obtain⟨H1,caps,h,M1,s1,cp,cells,hcap⟩:=ri h M;obtain⟨c,⟨g,hr,hK⟩,hC⟩:=iH h hG.2;refine⟨H1,g,js,hK,M1,s1,cp,cells,fun F1 hp hx hz v hv=>?_⟩;have e:=(show cg _ [(k,.clo f js)] [v]from hv).one1.1;have e:=e.1;injection e with e;subst e;exact⟨_,rfl,rk hC (hp.trans hG.1) ⟨fun z hz=>hx z (gv0.1 z hz),gv0.2⟩ hr fun w2 ⟨O,hf,hO⟩ F0 ρ0=>hcap w2 O hf (fun o ho=>(hO o ho).2) (fun j hj g hA ho=>(hO g ho).1 (hz j hj g hA)) F0 ρ0⟩
 ·rename_i k a' b' g;split at h
  ·rename_i g1 hc;obtain⟨e1,e2⟩:=dY _ _ _ _ _ hc;subst e1;have e2:g=g1:=eq_of_heq e2;subst e2;split at h
   ·rename_i g2 hc2;obtain⟨e1,e2⟩:=dY _ _ _ _ _ hc2;subst e1;have e2:g=g2:=eq_of_heq e2;subst e2;refine⟨H,g,[],h,M,M.stp0,CP.refl _,fun j hj=>(by cases hj),fun F1 hp hx hz v hv=>?_⟩;exact bn.inst hx hp.symm (show cg _ [(k,.f2 _ _ g)] [v]from hv).one1.1
   ·exact h.elim
  ·exact h.elim
 ·exact h.elim
omit [ay]in
theorem bn.same{H1 H':Hs U}(nb: ∀g∈ao ρ H',g∈ao ρ H1∨w.heap.size≤g){F1:ay}{c:Cx U}{vs:List Value}(hc:(∃a g,c= .f1 a g)∨ ∃a b g,c= .f2 a b g)(h: @bn F1 U (ao ρ H1++X) (· =w) ρ n H1 c vs): @bn F1 U (ao ρ H'++X) (· =w) ρ n H' c vs:=by
 have hl: ∀w2, @lM F1 (ao ρ H'++X) w w2→ @lM F1 (ao ρ H1++X) w w2:=fun w2 ⟨O,h1,h2⟩=>⟨O,h1,fun o ho=>⟨(h2 o ho).1,by
  rcases(h2 o ho).2 with h|h
  ·rcases List.mem_append.1 h with h|h
   ·exact(nb o h).imp (fun h=>List.mem_append_left _ h) id
   ·exact .inl (List.mem_append_right _ h)
  ·exact .inr h⟩⟩
 rcases hc with⟨a,g,rfl⟩|⟨a,b,g,rfl⟩
 ·obtain⟨u,e,hf,h⟩:=h;exact⟨u,e,hf,fun w1 h1 w2 h2=>by subst h1;exact h _ rfl w2 (hl w2 h2)⟩
 ·obtain⟨u,e,hf,h⟩:=h;exact⟨u,e,hf,fun w1 h1 w2 h2=>by subst h1;exact h _ rfl w2 (hl w2 h2)⟩
theorem EY{ag:Bool}{s:bq}{t:TT U.ty s}{Y:List Nat}{v:Value}(hd:aK U Y (· =w) s t v.cells.toList)(hv:ef ag v v.cells.toList):de (bn U Y (· =w) ρ n H) ⟨ag,[(aQ U s,.d s t)]⟩ v:=by
 have hseg:cg (bn U Y (· =w) ρ n H) [(aQ U s,.d s t)] v.cells.toList:=⟨_,[],(List.append_nil _).symm,hd.length,hd,rfl⟩;unfold de;unfold ef at hv;cases ag with
 |true=>exact⟨_,hv,hseg⟩
 |false=>exact hv▸hseg
omit [ay]in
theorem m4 [F:ay](hG:eQ P U G): ∀{md:List Md} {xs:List (Va U)} {H:Hs U} {K:Hs U→List (Va U)→List Nat→Prop},Gy T G md xs H K→bH U X (· =w) ρ n H→ ∃H' xs' Z,K H' xs' Z∧bH U X (· =w) ρ n H'∧cW ρ n H w ρ n H' w∧CP H H'∧(∀j∈Z,∃l t,aI H' j=some (.cells l t))∧
  ∀F1:ay,F1.pr=F.pr→(∀z∈F.xf,z∈F1.xf)→(∀j∈Z,∀g,(ρ j).A=some ⟨g,0,none⟩→g∈F1.xf)→ ∀vs,cx (@Vw F U X w ρ n H) xs vs→cx (@Vw F1 U X w ρ n H') xs' vs
 | [],xs,H,K,h,M=>⟨H,xs,[],h,M,M.stp0,CP.refl _,fun j hj=>(by cases hj),fun F1 hp hx hz vs hv=>cx.imp (fun _ _ h=>bn.inst hx hp.symm h) hv⟩
 |m::md,[],H,K,h,M=>⟨H,[],[],h,M,M.stp0,CP.refl _,fun j hj=>(by cases hj),fun F1 hp hx hz vs hv=>hv⟩
 | .n::md,x::xs,H,K,h,M=>by
  have h:Gy T G md xs H fun H r Z=>K H (x::r) Z:=h;obtain⟨H',xs',Z,h,M',s',cp,cells,c'⟩:=m4 hG (md:=md) h M;have hs: ∀v,de (Vw U X w ρ n H) x v→de (Vw U X w ρ n H') x v:=fun v h1=>h1.imp fun _ _ h=>h.step s';refine⟨H',_,Z,h,M',s',cp,cells,fun F1 hp hx hz vs hv=>?_⟩;obtain⟨v,us,e1,h1,h2⟩:=hv;exact⟨v,us,e1,(hs v h1).imp fun _ _ h=>bn.inst hx hp.symm h,c' F1 hp hx hz _ h2⟩
 | .p _::md,x::xs,H,K,h,M=>by
  have h:Gy T G md xs H fun H r Z=>K H (x::r) Z:=h;obtain⟨H',xs',Z,h,M',s',cp,cells,c'⟩:=m4 hG (md:=md) h M;have hs: ∀v,de (Vw U X w ρ n H) x v→de (Vw U X w ρ n H') x v:=fun v h1=>h1.imp fun _ _ h=>h.step s';refine⟨H',_,Z,h,M',s',cp,cells,fun F1 hp hx hz vs hv=>?_⟩;obtain⟨v,us,e1,h1,h2⟩:=hv;exact⟨v,us,e1,(hs v h1).imp fun _ _ h=>bn.inst hx hp.symm h,c' F1 hp hx hz _ h2⟩
 | .d s::md,x::xs,H,K,h,M=>by
  have h:kP x.l H fun H l=>du 20 s l fun t=>Gy T G md xs H fun H r Z=>K H (⟨x.ag,[(aQ U s,.d s t)]⟩::r) Z:=h;obtain⟨H1,l',⟨h,cp1⟩,M1,s1,c1⟩:=fX (jY h fun H' r cp h=>(⟨h,cp⟩:_∧CP H H')) M;obtain⟨t,h,ht⟩:=bI h;obtain⟨H',xs',Z,h,M',s',cp,cells,c'⟩:=m4 hG (md:=md) h M1;have d1: ∀u,de (Vw U X w ρ n H) x u→aK U (ao ρ H'++X) (· =w) s t u.cells.toList:=fun u hu=>aK.mv (s'.mv (X:=X)) (ht _ _ _ _ _ _ (c1 _ hu.cells));have hA: ∀u,de (Vw U X w ρ n H) x u→ef x.ag u u.cells.toList:=fun u hu=>qT hu;have hs: ∀us,cx (Vw U X w ρ n H) xs us→cx (Vw U X w ρ n H1) xs us:=fun us hu=>cx.imp (fun _ _ h=>h.step s1) hu;refine⟨H',_,Z,h,M',s1.trans s',cp1.trans cp,cells,fun F1 hp hx hz vs hv=>?_⟩;obtain⟨v,us,e1,h1,h2⟩:=hv;exact⟨v,us,e1,EY (d1 v h1) (hA v h1),c' F1 hp hx hz _ (hs _ h2)⟩
 | .f1 a::md,x::xs,H,K,h,M=>by
  have h:Ci T G a x H fun H g js=>Gy T G md xs H fun H r Z=>K H (⟨false,[(1,.f1 a g)]⟩::r) (js++Z):=h;obtain⟨H1,g,js,h,M1,s1,cp1,cells1,cv⟩:=CY hG h M;obtain⟨H',xs',Z,h,M',s',cp,cells,c'⟩:=m4 hG (md:=md) h M1;have hs: ∀us,cx (Vw U X w ρ n H) xs us→cx (Vw U X w ρ n H1) xs us:=fun us hu=>cx.imp (fun _ _ h=>h.step s1) hu;have nb:=s'.nb;refine⟨H',_,js++Z,h,M',s1.trans s',cp1.trans cp,fun j hj=>?_,fun F1 hp hx hz vs hv=>?_⟩
  ·rcases List.mem_append.1 hj with hj|hj
   ·obtain⟨l,t,hl⟩:=cells1 j hj;exact⟨l,t,cp _ _ rfl hl⟩
   ·exact cells j hj
  ·obtain⟨v,us,e1,h1,h2⟩:=hv;refine⟨v,us,e1,iz ?_,c' F1 hp hx (fun j hj=>hz j (List.mem_append_right _ hj)) _ (hs _ h2)⟩;exact bn.same nb (.inl ⟨_,_,rfl⟩) (cv F1 hp hx (fun j hj=>hz j (List.mem_append_left _ hj)) v h1)
 | .f2 a b::md,x::xs,H,K,h,M=>by
  have h:Cj T G a b x H fun H g js=>Gy T G md xs H fun H r Z=>K H (⟨false,[(1,.f2 a b g)]⟩::r) (js++Z):=h;obtain⟨H1,g,js,h,M1,s1,cp1,cells1,cv⟩:=CZ hG h M;obtain⟨H',xs',Z,h,M',s',cp,cells,c'⟩:=m4 hG (md:=md) h M1;have hs: ∀us,cx (Vw U X w ρ n H) xs us→cx (Vw U X w ρ n H1) xs us:=fun us hu=>cx.imp (fun _ _ h=>h.step s1) hu;have nb:=s'.nb;refine⟨H',_,js++Z,h,M',s1.trans s',cp1.trans cp,fun j hj=>?_,fun F1 hp hx hz vs hv=>?_⟩
  ·rcases List.mem_append.1 hj with hj|hj
   ·obtain⟨l,t,hl⟩:=cells1 j hj;exact⟨l,t,cp _ _ rfl hl⟩
   ·exact cells j hj
  ·obtain⟨v,us,e1,h1,h2⟩:=hv;refine⟨v,us,e1,iz ?_,c' F1 hp hx (fun j hj=>hz j (List.mem_append_right _ hj)) _ (hs _ h2)⟩;exact bn.same nb (.inr ⟨_,_,_,rfl⟩) (cv F1 hp hx (fun j hj=>hz j (List.mem_append_left _ hj)) v h1)
theorem rl: ∀{fs:List (Nat×Option bq)} {H:Hs U} {l:List (ck U)} {K:Hs U→List (ck U)→Prop},Cg fs H l K→bH U X (· =w) ρ n H→ ∃H' l',K H' l'∧CP H H'∧bH U X (· =w) ρ n H'∧cW ρ n H w ρ n H' w∧ ∀vs,cg (Vw U X w ρ n H) l vs→cg (Vw U X w ρ n H') l' vs
 | [],H,l,K,h,M=>⟨H,l,h,CP.refl _,M,M.stp0,fun _ h=>h⟩
 |(k,o)::fs,H,l,K,h,M=>by
  have h:tK 40 l k fun l1=>ia 40 l k fun l2=>match (generalizing:=false) o with
   |some s=>bif Nat.beq k (aQ U s)then kP l1 H fun H l1=>du 20 s l1 fun u=>Cg fs H l2 fun H r=>K H ((k,.d s u)::r)else False
   |none=>Cg fs H l2 fun H r=>qV l1 r fun r=>K H r:=h
  obtain⟨l1,h,h1⟩:=ib h;obtain⟨l2,h,h2⟩:=gg h;cases o with
  |none=>
   obtain⟨H',l',h,cp,M',s',c'⟩:=rl (fs:=fs) h M;refine⟨H',_,nZ h,cp,M',s',fun vs hs=>?_⟩;obtain⟨a1,a2⟩:=h1 _ _ _ _ _ _ hs;obtain⟨a3,_⟩:=h2 _ _ _ _ _ _ hs;have:=cg.app (a1.imp fun _ _ h=>h.step s') (c' _ a3)
   rwa [List.take_append_drop]at this
  |some s=>
   simp only at h;cases hb:Nat.beq k (aQ U s)with
   |false=>rw[hb]at h;exact h.elim
   |true=>
    rw[hb]at h;simp only[cond_true]at h;obtain⟨H1,l3,⟨h,cp1⟩,M1,s1,c1⟩:=fX (jY h fun H' r cp h=>(⟨h,cp⟩:_∧CP H H')) M;obtain⟨u,h,hu⟩:=bI h;obtain⟨H',l',h,cp,M',s',c'⟩:=rl (fs:=fs) h M1;refine⟨H',_,h,cp1.trans cp,M',s1.trans s',fun vs hs=>?_⟩;obtain⟨a1,a2⟩:=h1 _ _ _ _ _ _ hs;obtain⟨a3,_⟩:=h2 _ _ _ _ _ _ hs;have d1:=aK.mv (s'.mv (X:=X)) (hu _ _ _ _ _ _ (c1 _ a1));exact⟨vs.take k,vs.drop k,(List.take_append_drop _ _).symm,by rw[List.length_take];omega,d1,c' _ (a3.imp fun _ _ h=>h.step s1)⟩
theorem wr{fs:List (Nat×Option bq)}{j:Nat}{K:Hs U→Prop}(h:xC fs j H K)(M:bH U X (· =w) ρ n H): ∃H',K H'∧bH U X (· =w) ρ n H'∧cW ρ n H w ρ n H' w:=by
 unfold xC at h;split at h
 ·rename_i l t hl;obtain⟨H1,l',h,cp,M1,s1,c1⟩:=rl h M;have hl1:=cp _ _ rfl hl;have hK:=dM h;obtain⟨g,vs,hA,hs,hw⟩:=M.ent _ (ar hl);have hb0: ∀g,aC (cR ρ j (ρ j)) (j,(.cells l' t:aU U))=some g→aC ρ (j,(.cells l t:aU U))=some g∨w.heap.size≤g:=fun g hg=>by rw[bf]at hg;exact .inl hg
  have hr0: ∀v' l'' m',bC (some (.cells l' t:aU U))=some (v',l'',m')→ ∃v0 l0 m,bC (some (.cells l t:aU U))=some (v0,l0,m)∧v0≤v'∧(v0=v'→ρ j=ρ j∧l''=l0∧m'=m):=fun v' l'' m' hr=>by cases hr
  have hf:Fr (aC ρ (j,(.cells l t:aU U))).toList w w:=Fr.refl _ _;have st:=cW.upd (n:=n) M1.xd M1.nd hl1 hf (ρ j) hb0 hr0 (fun _=>rfl);rw[bf]at st;have M':=M1.upd hl1 hf (ρ j) hb0 hr0 (fun _=>rfl) (x:= .cells l' t) (by
   rw[bf];exact⟨g,vs,hA,(c1 vs hs).imp fun _ _ h=>h.step st,hw⟩)
  rw[bf]at M';exact⟨_,hK,M',s1.trans st⟩
 ·exact h.elim
theorem zt: ∀{em:List (Nat×List (Nat×Option bq))} {H:Hs U} {K:Hs U→Prop},LR em H K→bH U X (· =w) ρ n H→ ∃H',K H'∧bH U X (· =w) ρ n H'∧cW ρ n H w ρ n H' w
 | [],H,K,h,M=>⟨H,h,M,M.stp0⟩
 |x::em,H,K,h,M=>by
  obtain⟨H1,h,M1,s1⟩:=wr (show xC x.2 x.1 H (fun H=>LR em H K)from h) M;obtain⟨H2,h,M2,s2⟩:=zt (em:=em) h M1;exact⟨H2,h,M2,s1.trans s2⟩
theorem j4: ∀{md:List Md} {xs:List (Va U)} {H:Hs U} {K:Hs U→Prop},IF md xs H K→bH U X (· =w) ρ n H→ ∃H',K H'∧bH U X (· =w) ρ n H'∧cW ρ n H w ρ n H' w
 | [],xs,H,K,h,M=>⟨H,h,M,M.stp0⟩
 |m::md,[],H,K,h,M=>⟨H,h,M,M.stp0⟩
 | .n::md,x::xs,H,K,h,M=>j4 (md:=md) (xs:=xs) h M
 | .d _::md,x::xs,H,K,h,M=>j4 (md:=md) (xs:=xs) h M
 | .f1 _::md,x::xs,H,K,h,M=>j4 (md:=md) (xs:=xs) h M
 | .f2 _ _::md,x::xs,H,K,h,M=>j4 (md:=md) (xs:=xs) h M
 | .p fs::md,x::xs,H,K,h,M=>by
  have h:(match (generalizing:=false) x with
    |⟨false,(_,.ptr j 0):: []⟩=>xC fs j H fun H=>IF md xs H K
    |⟨false,(_,.nilp):: []⟩=>IF md xs H K
    |_=>False):=h
  split at h
  ·obtain⟨H1,h,M1,s1⟩:=wr h M;obtain⟨H2,h,M2,s2⟩:=j4 (md:=md) (xs:=xs) h M1;exact⟨H2,h,M2,s1.trans s2⟩
  ·exact j4 (md:=md) (xs:=xs) h M
  ·exact h.elim
theorem m5: ∀{md:List Md} {xs:List (Va U)} {H:Hs U} {K:Hs U→List (Va U)→Prop},EU md xs H K→bH U X (· =w) ρ n H→ ∃H' xs',K H' xs'∧bH U X (· =w) ρ n H'∧cW ρ n H w ρ n H' w∧ ∀vs,cx (Vw U X w ρ n H) xs vs→cx (Vw U X w ρ n H') xs' vs
 | [],xs,H,K,h,M=>⟨H,xs,h,M,M.stp0,fun _ h=>h⟩
 |m::md,[],H,K,h,M=>⟨H,[],h,M,M.stp0,fun _ h=>h⟩
 | .n::md,x::xs,H,K,h,M=>by
  have h:EU md xs H fun H r=>K H (x::r):=h;obtain⟨H',xs',h,M',s',c'⟩:=m5 (md:=md) h M;refine⟨H',_,h,M',s',fun vs hv=>?_⟩;obtain⟨v,us,e1,h1,h2⟩:=hv;exact⟨v,us,e1,h1.imp fun _ _ h=>h.step s',c' _ h2⟩
 | .f1 _::md,x::xs,H,K,h,M=>by
  have h:EU md xs H fun H r=>K H (x::r):=h;obtain⟨H',xs',h,M',s',c'⟩:=m5 (md:=md) h M;refine⟨H',_,h,M',s',fun vs hv=>?_⟩;obtain⟨v,us,e1,h1,h2⟩:=hv;exact⟨v,us,e1,h1.imp fun _ _ h=>h.step s',c' _ h2⟩
 | .f2 _ _::md,x::xs,H,K,h,M=>by
  have h:EU md xs H fun H r=>K H (x::r):=h;obtain⟨H',xs',h,M',s',c'⟩:=m5 (md:=md) h M;refine⟨H',_,h,M',s',fun vs hv=>?_⟩;obtain⟨v,us,e1,h1,h2⟩:=hv;exact⟨v,us,e1,h1.imp fun _ _ h=>h.step s',c' _ h2⟩
 | .p _::md,x::xs,H,K,h,M=>by
  have h:EU md xs H fun H r=>K H (x::r):=h;obtain⟨H',xs',h,M',s',c'⟩:=m5 (md:=md) h M;refine⟨H',_,h,M',s',fun vs hv=>?_⟩;obtain⟨v,us,e1,h1,h2⟩:=hv;exact⟨v,us,e1,h1.imp fun _ _ h=>h.step s',c' _ h2⟩
 | .d s::md,x::xs,H,K,h,M=>by
  have h:yK s H x fun H t=>EU md xs H fun H r=>K H (⟨x.ag,[(aQ U s,.d s t)]⟩::r):=h;obtain⟨H1,t,h,M1,s1,d1⟩:=oH h M;obtain⟨H',xs',h,M',s',c'⟩:=m5 (md:=md) h M1;refine⟨H',_,h,M',s1.trans s',fun vs hv=>?_⟩;obtain⟨v,us,e1,h1,h2⟩:=hv;have hd:=aK.mv (s'.mv (X:=X)) (d1 v h1);have hseg:cg (Vw U X w ρ n H') [(aQ U s,.d s t)] v.cells.toList:=⟨_,[],(List.append_nil _).symm,hd.length,hd,rfl⟩;refine⟨v,us,e1,?_,c' _ ?_⟩
  ·unfold de at h1⊢;cases hag:x.ag with
   |true=>
    simp only[hag]at h1⊢;obtain⟨ws,rfl,_⟩:=h1;exact⟨ws,rfl,by simpa[Value.cells]using hseg⟩
   |false=>
    simp only[hag]at h1⊢;have:=h1.one v (by simp);have e:v.cells.toList= [v]:=by cases v<;>first|rfl|(simp[Value.oneCell']at this)
    rw[e]at hseg;exact hseg
  ·exact cx.imp (fun _ _ h=>h.step s1) h2
omit [ay]in
theorem rm: ∀{es:List (aU U)} {L:List Nat} {n:Nat} {K:List Nat→Nat→Prop},Ck es L n K→ ∃L2 n2,K L2 n2∧L2.length=es.length∧n≤n2∧(L.length≤es.length→ ∀(j:Nat),j<L.length→L2[j]? =L[j]?)∧ ∀(j:Nat),L.length≤j→j<es.length→L2[j]? =some (n+(j - L.length))∧n+(j - L.length)<n2
 | [],L,n,K,h=>⟨[],n,h,rfl,Nat.le_refl _,fun h j hj=>by simp at h;subst h;rfl,fun j _ hj=>by simp at hj⟩
 |x::es,i::L,n,K,h=>by
  obtain⟨L2,n2,h,h1,h2,h3,h4⟩:=rm (es:=es) (show Ck es L n (fun l n=>K (i::l) n)from h);refine⟨_,n2,h,by simp[h1],h2,fun hle j hj=>?_,fun j hj1 hj2=>?_⟩
  ·cases j with
   |zero=>rfl
   |succ j=>simpa using h3 (by simpa using hle) j (by simpa using hj)
  ·cases j with
   |zero=>simp at hj1
   |succ j=>
    simp only[List.length_cons]at hj1 hj2⊢;have:=h4 j (by omega) (by omega);rw[show j+1 -(L.length+1)=j - L.length by omega];simpa using this
 |x::es,[],n,K,h=>by
  obtain⟨L2,n2,h,h1,h2,h3,h4⟩:=rm (es:=es) (show Ck es [] (n+1) (fun l n'=>K (n::l) n')from h);refine⟨_,n2,h,by simp[h1],by omega,fun hle j hj=>by simp at hj,fun j hj1 hj2=>?_⟩;simp only[List.length_cons]at hj2;cases j with
  |zero=>exact⟨rfl,by simp;omega⟩
  |succ j=>
   have:=h4 j (by simp) (by omega);simp only[List.length_nil,Nat.sub_zero]at this⊢;rw[show n+(j+1)=n+1+j by omega];simpa using this
def l7:List Nat→Nat→Option Nat
 | [],_=>none
 |a::L,i=>bif Nat.beq a i then some 0 else(l7 L i).map (· +1)
omit [ay]in
theorem l8: ∀{L:List Nat} {i j:Nat},l7 L i=some j→L[j]? =some i
 |a::L,i,j,h=>by
  unfold l7 at h;cases hb:Nat.beq a i with
  |true=>rw[hb]at h;injection h with h;subst h;rw[Nat.eq_of_beq_eq_true hb];rfl
  |false=>
   rw[hb]at h;simp only[cond_false,Option.map_eq_some_iff]at h;obtain⟨k,hk,rfl⟩:=h;simpa using l8 hk
omit [ay]in
theorem rn: ∀{L:List Nat} {i j:Nat},L.Nodup→L[j]? =some i→l7 L i=some j
 |a::L,i,j,hn,h=>by
  unfold l7;rw[List.nodup_cons]at hn;cases j with
  |zero=>simp at h;subst h;rw[Nat.beq_refl];rfl
  |succ j=>
   simp at h;have: ¬a=i:=by rintro rfl;exact hn.1 (List.mem_of_getElem? h)
   rw[dt this,rn hn.2 h];rfl
def l9(ρ ρ':Nat→Rz)(L:List Nat):Nat→Rz:=fun i=>match l7 L i with
 |some j=>ρ' j
 |none=>ρ i
def sY(H:Hs U)(i:Nat):Nat:=match aI H i with
 |some (.row v _ _ _)=>v
 |_=>0
omit [ay]in
theorem rp{i v:Nat}{K:Nat→Prop}(h:uC H i v K):K (sY H i+v):=by
 unfold uC at h;unfold sY;split at h
 ·rename_i hl;rw[hl];exact h
 ·rename_i hn;have:(match aI H i with|some (.row v _ _ _)=>v|_=>0)=0:=by
   split
   ·rename_i hl;exact absurd hl (hn _ _ _ _)
   ·rfl
  rw[this,Nat.zero_add];exact h
structure jr(H0:Hs U)(L:List Nat)(Yc:List Nat)(ρ':Nat→Rz)(es:List (aU U))(Yf:List Nat)(ρf:Nat→Rz)(nf:Nat)(Hf:Hs U):Prop where
 Y: ∀y∈Yf,y∈Yc
 at_: ∀(j i:Nat),L[j]? =some i→i<nf∧ρf i=ρ' j∧(∀v' l m,bC (aI Hf i)=some (v',l,m)→ ∃v,bC es[j]? =some (v,l,m)∧v'=sY H0 i+v)∧(bC es[j]? =none→bC (aI Hf i)=none)
omit [ay]in
theorem df{α:Type}: ∀{l:List α} {j:Nat},d9 l j=l[j]?
 | [],j=>by cases j<;>rfl
 |_::_,0=>rfl
 |_::l,j+1=>by simpa[d9]using df (l:=l) (j:=j)
variable {H0:Hs U} {Yc:List Nat}
omit [ay]in
theorem zu{F1:ay} [F:ay]{x:Cx U}{K:Cx U→Prop}(h:qh H0 L x K): ∃y,K y∧ ∀Yf ρf nf Hf,jr H0 L Yc ρ' es Yf ρf nf Hf→ ∀vs, @bn F1 U Yc (· =w') ρ' es.length (aV 0 es) x vs→bn U Yf (· =w') ρf nf Hf y vs:=by
 have mvY: ∀{Yf ρf nf Hf},jr H0 L Yc ρ' es Yf ρf nf Hf→Mv Yc (· =w') Yf (· =w'):=fun b w2 h2=>⟨w2,[],h2,Fr.refl _ _,fun _ h=>(by cases h),fun y hy=> .inl (b.Y y hy)⟩;cases x with
 |own j v=>
  unfold qh at h;simp only at h;split at h
  ·rename_i i hi;rw[df]at hi;have h:=rp h;refine⟨_,h,fun Yf ρf nf Hf b vs hv=>?_⟩;obtain⟨h1,h2,h3,h4⟩:=b.at_ j i hi;obtain⟨hj,A,l,c,e,hn⟩:=hv;refine⟨h1,A,l,c,e,fun v' l' m' hr=>?_⟩;obtain⟨v1,hr1,hv1⟩:=h3 _ _ _ hr;obtain⟨a1,a2⟩:=hn _ _ _ (by rw[ff];exact hr1);subst hv1;exact⟨by omega,fun h=>by rw[h2];exact a2 (by omega)⟩
  ·exact⟨.un,h,fun Yf ρf nf Hf b vs hv=>by obtain⟨_,A,l,c,e,_⟩:=hv;exact⟨_,e,rfl⟩⟩
 |ptr j off=>
  unfold qh at h;simp only at h;split at h
  ·rename_i i hi;rw[df]at hi;refine⟨_,h,fun Yf ρf nf Hf b vs hv=>?_⟩;obtain⟨h1,h2,h3,h4⟩:=b.at_ j i hi;obtain⟨hj,hr,g,hA,e⟩:=hv;exact⟨h1,h4 (by rw[←ff];exact hr),g,by rw[h2];exact hA,e⟩
  ·exact⟨.un,h,fun Yf ρf nf Hf b vs hv=>by obtain⟨_,_,g,_,e⟩:=hv;exact⟨_,e,rfl⟩⟩
 |pel j v q off=>exact⟨.un,h,fun Yf ρf nf Hf b vs hv=>by obtain⟨_,a,e,_⟩:=hv;exact⟨_,e,rfl⟩⟩
 |pax i off m s q o=>exact⟨.un,h,fun Yf ρf nf Hf b vs hv=>by obtain⟨_,_,_,_,g,_,e⟩:=hv;exact⟨_,e,rfl⟩⟩
 |clo f js=>
  match js,h with
  | [],h=>exact⟨.un,h,fun Yf ρf nf Hf b vs hv=>⟨_,hv.1,rfl⟩⟩
  |_::_::_,h=>exact⟨.un,h,fun Yf ρf nf Hf b vs hv=>⟨_,hv.1,rfl⟩⟩
  |j:: [],h=>
   have h:(match d9 L j with|some i=>K (.clo f [i])|none=>K .un):=h;split at h
   ·rename_i i hi;rw[df]at hi;refine⟨_,h,fun Yf ρf nf Hf b vs hv=>?_⟩;obtain⟨h1,h2,h3,h4⟩:=b.at_ j i hi;obtain⟨e,hall⟩:=hv;obtain⟨hj,hr,g,hA⟩:=hall j (by simp);exact⟨by rw[e];simp[h2],fun k hk=>by
     have hk:=List.mem_singleton.1 hk;subst hk;exact⟨h1,h4 (by rw[←ff];exact hr),g,by rw[h2];exact hA⟩⟩
   ·exact⟨.un,h,fun Yf ρf nf Hf b vs hv=>⟨_,hv.1,rfl⟩⟩
 |f1 a g=>exact⟨.un,h,fun Yf ρf nf Hf b vs hv=>by obtain⟨u,e,⟨f,ca,e2⟩,_⟩:=hv;exact⟨u,e,by rw[e2];rfl⟩⟩
 |f2 a c g=>exact⟨.un,h,fun Yf ρf nf Hf b vs hv=>by obtain⟨u,e,⟨f,ca,e2⟩,_⟩:=hv;exact⟨u,e,by rw[e2];rfl⟩⟩
 |mp j=>
  unfold qh at h;simp only at h;split at h
  ·rename_i i hi;rw[df]at hi;refine⟨_,h,fun Yf ρf nf Hf b vs hv=>?_⟩;obtain⟨h1,h2,h3,h4⟩:=b.at_ j i hi;obtain⟨hj,hr,g,hA,e⟩:=hv;exact⟨h1,h4 (by rw[←ff];exact hr),g,by rw[h2];exact hA,e⟩
  ·exact⟨.un,h,fun Yf ρf nf Hf b vs hv=>by obtain⟨_,_,g,_,e⟩:=hv;exact⟨_,e,rfl⟩⟩
 |d s t=>exact⟨_,h,fun Yf ρf nf Hf b vs hv=>aK.mv (mvY b) hv⟩
 |pd s t=>exact⟨_,h,fun Yf ρf nf Hf b vs hv=>by obtain⟨g,b0,us,e,hd,hr⟩:=hv;exact⟨g,b0,us,e,aK.mv (mvY b) hd,hr.mv (mvY b)⟩⟩
 |nilp=>exact⟨_,h,fun Yf ρf nf Hf b vs hv=>hv⟩
 |nils=>exact⟨_,h,fun Yf ρf nf Hf b vs hv=>hv⟩
 |nilf=>exact⟨_,h,fun Yf ρf nf Hf b vs hv=>hv⟩
 |nilm=>exact⟨_,h,fun Yf ρf nf Hf b vs hv=>hv⟩
 |fn f=>exact⟨_,h,fun Yf ρf nf Hf b vs hv=>hv⟩
 |un=>exact⟨_,h,fun Yf ρf nf Hf b vs hv=>hv⟩
omit [ay]in
theorem mc{F1:ay} [F:ay]: ∀{l:List (ck U)} {K:List (ck U)→Prop},nE H0 L l K→ ∃l',K l'∧ ∀Yf ρf nf Hf,jr H0 L Yc ρ' es Yf ρf nf Hf→ ∀vs,cg (@bn F1 U Yc (· =w') ρ' es.length (aV 0 es)) l vs→cg (bn U Yf (· =w') ρf nf Hf) l' vs
 | [],K,h=>⟨[],h,fun _ _ _ _ _ _ hs=>hs⟩
 |(k,x)::l,K,h=>by
  have h:qh H0 L x fun y=>nE H0 L l fun r=>K ((k,y)::r):=h;obtain⟨y,h,hy⟩:=zu (Yc:=Yc) (ρ':=ρ') (es:=es) (w':=w') h;obtain⟨l',h,hl⟩:=mc (l:=l) h;refine⟨_,h,fun Yf ρf nf Hf b vs hs=>?_⟩;obtain⟨v1,v2,e,hk,hx,hr⟩:=hs;exact⟨v1,v2,e,hk,hy _ _ _ _ b _ hx,hl _ _ _ _ b _ hr⟩
omit [ay]in
theorem rq{V V':Cx U→List Value→Prop}{a:Bool}{l l':List (ck U)}(h: ∀vs,cg V l vs→cg V' l' vs){v:Value}(hv:de V ⟨a,l⟩ v):de V' ⟨a,l'⟩ v:=by
 unfold de at hv⊢;cases a with
 |true=>obtain⟨vs,e,hs⟩:=hv;exact⟨vs,e,h _ hs⟩
 |false=>exact h _ hv
omit [ay]in
theorem qn{F1:ay} [F:ay]: ∀{l:List (Va U)} {K:List (Va U)→Prop},qY H0 L l K→ ∃l',K l'∧ ∀Yf ρf nf Hf,jr H0 L Yc ρ' es Yf ρf nf Hf→ ∀vs,cx (@bn F1 U Yc (· =w') ρ' es.length (aV 0 es)) l vs→cx (bn U Yf (· =w') ρf nf Hf) l' vs
 | [],K,h=>⟨[],h,fun _ _ _ _ _ _ hs=>hs⟩
 |x::l,K,h=>by
  have h:nE H0 L x.l fun l1=>qY H0 L l fun r=>K (⟨x.ag,l1⟩::r):=h;obtain⟨l1,h,h1⟩:=mc (Yc:=Yc) (ρ':=ρ') (es:=es) (w':=w') h;obtain⟨l',h,hl⟩:=qn (l:=l) h;refine⟨_,h,fun Yf ρf nf Hf b vs hs=>?_⟩;obtain⟨v,us,e,hx,hr⟩:=hs;exact⟨v,us,e,rq (h1 _ _ _ _ b) hx,hl _ _ _ _ b _ hr⟩
omit [ay]in
theorem zw{F1:ay} [F:ay]{x:AV U}{K:AV U→Prop}(h:EV H0 L x K): ∃y,K y∧ ∀Yf ρf nf Hf,jr H0 L Yc ρ' es Yf ρf nf Hf→ ∀v,pZ (@bn F1 U Yc (· =w') ρ' es.length (aV 0 es)) x v→pZ (bn U Yf (· =w') ρf nf Hf) y v:=by
 cases x with
 |v x=>
  obtain⟨l',h,hl⟩:=mc (Yc:=Yc) (ρ':=ρ') (es:=es) (w':=w') (show nE H0 L x.l (fun l=>K (.v ⟨x.ag,l⟩))from h);exact⟨_,h,fun Yf ρf nf Hf b v hv=>rq (hl _ _ _ _ b) hv⟩
 |tup l=>
  obtain⟨l',h,hl⟩:=qn (Yc:=Yc) (ρ':=ρ') (es:=es) (w':=w') (show qY H0 L l (fun l=>K (.tup l))from h);exact⟨_,h,fun Yf ρf nf Hf b v hv=>by obtain⟨us,e,hs⟩:=hv;exact⟨us,e,hl _ _ _ _ b _ hs⟩⟩
 |gd p x=>exact⟨.un,h,fun _ _ _ _ _ _ _=>trivial⟩
 |un=>exact⟨.un,h,fun _ _ _ _ _ _ _=>trivial⟩
end
end Go.Proofs.YtmpeiadlohbikaaGreatDoor.V
end

section
set_option linter.unusedVariables false
set_option linter.unusedSimpArgs false
namespace Go.Proofs.YtmpeiadlohbikaaGreatDoor.V
open Go.RowKit
section
variable [ay] {U:cw} {P:Program} {nt:Nat} {T:dO U} {G:jm U} {X:List Nat} {w w':World} {ρ ρ':Nat→Rz} {n:Nat} {H H0:Hs U} {L:List Nat} {es:List (aU U)} {Yc:List Nat}
def uL(F1:ay) [F:ay](U:cw)(H0:Hs U)(L Yc:List Nat)(w':World)(ρ':Nat→Rz)(es:List (aU U))(i:Nat)(x y:aU U):Prop:=match x with
 | .cells l t=> ∃l',y= .cells l' t∧ ∀Yf ρf nf Hf,jr H0 L Yc ρ' es Yf ρf nf Hf→ ∀vs,cg (@bn F1 U Yc (· =w') ρ' es.length (aV 0 es)) l vs→cg (bn U Yf (· =w') ρf nf Hf) l' vs
 | .row v s xs t=>y= .row (sY H0 i+v) s xs t
 | .frz v s xs=>y= .frz (sY H0 i+v) s xs
 | .map d l=>y= .map d l
 |_=>y= .dead
omit [ay]in
theorem zx{F1:ay} [F:ay]{i:Nat}{x:aU U}{K:aU U→Prop}(h:yT H0 L i x K): ∃y,K y∧uL F1 U H0 L Yc w' ρ' es i x y:=by
 cases x with
 |cells l t=>
  obtain⟨l',h,hl⟩:=mc (Yc:=Yc) (ρ':=ρ') (es:=es) (w':=w') (show nE H0 L l (fun l=>K (.cells l t))from h);exact⟨_,h,l',rfl,hl⟩
 |row v s xs t=>
  have h:uC H0 i v fun v=>K (.row v s xs t):=h;exact⟨_,rp h,rfl⟩
 |frz v s xs=>
  have h:uC H0 i v fun v=>K (.frz v s xs):=h;exact⟨_,rp h,rfl⟩
 |map d l=>exact⟨_,h,rfl⟩
 |mapr d l r q g=>exact⟨_,h,rfl⟩
 |it i g=>exact⟨_,h,rfl⟩
 |clo f l=>exact⟨_,h,rfl⟩
 |hid v l m=>exact⟨_,h,rfl⟩
 |dead=>exact⟨_,h,rfl⟩
omit [ay]in
theorem uL.row{F1:ay} [F:ay]{i:Nat}{x y:aU U}(h:uL F1 U H0 L Yc w' ρ' es i x y):(∀v' l m,bC (some y)=some (v',l,m)→ ∃v,bC (some x)=some (v,l,m)∧v'=sY H0 i+v)∧(bC (some x)=none→bC (some y)=none):=by
 cases x with
 |cells l t=>obtain⟨l',rfl,_⟩:=h;exact⟨fun _ _ _ h=>(by cases h),fun _=>rfl⟩
 |row v s xs t=>
  rw[show y=_ from h];refine⟨fun v' l m hr=>?_,fun hr=>by cases hr⟩;injection hr with hr;injection hr with h1 hr;exact⟨v,by rw[←hr];rfl,h1.symm⟩
 |frz v s xs=>
  rw[show y=_ from h];refine⟨fun v' l m hr=>?_,fun hr=>by cases hr⟩;injection hr with hr;injection hr with h1 hr;exact⟨v,by rw[←hr];rfl,h1.symm⟩
 |_=>rw[show y=_ from h];exact⟨fun _ _ _ h=>(by cases h),fun _=>rfl⟩
omit [ay]in
theorem uL.live{F1:ay} [F:ay]{i j g:Nat}{x y:aU U}{ρf:Nat→Rz}(h:uL F1 U H0 L Yc w' ρ' es i x y)(hr:ρf i=ρ' j)(hg:aC ρf (i,y)=some g):aC ρ' (j,x)=some g:=by
 cases x with
 |cells l t=>obtain⟨l',rfl,_⟩:=h;unfold aC at hg⊢;simp only[hr]at hg;exact hg
 |row v s xs t=>rw[show y=_ from h]at hg;unfold aC at hg⊢;simp only[hr]at hg;exact hg
 |map d l=>rw[show y=_ from h]at hg;unfold aC at hg⊢;simp only[hr]at hg;exact hg
 |_=>rw[show y=_ from h]at hg;cases hg
def sZ(H:Hs U)(i:Nat)(y:aU U):Hs U:=match aI H i with
 |some _=>eP H i y
 |none=>(i,y)::H
omit [ay]in
theorem C0{i:Nat}{y:aU U}{K:Hs U→Prop}(h:Cm H i y K):K (sZ H i y):=by
 unfold Cm at h;unfold sZ;split at h
 ·rename_i hl;rw[hl];exact dM h
 ·rename_i hl;rw[hl];exact h
omit [ay]in
theorem wt{i k:Nat}{y:aU U}:aI (sZ H i y) k=if i=k then some y else aI H k:=by
 unfold sZ;split
 ·rename_i x hl;exact gj ⟨x,hl⟩
 ·by_cases e:i=k
  ·subst e;rw[if_pos rfl,si]
  ·rw[if_neg e];show(bif Nat.beq i k then some y else aI H k)=aI H k
   rw[dt e];rfl
omit [ay]in
theorem zy{i:Nat}{y:aU U}:(sZ H i y).map (·.1)=H.map (·.1)∨(sZ H i y).map (·.1)=i::H.map (·.1)∧i∉H.map (·.1):=by
 unfold sZ;split
 ·exact .inl lW
 ·rename_i hl;refine .inr ⟨rfl,fun h=>?_⟩;have: ∀(H:Hs U),i∈H.map (·.1)→aI H i≠none:=by
   intro H;induction H with
   |nil=>intro h;simp at h
   |cons p r ih=>
    intro h;obtain⟨a,b⟩:=p;unfold aI;by_cases e:a=i
    ·subst e;rw[Nat.beq_refl];simp
    ·rw[dt e];simp only[List.map_cons,List.mem_cons]at h;rcases h with h|h
     ·exact absurd h.symm e
     ·exact ih h
  exact this H h hl
def fk:Hs U→List Nat→List (aU U)→Hs U
 |H,i::Q,y::ys=>fk (sZ H i y) Q ys
 |H,_,_=>H
omit [ay]in
theorem tc: ∀{Q:List Nat} {ys:List (aU U)} {H:Hs U} {k:Nat},Q.Nodup→ys.length=Q.length→aI (fk H Q ys) k=match l7 Q k with|some j=>ys[j]? |none=>aI H k
 | [],ys,H,k,_,_=>by unfold fk;simp[l7]
 |i::Q,[],H,k,_,hl=>by simp at hl
 |i::Q,y::ys,H,k,hn,hl=>by
  rw[List.nodup_cons]at hn;unfold fk l7;rw[tc hn.2 (by simpa using hl)];by_cases e:i=k
  ·subst e;have:l7 Q i=none:=by
    cases h:l7 Q i with
    |none=>rfl
    |some j=>exact absurd (List.mem_of_getElem? (l8 h)) hn.1
   rw[this,Nat.beq_refl];simp only[cond_true,List.getElem?_cons_zero];rw[wt,if_pos rfl]
  ·rw[dt e];simp only[cond_false];cases h:l7 Q k with
   |none=>simp only[Option.map_none];rw[wt,if_neg e]
   |some j=>simp
omit [ay]in
theorem td: ∀{Q:List Nat} {ys:List (aU U)} {H:Hs U},(H.map (·.1)).Nodup→((fk H Q ys).map (·.1)).Nodup
 | [],ys,H,h=>by unfold fk;exact h
 |i::Q,[],H,h=>by unfold fk;exact h
 |i::Q,y::ys,H,h=>by
  unfold fk;refine td ?_;rcases zy (H:=H) (i:=i) (y:=y)with e|⟨e,e2⟩
  ·rw[e];exact h
  ·rw[e];exact List.nodup_cons.2 ⟨e2,h⟩
omit [ay]in
theorem te{F1:ay} [F:ay]: ∀{Q:List Nat} {xs:List (aU U)} {H:Hs U} {K:Hs U→Prop},yU H0 L Q xs H K→xs.length=Q.length→ ∃ys,K (fk H Q ys)∧ys.length=Q.length∧ ∀(j i:Nat) x,Q[j]? =some i→xs[j]? =some x→ ∃y,ys[j]? =some y∧uL F1 U H0 L Yc w' ρ' es i x y
 | [],xs,H,K,h,hl=>⟨[],by unfold fk;exact h,rfl,fun j i x hj=>by simp at hj⟩
 |i::Q,[],H,K,h,hl=>by simp at hl
 |i::Q,x::xs,H,K,h,hl=>by
  have h:yT H0 L i x fun y=>Cm H i y fun H=>yU H0 L Q xs H K:=h;obtain⟨y,h,hy⟩:=zx (Yc:=Yc) (ρ':=ρ') (es:=es) (w':=w') h;obtain⟨ys,h,hl',hys⟩:=te (Q:=Q) (C0 h) (by simpa using hl);refine⟨y::ys,by unfold fk;exact h,by simp[hl'],fun j k x' hj hx=>?_⟩;cases j with
  |zero=>simp at hj hx;subst hj;subst hx;exact⟨y,rfl,hy⟩
  |succ j=>simp at hj hx;simpa using hys j k x' hj hx
structure Bx where
 f:ay
omit [ay]in
theorem wu: ∀{L Z:List Nat},yS L Z=true→ ∀z∈Z,z∉L
 |L,[],_,z,hz=>by cases hz
 |L,y::Z,h,z,hz=>by
  have h:(bif iV y L then false else yS L Z)=true:=h;cases hb:iV y L with
  |true=>rw[hb]at h;cases h
  |false=>
   rw[hb]at h;rcases List.mem_cons.1 hz with rfl|hz
   ·exact ie hb
   ·exact wu (Z:=Z) h z hz
omit [ay]in
theorem zz [F:ay]{f:FuncId}{c:bG U}(hG:eQ P U G)(hC:dz P U f c){xs:List (Va U)}{vs:List Value}{K:AV U→Nat→Hs U→Prop}(h:Gz T G c xs n H K)(M:bH U X (· =w) ρ n H)(hv:cx (Vw U X w ρ n H) xs vs):
  Fn P f vs w fun v w'=> ∃av n' H' ρ',K av n' H'∧pZ (Vw U X w' ρ' n' H') av v∧bH U X (· =w') ρ' n' H'∧cW ρ n H w ρ' n' H' w':=by
 obtain⟨Hp,h,Mp,sp⟩:=j4 h M;obtain⟨H1,xs1,Z,h,M1,s2,cp,cells,c1⟩:=m4 hG h Mp;have s1:=sp.trans s2;have hv:cx (Vw U X w ρ n Hp) xs vs:=cx.imp (fun _ _ h=>h.step sp) hv;have h:=rh h;generalize hLe:xA H1 30 0 (xB H1 xs1 [])=L at h;clear hLe;cases hb:(nR L&&yS L Z)with
 |false=>rw[hb]at h;exact h.elim
 |true=>
  rw[hb]at h;simp only[cond_true]at h;rw[Bool.and_eq_true]at hb;have hL:=lY hb.1;have hD:=wu hb.2;obtain⟨b,bp,bx,bz,bo⟩: ∃b:Bx,b.f.pr=F.pr∧(∀z∈F.xf,z∈b.f.xf)∧(∀j∈Z,∀g,(ρ j).A=some ⟨g,0,none⟩→g∈b.f.xf)∧ ∀z∈b.f.xf,z∈F.xf∨ ∃j∈Z,ap (ρ j).A=some z:=
   ⟨⟨⟨F.xf++Z.filterMap (fun j=>ap (ρ j).A),F.pr⟩⟩,rfl,fun z hz=>List.mem_append_left _ hz,fun j hj g hA=>List.mem_append_right _ (List.mem_filterMap.2 ⟨j,hj,by rw[hA];rfl⟩),fun z hz=>(List.mem_append.1 hz).imp id fun h=>List.mem_filterMap.1 h⟩
  obtain⟨ys,h,hys⟩:=oK (F:=b.f) M1.i h;obtain⟨es,h,hl,hes⟩:=oM (F:=b.f) M1.i h;have rel:=jO.of (F:=b.f) hl hes;have hY:=uK (F:=b.f) (X:=X) hl hes;have fz:=fz (F:=b.f) hl hes;have hxo: ∀z∈b.f.xf,z∈Xo ρ H1 X (gk ρ L) (aV 0 es):=fun z hz=>by
   rcases bo z hz with h|⟨j,hj,hA⟩
   ·exact List.mem_filter.2 ⟨List.mem_append_right _ (M1.xs z h),by simpa using fun h'=>M1.dj z (fz z h') (M1.xs z h)⟩
   ·obtain⟨l,t,hlk⟩:=cells j hj;have hlv:aC ρ (j,(.cells l t:aU U))=some z:=hA;refine List.mem_filter.2 ⟨List.mem_append_left _ (aL.2 ⟨_,ar hlk,hlv⟩),?_⟩;simp only[decide_eq_true_eq];intro hm;obtain⟨p,hp,hpg⟩:=aL.1 hm;obtain⟨i,x,a1,a2,a3⟩:=lZ (F:=b.f) hl hes p hp z hpg;have:=M1.inj _ (ar a2) _ (ar hlk) z a3 hlv;simp only at this;subst this;exact hD _ hj (List.mem_of_getElem? a1)
  have Mc:=wq (F:=b.f) M1.i bx bp.symm hxo hL hl hes;refine Fn.mono (@hC b.f (bp.trans hG.1) _ w _ es ys vs _ Mc (hys es _ hY rel _ (c1 b.f bp bx bz _ hv)) h) fun v w'=>?_;rintro⟨r,es',ρ',h,hav,M0,st0⟩;have M':=bH.i (F0:=b.f) M0;have st:=cW.i (F0:=b.f) st0;obtain⟨L2,n2,h,g1,g2,g3,g4⟩:=rm h;have hle:L.length≤es'.length:=by rw[←hl];exact st.nn
  have g3:=g3 hle;obtain⟨av,h,hav2⟩:=zw (F1:=b.f) (Yc:=ao ρ' (aV 0 es')++Xo ρ H1 X (gk ρ L) (aV 0 es)) (ρ':=ρ') (es:=es') (w':=w') h;obtain⟨zs,h,hzl,hzs⟩:=te (F1:=b.f) (Yc:=ao ρ' (aV 0 es')++Xo ρ H1 X (gk ρ L) (aV 0 es)) (ρ':=ρ') (es:=es') (w':=w') h g1.symm;have Llt: ∀(j i:Nat),L[j]? =some i→i<n:=fun j i hj=>by obtain⟨x,y,h1,_⟩:=hes j i hj;exact M1.lt _ (ar h1)
  have old: ∀(j i:Nat),L2[j]? =some i→i<n→j<L.length∧L[j]? =some i:=fun j i hj hi=>by
   rcases Nat.lt_or_ge j L.length with hlt|hge
   ·exact⟨hlt,by rw[←g3 j hlt];exact hj⟩
   ·have:=(g4 j hge (by rw[←g1];exact bZ hj)).1;rw[hj]at this;injection this with this;omega
  have L2lt: ∀(j i:Nat),L2[j]? =some i→i<n2:=fun j i hj=>by
   rcases Nat.lt_or_ge j L.length with hlt|hge
   ·have:=Llt j i (by rw[←g3 j hlt];exact hj);omega
   ·obtain⟨a,b⟩:=g4 j hge (by rw[←g1];exact bZ hj);rw[hj]at a;injection a with a;omega
  have L2inj: ∀(j k i:Nat),L2[j]? =some i→L2[k]? =some i→j=k:=fun j k i hj hk=>by
   rcases Nat.lt_or_ge i n with hi|hi
   ·obtain⟨a1,a2⟩:=old j i hj hi;obtain⟨b1,b2⟩:=old k i hk hi;exact(List.getElem?_inj a1 hL).1 (a2.trans b2.symm)
   ·have key: ∀(j:Nat),L2[j]? =some i→L.length≤j∧i=n+(j - L.length):=fun j hj=>by
     rcases Nat.lt_or_ge j L.length with hlt|hge
     ·have:=Llt j i (by rw[←g3 j hlt];exact hj);omega
     ·have:=(g4 j hge (by rw[←g1];exact bZ hj)).1;rw[hj]at this;injection this with this;exact⟨hge,this⟩
    have a:=key j hj;have b:=key k hk;omega
  have hL2:L2.Nodup:=by
   rw[List.nodup_iff_pairwise_ne,List.pairwise_iff_getElem];intro i j hi hj hij he;have:=L2inj i j L2[i] (List.getElem?_eq_getElem hi) (by rw[he];exact List.getElem?_eq_getElem hj);omega
  have lk:=fun k=>tc (H:=H1) (ys:=zs) (k:=k) hL2 hzl;have ent: ∀i y,aI (fk H1 L2 zs) i=some y→(∃j x,L2[j]? =some i∧es'[j]? =some x∧l9 ρ ρ' L2 i=ρ' j∧uL b.f U H1 L2 (ao ρ' (aV 0 es')++Xo ρ H1 X (gk ρ L) (aV 0 es)) w' ρ' es' i x y)∨(aI H1 i=some y∧l9 ρ ρ' L2 i=ρ i∧ ∀j:Nat,L2[j]? ≠some i):=fun i y hy=>by
   rw[lk]at hy;cases hp:l7 L2 i with
   |none=>
    rw[hp]at hy;refine .inr ⟨hy,by unfold l9;rw[hp],fun j hj=>?_⟩;rw[rn hL2 hj]at hp;cases hp
   |some j=>
    rw[hp]at hy;have hj:=l8 hp;have hlt:j<es'.length:=by rw[←g1];exact bZ hj
    obtain⟨y',hy',he⟩:=hzs j i _ hj (List.getElem?_eq_getElem hlt);rw[show zs[j]? =some y from hy]at hy';injection hy' with hy';subst hy';exact .inl ⟨j,_,hj,List.getElem?_eq_getElem hlt,by unfold l9;rw[hp],he⟩
  have nd:((fk H1 L2 zs).map (·.1)).Nodup:=td M1.nd;have ent': ∀p∈fk H1 L2 zs,_:=fun p hp=>ent p.1 p.2 (ej nd hp);have apart: ∀i y g,aI H1 i=some y→aC ρ (i,y)=some g→(∀j:Nat,L2[j]? ≠some i)→g∉ao (gk ρ L) (aV 0 es):=fun i y g hi hg hno hm=>by
   obtain⟨p,hp,hpg⟩:=aL.1 hm;obtain⟨k,x,a1,a2,a3⟩:=lZ (F:=b.f) hl hes p hp g hpg;have:=M1.inj _ (ar hi) _ (ar a2) g hg a3;simp only at this;subst this;exact hno p.1 (by rw[g3 _ (bZ a1)];exact a1)
  have XinXo: ∀g∈X,g∈Xo ρ H1 X (gk ρ L) (aV 0 es):=fun g hg=>List.mem_filter.2 ⟨List.mem_append_right _ hg,by simpa using fun h=>M1.dj g (fz g h) hg⟩;have back:jr H1 L2 (ao ρ' (aV 0 es')++Xo ρ H1 X (gk ρ L) (aV 0 es)) ρ' es' (ao (l9 ρ ρ' L2) (fk H1 L2 zs)++X) (l9 ρ ρ' L2) n2 (fk H1 L2 zs):=by
   refine⟨fun g hg=>?_,fun j i hj=>?_⟩
   ·rcases List.mem_append.1 hg with hg|hg
    ·obtain⟨p,hp,hpg⟩:=aL.1 hg;rcases ent' p hp with⟨j,x,a1,a2,a3,a4⟩|⟨a1,a2,a3⟩
     ·exact List.mem_append_left _ (aL.2 ⟨(j,x),eo.2 a2,a4.live a3 hpg⟩)
     ·have hpg':aC ρ p=some g:=by
       obtain⟨i,y⟩:=p;simp only at a2;unfold aC at hpg⊢;cases y<;>simp only[a2]at hpg⊢ <;>exact hpg
      refine List.mem_append_right _ (List.mem_filter.2 ⟨List.mem_append_left _ (aL.2 ⟨p,ar a1,hpg'⟩),?_⟩);simpa using apart p.1 p.2 g a1 hpg' a3
    ·exact List.mem_append_right _ (XinXo g hg)
   ·have hp:=rn hL2 hj;have hlt:j<es'.length:=by rw[←g1];exact bZ hj
    obtain⟨y,hy,he⟩:=hzs j i _ hj (List.getElem?_eq_getElem hlt);have hly:aI (fk H1 L2 zs) i=some y:=by rw[lk,hp];exact hy
    refine⟨L2lt j i hj,by unfold l9;rw[hp],?_,?_⟩
    ·rw[hly,List.getElem?_eq_getElem hlt];exact he.row.1
    ·rw[hly,List.getElem?_eq_getElem hlt];exact he.row.2
  have rhoEq: ∀i y,l9 ρ ρ' L2 i=ρ i→aC (l9 ρ ρ' L2) (i,(y:aU U))=aC ρ (i,y):=fun i y hr=>by
   unfold aC;cases y<;>simp only[hr]
  have hStp:cW ρ n H1 w (l9 ρ ρ' L2) n2 (fk H1 L2 zs) w':=by
   refine⟨M1.xd,g2,st.fr.mono fun g hg=>fz g hg,fun g hg=>?_,fun i hi v' l' m' hr=>?_,fun i hi hr=>?_⟩
   ·obtain⟨p,hp,hpg⟩:=aL.1 hg;rcases ent' p hp with⟨j,x,a1,a2,a3,a4⟩|⟨a1,a2,a3⟩
    ·rcases st.nb g (aL.2 ⟨(j,x),eo.2 a2,a4.live a3 hpg⟩)with h|h
     ·exact .inl (fz g h)
     ·exact .inr h
    ·rw[show p=(p.1,p.2)from rfl,rhoEq p.1 p.2 a2]at hpg;exact .inl (aL.2 ⟨p,ar a1,hpg⟩)
   ·cases hy:aI (fk H1 L2 zs) i with
    |none=>rw[hy]at hr;cases hr
    |some y=>
     rw[hy]at hr;rcases ent i y hy with⟨j,x,a1,a2,a3,a4⟩|⟨a1,a2,a3⟩
     ·obtain⟨hjl,hj⟩:=old j i a1 hi;obtain⟨v,hx,hv'⟩:=a4.row.1 _ _ _ hr;obtain⟨v0,l0,m0,b1,b2,b3⟩:=st.row j (by rw[hl];exact hjl) v l' m' (by rw[ff,a2];exact hx);rw[ff]at b1;obtain⟨x1,y1,c1,c2,c3⟩:=hes j i hj;rw[c2]at b1;have hrow: ∃vv s ys t,x1=(.row vv s ys t:aU U)∧v0=0∧l0=ys.length∧m0=aQ U s:=by
       cases x1 with
       |row vv s ys t=>
        rw[show y1=_ from c3]at b1;injection b1 with b1;injection b1 with d1 b1;injection b1 with d2 d3;exact⟨vv,s,ys,t,rfl,d1.symm,d2.symm,d3.symm⟩
       |cells l t=>obtain⟨l'',rfl,_⟩:=c3;cases b1
       |_=>rw[show y1=_ from c3]at b1;cases b1
      obtain⟨vv,s,ys2,t,rfl,e1,e2,e3⟩:=hrow;have hv0:sY H1 i=vv:=by unfold sY;rw[c1]
      refine⟨vv,ys2.length,aQ U s,by rw[c1];rfl,by omega,fun he=>?_⟩;obtain⟨f1,f2,f3⟩:=b3 (by omega);exact⟨by rw[a3,f1,cS hj],by omega,by omega⟩
     ·exact⟨v',l',m',by rw[a1];exact hr,Nat.le_refl _,fun _=>⟨a2,rfl,rfl⟩⟩
   ·cases hp:l7 L2 i with
    |none=>unfold l9;rw[hp]
    |some j=>
     have hj2:=l8 hp;obtain⟨hjl,hj⟩:=old j i hj2 hi;obtain⟨x1,y1,c1,c2,c3⟩:=hes j i hj;rw[c1]at hr;have:=st.cel j (by rw[hl];exact hjl) (by rw[ff,c2];exact(oL.row (F:=b.f) c3).2 hr);unfold l9;rw[hp];simp only;rw[this,cS hj]
  refine⟨av,n2,_,l9 ρ ρ' L2,h,hav2 _ _ _ _ back v hav,?_,s1.trans hStp⟩;refine⟨nd,fun p hp=>?_,fun p hp=>?_,fun p hp q hq g h1 h2=>?_,fun g hg hx=>?_,fun w2 h2 g hg=>?_,M1.xs,M1.gv.fr hStp.fr M1.xd⟩
  ·rcases ent' p hp with⟨j,x,a1,a2,a3,a4⟩|⟨a1,a2,a3⟩
   ·exact L2lt j _ a1
   ·have:=M1.lt _ (ar a1);simp only at this;omega
  ·rcases ent' p hp with⟨j,x,a1,a2,a3,a4⟩|⟨a1,a2,a3⟩
   ·have mv:Mv (ao ρ' (aV 0 es')++Xo ρ H1 X (gk ρ L) (aV 0 es)) (· =w') (ao (l9 ρ ρ' L2) (fk H1 L2 zs)++X) (· =w'):=fun w2 h2=>⟨w2,[],h2,Fr.refl _ _,fun _ h=>(by cases h),fun y hy=> .inl (back.Y y hy)⟩;have hM:=M'.ent (j,x) (eo.2 a2);obtain⟨i,y⟩:=p;simp only at a1 a3 a4⊢;cases x with
    |cells l t=>
     obtain⟨l',rfl,hc⟩:=a4;obtain⟨g,vs,hA,hs,hw⟩:=hM;exact⟨g,vs,by rw[a3];exact hA,hc _ _ _ _ back vs hs,hw⟩
    |row v s xs t=>
     obtain⟨hm,cs,sp,hd,ho,hw⟩:=hM;rw[show y=_ from a4];exact⟨hm,cs,sp,ba.mv mv hd,by rw[a3];exact ho,fun g hg=>by rw[a3]at hg;exact hw g hg⟩
    |frz v s xs=>
     obtain⟨hm,cs,hd,hr,k1,k2⟩:=hM;rw[show y=_ from a4];exact⟨hm,cs,ba.mv mv hd,by rw[a3];exact hr.mv mv,by rw[a3];exact k1,by rw[a3];exact k2⟩
    |map d l=>
     obtain⟨hk,g,es2,clock,m,hA,hm,hd,hw⟩:=hM;rw[show y=_ from a4];exact⟨we.inst bp hk,g,es2,clock,m,by rw[a3];exact hA,hm,aJ.mv mv hd,hw⟩
    |_=>rw[show y=_ from a4];trivial
   ·refine(M1.ent (p.1,p.2) (ar a1)).step hStp a2 fun g hg=>?_;exact st.fr.block g (dU M1 (p.1,p.2) (ar a1) g hg) (apart p.1 p.2 g a1 hg a3)
  ·rcases ent' p hp with⟨j,x,a1,a2,a3,a4⟩|⟨a1,a2,a3⟩<;>rcases ent' q hq with⟨k,y,b1,b2,b3,b4⟩|⟨b1,b2,b3⟩
   ·have:=M'.inj (j,x) (eo.2 a2) (k,y) (eo.2 b2) g (a4.live a3 h1) (b4.live b3 h2);simp only at this;subst this;rw[a1]at b1;injection b1
   ·rw[show q=(q.1,q.2)from rfl,rhoEq q.1 q.2 b2]at h2;rcases st.nb g (aL.2 ⟨(j,x),eo.2 a2,a4.live a3 h1⟩)with h|h
    ·exact absurd h (apart q.1 q.2 g b1 h2 b3)
    ·have:=dU M1 (q.1,q.2) (ar b1) g h2;omega
   ·rw[show p=(p.1,p.2)from rfl,rhoEq p.1 p.2 a2]at h1;rcases st.nb g (aL.2 ⟨(k,y),eo.2 b2,b4.live b3 h2⟩)with h|h
    ·exact absurd h (apart p.1 p.2 g a1 h1 a3)
    ·have:=dU M1 (p.1,p.2) (ar a1) g h1;omega
   ·rw[show p=(p.1,p.2)from rfl,rhoEq p.1 p.2 a2]at h1;rw[show q=(q.1,q.2)from rfl,rhoEq q.1 q.2 b2]at h2;exact M1.inj _ (ar a1) _ (ar b1) g h1 h2
  ·obtain⟨p,hp,hpg⟩:=aL.1 hg;rcases ent' p hp with⟨j,x,a1,a2,a3,a4⟩|⟨a1,a2,a3⟩
   ·exact M'.dj g (aL.2 ⟨(j,x),eo.2 a2,a4.live a3 hpg⟩) (XinXo g hx)
   ·rw[show p=(p.1,p.2)from rfl,rhoEq p.1 p.2 a2]at hpg;exact M1.dj g (aL.2 ⟨_,ar a1,hpg⟩) hx
  ·subst h2;have:=M1.lo w rfl g hg;exact Nat.lt_of_lt_of_le this st.fr.size
end
end Go.Proofs.YtmpeiadlohbikaaGreatDoor.V
end

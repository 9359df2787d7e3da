/- What printed walks use: splits, sums, loops. -/
import Derived.Test.YtiliglahlfkikaaGreatDoorK11
section
set_option linter.unusedVariables false
set_option linter.unusedSimpArgs false
namespace Go.Proofs.YtiliglahlfkikaaGreatDoor.V
open Go.RowKit
def xW(nt:Nat):Code→Bool
 | .region _ ops _=>(ops.toList.all fun o=>o.dst.all (Nat.blt · nt))&&ops.toList.all rm
 | .seq a b=>xW nt a&&xW nt b
 | .cond _ a b=>xW nt a&&xW nt b
 | .block _ a=>xW nt a
 | .loop a=>xW nt a
 |_=>true
section
variable [ax] {U:cn} {P:Program} {nt:Nat} {T:eF U} {G:jZ U} {X:List Nat} {w w' w0:World} {ρ ρ0:Nat→Rz} {n n0 b:Nat} {H H' H0:Hs U} {R e e':En U} {ce:aR} {o:Oper} {S:List Nat}
def I2:Ip→Exit→Prop
 | .n,.normal=>True
 | .r,.ret=>True
 | .x i,.exit j=>i=j
 |_,_=>False
def QK(U:cn)(X:List Nat)(ρ0:Nat→Rz)(b:Nat)(H0:Hs U)(w0:World)(K:KO U):EQ:=fun x ce w=> ∃o e n H ρ,K o e n H∧I2 o x∧bH U X (· =w) ρ n H∧bd (Vw U X w ρ n H) [] e ce∧dg ρ0 b H0 w0 ρ n H w
theorem I3(hG:gw P U G)(hT:bO U P T)(hmo:P.follows .mixedOrders=true): ∀(c:Code) (e:En U) (n:Nat) (H:Hs U) (K:KO U) (ρ:Nat→Rz) (ce:aR) (w:World),aw T G b c e n H K→xW nt c=true→bH U X (· =w) ρ n H→bd (Vw U X w ρ n H) [] e ce→dg ρ0 b H0 w0 ρ n H w→Wp P nt c (QK U X ρ0 b H0 w0 K) ce w:=by
 intro c;induction c with
 |skip=>exact fun e n H K ρ ce w h _ M he st=>ii ⟨.n,e,n,H,ρ,h,trivial,M,he,st⟩
 |region id ops d=>
  intro e n H K ρ ce w h hc M he st;have h:(bif d then wE T G b ops e n H (K .n)else vm T G ops.toList ops.toList e n H [] [] (K .n)):=h;cases d with
  |true=>
   obtain⟨l⟩:=ops;have hc:((l.all fun o=>o.dst.all (Nat.blt · nt))&&l.all rm)=true:=hc;rw[Bool.and_eq_true]at hc;exact yR (P:=P) (nt:=nt) (Q:=QK U X ρ0 b H0 w0 K) hG hT hmo (K:=K .n) (fun e n H ρ ce w hK M he st=>⟨.n,e,n,H,ρ,hK,trivial,M,he,st⟩) (fun o ho=>List.all_eq_true.1 hc.1 o ho) hc.2 h M he st
  |false=>
   have hc:((ops.toList.all fun o=>o.dst.all (Nat.blt · nt))&&ops.toList.all rm)=true:=hc;rw[Bool.and_eq_true]at hc;have hL:=xa (P:=P) (nt:=nt) (Q:=QK U X ρ0 b H0 w0 K) (all:=ops.toList) hG hT (K:=K .n) (fun e n H ρ ce w hK M he st=>⟨.n,e,n,H,ρ,hK,trivial,M,he,st⟩) ops.toList e n H [] [] ρ ce w (fun o ho=>List.all_eq_true.1 hc.1 o ho) h M he ⟨fun k hk=>absurd rfl hk,fun k av hk=>(by cases hk),fun k hk=>absurd rfl hk⟩ st;have:=rq (P:=P) (n:=nt) (id:=id) hL hc.2;simpa using this
 |seq x y ihx ihy=>
  intro e n H K ρ ce w h hc M he st;have hc:(xW nt x&&xW nt y)=true:=hc;rw[Bool.and_eq_true]at hc;refine wn fun K' hK'=>?_;refine nM (ihx e n H (IS (aw T G b y) K) ρ ce w h hc.1 M he st) ?_;rintro ex ce' w' ⟨o,e',n',H',ρ',hK,ho,M',he',st'⟩;cases o with
  |n=>
   cases ex<;>first|exact ho.elim|skip
   exact hK' _ _ (ihy e' n' H' K ρ' ce' w' hK hc.2 M' he' st')
  |r=>
   cases ex<;>first|exact ho.elim|skip
   exact⟨.r,e',n',H',ρ',hK,trivial,M',he',st'⟩
  |x i=>
   cases ex<;>first|exact ho.elim|skip
   exact⟨.x i,e',n',H',ρ',hK,ho,M',he',st'⟩
 |cond c x y ihx ihy=>
  intro e n H K ρ ce w h hc M he st;have hc:(xW nt x&&xW nt y)=true:=hc;rw[Bool.and_eq_true]at hc;obtain⟨d,h,hd⟩:=bZ (show km [] [] e c (Ga (aw T G b x) (aw T G b y) e n H K)from h) he;unfold Ga at h;split at h
  ·rename_i t;obtain⟨u,e1,h1⟩:=hd eT;have:=aK.boolE h1;subst this;exact iY e1 (fun ht=>ihx e n H K ρ ce w (h.1 ht) hc.1 M he st) (fun ht=>ihy e n H K ρ ce w (h.2 ht) hc.2 M he st)
  ·exact h.elim
 |block i x ih=>
  intro e n H K ρ ce w h hc M he st;refine cl (nM (ih e n H (IT i K) ρ ce w h hc M he st) ?_);rintro ex ce' w' ⟨o,e',n',H',ρ',hK,ho,M',he',st'⟩;cases o with
  |n=>
   cases ex<;>first|exact ho.elim|skip
   exact⟨.n,e',n',H',ρ',hK,trivial,M',he',st'⟩
  |r=>
   cases ex<;>first|exact ho.elim|skip
   exact⟨.r,e',n',H',ρ',hK,trivial,M',he',st'⟩
  |x j=>
   cases ex<;>first|exact ho.elim|skip
   rename_i j';have ho:j=j':=ho;subst ho;have hK:(bif Nat.beq i j then K .n e' n' H' else K (.x j) e' n' H'):=hK;by_cases hij:i=j
   ·subst hij;rw[Nat.beq_refl]at hK;exact kQ ⟨.n,e',n',H',ρ',hK,trivial,M',he',st'⟩
   ·rw[dq hij]at hK;exact Dy (dq fun h=>hij h.symm) ⟨.x j,e',n',H',ρ',hK,rfl,M',he',st'⟩
 |loop x ih=>
  intro e n H K ρ ce w h hc M he st;obtain⟨σ,N,E,Mh,I,μ,⟨φ,s,hI,hle⟩,hb⟩:=(show zb b (aw T G b x) e n H K from h);obtain⟨ρ1,M1,he1,qv⟩:=vJ M he hle st;refine xC (fun m ce w=> ∃s ρ',I s∧μ s=m∧bH U X (· =w) ρ' N (Mh s)∧bd (Vw U X w ρ' N (Mh s)) [] (E s) ce∧dg ρ0 b H0 w0 ρ' N (Mh s) w) (μ s) ⟨s,ρ1,hI,rfl,M1,he1,qv⟩ ?_;rintro m ce w ⟨s,ρ',hI,rfl,M',he',st'⟩;refine nM (ih _ _ _ _ ρ' ce w (hb s hI) hc M' he' st') ?_;rintro ex ce' w' ⟨o,e2,n2,H2,ρ2,hK,ho,M2,he2,st2⟩;cases o with
  |n=>
   cases ex<;>first|exact ho.elim|skip
   obtain⟨φ,s',hlt,hI',hle⟩:=hK;obtain⟨ρ3,M3,he3,st3⟩:=vJ M2 he2 hle st2;exact⟨μ s',hlt,s',ρ3,hI',rfl,M3,he3,st3⟩
  |r=>
   cases ex<;>first|exact ho.elim|skip
   exact⟨.r,e2,n2,H2,ρ2,hK,trivial,M2,he2,st2⟩
  |x i=>
   cases ex<;>first|exact ho.elim|skip
   exact⟨.x i,e2,n2,H2,ρ2,hK,ho,M2,he2,st2⟩
 |rangeFunc f ps a x _ _=>exact fun e n H K ρ ce w h=>h.elim
 |exit i=>exact fun e n H K ρ ce w h _ M he st=>iX ⟨.x i,e,n,H,ρ,h,rfl,M,he,st⟩
 |scope x _=>exact fun e n H K ρ ce w h=>h.elim
 |label i=>exact fun e n H K ρ ce w h _ M he st=>AY ⟨.n,e,n,H,ρ,h,trivial,M,he,st⟩
 |goto i=>exact fun e n H K ρ ce w h=>h.elim
 |ret=>exact fun e n H K ρ ce w h _ M he st=>wR ⟨.r,e,n,H,ρ,h,trivial,M,he,st⟩
 |refuse s=>exact fun e n H K ρ ce w h=>h.elim
end
end Go.Proofs.YtiliglahlfkikaaGreatDoor.V
end

section
set_option linter.unusedVariables false
set_option linter.unusedSimpArgs false
namespace Go.Proofs.YtiliglahlfkikaaGreatDoor.V
open Go.RowKit
section
variable [ax] {U:cn} {P:Program} {nt:Nat} {T:eF U} {G:jZ U} {X:List Nat} {w w' w0:World} {ρ ρ0:Nat→Rz} {n n0 b:Nat} {H H' H0:Hs U} {R e e':En U} {ce:aR} {o:Oper} {S:List Nat} {L:List Nat} {es:List (aW U)} {fn:Func}
def LQ(P:Program)(ce:aR)(w:World):List ResultVar→List Value→Prop
 | [],[]=>True
 |r::l,v::vs=>Rv P ce w r v∧LQ P ce w l vs
 |_,_=>False
theorem sg(hT:bO U P T)(M:bH U X (· =w) ρ n H)(he:bd (Vw U X w ρ n H) [] e ce): ∀{l:List ResultVar} {K:List (Va U)→Prop},zd T l e H K→ ∃xs,K xs∧ ∃vs,LQ P ce w l vs∧cI (Vw U X w ρ n H) xs vs
 | [],K,h=>⟨[],h,[],trivial,rfl⟩
 | .tmp t::l,K,h=>by
  have h:mJ [] [] e (.tmp t) fun v=>zd T l e H fun l=>K (v::l):=h;obtain⟨x,h,hx⟩:=ef h he;obtain⟨u,e1,h1⟩:=hx eT;obtain⟨xs,h,vs,h2,h3⟩:=sg hT M he h;exact⟨_,h,u::vs,⟨e1,h2⟩,u,vs,rfl,h1,h3⟩
 | .cell p t::l,K,h=>by
  have h:km [] [] e (.tmp p) fun c=>tq T t H c fun v=>zd T l e H fun l=>K (v::l):=h;obtain⟨c,h,hc⟩:=bZ h he;obtain⟨x,h,hx⟩:=tH (P:=P) h M hT;obtain⟨u0,e1,h1⟩:=hc eT;obtain⟨A,u,rfl,h4,h5⟩:=hx u0 h1;obtain⟨xs,h,vs,h2,h3⟩:=sg hT M he h;exact⟨_,h,u::vs,⟨⟨A,e1,h5 w rfl⟩,h2⟩,u,vs,rfl,h4,h3⟩
def I4:List Value→Value
 | [v]=>v
 |vs=> .tuple vs.toArray
omit [ax]in
theorem GH(hl:Nat.ble fn.results.toList.length 3=true){vs:List Value}(h:LQ P ce w fn.results.toList vs):yN P nt fn ce w (I4 vs):=by
 have hle:=Nat.le_of_ble_eq_true hl;have hr:fn.results=fn.results.toList.toArray:=by simp
 generalize fn.results.toList=l at*;match l,vs,h,hle with
 | [],[],_,_=>exact HH hr
 | [r],[v],⟨h1,_⟩,_=>exact Jy hr h1
 | [r,s],[v,u],⟨h1,h2,_⟩,_=>exact Jz hr h1 h2
 | [r,s,t],[v,u,x],⟨h1,h2,h3,_⟩,_=>exact JA hr h1 h2 h3
 |_::_::_::_::_,_,_,h=>simp at h
 | [],_::_,h,_=>exact h.elim
 | [_],[],h,_=>exact h.elim
 | [_],_::_::_,h,_=>exact h.2.elim
 | [_,_],[],h,_=>exact h.elim
 | [_,_],[_],h,_=>exact h.2.elim
 | [_,_],_::_::_::_,h,_=>exact h.2.2.elim
 | [_,_,_],[],h,_=>exact h.elim
 | [_,_,_],[_],h,_=>exact h.2.elim
 | [_,_,_],[_,_],h,_=>exact h.2.2.elim
 | [_,_,_],_::_::_::_::_,h,_=>exact h.2.2.2.elim
omit [ax]in
theorem CN{V:Cx U→List Value→Prop}{xs:List (Va U)}{vs:List Value}{K:AV U→Prop}(h:Gf xs K)(hv:cI V xs vs): ∃r,K r∧qr V r (I4 vs):=by
 match xs,vs,hv with
 | [],vs,hv=>rw[show vs= []from hv];exact⟨_,h,[],rfl,rfl⟩
 | [x],vs,hv=>
  obtain⟨v,us,rfl,h1,h2⟩:=hv;rw[show us= []from h2];exact⟨_,h,h1⟩
 |x::y::r,vs,hv=>
  obtain⟨v,us,rfl,h1,h2⟩:=hv;obtain⟨u,us',rfl,h3,h4⟩:=h2;exact⟨_,h,v::u::us',rfl,v,_,rfl,h1,u,_,rfl,h3,h4⟩
omit [ax]in
theorem xb: ∀{k j:Nat} {L:List Nat},xR j k L=true→ ∀i,i<k→L[i]? =some (j+i)
 |0,j,L,h,i,hi=>absurd hi (Nat.not_lt_zero _)
 |k+1,j,[],h,i,hi=>by cases h
 |k+1,j,a::r,h,i,hi=>by
  have h:(bif Nat.beq a j then xR (j+1) k r else false)=true:=h;cases hb:Nat.beq a j with
  |false=>rw[hb]at h;cases h
  |true=>
   rw[hb]at h;cases i with
   |zero=>rw[Nat.eq_of_beq_eq_true hb];rfl
   |succ i=>
    have:=xb h i (by omega);rw[List.getElem?_cons_succ,this];congr 1;omega
theorem bn.subY{Y Y':List Nat}(hY: ∀y∈Y',y∈Y){x:Cx U}{vs:List Value}(h:bn U Y (· =w) ρ n H x vs):bn U Y' (· =w) ρ n H x vs:=by
 have mv:Mv Y (· =w) Y' (· =w):=fun w2 h2=>⟨w2,[],h2,Fr.refl _ _,fun _ h=>(by cases h),fun y hy=> .inl (hY y hy)⟩;cases x with
 |d s t=>exact aK.mv mv h
 |pd s t=>obtain⟨g,b,us,e,hd,hr⟩:=h;exact⟨g,b,us,e,aK.mv mv hd,hr.mv mv⟩
 |f1 a g=>obtain⟨u,e,hf⟩:=h;exact⟨u,e,hf.mv mv⟩
 |f2 a b g=>obtain⟨u,e,hf⟩:=h;exact⟨u,e,hf.mv mv⟩
 |_=>exact h
theorem bH.subX{X':List Nat}(M:bH U X (· =w) ρ n H)(hX: ∀x∈X',x∈X)(hx: ∀z∈ax.xf,z∈X'):bH U X' (· =w) ρ n H:=by
 have hY: ∀y∈aj ρ H++X',y∈aj ρ H++X:=fun y hy=>by
  rcases List.mem_append.1 hy with h|h
  ·exact List.mem_append_left _ h
  ·exact List.mem_append_right _ (hX y h)
 have mv:Mv (aj ρ H++X) (· =w) (aj ρ H++X') (· =w):=fun w2 h2=>⟨w2,[],h2,Fr.refl _ _,fun _ h=>(by cases h),fun y hy=> .inl (hY y hy)⟩;refine⟨M.nd,M.lt,fun p hp=>?_,M.inj,fun g hg hx=>M.dj g hg (hX g hx),fun w2 h2 x hx=>M.lo w2 h2 x (hX x hx),hx,M.gv⟩;have h:=M.ent p hp;obtain⟨i,x⟩:=p;cases x with
 |cells l t=>obtain⟨g,vs,hA,hs,hw⟩:=h;exact⟨g,vs,hA,hs.imp fun _ _ h=>bn.subY hY h,hw⟩
 |row v s xs t=>obtain⟨hm,cs,sp,hd,ho,hw⟩:=h;exact⟨hm,cs,sp,aZ.mv mv hd,ho,hw⟩
 |map d l=>obtain⟨hk,g,es,clock,m,hA,hm,hd,hw⟩:=h;exact⟨hk,g,es,clock,m,hA,hm,aH.mv mv hd,hw⟩
 |mapr d l r q0 q=>obtain⟨hk,g,es,clock,m,lv,cv,hA,hm,hd,hl,hc,hw⟩:=h;exact⟨hk,g,es,clock,m,lv,cv,hA,hm,aH.mv mv hd,aH.mv mv hl,aH.mv mv hc,hw⟩
 |it k q=>obtain⟨r,g,hA,hA2,hk,hrk,hw⟩:=h;exact⟨r,g,hA,hA2,hk,hrk,hw⟩
 |frz v s xs=>obtain⟨hm,cs,hd,hr,h1,h2⟩:=h;exact⟨hm,cs,aZ.mv mv hd,hr.mv mv,h1,h2⟩
 |clo f l=>trivial
 |hid v l m=>trivial
 |dead=>trivial
theorem CO(hT:bO U P T){md:List Md}{em:List (Nat×List (Nat×Option bm))}{K:AV U→List (aW U)→Prop}{ou:Ip}(h:IV T fn md em b K ou e n H)(M:bH U X (· =w) ρ n H)(he:bd (Vw U X w ρ n H) [] e ce)(st:dg ρ0 b H0 w0 ρ n H w):
  ∃v,yN P nt fn ce w v∧ ∃r es' ρ',K r es'∧qr (Vw U X w ρ' es'.length (aS 0 es')) r v∧bH U X (· =w) ρ' es'.length (aS 0 es')∧dg ρ0 b H0 w0 ρ' es'.length (aS 0 es') w:=by
 have h:bif Nat.ble fn.results.toList.length 3 then zd T fn.results.toList e H fun l=>Il md l H fun H=>Lq em H fun H=>EF md l H fun H l=>B1 (xN H 30 0 (xO H l (List.range b))) fun L=>bif oE L&&xR 0 b L then tB false H L l fun l=>tA false H L L fun es=>Gf l fun r=>K r es else False else False:=by
  cases ou<;>first|exact h|exact h.elim
 cases hb3:Nat.ble fn.results.toList.length 3 with
 |false=>rw[hb3]at h;exact h.elim
 |true=>
  rw[hb3]at h;simp only[cond_true]at h;obtain⟨xs,h,vs,hrv,hvs⟩:=sg hT M he h;obtain⟨Ha,h,Ma,sa⟩:=lz h M;obtain⟨Hb,h,Mb,sb⟩:=zC h Ma;obtain⟨H1,xs1,h,M1,s2,c1⟩:=nU h Mb;have s1:=(sa.trans sb).trans s2;have hvs:cI (Vw U X w ρ n Hb) xs vs:=cI.imp (fun _ _ h=>h.step (sa.trans sb)) hvs;have h:=rQ h;generalize hLe:xN H1 30 0 (xO H1 xs1 (List.range b))=L at h;clear hLe;cases hb:(oE L&&xR 0 b L)with
  |false=>rw[hb]at h;exact h.elim
  |true=>
   rw[hb]at h;simp only[cond_true]at h;rw[Bool.and_eq_true]at hb;have hL:=mX hb.1;have hpre: ∀i,i<b→L[i]? =some i:=fun i hi=>by have:=xb hb.2 i hi;rwa [Nat.zero_add]at this
   obtain⟨ys,h,hys⟩:=pn M1.i h;obtain⟨es,h,hl,hes⟩:=pq M1.i h;have rel:=ly.of hl hes;have hY:=vD (X:=X) hl hes;have Mc:=wQ M1.i (fun z hz=>hz) rfl (fun z hz=>List.mem_filter.2 ⟨List.mem_append_right _ (M1.xs z hz),by simpa using fun h=>M1.dj z (gE hl hes z h) (M1.xs z hz)⟩) hL hl hes;have XinXo: ∀g∈X,g∈Xo ρ H1 X (ip ρ L) (aS 0 es):=fun g hg=>List.mem_filter.2 ⟨List.mem_append_right _ hg,by simpa using fun h=>M1.dj g (gE hl hes g h) hg⟩;have hv:=hys es (aj (ip ρ L) (aS 0 es)++X) (fun y hy=>by
    rcases List.mem_append.1 hy with h|h
    ·exact List.mem_append_left _ (gE hl hes y h)
    ·exact List.mem_append_right _ h) rel _ (c1 _ hvs)
   obtain⟨r,hK,hr⟩:=CN h hv;have qv:=st.trans s1;refine⟨_,GH hb3 hrv,r,es,ip ρ L,hK,hr,Mc.subX XinXo M.xs,?_⟩;refine⟨qv.xd,?_,qv.fr,fun g hg=>qv.nb g (gE hl hes g hg),fun i hi v' l' m' hrow=>?_,fun i hi hrow=>?_⟩
   ·rcases Nat.eq_zero_or_pos b with h0|h0
    ·omega
    ·have:=ci (hpre (b - 1) (by omega));omega
   ·rw[gi]at hrow;obtain⟨x,y,a1,a2,a3⟩:=hes i i (hpre i hi);rw[a2]at hrow;obtain⟨v,b1,b2⟩:=a3.row.1 _ _ _ hrow;obtain⟨v0,l0,m0,d1,d2,d3⟩:=qv.row i hi v l' m' (by rw[a1];exact b1);have hvv:v'=v:=b2;subst hvv;refine⟨v0,l0,m0,d1,d2,fun h=>?_⟩;obtain⟨f1,f2⟩:=d3 h;exact⟨by rw[dm (hpre i hi)];exact f1,f2⟩
   ·rw[dm (hpre i hi)];exact qv.cel i hi hrow
def vL:Nat→List (Va U)→En U
 |_,[]=> []
 |i,x::r=>(i,.v x)::vL (i+1) r
omit [ax]in
theorem si{V:Cx U→List Value→Prop}: ∀{xs:List (Va U)} {vs:List Value} {i:Nat},cI V xs vs→ ∀k av,aL (vL i xs) k=some av→ ∃x u,av= .v x∧(dX i vs).get k=some u∧dJ V x u
 | [],vs,i,h,k,av,hk=>by cases hk
 |x::r,vs,i,h,k,av,hk=>by
  obtain⟨v,us,rfl,h1,h2⟩:=h;by_cases e1:i=k
  ·subst e1;have hk:aL ((i,AV.v x)::vL (i+1) r) i=some av:=hk;rw[rN]at hk;injection hk with hk;exact⟨x,v,hk.symm,se,h1⟩
  ·have hk:aL ((i,AV.v x)::vL (i+1) r) k=some av:=hk;rw[iL e1]at hk;obtain⟨y,u,a,b,c⟩:=si h2 k av hk;refine⟨y,u,a,?_,c⟩;show aR.get ((i,v)::dX (i+1) us) k=some u
   rw[mj e1];exact b
omit [ax]in
theorem cI.length{V:Cx U→List Value→Prop}: ∀{xs:List (Va U)} {vs:List Value},cI V xs vs→vs.length=xs.length
 | [],vs,h=>by rw[show vs= []from h];rfl
 |x::r,vs,h=>by obtain⟨v,us,rfl,_,h2⟩:=h;simp[cI.length h2]
omit [ax]in
theorem zO{f:FuncId}{c:bf U}{code:Code}(hG:ku P U G)(hT:bO U P T)(hmo:P.follows .mixedOrders=true)(nt:Nat)(md:List Md)(em:List (Nat×List (Nat×Option bm)))(hen:bg P f=true)(hf:P.funcs[f]? =some fn)(hb:fn.body=some code)(hn:fn.ntmps=nt)(hcd:xW nt code=true)
  (h: ∀xs es K,c.run xs es K→Nat.ble xs.length nt=true∧Gg T G fn md em (vL 0 xs) es.length (aS 0 es) K):dY P U f c:=fun [F:ax] hpr X w ρ es xs vs K M hv hrun=>by
 obtain⟨hlen,hfun⟩:=h xs es K hrun;unfold Gg at hfun
 rw[hb]at hfun
 have he:bd (Vw U X w ρ es.length (aS 0 es)) [] (vL 0 xs) (dX 0 vs):=by
  refine⟨fun k x _ hk=>?_,fun k l _ hk=>?_,fun k p x hk=>by cases hk⟩
  ·obtain⟨y,u,h1,h2,h3⟩:=si hv k _ hk;injection h1 with h1;subst h1;exact⟨u,h2,h3⟩
  ·obtain⟨y,u,h1,_⟩:=si hv k _ hk;cases h1
 have hw:=I3 (hG:=⟨hpr,hG⟩) hT hmo code _ _ _ _ ρ _ w hfun hcd M he (M.stp0);refine lN nt hen hf hb hn (by rw[hv.length];exact hlen) (nM hw ?_);rintro ex ce' w' ⟨o,e',n',H',ρ',hK,ho,M',he',st'⟩;obtain⟨v,hres,r,es',ρ2,h1,h2,h3,h4⟩:=CO (nt:=nt) hT hK M' he' st';cases ex with
 |normal=>exact fE hres ⟨r,es',ρ2,h1,h2,h3,h4⟩
 |ret=>exact fR hres ⟨r,es',ρ2,h1,h2,h3,h4⟩
 |exit j=>cases o<;>first|exact ho.elim|exact hK.elim
 |_=>cases o<;>exact ho.elim
end
end Go.Proofs.YtiliglahlfkikaaGreatDoor.V
end

section
set_option linter.unusedVariables false
set_option linter.unusedSimpArgs false
namespace Go.Proofs.YtiliglahlfkikaaGreatDoor.V
open Go.RowKit
section
variable [ax] {U:cn} {P:Program} {t:Nat} {ti:TI U}
inductive Zc where
 |i (k:IntKind)|b|s|l|p|f|m
def Ix:Zc→cC U
 | .i k=>(1,.d (.int k) (0:Int))
 | .b=>(1,.d .bool false)
 | .s=>(1,.d .str ([]:List UInt8))
 | .l=>(1,.nils)
 | .p=>(1,.nilp)
 | .f=>(1,.nilf)
 | .m=>(1,.nilm)
def BN:Zc→Value
 | .i k=> .int k 0
 | .b=> .bool false
 | .s=>sv []
 | .l=> .slice none 0 0
 | .p=> .pointer none
 | .f=> .nilFunc
 | .m=> .map none
theorem Iy{Y:List Nat}{S:World→Prop}{ρ:Nat→Rz}{n:Nat}{H:Hs U}: ∀l:List Zc,co (bn U Y S ρ n H) (l.map Ix) (l.map BN)
 | []=>rfl
 |z::r=>by
  refine⟨[BN z],r.map BN,rfl,by cases z<;>rfl,?_,Iy r⟩;cases z with
  |i k=>exact aK.int k 0 (by cases k<;>(unfold fu;omega))
  |b=>exact aK.bool false
  |s=>exact aK.str [] (by decide)
  |_=>rfl
def Iz(P:Program)(t f:Nat):Option Nat:=match P.underlying t with|some (.struct fs)=>(fs[f]?).map (·.type)|_=>none
def IA(P:Program)(t:Nat):Nat→List (Nat×Nat)→Bool
 |_,[]=>true
 |f,(off,ft)::r=>decide (ga P t f=some off)&&decide (Iz P t f=some ft)&&IA P t (f+1) r
omit [ax]in
theorem yS: ∀{l:List (Nat×Nat)} {b f off ft:Nat},IA P t b l=true→eM l f=some (off,ft)→ga P t (b+f)=some off∧Iz P t (b+f)=some ft
 | [],b,f,off,ft,h,hn=>by rw[dB]at hn;simp at hn
 |(o,g)::r,b,0,off,ft,h,hn=>by
  simp only[IA,Bool.and_eq_true,decide_eq_true_eq]at h;rw[dB]at hn;simp only[List.getElem?_cons_zero,Option.some.injEq,Prod.mk.injEq]at hn;rw[←hn.1,←hn.2];exact h.1
 |(o,g)::r,b,f+1,off,ft,h,hn=>by
  simp only[IA,Bool.and_eq_true,decide_eq_true_eq]at h;rw[dB,List.getElem?_cons_succ,←dB]at hn;have:=yS h.2 hn;rw[show b+(f+1)=b+1+f by omega];exact this
def IB(P:Program)(pls:List (Nat×Nat)):Nat→List (Nat×Nat)→Bool
 |_,[]=>true
 |f,(off,ft)::r=>(match pls[f]? with
  |some (o,k)=>decide (o=off)&&decide ((P.info? ft).map (·.size)=some k)
  |none=>false)&&IB P pls (f+1) r
omit [ax]in
theorem yT{pls:List (Nat×Nat)}: ∀{l:List (Nat×Nat)} {b f off ft:Nat},IB P pls b l=true→eM l f=some (off,ft)→ ∃k,pls[b+f]? =some (off,k)∧(P.info? ft).map (·.size)=some k
 | [],b,f,off,ft,h,hn=>by rw[dB]at hn;simp at hn
 |(o,g)::r,b,0,off,ft,h,hn=>by
  simp only[IB,Bool.and_eq_true]at h;rw[dB]at hn;simp only[List.getElem?_cons_zero,Option.some.injEq,Prod.mk.injEq]at hn;obtain⟨h,_⟩:=h;split at h
  ·rename_i o' k hk;simp only[Bool.and_eq_true,decide_eq_true_eq]at h;refine⟨k,?_,?_⟩
   ·rw[Nat.add_zero,hk,h.1,hn.1]
   ·rw[←hn.2];exact h.2
  ·cases h
 |(o,g)::r,b,f+1,off,ft,h,hn=>by
  simp only[IB,Bool.and_eq_true]at h;rw[dB,List.getElem?_cons_succ,←dB]at hn;have:=yT h.2 hn;rw[show b+(f+1)=b+1+f by omega];exact this
def OM(P:Program)(t:Nat)(k:Kd)(fs:List (Nat×Nat)):Bool:=match k with
 | .st=>(match nA P t with
  |some pls=>IB P pls 0 fs
  |none=>false)
 |_=>true
omit [ax]in
theorem aY(l:List Zc)(hz:ti.zero=l.map Ix)(hzz:zeroCells P t=some (l.map BN))(hl:l.length=ti.sz)(hsz:(P.info? t).map (·.size)=some ti.sz)(hby:(P.info? t).map (·.bytes)=some ti.by_)(hkd:xS P t ti.kd)(h1:(u7 ti.kd||eE P t)=true)
  (hfs:IA P t 0 ti.fs=true) (hpl:OM P t ti.kd ti.fs=true) (heq: ∀s,ti.sh=some s→ti.cmp=true→u7 ti.kd=true∧jX U P t s) (hmp: ∀d,ti.mp=some d→EJ P U d∧P.underlying t=some (.map d.kt d.vt)):bj U P t ti:=
 ⟨hsz,hkd,fun h=>by rw[h]at h1;exact h1,hby,fun f off ft hn=>by have:=yS hfs hn;rw[Nat.zero_add]at this;exact this,fun hk=>(by
  rw[hk]at hpl;unfold OM at hpl;simp only at hpl;split at hpl
  ·rename_i pls hp;exact⟨pls,hp,fun f off ft hn=>by have:=yT hpl hn;rwa [Nat.zero_add]at this⟩
  ·exact absurd hpl (by decide)),heq,hmp,⟨_,hzz,by rw[List.length_map];exact hl,fun F Y S ρ n H=>by rw[hz];exact Iy l⟩⟩
def ON(P:Program)(t:Nat)(ag:Bool):Bool:=match jT P t with
 |some (.agg _)=>ag
 |some _=>!ag
 |none=>false
omit [ax]in
theorem rB{t:Nat}{s:bm}{z:TT U.ty s}(h:bj U P t ti)(hz:dL 20 s ti.zero fun x=>x=z)(hb:ON P t (fS s)=true): ∃v,jT P t=some v∧ ∀Y S,∃vs,eN (fS s) v vs∧aK U Y S s z vs:=by
 obtain⟨zs,h1,_,h3⟩:=h.zero;have F:ax:=⟨[],P⟩;obtain⟨x,rfl,hx⟩:=bQ hz;have hd: ∀Y S,aK U Y S s x zs:=fun Y S=>hx _ _ _ _ _ _ (h3 F Y S (fun _=>⟨none,0⟩) 0 []);unfold ON at hb;unfold zeroCells at h1;unfold jT at hb⊢;cases hi:P.info? t with
 |none=>rw[hi]at h1;cases h1
 |some inf=>
  rw[hi]at h1 hb;simp only[Option.bind_some]at h1 hb⊢;cases hv:inf.zero with
  |none=>rw[hv]at h1;cases h1
  |some v=>
   rw[hv]at h1 hb;simp only[Option.map_some,Option.some.injEq]at h1;refine⟨v,rfl,fun Y S=>⟨zs,?_,hd Y S⟩⟩;unfold eN;cases v with
   |agg cs=>
    have hb:fS s=true:=hb;rw[hb];rw[←h1];simp[Value.cells]
   |_=>
    have hb:(!fS s)=true:=hb;have hb:fS s=false:=by simpa using hb
    rw[hb];rw[←h1];rfl
omit [ax]in
theorem yU{α:Type} [DecidableEq α]{kt:TypeId}{enc:α→List Value}(hu: ∃fs,P.underlying kt=some (.struct fs))(hv:(bB P kt).isSome=true)(heq: ∀x y,∃r,bc P 8 kt (enc x) (enc y)=some r∧(r=true↔x=y))
  (hchk: ∀em x w,(Instr.checkKey em 10000 kt (.agg (enc x).toArray)).run P w= .ok () w) (hfl: ∀x,(enc x).all uS=true):ia P kt (fun x=> .agg (enc x).toArray):=by
 obtain⟨fs,hu⟩:=hu;refine ia.agg hu (fun _ _=>rfl) (by intro h;rw[h]at hv;cases hv) (fun x y=>?_) hchk fun x v hv=>List.all_eq_true.1 (hfl x) v hv;obtain⟨r,h1,h2⟩:=heq x y;rw[h1];congr 1;rw[Bool.eq_iff_iff,h2];simp
omit [ax]in
theorem lj{Y:List Nat}{S:World→Prop}{k:IntKind}: ∀{xs:List Int} {vs:List Value},aZ U Y S (.int k) xs vs→vs=xs.map (Value.int k)
 | [],vs,h=>by cases h;rfl
 |x::xs,vs,h=>by
  cases h with
  |cons _ _ _ v1 v2 hd _ hl=>rw[(aK.inv hd).1,lj hl];rfl
omit [ax]in
theorem BO:bO U P []:=fun t ti h=>by cases h
omit [ax]in
theorem aq{T:eF U}{t:Nat}{ti:TI U}(h:bj U P t ti)(hT:bO U P T):bO U P ((t,ti)::T):=fun t' ti' h'=>by
 by_cases e:t=t'
 ·subst e;rw[rN]at h';injection h' with h';subst h';exact h
 ·rw[iL e]at h';exact hT t' ti' h'
omit [ax]in
theorem ah:ku P U []:=fun f k h=>by cases h
omit [ax]in
theorem aa{G:jZ U}{f:Nat}{c:bf U}(h:dY P U f c)(hG:ku P U G):ku P U ((f,c)::G):=fun f' c' h'=>by
 by_cases e:f=f'
 ·subst e;rw[rN]at h';injection h' with h';subst h';exact h
 ·rw[iL e]at h';exact hG f' c' h'
end
end Go.Proofs.YtiliglahlfkikaaGreatDoor.V
end

section
set_option linter.unusedVariables false
namespace Go.Proofs.YtiliglahlfkikaaGreatDoor.V
open Go.RowKit
theorem iD{p:Prop} [Decidable p]:decide p=true↔p:=decide_eq_true_iff
theorem iB{b:Bool}:b=true↔b=true:=Iff.rfl
theorem iA{a b:Bool}{P Q:Prop}(h1:a=true↔P)(h2:b=true↔Q):(a&&b)=true↔P∧Q:=by rw[Bool.and_eq_true,h1,h2]
theorem iO{a b:Bool}{P Q:Prop}(h1:a=true↔P)(h2:b=true↔Q):(a||b)=true↔P∨Q:=by rw[Bool.or_eq_true,h1,h2]
theorem iN{a:Bool}{P:Prop}(h1:a=true↔P):(!a)=true↔ ¬P:=by rw[←h1];simp
theorem iP{c a b:Bool}{C P Q:Prop} [Decidable C](h0:c=true↔C)(h1:a=true↔P)(h2:b=true↔Q):(bif c then a else b)=true↔(if C then P else Q):=by
 cases c with
 |true=>rw[if_pos (h0.1 rfl)];exact h1
 |false=>rw[if_neg (fun h=>by have:=h0.2 h;cases this)];exact h2
def V2(A B:Prop):Prop:=A∧B
theorem vI{α:Type}{f x y:α}{b:Bool}{P:Prop} [Decidable P]{A B:Prop}(hf:f=if P then x else y)(hb:b=true↔P)(h1:P→f=x→A)(h2: ¬P→f=y→B):EB b A B:=
 ⟨fun h=>h1 (hb.1 h) (hf.trans (if_pos (hb.1 h))),fun h=>have hn: ¬P:=fun hp=>by(rw[hb.2 hp]at h;cases h)
  h2 hn (hf.trans (if_neg hn))⟩
theorem vN{α:Type}{f x y:α}{b:Bool}{P:Prop} [Decidable P]{A B:Prop}(hf:f=if P then x else y)(hb:b=true↔ ¬P)(h1: ¬P→f=y→A)(h2:P→f=x→B):EB b A B:=
 ⟨fun h=>h1 (hb.1 h) (hf.trans (if_neg (hb.1 h))),fun h=>have hn:P:=Classical.byContradiction fun hp=>by(rw[hb.2 hp]at h;cases h)
  h2 hn (hf.trans (if_pos hn))⟩
theorem vT{b:Bool}{P A B:Prop}(hb:b=true↔P)(h:P)(k:A):EB b A B:=⟨fun _=>k,fun h'=>by rw[hb.2 h]at h';cases h'⟩
theorem vF{b:Bool}{P A B:Prop}(hb:b=true↔P)(h: ¬P)(k:B):EB b A B:=⟨fun h'=>absurd (hb.1 h') h,fun _=>k⟩
theorem vR{b:Bool}{P A B:Prop}(hb:b=true↔P)(h1:P→A)(h2: ¬P→B):EB b A B:=⟨fun h=>h1 (hb.1 h),fun h=>h2 (fun hp=>by rw[hb.2 hp]at h;cases h)⟩
theorem rD{p q r:Int}(h: -9223372036854775808≤p→p≤9223372036854775807→ -9223372036854775808≤q→q≤9223372036854775807→ -9223372036854775808≤r∧r≤9223372036854775807):fu .i64 p→fu .i64 q→fu .i64 r:=fun h1 h2=>h h1.1 h1.2 h2.1 h2.2
def d5{σ β:Type}(μ:σ→Nat)(inv:σ→Prop)(L:Nat→σ→β)(X:β)(s:σ):Prop:= ∃c,μ s<c+1∧inv s∧X=L (c+1) s
theorem d5.mk0{σ β:Type}{μ:σ→Nat}{inv:σ→Prop}{L:Nat→σ→β}{X:β}{s:σ}(c:Nat)(h:μ s<c+1)(hi:inv s)(hX:X=L (c+1) s):d5 μ inv L X s:=⟨c,h,hi,hX⟩
theorem d5.next{σ β:Type}{μ:σ→Nat}{inv:σ→Prop}{L:Nat→σ→β}{X:β}{s s':σ}{c:Nat}(h:μ s<c+1)(h':μ s'<μ s)(hi:inv s')(hX:X=L c s'):d5 μ inv L X s':=by
 cases c with
 |zero=>omega
 |succ c=>exact⟨c,by omega,hi,hX⟩
end Go.Proofs.YtiliglahlfkikaaGreatDoor.V
end

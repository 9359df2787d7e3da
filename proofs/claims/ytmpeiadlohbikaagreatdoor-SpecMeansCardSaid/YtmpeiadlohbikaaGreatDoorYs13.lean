/- What printed walks use: splits, sums, loops. -/
import Derived.Test.YtmpeiadlohbikaaGreatDoorYs12
section
set_option linter.unusedVariables false
set_option linter.unusedSimpArgs false
namespace Go.Proofs.YtmpeiadlohbikaaGreatDoor.V
open Go.RowKit
def xL(nt:Nat):Code→Bool
 | .region _ ops _=>(ops.toList.all fun o=>o.dst.all (Nat.blt · nt))&&ops.toList.all qO
 | .seq a b=>xL nt a&&xL nt b
 | .cond _ a b=>xL nt a&&xL nt b
 | .block _ a=>xL nt a
 | .loop a=>xL nt a
 |_=>true
section
variable [ay] {U:cw} {P:Program} {nt:Nat} {T:dO U} {G:jm U} {X:List Nat} {w w' w0:World} {ρ ρ0:Nat→Rz} {n n0 b:Nat} {H H' H0:Hs U} {R e e':En U} {ce:aS} {o:Oper} {S:List Nat}
def Jm:II→Exit→Prop
 | .n,.normal=>True
 | .r,.ret=>True
 | .x i,.exit j=>i=j
 |_,_=>False
def QK(U:cw)(X:List Nat)(ρ0:Nat→Rz)(b:Nat)(H0:Hs U)(w0:World)(K:KO U):EQ:=fun x ce w=> ∃o e n H ρ,K o e n H∧Jm o x∧bH U X (· =w) ρ n H∧bc (Vw U X w ρ n H) [] e ce∧cW ρ0 b H0 w0 ρ n H w
theorem Jn(hG:eQ P U G)(hT:bK U P T)(hmo:P.follows .mixedOrders=true): ∀(c:Code) (e:En U) (n:Nat) (H:Hs U) (K:KO U) (ρ:Nat→Rz) (ce:aS) (w:World),aw T G b c e n H K→xL nt c=true→bH U X (· =w) ρ n H→bc (Vw U X w ρ n H) [] e ce→cW ρ0 b H0 w0 ρ n H w→Wp P nt c (QK U X ρ0 b H0 w0 K) ce w:=by
 intro c;induction c with
 |skip=>exact fun e n H K ρ ce w h _ M he st=>fH ⟨.n,e,n,H,ρ,h,trivial,M,he,st⟩
 |region id ops d=>
  intro e n H K ρ ce w h hc M he st;have h:(bif d then wd T G b ops e n H (K .n)else oA T G ops.toList ops.toList e n H [] [] (K .n)):=h;cases d with
  |true=>
   obtain⟨l⟩:=ops;have hc:((l.all fun o=>o.dst.all (Nat.blt · nt))&&l.all qO)=true:=hc;rw[Bool.and_eq_true]at hc;exact yD (P:=P) (nt:=nt) (Q:=QK U X ρ0 b H0 w0 K) hG hT hmo (K:=K .n) (fun e n H ρ ce w hK M he st=>⟨.n,e,n,H,ρ,hK,trivial,M,he,st⟩) (fun o ho=>List.all_eq_true.1 hc.1 o ho) hc.2 h M he st
  |false=>
   have hc:((ops.toList.all fun o=>o.dst.all (Nat.blt · nt))&&ops.toList.all qO)=true:=hc;rw[Bool.and_eq_true]at hc;have hL:=vV (P:=P) (nt:=nt) (Q:=QK U X ρ0 b H0 w0 K) (all:=ops.toList) hG hT (K:=K .n) (fun e n H ρ ce w hK M he st=>⟨.n,e,n,H,ρ,hK,trivial,M,he,st⟩) ops.toList e n H [] [] ρ ce w (fun o ho=>List.all_eq_true.1 hc.1 o ho) h M he ⟨fun k hk=>absurd rfl hk,fun k av hk=>(by cases hk),fun k hk=>absurd rfl hk⟩ st;have:=qQ (P:=P) (n:=nt) (id:=id) hL hc.2;simpa using this
 |seq x y ihx ihy=>
  intro e n H K ρ ce w h hc M he st;have hc:(xL nt x&&xL nt y)=true:=hc;rw[Bool.and_eq_true]at hc;refine Ba fun K' hK'=>?_;refine mQ (ihx e n H (Jb (aw T G b y) K) ρ ce w h hc.1 M he st) ?_;rintro ex ce' w' ⟨o,e',n',H',ρ',hK,ho,M',he',st'⟩;cases o with
  |n=>
   cases ex<;>first|exact ho.elim|skip
   exact hK' _ _ (ihy e' n' H' K ρ' ce' w' hK hc.2 M' he' st')
  |r=>
   cases ex<;>first|exact ho.elim|skip
   exact⟨.r,e',n',H',ρ',hK,trivial,M',he',st'⟩
  |x i=>
   cases ex<;>first|exact ho.elim|skip
   exact⟨.x i,e',n',H',ρ',hK,ho,M',he',st'⟩
 |cond c x y ihx ihy=>
  intro e n H K ρ ce w h hc M he st;have hc:(xL nt x&&xL nt y)=true:=hc;rw[Bool.and_eq_true]at hc;obtain⟨d,h,hd⟩:=bU (show jn [] [] e c (GF (aw T G b x) (aw T G b y) e n H K)from h) he;unfold GF at h;split at h
  ·rename_i t;obtain⟨u,e1,h1⟩:=hd eO;have:=aK.boolE h1;subst this;exact f5 e1 (fun ht=>ihx e n H K ρ ce w (h.1 ht) hc.1 M he st) (fun ht=>ihy e n H K ρ ce w (h.2 ht) hc.2 M he st)
  ·exact h.elim
 |block i x ih=>
  intro e n H K ρ ce w h hc M he st;refine bV (mQ (ih e n H (Jc i K) ρ ce w h hc M he st) ?_);rintro ex ce' w' ⟨o,e',n',H',ρ',hK,ho,M',he',st'⟩;cases o with
  |n=>
   cases ex<;>first|exact ho.elim|skip
   exact⟨.n,e',n',H',ρ',hK,trivial,M',he',st'⟩
  |r=>
   cases ex<;>first|exact ho.elim|skip
   exact⟨.r,e',n',H',ρ',hK,trivial,M',he',st'⟩
  |x j=>
   cases ex<;>first|exact ho.elim|skip
   rename_i j';have ho:j=j':=ho;subst ho;have hK:(bif Nat.beq i j then K .n e' n' H' else K (.x j) e' n' H'):=hK;by_cases hij:i=j
   ·subst hij;rw[Nat.beq_refl]at hK;exact iZ ⟨.n,e',n',H',ρ',hK,trivial,M',he',st'⟩
   ·rw[dt hij]at hK;exact DP (dt fun h=>hij h.symm) ⟨.x j,e',n',H',ρ',hK,rfl,M',he',st'⟩
 |loop x ih=>
  intro e n H K ρ ce w h hc M he st;obtain⟨σ,N,E,Mh,I,μ,⟨φ,s,hI,hle⟩,hb⟩:=(show yZ b (aw T G b x) e n H K from h);obtain⟨H5,l5,hle,M5,s5,-⟩:=fX hle M;obtain⟨ρ1,M1,he1,oR⟩:=uO M5 (he.step s5) hle (st.trans s5);refine xp (fun m ce w=> ∃s ρ',I s∧μ s=m∧bH U X (· =w) ρ' N (Mh s)∧bc (Vw U X w ρ' N (Mh s)) [] (E s) ce∧cW ρ0 b H0 w0 ρ' N (Mh s) w) (μ s) ⟨s,ρ1,hI,rfl,M1,he1,oR⟩ ?_;rintro m ce w ⟨s,ρ',hI,rfl,M',he',st'⟩;refine mQ (ih _ _ _ _ ρ' ce w (hb s hI) hc M' he' st') ?_;rintro ex ce' w' ⟨o,e2,n2,H2,ρ2,hK,ho,M2,he2,st2⟩;cases o with
  |n=>
   cases ex<;>first|exact ho.elim|skip
   obtain⟨φ,s',hlt,hI',hle⟩:=hK;obtain⟨H6,l6,hle,M6,s6,-⟩:=fX hle M2;obtain⟨ρ3,M3,he3,st3⟩:=uO M6 (he2.step s6) hle (st2.trans s6);exact⟨μ s',hlt,s',ρ3,hI',rfl,M3,he3,st3⟩
  |r=>
   cases ex<;>first|exact ho.elim|skip
   exact⟨.r,e2,n2,H2,ρ2,hK,trivial,M2,he2,st2⟩
  |x i=>
   cases ex<;>first|exact ho.elim|skip
   exact⟨.x i,e2,n2,H2,ρ2,hK,ho,M2,he2,st2⟩
 |rangeFunc f ps a x _ _=>exact fun e n H K ρ ce w h=>h.elim
 |exit i=>exact fun e n H K ρ ce w h _ M he st=>f4 ⟨.x i,e,n,H,ρ,h,rfl,M,he,st⟩
 |scope x _=>exact fun e n H K ρ ce w h=>h.elim
 |label i=>exact fun e n H K ρ ce w h _ M he st=>A9 ⟨.n,e,n,H,ρ,h,trivial,M,he,st⟩
 |goto i=>exact fun e n H K ρ ce w h=>h.elim
 |ret=>exact fun e n H K ρ ce w h _ M he st=>wR ⟨.r,e,n,H,ρ,h,trivial,M,he,st⟩
 |refuse s=>exact fun e n H K ρ ce w h=>h.elim
end
end Go.Proofs.YtmpeiadlohbikaaGreatDoor.V
end

section
set_option linter.unusedVariables false
set_option linter.unusedSimpArgs false
namespace Go.Proofs.YtmpeiadlohbikaaGreatDoor.V
open Go.RowKit
section
variable [ay] {U:cw} {P:Program} {nt:Nat} {T:dO U} {G:jm U} {X:List Nat} {w w' w0:World} {ρ ρ0:Nat→Rz} {n n0 b:Nat} {H H' H0:Hs U} {R e e':En U} {ce:aS} {o:Oper} {S:List Nat} {L:List Nat} {es:List (aU U)} {fn:Func}
def Mx(P:Program)(ce:aS)(w:World):List ResultVar→List Value→Prop
 | [],[]=>True
 |r::l,v::vs=>Rv P ce w r v∧Mx P ce w l vs
 |_,_=>False
theorem ry(hT:bK U P T)(M:bH U X (· =w) ρ n H)(he:bc (Vw U X w ρ n H) [] e ce): ∀{l:List ResultVar} {K:List (Va U)→Prop},y0 T l e H K→ ∃xs,K xs∧ ∃vs,Mx P ce w l vs∧cx (Vw U X w ρ n H) xs vs
 | [],K,h=>⟨[],h,[],trivial,rfl⟩
 | .tmp t::l,K,h=>by
  have h:lL [] [] e (.tmp t) fun v=>y0 T l e H fun l=>K (v::l):=h;obtain⟨x,h,hx⟩:=dT h he;obtain⟨u,e1,h1⟩:=hx eO;obtain⟨xs,h,vs,h2,h3⟩:=ry hT M he h;exact⟨_,h,u::vs,⟨e1,h2⟩,u,vs,rfl,h1,h3⟩
 | .cell p t::l,K,h=>by
  have h:jn [] [] e (.tmp p) fun c=>sD T t H c fun v=>y0 T l e H fun l=>K (v::l):=h;obtain⟨c,h,hc⟩:=bU h he;obtain⟨x,h,hx⟩:=sR (P:=P) h M hT;obtain⟨u0,e1,h1⟩:=hc eO;obtain⟨A,u,rfl,h4,h5⟩:=hx u0 h1;obtain⟨xs,h,vs,h2,h3⟩:=ry hT M he h;exact⟨_,h,u::vs,⟨⟨A,e1,h5 w rfl⟩,h2⟩,u,vs,rfl,h4,h3⟩
def Jo:List Value→Value
 | [v]=>v
 |vs=> .tuple vs.toArray
omit [ay]in
theorem He(hl:Nat.ble fn.results.toList.length 3=true){vs:List Value}(h:Mx P ce w fn.results.toList vs):B0 P nt fn ce w (Jo vs):=by
 have hle:=Nat.le_of_ble_eq_true hl;have hr:fn.results=fn.results.toList.toArray:=by simp
 generalize fn.results.toList=l at*;match l,vs,h,hle with
 | [],[],_,_=>exact Oq hr
 | [r],[v],⟨h1,_⟩,_=>exact JU hr h1
 | [r,s],[v,u],⟨h1,h2,_⟩,_=>exact JV hr h1 h2
 | [r,s,t],[v,u,x],⟨h1,h2,h3,_⟩,_=>exact JW hr h1 h2 h3
 |_::_::_::_::_,_,_,h=>simp at h
 | [],_::_,h,_=>exact h.elim
 | [_],[],h,_=>exact h.elim
 | [_],_::_::_,h,_=>exact h.2.elim
 | [_,_],[],h,_=>exact h.elim
 | [_,_],[_],h,_=>exact h.2.elim
 | [_,_],_::_::_::_,h,_=>exact h.2.2.elim
 | [_,_,_],[],h,_=>exact h.elim
 | [_,_,_],[_],h,_=>exact h.2.elim
 | [_,_,_],[_,_],h,_=>exact h.2.2.elim
 | [_,_,_],_::_::_::_::_,h,_=>exact h.2.2.2.elim
omit [ay]in
theorem C7{V:Cx U→List Value→Prop}{xs:List (Va U)}{vs:List Value}{K:AV U→Prop}(h:GL xs K)(hv:cx V xs vs): ∃r,K r∧pZ V r (Jo vs):=by
 match xs,vs,hv with
 | [],vs,hv=>rw[show vs= []from hv];exact⟨_,h,[],rfl,rfl⟩
 | [x],vs,hv=>
  obtain⟨v,us,rfl,h1,h2⟩:=hv;rw[show us= []from h2];exact⟨_,h,h1⟩
 |x::y::r,vs,hv=>
  obtain⟨v,us,rfl,h1,h2⟩:=hv;obtain⟨u,us',rfl,h3,h4⟩:=h2;exact⟨_,h,v::u::us',rfl,v,_,rfl,h1,u,_,rfl,h3,h4⟩
omit [ay]in
theorem wC: ∀{k j:Nat} {L:List Nat},xG j k L=true→ ∀i,i<k→L[i]? =some (j+i)
 |0,j,L,h,i,hi=>absurd hi (Nat.not_lt_zero _)
 |k+1,j,[],h,i,hi=>by cases h
 |k+1,j,a::r,h,i,hi=>by
  have h:(bif Nat.beq a j then xG (j+1) k r else false)=true:=h;cases hb:Nat.beq a j with
  |false=>rw[hb]at h;cases h
  |true=>
   rw[hb]at h;cases i with
   |zero=>rw[Nat.eq_of_beq_eq_true hb];rfl
   |succ i=>
    have:=wC h i (by omega);rw[List.getElem?_cons_succ,this];congr 1;omega
theorem bn.subY{Y Y':List Nat}(hY: ∀y∈Y',y∈Y){x:Cx U}{vs:List Value}(h:bn U Y (· =w) ρ n H x vs):bn U Y' (· =w) ρ n H x vs:=by
 have mv:Mv Y (· =w) Y' (· =w):=fun w2 h2=>⟨w2,[],h2,Fr.refl _ _,fun _ h=>(by cases h),fun y hy=> .inl (hY y hy)⟩;cases x with
 |d s t=>exact aK.mv mv h
 |pd s t=>obtain⟨g,b,us,e,hd,hr⟩:=h;exact⟨g,b,us,e,aK.mv mv hd,hr.mv mv⟩
 |f1 a g=>obtain⟨u,e,hf⟩:=h;exact⟨u,e,hf.mv mv⟩
 |f2 a b g=>obtain⟨u,e,hf⟩:=h;exact⟨u,e,hf.mv mv⟩
 |_=>exact h
theorem bH.subX{X':List Nat}(M:bH U X (· =w) ρ n H)(hX: ∀x∈X',x∈X)(hx: ∀z∈ay.xf,z∈X'):bH U X' (· =w) ρ n H:=by
 have hY: ∀y∈ao ρ H++X',y∈ao ρ H++X:=fun y hy=>by
  rcases List.mem_append.1 hy with h|h
  ·exact List.mem_append_left _ h
  ·exact List.mem_append_right _ (hX y h)
 have mv:Mv (ao ρ H++X) (· =w) (ao ρ H++X') (· =w):=fun w2 h2=>⟨w2,[],h2,Fr.refl _ _,fun _ h=>(by cases h),fun y hy=> .inl (hY y hy)⟩;refine⟨M.nd,M.lt,fun p hp=>?_,M.inj,fun g hg hx=>M.dj g hg (hX g hx),fun w2 h2 x hx=>M.lo w2 h2 x (hX x hx),hx,M.gv⟩;have h:=M.ent p hp;obtain⟨i,x⟩:=p;cases x with
 |cells l t=>obtain⟨g,vs,hA,hs,hw⟩:=h;exact⟨g,vs,hA,hs.imp fun _ _ h=>bn.subY hY h,hw⟩
 |row v s xs t=>obtain⟨hm,cs,sp,hd,ho,hw⟩:=h;exact⟨hm,cs,sp,ba.mv mv hd,ho,hw⟩
 |map d l=>obtain⟨hk,g,es,clock,m,hA,hm,hd,hw⟩:=h;exact⟨hk,g,es,clock,m,hA,hm,aJ.mv mv hd,hw⟩
 |mapr d l r q0 q=>obtain⟨hk,g,es,clock,m,lv,cv,hA,hm,hd,hl,hc,hw⟩:=h;exact⟨hk,g,es,clock,m,lv,cv,hA,hm,aJ.mv mv hd,aJ.mv mv hl,aJ.mv mv hc,hw⟩
 |it k q=>obtain⟨r,g,hA,hA2,hk,hrk,hw⟩:=h;exact⟨r,g,hA,hA2,hk,hrk,hw⟩
 |frz v s xs=>obtain⟨hm,cs,hd,hr,h1,h2⟩:=h;exact⟨hm,cs,ba.mv mv hd,hr.mv mv,h1,h2⟩
 |clo f l=>trivial
 |hid v l m=>trivial
 |dead=>trivial
theorem C8(hT:bK U P T){md:List Md}{em:List (Nat×List (Nat×Option bq))}{K:AV U→List (aU U)→Prop}{ou:II}(h:Jf T fn md em b K ou e n H)(M:bH U X (· =w) ρ n H)(he:bc (Vw U X w ρ n H) [] e ce)(st:cW ρ0 b H0 w0 ρ n H w):
  ∃v,B0 P nt fn ce w v∧ ∃r es' ρ',K r es'∧pZ (Vw U X w ρ' es'.length (aV 0 es')) r v∧bH U X (· =w) ρ' es'.length (aV 0 es')∧cW ρ0 b H0 w0 ρ' es'.length (aV 0 es') w:=by
 have h:bif Nat.ble fn.results.toList.length 3 then y0 T fn.results.toList e H fun l=>IF md l H fun H=>LR em H fun H=>EU md l H fun H l=>Cf (xA H 30 0 (xB H l (List.range b))) fun L=>bif nR L&&xG 0 b L then sL false H L l fun l=>sK false H L L fun es=>GL l fun r=>K r es else False else False:=by
  cases ou<;>first|exact h|exact h.elim
 cases hb3:Nat.ble fn.results.toList.length 3 with
 |false=>rw[hb3]at h;exact h.elim
 |true=>
  rw[hb3]at h;simp only[cond_true]at h;obtain⟨xs,h,vs,hrv,hvs⟩:=ry hT M he h;obtain⟨Ha,h,Ma,sa⟩:=j4 h M;obtain⟨Hb,h,Mb,sb⟩:=zt h Ma;obtain⟨H1,xs1,h,M1,s2,c1⟩:=m5 h Mb;have s1:=(sa.trans sb).trans s2;have hvs:cx (Vw U X w ρ n Hb) xs vs:=cx.imp (fun _ _ h=>h.step (sa.trans sb)) hvs;have h:=rh h;generalize hLe:xA H1 30 0 (xB H1 xs1 (List.range b))=L at h;clear hLe;cases hb:(nR L&&xG 0 b L)with
  |false=>rw[hb]at h;exact h.elim
  |true=>
   rw[hb]at h;simp only[cond_true]at h;rw[Bool.and_eq_true]at hb;have hL:=lY hb.1;have hpre: ∀i,i<b→L[i]? =some i:=fun i hi=>by have:=wC hb.2 i hi;rwa [Nat.zero_add]at this
   obtain⟨ys,h,hys⟩:=oK M1.i h;obtain⟨es,h,hl,hes⟩:=oM M1.i h;have rel:=jO.of hl hes;have hY:=uK (X:=X) hl hes;have Mc:=wq M1.i (fun z hz=>hz) rfl (fun z hz=>List.mem_filter.2 ⟨List.mem_append_right _ (M1.xs z hz),by simpa using fun h=>M1.dj z (fz hl hes z h) (M1.xs z hz)⟩) hL hl hes;have XinXo: ∀g∈X,g∈Xo ρ H1 X (gk ρ L) (aV 0 es):=fun g hg=>List.mem_filter.2 ⟨List.mem_append_right _ hg,by simpa using fun h=>M1.dj g (fz hl hes g h) hg⟩;have hv:=hys es (ao (gk ρ L) (aV 0 es)++X) (fun y hy=>by
    rcases List.mem_append.1 hy with h|h
    ·exact List.mem_append_left _ (fz hl hes y h)
    ·exact List.mem_append_right _ h) rel _ (c1 _ hvs)
   obtain⟨r,hK,hr⟩:=C7 h hv;have oR:=st.trans s1;refine⟨_,He hb3 hrv,r,es,gk ρ L,hK,hr,Mc.subX XinXo M.xs,?_⟩;refine⟨oR.xd,?_,oR.fr,fun g hg=>oR.nb g (fz hl hes g hg),fun i hi v' l' m' hrow=>?_,fun i hi hrow=>?_⟩
   ·rcases Nat.eq_zero_or_pos b with h0|h0
    ·omega
    ·have:=bZ (hpre (b - 1) (by omega));omega
   ·rw[ff]at hrow;obtain⟨x,y,a1,a2,a3⟩:=hes i i (hpre i hi);rw[a2]at hrow;obtain⟨v,b1,b2⟩:=a3.row.1 _ _ _ hrow;obtain⟨v0,l0,m0,d1,d2,d3⟩:=oR.row i hi v l' m' (by rw[a1];exact b1);have hvv:v'=v:=b2;subst hvv;refine⟨v0,l0,m0,d1,d2,fun h=>?_⟩;obtain⟨f1,f2⟩:=d3 h;exact⟨by rw[cS (hpre i hi)];exact f1,f2⟩
   ·rw[cS (hpre i hi)];exact oR.cel i hi hrow
def uQ:Nat→List (Va U)→En U
 |_,[]=> []
 |i,x::r=>(i,.v x)::uQ (i+1) r
omit [ay]in
theorem rz{V:Cx U→List Value→Prop}: ∀{xs:List (Va U)} {vs:List Value} {i:Nat},cx V xs vs→ ∀k av,aI (uQ i xs) k=some av→ ∃x u,av= .v x∧(dX i vs).get k=some u∧de V x u
 | [],vs,i,h,k,av,hk=>by cases hk
 |x::r,vs,i,h,k,av,hk=>by
  obtain⟨v,us,rfl,h1,h2⟩:=h;by_cases e1:i=k
  ·subst e1;have hk:aI ((i,AV.v x)::uQ (i+1) r) i=some av:=hk;rw[si]at hk;injection hk with hk;exact⟨x,v,hk.symm,rv,h1⟩
  ·have hk:aI ((i,AV.v x)::uQ (i+1) r) k=some av:=hk;rw[gP e1]at hk;obtain⟨y,u,a,b,c⟩:=rz h2 k av hk;refine⟨y,u,a,?_,c⟩;show aS.get ((i,v)::dX (i+1) us) k=some u
   rw[ll e1];exact b
omit [ay]in
theorem cx.length{V:Cx U→List Value→Prop}: ∀{xs:List (Va U)} {vs:List Value},cx V xs vs→vs.length=xs.length
 | [],vs,h=>by rw[show vs= []from h];rfl
 |x::r,vs,h=>by obtain⟨v,us,rfl,_,h2⟩:=h;simp[cx.length h2]
omit [ay]in
theorem Jp{f:FuncId}{c:bG U}{code:Code}(hG:lj P U G)(hT:bK U P T)(hmo:P.follows .mixedOrders=true)(nt:Nat)(md:List Md)(em:List (Nat×List (Nat×Option bq)))(hen:bu P f=true)(hf:P.funcs[f]? =some fn)(hb:fn.body=some code)(hn:fn.ntmps=nt)(hcd:xL nt code=true)
  (h: ∀xs es K,c.run xs es K→Nat.ble xs.length nt=true∧GM T G fn md em (uQ 0 xs) es.length (aV 0 es) K):dz P U f c:=fun [F:ay] hpr X w ρ es xs vs K M hv hrun=>by
 obtain⟨hlen,hfun⟩:=h xs es K hrun;unfold GM at hfun
 rw[hb]at hfun
 have he:bc (Vw U X w ρ es.length (aV 0 es)) [] (uQ 0 xs) (dX 0 vs):=by
  refine⟨fun k x _ hk=>?_,fun k l _ hk=>?_,fun k p x hk=>by cases hk⟩
  ·obtain⟨y,u,h1,h2,h3⟩:=rz hv k _ hk;injection h1 with h1;subst h1;exact⟨u,h2,h3⟩
  ·obtain⟨y,u,h1,_⟩:=rz hv k _ hk;cases h1
 have hw:=Jn (hG:=⟨hpr,hG⟩) hT hmo code _ _ _ _ ρ _ w hfun hcd M he (M.stp0);refine ki nt hen hf hb hn (by rw[hv.length];exact hlen) (mQ hw ?_);rintro ex ce' w' ⟨o,e',n',H',ρ',hK,ho,M',he',st'⟩;obtain⟨v,hres,r,es',ρ2,h1,h2,h3,h4⟩:=C8 (nt:=nt) hT hK M' he' st';cases ex with
 |normal=>exact fE hres ⟨r,es',ρ2,h1,h2,h3,h4⟩
 |ret=>exact fR hres ⟨r,es',ρ2,h1,h2,h3,h4⟩
 |exit j=>cases o<;>first|exact ho.elim|exact hK.elim
 |_=>cases o<;>exact ho.elim
end
end Go.Proofs.YtmpeiadlohbikaaGreatDoor.V
end

section
set_option linter.unusedVariables false
set_option linter.unusedSimpArgs false
namespace Go.Proofs.YtmpeiadlohbikaaGreatDoor.V
open Go.RowKit
section
variable [ay] {U:cw} {P:Program} {t:Nat} {ti:TI U}
inductive Zc where
 |i (k:IntKind)|b|s|l|p|f|m
def IV:Zc→ck U
 | .i k=>(1,.d (.int k) (0:Int))
 | .b=>(1,.d .bool false)
 | .s=>(1,.d .str ([]:List UInt8))
 | .l=>(1,.nils)
 | .p=>(1,.nilp)
 | .f=>(1,.nilf)
 | .m=>(1,.nilm)
def B3:Zc→Value
 | .i k=> .int k 0
 | .b=> .bool false
 | .s=>sv []
 | .l=> .slice none 0 0
 | .p=> .pointer none
 | .f=> .nilFunc
 | .m=> .map none
theorem IW{Y:List Nat}{S:World→Prop}{ρ:Nat→Rz}{n:Nat}{H:Hs U}: ∀l:List Zc,cg (bn U Y S ρ n H) (l.map IV) (l.map B3)
 | []=>rfl
 |z::r=>by
  refine⟨[B3 z],r.map B3,rfl,by cases z<;>rfl,?_,IW r⟩;cases z with
  |i k=>exact aK.int k 0 (by cases k<;>(unfold eF;omega))
  |b=>exact aK.bool false
  |s=>exact aK.str [] (by decide)
  |_=>rfl
def IX(P:Program)(t f:Nat):Option Nat:=match P.underlying t with|some (.struct fs)=>(fs[f]?).map (·.type)|_=>none
def IY(P:Program)(t:Nat):Nat→List (Nat×Nat)→Bool
 |_,[]=>true
 |f,(off,ft)::r=>decide (eZ P t f=some off)&&decide (IX P t f=some ft)&&IY P t (f+1) r
omit [ay]in
theorem yE: ∀{l:List (Nat×Nat)} {b f off ft:Nat},IY P t b l=true→d9 l f=some (off,ft)→eZ P t (b+f)=some off∧IX P t (b+f)=some ft
 | [],b,f,off,ft,h,hn=>by rw[df]at hn;simp at hn
 |(o,g)::r,b,0,off,ft,h,hn=>by
  simp only[IY,Bool.and_eq_true,decide_eq_true_eq]at h;rw[df]at hn;simp only[List.getElem?_cons_zero,Option.some.injEq,Prod.mk.injEq]at hn;rw[←hn.1,←hn.2];exact h.1
 |(o,g)::r,b,f+1,off,ft,h,hn=>by
  simp only[IY,Bool.and_eq_true,decide_eq_true_eq]at h;rw[df,List.getElem?_cons_succ,←df]at hn;have:=yE h.2 hn;rw[show b+(f+1)=b+1+f by omega];exact this
def IZ(P:Program)(pls:List (Nat×Nat)):Nat→List (Nat×Nat)→Bool
 |_,[]=>true
 |f,(off,ft)::r=>(match pls[f]? with
  |some (o,k)=>decide (o=off)&&decide ((P.info? ft).map (·.size)=some k)
  |none=>false)&&IZ P pls (f+1) r
omit [ay]in
theorem yF{pls:List (Nat×Nat)}: ∀{l:List (Nat×Nat)} {b f off ft:Nat},IZ P pls b l=true→d9 l f=some (off,ft)→ ∃k,pls[b+f]? =some (off,k)∧(P.info? ft).map (·.size)=some k
 | [],b,f,off,ft,h,hn=>by rw[df]at hn;simp at hn
 |(o,g)::r,b,0,off,ft,h,hn=>by
  simp only[IZ,Bool.and_eq_true]at h;rw[df]at hn;simp only[List.getElem?_cons_zero,Option.some.injEq,Prod.mk.injEq]at hn;obtain⟨h,_⟩:=h;split at h
  ·rename_i o' k hk;simp only[Bool.and_eq_true,decide_eq_true_eq]at h;refine⟨k,?_,?_⟩
   ·rw[Nat.add_zero,hk,h.1,hn.1]
   ·rw[←hn.2];exact h.2
  ·cases h
 |(o,g)::r,b,f+1,off,ft,h,hn=>by
  simp only[IZ,Bool.and_eq_true]at h;rw[df,List.getElem?_cons_succ,←df]at hn;have:=yF h.2 hn;rw[show b+(f+1)=b+1+f by omega];exact this
def OQ(P:Program)(t:Nat)(k:Kd)(fs:List (Nat×Nat)):Bool:=match k with
 | .st=>(match mH P t with
  |some pls=>IZ P pls 0 fs
  |none=>false)
 |_=>true
omit [ay]in
theorem aN(l:List Zc)(hz:ti.zero=l.map IV)(hzz:zeroCells P t=some (l.map B3))(hl:l.length=ti.sz)(hsz:(P.info? t).map (·.size)=some ti.sz)(hby:(P.info? t).map (·.bytes)=some ti.by_)(hkd:xH P t ti.kd)(h1:(uu ti.kd||eE P t)=true)
  (hfs:IY P t 0 ti.fs=true) (hpl:OQ P t ti.kd ti.fs=true) (heq: ∀s,ti.sh=some s→ti.cmp=true→uu ti.kd=true∧jS U P t s) (hmp: ∀d,ti.mp=some d→Cu P U d∧P.underlying t=some (.map d.kt d.vt)):bd U P t ti:=
 ⟨hsz,hkd,fun h=>by rw[h]at h1;exact h1,hby,fun f off ft hn=>by have:=yE hfs hn;rw[Nat.zero_add]at this;exact this,fun hk=>(by
  rw[hk]at hpl;unfold OQ at hpl;simp only at hpl;split at hpl
  ·rename_i pls hp;exact⟨pls,hp,fun f off ft hn=>by have:=yF hpl hn;rwa [Nat.zero_add]at this⟩
  ·exact absurd hpl (by decide)),heq,hmp,⟨_,hzz,by rw[List.length_map];exact hl,fun F Y S ρ n H=>by rw[hz];exact IW l⟩⟩
def OR(P:Program)(t:Nat)(ag:Bool):Bool:=match iS P t with
 |some (.agg _)=>ag
 |some _=>!ag
 |none=>false
omit [ay]in
theorem nY{t:Nat}{s:bq}{z:TT U.ty s}(h:bd U P t ti)(hz:du 20 s ti.zero fun x=>x=z)(hb:OR P t (e9 s)=true): ∃v,iS P t=some v∧ ∀Y S,∃vs,ef (e9 s) v vs∧aK U Y S s z vs:=by
 obtain⟨zs,h1,_,h3⟩:=h.zero;have F:ay:=⟨[],P⟩;obtain⟨x,rfl,hx⟩:=bI hz;have hd: ∀Y S,aK U Y S s x zs:=fun Y S=>hx _ _ _ _ _ _ (h3 F Y S (fun _=>⟨none,0⟩) 0 []);unfold OR at hb;unfold zeroCells at h1;unfold iS at hb⊢;cases hi:P.info? t with
 |none=>rw[hi]at h1;cases h1
 |some inf=>
  rw[hi]at h1 hb;simp only[Option.bind_some]at h1 hb⊢;cases hv:inf.zero with
  |none=>rw[hv]at h1;cases h1
  |some v=>
   rw[hv]at h1 hb;simp only[Option.map_some,Option.some.injEq]at h1;refine⟨v,rfl,fun Y S=>⟨zs,?_,hd Y S⟩⟩;unfold ef;cases v with
   |agg cs=>
    have hb:e9 s=true:=hb;rw[hb];rw[←h1];simp[Value.cells]
   |_=>
    have hb:(!e9 s)=true:=hb;have hb:e9 s=false:=by simpa using hb
    rw[hb];rw[←h1];rfl
omit [ay]in
theorem yG{α:Type} [DecidableEq α]{kt:TypeId}{enc:α→List Value}(hu: ∃fs,P.underlying kt=some (.struct fs))(hv:(bJ P kt).isSome=true)(heq: ∀x y,∃r,bg P 8 kt (enc x) (enc y)=some r∧(r=true↔x=y))
  (hchk: ∀em x w,(Instr.checkKey em 10000 kt (.agg (enc x).toArray)).run P w= .ok () w) (hfl: ∀x,(enc x).all ug=true):fI P kt (fun x=> .agg (enc x).toArray):=by
 obtain⟨fs,hu⟩:=hu;refine fI.agg hu (fun _ _=>rfl) (by intro h;rw[h]at hv;cases hv) (fun x y=>?_) hchk fun x v hv=>List.all_eq_true.1 (hfl x) v hv;obtain⟨r,h1,h2⟩:=heq x y;rw[h1];congr 1;rw[Bool.eq_iff_iff,h2];simp
omit [ay]in
theorem jX{Y:List Nat}{S:World→Prop}{k:IntKind}: ∀{xs:List Int} {vs:List Value},ba U Y S (.int k) xs vs→vs=xs.map (Value.int k)
 | [],vs,h=>by cases h;rfl
 |x::xs,vs,h=>by
  cases h with
  |cons _ _ _ v1 v2 hd _ hl=>rw[(aK.inv hd).1,jX hl];rfl
omit [ay]in
theorem B4:bK U P []:=fun t ti h=>by cases h
omit [ay]in
theorem au{T:dO U}{t:Nat}{ti:TI U}(h:bd U P t ti)(hT:bK U P T):bK U P ((t,ti)::T):=fun t' ti' h'=>by
 by_cases e:t=t'
 ·subst e;rw[si]at h';injection h' with h';subst h';exact h
 ·rw[gP e]at h';exact hT t' ti' h'
omit [ay]in
theorem aq:lj P U []:=fun f k h=>by cases h
omit [ay]in
theorem aa{G:jm U}{f:Nat}{c:bG U}(h:dz P U f c)(hG:lj P U G):lj P U ((f,c)::G):=fun f' c' h'=>by
 by_cases e:f=f'
 ·subst e;rw[si]at h';injection h' with h';subst h';exact h
 ·rw[gP e]at h';exact hG f' c' h'
end
end Go.Proofs.YtmpeiadlohbikaaGreatDoor.V
end

section
set_option linter.unusedVariables false
namespace Go.Proofs.YtmpeiadlohbikaaGreatDoor.V
open Go.RowKit
theorem iD{p:Prop} [Decidable p]:decide p=true↔p:=decide_eq_true_iff
theorem iB{b:Bool}:b=true↔b=true:=Iff.rfl
theorem iA{a b:Bool}{P Q:Prop}(h1:a=true↔P)(h2:b=true↔Q):(a&&b)=true↔P∧Q:=by rw[Bool.and_eq_true,h1,h2]
theorem iO{a b:Bool}{P Q:Prop}(h1:a=true↔P)(h2:b=true↔Q):(a||b)=true↔P∨Q:=by rw[Bool.or_eq_true,h1,h2]
theorem iN{a:Bool}{P:Prop}(h1:a=true↔P):(!a)=true↔ ¬P:=by rw[←h1];simp
theorem iP{c a b:Bool}{C P Q:Prop} [Decidable C](h0:c=true↔C)(h1:a=true↔P)(h2:b=true↔Q):(bif c then a else b)=true↔(if C then P else Q):=by
 cases c with
 |true=>rw[if_pos (h0.1 rfl)];exact h1
 |false=>rw[if_neg (fun h=>by have:=h0.2 h;cases this)];exact h2
theorem vI{α:Type}{f x y:α}{b:Bool}{P:Prop} [Decidable P]{A B:Prop}(hf:f=if P then x else y)(hb:b=true↔P)(h1:P→f=x→A)(h2: ¬P→f=y→B):yJ b A B:=
 ⟨fun h=>h1 (hb.1 h) (hf.trans (if_pos (hb.1 h))),fun h=>have hn: ¬P:=fun hp=>by(rw[hb.2 hp]at h;cases h)
  h2 hn (hf.trans (if_neg hn))⟩
theorem vN{α:Type}{f x y:α}{b:Bool}{P:Prop} [Decidable P]{A B:Prop}(hf:f=if P then x else y)(hb:b=true↔ ¬P)(h1: ¬P→f=y→A)(h2:P→f=x→B):yJ b A B:=
 ⟨fun h=>h1 (hb.1 h) (hf.trans (if_neg (hb.1 h))),fun h=>have hn:P:=Classical.byContradiction fun hp=>by(rw[hb.2 hp]at h;cases h)
  h2 hn (hf.trans (if_pos hn))⟩
theorem vT{b:Bool}{P A B:Prop}(hb:b=true↔P)(h:P)(k:A):yJ b A B:=⟨fun _=>k,fun h'=>by rw[hb.2 h]at h';cases h'⟩
theorem vF{b:Bool}{P A B:Prop}(hb:b=true↔P)(h: ¬P)(k:B):yJ b A B:=⟨fun h'=>absurd (hb.1 h') h,fun _=>k⟩
theorem vR{b:Bool}{P A B:Prop}(hb:b=true↔P)(h1:P→A)(h2: ¬P→B):yJ b A B:=⟨fun h=>h1 (hb.1 h),fun h=>h2 (fun hp=>by rw[hb.2 hp]at h;cases h)⟩
theorem a8{p q r:Int}(h:0≤p→p≤255→0≤q→q≤255→0≤r∧r≤255):eF .u8 p→eF .u8 q→eF .u8 r:=fun h1 h2=>h h1.1 h1.2 h2.1 h2.2
theorem qU{p q r:Int}(h: -9223372036854775808≤p→p≤9223372036854775807→ -9223372036854775808≤q→q≤9223372036854775807→ -9223372036854775808≤r∧r≤9223372036854775807):eF .i64 p→eF .i64 q→eF .i64 r:=fun h1 h2=>h h1.1 h1.2 h2.1 h2.2
def cY{σ β:Type}(μ:σ→Nat)(inv:σ→Prop)(L:Nat→σ→β)(X:β)(s:σ):Prop:= ∃c,μ s<c+1∧inv s∧X=L (c+1) s
theorem cY.mk0{σ β:Type}{μ:σ→Nat}{inv:σ→Prop}{L:Nat→σ→β}{X:β}{s:σ}(c:Nat)(h:μ s<c+1)(hi:inv s)(hX:X=L (c+1) s):cY μ inv L X s:=⟨c,h,hi,hX⟩
theorem cY.next{σ β:Type}{μ:σ→Nat}{inv:σ→Prop}{L:Nat→σ→β}{X:β}{s s':σ}{c:Nat}(h:μ s<c+1)(h':μ s'<μ s)(hi:inv s')(hX:X=L c s'):cY μ inv L X s':=by
 cases c with
 |zero=>omega
 |succ c=>exact⟨c,by omega,hi,hX⟩
end Go.Proofs.YtmpeiadlohbikaaGreatDoor.V
end

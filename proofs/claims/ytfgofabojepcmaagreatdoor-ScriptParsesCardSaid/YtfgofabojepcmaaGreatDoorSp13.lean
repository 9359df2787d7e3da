/- Ranges over functions: a call of yield, a round's body, the statement, and the functions that hold it. -/
import Derived.Test.YtfgofabojepcmaaGreatDoorSp12
import Derived.Test.YtfgofabojepcmaaGreatDoorSp2
import Derived.Lib.AppendZerosOnto
import Derived.Lib.Overlaps
import Derived.Shelf.Slices.In.SortNone
import Derived.Shelf.GgSortFunc.InsertionK
import Derived.Test.YtfgofabojepcmaaGreatDoorSp1
import Derived.RangeFuncKeeps
import Derived.Lib.AppendStr
import Derived.Lib.ConvBytes
section
set_option linter.unusedVariables false
set_option linter.unusedSectionVars false
set_option linter.unusedSimpArgs false
namespace Go.Proofs.YtfgofabojepcmaaGreatDoor.V
open Go.RowKit
def tD(nt:Nat):Code→Bool
 | .region _ ops _=>(ops.toList.all fun o=>o.dst.all (Nat.blt · nt))&&ops.toList.all pi
 | .seq a b=>tD nt a&&tD nt b
 | .cond _ a b=>tD nt a&&tD nt b
 | .block _ a=>tD nt a
 | .loop a=>tD nt a
 |_=>true
def qH [lV]:Code→Bool
 | .region _ ops _=>ops.toList.all fun o=>sF o.dst
 | .seq a b=>qH a&&qH b
 | .cond _ a b=>qH a&&qH b
 | .block _ a=>qH a
 | .loop a=>qH a
 |_=>true
section
variable [bF] [lV] [al] {U:bJ} [eI U] {bx:Int→Value} {P:Program} {nt:Nat} {T:cH U} {G:bS U} {X:List Nat} {w w' w0:World} {ρ ρ0:Nat→Rz} {n n0 b:Nat} {H H' H0:Hs U} {R e e':En U} {ce:aK} {o:Oper} {S:List Nat}
def BY:EZ→Exit→Prop
 | .n,.normal=>True
 | .r,.ret=>True
 | .x i,.exit j=>i=j
 |_,_=>False
def QK(U:bJ) [eI U](bx:Int→Value)(X:List Nat)(ρ0:Nat→Rz)(b:Nat)(H0:Hs U)(w0:World)(K:KO U):EQ:=fun x ce w=>match x with
 | .panic c=> ∃z e n H ρ ce',c= [{v:=bx z,recovered:=false}]∧ce=lV.pe∧eI.kp z e n H∧bd U X (· =w) ρ n H∧aM (Vw U X w ρ n H) [] e ce'∧bP ρ0 b H0 w0 ρ n H w
 |x=> ∃o e n H ρ,K o e n H∧BY o x∧bd U X (· =w) ρ n H∧aM (Vw U X w ρ n H) [] e ce∧bP ρ0 b H0 w0 ρ n H w
theorem sD{K:KO U}{ex:Exit}(hp: ¬ ∃c,ex= .panic c)(h:QK U bx X ρ0 b H0 w0 K ex ce w): ∃o e n H ρ,K o e n H∧BY o ex∧bd U X (· =w) ρ n H∧aM (Vw U X w ρ n H) [] e ce∧bP ρ0 b H0 w0 ρ n H w:=by
 cases ex with
 |panic c=>exact absurd ⟨c,rfl⟩ hp
 |_=>exact h
theorem FD(hP:DH P U bx (eI.g (U:=U)))(hU:E3 P nt U)(hle: ∀z e n H ρ ce w,eI.kp z e n H→bd U X (· =w) ρ n H→aM (Vw U X w ρ n H) [] e ce→bP ρ0 b H0 w0 ρ n H w→aK.Le lV.pe ce)(hG:c6 P U G)(hT:bl U P T)(hmo:P.follows .mixedOrders=true): ∀(c:Code) (e:En U) (n:Nat) (H:Hs U) (K:KO U) (ρ:Nat→Rz) (ce:aK) (w:World),aw T G b c e n H K→tD nt c=true→qH c=true→bd U X (· =w) ρ n H→aM (Vw U X w ρ n H) [] e ce→bP ρ0 b H0 w0 ρ n H w→Wp P nt c (QK U bx X ρ0 b H0 w0 K) ce w:=by
 have PH: ∀K:KO U,th P nt U bx X ρ0 b H0 w0 (QK U bx X ρ0 b H0 w0 K):=fun K=>⟨hP,hU,fun z e n H ρ ce w hk M he st=>⟨hle z e n H ρ ce w hk M he st,z,e,n,H,ρ,ce,rfl,rfl,hk,M,he,st⟩⟩;intro c;induction c with
 |skip=>exact fun e n H K ρ ce w h _ _ M he st=>dH ⟨.n,e,n,H,ρ,h,trivial,M,he,st⟩
 |region id ops d=>
  intro e n H K ρ ce w h hc hpd M he st;have h:(bif d then u4 T G b ops e n H (K .n)else gL T G ops.toList ops.toList e n H [] [] (K .n)):=h;cases d with
  |true=>
   obtain⟨l⟩:=ops;have hc:((l.all fun o=>o.dst.all (Nat.blt · nt))&&l.all pi)=true:=hc;rw[Bool.and_eq_true]at hc;exact uD (P:=P) (nt:=nt) (Q:=QK U bx X ρ0 b H0 w0 K) hG hT hmo (K:=K .n) (fun e n H ρ ce w hK M he st=>⟨.n,e,n,H,ρ,hK,trivial,M,he,st⟩) (PH K) (fun o ho=>List.all_eq_true.1 hc.1 o ho) (fun o ho=>List.all_eq_true.1 (show(l.all fun o=>sF o.dst)=true from hpd) o ho) hc.2 h M he st
  |false=>
   have hc:((ops.toList.all fun o=>o.dst.all (Nat.blt · nt))&&ops.toList.all pi)=true:=hc;rw[Bool.and_eq_true]at hc;have hL:=rR (P:=P) (nt:=nt) (Q:=QK U bx X ρ0 b H0 w0 K) (all:=ops.toList) hG hT (K:=K .n) (fun e n H ρ ce w hK M he st=>⟨.n,e,n,H,ρ,hK,trivial,M,he,st⟩) (PH K) ops.toList e n H [] [] ρ ce w (fun o ho=>List.all_eq_true.1 hc.1 o ho) h M he ⟨fun k hk=>absurd rfl hk,fun k av hk=>(by cases hk),fun k hk=>absurd rfl hk⟩ st;have:=aW (P:=P) (n:=nt) (id:=id) hL hc.2;simpa using this
 |seq x y ihx ihy=>
  intro e n H K ρ ce w h hc hpd M he st;have hc:(tD nt x&&tD nt y)=true:=hc;rw[Bool.and_eq_true]at hc;have hpd:(qH x&&qH y)=true:=hpd;rw[Bool.and_eq_true]at hpd;refine bi fun K' hK'=>?_;refine kI (ihx e n H (Fs (aw T G b y) K) ρ ce w h hc.1 hpd.1 M he st) ?_;intro ex ce' w' hq;by_cases hpx: ∃c,ex= .panic c
  ·obtain⟨c,rfl⟩:=hpx;exact hq
  obtain⟨o,e',n',H',ρ',hK,ho,M',he',st'⟩:=sD hpx hq;cases o with
  |n=>
   cases ex<;>first|exact ho.elim|skip
   exact hK' _ _ (ihy e' n' H' K ρ' ce' w' hK hc.2 hpd.2 M' he' st')
  |r=>
   cases ex<;>first|exact ho.elim|skip
   exact⟨.r,e',n',H',ρ',hK,trivial,M',he',st'⟩
  |x i=>
   cases ex<;>first|exact ho.elim|skip
   exact⟨.x i,e',n',H',ρ',hK,ho,M',he',st'⟩
 |cond c x y ihx ihy=>
  intro e n H K ρ ce w h hc hpd M he st;have hc:(tD nt x&&tD nt y)=true:=hc;rw[Bool.and_eq_true]at hc;have hpd:(qH x&&qH y)=true:=hpd;rw[Bool.and_eq_true]at hpd;obtain⟨d,h,hd⟩:=bm (show f8 [] [] e c (Dg (aw T G b x) (aw T G b y) e n H K)from h) he;unfold Dg at h;split at h
  ·rename_i t;obtain⟨u,e1,h1⟩:=hd dp;have:=aG.boolE h1;subst this;exact iW e1 (fun ht=>ihx e n H K ρ ce w (h.1 ht) hc.1 hpd.1 M he st) (fun ht=>ihy e n H K ρ ce w (h.2 ht) hc.2 hpd.2 M he st)
  ·exact h.elim
 |block i x ih=>
  intro e n H K ρ ce w h hc hpd M he st;refine cz (kI (ih e n H (Ft i K) ρ ce w h hc hpd M he st) ?_);intro ex ce' w' hq;by_cases hpx: ∃c,ex= .panic c
  ·obtain⟨c,rfl⟩:=hpx;exact hq
  obtain⟨o,e',n',H',ρ',hK,ho,M',he',st'⟩:=sD hpx hq;cases o with
  |n=>
   cases ex<;>first|exact ho.elim|skip
   exact⟨.n,e',n',H',ρ',hK,trivial,M',he',st'⟩
  |r=>
   cases ex<;>first|exact ho.elim|skip
   exact⟨.r,e',n',H',ρ',hK,trivial,M',he',st'⟩
  |x j=>
   cases ex<;>first|exact ho.elim|skip
   rename_i j';have ho:j=j':=ho;subst ho;have hK:(bif Nat.beq i j then K .n e' n' H' else K (.x j) e' n' H'):=hK;by_cases hij:i=j
   ·subst hij;rw[Nat.beq_refl]at hK;exact pf ⟨.n,e',n',H',ρ',hK,trivial,M',he',st'⟩
   ·rw[cn hij]at hK;exact AR (cn fun h=>hij h.symm) ⟨.x j,e',n',H',ρ',hK,rfl,M',he',st'⟩
 |loop x ih=>
  intro e n H K ρ ce w h hc hpd M he st;obtain⟨σ,N,E,Mh,I,μ,⟨φ,s,hI,hle⟩,hb⟩:=(show BU b (aw T G b x) e n H K from h);obtain⟨H5,l5,hle,M5,s5,-⟩:=fa hle M;obtain⟨ρ1,M1,he1,mF⟩:=q6 M5 (he.step s5) hle (st.trans s5);refine td (fun m ce w=> ∃s ρ',I s∧μ s=m∧bd U X (· =w) ρ' N (Mh s)∧aM (Vw U X w ρ' N (Mh s)) [] (E s) ce∧bP ρ0 b H0 w0 ρ' N (Mh s) w) (μ s) ⟨s,ρ1,hI,rfl,M1,he1,mF⟩ ?_;rintro m ce w ⟨s,ρ',hI,rfl,M',he',st'⟩;refine kI (ih _ _ _ _ ρ' ce w (hb s hI) hc hpd M' he' st') ?_;intro ex ce' w' hq;by_cases hpx: ∃c,ex= .panic c
  ·obtain⟨c,rfl⟩:=hpx;exact hq
  obtain⟨o,e2,n2,H2,ρ2,hK,ho,M2,he2,st2⟩:=sD hpx hq;cases o with
  |n=>
   cases ex<;>first|exact ho.elim|skip
   obtain⟨φ,s',hlt,hI',hle⟩:=hK;obtain⟨H6,l6,hle,M6,s6,-⟩:=fa hle M2;obtain⟨ρ3,M3,he3,st3⟩:=q6 M6 (he2.step s6) hle (st2.trans s6);exact⟨μ s',hlt,s',ρ3,hI',rfl,M3,he3,st3⟩
  |r=>
   cases ex<;>first|exact ho.elim|skip
   exact⟨.r,e2,n2,H2,ρ2,hK,trivial,M2,he2,st2⟩
  |x i=>
   cases ex<;>first|exact ho.elim|skip
   exact⟨.x i,e2,n2,H2,ρ2,hK,ho,M2,he2,st2⟩
 |rangeFunc f ps a x _ _=>exact fun e n H K ρ ce w h=>h.elim
 |exit i=>exact fun e n H K ρ ce w h _ _ M he st=>lZ ⟨.x i,e,n,H,ρ,h,rfl,M,he,st⟩
 |scope x _=>exact fun e n H K ρ ce w h=>h.elim
 |label i=>exact fun e n H K ρ ce w h _ _ M he st=>xB ⟨.n,e,n,H,ρ,h,trivial,M,he,st⟩
 |goto i=>exact fun e n H K ρ ce w h=>h.elim
 |ret=>exact fun e n H K ρ ce w h _ _ M he st=>wR ⟨.r,e,n,H,ρ,h,trivial,M,he,st⟩
 |refuse s=>exact fun e n H K ρ ce w h=>h.elim
end
end Go.Proofs.YtfgofabojepcmaaGreatDoor.V
end

section
set_option linter.unusedVariables false
set_option linter.unusedSectionVars false
set_option linter.unusedSimpArgs false
namespace Go.Proofs.YtfgofabojepcmaaGreatDoor.V
open Go.RowKit
section
variable [bF] [al] {U:bJ} {P:Program} {nt:Nat} {T:cH U} {G:bS U} {X:List Nat} {w w' w0:World} {ρ ρ0:Nat→Rz} {n n0 b:Nat} {H H' H0:Hs U} {R e e':En U} {ce:aK} {o:Oper} {S:List Nat} {L:List Nat} {es:List (aN U)} {fn:Func}
def IW(P:Program)(ce:aK)(w:World):List ResultVar→List Value→Prop
 | [],[]=>True
 |r::l,v::vs=>Rv P ce w r v∧IW P ce w l vs
 |_,_=>False
theorem oN(hT:bl U P T)(M:bd U X (· =w) ρ n H)(he:aM (Vw U X w ρ n H) [] e ce): ∀{l:List ResultVar} {K:List (Va U)→Prop},u5 T l e H K→ ∃xs,K xs∧ ∃vs,IW P ce w l vs∧bB (Vw U X w ρ n H) xs vs
 | [],K,h=>⟨[],h,[],trivial,rfl⟩
 | .tmp t::l,K,h=>by
  have h:jH [] [] e (.tmp t) fun v=>u5 T l e H fun l=>K (v::l):=h;obtain⟨x,h,hx⟩:=c8 h he;obtain⟨u,e1,h1⟩:=hx dp;obtain⟨xs,h,vs,h2,h3⟩:=oN hT M he h;exact⟨_,h,u::vs,⟨e1,h2⟩,u,vs,rfl,h1,h3⟩
 | .cell p t::l,K,h=>by
  have h:f8 [] [] e (.tmp p) fun c=>pz T t H c fun v=>u5 T l e H fun l=>K (v::l):=h;obtain⟨c,h,hc⟩:=bm h he;obtain⟨x,h,hx⟩:=pL (P:=P) h M hT;obtain⟨u0,e1,h1⟩:=hc dp;obtain⟨A,u,rfl,h4,h5⟩:=hx u0 h1;obtain⟨xs,h,vs,h2,h3⟩:=oN hT M he h;exact⟨_,h,u::vs,⟨⟨A,e1,h5 w rfl⟩,h2⟩,u,vs,rfl,h4,h3⟩
def FE:List Value→Value
 | [v]=>v
 |vs=> .tuple vs.toArray
omit [al]in
theorem DM(hl:Nat.ble fn.results.toList.length 3=true){vs:List Value}(h:IW P ce w fn.results.toList vs):uz P nt fn ce w (FE vs):=by
 have hle:=Nat.le_of_ble_eq_true hl;have hr:fn.results=fn.results.toList.toArray:=by simp
 generalize fn.results.toList=l at*;match l,vs,h,hle with
 | [],[],_,_=>exact Hh hr
 | [r],[v],⟨h1,_⟩,_=>exact qs hr h1
 | [r,s],[v,u],⟨h1,h2,_⟩,_=>exact GZ hr h1 h2
 | [r,s,t],[v,u,x],⟨h1,h2,h3,_⟩,_=>exact G0 hr h1 h2 h3
 |_::_::_::_::_,_,_,h=>simp at h
 | [],_::_,h,_=>exact h.elim
 | [_],[],h,_=>exact h.elim
 | [_],_::_::_,h,_=>exact h.2.elim
 | [_,_],[],h,_=>exact h.elim
 | [_,_],[_],h,_=>exact h.2.elim
 | [_,_],_::_::_::_,h,_=>exact h.2.2.elim
 | [_,_,_],[],h,_=>exact h.elim
 | [_,_,_],[_],h,_=>exact h.2.elim
 | [_,_,_],[_,_],h,_=>exact h.2.2.elim
 | [_,_,_],_::_::_::_::_,h,_=>exact h.2.2.2.elim
omit [al]in
theorem zp{V:Cx U→List Value→Prop}{xs:List (Va U)}{vs:List Value}{K:AV U→Prop}(h:Dk xs K)(hv:bB V xs vs): ∃r,K r∧jg V r (FE vs)∧ ∀z,r≠ .pan z:=by
 match xs,vs,hv with
 | [],vs,hv=>rw[show vs= []from hv];exact⟨_,h,⟨[],rfl,rfl⟩,fun _ q=>nomatch q⟩
 | [x],vs,hv=>
  obtain⟨v,us,rfl,h1,h2⟩:=hv;rw[show us= []from h2];exact⟨_,h,h1,fun _ q=>nomatch q⟩
 |x::y::r,vs,hv=>
  obtain⟨v,us,rfl,h1,h2⟩:=hv;obtain⟨u,us',rfl,h3,h4⟩:=h2;exact⟨_,h,⟨v::u::us',rfl,v,_,rfl,h1,u,_,rfl,h3,h4⟩,fun _ q=>nomatch q⟩
omit [al]in
theorem sE: ∀{k j:Nat} {L:List Nat},tz j k L=true→ ∀i,i<k→L[i]? =some (j+i)
 |0,j,L,h,i,hi=>absurd hi (Nat.not_lt_zero _)
 |k+1,j,[],h,i,hi=>by cases h
 |k+1,j,a::r,h,i,hi=>by
  have h:(bif Nat.beq a j then tz (j+1) k r else false)=true:=h;cases hb:Nat.beq a j with
  |false=>rw[hb]at h;cases h
  |true=>
   rw[hb]at h;cases i with
   |zero=>rw[Nat.eq_of_beq_eq_true hb];rfl
   |succ i=>
    have:=sE h i (by omega);rw[List.getElem?_cons_succ,this];congr 1;omega
theorem aV.subY{Y Y':List Nat}(hY: ∀y∈Y',y∈Y){x:Cx U}{vs:List Value}(h:aV U Y (· =w) ρ n H x vs):aV U Y' (· =w) ρ n H x vs:=by
 have mv:Mv Y (· =w) Y' (· =w):=fun w2 h2=>⟨w2,[],h2,Fr.refl _ _,fun _ h=>(by cases h),fun y hy=> .inl (hY y hy)⟩;cases x with
 |d s t=>exact aG.mv mv h
 |pd s t=>obtain⟨g,b,us,e,hd,hr⟩:=h;exact⟨g,b,us,e,aG.mv mv hd,hr.mv mv⟩
 |f1 a g=>obtain⟨u,e,hf⟩:=h;exact⟨u,e,hf.mv mv⟩
 |f2 a b g=>obtain⟨u,e,hf⟩:=h;exact⟨u,e,hf.mv mv⟩
 |bnd f s t=>obtain⟨u,e,hd⟩:=h;exact⟨u,e,aG.mv mv hd⟩
 |_=>exact h
theorem bd.subX{X':List Nat}(M:bd U X (· =w) ρ n H)(hX: ∀x∈X',x∈X)(hx: ∀z∈al.xf,z∈X'):bd U X' (· =w) ρ n H:=by
 have hY: ∀y∈aj ρ H++X',y∈aj ρ H++X:=fun y hy=>by
  rcases List.mem_append.1 hy with h|h
  ·exact List.mem_append_left _ h
  ·exact List.mem_append_right _ (hX y h)
 have mv:Mv (aj ρ H++X) (· =w) (aj ρ H++X') (· =w):=fun w2 h2=>⟨w2,[],h2,Fr.refl _ _,fun _ h=>(by cases h),fun y hy=> .inl (hY y hy)⟩;refine⟨M.nd,M.lt,fun p hp=>?_,M.inj,fun g hg hx=>M.dj g hg (hX g hx),fun w2 h2 x hx=>M.lo w2 h2 x (hX x hx),hx,M.gv⟩;have h:=M.ent p hp;obtain⟨i,x⟩:=p;cases x with
 |cells l t=>obtain⟨g,vs,hA,hs,hw⟩:=h;exact⟨g,vs,hA,hs.imp fun _ _ h=>aV.subY hY h,hw⟩
 |row v s xs t=>obtain⟨hm,cs,sp,hd,ho,hw⟩:=h;exact⟨hm,cs,sp,ba.mv mv hd,ho,hw⟩
 |map d l=>obtain⟨hk,g,es,clock,m,hA,hm,hd,hw⟩:=h;exact⟨hk,g,es,clock,m,hA,hm,aH.mv mv hd,hw⟩
 |mapr d l r q0 q=>obtain⟨hk,g,es,clock,m,lv,cv,hA,hm,hd,hl,hc,hw⟩:=h;exact⟨hk,g,es,clock,m,lv,cv,hA,hm,aH.mv mv hd,aH.mv mv hl,aH.mv mv hc,hw⟩
 |it k q=>obtain⟨r,g,hA,hA2,hk,hrk,hw⟩:=h;exact⟨r,g,hA,hA2,hk,hrk,hw⟩
 |its k q=>obtain⟨h1,h2,r,hA,hw⟩:=h;exact⟨h1,h2,r,hA,hw⟩
 |frz v s xs=>obtain⟨hm,cs,hd,hr,h1,h2⟩:=h;exact⟨hm,cs,ba.mv mv hd,hr.mv mv,h1,h2⟩
 |ext v d xs op=>obtain⟨C,hd,hw,ho⟩:=h;exact⟨C,d.mv mv.fr hd,hw,ho.imp fun _ _ h=>aV.subY hY h⟩
 |clo f l=>trivial
 |hid v l m=>trivial
 |dead=>trivial
theorem zq(hT:bl U P T){md:List Md}{em:List (Nat×List (Nat×Option bj))}{K:AV U→List (aN U)→Prop}{ou:EZ}(h:Fx T fn md em b K ou e n H)(M:bd U X (· =w) ρ n H)(he:aM (Vw U X w ρ n H) [] e ce)(st:bP ρ0 b H0 w0 ρ n H w):
  ∃v,uz P nt fn ce w v∧ ∃r es' ρ',(∀z,r≠ .pan z)∧K r es'∧jg (Vw U X w ρ' es'.length (aJ 0 es')) r v∧bd U X (· =w) ρ' es'.length (aJ 0 es')∧bP ρ0 b H0 w0 ρ' es'.length (aJ 0 es') w:=by
 have h:bif Nat.ble fn.results.toList.length 3 then u5 T fn.results.toList e H fun l=>EW md l H fun H=>Ir em H fun H=>BR md l H fun H l=>yu (tp H 30 0 (tq H l (List.range b))) fun L=>bif lJ L&&tz 0 b L then pH false H L l fun l=>pG false H L L fun es=>Dk l fun r=>K r es else False else False:=by
  cases ou<;>first|exact h|exact h.elim
 cases hb3:Nat.ble fn.results.toList.length 3 with
 |false=>rw[hb3]at h;exact h.elim
 |true=>
  rw[hb3]at h;simp only[cond_true]at h;obtain⟨xs,h,vs,hrv,hvs⟩:=oN hT M he h;obtain⟨Ha,h,Ma,sa⟩:=im h M;obtain⟨Hb,h,Mb,sb⟩:=vG h Ma;obtain⟨H1,xs1,h,M1,s2,c1⟩:=kV h Mb;have s1:=(sa.trans sb).trans s2;have hvs:bB (Vw U X w ρ n Hb) xs vs:=bB.imp (fun _ _ h=>h.step (sa.trans sb)) hvs;have h:=oz h;generalize hLe:tp H1 30 0 (tq H1 xs1 (List.range b))=L at h;clear hLe;cases hb:(lJ L&&tz 0 b L)with
  |false=>rw[hb]at h;exact h.elim
  |true=>
   rw[hb]at h;simp only[cond_true]at h;rw[Bool.and_eq_true]at hb;have hL:=jW hb.1;have hpre: ∀i,i<b→L[i]? =some i:=fun i hi=>by have:=sE hb.2 i hi;rwa [Nat.zero_add]at this
   obtain⟨ys,h,hys⟩:=mt M1.i h;obtain⟨es,h,hl,hes⟩:=mw M1.i h;have rel:=gX.of hl hes;have hY:=qZ (X:=X) hl hes;have Mc:=sf M1.i (fun z hz=>hz) rfl (fun z hz=>List.mem_filter.2 ⟨List.mem_append_right _ (M1.xs z hz),by simpa using fun h=>M1.dj z (ep hl hes z h) (M1.xs z hz)⟩) hL hl hes;have XinXo: ∀g∈X,g∈Xo ρ H1 X (fm ρ L) (aJ 0 es):=fun g hg=>List.mem_filter.2 ⟨List.mem_append_right _ hg,by simpa using fun h=>M1.dj g (ep hl hes g h) hg⟩;have hv:=hys es (aj (fm ρ L) (aJ 0 es)++X) (fun y hy=>by
    rcases List.mem_append.1 hy with h|h
    ·exact List.mem_append_left _ (ep hl hes y h)
    ·exact List.mem_append_right _ h) rel _ (c1 _ hvs)
   obtain⟨r,hK,hr,hnp⟩:=zp h hv;have mF:=st.trans s1;refine⟨_,DM hb3 hrv,r,es,fm ρ L,hnp,hK,hr,Mc.subX XinXo M.xs,?_⟩;refine⟨mF.xd,?_,mF.fr,fun g hg=>mF.nb g (ep hl hes g hg),fun i hi v' l' m' hrow=>?_,fun i hi hrow=>?_⟩
   ·rcases Nat.eq_zero_or_pos b with h0|h0
    ·omega
    ·have:=bC (hpre (b - 1) (by omega));omega
   ·rw[dJ]at hrow;obtain⟨x,y,a1,a2,a3⟩:=hes i i (hpre i hi);rw[a2]at hrow;obtain⟨v,b1,b2⟩:=a3.row.1 _ _ _ hrow;obtain⟨v0,l0,m0,d1,d2,d3⟩:=mF.row i hi v l' m' (by rw[a1];exact b1);have hvv:v'=v:=b2;subst hvv;refine⟨v0,l0,m0,d1,d2,fun h=>?_⟩;obtain⟨f1,f2⟩:=d3 h;exact⟨by rw[bQ (hpre i hi)];exact f1,f2⟩
   ·rw[bQ (hpre i hi)];exact mF.cel i hi hrow
def q8:Nat→List (Va U)→En U
 |_,[]=> []
 |i,x::r=>(i,.v x)::q8 (i+1) r
omit [al]in
theorem oO{V:Cx U→List Value→Prop}: ∀{xs:List (Va U)} {vs:List Value} {i:Nat},bB V xs vs→ ∀k av,aB (q8 i xs) k=some av→ ∃x u,av= .v x∧(dL i vs).get k=some u∧ct V x u
 | [],vs,i,h,k,av,hk=>by cases hk
 |x::r,vs,i,h,k,av,hk=>by
  obtain⟨v,us,rfl,h1,h2⟩:=h;by_cases e1:i=k
  ·subst e1;have hk:aB ((i,AV.v x)::q8 (i+1) r) i=some av:=hk;rw[ow]at hk;injection hk with hk;exact⟨x,v,hk.symm,oL,h1⟩
  ·have hk:aB ((i,AV.v x)::q8 (i+1) r) k=some av:=hk;rw[fB e1]at hk;obtain⟨y,u,a,b,c⟩:=oO h2 k av hk;refine⟨y,u,a,?_,c⟩;show aK.get ((i,v)::dL (i+1) us) k=some u
   rw[jt e1];exact b
omit [al]in
theorem bB.length{V:Cx U→List Value→Prop}: ∀{xs:List (Va U)} {vs:List Value},bB V xs vs→vs.length=xs.length
 | [],vs,h=>by rw[show vs= []from h];rfl
 |x::r,vs,h=>by obtain⟨v,us,rfl,_,h2⟩:=h;simp[bB.length h2]
theorem Mg(c:Code): @qH pes0 c=true:=by
 induction c with
 |region _ ops _=>
  show(ops.toList.all fun o=> @sF pes0 o.dst)=true
  rw[List.all_eq_true];intro o _;unfold sF;cases o.dst<;>rfl
 |seq a b iha ihb=>show(@qH pes0 a&& @qH pes0 b)=true;rw[iha,ihb];rfl
 |cond _ a b iha ihb=>show(@qH pes0 a&& @qH pes0 b)=true;rw[iha,ihb];rfl
 |block _ a ih=>exact ih
 |loop a ih=>exact ih
 |_=>rfl
omit [bF] [al]in
theorem aT{f:FuncId}{c:bZ U}{code:Code}(hG:ay P U G)(hT:bl U P T)(hmo:P.follows .mixedOrders=true)(nt:Nat)(md:List Md)(em:List (Nat×List (Nat×Option bj)))(hen:bI P f=true)(hf:P.funcs[f]? =some fn)(hb:fn.body=some code)(hn:fn.ntmps=nt)(hcd:tD nt code=true)
  (h: ∀xs es K,c.run xs es K→Nat.ble xs.length nt=true∧Dl T G fn md em (q8 0 xs) es.length (aJ 0 es) K):aQ P U f c:=fun [F:al] hpr X w ρ es xs vs K M hv hrun=>by
 obtain⟨hlen,hfun⟩:=h xs es K hrun;unfold Dl at hfun
 rw[hb]at hfun
 have he:aM (Vw U X w ρ es.length (aJ 0 es)) [] (q8 0 xs) (dL 0 vs):=by
  refine⟨fun k x _ hk=>?_,fun k l _ hk=>?_,fun k p x hk=>by cases hk⟩
  ·obtain⟨y,u,h1,h2,h3⟩:=oO hv k _ hk;injection h1 with h1;subst h1;exact⟨u,h2,h3⟩
  ·obtain⟨y,u,h1,_⟩:=oO hv k _ hk;cases h1
 have hw:= @FD dfs0 pes0 F U panNone (fun _=> .nilIface) P nt T G X w ρ es.length (aJ 0 es) (fun f c h=>(by cases h)) (fun o f h=>(by cases h)) (fun z e n H ρ ce w h=>h.elim) ⟨hpr,hG⟩ hT hmo code _ _ _ _ ρ _ w hfun hcd (Mg code) M he M.stp0;refine n5 nt hen hf hb hn (by rw[hv.length];exact hlen) (kI hw ?_);intro ex ce' w' hq;by_cases hpx: ∃c,ex= .panic c
 ·obtain⟨c,rfl⟩:=hpx;obtain⟨_,_,_,_,_,_,_,_,hk,_⟩:=hq;exact hk.elim
 obtain⟨o,e',n',H',ρ',hK,ho,M',he',st'⟩:=sD hpx hq;obtain⟨v,hres,r,es',ρ2,_,h1,h2,h3,h4⟩:=zq (nt:=nt) hT hK M' he' st';cases ex with
 |normal=>exact fE hres ⟨r,es',ρ2,h1,h2,h3,h4⟩
 |ret=>exact fR hres ⟨r,es',ρ2,h1,h2,h3,h4⟩
 |exit j=>cases o<;>first|exact ho.elim|exact hK.elim
 |_=>cases o<;>exact ho.elim
end
end Go.Proofs.YtfgofabojepcmaaGreatDoor.V
end

section
set_option linter.unusedVariables false
set_option linter.unusedSimpArgs false
namespace Go.Proofs.YtfgofabojepcmaaGreatDoor.V
open Go.RowKit
section
variable [al] {U:bJ} {P:Program} {t:Nat} {ti:TI U}
inductive Zc where
 |i (k:IntKind)|b|s|l|p|f|m|e
def E5:Zc→bH U
 | .i k=>(1,.d (.int k) (0:Int))
 | .b=>(1,.d .bool false)
 | .s=>(1,.d .str ([]:List UInt8))
 | .l=>(1,.nils)
 | .p=>(1,.nilp)
 | .f=>(1,.nilf)
 | .m=>(1,.nilm)
 | .e=>(1,.d .err .nil)
def ye:Zc→Value
 | .i k=> .int k 0
 | .b=> .bool false
 | .s=>sv []
 | .l=> .slice none 0 0
 | .p=> .pointer none
 | .f=> .nilFunc
 | .m=> .map none
 | .e=> .nilIface
theorem E6{Y:List Nat}{S:World→Prop}{ρ:Nat→Rz}{n:Nat}{H:Hs U}: ∀l:List Zc,bK (aV U Y S ρ n H) (l.map E5) (l.map ye)
 | []=>rfl
 |z::r=>by
  refine⟨[ye z],r.map ye,rfl,by cases z<;>rfl,?_,E6 r⟩;cases z with
  |i k=>exact aG.int k 0 (by cases k<;>(unfold cZ;omega))
  |b=>exact aG.bool false
  |s=>exact aG.str [] (by decide)
  |e=>exact aG.enil
  |_=>rfl
def E7(P:Program)(t f:Nat):Option Nat:=match P.underlying t with|some (.struct fs)=>(fs[f]?).map (·.type)|_=>none
def E8(P:Program)(t:Nat):Nat→List (Nat×Nat)→Bool
 |_,[]=>true
 |f,(off,ft)::r=>decide (dh P t f=some off)&&decide (E7 P t f=some ft)&&E8 P t (f+1) r
omit [al]in
theorem uE: ∀{l:List (Nat×Nat)} {b f off ft:Nat},E8 P t b l=true→cL l f=some (off,ft)→dh P t (b+f)=some off∧E7 P t (b+f)=some ft
 | [],b,f,off,ft,h,hn=>by rw[cu]at hn;simp at hn
 |(o,g)::r,b,0,off,ft,h,hn=>by
  simp only[E8,Bool.and_eq_true,decide_eq_true_eq]at h;rw[cu]at hn;simp only[List.getElem?_cons_zero,Option.some.injEq,Prod.mk.injEq]at hn;rw[←hn.1,←hn.2];exact h.1
 |(o,g)::r,b,f+1,off,ft,h,hn=>by
  simp only[E8,Bool.and_eq_true,decide_eq_true_eq]at h;rw[cu,List.getElem?_cons_succ,←cu]at hn;have:=uE h.2 hn;rw[show b+(f+1)=b+1+f by omega];exact this
def E9(P:Program)(pls:List (Nat×Nat)):Nat→List (Nat×Nat)→Bool
 |_,[]=>true
 |f,(off,ft)::r=>(match pls[f]? with
  |some (o,k)=>decide (o=off)&&decide ((P.info? ft).map (·.size)=some k)
  |none=>false)&&E9 P pls (f+1) r
omit [al]in
theorem uF{pls:List (Nat×Nat)}: ∀{l:List (Nat×Nat)} {b f off ft:Nat},E9 P pls b l=true→cL l f=some (off,ft)→ ∃k,pls[b+f]? =some (off,k)∧(P.info? ft).map (·.size)=some k
 | [],b,f,off,ft,h,hn=>by rw[cu]at hn;simp at hn
 |(o,g)::r,b,0,off,ft,h,hn=>by
  simp only[E9,Bool.and_eq_true]at h;rw[cu]at hn;simp only[List.getElem?_cons_zero,Option.some.injEq,Prod.mk.injEq]at hn;obtain⟨h,_⟩:=h;split at h
  ·rename_i o' k hk;simp only[Bool.and_eq_true,decide_eq_true_eq]at h;refine⟨k,?_,?_⟩
   ·rw[Nat.add_zero,hk,h.1,hn.1]
   ·rw[←hn.2];exact h.2
  ·cases h
 |(o,g)::r,b,f+1,off,ft,h,hn=>by
  simp only[E9,Bool.and_eq_true]at h;rw[cu,List.getElem?_cons_succ,←cu]at hn;have:=uF h.2 hn;rw[show b+(f+1)=b+1+f by omega];exact this
def Lx(P:Program)(t:Nat)(k:Kd)(fs:List (Nat×Nat)):Bool:=match k with
 | .st=>(match iC P t with
  |some pls=>E9 P pls 0 fs
  |none=>false)
 |_=>true
omit [al]in
theorem bw(l:List Zc)(hz:ti.zero=l.map E5)(hzz:zeroCells P t=some (l.map ye))(hl:l.length=ti.sz)(hsz:(P.info? t).map (·.size)=some ti.sz)(hby:(P.info? t).map (·.bytes)=some ti.by_)(hkd:qV P t ti.kd)(h1:(qF ti.kd||cA P t)=true)
  (hfs:E8 P t 0 ti.fs=true) (hpl:Lx P t ti.kd ti.fs=true) (heq: ∀s,ti.sh=some s→ti.cmp=true→qF ti.kd=true∧qW U P t s) (hmp: ∀d,ti.mp=some d→Fy P U d∧P.underlying t=some (.map d.kt d.vt)) (hzi:ti.kd= .int .i64→fI P t=some (.int .i64 0):=by intro h;first|(cases h;done)|kernel_rfl):bT U P t ti:=
 ⟨hsz,hkd,fun h=>by rw[h]at h1;exact h1,hby,fun f off ft hn=>by have:=uE hfs hn;rw[Nat.zero_add]at this;exact this,fun hk=>(by
  rw[hk]at hpl;unfold Lx at hpl;simp only at hpl;split at hpl
  ·rename_i pls hp;exact⟨pls,hp,fun f off ft hn=>by have:=uF hpl hn;rwa [Nat.zero_add]at this⟩
  ·exact absurd hpl (by decide)),heq,hmp,hzi,⟨_,hzz,by rw[List.length_map];exact hl,fun F Y S ρ n H=>by rw[hz];exact E6 l⟩⟩
omit [al]in
theorem yf:bl U P []:=fun t ti h=>by cases h
omit [al]in
theorem aD{T:cH U}{t:Nat}{ti:TI U}(h:bT U P t ti)(hT:bl U P T):bl U P ((t,ti)::T):=fun t' ti' h'=>by
 by_cases e:t=t'
 ·subst e;rw[ow]at h';injection h' with h';subst h';exact h
 ·rw[fB e]at h';exact hT t' ti' h'
omit [al]in
theorem am:ay P U []:=fun f k h=>by cases h
omit [al]in
theorem ae{G:bS U}{f:Nat}{c:bZ U}(h:aQ P U f c)(hG:ay P U G):ay P U ((f,c)::G):=fun f' c' h'=>by
 by_cases e:f=f'
 ·subst e;rw[ow]at h';injection h' with h';subst h';exact h
 ·rw[fB e]at h';exact hG f' c' h'
end
end Go.Proofs.YtfgofabojepcmaaGreatDoor.V
end

section
set_option linter.unusedVariables false
namespace Go.Proofs.YtfgofabojepcmaaGreatDoor.V
open Go.RowKit
theorem iD{p:Prop}{d:Decidable p}: @decide p d=true↔p:=decide_eq_true_iff
theorem iB{b:Bool}:b=true↔b=true:=Iff.rfl
theorem iA{a b:Bool}{P Q:Prop}(h1:a=true↔P)(h2:b=true↔Q):(a&&b)=true↔P∧Q:=by rw[Bool.and_eq_true,h1,h2]
theorem iO{a b:Bool}{P Q:Prop}(h1:a=true↔P)(h2:b=true↔Q):(a||b)=true↔P∨Q:=by rw[Bool.or_eq_true,h1,h2]
theorem iN{a:Bool}{P:Prop}(h1:a=true↔P):(!a)=true↔ ¬P:=by rw[←h1];simp
theorem vI{α:Type}{f x y:α}{b:Bool}{P:Prop} [Decidable P]{A B:Prop}(hf:f=if P then x else y)(hb:b=true↔P)(h1:P→f=x→A)(h2: ¬P→f=y→B):x8 b A B:=
 ⟨fun h=>h1 (hb.1 h) (hf.trans (if_pos (hb.1 h))),fun h=>have hn: ¬P:=fun hp=>by(rw[hb.2 hp]at h;cases h)
  h2 hn (hf.trans (if_neg hn))⟩
theorem vN{α:Type}{f x y:α}{b:Bool}{P:Prop} [Decidable P]{A B:Prop}(hf:f=if P then x else y)(hb:b=true↔ ¬P)(h1: ¬P→f=y→A)(h2:P→f=x→B):x8 b A B:=
 ⟨fun h=>h1 (hb.1 h) (hf.trans (if_neg (hb.1 h))),fun h=>have hn:P:=Classical.byContradiction fun hp=>by(rw[hb.2 hp]at h;cases h)
  h2 hn (hf.trans (if_pos hn))⟩
theorem vT{b:Bool}{P A B:Prop}(hb:b=true↔P)(h:P)(k:A):x8 b A B:=⟨fun _=>k,fun h'=>by rw[hb.2 h]at h';cases h'⟩
theorem vF{b:Bool}{P A B:Prop}(hb:b=true↔P)(h: ¬P)(k:B):x8 b A B:=⟨fun h'=>absurd (hb.1 h') h,fun _=>k⟩
theorem a8{p q r:Int}(h:0≤p→p≤255→0≤q→q≤255→0≤r∧r≤255):cZ .u8 p→cZ .u8 q→cZ .u8 r:=fun h1 h2=>h h1.1 h1.2 h2.1 h2.2
theorem eb{p q r:Int}(h: -9223372036854775808≤p→p≤9223372036854775807→ -9223372036854775808≤q→q≤9223372036854775807→ -9223372036854775808≤r∧r≤9223372036854775807):cZ .i64 p→cZ .i64 q→cZ .i64 r:=fun h1 h2=>h h1.1 h1.2 h2.1 h2.2
def aF{σ β:Type}(μ:σ→Nat)(inv:σ→Prop)(L:Nat→σ→β)(X:β)(s:σ):Prop:= ∃c,μ s<c+1∧inv s∧X=L (c+1) s
theorem aF.mk0{σ β:Type}{μ:σ→Nat}{inv:σ→Prop}{L:Nat→σ→β}{X:β}{s:σ}(c:Nat)(h:μ s<c+1)(hi:inv s)(hX:X=L (c+1) s):aF μ inv L X s:=⟨c,h,hi,hX⟩
theorem aF.next{σ β:Type}{μ:σ→Nat}{inv:σ→Prop}{L:Nat→σ→β}{X:β}{s s':σ}{c:Nat}(h:μ s<c+1)(h':μ s'<μ s)(hi:inv s')(hX:X=L c s'):aF μ inv L X s':=by
 cases c with
 |zero=>omega
 |succ c=>exact⟨c,by omega,hi,hX⟩
end Go.Proofs.YtfgofabojepcmaaGreatDoor.V
end

section
set_option linter.unusedVariables false
set_option linter.unusedSimpArgs false
namespace Go.Proofs.YtfgofabojepcmaaGreatDoor.V
open Go.RowKit
def DN(ρf:Nat→Nat):Operand→Operand
 | .func f=> .func (ρf f)
 |x=>x
def zw(ρf ρt:Nat→Nat)(c:Go.Call):Go.Call:={c with callee:=(match c.callee with| .value x=> .value (DN ρf x)|x=>x),args:=(c.args.toList.map (DN ρf)).toArray,argTypes:=(c.argTypes.toList.map ρt).toArray}
def FI(ρf ρt:Nat→Nat):Op→Op
 | .alloc t=> .alloc (ρt t)
 | .box t x=> .box (ρt t) x
 | .buildSlice t k ps=> .buildSlice (ρt t) k ps
 | .load t x=> .load (ρt t) x
 | .store t x y=> .store (ρt t) x y
 | .binOp b t x y u=> .binOp b (ρt t) x y (ρt u)
 | .unOp b t x=> .unOp b (ρt t) x
 | .convert t u x=> .convert (ρt t) (ρt u) x
 | .makeSlice t x y=> .makeSlice (ρt t) x y
 | .slice t x l h m=> .slice (ρt t) x l h m
 | .indexAddr t x y=> .indexAddr (ρt t) x y
 | .index t x y=> .index (ρt t) x y
 | .call c=> .call (zw ρf ρt c)
 | .range t x=> .range (ρt t) x
 |o=>o
def IZ(ρf ρt:Nat→Nat)(o:Oper):Oper:={o with op:=FI ρf ρt o.op,type:=ρt o.type}
def i7(ρf ρt:Nat→Nat):Code→Code
 | .region i ops d=> .region i (ops.toList.map (IZ ρf ρt)).toArray d
 | .seq a b=> .seq (i7 ρf ρt a) (i7 ρf ρt b)
 | .cond c a b=> .cond c (i7 ρf ρt a) (i7 ρf ρt b)
 | .block i a=> .block i (i7 ρf ρt a)
 | .loop a=> .loop (i7 ρf ρt a)
 | .rangeFunc g ps a b=> .rangeFunc (DN ρf g) ps (i7 ρf ρt a) (i7 ρf ρt b)
 |c=>c
def io(fn:Go.Func):Code:=match fn.body with|some c=>c|none=> .skip
structure Em(U:bJ)(Y:List Nat)(w:World)(s:bj) where
 x:TT U.ty s
 c:List Value
 den:aG U Y (· =w) s x c
section
variable {U:bJ} {Y:List Nat} {w:World} {s:bj}
theorem Em.hl(e:Em U Y w s):e.c.length=aS U s:=e.den.length
theorem Em.h1(e:Em U Y w s): ∀v∈e.c,v.oneCell'=true:=e.den.one
theorem B0: ∀{xs:List (TT U.ty s)} {cs:List Value},ba U Y (· =w) s xs cs→ ∃l:List (Em U Y w s),l.map (·.x)=xs∧l.flatMap (·.c)=cs
 | [],cs,h=>⟨[],rfl,(h.nil_inv).symm⟩
 |x::xs,cs,h=>by
  obtain⟨v1,v2,rfl,h1,hl,hr⟩:=h.cons_inv;obtain⟨l,e1,e2⟩:=B0 hr;exact⟨⟨x,v1,h1⟩::l,by simp[e1],by simp[e2]⟩
theorem rb: ∀(l:List (Em U Y w s)),ba U Y (· =w) s (l.map (·.x)) (l.flatMap (·.c))
 | []=> .nil s
 |e::l=> .cons s e.x _ e.c _ e.den e.den.length (rb l)
end
end Go.Proofs.YtfgofabojepcmaaGreatDoor.V
end

section
set_option linter.unusedVariables false
set_option linter.unusedSimpArgs false
namespace Go.Proofs.YtfgofabojepcmaaGreatDoor
open Go.RowKit
section
variable [bF] {P:Program} {n:Nat} {env:aK} {S:World→Prop} {o:Oper}
theorem xc{x:Operand}{t e:Nat}{b:Option Addr}{l c:Nat}(ho:o.op= .call {callee:= .builtin .cap,args:= #[x],argTypes:= #[t]})(hx:env.ev x=some (.slice b l c))(ht:P.underlying t=some (.slice e)):cb P n env S o (.int .i64 c):=fun a r w _=>
 fJ ho (r.eval hx) fun cs=>by
  have h:(Builtin.cap_ #[t] o.type #[.slice b l c]).run P w= .ok (goInt c) w:=by simp[Builtin.cap_,run_underlying ht]
  simp only[builtin,Sem.run_bind,h,Result.andThen_ok];rfl
end
theorem iy{α:Type}{enc:α→List Value}{m:Nat}(u:α)(hm:(enc u).length=m)(k:Nat):Builtin.zeroCells (enc u).toArray k=((List.replicate k u).flatMap enc).toArray:=by
 rw[xn,←kD (enc u) k m hm];unfold Builtin.zeroCells madeCells;simp[hm]
section
variable [bF] {P:Program} {n:Nat} {env:aK} {w:World} {o:Oper} {K:aK→World→Prop} {H:bX}
theorem Ej{α:Type}{enc:α→List Value}{t tn e m by' c l:Nat}{x y:Operand}{A:Option Addr}{xs:List α}{u:α}{z:List Value}{k kn:IntKind}{q:Int}(ho:o.op= .call {callee:= .builtin .append,args:= #[x,y],argTypes:= #[t,tn]}){d:Nat}(hd:o.dst=some d)(hn:Nat.blt d n=true)
  (hx:env.ev x=some (.slice A l c)) (hy:env.ev y=some (.int k q)) (hl:l=xs.length) (ht:bn P t=some (e,m)) (htn:P.underlying tn=some (.int kn)) (hz:zeroCells P e=some z) (hzu:z=enc u) (hby:(P.info? e).map (·.bytes)=some by') (hm: ∀x,(enc x).length=m) (hm0:0<m)
  (hsrc: ∀ad,A=some ad→ ∀j v,(xs.flatMap enc)[j]? =some v→w.cell? (ad.add j)=some v) (hA:A=none→xs.length=0) (h0:0<q) (hg:(c:Int)<l+q) (h63:l+q≤9223372036854775807) (hbytes:(xs.length+q.toNat)*by'≤140737488355328) (h:Hp w H)
  (hK: ∀g c' sp' w',Ow (some ⟨g,0,none⟩) (xs++List.replicate q.toNat u).length c' m ((xs++List.replicate q.toNat u).flatMap enc) sp'→Hp w' (H++ [(some g,Cl ((xs++List.replicate q.toNat u).flatMap enc++sp') e)])→Fr [] w w'→w.heap.size≤g→K ((d,.slice (some ⟨g,0,none⟩) (xs++List.replicate q.toNat u).length c')::env) w'):cd P n env w o K:=by
 subst hl;obtain⟨j,rfl⟩:=Int.eq_ofNat_of_zero_le (Int.le_of_lt h0);simp only[Int.toNat_natCast]at hK hbytes;obtain⟨hu,hs⟩:=cP ht;unfold zeroCells at hz;cases hq:P.info? e with
 |none=>simp[hq]at hz
 |some inf=>
  cases hzz:inf.zero with
  |none=>simp[hq,hzz]at hz
  |some z0=>
   have hz':z0.cells=(enc u).toArray:=by simp[hq,hzz]at hz;rw[←hzu,←hz]
   have hms:inf.size=m:=by simpa[hq]using hs
   have hb:inf.bytes=by':=by simpa[hq]using hby
   have hold:(Builtin.firstCells inf.size xs.length (.slice A xs.length c)).run P w.drew= .ok (xs.flatMap enc).toArray w.drew:=by
    cases A with
    |none=>
     have hx0:xs= []:=List.eq_nil_of_length_eq_zero (hA rfl);subst hx0;simp[Builtin.firstCells]
    |some ad=>exact run_firstCells_some (P:=P) w.drew inf.size xs.length ad xs.length c (xs.flatMap enc) (by rw[dW hm,hms]) (by simpa using hsrc ad rfl)
   have h63':((xs.length+j:Nat):Int)≤9223372036854775807:=by omega
   have hjb:j*inf.bytes≤281474976710656:=by
    rw[hb];have:=Nat.mul_le_mul_right by' (show j≤xs.length+j by omega);omega
   have hrun:=Lib.run_append_grow_zeros (P:=P) w t tn o.type e inf z0 k kn hu htn hq hzz A xs.length c (xs.flatMap enc) hold j (by omega) (by omega) (by omega) h63' hjb (growslice_fits (by omega) (by rw[hb];exact hbytes));rw[hz',iy u (hm u),iy u (hm u)]at hrun;have hge:=grownCap_ge w (xs.length+j) c e;have hcm:=grownCap_le_maxLen w (xs.length+j) c e (by unfold maxLen;omega);have e1:((xs.flatMap enc).toArray++((List.replicate j u).flatMap enc).toArray++((List.replicate (grownCap w (xs.length+j) c e -(xs.length+j)) u).flatMap enc).toArray)=((xs++List.replicate j u).flatMap enc++(List.replicate (grownCap w (xs.length+j) c e -(xs.length+j)) u).flatMap enc).toArray:=by simp
   rw[e1]at hrun;have hL:(xs++List.replicate j u).length=xs.length+j:=by simp
   have:=hK w.heap.size (grownCap w (xs.length+j) c e) ((List.replicate (grownCap w (xs.length+j) c e -(xs.length+j)) u).flatMap enc) _ ⟨by rw[dW hm],.inr ⟨_,rfl,by rw[←List.flatMap_append,dW hm,List.length_append,hL,List.length_replicate];congr 1;omega,by rw[hL];exact hge,hcm⟩⟩ (h.drew.alloc _) ((Fr.drew w).step0 (Fr.alloc w.drew _)) (Nat.le_refl _);rw[hL]at this;refine fX hd hn (fun a r=>?_) this;refine ez ho (r.eval hx) (r.eval hy) fun cs=>?_;simp only[builtin,Sem.run_bind,hrun,Result.andThen_ok];rfl
end
section
variable [bF] {P:Program} {n:Nat} {env:aK} {S:World→Prop} {o:Oper}
end
section
variable {w:World} {H:bX} {α:Type} {enc:α→List Value} {m i e g:Nat} {xs:List α} {sp:List Value}
end
theorem Ow.lc{A:Option Addr}{l c m:Nat}{xs sp:List Value}(h:Ow A l c m xs sp):l≤c∧c≤9223372036854775807:=by
 rcases h.2 with⟨_,h0,h1,_⟩|⟨g,_,_,h1,h2⟩
 ·omega
 ·unfold maxLen at h2;omega
theorem Ow.room{A:Option Addr}{l c m k:Nat}{xs sp:List Value}(h:Ow A l c m xs sp)(hl:l+k≤c):k*m≤sp.length:=by
 have h0:=h.1;rcases h.2 with⟨_,h2,h3,h4⟩|⟨g,_,h2,h3,h4⟩
 ·have:k=0:=by omega
  subst this;simp
 ·rw[List.length_append,h0]at h2;have:=Nat.mul_le_mul_right m hl;rw[Nat.add_mul]at this;omega
end Go.Proofs.YtfgofabojepcmaaGreatDoor
end

section
set_option linter.unusedVariables false
set_option linter.unusedSimpArgs false
namespace Go.Proofs.YtfgofabojepcmaaGreatDoor
open Go.RowKit Go.Shelf Go.Lib Go.Sort
theorem Cc{α:Type} [Inhabited α]{enc:α→List Value}{k:Nat}(hk: ∀x,(enc x).length=k)(hk0:0<k): ∀(l:List α) (t:Nat),t<l.length*k→(l.flatMap enc)[t]? =(enc (l[t/k]?.getD default))[t%k]?
 | [],t,h=>by simp at h
 |a::l,t,h=>by
  rw[List.flatMap_cons];by_cases ht:t<k
  ·rw[List.getElem?_append_left (by rw[hk];exact ht),Nat.div_eq_of_lt ht,Nat.mod_eq_of_lt ht];rfl
  ·have hs:t=(t - k)+k:=by omega
   have hd:t/k=(t - k)/k+1:=by
    have:=Nat.add_div_right (t - k) hk0;rw[←hs]at this;exact this
   have hm:t%k=(t - k)%k:=by
    have:=Nat.add_mod_right (t - k) k;rw[←hs]at this;exact this
   rw[List.getElem?_append_right (by rw[hk];omega),hk,Cc hk hk0 l (t - k) (by rw[List.length_cons,Nat.add_mul,Nat.one_mul]at h;omega),hd,hm];rfl
theorem mY{α:Type} [Inhabited α]{enc:α→List Value}{k:Nat}(hk: ∀x,(enc x).length=k)(hk0:0<k)(l:List α):(flatK enc k l.toArray).toList=l.flatMap enc:=by
 apply List.ext_getElem?;intro t;by_cases ht:t<l.length*k
 ·rw[Cc hk hk0 l t ht];have h1:t<(flatK enc k l.toArray).size:=by simpa using ht
  have h2:=get_flatK enc k l.toArray t (by simpa using ht);rw[getElem!_pos _ t h1]at h2;rw[Array.getElem?_toList,Array.getElem?_eq_getElem h1,h2];have hl:t/k<l.length:=Nat.div_lt_of_lt_mul (by rw[Nat.mul_comm];exact ht);have e1:l.toArray[t/k]! =(l[t/k]?.getD default):=by
   rw[getElem!_pos _ _ (by simpa using hl)];simp[List.getElem?_eq_getElem hl]
  rw[e1];have hmod:t%k<(enc (l[t/k]?.getD default)).length:=by rw[hk];exact Nat.mod_lt _ hk0
  rw[List.getElem?_eq_getElem hmod,getElem!_pos (enc (l[t/k]?.getD default)) (t%k) hmod]
 ·rw[List.getElem?_eq_none (by simp;omega),List.getElem?_eq_none (by rw[dW hk];omega)]
theorem qt{w:World}{g e:Nat}{xs ys sp:List Value}(h:w.heap[g]? =some (Cl (xs++sp) e))(hl:ys.length=xs.length):(putRow id w g 0 ys.toArray).heap[g]? =some (Cl (ys++sp) e)∧ ∀k,k≠g→(putRow id w g 0 ys.toArray).heap[k]? =w.heap[k]? :=by
 constructor
 ·show(w.heap.modify g _)[g]? =_
  rw[Array.getElem?_modify,if_pos rfl,h];show some (Obj.cells (putCells id 0 ys.toArray (xs++sp).toArray) e (0,0))=_
  congr 2;apply Array.ext_getElem?;intro j;unfold putCells;rw[Array.getElem?_mapIdx];by_cases hj:j<ys.length
  ·have h1:j<(xs++sp).length:=by rw[List.length_append];omega
   rw[show(xs++sp).toArray[j]? =some ((xs++sp)[j])from by simp[h1]];simp only[Option.map_some,Nat.zero_le,Nat.zero_add,true_and,List.size_toArray,hj,if_true,Nat.sub_zero,id];rw[getElem!_pos _ _ (by simpa using hj)];simp[List.getElem?_append_left hj,hj]
  ·cases hq:(xs++sp).toArray[j]? with
   |none=>
    have:(xs++sp).length≤j:=by simpa using hq
    simp only[Option.map_none];symm;rw[List.getElem?_toArray,List.getElem?_eq_none (by rw[List.length_append]at*;omega)]
   |some x=>
    simp only[Option.map_some,Nat.zero_le,Nat.zero_add,true_and,List.size_toArray,hj,if_false];rw[←hq];simp only[List.getElem?_toArray];rw[List.getElem?_append_right (by omega),List.getElem?_append_right (by omega),hl]
 ·intro k hk;show(w.heap.modify g _)[k]? =_
  rw[Array.getElem?_modify,if_neg (fun e=>hk e.symm)]
theorem pg{α:Type} [Inhabited α]{enc:α→List Value}{k:Nat}(hk: ∀x,(enc x).length=k)(hk0:0<k){w:World}{g e:Nat}{xs:List α}{sp:List Value}(h:w.heap[g]? =some (Cl (xs.flatMap enc++sp) e))(m:Nat)(ys:List α)(hl:ys.length=xs.length)(os:Array Obj):
  Fr [g] w (sortWorldK enc k w g 0 m ys.toArray os)∧(sortWorldK enc k w g 0 m ys.toArray os).heap[g]? =some (Cl (ys.flatMap enc++sp) e):=by
 have hF:(flatK enc k ys.toArray)=(ys.flatMap enc).toArray:=by
  have:=mY hk hk0 ys;rw[←this]
 have hp:=qt (w:=Sort.ahead w m) (ys:=ys.flatMap enc) (show(Sort.ahead w m).heap[g]? =some (Cl (xs.flatMap enc++sp) e)from h) (by rw[dW hk,dW hk,hl]);have hsz:(putRow id (Sort.ahead w m) g 0 (ys.flatMap enc).toArray).heap.size=w.heap.size:=by rw[size_putRow];rfl
 have hg:g<w.heap.size:=bR h;unfold sortWorldK putRowK;rw[hF];have happ: ∀j,j<w.heap.size→(grow (putRow id (Sort.ahead w m) g 0 (ys.flatMap enc).toArray) os).heap[j]? =(putRow id (Sort.ahead w m) g 0 (ys.flatMap enc).toArray).heap[j]? :=fun j hj=>by
  show(_++os)[j]? =_
  rw[Array.getElem?_append_left (by rw[hsz];exact hj)]
 refine⟨⟨rfl,rfl,rfl,?_,fun j hj hn=>?_⟩,?_⟩
 ·show _≤(_++os).size
  rw[Array.size_append,hsz];omega
 ·rw[happ j hj];exact hp.2 j (by simpa using hn)
 ·rw[happ g hg];exact hp.1
theorem AX{w:World}{g e:Nat}{cs:List Value}(h:w.heap[g]? =some (Cl cs e)){j:Nat}(hj:j<cs.length):w.cell? ⟨g,j,none⟩=some cs[j]∧w.frozen? ⟨g,j,none⟩=false:=by
 constructor
 ·unfold World.cell?;simp only[h];simp[hj]
 ·unfold World.frozen?;simp only[h];simp
theorem ul{α:Type} [Inhabited α](enc:α→Value)(w:World)(b:Nat)(d:List α):putRow enc w b 0 d.toArray=putRow id w b 0 (d.map enc).toArray:=by
 unfold putRow;congr 1;funext c;unfold putCells;apply Array.ext_getElem?;intro j;rw[Array.getElem?_mapIdx,Array.getElem?_mapIdx];cases c[j]? with
 |none=>rfl
 |some x=>
  simp only[Option.map_some,List.size_toArray,List.length_map,Nat.zero_add,Nat.sub_zero];by_cases h:0≤j∧j<d.length
  ·rw[if_pos h,if_pos h,getElem!_pos _ _ (by simpa using h.2),getElem!_pos _ _ (by simpa using h.2)];simp
  ·rw[if_neg h,if_neg h]
theorem lW(l:List (List UInt8)):l.flatMap (fun x=> [sv x])=l.map sv:=by induction l<;>simp_all
def bE(s:List (List UInt8)):List (List UInt8):=s.mergeSort fun x y=>decide (x≤y)
theorem fL(s:List (List UInt8)):(bE s).length=s.length:=List.length_mergeSort _
theorem um{P:Program}{f e:Nat}(he:bI P f=true)
  (hC: ∀(blk cap:Nat) (ss:List (List UInt8)) (w:World),Holds encStr w blk 0 ss.toArray→blk<w.heap.size→ss.length<4611686018427387904→Calls P f #[.slice (some ⟨blk,0,none⟩) ss.length cap] w fun e w'=>e= .returned (.tuple #[])∧ ∃n os,w'=grow (putRow encStr (Sort.ahead w n) blk 0 (ss.mergeSort fun x y=>decide (x≤y)).toArray) os)
  (hN: ∀(p:Option Addr) (cap:Nat) (w:World),Calls P f #[.slice p 0 cap] w fun e w'=>e= .returned (.tuple #[])∧w'=w)
  (X:List Nat) (w:World) (s:List (List UInt8)) (A:Option Addr) (c:Nat) (sp:List Value) (hs:St X w [(ao A,Cl (s.flatMap (fun x=> [sv x])++sp) e)] []) (how:Ow A s.length c 1 (s.flatMap (fun x=> [sv x])) sp) (hs62:s.length<4611686018427387904):
  Fn P f [.slice A s.length c] w fun v w'=>v= .tuple #[]∧Ow A s.length c 1 ((bE s).flatMap (fun x=> [sv x])) sp∧(bE s).length=s.length∧St X w' [(ao A,Cl ((bE s).flatMap (fun x=> [sv x])++sp) e)] []∧Fr (bG [(ao A,Cl (s.flatMap (fun x=> [sv x])++sp) e)]) w w':=by
 have hk: ∀x:List UInt8,([sv x]:List Value).length=1:=fun _=>rfl;rcases how.2 with⟨rfl,h2,h3,h4⟩|⟨g0,rfl,h3,h4,h5⟩
 ·have hs0:s= []:=List.eq_nil_of_length_eq_zero h2;subst hs0;refine⟨he,(hN none c w).mono ?_⟩;rintro e1 w' ⟨rfl,rfl⟩;have hsn:bE []= []:=List.eq_nil_of_length_eq_zero (fL []);rw[hsn];exact⟨_,rfl,rfl,how,rfl,hs,Fr.refl _ _⟩
 ·have hb:w.heap[g0]? =some (Cl (s.flatMap (fun x=> [sv x])++sp) e):=hs.hp.at (i:=0) rfl;have hkeys:bG [(ao (some ⟨g0,0,none⟩),Cl (s.flatMap (fun x=> [sv x])++sp) e)]= [g0]:=rfl;have hH:Holds encStr w g0 0 s.toArray:=by
   intro j hj;have hj':j<s.length:=by simpa using hj
   have hj2:j<(s.flatMap (fun x=> [sv x])).length:=by rw[lW];simpa using hj
   have hc:=AX hb (j:=j) (by rw[List.length_append];omega);rw[Nat.zero_add];refine⟨?_,hc.2⟩;rw[hc.1,List.getElem_append_left hj2];simp only[lW];rw[getElem!_pos s.toArray j hj];simp
  refine⟨he,?_⟩;refine(hC g0 c s w hH (bR hb) hs62).mono ?_;rintro e2 w' ⟨rfl,n,os,rfl⟩;have hw:=pg hk (by decide) hb n (bE s) (fL s) os;have hF:(flatK (fun x=> [sv x]) 1 (bE s).toArray)=((bE s).flatMap (fun x=> [sv x])).toArray:=by
   have:=mY hk (by decide) (bE s);rw[←this]
  have e3:grow (putRow encStr (Sort.ahead w n) g0 0 (s.mergeSort fun x y=>decide (x≤y)).toArray) os=sortWorldK (fun x=> [sv x]) 1 w g0 0 n (bE s).toArray os:=by
   unfold sortWorldK putRowK;rw[hF,lW,ul];rfl
  rw[e3];refine⟨_,rfl,rfl,?_,fL s,?_,hw.1⟩
  ·refine⟨by rw[dW hk,fL],.inr ⟨g0,rfl,?_,h4,h5⟩⟩;rw[←h3,List.length_append,List.length_append,dW hk,dW hk,fL]
  ·exact hs.set (i:=0) rfl (hs.hp.setAt (i:=0) rfl hw.1 hw.2) hw.1
end Go.Proofs.YtfgofabojepcmaaGreatDoor
end

section
namespace Go.Proofs.YtfgofabojepcmaaGreatDoor
open Go.RowKit Go.Lib
structure Lc where
 fn:FuncId
 tmps:Array Value
 ps:Array Tmp
 asg:Code
 body:Code
 D:Nat
abbrev Lr(c:Lc)(st:LoopState)(pe:Option Code):Obj:= .loop {state:=st,pending:=pe,fn:=c.fn,tmps:=c.tmps,params:=c.ps,assign:=c.asg,body:=c.body,defers:=c.D}
theorem Fr.putObj{w:World}{l:Nat}{o:Obj}:Fr [l] w (w.putObj l o):=⟨rfl,rfl,rfl,by simp,fun _ _ hk=>World.putObj_heap_other (fun e=>hk (by simp[e]))⟩
theorem Hp.putObj{w:World}{H:bX}{i l:Nat}{o:Obj}(o':Obj)(h:Hp w H)(hi:H[i]? =some (some l,o)):Hp (w.putObj l o') (H.set i (some l,o')):=
 h.setAt hi Fr.putObj (World.putObj_heap_same (bR (h.at hi)))
def kG(P:Program)(l:Nat)(xs:List Value)(w:World)(T F:World→Prop):Prop:=
 ∃fn tmps asg body,(Instr.yield l xs.toArray).run P w= .ok (.round l fn tmps asg body) w∧
  RoundIn Fence.wide 0 P l fn tmps asg body w (fun e w'=> ∃b,e= .returned (.bool b)∧(b=true→T w')∧(b=false→F w'))
section
variable [bF] {P:Program} {n:Nat} {Q:EQ} {env:aK} {w:World} {ops:Array Oper} {o:Oper} {rest:List Oper}
theorem xq{x:Operand}{xs:List Operand}{vs:List Value}{ts:Array TypeId}{d l:Nat}{T F:World→Prop}(hw:lH n env ops o true)
  (ho:o.op= .call {callee:= .value x,args:=xs.toArray,argTypes:=ts}) (hf:env.ev x=some (.func (.yield l) #[] #[])) (hx:env.evs xs=some vs)
  (hd:o.dst=some d) (hn:Nat.blt d n=true) (hy:kG P l vs w T F)
  (h1: ∀w',T w'→Ls P n ops Q rest ((d,.bool true)::env) w') (h2: ∀w',F w'→Ls P n ops Q rest ((d,.bool false)::env) w'):Ls P n ops Q (o::rest) env w:=fun hnd a r=>
 wpListIn_step fun K hK=>by
  rw[if_pos (hw a r)];refine⟨fun _ _=>trivial,?_⟩;rw[Oper.semFw _ (tf hnd)];obtain⟨fn,tmps,asg,body,hrun,hR⟩:=hy;have e1:=r.evals hx;have e2:=r.eval hf;have hrun2:(execOp a.eval o).run P w= .ok (.round l fn tmps asg body) w:=by
   unfold execOp;simp only[ho,resolve,e2,Deferred.ofValue,Sem.run_bind,Sem.run_pure,Result.andThen_ok,invoke];simp[e1,hrun]
  rw[hrun2,Oper.uponIn_round];refine⟨fun h=>by simp[Fw,Fence.wide]at h,trivial,fun c cs _=>?_⟩;obtain⟨e,w',⟨b,he,ht,hf'⟩,hs⟩:=hR.2 c cs (room_wide _);subst he;refine⟨.returned (.bool b),w',?_,hs⟩;have r':=r.put hn (.bool b);rw[←hd]at r';cases b with
  |true=>exact hK _ _ (h1 w' (ht rfl) (m5 hnd) _ r')
  |false=>exact hK _ _ (h2 w' (hf' rfl) (m5 hnd) _ r')
end
section
variable [bF] {P:Program} {n:Nat} {env:aK} {S:World→Prop} {o:Oper}
theorem BW{x y:Operand}{t u:Nat}{k:IntKind}{p q:Int}(ho:o.op= .call {callee:= .builtin .min,args:= #[x,y],argTypes:= #[t,u]})(hx:env.ev x=some (.int k p))(hy:env.ev y=some (.int k q)):cb P n env S o (.int k (min p q)):=fun a r w _=>by
 refine ez ho (r.eval hx) (r.eval hy) fun c=>?_;have e:(if q<p then q else p)=min p q:=by simp only[Int.min_def];split<;>split<;>omega
 simp[builtin,Builtin.min_,Builtin.min2,←e]
end
def Rd(c:Lc)(l:Nat)(T F:World→Prop):EQ:=fun e _ w=>match e with
 | .normal=>w.heap[l]? =some (Lr c .busy none)∧T (w.putObj l (Lr c .ready none))
 | .ret=>w.heap[l]? =some (Lr c .busy none)∧F (w.putObj l (Lr c .done (some .ret)))
 | .exit id=>w.heap[l]? =some (Lr c .busy none)∧F (w.putObj l (Lr c .done (some (.exit id))))
 |_=>False
section
variable {c:Lc} {l i:Nat} {T F:World→Prop} {env:aK} {w:World} {H:bX}
theorem KI(hp:Hp w H)(hi:H[i]? =some (some l,Lr c .busy none))(h: ∀W,Hp W (H.set i (some l,Lr c .ready none))→Fr [l] w W→T W):Rd c l T F .normal env w:=⟨hp.at hi,h _ (hp.putObj _ hi) Fr.putObj⟩
end
def ph:List Tmp→List Value→aK→aK
 |t::ts,v::vs,e=>ph ts vs ((t,v)::e)
 |_,_,e=>e
structure rH(n:Nat)(env:aK)(t:Array Value):Prop where
 size:t.size=n
 get: ∀k v,env.get k=some v→t[k]? =some v
theorem rH.par{n:Nat}: ∀(ts:List Tmp) (vs:List Value) (env:aK) (t:Array Value),rH n env t→(ts.all (Nat.blt · n))=true→rH n (ph ts vs env) ((ts.zip vs).foldl (fun tmps (t,a)=>tmps.setIfInBounds t a) t)
 | [],_,_,_,h,_=>h
 |_::_,[],_,_,h,_=>h
 |d::ts,v::vs,env,t,h,hb=>by
  simp only[List.all_cons,Bool.and_eq_true]at hb;have hd:d<n:=by simpa[Nat.blt_eq]using hb.1
  refine rH.par ts vs ((d,v)::env) _ ⟨by simp[h.size],fun k u hk=>?_⟩ hb.2;unfold aK.get at hk;by_cases e:d=k
  ·subst e;simp at hk;subst hk;simp[h.size,hd]
  ·rw[cn e]at hk;simp only[cond_false]at hk;rw[Array.getElem?_setIfInBounds_ne e];exact h.get k u hk
theorem xr{P:Program}{n l:Nat}{c:Lc}{xs:List Value}{env:aK}{w:World}{T F:World→Prop}(ps:List Tmp)(hps:c.ps=ps.toArray)(hl:xs.length=ps.length)(hb:(ps.all (Nat.blt · n))=true)
  (hw:w.heap[l]? =some (Lr c .ready none)) (ht:rH n env c.tmps)
  (h: ∀ [bF],Wp P n c.asg (Th (fun e w1=> ∃H i,Hp w1 H∧H[i]? =some (some l,Lr c .ready none)∧ ∀W2,Hp W2 (H.set i (some l,Lr c .busy none))→Fr [l] w1 W2→Wp P n c.body (Rd c l T F) e W2) (fun _ _ _=>False)) (ph ps xs env) w):
  kG P l xs w T F:=by
 have h1:=run_yield (P:=P) (args:=xs.toArray) hw (by simp[hps,hl]);refine⟨_,_,_,_,h1,?_⟩;refine roundIn_of_wpIn trivial ?_;have hr:=rH.par ps xs env c.tmps ht hb;have h2:= @h ⟨[],some l⟩;have e1:(Array.foldl (fun tmps x=>tmps.setIfInBounds x.fst x.snd) c.tmps (c.ps.zip xs.toArray))=((ps.zip xs).foldl (fun tmps (t,a)=>tmps.setIfInBounds t a) c.tmps):=by
  rw[hps];simp
 have h3:=h2 {tmps:=(ps.zip xs).foldl (fun tmps (t,a)=>tmps.setIfInBounds t a) c.tmps,defers:= []} (@gj.mk ⟨[],some l⟩ _ _ _ hr.size rfl hr.get);simp only[e1];refine Code.wpIn_mono (fun e a' w' hq=>?_) h3;obtain⟨env',r',q⟩:=hq;cases e with
 |normal=>
  obtain⟨H,i,hp,hi,q2⟩:=q;refine⟨_,run_beginRound (hp.at hi) rfl,?_⟩;refine Code.wpIn_mono (fun e2 a2 w2 hq2=>?_) (q2 _ (hp.putObj _ hi) Fr.putObj a' r');obtain⟨env2,r2,q3⟩:=hq2;cases e2 with
  |normal=>exact⟨_,_,run_endRound none q3.1,true,rfl,fun _=>q3.2,fun hf=>by cases hf⟩
  |ret=>exact⟨_,_,run_endRound (some .ret) q3.1,false,rfl,(fun hf=>by cases hf),fun _=>q3.2⟩
  |exit id=>exact⟨_,_,run_endRound (some (.exit id)) q3.1,false,rfl,(fun hf=>by cases hf),fun _=>q3.2⟩
  |_=>exact q3.elim
 |_=>exact q.elim
abbrev yc(D:Nat):bF:=⟨[{target:= .collected D,args:= #[]}],none⟩
def G8 [bF](P:Program)(n:Nat)(fn:Func)(D:Nat)(Post:Value→World→Prop):EQ:=fun e env w=>match e with
 | .normal| .ret=>w.heap[D]? =some (.deferred (some []))∧ ∃v,uz P n fn env (w.putObj D (.deferred none)) v∧Post v (w.putObj D (.deferred none))
 |_=>False
theorem A3 [bF]{P:Program}{n i D:Nat}{fn:Func}{env:aK}{w:World}{H:bX}{Post:Value→World→Prop}(hp:Hp w H)(hi:H[i]? =some (some D,.deferred (some [])))
  (h: ∀W,Hp W (H.set i (some D,.deferred none))→Fr [D] w W→ ∃v,uz P n fn env W v∧Post v W):G8 P n fn D Post .ret env w:=⟨hp.at hi,h _ (hp.putObj _ hi) Fr.putObj⟩
abbrev lg(Post:Value→World→Prop):Ending→World→Prop:=fun e w'=> ∃v,e= .returned v∧Post v w'
def KJ(P:Program)(fn:Func)(Post:Value→World→Prop):List Code→Act→World→Prop
 | []=>bodyPostM Fence.wide 0 P fn (lg Post) .normal
 |c::cs=>c.wpIn Fence.wide 0 P (Exit.then (KJ P fn Post cs) (bodyPostM Fence.wide 0 P fn (lg Post)))
def Wf(P:Program)(n:Nat)(fn:Func)(Post:Value→World→Prop)(cs:List Code)(env:aK)(w:World):Prop:= ∀a, @gj dfs0 n env a→KJ P fn Post cs a w
def Wd [bF](P:Program)(n:Nat)(fn:Func)(D:Nat)(Post:Value→World→Prop):List Code→aK→World→Prop
 | []=>G8 P n fn D Post .normal
 |c::cs=>Wp P n c (Th (Wd P n fn D Post cs) (G8 P n fn D Post))
section
variable {P:Program} {n:Nat} {fn:Func} {Post:Value→World→Prop} {env:aK} {w:World} {x y z:Code} {cs:List Code}
theorem rI(h:Wf P n fn Post (x::y::cs) env w):Wf P n fn Post (.seq x y::cs) env w:=fun a r=>
 wpIn_seq (Code.wpIn_mono (fun e a' w' hq=>by cases e<;>exact hq) (h a r))
theorem A4{a:Act}{e:Exit}(he:e= .normal∨e= .ret)(r: @gj dfs0 n env a)(h: @Fq dfs0 P n fn (lg Post) e env w):bodyPostM Fence.wide 0 P fn (lg Post) e a w:=by
 have hd:a.defers= []:=r.defers;rcases he with rfl|rfl<;>
 ·obtain⟨v,hv,hP⟩:=h;simp only[bodyPostM,hd];exact⟨v,hv a r,hP⟩
theorem G9(h: ∀K:aK→World→Prop,(∀e v,Wf P n fn Post cs e v→K e v)→ @Wp dfs0 P n x (Th K (@Fq dfs0 P n fn (lg Post))) env w):Wf P n fn Post (x::cs) env w:=fun a r=>
 Code.wpIn_mono (fun e a' w' hq=>by
  obtain⟨env',r',q⟩:=hq;cases e with
  |normal=>exact q a' r'
  |ret=>exact A4 (.inr rfl) r' q
  |_=>exact q.elim) (h (Wf P n fn Post cs) (fun _ _ h=>h) a r)
theorem m3{a:Act}{e:Exit}{D:Nat}(he:e= .normal∨e= .ret)(r: @gj (yc D) n env a)(h: @G8 (yc D) P n fn D Post e env w):bodyPostM Fence.wide 0 P fn (lg Post) e a w:=by
 have hd:a.defers= [{target:= .collected D,args:= #[]}]:= @gj.defers (yc D) _ _ _ r;rcases he with rfl|rfl<;>
 ·obtain⟨h1,v,hv,hP⟩:=h;simp only[bodyPostM,hd];refine⟨by simp,.inl ⟨D,_,rfl,run_takeDeferred h1,v,hv a r,v,rfl,hP⟩⟩
theorem rJ{D:Nat}: ∀(cs:List Code) (env:aK) (w:World) (a:Act), @Wd (yc D) P n fn D Post cs env w→ @gj (yc D) n env a→KJ P fn Post cs a w
 | [],_,_,_,h,r=>m3 (.inl rfl) r h
 |c::cs,env,w,a,h,r=>Code.wpIn_mono (fun e a' w' hq=>by
   obtain⟨env',r',q⟩:=hq;cases e with
   |normal=>exact rJ cs env' w' a' q r'
   |ret=>exact m3 (.inr rfl) r' q
   |_=>exact q.elim) (h a r)
theorem Hd{id gf:Nat}{g:Operand}{ps:Array Tmp}{asg body:Code}{lb:List Value}(hg:env.ev g=some (.func (.func gf) #[] lb.toArray))(hent:bI P gf=true)
  (h: ∀(c:Lc) (D l:Nat) (W:World),c.ps=ps→c.asg=asg→c.body=body→rH n env c.tmps→Fr [] w W→w.heap.size≤D→w.heap.size≤l→(∀H,Hp w H→Hp W (H++ [(some D,.deferred (some [])),(some l,Lr c .ready none)]))→
   Fn P gf (.func (.yield l) #[] #[]::lb) W fun _ W'=>
    (∃H i,Hp W' H∧H[i]? =some (some l,Lr c .ready none)∧ ∀W2,Hp W2 (H.set i (some l,Lr c .exhausted none))→Fr [l] W' W2→ ∀ [bF],Wd P n fn D Post cs env W2)∨
    (∃H i,Hp W' H∧H[i]? =some (some l,Lr c .done (some (.exit id)))∧ ∀W2,Hp W2 (H.set i (some l,Lr c .exhausted (some (.exit id))))→Fr [l] W' W2→ ∀ [bF],Wd P n fn D Post cs env W2)∨
    (∃H i,Hp W' H∧H[i]? =some (some l,Lr c .done (some .ret))∧ ∀W2,Hp W2 (H.set i (some l,Lr c .exhausted (some .ret)))→Fr [l] W' W2→ ∀ [bF],G8 P n fn D Post .ret env W2)):
  Wf P n fn Post (.block id (.rangeFunc g ps asg body)::cs) env w:=fun a r=>by
 refine wpIn_block (wpIn_rangeFunc fun f _=>?_);have e2:=r.eval hg;obtain⟨c,hc⟩: ∃c:Lc,c=⟨f,a.tmps,ps,asg,body,w.heap.size⟩:=⟨_,rfl⟩;obtain⟨W1,hW1⟩: ∃W1,(w.alloc (.deferred (some []))).alloc (Lr c .ready none)=W1:=⟨_,rfl⟩;have hsz:(w.alloc (.deferred (some []))).heap.size=w.heap.size+1:=World.size_alloc ..;have hF:Fr [] w W1:=by rw[←hW1];exact(Fr.alloc w _).step0 (Fr.alloc _ _)
 have hmain:=h c w.heap.size (w.heap.size+1) W1 (by rw[hc]) (by rw[hc]) (by rw[hc]) (by rw[hc];exact⟨r.size,r.get⟩) hF (Nat.le_refl _) (by omega) (fun H hp=>by
  have h1:=(hp.alloc (.deferred (some []))).alloc (Lr c .ready none);rw[hW1,hsz,List.append_assoc]at h1;exact h1)
 refine⟨w.heap.size+1,[{target:= .collected w.heap.size,args:= #[]}],W1,{target:= .fn (.func gf) lb.toArray,args:= #[.func (.yield (w.heap.size+1)) #[] #[]]},W1,gf,
  (.func (.yield (w.heap.size+1)) #[] #[]::lb).toArray,W1,?_,?_,fun _ _=>trivial,?_,fun h=>by simp[Fence.wide]at h,?_⟩
 ·rw[←hW1,hc];exact run_enterLoop_outer _ _ _ _ _
 ·simp only[resolve,e2];simp[go_sem]
 ·have eg:=hent;unfold bI at eg;cases hq:P.funcs[gf]? with
  |none=>simp[hq]at eg
  |some fn'=>
   simp only[hq,Bool.and_eq_true,Bool.not_eq_true',beq_eq_false_iff_ne]at eg;obtain⟨h2,h3⟩:=eg;have h4: ¬fn'.body=none:=by intro hbb;simp[hbb]at h3
   simp only[invoke];simp[callFunc,hq,h2,h4]
 ·have hcalls:=(callsIn_wide (n:=0 - 1)).2 hmain.2;refine hcalls.mono fun e W' ⟨v,he,hv⟩=>?_;subst he;have hd0:a.defers= []:=r.defers;have ra: @gj (yc w.heap.size) n env {a with defers:= [{target:= .collected w.heap.size,args:= #[]}]++a.defers}:= @gj.mk (yc _) _ _ _ r.size (by rw[hd0];rfl) r.get;rcases hv with⟨H,i,hp,hi,h2⟩|⟨H,i,hp,hi,h2⟩|⟨H,i,hp,hi,h2⟩
  ·exact⟨none,_,run_endLoop (hp.at hi) (by simp),rJ cs env _ _ (@h2 _ (hp.putObj _ hi) Fr.putObj (yc _)) ra⟩
  ·refine⟨some (.exit id),_,run_endLoop (hp.at hi) (by simp),?_⟩;refine wpIn_exit ?_;simp only[Exit.inBlock,if_true];exact rJ cs env _ _ (@h2 _ (hp.putObj _ hi) Fr.putObj (yc _)) ra
  ·refine⟨some .ret,_,run_endLoop (hp.at hi) (by simp),?_⟩;exact wpIn_ret (m3 (.inr rfl) ra (@h2 _ (hp.putObj _ hi) Fr.putObj (yc _)))
theorem Ez{f:FuncId}{c:Code}{args:List Value}(n:Nat)(he:bI P f=true)(hf:P.funcs[f]? =some fn)(hb:fn.body=some c)(hn:fn.ntmps=n)(hle:Nat.ble args.length n=true)
  (h:Wf P n fn Post [c] (dL 0 args) w):Fn P f args w Post:=by
 refine⟨he,callsIn_wide (n:=0)|>.1 (callsIn_of_wp_marks hf hb trivial (Code.wpIn_mono (fun e a' w' hq=>by cases e<;>exact hq) (h _ ⟨?_,rfl,fun k v hk=>?_⟩)))⟩
 ·have:args.length≤n:=by simpa[Nat.ble_eq]using hle
  simp[hn];omega
 ·obtain⟨_,h2⟩:=jz args 0 k v hk;simp only[Nat.sub_zero]at h2;have hlt:k<args.length:=(List.getElem?_eq_some_iff.1 h2).1;have h3:args[k]=v:=(List.getElem?_eq_some_iff.1 h2).2;simp[Array.getElem?_append,hlt,h3]
end
section
variable [bF] {P:Program} {n:Nat} {env:aK} {w:World} {o:Oper} {K:aK→World→Prop} {H:bX}
end
section
variable [bF] {P:Program} {n:Nat} {env:aK} {w:World} {o:Oper} {K:aK→World→Prop} {H:bX}
end
end Go.Proofs.YtfgofabojepcmaaGreatDoor
end

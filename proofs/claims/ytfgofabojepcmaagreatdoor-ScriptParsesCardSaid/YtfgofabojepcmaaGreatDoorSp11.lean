/- Hidden entries; operations of a plan. -/
import Derived.Test.YtfgofabojepcmaaGreatDoorSp10
import Derived.Test.YtfgofabojepcmaaGreatDoorSp9
section
set_option linter.unusedVariables false
set_option linter.unusedSectionVars false
set_option linter.unusedSimpArgs false
namespace Go.Proofs.YtfgofabojepcmaaGreatDoor.V
open Go.RowKit
section
variable [bF] [al] {U:bJ} {P:Program} {nt:Nat} {T:cH U} {G:bS U} {X:List Nat} {w w' w0:World} {ρ ρ0:Nat→Rz} {n n0:Nat} {H H' H0:Hs U} {R e e':En U} {ce:aK} {o:Oper} {S:List Nat}
omit [al]in
theorem cd.mono{K K':aK→World→Prop}(h:cd P nt ce w o K)(hk: ∀e w,K e w→K' e w):cd P nt ce w o K':=fun a r=>Oper.wp_mono (fun a' w' ⟨e',r',q⟩=>⟨e',r',hk _ _ q⟩) (h a r)
omit [al]in
theorem dp:bg R e []:=fun x hx=>by cases hx
omit [al]in
theorem j3{c:Call}{f:FuncId}(h1:c.callee= .value (.func f)):c={callee:= .value (.func f),args:=c.args.toList.toArray,argTypes:=c.argTypes}:=by
 obtain⟨a,b,d⟩:=c;simp only at h1;rw[h1]
omit [al]in
theorem mB{c:Call}{s:Nat}(h1:c.callee= .value (.tmp s)):c={callee:= .value (.tmp s),args:=c.args.toList.toArray,argTypes:=c.argTypes}:=by
 obtain⟨a,b,d⟩:=c;simp only at h1;rw[h1]
theorem FC(hd:(o.dst.all (Nat.blt · nt))=true){f:FuncId}{xs:List Operand}{ts:Array TypeId}{vs:List Value}{K:AV U→Nat→Hs U→Prop}(ho:o.op= .call {callee:= .value (.func f),args:=xs.toArray,argTypes:=ts})(hx:ce.evs xs=some vs)
  (hc:Fn P f vs w fun v w'=> ∃av n' H' ρ',K av n' H'∧jg (Vw U X w' ρ' n' H') av v∧bd U X (· =w') ρ' n' H'∧bP ρ n H w ρ' n' H' w'):il P nt U X w ρ n H ce o K:=by
 unfold il;cases hdst:o.dst with
 |none=>
  refine Bb ho hdst hx hc fun v w' ⟨av,n',H',ρ',a,b,c,d⟩=>?_;exact⟨av,n',H',ρ',v,a,rfl,b,c,d⟩
 |some d=>
  rw[hdst]at hd;refine rK ho hdst (by simpa using hd) hx hc fun v w' ⟨av,n',H',ρ',a,b,c,d⟩=>?_;exact⟨av,n',H',ρ',v,a,rfl,b,c,d⟩
theorem vQ{Y:List Nat}{w:World}:jJ Y w w:=⟨[],Fr.refl _ _,fun _ h=>(by cases h)⟩
theorem x9.call{Y:List Nat}{u v:Value}{a:bj}{g:TT U.ty a→Bool}{t:TT U.ty a}(hf:x9 U Y (· =w) u a g)(hY: ∀z∈gB,z∈Y)(hd:aG U Y (· =w) a t v.cells.toList)(hv:d9 (e8 a) v v.cells.toList)(hdm:uI a t):nE al.pr u [v] w fun r w3=>r= .bool (g t)∧Fr [] w w3:=
 hf.2 w rfl w vQ t _ v (aG.mv (Mv.sub hY) hd) hv hdm
theorem ya.call{Y:List Nat}{u v v':Value}{a b:bj}{g:TT U.ty a→TT U.ty b→Int}{t:TT U.ty a}{t':TT U.ty b}(hf:ya U Y (· =w) u a b g)(hY: ∀z∈gB,z∈Y)(hd:aG U Y (· =w) a t v.cells.toList)(hv:d9 (e8 a) v v.cells.toList)(hd':aG U Y (· =w) b t' v'.cells.toList)(hv':d9 (e8 b) v' v'.cells.toList):nE al.pr u [v,v'] w fun r w3=>r= .int .i64 (g t t')∧cZ .i64 (g t t')∧Fr [] w w3:=
 hf.2 w rfl w vQ t _ v t' _ v' (aG.mv (Mv.sub hY) hd) hv (aG.mv (Mv.sub hY) hd') hv'
theorem DK(hpr:al.pr=P){c:Cx U}{u:Value}{xs:List (Va U)}{vs:List Value}{K:AV U→Hs U→Prop}(h:IR c xs H K)(M:bd U X (· =w) ρ n H)(hc:Vw U X w ρ n H c [u])(hv:bB (Vw U X w ρ n H) xs vs):
  nE P u vs w fun r w'=> ∃av H',K av H'∧jg (Vw U X w' ρ n H') av r∧bd U X (· =w') ρ n H'∧bP ρ n H w ρ n H' w':=by
 unfold IR at h;split at h
 ·rename_i a g x;obtain⟨v,us,rfl,h1,h2⟩:=hv;rw[show us= []from h2];cases hb:(x.ag==e8 a)with
  |false=>rw[hb]at h;exact h.elim
  |true=>
   rw[hb]at h;obtain⟨H1,t,hK,M1,s1,d1⟩:=jp h M;obtain⟨hdm,hK⟩:=yy hK;obtain⟨u',e,hf⟩:=aV.step s1 hc;injection e with e;subst e;have hA:=ma h1;rw[beq_iff_eq.1 hb]at hA;rw[←hpr];obtain⟨f,fi,ca,e,hfn⟩:=hf.call M1.gY (d1 v h1) hA hdm;refine⟨f,fi,ca,e,hfn.mono fun r w' ⟨e2,hf2⟩=>?_⟩;obtain⟨M2,s2⟩:=M1.keep0 hf2;exact⟨_,H1,hK,e2▸g9,M2,s1.trans s2⟩
 ·rename_i a b g x y;obtain⟨v,us,rfl,h1,v',us',rfl,h3,h4⟩:=hv;rw[show us'= []from h4];cases hb:((x.ag==e8 a)&&(y.ag==e8 b))with
  |false=>rw[hb]at h;exact h.elim
  |true=>
   rw[hb]at h;rw[Bool.and_eq_true]at hb;obtain⟨H1,t,h,M1,s1,d1⟩:=jp h M;obtain⟨H2,t',hK,M2,s2,d2⟩:=jp h M1;obtain⟨u',e,hf⟩:=aV.step (s1.trans s2) hc;injection e with e;subst e;have hA:=ma h1;have hB:=ma h3;rw[beq_iff_eq.1 hb.1]at hA;rw[beq_iff_eq.1 hb.2]at hB;rw[←hpr];obtain⟨f,fi,ca,e,hfn⟩:=hf.call M2.gY (aG.mv (s2.mv (X:=X)) (d1 v h1)) hA (d2 v' (ct.imp (fun _ _ h=>aV.step s1 h) h3)) hB;refine⟨f,fi,ca,e,hfn.mono fun r w' ⟨e2,hin,hf2⟩=>?_⟩;obtain⟨M3,s3⟩:=M2.keep0 hf2;exact⟨_,H2,hK,e2▸lK hin,M3,(s1.trans s2).trans s3⟩
 ·exact h.elim
omit [bF] [al]in
theorem bB.app{V:Cx U→List Value→Prop}: ∀{l l':List (Va U)} {us us':List Value},bB V l us→bB V l' us'→bB V (l++l') (us++us')
 | [],l',us,us',h,h'=>by rw[show us= []from h];exact h'
 |x::l,l',us,us',h,h'=>by obtain⟨v,vs,rfl,h1,h2⟩:=h;exact⟨v,vs++us',rfl,h1,bB.app h2 h'⟩
omit [bF]in
theorem sx{Y:List Nat}{S:World→Prop}: ∀{js:List Nat},(∀j∈js,j<n∧bc (aB H j)=none∧ ∃g,(ρ j).A=some ⟨g,0,none⟩)→bB (aV U Y S ρ n H) (Dc js) (js.map fun j=>Value.pointer (ρ j).A)
 | [],_=>rfl
 |j::js,h=>by
  obtain⟨a,b,g,c⟩:=h j (by simp);exact⟨_,_,rfl,eD ⟨a,b,g,c,by simp only[c]⟩,sx fun k hk=>h k (by simp[hk])⟩
theorem sy(hG:c6 P U G)(hT:bl U P T)(hd:(o.dst.all (Nat.blt · nt))=true){K:AV U→Nat→Hs U→Prop}(h:uT T G o R e n H K)(M:bd U X (· =w) ρ n H)(he:aM (Vw U X w ρ n H) R e ce):il P nt U X w ρ n H ce o K:=by
 unfold uT at h;split at h
 ·rename_i t ho;obtain⟨d,hdst,hn,h⟩:=eo h hd;split at h
  ·rename_i ti hti;exact vz (hT _ _ hti) h ho hdst hn M
  ·exact h.elim
 ·rename_i t x ho;obtain⟨d,hdst,hn,h⟩:=eo h hd;obtain⟨v,h,hv⟩:=c8 h he;obtain⟨u,e1,h1⟩:=hv dp;exact DC h ho hdst hn e1 h1 M
 ·rename_i t ho;obtain⟨d,hdst,hn,h⟩:=eo h hd;split at h
  ·rename_i ti hti;split at h
   ·rename_i kd hm;exact vA (hT _ _ hti) hm hG.1 h ho hdst hn M
   ·exact h.elim
  ·exact h.elim
 ·rename_i t m kx x ho;obtain⟨hdst,h⟩:=qX h;obtain⟨c,h,hc⟩:=bm h he;obtain⟨kv,h,hk⟩:=c8 h he;obtain⟨v,h,hv⟩:=c8 h he;obtain⟨u0,e1,h1⟩:=hc dp;obtain⟨u1,e2,h2⟩:=hk dp;obtain⟨u,e3,h3⟩:=hv dp;refine cd.mono (CB hG.1 h ho hdst e1 e2 e3 h1 h2 h3 hT M) ?_;rintro ce' w' ⟨av,n',H',ρ',cv,⟨rfl,hK⟩,a,b,c,d⟩;exact⟨.un,_,H',ρ',cv,hK,a,trivial,c,d⟩
 ·rename_i t x ho;obtain⟨d,hdst,hn,h⟩:=eo h hd;obtain⟨c,h,hc⟩:=bm h he;obtain⟨u0,e1,h1⟩:=hc dp;refine cd.mono (CD h ho hdst hn e1 h1 hT M) ?_;rintro ce' w' ⟨av,n',H',ρ',cv,⟨rfl,rfl,hK⟩,a,b,c,d⟩;exact⟨_,_,H',ρ',cv,hK,a,b,c,d⟩
 ·rename_i x ho;obtain⟨d,hdst,hn,h⟩:=eo h hd;obtain⟨c,h,hc⟩:=bm h he;obtain⟨u0,e1,h1⟩:=hc dp;refine cd.mono (CE h ho hdst hn e1 h1 M) ?_;rintro ce' w' ⟨av,n',H',ρ',cv,⟨rfl,hK⟩,a,b,c,d⟩;exact⟨av,_,H',ρ',cv,hK,a,b,c,d⟩
 ·rename_i x ho;obtain⟨d,hdst,hn,h⟩:=eo h hd;obtain⟨c,h,hc⟩:=bm h he;obtain⟨u0,e1,h1⟩:=hc dp;refine cd.mono (CF h ho hdst hn e1 h1 M) ?_;rintro ce' w' ⟨av,n',H',ρ',cv,⟨rfl,hK⟩,a,b,c,d⟩;exact⟨av,_,H',ρ',cv,hK,a,b,c,d⟩
 ·rename_i t x y ho;obtain⟨hdst,h⟩:=qX h;obtain⟨c,h,hc⟩:=bm h he;obtain⟨v,h,hv⟩:=c8 h he;obtain⟨u0,e1,h1⟩:=hc dp;obtain⟨u,e2,h2⟩:=hv dp;refine cd.mono (vB h ho hdst e1 e2 h1 h2 hT M) ?_;rintro ce' w' ⟨av,n',H',ρ',cv,⟨rfl,hK⟩,a,b,c,d⟩;exact⟨.un,_,H',ρ',cv,hK,a,trivial,c,d⟩
 ·rename_i t k ps ho;obtain⟨d,hdst,hn,h⟩:=eo h hd;obtain⟨el,ei,h,hu,hes,hei⟩:=kT h hT;split at h
  ·rename_i s hsh;cases hb:(Nat.beq ei.sz (aS U s)&&Nat.blt 0 (aS U s)&&Nat.ble (k*aS U s) 1000)with
   |false=>rw[hb]at h;exact h.elim
   |true=>
    rw[hb]at h;simp only[cond_true]at h;simp only[Bool.and_eq_true,Nat.blt_eq]at hb;exact DD h (by rw[ho]) hdst hn hes hei (Nat.eq_of_beq_eq_true hb.1.1) hb.1.2 (Nat.le_of_ble_eq_true hb.2) M he
  ·exact h.elim
 ·rename_i t x y ho;obtain⟨d,hdst,hn,h⟩:=eo h hd;obtain⟨c,h,hc⟩:=bm h he;obtain⟨c',h,hc'⟩:=bm h he;split at h
  ·obtain⟨u0,e1,h1⟩:=hc dp;obtain⟨u1,e2,h2⟩:=hc' dp;obtain⟨rfl,_⟩:=aG.intE h1;obtain⟨rfl,_⟩:=aG.intE h2;exact DE h ho hdst hn e1 e2 hT M
  ·exact h.elim
 ·rename_i c ho;split at h
  ·rename_i hcal;split at h
   ·rename_i x y t t' h2 h3;obtain⟨d,hdst,hn,hh⟩:=eo h hd;clear h;cases hb:Nat.beq t t' with
    |false=>rw[hb]at hh;exact hh.elim
    |true=>
     rw[hb]at hh;simp only[cond_true]at hh;have:=Nat.eq_of_beq_eq_true hb;subst this;obtain⟨c1,hh,hc1⟩:=bm hh he;obtain⟨c2,hh,hc2⟩:=bm hh he;obtain⟨u0,e1,k1⟩:=hc1 dp;obtain⟨u1,e2,k2⟩:=hc2 dp;exact DF hh (by rw[ho,jS hcal h2 h3]) hdst hn e1 e2 k1 k2 hT M
   ·exact h.elim
  ·rename_i hcal;split at h
   ·rename_i m kx t t' h2 h3;obtain⟨hdst,hh⟩:=qX h;clear h;obtain⟨c,hh,hc⟩:=bm hh he;obtain⟨kv,hh,hk⟩:=c8 hh he;obtain⟨u0,e1,k1⟩:=hc dp;obtain⟨u1,e2,k2⟩:=hk dp;refine cd.mono (CC hG.1 hh (by rw[ho,jS hcal h2 h3]) hdst e1 e2 k1 k2 hT M) ?_;rintro ce' w' ⟨av,n',H',ρ',cv,⟨rfl,hK⟩,a,b,c,d⟩;exact⟨.un,_,H',ρ',cv,hK,a,trivial,c,d⟩
   ·exact h.elim
  ·rename_i f hcal;obtain⟨xs,h,hxs⟩:=e9 h he;obtain⟨vs,e1,hv⟩:=hxs dp;unfold je at h;split at h
   ·rename_i k hk;exact FC hd (by rw[ho];exact congrArg Op.call (j3 hcal)) e1 (kW hG (hG.2 f k hk) h M hv)
   ·exact h.elim
  ·rename_i s hcal;obtain⟨d,hdst,hn,h⟩:=eo h hd;obtain⟨x,h,hx⟩:=bm h he;obtain⟨xs,h,hxs⟩:=e9 h he;obtain⟨u,e0,h0⟩:=hx dp;obtain⟨vs,e1,hv⟩:=hxs dp;have go:nE P u vs w (fun v w'=> ∃av n' H' ρ',K av n' H'∧jg (Vw U X w' ρ' n' H') av v∧bd U X (· =w') ρ' n' H'∧bP ρ n H w ρ' n' H' w')→il P nt U X w ρ n H ce o K:=fun hf=>by
    refine iS (by rw[ho];exact congrArg Op.call (mB hcal)) hdst hn e0 e1 hf fun v w' ⟨av,n',H',ρ',a,b,c,d⟩=>?_;exact⟨av,n',H',ρ',v,a,by rw[hdst];rfl,b,c,d⟩
   split at h
   ·rename_i f _;unfold je at h;split at h
    ·rename_i k hk;have e2: [u]= [Value.func (.func f) #[] #[]]:=h0;injection e2 with e2;subst e2;exact go (nE.of (kW hG (hG.2 f k hk) h M hv))
    ·exact h.elim
   ·rename_i f js _;unfold je at h;split at h
    ·rename_i k hk;obtain⟨e2,hj⟩:=h0;injection e2 with e2;subst e2;exact go (nE.ofc _ (kW hG (hG.2 f k hk) h M (hv.app (sx hj))))
    ·exact h.elim
   ·rename_i f s' t _;unfold je at h;split at h
    ·rename_i k hk;obtain⟨u',e2,hd'⟩:=h0;injection e2 with e2;subst e2;exact go ⟨f,[u'],[],rfl,by have h9:=kW hG (hG.2 f k hk) h M (vs:=u'::vs) ⟨u',vs,rfl,eD hd',hv⟩;simpa using h9⟩
    ·exact h.elim
   ·obtain⟨f,fi,ca,e2,hf⟩:=DK hG.1 h M h0 hv;exact go ⟨f,fi,ca,e2,hf.mono fun v w' ⟨av,H',a,b,c,d⟩=>⟨av,n,H',ρ,a,b,c,d⟩⟩
  ·exact h.elim
 ·exact h.elim
structure dg(R e:En U)(S:List Nat):Prop where
 rs: ∀k,aB R k≠none→k∈S
 gd: ∀k av,aB R k=some av→ ∃p x,av= .gd p x∧ ∀q∈p,q.1∈S
 ne: ∀k,aB R k≠none→aB e k=none
omit [al]in
theorem fB{α:Type}{d k:Nat}{x:α}{l:List (Nat×α)}(h: ¬d=k):aB ((d,x)::l) k=aB l k:=by
 show(bif Nat.beq d k then some x else aB l k)=_
 rw[cn h];rfl
omit [al]in
theorem jt{d k:Nat}{u:Value}(h: ¬d=k):aK.get ((d,u)::ce) k=ce.get k:=by
 show(bif Nat.beq d k then some u else ce.get k)=_
 rw[cn h];rfl
omit [al]in
theorem oL{d:Nat}{u:Value}:aK.get ((d,u)::ce) d=some u:=by
 show(bif Nat.beq d d then some u else ce.get d)=_
 rw[Nat.beq_refl];rfl
omit [al]in
theorem sA{d s:Nat}{av:AV U}(h: ¬d=s):ef R ((d,av)::e) s=ef R e s:=by
 unfold ef;rw[fB h]
omit [al]in
theorem sB{d s:Nat}{av:AV U}(h: ¬d=s):ef ((d,av)::R) e s=ef R e s:=by
 unfold ef;rw[fB h]
omit [al]in
theorem DL{d:Nat}{av:AV U}{p:b8}(h: ∀q∈p,¬d=q.1):bg R ((d,av)::e) p↔bg R e p:=
 ⟨fun hp q hq=>by rw[←sA (h q hq)];exact hp q hq,fun hp q hq=>by rw[sA (h q hq)];exact hp q hq⟩
omit [al]in
theorem vR{d:Nat}{av:AV U}{p:b8}(h: ∀q∈p,¬d=q.1):bg ((d,av)::R) e p↔bg R e p:=
 ⟨fun hp q hq=>by rw[←sB (h q hq)];exact hp q hq,fun hp q hq=>by rw[sB (h q hq)];exact hp q hq⟩
omit [al]in
theorem aM.putV{V:Cx U→List Value→Prop}(he:aM V R e ce)(hr:dg R e S){d:Nat}(hd:d∉S){av:AV U}{cv:Value}(hv:jg V av cv):aM V R ((d,av)::e) ((d,cv)::ce)∧dg R ((d,av)::e) S:=by
 have hne: ∀k,aB R k≠none→ ¬d=k:=fun k hk h=>hd (h▸hr.rs k hk);refine⟨⟨fun k x h1 h2=>?_,fun k l h1 h2=>?_,fun k p x h1=>?_⟩,⟨hr.rs,hr.gd,fun k hk=>by rw[fB (hne k hk)];exact hr.ne k hk⟩⟩
 ·by_cases e1:d=k
  ·subst e1;rw[ow]at h2;injection h2 with h2;subst h2;exact⟨cv,oL,hv⟩
  ·rw[fB e1]at h2;rw[jt e1];exact he.v k x h1 h2
 ·by_cases e1:d=k
  ·subst e1;rw[ow]at h2;injection h2 with h2;subst h2;obtain⟨us,rfl,h3⟩:=hv;exact⟨us,oL,h3⟩
  ·rw[fB e1]at h2;rw[jt e1];exact he.t k l h1 h2
 ·have e1:=hne k (by rw[h1];simp);obtain⟨p',x',e2,hp⟩:=hr.gd k _ h1;injection e2 with e2 e3;subst e2;have hiff:=DL (R:=R) (e:=e) (d:=d) (av:=av) (p:=p) fun q hq h=>hd (h▸hp q hq);obtain⟨u,a,b,c⟩:=he.g k p x h1;exact⟨u,by rw[jt e1];exact a,fun h=>b (hiff.1 h),fun h=>c fun h'=>h (hiff.2 h')⟩
omit [al]in
theorem aM.putG{V:Cx U→List Value→Prop}(he:aM V R e ce)(hr:dg R e S){d s:Nat}(hd:d∉S)(hds: ¬d=s)(hde:aB e d=none){p:b8}{x:Va U}{cv:Value}(hps: ∀q∈p,q.1=s∨q.1∈S)(h1:bg R e p→ct V x cv)(h2: ¬bg R e p→cv=undef):aM V ((d,.gd p x)::R) e ((d,cv)::ce)∧dg ((d,.gd p x)::R) e (d::s::S):=by
 have hpd: ∀q∈p,¬d=q.1:=fun q hq h=>by rcases hps q hq with h'|h';(· exact hds (h.trans h'));(· exact hd (h▸h'))
 refine⟨⟨fun k y g1 g2=>?_,fun k l g1 g2=>?_,fun k p' x' g1=>?_⟩,⟨fun k hk=>?_,fun k av hk=>?_,fun k hk=>?_⟩⟩
 ·by_cases e1:d=k
  ·subst e1;rw[ow]at g1;cases g1
  ·rw[fB e1]at g1;rw[jt e1];exact he.v k y g1 g2
 ·by_cases e1:d=k
  ·subst e1;rw[ow]at g1;cases g1
  ·rw[fB e1]at g1;rw[jt e1];exact he.t k l g1 g2
 ·by_cases e1:d=k
  ·subst e1;rw[ow]at g1;injection g1 with g1;injection g1 with g2 g3;subst g2;subst g3;have hiff:=vR (R:=R) (e:=e) (d:=d) (av:= .gd p x) hpd;exact⟨cv,oL,fun h=>h1 (hiff.1 h),fun h=>h2 fun h'=>h (hiff.2 h')⟩
  ·rw[fB e1]at g1;obtain⟨p2,x2,e2,hp⟩:=hr.gd k _ g1;injection e2 with e2 e3;subst e2;have hiff:=vR (R:=R) (e:=e) (d:=d) (av:= .gd p x) (p:=p') fun q hq h=>hd (h▸hp q hq);obtain⟨u,a,b,c⟩:=he.g k p' x' g1;exact⟨u,by rw[jt e1];exact a,fun h=>b (hiff.1 h),fun h=>c fun h'=>h (hiff.2 h')⟩
 ·by_cases e1:d=k
  ·simp[e1]
  ·rw[fB e1]at hk;simp[hr.rs k hk]
 ·by_cases e1:d=k
  ·subst e1;rw[ow]at hk;injection hk with hk;refine⟨p,x,hk.symm,fun q hq=>?_⟩;rcases hps q hq with h|h
   ·simp[h]
   ·simp[h]
  ·rw[fB e1]at hk;obtain⟨p2,x2,e2,hp⟩:=hr.gd k _ hk;exact⟨p2,x2,e2,fun q hq=>by simp[hp q hq]⟩
 ·by_cases e1:d=k
  ·subst e1;exact hde
  ·rw[fB e1]at hk;exact hr.ne k hk
omit [al]in
theorem gp{V:Cx U→List Value→Prop}{all:List Oper}{j s:Nat}{b:Bool}{oj:Oper}(hV: ∀(k:Nat) (c:Bool) u,ct V ⟨false,[(k,.d .bool c)]⟩ u→u= .bool c)(he:aM V R e ce)(hr:dg R e S)(hg:o.guard=some (j,b))(hj:cL all j=some oj)(hs:oj.dst=some s){q:b8}{k:Nat}{c:Bool}
  (hc:aB R s=some (.gd q ⟨false,[(k,.d .bool c)]⟩)∨(aB R s=none∧aB e s=some (.v ⟨false,[(k,.d .bool c)]⟩)∧q= [])):
  (∀q'∈(s,b)::q,q'.1=s∨q'.1∈S)∧((bg R e ((s,b)::q)∧lH nt ce all.toArray o true)∨(¬bg R e ((s,b)::q)∧lH nt ce all.toArray o false)):=by
 have hjj:(all.toArray[j]?).bind (·.dst)=some s:=by simp only[List.getElem?_toArray];rw[←cu,hj];exact hs
 have yes:bg R e q→ce.get s=some (.bool c)→ef R e s=some c→(bg R e ((s,b)::q)∧lH nt ce all.toArray o true)∨(¬bg R e ((s,b)::q)∧lH nt ce all.toArray o false):=fun hq hget hslot=>by
  have hw:=He (n:=nt) (env:=ce) (ops:=all.toArray) hg hjj hget;by_cases hcb:c=b
  ·subst hcb;refine .inl ⟨fun x hx=>?_,by simpa using hw⟩;rcases List.mem_cons.1 hx with rfl|hx
   ·exact hslot
   ·exact hq x hx
  ·refine .inr ⟨fun hp=>?_,?_⟩
   ·have:=hp (s,b) (by simp);rw[hslot]at this;injection this with this;exact hcb this
   ·rw[show(c==b)=false by simpa using hcb]at hw;exact hw
 rcases hc with hc|⟨hR,hc,rfl⟩
 ·obtain⟨p',x',e2,hp⟩:=hr.gd s _ hc;injection e2 with e2 e3;subst e2;refine⟨fun q' hq'=>?_,?_⟩
  ·rcases List.mem_cons.1 hq' with rfl|h
   ·exact .inl rfl
   ·exact .inr (hp q' h)
  ·obtain⟨u,hu,h1,h2⟩:=he.g s _ _ hc;by_cases hq:bg R e q
   ·exact yes hq (by rw[hu,hV _ _ _ (h1 hq)]) (by unfold ef;rw[hc])
   ·rw[h2 hq]at hu;exact .inr ⟨fun hp=>hq fun x hx=>hp x (by simp[hx]),KG hg hjj hu⟩
 ·refine⟨fun q' hq'=>?_,?_⟩
  ·rcases List.mem_cons.1 hq' with rfl|h
   ·exact .inl rfl
   ·cases h
  ·obtain⟨u,hu,h1⟩:=he.v s _ hR hc;exact yes dp (by rw[hu,hV _ _ _ h1]) (by unfold ef;rw[hR,hc])
end
end Go.Proofs.YtfgofabojepcmaaGreatDoor.V
end

section
set_option linter.unusedVariables false
set_option linter.unusedSectionVars false
set_option linter.unusedSimpArgs false
namespace Go.Proofs.YtfgofabojepcmaaGreatDoor.V
open Go.RowKit
section
variable [bF] [al] {U:bJ} {P:Program} {nt:Nat} {T:cH U} {G:bS U} {X:List Nat} {w w' w0:World} {ρ ρ0:Nat→Rz} {n n0 b:Nat} {H H' H0:Hs U} {R e e':En U} {ce:aK} {o:Oper} {S:List Nat}
theorem aV.up{Y:List Nat}{ρ':Nat→Rz}{x:Cx U}{vs:List Value}(h:aV U Y (· =w) ρ' 0 [] x vs):aV U Y (· =w) ρ n H x vs:=by
 cases x with
 |own i v=>exact absurd h.1 (Nat.not_lt_zero _)
 |ptr i v=>exact absurd h.1 (Nat.not_lt_zero _)
 |pel i v q o=>exact absurd h.1 (Nat.not_lt_zero _)
 |pax i off m s q o=>exact absurd h.1 (Nat.not_lt_zero _)
 |clo f js=>
  cases js with
  |nil=>exact⟨h.1,by simp⟩
  |cons j js=>exact absurd (h.2 j (by simp)).1 (Nat.not_lt_zero _)
 |mp i=>exact absurd h.1 (Nat.not_lt_zero _)
 |ifp i=>exact absurd h.1 (Nat.not_lt_zero _)
 |_=>exact h
theorem oM(M:bd U X (· =w) ρ n H): ∀{js:List Nat} {K:List (Va U)→Prop},yE T H js K→ ∃caps,K caps∧(∀j∈js,∃l t,aB H j=some (.cells l t))∧
  ∀w2 O,Fr O w w2→(∀o∈O,o∈aj ρ H++X∨w.heap.size≤o)→(∀j∈js,∀g,(ρ j).A=some ⟨g,0,none⟩→g∉O)→ ∀(F0:al) (ρ0:Nat→Rz),bB (@aV F0 U gB (· =w2) ρ0 0 []) caps (js.map fun j=>Value.pointer (ρ j).A)
 | [],K,h=>⟨[],h,fun j hj=>(by cases hj),fun _ _ _ _ _ _ _=>rfl⟩
 |j::js,K,h=>by
  have h:(match aB H j with
   |some (.cells l t)=>(match aB T t with
    |some ti=>(match ti.sh with
     |some s=>cQ 20 s l fun x=>yE T H js fun r=>K (⟨false,[(1,.pd s x)]⟩::r)
     |none=>False)
    |none=>False)
   |_=>False):=h
  split at h
  ·rename_i l t hl;split at h
   ·rename_i ti hti;split at h
    ·rename_i s hs;obtain⟨x,h,hx⟩:=bt h;obtain⟨caps,hK,cells,hcap⟩:=oM M (js:=js) h;refine⟨_,hK,fun k hk=>?_,fun w2 O hf hO hj=>?_⟩
     ·rcases List.mem_cons.1 hk with rfl|hk
      ·exact⟨l,t,hl⟩
      ·exact cells k hk
     ·obtain⟨g,vs,hA,hsg,hw⟩:=M.ent _ (af hl);have hg:g∉O:=hj j (by simp) g hA;have hheap:=hw w rfl;have hd:=hx _ _ _ _ _ _ hsg;have hd2:aG U gB (· =w2) s x vs:= @aG.mv ⟨[],al.pr⟩ U (aj ρ H++X) gB (· =w) (· =w2) (fun w3 h3=>by
       subst h3;exact⟨w,_,rfl,Fr.sub hf hO,fun y hy=>⟨hy,fun h=>(by cases h)⟩,fun y hy=> .inl (List.mem_append_right _ (M.xs y (M.gv.1 y hy)))⟩) s x vs hd
      have gv0:=M.gv.1;have xd0:=M.xd;intro F0 ρ0;refine⟨_,_,rfl,?_,hcap w2 O hf hO (fun k hk=>hj k (by simp[hk])) F0 ρ0⟩;have hA:(ρ j).A=some ⟨g,0,none⟩:=hA;show ct _ _ (Value.pointer (ρ j).A)
      rw[hA];refine eD ⟨g,0,vs,rfl,hd2,fun w3 h3=>?_⟩;subst h3;intro i v hi;refine⟨g,0,rfl,fun hb=>xd0 g (az.2 ⟨_,af hl,(show ao (ρ j).A=some g by rw[hA];rfl)⟩) (gv0 g hb),?_⟩;have hb:w3.heap[g]? =some (Cl vs t):=by rw[hf.block g (bR hheap) hg];exact hheap
      rw[Nat.zero_add,cell_of_row w3 g i vs.toArray t (0,0) hb];simpa using hi
    ·exact h.elim
   ·exact h.elim
  ·exact h.elim
def Cs(U:bJ) [F:al](X:List Nat)(w:World)(ρ:Nat→Rz)(n:Nat)(H:Hs U)(x:Va U)(c:Cx U)(Z:List Nat):Prop:=(∀j∈Z,∃l t,aB H j=some (.cells l t))∧
 ∀F1:al,F1.pr=F.pr→(∀z∈F.xf,z∈F1.xf)→(∀j∈Z,∀g,(ρ j).A=some ⟨g,0,none⟩→g∈F1.xf)→ ∀v,ct (@Vw F U X w ρ n H) x v→ @aV F1 U (aj ρ H++X) (· =w) (fm ρ []) 0 [] c [v]
omit [al]in
theorem zk [F:al](hG:c6 P U G){a:bj}{x:Va U}{K:(TT U.ty a→Bool)→Prop}(h:yF T G H a x K)(M:bd U X (· =w) ρ n H): ∃g Z,K g∧Cs U X w ρ n H x (.f1 a g) Z:=by
 have gv0:=M.gv;unfold yF at h;split at h
 ·rename_i k f;obtain⟨c,⟨g,hr,hK⟩,hC⟩:=gc h hG.2;refine⟨g,[],hK,fun j hj=>(by cases hj),fun F1 hp hx hz v hv=>?_⟩;have e: [v]= [Value.func (.func f) #[] #[]]:=(show bK _ [(k,.fn f)] [v]from hv).one1.1;injection e with e;subst e;exact⟨_,rfl,oB (cvs:= []) hC (hp.trans hG.1) ⟨fun z hz=>hx z (gv0.1 z hz),gv0.2⟩ hr fun _ _ _ _=>rfl⟩
 ·rename_i k f js;obtain⟨caps,h,cells,hcap⟩:=oM M h;obtain⟨c,⟨g,hr,hK⟩,hC⟩:=gc h hG.2;refine⟨g,js,hK,cells,fun F1 hp hx hz v hv=>?_⟩;have e:=(show bK _ [(k,.clo f js)] [v]from hv).one1.1;have e:=e.1;injection e with e;subst e;exact⟨_,rfl,oB hC (hp.trans hG.1) ⟨fun z hz=>hx z (gv0.1 z hz),gv0.2⟩ hr fun w2 ⟨O,hf,hO⟩ F0 ρ0=>hcap w2 O hf (fun o ho=>(hO o ho).2) (fun j hj g hA ho=>(hO g ho).1 (hz j hj g hA)) F0 ρ0⟩
 ·exact h.elim
omit [al]in
theorem zl [F:al](hG:c6 P U G){a b:bj}{x:Va U}{K:(TT U.ty a→TT U.ty b→Int)→Prop}(h:yG T G H a b x K)(M:bd U X (· =w) ρ n H): ∃g Z,K g∧Cs U X w ρ n H x (.f2 a b g) Z:=by
 have gv0:=M.gv;unfold yG at h;split at h
 ·rename_i k f;obtain⟨c,⟨g,hr,hK⟩,hC⟩:=gc h hG.2;refine⟨g,[],hK,fun j hj=>(by cases hj),fun F1 hp hx hz v hv=>?_⟩;have e: [v]= [Value.func (.func f) #[] #[]]:=(show bK _ [(k,.fn f)] [v]from hv).one1.1;injection e with e;subst e;exact⟨_,rfl,oC (cvs:= []) hC (hp.trans hG.1) ⟨fun z hz=>hx z (gv0.1 z hz),gv0.2⟩ hr fun _ _ _ _=>rfl⟩
 ·rename_i k f js;obtain⟨caps,h,cells,hcap⟩:=oM M h;obtain⟨c,⟨g,hr,hK⟩,hC⟩:=gc h hG.2;refine⟨g,js,hK,cells,fun F1 hp hx hz v hv=>?_⟩;have e:=(show bK _ [(k,.clo f js)] [v]from hv).one1.1;have e:=e.1;injection e with e;subst e;exact⟨_,rfl,oC hC (hp.trans hG.1) ⟨fun z hz=>hx z (gv0.1 z hz),gv0.2⟩ hr fun w2 ⟨O,hf,hO⟩ F0 ρ0=>hcap w2 O hf (fun o ho=>(hO o ho).2) (fun j hj g hA ho=>(hO g ho).1 (hz j hj g hA)) F0 ρ0⟩
 ·exact h.elim
omit [al]in
theorem mC [F:al](hG:c6 P U G)(M:bd U X (· =w) ρ n H): ∀{md:List Md} {xs:List (Va U)} {K:List (Va U)→Prop},EY T G H md xs K→ ∃(ys:List (Va U)) (Z:List Nat),K ys∧(∀j∈Z,∃l t,aB H j=some (.cells l t))∧
  ∀F1:al,F1.pr=F.pr→(∀z∈F.xf,z∈F1.xf)→(∀j∈Z,∀g,(ρ j).A=some ⟨g,0,none⟩→g∈F1.xf)→ ∀vs,bB (@Vw F U X w ρ n H) xs vs→bB (@Vc F1 U (aj ρ H++X) w ρ [] []) ys vs
 | [],[],K,h=>⟨[],[],h,fun j hj=>(by cases hj),fun F1 hp hx hz vs hv=>hv⟩
 | [],_::_,K,h=>h.elim
 |m::md,[],K,h=>⟨[],[],h,fun j hj=>(by cases hj),fun F1 hp hx hz vs hv=>hv⟩
 | .d s::md,x::xs,K,h=>by
  have rel:gX true H [] ([]:List (aN U)):=⟨rfl,fun j i hj=>by simp at hj⟩;have h:lI true H [] x.l fun l=>cQ 20 s l fun t=>EY T G H md xs fun r=>K (⟨x.ag,[(aS U s,.d s t)]⟩::r):=h;obtain⟨l,h,hl⟩:=iL M.i h;have hl:=hl [] (aj ρ H++X) (fun y hy=>hy) rel;obtain⟨t,h,ht⟩:=bt (show cQ 20 s l _ from h);have hd: ∀v,ct (Vw U X w ρ n H) x v→aG U (aj ρ H++X) (· =w) s t v.cells.toList∧d9 x.ag v v.cells.toList:=fun v hv=>⟨ht _ _ _ _ _ _ (hl _ hv.cells),ma hv⟩;obtain⟨ys,Z,h,cells,hys⟩:=mC hG M h;refine⟨_,Z,h,cells,fun F1 hp hx hz vs hv=>?_⟩;obtain⟨v,us,e1,h1,h2⟩:=hv;exact⟨v,us,e1,sg (hd v h1).1 (hd v h1).2,hys F1 hp hx hz _ h2⟩
 | .p _::md,x::xs,K,h=>h.elim
 | .n::md,x::xs,K,h=>by
  have rel:gX true H [] ([]:List (aN U)):=⟨rfl,fun j i hj=>by simp at hj⟩;have h:lI true H [] x.l fun l=>EY T G H md xs fun r=>K (⟨x.ag,l⟩::r):=h;obtain⟨l,h,hl⟩:=iL M.i h;have hl:=hl [] (aj ρ H++X) (fun y hy=>hy) rel;have hv1: ∀v,ct (Vw U X w ρ n H) x v→ct (Vc U (aj ρ H++X) w ρ [] []) ⟨x.ag,l⟩ v:=fun v hv=>by obtain⟨a,lx⟩:=x;exact oH hl hv
  obtain⟨ys,Z,h,cells,hys⟩:=mC hG M h;refine⟨_,Z,h,cells,fun F1 hp hx hz vs hv=>?_⟩;obtain⟨v,us,e1,h1,h2⟩:=hv;exact⟨v,us,e1,(hv1 v h1).imp fun _ _ h=>aV.inst hx hp.symm h,hys F1 hp hx hz _ h2⟩
 | .f1 a::md,x::xs,K,h=>by
  have h:yF T G H a x fun g=>EY T G H md xs fun r=>K (⟨false,[(1,.f1 a g)]⟩::r):=h;obtain⟨g,js,h,cells1,cv⟩:=zk hG h M;obtain⟨ys,Z,h,cells,hys⟩:=mC hG M h;refine⟨_,js++Z,h,fun j hj=>(List.mem_append.1 hj).elim (cells1 j) (cells j),fun F1 hp hx hz vs hv=>?_⟩;obtain⟨v,us,e1,h1,h2⟩:=hv;exact⟨v,us,e1,eD (cv F1 hp hx (fun j hj=>hz j (List.mem_append_left _ hj)) v h1),hys F1 hp hx (fun j hj=>hz j (List.mem_append_right _ hj)) _ h2⟩
 | .f2 a b::md,x::xs,K,h=>by
  have h:yG T G H a b x fun g=>EY T G H md xs fun r=>K (⟨false,[(1,.f2 a b g)]⟩::r):=h;obtain⟨g,js,h,cells1,cv⟩:=zl hG h M;obtain⟨ys,Z,h,cells,hys⟩:=mC hG M h;refine⟨_,js++Z,h,fun j hj=>(List.mem_append.1 hj).elim (cells1 j) (cells j),fun F1 hp hx hz vs hv=>?_⟩;obtain⟨v,us,e1,h1,h2⟩:=hv;exact⟨v,us,e1,eD (cv F1 hp hx (fun j hj=>hz j (List.mem_append_left _ hj)) v h1),hys F1 hp hx (fun j hj=>hz j (List.mem_append_right _ hj)) _ h2⟩
omit [al]in
theorem aV.upI{F1:al} [F:al](hp:F1.pr=F.pr){Y:List Nat}{ρ':Nat→Rz}{x:Cx U}{vs:List Value}(hx: ∀a g,x≠ .f1 a g)(hx2: ∀a b g,x≠ .f2 a b g)(h: @aV F1 U Y (· =w) ρ' 0 [] x vs):aV U Y (· =w) ρ n H x vs:=aV.up (by
 cases x with
 |f1 a g=>exact absurd rfl (hx a g)
 |f2 a b g=>exact absurd rfl (hx2 a b g)
 |_=>exact h)
omit [al]in
theorem q7: ∀{l:List (bH U)},yH l=true→ ∀p∈l,(∀a g,p.2≠ .f1 a g)∧ ∀a b g,p.2≠ .f2 a b g
 |(k,x)::r,h,p,hp=>by
  have key:((∀a g,x≠ .f1 a g)∧ ∀a b g,x≠ .f2 a b g)∧yH r=true:=by
   cases x with
   |f1 a g=>cases h
   |f2 a b g=>cases h
   |_=>exact⟨⟨fun _ _ e=>(by cases e),fun _ _ _ e=>(by cases e)⟩,h⟩
  rcases List.mem_cons.1 hp with rfl|hp
  ·exact key.1
  ·exact q7 key.2 p hp
omit [al]in
theorem bK.impL{V V':Cx U→List Value→Prop}: ∀{l:List (bH U)} {vs:List Value},(∀p∈l,∀vs,V p.2 vs→V' p.2 vs)→bK V l vs→bK V' l vs
 | [],vs,_,hs=>hs
 |(k,x)::r,vs,h,hs=>by obtain⟨v1,v2,e,hl,hx,hr⟩:=hs;exact⟨v1,v2,e,hl,h (k,x) (by simp) _ hx,bK.impL (fun p hp=>h p (by simp[hp])) hr⟩
omit [al]in
theorem ct.impL{V V':Cx U→List Value→Prop}{x:Va U}{v:Value}(h: ∀p∈x.l,∀vs,V p.2 vs→V' p.2 vs)(hv:ct V x v):ct V' x v:=by
 unfold ct at*;split at hv
 ·obtain⟨vs,e,hs⟩:=hv;exact⟨vs,e,bK.impL h hs⟩
 ·exact bK.impL h hv
omit [al]in
theorem zm{F0:al}{ρ0:Nat→Rz}(hlo: ∀x∈X,x<w.heap.size)(hx: ∀z∈F0.xf,z∈X)(hgv: @pJ F0 (· =w)): @bd F0 U X (· =w) ρ0 ([]:List (aN U)).length (aJ 0 []):=
 ⟨List.nodup_nil,fun p hp=>(by cases hp),fun p hp=>(by cases hp),fun p hp=>(by cases hp),fun g hg=>(by cases hg),fun w2 h2 g hg=>(by subst h2;exact hlo g hg),hx,hgv⟩
omit [al]in
theorem vS [F:al](hG:c6 P U G){p:b8}{K:Va U→Prop}(h:qO T G p o R e n H K)(M:bd U X (· =w) ρ n H)(he:aM (Vw U X w ρ n H) R e ce): ∃x,K x∧(bg R e p→ ∃fx fv xs ts vs,o.op= .call {callee:= .value fx,args:=List.toArray xs,argTypes:=ts}∧ce.ev fx=some fv∧ce.evs xs=some vs∧nE P fv vs w fun v w'=>ct (Vw U X w' ρ n H) x v∧Fr [] w w'):=by
 unfold qO at h;split at h
 ·rename_i c ho;split at h
  ·rename_i f hcal;split at h
   ·rename_i k hk;obtain⟨xs,h,hxs⟩:=e9 h he;obtain⟨x,h,hnf,hK⟩:=h;refine⟨x,hK,fun hp=>?_⟩;obtain⟨vs,e1,hv⟩:=hxs hp;obtain⟨ys,Z,h,cells,hys⟩:=mC hG M (ij h hp);refine⟨.func f,_,c.args.toList,c.argTypes,vs,by rw[ho];exact congrArg Op.call (j3 hcal),rfl,e1,nE.of ?_⟩;obtain⟨b,bp,bx,bz,bo⟩: ∃b:Bx,b.f.pr=F.pr∧(∀z∈F.xf,z∈b.f.xf)∧(∀j∈Z,∀g,(ρ j).A=some ⟨g,0,none⟩→g∈b.f.xf)∧ ∀z∈b.f.xf,z∈F.xf∨ ∃j∈Z,ao (ρ j).A=some z:=
     ⟨⟨⟨F.xf++Z.filterMap (fun j=>ao (ρ j).A),F.pr⟩⟩,rfl,fun z hz=>List.mem_append_left _ hz,fun j hj g hA=>List.mem_append_right _ (List.mem_filterMap.2 ⟨j,hj,by rw[hA];rfl⟩),fun z hz=>(List.mem_append.1 hz).imp id fun h=>List.mem_filterMap.1 h⟩
    have Mc:=zm (F0:=b.f) (U:=U) (X:=aj ρ H++X) (w:=w) (ρ0:=fm ρ []) (fun g hg=>by
      rcases List.mem_append.1 hg with h|h
      ·obtain⟨p,hp,h⟩:=az.1 h;exact cN M p hp g h
      ·exact M.lo w rfl g h) (fun z hz=>by
      rcases bo z hz with h|⟨j,hj,hA⟩
      ·exact List.mem_append_right _ (M.xs z h)
      ·obtain⟨l,t,hl⟩:=cells j hj;exact List.mem_append_left _ (az.2 ⟨_,af hl,hA⟩)) ⟨fun z hz=>bx z (M.gv.1 z hz),M.gv.2⟩
    refine Fn.mono (@hG.2 f k hk b.f (bp.trans hG.1) _ w _ [] ys vs _ Mc (hys b.f bp bx bz _ hv) h) fun v w'=>?_;rintro⟨r,es',ρ',⟨rfl,rfl⟩,hav,M',st⟩;have st:=bP.i (F0:=b.f) st;exact⟨ct.impL (fun p hp vs h=>aV.upI bp (q7 hnf p hp).1 (q7 hnf p hp).2 h) hav,st.fr⟩
   ·exact h.elim
  ·rename_i s hcal;obtain⟨d,h,hd⟩:=bm h he;obtain⟨xs,h,hxs⟩:=e9 h he;unfold LA at h;have hoo:o.op= .call {callee:= .value (.tmp s),args:=c.args.toList.toArray,argTypes:=c.argTypes}:=by rw[ho];exact congrArg Op.call (mB hcal)
   split at h
   ·rename_i a g x _;cases hb:((x.ag==e8 a)&&C4 a)with
    |false=>rw[hb]at h;exact h.elim
    |true=>
     rw[hb]at h;rw[Bool.and_eq_true]at hb;simp only[cond_true]at h;obtain⟨t,hK,ht⟩:=bt h;refine⟨_,hK,fun hp=>?_⟩;obtain⟨vs,e1,v,us,rfl,h1,h2⟩:=hxs hp;rw[show us= []from h2]at e1;obtain⟨u,e2,u',e3,hf⟩:=hd hp;injection e3 with e3;subst e3;have hA:=ma h1;rw[beq_iff_eq.1 hb.1]at hA;have hfn:=hf.call M.gY (ht _ _ _ _ _ _ h1.cells) hA (yz hb.2);rw[hG.1]at hfn;obtain⟨f,fi,ca,e,hfn⟩:=hfn;exact⟨.tmp s,u,_,_,_,hoo,e2,e1,f,fi,ca,e,hfn.mono fun r w' ⟨e4,hf2⟩=>⟨e4▸g9,hf2⟩⟩
   ·rename_i a b g x y _;cases hb:((x.ag==e8 a)&&(y.ag==e8 b))with
    |false=>rw[hb]at h;exact h.elim
    |true=>
     rw[hb]at h;rw[Bool.and_eq_true]at hb;simp only[cond_true]at h;obtain⟨t,h,ht⟩:=bt h;obtain⟨t',hK,ht'⟩:=bt h;refine⟨_,hK,fun hp=>?_⟩;obtain⟨vs,e1,v,us,rfl,h1,v',us',rfl,h3,h4⟩:=hxs hp;rw[show us'= []from h4]at e1;obtain⟨u,e2,u',e3,hf⟩:=hd hp;injection e3 with e3;subst e3;have hA:=ma h1;have hB:=ma h3;rw[beq_iff_eq.1 hb.1]at hA;rw[beq_iff_eq.1 hb.2]at hB;have hfn:=hf.call M.gY (ht _ _ _ _ _ _ h1.cells) hA (ht' _ _ _ _ _ _ h3.cells) hB;rw[hG.1]at hfn;obtain⟨f,fi,ca,e,hfn⟩:=hfn;exact⟨.tmp s,u,_,_,_,hoo,e2,e1,f,fi,ca,e,hfn.mono fun r w' ⟨e4,hin,hf2⟩=>⟨e4▸lK hin,hf2⟩⟩
   ·exact h.elim
  ·exact h.elim
 ·exact h.elim
omit [al]in
theorem vU: ∀{l:List Operand} {vs:List Value},ce.evs l=some vs→vs.length=l.length
 | [],vs,h=>by injection h with h;subst h;rfl
 |o::l,vs,h=>by
  simp only[aK.evs]at h;split at h
  ·rename_i v us h1 h2;injection h with h;subst h;rw[List.length_cons,List.length_cons,vU h2]
  ·cases h
omit [al]in
theorem sC: ∀{ps:List (Nat×Operand)} {j k:Nat},uU ps j k=true→ps.map (·.1)=List.range' j ps.length∧k=j+ps.length
 | [],j,k,h=>⟨rfl,(Nat.eq_of_beq_eq_true (show Nat.beq j k=true from h)).symm⟩
 |(i,x)::ps,j,k,h=>by
  have h:(Nat.beq i j&&uU ps (j+1) k)=true:=h;rw[Bool.and_eq_true]at h;obtain⟨h1,h2⟩:=sC h.2;have:=Nat.eq_of_beq_eq_true h.1;exact⟨by simp only[List.map_cons,List.length_cons,List.range'_succ,h1,this],by rw[List.length_cons];omega⟩
theorem vV{s:bj}(M:bd U X (· =w) ρ n H): ∀{l:List (Va U)} {K:List (TT U.ty s)→Prop},IS s H l K→ ∃xs,K xs∧xs.length=l.length∧ ∀vs,bB (Vw U X w ρ n H) l vs→vs.length=l.length∧ba U (aj ρ H++X) (· =w) s xs (vs.flatMap (·.cells.toList))∧ ∀v∈vs,v.cells.toList.length=aS U s
 | [],K,h=>⟨[],h,rfl,fun vs hv=>by rw[show vs= []from hv];exact⟨rfl,.nil s,fun v hv=>by cases hv⟩⟩
 |x::r,K,h=>by
  have rel:gX true H [] ([]:List (aN U)):=⟨rfl,fun j i hj=>by simp at hj⟩;have h:lI true H [] x.l fun l=>cQ 20 s l fun t=>IS s H r fun r=>K (t::r):=h;obtain⟨l,h,hl⟩:=iL M.i h;have hl:=hl [] (aj ρ H++X) (fun y hy=>hy) rel;obtain⟨t,h,ht⟩:=bt (show cQ 20 s l _ from h);obtain⟨xs,h,hlen,hx⟩:=vV M h;refine⟨_,h,by rw[List.length_cons,List.length_cons,hlen],fun vs hv=>?_⟩;obtain⟨v,us,rfl,h1,h2⟩:=hv;obtain⟨h3,h4,h5⟩:=hx _ h2;have hd:=ht _ _ _ _ _ _ (hl _ h1.cells);refine⟨by rw[List.length_cons,List.length_cons,h3],by rw[List.flatMap_cons];exact .cons s t xs _ _ hd hd.length h4,fun u hu=>?_⟩;rcases List.mem_cons.1 hu with rfl|hu
  ·exact hd.length
  ·exact h5 u hu
omit [al]in
theorem zn [F:al](hG:c6 P U G)(hT:bl U P T){p:b8}{K:Va U→Prop}(h:rX T G p o R e n H K)(M:bd U X (· =w) ρ n H)(he:aM (Vw U X w ρ n H) R e ce): ∃x,K x∧(bg R e p→ ∀{d:Nat} {C:aK→World→Prop},o.dst=some d→Nat.blt d nt=true→(∀v w',ct (Vw U X w' ρ n H) x v→Fr [] w w'→C ((d,v)::ce) w')→cd P nt ce w o C):=by
 unfold rX at h;split at h
 ·rename_i t k ps ho;obtain⟨el,ei,h,hu,hes,hei⟩:=kT h hT;split at h
  ·rename_i s hsh;cases hb:(Nat.beq ei.sz (aS U s)&&Nat.blt 0 (aS U s)&&Nat.ble (k*aS U s) 1000&&uU ps.toList 0 k)with
   |false=>rw[hb]at h;exact h.elim
   |true=>
    rw[hb]at h;simp only[cond_true]at h;simp only[Bool.and_eq_true,Nat.blt_eq]at hb;obtain⟨⟨⟨b1,b2⟩,b3⟩,b4⟩:=hb;obtain⟨i1,i2⟩:=sC b4;obtain⟨xs,h,hxs⟩:=e9 h he;obtain⟨l,hK,hll,hl⟩:=vV M h;refine⟨_,hK,fun hp {d} {C} hd hn hC=>?_⟩;obtain⟨vs,e1,hv⟩:=hxs hp;obtain⟨l1,l2,l3⟩:=hl vs hv;obtain⟨zs,hz,_,_⟩:=hei.zero;have l4:vs.length=ps.toList.length:=by have:=vU e1;rw[List.length_map]at this;exact this
    have hsz:=Nat.eq_of_beq_eq_true b1;refine vC (ps:=ps.toList) (by rw[ho]) hd hn e1 (by rw[i1,l4]) (by omega) (by rw[←hsz];exact hes) hz (Nat.le_of_ble_eq_true b3) l3 fun g w' hblk hf hg=>?_;have hkl:k=l.length:=by omega
    refine hC _ w' (eD ?_) hf;have hm:Mv (aj ρ H++X) (· =w) (aj ρ H++X) (· =w'):=fun w2 h2=>by
     subst h2;exact⟨w,[],rfl,hf,fun y hy=>(by cases hy),fun y hy=> .inl hy⟩
    rw[hkl];refine .sl s l _ _ _ (ba.mv hm l2) (fun w2 h2 j u hj=>?_) (Nat.le_refl _) ?_
    ·subst h2;refine⟨g,0,rfl,fun hgx=>?_,?_⟩
     ·have:g<w.heap.size:=by
       rcases List.mem_append.1 hgx with h|h
       ·obtain⟨p,hp,h⟩:=az.1 h;exact cN M p hp g h
       ·exact M.lo w rfl g h
      omega
     ·rw[Nat.zero_add,cell_of_row w2 g j _ el (0,0) hblk];simpa using hj
    ·have:=Nat.le_of_ble_eq_true b3;have:l.length*1≤l.length*aS U s:=Nat.mul_le_mul_left _ b2;rw[hkl]at b3;have:=Nat.le_of_ble_eq_true b3;unfold maxLen;omega
  ·exact h.elim
 ·obtain⟨x,hK,hx⟩:=vS hG h M he;refine⟨x,hK,fun hp {d} {C} hd hn hC=>?_⟩;obtain⟨fx,fv,xs,ts,vs,ho,hfx,hvs,hfn⟩:=hx hp;exact iS ho hd hn hfx hvs hfn fun v w' hvw=>hC v w' hvw.1 hvw.2
theorem nP(k:Nat)(c:Bool)(u:Value)(h:ct (Vw U X w ρ n H) ⟨false,[(k,.d .bool c)]⟩ u):u= .bool c:=aG.boolE (show bK _ [(k,.d .bool c)] [u]from h).one1.1
theorem zo{o:Oper}{x:AV U}{A:Prop}{u:Value}{Y:List Nat}{W:World→Prop}{ρ:Nat→Rz}{n:Nat}{H:Hs U}(h:yI o x A)(hu:jg (aV U Y W ρ n H) x u):A:=by
 unfold yI at h;split at h
 ·split at h
  ·split at h
   ·rename_i k0 k q;have h1:bK (aV U Y W ρ n H) [(k0,.d (.int k) q)] [u]:=hu;obtain⟨v1,v2,e1,e2,h2,h3⟩:=h1;exact h (aG.inv h2).2
   ·exact h
  ·exact h
 ·exact h
end
end Go.Proofs.YtfgofabojepcmaaGreatDoor.V
end

section
set_option linter.unusedVariables false
set_option linter.unusedSimpArgs false
namespace Go.Proofs.YtfgofabojepcmaaGreatDoor.V
open Go.RowKit
def j4(ops:Array Oper)(f:Nat):Prop:= ∀listed:Array Bool,gT .any ops listed→f∈Region.ready .any ops listed→ ∀k,k<ops.size→k=f∨listed.getD k false=true
section
variable {P:Program} {ops:Array Oper} {Q:Exit→Act→World→Prop} {S:World→Prop} {f:Nat}
theorem vW(h:AP .any ops f=true):j4 ops f:=fun listed hc hf k hk=>mV hc hf _ _ h (fun x hx=> .inl (by simpa using hx)) k (by simpa using hk)
theorem q9(h:ops.size≤f):j4 ops f:=fun listed hc hf k hk=>by
 obtain⟨_,o,ho,_⟩:=mem_ready.1 hf;have:=(Array.getElem?_eq_some_iff.1 ho).1;omega
theorem gO(hfin:j4 ops f){i:Nat}{oi:Oper}{v:Value}(hif:i≠f)(hi:ops[i]? =some oi)(hsel: ∀(j:Nat) (o:Oper) cs b,ops[j]? =some o→o.op≠ .select cs b)
  (hQ: ∀c a w,Q (.panic c) (a.put oi.dst v) w→Q (.panic c) a w): ∀(fuel:Nat) (listed:Array Bool) (a:Act) (w:World),gT .any ops listed→
   (∀j oj,ops[j]? =some oj→j≠i→listed.getD j true=false→(∀e∈oj.after,Region.binds .any e=true→e.on≠i)→oi.apart ops oj=true)→
   i∈Region.ready .any ops listed→YieldsIf P ops S oi v a→S w→
   gS P .any ops Q S f fuel (listed.setIfInBounds i true) (a.put oi.dst v) w→gS P .any ops Q S f (fuel+1) listed a w
 |0,listed,a,w,_,_,hr,hy,hS,H=>by
  refine⟨fun h=>(by rw[h]at hr;cases hr),fun j hj=>?_⟩;rcases Decidable.em (j=i)with rfl|hji
  ·exact hy.wpOp hi hS ⟨fun _=>hS,H⟩
  ·exact absurd (ready_mono hj hji) (by rw[H.1];exact List.not_mem_nil)
 |fuel+1,listed,a,w,hc,hfree,hr,hy,hS,H=>by
  refine⟨fun h=>(by rw[h]at hr;cases hr),fun j hj=>?_⟩;rcases Decidable.em (j=i)with rfl|hji
  ·exact hy.wpOp hi hS ⟨fun _=>hS,H⟩
  obtain⟨hjun,oj,hoj,hall⟩:=mem_ready.1 hj;have h0:=(mem_ready.1 hr).1;have hnl:listed.getD i false=true→False:=fun h1=>by
   rcases Nat.lt_or_ge i listed.size with h'|h'
   ·simp[h']at h0 h1;rw[h0]at h1;cases h1
   ·simp[Array.getElem?_eq_none h']at h1
  have hjf:j≠f:=fun e=>by
   subst e;have hlt:i<ops.size:=by
    rcases Nat.lt_or_ge i ops.size with h|h
    ·exact h
    ·rw[Array.getElem?_eq_none h]at hi;cases hi
   rcases hfin listed hc hj i hlt with h|h
   ·exact hif h
   ·exact hnl h
  have hnot: ∀e∈oj.after,Region.binds .any e=true→e.on≠i:=fun e he hb heq=>hnl (heq▸hall e he hb);have h2:=wpOp_putIf hoj (hfree j oj hoj hji hjun hnot) (fun cs b=>hsel i oi cs b hi) (fun cs b=>hsel j oj cs b hoj) hQ hy (H.2 j (ready_mono hj hji));refine wpOp_mono (fun a' w' h3=>?_) h2;have hS':=h3.2.1 hjf;refine⟨fun _=>hS',gO hfin hif hi hsel hQ fuel (listed.setIfInBounds j true) a' w' (fV hc hj) (fun k ok hk hki hun hno=>?_) (ready_mono hr (Ne.symm hji)) h3.1 hS' ?_⟩
  ·refine hfree k ok hk hki ?_ hno;rcases Decidable.em (j=k)with rfl|hjk
   ·exact hjun
   ·rwa [getD_set_ne true hjk]at hun
  ·rw[Array.setIfInBounds_comm _ _ hji];exact h3.2.2
end
def FF [bF] [lV](n:Nat)(Q:EQ):Exit→Act→World→Prop:=fun e a w=>match e with
 | .normal=>Lf n Q .normal a w
 | .panic c=>gj n lV.pe a∧Q (.panic c) lV.pe w
 |_=>False
theorem vX [bF] [lV]{n:Nat}{Q:EQ}: ¬LetsOut (FF n Q):=fun⟨_,_,h⟩=>h
def sF [lV](d:Option Nat):Bool:=d.all fun d=>(lV.pe.get d).isNone
theorem FG [bF] [lV]{n:Nat}{a:Act}{d:Option Nat}{v:Value}(hd:sF d=true)(r:gj n lV.pe (a.put d v)):gj n lV.pe a:=by
 cases d with
 |none=>exact r
 |some d=>
  have hd:(lV.pe.get d).isNone=true:=by simpa[sF]using hd
  refine⟨by simpa[Act.put]using r.size,by simpa[Act.put]using r.defers,fun k u hk=>?_⟩;have h:=r.get k u hk;have hne:d≠k:=fun e=>by subst e;rw[hk]at hd;cases hd
  simpa[Act.put,Array.getElem?_setIfInBounds_ne hne]using h
theorem sG [bF] [lV]{n:Nat}{Q:EQ}{d:Option Nat}{v:Value}(hd:sF d=true): ∀c a w,FF n Q (.panic c) (a.put d v) w→FF n Q (.panic c) a w:=fun c a w h=>⟨FG hd h.1,h.2⟩
def Pg [bF] [lV](P:Program)(n:Nat)(ops:Array Oper)(f:Nat)(D:List Nat)(Q:EQ)(fuel:Nat)(listed:Array Bool)(env:aK)(w:World):Prop:=
 ∀a,gj n env a→gT .any ops listed→gS P .any ops (FF n Q) (fun w'=>Fr D w w') f fuel listed a w
section
variable [bF] [lV] {P:Program} {n:Nat} {Q:EQ} {env:aK} {w:World} {ops:Array Oper} {fuel f:Nat} {listed:Array Bool} {D D':List Nat}
theorem IX{i:Nat}{o:Oper}{v:Value}(hfin:j4 ops f)(hs:Region.noSelect ops=true)(ho:ops[i]? =some o)(h1:(Region.ready .any ops listed).contains i=true)(h2:Region.free .any ops listed i=true)(h4:i≠f)(hw:lH n env ops o true)(hd:(o.dst.all (Nat.blt · n))=true)(hpe:sF o.dst=true)(hy:cb P n env (fun w'=>Fr D w w') o v)(h:Pg P n ops f D Q fuel (listed.setIfInBounds i true) (env.dst o.dst v) w):
  Pg P n ops f D Q (fuel+1) listed env w:=fun a r hc=>by
 have hr':i∈Region.ready .any ops listed:=by simpa using h1
 exact gO (v:=v) hfin h4 ho (Region.noSelect_spec hs) (sG hpe) _ listed a w hc (Region.free_spec ho h2) hr' (.inl ⟨hw a r,fun w' hS'=>hy a r w' hS'⟩) (Fr.refl _ _) (h _ (r.dst hd v) (fV hc hr'))
theorem IY{i:Nat}{o:Oper}(hfin:j4 ops f)(hs:Region.noSelect ops=true)(ho:ops[i]? =some o)(h1:(Region.ready .any ops listed).contains i=true)(h2:Region.free .any ops listed i=true)(h4:i≠f)(hw:lH n env ops o false)(hd:(o.dst.all (Nat.blt · n))=true)(hpe:sF o.dst=true)(h:Pg P n ops f D Q fuel (listed.setIfInBounds i true) (env.dst o.dst undef) w):
  Pg P n ops f D Q (fuel+1) listed env w:=fun a r hc=>by
 have hr':i∈Region.ready .any ops listed:=by simpa using h1
 exact gO (v:=undef) hfin h4 ho (Region.noSelect_spec hs) (sG hpe) _ listed a w hc (Region.free_spec ho h2) hr' (.inr ⟨hw a r,rfl⟩) (Fr.refl _ _) (h _ (r.dst hd undef) (fV hc hr'))
omit [bF] [lV]in
theorem vY{P:Program}{ops:Array Oper}{Q:Exit→Act→World→Prop}{S S':World→Prop}{f:Nat}(hS: ∀w,S' w→S w){fuel:Nat}{listed:Array Bool}{a:Act}{w:World}(h:gS P .any ops Q S' f fuel listed a w):gS P .any ops Q S f fuel listed a w:=lF hS _ _ _ _ h
def gP(P:Program)(n:Nat)(ops:Array Oper)(f:Nat)(D:List Nat)(Q:EQ)(fuel:Nat)(listed:Array Bool)(env:aK)(w:World)(i:Nat)(o:Oper):Prop:=
 (lH n env ops o true∧cd P n env w o (fun env' w'=> ∃D',Fr D w w'∧(∀y∈D',y∈D∨w.heap.size≤y)∧Pg P n ops f D' Q fuel (listed.setIfInBounds i true) env' w'))∨
 (lH n env ops o false∧(o.dst.all (Nat.blt · n))=true∧Pg P n ops f D Q fuel (listed.setIfInBounds i true) (env.dst o.dst undef) w)
theorem FH(hne:Region.ready .any ops listed≠ [])(h: ∀i∈Region.ready .any ops listed,∃o,ops[i]? =some o∧gP P n ops f D Q fuel listed env w i o):Pg P n ops f D Q (fuel+1) listed env w:=fun a r hc=>by
 refine⟨fun h0=>absurd h0 hne,fun j hj=>?_⟩;obtain⟨o,ho,hh⟩:=h j hj;unfold wpOp;simp only[ho];rcases hh with⟨hw,h⟩|⟨hw,hd,h⟩
 ·rw[if_pos (hw a r)];refine .inl (jy (Oper.wp_mono (fun a' w' ⟨env',r',D',hf,hD,hl⟩=>⟨fun _=>hf,?_⟩) (h a r)));exact vY (fun w2 h2=>hf.step h2 hD) (hl a' r' (fV hc hj))
 ·rw[if_neg (by rw[hw a r];decide)];exact⟨fun _=>Fr.refl _ _,h _ (r.dst hd undef) (fV hc hj)⟩
theorem vZ{o:Oper}(hr:Region.ready .any ops listed= [f])(hr2:(Region.ready .any ops (listed.setIfInBounds f true)).isEmpty=true)(ho:ops[f]? =some o)(hw:lH n env ops o true)(h:cd P n env w o (fun env' w'=>Q .normal env' w')):Pg P n ops f D Q (fuel+1) listed env w:=fun a r hc=>by
 have hr2:Region.ready .any ops (listed.setIfInBounds f true)= []:=by simpa using hr2
 refine⟨fun h0=>(by rw[hr]at h0;cases h0),fun j hj=>?_⟩;rw[hr]at hj;obtain rfl:j=f:=by simpa using hj
 unfold wpOp;simp only[ho];rw[if_pos (hw a r)];refine .inl (jy (Oper.wp_mono (fun a' w' ⟨env',r',hl⟩=>⟨fun h=>absurd rfl h,?_⟩) (h a r)));cases fuel with
 |zero=>exact⟨hr2,env',r',hl⟩
 |succ fuel=>exact⟨fun _=>⟨env',r',hl⟩,by rw[hr2];simp⟩
theorem zr{o:Oper}{g:FuncId}{xs:List Operand}{ts:Array TypeId}{vs:List Value}{Post PP:Value→World→Prop}(hr:Region.ready .any ops listed= [f])(hr2:(Region.ready .any ops (listed.setIfInBounds f true)).isEmpty=true)(ho:ops[f]? =some o)(hw:lH n env ops o true)(hcl:o.op= .call {callee:= .value (.func g),args:=xs.toArray,argTypes:=ts})(hd:(o.dst.all (Nat.blt · n))=true)
  (hx:env.evs xs=some vs) (hc:wv P g vs w Post PP) (hk: ∀v w',Post v w'→Q .normal (env.dst o.dst v) w') (hp: ∀v w',PP v w'→aK.Le lV.pe env∧Q (.panic [{v:=v,recovered:=false}]) lV.pe w'):Pg P n ops f D Q (fuel+1) listed env w:=fun a r hcl2=>by
 have hr2:Region.ready .any ops (listed.setIfInBounds f true)= []:=by simpa using hr2
 refine⟨fun h0=>(by rw[hr]at h0;cases h0),fun j hj=>?_⟩;rw[hr]at hj;obtain rfl:j=f:=by simpa using hj
 unfold wpOp;simp only[ho];rw[if_pos (hw a r)];refine .inl ?_;unfold Oper.wp;rw[nT hc.1 hcl hx r];refine Calls.mono hc.2 fun e w' he=>?_;rcases he with⟨v,rfl,hv⟩|⟨v,rfl,hv⟩
 ·refine⟨fun h=>absurd rfl h,?_⟩;have r':=r.dst hd v;cases fuel with
  |zero=>exact⟨hr2,_,r',hk v w' hv⟩
  |succ fuel=>exact⟨fun _=>⟨_,r',hk v w' hv⟩,by rw[hr2];simp⟩
 ·exact⟨r.weak (hp v w' hv).1,(hp v w' hv).2⟩
theorem zt{o:Oper}(hr:Region.ready .any ops listed= [f])(hr2:(Region.ready .any ops (listed.setIfInBounds f true)).isEmpty=true)(ho:ops[f]? =some o)(hw:lH n env ops o false)(hd:(o.dst.all (Nat.blt · n))=true)(h:Q .normal (env.dst o.dst undef) w):Pg P n ops f D Q (fuel+1) listed env w:=fun a r hc=>by
 have hr2:Region.ready .any ops (listed.setIfInBounds f true)= []:=by simpa using hr2
 refine⟨fun h0=>(by rw[hr]at h0;cases h0),fun j hj=>?_⟩;rw[hr]at hj;obtain rfl:j=f:=by simpa using hj
 unfold wpOp;simp only[ho];rw[if_neg (by rw[hw a r];decide)];refine⟨fun h=>absurd rfl h,?_⟩;have r':=r.dst hd undef;cases fuel with
 |zero=>exact⟨hr2,_,r',h⟩
 |succ fuel=>exact⟨fun _=>⟨_,r',h⟩,by rw[hr2];simp⟩
theorem zu(hr:(Region.ready .any ops listed).isEmpty=true)(h:Q .normal env w):Pg P n ops f D Q fuel listed env w:=fun a r hc=>by
 have hr:Region.ready .any ops listed= []:=by simpa using hr
 cases fuel with
 |zero=>exact⟨hr,env,r,h⟩
 |succ fuel=>exact⟨fun _=>⟨env,r,h⟩,by rw[hr];simp⟩
theorem BZ{id:Nat}{l:List Oper}(f:Nat)(hm:P.follows .mixedOrders=true)(hnd:l.all pi=true)(h:Pg P n l.toArray f D Q l.toArray.size (Array.replicate l.toArray.size false) env w.drew):Wp P n (.region id l.toArray true) Q env w:=fun a r=>by
 have h1:=h a r (qo _);have h2:(Code.region id l.toArray true).wpIn (Fw bF.ro) 0 P (FF n Q) a w:=ut hm vX (by simpa using hnd) (mW _ _ _ _ h1);refine Code.wpIn_mono (fun e a' w' hq=>?_) h2;cases e<;>first|exact hq.elim|exact⟨_,hq.1,hq.2⟩|exact hq
end
end Go.Proofs.YtfgofabojepcmaaGreatDoor.V
end

section
set_option linter.unusedVariables false
set_option linter.unusedSimpArgs false
namespace Go.Proofs.YtfgofabojepcmaaGreatDoor.V
open Go.RowKit
section
variable [al] {U:bJ} {P:Program} {nt:Nat} {T:cH U} {G:bS U} {X:List Nat} {w w' w0:World} {ρ ρ' ρ0:Nat→Rz} {n n' n0 b:Nat} {H H' H0:Hs U} {R e e':En U} {ce:aK} {o:Oper} {S:List Nat} {p:Nat→Bool}
def bL(p:Nat→Bool)(x:Nat×aN U):Nat×aN U:=match p x.1,x.2 with
 |true,.row v e xs _=>(x.1,.hid v xs.length (aS U e))
 |true,.cells _ _=>(x.1,.dead)
 |true,.map _ _=>(x.1,.dead)
 |true,.mapr _ _ _ _ _=>(x.1,.dead)
 |true,.it _ _=>(x.1,.dead)
 |true,.its _ _=>(x.1,.dead)
 |true,.ext v d xs _=>(x.1,.hid v xs.length (aS U d.e))
 |_,y=>(x.1,y)
def bv(p:Nat→Bool)(H:Hs U):Hs U:=H.map (bL p)
omit [al]in
theorem jC: ∀{H:Hs U} {K:Hs U→Prop},qP p H K→K (bv p H)
 | [],K,h=>h
 |x::r,K,h=>by
  have h:qP p r fun r=>match p x.1,x.2 with
   |true,.row v e xs _=>K ((x.1,.hid v xs.length (aS U e))::r)
   |true,.cells _ _=>K ((x.1,.dead)::r)
   |true,.map _ _=>K ((x.1,.dead)::r)
   |true,.mapr _ _ _ _ _=>K ((x.1,.dead)::r)
   |true,.it _ _=>K ((x.1,.dead)::r)
   |true,.its _ _=>K ((x.1,.dead)::r)
   |true,.ext v d xs _=>K ((x.1,.hid v xs.length (aS U d.e))::r)
   |_,y=>K ((x.1,y)::r):=h
  have h:=jC h;show K (bL p x::bv p r)
  unfold bL;split at h
  ·exact h
  ·exact h
  ·exact h
  ·exact h
  ·exact h
  ·exact h
  ·exact h
  ·exact h
omit [al]in
theorem kL(x:Nat×aN U):(bL p x).1=x.1:=by unfold bL;split<;>rfl
omit [al]in
theorem rO: ∀{H:Hs U} {i:Nat},aB (bv p H) i=(aB H i).map fun x=>(bL p (i,x)).2
 | [],i=>rfl
 |(j,x)::r,i=>by
  show aB (bL p (j,x)::bv p r) i=_
  have e1:bL p (j,x)=(j,(bL p (j,x)).2):=Prod.ext (kL (j,x)) rfl;by_cases e:j=i
  ·subst e;rw[e1,ow,ow];rfl
  ·rw[e1,fB e,fB e];exact rO
omit [al]in
theorem tg(i:Nat)(x:aN U):bc (some (bL p (i,x)).2)=bc (some x):=by
 unfold bL;cases p i<;>cases x<;>rfl
omit [al]in
theorem de{i:Nat}:bc (aB (bv p H) i)=bc (aB H i):=by
 rw[rO];cases aB H i with
 |none=>rfl
 |some x=>exact tg i x
omit [al]in
theorem ib{q:Nat×aN U}(h:q∈bv p H): ∃x,(q.1,x)∈H∧q.2=(bL p (q.1,x)).2:=by
 obtain⟨⟨i,x⟩,hx,rfl⟩:=List.mem_map.1 h;rw[kL];exact⟨x,hx,rfl⟩
omit [al]in
theorem jn{i g:Nat}{x:aN U}(h:Lv ρ (i,(bL p (i,x)).2) g):p i=false∧(bL p (i,x)).2=x∧Lv ρ (i,x) g:=by
 unfold bL at h⊢;cases hp:p i with
 |true=>rw[hp]at h;cases x<;>first|cases h
 |false=>rw[hp]at h;exact⟨rfl,rfl,h⟩
omit [al]in
theorem fc{g:Nat}(h:g∈aj ρ (bv p H)): ∃i x,(i,x)∈H∧p i=false∧Lv ρ (i,x) g:=by
 obtain⟨q,hq,hg⟩:=az.1 h;obtain⟨x,hx,e1⟩:=ib hq;obtain⟨i,y⟩:=q;simp only at hx e1;subst e1;obtain⟨h1,h2,h3⟩:=jn hg;exact⟨i,x,hx,h1,h3⟩
omit [al]in
theorem fN{i g:Nat}{x:aN U}(hx:(i,x)∈H)(hp:p i=false)(hg:Lv ρ (i,x) g):g∈aj ρ (bv p H):=by
 refine az.2 ⟨bL p (i,x),List.mem_map.2 ⟨_,hx,rfl⟩,?_⟩;unfold bL;rw[hp];exact hg
abbrev np(p:Nat→Bool):Nat→Bool:=fun i=>!p i
omit [al]in
theorem fe{g:Nat}:g∈aj ρ H↔g∈aj ρ (bv p H)∨g∈aj ρ (bv (np p) H):=by
 constructor
 ·intro h;obtain⟨⟨i,x⟩,hq,hg⟩:=az.1 h;cases hp:p i with
  |false=>exact .inl (fN hq hp hg)
  |true=>exact .inr (fN hq (by simp[np,hp]) hg)
 ·rintro(h|h)
  ·obtain⟨i,x,h1,_,h3⟩:=fc h;exact az.2 ⟨_,h1,h3⟩
  ·obtain⟨i,x,h1,_,h3⟩:=fc h;exact az.2 ⟨_,h1,h3⟩
theorem aV.cong{Y Y':List Nat}{S S':World→Prop}(m:Mv Y S Y' S')(hr: ∀i,bc (aB H' i)=bc (aB H i)){x:Cx U}{vs:List Value}(h:aV U Y S ρ n H x vs):aV U Y' S' ρ n H' x vs:=by
 cases x with
 |d s t=>exact aG.mv m h
 |own i v=>obtain⟨h1,A,l,c,e,hn⟩:=h;exact⟨h1,A,l,c,e,fun v' l' m' hr'=>hn _ _ _ (by rw[←hr];exact hr')⟩
 |ptr i off=>obtain⟨h1,h2,h3⟩:=h;exact⟨h1,by rw[hr];exact h2,h3⟩
 |pel i v q off=>obtain⟨h1,a,e,hn⟩:=h;exact⟨h1,a,e,fun v' l' m' hr'=>hn _ _ _ (by rw[←hr];exact hr')⟩
 |pax i off k s q o=>obtain⟨h1,h2,h3⟩:=h;exact⟨h1,by rw[hr];exact h2,h3⟩
 |pd s t=>obtain⟨g,b,us,e,hd,hrd⟩:=h;exact⟨g,b,us,e,aG.mv m hd,hrd.mv m⟩
 |nilp=>exact h
 |nils=>exact h
 |nilf=>exact h
 |nilm=>exact h
 |fn f=>exact h
 |clo f js=>exact⟨h.1,fun j hj=>by obtain⟨a,b,c⟩:=h.2 j hj;exact⟨a,by rw[hr];exact b,c⟩⟩
 |f1 a g=>obtain⟨u,e,hf⟩:=h;exact⟨u,e,hf.mv m⟩
 |f2 a b g=>obtain⟨u,e,hf⟩:=h;exact⟨u,e,hf.mv m⟩
 |mp i=>obtain⟨h1,h2,h3⟩:=h;exact⟨h1,by rw[hr];exact h2,h3⟩
 |ifp i=>obtain⟨h1,h2,h3⟩:=h;exact⟨h1,by rw[hr];exact h2,h3⟩
 |bnd f s t=>obtain⟨u,e,hd⟩:=h;exact⟨u,e,aG.mv m hd⟩
 |un=>exact h
theorem jD(M:bd U X (· =w) ρ n H):bd U (aj ρ (bv (np p) H)++X) (fun w'=>Fr (aj ρ (bv (np p) H)) w w') ρ n (bv p H)∧
  Mv (aj ρ H++X) (· =w) (aj ρ (bv p H)++(aj ρ (bv (np p) H)++X)) (fun w'=>Fr (aj ρ (bv (np p) H)) w w')∧
  Mv (aj ρ (bv p H)++(aj ρ (bv (np p) H)++X)) (fun w'=>Fr (aj ρ (bv (np p) H)) w w') (aj ρ H++X) (· =w):=by
 have hY: ∀y,y∈aj ρ (bv p H)++(aj ρ (bv (np p) H)++X)↔y∈aj ρ H++X:=fun y=>by
  simp only[List.mem_append,fe (p:=p) (H:=H),or_assoc]
 have mv:Mv (aj ρ H++X) (· =w) (aj ρ (bv p H)++(aj ρ (bv (np p) H)++X)) (fun w'=>Fr (aj ρ (bv (np p) H)) w w'):=fun w' hw'=>⟨w,_,rfl,hw',fun y hy=>by
  have h1:=fe.2 (.inr hy);exact⟨List.mem_append_left _ h1,fun hx=>M.dj y h1 (M.xs y hx)⟩,fun y hy=> .inl ((hY y).1 hy)⟩
 have mv2:Mv (aj ρ (bv p H)++(aj ρ (bv (np p) H)++X)) (fun w'=>Fr (aj ρ (bv (np p) H)) w w') (aj ρ H++X) (· =w):=fun w' hw'=>⟨w,[],Fr.refl _ _,by subst hw';exact Fr.refl _ _,fun _ h=>(by cases h),fun y hy=> .inl ((hY y).2 hy)⟩;refine⟨⟨?_,fun q hq=>?_,fun q hq=>?_,fun q hq r hr g h1 h2=>?_,fun g hg hx=>?_,fun w' hw' g hg=>?_,fun z hz=>List.mem_append_right _ (M.xs z hz),⟨M.gv.1,fun w' hw'=>(M.gv.fr hw' (fun y hy hx=>M.xd y (fe.2 (.inr hy)) hx)).2 _ rfl⟩⟩,mv,mv2⟩
 ·have:(bv p H).map (·.1)=H.map (·.1):=by
   unfold bv;rw[List.map_map];exact List.map_congr_left fun x _=>kL x
  rw[this];exact M.nd
 ·obtain⟨x,hx,_⟩:=ib hq;exact M.lt (q.1,x) hx
 ·obtain⟨x,hx,e1⟩:=ib hq;obtain⟨i,y⟩:=q;simp only at hx e1⊢;have hM:=M.ent _ hx;have hcg: ∀x vs,Vw U X w ρ n H x vs→aV U (aj ρ (bv p H)++(aj ρ (bv (np p) H)++X)) (fun w'=>Fr (aj ρ (bv (np p) H)) w w') ρ n (bv p H) x vs:=fun x vs h=>h.cong mv fun i=>de;have stay: ∀g,p i=false→Lv ρ (i,x) g→g∉aj ρ (bv (np p) H):=fun g hp hg hm=>by
   obtain⟨k,z,h1,h2,h3⟩:=fc hm;have:=M.inj _ hx _ h1 g hg h3;simp only at this;subst this;simp[np,hp]at h2
  cases hp:p i with
  |true=>
   clear hq;subst e1;cases x with
   |frz v s xs=>
    have e2:(bL p (i,(.frz v s xs:aN U))).2= .frz v s xs:=by simp only[bL,hp]
    rw[e2];obtain⟨hm,cs,hd,hr,h1,h2⟩:=hM;exact⟨hm,cs,ba.mv mv hd,hr.mv mv,h1,h2⟩
   |cells l t=>
    have e2:(bL p (i,(.cells l t:aN U))).2= .dead:=by simp only[bL,hp]
    rw[e2];trivial
   |map d l=>
    have e2:(bL p (i,(.map d l:aN U))).2= .dead:=by simp only[bL,hp]
    rw[e2];trivial
   |mapr d l r q0 q=>
    have e2:(bL p (i,(.mapr d l r q0 q:aN U))).2= .dead:=by simp only[bL,hp]
    rw[e2];trivial
   |it k q=>
    have e2:(bL p (i,(.it k q:aN U))).2= .dead:=by simp only[bL,hp]
    rw[e2];trivial
   |its k q=>
    have e2:(bL p (i,(.its k q:aN U))).2= .dead:=by simp only[bL,hp]
    rw[e2];trivial
   |row v s xs t=>
    have e2:(bL p (i,(.row v s xs t:aN U))).2= .hid v xs.length (aS U s):=by simp only[bL,hp]
    rw[e2];trivial
   |ext v d xs op=>
    have e2:(bL p (i,(.ext v d xs op:aN U))).2= .hid v xs.length (aS U d.e):=by simp only[bL,hp]
    rw[e2];trivial
   |clo f l=>
    have e2:(bL p (i,(.clo f l:aN U))).2= .clo f l:=by simp only[bL,hp]
    rw[e2];trivial
   |hid v l m=>
    have e2:(bL p (i,(.hid v l m:aN U))).2= .hid v l m:=by simp only[bL,hp]
    rw[e2];trivial
   |dead=>
    have e2:(bL p (i,(.dead:aN U))).2= .dead:=by simp only[bL,hp]
    rw[e2];trivial
  |false=>
   have e2:(bL p (i,x)).2=x:=by cases x<;>simp only[bL,hp]
   rw[e1,e2];cases x with
   |cells l t=>
    obtain⟨g,vs,hA,hs,hw⟩:=hM;have hlive:Lv ρ (i,(.cells l t:aN U)) g:=by unfold Lv;simp only[hA];rfl
    exact⟨g,vs,hA,hs.imp hcg,fun w' hw'=>by rw[hw'.block g (cN M _ hx g hlive) (stay g hp hlive)];exact hw w rfl⟩
   |row v s xs t=>
    obtain⟨hm,cs,sp,hd,ho,hw⟩:=hM;exact⟨hm,cs,sp,ba.mv mv hd,ho,fun g hg w' hw'=>by rw[hw'.block g (cN M _ hx g hg) (stay g hp hg)];exact hw g hg w rfl⟩
   |map d l=>
    obtain⟨hk,g,es,clock,m,hA,hm,hd,hw⟩:=hM;have hlive:Lv ρ (i,(.map d l:aN U)) g:=by unfold Lv;simp only[hA];rfl
    exact⟨hk,g,es,clock,m,hA,hm,aH.mv mv hd,fun w' hw'=>by rw[hw'.block g (cN M _ hx g hlive) (stay g hp hlive)];exact hw w rfl⟩
   |mapr d l r q0 q=>
    obtain⟨hk,g,es,clock,m,lv,cv,hA,hm,hd,hl,hc,hw⟩:=hM;have hlive:Lv ρ (i,(.mapr d l r q0 q:aN U)) g:=by unfold Lv;simp only[hA];rfl
    exact⟨hk,g,es,clock,m,lv,cv,hA,hm,aH.mv mv hd,aH.mv mv hl,aH.mv mv hc,fun w' hw'=>by rw[hw'.block g (cN M _ hx g hlive) (stay g hp hlive)];exact hw w rfl⟩
   |it k q=>
    obtain⟨r,g,hA,hA2,hk,hrk,hw⟩:=hM;have hlive:Lv ρ (i,(.it k q:aN U)) r:=by unfold Lv;simp only[hA];rfl
    exact⟨r,g,hA,hA2,hk,by rw[de];exact hrk,fun w' hw'=>by rw[hw'.block r (cN M _ hx r hlive) (stay r hp hlive)];exact hw w rfl⟩
   |its k q=>
    obtain⟨h1,h2,r,hA,hw⟩:=hM;have hlive:Lv ρ (i,(.its k q:aN U)) r:=by unfold Lv;simp only[hA];rfl
    exact⟨h1,h2,r,hA,fun w' hw'=>by rw[hw'.block r (cN M _ hx r hlive) (stay r hp hlive)];exact hw w rfl⟩
   |ext v d xs op=>
    obtain⟨C,hd,hw,ho⟩:=hM;exact⟨C,d.mv mv.fr hd,fun g hg w' hw'=>by rw[hw'.block g (cN M _ hx g hg) (stay g hp hg)];exact hw g hg w rfl,ho.imp hcg⟩
   |frz v s xs=>obtain⟨hm,cs,hd,hr,h1,h2⟩:=hM;exact⟨hm,cs,ba.mv mv hd,hr.mv mv,h1,h2⟩
   |clo f l=>trivial
   |hid v l m=>trivial
   |dead=>trivial
 ·obtain⟨x,hx,e1⟩:=ib hq;obtain⟨y,hy,e2⟩:=ib hr;obtain⟨i,q2⟩:=q;obtain⟨j,r2⟩:=r;simp only at hx e1 hy e2⊢;subst e1;subst e2;exact M.inj _ hx _ hy g (jn h1).2.2 (jn h2).2.2
 ·rcases List.mem_append.1 hx with hx|hx
  ·obtain⟨i,x,h1,h2,h3⟩:=fc hg;obtain⟨j,y,h4,h5,h6⟩:=fc hx;have:=M.inj _ h1 _ h4 g h3 h6;simp only at this;subst this;simp[np,h2]at h5
  ·exact M.dj g (fe.2 (.inl hg)) hx
 ·refine Nat.lt_of_lt_of_le ?_ hw'.size;rcases List.mem_append.1 hg with h|h
  ·obtain⟨i,x,h1,h2,h3⟩:=fc h;exact cN M _ h1 g h3
  ·exact M.lo w rfl g h
end
end Go.Proofs.YtfgofabojepcmaaGreatDoor.V
end

/- Regions that draw their order are right. -/
import Derived.Test.YtfgofabojepcmaaGreatDoorSp11
section
set_option linter.unusedVariables false
set_option linter.unusedSectionVars false
set_option linter.unusedSimpArgs false
namespace Go.Proofs.YtfgofabojepcmaaGreatDoor.V
open Go.RowKit
section
variable [bF] [al] {U:bJ} {P:Program} {nt:Nat} {T:cH U} {G:bS U} {X Y:List Nat} {w w' w0:World} {W:World→Prop} {ρ ρ' ρ0:Nat→Rz} {n n' n0 b:Nat} {H H' H0:Hs U} {R e e':En U} {ce:aK} {o:Oper} {S:List Nat} {p:Nat→Bool}
def BL(P:Program)(nt:Nat)(all:List Oper)(o:Oper)(W:World→Prop)(V:Cx U→List Value→Prop)(ce:aK)(C:En U→En U→List Nat→Prop):Prop:=
 ∃e' R' S',C e' R' S'∧((∃v,lH nt ce all.toArray o true∧cb P nt ce W o v∧aM V R' e' (ce.dst o.dst v)∧dg R' e' S')∨(lH nt ce all.toArray o false∧aM V R' e' (ce.dst o.dst undef)∧dg R' e' S'))
omit [al]in
theorem f9{rest:KR U}{K:KS U}{s:Nat}{q:b8}{x:Va U}(hdo:(o.dst.all (Nat.blt · nt))=true)(h:putG rest s o.dst q x e n H R S K): ∃d,o.dst=some d∧Nat.blt d nt=true∧rest e n H ((d,.gd q x)::R) (d::s::S) K∧d∉S∧ ¬d=s∧aB e d=none:=by
 unfold putG at h;split at h
 ·rename_i d hdst;split at h
  ·rename_i hde;cases hm:(fh d S||Nat.beq d s)with
   |true=>rw[hm]at h;exact h.elim
   |false=>
    rw[hm]at h;rw[Bool.or_eq_false_iff]at hm;rw[hdst]at hdo;exact⟨d,hdst,by simpa using hdo,h,dv hm.1,fun e1=>(by rw[e1,Nat.beq_refl]at hm;cases hm.2),hde⟩
  ·exact h.elim
 ·exact h.elim
theorem nG{all:List Oper}{rest:KR U}{K:KS U}(hpr:al.pr=P)(hna:jN o=false)(hT:bl U P T)(h:fA T G all o rest e n H R S K)(M:bd U Y W ρ n H)(he:aM (aV U (aj ρ H++Y) W ρ n H) R e ce)(hr:dg R e S)(hS: ∃w,W w)(hdo:(o.dst.all (Nat.blt · nt))=true):
  BL P nt all o W (aV U (aj ρ H++Y) W ρ n H) ce (fun e' R' S'=>rest e' n H R' S' K):=by
 unfold fA at h;split at h
 ·rename_i hg;rw[hna]at h;have h:ii (fun P=>P) T [] o R e H fun v=>yI o v (jO rest o.dst v e n H R S K):=h;obtain⟨x,hK,hy⟩:=pR (nt:=nt) hpr (p:= []) (fun A h _=>h) h hT M he hS;obtain⟨u,hyld,hu⟩:=hy dp;have hK:=zo hK hu;unfold jO at hK;cases hdst:o.dst with
  |none=>
   rw[hdst]at hK;exact⟨_,_,_,hK,.inl ⟨u,aR hg,hyld,by rw[hdst];exact he,hr⟩⟩
  |some d=>
   rw[hdst]at hK hdo;simp only at hK;cases hm:fh d S with
   |true=>rw[hm]at hK;exact hK.elim
   |false=>
    rw[hm]at hK;obtain⟨he',hr'⟩:=he.putV hr (dv hm) (av:=x) hu;exact⟨_,_,_,hK,.inl ⟨u,aR hg,hyld,by rw[hdst];exact he',hr'⟩⟩
 ·rename_i j bb hg;split at h
  ·rename_i oj hj;split at h
   ·rename_i s hs;have key: ∀(q:b8) (k:Nat) (c:Bool),(aB R s=some (.gd q ⟨false,[(k,.d .bool c)]⟩)∨(aB R s=none∧aB e s=some (.v ⟨false,[(k,.d .bool c)]⟩)∧q= []))→tv T G o rest s ((s,bb)::q) e n H R S K→BL P nt all o W (aV U (aj ρ H++Y) W ρ n H) ce (fun e' R' S'=>rest e' n H R' S' K):=fun q k c hc h=>by
     obtain⟨hps,hw⟩:=gp (nt:=nt) (fun k c u (h:ct _ ⟨false,[(k,.d .bool c)]⟩ u)=>aG.boolE (show bK _ [(k,.d .bool c)] [u]from h).one1.1) he hr hg hj hs hc;unfold tv at h;rw[hna]at h;have h:ii (me R e ((s,bb)::q)) T ((s,bb)::q) o R e H fun v=>(match (generalizing:=false) v with
      | .v v=>putG rest s o.dst ((s,bb)::q) v e n H R S K
      |_=>False):=h
     obtain⟨x0,hK,hy⟩:=pR (nt:=nt) hpr (p:=(s,bb)::q) (fun A h hp=>ij h hp) h hT M he hS;have hx0: ∃x,x0= .v x∧putG rest s o.dst ((s,bb)::q) x e n H R S K:=by
      split at hK
      ·exact⟨_,rfl,hK⟩
      ·exact hK.elim
     obtain⟨x,rfl,hK⟩:=hx0;obtain⟨d,hdst,hn,hK,h1,h2,h3⟩:=f9 hdo hK;rcases hw with⟨hp,hw⟩|⟨hp,hw⟩
     ·obtain⟨u,hyld,hu⟩:=hy hp;obtain⟨he',hr'⟩:=he.putG hr h1 h2 h3 hps (x:=x) (cv:=u) (fun _=>hu) (fun hn=>absurd hp hn);exact⟨_,_,_,hK,.inl ⟨u,hw,hyld,by rw[hdst];exact he',hr'⟩⟩
     ·obtain⟨he',hr'⟩:=he.putG hr h1 h2 h3 hps (x:=x) (cv:=undef) (fun h=>absurd h hp) (fun _=>rfl);exact⟨_,_,_,hK,.inr ⟨hw,by rw[hdst];exact he',hr'⟩⟩
    split at h
    ·rename_i q k c hc;exact key q k c (.inl hc) h
    ·exact h.elim
    ·rename_i hR;split at h
     ·rename_i k c hc;exact key [] k c (.inr ⟨hR,hc,rfl⟩) h
     ·exact h.elim
   ·exact h.elim
  ·exact h.elim
def BM(P:Program)(nt:Nat)(all:List Oper)(o:Oper)(X:List Nat)(w:World)(ρ:Nat→Rz)(n:Nat)(H:Hs U)(ce:aK)(C:En U→Nat→Hs U→En U→List Nat→Prop):Prop:=
 (lH nt ce all.toArray o true∧cd P nt ce w o fun ce' w'=> ∃e' n' H' R' S' ρ',C e' n' H' R' S'∧bd U X (· =w') ρ' n' H'∧bP ρ n H w ρ' n' H' w'∧aM (Vw U X w' ρ' n' H') R' e' ce'∧dg R' e' S'∧(jN o=false∨o.guard≠none→Fr [] w w'∧n'=n∧H'=H∧ρ'=ρ))∨
 (lH nt ce all.toArray o false∧ ∃e' R' S',C e' n H R' S'∧aM (Vw U X w ρ n H) R' e' (ce.dst o.dst undef)∧dg R' e' S')
omit [al]in
theorem yd{v:Value}{K:aK→World→Prop}(hd:(o.dst.all (Nat.blt · nt))=true)(hy:cb P nt ce (· =w) o v)(h:K (ce.dst o.dst v) w):cd P nt ce w o K:=fun a r=>by
 unfold Oper.wp;rw[hy a r w rfl];exact⟨_,r.dst hd v,h⟩
theorem kM(hG:c6 P U G)(hT:bl U P T){all:List Oper}{rest:KR U}{K:KS U}(h:fA T G all o rest e n H R S K)(M:bd U X (· =w) ρ n H)(he:aM (Vw U X w ρ n H) R e ce)(hr:dg R e S)(hdo:(o.dst.all (Nat.blt · nt))=true):
  BM P nt all o X w ρ n H ce (fun e' n' H' R' S'=>rest e' n' H' R' S' K):=by
 cases hna:jN o with
 |false=>
  obtain⟨e',R',S',hK,hh⟩:=nG (nt:=nt) hG.1 hna hT h M he hr ⟨w,rfl⟩ hdo;rcases hh with⟨v,hw,hy,he',hr'⟩|⟨hw,he',hr'⟩
  ·exact .inl ⟨hw,yd hdo hy ⟨_,_,_,_,_,_,hK,M,M.stp0,he',hr',fun _=>⟨Fr.refl _ _,rfl,rfl,rfl⟩⟩⟩
  ·exact .inr ⟨hw,_,_,_,hK,he',hr'⟩
 |true=>
  unfold fA at h;split at h
  ·rename_i hg;rw[hna]at h;have h:uT T G o R e n H fun v n H=>jO rest o.dst v e n H R S K:=h;refine .inl ⟨aR hg,cd.mono (sy hG hT hdo h M he) ?_⟩;rintro ce' w' ⟨av,n',H',ρ',cv,hK,rfl,hav,M',s'⟩;unfold jO at hK;cases hdst:o.dst with
   |none=>
    rw[hdst]at hK;exact⟨_,_,_,_,_,_,hK,M',s',he.step s',hr,fun hh=>(by rcases hh with hh|hh;(· rw[hna]at hh;cases hh);(· exact absurd hg hh))⟩
   |some d=>
    rw[hdst]at hK;simp only at hK;cases hm:fh d S with
    |true=>rw[hm]at hK;exact hK.elim
    |false=>
     rw[hm]at hK;obtain⟨he',hr'⟩:=(he.step s').putV hr (dv hm) hav;exact⟨_,_,_,_,_,_,hK,M',s',he',hr',fun hh=>(by rcases hh with hh|hh;(· rw[hna]at hh;cases hh);(· exact absurd hg hh))⟩
  ·rename_i j bb hg;split at h
   ·rename_i oj hj;split at h
    ·rename_i s hs;have key: ∀(q:b8) (k:Nat) (c:Bool),(aB R s=some (.gd q ⟨false,[(k,.d .bool c)]⟩)∨(aB R s=none∧aB e s=some (.v ⟨false,[(k,.d .bool c)]⟩)∧q= []))→tv T G o rest s ((s,bb)::q) e n H R S K→BM P nt all o X w ρ n H ce (fun e' n' H' R' S'=>rest e' n' H' R' S' K):=fun q k c hc h=>by
      obtain⟨hps,hw⟩:=gp (nt:=nt) nP he hr hg hj hs hc;unfold tv at h;rw[hna]at h;have h:rX T G ((s,bb)::q) o R e n H fun v=>putG rest s o.dst ((s,bb)::q) v e n H R S K:=h;obtain⟨x,hK,hx⟩:=zn (nt:=nt) hG hT h M he;obtain⟨d,hdst,hn,hK,h1,h2,h3⟩:=f9 hdo hK;rcases hw with⟨hp,hw⟩|⟨hp,hw⟩
      ·refine .inl ⟨hw,hx hp hdst hn fun v w' hv hf=>?_⟩;obtain⟨M',s'⟩:=M.keep0 hf;obtain⟨he',hr'⟩:=(he.step s').putG hr h1 h2 h3 hps (x:=x) (cv:=v) (fun _=>hv) (fun hn=>absurd hp hn);exact⟨_,_,_,_,_,_,hK,M',s',he',hr',fun _=>⟨hf,rfl,rfl,rfl⟩⟩
      ·obtain⟨he',hr'⟩:=he.putG hr h1 h2 h3 hps (x:=x) (cv:=undef) (fun h=>absurd h hp) (fun _=>rfl);exact .inr ⟨hw,_,_,_,hK,by rw[hdst];exact he',hr'⟩
     split at h
     ·rename_i q k c hc;exact key q k c (.inl hc) h
     ·exact h.elim
     ·rename_i hR;split at h
      ·rename_i k c hc;exact key [] k c (.inr ⟨hR,hc,rfl⟩) h
      ·exact h.elim
    ·exact h.elim
   ·exact h.elim
end
end Go.Proofs.YtfgofabojepcmaaGreatDoor.V
end

section
set_option linter.unusedVariables false
set_option linter.unusedSimpArgs false
namespace Go.Proofs.YtfgofabojepcmaaGreatDoor.V
open Go.RowKit
section
variable [al] {U:bJ} {P:Program} {nt:Nat} {T:cH U} {G:bS U} {X Y:List Nat} {w w' w0:World} {W:World→Prop} {ρ ρ' ρ0:Nat→Rz} {n n' n0 b:Nat} {H H' H0 L:Hs U} {R e e':En U} {ce:aK} {o:Oper} {S:List Nat} {p:Nat→Bool}
def IA:aN U→Prop
 | .cells _ _=>True
 | .map _ _=>True
 | .mapr _ _ _ _ _=>True
 | .it _ _=>True
 | .its _ _=>True
 |_=>False
def IB:aN U→Prop
 | .row _ _ _ _=>True
 | .ext _ _ _ _=>True
 |_=>False
def Ip(p:Nat→Bool)(H:Hs U)(x y:Nat×aN U):Prop:=x.1=y.1∧(y.2=x.2∨(p x.1=true∧ ∃z v l0 m0 l m,aB H x.1=some z∧IB z∧bc (some z)=some (v,l0,m0)∧x.2= .hid v l m∧y.2=z)∨(p x.1=true∧ ∃z,aB H x.1=some z∧IA z∧x.2= .dead∧y.2=z))
omit [al]in
theorem lO: ∀{H':Hs U} {K:Hs U→Prop},uV p H H' K→ ∃L,K L∧L.map (·.1)=H'.map (·.1)∧ ∀y∈L,∃x∈H',Ip p H x y
 | [],K,h=>⟨[],h,rfl,fun y hy=>by cases hy⟩
 |x::r,K,h=>by
  have h:uV p H r fun r=>match (generalizing:=false) p x.1,aB H x.1,x.2 with
   |true,some (.row v e xs t),.hid v' _ _=>bif Nat.beq v v' then K ((x.1,.row v e xs t)::r)else False
   |true,some (.cells l t),.dead=>K ((x.1,.cells l t)::r)
   |true,some (.map d l),.dead=>K ((x.1,.map d l)::r)
   |true,some (.mapr d l l' q g),.dead=>K ((x.1,.mapr d l l' q g)::r)
   |true,some (.it i g),.dead=>K ((x.1,.it i g)::r)
   |true,some (.its s q),.dead=>K ((x.1,.its s q)::r)
   |true,some (.ext v d xs op),.hid v' _ _=>bif Nat.beq v v' then K ((x.1,.ext v d xs op)::r)else False
   |_,_,y=>K ((x.1,y)::r):=h
  obtain⟨L,h,hm,hL⟩:=lO h;have mk: ∀y,y.1=x.1→Ip p H x y→ ∀z∈y::L,∃x'∈x::r,Ip p H x' z:=fun y _ hy z hz=>by
   rcases List.mem_cons.1 hz with rfl|hz
   ·exact⟨x,List.mem_cons_self,hy⟩
   ·obtain⟨x',h1,h2⟩:=hL z hz;exact⟨x',List.mem_cons_of_mem _ h1,h2⟩
  split at h
  ·rename_i v e xs t v' l m h1 h2 h3;cases hb:Nat.beq v v' with
   |false=>rw[hb]at h;exact h.elim
   |true=>
    rw[hb]at h;simp only[cond_true]at h;have hv:=Nat.eq_of_beq_eq_true hb;subst hv;exact⟨_,h,by simp[hm],mk _ rfl ⟨rfl,.inr (.inl ⟨h1,_,v,_,_,l,m,h2,trivial,rfl,h3,rfl⟩)⟩⟩
  ·rename_i l t h1 h2 h3;exact⟨_,h,by simp[hm],mk _ rfl ⟨rfl,.inr (.inr ⟨h1,_,h2,trivial,h3,rfl⟩)⟩⟩
  ·rename_i d l h1 h2 h3;exact⟨_,h,by simp[hm],mk _ rfl ⟨rfl,.inr (.inr ⟨h1,_,h2,trivial,h3,rfl⟩)⟩⟩
  ·rename_i d l l' q g h1 h2 h3;exact⟨_,h,by simp[hm],mk _ rfl ⟨rfl,.inr (.inr ⟨h1,_,h2,trivial,h3,rfl⟩)⟩⟩
  ·rename_i i g h1 h2 h3;exact⟨_,h,by simp[hm],mk _ rfl ⟨rfl,.inr (.inr ⟨h1,_,h2,trivial,h3,rfl⟩)⟩⟩
  ·rename_i i g h1 h2 h3;exact⟨_,h,by simp[hm],mk _ rfl ⟨rfl,.inr (.inr ⟨h1,_,h2,trivial,h3,rfl⟩)⟩⟩
  ·rename_i v d xs op v' l m h1 h2 h3;cases hb:Nat.beq v v' with
   |false=>rw[hb]at h;exact h.elim
   |true=>
    rw[hb]at h;simp only[cond_true]at h;have hv:=Nat.eq_of_beq_eq_true hb;subst hv;exact⟨_,h,by simp[hm],mk _ rfl ⟨rfl,.inr (.inl ⟨h1,_,v,_,_,l,m,h2,trivial,rfl,h3,rfl⟩)⟩⟩
  ·exact⟨_,h,by simp[hm],mk _ rfl ⟨rfl,.inl rfl⟩⟩
theorem bd.sub{W':World→Prop}(M:bd U X W ρ n H)(h: ∀w,W' w→W w):bd U X W' ρ n H:=by
 have mv:Mv (aj ρ H++X) W (aj ρ H++X) W':=fun w' hw'=>⟨w',[],h _ hw',Fr.refl _ _,fun _ h=>(by cases h),fun y hy=> .inl hy⟩;refine⟨M.nd,M.lt,fun q hq=>?_,M.inj,M.dj,fun w' hw'=>M.lo w' (h _ hw'),M.xs,⟨M.gv.1,fun w hw=>M.gv.2 w (h w hw)⟩⟩;have hM:=M.ent q hq;obtain⟨i,x⟩:=q;cases x with
 |cells l t=>obtain⟨g,vs,hA,hs,hw⟩:=hM;exact⟨g,vs,hA,hs.imp fun x vs hx=>hx.cong mv fun i=>rfl,fun w' hw'=>hw w' (h _ hw')⟩
 |row v s xs t=>obtain⟨hm,cs,sp,hd,ho,hw⟩:=hM;exact⟨hm,cs,sp,ba.mv mv hd,ho,fun g hg w' hw'=>hw g hg w' (h _ hw')⟩
 |map d l=>obtain⟨hk,g,es,clock,m,hA,hm,hd,hw⟩:=hM;exact⟨hk,g,es,clock,m,hA,hm,aH.mv mv hd,fun w' hw'=>hw w' (h _ hw')⟩
 |mapr d l r q0 q=>obtain⟨hk,g,es,clock,m,lv,cv,hA,hm,hd,hl,hc,hw⟩:=hM;exact⟨hk,g,es,clock,m,lv,cv,hA,hm,aH.mv mv hd,aH.mv mv hl,aH.mv mv hc,fun w' hw'=>hw w' (h _ hw')⟩
 |it k q=>obtain⟨r,g,hA,hA2,hk,hrk,hw⟩:=hM;exact⟨r,g,hA,hA2,hk,hrk,fun w' hw'=>hw w' (h _ hw')⟩
 |its k q=>obtain⟨h1,h2,r,hA,hw⟩:=hM;exact⟨h1,h2,r,hA,fun w' hw'=>hw w' (h _ hw')⟩
 |frz v s xs=>obtain⟨hm,cs,hd,hr,h1,h2⟩:=hM;exact⟨hm,cs,ba.mv mv hd,hr.mv mv,h1,h2⟩
 |ext v d xs op=>obtain⟨C,hd,hw,ho⟩:=hM;exact⟨C,d.mv mv.fr hd,fun g hg w' hw'=>hw g hg w' (h _ hw'),ho.imp fun _ _ hx=>hx.cong mv fun i=>rfl⟩
 |clo f l=>trivial
 |hid v l m=>trivial
 |dead=>trivial
theorem l8(M:bd U X (· =w) ρ n H)(M':bd U (aj ρ (bv (np p) H)++X) (· =w') ρ' n' H')(s:bP ρ n (bv p H) w ρ' n' H' w')(hm:L.map (·.1)=H'.map (·.1))(hL: ∀y∈L,∃x∈H',Ip p H x y):
  bd U X (· =w') ρ' n' L∧bP ρ n H w ρ' n' L w'∧(∀i,bc (aB L i)=bc (aB H' i))∧Mv (aj ρ' H'++(aj ρ (bv (np p) H)++X)) (· =w') (aj ρ' L++X) (· =w')∧(∀g∈aj ρ' (bv p L),g∈aj ρ (bv p H)∨w.heap.size≤g):=by
 have hnd:(L.map (·.1)).Nodup:=by rw[hm];exact M'.nd
 have res: ∀x∈H',p x.1=true→ ∀y,aB H x.1=some y→(∀v l0 m0,bc (some y)=some (v,l0,m0)→IB y→ ∃l m,x.2= .hid v l m)→(IA y→x.2= .dead)→(∀v l0 m0,bc (some y)=some (v,l0,m0)→IB y→ρ' x.1=ρ x.1∧bc (some x.2)=bc (some y))∧(IA y→ρ' x.1=ρ x.1):=fun x hx hp y hy h1 h2=>by
  have hin:=af hy;have hlt:=M.lt _ hin;have hlk:=cM M'.nd (show(x.1,x.2)∈H' from hx);refine⟨fun v lz mz ey er=>?_,fun ey=>?_⟩
  ·obtain⟨l,m,e1⟩:=h1 v lz mz ey er;obtain⟨v0,l0,m0,r0,_,r1⟩:=s.row x.1 hlt v l m (by rw[hlk,e1];rfl);rw[de,hy,ey]at r0;injection r0 with r0;injection r0 with a1 a2;injection a2 with a2 a3;obtain⟨b1,b2,b3⟩:=r1 a1.symm;refine⟨b1,?_⟩;rw[e1,ey,b2,b3,←a2,←a3];rfl
  ·exact s.cel x.1 hlt (by rw[de,hy];cases y<;>first|rfl|exact ey.elim)
 have key: ∀y∈L,∃x∈H',x.1=y.1∧(y.2=x.2∨(p y.1=true∧aB H y.1=some y.2∧ρ' y.1=ρ y.1∧bc (some x.2)=bc (some y.2))):=fun y hy=>by
  obtain⟨x,hx,e1,hr⟩:=hL y hy;refine⟨x,hx,e1,?_⟩;rcases hr with hr|⟨hp,z,v,lz,mz,l,m,h1,hz,hzr,h2,h3⟩|⟨hp,z,h1,hc,h2,h3⟩
  ·exact .inl hr
  ·have r:=(res x hx hp _ h1 (fun v' l' m' ee _=>by rw[hzr]at ee;injection ee with ee;injection ee with ee _;subst ee;exact⟨l,m,h2⟩) (fun ee=>by cases z<;>first|exact ee.elim|exact hz.elim)).1 _ _ _ hzr hz;rw[←e1,h3];exact .inr ⟨hp,h1,r.1,r.2⟩
  ·have r:=(res x hx hp _ h1 (fun v' l' m' _ ee=>by cases z<;>first|exact ee.elim|exact hc.elim) (fun _=>h2)).2 hc;rw[←e1,h3];exact .inr ⟨hp,h1,r,by rw[h2];cases z<;>first|rfl|exact hc.elim⟩
 have liv: ∀(ρa ρb:Nat→Rz) (i:Nat) (x:aN U),ρa i=ρb i→Lv ρa (i,x)=Lv ρb (i,x):=fun ρa ρb i x h=>by funext g;cases x<;>simp only[Lv,h]
 have blk: ∀y∈L,∀g,Lv ρ' y g→g∈aj ρ' H'∨(p y.1=true∧(y.1,y.2)∈H∧Lv ρ (y.1,y.2) g∧g∈aj ρ (bv (np p) H)):=fun y hy g hg=>by
  obtain⟨x,hx,e1,h⟩:=key y hy;rcases h with h|⟨hp,h1,h2,_⟩
  ·obtain⟨i,y⟩:=y;obtain⟨j,x⟩:=x;simp only at e1 h;subst e1;subst h;exact .inl (az.2 ⟨_,hx,hg⟩)
  ·have hg':Lv ρ (y.1,y.2) g:=by rw[←liv ρ' ρ _ _ h2];exact hg
   exact .inr ⟨hp,af h1,hg',fN (af h1) (by simp[np,hp]) hg'⟩
 have hown: ∀g∈aj ρ' L,g∈aj ρ' H'∨g∈aj ρ (bv (np p) H):=fun g hg=>by
  obtain⟨y,hy,hg⟩:=az.1 hg;rcases blk y hy g hg with h|h
  ·exact .inl h
  ·exact .inr h.2.2.2
 have hrow: ∀i,bc (aB L i)=bc (aB H' i):=fun i=>by
  cases hi:aB L i with
  |some y=>
   have hin:=af hi;obtain⟨⟨j,x⟩,hx,e1,h⟩:=key _ hin;simp only at e1 h;subst e1;rw[cM M'.nd hx];rcases h with h|⟨_,_,_,h⟩
   ·rw[h]
   ·exact h.symm
  |none=>
   have:aB H' i=none:=pS fun q hq e1=>by
    have h1:i∈L.map (·.1):=by rw[hm];exact List.mem_map.2 ⟨q,hq,e1⟩
    obtain⟨⟨j,y⟩,hy,e2⟩:=List.mem_map.1 h1;simp only at e2;subst e2;rw[cM hnd hy]at hi;cases hi
   rw[this]
 have mv:Mv (aj ρ' H'++(aj ρ (bv (np p) H)++X)) (· =w') (aj ρ' L++X) (· =w'):=fun w2 h2=>⟨w2,[],h2,Fr.refl _ _,fun _ h=>(by cases h),fun y hy=> .inl (by
  rcases List.mem_append.1 hy with hy|hy
  ·rcases hown y hy with h|h
   ·exact List.mem_append_left _ h
   ·exact List.mem_append_right _ (List.mem_append_left _ h)
  ·exact List.mem_append_right _ (List.mem_append_right _ hy))⟩
 have st:bP ρ n H w ρ' n' L w':=by
  refine⟨M.xd,s.nn,s.fr.mono fun g hg=>fe.2 (.inl hg),fun g hg=>?_,fun i hi v l m h=>?_,fun i hi h=>s.cel i hi (by rw[de];exact h)⟩
  ·rcases hown g hg with h|h
   ·rcases s.nb g h with h|h
    ·exact .inl (fe.2 (.inl h))
    ·exact .inr h
   ·exact .inl (fe.2 (.inr h))
  ·rw[hrow]at h;obtain⟨v0,l0,m0,r0,r1⟩:=s.row i hi v l m h;exact⟨v0,l0,m0,by rw[←de (p:=p)];exact r0,r1⟩
 refine⟨⟨hnd,fun y hy=>?_,fun y hy=>?_,fun y hy z hz g h1 h2=>?_,fun g hg hx=>?_,fun w2 h2 x hx=>M'.lo w2 h2 x (List.mem_append_right _ hx),M.xs,M.gv.fr st.fr M.xd⟩,st,hrow,mv,fun g hg=>?_⟩
 ·obtain⟨x,hx,e1,_⟩:=key y hy;rw[←e1];exact M'.lt x hx
 ·obtain⟨x,hx,e1,h⟩:=key y hy;rcases h with h|⟨hp,h1,h2,_⟩
  ·have hM:=M'.ent x hx;rw[e1,←h]at hM;have hcg: ∀x vs,aV U (aj ρ' H'++(aj ρ (bv (np p) H)++X)) (· =w') ρ' n' H' x vs→aV U (aj ρ' L++X) (· =w') ρ' n' L x vs:=fun x vs h=>h.cong mv hrow;obtain⟨i,y⟩:=y;simp only at hM⊢;cases y with
   |cells l t=>obtain⟨g,vs,hA,hs,hw⟩:=hM;exact⟨g,vs,hA,hs.imp hcg,hw⟩
   |row v s xs t=>obtain⟨hm,cs,sp,hd,ho,hw⟩:=hM;exact⟨hm,cs,sp,ba.mv mv hd,ho,hw⟩
   |map d l=>obtain⟨hk,g,es,clock,m,hA,hm,hd,hw⟩:=hM;exact⟨hk,g,es,clock,m,hA,hm,aH.mv mv hd,hw⟩
   |mapr d l r q0 q=>obtain⟨hk,g,es,clock,m,lv,cv,hA,hm,hd,hl,hc,hw⟩:=hM;exact⟨hk,g,es,clock,m,lv,cv,hA,hm,aH.mv mv hd,aH.mv mv hl,aH.mv mv hc,hw⟩
   |it k q=>obtain⟨r,g,hA,hA2,hk,hrk,hw⟩:=hM;exact⟨r,g,hA,hA2,hk,by rw[hrow];exact hrk,hw⟩
   |its k q=>obtain⟨h1,h2,r,hA,hw⟩:=hM;exact⟨h1,h2,r,hA,hw⟩
   |frz v s xs=>obtain⟨hm,cs,hd,hr,h1,h2⟩:=hM;exact⟨hm,cs,ba.mv mv hd,hr.mv mv,h1,h2⟩
   |ext v d xs op=>obtain⟨C,hd,hw,ho⟩:=hM;exact⟨C,d.mv mv.fr hd,hw,ho.imp hcg⟩
   |clo f l=>trivial
   |hid v l m=>trivial
   |dead=>trivial
  ·have hin:=af h1;refine jQ.step st (M.ent _ hin) h2 fun g hg=>s.fr.block g (cN M _ hin g hg) fun hgo=>?_;obtain⟨j,z,g1,g2,g3⟩:=fc hgo;have:=M.inj _ hin _ g1 g hg g3;simp only at this;rw[this,g2]at hp;cases hp
 ·have dj: ∀g,g∈aj ρ' H'→g∈aj ρ (bv (np p) H)→False:=fun g a b=>M'.dj g a (List.mem_append_left _ b);obtain⟨x,hx,e1,hh1⟩:=key y hy;obtain⟨x2,hx2,e2,hh2⟩:=key z hz;rcases blk y hy g h1 with a|⟨_,a1,a2,a3⟩
  ·rcases blk z hz g h2 with c|⟨_,c1,c2,c3⟩
   ·have f1:Lv ρ' x g∨g∈aj ρ (bv (np p) H):=by
     rcases hh1 with h|⟨hp,q1,q2,_⟩
     ·left;obtain⟨i,y⟩:=y;obtain⟨j,x⟩:=x;simp only at e1 h;subst e1;subst h;exact h1
     ·right;exact fN (af q1) (by simp[np,hp]) (by rw[←liv ρ' ρ _ _ q2];exact h1)
    have f2:Lv ρ' x2 g∨g∈aj ρ (bv (np p) H):=by
     rcases hh2 with h|⟨hp,q1,q2,_⟩
     ·left;obtain⟨i,y⟩:=z;obtain⟨j,x⟩:=x2;simp only at e2 h;subst e2;subst h;exact h2
     ·right;exact fN (af q1) (by simp[np,hp]) (by rw[←liv ρ' ρ _ _ q2];exact h2)
    rcases f1 with f1|f1
    ·rcases f2 with f2|f2
     ·rw[←e1,←e2];exact M'.inj x hx x2 hx2 g f1 f2
     ·exact(dj g a f2).elim
    ·exact(dj g a f1).elim
   ·exact(dj g a c3).elim
  ·rcases blk z hz g h2 with c|⟨_,c1,c2,c3⟩
   ·exact(dj g c a3).elim
   ·exact M.inj _ a1 _ c1 g a2 c2
 ·rcases hown g hg with h|h
  ·exact M'.dj g h (List.mem_append_right _ hx)
  ·exact M.dj g (fe.2 (.inr h)) hx
 ·obtain⟨i,y,g1,g2,g3⟩:=fc hg;rcases blk _ g1 g g3 with h|⟨h,_⟩
  ·exact s.nb g h
  ·simp only at h;rw[g2]at h;cases h
end
end Go.Proofs.YtfgofabojepcmaaGreatDoor.V
end

section
set_option linter.unusedVariables false
set_option linter.unusedSectionVars false
set_option linter.unusedSimpArgs false
namespace Go.Proofs.YtfgofabojepcmaaGreatDoor.V
open Go.RowKit
section
variable [bF] [lV] [al] {U:bJ} [eI U] {bx:Int→Value} {P:Program} {nt:Nat} {T:cH U} {G:bS U} {X Y:List Nat} {w w' w0:World} {W:World→Prop} {ρ ρ' ρ0:Nat→Rz} {n n' n0 b:Nat} {H H' H0 L:Hs U} {R e e':En U} {ce:aK} {o:Oper} {S:List Nat} {p:Nat→Bool}
omit [al]in
theorem aM.noR {V : Cx U → List Value → Prop} (he : aM V R e ce) (hr : dg R e S) : aM V [] e ce :=
  ⟨fun k x _ hk => he.v k x (Classical.byContradiction fun hn => by rw [hr.ne k hn] at hk; cases hk) hk,
   fun k l _ hk => he.t k l (Classical.byContradiction fun hn => by rw [hr.ne k hn] at hk; cases hk) hk, fun k p x hk => by cases hk⟩
omit [al]in
theorem jg.imp{V V':Cx U→List Value→Prop}(h: ∀x vs,V x vs→V' x vs): ∀{av:AV U} {v:Value},jg V av v→jg V' av v
 | .v x,v,hx=>ct.imp h hx
 | .tup l,v,hx=>by obtain⟨us,h1,h2⟩:=hx;exact⟨us,h1,bB.imp h h2⟩
 | .pan z,v,hx=>hx
 | .gd p x,v,hx=>hx
 | .un,v,hx=>hx
omit [al]in
theorem jE{l:List Oper}{i:Nat}{o:Oper}(h:cL l i=some o):l.toArray[i]? =some o∧o∈l:=by
 rw[cu]at h;exact⟨by simpa using h,List.mem_of_getElem? h⟩
omit [al]in
theorem uA{ops:Array Oper}{listed:Array Bool}{i:Nat}(h:i∈Region.ready .any ops listed):i<ops.size:=by
 obtain⟨_,o,ho,_⟩:=mem_ready.1 h;exact(Array.getElem?_eq_some_iff.1 ho).1
def nj(f:Option Nat):Nat:=match f with|some _=>1|none=>0
def EU(f:Option Nat)(i:Nat):Bool:=match f with|some f=>i !=f|none=>true
omit [al]in
theorem rP{ops:Array Oper}{listed:Array Bool}{i:Nat}{f:Option Nat}(h:i∈Region.ready .any ops listed)(hf:EU f i=true):i≠f.getD ops.size:=by
 have:=uA h;cases f with
 |none=>show i≠ops.size;omega
 |some f=>exact(by simpa[EU]using hf: ¬i=f)
def E3(P:Program)(nt:Nat)(U:bJ) [eI U]:Prop:= ∀o f,eI.ua (U:=U) o=some f→al.pr=P→ ∀X w ρ n (H:Hs U) R e ce K,f R e n H K→(o.dst.all (Nat.blt · nt))=true→bd U X (· =w) ρ n H→aM (Vw U X w ρ n H) R e ce→il P nt U X w ρ n H ce o K
structure th(P:Program)(nt:Nat)(U:bJ) [eI U](bx:Int→Value)(X:List Nat)(ρ0:Nat→Rz)(b:Nat)(H0:Hs U)(w0:World)(Q:EQ):Prop where
 ok:DH P U bx (eI.g (U:=U))
 ua:E3 P nt U
 q: ∀z e n H ρ ce w,eI.kp z e n H→bd U X (· =w) ρ n H→aM (Vw U X w ρ n H) [] e ce→bP ρ0 b H0 w0 ρ n H w→aK.Le lV.pe ce∧Q (.panic [{v:=bx z,recovered:=false}]) lV.pe w
theorem po(hG:c6 P U G){bx:Int→Value}(hP:DH P U bx (eI.g (U:=U))){K:AV U→Nat→Hs U→Prop}(h:De T G o R e n H K)(M:bd U X (· =w) ρ n H)(he:aM (Vw U X w ρ n H) R e ce):
  ∃f xs ts vs,o.op= .call {callee:= .value (.func f),args:=List.toArray xs,argTypes:=ts}∧ce.evs xs=some vs∧wv P f vs w (fun v w'=> ∃av n' H' ρ',(∀z,av≠ .pan z)∧K av n' H'∧jg (Vw U X w' ρ' n' H') av v∧bd U X (· =w') ρ' n' H'∧bP ρ n H w ρ' n' H' w')
   fun v w'=> ∃z,v=bx z∧ ∃n' H' ρ',eI.kp z e n' H'∧bd U X (· =w') ρ' n' H'∧bP ρ n H w ρ' n' H' w':=by
 unfold De at h;split at h
 ·rename_i c ho;split at h
  ·rename_i f hcal;split at h
   ·rename_i k hk;obtain⟨xs,h,hxs⟩:=e9 h he;obtain⟨vs,e1,hv⟩:=hxs dp;refine⟨f,c.args.toList,c.argTypes,vs,by rw[ho];exact congrArg Op.call (j3 hcal),e1,wv.mono (zj hG (hP f k hk) h M hv) (fun v w'=>?_) fun v w' h=>h⟩;rintro⟨av,n',H',ρ',hn,hK,q⟩;refine⟨av,n',H',ρ',hn,?_,q⟩;cases av with
    |pan z=>exact absurd rfl (hn z)
    |_=>exact hK
   ·exact h.elim
  ·exact h.elim
 ·exact h.elim
theorem pq(hG:c6 P U G)(hT:bl U P T){Q:EQ}{l:List Oper}{K:KS U}{D:List Nat}{listed:Array Bool}{fuel:Nat}{f:Option Nat}
  (hQ: ∀e n H ρ ce w,K e n H→bd U X (· =w) ρ n H→aM (Vw U X w ρ n H) [] e ce→bP ρ0 b H0 w0 ρ n H w→Q .normal ce w) (PH:th P nt U bx X ρ0 b H0 w0 Q) (hd: ∀o∈l,(o.dst.all (Nat.blt · nt))=true) (hpd: ∀o∈l,sF o.dst=true)
  (hc:lq l.toArray f [] listed=true) (hl:nj f≤fuel) (h:jP T G l f e n H R S K) (M:bd U X (· =w) ρ n H) (he:aM (Vw U X w ρ n H) R e ce) (hr:dg R e S) (st:bP ρ0 b H0 w0 ρ n H w):
  Pg P nt l.toArray (f.getD l.toArray.size) D Q fuel listed ce w:=by
 cases f with
 |none=>exact zu hc (hQ _ _ _ _ _ _ h M (he.noR hr) st)
 |some f=>
  have hc:(Region.ready .any l.toArray listed== [f]&&(Region.ready .any l.toArray (listed.setIfInBounds f true)).isEmpty)=true:=hc;rw[Bool.and_eq_true]at hc;obtain⟨k,rfl⟩: ∃k,fuel=k+1:=⟨fuel - 1,by unfold nj at hl;simp only at hl;omega⟩;have h:(match (generalizing:=false) cL l f with
   |some o=>lp T G l o (fun e n H _ _ K=>K e n H)
   |none=>fun _ _ _ _ _ _=>False) e n H R S K:=h
  cases ho:cL l f with
  |none=>rw[ho]at h;exact h.elim
  |some o=>
   rw[ho]at h;obtain⟨ha,hin⟩:=jE ho;have h:lp T G l o (fun e n H _ _ K=>K e n H) e n H R S K:=h;unfold lp at h;cases hpb:Dd (U:=U) o with
   |false=>
    rw[hpb]at h;simp only[cond_false]at h;cases hua:eI.ua (U:=U) o with
    |some uf=>
     rw[hua]at h;simp only at h;cases hg:o.guard with
     |some g=>rw[hg]at h;exact h.elim
     |none=>
      rw[hg]at h;refine vZ (by simpa using hc.1) hc.2 ha (aR hg) (cd.mono (PH.ua o uf hua hG.1 _ _ _ _ _ _ _ _ _ h (hd o hin) M he) ?_);rintro ce' w' ⟨av,n',H',ρ',cv,hK,rfl,hav,M',s'⟩;unfold jO at hK;cases hdst:o.dst with
      |none=>
       rw[hdst]at hK;exact hQ _ _ _ _ _ _ hK M' ((he.step s').noR hr) (st.trans s')
      |some d=>
       rw[hdst]at hK;simp only at hK;cases hm:fh d S with
       |true=>rw[hm]at hK;exact hK.elim
       |false=>
        rw[hm]at hK;obtain⟨he',hr'⟩:=(he.step s').putV hr (dv hm) hav;exact hQ _ _ _ _ _ _ hK M' (he'.noR hr') (st.trans s')
    |none=>
    rw[hua]at h;have h:fA T G l o (fun e n H _ _ K=>K e n H) e n H R S K:=h;rcases kM hG hT h M he hr (hd o hin)with⟨hw,hact⟩|⟨hw,e',R',S',hK,he',hr'⟩
    ·refine vZ (by simpa using hc.1) hc.2 ha hw (cd.mono hact ?_);rintro ce' w' ⟨e',n',H',R',S',ρ',hK,M',s',he',hr',_⟩;exact hQ _ _ _ _ _ _ hK M' (he'.noR hr') (st.trans s')
    ·exact zt (by simpa using hc.1) hc.2 ha hw (hd o hin) (hQ _ _ _ _ _ _ hK M (he'.noR hr') st)
   |true=>
    rw[hpb]at h;simp only[cond_true]at h;cases hg:o.guard with
    |some g=>rw[hg]at h;exact h.elim
    |none=>
     rw[hg]at h;obtain⟨g,xs,ts,vs,hcl,hx,hc2⟩:=po hG PH.ok h M he;refine zr (by simpa using hc.1) hc.2 ha (aR hg) hcl (hd o hin) hx hc2 (fun v w' hv=>?_) (fun v w' hv=>?_)
     ·obtain⟨av,n',H',ρ',_,hK,hav,M',s'⟩:=hv;unfold jO at hK;cases hdst:o.dst with
      |none=>
       rw[hdst]at hK;exact hQ _ _ _ _ _ _ hK M' ((he.step s').noR hr) (st.trans s')
      |some d=>
       rw[hdst]at hK;simp only at hK;cases hm:fh d S with
       |true=>rw[hm]at hK;exact hK.elim
       |false=>
        rw[hm]at hK;obtain⟨he',hr'⟩:=(he.step s').putV hr (dv hm) hav;exact hQ _ _ _ _ _ _ hK M' (he'.noR hr') (st.trans s')
     ·obtain⟨z,rfl,n',H',ρ',hK,M',s'⟩:=hv;exact PH.q _ _ _ _ _ _ _ hK M' ((he.step s').noR hr) (st.trans s')
theorem pt(hG:c6 P U G)(hT:bl U P T){Q:EQ}{l:List Oper}{K:KS U}{fl k i:Nat}{listed:Array Bool}{rest:KR U}
  (hs:Region.noSelect l.toArray=true) (hfin:j4 l.toArray fl) (ha:l.toArray[i]? =some o) (hdo:(o.dst.all (Nat.blt · nt))=true) (hpo:sF o.dst=true) (c1:(Region.ready .any l.toArray listed).contains i=true) (c2:Region.free .any l.toArray listed i=true) (hne:i≠fl)
  (ih: ∀(e:En U) (n:Nat) (H:Hs U) (R:En U) (S:List Nat) (ρ:Nat→Rz) (ce:aK) (w:World),rest e n H R S K→bd U X (· =w) ρ n H→aM (Vw U X w ρ n H) R e ce→dg R e S→bP ρ0 b H0 w0 ρ n H w→Pg P nt l.toArray fl (aj ρ (bv (np p) H)) Q k (listed.setIfInBounds i true) ce w)
  (h:jf T G l p true o rest e n H R S K) (M:bd U X (· =w) ρ n H) (he:aM (Vw U X w ρ n H) R e ce) (hr:dg R e S) (st:bP ρ0 b H0 w0 ρ n H w):Pg P nt l.toArray fl (aj ρ (bv (np p) H)) Q (k+1) listed ce w:=by
 unfold jf at h;cases hna:jN o with
 |true=>rw[hna]at h;exact h.elim
 |false=>
  rw[hna]at h;have h:qP p H fun Hu=>fA T G l o (fun e _ _ R S K=>rest e n H R S K) e n Hu R S K:=h;have h:=jC h;obtain⟨Mh,mv1,mv2⟩:=jD (p:=p) M;obtain⟨e',R',S',hK,hh⟩:=nG (nt:=nt) hG.1 hna hT h Mh (he.imp fun _ _ hx=>hx.cong mv1 fun i=>de) hr ⟨w,Fr.refl _ _⟩ hdo;rcases hh with⟨v,hw,hy,he',hr'⟩|⟨hw,he',hr'⟩
  ·exact IX hfin hs ha c1 c2 hne hw hdo hpo hy (ih _ _ _ _ _ _ _ _ hK M (he'.imp fun _ _ hx=>hx.cong mv2 fun i=>de.symm) hr' st)
  ·exact IY hfin hs ha c1 c2 hne hw hdo hpo (ih _ _ _ _ _ _ _ _ hK M (he'.imp fun _ _ hx=>hx.cong mv2 fun i=>de.symm) hr' st)
theorem uB(hG:c6 P U G){q:b8}{yes:Va U→Nat→Hs U→Prop}{no:Prop}(h:tw T G q o R e n H yes no)(M:bd U X (· =w) ρ n H)(he:aM (Vw U X w ρ n H) R e ce)(hd:(o.dst.all (Nat.blt · nt))=true):
  ∃d,o.dst=some d∧Nat.blt d nt=true∧(bg R e q→ ∃fx fv xs ts vs,o.op= .call {callee:= .value fx,args:=List.toArray xs,argTypes:=ts}∧ce.ev fx=some fv∧ce.evs xs=some vs∧nE P fv vs w fun v w'=>
   ∃x n' H' ρ',yes x n' H'∧ct (Vw U X w' ρ' n' H') x v∧bd U X (· =w') ρ' n' H'∧bP ρ n H w ρ' n' H' w')∧(¬bg R e q→no):=by
 unfold tw at h;obtain⟨d,hdst,hn,h⟩:=eo h hd;refine⟨d,hdst,hn,?_⟩;split at h
 ·rename_i c ho;split at h
  ·rename_i s hcal;obtain⟨x,h,hx⟩:=bm h he;obtain⟨xs,h,hxs⟩:=e9 h he;split at h
   ·rename_i f _;refine⟨fun hp=>?_,fun hp=>pK h.2 hp⟩;have h:=ij h.1 hp;obtain⟨u,e0,h0⟩:=hx hp;obtain⟨vs,e1,hv⟩:=hxs hp;unfold je at h;split at h
    ·rename_i k hk;have e2: [u]= [Value.func (.func f) #[] #[]]:=h0;injection e2 with e2;subst e2;refine⟨.tmp s,_,_,_,_,by rw[ho];exact congrArg Op.call (mB hcal),e0,e1,nE.of ((kW hG (hG.2 f k hk) h M hv).mono fun v w' ⟨av,n',H',ρ',a,b,c,d⟩=>?_)⟩;cases av with
     |v x=>exact⟨x,n',H',ρ',a,b,c,d⟩
     |_=>exact a.elim
    ·exact h.elim
   ·exact h.elim
  ·exact h.elim
 ·exact h.elim
theorem rQ(hG:c6 P U G){q:b8}{K:Va U→Prop}(h:nI T G p q o R e n H K)(M:bd U X (· =w) ρ n H)(he:aM (Vw U X w ρ n H) R e ce):
  ∃x,K x∧(bg R e q→ ∃fx fv xs ts vs,o.op= .call {callee:= .value fx,args:=List.toArray xs,argTypes:=ts}∧ce.ev fx=some fv∧ce.evs xs=some vs∧nE P fv vs w fun v w'=>
   ∃ρ',ct (Vw U X w' ρ' n H) x v∧bd U X (· =w') ρ' n H∧bP ρ n H w ρ' n H w'∧Fr (aj ρ (bv (np p) H)) w w'∧ ∀y∈aj ρ' (bv (np p) H),y∈aj ρ (bv (np p) H)∨w.heap.size≤y):=by
 unfold nI at h;split at h
 ·rename_i c ho;split at h
  ·rename_i f hcal;split at h
   ·rename_i k hk;obtain⟨xs,h,hxs⟩:=e9 h he;have h:=jC h;obtain⟨x,h,hK⟩:=h;refine⟨x,hK,fun hp=>?_⟩;obtain⟨vs,e1,hv⟩:=hxs hp;have h:=ij h hp;refine⟨.func f,_,c.args.toList,c.argTypes,vs,by rw[ho];exact congrArg Op.call (j3 hcal),rfl,e1,nE.of ?_⟩;obtain⟨Mh,mv1,_⟩:=jD (p:=np p) M;have h1: ∀w',w'=w→Fr (aj ρ (bv (np (np p)) H)) w w':=fun w' hw'=>by subst hw';exact Fr.refl _ _
    have Mk:=Mh.sub h1;have mvk:=fun w' hw'=>mv1 w' (h1 w' hw');have hv:bB (Vw U (aj ρ (bv (np (np p)) H)++X) w ρ n (bv (np p) H)) xs vs:=bB.imp (fun _ _ hx=>hx.cong mvk fun i=>de) hv;refine Fn.mono (kW hG (hG.2 f k hk) h Mk hv) fun v w'=>?_;rintro⟨av,n',H',ρ',⟨e2,e3,hK2⟩,hav,M',s'⟩;subst e2;subst e3;obtain⟨L,hL0,hm,hL⟩:=lO hK2;subst hL0;obtain⟨M2,s2,hrow,mv,hD⟩:=l8 M M' s' hm hL;have hav:jg (Vw U X w' ρ' _ _) (.v x) v:=jg.imp (fun _ _ hx=>hx.cong mv hrow) hav;exact⟨ρ',hav,M2,s2,s'.fr,hD⟩
   ·exact h.elim
  ·exact h.elim
 ·exact h.elim
theorem uC(hG:c6 P U G){Q:EQ}{l:List Oper}{K:KS U}{fl k i:Nat}{listed:Array Bool}{rest:KR U}(hdo:(o.dst.all (Nat.blt · nt))=true)
  (ih: ∀(e:En U) (n:Nat) (H:Hs U) (R:En U) (S:List Nat) (ρ:Nat→Rz) (ce:aK) (w:World),rest e n H R S K→bd U X (· =w) ρ n H→aM (Vw U X w ρ n H) R e ce→dg R e S→bP ρ0 b H0 w0 ρ n H w→Pg P nt l.toArray fl (aj ρ (bv (np p) H)) Q k (listed.setIfInBounds i true) ce w)
  (h:gK T G l p o rest e n H R S K) (M:bd U X (· =w) ρ n H) (he:aM (Vw U X w ρ n H) R e ce) (hr:dg R e S) (st:bP ρ0 b H0 w0 ρ n H w):gP P nt l.toArray fl (aj ρ (bv (np p) H)) Q k listed ce w i o:=by
 unfold gK at h;split at h
 ·exact h.elim
 ·rename_i j bb hg;split at h
  ·rename_i oj hj;split at h
   ·rename_i s hs;have key: ∀(q:b8) (kk:Nat) (c:Bool),(aB R s=some (.gd q ⟨false,[(kk,.d .bool c)]⟩)∨(aB R s=none∧aB e s=some (.v ⟨false,[(kk,.d .bool c)]⟩)∧q= []))→nI T G p ((s,bb)::q) o R e n H (fun v=>putG rest s o.dst ((s,bb)::q) v e n H R S K)→gP P nt l.toArray fl (aj ρ (bv (np p) H)) Q k listed ce w i o:=fun q kk c hc h=>by
     obtain⟨hps,hw⟩:=gp (nt:=nt) nP he hr hg hj hs hc;obtain⟨x,hK,hx⟩:=rQ hG h M he;obtain⟨d,hdst,hn,hK,h1,h2,h3⟩:=f9 hdo hK;rcases hw with⟨hp,hw⟩|⟨hp,hw⟩
     ·obtain⟨fx,fv,xs,ts,vs,ho,hfx,hvs,hfn⟩:=hx hp;refine .inl ⟨hw,iS ho hdst hn hfx hvs hfn fun v w' hvw=>?_⟩;obtain⟨ρ',hv,M',s',hf,hD⟩:=hvw;obtain⟨he',hr'⟩:=(he.step s').putG hr h1 h2 h3 hps (x:=x) (cv:=v) (fun _=>hv) (fun hn=>absurd hp hn);exact⟨_,hf,hD,ih _ _ _ _ _ _ _ _ hK M' he' hr' (st.trans s')⟩
     ·obtain⟨he',hr'⟩:=he.putG hr h1 h2 h3 hps (x:=x) (cv:=undef) (fun h=>absurd h hp) (fun _=>rfl);exact .inr ⟨hw,hdo,by rw[hdst];exact ih _ _ _ _ _ _ _ _ hK M he' hr' st⟩
    split at h
    ·rename_i q kk c hc;exact key q kk c (.inl hc) h
    ·exact h.elim
    ·rename_i hR;split at h
     ·rename_i kk c hc;exact key [] kk c (.inr ⟨hR,hc,rfl⟩) h
     ·exact h.elim
   ·exact h.elim
  ·exact h.elim
theorem tj(hG:c6 P U G){Q:EQ}{l:List Oper}{K:KS U}{fl k i:Nat}{listed:Array Bool}{rest:KR U}(hdo:(o.dst.all (Nat.blt · nt))=true)
  (ih: ∀(e:En U) (n:Nat) (H:Hs U) (R:En U) (S:List Nat) (ρ:Nat→Rz) (ce:aK) (w:World),rest e n H R S K→bd U X (· =w) ρ n H→aM (Vw U X w ρ n H) R e ce→dg R e S→bP ρ0 b H0 w0 ρ n H w→Pg P nt l.toArray fl (aj ρ (bv (np p) H)) Q k (listed.setIfInBounds i true) ce w)
  (h:qR T G l p o rest e n H R S K) (M:bd U X (· =w) ρ n H) (he:aM (Vw U X w ρ n H) R e ce) (hr:dg R e S) (st:bP ρ0 b H0 w0 ρ n H w):gP P nt l.toArray fl (aj ρ (bv (np p) H)) Q k listed ce w i o:=by
 unfold qR at h;split at h
 ·exact h.elim
 ·rename_i j bb hg;split at h
  ·rename_i oj hj;split at h
   ·rename_i s hs;have key: ∀(q:b8) (kk:Nat) (c:Bool),(aB R s=some (.gd q ⟨false,[(kk,.d .bool c)]⟩)∨(aB R s=none∧aB e s=some (.v ⟨false,[(kk,.d .bool c)]⟩)∧q= []))→Df T G p ((s,bb)::q) o R e n H (fun v n H=>putG rest s o.dst ((s,bb)::q) v e n H R S K) (putG rest s o.dst ((s,bb)::q) ⟨false,[(1,.un)]⟩ e n H R S K)→gP P nt l.toArray fl (aj ρ (bv (np p) H)) Q k listed ce w i o:=fun q kk c hc h=>by
     obtain⟨hps,hw⟩:=gp (nt:=nt) nP he hr hg hj hs hc;have h:=jC h;obtain⟨Mh,mv1,_⟩:=jD (p:=np p) M;have h1: ∀w',w'=w→Fr (aj ρ (bv (np (np p)) H)) w w':=fun w' hw'=>by subst hw';exact Fr.refl _ _
     have Mk:=Mh.sub h1;have mvk:=fun w' hw'=>mv1 w' (h1 w' hw');obtain⟨d,hdst,hn,hyes,hno⟩:=uB (nt:=nt) hG h Mk (he.imp fun _ _ hx=>hx.cong mvk fun i=>de) hdo;rcases hw with⟨hp,hw⟩|⟨hp,hw⟩
     ·obtain⟨fx,fv,xs,ts,vs,ho,hfx,hvs,hfn⟩:=hyes hp;refine .inl ⟨hw,iS ho hdst hn hfx hvs hfn fun v w' hvw=>?_⟩;obtain⟨x,n',H',ρ',hK,hv,M',s'⟩:=hvw;obtain⟨L,hK,hm,hL⟩:=lO hK;obtain⟨M2,s2,hrow,mv,hD⟩:=l8 M M' s' hm hL;have hv:ct (Vw U X w' ρ' n' L) x v:=ct.imp (fun _ _ hx=>hx.cong mv hrow) hv;obtain⟨d',hdst',_,hK,h1',h2,h3⟩:=f9 hdo hK;rw[hdst]at hdst';injection hdst' with e0;subst e0;obtain⟨he',hr'⟩:=(he.step s2).putG hr h1' h2 h3 hps (x:=x) (cv:=v) (fun _=>hv) (fun hn=>absurd hp hn);exact⟨aj ρ' (bv (np p) L),s'.fr,hD,ih _ _ _ _ _ _ _ _ hK M2 he' hr' (st.trans s2)⟩
     ·obtain⟨d',hdst',_,hK,h1',h2,h3⟩:=f9 hdo (hno hp);rw[hdst]at hdst';injection hdst' with e0;subst e0;obtain⟨he',hr'⟩:=he.putG hr h1' h2 h3 hps (x:=⟨false,[(1,.un)]⟩) (cv:=undef) (fun h=>absurd h hp) (fun _=>rfl);exact .inr ⟨hw,hdo,by rw[hdst];exact ih _ _ _ _ _ _ _ _ hK M he' hr' st⟩
    split at h
    ·rename_i q kk c hc;exact key q kk c (.inl hc) h
    ·exact h.elim
    ·rename_i hR;split at h
     ·rename_i kk c hc;exact key [] kk c (.inr ⟨hR,hc,rfl⟩) h
     ·exact h.elim
   ·exact h.elim
  ·exact h.elim
theorem pu(hG:c6 P U G)(hT:bl U P T){Q:EQ}{l:List Oper}{K:KS U}{fl k i:Nat}{listed:Array Bool}{rest:KR U}(hdo:(o.dst.all (Nat.blt · nt))=true)
  (ih: ∀(e:En U) (n:Nat) (H:Hs U) (R:En U) (S:List Nat) (ρ:Nat→Rz) (ce:aK) (w:World),rest e n H R S K→bd U X (· =w) ρ n H→aM (Vw U X w ρ n H) R e ce→dg R e S→bP ρ0 b H0 w0 ρ n H w→Pg P nt l.toArray fl (aj ρ (bv (np p) H)) Q k (listed.setIfInBounds i true) ce w)
  (h:jf T G l p false o rest e n H R S K) (M:bd U X (· =w) ρ n H) (he:aM (Vw U X w ρ n H) R e ce) (hr:dg R e S) (st:bP ρ0 b H0 w0 ρ n H w):gP P nt l.toArray fl (aj ρ (bv (np p) H)) Q k listed ce w i o:=by
 unfold jf at h;have turn:(jN o=false∨o.guard≠none)→fA T G l o rest e n H R S K→gP P nt l.toArray fl (aj ρ (bv (np p) H)) Q k listed ce w i o:=fun hor h=>by
  rcases kM hG hT h M he hr hdo with⟨hw,hact⟩|⟨hw,e',R',S',hK,he',hr'⟩
  ·refine .inl ⟨hw,cd.mono hact ?_⟩;rintro ce' w' ⟨e',n',H',R',S',ρ',hK,M',s',he',hr',hx⟩;obtain⟨hf,en,eh,er⟩:=hx hor;subst en;subst eh;subst er;exact⟨_,hf.mono (by simp),fun y hy=> .inl hy,ih _ _ _ _ _ _ _ _ hK M' he' hr' (st.trans s')⟩
  ·exact .inr ⟨hw,hdo,ih _ _ _ _ _ _ _ _ hK M he' hr' st⟩
 cases hna:jN o with
 |false=>
  rw[hna]at h;exact turn (.inl hna) h
 |true=>
  rw[hna]at h;cases hg:o.guard with
  |some g=>
   simp only[hg]at h;cases hsp:tx G o with
   |true=>
    rw[hsp]at h;exact tj hG hdo ih h M he hr st
   |false=>
   rw[hsp]at h;simp only[cond_false]at h;cases hpc:qQ G o with
   |true=>
    rw[hpc]at h;exact uC hG hdo ih h M he hr st
   |false=>
    rw[hpc]at h;exact turn (.inr (by rw[hg];exact Option.some_ne_none _)) h
  |none=>
   simp only[hg]at h;have h:=jC h;obtain⟨Mh,mv1,_⟩:=jD (p:=np p) M;have h1: ∀w',w'=w→Fr (aj ρ (bv (np (np p)) H)) w w':=fun w' hw'=>by subst hw';exact Fr.refl _ _
   have Mk:=Mh.sub h1;have mvk:=fun w' hw'=>mv1 w' (h1 w' hw');have hA:il P nt U _ w ρ n (bv (np p) H) ce o _:=sy hG hT hdo h Mk (he.imp fun _ _ hx=>hx.cong mvk fun i=>de);refine .inl ⟨aR hg,cd.mono hA ?_⟩;rintro ce' w' ⟨av,n',H',ρ',cv,hK,rfl,hav,M',s'⟩;obtain⟨L,hK,hm,hL⟩:=lO hK;obtain⟨M2,s2,hrow,mv,hD⟩:=l8 M M' s' hm hL;refine⟨aj ρ' (bv (np p) L),s'.fr,hD,?_⟩;have hav:jg (Vw U X w' ρ' n' L) av cv:=jg.imp (fun _ _ hx=>hx.cong mv hrow) hav;unfold jO at hK;cases hdst:o.dst with
   |none=>
    rw[hdst]at hK;exact ih _ _ _ _ _ _ _ _ hK M2 (he.step s2) hr (st.trans s2)
   |some d=>
    rw[hdst]at hK;simp only at hK;cases hm:fh d S with
    |true=>rw[hm]at hK;exact hK.elim
    |false=>
     rw[hm]at hK;obtain⟨he',hr'⟩:=(he.step s2).putV hr (dv hm) hav;exact ih _ _ _ _ _ _ _ _ hK M2 he' hr' (st.trans s2)
theorem pv(hG:c6 P U G)(hT:bl U P T){Q:EQ}{l:List Oper}{K:KS U}{mk:List Nat}{f:Option Nat}
  (hQ: ∀e n H ρ ce w,K e n H→bd U X (· =w) ρ n H→aM (Vw U X w ρ n H) [] e ce→bP ρ0 b H0 w0 ρ n H w→Q .normal ce w) (PH:th P nt U bx X ρ0 b H0 w0 Q) (hd: ∀o∈l,(o.dst.all (Nat.blt · nt))=true) (hpd: ∀o∈l,sF o.dst=true)
  (hs:Region.noSelect l.toArray=true) (hfin:j4 l.toArray (f.getD l.toArray.size)):
  ∀(pl:List (Bool×Nat)) (listed:Array Bool) (fuel:Nat) (e:En U) (n:Nat) (H:Hs U) (R:En U) (S:List Nat) (ρ:Nat→Rz) (ce:aK) (w:World),lq l.toArray f pl listed=true→pl.length+nj f≤fuel→
   uX T G l mk (jP T G l f) pl e n H R S K→bd U X (· =w) ρ n H→aM (Vw U X w ρ n H) R e ce→dg R e S→bP ρ0 b H0 w0 ρ n H w→
   Pg P nt l.toArray (f.getD l.toArray.size) (aj ρ (bv (np fun i=>fh i mk) H)) Q fuel listed ce w
 | [],listed,fuel,e,n,H,R,S,ρ,ce,w,hc,hl,h,M,he,hr,st=>pq hG hT hQ PH hd hpd hc (by simpa using hl) h M he hr st
 |(how,i)::pl,listed,fuel,e,n,H,R,S,ρ,ce,w,hc,hl,h,M,he,hr,st=>by
  obtain⟨k,rfl⟩: ∃k,fuel=k+1:=⟨fuel - 1,by simp only[List.length_cons]at hl;omega⟩;have hl2:pl.length+nj f≤k:=by simp only[List.length_cons]at hl;omega
  have ih:=fun c4 e n H R S ρ ce w=>pv (mk:=mk) hG hT hQ PH hd hpd hs hfin pl (listed.setIfInBounds i true) k e n H R S ρ ce w c4 hl2;replace h:(match (generalizing:=false) cL l i with
   |some o=>jf T G l (fun i=>fh i mk) how o (uX T G l mk (jP T G l f) pl)
   |none=>fun _ _ _ _ _ _=>False) e n H R S K:=h
  cases ho:cL l i with
  |none=>rw[ho]at h;exact h.elim
  |some o=>
   rw[ho]at h;obtain⟨ha,hin⟩:=jE ho;have hdo:=hd o hin;cases how with
   |true=>
    have hc:((Region.ready .any l.toArray listed).contains i&&Region.free .any l.toArray listed i&&EU f i&&lq l.toArray f pl (listed.setIfInBounds i true))=true:=hc;simp only[Bool.and_eq_true]at hc;obtain⟨⟨⟨c1,c2⟩,c3⟩,c4⟩:=hc;exact pt hG hT hs hfin ha hdo (hpd o hin) c1 c2 (rP (by simpa using c1) c3) (ih c4) h M he hr st
   |false=>
    have hc:(Region.ready .any l.toArray listed== [i]&&EU f i&&lq l.toArray f pl (listed.setIfInBounds i true))=true:=hc;simp only[Bool.and_eq_true]at hc;obtain⟨⟨c1,c3⟩,c4⟩:=hc;have c1:Region.ready .any l.toArray listed= [i]:=by simpa using c1
    refine FH (by rw[c1];exact List.cons_ne_nil _ _) fun j hj=>?_;rw[c1]at hj;obtain rfl:j=i:=by simpa using hj
    exact⟨o,ha,pu hG hT hdo (ih c4) h M he hr st⟩
theorem jF(hG:c6 P U G)(hT:bl U P T){Q:EQ}{l:List Oper}{K:KS U}{f:Option Nat}
  (hQ: ∀e n H ρ ce w,K e n H→bd U X (· =w) ρ n H→aM (Vw U X w ρ n H) [] e ce→bP ρ0 b H0 w0 ρ n H w→Q .normal ce w) (PH:th P nt U bx X ρ0 b H0 w0 Q) (hd: ∀o∈l,(o.dst.all (Nat.blt · nt))=true) (hpd: ∀o∈l,sF o.dst=true)
  (hs:Region.noSelect l.toArray=true) (hfin:j4 l.toArray (f.getD l.toArray.size)):
  ∀(t:Ot) (listed:Array Bool) (fuel:Nat) (e:En U) (n:Nat) (H:Hs U) (R:En U) (S:List Nat) (ρ:Nat→Rz) (ce:aK) (w:World),
   pI T G l p (jP T G l f) t e n H R S K→bd U X (· =w) ρ n H→aM (Vw U X w ρ n H) R e ce→dg R e S→bP ρ0 b H0 w0 ρ n H w→
   (fQ l.toArray f t listed none=true→t.h+nj f≤fuel→Pg P nt l.toArray (f.getD l.toArray.size) (aj ρ (bv (np p) H)) Q fuel listed ce w)∧
   (∀L,fQ l.toArray f t listed (some L)=true→t.h+nj f≤fuel+1→ ∀i∈L,∃o,l.toArray[i]? =some o∧gP P nt l.toArray (f.getD l.toArray.size) (aj ρ (bv (np p) H)) Q fuel listed ce w i o)
 | .fin,listed,fuel,e,n,H,R,S,ρ,ce,w,h,M,he,hr,st=>⟨fun hc hl=>pq hG hT hQ PH hd hpd hc (by simpa[Ot.h]using hl) h M he hr st,fun L hc=>by cases hc⟩
 | .nil,listed,fuel,e,n,H,R,S,ρ,ce,w,h,M,he,hr,st=>⟨fun hc=>(by cases hc),fun L hc _ i hi=>by
   have hc:L.isEmpty=true:=hc;rw[List.isEmpty_iff]at hc;subst hc;cases hi⟩
 | .look i r,listed,fuel,e,n,H,R,S,ρ,ce,w,h,M,he,hr,st=>⟨fun hc hl=>by
   obtain⟨k,rfl⟩: ∃k,fuel=k+1:=⟨fuel - 1,by simp only[Ot.h]at hl;omega⟩;have hl2:r.h+nj f≤k:=by simp only[Ot.h]at hl;omega
   have hc:((Region.ready .any l.toArray listed).contains i&&Region.free .any l.toArray listed i&&EU f i&&fQ l.toArray f r (listed.setIfInBounds i true) none)=true:=hc;simp only[Bool.and_eq_true]at hc;obtain⟨⟨⟨c1,c2⟩,c3⟩,c4⟩:=hc;have h:(match (generalizing:=false) cL l i with
    |some o=>jf T G l p true o (pI T G l p (jP T G l f) r)
    |none=>fun _ _ _ _ _ _=>False) e n H R S K:=h
   cases ho:cL l i with
   |none=>rw[ho]at h;exact h.elim
   |some o=>
    rw[ho]at h;obtain⟨ha,hin⟩:=jE ho;exact pt hG hT hs hfin ha (hd o hin) (hpd o hin) c1 c2 (rP (by simpa using c1) c3) (fun e n H R S ρ ce w h M he hr st=>(jF hG hT hQ PH hd hpd hs hfin r _ k e n H R S ρ ce w h M he hr st).1 c4 hl2) h M he hr st,fun L hc=>by cases hc⟩
 | .turn i a t,listed,fuel,e,n,H,R,S,ρ,ce,w,h,M,he,hr,st=>by
  have h:(match (generalizing:=false) cL l i with
    |some o=>jf T G l p false o (pI T G l p (jP T G l f) a)
    |none=>fun _ _ _ _ _ _=>False) e n H R S K∧pI T G l p (jP T G l f) t e n H R S K:=h
  obtain⟨h,h2⟩:=h;have key: ∀L k,Fp i L=true→fQ l.toArray f a (listed.setIfInBounds i true) none=true→fQ l.toArray f t listed (some L.tail)=true→(Ot.turn i a t).h+nj f≤k+1→ ∀j∈L,∃o,l.toArray[j]? =some o∧gP P nt l.toArray (f.getD l.toArray.size) (aj ρ (bv (np p) H)) Q k listed ce w j o:=fun L k c1 c2 c3 hl j hj=>by
   have hl2:a.h+nj f≤k:=by simp only[Ot.h]at hl;omega
   have hl3:t.h+nj f≤k+1:=by simp only[Ot.h]at hl;omega
   cases L with
   |nil=>cases hj
   |cons x L=>
    have c1:x=i:=Nat.eq_of_beq_eq_true c1;subst c1;rcases List.mem_cons.1 hj with rfl|hj
    ·cases ho:cL l j with
     |none=>rw[ho]at h;exact h.elim
     |some o=>
      rw[ho]at h;obtain⟨ha,hin⟩:=jE ho;exact⟨o,ha,pu hG hT (hd o hin) (fun e n H R S ρ ce w h M he hr st=>(jF hG hT hQ PH hd hpd hs hfin a _ k e n H R S ρ ce w h M he hr st).1 c2 hl2) h M he hr st⟩
    ·exact(jF hG hT hQ PH hd hpd hs hfin t listed k e n H R S ρ ce w h2 M he hr st).2 L c3 hl3 j hj
  refine⟨fun hc hl=>?_,fun L hc hl=>?_⟩
  ·obtain⟨k,rfl⟩: ∃k,fuel=k+1:=⟨fuel - 1,by simp only[Ot.h]at hl;omega⟩;have hc:(Fp i (Region.ready .any l.toArray listed)&&fQ l.toArray f a (listed.setIfInBounds i true) none&&fQ l.toArray f t listed (some (Region.ready .any l.toArray listed).tail))=true:=hc;simp only[Bool.and_eq_true]at hc;obtain⟨⟨c1,c2⟩,c3⟩:=hc;exact FH (fun h0=>by rw[h0]at c1;cases c1) (key _ k c1 c2 c3 hl)
  ·have hc:(Fp i L&&fQ l.toArray f a (listed.setIfInBounds i true) none&&fQ l.toArray f t listed (some L.tail))=true:=hc;simp only[Bool.and_eq_true]at hc;obtain⟨⟨c1,c2⟩,c3⟩:=hc;exact key _ fuel c1 c2 c3 hl
theorem uD(hG:c6 P U G)(hT:bl U P T)(hmo:P.follows .mixedOrders=true){Q:EQ}{l:List Oper}{K:KS U}{id:Nat}(hQ: ∀e n H ρ ce w,K e n H→bd U X (· =w) ρ n H→aM (Vw U X w ρ n H) [] e ce→bP ρ0 b H0 w0 ρ n H w→Q .normal ce w)(PH:th P nt U bx X ρ0 b H0 w0 Q)(hd: ∀o∈l,(o.dst.all (Nat.blt · nt))=true)(hpd: ∀o∈l,sF o.dst=true)(hnd:l.all pi=true)
  (h:u4 T G b l.toArray e n H K) (M:bd U X (· =w) ρ n H) (he:aM (Vw U X w ρ n H) [] e ce) (st:bP ρ0 b H0 w0 ρ n H w):Wp P nt (.region id l.toArray true) Q ce w:=by
 obtain⟨M',s'⟩:=M.keep0 (Fr.drew w);have fin: ∀f:Option Nat,(match f with|some f=>AP .any l.toArray f|none=>true)=true→j4 l.toArray (f.getD l.toArray.size):=fun f hf=>by
  cases f with
  |none=>exact q9 (Nat.le_refl _)
  |some f=>exact vW hf
 have r0:dg ([]:En U) e []:=⟨fun k hk=>absurd rfl hk,fun k av hk=>(by cases hk),fun k hk=>absurd rfl hk⟩;rcases h with⟨pl,f,mk,hp,h⟩|⟨t,f,mk,N,E,L,A,hp,h,hK⟩
 ·unfold uY at hp;simp only[Bool.and_eq_true]at hp;obtain⟨⟨⟨hs,hf⟩,hc⟩,hl⟩:=hp;exact BZ _ hmo hnd (pv hG hT hQ PH hd hpd hs (fin f hf) pl _ _ _ _ _ _ _ _ _ _ hc (Nat.le_of_ble_eq_true hl) h M' (he.step s') r0 (st.trans s'))
 ·unfold uZ at hp;simp only[Bool.and_eq_true]at hp;obtain⟨⟨⟨hs,hf⟩,hc⟩,hl⟩:=hp;refine BZ _ hmo hnd ((jF hG hT (K:=fun e' n' H'=>A∧ ∃φ,Fv b N φ n' e' H' E L) ?_ PH hd hpd hs (fin f hf) t _ _ _ _ _ _ _ _ _ _ h M' (he.step s') r0 (st.trans s')).1 hc (Nat.le_of_ble_eq_true hl));rintro e' n' H' ρ' ce' w' ⟨hA,φ,hle⟩ M2 he2 st2;obtain⟨ρ3,M3,he3,st3⟩:=q6 M2 he2 hle st2;exact hQ _ _ _ _ _ _ (hK hA) M3 he3 st3
omit [al]in
theorem E4{n:Nat}{env:aK}{w:World}{Q:EQ}{ops:Array Oper}{rest:List Oper}{o:Oper}(hw:lH n env ops o false)(hd:(o.dst.all (Nat.blt · n))=true)(h:Ls P n ops Q rest (env.dst o.dst undef) w):Ls P n ops Q (o::rest) env w:=by
 cases hdst:o.dst with
 |none=>rw[hdst]at h;exact Hg hw hdst h
 |some d=>rw[hdst]at h hd;exact EA hw hdst (by simpa using hd) h
theorem rR(hG:c6 P U G)(hT:bl U P T){Q:EQ}{all:List Oper}{K:KS U}(hQ: ∀e n H ρ ce w,K e n H→bd U X (· =w) ρ n H→aM (Vw U X w ρ n H) [] e ce→bP ρ0 b H0 w0 ρ n H w→Q .normal ce w)(PH:th P nt U bx X ρ0 b H0 w0 Q):
  ∀(l:List Oper) (e:En U) (n:Nat) (H:Hs U) (R:En U) (S:List Nat) (ρ:Nat→Rz) (ce:aK) (w:World),(∀o∈l,(o.dst.all (Nat.blt · nt))=true)→gL T G all l e n H R S K→bd U X (· =w) ρ n H→aM (Vw U X w ρ n H) R e ce→dg R e S→bP ρ0 b H0 w0 ρ n H w→
   Ls P nt all.toArray Q l ce w
 | [],e,n,H,R,S,ρ,ce,w,hd,h,M,he,hr,st=>bq (hQ e n H ρ ce w h M (he.noR hr) st)
 |o::l,e,n,H,R,S,ρ,ce,w,hd,h,M,he,hr,st=>by
  have ih:=rR (all:=all) hG hT hQ PH l;have hdo:=hd o (by simp);have hdl: ∀o∈l,(o.dst.all (Nat.blt · nt))=true:=fun o ho=>hd o (by simp[ho]);have h:(match o.guard with
   |none=>lp T G all o (gL T G all l)
   |some _=>bif tx G o then mh T G all o (gL T G all l)else bif qQ G o then gK T G all (fun _=>true) o (gL T G all l)else fA T G all o (gL T G all l)) e n H R S K:=h
  have key:fA T G all o (gL T G all l) e n H R S K→Ls P nt all.toArray Q (o::l) ce w:=fun h=>by
   rcases kM hG hT h M he hr hdo with⟨hw,hact⟩|⟨hw,e',R',S',hK,he',hr'⟩
   ·refine m6 hw (cd.mono hact ?_);rintro ce' w' ⟨e',n',H',R',S',ρ',hK,M',s',he',hr',_⟩;exact ih _ _ _ _ _ _ _ _ hdl hK M' he' hr' (st.trans s')
   ·exact E4 hw hdo (ih _ _ _ _ _ _ _ _ hdl hK M he' hr' st)
  cases hg0:o.guard with
  |none=>
   rw[hg0]at h;have h:lp T G all o (gL T G all l) e n H R S K:=h;unfold lp at h;cases hpb:Dd (U:=U) o with
   |false=>
    rw[hpb]at h;simp only[cond_false]at h;cases hua:eI.ua (U:=U) o with
    |none=>rw[hua]at h;exact key h
    |some uf=>
     rw[hua]at h;simp only[hg0]at h;refine m6 (aR hg0) (cd.mono (PH.ua o uf hua hG.1 _ _ _ _ _ _ _ _ _ h hdo M he) ?_);rintro ce' w' ⟨av,n',H',ρ',cv,hK,rfl,hav,M',s'⟩;unfold jO at hK;cases hdst:o.dst with
     |none=>
      rw[hdst]at hK;exact ih _ _ _ _ _ _ _ _ hdl hK M' (he.step s') hr (st.trans s')
     |some d=>
      rw[hdst]at hK;simp only at hK;cases hm:fh d S with
      |true=>rw[hm]at hK;exact hK.elim
      |false=>
       rw[hm]at hK;obtain⟨he',hr'⟩:=(he.step s').putV hr (dv hm) hav;exact ih _ _ _ _ _ _ _ _ hdl hK M' he' hr' (st.trans s')
   |true=>
    rw[hpb]at h;simp only[cond_true,hg0]at h;obtain⟨g,xs,ts,vs,hcl,hx,hc2⟩:=po hG PH.ok h M he;refine J1 (aR hg0) hcl hdo hx hc2 (fun v w' hv=>?_) (fun v w' hv=>?_)
    ·obtain⟨av,n',H',ρ',_,hK,hav,M',s'⟩:=hv;unfold jO at hK;cases hdst:o.dst with
     |none=>
      rw[hdst]at hK;exact ih _ _ _ _ _ _ _ _ hdl hK M' (he.step s') hr (st.trans s')
     |some d=>
      rw[hdst]at hK;simp only at hK;cases hm:fh d S with
      |true=>rw[hm]at hK;exact hK.elim
      |false=>
       rw[hm]at hK;obtain⟨he',hr'⟩:=(he.step s').putV hr (dv hm) hav;exact ih _ _ _ _ _ _ _ _ hdl hK M' he' hr' (st.trans s')
    ·obtain⟨z,rfl,n',H',ρ',hK,M',s'⟩:=hv;exact⟨_,PH.q _ _ _ _ _ _ _ hK M' ((he.step s').noR hr) (st.trans s')⟩
  |some jb=>
   rw[hg0]at h;have h:(bif tx G o then mh T G all o (gL T G all l)else bif qQ G o then gK T G all (fun _=>true) o (gL T G all l)else fA T G all o (gL T G all l)) e n H R S K:=h;cases hsp:tx G o with
   |true=>
    rw[hsp]at h;have h:mh T G all o (gL T G all l) e n H R S K:=h;unfold mh at h;split at h
    ·exact h.elim
    ·rename_i j bb hg;split at h
     ·rename_i oj hj;split at h
      ·rename_i s hs;have key: ∀(q:b8) (kk:Nat) (c:Bool),(aB R s=some (.gd q ⟨false,[(kk,.d .bool c)]⟩)∨(aB R s=none∧aB e s=some (.v ⟨false,[(kk,.d .bool c)]⟩)∧q= []))→tw T G ((s,bb)::q) o R e n H (fun v n H=>putG (gL T G all l) s o.dst ((s,bb)::q) v e n H R S K) (putG (gL T G all l) s o.dst ((s,bb)::q) ⟨false,[(1,.un)]⟩ e n H R S K)→Ls P nt all.toArray Q (o::l) ce w:=fun q kk c hc h=>by
        obtain⟨hps,hw⟩:=gp (nt:=nt) nP he hr hg hj hs hc;obtain⟨d,hdst,hn,hyes,hno⟩:=uB hG h M he hdo;rcases hw with⟨hp,hw⟩|⟨hp,hw⟩
        ·obtain⟨fx,fv,xs,ts,vs,ho,hfx,hvs,hfn⟩:=hyes hp;refine m6 hw (iS ho hdst hn hfx hvs hfn fun v w' hvw=>?_);obtain⟨x,n',H',ρ',hK,hv,M',s'⟩:=hvw;obtain⟨d',hdst',_,hK,h1,h2,h3⟩:=f9 hdo hK;rw[hdst]at hdst';injection hdst' with e0;subst e0;obtain⟨he',hr'⟩:=(he.step s').putG hr h1 h2 h3 hps (x:=x) (cv:=v) (fun _=>hv) (fun hn=>absurd hp hn);exact ih _ _ _ _ _ _ _ _ hdl hK M' he' hr' (st.trans s')
        ·obtain⟨d',hdst',_,hK,h1,h2,h3⟩:=f9 hdo (hno hp);rw[hdst]at hdst';injection hdst' with e0;subst e0;obtain⟨he',hr'⟩:=he.putG hr h1 h2 h3 hps (x:=⟨false,[(1,.un)]⟩) (cv:=undef) (fun h=>absurd h hp) (fun _=>rfl);exact EA hw hdst hn (ih _ _ _ _ _ _ _ _ hdl hK M he' hr' st)
       split at h
       ·rename_i q kk c hc;exact key q kk c (.inl hc) h
       ·exact h.elim
       ·rename_i hR;split at h
        ·rename_i kk c hc;exact key [] kk c (.inr ⟨hR,hc,rfl⟩) h
        ·exact h.elim
      ·exact h.elim
     ·exact h.elim
   |false=>
   rw[hsp]at h;have h:(bif qQ G o then gK T G all (fun _=>true) o (gL T G all l)else fA T G all o (gL T G all l)) e n H R S K:=h;cases hp:qQ G o with
   |false=>rw[hp]at h;exact key h
   |true=>
    rw[hp]at h;have h:gK T G all (fun _=>true) o (gL T G all l) e n H R S K:=h;unfold gK at h;split at h
    ·exact h.elim
    ·rename_i j bb hg;split at h
     ·rename_i oj hj;split at h
      ·rename_i s hs;have key: ∀(q:b8) (kk:Nat) (c:Bool),(aB R s=some (.gd q ⟨false,[(kk,.d .bool c)]⟩)∨(aB R s=none∧aB e s=some (.v ⟨false,[(kk,.d .bool c)]⟩)∧q= []))→nI T G (fun _=>true) ((s,bb)::q) o R e n H (fun v=>putG (gL T G all l) s o.dst ((s,bb)::q) v e n H R S K)→Ls P nt all.toArray Q (o::l) ce w:=fun q kk c hc h=>by
        obtain⟨hps,hw⟩:=gp (nt:=nt) nP he hr hg hj hs hc;obtain⟨x,hK,hx⟩:=rQ hG h M he;obtain⟨d,hdst,hn,hK,h1,h2,h3⟩:=f9 hdo hK;rcases hw with⟨hp,hw⟩|⟨hp,hw⟩
        ·obtain⟨fx,fv,xs,ts,vs,ho,hfx,hvs,hfn⟩:=hx hp;refine m6 hw (iS ho hdst hn hfx hvs hfn fun v w' hvw=>?_);obtain⟨ρ',hv,M',s',hf,hD⟩:=hvw;obtain⟨he',hr'⟩:=(he.step s').putG hr h1 h2 h3 hps (x:=x) (cv:=v) (fun _=>hv) (fun hn=>absurd hp hn);exact ih _ _ _ _ _ _ _ _ hdl hK M' he' hr' (st.trans s')
        ·obtain⟨he',hr'⟩:=he.putG hr h1 h2 h3 hps (x:=x) (cv:=undef) (fun h=>absurd h hp) (fun _=>rfl);exact EA hw hdst hn (ih _ _ _ _ _ _ _ _ hdl hK M he' hr' st)
       split at h
       ·rename_i q kk c hc;exact key q kk c (.inl hc) h
       ·exact h.elim
       ·rename_i hR;split at h
        ·rename_i kk c hc;exact key [] kk c (.inr ⟨hR,hc,rfl⟩) h
        ·exact h.elim
      ·exact h.elim
     ·exact h.elim
end
end Go.Proofs.YtfgofabojepcmaaGreatDoor.V
end

/- A state told anew: the whole. -/
import Derived.Test.YtfgofabojepcmaaGreatDoorSp9
section
set_option linter.unusedVariables false
set_option linter.unusedSimpArgs false
namespace Go.Proofs.YtfgofabojepcmaaGreatDoor.V
open Go.RowKit
section
variable [al] {U:bJ} {P:Program} {nt:Nat} {T:cH U} {G:bS U} {X:List Nat} {w w':World} {ρ ρ':Nat→Rz} {n:Nat} {H H0:Hs U} {L:List Nat} {es:List (aN U)} {Yc:List Nat}
def q4(F1:al) [F:al](U:bJ)(H0:Hs U)(L Yc:List Nat)(w':World)(ρ':Nat→Rz)(es:List (aN U))(i:Nat)(x y:aN U):Prop:=match x with
 | .cells l t=> ∃l',y= .cells l' t∧ ∀Yf ρf nf Hf,gN H0 L Yc ρ' es Yf ρf nf Hf→ ∀vs,bK (@aV F1 U Yc (· =w') ρ' es.length (aJ 0 es)) l vs→bK (aV U Yf (· =w') ρf nf Hf) l' vs
 | .row v s xs t=>y= .row (nu H0 i+v) s xs t
 | .frz v s xs=>y= .frz (nu H0 i+v) s xs
 | .map d l=>y= .map d l
 | .ext v d xs none=>y= .ext (nu H0 i+v) d xs none
 |_=>y= .dead
omit [al]in
theorem vK{F1:al} [F:al]{i:Nat}{x:aN U}{K:aN U→Prop}(h:uR H0 L i x K): ∃y,K y∧q4 F1 U H0 L Yc w' ρ' es i x y:=by
 cases x with
 |cells l t=>
  obtain⟨l',h,hl⟩:=j2 (Yc:=Yc) (ρ':=ρ') (es:=es) (w':=w') (show ln H0 L l (fun l=>K (.cells l t))from h);exact⟨_,h,l',rfl,hl⟩
 |row v s xs t=>
  have h:ol H0 i v fun v=>K (.row v s xs t):=h;exact⟨_,lT h,rfl⟩
 |frz v s xs=>
  have h:ol H0 i v fun v=>K (.frz v s xs):=h;exact⟨_,lT h,rfl⟩
 |map d l=>exact⟨_,h,rfl⟩
 |mapr d l r q g=>exact⟨_,h,rfl⟩
 |it i g=>exact⟨_,h,rfl⟩
 |its i g=>exact⟨_,h,rfl⟩
 |ext v d xs op=>cases op with
  |none=>
   have h:ol H0 i v fun v=>K (.ext v d xs none):=h;exact⟨_,lT h,rfl⟩
  |some o=>exact⟨_,h,rfl⟩
 |clo f l=>exact⟨_,h,rfl⟩
 |hid v l m=>exact⟨_,h,rfl⟩
 |dead=>exact⟨_,h,rfl⟩
omit [al]in
theorem q4.row{F1:al} [F:al]{i:Nat}{x y:aN U}(h:q4 F1 U H0 L Yc w' ρ' es i x y):(∀v' l m,bc (some y)=some (v',l,m)→ ∃v,bc (some x)=some (v,l,m)∧v'=nu H0 i+v)∧(bc (some x)=none→bc (some y)=none):=by
 cases x with
 |cells l t=>obtain⟨l',rfl,_⟩:=h;exact⟨fun _ _ _ h=>(by cases h),fun _=>rfl⟩
 |row v s xs t=>
  rw[show y=_ from h];refine⟨fun v' l m hr=>?_,fun hr=>by cases hr⟩;injection hr with hr;injection hr with h1 hr;exact⟨v,by rw[←hr];rfl,h1.symm⟩
 |frz v s xs=>
  rw[show y=_ from h];refine⟨fun v' l m hr=>?_,fun hr=>by cases hr⟩;injection hr with hr;injection hr with h1 hr;exact⟨v,by rw[←hr];rfl,h1.symm⟩
 |ext v d xs op=>cases op with
  |none=>
   rw[show y=_ from h];refine⟨fun v' l m hr=>?_,fun hr=>by cases hr⟩;injection hr with hr;injection hr with h1 hr;exact⟨v,by rw[←hr];rfl,h1.symm⟩
  |some o=>rw[show y=_ from h];exact⟨fun _ _ _ h=>(by cases h),fun _=>rfl⟩
 |_=>rw[show y=_ from h];exact⟨fun _ _ _ h=>(by cases h),fun _=>rfl⟩
omit [al]in
theorem q4.live{F1:al} [F:al]{i j g:Nat}{x y:aN U}{ρf:Nat→Rz}(h:q4 F1 U H0 L Yc w' ρ' es i x y)(hr:ρf i=ρ' j)(hg:Lv ρf (i,y) g):Lv ρ' (j,x) g:=by
 cases x with
 |cells l t=>obtain⟨l',rfl,_⟩:=h;unfold Lv at hg⊢;simp only[hr]at hg;exact hg
 |row v s xs t=>rw[show y=_ from h]at hg;unfold Lv at hg⊢;simp only[hr]at hg;exact hg
 |map d l=>rw[show y=_ from h]at hg;unfold Lv at hg⊢;simp only[hr]at hg;exact hg
 |ext v d xs op=>cases op with
  |none=>rw[show y=_ from h]at hg;unfold Lv at hg⊢;simp only[hr]at hg;exact hg
  |some o=>rw[show y=_ from h]at hg;cases hg
 |_=>rw[show y=_ from h]at hg;cases hg
def pU(H:Hs U)(i:Nat)(y:aN U):Hs U:=match aB H i with
 |some _=>ej H i y
 |none=>(i,y)::H
omit [al]in
theorem zh{i:Nat}{y:aN U}{K:Hs U→Prop}(h:yD H i y K):K (pU H i y):=by
 unfold yD at h;unfold pU;split at h
 ·rename_i hl;rw[hl];exact b9 h
 ·rename_i hl;rw[hl];exact h
omit [al]in
theorem sj{i k:Nat}{y:aN U}:aB (pU H i y) k=if i=k then some y else aB H k:=by
 unfold pU;split
 ·rename_i x hl;exact dt ⟨x,hl⟩
 ·by_cases e:i=k
  ·subst e;rw[if_pos rfl,ow]
  ·rw[if_neg e];show(bif Nat.beq i k then some y else aB H k)=aB H k
   rw[cn e];rfl
omit [al]in
theorem vL{i:Nat}{y:aN U}:(pU H i y).map (·.1)=H.map (·.1)∨(pU H i y).map (·.1)=i::H.map (·.1)∧i∉H.map (·.1):=by
 unfold pU;split
 ·exact .inl jU
 ·rename_i hl;refine .inr ⟨rfl,fun h=>?_⟩;have: ∀(H:Hs U),i∈H.map (·.1)→aB H i≠none:=by
   intro H;induction H with
   |nil=>intro h;simp at h
   |cons p r ih=>
    intro h;obtain⟨a,b⟩:=p;unfold aB;by_cases e:a=i
    ·subst e;rw[Nat.beq_refl];simp
    ·rw[cn e];simp only[List.map_cons,List.mem_cons]at h;rcases h with h|h
     ·exact absurd h.symm e
     ·exact ih h
  exact this H h hl
def dY:Hs U→List Nat→List (aN U)→Hs U
 |H,i::Q,y::ys=>dY (pU H i y) Q ys
 |H,_,_=>H
omit [al]in
theorem pV: ∀{Q:List Nat} {ys:List (aN U)} {H:Hs U} {k:Nat},Q.Nodup→ys.length=Q.length→aB (dY H Q ys) k=match jY Q k with|some j=>ys[j]? |none=>aB H k
 | [],ys,H,k,_,_=>by unfold dY;simp[jY]
 |i::Q,[],H,k,_,hl=>by simp at hl
 |i::Q,y::ys,H,k,hn,hl=>by
  rw[List.nodup_cons]at hn;unfold dY jY;rw[pV hn.2 (by simpa using hl)];by_cases e:i=k
  ·subst e;have:jY Q i=none:=by
    cases h:jY Q i with
    |none=>rfl
    |some j=>exact absurd (List.mem_of_getElem? (jZ h)) hn.1
   rw[this,Nat.beq_refl];simp only[cond_true,List.getElem?_cons_zero];rw[sj,if_pos rfl]
  ·rw[cn e];simp only[cond_false];cases h:jY Q k with
   |none=>simp only[Option.map_none];rw[sj,if_neg e]
   |some j=>simp
omit [al]in
theorem pW: ∀{Q:List Nat} {ys:List (aN U)} {H:Hs U},(H.map (·.1)).Nodup→((dY H Q ys).map (·.1)).Nodup
 | [],ys,H,h=>by unfold dY;exact h
 |i::Q,[],H,h=>by unfold dY;exact h
 |i::Q,y::ys,H,h=>by
  unfold dY;refine pW ?_;rcases vL (H:=H) (i:=i) (y:=y)with e|⟨e,e2⟩
  ·rw[e];exact h
  ·rw[e];exact List.nodup_cons.2 ⟨e2,h⟩
omit [al]in
theorem pX{F1:al} [F:al]: ∀{Q:List Nat} {xs:List (aN U)} {H:Hs U} {K:Hs U→Prop},uS H0 L Q xs H K→xs.length=Q.length→ ∃ys,K (dY H Q ys)∧ys.length=Q.length∧ ∀(j i:Nat) x,Q[j]? =some i→xs[j]? =some x→ ∃y,ys[j]? =some y∧q4 F1 U H0 L Yc w' ρ' es i x y
 | [],xs,H,K,h,hl=>⟨[],by unfold dY;exact h,rfl,fun j i x hj=>by simp at hj⟩
 |i::Q,[],H,K,h,hl=>by simp at hl
 |i::Q,x::xs,H,K,h,hl=>by
  have h:uR H0 L i x fun y=>yD H i y fun H=>uS H0 L Q xs H K:=h;obtain⟨y,h,hy⟩:=vK (Yc:=Yc) (ρ':=ρ') (es:=es) (w':=w') h;obtain⟨ys,h,hl',hys⟩:=pX (Q:=Q) (zh h) (by simpa using hl);refine⟨y::ys,by unfold dY;exact h,by simp[hl'],fun j k x' hj hx=>?_⟩;cases j with
  |zero=>simp at hj hx;subst hj;subst hx;exact⟨y,rfl,hy⟩
  |succ j=>simp at hj hx;simpa using hys j k x' hj hx
structure Bx where
 f:al
omit [al]in
theorem sm: ∀{L Z:List Nat},uQ L Z=true→ ∀z∈Z,z∉L
 |L,[],_,z,hz=>by cases hz
 |L,y::Z,h,z,hz=>by
  have h:(bif fh y L then false else uQ L Z)=true:=h;cases hb:fh y L with
  |true=>rw[hb]at h;cases h
  |false=>
   rw[hb]at h;rcases List.mem_cons.1 hz with rfl|hz
   ·exact dv hb
   ·exact sm (Z:=Z) h z hz
omit [al]in
theorem sr [F:al]{c:bZ U}(hG:c6 P U G){xs:List (Va U)}{vs:List Value}{K:AV U→Nat→Hs U→Prop}(h:tu T G c xs n H K)(M:bd U X (· =w) ρ n H)(hv:bB (Vw U X w ρ n H) xs vs):
  ∃(b:Bx) (Xc:List Nat) (ρc:Nat→Rz) (es:List (aN U)) (ys:List (Va U)) (Kc:AV U→List (aN U)→Prop),b.f.pr=P∧ @bd b.f U Xc (· =w) ρc es.length (aJ 0 es)∧bB (@Vw b.f U Xc w ρc es.length (aJ 0 es)) ys vs∧c.run ys es Kc∧
   ∀r v w',(∃es' ρ',Kc r es'∧jg (@Vw b.f U Xc w' ρ' es'.length (aJ 0 es')) r v∧ @bd b.f U Xc (· =w') ρ' es'.length (aJ 0 es')∧ @bP b.f U ρc es.length (aJ 0 es) w ρ' es'.length (aJ 0 es') w')→
    ∃av n' H' ρ',K av n' H'∧jg (Vw U X w' ρ' n' H') av v∧bd U X (· =w') ρ' n' H'∧bP ρ n H w ρ' n' H' w'∧ ∀z,r= .pan z↔av= .pan z:=by
 obtain⟨Hp,h,Mp,sp⟩:=im h M;obtain⟨H1,xs1,Z,h,M1,s2,cp,cells,c1⟩:=kU hG h Mp;have s1:=sp.trans s2;have hv:bB (Vw U X w ρ n Hp) xs vs:=bB.imp (fun _ _ h=>h.step sp) hv;have h:=oz h;generalize hLe:tp H1 30 0 (tq H1 xs1 [])=L at h;clear hLe;cases hb:(lJ L&&uQ L Z)with
 |false=>rw[hb]at h;exact h.elim
 |true=>
  rw[hb]at h;simp only[cond_true]at h;rw[Bool.and_eq_true]at hb;have hL:=jW hb.1;have hD:=sm hb.2;obtain⟨b,bp,bx,bz,bo⟩: ∃b:Bx,b.f.pr=F.pr∧(∀z∈F.xf,z∈b.f.xf)∧(∀j∈Z,∀g,(ρ j).A=some ⟨g,0,none⟩→g∈b.f.xf)∧ ∀z∈b.f.xf,z∈F.xf∨ ∃j∈Z,ao (ρ j).A=some z:=
   ⟨⟨⟨F.xf++Z.filterMap (fun j=>ao (ρ j).A),F.pr⟩⟩,rfl,fun z hz=>List.mem_append_left _ hz,fun j hj g hA=>List.mem_append_right _ (List.mem_filterMap.2 ⟨j,hj,by rw[hA];rfl⟩),fun z hz=>(List.mem_append.1 hz).imp id fun h=>List.mem_filterMap.1 h⟩
  obtain⟨ys,h,hys⟩:=mt (F:=b.f) M1.i h;obtain⟨es,h,hl,hes⟩:=mw (F:=b.f) M1.i h;have rel:=gX.of (F:=b.f) hl hes;have hY:=qZ (F:=b.f) (X:=X) hl hes;have ep:=ep (F:=b.f) hl hes;have hxo: ∀z∈b.f.xf,z∈Xo ρ H1 X (fm ρ L) (aJ 0 es):=fun z hz=>by
   rcases bo z hz with h|⟨j,hj,hA⟩
   ·exact List.mem_filter.2 ⟨List.mem_append_right _ (M1.xs z h),by simpa using fun h'=>M1.dj z (ep z h') (M1.xs z h)⟩
   ·obtain⟨l,t,hlk⟩:=cells j hj;have hlv:Lv ρ (j,(.cells l t:aN U)) z:=hA;refine List.mem_filter.2 ⟨List.mem_append_left _ (az.2 ⟨_,af hlk,hlv⟩),?_⟩;simp only[decide_eq_true_eq];intro hm;obtain⟨p,hp,hpg⟩:=az.1 hm;obtain⟨i,x,a1,a2,a3⟩:=jX (F:=b.f) hl hes p hp z hpg;have:=M1.inj _ (af a2) _ (af hlk) z a3 hlv;simp only at this;subst this;exact hD _ hj (List.mem_of_getElem? a1)
  have Mc:=sf (F:=b.f) M1.i bx bp.symm hxo hL hl hes;refine⟨b,_,_,es,ys,_,bp.trans hG.1,Mc,hys es _ hY rel _ (c1 b.f bp bx bz _ hv),h,fun r v w'=>?_⟩;rintro⟨es',ρ',h,hav,M0,st0⟩;have M':=bd.i (F0:=b.f) M0;have st:=bP.i (F0:=b.f) st0;obtain⟨L2,n2,h,g1,g2,g3,g4⟩:=oF h;have hle:L.length≤es'.length:=by rw[←hl];exact st.nn
  have g3:=g3 hle;obtain⟨av,h,hpan,hav2⟩:=vJ (F1:=b.f) (Yc:=aj ρ' (aJ 0 es')++Xo ρ H1 X (fm ρ L) (aJ 0 es)) (ρ':=ρ') (es:=es') (w':=w') h;obtain⟨zs,h,hzl,hzs⟩:=pX (F1:=b.f) (Yc:=aj ρ' (aJ 0 es')++Xo ρ H1 X (fm ρ L) (aJ 0 es)) (ρ':=ρ') (es:=es') (w':=w') h g1.symm;have Llt: ∀(j i:Nat),L[j]? =some i→i<n:=fun j i hj=>by obtain⟨x,y,h1,_⟩:=hes j i hj;exact M1.lt _ (af h1)
  have old: ∀(j i:Nat),L2[j]? =some i→i<n→j<L.length∧L[j]? =some i:=fun j i hj hi=>by
   rcases Nat.lt_or_ge j L.length with hlt|hge
   ·exact⟨hlt,by rw[←g3 j hlt];exact hj⟩
   ·have:=(g4 j hge (by rw[←g1];exact bC hj)).1;rw[hj]at this;injection this with this;omega
  have L2lt: ∀(j i:Nat),L2[j]? =some i→i<n2:=fun j i hj=>by
   rcases Nat.lt_or_ge j L.length with hlt|hge
   ·have:=Llt j i (by rw[←g3 j hlt];exact hj);omega
   ·obtain⟨a,b⟩:=g4 j hge (by rw[←g1];exact bC hj);rw[hj]at a;injection a with a;omega
  have L2inj: ∀(j k i:Nat),L2[j]? =some i→L2[k]? =some i→j=k:=fun j k i hj hk=>by
   rcases Nat.lt_or_ge i n with hi|hi
   ·obtain⟨a1,a2⟩:=old j i hj hi;obtain⟨b1,b2⟩:=old k i hk hi;exact(List.getElem?_inj a1 hL).1 (a2.trans b2.symm)
   ·have key: ∀(j:Nat),L2[j]? =some i→L.length≤j∧i=n+(j - L.length):=fun j hj=>by
     rcases Nat.lt_or_ge j L.length with hlt|hge
     ·have:=Llt j i (by rw[←g3 j hlt];exact hj);omega
     ·have:=(g4 j hge (by rw[←g1];exact bC hj)).1;rw[hj]at this;injection this with this;exact⟨hge,this⟩
    have a:=key j hj;have b:=key k hk;omega
  have hL2:L2.Nodup:=by
   rw[List.nodup_iff_pairwise_ne,List.pairwise_iff_getElem];intro i j hi hj hij he;have:=L2inj i j L2[i] (List.getElem?_eq_getElem hi) (by rw[he];exact List.getElem?_eq_getElem hj);omega
  have lk:=fun k=>pV (H:=H1) (ys:=zs) (k:=k) hL2 hzl;have ent: ∀i y,aB (dY H1 L2 zs) i=some y→(∃j x,L2[j]? =some i∧es'[j]? =some x∧j1 ρ ρ' L2 i=ρ' j∧q4 b.f U H1 L2 (aj ρ' (aJ 0 es')++Xo ρ H1 X (fm ρ L) (aJ 0 es)) w' ρ' es' i x y)∨(aB H1 i=some y∧j1 ρ ρ' L2 i=ρ i∧ ∀j:Nat,L2[j]? ≠some i):=fun i y hy=>by
   rw[lk]at hy;cases hp:jY L2 i with
   |none=>
    rw[hp]at hy;refine .inr ⟨hy,by unfold j1;rw[hp],fun j hj=>?_⟩;rw[oG hL2 hj]at hp;cases hp
   |some j=>
    rw[hp]at hy;have hj:=jZ hp;have hlt:j<es'.length:=by rw[←g1];exact bC hj
    obtain⟨y',hy',he⟩:=hzs j i _ hj (List.getElem?_eq_getElem hlt);rw[show zs[j]? =some y from hy]at hy';injection hy' with hy';subst hy';exact .inl ⟨j,_,hj,List.getElem?_eq_getElem hlt,by unfold j1;rw[hp],he⟩
  have nd:((dY H1 L2 zs).map (·.1)).Nodup:=pW M1.nd;have ent': ∀p∈dY H1 L2 zs,_:=fun p hp=>ent p.1 p.2 (cM nd hp);have apart: ∀i y g,aB H1 i=some y→Lv ρ (i,y) g→(∀j:Nat,L2[j]? ≠some i)→g∉aj (fm ρ L) (aJ 0 es):=fun i y g hi hg hno hm=>by
   obtain⟨p,hp,hpg⟩:=az.1 hm;obtain⟨k,x,a1,a2,a3⟩:=jX (F:=b.f) hl hes p hp g hpg;have:=M1.inj _ (af hi) _ (af a2) g hg a3;simp only at this;subst this;exact hno p.1 (by rw[g3 _ (bC a1)];exact a1)
  have XinXo: ∀g∈X,g∈Xo ρ H1 X (fm ρ L) (aJ 0 es):=fun g hg=>List.mem_filter.2 ⟨List.mem_append_right _ hg,by simpa using fun h=>M1.dj g (ep g h) hg⟩;have back:gN H1 L2 (aj ρ' (aJ 0 es')++Xo ρ H1 X (fm ρ L) (aJ 0 es)) ρ' es' (aj (j1 ρ ρ' L2) (dY H1 L2 zs)++X) (j1 ρ ρ' L2) n2 (dY H1 L2 zs):=by
   refine⟨fun g hg=>?_,fun j i hj=>?_⟩
   ·rcases List.mem_append.1 hg with hg|hg
    ·obtain⟨p,hp,hpg⟩:=az.1 hg;rcases ent' p hp with⟨j,x,a1,a2,a3,a4⟩|⟨a1,a2,a3⟩
     ·exact List.mem_append_left _ (az.2 ⟨(j,x),du.2 a2,a4.live a3 hpg⟩)
     ·have hpg':Lv ρ p g:=by
       obtain⟨i,y⟩:=p;simp only at a2;unfold Lv at hpg⊢;cases y<;>simp only[a2]at hpg⊢ <;>exact hpg
      refine List.mem_append_right _ (List.mem_filter.2 ⟨List.mem_append_left _ (az.2 ⟨p,af a1,hpg'⟩),?_⟩);simpa using apart p.1 p.2 g a1 hpg' a3
    ·exact List.mem_append_right _ (XinXo g hg)
   ·have hp:=oG hL2 hj;have hlt:j<es'.length:=by rw[←g1];exact bC hj
    obtain⟨y,hy,he⟩:=hzs j i _ hj (List.getElem?_eq_getElem hlt);have hly:aB (dY H1 L2 zs) i=some y:=by rw[lk,hp];exact hy
    refine⟨L2lt j i hj,by unfold j1;rw[hp],?_,?_⟩
    ·rw[hly,List.getElem?_eq_getElem hlt];exact he.row.1
    ·rw[hly,List.getElem?_eq_getElem hlt];exact he.row.2
  have rhoEq: ∀i y,j1 ρ ρ' L2 i=ρ i→Lv (j1 ρ ρ' L2) (i,(y:aN U))=Lv ρ (i,y):=fun i y hr=>by
   funext g;cases y<;>simp only[Lv,hr]
  have hStp:bP ρ n H1 w (j1 ρ ρ' L2) n2 (dY H1 L2 zs) w':=by
   refine⟨M1.xd,g2,st.fr.mono fun g hg=>ep g hg,fun g hg=>?_,fun i hi v' l' m' hr=>?_,fun i hi hr=>?_⟩
   ·obtain⟨p,hp,hpg⟩:=az.1 hg;rcases ent' p hp with⟨j,x,a1,a2,a3,a4⟩|⟨a1,a2,a3⟩
    ·rcases st.nb g (az.2 ⟨(j,x),du.2 a2,a4.live a3 hpg⟩)with h|h
     ·exact .inl (ep g h)
     ·exact .inr h
    ·rw[show p=(p.1,p.2)from rfl,rhoEq p.1 p.2 a2]at hpg;exact .inl (az.2 ⟨p,af a1,hpg⟩)
   ·cases hy:aB (dY H1 L2 zs) i with
    |none=>rw[hy]at hr;cases hr
    |some y=>
     rw[hy]at hr;rcases ent i y hy with⟨j,x,a1,a2,a3,a4⟩|⟨a1,a2,a3⟩
     ·obtain⟨hjl,hj⟩:=old j i a1 hi;obtain⟨v,hx,hv'⟩:=a4.row.1 _ _ _ hr;obtain⟨v0,l0,m0,b1,b2,b3⟩:=st.row j (by rw[hl];exact hjl) v l' m' (by rw[dJ,a2];exact hx);rw[dJ]at b1;obtain⟨x1,y1,c1,c2,c3⟩:=hes j i hj;rw[c2]at b1;have hrow: ∃vv ll mm,bc (some x1)=some (vv,ll,mm)∧nu H1 i=vv∧v0=0∧l0=ll∧m0=mm:=by
       cases x1 with
       |row vv s ys t=>
        rw[show y1=_ from c3]at b1;injection b1 with b1;injection b1 with d1 b1;injection b1 with d2 d3;exact⟨vv,_,_,rfl,by unfold nu;rw[c1],d1.symm,d2.symm,d3.symm⟩
       |ext vv d ys op=>cases op with
        |none=>
         rw[show y1=_ from c3]at b1;injection b1 with b1;injection b1 with d1 b1;injection b1 with d2 d3;exact⟨vv,_,_,rfl,by unfold nu;rw[c1],d1.symm,d2.symm,d3.symm⟩
        |some o=>rw[show y1=_ from c3]at b1;cases b1
       |cells l t=>obtain⟨l'',rfl,_⟩:=c3;cases b1
       |_=>rw[show y1=_ from c3]at b1;cases b1
      obtain⟨vv,ll,mm,hrx,hv0,e1,e2,e3⟩:=hrow;refine⟨vv,ll,mm,by rw[c1];exact hrx,by omega,fun he=>?_⟩;obtain⟨f1,f2,f3⟩:=b3 (by omega);exact⟨by rw[a3,f1,bQ hj],by omega,by omega⟩
     ·exact⟨v',l',m',by rw[a1];exact hr,Nat.le_refl _,fun _=>⟨a2,rfl,rfl⟩⟩
   ·cases hp:jY L2 i with
    |none=>unfold j1;rw[hp]
    |some j=>
     have hj2:=jZ hp;obtain⟨hjl,hj⟩:=old j i hj2 hi;obtain⟨x1,y1,c1,c2,c3⟩:=hes j i hj;rw[c1]at hr;have:=st.cel j (by rw[hl];exact hjl) (by rw[dJ,c2];exact(mu.row (F:=b.f) c3).2 hr);unfold j1;rw[hp];simp only;rw[this,bQ hj]
  refine⟨av,n2,_,j1 ρ ρ' L2,h,hav2 _ _ _ _ back v hav,?_,s1.trans hStp,hpan⟩;refine⟨nd,fun p hp=>?_,fun p hp=>?_,fun p hp q hq g h1 h2=>?_,fun g hg hx=>?_,fun w2 h2 g hg=>?_,M1.xs,M1.gv.fr hStp.fr M1.xd⟩
  ·rcases ent' p hp with⟨j,x,a1,a2,a3,a4⟩|⟨a1,a2,a3⟩
   ·exact L2lt j _ a1
   ·have:=M1.lt _ (af a1);simp only at this;omega
  ·rcases ent' p hp with⟨j,x,a1,a2,a3,a4⟩|⟨a1,a2,a3⟩
   ·have mv:Mv (aj ρ' (aJ 0 es')++Xo ρ H1 X (fm ρ L) (aJ 0 es)) (· =w') (aj (j1 ρ ρ' L2) (dY H1 L2 zs)++X) (· =w'):=fun w2 h2=>⟨w2,[],h2,Fr.refl _ _,fun _ h=>(by cases h),fun y hy=> .inl (back.Y y hy)⟩;have hM:=M'.ent (j,x) (du.2 a2);obtain⟨i,y⟩:=p;simp only at a1 a3 a4⊢;cases x with
    |cells l t=>
     obtain⟨l',rfl,hc⟩:=a4;obtain⟨g,vs,hA,hs,hw⟩:=hM;exact⟨g,vs,by rw[a3];exact hA,hc _ _ _ _ back vs hs,hw⟩
    |row v s xs t=>
     obtain⟨hm,cs,sp,hd,ho,hw⟩:=hM;rw[show y=_ from a4];exact⟨hm,cs,sp,ba.mv mv hd,by rw[a3];exact ho,fun g hg=>by rw[a3]at hg;exact hw g hg⟩
    |frz v s xs=>
     obtain⟨hm,cs,hd,hr,k1,k2⟩:=hM;rw[show y=_ from a4];exact⟨hm,cs,ba.mv mv hd,by rw[a3];exact hr.mv mv,by rw[a3];exact k1,by rw[a3];exact k2⟩
    |map d l=>
     obtain⟨hk,g,es2,clock,m,hA,hm,hd,hw⟩:=hM;rw[show y=_ from a4];exact⟨rY.inst bp hk,g,es2,clock,m,by rw[a3];exact hA,hm,aH.mv mv hd,hw⟩
    |ext v d xs op=>cases op with
     |none=>
      obtain⟨C,hd,hw,_⟩:=hM;rw[show y=_ from a4];exact⟨C,by rw[a3];exact d.mv mv.fr hd,by rw[a3];exact hw,trivial⟩
     |some o=>rw[show y=_ from a4];trivial
    |_=>rw[show y=_ from a4];trivial
   ·refine(M1.ent (p.1,p.2) (af a1)).step hStp a2 fun g hg=>?_;exact st.fr.block g (cN M1 (p.1,p.2) (af a1) g hg) (apart p.1 p.2 g a1 hg a3)
  ·rcases ent' p hp with⟨j,x,a1,a2,a3,a4⟩|⟨a1,a2,a3⟩<;>rcases ent' q hq with⟨k,y,b1,b2,b3,b4⟩|⟨b1,b2,b3⟩
   ·have:=M'.inj (j,x) (du.2 a2) (k,y) (du.2 b2) g (a4.live a3 h1) (b4.live b3 h2);simp only at this;subst this;rw[a1]at b1;injection b1
   ·rw[show q=(q.1,q.2)from rfl,rhoEq q.1 q.2 b2]at h2;rcases st.nb g (az.2 ⟨(j,x),du.2 a2,a4.live a3 h1⟩)with h|h
    ·exact absurd h (apart q.1 q.2 g b1 h2 b3)
    ·have:=cN M1 (q.1,q.2) (af b1) g h2;omega
   ·rw[show p=(p.1,p.2)from rfl,rhoEq p.1 p.2 a2]at h1;rcases st.nb g (az.2 ⟨(k,y),du.2 b2,b4.live b3 h2⟩)with h|h
    ·exact absurd h (apart p.1 p.2 g a1 h1 a3)
    ·have:=cN M1 (p.1,p.2) (af a1) g h1;omega
   ·rw[show p=(p.1,p.2)from rfl,rhoEq p.1 p.2 a2]at h1;rw[show q=(q.1,q.2)from rfl,rhoEq q.1 q.2 b2]at h2;exact M1.inj _ (af a1) _ (af b1) g h1 h2
  ·obtain⟨p,hp,hpg⟩:=az.1 hg;rcases ent' p hp with⟨j,x,a1,a2,a3,a4⟩|⟨a1,a2,a3⟩
   ·exact M'.dj g (az.2 ⟨(j,x),du.2 a2,a4.live a3 hpg⟩) (XinXo g hx)
   ·rw[show p=(p.1,p.2)from rfl,rhoEq p.1 p.2 a2]at hpg;exact M1.dj g (az.2 ⟨_,af a1,hpg⟩) hx
  ·subst h2;have:=M1.lo w rfl g hg;exact Nat.lt_of_lt_of_le this st.fr.size
omit [al]in
theorem kW [F:al]{f:FuncId}{c:bZ U}(hG:c6 P U G)(hC:aQ P U f c){xs:List (Va U)}{vs:List Value}{K:AV U→Nat→Hs U→Prop}(h:tu T G c xs n H K)(M:bd U X (· =w) ρ n H)(hv:bB (Vw U X w ρ n H) xs vs):
  Fn P f vs w fun v w'=> ∃av n' H' ρ',K av n' H'∧jg (Vw U X w' ρ' n' H') av v∧bd U X (· =w') ρ' n' H'∧bP ρ n H w ρ' n' H' w':=by
 obtain⟨b,Xc,ρc,es,ys,Kc,h1,h2,h3,h4,h5⟩:=sr hG h M hv;refine Fn.mono (@hC b.f h1 Xc w ρc es ys vs Kc h2 h3 h4) fun v w'=>?_;rintro⟨r,hr⟩;obtain⟨av,n',H',ρ',a,b,c,d,_⟩:=h5 r v w' hr;exact⟨av,n',H',ρ',a,b,c,d⟩
omit [al]in
theorem zj [F:al]{bx:Int→Value}{f:FuncId}{c:bZ U}(hG:c6 P U G)(hC:BX P U bx f c){xs:List (Va U)}{vs:List Value}{K:AV U→Nat→Hs U→Prop}(h:tu T G c xs n H K)(M:bd U X (· =w) ρ n H)(hv:bB (Vw U X w ρ n H) xs vs):
  wv P f vs w (fun v w'=> ∃av n' H' ρ',(∀z,av≠ .pan z)∧K av n' H'∧jg (Vw U X w' ρ' n' H') av v∧bd U X (· =w') ρ' n' H'∧bP ρ n H w ρ' n' H' w') fun v w'=> ∃z,v=bx z∧ ∃n' H' ρ',K (.pan z) n' H'∧bd U X (· =w') ρ' n' H'∧bP ρ n H w ρ' n' H' w':=by
 obtain⟨b,Xc,ρc,es,ys,Kc,h1,h2,h3,h4,h5⟩:=sr hG h M hv;refine wv.mono (@hC b.f h1 Xc w ρc es ys vs Kc h2 h3 h4) (fun v w'=>?_) fun v w'=>?_
 ·rintro⟨r,es',ρ1,hn,hr⟩;obtain⟨av,n',H',ρ',a,b,c,d,e⟩:=h5 r v w' ⟨es',ρ1,hr⟩;exact⟨av,n',H',ρ',fun z q=>hn z ((e z).2 q),a,b,c,d⟩
 ·rintro⟨z,hz,es',ρ',a,c,d⟩;obtain⟨av,n',H',ρ2,a2,_,c2,d2,e2⟩:=h5 (.pan z) v w' ⟨es',ρ',a,trivial,c,d⟩;rw[(e2 z).1 rfl]at a2;exact⟨z,hz,n',H',ρ2,a2,c2,d2⟩
end
end Go.Proofs.YtfgofabojepcmaaGreatDoor.V
end

section
set_option linter.unusedVariables false
set_option linter.unusedSimpArgs false
namespace Go.Proofs.YtfgofabojepcmaaGreatDoor.V
open Go.RowKit
section
variable [al] {U:bJ} {P:Program} {nt:Nat} {T:cH U} {X:List Nat} {w w0:World} {ρ ρ0:Nat→Rz} {n n0:Nat} {H H' H0:Hs U} {R e e':En U} {ce:aK} {φ:List (Nat×Nat)} {b N:Nat}
omit [al]in
theorem oI{p:Nat→Bool}: ∀{l:List Nat},qU p l=true→ ∀i∈l,p i=true
 | [],_,i,hi=>by cases hi
 |a::r,h,i,hi=>by
  have h:(bif p a then qU p r else false)=true:=h;cases ha:p a with
  |false=>rw[ha]at h;cases h
  |true=>
   rw[ha]at h;rcases List.mem_cons.1 hi with rfl|hi
   ·exact ha
   ·exact oI h i hi
structure Wk(φ:List (Nat×Nat))(b N:Nat)(H H':Hs U):Prop where
 bN:b≤N
 nd:(H'.map (·.1)).Nodup
 sn:(H'.map fun p=>ch φ p.1).Nodup
 lt: ∀p∈H',p.1<N
 lo: ∀p∈φ,b≤p.1
omit [al]in
theorem Wk.src{φ:List (Nat×Nat)}(h: ∀p∈φ,b≤p.1){k:Nat}(hk:k<b):ch φ k=k:=by
 unfold ch;split
 ·rename_i i hi;have:=h _ (af hi);simp only at this;omega
 ·rfl
def jr(ρ:Nat→Rz)(n:Nat)(φ:List (Nat×Nat)):Nat→Rz:=fun k=>bif Nat.ble n (ch φ k)then(rz none 0)else ρ (ch φ k)
omit [al]in
theorem cR{k:Nat}(h:ch φ k<n):jr ρ n φ k=ρ (ch φ k):=by
 unfold jr;cases hb:Nat.ble n (ch φ k)with
 |false=>rfl
 |true=>have:=Nat.le_of_ble_eq_true hb;omega
omit [al]in
theorem gg{k:Nat}(h:Nat.ble n (ch φ k)=true):jr ρ n φ k=(rz none 0):=by unfold jr;rw[h];rfl
def E0(φ:List (Nat×Nat))(b:Nat)(H':Hs U)(k:Nat)(x:aN U):aN U→Prop
 | .dead=>True
 | .cells _ _=> ∃l t,x= .cells l t
 | .row v' s xs' t=> ∃v xs,x= .row v s xs t∧xs=xs'∧(k<b→v=v')
 | .map d l=>x= .map d l
 | .mapr d l r q g=>x= .mapr d l r q g
 | .it k2 g=> ∃i,x= .it i g∧ch φ k2=i∧qS H' k2=true
 | .its s q=>x= .its s q
 | .ext v' d xs' none=> ∃v,x= .ext v d xs' none∧(k<b→v=v')
 |_=>False
def IU(φ:List (Nat×Nat))(b n:Nat)(k:Nat)(y:aN U):Prop:=Nat.ble n (ch φ k)=true∧b≤k∧((∃v s t,y= .row v s [] t∧0<aS U s)∨ ∃v d,y= .ext v d [] none)
def vM(φ:List (Nat×Nat))(b n:Nat)(H H':Hs U):Prop:= ∀(k:Nat) y,aB H' k=some y→(∃x,aB H (ch φ k)=some x∧E0 φ b H' k x y)∨IU φ b n k y
omit [al]in
theorem oJ{s s':bj}{t:TT U.ty s}{t':TT U.ty s'}{A:Prop}(h:Is s t s' t' A):s=s'∧HEq t t'∧A:=by
 unfold Is at h;split at h
 ·rename_i u hc;obtain⟨h1,h2⟩:=df _ _ _ _ _ hc;subst h1;have h2:t=u:=eq_of_heq h2;subst h2;exact⟨rfl,heq_of_eq h.1,h.2⟩
 ·exact h.elim
omit [al]in
theorem su{a a':bj}{g:TT U.ty a→Bool}{g':TT U.ty a'→Bool}{A:Prop}(h:Dh a g a' g' A):a=a'∧HEq g g'∧A:=by
 unfold Dh at h;split at h
 ·rename_i u hc;obtain⟨h1,h2⟩:=df _ _ _ _ _ hc;subst h1;have h2:g=u:=eq_of_heq h2;subst h2;exact⟨rfl,heq_of_eq h.1,h.2⟩
 ·exact h.elim
omit [al]in
theorem sw{a b a' b':bj}{g:TT U.ty a→TT U.ty b→Int}{g':TT U.ty a'→TT U.ty b'→Int}{A:Prop}(h:Di a b g a' b' g' A):a=a'∧b=b'∧HEq g g'∧A:=by
 unfold Di at h;split at h
 ·rename_i u hc;obtain⟨h1,h2⟩:=df _ _ _ _ _ hc;subst h1;have h2:g=u:=eq_of_heq h2;subst h2;split at h
  ·rename_i u hc;obtain⟨h1,h2⟩:=df _ _ _ _ _ hc;subst h1;have h2:g=u:=eq_of_heq h2;subst h2;exact⟨rfl,rfl,heq_of_eq h.1,h.2⟩
  ·exact h.elim
 ·exact h.elim
omit [al]in
theorem vO{ρ:Nat→Rz}: ∀{ks js:List Nat},Fu φ H' ks js=true→(∀j∈js,j<n)→ks.map (fun k=>Value.pointer (jr ρ n φ k).A)=js.map (fun j=>Value.pointer (ρ j).A)∧ ∀k∈ks,ch φ k∈js∧qT H' k=true
 | [],[],_=>fun _=>⟨rfl,fun k hk=>by cases hk⟩
 |k::ks,j::js,h=>fun hn=>by
  have h:(Nat.beq (ch φ k) j&&qT H' k&&Fu φ H' ks js)=true:=h;simp only[Bool.and_eq_true]at h;obtain⟨⟨h1,h2⟩,h3⟩:=h;have h1:=Nat.eq_of_beq_eq_true h1;obtain⟨e,h4⟩:=vO (ρ:=ρ) h3 fun j hj=>hn j (List.mem_cons_of_mem _ hj);refine⟨by rw[List.map_cons,List.map_cons,e];rw[cR (by rw[h1];exact hn j (by simp)),h1],fun i hi=>?_⟩;rcases List.mem_cons.1 hi with rfl|hi
  ·exact⟨by rw[h1];simp,h2⟩
  ·exact⟨List.mem_cons_of_mem _ (h4 i hi).1,(h4 i hi).2⟩
 | [],_::_,h=>by cases h
 |_::_,[],h=>by cases h
theorem DI{Y':List Nat}(hW:Wk φ b N H H')(hR:vM φ b n H H')(M:bd U X (· =w) ρ n H)(hY: ∀y∈Y',y∈aj ρ H++X){x y:Cx U}{A:Prop}(h:Dj φ n H H' x y A):A∧ ∀vs,Vw U X w ρ n H x vs→aV U Y' (· =w) (jr ρ n φ) N H' y vs:=by
 have mv:Mv (aj ρ H++X) (· =w) Y' (· =w):=fun w2 h2=>⟨w2,[],h2,Fr.refl _ _,fun _ h=>(by cases h),fun y hy=> .inl (hY y hy)⟩;unfold Dj at h;split at h
 ·rename_i k v';cases hb:(Nat.ble n (ch φ k)&&ns H' k v')with
  |false=>rw[hb]at h;exact h.elim
  |true=>
   rw[hb]at h;rw[Bool.and_eq_true]at hb;obtain⟨h1,h3⟩:=hb;refine⟨h,fun vs hv=>?_⟩;unfold ns at h3;split at h3
   ·rename_i v2 s2 xs2 t2 hk;have h3:=Nat.eq_of_beq_eq_true h3;subst h3;rcases hR k _ hk with⟨x,hx,_⟩|⟨_,_,⟨v,s,t,e,_⟩|⟨v,d,e⟩⟩
    ·have h4:=M.lt _ (af hx);have h5:=Nat.le_of_ble_eq_true h1;exact absurd h4 (by simp only;omega)
    ·injection e with e0 e1 e2 e3;subst e1;have e2:=eq_of_heq e2;subst e2;refine⟨hW.lt _ (af hk),none,0,0,hv,fun v'' l' m' hr=>?_⟩;rw[hk]at hr;injection hr with hr;injection hr with g1 hr;injection hr with g2 g3;subst g1;subst g2;exact⟨Nat.le_refl _,fun _=>by rw[gg h1];exact⟨rfl,rfl,rfl⟩⟩
    ·cases e
   ·rename_i v2 d2 xs2 hk;have h3:=Nat.eq_of_beq_eq_true h3;subst h3;rcases hR k _ hk with⟨x,hx,_⟩|⟨_,_,⟨v,s,t,e,_⟩|⟨v,d,e⟩⟩
    ·have h4:=M.lt _ (af hx);have h5:=Nat.le_of_ble_eq_true h1;exact absurd h4 (by simp only;omega)
    ·cases e
    ·injection e with e0 e1 e2;subst e1;have e2:=eq_of_heq e2;subst e2;refine⟨hW.lt _ (af hk),none,0,0,hv,fun v'' l' m' hr=>?_⟩;rw[hk]at hr;injection hr with hr;injection hr with g1 hr;injection hr with g2 g3;subst g1;subst g2;exact⟨Nat.le_refl _,fun _=>by rw[gg h1];exact⟨rfl,rfl,rfl⟩⟩
   ·cases h3
 ·rename_i i v k v';cases hb:(Nat.beq (ch φ k) i&&ns H i v&&ns H' k v')with
  |false=>rw[hb]at h;exact h.elim
  |true=>
   rw[hb]at h;simp only[Bool.and_eq_true]at hb;obtain⟨⟨h1,h2⟩,h3⟩:=hb;have h1:=Nat.eq_of_beq_eq_true h1;refine⟨h,fun vs hv=>?_⟩;obtain⟨hi,A',l,c,e1,hn⟩:=hv;unfold ns at h3;split at h3
   ·rename_i v2 s2 xs2 t2 hk;have h3:=Nat.eq_of_beq_eq_true h3;subst h3;have hin:i<n:=hi;have hrk:jr ρ n φ k=ρ i:=by rw[cR (by rw[h1];exact hin),h1]
    obtain⟨x,hx,v1,xs,rfl,rfl,hvv⟩: ∃x,aB H (ch φ k)=some x∧E0 φ b H' k x _:=by
     rcases hR k _ hk with h|⟨h,_⟩
     ·exact h
     ·rw[h1]at h;have:=Nat.le_of_ble_eq_true h;omega
    rw[h1]at hx;refine⟨hW.lt _ (af hk),A',l,c,e1,fun v'' l' m' hr=>?_⟩;rw[hk]at hr;injection hr with hr;injection hr with g1 hr;injection hr with g2 g3;subst g1;subst g2;subst g3;refine⟨Nat.le_refl _,fun _=>?_⟩;unfold ns at h2;rw[hx]at h2;have h2:=Nat.eq_of_beq_eq_true h2;subst h2;obtain⟨a1,a2,a3⟩:=(hn _ _ _ (by rw[hx];rfl)).2 rfl;exact⟨by rw[a1,hrk],a2,by rw[a3,hrk]⟩
   ·rename_i v2 d2 xs2 hk;have h3:=Nat.eq_of_beq_eq_true h3;subst h3;have hin:i<n:=hi;have hrk:jr ρ n φ k=ρ i:=by rw[cR (by rw[h1];exact hin),h1]
    obtain⟨x,hx,v1,rfl,hvv⟩: ∃x,aB H (ch φ k)=some x∧E0 φ b H' k x _:=by
     rcases hR k _ hk with h|⟨h,_⟩
     ·exact h
     ·rw[h1]at h;have:=Nat.le_of_ble_eq_true h;omega
    rw[h1]at hx;refine⟨hW.lt _ (af hk),A',l,c,e1,fun v'' l' m' hr=>?_⟩;rw[hk]at hr;injection hr with hr;injection hr with g1 hr;injection hr with g2 g3;subst g1;subst g2;subst g3;refine⟨Nat.le_refl _,fun _=>?_⟩;unfold ns at h2;rw[hx]at h2;have h2:=Nat.eq_of_beq_eq_true h2;subst h2;obtain⟨a1,a2,a3⟩:=(hn _ _ _ (by rw[hx];rfl)).2 rfl;exact⟨by rw[a1,hrk],a2,by rw[a3,hrk]⟩
   ·cases h3
 ·rename_i i v s t';split at h
  ·rename_i v' s' xs hl;cases hb:Nat.beq v v' with
   |false=>rw[hb]at h;exact h.elim
   |true=>
    rw[hb]at h;have hvv:=Nat.eq_of_beq_eq_true hb;subst hvv;obtain⟨g1,g2,hA⟩:=oJ h;subst g1;have g2:=eq_of_heq g2;subst g2;refine⟨hA,fun vs hv=>?_⟩;obtain⟨hi,A',l,c,e1,hn⟩:=hv;obtain⟨rfl,rfl,rfl⟩:=(hn _ _ _ (by rw[hl];rfl)).2 rfl;obtain⟨hm,cs,hd,hrd,k1,k2⟩:=M.ent _ (af hl);subst e1;exact aG.mv mv (aG.sl s' xs _ _ cs hd hrd k1 k2)
  ·exact h.elim
 ·rename_i i o k p;cases hb:(Nat.beq (ch φ k) i&&Nat.beq o p&&qT H' k)with
  |false=>rw[hb]at h;exact h.elim
  |true=>
   rw[hb]at h;simp only[Bool.and_eq_true]at hb;obtain⟨⟨h1,h2⟩,h3⟩:=hb;have h1:=Nat.eq_of_beq_eq_true h1;have h2:=Nat.eq_of_beq_eq_true h2;subst h2;refine⟨h,fun vs hv=>?_⟩;obtain⟨hi,hr,g,hA,e1⟩:=hv;unfold qT at h3;split at h3
   ·rename_i l t hk;exact⟨hW.lt _ (af hk),by rw[hk];rfl,g,by rw[cR (by rw[h1];exact hi),h1];exact hA,e1⟩
   ·rename_i l t hk;exact⟨hW.lt _ (af hk),by rw[hk];rfl,g,by rw[cR (by rw[h1];exact hi),h1];exact hA,e1⟩
   ·rename_i l t hk;exact⟨hW.lt _ (af hk),by rw[hk];rfl,g,by rw[cR (by rw[h1];exact hi),h1];exact hA,e1⟩
   ·cases h3
 ·obtain⟨g1,g2,hA⟩:=oJ h;subst g1;have g2:=eq_of_heq g2;subst g2;exact⟨hA,fun vs hv=>aG.mv mv hv⟩
 ·exact⟨h,fun vs hv=>hv⟩
 ·exact⟨h,fun vs hv=>hv⟩
 ·rename_i s xs;obtain⟨h1,h2⟩:=h;subst h1;refine⟨h2,fun vs hv=>?_⟩;rw[show vs= [.slice none 0 0]from hv];exact aG.sl s [] none 0 [] (.nil s) (fun w _=>kK.nil) (Nat.le_refl _) (Nat.zero_le _)
 ·exact⟨h,fun vs hv=>hv⟩
 ·exact⟨h,fun vs hv=>hv⟩
 ·rename_i i k;cases hb:(Nat.beq (ch φ k) i&&qS H' k)with
  |false=>rw[hb]at h;exact h.elim
  |true=>
   rw[hb]at h;rw[Bool.and_eq_true]at hb;have h1:=Nat.eq_of_beq_eq_true hb.1;refine⟨h,fun vs hv=>?_⟩;obtain⟨hi,hr,g,hA,e1⟩:=hv;have h3:=hb.2;unfold qS at h3;split at h3
   ·rename_i d l hk;exact⟨hW.lt _ (af hk),by rw[hk];rfl,g,by rw[cR (by rw[h1];exact hi),h1];exact hA,e1⟩
   ·rename_i d l r q0 q hk;exact⟨hW.lt _ (af hk),by rw[hk];rfl,g,by rw[cR (by rw[h1];exact hi),h1];exact hA,e1⟩
   ·cases h3
 ·rename_i f g;cases hb:Nat.beq f g with
  |false=>rw[hb]at h;exact h.elim
  |true=>rw[hb]at h;have:=Nat.eq_of_beq_eq_true hb;subst this;exact⟨h,fun vs hv=>hv⟩
 ·rename_i f js g ks;cases hb:(Nat.beq f g&&Fu φ H' ks js)with
  |false=>rw[hb]at h;exact h.elim
  |true=>
   rw[hb]at h;rw[Bool.and_eq_true]at hb;have:=Nat.eq_of_beq_eq_true hb.1;subst this;refine⟨h,fun vs hv=>?_⟩;obtain⟨e2,hj⟩:=hv;obtain⟨e,hk⟩:=vO (ρ:=ρ) (n:=n) hb.2 fun j hjj=>(hj j hjj).1;refine⟨by rw[e2,e],fun k hkk=>?_⟩;obtain⟨h1,h2⟩:=hk k hkk;obtain⟨hjn,_,g,hA⟩:=hj _ h1;unfold qT at h2;split at h2
   ·rename_i l t hl;exact⟨hW.lt _ (af hl),by rw[hl];rfl,g,by rw[cR hjn];exact hA⟩
   ·rename_i l t hl;exact⟨hW.lt _ (af hl),by rw[hl];rfl,g,by rw[cR hjn];exact hA⟩
   ·rename_i l t hl;exact⟨hW.lt _ (af hl),by rw[hl];rfl,g,by rw[cR hjn];exact hA⟩
   ·cases h2
 ·obtain⟨g1,g2,hA⟩:=su h;subst g1;have g2:=eq_of_heq g2;subst g2;exact⟨hA,fun vs hv=>by obtain⟨u,e,hf⟩:=hv;exact⟨u,e,hf.mv mv⟩⟩
 ·obtain⟨g0,g1,g2,hA⟩:=sw h;subst g0;subst g1;have g2:=eq_of_heq g2;subst g2;exact⟨hA,fun vs hv=>by obtain⟨u,e,hf⟩:=hv;exact⟨u,e,hf.mv mv⟩⟩
 ·exact h.elim
omit [al]in
theorem FB{x y:Cx U}{A:Prop}(h:Dj φ n H H' x y A):A:=by
 have bifA: ∀{c:Bool} {A:Prop},(bif c then A else False)→A:=fun{c A} h=>by
  cases c with
  |true=>exact h
  |false=>exact h.elim
 unfold Dj at h;split at h
 ·exact bifA h
 ·exact bifA h
 ·split at h
  ·exact(oJ (bifA h)).2.2
  ·exact h.elim
 ·exact bifA h
 ·exact(oJ h).2.2
 ·exact h
 ·exact h
 ·exact h.2
 ·exact h
 ·exact h
 ·exact bifA h
 ·exact bifA h
 ·exact bifA h
 ·exact(su h).2.2
 ·exact(sw h).2.2.2
 ·exact h.elim
def LL(U:bJ)(φ:List (Nat×Nat))(n:Nat)(H H':Hs U)(l l':List (bH U)):Prop:= ∀(X:List Nat) (w:World) (ρ:Nat→Rz) (b N:Nat) (Y':List Nat),Wk φ b N H H'→vM φ b n H H'→bd U X (· =w) ρ n H→(∀y∈Y',y∈aj ρ H++X)→ ∀vs,bK (Vw U X w ρ n H) l vs→bK (aV U Y' (· =w) (jr ρ n φ) N H') l' vs
theorem vP{l:List (bH U)}{s:bj}{m:Nat}{t:TT U.ty s}{l':List (bH U)}{A:Prop}(ih: ∀(l:List (bH U)) (A:Prop),u3 φ n H H' l l' A→A∧LL U φ n H H' l l')
  (h:tK 40 l m fun l1=>cQ 20 s l1 fun u=>u=t∧fO 40 l m fun l2=>u3 φ n H H' l2 l' A):A∧LL U φ n H H' l ((m,.d s t)::l'):=by
 obtain⟨l1,h,h1⟩:=fP h;obtain⟨u,hu,h2⟩:=bt h;obtain⟨hu,h5⟩:=hu;subst hu;obtain⟨l2,h4,h3⟩:=ff h5;obtain⟨hA,hr⟩:=ih _ _ h4;refine⟨hA,fun X w ρ b N Y' hW hR M hY vs hs=>?_⟩;have mv:Mv (aj ρ H++X) (· =w) Y' (· =w):=fun w2 h2=>⟨w2,[],h2,Fr.refl _ _,fun _ h=>(by cases h),fun y hy=> .inl (hY y hy)⟩;obtain⟨a1,a2⟩:=h1 _ _ _ _ _ _ hs;obtain⟨a3,_⟩:=h3 _ _ _ _ _ _ hs;exact⟨vs.take m,vs.drop m,(List.take_append_drop _ _).symm,by rw[List.length_take];omega,aG.mv mv (h2 _ _ _ _ _ _ a1),hr X w ρ b N Y' hW hR M hY _ a3⟩
theorem my: ∀{l' l:List (bH U)} {A:Prop},u3 φ n H H' l l' A→A∧LL U φ n H H' l l'
 | [],[],A,h=>⟨h,fun _ _ _ _ _ _ _ _ _ _ _ hs=>hs⟩
 | [],_::_,A,h=>h.elim
 |(m,y)::l',l,A,h=>by
  have hd: ∀{h:(match (generalizing:=false) l with|(k,x)::l=>bif Nat.beq k m then Dj φ n H H' x y (u3 φ n H H' l l' A)else False| []=>False)},A∧LL U φ n H H' l ((m,y)::l'):=fun{h}=>by
   cases l with
   |nil=>exact h.elim
   |cons p l=>
    obtain⟨k,x⟩:=p;have hh:(bif Nat.beq k m then Dj φ n H H' x y (u3 φ n H H' l l' A)else False):=h;cases hb:Nat.beq k m with
    |false=>rw[hb]at hh;exact hh.elim
    |true=>
     rw[hb]at hh;have:=Nat.eq_of_beq_eq_true hb;subst this;obtain⟨hA,hl⟩:=my (FB hh);refine⟨hA,fun X w ρ b N Y' hW hR M hY vs hs=>?_⟩;obtain⟨v1,v2,e1,hk,h1,h2⟩:=hs;exact⟨v1,v2,e1,hk,(DI hW hR M hY hh).2 _ h1,hl X w ρ b N Y' hW hR M hY _ h2⟩
  match y,h, @hd with
  | .d (.st i) t,h,_=>exact vP (fun l A h=>my h) h
  | .d (.arr k e) t,h,_=>exact vP (fun l A h=>my h) h
  | .d (.int _) _,h,hd=>exact hd (h:=h)
  | .d .bool _,h,hd=>exact hd (h:=h)
  | .d .str _,h,hd=>exact hd (h:=h)
  | .d (.sl _) _,h,hd=>exact hd (h:=h)
  | .d .err _,h,hd=>exact hd (h:=h)
  | .own _ _,h,hd=>exact hd (h:=h)
  | .ptr _ _,h,hd=>exact hd (h:=h)
  | .pel _ _ _ _,h,hd=>exact hd (h:=h)
  | .pax _ _ _ _ _ _,h,hd=>exact hd (h:=h)
  | .pd _ _,h,hd=>exact hd (h:=h)
  | .nilp,h,hd=>exact hd (h:=h)
  | .nils,h,hd=>exact hd (h:=h)
  | .nilf,h,hd=>exact hd (h:=h)
  | .nilm,h,hd=>exact hd (h:=h)
  | .fn _,h,hd=>exact hd (h:=h)
  | .clo _ _,h,hd=>exact hd (h:=h)
  | .f1 _ _,h,hd=>exact hd (h:=h)
  | .f2 _ _ _,h,hd=>exact hd (h:=h)
  | .mp _,h,hd=>exact hd (h:=h)
  | .ifp _,h,hd=>exact hd (h:=h)
  | .bnd _ _ _,h,hd=>exact hd (h:=h)
  | .un,h,hd=>exact hd (h:=h)
termination_by structural l'=>l'
def LX(φ:List (Nat×Nat))(n:Nat)(H H':Hs U):aN U→aN U→Prop
 | .cells l t,.cells l' t'=>t=t'∧LL U φ n H H' l l'
 |_,_=>True
theorem DJ{k:Nat}{x y:aN U}{A:Prop}(h:Iv φ b n H H' k x y A):A∧E0 φ b H' k x y∧LX φ n H H' x y:=by
 unfold Iv at h;split at h
 ·exact⟨h,trivial,by cases x<;>trivial⟩
 ·rename_i l t l' t';cases hb:Nat.beq t t' with
  |false=>rw[hb]at h;exact h.elim
  |true=>
   rw[hb]at h;obtain⟨hA,hl⟩:=my h;exact⟨hA,⟨_,_,rfl⟩,Nat.eq_of_beq_eq_true hb,hl⟩
 ·rename_i v s xs t v' s' xs' t';cases hb:(Nat.beq t t'&&(Nat.ble b k||Nat.beq v v'))with
  |false=>rw[hb]at h;exact h.elim
  |true=>
   rw[hb]at h;simp only[cond_true]at h;simp only[Bool.and_eq_true,Bool.or_eq_true]at hb;cases hc:ed U.ty List s s' xs with
   |none=>rw[hc]at h;exact h.elim
   |some u=>
    rw[hc]at h;obtain⟨g1,g2⟩:=df _ _ _ _ _ hc;subst g1;have g2:xs=u:=eq_of_heq g2;subst g2;obtain⟨h1,h2⟩:=hb;have h1:=Nat.eq_of_beq_eq_true h1;subst h1;refine⟨h.2,⟨v,xs,rfl,h.1,fun hkb=>?_⟩,trivial⟩;rcases h2 with h2|h2
    ·have:=Nat.le_of_ble_eq_true h2;omega
    ·exact Nat.eq_of_beq_eq_true h2
 ·obtain⟨e,hA⟩:=h;refine⟨hA,?_,trivial⟩;injection e with e1 e2;subst e1;show _=_
  rw[eq_of_heq e2]
 ·obtain⟨e,eg,hA⟩:=h;refine⟨hA,?_,trivial⟩;injection e with e1 e2;subst e1;have e2:=eq_of_heq e2;injection e2 with e3 e4;injection e4 with e4 e5;show _=_
  rw[e3,e4,e5,eg]
 ·rename_i i g k' g';cases hb:(Nat.beq (ch φ k') i&&qS H' k')with
  |false=>rw[hb]at h;exact h.elim
  |true=>
   rw[hb]at h;rw[Bool.and_eq_true]at hb;exact⟨h.2,⟨i,by rw[h.1],Nat.eq_of_beq_eq_true hb.1,hb.2⟩,trivial⟩
 ·obtain⟨rfl,rfl,hA⟩:=h;exact⟨hA,rfl,trivial⟩
 ·rename_i v d xs v' d' xs';cases hb:(Nat.ble b k||Nat.beq v v')with
  |false=>rw[hb]at h;exact h.elim
  |true=>
   rw[hb]at h;simp only[cond_true]at h;rw[Bool.or_eq_true]at hb;obtain⟨e,hA⟩:=h;injection e with e1 e2;subst e1;have e2:=eq_of_heq e2;subst e2;refine⟨hA,⟨v,rfl,fun hkb=>?_⟩,trivial⟩;rcases hb with h2|h2
   ·have:=Nat.le_of_ble_eq_true h2;omega
   ·exact Nat.eq_of_beq_eq_true h2
 ·exact h.elim
theorem oK: ∀{Q:Hs U} {A:Prop},BT φ b n H H' Q A→A∧ ∀p∈Q,(∃x,aB H (ch φ p.1)=some x∧E0 φ b H' p.1 x p.2∧LX φ n H H' x p.2)∨IU φ b n p.1 p.2
 | [],A,h=>⟨h,fun p hp=>by cases hp⟩
 |(k,y)::Q,A,h=>by
  have h:(match aB H (ch φ k)with|some x=>Iv φ b n H H' k x y (BT φ b n H H' Q A)|none=>LB b n φ k y (BT φ b n H H' Q A)):=h;split at h
  ·rename_i x hx;obtain⟨h1,h2,h3⟩:=DJ h;obtain⟨hA,h4⟩:=oK h1;refine⟨hA,fun p hp=>?_⟩;rcases List.mem_cons.1 hp with rfl|hp
   ·exact .inl ⟨x,hx,h2,h3⟩
   ·exact h4 p hp
  ·cases y with
   |row v s xs t=>
    have h:bif Nat.ble n (ch φ k)&&Nat.ble b k&&Nat.blt 0 (aS U s)then xs= []∧BT φ b n H H' Q A else False:=h;cases hb:(Nat.ble n (ch φ k)&&Nat.ble b k&&Nat.blt 0 (aS U s))with
    |false=>rw[hb]at h;exact h.elim
    |true=>
     rw[hb]at h;simp only[Bool.and_eq_true]at hb;obtain⟨hx,h⟩:=h;obtain⟨hA,h4⟩:=oK h;refine⟨hA,fun p hp=>?_⟩;rcases List.mem_cons.1 hp with rfl|hp
     ·exact .inr ⟨hb.1.1,Nat.le_of_ble_eq_true hb.1.2,.inl ⟨v,s,t,by rw[hx],by simpa[Nat.blt_eq]using hb.2⟩⟩
     ·exact h4 p hp
   |ext v d xs op=>cases op with
    |some o=>exact h.elim
    |none=>
     have h:bif Nat.ble n (ch φ k)&&Nat.ble b k then xs= []∧BT φ b n H H' Q A else False:=h;cases hb:(Nat.ble n (ch φ k)&&Nat.ble b k)with
     |false=>rw[hb]at h;exact h.elim
     |true=>
      rw[hb]at h;simp only[Bool.and_eq_true]at hb;obtain⟨hx,h⟩:=h;obtain⟨hA,h4⟩:=oK h;refine⟨hA,fun p hp=>?_⟩;rcases List.mem_cons.1 hp with rfl|hp
      ·exact .inr ⟨hb.1,Nat.le_of_ble_eq_true hb.2,.inr ⟨v,d,by rw[hx]⟩⟩
      ·exact h4 p hp
   |_=>exact h.elim
omit [al]in
theorem IV{Q:Nat→aN U→aN U→Prop}(hW:(H'.map (·.1)).Nodup)(h: ∀p∈H',(∃x,aB H (ch φ p.1)=some x∧E0 φ b H' p.1 x p.2∧Q p.1 x p.2)∨IU φ b n p.1 p.2):vM φ b n H H':=fun k y hk=>by
 rcases h _ (af hk)with⟨x,hx,hl,_⟩|h
 ·exact .inl ⟨x,hx,hl⟩
 ·exact .inr h
end
end Go.Proofs.YtfgofabojepcmaaGreatDoor.V
end

section
set_option linter.unusedVariables false
set_option linter.unusedSimpArgs false
namespace Go.Proofs.YtfgofabojepcmaaGreatDoor.V
open Go.RowKit
section
variable [al] {U:bJ} {P:Program} {nt:Nat} {T:cH U} {X:List Nat} {w w' w0:World} {ρ ρ0:Nat→Rz} {n n0:Nat} {H H' H0:Hs U} {R e e':En U} {ce:aK} {φ:List (Nat×Nat)} {b N:Nat}
theorem q5{Y':List Nat}(hW:Wk φ b N H H')(hR:vM φ b n H H')(M:bd U X (· =w) ρ n H)(hY: ∀y∈Y',y∈aj ρ H++X): ∀{e':En U} {A:Prop},Iu φ n e H H' e' A→ ∀(k:Nat) av,aB e' k=some av→ ∃y x,av= .v y∧aB e k=some (.v x)∧ ∀u,ct (Vw U X w ρ n H) x u→ct (aV U Y' (· =w) (jr ρ n φ) N H') y u
 | [],A,h,k,av,hk=>by cases hk
 |(j,.v y)::r,A,h,k,av,hk=>by
  have h:(match aB e j with
   |some (.v x)=>bif x.ag==y.ag then u3 φ n H H' x.l y.l (Iu φ n e H H' r A)else False
   |_=>False):=h
  split at h
  ·rename_i x hx;cases hb:(x.ag==y.ag)with
   |false=>rw[hb]at h;exact h.elim
   |true=>
    rw[hb]at h;have hag:x.ag=y.ag:=by simpa using hb
    obtain⟨h,hl'⟩:=my h;have hl:=hl' X w ρ b N Y' hW hR M hY;unfold aB at hk;by_cases ejk:j=k
    ·subst ejk;rw[Nat.beq_refl]at hk;injection hk with hk;refine⟨y,x,hk.symm,hx,fun u hu=>?_⟩;obtain⟨a,l⟩:=x;obtain⟨a',l'⟩:=y;simp only at hag hl;subst hag;exact oH hl hu
    ·rw[cn ejk]at hk;exact q5 hW hR M hY h k av hk
  ·exact h.elim
 |(j,.tup l)::r,A,h,k,av,hk=>h.elim
 |(j,.gd p x)::r,A,h,k,av,hk=>h.elim
 |(j,.un)::r,A,h,k,av,hk=>h.elim
theorem q6(M:bd U X (· =w) ρ n H)(he:aM (Vw U X w ρ n H) [] e ce)(hs:Fv b N φ n e H e' H')(st:bP ρ0 b H0 w0 ρ n H w): ∃ρ',bd U X (· =w) ρ' N H'∧aM (Vw U X w ρ' N H') [] e' ce∧bP ρ0 b H0 w0 ρ' N H' w:=by
 unfold Fv at hs;cases hb:(Nat.ble b N&&lJ (H'.map (·.1))&&lJ (H'.map fun p=>ch φ p.1)&&qU (fun i=>Nat.blt i N) (H'.map (·.1))&&qU (fun i=>Nat.ble b i) (φ.map (·.1)))with
 |false=>rw[hb]at hs;exact hs.elim
 |true=>
  rw[hb]at hs;simp only[cond_true]at hs;simp only[Bool.and_eq_true]at hb;obtain⟨⟨⟨⟨h1,h2⟩,h3⟩,h4⟩,h5⟩:=hb;have hW:Wk φ b N H H':=⟨Nat.le_of_ble_eq_true h1,jW h2,jW h3,fun p hp=>by have:=oI h4 p.1 (List.mem_map.2 ⟨p,hp,rfl⟩);simpa[Nat.blt_eq]using this,fun p hp=>Nat.le_of_ble_eq_true (oI h5 p.1 (List.mem_map.2 ⟨p,hp,rfl⟩))⟩;obtain⟨hE,hH⟩:=oK hs;have hR:vM φ b n H H':=IV (Q:=fun _ x y=>LX φ n H H' x y) hW.nd hH;have slt: ∀{k x},aB H (ch φ k)=some x→ch φ k<n:=fun hx=>M.lt _ (af hx);have live: ∀p∈H',∀g,Lv (jr ρ n φ) p g→ ∃x,aB H (ch φ p.1)=some x∧Lv ρ (ch φ p.1,x) g:=fun p hp g hg=>by
   obtain⟨k,y⟩:=p;rcases hR k y (cM hW.nd hp)with⟨x,hx,hy⟩|⟨hn,_,⟨v,s,t,rfl,_⟩|⟨v,d,rfl⟩⟩;case inr.inl=>
    unfold Lv at hg;simp only at hg;rw[gg hn]at hg;cases hg
   case inr.inr=>
    unfold Lv at hg;simp only at hg;rw[gg hn]at hg;cases hg
   refine⟨x,hx,?_⟩;have hrk:=cR (ρ:=ρ) (slt hx);unfold Lv at hg;cases y with
   |cells l t=>obtain⟨l0,t0,rfl⟩:=hy;simp only[hrk]at hg;exact hg
   |row v s xs t=>obtain⟨v0,xs0,rfl,_⟩:=hy;simp only[hrk]at hg;exact hg
   |map d l=>obtain rfl:=hy;simp only[hrk]at hg;exact hg
   |mapr d l r q0 q=>obtain rfl:=hy;simp only[hrk]at hg;exact hg
   |it k2 q=>obtain⟨i,rfl,_,_⟩:=hy;simp only[hrk]at hg;exact hg
   |its k2 q=>obtain rfl:=hy;simp only[hrk]at hg;exact hg
   |ext v d xs op=>cases op with
    |some o=>exact hy.elim
    |none=>obtain⟨v0,rfl,_⟩:=hy;simp only[hrk]at hg;exact hg
   |dead=>cases hg
   |frz v s xs=>exact hy.elim
   |clo f l=>exact hy.elim
   |hid v l m=>exact hy.elim
  have own: ∀g∈aj (jr ρ n φ) H',g∈aj ρ H:=fun g hg=>by
   obtain⟨p,hp,hg⟩:=az.1 hg;obtain⟨x,hx,hxg⟩:=live p hp g hg;exact az.2 ⟨_,af hx,hxg⟩
  have hY: ∀g∈aj (jr ρ n φ) H'++X,g∈aj ρ H++X:=fun g hg=>by
   rcases List.mem_append.1 hg with h|h
   ·exact List.mem_append_left _ (own g h)
   ·exact List.mem_append_right _ h
  have mv:Mv (aj ρ H++X) (· =w) (aj (jr ρ n φ) H'++X) (· =w):=fun w2 h2=>⟨w2,[],h2,Fr.refl _ _,fun _ h=>(by cases h),fun y hy=> .inl (hY y hy)⟩;refine⟨jr ρ n φ,⟨hW.nd,hW.lt,fun p hp=>?_,fun p hp q hq g h1 h2=>?_,fun g hg=>M.dj g (own g hg),M.lo,M.xs,M.gv⟩,⟨fun k x _ hk=>?_,fun k l _ hk=>?_,fun k p x hk=>by cases hk⟩,⟨st.xd,hW.bN,st.fr,fun g hg=>st.nb g (own g hg),fun i hi v' l' m' hr=>?_,fun i hi hr=>?_⟩⟩
  ·obtain⟨k,y⟩:=p;rcases hH _ hp with⟨x,hx,hy,hl⟩|⟨hn,_,⟨v,s,t,rfl,hs0⟩|⟨v,d,rfl⟩⟩;case inr.inl=>
    refine⟨hs0,[],[],.nil s,?_,fun g hg=>?_⟩
    ·simp only;rw[gg hn];exact Ow.nil _
    ·simp only at hg;rw[gg hn]at hg;cases hg
   case inr.inr=>
    refine⟨fun _=>Cl [] 0,?_,fun g hg=>?_,trivial⟩
    ·simp only;rw[gg hn];exact d.nil
    ·simp only at hg;rw[gg hn]at hg;cases hg
   have hM:=M.ent _ (af hx);have hrk:=cR (ρ:=ρ) (slt hx);simp only at hx hl hy hM⊢;cases y with
   |cells l t=>
    obtain⟨l0,t0,rfl⟩:=hy;obtain⟨rfl,hl⟩:=hl;obtain⟨g,vs,hA,hs,hw⟩:=hM;exact⟨g,vs,by rw[hrk];exact hA,hl X w ρ b N _ hW hR M hY vs hs,hw⟩
   |row v s xs t=>
    obtain⟨v0,xs0,rfl,rfl,_⟩:=hy;obtain⟨hm,cs,sp,hd,ho,hw⟩:=hM;exact⟨hm,cs,sp,ba.mv mv hd,by rw[hrk];exact ho,by rw[hrk];exact hw⟩
   |map d l=>
    obtain rfl:=hy;obtain⟨hk,g,es,clock,m,hA,hm,hd,hw⟩:=hM;exact⟨hk,g,es,clock,m,by rw[hrk];exact hA,hm,aH.mv mv hd,hw⟩
   |mapr d l r q0 q=>
    obtain rfl:=hy;obtain⟨hk,g,es,clock,m,lv,cv,hA,hm,hd,hl,hc,hw⟩:=hM;exact⟨hk,g,es,clock,m,lv,cv,by rw[hrk];exact hA,hm,aH.mv mv hd,aH.mv mv hl,aH.mv mv hc,hw⟩
   |it k2 q=>
    obtain⟨i,rfl,e1,e2⟩:=hy;obtain⟨r,g,hA,hA2,hk,hrk2,hw⟩:=hM;have h3:k2<N∧bc (aB H' k2)=none:=by
     unfold qS at e2;split at e2
     ·rename_i d l hk;exact⟨hW.lt _ (af hk),by rw[hk];rfl⟩
     ·rename_i d l r q0 q hk;exact⟨hW.lt _ (af hk),by rw[hk];rfl⟩
     ·cases e2
    exact⟨r,g,by rw[hrk];exact hA,by rw[cR (by rw[e1];exact hk),e1];exact hA2,h3.1,h3.2,hw⟩
   |its k2 q=>
    obtain rfl:=hy;obtain⟨h1,h2,r,hA,hw⟩:=hM;exact⟨h1,h2,r,by rw[hrk];exact hA,hw⟩
   |ext v d xs op=>cases op with
    |some o=>exact hy.elim
    |none=>
     obtain⟨v0,rfl,_⟩:=hy;obtain⟨C,hd,hw,ho⟩:=hM;exact⟨C,by rw[hrk];exact d.mv mv.fr hd,by rw[hrk];exact hw,trivial⟩
   |dead=>trivial
   |frz v s xs=>exact hy.elim
   |clo f l=>exact hy.elim
   |hid v l m=>exact hy.elim
  ·obtain⟨x,hx,hxg⟩:=live p hp g h1;obtain⟨y,hy,hyg⟩:=live q hq g h2;have:=M.inj _ (af hx) _ (af hy) g hxg hyg;simp only at this;have hn:=hW.sn;obtain⟨i,hi⟩:=List.mem_iff_getElem?.1 hp;obtain⟨j,hj⟩:=List.mem_iff_getElem?.1 hq;have hij:i=j:=by
    have hi':(H'.map fun p=>ch φ p.1)[i]? =some (ch φ p.1):=by rw[List.getElem?_map,hi];rfl
    have hj':(H'.map fun p=>ch φ p.1)[j]? =some (ch φ p.1):=by rw[List.getElem?_map,hj,this];rfl
    exact(List.getElem?_inj (bC hi') hn).1 (hi'.trans hj'.symm)
   subst hij;rw[hi]at hj;injection hj with hj;rw[hj]
  ·obtain⟨y,x0,hy,hx0,hc⟩:=q5 hW hR M hY hE k _ hk;injection hy with hy;subst hy;obtain⟨u,hu,hv⟩:=he.v k x0 rfl hx0;exact⟨u,hu,hc u hv⟩
  ·obtain⟨y,x0,hy,_⟩:=q5 hW hR M hY hE k _ hk;cases hy
  ·cases hy:aB H' i with
   |none=>rw[hy]at hr;cases hr
   |some y=>
    rw[hy]at hr;rcases hR i y hy with⟨x,hx,hxy⟩|⟨_,hbi,_⟩;case inr=>omega
    have hrk:=cR (ρ:=ρ) (slt hx);have hsrc:=Wk.src hW.lo hi;rw[hsrc]at hx;cases y with
    |row v s xs t=>
     obtain⟨v0,xs0,rfl,rfl,hv⟩:=hxy;have:=hv hi;subst this;obtain⟨v1,l1,m1,a1,a2,a3⟩:=st.row i hi v' l' m' (by rw[hx];exact hr);refine⟨v1,l1,m1,a1,a2,fun h=>?_⟩;obtain⟨b1,b2⟩:=a3 h;exact⟨by rw[hrk,hsrc];exact b1,b2⟩
    |ext v d xs op=>cases op with
     |some o=>exact hxy.elim
     |none=>
      obtain⟨v0,rfl,hv⟩:=hxy;have:=hv hi;subst this;obtain⟨v1,l1,m1,a1,a2,a3⟩:=st.row i hi v' l' m' (by rw[hx];exact hr);refine⟨v1,l1,m1,a1,a2,fun h=>?_⟩;obtain⟨b1,b2⟩:=a3 h;exact⟨by rw[hrk,hsrc];exact b1,b2⟩
    |frz v s xs=>exact hxy.elim
    |hid v l m=>exact hxy.elim
    |_=>cases hr
  ·have hsrc:=Wk.src hW.lo hi;rw[cR (by rw[hsrc];have:=st.nn;omega),hsrc];exact st.cel i hi hr
theorem bd.keep0(M:bd U X (· =w) ρ n H)(hf:Fr [] w w'):bd U X (· =w') ρ n H∧bP ρ n H w ρ n H w':=by
 have s:bP ρ n H w ρ n H w':=⟨M.xd,Nat.le_refl _,hf.mono (by simp),fun g hg=> .inl hg,fun i hi v' l' m' h=>⟨v',l',m',h,Nat.le_refl _,fun _=>⟨rfl,rfl,rfl⟩⟩,fun _ _ _=>rfl⟩;exact⟨⟨M.nd,M.lt,fun p hp=>(M.ent p hp).step s rfl fun g hg=>hf.block g (cN M p hp g hg) (by simp),M.inj,M.dj,fun w2 h2 x hx=>by subst h2;exact Nat.lt_of_lt_of_le (M.lo w rfl x hx) hf.size,M.xs,M.gv.fr hf (fun _ h=>by cases h)⟩,s⟩
end
end Go.Proofs.YtfgofabojepcmaaGreatDoor.V
end

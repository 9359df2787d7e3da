/- Functions walked: printed by the walker. -/
import Derived.Test.YtmpeiadlohbikaaGreatDoorYs19
section
set_option linter.unusedVariables false
set_option linter.unusedSimpArgs false
set_option maxRecDepth 20000
set_option maxHeartbeats 4000000
namespace Go.Proofs.YtmpeiadlohbikaaGreatDoor.V
open Go.RowKit
def j6(b:List Int):Nat→Int→(List Int)→(List Int)⊕(Int×(List Int))
 |0,s8,s2_0=> .inr (s8,s2_0)
 |n1+1,s8,s2_0=>
  if s8<8 then
   j6 b n1 (s8+1) (s2_0.set s8.toNat (max (ix s2_0 s8) (ix b s8)))
  else
   .inr (s8,s2_0)
def ol(a:List Int)(b:List Int):List Int:=
 match j6 b (((8:Int)-(0:Int)).toNat+1) (0:Int) a with
 | .inl r=>r
 | .inr (s8,s2_0)=>
  s2_0
def Ng:bG U:=⟨[.d (.arr 8 (.int .u32)),.d (.arr 8 (.int .u32))],fun xs es K=> ∃(a:List Int) (b:List Int),xs= [(jN a),(jN b)]∧es= []∧K (.v (jN (ol a b))) []⟩
theorem Nh:Fk 124 Ng:=by
 refine fo Tryz.f124 [.d (.arr 8 (.int .u32))] [] (aq) fun xs es K=>?_;rintro⟨a,b,rfl,rfl,h⟩;refine⟨rfl,?_⟩;have hf0:=ol.eq_1 a b;refine⟨Int×(List Int),3,fun(s8,s2_0)=> [(2,.v ⟨false,[(1,.ptr 0 0)]⟩),(4,.v ⟨false,[(1,.ptr 2 0)]⟩),(7,.v ⟨true,[(8,.d (.arr 8 (.int .u32)) b)]⟩),(8,.v ⟨false,[(1,.d (.int .i64) s8)]⟩)],fun(s8,s2_0)=> [(0,.cells [(8,.d (.arr 8 (.int .u32)) s2_0)] 45),(2,.cells [(1,.d (.int .u32) (0:Int)),(1,.d (.int .u32) (0:Int)),(1,.d (.int .u32) (0:Int)),(1,.d (.int .u32) (0:Int)),(1,.d (.int .u32) (0:Int)),(1,.d (.int .u32) (0:Int)),(1,.d (.int .u32) (0:Int)),(1,.d (.int .u32) (0:Int))] 45)],cY (fun(s8,s2_0)=>((8:Int)- s8).toNat) (fun(s8,s2_0)=>((0:Int)≤s8)∧(s8≤(8:Int))∧True) (fun n1 (s8,s2_0)=>j6 b n1 s8 s2_0) (j6 b (((8:Int)-(0:Int)).toNat+1) (0:Int) a),fun(s8,s2_0)=>((8:Int)- s8).toNat,⟨[],((0:Int),a),cY.mk0 _ (Nat.lt_succ_self _) ⟨show(0:Int)≤(0:Int)from by omega,show(0:Int)≤(8:Int)from by omega,trivial⟩ rfl,?_⟩,?_⟩
 ·repeat (first|exact trivial|refine And.intro rfl ?_)
 ·rintro⟨s8,s2_0⟩ ⟨n1,hc1,⟨hi1_0,hi1_1,-⟩,hf1⟩;have hf1:=hf1.trans (j6.eq_2 b s8 s2_0 n1);refine vI hf1 iD (fun _ hf1=>?_) (fun _ hf1=>?_)
  ·refine And.intro (show(0:Int)≤s8∧s8<(↑(8:Nat):Int)from by omega) ?_;refine .inl ?_;refine And.intro (show(0:Int)≤s8∧s8<(↑(8:Nat):Int)from by omega) ?_;refine .inl ?_;refine And.intro (show(0:Int)≤s8∧s8<(↑(8:Nat):Int)from by omega) ?_;refine .inl (And.intro (qU (p:=s8) (q:=(1:Int)) (r:=s8+(1:Int)) (by omega)) ?_);have hm1:((8:Int)-(s8+(1:Int))).toNat<((8:Int)- s8).toNat:=by omega
   refine⟨[],(s8+(1:Int),s2_0.set s8.toNat (max (ix s2_0 s8) (ix b s8))),hm1,cY.next (s:=(s8,s2_0)) hc1 hm1 ⟨show(0:Int)≤s8+(1:Int)from by omega,show s8+(1:Int)≤(8:Int)from by omega,trivial⟩ hf1,?_⟩;repeat (first|exact trivial|refine And.intro rfl ?_)
  ·rw[hf1]at hf0;rw[hf0]at h;exact h
def tw(a:List Int)(b:List Int):Bool:=
 decide (ol a b=b)
def P0:bG U:=⟨[.d (.arr 8 (.int .u32)),.d (.arr 8 (.int .u32))],fun xs es K=> ∃(a:List Int) (b:List Int),xs= [(jN a),(jN b)]∧es= []∧K (.v (vb (tw a b))) []⟩
theorem P1:Fk 56 P0:=by
 refine fo Tryz.f56 [.d .bool] [] (aa Nh aq) fun xs es K=>?_;rintro⟨a,b,rfl,rfl,h⟩;refine⟨rfl,?_⟩;have hf0:=tw.eq_1 a b;refine dp [(true,0),(true,1),(true,3),(false,2),(true,4),(true,5)] none (nw 2) ?_;refine⟨_,_,rfl,rfl,?_⟩;exact e0
theorem qs{id:bF}(h:gm id=0):0≤id.origin∧id.origin≤7∧id.seq≤1048576:=by
 unfold gm at h;split at h
 ·cases h
 ·omega
def ii(v:List Int)(id:bF):Bool:=
 decide (gm id=0)&&decide (id.seq≤ix v id.origin)
def P2:bG U:=⟨[.d (.arr 8 (.int .u32)),.d (.st 0)],fun xs es K=> ∃(v:List Int) (id:bF),xs= [(jN v),(F6 id)]∧es= []∧K (.v (vb (ii v id))) []⟩
theorem Jz:Fk 55 P2:=by
 refine fo Tryz.f55 [.d .bool] [] (aa Jx aq) fun xs es K=>?_;rintro⟨v,id,rfl,rfl,h⟩;refine⟨rfl,?_⟩;have hf0:=ii.eq_1 v id;refine dp [(true,0),(false,1),(true,2),(true,3),(true,4),(true,5),(true,6),(true,7),(true,8),(true,9),(true,10),(true,11),(true,12)] none (nw 2) ?_;refine⟨_,rfl,rfl,?_⟩;refine .inl ?_;refine And.intro (show decide (gm id=(0:Int))=((8:Nat),true).snd→(0:Int)≤id.origin∧id.origin<(↑(8:Nat):Int)from(fun h=>⟨(qs (of_decide_eq_true h)).1,by have:=(qs (of_decide_eq_true h)).2.1;simp;omega⟩)) ?_;exact e0
def ij(a:bT)(b:bT):bT:=
 if fY [bX a.at_ b.at_,ls a.val b.val]<0 then
  b
 else
  a
def P3:bG U:=⟨[.d (.st 13),.d (.st 13)],fun xs es K=> ∃(a:bT) (b:bT),xs= [(BX a),(BX b)]∧es= []∧K (.v (BX (ij a b))) []⟩
theorem P4:Fk 82 P3:=by
 refine fo Tryz.f82 [.d (.st 13)] [] (aa Hl (aa Jw (aa Ah aq))) fun xs es K=>?_;rintro⟨a,b,rfl,rfl,h⟩;refine⟨rfl,?_⟩;have hf0:=ij.eq_1 a b;refine dp [(true,0),(true,1),(true,2),(true,3),(true,5),(true,6),(true,7),(true,8),(false,4),(false,9),(false,10),(false,11),(true,12)] none (nw 3) ?_;refine⟨_,_,rfl,rfl,?_⟩;refine⟨_,_,rfl,rfl,?_⟩;refine⟨_,rfl,rfl,?_⟩;exact wI hf0 (fun _ hf0=>e0) fun _ hf0=>e0
def eS(s:bT)(val:Int)(tm:aj):bT×Int:=
 if jd [dA s.at_,dA tm]=0 then
  if tm.time=0 then
   (bT.mk 0 (aj.mk 0 0),2)
  else
   (ij s (bT.mk val tm),0)
 else
  (bT.mk 0 (aj.mk 0 0),jd [dA s.at_,dA tm])
def P5:bG U:=⟨[.d (.st 13),.d (.int .i64),.d (.st 2)],fun xs es K=> ∃(s:bT) (val:Int) (tm:aj),xs= [(BX s),(vi val),(IS tm)]∧es= []∧K (.tup [(BX ((eS s val tm).1)),(vi ((eS s val tm).2))]) []⟩
theorem P6:Fk 35 P5:=by
 refine fo Tryz.f35 [.d (.st 13),.d (.int .i64)] [] (aa MS (aa PH (aa P4 aq))) fun xs es K=>?_;rintro⟨s,val,tm,rfl,rfl,h⟩;refine⟨rfl,?_⟩;have hf0:=eS.eq_1 s val tm;refine dp [(true,0),(true,1),(true,3),(false,2),(false,4),(false,5),(false,6),(true,7)] none (nw 3) ?_;refine⟨_,rfl,rfl,?_⟩;refine⟨_,rfl,rfl,?_⟩;refine⟨_,rfl,rfl,?_⟩;refine wN hf0 (fun _ hf0=>e0) fun _ hf0=>?_;refine wI hf0 (fun _ hf0=>e0) fun _ hf0=>?_;refine⟨_,_,rfl,rfl,?_⟩;exact e0
def fh(low:Int)(high:Int)(l:List Int):Nat→Int→Bool⊕(Int)
 |0,s11=> .inr s11
 |n1+1,s11=>
  if s11<(l.length:Int)then
   if(ix l s11<low)∨(high<ix l s11)then
    .inl false
   else
    fh low high l n1 (s11+1)
  else
   .inr s11
def gZ(low:Int)(high:Int)(l:List Int):Bool:=
 match fh low high l (((l.length:Int)- 0).toNat+1) 0 with
 | .inl r=>r
 | .inr s11=>
  true
def Ni:bG U:=⟨[.d (.int .i64),.d (.int .i64),.d (.sl (.int .i64))],fun xs es K=> ∃(low:Int) (high:Int) (l:List Int),xs= [(vi low),(vi high),(IR l)]∧es= []∧K (.v (vb (gZ low high l))) []⟩
theorem Nj:Fk 150 Ni:=by
 refine fo Tryz.f150 [.d .bool] [] (aq) fun xs es K=>?_;rintro⟨low,high,l,rfl,rfl,h⟩;refine⟨rfl,?_⟩;have hf0:=gZ.eq_1 low high l;refine fl (x:=l.length) fun _=>?_;refine lI 0 (fun(s11:Int)=> [(0,.v (vi low)),(1,.v (vi high)),(6,.v (vb false)),(9,.v (IR l)),(10,.v (vi (l.length:Int))),(11,.v (vi s11))]) (fun(s11:Int)=> []) (fun(s11:Int)=>((l.length:Int)- s11).toNat) (fun(s11:Int)=>(0≤s11)∧(s11≤(l.length:Int))∧True) (fun n1 (s11:Int)=>fh low high l n1 s11) (fh low high l (((l.length:Int)- 0).toNat+1) 0) [] (0:Int) ?_;rintro s11 ⟨n1,hc1,⟨hi1_0,hi1_1,-⟩,hf1⟩;have hf1:=hf1.trans (fh.eq_2 low high l s11 n1);refine wI hf1 (fun _ hf1=>?_) fun _ hf1=>e1;refine vx s11 l ?_;refine wI hf1 (fun _ hf1=>e1) fun _ hf1=>?_;refine bE ?_;exact nx [] (s11+1) hc1 hf1
def fa(a:Int)(b:Int):Int×Int:=
 if gZ (-1125899906842624) 1125899906842624 [a,b]=true then
  if gZ (-1125899906842624) 1125899906842624 [IntKind.i64.wrap (a+b)]=true then
   (IntKind.i64.wrap (a+b),0)
  else
   (0,12)
 else
  (0,2)
def P7:bG U:=⟨[.d (.int .i64),.d (.int .i64)],fun xs es K=> ∃(a:Int) (b:Int),xs= [(vi a),(vi b)]∧es= []∧K (.tup [(vi ((fa a b).1)),(vi ((fa a b).2))]) []⟩
theorem P8:Fk 84 P7:=by
 refine fo Tryz.f84 [.d (.int .i64),.d (.int .i64)] [] (aa Nj aq) fun xs es K=>?_;rintro⟨a,b,rfl,rfl,h⟩;refine⟨rfl,?_⟩;have hf0:=fa.eq_1 a b;refine⟨_,_,_,rfl,rfl,?_⟩;refine wN hf0 (fun _ hf0=>e0) fun _ hf0=>?_;refine .inr ?_;refine⟨_,_,_,rfl,rfl,?_⟩;refine wN hf0 (fun _ hf0=>e0) fun _ hf0=>?_;refine .inr ?_;exact e0
def fP(s:ci):Nat→Int→Int⊕(Int)
 |0,s10=> .inr s10
 |n1+1,s10=>
  if s10<2 then
   if(ix [s.plus,s.minus] s10<0)∨(1125899906842624<ix [s.plus,s.minus] s10)then
    .inl 2
   else
    fP s n1 (s10+1)
  else
   .inr s10
def eT(s:ci):Int:=
 match fP s (((2:Int)-(0:Int)).toNat+1) (0:Int)with
 | .inl r=>r
 | .inr s10=>
  0
def P9:bG U:=⟨[.d (.st 14)],fun xs es K=> ∃(s:ci),xs= [(EM s)]∧es= []∧K (.v (vi (eT s))) []⟩
theorem O1:Fk 83 P9:=by
 refine fo Tryz.f83 [.d (.int .i64)] [] (aq) fun xs es K=>?_;rintro⟨s,rfl,rfl,h⟩;refine⟨rfl,?_⟩;have hf0:=eT.eq_1 s;refine lI 1 (fun(s10:Int)=> [(2,.v (vi 0)),(9,.v ⟨true,[(1,.d (.int .i64) s.plus),(1,.d (.int .i64) s.minus)]⟩),(10,.v (vi s10))]) (fun(s10:Int)=> []) (fun(s10:Int)=>(2 - s10).toNat) (fun(s10:Int)=>(0≤s10)∧(s10≤2)∧True) (fun n1 (s10:Int)=>fP s n1 s10) (fP s (((2:Int)-(0:Int)).toNat+1) (0:Int)) [] (0:Int) ?_;rintro s10 ⟨n1,hc1,⟨hi1_0,hi1_1,-⟩,hf1⟩;have hf1:=hf1.trans (fP.eq_2 s s10 n1);refine wI hf1 (fun _ hf1=>?_) fun _ hf1=>e1;refine vs (P:=0≤s10∧s10<((2:Nat):Int)) ?_;refine wI hf1 (fun _ hf1=>e1) fun _ hf1=>?_;refine bE ?_;exact nx [] (s10+1) hc1 hf1
def j7(s:ci):Int:=
 if eT s=0 then
  IntKind.i64.wrap (s.plus - s.minus)
 else
  0
def Qa:bG U:=⟨[.d (.st 14)],fun xs es K=> ∃(s:ci),xs= [(EM s)]∧es= []∧K (.v (vi (j7 s))) []⟩
theorem Qb:Fk 50 Qa:=by
 refine fo Tryz.f50 [.d (.int .i64)] [] (aa O1 aq) fun xs es K=>?_;rintro⟨s,rfl,rfl,h⟩;refine⟨rfl,?_⟩;have hf0:=j7.eq_1 s;refine⟨_,rfl,rfl,?_⟩;refine wN hf0 (fun _ hf0=>e0) fun _ hf0=>?_;refine .inr ?_;exact e0
def eU(s:ci)(n:Int):ci×Int:=
 if eT s=0 then
  if(n<(-1073741824))∨(1073741824<n)then
   (ci.mk 0 0,2)
  else
   if n<0 then
    if(fa s.minus (-n)).snd=0 then
     (ci.mk s.plus (fa s.minus (-n)).fst,0)
    else
     (ci.mk 0 0,(fa s.minus (-n)).snd)
   else
    if(fa s.plus n).snd=0 then
     (ci.mk (fa s.plus n).fst s.minus,0)
    else
     (ci.mk 0 0,(fa s.plus n).snd)
 else
  (ci.mk 0 0,eT s)
def Qc:bG U:=⟨[.d (.st 14),.d (.int .i64)],fun xs es K=> ∃(s:ci) (n:Int),xs= [(EM s),(vi n)]∧es= []∧K (.tup [(EM ((eU s n).1)),(vi ((eU s n).2))]) []⟩
theorem Qd:Fk 36 Qc:=by
 refine fo Tryz.f36 [.d (.st 14),.d (.int .i64)] [] (aa O1 (aa P8 aq)) fun xs es K=>?_;rintro⟨s,n,rfl,rfl,h⟩;refine⟨rfl,?_⟩;have hf0:=eU.eq_1 s n;refine⟨_,rfl,rfl,?_⟩;refine wN hf0 (fun _ hf0=>e0) fun _ hf0=>?_;refine wI hf0 (fun _ hf0=>e0) fun _ hf0=>?_;refine wI hf0 (fun _ hf0=>?_) fun _ hf0=>?_
 ·refine bE ?_;refine⟨_,_,rfl,rfl,?_⟩;exact wN hf0 (fun _ hf0=>e0) fun _ hf0=>e0
 ·refine⟨_,_,rfl,rfl,?_⟩;exact wN hf0 (fun _ hf0=>e0) fun _ hf0=>e0
def cy(act:Int):Int:=
 if act=1 then
  1
 else
  if act=2 then
   2
  else
   if act=3 then
    3
   else
    if act=4 then
     3
    else
     if act=5 then
      4
     else
      if act=6 then
       4
      else
       0
def Qe:bG U:=⟨[.d (.int .i64)],fun xs es K=> ∃(act:Int),xs= [(vi act)]∧es= []∧K (.v (vi (cy act))) []⟩
theorem IJ:Fk 28 Qe:=by
 refine fo Tryz.f28 [.d (.int .i64)] [] (aq) fun xs es K=>?_;rintro⟨act,rfl,rfl,h⟩;refine⟨rfl,?_⟩;have hf0:=cy.eq_1 act;refine wI hf0 (fun _ hf0=>e0) fun _ hf0=>?_;refine wI hf0 (fun _ hf0=>e0) fun _ hf0=>?_;refine wI hf0 (fun _ hf0=>?_) fun _ hf0=>?_
 ·refine vT iD (by omega) ?_;exact e0
 ·refine wI hf0 (fun _ hf0=>e0) fun _ hf0=>?_;refine wI hf0 (fun _ hf0=>?_) fun _ hf0=>wI hf0 (fun _ hf0=>e0) fun _ hf0=>e0;refine vT iD (by omega) ?_;exact e0
def bt(kind:Int):aG×Int:=
 if(kind<1)∨(4<kind)then
  (aG.mk 0 (bT.mk 0 (aj.mk 0 0)) (ci.mk 0 0) (br.mk [] []) (bw.mk [] []),5)
 else
  (aG.mk kind (bT.mk 0 (aj.mk 0 0)) (ci.mk 0 0) (br.mk [] []) (bw.mk [] []),0)
def c7:bG U:=⟨[.d (.int .i64)],fun xs es K=> ∃(kind:Int),xs= [(vi kind)]∧es= []∧K (.tup [(vM ((bt kind).1)),(vi ((bt kind).2))]) []⟩
theorem k7:Fk 7 c7:=by
 refine fo Tryz.f7 [.d (.st 15),.d (.int .i64)] [] (aq) fun xs es K=>?_;rintro⟨kind,rfl,rfl,h⟩;refine⟨rfl,?_⟩;have hf0:=bt.eq_1 kind;exact wI hf0 (fun _ hf0=>e0) fun _ hf0=>e0
def cz(o:Int):iv:=
 if o=5 then
  iv.mk true true true false
 else
  if o=1 then
   iv.mk false true true false
  else
   if o=2 then
    iv.mk false true false false
   else
    if o=4 then
     iv.mk true false false true
    else
     if o=6 then
      iv.mk true false false true
     else
      if o=3 then
       iv.mk true false false false
      else
       iv.mk false false false false
def Qf:bG U:=⟨[.d (.int .i64)],fun xs es K=> ∃(o:Int),xs= [(vi o)]∧es= []∧K (.v ⟨true,[(4,.d (.st 18) (cz o))]⟩) []⟩
theorem O2:Fk 69 Qf:=by
 refine fo Tryz.f69 [.d (.st 18)] [] (aq) fun xs es K=>?_;rintro⟨o,rfl,rfl,h⟩;refine⟨rfl,?_⟩;have hf0:=cz.eq_1 o;refine wI hf0 (fun _ hf0=>e0) fun _ hf0=>?_;refine wI hf0 (fun _ hf0=>e0) fun _ hf0=>?_;refine wI hf0 (fun _ hf0=>e0) fun _ hf0=>?_;refine wI hf0 (fun _ hf0=>?_) fun _ hf0=>wI hf0 (fun _ hf0=>e0) fun _ hf0=>wI hf0 (fun _ hf0=>e0) fun _ hf0=>e0;refine vT iD (by omega) ?_;exact e0
def lu(r:Int):Bool:=
 decide (97≤r)&&decide (r≤122)||decide (48≤r)&&decide (r≤57)
def Nk:bG U:=⟨[.d (.int .u8)],fun xs es K=> ∃(r:Int),xs= [⟨false,[(1,.d (.int .u8) r)]⟩]∧es= []∧K (.v (vb (lu r))) []⟩
theorem Nl:Fk 107 Nk:=by
 refine fo Tryz.f107 [.d .bool] [] (aq) fun xs es K=>?_;rintro⟨r,rfl,rfl,h⟩;refine⟨rfl,?_⟩;have hf0:=lu.eq_1 r;exact e0
def ch(t:am):Bool:=
 decide ¬aW t=0
def Qg:bG U:=⟨[.d (.st 4)],fun xs es K=> ∃(t:am),xs= [(yA t)]∧es= []∧K (.v (vb (ch t))) []⟩
theorem L0:Fk 29 Qg:=by
 refine fo Tryz.f29 [.d .bool] [] (aa MP aq) fun xs es K=>?_;rintro⟨t,rfl,rfl,h⟩;refine⟨rfl,?_⟩;have hf0:=ch.eq_1 t;refine⟨_,rfl,rfl,?_⟩;exact e0
def aM(s:aG):aG:=
 aG.mk s.kind s.reg s.num (br.mk s.set.adds s.set.gone) (bw.mk s.map.puts s.map.gone)
def Qh:bG U:=⟨[.d (.st 15)],fun xs es K=> ∃(s:aG),xs= [(vM s)]∧es= []∧(s.set.adds.length≤1000000)∧(s.set.gone.length≤1000000)∧(s.map.puts.length≤1000000)∧(s.map.gone.length≤1000000)∧K (.v (vM (aM s))) []⟩
theorem Qi:Fk 34 Qh:=by
 refine fo Tryz.f34 [.d (.st 15)] [] (aa NS (aa NR (aa L8 aq))) fun xs es K=>?_;rintro⟨s,rfl,rfl,h1,h2,h3,h4,h⟩;refine⟨rfl,?_⟩;have hf0:=aM.eq_1 s;refine dp [(true,0),(true,1),(true,2),(true,4),(true,5),(true,6),(false,3),(false,7),(true,8),(true,9)] (some 10) (nw 2) ?_;refine⟨_,rfl,rfl,(by assumption),?_⟩;refine⟨_,rfl,rfl,(by assumption),?_⟩;refine dp [(true,0),(true,1),(true,2),(true,4),(true,5),(true,6),(false,3),(false,7),(true,8),(true,9)] (some 10) (nw 4) ?_;refine⟨_,rfl,rfl,(by assumption),?_⟩;refine⟨_,rfl,rfl,(by assumption),?_⟩;exact e0
def d5(e:aj):Bool:=
 decide (dA e=0)&&decide (0<e.time)
def Qj:bG U:=⟨[.d (.st 2)],fun xs es K=> ∃(e:aj),xs= [(IS e)]∧es= []∧K (.v (vb (d5 e))) []⟩
theorem L4:Fk 30 Qj:=by
 refine fo Tryz.f30 [.d .bool] [] (aa MS aq) fun xs es K=>?_;rintro⟨e,rfl,rfl,h⟩;refine⟨rfl,?_⟩;have hf0:=d5.eq_1 e;refine⟨_,rfl,rfl,?_⟩;exact e0
def bv(o:gG):Int:=
 if cy o.act=0 then
  5
 else
  if((cz o.act).name=true)∧(¬(fB o.name=true))then
   3
  else
   if(¬((cz o.act).name=true))∧(¬o.name= [])then
    3
   else
    if(¬((cz o.act).val=true))∧(¬o.val=0)then
     3
    else
     if(o.act=2)∧((o.val<(-1073741824))∨(1073741824<o.val))then
      2
     else
      0
def Qk:bG U:=⟨[.d (.st 1)],fun xs es K=> ∃(o:gG),xs= [(LO o)]∧es= []∧K (.v (vi (bv o))) []⟩
theorem JA:Fk 27 Qk:=by
 refine fo Tryz.f27 [.d (.int .i64)] [] (aa IJ (aa O2 (aa MU aq))) fun xs es K=>?_;rintro⟨o,rfl,rfl,h⟩;refine⟨rfl,?_⟩;have hf0:=bv.eq_1 o;refine⟨_,rfl,rfl,?_⟩;refine wI hf0 (fun _ hf0=>e0) fun _ hf0=>?_;refine⟨_,rfl,rfl,?_⟩;refine⟨_,fun _=>⟨_,rfl,rfl,rfl,rfl⟩,rfl,?_⟩;refine wI hf0 (fun _ hf0=>?_) fun _ hf0=>?_
 ·refine vT (iA iB (iN iB)) (show((cz o.act).name=true)∧(¬(fB o.name=true))from by omega) ?_;exact e0
 ·refine wI hf0 (fun _ hf0=>?_) fun _ hf0=>wI hf0 (fun _ hf0=>e0) fun _ hf0=>wI hf0 (fun _ hf0=>e0) fun _ hf0=>e0;refine vT (iA (iN iB) iD) (show(¬((cz o.act).name=true))∧(¬o.name= [])from by omega) ?_;exact e0
def fj(e:ax):Nat→Int→Int⊕(Int)
 |0,s5=> .inr s5
 |n1+1,s5=>
  if s5<(e.tags.length:Int)then
   if 0≤ak (ix e.tags (s5 - 1)) (ix e.tags s5)then
    .inl 3
   else
    fj e n1 (s5+1)
  else
   .inr s5
def d6(e:ax):Int:=
 if bv (gG.mk e.act e.name e.val)=0 then
  if(ch e.tag=true)∨((cc e.tags fun(t:am)=>ch t)=true)then
   2
  else
   if 4096<(e.tags.length:Int)then
    8
   else
    if((((cz e.act).at_=true)∧(¬(d5 e.at_=true)))∨((¬((cz e.act).at_=true))∧(¬(e.at_=aj.mk 0 0))))∨((¬((cz e.act).tags=true))∧(0<(e.tags.length:Int)))then
     3
    else
     match fj e (((e.tags.length:Int)- 1).toNat+1) 1 with
     | .inl r=>r
     | .inr s5=>
      0
 else
  bv (gG.mk e.act e.name e.val)
def Ql:bG U:=⟨[.d (.st 16)],fun xs es K=> ∃(e:ax),xs= [(IB e)]∧es= []∧((fun(r0:Int)=>r0=0→e.tags.length≤4096) (d6 e)→K (.v (vi (d6 e))) [])⟩
theorem Qm:Fk 33 Ql:=by
 refine fo Tryz.f33 [.d (.int .i64)] [] (aa JA (aa L0 (aa L4 (aa O2 (aa Jy (aa Ai aq)))))) fun xs es K=>?_;rintro⟨e,rfl,rfl,h⟩;refine⟨rfl,?_⟩;have hf0:=d6.eq_1 e;refine⟨_,rfl,rfl,?_⟩;refine wN hf0 (fun _ hf0=>?_) fun _ hf0=>?_
 ·rw[hf0]at h;exact h (by omega)
 ·refine⟨_,rfl,rfl,?_⟩;refine⟨_,fun _=>⟨fun(t:am)=>ch t,fun t0=>⟨_,rfl,rfl,rfl,rfl⟩,_,_,rfl,rfl,rfl,rfl⟩,rfl,?_⟩;refine wI hf0 (fun _ hf0=>?_) fun _ hf0=>?_
  ·rw[hf0]at h;exact h (by omega)
  ·refine fl (x:=e.tags.length) fun _=>?_;refine wI hf0 (fun _ hf0=>?_) fun _ hf0=>?_
   ·rw[hf0]at h;exact h (by omega)
   ·refine⟨_,rfl,rfl,?_⟩;refine⟨_,fun _=>⟨_,rfl,rfl,rfl,rfl⟩,rfl,?_⟩;refine wI hf0 (fun _ hf0=>?_) fun _ hf0=>?_
    ·rw[hf0]at h;exact h (by omega)
    ·refine lI 2 (fun(s5:Int)=> [(1,.v (vp 0)),(2,.v (vi 0)),(5,.v (vi s5))]) (fun(s5:Int)=> [(0,.cells [(9,.d (.st 16) e)] 63)]) (fun(s5:Int)=>((e.tags.length:Int)- s5).toNat) (fun(s5:Int)=>(1≤s5)∧True) (fun n1 (s5:Int)=>fj e n1 s5) (fj e (((e.tags.length:Int)- 1).toNat+1) 1) [] (1:Int) ?_;rintro s5 ⟨n1,hc1,⟨hi1_0,-⟩,hf1⟩;have hf1:=hf1.trans (fj.eq_2 e s5 n1);refine fl (x:=e.tags.length) fun _=>?_;refine wI hf1 (fun _ hf1=>?_) fun _ hf1=>?_
     ·refine dp [(true,0),(true,1),(true,2),(true,3),(true,4),(true,5),(true,6),(true,7),(true,8),(true,9),(true,10),(false,11),(true,12)] none (nw 2) ?_;refine bE ?_;refine vx (s5 - 1) e.tags ?_;refine vx s5 e.tags ?_;refine⟨_,_,rfl,rfl,?_⟩;refine wI hf1 (fun _ hf1=>?_) fun _ hf1=>?_
      ·rw[hf1]at hf0;rw[hf0]at h;exact h (by omega)
      ·refine bE ?_;exact nx [] (s5+1) hc1 hf1
     ·rw[hf1]at hf0;rw[hf0]at h;exact h (by omega)
def d7(t:am):Bool:=
 decide ¬aW t=0
def Qn:bG U:=⟨[.d (.st 4)],fun xs es K=> ∃(t:am),xs= [(yA t)]∧es= []∧K (.v (vb (d7 t))) []⟩
theorem Nm:Fk 96 Qn:=by
 refine fo Tryz.f96 [.d .bool] [] (aa MP aq) fun xs es K=>?_;rintro⟨t,rfl,rfl,h⟩;refine⟨rfl,?_⟩;have hf0:=d7.eq_1 t;refine⟨_,rfl,rfl,?_⟩;exact e0
def gK(s:bw):(List bk)×(List am):=
 (s.puts,s.gone)
def Qo:bG U:=⟨[.d (.st 12)],fun xs es K=> ∃(s:bw),xs= [(sg s)]∧es= []∧(s.puts.length≤1000000)∧(s.gone.length≤1000000)∧K (.v ⟨true,[(1,.own 0 0),(1,.own 1 0)]⟩) [.row 0 (.st 5) ((gK s).1) 133,.row 0 (.st 4) ((gK s).2) 61]⟩
theorem Qp:Fk 99 Qo:=by
 refine fo Tryz.f99 [.n] [] (aa NR (aa L8 aq)) fun xs es K=>?_;rintro⟨s,rfl,rfl,h1,h2,h⟩;refine⟨rfl,?_⟩;have hf0:=gK.eq_1 s;refine dp [(true,0),(true,1),(true,3),(true,4),(false,2),(false,5),(true,6)] (some 7) (nw 2) ?_;refine⟨_,rfl,rfl,(by assumption),?_⟩;refine⟨_,rfl,rfl,(by assumption),?_⟩;exact e0
def gu(l:List bk):Nat→Int→(List am)→(List am)⊕(Int×(List am))
 |0,s8,s3=> .inr (s8,s3)
 |n1+1,s8,s3=>
  if s8<(l.length:Int)then
   gu l n1 (s8+1) (s3++ [(ix l s8).tag])
  else
   .inr (s8,s3)
def eb(l:List bk):List am:=
 match gu l (((l.length:Int)- 0).toNat+1) 0 ([]:List am)with
 | .inl r=>r
 | .inr (s8,s3)=>
  s3
def Qq:bG U:=⟨[.d (.sl (.st 5))],fun xs es K=> ∃(l:List bk),xs= [(EL l)]∧es= []∧(l.length≤1000000)∧K (.v (nV (eb l))) []⟩
theorem Nn:Fk 74 Qq:=by
 refine fo Tryz.f74 [.d (.sl (.st 4))] [] (aq) fun xs es K=>?_;rintro⟨l,rfl,rfl,hl,h⟩;refine⟨rfl,?_⟩;have hf0:=eb.eq_1 l;refine fl (x:=l.length) fun _=>?_;refine lI (σ:=Int×(List am)) 1 (fun(s8,s3)=> [(2,.v ⟨false,[(1,.nils)]⟩),(3,.v (vo 0)),(6,.v (EL l)),(7,.v (vi (l.length:Int))),(8,.v (vi s8))]) (fun(s8,s3)=> [(0,.row 0 (.st 4) s3 61)]) (fun(s8,s3)=>((l.length:Int)- s8).toNat) (fun(s8,s3)=>(0≤s8)∧(s8≤(l.length:Int))∧((s3.length:Int)≤s8)∧True) (fun n1 (s8,s3)=>gu l n1 s8 s3) (gu l (((l.length:Int)- 0).toNat+1) 0 ([]:List am)) [] ((0:Int),([]:List am)) ?_;rintro⟨s8,s3⟩ ⟨n1,hc1,⟨hi1_0,hi1_1,hi1_2,-⟩,hf1⟩;have hf1:=hf1.trans (gu.eq_2 l s8 s3 n1);refine wI hf1 (fun _ hf1=>?_) fun _ hf1=>e1;refine vx s8 l ?_;refine vs (P:=(s3.length+ [(ix l s8).tag].length)*(24:Nat)≤(140737488355328:Nat)) ?_;refine bE ?_;exact nx (s:=(s8,s3)) [] (s8+1,s3++ [(ix l s8).tag]) hc1 hf1
def eV(p:bk):Bool:=
 decide ¬p.field= []&&decide ((p.field.length:Int)≤12)&&decide (dA p.at_=0)&&decide (0<p.at_.time)
def Qr:bG U:=⟨[.d (.st 5)],fun xs es K=> ∃(p:bk),xs= [(IT p)]∧es= []∧K (.v (vb (eV p))) []⟩
theorem O3:Fk 97 Qr:=by
 refine fo Tryz.f97 [.d .bool] [] (aa MS aq) fun xs es K=>?_;rintro⟨p,rfl,rfl,h⟩;refine⟨rfl,?_⟩;have hf0:=eV.eq_1 p;refine⟨_,fun _=>⟨_,rfl,rfl,rfl,rfl⟩,rfl,?_⟩;exact e0
def lw(l:List am)(t:am):Bool:=
 (cT l t fun(t t':am)=>ak t t').snd
def No:bG U:=⟨[.d (.sl (.st 4)),.d (.st 4)],fun xs es K=> ∃(l:List am) (t:am),xs= [(nV l),(yA t)]∧es= []∧(l.length≤1000000)∧K (.v (vb (lw l t))) []⟩
theorem Hm:Fk 100 No:=by
 refine fo Tryz.f100 [.d .bool] [] (aa Ai (aa MX aq)) fun xs es K=>?_;rintro⟨l,t,rfl,rfl,hl,h⟩;refine⟨rfl,?_⟩;have hf0:=lw.eq_1 l t;refine⟨fun(t t':am)=>ak t t',fun t0 t1=>⟨_,_,rfl,rfl,rfl,rfl⟩,?_⟩;refine⟨_,_,_,rfl,rfl,(by omega),?_⟩;exact e0
def gw(a:bk)(b:bk):Int:=
 fY [bX a.at_ b.at_,ak a.tag b.tag]
def Np:bG U:=⟨[.d (.st 5),.d (.st 5)],fun xs es K=> ∃(a:bk) (b:bk),xs= [(IT a),(IT b)]∧es= []∧K (.v (vi (gw a b))) []⟩
theorem Nq:Fk 120 Np:=by
 refine fo Tryz.f120 [.d (.int .i64)] [] (aa Ai (aa Hl (aa Ah aq))) fun xs es K=>?_;rintro⟨a,b,rfl,rfl,h⟩;refine⟨rfl,?_⟩;have hf0:=gw.eq_1 a b;refine dp [(true,0),(true,1),(true,2),(true,3),(true,5),(true,6),(true,7),(true,8),(false,4),(false,9),(false,10),(false,11),(true,12)] none (nw 2) ?_;refine⟨_,_,rfl,rfl,?_⟩;refine⟨_,_,rfl,rfl,?_⟩;refine⟨_,rfl,rfl,?_⟩;exact e0
def ik(l:List am):Nat→Int→Bool⊕(Int)
 |0,s3=> .inr s3
 |n1+1,s3=>
  if s3<(l.length:Int)then
   if 0≤ak (ix l (s3 - 1)) (ix l s3)then
    .inl false
   else
    ik l n1 (s3+1)
  else
   .inr s3
def kC(l:List am):Bool:=
 match ik l (((l.length:Int)- 1).toNat+1) 1 with
 | .inl r=>r
 | .inr s3=>
  true
def Nr:bG U:=⟨[.d (.sl (.st 4))],fun xs es K=> ∃(l:List am),xs= [(nV l)]∧es= []∧K (.v (vb (kC l))) []⟩
theorem Ns:Fk 156 Nr:=by
 refine fo Tryz.f156 [.d .bool] [] (aa Ai aq) fun xs es K=>?_;rintro⟨l,rfl,rfl,h⟩;refine⟨rfl,?_⟩;have hf0:=kC.eq_1 l;refine lI 0 (fun(s3:Int)=> [(0,.v (nV l)),(2,.v (vb false)),(3,.v (vi s3))]) (fun(s3:Int)=> []) (fun(s3:Int)=>((l.length:Int)- s3).toNat) (fun(s3:Int)=>(1≤s3)∧True) (fun n1 (s3:Int)=>ik l n1 s3) (ik l (((l.length:Int)- 1).toNat+1) 1) [] (1:Int) ?_;rintro s3 ⟨n1,hc1,⟨hi1_0,-⟩,hf1⟩;have hf1:=hf1.trans (ik.eq_2 l s3 n1);refine fl (x:=l.length) fun _=>?_;refine wI hf1 (fun _ hf1=>?_) fun _ hf1=>e1;refine dp [(true,0),(true,1),(true,2),(true,3),(true,4),(true,5),(true,6),(true,7),(true,8),(false,9),(true,10)] none (nw 0) ?_;refine bE ?_;refine vx (s3 - 1) l ?_;refine vx s3 l ?_;refine⟨_,_,rfl,rfl,?_⟩;refine wI hf1 (fun _ hf1=>e1) fun _ hf1=>?_;refine bE ?_;exact nx [] (s3+1) hc1 hf1
def aP(a:aF)(b:aF):Int:=
 nk a.field b.field
def Nt:bG U:=⟨[.d (.st 6),.d (.st 6)],fun xs es K=> ∃(a:aF) (b:aF),xs= [(Me a),(Me b)]∧es= []∧K (.v (vi (aP a b))) []⟩
theorem Nu:Fk 121 Nt:=by
 refine fo Tryz.f121 [.d (.int .i64)] [] (aa OZ aq) fun xs es K=>?_;rintro⟨a,b,rfl,rfl,h⟩;refine⟨rfl,?_⟩;have hf0:=aP.eq_1 a b;refine⟨_,_,rfl,rfl,?_⟩;exact e0
def mo(c:Int):Bool:=
 decide (127<c)||!lu (c%256)
def Nv:bG U:=⟨[.d (.int .i32)],fun xs es K=> ∃(c:Int),xs= [⟨false,[(1,.d (.int .i32) c)]⟩]∧es= []∧K (.v (vb (mo c))) []⟩
theorem Nw:Fk 106 Nv:=by
 refine fo Tryz.f106 [.d .bool] [] (aa Nl aq) fun xs es K=>?_;rintro⟨c,rfl,rfl,h⟩;refine⟨rfl,?_⟩;have hf0:=mo.eq_1 c;refine .inr ?_;refine⟨_,fun _=>⟨_,rfl,rfl,rfl,rfl⟩,rfl,?_⟩;exact e0
def j8(s:List UInt8):Nat→Int→(Int×Int)⊕(Int)
 |0,s14=> .inr s14
 |n1+1,s14=>
  if s14<((Lib.split s [(47:UInt8)]).length:Int)then
   if(ix (Lib.split s [(47:UInt8)]) s14= [])∨(0≤jc (ix (Lib.split s [(47:UInt8)]) s14) fun(t:Int)=>mo t)then
    .inl (0,3)
   else
    j8 s n1 (s14+1)
  else
   .inr s14
def ab(s:List UInt8):Int×Int:=
 if 24<(s.length:Int)then
  (0,8)
 else
  match j8 s ((((Lib.split s [(47:UInt8)]).length:Int)- 0).toNat+1) 0 with
  | .inl r=>r
  | .inr s14=>
   if((ix (ix (Lib.split s [(47:UInt8)]) (((Lib.split s [(47:UInt8)]).length:Int)- 1)) 0).toNat:Int)=114 then
    (1,0)
   else
    if((ix (ix (Lib.split s [(47:UInt8)]) (((Lib.split s [(47:UInt8)]).length:Int)- 1)) 0).toNat:Int)=99 then
     (2,0)
    else
     if((ix (ix (Lib.split s [(47:UInt8)]) (((Lib.split s [(47:UInt8)]).length:Int)- 1)) 0).toNat:Int)=115 then
      (3,0)
     else
      if((ix (ix (Lib.split s [(47:UInt8)]) (((Lib.split s [(47:UInt8)]).length:Int)- 1)) 0).toNat:Int)=109 then
       (4,0)
      else
       (0,5)
def Qt:bG U:=⟨[.d .str],fun xs es K=> ∃(s:List UInt8),xs= [(vt s)]∧es= []∧(s.length≤1000000)∧K (.tup [(vi ((ab s).1)),(vi ((ab s).2))]) []⟩
theorem Qu:Fk 42 Qt:=by
 refine fo Tryz.f42 [.d (.int .i64),.d (.int .i64)] [] (aa Ob (aa Od (aa Nw aq))) fun xs es K=>?_;rintro⟨s,rfl,rfl,h1,h⟩;refine⟨rfl,?_⟩;have hf0:=ab.eq_1 s;refine fl (x:=s.length) fun _=>?_;refine wI hf0 (fun h1 hf0=>e0) fun h1 hf0=>?_;refine⟨_,_,rfl,rfl,(by omega),(by(simp only[List.length_append,List.length_cons,List.length_nil];omega)),?_⟩;refine fl (x:=(Lib.split s [(47:UInt8)]).length) fun _=>?_;refine lI 0 (fun(s14:Int)=> [(2,.v (vi 0)),(3,.v (vi 0)),(4,.v (IC (Lib.split s [(47:UInt8)]))),(12,.v (IC (Lib.split s [(47:UInt8)]))),(13,.v (vi ((Lib.split s [(47:UInt8)]).length:Int))),(14,.v (vi s14))]) (fun(s14:Int)=> []) (fun(s14:Int)=>(((Lib.split s [(47:UInt8)]).length:Int)- s14).toNat) (fun(s14:Int)=>(0≤s14)∧(s14≤((Lib.split s [(47:UInt8)]).length:Int))∧(∀j:Int,0≤j→j<s14→ix (Lib.split s [(47:UInt8)]) j≠ [])∧True) (fun n1 (s14:Int)=>j8 s n1 s14) (j8 s ((((Lib.split s [(47:UInt8)]).length:Int)- 0).toNat+1) 0) [] (0:Int) ?_ (hi:=⟨show(0:Int)≤(0:Int)from by omega,show(0:Int)≤(↑(Lib.split s [(47:UInt8)]).length:Int)from by omega,show ∀(j:Int),(0:Int)≤j→j<(0:Int)→ix (Lib.split s [(47:UInt8)]) j≠ []from by omega,trivial⟩);rintro s14 ⟨n1,hc1,⟨hi1_0,hi1_1,hi1_2,-⟩,hf1⟩;have hf1:=hf1.trans (j8.eq_2 s s14 n1);refine wI hf1 (fun _ hf1=>?_) fun _ hf1=>?_
 ·refine vx s14 (Lib.split s [(47:UInt8)]) ?_;refine⟨_,fun _=>⟨fun(t:Int)=>mo t,fun t0=>⟨_,rfl,rfl,rfl,rfl⟩,_,_,rfl,rfl,rfl,rfl⟩,rfl,?_⟩;refine wI hf1 (fun _ hf1=>e1) fun _ hf1=>?_;refine bE ?_;exact nx [] (s14+1) hc1 hf1 (hi:=⟨show(0:Int)≤s14+(1:Int)from by omega,show s14+(1:Int)≤(↑(Lib.split s [(47:UInt8)]).length:Int)from by omega,show ∀(j:Int),(0:Int)≤j→j<s14+(1:Int)→ix (Lib.split s [(47:UInt8)]) j≠ []from by(intro j hj1 hj2;rcases(show j<s14∨j=s14 by omega)with hh|rfl;(· exact hi1_2 j hj1 hh);(· intro he;simp_all)),trivial⟩)
 ·rw[hf1]at hf0;refine fl (x:=(Lib.split s [(47:UInt8)]).length) fun _=>?_;refine bE ?_;refine vs (P:=0≤((Lib.split s [(47:UInt8)]).length:Int)- 1∧((Lib.split s [(47:UInt8)]).length:Int)- 1<((Lib.split s [(47:UInt8)]).length:Int)) ?_ (by(have hp:=lq (s:=s) (sep:= [(47:UInt8)]) (by decide);omega));refine vs (P:=(0:Int)≤(0:Int)∧(0:Int)<((ix (Lib.split s [(47:UInt8)]) (((Lib.split s [(47:UInt8)]).length:Int)-(1:Int))).length:Int)) ?_ (by(have hp:=lq (s:=s) (sep:= [(47:UInt8)]) (by decide);have hq:=hi1_2 ((↑(Lib.split s [(47:UInt8)]).length:Int)- 1) (by omega) (by omega);have:=List.length_pos_iff.2 hq;omega));exact wI hf0 (fun _ hf0=>e0) fun _ hf0=>wI hf0 (fun _ hf0=>e0) fun _ hf0=>wI hf0 (fun _ hf0=>e0) fun _ hf0=>wI hf0 (fun _ hf0=>e0) fun _ hf0=>e0
end Go.Proofs.YtmpeiadlohbikaaGreatDoor.V
end

section
set_option linter.unusedVariables false
set_option linter.unusedSimpArgs false
set_option maxRecDepth 20000
set_option maxHeartbeats 4000000
namespace Go.Proofs.YtmpeiadlohbikaaGreatDoor.V
open Go.RowKit
theorem kD(x y:Int):lr x y=if x<y then -1 else if y<x then 1 else 0:=by
 unfold lr;simp[na]
theorem om(x y:Int):nj x y=if x<y then -1 else if y<x then 1 else 0:=by
 unfold nj;simp[nc]
theorem ka(x y:Int):fY [x,y]=if x=0 then y else x:=by
 have e1:ix [x,y] 1=y:=rfl;have e0:ix [x,y] 0=x:=rfl;unfold fY;rw[show((↑[x,y].length:Int)- 0).toNat+1=3 from rfl,fA,fA,fA,fA];rw[show(0:Int)+1=1 from rfl,e0,e1];by_cases hx:x=0<;>by_cases hy:y=0<;>simp[hx,hy]
theorem o0(a b:am):ak a b=if a.id.origin<b.id.origin then -1 else if b.id.origin<a.id.origin then 1 else if a.id.seq<b.id.seq then -1 else if b.id.seq<a.id.seq then 1 else if a.n<b.n then -1 else if b.n<a.n then 1 else 0:=by
 unfold ak fN;rw[ka,ka,kD,kD,om]
 repeat' split
 all_goals omega
theorem rE{a b:am}(h1:a.id.origin=b.id.origin)(h2:a.id.seq=b.id.seq)(h3:a.n=b.n):a=b:=by
 obtain⟨⟨a1,a2⟩,a3⟩:=a;obtain⟨⟨b1,b2⟩,b3⟩:=b;simp only at h1 h2 h3;subst h1;subst h2;subst h3;rfl
open Go.Shelf Go.Lib Go.Sort
theorem mq(a b:am):ltOf ak a b=decide (a.id.origin<b.id.origin∨a.id.origin=b.id.origin∧(a.id.seq<b.id.seq∨a.id.seq=b.id.seq∧a.n<b.n)):=by
 unfold ltOf;rw[o0,decide_eq_decide]
 repeat' split
 all_goals omega
theorem o5(l:List am):fL l ak:=by
 refine⟨⟨fun x=>?_,fun x y z h1 h2=>?_,fun x y z h1 h2=>?_⟩,fun x _ y _ h1 h2=>?_⟩
 ·rw[mq];simp
 ·rw[mq,decide_eq_true_iff]at*;omega
 ·rw[mq,decide_eq_false_iff_not]at*;omega
 ·rw[mq,decide_eq_false_iff_not]at h1 h2;exact rE (by omega) (by omega) (by omega)
theorem qt(l:List bk):(eb l).length≤l.length:=by
 have key: ∀(n:Nat) (i:Int) (s:List am),0≤i→(s.length:Int)≤i→i≤l.length→ ∃j t,gu l n i s= .inr (j,t)∧t.length≤l.length:=fun n=>by
  induction n with
  |zero=>intro i s h0 h1 h2;exact⟨i,s,rfl,by omega⟩
  |succ n ih=>
   intro i s h0 h1 h2;rw[gu];split
   ·exact ih _ _ (by omega) (by simp;omega) (by omega)
   ·exact⟨i,s,rfl,by omega⟩
 obtain⟨j,t,h,ht⟩:=key (((l.length:Int)- 0).toNat+1) 0 [] (by omega) (by simp) (by omega);unfold eb;rw[h];exact ht
def fb(s:br)(tags:List am):br×Int:=
 if ew s=0 then
  if 4096<(tags.length:Int)then
   (br.mk [] [],8)
  else
   if(cc tags fun(t:am)=>cZ t)=true then
    (br.mk [] [],2)
   else
    if 4096<((dd (bl (fun(t t':am)=>ak t t') (s.gone++tags))).length:Int)then
     (br.mk [] [],4)
    else
     (br.mk (List.filter (fun(x:bD)=>!mn x (br.mk [] (dd (bl (fun(t t':am)=>ak t t') (s.gone++tags))))) s.adds) (dd (bl (fun(t t':am)=>ak t t') (s.gone++tags))),0)
 else
  (br.mk [] [],ew s)
def Qv:bG U:=⟨[.d (.st 11),.d (.sl (.st 4))],fun xs es K=> ∃(s:br) (tags:List am),xs= [(ur s),(nV tags)]∧es= []∧(s.adds.length≤1000000)∧(s.gone.length≤900000)∧((fun(r0:br) (r1:Int)=>r0.adds.length≤4097∧r0.gone.length≤4097) ((fb s tags).1) ((fb s tags).2)→K (.tup [(ur ((fb s tags).1)),(vi ((fb s tags).2))]) [])⟩
theorem Qw:Fk 38 Qv:=by
 refine fo Tryz.f38 [.d (.st 11),.d (.int .i64)] [] (aa LZ (aa Jy (aa Ai (aa NS (aa LY (aa O7 (aa Pa (aa O9 (aa Rg (aa PZ aq)))))))))) fun xs es K=>?_;rintro⟨s,tags,rfl,rfl,h1,h2,h⟩;refine⟨rfl,?_⟩;have hf0:=fb.eq_1 s tags;refine⟨_,rfl,rfl,(by omega),?_⟩;refine fun _=>?_;refine wN hf0 (fun h1 hf0=>?_) fun h1 hf0=>?_
 ·rw[hf0]at h;exact h (by simp)
 ·refine fl (x:=tags.length) fun h2=>?_;refine wI hf0 (fun _ hf0=>?_) fun _ hf0=>?_
  ·rw[hf0]at h;exact h (by simp)
  ·refine⟨fun(t:am)=>cZ t,fun t0=>⟨_,rfl,rfl,rfl,rfl⟩,?_⟩;refine⟨_,_,rfl,rfl,?_⟩;refine wI hf0 (fun _ hf0=>?_) fun _ hf0=>?_
   ·rw[hf0]at h;exact h (by simp)
   ·refine⟨_,_,rfl,rfl,(show s.gone.length≤(1000000:Nat)from by omega),(show tags.length≤(1000000:Nat)from by omega),?_⟩;refine⟨fun(t t':am)=>ak t t',fun t0 t1=>⟨_,_,rfl,rfl,rfl,rfl⟩,?_⟩;refine⟨_,_,rfl,rfl,(o5 _),(show(s.gone++tags).length<(4611686018427387904:Nat)from by(simp only[List.length_append,List.length_cons,List.length_nil];omega)),?_⟩;refine⟨_,rfl,rfl,?_⟩;refine fl (x:=(dd (bl (fun(t t':am)=>ak t t') (s.gone++tags))).length) fun _=>?_;refine wI hf0 (fun h6 hf0=>?_) fun h6 hf0=>?_
    ·rw[hf0]at h;exact h (by simp)
    ·refine⟨_,rfl,rfl,(by assumption),?_⟩;refine⟨fun(t:bD)=>mn t (br.mk [] (dd (bl (fun(t t':am)=>ak t t') (s.gone++tags)))),fun t0=>⟨_,_,rfl,rfl,(Nat.le_trans (Int.ofNat_le.1 (Int.not_lt.1 h6)) (show(4096:Nat)≤1000000 by decide)),rfl,rfl⟩,?_⟩;refine⟨_,_,rfl,rfl,?_⟩;rw[hf0]at h;exact h (by(dsimp only;exact⟨Nat.le_trans (List.length_filter_le _ _) (by omega),Nat.le_trans (Int.ofNat_le.1 (Int.not_lt.1 h6)) (by decide)⟩))
def eK(s:br):Nat→Int→(List (List UInt8))→(List (List UInt8))⊕(Int×(List (List UInt8)))
 |0,s12,s3=> .inr (s12,s3)
 |n1+1,s12,s3=>
  if s12<(s.adds.length:Int)then
   eK s n1 (s12+1) (s3++ [(ix s.adds s12).elem])
  else
   .inr (s12,s3)
def aZ(s:br):List (List UInt8):=
 if ew s=0 then
  match eK s (((s.adds.length:Int)- 0).toNat+1) 0 ([]:List (List UInt8))with
  | .inl r=>r
  | .inr (s12,s3)=>
   MB (gD s3)
 else
  []
def Qx:bG U:=⟨[.d (.st 11)],fun xs es K=> ∃(s:br),xs= [(ur s)]∧es= []∧(s.adds.length≤1000000)∧(s.gone.length≤1000000)∧K (.v (IC (aZ s))) []⟩
theorem Qy:Fk 51 Qx:=by
 refine fo Tryz.f51 [.d (.sl .str)] [] (aa LZ (aa N9 (aa N7 aq))) fun xs es K=>?_;rintro⟨s,rfl,rfl,h1,h2,h⟩;refine⟨rfl,?_⟩;have hf0:=aZ.eq_1 s;refine⟨_,rfl,rfl,(by omega),?_⟩;refine fun _=>?_;refine wN hf0 (fun h1 hf0=>e0) fun h1 hf0=>?_;refine fl (x:=s.adds.length) fun h2=>?_;refine lI (σ:=Int×(List (List UInt8))) 2 (fun(s12,s3)=> [(2,.v ⟨false,[(1,.nils)]⟩),(3,.v (vo 1)),(10,.v (qR s.adds)),(11,.v (vi (s.adds.length:Int))),(12,.v (vi s12))]) (fun(s12,s3)=> [(1,.row 0 .str s3 9)]) (fun(s12,s3)=>((s.adds.length:Int)- s12).toNat) (fun(s12,s3)=>(0≤s12)∧(s12≤(s.adds.length:Int))∧((s3.length:Int)≤s12)∧True) (fun n1 (s12,s3)=>eK s n1 s12 s3) (eK s (((s.adds.length:Int)- 0).toNat+1) 0 ([]:List (List UInt8))) [] ((0:Int),([]:List (List UInt8))) ?_;rintro⟨s12,s3⟩ ⟨n1,hc1,⟨hi1_0,hi1_1,hi1_2,-⟩,hf1⟩;have hf1:=hf1.trans (eK.eq_2 s s12 s3 n1);refine wI hf1 (fun _ hf1=>?_) fun _ hf1=>?_
 ·refine vx s12 s.adds ?_;refine vs (P:=(s3.length+ [(ix s.adds s12).elem].length)*(16:Nat)≤(140737488355328:Nat)) ?_;refine bE ?_;exact nx (s:=(s12,s3)) [] (s12+1,s3++ [(ix s.adds s12).elem]) hc1 hf1
 ·rw[hf1]at hf0;refine⟨_,rfl,rfl,(by omega),?_⟩;refine⟨_,rfl,rfl,?_⟩;exact e0
def fQ(s:bw):Nat→Int→Int⊕(Int)
 |0,s38=> .inr s38
 |n1+1,s38=>
  if s38<(s.puts.length:Int)then
   if(¬(eV (ix s.puts s38)=true))∨(lw s.gone (ix s.puts s38).tag=true)then
    .inl 3
   else
    fQ s n1 (s38+1)
  else
   .inr s38
def ez(s:bw):Int:=
 if(4096<(s.puts.length:Int))∨(4096<(s.gone.length:Int))then
  8
 else
  if((cc (eb s.puts) fun(t:am)=>d7 t)=true)∨((cc s.gone fun(t:am)=>d7 t)=true)then
   2
  else
   if(¬(kC (eb s.puts)=true))∨(¬(kC s.gone=true))then
    3
   else
    match fQ s (((s.puts.length:Int)- 0).toNat+1) 0 with
    | .inl r=>r
    | .inr s38=>
     0
def Qz:bG U:=⟨[.d (.st 12)],fun xs es K=> ∃(s:bw),xs= [(sg s)]∧es= []∧(s.puts.length≤1000000)∧(s.gone.length≤1000000)∧((fun(r0:Int)=>r0=0→s.puts.length≤4096∧s.gone.length≤4096) (ez s)→K (.v (vi (ez s))) [])⟩
theorem L5:Fk 95 Qz:=by
 refine fo Tryz.f95 [.d (.int .i64)] [] (aa Nn (aa Jy (aa Nm (aa O3 (aa Hm (aa Ns aq)))))) fun xs es K=>?_;rintro⟨s,rfl,rfl,h1,h2,h⟩;refine⟨rfl,?_⟩;have hf0:=ez.eq_1 s;refine fl (x:=s.puts.length) fun _=>?_;refine wI hf0 (fun h1 hf0=>?_) fun h1 hf0=>?_
 ·rw[hf0]at h;exact h (by omega)
 ·refine⟨_,rfl,rfl,(by omega),?_⟩;refine⟨fun(t:am)=>d7 t,fun t0=>⟨_,rfl,rfl,rfl,rfl⟩,?_⟩;refine⟨_,_,rfl,rfl,?_⟩;refine⟨_,fun h2=>⟨fun(t:am)=>d7 t,fun t0=>⟨_,rfl,rfl,rfl,rfl⟩,_,_,rfl,rfl,rfl,rfl⟩,rfl,?_⟩;refine wI hf0 (fun _ hf0=>?_) fun _ hf0=>?_
  ·rw[hf0]at h;exact h (by omega)
  ·refine⟨_,rfl,rfl,?_⟩;refine⟨_,fun _=>⟨_,rfl,rfl,rfl,rfl⟩,rfl,?_⟩;refine wI hf0 (fun _ hf0=>?_) fun _ hf0=>?_
   ·rw[hf0]at h;exact h (by omega)
   ·refine fl (x:=s.puts.length) fun _=>?_;refine lI 1 (fun(s38:Int)=> [(1,.v (vp 0)),(2,.v (vi 0)),(36,.v (EL s.puts)),(37,.v (vi (s.puts.length:Int))),(38,.v (vi s38))]) (fun(s38:Int)=> [(0,.cells [(2,.d (.st 12) s)] 41)]) (fun(s38:Int)=>((s.puts.length:Int)- s38).toNat) (fun(s38:Int)=>(0≤s38)∧(s38≤(s.puts.length:Int))∧True) (fun n1 (s38:Int)=>fQ s n1 s38) (fQ s (((s.puts.length:Int)- 0).toNat+1) 0) [] (0:Int) ?_;rintro s38 ⟨n1,hc1,⟨hi1_0,hi1_1,-⟩,hf1⟩;have hf1:=hf1.trans (fQ.eq_2 s s38 n1);refine wI hf1 (fun _ hf1=>?_) fun _ hf1=>?_
    ·refine vx s38 s.puts ?_;refine⟨_,rfl,rfl,?_⟩;refine⟨_,fun _=>⟨_,_,rfl,rfl,(by omega),rfl,rfl⟩,rfl,?_⟩;refine wI hf1 (fun _ hf1=>?_) fun _ hf1=>?_
     ·rw[hf1]at hf0;rw[hf0]at h;exact h (by omega)
     ·refine bE ?_;exact nx [] (s38+1) hc1 hf1
    ·rw[hf1]at hf0;rw[hf0]at h;exact h (by omega)
def mr(p:bk)(gone:List (am)):Bool:=
 lw gone p.tag
def Nx:bG U:=⟨[.d (.st 5),.n],fun xs es K=> ∃(p:bk) (gone:List (am)),xs= [(IT p),⟨false,[(1,.pd (.sl (.st 4)) gone)]⟩]∧es= []∧(gone.length≤1000000)∧K (.v (vb (mr p gone))) []⟩
theorem Ny:Fk 103 Nx:=by
 refine fo Tryz.f103 [.d .bool] [] (aa Hm aq) fun xs es K=>?_;rintro⟨p,gone,rfl,rfl,h2,h⟩;refine⟨rfl,?_⟩;have hf0:=mr.eq_1 p gone;refine⟨_,_,rfl,rfl,(by omega),?_⟩;exact e0
def d4(s:bw)(p:bk):bw×Int:=
 if ez s=0 then
  if d7 p.tag=true then
   (bw.mk [] [],2)
  else
   if eV p=true then
    if(((cT (eb s.puts) p.tag fun(t t':am)=>ak t t').snd)=true)∨(lw s.gone p.tag=true)then
     (bw.mk (gK s).fst (gK s).snd,0)
    else
     if(s.puts.length:Int)=4096 then
      (bw.mk [] [],4)
     else
      (bw.mk (gT (gK s).fst (cT (eb s.puts) p.tag fun(t t':am)=>ak t t').fst [p]) (gK s).snd,0)
   else
    (bw.mk [] [],3)
 else
  (bw.mk [] [],ez s)
def QA:bG U:=⟨[.d (.st 12),.d (.st 5)],fun xs es K=> ∃(s:bw) (p:bk),xs= [(sg s),(IT p)]∧es= []∧(s.puts.length≤1000000)∧(s.gone.length≤1000000)∧((fun(r0:bw) (r1:Int)=>r0.puts.length≤4097∧r0.gone.length≤4097) ((d4 s p).1) ((d4 s p).2)→K (.tup [(sg ((d4 s p).1)),(vi ((d4 s p).2))]) [])⟩
theorem QB:Fk 39 QA:=by
 refine fo Tryz.f39 [.d (.st 12),.d (.int .i64)] [] (aa Nn (aa Ai (aa L5 (aa Nm (aa O3 (aa MX (aa Qp (aa Hm (aa NW aq))))))))) fun xs es K=>?_;rintro⟨s,p,rfl,rfl,h1,h2,h⟩;refine⟨rfl,?_⟩;have hf0:=d4.eq_1 s p;refine⟨_,rfl,rfl,(by omega),(by omega),?_⟩;refine fun _=>?_;refine wN hf0 (fun h1 hf0=>?_) fun h1 hf0=>?_
 ·rw[hf0]at h;exact h (by simp)
 ·refine⟨_,rfl,rfl,?_⟩;refine wI hf0 (fun h2 hf0=>?_) fun h2 hf0=>?_
  ·rw[hf0]at h;exact h (by simp)
  ·refine⟨_,rfl,rfl,?_⟩;refine wN hf0 (fun _ hf0=>?_) fun _ hf0=>?_
   ·rw[hf0]at h;exact h (by simp)
   ·refine dp [(true,0),(true,1),(true,3),(true,4),(false,2),(false,5),(true,6),(true,7),(true,8),(true,9),(true,10)] none (nw 3) ?_;refine⟨_,rfl,rfl,(by omega),?_⟩;refine⟨fun(t t':am)=>ak t t',fun t0 t1=>⟨_,_,rfl,rfl,rfl,rfl⟩,?_⟩;refine⟨_,_,_,rfl,rfl,(by(have hg:=qt s.puts;omega)),?_⟩;refine⟨_,rfl,rfl,(by omega),(by omega),?_⟩;refine⟨_,fun _=>⟨_,_,rfl,rfl,(by omega),rfl,rfl⟩,rfl,?_⟩;refine wI hf0 (fun _ hf0=>?_) fun _ hf0=>?_
    ·rw[hf0]at h;exact h (by(have e:gK s=(s.puts,s.gone):=rfl;simp only[e];omega))
    ·refine fl (x:=s.puts.length) fun _=>?_;refine wI hf0 (fun _ hf0=>?_) fun _ hf0=>?_
     ·rw[hf0]at h;exact h (by simp)
     ·refine⟨_,_,_,rfl,rfl,((tu _ _ _).1),(show(cT (eb s.puts) p.tag fun(t t':am)=>ak t t').fst≤(↑(gK s).fst.length:Int)from by(have hg:=qt s.puts;have h8:=(tu (eb s.puts) p.tag (fun t t1=>ak t t1)).2;have h9:(gK s).1=s.puts:=rfl;rw[h9];omega)),(by assumption),?_⟩;rw[hf0]at h;exact h (by(have e:gK s=(s.puts,s.gone):=rfl;dsimp only;rw[tt,e];simp only[List.length_cons,List.length_nil];omega))
def fc(s:bw)(l:List am):bw×Int:=
 if ez s=0 then
  if 4096<(l.length:Int)then
   (bw.mk [] [],8)
  else
   if(cc l fun(t:am)=>d7 t)=true then
    (bw.mk [] [],2)
   else
    if 4096<((dd (bl (fun(t t':am)=>ak t t') (s.gone++l))).length:Int)then
     (bw.mk [] [],4)
    else
     (bw.mk (List.filter (fun(x:bk)=>!mr x (dd (bl (fun(t t':am)=>ak t t') (s.gone++l)))) s.puts) (dd (bl (fun(t t':am)=>ak t t') (s.gone++l))),0)
 else
  (bw.mk [] [],ez s)
def QC:bG U:=⟨[.d (.st 12),.d (.sl (.st 4))],fun xs es K=> ∃(s:bw) (l:List am),xs= [(sg s),(nV l)]∧es= []∧(s.puts.length≤1000000)∧(s.gone.length≤900000)∧((fun(r0:bw) (r1:Int)=>r0.puts.length≤4097∧r0.gone.length≤4097) ((fc s l).1) ((fc s l).2)→K (.tup [(sg ((fc s l).1)),(vi ((fc s l).2))]) [])⟩
theorem QD:Fk 40 QC:=by
 refine fo Tryz.f40 [.d (.st 12),.d (.int .i64)] [] (aa Jy (aa Ai (aa L8 (aa O7 (aa Pa (aa O9 (aa L5 (aa Nm (aa JS (aa Ny aq)))))))))) fun xs es K=>?_;rintro⟨s,l,rfl,rfl,h1,h2,h⟩;refine⟨rfl,?_⟩;have hf0:=fc.eq_1 s l;refine⟨_,rfl,rfl,(by omega),(by omega),?_⟩;refine fun _=>?_;refine wN hf0 (fun h1 hf0=>?_) fun h1 hf0=>?_
 ·rw[hf0]at h;exact h (by simp)
 ·refine fl (x:=l.length) fun h2=>?_;refine wI hf0 (fun _ hf0=>?_) fun _ hf0=>?_
  ·rw[hf0]at h;exact h (by simp)
  ·refine⟨fun(t:am)=>d7 t,fun t0=>⟨_,rfl,rfl,rfl,rfl⟩,?_⟩;refine⟨_,_,rfl,rfl,?_⟩;refine wI hf0 (fun _ hf0=>?_) fun _ hf0=>?_
   ·rw[hf0]at h;exact h (by simp)
   ·refine⟨_,_,rfl,rfl,(show s.gone.length≤(1000000:Nat)from by omega),(show l.length≤(1000000:Nat)from by omega),?_⟩;refine⟨fun(t t':am)=>ak t t',fun t0 t1=>⟨_,_,rfl,rfl,rfl,rfl⟩,?_⟩;refine⟨_,_,rfl,rfl,(o5 _),(show(s.gone++l).length<(4611686018427387904:Nat)from by(simp only[List.length_append,List.length_cons,List.length_nil];omega)),?_⟩;refine⟨_,rfl,rfl,?_⟩;refine fl (x:=(dd (bl (fun(t t':am)=>ak t t') (s.gone++l))).length) fun _=>?_;refine wI hf0 (fun h6 hf0=>?_) fun h6 hf0=>?_
    ·rw[hf0]at h;exact h (by simp)
    ·refine⟨_,rfl,rfl,(by assumption),?_⟩;refine⟨fun(t:bk)=>mr t (dd (bl (fun(t t':am)=>ak t t') (s.gone++l))),fun t0=>⟨_,_,rfl,rfl,(Nat.le_trans (Int.ofNat_le.1 (Int.not_lt.1 h6)) (show(4096:Nat)≤1000000 by decide)),rfl,rfl⟩,?_⟩;refine⟨_,_,rfl,rfl,?_⟩;rw[hf0]at h;exact h (by(dsimp only;exact⟨Nat.le_trans (List.length_filter_le _ _) (by omega),Nat.le_trans (Int.ofNat_le.1 (Int.not_lt.1 h6)) (by decide)⟩))
end Go.Proofs.YtmpeiadlohbikaaGreatDoor.V
end

section
set_option linter.unusedVariables false
set_option linter.unusedSimpArgs false
set_option maxRecDepth 20000
set_option maxHeartbeats 4000000
namespace Go.Proofs.YtmpeiadlohbikaaGreatDoor.V
open Go.RowKit
theorem dm(s:aG):aM s=s:=rfl
def az(o:gG):gG:=
 gG.mk o.act o.name o.val
def c9:bG U:=⟨[.d (.st 1)],fun xs es K=> ∃(o:gG),xs= [(LO o)]∧es= []∧K (.v (LO (az o))) []⟩
theorem k9:Fk 9 c9:=by
 refine fo Tryz.f9 [.d (.st 1)] [] (aq) fun xs es K=>?_;rintro⟨o,rfl,rfl,h⟩;refine⟨rfl,?_⟩;have hf0:=az.eq_1 o;exact e0
def fC(v:be):Nat→Int→(List aF)→be⊕(Int×(List aF))
 |0,s4,e3=> .inr (s4,e3)
 |n1+1,s4,e3=>
  if s4<(v.items.length:Int)then
   fC v n1 (s4+1) (e3++ [aF.mk (ix v.items s4).field (ix v.items s4).val])
  else
   .inr (s4,e3)
def aX(v:be):be:=
 match fC v (((v.items.length:Int)- 0).toNat+1) 0 ([]:List aF)with
 | .inl r=>r
 | .inr (s4,e3)=>
  be.mk v.kind v.val e3
def QE:bG U:=⟨[.d (.st 7)],fun xs es K=> ∃(v:be),xs= [(IQ v)]∧es= []∧(v.items.length≤1000000)∧K (.v (IQ (aX v))) []⟩
theorem Aj:Fk 15 QE:=by
 refine fo Tryz.f15 [.d (.st 7)] [] (aq) fun xs es K=>?_;rintro⟨v,rfl,rfl,h1,h⟩;refine⟨rfl,?_⟩;have hf0:=aX.eq_1 v;refine⟨Int×(List aF),4,fun(s4,e3)=> [(1,.v ⟨false,[(1,.ptr 0 0)]⟩),(2,.v ⟨false,[(1,.ptr 1 0)]⟩),(3,.v ⟨false,[(1,.ptr 2 0)]⟩),(4,.v ⟨false,[(1,.d (.int .i64) s4)]⟩)],fun(s4,e3)=> [(0,.cells [(3,.d (.st 7) v)] 75),(1,.cells [(1,.d (.int .i64) (0:Int)),(1,.d (.int .i64) (0:Int)),(1,.nils)] 81),(2,.cells [(1,.d (.int .i64) v.kind),(1,.d (.int .i64) v.val),(1,.own 3 0)] 81),(3,.row 0 (.st 6) e3 149)],cY (fun(s4,e3)=>((↑v.items.length:Int)- s4).toNat) (fun(s4,e3)=>((0:Int)≤s4)∧(s4≤(↑v.items.length:Int))∧((e3.length:Int)≤s4)∧True) (fun n1 (s4,e3)=>fC v n1 s4 e3) (fC v (((↑v.items.length:Int)-(0:Int)).toNat+1) (0:Int) ([]:List aF)),fun(s4,e3)=>((↑v.items.length:Int)- s4).toNat,⟨[],((0:Int),([]:List aF)),cY.mk0 _ (Nat.lt_succ_self _) ⟨show(0:Int)≤(0:Int)from by omega,show(0:Int)≤(↑v.items.length:Int)from by omega,show(↑[].length:Int)≤(0:Int)from by(simp only[List.length_append,List.length_cons,List.length_nil];omega),trivial⟩ rfl,?_⟩,?_⟩
 ·repeat (first|exact trivial|refine And.intro rfl ?_)
 ·rintro⟨s4,e3⟩ ⟨n1,hc1,⟨hi1_0,hi1_1,hi1_2,-⟩,hf1⟩;have hf1:=hf1.trans (fC.eq_2 v s4 e3 n1);refine fun h0=>?_;have h0:(↑v.items.length:Int)≤(9223372036854775807:Int):=h0.2;refine vI hf1 iD (fun h1 hf1=>?_) (fun h1 hf1=>?_)
  ·refine .inl ⟨[(true,0),(true,1),(true,2),(true,3),(true,4),(true,5),(true,6),(true,7),(true,8),(true,9),(true,10),(true,11),(true,12),(true,13),(true,14),(false,15),(false,16),(true,17)],some 18,[3,4,5,6,7,8,9,10,11,12,13,14,15],by kernel_rfl,?_⟩;refine And.intro (show(0:Int)≤s4∧s4<(↑v.items.length:Int)from by omega) ?_;refine And.intro (show(0:Int)≤s4∧s4<(↑v.items.length:Int)from by omega) ?_;refine And.intro (show(e3.length+ [aF.mk (ix v.items s4).field (ix v.items s4).val].length)*(24:Nat)≤(140737488355328:Nat)from by(simp only[List.length_append,List.length_cons,List.length_nil];omega)) ?_;refine .inl (And.intro (qU (p:=s4) (q:=(1:Int)) (r:=s4+(1:Int)) (by omega)) ?_);have hm1:((↑v.items.length:Int)-(s4+(1:Int))).toNat<((↑v.items.length:Int)- s4).toNat:=by omega
   refine⟨[],(s4+(1:Int),e3++ [aF.mk (ix v.items s4).field (ix v.items s4).val]),hm1,cY.next (s:=(s4,e3)) hc1 hm1 ⟨show(0:Int)≤s4+(1:Int)from by omega,show s4+(1:Int)≤(↑v.items.length:Int)from by omega,show(↑(e3++ [aF.mk (ix v.items s4).field (ix v.items s4).val]).length:Int)≤s4+(1:Int)from by(simp only[List.length_append,List.length_cons,List.length_nil];omega),trivial⟩ hf1,?_⟩;repeat (first|exact trivial|refine And.intro rfl ?_)
  ·rw[hf1]at hf0;rw[hf0]at h;exact h
def ae(s:aG)(e:ax):aG×Int:=
 if d6 e=0 then
  if cy e.act=s.kind then
   if e.act=1 then
    if(eS (aM s).reg e.val e.at_).snd=0 then
     (aG.mk (aM s).kind (eS (aM s).reg e.val e.at_).fst (aM s).num (aM s).set (aM s).map,0)
    else
     (aG.mk 0 (bT.mk 0 (aj.mk 0 0)) (ci.mk 0 0) (br.mk [] []) (bw.mk [] []),(eS (aM s).reg e.val e.at_).snd)
   else
    if e.act=2 then
     if(eU (aM s).num e.val).snd=0 then
      (aG.mk (aM s).kind (aM s).reg (eU (aM s).num e.val).fst (aM s).set (aM s).map,0)
     else
      (aG.mk 0 (bT.mk 0 (aj.mk 0 0)) (ci.mk 0 0) (br.mk [] []) (bw.mk [] []),(eU (aM s).num e.val).snd)
    else
     if e.act=3 then
      if(gJ (aM s).set (bD.mk e.tag e.name)).snd=0 then
       (aG.mk (aM s).kind (aM s).reg (aM s).num (gJ (aM s).set (bD.mk e.tag e.name)).fst (aM s).map,0)
      else
       (aG.mk 0 (bT.mk 0 (aj.mk 0 0)) (ci.mk 0 0) (br.mk [] []) (bw.mk [] []),(gJ (aM s).set (bD.mk e.tag e.name)).snd)
     else
      if e.act=4 then
       if(fb (aM s).set e.tags).snd=0 then
        (aG.mk (aM s).kind (aM s).reg (aM s).num (fb (aM s).set e.tags).fst (aM s).map,0)
       else
        (aG.mk 0 (bT.mk 0 (aj.mk 0 0)) (ci.mk 0 0) (br.mk [] []) (bw.mk [] []),(fb (aM s).set e.tags).snd)
      else
       if e.act=5 then
        if(d4 (aM s).map (bk.mk e.tag e.name e.val e.at_)).snd=0 then
         (aG.mk (aM s).kind (aM s).reg (aM s).num (aM s).set (d4 (aM s).map (bk.mk e.tag e.name e.val e.at_)).fst,0)
        else
         (aG.mk 0 (bT.mk 0 (aj.mk 0 0)) (ci.mk 0 0) (br.mk [] []) (bw.mk [] []),(d4 (aM s).map (bk.mk e.tag e.name e.val e.at_)).snd)
       else
        if e.act=6 then
         if(fc (aM s).map e.tags).snd=0 then
          (aG.mk (aM s).kind (aM s).reg (aM s).num (aM s).set (fc (aM s).map e.tags).fst,0)
         else
          (aG.mk 0 (bT.mk 0 (aj.mk 0 0)) (ci.mk 0 0) (br.mk [] []) (bw.mk [] []),(fc (aM s).map e.tags).snd)
        else
         (aM s,0)
  else
   (aG.mk 0 (bT.mk 0 (aj.mk 0 0)) (ci.mk 0 0) (br.mk [] []) (bw.mk [] []),5)
 else
  (aG.mk 0 (bT.mk 0 (aj.mk 0 0)) (ci.mk 0 0) (br.mk [] []) (bw.mk [] []),d6 e)
def QF:bG U:=⟨[.d (.st 15),.d (.st 16)],fun xs es K=> ∃(s:aG) (e:ax),xs= [(vM s),(IB e)]∧es= []∧(s.set.adds.length≤4097)∧(s.set.gone.length≤4097)∧(s.map.puts.length≤4097)∧(s.map.gone.length≤4097)∧((fun(r0:aG) (r1:Int)=>r0.set.adds.length≤4097∧r0.set.gone.length≤4097∧r0.map.puts.length≤4097∧r0.map.gone.length≤4097) ((ae s e).1) ((ae s e).2)→K (.tup [(vM ((ae s e).1)),(vi ((ae s e).2))]) [])⟩
theorem uV:Fk 10 QF:=by
 refine fo Tryz.f10 [.d (.st 15),.d (.int .i64)] [] (aa IJ (aa Qm (aa Qi (aa P6 (aa Qd (aa PX (aa Qw (aa QB (aa QD aq))))))))) fun xs es K=>?_;rintro⟨s,e,rfl,rfl,h1,h2,h3,h4,h⟩;refine⟨rfl,?_⟩;have hf0:=ae.eq_1 s e;refine⟨_,rfl,rfl,?_⟩;refine fun _=>?_;refine wN hf0 (fun h1 hf0=>?_) fun h1 hf0=>?_
 ·rw[hf0]at h;exact h (by simp)
 ·refine dp [(true,0),(true,1),(true,3),(true,4),(false,2),(true,5)] none (nw 3) ?_;refine⟨_,rfl,rfl,?_⟩;refine wN hf0 (fun h2 hf0=>?_) fun h2 hf0=>?_
  ·rw[hf0]at h;exact h (by simp)
  ·refine⟨_,rfl,rfl,(by omega),(by omega),(by omega),(by omega),?_⟩;refine wI hf0 (fun h3 hf0=>?_) fun h3 hf0=>?_
   ·refine⟨_,_,_,rfl,rfl,?_⟩;refine wN hf0 (fun h4 hf0=>?_) fun h4 hf0=>?_
    ·rw[hf0]at h;exact h (by simp)
    ·rw[hf0]at h;exact h (by(simp only[dm]at*;omega))
   ·refine wI hf0 (fun _ hf0=>?_) fun _ hf0=>?_
    ·refine⟨_,_,rfl,rfl,?_⟩;refine wN hf0 (fun _ hf0=>?_) fun _ hf0=>?_
     ·rw[hf0]at h;exact h (by simp)
     ·rw[hf0]at h;exact h (by(simp only[dm]at*;omega))
    ·refine wI hf0 (fun _ hf0=>?_) fun _ hf0=>?_
     ·refine⟨_,_,rfl,rfl,(by(rw[dm s];omega)),(by(rw[dm s];omega)),?_⟩;refine fun _=>?_;refine wN hf0 (fun _ hf0=>?_) fun _ hf0=>?_
      ·rw[hf0]at h;exact h (by simp)
      ·rw[hf0]at h;exact h (by(simp only[dm]at*;omega))
     ·refine wI hf0 (fun _ hf0=>?_) fun _ hf0=>?_
      ·refine⟨_,_,rfl,rfl,(by(rw[dm s];omega)),(by(rw[dm s];omega)),?_⟩;refine fun _=>?_;refine wN hf0 (fun _ hf0=>?_) fun _ hf0=>?_
       ·rw[hf0]at h;exact h (by simp)
       ·rw[hf0]at h;exact h (by(simp only[dm]at*;omega))
      ·refine wI hf0 (fun _ hf0=>?_) fun _ hf0=>?_
       ·refine⟨_,_,rfl,rfl,(by(rw[dm s];omega)),(by(rw[dm s];omega)),?_⟩;refine fun _=>?_;refine wN hf0 (fun _ hf0=>?_) fun _ hf0=>?_
        ·rw[hf0]at h;exact h (by simp)
        ·rw[hf0]at h;exact h (by(simp only[dm]at*;omega))
       ·refine wI hf0 (fun _ hf0=>?_) fun _ hf0=>?_
        ·refine⟨_,_,rfl,rfl,(by(rw[dm s];omega)),(by(rw[dm s];omega)),?_⟩;refine fun _=>?_;refine wN hf0 (fun _ hf0=>?_) fun _ hf0=>?_
         ·rw[hf0]at h;exact h (by simp)
         ·rw[hf0]at h;exact h (by(simp only[dm]at*;omega))
        ·refine vF iD (by omega) ?_;rw[hf0]at h;exact h (show((fun(r0:aG) (r1:Int)=>r0.set.adds.length≤4097∧r0.set.gone.length≤4097∧r0.map.puts.length≤4097∧r0.map.gone.length≤4097) (aM s) (0:Int):Prop)from by(rw[dm s];omega))
def gx(s:br)(elem:List UInt8):Nat→Int→(List am)→(List am)⊕(Int×(List am))
 |0,s14,s5=> .inr (s14,s5)
 |n1+1,s14,s5=>
  if s14<(s.adds.length:Int)then
   if(ix s.adds s14).elem=elem then
    gx s elem n1 (s14+1) (s5++ [(ix s.adds s14).tag])
   else
    gx s elem n1 (s14+1) s5
  else
   .inr (s14,s5)
def jx(s:br)(elem:List UInt8):List am:=
 if ew s=0 then
  match gx s elem (((s.adds.length:Int)- 0).toNat+1) 0 ([]:List am)with
  | .inl r=>r
  | .inr (s14,s5)=>
   s5
 else
  []
def QG:bG U:=⟨[.d (.st 11),.d .str],fun xs es K=> ∃(s:br) (elem:List UInt8),xs= [(ur s),(vt elem)]∧es= []∧(s.adds.length≤1000000)∧(s.gone.length≤1000000)∧((fun(r0:List am)=>r0.length≤4096) (jx s elem)→K (.v (nV (jx s elem))) [])⟩
theorem O4:Fk 31 QG:=by
 refine fo Tryz.f31 [.d (.sl (.st 4))] [] (aa LZ aq) fun xs es K=>?_;rintro⟨s,elem,rfl,rfl,h1,h2,h⟩;refine⟨rfl,?_⟩;have hf0:=jx.eq_1 s elem;refine⟨_,rfl,rfl,(by omega),?_⟩;refine fun _=>?_;refine wN hf0 (fun h1 hf0=>?_) fun h1 hf0=>?_
 ·rw[hf0]at h;exact h (by simp)
 ·refine fl (x:=s.adds.length) fun h2=>?_;refine lI (σ:=Int×(List am)) 2 (fun(s14,s5)=> [(1,.v (vt elem)),(4,.v ⟨false,[(1,.nils)]⟩),(5,.v (vo 1)),(12,.v (qR s.adds)),(13,.v (vi (s.adds.length:Int))),(14,.v (vi s14))]) (fun(s14,s5)=> [(1,.row 0 (.st 4) s5 61)]) (fun(s14,s5)=>((s.adds.length:Int)- s14).toNat) (fun(s14,s5)=>(0≤s14)∧(s14≤(s.adds.length:Int))∧((s5.length:Int)≤s14)∧True) (fun n1 (s14,s5)=>gx s elem n1 s14 s5) (gx s elem (((s.adds.length:Int)- 0).toNat+1) 0 ([]:List am)) [] ((0:Int),([]:List am)) ?_;rintro⟨s14,s5⟩ ⟨n1,hc1,⟨hi1_0,hi1_1,hi1_2,-⟩,hf1⟩;have hf1:=hf1.trans (gx.eq_2 s elem s14 s5 n1);refine wI hf1 (fun _ hf1=>?_) fun _ hf1=>?_
  ·refine vx s14 s.adds ?_;refine wI hf1 (fun _ hf1=>?_) fun _ hf1=>?_
   ·refine vs (P:=(s5.length+ [(ix s.adds s14).tag].length)*(24:Nat)≤(140737488355328:Nat)) ?_;refine bE ?_;exact nx (s:=(s14,s5)) [] (s14+1,s5++ [(ix s.adds s14).tag]) hc1 hf1
   ·refine bE ?_;exact nx (s:=(s14,s5)) [] (s14+1,s5) hc1 hf1
  ·rw[hf1]at hf0;rw[hf0]at h;exact h (show((fun(r0:List am)=>r0.length≤4096) s5:Prop)from by omega)
def ly(p:bk)(field:List UInt8):Bool:=
 decide ¬p.field=field
def Nz:bG U:=⟨[.d (.st 5),.n],fun xs es K=> ∃(p:bk) (field:List UInt8),xs= [(IT p),⟨false,[(1,.pd .str field)]⟩]∧es= []∧K (.v (vb (ly p field))) []⟩
theorem NA:Fk 148 Nz:=by
 refine fo Tryz.f148 [.d .bool] [] (aq) fun xs es K=>?_;rintro⟨p,field,rfl,rfl,h⟩;refine⟨rfl,?_⟩;have hf0:=ly.eq_1 p field;exact e0
def tx(s:bw)(field:List UInt8):List bk:=
 if ez s=0 then
  List.filter (fun(x:bk)=>!ly x field) s.puts
 else
  []
def QH:bG U:=⟨[.d (.st 12),.d .str],fun xs es K=> ∃(s:bw) (field:List UInt8),xs= [(sg s),(vt field)]∧es= []∧(s.puts.length≤1000000)∧(s.gone.length≤1000000)∧((fun(r0:List bk)=>r0.length≤4096) (tx s field)→K (.v (EL (tx s field))) [])⟩
theorem QI:Fk 75 QH:=by
 refine fo Tryz.f75 [.d (.sl (.st 5))] [] (aa L8 (aa L5 (aa JS (aa NA aq)))) fun xs es K=>?_;rintro⟨s,field,rfl,rfl,h1,h2,h⟩;refine⟨rfl,?_⟩;have hf0:=tx.eq_1 s field;refine⟨_,rfl,rfl,(by omega),(by omega),?_⟩;refine fun _=>?_;refine wN hf0 (fun h1 hf0=>?_) fun h1 hf0=>?_
 ·rw[hf0]at h;exact h (by simp)
 ·refine⟨_,rfl,rfl,(by assumption),?_⟩;refine⟨fun(t:bk)=>ly t field,fun t0=>⟨_,_,rfl,rfl,rfl,rfl⟩,?_⟩;refine⟨_,_,rfl,rfl,?_⟩;rw[hf0]at h;exact h (show((fun(r0:List bk)=>r0.length≤4096) (List.filter (fun(x:bk)=>!ly x field) s.puts):Prop)from by(have hl:=List.length_filter_le (fun(x:bk)=>!ly x field) s.puts;dsimp only;omega))
def g5(s:bw)(field:List UInt8):List am:=
 eb (tx s field)
def QJ:bG U:=⟨[.d (.st 12),.d .str],fun xs es K=> ∃(s:bw) (field:List UInt8),xs= [(sg s),(vt field)]∧es= []∧(s.puts.length≤1000000)∧(s.gone.length≤1000000)∧K (.v (nV (g5 s field))) []⟩
theorem NB:Fk 32 QJ:=by
 refine fo Tryz.f32 [.d (.sl (.st 4))] [] (aa Nn (aa QI aq)) fun xs es K=>?_;rintro⟨s,field,rfl,rfl,h1,h2,h⟩;refine⟨rfl,?_⟩;have hf0:=g5.eq_1 s field;refine⟨_,_,rfl,rfl,(by omega),(by omega),?_⟩;refine fun _=>?_;refine⟨_,rfl,rfl,(by omega),?_⟩;exact e0
def af(s:aG)(o:gG)(tag:am)(tm:aj):ax×Int:=
 if bv o=0 then
  if cy o.act=s.kind then
   if ch tag=true then
    (ax.mk 0 [] 0 (am.mk (bF.mk 0 0) 0) (aj.mk 0 0) [],2)
   else
    if d5 tm=true then
     if o.act=1 then
      (ax.mk o.act o.name o.val tag tm [],0)
     else
      if o.act=5 then
       (ax.mk o.act o.name o.val tag tm [],0)
      else
       if o.act=4 then
        (ax.mk o.act o.name o.val tag (aj.mk 0 0) (jx s.set o.name),0)
       else
        if o.act=6 then
         (ax.mk o.act o.name o.val tag (aj.mk 0 0) (g5 s.map o.name),0)
        else
         (ax.mk o.act o.name o.val tag (aj.mk 0 0) [],0)
    else
     (ax.mk 0 [] 0 (am.mk (bF.mk 0 0) 0) (aj.mk 0 0) [],3)
  else
   (ax.mk 0 [] 0 (am.mk (bF.mk 0 0) 0) (aj.mk 0 0) [],5)
 else
  (ax.mk 0 [] 0 (am.mk (bF.mk 0 0) 0) (aj.mk 0 0) [],bv o)
def c8:bG U:=⟨[.d (.st 15),.d (.st 1),.d (.st 4),.d (.st 2)],fun xs es K=> ∃(s:aG) (o:gG) (tag:am) (tm:aj),xs= [(vM s),(LO o),(yA tag),(IS tm)]∧es= []∧(s.set.adds.length≤900000)∧(s.set.gone.length≤900000)∧(s.map.puts.length≤900000)∧(s.map.gone.length≤900000)∧K (.tup [(IB ((af s o tag tm).1)),(vi ((af s o tag tm).2))]) []⟩
theorem k8:Fk 8 c8:=by
 refine fo Tryz.f8 [.d (.st 16),.d (.int .i64)] [] (aa JA (aa IJ (aa L0 (aa L4 (aa O4 (aa NB aq)))))) fun xs es K=>?_;rintro⟨s,o,tag,tm,rfl,rfl,h1,h2,h3,h4,h⟩;refine⟨rfl,?_⟩;have hf0:=af.eq_1 s o tag tm;refine⟨_,rfl,rfl,?_⟩;refine wN hf0 (fun _ hf0=>e0) fun _ hf0=>?_;refine dp [(true,0),(true,1),(true,3),(true,4),(false,2),(true,5),(true,6)] none (nw 5) ?_;refine⟨_,rfl,rfl,?_⟩;refine wN hf0 (fun h1 hf0=>e0) fun h1 hf0=>?_;refine⟨_,rfl,rfl,?_⟩;refine wI hf0 (fun h2 hf0=>e0) fun h2 hf0=>?_;refine⟨_,rfl,rfl,?_⟩;refine wN hf0 (fun h3 hf0=>e0) fun h3 hf0=>?_;refine wI hf0 (fun h4 hf0=>?_) fun h4 hf0=>?_
 ·refine vT iD (by omega) ?_;exact e0
 ·refine wI hf0 (fun _ hf0=>e0) fun _ hf0=>?_;refine wI hf0 (fun _ hf0=>?_) fun _ hf0=>?_
  ·refine⟨_,_,rfl,rfl,(by omega),(by omega),?_⟩;refine fun _=>?_;exact e0
  ·refine wI hf0 (fun _ hf0=>?_) fun _ hf0=>e0;refine⟨_,_,rfl,rfl,(by omega),(by omega),?_⟩;exact e0
end Go.Proofs.YtmpeiadlohbikaaGreatDoor.V
end

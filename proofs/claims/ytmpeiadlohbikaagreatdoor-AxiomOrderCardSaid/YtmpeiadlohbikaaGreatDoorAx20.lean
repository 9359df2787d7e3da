/- Functions walked: printed by the walker. -/
import Derived.Test.YtmpeiadlohbikaaGreatDoorAx19
import Derived.Test.YtmpeiadlohbikaaGreatDoorAx18
section
set_option linter.unusedVariables false
set_option linter.unusedSimpArgs false
set_option maxRecDepth 20000
set_option maxHeartbeats 4000000
namespace Go.Proofs.YtmpeiadlohbikaaGreatDoor.V
open Go.RowKit
def e8(v:List Int):Nat→Int→Int⊕(Int)
 |0,s6=> .inr s6
 |n1+1,s6=>
  if s6<8 then
   if 1048576<ix v s6 then
    .inl 2
   else
    e8 v n1 (s6+1)
  else
   .inr s6
def gL(v:List Int):Int:=
 match e8 v (((8:Int)-(0:Int)).toNat+1) (0:Int)with
 | .inl r=>r
 | .inr s6=>
  0
def JO:aW U:=⟨[.d (.arr 8 (.int .u32))],fun xs es K=> ∃(v:List Int),xs= [(iy v)]∧es= []∧K (.v (vi (gL v))) []⟩
theorem NR:Fk 134 JO:=by
 refine fo Tryz.f134 [.d (.int .i64)] [] (ae) fun xs es K=>?_;rintro⟨v,rfl,rfl,h⟩;refine⟨rfl,?_⟩;have hf0:=gL.eq_1 v;refine lI 1 (fun(s6:Int)=> [(2,.v (vi 0)),(5,.v (iy v)),(6,.v (vi s6))]) (fun(s6:Int)=> []) (fun(s6:Int)=>(8 - s6).toNat) (fun(s6:Int)=>(0≤s6)∧(s6≤8)∧True) (fun n1 (s6:Int)=>e8 v n1 s6) (e8 v (((8:Int)-(0:Int)).toNat+1) (0:Int)) [] (0:Int) ?_;rintro s6 ⟨n1,hc1,⟨hi1_0,hi1_1,-⟩,hf1⟩;have hf1:=hf1.trans (e8.eq_2 v s6 n1);refine wI hf1 (fun _ hf1=>?_) fun _ hf1=>e1;refine vs (P:=0≤s6∧s6<((8:Nat):Int)) ?_;refine wI hf1 (fun _ hf1=>e1) fun _ hf1=>?_;refine fZ ?_;exact nx [] (s6+1) hc1 hf1
def jU(b:List Int):Nat→Int→(List Int)→(List Int)⊕(Int×(List Int))
 |0,s8,s2_0=> .inr (s8,s2_0)
 |n1+1,s8,s2_0=>
  if s8<8 then
   jU b n1 (s8+1) (s2_0.set s8.toNat (max (ix s2_0 s8) (ix b s8)))
  else
   .inr (s8,s2_0)
def oe(a:List Int)(b:List Int):List Int:=
 match jU b (((8:Int)-(0:Int)).toNat+1) (0:Int) a with
 | .inl r=>r
 | .inr (s8,s2_0)=>
  s2_0
def NS:aW U:=⟨[.d (.arr 8 (.int .u32)),.d (.arr 8 (.int .u32))],fun xs es K=> ∃(a:List Int) (b:List Int),xs= [(iy a),(iy b)]∧es= []∧K (.v (iy (oe a b))) []⟩
theorem NT:Fk 124 NS:=by
 refine fo Tryz.f124 [.d (.arr 8 (.int .u32))] [] (ae) fun xs es K=>?_;rintro⟨a,b,rfl,rfl,h⟩;refine⟨rfl,?_⟩;have hf0:=oe.eq_1 a b;refine⟨Int×(List Int),3,fun(s8,s2_0)=> [(2,.v ⟨false,[(1,.ptr 0 0)]⟩),(4,.v ⟨false,[(1,.ptr 2 0)]⟩),(7,.v ⟨true,[(8,.d (.arr 8 (.int .u32)) b)]⟩),(8,.v ⟨false,[(1,.d (.int .i64) s8)]⟩)],fun(s8,s2_0)=> [(0,.cells [(8,.d (.arr 8 (.int .u32)) s2_0)] 45),(2,.cells [(1,.d (.int .u32) (0:Int)),(1,.d (.int .u32) (0:Int)),(1,.d (.int .u32) (0:Int)),(1,.d (.int .u32) (0:Int)),(1,.d (.int .u32) (0:Int)),(1,.d (.int .u32) (0:Int)),(1,.d (.int .u32) (0:Int)),(1,.d (.int .u32) (0:Int))] 45)],aS (fun(s8,s2_0)=>((8:Int)- s8).toNat) (fun(s8,s2_0)=>((0:Int)≤s8)∧(s8≤(8:Int))∧True) (fun n1 (s8,s2_0)=>jU b n1 s8 s2_0) (jU b (((8:Int)-(0:Int)).toNat+1) (0:Int) a),fun(s8,s2_0)=>((8:Int)- s8).toNat,⟨[],((0:Int),a),aS.mk0 _ (Nat.lt_succ_self _) ⟨show(0:Int)≤(0:Int)from by omega,show(0:Int)≤(8:Int)from by omega,trivial⟩ rfl,?_⟩,?_⟩
 ·repeat (first|exact trivial|refine And.intro rfl ?_)
 ·rintro⟨s8,s2_0⟩ ⟨n1,hc1,⟨hi1_0,hi1_1,-⟩,hf1⟩;have hf1:=hf1.trans (jU.eq_2 b s8 s2_0 n1);refine vI hf1 iD (fun _ hf1=>?_) (fun _ hf1=>?_)
  ·refine And.intro (show(0:Int)≤s8∧s8<(↑(8:Nat):Int)from by omega) ?_;refine .inl ?_;refine And.intro (show(0:Int)≤s8∧s8<(↑(8:Nat):Int)from by omega) ?_;refine .inl ?_;refine And.intro (show(0:Int)≤s8∧s8<(↑(8:Nat):Int)from by omega) ?_;refine .inl (And.intro (i6 (p:=s8) (q:=(1:Int)) (r:=s8+(1:Int)) (by omega)) ?_);have hm1:((8:Int)-(s8+(1:Int))).toNat<((8:Int)- s8).toNat:=by omega
   refine⟨[],(s8+(1:Int),s2_0.set s8.toNat (max (ix s2_0 s8) (ix b s8))),hm1,aS.next (s:=(s8,s2_0)) hc1 hm1 ⟨show(0:Int)≤s8+(1:Int)from by omega,show s8+(1:Int)≤(8:Int)from by omega,trivial⟩ hf1,?_⟩;repeat (first|exact trivial|refine And.intro rfl ?_)
  ·rw[hf1]at hf0;rw[hf0]at h;exact h
def iG(a:List Int)(b:List Int):Bool:=
 decide (oe a b=b)
def MG:aW U:=⟨[.d (.arr 8 (.int .u32)),.d (.arr 8 (.int .u32))],fun xs es K=> ∃(a:List Int) (b:List Int),xs= [(iy a),(iy b)]∧es= []∧K (.v (vb (iG a b))) []⟩
theorem MH:Fk 56 MG:=by
 refine fo Tryz.f56 [.d .bool] [] (aa NT ae) fun xs es K=>?_;rintro⟨a,b,rfl,rfl,h⟩;refine⟨rfl,?_⟩;have hf0:=iG.eq_1 a b;refine dp [(true,0),(true,1),(true,3),(false,2),(true,4),(true,5)] none (nw 2) ?_;refine⟨_,_,rfl,rfl,?_⟩;exact e0
theorem kE{id:bD}(h:dm id=0):0≤id.origin∧id.origin≤7∧id.seq≤1048576:=by
 unfold dm at h;split at h
 ·cases h
 ·omega
def fT(v:List Int)(id:bD):Bool:=
 decide (dm id=0)&&decide (id.seq≤ix v id.origin)
def MI:aW U:=⟨[.d (.arr 8 (.int .u32)),.d (.st 0)],fun xs es K=> ∃(v:List Int) (id:bD),xs= [(iy v),(EM id)]∧es= []∧K (.v (vb (fT v id))) []⟩
theorem E5:Fk 55 MI:=by
 refine fo Tryz.f55 [.d .bool] [] (aa Hw ae) fun xs es K=>?_;rintro⟨v,id,rfl,rfl,h⟩;refine⟨rfl,?_⟩;have hf0:=fT.eq_1 v id;refine dp [(true,0),(false,1),(true,2),(true,3),(true,4),(true,5),(true,6),(true,7),(true,8),(true,9),(true,10),(true,11),(true,12)] none (nw 2) ?_;refine⟨_,rfl,rfl,?_⟩;refine .inl ?_;refine And.intro (show decide (dm id=(0:Int))=((8:Nat),true).snd→(0:Int)≤id.origin∧id.origin<(↑(8:Nat):Int)from(fun h=>⟨(kE (of_decide_eq_true h)).1,by have:=(kE (of_decide_eq_true h)).2.1;simp;omega⟩)) ?_;exact e0
def oZ(a:eU)(b:eU):eU:=
 if gj [eZ a.at_ b.at_,rE a.val b.val]<0 then
  b
 else
  a
def RC:aW U:=⟨[.d (.st 13),.d (.st 13)],fun xs es K=> ∃(a:eU) (b:eU),xs= [(BB a),(BB b)]∧es= []∧K (.v (BB (oZ a b))) []⟩
theorem RE:Fk 82 RC:=by
 refine fo Tryz.f82 [.d (.st 13)] [] (aa Hy (aa JL (aa zI ae))) fun xs es K=>?_;rintro⟨a,b,rfl,rfl,h⟩;refine⟨rfl,?_⟩;have hf0:=oZ.eq_1 a b;refine dp [(true,0),(true,1),(true,2),(true,3),(true,5),(true,6),(true,7),(true,8),(false,4),(false,9),(false,10),(false,11),(true,12)] none (nw 3) ?_;refine⟨_,_,rfl,rfl,?_⟩;refine⟨_,_,rfl,rfl,?_⟩;refine⟨_,rfl,rfl,?_⟩;exact wI hf0 (fun _ hf0=>e0) fun _ hf0=>e0
def iH(s:eU)(val:Int)(tm:aV):eU×Int:=
 if dT [fK s.at_,fK tm]=0 then
  if tm.time=0 then
   (eU.mk 0 (aV.mk 0 0),2)
  else
   (oZ s (eU.mk val tm),0)
 else
  (eU.mk 0 (aV.mk 0 0),dT [fK s.at_,fK tm])
def RF:aW U:=⟨[.d (.st 13),.d (.int .i64),.d (.st 2)],fun xs es K=> ∃(s:eU) (val:Int) (tm:aV),xs= [(BB s),(vi val),(I6 tm)]∧es= []∧K (.tup [(BB ((iH s val tm).1)),(vi ((iH s val tm).2))]) []⟩
theorem RG:Fk 35 RF:=by
 refine fo Tryz.f35 [.d (.st 13),.d (.int .i64)] [] (aa NA (aa Nw (aa RE ae))) fun xs es K=>?_;rintro⟨s,val,tm,rfl,rfl,h⟩;refine⟨rfl,?_⟩;have hf0:=iH.eq_1 s val tm;refine dp [(true,0),(true,1),(true,3),(false,2),(false,4),(false,5),(false,6),(true,7)] none (nw 3) ?_;refine⟨_,rfl,rfl,?_⟩;refine⟨_,rfl,rfl,?_⟩;refine⟨_,rfl,rfl,?_⟩;refine wN hf0 (fun _ hf0=>e0) fun _ hf0=>?_;refine wI hf0 (fun _ hf0=>e0) fun _ hf0=>?_;refine⟨_,_,rfl,rfl,?_⟩;exact e0
def gM(low:Int)(high:Int)(l:List Int):Nat→Int→Bool⊕(Int)
 |0,s11=> .inr s11
 |n1+1,s11=>
  if s11<(l.length:Int)then
   if(ix l s11<low)∨(high<ix l s11)then
    .inl false
   else
    gM low high l n1 (s11+1)
  else
   .inr s11
def kF(low:Int)(high:Int)(l:List Int):Bool:=
 match gM low high l (((l.length:Int)- 0).toNat+1) 0 with
 | .inl r=>r
 | .inr s11=>
  true
def NU:aW U:=⟨[.d (.int .i64),.d (.int .i64),.d (.sl (.int .i64))],fun xs es K=> ∃(low:Int) (high:Int) (l:List Int),xs= [(vi low),(vi high),(I5 l)]∧es= []∧K (.v (vb (kF low high l))) []⟩
theorem NV:Fk 150 NU:=by
 refine fo Tryz.f150 [.d .bool] [] (ae) fun xs es K=>?_;rintro⟨low,high,l,rfl,rfl,h⟩;refine⟨rfl,?_⟩;have hf0:=kF.eq_1 low high l;refine fl (x:=l.length) fun _=>?_;refine lI 0 (fun(s11:Int)=> [(0,.v (vi low)),(1,.v (vi high)),(6,.v (vb false)),(9,.v (I5 l)),(10,.v (vi (l.length:Int))),(11,.v (vi s11))]) (fun(s11:Int)=> []) (fun(s11:Int)=>((l.length:Int)- s11).toNat) (fun(s11:Int)=>(0≤s11)∧(s11≤(l.length:Int))∧True) (fun n1 (s11:Int)=>gM low high l n1 s11) (gM low high l (((l.length:Int)- 0).toNat+1) 0) [] (0:Int) ?_;rintro s11 ⟨n1,hc1,⟨hi1_0,hi1_1,-⟩,hf1⟩;have hf1:=hf1.trans (gM.eq_2 low high l s11 n1);refine wI hf1 (fun _ hf1=>?_) fun _ hf1=>e1;refine vx s11 l ?_;refine wI hf1 (fun _ hf1=>e1) fun _ hf1=>?_;refine fZ ?_;exact nx [] (s11+1) hc1 hf1
def gk(a:Int)(b:Int):Int×Int:=
 if kF (-1125899906842624) 1125899906842624 [a,b]=true then
  if kF (-1125899906842624) 1125899906842624 [IntKind.i64.wrap (a+b)]=true then
   (IntKind.i64.wrap (a+b),0)
  else
   (0,12)
 else
  (0,2)
def RH:aW U:=⟨[.d (.int .i64),.d (.int .i64)],fun xs es K=> ∃(a:Int) (b:Int),xs= [(vi a),(vi b)]∧es= []∧K (.tup [(vi ((gk a b).1)),(vi ((gk a b).2))]) []⟩
theorem RI:Fk 84 RH:=by
 refine fo Tryz.f84 [.d (.int .i64),.d (.int .i64)] [] (aa NV ae) fun xs es K=>?_;rintro⟨a,b,rfl,rfl,h⟩;refine⟨rfl,?_⟩;have hf0:=gk.eq_1 a b;refine⟨_,_,_,rfl,rfl,?_⟩;refine wN hf0 (fun _ hf0=>e0) fun _ hf0=>?_;refine .inr ?_;refine⟨_,_,_,rfl,rfl,?_⟩;refine wN hf0 (fun _ hf0=>e0) fun _ hf0=>?_;refine .inr ?_;exact e0
def iI(s:dW):Nat→Int→Int⊕(Int)
 |0,s10=> .inr s10
 |n1+1,s10=>
  if s10<2 then
   if(ix [s.plus,s.minus] s10<0)∨(1125899906842624<ix [s.plus,s.minus] s10)then
    .inl 2
   else
    iI s n1 (s10+1)
  else
   .inr s10
def jV(s:dW):Int:=
 match iI s (((2:Int)-(0:Int)).toNat+1) (0:Int)with
 | .inl r=>r
 | .inr s10=>
  0
def RJ:aW U:=⟨[.d (.st 14)],fun xs es K=> ∃(s:dW),xs= [(EO s)]∧es= []∧K (.v (vi (jV s))) []⟩
theorem Ql:Fk 83 RJ:=by
 refine fo Tryz.f83 [.d (.int .i64)] [] (ae) fun xs es K=>?_;rintro⟨s,rfl,rfl,h⟩;refine⟨rfl,?_⟩;have hf0:=jV.eq_1 s;refine lI 1 (fun(s10:Int)=> [(2,.v (vi 0)),(9,.v ⟨true,[(1,.d (.int .i64) s.plus),(1,.d (.int .i64) s.minus)]⟩),(10,.v (vi s10))]) (fun(s10:Int)=> []) (fun(s10:Int)=>(2 - s10).toNat) (fun(s10:Int)=>(0≤s10)∧(s10≤2)∧True) (fun n1 (s10:Int)=>iI s n1 s10) (iI s (((2:Int)-(0:Int)).toNat+1) (0:Int)) [] (0:Int) ?_;rintro s10 ⟨n1,hc1,⟨hi1_0,hi1_1,-⟩,hf1⟩;have hf1:=hf1.trans (iI.eq_2 s s10 n1);refine wI hf1 (fun _ hf1=>?_) fun _ hf1=>e1;refine vs (P:=0≤s10∧s10<((2:Nat):Int)) ?_;refine wI hf1 (fun _ hf1=>e1) fun _ hf1=>?_;refine fZ ?_;exact nx [] (s10+1) hc1 hf1
def mt(s:dW):Int:=
 if jV s=0 then
  IntKind.i64.wrap (s.plus - s.minus)
 else
  0
def RK:aW U:=⟨[.d (.st 14)],fun xs es K=> ∃(s:dW),xs= [(EO s)]∧es= []∧K (.v (vi (mt s))) []⟩
theorem RL:Fk 50 RK:=by
 refine fo Tryz.f50 [.d (.int .i64)] [] (aa Ql ae) fun xs es K=>?_;rintro⟨s,rfl,rfl,h⟩;refine⟨rfl,?_⟩;have hf0:=mt.eq_1 s;refine⟨_,rfl,rfl,?_⟩;refine wN hf0 (fun _ hf0=>e0) fun _ hf0=>?_;refine .inr ?_;exact e0
def iJ(s:dW)(n:Int):dW×Int:=
 if jV s=0 then
  if(n<(-1073741824))∨(1073741824<n)then
   (dW.mk 0 0,2)
  else
   if n<0 then
    if(gk s.minus (-n)).snd=0 then
     (dW.mk s.plus (gk s.minus (-n)).fst,0)
    else
     (dW.mk 0 0,(gk s.minus (-n)).snd)
   else
    if(gk s.plus n).snd=0 then
     (dW.mk (gk s.plus n).fst s.minus,0)
    else
     (dW.mk 0 0,(gk s.plus n).snd)
 else
  (dW.mk 0 0,jV s)
def RM:aW U:=⟨[.d (.st 14),.d (.int .i64)],fun xs es K=> ∃(s:dW) (n:Int),xs= [(EO s),(vi n)]∧es= []∧K (.tup [(EO ((iJ s n).1)),(vi ((iJ s n).2))]) []⟩
theorem RN:Fk 36 RM:=by
 refine fo Tryz.f36 [.d (.st 14),.d (.int .i64)] [] (aa Ql (aa RI ae)) fun xs es K=>?_;rintro⟨s,n,rfl,rfl,h⟩;refine⟨rfl,?_⟩;have hf0:=iJ.eq_1 s n;refine⟨_,rfl,rfl,?_⟩;refine wN hf0 (fun _ hf0=>e0) fun _ hf0=>?_;refine wI hf0 (fun _ hf0=>e0) fun _ hf0=>?_;refine wI hf0 (fun _ hf0=>?_) fun _ hf0=>?_
 ·refine fZ ?_;refine⟨_,_,rfl,rfl,?_⟩;exact wN hf0 (fun _ hf0=>e0) fun _ hf0=>e0
 ·refine⟨_,_,rfl,rfl,?_⟩;exact wN hf0 (fun _ hf0=>e0) fun _ hf0=>e0
def dU(act:Int):Int:=
 if act=1 then
  1
 else
  if act=2 then
   2
  else
   if act=3 then
    3
   else
    if act=4 then
     3
    else
     if act=5 then
      4
     else
      if act=6 then
       4
      else
       0
def Qm:aW U:=⟨[.d (.int .i64)],fun xs es K=> ∃(act:Int),xs= [(vi act)]∧es= []∧K (.v (vi (dU act))) []⟩
theorem Hz:Fk 28 Qm:=by
 refine fo Tryz.f28 [.d (.int .i64)] [] (ae) fun xs es K=>?_;rintro⟨act,rfl,rfl,h⟩;refine⟨rfl,?_⟩;have hf0:=dU.eq_1 act;refine wI hf0 (fun _ hf0=>e0) fun _ hf0=>?_;refine wI hf0 (fun _ hf0=>e0) fun _ hf0=>?_;refine wI hf0 (fun _ hf0=>?_) fun _ hf0=>?_
 ·refine vT iD (by omega) ?_;exact e0
 ·refine wI hf0 (fun _ hf0=>e0) fun _ hf0=>?_;refine wI hf0 (fun _ hf0=>?_) fun _ hf0=>wI hf0 (fun _ hf0=>e0) fun _ hf0=>e0;refine vT iD (by omega) ?_;exact e0
def rF(kind:Int):dD×Int:=
 if(kind<1)∨(4<kind)then
  (dD.mk 0 (eU.mk 0 (aV.mk 0 0)) (dW.mk 0 0) (co.mk [] []) (cL.mk [] []),5)
 else
  (dD.mk kind (eU.mk 0 (aV.mk 0 0)) (dW.mk 0 0) (co.mk [] []) (cL.mk [] []),0)
def c7:aW U:=⟨[.d (.int .i64)],fun xs es K=> ∃(kind:Int),xs= [(vi kind)]∧es= []∧K (.tup [(vm ((rF kind).1)),(vi ((rF kind).2))]) []⟩
theorem k7:Fk 7 c7:=by
 refine fo Tryz.f7 [.d (.st 15),.d (.int .i64)] [] (ae) fun xs es K=>?_;rintro⟨kind,rfl,rfl,h⟩;refine⟨rfl,?_⟩;have hf0:=rF.eq_1 kind;exact wI hf0 (fun _ hf0=>e0) fun _ hf0=>e0
def dB(o:Int):g7:=
 if o=5 then
  g7.mk true true true false
 else
  if o=1 then
   g7.mk false true true false
  else
   if o=2 then
    g7.mk false true false false
   else
    if o=4 then
     g7.mk true false false true
    else
     if o=6 then
      g7.mk true false false true
     else
      if o=3 then
       g7.mk true false false false
      else
       g7.mk false false false false
def RO:aW U:=⟨[.d (.int .i64)],fun xs es K=> ∃(o:Int),xs= [(vi o)]∧es= []∧K (.v ⟨true,[(4,.d (.st 18) (dB o))]⟩) []⟩
theorem Qn:Fk 69 RO:=by
 refine fo Tryz.f69 [.d (.st 18)] [] (ae) fun xs es K=>?_;rintro⟨o,rfl,rfl,h⟩;refine⟨rfl,?_⟩;have hf0:=dB.eq_1 o;refine wI hf0 (fun _ hf0=>e0) fun _ hf0=>?_;refine wI hf0 (fun _ hf0=>e0) fun _ hf0=>?_;refine wI hf0 (fun _ hf0=>e0) fun _ hf0=>?_;refine wI hf0 (fun _ hf0=>?_) fun _ hf0=>wI hf0 (fun _ hf0=>e0) fun _ hf0=>wI hf0 (fun _ hf0=>e0) fun _ hf0=>e0;refine vT iD (by omega) ?_;exact e0
def lB(r:Int):Bool:=
 decide (97≤r)&&decide (r≤122)||decide (48≤r)&&decide (r≤57)
def NW:aW U:=⟨[.d (.int .u8)],fun xs es K=> ∃(r:Int),xs= [⟨false,[(1,.d (.int .u8) r)]⟩]∧es= []∧K (.v (vb (lB r))) []⟩
theorem NX:Fk 107 NW:=by
 refine fo Tryz.f107 [.d .bool] [] (ae) fun xs es K=>?_;rintro⟨r,rfl,rfl,h⟩;refine⟨rfl,?_⟩;have hf0:=lB.eq_1 r;exact e0
def e9(t:az):Bool:=
 decide ¬fJ t=0
def RP:aW U:=⟨[.d (.st 4)],fun xs es K=> ∃(t:az),xs= [(x8 t)]∧es= []∧K (.v (vb (e9 t))) []⟩
theorem MJ:Fk 29 RP:=by
 refine fo Tryz.f29 [.d .bool] [] (aa Nx ae) fun xs es K=>?_;rintro⟨t,rfl,rfl,h⟩;refine⟨rfl,?_⟩;have hf0:=e9.eq_1 t;refine⟨_,rfl,rfl,?_⟩;exact e0
def aN(s:dD):dD:=
 dD.mk s.kind s.reg s.num (co.mk s.set.adds s.set.gone) (cL.mk s.map.puts s.map.gone)
def RQ:aW U:=⟨[.d (.st 15)],fun xs es K=> ∃(s:dD),xs= [(vm s)]∧es= []∧(s.set.adds.length≤1000000)∧(s.set.gone.length≤1000000)∧(s.map.puts.length≤1000000)∧(s.map.gone.length≤1000000)∧K (.v (vm (aN s))) []⟩
theorem RR:Fk 34 RQ:=by
 refine fo Tryz.f34 [.d (.st 15)] [] (aa OC (aa OB (aa MN ae))) fun xs es K=>?_;rintro⟨s,rfl,rfl,h1,h2,h3,h4,h⟩;refine⟨rfl,?_⟩;have hf0:=aN.eq_1 s;refine dp [(true,0),(true,1),(true,2),(true,4),(true,5),(true,6),(false,3),(false,7),(true,8),(true,9)] (some 10) (nw 2) ?_;refine⟨_,rfl,rfl,(by assumption),?_⟩;refine⟨_,rfl,rfl,(by assumption),?_⟩;refine dp [(true,0),(true,1),(true,2),(true,4),(true,5),(true,6),(false,3),(false,7),(true,8),(true,9)] (some 10) (nw 4) ?_;refine⟨_,rfl,rfl,(by assumption),?_⟩;refine⟨_,rfl,rfl,(by assumption),?_⟩;exact e0
def kG(e:aV):Bool:=
 decide (fK e=0)&&decide (0<e.time)
def RS:aW U:=⟨[.d (.st 2)],fun xs es K=> ∃(e:aV),xs= [(I6 e)]∧es= []∧K (.v (vb (kG e))) []⟩
theorem MK:Fk 30 RS:=by
 refine fo Tryz.f30 [.d .bool] [] (aa NA ae) fun xs es K=>?_;rintro⟨e,rfl,rfl,h⟩;refine⟨rfl,?_⟩;have hf0:=kG.eq_1 e;refine⟨_,rfl,rfl,?_⟩;exact e0
def cd(o:ld):Int:=
 if dU o.act=0 then
  5
 else
  if((dB o.act).name=true)∧(¬(kA o.name=true))then
   3
  else
   if(¬((dB o.act).name=true))∧(¬o.name= [])then
    3
   else
    if(¬((dB o.act).val=true))∧(¬o.val=0)then
     3
    else
     if(o.act=2)∧((o.val<(-1073741824))∨(1073741824<o.val))then
      2
     else
      0
def Qo:aW U:=⟨[.d (.st 1)],fun xs es K=> ∃(o:ld),xs= [(MQ o)]∧es= []∧K (.v (vi (cd o))) []⟩
theorem I1:Fk 27 Qo:=by
 refine fo Tryz.f27 [.d (.int .i64)] [] (aa Hz (aa Qn (aa NC ae))) fun xs es K=>?_;rintro⟨o,rfl,rfl,h⟩;refine⟨rfl,?_⟩;have hf0:=cd.eq_1 o;refine⟨_,rfl,rfl,?_⟩;refine wI hf0 (fun _ hf0=>e0) fun _ hf0=>?_;refine⟨_,rfl,rfl,?_⟩;refine⟨_,fun _=>⟨_,rfl,rfl,rfl,rfl⟩,rfl,?_⟩;refine wI hf0 (fun _ hf0=>?_) fun _ hf0=>?_
 ·refine vT (iA iB (iN iB)) (show((dB o.act).name=true)∧(¬(kA o.name=true))from by omega) ?_;exact e0
 ·refine wI hf0 (fun _ hf0=>?_) fun _ hf0=>wI hf0 (fun _ hf0=>e0) fun _ hf0=>wI hf0 (fun _ hf0=>e0) fun _ hf0=>e0;refine vT (iA (iN iB) iD) (show(¬((dB o.act).name=true))∧(¬o.name= [])from by omega) ?_;exact e0
def gN(e:cU):Nat→Int→Int⊕(Int)
 |0,s5=> .inr s5
 |n1+1,s5=>
  if s5<(e.tags.length:Int)then
   if 0≤ap (ix e.tags (s5 - 1)) (ix e.tags s5)then
    .inl 3
   else
    gN e n1 (s5+1)
  else
   .inr s5
def iK(e:cU):Int:=
 if cd (ld.mk e.act e.name e.val)=0 then
  if(e9 e.tag=true)∨((cz e.tags fun(t:az)=>e9 t)=true)then
   2
  else
   if 4096<(e.tags.length:Int)then
    8
   else
    if((((dB e.act).at_=true)∧(¬(kG e.at_=true)))∨((¬((dB e.act).at_=true))∧(¬(e.at_=aV.mk 0 0))))∨((¬((dB e.act).tags=true))∧(0<(e.tags.length:Int)))then
     3
    else
     match gN e (((e.tags.length:Int)- 1).toNat+1) 1 with
     | .inl r=>r
     | .inr s5=>
      0
 else
  cd (ld.mk e.act e.name e.val)
def RT:aW U:=⟨[.d (.st 16)],fun xs es K=> ∃(e:cU),xs= [(IT e)]∧es= []∧((fun(r0:Int)=>r0=0→e.tags.length≤4096) (iK e)→K (.v (vi (iK e))) [])⟩
theorem RU:Fk 33 RT:=by
 refine fo Tryz.f33 [.d (.int .i64)] [] (aa I1 (aa MJ (aa MK (aa Qn (aa JN (aa zJ ae)))))) fun xs es K=>?_;rintro⟨e,rfl,rfl,h⟩;refine⟨rfl,?_⟩;have hf0:=iK.eq_1 e;refine⟨_,rfl,rfl,?_⟩;refine wN hf0 (fun _ hf0=>?_) fun _ hf0=>?_
 ·rw[hf0]at h;exact h (by omega)
 ·refine⟨_,rfl,rfl,?_⟩;refine⟨_,fun _=>⟨fun(t:az)=>e9 t,fun t0=>⟨_,rfl,rfl,rfl,rfl⟩,_,_,rfl,rfl,rfl,rfl⟩,rfl,?_⟩;refine wI hf0 (fun _ hf0=>?_) fun _ hf0=>?_
  ·rw[hf0]at h;exact h (by omega)
  ·refine fl (x:=e.tags.length) fun _=>?_;refine wI hf0 (fun _ hf0=>?_) fun _ hf0=>?_
   ·rw[hf0]at h;exact h (by omega)
   ·refine⟨_,rfl,rfl,?_⟩;refine⟨_,fun _=>⟨_,rfl,rfl,rfl,rfl⟩,rfl,?_⟩;refine wI hf0 (fun _ hf0=>?_) fun _ hf0=>?_
    ·rw[hf0]at h;exact h (by omega)
    ·refine lI 2 (fun(s5:Int)=> [(1,.v (vp 0)),(2,.v (vi 0)),(5,.v (vi s5))]) (fun(s5:Int)=> [(0,.cells [(9,.d (.st 16) e)] 63)]) (fun(s5:Int)=>((e.tags.length:Int)- s5).toNat) (fun(s5:Int)=>(1≤s5)∧True) (fun n1 (s5:Int)=>gN e n1 s5) (gN e (((e.tags.length:Int)- 1).toNat+1) 1) [] (1:Int) ?_;rintro s5 ⟨n1,hc1,⟨hi1_0,-⟩,hf1⟩;have hf1:=hf1.trans (gN.eq_2 e s5 n1);refine fl (x:=e.tags.length) fun _=>?_;refine wI hf1 (fun _ hf1=>?_) fun _ hf1=>?_
     ·refine dp [(true,0),(true,1),(true,2),(true,3),(true,4),(true,5),(true,6),(true,7),(true,8),(true,9),(true,10),(false,11),(true,12)] none (nw 2) ?_;refine fZ ?_;refine vx (s5 - 1) e.tags ?_;refine vx s5 e.tags ?_;refine⟨_,_,rfl,rfl,?_⟩;refine wI hf1 (fun _ hf1=>?_) fun _ hf1=>?_
      ·rw[hf1]at hf0;rw[hf0]at h;exact h (by omega)
      ·refine fZ ?_;exact nx [] (s5+1) hc1 hf1
     ·rw[hf1]at hf0;rw[hf0]at h;exact h (by omega)
def dK(t:az):Bool:=
 decide ¬fJ t=0
def RV:aW U:=⟨[.d (.st 4)],fun xs es K=> ∃(t:az),xs= [(x8 t)]∧es= []∧K (.v (vb (dK t))) []⟩
theorem NY:Fk 96 RV:=by
 refine fo Tryz.f96 [.d .bool] [] (aa Nx ae) fun xs es K=>?_;rintro⟨t,rfl,rfl,h⟩;refine⟨rfl,?_⟩;have hf0:=dK.eq_1 t;refine⟨_,rfl,rfl,?_⟩;exact e0
def gO(s:cL):(List bF)×(List az):=
 (s.puts,s.gone)
def RW:aW U:=⟨[.d (.st 12)],fun xs es K=> ∃(s:cL),xs= [(sf s)]∧es= []∧(s.puts.length≤1000000)∧(s.gone.length≤1000000)∧K (.v ⟨true,[(1,.own 0 0),(1,.own 1 0)]⟩) [.row 0 (.st 5) ((gO s).1) 133,.row 0 (.st 4) ((gO s).2) 61]⟩
theorem RX:Fk 99 RW:=by
 refine fo Tryz.f99 [.n] [] (aa OB (aa MN ae)) fun xs es K=>?_;rintro⟨s,rfl,rfl,h1,h2,h⟩;refine⟨rfl,?_⟩;have hf0:=gO.eq_1 s;refine dp [(true,0),(true,1),(true,3),(true,4),(false,2),(false,5),(true,6)] (some 7) (nw 2) ?_;refine⟨_,rfl,rfl,(by assumption),?_⟩;refine⟨_,rfl,rfl,(by assumption),?_⟩;exact e0
def gP(l:List bF):Nat→Int→(List az)→(List az)⊕(Int×(List az))
 |0,s8,s3=> .inr (s8,s3)
 |n1+1,s8,s3=>
  if s8<(l.length:Int)then
   gP l n1 (s8+1) (s3++ [(ix l s8).tag])
  else
   .inr (s8,s3)
def eM(l:List bF):List az:=
 match gP l (((l.length:Int)- 0).toNat+1) 0 ([]:List az)with
 | .inl r=>r
 | .inr (s8,s3)=>
  s3
def RY:aW U:=⟨[.d (.sl (.st 5))],fun xs es K=> ∃(l:List bF),xs= [(EN l)]∧es= []∧(l.length≤1000000)∧K (.v (nX (eM l))) []⟩
theorem NZ:Fk 74 RY:=by
 refine fo Tryz.f74 [.d (.sl (.st 4))] [] (ae) fun xs es K=>?_;rintro⟨l,rfl,rfl,hl,h⟩;refine⟨rfl,?_⟩;have hf0:=eM.eq_1 l;refine fl (x:=l.length) fun _=>?_;refine lI (σ:=Int×(List az)) 1 (fun(s8,s3)=> [(2,.v ⟨false,[(1,.nils)]⟩),(3,.v (vo 0)),(6,.v (EN l)),(7,.v (vi (l.length:Int))),(8,.v (vi s8))]) (fun(s8,s3)=> [(0,.row 0 (.st 4) s3 61)]) (fun(s8,s3)=>((l.length:Int)- s8).toNat) (fun(s8,s3)=>(0≤s8)∧(s8≤(l.length:Int))∧((s3.length:Int)≤s8)∧True) (fun n1 (s8,s3)=>gP l n1 s8 s3) (gP l (((l.length:Int)- 0).toNat+1) 0 ([]:List az)) [] ((0:Int),([]:List az)) ?_;rintro⟨s8,s3⟩ ⟨n1,hc1,⟨hi1_0,hi1_1,hi1_2,-⟩,hf1⟩;have hf1:=hf1.trans (gP.eq_2 l s8 s3 n1);refine wI hf1 (fun _ hf1=>?_) fun _ hf1=>e1;refine vx s8 l ?_;refine vs (P:=(s3.length+ [(ix l s8).tag].length)*(24:Nat)≤(140737488355328:Nat)) ?_;refine fZ ?_;exact nx (s:=(s8,s3)) [] (s8+1,s3++ [(ix l s8).tag]) hc1 hf1
def mu(p:bF):Bool:=
 decide ¬p.field= []&&decide ((p.field.length:Int)≤12)&&decide (fK p.at_=0)&&decide (0<p.at_.time)
def RZ:aW U:=⟨[.d (.st 5)],fun xs es K=> ∃(p:bF),xs= [(I7 p)]∧es= []∧K (.v (vb (mu p))) []⟩
theorem Qp:Fk 97 RZ:=by
 refine fo Tryz.f97 [.d .bool] [] (aa NA ae) fun xs es K=>?_;rintro⟨p,rfl,rfl,h⟩;refine⟨rfl,?_⟩;have hf0:=mu.eq_1 p;refine⟨_,fun _=>⟨_,rfl,rfl,rfl,rfl⟩,rfl,?_⟩;exact e0
def o0(l:List az)(t:az):Bool:=
 (eI l t fun(t t':az)=>ap t t').snd
def N0:aW U:=⟨[.d (.sl (.st 4)),.d (.st 4)],fun xs es K=> ∃(l:List az) (t:az),xs= [(nX l),(x8 t)]∧es= []∧(l.length≤1000000)∧K (.v (vb (o0 l t))) []⟩
theorem HA:Fk 100 N0:=by
 refine fo Tryz.f100 [.d .bool] [] (aa zJ (aa NF ae)) fun xs es K=>?_;rintro⟨l,t,rfl,rfl,hl,h⟩;refine⟨rfl,?_⟩;have hf0:=o0.eq_1 l t;refine⟨fun(t t':az)=>ap t t',fun t0 t1=>⟨_,_,rfl,rfl,rfl,rfl⟩,?_⟩;refine⟨_,_,_,rfl,rfl,(by omega),?_⟩;exact e0
def o4(a:bF)(b:bF):Int:=
 gj [eZ a.at_ b.at_,ap a.tag b.tag]
def N1:aW U:=⟨[.d (.st 5),.d (.st 5)],fun xs es K=> ∃(a:bF) (b:bF),xs= [(I7 a),(I7 b)]∧es= []∧K (.v (vi (o4 a b))) []⟩
theorem N2:Fk 120 N1:=by
 refine fo Tryz.f120 [.d (.int .i64)] [] (aa zJ (aa Hy (aa zI ae))) fun xs es K=>?_;rintro⟨a,b,rfl,rfl,h⟩;refine⟨rfl,?_⟩;have hf0:=o4.eq_1 a b;refine dp [(true,0),(true,1),(true,2),(true,3),(true,5),(true,6),(true,7),(true,8),(false,4),(false,9),(false,10),(false,11),(true,12)] none (nw 2) ?_;refine⟨_,_,rfl,rfl,?_⟩;refine⟨_,_,rfl,rfl,?_⟩;refine⟨_,rfl,rfl,?_⟩;exact e0
def jW(l:List az):Nat→Int→Bool⊕(Int)
 |0,s3=> .inr s3
 |n1+1,s3=>
  if s3<(l.length:Int)then
   if 0≤ap (ix l (s3 - 1)) (ix l s3)then
    .inl false
   else
    jW l n1 (s3+1)
  else
   .inr s3
def og(l:List az):Bool:=
 match jW l (((l.length:Int)- 1).toNat+1) 1 with
 | .inl r=>r
 | .inr s3=>
  true
def N3:aW U:=⟨[.d (.sl (.st 4))],fun xs es K=> ∃(l:List az),xs= [(nX l)]∧es= []∧K (.v (vb (og l))) []⟩
theorem N4:Fk 156 N3:=by
 refine fo Tryz.f156 [.d .bool] [] (aa zJ ae) fun xs es K=>?_;rintro⟨l,rfl,rfl,h⟩;refine⟨rfl,?_⟩;have hf0:=og.eq_1 l;refine lI 0 (fun(s3:Int)=> [(0,.v (nX l)),(2,.v (vb false)),(3,.v (vi s3))]) (fun(s3:Int)=> []) (fun(s3:Int)=>((l.length:Int)- s3).toNat) (fun(s3:Int)=>(1≤s3)∧True) (fun n1 (s3:Int)=>jW l n1 s3) (jW l (((l.length:Int)- 1).toNat+1) 1) [] (1:Int) ?_;rintro s3 ⟨n1,hc1,⟨hi1_0,-⟩,hf1⟩;have hf1:=hf1.trans (jW.eq_2 l s3 n1);refine fl (x:=l.length) fun _=>?_;refine wI hf1 (fun _ hf1=>?_) fun _ hf1=>e1;refine dp [(true,0),(true,1),(true,2),(true,3),(true,4),(true,5),(true,6),(true,7),(true,8),(false,9),(true,10)] none (nw 0) ?_;refine fZ ?_;refine vx (s3 - 1) l ?_;refine vx s3 l ?_;refine⟨_,_,rfl,rfl,?_⟩;refine wI hf1 (fun _ hf1=>e1) fun _ hf1=>?_;refine fZ ?_;exact nx [] (s3+1) hc1 hf1
def bX(a:au)(b:au):Int:=
 nj a.field b.field
def N5:aW U:=⟨[.d (.st 6),.d (.st 6)],fun xs es K=> ∃(a:au) (b:au),xs= [(MR a),(MR b)]∧es= []∧K (.v (vi (bX a b))) []⟩
theorem N6:Fk 121 N5:=by
 refine fo Tryz.f121 [.d (.int .i64)] [] (aa Qh ae) fun xs es K=>?_;rintro⟨a,b,rfl,rfl,h⟩;refine⟨rfl,?_⟩;have hf0:=bX.eq_1 a b;refine⟨_,_,rfl,rfl,?_⟩;exact e0
def mw(c:Int):Bool:=
 decide (127<c)||!lB (c%256)
def N7:aW U:=⟨[.d (.int .i32)],fun xs es K=> ∃(c:Int),xs= [⟨false,[(1,.d (.int .i32) c)]⟩]∧es= []∧K (.v (vb (mw c))) []⟩
theorem N8:Fk 106 N7:=by
 refine fo Tryz.f106 [.d .bool] [] (aa NX ae) fun xs es K=>?_;rintro⟨c,rfl,rfl,h⟩;refine⟨rfl,?_⟩;have hf0:=mw.eq_1 c;refine .inr ?_;refine⟨_,fun _=>⟨_,rfl,rfl,rfl,rfl⟩,rfl,?_⟩;exact e0
def jX(s:List UInt8):Nat→Int→(Int×Int)⊕(Int)
 |0,s14=> .inr s14
 |n1+1,s14=>
  if s14<((Lib.split s [(47:UInt8)]).length:Int)then
   if(ix (Lib.split s [(47:UInt8)]) s14= [])∨(0≤iE (ix (Lib.split s [(47:UInt8)]) s14) fun(t:Int)=>mw t)then
    .inl (0,3)
   else
    jX s n1 (s14+1)
  else
   .inr s14
def ab(s:List UInt8):Int×Int:=
 if 24<(s.length:Int)then
  (0,8)
 else
  match jX s ((((Lib.split s [(47:UInt8)]).length:Int)- 0).toNat+1) 0 with
  | .inl r=>r
  | .inr s14=>
   if((ix (ix (Lib.split s [(47:UInt8)]) (((Lib.split s [(47:UInt8)]).length:Int)- 1)) 0).toNat:Int)=114 then
    (1,0)
   else
    if((ix (ix (Lib.split s [(47:UInt8)]) (((Lib.split s [(47:UInt8)]).length:Int)- 1)) 0).toNat:Int)=99 then
     (2,0)
    else
     if((ix (ix (Lib.split s [(47:UInt8)]) (((Lib.split s [(47:UInt8)]).length:Int)- 1)) 0).toNat:Int)=115 then
      (3,0)
     else
      if((ix (ix (Lib.split s [(47:UInt8)]) (((Lib.split s [(47:UInt8)]).length:Int)- 1)) 0).toNat:Int)=109 then
       (4,0)
      else
       (0,5)
def Qq:aW U:=⟨[.d .str],fun xs es K=> ∃(s:List UInt8),xs= [(vt s)]∧es= []∧(s.length≤1000000)∧K (.tup [(vi ((ab s).1)),(vi ((ab s).2))]) []⟩
theorem Qr:Fk 42 Qq:=by
 refine fo Tryz.f42 [.d (.int .i64),.d (.int .i64)] [] (aa OW (aa OY (aa N8 ae))) fun xs es K=>?_;rintro⟨s,rfl,rfl,h1,h⟩;refine⟨rfl,?_⟩;have hf0:=ab.eq_1 s;refine fl (x:=s.length) fun _=>?_;refine wI hf0 (fun h1 hf0=>e0) fun h1 hf0=>?_;refine⟨_,_,rfl,rfl,(by omega),(by(simp only[List.length_append,List.length_cons,List.length_nil];omega)),?_⟩;refine fl (x:=(Lib.split s [(47:UInt8)]).length) fun _=>?_;refine lI 0 (fun(s14:Int)=> [(2,.v (vi 0)),(3,.v (vi 0)),(4,.v (IU (Lib.split s [(47:UInt8)]))),(12,.v (IU (Lib.split s [(47:UInt8)]))),(13,.v (vi ((Lib.split s [(47:UInt8)]).length:Int))),(14,.v (vi s14))]) (fun(s14:Int)=> []) (fun(s14:Int)=>(((Lib.split s [(47:UInt8)]).length:Int)- s14).toNat) (fun(s14:Int)=>(0≤s14)∧(s14≤((Lib.split s [(47:UInt8)]).length:Int))∧(∀j:Int,0≤j→j<s14→ix (Lib.split s [(47:UInt8)]) j≠ [])∧True) (fun n1 (s14:Int)=>jX s n1 s14) (jX s ((((Lib.split s [(47:UInt8)]).length:Int)- 0).toNat+1) 0) [] (0:Int) ?_ (hi:=⟨show(0:Int)≤(0:Int)from by omega,show(0:Int)≤(↑(Lib.split s [(47:UInt8)]).length:Int)from by omega,show ∀(j:Int),(0:Int)≤j→j<(0:Int)→ix (Lib.split s [(47:UInt8)]) j≠ []from by omega,trivial⟩);rintro s14 ⟨n1,hc1,⟨hi1_0,hi1_1,hi1_2,-⟩,hf1⟩;have hf1:=hf1.trans (jX.eq_2 s s14 n1);refine wI hf1 (fun _ hf1=>?_) fun _ hf1=>?_
 ·refine vx s14 (Lib.split s [(47:UInt8)]) ?_;refine⟨_,fun _=>⟨fun(t:Int)=>mw t,fun t0=>⟨_,rfl,rfl,rfl,rfl⟩,_,_,rfl,rfl,rfl,rfl⟩,rfl,?_⟩;refine wI hf1 (fun _ hf1=>e1) fun _ hf1=>?_;refine fZ ?_;exact nx [] (s14+1) hc1 hf1 (hi:=⟨show(0:Int)≤s14+(1:Int)from by omega,show s14+(1:Int)≤(↑(Lib.split s [(47:UInt8)]).length:Int)from by omega,show ∀(j:Int),(0:Int)≤j→j<s14+(1:Int)→ix (Lib.split s [(47:UInt8)]) j≠ []from by(intro j hj1 hj2;rcases(show j<s14∨j=s14 by omega)with hh|rfl;(· exact hi1_2 j hj1 hh);(· intro he;simp_all)),trivial⟩)
 ·rw[hf1]at hf0;refine fl (x:=(Lib.split s [(47:UInt8)]).length) fun _=>?_;refine fZ ?_;refine vs (P:=0≤((Lib.split s [(47:UInt8)]).length:Int)- 1∧((Lib.split s [(47:UInt8)]).length:Int)- 1<((Lib.split s [(47:UInt8)]).length:Int)) ?_ (by(have hp:=lz (s:=s) (sep:= [(47:UInt8)]) (by decide);omega));refine vs (P:=(0:Int)≤(0:Int)∧(0:Int)<((ix (Lib.split s [(47:UInt8)]) (((Lib.split s [(47:UInt8)]).length:Int)-(1:Int))).length:Int)) ?_ (by(have hp:=lz (s:=s) (sep:= [(47:UInt8)]) (by decide);have hq:=hi1_2 ((↑(Lib.split s [(47:UInt8)]).length:Int)- 1) (by omega) (by omega);have:=List.length_pos_iff.2 hq;omega));exact wI hf0 (fun _ hf0=>e0) fun _ hf0=>wI hf0 (fun _ hf0=>e0) fun _ hf0=>wI hf0 (fun _ hf0=>e0) fun _ hf0=>wI hf0 (fun _ hf0=>e0) fun _ hf0=>e0
end Go.Proofs.YtmpeiadlohbikaaGreatDoor.V
end

section
set_option linter.unusedVariables false
set_option linter.unusedSimpArgs false
set_option maxRecDepth 20000
set_option maxHeartbeats 4000000
namespace Go.Proofs.YtmpeiadlohbikaaGreatDoor.V
open Go.RowKit
theorem rG(x y:Int):lA x y=if x<y then -1 else if y<x then 1 else 0:=by
 unfold lA;simp[nc]
theorem wr(x y:Int):ni x y=if x<y then -1 else if y<x then 1 else 0:=by
 unfold ni;simp[ng]
theorem uO(x y:Int):gj [x,y]=if x=0 then y else x:=by
 have e1:ix [x,y] 1=y:=rfl;have e0:ix [x,y] 0=x:=rfl;unfold gj;rw[show((↑[x,y].length:Int)- 0).toNat+1=3 from rfl,eG,eG,eG,eG];rw[show(0:Int)+1=1 from rfl,e0,e1];by_cases hx:x=0<;>by_cases hy:y=0<;>simp[hx,hy]
theorem o5(a b:az):ap a b=if a.id.origin<b.id.origin then -1 else if b.id.origin<a.id.origin then 1 else if a.id.seq<b.id.seq then -1 else if b.id.seq<a.id.seq then 1 else if a.n<b.n then -1 else if b.n<a.n then 1 else 0:=by
 unfold ap d4;rw[uO,uO,rG,rG,wr]
 repeat' split
 all_goals omega
theorem C7{a b:az}(h1:a.id.origin=b.id.origin)(h2:a.id.seq=b.id.seq)(h3:a.n=b.n):a=b:=by
 obtain⟨⟨a1,a2⟩,a3⟩:=a;obtain⟨⟨b1,b2⟩,b3⟩:=b;simp only at h1 h2 h3;subst h1;subst h2;subst h3;rfl
open Go.Shelf Go.Lib Go.Sort
theorem my(a b:az):ltOf ap a b=decide (a.id.origin<b.id.origin∨a.id.origin=b.id.origin∧(a.id.seq<b.id.seq∨a.id.seq=b.id.seq∧a.n<b.n)):=by
 unfold ltOf;rw[o5,decide_eq_decide]
 repeat' split
 all_goals omega
theorem o6(l:List az):eY l ap:=by
 refine⟨⟨fun x=>?_,fun x y z h1 h2=>?_,fun x y z h1 h2=>?_⟩,fun x _ y _ h1 h2=>?_⟩
 ·rw[my];simp
 ·rw[my,decide_eq_true_iff]at*;omega
 ·rw[my,decide_eq_false_iff_not]at*;omega
 ·rw[my,decide_eq_false_iff_not]at h1 h2;exact C7 (by omega) (by omega) (by omega)
theorem qu(l:List bF):(eM l).length≤l.length:=by
 have key: ∀(n:Nat) (i:Int) (s:List az),0≤i→(s.length:Int)≤i→i≤l.length→ ∃j t,gP l n i s= .inr (j,t)∧t.length≤l.length:=fun n=>by
  induction n with
  |zero=>intro i s h0 h1 h2;exact⟨i,s,rfl,by omega⟩
  |succ n ih=>
   intro i s h0 h1 h2;rw[gP];split
   ·exact ih _ _ (by omega) (by simp;omega) (by omega)
   ·exact⟨i,s,rfl,by omega⟩
 obtain⟨j,t,h,ht⟩:=key (((l.length:Int)- 0).toNat+1) 0 [] (by omega) (by simp) (by omega);unfold eM;rw[h];exact ht
def ie(s:co)(tags:List az):co×Int:=
 if eL s=0 then
  if 4096<(tags.length:Int)then
   (co.mk [] [],8)
  else
   if(cz tags fun(t:az)=>ec t)=true then
    (co.mk [] [],2)
   else
    if 4096<((dd (be (fun(t t':az)=>ap t t') (s.gone++tags))).length:Int)then
     (co.mk [] [],4)
    else
     (co.mk (List.filter (fun(x:bS)=>!mr x (co.mk [] (dd (be (fun(t t':az)=>ap t t') (s.gone++tags))))) s.adds) (dd (be (fun(t t':az)=>ap t t') (s.gone++tags))),0)
 else
  (co.mk [] [],eL s)
def R1:aW U:=⟨[.d (.st 11),.d (.sl (.st 4))],fun xs es K=> ∃(s:co) (tags:List az),xs= [(ue s),(nX tags)]∧es= []∧(s.adds.length≤1000000)∧(s.gone.length≤900000)∧((fun(r0:co) (r1:Int)=>r0.adds.length≤4097∧r0.gone.length≤4097) ((ie s tags).1) ((ie s tags).2)→K (.tup [(ue ((ie s tags).1)),(vi ((ie s tags).2))]) [])⟩
theorem R2:Fk 38 R1:=by
 refine fo Tryz.f38 [.d (.st 11),.d (.int .i64)] [] (aa MF (aa JN (aa zJ (aa OC (aa ME (aa Qy (aa QB (aa QA (aa SO (aa RB ae)))))))))) fun xs es K=>?_;rintro⟨s,tags,rfl,rfl,h1,h2,h⟩;refine⟨rfl,?_⟩;have hf0:=ie.eq_1 s tags;refine⟨_,rfl,rfl,(by omega),?_⟩;refine fun _=>?_;refine wN hf0 (fun h1 hf0=>?_) fun h1 hf0=>?_
 ·rw[hf0]at h;exact h (by simp)
 ·refine fl (x:=tags.length) fun h2=>?_;refine wI hf0 (fun _ hf0=>?_) fun _ hf0=>?_
  ·rw[hf0]at h;exact h (by simp)
  ·refine⟨fun(t:az)=>ec t,fun t0=>⟨_,rfl,rfl,rfl,rfl⟩,?_⟩;refine⟨_,_,rfl,rfl,?_⟩;refine wI hf0 (fun _ hf0=>?_) fun _ hf0=>?_
   ·rw[hf0]at h;exact h (by simp)
   ·refine⟨_,_,rfl,rfl,(show s.gone.length≤(1000000:Nat)from by omega),(show tags.length≤(1000000:Nat)from by omega),?_⟩;refine⟨fun(t t':az)=>ap t t',fun t0 t1=>⟨_,_,rfl,rfl,rfl,rfl⟩,?_⟩;refine⟨_,_,rfl,rfl,(o6 _),(show(s.gone++tags).length<(4611686018427387904:Nat)from by(simp only[List.length_append,List.length_cons,List.length_nil];omega)),?_⟩;refine⟨_,rfl,rfl,?_⟩;refine fl (x:=(dd (be (fun(t t':az)=>ap t t') (s.gone++tags))).length) fun _=>?_;refine wI hf0 (fun h6 hf0=>?_) fun h6 hf0=>?_
    ·rw[hf0]at h;exact h (by simp)
    ·refine⟨_,rfl,rfl,(by assumption),?_⟩;refine⟨fun(t:bS)=>mr t (co.mk [] (dd (be (fun(t t':az)=>ap t t') (s.gone++tags)))),fun t0=>⟨_,_,rfl,rfl,(Nat.le_trans (Int.ofNat_le.1 (Int.not_lt.1 h6)) (show(4096:Nat)≤1000000 by decide)),rfl,rfl⟩,?_⟩;refine⟨_,_,rfl,rfl,?_⟩;rw[hf0]at h;exact h (by(dsimp only;exact⟨Nat.le_trans (List.length_filter_le _ _) (by omega),Nat.le_trans (Int.ofNat_le.1 (Int.not_lt.1 h6)) (by decide)⟩))
def fa(s:co):Nat→Int→(List (List UInt8))→(List (List UInt8))⊕(Int×(List (List UInt8)))
 |0,s12,s3=> .inr (s12,s3)
 |n1+1,s12,s3=>
  if s12<(s.adds.length:Int)then
   fa s n1 (s12+1) (s3++ [(ix s.adds s12).elem])
  else
   .inr (s12,s3)
def bw(s:co):List (List UInt8):=
 if eL s=0 then
  match fa s (((s.adds.length:Int)- 0).toNat+1) 0 ([]:List (List UInt8))with
  | .inl r=>r
  | .inr (s12,s3)=>
   Qd (iV s3)
 else
  []
def R3:aW U:=⟨[.d (.st 11)],fun xs es K=> ∃(s:co),xs= [(ue s)]∧es= []∧(s.adds.length≤1000000)∧(s.gone.length≤1000000)∧K (.v (IU (bw s))) []⟩
theorem R4:Fk 51 R3:=by
 refine fo Tryz.f51 [.d (.sl .str)] [] (aa MF (aa OU (aa OS ae))) fun xs es K=>?_;rintro⟨s,rfl,rfl,h1,h2,h⟩;refine⟨rfl,?_⟩;have hf0:=bw.eq_1 s;refine⟨_,rfl,rfl,(by omega),?_⟩;refine fun _=>?_;refine wN hf0 (fun h1 hf0=>e0) fun h1 hf0=>?_;refine fl (x:=s.adds.length) fun h2=>?_;refine lI (σ:=Int×(List (List UInt8))) 2 (fun(s12,s3)=> [(2,.v ⟨false,[(1,.nils)]⟩),(3,.v (vo 1)),(10,.v (qN s.adds)),(11,.v (vi (s.adds.length:Int))),(12,.v (vi s12))]) (fun(s12,s3)=> [(1,.row 0 .str s3 9)]) (fun(s12,s3)=>((s.adds.length:Int)- s12).toNat) (fun(s12,s3)=>(0≤s12)∧(s12≤(s.adds.length:Int))∧((s3.length:Int)≤s12)∧True) (fun n1 (s12,s3)=>fa s n1 s12 s3) (fa s (((s.adds.length:Int)- 0).toNat+1) 0 ([]:List (List UInt8))) [] ((0:Int),([]:List (List UInt8))) ?_;rintro⟨s12,s3⟩ ⟨n1,hc1,⟨hi1_0,hi1_1,hi1_2,-⟩,hf1⟩;have hf1:=hf1.trans (fa.eq_2 s s12 s3 n1);refine wI hf1 (fun _ hf1=>?_) fun _ hf1=>?_
 ·refine vx s12 s.adds ?_;refine vs (P:=(s3.length+ [(ix s.adds s12).elem].length)*(16:Nat)≤(140737488355328:Nat)) ?_;refine fZ ?_;exact nx (s:=(s12,s3)) [] (s12+1,s3++ [(ix s.adds s12).elem]) hc1 hf1
 ·rw[hf1]at hf0;refine⟨_,rfl,rfl,(by omega),?_⟩;refine⟨_,rfl,rfl,?_⟩;exact e0
def iL(s:cL):Nat→Int→Int⊕(Int)
 |0,s38=> .inr s38
 |n1+1,s38=>
  if s38<(s.puts.length:Int)then
   if(¬(mu (ix s.puts s38)=true))∨(o0 s.gone (ix s.puts s38).tag=true)then
    .inl 3
   else
    iL s n1 (s38+1)
  else
   .inr s38
def eN(s:cL):Int:=
 if(4096<(s.puts.length:Int))∨(4096<(s.gone.length:Int))then
  8
 else
  if((cz (eM s.puts) fun(t:az)=>dK t)=true)∨((cz s.gone fun(t:az)=>dK t)=true)then
   2
  else
   if(¬(og (eM s.puts)=true))∨(¬(og s.gone=true))then
    3
   else
    match iL s (((s.puts.length:Int)- 0).toNat+1) 0 with
    | .inl r=>r
    | .inr s38=>
     0
def R5:aW U:=⟨[.d (.st 12)],fun xs es K=> ∃(s:cL),xs= [(sf s)]∧es= []∧(s.puts.length≤1000000)∧(s.gone.length≤1000000)∧((fun(r0:Int)=>r0=0→s.puts.length≤4096∧s.gone.length≤4096) (eN s)→K (.v (vi (eN s))) [])⟩
theorem ML:Fk 95 R5:=by
 refine fo Tryz.f95 [.d (.int .i64)] [] (aa NZ (aa JN (aa NY (aa Qp (aa HA (aa N4 ae)))))) fun xs es K=>?_;rintro⟨s,rfl,rfl,h1,h2,h⟩;refine⟨rfl,?_⟩;have hf0:=eN.eq_1 s;refine fl (x:=s.puts.length) fun _=>?_;refine wI hf0 (fun h1 hf0=>?_) fun h1 hf0=>?_
 ·rw[hf0]at h;exact h (by omega)
 ·refine⟨_,rfl,rfl,(by omega),?_⟩;refine⟨fun(t:az)=>dK t,fun t0=>⟨_,rfl,rfl,rfl,rfl⟩,?_⟩;refine⟨_,_,rfl,rfl,?_⟩;refine⟨_,fun h2=>⟨fun(t:az)=>dK t,fun t0=>⟨_,rfl,rfl,rfl,rfl⟩,_,_,rfl,rfl,rfl,rfl⟩,rfl,?_⟩;refine wI hf0 (fun _ hf0=>?_) fun _ hf0=>?_
  ·rw[hf0]at h;exact h (by omega)
  ·refine⟨_,rfl,rfl,?_⟩;refine⟨_,fun _=>⟨_,rfl,rfl,rfl,rfl⟩,rfl,?_⟩;refine wI hf0 (fun _ hf0=>?_) fun _ hf0=>?_
   ·rw[hf0]at h;exact h (by omega)
   ·refine fl (x:=s.puts.length) fun _=>?_;refine lI 1 (fun(s38:Int)=> [(1,.v (vp 0)),(2,.v (vi 0)),(36,.v (EN s.puts)),(37,.v (vi (s.puts.length:Int))),(38,.v (vi s38))]) (fun(s38:Int)=> [(0,.cells [(2,.d (.st 12) s)] 41)]) (fun(s38:Int)=>((s.puts.length:Int)- s38).toNat) (fun(s38:Int)=>(0≤s38)∧(s38≤(s.puts.length:Int))∧True) (fun n1 (s38:Int)=>iL s n1 s38) (iL s (((s.puts.length:Int)- 0).toNat+1) 0) [] (0:Int) ?_;rintro s38 ⟨n1,hc1,⟨hi1_0,hi1_1,-⟩,hf1⟩;have hf1:=hf1.trans (iL.eq_2 s s38 n1);refine wI hf1 (fun _ hf1=>?_) fun _ hf1=>?_
    ·refine vx s38 s.puts ?_;refine⟨_,rfl,rfl,?_⟩;refine⟨_,fun _=>⟨_,_,rfl,rfl,(by omega),rfl,rfl⟩,rfl,?_⟩;refine wI hf1 (fun _ hf1=>?_) fun _ hf1=>?_
     ·rw[hf1]at hf0;rw[hf0]at h;exact h (by omega)
     ·refine fZ ?_;exact nx [] (s38+1) hc1 hf1
    ·rw[hf1]at hf0;rw[hf0]at h;exact h (by omega)
def mz(p:bF)(gone:List (az)):Bool:=
 o0 gone p.tag
def N9:aW U:=⟨[.d (.st 5),.n],fun xs es K=> ∃(p:bF) (gone:List (az)),xs= [(I7 p),⟨false,[(1,.pd (.sl (.st 4)) gone)]⟩]∧es= []∧(gone.length≤1000000)∧K (.v (vb (mz p gone))) []⟩
theorem Oa:Fk 103 N9:=by
 refine fo Tryz.f103 [.d .bool] [] (aa HA ae) fun xs es K=>?_;rintro⟨p,gone,rfl,rfl,h2,h⟩;refine⟨rfl,?_⟩;have hf0:=mz.eq_1 p gone;refine⟨_,_,rfl,rfl,(by omega),?_⟩;exact e0
def fM(s:cL)(p:bF):cL×Int:=
 if eN s=0 then
  if dK p.tag=true then
   (cL.mk [] [],2)
  else
   if mu p=true then
    if(((eI (eM s.puts) p.tag fun(t t':az)=>ap t t').snd)=true)∨(o0 s.gone p.tag=true)then
     (cL.mk (gO s).fst (gO s).snd,0)
    else
     if(s.puts.length:Int)=4096 then
      (cL.mk [] [],4)
     else
      (cL.mk (hU (gO s).fst (eI (eM s.puts) p.tag fun(t t':az)=>ap t t').fst [p]) (gO s).snd,0)
   else
    (cL.mk [] [],3)
 else
  (cL.mk [] [],eN s)
def R6:aW U:=⟨[.d (.st 12),.d (.st 5)],fun xs es K=> ∃(s:cL) (p:bF),xs= [(sf s),(I7 p)]∧es= []∧(s.puts.length≤1000000)∧(s.gone.length≤1000000)∧((fun(r0:cL) (r1:Int)=>r0.puts.length≤4097∧r0.gone.length≤4097) ((fM s p).1) ((fM s p).2)→K (.tup [(sf ((fM s p).1)),(vi ((fM s p).2))]) [])⟩
theorem R7:Fk 39 R6:=by
 refine fo Tryz.f39 [.d (.st 12),.d (.int .i64)] [] (aa NZ (aa zJ (aa ML (aa NY (aa Qp (aa NF (aa RX (aa HA (aa OG ae))))))))) fun xs es K=>?_;rintro⟨s,p,rfl,rfl,h1,h2,h⟩;refine⟨rfl,?_⟩;have hf0:=fM.eq_1 s p;refine⟨_,rfl,rfl,(by omega),(by omega),?_⟩;refine fun _=>?_;refine wN hf0 (fun h1 hf0=>?_) fun h1 hf0=>?_
 ·rw[hf0]at h;exact h (by simp)
 ·refine⟨_,rfl,rfl,?_⟩;refine wI hf0 (fun h2 hf0=>?_) fun h2 hf0=>?_
  ·rw[hf0]at h;exact h (by simp)
  ·refine⟨_,rfl,rfl,?_⟩;refine wN hf0 (fun _ hf0=>?_) fun _ hf0=>?_
   ·rw[hf0]at h;exact h (by simp)
   ·refine dp [(true,0),(true,1),(true,3),(true,4),(false,2),(false,5),(true,6),(true,7),(true,8),(true,9),(true,10)] none (nw 3) ?_;refine⟨_,rfl,rfl,(by omega),?_⟩;refine⟨fun(t t':az)=>ap t t',fun t0 t1=>⟨_,_,rfl,rfl,rfl,rfl⟩,?_⟩;refine⟨_,_,_,rfl,rfl,(by(have hg:=qu s.puts;omega)),?_⟩;refine⟨_,rfl,rfl,(by omega),(by omega),?_⟩;refine⟨_,fun _=>⟨_,_,rfl,rfl,(by omega),rfl,rfl⟩,rfl,?_⟩;refine wI hf0 (fun _ hf0=>?_) fun _ hf0=>?_
    ·rw[hf0]at h;exact h (by(have e:gO s=(s.puts,s.gone):=rfl;simp only[e];omega))
    ·refine fl (x:=s.puts.length) fun _=>?_;refine wI hf0 (fun _ hf0=>?_) fun _ hf0=>?_
     ·rw[hf0]at h;exact h (by simp)
     ·refine⟨_,_,_,rfl,rfl,((tu _ _ _).1),(show(eI (eM s.puts) p.tag fun(t t':az)=>ap t t').fst≤(↑(gO s).fst.length:Int)from by(have hg:=qu s.puts;have h8:=(tu (eM s.puts) p.tag (fun t t1=>ap t t1)).2;have h9:(gO s).1=s.puts:=rfl;rw[h9];omega)),(by assumption),?_⟩;rw[hf0]at h;exact h (by(have e:gO s=(s.puts,s.gone):=rfl;dsimp only;rw[tt,e];simp only[List.length_cons,List.length_nil];omega))
def ig(s:cL)(l:List az):cL×Int:=
 if eN s=0 then
  if 4096<(l.length:Int)then
   (cL.mk [] [],8)
  else
   if(cz l fun(t:az)=>dK t)=true then
    (cL.mk [] [],2)
   else
    if 4096<((dd (be (fun(t t':az)=>ap t t') (s.gone++l))).length:Int)then
     (cL.mk [] [],4)
    else
     (cL.mk (List.filter (fun(x:bF)=>!mz x (dd (be (fun(t t':az)=>ap t t') (s.gone++l)))) s.puts) (dd (be (fun(t t':az)=>ap t t') (s.gone++l))),0)
 else
  (cL.mk [] [],eN s)
def R8:aW U:=⟨[.d (.st 12),.d (.sl (.st 4))],fun xs es K=> ∃(s:cL) (l:List az),xs= [(sf s),(nX l)]∧es= []∧(s.puts.length≤1000000)∧(s.gone.length≤900000)∧((fun(r0:cL) (r1:Int)=>r0.puts.length≤4097∧r0.gone.length≤4097) ((ig s l).1) ((ig s l).2)→K (.tup [(sf ((ig s l).1)),(vi ((ig s l).2))]) [])⟩
theorem R9:Fk 40 R8:=by
 refine fo Tryz.f40 [.d (.st 12),.d (.int .i64)] [] (aa JN (aa zJ (aa MN (aa Qy (aa QB (aa QA (aa ML (aa NY (aa JT (aa Oa ae)))))))))) fun xs es K=>?_;rintro⟨s,l,rfl,rfl,h1,h2,h⟩;refine⟨rfl,?_⟩;have hf0:=ig.eq_1 s l;refine⟨_,rfl,rfl,(by omega),(by omega),?_⟩;refine fun _=>?_;refine wN hf0 (fun h1 hf0=>?_) fun h1 hf0=>?_
 ·rw[hf0]at h;exact h (by simp)
 ·refine fl (x:=l.length) fun h2=>?_;refine wI hf0 (fun _ hf0=>?_) fun _ hf0=>?_
  ·rw[hf0]at h;exact h (by simp)
  ·refine⟨fun(t:az)=>dK t,fun t0=>⟨_,rfl,rfl,rfl,rfl⟩,?_⟩;refine⟨_,_,rfl,rfl,?_⟩;refine wI hf0 (fun _ hf0=>?_) fun _ hf0=>?_
   ·rw[hf0]at h;exact h (by simp)
   ·refine⟨_,_,rfl,rfl,(show s.gone.length≤(1000000:Nat)from by omega),(show l.length≤(1000000:Nat)from by omega),?_⟩;refine⟨fun(t t':az)=>ap t t',fun t0 t1=>⟨_,_,rfl,rfl,rfl,rfl⟩,?_⟩;refine⟨_,_,rfl,rfl,(o6 _),(show(s.gone++l).length<(4611686018427387904:Nat)from by(simp only[List.length_append,List.length_cons,List.length_nil];omega)),?_⟩;refine⟨_,rfl,rfl,?_⟩;refine fl (x:=(dd (be (fun(t t':az)=>ap t t') (s.gone++l))).length) fun _=>?_;refine wI hf0 (fun h6 hf0=>?_) fun h6 hf0=>?_
    ·rw[hf0]at h;exact h (by simp)
    ·refine⟨_,rfl,rfl,(by assumption),?_⟩;refine⟨fun(t:bF)=>mz t (dd (be (fun(t t':az)=>ap t t') (s.gone++l))),fun t0=>⟨_,_,rfl,rfl,(Nat.le_trans (Int.ofNat_le.1 (Int.not_lt.1 h6)) (show(4096:Nat)≤1000000 by decide)),rfl,rfl⟩,?_⟩;refine⟨_,_,rfl,rfl,?_⟩;rw[hf0]at h;exact h (by(dsimp only;exact⟨Nat.le_trans (List.length_filter_le _ _) (by omega),Nat.le_trans (Int.ofNat_le.1 (Int.not_lt.1 h6)) (by decide)⟩))
end Go.Proofs.YtmpeiadlohbikaaGreatDoor.V
end

section
set_option linter.unusedVariables false
set_option linter.unusedSimpArgs false
set_option maxRecDepth 20000
set_option maxHeartbeats 4000000
namespace Go.Proofs.YtmpeiadlohbikaaGreatDoor.V
open Go.RowKit
theorem cJ(s:dD):aN s=s:=rfl
def uP(o:ld):ld:=
 ld.mk o.act o.name o.val
def c9:aW U:=⟨[.d (.st 1)],fun xs es K=> ∃(o:ld),xs= [(MQ o)]∧es= []∧K (.v (MQ (uP o))) []⟩
theorem k9:Fk 9 c9:=by
 refine fo Tryz.f9 [.d (.st 1)] [] (ae) fun xs es K=>?_;rintro⟨o,rfl,rfl,h⟩;refine⟨rfl,?_⟩;have hf0:=uP.eq_1 o;exact e0
def eO(v:aF):Nat→Int→(List au)→aF⊕(Int×(List au))
 |0,s4,e3=> .inr (s4,e3)
 |n1+1,s4,e3=>
  if s4<(v.items.length:Int)then
   eO v n1 (s4+1) (e3++ [au.mk (ix v.items s4).field (ix v.items s4).val])
  else
   .inr (s4,e3)
def nJ(v:aF):aF:=
 match eO v (((v.items.length:Int)- 0).toNat+1) 0 ([]:List au)with
 | .inl r=>r
 | .inr (s4,e3)=>
  aF.mk v.kind v.val e3
def Sa:aW U:=⟨[.d (.st 7)],fun xs es K=> ∃(v:aF),xs= [(I4 v)]∧es= []∧(v.items.length≤1000000)∧K (.v (I4 (nJ v))) []⟩
theorem BD:Fk 15 Sa:=by
 refine fo Tryz.f15 [.d (.st 7)] [] (ae) fun xs es K=>?_;rintro⟨v,rfl,rfl,h1,h⟩;refine⟨rfl,?_⟩;have hf0:=nJ.eq_1 v;refine⟨Int×(List au),4,fun(s4,e3)=> [(1,.v ⟨false,[(1,.ptr 0 0)]⟩),(2,.v ⟨false,[(1,.ptr 1 0)]⟩),(3,.v ⟨false,[(1,.ptr 2 0)]⟩),(4,.v ⟨false,[(1,.d (.int .i64) s4)]⟩)],fun(s4,e3)=> [(0,.cells [(3,.d (.st 7) v)] 75),(1,.cells [(1,.d (.int .i64) (0:Int)),(1,.d (.int .i64) (0:Int)),(1,.nils)] 81),(2,.cells [(1,.d (.int .i64) v.kind),(1,.d (.int .i64) v.val),(1,.own 3 0)] 81),(3,.row 0 (.st 6) e3 149)],aS (fun(s4,e3)=>((↑v.items.length:Int)- s4).toNat) (fun(s4,e3)=>((0:Int)≤s4)∧(s4≤(↑v.items.length:Int))∧((e3.length:Int)≤s4)∧True) (fun n1 (s4,e3)=>eO v n1 s4 e3) (eO v (((↑v.items.length:Int)-(0:Int)).toNat+1) (0:Int) ([]:List au)),fun(s4,e3)=>((↑v.items.length:Int)- s4).toNat,⟨[],((0:Int),([]:List au)),aS.mk0 _ (Nat.lt_succ_self _) ⟨show(0:Int)≤(0:Int)from by omega,show(0:Int)≤(↑v.items.length:Int)from by omega,show(↑[].length:Int)≤(0:Int)from by(simp only[List.length_append,List.length_cons,List.length_nil];omega),trivial⟩ rfl,?_⟩,?_⟩
 ·repeat (first|exact trivial|refine And.intro rfl ?_)
 ·rintro⟨s4,e3⟩ ⟨n1,hc1,⟨hi1_0,hi1_1,hi1_2,-⟩,hf1⟩;have hf1:=hf1.trans (eO.eq_2 v s4 e3 n1);refine fun h0=>?_;have h0:(↑v.items.length:Int)≤(9223372036854775807:Int):=h0.2;refine vI hf1 iD (fun h1 hf1=>?_) (fun h1 hf1=>?_)
  ·refine .inl ⟨[(true,0),(true,1),(true,2),(true,3),(true,4),(true,5),(true,6),(true,7),(true,8),(true,9),(true,10),(true,11),(true,12),(true,13),(true,14),(false,15),(false,16),(true,17)],some 18,[3,4,5,6,7,8,9,10,11,12,13,14,15],by kernel_rfl,?_⟩;refine And.intro (show(0:Int)≤s4∧s4<(↑v.items.length:Int)from by omega) ?_;refine And.intro (show(0:Int)≤s4∧s4<(↑v.items.length:Int)from by omega) ?_;refine And.intro (show(e3.length+ [au.mk (ix v.items s4).field (ix v.items s4).val].length)*(24:Nat)≤(140737488355328:Nat)from by(simp only[List.length_append,List.length_cons,List.length_nil];omega)) ?_;refine .inl (And.intro (i6 (p:=s4) (q:=(1:Int)) (r:=s4+(1:Int)) (by omega)) ?_);have hm1:((↑v.items.length:Int)-(s4+(1:Int))).toNat<((↑v.items.length:Int)- s4).toNat:=by omega
   refine⟨[],(s4+(1:Int),e3++ [au.mk (ix v.items s4).field (ix v.items s4).val]),hm1,aS.next (s:=(s4,e3)) hc1 hm1 ⟨show(0:Int)≤s4+(1:Int)from by omega,show s4+(1:Int)≤(↑v.items.length:Int)from by omega,show(↑(e3++ [au.mk (ix v.items s4).field (ix v.items s4).val]).length:Int)≤s4+(1:Int)from by(simp only[List.length_append,List.length_cons,List.length_nil];omega),trivial⟩ hf1,?_⟩;repeat (first|exact trivial|refine And.intro rfl ?_)
  ·rw[hf1]at hf0;rw[hf0]at h;exact h
def iM(s:dD)(e:cU):dD×Int:=
 if iK e=0 then
  if dU e.act=s.kind then
   if e.act=1 then
    if(iH (aN s).reg e.val e.at_).snd=0 then
     (dD.mk (aN s).kind (iH (aN s).reg e.val e.at_).fst (aN s).num (aN s).set (aN s).map,0)
    else
     (dD.mk 0 (eU.mk 0 (aV.mk 0 0)) (dW.mk 0 0) (co.mk [] []) (cL.mk [] []),(iH (aN s).reg e.val e.at_).snd)
   else
    if e.act=2 then
     if(iJ (aN s).num e.val).snd=0 then
      (dD.mk (aN s).kind (aN s).reg (iJ (aN s).num e.val).fst (aN s).set (aN s).map,0)
     else
      (dD.mk 0 (eU.mk 0 (aV.mk 0 0)) (dW.mk 0 0) (co.mk [] []) (cL.mk [] []),(iJ (aN s).num e.val).snd)
    else
     if e.act=3 then
      if(jT (aN s).set (bS.mk e.tag e.name)).snd=0 then
       (dD.mk (aN s).kind (aN s).reg (aN s).num (jT (aN s).set (bS.mk e.tag e.name)).fst (aN s).map,0)
      else
       (dD.mk 0 (eU.mk 0 (aV.mk 0 0)) (dW.mk 0 0) (co.mk [] []) (cL.mk [] []),(jT (aN s).set (bS.mk e.tag e.name)).snd)
     else
      if e.act=4 then
       if(ie (aN s).set e.tags).snd=0 then
        (dD.mk (aN s).kind (aN s).reg (aN s).num (ie (aN s).set e.tags).fst (aN s).map,0)
       else
        (dD.mk 0 (eU.mk 0 (aV.mk 0 0)) (dW.mk 0 0) (co.mk [] []) (cL.mk [] []),(ie (aN s).set e.tags).snd)
      else
       if e.act=5 then
        if(fM (aN s).map (bF.mk e.tag e.name e.val e.at_)).snd=0 then
         (dD.mk (aN s).kind (aN s).reg (aN s).num (aN s).set (fM (aN s).map (bF.mk e.tag e.name e.val e.at_)).fst,0)
        else
         (dD.mk 0 (eU.mk 0 (aV.mk 0 0)) (dW.mk 0 0) (co.mk [] []) (cL.mk [] []),(fM (aN s).map (bF.mk e.tag e.name e.val e.at_)).snd)
       else
        if e.act=6 then
         if(ig (aN s).map e.tags).snd=0 then
          (dD.mk (aN s).kind (aN s).reg (aN s).num (aN s).set (ig (aN s).map e.tags).fst,0)
         else
          (dD.mk 0 (eU.mk 0 (aV.mk 0 0)) (dW.mk 0 0) (co.mk [] []) (cL.mk [] []),(ig (aN s).map e.tags).snd)
        else
         (aN s,0)
  else
   (dD.mk 0 (eU.mk 0 (aV.mk 0 0)) (dW.mk 0 0) (co.mk [] []) (cL.mk [] []),5)
 else
  (dD.mk 0 (eU.mk 0 (aV.mk 0 0)) (dW.mk 0 0) (co.mk [] []) (cL.mk [] []),iK e)
def Sb:aW U:=⟨[.d (.st 15),.d (.st 16)],fun xs es K=> ∃(s:dD) (e:cU),xs= [(vm s),(IT e)]∧es= []∧(s.set.adds.length≤4097)∧(s.set.gone.length≤4097)∧(s.map.puts.length≤4097)∧(s.map.gone.length≤4097)∧((fun(r0:dD) (r1:Int)=>r0.set.adds.length≤4097∧r0.set.gone.length≤4097∧r0.map.puts.length≤4097∧r0.map.gone.length≤4097) ((iM s e).1) ((iM s e).2)→K (.tup [(vm ((iM s e).1)),(vi ((iM s e).2))]) [])⟩
theorem wt:Fk 10 Sb:=by
 refine fo Tryz.f10 [.d (.st 15),.d (.int .i64)] [] (aa Hz (aa RU (aa RR (aa RG (aa RN (aa Ry (aa R2 (aa R7 (aa R9 ae))))))))) fun xs es K=>?_;rintro⟨s,e,rfl,rfl,h1,h2,h3,h4,h⟩;refine⟨rfl,?_⟩;have hf0:=iM.eq_1 s e;refine⟨_,rfl,rfl,?_⟩;refine fun _=>?_;refine wN hf0 (fun h1 hf0=>?_) fun h1 hf0=>?_
 ·rw[hf0]at h;exact h (by simp)
 ·refine dp [(true,0),(true,1),(true,3),(true,4),(false,2),(true,5)] none (nw 3) ?_;refine⟨_,rfl,rfl,?_⟩;refine wN hf0 (fun h2 hf0=>?_) fun h2 hf0=>?_
  ·rw[hf0]at h;exact h (by simp)
  ·refine⟨_,rfl,rfl,(by omega),(by omega),(by omega),(by omega),?_⟩;refine wI hf0 (fun h3 hf0=>?_) fun h3 hf0=>?_
   ·refine⟨_,_,_,rfl,rfl,?_⟩;refine wN hf0 (fun h4 hf0=>?_) fun h4 hf0=>?_
    ·rw[hf0]at h;exact h (by simp)
    ·rw[hf0]at h;exact h (by(simp only[cJ]at*;omega))
   ·refine wI hf0 (fun _ hf0=>?_) fun _ hf0=>?_
    ·refine⟨_,_,rfl,rfl,?_⟩;refine wN hf0 (fun _ hf0=>?_) fun _ hf0=>?_
     ·rw[hf0]at h;exact h (by simp)
     ·rw[hf0]at h;exact h (by(simp only[cJ]at*;omega))
    ·refine wI hf0 (fun _ hf0=>?_) fun _ hf0=>?_
     ·refine⟨_,_,rfl,rfl,(by(rw[cJ s];omega)),(by(rw[cJ s];omega)),?_⟩;refine fun _=>?_;refine wN hf0 (fun _ hf0=>?_) fun _ hf0=>?_
      ·rw[hf0]at h;exact h (by simp)
      ·rw[hf0]at h;exact h (by(simp only[cJ]at*;omega))
     ·refine wI hf0 (fun _ hf0=>?_) fun _ hf0=>?_
      ·refine⟨_,_,rfl,rfl,(by(rw[cJ s];omega)),(by(rw[cJ s];omega)),?_⟩;refine fun _=>?_;refine wN hf0 (fun _ hf0=>?_) fun _ hf0=>?_
       ·rw[hf0]at h;exact h (by simp)
       ·rw[hf0]at h;exact h (by(simp only[cJ]at*;omega))
      ·refine wI hf0 (fun _ hf0=>?_) fun _ hf0=>?_
       ·refine⟨_,_,rfl,rfl,(by(rw[cJ s];omega)),(by(rw[cJ s];omega)),?_⟩;refine fun _=>?_;refine wN hf0 (fun _ hf0=>?_) fun _ hf0=>?_
        ·rw[hf0]at h;exact h (by simp)
        ·rw[hf0]at h;exact h (by(simp only[cJ]at*;omega))
       ·refine wI hf0 (fun _ hf0=>?_) fun _ hf0=>?_
        ·refine⟨_,_,rfl,rfl,(by(rw[cJ s];omega)),(by(rw[cJ s];omega)),?_⟩;refine fun _=>?_;refine wN hf0 (fun _ hf0=>?_) fun _ hf0=>?_
         ·rw[hf0]at h;exact h (by simp)
         ·rw[hf0]at h;exact h (by(simp only[cJ]at*;omega))
        ·refine vF iD (by omega) ?_;rw[hf0]at h;exact h (show((fun(r0:dD) (r1:Int)=>r0.set.adds.length≤4097∧r0.set.gone.length≤4097∧r0.map.puts.length≤4097∧r0.map.gone.length≤4097) (aN s) (0:Int):Prop)from by(rw[cJ s];omega))
def iQ(s:co)(elem:List UInt8):Nat→Int→(List az)→(List az)⊕(Int×(List az))
 |0,s14,s5=> .inr (s14,s5)
 |n1+1,s14,s5=>
  if s14<(s.adds.length:Int)then
   if(ix s.adds s14).elem=elem then
    iQ s elem n1 (s14+1) (s5++ [(ix s.adds s14).tag])
   else
    iQ s elem n1 (s14+1) s5
  else
   .inr (s14,s5)
def oh(s:co)(elem:List UInt8):List az:=
 if eL s=0 then
  match iQ s elem (((s.adds.length:Int)- 0).toNat+1) 0 ([]:List az)with
  | .inl r=>r
  | .inr (s14,s5)=>
   s5
 else
  []
def Sc:aW U:=⟨[.d (.st 11),.d .str],fun xs es K=> ∃(s:co) (elem:List UInt8),xs= [(ue s),(vt elem)]∧es= []∧(s.adds.length≤1000000)∧(s.gone.length≤1000000)∧((fun(r0:List az)=>r0.length≤4096) (oh s elem)→K (.v (nX (oh s elem))) [])⟩
theorem Qt:Fk 31 Sc:=by
 refine fo Tryz.f31 [.d (.sl (.st 4))] [] (aa MF ae) fun xs es K=>?_;rintro⟨s,elem,rfl,rfl,h1,h2,h⟩;refine⟨rfl,?_⟩;have hf0:=oh.eq_1 s elem;refine⟨_,rfl,rfl,(by omega),?_⟩;refine fun _=>?_;refine wN hf0 (fun h1 hf0=>?_) fun h1 hf0=>?_
 ·rw[hf0]at h;exact h (by simp)
 ·refine fl (x:=s.adds.length) fun h2=>?_;refine lI (σ:=Int×(List az)) 2 (fun(s14,s5)=> [(1,.v (vt elem)),(4,.v ⟨false,[(1,.nils)]⟩),(5,.v (vo 1)),(12,.v (qN s.adds)),(13,.v (vi (s.adds.length:Int))),(14,.v (vi s14))]) (fun(s14,s5)=> [(1,.row 0 (.st 4) s5 61)]) (fun(s14,s5)=>((s.adds.length:Int)- s14).toNat) (fun(s14,s5)=>(0≤s14)∧(s14≤(s.adds.length:Int))∧((s5.length:Int)≤s14)∧True) (fun n1 (s14,s5)=>iQ s elem n1 s14 s5) (iQ s elem (((s.adds.length:Int)- 0).toNat+1) 0 ([]:List az)) [] ((0:Int),([]:List az)) ?_;rintro⟨s14,s5⟩ ⟨n1,hc1,⟨hi1_0,hi1_1,hi1_2,-⟩,hf1⟩;have hf1:=hf1.trans (iQ.eq_2 s elem s14 s5 n1);refine wI hf1 (fun _ hf1=>?_) fun _ hf1=>?_
  ·refine vx s14 s.adds ?_;refine wI hf1 (fun _ hf1=>?_) fun _ hf1=>?_
   ·refine vs (P:=(s5.length+ [(ix s.adds s14).tag].length)*(24:Nat)≤(140737488355328:Nat)) ?_;refine fZ ?_;exact nx (s:=(s14,s5)) [] (s14+1,s5++ [(ix s.adds s14).tag]) hc1 hf1
   ·refine fZ ?_;exact nx (s:=(s14,s5)) [] (s14+1,s5) hc1 hf1
  ·rw[hf1]at hf0;rw[hf0]at h;exact h (show((fun(r0:List az)=>r0.length≤4096) s5:Prop)from by omega)
def nk(p:bF)(field:List UInt8):Bool:=
 decide ¬p.field=field
def Ob:aW U:=⟨[.d (.st 5),.n],fun xs es K=> ∃(p:bF) (field:List UInt8),xs= [(I7 p),⟨false,[(1,.pd .str field)]⟩]∧es= []∧K (.v (vb (nk p field))) []⟩
theorem Oc:Fk 148 Ob:=by
 refine fo Tryz.f148 [.d .bool] [] (ae) fun xs es K=>?_;rintro⟨p,field,rfl,rfl,h⟩;refine⟨rfl,?_⟩;have hf0:=nk.eq_1 p field;exact e0
def wu(s:cL)(field:List UInt8):List bF:=
 if eN s=0 then
  List.filter (fun(x:bF)=>!nk x field) s.puts
 else
  []
def Sd:aW U:=⟨[.d (.st 12),.d .str],fun xs es K=> ∃(s:cL) (field:List UInt8),xs= [(sf s),(vt field)]∧es= []∧(s.puts.length≤1000000)∧(s.gone.length≤1000000)∧((fun(r0:List bF)=>r0.length≤4096) (wu s field)→K (.v (EN (wu s field))) [])⟩
theorem Se:Fk 75 Sd:=by
 refine fo Tryz.f75 [.d (.sl (.st 5))] [] (aa MN (aa ML (aa JT (aa Oc ae)))) fun xs es K=>?_;rintro⟨s,field,rfl,rfl,h1,h2,h⟩;refine⟨rfl,?_⟩;have hf0:=wu.eq_1 s field;refine⟨_,rfl,rfl,(by omega),(by omega),?_⟩;refine fun _=>?_;refine wN hf0 (fun h1 hf0=>?_) fun h1 hf0=>?_
 ·rw[hf0]at h;exact h (by simp)
 ·refine⟨_,rfl,rfl,(by assumption),?_⟩;refine⟨fun(t:bF)=>nk t field,fun t0=>⟨_,_,rfl,rfl,rfl,rfl⟩,?_⟩;refine⟨_,_,rfl,rfl,?_⟩;rw[hf0]at h;exact h (show((fun(r0:List bF)=>r0.length≤4096) (List.filter (fun(x:bF)=>!nk x field) s.puts):Prop)from by(have hl:=List.length_filter_le (fun(x:bF)=>!nk x field) s.puts;dsimp only;omega))
def nl(s:cL)(field:List UInt8):List az:=
 eM (wu s field)
def Sf:aW U:=⟨[.d (.st 12),.d .str],fun xs es K=> ∃(s:cL) (field:List UInt8),xs= [(sf s),(vt field)]∧es= []∧(s.puts.length≤1000000)∧(s.gone.length≤1000000)∧K (.v (nX (nl s field))) []⟩
theorem Od:Fk 32 Sf:=by
 refine fo Tryz.f32 [.d (.sl (.st 4))] [] (aa NZ (aa Se ae)) fun xs es K=>?_;rintro⟨s,field,rfl,rfl,h1,h2,h⟩;refine⟨rfl,?_⟩;have hf0:=nl.eq_1 s field;refine⟨_,_,rfl,rfl,(by omega),(by omega),?_⟩;refine fun _=>?_;refine⟨_,rfl,rfl,(by omega),?_⟩;exact e0
def jY(s:dD)(o:ld)(tag:az)(tm:aV):cU×Int:=
 if cd o=0 then
  if dU o.act=s.kind then
   if e9 tag=true then
    (cU.mk 0 [] 0 (az.mk (bD.mk 0 0) 0) (aV.mk 0 0) [],2)
   else
    if kG tm=true then
     if o.act=1 then
      (cU.mk o.act o.name o.val tag tm [],0)
     else
      if o.act=5 then
       (cU.mk o.act o.name o.val tag tm [],0)
      else
       if o.act=4 then
        (cU.mk o.act o.name o.val tag (aV.mk 0 0) (oh s.set o.name),0)
       else
        if o.act=6 then
         (cU.mk o.act o.name o.val tag (aV.mk 0 0) (nl s.map o.name),0)
        else
         (cU.mk o.act o.name o.val tag (aV.mk 0 0) [],0)
    else
     (cU.mk 0 [] 0 (az.mk (bD.mk 0 0) 0) (aV.mk 0 0) [],3)
  else
   (cU.mk 0 [] 0 (az.mk (bD.mk 0 0) 0) (aV.mk 0 0) [],5)
 else
  (cU.mk 0 [] 0 (az.mk (bD.mk 0 0) 0) (aV.mk 0 0) [],cd o)
def c8:aW U:=⟨[.d (.st 15),.d (.st 1),.d (.st 4),.d (.st 2)],fun xs es K=> ∃(s:dD) (o:ld) (tag:az) (tm:aV),xs= [(vm s),(MQ o),(x8 tag),(I6 tm)]∧es= []∧(s.set.adds.length≤900000)∧(s.set.gone.length≤900000)∧(s.map.puts.length≤900000)∧(s.map.gone.length≤900000)∧K (.tup [(IT ((jY s o tag tm).1)),(vi ((jY s o tag tm).2))]) []⟩
theorem k8:Fk 8 c8:=by
 refine fo Tryz.f8 [.d (.st 16),.d (.int .i64)] [] (aa I1 (aa Hz (aa MJ (aa MK (aa Qt (aa Od ae)))))) fun xs es K=>?_;rintro⟨s,o,tag,tm,rfl,rfl,h1,h2,h3,h4,h⟩;refine⟨rfl,?_⟩;have hf0:=jY.eq_1 s o tag tm;refine⟨_,rfl,rfl,?_⟩;refine wN hf0 (fun _ hf0=>e0) fun _ hf0=>?_;refine dp [(true,0),(true,1),(true,3),(true,4),(false,2),(true,5),(true,6)] none (nw 5) ?_;refine⟨_,rfl,rfl,?_⟩;refine wN hf0 (fun h1 hf0=>e0) fun h1 hf0=>?_;refine⟨_,rfl,rfl,?_⟩;refine wI hf0 (fun h2 hf0=>e0) fun h2 hf0=>?_;refine⟨_,rfl,rfl,?_⟩;refine wN hf0 (fun h3 hf0=>e0) fun h3 hf0=>?_;refine wI hf0 (fun h4 hf0=>?_) fun h4 hf0=>?_
 ·refine vT iD (by omega) ?_;exact e0
 ·refine wI hf0 (fun _ hf0=>e0) fun _ hf0=>?_;refine wI hf0 (fun _ hf0=>?_) fun _ hf0=>?_
  ·refine⟨_,_,rfl,rfl,(by omega),(by omega),?_⟩;refine fun _=>?_;exact e0
  ·refine wI hf0 (fun _ hf0=>?_) fun _ hf0=>e0;refine⟨_,_,rfl,rfl,(by omega),(by omega),?_⟩;exact e0
end Go.Proofs.YtmpeiadlohbikaaGreatDoor.V
end

/- Functions walked: printed by the walker. -/
import Derived.Test.YtmpeiadlohbikaaGreatDoorAt19
import Derived.Test.YtmpeiadlohbikaaGreatDoorAt18
section
set_option linter.unusedVariables false
set_option linter.unusedSimpArgs false
set_option maxRecDepth 20000
set_option maxHeartbeats 4000000
namespace Go.Proofs.YtmpeiadlohbikaaGreatDoor.V
open Go.RowKit
def fS(v:List Int):Nat→Int→Int⊕(Int)
 |0,s6=> .inr s6
 |n1+1,s6=>
  if s6<8 then
   if 1048576<ix v s6 then
    .inl 2
   else
    fS v n1 (s6+1)
  else
   .inr s6
def im(v:List Int):Int:=
 match fS v (((8:Int)-(0:Int)).toNat+1) (0:Int)with
 | .inl r=>r
 | .inr s6=>
  0
def LB:aW U:=⟨[.d (.arr 8 (.int .u32))],fun xs es K=> ∃(v:List Int),xs= [(ja v)]∧es= []∧K (.v (vi (im v))) []⟩
theorem PG:Fk 134 LB:=by
 refine fo Tryz.f134 [.d (.int .i64)] [] (ah) fun xs es K=>?_;rintro⟨v,rfl,rfl,h⟩;refine⟨rfl,?_⟩;have hf0:=im.eq_1 v;refine lI 1 (fun(s6:Int)=> [(2,.v (vi 0)),(5,.v (ja v)),(6,.v (vi s6))]) (fun(s6:Int)=> []) (fun(s6:Int)=>(8 - s6).toNat) (fun(s6:Int)=>(0≤s6)∧(s6≤8)∧True) (fun n1 (s6:Int)=>fS v n1 s6) (fS v (((8:Int)-(0:Int)).toNat+1) (0:Int)) [] (0:Int) ?_;rintro s6 ⟨n1,hc1,⟨hi1_0,hi1_1,-⟩,hf1⟩;have hf1:=hf1.trans (fS.eq_2 v s6 n1);refine wI hf1 (fun _ hf1=>?_) fun _ hf1=>e1;refine vs (P:=0≤s6∧s6<((8:Nat):Int)) ?_;refine wI hf1 (fun _ hf1=>e1) fun _ hf1=>?_;refine gT ?_;exact nx [] (s6+1) hc1 hf1
def kB(b:List Int):Nat→Int→(List Int)→(List Int)⊕(Int×(List Int))
 |0,s8,s2_0=> .inr (s8,s2_0)
 |n1+1,s8,s2_0=>
  if s8<8 then
   kB b n1 (s8+1) (s2_0.set s8.toNat (max (ix s2_0 s8) (ix b s8)))
  else
   .inr (s8,s2_0)
def oS(a:List Int)(b:List Int):List Int:=
 match kB b (((8:Int)-(0:Int)).toNat+1) (0:Int) a with
 | .inl r=>r
 | .inr (s8,s2_0)=>
  s2_0
def PI:aW U:=⟨[.d (.arr 8 (.int .u32)),.d (.arr 8 (.int .u32))],fun xs es K=> ∃(a:List Int) (b:List Int),xs= [(ja a),(ja b)]∧es= []∧K (.v (ja (oS a b))) []⟩
theorem PJ:Fk 124 PI:=by
 refine fo Tryz.f124 [.d (.arr 8 (.int .u32))] [] (ah) fun xs es K=>?_;rintro⟨a,b,rfl,rfl,h⟩;refine⟨rfl,?_⟩;have hf0:=oS.eq_1 a b;refine⟨Int×(List Int),3,fun(s8,s2_0)=> [(2,.v ⟨false,[(1,.ptr 0 0)]⟩),(4,.v ⟨false,[(1,.ptr 2 0)]⟩),(7,.v ⟨true,[(8,.d (.arr 8 (.int .u32)) b)]⟩),(8,.v ⟨false,[(1,.d (.int .i64) s8)]⟩)],fun(s8,s2_0)=> [(0,.cells [(8,.d (.arr 8 (.int .u32)) s2_0)] 45),(2,.cells [(1,.d (.int .u32) (0:Int)),(1,.d (.int .u32) (0:Int)),(1,.d (.int .u32) (0:Int)),(1,.d (.int .u32) (0:Int)),(1,.d (.int .u32) (0:Int)),(1,.d (.int .u32) (0:Int)),(1,.d (.int .u32) (0:Int)),(1,.d (.int .u32) (0:Int))] 45)],aN (fun(s8,s2_0)=>((8:Int)- s8).toNat) (fun(s8,s2_0)=>((0:Int)≤s8)∧(s8≤(8:Int))∧True) (fun n1 (s8,s2_0)=>kB b n1 s8 s2_0) (kB b (((8:Int)-(0:Int)).toNat+1) (0:Int) a),fun(s8,s2_0)=>((8:Int)- s8).toNat,⟨[],((0:Int),a),aN.mk0 _ (Nat.lt_succ_self _) ⟨show(0:Int)≤(0:Int)from by omega,show(0:Int)≤(8:Int)from by omega,trivial⟩ rfl,?_⟩,?_⟩
 ·repeat (first|exact trivial|refine And.intro rfl ?_)
 ·rintro⟨s8,s2_0⟩ ⟨n1,hc1,⟨hi1_0,hi1_1,-⟩,hf1⟩;have hf1:=hf1.trans (kB.eq_2 b s8 s2_0 n1);refine vI hf1 iD (fun _ hf1=>?_) (fun _ hf1=>?_)
  ·refine And.intro (show(0:Int)≤s8∧s8<(↑(8:Nat):Int)from by omega) ?_;refine .inl ?_;refine And.intro (show(0:Int)≤s8∧s8<(↑(8:Nat):Int)from by omega) ?_;refine .inl ?_;refine And.intro (show(0:Int)≤s8∧s8<(↑(8:Nat):Int)from by omega) ?_;refine .inl (And.intro (jc (p:=s8) (q:=(1:Int)) (r:=s8+(1:Int)) (by omega)) ?_);have hm1:((8:Int)-(s8+(1:Int))).toNat<((8:Int)- s8).toNat:=by omega
   refine⟨[],(s8+(1:Int),s2_0.set s8.toNat (max (ix s2_0 s8) (ix b s8))),hm1,aN.next (s:=(s8,s2_0)) hc1 hm1 ⟨show(0:Int)≤s8+(1:Int)from by omega,show s8+(1:Int)≤(8:Int)from by omega,trivial⟩ hf1,?_⟩;repeat (first|exact trivial|refine And.intro rfl ?_)
  ·rw[hf1]at hf0;rw[hf0]at h;exact h
def jZ(a:List Int)(b:List Int):Bool:=
 decide (oS a b=b)
def Ov:aW U:=⟨[.d (.arr 8 (.int .u32)),.d (.arr 8 (.int .u32))],fun xs es K=> ∃(a:List Int) (b:List Int),xs= [(ja a),(ja b)]∧es= []∧K (.v (vb (jZ a b))) []⟩
theorem Ox:Fk 56 Ov:=by
 refine fo Tryz.f56 [.d .bool] [] (aa PJ ah) fun xs es K=>?_;rintro⟨a,b,rfl,rfl,h⟩;refine⟨rfl,?_⟩;have hf0:=jZ.eq_1 a b;refine dp [(true,0),(true,1),(true,3),(false,2),(true,4),(true,5)] none (nw 2) ?_;refine⟨_,_,rfl,rfl,?_⟩;exact e0
theorem lm{id:bC}(h:dQ id=0):0≤id.origin∧id.origin≤7∧id.seq≤1048576:=by
 unfold dQ at h;split at h
 ·cases h
 ·omega
def gN(v:List Int)(id:bC):Bool:=
 decide (dQ id=0)&&decide (id.seq≤ix v id.origin)
def Oy:aW U:=⟨[.d (.arr 8 (.int .u32)),.d (.st 0)],fun xs es K=> ∃(v:List Int) (id:bC),xs= [(ja v),(FZ id)]∧es= []∧K (.v (vb (gN v id))) []⟩
theorem Gn:Fk 55 Oy:=by
 refine fo Tryz.f55 [.d .bool] [] (aa IT ah) fun xs es K=>?_;rintro⟨v,id,rfl,rfl,h⟩;refine⟨rfl,?_⟩;have hf0:=gN.eq_1 v id;refine dp [(true,0),(false,1),(true,2),(true,3),(true,4),(true,5),(true,6),(true,7),(true,8),(true,9),(true,10),(true,11),(true,12)] none (nw 2) ?_;refine⟨_,rfl,rfl,?_⟩;refine .inl ?_;refine And.intro (show decide (dQ id=(0:Int))=((8:Nat),true).snd→(0:Int)≤id.origin∧id.origin<(↑(8:Nat):Int)from(fun h=>⟨(lm (of_decide_eq_true h)).1,by have:=(lm (of_decide_eq_true h)).2.1;simp;omega⟩)) ?_;exact e0
def pH(a:fK)(b:fK):fK:=
 if gW [fQ a.at_ b.at_,sJ a.val b.val]<0 then
  b
 else
  a
def Tn:aW U:=⟨[.d (.st 13),.d (.st 13)],fun xs es K=> ∃(a:fK) (b:fK),xs= [(Cy a),(Cy b)]∧es= []∧K (.v (Cy (pH a b))) []⟩
theorem To:Fk 82 Tn:=by
 refine fo Tryz.f82 [.d (.st 13)] [] (aa IU (aa Lw (aa AP ah))) fun xs es K=>?_;rintro⟨a,b,rfl,rfl,h⟩;refine⟨rfl,?_⟩;have hf0:=pH.eq_1 a b;refine dp [(true,0),(true,1),(true,2),(true,3),(true,5),(true,6),(true,7),(true,8),(false,4),(false,9),(false,10),(false,11),(true,12)] none (nw 3) ?_;refine⟨_,_,rfl,rfl,?_⟩;refine⟨_,_,rfl,rfl,?_⟩;refine⟨_,rfl,rfl,?_⟩;exact wI hf0 (fun _ hf0=>e0) fun _ hf0=>e0
def jh(s:fK)(val:Int)(tm:aV):fK×Int:=
 if eN [gF s.at_,gF tm]=0 then
  if tm.time=0 then
   (fK.mk 0 (aV.mk 0 0),2)
  else
   (pH s (fK.mk val tm),0)
 else
  (fK.mk 0 (aV.mk 0 0),eN [gF s.at_,gF tm])
def Tp:aW U:=⟨[.d (.st 13),.d (.int .i64),.d (.st 2)],fun xs es K=> ∃(s:fK) (val:Int) (tm:aV),xs= [(Cy s),(vi val),(J3 tm)]∧es= []∧K (.tup [(Cy ((jh s val tm).1)),(vi ((jh s val tm).2))]) []⟩
theorem Tq:Fk 35 Tp:=by
 refine fo Tryz.f35 [.d (.st 13),.d (.int .i64)] [] (aa Po (aa Pi (aa To ah))) fun xs es K=>?_;rintro⟨s,val,tm,rfl,rfl,h⟩;refine⟨rfl,?_⟩;have hf0:=jh.eq_1 s val tm;refine dp [(true,0),(true,1),(true,3),(false,2),(false,4),(false,5),(false,6),(true,7)] none (nw 3) ?_;refine⟨_,rfl,rfl,?_⟩;refine⟨_,rfl,rfl,?_⟩;refine⟨_,rfl,rfl,?_⟩;refine wN hf0 (fun _ hf0=>e0) fun _ hf0=>?_;refine wI hf0 (fun _ hf0=>e0) fun _ hf0=>?_;refine⟨_,_,rfl,rfl,?_⟩;exact e0
def io(low:Int)(high:Int)(l:List Int):Nat→Int→Bool⊕(Int)
 |0,s11=> .inr s11
 |n1+1,s11=>
  if s11<(l.length:Int)then
   if(ix l s11<low)∨(high<ix l s11)then
    .inl false
   else
    io low high l n1 (s11+1)
  else
   .inr s11
def ln(low:Int)(high:Int)(l:List Int):Bool:=
 match io low high l (((l.length:Int)- 0).toNat+1) 0 with
 | .inl r=>r
 | .inr s11=>
  true
def PK:aW U:=⟨[.d (.int .i64),.d (.int .i64),.d (.sl (.int .i64))],fun xs es K=> ∃(low:Int) (high:Int) (l:List Int),xs= [(vi low),(vi high),(KB l)]∧es= []∧K (.v (vb (ln low high l))) []⟩
theorem PL:Fk 150 PK:=by
 refine fo Tryz.f150 [.d .bool] [] (ah) fun xs es K=>?_;rintro⟨low,high,l,rfl,rfl,h⟩;refine⟨rfl,?_⟩;have hf0:=ln.eq_1 low high l;refine fl (x:=l.length) fun _=>?_;refine lI 0 (fun(s11:Int)=> [(0,.v (vi low)),(1,.v (vi high)),(6,.v (vb false)),(9,.v (KB l)),(10,.v (vi (l.length:Int))),(11,.v (vi s11))]) (fun(s11:Int)=> []) (fun(s11:Int)=>((l.length:Int)- s11).toNat) (fun(s11:Int)=>(0≤s11)∧(s11≤(l.length:Int))∧True) (fun n1 (s11:Int)=>io low high l n1 s11) (io low high l (((l.length:Int)- 0).toNat+1) 0) [] (0:Int) ?_;rintro s11 ⟨n1,hc1,⟨hi1_0,hi1_1,-⟩,hf1⟩;have hf1:=hf1.trans (io.eq_2 low high l s11 n1);refine wI hf1 (fun _ hf1=>?_) fun _ hf1=>e1;refine vx s11 l ?_;refine wI hf1 (fun _ hf1=>e1) fun _ hf1=>?_;refine gT ?_;exact nx [] (s11+1) hc1 hf1
def gX(a:Int)(b:Int):Int×Int:=
 if ln (-1125899906842624) 1125899906842624 [a,b]=true then
  if ln (-1125899906842624) 1125899906842624 [IntKind.i64.wrap (a+b)]=true then
   (IntKind.i64.wrap (a+b),0)
  else
   (0,12)
 else
  (0,2)
def Tr:aW U:=⟨[.d (.int .i64),.d (.int .i64)],fun xs es K=> ∃(a:Int) (b:Int),xs= [(vi a),(vi b)]∧es= []∧K (.tup [(vi ((gX a b).1)),(vi ((gX a b).2))]) []⟩
theorem Ts:Fk 84 Tr:=by
 refine fo Tryz.f84 [.d (.int .i64),.d (.int .i64)] [] (aa PL ah) fun xs es K=>?_;rintro⟨a,b,rfl,rfl,h⟩;refine⟨rfl,?_⟩;have hf0:=gX.eq_1 a b;refine⟨_,_,_,rfl,rfl,?_⟩;refine wN hf0 (fun _ hf0=>e0) fun _ hf0=>?_;refine .inr ?_;refine⟨_,_,_,rfl,rfl,?_⟩;refine wN hf0 (fun _ hf0=>e0) fun _ hf0=>?_;refine .inr ?_;exact e0
def ji(s:eT):Nat→Int→Int⊕(Int)
 |0,s10=> .inr s10
 |n1+1,s10=>
  if s10<2 then
   if(ix [s.plus,s.minus] s10<0)∨(1125899906842624<ix [s.plus,s.minus] s10)then
    .inl 2
   else
    ji s n1 (s10+1)
  else
   .inr s10
def kC(s:eT):Int:=
 match ji s (((2:Int)-(0:Int)).toNat+1) (0:Int)with
 | .inl r=>r
 | .inr s10=>
  0
def Tt:aW U:=⟨[.d (.st 14)],fun xs es K=> ∃(s:eT),xs= [(F3 s)]∧es= []∧K (.v (vi (kC s))) []⟩
theorem Sc:Fk 83 Tt:=by
 refine fo Tryz.f83 [.d (.int .i64)] [] (ah) fun xs es K=>?_;rintro⟨s,rfl,rfl,h⟩;refine⟨rfl,?_⟩;have hf0:=kC.eq_1 s;refine lI 1 (fun(s10:Int)=> [(2,.v (vi 0)),(9,.v ⟨true,[(1,.d (.int .i64) s.plus),(1,.d (.int .i64) s.minus)]⟩),(10,.v (vi s10))]) (fun(s10:Int)=> []) (fun(s10:Int)=>(2 - s10).toNat) (fun(s10:Int)=>(0≤s10)∧(s10≤2)∧True) (fun n1 (s10:Int)=>ji s n1 s10) (ji s (((2:Int)-(0:Int)).toNat+1) (0:Int)) [] (0:Int) ?_;rintro s10 ⟨n1,hc1,⟨hi1_0,hi1_1,-⟩,hf1⟩;have hf1:=hf1.trans (ji.eq_2 s s10 n1);refine wI hf1 (fun _ hf1=>?_) fun _ hf1=>e1;refine vs (P:=0≤s10∧s10<((2:Nat):Int)) ?_;refine wI hf1 (fun _ hf1=>e1) fun _ hf1=>?_;refine gT ?_;exact nx [] (s10+1) hc1 hf1
def mW(s:eT):Int:=
 if kC s=0 then
  IntKind.i64.wrap (s.plus - s.minus)
 else
  0
def Tu:aW U:=⟨[.d (.st 14)],fun xs es K=> ∃(s:eT),xs= [(F3 s)]∧es= []∧K (.v (vi (mW s))) []⟩
theorem Tv:Fk 50 Tu:=by
 refine fo Tryz.f50 [.d (.int .i64)] [] (aa Sc ah) fun xs es K=>?_;rintro⟨s,rfl,rfl,h⟩;refine⟨rfl,?_⟩;have hf0:=mW.eq_1 s;refine⟨_,rfl,rfl,?_⟩;refine wN hf0 (fun _ hf0=>e0) fun _ hf0=>?_;refine .inr ?_;exact e0
def jj(s:eT)(n:Int):eT×Int:=
 if kC s=0 then
  if(n<(-1073741824))∨(1073741824<n)then
   (eT.mk 0 0,2)
  else
   if n<0 then
    if(gX s.minus (-n)).snd=0 then
     (eT.mk s.plus (gX s.minus (-n)).fst,0)
    else
     (eT.mk 0 0,(gX s.minus (-n)).snd)
   else
    if(gX s.plus n).snd=0 then
     (eT.mk (gX s.plus n).fst s.minus,0)
    else
     (eT.mk 0 0,(gX s.plus n).snd)
 else
  (eT.mk 0 0,kC s)
def Tw:aW U:=⟨[.d (.st 14),.d (.int .i64)],fun xs es K=> ∃(s:eT) (n:Int),xs= [(F3 s),(vi n)]∧es= []∧K (.tup [(F3 ((jj s n).1)),(vi ((jj s n).2))]) []⟩
theorem Tx:Fk 36 Tw:=by
 refine fo Tryz.f36 [.d (.st 14),.d (.int .i64)] [] (aa Sc (aa Ts ah)) fun xs es K=>?_;rintro⟨s,n,rfl,rfl,h⟩;refine⟨rfl,?_⟩;have hf0:=jj.eq_1 s n;refine⟨_,rfl,rfl,?_⟩;refine wN hf0 (fun _ hf0=>e0) fun _ hf0=>?_;refine wI hf0 (fun _ hf0=>e0) fun _ hf0=>?_;refine wI hf0 (fun _ hf0=>?_) fun _ hf0=>?_
 ·refine gT ?_;refine⟨_,_,rfl,rfl,?_⟩;exact wN hf0 (fun _ hf0=>e0) fun _ hf0=>e0
 ·refine⟨_,_,rfl,rfl,?_⟩;exact wN hf0 (fun _ hf0=>e0) fun _ hf0=>e0
def eO(act:Int):Int:=
 if act=1 then
  1
 else
  if act=2 then
   2
  else
   if act=3 then
    3
   else
    if act=4 then
     3
    else
     if act=5 then
      4
     else
      if act=6 then
       4
      else
       0
def Sd:aW U:=⟨[.d (.int .i64)],fun xs es K=> ∃(act:Int),xs= [(vi act)]∧es= []∧K (.v (vi (eO act))) []⟩
theorem IV:Fk 28 Sd:=by
 refine fo Tryz.f28 [.d (.int .i64)] [] (ah) fun xs es K=>?_;rintro⟨act,rfl,rfl,h⟩;refine⟨rfl,?_⟩;have hf0:=eO.eq_1 act;refine wI hf0 (fun _ hf0=>e0) fun _ hf0=>?_;refine wI hf0 (fun _ hf0=>e0) fun _ hf0=>?_;refine wI hf0 (fun _ hf0=>?_) fun _ hf0=>?_
 ·refine vT iD (by omega) ?_;exact e0
 ·refine wI hf0 (fun _ hf0=>e0) fun _ hf0=>?_;refine wI hf0 (fun _ hf0=>?_) fun _ hf0=>wI hf0 (fun _ hf0=>e0) fun _ hf0=>e0;refine vT iD (by omega) ?_;exact e0
def sK(kind:Int):eb×Int:=
 if(kind<1)∨(4<kind)then
  (eb.mk 0 (fK.mk 0 (aV.mk 0 0)) (eT.mk 0 0) (cR.mk [] []) (dm.mk [] []),5)
 else
  (eb.mk kind (fK.mk 0 (aV.mk 0 0)) (eT.mk 0 0) (cR.mk [] []) (dm.mk [] []),0)
def c7:aW U:=⟨[.d (.int .i64)],fun xs es K=> ∃(kind:Int),xs= [(vi kind)]∧es= []∧K (.tup [(wn ((sK kind).1)),(vi ((sK kind).2))]) []⟩
theorem k7:Fk 7 c7:=by
 refine fo Tryz.f7 [.d (.st 15),.d (.int .i64)] [] (ah) fun xs es K=>?_;rintro⟨kind,rfl,rfl,h⟩;refine⟨rfl,?_⟩;have hf0:=sK.eq_1 kind;exact wI hf0 (fun _ hf0=>e0) fun _ hf0=>e0
def ea(o:Int):iI:=
 if o=5 then
  iI.mk true true true false
 else
  if o=1 then
   iI.mk false true true false
  else
   if o=2 then
    iI.mk false true false false
   else
    if o=4 then
     iI.mk true false false true
    else
     if o=6 then
      iI.mk true false false true
     else
      if o=3 then
       iI.mk true false false false
      else
       iI.mk false false false false
def Ty:aW U:=⟨[.d (.int .i64)],fun xs es K=> ∃(o:Int),xs= [(vi o)]∧es= []∧K (.v ⟨true,[(4,.d (.st 18) (ea o))]⟩) []⟩
theorem Se:Fk 69 Ty:=by
 refine fo Tryz.f69 [.d (.st 18)] [] (ah) fun xs es K=>?_;rintro⟨o,rfl,rfl,h⟩;refine⟨rfl,?_⟩;have hf0:=ea.eq_1 o;refine wI hf0 (fun _ hf0=>e0) fun _ hf0=>?_;refine wI hf0 (fun _ hf0=>e0) fun _ hf0=>?_;refine wI hf0 (fun _ hf0=>e0) fun _ hf0=>?_;refine wI hf0 (fun _ hf0=>?_) fun _ hf0=>wI hf0 (fun _ hf0=>e0) fun _ hf0=>wI hf0 (fun _ hf0=>e0) fun _ hf0=>e0;refine vT iD (by omega) ?_;exact e0
def mf(r:Int):Bool:=
 decide (97≤r)&&decide (r≤122)||decide (48≤r)&&decide (r≤57)
def PM:aW U:=⟨[.d (.int .u8)],fun xs es K=> ∃(r:Int),xs= [⟨false,[(1,.d (.int .u8) r)]⟩]∧es= []∧K (.v (vb (mf r))) []⟩
theorem PN:Fk 107 PM:=by
 refine fo Tryz.f107 [.d .bool] [] (ah) fun xs es K=>?_;rintro⟨r,rfl,rfl,h⟩;refine⟨rfl,?_⟩;have hf0:=mf.eq_1 r;exact e0
def fT(t:az):Bool:=
 decide ¬gE t=0
def Tz:aW U:=⟨[.d (.st 4)],fun xs es K=> ∃(t:az),xs= [(za t)]∧es= []∧K (.v (vb (fT t))) []⟩
theorem Oz:Fk 29 Tz:=by
 refine fo Tryz.f29 [.d .bool] [] (aa Pj ah) fun xs es K=>?_;rintro⟨t,rfl,rfl,h⟩;refine⟨rfl,?_⟩;have hf0:=fT.eq_1 t;refine⟨_,rfl,rfl,?_⟩;exact e0
def aM(s:eb):eb:=
 eb.mk s.kind s.reg s.num (cR.mk s.set.adds s.set.gone) (dm.mk s.map.puts s.map.gone)
def TA:aW U:=⟨[.d (.st 15)],fun xs es K=> ∃(s:eb),xs= [(wn s)]∧es= []∧(s.set.adds.length≤1000000)∧(s.set.gone.length≤1000000)∧(s.map.puts.length≤1000000)∧(s.map.gone.length≤1000000)∧K (.v (wn (aM s))) []⟩
theorem TB:Fk 34 TA:=by
 refine fo Tryz.f34 [.d (.st 15)] [] (aa Qm (aa Ql (aa OD ah))) fun xs es K=>?_;rintro⟨s,rfl,rfl,h1,h2,h3,h4,h⟩;refine⟨rfl,?_⟩;have hf0:=aM.eq_1 s;refine dp [(true,0),(true,1),(true,2),(true,4),(true,5),(true,6),(false,3),(false,7),(true,8),(true,9)] (some 10) (nw 2) ?_;refine⟨_,rfl,rfl,(by assumption),?_⟩;refine⟨_,rfl,rfl,(by assumption),?_⟩;refine dp [(true,0),(true,1),(true,2),(true,4),(true,5),(true,6),(false,3),(false,7),(true,8),(true,9)] (some 10) (nw 4) ?_;refine⟨_,rfl,rfl,(by assumption),?_⟩;refine⟨_,rfl,rfl,(by assumption),?_⟩;exact e0
def lq(e:aV):Bool:=
 decide (gF e=0)&&decide (0<e.time)
def TC:aW U:=⟨[.d (.st 2)],fun xs es K=> ∃(e:aV),xs= [(J3 e)]∧es= []∧K (.v (vb (lq e))) []⟩
theorem OA:Fk 30 TC:=by
 refine fo Tryz.f30 [.d .bool] [] (aa Po ah) fun xs es K=>?_;rintro⟨e,rfl,rfl,h⟩;refine⟨rfl,?_⟩;have hf0:=lq.eq_1 e;refine⟨_,rfl,rfl,?_⟩;exact e0
def ct(o:lM):Int:=
 if eO o.act=0 then
  5
 else
  if((ea o.act).name=true)∧(¬(lg o.name=true))then
   3
  else
   if(¬((ea o.act).name=true))∧(¬o.name= [])then
    3
   else
    if(¬((ea o.act).val=true))∧(¬o.val=0)then
     3
    else
     if(o.act=2)∧((o.val<(-1073741824))∨(1073741824<o.val))then
      2
     else
      0
def Sf:aW U:=⟨[.d (.st 1)],fun xs es K=> ∃(o:lM),xs= [(N3 o)]∧es= []∧K (.v (vi (ct o))) []⟩
theorem Kx:Fk 27 Sf:=by
 refine fo Tryz.f27 [.d (.int .i64)] [] (aa IV (aa Se (aa Pq ah))) fun xs es K=>?_;rintro⟨o,rfl,rfl,h⟩;refine⟨rfl,?_⟩;have hf0:=ct.eq_1 o;refine⟨_,rfl,rfl,?_⟩;refine wI hf0 (fun _ hf0=>e0) fun _ hf0=>?_;refine⟨_,rfl,rfl,?_⟩;refine⟨_,fun _=>⟨_,rfl,rfl,rfl,rfl⟩,rfl,?_⟩;refine wI hf0 (fun _ hf0=>?_) fun _ hf0=>?_
 ·refine vT (iA iB (iN iB)) (show((ea o.act).name=true)∧(¬(lg o.name=true))from by omega) ?_;exact e0
 ·refine wI hf0 (fun _ hf0=>?_) fun _ hf0=>wI hf0 (fun _ hf0=>e0) fun _ hf0=>wI hf0 (fun _ hf0=>e0) fun _ hf0=>e0;refine vT (iA (iN iB) iD) (show(¬((ea o.act).name=true))∧(¬o.name= [])from by omega) ?_;exact e0
def ip(e:dA):Nat→Int→Int⊕(Int)
 |0,s5=> .inr s5
 |n1+1,s5=>
  if s5<(e.tags.length:Int)then
   if 0≤ap (ix e.tags (s5 - 1)) (ix e.tags s5)then
    .inl 3
   else
    ip e n1 (s5+1)
  else
   .inr s5
def jk(e:dA):Int:=
 if ct (lM.mk e.act e.name e.val)=0 then
  if(fT e.tag=true)∨((cY e.tags fun(t:az)=>fT t)=true)then
   2
  else
   if 4096<(e.tags.length:Int)then
    8
   else
    if((((ea e.act).at_=true)∧(¬(lq e.at_=true)))∨((¬((ea e.act).at_=true))∧(¬(e.at_=aV.mk 0 0))))∨((¬((ea e.act).tags=true))∧(0<(e.tags.length:Int)))then
     3
    else
     match ip e (((e.tags.length:Int)- 1).toNat+1) 1 with
     | .inl r=>r
     | .inr s5=>
      0
 else
  ct (lM.mk e.act e.name e.val)
def TD:aW U:=⟨[.d (.st 16)],fun xs es K=> ∃(e:dA),xs= [(J2 e)]∧es= []∧((fun(r0:Int)=>r0=0→e.tags.length≤4096) (jk e)→K (.v (vi (jk e))) [])⟩
theorem TE:Fk 33 TD:=by
 refine fo Tryz.f33 [.d (.int .i64)] [] (aa Kx (aa Oz (aa OA (aa Se (aa LA (aa AQ ah)))))) fun xs es K=>?_;rintro⟨e,rfl,rfl,h⟩;refine⟨rfl,?_⟩;have hf0:=jk.eq_1 e;refine⟨_,rfl,rfl,?_⟩;refine wN hf0 (fun _ hf0=>?_) fun _ hf0=>?_
 ·rw[hf0]at h;exact h (by omega)
 ·refine⟨_,rfl,rfl,?_⟩;refine⟨_,fun _=>⟨fun(t:az)=>fT t,fun t0=>⟨_,rfl,rfl,rfl,rfl⟩,_,_,rfl,rfl,rfl,rfl⟩,rfl,?_⟩;refine wI hf0 (fun _ hf0=>?_) fun _ hf0=>?_
  ·rw[hf0]at h;exact h (by omega)
  ·refine fl (x:=e.tags.length) fun _=>?_;refine wI hf0 (fun _ hf0=>?_) fun _ hf0=>?_
   ·rw[hf0]at h;exact h (by omega)
   ·refine⟨_,rfl,rfl,?_⟩;refine⟨_,fun _=>⟨_,rfl,rfl,rfl,rfl⟩,rfl,?_⟩;refine wI hf0 (fun _ hf0=>?_) fun _ hf0=>?_
    ·rw[hf0]at h;exact h (by omega)
    ·refine lI 2 (fun(s5:Int)=> [(1,.v (vp 0)),(2,.v (vi 0)),(5,.v (vi s5))]) (fun(s5:Int)=> [(0,.cells [(9,.d (.st 16) e)] 63)]) (fun(s5:Int)=>((e.tags.length:Int)- s5).toNat) (fun(s5:Int)=>(1≤s5)∧True) (fun n1 (s5:Int)=>ip e n1 s5) (ip e (((e.tags.length:Int)- 1).toNat+1) 1) [] (1:Int) ?_;rintro s5 ⟨n1,hc1,⟨hi1_0,-⟩,hf1⟩;have hf1:=hf1.trans (ip.eq_2 e s5 n1);refine fl (x:=e.tags.length) fun _=>?_;refine wI hf1 (fun _ hf1=>?_) fun _ hf1=>?_
     ·refine dp [(true,0),(true,1),(true,2),(true,3),(true,4),(true,5),(true,6),(true,7),(true,8),(true,9),(true,10),(false,11),(true,12)] none (nw 2) ?_;refine gT ?_;refine vx (s5 - 1) e.tags ?_;refine vx s5 e.tags ?_;refine⟨_,_,rfl,rfl,?_⟩;refine wI hf1 (fun _ hf1=>?_) fun _ hf1=>?_
      ·rw[hf1]at hf0;rw[hf0]at h;exact h (by omega)
      ·refine gT ?_;exact nx [] (s5+1) hc1 hf1
     ·rw[hf1]at hf0;rw[hf0]at h;exact h (by omega)
def eD(t:az):Bool:=
 decide ¬gE t=0
def TF:aW U:=⟨[.d (.st 4)],fun xs es K=> ∃(t:az),xs= [(za t)]∧es= []∧K (.v (vb (eD t))) []⟩
theorem PO:Fk 96 TF:=by
 refine fo Tryz.f96 [.d .bool] [] (aa Pj ah) fun xs es K=>?_;rintro⟨t,rfl,rfl,h⟩;refine⟨rfl,?_⟩;have hf0:=eD.eq_1 t;refine⟨_,rfl,rfl,?_⟩;exact e0
def iq(s:dm):(List bK)×(List az):=
 (s.puts,s.gone)
def TG:aW U:=⟨[.d (.st 12)],fun xs es K=> ∃(s:dm),xs= [(tq s)]∧es= []∧(s.puts.length≤1000000)∧(s.gone.length≤1000000)∧K (.v ⟨true,[(1,.own 0 0),(1,.own 1 0)]⟩) [.row 0 (.st 5) ((iq s).1) 133,.row 0 (.st 4) ((iq s).2) 61]⟩
theorem TH:Fk 99 TG:=by
 refine fo Tryz.f99 [.n] [] (aa Ql (aa OD ah)) fun xs es K=>?_;rintro⟨s,rfl,rfl,h1,h2,h⟩;refine⟨rfl,?_⟩;have hf0:=iq.eq_1 s;refine dp [(true,0),(true,1),(true,3),(true,4),(false,2),(false,5),(true,6)] (some 7) (nw 2) ?_;refine⟨_,rfl,rfl,(by assumption),?_⟩;refine⟨_,rfl,rfl,(by assumption),?_⟩;exact e0
def iu(l:List bK):Nat→Int→(List az)→(List az)⊕(Int×(List az))
 |0,s8,s3=> .inr (s8,s3)
 |n1+1,s8,s3=>
  if s8<(l.length:Int)then
   iu l n1 (s8+1) (s3++ [(ix l s8).tag])
  else
   .inr (s8,s3)
def fB(l:List bK):List az:=
 match iu l (((l.length:Int)- 0).toNat+1) 0 ([]:List az)with
 | .inl r=>r
 | .inr (s8,s3)=>
  s3
def TJ:aW U:=⟨[.d (.sl (.st 5))],fun xs es K=> ∃(l:List bK),xs= [(F2 l)]∧es= []∧(l.length≤1000000)∧K (.v (oI (fB l))) []⟩
theorem PQ:Fk 74 TJ:=by
 refine fo Tryz.f74 [.d (.sl (.st 4))] [] (ah) fun xs es K=>?_;rintro⟨l,rfl,rfl,hl,h⟩;refine⟨rfl,?_⟩;have hf0:=fB.eq_1 l;refine fl (x:=l.length) fun _=>?_;refine lI (σ:=Int×(List az)) 1 (fun(s8,s3)=> [(2,.v ⟨false,[(1,.nils)]⟩),(3,.v (vo 0)),(6,.v (F2 l)),(7,.v (vi (l.length:Int))),(8,.v (vi s8))]) (fun(s8,s3)=> [(0,.row 0 (.st 4) s3 61)]) (fun(s8,s3)=>((l.length:Int)- s8).toNat) (fun(s8,s3)=>(0≤s8)∧(s8≤(l.length:Int))∧((s3.length:Int)≤s8)∧True) (fun n1 (s8,s3)=>iu l n1 s8 s3) (iu l (((l.length:Int)- 0).toNat+1) 0 ([]:List az)) [] ((0:Int),([]:List az)) ?_;rintro⟨s8,s3⟩ ⟨n1,hc1,⟨hi1_0,hi1_1,hi1_2,-⟩,hf1⟩;have hf1:=hf1.trans (iu.eq_2 l s8 s3 n1);refine wI hf1 (fun _ hf1=>?_) fun _ hf1=>e1;refine vx s8 l ?_;refine vs (P:=(s3.length+ [(ix l s8).tag].length)*(24:Nat)≤(140737488355328:Nat)) ?_;refine gT ?_;exact nx (s:=(s8,s3)) [] (s8+1,s3++ [(ix l s8).tag]) hc1 hf1
def mX(p:bK):Bool:=
 decide ¬p.field= []&&decide ((p.field.length:Int)≤12)&&decide (gF p.at_=0)&&decide (0<p.at_.time)
def TK:aW U:=⟨[.d (.st 5)],fun xs es K=> ∃(p:bK),xs= [(KC p)]∧es= []∧K (.v (vb (mX p))) []⟩
theorem Sg:Fk 97 TK:=by
 refine fo Tryz.f97 [.d .bool] [] (aa Po ah) fun xs es K=>?_;rintro⟨p,rfl,rfl,h⟩;refine⟨rfl,?_⟩;have hf0:=mX.eq_1 p;refine⟨_,fun _=>⟨_,rfl,rfl,rfl,rfl⟩,rfl,?_⟩;exact e0
def pI(l:List az)(t:az):Bool:=
 (fw l t fun(t t':az)=>ap t t').snd
def PR:aW U:=⟨[.d (.sl (.st 4)),.d (.st 4)],fun xs es K=> ∃(l:List az) (t:az),xs= [(oI l),(za t)]∧es= []∧(l.length≤1000000)∧K (.v (vb (pI l t))) []⟩
theorem IW:Fk 100 PR:=by
 refine fo Tryz.f100 [.d .bool] [] (aa AQ (aa Pt ah)) fun xs es K=>?_;rintro⟨l,t,rfl,rfl,hl,h⟩;refine⟨rfl,?_⟩;have hf0:=pI.eq_1 l t;refine⟨fun(t t':az)=>ap t t',fun t0 t1=>⟨_,_,rfl,rfl,rfl,rfl⟩,?_⟩;refine⟨_,_,_,rfl,rfl,(by omega),?_⟩;exact e0
def pJ(a:bK)(b:bK):Int:=
 gW [fQ a.at_ b.at_,ap a.tag b.tag]
def PS:aW U:=⟨[.d (.st 5),.d (.st 5)],fun xs es K=> ∃(a:bK) (b:bK),xs= [(KC a),(KC b)]∧es= []∧K (.v (vi (pJ a b))) []⟩
theorem PT:Fk 120 PS:=by
 refine fo Tryz.f120 [.d (.int .i64)] [] (aa AQ (aa IU (aa AP ah))) fun xs es K=>?_;rintro⟨a,b,rfl,rfl,h⟩;refine⟨rfl,?_⟩;have hf0:=pJ.eq_1 a b;refine dp [(true,0),(true,1),(true,2),(true,3),(true,5),(true,6),(true,7),(true,8),(false,4),(false,9),(false,10),(false,11),(true,12)] none (nw 2) ?_;refine⟨_,_,rfl,rfl,?_⟩;refine⟨_,_,rfl,rfl,?_⟩;refine⟨_,rfl,rfl,?_⟩;exact e0
def kD(l:List az):Nat→Int→Bool⊕(Int)
 |0,s3=> .inr s3
 |n1+1,s3=>
  if s3<(l.length:Int)then
   if 0≤ap (ix l (s3 - 1)) (ix l s3)then
    .inl false
   else
    kD l n1 (s3+1)
  else
   .inr s3
def oT(l:List az):Bool:=
 match kD l (((l.length:Int)- 1).toNat+1) 1 with
 | .inl r=>r
 | .inr s3=>
  true
def PU:aW U:=⟨[.d (.sl (.st 4))],fun xs es K=> ∃(l:List az),xs= [(oI l)]∧es= []∧K (.v (vb (oT l))) []⟩
theorem PV:Fk 156 PU:=by
 refine fo Tryz.f156 [.d .bool] [] (aa AQ ah) fun xs es K=>?_;rintro⟨l,rfl,rfl,h⟩;refine⟨rfl,?_⟩;have hf0:=oT.eq_1 l;refine lI 0 (fun(s3:Int)=> [(0,.v (oI l)),(2,.v (vb false)),(3,.v (vi s3))]) (fun(s3:Int)=> []) (fun(s3:Int)=>((l.length:Int)- s3).toNat) (fun(s3:Int)=>(1≤s3)∧True) (fun n1 (s3:Int)=>kD l n1 s3) (kD l (((l.length:Int)- 1).toNat+1) 1) [] (1:Int) ?_;rintro s3 ⟨n1,hc1,⟨hi1_0,-⟩,hf1⟩;have hf1:=hf1.trans (kD.eq_2 l s3 n1);refine fl (x:=l.length) fun _=>?_;refine wI hf1 (fun _ hf1=>?_) fun _ hf1=>e1;refine dp [(true,0),(true,1),(true,2),(true,3),(true,4),(true,5),(true,6),(true,7),(true,8),(false,9),(true,10)] none (nw 0) ?_;refine gT ?_;refine vx (s3 - 1) l ?_;refine vx s3 l ?_;refine⟨_,_,rfl,rfl,?_⟩;refine wI hf1 (fun _ hf1=>e1) fun _ hf1=>?_;refine gT ?_;exact nx [] (s3+1) hc1 hf1
def ch(a:ar)(b:ar):Int:=
 nU a.field b.field
def PW:aW U:=⟨[.d (.st 6),.d (.st 6)],fun xs es K=> ∃(a:ar) (b:ar),xs= [(OH a),(OH b)]∧es= []∧K (.v (vi (ch a b))) []⟩
theorem PX:Fk 121 PW:=by
 refine fo Tryz.f121 [.d (.int .i64)] [] (aa R8 ah) fun xs es K=>?_;rintro⟨a,b,rfl,rfl,h⟩;refine⟨rfl,?_⟩;have hf0:=ch.eq_1 a b;refine⟨_,_,rfl,rfl,?_⟩;exact e0
def mY(c:Int):Bool:=
 decide (127<c)||!mf (c%256)
def PY:aW U:=⟨[.d (.int .i32)],fun xs es K=> ∃(c:Int),xs= [⟨false,[(1,.d (.int .i32) c)]⟩]∧es= []∧K (.v (vb (mY c))) []⟩
theorem PZ:Fk 106 PY:=by
 refine fo Tryz.f106 [.d .bool] [] (aa PN ah) fun xs es K=>?_;rintro⟨c,rfl,rfl,h⟩;refine⟨rfl,?_⟩;have hf0:=mY.eq_1 c;refine .inr ?_;refine⟨_,fun _=>⟨_,rfl,rfl,rfl,rfl⟩,rfl,?_⟩;exact e0
def kE(s:List UInt8):Nat→Int→(Int×Int)⊕(Int)
 |0,s14=> .inr s14
 |n1+1,s14=>
  if s14<((Lib.split s [(47:UInt8)]).length:Int)then
   if(ix (Lib.split s [(47:UInt8)]) s14= [])∨(0≤jf (ix (Lib.split s [(47:UInt8)]) s14) fun(t:Int)=>mY t)then
    .inl (0,3)
   else
    kE s n1 (s14+1)
  else
   .inr s14
def ae(s:List UInt8):Int×Int:=
 if 24<(s.length:Int)then
  (0,8)
 else
  match kE s ((((Lib.split s [(47:UInt8)]).length:Int)- 0).toNat+1) 0 with
  | .inl r=>r
  | .inr s14=>
   if((ix (ix (Lib.split s [(47:UInt8)]) (((Lib.split s [(47:UInt8)]).length:Int)- 1)) 0).toNat:Int)=114 then
    (1,0)
   else
    if((ix (ix (Lib.split s [(47:UInt8)]) (((Lib.split s [(47:UInt8)]).length:Int)- 1)) 0).toNat:Int)=99 then
     (2,0)
    else
     if((ix (ix (Lib.split s [(47:UInt8)]) (((Lib.split s [(47:UInt8)]).length:Int)- 1)) 0).toNat:Int)=115 then
      (3,0)
     else
      if((ix (ix (Lib.split s [(47:UInt8)]) (((Lib.split s [(47:UInt8)]).length:Int)- 1)) 0).toNat:Int)=109 then
       (4,0)
      else
       (0,5)
def Sh:aW U:=⟨[.d .str],fun xs es K=> ∃(s:List UInt8),xs= [(vt s)]∧es= []∧(s.length≤1000000)∧K (.tup [(vi ((ae s).1)),(vi ((ae s).2))]) []⟩
theorem Si:Fk 42 Sh:=by
 refine fo Tryz.f42 [.d (.int .i64),.d (.int .i64)] [] (aa QG (aa QI (aa PZ ah))) fun xs es K=>?_;rintro⟨s,rfl,rfl,h1,h⟩;refine⟨rfl,?_⟩;have hf0:=ae.eq_1 s;refine fl (x:=s.length) fun _=>?_;refine wI hf0 (fun h1 hf0=>e0) fun h1 hf0=>?_;refine⟨_,_,rfl,rfl,(by omega),(by(simp only[List.length_append,List.length_cons,List.length_nil];omega)),?_⟩;refine fl (x:=(Lib.split s [(47:UInt8)]).length) fun _=>?_;refine lI 0 (fun(s14:Int)=> [(2,.v (vi 0)),(3,.v (vi 0)),(4,.v (J4 (Lib.split s [(47:UInt8)]))),(12,.v (J4 (Lib.split s [(47:UInt8)]))),(13,.v (vi ((Lib.split s [(47:UInt8)]).length:Int))),(14,.v (vi s14))]) (fun(s14:Int)=> []) (fun(s14:Int)=>(((Lib.split s [(47:UInt8)]).length:Int)- s14).toNat) (fun(s14:Int)=>(0≤s14)∧(s14≤((Lib.split s [(47:UInt8)]).length:Int))∧(∀j:Int,0≤j→j<s14→ix (Lib.split s [(47:UInt8)]) j≠ [])∧True) (fun n1 (s14:Int)=>kE s n1 s14) (kE s ((((Lib.split s [(47:UInt8)]).length:Int)- 0).toNat+1) 0) [] (0:Int) ?_ (hi:=⟨show(0:Int)≤(0:Int)from by omega,show(0:Int)≤(↑(Lib.split s [(47:UInt8)]).length:Int)from by omega,show ∀(j:Int),(0:Int)≤j→j<(0:Int)→ix (Lib.split s [(47:UInt8)]) j≠ []from by omega,trivial⟩);rintro s14 ⟨n1,hc1,⟨hi1_0,hi1_1,hi1_2,-⟩,hf1⟩;have hf1:=hf1.trans (kE.eq_2 s s14 n1);refine wI hf1 (fun _ hf1=>?_) fun _ hf1=>?_
 ·refine vx s14 (Lib.split s [(47:UInt8)]) ?_;refine⟨_,fun _=>⟨fun(t:Int)=>mY t,fun t0=>⟨_,rfl,rfl,rfl,rfl⟩,_,_,rfl,rfl,rfl,rfl⟩,rfl,?_⟩;refine wI hf1 (fun _ hf1=>e1) fun _ hf1=>?_;refine gT ?_;exact nx [] (s14+1) hc1 hf1 (hi:=⟨show(0:Int)≤s14+(1:Int)from by omega,show s14+(1:Int)≤(↑(Lib.split s [(47:UInt8)]).length:Int)from by omega,show ∀(j:Int),(0:Int)≤j→j<s14+(1:Int)→ix (Lib.split s [(47:UInt8)]) j≠ []from by(intro j hj1 hj2;rcases(show j<s14∨j=s14 by omega)with hh|rfl;(· exact hi1_2 j hj1 hh);(· intro he;simp_all)),trivial⟩)
 ·rw[hf1]at hf0;refine fl (x:=(Lib.split s [(47:UInt8)]).length) fun _=>?_;refine gT ?_;refine vs (P:=0≤((Lib.split s [(47:UInt8)]).length:Int)- 1∧((Lib.split s [(47:UInt8)]).length:Int)- 1<((Lib.split s [(47:UInt8)]).length:Int)) ?_ (by(have hp:=ma (s:=s) (sep:= [(47:UInt8)]) (by decide);omega));refine vs (P:=(0:Int)≤(0:Int)∧(0:Int)<((ix (Lib.split s [(47:UInt8)]) (((Lib.split s [(47:UInt8)]).length:Int)-(1:Int))).length:Int)) ?_ (by(have hp:=ma (s:=s) (sep:= [(47:UInt8)]) (by decide);have hq:=hi1_2 ((↑(Lib.split s [(47:UInt8)]).length:Int)- 1) (by omega) (by omega);have:=List.length_pos_iff.2 hq;omega));exact wI hf0 (fun _ hf0=>e0) fun _ hf0=>wI hf0 (fun _ hf0=>e0) fun _ hf0=>wI hf0 (fun _ hf0=>e0) fun _ hf0=>wI hf0 (fun _ hf0=>e0) fun _ hf0=>e0
end Go.Proofs.YtmpeiadlohbikaaGreatDoor.V
end

section
set_option linter.unusedVariables false
set_option linter.unusedSimpArgs false
set_option maxRecDepth 20000
set_option maxHeartbeats 4000000
namespace Go.Proofs.YtmpeiadlohbikaaGreatDoor.V
open Go.RowKit
theorem sL(x y:Int):me x y=if x<y then -1 else if y<x then 1 else 0:=by
 unfold me;simp[nQ]
theorem xt(x y:Int):nT x y=if x<y then -1 else if y<x then 1 else 0:=by
 unfold nT;simp[nR]
theorem vY(x y:Int):gW [x,y]=if x=0 then y else x:=by
 have e1:ix [x,y] 1=y:=rfl;have e0:ix [x,y] 0=x:=rfl;unfold gW;rw[show((↑[x,y].length:Int)- 0).toNat+1=3 from rfl,fu,fu,fu,fu];rw[show(0:Int)+1=1 from rfl,e0,e1];by_cases hx:x=0<;>by_cases hy:y=0<;>simp[hx,hy]
theorem pK(a b:az):ap a b=if a.id.origin<b.id.origin then -1 else if b.id.origin<a.id.origin then 1 else if a.id.seq<b.id.seq then -1 else if b.id.seq<a.id.seq then 1 else if a.n<b.n then -1 else if b.n<a.n then 1 else 0:=by
 unfold ap eW;rw[vY,vY,sL,sL,xt]
 repeat' split
 all_goals omega
theorem Eg{a b:az}(h1:a.id.origin=b.id.origin)(h2:a.id.seq=b.id.seq)(h3:a.n=b.n):a=b:=by
 obtain⟨⟨a1,a2⟩,a3⟩:=a;obtain⟨⟨b1,b2⟩,b3⟩:=b;simp only at h1 h2 h3;subst h1;subst h2;subst h3;rfl
open Go.Shelf Go.Lib Go.Sort
theorem mZ(a b:az):ltOf ap a b=decide (a.id.origin<b.id.origin∨a.id.origin=b.id.origin∧(a.id.seq<b.id.seq∨a.id.seq=b.id.seq∧a.n<b.n)):=by
 unfold ltOf;rw[pK,decide_eq_decide]
 repeat' split
 all_goals omega
theorem pL(l:List az):fP l ap:=by
 refine⟨⟨fun x=>?_,fun x y z h1 h2=>?_,fun x y z h1 h2=>?_⟩,fun x _ y _ h1 h2=>?_⟩
 ·rw[mZ];simp
 ·rw[mZ,decide_eq_true_iff]at*;omega
 ·rw[mZ,decide_eq_false_iff_not]at*;omega
 ·rw[mZ,decide_eq_false_iff_not]at h1 h2;exact Eg (by omega) (by omega) (by omega)
theorem rl(l:List bK):(fB l).length≤l.length:=by
 have key: ∀(n:Nat) (i:Int) (s:List az),0≤i→(s.length:Int)≤i→i≤l.length→ ∃j t,iu l n i s= .inr (j,t)∧t.length≤l.length:=fun n=>by
  induction n with
  |zero=>intro i s h0 h1 h2;exact⟨i,s,rfl,by omega⟩
  |succ n ih=>
   intro i s h0 h1 h2;rw[iu];split
   ·exact ih _ _ (by omega) (by simp;omega) (by omega)
   ·exact⟨i,s,rfl,by omega⟩
 obtain⟨j,t,h,ht⟩:=key (((l.length:Int)- 0).toNat+1) 0 [] (by omega) (by simp) (by omega);unfold fB;rw[h];exact ht
def iS(s:cR)(tags:List az):cR×Int:=
 if fA s=0 then
  if 4096<(tags.length:Int)then
   (cR.mk [] [],8)
  else
   if(cY tags fun(t:az)=>fb t)=true then
    (cR.mk [] [],2)
   else
    if 4096<((dd (bk (fun(t t':az)=>ap t t') (s.gone++tags))).length:Int)then
     (cR.mk [] [],4)
    else
     (cR.mk (List.filter (fun(x:b9)=>!mV x (cR.mk [] (dd (bk (fun(t t':az)=>ap t t') (s.gone++tags))))) s.adds) (dd (bk (fun(t t':az)=>ap t t') (s.gone++tags))),0)
 else
  (cR.mk [] [],fA s)
def TL:aW U:=⟨[.d (.st 11),.d (.sl (.st 4))],fun xs es K=> ∃(s:cR) (tags:List az),xs= [(u5 s),(oI tags)]∧es= []∧(s.adds.length≤1000000)∧(s.gone.length≤900000)∧((fun(r0:cR) (r1:Int)=>r0.adds.length≤4097∧r0.gone.length≤4097) ((iS s tags).1) ((iS s tags).2)→K (.tup [(u5 ((iS s tags).1)),(vi ((iS s tags).2))]) [])⟩
theorem TM:Fk 38 TL:=by
 refine fo Tryz.f38 [.d (.st 11),.d (.int .i64)] [] (aa Ou (aa LA (aa AQ (aa Qm (aa Oq (aa Sp (aa Ss (aa Sr (aa Ux (aa Tm ah)))))))))) fun xs es K=>?_;rintro⟨s,tags,rfl,rfl,h1,h2,h⟩;refine⟨rfl,?_⟩;have hf0:=iS.eq_1 s tags;refine⟨_,rfl,rfl,(by omega),?_⟩;refine fun _=>?_;refine wN hf0 (fun h1 hf0=>?_) fun h1 hf0=>?_
 ·rw[hf0]at h;exact h (by simp)
 ·refine fl (x:=tags.length) fun h2=>?_;refine wI hf0 (fun _ hf0=>?_) fun _ hf0=>?_
  ·rw[hf0]at h;exact h (by simp)
  ·refine⟨fun(t:az)=>fb t,fun t0=>⟨_,rfl,rfl,rfl,rfl⟩,?_⟩;refine⟨_,_,rfl,rfl,?_⟩;refine wI hf0 (fun _ hf0=>?_) fun _ hf0=>?_
   ·rw[hf0]at h;exact h (by simp)
   ·refine⟨_,_,rfl,rfl,(show s.gone.length≤(1000000:Nat)from by omega),(show tags.length≤(1000000:Nat)from by omega),?_⟩;refine⟨fun(t t':az)=>ap t t',fun t0 t1=>⟨_,_,rfl,rfl,rfl,rfl⟩,?_⟩;refine⟨_,_,rfl,rfl,(pL _),(show(s.gone++tags).length<(4611686018427387904:Nat)from by(simp only[List.length_append,List.length_cons,List.length_nil];omega)),?_⟩;refine⟨_,rfl,rfl,?_⟩;refine fl (x:=(dd (bk (fun(t t':az)=>ap t t') (s.gone++tags))).length) fun _=>?_;refine wI hf0 (fun h6 hf0=>?_) fun h6 hf0=>?_
    ·rw[hf0]at h;exact h (by simp)
    ·refine⟨_,rfl,rfl,(by assumption),?_⟩;refine⟨fun(t:b9)=>mV t (cR.mk [] (dd (bk (fun(t t':az)=>ap t t') (s.gone++tags)))),fun t0=>⟨_,_,rfl,rfl,(Nat.le_trans (Int.ofNat_le.1 (Int.not_lt.1 h6)) (show(4096:Nat)≤1000000 by decide)),rfl,rfl⟩,?_⟩;refine⟨_,_,rfl,rfl,?_⟩;rw[hf0]at h;exact h (by(dsimp only;exact⟨Nat.le_trans (List.length_filter_le _ _) (by omega),Nat.le_trans (Int.ofNat_le.1 (Int.not_lt.1 h6)) (by decide)⟩))
def fU(s:cR):Nat→Int→(List (List UInt8))→(List (List UInt8))⊕(Int×(List (List UInt8)))
 |0,s12,s3=> .inr (s12,s3)
 |n1+1,s12,s3=>
  if s12<(s.adds.length:Int)then
   fU s n1 (s12+1) (s3++ [(ix s.adds s12).elem])
  else
   .inr (s12,s3)
def bF(s:cR):List (List UInt8):=
 if fA s=0 then
  match fU s (((s.adds.length:Int)- 0).toNat+1) 0 ([]:List (List UInt8))with
  | .inl r=>r
  | .inr (s12,s3)=>
   R3 (ju s3)
 else
  []
def TN:aW U:=⟨[.d (.st 11)],fun xs es K=> ∃(s:cR),xs= [(u5 s)]∧es= []∧(s.adds.length≤1000000)∧(s.gone.length≤1000000)∧K (.v (J4 (bF s))) []⟩
theorem TO:Fk 51 TN:=by
 refine fo Tryz.f51 [.d (.sl .str)] [] (aa Ou (aa QE (aa QC ah))) fun xs es K=>?_;rintro⟨s,rfl,rfl,h1,h2,h⟩;refine⟨rfl,?_⟩;have hf0:=bF.eq_1 s;refine⟨_,rfl,rfl,(by omega),?_⟩;refine fun _=>?_;refine wN hf0 (fun h1 hf0=>e0) fun h1 hf0=>?_;refine fl (x:=s.adds.length) fun h2=>?_;refine lI (σ:=Int×(List (List UInt8))) 2 (fun(s12,s3)=> [(2,.v ⟨false,[(1,.nils)]⟩),(3,.v (vo 1)),(10,.v (rJ s.adds)),(11,.v (vi (s.adds.length:Int))),(12,.v (vi s12))]) (fun(s12,s3)=> [(1,.row 0 .str s3 9)]) (fun(s12,s3)=>((s.adds.length:Int)- s12).toNat) (fun(s12,s3)=>(0≤s12)∧(s12≤(s.adds.length:Int))∧((s3.length:Int)≤s12)∧True) (fun n1 (s12,s3)=>fU s n1 s12 s3) (fU s (((s.adds.length:Int)- 0).toNat+1) 0 ([]:List (List UInt8))) [] ((0:Int),([]:List (List UInt8))) ?_;rintro⟨s12,s3⟩ ⟨n1,hc1,⟨hi1_0,hi1_1,hi1_2,-⟩,hf1⟩;have hf1:=hf1.trans (fU.eq_2 s s12 s3 n1);refine wI hf1 (fun _ hf1=>?_) fun _ hf1=>?_
 ·refine vx s12 s.adds ?_;refine vs (P:=(s3.length+ [(ix s.adds s12).elem].length)*(16:Nat)≤(140737488355328:Nat)) ?_;refine gT ?_;exact nx (s:=(s12,s3)) [] (s12+1,s3++ [(ix s.adds s12).elem]) hc1 hf1
 ·rw[hf1]at hf0;refine⟨_,rfl,rfl,(by omega),?_⟩;refine⟨_,rfl,rfl,?_⟩;exact e0
def jl(s:dm):Nat→Int→Int⊕(Int)
 |0,s38=> .inr s38
 |n1+1,s38=>
  if s38<(s.puts.length:Int)then
   if(¬(mX (ix s.puts s38)=true))∨(pI s.gone (ix s.puts s38).tag=true)then
    .inl 3
   else
    jl s n1 (s38+1)
  else
   .inr s38
def fC(s:dm):Int:=
 if(4096<(s.puts.length:Int))∨(4096<(s.gone.length:Int))then
  8
 else
  if((cY (fB s.puts) fun(t:az)=>eD t)=true)∨((cY s.gone fun(t:az)=>eD t)=true)then
   2
  else
   if(¬(oT (fB s.puts)=true))∨(¬(oT s.gone=true))then
    3
   else
    match jl s (((s.puts.length:Int)- 0).toNat+1) 0 with
    | .inl r=>r
    | .inr s38=>
     0
def TP:aW U:=⟨[.d (.st 12)],fun xs es K=> ∃(s:dm),xs= [(tq s)]∧es= []∧(s.puts.length≤1000000)∧(s.gone.length≤1000000)∧((fun(r0:Int)=>r0=0→s.puts.length≤4096∧s.gone.length≤4096) (fC s)→K (.v (vi (fC s))) [])⟩
theorem OB:Fk 95 TP:=by
 refine fo Tryz.f95 [.d (.int .i64)] [] (aa PQ (aa LA (aa PO (aa Sg (aa IW (aa PV ah)))))) fun xs es K=>?_;rintro⟨s,rfl,rfl,h1,h2,h⟩;refine⟨rfl,?_⟩;have hf0:=fC.eq_1 s;refine fl (x:=s.puts.length) fun _=>?_;refine wI hf0 (fun h1 hf0=>?_) fun h1 hf0=>?_
 ·rw[hf0]at h;exact h (by omega)
 ·refine⟨_,rfl,rfl,(by omega),?_⟩;refine⟨fun(t:az)=>eD t,fun t0=>⟨_,rfl,rfl,rfl,rfl⟩,?_⟩;refine⟨_,_,rfl,rfl,?_⟩;refine⟨_,fun h2=>⟨fun(t:az)=>eD t,fun t0=>⟨_,rfl,rfl,rfl,rfl⟩,_,_,rfl,rfl,rfl,rfl⟩,rfl,?_⟩;refine wI hf0 (fun _ hf0=>?_) fun _ hf0=>?_
  ·rw[hf0]at h;exact h (by omega)
  ·refine⟨_,rfl,rfl,?_⟩;refine⟨_,fun _=>⟨_,rfl,rfl,rfl,rfl⟩,rfl,?_⟩;refine wI hf0 (fun _ hf0=>?_) fun _ hf0=>?_
   ·rw[hf0]at h;exact h (by omega)
   ·refine fl (x:=s.puts.length) fun _=>?_;refine lI 1 (fun(s38:Int)=> [(1,.v (vp 0)),(2,.v (vi 0)),(36,.v (F2 s.puts)),(37,.v (vi (s.puts.length:Int))),(38,.v (vi s38))]) (fun(s38:Int)=> [(0,.cells [(2,.d (.st 12) s)] 41)]) (fun(s38:Int)=>((s.puts.length:Int)- s38).toNat) (fun(s38:Int)=>(0≤s38)∧(s38≤(s.puts.length:Int))∧True) (fun n1 (s38:Int)=>jl s n1 s38) (jl s (((s.puts.length:Int)- 0).toNat+1) 0) [] (0:Int) ?_;rintro s38 ⟨n1,hc1,⟨hi1_0,hi1_1,-⟩,hf1⟩;have hf1:=hf1.trans (jl.eq_2 s s38 n1);refine wI hf1 (fun _ hf1=>?_) fun _ hf1=>?_
    ·refine vx s38 s.puts ?_;refine⟨_,rfl,rfl,?_⟩;refine⟨_,fun _=>⟨_,_,rfl,rfl,(by omega),rfl,rfl⟩,rfl,?_⟩;refine wI hf1 (fun _ hf1=>?_) fun _ hf1=>?_
     ·rw[hf1]at hf0;rw[hf0]at h;exact h (by omega)
     ·refine gT ?_;exact nx [] (s38+1) hc1 hf1
    ·rw[hf1]at hf0;rw[hf0]at h;exact h (by omega)
def m4(p:bK)(gone:List (az)):Bool:=
 pI gone p.tag
def P0:aW U:=⟨[.d (.st 5),.n],fun xs es K=> ∃(p:bK) (gone:List (az)),xs= [(KC p),⟨false,[(1,.pd (.sl (.st 4)) gone)]⟩]∧es= []∧(gone.length≤1000000)∧K (.v (vb (m4 p gone))) []⟩
theorem P1:Fk 103 P0:=by
 refine fo Tryz.f103 [.d .bool] [] (aa IW ah) fun xs es K=>?_;rintro⟨p,gone,rfl,rfl,h2,h⟩;refine⟨rfl,?_⟩;have hf0:=m4.eq_1 p gone;refine⟨_,_,rfl,rfl,(by omega),?_⟩;exact e0
def gH(s:dm)(p:bK):dm×Int:=
 if fC s=0 then
  if eD p.tag=true then
   (dm.mk [] [],2)
  else
   if mX p=true then
    if(((fw (fB s.puts) p.tag fun(t t':az)=>ap t t').snd)=true)∨(pI s.gone p.tag=true)then
     (dm.mk (iq s).fst (iq s).snd,0)
    else
     if(s.puts.length:Int)=4096 then
      (dm.mk [] [],4)
     else
      (dm.mk (iJ (iq s).fst (fw (fB s.puts) p.tag fun(t t':az)=>ap t t').fst [p]) (iq s).snd,0)
   else
    (dm.mk [] [],3)
 else
  (dm.mk [] [],fC s)
def TQ:aW U:=⟨[.d (.st 12),.d (.st 5)],fun xs es K=> ∃(s:dm) (p:bK),xs= [(tq s),(KC p)]∧es= []∧(s.puts.length≤1000000)∧(s.gone.length≤1000000)∧((fun(r0:dm) (r1:Int)=>r0.puts.length≤4097∧r0.gone.length≤4097) ((gH s p).1) ((gH s p).2)→K (.tup [(tq ((gH s p).1)),(vi ((gH s p).2))]) [])⟩
theorem TR:Fk 39 TQ:=by
 refine fo Tryz.f39 [.d (.st 12),.d (.int .i64)] [] (aa PQ (aa AQ (aa OB (aa PO (aa Sg (aa Pt (aa TH (aa IW (aa Qq ah))))))))) fun xs es K=>?_;rintro⟨s,p,rfl,rfl,h1,h2,h⟩;refine⟨rfl,?_⟩;have hf0:=gH.eq_1 s p;refine⟨_,rfl,rfl,(by omega),(by omega),?_⟩;refine fun _=>?_;refine wN hf0 (fun h1 hf0=>?_) fun h1 hf0=>?_
 ·rw[hf0]at h;exact h (by simp)
 ·refine⟨_,rfl,rfl,?_⟩;refine wI hf0 (fun h2 hf0=>?_) fun h2 hf0=>?_
  ·rw[hf0]at h;exact h (by simp)
  ·refine⟨_,rfl,rfl,?_⟩;refine wN hf0 (fun _ hf0=>?_) fun _ hf0=>?_
   ·rw[hf0]at h;exact h (by simp)
   ·refine dp [(true,0),(true,1),(true,3),(true,4),(false,2),(false,5),(true,6),(true,7),(true,8),(true,9),(true,10)] none (nw 3) ?_;refine⟨_,rfl,rfl,(by omega),?_⟩;refine⟨fun(t t':az)=>ap t t',fun t0 t1=>⟨_,_,rfl,rfl,rfl,rfl⟩,?_⟩;refine⟨_,_,_,rfl,rfl,(by(have hg:=rl s.puts;omega)),?_⟩;refine⟨_,rfl,rfl,(by omega),(by omega),?_⟩;refine⟨_,fun _=>⟨_,_,rfl,rfl,(by omega),rfl,rfl⟩,rfl,?_⟩;refine wI hf0 (fun _ hf0=>?_) fun _ hf0=>?_
    ·rw[hf0]at h;exact h (by(have e:iq s=(s.puts,s.gone):=rfl;simp only[e];omega))
    ·refine fl (x:=s.puts.length) fun _=>?_;refine wI hf0 (fun _ hf0=>?_) fun _ hf0=>?_
     ·rw[hf0]at h;exact h (by simp)
     ·refine⟨_,_,_,rfl,rfl,((uv _ _ _).1),(show(fw (fB s.puts) p.tag fun(t t':az)=>ap t t').fst≤(↑(iq s).fst.length:Int)from by(have hg:=rl s.puts;have h8:=(uv (fB s.puts) p.tag (fun t t1=>ap t t1)).2;have h9:(iq s).1=s.puts:=rfl;rw[h9];omega)),(by assumption),?_⟩;rw[hf0]at h;exact h (by(have e:iq s=(s.puts,s.gone):=rfl;dsimp only;rw[uu,e];simp only[List.length_cons,List.length_nil];omega))
def iT(s:dm)(l:List az):dm×Int:=
 if fC s=0 then
  if 4096<(l.length:Int)then
   (dm.mk [] [],8)
  else
   if(cY l fun(t:az)=>eD t)=true then
    (dm.mk [] [],2)
   else
    if 4096<((dd (bk (fun(t t':az)=>ap t t') (s.gone++l))).length:Int)then
     (dm.mk [] [],4)
    else
     (dm.mk (List.filter (fun(x:bK)=>!m4 x (dd (bk (fun(t t':az)=>ap t t') (s.gone++l)))) s.puts) (dd (bk (fun(t t':az)=>ap t t') (s.gone++l))),0)
 else
  (dm.mk [] [],fC s)
def TS:aW U:=⟨[.d (.st 12),.d (.sl (.st 4))],fun xs es K=> ∃(s:dm) (l:List az),xs= [(tq s),(oI l)]∧es= []∧(s.puts.length≤1000000)∧(s.gone.length≤900000)∧((fun(r0:dm) (r1:Int)=>r0.puts.length≤4097∧r0.gone.length≤4097) ((iT s l).1) ((iT s l).2)→K (.tup [(tq ((iT s l).1)),(vi ((iT s l).2))]) [])⟩
theorem TU:Fk 40 TS:=by
 refine fo Tryz.f40 [.d (.st 12),.d (.int .i64)] [] (aa LA (aa AQ (aa OD (aa Sp (aa Ss (aa Sr (aa OB (aa PO (aa LG (aa P1 ah)))))))))) fun xs es K=>?_;rintro⟨s,l,rfl,rfl,h1,h2,h⟩;refine⟨rfl,?_⟩;have hf0:=iT.eq_1 s l;refine⟨_,rfl,rfl,(by omega),(by omega),?_⟩;refine fun _=>?_;refine wN hf0 (fun h1 hf0=>?_) fun h1 hf0=>?_
 ·rw[hf0]at h;exact h (by simp)
 ·refine fl (x:=l.length) fun h2=>?_;refine wI hf0 (fun _ hf0=>?_) fun _ hf0=>?_
  ·rw[hf0]at h;exact h (by simp)
  ·refine⟨fun(t:az)=>eD t,fun t0=>⟨_,rfl,rfl,rfl,rfl⟩,?_⟩;refine⟨_,_,rfl,rfl,?_⟩;refine wI hf0 (fun _ hf0=>?_) fun _ hf0=>?_
   ·rw[hf0]at h;exact h (by simp)
   ·refine⟨_,_,rfl,rfl,(show s.gone.length≤(1000000:Nat)from by omega),(show l.length≤(1000000:Nat)from by omega),?_⟩;refine⟨fun(t t':az)=>ap t t',fun t0 t1=>⟨_,_,rfl,rfl,rfl,rfl⟩,?_⟩;refine⟨_,_,rfl,rfl,(pL _),(show(s.gone++l).length<(4611686018427387904:Nat)from by(simp only[List.length_append,List.length_cons,List.length_nil];omega)),?_⟩;refine⟨_,rfl,rfl,?_⟩;refine fl (x:=(dd (bk (fun(t t':az)=>ap t t') (s.gone++l))).length) fun _=>?_;refine wI hf0 (fun h6 hf0=>?_) fun h6 hf0=>?_
    ·rw[hf0]at h;exact h (by simp)
    ·refine⟨_,rfl,rfl,(by assumption),?_⟩;refine⟨fun(t:bK)=>m4 t (dd (bk (fun(t t':az)=>ap t t') (s.gone++l))),fun t0=>⟨_,_,rfl,rfl,(Nat.le_trans (Int.ofNat_le.1 (Int.not_lt.1 h6)) (show(4096:Nat)≤1000000 by decide)),rfl,rfl⟩,?_⟩;refine⟨_,_,rfl,rfl,?_⟩;rw[hf0]at h;exact h (by(dsimp only;exact⟨Nat.le_trans (List.length_filter_le _ _) (by omega),Nat.le_trans (Int.ofNat_le.1 (Int.not_lt.1 h6)) (by decide)⟩))
end Go.Proofs.YtmpeiadlohbikaaGreatDoor.V
end

section
set_option linter.unusedVariables false
set_option linter.unusedSimpArgs false
set_option maxRecDepth 20000
set_option maxHeartbeats 4000000
namespace Go.Proofs.YtmpeiadlohbikaaGreatDoor.V
open Go.RowKit
theorem dh(s:eb):aM s=s:=rfl
def vZ(o:lM):lM:=
 lM.mk o.act o.name o.val
def c9:aW U:=⟨[.d (.st 1)],fun xs es K=> ∃(o:lM),xs= [(N3 o)]∧es= []∧K (.v (N3 (vZ o))) []⟩
theorem k9:Fk 9 c9:=by
 refine fo Tryz.f9 [.d (.st 1)] [] (ah) fun xs es K=>?_;rintro⟨o,rfl,rfl,h⟩;refine⟨rfl,?_⟩;have hf0:=vZ.eq_1 o;exact e0
def fD(v:aB):Nat→Int→(List ar)→aB⊕(Int×(List ar))
 |0,s4,e3=> .inr (s4,e3)
 |n1+1,s4,e3=>
  if s4<(v.items.length:Int)then
   fD v n1 (s4+1) (e3++ [ar.mk (ix v.items s4).field (ix v.items s4).val])
  else
   .inr (s4,e3)
def oq(v:aB):aB:=
 match fD v (((v.items.length:Int)- 0).toNat+1) 0 ([]:List ar)with
 | .inl r=>r
 | .inr (s4,e3)=>
  aB.mk v.kind v.val e3
def TV:aW U:=⟨[.d (.st 7)],fun xs es K=> ∃(v:aB),xs= [(KA v)]∧es= []∧(v.items.length≤1000000)∧K (.v (KA (oq v))) []⟩
theorem CL:Fk 15 TV:=by
 refine fo Tryz.f15 [.d (.st 7)] [] (ah) fun xs es K=>?_;rintro⟨v,rfl,rfl,h1,h⟩;refine⟨rfl,?_⟩;have hf0:=oq.eq_1 v;refine⟨Int×(List ar),4,fun(s4,e3)=> [(1,.v ⟨false,[(1,.ptr 0 0)]⟩),(2,.v ⟨false,[(1,.ptr 1 0)]⟩),(3,.v ⟨false,[(1,.ptr 2 0)]⟩),(4,.v ⟨false,[(1,.d (.int .i64) s4)]⟩)],fun(s4,e3)=> [(0,.cells [(3,.d (.st 7) v)] 75),(1,.cells [(1,.d (.int .i64) (0:Int)),(1,.d (.int .i64) (0:Int)),(1,.nils)] 81),(2,.cells [(1,.d (.int .i64) v.kind),(1,.d (.int .i64) v.val),(1,.own 3 0)] 81),(3,.row 0 (.st 6) e3 149)],aN (fun(s4,e3)=>((↑v.items.length:Int)- s4).toNat) (fun(s4,e3)=>((0:Int)≤s4)∧(s4≤(↑v.items.length:Int))∧((e3.length:Int)≤s4)∧True) (fun n1 (s4,e3)=>fD v n1 s4 e3) (fD v (((↑v.items.length:Int)-(0:Int)).toNat+1) (0:Int) ([]:List ar)),fun(s4,e3)=>((↑v.items.length:Int)- s4).toNat,⟨[],((0:Int),([]:List ar)),aN.mk0 _ (Nat.lt_succ_self _) ⟨show(0:Int)≤(0:Int)from by omega,show(0:Int)≤(↑v.items.length:Int)from by omega,show(↑[].length:Int)≤(0:Int)from by(simp only[List.length_append,List.length_cons,List.length_nil];omega),trivial⟩ rfl,?_⟩,?_⟩
 ·repeat (first|exact trivial|refine And.intro rfl ?_)
 ·rintro⟨s4,e3⟩ ⟨n1,hc1,⟨hi1_0,hi1_1,hi1_2,-⟩,hf1⟩;have hf1:=hf1.trans (fD.eq_2 v s4 e3 n1);refine fun h0=>?_;have h0:(↑v.items.length:Int)≤(9223372036854775807:Int):=h0.2;refine vI hf1 iD (fun h1 hf1=>?_) (fun h1 hf1=>?_)
  ·refine .inl ⟨[(true,0),(true,1),(true,2),(true,3),(true,4),(true,5),(true,6),(true,7),(true,8),(true,9),(true,10),(true,11),(true,12),(true,13),(true,14),(false,15),(false,16),(true,17)],some 18,[3,4,5,6,7,8,9,10,11,12,13,14,15],by kernel_rfl,?_⟩;refine And.intro (show(0:Int)≤s4∧s4<(↑v.items.length:Int)from by omega) ?_;refine And.intro (show(0:Int)≤s4∧s4<(↑v.items.length:Int)from by omega) ?_;refine And.intro (show(e3.length+ [ar.mk (ix v.items s4).field (ix v.items s4).val].length)*(24:Nat)≤(140737488355328:Nat)from by(simp only[List.length_append,List.length_cons,List.length_nil];omega)) ?_;refine .inl (And.intro (jc (p:=s4) (q:=(1:Int)) (r:=s4+(1:Int)) (by omega)) ?_);have hm1:((↑v.items.length:Int)-(s4+(1:Int))).toNat<((↑v.items.length:Int)- s4).toNat:=by omega
   refine⟨[],(s4+(1:Int),e3++ [ar.mk (ix v.items s4).field (ix v.items s4).val]),hm1,aN.next (s:=(s4,e3)) hc1 hm1 ⟨show(0:Int)≤s4+(1:Int)from by omega,show s4+(1:Int)≤(↑v.items.length:Int)from by omega,show(↑(e3++ [ar.mk (ix v.items s4).field (ix v.items s4).val]).length:Int)≤s4+(1:Int)from by(simp only[List.length_append,List.length_cons,List.length_nil];omega),trivial⟩ hf1,?_⟩;repeat (first|exact trivial|refine And.intro rfl ?_)
  ·rw[hf1]at hf0;rw[hf0]at h;exact h
def jm(s:eb)(e:dA):eb×Int:=
 if jk e=0 then
  if eO e.act=s.kind then
   if e.act=1 then
    if(jh (aM s).reg e.val e.at_).snd=0 then
     (eb.mk (aM s).kind (jh (aM s).reg e.val e.at_).fst (aM s).num (aM s).set (aM s).map,0)
    else
     (eb.mk 0 (fK.mk 0 (aV.mk 0 0)) (eT.mk 0 0) (cR.mk [] []) (dm.mk [] []),(jh (aM s).reg e.val e.at_).snd)
   else
    if e.act=2 then
     if(jj (aM s).num e.val).snd=0 then
      (eb.mk (aM s).kind (aM s).reg (jj (aM s).num e.val).fst (aM s).set (aM s).map,0)
     else
      (eb.mk 0 (fK.mk 0 (aV.mk 0 0)) (eT.mk 0 0) (cR.mk [] []) (dm.mk [] []),(jj (aM s).num e.val).snd)
    else
     if e.act=3 then
      if(kA (aM s).set (b9.mk e.tag e.name)).snd=0 then
       (eb.mk (aM s).kind (aM s).reg (aM s).num (kA (aM s).set (b9.mk e.tag e.name)).fst (aM s).map,0)
      else
       (eb.mk 0 (fK.mk 0 (aV.mk 0 0)) (eT.mk 0 0) (cR.mk [] []) (dm.mk [] []),(kA (aM s).set (b9.mk e.tag e.name)).snd)
     else
      if e.act=4 then
       if(iS (aM s).set e.tags).snd=0 then
        (eb.mk (aM s).kind (aM s).reg (aM s).num (iS (aM s).set e.tags).fst (aM s).map,0)
       else
        (eb.mk 0 (fK.mk 0 (aV.mk 0 0)) (eT.mk 0 0) (cR.mk [] []) (dm.mk [] []),(iS (aM s).set e.tags).snd)
      else
       if e.act=5 then
        if(gH (aM s).map (bK.mk e.tag e.name e.val e.at_)).snd=0 then
         (eb.mk (aM s).kind (aM s).reg (aM s).num (aM s).set (gH (aM s).map (bK.mk e.tag e.name e.val e.at_)).fst,0)
        else
         (eb.mk 0 (fK.mk 0 (aV.mk 0 0)) (eT.mk 0 0) (cR.mk [] []) (dm.mk [] []),(gH (aM s).map (bK.mk e.tag e.name e.val e.at_)).snd)
       else
        if e.act=6 then
         if(iT (aM s).map e.tags).snd=0 then
          (eb.mk (aM s).kind (aM s).reg (aM s).num (aM s).set (iT (aM s).map e.tags).fst,0)
         else
          (eb.mk 0 (fK.mk 0 (aV.mk 0 0)) (eT.mk 0 0) (cR.mk [] []) (dm.mk [] []),(iT (aM s).map e.tags).snd)
        else
         (aM s,0)
  else
   (eb.mk 0 (fK.mk 0 (aV.mk 0 0)) (eT.mk 0 0) (cR.mk [] []) (dm.mk [] []),5)
 else
  (eb.mk 0 (fK.mk 0 (aV.mk 0 0)) (eT.mk 0 0) (cR.mk [] []) (dm.mk [] []),jk e)
def TW:aW U:=⟨[.d (.st 15),.d (.st 16)],fun xs es K=> ∃(s:eb) (e:dA),xs= [(wn s),(J2 e)]∧es= []∧(s.set.adds.length≤4097)∧(s.set.gone.length≤4097)∧(s.map.puts.length≤4097)∧(s.map.gone.length≤4097)∧((fun(r0:eb) (r1:Int)=>r0.set.adds.length≤4097∧r0.set.gone.length≤4097∧r0.map.puts.length≤4097∧r0.map.gone.length≤4097) ((jm s e).1) ((jm s e).2)→K (.tup [(wn ((jm s e).1)),(vi ((jm s e).2))]) [])⟩
theorem xu:Fk 10 TW:=by
 refine fo Tryz.f10 [.d (.st 15),.d (.int .i64)] [] (aa IV (aa TE (aa TB (aa Tq (aa Tx (aa Tk (aa TM (aa TR (aa TU ah))))))))) fun xs es K=>?_;rintro⟨s,e,rfl,rfl,h1,h2,h3,h4,h⟩;refine⟨rfl,?_⟩;have hf0:=jm.eq_1 s e;refine⟨_,rfl,rfl,?_⟩;refine fun _=>?_;refine wN hf0 (fun h1 hf0=>?_) fun h1 hf0=>?_
 ·rw[hf0]at h;exact h (by simp)
 ·refine dp [(true,0),(true,1),(true,3),(true,4),(false,2),(true,5)] none (nw 3) ?_;refine⟨_,rfl,rfl,?_⟩;refine wN hf0 (fun h2 hf0=>?_) fun h2 hf0=>?_
  ·rw[hf0]at h;exact h (by simp)
  ·refine⟨_,rfl,rfl,(by omega),(by omega),(by omega),(by omega),?_⟩;refine wI hf0 (fun h3 hf0=>?_) fun h3 hf0=>?_
   ·refine⟨_,_,_,rfl,rfl,?_⟩;refine wN hf0 (fun h4 hf0=>?_) fun h4 hf0=>?_
    ·rw[hf0]at h;exact h (by simp)
    ·rw[hf0]at h;exact h (by(simp only[dh]at*;omega))
   ·refine wI hf0 (fun _ hf0=>?_) fun _ hf0=>?_
    ·refine⟨_,_,rfl,rfl,?_⟩;refine wN hf0 (fun _ hf0=>?_) fun _ hf0=>?_
     ·rw[hf0]at h;exact h (by simp)
     ·rw[hf0]at h;exact h (by(simp only[dh]at*;omega))
    ·refine wI hf0 (fun _ hf0=>?_) fun _ hf0=>?_
     ·refine⟨_,_,rfl,rfl,(by(rw[dh s];omega)),(by(rw[dh s];omega)),?_⟩;refine fun _=>?_;refine wN hf0 (fun _ hf0=>?_) fun _ hf0=>?_
      ·rw[hf0]at h;exact h (by simp)
      ·rw[hf0]at h;exact h (by(simp only[dh]at*;omega))
     ·refine wI hf0 (fun _ hf0=>?_) fun _ hf0=>?_
      ·refine⟨_,_,rfl,rfl,(by(rw[dh s];omega)),(by(rw[dh s];omega)),?_⟩;refine fun _=>?_;refine wN hf0 (fun _ hf0=>?_) fun _ hf0=>?_
       ·rw[hf0]at h;exact h (by simp)
       ·rw[hf0]at h;exact h (by(simp only[dh]at*;omega))
      ·refine wI hf0 (fun _ hf0=>?_) fun _ hf0=>?_
       ·refine⟨_,_,rfl,rfl,(by(rw[dh s];omega)),(by(rw[dh s];omega)),?_⟩;refine fun _=>?_;refine wN hf0 (fun _ hf0=>?_) fun _ hf0=>?_
        ·rw[hf0]at h;exact h (by simp)
        ·rw[hf0]at h;exact h (by(simp only[dh]at*;omega))
       ·refine wI hf0 (fun _ hf0=>?_) fun _ hf0=>?_
        ·refine⟨_,_,rfl,rfl,(by(rw[dh s];omega)),(by(rw[dh s];omega)),?_⟩;refine fun _=>?_;refine wN hf0 (fun _ hf0=>?_) fun _ hf0=>?_
         ·rw[hf0]at h;exact h (by simp)
         ·rw[hf0]at h;exact h (by(simp only[dh]at*;omega))
        ·refine vF iD (by omega) ?_;rw[hf0]at h;exact h (show((fun(r0:eb) (r1:Int)=>r0.set.adds.length≤4097∧r0.set.gone.length≤4097∧r0.map.puts.length≤4097∧r0.map.gone.length≤4097) (aM s) (0:Int):Prop)from by(rw[dh s];omega))
def jn(s:cR)(elem:List UInt8):Nat→Int→(List az)→(List az)⊕(Int×(List az))
 |0,s14,s5=> .inr (s14,s5)
 |n1+1,s14,s5=>
  if s14<(s.adds.length:Int)then
   if(ix s.adds s14).elem=elem then
    jn s elem n1 (s14+1) (s5++ [(ix s.adds s14).tag])
   else
    jn s elem n1 (s14+1) s5
  else
   .inr (s14,s5)
def oU(s:cR)(elem:List UInt8):List az:=
 if fA s=0 then
  match jn s elem (((s.adds.length:Int)- 0).toNat+1) 0 ([]:List az)with
  | .inl r=>r
  | .inr (s14,s5)=>
   s5
 else
  []
def TX:aW U:=⟨[.d (.st 11),.d .str],fun xs es K=> ∃(s:cR) (elem:List UInt8),xs= [(u5 s),(vt elem)]∧es= []∧(s.adds.length≤1000000)∧(s.gone.length≤1000000)∧((fun(r0:List az)=>r0.length≤4096) (oU s elem)→K (.v (oI (oU s elem))) [])⟩
theorem Sj:Fk 31 TX:=by
 refine fo Tryz.f31 [.d (.sl (.st 4))] [] (aa Ou ah) fun xs es K=>?_;rintro⟨s,elem,rfl,rfl,h1,h2,h⟩;refine⟨rfl,?_⟩;have hf0:=oU.eq_1 s elem;refine⟨_,rfl,rfl,(by omega),?_⟩;refine fun _=>?_;refine wN hf0 (fun h1 hf0=>?_) fun h1 hf0=>?_
 ·rw[hf0]at h;exact h (by simp)
 ·refine fl (x:=s.adds.length) fun h2=>?_;refine lI (σ:=Int×(List az)) 2 (fun(s14,s5)=> [(1,.v (vt elem)),(4,.v ⟨false,[(1,.nils)]⟩),(5,.v (vo 1)),(12,.v (rJ s.adds)),(13,.v (vi (s.adds.length:Int))),(14,.v (vi s14))]) (fun(s14,s5)=> [(1,.row 0 (.st 4) s5 61)]) (fun(s14,s5)=>((s.adds.length:Int)- s14).toNat) (fun(s14,s5)=>(0≤s14)∧(s14≤(s.adds.length:Int))∧((s5.length:Int)≤s14)∧True) (fun n1 (s14,s5)=>jn s elem n1 s14 s5) (jn s elem (((s.adds.length:Int)- 0).toNat+1) 0 ([]:List az)) [] ((0:Int),([]:List az)) ?_;rintro⟨s14,s5⟩ ⟨n1,hc1,⟨hi1_0,hi1_1,hi1_2,-⟩,hf1⟩;have hf1:=hf1.trans (jn.eq_2 s elem s14 s5 n1);refine wI hf1 (fun _ hf1=>?_) fun _ hf1=>?_
  ·refine vx s14 s.adds ?_;refine wI hf1 (fun _ hf1=>?_) fun _ hf1=>?_
   ·refine vs (P:=(s5.length+ [(ix s.adds s14).tag].length)*(24:Nat)≤(140737488355328:Nat)) ?_;refine gT ?_;exact nx (s:=(s14,s5)) [] (s14+1,s5++ [(ix s.adds s14).tag]) hc1 hf1
   ·refine gT ?_;exact nx (s:=(s14,s5)) [] (s14+1,s5) hc1 hf1
  ·rw[hf1]at hf0;rw[hf0]at h;exact h (show((fun(r0:List az)=>r0.length≤4096) s5:Prop)from by omega)
def nV(p:bK)(field:List UInt8):Bool:=
 decide ¬p.field=field
def P2:aW U:=⟨[.d (.st 5),.n],fun xs es K=> ∃(p:bK) (field:List UInt8),xs= [(KC p),⟨false,[(1,.pd .str field)]⟩]∧es= []∧K (.v (vb (nV p field))) []⟩
theorem P3:Fk 148 P2:=by
 refine fo Tryz.f148 [.d .bool] [] (ah) fun xs es K=>?_;rintro⟨p,field,rfl,rfl,h⟩;refine⟨rfl,?_⟩;have hf0:=nV.eq_1 p field;exact e0
def xw(s:dm)(field:List UInt8):List bK:=
 if fC s=0 then
  List.filter (fun(x:bK)=>!nV x field) s.puts
 else
  []
def TY:aW U:=⟨[.d (.st 12),.d .str],fun xs es K=> ∃(s:dm) (field:List UInt8),xs= [(tq s),(vt field)]∧es= []∧(s.puts.length≤1000000)∧(s.gone.length≤1000000)∧((fun(r0:List bK)=>r0.length≤4096) (xw s field)→K (.v (F2 (xw s field))) [])⟩
theorem TZ:Fk 75 TY:=by
 refine fo Tryz.f75 [.d (.sl (.st 5))] [] (aa OD (aa OB (aa LG (aa P3 ah)))) fun xs es K=>?_;rintro⟨s,field,rfl,rfl,h1,h2,h⟩;refine⟨rfl,?_⟩;have hf0:=xw.eq_1 s field;refine⟨_,rfl,rfl,(by omega),(by omega),?_⟩;refine fun _=>?_;refine wN hf0 (fun h1 hf0=>?_) fun h1 hf0=>?_
 ·rw[hf0]at h;exact h (by simp)
 ·refine⟨_,rfl,rfl,(by assumption),?_⟩;refine⟨fun(t:bK)=>nV t field,fun t0=>⟨_,_,rfl,rfl,rfl,rfl⟩,?_⟩;refine⟨_,_,rfl,rfl,?_⟩;rw[hf0]at h;exact h (show((fun(r0:List bK)=>r0.length≤4096) (List.filter (fun(x:bK)=>!nV x field) s.puts):Prop)from by(have hl:=List.length_filter_le (fun(x:bK)=>!nV x field) s.puts;dsimp only;omega))
def nW(s:dm)(field:List UInt8):List az:=
 fB (xw s field)
def T0:aW U:=⟨[.d (.st 12),.d .str],fun xs es K=> ∃(s:dm) (field:List UInt8),xs= [(tq s),(vt field)]∧es= []∧(s.puts.length≤1000000)∧(s.gone.length≤1000000)∧K (.v (oI (nW s field))) []⟩
theorem P4:Fk 32 T0:=by
 refine fo Tryz.f32 [.d (.sl (.st 4))] [] (aa PQ (aa TZ ah)) fun xs es K=>?_;rintro⟨s,field,rfl,rfl,h1,h2,h⟩;refine⟨rfl,?_⟩;have hf0:=nW.eq_1 s field;refine⟨_,_,rfl,rfl,(by omega),(by omega),?_⟩;refine fun _=>?_;refine⟨_,rfl,rfl,(by omega),?_⟩;exact e0
def kF(s:eb)(o:lM)(tag:az)(tm:aV):dA×Int:=
 if ct o=0 then
  if eO o.act=s.kind then
   if fT tag=true then
    (dA.mk 0 [] 0 (az.mk (bC.mk 0 0) 0) (aV.mk 0 0) [],2)
   else
    if lq tm=true then
     if o.act=1 then
      (dA.mk o.act o.name o.val tag tm [],0)
     else
      if o.act=5 then
       (dA.mk o.act o.name o.val tag tm [],0)
      else
       if o.act=4 then
        (dA.mk o.act o.name o.val tag (aV.mk 0 0) (oU s.set o.name),0)
       else
        if o.act=6 then
         (dA.mk o.act o.name o.val tag (aV.mk 0 0) (nW s.map o.name),0)
        else
         (dA.mk o.act o.name o.val tag (aV.mk 0 0) [],0)
    else
     (dA.mk 0 [] 0 (az.mk (bC.mk 0 0) 0) (aV.mk 0 0) [],3)
  else
   (dA.mk 0 [] 0 (az.mk (bC.mk 0 0) 0) (aV.mk 0 0) [],5)
 else
  (dA.mk 0 [] 0 (az.mk (bC.mk 0 0) 0) (aV.mk 0 0) [],ct o)
def c8:aW U:=⟨[.d (.st 15),.d (.st 1),.d (.st 4),.d (.st 2)],fun xs es K=> ∃(s:eb) (o:lM) (tag:az) (tm:aV),xs= [(wn s),(N3 o),(za tag),(J3 tm)]∧es= []∧(s.set.adds.length≤900000)∧(s.set.gone.length≤900000)∧(s.map.puts.length≤900000)∧(s.map.gone.length≤900000)∧K (.tup [(J2 ((kF s o tag tm).1)),(vi ((kF s o tag tm).2))]) []⟩
theorem k8:Fk 8 c8:=by
 refine fo Tryz.f8 [.d (.st 16),.d (.int .i64)] [] (aa Kx (aa IV (aa Oz (aa OA (aa Sj (aa P4 ah)))))) fun xs es K=>?_;rintro⟨s,o,tag,tm,rfl,rfl,h1,h2,h3,h4,h⟩;refine⟨rfl,?_⟩;have hf0:=kF.eq_1 s o tag tm;refine⟨_,rfl,rfl,?_⟩;refine wN hf0 (fun _ hf0=>e0) fun _ hf0=>?_;refine dp [(true,0),(true,1),(true,3),(true,4),(false,2),(true,5),(true,6)] none (nw 5) ?_;refine⟨_,rfl,rfl,?_⟩;refine wN hf0 (fun h1 hf0=>e0) fun h1 hf0=>?_;refine⟨_,rfl,rfl,?_⟩;refine wI hf0 (fun h2 hf0=>e0) fun h2 hf0=>?_;refine⟨_,rfl,rfl,?_⟩;refine wN hf0 (fun h3 hf0=>e0) fun h3 hf0=>?_;refine wI hf0 (fun h4 hf0=>?_) fun h4 hf0=>?_
 ·refine vT iD (by omega) ?_;exact e0
 ·refine wI hf0 (fun _ hf0=>e0) fun _ hf0=>?_;refine wI hf0 (fun _ hf0=>?_) fun _ hf0=>?_
  ·refine⟨_,_,rfl,rfl,(by omega),(by omega),?_⟩;refine fun _=>?_;exact e0
  ·refine wI hf0 (fun _ hf0=>?_) fun _ hf0=>e0;refine⟨_,_,rfl,rfl,(by omega),(by omega),?_⟩;exact e0
end Go.Proofs.YtmpeiadlohbikaaGreatDoor.V
end

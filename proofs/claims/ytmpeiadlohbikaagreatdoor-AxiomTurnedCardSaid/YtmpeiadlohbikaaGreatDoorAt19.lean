/- Functions walked: printed by the walker. -/
import Derived.Test.YtmpeiadlohbikaaGreatDoorAt13
import Derived.Test.YtmpeiadlohbikaaGreatDoorAt18
section
set_option linter.unusedVariables false
set_option linter.unusedSimpArgs false
set_option maxRecDepth 20000
set_option maxHeartbeats 4000000
namespace Go.Proofs.YtmpeiadlohbikaaGreatDoor.V
open Go.RowKit
def ez(id:bC):Int:=
 if(((id.origin<0)∨(7<id.origin))∨(id.seq<1))∨(1048576<id.seq)then
  2
 else
  0
def SY:aW U:=⟨[.d (.st 0)],fun xs es K=> ∃(id:bC),xs= [(FZ id)]∧es= []∧K (.v (vi (ez id))) []⟩
theorem R4:Fk 41 SY:=by
 refine fo Tryz.f41 [.d (.int .i64)] [] (ah) fun xs es K=>?_;rintro⟨id,rfl,rfl,h⟩;refine⟨rfl,?_⟩;have hf0:=ez.eq_1 id;exact wI hf0 (fun _ hf0=>e0) fun _ hf0=>e0
theorem jH{id:bC}(h:ez id=0):0≤id.origin∧id.origin≤7∧1≤id.seq∧id.seq≤1048576:=by
 unfold ez at h;split at h
 ·cases h
 ·omega
def dK(v:List Int):Nat→Int→Int⊕(Int)
 |0,s3=> .inr s3
 |n1+1,s3=>
  if s3<8 then
   if 1048576<ix v s3 then
    .inl 2
   else
    dK v n1 (s3+1)
  else
   .inr s3
def fa(v:List Int):Int:=
 match dK v (((8:Int)-(0:Int)).toNat+1) (0:Int)with
 | .inl r=>r
 | .inr s3=>
  0
def SZ:aW U:=⟨[.d (.arr 8 (.int .u32))],fun xs es K=> ∃(v:List Int),xs= [(ja v)]∧es= []∧K (.v (vi (fa v))) []⟩
theorem S0:Fk 66 SZ:=by
 refine fo Tryz.f66 [.d (.int .i64)] [] (ah) fun xs es K=>?_;rintro⟨v,rfl,rfl,h⟩;refine⟨rfl,?_⟩;have hf0:=fa.eq_1 v;refine lI 1 (fun(s3:Int)=> [(1,.v (vp 0)),(2,.v (vi 0)),(3,.v (vi s3))]) (fun(s3:Int)=> [(0,.cells [(8,.d (.arr 8 (.int .u32)) v)] 45)]) (fun(s3:Int)=>(8 - s3).toNat) (fun(s3:Int)=>(0≤s3)∧(s3≤8)∧True) (fun n1 (s3:Int)=>dK v n1 s3) (dK v (((8:Int)-(0:Int)).toNat+1) (0:Int)) [] (0:Int) ?_;rintro s3 ⟨n1,hc1,⟨hi1_0,hi1_1,-⟩,hf1⟩;have hf1:=hf1.trans (dK.eq_2 v s3 n1);refine wI hf1 (fun _ hf1=>?_) fun _ hf1=>e1;refine .inl ?_;refine vs (P:=0≤s3∧s3<((8:Nat):Int)) ?_;refine wI hf1 (fun _ hf1=>e1) fun _ hf1=>?_;refine gT ?_;exact nx [] (s3+1) hc1 hf1
def jI(a:List Int)(b:List Int):Nat→Int→Bool⊕(Int)
 |0,s5=> .inr s5
 |n1+1,s5=>
  if s5<8 then
   if ix b s5<ix a s5 then
    .inl false
   else
    jI a b n1 (s5+1)
  else
   .inr s5
def ku(a:List Int)(b:List Int):Bool:=
 match jI a b (((8:Int)-(0:Int)).toNat+1) (0:Int)with
 | .inl r=>r
 | .inr s5=>
  true
def R5:aW U:=⟨[.d (.arr 8 (.int .u32)),.d (.arr 8 (.int .u32))],fun xs es K=> ∃(a:List Int) (b:List Int),xs= [(ja a),(ja b)]∧es= []∧K (.v (vb (ku a b))) []⟩
theorem O2:Fk 22 R5:=by
 refine fo Tryz.f22 [.d .bool] [] (ah) fun xs es K=>?_;rintro⟨a,b,rfl,rfl,h⟩;refine⟨rfl,?_⟩;have hf0:=ku.eq_1 a b;refine lI 2 (fun(s5:Int)=> [(2,.v (vp 0)),(3,.v (vp 1)),(4,.v (vb false)),(5,.v (vi s5))]) (fun(s5:Int)=> [(0,.cells [(8,.d (.arr 8 (.int .u32)) a)] 45),(1,.cells [(8,.d (.arr 8 (.int .u32)) b)] 45)]) (fun(s5:Int)=>(8 - s5).toNat) (fun(s5:Int)=>(0≤s5)∧(s5≤8)∧True) (fun n1 (s5:Int)=>jI a b n1 s5) (jI a b (((8:Int)-(0:Int)).toNat+1) (0:Int)) [] (0:Int) ?_;rintro s5 ⟨n1,hc1,⟨hi1_0,hi1_1,-⟩,hf1⟩;have hf1:=hf1.trans (jI.eq_2 a b s5 n1);refine wI hf1 (fun _ hf1=>?_) fun _ hf1=>e1;refine dp (up 7) none (nw 2) ?_;refine .inl ?_;refine vs (P:=0≤s5∧s5<((8:Nat):Int)) ?_;refine .inl ?_;refine vs (P:=0≤s5∧s5<((8:Nat):Int)) ?_;refine wI hf1 (fun _ hf1=>e1) fun _ hf1=>?_;refine gT ?_;exact nx [] (s5+1) hc1 hf1
def jg(b:List Int):Nat→Int→(List Int)→(List Int)⊕(Int×(List Int))
 |0,s5,s2_0=> .inr (s5,s2_0)
 |n1+1,s5,s2_0=>
  if s5<8 then
   jg b n1 (s5+1) (s2_0.set s5.toNat (max (ix s2_0 s5) (ix b s5)))
  else
   .inr (s5,s2_0)
def ut(a:List Int)(b:List Int):List Int:=
 match jg b (((8:Int)-(0:Int)).toNat+1) (0:Int) a with
 | .inl r=>r
 | .inr (s5,s2_0)=>
  s2_0
def S1:aW U:=⟨[.d (.arr 8 (.int .u32)),.d (.arr 8 (.int .u32))],fun xs es K=> ∃(a:List Int) (b:List Int),xs= [(ja a),(ja b)]∧es= []∧K (.v (ja (ut a b))) []⟩
theorem AM:Fk 12 S1:=by
 refine fo Tryz.f12 [.d (.arr 8 (.int .u32))] [] (ah) fun xs es K=>?_;rintro⟨a,b,rfl,rfl,h⟩;refine⟨rfl,?_⟩;have hf0:=ut.eq_1 a b;refine⟨Int×(List Int),3,fun(s5,s2_0)=> [(2,.v ⟨false,[(1,.ptr 0 0)]⟩),(3,.v ⟨false,[(1,.ptr 1 0)]⟩),(4,.v ⟨false,[(1,.ptr 2 0)]⟩),(5,.v ⟨false,[(1,.d (.int .i64) s5)]⟩)],fun(s5,s2_0)=> [(0,.cells [(8,.d (.arr 8 (.int .u32)) s2_0)] 45),(1,.cells [(8,.d (.arr 8 (.int .u32)) b)] 45),(2,.cells [(1,.d (.int .u32) (0:Int)),(1,.d (.int .u32) (0:Int)),(1,.d (.int .u32) (0:Int)),(1,.d (.int .u32) (0:Int)),(1,.d (.int .u32) (0:Int)),(1,.d (.int .u32) (0:Int)),(1,.d (.int .u32) (0:Int)),(1,.d (.int .u32) (0:Int))] 45)],aN (fun(s5,s2_0)=>((8:Int)- s5).toNat) (fun(s5,s2_0)=>((0:Int)≤s5)∧(s5≤(8:Int))∧True) (fun n1 (s5,s2_0)=>jg b n1 s5 s2_0) (jg b (((8:Int)-(0:Int)).toNat+1) (0:Int) a),fun(s5,s2_0)=>((8:Int)- s5).toNat,⟨[],((0:Int),a),aN.mk0 _ (Nat.lt_succ_self _) ⟨show(0:Int)≤(0:Int)from by omega,show(0:Int)≤(8:Int)from by omega,trivial⟩ rfl,?_⟩,?_⟩
 ·repeat (first|exact trivial|refine And.intro rfl ?_)
 ·rintro⟨s5,s2_0⟩ ⟨n1,hc1,⟨hi1_0,hi1_1,-⟩,hf1⟩;have hf1:=hf1.trans (jg.eq_2 b s5 s2_0 n1);refine vI hf1 iD (fun _ hf1=>?_) (fun _ hf1=>?_)
  ·refine .inl ⟨[(true,0),(true,1),(true,2),(true,3),(true,4),(true,5),(true,6),(true,7),(true,8)],some 9,[3,4,5,6,7,8,9,10,11,12,13,14],by kernel_rfl,?_⟩;refine .inl ?_;refine And.intro (show(0:Int)≤s5∧s5<(↑(8:Nat):Int)from by omega) ?_;refine .inl ?_;refine And.intro (show(0:Int)≤s5∧s5<(↑(8:Nat):Int)from by omega) ?_;refine .inl ?_;refine And.intro (show(0:Int)≤s5∧s5<(↑(8:Nat):Int)from by omega) ?_;refine .inl (And.intro (jc (p:=s5) (q:=(1:Int)) (r:=s5+(1:Int)) (by omega)) ?_);have hm1:((8:Int)-(s5+(1:Int))).toNat<((8:Int)- s5).toNat:=by omega
   refine⟨[],(s5+(1:Int),s2_0.set s5.toNat (max (ix s2_0 s5) (ix b s5))),hm1,aN.next (s:=(s5,s2_0)) hc1 hm1 ⟨show(0:Int)≤s5+(1:Int)from by omega,show s5+(1:Int)≤(8:Int)from by omega,trivial⟩ hf1,?_⟩;repeat (first|exact trivial|refine And.intro rfl ?_)
  ·rw[hf1]at hf0;rw[hf0]at h;exact h
def oR(v:List Int)(id:bC):Bool:=
 decide (ez id=0)&&decide (id.seq≤ix v id.origin)
def S2:aW U:=⟨[.d (.arr 8 (.int .u32)),.d (.st 0)],fun xs es K=> ∃(v:List Int) (id:bC),xs= [(ja v),(FZ id)]∧es= []∧K (.v (vb (oR v id))) []⟩
theorem AN:Fk 11 S2:=by
 refine fo Tryz.f11 [.d .bool] [] (aa R4 ah) fun xs es K=>?_;rintro⟨v,id,rfl,rfl,h⟩;refine⟨rfl,?_⟩;have hf0:=oR.eq_1 v id;refine dp [(true,0),(false,1),(true,2),(true,3),(true,4),(true,5),(true,6),(true,7),(true,8),(true,9),(true,10),(true,11),(true,12)] none (nw 2) ?_;refine⟨_,rfl,rfl,?_⟩;refine .inl ?_;refine And.intro (show decide (ez id=(0:Int))=((8:Nat),true).snd→(0:Int)≤id.origin∧id.origin<(↑(8:Nat):Int)from(fun h=>⟨(jH (of_decide_eq_true h)).1,by have:=(jH (of_decide_eq_true h)).2.1;simp;omega⟩)) ?_;exact e0
def d9(v:List Int)(id:bC):(List Int)×Int:=
 if(¬fa v=0)∨(¬ez id=0)then
  ([0,0,0,0,0,0,0,0],2)
 else
  if oR v id=true then
   ([0,0,0,0,0,0,0,0],11)
  else
   if(id.seq - 1)%4294967296=ix v id.origin then
    (v.set id.origin.toNat id.seq,0)
   else
    ([0,0,0,0,0,0,0,0],17)
def R6:aW U:=⟨[.d (.arr 8 (.int .u32)),.d (.st 0)],fun xs es K=> ∃(v:List Int) (id:bC),xs= [(ja v),(FZ id)]∧es= []∧K (.tup [(ja ((d9 v id).1)),(vi ((d9 v id).2))]) []⟩
theorem O3:Fk 23 R6:=by
 refine fo Tryz.f23 [.d (.arr 8 (.int .u32)),.d (.int .i64)] [] (aa AN (aa R4 (aa S0 ah))) fun xs es K=>?_;rintro⟨v,id,rfl,rfl,h⟩;refine⟨rfl,?_⟩;have hf0:=d9.eq_1 v id;refine⟨_,rfl,rfl,?_⟩;refine⟨_,fun _=>⟨_,rfl,rfl,rfl,rfl⟩,rfl,?_⟩;refine wI hf0 (fun _ hf0=>e0) fun _ hf0=>?_;refine⟨_,_,rfl,rfl,?_⟩;refine wI hf0 (fun _ hf0=>e0) fun _ hf0=>?_;refine dp (up 9) none (nw 3) ?_;refine .inr ?_;refine .inl ?_;refine vs (P:=0≤id.origin∧id.origin<((8:Nat):Int)) ?_ (by(have hq:=jH (id:=id) (by omega);omega));refine wN hf0 (fun _ hf0=>e0) fun _ hf0=>?_;refine .inl ?_;refine vs (P:=0≤id.origin∧id.origin<((8:Nat):Int)) ?_ (by(have hq:=jH (id:=id) (by omega);omega));exact e0
def dL(a:List ar)(b:List ar):Nat→Int→Bool⊕(Int)
 |0,s5=> .inr s5
 |n1+1,s5=>
  if s5<(a.length:Int)then
   if ix a s5=ix b s5 then
    dL a b n1 (s5+1)
   else
    .inl false
  else
   .inr s5
def gC(a:List ar)(b:List ar):Bool:=
 if(a.length:Int)=(b.length:Int)then
  match dL a b (((a.length:Int)- 0).toNat+1) 0 with
  | .inl r=>r
  | .inr s5=>
   true
 else
  false
def S3:aW U:=⟨[.d (.sl (.st 6)),.d (.sl (.st 6))],fun xs es K=> ∃(a:List ar) (b:List ar),xs= [(Cw a),(Cw b)]∧es= []∧K (.v (vb (gC a b))) []⟩
theorem S4:Fk 49 S3:=by
 refine fo Tryz.f49 [.d .bool] [] (ah) fun xs es K=>?_;rintro⟨a,b,rfl,rfl,h⟩;refine⟨rfl,?_⟩;have hf0:=gC.eq_1 a b;refine fl (x:=a.length) fun _=>?_;refine fl (x:=b.length) fun _=>?_;refine wN hf0 (fun _ hf0=>e0) fun _ hf0=>?_;refine lI 0 (fun(s5:Int)=> [(0,.v (Cw a)),(1,.v (Cw b)),(4,.v (vb false)),(5,.v (vi s5))]) (fun(s5:Int)=> []) (fun(s5:Int)=>((a.length:Int)- s5).toNat) (fun(s5:Int)=>(0≤s5)∧(s5≤(a.length:Int))∧True) (fun n1 (s5:Int)=>dL a b n1 s5) (dL a b (((a.length:Int)- 0).toNat+1) 0) [] (0:Int) ?_;rintro s5 ⟨n1,hc1,⟨hi1_0,hi1_1,-⟩,hf1⟩;have hf1:=hf1.trans (dL.eq_2 a b s5 n1);refine fl (x:=a.length) fun _=>?_;refine wI hf1 (fun _ hf1=>?_) fun _ hf1=>e1;refine dp (up 9) none (nw 0) ?_;refine vx s5 a ?_;refine vx s5 b ?_;refine wN hf1 (fun _ hf1=>e1) fun _ hf1=>?_;refine gT ?_;exact nx [] (s5+1) hc1 hf1
def gD(a:aB)(b:aB):Bool:=
 decide (a.kind=b.kind)&&decide (a.val=b.val)&&gC a.items b.items
def R7:aW U:=⟨[.d (.st 7),.d (.st 7)],fun xs es K=> ∃(a:aB) (b:aB),xs= [(KA a),(KA b)]∧es= []∧K (.v (vb (gD a b))) []⟩
theorem AO:Fk 14 R7:=by
 refine fo Tryz.f14 [.d .bool] [] (aa S4 ah) fun xs es K=>?_;rintro⟨a,b,rfl,rfl,h⟩;refine⟨rfl,?_⟩;have hf0:=gD.eq_1 a b;refine⟨_,fun _=>⟨_,_,rfl,rfl,rfl,rfl⟩,rfl,?_⟩;exact e0
def nQ(x:Int):Bool:=
 decide ¬x=x
def O4:aW U:=⟨[.d (.int .i64)],fun xs es K=> ∃(x:Int),xs= [(vi x)]∧es= []∧K (.v (vb (nQ x))) []⟩
theorem O5:Fk 177 O4:=by
 refine fo Tryz.f177 [.d .bool] [] (ah) fun xs es K=>?_;rintro⟨x,rfl,rfl,h⟩;refine⟨rfl,?_⟩;have hf0:=nQ.eq_1 x;exact e0
def nR(x:Int):Bool:=
 decide ¬x=x
def O6:aW U:=⟨[.d (.int .u32)],fun xs es K=> ∃(x:Int),xs= [(vw x)]∧es= []∧K (.v (vb (nR x))) []⟩
theorem O7:Fk 178 O6:=by
 refine fo Tryz.f178 [.d .bool] [] (ah) fun xs es K=>?_;rintro⟨x,rfl,rfl,h⟩;refine⟨rfl,?_⟩;have hf0:=nR.eq_1 x;exact e0
def pF(x:Int):Bool:=
 decide ¬x=x
def O8:aW U:=⟨[.d (.int .i64)],fun xs es K=> ∃(x:Int),xs= [(vi x)]∧es= []∧K (.v (vb (pF x))) []⟩
theorem O9:Fk 163 O8:=by
 refine fo Tryz.f163 [.d .bool] [] (ah) fun xs es K=>?_;rintro⟨x,rfl,rfl,h⟩;refine⟨rfl,?_⟩;have hf0:=pF.eq_1 x;exact e0
def nS(x:List UInt8):Bool:=
 decide ¬x=x
def Pa:aW U:=⟨[.d .str],fun xs es K=> ∃(x:List UInt8),xs= [(vt x)]∧es= []∧K (.v (vb (nS x))) []⟩
theorem Pb:Fk 117 Pa:=by
 refine fo Tryz.f117 [.d .bool] [] (ah) fun xs es K=>?_;rintro⟨x,rfl,rfl,h⟩;refine⟨rfl,?_⟩;have hf0:=nS.eq_1 x;exact e0
def me(x:Int)(y:Int):Int:=
 if nQ x=true then
  if nQ y=true then
   0
  else
   (-1)
 else
  if nQ y=true then
   1
  else
   if x<y then
    (-1)
   else
    if y<x then
     1
    else
     0
def Pc:aW U:=⟨[.d (.int .i64),.d (.int .i64)],fun xs es K=> ∃(x:Int) (y:Int),xs= [(vi x),(vi y)]∧es= []∧K (.v (vi (me x y))) []⟩
theorem IS:Fk 129 Pc:=by
 refine fo Tryz.f129 [.d (.int .i64)] [] (aa O5 ah) fun xs es K=>?_;rintro⟨x,y,rfl,rfl,h⟩;refine⟨rfl,?_⟩;have hf0:=me.eq_1 x y;refine⟨_,rfl,rfl,?_⟩;refine⟨_,rfl,rfl,?_⟩;exact wI hf0 (fun _ hf0=>wI hf0 (fun _ hf0=>e0) fun _ hf0=>e0) fun _ hf0=>wI hf0 (fun _ hf0=>e0) fun _ hf0=>wI hf0 (fun _ hf0=>e0) fun _ hf0=>wI hf0 (fun _ hf0=>e0) fun _ hf0=>e0
def nT(x:Int)(y:Int):Int:=
 if nR x=true then
  if nR y=true then
   0
  else
   (-1)
 else
  if nR y=true then
   1
  else
   if x<y then
    (-1)
   else
    if y<x then
     1
    else
     0
def Pd:aW U:=⟨[.d (.int .u32),.d (.int .u32)],fun xs es K=> ∃(x:Int) (y:Int),xs= [(vw x),(vw y)]∧es= []∧K (.v (vi (nT x y))) []⟩
theorem Lu:Fk 130 Pd:=by
 refine fo Tryz.f130 [.d (.int .i64)] [] (aa O7 ah) fun xs es K=>?_;rintro⟨x,y,rfl,rfl,h⟩;refine⟨rfl,?_⟩;have hf0:=nT.eq_1 x y;refine⟨_,rfl,rfl,?_⟩;refine⟨_,rfl,rfl,?_⟩;exact wI hf0 (fun _ hf0=>wI hf0 (fun _ hf0=>e0) fun _ hf0=>e0) fun _ hf0=>wI hf0 (fun _ hf0=>e0) fun _ hf0=>wI hf0 (fun _ hf0=>e0) fun _ hf0=>wI hf0 (fun _ hf0=>e0) fun _ hf0=>e0
def sJ(x:Int)(y:Int):Int:=
 if pF x=true then
  if pF y=true then
   0
  else
   (-1)
 else
  if pF y=true then
   1
  else
   if x<y then
    (-1)
   else
    if y<x then
     1
    else
     0
def Pe:aW U:=⟨[.d (.int .i64),.d (.int .i64)],fun xs es K=> ∃(x:Int) (y:Int),xs= [(vi x),(vi y)]∧es= []∧K (.v (vi (sJ x y))) []⟩
theorem Lw:Fk 114 Pe:=by
 refine fo Tryz.f114 [.d (.int .i64)] [] (aa O9 ah) fun xs es K=>?_;rintro⟨x,y,rfl,rfl,h⟩;refine⟨rfl,?_⟩;have hf0:=sJ.eq_1 x y;refine⟨_,rfl,rfl,?_⟩;refine⟨_,rfl,rfl,?_⟩;exact wI hf0 (fun _ hf0=>wI hf0 (fun _ hf0=>e0) fun _ hf0=>e0) fun _ hf0=>wI hf0 (fun _ hf0=>e0) fun _ hf0=>wI hf0 (fun _ hf0=>e0) fun _ hf0=>wI hf0 (fun _ hf0=>e0) fun _ hf0=>e0
def nU(x:List UInt8)(y:List UInt8):Int:=
 if nS x=true then
  if nS y=true then
   0
  else
   (-1)
 else
  if nS y=true then
   1
  else
   if x<y then
    (-1)
   else
    if y<x then
     1
    else
     0
def S5:aW U:=⟨[.d .str,.d .str],fun xs es K=> ∃(x:List UInt8) (y:List UInt8),xs= [(vt x),(vt y)]∧es= []∧K (.v (vi (nU x y))) []⟩
theorem R8:Fk 48 S5:=by
 refine fo Tryz.f48 [.d (.int .i64)] [] (aa Pb ah) fun xs es K=>?_;rintro⟨x,y,rfl,rfl,h⟩;refine⟨rfl,?_⟩;have hf0:=nU.eq_1 x y;refine⟨_,rfl,rfl,?_⟩;refine⟨_,rfl,rfl,?_⟩;exact wI hf0 (fun _ hf0=>wI hf0 (fun _ hf0=>e0) fun _ hf0=>e0) fun _ hf0=>wI hf0 (fun _ hf0=>e0) fun _ hf0=>wI hf0 (fun _ hf0=>e0) fun _ hf0=>wI hf0 (fun _ hf0=>e0) fun _ hf0=>e0
def fu(l:List Int):Nat→Int→Int⊕(Int)
 |0,s8=> .inr s8
 |n1+1,s8=>
  if s8<(l.length:Int)then
   if ix l s8=0 then
    fu l n1 (s8+1)
   else
    .inl (ix l s8)
  else
   .inr s8
def gW(l:List Int):Int:=
 match fu l (((l.length:Int)- 0).toNat+1) 0 with
 | .inl r=>r
 | .inr s8=>
  0
def Pf:aW U:=⟨[.d (.sl (.int .i64))],fun xs es K=> ∃(l:List Int),xs= [(KB l)]∧es= []∧K (.v (vi (gW l))) []⟩
theorem AP:Fk 128 Pf:=by
 refine fo Tryz.f128 [.d (.int .i64)] [] (ah) fun xs es K=>?_;rintro⟨l,rfl,rfl,h⟩;refine⟨rfl,?_⟩;have hf0:=gW.eq_1 l;refine fl (x:=l.length) fun _=>?_;refine lI 0 (fun(s8:Int)=> [(2,.v (vi 0)),(3,.v (vi 0)),(6,.v (KB l)),(7,.v (vi (l.length:Int))),(8,.v (vi s8))]) (fun(s8:Int)=> []) (fun(s8:Int)=>((l.length:Int)- s8).toNat) (fun(s8:Int)=>(0≤s8)∧(s8≤(l.length:Int))∧True) (fun n1 (s8:Int)=>fu l n1 s8) (fu l (((l.length:Int)- 0).toNat+1) 0) [] (0:Int) ?_;rintro s8 ⟨n1,hc1,⟨hi1_0,hi1_1,-⟩,hf1⟩;have hf1:=hf1.trans (fu.eq_2 l s8 n1);refine wI hf1 (fun _ hf1=>?_) fun _ hf1=>e1;refine vx s8 l ?_;refine wN hf1 (fun _ hf1=>e1) fun _ hf1=>?_;refine gT ?_;exact nx [] (s8+1) hc1 hf1
def eC(l:List Int):Nat→Int→Int⊕(Int)
 |0,s8=> .inr s8
 |n1+1,s8=>
  if s8<(l.length:Int)then
   if ix l s8=0 then
    eC l n1 (s8+1)
   else
    .inl (ix l s8)
  else
   .inr s8
def eN(l:List Int):Int:=
 match eC l (((l.length:Int)- 0).toNat+1) 0 with
 | .inl r=>r
 | .inr s8=>
  0
def Ph:aW U:=⟨[.d (.sl (.int .i64))],fun xs es K=> ∃(l:List Int),xs= [(KB l)]∧es= []∧K (.v (vi (eN l))) []⟩
theorem Pi:Fk 81 Ph:=by
 refine fo Tryz.f81 [.d (.int .i64)] [] (ah) fun xs es K=>?_;rintro⟨l,rfl,rfl,h⟩;refine⟨rfl,?_⟩;have hf0:=eN.eq_1 l;refine fl (x:=l.length) fun _=>?_;refine lI 0 (fun(s8:Int)=> [(2,.v (vi 0)),(3,.v (vi 0)),(6,.v (KB l)),(7,.v (vi (l.length:Int))),(8,.v (vi s8))]) (fun(s8:Int)=> []) (fun(s8:Int)=>((l.length:Int)- s8).toNat) (fun(s8:Int)=>(0≤s8)∧(s8≤(l.length:Int))∧True) (fun n1 (s8:Int)=>eC l n1 s8) (eC l (((l.length:Int)- 0).toNat+1) 0) [] (0:Int) ?_;rintro s8 ⟨n1,hc1,⟨hi1_0,hi1_1,-⟩,hf1⟩;have hf1:=hf1.trans (eC.eq_2 l s8 n1);refine wI hf1 (fun _ hf1=>?_) fun _ hf1=>e1;refine vx s8 l ?_;refine wN hf1 (fun _ hf1=>e1) fun _ hf1=>?_;refine gT ?_;exact nx [] (s8+1) hc1 hf1
def dQ(id:bC):Int:=
 if(((id.origin<0)∨(8≤id.origin))∨(id.seq=0))∨(1048576<id.seq)then
  2
 else
  0
def Lz:aW U:=⟨[.d (.st 0)],fun xs es K=> ∃(id:bC),xs= [(FZ id)]∧es= []∧K (.v (vi (dQ id))) []⟩
theorem IT:Fk 123 Lz:=by
 refine fo Tryz.f123 [.d (.int .i64)] [] (ah) fun xs es K=>?_;rintro⟨id,rfl,rfl,h⟩;refine⟨rfl,?_⟩;have hf0:=dQ.eq_1 id;exact wI hf0 (fun _ hf0=>e0) fun _ hf0=>e0
def gE(t:az):Int:=
 if(t.n<0)∨(16≤t.n)then
  2
 else
  dQ t.id
def S6:aW U:=⟨[.d (.st 4)],fun xs es K=> ∃(t:az),xs= [(za t)]∧es= []∧K (.v (vi (gE t))) []⟩
theorem Pj:Fk 71 S6:=by
 refine fo Tryz.f71 [.d (.int .i64)] [] (aa IT ah) fun xs es K=>?_;rintro⟨t,rfl,rfl,h⟩;refine⟨rfl,?_⟩;have hf0:=gE.eq_1 t;refine wI hf0 (fun _ hf0=>e0) fun _ hf0=>?_;refine⟨_,rfl,rfl,?_⟩;exact e0
def eW(a:bC)(b:bC):Int:=
 gW [me a.origin b.origin,nT a.seq b.seq]
def R9:aW U:=⟨[.d (.st 0),.d (.st 0)],fun xs es K=> ∃(a:bC) (b:bC),xs= [(FZ a),(FZ b)]∧es= []∧K (.v (vi (eW a b))) []⟩
theorem Sa:Fk 61 R9:=by
 refine fo Tryz.f61 [.d (.int .i64)] [] (aa AP (aa IS (aa Lu ah))) fun xs es K=>?_;rintro⟨a,b,rfl,rfl,h⟩;refine⟨rfl,?_⟩;have hf0:=eW.eq_1 a b;refine dp [(true,0),(true,1),(true,2),(true,3),(true,5),(true,6),(true,7),(true,8),(false,4),(false,9),(false,10),(false,11),(true,12)] none (nw 2) ?_;refine⟨_,_,rfl,rfl,?_⟩;refine⟨_,_,rfl,rfl,?_⟩;refine⟨_,rfl,rfl,?_⟩;exact e0
def ap(a:az)(b:az):Int:=
 gW [eW a.id b.id,me a.n b.n]
def S7:aW U:=⟨[.d (.st 4),.d (.st 4)],fun xs es K=> ∃(a:az) (b:az),xs= [(za a),(za b)]∧es= []∧K (.v (vi (ap a b))) []⟩
theorem AQ:Fk 77 S7:=by
 refine fo Tryz.f77 [.d (.int .i64)] [] (aa Sa (aa AP (aa IS ah))) fun xs es K=>?_;rintro⟨a,b,rfl,rfl,h⟩;refine⟨rfl,?_⟩;have hf0:=ap.eq_1 a b;refine dp [(true,0),(true,1),(true,2),(true,3),(true,5),(true,6),(true,7),(true,8),(false,4),(false,9),(false,10),(false,11),(true,12)] none (nw 2) ?_;refine⟨_,_,rfl,rfl,?_⟩;refine⟨_,_,rfl,rfl,?_⟩;refine⟨_,rfl,rfl,?_⟩;exact e0
def pG(origin:Int):Bool:=
 decide (0≤origin)&&decide (origin<8)
def Pk:aW U:=⟨[.d (.int .i64)],fun xs es K=> ∃(origin:Int),xs= [(vi origin)]∧es= []∧K (.v (vb (pG origin))) []⟩
theorem Pn:Fk 141 Pk:=by
 refine fo Tryz.f141 [.d .bool] [] (ah) fun xs es K=>?_;rintro⟨origin,rfl,rfl,h⟩;refine⟨rfl,?_⟩;have hf0:=pG.eq_1 origin;exact e0
def gF(s:aV):Int:=
 if(1048576<s.time)∨(¬(pG s.origin=true))then
  2
 else
  0
def S8:aW U:=⟨[.d (.st 2)],fun xs es K=> ∃(s:aV),xs= [(J3 s)]∧es= []∧K (.v (vi (gF s))) []⟩
theorem Po:Fk 72 S8:=by
 refine fo Tryz.f72 [.d (.int .i64)] [] (aa Pn ah) fun xs es K=>?_;rintro⟨s,rfl,rfl,h⟩;refine⟨rfl,?_⟩;have hf0:=gF.eq_1 s;refine⟨_,fun _=>⟨_,rfl,rfl,rfl,rfl⟩,rfl,?_⟩;exact wI hf0 (fun _ hf0=>e0) fun _ hf0=>e0
def fQ(a:aV)(b:aV):Int:=
 gW [nT a.time b.time,me a.origin b.origin]
def Pp:aW U:=⟨[.d (.st 2),.d (.st 2)],fun xs es K=> ∃(a:aV) (b:aV),xs= [(J3 a),(J3 b)]∧es= []∧K (.v (vi (fQ a b))) []⟩
theorem IU:Fk 113 Pp:=by
 refine fo Tryz.f113 [.d (.int .i64)] [] (aa AP (aa IS (aa Lu ah))) fun xs es K=>?_;rintro⟨a,b,rfl,rfl,h⟩;refine⟨rfl,?_⟩;have hf0:=fQ.eq_1 a b;refine dp [(true,0),(true,1),(true,2),(true,3),(true,5),(true,6),(true,7),(true,8),(false,4),(false,9),(false,10),(false,11),(true,12)] none (nw 2) ?_;refine⟨_,_,rfl,rfl,?_⟩;refine⟨_,_,rfl,rfl,?_⟩;refine⟨_,rfl,rfl,?_⟩;exact e0
def lg(s:List UInt8):Bool:=
 decide ¬s= []&&decide ((s.length:Int)≤12)
def S9:aW U:=⟨[.d .str],fun xs es K=> ∃(s:List UInt8),xs= [(vt s)]∧es= []∧K (.v (vb (lg s))) []⟩
theorem Pq:Fk 70 S9:=by
 refine fo Tryz.f70 [.d .bool] [] (ah) fun xs es K=>?_;rintro⟨s,rfl,rfl,h⟩;refine⟨rfl,?_⟩;have hf0:=lg.eq_1 s;exact e0
def fb(t:az):Bool:=
 decide ¬gE t=0
def Ta:aW U:=⟨[.d (.st 4)],fun xs es K=> ∃(t:az),xs= [(za t)]∧es= []∧K (.v (vb (fb t))) []⟩
theorem Oq:Fk 85 Ta:=by
 refine fo Tryz.f85 [.d .bool] [] (aa Pj ah) fun xs es K=>?_;rintro⟨t,rfl,rfl,h⟩;refine⟨rfl,?_⟩;have hf0:=fb.eq_1 t;refine⟨_,rfl,rfl,?_⟩;exact e0
def gG(a:b9)(t:az):Int:=
 ap a.tag t
def Tb:aW U:=⟨[.d (.st 10),.d (.st 4)],fun xs es K=> ∃(a:b9) (t:az),xs= [(wo a),(za t)]∧es= []∧K (.v (vi (gG a t))) []⟩
theorem Sb:Fk 87 Tb:=by
 refine fo Tryz.f87 [.d (.int .i64)] [] (aa AQ ah) fun xs es K=>?_;rintro⟨a,t,rfl,rfl,h⟩;refine⟨rfl,?_⟩;have hf0:=gG.eq_1 a t;refine⟨_,_,rfl,rfl,?_⟩;exact e0
def cY(l:List az)(f:az→Bool):Bool:=
 decide (0≤cI l f)
def Tc:aW U:=⟨[.d (.sl (.st 4)),.f1 (.st 4)],fun xs es K=> ∃(l:List az) (f:az→Bool),xs= [(oI l),⟨false,[(1,.f1 (.st 4) f)]⟩]∧es= []∧K (.v (vb (cY l f))) []⟩
theorem LA:Fk 76 Tc:=by
 refine fo Tryz.f76 [.d .bool] [] (aa Qt ah) fun xs es K=>?_;rintro⟨l,f,rfl,rfl,h⟩;refine⟨rfl,?_⟩;have hf0:=cY.eq_1 l f;refine⟨_,_,rfl,rfl,?_⟩;exact e0
def ga(l:List b9)(f:b9→Bool):Bool:=
 decide (0≤cI l f)
def Pr:aW U:=⟨[.d (.sl (.st 10)),.f1 (.st 10)],fun xs es K=> ∃(l:List b9) (f:b9→Bool),xs= [(rJ l),⟨false,[(1,.f1 (.st 10) f)]⟩]∧es= []∧K (.v (vb (ga l f))) []⟩
theorem Ps:Fk 142 Pr:=by
 refine fo Tryz.f142 [.d .bool] [] (aa Qv ah) fun xs es K=>?_;rintro⟨l,f,rfl,rfl,h⟩;refine⟨rfl,?_⟩;have hf0:=ga.eq_1 l f;refine⟨_,_,rfl,rfl,?_⟩;exact e0
def ij(x:List az)(target:az)(c:az→az→Int):Nat→Int→Int→(Int×Bool)⊕(Int×Int)
 |0,s9,s10=> .inr (s9,s10)
 |n1+1,s9,s10=>
  if s9<s10 then
   if c (ix x ((s9+s10)/2)) target<0 then
    ij x target c n1 ((s9+s10)/(2:Int)+(1:Int)) s10
   else
    ij x target c n1 s9 ((s9+s10)/2)
  else
   .inr (s9,s10)
def fw(x:List az)(target:az)(c:az→az→Int):Int×Bool:=
 match ij x target c (((x.length:Int)- 0).toNat+1) 0 (x.length:Int)with
 | .inl r=>r
 | .inr (s9,s10)=>
  (s9,decide (s9<(x.length:Int))&&decide (c (ix x s9) target=0))
def Td:aW U:=⟨[.d (.sl (.st 4)),.d (.st 4),.f2 (.st 4) (.st 4)],fun xs es K=> ∃(x:List az) (target:az) (c:az→az→Int),xs= [(oI x),(za target),⟨false,[(1,.f2 (.st 4) (.st 4) c)]⟩]∧es= []∧(x.length≤1000000)∧K (.tup [(vi ((fw x target c).1)),(vb ((fw x target c).2))]) []⟩
theorem Pt:Fk 98 Td:=by
 refine fo Tryz.f98 [.d (.int .i64),.d .bool] [] (ah) fun xs es K=>?_;rintro⟨x,target,c,rfl,rfl,hx,h⟩;refine⟨rfl,?_⟩;have hf0:=fw.eq_1 x target c;refine fun h0=>?_;have h0:(↑x.length:Int)≤(9223372036854775807:Int):=h0.2;refine⟨Int×Int,1,fun(s9,s10)=> [(0,.v ⟨false,[(1,.d (.sl (.st 4)) x)]⟩),(2,.v ⟨false,[(1,Cx.f2 (aZ.st (4:Nat)) (aZ.st (4:Nat)) c)]⟩),(4,.v ⟨false,[(1,.ptr 0 0)]⟩),(6,.v ⟨false,[(1,.d (.int .i64) (0:Int))]⟩),(7,.v ⟨false,[(1,.d .bool false)]⟩),(8,.v ⟨false,[(1,.d (.int .i64) (↑x.length:Int))]⟩),(9,.v ⟨false,[(1,.d (.int .i64) s9)]⟩),(10,.v ⟨false,[(1,.d (.int .i64) s10)]⟩)],fun(s9,s10)=> [(0,.cells [(3,.d (.st 4) target)] 61)],aN (fun(s9,s10)=>(s10 - s9).toNat) (fun(s9,s10)=>(0≤s9)∧(s9≤s10)∧(s10≤(x.length:Int))∧True) (fun n1 (s9,s10)=>ij x target c n1 s9 s10) (ij x target c (((↑x.length:Int)-(0:Int)).toNat+1) (0:Int) (↑x.length:Int)),fun(s9,s10)=>(s10 - s9).toNat,⟨[],((0:Int),(↑x.length:Int)),aN.mk0 _ (Nat.lt_succ_self _) ⟨show(0:Int)≤(0:Int)from by omega,show(0:Int)≤(↑x.length:Int)from by omega,show(↑x.length:Int)≤(↑x.length:Int)from by omega,trivial⟩ rfl,?_⟩,?_⟩
 ·repeat (first|exact trivial|refine And.intro rfl ?_)
 ·rintro⟨s9,s10⟩ ⟨n1,hc1,⟨hi1_0,hi1_1,hi1_2,-⟩,hf1⟩;have hf1:=hf1.trans (ij.eq_2 x target c s9 s10 n1);refine vI hf1 iD (fun _ hf1=>?_) (fun _ hf1=>?_)
  ·refine .inl (And.intro (jc (p:=s9) (q:=s10) (r:=s9+s10) (by omega)) ?_);refine .inl (And.intro (fun(h2:(-9223372036854775808:Int)≤s9+s10∧s9+s10≤(9223372036854775807:Int))=>(show(0:Int)≤s9+s10∧s9+s10≤(18446744073709551615:Int)from by omega)) ?_);refine And.intro (show(0:Int)≤(1:Int)∧(1:Int)≤(18446744073709551615:Int)→(0:Int)≤(1:Int)from by omega) ?_;refine .inl (And.intro (fun(h3:(0:Int)≤(s9+s10)/(2:Int)∧(s9+s10)/(2:Int)≤(18446744073709551615:Int))=>(show(-9223372036854775808:Int)≤(s9+s10)/(2:Int)∧(s9+s10)/(2:Int)≤(9223372036854775807:Int)from by omega)) ?_);refine .inl ⟨[(true,0),(true,1),(true,2),(true,3),(true,4),(true,5),(false,6),(true,7)],none,[1,2,3,4,5,6,7,8,9,10,11,12],by kernel_rfl,?_⟩;refine And.intro (show(0:Int)≤(s9+s10)/(2:Int)∧(s9+s10)/(2:Int)<(↑x.length:Int)from by omega) ?_;refine vI hf1 iD (fun _ hf1=>?_) (fun _ hf1=>?_)
   ·refine .inl (And.intro (jc (p:=(s9+s10)/(2:Int)) (q:=(1:Int)) (r:=(s9+s10)/(2:Int)+(1:Int)) (by omega)) ?_);have hm1:(s10 -((s9+s10)/(2:Int)+(1:Int))).toNat<(s10 - s9).toNat:=by omega
    refine⟨[],((s9+s10)/(2:Int)+(1:Int),s10),hm1,aN.next (s:=(s9,s10)) hc1 hm1 ⟨show(0:Int)≤(s9+s10)/(2:Int)+(1:Int)from by omega,show(s9+s10)/(2:Int)+(1:Int)≤s10 from by omega,show s10≤(↑x.length:Int)from by omega,trivial⟩ hf1,?_⟩;repeat (first|exact trivial|refine And.intro rfl ?_)
   ·have hm1:((s9+s10)/(2:Int)- s9).toNat<(s10 - s9).toNat:=by omega
    refine⟨[],(s9,(s9+s10)/(2:Int)),hm1,aN.next (s:=(s9,s10)) hc1 hm1 ⟨show(0:Int)≤s9 from by omega,show s9≤(s9+s10)/(2:Int)from by omega,show(s9+s10)/(2:Int)≤(↑x.length:Int)from by omega,trivial⟩ hf1,?_⟩;repeat (first|exact trivial|refine And.intro rfl ?_)
  ·rw[hf1]at hf0;refine .inl ⟨[(true,0),(true,1),(true,2),(true,3),(true,4),(true,5),(true,6),(true,7),(true,8),(true,9),(true,10),(false,11),(true,12),(true,13),(true,14),(true,15)],none,[1,2,3,4,5,6,7,8,9,10,11,12],by kernel_rfl,?_⟩;refine And.intro (show decide (s9<(↑x.length:Int))=((39:Nat),true).snd→(0:Int)≤s9∧s9<(↑x.length:Int)from by(intro h;simp at h;omega)) ?_;rw[hf0]at h;exact h
def il(x:List b9)(target:az)(c:b9→az→Int):Nat→Int→Int→(Int×Bool)⊕(Int×Int)
 |0,s9,s10=> .inr (s9,s10)
 |n1+1,s9,s10=>
  if s9<s10 then
   if c (ix x ((s9+s10)/2)) target<0 then
    il x target c n1 ((s9+s10)/(2:Int)+(1:Int)) s10
   else
    il x target c n1 s9 ((s9+s10)/2)
  else
   .inr (s9,s10)
def gc(x:List b9)(target:az)(c:b9→az→Int):Int×Bool:=
 match il x target c (((x.length:Int)- 0).toNat+1) 0 (x.length:Int)with
 | .inl r=>r
 | .inr (s9,s10)=>
  (s9,decide (s9<(x.length:Int))&&decide (c (ix x s9) target=0))
def Te:aW U:=⟨[.d (.sl (.st 10)),.d (.st 4),.f2 (.st 10) (.st 4)],fun xs es K=> ∃(x:List b9) (target:az) (c:b9→az→Int),xs= [(rJ x),(za target),⟨false,[(1,.f2 (.st 10) (.st 4) c)]⟩]∧es= []∧(x.length≤1000000)∧K (.tup [(vi ((gc x target c).1)),(vb ((gc x target c).2))]) []⟩
theorem Tf:Fk 86 Te:=by
 refine fo Tryz.f86 [.d (.int .i64),.d .bool] [] (ah) fun xs es K=>?_;rintro⟨x,target,c,rfl,rfl,hx,h⟩;refine⟨rfl,?_⟩;have hf0:=gc.eq_1 x target c;refine fun h0=>?_;have h0:(↑x.length:Int)≤(9223372036854775807:Int):=h0.2;refine⟨Int×Int,1,fun(s9,s10)=> [(0,.v ⟨false,[(1,.d (.sl (.st 10)) x)]⟩),(2,.v ⟨false,[(1,Cx.f2 (aZ.st (10:Nat)) (aZ.st (4:Nat)) c)]⟩),(4,.v ⟨false,[(1,.ptr 0 0)]⟩),(6,.v ⟨false,[(1,.d (.int .i64) (0:Int))]⟩),(7,.v ⟨false,[(1,.d .bool false)]⟩),(8,.v ⟨false,[(1,.d (.int .i64) (↑x.length:Int))]⟩),(9,.v ⟨false,[(1,.d (.int .i64) s9)]⟩),(10,.v ⟨false,[(1,.d (.int .i64) s10)]⟩)],fun(s9,s10)=> [(0,.cells [(3,.d (.st 4) target)] 61)],aN (fun(s9,s10)=>(s10 - s9).toNat) (fun(s9,s10)=>(0≤s9)∧(s9≤s10)∧(s10≤(x.length:Int))∧True) (fun n1 (s9,s10)=>il x target c n1 s9 s10) (il x target c (((↑x.length:Int)-(0:Int)).toNat+1) (0:Int) (↑x.length:Int)),fun(s9,s10)=>(s10 - s9).toNat,⟨[],((0:Int),(↑x.length:Int)),aN.mk0 _ (Nat.lt_succ_self _) ⟨show(0:Int)≤(0:Int)from by omega,show(0:Int)≤(↑x.length:Int)from by omega,show(↑x.length:Int)≤(↑x.length:Int)from by omega,trivial⟩ rfl,?_⟩,?_⟩
 ·repeat (first|exact trivial|refine And.intro rfl ?_)
 ·rintro⟨s9,s10⟩ ⟨n1,hc1,⟨hi1_0,hi1_1,hi1_2,-⟩,hf1⟩;have hf1:=hf1.trans (il.eq_2 x target c s9 s10 n1);refine vI hf1 iD (fun _ hf1=>?_) (fun _ hf1=>?_)
  ·refine .inl (And.intro (jc (p:=s9) (q:=s10) (r:=s9+s10) (by omega)) ?_);refine .inl (And.intro (fun(h2:(-9223372036854775808:Int)≤s9+s10∧s9+s10≤(9223372036854775807:Int))=>(show(0:Int)≤s9+s10∧s9+s10≤(18446744073709551615:Int)from by omega)) ?_);refine And.intro (show(0:Int)≤(1:Int)∧(1:Int)≤(18446744073709551615:Int)→(0:Int)≤(1:Int)from by omega) ?_;refine .inl (And.intro (fun(h3:(0:Int)≤(s9+s10)/(2:Int)∧(s9+s10)/(2:Int)≤(18446744073709551615:Int))=>(show(-9223372036854775808:Int)≤(s9+s10)/(2:Int)∧(s9+s10)/(2:Int)≤(9223372036854775807:Int)from by omega)) ?_);refine .inl ⟨[(true,0),(true,1),(true,2),(true,3),(true,4),(true,5),(false,6),(true,7)],none,[1,2,3,4,5,6,7,8,9,10,11,12],by kernel_rfl,?_⟩;refine And.intro (show(0:Int)≤(s9+s10)/(2:Int)∧(s9+s10)/(2:Int)<(↑x.length:Int)from by omega) ?_;refine vI hf1 iD (fun _ hf1=>?_) (fun _ hf1=>?_)
   ·refine .inl (And.intro (jc (p:=(s9+s10)/(2:Int)) (q:=(1:Int)) (r:=(s9+s10)/(2:Int)+(1:Int)) (by omega)) ?_);have hm1:(s10 -((s9+s10)/(2:Int)+(1:Int))).toNat<(s10 - s9).toNat:=by omega
    refine⟨[],((s9+s10)/(2:Int)+(1:Int),s10),hm1,aN.next (s:=(s9,s10)) hc1 hm1 ⟨show(0:Int)≤(s9+s10)/(2:Int)+(1:Int)from by omega,show(s9+s10)/(2:Int)+(1:Int)≤s10 from by omega,show s10≤(↑x.length:Int)from by omega,trivial⟩ hf1,?_⟩;repeat (first|exact trivial|refine And.intro rfl ?_)
   ·have hm1:((s9+s10)/(2:Int)- s9).toNat<(s10 - s9).toNat:=by omega
    refine⟨[],(s9,(s9+s10)/(2:Int)),hm1,aN.next (s:=(s9,s10)) hc1 hm1 ⟨show(0:Int)≤s9 from by omega,show s9≤(s9+s10)/(2:Int)from by omega,show(s9+s10)/(2:Int)≤(↑x.length:Int)from by omega,trivial⟩ hf1,?_⟩;repeat (first|exact trivial|refine And.intro rfl ?_)
  ·rw[hf1]at hf0;refine .inl ⟨[(true,0),(true,1),(true,2),(true,3),(true,4),(true,5),(true,6),(true,7),(true,8),(true,9),(true,10),(false,11),(true,12),(true,13),(true,14),(true,15)],none,[1,2,3,4,5,6,7,8,9,10,11,12],by kernel_rfl,?_⟩;refine And.intro (show decide (s9<(↑x.length:Int))=((39:Nat),true).snd→(0:Int)≤s9∧s9<(↑x.length:Int)from by(intro h;simp at h;omega)) ?_;rw[hf0]at h;exact h
def fy(l:List b9)(c:b9→b9→Int):Nat→Int→Bool⊕(Int)
 |0,s5=> .inr s5
 |n1+1,s5=>
  if s5<(l.length:Int)then
   if 0≤c (ix l (s5 - 1)) (ix l s5)then
    .inl false
   else
    fy l c n1 (s5+1)
  else
   .inr s5
def kw(l:List b9)(c:b9→b9→Int):Bool:=
 match fy l c (((l.length:Int)- 1).toNat+1) 1 with
 | .inl r=>r
 | .inr s5=>
  true
def Pu:aW U:=⟨[.d (.sl (.st 10)),.f2 (.st 10) (.st 10)],fun xs es K=> ∃(l:List b9) (c:b9→b9→Int),xs= [(rJ l),⟨false,[(1,.f2 (.st 10) (.st 10) c)]⟩]∧es= []∧K (.v (vb (kw l c))) []⟩
theorem Pv:Fk 144 Pu:=by
 refine fo Tryz.f144 [.d .bool] [] (ah) fun xs es K=>?_;rintro⟨l,c,rfl,rfl,h⟩;refine⟨rfl,?_⟩;have hf0:=kw.eq_1 l c;refine lI 0 (fun(s5:Int)=> [(0,.v (rJ l)),(1,.v ⟨false,[(1,Cx.f2 (aZ.st (10:Nat)) (aZ.st (10:Nat)) c)]⟩),(4,.v (vb false)),(5,.v (vi s5))]) (fun(s5:Int)=> []) (fun(s5:Int)=>((l.length:Int)- s5).toNat) (fun(s5:Int)=>(1≤s5)∧True) (fun n1 (s5:Int)=>fy l c n1 s5) (fy l c (((l.length:Int)- 1).toNat+1) 1) [] (1:Int) ?_;rintro s5 ⟨n1,hc1,⟨hi1_0,-⟩,hf1⟩;have hf1:=hf1.trans (fy.eq_2 l c s5 n1);refine fl (x:=l.length) fun _=>?_;refine wI hf1 (fun _ hf1=>?_) fun _ hf1=>e1;refine dp [(true,0),(true,1),(true,2),(true,3),(true,4),(true,5),(true,6),(true,7),(true,8),(true,9),(false,10),(true,11)] none (nw 0) ?_;refine gT ?_;refine vx (s5 - 1) l ?_;refine vx s5 l ?_;refine wI hf1 (fun _ hf1=>e1) fun _ hf1=>?_;refine gT ?_;exact nx [] (s5+1) hc1 hf1
def fz(l:List az)(c:az→az→Int):Nat→Int→Bool⊕(Int)
 |0,s5=> .inr s5
 |n1+1,s5=>
  if s5<(l.length:Int)then
   if 0≤c (ix l (s5 - 1)) (ix l s5)then
    .inl false
   else
    fz l c n1 (s5+1)
  else
   .inr s5
def kz(l:List az)(c:az→az→Int):Bool:=
 match fz l c (((l.length:Int)- 1).toNat+1) 1 with
 | .inl r=>r
 | .inr s5=>
  true
def Pw:aW U:=⟨[.d (.sl (.st 4)),.f2 (.st 4) (.st 4)],fun xs es K=> ∃(l:List az) (c:az→az→Int),xs= [(oI l),⟨false,[(1,.f2 (.st 4) (.st 4) c)]⟩]∧es= []∧K (.v (vb (kz l c))) []⟩
theorem Px:Fk 146 Pw:=by
 refine fo Tryz.f146 [.d .bool] [] (ah) fun xs es K=>?_;rintro⟨l,c,rfl,rfl,h⟩;refine⟨rfl,?_⟩;have hf0:=kz.eq_1 l c;refine lI 0 (fun(s5:Int)=> [(0,.v (oI l)),(1,.v ⟨false,[(1,Cx.f2 (aZ.st (4:Nat)) (aZ.st (4:Nat)) c)]⟩),(4,.v (vb false)),(5,.v (vi s5))]) (fun(s5:Int)=> []) (fun(s5:Int)=>((l.length:Int)- s5).toNat) (fun(s5:Int)=>(1≤s5)∧True) (fun n1 (s5:Int)=>fz l c n1 s5) (fz l c (((l.length:Int)- 1).toNat+1) 1) [] (1:Int) ?_;rintro s5 ⟨n1,hc1,⟨hi1_0,-⟩,hf1⟩;have hf1:=hf1.trans (fz.eq_2 l c s5 n1);refine fl (x:=l.length) fun _=>?_;refine wI hf1 (fun _ hf1=>?_) fun _ hf1=>e1;refine dp [(true,0),(true,1),(true,2),(true,3),(true,4),(true,5),(true,6),(true,7),(true,8),(true,9),(false,10),(true,11)] none (nw 0) ?_;refine gT ?_;refine vx (s5 - 1) l ?_;refine vx s5 l ?_;refine wI hf1 (fun _ hf1=>e1) fun _ hf1=>?_;refine gT ?_;exact nx [] (s5+1) hc1 hf1
end Go.Proofs.YtmpeiadlohbikaaGreatDoor.V
end

section
set_option linter.unusedVariables false
set_option linter.unusedSimpArgs false
set_option maxRecDepth 20000
set_option maxHeartbeats 4000000
namespace Go.Proofs.YtmpeiadlohbikaaGreatDoor.V
open Go.RowKit
theorem uu{α:Type}(s:List α)(i:Int)(vs:List α):(iJ s i vs).length=s.length+vs.length:=by
 unfold iJ;simp only[List.length_append,List.length_take,List.length_drop];omega
theorem xr{α R:Type} [Inhabited α](x:List α)(c:α→Int)(L:Nat→Int→Int→R⊕(Int×Int))(h0: ∀i j,L 0 i j= .inr (i,j))(hL: ∀fuel i j,L (fuel+1) i j=if i<j then(if c (ix x ((i+j)/2))<0 then L fuel ((i+j)/2+1) j else L fuel i ((i+j)/2))else .inr (i,j)):
  ∀(fuel:Nat) (i j:Int),0≤i→i≤j→j≤x.length→ ∃q r:Int,L fuel i j= .inr (q,r)∧0≤q∧q≤x.length
 |0,i,j,h1,h2,h3=>⟨i,j,h0 i j,h1,by omega⟩
 |fuel+1,i,j,h1,h2,h3=>by
  rw[hL];split
  ·split
   ·exact xr x c L h0 hL fuel _ _ (by omega) (by omega) h3
   ·exact xr x c L h0 hL fuel _ _ h1 (by omega) (by omega)
  ·exact⟨i,j,rfl,h1,by omega⟩
theorem uv(x:List az)(t:az)(c:az→az→Int):0≤(fw x t c).1∧(fw x t c).1≤x.length:=by
 obtain⟨q,r,h,h1,h2⟩:=xr x (fun a=>c a t) (ij x t c) (fun _ _=>rfl) (fun _ _ _=>rfl) (((x.length:Int)-(0:Int)).toNat+1) 0 x.length (by omega) (by omega) (by omega);unfold fw;rw[h];exact⟨h1,h2⟩
theorem uw(x:List b9)(t:az)(c:b9→az→Int):0≤(gc x t c).1∧(gc x t c).1≤x.length:=by
 obtain⟨q,r,h,h1,h2⟩:=xr x (fun a=>c a t) (il x t c) (fun _ _=>rfl) (fun _ _ _=>rfl) (((x.length:Int)-(0:Int)).toNat+1) 0 x.length (by omega) (by omega) (by omega);unfold gc;rw[h];exact⟨h1,h2⟩
def mU(s:cR)(t:az):Bool:=
 (fw s.gone t fun(t t':az)=>ap t t').snd
def Tg:aW U:=⟨[.d (.st 11),.d (.st 4)],fun xs es K=> ∃(s:cR) (t:az),xs= [(u5 s),(za t)]∧es= []∧(s.gone.length≤1000000)∧K (.v (vb (mU s t))) []⟩
theorem Pz:Fk 88 Tg:=by
 refine fo Tryz.f88 [.d .bool] [] (aa AQ (aa Pt ah)) fun xs es K=>?_;rintro⟨s,t,rfl,rfl,h2,h⟩;refine⟨rfl,?_⟩;have hf0:=mU.eq_1 s t;refine⟨fun(t t':az)=>ap t t',fun t0 t1=>⟨_,_,rfl,rfl,rfl,rfl⟩,?_⟩;refine⟨_,_,_,rfl,rfl,(by omega),?_⟩;exact e0
def lh(a:b9):Bool:=
 fb a.tag
def PA:aW U:=⟨[.d (.st 10)],fun xs es K=> ∃(a:b9),xs= [(wo a)]∧es= []∧K (.v (vb (lh a))) []⟩
theorem PB:Fk 143 PA:=by
 refine fo Tryz.f143 [.d .bool] [] (aa Oq ah) fun xs es K=>?_;rintro⟨a,rfl,rfl,h⟩;refine⟨rfl,?_⟩;have hf0:=lh.eq_1 a;refine⟨_,rfl,rfl,?_⟩;exact e0
def li(a:b9)(b:b9):Int:=
 gG a b.tag
def PC:aW U:=⟨[.d (.st 10),.d (.st 10)],fun xs es K=> ∃(a:b9) (b:b9),xs= [(wo a),(wo b)]∧es= []∧K (.v (vi (li a b))) []⟩
theorem PD:Fk 145 PC:=by
 refine fo Tryz.f145 [.d (.int .i64)] [] (aa Sb ah) fun xs es K=>?_;rintro⟨a,b,rfl,rfl,h⟩;refine⟨rfl,?_⟩;have hf0:=li.eq_1 a b;refine⟨_,_,rfl,rfl,?_⟩;exact e0
def lj(a:b9)(s:cR):Bool:=
 !lg a.elem||mU s a.tag
def PE:aW U:=⟨[.d (.st 10),.n],fun xs es K=> ∃(a:b9) (s:cR),xs= [(wo a),⟨false,[(1,.pd (.st 11) s)]⟩]∧es= []∧(s.gone.length≤1000000)∧K (.v (vb (lj a s))) []⟩
theorem PF:Fk 147 PE:=by
 refine fo Tryz.f147 [.d .bool] [] (aa Pq (aa Pz ah)) fun xs es K=>?_;rintro⟨a,s,rfl,rfl,h2,h⟩;refine⟨rfl,?_⟩;have hf0:=lj.eq_1 a s;refine⟨_,rfl,rfl,?_⟩;refine⟨_,fun _=>⟨_,_,rfl,rfl,(by omega),rfl,rfl⟩,rfl,?_⟩;exact e0
def fA(s:cR):Int:=
 if(4096<(s.adds.length:Int))∨(4096<(s.gone.length:Int))then
  8
 else
  if((ga s.adds fun(t:b9)=>lh t)=true)∨((cY s.gone fun(t:az)=>fb t)=true)then
   2
  else
   if(¬(((kw s.adds fun(t t':b9)=>li t t')=true)∧((kz s.gone fun(t t':az)=>ap t t')=true)))∨((ga s.adds fun(t:b9)=>lj t s)=true)then
    3
   else
    0
def Ti:aW U:=⟨[.d (.st 11)],fun xs es K=> ∃(s:cR),xs= [(u5 s)]∧es= []∧(s.gone.length≤1000000)∧((fun(r0:Int)=>r0=0→s.adds.length≤4096∧s.gone.length≤4096) (fA s)→K (.v (vi (fA s))) [])⟩
theorem Ou:Fk 73 Ti:=by
 refine fo Tryz.f73 [.d (.int .i64)] [] (aa LA (aa AQ (aa Oq (aa Ps (aa PB (aa Pv (aa PD (aa Px (aa PF ah))))))))) fun xs es K=>?_;rintro⟨s,rfl,rfl,h2,h⟩;refine⟨rfl,?_⟩;have hf0:=fA.eq_1 s;refine fl (x:=s.adds.length) fun _=>?_;refine wI hf0 (fun _ hf0=>?_) fun _ hf0=>?_
 ·rw[hf0]at h;exact h (by omega)
 ·refine⟨fun(t:b9)=>lh t,fun t0=>⟨_,rfl,rfl,rfl,rfl⟩,?_⟩;refine⟨_,_,rfl,rfl,?_⟩;refine⟨_,fun h2=>⟨fun(t:az)=>fb t,fun t0=>⟨_,rfl,rfl,rfl,rfl⟩,_,_,rfl,rfl,rfl,rfl⟩,rfl,?_⟩;refine wI hf0 (fun _ hf0=>?_) fun _ hf0=>?_
  ·rw[hf0]at h;exact h (by omega)
  ·refine⟨fun(t t':b9)=>li t t',fun t0 t1=>⟨_,_,rfl,rfl,rfl,rfl⟩,?_⟩;refine⟨_,_,rfl,rfl,?_⟩;refine⟨_,fun _=>⟨fun(t t':az)=>ap t t',fun t0 t1=>⟨_,_,rfl,rfl,rfl,rfl⟩,_,_,rfl,rfl,rfl,rfl⟩,rfl,?_⟩;refine⟨_,fun _=>⟨fun(t:b9)=>lj t s,fun t0=>⟨_,_,rfl,rfl,(by omega),rfl,rfl⟩,_,_,rfl,rfl,rfl,rfl⟩,rfl,?_⟩;refine wI hf0 (fun _ hf0=>?_) fun _ hf0=>?_
   ·rw[hf0]at h;exact h (by omega)
   ·rw[hf0]at h;exact h (by omega)
def kA(s:cR)(a:b9):cR×Int:=
 if fA s=0 then
  if fb a.tag=true then
   (cR.mk [] [],2)
  else
   if lg a.elem=true then
    if(((gc s.adds a.tag fun(t:b9) (t':az)=>gG t t').snd)=true)∨(mU s a.tag=true)then
     (cR.mk s.adds s.gone,0)
    else
     if(s.adds.length:Int)=4096 then
      (cR.mk [] [],4)
     else
      (cR.mk (iJ s.adds (gc s.adds a.tag fun(t:b9) (t':az)=>gG t t').fst [a]) s.gone,0)
   else
    (cR.mk [] [],3)
 else
  (cR.mk [] [],fA s)
def Tj:aW U:=⟨[.d (.st 11),.d (.st 10)],fun xs es K=> ∃(s:cR) (a:b9),xs= [(u5 s),(wo a)]∧es= []∧(s.adds.length≤1000000)∧(s.gone.length≤1000000)∧((fun(r0:cR) (r1:Int)=>r0.adds.length≤4097∧r0.gone.length≤4097) ((kA s a).1) ((kA s a).2)→K (.tup [(u5 ((kA s a).1)),(vi ((kA s a).2))]) [])⟩
theorem Tk:Fk 37 Tj:=by
 refine fo Tryz.f37 [.d (.st 11),.d (.int .i64)] [] (aa Pq (aa Ou (aa Qm (aa Ql (aa Oq (aa Tf (aa Sb (aa Pz (aa Uv ah))))))))) fun xs es K=>?_;rintro⟨s,a,rfl,rfl,h1,h2,h⟩;refine⟨rfl,?_⟩;have hf0:=kA.eq_1 s a;refine⟨_,rfl,rfl,(by omega),?_⟩;refine fun _=>?_;refine wN hf0 (fun h1 hf0=>?_) fun h1 hf0=>?_
 ·rw[hf0]at h;exact h (by simp)
 ·refine⟨_,rfl,rfl,?_⟩;refine wI hf0 (fun h2 hf0=>?_) fun h2 hf0=>?_
  ·rw[hf0]at h;exact h (by simp)
  ·refine⟨_,rfl,rfl,?_⟩;refine wN hf0 (fun _ hf0=>?_) fun _ hf0=>?_
   ·rw[hf0]at h;exact h (by simp)
   ·refine⟨fun(t:b9) (t':az)=>gG t t',fun t0 t1=>⟨_,_,rfl,rfl,rfl,rfl⟩,?_⟩;refine⟨_,_,_,rfl,rfl,(by omega),?_⟩;refine .inr ⟨(.look 0 (.look 1 (.look 3 (.look 4 (.turn 2 (.turn 5 (.look 6 (.turn 7 .fin .nil)) (.turn 7 (.turn 5 (.look 6 .fin) .nil) .nil)) (.turn 7 (.turn 2 (.turn 5 (.look 6 .fin) .nil) .nil) .nil)))))),some 8,[],6,[(2,.v ⟨false,[(1,.ptr 0 0)]⟩),(3,.v ⟨false,[(1,.ptr 1 0)]⟩),(4,.v ⟨false,[(1,.ptr 2 0)]⟩),(5,.v ⟨false,[(1,.d (.int .i64) (0:Int))]⟩),(7,.v ⟨false,[(1,.d (.int .i64) ((gc s.adds a.tag fun(t:b9) (t':az)=>gG t t').fst))]⟩),(8,.v ⟨false,[(1,.d .bool ((gc s.adds a.tag fun(t:b9) (t':az)=>gG t t').snd))]⟩),(9,.v ⟨false,[(1,.ptr 5 0)]⟩)],[(0,.cells [(2,.d (.st 11) s)] 38),(1,.cells [(4,.d (.st 10) a)] 128),(2,.cells [(1,.nils),(1,.nils)] 38),(3,.row 0 (.st 10) s.adds 128),(4,.row 0 (.st 4) s.gone 61),(5,.cells [(1,.own 3 0),(1,.own 4 0)] 38)],True,by kernel_rfl,?_,?_⟩
    ·refine And.intro ?_ ?_
     ·refine⟨_,rfl,rfl,(by assumption),?_⟩;refine And.intro ?_ ?_
      ·refine⟨_,rfl,rfl,(by assumption),?_⟩;refine And.intro ?_ trivial;refine⟨trivial,[],?_⟩;repeat (first|exact trivial|refine And.intro rfl ?_)
      refine And.intro ?_ trivial;refine And.intro ?_ trivial;refine⟨_,rfl,rfl,(by assumption),?_⟩;refine⟨trivial,[(5,4),(4,5)],?_⟩;repeat (first|exact trivial|refine And.intro rfl ?_)
     refine And.intro ?_ trivial;refine And.intro ?_ trivial;refine⟨_,rfl,rfl,(by assumption),?_⟩;refine And.intro ?_ trivial;refine⟨_,rfl,rfl,(by assumption),?_⟩;refine⟨trivial,[(5,3),(3,4),(4,5)],?_⟩;repeat (first|exact trivial|refine And.intro rfl ?_)
    refine fun _=>?_;refine⟨_,fun _=>⟨_,_,rfl,rfl,(by omega),rfl,rfl⟩,rfl,?_⟩;refine wI hf0 (fun _ hf0=>?_) fun _ hf0=>?_
    ·rw[hf0]at h;exact h (by(dsimp only;omega))
    ·refine fl (x:=s.adds.length) fun _=>?_;refine wI hf0 (fun _ hf0=>?_) fun _ hf0=>?_
     ·rw[hf0]at h;exact h (by simp)
     ·refine⟨_,_,_,rfl,rfl,((uw _ _ _).1),((uw _ _ _).2),(by assumption),?_⟩;rw[hf0]at h;exact h (by(dsimp only;rw[uu];simp only[List.length_cons,List.length_nil];omega))
def mV(a:b9)(out:cR):Bool:=
 mU out a.tag
def Tl:aW U:=⟨[.d (.st 10),.n],fun xs es K=> ∃(a:b9) (out:cR),xs= [(wo a),⟨false,[(1,.pd (.st 11) out)]⟩]∧es= []∧(out.gone.length≤1000000)∧K (.v (vb (mV a out))) []⟩
theorem Tm:Fk 94 Tl:=by
 refine fo Tryz.f94 [.d .bool] [] (aa Pz ah) fun xs es K=>?_;rintro⟨a,out,rfl,rfl,h2,h⟩;refine⟨rfl,?_⟩;have hf0:=mV.eq_1 a out;refine⟨_,_,rfl,rfl,(by omega),?_⟩;exact e0
end Go.Proofs.YtmpeiadlohbikaaGreatDoor.V
end

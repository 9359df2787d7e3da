/- Functions walked: printed by the walker. -/
import Derived.Test.YtmpeiadlohbikaaGreatDoorAx14
import Derived.Test.YtmpeiadlohbikaaGreatDoorAx18
section
set_option linter.unusedVariables false
set_option linter.unusedSimpArgs false
set_option maxRecDepth 20000
set_option maxHeartbeats 4000000
namespace Go.Proofs.YtmpeiadlohbikaaGreatDoor.V
open Go.RowKit
def dI(id:bD):Int:=
 if(((id.origin<0)∨(7<id.origin))∨(id.seq<1))∨(1048576<id.seq)then
  2
 else
  0
def Ra:aW U:=⟨[.d (.st 0)],fun xs es K=> ∃(id:bD),xs= [(EM id)]∧es= []∧K (.v (vi (dI id))) []⟩
theorem Qe:Fk 41 Ra:=by
 refine fo Tryz.f41 [.d (.int .i64)] [] (ae) fun xs es K=>?_;rintro⟨id,rfl,rfl,h⟩;refine⟨rfl,?_⟩;have hf0:=dI.eq_1 id;exact wI hf0 (fun _ hf0=>e0) fun _ hf0=>e0
theorem jh{id:bD}(h:dI id=0):0≤id.origin∧id.origin≤7∧1≤id.seq∧id.seq≤1048576:=by
 unfold dI at h;split at h
 ·cases h
 ·omega
def dg(v:List Int):Nat→Int→Int⊕(Int)
 |0,s3=> .inr s3
 |n1+1,s3=>
  if s3<8 then
   if 1048576<ix v s3 then
    .inl 2
   else
    dg v n1 (s3+1)
  else
   .inr s3
def eb(v:List Int):Int:=
 match dg v (((8:Int)-(0:Int)).toNat+1) (0:Int)with
 | .inl r=>r
 | .inr s3=>
  0
def Rb:aW U:=⟨[.d (.arr 8 (.int .u32))],fun xs es K=> ∃(v:List Int),xs= [(iy v)]∧es= []∧K (.v (vi (eb v))) []⟩
theorem Rc:Fk 66 Rb:=by
 refine fo Tryz.f66 [.d (.int .i64)] [] (ae) fun xs es K=>?_;rintro⟨v,rfl,rfl,h⟩;refine⟨rfl,?_⟩;have hf0:=eb.eq_1 v;refine lI 1 (fun(s3:Int)=> [(1,.v (vp 0)),(2,.v (vi 0)),(3,.v (vi s3))]) (fun(s3:Int)=> [(0,.cells [(8,.d (.arr 8 (.int .u32)) v)] 45)]) (fun(s3:Int)=>(8 - s3).toNat) (fun(s3:Int)=>(0≤s3)∧(s3≤8)∧True) (fun n1 (s3:Int)=>dg v n1 s3) (dg v (((8:Int)-(0:Int)).toNat+1) (0:Int)) [] (0:Int) ?_;rintro s3 ⟨n1,hc1,⟨hi1_0,hi1_1,-⟩,hf1⟩;have hf1:=hf1.trans (dg.eq_2 v s3 n1);refine wI hf1 (fun _ hf1=>?_) fun _ hf1=>e1;refine .inl ?_;refine vs (P:=0≤s3∧s3<((8:Nat):Int)) ?_;refine wI hf1 (fun _ hf1=>e1) fun _ hf1=>?_;refine fZ ?_;exact nx [] (s3+1) hc1 hf1
def ji(a:List Int)(b:List Int):Nat→Int→Bool⊕(Int)
 |0,s5=> .inr s5
 |n1+1,s5=>
  if s5<8 then
   if ix b s5<ix a s5 then
    .inl false
   else
    ji a b n1 (s5+1)
  else
   .inr s5
def jP(a:List Int)(b:List Int):Bool:=
 match ji a b (((8:Int)-(0:Int)).toNat+1) (0:Int)with
 | .inl r=>r
 | .inr s5=>
  true
def Qf:aW U:=⟨[.d (.arr 8 (.int .u32)),.d (.arr 8 (.int .u32))],fun xs es K=> ∃(a:List Int) (b:List Int),xs= [(iy a),(iy b)]∧es= []∧K (.v (vb (jP a b))) []⟩
theorem Nh:Fk 22 Qf:=by
 refine fo Tryz.f22 [.d .bool] [] (ae) fun xs es K=>?_;rintro⟨a,b,rfl,rfl,h⟩;refine⟨rfl,?_⟩;have hf0:=jP.eq_1 a b;refine lI 2 (fun(s5:Int)=> [(2,.v (vp 0)),(3,.v (vp 1)),(4,.v (vb false)),(5,.v (vi s5))]) (fun(s5:Int)=> [(0,.cells [(8,.d (.arr 8 (.int .u32)) a)] 45),(1,.cells [(8,.d (.arr 8 (.int .u32)) b)] 45)]) (fun(s5:Int)=>(8 - s5).toNat) (fun(s5:Int)=>(0≤s5)∧(s5≤8)∧True) (fun n1 (s5:Int)=>ji a b n1 s5) (ji a b (((8:Int)-(0:Int)).toNat+1) (0:Int)) [] (0:Int) ?_;rintro s5 ⟨n1,hc1,⟨hi1_0,hi1_1,-⟩,hf1⟩;have hf1:=hf1.trans (ji.eq_2 a b s5 n1);refine wI hf1 (fun _ hf1=>?_) fun _ hf1=>e1;refine dp (up 7) none (nw 2) ?_;refine .inl ?_;refine vs (P:=0≤s5∧s5<((8:Nat):Int)) ?_;refine .inl ?_;refine vs (P:=0≤s5∧s5<((8:Nat):Int)) ?_;refine wI hf1 (fun _ hf1=>e1) fun _ hf1=>?_;refine fZ ?_;exact nx [] (s5+1) hc1 hf1
def iF(b:List Int):Nat→Int→(List Int)→(List Int)⊕(Int×(List Int))
 |0,s5,s2_0=> .inr (s5,s2_0)
 |n1+1,s5,s2_0=>
  if s5<8 then
   iF b n1 (s5+1) (s2_0.set s5.toNat (max (ix s2_0 s5) (ix b s5)))
  else
   .inr (s5,s2_0)
def tq(a:List Int)(b:List Int):List Int:=
 match iF b (((8:Int)-(0:Int)).toNat+1) (0:Int) a with
 | .inl r=>r
 | .inr (s5,s2_0)=>
  s2_0
def Re:aW U:=⟨[.d (.arr 8 (.int .u32)),.d (.arr 8 (.int .u32))],fun xs es K=> ∃(a:List Int) (b:List Int),xs= [(iy a),(iy b)]∧es= []∧K (.v (iy (tq a b))) []⟩
theorem zG:Fk 12 Re:=by
 refine fo Tryz.f12 [.d (.arr 8 (.int .u32))] [] (ae) fun xs es K=>?_;rintro⟨a,b,rfl,rfl,h⟩;refine⟨rfl,?_⟩;have hf0:=tq.eq_1 a b;refine⟨Int×(List Int),3,fun(s5,s2_0)=> [(2,.v ⟨false,[(1,.ptr 0 0)]⟩),(3,.v ⟨false,[(1,.ptr 1 0)]⟩),(4,.v ⟨false,[(1,.ptr 2 0)]⟩),(5,.v ⟨false,[(1,.d (.int .i64) s5)]⟩)],fun(s5,s2_0)=> [(0,.cells [(8,.d (.arr 8 (.int .u32)) s2_0)] 45),(1,.cells [(8,.d (.arr 8 (.int .u32)) b)] 45),(2,.cells [(1,.d (.int .u32) (0:Int)),(1,.d (.int .u32) (0:Int)),(1,.d (.int .u32) (0:Int)),(1,.d (.int .u32) (0:Int)),(1,.d (.int .u32) (0:Int)),(1,.d (.int .u32) (0:Int)),(1,.d (.int .u32) (0:Int)),(1,.d (.int .u32) (0:Int))] 45)],aS (fun(s5,s2_0)=>((8:Int)- s5).toNat) (fun(s5,s2_0)=>((0:Int)≤s5)∧(s5≤(8:Int))∧True) (fun n1 (s5,s2_0)=>iF b n1 s5 s2_0) (iF b (((8:Int)-(0:Int)).toNat+1) (0:Int) a),fun(s5,s2_0)=>((8:Int)- s5).toNat,⟨[],((0:Int),a),aS.mk0 _ (Nat.lt_succ_self _) ⟨show(0:Int)≤(0:Int)from by omega,show(0:Int)≤(8:Int)from by omega,trivial⟩ rfl,?_⟩,?_⟩
 ·repeat (first|exact trivial|refine And.intro rfl ?_)
 ·rintro⟨s5,s2_0⟩ ⟨n1,hc1,⟨hi1_0,hi1_1,-⟩,hf1⟩;have hf1:=hf1.trans (iF.eq_2 b s5 s2_0 n1);refine vI hf1 iD (fun _ hf1=>?_) (fun _ hf1=>?_)
  ·refine .inl ⟨[(true,0),(true,1),(true,2),(true,3),(true,4),(true,5),(true,6),(true,7),(true,8)],some 9,[3,4,5,6,7,8,9,10,11,12,13,14],by kernel_rfl,?_⟩;refine .inl ?_;refine And.intro (show(0:Int)≤s5∧s5<(↑(8:Nat):Int)from by omega) ?_;refine .inl ?_;refine And.intro (show(0:Int)≤s5∧s5<(↑(8:Nat):Int)from by omega) ?_;refine .inl ?_;refine And.intro (show(0:Int)≤s5∧s5<(↑(8:Nat):Int)from by omega) ?_;refine .inl (And.intro (i6 (p:=s5) (q:=(1:Int)) (r:=s5+(1:Int)) (by omega)) ?_);have hm1:((8:Int)-(s5+(1:Int))).toNat<((8:Int)- s5).toNat:=by omega
   refine⟨[],(s5+(1:Int),s2_0.set s5.toNat (max (ix s2_0 s5) (ix b s5))),hm1,aS.next (s:=(s5,s2_0)) hc1 hm1 ⟨show(0:Int)≤s5+(1:Int)from by omega,show s5+(1:Int)≤(8:Int)from by omega,trivial⟩ hf1,?_⟩;repeat (first|exact trivial|refine And.intro rfl ?_)
  ·rw[hf1]at hf0;rw[hf0]at h;exact h
def od(v:List Int)(id:bD):Bool:=
 decide (dI id=0)&&decide (id.seq≤ix v id.origin)
def Rf:aW U:=⟨[.d (.arr 8 (.int .u32)),.d (.st 0)],fun xs es K=> ∃(v:List Int) (id:bD),xs= [(iy v),(EM id)]∧es= []∧K (.v (vb (od v id))) []⟩
theorem zH:Fk 11 Rf:=by
 refine fo Tryz.f11 [.d .bool] [] (aa Qe ae) fun xs es K=>?_;rintro⟨v,id,rfl,rfl,h⟩;refine⟨rfl,?_⟩;have hf0:=od.eq_1 v id;refine dp [(true,0),(false,1),(true,2),(true,3),(true,4),(true,5),(true,6),(true,7),(true,8),(true,9),(true,10),(true,11),(true,12)] none (nw 2) ?_;refine⟨_,rfl,rfl,?_⟩;refine .inl ?_;refine And.intro (show decide (dI id=(0:Int))=((8:Nat),true).snd→(0:Int)≤id.origin∧id.origin<(↑(8:Nat):Int)from(fun h=>⟨(jh (of_decide_eq_true h)).1,by have:=(jh (of_decide_eq_true h)).2.1;simp;omega⟩)) ?_;exact e0
def dA(v:List Int)(id:bD):(List Int)×Int:=
 if(¬eb v=0)∨(¬dI id=0)then
  ([0,0,0,0,0,0,0,0],2)
 else
  if od v id=true then
   ([0,0,0,0,0,0,0,0],11)
  else
   if(id.seq - 1)%4294967296=ix v id.origin then
    (v.set id.origin.toNat id.seq,0)
   else
    ([0,0,0,0,0,0,0,0],17)
def Qg:aW U:=⟨[.d (.arr 8 (.int .u32)),.d (.st 0)],fun xs es K=> ∃(v:List Int) (id:bD),xs= [(iy v),(EM id)]∧es= []∧K (.tup [(iy ((dA v id).1)),(vi ((dA v id).2))]) []⟩
theorem Ni:Fk 23 Qg:=by
 refine fo Tryz.f23 [.d (.arr 8 (.int .u32)),.d (.int .i64)] [] (aa zH (aa Qe (aa Rc ae))) fun xs es K=>?_;rintro⟨v,id,rfl,rfl,h⟩;refine⟨rfl,?_⟩;have hf0:=dA.eq_1 v id;refine⟨_,rfl,rfl,?_⟩;refine⟨_,fun _=>⟨_,rfl,rfl,rfl,rfl⟩,rfl,?_⟩;refine wI hf0 (fun _ hf0=>e0) fun _ hf0=>?_;refine⟨_,_,rfl,rfl,?_⟩;refine wI hf0 (fun _ hf0=>e0) fun _ hf0=>?_;refine dp (up 9) none (nw 3) ?_;refine .inr ?_;refine .inl ?_;refine vs (P:=0≤id.origin∧id.origin<((8:Nat):Int)) ?_ (by(have hq:=jh (id:=id) (by omega);omega));refine wN hf0 (fun _ hf0=>e0) fun _ hf0=>?_;refine .inl ?_;refine vs (P:=0≤id.origin∧id.origin<((8:Nat):Int)) ?_ (by(have hq:=jh (id:=id) (by omega);omega));exact e0
def eF(a:List au)(b:List au):Nat→Int→Bool⊕(Int)
 |0,s5=> .inr s5
 |n1+1,s5=>
  if s5<(a.length:Int)then
   if ix a s5=ix b s5 then
    eF a b n1 (s5+1)
   else
    .inl false
  else
   .inr s5
def jQ(a:List au)(b:List au):Bool:=
 if(a.length:Int)=(b.length:Int)then
  match eF a b (((a.length:Int)- 0).toNat+1) 0 with
  | .inl r=>r
  | .inr s5=>
   true
 else
  false
def Rg:aW U:=⟨[.d (.sl (.st 6)),.d (.sl (.st 6))],fun xs es K=> ∃(a:List au) (b:List au),xs= [(BA a),(BA b)]∧es= []∧K (.v (vb (jQ a b))) []⟩
theorem Rh:Fk 49 Rg:=by
 refine fo Tryz.f49 [.d .bool] [] (ae) fun xs es K=>?_;rintro⟨a,b,rfl,rfl,h⟩;refine⟨rfl,?_⟩;have hf0:=jQ.eq_1 a b;refine fl (x:=a.length) fun _=>?_;refine fl (x:=b.length) fun _=>?_;refine wN hf0 (fun _ hf0=>e0) fun _ hf0=>?_;refine lI 0 (fun(s5:Int)=> [(0,.v (BA a)),(1,.v (BA b)),(4,.v (vb false)),(5,.v (vi s5))]) (fun(s5:Int)=> []) (fun(s5:Int)=>((a.length:Int)- s5).toNat) (fun(s5:Int)=>(0≤s5)∧(s5≤(a.length:Int))∧True) (fun n1 (s5:Int)=>eF a b n1 s5) (eF a b (((a.length:Int)- 0).toNat+1) 0) [] (0:Int) ?_;rintro s5 ⟨n1,hc1,⟨hi1_0,hi1_1,-⟩,hf1⟩;have hf1:=hf1.trans (eF.eq_2 a b s5 n1);refine fl (x:=a.length) fun _=>?_;refine wI hf1 (fun _ hf1=>?_) fun _ hf1=>e1;refine dp (up 9) none (nw 0) ?_;refine vx s5 a ?_;refine vx s5 b ?_;refine wN hf1 (fun _ hf1=>e1) fun _ hf1=>?_;refine fZ ?_;exact nx [] (s5+1) hc1 hf1
def nI(a:aF)(b:aF):Bool:=
 decide (a.kind=b.kind)&&decide (a.val=b.val)&&jQ a.items b.items
def Ri:aW U:=⟨[.d (.st 7),.d (.st 7)],fun xs es K=> ∃(a:aF) (b:aF),xs= [(I4 a),(I4 b)]∧es= []∧K (.v (vb (nI a b))) []⟩
theorem BC:Fk 14 Ri:=by
 refine fo Tryz.f14 [.d .bool] [] (aa Rh ae) fun xs es K=>?_;rintro⟨a,b,rfl,rfl,h⟩;refine⟨rfl,?_⟩;have hf0:=nI.eq_1 a b;refine⟨_,fun _=>⟨_,_,rfl,rfl,rfl,rfl⟩,rfl,?_⟩;exact e0
def nc(x:Int):Bool:=
 decide ¬x=x
def Nj:aW U:=⟨[.d (.int .i64)],fun xs es K=> ∃(x:Int),xs= [(vi x)]∧es= []∧K (.v (vb (nc x))) []⟩
theorem Nk:Fk 177 Nj:=by
 refine fo Tryz.f177 [.d .bool] [] (ae) fun xs es K=>?_;rintro⟨x,rfl,rfl,h⟩;refine⟨rfl,?_⟩;have hf0:=nc.eq_1 x;exact e0
def ng(x:Int):Bool:=
 decide ¬x=x
def Nl:aW U:=⟨[.d (.int .u32)],fun xs es K=> ∃(x:Int),xs= [(vw x)]∧es= []∧K (.v (vb (ng x))) []⟩
theorem Nm:Fk 178 Nl:=by
 refine fo Tryz.f178 [.d .bool] [] (ae) fun xs es K=>?_;rintro⟨x,rfl,rfl,h⟩;refine⟨rfl,?_⟩;have hf0:=ng.eq_1 x;exact e0
def oX(x:Int):Bool:=
 decide ¬x=x
def Nn:aW U:=⟨[.d (.int .i64)],fun xs es K=> ∃(x:Int),xs= [(vi x)]∧es= []∧K (.v (vb (oX x))) []⟩
theorem No:Fk 163 Nn:=by
 refine fo Tryz.f163 [.d .bool] [] (ae) fun xs es K=>?_;rintro⟨x,rfl,rfl,h⟩;refine⟨rfl,?_⟩;have hf0:=oX.eq_1 x;exact e0
def nh(x:List UInt8):Bool:=
 decide ¬x=x
def Np:aW U:=⟨[.d .str],fun xs es K=> ∃(x:List UInt8),xs= [(vt x)]∧es= []∧K (.v (vb (nh x))) []⟩
theorem Nq:Fk 117 Np:=by
 refine fo Tryz.f117 [.d .bool] [] (ae) fun xs es K=>?_;rintro⟨x,rfl,rfl,h⟩;refine⟨rfl,?_⟩;have hf0:=nh.eq_1 x;exact e0
def lA(x:Int)(y:Int):Int:=
 if nc x=true then
  if nc y=true then
   0
  else
   (-1)
 else
  if nc y=true then
   1
  else
   if x<y then
    (-1)
   else
    if y<x then
     1
    else
     0
def Nr:aW U:=⟨[.d (.int .i64),.d (.int .i64)],fun xs es K=> ∃(x:Int) (y:Int),xs= [(vi x),(vi y)]∧es= []∧K (.v (vi (lA x y))) []⟩
theorem Hv:Fk 129 Nr:=by
 refine fo Tryz.f129 [.d (.int .i64)] [] (aa Nk ae) fun xs es K=>?_;rintro⟨x,y,rfl,rfl,h⟩;refine⟨rfl,?_⟩;have hf0:=lA.eq_1 x y;refine⟨_,rfl,rfl,?_⟩;refine⟨_,rfl,rfl,?_⟩;exact wI hf0 (fun _ hf0=>wI hf0 (fun _ hf0=>e0) fun _ hf0=>e0) fun _ hf0=>wI hf0 (fun _ hf0=>e0) fun _ hf0=>wI hf0 (fun _ hf0=>e0) fun _ hf0=>wI hf0 (fun _ hf0=>e0) fun _ hf0=>e0
def ni(x:Int)(y:Int):Int:=
 if ng x=true then
  if ng y=true then
   0
  else
   (-1)
 else
  if ng y=true then
   1
  else
   if x<y then
    (-1)
   else
    if y<x then
     1
    else
     0
def Ns:aW U:=⟨[.d (.int .u32),.d (.int .u32)],fun xs es K=> ∃(x:Int) (y:Int),xs= [(vw x),(vw y)]∧es= []∧K (.v (vi (ni x y))) []⟩
theorem JK:Fk 130 Ns:=by
 refine fo Tryz.f130 [.d (.int .i64)] [] (aa Nm ae) fun xs es K=>?_;rintro⟨x,y,rfl,rfl,h⟩;refine⟨rfl,?_⟩;have hf0:=ni.eq_1 x y;refine⟨_,rfl,rfl,?_⟩;refine⟨_,rfl,rfl,?_⟩;exact wI hf0 (fun _ hf0=>wI hf0 (fun _ hf0=>e0) fun _ hf0=>e0) fun _ hf0=>wI hf0 (fun _ hf0=>e0) fun _ hf0=>wI hf0 (fun _ hf0=>e0) fun _ hf0=>wI hf0 (fun _ hf0=>e0) fun _ hf0=>e0
def rE(x:Int)(y:Int):Int:=
 if oX x=true then
  if oX y=true then
   0
  else
   (-1)
 else
  if oX y=true then
   1
  else
   if x<y then
    (-1)
   else
    if y<x then
     1
    else
     0
def Nt:aW U:=⟨[.d (.int .i64),.d (.int .i64)],fun xs es K=> ∃(x:Int) (y:Int),xs= [(vi x),(vi y)]∧es= []∧K (.v (vi (rE x y))) []⟩
theorem JL:Fk 114 Nt:=by
 refine fo Tryz.f114 [.d (.int .i64)] [] (aa No ae) fun xs es K=>?_;rintro⟨x,y,rfl,rfl,h⟩;refine⟨rfl,?_⟩;have hf0:=rE.eq_1 x y;refine⟨_,rfl,rfl,?_⟩;refine⟨_,rfl,rfl,?_⟩;exact wI hf0 (fun _ hf0=>wI hf0 (fun _ hf0=>e0) fun _ hf0=>e0) fun _ hf0=>wI hf0 (fun _ hf0=>e0) fun _ hf0=>wI hf0 (fun _ hf0=>e0) fun _ hf0=>wI hf0 (fun _ hf0=>e0) fun _ hf0=>e0
def nj(x:List UInt8)(y:List UInt8):Int:=
 if nh x=true then
  if nh y=true then
   0
  else
   (-1)
 else
  if nh y=true then
   1
  else
   if x<y then
    (-1)
   else
    if y<x then
     1
    else
     0
def Rj:aW U:=⟨[.d .str,.d .str],fun xs es K=> ∃(x:List UInt8) (y:List UInt8),xs= [(vt x),(vt y)]∧es= []∧K (.v (vi (nj x y))) []⟩
theorem Qh:Fk 48 Rj:=by
 refine fo Tryz.f48 [.d (.int .i64)] [] (aa Nq ae) fun xs es K=>?_;rintro⟨x,y,rfl,rfl,h⟩;refine⟨rfl,?_⟩;have hf0:=nj.eq_1 x y;refine⟨_,rfl,rfl,?_⟩;refine⟨_,rfl,rfl,?_⟩;exact wI hf0 (fun _ hf0=>wI hf0 (fun _ hf0=>e0) fun _ hf0=>e0) fun _ hf0=>wI hf0 (fun _ hf0=>e0) fun _ hf0=>wI hf0 (fun _ hf0=>e0) fun _ hf0=>wI hf0 (fun _ hf0=>e0) fun _ hf0=>e0
def eG(l:List Int):Nat→Int→Int⊕(Int)
 |0,s8=> .inr s8
 |n1+1,s8=>
  if s8<(l.length:Int)then
   if ix l s8=0 then
    eG l n1 (s8+1)
   else
    .inl (ix l s8)
  else
   .inr s8
def gj(l:List Int):Int:=
 match eG l (((l.length:Int)- 0).toNat+1) 0 with
 | .inl r=>r
 | .inr s8=>
  0
def Nu:aW U:=⟨[.d (.sl (.int .i64))],fun xs es K=> ∃(l:List Int),xs= [(I5 l)]∧es= []∧K (.v (vi (gj l))) []⟩
theorem zI:Fk 128 Nu:=by
 refine fo Tryz.f128 [.d (.int .i64)] [] (ae) fun xs es K=>?_;rintro⟨l,rfl,rfl,h⟩;refine⟨rfl,?_⟩;have hf0:=gj.eq_1 l;refine fl (x:=l.length) fun _=>?_;refine lI 0 (fun(s8:Int)=> [(2,.v (vi 0)),(3,.v (vi 0)),(6,.v (I5 l)),(7,.v (vi (l.length:Int))),(8,.v (vi s8))]) (fun(s8:Int)=> []) (fun(s8:Int)=>((l.length:Int)- s8).toNat) (fun(s8:Int)=>(0≤s8)∧(s8≤(l.length:Int))∧True) (fun n1 (s8:Int)=>eG l n1 s8) (eG l (((l.length:Int)- 0).toNat+1) 0) [] (0:Int) ?_;rintro s8 ⟨n1,hc1,⟨hi1_0,hi1_1,-⟩,hf1⟩;have hf1:=hf1.trans (eG.eq_2 l s8 n1);refine wI hf1 (fun _ hf1=>?_) fun _ hf1=>e1;refine vx s8 l ?_;refine wN hf1 (fun _ hf1=>e1) fun _ hf1=>?_;refine fZ ?_;exact nx [] (s8+1) hc1 hf1
def dJ(l:List Int):Nat→Int→Int⊕(Int)
 |0,s8=> .inr s8
 |n1+1,s8=>
  if s8<(l.length:Int)then
   if ix l s8=0 then
    dJ l n1 (s8+1)
   else
    .inl (ix l s8)
  else
   .inr s8
def dT(l:List Int):Int:=
 match dJ l (((l.length:Int)- 0).toNat+1) 0 with
 | .inl r=>r
 | .inr s8=>
  0
def Nv:aW U:=⟨[.d (.sl (.int .i64))],fun xs es K=> ∃(l:List Int),xs= [(I5 l)]∧es= []∧K (.v (vi (dT l))) []⟩
theorem Nw:Fk 81 Nv:=by
 refine fo Tryz.f81 [.d (.int .i64)] [] (ae) fun xs es K=>?_;rintro⟨l,rfl,rfl,h⟩;refine⟨rfl,?_⟩;have hf0:=dT.eq_1 l;refine fl (x:=l.length) fun _=>?_;refine lI 0 (fun(s8:Int)=> [(2,.v (vi 0)),(3,.v (vi 0)),(6,.v (I5 l)),(7,.v (vi (l.length:Int))),(8,.v (vi s8))]) (fun(s8:Int)=> []) (fun(s8:Int)=>((l.length:Int)- s8).toNat) (fun(s8:Int)=>(0≤s8)∧(s8≤(l.length:Int))∧True) (fun n1 (s8:Int)=>dJ l n1 s8) (dJ l (((l.length:Int)- 0).toNat+1) 0) [] (0:Int) ?_;rintro s8 ⟨n1,hc1,⟨hi1_0,hi1_1,-⟩,hf1⟩;have hf1:=hf1.trans (dJ.eq_2 l s8 n1);refine wI hf1 (fun _ hf1=>?_) fun _ hf1=>e1;refine vx s8 l ?_;refine wN hf1 (fun _ hf1=>e1) fun _ hf1=>?_;refine fZ ?_;exact nx [] (s8+1) hc1 hf1
def dm(id:bD):Int:=
 if(((id.origin<0)∨(8≤id.origin))∨(id.seq=0))∨(1048576<id.seq)then
  2
 else
  0
def JM:aW U:=⟨[.d (.st 0)],fun xs es K=> ∃(id:bD),xs= [(EM id)]∧es= []∧K (.v (vi (dm id))) []⟩
theorem Hw:Fk 123 JM:=by
 refine fo Tryz.f123 [.d (.int .i64)] [] (ae) fun xs es K=>?_;rintro⟨id,rfl,rfl,h⟩;refine⟨rfl,?_⟩;have hf0:=dm.eq_1 id;exact wI hf0 (fun _ hf0=>e0) fun _ hf0=>e0
def fJ(t:az):Int:=
 if(t.n<0)∨(16≤t.n)then
  2
 else
  dm t.id
def Rk:aW U:=⟨[.d (.st 4)],fun xs es K=> ∃(t:az),xs= [(x8 t)]∧es= []∧K (.v (vi (fJ t))) []⟩
theorem Nx:Fk 71 Rk:=by
 refine fo Tryz.f71 [.d (.int .i64)] [] (aa Hw ae) fun xs es K=>?_;rintro⟨t,rfl,rfl,h⟩;refine⟨rfl,?_⟩;have hf0:=fJ.eq_1 t;refine wI hf0 (fun _ hf0=>e0) fun _ hf0=>?_;refine⟨_,rfl,rfl,?_⟩;exact e0
def d4(a:bD)(b:bD):Int:=
 gj [lA a.origin b.origin,ni a.seq b.seq]
def Qi:aW U:=⟨[.d (.st 0),.d (.st 0)],fun xs es K=> ∃(a:bD) (b:bD),xs= [(EM a),(EM b)]∧es= []∧K (.v (vi (d4 a b))) []⟩
theorem Qj:Fk 61 Qi:=by
 refine fo Tryz.f61 [.d (.int .i64)] [] (aa zI (aa Hv (aa JK ae))) fun xs es K=>?_;rintro⟨a,b,rfl,rfl,h⟩;refine⟨rfl,?_⟩;have hf0:=d4.eq_1 a b;refine dp [(true,0),(true,1),(true,2),(true,3),(true,5),(true,6),(true,7),(true,8),(false,4),(false,9),(false,10),(false,11),(true,12)] none (nw 2) ?_;refine⟨_,_,rfl,rfl,?_⟩;refine⟨_,_,rfl,rfl,?_⟩;refine⟨_,rfl,rfl,?_⟩;exact e0
def ap(a:az)(b:az):Int:=
 gj [d4 a.id b.id,lA a.n b.n]
def Rl:aW U:=⟨[.d (.st 4),.d (.st 4)],fun xs es K=> ∃(a:az) (b:az),xs= [(x8 a),(x8 b)]∧es= []∧K (.v (vi (ap a b))) []⟩
theorem zJ:Fk 77 Rl:=by
 refine fo Tryz.f77 [.d (.int .i64)] [] (aa Qj (aa zI (aa Hv ae))) fun xs es K=>?_;rintro⟨a,b,rfl,rfl,h⟩;refine⟨rfl,?_⟩;have hf0:=ap.eq_1 a b;refine dp [(true,0),(true,1),(true,2),(true,3),(true,5),(true,6),(true,7),(true,8),(false,4),(false,9),(false,10),(false,11),(true,12)] none (nw 2) ?_;refine⟨_,_,rfl,rfl,?_⟩;refine⟨_,_,rfl,rfl,?_⟩;refine⟨_,rfl,rfl,?_⟩;exact e0
def oY(origin:Int):Bool:=
 decide (0≤origin)&&decide (origin<8)
def Ny:aW U:=⟨[.d (.int .i64)],fun xs es K=> ∃(origin:Int),xs= [(vi origin)]∧es= []∧K (.v (vb (oY origin))) []⟩
theorem Nz:Fk 141 Ny:=by
 refine fo Tryz.f141 [.d .bool] [] (ae) fun xs es K=>?_;rintro⟨origin,rfl,rfl,h⟩;refine⟨rfl,?_⟩;have hf0:=oY.eq_1 origin;exact e0
def fK(s:aV):Int:=
 if(1048576<s.time)∨(¬(oY s.origin=true))then
  2
 else
  0
def Rm:aW U:=⟨[.d (.st 2)],fun xs es K=> ∃(s:aV),xs= [(I6 s)]∧es= []∧K (.v (vi (fK s))) []⟩
theorem NA:Fk 72 Rm:=by
 refine fo Tryz.f72 [.d (.int .i64)] [] (aa Nz ae) fun xs es K=>?_;rintro⟨s,rfl,rfl,h⟩;refine⟨rfl,?_⟩;have hf0:=fK.eq_1 s;refine⟨_,fun _=>⟨_,rfl,rfl,rfl,rfl⟩,rfl,?_⟩;exact wI hf0 (fun _ hf0=>e0) fun _ hf0=>e0
def eZ(a:aV)(b:aV):Int:=
 gj [ni a.time b.time,lA a.origin b.origin]
def NB:aW U:=⟨[.d (.st 2),.d (.st 2)],fun xs es K=> ∃(a:aV) (b:aV),xs= [(I6 a),(I6 b)]∧es= []∧K (.v (vi (eZ a b))) []⟩
theorem Hy:Fk 113 NB:=by
 refine fo Tryz.f113 [.d (.int .i64)] [] (aa zI (aa Hv (aa JK ae))) fun xs es K=>?_;rintro⟨a,b,rfl,rfl,h⟩;refine⟨rfl,?_⟩;have hf0:=eZ.eq_1 a b;refine dp [(true,0),(true,1),(true,2),(true,3),(true,5),(true,6),(true,7),(true,8),(false,4),(false,9),(false,10),(false,11),(true,12)] none (nw 2) ?_;refine⟨_,_,rfl,rfl,?_⟩;refine⟨_,_,rfl,rfl,?_⟩;refine⟨_,rfl,rfl,?_⟩;exact e0
def kA(s:List UInt8):Bool:=
 decide ¬s= []&&decide ((s.length:Int)≤12)
def Rn:aW U:=⟨[.d .str],fun xs es K=> ∃(s:List UInt8),xs= [(vt s)]∧es= []∧K (.v (vb (kA s))) []⟩
theorem NC:Fk 70 Rn:=by
 refine fo Tryz.f70 [.d .bool] [] (ae) fun xs es K=>?_;rintro⟨s,rfl,rfl,h⟩;refine⟨rfl,?_⟩;have hf0:=kA.eq_1 s;exact e0
def ec(t:az):Bool:=
 decide ¬fJ t=0
def Ro:aW U:=⟨[.d (.st 4)],fun xs es K=> ∃(t:az),xs= [(x8 t)]∧es= []∧K (.v (vb (ec t))) []⟩
theorem ME:Fk 85 Ro:=by
 refine fo Tryz.f85 [.d .bool] [] (aa Nx ae) fun xs es K=>?_;rintro⟨t,rfl,rfl,h⟩;refine⟨rfl,?_⟩;have hf0:=ec.eq_1 t;refine⟨_,rfl,rfl,?_⟩;exact e0
def fL(a:bS)(t:az):Int:=
 ap a.tag t
def Rp:aW U:=⟨[.d (.st 10),.d (.st 4)],fun xs es K=> ∃(a:bS) (t:az),xs= [(vn a),(x8 t)]∧es= []∧K (.v (vi (fL a t))) []⟩
theorem Qk:Fk 87 Rp:=by
 refine fo Tryz.f87 [.d (.int .i64)] [] (aa zJ ae) fun xs es K=>?_;rintro⟨a,t,rfl,rfl,h⟩;refine⟨rfl,?_⟩;have hf0:=fL.eq_1 a t;refine⟨_,_,rfl,rfl,?_⟩;exact e0
def cz(l:List az)(f:az→Bool):Bool:=
 decide (0≤bW l f)
def Rq:aW U:=⟨[.d (.sl (.st 4)),.f1 (.st 4)],fun xs es K=> ∃(l:List az) (f:az→Bool),xs= [(nX l),⟨false,[(1,.f1 (.st 4) f)]⟩]∧es= []∧K (.v (vb (cz l f))) []⟩
theorem JN:Fk 76 Rq:=by
 refine fo Tryz.f76 [.d .bool] [] (aa OJ ae) fun xs es K=>?_;rintro⟨l,f,rfl,rfl,h⟩;refine⟨rfl,?_⟩;have hf0:=cz.eq_1 l f;refine⟨_,_,rfl,rfl,?_⟩;exact e0
def fp(l:List bS)(f:bS→Bool):Bool:=
 decide (0≤bW l f)
def ND:aW U:=⟨[.d (.sl (.st 10)),.f1 (.st 10)],fun xs es K=> ∃(l:List bS) (f:bS→Bool),xs= [(qN l),⟨false,[(1,.f1 (.st 10) f)]⟩]∧es= []∧K (.v (vb (fp l f))) []⟩
theorem NE:Fk 142 ND:=by
 refine fo Tryz.f142 [.d .bool] [] (aa OL ae) fun xs es K=>?_;rintro⟨l,f,rfl,rfl,h⟩;refine⟨rfl,?_⟩;have hf0:=fp.eq_1 l f;refine⟨_,_,rfl,rfl,?_⟩;exact e0
def gJ(x:List az)(target:az)(c:az→az→Int):Nat→Int→Int→(Int×Bool)⊕(Int×Int)
 |0,s9,s10=> .inr (s9,s10)
 |n1+1,s9,s10=>
  if s9<s10 then
   if c (ix x ((s9+s10)/2)) target<0 then
    gJ x target c n1 ((s9+s10)/(2:Int)+(1:Int)) s10
   else
    gJ x target c n1 s9 ((s9+s10)/2)
  else
   .inr (s9,s10)
def eI(x:List az)(target:az)(c:az→az→Int):Int×Bool:=
 match gJ x target c (((x.length:Int)- 0).toNat+1) 0 (x.length:Int)with
 | .inl r=>r
 | .inr (s9,s10)=>
  (s9,decide (s9<(x.length:Int))&&decide (c (ix x s9) target=0))
def Rr:aW U:=⟨[.d (.sl (.st 4)),.d (.st 4),.f2 (.st 4) (.st 4)],fun xs es K=> ∃(x:List az) (target:az) (c:az→az→Int),xs= [(nX x),(x8 target),⟨false,[(1,.f2 (.st 4) (.st 4) c)]⟩]∧es= []∧(x.length≤1000000)∧K (.tup [(vi ((eI x target c).1)),(vb ((eI x target c).2))]) []⟩
theorem NF:Fk 98 Rr:=by
 refine fo Tryz.f98 [.d (.int .i64),.d .bool] [] (ae) fun xs es K=>?_;rintro⟨x,target,c,rfl,rfl,hx,h⟩;refine⟨rfl,?_⟩;have hf0:=eI.eq_1 x target c;refine fun h0=>?_;have h0:(↑x.length:Int)≤(9223372036854775807:Int):=h0.2;refine⟨Int×Int,1,fun(s9,s10)=> [(0,.v ⟨false,[(1,.d (.sl (.st 4)) x)]⟩),(2,.v ⟨false,[(1,Cx.f2 (aZ.st (4:Nat)) (aZ.st (4:Nat)) c)]⟩),(4,.v ⟨false,[(1,.ptr 0 0)]⟩),(6,.v ⟨false,[(1,.d (.int .i64) (0:Int))]⟩),(7,.v ⟨false,[(1,.d .bool false)]⟩),(8,.v ⟨false,[(1,.d (.int .i64) (↑x.length:Int))]⟩),(9,.v ⟨false,[(1,.d (.int .i64) s9)]⟩),(10,.v ⟨false,[(1,.d (.int .i64) s10)]⟩)],fun(s9,s10)=> [(0,.cells [(3,.d (.st 4) target)] 61)],aS (fun(s9,s10)=>(s10 - s9).toNat) (fun(s9,s10)=>(0≤s9)∧(s9≤s10)∧(s10≤(x.length:Int))∧True) (fun n1 (s9,s10)=>gJ x target c n1 s9 s10) (gJ x target c (((↑x.length:Int)-(0:Int)).toNat+1) (0:Int) (↑x.length:Int)),fun(s9,s10)=>(s10 - s9).toNat,⟨[],((0:Int),(↑x.length:Int)),aS.mk0 _ (Nat.lt_succ_self _) ⟨show(0:Int)≤(0:Int)from by omega,show(0:Int)≤(↑x.length:Int)from by omega,show(↑x.length:Int)≤(↑x.length:Int)from by omega,trivial⟩ rfl,?_⟩,?_⟩
 ·repeat (first|exact trivial|refine And.intro rfl ?_)
 ·rintro⟨s9,s10⟩ ⟨n1,hc1,⟨hi1_0,hi1_1,hi1_2,-⟩,hf1⟩;have hf1:=hf1.trans (gJ.eq_2 x target c s9 s10 n1);refine vI hf1 iD (fun _ hf1=>?_) (fun _ hf1=>?_)
  ·refine .inl (And.intro (i6 (p:=s9) (q:=s10) (r:=s9+s10) (by omega)) ?_);refine .inl (And.intro (fun(h2:(-9223372036854775808:Int)≤s9+s10∧s9+s10≤(9223372036854775807:Int))=>(show(0:Int)≤s9+s10∧s9+s10≤(18446744073709551615:Int)from by omega)) ?_);refine And.intro (show(0:Int)≤(1:Int)∧(1:Int)≤(18446744073709551615:Int)→(0:Int)≤(1:Int)from by omega) ?_;refine .inl (And.intro (fun(h3:(0:Int)≤(s9+s10)/(2:Int)∧(s9+s10)/(2:Int)≤(18446744073709551615:Int))=>(show(-9223372036854775808:Int)≤(s9+s10)/(2:Int)∧(s9+s10)/(2:Int)≤(9223372036854775807:Int)from by omega)) ?_);refine .inl ⟨[(true,0),(true,1),(true,2),(true,3),(true,4),(true,5),(false,6),(true,7)],none,[1,2,3,4,5,6,7,8,9,10,11,12],by kernel_rfl,?_⟩;refine And.intro (show(0:Int)≤(s9+s10)/(2:Int)∧(s9+s10)/(2:Int)<(↑x.length:Int)from by omega) ?_;refine vI hf1 iD (fun _ hf1=>?_) (fun _ hf1=>?_)
   ·refine .inl (And.intro (i6 (p:=(s9+s10)/(2:Int)) (q:=(1:Int)) (r:=(s9+s10)/(2:Int)+(1:Int)) (by omega)) ?_);have hm1:(s10 -((s9+s10)/(2:Int)+(1:Int))).toNat<(s10 - s9).toNat:=by omega
    refine⟨[],((s9+s10)/(2:Int)+(1:Int),s10),hm1,aS.next (s:=(s9,s10)) hc1 hm1 ⟨show(0:Int)≤(s9+s10)/(2:Int)+(1:Int)from by omega,show(s9+s10)/(2:Int)+(1:Int)≤s10 from by omega,show s10≤(↑x.length:Int)from by omega,trivial⟩ hf1,?_⟩;repeat (first|exact trivial|refine And.intro rfl ?_)
   ·have hm1:((s9+s10)/(2:Int)- s9).toNat<(s10 - s9).toNat:=by omega
    refine⟨[],(s9,(s9+s10)/(2:Int)),hm1,aS.next (s:=(s9,s10)) hc1 hm1 ⟨show(0:Int)≤s9 from by omega,show s9≤(s9+s10)/(2:Int)from by omega,show(s9+s10)/(2:Int)≤(↑x.length:Int)from by omega,trivial⟩ hf1,?_⟩;repeat (first|exact trivial|refine And.intro rfl ?_)
  ·rw[hf1]at hf0;refine .inl ⟨[(true,0),(true,1),(true,2),(true,3),(true,4),(true,5),(true,6),(true,7),(true,8),(true,9),(true,10),(false,11),(true,12),(true,13),(true,14),(true,15)],none,[1,2,3,4,5,6,7,8,9,10,11,12],by kernel_rfl,?_⟩;refine And.intro (show decide (s9<(↑x.length:Int))=((39:Nat),true).snd→(0:Int)≤s9∧s9<(↑x.length:Int)from by(intro h;simp at h;omega)) ?_;rw[hf0]at h;exact h
def gK(x:List bS)(target:az)(c:bS→az→Int):Nat→Int→Int→(Int×Bool)⊕(Int×Int)
 |0,s9,s10=> .inr (s9,s10)
 |n1+1,s9,s10=>
  if s9<s10 then
   if c (ix x ((s9+s10)/2)) target<0 then
    gK x target c n1 ((s9+s10)/(2:Int)+(1:Int)) s10
   else
    gK x target c n1 s9 ((s9+s10)/2)
  else
   .inr (s9,s10)
def fq(x:List bS)(target:az)(c:bS→az→Int):Int×Bool:=
 match gK x target c (((x.length:Int)- 0).toNat+1) 0 (x.length:Int)with
 | .inl r=>r
 | .inr (s9,s10)=>
  (s9,decide (s9<(x.length:Int))&&decide (c (ix x s9) target=0))
def Rs:aW U:=⟨[.d (.sl (.st 10)),.d (.st 4),.f2 (.st 10) (.st 4)],fun xs es K=> ∃(x:List bS) (target:az) (c:bS→az→Int),xs= [(qN x),(x8 target),⟨false,[(1,.f2 (.st 10) (.st 4) c)]⟩]∧es= []∧(x.length≤1000000)∧K (.tup [(vi ((fq x target c).1)),(vb ((fq x target c).2))]) []⟩
theorem Rt:Fk 86 Rs:=by
 refine fo Tryz.f86 [.d (.int .i64),.d .bool] [] (ae) fun xs es K=>?_;rintro⟨x,target,c,rfl,rfl,hx,h⟩;refine⟨rfl,?_⟩;have hf0:=fq.eq_1 x target c;refine fun h0=>?_;have h0:(↑x.length:Int)≤(9223372036854775807:Int):=h0.2;refine⟨Int×Int,1,fun(s9,s10)=> [(0,.v ⟨false,[(1,.d (.sl (.st 10)) x)]⟩),(2,.v ⟨false,[(1,Cx.f2 (aZ.st (10:Nat)) (aZ.st (4:Nat)) c)]⟩),(4,.v ⟨false,[(1,.ptr 0 0)]⟩),(6,.v ⟨false,[(1,.d (.int .i64) (0:Int))]⟩),(7,.v ⟨false,[(1,.d .bool false)]⟩),(8,.v ⟨false,[(1,.d (.int .i64) (↑x.length:Int))]⟩),(9,.v ⟨false,[(1,.d (.int .i64) s9)]⟩),(10,.v ⟨false,[(1,.d (.int .i64) s10)]⟩)],fun(s9,s10)=> [(0,.cells [(3,.d (.st 4) target)] 61)],aS (fun(s9,s10)=>(s10 - s9).toNat) (fun(s9,s10)=>(0≤s9)∧(s9≤s10)∧(s10≤(x.length:Int))∧True) (fun n1 (s9,s10)=>gK x target c n1 s9 s10) (gK x target c (((↑x.length:Int)-(0:Int)).toNat+1) (0:Int) (↑x.length:Int)),fun(s9,s10)=>(s10 - s9).toNat,⟨[],((0:Int),(↑x.length:Int)),aS.mk0 _ (Nat.lt_succ_self _) ⟨show(0:Int)≤(0:Int)from by omega,show(0:Int)≤(↑x.length:Int)from by omega,show(↑x.length:Int)≤(↑x.length:Int)from by omega,trivial⟩ rfl,?_⟩,?_⟩
 ·repeat (first|exact trivial|refine And.intro rfl ?_)
 ·rintro⟨s9,s10⟩ ⟨n1,hc1,⟨hi1_0,hi1_1,hi1_2,-⟩,hf1⟩;have hf1:=hf1.trans (gK.eq_2 x target c s9 s10 n1);refine vI hf1 iD (fun _ hf1=>?_) (fun _ hf1=>?_)
  ·refine .inl (And.intro (i6 (p:=s9) (q:=s10) (r:=s9+s10) (by omega)) ?_);refine .inl (And.intro (fun(h2:(-9223372036854775808:Int)≤s9+s10∧s9+s10≤(9223372036854775807:Int))=>(show(0:Int)≤s9+s10∧s9+s10≤(18446744073709551615:Int)from by omega)) ?_);refine And.intro (show(0:Int)≤(1:Int)∧(1:Int)≤(18446744073709551615:Int)→(0:Int)≤(1:Int)from by omega) ?_;refine .inl (And.intro (fun(h3:(0:Int)≤(s9+s10)/(2:Int)∧(s9+s10)/(2:Int)≤(18446744073709551615:Int))=>(show(-9223372036854775808:Int)≤(s9+s10)/(2:Int)∧(s9+s10)/(2:Int)≤(9223372036854775807:Int)from by omega)) ?_);refine .inl ⟨[(true,0),(true,1),(true,2),(true,3),(true,4),(true,5),(false,6),(true,7)],none,[1,2,3,4,5,6,7,8,9,10,11,12],by kernel_rfl,?_⟩;refine And.intro (show(0:Int)≤(s9+s10)/(2:Int)∧(s9+s10)/(2:Int)<(↑x.length:Int)from by omega) ?_;refine vI hf1 iD (fun _ hf1=>?_) (fun _ hf1=>?_)
   ·refine .inl (And.intro (i6 (p:=(s9+s10)/(2:Int)) (q:=(1:Int)) (r:=(s9+s10)/(2:Int)+(1:Int)) (by omega)) ?_);have hm1:(s10 -((s9+s10)/(2:Int)+(1:Int))).toNat<(s10 - s9).toNat:=by omega
    refine⟨[],((s9+s10)/(2:Int)+(1:Int),s10),hm1,aS.next (s:=(s9,s10)) hc1 hm1 ⟨show(0:Int)≤(s9+s10)/(2:Int)+(1:Int)from by omega,show(s9+s10)/(2:Int)+(1:Int)≤s10 from by omega,show s10≤(↑x.length:Int)from by omega,trivial⟩ hf1,?_⟩;repeat (first|exact trivial|refine And.intro rfl ?_)
   ·have hm1:((s9+s10)/(2:Int)- s9).toNat<(s10 - s9).toNat:=by omega
    refine⟨[],(s9,(s9+s10)/(2:Int)),hm1,aS.next (s:=(s9,s10)) hc1 hm1 ⟨show(0:Int)≤s9 from by omega,show s9≤(s9+s10)/(2:Int)from by omega,show(s9+s10)/(2:Int)≤(↑x.length:Int)from by omega,trivial⟩ hf1,?_⟩;repeat (first|exact trivial|refine And.intro rfl ?_)
  ·rw[hf1]at hf0;refine .inl ⟨[(true,0),(true,1),(true,2),(true,3),(true,4),(true,5),(true,6),(true,7),(true,8),(true,9),(true,10),(false,11),(true,12),(true,13),(true,14),(true,15)],none,[1,2,3,4,5,6,7,8,9,10,11,12],by kernel_rfl,?_⟩;refine And.intro (show decide (s9<(↑x.length:Int))=((39:Nat),true).snd→(0:Int)≤s9∧s9<(↑x.length:Int)from by(intro h;simp at h;omega)) ?_;rw[hf0]at h;exact h
def eJ(l:List bS)(c:bS→bS→Int):Nat→Int→Bool⊕(Int)
 |0,s5=> .inr s5
 |n1+1,s5=>
  if s5<(l.length:Int)then
   if 0≤c (ix l (s5 - 1)) (ix l s5)then
    .inl false
   else
    eJ l c n1 (s5+1)
  else
   .inr s5
def jR(l:List bS)(c:bS→bS→Int):Bool:=
 match eJ l c (((l.length:Int)- 1).toNat+1) 1 with
 | .inl r=>r
 | .inr s5=>
  true
def NG:aW U:=⟨[.d (.sl (.st 10)),.f2 (.st 10) (.st 10)],fun xs es K=> ∃(l:List bS) (c:bS→bS→Int),xs= [(qN l),⟨false,[(1,.f2 (.st 10) (.st 10) c)]⟩]∧es= []∧K (.v (vb (jR l c))) []⟩
theorem NH:Fk 144 NG:=by
 refine fo Tryz.f144 [.d .bool] [] (ae) fun xs es K=>?_;rintro⟨l,c,rfl,rfl,h⟩;refine⟨rfl,?_⟩;have hf0:=jR.eq_1 l c;refine lI 0 (fun(s5:Int)=> [(0,.v (qN l)),(1,.v ⟨false,[(1,Cx.f2 (aZ.st (10:Nat)) (aZ.st (10:Nat)) c)]⟩),(4,.v (vb false)),(5,.v (vi s5))]) (fun(s5:Int)=> []) (fun(s5:Int)=>((l.length:Int)- s5).toNat) (fun(s5:Int)=>(1≤s5)∧True) (fun n1 (s5:Int)=>eJ l c n1 s5) (eJ l c (((l.length:Int)- 1).toNat+1) 1) [] (1:Int) ?_;rintro s5 ⟨n1,hc1,⟨hi1_0,-⟩,hf1⟩;have hf1:=hf1.trans (eJ.eq_2 l c s5 n1);refine fl (x:=l.length) fun _=>?_;refine wI hf1 (fun _ hf1=>?_) fun _ hf1=>e1;refine dp [(true,0),(true,1),(true,2),(true,3),(true,4),(true,5),(true,6),(true,7),(true,8),(true,9),(false,10),(true,11)] none (nw 0) ?_;refine fZ ?_;refine vx (s5 - 1) l ?_;refine vx s5 l ?_;refine wI hf1 (fun _ hf1=>e1) fun _ hf1=>?_;refine fZ ?_;exact nx [] (s5+1) hc1 hf1
def eK(l:List az)(c:az→az→Int):Nat→Int→Bool⊕(Int)
 |0,s5=> .inr s5
 |n1+1,s5=>
  if s5<(l.length:Int)then
   if 0≤c (ix l (s5 - 1)) (ix l s5)then
    .inl false
   else
    eK l c n1 (s5+1)
  else
   .inr s5
def jS(l:List az)(c:az→az→Int):Bool:=
 match eK l c (((l.length:Int)- 1).toNat+1) 1 with
 | .inl r=>r
 | .inr s5=>
  true
def NI:aW U:=⟨[.d (.sl (.st 4)),.f2 (.st 4) (.st 4)],fun xs es K=> ∃(l:List az) (c:az→az→Int),xs= [(nX l),⟨false,[(1,.f2 (.st 4) (.st 4) c)]⟩]∧es= []∧K (.v (vb (jS l c))) []⟩
theorem NJ:Fk 146 NI:=by
 refine fo Tryz.f146 [.d .bool] [] (ae) fun xs es K=>?_;rintro⟨l,c,rfl,rfl,h⟩;refine⟨rfl,?_⟩;have hf0:=jS.eq_1 l c;refine lI 0 (fun(s5:Int)=> [(0,.v (nX l)),(1,.v ⟨false,[(1,Cx.f2 (aZ.st (4:Nat)) (aZ.st (4:Nat)) c)]⟩),(4,.v (vb false)),(5,.v (vi s5))]) (fun(s5:Int)=> []) (fun(s5:Int)=>((l.length:Int)- s5).toNat) (fun(s5:Int)=>(1≤s5)∧True) (fun n1 (s5:Int)=>eK l c n1 s5) (eK l c (((l.length:Int)- 1).toNat+1) 1) [] (1:Int) ?_;rintro s5 ⟨n1,hc1,⟨hi1_0,-⟩,hf1⟩;have hf1:=hf1.trans (eK.eq_2 l c s5 n1);refine fl (x:=l.length) fun _=>?_;refine wI hf1 (fun _ hf1=>?_) fun _ hf1=>e1;refine dp [(true,0),(true,1),(true,2),(true,3),(true,4),(true,5),(true,6),(true,7),(true,8),(true,9),(false,10),(true,11)] none (nw 0) ?_;refine fZ ?_;refine vx (s5 - 1) l ?_;refine vx s5 l ?_;refine wI hf1 (fun _ hf1=>e1) fun _ hf1=>?_;refine fZ ?_;exact nx [] (s5+1) hc1 hf1
end Go.Proofs.YtmpeiadlohbikaaGreatDoor.V
end

section
set_option linter.unusedVariables false
set_option linter.unusedSimpArgs false
set_option maxRecDepth 20000
set_option maxHeartbeats 4000000
namespace Go.Proofs.YtmpeiadlohbikaaGreatDoor.V
open Go.RowKit
theorem tt{α:Type}(s:List α)(i:Int)(vs:List α):(hU s i vs).length=s.length+vs.length:=by
 unfold hU;simp only[List.length_append,List.length_take,List.length_drop];omega
theorem wq{α R:Type} [Inhabited α](x:List α)(c:α→Int)(L:Nat→Int→Int→R⊕(Int×Int))(h0: ∀i j,L 0 i j= .inr (i,j))(hL: ∀fuel i j,L (fuel+1) i j=if i<j then(if c (ix x ((i+j)/2))<0 then L fuel ((i+j)/2+1) j else L fuel i ((i+j)/2))else .inr (i,j)):
  ∀(fuel:Nat) (i j:Int),0≤i→i≤j→j≤x.length→ ∃q r:Int,L fuel i j= .inr (q,r)∧0≤q∧q≤x.length
 |0,i,j,h1,h2,h3=>⟨i,j,h0 i j,h1,by omega⟩
 |fuel+1,i,j,h1,h2,h3=>by
  rw[hL];split
  ·split
   ·exact wq x c L h0 hL fuel _ _ (by omega) (by omega) h3
   ·exact wq x c L h0 hL fuel _ _ h1 (by omega) (by omega)
  ·exact⟨i,j,rfl,h1,by omega⟩
theorem tu(x:List az)(t:az)(c:az→az→Int):0≤(eI x t c).1∧(eI x t c).1≤x.length:=by
 obtain⟨q,r,h,h1,h2⟩:=wq x (fun a=>c a t) (gJ x t c) (fun _ _=>rfl) (fun _ _ _=>rfl) (((x.length:Int)-(0:Int)).toNat+1) 0 x.length (by omega) (by omega) (by omega);unfold eI;rw[h];exact⟨h1,h2⟩
theorem tv(x:List bS)(t:az)(c:bS→az→Int):0≤(fq x t c).1∧(fq x t c).1≤x.length:=by
 obtain⟨q,r,h,h1,h2⟩:=wq x (fun a=>c a t) (gK x t c) (fun _ _=>rfl) (fun _ _ _=>rfl) (((x.length:Int)-(0:Int)).toNat+1) 0 x.length (by omega) (by omega) (by omega);unfold fq;rw[h];exact⟨h1,h2⟩
def mq(s:co)(t:az):Bool:=
 (eI s.gone t fun(t t':az)=>ap t t').snd
def Ru:aW U:=⟨[.d (.st 11),.d (.st 4)],fun xs es K=> ∃(s:co) (t:az),xs= [(ue s),(x8 t)]∧es= []∧(s.gone.length≤1000000)∧K (.v (vb (mq s t))) []⟩
theorem NK:Fk 88 Ru:=by
 refine fo Tryz.f88 [.d .bool] [] (aa zJ (aa NF ae)) fun xs es K=>?_;rintro⟨s,t,rfl,rfl,h2,h⟩;refine⟨rfl,?_⟩;have hf0:=mq.eq_1 s t;refine⟨fun(t t':az)=>ap t t',fun t0 t1=>⟨_,_,rfl,rfl,rfl,rfl⟩,?_⟩;refine⟨_,_,_,rfl,rfl,(by omega),?_⟩;exact e0
def kB(a:bS):Bool:=
 ec a.tag
def NL:aW U:=⟨[.d (.st 10)],fun xs es K=> ∃(a:bS),xs= [(vn a)]∧es= []∧K (.v (vb (kB a))) []⟩
theorem NM:Fk 143 NL:=by
 refine fo Tryz.f143 [.d .bool] [] (aa ME ae) fun xs es K=>?_;rintro⟨a,rfl,rfl,h⟩;refine⟨rfl,?_⟩;have hf0:=kB.eq_1 a;refine⟨_,rfl,rfl,?_⟩;exact e0
def kC(a:bS)(b:bS):Int:=
 fL a b.tag
def NN:aW U:=⟨[.d (.st 10),.d (.st 10)],fun xs es K=> ∃(a:bS) (b:bS),xs= [(vn a),(vn b)]∧es= []∧K (.v (vi (kC a b))) []⟩
theorem NO:Fk 145 NN:=by
 refine fo Tryz.f145 [.d (.int .i64)] [] (aa Qk ae) fun xs es K=>?_;rintro⟨a,b,rfl,rfl,h⟩;refine⟨rfl,?_⟩;have hf0:=kC.eq_1 a b;refine⟨_,_,rfl,rfl,?_⟩;exact e0
def kD(a:bS)(s:co):Bool:=
 !kA a.elem||mq s a.tag
def NP:aW U:=⟨[.d (.st 10),.n],fun xs es K=> ∃(a:bS) (s:co),xs= [(vn a),⟨false,[(1,.pd (.st 11) s)]⟩]∧es= []∧(s.gone.length≤1000000)∧K (.v (vb (kD a s))) []⟩
theorem NQ:Fk 147 NP:=by
 refine fo Tryz.f147 [.d .bool] [] (aa NC (aa NK ae)) fun xs es K=>?_;rintro⟨a,s,rfl,rfl,h2,h⟩;refine⟨rfl,?_⟩;have hf0:=kD.eq_1 a s;refine⟨_,rfl,rfl,?_⟩;refine⟨_,fun _=>⟨_,_,rfl,rfl,(by omega),rfl,rfl⟩,rfl,?_⟩;exact e0
def eL(s:co):Int:=
 if(4096<(s.adds.length:Int))∨(4096<(s.gone.length:Int))then
  8
 else
  if((fp s.adds fun(t:bS)=>kB t)=true)∨((cz s.gone fun(t:az)=>ec t)=true)then
   2
  else
   if(¬(((jR s.adds fun(t t':bS)=>kC t t')=true)∧((jS s.gone fun(t t':az)=>ap t t')=true)))∨((fp s.adds fun(t:bS)=>kD t s)=true)then
    3
   else
    0
def Rw:aW U:=⟨[.d (.st 11)],fun xs es K=> ∃(s:co),xs= [(ue s)]∧es= []∧(s.gone.length≤1000000)∧((fun(r0:Int)=>r0=0→s.adds.length≤4096∧s.gone.length≤4096) (eL s)→K (.v (vi (eL s))) [])⟩
theorem MF:Fk 73 Rw:=by
 refine fo Tryz.f73 [.d (.int .i64)] [] (aa JN (aa zJ (aa ME (aa NE (aa NM (aa NH (aa NO (aa NJ (aa NQ ae))))))))) fun xs es K=>?_;rintro⟨s,rfl,rfl,h2,h⟩;refine⟨rfl,?_⟩;have hf0:=eL.eq_1 s;refine fl (x:=s.adds.length) fun _=>?_;refine wI hf0 (fun _ hf0=>?_) fun _ hf0=>?_
 ·rw[hf0]at h;exact h (by omega)
 ·refine⟨fun(t:bS)=>kB t,fun t0=>⟨_,rfl,rfl,rfl,rfl⟩,?_⟩;refine⟨_,_,rfl,rfl,?_⟩;refine⟨_,fun h2=>⟨fun(t:az)=>ec t,fun t0=>⟨_,rfl,rfl,rfl,rfl⟩,_,_,rfl,rfl,rfl,rfl⟩,rfl,?_⟩;refine wI hf0 (fun _ hf0=>?_) fun _ hf0=>?_
  ·rw[hf0]at h;exact h (by omega)
  ·refine⟨fun(t t':bS)=>kC t t',fun t0 t1=>⟨_,_,rfl,rfl,rfl,rfl⟩,?_⟩;refine⟨_,_,rfl,rfl,?_⟩;refine⟨_,fun _=>⟨fun(t t':az)=>ap t t',fun t0 t1=>⟨_,_,rfl,rfl,rfl,rfl⟩,_,_,rfl,rfl,rfl,rfl⟩,rfl,?_⟩;refine⟨_,fun _=>⟨fun(t:bS)=>kD t s,fun t0=>⟨_,_,rfl,rfl,(by omega),rfl,rfl⟩,_,_,rfl,rfl,rfl,rfl⟩,rfl,?_⟩;refine wI hf0 (fun _ hf0=>?_) fun _ hf0=>?_
   ·rw[hf0]at h;exact h (by omega)
   ·rw[hf0]at h;exact h (by omega)
def jT(s:co)(a:bS):co×Int:=
 if eL s=0 then
  if ec a.tag=true then
   (co.mk [] [],2)
  else
   if kA a.elem=true then
    if(((fq s.adds a.tag fun(t:bS) (t':az)=>fL t t').snd)=true)∨(mq s a.tag=true)then
     (co.mk s.adds s.gone,0)
    else
     if(s.adds.length:Int)=4096 then
      (co.mk [] [],4)
     else
      (co.mk (hU s.adds (fq s.adds a.tag fun(t:bS) (t':az)=>fL t t').fst [a]) s.gone,0)
   else
    (co.mk [] [],3)
 else
  (co.mk [] [],eL s)
def Rx:aW U:=⟨[.d (.st 11),.d (.st 10)],fun xs es K=> ∃(s:co) (a:bS),xs= [(ue s),(vn a)]∧es= []∧(s.adds.length≤1000000)∧(s.gone.length≤1000000)∧((fun(r0:co) (r1:Int)=>r0.adds.length≤4097∧r0.gone.length≤4097) ((jT s a).1) ((jT s a).2)→K (.tup [(ue ((jT s a).1)),(vi ((jT s a).2))]) [])⟩
theorem Ry:Fk 37 Rx:=by
 refine fo Tryz.f37 [.d (.st 11),.d (.int .i64)] [] (aa NC (aa MF (aa OC (aa OB (aa ME (aa Rt (aa Qk (aa NK (aa SM ae))))))))) fun xs es K=>?_;rintro⟨s,a,rfl,rfl,h1,h2,h⟩;refine⟨rfl,?_⟩;have hf0:=jT.eq_1 s a;refine⟨_,rfl,rfl,(by omega),?_⟩;refine fun _=>?_;refine wN hf0 (fun h1 hf0=>?_) fun h1 hf0=>?_
 ·rw[hf0]at h;exact h (by simp)
 ·refine⟨_,rfl,rfl,?_⟩;refine wI hf0 (fun h2 hf0=>?_) fun h2 hf0=>?_
  ·rw[hf0]at h;exact h (by simp)
  ·refine⟨_,rfl,rfl,?_⟩;refine wN hf0 (fun _ hf0=>?_) fun _ hf0=>?_
   ·rw[hf0]at h;exact h (by simp)
   ·refine⟨fun(t:bS) (t':az)=>fL t t',fun t0 t1=>⟨_,_,rfl,rfl,rfl,rfl⟩,?_⟩;refine⟨_,_,_,rfl,rfl,(by omega),?_⟩;refine .inr ⟨(.look 0 (.look 1 (.look 3 (.look 4 (.turn 2 (.turn 5 (.look 6 (.turn 7 .fin .nil)) (.turn 7 (.turn 5 (.look 6 .fin) .nil) .nil)) (.turn 7 (.turn 2 (.turn 5 (.look 6 .fin) .nil) .nil) .nil)))))),some 8,[],6,[(2,.v ⟨false,[(1,.ptr 0 0)]⟩),(3,.v ⟨false,[(1,.ptr 1 0)]⟩),(4,.v ⟨false,[(1,.ptr 2 0)]⟩),(5,.v ⟨false,[(1,.d (.int .i64) (0:Int))]⟩),(7,.v ⟨false,[(1,.d (.int .i64) ((fq s.adds a.tag fun(t:bS) (t':az)=>fL t t').fst))]⟩),(8,.v ⟨false,[(1,.d .bool ((fq s.adds a.tag fun(t:bS) (t':az)=>fL t t').snd))]⟩),(9,.v ⟨false,[(1,.ptr 5 0)]⟩)],[(0,.cells [(2,.d (.st 11) s)] 38),(1,.cells [(4,.d (.st 10) a)] 128),(2,.cells [(1,.nils),(1,.nils)] 38),(3,.row 0 (.st 10) s.adds 128),(4,.row 0 (.st 4) s.gone 61),(5,.cells [(1,.own 3 0),(1,.own 4 0)] 38)],True,by kernel_rfl,?_,?_⟩
    ·refine And.intro ?_ ?_
     ·refine⟨_,rfl,rfl,(by assumption),?_⟩;refine And.intro ?_ ?_
      ·refine⟨_,rfl,rfl,(by assumption),?_⟩;refine And.intro ?_ trivial;refine⟨trivial,[],?_⟩;repeat (first|exact trivial|refine And.intro rfl ?_)
      refine And.intro ?_ trivial;refine And.intro ?_ trivial;refine⟨_,rfl,rfl,(by assumption),?_⟩;refine⟨trivial,[(5,4),(4,5)],?_⟩;repeat (first|exact trivial|refine And.intro rfl ?_)
     refine And.intro ?_ trivial;refine And.intro ?_ trivial;refine⟨_,rfl,rfl,(by assumption),?_⟩;refine And.intro ?_ trivial;refine⟨_,rfl,rfl,(by assumption),?_⟩;refine⟨trivial,[(5,3),(3,4),(4,5)],?_⟩;repeat (first|exact trivial|refine And.intro rfl ?_)
    refine fun _=>?_;refine⟨_,fun _=>⟨_,_,rfl,rfl,(by omega),rfl,rfl⟩,rfl,?_⟩;refine wI hf0 (fun _ hf0=>?_) fun _ hf0=>?_
    ·rw[hf0]at h;exact h (by(dsimp only;omega))
    ·refine fl (x:=s.adds.length) fun _=>?_;refine wI hf0 (fun _ hf0=>?_) fun _ hf0=>?_
     ·rw[hf0]at h;exact h (by simp)
     ·refine⟨_,_,_,rfl,rfl,((tv _ _ _).1),((tv _ _ _).2),(by assumption),?_⟩;rw[hf0]at h;exact h (by(dsimp only;rw[tt];simp only[List.length_cons,List.length_nil];omega))
def mr(a:bS)(out:co):Bool:=
 mq out a.tag
def RA:aW U:=⟨[.d (.st 10),.n],fun xs es K=> ∃(a:bS) (out:co),xs= [(vn a),⟨false,[(1,.pd (.st 11) out)]⟩]∧es= []∧(out.gone.length≤1000000)∧K (.v (vb (mr a out))) []⟩
theorem RB:Fk 94 RA:=by
 refine fo Tryz.f94 [.d .bool] [] (aa NK ae) fun xs es K=>?_;rintro⟨a,out,rfl,rfl,h2,h⟩;refine⟨rfl,?_⟩;have hf0:=mr.eq_1 a out;refine⟨_,_,rfl,rfl,(by omega),?_⟩;exact e0
end Go.Proofs.YtmpeiadlohbikaaGreatDoor.V
end

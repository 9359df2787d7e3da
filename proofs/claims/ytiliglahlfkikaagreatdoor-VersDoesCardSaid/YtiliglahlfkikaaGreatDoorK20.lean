/- Plain laws: names, and the checks of sets and maps: the program's are the document's. -/
import Derived.Test.YtiliglahlfkikaaGreatDoorK18
import Derived.Test.YtiliglahlfkikaaGreatDoorK14
import Derived.Test.YtiliglahlfkikaaGreatDoorK3
import Derived.Test.YtiliglahlfkikaaGreatDoorK19
section
set_option linter.unusedVariables false
set_option linter.unusedSimpArgs false
set_option maxRecDepth 20000
set_option maxHeartbeats 4000000
namespace Go.Proofs.YtiliglahlfkikaaGreatDoor.V
open Go.RowKit
def gl(v:List Int):Nat→Int→Int⊕(Int)
 |0,s3=> .inr s3
 |n1+1,s3=>
  if s3<8 then
   if 1048576<ix v s3 then
    .inl 2
   else
    gl v n1 (s3+1)
  else
   .inr s3
def dz(v:List Int):Int:=
 match gl v (((8:Int)-(0:Int)).toNat+1) (0:Int)with
 | .inl r=>r
 | .inr s3=>
  0
def PN:bf U:=⟨[.d (.arr 8 (.int .u32))],fun xs es K=> ∃(v:List Int),xs= [(ic v)]∧es= []∧K (.v (vi (dz v))) []⟩
theorem PO:Fk 48 PN:=by
 refine fo Tryz.f48 [.d (.int .i64)] [] (ah) fun xs es K=>?_;rintro⟨v,rfl,rfl,h⟩;refine⟨rfl,?_⟩;have hf0:=dz.eq_1 v;refine lI 1 (fun(s3:Int)=> [(1,.v (vp 0)),(2,.v (vi 0)),(3,.v (vi s3))]) (fun(s3:Int)=> [(0,.cells [(8,.d (.arr 8 (.int .u32)) v)] 41)]) (fun(s3:Int)=>(8 - s3).toNat) (fun(s3:Int)=>(0≤s3)∧(s3≤8)∧True) (fun n1 (s3:Int)=>gl v n1 s3) (gl v (((8:Int)-(0:Int)).toNat+1) (0:Int)) [] (0:Int) ?_;rintro s3 ⟨n1,hc1,⟨hi1_0,hi1_1,-⟩,hf1⟩;have hf1:=hf1.trans (gl.eq_2 v s3 n1);refine wI hf1 (fun _ hf1=>?_) fun _ hf1=>e1;refine vs (P:=0≤s3∧s3<((8:Nat):Int)) ?_;refine wI hf1 (fun _ hf1=>e1) fun _ hf1=>?_;refine bY ?_;exact nx [] (s3+1) hc1 hf1
def kD(a:List Int)(b:List Int):Nat→Int→Bool⊕(Int)
 |0,s5=> .inr s5
 |n1+1,s5=>
  if s5<8 then
   if ix b s5<ix a s5 then
    .inl false
   else
    kD a b n1 (s5+1)
  else
   .inr s5
def mt(a:List Int)(b:List Int):Bool:=
 match kD a b (((8:Int)-(0:Int)).toNat+1) (0:Int)with
 | .inl r=>r
 | .inr s5=>
  true
def PP:bf U:=⟨[.d (.arr 8 (.int .u32)),.d (.arr 8 (.int .u32))],fun xs es K=> ∃(a:List Int) (b:List Int),xs= [(ic a),(ic b)]∧es= []∧K (.v (vb (mt a b))) []⟩
theorem PQ:Fk 49 PP:=by
 refine fo Tryz.f49 [.d .bool] [] (ah) fun xs es K=>?_;rintro⟨a,b,rfl,rfl,h⟩;refine⟨rfl,?_⟩;have hf0:=mt.eq_1 a b;refine lI 2 (fun(s5:Int)=> [(2,.v (vp 0)),(3,.v (vp 1)),(4,.v (vb false)),(5,.v (vi s5))]) (fun(s5:Int)=> [(0,.cells [(8,.d (.arr 8 (.int .u32)) a)] 41),(1,.cells [(8,.d (.arr 8 (.int .u32)) b)] 41)]) (fun(s5:Int)=>(8 - s5).toNat) (fun(s5:Int)=>(0≤s5)∧(s5≤8)∧True) (fun n1 (s5:Int)=>kD a b n1 s5) (kD a b (((8:Int)-(0:Int)).toNat+1) (0:Int)) [] (0:Int) ?_;rintro s5 ⟨n1,hc1,⟨hi1_0,hi1_1,-⟩,hf1⟩;have hf1:=hf1.trans (kD.eq_2 a b s5 n1);refine wI hf1 (fun _ hf1=>?_) fun _ hf1=>e1;refine dp (up 7) none (nw 2) ?_;refine vs (P:=0≤s5∧s5<((8:Nat):Int)) ?_;refine vs (P:=0≤s5∧s5<((8:Nat):Int)) ?_;refine wI hf1 (fun _ hf1=>e1) fun _ hf1=>?_;refine bY ?_;exact nx [] (s5+1) hc1 hf1
def j5(b:List Int):Nat→Int→(List Int)→(List Int)⊕(Int×(List Int))
 |0,s5,s2_0=> .inr (s5,s2_0)
 |n1+1,s5,s2_0=>
  if s5<8 then
   j5 b n1 (s5+1) (s2_0.set s5.toNat (max (ix s2_0 s5) (ix b s5)))
  else
   .inr (s5,s2_0)
def uf(a:List Int)(b:List Int):List Int:=
 match j5 b (((8:Int)-(0:Int)).toNat+1) (0:Int) a with
 | .inl r=>r
 | .inr (s5,s2_0)=>
  s2_0
def PR:bf U:=⟨[.d (.arr 8 (.int .u32)),.d (.arr 8 (.int .u32))],fun xs es K=> ∃(a:List Int) (b:List Int),xs= [(ic a),(ic b)]∧es= []∧K (.v (ic (uf a b))) []⟩
theorem OV:Fk 27 PR:=by
 refine fo Tryz.f27 [.d (.arr 8 (.int .u32))] [] (ah) fun xs es K=>?_;rintro⟨a,b,rfl,rfl,h⟩;refine⟨rfl,?_⟩;have hf0:=uf.eq_1 a b;refine⟨Int×(List Int),3,fun(s5,s2_0)=> [(2,.v ⟨false,[(1,.ptr 0 0)]⟩),(3,.v ⟨false,[(1,.ptr 1 0)]⟩),(4,.v ⟨false,[(1,.ptr 2 0)]⟩),(5,.v ⟨false,[(1,.d (.int .i64) s5)]⟩)],fun(s5,s2_0)=> [(0,.cells [(8,.d (.arr 8 (.int .u32)) s2_0)] 41),(1,.cells [(8,.d (.arr 8 (.int .u32)) b)] 41),(2,.cells [(1,.d (.int .u32) (0:Int)),(1,.d (.int .u32) (0:Int)),(1,.d (.int .u32) (0:Int)),(1,.d (.int .u32) (0:Int)),(1,.d (.int .u32) (0:Int)),(1,.d (.int .u32) (0:Int)),(1,.d (.int .u32) (0:Int)),(1,.d (.int .u32) (0:Int))] 41)],d5 (fun(s5,s2_0)=>((8:Int)- s5).toNat) (fun(s5,s2_0)=>((0:Int)≤s5)∧(s5≤(8:Int))∧True) (fun n1 (s5,s2_0)=>j5 b n1 s5 s2_0) (j5 b (((8:Int)-(0:Int)).toNat+1) (0:Int) a),fun(s5,s2_0)=>((8:Int)- s5).toNat,⟨[],((0:Int),a),d5.mk0 _ (Nat.lt_succ_self _) ⟨show(0:Int)≤(0:Int)from by omega,show(0:Int)≤(8:Int)from by omega,trivial⟩ rfl,?_⟩,?_⟩
 ·repeat (first|exact trivial|refine And.intro rfl ?_)
 ·rintro⟨s5,s2_0⟩ ⟨n1,hc1,⟨hi1_0,hi1_1,-⟩,hf1⟩;have hf1:=hf1.trans (j5.eq_2 b s5 s2_0 n1);refine vI hf1 iD (fun _ hf1=>?_) (fun _ hf1=>?_)
  ·refine .inl ⟨[(true,0),(true,1),(true,2),(true,3),(true,4),(true,5),(true,6),(true,7),(true,8)],some 9,[3,4,5,6,7,8,9,10,11,12,13,14],by kernel_rfl,?_⟩;refine And.intro (show(0:Int)≤s5∧s5<(↑(8:Nat):Int)from by omega) ?_;refine And.intro (show(0:Int)≤s5∧s5<(↑(8:Nat):Int)from by omega) ?_;refine And.intro (show(0:Int)≤s5∧s5<(↑(8:Nat):Int)from by omega) ?_;refine .inl (And.intro (rD (p:=s5) (q:=(1:Int)) (r:=s5+(1:Int)) (by omega)) ?_);have hm1:((8:Int)-(s5+(1:Int))).toNat<((8:Int)- s5).toNat:=by omega
   refine⟨[],(s5+(1:Int),s2_0.set s5.toNat (max (ix s2_0 s5) (ix b s5))),hm1,d5.next (s:=(s5,s2_0)) hc1 hm1 ⟨show(0:Int)≤s5+(1:Int)from by omega,show s5+(1:Int)≤(8:Int)from by omega,trivial⟩ hf1,?_⟩;repeat (first|exact trivial|refine And.intro rfl ?_)
  ·rw[hf1]at hf0;rw[hf0]at h;exact h
def cc(v:List Int)(id:kW):Bool:=
 decide (d6 id=0)&&decide (id.seq≤ix v id.origin)
def PS:bf U:=⟨[.d (.arr 8 (.int .u32)),.d (.st 0)],fun xs es K=> ∃(v:List Int) (id:kW),xs= [(ic v),(BH id)]∧es= []∧K (.v (vb (cc v id))) []⟩
theorem GY:Fk 26 PS:=by
 refine fo Tryz.f26 [.d .bool] [] (aa OS ah) fun xs es K=>?_;rintro⟨v,id,rfl,rfl,h⟩;refine⟨rfl,?_⟩;have hf0:=cc.eq_1 v id;refine dp [(true,0),(false,1),(true,2),(true,3),(true,4),(true,5),(true,6),(true,7),(true,8),(true,9),(true,10),(true,11),(true,12)] none (nw 2) ?_;refine⟨_,rfl,rfl,?_⟩;refine And.intro (show decide (d6 id=(0:Int))=((8:Nat),true).snd→(0:Int)≤id.origin∧id.origin<(↑(8:Nat):Int)from(fun h=>⟨(pB (of_decide_eq_true h)).1,by have:=(pB (of_decide_eq_true h)).2.1;simp;omega⟩)) ?_;exact e0
def ea(a:au)(b:au):Int:=
 if(a.time<b.time)∨((a.time=b.time)∧(a.origin<b.origin))then
  (-1)
 else
  if a=b then
   0
  else
   1
def M4:bf U:=⟨[.d (.st 2),.d (.st 2)],fun xs es K=> ∃(a:au) (b:au),xs= [(Ex a),(Ex b)]∧es= []∧K (.v (vi (ea a b))) []⟩
theorem M5:Fk 194 M4:=by
 refine fo Tryz.f194 [.d (.int .i64)] [] (ah) fun xs es K=>?_;rintro⟨a,b,rfl,rfl,h⟩;refine⟨rfl,?_⟩;have hf0:=ea.eq_1 a b;exact wI hf0 (fun _ hf0=>e0) fun _ hf0=>wI hf0 (fun _ hf0=>e0) fun _ hf0=>e0
def jn(a:bi)(b:bi):bi:=
 if(0<ea a.at_ b.at_)∨((ea a.at_ b.at_=0)∧(b.val≤a.val))then
  a
 else
  b
def M6:bf U:=⟨[.d (.st 5),.d (.st 5)],fun xs es K=> ∃(a:bi) (b:bi),xs= [(yO a),(yO b)]∧es= []∧K (.v (yO (jn a b))) []⟩
theorem M7:Fk 152 M6:=by
 refine fo Tryz.f152 [.d (.st 5)] [] (aa M5 ah) fun xs es K=>?_;rintro⟨a,b,rfl,rfl,h⟩;refine⟨rfl,?_⟩;have hf0:=jn.eq_1 a b;refine⟨_,_,rfl,rfl,?_⟩;exact wI hf0 (fun _ hf0=>e0) fun _ hf0=>e0
def fb(s:bi)(val:Int)(tm:au):bi×Int:=
 if((¬cx s.at_=0)∨(¬cx tm=0))∨(tm.time=0)then
  (bi.mk 0 (au.mk 0 0),2)
 else
  (jn s (bi.mk val tm),0)
def PT:bf U:=⟨[.d (.st 5),.d (.int .i64),.d (.st 2)],fun xs es K=> ∃(s:bi) (val:Int) (tm:au),xs= [(yO s),(vi val),(Ex tm)]∧es= []∧K (.tup [(yO ((fb s val tm).1)),(vi ((fb s val tm).2))]) []⟩
theorem PU:Fk 91 PT:=by
 refine fo Tryz.f91 [.d (.st 5),.d (.int .i64)] [] (aa LW (aa M7 ah)) fun xs es K=>?_;rintro⟨s,val,tm,rfl,rfl,h⟩;refine⟨rfl,?_⟩;have hf0:=fb.eq_1 s val tm;refine⟨_,rfl,rfl,?_⟩;refine⟨_,fun _=>⟨_,rfl,rfl,rfl,rfl⟩,rfl,?_⟩;refine wI hf0 (fun _ hf0=>e0) fun _ hf0=>?_;refine⟨_,_,rfl,rfl,?_⟩;exact e0
def da(s:be):Int:=
 if(((s.plus<0)∨(1125899906842624<s.plus))∨(s.minus<0))∨(1125899906842624<s.minus)then
  2
 else
  0
def M8:bf U:=⟨[.d (.st 6)],fun xs es K=> ∃(s:be),xs= [(FB s)]∧es= []∧K (.v (vi (da s))) []⟩
theorem M9:Fk 153 M8:=by
 refine fo Tryz.f153 [.d (.int .i64)] [] (ah) fun xs es K=>?_;rintro⟨s,rfl,rfl,h⟩;refine⟨rfl,?_⟩;have hf0:=da.eq_1 s;exact wI hf0 (fun _ hf0=>e0) fun _ hf0=>e0
def fc(s:be)(n:Int):be×Int:=
 if((¬da s=0)∨(n<(-1073741824)))∨(1073741824<n)then
  (be.mk 0 0,2)
 else
  if 0≤n then
   if da (be.mk (IntKind.i64.wrap (s.plus+n)) s.minus)=0 then
    (be.mk (IntKind.i64.wrap (s.plus+n)) s.minus,0)
   else
    (be.mk 0 0,12)
  else
   if da (be.mk s.plus (IntKind.i64.wrap (s.minus - n)))=0 then
    (be.mk s.plus (IntKind.i64.wrap (s.minus - n)),0)
   else
    (be.mk 0 0,12)
def PV:bf U:=⟨[.d (.st 6),.d (.int .i64)],fun xs es K=> ∃(s:be) (n:Int),xs= [(FB s),(vi n)]∧es= []∧K (.tup [(FB ((fc s n).1)),(vi ((fc s n).2))]) []⟩
theorem PW:Fk 92 PV:=by
 refine fo Tryz.f92 [.d (.st 6),.d (.int .i64)] [] (aa M9 ah) fun xs es K=>?_;rintro⟨s,n,rfl,rfl,h⟩;refine⟨rfl,?_⟩;have hf0:=fc.eq_1 s n;refine⟨_,rfl,rfl,?_⟩;refine wI hf0 (fun _ hf0=>e0) fun _ hf0=>?_;refine wI hf0 (fun _ hf0=>?_) fun _ hf0=>?_
 ·refine .inr ?_;refine⟨_,rfl,rfl,?_⟩;exact wN hf0 (fun _ hf0=>e0) fun _ hf0=>e0
 ·refine .inr ?_;refine⟨_,rfl,rfl,?_⟩;exact wN hf0 (fun _ hf0=>e0) fun _ hf0=>e0
def gV(s:aC)(a:aT):Nat→Int→(aC×Int)⊕(Int)
 |0,s7=> .inr s7
 |n1+1,s7=>
  if(s7<(s.adds.length:Int))∧(aG (ix s.adds s7).tag a.tag<0)then
   gV s a n1 (s7+1)
  else
   .inr s7
def fX(s:aC)(a:aT):aC×Int:=
 if cK s=0 then
  if ay a.tag=0 then
   if cy a.elem=true then
    if(aX s.gone a.tag=true)∨(aX (ck s.adds) a.tag=true)then
     (s,0)
    else
     if(s.adds.length:Int)=4096 then
      (aC.mk [] [],4)
     else
      match gV s a (((s.adds.length:Int)- 0).toNat+1) 0 with
      | .inl r=>r
      | .inr s7=>
       (aC.mk (List.take s7.toNat s.adds++ [a]++List.drop s7.toNat s.adds) s.gone,0)
   else
    (aC.mk [] [],3)
  else
   (aC.mk [] [],2)
 else
  (aC.mk [] [],cK s)
def PX:bf U:=⟨[.d (.st 8),.d (.st 7)],fun xs es K=> ∃(s:aC) (a:aT),xs= [(rx s),(FC a)]∧es= []∧(s.adds.length≤1000000)∧(s.gone.length≤1000000)∧((fun(r0:aC) (r1:Int)=>r0.adds.length≤4097∧r0.gone.length≤4097) ((fX s a).1) ((fX s a).2)→K (.tup [(rx ((fX s a).1)),(vi ((fX s a).2))]) [])⟩
theorem PY:Fk 93 PX:=by
 refine fo Tryz.f93 [.d (.st 8),.d (.int .i64)] [] (aa GO (aa I8 (aa C3 (aa GP (aa vQ (aa I9 ah)))))) fun xs es K=>?_;rintro⟨s,a,rfl,rfl,h1,h2,h⟩;refine⟨rfl,?_⟩;have hf0:=fX.eq_1 s a;refine⟨_,rfl,rfl,(by omega),?_⟩;refine fun _=>?_;refine wN hf0 (fun h1 hf0=>?_) fun h1 hf0=>?_
 ·rw[hf0]at h;exact h (by simp)
 ·refine⟨_,rfl,rfl,?_⟩;refine wN hf0 (fun h2 hf0=>?_) fun h2 hf0=>?_
  ·rw[hf0]at h;exact h (by simp)
  ·refine⟨_,rfl,rfl,?_⟩;refine wN hf0 (fun _ hf0=>?_) fun _ hf0=>?_
   ·rw[hf0]at h;exact h (by simp)
   ·refine dp [(true,0),(true,1),(true,2),(true,3),(false,4),(true,5),(true,6),(true,7),(true,9),(true,10),(false,8),(false,11),(true,12),(true,13)] none (nw 3) ?_;refine⟨_,_,rfl,rfl,?_⟩;refine⟨_,fun _=>⟨_,rfl,rfl,(by omega),rfl,rfl⟩,rfl,?_⟩;refine⟨_,fun _=>⟨_,_,rfl,rfl,rfl,rfl⟩,rfl,?_⟩;refine wI hf0 (fun _ hf0=>?_) fun _ hf0=>?_
    ·rw[hf0]at h;exact h (show((fun(r0:aC) (r1:Int)=>r0.adds.length≤4097∧r0.gone.length≤4097) s (0:Int):Prop)from by omega)
    ·refine fl (x:=s.adds.length) fun _=>?_;refine wI hf0 (fun _ hf0=>?_) fun _ hf0=>?_
     ·rw[hf0]at h;exact h (by simp)
     ·refine lI 3 (fun(s7:Int)=> [(2,.v (vp 0)),(3,.v (vp 1)),(4,.v (vp 2)),(5,.v (vi 0)),(7,.v (vi s7))]) (fun(s7:Int)=> [(0,.cells [(2,.d (.st 8) s)] 70),(1,.cells [(4,.d (.st 7) a)] 178),(2,.cells [(1,.nils),(1,.nils)] 70)]) (fun(s7:Int)=>((s.adds.length:Int)- s7).toNat) (fun(s7:Int)=>(0≤s7)∧(s7≤(s.adds.length:Int))∧True) (fun n1 (s7:Int)=>gV s a n1 s7) (gV s a (((s.adds.length:Int)- 0).toNat+1) 0) [] (0:Int) ?_;rintro s7 ⟨n1,hc1,⟨hi1_0,hi1_1,-⟩,hf1⟩;have hf1:=hf1.trans (gV.eq_2 s a s7 n1);refine dp [(true,0),(true,1),(true,2),(true,3),(true,4),(true,5),(true,6),(true,7),(true,8),(true,9),(true,10),(true,11),(true,12),(true,13),(false,14),(true,15),(true,16)] none (nw 3) ?_;refine fl (x:=s.adds.length) fun _=>?_;refine vs (P:=decide (s7<(s.adds.length:Int))=((54:Nat),true).snd→0≤s7∧s7<(s.adds.length:Int)) ?_ (by(intro h;simp at h;omega));refine⟨_,fun _=>⟨_,_,rfl,rfl,rfl,rfl⟩,rfl,?_⟩;refine wI hf1 (fun _ hf1=>?_) fun _ hf1=>?_
      ·refine bY ?_;exact nx [] (s7+1) hc1 hf1
      ·rw[hf1]at hf0;refine vs (P:=(0:Int)≤(0:Int)∧(0:Int)≤s7∧s7≤(s.adds.length:Int)) ?_;refine vs (P:=((0:Nat)+(List.take s7.toNat s.adds).length)*(40:Nat)≤(140737488355328:Nat)) ?_ (by(simp;omega));refine vs (P:=((List.take s7.toNat s.adds).length+ [a].length)*(40:Nat)≤(140737488355328:Nat)) ?_ (by(simp;omega));refine dp [(true,0),(true,1),(true,2),(true,3),(true,4),(true,6),(true,7),(false,5),(true,8),(false,9),(true,10)] none (2::3::nw 5) ?_;refine vs (P:=0≤s7∧s7≤(s.adds.length:Int)∧(s.adds.length:Int)≤(s.adds.length:Int)) ?_;refine vs (P:=((List.take s7.toNat s.adds++ [a]).length+(List.drop s7.toNat s.adds).length)*(40:Nat)≤(140737488355328:Nat)) ?_ (by(simp;omega));rw[hf0]at h;exact h (by(simp;omega))
def gm(l:List ae)(t:ae):Nat→Int→(List ae)⊕(Int)
 |0,s5=> .inr s5
 |n1+1,s5=>
  if(s5<(l.length:Int))∧(aG (ix l s5) t<0)then
   gm l t n1 (s5+1)
  else
   .inr s5
def bR(l:List ae)(t:ae):List ae:=
 if aX l t=true then
  l
 else
  match gm l t (((l.length:Int)- 0).toNat+1) 0 with
  | .inl r=>r
  | .inr s5=>
   List.take s5.toNat l++ [t]++List.drop s5.toNat l
def Na:bf U:=⟨[.d (.sl (.st 1)),.d (.st 1)],fun xs es K=> ∃(l:List ae) (t:ae),xs= [(gM l),(qF t)]∧es= []∧(l.length≤1000000)∧((fun(r0:List ae)=>r0.length≤l.length+1) (bR l t)→K (.v (gM (bR l t))) [])⟩
theorem Nb:Fk 158 Na:=by
 refine fo Tryz.f158 [.d (.sl (.st 1))] [] (aa GO (aa vQ ah)) fun xs es K=>?_;rintro⟨l,t,rfl,rfl,hl,h⟩;refine⟨rfl,?_⟩;have hf0:=bR.eq_1 l t;refine⟨_,_,rfl,rfl,?_⟩;refine wI hf0 (fun _ hf0=>?_) fun _ hf0=>?_
 ·rw[hf0]at h;exact h (by omega)
 ·refine lI 1 (fun(s5:Int)=> [(0,.v (gM l)),(3,.v (vp 0)),(4,.v ⟨false,[(1,.nils)]⟩),(5,.v (vi s5))]) (fun(s5:Int)=> [(0,.cells [(3,.d (.st 1) t)] 34)]) (fun(s5:Int)=>((l.length:Int)- s5).toNat) (fun(s5:Int)=>(0≤s5)∧(s5≤(l.length:Int))∧True) (fun n1 (s5:Int)=>gm l t n1 s5) (gm l t (((l.length:Int)- 0).toNat+1) 0) [] (0:Int) ?_;rintro s5 ⟨n1,hc1,⟨hi1_0,hi1_1,-⟩,hf1⟩;have hf1:=hf1.trans (gm.eq_2 l t s5 n1);refine dp [(true,0),(true,1),(true,2),(true,3),(true,4),(true,5),(true,6),(true,7),(true,8),(true,9),(false,10),(true,11),(true,12)] none (nw 1) ?_;refine fl (x:=l.length) fun _=>?_;refine vs (P:=decide (s5<(l.length:Int))=((15:Nat),true).snd→0≤s5∧s5<(l.length:Int)) ?_ (by(intro h;simp at h;omega));refine⟨_,fun _=>⟨_,_,rfl,rfl,rfl,rfl⟩,rfl,?_⟩;refine wI hf1 (fun _ hf1=>?_) fun _ hf1=>?_
  ·refine bY ?_;exact nx [] (s5+1) hc1 hf1
  ·rw[hf1]at hf0;refine vs (P:=(0:Int)≤(0:Int)∧(0:Int)≤s5∧s5≤(l.length:Int)) ?_;refine vs (P:=((0:Nat)+(List.take s5.toNat l).length)*(24:Nat)≤(140737488355328:Nat)) ?_ (by(simp;omega));refine vs (P:=((List.take s5.toNat l).length+ [t].length)*(24:Nat)≤(140737488355328:Nat)) ?_ (by(simp;omega));refine vs (P:=0≤s5∧s5≤(l.length:Int)∧(l.length:Int)≤(l.length:Int)) ?_;refine vs (P:=((List.take s5.toNat l++ [t]).length+(List.drop s5.toNat l).length)*(24:Nat)≤(140737488355328:Nat)) ?_ (by(simp;omega));rw[hf0]at h;exact h (by(simp;omega))
def fe(s:aC)(l:List ae)(s7_1:List ae):Nat→Int→(List aT)→(aC×Int)⊕(Int×(List aT))
 |0,s9,e3=> .inr (s9,e3)
 |n2+1,s9,e3=>
  if s9<(s.adds.length:Int)then
   if aX l (ix s.adds s9).tag=true then
    fe s l s7_1 n2 (s9+1) e3
   else
    fe s l s7_1 n2 (s9+1) (e3++ [ix s.adds s9])
  else
   .inr (s9,e3)
def gW(s:aC)(l:List ae):Nat→Int→(List ae)→(aC×Int)⊕(Int×(List ae))
 |0,s8,s7_1=> .inr (s8,s7_1)
 |n1+1,s8,s7_1=>
  if s8<(l.length:Int)then
   gW s l n1 (s8+1) (bR s7_1 (ix l s8))
  else
   .inr (s8,s7_1)
def cz(s:aC)(l:List ae):aC×Int:=
 if cK s=0 then
  if 4096<(l.length:Int)then
   (aC.mk [] [],8)
  else
   if aQ l=true then
    match gW s l (((l.length:Int)- 0).toNat+1) 0 s.gone with
    | .inl r=>r
    | .inr (s8,s7_1)=>
     if 4096<(s7_1.length:Int)then
      (aC.mk [] [],4)
     else
      match fe s l s7_1 (((s.adds.length:Int)- 0).toNat+1) 0 ([]:List aT)with
      | .inl r=>r
      | .inr (s9,e3)=>
       (aC.mk e3 s7_1,0)
   else
    (aC.mk [] [],2)
 else
  (aC.mk [] [],cK s)
def PZ:bf U:=⟨[.d (.st 8),.d (.sl (.st 1))],fun xs es K=> ∃(s:aC) (l:List ae),xs= [(rx s),(gM l)]∧es= []∧(s.adds.length≤1000000)∧(s.gone.length≤900000)∧((fun(r0:aC) (r1:Int)=>r0.adds.length≤4097∧r0.gone.length≤4097) ((cz s l).1) ((cz s l).2)→K (.tup [(rx ((cz s l).1)),(vi ((cz s l).2))]) [])⟩
theorem OW:Fk 94 PZ:=by
 refine fo Tryz.f94 [.d (.st 8),.d (.int .i64)] [] (aa GP (aa vQ (aa Ja (aa Nb ah)))) fun xs es K=>?_;rintro⟨s,l,rfl,rfl,h1,h2,h⟩;refine⟨rfl,?_⟩;have hf0:=cz.eq_1 s l;refine⟨_,rfl,rfl,(by omega),?_⟩;refine fun _=>?_;refine wN hf0 (fun h1 hf0=>?_) fun h1 hf0=>?_
 ·rw[hf0]at h;exact h (by simp)
 ·refine fl (x:=l.length) fun h2=>?_;refine wI hf0 (fun _ hf0=>?_) fun _ hf0=>?_
  ·rw[hf0]at h;exact h (by simp)
  ·refine⟨_,rfl,rfl,?_⟩;refine wN hf0 (fun _ hf0=>?_) fun _ hf0=>?_
   ·rw[hf0]at h;exact h (by simp)
   ·refine lI (σ:=Int×(List ae)) 3 (fun(s8,s7_1)=> [(1,.v (gM l)),(2,.v (vp 0)),(4,.v (vp 1)),(5,.v (vi 0)),(7,.v (vp 2)),(8,.v (vi s8))]) (fun(s8,s7_1)=> [(0,.cells [(2,.d (.st 8) s)] 70),(1,.cells [(1,.nils),(1,.nils)] 70),(2,.cells [(1,.nils),(1,.d (.sl (.st 1)) s7_1)] 70)]) (fun(s8,s7_1)=>((l.length:Int)- s8).toNat) (fun(s8,s7_1)=>(0≤s8)∧(s8≤(l.length:Int))∧((s7_1.length:Int)≤900000+s8)∧True) (fun n1 (s8,s7_1)=>gW s l n1 s8 s7_1) (gW s l (((l.length:Int)- 0).toNat+1) 0 s.gone) [] ((0:Int),s.gone) ?_;rintro⟨s8,s7_1⟩ ⟨n1,hc1,⟨hi1_0,hi1_1,hi1_2,-⟩,hf1⟩;have hf1:=hf1.trans (gW.eq_2 s l s8 s7_1 n1);refine fl (x:=l.length) fun _=>?_;refine wI hf1 (fun _ hf1=>?_) fun _ hf1=>?_
    ·refine dp [(true,0),(true,1),(true,2),(true,3),(true,4),(true,5),(false,6),(true,7)] (some 8) (nw 3) ?_;refine vx s8 l ?_;refine⟨_,_,rfl,rfl,(by omega),?_⟩;refine fun _=>?_;refine bY ?_;exact nx (s:=(s8,s7_1)) [] (s8+1,bR s7_1 (ix l s8)) hc1 hf1
    ·rw[hf1]at hf0;refine fl (x:=s7_1.length) fun _=>?_;refine wI hf0 (fun _ hf0=>?_) fun _ hf0=>?_
     ·rw[hf0]at h;exact h (by simp)
     ·refine lI (σ:=Int×(List aT)) 4 (fun(s9,e3)=> [(1,.v (gM l)),(2,.v (vp 0)),(4,.v (vp 1)),(5,.v (vi 0)),(7,.v (vp 2)),(9,.v (vi s9))]) (fun(s9,e3)=> [(0,.cells [(2,.d (.st 8) s)] 70),(1,.cells [(1,.nils),(1,.nils)] 70),(2,.cells [(1,.own 3 0),(1,.d (.sl (.st 1)) s7_1)] 70),(3,.row 0 (.st 7) e3 178)]) (fun(s9,e3)=>((s.adds.length:Int)- s9).toNat) (fun(s9,e3)=>(0≤s9)∧(s9≤(s.adds.length:Int))∧((e3.length:Int)≤s9)∧True) (fun n2 (s9,e3)=>fe s l s7_1 n2 s9 e3) (fe s l s7_1 (((s.adds.length:Int)- 0).toNat+1) 0 ([]:List aT)) [] ((0:Int),([]:List aT)) ?_;rintro⟨s9,e3⟩ ⟨n2,hc2,⟨hi2_0,hi2_1,hi2_2,-⟩,hf1⟩;have hf1:=hf1.trans (fe.eq_2 s l s7_1 s9 e3 n2);refine fl (x:=s.adds.length) fun _=>?_;refine wI hf1 (fun _ hf1=>?_) fun _ hf1=>?_
      ·refine vx s9 s.adds ?_;refine⟨_,_,rfl,rfl,?_⟩;refine wN hf1 (fun _ hf1=>?_) fun _ hf1=>?_
       ·refine dp [(true,0),(true,1),(true,2),(true,3),(true,4),(true,5),(true,6),(false,7),(false,8),(true,9)] (some 10) (nw 3) ?_;refine vx s9 s.adds ?_;refine vs (P:=(e3.length+ [ix s.adds s9].length)*(40:Nat)≤(140737488355328:Nat)) ?_;refine bY ?_;exact nx (s:=(s9,e3)) [] (s9+1,e3++ [ix s.adds s9]) hc2 hf1
       ·refine bY ?_;exact nx (s:=(s9,e3)) [] (s9+1,e3) hc2 hf1
      ·rw[hf1]at hf0;rw[hf0]at h;exact h (by(dsimp only;omega))
def dt(s:aC)(v:List Int):Nat→Int→(List ae)→(aC×Int)⊕(Int×(List ae))
 |0,s8,e4=> .inr (s8,e4)
 |n1+1,s8,e4=>
  if s8<(s.gone.length:Int)then
   if cc v (ix s.gone s8).id=true then
    dt s v n1 (s8+1) e4
   else
    dt s v n1 (s8+1) (e4++ [ix s.gone s8])
  else
   .inr (s8,e4)
def cP(s:aC)(v:List Int):aC×Int:=
 if cK s=0 then
  match dt s v (((s.gone.length:Int)- 0).toNat+1) 0 ([]:List ae)with
  | .inl r=>r
  | .inr (s8,e4)=>
   (aC.mk s.adds e4,0)
 else
  (aC.mk [] [],cK s)
def Nc:bf U:=⟨[.d (.st 8),.d (.arr 8 (.int .u32))],fun xs es K=> ∃(s:aC) (v:List Int),xs= [(rx s),(ic v)]∧es= []∧(s.adds.length≤1000000)∧(s.gone.length≤1000000)∧((fun(r0:aC) (r1:Int)=>r0.adds.length≤4097∧r0.gone.length≤4097) ((cP s v).1) ((cP s v).2)→K (.tup [(rx ((cP s v).1)),(vi ((cP s v).2))]) [])⟩
theorem Nd:Fk 108 Nc:=by
 refine fo Tryz.f108 [.d (.st 8),.d (.int .i64)] [] (aa GY (aa GP ah)) fun xs es K=>?_;rintro⟨s,v,rfl,rfl,h1,h2,h⟩;refine⟨rfl,?_⟩;have hf0:=cP.eq_1 s v;refine⟨_,rfl,rfl,(by omega),?_⟩;refine fun _=>?_;refine wN hf0 (fun h1 hf0=>?_) fun h1 hf0=>?_
 ·rw[hf0]at h;exact h (by simp)
 ·refine lI (σ:=Int×(List ae)) 5 (fun(s8,e4)=> [(2,.v (vp 0)),(3,.v (vp 1)),(4,.v (vp 2)),(5,.v (vi 0)),(7,.v (vp 3)),(8,.v (vi s8))]) (fun(s8,e4)=> [(0,.cells [(2,.d (.st 8) s)] 70),(1,.cells [(8,.d (.arr 8 (.int .u32)) v)] 41),(2,.cells [(1,.nils),(1,.nils)] 70),(3,.cells [(1,.d (.sl (.st 7)) s.adds),(1,.own 4 0)] 70),(4,.row 0 (.st 1) e4 34)]) (fun(s8,e4)=>((s.gone.length:Int)- s8).toNat) (fun(s8,e4)=>(0≤s8)∧(s8≤(s.gone.length:Int))∧((e4.length:Int)≤s8)∧True) (fun n1 (s8,e4)=>dt s v n1 s8 e4) (dt s v (((s.gone.length:Int)- 0).toNat+1) 0 ([]:List ae)) [] ((0:Int),([]:List ae)) ?_;rintro⟨s8,e4⟩ ⟨n1,hc1,⟨hi1_0,hi1_1,hi1_2,-⟩,hf1⟩;have hf1:=hf1.trans (dt.eq_2 s v s8 e4 n1);refine fl (x:=s.gone.length) fun h2=>?_;refine wI hf1 (fun _ hf1=>?_) fun _ hf1=>?_
  ·refine dp [(true,0),(true,1),(true,2),(true,3),(true,4),(true,5),(true,6),(false,7),(true,8)] none (nw 4) ?_;refine vx s8 s.gone ?_;refine⟨_,_,rfl,rfl,?_⟩;refine wN hf1 (fun _ hf1=>?_) fun _ hf1=>?_
   ·refine dp [(true,0),(true,1),(true,2),(true,3),(true,4),(true,5),(true,6),(false,7),(false,8),(true,9)] (some 10) (nw 4) ?_;refine vx s8 s.gone ?_;refine vs (P:=(e4.length+ [ix s.gone s8].length)*(24:Nat)≤(140737488355328:Nat)) ?_;refine bY ?_;exact nx (s:=(s8,e4)) [] (s8+1,e4++ [ix s.gone s8]) hc1 hf1
   ·refine bY ?_;exact nx (s:=(s8,e4)) [] (s8+1,e4) hc1 hf1
  ·rw[hf1]at hf0;rw[hf0]at h;exact h (by(dsimp only;omega))
end Go.Proofs.YtiliglahlfkikaaGreatDoor.V
end

section
set_option linter.unusedVariables false
set_option linter.unusedSimpArgs false
set_option maxRecDepth 20000
set_option maxHeartbeats 4000000
namespace Go.Proofs.YtiliglahlfkikaaGreatDoor.V
open Go.RowKit
def du(s:aD)(p:bI):Nat→Bool→Int→(List bI)→(aD×Int)⊕(Bool×Int×(List bI))
 |0,s8,s9,s7=> .inr (s8,s9,s7)
 |n1+1,s8,s9,s7=>
  if s9<(s.puts.length:Int)then
   if aG (ix s.puts s9).tag p.tag=0 then
    .inl (s,0)
   else
    if(0<aG (ix s.puts s9).tag p.tag)∧(¬(s8=true))then
     du s p n1 true (s9+1) (s7++ [p]++ [ix s.puts s9])
    else
     du s p n1 s8 (s9+1) (s7++ [ix s.puts s9])
  else
   .inr (s8,s9,s7)
def dU(s:aD)(p:bI):aD×Int:=
 if cM s=0 then
  if ay p.tag=0 then
   if cL p=true then
    if aX s.gone p.tag=true then
     (s,0)
    else
     match du s p (((s.puts.length:Int)- 0).toNat+1) false 0 ([]:List bI)with
     | .inl r=>r
     | .inr (s8,s9,s7)=>
      if s8=true then
       if 4096<(s7.length:Int)then
        (aD.mk [] [],4)
       else
        (aD.mk s7 s.gone,0)
      else
       if 4096<((s7++ [p]).length:Int)then
        (aD.mk [] [],4)
       else
        (aD.mk (s7++ [p]) s.gone,0)
   else
    (aD.mk [] [],3)
  else
   (aD.mk [] [],2)
 else
  (aD.mk [] [],cM s)
def Qo:bf U:=⟨[.d (.st 9),.d (.st 4)],fun xs es K=> ∃(s:aD) (p:bI),xs= [(ry s),(Lj p)]∧es= []∧(s.puts.length≤1000000)∧((fun(r0:aD) (r1:Int)=>r0.puts.length≤4097∧r0.gone.length≤4097) ((dU s p).1) ((dU s p).2)→K (.tup [(ry ((dU s p).1)),(vi ((dU s p).2))]) [])⟩
theorem Qp:Fk 95 Qo:=by
 refine fo Tryz.f95 [.d (.st 9),.d (.int .i64)] [] (aa GO (aa I8 (aa vQ (aa GQ (aa Jc ah))))) fun xs es K=>?_;rintro⟨s,p,rfl,rfl,h1,h⟩;refine⟨rfl,?_⟩;have hf0:=dU.eq_1 s p;refine⟨_,rfl,rfl,?_⟩;refine fun _=>?_;refine wN hf0 (fun h1 hf0=>?_) fun h1 hf0=>?_
 ·rw[hf0]at h;exact h (by simp)
 ·refine⟨_,rfl,rfl,?_⟩;refine wN hf0 (fun _ hf0=>?_) fun _ hf0=>?_
  ·rw[hf0]at h;exact h (by simp)
  ·refine⟨_,rfl,rfl,?_⟩;refine wN hf0 (fun _ hf0=>?_) fun _ hf0=>?_
   ·rw[hf0]at h;exact h (by simp)
   ·refine⟨_,_,rfl,rfl,?_⟩;refine wI hf0 (fun _ hf0=>?_) fun _ hf0=>?_
    ·rw[hf0]at h;exact h (show((fun(r0:aD) (r1:Int)=>r0.puts.length≤4097∧r0.gone.length≤4097) s (0:Int):Prop)from by omega)
    ·refine lI (σ:=Bool×Int×(List bI)) 4 (fun(s8,s9,s7)=> [(2,.v (vp 0)),(3,.v (vp 1)),(4,.v (vp 2)),(5,.v (vi 0)),(7,.v (vo 3)),(8,.v (vb s8)),(9,.v (vi s9))]) (fun(s8,s9,s7)=> [(0,.cells [(2,.d (.st 9) s)] 73),(1,.cells [(7,.d (.st 4) p)] 182),(2,.cells [(1,.nils),(1,.nils)] 73),(3,.row 0 (.st 4) s7 182)]) (fun(s8,s9,s7)=>((s.puts.length:Int)- s9).toNat) (fun(s8,s9,s7)=>(0≤s9)∧(s9≤(s.puts.length:Int))∧((s7.length:Int)≤2*s9)∧True) (fun n1 (s8,s9,s7)=>du s p n1 s8 s9 s7) (du s p (((s.puts.length:Int)- 0).toNat+1) false 0 ([]:List bI)) [] (false,(0:Int),([]:List bI)) ?_;rintro⟨s8,s9,s7⟩ ⟨n1,hc1,⟨hi1_0,hi1_1,hi1_2,-⟩,hf1⟩;have hf1:=hf1.trans (du.eq_2 s p s8 s9 s7 n1);refine fl (x:=s.puts.length) fun _=>?_;refine wI hf1 (fun _ hf1=>?_) fun _ hf1=>?_
     ·refine dp [(true,0),(true,1),(true,2),(true,3),(true,4),(true,5),(true,6),(true,7),(false,8),(true,9)] none (nw 3) ?_;refine vx s9 s.puts ?_;refine⟨_,_,rfl,rfl,?_⟩;refine wI hf1 (fun _ hf1=>?_) fun _ hf1=>?_
      ·rw[hf1]at hf0;rw[hf0]at h;exact h (show((fun(r0:aD) (r1:Int)=>r0.puts.length≤4097∧r0.gone.length≤4097) s (0:Int):Prop)from by omega)
      ·refine wI hf1 (fun _ hf1=>?_) fun _ hf1=>?_
       ·refine vs (P:=(s7.length+ [p].length)*(64:Nat)≤(140737488355328:Nat)) ?_;refine vx s9 s.puts ?_;refine vs (P:=((s7++ [p]).length+ [ix s.puts s9].length)*(64:Nat)≤(140737488355328:Nat)) ?_;refine bY ?_;exact nx (s:=(s8,s9,s7)) [] (true,s9+1,s7++ [p]++ [ix s.puts s9]) hc1 hf1
       ·refine vx s9 s.puts ?_;refine vs (P:=(s7.length+ [ix s.puts s9].length)*(64:Nat)≤(140737488355328:Nat)) ?_;refine bY ?_;exact nx (s:=(s8,s9,s7)) [] (s8,s9+1,s7++ [ix s.puts s9]) hc1 hf1
     ·rw[hf1]at hf0;refine wN hf0 (fun _ hf0=>?_) fun _ hf0=>?_
      ·refine vs (P:=(s7.length+ [p].length)*(64:Nat)≤(140737488355328:Nat)) ?_;refine fl (x:=(s7++ [p]).length) fun _=>?_;refine wI hf0 (fun _ hf0=>?_) fun _ hf0=>?_
       ·rw[hf0]at h;exact h (by simp)
       ·rw[hf0]at h;exact h (by(dsimp only;omega))
      ·refine fl (x:=s7.length) fun _=>?_;refine wI hf0 (fun _ hf0=>?_) fun _ hf0=>?_
       ·rw[hf0]at h;exact h (by simp)
       ·rw[hf0]at h;exact h (by(dsimp only;omega))
def ff(s:aD)(tags:List ae):Nat→Int→(List bI)→(aD×Int)⊕(Int×(List bI))
 |0,s9,e4=> .inr (s9,e4)
 |n1+1,s9,e4=>
  if s9<(s.puts.length:Int)then
   if aX tags (ix s.puts s9).tag=true then
    ff s tags n1 (s9+1) e4
   else
    ff s tags n1 (s9+1) (e4++ [ix s.puts s9])
  else
   .inr (s9,e4)
def eJ(s:aD)(tags:List ae):aD×Int:=
 if cM s=0 then
  if(cz (aC.mk [] s.gone) tags).snd=0 then
   match ff s tags (((s.puts.length:Int)- 0).toNat+1) 0 ([]:List bI)with
   | .inl r=>r
   | .inr (s9,e4)=>
    (aD.mk e4 (cz (aC.mk [] s.gone) tags).fst.gone,0)
  else
   (aD.mk [] [],(cz (aC.mk [] s.gone) tags).snd)
 else
  (aD.mk [] [],cM s)
def Qq:bf U:=⟨[.d (.st 9),.d (.sl (.st 1))],fun xs es K=> ∃(s:aD) (tags:List ae),xs= [(ry s),(gM tags)]∧es= []∧(s.puts.length≤1000000)∧(s.gone.length≤900000)∧((fun(r0:aD) (r1:Int)=>r0.puts.length≤4097∧r0.gone.length≤4097) ((eJ s tags).1) ((eJ s tags).2)→K (.tup [(ry ((eJ s tags).1)),(vi ((eJ s tags).2))]) [])⟩
theorem Qr:Fk 96 Qq:=by
 refine fo Tryz.f96 [.d (.st 9),.d (.int .i64)] [] (aa OW (aa vQ (aa GQ ah))) fun xs es K=>?_;rintro⟨s,tags,rfl,rfl,h1,h2,h⟩;refine⟨rfl,?_⟩;have hf0:=eJ.eq_1 s tags;refine⟨_,rfl,rfl,?_⟩;refine fun _=>?_;refine wN hf0 (fun h1 hf0=>?_) fun h1 hf0=>?_
 ·rw[hf0]at h;exact h (by simp)
 ·refine⟨_,_,rfl,rfl,(Nat.zero_le _),(by omega),?_⟩;refine fun(h2:(cz (aC.mk [] s.gone) tags).fst.adds.length≤(4097:Nat)∧(cz (aC.mk [] s.gone) tags).fst.gone.length≤(4097:Nat))=>?_;refine wN hf0 (fun _ hf0=>?_) fun _ hf0=>?_
  ·rw[hf0]at h;exact h (by simp)
  ·refine lI (σ:=Int×(List bI)) 5 (fun(s9,e4)=> [(1,.v (gM tags)),(2,.v (vp 0)),(4,.v (vp 1)),(5,.v (vi 0)),(8,.v (vp 3)),(9,.v (vi s9))]) (fun(s9,e4)=> [(0,.cells [(2,.d (.st 9) s)] 73),(1,.cells [(1,.nils),(1,.nils)] 73),(3,.cells [(1,.own 4 0),(1,.d (.sl (.st 1)) ((cz (aC.mk [] s.gone) tags).fst.gone))] 73),(4,.row 0 (.st 4) e4 182)]) (fun(s9,e4)=>((s.puts.length:Int)- s9).toNat) (fun(s9,e4)=>(0≤s9)∧(s9≤(s.puts.length:Int))∧((e4.length:Int)≤s9)∧True) (fun n1 (s9,e4)=>ff s tags n1 s9 e4) (ff s tags (((s.puts.length:Int)- 0).toNat+1) 0 ([]:List bI)) [] ((0:Int),([]:List bI)) ?_;rintro⟨s9,e4⟩ ⟨n1,hc1,⟨hi1_0,hi1_1,hi1_2,-⟩,hf1⟩;have hf1:=hf1.trans (ff.eq_2 s tags s9 e4 n1);refine fl (x:=s.puts.length) fun _=>?_;refine wI hf1 (fun _ hf1=>?_) fun _ hf1=>?_
   ·refine vx s9 s.puts ?_;refine⟨_,_,rfl,rfl,?_⟩;refine wN hf1 (fun _ hf1=>?_) fun _ hf1=>?_
    ·refine dp [(true,0),(true,1),(true,2),(true,3),(true,4),(true,5),(true,6),(false,7),(false,8),(true,9)] (some 10) (nw 4) ?_;refine vx s9 s.puts ?_;refine vs (P:=(e4.length+ [ix s.puts s9].length)*(64:Nat)≤(140737488355328:Nat)) ?_;refine bY ?_;exact nx (s:=(s9,e4)) [] (s9+1,e4++ [ix s.puts s9]) hc1 hf1
    ·refine bY ?_;exact nx (s:=(s9,e4)) [] (s9+1,e4) hc1 hf1
   ·rw[hf1]at hf0;rw[hf0]at h;exact h (by(dsimp only;omega))
def dv(s:aD)(v:List Int):Nat→Int→(List ae)→(aD×Int)⊕(Int×(List ae))
 |0,s8,e4=> .inr (s8,e4)
 |n1+1,s8,e4=>
  if s8<(s.gone.length:Int)then
   if cc v (ix s.gone s8).id=true then
    dv s v n1 (s8+1) e4
   else
    dv s v n1 (s8+1) (e4++ [ix s.gone s8])
  else
   .inr (s8,e4)
def cQ(s:aD)(v:List Int):aD×Int:=
 if cM s=0 then
  match dv s v (((s.gone.length:Int)- 0).toNat+1) 0 ([]:List ae)with
  | .inl r=>r
  | .inr (s8,e4)=>
   (aD.mk s.puts e4,0)
 else
  (aD.mk [] [],cM s)
def NA:bf U:=⟨[.d (.st 9),.d (.arr 8 (.int .u32))],fun xs es K=> ∃(s:aD) (v:List Int),xs= [(ry s),(ic v)]∧es= []∧(s.gone.length≤1000000)∧((fun(r0:aD) (r1:Int)=>r0.puts.length≤4097∧r0.gone.length≤4097) ((cQ s v).1) ((cQ s v).2)→K (.tup [(ry ((cQ s v).1)),(vi ((cQ s v).2))]) [])⟩
theorem NB:Fk 109 NA:=by
 refine fo Tryz.f109 [.d (.st 9),.d (.int .i64)] [] (aa GY (aa GQ ah)) fun xs es K=>?_;rintro⟨s,v,rfl,rfl,h2,h⟩;refine⟨rfl,?_⟩;have hf0:=cQ.eq_1 s v;refine⟨_,rfl,rfl,?_⟩;refine fun _=>?_;refine wN hf0 (fun _ hf0=>?_) fun _ hf0=>?_
 ·rw[hf0]at h;exact h (by simp)
 ·refine lI (σ:=Int×(List ae)) 5 (fun(s8,e4)=> [(2,.v (vp 0)),(3,.v (vp 1)),(4,.v (vp 2)),(5,.v (vi 0)),(7,.v (vp 3)),(8,.v (vi s8))]) (fun(s8,e4)=> [(0,.cells [(2,.d (.st 9) s)] 73),(1,.cells [(8,.d (.arr 8 (.int .u32)) v)] 41),(2,.cells [(1,.nils),(1,.nils)] 73),(3,.cells [(1,.d (.sl (.st 4)) s.puts),(1,.own 4 0)] 73),(4,.row 0 (.st 1) e4 34)]) (fun(s8,e4)=>((s.gone.length:Int)- s8).toNat) (fun(s8,e4)=>(0≤s8)∧(s8≤(s.gone.length:Int))∧((e4.length:Int)≤s8)∧True) (fun n1 (s8,e4)=>dv s v n1 s8 e4) (dv s v (((s.gone.length:Int)- 0).toNat+1) 0 ([]:List ae)) [] ((0:Int),([]:List ae)) ?_;rintro⟨s8,e4⟩ ⟨n1,hc1,⟨hi1_0,hi1_1,hi1_2,-⟩,hf1⟩;have hf1:=hf1.trans (dv.eq_2 s v s8 e4 n1);refine fl (x:=s.gone.length) fun h2=>?_;refine wI hf1 (fun _ hf1=>?_) fun _ hf1=>?_
  ·refine dp [(true,0),(true,1),(true,2),(true,3),(true,4),(true,5),(true,6),(false,7),(true,8)] none (nw 4) ?_;refine vx s8 s.gone ?_;refine⟨_,_,rfl,rfl,?_⟩;refine wN hf1 (fun _ hf1=>?_) fun _ hf1=>?_
   ·refine dp [(true,0),(true,1),(true,2),(true,3),(true,4),(true,5),(true,6),(false,7),(false,8),(true,9)] (some 10) (nw 4) ?_;refine vx s8 s.gone ?_;refine vs (P:=(e4.length+ [ix s.gone s8].length)*(24:Nat)≤(140737488355328:Nat)) ?_;refine bY ?_;exact nx (s:=(s8,e4)) [] (s8+1,e4++ [ix s.gone s8]) hc1 hf1
   ·refine bY ?_;exact nx (s:=(s8,e4)) [] (s8+1,e4) hc1 hf1
  ·rw[hf1]at hf0;rw[hf0]at h;exact h (by(dsimp only;omega))
def gJ(a:List d8)(b:List d8):Nat→Int→Bool⊕(Int)
 |0,s5=> .inr s5
 |n1+1,s5=>
  if s5<(a.length:Int)then
   if ix a s5=ix b s5 then
    gJ a b n1 (s5+1)
   else
    .inl false
  else
   .inr s5
def lE(a:List d8)(b:List d8):Bool:=
 if(a.length:Int)=(b.length:Int)then
  match gJ a b (((a.length:Int)- 0).toNat+1) 0 with
  | .inl r=>r
  | .inr s5=>
   true
 else
  false
def Qt:bf U:=⟨[.d (.sl (.st 12)),.d (.sl (.st 12))],fun xs es K=> ∃(a:List d8) (b:List d8),xs= [(xK a),(xK b)]∧es= []∧K (.v (vb (lE a b))) []⟩
theorem Qu:Fk 63 Qt:=by
 refine fo Tryz.f63 [.d .bool] [] (ah) fun xs es K=>?_;rintro⟨a,b,rfl,rfl,h⟩;refine⟨rfl,?_⟩;have hf0:=lE.eq_1 a b;refine fl (x:=a.length) fun _=>?_;refine fl (x:=b.length) fun _=>?_;refine wN hf0 (fun _ hf0=>e0) fun _ hf0=>?_;refine lI 0 (fun(s5:Int)=> [(0,.v (xK a)),(1,.v (xK b)),(4,.v (vb false)),(5,.v (vi s5))]) (fun(s5:Int)=> []) (fun(s5:Int)=>((a.length:Int)- s5).toNat) (fun(s5:Int)=>(0≤s5)∧(s5≤(a.length:Int))∧True) (fun n1 (s5:Int)=>gJ a b n1 s5) (gJ a b (((a.length:Int)- 0).toNat+1) 0) [] (0:Int) ?_;rintro s5 ⟨n1,hc1,⟨hi1_0,hi1_1,-⟩,hf1⟩;have hf1:=hf1.trans (gJ.eq_2 a b s5 n1);refine fl (x:=a.length) fun _=>?_;refine wI hf1 (fun _ hf1=>?_) fun _ hf1=>e1;refine dp (up 9) none (nw 0) ?_;refine vx s5 a ?_;refine vx s5 b ?_;refine wN hf1 (fun _ hf1=>e1) fun _ hf1=>?_;refine bY ?_;exact nx [] (s5+1) hc1 hf1
def gq(act:Int):Bool:=
 decide (act=4)||decide (act=6)
def Qv:bf U:=⟨[.d (.int .i64)],fun xs es K=> ∃(act:Int),xs= [(vi act)]∧es= []∧K (.v (vb (gq act))) []⟩
theorem Qw:Fk 90 Qv:=by
 refine fo Tryz.f90 [.d .bool] [] (ah) fun xs es K=>?_;rintro⟨act,rfl,rfl,h⟩;refine⟨rfl,?_⟩;have hf0:=gq.eq_1 act;exact e0
def fh(e:af):Nat→Int→Int⊕(Int)
 |0,s5=> .inr s5
 |n2+1,s5=>
  if s5<(e.tags.length:Int)then
   if 0≤aG (ix e.tags (s5 - 1)) (ix e.tags s5)then
    .inl 3
   else
    fh e n2 (s5+1)
  else
   .inr s5
def fj(e:af):Nat→Int→Int⊕(Int)
 |0,s4=> .inr s4
 |n1+1,s4=>
  if s4<(e.tags.length:Int)then
   if ay (ix e.tags s4)=0 then
    fj e n1 (s4+1)
   else
    .inl 2
  else
   .inr s4
def dV(e:af):Int:=
 if fz (sZ.mk e.act e.name e.val)=0 then
  if ay e.tag=0 then
   match fj e (((e.tags.length:Int)- 0).toNat+1) 0 with
   | .inl r=>r
   | .inr s4=>
    if 4096<(e.tags.length:Int)then
     8
    else
     if(((dE e.act=true)∧((¬cx e.at_=0)∨(e.at_.time=0)))∨((¬(dE e.act=true))∧(¬(e.at_=au.mk 0 0))))∨((¬(gq e.act=true))∧(0<(e.tags.length:Int)))then
      3
     else
      match fh e (((e.tags.length:Int)- 1).toNat+1) 1 with
      | .inl r=>r
      | .inr s5=>
       0
  else
   2
 else
  fz (sZ.mk e.act e.name e.val)
def Qx:bf U:=⟨[.d (.st 3)],fun xs es K=> ∃(e:af),xs= [(BG e)]∧es= []∧K (.v (vi (dV e))) []⟩
theorem O0:Fk 39 Qx:=by
 refine fo Tryz.f39 [.d (.int .i64)] [] (aa GO (aa PG (aa I8 (aa PE (aa LW (aa Qw ah)))))) fun xs es K=>?_;rintro⟨e,rfl,rfl,h⟩;refine⟨rfl,?_⟩;have hf0:=dV.eq_1 e;refine⟨_,rfl,rfl,?_⟩;refine wN hf0 (fun _ hf0=>e0) fun _ hf0=>?_;refine⟨_,rfl,rfl,?_⟩;refine wN hf0 (fun _ hf0=>e0) fun _ hf0=>?_;refine lI 1 (fun(s4:Int)=> [(1,.v (vp 0)),(2,.v (vi 0)),(4,.v (vi s4))]) (fun(s4:Int)=> [(0,.cells [(9,.d (.st 3) e)] 39)]) (fun(s4:Int)=>((e.tags.length:Int)- s4).toNat) (fun(s4:Int)=>(0≤s4)∧(s4≤(e.tags.length:Int))∧True) (fun n1 (s4:Int)=>fj e n1 s4) (fj e (((e.tags.length:Int)- 0).toNat+1) 0) [] (0:Int) ?_;rintro s4 ⟨n1,hc1,⟨hi1_0,hi1_1,-⟩,hf1⟩;have hf1:=hf1.trans (fj.eq_2 e s4 n1);refine fl (x:=e.tags.length) fun _=>?_;refine wI hf1 (fun _ hf1=>?_) fun _ hf1=>?_
 ·refine vx s4 e.tags ?_;refine⟨_,rfl,rfl,?_⟩;refine wN hf1 (fun _ hf1=>e1) fun _ hf1=>?_;refine bY ?_;exact nx [] (s4+1) hc1 hf1
 ·rw[hf1]at hf0;refine fl (x:=e.tags.length) fun _=>?_;refine wI hf0 (fun _ hf0=>e0) fun _ hf0=>?_;refine⟨_,rfl,rfl,?_⟩;refine⟨_,fun _=>⟨_,rfl,rfl,rfl,rfl⟩,rfl,?_⟩;refine⟨_,fun _=>⟨_,rfl,rfl,rfl,rfl⟩,rfl,?_⟩;refine⟨_,fun _=>⟨_,rfl,rfl,rfl,rfl⟩,rfl,?_⟩;refine wI hf0 (fun _ hf0=>e0) fun _ hf0=>?_;refine lI 1 (fun(s5:Int)=> [(1,.v (vp 0)),(2,.v (vi 0)),(5,.v (vi s5))]) (fun(s5:Int)=> [(0,.cells [(9,.d (.st 3) e)] 39)]) (fun(s5:Int)=>((e.tags.length:Int)- s5).toNat) (fun(s5:Int)=>(1≤s5)∧True) (fun n2 (s5:Int)=>fh e n2 s5) (fh e (((e.tags.length:Int)- 1).toNat+1) 1) [] (1:Int) ?_;rintro s5 ⟨n2,hc2,⟨hi2_0,-⟩,hf1⟩;have hf1:=hf1.trans (fh.eq_2 e s5 n2);refine fl (x:=e.tags.length) fun _=>?_;refine wI hf1 (fun _ hf1=>?_) fun _ hf1=>e1;refine dp [(true,0),(true,1),(true,2),(true,3),(true,4),(true,5),(true,6),(true,7),(true,8),(true,9),(true,10),(false,11),(true,12)] none (nw 1) ?_;refine bY ?_;refine vx (s5 - 1) e.tags ?_;refine vx s5 e.tags ?_;refine⟨_,_,rfl,rfl,?_⟩;refine wI hf1 (fun _ hf1=>e1) fun _ hf1=>?_;refine bY ?_;exact nx [] (s5+1) hc2 hf1
end Go.Proofs.YtiliglahlfkikaaGreatDoor.V
end

section
set_option linter.unusedVariables false
set_option linter.unusedSimpArgs false
namespace Go.Proofs.YtiliglahlfkikaaGreatDoor.V
open Go.RowKit Go.Shelf Go.Lib Go.Sort
def aM(a b:ae):Bool:=decide (a.id.origin<b.id.origin∨(a.id.origin=b.id.origin∧(a.id.seq<b.id.seq∨(a.id.seq=b.id.seq∧a.n<b.n))))
theorem dx(a b c:ae)(h1:aM a b=true)(h2:aM b c=true):aM a c=true:=by
 simp only[aM,decide_eq_true_eq]at*;omega
theorem cu(a:ae):aM a a=false:=by simp[aM]
theorem eb{a b:ae}(h1:aM a b=true):aM b a=false:=by
 simp only[aM,decide_eq_true_eq,decide_eq_false_iff_not]at*;omega
theorem jc(a b:ae):aM a b=true∨a=b∨aM b a=true:=by
 by_cases h:aM a b=true
 ·exact .inl h
 ·by_cases h2:aM b a=true
  ·exact .inr (.inr h2)
  ·refine .inr (.inl (oR ?_ ?_ ?_))<;>simp only[aM,decide_eq_true_eq]at* <;>omega
def jx(a b:ae):Int:=if aM a b=true then -1 else if a=b then 0 else 1
theorem bW(a b:ae):jx a b<0↔aM a b=true:=by
 unfold jx;split
 ·simp[*]
 ·rename_i h;split<;>simp[h]
theorem gz(a b:ae):jx a b=0↔a=b:=by
 unfold jx;split
 ·rename_i h;constructor
  ·intro e;omega
  ·intro e;subst e;rw[cu]at h;cases h
 ·split
  ·simp[*]
  ·simp[*]
theorem uj(a b:kW):gT a b=if a.origin<b.origin then -1 else if b.origin<a.origin then 1 else if a.seq<b.seq then -1 else if b.seq<a.seq then 1 else 0:=by
 unfold gT;rw[n7,nc,sx];by_cases h1:a.origin<b.origin
 ·simp[h1]
 ·by_cases h2:b.origin<a.origin
  ·simp[h1,h2]
  ·simp[h1,h2]
theorem bM(a b:ae):ab a b=jx a b:=by
 unfold ab jx;rw[n7,uj,nc];by_cases h1:a.id.origin<b.id.origin
 ·simp[h1,aM]
 ·by_cases h2:b.id.origin<a.id.origin
  ·have hne: ¬a=b:=fun e=>by subst e;omega
   simp[h1,h2,aM,hne]<;>omega
  ·have e1:a.id.origin=b.id.origin:=by omega
   by_cases h3:a.id.seq<b.id.seq
   ·simp[h1,h2,h3,aM]<;>omega
   ·by_cases h4:b.id.seq<a.id.seq
    ·have hne: ¬a=b:=fun e=>by subst e;omega
     simp[h1,h2,h3,h4,aM,hne]<;>omega
    ·have e2:a.id.seq=b.id.seq:=by omega
     by_cases h5:a.n<b.n
     ·simp[h1,h2,h3,h4,h5,aM]<;>omega
     ·by_cases h6:b.n<a.n
      ·have hne: ¬a=b:=fun e=>by subst e;omega
       simp[h1,h2,h3,h4,h5,h6,aM,hne]<;>omega
      ·have e3:a.n=b.n:=by omega
       have he:a=b:=oR e1 e2 e3;subst he;simp[aM]
def eQ(t:ae):Prop:= -9223372036854775808≤t.id.seq∧t.id.seq≤9223372036854775807
theorem bE{a b:ae}(ha:eQ a)(hb:eQ b):aG a b=jx a b:=by
 unfold aG jJ iZ jx;by_cases e:a.id=b.id
 ·rw[if_pos e];have e1:a.id.origin=b.id.origin:=by rw[e]
  have e2:a.id.seq=b.id.seq:=by rw[e]
  by_cases h5:a.n<b.n
  ·simp[aM,h5,e1,e2]
  ·by_cases h6:b.n<a.n
   ·have hne: ¬a=b:=fun e=>by subst e;omega
    simp[aM,h5,h6,hne,e1,e2]
   ·have he:a=b:=oR e1 e2 (by omega);subst he;simp[aM]
 ·rw[if_neg e];have hne: ¬a=b:=fun q=>e (by rw[q]);have hid: ¬(a.id.origin=b.id.origin∧a.id.seq=b.id.seq):=fun⟨q1,q2⟩=>e (by
   obtain⟨⟨a1,a2⟩,a3⟩:=a;obtain⟨⟨b1,b2⟩,b3⟩:=b;simp only at q1 q2;subst q1;subst q2;rfl)
  by_cases h1:a.id.origin=b.id.origin
  ·rw[if_pos h1];have h2: ¬a.id.seq=b.id.seq:=fun q=>hid ⟨h1,q⟩;by_cases h3:a.id.seq<b.id.seq
   ·simp[h3,aM,h1]
   ·have h4:b.id.seq<a.id.seq:=by omega
    simp[h3,h4,aM,hne,h1,h2]
  ·rw[if_neg h1];by_cases h3:a.id.origin<b.id.origin
   ·simp[h3,aM]
   ·have h4:b.id.origin<a.id.origin:=by omega
    simp[h3,h4,aM,hne,h1]
def fM(t:ae):Prop:=0≤t.id.seq∧t.id.seq≤4294967295
theorem fM.seq{t:ae}(h:fM t):eQ t:=by unfold fM at h;unfold eQ;omega
theorem qV(i:kW):d6 i=if(i.origin<0)∨(7<i.origin)∨(i.seq<1)∨(1048576<i.seq)then 2 else 0:=by unfold d6;simp only[or_assoc]
theorem nm(t:ae):ay t=if ¬(d6 t.id=0)∨(t.n<0)∨(15<t.n)then 2 else 0:=by unfold ay;simp only[or_assoc]
theorem kX(t:ae):ay t=0↔(0≤t.id.origin∧t.id.origin≤7∧1≤t.id.seq∧t.id.seq≤1048576∧0≤t.n∧t.n≤15):=by
 rw[nm,qV];by_cases h1:(t.id.origin<0)∨(7<t.id.origin)∨(t.id.seq<1)∨(1048576<t.id.seq)
 ·rw[if_pos h1];simp;omega
 ·rw[if_neg h1];by_cases h2:(t.n<0)∨(15<t.n)
  ·simp[h2];omega
  ·rw[if_neg (by simp only[not_true_eq_false,false_or];exact h2)];simp only[true_iff];omega
theorem qA(t:ae):ay t=0∨ay t=2:=by rw[nm];split<;>simp
theorem uk(t:ae):dM t=if(t.n<0)∨(16≤t.n)then 2 else if(t.id.origin<0)∨(8≤t.id.origin)∨(t.id.seq=0)∨(1048576<t.id.seq)then 2 else 0:=by
 unfold dM fV;simp only[or_assoc]
theorem jO{t:ae}(h:fM t):dM t=ay t:=by
 unfold fM at h;have h5:=kX t;have h6:=qA t;rw[uk];split
 ·rcases h6 with h6|h6
  ·have:=h5.1 h6;omega
  ·rw[h6]
 ·split
  ·rcases h6 with h6|h6
   ·have:=h5.1 h6;omega
   ·rw[h6]
  ·rw[h5.2 (by omega)]
theorem ez(s:List UInt8):iS s=cy s:=by
 unfold iS cy;cases s with
 |nil=>rfl
 |cons a s=>rw[decide_eq_true (show ¬(a::s)= []by simp),decide_eq_true (show(1:Int)≤((a::s).length:Int)by simp;omega)]
theorem vU(o:Int):lB o=true↔(0≤o∧o<8):=by unfold lB;simp
theorem lU(s:au):fW s=cx s:=by
 unfold fW cx;simp only[vU]
 repeat' split
 all_goals first|rfl|omega
theorem ul{α:Type}(f:α→Bool)(l:List α):decide ((0:Int)≤oF l f)=l.any f:=by
 unfold oF;cases h:l.findIdx? f with
 |none=>
  rw[List.findIdx?_eq_none_iff]at h;symm;simp only[decide_eq_false_iff_not.2 (show ¬(0:Int)≤ -1 by omega),List.any_eq_false];intro x hx;simp[h x hx]
 |some k=>
  have:=List.findIdx?_eq_some_iff_getElem.1 h;obtain⟨hk,h1,_⟩:=this;symm;simp only[decide_eq_true (show(0:Int)≤(k:Int)by omega),List.any_eq_true];exact⟨_,List.getElem_mem hk,h1⟩
theorem cT(s:List ae)(f:ae→Bool):ba s f=s.any f:=ul f s
theorem fq(s:List aT)(f:aT→Bool):dT s f=s.any f:=ul f s
theorem pF(l:List ae)(c:ae→ae→Int)(tr: ∀a b d,decide (c a b<0)=true→decide (c b d<0)=true→decide (c a d<0)=true):cS l c=true↔l.Pairwise (fun a b=>c a b<0):=by
 have h:=mB l (fun a b=>decide (c a b<0)) false (ct l c) (fun fuel i _=>by
  rw[ct];split
  ·by_cases h:(0:Int)≤c (ix l (i - 1)) (ix l i)
   ·rw[if_pos h,if_neg (by simp;omega)]
   ·rw[if_neg h,if_pos (by simp;omega)]
  ·rfl) (((l.length:Int)-(1:Int)).toNat+1) 1 (by omega) (by omega)
 have hp:=lV l (fun a b=>decide (c a b<0)) tr;simp only[decide_eq_true_eq]at hp;unfold cS;rcases h with⟨⟨q,a⟩,b⟩|⟨a,j,b,d,e⟩
 ·rw[a];simp only[decide_eq_true_eq]at b;exact⟨fun _=>hp.1 b,fun _=>rfl⟩
 ·rw[a];simp only[Bool.false_eq_true,false_iff];intro hw;have:=hp.2 hw j b d;simp only[decide_eq_false_iff_not]at e;exact e this
theorem pG(l:List aT)(c:aT→aT→Int)(tr: ∀a b d,decide (c a b<0)=true→decide (c b d<0)=true→decide (c a d<0)=true):d9 l c=true↔l.Pairwise (fun a b=>c a b<0):=by
 have h:=mB l (fun a b=>decide (c a b<0)) false (eo l c) (fun fuel i _=>by
  rw[eo];split
  ·by_cases h:(0:Int)≤c (ix l (i - 1)) (ix l i)
   ·rw[if_pos h,if_neg (by simp;omega)]
   ·rw[if_neg h,if_pos (by simp;omega)]
  ·rfl) (((l.length:Int)-(1:Int)).toNat+1) 1 (by omega) (by omega)
 have hp:=lV l (fun a b=>decide (c a b<0)) tr;simp only[decide_eq_true_eq]at hp;unfold d9;rcases h with⟨⟨q,a⟩,b⟩|⟨a,j,b,d,e⟩
 ·rw[a];simp only[decide_eq_true_eq]at b;exact⟨fun _=>hp.1 b,fun _=>rfl⟩
 ·rw[a];simp only[Bool.false_eq_true,false_iff];intro hw;have:=hp.2 hw j b d;simp only[decide_eq_false_iff_not]at e;exact e this
theorem nq(l:List ae):jN l=cS l ab:=by
 have key: ∀fuel i,jt l fuel i=ct l ab fuel i:=by
  intro fuel;induction fuel with
  |zero=>intro i;rfl
  |succ fuel ih=>intro i;rw[jt,ct,ih]
 unfold jN cS;rw[key];rfl
theorem Ao(a b d:ae)(h1:decide (ab a b<0)=true)(h2:decide (ab b d<0)=true):decide (ab a d<0)=true:=by
 simp only[bM,decide_eq_true_eq,bW]at*;exact dx a b d h1 h2
def bJ(l:List ae):Prop:=l.Pairwise (fun a b=>aM a b=true)
theorem dy(l:List ae):cS l ab=true↔bJ l:=by
 rw[pF l _ Ao];unfold bJ;simp only[bM,bW]
theorem jY(l:List aT):d9 l fC=true↔bJ (l.map (·.tag)):=by
 rw[pG l fC (fun a b d=>Ao a.tag b.tag d.tag)];unfold bJ;rw[List.pairwise_map];have: ∀a b:aT,fC a b=ab a.tag b.tag:=fun _ _=>rfl;simp only[this,bM,bW]
theorem kK{l:List ae}(hl: ∀t∈l,eQ t):cq l=true↔bJ l:=by
 rw[←dy];have key: ∀fuel (i:Int),1≤i→eW l fuel i=ct l ab fuel i:=by
  intro fuel;induction fuel with
  |zero=>intro i _;rfl
  |succ fuel ih=>
   intro i hi;rw[eW,ct,ih (i+1) (by omega)];split
   ·rw[bE (hl _ (cG l (by omega) (by omega))) (hl _ (cG l (by omega) (by omega))),bM]
   ·rfl
 unfold cq cS;rw[key _ 1 (by omega)];exact Iff.rfl
theorem kL(l:List aT):ck l=l.map (·.tag):=by
 unfold ck;rw[cF l (fun acc x=>acc++ [x.tag]) (gR l) (fun _ _ _ _=>rfl)];simp only[mc,List.nil_append]
theorem nr(l:List bI):ep l=l.map (·.tag):=by
 unfold ep;rw[cF l (fun acc x=>acc++ [x.tag]) (iy l) (fun _ _ _ _=>rfl)];simp only[mc,List.nil_append]
theorem ec(l:List ae):aQ l=l.all (fun t=>decide (ay t=0)):=by
 unfold aQ;obtain⟨q,h⟩:=cN l (fun t=>decide (ay t=0)) false (eV l) (fun fuel i _=>by rw[eV];simp only[decide_eq_true_eq]);rw[h];by_cases e:l.all (fun t=>decide (ay t=0))=true
 ·rw[if_pos e,e]
 ·rw[if_neg e];simpa using e
theorem fH(l:List ae)(t:ae):aX l t=decide (t∈l):=by
 unfold aX;obtain⟨q,h⟩:=cN l (fun x=>decide (¬x=t)) true (dn l t) (fun fuel i _=>by
  rw[dn];split
  ·by_cases e:ix l i=t
   ·rw[if_pos e,if_neg (by simp[e])]
   ·rw[if_neg e,if_pos (by simp[e])]
  ·rfl)
 rw[h];by_cases e:l.all (fun x=>decide (¬x=t))=true
 ·rw[if_pos e];simp only[List.all_eq_true,decide_eq_true_eq]at e;simp only;symm;rw[decide_eq_false_iff_not];exact fun hm=>e t hm rfl
 ·rw[if_neg e];simp only;symm;rw[decide_eq_true_eq];simp only[List.all_eq_true,decide_eq_true_eq]at e;by_cases hm:t∈l
  ·exact hm
  ·exact absurd (fun x hx (q:x=t)=>hm (q▸hx)) e
theorem ns{x:List ae}(hx:bJ x)(t:ae): ∃q:Int,(cY x t ab)=(q,decide (t∈x))∧0≤q∧q≤x.length∧(∀k:Int,0≤k→k<q→aM (ix x k) t=true)∧(∀k:Int,q≤k→k<x.length→aM (ix x k) t=false):=by
 have hp: ∀a b:Int,0≤a→a<b→b<x.length→aM (ix x a) (ix x b)=true:=fun a b h0 h1 h2=>by
  have:=List.pairwise_iff_getElem.1 hx a.toNat b.toNat (by omega) (by omega) (by omega);rw[←ed x (by omega),←ed x (by omega)]at this;rw[show((a.toNat:Nat):Int)=a by omega,show((b.toNat:Nat):Int)=b by omega]at this;exact this
 obtain⟨q,h,h0,h1,h2,h3⟩:=oU x (fun a=>ab a t) (iq x t ab) (fun _ _ _=>rfl) (fun a b ha hab hb hc=>by
   simp only[bM,bW]at*;exact dx _ _ _ (hp a b ha hab hb) hc) (((x.length:Int)-(0:Int)).toNat+1) 0 x.length (by omega) (by omega) (by omega) (by omega) (fun _ _ _=>by omega) (fun _ _ _=>by omega)
 simp only[bM,bW]at h2 h3;refine⟨q,?_,h0,h1,h2,fun k a b=>by simpa using h3 k a b⟩;unfold cY;rw[h];simp only;by_cases hlt:q<(x.length:Int)
 ·congr 1;rw[decide_eq_true hlt,Bool.true_and,bM,Bool.eq_iff_iff,decide_eq_true_eq,gz,decide_eq_true_eq];constructor
  ·intro e;rw[←e];exact cG x h0 hlt
  ·intro hm;obtain⟨k,hk,rfl⟩:=List.getElem_of_mem hm;rcases Int.lt_trichotomy (k:Int) q with hkq|hkq|hkq
   ·have:=h2 k (by omega) hkq;rw[ed x hk,cu]at this;cases this
   ·rw[←hkq,ed x hk]
   ·have h4:=hp q k h0 hkq (by omega);rw[ed x hk]at h4;exact absurd h4 (h3 q (by omega) hlt)
 ·congr 1;rw[decide_eq_false hlt,Bool.false_and];symm;rw[decide_eq_false_iff_not];intro hm;obtain⟨k,hk,rfl⟩:=List.getElem_of_mem hm;have:=h2 k (by omega) (by omega);rw[ed x hk,cu]at this;cases this
theorem pH{x:List ae}(hx:bJ x)(t:ae):(cY x t ab).2=decide (t∈x):=by
 obtain⟨q,h,_⟩:=ns hx t;rw[h]
structure iC(s:aC):Prop where
 adds: ∀a∈s.adds,fM a.tag
 gone: ∀t∈s.gone,fM t
theorem hU{l:List ae}(hl: ∀t∈l,fM t)(f:ae→Bool)(hf: ∀t,f t=decide (¬dM t=0)):l.any f=!aQ l:=by
 rw[ec,List.not_all_eq_any_not,Bool.eq_iff_iff];simp only[List.any_eq_true];constructor
 ·rintro⟨t,ht,h⟩;refine⟨t,ht,?_⟩;rw[hf,jO (hl t ht)]at h;simpa using h
 ·rintro⟨t,ht,h⟩;refine⟨t,ht,?_⟩;rw[hf,jO (hl t ht)];simpa using h
theorem j7{t:ae}(h:ay t=0):eQ t:=by
 have:=(kX t).1 h;unfold eQ;omega
theorem j8{s:aC}(hs:iC s):dF s=cK s:=by
 have h1:s.adds.any gU=!aQ (ck s.adds):=by
  rw[kL,←hU (l:=s.adds.map (·.tag)) (by simpa using hs.adds) br (fun _=>rfl),List.any_map];rfl
 have h2:s.gone.any br=!aQ s.gone:=hU hs.gone br (fun _=>rfl);have k2:((dT s.adds fun(t:aT)=>gU t)=true∨(ba s.gone fun(t:ae)=>br t)=true)↔(¬aQ (ck s.adds)=true∨ ¬aQ s.gone=true):=by
  rw[fq,cT];show(s.adds.any gU=true∨s.gone.any br=true)↔_
  rw[h1,h2];simp
 unfold dF cK;by_cases c1:(4096:Int)<(s.adds.length:Int)∨(4096:Int)<(s.gone.length:Int)
 ·rw[if_pos c1,if_pos c1]
 rw[if_neg c1,if_neg c1];by_cases c2: ¬aQ (ck s.adds)=true∨ ¬aQ s.gone=true
 ·rw[if_pos c2,if_pos (k2.2 c2)]
 rw[if_neg c2,if_neg (fun h=>c2 (k2.1 h))];have c3:aQ (ck s.adds)=true:=by by_cases h:aQ (ck s.adds)=true<;>simp_all
 have c4:aQ s.gone=true:=by by_cases h:aQ s.gone=true<;>simp_all
 have v1: ∀t∈s.adds.map (·.tag),eQ t:=fun t ht=>by
  rw[kL,ec,List.all_eq_true]at c3;exact j7 (by simpa using c3 t ht)
 have v2: ∀t∈s.gone,eQ t:=fun t ht=>by
  rw[ec,List.all_eq_true]at c4;exact j7 (by simpa using c4 t ht)
 have e1:(d9 s.adds fC=true)↔(cq (ck s.adds)=true):=by rw[jY,kL,kK v1]
 have e2:(cS s.gone ab=true)↔(cq s.gone=true):=by rw[dy,kK v2]
 by_cases c5:cq (ck s.adds)=true∧cq s.gone=true
 ·have n3: ¬(¬cq (ck s.adds)=true∨ ¬cq s.gone=true):=by simp[c5.1,c5.2]
  rw[if_neg n3];have hr:bJ s.gone:=(kK v2).1 c5.2;obtain⟨q,hl⟩:=cN s.adds (fun a=>cy a.elem&&!decide (a.tag∈s.gone)) 3 (eX s) (fun fuel i _=>by
   rw[eX,fH];split
   ·by_cases x1:cy (ix s.adds i).elem=true<;>by_cases x2:(ix s.adds i).tag∈s.gone<;>simp[x1,x2]
   ·rfl)
  rw[hl];have e3:(dT s.adds fun(t:aT)=>i7 t s)=!s.adds.all (fun a=>cy a.elem&&!decide (a.tag∈s.gone)):=by
   rw[fq,List.not_all_eq_any_not];congr 1;funext a;unfold i7 kC;rw[ez];show(!cy a.elem||(cY s.gone a.tag ab).2)=_
   rw[pH hr];by_cases x1:cy a.elem=true<;>simp[x1]
  have b1:=e1.2 c5.1;have b2:=e2.2 c5.2;by_cases c7:s.adds.all (fun a=>cy a.elem&&!decide (a.tag∈s.gone))=true
  ·rw[if_pos c7,if_neg];rintro(h|h)
   ·exact h ⟨b1,b2⟩
   ·rw[e3,c7]at h;cases h
  ·rw[if_neg c7,if_pos];right;rw[e3];simpa using c7
 ·have n3: ¬cq (ck s.adds)=true∨ ¬cq s.gone=true:=Classical.not_and_iff_not_or_not.1 c5;rw[if_pos n3,if_pos];left;rintro⟨h3,h4⟩;exact c5 ⟨e1.1 h3,e2.1 h4⟩
structure iE(s:aD):Prop where
 puts: ∀a∈s.puts,fM a.tag
 gone: ∀t∈s.gone,fM t
theorem qW(p:bI):gI p=cL p:=by
 unfold gI cL;rw[lU,←ez];rfl
theorem pI{l:List bI}(v: ∀a∈l,eQ a.tag):(∀j:Int,1≤j→j<l.length→ ¬(0≤aG (ix l (j - 1)).tag (ix l j).tag))↔bJ (l.map (·.tag)):=by
 have:=lV l (fun a b=>aM a.tag b.tag) (fun a b c=>dx a.tag b.tag c.tag);unfold bJ;rw[List.pairwise_map,←this];constructor
 ·intro h j h1 h2;have:=h j h1 h2;rw[bE (v _ (cG l (by omega) (by omega))) (v _ (cG l (by omega) h2))]at this;exact(bW _ _).1 (by omega)
 ·intro h j h1 h2;rw[bE (v _ (cG l (by omega) (by omega))) (v _ (cG l (by omega) h2))];have:=(bW _ _).2 (h j h1 h2);omega
theorem sy{l:List ae}(h:bJ l)(t:ae):mu l t=decide (t∈l):=pH h t
theorem j9{s:aD}(hs:iE s):d7 s=cM s:=by
 have h1:(s.puts.map (·.tag)).any bG=!aQ (s.puts.map (·.tag)):=hU (by simpa using hs.puts) bG (fun _=>rfl);have h2:s.gone.any bG=!aQ s.gone:=hU hs.gone bG (fun _=>rfl);have k2:((ba (ep s.puts) fun(t:ae)=>bG t)=true∨(ba s.gone fun(t:ae)=>bG t)=true)↔ ¬(aQ (s.puts.map (·.tag))=true∧aQ s.gone=true):=by
  rw[cT,cT,nr];show((s.puts.map (·.tag)).any bG=true∨s.gone.any bG=true)↔_
  rw[h1,h2];by_cases x:aQ (s.puts.map (·.tag))=true<;>simp[x]
 unfold d7 cM;by_cases c1:(4096:Int)<(s.puts.length:Int)∨(4096:Int)<(s.gone.length:Int)
 ·rw[if_pos c1,if_pos c1]
 rw[if_neg c1,if_neg c1];obtain⟨q1,l1⟩:=cN s.puts (fun p=>decide (ay p.tag=0)) 2 (fa s) (fun fuel i _=>by rw[fa];simp only[decide_eq_true_eq]);rw[l1];have a1:s.puts.all (fun p=>decide (ay p.tag=0))=aQ (s.puts.map (·.tag)):=by rw[ec,List.all_map];rfl
 rw[a1];by_cases c3:aQ (s.puts.map (·.tag))=true
 ·rw[if_pos c3];obtain⟨q2,l2⟩:=cN s.gone (fun t=>decide (ay t=0)) 2 (e9 s) (fun fuel i _=>by rw[e9];simp only[decide_eq_true_eq]);have a2:s.gone.all (fun t=>decide (ay t=0))=aQ s.gone:=by rw[ec]
  simp only[l2,a2];by_cases c4:aQ s.gone=true
  ·rw[if_neg (fun h=>k2.1 h ⟨c3,c4⟩),if_pos c4];have v1: ∀a∈s.puts,eQ a.tag:=fun a ha=>by
    rw[ec,List.all_eq_true]at c3;exact j7 (by simpa using c3 a.tag (List.mem_map_of_mem ha))
   have v2: ∀t∈s.gone,eQ t:=fun t ht=>by
    rw[ec,List.all_eq_true]at c4;exact j7 (by simpa using c4 t ht)
   have l3:=oT (s.puts.length:Int) (fun i=>cL (ix s.puts i)&&(!decide ((ix s.puts i).tag∈s.gone)&&(decide (i≤0)||decide (¬(0≤aG (ix s.puts (i - 1)).tag (ix s.puts i).tag))))) 3 (e8 s) 0 (fun fuel i _=>by
    rw[e8];rw[fH];split
    ·by_cases x1:cL (ix s.puts i)=true<;>by_cases x2:(ix s.puts i).tag∈s.gone<;>by_cases x3:0<i<;>by_cases x4:0≤aG (ix s.puts (i - 1)).tag (ix s.puts i).tag<;>simp[x1,x2,x3,x4]<;>omega
    ·rfl) (((s.puts.length:Int)-(0:Int)).toNat+1) 0 (by omega) (by omega)
   have hl4:=oT (s.gone.length:Int) (fun i=>decide (¬(0≤aG (ix s.gone (i - 1)) (ix s.gone i)))) 3 (eZ s) 1 (fun fuel i _=>by
    rw[eZ];by_cases x:0≤aG (ix s.gone (i - 1)) (ix s.gone i)<;>simp[x]<;>omega) (((s.gone.length:Int)-(1:Int)).toNat+1) 1 (by omega) (by omega)
   have hg:bJ s.gone↔ ∀j:Int,1≤j→j<s.gone.length→decide (¬(0≤aG (ix s.gone (j - 1)) (ix s.gone j)))=true:=by
    have:=lV s.gone aM dx;unfold bJ;rw[←this];constructor
    ·intro h j h1 h2;rw[bE (v2 _ (cG _ (by omega) (by omega))) (v2 _ (cG _ (by omega) h2)),decide_eq_true_eq];have:=(bW _ _).2 (h j h1 h2);omega
    ·intro h j h1 h2;have:=h j h1 h2;rw[bE (v2 _ (cG _ (by omega) (by omega))) (v2 _ (cG _ (by omega) h2)),decide_eq_true_eq]at this;exact(bW _ _).1 (by omega)
   have hp:=pI v1;have k3:(¬jN (ep s.puts)=true∨ ¬jN s.gone=true)↔ ¬(bJ (s.puts.map (·.tag))∧bJ s.gone):=by
    rw[nr,nq,nq,dy,dy];by_cases x:bJ (s.puts.map (·.tag))<;>simp[x]
   by_cases g:bJ (s.puts.map (·.tag))∧bJ s.gone
   ·obtain⟨g1,g2⟩:=g;rw[if_neg (fun h=>k3.1 h ⟨g1,g2⟩)];obtain⟨q5,l5⟩:=cN s.puts (fun p=>cL p&&!decide (p.tag∈s.gone)) 3 (fG s) (fun fuel i _=>by
     rw[fG,qW,sy g2];split
     ·by_cases x1:cL (ix s.puts i)=true<;>by_cases x2:(ix s.puts i).tag∈s.gone<;>simp[x1,x2]
     ·rfl)
    rw[l5];rcases l3 with⟨⟨q3,e3⟩,f3⟩|⟨e3,j,f1,f2,f3⟩
    ·have all:s.puts.all (fun p=>cL p&&!decide (p.tag∈s.gone))=true:=by
      rw[List.all_eq_true];intro p hp';obtain⟨k,hk,rfl⟩:=List.getElem_of_mem hp';have:=f3 k (by omega) (by omega);rw[ed _ hk]at this;simp only[Bool.and_eq_true]at this⊢;exact⟨this.1,this.2.1⟩
     rw[if_pos all];simp only[e3];rcases hl4 with⟨⟨q4,e4⟩,f4⟩|⟨e4,j,f1,f2,f4⟩
     ·simp only[e4]
     ·have:=hg.1 g2 j f1 f2;rw[this]at f4;cases f4
    ·have nall: ¬s.puts.all (fun p=>cL p&&!decide (p.tag∈s.gone))=true:=fun hall=>by
      rw[List.all_eq_true]at hall;have h3:=hall (ix s.puts j) (cG _ (by omega) f2);simp only[Bool.and_eq_true]at h3;have h4:(decide (j≤0)||decide (¬(0≤aG (ix s.puts (j - 1)).tag (ix s.puts j).tag)))=true:=by
       by_cases e:j≤0
       ·simp[e]
       ·have:=hp.2 g1 j (by omega) f2;simp only[Bool.or_eq_true,decide_eq_true_eq];exact .inr this
      simp only[h3.1,h3.2,h4,Bool.and_self]at f3;cases f3
     rw[if_neg nall];simp only[e3]
   ·rw[if_pos (k3.2 g)];rcases l3 with⟨⟨q3,e3⟩,f3⟩|⟨e3,j,f1,f2,f3⟩
    ·have g1:bJ (s.puts.map (·.tag)):=hp.1 fun j h1 h2=>by
      have:=f3 j (by omega) h2;simp only[Bool.and_eq_true,Bool.or_eq_true,decide_eq_true_eq]at this;rcases this.2.2 with h|h
      ·omega
      ·exact h
     simp only[e3];rcases hl4 with⟨⟨q4,e4⟩,f4⟩|⟨e4,j,f1,f2,f4⟩
     ·exact absurd ⟨g1,hg.2 f4⟩ g
     ·simp only[e4]
    ·simp only[e3]
  ·rw[if_pos (k2.2 fun h=>c4 h.2),if_neg c4]
 ·rw[if_pos (k2.2 fun h=>c3 h.1),if_neg c3]
end Go.Proofs.YtiliglahlfkikaaGreatDoor.V
end

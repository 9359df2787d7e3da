/- Functions walked: printed by the walker. -/
import Derived.Test.YtiliglahlfkikaaGreatDoorK18
import Derived.Test.YtiliglahlfkikaaGreatDoorK14
section
set_option linter.unusedVariables false
set_option linter.unusedSimpArgs false
set_option maxRecDepth 20000
set_option maxHeartbeats 4000000
namespace Go.Proofs.YtiliglahlfkikaaGreatDoor.V
open Go.RowKit
theorem uc{α:Type}(s:List α)(i:Int)(vs:List α):(gQ s i vs).length=s.length+vs.length:=by
 unfold gQ;simp only[List.length_append,List.length_take,List.length_drop];omega
theorem xl{α R:Type} [Inhabited α](x:List α)(c:α→Int)(L:Nat→Int→Int→R⊕(Int×Int))(h0: ∀i j,L 0 i j= .inr (i,j))(hL: ∀fuel i j,L (fuel+1) i j=if i<j then(if c (ix x ((i+j)/2))<0 then L fuel ((i+j)/2+1) j else L fuel i ((i+j)/2))else .inr (i,j)):
  ∀(fuel:Nat) (i j:Int),0≤i→i≤j→j≤x.length→ ∃q r:Int,L fuel i j= .inr (q,r)∧0≤q∧q≤x.length
 |0,i,j,h1,h2,h3=>⟨i,j,h0 i j,h1,by omega⟩
 |fuel+1,i,j,h1,h2,h3=>by
  rw[hL];split
  ·split
   ·exact xl x c L h0 hL fuel _ _ (by omega) (by omega) h3
   ·exact xl x c L h0 hL fuel _ _ h1 (by omega) (by omega)
  ·exact⟨i,j,rfl,h1,by omega⟩
theorem ud(x:List ae)(t:ae)(c:ae→ae→Int):0≤(cY x t c).1∧(cY x t c).1≤x.length:=by
 obtain⟨q,r,h,h1,h2⟩:=xl x (fun a=>c a t) (iq x t c) (fun _ _=>rfl) (fun _ _ _=>rfl) (((x.length:Int)-(0:Int)).toNat+1) 0 x.length (by omega) (by omega) (by omega);unfold cY;rw[h];exact⟨h1,h2⟩
theorem ue(x:List aT)(t:ae)(c:aT→ae→Int):0≤(fB x t c).1∧(fB x t c).1≤x.length:=by
 obtain⟨q,r,h,h1,h2⟩:=xl x (fun a=>c a t) (iu x t c) (fun _ _=>rfl) (fun _ _ _=>rfl) (((x.length:Int)-(0:Int)).toNat+1) 0 x.length (by omega) (by omega) (by omega);unfold fB;rw[h];exact⟨h1,h2⟩
def kC(s:aC)(t:ae):Bool:=
 (cY s.gone t fun(t t':ae)=>ab t t').snd
def MQ:bf U:=⟨[.d (.st 8),.d (.st 1)],fun xs es K=> ∃(s:aC) (t:ae),xs= [(rx s),(qF t)]∧es= []∧(s.gone.length≤1000000)∧K (.v (vb (kC s t))) []⟩
theorem GW:Fk 135 MQ:=by
 refine fo Tryz.f135 [.d .bool] [] (aa BI (aa GV ah)) fun xs es K=>?_;rintro⟨s,t,rfl,rfl,h2,h⟩;refine⟨rfl,?_⟩;have hf0:=kC.eq_1 s t;refine⟨fun(t t':ae)=>ab t t',fun t0 t1=>⟨_,_,rfl,rfl,rfl,rfl⟩,?_⟩;refine⟨_,_,_,rfl,rfl,(by omega),?_⟩;exact e0
def gU(a:aT):Bool:=
 br a.tag
def MR:bf U:=⟨[.d (.st 7)],fun xs es K=> ∃(a:aT),xs= [(FC a)]∧es= []∧K (.v (vb (gU a))) []⟩
theorem MS:Fk 167 MR:=by
 refine fo Tryz.f167 [.d .bool] [] (aa C6 ah) fun xs es K=>?_;rintro⟨a,rfl,rfl,h⟩;refine⟨rfl,?_⟩;have hf0:=gU.eq_1 a;refine⟨_,rfl,rfl,?_⟩;exact e0
def fC(a:aT)(b:aT):Int:=
 dN a b.tag
def MT:bf U:=⟨[.d (.st 7),.d (.st 7)],fun xs es K=> ∃(a:aT) (b:aT),xs= [(FC a),(FC b)]∧es= []∧K (.v (vi (fC a b))) []⟩
theorem MU:Fk 169 MT:=by
 refine fo Tryz.f169 [.d (.int .i64)] [] (aa Je ah) fun xs es K=>?_;rintro⟨a,b,rfl,rfl,h⟩;refine⟨rfl,?_⟩;have hf0:=fC.eq_1 a b;refine⟨_,_,rfl,rfl,?_⟩;exact e0
def i7(a:aT)(s:aC):Bool:=
 !iS a.elem||kC s a.tag
def MV:bf U:=⟨[.d (.st 7),.n],fun xs es K=> ∃(a:aT) (s:aC),xs= [(FC a),⟨false,[(1,.pd (.st 8) s)]⟩]∧es= []∧(s.gone.length≤1000000)∧K (.v (vb (i7 a s))) []⟩
theorem MW:Fk 171 MV:=by
 refine fo Tryz.f171 [.d .bool] [] (aa GU (aa GW ah)) fun xs es K=>?_;rintro⟨a,s,rfl,rfl,h2,h⟩;refine⟨rfl,?_⟩;have hf0:=i7.eq_1 a s;refine⟨_,rfl,rfl,?_⟩;refine⟨_,fun _=>⟨_,_,rfl,rfl,(by omega),rfl,rfl⟩,rfl,?_⟩;exact e0
def dF(s:aC):Int:=
 if(4096<(s.adds.length:Int))∨(4096<(s.gone.length:Int))then
  8
 else
  if((dT s.adds fun(t:aT)=>gU t)=true)∨((ba s.gone fun(t:ae)=>br t)=true)then
   2
  else
   if(¬(((d9 s.adds fun(t t':aT)=>fC t t')=true)∧((cS s.gone fun(t t':ae)=>ab t t')=true)))∨((dT s.adds fun(t:aT)=>i7 t s)=true)then
    3
   else
    0
def MX:bf U:=⟨[.d (.st 8)],fun xs es K=> ∃(s:aC),xs= [(rx s)]∧es= []∧(s.gone.length≤1000000)∧((fun(r0:Int)=>r0=0→s.adds.length≤4096∧s.gone.length≤4096) (dF s)→K (.v (vi (dF s))) [])⟩
theorem GX:Fk 112 MX:=by
 refine fo Tryz.f112 [.d (.int .i64)] [] (aa Jf (aa BI (aa C6 (aa MI (aa MS (aa MN (aa MU (aa MP (aa MW ah))))))))) fun xs es K=>?_;rintro⟨s,rfl,rfl,h2,h⟩;refine⟨rfl,?_⟩;have hf0:=dF.eq_1 s;refine fl (x:=s.adds.length) fun _=>?_;refine wI hf0 (fun _ hf0=>?_) fun _ hf0=>?_
 ·rw[hf0]at h;exact h (by omega)
 ·refine⟨fun(t:aT)=>gU t,fun t0=>⟨_,rfl,rfl,rfl,rfl⟩,?_⟩;refine⟨_,_,rfl,rfl,?_⟩;refine⟨_,fun h2=>⟨fun(t:ae)=>br t,fun t0=>⟨_,rfl,rfl,rfl,rfl⟩,_,_,rfl,rfl,rfl,rfl⟩,rfl,?_⟩;refine wI hf0 (fun _ hf0=>?_) fun _ hf0=>?_
  ·rw[hf0]at h;exact h (by omega)
  ·refine⟨fun(t t':aT)=>fC t t',fun t0 t1=>⟨_,_,rfl,rfl,rfl,rfl⟩,?_⟩;refine⟨_,_,rfl,rfl,?_⟩;refine⟨_,fun _=>⟨fun(t t':ae)=>ab t t',fun t0 t1=>⟨_,_,rfl,rfl,rfl,rfl⟩,_,_,rfl,rfl,rfl,rfl⟩,rfl,?_⟩;refine⟨_,fun _=>⟨fun(t:aT)=>i7 t s,fun t0=>⟨_,_,rfl,rfl,(by omega),rfl,rfl⟩,_,_,rfl,rfl,rfl,rfl⟩,rfl,?_⟩;refine wI hf0 (fun _ hf0=>?_) fun _ hf0=>?_
   ·rw[hf0]at h;exact h (by omega)
   ·rw[hf0]at h;exact h (by omega)
def iH(s:aC)(a:aT):aC×Int:=
 if dF s=0 then
  if br a.tag=true then
   (aC.mk [] [],2)
  else
   if iS a.elem=true then
    if(((fB s.adds a.tag fun(t:aT) (t':ae)=>dN t t').snd)=true)∨(kC s a.tag=true)then
     (aC.mk s.adds s.gone,0)
    else
     if(s.adds.length:Int)=4096 then
      (aC.mk [] [],4)
     else
      (aC.mk (gQ s.adds (fB s.adds a.tag fun(t:aT) (t':ae)=>dN t t').fst [a]) s.gone,0)
   else
    (aC.mk [] [],3)
 else
  (aC.mk [] [],dF s)
def PL:bf U:=⟨[.d (.st 8),.d (.st 7)],fun xs es K=> ∃(s:aC) (a:aT),xs= [(rx s),(FC a)]∧es= []∧(s.adds.length≤1000000)∧(s.gone.length≤1000000)∧((fun(r0:aC) (r1:Int)=>r0.adds.length≤4097∧r0.gone.length≤4097) ((iH s a).1) ((iH s a).2)→K (.tup [(rx ((iH s a).1)),(vi ((iH s a).2))]) [])⟩
theorem PM:Fk 81 PL:=by
 refine fo Tryz.f81 [.d (.st 8),.d (.int .i64)] [] (aa Is (aa AC (aa GX (aa GU (aa C6 (aa ML (aa Je (aa GW (aa NU ah))))))))) fun xs es K=>?_;rintro⟨s,a,rfl,rfl,h1,h2,h⟩;refine⟨rfl,?_⟩;have hf0:=iH.eq_1 s a;refine⟨_,rfl,rfl,(by omega),?_⟩;refine fun _=>?_;refine wN hf0 (fun h1 hf0=>?_) fun h1 hf0=>?_
 ·rw[hf0]at h;exact h (by simp)
 ·refine⟨_,rfl,rfl,?_⟩;refine wI hf0 (fun h2 hf0=>?_) fun h2 hf0=>?_
  ·rw[hf0]at h;exact h (by simp)
  ·refine⟨_,rfl,rfl,?_⟩;refine wN hf0 (fun _ hf0=>?_) fun _ hf0=>?_
   ·rw[hf0]at h;exact h (by simp)
   ·refine⟨fun(t:aT) (t':ae)=>dN t t',fun t0 t1=>⟨_,_,rfl,rfl,rfl,rfl⟩,?_⟩;refine⟨_,_,_,rfl,rfl,(by omega),?_⟩;refine .inr ⟨(.look 0 (.look 1 (.look 3 (.look 4 (.turn 2 (.turn 5 (.look 6 (.turn 7 .fin .nil)) (.turn 7 (.turn 5 (.look 6 .fin) .nil) .nil)) (.turn 7 (.turn 2 (.turn 5 (.look 6 .fin) .nil) .nil) .nil)))))),some 8,[],6,[(2,.v ⟨false,[(1,.ptr 0 0)]⟩),(3,.v ⟨false,[(1,.ptr 1 0)]⟩),(4,.v ⟨false,[(1,.ptr 2 0)]⟩),(5,.v ⟨false,[(1,.d (.int .i64) (0:Int))]⟩),(7,.v ⟨false,[(1,.d (.int .i64) ((fB s.adds a.tag fun(t:aT) (t':ae)=>dN t t').fst))]⟩),(8,.v ⟨false,[(1,.d .bool ((fB s.adds a.tag fun(t:aT) (t':ae)=>dN t t').snd))]⟩),(9,.v ⟨false,[(1,.ptr 5 0)]⟩)],[(0,.cells [(2,.d (.st 8) s)] 56),(1,.cells [(4,.d (.st 7) a)] 159),(2,.cells [(1,.nils),(1,.nils)] 56),(3,.row 0 (.st 7) s.adds 159),(4,.row 0 (.st 1) s.gone 34),(5,.cells [(1,.own 3 0),(1,.own 4 0)] 56)],True,by kernel_rfl,?_,?_⟩
    ·refine And.intro ?_ ?_
     ·refine⟨_,rfl,rfl,(by assumption),?_⟩;refine And.intro ?_ ?_
      ·refine⟨_,rfl,rfl,(by assumption),?_⟩;refine And.intro ?_ trivial;refine⟨trivial,[],?_⟩;repeat (first|exact trivial|refine And.intro rfl ?_)
      refine And.intro ?_ trivial;refine And.intro ?_ trivial;refine⟨_,rfl,rfl,(by assumption),?_⟩;refine⟨trivial,[(5,4),(4,5)],?_⟩;repeat (first|exact trivial|refine And.intro rfl ?_)
     refine And.intro ?_ trivial;refine And.intro ?_ trivial;refine⟨_,rfl,rfl,(by assumption),?_⟩;refine And.intro ?_ trivial;refine⟨_,rfl,rfl,(by assumption),?_⟩;refine⟨trivial,[(5,3),(3,4),(4,5)],?_⟩;repeat (first|exact trivial|refine And.intro rfl ?_)
    refine fun _=>?_;refine⟨_,fun _=>⟨_,_,rfl,rfl,(by omega),rfl,rfl⟩,rfl,?_⟩;refine wI hf0 (fun _ hf0=>?_) fun _ hf0=>?_
    ·rw[hf0]at h;exact h (by(dsimp only;omega))
    ·refine fl (x:=s.adds.length) fun _=>?_;refine wI hf0 (fun _ hf0=>?_) fun _ hf0=>?_
     ·rw[hf0]at h;exact h (by simp)
     ·refine⟨_,_,_,rfl,rfl,((ue _ _ _).1),((ue _ _ _).2),(by assumption),?_⟩;rw[hf0]at h;exact h (by(dsimp only;rw[uc];simp only[List.length_cons,List.length_nil];omega))
def na(a:aT)(out:aC):Bool:=
 kC out a.tag
def MY:bf U:=⟨[.d (.st 7),.n],fun xs es K=> ∃(a:aT) (out:aC),xs= [(FC a),⟨false,[(1,.pd (.st 8) out)]⟩]∧es= []∧(out.gone.length≤1000000)∧K (.v (vb (na a out))) []⟩
theorem MZ:Fk 141 MY:=by
 refine fo Tryz.f141 [.d .bool] [] (aa GW ah) fun xs es K=>?_;rintro⟨a,out,rfl,rfl,h2,h⟩;refine⟨rfl,?_⟩;have hf0:=na.eq_1 a out;refine⟨_,_,rfl,rfl,(by omega),?_⟩;exact e0
end Go.Proofs.YtiliglahlfkikaaGreatDoor.V
end

section
set_option linter.unusedVariables false
set_option linter.unusedSimpArgs false
set_option maxRecDepth 20000
set_option maxHeartbeats 4000000
namespace Go.Proofs.YtiliglahlfkikaaGreatDoor.V
open Go.RowKit
def gX(v:List Int):Nat→Int→Int⊕(Int)
 |0,s6=> .inr s6
 |n1+1,s6=>
  if s6<8 then
   if 1048576<ix v s6 then
    .inl 2
   else
    gX v n1 (s6+1)
  else
   .inr s6
def jo(v:List Int):Int:=
 match gX v (((8:Int)-(0:Int)).toNat+1) (0:Int)with
 | .inl r=>r
 | .inr s6=>
  0
def P0:bf U:=⟨[.d (.arr 8 (.int .u32))],fun xs es K=> ∃(v:List Int),xs= [(ic v)]∧es= []∧K (.v (vi (jo v))) []⟩
theorem P1:Fk 43 P0:=by
 refine fo Tryz.f43 [.d (.int .i64)] [] (ah) fun xs es K=>?_;rintro⟨v,rfl,rfl,h⟩;refine⟨rfl,?_⟩;have hf0:=jo.eq_1 v;refine lI 1 (fun(s6:Int)=> [(2,.v (vi 0)),(5,.v (ic v)),(6,.v (vi s6))]) (fun(s6:Int)=> []) (fun(s6:Int)=>(8 - s6).toNat) (fun(s6:Int)=>(0≤s6)∧(s6≤8)∧True) (fun n1 (s6:Int)=>gX v n1 s6) (gX v (((8:Int)-(0:Int)).toNat+1) (0:Int)) [] (0:Int) ?_;rintro s6 ⟨n1,hc1,⟨hi1_0,hi1_1,-⟩,hf1⟩;have hf1:=hf1.trans (gX.eq_2 v s6 n1);refine wI hf1 (fun _ hf1=>?_) fun _ hf1=>e1;refine vs (P:=0≤s6∧s6<((8:Nat):Int)) ?_;refine wI hf1 (fun _ hf1=>e1) fun _ hf1=>?_;refine bY ?_;exact nx [] (s6+1) hc1 hf1
def lC(b:List Int):Nat→Int→(List Int)→(List Int)⊕(Int×(List Int))
 |0,s8,s2_0=> .inr (s8,s2_0)
 |n1+1,s8,s2_0=>
  if s8<8 then
   lC b n1 (s8+1) (s2_0.set s8.toNat (max (ix s2_0 s8) (ix b s8)))
  else
   .inr (s8,s2_0)
def oQ(a:List Int)(b:List Int):List Int:=
 match lC b (((8:Int)-(0:Int)).toNat+1) (0:Int) a with
 | .inl r=>r
 | .inr (s8,s2_0)=>
  s2_0
def P2:bf U:=⟨[.d (.arr 8 (.int .u32)),.d (.arr 8 (.int .u32))],fun xs es K=> ∃(a:List Int) (b:List Int),xs= [(ic a),(ic b)]∧es= []∧K (.v (ic (oQ a b))) []⟩
theorem P3:Fk 99 P2:=by
 refine fo Tryz.f99 [.d (.arr 8 (.int .u32))] [] (ah) fun xs es K=>?_;rintro⟨a,b,rfl,rfl,h⟩;refine⟨rfl,?_⟩;have hf0:=oQ.eq_1 a b;refine⟨Int×(List Int),3,fun(s8,s2_0)=> [(2,.v ⟨false,[(1,.ptr 0 0)]⟩),(4,.v ⟨false,[(1,.ptr 2 0)]⟩),(7,.v ⟨true,[(8,.d (.arr 8 (.int .u32)) b)]⟩),(8,.v ⟨false,[(1,.d (.int .i64) s8)]⟩)],fun(s8,s2_0)=> [(0,.cells [(8,.d (.arr 8 (.int .u32)) s2_0)] 41),(2,.cells [(1,.d (.int .u32) (0:Int)),(1,.d (.int .u32) (0:Int)),(1,.d (.int .u32) (0:Int)),(1,.d (.int .u32) (0:Int)),(1,.d (.int .u32) (0:Int)),(1,.d (.int .u32) (0:Int)),(1,.d (.int .u32) (0:Int)),(1,.d (.int .u32) (0:Int))] 41)],d5 (fun(s8,s2_0)=>((8:Int)- s8).toNat) (fun(s8,s2_0)=>((0:Int)≤s8)∧(s8≤(8:Int))∧True) (fun n1 (s8,s2_0)=>lC b n1 s8 s2_0) (lC b (((8:Int)-(0:Int)).toNat+1) (0:Int) a),fun(s8,s2_0)=>((8:Int)- s8).toNat,⟨[],((0:Int),a),d5.mk0 _ (Nat.lt_succ_self _) ⟨show(0:Int)≤(0:Int)from by omega,show(0:Int)≤(8:Int)from by omega,trivial⟩ rfl,?_⟩,?_⟩
 ·repeat (first|exact trivial|refine And.intro rfl ?_)
 ·rintro⟨s8,s2_0⟩ ⟨n1,hc1,⟨hi1_0,hi1_1,-⟩,hf1⟩;have hf1:=hf1.trans (lC.eq_2 b s8 s2_0 n1);refine vI hf1 iD (fun _ hf1=>?_) (fun _ hf1=>?_)
  ·refine And.intro (show(0:Int)≤s8∧s8<(↑(8:Nat):Int)from by omega) ?_;refine And.intro (show(0:Int)≤s8∧s8<(↑(8:Nat):Int)from by omega) ?_;refine And.intro (show(0:Int)≤s8∧s8<(↑(8:Nat):Int)from by omega) ?_;refine .inl (And.intro (rD (p:=s8) (q:=(1:Int)) (r:=s8+(1:Int)) (by omega)) ?_);have hm1:((8:Int)-(s8+(1:Int))).toNat<((8:Int)- s8).toNat:=by omega
   refine⟨[],(s8+(1:Int),s2_0.set s8.toNat (max (ix s2_0 s8) (ix b s8))),hm1,d5.next (s:=(s8,s2_0)) hc1 hm1 ⟨show(0:Int)≤s8+(1:Int)from by omega,show s8+(1:Int)≤(8:Int)from by omega,trivial⟩ hf1,?_⟩;repeat (first|exact trivial|refine And.intro rfl ?_)
  ·rw[hf1]at hf0;rw[hf0]at h;exact h
def ug(a:List Int)(b:List Int):Bool:=
 decide (oQ a b=b)
def P4:bf U:=⟨[.d (.arr 8 (.int .u32)),.d (.arr 8 (.int .u32))],fun xs es K=> ∃(a:List Int) (b:List Int),xs= [(ic a),(ic b)]∧es= []∧K (.v (vb (ug a b))) []⟩
theorem P5:Fk 44 P4:=by
 refine fo Tryz.f44 [.d .bool] [] (aa P3 ah) fun xs es K=>?_;rintro⟨a,b,rfl,rfl,h⟩;refine⟨rfl,?_⟩;have hf0:=ug.eq_1 a b;refine dp [(true,0),(true,1),(true,3),(false,2),(true,4),(true,5)] none (nw 2) ?_;refine⟨_,_,rfl,rfl,?_⟩;exact e0
theorem qS{id:kW}(h:fV id=0):0≤id.origin∧id.origin≤7∧id.seq≤1048576:=by
 unfold fV at h;split at h
 ·cases h
 ·omega
def dG(v:List Int)(id:kW):Bool:=
 decide (fV id=0)&&decide (id.seq≤ix v id.origin)
def P6:bf U:=⟨[.d (.arr 8 (.int .u32)),.d (.st 0)],fun xs es K=> ∃(v:List Int) (id:kW),xs= [(ic v),(BH id)]∧es= []∧K (.v (vb (dG v id))) []⟩
theorem Jg:Fk 36 P6:=by
 refine fo Tryz.f36 [.d .bool] [] (aa OU ah) fun xs es K=>?_;rintro⟨v,id,rfl,rfl,h⟩;refine⟨rfl,?_⟩;have hf0:=dG.eq_1 v id;refine dp [(true,0),(false,1),(true,2),(true,3),(true,4),(true,5),(true,6),(true,7),(true,8),(true,9),(true,10),(true,11),(true,12)] none (nw 2) ?_;refine⟨_,rfl,rfl,?_⟩;refine And.intro (show decide (fV id=(0:Int))=((8:Nat),true).snd→(0:Int)≤id.origin∧id.origin<(↑(8:Nat):Int)from(fun h=>⟨(qS (of_decide_eq_true h)).1,by have:=(qS (of_decide_eq_true h)).2.1;simp;omega⟩)) ?_;exact e0
def jL(t:ae)(v:List (Int)):Bool:=
 dG v t.id
def Nf:bf U:=⟨[.d (.st 1),.n],fun xs es K=> ∃(t:ae) (v:List (Int)),xs= [(qF t),⟨false,[(1,.pd (.arr 8 (.int .u32)) v)]⟩]∧es= []∧K (.v (vb (jL t v))) []⟩
theorem Ng:Fk 163 Nf:=by
 refine fo Tryz.f163 [.d .bool] [] (aa Jg ah) fun xs es K=>?_;rintro⟨t,v,rfl,rfl,h⟩;refine⟨rfl,?_⟩;have hf0:=jL.eq_1 t v;refine⟨_,_,rfl,rfl,?_⟩;exact e0
def jM(t:ae)(v:List (Int)):Bool:=
 dG v t.id
def Nh:bf U:=⟨[.d (.st 1),.n],fun xs es K=> ∃(t:ae) (v:List (Int)),xs= [(qF t),⟨false,[(1,.pd (.arr 8 (.int .u32)) v)]⟩]∧es= []∧K (.v (vb (jM t v))) []⟩
theorem Ni:Fk 165 Nh:=by
 refine fo Tryz.f165 [.d .bool] [] (aa Jg ah) fun xs es K=>?_;rintro⟨t,v,rfl,rfl,h⟩;refine⟨rfl,?_⟩;have hf0:=jM.eq_1 t v;refine⟨_,_,rfl,rfl,?_⟩;exact e0
def lD(a:bi)(b:bi):bi:=
 if jK [jm a.at_ b.at_,pC a.val b.val]<0 then
  b
 else
  a
def Nj:bf U:=⟨[.d (.st 5),.d (.st 5)],fun xs es K=> ∃(a:bi) (b:bi),xs= [(yO a),(yO b)]∧es= []∧K (.v (yO (lD a b))) []⟩
theorem Nk:Fk 130 Nj:=by
 refine fo Tryz.f130 [.d (.st 5)] [] (aa C5 (aa MD (aa Mr ah))) fun xs es K=>?_;rintro⟨a,b,rfl,rfl,h⟩;refine⟨rfl,?_⟩;have hf0:=lD.eq_1 a b;refine dp [(true,0),(true,1),(true,2),(true,3),(true,5),(true,6),(true,7),(true,8),(false,4),(false,9),(false,10),(false,11),(true,12)] none (nw 3) ?_;refine⟨_,_,rfl,rfl,?_⟩;refine⟨_,_,rfl,rfl,?_⟩;refine⟨_,rfl,rfl,?_⟩;exact wI hf0 (fun _ hf0=>e0) fun _ hf0=>e0
def iv(s:bi)(val:Int)(tm:au):bi×Int:=
 if j4 [fW s.at_,fW tm]=0 then
  if tm.time=0 then
   (bi.mk 0 (au.mk 0 0),2)
  else
   (lD s (bi.mk val tm),0)
 else
  (bi.mk 0 (au.mk 0 0),j4 [fW s.at_,fW tm])
def P7:bf U:=⟨[.d (.st 5),.d (.int .i64),.d (.st 2)],fun xs es K=> ∃(s:bi) (val:Int) (tm:au),xs= [(yO s),(vi val),(Ex tm)]∧es= []∧K (.tup [(yO ((iv s val tm).1)),(vi ((iv s val tm).2))]) []⟩
theorem P8:Fk 79 P7:=by
 refine fo Tryz.f79 [.d (.st 5),.d (.int .i64)] [] (aa GT (aa Mu (aa Nk ah))) fun xs es K=>?_;rintro⟨s,val,tm,rfl,rfl,h⟩;refine⟨rfl,?_⟩;have hf0:=iv.eq_1 s val tm;refine dp [(true,0),(true,1),(true,3),(false,2),(false,4),(false,5),(false,6),(true,7)] none (nw 3) ?_;refine⟨_,rfl,rfl,?_⟩;refine⟨_,rfl,rfl,?_⟩;refine⟨_,rfl,rfl,?_⟩;refine wN hf0 (fun _ hf0=>e0) fun _ hf0=>?_;refine wI hf0 (fun _ hf0=>e0) fun _ hf0=>?_;refine⟨_,_,rfl,rfl,?_⟩;exact e0
def go(low:Int)(high:Int)(l:List Int):Nat→Int→Bool⊕(Int)
 |0,s11=> .inr s11
 |n1+1,s11=>
  if s11<(l.length:Int)then
   if(ix l s11<low)∨(high<ix l s11)then
    .inl false
   else
    go low high l n1 (s11+1)
  else
   .inr s11
def ja(low:Int)(high:Int)(l:List Int):Bool:=
 match go low high l (((l.length:Int)- 0).toNat+1) 0 with
 | .inl r=>r
 | .inr s11=>
  true
def Nl:bf U:=⟨[.d (.int .i64),.d (.int .i64),.d (.sl (.int .i64))],fun xs es K=> ∃(low:Int) (high:Int) (l:List Int),xs= [(vi low),(vi high),(Iw l)]∧es= []∧K (.v (vb (ja low high l))) []⟩
theorem Nm:Fk 185 Nl:=by
 refine fo Tryz.f185 [.d .bool] [] (ah) fun xs es K=>?_;rintro⟨low,high,l,rfl,rfl,h⟩;refine⟨rfl,?_⟩;have hf0:=ja.eq_1 low high l;refine fl (x:=l.length) fun _=>?_;refine lI 0 (fun(s11:Int)=> [(0,.v (vi low)),(1,.v (vi high)),(6,.v (vb false)),(9,.v (Iw l)),(10,.v (vi (l.length:Int))),(11,.v (vi s11))]) (fun(s11:Int)=> []) (fun(s11:Int)=>((l.length:Int)- s11).toNat) (fun(s11:Int)=>(0≤s11)∧(s11≤(l.length:Int))∧True) (fun n1 (s11:Int)=>go low high l n1 s11) (go low high l (((l.length:Int)- 0).toNat+1) 0) [] (0:Int) ?_;rintro s11 ⟨n1,hc1,⟨hi1_0,hi1_1,-⟩,hf1⟩;have hf1:=hf1.trans (go.eq_2 low high l s11 n1);refine wI hf1 (fun _ hf1=>?_) fun _ hf1=>e1;refine vx s11 l ?_;refine wI hf1 (fun _ hf1=>e1) fun _ hf1=>?_;refine bY ?_;exact nx [] (s11+1) hc1 hf1
def gH(a:Int)(b:Int):Int×Int:=
 if ja (-1125899906842624) 1125899906842624 [a,b]=true then
  if ja (-1125899906842624) 1125899906842624 [IntKind.i64.wrap (a+b)]=true then
   (IntKind.i64.wrap (a+b),0)
  else
   (0,12)
 else
  (0,2)
def Nn:bf U:=⟨[.d (.int .i64),.d (.int .i64)],fun xs es K=> ∃(a:Int) (b:Int),xs= [(vi a),(vi b)]∧es= []∧K (.tup [(vi ((gH a b).1)),(vi ((gH a b).2))]) []⟩
theorem No:Fk 131 Nn:=by
 refine fo Tryz.f131 [.d (.int .i64),.d (.int .i64)] [] (aa Nm ah) fun xs es K=>?_;rintro⟨a,b,rfl,rfl,h⟩;refine⟨rfl,?_⟩;have hf0:=gH.eq_1 a b;refine⟨_,_,_,rfl,rfl,?_⟩;refine wN hf0 (fun _ hf0=>e0) fun _ hf0=>?_;refine .inr ?_;refine⟨_,_,_,rfl,rfl,?_⟩;refine wN hf0 (fun _ hf0=>e0) fun _ hf0=>?_;refine .inr ?_;exact e0
def gZ(s:be):Nat→Int→Int⊕(Int)
 |0,s10=> .inr s10
 |n1+1,s10=>
  if s10<2 then
   if(ix [s.plus,s.minus] s10<0)∨(1125899906842624<ix [s.plus,s.minus] s10)then
    .inl 2
   else
    gZ s n1 (s10+1)
  else
   .inr s10
def jp(s:be):Int:=
 match gZ s (((2:Int)-(0:Int)).toNat+1) (0:Int)with
 | .inl r=>r
 | .inr s10=>
  0
def Np:bf U:=⟨[.d (.st 6)],fun xs es K=> ∃(s:be),xs= [(FB s)]∧es= []∧K (.v (vi (jp s))) []⟩
theorem Nq:Fk 111 Np:=by
 refine fo Tryz.f111 [.d (.int .i64)] [] (ah) fun xs es K=>?_;rintro⟨s,rfl,rfl,h⟩;refine⟨rfl,?_⟩;have hf0:=jp.eq_1 s;refine lI 1 (fun(s10:Int)=> [(2,.v (vi 0)),(9,.v ⟨true,[(1,.d (.int .i64) s.plus),(1,.d (.int .i64) s.minus)]⟩),(10,.v (vi s10))]) (fun(s10:Int)=> []) (fun(s10:Int)=>(2 - s10).toNat) (fun(s10:Int)=>(0≤s10)∧(s10≤2)∧True) (fun n1 (s10:Int)=>gZ s n1 s10) (gZ s (((2:Int)-(0:Int)).toNat+1) (0:Int)) [] (0:Int) ?_;rintro s10 ⟨n1,hc1,⟨hi1_0,hi1_1,-⟩,hf1⟩;have hf1:=hf1.trans (gZ.eq_2 s s10 n1);refine wI hf1 (fun _ hf1=>?_) fun _ hf1=>e1;refine vs (P:=0≤s10∧s10<((2:Nat):Int)) ?_;refine wI hf1 (fun _ hf1=>e1) fun _ hf1=>?_;refine bY ?_;exact nx [] (s10+1) hc1 hf1
def iw(s:be)(n:Int):be×Int:=
 if jp s=0 then
  if(n<(-1073741824))∨(1073741824<n)then
   (be.mk 0 0,2)
  else
   if n<0 then
    if(gH s.minus (-n)).snd=0 then
     (be.mk s.plus (gH s.minus (-n)).fst,0)
    else
     (be.mk 0 0,(gH s.minus (-n)).snd)
   else
    if(gH s.plus n).snd=0 then
     (be.mk (gH s.plus n).fst s.minus,0)
    else
     (be.mk 0 0,(gH s.plus n).snd)
 else
  (be.mk 0 0,jp s)
def P9:bf U:=⟨[.d (.st 6),.d (.int .i64)],fun xs es K=> ∃(s:be) (n:Int),xs= [(FB s),(vi n)]∧es= []∧K (.tup [(FB ((iw s n).1)),(vi ((iw s n).2))]) []⟩
theorem Qa:Fk 80 P9:=by
 refine fo Tryz.f80 [.d (.st 6),.d (.int .i64)] [] (aa Nq (aa No ah)) fun xs es K=>?_;rintro⟨s,n,rfl,rfl,h⟩;refine⟨rfl,?_⟩;have hf0:=iw.eq_1 s n;refine⟨_,rfl,rfl,?_⟩;refine wN hf0 (fun _ hf0=>e0) fun _ hf0=>?_;refine wI hf0 (fun _ hf0=>e0) fun _ hf0=>?_;refine wI hf0 (fun _ hf0=>?_) fun _ hf0=>?_
 ·refine bY ?_;refine⟨_,_,rfl,rfl,?_⟩;exact wN hf0 (fun _ hf0=>e0) fun _ hf0=>e0
 ·refine⟨_,_,rfl,rfl,?_⟩;exact wN hf0 (fun _ hf0=>e0) fun _ hf0=>e0
def j6(act:Int):Int:=
 if act=1 then
  1
 else
  if act=2 then
   2
  else
   if act=3 then
    3
   else
    if act=4 then
     3
    else
     if act=5 then
      4
     else
      if act=6 then
       4
      else
       0
def Qb:bf U:=⟨[.d (.int .i64)],fun xs es K=> ∃(act:Int),xs= [(vi act)]∧es= []∧K (.v (vi (j6 act))) []⟩
theorem Nr:Fk 35 Qb:=by
 refine fo Tryz.f35 [.d (.int .i64)] [] (ah) fun xs es K=>?_;rintro⟨act,rfl,rfl,h⟩;refine⟨rfl,?_⟩;have hf0:=j6.eq_1 act;refine wI hf0 (fun _ hf0=>e0) fun _ hf0=>?_;refine wI hf0 (fun _ hf0=>e0) fun _ hf0=>?_;refine wI hf0 (fun _ hf0=>?_) fun _ hf0=>?_
 ·refine vT iD (by omega) ?_;exact e0
 ·refine wI hf0 (fun _ hf0=>e0) fun _ hf0=>?_;refine wI hf0 (fun _ hf0=>?_) fun _ hf0=>wI hf0 (fun _ hf0=>e0) fun _ hf0=>e0;refine vT iD (by omega) ?_;exact e0
def iT(kind:Int):az×Int:=
 if(kind<1)∨(4<kind)then
  (az.mk 0 (bi.mk 0 (au.mk 0 0)) (be.mk 0 0) (aC.mk [] []) (aD.mk [] []),5)
 else
  (az.mk kind (bi.mk 0 (au.mk 0 0)) (be.mk 0 0) (aC.mk [] []) (aD.mk [] []),0)
def Qc:bf U:=⟨[.d (.int .i64)],fun xs es K=> ∃(kind:Int),xs= [(vi kind)]∧es= []∧K (.tup [(ki ((iT kind).1)),(vi ((iT kind).2))]) []⟩
theorem Ns:Fk 32 Qc:=by
 refine fo Tryz.f32 [.d (.st 10),.d (.int .i64)] [] (ah) fun xs es K=>?_;rintro⟨kind,rfl,rfl,h⟩;refine⟨rfl,?_⟩;have hf0:=iT.eq_1 kind;exact wI hf0 (fun _ hf0=>e0) fun _ hf0=>e0
def bL(o:Int):jB:=
 if o=5 then
  jB.mk true true true false
 else
  if o=1 then
   jB.mk false true true false
  else
   if o=2 then
    jB.mk false true false false
   else
    if o=4 then
     jB.mk true false false true
    else
     if o=6 then
      jB.mk true false false true
     else
      if o=3 then
       jB.mk true false false false
      else
       jB.mk false false false false
def Qd:bf U:=⟨[.d (.int .i64)],fun xs es K=> ∃(o:Int),xs= [(vi o)]∧es= []∧K (.v ⟨true,[(4,.d (.st 15) (bL o))]⟩) []⟩
theorem OX:Fk 74 Qd:=by
 refine fo Tryz.f74 [.d (.st 15)] [] (ah) fun xs es K=>?_;rintro⟨o,rfl,rfl,h⟩;refine⟨rfl,?_⟩;have hf0:=bL.eq_1 o;refine wI hf0 (fun _ hf0=>e0) fun _ hf0=>?_;refine wI hf0 (fun _ hf0=>e0) fun _ hf0=>?_;refine wI hf0 (fun _ hf0=>e0) fun _ hf0=>?_;refine wI hf0 (fun _ hf0=>?_) fun _ hf0=>wI hf0 (fun _ hf0=>e0) fun _ hf0=>wI hf0 (fun _ hf0=>e0) fun _ hf0=>e0;refine vT iD (by omega) ?_;exact e0
def jr(r:Int):Bool:=
 decide (97≤r)&&decide (r≤122)||decide (48≤r)&&decide (r≤57)
def Qe:bf U:=⟨[.d (.int .u8)],fun xs es K=> ∃(r:Int),xs= [(vc r)]∧es= []∧K (.v (vb (jr r))) []⟩
theorem Qf:Fk 70 Qe:=by
 refine fo Tryz.f70 [.d .bool] [] (ah) fun xs es K=>?_;rintro⟨r,rfl,rfl,h⟩;refine⟨rfl,?_⟩;have hf0:=jr.eq_1 r;exact e0
def dH(t:ae):Bool:=
 decide ¬dM t=0
def Qg:bf U:=⟨[.d (.st 1)],fun xs es K=> ∃(t:ae),xs= [(qF t)]∧es= []∧K (.v (vb (dH t))) []⟩
theorem Qh:Fk 72 Qg:=by
 refine fo Tryz.f72 [.d .bool] [] (aa GS ah) fun xs es K=>?_;rintro⟨t,rfl,rfl,h⟩;refine⟨rfl,?_⟩;have hf0:=dH.eq_1 t;refine⟨_,rfl,rfl,?_⟩;exact e0
def aB(s:az):az:=
 az.mk s.kind s.reg s.num (aC.mk s.set.adds s.set.gone) (aD.mk s.map.puts s.map.gone)
def Qi:bf U:=⟨[.d (.st 10)],fun xs es K=> ∃(s:az),xs= [(ki s)]∧es= []∧(s.set.adds.length≤1000000)∧(s.set.gone.length≤1000000)∧(s.map.puts.length≤1000000)∧(s.map.gone.length≤1000000)∧K (.v (ki (aB s))) []⟩
theorem OY:Fk 78 Qi:=by
 refine fo Tryz.f78 [.d (.st 10)] [] (aa Is (aa AC (aa Dl ah))) fun xs es K=>?_;rintro⟨s,rfl,rfl,h1,h2,h3,h4,h⟩;refine⟨rfl,?_⟩;have hf0:=aB.eq_1 s;refine dp [(true,0),(true,1),(true,2),(true,4),(true,5),(true,6),(false,3),(false,7),(true,8),(true,9)] (some 10) (nw 2) ?_;refine⟨_,rfl,rfl,(by assumption),?_⟩;refine⟨_,rfl,rfl,(by assumption),?_⟩;refine dp [(true,0),(true,1),(true,2),(true,4),(true,5),(true,6),(false,3),(false,7),(true,8),(true,9)] (some 10) (nw 4) ?_;refine⟨_,rfl,rfl,(by assumption),?_⟩;refine⟨_,rfl,rfl,(by assumption),?_⟩;exact e0
def jb(e:au):Bool:=
 decide (fW e=0)&&decide (0<e.time)
def Qj:bf U:=⟨[.d (.st 2)],fun xs es K=> ∃(e:au),xs= [(Ex e)]∧es= []∧K (.v (vb (jb e))) []⟩
theorem Qk:Fk 75 Qj:=by
 refine fo Tryz.f75 [.d .bool] [] (aa GT ah) fun xs es K=>?_;rintro⟨e,rfl,rfl,h⟩;refine⟨rfl,?_⟩;have hf0:=jb.eq_1 e;refine⟨_,rfl,rfl,?_⟩;exact e0
def gy(o:sZ):Int:=
 if j6 o.act=0 then
  5
 else
  if((bL o.act).name=true)∧(¬(iS o.name=true))then
   3
  else
   if(¬((bL o.act).name=true))∧(¬o.name= [])then
    3
   else
    if(¬((bL o.act).val=true))∧(¬o.val=0)then
     3
    else
     if(o.act=2)∧((o.val<(-1073741824))∨(1073741824<o.val))then
      2
     else
      0
def Ql:bf U:=⟨[.d (.st 16)],fun xs es K=> ∃(o:sZ),xs= [(Ll o)]∧es= []∧K (.v (vi (gy o))) []⟩
theorem Qm:Fk 71 Ql:=by
 refine fo Tryz.f71 [.d (.int .i64)] [] (aa Nr (aa OX (aa GU ah))) fun xs es K=>?_;rintro⟨o,rfl,rfl,h⟩;refine⟨rfl,?_⟩;have hf0:=gy.eq_1 o;refine⟨_,rfl,rfl,?_⟩;refine wI hf0 (fun _ hf0=>e0) fun _ hf0=>?_;refine⟨_,rfl,rfl,?_⟩;refine⟨_,fun _=>⟨_,rfl,rfl,rfl,rfl⟩,rfl,?_⟩;refine wI hf0 (fun _ hf0=>?_) fun _ hf0=>?_
 ·refine vT (iA iB (iN iB)) (show((bL o.act).name=true)∧(¬(iS o.name=true))from by omega) ?_;exact e0
 ·refine wI hf0 (fun _ hf0=>?_) fun _ hf0=>wI hf0 (fun _ hf0=>e0) fun _ hf0=>wI hf0 (fun _ hf0=>e0) fun _ hf0=>e0;refine vT (iA (iN iB) iD) (show(¬((bL o.act).name=true))∧(¬o.name= [])from by omega) ?_;exact e0
def gp(e:af):Nat→Int→Int⊕(Int)
 |0,s5=> .inr s5
 |n1+1,s5=>
  if s5<(e.tags.length:Int)then
   if 0≤ab (ix e.tags (s5 - 1)) (ix e.tags s5)then
    .inl 3
   else
    gp e n1 (s5+1)
  else
   .inr s5
def fD(e:af):Int:=
 if gy (sZ.mk e.act e.name e.val)=0 then
  if(dH e.tag=true)∨((ba e.tags fun(t:ae)=>dH t)=true)then
   2
  else
   if 4096<(e.tags.length:Int)then
    8
   else
    if((((bL e.act).at_=true)∧(¬(jb e.at_=true)))∨((¬((bL e.act).at_=true))∧(¬(e.at_=au.mk 0 0))))∨((¬((bL e.act).tags=true))∧(0<(e.tags.length:Int)))then
     3
    else
     match gp e (((e.tags.length:Int)- 1).toNat+1) 1 with
     | .inl r=>r
     | .inr s5=>
      0
 else
  gy (sZ.mk e.act e.name e.val)
def Qn:bf U:=⟨[.d (.st 3)],fun xs es K=> ∃(e:af),xs= [(BG e)]∧es= []∧((fun(r0:Int)=>r0=0→e.tags.length≤4096) (fD e)→K (.v (vi (fD e))) [])⟩
theorem OZ:Fk 34 Qn:=by
 refine fo Tryz.f34 [.d (.int .i64)] [] (aa Qm (aa Qh (aa Jf (aa OX (aa Qk (aa BI ah)))))) fun xs es K=>?_;rintro⟨e,rfl,rfl,h⟩;refine⟨rfl,?_⟩;have hf0:=fD.eq_1 e;refine⟨_,rfl,rfl,?_⟩;refine wN hf0 (fun _ hf0=>?_) fun _ hf0=>?_
 ·rw[hf0]at h;exact h (by omega)
 ·refine⟨_,rfl,rfl,?_⟩;refine⟨_,fun _=>⟨fun(t:ae)=>dH t,fun t0=>⟨_,rfl,rfl,rfl,rfl⟩,_,_,rfl,rfl,rfl,rfl⟩,rfl,?_⟩;refine wI hf0 (fun _ hf0=>?_) fun _ hf0=>?_
  ·rw[hf0]at h;exact h (by omega)
  ·refine fl (x:=e.tags.length) fun _=>?_;refine wI hf0 (fun _ hf0=>?_) fun _ hf0=>?_
   ·rw[hf0]at h;exact h (by omega)
   ·refine⟨_,rfl,rfl,?_⟩;refine⟨_,fun _=>⟨_,rfl,rfl,rfl,rfl⟩,rfl,?_⟩;refine wI hf0 (fun _ hf0=>?_) fun _ hf0=>?_
    ·rw[hf0]at h;exact h (by omega)
    ·refine lI 2 (fun(s5:Int)=> [(1,.v (vp 0)),(2,.v (vi 0)),(5,.v (vi s5))]) (fun(s5:Int)=> [(0,.cells [(9,.d (.st 3) e)] 47)]) (fun(s5:Int)=>((e.tags.length:Int)- s5).toNat) (fun(s5:Int)=>(1≤s5)∧True) (fun n1 (s5:Int)=>gp e n1 s5) (gp e (((e.tags.length:Int)- 1).toNat+1) 1) [] (1:Int) ?_;rintro s5 ⟨n1,hc1,⟨hi1_0,-⟩,hf1⟩;have hf1:=hf1.trans (gp.eq_2 e s5 n1);refine fl (x:=e.tags.length) fun _=>?_;refine wI hf1 (fun _ hf1=>?_) fun _ hf1=>?_
     ·refine dp [(true,0),(true,1),(true,2),(true,3),(true,4),(true,5),(true,6),(true,7),(true,8),(true,9),(true,10),(false,11),(true,12)] none (nw 2) ?_;refine bY ?_;refine vx (s5 - 1) e.tags ?_;refine vx s5 e.tags ?_;refine⟨_,_,rfl,rfl,?_⟩;refine wI hf1 (fun _ hf1=>?_) fun _ hf1=>?_
      ·rw[hf1]at hf0;rw[hf0]at h;exact h (by omega)
      ·refine bY ?_;exact nx [] (s5+1) hc1 hf1
     ·rw[hf1]at hf0;rw[hf0]at h;exact h (by omega)
def bG(t:ae):Bool:=
 decide ¬dM t=0
def Nt:bf U:=⟨[.d (.st 1)],fun xs es K=> ∃(t:ae),xs= [(qF t)]∧es= []∧K (.v (vb (bG t))) []⟩
theorem GZ:Fk 142 Nt:=by
 refine fo Tryz.f142 [.d .bool] [] (aa GS ah) fun xs es K=>?_;rintro⟨t,rfl,rfl,h⟩;refine⟨rfl,?_⟩;have hf0:=bG.eq_1 t;refine⟨_,rfl,rfl,?_⟩;exact e0
def fP(s:aD):(List bI)×(List ae):=
 (s.puts,s.gone)
def Nu:bf U:=⟨[.d (.st 9)],fun xs es K=> ∃(s:aD),xs= [(ry s)]∧es= []∧(s.puts.length≤1000000)∧(s.gone.length≤1000000)∧K (.v ⟨true,[(1,.own 0 0),(1,.own 1 0)]⟩) [.row 0 (.st 4) ((fP s).1) 164,.row 0 (.st 1) ((fP s).2) 34]⟩
theorem Jh:Fk 146 Nu:=by
 refine fo Tryz.f146 [.n] [] (aa Is (aa Dl ah)) fun xs es K=>?_;rintro⟨s,rfl,rfl,h1,h2,h⟩;refine⟨rfl,?_⟩;have hf0:=fP.eq_1 s;refine dp [(true,0),(true,1),(true,3),(true,4),(false,2),(false,5),(true,6)] (some 7) (nw 2) ?_;refine⟨_,rfl,rfl,(by assumption),?_⟩;refine⟨_,rfl,rfl,(by assumption),?_⟩;exact e0
def iy(l:List bI):Nat→Int→(List ae)→(List ae)⊕(Int×(List ae))
 |0,s8,s3=> .inr (s8,s3)
 |n1+1,s8,s3=>
  if s8<(l.length:Int)then
   iy l n1 (s8+1) (s3++ [(ix l s8).tag])
  else
   .inr (s8,s3)
def ep(l:List bI):List ae:=
 match iy l (((l.length:Int)- 0).toNat+1) 0 ([]:List ae)with
 | .inl r=>r
 | .inr (s8,s3)=>
  s3
def Nv:bf U:=⟨[.d (.sl (.st 4))],fun xs es K=> ∃(l:List bI),xs= [(Ii l)]∧es= []∧(l.length≤1000000)∧K (.v (gM (ep l))) []⟩
theorem Ji:Fk 145 Nv:=by
 refine fo Tryz.f145 [.d (.sl (.st 1))] [] (ah) fun xs es K=>?_;rintro⟨l,rfl,rfl,hl,h⟩;refine⟨rfl,?_⟩;have hf0:=ep.eq_1 l;refine fl (x:=l.length) fun _=>?_;refine lI (σ:=Int×(List ae)) 1 (fun(s8,s3)=> [(2,.v ⟨false,[(1,.nils)]⟩),(3,.v (vo 0)),(6,.v (Ii l)),(7,.v (vi (l.length:Int))),(8,.v (vi s8))]) (fun(s8,s3)=> [(0,.row 0 (.st 1) s3 34)]) (fun(s8,s3)=>((l.length:Int)- s8).toNat) (fun(s8,s3)=>(0≤s8)∧(s8≤(l.length:Int))∧((s3.length:Int)≤s8)∧True) (fun n1 (s8,s3)=>iy l n1 s8 s3) (iy l (((l.length:Int)- 0).toNat+1) 0 ([]:List ae)) [] ((0:Int),([]:List ae)) ?_;rintro⟨s8,s3⟩ ⟨n1,hc1,⟨hi1_0,hi1_1,hi1_2,-⟩,hf1⟩;have hf1:=hf1.trans (iy.eq_2 l s8 s3 n1);refine wI hf1 (fun _ hf1=>?_) fun _ hf1=>e1;refine vx s8 l ?_;refine vs (P:=(s3.length+ [(ix l s8).tag].length)*(24:Nat)≤(140737488355328:Nat)) ?_;refine bY ?_;exact nx (s:=(s8,s3)) [] (s8+1,s3++ [(ix l s8).tag]) hc1 hf1
def gI(p:bI):Bool:=
 decide ¬p.field= []&&decide ((p.field.length:Int)≤12)&&decide (fW p.at_=0)&&decide (0<p.at_.time)
def Nw:bf U:=⟨[.d (.st 4)],fun xs es K=> ∃(p:bI),xs= [(Lj p)]∧es= []∧K (.v (vb (gI p))) []⟩
theorem Jj:Fk 143 Nw:=by
 refine fo Tryz.f143 [.d .bool] [] (aa GT ah) fun xs es K=>?_;rintro⟨p,rfl,rfl,h⟩;refine⟨rfl,?_⟩;have hf0:=gI.eq_1 p;refine⟨_,fun _=>⟨_,rfl,rfl,rfl,rfl⟩,rfl,?_⟩;exact e0
def mu(l:List ae)(t:ae):Bool:=
 (cY l t fun(t t':ae)=>ab t t').snd
def Nx:bf U:=⟨[.d (.sl (.st 1)),.d (.st 1)],fun xs es K=> ∃(l:List ae) (t:ae),xs= [(gM l),(qF t)]∧es= []∧(l.length≤1000000)∧K (.v (vb (mu l t))) []⟩
theorem G0:Fk 147 Nx:=by
 refine fo Tryz.f147 [.d .bool] [] (aa BI (aa GV ah)) fun xs es K=>?_;rintro⟨l,t,rfl,rfl,hl,h⟩;refine⟨rfl,?_⟩;have hf0:=mu.eq_1 l t;refine⟨fun(t t':ae)=>ab t t',fun t0 t1=>⟨_,_,rfl,rfl,rfl,rfl⟩,?_⟩;refine⟨_,_,_,rfl,rfl,(by omega),?_⟩;exact e0
def jt(l:List ae):Nat→Int→Bool⊕(Int)
 |0,s3=> .inr s3
 |n1+1,s3=>
  if s3<(l.length:Int)then
   if 0≤ab (ix l (s3 - 1)) (ix l s3)then
    .inl false
   else
    jt l n1 (s3+1)
  else
   .inr s3
def jN(l:List ae):Bool:=
 match jt l (((l.length:Int)- 1).toNat+1) 1 with
 | .inl r=>r
 | .inr s3=>
  true
def Ny:bf U:=⟨[.d (.sl (.st 1))],fun xs es K=> ∃(l:List ae),xs= [(gM l)]∧es= []∧K (.v (vb (jN l))) []⟩
theorem Nz:Fk 174 Ny:=by
 refine fo Tryz.f174 [.d .bool] [] (aa BI ah) fun xs es K=>?_;rintro⟨l,rfl,rfl,h⟩;refine⟨rfl,?_⟩;have hf0:=jN.eq_1 l;refine lI 0 (fun(s3:Int)=> [(0,.v (gM l)),(2,.v (vb false)),(3,.v (vi s3))]) (fun(s3:Int)=> []) (fun(s3:Int)=>((l.length:Int)- s3).toNat) (fun(s3:Int)=>(1≤s3)∧True) (fun n1 (s3:Int)=>jt l n1 s3) (jt l (((l.length:Int)- 1).toNat+1) 1) [] (1:Int) ?_;rintro s3 ⟨n1,hc1,⟨hi1_0,-⟩,hf1⟩;have hf1:=hf1.trans (jt.eq_2 l s3 n1);refine fl (x:=l.length) fun _=>?_;refine wI hf1 (fun _ hf1=>?_) fun _ hf1=>e1;refine dp [(true,0),(true,1),(true,2),(true,3),(true,4),(true,5),(true,6),(true,7),(true,8),(false,9),(true,10)] none (nw 0) ?_;refine bY ?_;refine vx (s3 - 1) l ?_;refine vx s3 l ?_;refine⟨_,_,rfl,rfl,?_⟩;refine wI hf1 (fun _ hf1=>e1) fun _ hf1=>?_;refine bY ?_;exact nx [] (s3+1) hc1 hf1
end Go.Proofs.YtiliglahlfkikaaGreatDoor.V
end

section
set_option linter.unusedVariables false
set_option linter.unusedSimpArgs false
set_option maxRecDepth 20000
set_option maxHeartbeats 4000000
namespace Go.Proofs.YtiliglahlfkikaaGreatDoor.V
open Go.RowKit
theorem nc(x y:Int):mr x y=if x<y then -1 else if y<x then 1 else 0:=by
 unfold mr;simp[nW]
theorem sx(x y:Int):nZ x y=if x<y then -1 else if y<x then 1 else 0:=by
 unfold nZ;simp[nX]
theorem n7(x y:Int):jK [x,y]=if x=0 then y else x:=by
 have e1:ix [x,y] 1=y:=rfl;have e0:ix [x,y] 0=x:=rfl;unfold jK;rw[show((↑[x,y].length:Int)- 0).toNat+1=3 from rfl,gG,gG,gG,gG];rw[show(0:Int)+1=1 from rfl,e0,e1];by_cases hx:x=0<;>by_cases hy:y=0<;>simp[hx,hy]
theorem pD(a b:ae):ab a b=if a.id.origin<b.id.origin then -1 else if b.id.origin<a.id.origin then 1 else if a.id.seq<b.id.seq then -1 else if b.id.seq<a.id.seq then 1 else if a.n<b.n then -1 else if b.n<a.n then 1 else 0:=by
 unfold ab gT;rw[n7,n7,nc,nc,sx]
 repeat' split
 all_goals omega
theorem oR{a b:ae}(h1:a.id.origin=b.id.origin)(h2:a.id.seq=b.id.seq)(h3:a.n=b.n):a=b:=by
 obtain⟨⟨a1,a2⟩,a3⟩:=a;obtain⟨⟨b1,b2⟩,b3⟩:=b;simp only at h1 h2 h3;subst h1;subst h2;subst h3;rfl
open Go.Shelf Go.Lib Go.Sort
theorem ng(a b:ae):ltOf ab a b=decide (a.id.origin<b.id.origin∨a.id.origin=b.id.origin∧(a.id.seq<b.id.seq∨a.id.seq=b.id.seq∧a.n<b.n)):=by
 unfold ltOf;rw[pD,decide_eq_decide]
 repeat' split
 all_goals omega
theorem kE(l:List ae):mo l ab:=by
 refine⟨⟨fun x=>?_,fun x y z h1 h2=>?_,fun x y z h1 h2=>?_⟩,fun x _ y _ h1 h2=>?_⟩
 ·rw[ng];simp
 ·rw[ng,decide_eq_true_iff]at*;omega
 ·rw[ng,decide_eq_false_iff_not]at*;omega
 ·rw[ng,decide_eq_false_iff_not]at h1 h2;exact oR (by omega) (by omega) (by omega)
theorem qT(l:List bI):(ep l).length≤l.length:=by
 have key: ∀(n:Nat) (i:Int) (s:List ae),0≤i→(s.length:Int)≤i→i≤l.length→ ∃j t,iy l n i s= .inr (j,t)∧t.length≤l.length:=fun n=>by
  induction n with
  |zero=>intro i s h0 h1 h2;exact⟨i,s,rfl,by omega⟩
  |succ n ih=>
   intro i s h0 h1 h2;rw[iy];split
   ·exact ih _ _ (by omega) (by simp;omega) (by omega)
   ·exact⟨i,s,rfl,by omega⟩
 obtain⟨j,t,h,ht⟩:=key (((l.length:Int)- 0).toNat+1) 0 [] (by omega) (by simp) (by omega);unfold ep;rw[h];exact ht
def fF(s:aC)(tags:List ae):aC×Int:=
 if dF s=0 then
  if 4096<(tags.length:Int)then
   (aC.mk [] [],8)
  else
   if(ba tags fun(t:ae)=>br t)=true then
    (aC.mk [] [],2)
   else
    if 4096<((dd (bu (fun(t t':ae)=>ab t t') (s.gone++tags))).length:Int)then
     (aC.mk [] [],4)
    else
     (aC.mk (List.filter (fun(x:aT)=>!na x (aC.mk [] (dd (bu (fun(t t':ae)=>ab t t') (s.gone++tags))))) s.adds) (dd (bu (fun(t t':ae)=>ab t t') (s.gone++tags))),0)
 else
  (aC.mk [] [],dF s)
def Qy:bf U:=⟨[.d (.st 8),.d (.sl (.st 1))],fun xs es K=> ∃(s:aC) (tags:List ae),xs= [(rx s),(gM tags)]∧es= []∧(s.adds.length≤1000000)∧(s.gone.length≤900000)∧((fun(r0:aC) (r1:Int)=>r0.adds.length≤4097∧r0.gone.length≤4097) ((fF s tags).1) ((fF s tags).2)→K (.tup [(rx ((fF s tags).1)),(vi ((fF s tags).2))]) [])⟩
theorem Qz:Fk 82 Qy:=by
 refine fo Tryz.f82 [.d (.st 8),.d (.int .i64)] [] (aa Jf (aa BI (aa AC (aa GX (aa C6 (aa Jp (aa Hi (aa Js (aa N3 (aa MZ ah)))))))))) fun xs es K=>?_;rintro⟨s,tags,rfl,rfl,h1,h2,h⟩;refine⟨rfl,?_⟩;have hf0:=fF.eq_1 s tags;refine⟨_,rfl,rfl,(by omega),?_⟩;refine fun _=>?_;refine wN hf0 (fun h1 hf0=>?_) fun h1 hf0=>?_
 ·rw[hf0]at h;exact h (by simp)
 ·refine fl (x:=tags.length) fun h2=>?_;refine wI hf0 (fun _ hf0=>?_) fun _ hf0=>?_
  ·rw[hf0]at h;exact h (by simp)
  ·refine⟨fun(t:ae)=>br t,fun t0=>⟨_,rfl,rfl,rfl,rfl⟩,?_⟩;refine⟨_,_,rfl,rfl,?_⟩;refine wI hf0 (fun _ hf0=>?_) fun _ hf0=>?_
   ·rw[hf0]at h;exact h (by simp)
   ·refine⟨_,_,rfl,rfl,(show s.gone.length≤(1000000:Nat)from by omega),(show tags.length≤(1000000:Nat)from by omega),?_⟩;refine⟨fun(t t':ae)=>ab t t',fun t0 t1=>⟨_,_,rfl,rfl,rfl,rfl⟩,?_⟩;refine⟨_,_,rfl,rfl,(kE _),(show(s.gone++tags).length<(4611686018427387904:Nat)from by(simp only[List.length_append,List.length_cons,List.length_nil];omega)),?_⟩;refine⟨_,rfl,rfl,?_⟩;refine fl (x:=(dd (bu (fun(t t':ae)=>ab t t') (s.gone++tags))).length) fun _=>?_;refine wI hf0 (fun h6 hf0=>?_) fun h6 hf0=>?_
    ·rw[hf0]at h;exact h (by simp)
    ·refine⟨_,rfl,rfl,(by assumption),?_⟩;refine⟨fun(t:aT)=>na t (aC.mk [] (dd (bu (fun(t t':ae)=>ab t t') (s.gone++tags)))),fun t0=>⟨_,_,rfl,rfl,(Nat.le_trans (Int.ofNat_le.1 (Int.not_lt.1 h6)) (show(4096:Nat)≤1000000 by decide)),rfl,rfl⟩,?_⟩;refine⟨_,_,rfl,rfl,?_⟩;rw[hf0]at h;exact h (by(dsimp only;exact⟨Nat.le_trans (List.length_filter_le _ _) (by omega),Nat.le_trans (Int.ofNat_le.1 (Int.not_lt.1 h6)) (by decide)⟩))
def db(s:aC)(v:List Int):aC×Int:=
 if dF s=0 then
  (aC.mk s.adds (List.filter (fun(x:ae)=>!jL x v) s.gone),0)
 else
  (aC.mk [] [],dF s)
def NC:bf U:=⟨[.d (.st 8),.d (.arr 8 (.int .u32))],fun xs es K=> ∃(s:aC) (v:List Int),xs= [(rx s),(ic v)]∧es= []∧(s.adds.length≤1000000)∧(s.gone.length≤1000000)∧((fun(r0:aC) (r1:Int)=>r0.adds.length≤4097∧r0.gone.length≤4097) ((db s v).1) ((db s v).2)→K (.tup [(rx ((db s v).1)),(vi ((db s v).2))]) [])⟩
theorem ND:Fk 106 NC:=by
 refine fo Tryz.f106 [.d (.st 8),.d (.int .i64)] [] (aa Is (aa AC (aa GX (aa Ng (aa Jq ah))))) fun xs es K=>?_;rintro⟨s,v,rfl,rfl,h1,h2,h⟩;refine⟨rfl,?_⟩;have hf0:=db.eq_1 s v;refine⟨_,rfl,rfl,(by omega),?_⟩;refine fun _=>?_;refine wN hf0 (fun h1 hf0=>?_) fun h1 hf0=>?_
 ·rw[hf0]at h;exact h (by simp)
 ·refine dp [(true,0),(true,1),(true,3),(true,4),(true,6),(false,2),(false,5),(false,7),(true,8),(false,9),(true,10)] none (1::2::nw 3) ?_;refine⟨_,rfl,rfl,(by assumption),?_⟩;refine⟨_,rfl,rfl,(by assumption),?_⟩;refine⟨fun(t:ae)=>jL t v,fun t0=>⟨_,_,rfl,rfl,rfl,rfl⟩,?_⟩;refine⟨_,_,rfl,rfl,?_⟩;rw[hf0]at h;exact h (by(dsimp only;exact⟨by omega,Nat.le_trans (List.length_filter_le _ _) (by omega)⟩))
def fG(s:aD):Nat→Int→Int⊕(Int)
 |0,s38=> .inr s38
 |n1+1,s38=>
  if s38<(s.puts.length:Int)then
   if(¬(gI (ix s.puts s38)=true))∨(mu s.gone (ix s.puts s38).tag=true)then
    .inl 3
   else
    fG s n1 (s38+1)
  else
   .inr s38
def d7(s:aD):Int:=
 if(4096<(s.puts.length:Int))∨(4096<(s.gone.length:Int))then
  8
 else
  if((ba (ep s.puts) fun(t:ae)=>bG t)=true)∨((ba s.gone fun(t:ae)=>bG t)=true)then
   2
  else
   if(¬(jN (ep s.puts)=true))∨(¬(jN s.gone=true))then
    3
   else
    match fG s (((s.puts.length:Int)- 0).toNat+1) 0 with
    | .inl r=>r
    | .inr s38=>
     0
def NE:bf U:=⟨[.d (.st 9)],fun xs es K=> ∃(s:aD),xs= [(ry s)]∧es= []∧(s.puts.length≤1000000)∧(s.gone.length≤1000000)∧((fun(r0:Int)=>r0=0→s.puts.length≤4096∧s.gone.length≤4096) (d7 s)→K (.v (vi (d7 s))) [])⟩
theorem G1:Fk 115 NE:=by
 refine fo Tryz.f115 [.d (.int .i64)] [] (aa Jf (aa GZ (aa Jj (aa Ji (aa G0 (aa Nz ah)))))) fun xs es K=>?_;rintro⟨s,rfl,rfl,h1,h2,h⟩;refine⟨rfl,?_⟩;have hf0:=d7.eq_1 s;refine fl (x:=s.puts.length) fun _=>?_;refine wI hf0 (fun h1 hf0=>?_) fun h1 hf0=>?_
 ·rw[hf0]at h;exact h (by omega)
 ·refine⟨_,rfl,rfl,(by omega),?_⟩;refine⟨fun(t:ae)=>bG t,fun t0=>⟨_,rfl,rfl,rfl,rfl⟩,?_⟩;refine⟨_,_,rfl,rfl,?_⟩;refine⟨_,fun h2=>⟨fun(t:ae)=>bG t,fun t0=>⟨_,rfl,rfl,rfl,rfl⟩,_,_,rfl,rfl,rfl,rfl⟩,rfl,?_⟩;refine wI hf0 (fun _ hf0=>?_) fun _ hf0=>?_
  ·rw[hf0]at h;exact h (by omega)
  ·refine⟨_,rfl,rfl,?_⟩;refine⟨_,fun _=>⟨_,rfl,rfl,rfl,rfl⟩,rfl,?_⟩;refine wI hf0 (fun _ hf0=>?_) fun _ hf0=>?_
   ·rw[hf0]at h;exact h (by omega)
   ·refine fl (x:=s.puts.length) fun _=>?_;refine lI 1 (fun(s38:Int)=> [(1,.v (vp 0)),(2,.v (vi 0)),(36,.v (Ii s.puts)),(37,.v (vi (s.puts.length:Int))),(38,.v (vi s38))]) (fun(s38:Int)=> [(0,.cells [(2,.d (.st 9) s)] 59)]) (fun(s38:Int)=>((s.puts.length:Int)- s38).toNat) (fun(s38:Int)=>(0≤s38)∧(s38≤(s.puts.length:Int))∧True) (fun n1 (s38:Int)=>fG s n1 s38) (fG s (((s.puts.length:Int)- 0).toNat+1) 0) [] (0:Int) ?_;rintro s38 ⟨n1,hc1,⟨hi1_0,hi1_1,-⟩,hf1⟩;have hf1:=hf1.trans (fG.eq_2 s s38 n1);refine wI hf1 (fun _ hf1=>?_) fun _ hf1=>?_
    ·refine vx s38 s.puts ?_;refine⟨_,rfl,rfl,?_⟩;refine⟨_,fun _=>⟨_,_,rfl,rfl,(by omega),rfl,rfl⟩,rfl,?_⟩;refine wI hf1 (fun _ hf1=>?_) fun _ hf1=>?_
     ·rw[hf1]at hf0;rw[hf0]at h;exact h (by omega)
     ·refine bY ?_;exact nx [] (s38+1) hc1 hf1
    ·rw[hf1]at hf0;rw[hf0]at h;exact h (by omega)
def nh(p:bI)(gone:List (ae)):Bool:=
 mu gone p.tag
def NF:bf U:=⟨[.d (.st 4),.n],fun xs es K=> ∃(p:bI) (gone:List (ae)),xs= [(Lj p),⟨false,[(1,.pd (.sl (.st 1)) gone)]⟩]∧es= []∧(gone.length≤1000000)∧K (.v (vb (nh p gone))) []⟩
theorem NG:Fk 150 NF:=by
 refine fo Tryz.f150 [.d .bool] [] (aa G0 ah) fun xs es K=>?_;rintro⟨p,gone,rfl,rfl,h2,h⟩;refine⟨rfl,?_⟩;have hf0:=nh.eq_1 p gone;refine⟨_,_,rfl,rfl,(by omega),?_⟩;exact e0
def eI(s:aD)(p:bI):aD×Int:=
 if d7 s=0 then
  if bG p.tag=true then
   (aD.mk [] [],2)
  else
   if gI p=true then
    if(((cY (ep s.puts) p.tag fun(t t':ae)=>ab t t').snd)=true)∨(mu s.gone p.tag=true)then
     (aD.mk (fP s).fst (fP s).snd,0)
    else
     if(s.puts.length:Int)=4096 then
      (aD.mk [] [],4)
     else
      (aD.mk (gQ (fP s).fst (cY (ep s.puts) p.tag fun(t t':ae)=>ab t t').fst [p]) (fP s).snd,0)
   else
    (aD.mk [] [],3)
 else
  (aD.mk [] [],d7 s)
def QA:bf U:=⟨[.d (.st 9),.d (.st 4)],fun xs es K=> ∃(s:aD) (p:bI),xs= [(ry s),(Lj p)]∧es= []∧(s.puts.length≤1000000)∧(s.gone.length≤1000000)∧((fun(r0:aD) (r1:Int)=>r0.puts.length≤4097∧r0.gone.length≤4097) ((eI s p).1) ((eI s p).2)→K (.tup [(ry ((eI s p).1)),(vi ((eI s p).2))]) [])⟩
theorem QB:Fk 83 QA:=by
 refine fo Tryz.f83 [.d (.st 9),.d (.int .i64)] [] (aa BI (aa G1 (aa GZ (aa Jj (aa GV (aa Ji (aa Jh (aa G0 (aa NW ah))))))))) fun xs es K=>?_;rintro⟨s,p,rfl,rfl,h1,h2,h⟩;refine⟨rfl,?_⟩;have hf0:=eI.eq_1 s p;refine⟨_,rfl,rfl,(by omega),(by omega),?_⟩;refine fun _=>?_;refine wN hf0 (fun h1 hf0=>?_) fun h1 hf0=>?_
 ·rw[hf0]at h;exact h (by simp)
 ·refine⟨_,rfl,rfl,?_⟩;refine wI hf0 (fun h2 hf0=>?_) fun h2 hf0=>?_
  ·rw[hf0]at h;exact h (by simp)
  ·refine⟨_,rfl,rfl,?_⟩;refine wN hf0 (fun _ hf0=>?_) fun _ hf0=>?_
   ·rw[hf0]at h;exact h (by simp)
   ·refine dp [(true,0),(true,1),(true,3),(true,4),(false,2),(false,5),(true,6),(true,7),(true,8),(true,9),(true,10)] none (nw 3) ?_;refine⟨_,rfl,rfl,(by omega),?_⟩;refine⟨fun(t t':ae)=>ab t t',fun t0 t1=>⟨_,_,rfl,rfl,rfl,rfl⟩,?_⟩;refine⟨_,_,_,rfl,rfl,(by(have hg:=qT s.puts;omega)),?_⟩;refine⟨_,rfl,rfl,(by omega),(by omega),?_⟩;refine⟨_,fun _=>⟨_,_,rfl,rfl,(by omega),rfl,rfl⟩,rfl,?_⟩;refine wI hf0 (fun _ hf0=>?_) fun _ hf0=>?_
    ·rw[hf0]at h;exact h (by(have e:fP s=(s.puts,s.gone):=rfl;simp only[e];omega))
    ·refine fl (x:=s.puts.length) fun _=>?_;refine wI hf0 (fun _ hf0=>?_) fun _ hf0=>?_
     ·rw[hf0]at h;exact h (by simp)
     ·refine⟨_,_,_,rfl,rfl,((ud _ _ _).1),(show(cY (ep s.puts) p.tag fun(t t':ae)=>ab t t').fst≤(↑(fP s).fst.length:Int)from by(have hg:=qT s.puts;have h8:=(ud (ep s.puts) p.tag (fun t t1=>ab t t1)).2;have h9:(fP s).1=s.puts:=rfl;rw[h9];omega)),(by assumption),?_⟩;rw[hf0]at h;exact h (by(have e:fP s=(s.puts,s.gone):=rfl;dsimp only;rw[uc,e];simp only[List.length_cons,List.length_nil];omega))
def gc(s:aD)(l:List ae):aD×Int:=
 if d7 s=0 then
  if 4096<(l.length:Int)then
   (aD.mk [] [],8)
  else
   if(ba l fun(t:ae)=>bG t)=true then
    (aD.mk [] [],2)
   else
    if 4096<((dd (bu (fun(t t':ae)=>ab t t') (s.gone++l))).length:Int)then
     (aD.mk [] [],4)
    else
     (aD.mk (List.filter (fun(x:bI)=>!nh x (dd (bu (fun(t t':ae)=>ab t t') (s.gone++l)))) s.puts) (dd (bu (fun(t t':ae)=>ab t t') (s.gone++l))),0)
 else
  (aD.mk [] [],d7 s)
def QC:bf U:=⟨[.d (.st 9),.d (.sl (.st 1))],fun xs es K=> ∃(s:aD) (l:List ae),xs= [(ry s),(gM l)]∧es= []∧(s.puts.length≤1000000)∧(s.gone.length≤900000)∧((fun(r0:aD) (r1:Int)=>r0.puts.length≤4097∧r0.gone.length≤4097) ((gc s l).1) ((gc s l).2)→K (.tup [(ry ((gc s l).1)),(vi ((gc s l).2))]) [])⟩
theorem QD:Fk 84 QC:=by
 refine fo Tryz.f84 [.d (.st 9),.d (.int .i64)] [] (aa Jf (aa BI (aa Dl (aa G1 (aa Jp (aa Hi (aa Js (aa GZ (aa N5 (aa NG ah)))))))))) fun xs es K=>?_;rintro⟨s,l,rfl,rfl,h1,h2,h⟩;refine⟨rfl,?_⟩;have hf0:=gc.eq_1 s l;refine⟨_,rfl,rfl,(by omega),(by omega),?_⟩;refine fun _=>?_;refine wN hf0 (fun h1 hf0=>?_) fun h1 hf0=>?_
 ·rw[hf0]at h;exact h (by simp)
 ·refine fl (x:=l.length) fun h2=>?_;refine wI hf0 (fun _ hf0=>?_) fun _ hf0=>?_
  ·rw[hf0]at h;exact h (by simp)
  ·refine⟨fun(t:ae)=>bG t,fun t0=>⟨_,rfl,rfl,rfl,rfl⟩,?_⟩;refine⟨_,_,rfl,rfl,?_⟩;refine wI hf0 (fun _ hf0=>?_) fun _ hf0=>?_
   ·rw[hf0]at h;exact h (by simp)
   ·refine⟨_,_,rfl,rfl,(show s.gone.length≤(1000000:Nat)from by omega),(show l.length≤(1000000:Nat)from by omega),?_⟩;refine⟨fun(t t':ae)=>ab t t',fun t0 t1=>⟨_,_,rfl,rfl,rfl,rfl⟩,?_⟩;refine⟨_,_,rfl,rfl,(kE _),(show(s.gone++l).length<(4611686018427387904:Nat)from by(simp only[List.length_append,List.length_cons,List.length_nil];omega)),?_⟩;refine⟨_,rfl,rfl,?_⟩;refine fl (x:=(dd (bu (fun(t t':ae)=>ab t t') (s.gone++l))).length) fun _=>?_;refine wI hf0 (fun h6 hf0=>?_) fun h6 hf0=>?_
    ·rw[hf0]at h;exact h (by simp)
    ·refine⟨_,rfl,rfl,(by assumption),?_⟩;refine⟨fun(t:bI)=>nh t (dd (bu (fun(t t':ae)=>ab t t') (s.gone++l))),fun t0=>⟨_,_,rfl,rfl,(Nat.le_trans (Int.ofNat_le.1 (Int.not_lt.1 h6)) (show(4096:Nat)≤1000000 by decide)),rfl,rfl⟩,?_⟩;refine⟨_,_,rfl,rfl,?_⟩;rw[hf0]at h;exact h (by(dsimp only;exact⟨Nat.le_trans (List.length_filter_le _ _) (by omega),Nat.le_trans (Int.ofNat_le.1 (Int.not_lt.1 h6)) (by decide)⟩))
def de(s:aD)(v:List Int):aD×Int:=
 if d7 s=0 then
  (aD.mk (fP s).fst (List.filter (fun(x:ae)=>!jM x v) (fP s).snd),0)
 else
  (aD.mk [] [],d7 s)
def NH:bf U:=⟨[.d (.st 9),.d (.arr 8 (.int .u32))],fun xs es K=> ∃(s:aD) (v:List Int),xs= [(ry s),(ic v)]∧es= []∧(s.puts.length≤1000000)∧(s.gone.length≤1000000)∧((fun(r0:aD) (r1:Int)=>r0.puts.length≤4097∧r0.gone.length≤4097) ((de s v).1) ((de s v).2)→K (.tup [(ry ((de s v).1)),(vi ((de s v).2))]) [])⟩
theorem NI:Fk 107 NH:=by
 refine fo Tryz.f107 [.d (.st 9),.d (.int .i64)] [] (aa G1 (aa Jh (aa Jq (aa Ni ah)))) fun xs es K=>?_;rintro⟨s,v,rfl,rfl,h1,h2,h⟩;refine⟨rfl,?_⟩;have hf0:=de.eq_1 s v;refine⟨_,rfl,rfl,(by omega),(by omega),?_⟩;refine fun _=>?_;refine wN hf0 (fun h1 hf0=>?_) fun h1 hf0=>?_
 ·rw[hf0]at h;exact h (by simp)
 ·refine⟨_,rfl,rfl,(by omega),(by omega),?_⟩;refine⟨fun(t:ae)=>jM t v,fun t0=>⟨_,_,rfl,rfl,rfl,rfl⟩,?_⟩;refine⟨_,_,rfl,rfl,?_⟩;rw[hf0]at h;exact h (by(show s.puts.length≤4097∧(List.filter _ s.gone).length≤4097;exact⟨by omega,Nat.le_trans (List.length_filter_le _ _) (by omega)⟩))
end Go.Proofs.YtiliglahlfkikaaGreatDoor.V
end

/- Functions walked: printed by the walker. -/
import Derived.Test.YtiliglahlfkikaaGreatDoorYt14
import Derived.Test.YtiliglahlfkikaaGreatDoorYt18
section
set_option linter.unusedVariables false
set_option linter.unusedSimpArgs false
set_option maxRecDepth 20000
set_option maxHeartbeats 4000000
namespace Go.Proofs.YtiliglahlfkikaaGreatDoor.V
open Go.RowKit
def mL(x:Int):Bool:=
 decide ¬x=x
def Lt:bh U:=⟨[.d (.int .i64)],fun xs es K=> ∃(x:Int),xs= [(vi x)]∧es= []∧K (.v (vb (mL x))) []⟩
theorem Lu:Fk 183 Lt:=by
 refine fo Tryz.f183 [.d .bool] [] (aj) fun xs es K=>?_;rintro⟨x,rfl,rfl,h⟩;refine⟨rfl,?_⟩;have hf0:=mL.eq_1 x;exact e0
def mM(x:Int):Bool:=
 decide ¬x=x
def Lv:bh U:=⟨[.d (.int .u32)],fun xs es K=> ∃(x:Int),xs= [(vw x)]∧es= []∧K (.v (vb (mM x))) []⟩
theorem Lw:Fk 220 Lv:=by
 refine fo Tryz.f220 [.d .bool] [] (aj) fun xs es K=>?_;rintro⟨x,rfl,rfl,h⟩;refine⟨rfl,?_⟩;have hf0:=mM.eq_1 x;exact e0
def mN(x:Int):Bool:=
 decide ¬x=x
def Lz:bh U:=⟨[.d (.int .i64)],fun xs es K=> ∃(x:Int),xs= [(vi x)]∧es= []∧K (.v (vb (mN x))) []⟩
theorem LA:Fk 221 Lz:=by
 refine fo Tryz.f221 [.d .bool] [] (aj) fun xs es K=>?_;rintro⟨x,rfl,rfl,h⟩;refine⟨rfl,?_⟩;have hf0:=mN.eq_1 x;exact e0
def mO(x:List UInt8):Bool:=
 decide ¬x=x
def LB:bh U:=⟨[.d .str],fun xs es K=> ∃(x:List UInt8),xs= [(vt x)]∧es= []∧K (.v (vb (mO x))) []⟩
theorem LC:Fk 177 LB:=by
 refine fo Tryz.f177 [.d .bool] [] (aj) fun xs es K=>?_;rintro⟨x,rfl,rfl,h⟩;refine⟨rfl,?_⟩;have hf0:=mO.eq_1 x;exact e0
def kN(x:Int)(y:Int):Int:=
 if mL x=true then
  if mL y=true then
   0
  else
   (-1)
 else
  if mL y=true then
   1
  else
   if x<y then
    (-1)
   else
    if y<x then
     1
    else
     0
def LD:bh U:=⟨[.d (.int .i64),.d (.int .i64)],fun xs es K=> ∃(x:Int) (y:Int),xs= [(vi x),(vi y)]∧es= []∧K (.v (vi (kN x y))) []⟩
theorem Gq:Fk 128 LD:=by
 refine fo Tryz.f128 [.d (.int .i64)] [] (aa Lu aj) fun xs es K=>?_;rintro⟨x,y,rfl,rfl,h⟩;refine⟨rfl,?_⟩;have hf0:=kN.eq_1 x y;refine⟨_,rfl,rfl,?_⟩;refine⟨_,rfl,rfl,?_⟩;exact wI hf0 (fun _ hf0=>wI hf0 (fun _ hf0=>e0) fun _ hf0=>e0) fun _ hf0=>wI hf0 (fun _ hf0=>e0) fun _ hf0=>wI hf0 (fun _ hf0=>e0) fun _ hf0=>wI hf0 (fun _ hf0=>e0) fun _ hf0=>e0
def mP(x:Int)(y:Int):Int:=
 if mM x=true then
  if mM y=true then
   0
  else
   (-1)
 else
  if mM y=true then
   1
  else
   if x<y then
    (-1)
   else
    if y<x then
     1
    else
     0
def LF:bh U:=⟨[.d (.int .u32),.d (.int .u32)],fun xs es K=> ∃(x:Int) (y:Int),xs= [(vw x),(vw y)]∧es= []∧K (.v (vi (mP x y))) []⟩
theorem IH:Fk 182 LF:=by
 refine fo Tryz.f182 [.d (.int .i64)] [] (aa Lw aj) fun xs es K=>?_;rintro⟨x,y,rfl,rfl,h⟩;refine⟨rfl,?_⟩;have hf0:=mP.eq_1 x y;refine⟨_,rfl,rfl,?_⟩;refine⟨_,rfl,rfl,?_⟩;exact wI hf0 (fun _ hf0=>wI hf0 (fun _ hf0=>e0) fun _ hf0=>e0) fun _ hf0=>wI hf0 (fun _ hf0=>e0) fun _ hf0=>wI hf0 (fun _ hf0=>e0) fun _ hf0=>wI hf0 (fun _ hf0=>e0) fun _ hf0=>e0
def mQ(x:Int)(y:Int):Int:=
 if mN x=true then
  if mN y=true then
   0
  else
   (-1)
 else
  if mN y=true then
   1
  else
   if x<y then
    (-1)
   else
    if y<x then
     1
    else
     0
def LG:bh U:=⟨[.d (.int .i64),.d (.int .i64)],fun xs es K=> ∃(x:Int) (y:Int),xs= [(vi x),(vi y)]∧es= []∧K (.v (vi (mQ x y))) []⟩
theorem LH:Fk 184 LG:=by
 refine fo Tryz.f184 [.d (.int .i64)] [] (aa LA aj) fun xs es K=>?_;rintro⟨x,y,rfl,rfl,h⟩;refine⟨rfl,?_⟩;have hf0:=mQ.eq_1 x y;refine⟨_,rfl,rfl,?_⟩;refine⟨_,rfl,rfl,?_⟩;exact wI hf0 (fun _ hf0=>wI hf0 (fun _ hf0=>e0) fun _ hf0=>e0) fun _ hf0=>wI hf0 (fun _ hf0=>e0) fun _ hf0=>wI hf0 (fun _ hf0=>e0) fun _ hf0=>wI hf0 (fun _ hf0=>e0) fun _ hf0=>e0
def ow(x:List UInt8)(y:List UInt8):Int:=
 if mO x=true then
  if mO y=true then
   0
  else
   (-1)
 else
  if mO y=true then
   1
  else
   if x<y then
    (-1)
   else
    if y<x then
     1
    else
     0
def LI:bh U:=⟨[.d .str,.d .str],fun xs es K=> ∃(x:List UInt8) (y:List UInt8),xs= [(vt x),(vt y)]∧es= []∧K (.v (vi (ow x y))) []⟩
theorem LJ:Fk 119 LI:=by
 refine fo Tryz.f119 [.d (.int .i64)] [] (aa LC aj) fun xs es K=>?_;rintro⟨x,y,rfl,rfl,h⟩;refine⟨rfl,?_⟩;have hf0:=ow.eq_1 x y;refine⟨_,rfl,rfl,?_⟩;refine⟨_,rfl,rfl,?_⟩;exact wI hf0 (fun _ hf0=>wI hf0 (fun _ hf0=>e0) fun _ hf0=>e0) fun _ hf0=>wI hf0 (fun _ hf0=>e0) fun _ hf0=>wI hf0 (fun _ hf0=>e0) fun _ hf0=>wI hf0 (fun _ hf0=>e0) fun _ hf0=>e0
def fa(l:List Int):Nat→Int→Int⊕(Int)
 |0,s8=> .inr s8
 |n1+1,s8=>
  if s8<(l.length:Int)then
   if ix l s8=0 then
    fa l n1 (s8+1)
   else
    .inl (ix l s8)
  else
   .inr s8
def fH(l:List Int):Int:=
 match fa l (((l.length:Int)- 0).toNat+1) 0 with
 | .inl r=>r
 | .inr s8=>
  0
def LK:bh U:=⟨[.d (.sl (.int .i64))],fun xs es K=> ∃(l:List Int),xs= [(H3 l)]∧es= []∧K (.v (vi (fH l))) []⟩
theorem ze:Fk 126 LK:=by
 refine fo Tryz.f126 [.d (.int .i64)] [] (aj) fun xs es K=>?_;rintro⟨l,rfl,rfl,h⟩;refine⟨rfl,?_⟩;have hf0:=fH.eq_1 l;refine fl (x:=l.length) fun _=>?_;refine lI 0 (fun(s8:Int)=> [(2,.v (vi 0)),(3,.v (vi 0)),(6,.v (H3 l)),(7,.v (vi (l.length:Int))),(8,.v (vi s8))]) (fun(s8:Int)=> []) (fun(s8:Int)=>((l.length:Int)- s8).toNat) (fun(s8:Int)=>(0≤s8)∧(s8≤(l.length:Int))∧True) (fun n1 (s8:Int)=>fa l n1 s8) (fa l (((l.length:Int)- 0).toNat+1) 0) [] (0:Int) ?_;rintro s8 ⟨n1,hc1,⟨hi1_0,hi1_1,-⟩,hf1⟩;have hf1:=hf1.trans (fa.eq_2 l s8 n1);refine wI hf1 (fun _ hf1=>?_) fun _ hf1=>e1;refine vx s8 l ?_;refine wN hf1 (fun _ hf1=>e1) fun _ hf1=>?_;refine ez ?_;exact nx [] (s8+1) hc1 hf1
def gA(l:List Int):Nat→Int→Int⊕(Int)
 |0,s8=> .inr s8
 |n1+1,s8=>
  if s8<(l.length:Int)then
   if ix l s8=0 then
    gA l n1 (s8+1)
   else
    .inl (ix l s8)
  else
   .inr s8
def iQ(l:List Int):Int:=
 match gA l (((l.length:Int)- 0).toNat+1) 0 with
 | .inl r=>r
 | .inr s8=>
  0
def LM:bh U:=⟨[.d (.sl (.int .i64))],fun xs es K=> ∃(l:List Int),xs= [(H3 l)]∧es= []∧K (.v (vi (iQ l))) []⟩
theorem LN:Fk 129 LM:=by
 refine fo Tryz.f129 [.d (.int .i64)] [] (aj) fun xs es K=>?_;rintro⟨l,rfl,rfl,h⟩;refine⟨rfl,?_⟩;have hf0:=iQ.eq_1 l;refine fl (x:=l.length) fun _=>?_;refine lI 0 (fun(s8:Int)=> [(2,.v (vi 0)),(3,.v (vi 0)),(6,.v (H3 l)),(7,.v (vi (l.length:Int))),(8,.v (vi s8))]) (fun(s8:Int)=> []) (fun(s8:Int)=>((l.length:Int)- s8).toNat) (fun(s8:Int)=>(0≤s8)∧(s8≤(l.length:Int))∧True) (fun n1 (s8:Int)=>gA l n1 s8) (gA l (((l.length:Int)- 0).toNat+1) 0) [] (0:Int) ?_;rintro s8 ⟨n1,hc1,⟨hi1_0,hi1_1,-⟩,hf1⟩;have hf1:=hf1.trans (gA.eq_2 l s8 n1);refine wI hf1 (fun _ hf1=>?_) fun _ hf1=>e1;refine vx s8 l ?_;refine wN hf1 (fun _ hf1=>e1) fun _ hf1=>?_;refine ez ?_;exact nx [] (s8+1) hc1 hf1
def d4(id:gi):Int:=
 if(((id.origin<0)∨(8≤id.origin))∨(id.seq=0))∨(1048576<id.seq)then
  2
 else
  0
def OY:bh U:=⟨[.d (.st 0)],fun xs es K=> ∃(id:gi),xs= [(D5 id)]∧es= []∧K (.v (vi (d4 id))) []⟩
theorem Oi:Fk 77 OY:=by
 refine fo Tryz.f77 [.d (.int .i64)] [] (aj) fun xs es K=>?_;rintro⟨id,rfl,rfl,h⟩;refine⟨rfl,?_⟩;have hf0:=d4.eq_1 id;exact wI hf0 (fun _ hf0=>e0) fun _ hf0=>e0
def bc(t:af):Int:=
 if(t.n<0)∨(16≤t.n)then
  2
 else
  d4 t.id
def LO:bh U:=⟨[.d (.st 1)],fun xs es K=> ∃(t:af),xs= [(u4 t)]∧es= []∧K (.v (vi (bc t))) []⟩
theorem Gr:Fk 123 LO:=by
 refine fo Tryz.f123 [.d (.int .i64)] [] (aa Oi aj) fun xs es K=>?_;rintro⟨t,rfl,rfl,h⟩;refine⟨rfl,?_⟩;have hf0:=bc.eq_1 t;refine wI hf0 (fun _ hf0=>e0) fun _ hf0=>?_;refine⟨_,rfl,rfl,?_⟩;exact e0
def fw(a:gi)(b:gi):Int:=
 fH [kN a.origin b.origin,mP a.seq b.seq]
def LP:bh U:=⟨[.d (.st 0),.d (.st 0)],fun xs es K=> ∃(a:gi) (b:gi),xs= [(D5 a),(D5 b)]∧es= []∧K (.v (vi (fw a b))) []⟩
theorem LQ:Fk 127 LP:=by
 refine fo Tryz.f127 [.d (.int .i64)] [] (aa ze (aa Gq (aa IH aj))) fun xs es K=>?_;rintro⟨a,b,rfl,rfl,h⟩;refine⟨rfl,?_⟩;have hf0:=fw.eq_1 a b;refine dp [(true,0),(true,1),(true,2),(true,3),(true,5),(true,6),(true,7),(true,8),(false,4),(false,9),(false,10),(false,11),(true,12)] none (nw 2) ?_;refine⟨_,_,rfl,rfl,?_⟩;refine⟨_,_,rfl,rfl,?_⟩;refine⟨_,rfl,rfl,?_⟩;exact e0
def ae(a:af)(b:af):Int:=
 fH [fw a.id b.id,kN a.n b.n]
def OZ:bh U:=⟨[.d (.st 1),.d (.st 1)],fun xs es K=> ∃(a:af) (b:af),xs= [(u4 a),(u4 b)]∧es= []∧K (.v (vi (ae a b))) []⟩
theorem zf:Fk 76 OZ:=by
 refine fo Tryz.f76 [.d (.int .i64)] [] (aa ze (aa LQ (aa Gq aj))) fun xs es K=>?_;rintro⟨a,b,rfl,rfl,h⟩;refine⟨rfl,?_⟩;have hf0:=ae.eq_1 a b;refine dp [(true,0),(true,1),(true,2),(true,3),(true,5),(true,6),(true,7),(true,8),(false,4),(false,9),(false,10),(false,11),(true,12)] none (nw 2) ?_;refine⟨_,_,rfl,rfl,?_⟩;refine⟨_,_,rfl,rfl,?_⟩;refine⟨_,rfl,rfl,?_⟩;exact e0
def ox(origin:Int):Bool:=
 decide (0≤origin)&&decide (origin<8)
def LR:bh U:=⟨[.d (.int .i64)],fun xs es K=> ∃(origin:Int),xs= [(vi origin)]∧es= []∧K (.v (vb (ox origin))) []⟩
theorem LS:Fk 181 LR:=by
 refine fo Tryz.f181 [.d .bool] [] (aj) fun xs es K=>?_;rintro⟨origin,rfl,rfl,h⟩;refine⟨rfl,?_⟩;have hf0:=ox.eq_1 origin;exact e0
def db(s:aA):Int:=
 if(1048576<s.time)∨(¬(ox s.origin=true))then
  2
 else
  0
def LT:bh U:=⟨[.d (.st 2)],fun xs es K=> ∃(s:aA),xs= [(HY s)]∧es= []∧K (.v (vi (db s))) []⟩
theorem Gs:Fk 125 LT:=by
 refine fo Tryz.f125 [.d (.int .i64)] [] (aa LS aj) fun xs es K=>?_;rintro⟨s,rfl,rfl,h⟩;refine⟨rfl,?_⟩;have hf0:=db.eq_1 s;refine⟨_,fun _=>⟨_,rfl,rfl,rfl,rfl⟩,rfl,?_⟩;exact wI hf0 (fun _ hf0=>e0) fun _ hf0=>e0
def fy(a:aA)(b:aA):Int:=
 fH [mP a.time b.time,kN a.origin b.origin]
def LU:bh U:=⟨[.d (.st 2),.d (.st 2)],fun xs es K=> ∃(a:aA) (b:aA),xs= [(HY a),(HY b)]∧es= []∧K (.v (vi (fy a b))) []⟩
theorem II:Fk 175 LU:=by
 refine fo Tryz.f175 [.d (.int .i64)] [] (aa ze (aa Gq (aa IH aj))) fun xs es K=>?_;rintro⟨a,b,rfl,rfl,h⟩;refine⟨rfl,?_⟩;have hf0:=fy.eq_1 a b;refine dp [(true,0),(true,1),(true,2),(true,3),(true,5),(true,6),(true,7),(true,8),(false,4),(false,9),(false,10),(false,11),(true,12)] none (nw 2) ?_;refine⟨_,_,rfl,rfl,?_⟩;refine⟨_,_,rfl,rfl,?_⟩;refine⟨_,rfl,rfl,?_⟩;exact e0
def fb(s:List UInt8):Bool:=
 decide ¬s= []&&decide ((s.length:Int)≤12)
def LV:bh U:=⟨[.d .str],fun xs es K=> ∃(s:List UInt8),xs= [(vt s)]∧es= []∧K (.v (vb (fb s))) []⟩
theorem Gt:Fk 122 LV:=by
 refine fo Tryz.f122 [.d .bool] [] (aj) fun xs es K=>?_;rintro⟨s,rfl,rfl,h⟩;refine⟨rfl,?_⟩;have hf0:=fb.eq_1 s;exact e0
def cA(t:af):Bool:=
 decide ¬bc t=0
def LW:bh U:=⟨[.d (.st 1)],fun xs es K=> ∃(t:af),xs= [(u4 t)]∧es= []∧K (.v (vb (cA t))) []⟩
theorem Ct:Fk 132 LW:=by
 refine fo Tryz.f132 [.d .bool] [] (aa Gr aj) fun xs es K=>?_;rintro⟨t,rfl,rfl,h⟩;refine⟨rfl,?_⟩;have hf0:=cA.eq_1 t;refine⟨_,rfl,rfl,?_⟩;exact e0
def de(a:ba)(t:af):Int:=
 ae a.tag t
def LY:bh U:=⟨[.d (.st 7),.d (.st 1)],fun xs es K=> ∃(a:ba) (t:af),xs= [(HL a),(u4 t)]∧es= []∧K (.v (vi (de a t))) []⟩
theorem IJ:Fk 134 LY:=by
 refine fo Tryz.f134 [.d (.int .i64)] [] (aa zf aj) fun xs es K=>?_;rintro⟨a,t,rfl,rfl,h⟩;refine⟨rfl,?_⟩;have hf0:=de.eq_1 a t;refine⟨_,_,rfl,rfl,?_⟩;exact e0
def bS(l:List af)(f:af→Bool):Bool:=
 decide (0≤nv l f)
def O0:bh U:=⟨[.d (.sl (.st 1)),.f1 (.st 1)],fun xs es K=> ∃(l:List af) (f:af→Bool),xs= [(mz l),⟨false,[(1,.f1 (.st 1) f)]⟩]∧es= []∧K (.v (vb (bS l f))) []⟩
theorem IK:Fk 73 O0:=by
 refine fo Tryz.f73 [.d .bool] [] (aa Nl aj) fun xs es K=>?_;rintro⟨l,f,rfl,rfl,h⟩;refine⟨rfl,?_⟩;have hf0:=bS.eq_1 l f;refine⟨_,_,rfl,rfl,?_⟩;exact e0
def eF(l:List ba)(f:ba→Bool):Bool:=
 decide (0≤nv l f)
def LZ:bh U:=⟨[.d (.sl (.st 7)),.f1 (.st 7)],fun xs es K=> ∃(l:List ba) (f:ba→Bool),xs= [(A3 l),⟨false,[(1,.f1 (.st 7) f)]⟩]∧es= []∧K (.v (vb (eF l f))) []⟩
theorem L0:Fk 166 LZ:=by
 refine fo Tryz.f166 [.d .bool] [] (aa Nn aj) fun xs es K=>?_;rintro⟨l,f,rfl,rfl,h⟩;refine⟨rfl,?_⟩;have hf0:=eF.eq_1 l f;refine⟨_,_,rfl,rfl,?_⟩;exact e0
def fV(x:List af)(target:af)(c:af→af→Int):Nat→Int→Int→(Int×Bool)⊕(Int×Int)
 |0,s9,s10=> .inr (s9,s10)
 |n1+1,s9,s10=>
  if s9<s10 then
   if c (ix x ((s9+s10)/2)) target<0 then
    fV x target c n1 ((s9+s10)/(2:Int)+(1:Int)) s10
   else
    fV x target c n1 s9 ((s9+s10)/2)
  else
   .inr (s9,s10)
def cJ(x:List af)(target:af)(c:af→af→Int):Int×Bool:=
 match fV x target c (((x.length:Int)- 0).toNat+1) 0 (x.length:Int)with
 | .inl r=>r
 | .inr (s9,s10)=>
  (s9,decide (s9<(x.length:Int))&&decide (c (ix x s9) target=0))
def L3:bh U:=⟨[.d (.sl (.st 1)),.d (.st 1),.f2 (.st 1) (.st 1)],fun xs es K=> ∃(x:List af) (target:af) (c:af→af→Int),xs= [(mz x),(u4 target),⟨false,[(1,.f2 (.st 1) (.st 1) c)]⟩]∧es= []∧(x.length≤1000000)∧K (.tup [(vi ((cJ x target c).1)),(vb ((cJ x target c).2))]) []⟩
theorem Gu:Fk 144 L3:=by
 refine fo Tryz.f144 [.d (.int .i64),.d .bool] [] (aj) fun xs es K=>?_;rintro⟨x,target,c,rfl,rfl,hx,h⟩;refine⟨rfl,?_⟩;have hf0:=cJ.eq_1 x target c;refine fun h0=>?_;have h0:(↑x.length:Int)≤(9223372036854775807:Int):=h0.2;refine⟨Int×Int,1,fun(s9,s10)=> [(0,.v ⟨false,[(1,.d (.sl (.st 1)) x)]⟩),(2,.v ⟨false,[(1,Cx.f2 (bg.st (1:Nat)) (bg.st (1:Nat)) c)]⟩),(4,.v ⟨false,[(1,.ptr 0 0)]⟩),(6,.v ⟨false,[(1,.d (.int .i64) (0:Int))]⟩),(7,.v ⟨false,[(1,.d .bool false)]⟩),(8,.v ⟨false,[(1,.d (.int .i64) (↑x.length:Int))]⟩),(9,.v ⟨false,[(1,.d (.int .i64) s9)]⟩),(10,.v ⟨false,[(1,.d (.int .i64) s10)]⟩)],fun(s9,s10)=> [(0,.cells [(3,.d (.st 1) target)] 34)],dQ (fun(s9,s10)=>(s10 - s9).toNat) (fun(s9,s10)=>(0≤s9)∧(s9≤s10)∧(s10≤(x.length:Int))∧True) (fun n1 (s9,s10)=>fV x target c n1 s9 s10) (fV x target c (((↑x.length:Int)-(0:Int)).toNat+1) (0:Int) (↑x.length:Int)),fun(s9,s10)=>(s10 - s9).toNat,⟨[],((0:Int),(↑x.length:Int)),dQ.mk0 _ (Nat.lt_succ_self _) ⟨show(0:Int)≤(0:Int)from by omega,show(0:Int)≤(↑x.length:Int)from by omega,show(↑x.length:Int)≤(↑x.length:Int)from by omega,trivial⟩ rfl,?_⟩,?_⟩
 ·repeat (first|exact trivial|refine And.intro rfl ?_)
 ·rintro⟨s9,s10⟩ ⟨n1,hc1,⟨hi1_0,hi1_1,hi1_2,-⟩,hf1⟩;have hf1:=hf1.trans (fV.eq_2 x target c s9 s10 n1);refine vI hf1 iD (fun _ hf1=>?_) (fun _ hf1=>?_)
  ·refine .inl (And.intro (xI (p:=s9) (q:=s10) (r:=s9+s10) (by omega)) ?_);refine .inl (And.intro (fun(h2:(-9223372036854775808:Int)≤s9+s10∧s9+s10≤(9223372036854775807:Int))=>(show(0:Int)≤s9+s10∧s9+s10≤(18446744073709551615:Int)from by omega)) ?_);refine And.intro (show(0:Int)≤(1:Int)∧(1:Int)≤(18446744073709551615:Int)→(0:Int)≤(1:Int)from by omega) ?_;refine .inl (And.intro (fun(h3:(0:Int)≤(s9+s10)/(2:Int)∧(s9+s10)/(2:Int)≤(18446744073709551615:Int))=>(show(-9223372036854775808:Int)≤(s9+s10)/(2:Int)∧(s9+s10)/(2:Int)≤(9223372036854775807:Int)from by omega)) ?_);refine .inl ⟨[(true,0),(true,1),(true,2),(true,3),(true,4),(true,5),(false,6),(true,7)],none,[1,2,3,4,5,6,7,8,9,10,11,12],by kernel_rfl,?_⟩;refine And.intro (show(0:Int)≤(s9+s10)/(2:Int)∧(s9+s10)/(2:Int)<(↑x.length:Int)from by omega) ?_;refine vI hf1 iD (fun _ hf1=>?_) (fun _ hf1=>?_)
   ·refine .inl (And.intro (xI (p:=(s9+s10)/(2:Int)) (q:=(1:Int)) (r:=(s9+s10)/(2:Int)+(1:Int)) (by omega)) ?_);have hm1:(s10 -((s9+s10)/(2:Int)+(1:Int))).toNat<(s10 - s9).toNat:=by omega
    refine⟨[],((s9+s10)/(2:Int)+(1:Int),s10),hm1,dQ.next (s:=(s9,s10)) hc1 hm1 ⟨show(0:Int)≤(s9+s10)/(2:Int)+(1:Int)from by omega,show(s9+s10)/(2:Int)+(1:Int)≤s10 from by omega,show s10≤(↑x.length:Int)from by omega,trivial⟩ hf1,?_⟩;repeat (first|exact trivial|refine And.intro rfl ?_)
   ·have hm1:((s9+s10)/(2:Int)- s9).toNat<(s10 - s9).toNat:=by omega
    refine⟨[],(s9,(s9+s10)/(2:Int)),hm1,dQ.next (s:=(s9,s10)) hc1 hm1 ⟨show(0:Int)≤s9 from by omega,show s9≤(s9+s10)/(2:Int)from by omega,show(s9+s10)/(2:Int)≤(↑x.length:Int)from by omega,trivial⟩ hf1,?_⟩;repeat (first|exact trivial|refine And.intro rfl ?_)
  ·rw[hf1]at hf0;refine .inl ⟨[(true,0),(true,1),(true,2),(true,3),(true,4),(true,5),(true,6),(true,7),(true,8),(true,9),(true,10),(false,11),(true,12),(true,13),(true,14),(true,15)],none,[1,2,3,4,5,6,7,8,9,10,11,12],by kernel_rfl,?_⟩;refine And.intro (show decide (s9<(↑x.length:Int))=((39:Nat),true).snd→(0:Int)≤s9∧s9<(↑x.length:Int)from by(intro h;simp at h;omega)) ?_;rw[hf0]at h;exact h
def fW(x:List ba)(target:af)(c:ba→af→Int):Nat→Int→Int→(Int×Bool)⊕(Int×Int)
 |0,s9,s10=> .inr (s9,s10)
 |n1+1,s9,s10=>
  if s9<s10 then
   if c (ix x ((s9+s10)/2)) target<0 then
    fW x target c n1 ((s9+s10)/(2:Int)+(1:Int)) s10
   else
    fW x target c n1 s9 ((s9+s10)/2)
  else
   .inr (s9,s10)
def ef(x:List ba)(target:af)(c:ba→af→Int):Int×Bool:=
 match fW x target c (((x.length:Int)- 0).toNat+1) 0 (x.length:Int)with
 | .inl r=>r
 | .inr (s9,s10)=>
  (s9,decide (s9<(x.length:Int))&&decide (c (ix x s9) target=0))
def L4:bh U:=⟨[.d (.sl (.st 7)),.d (.st 1),.f2 (.st 7) (.st 1)],fun xs es K=> ∃(x:List ba) (target:af) (c:ba→af→Int),xs= [(A3 x),(u4 target),⟨false,[(1,.f2 (.st 7) (.st 1) c)]⟩]∧es= []∧(x.length≤1000000)∧K (.tup [(vi ((ef x target c).1)),(vb ((ef x target c).2))]) []⟩
theorem L5:Fk 133 L4:=by
 refine fo Tryz.f133 [.d (.int .i64),.d .bool] [] (aj) fun xs es K=>?_;rintro⟨x,target,c,rfl,rfl,hx,h⟩;refine⟨rfl,?_⟩;have hf0:=ef.eq_1 x target c;refine fun h0=>?_;have h0:(↑x.length:Int)≤(9223372036854775807:Int):=h0.2;refine⟨Int×Int,1,fun(s9,s10)=> [(0,.v ⟨false,[(1,.d (.sl (.st 7)) x)]⟩),(2,.v ⟨false,[(1,Cx.f2 (bg.st (7:Nat)) (bg.st (1:Nat)) c)]⟩),(4,.v ⟨false,[(1,.ptr 0 0)]⟩),(6,.v ⟨false,[(1,.d (.int .i64) (0:Int))]⟩),(7,.v ⟨false,[(1,.d .bool false)]⟩),(8,.v ⟨false,[(1,.d (.int .i64) (↑x.length:Int))]⟩),(9,.v ⟨false,[(1,.d (.int .i64) s9)]⟩),(10,.v ⟨false,[(1,.d (.int .i64) s10)]⟩)],fun(s9,s10)=> [(0,.cells [(3,.d (.st 1) target)] 34)],dQ (fun(s9,s10)=>(s10 - s9).toNat) (fun(s9,s10)=>(0≤s9)∧(s9≤s10)∧(s10≤(x.length:Int))∧True) (fun n1 (s9,s10)=>fW x target c n1 s9 s10) (fW x target c (((↑x.length:Int)-(0:Int)).toNat+1) (0:Int) (↑x.length:Int)),fun(s9,s10)=>(s10 - s9).toNat,⟨[],((0:Int),(↑x.length:Int)),dQ.mk0 _ (Nat.lt_succ_self _) ⟨show(0:Int)≤(0:Int)from by omega,show(0:Int)≤(↑x.length:Int)from by omega,show(↑x.length:Int)≤(↑x.length:Int)from by omega,trivial⟩ rfl,?_⟩,?_⟩
 ·repeat (first|exact trivial|refine And.intro rfl ?_)
 ·rintro⟨s9,s10⟩ ⟨n1,hc1,⟨hi1_0,hi1_1,hi1_2,-⟩,hf1⟩;have hf1:=hf1.trans (fW.eq_2 x target c s9 s10 n1);refine vI hf1 iD (fun _ hf1=>?_) (fun _ hf1=>?_)
  ·refine .inl (And.intro (xI (p:=s9) (q:=s10) (r:=s9+s10) (by omega)) ?_);refine .inl (And.intro (fun(h2:(-9223372036854775808:Int)≤s9+s10∧s9+s10≤(9223372036854775807:Int))=>(show(0:Int)≤s9+s10∧s9+s10≤(18446744073709551615:Int)from by omega)) ?_);refine And.intro (show(0:Int)≤(1:Int)∧(1:Int)≤(18446744073709551615:Int)→(0:Int)≤(1:Int)from by omega) ?_;refine .inl (And.intro (fun(h3:(0:Int)≤(s9+s10)/(2:Int)∧(s9+s10)/(2:Int)≤(18446744073709551615:Int))=>(show(-9223372036854775808:Int)≤(s9+s10)/(2:Int)∧(s9+s10)/(2:Int)≤(9223372036854775807:Int)from by omega)) ?_);refine .inl ⟨[(true,0),(true,1),(true,2),(true,3),(true,4),(true,5),(false,6),(true,7)],none,[1,2,3,4,5,6,7,8,9,10,11,12],by kernel_rfl,?_⟩;refine And.intro (show(0:Int)≤(s9+s10)/(2:Int)∧(s9+s10)/(2:Int)<(↑x.length:Int)from by omega) ?_;refine vI hf1 iD (fun _ hf1=>?_) (fun _ hf1=>?_)
   ·refine .inl (And.intro (xI (p:=(s9+s10)/(2:Int)) (q:=(1:Int)) (r:=(s9+s10)/(2:Int)+(1:Int)) (by omega)) ?_);have hm1:(s10 -((s9+s10)/(2:Int)+(1:Int))).toNat<(s10 - s9).toNat:=by omega
    refine⟨[],((s9+s10)/(2:Int)+(1:Int),s10),hm1,dQ.next (s:=(s9,s10)) hc1 hm1 ⟨show(0:Int)≤(s9+s10)/(2:Int)+(1:Int)from by omega,show(s9+s10)/(2:Int)+(1:Int)≤s10 from by omega,show s10≤(↑x.length:Int)from by omega,trivial⟩ hf1,?_⟩;repeat (first|exact trivial|refine And.intro rfl ?_)
   ·have hm1:((s9+s10)/(2:Int)- s9).toNat<(s10 - s9).toNat:=by omega
    refine⟨[],(s9,(s9+s10)/(2:Int)),hm1,dQ.next (s:=(s9,s10)) hc1 hm1 ⟨show(0:Int)≤s9 from by omega,show s9≤(s9+s10)/(2:Int)from by omega,show(s9+s10)/(2:Int)≤(↑x.length:Int)from by omega,trivial⟩ hf1,?_⟩;repeat (first|exact trivial|refine And.intro rfl ?_)
  ·rw[hf1]at hf0;refine .inl ⟨[(true,0),(true,1),(true,2),(true,3),(true,4),(true,5),(true,6),(true,7),(true,8),(true,9),(true,10),(false,11),(true,12),(true,13),(true,14),(true,15)],none,[1,2,3,4,5,6,7,8,9,10,11,12],by kernel_rfl,?_⟩;refine And.intro (show decide (s9<(↑x.length:Int))=((39:Nat),true).snd→(0:Int)≤s9∧s9<(↑x.length:Int)from by(intro h;simp at h;omega)) ?_;rw[hf0]at h;exact h
def dG(l:List ba)(c:ba→ba→Int):Nat→Int→Bool⊕(Int)
 |0,s5=> .inr s5
 |n1+1,s5=>
  if s5<(l.length:Int)then
   if 0≤c (ix l (s5 - 1)) (ix l s5)then
    .inl false
   else
    dG l c n1 (s5+1)
  else
   .inr s5
def eT(l:List ba)(c:ba→ba→Int):Bool:=
 match dG l c (((l.length:Int)- 1).toNat+1) 1 with
 | .inl r=>r
 | .inr s5=>
  true
def L6:bh U:=⟨[.d (.sl (.st 7)),.f2 (.st 7) (.st 7)],fun xs es K=> ∃(l:List ba) (c:ba→ba→Int),xs= [(A3 l),⟨false,[(1,.f2 (.st 7) (.st 7) c)]⟩]∧es= []∧K (.v (vb (eT l c))) []⟩
theorem L7:Fk 168 L6:=by
 refine fo Tryz.f168 [.d .bool] [] (aj) fun xs es K=>?_;rintro⟨l,c,rfl,rfl,h⟩;refine⟨rfl,?_⟩;have hf0:=eT.eq_1 l c;refine lI 0 (fun(s5:Int)=> [(0,.v (A3 l)),(1,.v ⟨false,[(1,Cx.f2 (bg.st (7:Nat)) (bg.st (7:Nat)) c)]⟩),(4,.v (vb false)),(5,.v (vi s5))]) (fun(s5:Int)=> []) (fun(s5:Int)=>((l.length:Int)- s5).toNat) (fun(s5:Int)=>(1≤s5)∧True) (fun n1 (s5:Int)=>dG l c n1 s5) (dG l c (((l.length:Int)- 1).toNat+1) 1) [] (1:Int) ?_;rintro s5 ⟨n1,hc1,⟨hi1_0,-⟩,hf1⟩;have hf1:=hf1.trans (dG.eq_2 l c s5 n1);refine fl (x:=l.length) fun _=>?_;refine wI hf1 (fun _ hf1=>?_) fun _ hf1=>e1;refine dp [(true,0),(true,1),(true,2),(true,3),(true,4),(true,5),(true,6),(true,7),(true,8),(true,9),(false,10),(true,11)] none (nw 0) ?_;refine ez ?_;refine vx (s5 - 1) l ?_;refine vx s5 l ?_;refine wI hf1 (fun _ hf1=>e1) fun _ hf1=>?_;refine ez ?_;exact nx [] (s5+1) hc1 hf1
def cK(l:List af)(c:af→af→Int):Nat→Int→Bool⊕(Int)
 |0,s5=> .inr s5
 |n1+1,s5=>
  if s5<(l.length:Int)then
   if 0≤c (ix l (s5 - 1)) (ix l s5)then
    .inl false
   else
    cK l c n1 (s5+1)
  else
   .inr s5
def dC(l:List af)(c:af→af→Int):Bool:=
 match cK l c (((l.length:Int)- 1).toNat+1) 1 with
 | .inl r=>r
 | .inr s5=>
  true
def L8:bh U:=⟨[.d (.sl (.st 1)),.f2 (.st 1) (.st 1)],fun xs es K=> ∃(l:List af) (c:af→af→Int),xs= [(mz l),⟨false,[(1,.f2 (.st 1) (.st 1) c)]⟩]∧es= []∧K (.v (vb (dC l c))) []⟩
theorem L9:Fk 170 L8:=by
 refine fo Tryz.f170 [.d .bool] [] (aj) fun xs es K=>?_;rintro⟨l,c,rfl,rfl,h⟩;refine⟨rfl,?_⟩;have hf0:=dC.eq_1 l c;refine lI 0 (fun(s5:Int)=> [(0,.v (mz l)),(1,.v ⟨false,[(1,Cx.f2 (bg.st (1:Nat)) (bg.st (1:Nat)) c)]⟩),(4,.v (vb false)),(5,.v (vi s5))]) (fun(s5:Int)=> []) (fun(s5:Int)=>((l.length:Int)- s5).toNat) (fun(s5:Int)=>(1≤s5)∧True) (fun n1 (s5:Int)=>cK l c n1 s5) (cK l c (((l.length:Int)- 1).toNat+1) 1) [] (1:Int) ?_;rintro s5 ⟨n1,hc1,⟨hi1_0,-⟩,hf1⟩;have hf1:=hf1.trans (cK.eq_2 l c s5 n1);refine fl (x:=l.length) fun _=>?_;refine wI hf1 (fun _ hf1=>?_) fun _ hf1=>e1;refine dp [(true,0),(true,1),(true,2),(true,3),(true,4),(true,5),(true,6),(true,7),(true,8),(true,9),(false,10),(true,11)] none (nw 0) ?_;refine ez ?_;refine vx (s5 - 1) l ?_;refine vx s5 l ?_;refine wI hf1 (fun _ hf1=>e1) fun _ hf1=>?_;refine ez ?_;exact nx [] (s5+1) hc1 hf1
end Go.Proofs.YtiliglahlfkikaaGreatDoor.V
end

section
set_option linter.unusedVariables false
set_option linter.unusedSimpArgs false
set_option maxRecDepth 20000
set_option maxHeartbeats 4000000
namespace Go.Proofs.YtiliglahlfkikaaGreatDoor.V
open Go.RowKit
theorem sQ{α:Type}(s:List α)(i:Int)(vs:List α):(gu s i vs).length=s.length+vs.length:=by
 unfold gu;simp only[List.length_append,List.length_take,List.length_drop];omega
theorem v8{α R:Type} [Inhabited α](x:List α)(c:α→Int)(L:Nat→Int→Int→R⊕(Int×Int))(h0: ∀i j,L 0 i j= .inr (i,j))(hL: ∀fuel i j,L (fuel+1) i j=if i<j then(if c (ix x ((i+j)/2))<0 then L fuel ((i+j)/2+1) j else L fuel i ((i+j)/2))else .inr (i,j)):
  ∀(fuel:Nat) (i j:Int),0≤i→i≤j→j≤x.length→ ∃q r:Int,L fuel i j= .inr (q,r)∧0≤q∧q≤x.length
 |0,i,j,h1,h2,h3=>⟨i,j,h0 i j,h1,by omega⟩
 |fuel+1,i,j,h1,h2,h3=>by
  rw[hL];split
  ·split
   ·exact v8 x c L h0 hL fuel _ _ (by omega) (by omega) h3
   ·exact v8 x c L h0 hL fuel _ _ h1 (by omega) (by omega)
  ·exact⟨i,j,rfl,h1,by omega⟩
theorem sR(x:List af)(t:af)(c:af→af→Int):0≤(cJ x t c).1∧(cJ x t c).1≤x.length:=by
 obtain⟨q,r,h,h1,h2⟩:=v8 x (fun a=>c a t) (fV x t c) (fun _ _=>rfl) (fun _ _ _=>rfl) (((x.length:Int)-(0:Int)).toNat+1) 0 x.length (by omega) (by omega) (by omega);unfold cJ;rw[h];exact⟨h1,h2⟩
theorem sS(x:List ba)(t:af)(c:ba→af→Int):0≤(ef x t c).1∧(ef x t c).1≤x.length:=by
 obtain⟨q,r,h,h1,h2⟩:=v8 x (fun a=>c a t) (fW x t c) (fun _ _=>rfl) (fun _ _ _=>rfl) (((x.length:Int)-(0:Int)).toNat+1) 0 x.length (by omega) (by omega) (by omega);unfold ef;rw[h];exact⟨h1,h2⟩
def j4(s:aY)(t:af):Bool:=
 (cJ s.gone t fun(t t':af)=>ae t t').snd
def Me:bh U:=⟨[.d (.st 8),.d (.st 1)],fun xs es K=> ∃(s:aY) (t:af),xs= [(wD s),(u4 t)]∧es= []∧(s.gone.length≤1000000)∧K (.v (vb (j4 s t))) []⟩
theorem Gw:Fk 135 Me:=by
 refine fo Tryz.f135 [.d .bool] [] (aa zf (aa Gu aj)) fun xs es K=>?_;rintro⟨s,t,rfl,rfl,h2,h⟩;refine⟨rfl,?_⟩;have hf0:=j4.eq_1 s t;refine⟨fun(t t':af)=>ae t t',fun t0 t1=>⟨_,_,rfl,rfl,rfl,rfl⟩,?_⟩;refine⟨_,_,_,rfl,rfl,(by omega),?_⟩;exact e0
def j5(a:ba):Bool:=
 cA a.tag
def Mf:bh U:=⟨[.d (.st 7)],fun xs es K=> ∃(a:ba),xs= [(HL a)]∧es= []∧K (.v (vb (j5 a))) []⟩
theorem Mg:Fk 167 Mf:=by
 refine fo Tryz.f167 [.d .bool] [] (aa Ct aj) fun xs es K=>?_;rintro⟨a,rfl,rfl,h⟩;refine⟨rfl,?_⟩;have hf0:=j5.eq_1 a;refine⟨_,rfl,rfl,?_⟩;exact e0
def fz(a:ba)(b:ba):Int:=
 de a b.tag
def Mi:bh U:=⟨[.d (.st 7),.d (.st 7)],fun xs es K=> ∃(a:ba) (b:ba),xs= [(HL a),(HL b)]∧es= []∧K (.v (vi (fz a b))) []⟩
theorem Mj:Fk 169 Mi:=by
 refine fo Tryz.f169 [.d (.int .i64)] [] (aa IJ aj) fun xs es K=>?_;rintro⟨a,b,rfl,rfl,h⟩;refine⟨rfl,?_⟩;have hf0:=fz.eq_1 a b;refine⟨_,_,rfl,rfl,?_⟩;exact e0
def j6(a:ba)(s:aY):Bool:=
 !fb a.elem||j4 s a.tag
def Ml:bh U:=⟨[.d (.st 7),.n],fun xs es K=> ∃(a:ba) (s:aY),xs= [(HL a),⟨false,[(1,.pd (.st 8) s)]⟩]∧es= []∧(s.gone.length≤1000000)∧K (.v (vb (j6 a s))) []⟩
theorem Mm:Fk 171 Ml:=by
 refine fo Tryz.f171 [.d .bool] [] (aa Gt (aa Gw aj)) fun xs es K=>?_;rintro⟨a,s,rfl,rfl,h2,h⟩;refine⟨rfl,?_⟩;have hf0:=j6.eq_1 a s;refine⟨_,rfl,rfl,?_⟩;refine⟨_,fun _=>⟨_,_,rfl,rfl,(by omega),rfl,rfl⟩,rfl,?_⟩;exact e0
def dx(s:aY):Int:=
 if(4096<(s.adds.length:Int))∨(4096<(s.gone.length:Int))then
  8
 else
  if((eF s.adds fun(t:ba)=>j5 t)=true)∨((bS s.gone fun(t:af)=>cA t)=true)then
   2
  else
   if(¬(((eT s.adds fun(t t':ba)=>fz t t')=true)∧((dC s.gone fun(t t':af)=>ae t t')=true)))∨((eF s.adds fun(t:ba)=>j6 t s)=true)then
    3
   else
    0
def Mn:bh U:=⟨[.d (.st 8)],fun xs es K=> ∃(s:aY),xs= [(wD s)]∧es= []∧(s.gone.length≤1000000)∧((fun(r0:Int)=>r0=0→s.adds.length≤4096∧s.gone.length≤4096) (dx s)→K (.v (vi (dx s))) [])⟩
theorem Cu:Fk 112 Mn:=by
 refine fo Tryz.f112 [.d (.int .i64)] [] (aa IK (aa zf (aa Ct (aa L0 (aa Mg (aa L7 (aa Mj (aa L9 (aa Mm aj))))))))) fun xs es K=>?_;rintro⟨s,rfl,rfl,h2,h⟩;refine⟨rfl,?_⟩;have hf0:=dx.eq_1 s;refine fl (x:=s.adds.length) fun _=>?_;refine wI hf0 (fun _ hf0=>?_) fun _ hf0=>?_
 ·rw[hf0]at h;exact h (by omega)
 ·refine⟨fun(t:ba)=>j5 t,fun t0=>⟨_,rfl,rfl,rfl,rfl⟩,?_⟩;refine⟨_,_,rfl,rfl,?_⟩;refine⟨_,fun h2=>⟨fun(t:af)=>cA t,fun t0=>⟨_,rfl,rfl,rfl,rfl⟩,_,_,rfl,rfl,rfl,rfl⟩,rfl,?_⟩;refine wI hf0 (fun _ hf0=>?_) fun _ hf0=>?_
  ·rw[hf0]at h;exact h (by omega)
  ·refine⟨fun(t t':ba)=>fz t t',fun t0 t1=>⟨_,_,rfl,rfl,rfl,rfl⟩,?_⟩;refine⟨_,_,rfl,rfl,?_⟩;refine⟨_,fun _=>⟨fun(t t':af)=>ae t t',fun t0 t1=>⟨_,_,rfl,rfl,rfl,rfl⟩,_,_,rfl,rfl,rfl,rfl⟩,rfl,?_⟩;refine⟨_,fun _=>⟨fun(t:ba)=>j6 t s,fun t0=>⟨_,_,rfl,rfl,(by omega),rfl,rfl⟩,_,_,rfl,rfl,rfl,rfl⟩,rfl,?_⟩;refine wI hf0 (fun _ hf0=>?_) fun _ hf0=>?_
   ·rw[hf0]at h;exact h (by omega)
   ·rw[hf0]at h;exact h (by omega)
def fc(s:aY)(a:ba):aY×Int:=
 if dx s=0 then
  if cA a.tag=true then
   (aY.mk [] [],2)
  else
   if fb a.elem=true then
    if(((ef s.adds a.tag fun(t:ba) (t':af)=>de t t').snd)=true)∨(j4 s a.tag=true)then
     (aY.mk s.adds s.gone,0)
    else
     if(s.adds.length:Int)=4096 then
      (aY.mk [] [],4)
     else
      (aY.mk (gu s.adds (ef s.adds a.tag fun(t:ba) (t':af)=>de t t').fst [a]) s.gone,0)
   else
    (aY.mk [] [],3)
 else
  (aY.mk [] [],dx s)
def O4:bh U:=⟨[.d (.st 8),.d (.st 7)],fun xs es K=> ∃(s:aY) (a:ba),xs= [(wD s),(HL a)]∧es= []∧(s.adds.length≤1000000)∧(s.gone.length≤1000000)∧((fun(r0:aY) (r1:Int)=>r0.adds.length≤4097∧r0.gone.length≤4097) ((fc s a).1) ((fc s a).2)→K (.tup [(wD ((fc s a).1)),(vi ((fc s a).2))]) [])⟩
theorem O5:Fk 81 O4:=by
 refine fo Tryz.f81 [.d (.st 8),.d (.int .i64)] [] (aa HV (aa zP (aa Cu (aa Gt (aa Ct (aa L5 (aa IJ (aa Gw (aa Nh aj))))))))) fun xs es K=>?_;rintro⟨s,a,rfl,rfl,h1,h2,h⟩;refine⟨rfl,?_⟩;have hf0:=fc.eq_1 s a;refine⟨_,rfl,rfl,(by omega),?_⟩;refine fun _=>?_;refine wN hf0 (fun h1 hf0=>?_) fun h1 hf0=>?_
 ·rw[hf0]at h;exact h (by simp)
 ·refine⟨_,rfl,rfl,?_⟩;refine wI hf0 (fun h2 hf0=>?_) fun h2 hf0=>?_
  ·rw[hf0]at h;exact h (by simp)
  ·refine⟨_,rfl,rfl,?_⟩;refine wN hf0 (fun _ hf0=>?_) fun _ hf0=>?_
   ·rw[hf0]at h;exact h (by simp)
   ·refine⟨fun(t:ba) (t':af)=>de t t',fun t0 t1=>⟨_,_,rfl,rfl,rfl,rfl⟩,?_⟩;refine⟨_,_,_,rfl,rfl,(by omega),?_⟩;refine .inr ⟨(.look 0 (.look 1 (.look 3 (.look 4 (.turn 2 (.turn 5 (.look 6 (.turn 7 .fin .nil)) (.turn 7 (.turn 5 (.look 6 .fin) .nil) .nil)) (.turn 7 (.turn 2 (.turn 5 (.look 6 .fin) .nil) .nil) .nil)))))),some 8,[],6,[(2,.v ⟨false,[(1,.ptr 0 0)]⟩),(3,.v ⟨false,[(1,.ptr 1 0)]⟩),(4,.v ⟨false,[(1,.ptr 2 0)]⟩),(5,.v ⟨false,[(1,.d (.int .i64) (0:Int))]⟩),(7,.v ⟨false,[(1,.d (.int .i64) ((ef s.adds a.tag fun(t:ba) (t':af)=>de t t').fst))]⟩),(8,.v ⟨false,[(1,.d .bool ((ef s.adds a.tag fun(t:ba) (t':af)=>de t t').snd))]⟩),(9,.v ⟨false,[(1,.ptr 5 0)]⟩)],[(0,.cells [(2,.d (.st 8) s)] 56),(1,.cells [(4,.d (.st 7) a)] 159),(2,.cells [(1,.nils),(1,.nils)] 56),(3,.row 0 (.st 7) s.adds 159),(4,.row 0 (.st 1) s.gone 34),(5,.cells [(1,.own 3 0),(1,.own 4 0)] 56)],True,by kernel_rfl,?_,?_⟩
    ·refine And.intro ?_ ?_
     ·refine⟨_,rfl,rfl,(by assumption),?_⟩;refine And.intro ?_ ?_
      ·refine⟨_,rfl,rfl,(by assumption),?_⟩;refine And.intro ?_ trivial;refine⟨trivial,[],?_⟩;repeat (first|exact trivial|refine And.intro rfl ?_)
      refine And.intro ?_ trivial;refine And.intro ?_ trivial;refine⟨_,rfl,rfl,(by assumption),?_⟩;refine⟨trivial,[(5,4),(4,5)],?_⟩;repeat (first|exact trivial|refine And.intro rfl ?_)
     refine And.intro ?_ trivial;refine And.intro ?_ trivial;refine⟨_,rfl,rfl,(by assumption),?_⟩;refine And.intro ?_ trivial;refine⟨_,rfl,rfl,(by assumption),?_⟩;refine⟨trivial,[(5,3),(3,4),(4,5)],?_⟩;repeat (first|exact trivial|refine And.intro rfl ?_)
    refine fun _=>?_;refine⟨_,fun _=>⟨_,_,rfl,rfl,(by omega),rfl,rfl⟩,rfl,?_⟩;refine wI hf0 (fun _ hf0=>?_) fun _ hf0=>?_
    ·rw[hf0]at h;exact h (by(dsimp only;omega))
    ·refine fl (x:=s.adds.length) fun _=>?_;refine wI hf0 (fun _ hf0=>?_) fun _ hf0=>?_
     ·rw[hf0]at h;exact h (by simp)
     ·refine⟨_,_,_,rfl,rfl,((sS _ _ _).1),((sS _ _ _).2),(by assumption),?_⟩;rw[hf0]at h;exact h (by(dsimp only;rw[sQ];simp only[List.length_cons,List.length_nil];omega))
def lR(a:ba)(out:aY):Bool:=
 j4 out a.tag
def Mo:bh U:=⟨[.d (.st 7),.n],fun xs es K=> ∃(a:ba) (out:aY),xs= [(HL a),⟨false,[(1,.pd (.st 8) out)]⟩]∧es= []∧(out.gone.length≤1000000)∧K (.v (vb (lR a out))) []⟩
theorem Mq:Fk 141 Mo:=by
 refine fo Tryz.f141 [.d .bool] [] (aa Gw aj) fun xs es K=>?_;rintro⟨a,out,rfl,rfl,h2,h⟩;refine⟨rfl,?_⟩;have hf0:=lR.eq_1 a out;refine⟨_,_,rfl,rfl,(by omega),?_⟩;exact e0
end Go.Proofs.YtiliglahlfkikaaGreatDoor.V
end

section
set_option linter.unusedVariables false
set_option linter.unusedSimpArgs false
set_option maxRecDepth 20000
set_option maxHeartbeats 4000000
namespace Go.Proofs.YtiliglahlfkikaaGreatDoor.V
open Go.RowKit
def iS(v:List Int):Nat→Int→Int⊕(Int)
 |0,s6=> .inr s6
 |n1+1,s6=>
  if s6<8 then
   if 1048576<ix v s6 then
    .inl 2
   else
    iS v n1 (s6+1)
  else
   .inr s6
def eG(v:List Int):Int:=
 match iS v (((8:Int)-(0:Int)).toNat+1) (0:Int)with
 | .inl r=>r
 | .inr s6=>
  0
def O8:bh U:=⟨[.d (.arr 8 (.int .u32))],fun xs es K=> ∃(v:List Int),xs= [(iH v)]∧es= []∧K (.v (vi (eG v))) []⟩
theorem O9:Fk 43 O8:=by
 refine fo Tryz.f43 [.d (.int .i64)] [] (aj) fun xs es K=>?_;rintro⟨v,rfl,rfl,h⟩;refine⟨rfl,?_⟩;have hf0:=eG.eq_1 v;refine lI 1 (fun(s6:Int)=> [(2,.v (vi 0)),(5,.v (iH v)),(6,.v (vi s6))]) (fun(s6:Int)=> []) (fun(s6:Int)=>(8 - s6).toNat) (fun(s6:Int)=>(0≤s6)∧(s6≤8)∧True) (fun n1 (s6:Int)=>iS v n1 s6) (iS v (((8:Int)-(0:Int)).toNat+1) (0:Int)) [] (0:Int) ?_;rintro s6 ⟨n1,hc1,⟨hi1_0,hi1_1,-⟩,hf1⟩;have hf1:=hf1.trans (iS.eq_2 v s6 n1);refine wI hf1 (fun _ hf1=>?_) fun _ hf1=>e1;refine vs (P:=0≤s6∧s6<((8:Nat):Int)) ?_;refine wI hf1 (fun _ hf1=>e1) fun _ hf1=>?_;refine ez ?_;exact nx [] (s6+1) hc1 hf1
def jO(b:List Int):Nat→Int→(List Int)→(List Int)⊕(Int×(List Int))
 |0,s8,s2_0=> .inr (s8,s2_0)
 |n1+1,s8,s2_0=>
  if s8<8 then
   jO b n1 (s8+1) (s2_0.set s8.toNat (max (ix s2_0 s8) (ix b s8)))
  else
   .inr (s8,s2_0)
def nJ(a:List Int)(b:List Int):List Int:=
 match jO b (((8:Int)-(0:Int)).toNat+1) (0:Int) a with
 | .inl r=>r
 | .inr (s8,s2_0)=>
  s2_0
def Pa:bh U:=⟨[.d (.arr 8 (.int .u32)),.d (.arr 8 (.int .u32))],fun xs es K=> ∃(a:List Int) (b:List Int),xs= [(iH a),(iH b)]∧es= []∧K (.v (iH (nJ a b))) []⟩
theorem Pb:Fk 99 Pa:=by
 refine fo Tryz.f99 [.d (.arr 8 (.int .u32))] [] (aj) fun xs es K=>?_;rintro⟨a,b,rfl,rfl,h⟩;refine⟨rfl,?_⟩;have hf0:=nJ.eq_1 a b;refine⟨Int×(List Int),3,fun(s8,s2_0)=> [(2,.v ⟨false,[(1,.ptr 0 0)]⟩),(4,.v ⟨false,[(1,.ptr 2 0)]⟩),(7,.v ⟨true,[(8,.d (.arr 8 (.int .u32)) b)]⟩),(8,.v ⟨false,[(1,.d (.int .i64) s8)]⟩)],fun(s8,s2_0)=> [(0,.cells [(8,.d (.arr 8 (.int .u32)) s2_0)] 41),(2,.cells [(1,.d (.int .u32) (0:Int)),(1,.d (.int .u32) (0:Int)),(1,.d (.int .u32) (0:Int)),(1,.d (.int .u32) (0:Int)),(1,.d (.int .u32) (0:Int)),(1,.d (.int .u32) (0:Int)),(1,.d (.int .u32) (0:Int)),(1,.d (.int .u32) (0:Int))] 41)],dQ (fun(s8,s2_0)=>((8:Int)- s8).toNat) (fun(s8,s2_0)=>((0:Int)≤s8)∧(s8≤(8:Int))∧True) (fun n1 (s8,s2_0)=>jO b n1 s8 s2_0) (jO b (((8:Int)-(0:Int)).toNat+1) (0:Int) a),fun(s8,s2_0)=>((8:Int)- s8).toNat,⟨[],((0:Int),a),dQ.mk0 _ (Nat.lt_succ_self _) ⟨show(0:Int)≤(0:Int)from by omega,show(0:Int)≤(8:Int)from by omega,trivial⟩ rfl,?_⟩,?_⟩
 ·repeat (first|exact trivial|refine And.intro rfl ?_)
 ·rintro⟨s8,s2_0⟩ ⟨n1,hc1,⟨hi1_0,hi1_1,-⟩,hf1⟩;have hf1:=hf1.trans (jO.eq_2 b s8 s2_0 n1);refine vI hf1 iD (fun _ hf1=>?_) (fun _ hf1=>?_)
  ·refine And.intro (show(0:Int)≤s8∧s8<(↑(8:Nat):Int)from by omega) ?_;refine And.intro (show(0:Int)≤s8∧s8<(↑(8:Nat):Int)from by omega) ?_;refine And.intro (show(0:Int)≤s8∧s8<(↑(8:Nat):Int)from by omega) ?_;refine .inl (And.intro (xI (p:=s8) (q:=(1:Int)) (r:=s8+(1:Int)) (by omega)) ?_);have hm1:((8:Int)-(s8+(1:Int))).toNat<((8:Int)- s8).toNat:=by omega
   refine⟨[],(s8+(1:Int),s2_0.set s8.toNat (max (ix s2_0 s8) (ix b s8))),hm1,dQ.next (s:=(s8,s2_0)) hc1 hm1 ⟨show(0:Int)≤s8+(1:Int)from by omega,show s8+(1:Int)≤(8:Int)from by omega,trivial⟩ hf1,?_⟩;repeat (first|exact trivial|refine And.intro rfl ?_)
  ·rw[hf1]at hf0;rw[hf0]at h;exact h
def jP(a:List Int)(b:List Int):Bool:=
 decide (nJ a b=b)
def Pc:bh U:=⟨[.d (.arr 8 (.int .u32)),.d (.arr 8 (.int .u32))],fun xs es K=> ∃(a:List Int) (b:List Int),xs= [(iH a),(iH b)]∧es= []∧K (.v (vb (jP a b))) []⟩
theorem Pd:Fk 44 Pc:=by
 refine fo Tryz.f44 [.d .bool] [] (aa Pb aj) fun xs es K=>?_;rintro⟨a,b,rfl,rfl,h⟩;refine⟨rfl,?_⟩;have hf0:=jP.eq_1 a b;refine dp [(true,0),(true,1),(true,3),(false,2),(true,4),(true,5)] none (nw 2) ?_;refine⟨_,_,rfl,rfl,?_⟩;exact e0
theorem pY{id:gi}(h:d4 id=0):0≤id.origin∧id.origin≤7∧id.seq≤1048576:=by
 unfold d4 at h;split at h
 ·cases h
 ·omega
def aK(v:List Int)(id:gi):Bool:=
 decide (d4 id=0)&&decide (id.seq≤ix v id.origin)
def Pe:bh U:=⟨[.d (.arr 8 (.int .u32)),.d (.st 0)],fun xs es K=> ∃(v:List Int) (id:gi),xs= [(iH v),(D5 id)]∧es= []∧K (.v (vb (aK v id))) []⟩
theorem IL:Fk 36 Pe:=by
 refine fo Tryz.f36 [.d .bool] [] (aa Oi aj) fun xs es K=>?_;rintro⟨v,id,rfl,rfl,h⟩;refine⟨rfl,?_⟩;have hf0:=aK.eq_1 v id;refine dp [(true,0),(false,1),(true,2),(true,3),(true,4),(true,5),(true,6),(true,7),(true,8),(true,9),(true,10),(true,11),(true,12)] none (nw 2) ?_;refine⟨_,rfl,rfl,?_⟩;refine And.intro (show decide (d4 id=(0:Int))=((8:Nat),true).snd→(0:Int)≤id.origin∧id.origin<(↑(8:Nat):Int)from(fun h=>⟨(pY (of_decide_eq_true h)).1,by have:=(pY (of_decide_eq_true h)).2.1;simp;omega⟩)) ?_;exact e0
def ig(t:af)(v:List (Int)):Bool:=
 aK v t.id
def Mt:bh U:=⟨[.d (.st 1),.n],fun xs es K=> ∃(t:af) (v:List (Int)),xs= [(u4 t),⟨false,[(1,.pd (.arr 8 (.int .u32)) v)]⟩]∧es= []∧K (.v (vb (ig t v))) []⟩
theorem Mu:Fk 163 Mt:=by
 refine fo Tryz.f163 [.d .bool] [] (aa IL aj) fun xs es K=>?_;rintro⟨t,v,rfl,rfl,h⟩;refine⟨rfl,?_⟩;have hf0:=ig.eq_1 t v;refine⟨_,_,rfl,rfl,?_⟩;exact e0
def ii(t:af)(v:List (Int)):Bool:=
 aK v t.id
def Mw:bh U:=⟨[.d (.st 1),.n],fun xs es K=> ∃(t:af) (v:List (Int)),xs= [(u4 t),⟨false,[(1,.pd (.arr 8 (.int .u32)) v)]⟩]∧es= []∧K (.v (vb (ii t v))) []⟩
theorem Mx:Fk 165 Mw:=by
 refine fo Tryz.f165 [.d .bool] [] (aa IL aj) fun xs es K=>?_;rintro⟨t,v,rfl,rfl,h⟩;refine⟨rfl,?_⟩;have hf0:=ii.eq_1 t v;refine⟨_,_,rfl,rfl,?_⟩;exact e0
def gN(a:bM)(b:bM):bM:=
 if fH [fy a.at_ b.at_,mQ a.val b.val]<0 then
  b
 else
  a
def My:bh U:=⟨[.d (.st 5),.d (.st 5)],fun xs es K=> ∃(a:bM) (b:bM),xs= [(HK a),(HK b)]∧es= []∧K (.v (HK (gN a b))) []⟩
theorem Mz:Fk 130 My:=by
 refine fo Tryz.f130 [.d (.st 5)] [] (aa ze (aa II (aa LH aj))) fun xs es K=>?_;rintro⟨a,b,rfl,rfl,h⟩;refine⟨rfl,?_⟩;have hf0:=gN.eq_1 a b;refine dp [(true,0),(true,1),(true,2),(true,3),(true,5),(true,6),(true,7),(true,8),(false,4),(false,9),(false,10),(false,11),(true,12)] none (nw 3) ?_;refine⟨_,_,rfl,rfl,?_⟩;refine⟨_,_,rfl,rfl,?_⟩;refine⟨_,rfl,rfl,?_⟩;exact wI hf0 (fun _ hf0=>e0) fun _ hf0=>e0
def dy(s:bM)(val:Int)(tm:aA):bM×Int:=
 if iQ [db s.at_,db tm]=0 then
  if tm.time=0 then
   (bM.mk 0 (aA.mk 0 0),2)
  else
   (gN s (bM.mk val tm),0)
 else
  (bM.mk 0 (aA.mk 0 0),iQ [db s.at_,db tm])
def Pf:bh U:=⟨[.d (.st 5),.d (.int .i64),.d (.st 2)],fun xs es K=> ∃(s:bM) (val:Int) (tm:aA),xs= [(HK s),(vi val),(HY tm)]∧es= []∧K (.tup [(HK ((dy s val tm).1)),(vi ((dy s val tm).2))]) []⟩
theorem Ph:Fk 79 Pf:=by
 refine fo Tryz.f79 [.d (.st 5),.d (.int .i64)] [] (aa Gs (aa LN (aa Mz aj))) fun xs es K=>?_;rintro⟨s,val,tm,rfl,rfl,h⟩;refine⟨rfl,?_⟩;have hf0:=dy.eq_1 s val tm;refine dp [(true,0),(true,1),(true,3),(false,2),(false,4),(false,5),(false,6),(true,7)] none (nw 3) ?_;refine⟨_,rfl,rfl,?_⟩;refine⟨_,rfl,rfl,?_⟩;refine⟨_,rfl,rfl,?_⟩;refine wN hf0 (fun _ hf0=>e0) fun _ hf0=>?_;refine wI hf0 (fun _ hf0=>e0) fun _ hf0=>?_;refine⟨_,_,rfl,rfl,?_⟩;exact e0
def eQ(low:Int)(high:Int)(l:List Int):Nat→Int→Bool⊕(Int)
 |0,s11=> .inr s11
 |n1+1,s11=>
  if s11<(l.length:Int)then
   if(ix l s11<low)∨(high<ix l s11)then
    .inl false
   else
    eQ low high l n1 (s11+1)
  else
   .inr s11
def gC(low:Int)(high:Int)(l:List Int):Bool:=
 match eQ low high l (((l.length:Int)- 0).toNat+1) 0 with
 | .inl r=>r
 | .inr s11=>
  true
def MA:bh U:=⟨[.d (.int .i64),.d (.int .i64),.d (.sl (.int .i64))],fun xs es K=> ∃(low:Int) (high:Int) (l:List Int),xs= [(vi low),(vi high),(H3 l)]∧es= []∧K (.v (vb (gC low high l))) []⟩
theorem MB:Fk 185 MA:=by
 refine fo Tryz.f185 [.d .bool] [] (aj) fun xs es K=>?_;rintro⟨low,high,l,rfl,rfl,h⟩;refine⟨rfl,?_⟩;have hf0:=gC.eq_1 low high l;refine fl (x:=l.length) fun _=>?_;refine lI 0 (fun(s11:Int)=> [(0,.v (vi low)),(1,.v (vi high)),(6,.v (vb false)),(9,.v (H3 l)),(10,.v (vi (l.length:Int))),(11,.v (vi s11))]) (fun(s11:Int)=> []) (fun(s11:Int)=>((l.length:Int)- s11).toNat) (fun(s11:Int)=>(0≤s11)∧(s11≤(l.length:Int))∧True) (fun n1 (s11:Int)=>eQ low high l n1 s11) (eQ low high l (((l.length:Int)- 0).toNat+1) 0) [] (0:Int) ?_;rintro s11 ⟨n1,hc1,⟨hi1_0,hi1_1,-⟩,hf1⟩;have hf1:=hf1.trans (eQ.eq_2 low high l s11 n1);refine wI hf1 (fun _ hf1=>?_) fun _ hf1=>e1;refine vx s11 l ?_;refine wI hf1 (fun _ hf1=>e1) fun _ hf1=>?_;refine ez ?_;exact nx [] (s11+1) hc1 hf1
def eM(a:Int)(b:Int):Int×Int:=
 if gC (-1125899906842624) 1125899906842624 [a,b]=true then
  if gC (-1125899906842624) 1125899906842624 [IntKind.i64.wrap (a+b)]=true then
   (IntKind.i64.wrap (a+b),0)
  else
   (0,12)
 else
  (0,2)
def MC:bh U:=⟨[.d (.int .i64),.d (.int .i64)],fun xs es K=> ∃(a:Int) (b:Int),xs= [(vi a),(vi b)]∧es= []∧K (.tup [(vi ((eM a b).1)),(vi ((eM a b).2))]) []⟩
theorem MD:Fk 131 MC:=by
 refine fo Tryz.f131 [.d (.int .i64),.d (.int .i64)] [] (aa MB aj) fun xs es K=>?_;rintro⟨a,b,rfl,rfl,h⟩;refine⟨rfl,?_⟩;have hf0:=eM.eq_1 a b;refine⟨_,_,_,rfl,rfl,?_⟩;refine wN hf0 (fun _ hf0=>e0) fun _ hf0=>?_;refine .inr ?_;refine⟨_,_,_,rfl,rfl,?_⟩;refine wN hf0 (fun _ hf0=>e0) fun _ hf0=>?_;refine .inr ?_;exact e0
def fA(s:bY):Nat→Int→Int⊕(Int)
 |0,s10=> .inr s10
 |n1+1,s10=>
  if s10<2 then
   if(ix [s.plus,s.minus] s10<0)∨(1125899906842624<ix [s.plus,s.minus] s10)then
    .inl 2
   else
    fA s n1 (s10+1)
  else
   .inr s10
def eI(s:bY):Int:=
 match fA s (((2:Int)-(0:Int)).toNat+1) (0:Int)with
 | .inl r=>r
 | .inr s10=>
  0
def ME:bh U:=⟨[.d (.st 6)],fun xs es K=> ∃(s:bY),xs= [(HZ s)]∧es= []∧K (.v (vi (eI s))) []⟩
theorem IM:Fk 111 ME:=by
 refine fo Tryz.f111 [.d (.int .i64)] [] (aj) fun xs es K=>?_;rintro⟨s,rfl,rfl,h⟩;refine⟨rfl,?_⟩;have hf0:=eI.eq_1 s;refine lI 1 (fun(s10:Int)=> [(2,.v (vi 0)),(9,.v ⟨true,[(1,.d (.int .i64) s.plus),(1,.d (.int .i64) s.minus)]⟩),(10,.v (vi s10))]) (fun(s10:Int)=> []) (fun(s10:Int)=>(2 - s10).toNat) (fun(s10:Int)=>(0≤s10)∧(s10≤2)∧True) (fun n1 (s10:Int)=>fA s n1 s10) (fA s (((2:Int)-(0:Int)).toNat+1) (0:Int)) [] (0:Int) ?_;rintro s10 ⟨n1,hc1,⟨hi1_0,hi1_1,-⟩,hf1⟩;have hf1:=hf1.trans (fA.eq_2 s s10 n1);refine wI hf1 (fun _ hf1=>?_) fun _ hf1=>e1;refine vs (P:=0≤s10∧s10<((2:Nat):Int)) ?_;refine wI hf1 (fun _ hf1=>e1) fun _ hf1=>?_;refine ez ?_;exact nx [] (s10+1) hc1 hf1
def lS(s:bY):Int:=
 if eI s=0 then
  IntKind.i64.wrap (s.plus - s.minus)
 else
  0
def Pi:bh U:=⟨[.d (.st 6)],fun xs es K=> ∃(s:bY),xs= [(HZ s)]∧es= []∧K (.v (vi (lS s))) []⟩
theorem Pj:Fk 64 Pi:=by
 refine fo Tryz.f64 [.d (.int .i64)] [] (aa IM aj) fun xs es K=>?_;rintro⟨s,rfl,rfl,h⟩;refine⟨rfl,?_⟩;have hf0:=lS.eq_1 s;refine⟨_,rfl,rfl,?_⟩;refine wN hf0 (fun _ hf0=>e0) fun _ hf0=>?_;refine .inr ?_;exact e0
def df(s:bY)(n:Int):bY×Int:=
 if eI s=0 then
  if(n<(-1073741824))∨(1073741824<n)then
   (bY.mk 0 0,2)
  else
   if n<0 then
    if(eM s.minus (-n)).snd=0 then
     (bY.mk s.plus (eM s.minus (-n)).fst,0)
    else
     (bY.mk 0 0,(eM s.minus (-n)).snd)
   else
    if(eM s.plus n).snd=0 then
     (bY.mk (eM s.plus n).fst s.minus,0)
    else
     (bY.mk 0 0,(eM s.plus n).snd)
 else
  (bY.mk 0 0,eI s)
def Pk:bh U:=⟨[.d (.st 6),.d (.int .i64)],fun xs es K=> ∃(s:bY) (n:Int),xs= [(HZ s),(vi n)]∧es= []∧K (.tup [(HZ ((df s n).1)),(vi ((df s n).2))]) []⟩
theorem Pn:Fk 80 Pk:=by
 refine fo Tryz.f80 [.d (.st 6),.d (.int .i64)] [] (aa IM (aa MD aj)) fun xs es K=>?_;rintro⟨s,n,rfl,rfl,h⟩;refine⟨rfl,?_⟩;have hf0:=df.eq_1 s n;refine⟨_,rfl,rfl,?_⟩;refine wN hf0 (fun _ hf0=>e0) fun _ hf0=>?_;refine wI hf0 (fun _ hf0=>e0) fun _ hf0=>?_;refine wI hf0 (fun _ hf0=>?_) fun _ hf0=>?_
 ·refine ez ?_;refine⟨_,_,rfl,rfl,?_⟩;exact wN hf0 (fun _ hf0=>e0) fun _ hf0=>e0
 ·refine⟨_,_,rfl,rfl,?_⟩;exact wN hf0 (fun _ hf0=>e0) fun _ hf0=>e0
def bB(act:Int):Int:=
 if act=1 then
  1
 else
  if act=2 then
   2
  else
   if act=3 then
    3
   else
    if act=4 then
     3
    else
     if act=5 then
      4
     else
      if act=6 then
       4
      else
       0
def Po:bh U:=⟨[.d (.int .i64)],fun xs es K=> ∃(act:Int),xs= [(vi act)]∧es= []∧K (.v (vi (bB act))) []⟩
theorem MF:Fk 35 Po:=by
 refine fo Tryz.f35 [.d (.int .i64)] [] (aj) fun xs es K=>?_;rintro⟨act,rfl,rfl,h⟩;refine⟨rfl,?_⟩;have hf0:=bB.eq_1 act;refine wI hf0 (fun _ hf0=>e0) fun _ hf0=>?_;refine wI hf0 (fun _ hf0=>e0) fun _ hf0=>?_;refine wI hf0 (fun _ hf0=>?_) fun _ hf0=>?_
 ·refine vT iD (by omega) ?_;exact e0
 ·refine wI hf0 (fun _ hf0=>e0) fun _ hf0=>?_;refine wI hf0 (fun _ hf0=>?_) fun _ hf0=>wI hf0 (fun _ hf0=>e0) fun _ hf0=>e0;refine vT iD (by omega) ?_;exact e0
def eN(kind:Int):az×Int:=
 if(kind<1)∨(4<kind)then
  (az.mk 0 (bM.mk 0 (aA.mk 0 0)) (bY.mk 0 0) (aY.mk [] []) (be.mk [] []),5)
 else
  (az.mk kind (bM.mk 0 (aA.mk 0 0)) (bY.mk 0 0) (aY.mk [] []) (be.mk [] []),0)
def Pp:bh U:=⟨[.d (.int .i64)],fun xs es K=> ∃(kind:Int),xs= [(vi kind)]∧es= []∧K (.tup [(ku ((eN kind).1)),(vi ((eN kind).2))]) []⟩
theorem MG:Fk 32 Pp:=by
 refine fo Tryz.f32 [.d (.st 10),.d (.int .i64)] [] (aj) fun xs es K=>?_;rintro⟨kind,rfl,rfl,h⟩;refine⟨rfl,?_⟩;have hf0:=eN.eq_1 kind;exact wI hf0 (fun _ hf0=>e0) fun _ hf0=>e0
def dO(o:Int):gX:=
 if o=5 then
  gX.mk true true true false
 else
  if o=1 then
   gX.mk false true true false
  else
   if o=2 then
    gX.mk false true false false
   else
    if o=4 then
     gX.mk true false false true
    else
     if o=6 then
      gX.mk true false false true
     else
      if o=3 then
       gX.mk true false false false
      else
       gX.mk false false false false
def Pq:bh U:=⟨[.d (.int .i64)],fun xs es K=> ∃(o:Int),xs= [(vi o)]∧es= []∧K (.v ⟨true,[(4,.d (.st 15) (dO o))]⟩) []⟩
theorem Oj:Fk 74 Pq:=by
 refine fo Tryz.f74 [.d (.st 15)] [] (aj) fun xs es K=>?_;rintro⟨o,rfl,rfl,h⟩;refine⟨rfl,?_⟩;have hf0:=dO.eq_1 o;refine wI hf0 (fun _ hf0=>e0) fun _ hf0=>?_;refine wI hf0 (fun _ hf0=>e0) fun _ hf0=>?_;refine wI hf0 (fun _ hf0=>e0) fun _ hf0=>?_;refine wI hf0 (fun _ hf0=>?_) fun _ hf0=>wI hf0 (fun _ hf0=>e0) fun _ hf0=>wI hf0 (fun _ hf0=>e0) fun _ hf0=>e0;refine vT iD (by omega) ?_;exact e0
def kO(r:Int):Bool:=
 decide (97≤r)&&decide (r≤122)||decide (48≤r)&&decide (r≤57)
def Pr:bh U:=⟨[.d (.int .u8)],fun xs es K=> ∃(r:Int),xs= [(vc r)]∧es= []∧K (.v (vb (kO r))) []⟩
theorem Ps:Fk 70 Pr:=by
 refine fo Tryz.f70 [.d .bool] [] (aj) fun xs es K=>?_;rintro⟨r,rfl,rfl,h⟩;refine⟨rfl,?_⟩;have hf0:=kO.eq_1 r;exact e0
def dH(t:af):Bool:=
 decide ¬bc t=0
def Pt:bh U:=⟨[.d (.st 1)],fun xs es K=> ∃(t:af),xs= [(u4 t)]∧es= []∧K (.v (vb (dH t))) []⟩
theorem Pu:Fk 72 Pt:=by
 refine fo Tryz.f72 [.d .bool] [] (aa Gr aj) fun xs es K=>?_;rintro⟨t,rfl,rfl,h⟩;refine⟨rfl,?_⟩;have hf0:=dH.eq_1 t;refine⟨_,rfl,rfl,?_⟩;exact e0
def ar(s:az):az:=
 az.mk s.kind s.reg s.num (aY.mk s.set.adds s.set.gone) (be.mk s.map.puts s.map.gone)
def Pv:bh U:=⟨[.d (.st 10)],fun xs es K=> ∃(s:az),xs= [(ku s)]∧es= []∧(s.set.adds.length≤1000000)∧(s.set.gone.length≤1000000)∧(s.map.puts.length≤1000000)∧(s.map.gone.length≤1000000)∧K (.v (ku (ar s))) []⟩
theorem Ok:Fk 78 Pv:=by
 refine fo Tryz.f78 [.d (.st 10)] [] (aa HV (aa zP (aa CS aj))) fun xs es K=>?_;rintro⟨s,rfl,rfl,h1,h2,h3,h4,h⟩;refine⟨rfl,?_⟩;have hf0:=ar.eq_1 s;refine dp [(true,0),(true,1),(true,2),(true,4),(true,5),(true,6),(false,3),(false,7),(true,8),(true,9)] (some 10) (nw 2) ?_;refine⟨_,rfl,rfl,(by assumption),?_⟩;refine⟨_,rfl,rfl,(by assumption),?_⟩;refine dp [(true,0),(true,1),(true,2),(true,4),(true,5),(true,6),(false,3),(false,7),(true,8),(true,9)] (some 10) (nw 4) ?_;refine⟨_,rfl,rfl,(by assumption),?_⟩;refine⟨_,rfl,rfl,(by assumption),?_⟩;exact e0
def iT(e:aA):Bool:=
 decide (db e=0)&&decide (0<e.time)
def Pw:bh U:=⟨[.d (.st 2)],fun xs es K=> ∃(e:aA),xs= [(HY e)]∧es= []∧K (.v (vb (iT e))) []⟩
theorem Px:Fk 75 Pw:=by
 refine fo Tryz.f75 [.d .bool] [] (aa Gs aj) fun xs es K=>?_;rintro⟨e,rfl,rfl,h⟩;refine⟨rfl,?_⟩;have hf0:=iT.eq_1 e;refine⟨_,rfl,rfl,?_⟩;exact e0
def fX(o:wB):Int:=
 if bB o.act=0 then
  5
 else
  if((dO o.act).name=true)∧(¬(fb o.name=true))then
   3
  else
   if(¬((dO o.act).name=true))∧(¬o.name= [])then
    3
   else
    if(¬((dO o.act).val=true))∧(¬o.val=0)then
     3
    else
     if(o.act=2)∧((o.val<(-1073741824))∨(1073741824<o.val))then
      2
     else
      0
def Pz:bh U:=⟨[.d (.st 16)],fun xs es K=> ∃(o:wB),xs= [(Oa o)]∧es= []∧K (.v (vi (fX o))) []⟩
theorem PA:Fk 71 Pz:=by
 refine fo Tryz.f71 [.d (.int .i64)] [] (aa MF (aa Oj (aa Gt aj))) fun xs es K=>?_;rintro⟨o,rfl,rfl,h⟩;refine⟨rfl,?_⟩;have hf0:=fX.eq_1 o;refine⟨_,rfl,rfl,?_⟩;refine wI hf0 (fun _ hf0=>e0) fun _ hf0=>?_;refine⟨_,rfl,rfl,?_⟩;refine⟨_,fun _=>⟨_,rfl,rfl,rfl,rfl⟩,rfl,?_⟩;refine wI hf0 (fun _ hf0=>?_) fun _ hf0=>?_
 ·refine vT (iA iB (iN iB)) (show((dO o.act).name=true)∧(¬(fb o.name=true))from by omega) ?_;exact e0
 ·refine wI hf0 (fun _ hf0=>?_) fun _ hf0=>wI hf0 (fun _ hf0=>e0) fun _ hf0=>wI hf0 (fun _ hf0=>e0) fun _ hf0=>e0;refine vT (iA (iN iB) iD) (show(¬((dO o.act).name=true))∧(¬o.name= [])from by omega) ?_;exact e0
def gO(e:ab):Nat→Int→Int⊕(Int)
 |0,s5=> .inr s5
 |n1+1,s5=>
  if s5<(e.tags.length:Int)then
   if 0≤ae (ix e.tags (s5 - 1)) (ix e.tags s5)then
    .inl 3
   else
    gO e n1 (s5+1)
  else
   .inr s5
def bm(e:ab):Int:=
 if fX (wB.mk e.act e.name e.val)=0 then
  if(dH e.tag=true)∨((bS e.tags fun(t:af)=>dH t)=true)then
   2
  else
   if 4096<(e.tags.length:Int)then
    8
   else
    if((((dO e.act).at_=true)∧(¬(iT e.at_=true)))∨((¬((dO e.act).at_=true))∧(¬(e.at_=aA.mk 0 0))))∨((¬((dO e.act).tags=true))∧(0<(e.tags.length:Int)))then
     3
    else
     match gO e (((e.tags.length:Int)- 1).toNat+1) 1 with
     | .inl r=>r
     | .inr s5=>
      0
 else
  fX (wB.mk e.act e.name e.val)
def PB:bh U:=⟨[.d (.st 3)],fun xs es K=> ∃(e:ab),xs= [(D4 e)]∧es= []∧((fun(r0:Int)=>r0=0→e.tags.length≤4096) (bm e)→K (.v (vi (bm e))) [])⟩
theorem Ol:Fk 34 PB:=by
 refine fo Tryz.f34 [.d (.int .i64)] [] (aa PA (aa Pu (aa IK (aa Oj (aa Px (aa zf aj)))))) fun xs es K=>?_;rintro⟨e,rfl,rfl,h⟩;refine⟨rfl,?_⟩;have hf0:=bm.eq_1 e;refine⟨_,rfl,rfl,?_⟩;refine wN hf0 (fun _ hf0=>?_) fun _ hf0=>?_
 ·rw[hf0]at h;exact h (by omega)
 ·refine⟨_,rfl,rfl,?_⟩;refine⟨_,fun _=>⟨fun(t:af)=>dH t,fun t0=>⟨_,rfl,rfl,rfl,rfl⟩,_,_,rfl,rfl,rfl,rfl⟩,rfl,?_⟩;refine wI hf0 (fun _ hf0=>?_) fun _ hf0=>?_
  ·rw[hf0]at h;exact h (by omega)
  ·refine fl (x:=e.tags.length) fun _=>?_;refine wI hf0 (fun _ hf0=>?_) fun _ hf0=>?_
   ·rw[hf0]at h;exact h (by omega)
   ·refine⟨_,rfl,rfl,?_⟩;refine⟨_,fun _=>⟨_,rfl,rfl,rfl,rfl⟩,rfl,?_⟩;refine wI hf0 (fun _ hf0=>?_) fun _ hf0=>?_
    ·rw[hf0]at h;exact h (by omega)
    ·refine lI 2 (fun(s5:Int)=> [(1,.v (vp 0)),(2,.v (vi 0)),(5,.v (vi s5))]) (fun(s5:Int)=> [(0,.cells [(9,.d (.st 3) e)] 47)]) (fun(s5:Int)=>((e.tags.length:Int)- s5).toNat) (fun(s5:Int)=>(1≤s5)∧True) (fun n1 (s5:Int)=>gO e n1 s5) (gO e (((e.tags.length:Int)- 1).toNat+1) 1) [] (1:Int) ?_;rintro s5 ⟨n1,hc1,⟨hi1_0,-⟩,hf1⟩;have hf1:=hf1.trans (gO.eq_2 e s5 n1);refine fl (x:=e.tags.length) fun _=>?_;refine wI hf1 (fun _ hf1=>?_) fun _ hf1=>?_
     ·refine dp [(true,0),(true,1),(true,2),(true,3),(true,4),(true,5),(true,6),(true,7),(true,8),(true,9),(true,10),(false,11),(true,12)] none (nw 2) ?_;refine ez ?_;refine vx (s5 - 1) e.tags ?_;refine vx s5 e.tags ?_;refine⟨_,_,rfl,rfl,?_⟩;refine wI hf1 (fun _ hf1=>?_) fun _ hf1=>?_
      ·rw[hf1]at hf0;rw[hf0]at h;exact h (by omega)
      ·refine ez ?_;exact nx [] (s5+1) hc1 hf1
     ·rw[hf1]at hf0;rw[hf0]at h;exact h (by omega)
def dP(t:af):Bool:=
 decide ¬bc t=0
def MH:bh U:=⟨[.d (.st 1)],fun xs es K=> ∃(t:af),xs= [(u4 t)]∧es= []∧K (.v (vb (dP t))) []⟩
theorem Gx:Fk 142 MH:=by
 refine fo Tryz.f142 [.d .bool] [] (aa Gr aj) fun xs es K=>?_;rintro⟨t,rfl,rfl,h⟩;refine⟨rfl,?_⟩;have hf0:=dP.eq_1 t;refine⟨_,rfl,rfl,?_⟩;exact e0
def ff(s:be):(List bt)×(List af):=
 (s.puts,s.gone)
def MI:bh U:=⟨[.d (.st 9)],fun xs es K=> ∃(s:be),xs= [(wE s)]∧es= []∧(s.puts.length≤1000000)∧(s.gone.length≤1000000)∧K (.v ⟨true,[(1,.own 0 0),(1,.own 1 0)]⟩) [.row 0 (.st 4) ((ff s).1) 164,.row 0 (.st 1) ((ff s).2) 34]⟩
theorem IP:Fk 146 MI:=by
 refine fo Tryz.f146 [.n] [] (aa HV (aa CS aj)) fun xs es K=>?_;rintro⟨s,rfl,rfl,h1,h2,h⟩;refine⟨rfl,?_⟩;have hf0:=ff.eq_1 s;refine dp [(true,0),(true,1),(true,3),(true,4),(false,2),(false,5),(true,6)] (some 7) (nw 2) ?_;refine⟨_,rfl,rfl,(by assumption),?_⟩;refine⟨_,rfl,rfl,(by assumption),?_⟩;exact e0
def fY(l:List bt):Nat→Int→(List af)→(List af)⊕(Int×(List af))
 |0,s8,s3=> .inr (s8,s3)
 |n1+1,s8,s3=>
  if s8<(l.length:Int)then
   fY l n1 (s8+1) (s3++ [(ix l s8).tag])
  else
   .inr (s8,s3)
def ej(l:List bt):List af:=
 match fY l (((l.length:Int)- 0).toNat+1) 0 ([]:List af)with
 | .inl r=>r
 | .inr (s8,s3)=>
  s3
def MJ:bh U:=⟨[.d (.sl (.st 4))],fun xs es K=> ∃(l:List bt),xs= [(HM l)]∧es= []∧(l.length≤1000000)∧K (.v (mz (ej l))) []⟩
theorem IQ:Fk 145 MJ:=by
 refine fo Tryz.f145 [.d (.sl (.st 1))] [] (aj) fun xs es K=>?_;rintro⟨l,rfl,rfl,hl,h⟩;refine⟨rfl,?_⟩;have hf0:=ej.eq_1 l;refine fl (x:=l.length) fun _=>?_;refine lI (σ:=Int×(List af)) 1 (fun(s8,s3)=> [(2,.v ⟨false,[(1,.nils)]⟩),(3,.v (vo 0)),(6,.v (HM l)),(7,.v (vi (l.length:Int))),(8,.v (vi s8))]) (fun(s8,s3)=> [(0,.row 0 (.st 1) s3 34)]) (fun(s8,s3)=>((l.length:Int)- s8).toNat) (fun(s8,s3)=>(0≤s8)∧(s8≤(l.length:Int))∧((s3.length:Int)≤s8)∧True) (fun n1 (s8,s3)=>fY l n1 s8 s3) (fY l (((l.length:Int)- 0).toNat+1) 0 ([]:List af)) [] ((0:Int),([]:List af)) ?_;rintro⟨s8,s3⟩ ⟨n1,hc1,⟨hi1_0,hi1_1,hi1_2,-⟩,hf1⟩;have hf1:=hf1.trans (fY.eq_2 l s8 s3 n1);refine wI hf1 (fun _ hf1=>?_) fun _ hf1=>e1;refine vx s8 l ?_;refine vs (P:=(s3.length+ [(ix l s8).tag].length)*(24:Nat)≤(140737488355328:Nat)) ?_;refine ez ?_;exact nx (s:=(s8,s3)) [] (s8+1,s3++ [(ix l s8).tag]) hc1 hf1
def eJ(p:bt):Bool:=
 decide ¬p.field= []&&decide ((p.field.length:Int)≤12)&&decide (db p.at_=0)&&decide (0<p.at_.time)
def MK:bh U:=⟨[.d (.st 4)],fun xs es K=> ∃(p:bt),xs= [(KK p)]∧es= []∧K (.v (vb (eJ p))) []⟩
theorem IR:Fk 143 MK:=by
 refine fo Tryz.f143 [.d .bool] [] (aa Gs aj) fun xs es K=>?_;rintro⟨p,rfl,rfl,h⟩;refine⟨rfl,?_⟩;have hf0:=eJ.eq_1 p;refine⟨_,fun _=>⟨_,rfl,rfl,rfl,rfl⟩,rfl,?_⟩;exact e0
def kP(l:List af)(t:af):Bool:=
 (cJ l t fun(t t':af)=>ae t t').snd
def ML:bh U:=⟨[.d (.sl (.st 1)),.d (.st 1)],fun xs es K=> ∃(l:List af) (t:af),xs= [(mz l),(u4 t)]∧es= []∧(l.length≤1000000)∧K (.v (vb (kP l t))) []⟩
theorem Gy:Fk 147 ML:=by
 refine fo Tryz.f147 [.d .bool] [] (aa zf (aa Gu aj)) fun xs es K=>?_;rintro⟨l,t,rfl,rfl,hl,h⟩;refine⟨rfl,?_⟩;have hf0:=kP.eq_1 l t;refine⟨fun(t t':af)=>ae t t',fun t0 t1=>⟨_,_,rfl,rfl,rfl,rfl⟩,?_⟩;refine⟨_,_,_,rfl,rfl,(by omega),?_⟩;exact e0
def oy(a:bt)(b:bt):Int:=
 fH [fy a.at_ b.at_,ae a.tag b.tag]
def MM:bh U:=⟨[.d (.st 4),.d (.st 4)],fun xs es K=> ∃(a:bt) (b:bt),xs= [(KK a),(KK b)]∧es= []∧K (.v (vi (oy a b))) []⟩
theorem MN:Fk 116 MM:=by
 refine fo Tryz.f116 [.d (.int .i64)] [] (aa zf (aa ze (aa II aj))) fun xs es K=>?_;rintro⟨a,b,rfl,rfl,h⟩;refine⟨rfl,?_⟩;have hf0:=oy.eq_1 a b;refine dp [(true,0),(true,1),(true,2),(true,3),(true,5),(true,6),(true,7),(true,8),(false,4),(false,9),(false,10),(false,11),(true,12)] none (nw 2) ?_;refine⟨_,_,rfl,rfl,?_⟩;refine⟨_,_,rfl,rfl,?_⟩;refine⟨_,rfl,rfl,?_⟩;exact e0
def gP(l:List af):Nat→Int→Bool⊕(Int)
 |0,s3=> .inr s3
 |n1+1,s3=>
  if s3<(l.length:Int)then
   if 0≤ae (ix l (s3 - 1)) (ix l s3)then
    .inl false
   else
    gP l n1 (s3+1)
  else
   .inr s3
def j7(l:List af):Bool:=
 match gP l (((l.length:Int)- 1).toNat+1) 1 with
 | .inl r=>r
 | .inr s3=>
  true
def MO:bh U:=⟨[.d (.sl (.st 1))],fun xs es K=> ∃(l:List af),xs= [(mz l)]∧es= []∧K (.v (vb (j7 l))) []⟩
theorem MP:Fk 174 MO:=by
 refine fo Tryz.f174 [.d .bool] [] (aa zf aj) fun xs es K=>?_;rintro⟨l,rfl,rfl,h⟩;refine⟨rfl,?_⟩;have hf0:=j7.eq_1 l;refine lI 0 (fun(s3:Int)=> [(0,.v (mz l)),(2,.v (vb false)),(3,.v (vi s3))]) (fun(s3:Int)=> []) (fun(s3:Int)=>((l.length:Int)- s3).toNat) (fun(s3:Int)=>(1≤s3)∧True) (fun n1 (s3:Int)=>gP l n1 s3) (gP l (((l.length:Int)- 1).toNat+1) 1) [] (1:Int) ?_;rintro s3 ⟨n1,hc1,⟨hi1_0,-⟩,hf1⟩;have hf1:=hf1.trans (gP.eq_2 l s3 n1);refine fl (x:=l.length) fun _=>?_;refine wI hf1 (fun _ hf1=>?_) fun _ hf1=>e1;refine dp [(true,0),(true,1),(true,2),(true,3),(true,4),(true,5),(true,6),(true,7),(true,8),(false,9),(true,10)] none (nw 0) ?_;refine ez ?_;refine vx (s3 - 1) l ?_;refine vx s3 l ?_;refine⟨_,_,rfl,rfl,?_⟩;refine wI hf1 (fun _ hf1=>e1) fun _ hf1=>?_;refine ez ?_;exact nx [] (s3+1) hc1 hf1
def cC(a:aP)(b:aP):Int:=
 ow a.field b.field
def MQ:bh U:=⟨[.d (.st 12),.d (.st 12)],fun xs es K=> ∃(a:aP) (b:aP),xs= [(KL a),(KL b)]∧es= []∧K (.v (vi (cC a b))) []⟩
theorem MR:Fk 118 MQ:=by
 refine fo Tryz.f118 [.d (.int .i64)] [] (aa LJ aj) fun xs es K=>?_;rintro⟨a,b,rfl,rfl,h⟩;refine⟨rfl,?_⟩;have hf0:=cC.eq_1 a b;refine⟨_,_,rfl,rfl,?_⟩;exact e0
end Go.Proofs.YtiliglahlfkikaaGreatDoor.V
end

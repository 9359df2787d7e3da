/- Functions walked: printed by the walker. -/
import Derived.Test.YtiliglahlfkikaaGreatDoorYa14
import Derived.Test.YtiliglahlfkikaaGreatDoorYa18
section
set_option linter.unusedVariables false
set_option linter.unusedSimpArgs false
set_option maxRecDepth 20000
set_option maxHeartbeats 4000000
namespace Go.Proofs.YtiliglahlfkikaaGreatDoor.V
open Go.RowKit
def lF(x:Int):Bool:=
 decide ¬x=x
def JA:aZ U:=⟨[.d (.int .i64)],fun xs es K=> ∃(x:Int),xs= [(vi x)]∧es= []∧K (.v (vb (lF x))) []⟩
theorem JB:Fk 183 JA:=by
 refine fo Tryz.f183 [.d .bool] [] (aj) fun xs es K=>?_;rintro⟨x,rfl,rfl,h⟩;refine⟨rfl,?_⟩;have hf0:=lF.eq_1 x;exact e0
def lG(x:Int):Bool:=
 decide ¬x=x
def JC:aZ U:=⟨[.d (.int .u32)],fun xs es K=> ∃(x:Int),xs= [(vw x)]∧es= []∧K (.v (vb (lG x))) []⟩
theorem JD:Fk 220 JC:=by
 refine fo Tryz.f220 [.d .bool] [] (aj) fun xs es K=>?_;rintro⟨x,rfl,rfl,h⟩;refine⟨rfl,?_⟩;have hf0:=lG.eq_1 x;exact e0
def m5(x:Int):Bool:=
 decide ¬x=x
def JE:aZ U:=⟨[.d (.int .i64)],fun xs es K=> ∃(x:Int),xs= [(vi x)]∧es= []∧K (.v (vb (m5 x))) []⟩
theorem JF:Fk 221 JE:=by
 refine fo Tryz.f221 [.d .bool] [] (aj) fun xs es K=>?_;rintro⟨x,rfl,rfl,h⟩;refine⟨rfl,?_⟩;have hf0:=m5.eq_1 x;exact e0
def lH(x:List UInt8):Bool:=
 decide ¬x=x
def JG:aZ U:=⟨[.d .str],fun xs es K=> ∃(x:List UInt8),xs= [(vt x)]∧es= []∧K (.v (vb (lH x))) []⟩
theorem JH:Fk 177 JG:=by
 refine fo Tryz.f177 [.d .bool] [] (aj) fun xs es K=>?_;rintro⟨x,rfl,rfl,h⟩;refine⟨rfl,?_⟩;have hf0:=lH.eq_1 x;exact e0
def jX(x:Int)(y:Int):Int:=
 if lF x=true then
  if lF y=true then
   0
  else
   (-1)
 else
  if lF y=true then
   1
  else
   if x<y then
    (-1)
   else
    if y<x then
     1
    else
     0
def JI:aZ U:=⟨[.d (.int .i64),.d (.int .i64)],fun xs es K=> ∃(x:Int) (y:Int),xs= [(vi x),(vi y)]∧es= []∧K (.v (vi (jX x y))) []⟩
theorem EI:Fk 128 JI:=by
 refine fo Tryz.f128 [.d (.int .i64)] [] (aa JB aj) fun xs es K=>?_;rintro⟨x,y,rfl,rfl,h⟩;refine⟨rfl,?_⟩;have hf0:=jX.eq_1 x y;refine⟨_,rfl,rfl,?_⟩;refine⟨_,rfl,rfl,?_⟩;exact wI hf0 (fun _ hf0=>wI hf0 (fun _ hf0=>e0) fun _ hf0=>e0) fun _ hf0=>wI hf0 (fun _ hf0=>e0) fun _ hf0=>wI hf0 (fun _ hf0=>e0) fun _ hf0=>wI hf0 (fun _ hf0=>e0) fun _ hf0=>e0
def lJ(x:Int)(y:Int):Int:=
 if lG x=true then
  if lG y=true then
   0
  else
   (-1)
 else
  if lG y=true then
   1
  else
   if x<y then
    (-1)
   else
    if y<x then
     1
    else
     0
def JJ:aZ U:=⟨[.d (.int .u32),.d (.int .u32)],fun xs es K=> ∃(x:Int) (y:Int),xs= [(vw x),(vw y)]∧es= []∧K (.v (vi (lJ x y))) []⟩
theorem GS:Fk 182 JJ:=by
 refine fo Tryz.f182 [.d (.int .i64)] [] (aa JD aj) fun xs es K=>?_;rintro⟨x,y,rfl,rfl,h⟩;refine⟨rfl,?_⟩;have hf0:=lJ.eq_1 x y;refine⟨_,rfl,rfl,?_⟩;refine⟨_,rfl,rfl,?_⟩;exact wI hf0 (fun _ hf0=>wI hf0 (fun _ hf0=>e0) fun _ hf0=>e0) fun _ hf0=>wI hf0 (fun _ hf0=>e0) fun _ hf0=>wI hf0 (fun _ hf0=>e0) fun _ hf0=>wI hf0 (fun _ hf0=>e0) fun _ hf0=>e0
def sR(x:Int)(y:Int):Int:=
 if m5 x=true then
  if m5 y=true then
   0
  else
   (-1)
 else
  if m5 y=true then
   1
  else
   if x<y then
    (-1)
   else
    if y<x then
     1
    else
     0
def JK:aZ U:=⟨[.d (.int .i64),.d (.int .i64)],fun xs es K=> ∃(x:Int) (y:Int),xs= [(vi x),(vi y)]∧es= []∧K (.v (vi (sR x y))) []⟩
theorem JL:Fk 184 JK:=by
 refine fo Tryz.f184 [.d (.int .i64)] [] (aa JF aj) fun xs es K=>?_;rintro⟨x,y,rfl,rfl,h⟩;refine⟨rfl,?_⟩;have hf0:=sR.eq_1 x y;refine⟨_,rfl,rfl,?_⟩;refine⟨_,rfl,rfl,?_⟩;exact wI hf0 (fun _ hf0=>wI hf0 (fun _ hf0=>e0) fun _ hf0=>e0) fun _ hf0=>wI hf0 (fun _ hf0=>e0) fun _ hf0=>wI hf0 (fun _ hf0=>e0) fun _ hf0=>wI hf0 (fun _ hf0=>e0) fun _ hf0=>e0
def m6(x:List UInt8)(y:List UInt8):Int:=
 if lH x=true then
  if lH y=true then
   0
  else
   (-1)
 else
  if lH y=true then
   1
  else
   if x<y then
    (-1)
   else
    if y<x then
     1
    else
     0
def JM:aZ U:=⟨[.d .str,.d .str],fun xs es K=> ∃(x:List UInt8) (y:List UInt8),xs= [(vt x),(vt y)]∧es= []∧K (.v (vi (m6 x y))) []⟩
theorem JN:Fk 119 JM:=by
 refine fo Tryz.f119 [.d (.int .i64)] [] (aa JH aj) fun xs es K=>?_;rintro⟨x,y,rfl,rfl,h⟩;refine⟨rfl,?_⟩;have hf0:=m6.eq_1 x y;refine⟨_,rfl,rfl,?_⟩;refine⟨_,rfl,rfl,?_⟩;exact wI hf0 (fun _ hf0=>wI hf0 (fun _ hf0=>e0) fun _ hf0=>e0) fun _ hf0=>wI hf0 (fun _ hf0=>e0) fun _ hf0=>wI hf0 (fun _ hf0=>e0) fun _ hf0=>wI hf0 (fun _ hf0=>e0) fun _ hf0=>e0
def d5(l:List Int):Nat→Int→Int⊕(Int)
 |0,s8=> .inr s8
 |n1+1,s8=>
  if s8<(l.length:Int)then
   if ix l s8=0 then
    d5 l n1 (s8+1)
   else
    .inl (ix l s8)
  else
   .inr s8
def fe(l:List Int):Int:=
 match d5 l (((l.length:Int)- 0).toNat+1) 0 with
 | .inl r=>r
 | .inr s8=>
  0
def JO:aZ U:=⟨[.d (.sl (.int .i64))],fun xs es K=> ∃(l:List Int),xs= [(Gf l)]∧es= []∧K (.v (vi (fe l))) []⟩
theorem xO:Fk 126 JO:=by
 refine fo Tryz.f126 [.d (.int .i64)] [] (aj) fun xs es K=>?_;rintro⟨l,rfl,rfl,h⟩;refine⟨rfl,?_⟩;have hf0:=fe.eq_1 l;refine fl (x:=l.length) fun _=>?_;refine lI 0 (fun(s8:Int)=> [(2,.v (vi 0)),(3,.v (vi 0)),(6,.v (Gf l)),(7,.v (vi (l.length:Int))),(8,.v (vi s8))]) (fun(s8:Int)=> []) (fun(s8:Int)=>((l.length:Int)- s8).toNat) (fun(s8:Int)=>(0≤s8)∧(s8≤(l.length:Int))∧True) (fun n1 (s8:Int)=>d5 l n1 s8) (d5 l (((l.length:Int)- 0).toNat+1) 0) [] (0:Int) ?_;rintro s8 ⟨n1,hc1,⟨hi1_0,hi1_1,-⟩,hf1⟩;have hf1:=hf1.trans (d5.eq_2 l s8 n1);refine wI hf1 (fun _ hf1=>?_) fun _ hf1=>e1;refine vx s8 l ?_;refine wN hf1 (fun _ hf1=>e1) fun _ hf1=>?_;refine dJ ?_;exact nx [] (s8+1) hc1 hf1
def gL(l:List Int):Nat→Int→Int⊕(Int)
 |0,s8=> .inr s8
 |n1+1,s8=>
  if s8<(l.length:Int)then
   if ix l s8=0 then
    gL l n1 (s8+1)
   else
    .inl (ix l s8)
  else
   .inr s8
def kJ(l:List Int):Int:=
 match gL l (((l.length:Int)- 0).toNat+1) 0 with
 | .inl r=>r
 | .inr s8=>
  0
def JP:aZ U:=⟨[.d (.sl (.int .i64))],fun xs es K=> ∃(l:List Int),xs= [(Gf l)]∧es= []∧K (.v (vi (kJ l))) []⟩
theorem JQ:Fk 129 JP:=by
 refine fo Tryz.f129 [.d (.int .i64)] [] (aj) fun xs es K=>?_;rintro⟨l,rfl,rfl,h⟩;refine⟨rfl,?_⟩;have hf0:=kJ.eq_1 l;refine fl (x:=l.length) fun _=>?_;refine lI 0 (fun(s8:Int)=> [(2,.v (vi 0)),(3,.v (vi 0)),(6,.v (Gf l)),(7,.v (vi (l.length:Int))),(8,.v (vi s8))]) (fun(s8:Int)=> []) (fun(s8:Int)=>((l.length:Int)- s8).toNat) (fun(s8:Int)=>(0≤s8)∧(s8≤(l.length:Int))∧True) (fun n1 (s8:Int)=>gL l n1 s8) (gL l (((l.length:Int)- 0).toNat+1) 0) [] (0:Int) ?_;rintro s8 ⟨n1,hc1,⟨hi1_0,hi1_1,-⟩,hf1⟩;have hf1:=hf1.trans (gL.eq_2 l s8 n1);refine wI hf1 (fun _ hf1=>?_) fun _ hf1=>e1;refine vx s8 l ?_;refine wN hf1 (fun _ hf1=>e1) fun _ hf1=>?_;refine dJ ?_;exact nx [] (s8+1) hc1 hf1
def eR(id:fm):Int:=
 if(((id.origin<0)∨(8≤id.origin))∨(id.seq=0))∨(1048576<id.seq)then
  2
 else
  0
def Ni:aZ U:=⟨[.d (.st 0)],fun xs es K=> ∃(id:fm),xs= [(Cp id)]∧es= []∧K (.v (vi (eR id))) []⟩
theorem MC:Fk 77 Ni:=by
 refine fo Tryz.f77 [.d (.int .i64)] [] (aj) fun xs es K=>?_;rintro⟨id,rfl,rfl,h⟩;refine⟨rfl,?_⟩;have hf0:=eR.eq_1 id;exact wI hf0 (fun _ hf0=>e0) fun _ hf0=>e0
def bF(t:ae):Int:=
 if(t.n<0)∨(16≤t.n)then
  2
 else
  eR t.id
def JR:aZ U:=⟨[.d (.st 1)],fun xs es K=> ∃(t:ae),xs= [(tB t)]∧es= []∧K (.v (vi (bF t))) []⟩
theorem EJ:Fk 123 JR:=by
 refine fo Tryz.f123 [.d (.int .i64)] [] (aa MC aj) fun xs es K=>?_;rintro⟨t,rfl,rfl,h⟩;refine⟨rfl,?_⟩;have hf0:=bF.eq_1 t;refine wI hf0 (fun _ hf0=>e0) fun _ hf0=>?_;refine⟨_,rfl,rfl,?_⟩;exact e0
def ep(a:fm)(b:fm):Int:=
 fe [jX a.origin b.origin,lJ a.seq b.seq]
def JS:aZ U:=⟨[.d (.st 0),.d (.st 0)],fun xs es K=> ∃(a:fm) (b:fm),xs= [(Cp a),(Cp b)]∧es= []∧K (.v (vi (ep a b))) []⟩
theorem JT:Fk 127 JS:=by
 refine fo Tryz.f127 [.d (.int .i64)] [] (aa xO (aa EI (aa GS aj))) fun xs es K=>?_;rintro⟨a,b,rfl,rfl,h⟩;refine⟨rfl,?_⟩;have hf0:=ep.eq_1 a b;refine dp [(true,0),(true,1),(true,2),(true,3),(true,5),(true,6),(true,7),(true,8),(false,4),(false,9),(false,10),(false,11),(true,12)] none (nw 2) ?_;refine⟨_,_,rfl,rfl,?_⟩;refine⟨_,_,rfl,rfl,?_⟩;refine⟨_,rfl,rfl,?_⟩;exact e0
def af(a:ae)(b:ae):Int:=
 fe [ep a.id b.id,jX a.n b.n]
def Nj:aZ U:=⟨[.d (.st 1),.d (.st 1)],fun xs es K=> ∃(a:ae) (b:ae),xs= [(tB a),(tB b)]∧es= []∧K (.v (vi (af a b))) []⟩
theorem xP:Fk 76 Nj:=by
 refine fo Tryz.f76 [.d (.int .i64)] [] (aa xO (aa JT (aa EI aj))) fun xs es K=>?_;rintro⟨a,b,rfl,rfl,h⟩;refine⟨rfl,?_⟩;have hf0:=af.eq_1 a b;refine dp [(true,0),(true,1),(true,2),(true,3),(true,5),(true,6),(true,7),(true,8),(false,4),(false,9),(false,10),(false,11),(true,12)] none (nw 2) ?_;refine⟨_,_,rfl,rfl,?_⟩;refine⟨_,_,rfl,rfl,?_⟩;refine⟨_,rfl,rfl,?_⟩;exact e0
def m7(origin:Int):Bool:=
 decide (0≤origin)&&decide (origin<8)
def JU:aZ U:=⟨[.d (.int .i64)],fun xs es K=> ∃(origin:Int),xs= [(vi origin)]∧es= []∧K (.v (vb (m7 origin))) []⟩
theorem JV:Fk 181 JU:=by
 refine fo Tryz.f181 [.d .bool] [] (aj) fun xs es K=>?_;rintro⟨origin,rfl,rfl,h⟩;refine⟨rfl,?_⟩;have hf0:=m7.eq_1 origin;exact e0
def d6(s:az):Int:=
 if(1048576<s.time)∨(¬(m7 s.origin=true))then
  2
 else
  0
def JW:aZ U:=⟨[.d (.st 2)],fun xs es K=> ∃(s:az),xs= [(Gd s)]∧es= []∧K (.v (vi (d6 s))) []⟩
theorem EK:Fk 125 JW:=by
 refine fo Tryz.f125 [.d (.int .i64)] [] (aa JV aj) fun xs es K=>?_;rintro⟨s,rfl,rfl,h⟩;refine⟨rfl,?_⟩;have hf0:=d6.eq_1 s;refine⟨_,fun _=>⟨_,rfl,rfl,rfl,rfl⟩,rfl,?_⟩;exact wI hf0 (fun _ hf0=>e0) fun _ hf0=>e0
def io(a:az)(b:az):Int:=
 fe [lJ a.time b.time,jX a.origin b.origin]
def JX:aZ U:=⟨[.d (.st 2),.d (.st 2)],fun xs es K=> ∃(a:az) (b:az),xs= [(Gd a),(Gd b)]∧es= []∧K (.v (vi (io a b))) []⟩
theorem GT:Fk 175 JX:=by
 refine fo Tryz.f175 [.d (.int .i64)] [] (aa xO (aa EI (aa GS aj))) fun xs es K=>?_;rintro⟨a,b,rfl,rfl,h⟩;refine⟨rfl,?_⟩;have hf0:=io.eq_1 a b;refine dp [(true,0),(true,1),(true,2),(true,3),(true,5),(true,6),(true,7),(true,8),(false,4),(false,9),(false,10),(false,11),(true,12)] none (nw 2) ?_;refine⟨_,_,rfl,rfl,?_⟩;refine⟨_,_,rfl,rfl,?_⟩;refine⟨_,rfl,rfl,?_⟩;exact e0
def gj(s:List UInt8):Bool:=
 decide ¬s= []&&decide ((s.length:Int)≤12)
def JY:aZ U:=⟨[.d .str],fun xs es K=> ∃(s:List UInt8),xs= [(vt s)]∧es= []∧K (.v (vb (gj s))) []⟩
theorem EL:Fk 122 JY:=by
 refine fo Tryz.f122 [.d .bool] [] (aj) fun xs es K=>?_;rintro⟨s,rfl,rfl,h⟩;refine⟨rfl,?_⟩;have hf0:=gj.eq_1 s;exact e0
def dB(t:ae):Bool:=
 decide ¬bF t=0
def JZ:aZ U:=⟨[.d (.st 1)],fun xs es K=> ∃(t:ae),xs= [(tB t)]∧es= []∧K (.v (vb (dB t))) []⟩
theorem AR:Fk 132 JZ:=by
 refine fo Tryz.f132 [.d .bool] [] (aa EJ aj) fun xs es K=>?_;rintro⟨t,rfl,rfl,h⟩;refine⟨rfl,?_⟩;have hf0:=dB.eq_1 t;refine⟨_,rfl,rfl,?_⟩;exact e0
def eS(a:bj)(t:ae):Int:=
 af a.tag t
def J0:aZ U:=⟨[.d (.st 7),.d (.st 1)],fun xs es K=> ∃(a:bj) (t:ae),xs= [(FZ a),(tB t)]∧es= []∧K (.v (vi (eS a t))) []⟩
theorem GU:Fk 134 J0:=by
 refine fo Tryz.f134 [.d (.int .i64)] [] (aa xP aj) fun xs es K=>?_;rintro⟨a,t,rfl,rfl,h⟩;refine⟨rfl,?_⟩;have hf0:=eS.eq_1 a t;refine⟨_,_,rfl,rfl,?_⟩;exact e0
def bL(l:List ae)(f:ae→Bool):Bool:=
 decide (0≤l9 l f)
def Nk:aZ U:=⟨[.d (.sl (.st 1)),.f1 (.st 1)],fun xs es K=> ∃(l:List ae) (f:ae→Bool),xs= [(ls l),⟨false,[(1,.f1 (.st 1) f)]⟩]∧es= []∧K (.v (vb (bL l f))) []⟩
theorem GV:Fk 73 Nk:=by
 refine fo Tryz.f73 [.d .bool] [] (aa Ll aj) fun xs es K=>?_;rintro⟨l,f,rfl,rfl,h⟩;refine⟨rfl,?_⟩;have hf0:=bL.eq_1 l f;refine⟨_,_,rfl,rfl,?_⟩;exact e0
def eE(l:List bj)(f:bj→Bool):Bool:=
 decide (0≤l9 l f)
def J1:aZ U:=⟨[.d (.sl (.st 7)),.f1 (.st 7)],fun xs es K=> ∃(l:List bj) (f:bj→Bool),xs= [(zj l),⟨false,[(1,.f1 (.st 7) f)]⟩]∧es= []∧K (.v (vb (eE l f))) []⟩
theorem J2:Fk 166 J1:=by
 refine fo Tryz.f166 [.d .bool] [] (aa Lq aj) fun xs es K=>?_;rintro⟨l,f,rfl,rfl,h⟩;refine⟨rfl,?_⟩;have hf0:=eE.eq_1 l f;refine⟨_,_,rfl,rfl,?_⟩;exact e0
def fF(x:List ae)(target:ae)(c:ae→ae→Int):Nat→Int→Int→(Int×Bool)⊕(Int×Int)
 |0,s9,s10=> .inr (s9,s10)
 |n1+1,s9,s10=>
  if s9<s10 then
   if c (ix x ((s9+s10)/2)) target<0 then
    fF x target c n1 ((s9+s10)/(2:Int)+(1:Int)) s10
   else
    fF x target c n1 s9 ((s9+s10)/2)
  else
   .inr (s9,s10)
def d7(x:List ae)(target:ae)(c:ae→ae→Int):Int×Bool:=
 match fF x target c (((x.length:Int)- 0).toNat+1) 0 (x.length:Int)with
 | .inl r=>r
 | .inr (s9,s10)=>
  (s9,decide (s9<(x.length:Int))&&decide (c (ix x s9) target=0))
def J3:aZ U:=⟨[.d (.sl (.st 1)),.d (.st 1),.f2 (.st 1) (.st 1)],fun xs es K=> ∃(x:List ae) (target:ae) (c:ae→ae→Int),xs= [(ls x),(tB target),⟨false,[(1,.f2 (.st 1) (.st 1) c)]⟩]∧es= []∧(x.length≤1000000)∧K (.tup [(vi ((d7 x target c).1)),(vb ((d7 x target c).2))]) []⟩
theorem EM:Fk 144 J3:=by
 refine fo Tryz.f144 [.d (.int .i64),.d .bool] [] (aj) fun xs es K=>?_;rintro⟨x,target,c,rfl,rfl,hx,h⟩;refine⟨rfl,?_⟩;have hf0:=d7.eq_1 x target c;refine fun h0=>?_;have h0:(↑x.length:Int)≤(9223372036854775807:Int):=h0.2;refine⟨Int×Int,1,fun(s9,s10)=> [(0,.v ⟨false,[(1,.d (.sl (.st 1)) x)]⟩),(2,.v ⟨false,[(1,Cx.f2 (aY.st (1:Nat)) (aY.st (1:Nat)) c)]⟩),(4,.v ⟨false,[(1,.ptr 0 0)]⟩),(6,.v ⟨false,[(1,.d (.int .i64) (0:Int))]⟩),(7,.v ⟨false,[(1,.d .bool false)]⟩),(8,.v ⟨false,[(1,.d (.int .i64) (↑x.length:Int))]⟩),(9,.v ⟨false,[(1,.d (.int .i64) s9)]⟩),(10,.v ⟨false,[(1,.d (.int .i64) s10)]⟩)],fun(s9,s10)=> [(0,.cells [(3,.d (.st 1) target)] 34)],de (fun(s9,s10)=>(s10 - s9).toNat) (fun(s9,s10)=>(0≤s9)∧(s9≤s10)∧(s10≤(x.length:Int))∧True) (fun n1 (s9,s10)=>fF x target c n1 s9 s10) (fF x target c (((↑x.length:Int)-(0:Int)).toNat+1) (0:Int) (↑x.length:Int)),fun(s9,s10)=>(s10 - s9).toNat,⟨[],((0:Int),(↑x.length:Int)),de.mk0 _ (Nat.lt_succ_self _) ⟨show(0:Int)≤(0:Int)from by omega,show(0:Int)≤(↑x.length:Int)from by omega,show(↑x.length:Int)≤(↑x.length:Int)from by omega,trivial⟩ rfl,?_⟩,?_⟩
 ·repeat (first|exact trivial|refine And.intro rfl ?_)
 ·rintro⟨s9,s10⟩ ⟨n1,hc1,⟨hi1_0,hi1_1,hi1_2,-⟩,hf1⟩;have hf1:=hf1.trans (fF.eq_2 x target c s9 s10 n1);refine vI hf1 iD (fun _ hf1=>?_) (fun _ hf1=>?_)
  ·refine .inl (And.intro (v6 (p:=s9) (q:=s10) (r:=s9+s10) (by omega)) ?_);refine .inl (And.intro (fun(h2:(-9223372036854775808:Int)≤s9+s10∧s9+s10≤(9223372036854775807:Int))=>(show(0:Int)≤s9+s10∧s9+s10≤(18446744073709551615:Int)from by omega)) ?_);refine And.intro (show(0:Int)≤(1:Int)∧(1:Int)≤(18446744073709551615:Int)→(0:Int)≤(1:Int)from by omega) ?_;refine .inl (And.intro (fun(h3:(0:Int)≤(s9+s10)/(2:Int)∧(s9+s10)/(2:Int)≤(18446744073709551615:Int))=>(show(-9223372036854775808:Int)≤(s9+s10)/(2:Int)∧(s9+s10)/(2:Int)≤(9223372036854775807:Int)from by omega)) ?_);refine .inl ⟨[(true,0),(true,1),(true,2),(true,3),(true,4),(true,5),(false,6),(true,7)],none,[1,2,3,4,5,6,7,8,9,10,11,12],by kernel_rfl,?_⟩;refine And.intro (show(0:Int)≤(s9+s10)/(2:Int)∧(s9+s10)/(2:Int)<(↑x.length:Int)from by omega) ?_;refine vI hf1 iD (fun _ hf1=>?_) (fun _ hf1=>?_)
   ·refine .inl (And.intro (v6 (p:=(s9+s10)/(2:Int)) (q:=(1:Int)) (r:=(s9+s10)/(2:Int)+(1:Int)) (by omega)) ?_);have hm1:(s10 -((s9+s10)/(2:Int)+(1:Int))).toNat<(s10 - s9).toNat:=by omega
    refine⟨[],((s9+s10)/(2:Int)+(1:Int),s10),hm1,de.next (s:=(s9,s10)) hc1 hm1 ⟨show(0:Int)≤(s9+s10)/(2:Int)+(1:Int)from by omega,show(s9+s10)/(2:Int)+(1:Int)≤s10 from by omega,show s10≤(↑x.length:Int)from by omega,trivial⟩ hf1,?_⟩;repeat (first|exact trivial|refine And.intro rfl ?_)
   ·have hm1:((s9+s10)/(2:Int)- s9).toNat<(s10 - s9).toNat:=by omega
    refine⟨[],(s9,(s9+s10)/(2:Int)),hm1,de.next (s:=(s9,s10)) hc1 hm1 ⟨show(0:Int)≤s9 from by omega,show s9≤(s9+s10)/(2:Int)from by omega,show(s9+s10)/(2:Int)≤(↑x.length:Int)from by omega,trivial⟩ hf1,?_⟩;repeat (first|exact trivial|refine And.intro rfl ?_)
  ·rw[hf1]at hf0;refine .inl ⟨[(true,0),(true,1),(true,2),(true,3),(true,4),(true,5),(true,6),(true,7),(true,8),(true,9),(true,10),(false,11),(true,12),(true,13),(true,14),(true,15)],none,[1,2,3,4,5,6,7,8,9,10,11,12],by kernel_rfl,?_⟩;refine And.intro (show decide (s9<(↑x.length:Int))=((39:Nat),true).snd→(0:Int)≤s9∧s9<(↑x.length:Int)from by(intro h;simp at h;omega)) ?_;rw[hf0]at h;exact h
def fG(x:List bj)(target:ae)(c:bj→ae→Int):Nat→Int→Int→(Int×Bool)⊕(Int×Int)
 |0,s9,s10=> .inr (s9,s10)
 |n1+1,s9,s10=>
  if s9<s10 then
   if c (ix x ((s9+s10)/2)) target<0 then
    fG x target c n1 ((s9+s10)/(2:Int)+(1:Int)) s10
   else
    fG x target c n1 s9 ((s9+s10)/2)
  else
   .inr (s9,s10)
def eF(x:List bj)(target:ae)(c:bj→ae→Int):Int×Bool:=
 match fG x target c (((x.length:Int)- 0).toNat+1) 0 (x.length:Int)with
 | .inl r=>r
 | .inr (s9,s10)=>
  (s9,decide (s9<(x.length:Int))&&decide (c (ix x s9) target=0))
def J4:aZ U:=⟨[.d (.sl (.st 7)),.d (.st 1),.f2 (.st 7) (.st 1)],fun xs es K=> ∃(x:List bj) (target:ae) (c:bj→ae→Int),xs= [(zj x),(tB target),⟨false,[(1,.f2 (.st 7) (.st 1) c)]⟩]∧es= []∧(x.length≤1000000)∧K (.tup [(vi ((eF x target c).1)),(vb ((eF x target c).2))]) []⟩
theorem J5:Fk 133 J4:=by
 refine fo Tryz.f133 [.d (.int .i64),.d .bool] [] (aj) fun xs es K=>?_;rintro⟨x,target,c,rfl,rfl,hx,h⟩;refine⟨rfl,?_⟩;have hf0:=eF.eq_1 x target c;refine fun h0=>?_;have h0:(↑x.length:Int)≤(9223372036854775807:Int):=h0.2;refine⟨Int×Int,1,fun(s9,s10)=> [(0,.v ⟨false,[(1,.d (.sl (.st 7)) x)]⟩),(2,.v ⟨false,[(1,Cx.f2 (aY.st (7:Nat)) (aY.st (1:Nat)) c)]⟩),(4,.v ⟨false,[(1,.ptr 0 0)]⟩),(6,.v ⟨false,[(1,.d (.int .i64) (0:Int))]⟩),(7,.v ⟨false,[(1,.d .bool false)]⟩),(8,.v ⟨false,[(1,.d (.int .i64) (↑x.length:Int))]⟩),(9,.v ⟨false,[(1,.d (.int .i64) s9)]⟩),(10,.v ⟨false,[(1,.d (.int .i64) s10)]⟩)],fun(s9,s10)=> [(0,.cells [(3,.d (.st 1) target)] 34)],de (fun(s9,s10)=>(s10 - s9).toNat) (fun(s9,s10)=>(0≤s9)∧(s9≤s10)∧(s10≤(x.length:Int))∧True) (fun n1 (s9,s10)=>fG x target c n1 s9 s10) (fG x target c (((↑x.length:Int)-(0:Int)).toNat+1) (0:Int) (↑x.length:Int)),fun(s9,s10)=>(s10 - s9).toNat,⟨[],((0:Int),(↑x.length:Int)),de.mk0 _ (Nat.lt_succ_self _) ⟨show(0:Int)≤(0:Int)from by omega,show(0:Int)≤(↑x.length:Int)from by omega,show(↑x.length:Int)≤(↑x.length:Int)from by omega,trivial⟩ rfl,?_⟩,?_⟩
 ·repeat (first|exact trivial|refine And.intro rfl ?_)
 ·rintro⟨s9,s10⟩ ⟨n1,hc1,⟨hi1_0,hi1_1,hi1_2,-⟩,hf1⟩;have hf1:=hf1.trans (fG.eq_2 x target c s9 s10 n1);refine vI hf1 iD (fun _ hf1=>?_) (fun _ hf1=>?_)
  ·refine .inl (And.intro (v6 (p:=s9) (q:=s10) (r:=s9+s10) (by omega)) ?_);refine .inl (And.intro (fun(h2:(-9223372036854775808:Int)≤s9+s10∧s9+s10≤(9223372036854775807:Int))=>(show(0:Int)≤s9+s10∧s9+s10≤(18446744073709551615:Int)from by omega)) ?_);refine And.intro (show(0:Int)≤(1:Int)∧(1:Int)≤(18446744073709551615:Int)→(0:Int)≤(1:Int)from by omega) ?_;refine .inl (And.intro (fun(h3:(0:Int)≤(s9+s10)/(2:Int)∧(s9+s10)/(2:Int)≤(18446744073709551615:Int))=>(show(-9223372036854775808:Int)≤(s9+s10)/(2:Int)∧(s9+s10)/(2:Int)≤(9223372036854775807:Int)from by omega)) ?_);refine .inl ⟨[(true,0),(true,1),(true,2),(true,3),(true,4),(true,5),(false,6),(true,7)],none,[1,2,3,4,5,6,7,8,9,10,11,12],by kernel_rfl,?_⟩;refine And.intro (show(0:Int)≤(s9+s10)/(2:Int)∧(s9+s10)/(2:Int)<(↑x.length:Int)from by omega) ?_;refine vI hf1 iD (fun _ hf1=>?_) (fun _ hf1=>?_)
   ·refine .inl (And.intro (v6 (p:=(s9+s10)/(2:Int)) (q:=(1:Int)) (r:=(s9+s10)/(2:Int)+(1:Int)) (by omega)) ?_);have hm1:(s10 -((s9+s10)/(2:Int)+(1:Int))).toNat<(s10 - s9).toNat:=by omega
    refine⟨[],((s9+s10)/(2:Int)+(1:Int),s10),hm1,de.next (s:=(s9,s10)) hc1 hm1 ⟨show(0:Int)≤(s9+s10)/(2:Int)+(1:Int)from by omega,show(s9+s10)/(2:Int)+(1:Int)≤s10 from by omega,show s10≤(↑x.length:Int)from by omega,trivial⟩ hf1,?_⟩;repeat (first|exact trivial|refine And.intro rfl ?_)
   ·have hm1:((s9+s10)/(2:Int)- s9).toNat<(s10 - s9).toNat:=by omega
    refine⟨[],(s9,(s9+s10)/(2:Int)),hm1,de.next (s:=(s9,s10)) hc1 hm1 ⟨show(0:Int)≤s9 from by omega,show s9≤(s9+s10)/(2:Int)from by omega,show(s9+s10)/(2:Int)≤(↑x.length:Int)from by omega,trivial⟩ hf1,?_⟩;repeat (first|exact trivial|refine And.intro rfl ?_)
  ·rw[hf1]at hf0;refine .inl ⟨[(true,0),(true,1),(true,2),(true,3),(true,4),(true,5),(true,6),(true,7),(true,8),(true,9),(true,10),(false,11),(true,12),(true,13),(true,14),(true,15)],none,[1,2,3,4,5,6,7,8,9,10,11,12],by kernel_rfl,?_⟩;refine And.intro (show decide (s9<(↑x.length:Int))=((39:Nat),true).snd→(0:Int)≤s9∧s9<(↑x.length:Int)from by(intro h;simp at h;omega)) ?_;rw[hf0]at h;exact h
def d8(l:List bj)(c:bj→bj→Int):Nat→Int→Bool⊕(Int)
 |0,s5=> .inr s5
 |n1+1,s5=>
  if s5<(l.length:Int)then
   if 0≤c (ix l (s5 - 1)) (ix l s5)then
    .inl false
   else
    d8 l c n1 (s5+1)
  else
   .inr s5
def iZ(l:List bj)(c:bj→bj→Int):Bool:=
 match d8 l c (((l.length:Int)- 1).toNat+1) 1 with
 | .inl r=>r
 | .inr s5=>
  true
def J6:aZ U:=⟨[.d (.sl (.st 7)),.f2 (.st 7) (.st 7)],fun xs es K=> ∃(l:List bj) (c:bj→bj→Int),xs= [(zj l),⟨false,[(1,.f2 (.st 7) (.st 7) c)]⟩]∧es= []∧K (.v (vb (iZ l c))) []⟩
theorem J7:Fk 168 J6:=by
 refine fo Tryz.f168 [.d .bool] [] (aj) fun xs es K=>?_;rintro⟨l,c,rfl,rfl,h⟩;refine⟨rfl,?_⟩;have hf0:=iZ.eq_1 l c;refine lI 0 (fun(s5:Int)=> [(0,.v (zj l)),(1,.v ⟨false,[(1,Cx.f2 (aY.st (7:Nat)) (aY.st (7:Nat)) c)]⟩),(4,.v (vb false)),(5,.v (vi s5))]) (fun(s5:Int)=> []) (fun(s5:Int)=>((l.length:Int)- s5).toNat) (fun(s5:Int)=>(1≤s5)∧True) (fun n1 (s5:Int)=>d8 l c n1 s5) (d8 l c (((l.length:Int)- 1).toNat+1) 1) [] (1:Int) ?_;rintro s5 ⟨n1,hc1,⟨hi1_0,-⟩,hf1⟩;have hf1:=hf1.trans (d8.eq_2 l c s5 n1);refine fl (x:=l.length) fun _=>?_;refine wI hf1 (fun _ hf1=>?_) fun _ hf1=>e1;refine dp [(true,0),(true,1),(true,2),(true,3),(true,4),(true,5),(true,6),(true,7),(true,8),(true,9),(false,10),(true,11)] none (nw 0) ?_;refine dJ ?_;refine vx (s5 - 1) l ?_;refine vx s5 l ?_;refine wI hf1 (fun _ hf1=>e1) fun _ hf1=>?_;refine dJ ?_;exact nx [] (s5+1) hc1 hf1
def d9(l:List ae)(c:ae→ae→Int):Nat→Int→Bool⊕(Int)
 |0,s5=> .inr s5
 |n1+1,s5=>
  if s5<(l.length:Int)then
   if 0≤c (ix l (s5 - 1)) (ix l s5)then
    .inl false
   else
    d9 l c n1 (s5+1)
  else
   .inr s5
def i0(l:List ae)(c:ae→ae→Int):Bool:=
 match d9 l c (((l.length:Int)- 1).toNat+1) 1 with
 | .inl r=>r
 | .inr s5=>
  true
def J8:aZ U:=⟨[.d (.sl (.st 1)),.f2 (.st 1) (.st 1)],fun xs es K=> ∃(l:List ae) (c:ae→ae→Int),xs= [(ls l),⟨false,[(1,.f2 (.st 1) (.st 1) c)]⟩]∧es= []∧K (.v (vb (i0 l c))) []⟩
theorem J9:Fk 170 J8:=by
 refine fo Tryz.f170 [.d .bool] [] (aj) fun xs es K=>?_;rintro⟨l,c,rfl,rfl,h⟩;refine⟨rfl,?_⟩;have hf0:=i0.eq_1 l c;refine lI 0 (fun(s5:Int)=> [(0,.v (ls l)),(1,.v ⟨false,[(1,Cx.f2 (aY.st (1:Nat)) (aY.st (1:Nat)) c)]⟩),(4,.v (vb false)),(5,.v (vi s5))]) (fun(s5:Int)=> []) (fun(s5:Int)=>((l.length:Int)- s5).toNat) (fun(s5:Int)=>(1≤s5)∧True) (fun n1 (s5:Int)=>d9 l c n1 s5) (d9 l c (((l.length:Int)- 1).toNat+1) 1) [] (1:Int) ?_;rintro s5 ⟨n1,hc1,⟨hi1_0,-⟩,hf1⟩;have hf1:=hf1.trans (d9.eq_2 l c s5 n1);refine fl (x:=l.length) fun _=>?_;refine wI hf1 (fun _ hf1=>?_) fun _ hf1=>e1;refine dp [(true,0),(true,1),(true,2),(true,3),(true,4),(true,5),(true,6),(true,7),(true,8),(true,9),(false,10),(true,11)] none (nw 0) ?_;refine dJ ?_;refine vx (s5 - 1) l ?_;refine vx s5 l ?_;refine wI hf1 (fun _ hf1=>e1) fun _ hf1=>?_;refine dJ ?_;exact nx [] (s5+1) hc1 hf1
end Go.Proofs.YtiliglahlfkikaaGreatDoor.V
end

section
set_option linter.unusedVariables false
set_option linter.unusedSimpArgs false
set_option maxRecDepth 20000
set_option maxHeartbeats 4000000
namespace Go.Proofs.YtiliglahlfkikaaGreatDoor.V
open Go.RowKit
theorem rh{α:Type}(s:List α)(i:Int)(vs:List α):(fW s i vs).length=s.length+vs.length:=by
 unfold fW;simp only[List.length_append,List.length_take,List.length_drop];omega
theorem uu{α R:Type} [Inhabited α](x:List α)(c:α→Int)(L:Nat→Int→Int→R⊕(Int×Int))(h0: ∀i j,L 0 i j= .inr (i,j))(hL: ∀fuel i j,L (fuel+1) i j=if i<j then(if c (ix x ((i+j)/2))<0 then L fuel ((i+j)/2+1) j else L fuel i ((i+j)/2))else .inr (i,j)):
  ∀(fuel:Nat) (i j:Int),0≤i→i≤j→j≤x.length→ ∃q r:Int,L fuel i j= .inr (q,r)∧0≤q∧q≤x.length
 |0,i,j,h1,h2,h3=>⟨i,j,h0 i j,h1,by omega⟩
 |fuel+1,i,j,h1,h2,h3=>by
  rw[hL];split
  ·split
   ·exact uu x c L h0 hL fuel _ _ (by omega) (by omega) h3
   ·exact uu x c L h0 hL fuel _ _ h1 (by omega) (by omega)
  ·exact⟨i,j,rfl,h1,by omega⟩
theorem ri(x:List ae)(t:ae)(c:ae→ae→Int):0≤(d7 x t c).1∧(d7 x t c).1≤x.length:=by
 obtain⟨q,r,h,h1,h2⟩:=uu x (fun a=>c a t) (fF x t c) (fun _ _=>rfl) (fun _ _ _=>rfl) (((x.length:Int)-(0:Int)).toNat+1) 0 x.length (by omega) (by omega) (by omega);unfold d7;rw[h];exact⟨h1,h2⟩
theorem rj(x:List bj)(t:ae)(c:bj→ae→Int):0≤(eF x t c).1∧(eF x t c).1≤x.length:=by
 obtain⟨q,r,h,h1,h2⟩:=uu x (fun a=>c a t) (fG x t c) (fun _ _=>rfl) (fun _ _ _=>rfl) (((x.length:Int)-(0:Int)).toNat+1) 0 x.length (by omega) (by omega) (by omega);unfold eF;rw[h];exact⟨h1,h2⟩
def kK(s:aX)(t:ae):Bool:=
 (d7 s.gone t fun(t t':ae)=>af t t').snd
def Kb:aZ U:=⟨[.d (.st 8),.d (.st 1)],fun xs es K=> ∃(s:aX) (t:ae),xs= [(uU s),(tB t)]∧es= []∧(s.gone.length≤1000000)∧K (.v (vb (kK s t))) []⟩
theorem EN:Fk 135 Kb:=by
 refine fo Tryz.f135 [.d .bool] [] (aa xP (aa EM aj)) fun xs es K=>?_;rintro⟨s,t,rfl,rfl,h2,h⟩;refine⟨rfl,?_⟩;have hf0:=kK.eq_1 s t;refine⟨fun(t t':ae)=>af t t',fun t0 t1=>⟨_,_,rfl,rfl,rfl,rfl⟩,?_⟩;refine⟨_,_,_,rfl,rfl,(by omega),?_⟩;exact e0
def ju(a:bj):Bool:=
 dB a.tag
def Kc:aZ U:=⟨[.d (.st 7)],fun xs es K=> ∃(a:bj),xs= [(FZ a)]∧es= []∧K (.v (vb (ju a))) []⟩
theorem Ke:Fk 167 Kc:=by
 refine fo Tryz.f167 [.d .bool] [] (aa AR aj) fun xs es K=>?_;rintro⟨a,rfl,rfl,h⟩;refine⟨rfl,?_⟩;have hf0:=ju.eq_1 a;refine⟨_,rfl,rfl,?_⟩;exact e0
def jv(a:bj)(b:bj):Int:=
 eS a b.tag
def Kg:aZ U:=⟨[.d (.st 7),.d (.st 7)],fun xs es K=> ∃(a:bj) (b:bj),xs= [(FZ a),(FZ b)]∧es= []∧K (.v (vi (jv a b))) []⟩
theorem Kh:Fk 169 Kg:=by
 refine fo Tryz.f169 [.d (.int .i64)] [] (aa GU aj) fun xs es K=>?_;rintro⟨a,b,rfl,rfl,h⟩;refine⟨rfl,?_⟩;have hf0:=jv.eq_1 a b;refine⟨_,_,rfl,rfl,?_⟩;exact e0
def jw(a:bj)(s:aX):Bool:=
 !gj a.elem||kK s a.tag
def Ki:aZ U:=⟨[.d (.st 7),.n],fun xs es K=> ∃(a:bj) (s:aX),xs= [(FZ a),⟨false,[(1,.pd (.st 8) s)]⟩]∧es= []∧(s.gone.length≤1000000)∧K (.v (vb (jw a s))) []⟩
theorem Kj:Fk 171 Ki:=by
 refine fo Tryz.f171 [.d .bool] [] (aa EL (aa EN aj)) fun xs es K=>?_;rintro⟨a,s,rfl,rfl,h2,h⟩;refine⟨rfl,?_⟩;have hf0:=jw.eq_1 a s;refine⟨_,rfl,rfl,?_⟩;refine⟨_,fun _=>⟨_,_,rfl,rfl,(by omega),rfl,rfl⟩,rfl,?_⟩;exact e0
def dK(s:aX):Int:=
 if(4096<(s.adds.length:Int))∨(4096<(s.gone.length:Int))then
  8
 else
  if((eE s.adds fun(t:bj)=>ju t)=true)∨((bL s.gone fun(t:ae)=>dB t)=true)then
   2
  else
   if(¬(((iZ s.adds fun(t t':bj)=>jv t t')=true)∧((i0 s.gone fun(t t':ae)=>af t t')=true)))∨((eE s.adds fun(t:bj)=>jw t s)=true)then
    3
   else
    0
def Kl:aZ U:=⟨[.d (.st 8)],fun xs es K=> ∃(s:aX),xs= [(uU s)]∧es= []∧(s.gone.length≤1000000)∧((fun(r0:Int)=>r0=0→s.adds.length≤4096∧s.gone.length≤4096) (dK s)→K (.v (vi (dK s))) [])⟩
theorem AS:Fk 112 Kl:=by
 refine fo Tryz.f112 [.d (.int .i64)] [] (aa GV (aa xP (aa AR (aa J2 (aa Ke (aa J7 (aa Kh (aa J9 (aa Kj aj))))))))) fun xs es K=>?_;rintro⟨s,rfl,rfl,h2,h⟩;refine⟨rfl,?_⟩;have hf0:=dK.eq_1 s;refine fl (x:=s.adds.length) fun _=>?_;refine wI hf0 (fun _ hf0=>?_) fun _ hf0=>?_
 ·rw[hf0]at h;exact h (by omega)
 ·refine⟨fun(t:bj)=>ju t,fun t0=>⟨_,rfl,rfl,rfl,rfl⟩,?_⟩;refine⟨_,_,rfl,rfl,?_⟩;refine⟨_,fun h2=>⟨fun(t:ae)=>dB t,fun t0=>⟨_,rfl,rfl,rfl,rfl⟩,_,_,rfl,rfl,rfl,rfl⟩,rfl,?_⟩;refine wI hf0 (fun _ hf0=>?_) fun _ hf0=>?_
  ·rw[hf0]at h;exact h (by omega)
  ·refine⟨fun(t t':bj)=>jv t t',fun t0 t1=>⟨_,_,rfl,rfl,rfl,rfl⟩,?_⟩;refine⟨_,_,rfl,rfl,?_⟩;refine⟨_,fun _=>⟨fun(t t':ae)=>af t t',fun t0 t1=>⟨_,_,rfl,rfl,rfl,rfl⟩,_,_,rfl,rfl,rfl,rfl⟩,rfl,?_⟩;refine⟨_,fun _=>⟨fun(t:bj)=>jw t s,fun t0=>⟨_,_,rfl,rfl,(by omega),rfl,rfl⟩,_,_,rfl,rfl,rfl,rfl⟩,rfl,?_⟩;refine wI hf0 (fun _ hf0=>?_) fun _ hf0=>?_
   ·rw[hf0]at h;exact h (by omega)
   ·rw[hf0]at h;exact h (by omega)
def i6(s:aX)(a:bj):aX×Int:=
 if dK s=0 then
  if dB a.tag=true then
   (aX.mk [] [],2)
  else
   if gj a.elem=true then
    if(((eF s.adds a.tag fun(t:bj) (t':ae)=>eS t t').snd)=true)∨(kK s a.tag=true)then
     (aX.mk s.adds s.gone,0)
    else
     if(s.adds.length:Int)=4096 then
      (aX.mk [] [],4)
     else
      (aX.mk (fW s.adds (eF s.adds a.tag fun(t:bj) (t':ae)=>eS t t').fst [a]) s.gone,0)
   else
    (aX.mk [] [],3)
 else
  (aX.mk [] [],dK s)
def Nl:aZ U:=⟨[.d (.st 8),.d (.st 7)],fun xs es K=> ∃(s:aX) (a:bj),xs= [(uU s),(FZ a)]∧es= []∧(s.adds.length≤1000000)∧(s.gone.length≤1000000)∧((fun(r0:aX) (r1:Int)=>r0.adds.length≤4097∧r0.gone.length≤4097) ((i6 s a).1) ((i6 s a).2)→K (.tup [(uU ((i6 s a).1)),(vi ((i6 s a).2))]) [])⟩
theorem Nm:Fk 81 Nl:=by
 refine fo Tryz.f81 [.d (.st 8),.d (.int .i64)] [] (aa Ga (aa yf (aa AS (aa EL (aa AR (aa J5 (aa GU (aa EN (aa Lh aj))))))))) fun xs es K=>?_;rintro⟨s,a,rfl,rfl,h1,h2,h⟩;refine⟨rfl,?_⟩;have hf0:=i6.eq_1 s a;refine⟨_,rfl,rfl,(by omega),?_⟩;refine fun _=>?_;refine wN hf0 (fun h1 hf0=>?_) fun h1 hf0=>?_
 ·rw[hf0]at h;exact h (by simp)
 ·refine⟨_,rfl,rfl,?_⟩;refine wI hf0 (fun h2 hf0=>?_) fun h2 hf0=>?_
  ·rw[hf0]at h;exact h (by simp)
  ·refine⟨_,rfl,rfl,?_⟩;refine wN hf0 (fun _ hf0=>?_) fun _ hf0=>?_
   ·rw[hf0]at h;exact h (by simp)
   ·refine⟨fun(t:bj) (t':ae)=>eS t t',fun t0 t1=>⟨_,_,rfl,rfl,rfl,rfl⟩,?_⟩;refine⟨_,_,_,rfl,rfl,(by omega),?_⟩;refine .inr ⟨(.look 0 (.look 1 (.look 3 (.look 4 (.turn 2 (.turn 5 (.look 6 (.turn 7 .fin .nil)) (.turn 7 (.turn 5 (.look 6 .fin) .nil) .nil)) (.turn 7 (.turn 2 (.turn 5 (.look 6 .fin) .nil) .nil) .nil)))))),some 8,[],6,[(2,.v ⟨false,[(1,.ptr 0 0)]⟩),(3,.v ⟨false,[(1,.ptr 1 0)]⟩),(4,.v ⟨false,[(1,.ptr 2 0)]⟩),(5,.v ⟨false,[(1,.d (.int .i64) (0:Int))]⟩),(7,.v ⟨false,[(1,.d (.int .i64) ((eF s.adds a.tag fun(t:bj) (t':ae)=>eS t t').fst))]⟩),(8,.v ⟨false,[(1,.d .bool ((eF s.adds a.tag fun(t:bj) (t':ae)=>eS t t').snd))]⟩),(9,.v ⟨false,[(1,.ptr 5 0)]⟩)],[(0,.cells [(2,.d (.st 8) s)] 56),(1,.cells [(4,.d (.st 7) a)] 159),(2,.cells [(1,.nils),(1,.nils)] 56),(3,.row 0 (.st 7) s.adds 159),(4,.row 0 (.st 1) s.gone 34),(5,.cells [(1,.own 3 0),(1,.own 4 0)] 56)],True,by kernel_rfl,?_,?_⟩
    ·refine And.intro ?_ ?_
     ·refine⟨_,rfl,rfl,(by assumption),?_⟩;refine And.intro ?_ ?_
      ·refine⟨_,rfl,rfl,(by assumption),?_⟩;refine And.intro ?_ trivial;refine⟨trivial,[],?_⟩;repeat (first|exact trivial|refine And.intro rfl ?_)
      refine And.intro ?_ trivial;refine And.intro ?_ trivial;refine⟨_,rfl,rfl,(by assumption),?_⟩;refine⟨trivial,[(5,4),(4,5)],?_⟩;repeat (first|exact trivial|refine And.intro rfl ?_)
     refine And.intro ?_ trivial;refine And.intro ?_ trivial;refine⟨_,rfl,rfl,(by assumption),?_⟩;refine And.intro ?_ trivial;refine⟨_,rfl,rfl,(by assumption),?_⟩;refine⟨trivial,[(5,3),(3,4),(4,5)],?_⟩;repeat (first|exact trivial|refine And.intro rfl ?_)
    refine fun _=>?_;refine⟨_,fun _=>⟨_,_,rfl,rfl,(by omega),rfl,rfl⟩,rfl,?_⟩;refine wI hf0 (fun _ hf0=>?_) fun _ hf0=>?_
    ·rw[hf0]at h;exact h (by(dsimp only;omega))
    ·refine fl (x:=s.adds.length) fun _=>?_;refine wI hf0 (fun _ hf0=>?_) fun _ hf0=>?_
     ·rw[hf0]at h;exact h (by simp)
     ·refine⟨_,_,_,rfl,rfl,((rj _ _ _).1),((rj _ _ _).2),(by assumption),?_⟩;rw[hf0]at h;exact h (by(dsimp only;rw[rh];simp only[List.length_cons,List.length_nil];omega))
def kL(a:bj)(out:aX):Bool:=
 kK out a.tag
def Km:aZ U:=⟨[.d (.st 7),.n],fun xs es K=> ∃(a:bj) (out:aX),xs= [(FZ a),⟨false,[(1,.pd (.st 8) out)]⟩]∧es= []∧(out.gone.length≤1000000)∧K (.v (vb (kL a out))) []⟩
theorem Kn:Fk 141 Km:=by
 refine fo Tryz.f141 [.d .bool] [] (aa EN aj) fun xs es K=>?_;rintro⟨a,out,rfl,rfl,h2,h⟩;refine⟨rfl,?_⟩;have hf0:=kL.eq_1 a out;refine⟨_,_,rfl,rfl,(by omega),?_⟩;exact e0
end Go.Proofs.YtiliglahlfkikaaGreatDoor.V
end

section
set_option linter.unusedVariables false
set_option linter.unusedSimpArgs false
set_option maxRecDepth 20000
set_option maxHeartbeats 4000000
namespace Go.Proofs.YtiliglahlfkikaaGreatDoor.V
open Go.RowKit
def gN(v:List Int):Nat→Int→Int⊕(Int)
 |0,s6=> .inr s6
 |n1+1,s6=>
  if s6<8 then
   if 1048576<ix v s6 then
    .inl 2
   else
    gN v n1 (s6+1)
  else
   .inr s6
def fH(v:List Int):Int:=
 match gN v (((8:Int)-(0:Int)).toNat+1) (0:Int)with
 | .inl r=>r
 | .inr s6=>
  0
def Np:aZ U:=⟨[.d (.arr 8 (.int .u32))],fun xs es K=> ∃(v:List Int),xs= [(ia v)]∧es= []∧K (.v (vi (fH v))) []⟩
theorem Nq:Fk 43 Np:=by
 refine fo Tryz.f43 [.d (.int .i64)] [] (aj) fun xs es K=>?_;rintro⟨v,rfl,rfl,h⟩;refine⟨rfl,?_⟩;have hf0:=fH.eq_1 v;refine lI 1 (fun(s6:Int)=> [(2,.v (vi 0)),(5,.v (ia v)),(6,.v (vi s6))]) (fun(s6:Int)=> []) (fun(s6:Int)=>(8 - s6).toNat) (fun(s6:Int)=>(0≤s6)∧(s6≤8)∧True) (fun n1 (s6:Int)=>gN v n1 s6) (gN v (((8:Int)-(0:Int)).toNat+1) (0:Int)) [] (0:Int) ?_;rintro s6 ⟨n1,hc1,⟨hi1_0,hi1_1,-⟩,hf1⟩;have hf1:=hf1.trans (gN.eq_2 v s6 n1);refine wI hf1 (fun _ hf1=>?_) fun _ hf1=>e1;refine vs (P:=0≤s6∧s6<((8:Nat):Int)) ?_;refine wI hf1 (fun _ hf1=>e1) fun _ hf1=>?_;refine dJ ?_;exact nx [] (s6+1) hc1 hf1
def i7(b:List Int):Nat→Int→(List Int)→(List Int)⊕(Int×(List Int))
 |0,s8,s2_0=> .inr (s8,s2_0)
 |n1+1,s8,s2_0=>
  if s8<8 then
   i7 b n1 (s8+1) (s2_0.set s8.toNat (max (ix s2_0 s8) (ix b s8)))
  else
   .inr (s8,s2_0)
def pM(a:List Int)(b:List Int):List Int:=
 match i7 b (((8:Int)-(0:Int)).toNat+1) (0:Int) a with
 | .inl r=>r
 | .inr (s8,s2_0)=>
  s2_0
def Nr:aZ U:=⟨[.d (.arr 8 (.int .u32)),.d (.arr 8 (.int .u32))],fun xs es K=> ∃(a:List Int) (b:List Int),xs= [(ia a),(ia b)]∧es= []∧K (.v (ia (pM a b))) []⟩
theorem Ns:Fk 99 Nr:=by
 refine fo Tryz.f99 [.d (.arr 8 (.int .u32))] [] (aj) fun xs es K=>?_;rintro⟨a,b,rfl,rfl,h⟩;refine⟨rfl,?_⟩;have hf0:=pM.eq_1 a b;refine⟨Int×(List Int),3,fun(s8,s2_0)=> [(2,.v ⟨false,[(1,.ptr 0 0)]⟩),(4,.v ⟨false,[(1,.ptr 2 0)]⟩),(7,.v ⟨true,[(8,.d (.arr 8 (.int .u32)) b)]⟩),(8,.v ⟨false,[(1,.d (.int .i64) s8)]⟩)],fun(s8,s2_0)=> [(0,.cells [(8,.d (.arr 8 (.int .u32)) s2_0)] 41),(2,.cells [(1,.d (.int .u32) (0:Int)),(1,.d (.int .u32) (0:Int)),(1,.d (.int .u32) (0:Int)),(1,.d (.int .u32) (0:Int)),(1,.d (.int .u32) (0:Int)),(1,.d (.int .u32) (0:Int)),(1,.d (.int .u32) (0:Int)),(1,.d (.int .u32) (0:Int))] 41)],de (fun(s8,s2_0)=>((8:Int)- s8).toNat) (fun(s8,s2_0)=>((0:Int)≤s8)∧(s8≤(8:Int))∧True) (fun n1 (s8,s2_0)=>i7 b n1 s8 s2_0) (i7 b (((8:Int)-(0:Int)).toNat+1) (0:Int) a),fun(s8,s2_0)=>((8:Int)- s8).toNat,⟨[],((0:Int),a),de.mk0 _ (Nat.lt_succ_self _) ⟨show(0:Int)≤(0:Int)from by omega,show(0:Int)≤(8:Int)from by omega,trivial⟩ rfl,?_⟩,?_⟩
 ·repeat (first|exact trivial|refine And.intro rfl ?_)
 ·rintro⟨s8,s2_0⟩ ⟨n1,hc1,⟨hi1_0,hi1_1,-⟩,hf1⟩;have hf1:=hf1.trans (i7.eq_2 b s8 s2_0 n1);refine vI hf1 iD (fun _ hf1=>?_) (fun _ hf1=>?_)
  ·refine And.intro (show(0:Int)≤s8∧s8<(↑(8:Nat):Int)from by omega) ?_;refine And.intro (show(0:Int)≤s8∧s8<(↑(8:Nat):Int)from by omega) ?_;refine And.intro (show(0:Int)≤s8∧s8<(↑(8:Nat):Int)from by omega) ?_;refine .inl (And.intro (v6 (p:=s8) (q:=(1:Int)) (r:=s8+(1:Int)) (by omega)) ?_);have hm1:((8:Int)-(s8+(1:Int))).toNat<((8:Int)- s8).toNat:=by omega
   refine⟨[],(s8+(1:Int),s2_0.set s8.toNat (max (ix s2_0 s8) (ix b s8))),hm1,de.next (s:=(s8,s2_0)) hc1 hm1 ⟨show(0:Int)≤s8+(1:Int)from by omega,show s8+(1:Int)≤(8:Int)from by omega,trivial⟩ hf1,?_⟩;repeat (first|exact trivial|refine And.intro rfl ?_)
  ·rw[hf1]at hf0;rw[hf0]at h;exact h
def uw(a:List Int)(b:List Int):Bool:=
 decide (pM a b=b)
def Nt:aZ U:=⟨[.d (.arr 8 (.int .u32)),.d (.arr 8 (.int .u32))],fun xs es K=> ∃(a:List Int) (b:List Int),xs= [(ia a),(ia b)]∧es= []∧K (.v (vb (uw a b))) []⟩
theorem Nu:Fk 44 Nt:=by
 refine fo Tryz.f44 [.d .bool] [] (aa Ns aj) fun xs es K=>?_;rintro⟨a,b,rfl,rfl,h⟩;refine⟨rfl,?_⟩;have hf0:=uw.eq_1 a b;refine dp [(true,0),(true,1),(true,3),(false,2),(true,4),(true,5)] none (nw 2) ?_;refine⟨_,_,rfl,rfl,?_⟩;exact e0
theorem oF{id:fm}(h:eR id=0):0≤id.origin∧id.origin≤7∧id.seq≤1048576:=by
 unfold eR at h;split at h
 ·cases h
 ·omega
def cQ(v:List Int)(id:fm):Bool:=
 decide (eR id=0)&&decide (id.seq≤ix v id.origin)
def Nv:aZ U:=⟨[.d (.arr 8 (.int .u32)),.d (.st 0)],fun xs es K=> ∃(v:List Int) (id:fm),xs= [(ia v),(Cp id)]∧es= []∧K (.v (vb (cQ v id))) []⟩
theorem GW:Fk 36 Nv:=by
 refine fo Tryz.f36 [.d .bool] [] (aa MC aj) fun xs es K=>?_;rintro⟨v,id,rfl,rfl,h⟩;refine⟨rfl,?_⟩;have hf0:=cQ.eq_1 v id;refine dp [(true,0),(false,1),(true,2),(true,3),(true,4),(true,5),(true,6),(true,7),(true,8),(true,9),(true,10),(true,11),(true,12)] none (nw 2) ?_;refine⟨_,rfl,rfl,?_⟩;refine And.intro (show decide (eR id=(0:Int))=((8:Nat),true).snd→(0:Int)≤id.origin∧id.origin<(↑(8:Nat):Int)from(fun h=>⟨(oF (of_decide_eq_true h)).1,by have:=(oF (of_decide_eq_true h)).2.1;simp;omega⟩)) ?_;exact e0
def gk(t:ae)(v:List (Int)):Bool:=
 cQ v t.id
def Ko:aZ U:=⟨[.d (.st 1),.n],fun xs es K=> ∃(t:ae) (v:List (Int)),xs= [(tB t),⟨false,[(1,.pd (.arr 8 (.int .u32)) v)]⟩]∧es= []∧K (.v (vb (gk t v))) []⟩
theorem Kp:Fk 163 Ko:=by
 refine fo Tryz.f163 [.d .bool] [] (aa GW aj) fun xs es K=>?_;rintro⟨t,v,rfl,rfl,h⟩;refine⟨rfl,?_⟩;have hf0:=gk.eq_1 t v;refine⟨_,_,rfl,rfl,?_⟩;exact e0
def gl(t:ae)(v:List (Int)):Bool:=
 cQ v t.id
def Kq:aZ U:=⟨[.d (.st 1),.n],fun xs es K=> ∃(t:ae) (v:List (Int)),xs= [(tB t),⟨false,[(1,.pd (.arr 8 (.int .u32)) v)]⟩]∧es= []∧K (.v (vb (gl t v))) []⟩
theorem Kr:Fk 165 Kq:=by
 refine fo Tryz.f165 [.d .bool] [] (aa GW aj) fun xs es K=>?_;rintro⟨t,v,rfl,rfl,h⟩;refine⟨rfl,?_⟩;have hf0:=gl.eq_1 t v;refine⟨_,_,rfl,rfl,?_⟩;exact e0
def m8(a:bK)(b:bK):bK:=
 if fe [io a.at_ b.at_,sR a.val b.val]<0 then
  b
 else
  a
def Ks:aZ U:=⟨[.d (.st 5),.d (.st 5)],fun xs es K=> ∃(a:bK) (b:bK),xs= [(FY a),(FY b)]∧es= []∧K (.v (FY (m8 a b))) []⟩
theorem Kt:Fk 130 Ks:=by
 refine fo Tryz.f130 [.d (.st 5)] [] (aa xO (aa GT (aa JL aj))) fun xs es K=>?_;rintro⟨a,b,rfl,rfl,h⟩;refine⟨rfl,?_⟩;have hf0:=m8.eq_1 a b;refine dp [(true,0),(true,1),(true,2),(true,3),(true,5),(true,6),(true,7),(true,8),(false,4),(false,9),(false,10),(false,11),(true,12)] none (nw 3) ?_;refine⟨_,_,rfl,rfl,?_⟩;refine⟨_,_,rfl,rfl,?_⟩;refine⟨_,rfl,rfl,?_⟩;exact wI hf0 (fun _ hf0=>e0) fun _ hf0=>e0
def gO(s:bK)(val:Int)(tm:az):bK×Int:=
 if kJ [d6 s.at_,d6 tm]=0 then
  if tm.time=0 then
   (bK.mk 0 (az.mk 0 0),2)
  else
   (m8 s (bK.mk val tm),0)
 else
  (bK.mk 0 (az.mk 0 0),kJ [d6 s.at_,d6 tm])
def Nw:aZ U:=⟨[.d (.st 5),.d (.int .i64),.d (.st 2)],fun xs es K=> ∃(s:bK) (val:Int) (tm:az),xs= [(FY s),(vi val),(Gd tm)]∧es= []∧K (.tup [(FY ((gO s val tm).1)),(vi ((gO s val tm).2))]) []⟩
theorem Nx:Fk 79 Nw:=by
 refine fo Tryz.f79 [.d (.st 5),.d (.int .i64)] [] (aa EK (aa JQ (aa Kt aj))) fun xs es K=>?_;rintro⟨s,val,tm,rfl,rfl,h⟩;refine⟨rfl,?_⟩;have hf0:=gO.eq_1 s val tm;refine dp [(true,0),(true,1),(true,3),(false,2),(false,4),(false,5),(false,6),(true,7)] none (nw 3) ?_;refine⟨_,rfl,rfl,?_⟩;refine⟨_,rfl,rfl,?_⟩;refine⟨_,rfl,rfl,?_⟩;refine wN hf0 (fun _ hf0=>e0) fun _ hf0=>?_;refine wI hf0 (fun _ hf0=>e0) fun _ hf0=>?_;refine⟨_,_,rfl,rfl,?_⟩;exact e0
def fI(low:Int)(high:Int)(l:List Int):Nat→Int→Bool⊕(Int)
 |0,s11=> .inr s11
 |n1+1,s11=>
  if s11<(l.length:Int)then
   if(ix l s11<low)∨(high<ix l s11)then
    .inl false
   else
    fI low high l n1 (s11+1)
  else
   .inr s11
def jx(low:Int)(high:Int)(l:List Int):Bool:=
 match fI low high l (((l.length:Int)- 0).toNat+1) 0 with
 | .inl r=>r
 | .inr s11=>
  true
def Ku:aZ U:=⟨[.d (.int .i64),.d (.int .i64),.d (.sl (.int .i64))],fun xs es K=> ∃(low:Int) (high:Int) (l:List Int),xs= [(vi low),(vi high),(Gf l)]∧es= []∧K (.v (vb (jx low high l))) []⟩
theorem Kv:Fk 185 Ku:=by
 refine fo Tryz.f185 [.d .bool] [] (aj) fun xs es K=>?_;rintro⟨low,high,l,rfl,rfl,h⟩;refine⟨rfl,?_⟩;have hf0:=jx.eq_1 low high l;refine fl (x:=l.length) fun _=>?_;refine lI 0 (fun(s11:Int)=> [(0,.v (vi low)),(1,.v (vi high)),(6,.v (vb false)),(9,.v (Gf l)),(10,.v (vi (l.length:Int))),(11,.v (vi s11))]) (fun(s11:Int)=> []) (fun(s11:Int)=>((l.length:Int)- s11).toNat) (fun(s11:Int)=>(0≤s11)∧(s11≤(l.length:Int))∧True) (fun n1 (s11:Int)=>fI low high l n1 s11) (fI low high l (((l.length:Int)- 0).toNat+1) 0) [] (0:Int) ?_;rintro s11 ⟨n1,hc1,⟨hi1_0,hi1_1,-⟩,hf1⟩;have hf1:=hf1.trans (fI.eq_2 low high l s11 n1);refine wI hf1 (fun _ hf1=>?_) fun _ hf1=>e1;refine vx s11 l ?_;refine wI hf1 (fun _ hf1=>e1) fun _ hf1=>?_;refine dJ ?_;exact nx [] (s11+1) hc1 hf1
def ff(a:Int)(b:Int):Int×Int:=
 if jx (-1125899906842624) 1125899906842624 [a,b]=true then
  if jx (-1125899906842624) 1125899906842624 [IntKind.i64.wrap (a+b)]=true then
   (IntKind.i64.wrap (a+b),0)
  else
   (0,12)
 else
  (0,2)
def Kw:aZ U:=⟨[.d (.int .i64),.d (.int .i64)],fun xs es K=> ∃(a:Int) (b:Int),xs= [(vi a),(vi b)]∧es= []∧K (.tup [(vi ((ff a b).1)),(vi ((ff a b).2))]) []⟩
theorem Kx:Fk 131 Kw:=by
 refine fo Tryz.f131 [.d (.int .i64),.d (.int .i64)] [] (aa Kv aj) fun xs es K=>?_;rintro⟨a,b,rfl,rfl,h⟩;refine⟨rfl,?_⟩;have hf0:=ff.eq_1 a b;refine⟨_,_,_,rfl,rfl,?_⟩;refine wN hf0 (fun _ hf0=>e0) fun _ hf0=>?_;refine .inr ?_;refine⟨_,_,_,rfl,rfl,?_⟩;refine wN hf0 (fun _ hf0=>e0) fun _ hf0=>?_;refine .inr ?_;exact e0
def gP(s:cg):Nat→Int→Int⊕(Int)
 |0,s10=> .inr s10
 |n1+1,s10=>
  if s10<2 then
   if(ix [s.plus,s.minus] s10<0)∨(1125899906842624<ix [s.plus,s.minus] s10)then
    .inl 2
   else
    gP s n1 (s10+1)
  else
   .inr s10
def ja(s:cg):Int:=
 match gP s (((2:Int)-(0:Int)).toNat+1) (0:Int)with
 | .inl r=>r
 | .inr s10=>
  0
def Ky:aZ U:=⟨[.d (.st 6)],fun xs es K=> ∃(s:cg),xs= [(Ge s)]∧es= []∧K (.v (vi (ja s))) []⟩
theorem GX:Fk 111 Ky:=by
 refine fo Tryz.f111 [.d (.int .i64)] [] (aj) fun xs es K=>?_;rintro⟨s,rfl,rfl,h⟩;refine⟨rfl,?_⟩;have hf0:=ja.eq_1 s;refine lI 1 (fun(s10:Int)=> [(2,.v (vi 0)),(9,.v ⟨true,[(1,.d (.int .i64) s.plus),(1,.d (.int .i64) s.minus)]⟩),(10,.v (vi s10))]) (fun(s10:Int)=> []) (fun(s10:Int)=>(2 - s10).toNat) (fun(s10:Int)=>(0≤s10)∧(s10≤2)∧True) (fun n1 (s10:Int)=>gP s n1 s10) (gP s (((2:Int)-(0:Int)).toNat+1) (0:Int)) [] (0:Int) ?_;rintro s10 ⟨n1,hc1,⟨hi1_0,hi1_1,-⟩,hf1⟩;have hf1:=hf1.trans (gP.eq_2 s s10 n1);refine wI hf1 (fun _ hf1=>?_) fun _ hf1=>e1;refine vs (P:=0≤s10∧s10<((2:Nat):Int)) ?_;refine wI hf1 (fun _ hf1=>e1) fun _ hf1=>?_;refine dJ ?_;exact nx [] (s10+1) hc1 hf1
def kM(s:cg):Int:=
 if ja s=0 then
  IntKind.i64.wrap (s.plus - s.minus)
 else
  0
def Ny:aZ U:=⟨[.d (.st 6)],fun xs es K=> ∃(s:cg),xs= [(Ge s)]∧es= []∧K (.v (vi (kM s))) []⟩
theorem Nz:Fk 64 Ny:=by
 refine fo Tryz.f64 [.d (.int .i64)] [] (aa GX aj) fun xs es K=>?_;rintro⟨s,rfl,rfl,h⟩;refine⟨rfl,?_⟩;have hf0:=kM.eq_1 s;refine⟨_,rfl,rfl,?_⟩;refine wN hf0 (fun _ hf0=>e0) fun _ hf0=>?_;refine .inr ?_;exact e0
def gQ(s:cg)(n:Int):cg×Int:=
 if ja s=0 then
  if(n<(-1073741824))∨(1073741824<n)then
   (cg.mk 0 0,2)
  else
   if n<0 then
    if(ff s.minus (-n)).snd=0 then
     (cg.mk s.plus (ff s.minus (-n)).fst,0)
    else
     (cg.mk 0 0,(ff s.minus (-n)).snd)
   else
    if(ff s.plus n).snd=0 then
     (cg.mk (ff s.plus n).fst s.minus,0)
    else
     (cg.mk 0 0,(ff s.plus n).snd)
 else
  (cg.mk 0 0,ja s)
def NA:aZ U:=⟨[.d (.st 6),.d (.int .i64)],fun xs es K=> ∃(s:cg) (n:Int),xs= [(Ge s),(vi n)]∧es= []∧K (.tup [(Ge ((gQ s n).1)),(vi ((gQ s n).2))]) []⟩
theorem NB:Fk 80 NA:=by
 refine fo Tryz.f80 [.d (.st 6),.d (.int .i64)] [] (aa GX (aa Kx aj)) fun xs es K=>?_;rintro⟨s,n,rfl,rfl,h⟩;refine⟨rfl,?_⟩;have hf0:=gQ.eq_1 s n;refine⟨_,rfl,rfl,?_⟩;refine wN hf0 (fun _ hf0=>e0) fun _ hf0=>?_;refine wI hf0 (fun _ hf0=>e0) fun _ hf0=>?_;refine wI hf0 (fun _ hf0=>?_) fun _ hf0=>?_
 ·refine dJ ?_;refine⟨_,_,rfl,rfl,?_⟩;exact wN hf0 (fun _ hf0=>e0) fun _ hf0=>e0
 ·refine⟨_,_,rfl,rfl,?_⟩;exact wN hf0 (fun _ hf0=>e0) fun _ hf0=>e0
def du(act:Int):Int:=
 if act=1 then
  1
 else
  if act=2 then
   2
  else
   if act=3 then
    3
   else
    if act=4 then
     3
    else
     if act=5 then
      4
     else
      if act=6 then
       4
      else
       0
def NC:aZ U:=⟨[.d (.int .i64)],fun xs es K=> ∃(act:Int),xs= [(vi act)]∧es= []∧K (.v (vi (du act))) []⟩
theorem Kz:Fk 35 NC:=by
 refine fo Tryz.f35 [.d (.int .i64)] [] (aj) fun xs es K=>?_;rintro⟨act,rfl,rfl,h⟩;refine⟨rfl,?_⟩;have hf0:=du.eq_1 act;refine wI hf0 (fun _ hf0=>e0) fun _ hf0=>?_;refine wI hf0 (fun _ hf0=>e0) fun _ hf0=>?_;refine wI hf0 (fun _ hf0=>?_) fun _ hf0=>?_
 ·refine vT iD (by omega) ?_;exact e0
 ·refine wI hf0 (fun _ hf0=>e0) fun _ hf0=>?_;refine wI hf0 (fun _ hf0=>?_) fun _ hf0=>wI hf0 (fun _ hf0=>e0) fun _ hf0=>e0;refine vT iD (by omega) ?_;exact e0
def dO(kind:Int):aA×Int:=
 if(kind<1)∨(4<kind)then
  (aA.mk 0 (bK.mk 0 (az.mk 0 0)) (cg.mk 0 0) (aX.mk [] []) (bc.mk [] []),5)
 else
  (aA.mk kind (bK.mk 0 (az.mk 0 0)) (cg.mk 0 0) (aX.mk [] []) (bc.mk [] []),0)
def ND:aZ U:=⟨[.d (.int .i64)],fun xs es K=> ∃(kind:Int),xs= [(vi kind)]∧es= []∧K (.tup [(jG ((dO kind).1)),(vi ((dO kind).2))]) []⟩
theorem KA:Fk 32 ND:=by
 refine fo Tryz.f32 [.d (.st 10),.d (.int .i64)] [] (aj) fun xs es K=>?_;rintro⟨kind,rfl,rfl,h⟩;refine⟨rfl,?_⟩;have hf0:=dO.eq_1 kind;exact wI hf0 (fun _ hf0=>e0) fun _ hf0=>e0
def da(o:Int):fT:=
 if o=5 then
  fT.mk true true true false
 else
  if o=1 then
   fT.mk false true true false
  else
   if o=2 then
    fT.mk false true false false
   else
    if o=4 then
     fT.mk true false false true
    else
     if o=6 then
      fT.mk true false false true
     else
      if o=3 then
       fT.mk true false false false
      else
       fT.mk false false false false
def NE:aZ U:=⟨[.d (.int .i64)],fun xs es K=> ∃(o:Int),xs= [(vi o)]∧es= []∧K (.v ⟨true,[(4,.d (.st 15) (da o))]⟩) []⟩
theorem MF:Fk 74 NE:=by
 refine fo Tryz.f74 [.d (.st 15)] [] (aj) fun xs es K=>?_;rintro⟨o,rfl,rfl,h⟩;refine⟨rfl,?_⟩;have hf0:=da.eq_1 o;refine wI hf0 (fun _ hf0=>e0) fun _ hf0=>?_;refine wI hf0 (fun _ hf0=>e0) fun _ hf0=>?_;refine wI hf0 (fun _ hf0=>e0) fun _ hf0=>?_;refine wI hf0 (fun _ hf0=>?_) fun _ hf0=>wI hf0 (fun _ hf0=>e0) fun _ hf0=>wI hf0 (fun _ hf0=>e0) fun _ hf0=>e0;refine vT iD (by omega) ?_;exact e0
def jY(r:Int):Bool:=
 decide (97≤r)&&decide (r≤122)||decide (48≤r)&&decide (r≤57)
def NF:aZ U:=⟨[.d (.int .u8)],fun xs es K=> ∃(r:Int),xs= [(vc r)]∧es= []∧K (.v (vb (jY r))) []⟩
theorem NG:Fk 70 NF:=by
 refine fo Tryz.f70 [.d .bool] [] (aj) fun xs es K=>?_;rintro⟨r,rfl,rfl,h⟩;refine⟨rfl,?_⟩;have hf0:=jY.eq_1 r;exact e0
def cW(t:ae):Bool:=
 decide ¬bF t=0
def NH:aZ U:=⟨[.d (.st 1)],fun xs es K=> ∃(t:ae),xs= [(tB t)]∧es= []∧K (.v (vb (cW t))) []⟩
theorem NI:Fk 72 NH:=by
 refine fo Tryz.f72 [.d .bool] [] (aa EJ aj) fun xs es K=>?_;rintro⟨t,rfl,rfl,h⟩;refine⟨rfl,?_⟩;have hf0:=cW.eq_1 t;refine⟨_,rfl,rfl,?_⟩;exact e0
def ar(s:aA):aA:=
 aA.mk s.kind s.reg s.num (aX.mk s.set.adds s.set.gone) (bc.mk s.map.puts s.map.gone)
def NJ:aZ U:=⟨[.d (.st 10)],fun xs es K=> ∃(s:aA),xs= [(jG s)]∧es= []∧(s.set.adds.length≤1000000)∧(s.set.gone.length≤1000000)∧(s.map.puts.length≤1000000)∧(s.map.gone.length≤1000000)∧K (.v (jG (ar s))) []⟩
theorem MG:Fk 78 NJ:=by
 refine fo Tryz.f78 [.d (.st 10)] [] (aa Ga (aa yf (aa Bh aj))) fun xs es K=>?_;rintro⟨s,rfl,rfl,h1,h2,h3,h4,h⟩;refine⟨rfl,?_⟩;have hf0:=ar.eq_1 s;refine dp [(true,0),(true,1),(true,2),(true,4),(true,5),(true,6),(false,3),(false,7),(true,8),(true,9)] (some 10) (nw 2) ?_;refine⟨_,rfl,rfl,(by assumption),?_⟩;refine⟨_,rfl,rfl,(by assumption),?_⟩;refine dp [(true,0),(true,1),(true,2),(true,4),(true,5),(true,6),(false,3),(false,7),(true,8),(true,9)] (some 10) (nw 4) ?_;refine⟨_,rfl,rfl,(by assumption),?_⟩;refine⟨_,rfl,rfl,(by assumption),?_⟩;exact e0
def gR(e:az):Bool:=
 decide (d6 e=0)&&decide (0<e.time)
def NK:aZ U:=⟨[.d (.st 2)],fun xs es K=> ∃(e:az),xs= [(Gd e)]∧es= []∧K (.v (vb (gR e))) []⟩
theorem NL:Fk 75 NK:=by
 refine fo Tryz.f75 [.d .bool] [] (aa EK aj) fun xs es K=>?_;rintro⟨e,rfl,rfl,h⟩;refine⟨rfl,?_⟩;have hf0:=gR.eq_1 e;refine⟨_,rfl,rfl,?_⟩;exact e0
def eT(o:uS):Int:=
 if du o.act=0 then
  5
 else
  if((da o.act).name=true)∧(¬(gj o.name=true))then
   3
  else
   if(¬((da o.act).name=true))∧(¬o.name= [])then
    3
   else
    if(¬((da o.act).val=true))∧(¬o.val=0)then
     3
    else
     if(o.act=2)∧((o.val<(-1073741824))∨(1073741824<o.val))then
      2
     else
      0
def NM:aZ U:=⟨[.d (.st 16)],fun xs es K=> ∃(o:uS),xs= [(Mt o)]∧es= []∧K (.v (vi (eT o))) []⟩
theorem NN:Fk 71 NM:=by
 refine fo Tryz.f71 [.d (.int .i64)] [] (aa Kz (aa MF (aa EL aj))) fun xs es K=>?_;rintro⟨o,rfl,rfl,h⟩;refine⟨rfl,?_⟩;have hf0:=eT.eq_1 o;refine⟨_,rfl,rfl,?_⟩;refine wI hf0 (fun _ hf0=>e0) fun _ hf0=>?_;refine⟨_,rfl,rfl,?_⟩;refine⟨_,fun _=>⟨_,rfl,rfl,rfl,rfl⟩,rfl,?_⟩;refine wI hf0 (fun _ hf0=>?_) fun _ hf0=>?_
 ·refine vT (iA iB (iN iB)) (show((da o.act).name=true)∧(¬(gj o.name=true))from by omega) ?_;exact e0
 ·refine wI hf0 (fun _ hf0=>?_) fun _ hf0=>wI hf0 (fun _ hf0=>e0) fun _ hf0=>wI hf0 (fun _ hf0=>e0) fun _ hf0=>e0;refine vT (iA (iN iB) iD) (show(¬((da o.act).name=true))∧(¬o.name= [])from by omega) ?_;exact e0
def fJ(e:ab):Nat→Int→Int⊕(Int)
 |0,s5=> .inr s5
 |n1+1,s5=>
  if s5<(e.tags.length:Int)then
   if 0≤af (ix e.tags (s5 - 1)) (ix e.tags s5)then
    .inl 3
   else
    fJ e n1 (s5+1)
  else
   .inr s5
def bT(e:ab):Int:=
 if eT (uS.mk e.act e.name e.val)=0 then
  if(cW e.tag=true)∨((bL e.tags fun(t:ae)=>cW t)=true)then
   2
  else
   if 4096<(e.tags.length:Int)then
    8
   else
    if((((da e.act).at_=true)∧(¬(gR e.at_=true)))∨((¬((da e.act).at_=true))∧(¬(e.at_=az.mk 0 0))))∨((¬((da e.act).tags=true))∧(0<(e.tags.length:Int)))then
     3
    else
     match fJ e (((e.tags.length:Int)- 1).toNat+1) 1 with
     | .inl r=>r
     | .inr s5=>
      0
 else
  eT (uS.mk e.act e.name e.val)
def NO:aZ U:=⟨[.d (.st 3)],fun xs es K=> ∃(e:ab),xs= [(Dx e)]∧es= []∧((fun(r0:Int)=>r0=0→e.tags.length≤4096) (bT e)→K (.v (vi (bT e))) [])⟩
theorem MH:Fk 34 NO:=by
 refine fo Tryz.f34 [.d (.int .i64)] [] (aa NN (aa NI (aa GV (aa MF (aa NL (aa xP aj)))))) fun xs es K=>?_;rintro⟨e,rfl,rfl,h⟩;refine⟨rfl,?_⟩;have hf0:=bT.eq_1 e;refine⟨_,rfl,rfl,?_⟩;refine wN hf0 (fun _ hf0=>?_) fun _ hf0=>?_
 ·rw[hf0]at h;exact h (by omega)
 ·refine⟨_,rfl,rfl,?_⟩;refine⟨_,fun _=>⟨fun(t:ae)=>cW t,fun t0=>⟨_,rfl,rfl,rfl,rfl⟩,_,_,rfl,rfl,rfl,rfl⟩,rfl,?_⟩;refine wI hf0 (fun _ hf0=>?_) fun _ hf0=>?_
  ·rw[hf0]at h;exact h (by omega)
  ·refine fl (x:=e.tags.length) fun _=>?_;refine wI hf0 (fun _ hf0=>?_) fun _ hf0=>?_
   ·rw[hf0]at h;exact h (by omega)
   ·refine⟨_,rfl,rfl,?_⟩;refine⟨_,fun _=>⟨_,rfl,rfl,rfl,rfl⟩,rfl,?_⟩;refine wI hf0 (fun _ hf0=>?_) fun _ hf0=>?_
    ·rw[hf0]at h;exact h (by omega)
    ·refine lI 2 (fun(s5:Int)=> [(1,.v (vp 0)),(2,.v (vi 0)),(5,.v (vi s5))]) (fun(s5:Int)=> [(0,.cells [(9,.d (.st 3) e)] 47)]) (fun(s5:Int)=>((e.tags.length:Int)- s5).toNat) (fun(s5:Int)=>(1≤s5)∧True) (fun n1 (s5:Int)=>fJ e n1 s5) (fJ e (((e.tags.length:Int)- 1).toNat+1) 1) [] (1:Int) ?_;rintro s5 ⟨n1,hc1,⟨hi1_0,-⟩,hf1⟩;have hf1:=hf1.trans (fJ.eq_2 e s5 n1);refine fl (x:=e.tags.length) fun _=>?_;refine wI hf1 (fun _ hf1=>?_) fun _ hf1=>?_
     ·refine dp [(true,0),(true,1),(true,2),(true,3),(true,4),(true,5),(true,6),(true,7),(true,8),(true,9),(true,10),(false,11),(true,12)] none (nw 2) ?_;refine dJ ?_;refine vx (s5 - 1) e.tags ?_;refine vx s5 e.tags ?_;refine⟨_,_,rfl,rfl,?_⟩;refine wI hf1 (fun _ hf1=>?_) fun _ hf1=>?_
      ·rw[hf1]at hf0;rw[hf0]at h;exact h (by omega)
      ·refine dJ ?_;exact nx [] (s5+1) hc1 hf1
     ·rw[hf1]at hf0;rw[hf0]at h;exact h (by omega)
def dC(t:ae):Bool:=
 decide ¬bF t=0
def KB:aZ U:=⟨[.d (.st 1)],fun xs es K=> ∃(t:ae),xs= [(tB t)]∧es= []∧K (.v (vb (dC t))) []⟩
theorem EO:Fk 142 KB:=by
 refine fo Tryz.f142 [.d .bool] [] (aa EJ aj) fun xs es K=>?_;rintro⟨t,rfl,rfl,h⟩;refine⟨rfl,?_⟩;have hf0:=dC.eq_1 t;refine⟨_,rfl,rfl,?_⟩;exact e0
def eu(s:bc):(List bl)×(List ae):=
 (s.puts,s.gone)
def KC:aZ U:=⟨[.d (.st 9)],fun xs es K=> ∃(s:bc),xs= [(uV s)]∧es= []∧(s.puts.length≤1000000)∧(s.gone.length≤1000000)∧K (.v ⟨true,[(1,.own 0 0),(1,.own 1 0)]⟩) [.row 0 (.st 4) ((eu s).1) 164,.row 0 (.st 1) ((eu s).2) 34]⟩
theorem GY:Fk 146 KC:=by
 refine fo Tryz.f146 [.n] [] (aa Ga (aa Bh aj)) fun xs es K=>?_;rintro⟨s,rfl,rfl,h1,h2,h⟩;refine⟨rfl,?_⟩;have hf0:=eu.eq_1 s;refine dp [(true,0),(true,1),(true,3),(true,4),(false,2),(false,5),(true,6)] (some 7) (nw 2) ?_;refine⟨_,rfl,rfl,(by assumption),?_⟩;refine⟨_,rfl,rfl,(by assumption),?_⟩;exact e0
def fK(l:List bl):Nat→Int→(List ae)→(List ae)⊕(Int×(List ae))
 |0,s8,s3=> .inr (s8,s3)
 |n1+1,s8,s3=>
  if s8<(l.length:Int)then
   fK l n1 (s8+1) (s3++ [(ix l s8).tag])
  else
   .inr (s8,s3)
def eG(l:List bl):List ae:=
 match fK l (((l.length:Int)- 0).toNat+1) 0 ([]:List ae)with
 | .inl r=>r
 | .inr (s8,s3)=>
  s3
def KE:aZ U:=⟨[.d (.sl (.st 4))],fun xs es K=> ∃(l:List bl),xs= [(F2 l)]∧es= []∧(l.length≤1000000)∧K (.v (ls (eG l))) []⟩
theorem GZ:Fk 145 KE:=by
 refine fo Tryz.f145 [.d (.sl (.st 1))] [] (aj) fun xs es K=>?_;rintro⟨l,rfl,rfl,hl,h⟩;refine⟨rfl,?_⟩;have hf0:=eG.eq_1 l;refine fl (x:=l.length) fun _=>?_;refine lI (σ:=Int×(List ae)) 1 (fun(s8,s3)=> [(2,.v ⟨false,[(1,.nils)]⟩),(3,.v (vo 0)),(6,.v (F2 l)),(7,.v (vi (l.length:Int))),(8,.v (vi s8))]) (fun(s8,s3)=> [(0,.row 0 (.st 1) s3 34)]) (fun(s8,s3)=>((l.length:Int)- s8).toNat) (fun(s8,s3)=>(0≤s8)∧(s8≤(l.length:Int))∧((s3.length:Int)≤s8)∧True) (fun n1 (s8,s3)=>fK l n1 s8 s3) (fK l (((l.length:Int)- 0).toNat+1) 0 ([]:List ae)) [] ((0:Int),([]:List ae)) ?_;rintro⟨s8,s3⟩ ⟨n1,hc1,⟨hi1_0,hi1_1,hi1_2,-⟩,hf1⟩;have hf1:=hf1.trans (fK.eq_2 l s8 s3 n1);refine wI hf1 (fun _ hf1=>?_) fun _ hf1=>e1;refine vx s8 l ?_;refine vs (P:=(s3.length+ [(ix l s8).tag].length)*(24:Nat)≤(140737488355328:Nat)) ?_;refine dJ ?_;exact nx (s:=(s8,s3)) [] (s8+1,s3++ [(ix l s8).tag]) hc1 hf1
def jc(p:bl):Bool:=
 decide ¬p.field= []&&decide ((p.field.length:Int)≤12)&&decide (d6 p.at_=0)&&decide (0<p.at_.time)
def KF:aZ U:=⟨[.d (.st 4)],fun xs es K=> ∃(p:bl),xs= [(I4 p)]∧es= []∧K (.v (vb (jc p))) []⟩
theorem G0:Fk 143 KF:=by
 refine fo Tryz.f143 [.d .bool] [] (aa EK aj) fun xs es K=>?_;rintro⟨p,rfl,rfl,h⟩;refine⟨rfl,?_⟩;have hf0:=jc.eq_1 p;refine⟨_,fun _=>⟨_,rfl,rfl,rfl,rfl⟩,rfl,?_⟩;exact e0
def m9(l:List ae)(t:ae):Bool:=
 (d7 l t fun(t t':ae)=>af t t').snd
def KG:aZ U:=⟨[.d (.sl (.st 1)),.d (.st 1)],fun xs es K=> ∃(l:List ae) (t:ae),xs= [(ls l),(tB t)]∧es= []∧(l.length≤1000000)∧K (.v (vb (m9 l t))) []⟩
theorem EP:Fk 147 KG:=by
 refine fo Tryz.f147 [.d .bool] [] (aa xP (aa EM aj)) fun xs es K=>?_;rintro⟨l,t,rfl,rfl,hl,h⟩;refine⟨rfl,?_⟩;have hf0:=m9.eq_1 l t;refine⟨fun(t t':ae)=>af t t',fun t0 t1=>⟨_,_,rfl,rfl,rfl,rfl⟩,?_⟩;refine⟨_,_,_,rfl,rfl,(by omega),?_⟩;exact e0
def na(a:bl)(b:bl):Int:=
 fe [io a.at_ b.at_,af a.tag b.tag]
def KH:aZ U:=⟨[.d (.st 4),.d (.st 4)],fun xs es K=> ∃(a:bl) (b:bl),xs= [(I4 a),(I4 b)]∧es= []∧K (.v (vi (na a b))) []⟩
theorem KI:Fk 116 KH:=by
 refine fo Tryz.f116 [.d (.int .i64)] [] (aa xP (aa xO (aa GT aj))) fun xs es K=>?_;rintro⟨a,b,rfl,rfl,h⟩;refine⟨rfl,?_⟩;have hf0:=na.eq_1 a b;refine dp [(true,0),(true,1),(true,2),(true,3),(true,5),(true,6),(true,7),(true,8),(false,4),(false,9),(false,10),(false,11),(true,12)] none (nw 2) ?_;refine⟨_,_,rfl,rfl,?_⟩;refine⟨_,_,rfl,rfl,?_⟩;refine⟨_,rfl,rfl,?_⟩;exact e0
def jd(l:List ae):Nat→Int→Bool⊕(Int)
 |0,s3=> .inr s3
 |n1+1,s3=>
  if s3<(l.length:Int)then
   if 0≤af (ix l (s3 - 1)) (ix l s3)then
    .inl false
   else
    jd l n1 (s3+1)
  else
   .inr s3
def mu(l:List ae):Bool:=
 match jd l (((l.length:Int)- 1).toNat+1) 1 with
 | .inl r=>r
 | .inr s3=>
  true
def KJ:aZ U:=⟨[.d (.sl (.st 1))],fun xs es K=> ∃(l:List ae),xs= [(ls l)]∧es= []∧K (.v (vb (mu l))) []⟩
theorem KK:Fk 174 KJ:=by
 refine fo Tryz.f174 [.d .bool] [] (aa xP aj) fun xs es K=>?_;rintro⟨l,rfl,rfl,h⟩;refine⟨rfl,?_⟩;have hf0:=mu.eq_1 l;refine lI 0 (fun(s3:Int)=> [(0,.v (ls l)),(2,.v (vb false)),(3,.v (vi s3))]) (fun(s3:Int)=> []) (fun(s3:Int)=>((l.length:Int)- s3).toNat) (fun(s3:Int)=>(1≤s3)∧True) (fun n1 (s3:Int)=>jd l n1 s3) (jd l (((l.length:Int)- 1).toNat+1) 1) [] (1:Int) ?_;rintro s3 ⟨n1,hc1,⟨hi1_0,-⟩,hf1⟩;have hf1:=hf1.trans (jd.eq_2 l s3 n1);refine fl (x:=l.length) fun _=>?_;refine wI hf1 (fun _ hf1=>?_) fun _ hf1=>e1;refine dp [(true,0),(true,1),(true,2),(true,3),(true,4),(true,5),(true,6),(true,7),(true,8),(false,9),(true,10)] none (nw 0) ?_;refine dJ ?_;refine vx (s3 - 1) l ?_;refine vx s3 l ?_;refine⟨_,_,rfl,rfl,?_⟩;refine wI hf1 (fun _ hf1=>e1) fun _ hf1=>?_;refine dJ ?_;exact nx [] (s3+1) hc1 hf1
def ck(a:aM)(b:aM):Int:=
 m6 a.field b.field
def KL:aZ U:=⟨[.d (.st 12),.d (.st 12)],fun xs es K=> ∃(a:aM) (b:aM),xs= [(I5 a),(I5 b)]∧es= []∧K (.v (vi (ck a b))) []⟩
theorem KM:Fk 118 KL:=by
 refine fo Tryz.f118 [.d (.int .i64)] [] (aa JN aj) fun xs es K=>?_;rintro⟨a,b,rfl,rfl,h⟩;refine⟨rfl,?_⟩;have hf0:=ck.eq_1 a b;refine⟨_,_,rfl,rfl,?_⟩;exact e0
end Go.Proofs.YtiliglahlfkikaaGreatDoor.V
end

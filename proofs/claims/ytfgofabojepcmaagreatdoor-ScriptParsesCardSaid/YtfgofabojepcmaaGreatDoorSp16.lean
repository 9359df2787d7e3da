/- Functions walked: printed by the walker. -/
import Derived.Test.YtfgofabojepcmaaGreatDoorSp15
section
set_option linter.unusedVariables false
set_option linter.unusedSimpArgs false
set_option maxRecDepth 20000
set_option maxHeartbeats 4000000
namespace Go.Proofs.YtfgofabojepcmaaGreatDoor.V
open Go.RowKit
def Jv:bS U:= []
theorem zZ:ay Tryz.prog U Jv:=am
def fo(s:List UInt8):Nat→Int→Bool⊕(Int)
 |0,s7=> .inr s7
 |n1+1,s7=>
  if s7<(↑s.length:Int)then
   if(((↑(ix s s7).toNat:Int)<(97:Int))∨((122:Int)<(↑(ix s s7).toNat:Int)))∧(((↑(ix s s7).toNat:Int)<(48:Int))∨((57:Int)<(↑(ix s s7).toNat:Int)))then
    .inl false
   else
    fo s n1 (s7+(1:Int))
  else
   .inr s7
def j9(s:List UInt8):Bool:=
 match fo s (((↑s.length:Int)-(0:Int)).toNat+1) (0:Int)with
 | .inl r=>r
 | .inr s7=>
  decide ¬s= []
def Gc:bZ U:=⟨[.d .str],fun xs es K=> ∃(s:List UInt8),xs= [⟨false,[(1,.d .str s)]⟩]∧es= []∧K (.v ⟨false,[(1,.d .bool (j9 s))]⟩) []⟩
theorem Jw:aQ Tryz.prog U 234 Gc:=by
 refine aT (fn:=Tryz.f234) zZ aC (by kernel_rfl) Tryz.f234.ntmps [.d .bool] [] (by kernel_rfl) (by kernel_rfl) rfl rfl (by kernel_rfl) (fun xs es K=>?_);rintro⟨s,rfl,rfl,h⟩;refine⟨rfl,?_⟩;have hf0:=j9.eq_1 s;refine fun h0=>?_;have h0:(↑s.length:Int)≤(9223372036854775807:Int):=h0.2;refine⟨Int,0,fun(s7:Int)=> [(0,.v ⟨false,[(1,.d .str s)]⟩),(6,.v ⟨false,[(1,.d (.int .i64) (↑s.length:Int))]⟩),(7,.v ⟨false,[(1,.d (.int .i64) s7)]⟩)],fun(s7:Int)=> [],aF (fun(s7:Int)=>((↑s.length:Int)- s7).toNat) (fun(s7:Int)=>((0:Int)≤s7)∧(s7≤(↑s.length:Int))∧True) (fun n1 (s7:Int)=>fo s n1 s7) (fo s (((↑s.length:Int)-(0:Int)).toNat+1) (0:Int)),fun(s7:Int)=>((↑s.length:Int)- s7).toNat,⟨[],(0:Int),aF.mk0 _ (Nat.lt_succ_self _) ⟨show(0:Int)≤(0:Int)from by omega,show(0:Int)≤(↑s.length:Int)from by omega,trivial⟩ rfl,?_⟩,?_⟩
 ·repeat (first|exact trivial|refine And.intro rfl ?_)
 ·rintro s7 ⟨n1,hc1,⟨hi1_0,hi1_1,-⟩,hf1⟩;have hf1:=hf1.trans (fo.eq_2 s s7 n1);refine vI hf1 iD (fun h1 hf1=>?_) (fun h1 hf1=>?_)
  ·refine And.intro (show(0:Int)≤s7∧s7<(↑s.length:Int)from by omega) ?_;refine vI hf1 (iA (iO iD iD) (iO iD iD)) (fun h2 hf1=>?_) (fun h2 hf1=>?_)
   ·rw[hf1]at hf0;rw[hf0]at h;exact h
   ·refine .inl (And.intro (eb (p:=s7) (q:=(1:Int)) (r:=s7+(1:Int)) (by omega)) ?_);have hm1:((↑s.length:Int)-(s7+(1:Int))).toNat<((↑s.length:Int)- s7).toNat:=by omega
    refine⟨[],s7+(1:Int),hm1,aF.next (s:=s7) hc1 hm1 ⟨show(0:Int)≤s7+(1:Int)from by omega,show s7+(1:Int)≤(↑s.length:Int)from by omega,trivial⟩ hf1,?_⟩;repeat (first|exact trivial|refine And.intro rfl ?_)
  ·rw[hf1]at hf0;rw[hf0]at h;exact h
def Jx:bS U:= []
theorem z7:ay Tryz.prog U Jx:=am
def gw(p:List UInt8):Bool:=
 decide ((24:Int)<(↑p.length:Int))
def c232:bZ U:=⟨[.d .str],fun xs es K=> ∃(p:List UInt8),xs= [⟨false,[(1,.d .str p)]⟩]∧es= []∧K (.v ⟨false,[(1,.d .bool (gw p))]⟩) []⟩
theorem Jy:aQ Tryz.prog U 232 c232:=by
 refine aT (fn:=Tryz.f232) z7 aC (by kernel_rfl) Tryz.f232.ntmps [.d .bool] [] (by kernel_rfl) (by kernel_rfl) rfl rfl (by kernel_rfl) (fun xs es K=>?_);rintro⟨p,rfl,rfl,h⟩;refine⟨rfl,?_⟩;have hf0:=gw.eq_1 p;refine fun h0=>?_;have h0:(↑p.length:Int)≤(9223372036854775807:Int):=h0.2;rw[hf0]at h;exact h
def Jz:bS U:= [(234,Gc)]
theorem z8:ay Tryz.prog U Jz:=ae Jw (am)
def fK(s:List UInt8):Bool:=
 !j9 s
def c233:bZ U:=⟨[.d .str],fun xs es K=> ∃(s:List UInt8),xs= [⟨false,[(1,.d .str s)]⟩]∧es= []∧K (.v ⟨false,[(1,.d .bool (fK s))]⟩) []⟩
theorem JA:aQ Tryz.prog U 233 c233:=by
 refine aT (fn:=Tryz.f233) z8 aC (by kernel_rfl) Tryz.f233.ntmps [.d .bool] [] (by kernel_rfl) (by kernel_rfl) rfl rfl (by kernel_rfl) (fun xs es K=>?_);rintro⟨s,rfl,rfl,h⟩;refine⟨rfl,?_⟩;have hf0:=fK.eq_1 s;refine⟨_,rfl,rfl,?_⟩;rw[hf0]at h;exact h
def JB:bS U:= []
theorem Aa:ay Tryz.prog U JB:=am
def eQ(l:List (List UInt8))(f:List UInt8→Bool):Nat→Int→Int⊕(Int)
 |0,s8=> .inr s8
 |n1+1,s8=>
  if s8<(↑l.length:Int)then
   if f (ix l s8)=true then
    .inl s8
   else
    eQ l f n1 (s8+(1:Int))
  else
   .inr s8
def ka(l:List (List UInt8))(f:(List UInt8)→Bool):Int:=
 match eQ l f (((↑l.length:Int)-(0:Int)).toNat+1) (0:Int)with
 | .inl r=>r
 | .inr s8=>
  (-1:Int)
def Gd:bZ U:=⟨[.d (.sl .str),.f1 .str],fun xs es K=> ∃(l:List (List UInt8)) (f:(List UInt8)→Bool),xs= [⟨false,[(1,.d (.sl .str) l)]⟩,⟨false,[(1,.f1 .str f)]⟩]∧es= []∧(∀p∈l,p.length≤1000000)∧K (.v ⟨false,[(1,.d (.int .i64) (ka l f))]⟩) []⟩
theorem JC:aQ Tryz.prog U 292 Gd:=by
 refine aT (fn:=Tryz.f292) Aa aC (by kernel_rfl) Tryz.f292.ntmps [.d (.int .i64)] [] (by kernel_rfl) (by kernel_rfl) rfl rfl (by kernel_rfl) (fun xs es K=>?_);rintro⟨l,f,rfl,rfl,hl,h⟩;refine⟨rfl,?_⟩;have hf0:=ka.eq_1 l f;refine fun h0=>?_;have h0:(↑l.length:Int)≤(9223372036854775807:Int):=h0.2;refine⟨Int,0,fun(s8:Int)=> [(0,.v ⟨false,[(1,.d (.sl .str) l)]⟩),(1,.v ⟨false,[(1,Cx.f1 bj.str f)]⟩),(7,.v ⟨false,[(1,.d (.int .i64) (↑l.length:Int))]⟩),(8,.v ⟨false,[(1,.d (.int .i64) s8)]⟩)],fun(s8:Int)=> [],aF (fun(s8:Int)=>((↑l.length:Int)- s8).toNat) (fun(s8:Int)=>((0:Int)≤s8)∧(s8≤(↑l.length:Int))∧True) (fun n1 (s8:Int)=>eQ l f n1 s8) (eQ l f (((↑l.length:Int)-(0:Int)).toNat+1) (0:Int)),fun(s8:Int)=>((↑l.length:Int)- s8).toNat,⟨[],(0:Int),aF.mk0 _ (Nat.lt_succ_self _) ⟨show(0:Int)≤(0:Int)from by omega,show(0:Int)≤(↑l.length:Int)from by omega,trivial⟩ rfl,?_⟩,?_⟩
 ·repeat (first|exact trivial|refine And.intro rfl ?_)
 ·rintro s8 ⟨n1,hc1,⟨hi1_0,hi1_1,-⟩,hf1⟩;have hf1:=hf1.trans (eQ.eq_2 l f s8 n1);refine vI hf1 iD (fun h1 hf1=>?_) (fun h1 hf1=>?_)
  ·refine And.intro (show(0:Int)≤s8∧s8<(↑l.length:Int)from by omega) ?_;refine And.intro (show(ix l s8).length≤(1000000:Nat)from dK (by assumption) (by omega) (by omega)) ?_;refine vI hf1 iB (fun h2 hf1=>?_) (fun h2 hf1=>?_)
   ·rw[hf1]at hf0;rw[hf0]at h;exact h
   ·refine .inl (And.intro (eb (p:=s8) (q:=(1:Int)) (r:=s8+(1:Int)) (by omega)) ?_);have hm1:((↑l.length:Int)-(s8+(1:Int))).toNat<((↑l.length:Int)- s8).toNat:=by omega
    refine⟨[],s8+(1:Int),hm1,aF.next (s:=s8) hc1 hm1 ⟨show(0:Int)≤s8+(1:Int)from by omega,show s8+(1:Int)≤(↑l.length:Int)from by omega,trivial⟩ hf1,?_⟩;repeat (first|exact trivial|refine And.intro rfl ?_)
  ·rw[hf1]at hf0;rw[hf0]at h;exact h
def JD:bS U:= [(292,Gd)]
theorem Ab:ay Tryz.prog U JD:=ae JC (am)
def d4(l:List (List UInt8))(f:(List UInt8)→Bool):Bool:=
 decide ((0:Int)≤ka l f)
def Ge:bZ U:=⟨[.d (.sl .str),.f1 .str],fun xs es K=> ∃(l:List (List UInt8)) (f:(List UInt8)→Bool),xs= [⟨false,[(1,.d (.sl .str) l)]⟩,⟨false,[(1,.f1 .str f)]⟩]∧es= []∧(∀p∈l,p.length≤1000000)∧K (.v ⟨false,[(1,.d .bool (d4 l f))]⟩) []⟩
theorem JE:aQ Tryz.prog U 231 Ge:=by
 refine aT (fn:=Tryz.f231) Ab aC (by kernel_rfl) Tryz.f231.ntmps [.d .bool] [] (by kernel_rfl) (by kernel_rfl) rfl rfl (by kernel_rfl) (fun xs es K=>?_);rintro⟨l,f,rfl,rfl,hl,h⟩;refine⟨rfl,?_⟩;have hf0:=d4.eq_1 l f;refine⟨_,_,rfl,rfl,(by omega),?_⟩;rw[hf0]at h;exact h
end Go.Proofs.YtfgofabojepcmaaGreatDoor.V
end

section
set_option linter.unusedVariables false
set_option linter.unusedSimpArgs false
set_option maxRecDepth 20000
set_option maxHeartbeats 4000000
namespace Go.Proofs.YtfgofabojepcmaaGreatDoor.V
open Go.RowKit
def JF:bS U:= [(43,E1),(231,Ge),(232,c232),(233,c233)]
theorem Ac:ay Tryz.prog U JF:=ae FR (ae JE (ae Jy (ae JA (am))))
def eR(l:List (List UInt8)):Nat→Int→Int⊕(Int)
 |0,s17=> .inr s17
 |n1+1,s17=>
  if s17<(↑l.length:Int)then
   if(¬ix l s17= [])∧((d4 (Lib.split (ix l s17) [(47:UInt8)]) fun(t:List UInt8)=>fK t)=true)then
    .inl (3:Int)
   else
    eR l n1 (s17+(1:Int))
  else
   .inr s17
def gx(l:List (List UInt8))(most:Int):Int:=
 if(most<(↑l.length:Int))∨((d4 l fun(t:List UInt8)=>gw t)=true)then
  (8:Int)
 else
  match eR l (((↑l.length:Int)-(0:Int)).toNat+1) (0:Int)with
  | .inl r=>r
  | .inr s17=>
   (0:Int)
def Gf:bZ U:=⟨[.d (.sl .str),.d (.int .i64)],fun xs es K=> ∃(l:List (List UInt8)) (most:Int),xs= [⟨false,[(1,.d (.sl .str) l)]⟩,⟨false,[(1,.d (.int .i64) most)]⟩]∧es= []∧(∀p∈l,p.length≤1000000)∧K (.v ⟨false,[(1,.d (.int .i64) (gx l most))]⟩) []⟩
theorem JG:aQ Tryz.prog U 150 Gf:=by
 refine aT (fn:=Tryz.f150) Ac aC (by kernel_rfl) Tryz.f150.ntmps [.d (.int .i64)] [] (by kernel_rfl) (by kernel_rfl) rfl rfl (by kernel_rfl) (fun xs es K=>?_);rintro⟨l,most,rfl,rfl,hl,h⟩;refine⟨rfl,?_⟩;have hf0:=gx.eq_1 l most;refine fun h0=>?_;have h0:(↑l.length:Int)≤(9223372036854775807:Int):=h0.2;refine⟨_,fun h1=>⟨fun(t:List UInt8)=>gw t,fun t0 ht0=>⟨_,rfl,rfl,rfl,rfl⟩,_,_,rfl,rfl,(by omega),rfl,rfl⟩,rfl,?_⟩;refine vI hf0 (iO iD iB) (fun h2 hf0=>?_) (fun h2 hf0=>?_)
 ·rw[hf0]at h;exact h
 ·refine fun h3=>?_;have h3:(↑l.length:Int)≤(9223372036854775807:Int):=h3.2;refine⟨Int,0,fun(s17:Int)=> [(15,.v ⟨false,[(1,.d (.sl .str) l)]⟩),(16,.v ⟨false,[(1,.d (.int .i64) (↑l.length:Int))]⟩),(17,.v ⟨false,[(1,.d (.int .i64) s17)]⟩)],fun(s17:Int)=> [],aF (fun(s17:Int)=>((↑l.length:Int)- s17).toNat) (fun(s17:Int)=>((0:Int)≤s17)∧(s17≤(↑l.length:Int))∧True) (fun n1 (s17:Int)=>eR l n1 s17) (eR l (((↑l.length:Int)-(0:Int)).toNat+1) (0:Int)),fun(s17:Int)=>((↑l.length:Int)- s17).toNat,⟨[],(0:Int),aF.mk0 _ (Nat.lt_succ_self _) ⟨show(0:Int)≤(0:Int)from by omega,show(0:Int)≤(↑l.length:Int)from by omega,trivial⟩ rfl,?_⟩,?_⟩
  ·repeat (first|exact trivial|refine And.intro rfl ?_)
  ·rintro s17 ⟨n1,hc1,⟨hi1_0,hi1_1,-⟩,hf1⟩;have hf1:=hf1.trans (eR.eq_2 l s17 n1);refine vI hf1 iD (fun h4 hf1=>?_) (fun h4 hf1=>?_)
   ·refine And.intro (show(0:Int)≤s17∧s17<(↑l.length:Int)from by omega) ?_;refine⟨_,fun h5=>⟨_,_,rfl,rfl,(dK (by assumption) (by omega) (by omega)),(by(simp only[List.length_append,List.length_cons,List.length_nil];omega)),rfl,rfl⟩,rfl,?_⟩;refine⟨_,fun h6=>⟨fun(t:List UInt8)=>fK t,fun t0 ht0=>⟨_,rfl,rfl,rfl,rfl⟩,_,_,rfl,rfl,(b5 (dK (by assumption) (by omega) (by omega))),rfl,rfl⟩,rfl,?_⟩;refine vI hf1 (iA iD iB) (fun h7 hf1=>?_) (fun h7 hf1=>?_)
    ·rw[hf1]at hf0;rw[hf0]at h;exact h
    ·refine .inl (And.intro (eb (p:=s17) (q:=(1:Int)) (r:=s17+(1:Int)) (by omega)) ?_);have hm1:((↑l.length:Int)-(s17+(1:Int))).toNat<((↑l.length:Int)- s17).toNat:=by omega
     refine⟨[],s17+(1:Int),hm1,aF.next (s:=s17) hc1 hm1 ⟨show(0:Int)≤s17+(1:Int)from by omega,show s17+(1:Int)≤(↑l.length:Int)from by omega,trivial⟩ hf1,?_⟩;repeat (first|exact trivial|refine And.intro rfl ?_)
   ·rw[hf1]at hf0;rw[hf0]at h;exact h
def JH:bS U:= []
theorem Ad:ay Tryz.prog U JH:=am
def d5(s:List UInt8)(p:List UInt8):Bool:=
 decide ((↑p.length:Int)≤(↑s.length:Int))&&decide (List.take (↑p.length:Int).toNat s=p)
def D3:bZ U:=⟨[.d .str,.d .str],fun xs es K=> ∃(s:List UInt8) (p:List UInt8),xs= [⟨false,[(1,.d .str s)]⟩,⟨false,[(1,.d .str p)]⟩]∧es= []∧K (.v ⟨false,[(1,.d .bool (d5 s p))]⟩) []⟩
theorem Gg:aQ Tryz.prog U 375 D3:=by
 refine aT (fn:=Tryz.f375) Ad aC (by kernel_rfl) Tryz.f375.ntmps [.d .bool] [] (by kernel_rfl) (by kernel_rfl) rfl rfl (by kernel_rfl) (fun xs es K=>?_);rintro⟨s,p,rfl,rfl,h⟩;refine⟨rfl,?_⟩;have hf0:=d5.eq_1 s p;refine fun h0=>?_;have h0:(↑s.length:Int)≤(9223372036854775807:Int):=h0.2;refine fun h1=>?_;have h1:(↑p.length:Int)≤(9223372036854775807:Int):=h1.2;refine And.intro (show decide ((↑p.length:Int)≤(↑s.length:Int))=((10:Nat),true).snd→(0:Int)≤(0:Int)∧(0:Int)≤(↑p.length:Int)∧(↑p.length:Int)≤(↑s.length:Int)from by(intro h;simp at h;omega)) ?_;rw[hf0]at h;exact h
def JI:bS U:= [(375,D3)]
theorem Ae:ay Tryz.prog U JI:=ae Gg (am)
def kb(s:List UInt8)(p:List UInt8):Bool:=
 d5 s p
def Gi:bZ U:=⟨[.d .str,.d .str],fun xs es K=> ∃(s:List UInt8) (p:List UInt8),xs= [⟨false,[(1,.d .str s)]⟩,⟨false,[(1,.d .str p)]⟩]∧es= []∧K (.v ⟨false,[(1,.d .bool (kb s p))]⟩) []⟩
theorem JJ:aQ Tryz.prog U 344 Gi:=by
 refine aT (fn:=Tryz.f344) Ae aC (by kernel_rfl) Tryz.f344.ntmps [.d .bool] [] (by kernel_rfl) (by kernel_rfl) rfl rfl (by kernel_rfl) (fun xs es K=>?_);rintro⟨s,p,rfl,rfl,h⟩;refine⟨rfl,?_⟩;have hf0:=kb.eq_1 s p;refine⟨_,_,rfl,rfl,?_⟩;rw[hf0]at h;exact h
def JK:bS U:= [(344,Gi)]
theorem Af:ay Tryz.prog U JK:=ae JJ (am)
def eS(s:List UInt8)(p:List UInt8):Bool:=
 decide (p= [])||decide (s=p)||kb s (p++ [(47:UInt8)])
def Gj:bZ U:=⟨[.d .str,.d .str],fun xs es K=> ∃(s:List UInt8) (p:List UInt8),xs= [⟨false,[(1,.d .str s)]⟩,⟨false,[(1,.d .str p)]⟩]∧es= []∧(p.length≤1000000)∧K (.v ⟨false,[(1,.d .bool (eS s p))]⟩) []⟩
theorem JL:aQ Tryz.prog U 297 Gj:=by
 refine aT (fn:=Tryz.f297) Af aC (by kernel_rfl) Tryz.f297.ntmps [.d .bool] [] (by kernel_rfl) (by kernel_rfl) rfl rfl (by kernel_rfl) (fun xs es K=>?_);rintro⟨s,p,rfl,rfl,hp,h⟩;refine⟨rfl,?_⟩;have hf0:=eS.eq_1 s p;refine And.intro (show(decide (p= [])||decide (s=p))=((12:Nat),false).snd→p.length+ [(47:UInt8)].length≤(9223372036854775807:Nat)from by(simp only[List.length_append,List.length_cons,List.length_nil];omega)) ?_;refine⟨_,fun h0=>⟨_,_,rfl,rfl,rfl,rfl⟩,rfl,?_⟩;rw[hf0]at h;exact h
def JM:bS U:= []
theorem Ag:ay Tryz.prog U JM:=am
def dT(a:List (List UInt8))(b:List (List UInt8)):Nat→Int→Bool⊕(Int)
 |0,s13=> .inr s13
 |n1+1,s13=>
  if s13<(↑a.length:Int)then
   if ix a s13=ix b s13 then
    dT a b n1 (s13+(1:Int))
   else
    .inl false
  else
   .inr s13
def gy(a:List (List UInt8))(b:List (List UInt8)):Bool:=
 if(↑a.length:Int)=(↑b.length:Int)then
  match dT a b (((↑a.length:Int)-(0:Int)).toNat+1) (0:Int)with
  | .inl r=>r
  | .inr s13=>
   true
 else
  false
def Gk:bZ U:=⟨[.d (.sl .str),.d (.sl .str)],fun xs es K=> ∃(a:List (List UInt8)) (b:List (List UInt8)),xs= [⟨false,[(1,.d (.sl .str) a)]⟩,⟨false,[(1,.d (.sl .str) b)]⟩]∧es= []∧K (.v ⟨false,[(1,.d .bool (gy a b))]⟩) []⟩
theorem JN:aQ Tryz.prog U 151 Gk:=by
 refine aT (fn:=Tryz.f151) Ag aC (by kernel_rfl) Tryz.f151.ntmps [.d .bool] [] (by kernel_rfl) (by kernel_rfl) rfl rfl (by kernel_rfl) (fun xs es K=>?_);rintro⟨a,b,rfl,rfl,h⟩;refine⟨rfl,?_⟩;have hf0:=gy.eq_1 a b;refine fun h0=>?_;have h0:(↑a.length:Int)≤(9223372036854775807:Int):=h0.2;refine fun h1=>?_;have h1:(↑b.length:Int)≤(9223372036854775807:Int):=h1.2;refine vN hf0 iD (fun h2 hf0=>?_) (fun h2 hf0=>?_)
 ·rw[hf0]at h;exact h
 ·refine fun h3=>?_;have h3:(↑a.length:Int)≤(9223372036854775807:Int):=h3.2;refine⟨Int,0,fun(s13:Int)=> [(0,.v ⟨false,[(1,.d (.sl .str) a)]⟩),(1,.v ⟨false,[(1,.d (.sl .str) b)]⟩),(12,.v ⟨false,[(1,.d (.int .i64) (↑a.length:Int))]⟩),(13,.v ⟨false,[(1,.d (.int .i64) s13)]⟩)],fun(s13:Int)=> [],aF (fun(s13:Int)=>((↑a.length:Int)- s13).toNat) (fun(s13:Int)=>((0:Int)≤s13)∧(s13≤(↑a.length:Int))∧True) (fun n1 (s13:Int)=>dT a b n1 s13) (dT a b (((↑a.length:Int)-(0:Int)).toNat+1) (0:Int)),fun(s13:Int)=>((↑a.length:Int)- s13).toNat,⟨[],(0:Int),aF.mk0 _ (Nat.lt_succ_self _) ⟨show(0:Int)≤(0:Int)from by omega,show(0:Int)≤(↑a.length:Int)from by omega,trivial⟩ rfl,?_⟩,?_⟩
  ·repeat (first|exact trivial|refine And.intro rfl ?_)
  ·rintro s13 ⟨n1,hc1,⟨hi1_0,hi1_1,-⟩,hf1⟩;have hf1:=hf1.trans (dT.eq_2 a b s13 n1);refine vI hf1 iD (fun h4 hf1=>?_) (fun h4 hf1=>?_)
   ·refine .inl ⟨[(true,0),(true,1),(true,2),(true,3),(true,4),(true,5),(true,6),(true,7),(true,8)],none,[0,1,2,3,4,5,6,7,8,9,10,11],by kernel_rfl,?_⟩;refine And.intro (show(0:Int)≤s13∧s13<(↑a.length:Int)from by omega) ?_;refine And.intro (show(0:Int)≤s13∧s13<(↑b.length:Int)from by omega) ?_;refine vN hf1 iD (fun h5 hf1=>?_) (fun h5 hf1=>?_)
    ·rw[hf1]at hf0;rw[hf0]at h;exact h
    ·refine .inl (And.intro (eb (p:=s13) (q:=(1:Int)) (r:=s13+(1:Int)) (by omega)) ?_);have hm1:((↑a.length:Int)-(s13+(1:Int))).toNat<((↑a.length:Int)- s13).toNat:=by omega
     refine⟨[],s13+(1:Int),hm1,aF.next (s:=s13) hc1 hm1 ⟨show(0:Int)≤s13+(1:Int)from by omega,show s13+(1:Int)≤(↑a.length:Int)from by omega,trivial⟩ hf1,?_⟩;repeat (first|exact trivial|refine And.intro rfl ?_)
   ·rw[hf1]at hf0;rw[hf0]at h;exact h
end Go.Proofs.YtfgofabojepcmaaGreatDoor.V
end

section
set_option linter.unusedVariables false
set_option linter.unusedSimpArgs false
set_option maxRecDepth 20000
set_option maxHeartbeats 4000000
namespace Go.Proofs.YtfgofabojepcmaaGreatDoor.V
open Go.RowKit
def J8:bS U:= [(274,FS),(275,FT)]
theorem AA:ay Tryz.prog U J8:=ae I3 (ae I4 (am))
def aq(s:List UInt8):Int×Bool:=
 (lu s,decide (sK s=dr.nil)&&decide ((0:Int)≤lu s)&&decide (lu s≤(1099511627776:Int))&&decide (Lib.itoa (lu s)=s))
def qm:bZ U:=⟨[.d .str],fun xs es K=> ∃(s:List UInt8),xs= [⟨false,[(1,.d .str s)]⟩]∧es= []∧(s.length≤1000000)∧K (.tup [⟨false,[(1,.d (.int .i64) ((aq s).1))]⟩,⟨false,[(1,.d .bool ((aq s).2))]⟩]) []⟩
theorem rE:aQ Tryz.prog U 198 qm:=by
 refine aT (fn:=Tryz.f198) AA aC (by kernel_rfl) Tryz.f198.ntmps [.d (.int .i64),.d .bool] [] (by kernel_rfl) (by kernel_rfl) rfl rfl (by kernel_rfl) (fun xs es K=>?_);rintro⟨s,rfl,rfl,hs,h⟩;refine⟨rfl,?_⟩;have hf0:=aq.eq_1 s;refine⟨_,rfl,rfl,(by omega),?_⟩;refine⟨_,fun h0=>⟨_,rfl,rfl,rfl,rfl⟩,rfl,?_⟩;rw[hf0]at h;exact h
def J9:bS U:= []
theorem AB:ay Tryz.prog U J9:=am
def fp(s:List UInt8):Nat→Int→Bool⊕(Int)
 |0,e0p=> .inr e0p
 |n1+1,e0p=>
  if e0p<(↑s.length:Int)then
   if((jd s e0p<(97:Int))∨((122:Int)<jd s e0p))∧((jd s e0p<(48:Int))∨((57:Int)<jd s e0p))then
    .inl false
   else
    fp s n1 (e0p+eC s e0p)
  else
   .inr e0p
def ku(s:List UInt8):Bool:=
 match fp s (((↑s.length:Int)-(0:Int)).toNat+1) (0:Int)with
 | .inl r=>r
 | .inr e0p=>
  decide ¬s= []
def GE:bZ U:=⟨[.d .str],fun xs es K=> ∃(s:List UInt8),xs= [⟨false,[(1,.d .str s)]⟩]∧es= []∧K (.v ⟨false,[(1,.d .bool (ku s))]⟩) []⟩
theorem Kb:aQ Tryz.prog U 276 GE:=by
 refine aT (fn:=Tryz.f276) AB aC (by kernel_rfl) Tryz.f276.ntmps [.d .bool] [] (by kernel_rfl) (by kernel_rfl) rfl rfl (by kernel_rfl) (fun xs es K=>?_);rintro⟨s,rfl,rfl,h⟩;refine⟨rfl,?_⟩;have hf0:=ku.eq_1 s;refine⟨Int,1,fun(e0p:Int)=> [(0,.v ⟨false,[(1,.d .str s)]⟩),(6,.v ⟨false,[(1,.ptr 0 0)]⟩)],fun(e0p:Int)=> [(0,.its s e0p)],aF (fun(e0p:Int)=>((s.length:Int)- e0p).toNat) (fun(e0p:Int)=>(0≤e0p)∧True) (fun n1 (e0p:Int)=>fp s n1 e0p) (fp s (((↑s.length:Int)-(0:Int)).toNat+1) (0:Int)),fun(e0p:Int)=>((s.length:Int)- e0p).toNat,⟨[],(0:Int),aF.mk0 _ (Nat.lt_succ_self _) ⟨show(0:Int)≤(0:Int)from by omega,trivial⟩ rfl,?_⟩,?_⟩
 ·repeat (first|exact trivial|refine And.intro rfl ?_)
 ·rintro e0p ⟨n1,hc1,⟨hi1_0,-⟩,hf1⟩;have hf1:=hf1.trans (fp.eq_2 s e0p n1);refine vI hf1 iD (fun h0 hf1=>?_) (fun h0 hf1=>?_)
  ·refine vT iB rfl ?_;refine vI hf1 (iA (iO iD iD) (iO iD iD)) (fun h1 hf1=>?_) (fun h1 hf1=>?_)
   ·rw[hf1]at hf0;rw[hf0]at h;exact h
   ·have hm1:((↑s.length:Int)-(e0p+eC s e0p)).toNat<((↑s.length:Int)- e0p).toNat:=by have:=dO s e0p;omega
    refine⟨[],e0p+eC s e0p,hm1,aF.next (s:=e0p) hc1 hm1 ⟨show(0:Int)≤e0p+eC s e0p from by have:=dO s e0p;omega,trivial⟩ hf1,?_⟩;repeat (first|exact trivial|refine And.intro rfl ?_)
  ·refine vF iB (by simp) ?_;rw[hf1]at hf0;rw[hf0]at h;exact h
theorem rF{s p:List UInt8}(h:d5 s p=true):(0:Int)≤(p.length:Int)∧(p.length:Int)≤(s.length:Int)∧(s.length:Int)≤(s.length:Int):=by
 unfold d5 at h;simp only[Bool.and_eq_true,decide_eq_true_eq]at h;omega
def Ke:bS U:= [(375,D3)]
theorem AC:ay Tryz.prog U Ke:=ae Gg (am)
def eV(s:List UInt8)(p:List UInt8):(List UInt8)×Bool:=
 if d5 s p=true then
  (List.drop (↑p.length:Int).toNat s,true)
 else
  (s,false)
def GF:bZ U:=⟨[.d .str,.d .str],fun xs es K=> ∃(s:List UInt8) (p:List UInt8),xs= [⟨false,[(1,.d .str s)]⟩,⟨false,[(1,.d .str p)]⟩]∧es= []∧K (.tup [⟨false,[(1,.d .str ((eV s p).1))]⟩,⟨false,[(1,.d .bool ((eV s p).2))]⟩]) []⟩
theorem Kg:aQ Tryz.prog U 364 GF:=by
 refine aT (fn:=Tryz.f364) AC aC (by kernel_rfl) Tryz.f364.ntmps [.d .str,.d .bool] [] (by kernel_rfl) (by kernel_rfl) rfl rfl (by kernel_rfl) (fun xs es K=>?_);rintro⟨s,p,rfl,rfl,h⟩;refine⟨rfl,?_⟩;have hf0:=eV.eq_1 s p;refine⟨_,_,rfl,rfl,?_⟩;refine vN hf0 (iN iB) (fun h0 hf0=>?_) (fun h0 hf0=>?_)
 ·rw[hf0]at h;exact h
 ·refine fun h1=>?_;have h1:(↑p.length:Int)≤(9223372036854775807:Int):=h1.2;refine And.intro (show(0:Int)≤(↑p.length:Int)∧(↑p.length:Int)≤(↑s.length:Int)∧(↑s.length:Int)≤(↑s.length:Int)from rF (by first|assumption|exact Classical.not_not.1 (by assumption))) ?_;rw[hf0]at h;exact h
def Kh:bS U:= [(364,GF)]
theorem AD:ay Tryz.prog U Kh:=ae Kg (am)
def cx(s:List UInt8)(p:List UInt8):(List UInt8)×Bool:=
 ((eV s p).fst,(eV s p).snd)
def GG:bZ U:=⟨[.d .str,.d .str],fun xs es K=> ∃(s:List UInt8) (p:List UInt8),xs= [⟨false,[(1,.d .str s)]⟩,⟨false,[(1,.d .str p)]⟩]∧es= []∧K (.tup [⟨false,[(1,.d .str ((cx s p).1))]⟩,⟨false,[(1,.d .bool ((cx s p).2))]⟩]) []⟩
theorem Ki:aQ Tryz.prog U 333 GG:=by
 refine aT (fn:=Tryz.f333) AD aC (by kernel_rfl) Tryz.f333.ntmps [.d .str,.d .bool] [] (by kernel_rfl) (by kernel_rfl) rfl rfl (by kernel_rfl) (fun xs es K=>?_);rintro⟨s,p,rfl,rfl,h⟩;refine⟨rfl,?_⟩;have hf0:=cx.eq_1 s p;refine⟨_,_,rfl,rfl,?_⟩;rw[hf0]at h;exact h
theorem ud(s p:List UInt8):(cx s p).1.length≤s.length:=by
 unfold cx eV;dsimp only;split
 ·rw[List.length_drop];omega
 ·exact Nat.le_refl _
def Kj:bS U:= [(198,qm),(333,GG)]
theorem AE:ay Tryz.prog U Kj:=ae rE (ae Ki (am))
def cV(s:List UInt8):Int×Bool:=
 if(cx s [(45:UInt8)]).snd=true then
  (IntKind.i64.wrap (-(aq (cx s [(45:UInt8)]).fst).fst),(aq (cx s [(45:UInt8)]).fst).snd&&decide ((0:Int)<(aq (cx s [(45:UInt8)]).fst).fst))
 else
  ((aq (cx s [(45:UInt8)]).fst).fst,(aq (cx s [(45:UInt8)]).fst).snd)
def GH:bZ U:=⟨[.d .str],fun xs es K=> ∃(s:List UInt8),xs= [⟨false,[(1,.d .str s)]⟩]∧es= []∧(s.length≤1000000)∧K (.tup [⟨false,[(1,.d (.int .i64) ((cV s).1))]⟩,⟨false,[(1,.d .bool ((cV s).2))]⟩]) []⟩
theorem Kl:aQ Tryz.prog U 277 GH:=by
 refine aT (fn:=Tryz.f277) AE aC (by kernel_rfl) Tryz.f277.ntmps [.d (.int .i64),.d .bool] [] (by kernel_rfl) (by kernel_rfl) rfl rfl (by kernel_rfl) (fun xs es K=>?_);rintro⟨s,rfl,rfl,hs,h⟩;refine⟨rfl,?_⟩;have hf0:=cV.eq_1 s;refine⟨_,_,rfl,rfl,?_⟩;refine⟨_,rfl,rfl,(Nat.le_trans (ud _ _) (by assumption)),?_⟩;refine vI hf0 iB (fun h0 hf0=>?_) (fun h0 hf0=>?_)
 ·refine .inr ?_;rw[hf0]at h;exact h
 ·rw[hf0]at h;exact h
def Km:bS U:= [(43,E1),(276,GE)]
theorem AF:ay Tryz.prog U Km:=ae FR (ae Kb (am))
def cO(s:List UInt8):Nat→Int→((List UInt8)×Bool)⊕(Int)
 |0,s11=> .inr s11
 |n1+1,s11=>
  if s11<(↑(Lib.split s [(47:UInt8)]).length:Int)then
   if ku (ix (Lib.split s [(47:UInt8)]) s11)=true then
    cO s n1 (s11+(1:Int))
   else
    .inl ([],false)
  else
   .inr s11
def bu(s:List UInt8):(List UInt8)×Bool:=
 if s= [(46:UInt8)]then
  ([],true)
 else
  match cO s (((↑(Lib.split s [(47:UInt8)]).length:Int)-(0:Int)).toNat+1) (0:Int)with
  | .inl r=>r
  | .inr s11=>
   (s,decide ((↑s.length:Int)≤(24:Int)))
def ue:bZ U:=⟨[.d .str],fun xs es K=> ∃(s:List UInt8),xs= [⟨false,[(1,.d .str s)]⟩]∧es= []∧(s.length≤1000000)∧K (.tup [⟨false,[(1,.d .str ((bu s).1))]⟩,⟨false,[(1,.d .bool ((bu s).2))]⟩]) []⟩
theorem wY:aQ Tryz.prog U 200 ue:=by
 refine aT (fn:=Tryz.f200) AF aC (by kernel_rfl) Tryz.f200.ntmps [.d .str,.d .bool] [] (by kernel_rfl) (by kernel_rfl) rfl rfl (by kernel_rfl) (fun xs es K=>?_);rintro⟨s,rfl,rfl,hs,h⟩;refine⟨rfl,?_⟩;have hf0:=bu.eq_1 s;refine vI hf0 iD (fun h0 hf0=>?_) (fun h0 hf0=>?_)
 ·rw[hf0]at h;exact h
 ·refine⟨_,_,rfl,rfl,(by omega),(by(simp only[List.length_append,List.length_cons,List.length_nil];omega)),?_⟩;refine fun h1=>?_;have h1:(↑(Lib.split s [(47:UInt8)]).length:Int)≤(9223372036854775807:Int):=h1.2;refine⟨Int,0,fun(s11:Int)=> [(0,.v ⟨false,[(1,.d .str s)]⟩),(9,.v ⟨false,[(1,.d (.sl .str) (Lib.split s [(47:UInt8)]))]⟩),(10,.v ⟨false,[(1,.d (.int .i64) (↑(Lib.split s [(47:UInt8)]).length:Int))]⟩),(11,.v ⟨false,[(1,.d (.int .i64) s11)]⟩)],fun(s11:Int)=> [],aF (fun(s11:Int)=>((↑(Lib.split s [(47:UInt8)]).length:Int)- s11).toNat) (fun(s11:Int)=>((0:Int)≤s11)∧(s11≤(↑(Lib.split s [(47:UInt8)]).length:Int))∧True) (fun n1 (s11:Int)=>cO s n1 s11) (cO s (((↑(Lib.split s [(47:UInt8)]).length:Int)-(0:Int)).toNat+1) (0:Int)),fun(s11:Int)=>((↑(Lib.split s [(47:UInt8)]).length:Int)- s11).toNat,⟨[],(0:Int),aF.mk0 _ (Nat.lt_succ_self _) ⟨show(0:Int)≤(0:Int)from by omega,show(0:Int)≤(↑(Lib.split s [(47:UInt8)]).length:Int)from by omega,trivial⟩ rfl,?_⟩,?_⟩
  ·repeat (first|exact trivial|refine And.intro rfl ?_)
  ·rintro s11 ⟨n1,hc1,⟨hi1_0,hi1_1,-⟩,hf1⟩;have hf1:=hf1.trans (cO.eq_2 s s11 n1);refine vI hf1 iD (fun h2 hf1=>?_) (fun h2 hf1=>?_)
   ·refine And.intro (show(0:Int)≤s11∧s11<(↑(Lib.split s [(47:UInt8)]).length:Int)from by omega) ?_;refine⟨_,rfl,rfl,?_⟩;refine vN hf1 (iN iB) (fun h3 hf1=>?_) (fun h3 hf1=>?_)
    ·rw[hf1]at hf0;rw[hf0]at h;exact h
    ·refine .inl (And.intro (eb (p:=s11) (q:=(1:Int)) (r:=s11+(1:Int)) (by omega)) ?_);have hm1:((↑(Lib.split s [(47:UInt8)]).length:Int)-(s11+(1:Int))).toNat<((↑(Lib.split s [(47:UInt8)]).length:Int)- s11).toNat:=by omega
     refine⟨[],s11+(1:Int),hm1,aF.next (s:=s11) hc1 hm1 ⟨show(0:Int)≤s11+(1:Int)from by omega,show s11+(1:Int)≤(↑(Lib.split s [(47:UInt8)]).length:Int)from by omega,trivial⟩ hf1,?_⟩;repeat (first|exact trivial|refine And.intro rfl ?_)
   ·rw[hf1]at hf0;refine fun h4=>?_;have h4:(↑s.length:Int)≤(9223372036854775807:Int):=h4.2;rw[hf0]at h;exact h
end Go.Proofs.YtfgofabojepcmaaGreatDoor.V
end

section
set_option linter.unusedVariables false
set_option linter.unusedSimpArgs false
set_option maxRecDepth 20000
set_option maxHeartbeats 4000000
namespace Go.Proofs.YtfgofabojepcmaaGreatDoor.V
open Go.RowKit
theorem dl{l:List (List UInt8)}{m:Nat}(h: ∀p∈l,p.length≤m)(k:Nat): ∀p∈List.drop k l,p.length≤m:=fun p hp=>h p (List.mem_of_mem_drop hp)
def Kn:bS U:= [(198,qm)]
theorem AG:ay Tryz.prog U Kn:=ae rE (am)
def fT(l:List (List UInt8)):Nat→Int→(List Int)→((List Int)×Bool)⊕(Int×(List Int))
 |0,s13,s6=> .inr (s13,s6)
 |n1+1,s13,s6=>
  if s13<(↑l.length:Int)then
   if(aq (ix l s13)).snd=true then
    fT l n1 (s13+(1:Int)) (s6++ [(aq (ix l s13)).fst])
   else
    .inl ([],false)
  else
   .inr (s13,s6)
def cl(l:List (List UInt8)):(List Int)×Bool:=
 match fT l (((↑l.length:Int)-(0:Int)).toNat+1) (0:Int) ([]:List Int)with
 | .inl r=>r
 | .inr (s13,s6)=>
  (s6,true)
def Eg:bZ U:=⟨[.d (.sl .str),.n],fun xs es K=> ∃(l:List (List UInt8)),xs= [⟨false,[(1,.d (.sl .str) l)]⟩,⟨false,[(1,.fn 198)]⟩]∧es= []∧(l.length≤1000000)∧(∀p∈l,p.length≤1000000)∧K (.tup [⟨false,[(1,.d (.sl (.int .i64)) ((cl l).1))]⟩,⟨false,[(1,.d .bool ((cl l).2))]⟩]) []⟩
theorem GI:aQ Tryz.prog U 197 Eg:=by
 refine aT (fn:=Tryz.f197) AG aC (by kernel_rfl) Tryz.f197.ntmps [.d (.sl (.int .i64)),.d .bool] [] (by kernel_rfl) (by kernel_rfl) rfl rfl (by kernel_rfl) (fun xs es K=>?_);rintro⟨l,rfl,rfl,hl2,hl,h⟩;refine⟨rfl,?_⟩;have hf0:=cl.eq_1 l;refine fun h0=>?_;have h0:(↑l.length:Int)≤(9223372036854775807:Int):=h0.2;refine⟨Int×(List Int),1,fun(s13,s6)=> [(1,.v ⟨false,[(1,Cx.fn (198:FuncId))]⟩),(6,.v ⟨false,[(1,.own 0 0)]⟩),(11,.v ⟨false,[(1,.d (.sl .str) l)]⟩),(12,.v ⟨false,[(1,.d (.int .i64) (↑l.length:Int))]⟩),(13,.v ⟨false,[(1,.d (.int .i64) s13)]⟩)],fun(s13,s6)=> [(0,.row 0 (.int .i64) s6 3)],aF (fun(s13,s6)=>((↑l.length:Int)- s13).toNat) (fun(s13,s6)=>((0:Int)≤s13)∧(s13≤(↑l.length:Int))∧((s6.length:Int)≤s13)∧True) (fun n1 (s13,s6)=>fT l n1 s13 s6) (fT l (((↑l.length:Int)-(0:Int)).toNat+1) (0:Int) ([]:List Int)),fun(s13,s6)=>((↑l.length:Int)- s13).toNat,⟨[],((0:Int),([]:List Int)),aF.mk0 _ (Nat.lt_succ_self _) ⟨show(0:Int)≤(0:Int)from by omega,show(0:Int)≤(↑l.length:Int)from by omega,show(↑[].length:Int)≤(0:Int)from by(simp only[List.length_append,List.length_cons,List.length_nil];omega),trivial⟩ rfl,?_⟩,?_⟩
 ·repeat (first|exact trivial|refine And.intro rfl ?_)
 ·rintro⟨s13,s6⟩ ⟨n1,hc1,⟨hi1_0,hi1_1,hi1_2,-⟩,hf1⟩;have hf1:=hf1.trans (fT.eq_2 l s13 s6 n1);refine vI hf1 iD (fun h1 hf1=>?_) (fun h1 hf1=>?_)
  ·refine And.intro (show(0:Int)≤s13∧s13<(↑l.length:Int)from by omega) ?_;refine⟨_,rfl,rfl,(dK (by assumption) (by omega) (by omega)),?_⟩;refine vN hf1 (iN iB) (fun h2 hf1=>?_) (fun h2 hf1=>?_)
   ·rw[hf1]at hf0;rw[hf0]at h;exact h
   ·refine And.intro (show(s6.length+ [(aq (ix l s13)).fst].length)*(8:Nat)≤(140737488355328:Nat)from by(simp only[List.length_append,List.length_cons,List.length_nil];omega)) ?_;refine .inl (And.intro (eb (p:=s13) (q:=(1:Int)) (r:=s13+(1:Int)) (by omega)) ?_);have hm1:((↑l.length:Int)-(s13+(1:Int))).toNat<((↑l.length:Int)- s13).toNat:=by omega
    refine⟨[],(s13+(1:Int),s6++ [(aq (ix l s13)).fst]),hm1,aF.next (s:=(s13,s6)) hc1 hm1 ⟨show(0:Int)≤s13+(1:Int)from by omega,show s13+(1:Int)≤(↑l.length:Int)from by omega,show(↑(s6++ [(aq (ix l s13)).fst]).length:Int)≤s13+(1:Int)from by(simp only[List.length_append,List.length_cons,List.length_nil];omega),trivial⟩ hf1,?_⟩;repeat (first|exact trivial|refine And.intro rfl ?_)
  ·rw[hf1]at hf0;rw[hf0]at h;exact h
def Ko:bS U:= [(200,ue)]
theorem AH:ay Tryz.prog U Ko:=ae wY (am)
def ew(l:List (List UInt8)):Nat→Int→(List (List UInt8))→((List (List UInt8))×Bool)⊕(Int×(List (List UInt8)))
 |0,s13,s6=> .inr (s13,s6)
 |n1+1,s13,s6=>
  if s13<(↑l.length:Int)then
   if(bu (ix l s13)).snd=true then
    ew l n1 (s13+(1:Int)) (s6++ [(bu (ix l s13)).fst])
   else
    .inl ([],false)
  else
   .inr (s13,s6)
def bV(l:List (List UInt8)):(List (List UInt8))×Bool:=
 match ew l (((↑l.length:Int)-(0:Int)).toNat+1) (0:Int) ([]:List (List UInt8))with
 | .inl r=>r
 | .inr (s13,s6)=>
  (s6,true)
def AI:bZ U:=⟨[.d (.sl .str),.n],fun xs es K=> ∃(l:List (List UInt8)),xs= [⟨false,[(1,.d (.sl .str) l)]⟩,⟨false,[(1,.fn 200)]⟩]∧es= []∧(l.length≤1000000)∧(∀p∈l,p.length≤1000000)∧K (.tup [⟨false,[(1,.d (.sl .str) ((bV l).1))]⟩,⟨false,[(1,.d .bool ((bV l).2))]⟩]) []⟩
theorem Eh:aQ Tryz.prog U 199 AI:=by
 refine aT (fn:=Tryz.f199) AH aC (by kernel_rfl) Tryz.f199.ntmps [.d (.sl .str),.d .bool] [] (by kernel_rfl) (by kernel_rfl) rfl rfl (by kernel_rfl) (fun xs es K=>?_);rintro⟨l,rfl,rfl,hl2,hl,h⟩;refine⟨rfl,?_⟩;have hf0:=bV.eq_1 l;refine fun h0=>?_;have h0:(↑l.length:Int)≤(9223372036854775807:Int):=h0.2;refine⟨Int×(List (List UInt8)),1,fun(s13,s6)=> [(1,.v ⟨false,[(1,Cx.fn (200:FuncId))]⟩),(6,.v ⟨false,[(1,.own 0 0)]⟩),(11,.v ⟨false,[(1,.d (.sl .str) l)]⟩),(12,.v ⟨false,[(1,.d (.int .i64) (↑l.length:Int))]⟩),(13,.v ⟨false,[(1,.d (.int .i64) s13)]⟩)],fun(s13,s6)=> [(0,.row 0 .str s6 9)],aF (fun(s13,s6)=>((↑l.length:Int)- s13).toNat) (fun(s13,s6)=>((0:Int)≤s13)∧(s13≤(↑l.length:Int))∧((s6.length:Int)≤s13)∧True) (fun n1 (s13,s6)=>ew l n1 s13 s6) (ew l (((↑l.length:Int)-(0:Int)).toNat+1) (0:Int) ([]:List (List UInt8))),fun(s13,s6)=>((↑l.length:Int)- s13).toNat,⟨[],((0:Int),([]:List (List UInt8))),aF.mk0 _ (Nat.lt_succ_self _) ⟨show(0:Int)≤(0:Int)from by omega,show(0:Int)≤(↑l.length:Int)from by omega,show(↑[].length:Int)≤(0:Int)from by(simp only[List.length_append,List.length_cons,List.length_nil];omega),trivial⟩ rfl,?_⟩,?_⟩
 ·repeat (first|exact trivial|refine And.intro rfl ?_)
 ·rintro⟨s13,s6⟩ ⟨n1,hc1,⟨hi1_0,hi1_1,hi1_2,-⟩,hf1⟩;have hf1:=hf1.trans (ew.eq_2 l s13 s6 n1);refine vI hf1 iD (fun h1 hf1=>?_) (fun h1 hf1=>?_)
  ·refine And.intro (show(0:Int)≤s13∧s13<(↑l.length:Int)from by omega) ?_;refine⟨_,rfl,rfl,(dK (by assumption) (by omega) (by omega)),?_⟩;refine vN hf1 (iN iB) (fun h2 hf1=>?_) (fun h2 hf1=>?_)
   ·rw[hf1]at hf0;rw[hf0]at h;exact h
   ·refine And.intro (show(s6.length+ [(bu (ix l s13)).fst].length)*(16:Nat)≤(140737488355328:Nat)from by(simp only[List.length_append,List.length_cons,List.length_nil];omega)) ?_;refine .inl (And.intro (eb (p:=s13) (q:=(1:Int)) (r:=s13+(1:Int)) (by omega)) ?_);have hm1:((↑l.length:Int)-(s13+(1:Int))).toNat<((↑l.length:Int)- s13).toNat:=by omega
    refine⟨[],(s13+(1:Int),s6++ [(bu (ix l s13)).fst]),hm1,aF.next (s:=(s13,s6)) hc1 hm1 ⟨show(0:Int)≤s13+(1:Int)from by omega,show s13+(1:Int)≤(↑l.length:Int)from by omega,show(↑(s6++ [(bu (ix l s13)).fst]).length:Int)≤s13+(1:Int)from by(simp only[List.length_append,List.length_cons,List.length_nil];omega),trivial⟩ hf1,?_⟩;repeat (first|exact trivial|refine And.intro rfl ?_)
  ·rw[hf1]at hf0;rw[hf0]at h;exact h
def Kp:bS U:= [(43,E1),(329,FU)]
theorem AJ:ay Tryz.prog U Kp:=ae FR (ae I5 (am))
def fq(list:List UInt8)(word:List UInt8):Nat→Int→(Int×(List UInt8))⊕(Int)
 |0,s14=> .inr s14
 |n1+1,s14=>
  if s14<(↑(Lib.split list [(44:UInt8)]).length:Int)then
   if((Lib.cut (ix (Lib.split list [(44:UInt8)]) s14) [(32:UInt8)]).fst=word)∧(¬(Lib.cut (ix (Lib.split list [(44:UInt8)]) s14) [(32:UInt8)]).snd.fst= [(45:UInt8)])then
    .inl ((s14,(Lib.cut (ix (Lib.split list [(44:UInt8)]) s14) [(32:UInt8)]).snd.fst))
   else
    fq list word n1 (s14+(1:Int))
  else
   .inr s14
def dG(list:List UInt8)(word:List UInt8):Int×(List UInt8):=
 match fq list word (((↑(Lib.split list [(44:UInt8)]).length:Int)-(0:Int)).toNat+1) (0:Int)with
 | .inl r=>r
 | .inr s14=>
  ((-1:Int),[])
def GJ:bZ U:=⟨[.d .str,.d .str],fun xs es K=> ∃(list:List UInt8) (word:List UInt8),xs= [⟨false,[(1,.d .str list)]⟩,⟨false,[(1,.d .str word)]⟩]∧es= []∧(list.length≤100000)∧K (.tup [⟨false,[(1,.d (.int .i64) ((dG list word).1))]⟩,⟨false,[(1,.d .str ((dG list word).2))]⟩]) []⟩
theorem Kq:aQ Tryz.prog U 273 GJ:=by
 refine aT (fn:=Tryz.f273) AJ aC (by kernel_rfl) Tryz.f273.ntmps [.d (.int .i64),.d .str] [] (by kernel_rfl) (by kernel_rfl) rfl rfl (by kernel_rfl) (fun xs es K=>?_);rintro⟨list,word,rfl,rfl,hs,h⟩;refine⟨rfl,?_⟩;have hf0:=dG.eq_1 list word;refine⟨_,_,rfl,rfl,(by omega),(by(simp only[List.length_append,List.length_cons,List.length_nil];omega)),?_⟩;refine fun h0=>?_;have h0:(↑(Lib.split list [(44:UInt8)]).length:Int)≤(9223372036854775807:Int):=h0.2;refine⟨Int,0,fun(s14:Int)=> [(1,.v ⟨false,[(1,.d .str word)]⟩),(12,.v ⟨false,[(1,.d (.sl .str) (Lib.split list [(44:UInt8)]))]⟩),(13,.v ⟨false,[(1,.d (.int .i64) (↑(Lib.split list [(44:UInt8)]).length:Int))]⟩),(14,.v ⟨false,[(1,.d (.int .i64) s14)]⟩)],fun(s14:Int)=> [],aF (fun(s14:Int)=>((↑(Lib.split list [(44:UInt8)]).length:Int)- s14).toNat) (fun(s14:Int)=>((0:Int)≤s14)∧(s14≤(↑(Lib.split list [(44:UInt8)]).length:Int))∧True) (fun n1 (s14:Int)=>fq list word n1 s14) (fq list word (((↑(Lib.split list [(44:UInt8)]).length:Int)-(0:Int)).toNat+1) (0:Int)),fun(s14:Int)=>((↑(Lib.split list [(44:UInt8)]).length:Int)- s14).toNat,⟨[],(0:Int),aF.mk0 _ (Nat.lt_succ_self _) ⟨show(0:Int)≤(0:Int)from by omega,show(0:Int)≤(↑(Lib.split list [(44:UInt8)]).length:Int)from by omega,trivial⟩ rfl,?_⟩,?_⟩
 ·repeat (first|exact trivial|refine And.intro rfl ?_)
 ·rintro s14 ⟨n1,hc1,⟨hi1_0,hi1_1,-⟩,hf1⟩;have hf1:=hf1.trans (fq.eq_2 list word s14 n1);refine vI hf1 iD (fun h1 hf1=>?_) (fun h1 hf1=>?_)
  ·refine And.intro (show(0:Int)≤s14∧s14<(↑(Lib.split list [(44:UInt8)]).length:Int)from by omega) ?_;refine⟨_,_,rfl,rfl,(Nat.le_trans (dK (b5 (by assumption)) (by omega) (by omega)) (by decide)),?_⟩;refine vI hf1 (iA iD iD) (fun h2 hf1=>?_) (fun h2 hf1=>?_)
   ·rw[hf1]at hf0;rw[hf0]at h;exact h
   ·refine .inl (And.intro (eb (p:=s14) (q:=(1:Int)) (r:=s14+(1:Int)) (by omega)) ?_);have hm1:((↑(Lib.split list [(44:UInt8)]).length:Int)-(s14+(1:Int))).toNat<((↑(Lib.split list [(44:UInt8)]).length:Int)- s14).toNat:=by omega
    refine⟨[],s14+(1:Int),hm1,aF.next (s:=s14) hc1 hm1 ⟨show(0:Int)≤s14+(1:Int)from by omega,show s14+(1:Int)≤(↑(Lib.split list [(44:UInt8)]).length:Int)from by omega,trivial⟩ hf1,?_⟩;repeat (first|exact trivial|refine And.intro rfl ?_)
  ·rw[hf1]at hf0;rw[hf0]at h;exact h
def Kr:bS U:= [(273,GJ)]
theorem AK:ay Tryz.prog U Kr:=ae Kq (am)
def ar(word:List UInt8):ax×(List UInt8)×Bool:=
 if(0:Int)≤(dG (([(98:UInt8),(101:UInt8),(103:UInt8),(105:UInt8),(110:UInt8),(32:UInt8),(78:UInt8),(44:UInt8),(114:UInt8),(101:UInt8),(97:UInt8),(100:UInt8),(32:UInt8),(78:UInt8),(75:UInt8),(44:UInt8),(45:UInt8),(32:UInt8),(45:UInt8),(44:UInt8),(99:UInt8),(111:UInt8),(109:UInt8),(109:UInt8),(105:UInt8),(116:UInt8),(32:UInt8),(78:UInt8),(44:UInt8),(97:UInt8),(98:UInt8),(111:UInt8),(114:UInt8),(116:UInt8),(32:UInt8),(78:UInt8),(44:UInt8),(114:UInt8),(117:UInt8),(110:UInt8),(32:UInt8),(78:UInt8),(44:UInt8),(104:UInt8),(101:UInt8),(108:UInt8),(108:UInt8),(111:UInt8),(32:UInt8),(78:UInt8),(116:UInt8),(44:UInt8),(112:UInt8)].append [(117:UInt8),(115:UInt8),(104:UInt8),(32:UInt8),(78:UInt8),(116:UInt8),(44:UInt8),(97:UInt8),(115:UInt8),(107:UInt8),(32:UInt8),(78:UInt8),(116:UInt8),(44:UInt8),(99:UInt8),(111:UInt8),(109:UInt8),(101:UInt8),(32:UInt8),(105:UInt8),(44:UInt8),(108:UInt8),(111:UInt8),(115:UInt8),(101:UInt8),(32:UInt8),(105:UInt8),(44:UInt8),(100:UInt8),(111:UInt8),(117:UInt8),(98:UInt8),(108:UInt8),(101:UInt8),(32:UInt8),(105:UInt8),(44:UInt8),(112:UInt8),(97:UInt8),(105:UInt8),(110:UInt8),(116:UInt8),(32:UInt8),(78:UInt8),(105:UInt8),(44:UInt8),(115:UInt8),(121:UInt8),(110:UInt8),(99:UInt8),(32:UInt8),(78:UInt8),(44:UInt8)]).append ([(116:UInt8),(114:UInt8),(105:UInt8),(109:UInt8),(32:UInt8),(78:UInt8),(44:UInt8),(97:UInt8),(114:UInt8),(109:UInt8),(32:UInt8),(78:UInt8),(105:UInt8),(44:UInt8),(102:UInt8),(97:UInt8),(105:UInt8),(108:UInt8),(32:UInt8),(78:UInt8),(76:UInt8),(44:UInt8),(119:UInt8),(97:UInt8),(110:UInt8),(116:UInt8),(32:UInt8),(78:UInt8),(80:UInt8),(44:UInt8),(102:UInt8),(111:UInt8),(114:UInt8),(103:UInt8),(101:UInt8),(116:UInt8),(32:UInt8),(78:UInt8),(70:UInt8),(44:UInt8),(109:UInt8),(111:UInt8),(118:UInt8),(101:UInt8),(32:UInt8),(78:UInt8),(116:UInt8),(44:UInt8),(108:UInt8),(101:UInt8),(97:UInt8),(100:UInt8),(32:UInt8)].append [(78:UInt8),(105:UInt8),(44:UInt8),(115:UInt8),(101:UInt8),(97:UInt8),(108:UInt8),(32:UInt8),(78:UInt8),(76:UInt8),(44:UInt8),(104:UInt8),(111:UInt8),(108:UInt8),(100:UInt8),(32:UInt8),(78:UInt8),(116:UInt8),(44:UInt8),(106:UInt8),(111:UInt8),(105:UInt8),(110:UInt8),(32:UInt8),(78:UInt8),(116:UInt8),(44:UInt8),(108:UInt8),(101:UInt8),(97:UInt8),(114:UInt8),(110:UInt8),(32:UInt8),(78:UInt8),(116:UInt8),(44:UInt8),(110:UInt8),(117:UInt8),(100:UInt8),(103:UInt8),(101:UInt8),(32:UInt8),(78:UInt8),(44:UInt8),(114:UInt8),(101:UInt8),(99:UInt8),(111:UInt8),(118:UInt8),(101:UInt8),(114:UInt8),(32:UInt8),(78:UInt8),(105:UInt8)])) word).fst then
  (ax.mk (dG (([(98:UInt8),(101:UInt8),(103:UInt8),(105:UInt8),(110:UInt8),(32:UInt8),(78:UInt8),(44:UInt8),(114:UInt8),(101:UInt8),(97:UInt8),(100:UInt8),(32:UInt8),(78:UInt8),(75:UInt8),(44:UInt8),(45:UInt8),(32:UInt8),(45:UInt8),(44:UInt8),(99:UInt8),(111:UInt8),(109:UInt8),(109:UInt8),(105:UInt8),(116:UInt8),(32:UInt8),(78:UInt8),(44:UInt8),(97:UInt8),(98:UInt8),(111:UInt8),(114:UInt8),(116:UInt8),(32:UInt8),(78:UInt8),(44:UInt8),(114:UInt8),(117:UInt8),(110:UInt8),(32:UInt8),(78:UInt8),(44:UInt8),(104:UInt8),(101:UInt8),(108:UInt8),(108:UInt8),(111:UInt8),(32:UInt8),(78:UInt8),(116:UInt8),(44:UInt8),(112:UInt8)].append [(117:UInt8),(115:UInt8),(104:UInt8),(32:UInt8),(78:UInt8),(116:UInt8),(44:UInt8),(97:UInt8),(115:UInt8),(107:UInt8),(32:UInt8),(78:UInt8),(116:UInt8),(44:UInt8),(99:UInt8),(111:UInt8),(109:UInt8),(101:UInt8),(32:UInt8),(105:UInt8),(44:UInt8),(108:UInt8),(111:UInt8),(115:UInt8),(101:UInt8),(32:UInt8),(105:UInt8),(44:UInt8),(100:UInt8),(111:UInt8),(117:UInt8),(98:UInt8),(108:UInt8),(101:UInt8),(32:UInt8),(105:UInt8),(44:UInt8),(112:UInt8),(97:UInt8),(105:UInt8),(110:UInt8),(116:UInt8),(32:UInt8),(78:UInt8),(105:UInt8),(44:UInt8),(115:UInt8),(121:UInt8),(110:UInt8),(99:UInt8),(32:UInt8),(78:UInt8),(44:UInt8)]).append ([(116:UInt8),(114:UInt8),(105:UInt8),(109:UInt8),(32:UInt8),(78:UInt8),(44:UInt8),(97:UInt8),(114:UInt8),(109:UInt8),(32:UInt8),(78:UInt8),(105:UInt8),(44:UInt8),(102:UInt8),(97:UInt8),(105:UInt8),(108:UInt8),(32:UInt8),(78:UInt8),(76:UInt8),(44:UInt8),(119:UInt8),(97:UInt8),(110:UInt8),(116:UInt8),(32:UInt8),(78:UInt8),(80:UInt8),(44:UInt8),(102:UInt8),(111:UInt8),(114:UInt8),(103:UInt8),(101:UInt8),(116:UInt8),(32:UInt8),(78:UInt8),(70:UInt8),(44:UInt8),(109:UInt8),(111:UInt8),(118:UInt8),(101:UInt8),(32:UInt8),(78:UInt8),(116:UInt8),(44:UInt8),(108:UInt8),(101:UInt8),(97:UInt8),(100:UInt8),(32:UInt8)].append [(78:UInt8),(105:UInt8),(44:UInt8),(115:UInt8),(101:UInt8),(97:UInt8),(108:UInt8),(32:UInt8),(78:UInt8),(76:UInt8),(44:UInt8),(104:UInt8),(111:UInt8),(108:UInt8),(100:UInt8),(32:UInt8),(78:UInt8),(116:UInt8),(44:UInt8),(106:UInt8),(111:UInt8),(105:UInt8),(110:UInt8),(32:UInt8),(78:UInt8),(116:UInt8),(44:UInt8),(108:UInt8),(101:UInt8),(97:UInt8),(114:UInt8),(110:UInt8),(32:UInt8),(78:UInt8),(116:UInt8),(44:UInt8),(110:UInt8),(117:UInt8),(100:UInt8),(103:UInt8),(101:UInt8),(32:UInt8),(78:UInt8),(44:UInt8),(114:UInt8),(101:UInt8),(99:UInt8),(111:UInt8),(118:UInt8),(101:UInt8),(114:UInt8),(32:UInt8),(78:UInt8),(105:UInt8)])) word).fst (0:Int) (0:Int) (0:Int) [] (g8.mk (0:Int) [] (0:Int)) [] [],(dG (([(98:UInt8),(101:UInt8),(103:UInt8),(105:UInt8),(110:UInt8),(32:UInt8),(78:UInt8),(44:UInt8),(114:UInt8),(101:UInt8),(97:UInt8),(100:UInt8),(32:UInt8),(78:UInt8),(75:UInt8),(44:UInt8),(45:UInt8),(32:UInt8),(45:UInt8),(44:UInt8),(99:UInt8),(111:UInt8),(109:UInt8),(109:UInt8),(105:UInt8),(116:UInt8),(32:UInt8),(78:UInt8),(44:UInt8),(97:UInt8),(98:UInt8),(111:UInt8),(114:UInt8),(116:UInt8),(32:UInt8),(78:UInt8),(44:UInt8),(114:UInt8),(117:UInt8),(110:UInt8),(32:UInt8),(78:UInt8),(44:UInt8),(104:UInt8),(101:UInt8),(108:UInt8),(108:UInt8),(111:UInt8),(32:UInt8),(78:UInt8),(116:UInt8),(44:UInt8),(112:UInt8)].append [(117:UInt8),(115:UInt8),(104:UInt8),(32:UInt8),(78:UInt8),(116:UInt8),(44:UInt8),(97:UInt8),(115:UInt8),(107:UInt8),(32:UInt8),(78:UInt8),(116:UInt8),(44:UInt8),(99:UInt8),(111:UInt8),(109:UInt8),(101:UInt8),(32:UInt8),(105:UInt8),(44:UInt8),(108:UInt8),(111:UInt8),(115:UInt8),(101:UInt8),(32:UInt8),(105:UInt8),(44:UInt8),(100:UInt8),(111:UInt8),(117:UInt8),(98:UInt8),(108:UInt8),(101:UInt8),(32:UInt8),(105:UInt8),(44:UInt8),(112:UInt8),(97:UInt8),(105:UInt8),(110:UInt8),(116:UInt8),(32:UInt8),(78:UInt8),(105:UInt8),(44:UInt8),(115:UInt8),(121:UInt8),(110:UInt8),(99:UInt8),(32:UInt8),(78:UInt8),(44:UInt8)]).append ([(116:UInt8),(114:UInt8),(105:UInt8),(109:UInt8),(32:UInt8),(78:UInt8),(44:UInt8),(97:UInt8),(114:UInt8),(109:UInt8),(32:UInt8),(78:UInt8),(105:UInt8),(44:UInt8),(102:UInt8),(97:UInt8),(105:UInt8),(108:UInt8),(32:UInt8),(78:UInt8),(76:UInt8),(44:UInt8),(119:UInt8),(97:UInt8),(110:UInt8),(116:UInt8),(32:UInt8),(78:UInt8),(80:UInt8),(44:UInt8),(102:UInt8),(111:UInt8),(114:UInt8),(103:UInt8),(101:UInt8),(116:UInt8),(32:UInt8),(78:UInt8),(70:UInt8),(44:UInt8),(109:UInt8),(111:UInt8),(118:UInt8),(101:UInt8),(32:UInt8),(78:UInt8),(116:UInt8),(44:UInt8),(108:UInt8),(101:UInt8),(97:UInt8),(100:UInt8),(32:UInt8)].append [(78:UInt8),(105:UInt8),(44:UInt8),(115:UInt8),(101:UInt8),(97:UInt8),(108:UInt8),(32:UInt8),(78:UInt8),(76:UInt8),(44:UInt8),(104:UInt8),(111:UInt8),(108:UInt8),(100:UInt8),(32:UInt8),(78:UInt8),(116:UInt8),(44:UInt8),(106:UInt8),(111:UInt8),(105:UInt8),(110:UInt8),(32:UInt8),(78:UInt8),(116:UInt8),(44:UInt8),(108:UInt8),(101:UInt8),(97:UInt8),(114:UInt8),(110:UInt8),(32:UInt8),(78:UInt8),(116:UInt8),(44:UInt8),(110:UInt8),(117:UInt8),(100:UInt8),(103:UInt8),(101:UInt8),(32:UInt8),(78:UInt8),(44:UInt8),(114:UInt8),(101:UInt8),(99:UInt8),(111:UInt8),(118:UInt8),(101:UInt8),(114:UInt8),(32:UInt8),(78:UInt8),(105:UInt8)])) word).snd,true)
 else
  if(0:Int)≤(dG [(115:UInt8),(101:UInt8),(116:UInt8),(32:UInt8),(78:UInt8),(75:UInt8),(83:UInt8),(44:UInt8),(99:UInt8),(111:UInt8),(117:UInt8),(110:UInt8),(116:UInt8),(32:UInt8),(78:UInt8),(75:UInt8),(83:UInt8),(44:UInt8),(101:UInt8),(110:UInt8),(116:UInt8),(101:UInt8),(114:UInt8),(32:UInt8),(78:UInt8),(75:UInt8),(87:UInt8),(44:UInt8),(108:UInt8),(101:UInt8),(97:UInt8),(118:UInt8),(101:UInt8),(32:UInt8),(78:UInt8),(75:UInt8),(87:UInt8),(44:UInt8),(112:UInt8),(117:UInt8),(116:UInt8),(32:UInt8),(78:UInt8),(75:UInt8),(87:UInt8),(83:UInt8),(44:UInt8),(116:UInt8),(97:UInt8),(107:UInt8),(101:UInt8),(32:UInt8),(78:UInt8),(75:UInt8),(87:UInt8)] word).fst then
   (ax.mk (2:Int) (0:Int) (0:Int) (0:Int) [] (g8.mk (IntKind.i64.wrap ((1:Int)+(dG [(115:UInt8),(101:UInt8),(116:UInt8),(32:UInt8),(78:UInt8),(75:UInt8),(83:UInt8),(44:UInt8),(99:UInt8),(111:UInt8),(117:UInt8),(110:UInt8),(116:UInt8),(32:UInt8),(78:UInt8),(75:UInt8),(83:UInt8),(44:UInt8),(101:UInt8),(110:UInt8),(116:UInt8),(101:UInt8),(114:UInt8),(32:UInt8),(78:UInt8),(75:UInt8),(87:UInt8),(44:UInt8),(108:UInt8),(101:UInt8),(97:UInt8),(118:UInt8),(101:UInt8),(32:UInt8),(78:UInt8),(75:UInt8),(87:UInt8),(44:UInt8),(112:UInt8),(117:UInt8),(116:UInt8),(32:UInt8),(78:UInt8),(75:UInt8),(87:UInt8),(83:UInt8),(44:UInt8),(116:UInt8),(97:UInt8),(107:UInt8),(101:UInt8),(32:UInt8),(78:UInt8),(75:UInt8),(87:UInt8)] word).fst)) [] (0:Int)) [] [],(dG [(115:UInt8),(101:UInt8),(116:UInt8),(32:UInt8),(78:UInt8),(75:UInt8),(83:UInt8),(44:UInt8),(99:UInt8),(111:UInt8),(117:UInt8),(110:UInt8),(116:UInt8),(32:UInt8),(78:UInt8),(75:UInt8),(83:UInt8),(44:UInt8),(101:UInt8),(110:UInt8),(116:UInt8),(101:UInt8),(114:UInt8),(32:UInt8),(78:UInt8),(75:UInt8),(87:UInt8),(44:UInt8),(108:UInt8),(101:UInt8),(97:UInt8),(118:UInt8),(101:UInt8),(32:UInt8),(78:UInt8),(75:UInt8),(87:UInt8),(44:UInt8),(112:UInt8),(117:UInt8),(116:UInt8),(32:UInt8),(78:UInt8),(75:UInt8),(87:UInt8),(83:UInt8),(44:UInt8),(116:UInt8),(97:UInt8),(107:UInt8),(101:UInt8),(32:UInt8),(78:UInt8),(75:UInt8),(87:UInt8)] word).snd,true)
  else
   (ax.mk (0:Int) (0:Int) (0:Int) (0:Int) [] (g8.mk (0:Int) [] (0:Int)) [] [],(dG [(115:UInt8),(97:UInt8),(121:UInt8),(32:UInt8),(78:UInt8),(75:UInt8),(44:UInt8),(99:UInt8),(97:UInt8),(108:UInt8),(109:UInt8),(32:UInt8),(46:UInt8),(44:UInt8),(100:UInt8),(114:UInt8),(97:UInt8),(105:UInt8),(110:UInt8),(32:UInt8),(46:UInt8),(44:UInt8),(114:UInt8),(111:UInt8),(117:UInt8),(110:UInt8),(100:UInt8),(32:UInt8),(46:UInt8),(44:UInt8),(115:UInt8),(101:UInt8),(116:UInt8),(116:UInt8),(108:UInt8),(101:UInt8),(32:UInt8),(105:UInt8),(44:UInt8),(118:UInt8),(101:UInt8),(99:UInt8),(32:UInt8),(78:UInt8)] word).snd,decide ((0:Int)≤(dG [(115:UInt8),(97:UInt8),(121:UInt8),(32:UInt8),(78:UInt8),(75:UInt8),(44:UInt8),(99:UInt8),(97:UInt8),(108:UInt8),(109:UInt8),(32:UInt8),(46:UInt8),(44:UInt8),(100:UInt8),(114:UInt8),(97:UInt8),(105:UInt8),(110:UInt8),(32:UInt8),(46:UInt8),(44:UInt8),(114:UInt8),(111:UInt8),(117:UInt8),(110:UInt8),(100:UInt8),(32:UInt8),(46:UInt8),(44:UInt8),(115:UInt8),(101:UInt8),(116:UInt8),(116:UInt8),(108:UInt8),(101:UInt8),(32:UInt8),(105:UInt8),(44:UInt8),(118:UInt8),(101:UInt8),(99:UInt8),(32:UInt8),(78:UInt8)] word).fst))
def GK:bZ U:=⟨[.d .str],fun xs es K=> ∃(word:List UInt8),xs= [⟨false,[(1,.d .str word)]⟩]∧es= []∧K (.tup [⟨true,[(10,.d (.st 4) ((ar word).1))]⟩,⟨false,[(1,.d .str ((ar word).2.1))]⟩,⟨false,[(1,.d .bool ((ar word).2.2))]⟩]) []⟩
theorem Ks:aQ Tryz.prog U 196 GK:=by
 refine aT (fn:=Tryz.f196) AK aC (by kernel_rfl) Tryz.f196.ntmps [.d (.st 4),.d .str,.d .bool] [] (by kernel_rfl) (by kernel_rfl) rfl rfl (by kernel_rfl) (fun xs es K=>?_);rintro⟨word,rfl,rfl,h⟩;refine⟨rfl,?_⟩;have hf0:=ar.eq_1 word;refine⟨_,_,rfl,rfl,(by simp),?_⟩;refine vI hf0 iD (fun h0 hf0=>?_) (fun h0 hf0=>?_)
 ·rw[hf0]at h;exact h
 ·refine⟨_,_,rfl,rfl,(by(simp only[List.length_append,List.length_cons,List.length_nil];omega)),?_⟩;refine vI hf0 iD (fun h1 hf0=>?_) (fun h1 hf0=>?_)
  ·refine .inr ?_;rw[hf0]at h;exact h
  ·refine⟨_,_,rfl,rfl,(by(simp only[List.length_append,List.length_cons,List.length_nil];omega)),?_⟩;rw[hf0]at h;exact h
end Go.Proofs.YtfgofabojepcmaaGreatDoor.V
end

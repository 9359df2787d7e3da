/- Functions walked: printed by the walker. -/
import Derived.Test.YtfgofabojepcmaaGreatDoorSp15
import Derived.Test.YtfgofabojepcmaaGreatDoorSp13
section
set_option linter.unusedVariables false
set_option linter.unusedSimpArgs false
set_option maxRecDepth 20000
set_option maxHeartbeats 4000000
namespace Go.Proofs.YtfgofabojepcmaaGreatDoor.V
open Go.RowKit
def JO:bS U:= []
theorem Ah:ay Tryz.prog U JO:=am
def ck(s:List UInt8):Nat→Int→Int→Int⊕(Int×Int)
 |0,s3,s4=> .inr (s3,s4)
 |n1+1,s3,s4=>
  if s4<(↑s.length:Int)then
   if(((97:Int)≤(↑(ix s s4).toNat:Int))∧((↑(ix s s4).toNat:Int)≤(122:Int)))∨(((48:Int)≤(↑(ix s s4).toNat:Int))∧((↑(ix s s4).toNat:Int)≤(57:Int)))then
    ck s n1 (IntKind.i64.wrap (s3+(1:Int))) (s4+(1:Int))
   else
    if((↑(ix s s4).toNat:Int)=(47:Int))∧((0:Int)<s3)then
     ck s n1 (0:Int) (s4+(1:Int))
    else
     .inl (3:Int)
  else
   .inr (s3,s4)
def co(s:List UInt8):Int:=
 if(24:Int)<(↑s.length:Int)then
  (8:Int)
 else
  match ck s (((↑s.length:Int)-(0:Int)).toNat+1) (0:Int) (0:Int)with
  | .inl r=>r
  | .inr (s3,s4)=>
   if((0:Int)<(↑s.length:Int))∧(s3=(0:Int))then
    (3:Int)
   else
    (0:Int)
def D4:bZ U:=⟨[.d .str],fun xs es K=> ∃(s:List UInt8),xs= [⟨false,[(1,.d .str s)]⟩]∧es= []∧K (.v ⟨false,[(1,.d (.int .i64) (co s))]⟩) []⟩
theorem Gl:aQ Tryz.prog U 242 D4:=by
 refine aT (fn:=Tryz.f242) Ah aC (by kernel_rfl) Tryz.f242.ntmps [.d (.int .i64)] [] (by kernel_rfl) (by kernel_rfl) rfl rfl (by kernel_rfl) (fun xs es K=>?_);rintro⟨s,rfl,rfl,h⟩;refine⟨rfl,?_⟩;have hf0:=co.eq_1 s;refine fun h0=>?_;have h0:(↑s.length:Int)≤(9223372036854775807:Int):=h0.2;refine vI hf0 iD (fun h1 hf0=>?_) (fun h1 hf0=>?_)
 ·rw[hf0]at h;exact h
 ·refine⟨Int×Int,0,fun(s3,s4)=> [(0,.v ⟨false,[(1,.d .str s)]⟩),(3,.v ⟨false,[(1,.d (.int .i64) s3)]⟩),(4,.v ⟨false,[(1,.d (.int .i64) s4)]⟩)],fun(s3,s4)=> [],aF (fun(s3,s4)=>((↑s.length:Int)- s4).toNat) (fun(s3,s4)=>((0:Int)≤s4)∧(s4≤(↑s.length:Int))∧True) (fun n1 (s3,s4)=>ck s n1 s3 s4) (ck s (((↑s.length:Int)-(0:Int)).toNat+1) (0:Int) (0:Int)),fun(s3,s4)=>((↑s.length:Int)- s4).toNat,⟨[],((0:Int),(0:Int)),aF.mk0 _ (Nat.lt_succ_self _) ⟨show(0:Int)≤(0:Int)from by omega,show(0:Int)≤(↑s.length:Int)from by omega,trivial⟩ rfl,?_⟩,?_⟩
  ·repeat (first|exact trivial|refine And.intro rfl ?_)
  ·rintro⟨s3,s4⟩ ⟨n1,hc1,⟨hi1_0,hi1_1,-⟩,hf1⟩;have hf1:=hf1.trans (ck.eq_2 s s3 s4 n1);refine fun h2=>?_;have h2:(↑s.length:Int)≤(9223372036854775807:Int):=h2.2;refine vI hf1 iD (fun h3 hf1=>?_) (fun h3 hf1=>?_)
   ·refine And.intro (show(0:Int)≤s4∧s4<(↑s.length:Int)from by omega) ?_;refine vI hf1 (iO (iA iD iD) (iA iD iD)) (fun h4 hf1=>?_) (fun h4 hf1=>?_)
    ·refine .inr ?_;refine .inl (And.intro (eb (p:=s4) (q:=(1:Int)) (r:=s4+(1:Int)) (by omega)) ?_);have hm1:((↑s.length:Int)-(s4+(1:Int))).toNat<((↑s.length:Int)- s4).toNat:=by omega
     refine⟨[],(IntKind.i64.wrap (s3+(1:Int)),s4+(1:Int)),hm1,aF.next (s:=(s3,s4)) hc1 hm1 ⟨show(0:Int)≤s4+(1:Int)from by omega,show s4+(1:Int)≤(↑s.length:Int)from by omega,trivial⟩ hf1,?_⟩;repeat (first|exact trivial|refine And.intro rfl ?_)
    ·refine vI hf1 (iA iD iD) (fun h5 hf1=>?_) (fun h5 hf1=>?_)
     ·refine .inl (And.intro (eb (p:=s4) (q:=(1:Int)) (r:=s4+(1:Int)) (by omega)) ?_);have hm1:((↑s.length:Int)-(s4+(1:Int))).toNat<((↑s.length:Int)- s4).toNat:=by omega
      refine⟨[],((0:Int),s4+(1:Int)),hm1,aF.next (s:=(s3,s4)) hc1 hm1 ⟨show(0:Int)≤s4+(1:Int)from by omega,show s4+(1:Int)≤(↑s.length:Int)from by omega,trivial⟩ hf1,?_⟩;repeat (first|exact trivial|refine And.intro rfl ?_)
     ·rw[hf1]at hf0;rw[hf0]at h;exact h
   ·rw[hf1]at hf0;refine fun h6=>?_;have h6:(↑s.length:Int)≤(9223372036854775807:Int):=h6.2;refine vI hf0 (iA iD iD) (fun h7 hf0=>?_) (fun h7 hf0=>?_)
    ·rw[hf0]at h;exact h
    ·rw[hf0]at h;exact h
def JP:bS U:= []
theorem Ai:ay Tryz.prog U JP:=am
def dy(s:List UInt8)(p:List UInt8):Bool:=
 decide (p= [])||decide (s=p)||decide ((↑p.length:Int)<(↑s.length:Int))&&decide (List.take (↑p.length:Int).toNat s=p)&&decide ((↑(ix s (↑p.length:Int)).toNat:Int)=(47:Int))
def Gm:bZ U:=⟨[.d .str,.d .str],fun xs es K=> ∃(s:List UInt8) (p:List UInt8),xs= [⟨false,[(1,.d .str s)]⟩,⟨false,[(1,.d .str p)]⟩]∧es= []∧K (.v ⟨false,[(1,.d .bool (dy s p))]⟩) []⟩
theorem JQ:aQ Tryz.prog U 160 Gm:=by
 refine aT (fn:=Tryz.f160) Ai aC (by kernel_rfl) Tryz.f160.ntmps [.d .bool] [] (by kernel_rfl) (by kernel_rfl) rfl rfl (by kernel_rfl) (fun xs es K=>?_);rintro⟨s,p,rfl,rfl,h⟩;refine⟨rfl,?_⟩;have hf0:=dy.eq_1 s p;refine And.intro (show decide ((↑p.length:Int)<(↑s.length:Int))=((18:Nat),true).snd→(decide (p= [])||decide (s=p))=((12:Nat),false).snd→(0:Int)≤(0:Int)∧(0:Int)≤(↑p.length:Int)∧(↑p.length:Int)≤(↑s.length:Int)from by(intro h;simp at h;omega)) ?_;refine And.intro (show(decide ((↑p.length:Int)<(↑s.length:Int))&&decide (List.take (↑p.length:Int).toNat s=p))=((26:Nat),true).snd→(decide (p= [])||decide (s=p))=((12:Nat),false).snd→(0:Int)≤(↑p.length:Int)∧(↑p.length:Int)<(↑s.length:Int)from by(intro h;simp at h;omega)) ?_;rw[hf0]at h;exact h
def JR:bS U:= []
theorem Aj:ay Tryz.prog U JR:=am
def dU(l:List (List UInt8))(most:Int):Nat→Int→Bool⊕(Int)
 |0,s5=> .inr s5
 |n1+1,s5=>
  if s5<(↑l.length:Int)then
   if(24:Int)<(↑(ix l s5).length:Int)then
    .inl true
   else
    dU l most n1 (s5+(1:Int))
  else
   .inr s5
def gz(l:List (List UInt8))(most:Int):Bool:=
 match dU l most (((↑l.length:Int)-(0:Int)).toNat+1) (0:Int)with
 | .inl r=>r
 | .inr s5=>
  decide (most<(↑l.length:Int))
def Gn:bZ U:=⟨[.d (.sl .str),.d (.int .i64)],fun xs es K=> ∃(l:List (List UInt8)) (most:Int),xs= [⟨false,[(1,.d (.sl .str) l)]⟩,⟨false,[(1,.d (.int .i64) most)]⟩]∧es= []∧K (.v ⟨false,[(1,.d .bool (gz l most))]⟩) []⟩
theorem JS:aQ Tryz.prog U 158 Gn:=by
 refine aT (fn:=Tryz.f158) Aj aC (by kernel_rfl) Tryz.f158.ntmps [.d .bool] [] (by kernel_rfl) (by kernel_rfl) rfl rfl (by kernel_rfl) (fun xs es K=>?_);rintro⟨l,most,rfl,rfl,h⟩;refine⟨rfl,?_⟩;have hf0:=gz.eq_1 l most;refine⟨Int,0,fun(s5:Int)=> [(0,.v ⟨false,[(1,.d (.sl .str) l)]⟩),(1,.v ⟨false,[(1,.d (.int .i64) most)]⟩),(5,.v ⟨false,[(1,.d (.int .i64) s5)]⟩)],fun(s5:Int)=> [],aF (fun(s5:Int)=>((↑l.length:Int)- s5).toNat) (fun(s5:Int)=>((0:Int)≤s5)∧(s5≤(↑l.length:Int))∧True) (fun n1 (s5:Int)=>dU l most n1 s5) (dU l most (((↑l.length:Int)-(0:Int)).toNat+1) (0:Int)),fun(s5:Int)=>((↑l.length:Int)- s5).toNat,⟨[],(0:Int),aF.mk0 _ (Nat.lt_succ_self _) ⟨show(0:Int)≤(0:Int)from by omega,show(0:Int)≤(↑l.length:Int)from by omega,trivial⟩ rfl,?_⟩,?_⟩
 ·repeat (first|exact trivial|refine And.intro rfl ?_)
 ·rintro s5 ⟨n1,hc1,⟨hi1_0,hi1_1,-⟩,hf1⟩;have hf1:=hf1.trans (dU.eq_2 l most s5 n1);refine fun h0=>?_;have h0:(↑l.length:Int)≤(9223372036854775807:Int):=h0.2;refine vI hf1 iD (fun h1 hf1=>?_) (fun h1 hf1=>?_)
  ·refine And.intro (show(0:Int)≤s5∧s5<(↑l.length:Int)from by omega) ?_;refine fun h2=>?_;have h2:(↑(ix l s5).length:Int)≤(9223372036854775807:Int):=h2.2;refine vI hf1 iD (fun h3 hf1=>?_) (fun h3 hf1=>?_)
   ·rw[hf1]at hf0;rw[hf0]at h;exact h
   ·refine .inl (And.intro (eb (p:=s5) (q:=(1:Int)) (r:=s5+(1:Int)) (by omega)) ?_);have hm1:((↑l.length:Int)-(s5+(1:Int))).toNat<((↑l.length:Int)- s5).toNat:=by omega
    refine⟨[],s5+(1:Int),hm1,aF.next (s:=s5) hc1 hm1 ⟨show(0:Int)≤s5+(1:Int)from by omega,show s5+(1:Int)≤(↑l.length:Int)from by omega,trivial⟩ hf1,?_⟩;repeat (first|exact trivial|refine And.intro rfl ?_)
  ·rw[hf1]at hf0;refine fun h4=>?_;have h4:(↑l.length:Int)≤(9223372036854775807:Int):=h4.2;rw[hf0]at h;exact h
def JT:bS U:= [(242,D4)]
theorem Ak:ay Tryz.prog U JT:=ae Gl (am)
def cw(l:List (List UInt8)):Nat→Int→Bool⊕(Int)
 |0,s3=> .inr s3
 |n1+1,s3=>
  if s3<(↑l.length:Int)then
   if co (ix l s3)=(0:Int)then
    cw l n1 (s3+(1:Int))
   else
    .inl false
  else
   .inr s3
def dN(l:List (List UInt8)):Bool:=
 match cw l (((↑l.length:Int)-(0:Int)).toNat+1) (0:Int)with
 | .inl r=>r
 | .inr s3=>
  true
def Gp:bZ U:=⟨[.d (.sl .str)],fun xs es K=> ∃(l:List (List UInt8)),xs= [⟨false,[(1,.d (.sl .str) l)]⟩]∧es= []∧K (.v ⟨false,[(1,.d .bool (dN l))]⟩) []⟩
theorem JU:aQ Tryz.prog U 159 Gp:=by
 refine aT (fn:=Tryz.f159) Ak aC (by kernel_rfl) Tryz.f159.ntmps [.d .bool] [] (by kernel_rfl) (by kernel_rfl) rfl rfl (by kernel_rfl) (fun xs es K=>?_);rintro⟨l,rfl,rfl,h⟩;refine⟨rfl,?_⟩;have hf0:=dN.eq_1 l;refine⟨Int,0,fun(s3:Int)=> [(0,.v ⟨false,[(1,.d (.sl .str) l)]⟩),(3,.v ⟨false,[(1,.d (.int .i64) s3)]⟩)],fun(s3:Int)=> [],aF (fun(s3:Int)=>((↑l.length:Int)- s3).toNat) (fun(s3:Int)=>((0:Int)≤s3)∧(s3≤(↑l.length:Int))∧True) (fun n1 (s3:Int)=>cw l n1 s3) (cw l (((↑l.length:Int)-(0:Int)).toNat+1) (0:Int)),fun(s3:Int)=>((↑l.length:Int)- s3).toNat,⟨[],(0:Int),aF.mk0 _ (Nat.lt_succ_self _) ⟨show(0:Int)≤(0:Int)from by omega,show(0:Int)≤(↑l.length:Int)from by omega,trivial⟩ rfl,?_⟩,?_⟩
 ·repeat (first|exact trivial|refine And.intro rfl ?_)
 ·rintro s3 ⟨n1,hc1,⟨hi1_0,hi1_1,-⟩,hf1⟩;have hf1:=hf1.trans (cw.eq_2 l s3 n1);refine fun h0=>?_;have h0:(↑l.length:Int)≤(9223372036854775807:Int):=h0.2;refine vI hf1 iD (fun h1 hf1=>?_) (fun h1 hf1=>?_)
  ·refine And.intro (show(0:Int)≤s3∧s3<(↑l.length:Int)from by omega) ?_;refine⟨_,rfl,rfl,?_⟩;refine vN hf1 iD (fun h2 hf1=>?_) (fun h2 hf1=>?_)
   ·rw[hf1]at hf0;rw[hf0]at h;exact h
   ·refine .inl (And.intro (eb (p:=s3) (q:=(1:Int)) (r:=s3+(1:Int)) (by omega)) ?_);have hm1:((↑l.length:Int)-(s3+(1:Int))).toNat<((↑l.length:Int)- s3).toNat:=by omega
    refine⟨[],s3+(1:Int),hm1,aF.next (s:=s3) hc1 hm1 ⟨show(0:Int)≤s3+(1:Int)from by omega,show s3+(1:Int)≤(↑l.length:Int)from by omega,trivial⟩ hf1,?_⟩;repeat (first|exact trivial|refine And.intro rfl ?_)
  ·rw[hf1]at hf0;rw[hf0]at h;exact h
def Ms:bS U:= [(158,Gn),(159,Gp),(160,Gm)]
theorem D5:ay Tryz.prog U Ms:=ae JS (ae JU (ae JQ (am)))
def cI(l:List (List UInt8))(s3:Int):Nat→Int→Int⊕(Int)
 |0,s4=> .inr s4
 |n2+1,s4=>
  if s4<(↑l.length:Int)then
   if(¬s4=s3)∧(dy (ix l s3) (ix l s4)=true)then
    .inl (3:Int)
   else
    cI l s3 n2 (s4+(1:Int))
  else
   .inr s4
def cJ(l:List (List UInt8)):Nat→Int→Int⊕(Int)
 |0,s3=> .inr s3
 |n1+1,s3=>
  if s3<(↑l.length:Int)then
   if((0:Int)<s3)∧(ix l s3≤ix l (s3 -(1:Int)))then
    .inl (3:Int)
   else
    match cI l s3 (((↑l.length:Int)-(0:Int)).toNat+1) (0:Int)with
    | .inl r=> .inl r
    | .inr s4=>
     cJ l n1 (s3+(1:Int))
  else
   .inr s3
def eT(l:List (List UInt8)):Int:=
 if gz l (16:Int)=true then
  (8:Int)
 else
  if dN l=true then
   match cJ l (((↑l.length:Int)-(0:Int)).toNat+1) (0:Int)with
   | .inl r=>r
   | .inr s3=>
    (0:Int)
  else
   (3:Int)
def LO:bZ U:=⟨[.d (.sl .str)],fun xs es K=> ∃(l:List (List UInt8)),xs= [⟨false,[(1,.d (.sl .str) l)]⟩]∧es= []∧K (.v ⟨false,[(1,.d (.int .i64) (eT l))]⟩) []⟩
theorem Mt:aQ Tryz.prog U 82 LO:=by
 refine aT (fn:=Tryz.f82) D5 aC (by kernel_rfl) Tryz.f82.ntmps [.d (.int .i64)] [] (by kernel_rfl) (by kernel_rfl) rfl rfl (by kernel_rfl) (fun xs es K=>?_);rintro⟨l,rfl,rfl,h⟩;refine⟨rfl,?_⟩;have hf0:=eT.eq_1 l;refine⟨_,_,rfl,rfl,?_⟩;refine vI hf0 iB (fun h0 hf0=>?_) (fun h0 hf0=>?_)
 ·rw[hf0]at h;exact h
 ·refine⟨_,rfl,rfl,?_⟩;refine vN hf0 (iN iB) (fun h1 hf0=>?_) (fun h1 hf0=>?_)
  ·rw[hf0]at h;exact h
  ·refine⟨Int,0,fun(s3:Int)=> [(0,.v ⟨false,[(1,.d (.sl .str) l)]⟩),(3,.v ⟨false,[(1,.d (.int .i64) s3)]⟩)],fun(s3:Int)=> [],aF (fun(s3:Int)=>((↑l.length:Int)- s3).toNat) (fun(s3:Int)=>((0:Int)≤s3)∧(s3≤(↑l.length:Int))∧True) (fun n1 (s3:Int)=>cJ l n1 s3) (cJ l (((↑l.length:Int)-(0:Int)).toNat+1) (0:Int)),fun(s3:Int)=>((↑l.length:Int)- s3).toNat,⟨[],(0:Int),aF.mk0 _ (Nat.lt_succ_self _) ⟨show(0:Int)≤(0:Int)from by omega,show(0:Int)≤(↑l.length:Int)from by omega,trivial⟩ rfl,?_⟩,?_⟩
   ·repeat (first|exact trivial|refine And.intro rfl ?_)
   ·rintro s3 ⟨n1,hc1,⟨hi1_0,hi1_1,-⟩,hf1⟩;have hf1:=hf1.trans (cJ.eq_2 l s3 n1);refine fun h2=>?_;have h2:(↑l.length:Int)≤(9223372036854775807:Int):=h2.2;refine vI hf1 iD (fun h3 hf1=>?_) (fun h3 hf1=>?_)
    ·refine .inl ⟨[(true,0),(true,1),(true,2),(true,3),(true,4),(true,5),(true,6),(true,7),(true,8),(true,9),(true,10),(true,11),(true,12),(true,13)],none,[0,1,2,3,4,5,6,7,8,9,10,11],by kernel_rfl,?_⟩;refine .inl (And.intro (fun(h4:decide ((0:Int)<s3)=((18:Nat),true).snd)=>eb (p:=s3) (q:=(1:Int)) (r:=s3 -(1:Int)) (by omega)) ?_);refine And.intro (show decide ((0:Int)<s3)=((18:Nat),true).snd→(0:Int)≤s3 -(1:Int)∧s3 -(1:Int)<(↑l.length:Int)from by(intro h;simp at h;omega)) ?_;refine And.intro (show decide ((0:Int)<s3)=((18:Nat),true).snd→(0:Int)≤s3∧s3<(↑l.length:Int)from by omega) ?_;refine vI hf1 (iA iD iD) (fun h5 hf1=>?_) (fun h5 hf1=>?_)
     ·rw[hf1]at hf0;rw[hf0]at h;exact h
     ·refine⟨Int,0,fun(s4:Int)=> [(0,.v ⟨false,[(1,.d (.sl .str) l)]⟩),(3,.v ⟨false,[(1,.d (.int .i64) s3)]⟩),(4,.v ⟨false,[(1,.d (.int .i64) s4)]⟩)],fun(s4:Int)=> [],aF (fun(s4:Int)=>((↑l.length:Int)- s4).toNat) (fun(s4:Int)=>((0:Int)≤s4)∧(s4≤(↑l.length:Int))∧True) (fun n2 (s4:Int)=>cI l s3 n2 s4) (cI l s3 (((↑l.length:Int)-(0:Int)).toNat+1) (0:Int)),fun(s4:Int)=>((↑l.length:Int)- s4).toNat,⟨[],(0:Int),aF.mk0 _ (Nat.lt_succ_self _) ⟨show(0:Int)≤(0:Int)from by omega,show(0:Int)≤(↑l.length:Int)from by omega,trivial⟩ rfl,?_⟩,?_⟩
      ·repeat (first|exact trivial|refine And.intro rfl ?_)
      ·rintro s4 ⟨n2,hc2,⟨hi2_0,hi2_1,-⟩,hf2⟩;have hf2:=hf2.trans (cI.eq_2 l s3 s4 n2);refine fun h6=>?_;have h6:(↑l.length:Int)≤(9223372036854775807:Int):=h6.2;refine vI hf2 iD (fun h7 hf2=>?_) (fun h7 hf2=>?_)
       ·refine .inl ⟨[(true,0),(true,1),(true,2),(true,3),(true,4),(true,5),(true,6),(true,7),(true,8),(true,9),(true,10),(true,11),(false,12),(true,13)],none,[0,1,2,3,4,5,6,7,8,9,10,11],by kernel_rfl,?_⟩;refine And.intro (show(decide ¬s4=s3)=((39:Nat),true).snd→(0:Int)≤s3∧s3<(↑l.length:Int)from by omega) ?_;refine And.intro (show(decide ¬s4=s3)=((39:Nat),true).snd→(0:Int)≤s4∧s4<(↑l.length:Int)from by omega) ?_;refine⟨_,fun h8=>⟨_,_,rfl,rfl,rfl,rfl⟩,rfl,?_⟩;refine vI hf2 (iA iD iB) (fun h9 hf2=>?_) (fun h9 hf2=>?_)
        ·rw[hf2]at hf1;rw[hf1]at hf0;rw[hf0]at h;exact h
        ·refine .inl (And.intro (eb (p:=s4) (q:=(1:Int)) (r:=s4+(1:Int)) (by omega)) ?_);have hm2:((↑l.length:Int)-(s4+(1:Int))).toNat<((↑l.length:Int)- s4).toNat:=by omega
         refine⟨[],s4+(1:Int),hm2,aF.next (s:=s4) hc2 hm2 ⟨show(0:Int)≤s4+(1:Int)from by omega,show s4+(1:Int)≤(↑l.length:Int)from by omega,trivial⟩ hf2,?_⟩;repeat (first|exact trivial|refine And.intro rfl ?_)
       ·rw[hf2]at hf1;refine .inl (And.intro (eb (p:=s3) (q:=(1:Int)) (r:=s3+(1:Int)) (by omega)) ?_);have hm1:((↑l.length:Int)-(s3+(1:Int))).toNat<((↑l.length:Int)- s3).toNat:=by omega
        refine⟨[],s3+(1:Int),hm1,aF.next (s:=s3) hc1 hm1 ⟨show(0:Int)≤s3+(1:Int)from by omega,show s3+(1:Int)≤(↑l.length:Int)from by omega,trivial⟩ hf1,?_⟩;repeat (first|exact trivial|refine And.intro rfl ?_)
    ·rw[hf1]at hf0;rw[hf0]at h;exact h
end Go.Proofs.YtfgofabojepcmaaGreatDoor.V
end

section
set_option linter.unusedVariables false
set_option linter.unusedSimpArgs false
namespace Go.Proofs.YtfgofabojepcmaaGreatDoor.V
open Go.RowKit
section
variable {U:bJ}
def Ix:Nat→Nat
 |0=>1
 |v+1=>v+1
def DO(E:List (aN U))(c:Cx U):Cx U:=match c with
 | .own i v=>(match cL E i with
  |some (.row v' _ _ _)=>bif Nat.beq v v' then .own i (Ix v)else .own i v
  |_=> .own i v)
 |c=>c
def DP(E:List (aN U)):List (bH U)→List (bH U)
 | []=> []
 |(k,c)::r=>(k,DO E c)::DP E r
def pY(E:List (aN U))(x:aN U):aN U:=match x with
 | .cells l t=> .cells (DP E l) t
 | .row v e xs t=> .row (Ix v) e xs t
 |x=>x
def hJ(E:List (aN U)):List (aN U)→List (aN U)
 | []=> []
 |x::r=>pY E x::hJ E r
theorem DQ(v:Nat):v≤Ix v:=by cases v<;>simp[Ix]
theorem j5(E:List (aN U)): ∀es:List (aN U),(hJ E es).length=es.length
 | []=>rfl
 |x::r=>by simp[hJ,j5 E r]
theorem nQ(E:List (aN U)): ∀(es:List (aN U)) (j:Nat),(aJ j (hJ E es)).map (·.1)=(aJ j es).map (·.1)
 | [],j=>rfl
 |x::r,j=>by simp only[hJ,aJ,List.map_cons,nQ E r]
theorem oP(E:List (aN U)): ∀(es:List (aN U)) (j i:Nat),aB (aJ j (hJ E es)) i=(aB (aJ j es) i).map (pY E)
 | [],j,i=>rfl
 |x::r,j,i=>by
  simp only[hJ,aJ,aB];cases Nat.beq j i with
  |true=>rfl
  |false=>exact oP E r (j+1) i
theorem ip(E:List (aN U)): ∀(es:List (aN U)) (j:Nat) (p:Nat×aN U),p∈aJ j (hJ E es)→ ∃x,(p.1,x)∈aJ j es∧p.2=pY E x
 | [],j,p,h=>by cases h
 |x::r,j,p,h=>by
  rcases List.mem_cons.1 h with rfl|h
  ·exact⟨x,List.mem_cons_self ..,rfl⟩
  ·obtain⟨y,h1,h2⟩:=ip E r (j+1) p h;exact⟨y,List.mem_cons_of_mem _ h1,h2⟩
theorem pZ(E:List (aN U))(ρ:Nat→Rz)(i:Nat)(x:aN U):dX ρ (i,pY E x)=dX ρ (i,x):=by cases x<;>rfl
theorem v6(E:List (aN U))(ρ:Nat→Rz)(i:Nat)(x:aN U)(g:Nat):Lv ρ (i,pY E x) g↔Lv ρ (i,x) g:=by rw[←eJ,←eJ,pZ]
theorem oQ(E:List (aN U))(ρ:Nat→Rz): ∀(es:List (aN U)) (j:Nat),aj ρ (aJ j (hJ E es))=aj ρ (aJ j es)
 | [],j=>rfl
 |x::r,j=>by
  have:=oQ E ρ r (j+1);unfold aj at this⊢;simp only[hJ,aJ,List.flatMap_cons,pZ,this]
theorem v7: ∀(es:List (aN U)) (j i:Nat),aB (aJ j es) (j+i)=cL es i
 | [],j,i=>rfl
 |x::r,j,0=>by simp[aJ,aB,cL]
 |x::r,j,i+1=>by
  have h:Nat.beq j (j+(i+1))=false:=by
   cases hb:Nat.beq j (j+(i+1))with
   |false=>rfl
   |true=>have:=Nat.eq_of_beq_eq_true hb;omega
  simp only[aJ,aB,cL,h];have:=v7 r (j+1) i
  rwa [show j+1+i=j+(i+1)by omega]at this
theorem v8(E:List (aN U))(x:aN U){v' l m:Nat}(h:bc (some (pY E x))=some (v',l,m)): ∃v,bc (some x)=some (v,l,m)∧v≤v':=by
 cases x with
 |row v e xs t=>simp only[pY,bc,Option.some.injEq,Prod.mk.injEq]at h⊢;obtain⟨rfl,rfl,rfl⟩:=h;exact⟨v,⟨rfl,rfl,rfl⟩,DQ v⟩
 |_=>exact⟨v',h,Nat.le_refl _⟩
end
section
variable [F:al] {U:bJ} {X:List Nat} {w:World} {ρ:Nat→Rz} {n:Nat} {es:List (aN U)}
theorem sH(M:bd U X (· =w) ρ n (aJ 0 es)):bP ρ n (aJ 0 es) w ρ n (aJ 0 (hJ es es)) w:=by
 refine⟨M.xd,Nat.le_refl _,Fr.refl _ _,fun g hg=> .inl (by rwa [oQ]at hg),fun i hi v' l' m' h=>?_,fun _ _ _=>rfl⟩;rw[oP]at h;cases hx:aB (aJ 0 es) i with
 |none=>rw[hx]at h;cases h
 |some x=>
  rw[hx]at h;obtain⟨v,h1,h2⟩:=v8 es x h;exact⟨v,l',m',h1,h2,fun _=>⟨rfl,rfl,rfl⟩⟩
theorem zx(M:bd U X (· =w) ρ n (aJ 0 es)):bd U X (· =w) ρ n (aJ 0 (hJ es es)):=by
 have st:=sH M;have ho:=oQ es ρ es 0;refine⟨by rw[nQ];exact M.nd,fun p hp=>?_,fun p hp=>?_,fun p hp q hq g h1 h2=>?_,by rw[ho];exact M.dj,M.lo,M.xs,M.gv⟩
 ·obtain⟨x,h1,_⟩:=ip es es 0 p hp;exact M.lt (p.1,x) h1
 ·obtain⟨i,y⟩:=p;obtain⟨x,h1,h2⟩:=ip es es 0 (i,y) hp;simp only at h2;subst h2;have he:=M.ent _ h1;have hs:=he.step st rfl (fun _ _=>rfl);cases x with
  |row v e xs t=>exact hs
  |cells l t=>
   obtain⟨g,vs,hA,hsg,hw⟩:=he;refine⟨g,vs,hA,?_,hw⟩;have key: ∀(l:List (bH U)) (vs:List Value),bK (aV U (aj ρ (aJ 0 es)++X) (· =w) ρ n (aJ 0 es)) l vs→bK (aV U (aj ρ (aJ 0 (hJ es es))++X) (· =w) ρ n (aJ 0 (hJ es es))) (DP es l) vs:=by
    intro l;induction l with
    |nil=>intro vs h;exact h
    |cons a l ih=>
     obtain⟨k,c⟩:=a;rintro vs ⟨v1,v2,rfl,hl,hc,hr⟩;refine⟨v1,v2,rfl,hl,?_,ih _ hr⟩;have h0:=aV.step st hc;show aV U _ _ ρ n _ (DO es c) v1
     unfold DO;split
     ·rename_i j v;split
      ·rename_i v' e xs t hn;cases hb:Nat.beq v v' with
       |false=>exact h0
       |true=>
        have hv:=Nat.eq_of_beq_eq_true hb;subst hv;obtain⟨hj,A,ll,cc,e1,hnow⟩:=hc;refine⟨hj,A,ll,cc,e1,fun v2 l2 m2 h2=>?_⟩;have hlk:aB (aJ 0 es) j=some (.row v e xs t):=by rw[←hn,←v7 es 0 j,Nat.zero_add]
        rw[oP,hlk]at h2;simp only[Option.map_some,pY,bc,Option.some.injEq,Prod.mk.injEq]at h2;obtain⟨rfl,rfl,rfl⟩:=h2;exact⟨Nat.le_refl _,fun _=>(hnow v _ _ (by rw[hlk];rfl)).2 rfl⟩
      ·exact h0
     ·exact h0
   exact key l vs hsg
  |_=>exact hs
 ·obtain⟨i,y⟩:=p;obtain⟨j,z⟩:=q;obtain⟨x1,a1,a2⟩:=ip es es 0 (i,y) hp;obtain⟨x2,b1,b2⟩:=ip es es 0 (j,z) hq;simp only at a2 b2;subst a2;subst b2;exact M.inj (i,x1) a1 (j,x2) b1 g ((v6 es ρ i x1 g).1 h1) ((v6 es ρ j x2 g).1 h2)
end
section
variable {U:bJ} {P:Program} {T:cH U} {G:bS U} {fn:Go.Func}
theorem DR{f:FuncId}{c:bZ U}(h:aQ P U f ⟨c.md,fun xs es K'=> ∃K,c.run xs es K∧K'=fun r es=>K r (hJ es es)⟩):aQ P U f c:=fun [F:al] hpr X w ρ es xs vs K M hv hrun=>by
 refine Fn.mono (h hpr X w ρ es xs vs _ M hv ⟨K,hrun,rfl⟩) ?_;rintro v w' ⟨r,es',ρ',hK,a,M',st⟩;have s2:=sH M';have M2:=zx M';refine⟨r,hJ es' es',ρ',hK,?_,?_,?_⟩
 ·rw[j5];exact jg.imp (fun _ _ h=>aV.step s2 h) a
 ·rw[j5];exact M2
 ·rw[j5];exact st.trans s2
theorem mD{f:FuncId}{c:bZ U}{code:Code}(hG:ay P U G)(hT:bl U P T)(hmo:P.follows .mixedOrders=true)(nt:Nat)(md:List Md)(em:List (Nat×List (Nat×Option bj)))(hen:bI P f=true)(hf:P.funcs[f]? =some fn)(hb:fn.body=some code)(hn:fn.ntmps=nt)(hcd:tD nt code=true)
  (h: ∀xs es K,c.run xs es K→Nat.ble xs.length nt=true∧Dl T G fn md em (q8 0 xs) es.length (aJ 0 es) fun r es=>K r (hJ es es)):aQ P U f c:=
 DR (aT (c:=⟨c.md,fun xs es K'=> ∃K,c.run xs es K∧K'=fun r es=>K r (hJ es es)⟩) hG hT hmo nt md em hen hf hb hn hcd fun xs es K' hr=>by
  obtain⟨K,hr,e⟩:=hr;subst e;exact h xs es K hr)
end
end Go.Proofs.YtfgofabojepcmaaGreatDoor.V
end

section
set_option linter.unusedVariables false
set_option linter.unusedSimpArgs false
set_option maxRecDepth 20000
set_option maxHeartbeats 4000000
namespace Go.Proofs.YtfgofabojepcmaaGreatDoor.V
open Go.RowKit
def MP:bS U:= []
theorem EG:ay Tryz.prog U MP:=am
def dn(s:List UInt8)(c:Int):Nat→Int→Int→(List (List UInt8))→(List (List UInt8))⊕(Int×Int×(List (List UInt8)))
 |0,s6,s7,s5=> .inr (s6,s7,s5)
 |n1+1,s6,s7,s5=>
  if s7≤(↑s.length:Int)then
   if(s7=(↑s.length:Int))∨((↑(ix s s7).toNat:Int)=c)then
    dn s c n1 (s7+(1:Int)) (s7+(1:Int)) (s5++ [List.drop s6.toNat (List.take s7.toNat s)])
   else
    dn s c n1 s6 (s7+(1:Int)) s5
  else
   .inr (s6,s7,s5)
def aa(s:List UInt8)(c:Int):List (List UInt8):=
 match dn s c (((↑s.length:Int)+(1:Int)-(0:Int)).toNat+1) (0:Int) (0:Int) ([]:List (List UInt8))with
 | .inl r=>r
 | .inr (s6,s7,s5)=>
  s5
def LY:bZ U:=⟨[.d .str,.d (.int .u8)],fun xs es K=> ∃(s:List UInt8) (c:Int),xs= [⟨false,[(1,.d .str s)]⟩,⟨false,[(1,.d (.int .u8) c)]⟩]∧es= []∧(s.length≤100000)∧K (.v ⟨false,[(1,.d (.sl .str) (aa s c))]⟩) []⟩
theorem MQ:aQ Tryz.prog U 45 LY:=by
 refine aT (fn:=Tryz.f45) EG aC (by kernel_rfl) Tryz.f45.ntmps [.d (.sl .str)] [] (by kernel_rfl) (by kernel_rfl) rfl rfl (by kernel_rfl) (fun xs es K=>?_);rintro⟨s,c,rfl,rfl,hs,h⟩;refine⟨rfl,?_⟩;have hf0:=aa.eq_1 s c;refine⟨Int×Int×(List (List UInt8)),1,fun(s6,s7,s5)=> [(0,.v ⟨false,[(1,.d .str s)]⟩),(1,.v ⟨false,[(1,.d (.int .u8) c)]⟩),(5,.v ⟨false,[(1,.own 0 0)]⟩),(6,.v ⟨false,[(1,.d (.int .i64) s6)]⟩),(7,.v ⟨false,[(1,.d (.int .i64) s7)]⟩)],fun(s6,s7,s5)=> [(0,.row 0 .str s5 9)],aF (fun(s6,s7,s5)=>((s.length:Int)+1 - s7).toNat) (fun(s6,s7,s5)=>(0≤s7)∧(s7≤(s.length:Int)+1)∧(0≤s6)∧(s6≤s7)∧((s5.length:Int)≤s7)∧True) (fun n1 (s6,s7,s5)=>dn s c n1 s6 s7 s5) (dn s c (((↑s.length:Int)+(1:Int)-(0:Int)).toNat+1) (0:Int) (0:Int) ([]:List (List UInt8))),fun(s6,s7,s5)=>((s.length:Int)+1 - s7).toNat,⟨[],((0:Int),(0:Int),([]:List (List UInt8))),aF.mk0 _ (Nat.lt_succ_self _) ⟨show(0:Int)≤(0:Int)from by omega,show(0:Int)≤(↑s.length:Int)+(1:Int)from by omega,show(0:Int)≤(0:Int)from by omega,show(0:Int)≤(0:Int)from by omega,show(↑[].length:Int)≤(0:Int)from by(simp only[List.length_append,List.length_cons,List.length_nil];omega),trivial⟩ rfl,?_⟩,?_⟩
 ·repeat (first|exact trivial|refine And.intro rfl ?_)
 ·rintro⟨s6,s7,s5⟩ ⟨n1,hc1,⟨hi1_0,hi1_1,hi1_2,hi1_3,hi1_4,-⟩,hf1⟩;have hf1:=hf1.trans (dn.eq_2 s c s6 s7 s5 n1);refine fun h0=>?_;have h0:(↑s.length:Int)≤(9223372036854775807:Int):=h0.2;refine vI hf1 iD (fun h1 hf1=>?_) (fun h1 hf1=>?_)
  ·refine fun h2=>?_;have h2:(↑s.length:Int)≤(9223372036854775807:Int):=h2.2;refine And.intro (show decide (s7=(↑s.length:Int))=((18:Nat),false).snd→(0:Int)≤s7∧s7<(↑s.length:Int)from by(intro h;simp at h;omega)) ?_;refine vI hf1 (iO iD iD) (fun h3 hf1=>?_) (fun h3 hf1=>?_)
   ·refine And.intro (show(0:Int)≤s6∧s6≤s7∧s7≤(↑s.length:Int)from by omega) ?_;refine And.intro (show(s5.length+ [List.drop s6.toNat (List.take s7.toNat s)].length)*(16:Nat)≤(140737488355328:Nat)from by(simp only[List.length_append,List.length_cons,List.length_nil];omega)) ?_;refine .inl (And.intro (eb (p:=s7) (q:=(1:Int)) (r:=s7+(1:Int)) (by omega)) ?_);refine .inl (And.intro (eb (p:=s7) (q:=(1:Int)) (r:=s7+(1:Int)) (by omega)) ?_);have hm1:((↑s.length:Int)+(1:Int)-(s7+(1:Int))).toNat<((↑s.length:Int)+(1:Int)- s7).toNat:=by omega
    refine⟨[],(s7+(1:Int),s7+(1:Int),s5++ [List.drop s6.toNat (List.take s7.toNat s)]),hm1,aF.next (s:=(s6,s7,s5)) hc1 hm1 ⟨show(0:Int)≤s7+(1:Int)from by omega,show s7+(1:Int)≤(↑s.length:Int)+(1:Int)from by omega,show(0:Int)≤s7+(1:Int)from by omega,show s7+(1:Int)≤s7+(1:Int)from by omega,show(↑(s5++ [List.drop s6.toNat (List.take s7.toNat s)]).length:Int)≤s7+(1:Int)from by(simp only[List.length_append,List.length_cons,List.length_nil];omega),trivial⟩ hf1,?_⟩;repeat (first|exact trivial|refine And.intro rfl ?_)
   ·refine .inl (And.intro (eb (p:=s7) (q:=(1:Int)) (r:=s7+(1:Int)) (by omega)) ?_);have hm1:((↑s.length:Int)+(1:Int)-(s7+(1:Int))).toNat<((↑s.length:Int)+(1:Int)- s7).toNat:=by omega
    refine⟨[],(s6,s7+(1:Int),s5),hm1,aF.next (s:=(s6,s7,s5)) hc1 hm1 ⟨show(0:Int)≤s7+(1:Int)from by omega,show s7+(1:Int)≤(↑s.length:Int)+(1:Int)from by omega,show(0:Int)≤s6 from by omega,show s6≤s7+(1:Int)from by omega,show(↑s5.length:Int)≤s7+(1:Int)from by omega,trivial⟩ hf1,?_⟩;repeat (first|exact trivial|refine And.intro rfl ?_)
  ·rw[hf1]at hf0;rw[hf0]at h;exact h
def KW:bS U:= []
theorem BB:ay Tryz.prog U KW:=am
def dB(s:List UInt8):Nat→Int→Int→Int⊕(Int×Int)
 |0,s3,s4=> .inr (s3,s4)
 |n1+1,s3,s4=>
  if s4<(↑s.length:Int)then
   if((↑(ix s s4).toNat:Int)<(48:Int))∨((57:Int)<(↑(ix s s4).toNat:Int))then
    .inl (-1:Int)
   else
    dB s n1 (IntKind.i64.wrap (IntKind.i64.wrap ((10:Int)*s3)+((↑(ix s s4).toNat:Int)-(48:Int)))) (s4+(1:Int))
  else
   .inr (s3,s4)
def aE(s:List UInt8):Int:=
 if(((↑s.length:Int)=(0:Int))∨((13:Int)<(↑s.length:Int)))∨(((1:Int)<(↑s.length:Int))∧((↑(ix s (0:Int)).toNat:Int)=(48:Int)))then
  (-1:Int)
 else
  match dB s (((↑s.length:Int)-(0:Int)).toNat+1) (0:Int) (0:Int)with
  | .inl r=>r
  | .inr (s3,s4)=>
   if(1099511627776:Int)<s3 then
    (-1:Int)
   else
    s3
def x5:bZ U:=⟨[.d .str],fun xs es K=> ∃(s:List UInt8),xs= [⟨false,[(1,.d .str s)]⟩]∧es= []∧K (.v ⟨false,[(1,.d (.int .i64) (aE s))]⟩) []⟩
theorem BC:aQ Tryz.prog U 114 x5:=by
 refine aT (fn:=Tryz.f114) BB aC (by kernel_rfl) Tryz.f114.ntmps [.d (.int .i64)] [] (by kernel_rfl) (by kernel_rfl) rfl rfl (by kernel_rfl) (fun xs es K=>?_);rintro⟨s,rfl,rfl,h⟩;refine⟨rfl,?_⟩;have hf0:=aE.eq_1 s;refine fun h0=>?_;have h0:(↑s.length:Int)≤(9223372036854775807:Int):=h0.2;refine And.intro (show decide ((1:Int)<(↑s.length:Int))=((17:Nat),true).snd→(decide ((↑s.length:Int)=(0:Int))||decide ((13:Int)<(↑s.length:Int)))=((13:Nat),false).snd→(0:Int)≤(0:Int)∧(0:Int)<(↑s.length:Int)from by(intro h;simp at h;omega)) ?_;refine vI hf0 (iO (iO iD iD) (iA iD iD)) (fun h1 hf0=>?_) (fun h1 hf0=>?_)
 ·rw[hf0]at h;exact h
 ·refine⟨Int×Int,0,fun(s3,s4)=> [(0,.v ⟨false,[(1,.d .str s)]⟩),(3,.v ⟨false,[(1,.d (.int .i64) s3)]⟩),(4,.v ⟨false,[(1,.d (.int .i64) s4)]⟩)],fun(s3,s4)=> [],aF (fun(s3,s4)=>((↑s.length:Int)- s4).toNat) (fun(s3,s4)=>((0:Int)≤s4)∧(s4≤(↑s.length:Int))∧True) (fun n1 (s3,s4)=>dB s n1 s3 s4) (dB s (((↑s.length:Int)-(0:Int)).toNat+1) (0:Int) (0:Int)),fun(s3,s4)=>((↑s.length:Int)- s4).toNat,⟨[],((0:Int),(0:Int)),aF.mk0 _ (Nat.lt_succ_self _) ⟨show(0:Int)≤(0:Int)from by omega,show(0:Int)≤(↑s.length:Int)from by omega,trivial⟩ rfl,?_⟩,?_⟩
  ·repeat (first|exact trivial|refine And.intro rfl ?_)
  ·rintro⟨s3,s4⟩ ⟨n1,hc1,⟨hi1_0,hi1_1,-⟩,hf1⟩;have hf1:=hf1.trans (dB.eq_2 s s3 s4 n1);refine fun h2=>?_;have h2:(↑s.length:Int)≤(9223372036854775807:Int):=h2.2;refine vI hf1 iD (fun h3 hf1=>?_) (fun h3 hf1=>?_)
   ·refine And.intro (show(0:Int)≤s4∧s4<(↑s.length:Int)from by omega) ?_;refine And.intro (show decide ((↑(ix s s4).toNat:Int)<(48:Int))=((33:Nat),false).snd→(0:Int)≤s4∧s4<(↑s.length:Int)from by omega) ?_;refine vI hf1 (iO iD iD) (fun h4 hf1=>?_) (fun h4 hf1=>?_)
    ·rw[hf1]at hf0;rw[hf0]at h;exact h
    ·refine .inr ?_;refine And.intro (show(0:Int)≤s4∧s4<(↑s.length:Int)from by omega) ?_;refine .inl (And.intro (a8 (p:=(↑(ix s s4).toNat:Int)) (q:=(48:Int)) (r:=(↑(ix s s4).toNat:Int)-(48:Int)) (by omega)) ?_);refine .inl (And.intro (fun(h5:(0:Int)≤(↑(ix s s4).toNat:Int)-(48:Int)∧(↑(ix s s4).toNat:Int)-(48:Int)≤(255:Int))=>(show(-9223372036854775808:Int)≤(↑(ix s s4).toNat:Int)-(48:Int)∧(↑(ix s s4).toNat:Int)-(48:Int)≤(9223372036854775807:Int)from by omega)) ?_);refine .inr ?_;refine .inl (And.intro (eb (p:=s4) (q:=(1:Int)) (r:=s4+(1:Int)) (by omega)) ?_);have hm1:((↑s.length:Int)-(s4+(1:Int))).toNat<((↑s.length:Int)- s4).toNat:=by omega
     refine⟨[],(IntKind.i64.wrap (IntKind.i64.wrap ((10:Int)*s3)+((↑(ix s s4).toNat:Int)-(48:Int))),s4+(1:Int)),hm1,aF.next (s:=(s3,s4)) hc1 hm1 ⟨show(0:Int)≤s4+(1:Int)from by omega,show s4+(1:Int)≤(↑s.length:Int)from by omega,trivial⟩ hf1,?_⟩;repeat (first|exact trivial|refine And.intro rfl ?_)
   ·rw[hf1]at hf0;refine vI hf0 iD (fun h6 hf0=>?_) (fun h6 hf0=>?_)
    ·rw[hf0]at h;exact h
    ·rw[hf0]at h;exact h
def KX:bS U:= [(114,x5)]
theorem BD:ay Tryz.prog U KX:=ae BC (am)
def dC(l:List (List UInt8)):Nat→Int→(List Int)→((List Int)×Bool)⊕(Int×(List Int))
 |0,s5,s4=> .inr (s5,s4)
 |n1+1,s5,s4=>
  if s5<(↑l.length:Int)then
   if aE (ix l s5)<(0:Int)then
    .inl ([],false)
   else
    dC l n1 (s5+(1:Int)) (s4++ [aE (ix l s5)])
  else
   .inr (s5,s4)
def bf(l:List (List UInt8)):(List Int)×Bool:=
 match dC l (((↑l.length:Int)-(0:Int)).toNat+1) (0:Int) ([]:List Int)with
 | .inl r=>r
 | .inr (s5,s4)=>
  (s4,true)
def EH:bZ U:=⟨[.d (.sl .str)],fun xs es K=> ∃(l:List (List UInt8)),xs= [⟨false,[(1,.d (.sl .str) l)]⟩]∧es= []∧(l.length≤1000000)∧K (.tup [⟨false,[(1,.d (.sl (.int .i64)) ((bf l).1))]⟩,⟨false,[(1,.d .bool ((bf l).2))]⟩]) []⟩
theorem Ig:aQ Tryz.prog U 113 EH:=by
 refine aT (fn:=Tryz.f113) BD aC (by kernel_rfl) Tryz.f113.ntmps [.d (.sl (.int .i64)),.d .bool] [] (by kernel_rfl) (by kernel_rfl) rfl rfl (by kernel_rfl) (fun xs es K=>?_);rintro⟨l,rfl,rfl,hl2,h⟩;refine⟨rfl,?_⟩;have hf0:=bf.eq_1 l;refine⟨Int×(List Int),1,fun(s5,s4)=> [(0,.v ⟨false,[(1,.d (.sl .str) l)]⟩),(4,.v ⟨false,[(1,.own 0 0)]⟩),(5,.v ⟨false,[(1,.d (.int .i64) s5)]⟩)],fun(s5,s4)=> [(0,.row 0 (.int .i64) s4 3)],aF (fun(s5,s4)=>((↑l.length:Int)- s5).toNat) (fun(s5,s4)=>((0:Int)≤s5)∧(s5≤(↑l.length:Int))∧((s4.length:Int)≤s5)∧True) (fun n1 (s5,s4)=>dC l n1 s5 s4) (dC l (((↑l.length:Int)-(0:Int)).toNat+1) (0:Int) ([]:List Int)),fun(s5,s4)=>((↑l.length:Int)- s5).toNat,⟨[],((0:Int),([]:List Int)),aF.mk0 _ (Nat.lt_succ_self _) ⟨show(0:Int)≤(0:Int)from by omega,show(0:Int)≤(↑l.length:Int)from by omega,show(↑[].length:Int)≤(0:Int)from by(simp only[List.length_append,List.length_cons,List.length_nil];omega),trivial⟩ rfl,?_⟩,?_⟩
 ·repeat (first|exact trivial|refine And.intro rfl ?_)
 ·rintro⟨s5,s4⟩ ⟨n1,hc1,⟨hi1_0,hi1_1,hi1_2,-⟩,hf1⟩;have hf1:=hf1.trans (dC.eq_2 l s5 s4 n1);refine fun h0=>?_;have h0:(↑l.length:Int)≤(9223372036854775807:Int):=h0.2;refine vI hf1 iD (fun h1 hf1=>?_) (fun h1 hf1=>?_)
  ·refine And.intro (show(0:Int)≤s5∧s5<(↑l.length:Int)from by omega) ?_;refine⟨_,rfl,rfl,?_⟩;refine vI hf1 iD (fun h2 hf1=>?_) (fun h2 hf1=>?_)
   ·rw[hf1]at hf0;rw[hf0]at h;exact h
   ·refine And.intro (show(s4.length+ [aE (ix l s5)].length)*(8:Nat)≤(140737488355328:Nat)from by(simp only[List.length_append,List.length_cons,List.length_nil];omega)) ?_;refine .inl (And.intro (eb (p:=s5) (q:=(1:Int)) (r:=s5+(1:Int)) (by omega)) ?_);have hm1:((↑l.length:Int)-(s5+(1:Int))).toNat<((↑l.length:Int)- s5).toNat:=by omega
    refine⟨[],(s5+(1:Int),s4++ [aE (ix l s5)]),hm1,aF.next (s:=(s5,s4)) hc1 hm1 ⟨show(0:Int)≤s5+(1:Int)from by omega,show s5+(1:Int)≤(↑l.length:Int)from by omega,show(↑(s4++ [aE (ix l s5)]).length:Int)≤s5+(1:Int)from by(simp only[List.length_append,List.length_cons,List.length_nil];omega),trivial⟩ hf1,?_⟩;repeat (first|exact trivial|refine And.intro rfl ?_)
  ·rw[hf1]at hf0;rw[hf0]at h;exact h
def KY:bS U:= [(242,D4)]
theorem BE:ay Tryz.prog U KY:=ae Gl (am)
def cq(s:List UInt8):(List UInt8)×Bool:=
 if s= [(46:UInt8)]then
  ([],true)
 else
  (s,decide ¬s= []&&decide (co s=(0:Int)))
def EI:bZ U:=⟨[.d .str],fun xs es K=> ∃(s:List UInt8),xs= [⟨false,[(1,.d .str s)]⟩]∧es= []∧K (.tup [⟨false,[(1,.d .str ((cq s).1))]⟩,⟨false,[(1,.d .bool ((cq s).2))]⟩]) []⟩
theorem Ih:aQ Tryz.prog U 206 EI:=by
 refine aT (fn:=Tryz.f206) BE aC (by kernel_rfl) Tryz.f206.ntmps [.d .str,.d .bool] [] (by kernel_rfl) (by kernel_rfl) rfl rfl (by kernel_rfl) (fun xs es K=>?_);rintro⟨s,rfl,rfl,h⟩;refine⟨rfl,?_⟩;have hf0:=cq.eq_1 s;refine vI hf0 iD (fun h0 hf0=>?_) (fun h0 hf0=>?_)
 ·rw[hf0]at h;exact h
 ·refine⟨_,fun h1=>⟨_,rfl,rfl,rfl,rfl⟩,rfl,?_⟩;rw[hf0]at h;exact h
def KZ:bS U:= [(206,EI)]
theorem BF:ay Tryz.prog U KZ:=ae Ih (am)
def db(l:List (List UInt8)):Nat→Int→(List (List UInt8))→((List (List UInt8))×Bool)⊕(Int×(List (List UInt8)))
 |0,s5,s4=> .inr (s5,s4)
 |n1+1,s5,s4=>
  if s5<(↑l.length:Int)then
   if(cq (ix l s5)).snd=true then
    db l n1 (s5+(1:Int)) (s4++ [(cq (ix l s5)).fst])
   else
    .inl ([],false)
  else
   .inr (s5,s4)
def aX(l:List (List UInt8)):(List (List UInt8))×Bool:=
 match db l (((↑l.length:Int)-(0:Int)).toNat+1) (0:Int) ([]:List (List UInt8))with
 | .inl r=>r
 | .inr (s5,s4)=>
  (s4,true)
def EJ:bZ U:=⟨[.d (.sl .str)],fun xs es K=> ∃(l:List (List UInt8)),xs= [⟨false,[(1,.d (.sl .str) l)]⟩]∧es= []∧(l.length≤1000000)∧K (.tup [⟨false,[(1,.d (.sl .str) ((aX l).1))]⟩,⟨false,[(1,.d .bool ((aX l).2))]⟩]) []⟩
theorem Ii:aQ Tryz.prog U 115 EJ:=by
 refine aT (fn:=Tryz.f115) BF aC (by kernel_rfl) Tryz.f115.ntmps [.d (.sl .str),.d .bool] [] (by kernel_rfl) (by kernel_rfl) rfl rfl (by kernel_rfl) (fun xs es K=>?_);rintro⟨l,rfl,rfl,hl2,h⟩;refine⟨rfl,?_⟩;have hf0:=aX.eq_1 l;refine⟨Int×(List (List UInt8)),1,fun(s5,s4)=> [(0,.v ⟨false,[(1,.d (.sl .str) l)]⟩),(4,.v ⟨false,[(1,.own 0 0)]⟩),(5,.v ⟨false,[(1,.d (.int .i64) s5)]⟩)],fun(s5,s4)=> [(0,.row 0 .str s4 9)],aF (fun(s5,s4)=>((↑l.length:Int)- s5).toNat) (fun(s5,s4)=>((0:Int)≤s5)∧(s5≤(↑l.length:Int))∧((s4.length:Int)≤s5)∧True) (fun n1 (s5,s4)=>db l n1 s5 s4) (db l (((↑l.length:Int)-(0:Int)).toNat+1) (0:Int) ([]:List (List UInt8))),fun(s5,s4)=>((↑l.length:Int)- s5).toNat,⟨[],((0:Int),([]:List (List UInt8))),aF.mk0 _ (Nat.lt_succ_self _) ⟨show(0:Int)≤(0:Int)from by omega,show(0:Int)≤(↑l.length:Int)from by omega,show(↑[].length:Int)≤(0:Int)from by(simp only[List.length_append,List.length_cons,List.length_nil];omega),trivial⟩ rfl,?_⟩,?_⟩
 ·repeat (first|exact trivial|refine And.intro rfl ?_)
 ·rintro⟨s5,s4⟩ ⟨n1,hc1,⟨hi1_0,hi1_1,hi1_2,-⟩,hf1⟩;have hf1:=hf1.trans (db.eq_2 l s5 s4 n1);refine fun h0=>?_;have h0:(↑l.length:Int)≤(9223372036854775807:Int):=h0.2;refine vI hf1 iD (fun h1 hf1=>?_) (fun h1 hf1=>?_)
  ·refine And.intro (show(0:Int)≤s5∧s5<(↑l.length:Int)from by omega) ?_;refine⟨_,rfl,rfl,?_⟩;refine vN hf1 (iN iB) (fun h2 hf1=>?_) (fun h2 hf1=>?_)
   ·rw[hf1]at hf0;rw[hf0]at h;exact h
   ·refine And.intro (show(s4.length+ [(cq (ix l s5)).fst].length)*(16:Nat)≤(140737488355328:Nat)from by(simp only[List.length_append,List.length_cons,List.length_nil];omega)) ?_;refine .inl (And.intro (eb (p:=s5) (q:=(1:Int)) (r:=s5+(1:Int)) (by omega)) ?_);have hm1:((↑l.length:Int)-(s5+(1:Int))).toNat<((↑l.length:Int)- s5).toNat:=by omega
    refine⟨[],(s5+(1:Int),s4++ [(cq (ix l s5)).fst]),hm1,aF.next (s:=(s5,s4)) hc1 hm1 ⟨show(0:Int)≤s5+(1:Int)from by omega,show s5+(1:Int)≤(↑l.length:Int)from by omega,show(↑(s4++ [(cq (ix l s5)).fst]).length:Int)≤s5+(1:Int)from by(simp only[List.length_append,List.length_cons,List.length_nil];omega),trivial⟩ hf1,?_⟩;repeat (first|exact trivial|refine And.intro rfl ?_)
  ·rw[hf1]at hf0;rw[hf0]at h;exact h
def K0:bS U:= [(114,x5)]
theorem BG:ay Tryz.prog U K0:=ae BC (am)
def d6(s:List UInt8):Int×Bool:=
 if((1:Int)<(↑s.length:Int))∧((↑(ix s (0:Int)).toNat:Int)=(45:Int))then
  (IntKind.i64.wrap (-aE (List.drop (Int.toNat (1:Int)) s)),decide ((0:Int)<aE (List.drop (Int.toNat (1:Int)) s)))
 else
  (aE s,decide ((0:Int)≤aE s))
def Ij:bZ U:=⟨[.d .str],fun xs es K=> ∃(s:List UInt8),xs= [⟨false,[(1,.d .str s)]⟩]∧es= []∧K (.tup [⟨false,[(1,.d (.int .i64) ((d6 s).1))]⟩,⟨false,[(1,.d .bool ((d6 s).2))]⟩]) []⟩
theorem Lb:aQ Tryz.prog U 207 Ij:=by
 refine aT (fn:=Tryz.f207) BG aC (by kernel_rfl) Tryz.f207.ntmps [.d (.int .i64),.d .bool] [] (by kernel_rfl) (by kernel_rfl) rfl rfl (by kernel_rfl) (fun xs es K=>?_);rintro⟨s,rfl,rfl,h⟩;refine⟨rfl,?_⟩;have hf0:=d6.eq_1 s;refine fun h0=>?_;have h0:(↑s.length:Int)≤(9223372036854775807:Int):=h0.2;refine And.intro (show decide ((1:Int)<(↑s.length:Int))=((9:Nat),true).snd→(0:Int)≤(0:Int)∧(0:Int)<(↑s.length:Int)from by(intro h;simp at h;omega)) ?_;refine vI hf0 (iA iD iD) (fun h1 hf0=>?_) (fun h1 hf0=>?_)
 ·refine And.intro (show(0:Int)≤(1:Int)∧(1:Int)≤(↑s.length:Int)∧(↑s.length:Int)≤(↑s.length:Int)from by omega) ?_;refine⟨_,rfl,rfl,?_⟩;refine .inr ?_;rw[hf0]at h;exact h
 ·refine⟨_,rfl,rfl,?_⟩;rw[hf0]at h;exact h
end Go.Proofs.YtfgofabojepcmaaGreatDoor.V
end

/- From a contract to a law's walk; the package variables out of the statement's condition (ScriptParses). -/
import Derived.Test.YtfgofabojepcmaaGreatDoorSp15
import Derived.Test.YtfgofabojepcmaaGreatDoorSp23
import Derived.Test.YtfgofabojepcmaaGreatDoorSp24
import Derived.Test.YtfgofabojepcmaaGreatDoorSp19
import Derived.Test.YtfgofabojepcmaaGreatDoorSp21
import Derived.Test.YtfgofabojepcmaaGreatDoorSp1
import Derived.Test.YtfgofabojepcmaaGreatDoorRows
import Derived.ProofKit
import Derived.OpenShut
import Derived.Carry
import Derived.Lib.SmallJoins
import Derived.Test.YtfgofabojepcmaaGreatDoorSp2
import Derived.Test.YtfgofabojepcmaaGreatDoorSp13
import Derived.Test.YtfgofabojepcmaaGreatDoorSp4
import Derived.Test.YtfgofabojepcmaaGreatDoorCards
import Derived.Test.YtfgofabojepcmaaGreatDoorTie
import Derived.HandedShaped
import Derived.Lay
import Derived.MakeChecks
import Derived.LaidMore
import Derived.SevenTiedAt
import Derived.Test.YtfgofabojepcmaaGreatDoorSp14
import Derived.LaidSub
import Derived.LaidLaws
import Derived.LaidHandle
import Derived.ChangeVars
import Derived.Stop.Joined
import Derived.Lib.LaidTab
section
set_option linter.unusedVariables false
set_option linter.unusedSimpArgs false
set_option maxRecDepth 20000
set_option maxHeartbeats 4000000
namespace Go.Proofs.YtfgofabojepcmaaGreatDoor.V
open Go.RowKit
def MY:bS U:= []
theorem EO:ay Tryz.prog U MY:=am
def fZ(a:List Int)(b:List Int):Nat→Int→Bool⊕(Int)
 |0,s5=> .inr s5
 |n1+1,s5=>
  if s5<(↑a.length:Int)then
   if ix a s5=ix b s5 then
    fZ a b n1 (s5+(1:Int))
   else
    .inl false
  else
   .inr s5
def iY(a:List Int)(b:List Int):Bool:=
 if(↑a.length:Int)=(↑b.length:Int)then
  match fZ a b (((↑a.length:Int)-(0:Int)).toNat+1) (0:Int)with
  | .inl r=>r
  | .inr s5=>
   true
 else
  false
def Lq:bZ U:=⟨[.d (.sl (.int .i64)),.d (.sl (.int .i64))],fun xs es K=> ∃(a:List Int) (b:List Int),xs= [⟨false,[(1,.d (.sl (.int .i64)) a)]⟩,⟨false,[(1,.d (.sl (.int .i64)) b)]⟩]∧es= []∧K (.v ⟨false,[(1,.d .bool (iY a b))]⟩) []⟩
theorem L1:aQ Tryz.prog U 50 Lq:=by
 refine aT (fn:=Tryz.f50) EO aC (by kernel_rfl) Tryz.f50.ntmps [.d .bool] [] (by kernel_rfl) (by kernel_rfl) rfl rfl (by kernel_rfl) (fun xs es K=>?_);rintro⟨a,b,rfl,rfl,h⟩;refine⟨rfl,?_⟩;have hf0:=iY.eq_1 a b;refine fun h0=>?_;have h0:(↑a.length:Int)≤(9223372036854775807:Int):=h0.2;refine fun h1=>?_;have h1:(↑b.length:Int)≤(9223372036854775807:Int):=h1.2;refine vN hf0 iD (fun h2 hf0=>?_) (fun h2 hf0=>?_)
 ·rw[hf0]at h;exact h
 ·refine⟨Int,0,fun(s5:Int)=> [(0,.v ⟨false,[(1,.d (.sl (.int .i64)) a)]⟩),(1,.v ⟨false,[(1,.d (.sl (.int .i64)) b)]⟩),(5,.v ⟨false,[(1,.d (.int .i64) s5)]⟩)],fun(s5:Int)=> [],aF (fun(s5:Int)=>((↑a.length:Int)- s5).toNat) (fun(s5:Int)=>((0:Int)≤s5)∧(s5≤(↑a.length:Int))∧True) (fun n1 (s5:Int)=>fZ a b n1 s5) (fZ a b (((↑a.length:Int)-(0:Int)).toNat+1) (0:Int)),fun(s5:Int)=>((↑a.length:Int)- s5).toNat,⟨[],(0:Int),aF.mk0 _ (Nat.lt_succ_self _) ⟨show(0:Int)≤(0:Int)from by omega,show(0:Int)≤(↑a.length:Int)from by omega,trivial⟩ rfl,?_⟩,?_⟩
  ·repeat (first|exact trivial|refine And.intro rfl ?_)
  ·rintro s5 ⟨n1,hc1,⟨hi1_0,hi1_1,-⟩,hf1⟩;have hf1:=hf1.trans (fZ.eq_2 a b s5 n1);refine fun h3=>?_;have h3:(↑a.length:Int)≤(9223372036854775807:Int):=h3.2;refine vI hf1 iD (fun h4 hf1=>?_) (fun h4 hf1=>?_)
   ·refine .inl ⟨[(true,0),(true,1),(true,2),(true,3),(true,4),(true,5),(true,6),(true,7),(true,8)],none,[0,1,2,3,4,5,6,7,8,9,10,11],by kernel_rfl,?_⟩;refine And.intro (show(0:Int)≤s5∧s5<(↑a.length:Int)from by omega) ?_;refine And.intro (show(0:Int)≤s5∧s5<(↑b.length:Int)from by omega) ?_;refine vN hf1 iD (fun h5 hf1=>?_) (fun h5 hf1=>?_)
    ·rw[hf1]at hf0;rw[hf0]at h;exact h
    ·refine .inl (And.intro (eb (p:=s5) (q:=(1:Int)) (r:=s5+(1:Int)) (by omega)) ?_);have hm1:((↑a.length:Int)-(s5+(1:Int))).toNat<((↑a.length:Int)- s5).toNat:=by omega
     refine⟨[],s5+(1:Int),hm1,aF.next (s:=s5) hc1 hm1 ⟨show(0:Int)≤s5+(1:Int)from by omega,show s5+(1:Int)≤(↑a.length:Int)from by omega,trivial⟩ hf1,?_⟩;repeat (first|exact trivial|refine And.intro rfl ?_)
   ·rw[hf1]at hf0;rw[hf0]at h;exact h
def MZ:bS U:= []
theorem EP:ay Tryz.prog U MZ:=am
def f5(a:List (List UInt8))(b:List (List UInt8)):Nat→Int→Bool⊕(Int)
 |0,s5=> .inr s5
 |n1+1,s5=>
  if s5<(↑a.length:Int)then
   if ix a s5=ix b s5 then
    f5 a b n1 (s5+(1:Int))
   else
    .inl false
  else
   .inr s5
def iZ(a:List (List UInt8))(b:List (List UInt8)):Bool:=
 if(↑a.length:Int)=(↑b.length:Int)then
  match f5 a b (((↑a.length:Int)-(0:Int)).toNat+1) (0:Int)with
  | .inl r=>r
  | .inr s5=>
   true
 else
  false
def Lt:bZ U:=⟨[.d (.sl .str),.d (.sl .str)],fun xs es K=> ∃(a:List (List UInt8)) (b:List (List UInt8)),xs= [⟨false,[(1,.d (.sl .str) a)]⟩,⟨false,[(1,.d (.sl .str) b)]⟩]∧es= []∧K (.v ⟨false,[(1,.d .bool (iZ a b))]⟩) []⟩
theorem L3:aQ Tryz.prog U 52 Lt:=by
 refine aT (fn:=Tryz.f52) EP aC (by kernel_rfl) Tryz.f52.ntmps [.d .bool] [] (by kernel_rfl) (by kernel_rfl) rfl rfl (by kernel_rfl) (fun xs es K=>?_);rintro⟨a,b,rfl,rfl,h⟩;refine⟨rfl,?_⟩;have hf0:=iZ.eq_1 a b;refine fun h0=>?_;have h0:(↑a.length:Int)≤(9223372036854775807:Int):=h0.2;refine fun h1=>?_;have h1:(↑b.length:Int)≤(9223372036854775807:Int):=h1.2;refine vN hf0 iD (fun h2 hf0=>?_) (fun h2 hf0=>?_)
 ·rw[hf0]at h;exact h
 ·refine⟨Int,0,fun(s5:Int)=> [(0,.v ⟨false,[(1,.d (.sl .str) a)]⟩),(1,.v ⟨false,[(1,.d (.sl .str) b)]⟩),(5,.v ⟨false,[(1,.d (.int .i64) s5)]⟩)],fun(s5:Int)=> [],aF (fun(s5:Int)=>((↑a.length:Int)- s5).toNat) (fun(s5:Int)=>((0:Int)≤s5)∧(s5≤(↑a.length:Int))∧True) (fun n1 (s5:Int)=>f5 a b n1 s5) (f5 a b (((↑a.length:Int)-(0:Int)).toNat+1) (0:Int)),fun(s5:Int)=>((↑a.length:Int)- s5).toNat,⟨[],(0:Int),aF.mk0 _ (Nat.lt_succ_self _) ⟨show(0:Int)≤(0:Int)from by omega,show(0:Int)≤(↑a.length:Int)from by omega,trivial⟩ rfl,?_⟩,?_⟩
  ·repeat (first|exact trivial|refine And.intro rfl ?_)
  ·rintro s5 ⟨n1,hc1,⟨hi1_0,hi1_1,-⟩,hf1⟩;have hf1:=hf1.trans (f5.eq_2 a b s5 n1);refine fun h3=>?_;have h3:(↑a.length:Int)≤(9223372036854775807:Int):=h3.2;refine vI hf1 iD (fun h4 hf1=>?_) (fun h4 hf1=>?_)
   ·refine .inl ⟨[(true,0),(true,1),(true,2),(true,3),(true,4),(true,5),(true,6),(true,7),(true,8)],none,[0,1,2,3,4,5,6,7,8,9,10,11],by kernel_rfl,?_⟩;refine And.intro (show(0:Int)≤s5∧s5<(↑a.length:Int)from by omega) ?_;refine And.intro (show(0:Int)≤s5∧s5<(↑b.length:Int)from by omega) ?_;refine vN hf1 iD (fun h5 hf1=>?_) (fun h5 hf1=>?_)
    ·rw[hf1]at hf0;rw[hf0]at h;exact h
    ·refine .inl (And.intro (eb (p:=s5) (q:=(1:Int)) (r:=s5+(1:Int)) (by omega)) ?_);have hm1:((↑a.length:Int)-(s5+(1:Int))).toNat<((↑a.length:Int)- s5).toNat:=by omega
     refine⟨[],s5+(1:Int),hm1,aF.next (s:=s5) hc1 hm1 ⟨show(0:Int)≤s5+(1:Int)from by omega,show s5+(1:Int)≤(↑a.length:Int)from by omega,trivial⟩ hf1,?_⟩;repeat (first|exact trivial|refine And.intro rfl ?_)
   ·rw[hf1]at hf0;rw[hf0]at h;exact h
def M4:bS U:= [(52,Lt)]
theorem ER:ay Tryz.prog U M4:=ae L3 (am)
def eY(a:List ah)(b:List ah):Nat→Int→Bool⊕(Int)
 |0,s5=> .inr s5
 |n1+1,s5=>
  if s5<(↑a.length:Int)then
   if(¬(ix a s5).up=(ix b s5).up)∨(¬(iZ (ix a s5).interest (ix b s5).interest=true))then
    .inl false
   else
    eY a b n1 (s5+(1:Int))
  else
   .inr s5
def gH(a:List ah)(b:List ah):Bool:=
 if(↑a.length:Int)=(↑b.length:Int)then
  match eY a b (((↑a.length:Int)-(0:Int)).toNat+1) (0:Int)with
  | .inl r=>r
  | .inr s5=>
   true
 else
  false
def L4:bZ U:=⟨[.d (.sl (.st 0)),.d (.sl (.st 0))],fun xs es K=> ∃(a:List ah) (b:List ah),xs= [⟨false,[(1,.d (.sl (.st 0)) a)]⟩,⟨false,[(1,.d (.sl (.st 0)) b)]⟩]∧es= []∧K (.v ⟨false,[(1,.d .bool (gH a b))]⟩) []⟩
theorem M7:aQ Tryz.prog U 49 L4:=by
 refine aT (fn:=Tryz.f49) ER aC (by kernel_rfl) Tryz.f49.ntmps [.d .bool] [] (by kernel_rfl) (by kernel_rfl) rfl rfl (by kernel_rfl) (fun xs es K=>?_);rintro⟨a,b,rfl,rfl,h⟩;refine⟨rfl,?_⟩;have hf0:=gH.eq_1 a b;refine fun h0=>?_;have h0:(↑a.length:Int)≤(9223372036854775807:Int):=h0.2;refine fun h1=>?_;have h1:(↑b.length:Int)≤(9223372036854775807:Int):=h1.2;refine vN hf0 iD (fun h2 hf0=>?_) (fun h2 hf0=>?_)
 ·rw[hf0]at h;exact h
 ·refine⟨Int,0,fun(s5:Int)=> [(0,.v ⟨false,[(1,.d (.sl (.st 0)) a)]⟩),(1,.v ⟨false,[(1,.d (.sl (.st 0)) b)]⟩),(5,.v ⟨false,[(1,.d (.int .i64) s5)]⟩)],fun(s5:Int)=> [],aF (fun(s5:Int)=>((↑a.length:Int)- s5).toNat) (fun(s5:Int)=>((0:Int)≤s5)∧(s5≤(↑a.length:Int))∧True) (fun n1 (s5:Int)=>eY a b n1 s5) (eY a b (((↑a.length:Int)-(0:Int)).toNat+1) (0:Int)),fun(s5:Int)=>((↑a.length:Int)- s5).toNat,⟨[],(0:Int),aF.mk0 _ (Nat.lt_succ_self _) ⟨show(0:Int)≤(0:Int)from by omega,show(0:Int)≤(↑a.length:Int)from by omega,trivial⟩ rfl,?_⟩,?_⟩
  ·repeat (first|exact trivial|refine And.intro rfl ?_)
  ·rintro s5 ⟨n1,hc1,⟨hi1_0,hi1_1,-⟩,hf1⟩;have hf1:=hf1.trans (eY.eq_2 a b s5 n1);refine fun h3=>?_;have h3:(↑a.length:Int)≤(9223372036854775807:Int):=h3.2;refine vI hf1 iD (fun h4 hf1=>?_) (fun h4 hf1=>?_)
   ·refine .inl ⟨[(true,0),(true,1),(true,2),(true,3),(true,4),(true,5),(true,6),(true,7),(true,8),(true,9),(true,10),(true,11),(true,12),(true,13),(true,14),(true,15),(true,16),(true,17),(true,18),(true,19),(true,20),(true,21),(false,22),(true,23),(true,24)],none,[0,1,2,3,4,5,6,7,8,9,10,11],by kernel_rfl,?_⟩;refine And.intro (show(0:Int)≤s5∧s5<(↑a.length:Int)from by omega) ?_;refine And.intro (show(0:Int)≤s5∧s5<(↑b.length:Int)from by omega) ?_;refine And.intro (show(decide ¬(ix a s5).up=(ix b s5).up)=((28:Nat),false).snd→(0:Int)≤s5∧s5<(↑a.length:Int)from by omega) ?_;refine And.intro (show(decide ¬(ix a s5).up=(ix b s5).up)=((28:Nat),false).snd→(0:Int)≤s5∧s5<(↑b.length:Int)from by omega) ?_;refine⟨_,fun h5=>⟨_,_,rfl,rfl,rfl,rfl⟩,rfl,?_⟩;refine vI hf1 (iO iD (iN iB)) (fun h6 hf1=>?_) (fun h6 hf1=>?_)
    ·rw[hf1]at hf0;rw[hf0]at h;exact h
    ·refine .inl (And.intro (eb (p:=s5) (q:=(1:Int)) (r:=s5+(1:Int)) (by omega)) ?_);have hm1:((↑a.length:Int)-(s5+(1:Int))).toNat<((↑a.length:Int)- s5).toNat:=by omega
     refine⟨[],s5+(1:Int),hm1,aF.next (s:=s5) hc1 hm1 ⟨show(0:Int)≤s5+(1:Int)from by omega,show s5+(1:Int)≤(↑a.length:Int)from by omega,trivial⟩ hf1,?_⟩;repeat (first|exact trivial|refine And.intro rfl ?_)
   ·rw[hf1]at hf0;rw[hf0]at h;exact h
def g17:bS U:= [(49,L4),(50,Lq)]
theorem ES:ay Tryz.prog U g17:=ae M7 (ae L1 (am))
def eZ(a:ap)(b:ap):Nat→Int→Bool⊕(Int)
 |0,s5=> .inr s5
 |n1+1,s5=>
  if s5<(↑a.groups.length:Int)then
   if iY (ix a.groups s5) (ix b.groups s5)=true then
    eZ a b n1 (s5+(1:Int))
   else
    .inl false
  else
   .inr s5
def iF(a:ap)(b:ap):Bool:=
 if(((((¬a.cores=b.cores)∨(¬a.disk.mark=b.disk.mark))∨(¬a.disk.journal=b.disk.journal))∨(¬(gH a.edges b.edges=true)))∨(¬(gH a.devices b.devices=true)))∨(¬(↑a.groups.length:Int)=(↑b.groups.length:Int))then
  false
 else
  match eZ a b (((↑a.groups.length:Int)-(0:Int)).toNat+1) (0:Int)with
  | .inl r=>r
  | .inr s5=>
   true
def L5:bZ U:=⟨[.d (.st 2),.d (.st 2)],fun xs es K=> ∃(a:ap) (b:ap),xs= [⟨true,[(6,.d (.st 2) a)]⟩,⟨true,[(6,.d (.st 2) b)]⟩]∧es= []∧K (.v ⟨false,[(1,.d .bool (iF a b))]⟩) []⟩
theorem Lu:aQ Tryz.prog U 17 L5:=by
 refine aT (fn:=Tryz.f17) ES aC (by kernel_rfl) Tryz.f17.ntmps [.d .bool] [] (by kernel_rfl) (by kernel_rfl) rfl rfl (by kernel_rfl) (fun xs es K=>?_);rintro⟨a,b,rfl,rfl,h⟩;refine⟨rfl,?_⟩;have hf0:=iF.eq_1 a b;refine⟨_,fun h0=>⟨_,_,rfl,rfl,rfl,rfl⟩,rfl,?_⟩;refine⟨_,fun h1=>⟨_,_,rfl,rfl,rfl,rfl⟩,rfl,?_⟩;refine vI hf0 (iO (iO (iO (iO (iO iD iD) iD) (iN iB)) (iN iB)) iD) (fun h2 hf0=>?_) (fun h2 hf0=>?_)
 ·rw[hf0]at h;exact h
 ·refine⟨Int,2,fun(s5:Int)=> [(2,.v ⟨false,[(1,.ptr 0 0)]⟩),(3,.v ⟨false,[(1,.ptr 1 0)]⟩),(5,.v ⟨false,[(1,.d (.int .i64) s5)]⟩)],fun(s5:Int)=> [(0,.cells [(6,.d (.st 2) a)] 61),(1,.cells [(6,.d (.st 2) b)] 70)],aF (fun(s5:Int)=>((↑a.groups.length:Int)- s5).toNat) (fun(s5:Int)=>((0:Int)≤s5)∧(s5≤(↑a.groups.length:Int))∧True) (fun n1 (s5:Int)=>eZ a b n1 s5) (eZ a b (((↑a.groups.length:Int)-(0:Int)).toNat+1) (0:Int)),fun(s5:Int)=>((↑a.groups.length:Int)- s5).toNat,⟨[],(0:Int),aF.mk0 _ (Nat.lt_succ_self _) ⟨show(0:Int)≤(0:Int)from by omega,show(0:Int)≤(↑a.groups.length:Int)from by omega,trivial⟩ rfl,?_⟩,?_⟩
  ·repeat (first|exact trivial|refine And.intro rfl ?_)
  ·rintro s5 ⟨n1,hc1,⟨hi1_0,hi1_1,-⟩,hf1⟩;have hf1:=hf1.trans (eZ.eq_2 a b s5 n1);refine fun h3=>?_;have h3:(↑a.groups.length:Int)≤(9223372036854775807:Int):=h3.2;refine vI hf1 iD (fun h4 hf1=>?_) (fun h4 hf1=>?_)
   ·refine .inl ⟨[(true,0),(true,1),(true,2),(true,3),(true,4),(true,5),(true,6),(true,7),(true,8),(true,9),(false,10),(true,11)],none,[2,3,4,5,6,7,8,9,10,11,12,13],by kernel_rfl,?_⟩;refine And.intro (show(0:Int)≤s5∧s5<(↑a.groups.length:Int)from by omega) ?_;refine And.intro (show(0:Int)≤s5∧s5<(↑b.groups.length:Int)from by omega) ?_;refine⟨_,_,rfl,rfl,?_⟩;refine vN hf1 (iN iB) (fun h5 hf1=>?_) (fun h5 hf1=>?_)
    ·rw[hf1]at hf0;rw[hf0]at h;exact h
    ·refine .inl (And.intro (eb (p:=s5) (q:=(1:Int)) (r:=s5+(1:Int)) (by omega)) ?_);have hm1:((↑a.groups.length:Int)-(s5+(1:Int))).toNat<((↑a.groups.length:Int)- s5).toNat:=by omega
     refine⟨[],s5+(1:Int),hm1,aF.next (s:=s5) hc1 hm1 ⟨show(0:Int)≤s5+(1:Int)from by omega,show s5+(1:Int)≤(↑a.groups.length:Int)from by omega,trivial⟩ hf1,?_⟩;repeat (first|exact trivial|refine And.intro rfl ?_)
   ·rw[hf1]at hf0;rw[hf0]at h;exact h
def g19:bS U:= [(50,Lq),(52,Lt)]
theorem ET:ay Tryz.prog U g19:=ae L1 (ae L3 (am))
def iG(a:ax)(b:ax):Bool:=
 decide (a.kind=b.kind)&&decide (a.node=b.node)&&decide (a.«to»=b.«to»)&&decide (a.i=b.i)&&decide (a.key=b.key)&&decide (g8.mk a.op.act a.op.name a.op.val=b.op)&&iZ a.names b.names&&iY a.who b.who
def L6:bZ U:=⟨[.d (.st 4),.d (.st 4)],fun xs es K=> ∃(a:ax) (b:ax),xs= [⟨true,[(10,.d (.st 4) a)]⟩,⟨true,[(10,.d (.st 4) b)]⟩]∧es= []∧K (.v ⟨false,[(1,.d .bool (iG a b))]⟩) []⟩
theorem Lw:aQ Tryz.prog U 19 L6:=by
 refine aT (fn:=Tryz.f19) ET aC (by kernel_rfl) Tryz.f19.ntmps [.d .bool] [] (by kernel_rfl) (by kernel_rfl) rfl rfl (by kernel_rfl) (fun xs es K=>?_);rintro⟨a,b,rfl,rfl,h⟩;refine⟨rfl,?_⟩;have hf0:=iG.eq_1 a b;refine⟨_,fun h0=>⟨_,_,rfl,rfl,rfl,rfl⟩,rfl,?_⟩;refine⟨_,fun h1=>⟨_,_,rfl,rfl,rfl,rfl⟩,rfl,?_⟩;rw[hf0]at h;exact h
end Go.Proofs.YtfgofabojepcmaaGreatDoor.V
end

section
set_option linter.unusedVariables false
set_option linter.unusedSimpArgs false
set_option maxRecDepth 20000
set_option maxHeartbeats 4000000
namespace Go.Proofs.YtfgofabojepcmaaGreatDoor.V
open Go.RowKit
def g4:bS U:= [(15,LN),(16,L0),(17,L5),(18,LG),(19,L6)]
theorem Ga:ay Tryz.prog U g4:=ae Ju (ae Lp (ae Lu (ae LH (ae Lw (am)))))
def dS(s:List UInt8):Nat→Int→Bool⊕(Int)
 |0,s9=> .inr s9
 |n1+1,s9=>
  if s9<(↑(aU s).snd.fst.length:Int)then
   if(¬(ix (aU s).snd.fst s9).word=(ix (bY s).snd.fst s9).word)∨(¬(iG (ix (aU s).snd.fst s9).e (ix (bY s).snd.fst s9).e=true))then
    .inl false
   else
    dS s n1 (s9+(1:Int))
  else
   .inr s9
def iM(s:List UInt8):Bool:=
 if(((6000:Int)<(↑s.length:Int))∧(¬(↑s.length:Int)=(65536:Int)))∧(¬(↑s.length:Int)=(65537:Int))then
  true
 else
  if((¬(iF (aU s).fst (bY s).fst=true))∨(¬(↑(aU s).snd.fst.length:Int)=(↑(bY s).snd.fst.length:Int)))∨(¬(p5 (aU s).snd.snd=(bY s).snd.snd))then
   false
  else
   match dS s (((↑(aU s).snd.fst.length:Int)-(0:Int)).toNat+1) (0:Int)with
   | .inl r=>r
   | .inr s9=>
    true
def c4:bZ U:=⟨[.d .str],fun xs es K=> ∃(s:List UInt8),xs= [⟨false,[(1,.d .str s)]⟩]∧es= []∧K (.v ⟨false,[(1,.d .bool (iM s))]⟩) []⟩
theorem k4:aQ Tryz.prog U 4 c4:=by
 refine aT (fn:=Tryz.f4) Ga aC (by kernel_rfl) Tryz.f4.ntmps [.d .bool] [] (by kernel_rfl) (by kernel_rfl) rfl rfl (by kernel_rfl) (fun xs es K=>?_);rintro⟨s,rfl,rfl,h⟩;refine⟨rfl,?_⟩;have hf0:=iM.eq_1 s;refine fun h0=>?_;have h0:(↑s.length:Int)≤(9223372036854775807:Int):=h0.2;refine vI hf0 (iA (iA iD iD) iD) (fun h1 hf0=>?_) (fun h1 hf0=>?_)
 ·rw[hf0]at h;exact h
 ·refine⟨_,rfl,rfl,(by omega),?_⟩;refine⟨_,rfl,rfl,(by omega),?_⟩;refine .inl ⟨[(true,0),(true,1),(false,2),(true,3),(true,4),(true,5),(true,6),(true,7),(true,8),(true,9),(true,10),(true,11),(true,12),(true,14),(false,13),(true,15),(true,16)],none,[3,4,5,6,7,8,9,10,11,12,13,14],by kernel_rfl,?_⟩;refine⟨_,_,rfl,rfl,?_⟩;refine⟨_,fun h2=>⟨_,rfl,rfl,(qb (by omega)),rfl,rfl⟩,rfl,?_⟩;refine vI hf0 (iO (iO (iN iB) iD) (iN iD)) (fun h3 hf0=>?_) (fun h3 hf0=>?_)
  ·rw[hf0]at h;exact h
  ·refine⟨Int,3,fun(s9:Int)=> [(4,.v ⟨false,[(1,.d (.sl (.st 5)) ((aU s).snd.fst))]⟩),(7,.v ⟨false,[(1,.d (.sl (.st 5)) ((bY s).snd.fst))]⟩),(9,.v ⟨false,[(1,.d (.int .i64) s9)]⟩)],fun(s9:Int)=> [],aF (fun(s9:Int)=>((↑(aU s).snd.fst.length:Int)- s9).toNat) (fun(s9:Int)=>((0:Int)≤s9)∧(s9≤(↑(aU s).snd.fst.length:Int))∧True) (fun n1 (s9:Int)=>dS s n1 s9) (dS s (((↑(aU s).snd.fst.length:Int)-(0:Int)).toNat+1) (0:Int)),fun(s9:Int)=>((↑(aU s).snd.fst.length:Int)- s9).toNat,⟨[],(0:Int),aF.mk0 _ (Nat.lt_succ_self _) ⟨show(0:Int)≤(0:Int)from by omega,show(0:Int)≤(↑(aU s).snd.fst.length:Int)from by omega,trivial⟩ rfl,?_⟩,?_⟩
   ·repeat (first|exact trivial|refine And.intro rfl ?_)
   ·rintro s9 ⟨n1,hc1,⟨hi1_0,hi1_1,-⟩,hf1⟩;have hf1:=hf1.trans (dS.eq_2 s s9 n1);refine fun h4=>?_;have h4:(↑(aU s).snd.fst.length:Int)≤(9223372036854775807:Int):=h4.2;refine vI hf1 iD (fun h5 hf1=>?_) (fun h5 hf1=>?_)
    ·refine .inl ⟨[(true,0),(true,1),(true,2),(true,3),(true,4),(true,5),(true,6),(true,7),(true,8),(true,9),(true,10),(true,11),(true,12),(true,13),(true,14),(true,15),(true,16),(true,17),(true,18),(true,19),(true,20),(true,21),(false,22),(true,23),(true,24)],none,[3,4,5,6,7,8,9,10,11,12,13,14],by kernel_rfl,?_⟩;refine And.intro (show(0:Int)≤s9∧s9<(↑(aU s).snd.fst.length:Int)from by omega) ?_;refine And.intro (show(0:Int)≤s9∧s9<(↑(bY s).snd.fst.length:Int)from by omega) ?_;refine And.intro (show(decide ¬(ix (aU s).snd.fst s9).word=(ix (bY s).snd.fst s9).word)=((69:Nat),false).snd→(0:Int)≤s9∧s9<(↑(aU s).snd.fst.length:Int)from by omega) ?_;refine And.intro (show(decide ¬(ix (aU s).snd.fst s9).word=(ix (bY s).snd.fst s9).word)=((69:Nat),false).snd→(0:Int)≤s9∧s9<(↑(bY s).snd.fst.length:Int)from by omega) ?_;refine⟨_,fun h6=>⟨_,_,rfl,rfl,rfl,rfl⟩,rfl,?_⟩;refine vI hf1 (iO iD (iN iB)) (fun h7 hf1=>?_) (fun h7 hf1=>?_)
     ·rw[hf1]at hf0;rw[hf0]at h;exact h
     ·refine .inl (And.intro (eb (p:=s9) (q:=(1:Int)) (r:=s9+(1:Int)) (by omega)) ?_);have hm1:((↑(aU s).snd.fst.length:Int)-(s9+(1:Int))).toNat<((↑(aU s).snd.fst.length:Int)- s9).toNat:=by omega
      refine⟨[],s9+(1:Int),hm1,aF.next (s:=s9) hc1 hm1 ⟨show(0:Int)≤s9+(1:Int)from by omega,show s9+(1:Int)≤(↑(aU s).snd.fst.length:Int)from by omega,trivial⟩ hf1,?_⟩;repeat (first|exact trivial|refine And.intro rfl ?_)
    ·rw[hf1]at hf0;rw[hf0]at h;exact h
end Go.Proofs.YtfgofabojepcmaaGreatDoor.V
end

section
set_option linter.unusedVariables false
set_option linter.unusedSimpArgs false
set_option maxRecDepth 20000
namespace Go.Proofs.YtfgofabojepcmaaGreatDoor.V
open Go.RowKit
abbrev wO:List UInt8:= [(101:UInt8),(100:UInt8),(103:UInt8),(101:UInt8)]
abbrev GC:List UInt8:= [(100:UInt8),(101:UInt8),(118:UInt8),(105:UInt8),(99:UInt8),(101:UInt8)]
abbrev Ee:List UInt8:= [(103:UInt8),(114:UInt8),(111:UInt8),(117:UInt8),(112:UInt8)]
abbrev Mx:List UInt8:= [(103:UInt8),(111:UInt8)]
theorem wP(w:List (List UInt8)):List.drop (Int.toNat 1) (List.drop (Int.toNat 1) w)=List.drop (Int.toNat 2) w:=by rw[List.drop_drop];rfl
theorem qh{w:List (List UInt8)}(h:1<w.length):ix (List.drop (Int.toNat 1) w) 0=ix w 1:=by
 have h1:=kf w (j:=1) (by omega) (by omega);rw[h1];rfl
theorem wQ{w:List (List UInt8)}:(if((List.drop (Int.toNat 1) w).length:Int)=0 then false else((aq (ix (List.drop (Int.toNat 1) w) 0)).2&&(bV (List.drop (Int.toNat 1) (List.drop (Int.toNat 1) w))).2))=(if((w.length:Int)<2)∨(aE (ix w 1)<0)then false else(aX (List.drop (Int.toNat 2) w)).2):=by
 have hl:(List.drop (Int.toNat 1) w).length=w.length - 1:=List.length_drop ..;by_cases h:1<w.length
 ·rw[if_neg (by omega),qh h,wP,mN];by_cases hn:aE (ix w 1)<0
  ·rw[if_pos (.inr hn)];have:=kg.1 hn;have:(aq (ix w 1)).2=false:=by simpa using this
   rw[this,Bool.false_and]
  ·rw[if_neg (by omega)];have:(aq (ix w 1)).2=true:=by
    cases hq:(aq (ix w 1)).2 with
    |true=>rfl
    |false=>exact absurd (kg.2 (by rw[hq];simp)) hn
   rw[this,Bool.true_and]
 ·rw[if_pos (by omega),if_pos (by omega)]
theorem wS(cores:Int)(eds:List ah)(dvs:List ah)(grs:List (List Int))(disk:ak)(lns:List aZ)(stag stage:Int)(w:List (List UInt8))(hw:1≤w.length):
  (au cores eds dvs grs disk lns stag stage w).2.1=(ab cores eds dvs grs disk stage w).2.1∧((au cores eds dvs grs disk lns stag stage w).2.1=true→(au cores eds dvs grs disk lns stag stage w).1=(ab cores eds dvs grs disk stage w).1∧(au cores eds dvs grs disk lns stag stage w).2.2=(ab cores eds dvs grs disk stage w).2.2):=by
 have hl:(List.drop (Int.toNat 1) w).length=w.length - 1:=List.length_drop ..;have hp:=wQ (w:=w);unfold au ab;by_cases h0:stage=0
 ·rw[if_pos h0,if_pos h0,oX];split<;>exact⟨rfl,fun _=>⟨rfl,rfl⟩⟩
 rw[if_neg h0,if_neg h0];have key: ∀(l:List ah) (P:Bool×List ah),P=(if((List.drop (Int.toNat 1) w).length:Int)=0 then(false,l)else((aq (ix (List.drop (Int.toNat 1) w) 0)).2&&(bV (List.drop (Int.toNat 1) (List.drop (Int.toNat 1) w))).2,l++ [ah.mk (aq (ix (List.drop (Int.toNat 1) w) 0)).1 (bV (List.drop (Int.toNat 1) (List.drop (Int.toNat 1) w))).1]))→
   (((w.length:Int)<2)∨(aE (ix w 1)<0)→P.1=false)∧(¬(((w.length:Int)<2)∨(aE (ix w 1)<0))→P.1=(aX (List.drop (Int.toNat 2) w)).2∧(P.1=true→P.2=l++ [ah.mk (aE (ix w 1)) (aX (List.drop (Int.toNat 2) w)).1])):=by
  intro l P e;have e1:P.1=(if((w.length:Int)<2)∨(aE (ix w 1)<0)then false else(aX (List.drop (Int.toNat 2) w)).2):=by
   rw[←hp,e];split<;>rfl
  refine⟨fun h=>by rw[e1,if_pos h],fun h=>⟨by rw[e1,if_neg h],fun _=>?_⟩⟩;have h1:1<w.length:=by omega
  rw[e,if_neg (by omega),qh h1,wP,mN];have:(aq (ix w 1)).2=true:=by
   cases hq:(aq (ix w 1)).2 with
   |true=>rfl
   |false=>exact absurd (kg.2 (by rw[hq];simp)) (fun q=>h (.inr q))
  rw[(gR _).2 this]
 by_cases h1:ix w 0=wO∧stage=1
 ·rw[if_pos h1,if_pos (.inl h1)];obtain⟨k1,k2⟩:=key eds (cF cores eds dvs grs disk lns stag (List.drop (Int.toNat 1) w)) (by unfold cF;rfl);by_cases hb:((w.length:Int)<2)∨(aE (ix w 1)<0)
  ·rw[if_pos hb];exact⟨k1 hb,fun h=>by have h:(cF cores eds dvs grs disk lns stag (List.drop (Int.toNat 1) w)).1=true:=h;rw[k1 hb]at h;cases h⟩
  ·rw[if_neg hb,if_pos h1.1];obtain⟨k3,k4⟩:=k2 hb;exact⟨k3,fun h=>⟨rfl,by have h:(cF cores eds dvs grs disk lns stag (List.drop (Int.toNat 1) w)).1=true:=h;dsimp only;rw[k4 h]⟩⟩
 rw[if_neg h1];by_cases h2:ix w 0=GC∧stage≤2
 ·have hne: ¬ix w 0=wO:=by rw[h2.1];decide
  rw[if_pos h2,if_pos (.inr h2)];obtain⟨k1,k2⟩:=key dvs (cG cores eds dvs grs disk lns stag (List.drop (Int.toNat 1) w)) (by unfold cG;rfl);by_cases hb:((w.length:Int)<2)∨(aE (ix w 1)<0)
  ·rw[if_pos hb];exact⟨k1 hb,fun h=>by have h:(cG cores eds dvs grs disk lns stag (List.drop (Int.toNat 1) w)).1=true:=h;rw[k1 hb]at h;cases h⟩
  ·rw[if_neg hb,if_neg hne];obtain⟨k3,k4⟩:=k2 hb;exact⟨k3,fun h=>⟨rfl,by have h:(cG cores eds dvs grs disk lns stag (List.drop (Int.toNat 1) w)).1=true:=h;dsimp only;rw[k4 h]⟩⟩
 have hcomb: ¬((ix w 0=wO∧stage=1)∨(ix w 0=GC∧stage≤2)):=by rintro(h|h);exact h1 h;exact h2 h
 rw[if_neg h2,if_neg hcomb];by_cases h3:ix w 0=Ee
 ·rw[if_pos h3,if_pos h3,oX];exact⟨rfl,fun _=>⟨rfl,rfl⟩⟩
 rw[if_neg h3,if_neg h3];by_cases h4:ix w 0=Mx
 ·rw[if_pos h4];refine⟨?_,fun _=>⟨rfl,rfl⟩⟩;dsimp only;rw[h4];simp only[decide_true,Bool.true_and];rw[decide_eq_decide];omega
 ·rw[if_neg h4];have hd:(decide (ix w 0= [(103:UInt8),(111:UInt8)])&&decide (((List.drop (Int.toNat 1) w).length:Int)=0))=false:=by
   have:decide (ix w 0= [(103:UInt8),(111:UInt8)])=false:=by simpa using h4
   rw[this,Bool.false_and]
  exact⟨hd,fun h=>by have h:(decide (ix w 0= [(103:UInt8),(111:UInt8)])&&decide (((List.drop (Int.toNat 1) w).length:Int)=0))=true:=h;rw[hd]at h;cases h⟩
theorem wT(cores:Int)(eds:List ah)(dvs:List ah)(grs:List (List Int))(disk:ak)(stage:Int)(w:List (List UInt8)):(ab cores eds dvs grs disk stage w).1≤4:=by
 unfold ab
 repeat' split
 all_goals (dsimp only;omega)
abbrev My:ap:=ap.mk (0:Int) [] [] [] (ak.mk (0:Int) (0:Int))
def Av(s:List UInt8):(ap×(List aZ)×dr)⊕((List ah)×(List ah)×(List (List Int))×(List aZ)×Int×Int×ak×Int)→(ap×(List aZ)×ak)⊕((List ah)×(List ah)×(List (List Int))×Int×Int×Int×ak×(List aZ))→Prop
 | .inl a,b=>b= .inl (a.1,a.2.1,p5 a.2.2)
 | .inr (e2,e3,e4,e5,_,c,d,st),b=>if(¬ix (Lib.split s [(10:UInt8)]) (((Lib.split s [(10:UInt8)]).length:Int)- 1)= [])∨ ¬st=4 then b= .inl (My,[],ak.mk (((Lib.split s [(10:UInt8)]).length:Int)- 1+1) 1)else ∃q1 q2,b= .inr (e2,e3,e4,q1,q2,c,d,e5)
theorem Aw{a e:Int}(he: ¬e=0):p5 (mH a e)=ak.mk a e:=by unfold mH;rw[if_neg he];rfl
theorem km(s:List UInt8): ∀(n i:Nat) (e2 e3:List ah) (e4:List (List Int)) (e5:List aZ) (c:Int) (d:ak) (st:Int),st≤4→i<(Lib.split s [(10:UInt8)]).length→(Lib.split s [(10:UInt8)]).length≤n+i→
  Av s (cT s n e2 e3 e4 e5 (i:Int) c d st) (cY s (n+1) e2 e3 e4 st (i:Int) c d e5)
 |0,i,e2,e3,e4,e5,c,d,st,h0,h1,h2=>by omega
 |n+1,i,e2,e3,e4,e5,c,d,st,h0,h1,h2=>by
  rw[cT,cY];simp only[nh,qE];have hlen:((List.take (((Lib.split s [(10:UInt8)]).length:Int)-(1:Int)).toNat (Lib.split s [(10:UInt8)])).length:Int)=((Lib.split s [(10:UInt8)]).length:Int)- 1:=by rw[List.length_take];omega
  rw[hlen,if_pos (show(i:Int)<((Lib.split s [(10:UInt8)]).length:Int)by omega)];by_cases hi:(i:Int)<((Lib.split s [(10:UInt8)]).length:Int)- 1
  ·have hx:ix (List.take (((Lib.split s [(10:UInt8)]).length:Int)-(1:Int)).toNat (Lib.split s [(10:UInt8)])) (i:Int)=ix (Lib.split s [(10:UInt8)]) (i:Int):=by
    unfold ix;rw[List.getElem?_take,if_pos (by omega)]
   rw[if_pos hi,if_neg (show ¬((i:Int)=((Lib.split s [(10:UInt8)]).length:Int)- 1∧_)from fun q=>by omega),if_neg (show ¬(i:Int)=((Lib.split s [(10:UInt8)]).length:Int)- 1 by omega),hx];have hw:=(bD (ix (Lib.split s [(10:UInt8)]) (i:Int)) 32).1;have ei:(i:Int)+1=((i+1:Nat):Int):=by omega
   generalize ix (Lib.split s [(10:UInt8)]) (i:Int)=line at hw⊢;by_cases h4:st=4
   ·subst h4;obtain⟨q1,q2⟩:=rA hw;rw[if_neg (show ¬(4:Int)<4 by omega)];unfold aL;simp only[if_true];by_cases hc:(cy (Lib.split line [(32:UInt8)])).2=true
    ·have hc':(b6 (Lib.split line [(32:UInt8)])).2=true:=by rw[←q1];exact hc
     rw[if_pos hc];dsimp only;rw[if_pos rfl,if_pos hc',ei,q2 hc];exact km s n (i+1) _ _ _ _ _ _ _ (Int.le_refl _) (by omega) (by omega)
    ·have hc': ¬(b6 (Lib.split line [(32:UInt8)])).2=true:=by rw[←q1];exact hc
     rw[if_neg hc];dsimp only;rw[if_neg (show ¬(70:Int)=0 by decide),if_neg hc'];rfl
   ·obtain⟨q1,q2⟩:=wS c e2 e3 e4 d e5 st st (Lib.split line [(32:UInt8)]) hw;have hst:=wT c e2 e3 e4 d st (Lib.split line [(32:UInt8)]);rw[if_pos (show st<4 by omega)];unfold aL;rw[if_neg h4];by_cases hc:(au c e2 e3 e4 d e5 st st (Lib.split line [(32:UInt8)])).2.1=true
    ·obtain⟨r1,r2⟩:=q2 hc;have hc':(ab c e2 e3 e4 d st (Lib.split line [(32:UInt8)])).2.1=true:=by rw[←q1];exact hc
     rw[if_pos hc,r1,r2,wN];by_cases hn:(ab c e2 e3 e4 d st (Lib.split line [(32:UInt8)])).1=4
     ·rw[if_pos hn];dsimp only;by_cases hk:dF (ap.mk (ab c e2 e3 e4 d st (Lib.split line [(32:UInt8)])).2.2.1 (ab c e2 e3 e4 d st (Lib.split line [(32:UInt8)])).2.2.2.2.1 (ab c e2 e3 e4 d st (Lib.split line [(32:UInt8)])).2.2.2.2.2.1 (ab c e2 e3 e4 d st (Lib.split line [(32:UInt8)])).2.2.2.2.2.2 (ab c e2 e3 e4 d st (Lib.split line [(32:UInt8)])).2.2.2.1)=0
      ·rw[if_pos hk,if_pos hc',if_pos ⟨hc',hn⟩,if_pos hk,ei];exact km s n (i+1) _ _ _ _ _ _ _ hst (by omega) (by omega)
      ·rw[if_neg hk,if_pos hc',if_pos ⟨hc',hn⟩,if_neg hk];show _=_
       unfold bM;dsimp only;rw[Aw hk]
     ·rw[if_neg hn];dsimp only;rw[if_pos rfl,if_pos hc',if_neg (fun q=>hn q.2),ei];exact km s n (i+1) _ _ _ _ _ _ _ hst (by omega) (by omega)
    ·have hc': ¬(ab c e2 e3 e4 d st (Lib.split line [(32:UInt8)])).2.1=true:=by rw[←q1];exact hc
     rw[if_neg hc];dsimp only;rw[if_neg (show ¬(70:Int)=0 by decide),if_neg hc',if_neg (fun q=>hc' q.1)];rfl
  ·have hK:(i:Int)=((Lib.split s [(10:UInt8)]).length:Int)- 1:=by omega
   rw[if_neg hi,←hK];unfold Av;dsimp only;rw[←hK];by_cases hq:(¬ix (Lib.split s [(10:UInt8)]) (i:Int)= [])∨ ¬st=4
   ·rw[if_pos hq,if_pos ⟨rfl,by rcases hq with h|h;exact .inl h;exact .inr (by omega)⟩]
   ·rw[if_neg hq,if_neg (fun q=>hq (by rcases q.2 with h|h;exact .inl h;exact .inr (by omega))),if_pos rfl];exact⟨_,_,rfl⟩
theorem wU{s:List UInt8}:(aU s).1=(bY s).1∧(aU s).2.1=(bY s).2.1∧p5 (aU s).2.2=(bY s).2.2:=by
 unfold aU bY;rw[nh];by_cases h1:(65536:Int)<(s.length:Int)
 ·rw[if_pos h1,if_pos h1];exact⟨rfl,rfl,rfl⟩
 rw[if_neg h1,if_neg h1];have hq:=bD s 10;by_cases h2:(600:Int)<((Lib.split s [(10:UInt8)]).length:Int)- 1
 ·rw[if_pos h2,if_pos (show(601:Int)<_ by omega)];exact⟨rfl,rfl,rfl⟩
 rw[if_neg h2,if_neg (show ¬(601:Int)<_ by omega)];have hlen:((List.take (((Lib.split s [(10:UInt8)]).length:Int)-(1:Int)).toNat (Lib.split s [(10:UInt8)])).length:Int)=((Lib.split s [(10:UInt8)]).length:Int)- 1:=by rw[List.length_take];omega
 have hf1:(((List.take (((Lib.split s [(10:UInt8)]).length:Int)-(1:Int)).toNat (Lib.split s [(10:UInt8)])).length:Int)-(0:Int)).toNat+1=(Lib.split s [(10:UInt8)]).length:=by rw[hlen];omega
 have hf2:(((Lib.split s [(10:UInt8)]).length:Int)-(0:Int)).toNat+1=(Lib.split s [(10:UInt8)]).length+1:=by omega
 rw[hf1,hf2];have hL:=km s (Lib.split s [(10:UInt8)]).length 0 [] [] [] [] 0 (ak.mk 0 0) 0 (by decide) (by omega) (by omega);have hL:Av s (cT s (Lib.split s [(10:UInt8)]).length [] [] [] [] 0 0 (ak.mk 0 0) 0) (cY s ((Lib.split s [(10:UInt8)]).length+1) [] [] [] 0 0 0 (ak.mk 0 0) []):=hL;revert hL;cases cT s (Lib.split s [(10:UInt8)]).length [] [] [] [] 0 0 (ak.mk 0 0) 0 with
 |inl a=>intro hL;have hL:_=_:=hL;rw[hL];exact⟨rfl,rfl,rfl⟩
 |inr a=>
  obtain⟨e2,e3,e4,e5,k,c,d,st⟩:=a;intro hL;unfold Av at hL;dsimp only at hL⊢;by_cases hq:(¬ix (Lib.split s [(10:UInt8)]) (((Lib.split s [(10:UInt8)]).length:Int)- 1)= [])∨ ¬st=4
  ·rw[if_pos hq]at hL⊢;rw[hL];exact⟨rfl,rfl,rfl⟩
  ·rw[if_neg hq]at hL⊢;obtain⟨q1,q2,hL⟩:=hL;rw[hL];exact⟨rfl,rfl,rfl⟩
end Go.Proofs.YtfgofabojepcmaaGreatDoor.V
end

section
set_option linter.unusedVariables false
set_option linter.unusedSimpArgs false
namespace Go.Proofs.YtfgofabojepcmaaGreatDoor.V
open Go.RowKit
theorem mS(a:List Int):iY a a=true:=by
 unfold iY;rw[if_pos rfl];obtain⟨q,h⟩:=dk a (fun _=>true) false (fZ a a) (fun fuel i _=>by rw[fZ];split<;>simp);rw[h,if_pos (by simp)]
theorem mT(a:List (List UInt8)):iZ a a=true:=by
 unfold iZ;rw[if_pos rfl];obtain⟨q,h⟩:=dk a (fun _=>true) false (f5 a a) (fun fuel i _=>by rw[f5];split<;>simp);rw[h,if_pos (by simp)]
theorem qi(a:List ah):gH a a=true:=by
 unfold gH;rw[if_pos rfl];obtain⟨q,h⟩:=dk a (fun _=>true) false (eY a a) (fun fuel i _=>by rw[eY];split<;>simp[mT]);rw[h,if_pos (by simp)]
theorem qj(a:ap):iF a a=true:=by
 unfold iF;rw[if_neg (by simp[qi])];obtain⟨q,h⟩:=dk a.groups (fun _=>true) false (eZ a a) (fun fuel i _=>by rw[eZ];split<;>simp[mS]);rw[h,if_pos (by simp)]
theorem qk(a:ax):iG a a=true:=by
 unfold iG;simp[mT,mS]
theorem rD(s:List UInt8):iM s=true:=by
 obtain⟨h1,h2,h3⟩:=wU (s:=s);unfold iM;split
 ·rfl
 ·rw[if_neg (by rw[h1,h2,h3,qj];simp)];obtain⟨q,h⟩:=dk (aU s).2.1 (fun _=>true) false (dS s) (fun fuel i _=>by
   rw[dS,h2];split<;>simp[qk])
  rw[h,if_pos (by simp)]
end Go.Proofs.YtfgofabojepcmaaGreatDoor.V
end

section
namespace Go.Proofs.YtfgofabojepcmaaGreatDoor
open Go.ChangeShapes Go.WideShapes Go.ChangeAt Go.RowKit Go.Joins
theorem Tryz.own':ownKnob Tryz.prog.godebug=none:=by kernel_rfl
theorem Tryz.laidOut':laidOutB Tryz.prog=true:=by kernel_rfl
def mJ(P:Program)(ts:List TypeId):Bool:=ts.all fun t=>P.readableRec t&&decide (t<P.types.size)
theorem jh{H:Type}{enc:TypeId×Value→H}{P:Program}(hl:laidOutB P=true){W W':World}(hb:Below W.heap.size W W'):
  ∀(ts:List TypeId) (vs:List Value) (ds:List (DataW H)) (ps:List MemPlace),mJ P ts=true→DataW.TrodAll enc P W 0 (fun _=>true) true ts vs ds ps→(∀x∈ps,x.block<W.heap.size)→
   DataW.TrodAll enc P W' 0 (fun b=>decide (b<W.heap.size)) true ts vs ds ps
 | [],_,_,_,_,h,_=>by
  obtain⟨rfl,rfl,rfl⟩:=trodAll_nil h;exact trodAll_mk0
 |t::ts,_,_,_,hr,h,hlt=>by
  obtain⟨v,vs,d,ds,p,q,rfl,rfl,rfl,h0,h1⟩:=trodAll_cons h;simp only[mJ,List.all_cons,Bool.and_eq_true,decide_eq_true_eq]at hr;exact trodAll_cons_mk (Below.trod hl hr.1.1 hr.1.2 h0 hb fun x hx=>hlt x (List.mem_append_left _ hx))
   (jh hl hb ts vs ds q (by unfold mJ;simpa using hr.2) h1 fun x hx=>hlt x (List.mem_append_right _ hx))
theorem wo{H:Type}{enc:TypeId×Value→H}{f:Func}{s:ChangeSpec}{W W':World}{args:Array Value}{ds gs:List (DataW H)}{before:List MemPlace}{tb:TypeId}
  (hv:s.vars= []) (hW:DataW.Whole enc Tryz.prog f.params.toList s.vars false W args.toList ds gs before) (hfn:s.fn H ds={results:= [.lit (.bool true)],args:=ds})
  (hr:f.resultTypes= #[tb]) (htb:Tryz.prog.underlying tb=some .bool) (hread:mJ Tryz.prog f.params.toList=true) (hb:Below W.heap.size W W'):
  s.post enc Tryz.prog f false true false false W args (.bool true) W':=by
 have hlt: ∀x∈before,x.block<W.heap.size:=fun x hx=>hW.lt x hx;obtain⟨p,q,hA,hV,hps,hfz,hnd⟩:=id hW;rw[hv]at hV;obtain⟨rfl,rfl⟩:=trodVars_none hV;rw[List.append_nil]at hps;subst hps;refine⟨ds,[],before,[],before,[],hW,?_,?_,?_,?_,fun h=>by cases h⟩
 ·rw[List.append_nil,hfn,hr];exact trodAll_mk1 (shut_bool htb true)
 ·rw[List.append_nil,hfn];exact jh Tryz.laidOut' hb _ _ _ _ hread hA hlt
 ·rw[List.append_nil,hfn,hv];rfl
 ·exact World.keptBut_mono (fun x hx=>hx.elim) (hb.frame (fun _=>False))
def wq(f:Func)(W:World)(args:Array Value):Prop:= ∃(H:Type) (enc:TypeId×Value→H) (base:Nat) (ds:List (DataW H)) (p:List MemPlace),
 (∀(j:Nat) t v,f.params[j]? =some t→args[j]? =some v→Value.okWide Tryz.prog W .any base t v)∧DataW.TrodAll enc Tryz.prog W 0 (fun _=>true) true f.params.toList args.toList ds p∧ ∀x∈p,x.block<W.heap.size
theorem wr(s:ByteArray): ∃l:List UInt8,s=⟨l.toArray⟩:=⟨s.data.toList,by cases s;simp⟩
end Go.Proofs.YtfgofabojepcmaaGreatDoor
end

section
set_option linter.unusedVariables false
set_option linter.unusedSimpArgs false
namespace Go.Proofs.YtfgofabojepcmaaGreatDoor
open Go.ChangeShapes Go.WideShapes Go.ChangeAt Go.RowKit Go.Joins
theorem zX{P:Program}{w:World}{base t:Nat}{v:Value}{s:List UInt8}(ht:P.underlying t=some .string)(hv:Value.okWide P w .any base t v)(h:v.cells.toList= [sv s]):v=sv s:=by
 unfold Value.okWide at hv;rw[ht]at hv;cases v<;>first|(simp[Value.cells]at h;done)|(simpa[Value.cells]using h)|(simp[Cell.okWide,ht,Cell.ok]at hv;done)
theorem zY{l:Nat}(h:l≤maxLen):l≤9223372036854775807:=by unfold maxLen at h;omega
section
variable {H:Type} {enc:TypeId×Value→H} {W:World}
end
end Go.Proofs.YtfgofabojepcmaaGreatDoor
end

section
set_option linter.unusedVariables false
set_option linter.unusedSimpArgs false
namespace Go.Proofs.YtfgofabojepcmaaGreatDoor.V
open Go.ChangeShapes Go.WideShapes Go.ChangeAt Go.RowKit Go.Joins
def ID(P:Program)(U:bJ)(W:World)(t:Nat)(s:bj):Prop:= ∀(H:Type) (enc:TypeId×Value→H) (fuel:Nat) (cs:List Value) (x:DataW H×List MemPlace),DataW.trod enc P W 0 (fun _=>true) true fuel t cs=some x→ ∃m:TT U.ty s,aG U gB (· =W) s m cs
section
variable {P:Program} {U:bJ} {W:World}
theorem yi{t:Nat}(hu:P.underlying t=some .string):ID P U W t .str:=fun H enc fuel cs x h=>by
 obtain⟨s0,e,_,hs⟩:=DataW.trod_string hu h;obtain⟨l,rfl⟩:=wr s0;subst e;exact⟨l,aG.str l (zY (by simpa[ByteArray.size]using hs))⟩
inductive uH(P:Program)(U:bJ)(W:World):List Field→List (Nat×bj)→Nat→Prop
 |nil (o:Nat):uH P U W [] [] o
 |cons (f:Field) (r:List Field) (k:Nat) (s:bj) (q:List (Nat×bj)) (o:Nat) (ho:f.offset=o) (hk:P.cellsOf f.type=k) (hs:ID P U W f.type s) (hr:uH P U W r q (o+k)):uH P U W (f::r) ((k,s)::q) o
end
end Go.Proofs.YtfgofabojepcmaaGreatDoor.V
end

section
namespace Go.Proofs.YtfgofabojepcmaaGreatDoor
open Go.ChangeShapes Go.WideShapes Go.ChangeAt Go.RowKit Go.Joins
set_option maxRecDepth 100000 in
theorem tN{f:FuncId}{fn:Func}{s:ChangeSpec}{tb:TypeId}{laid:List (String×DataW Unit)}(hfn:Tryz.prog.funcs[f]? =some fn)(hinit:Tryz.prog.inits.idxOf? f=none)(hv:s.vars= [])(hr:fn.resultTypes= #[tb])(htb:Tryz.prog.underlying tb=some .bool)(hread:mJ Tryz.prog fn.params.toList=true)
  (hspec: ∀(H:Type) (ds:List (DataW H)),ds.length=fn.params.toList.length→s.fn H ds={results:= [.lit (.bool true)],args:=ds})
  (walk: ∀(W:World) (args:Array Value),wq fn W args→W.ShapedOpen Tryz.prog→laidMetH Tryz.prog laid W→Fn Tryz.prog f args.toList W fun v w'=>v= .bool true∧Fr [] W w')
  (os:Os) (started:os.Started) (H:Type) (enc:TypeId×Value→H)
  (witness: ∃(w:World) (tape:Tape) (i:Input),w.os=os∧(w.forCall tape i).Shaped Tryz.checked.prog∧i.vars= []∧Input.okWide Tryz.checked.prog (w.forCall tape i) .any w.heap.size f i∧
   ((s.pre enc Tryz.checked.prog fn [] false (w.forCall tape i).memory i.args∧laidMetH Tryz.prog laid (w.forCall tape i).memory)∧sizedMet enc Tryz.checked.prog fn (OpenSpec.ofChange s) false (w.forCall tape i).memory i.args)∧({}:Assume).holds Tryz.checked.prog (lone (Frame.enter Tryz.checked.prog f i.args .normal) [] (w.forCall tape i))):
  ReturnsInHanded {} Tryz.checked os f .any (fun w args=>(s.pre enc Tryz.prog fn [] false w args∧laidMetH Tryz.prog laid w)∧sizedMet enc Tryz.prog fn (OpenSpec.ofChange s) false w args) (s.post enc Tryz.prog fn false true false false):=by
 refine returnsInHanded_of_calls Tryz.own' started hinit witness ?_;intro w tape i _ hsh _ hok hpre hholds;obtain⟨_,_,_,fn',hfn',_,_,_,_,hval⟩:=hok;have e:fn'=fn:=Option.some.inj (hfn'.symm.trans hfn);subst e;obtain⟨⟨⟨ds,gs,before,hw,hc⟩,hx⟩,hz⟩:=hpre;have hw':=DataW.Whole.of_heap (w':=w.forCall tape i) (by rfl) hw;have hX:laidMetH Tryz.prog laid (w.forCall tape i):=hx.of_heap (by rfl);have hW':DataW.Whole enc Tryz.prog fn'.params.toList s.vars false (w.forCall tape i) i.args.toList ds gs before:=hw';have hlt: ∀x∈before,x.block<(w.forCall tape i).heap.size:=fun x hx=>hW'.lt x hx;obtain⟨p,q,hA,hV,hps,_,_⟩:=id hW';have hlen:ds.length=fn'.params.toList.length:=by
  have key: ∀(W:World) (ts:List TypeId) (vs:List Value) (ds:List (DataW H)) (ps:List MemPlace),DataW.TrodAll enc Tryz.prog W 0 (fun _=>true) true ts vs ds ps→ds.length=ts.length:=by
   intro W ts;induction ts with
   |nil=>intro vs ds ps h;obtain⟨_,rfl,_⟩:=trodAll_nil h;rfl
   |cons t ts ih=>intro vs ds ps h;obtain⟨v,vs,d,ds,p,q,rfl,rfl,rfl,_,h1⟩:=trodAll_cons h;simp[ih _ _ _ h1]
  exact key _ _ _ _ _ hA
 have hcl:=(walk (w.forCall tape i) i.args ⟨H,enc,w.heap.size,ds,p,hval,hA,fun x hx=>hlt x (by rw[hps];exact List.mem_append_left _ hx)⟩ hsh hX).2;rw[Array.toArray_toList]at hcl;refine Calls.mono hcl fun e W' ⟨v,he,hv',hF⟩=>?_;subst he;subst hv';exact ChangeSpec.post_blind (wo hv hW' (hspec H ds hlen) hr htb hread hF.below)
end Go.Proofs.YtfgofabojepcmaaGreatDoor
end

section
set_option linter.unusedVariables false
set_option linter.unusedSimpArgs false
namespace Go.Proofs.YtfgofabojepcmaaGreatDoor.V
open Go.ChangeShapes Go.WideShapes Go.ChangeAt Go.RowKit Go.Joins
theorem Ax{f:FuncId}{c:bZ U}{xs:List (Va U)}{vs:List Value}{W:World}(hk:aQ Tryz.prog U f c)(hg:Gv W)(hv: ∀(F:al) (ρ:Nat→Rz),bB (@Vw F U gB W ρ 0 []) xs vs)
  (hr:c.run xs [] fun r es=>r= .v ⟨false,[(1,.d .bool true)]⟩∧es= []):Fn Tryz.prog f vs W fun v w'=>v= .bool true∧Fr [] W w':=by
 obtain⟨b,bx,bp⟩: ∃b:Bx,b.f.xf=gB∧b.f.pr=Tryz.prog:=⟨⟨⟨gB,Tryz.prog⟩⟩,rfl,rfl⟩;have M:=zm (F0:=b.f) (U:=U) (X:=gB) (w:=W) (ρ0:=fun _=>rz none 0) (fun x hx=>hg.lt x hx) (fun z hz=>bx▸hz) ⟨fun z hz=>bx▸hz,fun w hw=>hw▸hg⟩;refine Fn.mono (@hk b.f bp gB W _ [] xs vs _ M (hv b.f _) hr) fun v w'=>?_;rintro⟨r,es',ρ',⟨rfl,rfl⟩,hav,M',st⟩;have st:=bP.i (F0:=b.f) st;exact⟨@nP dfs0 b.f _ _ _ _ _ _ 1 true v hav,st.fr⟩
set_option maxRecDepth 20000
theorem o9{W:World}:ID Tryz.prog U W 9 .str:=yi Tryz.underlying9
theorem iv{P:Program}{W:World}{n:String}{d:DataW Unit}: ∀{l:List (String×DataW Unit)} {ps:List MemPlace},DataW.LaidVars P W l ps→(n,d)∈l→
  ∃g t cs fuel p,P.globalNamed n=some g∧(P.globals[g]?).map (·.type)=some t∧W.var? P n=some cs∧DataW.trod (fun _=>()) P W 0 (fun _=>true) false fuel t cs.toList=some (d,p)
 | [],_,_,h=>by cases h
 |(m,e)::r,ps,⟨g,t,cs,fu,p,q,e1,e2,e3,e4,hr,_⟩,h=>by
  rcases List.mem_cons.1 h with h|h
  ·obtain⟨rfl,rfl⟩:=Prod.mk.inj h;exact⟨g,t,cs,fu,p,e1,e2,e3,e4⟩
  ·exact iv hr h
theorem wV{P:Program}{W:World}{n:String}{g:Nat}{cs:Array Value}(hg:P.globalNamed n=some g)(h:W.var? P n=some cs): ∃t o,W.heap[g]? =some (.cells cs t o):=by
 simp only[World.var?,hg,Option.bind_some]at h;split at h
 ·rename_i c t o hb;cases h;exact⟨t,o,hb⟩
 ·cases h
theorem ql{P:Program}{W:World}{n nm:String}{g t:Nat}{d:DataW Unit}{ms:Array (String×TypeId)}{l:List (String×DataW Unit)}(h:laidMet P l W)(hm:(n,DataW.iface nm d)∈l)
  (hg:P.globalNamed n=some g) (ht:(P.globals[g]?).map (·.type)=some t) (hu:P.underlying t=some (.interface ms)): ∃u v,W.cell? ⟨g,0,none⟩=some (.iface u v):=by
 obtain⟨ps,hl,_⟩:=h;obtain⟨g',t',cs,fu,p,e1,e2,e3,e4⟩:=iv hl hm;obtain rfl:=Option.some.inj (hg.symm.trans e1);obtain rfl:=Option.some.inj (ht.symm.trans e2);obtain⟨fu',u,v,e,_⟩:=iface_of_trod hu e4;refine⟨u,v,?_⟩;rw[World.var?_cell hg e3 0,←Array.getElem?_toList,e];rfl
theorem Mz:Tryz.prog.globalNamed "errors.errorType" =some 0:=by kernel_rfl
theorem MA:(Tryz.prog.cutTypes.find? (·.1== "internal/reflectlite.rtype")).map (·.2)=some 349:=by kernel_rfl
theorem Ay:((List.range Tryz.prog.types.size).filter fun t=>Tryz.prog.rowNamed t [101,114,114,111,114])= [64]:=by kernel_rfl
theorem ub{W:World}{l:List (String×DataW Unit)}(h:handlesMet Tryz.prog l W)(hm:("errors.errorType",(Rows.laid_errors_errorType:DataW Unit))∈l):W.cell? ⟨0,0,none⟩=some (.iface 349 (.agg #[.pointer (some ⟨9,64,none⟩)])):=by
 have h':=h _ hm;obtain⟨name,u,ty,e1,e2,e3,e4,e5⟩:=h';have en:name= [101,114,114,111,114]:=(Option.some.inj e1).symm;subst en;obtain rfl:=Option.some.inj (MA.symm.trans e2);have hm:ty∈(List.range Tryz.prog.types.size).filter fun t=>Tryz.prog.rowNamed t [101,114,114,111,114]:=List.mem_filter.2 ⟨List.mem_range.2 e3,e4⟩;rw[Ay]at hm;obtain rfl:=List.mem_singleton.1 hm;have hh:typeHandle Tryz.prog 64= .pointer (some ⟨9,64,none⟩):=by kernel_rfl
 rw[hh]at e5;simpa using World.var?_cell Mz e5 0
abbrev iw:List (String×DataW Unit):=Rows.scriptParsesRow.laid.filter fun x=>x.2.handleName?.isNone
theorem GD{W:World}(hsh:W.ShapedOpen Tryz.prog)(h:laidMetH Tryz.prog Rows.scriptParsesRow.laid W):Gv W:=by
 obtain⟨hd,hh⟩:=laidMetH_iff.1 h;refine⟨ub hh (List.mem_of_getElem? (i:=0) (by kernel_rfl)),Tryz.laysM219.s1_3 W hsh,?_,?_,?_⟩
 ·exact ql (n:= "strconv.ErrSyntax") (nm:= "*errors.errorString") (d:= .ptr (.agg [.lit (.string [105,110,118,97,108,105,100,32,115,121,110,116,97,120])])) hd (List.mem_of_getElem? (i:=5) (by kernel_rfl)) (by kernel_rfl) (by kernel_rfl) Tryz.underlying64
 ·exact ql (n:= "strconv.ErrRange") (nm:= "*errors.errorString") (d:= .ptr (.agg [.lit (.string [118,97,108,117,101,32,111,117,116,32,111,102,32,114,97,110,103,101])])) hd (List.mem_of_getElem? (i:=4) (by kernel_rfl)) (by kernel_rfl) (by kernel_rfl) Tryz.underlying64
 ·obtain⟨ps,hl,_⟩:=hd;obtain⟨g',t',cs,fu,p,e1,e2,e3,e4⟩:=iv (n:= "internal/strconv.uint64pow10") (d:=Lib.tabData .u64 Lib.pow10Tab) hl (List.mem_of_getElem? (i:=2) (by kernel_rfl));have hg:Tryz.prog.globalNamed "internal/strconv.uint64pow10" =some 6:=by kernel_rfl
  obtain rfl:=Option.some.inj (hg.symm.trans e1);have ht:(Tryz.prog.globals[6]?).map (·.type)=some 512:=by kernel_rfl
  obtain rfl:=Option.some.inj (ht.symm.trans e2);have e:=Lib.cells_of_tab Tryz.underlying512 (show Tryz.prog.underlying 270=some (.int .u64)by kernel_rfl) (by kernel_rfl) (by kernel_rfl) e4;obtain⟨t,o,hb⟩:=wV hg e3;refine⟨t,o,?_⟩;rw[hb,←e]
end Go.Proofs.YtfgofabojepcmaaGreatDoor.V
end

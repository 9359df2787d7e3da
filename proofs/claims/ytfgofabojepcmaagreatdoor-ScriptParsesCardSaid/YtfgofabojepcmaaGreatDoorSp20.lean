/- Functions walked: printed by the walker. -/
import Derived.Test.YtfgofabojepcmaaGreatDoorSp15
import Derived.Test.YtfgofabojepcmaaGreatDoorSp16
import Derived.Test.YtfgofabojepcmaaGreatDoorSp19
import Derived.Test.YtfgofabojepcmaaGreatDoorSp17
section
set_option linter.unusedVariables false
set_option linter.unusedSimpArgs false
set_option maxRecDepth 20000
set_option maxHeartbeats 4000000
namespace Go.Proofs.YtfgofabojepcmaaGreatDoor.V
open Go.RowKit
def Gt:bS U:= []
theorem wt:ay Tryz.prog U Gt:=am
def dV(l:List (List UInt8))(f:List UInt8→Bool):Nat→Int→Int⊕(Int)
 |0,s8=> .inr s8
 |n1+1,s8=>
  if s8<(↑l.length:Int)then
   if f (ix l s8)=true then
    .inl s8
   else
    dV l f n1 (s8+(1:Int))
  else
   .inr s8
def iP(l:List (List UInt8))(f:(List UInt8)→Bool):Int:=
 match dV l f (((↑l.length:Int)-(0:Int)).toNat+1) (0:Int)with
 | .inl r=>r
 | .inr s8=>
  (-1:Int)
def B5:bZ U:=⟨[.n,.f1 .str],fun xs es K=> ∃(l:List (List UInt8)) (f:(List UInt8)→Bool),xs= [⟨false,[(1,.own 0 0)]⟩,⟨false,[(1,.f1 .str f)]⟩]∧es= [.row 0 .str l 9]∧(∀p∈l,p.length≤1000000)∧K (.v ⟨false,[(1,.d (.int .i64) (iP l f))]⟩) [.row 0 .str l 9]⟩
theorem Gu:aQ Tryz.prog U 292 B5:=by
 refine aT (fn:=Tryz.f292) wt aC (by kernel_rfl) Tryz.f292.ntmps [.d (.int .i64)] [] (by kernel_rfl) (by kernel_rfl) rfl rfl (by kernel_rfl) (fun xs es K=>?_);rintro⟨l,f,rfl,rfl,hl,h⟩;refine⟨rfl,?_⟩;have hf0:=iP.eq_1 l f;refine fun h0=>?_;have h0:(↑l.length:Int)≤(9223372036854775807:Int):=h0.2;refine⟨Int,1,fun(s8:Int)=> [(0,.v ⟨false,[(1,.own 0 0)]⟩),(1,.v ⟨false,[(1,Cx.f1 bj.str f)]⟩),(7,.v ⟨false,[(1,.d (.int .i64) (↑l.length:Int))]⟩),(8,.v ⟨false,[(1,.d (.int .i64) s8)]⟩)],fun(s8:Int)=> [(0,.row 0 .str l 9)],aF (fun(s8:Int)=>((↑l.length:Int)- s8).toNat) (fun(s8:Int)=>((0:Int)≤s8)∧(s8≤(↑l.length:Int))∧True) (fun n1 (s8:Int)=>dV l f n1 s8) (dV l f (((↑l.length:Int)-(0:Int)).toNat+1) (0:Int)),fun(s8:Int)=>((↑l.length:Int)- s8).toNat,⟨[],(0:Int),aF.mk0 _ (Nat.lt_succ_self _) ⟨show(0:Int)≤(0:Int)from by omega,show(0:Int)≤(↑l.length:Int)from by omega,trivial⟩ rfl,?_⟩,?_⟩
 ·repeat (first|exact trivial|refine And.intro rfl ?_)
 ·rintro s8 ⟨n1,hc1,⟨hi1_0,hi1_1,-⟩,hf1⟩;have hf1:=hf1.trans (dV.eq_2 l f s8 n1);refine vI hf1 iD (fun h1 hf1=>?_) (fun h1 hf1=>?_)
  ·refine And.intro (show(0:Int)≤s8∧s8<(↑l.length:Int)from by omega) ?_;refine And.intro (show(ix l s8).length≤(1000000:Nat)from dK (by assumption) (by omega) (by omega)) ?_;refine vI hf1 iB (fun h2 hf1=>?_) (fun h2 hf1=>?_)
   ·rw[hf1]at hf0;rw[hf0]at h;exact h
   ·refine .inl (And.intro (eb (p:=s8) (q:=(1:Int)) (r:=s8+(1:Int)) (by omega)) ?_);have hm1:((↑l.length:Int)-(s8+(1:Int))).toNat<((↑l.length:Int)- s8).toNat:=by omega
    refine⟨[],s8+(1:Int),hm1,aF.next (s:=s8) hc1 hm1 ⟨show(0:Int)≤s8+(1:Int)from by omega,show s8+(1:Int)≤(↑l.length:Int)from by omega,trivial⟩ hf1,?_⟩;repeat (first|exact trivial|refine And.intro rfl ?_)
  ·rw[hf1]at hf0;rw[hf0]at h;exact h
def Gw:bS U:= [(292,B5)]
theorem wu:ay Tryz.prog U Gw:=ae Gu (am)
def eu(l:List (List UInt8))(f:(List UInt8)→Bool):Bool:=
 decide ((0:Int)≤iP l f)
def B6:bZ U:=⟨[.n,.f1 .str],fun xs es K=> ∃(l:List (List UInt8)) (f:(List UInt8)→Bool),xs= [⟨false,[(1,.own 0 0)]⟩,⟨false,[(1,.f1 .str f)]⟩]∧es= [.row 0 .str l 9]∧(∀p∈l,p.length≤1000000)∧K (.v ⟨false,[(1,.d .bool (eu l f))]⟩) [.row 0 .str l 9]⟩
theorem Gx:aQ Tryz.prog U 231 B6:=by
 refine aT (fn:=Tryz.f231) wu aC (by kernel_rfl) Tryz.f231.ntmps [.d .bool] [] (by kernel_rfl) (by kernel_rfl) rfl rfl (by kernel_rfl) (fun xs es K=>?_);rintro⟨l,f,rfl,rfl,hl,h⟩;refine⟨rfl,?_⟩;have hf0:=eu.eq_1 l f;refine⟨_,_,rfl,rfl,(by omega),?_⟩;rw[hf0]at h;exact h
end Go.Proofs.YtfgofabojepcmaaGreatDoor.V
end

section
set_option linter.unusedVariables false
set_option linter.unusedSimpArgs false
set_option maxRecDepth 20000
set_option maxHeartbeats 4000000
namespace Go.Proofs.YtfgofabojepcmaaGreatDoor.V
open Go.RowKit
def JV:bS U:= [(297,Gj)]
theorem Al:ay Tryz.prog U JV:=ae JL (am)
def ke(p:List UInt8)(key:List UInt8):Bool:=
 eS key p
def Gq:bZ U:=⟨[.d .str,.n],fun xs es K=> ∃(p:List UInt8) (key:List UInt8),xs= [⟨false,[(1,.d .str p)]⟩,⟨false,[(1,.pd .str key)]⟩]∧es= []∧(p.length≤1000000)∧K (.v ⟨false,[(1,.d .bool (ke p key))]⟩) []⟩
theorem JW:aQ Tryz.prog U 296 Gq:=by
 refine aT (fn:=Tryz.f296) Al aC (by kernel_rfl) Tryz.f296.ntmps [.d .bool] [] (by kernel_rfl) (by kernel_rfl) rfl rfl (by kernel_rfl) (fun xs es K=>?_);rintro⟨p,key,rfl,rfl,hp,h⟩;refine⟨rfl,?_⟩;have hf0:=ke.eq_1 p key;refine⟨_,_,rfl,rfl,(by omega),?_⟩;rw[hf0]at h;exact h
def JX:bS U:= [(231,B6),(296,Gq)]
theorem Am:ay Tryz.prog U JX:=ae Gx (ae JW (am))
def mL(l:List (List UInt8))(key:List UInt8):Bool:=
 eu l fun(t:List UInt8)=>ke t key
def Gr:bZ U:=⟨[.n,.d .str],fun xs es K=> ∃(l:List (List UInt8)) (key:List UInt8),xs= [⟨false,[(1,.own 0 0)]⟩,⟨false,[(1,.d .str key)]⟩]∧es= [.row 0 .str l 9]∧(∀p∈l,p.length≤1000000)∧K (.v ⟨false,[(1,.d .bool (mL l key))]⟩) [.row 0 .str l 9]⟩
theorem JY:aQ Tryz.prog U 237 Gr:=by
 refine aT (fn:=Tryz.f237) Am aC (by kernel_rfl) Tryz.f237.ntmps [.d .bool] [] (by kernel_rfl) (by kernel_rfl) rfl rfl (by kernel_rfl) (fun xs es K=>?_);rintro⟨l,key,rfl,rfl,hl,h⟩;refine⟨rfl,?_⟩;have hf0:=mL.eq_1 l key;refine⟨fun(t:List UInt8)=>ke t key,fun t0 ht0=>⟨_,_,rfl,rfl,(by omega),rfl,rfl⟩,?_⟩;refine⟨_,_,rfl,rfl,(by omega),?_⟩;rw[hf0]at h;exact h
def JZ:bS U:= [(235,FY),(236,FZ),(237,Gr)]
theorem Ao:ay Tryz.prog U JZ:=ae Jb (ae Jd (ae JY (am)))
def di(l:List (List UInt8)):Nat→(List (List UInt8))→Int→(List (List UInt8))⊕((List (List UInt8))×Int)
 |0,s4,s12=> .inr (s4,s12)
 |n1+1,s4,s12=>
  if s12<(↑(bE l).length:Int)then
   if mL s4 (ix (bE l) s12)=true then
    di l n1 s4 (s12+(1:Int))
   else
    di l n1 (s4++ [ix (bE l) s12]) (s12+(1:Int))
  else
   .inr (s4,s12)
def gA(l:List (List UInt8)):List (List UInt8):=
 match di l (((↑(bE l).length:Int)-(0:Int)).toNat+1) ([]:List (List UInt8)) (0:Int)with
 | .inl r=>r
 | .inr (s4,s12)=>
  s4
def Gs:bZ U:=⟨[.d (.sl .str)],fun xs es K=> ∃(l:List (List UInt8)),xs= [⟨false,[(1,.d (.sl .str) l)]⟩]∧es= []∧(l.length≤1000000)∧(∀p∈l,p.length≤1000000)∧K (.v ⟨false,[(1,.d (.sl .str) (gA l))]⟩) []⟩
theorem J0:aQ Tryz.prog U 152 Gs:=by
 refine aT (fn:=Tryz.f152) Ao aC (by kernel_rfl) Tryz.f152.ntmps [.d (.sl .str)] [] (by kernel_rfl) (by kernel_rfl) rfl rfl (by kernel_rfl) (fun xs es K=>?_);rintro⟨l,rfl,rfl,hl2,hl,h⟩;refine⟨rfl,?_⟩;have hf0:=gA.eq_1 l;refine⟨_,rfl,rfl,?_⟩;refine⟨_,rfl,rfl,(by omega),?_⟩;refine fun h0=>?_;have h0:(↑(bE l).length:Int)≤(9223372036854775807:Int):=h0.2;refine⟨(List (List UInt8))×Int,3,fun(s4,s12)=> [(4,.v ⟨false,[(1,.own 2 0)]⟩),(10,.v ⟨false,[(1,.own 1 0)]⟩),(11,.v ⟨false,[(1,.d (.int .i64) (↑(bE l).length:Int))]⟩),(12,.v ⟨false,[(1,.d (.int .i64) s12)]⟩)],fun(s4,s12)=> [(1,.row 0 .str (bE l) 9),(2,.row 0 .str s4 9)],aF (fun(s4,s12)=>((↑(bE l).length:Int)- s12).toNat) (fun(s4,s12)=>((0:Int)≤s12)∧(s12≤(↑(bE l).length:Int))∧((s4.length:Int)≤s12)∧(∀p∈s4,p.length≤1000000)∧True) (fun n1 (s4,s12)=>di l n1 s4 s12) (di l (((↑(bE l).length:Int)-(0:Int)).toNat+1) ([]:List (List UInt8)) (0:Int)),fun(s4,s12)=>((↑(bE l).length:Int)- s12).toNat,⟨[],(([]:List (List UInt8)),(0:Int)),aF.mk0 _ (Nat.lt_succ_self _) ⟨show(0:Int)≤(0:Int)from by omega,show(0:Int)≤(↑(bE l).length:Int)from by omega,show(↑[].length:Int)≤(0:Int)from by(simp only[List.length_append,List.length_cons,List.length_nil];omega),show ∀(p:List UInt8),p∈ []→p.length≤(1000000:Nat)from by simp,trivial⟩ rfl,?_⟩,?_⟩
 ·repeat (first|exact trivial|refine And.intro rfl ?_)
 ·rintro⟨s4,s12⟩ ⟨n1,hc1,⟨hi1_0,hi1_1,hi1_2,hi1_3,-⟩,hf1⟩;have hf1:=hf1.trans (di.eq_2 l s4 s12 n1);refine vI hf1 iD (fun h1 hf1=>?_) (fun h1 hf1=>?_)
  ·refine And.intro (show(0:Int)≤s12∧s12<(↑(bE l).length:Int)from by omega) ?_;refine⟨_,_,rfl,rfl,(by omega),?_⟩;refine vN hf1 (iN iB) (fun h2 hf1=>?_) (fun h2 hf1=>?_)
   ·refine And.intro (show(s4.length+ [ix (bE l) s12].length)*(16:Nat)≤(140737488355328:Nat)from by have hq:=fL l;simp only[List.length_cons,List.length_nil];omega) ?_;refine .inl (And.intro (eb (p:=s12) (q:=(1:Int)) (r:=s12+(1:Int)) (by omega)) ?_);have hm1:((↑(bE l).length:Int)-(s12+(1:Int))).toNat<((↑(bE l).length:Int)- s12).toNat:=by omega
    refine⟨[],(s4++ [ix (bE l) s12],s12+(1:Int)),hm1,aF.next (s:=(s4,s12)) hc1 hm1 ⟨show(0:Int)≤s12+(1:Int)from by omega,show s12+(1:Int)≤(↑(bE l).length:Int)from by omega,show(↑(s4++ [ix (bE l) s12]).length:Int)≤s12+(1:Int)from by(simp only[List.length_append,List.length_cons,List.length_nil];omega),show ∀(p:List UInt8),p∈s4++ [ix (bE l) s12]→p.length≤(1000000:Nat)from nR (by assumption) (dK (rj (by assumption)) (by omega) (by omega)),trivial⟩ hf1,?_⟩;repeat (first|exact trivial|refine And.intro rfl ?_)
   ·refine .inl (And.intro (eb (p:=s12) (q:=(1:Int)) (r:=s12+(1:Int)) (by omega)) ?_);have hm1:((↑(bE l).length:Int)-(s12+(1:Int))).toNat<((↑(bE l).length:Int)- s12).toNat:=by omega
    refine⟨[],(s4,s12+(1:Int)),hm1,aF.next (s:=(s4,s12)) hc1 hm1 ⟨show(0:Int)≤s12+(1:Int)from by omega,show s12+(1:Int)≤(↑(bE l).length:Int)from by omega,show(↑s4.length:Int)≤s12+(1:Int)from by omega,show ∀(p:List UInt8),p∈s4→p.length≤(1000000:Nat)from by omega,trivial⟩ hf1,?_⟩;repeat (first|exact trivial|refine And.intro rfl ?_)
  ·rw[hf1]at hf0;rw[hf0]at h;exact h
end Go.Proofs.YtfgofabojepcmaaGreatDoor.V
end

section
set_option linter.unusedVariables false
set_option linter.unusedSimpArgs false
set_option maxRecDepth 20000
set_option maxHeartbeats 4000000
namespace Go.Proofs.YtfgofabojepcmaaGreatDoor.V
open Go.RowKit
def Mu:bS U:= [(150,Gf),(151,Gk),(152,Gs)]
theorem D6:ay Tryz.prog U Mu:=ae JG (ae JN (ae J0 (am)))
def gC(l:List (List UInt8)):Int:=
 if gx l (16:Int)=(0:Int)then
  if gy (gA l) l=true then
   (0:Int)
  else
   (3:Int)
 else
  gx l (16:Int)
def LP:bZ U:=⟨[.d (.sl .str)],fun xs es K=> ∃(l:List (List UInt8)),xs= [⟨false,[(1,.d (.sl .str) l)]⟩]∧es= []∧(l.length≤1000000)∧(∀p∈l,p.length≤1000000)∧K (.v ⟨false,[(1,.d (.int .i64) (gC l))]⟩) []⟩
theorem Mw:aQ Tryz.prog U 77 LP:=by
 refine aT (fn:=Tryz.f77) D6 aC (by kernel_rfl) Tryz.f77.ntmps [.d (.int .i64)] [] (by kernel_rfl) (by kernel_rfl) rfl rfl (by kernel_rfl) (fun xs es K=>?_);rintro⟨l,rfl,rfl,hl2,hl,h⟩;refine⟨rfl,?_⟩;have hf0:=gC.eq_1 l;refine⟨_,_,rfl,rfl,(by omega),?_⟩;refine vN hf0 iD (fun h0 hf0=>?_) (fun h0 hf0=>?_)
 ·rw[hf0]at h;exact h
 ·refine⟨_,rfl,rfl,(by omega),(by omega),?_⟩;refine⟨_,_,rfl,rfl,?_⟩;refine vN hf0 (iN iB) (fun h1 hf0=>?_) (fun h1 hf0=>?_)
  ·rw[hf0]at h;exact h
  ·rw[hf0]at h;exact h
end Go.Proofs.YtfgofabojepcmaaGreatDoor.V
end

section
set_option linter.unusedVariables false
set_option linter.unusedSimpArgs false
namespace Go.Proofs.YtfgofabojepcmaaGreatDoor.V
open Go.RowKit
theorem iR{α:Type} [Inhabited α](l:List α)(p:α→Bool)(L:Nat→Int→Int⊕Int)(hL: ∀fuel i,0≤i→L (fuel+1) i=if i<(l.length:Int)then(if p (ix l i)=true then .inl i else L fuel (i+1))else .inr i):
  ∀(fuel:Nat) (i:Int),0≤i→((l.length:Int)- i).toNat<fuel→((∃q,L fuel i= .inr q)∧(l.drop i.toNat).any p=false)∨(∃k:Int,L fuel i= .inl k∧0≤k∧(l.drop i.toNat).any p=true)
 |0,i,_,h=>by omega
 |fuel+1,i,h0,h=>by
  rw[hL fuel i h0];by_cases hi:i<(l.length:Int)
  ·rw[if_pos hi,kf l h0 hi,List.any_cons];by_cases hp:p (ix l i)=true
   ·rw[if_pos hp,hp];exact .inr ⟨i,rfl,h0,rfl⟩
   ·have hp2:p (ix l i)=false:=by simpa using hp
    rw[if_neg hp,hp2,Bool.false_or];exact iR l p L hL fuel (i+1) (by omega) (by omega)
  ·rw[if_neg hi];exact .inl ⟨⟨_,rfl⟩,by rw[List.drop_of_length_le (by omega)];rfl⟩
theorem ki(l:List (List UInt8))(f:List UInt8→Bool):d4 l f=l.any f:=by
 unfold d4 ka;rcases iR l f (eQ l f) (fun fuel i _=>by rw[eQ]) (((↑l.length:Int)-(0:Int)).toNat+1) 0 (Int.le_refl _) (by omega)with⟨⟨q,h⟩,h2⟩|⟨k,h,h0,h2⟩
 ·rw[h];have h2:l.any f=false:=h2;rw[h2];rfl
 ·rw[h];have h2:l.any f=true:=h2;rw[h2];simpa using h0
theorem nB(l:List (List UInt8))(f:List UInt8→Bool):eu l f=l.any f:=by
 unfold eu iP;rcases iR l f (dV l f) (fun fuel i _=>by rw[dV]) (((↑l.length:Int)-(0:Int)).toNat+1) 0 (Int.le_refl _) (by omega)with⟨⟨q,h⟩,h2⟩|⟨k,h,h0,h2⟩
 ·rw[h];have h2:l.any f=false:=h2;rw[h2];rfl
 ·rw[h];have h2:l.any f=true:=h2;rw[h2];simpa using h0
def yb(p:List UInt8):Bool:=decide (p= [])||gD p
def gi(p:List UInt8):Bool:=decide ((24:Int)<(p.length:Int))
theorem tW(p:List UInt8):((Lib.split p [(47:UInt8)]).any fun t=>fK t)=!gD p:=by
 rw[iX];unfold gD;rw[List.not_all_eq_any_not];congr 1;funext t;unfold fK;rw[wB]
theorem tX(l:List (List UInt8)):gx l 16=if(16:Int)<l.length∨l.any gi=true then 8 else if l.all yb=true then 0 else 3:=by
 unfold gx;rw[ki];have e1:(l.any fun t=>gw t)=l.any gi:=rfl;rw[e1];split
 ·rfl
 ·obtain⟨q,h⟩:=dk l yb (3:Int) (eR l) (fun fuel i _=>by
   rw[eR];split
   ·rw[ki,tW];unfold yb;by_cases h1:ix l i= []
    ·rw[if_neg (fun q=>q.1 h1),if_pos (by simp[h1])]
    ·cases hg:gD (ix l i)with
     |true=>rw[if_neg (fun q=>by simpa using q.2),if_pos (by simp)]
     |false=>rw[if_pos ⟨h1,by rfl⟩,if_neg (by simp[h1])]
   ·rfl)
  rw[h];cases l.all yb<;>rfl
theorem mQ(l:List (List UInt8)):(gz l 16=true)↔((16:Int)<l.length∨l.any gi=true):=by
 unfold gz;obtain⟨q,h⟩:=dk l (fun p=>!gi p) true (dU l 16) (fun fuel i _=>by
  rw[dU];split
  ·unfold gi;by_cases h1:(24:Int)<((ix l i).length:Int)
   ·rw[if_pos h1,if_neg (by simpa using h1)]
   ·rw[if_neg h1,if_pos (by simpa using h1)]
  ·rfl)
 rw[h];have e:(l.all fun p=>!gi p)=!l.any gi:=by rw[List.not_any_eq_all_not]
 rw[e];cases l.any gi<;>simp
theorem mR{l:List (List UInt8)}(hl:l.any gi=false):dN l=l.all yb:=by
 unfold dN;obtain⟨q,h⟩:=dk l (fun p=>decide (co p=0)) false (cw l) (fun fuel i _=>by
  rw[cw];split
  ·by_cases h1:co (ix l i)=0
   ·rw[if_pos h1,if_pos (by simpa using h1)]
   ·rw[if_neg h1,if_neg (by simpa using h1)]
  ·rfl)
 rw[h];have e:(l.all fun p=>decide (co p=0))=l.all yb:=by
  rw[Bool.eq_iff_iff,List.all_eq_true,List.all_eq_true];have key: ∀p∈l,(decide (co p=0)=true↔yb p=true):=fun p hp=>by
   have hn:gi p=false:=by
    have:=List.any_eq_false.1 hl p hp;simpa using this
   unfold gi at hn;rw[wD,if_neg (by simpa using hn)];unfold yb;by_cases h1:p= []∨gD p=true
   ·rw[if_pos h1];simpa using h1
   ·rw[if_neg h1];simpa using h1
  exact⟨fun h p hp=>(key p hp).1 (h p hp),fun h p hp=>(key p hp).2 (h p hp)⟩
 rw[e];cases l.all yb<;>rfl
def Wi(s p:List UInt8):Prop:=p= []∨s=p∨ ∃r,s=p++47::r
theorem lE(s p:List UInt8):eS s p=true↔Wi s p:=by
 unfold eS kb d5 Wi;simp only[Bool.or_eq_true,decide_eq_true_eq,Bool.and_eq_true,or_assoc];have key:(((p++ [47]).length:Int)≤(s.length:Int)∧List.take (((p++ [47]).length:Int)).toNat s=p++ [47])↔ ∃r,s=p++47::r:=by
  rw[Int.toNat_natCast];constructor
  ·rintro⟨_,h⟩;refine⟨s.drop (p++ [47]).length,?_⟩;have:=List.take_append_drop (p++ [47]).length s;rw[h]at this;rw[←this];simp
  ·rintro⟨r,rfl⟩;have e:p++47::r=(p++ [47])++r:=by simp
   rw[e];exact⟨by simp;omega,List.take_left' rfl⟩
 rw[key]
theorem jj(s p:List UInt8):dy s p=true↔Wi s p:=by
 unfold dy Wi;simp only[Bool.or_eq_true,decide_eq_true_eq,Bool.and_eq_true,or_assoc];have key:(((p.length:Int)<(s.length:Int)∧List.take (p.length:Int).toNat s=p)∧(((ix s (p.length:Int)).toNat:Int)=47))↔ ∃r,s=p++47::r:=by
  rw[Int.toNat_natCast];constructor
  ·rintro⟨⟨h1,h2⟩,h3⟩;have hl:p.length<s.length:=by omega
   rw[cU s hl]at h3;have h4:s[p.length]=47:=UInt8.toNat_inj.1 (by show _=47;omega);refine⟨s.drop (p.length+1),?_⟩;have:=List.take_append_drop p.length s;rw[h2,List.drop_eq_getElem_cons hl,h4]at this;exact this.symm
  ·rintro⟨r,rfl⟩;refine⟨⟨by rw[List.length_append,List.length_cons];omega,List.take_left' rfl⟩,?_⟩;rw[cU _ (by rw[List.length_append,List.length_cons];omega),List.getElem_append_right (Nat.le_refl _)];simp
 rw[key]
theorem wG: ∀(p r:List UInt8),p≤p++r
 | [],r=>List.nil_le r
 |a::p,r=>by
  rw[List.cons_append,List.cons_le_cons_iff];exact .inr ⟨rfl,wG p r⟩
theorem Wi.le{s p:List UInt8}(h:Wi s p):p≤s:=by
 rcases h with rfl|rfl|⟨r,rfl⟩
 ·exact List.nil_le s
 ·exact List.le_refl _
 ·exact wG _ _
theorem At(l:List (List UInt8))(k:List UInt8):mL l k=l.any fun p=>eS k p:=by
 unfold mL ke;rw[nB]
def qg(acc:List (List UInt8))(p:List UInt8):List (List UInt8):=if(acc.any fun q=>eS p q)=true then acc else acc++ [p]
theorem tY(l:List (List UInt8)):gA l=(bE l).foldl qg []:=by
 have key:=rq (R:=List (List UInt8)) (bE l) qg (fun n b i=>di l n b i) (fun fuel b i _=>by
  show di l (fuel+1) b i=_
  rw[di];split
  ·rw[At];unfold qg;split<;>rfl
  ·rfl) []
 unfold gA;have key:di l (((↑(bE l).length:Int)-(0:Int)).toNat+1) [] 0=_:=key;rw[key]
def Rl(a b:List UInt8):Prop:=a≤b∧ ¬Wi b a
theorem rB: ∀(S acc:List (List UInt8)),(acc++S).Pairwise (· ≤ ·)→acc.Pairwise Rl→(S.foldl qg acc).Pairwise Rl
 | [],acc,_,h=>h
 |p::S,acc,h1,h2=>by
  rw[List.foldl_cons];unfold qg;split
  ·refine rB S acc (h1.sublist ?_) h2;exact List.Sublist.append_left (List.sublist_cons_self p S) acc
  ·rename_i hn;refine rB S (acc++ [p]) (by simpa using h1) ?_;rw[List.pairwise_append];refine⟨h2,List.pairwise_singleton _ _,fun a ha b hb=>?_⟩;rw[List.mem_singleton.1 hb];refine⟨(List.pairwise_append.1 h1).2.2 a ha p (by simp),fun hw=>hn ?_⟩;rw[List.any_eq_true];exact⟨a,ha,(lE p a).2 hw⟩
theorem wH: ∀(S acc:List (List UInt8)),(acc++S).Pairwise (fun a b=> ¬Wi b a)→S.foldl qg acc=acc++S
 | [],acc,_=>by simp
 |p::S,acc,h=>by
  rw[List.foldl_cons];have:qg acc p=acc++ [p]:=by
   unfold qg;rw[if_neg];rw[List.any_eq_true];rintro⟨a,ha,hw⟩;exact(List.pairwise_append.1 h).2.2 a ha p (by simp) ((lE p a).1 hw)
  rw[this,wH S (acc++ [p]) (by simpa using h)];simp
theorem wI(l:List (List UInt8)):(bE l).Pairwise (· ≤ ·):=by
 have h:=List.pairwise_mergeSort (le:=fun(x y:List UInt8)=>decide (x≤y)) (fun a b c h1 h2=>by
  simp only[decide_eq_true_eq]at h1 h2⊢;exact List.le_trans h1 h2) (fun a b=>by
  simp only[Bool.or_eq_true,decide_eq_true_eq];exact List.le_total a b) l
 exact h.imp fun h=>by simpa using h
theorem wJ{l:List (List UInt8)}(h:l.Pairwise (· ≤ ·)):bE l=l:=List.mergeSort_of_pairwise (h.imp fun h=>by simpa using h)
theorem tZ(l:List (List UInt8)):gA l=l↔l.Pairwise Rl:=by
 rw[tY];constructor
 ·intro h;have:=rB (bE l) [] (by simpa using wI l) List.Pairwise.nil
  rwa [h]at this
 ·intro h;rw[wJ (h.imp fun h=>h.1)];have:=wH l [] (by simpa using h.imp fun h=>h.2);simpa using this
theorem rC(a b:List (List UInt8)):gy a b=decide (a=b):=by
 unfold gy;by_cases hl:(a.length:Int)=(b.length:Int)
 ·rw[if_pos hl];have hL:=lU (R:=Bool) (a.length:Int) (fun i=>decide (ix a i=ix b i)) false (dT a b) 0 (fun fuel i _=>by
   rw[dT];split
   ·by_cases h:ix a i=ix b i
    ·rw[if_pos h,if_pos (by simpa using h)]
    ·rw[if_neg h,if_neg (by simpa using h)]
   ·rfl) (((↑a.length:Int)-(0:Int)).toNat+1) 0 (Int.le_refl _) (by omega)
  rcases hL with⟨⟨q,h⟩,h2⟩|⟨h,j,h0,h1,h2⟩
  ·rw[h];symm;simp only[decide_eq_true_eq];apply List.ext_getElem (by omega);intro i hi hi2;have:=h2 (i:Int) (by omega) (by omega);simp only[decide_eq_true_eq]at this
   rwa [cU a hi,cU b hi2]at this
  ·rw[h];symm;simp only[decide_eq_false_iff_not]at h2⊢;intro e;exact h2 (by rw[e])
 ·rw[if_neg hl];symm;simp only[decide_eq_false_iff_not];intro e;exact hl (by rw[e])
theorem Eb(l:List (List UInt8))(i:Int):((∃q,cI l i (((↑l.length:Int)-(0:Int)).toNat+1) 0= .inr q)∧ ∀k:Int,0≤k→k<l.length→k≠i→ ¬Wi (ix l i) (ix l k))∨(cI l i (((↑l.length:Int)-(0:Int)).toNat+1) 0= .inl 3∧ ∃k:Int,0≤k∧k<l.length∧k≠i∧Wi (ix l i) (ix l k)):=by
 have hL:=lU (R:=Int) (l.length:Int) (fun k=>decide (k=i)||!dy (ix l i) (ix l k)) 3 (cI l i) 0 (fun fuel k _=>by
  rw[cI];split
  ·by_cases h1:k=i
   ·rw[if_neg (fun q=>q.1 h1),if_pos (by simp[h1])]
   ·cases hw:dy (ix l i) (ix l k)with
    |true=>rw[if_pos ⟨h1,rfl⟩,if_neg (by simp[h1])]
    |false=>rw[if_neg (fun q=>by cases q.2),if_pos (by simp)]
  ·rfl) (((↑l.length:Int)-(0:Int)).toNat+1) 0 (Int.le_refl _) (by omega)
 rcases hL with⟨h,h2⟩|⟨h,j,h0,h1,h2⟩
 ·refine .inl ⟨h,fun k k0 k1 kn hw=>?_⟩;have:=h2 k k0 k1;rw[Bool.or_eq_true,decide_eq_true_eq]at this;rcases this with h|h
  ·exact kn h
  ·rw[(jj _ _).2 hw]at h;cases h
 ·refine .inr ⟨h,j,h0,h1,?_⟩;simp only[Bool.or_eq_false_iff,decide_eq_false_iff_not,Bool.not_eq_false']at h2;exact⟨h2.1,(jj _ _).1 h2.2⟩
def Ec(l:List (List UInt8))(i:Int):Prop:=(0<i→ ¬ix l i≤ix l (i - 1))∧ ∀k:Int,0≤k→k<l.length→k≠i→ ¬Wi (ix l i) (ix l k)
open Classical in
theorem Ed(l:List (List UInt8)):((∃q,cJ l (((↑l.length:Int)-(0:Int)).toNat+1) 0= .inr q)∧ ∀i:Int,0≤i→i<l.length→Ec l i)∨(cJ l (((↑l.length:Int)-(0:Int)).toNat+1) 0= .inl 3∧ ∃i:Int,0≤i∧i<l.length∧ ¬Ec l i):=by
 have hL:=lU (R:=Int) (l.length:Int) (fun i=>decide (Ec l i)) 3 (cJ l) 0 (fun fuel i _=>by
  rw[cJ];by_cases hi:i<(l.length:Int)
  ·rw[if_pos hi,if_pos hi];by_cases h1:(0:Int)<i∧ix l i≤ix l (i - 1)
   ·rw[if_pos h1,if_neg (by simpa using fun q:Ec l i=>q.1 h1.1 h1.2)]
   ·rw[if_neg h1];rcases Eb l i with⟨⟨q,h⟩,h2⟩|⟨h,k,k0,k1,kn,hw⟩
    ·rw[h,if_pos (decide_eq_true (show Ec l i from⟨fun h0 hle=>h1 ⟨h0,hle⟩,h2⟩))]
    ·rw[h,if_neg (by simpa using fun q:Ec l i=>q.2 k k0 k1 kn hw)]
  ·rw[if_neg hi,if_neg hi]) (((↑l.length:Int)-(0:Int)).toNat+1) 0 (Int.le_refl _) (by omega)
 rcases hL with⟨h,h2⟩|⟨h,j,h0,h1,h2⟩
 ·exact .inl ⟨h,fun i i0 i1=>by simpa using h2 i i0 i1⟩
 ·exact .inr ⟨h,j,h0,h1,by simpa using h2⟩
theorem t6{a b:List UInt8}(h: ¬b≤a):a<b:=List.not_le.1 h
theorem Au(l:List (List UInt8)):(∀i:Int,0≤i→i<l.length→Ec l i)↔l.Pairwise Rl:=by
 constructor
 ·intro h;have hlt:l.Pairwise (· < ·):=by
   have:=(tP l (fun a b=>decide (a<b)) (fun a b c h1 h2=>by simp only[decide_eq_true_eq]at*;exact List.lt_trans h1 h2)).1 (fun j h1 h2=>by
    have:=(h j (by omega) h2).1 (by omega);simpa using t6 this)
   exact this.imp fun h=>by simpa using h
  rw[List.pairwise_iff_getElem]at hlt⊢;intro i j hi hj hij;refine⟨List.le_of_lt (hlt i j hi hj hij),fun hw=>?_⟩;have:=(h (j:Int) (by omega) (by omega)).2 (i:Int) (by omega) (by omega) (by omega);rw[cU l hi,cU l hj]at this;exact this hw
 ·intro h i i0 i1;have hlt: ∀(a b:Nat) (ha:a<l.length) (hb:b<l.length),a<b→l[a]<l[b]∧ ¬Wi l[b] l[a]:=fun a b ha hb hab=>by
   obtain⟨h1,h2⟩:=(List.pairwise_iff_getElem.1 h) a b ha hb hab;refine⟨?_,h2⟩;by_cases h3:l[a]<l[b]
   ·exact h3
   ·exact absurd (.inr (.inl (List.le_antisymm (List.not_lt.1 h3) h1))) h2
  obtain⟨n,rfl⟩:=Int.eq_ofNat_of_zero_le i0;have hn:n<l.length:=by omega
  refine⟨fun hp hle=>?_,fun k k0 k1 kn hw=>?_⟩
  ·have:=(hlt (n - 1) n (by omega) hn (by omega)).1;rw[show((n:Int)- 1)=((n - 1:Nat):Int)by omega,cU l hn,cU l (by omega)]at hle;exact List.not_lt.2 hle this
  ·obtain⟨m,rfl⟩:=Int.eq_ofNat_of_zero_le k0;have hm:m<l.length:=by omega
   rw[cU l hn,cU l hm]at hw;rcases Nat.lt_trichotomy m n with h1|h1|h1
   ·exact(hlt m n hm hn h1).2 hw
   ·exact kn (by rw[h1])
   ·exact List.not_lt.2 hw.le (hlt n m hn hm h1).1
theorem t7(l:List (List UInt8)):gC l=eT l:=by
 unfold gC eT;rw[tX];by_cases h1:(16:Int)<l.length∨l.any gi=true
 ·rw[if_pos h1,if_neg (by decide),if_pos ((mQ l).2 h1)]
 ·have hl:l.any gi=false:=by
   cases hq:l.any gi with
   |false=>rfl
   |true=>exact absurd (.inr hq) h1
  rw[if_neg h1,if_neg (fun q=>h1 ((mQ l).1 q)),mR hl];cases ho:l.all yb with
  |false=>rw[if_neg (by simp),if_neg (by decide),if_neg (by simp)]
  |true=>
   rw[if_pos rfl,if_pos rfl,if_pos rfl,rC];have hc:=Au l;have ho:=tZ l;rcases Ed l with⟨⟨q,h⟩,h2⟩|⟨h,i,i0,i1,h2⟩
   ·rw[h,if_pos (by simpa using ho.2 (hc.1 h2))]
   ·rw[h,if_neg];simp only[decide_eq_true_eq];intro e;exact h2 (hc.2 (ho.1 e) i i0 i1)
end Go.Proofs.YtfgofabojepcmaaGreatDoor.V
end

section
set_option linter.unusedVariables false
set_option linter.unusedSimpArgs false
set_option maxRecDepth 20000
set_option maxHeartbeats 4000000
namespace Go.Proofs.YtfgofabojepcmaaGreatDoor.V
open Go.RowKit
def Jf:bS U:= []
theorem zN:ay Tryz.prog U Jf:=am
def bW(p:ah)(n:Int):Bool:=
 decide (p.up<(0:Int))||decide (n≤p.up)
def F3:bZ U:=⟨[.d (.st 0),.n],fun xs es K=> ∃(p:ah) (n:Int),xs= [⟨true,[(2,.d (.st 0) p)]⟩,⟨false,[(1,.pd (.int .i64) n)]⟩]∧es= []∧K (.v ⟨false,[(1,.d .bool (bW p n))]⟩) []⟩
theorem Jg:aQ Tryz.prog U 279 F3:=by
 refine aT (fn:=Tryz.f279) zN aC (by kernel_rfl) Tryz.f279.ntmps [.d .bool] [] (by kernel_rfl) (by kernel_rfl) rfl rfl (by kernel_rfl) (fun xs es K=>?_);rintro⟨p,n,rfl,rfl,h⟩;refine⟨rfl,?_⟩;have hf0:=bW.eq_1 p n;rw[hf0]at h;exact h
def Jh:bS U:= []
theorem zO:ay Tryz.prog U Jh:=am
def eL(l:List ah)(f:ah→Bool):Nat→Int→Int⊕(Int)
 |0,s8=> .inr s8
 |n1+1,s8=>
  if s8<(↑l.length:Int)then
   if f (ix l s8)=true then
    .inl s8
   else
    eL l f n1 (s8+(1:Int))
  else
   .inr s8
def j7(l:List ah)(f:ah→Bool):Int:=
 match eL l f (((↑l.length:Int)-(0:Int)).toNat+1) (0:Int)with
 | .inl r=>r
 | .inr s8=>
  (-1:Int)
def F4:bZ U:=⟨[.d (.sl (.st 0)),.f1 (.st 0)],fun xs es K=> ∃(l:List ah) (f:ah→Bool),xs= [⟨false,[(1,.d (.sl (.st 0)) l)]⟩,⟨false,[(1,.f1 (.st 0) f)]⟩]∧es= []∧K (.v ⟨false,[(1,.d (.int .i64) (j7 l f))]⟩) []⟩
theorem Ji:aQ Tryz.prog U 334 F4:=by
 refine aT (fn:=Tryz.f334) zO aC (by kernel_rfl) Tryz.f334.ntmps [.d (.int .i64)] [] (by kernel_rfl) (by kernel_rfl) rfl rfl (by kernel_rfl) (fun xs es K=>?_);rintro⟨l,f,rfl,rfl,h⟩;refine⟨rfl,?_⟩;have hf0:=j7.eq_1 l f;refine fun h0=>?_;have h0:(↑l.length:Int)≤(9223372036854775807:Int):=h0.2;refine⟨Int,0,fun(s8:Int)=> [(0,.v ⟨false,[(1,.d (.sl (.st 0)) l)]⟩),(1,.v ⟨false,[(1,Cx.f1 (bj.st (0:Nat)) f)]⟩),(7,.v ⟨false,[(1,.d (.int .i64) (↑l.length:Int))]⟩),(8,.v ⟨false,[(1,.d (.int .i64) s8)]⟩)],fun(s8:Int)=> [],aF (fun(s8:Int)=>((↑l.length:Int)- s8).toNat) (fun(s8:Int)=>((0:Int)≤s8)∧(s8≤(↑l.length:Int))∧True) (fun n1 (s8:Int)=>eL l f n1 s8) (eL l f (((↑l.length:Int)-(0:Int)).toNat+1) (0:Int)),fun(s8:Int)=>((↑l.length:Int)- s8).toNat,⟨[],(0:Int),aF.mk0 _ (Nat.lt_succ_self _) ⟨show(0:Int)≤(0:Int)from by omega,show(0:Int)≤(↑l.length:Int)from by omega,trivial⟩ rfl,?_⟩,?_⟩
 ·repeat (first|exact trivial|refine And.intro rfl ?_)
 ·rintro s8 ⟨n1,hc1,⟨hi1_0,hi1_1,-⟩,hf1⟩;have hf1:=hf1.trans (eL.eq_2 l f s8 n1);refine vI hf1 iD (fun h1 hf1=>?_) (fun h1 hf1=>?_)
  ·refine And.intro (show(0:Int)≤s8∧s8<(↑l.length:Int)from by omega) ?_;refine vI hf1 iB (fun h2 hf1=>?_) (fun h2 hf1=>?_)
   ·rw[hf1]at hf0;rw[hf0]at h;exact h
   ·refine .inl (And.intro (eb (p:=s8) (q:=(1:Int)) (r:=s8+(1:Int)) (by omega)) ?_);have hm1:((↑l.length:Int)-(s8+(1:Int))).toNat<((↑l.length:Int)- s8).toNat:=by omega
    refine⟨[],s8+(1:Int),hm1,aF.next (s:=s8) hc1 hm1 ⟨show(0:Int)≤s8+(1:Int)from by omega,show s8+(1:Int)≤(↑l.length:Int)from by omega,trivial⟩ hf1,?_⟩;repeat (first|exact trivial|refine And.intro rfl ?_)
  ·rw[hf1]at hf0;rw[hf0]at h;exact h
def Jj:bS U:= [(334,F4)]
theorem zP:ay Tryz.prog U Jj:=ae Ji (am)
def c7(l:List ah)(f:ah→Bool):Bool:=
 decide ((0:Int)≤j7 l f)
def F5:bZ U:=⟨[.d (.sl (.st 0)),.f1 (.st 0)],fun xs es K=> ∃(l:List ah) (f:ah→Bool),xs= [⟨false,[(1,.d (.sl (.st 0)) l)]⟩,⟨false,[(1,.f1 (.st 0) f)]⟩]∧es= []∧K (.v ⟨false,[(1,.d .bool (c7 l f))]⟩) []⟩
theorem Jk:aQ Tryz.prog U 280 F5:=by
 refine aT (fn:=Tryz.f280) zP aC (by kernel_rfl) Tryz.f280.ntmps [.d .bool] [] (by kernel_rfl) (by kernel_rfl) rfl rfl (by kernel_rfl) (fun xs es K=>?_);rintro⟨l,f,rfl,rfl,h⟩;refine⟨rfl,?_⟩;have hf0:=c7.eq_1 l f;refine⟨_,_,rfl,rfl,?_⟩;rw[hf0]at h;exact h
def Jl:bS U:= []
theorem zQ:ay Tryz.prog U Jl:=am
def dw(l:List (List Int))(n:Int)(s15:Int):Nat→Int→Int→(List Bool)→Bool⊕(Int×Int×(List Bool))
 |0,s8,s29,s5'=> .inr (s8,s29,s5')
 |n2+1,s8,s29,s5'=>
  if s29<(↑(ix l s15).length:Int)then
   if((ix (ix l s15) s29≤s8)∨(n≤ix (ix l s15) s29))∨(ix s5' (ix (ix l s15) s29)=true)then
    .inl false
   else
    dw l n s15 n2 (ix (ix l s15) s29) (s29+(1:Int)) (s5'.set (ix (ix l s15) s29).toNat true)
  else
   .inr (s8,s29,s5')
def dx(l:List (List Int))(n:Int):Nat→Int→(List Bool)→Bool⊕(Int×(List Bool))
 |0,s15,s5=> .inr (s15,s5)
 |n1+1,s15,s5=>
  if s15<(↑l.length:Int)then
   if((↑(ix l s15).length:Int)=(0:Int))∨((5:Int)<(↑(ix l s15).length:Int))then
    .inl false
   else
    match dw l n s15 (((↑(ix l s15).length:Int)-(0:Int)).toNat+1) (-1:Int) (0:Int) s5 with
    | .inl r=> .inl r
    | .inr (s8,s29,s5')=>
     dx l n n1 (s15+(1:Int)) s5'
  else
   .inr (s15,s5)
def gq(l:List (List Int))(n:Int):Bool:=
 match dx l n (((↑l.length:Int)-(0:Int)).toNat+1) (0:Int) (List.replicate n.toNat false)with
 | .inl r=>r
 | .inr (s15,s5)=>
  true
def F6:bZ U:=⟨[.d (.sl (.sl (.int .i64))),.d (.int .i64)],fun xs es K=> ∃(l:List (List Int)) (n:Int),xs= [⟨false,[(1,.d (.sl (.sl (.int .i64))) l)]⟩,⟨false,[(1,.d (.int .i64) n)]⟩]∧es= []∧(0≤n∧n≤1000)∧K (.v ⟨false,[(1,.d .bool (gq l n))]⟩) []⟩
theorem Jm:aQ Tryz.prog U 205 F6:=by
 refine aT (fn:=Tryz.f205) zQ aC (by kernel_rfl) Tryz.f205.ntmps [.d .bool] [] (by kernel_rfl) (by kernel_rfl) rfl rfl (by kernel_rfl) (fun xs es K=>?_);rintro⟨l,n,rfl,rfl,hn,h⟩;refine⟨rfl,?_⟩;have hf0:=gq.eq_1 l n;refine And.intro (show(0:Int)≤n∧n≤n∧n≤(281474976710656:Int)∧(1:Nat)*n.toNat≤(281474976710656:Nat)from by omega) ?_;refine fun h0=>?_;have h0:(↑l.length:Int)≤(9223372036854775807:Int):=h0.2;refine⟨Int×(List Bool),1,fun(s15,s5)=> [(1,.v ⟨false,[(1,.d (.int .i64) n)]⟩),(5,.v ⟨false,[(1,.own 0 0)]⟩),(13,.v ⟨false,[(1,.d (.sl (.sl (.int .i64))) l)]⟩),(14,.v ⟨false,[(1,.d (.int .i64) (↑l.length:Int))]⟩),(15,.v ⟨false,[(1,.d (.int .i64) s15)]⟩)],fun(s15,s5)=> [(0,.row 0 .bool s5 4)],aF (fun(s15,s5)=>((↑l.length:Int)- s15).toNat) (fun(s15,s5)=>((0:Int)≤s15)∧(s15≤(↑l.length:Int))∧((s5.length:Int)=n)∧True) (fun n1 (s15,s5)=>dx l n n1 s15 s5) (dx l n (((↑l.length:Int)-(0:Int)).toNat+1) (0:Int) (List.replicate n.toNat false)),fun(s15,s5)=>((↑l.length:Int)- s15).toNat,⟨[],((0:Int),List.replicate n.toNat false),aF.mk0 _ (Nat.lt_succ_self _) ⟨show(0:Int)≤(0:Int)from by omega,show(0:Int)≤(↑l.length:Int)from by omega,show(↑(List.replicate n.toNat false).length:Int)=n from by(simp;omega),trivial⟩ rfl,?_⟩,?_⟩
 ·repeat (first|exact trivial|refine And.intro rfl ?_)
 ·rintro⟨s15,s5⟩ ⟨n1,hc1,⟨hi1_0,hi1_1,hi1_2,-⟩,hf1⟩;have hf1:=hf1.trans (dx.eq_2 l n s15 s5 n1);refine vI hf1 iD (fun h1 hf1=>?_) (fun h1 hf1=>?_)
  ·refine And.intro (show(0:Int)≤s15∧s15<(↑l.length:Int)from by omega) ?_;refine fun h2=>?_;have h2:(↑(ix l s15).length:Int)≤(9223372036854775807:Int):=h2.2;refine vI hf1 (iO iD iD) (fun h3 hf1=>?_) (fun h3 hf1=>?_)
   ·rw[hf1]at hf0;rw[hf0]at h;exact h
   ·refine fun h4=>?_;have h4:(↑(ix l s15).length:Int)≤(9223372036854775807:Int):=h4.2;refine⟨Int×Int×(List Bool),1,fun(s8,s29,s5')=> [(1,.v ⟨false,[(1,.d (.int .i64) n)]⟩),(5,.v ⟨false,[(1,.own 0 0)]⟩),(8,.v ⟨false,[(1,.d (.int .i64) s8)]⟩),(13,.v ⟨false,[(1,.d (.sl (.sl (.int .i64))) l)]⟩),(14,.v ⟨false,[(1,.d (.int .i64) (↑l.length:Int))]⟩),(15,.v ⟨false,[(1,.d (.int .i64) s15)]⟩),(27,.v ⟨false,[(1,.d (.sl (.int .i64)) ((ix l s15):List Int))]⟩),(28,.v ⟨false,[(1,.d (.int .i64) (↑(ix l s15).length:Int))]⟩),(29,.v ⟨false,[(1,.d (.int .i64) s29)]⟩)],fun(s8,s29,s5')=> [(0,.row 0 .bool s5' 4)],aF (fun(s8,s29,s5')=>((↑(ix l s15).length:Int)- s29).toNat) (fun(s8,s29,s5')=>((0:Int)≤s29)∧(s29≤(↑(ix l s15).length:Int))∧((s5'.length:Int)=n∧ -1≤s8)∧True) (fun n2 (s8,s29,s5')=>dw l n s15 n2 s8 s29 s5') (dw l n s15 (((↑(ix l s15).length:Int)-(0:Int)).toNat+1) (-1:Int) (0:Int) s5),fun(s8,s29,s5')=>((↑(ix l s15).length:Int)- s29).toNat,⟨[],((-1:Int),(0:Int),s5),aF.mk0 _ (Nat.lt_succ_self _) ⟨show(0:Int)≤(0:Int)from by omega,show(0:Int)≤(↑(ix l s15).length:Int)from by omega,show(↑s5.length:Int)=n∧(-1:Int)≤(-1:Int)from by omega,trivial⟩ rfl,?_⟩,?_⟩
    ·repeat (first|exact trivial|refine And.intro rfl ?_)
    ·rintro⟨s8,s29,s5'⟩ ⟨n2,hc2,⟨hi2_0,hi2_1,hi2_2,-⟩,hf2⟩;have hf2:=hf2.trans (dw.eq_2 l n s15 s8 s29 s5' n2);refine vI hf2 iD (fun h5 hf2=>?_) (fun h5 hf2=>?_)
     ·refine And.intro (show(0:Int)≤s29∧s29<(↑(ix l s15).length:Int)from by omega) ?_;refine And.intro (show(decide (ix (ix l s15) s29≤s8)||decide (n≤ix (ix l s15) s29))=((41:Nat),false).snd→(0:Int)≤ix (ix l s15) s29∧ix (ix l s15) s29<(↑s5'.length:Int)from by(intro h;simp at h;omega)) ?_;refine vI hf2 (iO (iO iD iD) iB) (fun h6 hf2=>?_) (fun h6 hf2=>?_)
      ·rw[hf2]at hf1;rw[hf1]at hf0;rw[hf0]at h;exact h
      ·refine And.intro (show(0:Int)≤ix (ix l s15) s29∧ix (ix l s15) s29<(↑s5'.length:Int)from by omega) ?_;refine .inl (And.intro (eb (p:=s29) (q:=(1:Int)) (r:=s29+(1:Int)) (by omega)) ?_);have hm2:((↑(ix l s15).length:Int)-(s29+(1:Int))).toNat<((↑(ix l s15).length:Int)- s29).toNat:=by omega
       refine⟨[],(ix (ix l s15) s29,s29+(1:Int),s5'.set (ix (ix l s15) s29).toNat true),hm2,aF.next (s:=(s8,s29,s5')) hc2 hm2 ⟨show(0:Int)≤s29+(1:Int)from by omega,show s29+(1:Int)≤(↑(ix l s15).length:Int)from by omega,show(↑(s5'.set (ix (ix l s15) s29).toNat true).length:Int)=n∧(-1:Int)≤ix (ix l s15) s29 from by(simp;omega),trivial⟩ hf2,?_⟩;repeat (first|exact trivial|refine And.intro rfl ?_)
     ·rw[hf2]at hf1;refine .inl (And.intro (eb (p:=s15) (q:=(1:Int)) (r:=s15+(1:Int)) (by omega)) ?_);have hm1:((↑l.length:Int)-(s15+(1:Int))).toNat<((↑l.length:Int)- s15).toNat:=by omega
      refine⟨[],(s15+(1:Int),s5'),hm1,aF.next (s:=(s15,s5)) hc1 hm1 ⟨show(0:Int)≤s15+(1:Int)from by omega,show s15+(1:Int)≤(↑l.length:Int)from by omega,show(↑s5'.length:Int)=n from by omega,trivial⟩ hf1,?_⟩;repeat (first|exact trivial|refine And.intro rfl ?_)
  ·rw[hf1]at hf0;rw[hf0]at h;exact h
def DX:bZ U:=⟨[.d (.int .i64)],fun xs es K=> ∃n:Int,xs= [⟨false,[(1,.d (.int .i64) n)]⟩]∧es= []∧K (.v ⟨false,[(1,.clo 279 [0])]⟩) [.cells [(1,.d (.int .i64) n)] 3]⟩
def Jn:bS U:= []
theorem zR:ay Tryz.prog U Jn:=am
theorem F7:aQ Tryz.prog U 278 DX:=by
 refine aT (fn:=Tryz.f278) zR aC (by kernel_rfl) Tryz.f278.ntmps [.n] [] (by kernel_rfl) (by kernel_rfl) rfl rfl (by kernel_rfl) (fun xs es K=>?_);rintro⟨l,rfl,rfl,h⟩;exact⟨rfl,h⟩
def sL:bZ U:=⟨[],fun xs es K=>False⟩
theorem zS:aQ Tryz.prog U 999999 sL:=fun _ _ _ _ _ _ _ _ _ _ hr=>hr.elim
end Go.Proofs.YtfgofabojepcmaaGreatDoor.V
end

section
set_option linter.unusedVariables false
set_option linter.unusedSimpArgs false
set_option maxRecDepth 20000
set_option maxHeartbeats 4000000
namespace Go.Proofs.YtfgofabojepcmaaGreatDoor.V
open Go.RowKit
theorem Ml{b:Bool}{A B:Prop}(h:x8 b A B):(b=true→A)∧((b=true→False)→B)∧True:=⟨h.1,fun hn=>h.2 (by cases b with|true=>exact(hn rfl).elim|false=>rfl),trivial⟩
def Jo:bS U:= [(278,DX),(280,F5),(278,DX),(279,F3),(999999,sL)]
theorem zT:ay Tryz.prog U Jo:=ae F7 (ae Jk (ae F7 (ae Jg (ae zS (am)))))
def eM(c:ap):Bool:=
 if(((c.cores<(1:Int))∨((3:Int)<c.cores))∨((4:Int)<(↑c.edges.length:Int)))∨((6:Int)<(↑c.devices.length:Int))then
  false
 else
  if(((c.disk.mark<(1:Int))∨((400:Int)<c.disk.mark))∨(c.disk.journal<(2:Int)))∨(IntKind.i64.wrap ((1024:Int)- IntKind.i64.wrap ((2:Int)*c.disk.mark))<c.disk.journal)then
   false
  else
   if(c7 c.edges fun(t:ah)=>bW t c.cores)=true then
    (!c7 c.edges fun(t:ah)=>bW t c.cores)&&!false
   else
    (!c7 c.edges fun(t:ah)=>bW t c.cores)&&!c7 c.devices fun(t:ah)=>bW t (↑c.edges.length:Int)
def F8:bZ U:=⟨[.d (.st 2)],fun xs es K=> ∃(c:ap),xs= [⟨true,[(6,.d (.st 2) c)]⟩]∧es= []∧K (.v ⟨false,[(1,.d .bool (eM c))]⟩) []⟩
theorem Jp:aQ Tryz.prog U 203 F8:=by
 refine aT (fn:=Tryz.f203) zT aC (by kernel_rfl) Tryz.f203.ntmps [.d .bool] [] (by kernel_rfl) (by kernel_rfl) rfl rfl (by kernel_rfl) (fun xs es K=>?_);rintro⟨c,rfl,rfl,h⟩;refine⟨rfl,?_⟩;have hf0:=eM.eq_1 c;refine vI hf0 (iO (iO (iO iD iD) iD) iD) (fun h0 hf0=>?_) (fun h0 hf0=>?_)
 ·rw[hf0]at h;exact h
 ·refine .inr ?_;refine .inr ?_;refine vI hf0 (iO (iO (iO iD iD) iD) iD) (fun h3 hf0=>?_) (fun h3 hf0=>?_)
  ·rw[hf0]at h;exact h
  ·refine .inl ⟨[(true,0),(true,1),(true,2),(true,3),(true,4),(false,5),(false,6),(true,7),(true,8),(true,9),(true,10),(true,11),(true,12),(true,13),(true,14),(false,15),(false,16),(true,17),(true,18),(true,19)],none,[2,3,4,5,6,7,8,9,10,11,12,13],by kernel_rfl,?_⟩;refine⟨_,rfl,rfl,?_⟩;refine⟨fun(t:ah)=>bW t c.cores,fun t0=>⟨_,_,rfl,rfl,rfl,rfl⟩,?_⟩;refine⟨_,_,rfl,rfl,?_⟩;refine Ml ?_;refine vN hf0 (iN iB) (fun h4 hf0=>?_) (fun h4 hf0=>?_)
   ·refine⟨_,rfl,rfl,?_⟩;refine⟨_,fun h5=>⟨fun(t:ah)=>bW t (↑c.edges.length:Int),fun t0=>⟨_,_,rfl,rfl,rfl,rfl⟩,_,_,rfl,rfl,rfl,rfl⟩,rfl,?_⟩;rw[hf0]at h;exact h
   ·refine⟨⟨false,[(1,.d .bool false)]⟩,fun hq=>absurd hq (fun hq=>by simp_all),rfl,?_⟩;rw[hf0]at h;exact h
end Go.Proofs.YtfgofabojepcmaaGreatDoor.V
end

section
set_option linter.unusedVariables false
set_option linter.unusedSimpArgs false
set_option maxRecDepth 20000
set_option maxHeartbeats 4000000
namespace Go.Proofs.YtfgofabojepcmaaGreatDoor.V
open Go.RowKit
def eO(p:ah):Prop:=p.interest.length≤1000000∧ ∀s∈p.interest,s.length≤1000000
theorem B3{a b:List ah}(ha: ∀p∈a,eO p)(hb: ∀p∈b,eO p){q:Int}(h0:0≤q)(h1:q<(a++b).length):eO (ix (a++b) q):=by
 rcases List.mem_append.1 (sN _ h0 h1)with h|h
 ·exact ha _ h
 ·exact hb _ h
theorem oU{c:ap}(h:eM c=true):c.edges.length≤4∧c.devices.length≤6:=by
 unfold eM at h;split at h
 ·cases h
 ·rename_i hn;omega
def Jq:bS U:= [(77,LP),(203,F8),(204,F2),(205,F6)]
theorem zU:ay Tryz.prog U Jq:=ae Mw (ae Jp (ae Je (ae Jm (am))))
def eP(c:ap):Nat→Int→Int⊕(Int)
 |0,s16=> .inr s16
 |n1+1,s16=>
  if s16<(↑(c.edges++c.devices).length:Int)then
   if gC (ix (c.edges++c.devices) s16).interest=(0:Int)then
    eP c n1 (s16+(1:Int))
   else
    .inl (gC (ix (c.edges++c.devices) s16).interest)
  else
   .inr s16
def fS(c:ap):Int:=
 if eM c=true then
  match eP c (((↑(c.edges++c.devices).length:Int)-(0:Int)).toNat+1) (0:Int)with
  | .inl r=>r
  | .inr s16=>
   if(6:Int)<(↑c.groups.length:Int)then
    (8:Int)
   else
    if gq c.groups (↑c.devices.length:Int)=true then
     (0:Int)
    else
     (3:Int)
 else
  (2:Int)
def Jr:bZ U:=⟨[.d (.st 2)],fun xs es K=> ∃(c:ap),xs= [⟨true,[(6,.d (.st 2) c)]⟩]∧es= []∧(c.edges.length≤1000000)∧(c.devices.length≤1000000)∧(∀p∈c.edges,eO p)∧(∀p∈c.devices,eO p)∧K (.v ⟨false,[(1,.d (.int .i64) (fS c))]⟩) []⟩
theorem Js:aQ Tryz.prog U 112 Jr:=by
 refine aT (fn:=Tryz.f112) zU aC (by kernel_rfl) Tryz.f112.ntmps [.d (.int .i64)] [] (by kernel_rfl) (by kernel_rfl) rfl rfl (by kernel_rfl) (fun xs es K=>?_);rintro⟨c,rfl,rfl,hc1,hc2,he,hd,h⟩;refine⟨rfl,?_⟩;have hf0:=fS.eq_1 c;refine⟨_,rfl,rfl,?_⟩;refine vN hf0 (iN iB) (fun h0 hf0=>?_) (fun h0 hf0=>?_)
 ·rw[hf0]at h;exact h
 ·refine⟨_,_,rfl,rfl,(by assumption),(by assumption),?_⟩;refine fun h1=>?_;have h1:(↑(c.edges++c.devices).length:Int)≤(9223372036854775807:Int):=h1.2;refine⟨Int,3,fun(s16:Int)=> [(1,.v ⟨false,[(1,.ptr 0 0)]⟩),(14,.v ⟨false,[(1,.own 2 0)]⟩),(15,.v ⟨false,[(1,.d (.int .i64) (↑(c.edges++c.devices).length:Int))]⟩),(16,.v ⟨false,[(1,.d (.int .i64) s16)]⟩)],fun(s16:Int)=> [(0,.cells [(6,.d (.st 2) c)] 61),(2,.row 0 (.st 0) (c.edges++c.devices) 256)],aF (fun(s16:Int)=>((↑(c.edges++c.devices).length:Int)- s16).toNat) (fun(s16:Int)=>((0:Int)≤s16)∧(s16≤(↑(c.edges++c.devices).length:Int))∧True) (fun n1 (s16:Int)=>eP c n1 s16) (eP c (((↑(c.edges++c.devices).length:Int)-(0:Int)).toNat+1) (0:Int)),fun(s16:Int)=>((↑(c.edges++c.devices).length:Int)- s16).toNat,⟨[],(0:Int),aF.mk0 _ (Nat.lt_succ_self _) ⟨show(0:Int)≤(0:Int)from by omega,show(0:Int)≤(↑(c.edges++c.devices).length:Int)from by omega,trivial⟩ rfl,?_⟩,?_⟩
  ·repeat (first|exact trivial|refine And.intro rfl ?_)
  ·rintro s16 ⟨n1,hc1,⟨hi1_0,hi1_1,-⟩,hf1⟩;have hf1:=hf1.trans (eP.eq_2 c s16 n1);refine vI hf1 iD (fun h2 hf1=>?_) (fun h2 hf1=>?_)
   ·refine And.intro (show(0:Int)≤s16∧s16<(↑(c.edges++c.devices).length:Int)from by omega) ?_;refine⟨_,rfl,rfl,((B3 (by assumption) (by assumption) (by omega) (by omega)).1),((B3 (by assumption) (by assumption) (by omega) (by omega)).2),?_⟩;refine vN hf1 iD (fun h3 hf1=>?_) (fun h3 hf1=>?_)
    ·rw[hf1]at hf0;rw[hf0]at h;exact h
    ·refine .inl (And.intro (eb (p:=s16) (q:=(1:Int)) (r:=s16+(1:Int)) (by omega)) ?_);have hm1:((↑(c.edges++c.devices).length:Int)-(s16+(1:Int))).toNat<((↑(c.edges++c.devices).length:Int)- s16).toNat:=by omega
     refine⟨[],s16+(1:Int),hm1,aF.next (s:=s16) hc1 hm1 ⟨show(0:Int)≤s16+(1:Int)from by omega,show s16+(1:Int)≤(↑(c.edges++c.devices).length:Int)from by omega,trivial⟩ hf1,?_⟩;repeat (first|exact trivial|refine And.intro rfl ?_)
   ·rw[hf1]at hf0;refine fun h4=>?_;have h4:(↑c.groups.length:Int)≤(9223372036854775807:Int):=h4.2;refine vI hf0 iD (fun h5 hf0=>?_) (fun h5 hf0=>?_)
    ·rw[hf0]at h;exact h
    ·refine fun h6=>?_;have h6:(↑c.devices.length:Int)≤(9223372036854775807:Int):=h6.2;refine⟨_,_,rfl,rfl,(show(0:Int)≤(↑c.devices.length:Int)∧(↑c.devices.length:Int)≤(1000:Int)from by(have hq:=oU (by first|assumption|exact Classical.not_not.1 (by assumption));omega)),?_⟩;refine vN hf0 (iN iB) (fun h7 hf0=>?_) (fun h7 hf0=>?_)
     ·rw[hf0]at h;exact h
     ·rw[hf0]at h;exact h
end Go.Proofs.YtfgofabojepcmaaGreatDoor.V
end

section
set_option linter.unusedVariables false
set_option linter.unusedSimpArgs false
set_option maxRecDepth 20000
set_option maxHeartbeats 4000000
namespace Go.Proofs.YtfgofabojepcmaaGreatDoor.V
open Go.RowKit
def Lj:bS U:= []
theorem BJ:ay Tryz.prog U Lj:=am
def dD(l:List (List Int))(n:Int)(s6:Int):Nat→Int→(List Bool)→Bool⊕(Int×(List Bool))
 |0,s7,s5'=> .inr (s7,s5')
 |n2+1,s7,s5'=>
  if s7<(↑(ix l s6).length:Int)then
   if(((ix (ix l s6) s7<(0:Int))∨(n≤ix (ix l s6) s7))∨(ix s5' (ix (ix l s6) s7)=true))∨(((0:Int)<s7)∧(ix (ix l s6) s7≤ix (ix l s6) (s7 -(1:Int))))then
    .inl false
   else
    dD l n s6 n2 (s7+(1:Int)) (s5'.set (ix (ix l s6) s7).toNat true)
  else
   .inr (s7,s5')
def dE(l:List (List Int))(n:Int):Nat→Int→(List Bool)→Bool⊕(Int×(List Bool))
 |0,s6,s5=> .inr (s6,s5)
 |n1+1,s6,s5=>
  if s6<(↑l.length:Int)then
   if((↑(ix l s6).length:Int)=(0:Int))∨((5:Int)<(↑(ix l s6).length:Int))then
    .inl false
   else
    match dD l n s6 (((↑(ix l s6).length:Int)-(0:Int)).toNat+1) (0:Int) s5 with
    | .inl r=> .inl r
    | .inr (s7,s5')=>
     dE l n n1 (s6+(1:Int)) s5'
  else
   .inr (s6,s5)
def gG(l:List (List Int))(n:Int):Bool:=
 match dE l n (((↑l.length:Int)-(0:Int)).toNat+1) (0:Int) (List.replicate n.toNat false)with
 | .inl r=>r
 | .inr (s6,s5)=>
  true
def Im:bZ U:=⟨[.d (.sl (.sl (.int .i64))),.d (.int .i64)],fun xs es K=> ∃(l:List (List Int)) (n:Int),xs= [⟨false,[(1,.d (.sl (.sl (.int .i64))) l)]⟩,⟨false,[(1,.d (.int .i64) n)]⟩]∧es= []∧(0≤n∧n≤1000)∧K (.v ⟨false,[(1,.d .bool (gG l n))]⟩) []⟩
theorem Lk:aQ Tryz.prog U 116 Im:=by
 refine aT (fn:=Tryz.f116) BJ aC (by kernel_rfl) Tryz.f116.ntmps [.d .bool] [] (by kernel_rfl) (by kernel_rfl) rfl rfl (by kernel_rfl) (fun xs es K=>?_);rintro⟨l,n,rfl,rfl,hn,h⟩;refine⟨rfl,?_⟩;have hf0:=gG.eq_1 l n;refine And.intro (show(0:Int)≤n∧n≤n∧n≤(281474976710656:Int)∧(1:Nat)*n.toNat≤(281474976710656:Nat)from by omega) ?_;refine⟨Int×(List Bool),1,fun(s6,s5)=> [(0,.v ⟨false,[(1,.d (.sl (.sl (.int .i64))) l)]⟩),(1,.v ⟨false,[(1,.d (.int .i64) n)]⟩),(5,.v ⟨false,[(1,.own 0 0)]⟩),(6,.v ⟨false,[(1,.d (.int .i64) s6)]⟩)],fun(s6,s5)=> [(0,.row 0 .bool s5 4)],aF (fun(s6,s5)=>((↑l.length:Int)- s6).toNat) (fun(s6,s5)=>((0:Int)≤s6)∧(s6≤(↑l.length:Int))∧((s5.length:Int)=n)∧True) (fun n1 (s6,s5)=>dE l n n1 s6 s5) (dE l n (((↑l.length:Int)-(0:Int)).toNat+1) (0:Int) (List.replicate n.toNat false)),fun(s6,s5)=>((↑l.length:Int)- s6).toNat,⟨[],((0:Int),List.replicate n.toNat false),aF.mk0 _ (Nat.lt_succ_self _) ⟨show(0:Int)≤(0:Int)from by omega,show(0:Int)≤(↑l.length:Int)from by omega,show(↑(List.replicate n.toNat false).length:Int)=n from by(simp;omega),trivial⟩ rfl,?_⟩,?_⟩
 ·repeat (first|exact trivial|refine And.intro rfl ?_)
 ·rintro⟨s6,s5⟩ ⟨n1,hc1,⟨hi1_0,hi1_1,hi1_2,-⟩,hf1⟩;have hf1:=hf1.trans (dE.eq_2 l n s6 s5 n1);refine fun h0=>?_;have h0:(↑l.length:Int)≤(9223372036854775807:Int):=h0.2;refine vI hf1 iD (fun h1 hf1=>?_) (fun h1 hf1=>?_)
  ·refine And.intro (show(0:Int)≤s6∧s6<(↑l.length:Int)from by omega) ?_;refine fun h2=>?_;have h2:(↑(ix l s6).length:Int)≤(9223372036854775807:Int):=h2.2;refine And.intro (show decide ((↑(ix l s6).length:Int)=(0:Int))=((23:Nat),false).snd→(0:Int)≤s6∧s6<(↑l.length:Int)from by omega) ?_;refine vI hf1 (iO iD iD) (fun h3 hf1=>?_) (fun h3 hf1=>?_)
   ·rw[hf1]at hf0;rw[hf0]at h;exact h
   ·refine⟨Int×(List Bool),1,fun(s7,s5')=> [(0,.v ⟨false,[(1,.d (.sl (.sl (.int .i64))) l)]⟩),(1,.v ⟨false,[(1,.d (.int .i64) n)]⟩),(5,.v ⟨false,[(1,.own 0 0)]⟩),(6,.v ⟨false,[(1,.d (.int .i64) s6)]⟩),(7,.v ⟨false,[(1,.d (.int .i64) s7)]⟩)],fun(s7,s5')=> [(0,.row 0 .bool s5' 4)],aF (fun(s7,s5')=>((↑(ix l s6).length:Int)- s7).toNat) (fun(s7,s5')=>((0:Int)≤s7)∧(s7≤(↑(ix l s6).length:Int))∧((s5'.length:Int)=n)∧True) (fun n2 (s7,s5')=>dD l n s6 n2 s7 s5') (dD l n s6 (((↑(ix l s6).length:Int)-(0:Int)).toNat+1) (0:Int) s5),fun(s7,s5')=>((↑(ix l s6).length:Int)- s7).toNat,⟨[],((0:Int),s5),aF.mk0 _ (Nat.lt_succ_self _) ⟨show(0:Int)≤(0:Int)from by omega,show(0:Int)≤(↑(ix l s6).length:Int)from by omega,show(↑s5.length:Int)=n from by omega,trivial⟩ rfl,?_⟩,?_⟩
    ·repeat (first|exact trivial|refine And.intro rfl ?_)
    ·rintro⟨s7,s5'⟩ ⟨n2,hc2,⟨hi2_0,hi2_1,hi2_2,-⟩,hf2⟩;have hf2:=hf2.trans (dD.eq_2 l n s6 s7 s5' n2);refine And.intro (show(0:Int)≤s6∧s6<(↑l.length:Int)from by omega) ?_;refine fun h4=>?_;have h4:(↑(ix l s6).length:Int)≤(9223372036854775807:Int):=h4.2;refine vI hf2 iD (fun h5 hf2=>?_) (fun h5 hf2=>?_)
     ·refine And.intro (show(0:Int)≤s6∧s6<(↑l.length:Int)from by omega) ?_;refine And.intro (show(0:Int)≤s7∧s7<(↑(ix l s6).length:Int)from by omega) ?_;refine And.intro (show(decide (ix (ix l s6) s7<(0:Int))||decide (n≤ix (ix l s6) s7))=((54:Nat),false).snd→(0:Int)≤ix (ix l s6) s7∧ix (ix l s6) s7<(↑s5'.length:Int)from by(intro h;simp at h;omega)) ?_;refine And.intro (show decide ((0:Int)<s7)=((63:Nat),true).snd→(decide (ix (ix l s6) s7<(0:Int))||decide (n≤ix (ix l s6) s7)||ix s5' (ix (ix l s6) s7))=((60:Nat),false).snd→(0:Int)≤s6∧s6<(↑l.length:Int)from by omega) ?_;refine .inl (And.intro (fun(h6:decide ((0:Int)<s7)=((63:Nat),true).snd)=>fun(h7:(decide (ix (ix l s6) s7<(0:Int))||decide (n≤ix (ix l s6) s7)||ix s5' (ix (ix l s6) s7))=((60:Nat),false).snd)=>eb (p:=s7) (q:=(1:Int)) (r:=s7 -(1:Int)) (by omega)) ?_);refine And.intro (show decide ((0:Int)<s7)=((63:Nat),true).snd→(decide (ix (ix l s6) s7<(0:Int))||decide (n≤ix (ix l s6) s7)||ix s5' (ix (ix l s6) s7))=((60:Nat),false).snd→(0:Int)≤s7 -(1:Int)∧s7 -(1:Int)<(↑(ix l s6).length:Int)from by(intro h;simp at h;omega)) ?_;refine vI hf2 (iO (iO (iO iD iD) iB) (iA iD iD)) (fun h8 hf2=>?_) (fun h8 hf2=>?_)
      ·rw[hf2]at hf1;rw[hf1]at hf0;rw[hf0]at h;exact h
      ·refine And.intro (show(0:Int)≤ix (ix l s6) s7∧ix (ix l s6) s7<(↑s5'.length:Int)from by omega) ?_;refine .inl (And.intro (eb (p:=s7) (q:=(1:Int)) (r:=s7+(1:Int)) (by omega)) ?_);have hm2:((↑(ix l s6).length:Int)-(s7+(1:Int))).toNat<((↑(ix l s6).length:Int)- s7).toNat:=by omega
       refine⟨[],(s7+(1:Int),s5'.set (ix (ix l s6) s7).toNat true),hm2,aF.next (s:=(s7,s5')) hc2 hm2 ⟨show(0:Int)≤s7+(1:Int)from by omega,show s7+(1:Int)≤(↑(ix l s6).length:Int)from by omega,show(↑(s5'.set (ix (ix l s6) s7).toNat true).length:Int)=n from by(simp;omega),trivial⟩ hf2,?_⟩;repeat (first|exact trivial|refine And.intro rfl ?_)
     ·rw[hf2]at hf1;refine .inl (And.intro (eb (p:=s6) (q:=(1:Int)) (r:=s6+(1:Int)) (by omega)) ?_);have hm1:((↑l.length:Int)-(s6+(1:Int))).toNat<((↑l.length:Int)- s6).toNat:=by omega
      refine⟨[],(s6+(1:Int),s5'),hm1,aF.next (s:=(s6,s5)) hc1 hm1 ⟨show(0:Int)≤s6+(1:Int)from by omega,show s6+(1:Int)≤(↑l.length:Int)from by omega,show(↑s5'.length:Int)=n from by omega,trivial⟩ hf1,?_⟩;repeat (first|exact trivial|refine And.intro rfl ?_)
  ·rw[hf1]at hf0;rw[hf0]at h;exact h
def MV:bS U:= [(82,LO),(116,Im)]
theorem EM:ay Tryz.prog U MV:=ae Mt (ae Lk (am))
def eX(c:ap):Nat→Int→Int⊕(Int)
 |0,s6=> .inr s6
 |n3+1,s6=>
  if s6<(↑(c.edges++c.devices).length:Int)then
   if eT (ix (c.edges++c.devices) s6).interest=(0:Int)then
    eX c n3 (s6+(1:Int))
   else
    .inl (eT (ix (c.edges++c.devices) s6).interest)
  else
   .inr s6
def d7(c:ap):Nat→Int→Int⊕(Int)
 |0,s4=> .inr s4
 |n2+1,s4=>
  if s4<(↑c.devices.length:Int)then
   if((ix c.devices s4).up<(0:Int))∨((↑c.edges.length:Int)≤(ix c.devices s4).up)then
    .inl (2:Int)
   else
    d7 c n2 (s4+(1:Int))
  else
   .inr s4
def d8(c:ap):Nat→Int→Int⊕(Int)
 |0,s3=> .inr s3
 |n1+1,s3=>
  if s3<(↑c.edges.length:Int)then
   if((ix c.edges s3).up<(0:Int))∨(c.cores≤(ix c.edges s3).up)then
    .inl (2:Int)
   else
    d8 c n1 (s3+(1:Int))
  else
   .inr s3
def dF(c:ap):Int:=
 if(((((((c.cores<(1:Int))∨((3:Int)<c.cores))∨((4:Int)<(↑c.edges.length:Int)))∨((6:Int)<(↑c.devices.length:Int)))∨(c.disk.mark<(1:Int)))∨((400:Int)<c.disk.mark))∨(c.disk.journal<(2:Int)))∨(IntKind.i64.wrap ((1024:Int)- IntKind.i64.wrap ((2:Int)*c.disk.mark))<c.disk.journal)then
  (2:Int)
 else
  match d8 c (((↑c.edges.length:Int)-(0:Int)).toNat+1) (0:Int)with
  | .inl r=>r
  | .inr s3=>
   match d7 c (((↑c.devices.length:Int)-(0:Int)).toNat+1) (0:Int)with
   | .inl r=>r
   | .inr s4=>
    match eX c (((↑(c.edges++c.devices).length:Int)-(0:Int)).toNat+1) (0:Int)with
    | .inl r=>r
    | .inr s6=>
     if(6:Int)<(↑c.groups.length:Int)then
      (8:Int)
     else
      if gG c.groups (↑c.devices.length:Int)=true then
       (0:Int)
      else
       (3:Int)
def MW:bZ U:=⟨[.d (.st 2)],fun xs es K=> ∃(c:ap),xs= [⟨true,[(6,.d (.st 2) c)]⟩]∧es= []∧(c.edges.length≤1000000)∧(c.devices.length≤1000000)∧K (.v ⟨false,[(1,.d (.int .i64) (dF c))]⟩) []⟩
theorem MX:aQ Tryz.prog U 47 MW:=by
 refine aT (fn:=Tryz.f47) EM aC (by kernel_rfl) Tryz.f47.ntmps [.d (.int .i64)] [] (by kernel_rfl) (by kernel_rfl) rfl rfl (by kernel_rfl) (fun xs es K=>?_);rintro⟨c,rfl,rfl,hc1,hc2,h⟩;refine⟨rfl,?_⟩;have hf0:=dF.eq_1 c;refine .inr ?_;refine .inr ?_;refine vI hf0 (iO (iO (iO (iO (iO (iO (iO iD iD) iD) iD) iD) iD) iD) iD) (fun h2 hf0=>?_) (fun h2 hf0=>?_)
 ·rw[hf0]at h;exact h
 ·refine⟨Int,1,fun(s3:Int)=> [(1,.v ⟨false,[(1,.ptr 0 0)]⟩),(3,.v ⟨false,[(1,.d (.int .i64) s3)]⟩)],fun(s3:Int)=> [(0,.cells [(6,.d (.st 2) c)] 70)],aF (fun(s3:Int)=>((↑c.edges.length:Int)- s3).toNat) (fun(s3:Int)=>((0:Int)≤s3)∧(s3≤(↑c.edges.length:Int))∧True) (fun n1 (s3:Int)=>d8 c n1 s3) (d8 c (((↑c.edges.length:Int)-(0:Int)).toNat+1) (0:Int)),fun(s3:Int)=>((↑c.edges.length:Int)- s3).toNat,⟨[],(0:Int),aF.mk0 _ (Nat.lt_succ_self _) ⟨show(0:Int)≤(0:Int)from by omega,show(0:Int)≤(↑c.edges.length:Int)from by omega,trivial⟩ rfl,?_⟩,?_⟩
  ·repeat (first|exact trivial|refine And.intro rfl ?_)
  ·rintro s3 ⟨n1,hc1,⟨hi1_0,hi1_1,-⟩,hf1⟩;have hf1:=hf1.trans (d8.eq_2 c s3 n1);refine fun h3=>?_;have h3:(↑c.edges.length:Int)≤(9223372036854775807:Int):=h3.2;refine vI hf1 iD (fun h4 hf1=>?_) (fun h4 hf1=>?_)
   ·refine .inl ⟨[(true,0),(true,1),(true,2),(true,3),(true,4),(true,5),(true,6),(true,7),(true,8),(true,9),(true,10),(true,11),(true,12),(true,13),(true,14),(true,15),(true,16),(true,17)],none,[1,2,3,4,5,6,7,8,9,10,11,12],by kernel_rfl,?_⟩;refine And.intro (show(0:Int)≤s3∧s3<(↑c.edges.length:Int)from by omega) ?_;refine And.intro (show decide ((ix c.edges s3).up<(0:Int))=((71:Nat),false).snd→(0:Int)≤s3∧s3<(↑c.edges.length:Int)from by omega) ?_;refine vI hf1 (iO iD iD) (fun h5 hf1=>?_) (fun h5 hf1=>?_)
    ·rw[hf1]at hf0;rw[hf0]at h;exact h
    ·refine .inl (And.intro (eb (p:=s3) (q:=(1:Int)) (r:=s3+(1:Int)) (by omega)) ?_);have hm1:((↑c.edges.length:Int)-(s3+(1:Int))).toNat<((↑c.edges.length:Int)- s3).toNat:=by omega
     refine⟨[],s3+(1:Int),hm1,aF.next (s:=s3) hc1 hm1 ⟨show(0:Int)≤s3+(1:Int)from by omega,show s3+(1:Int)≤(↑c.edges.length:Int)from by omega,trivial⟩ hf1,?_⟩;repeat (first|exact trivial|refine And.intro rfl ?_)
   ·rw[hf1]at hf0;set_option simprocs false in dsimp only at hf0;refine⟨Int,1,fun(s4:Int)=> [(1,.v ⟨false,[(1,.ptr 0 0)]⟩),(4,.v ⟨false,[(1,.d (.int .i64) s4)]⟩)],fun(s4:Int)=> [(0,.cells [(6,.d (.st 2) c)] 70)],aF (fun(s4:Int)=>((↑c.devices.length:Int)- s4).toNat) (fun(s4:Int)=>((0:Int)≤s4)∧(s4≤(↑c.devices.length:Int))∧True) (fun n2 (s4:Int)=>d7 c n2 s4) (d7 c (((↑c.devices.length:Int)-(0:Int)).toNat+1) (0:Int)),fun(s4:Int)=>((↑c.devices.length:Int)- s4).toNat,⟨[],(0:Int),aF.mk0 _ (Nat.lt_succ_self _) ⟨show(0:Int)≤(0:Int)from by omega,show(0:Int)≤(↑c.devices.length:Int)from by omega,trivial⟩ rfl,?_⟩,?_⟩
    ·repeat (first|exact trivial|refine And.intro rfl ?_)
    ·rintro s4 ⟨n2,hc2,⟨hi2_0,hi2_1,-⟩,hf1⟩;have hf1:=hf1.trans (d7.eq_2 c s4 n2);refine fun h6=>?_;have h6:(↑c.devices.length:Int)≤(9223372036854775807:Int):=h6.2;refine vI hf1 iD (fun h7 hf1=>?_) (fun h7 hf1=>?_)
     ·refine .inl ⟨[(true,0),(true,1),(true,2),(true,3),(true,4),(true,5),(true,6),(true,7),(true,8),(true,9),(true,10),(true,11),(true,12),(true,13),(true,14),(true,15),(true,16),(true,17),(true,18)],none,[1,2,3,4,5,6,7,8,9,10,11,12],by kernel_rfl,?_⟩;refine And.intro (show(0:Int)≤s4∧s4<(↑c.devices.length:Int)from by omega) ?_;refine And.intro (show decide ((ix c.devices s4).up<(0:Int))=((96:Nat),false).snd→(0:Int)≤s4∧s4<(↑c.devices.length:Int)from by omega) ?_;refine vI hf1 (iO iD iD) (fun h8 hf1=>?_) (fun h8 hf1=>?_)
      ·rw[hf1]at hf0;rw[hf0]at h;exact h
      ·refine .inl (And.intro (eb (p:=s4) (q:=(1:Int)) (r:=s4+(1:Int)) (by omega)) ?_);have hm2:((↑c.devices.length:Int)-(s4+(1:Int))).toNat<((↑c.devices.length:Int)- s4).toNat:=by omega
       refine⟨[],s4+(1:Int),hm2,aF.next (s:=s4) hc2 hm2 ⟨show(0:Int)≤s4+(1:Int)from by omega,show s4+(1:Int)≤(↑c.devices.length:Int)from by omega,trivial⟩ hf1,?_⟩;repeat (first|exact trivial|refine And.intro rfl ?_)
     ·rw[hf1]at hf0;set_option simprocs false in dsimp only at hf0;refine .inl ⟨[(true,1),(true,2),(true,4),(true,5),(false,0),(false,3),(false,6),(true,7)],none,[1,2,3,4,5,6,7,8,9,10,11,12],by kernel_rfl,?_⟩;refine And.intro (show((0:Nat)+c.edges.length)*(32:Nat)≤(140737488355328:Nat)from by omega) ?_;refine And.intro (show(c.edges.length+c.devices.length)*(32:Nat)≤(140737488355328:Nat)from by omega) ?_;refine⟨Int,2,fun(s6:Int)=> [(1,.v ⟨false,[(1,.ptr 0 0)]⟩),(5,.v ⟨false,[(1,.own 1 2)]⟩),(6,.v ⟨false,[(1,.d (.int .i64) s6)]⟩)],fun(s6:Int)=> [(0,.cells [(6,.d (.st 2) c)] 70),(1,.row 2 (.st 0) (c.edges++c.devices) 250)],aF (fun(s6:Int)=>((↑(c.edges++c.devices).length:Int)- s6).toNat) (fun(s6:Int)=>((0:Int)≤s6)∧(s6≤(↑(c.edges++c.devices).length:Int))∧True) (fun n3 (s6:Int)=>eX c n3 s6) (eX c (((↑(c.edges++c.devices).length:Int)-(0:Int)).toNat+1) (0:Int)),fun(s6:Int)=>((↑(c.edges++c.devices).length:Int)- s6).toNat,⟨[],(0:Int),aF.mk0 _ (Nat.lt_succ_self _) ⟨show(0:Int)≤(0:Int)from by omega,show(0:Int)≤(↑(c.edges++c.devices).length:Int)from by omega,trivial⟩ rfl,?_⟩,?_⟩
      ·repeat (first|exact trivial|refine And.intro rfl ?_)
      ·rintro s6 ⟨n3,hc3,⟨hi3_0,hi3_1,-⟩,hf1⟩;have hf1:=hf1.trans (eX.eq_2 c s6 n3);refine fun h9=>?_;have h9:(↑(c.edges++c.devices).length:Int)≤(9223372036854775807:Int):=h9.2;refine vI hf1 iD (fun h10 hf1=>?_) (fun h10 hf1=>?_)
       ·refine And.intro (show(0:Int)≤s6∧s6<(↑(c.edges++c.devices).length:Int)from by omega) ?_;refine⟨_,rfl,rfl,?_⟩;refine vN hf1 iD (fun h11 hf1=>?_) (fun h11 hf1=>?_)
        ·rw[hf1]at hf0;rw[hf0]at h;exact h
        ·refine .inl (And.intro (eb (p:=s6) (q:=(1:Int)) (r:=s6+(1:Int)) (by omega)) ?_);have hm3:((↑(c.edges++c.devices).length:Int)-(s6+(1:Int))).toNat<((↑(c.edges++c.devices).length:Int)- s6).toNat:=by omega
         refine⟨[],s6+(1:Int),hm3,aF.next (s:=s6) hc3 hm3 ⟨show(0:Int)≤s6+(1:Int)from by omega,show s6+(1:Int)≤(↑(c.edges++c.devices).length:Int)from by omega,trivial⟩ hf1,?_⟩;repeat (first|exact trivial|refine And.intro rfl ?_)
       ·rw[hf1]at hf0;refine fun h12=>?_;have h12:(↑c.groups.length:Int)≤(9223372036854775807:Int):=h12.2;refine vI hf0 iD (fun h13 hf0=>?_) (fun h13 hf0=>?_)
        ·rw[hf0]at h;exact h
        ·refine fun h14=>?_;have h14:(↑c.devices.length:Int)≤(9223372036854775807:Int):=h14.2;refine⟨_,_,rfl,rfl,(show(0:Int)≤(↑c.devices.length:Int)∧(↑c.devices.length:Int)≤(1000:Int)from by omega),?_⟩;refine vN hf0 (iN iB) (fun h15 hf0=>?_) (fun h15 hf0=>?_)
         ·rw[hf0]at h;exact h
         ·rw[hf0]at h;exact h
end Go.Proofs.YtfgofabojepcmaaGreatDoor.V
end

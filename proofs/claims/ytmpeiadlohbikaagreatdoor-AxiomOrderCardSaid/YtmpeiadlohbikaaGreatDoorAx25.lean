/- The shapes of a history that is handed in (seat of round rs), and what its data brings. -/
import Derived.Test.YtmpeiadlohbikaaGreatDoorAx24
import Derived.Test.YtmpeiadlohbikaaGreatDoorAx15
section
set_option linter.unusedVariables false
set_option linter.unusedSimpArgs false
set_option maxRecDepth 20000
set_option maxHeartbeats 4000000
namespace Go.Proofs.YtmpeiadlohbikaaGreatDoor.V
open Go.RowKit
def AJ(x:ao):Bool:=decide (x.ops.length≤1000)&&x.ops.all (fun p=>decide (p.key.length≤1000000))&&x.looks.all (fun p=>decide (p.key.length≤1000000))
theorem ox{l:List ao}(h:l.all AJ=true): ∀y∈l,iX y:=fun y hy=>by
 have:=List.all_eq_true.1 h y hy;unfold AJ at this;simp only[Bool.and_eq_true,decide_eq_true_eq,List.all_eq_true]at this;exact⟨this.1.1,this.1.2,this.2⟩
def Tq:cR U:= [(20,PK),(24,PJ)]
theorem Ir:bl Tryz.prog U Tq:=aa BF (aa MP (ae))
def kP:Bool:=
 decide ((bu [ao.mk (bD.mk (1:Int) (1:Int)) [(0:Int),(0:Int),(1:Int),(0:Int),(0:Int),(0:Int),(0:Int),(0:Int)] (0:Int) [] [],ao.mk (bD.mk (2:Int) (1:Int)) [(0:Int),(1:Int),(0:Int),(0:Int),(0:Int),(0:Int),(0:Int),(0:Int)] (0:Int) [] []]).fst=(0:Int))&&decide ((bu [ao.mk (bD.mk (1:Int) (1:Int)) [(0:Int),(0:Int),(1:Int),(0:Int),(0:Int),(0:Int),(0:Int),(0:Int)] (0:Int) [] [],ao.mk (bD.mk (2:Int) (1:Int)) [(0:Int),(1:Int),(0:Int),(0:Int),(0:Int),(0:Int),(0:Int),(0:Int)] (0:Int) [] []]).snd=(5:Int))&&decide ((bu [ao.mk (bD.mk (1:Int) (1:Int)) [(0:Int),(0:Int),(0:Int),(0:Int),(0:Int),(0:Int),(0:Int),(0:Int)] (0:Int) [aj.mk (bD.mk (1:Int) (1:Int)) [(0:Int),(0:Int),(0:Int),(0:Int),(0:Int),(0:Int),(0:Int),(0:Int)] (0:Int) [(99:UInt8)] (ld.mk (2:Int) [] (5:Int)) (aV.mk (0:Int) (0:Int))] [cA.mk [(99:UInt8)] (1:Int) (aF.mk (2:Int) (5:Int) [])],ao.mk (bD.mk (2:Int) (1:Int)) [(0:Int),(1:Int),(0:Int),(0:Int),(0:Int),(0:Int),(0:Int),(0:Int)] (0:Int) [] []]).fst=(-1:Int))&&decide ((bu [ao.mk (bD.mk (1:Int) (1:Int)) [(0:Int),(0:Int),(0:Int),(0:Int),(0:Int),(0:Int),(0:Int),(0:Int)] (0:Int) [aj.mk (bD.mk (1:Int) (1:Int)) [(0:Int),(0:Int),(0:Int),(0:Int),(0:Int),(0:Int),(0:Int),(0:Int)] (0:Int) [(99:UInt8)] (ld.mk (2:Int) [] (5:Int)) (aV.mk (0:Int) (0:Int))] [cA.mk [(99:UInt8)] (1:Int) (aF.mk (2:Int) (5:Int) [])],ao.mk (bD.mk (2:Int) (1:Int)) [(0:Int),(1:Int),(0:Int),(0:Int),(0:Int),(0:Int),(0:Int),(0:Int)] (0:Int) [] []]).snd=(0:Int))&&decide ((bu [ao.mk (bD.mk (2:Int) (1:Int)) [(0:Int),(1:Int),(0:Int),(0:Int),(0:Int),(0:Int),(0:Int),(0:Int)] (0:Int) [] [],ao.mk (bD.mk (1:Int) (1:Int)) [(0:Int),(0:Int),(0:Int),(0:Int),(0:Int),(0:Int),(0:Int),(0:Int)] (0:Int) [aj.mk (bD.mk (1:Int) (1:Int)) [(0:Int),(0:Int),(0:Int),(0:Int),(0:Int),(0:Int),(0:Int),(0:Int)] (0:Int) [(99:UInt8)] (ld.mk (2:Int) [] (5:Int)) (aV.mk (0:Int) (0:Int))] ([cA.mk [(99:UInt8)] (1:Int) (aF.mk (2:Int) (5:Int) [])].set (Int.toNat (0:Int)) (cA.mk (ix [cA.mk [(99:UInt8)] (1:Int) (aF.mk (2:Int) (5:Int) [])] (0:Int)).key (ix [cA.mk [(99:UInt8)] (1:Int) (aF.mk (2:Int) (5:Int) [])] (0:Int)).n (aF.mk (ix [cA.mk [(99:UInt8)] (1:Int) (aF.mk (2:Int) (5:Int) [])] (0:Int)).v.kind (4:Int) (ix [cA.mk [(99:UInt8)] (1:Int) (aF.mk (2:Int) (5:Int) [])] (0:Int)).v.items)))]).fst=(1:Int))&&decide ((bu [ao.mk (bD.mk (2:Int) (1:Int)) [(0:Int),(1:Int),(0:Int),(0:Int),(0:Int),(0:Int),(0:Int),(0:Int)] (0:Int) [] [],ao.mk (bD.mk (1:Int) (1:Int)) [(0:Int),(0:Int),(0:Int),(0:Int),(0:Int),(0:Int),(0:Int),(0:Int)] (0:Int) [aj.mk (bD.mk (1:Int) (1:Int)) [(0:Int),(0:Int),(0:Int),(0:Int),(0:Int),(0:Int),(0:Int),(0:Int)] (0:Int) [(99:UInt8)] (ld.mk (2:Int) [] (5:Int)) (aV.mk (0:Int) (0:Int))] ([cA.mk [(99:UInt8)] (1:Int) (aF.mk (2:Int) (5:Int) [])].set (Int.toNat (0:Int)) (cA.mk (ix [cA.mk [(99:UInt8)] (1:Int) (aF.mk (2:Int) (5:Int) [])] (0:Int)).key (ix [cA.mk [(99:UInt8)] (1:Int) (aF.mk (2:Int) (5:Int) [])] (0:Int)).n (aF.mk (ix [cA.mk [(99:UInt8)] (1:Int) (aF.mk (2:Int) (5:Int) [])] (0:Int)).v.kind (4:Int) (ix [cA.mk [(99:UInt8)] (1:Int) (aF.mk (2:Int) (5:Int) [])] (0:Int)).v.items)))]).snd=(7:Int))&&decide ((aB [ao.mk (bD.mk (1:Int) (1:Int)) [(0:Int),(0:Int),(0:Int),(0:Int),(0:Int),(0:Int),(0:Int),(0:Int)] (0:Int) [] []]).snd=(0:Int))&&decide ((↑(aB [ao.mk (bD.mk (1:Int) (1:Int)) [(0:Int),(0:Int),(0:Int),(0:Int),(0:Int),(0:Int),(0:Int),(0:Int)] (0:Int) [] []]).fst.length:Int)=(1:Int))
def QT:aW U:=⟨[],fun xs es K=>xs= []∧es= []∧K (.v ⟨false,[(1,.d .bool kP)]⟩) []⟩
theorem Fm:bi Tryz.prog U 18 QT:=by
 refine HI (fn:=Tryz.f18) Ir bT (by kernel_rfl) Tryz.f18.ntmps 6 [7,4] [8,9] [1,4,7,5,6] [.d .bool] [] (by kernel_rfl) (by kernel_rfl) rfl rfl (by kernel_rfl) (fun xs es K=>?_);rintro⟨rfl,rfl,h⟩;refine⟨rfl,?_⟩;have hf0:=kP.eq_1;refine⟨_,rfl,rfl,(ox (by decide)),?_⟩;refine⟨_,rfl,rfl,(ox (by decide)),?_⟩;refine And.intro (show(0:Int)≤(0:Int)∧(0:Int)<(↑[cA.mk [(99:UInt8)] (1:Int) (aF.mk (2:Int) (5:Int) [])].length:Int)from by(simp only[List.length_append,List.length_cons,List.length_nil];omega)) ?_;refine⟨_,rfl,rfl,(ox (by decide)),?_⟩;refine⟨_,rfl,rfl,(ox (by decide)),?_⟩;rw[hf0]at h;exact h
end Go.Proofs.YtmpeiadlohbikaaGreatDoor.V
end

section
set_option linter.unusedVariables false
set_option linter.unusedSimpArgs false
namespace Go.Proofs.YtmpeiadlohbikaaGreatDoor.V
open Go.RowKit Go.Shelf Go.Lib Go.Sort
theorem wx{α:Type}{f:α→α}(h: ∀x,f x=x)(l:List α):l.map f=l:=by
 induction l with
 |nil=>rfl
 |cons a l ih=>rw[List.map_cons,h,ih]
theorem HD(e:aj):kf e=e:=rfl
theorem De(l:List aj):fB l=l:=by
 unfold fB;rw[fN l (fun b x=>b++ [kf x]) (gZ l) (fun fuel b i _=>by rw[gZ]) []];dsimp only;rw[fu,List.nil_append];exact wx HD l
theorem xC(v:aF):dP v=v:=by
 unfold dP;rw[fN v.items (fun b x=>b++ [au.mk x.field x.val]) (d7 v) (fun fuel b i _=>by rw[d7]) []];dsimp only;rw[fu,List.nil_append,wx (fun _=>rfl)]
theorem rM(l:List ao):bv l=l:=by
 unfold bv;rw[fN l (fun b x=>b++ [x]) (jy l) (fun fuel b i _=>by
  rw[jy];split
  ·rw[fN (ix l i).looks (fun b x=>b++ [cA.mk x.key x.n (dP x.v)]) (jx l i b) (fun fuel b i _=>by rw[jx]) []];dsimp only;rw[fu,List.nil_append,wx (fun k=>by rw[xC]),De]
  ·rfl) []]
 dsimp only;rw[show(fun(b:List ao) x=>b++ [x])=fun b x=>b++ [id x]from rfl,fu,List.nil_append];exact wx (fun _=>rfl) l
theorem xD(l:List aj)(h: ¬dO l=true): ∀p∈l,p.key.length≤100:=by
 unfold dO at h;obtain⟨q,hq⟩:=nr l (fun p=>decide (¬(((100:Int)<(p.key.length:Int))∨((100:Int)<(p.op.name.length:Int))))) true (d6 l) (fun fuel i _=>by
  rw[d6];split
  ·simp only[decide_eq_true_eq,ite_not]
  ·rfl)
 rw[hq]at h;by_cases ha:l.all (fun p:aj=>decide (¬(((100:Int)<(p.key.length:Int))∨((100:Int)<(p.op.name.length:Int)))))=true
 ·intro p hp;have:=List.all_eq_true.1 ha p hp;simp only[decide_eq_true_eq]at this;omega
 ·rw[if_neg ha]at h;exact absurd rfl h
def tB(k:cA):Bool:=decide (¬(((100:Int)<(k.key.length:Int))∨((100:Int)<(k.v.items.length:Int))))
theorem qB(l:List ao)(h: ¬fj l=true):l.length≤129∧ ∀x∈l,(x.ops.length≤20∧x.looks.length≤20∧ ¬dO x.ops=true)∧x.looks.all tB=true:=by
 unfold fj at h;split at h
 ·exact absurd rfl h
 ·refine⟨by omega,?_⟩;obtain⟨q,hq⟩:=nr l (fun x=>decide (¬(((((20:Int)<(x.ops.length:Int))∨((20:Int)<(x.looks.length:Int)))∨(dO x.ops=true))∨(((30:Int)<(l.length:Int))∧((0:Int)<(x.ops.length:Int)))))&&x.looks.all tB) true (d9 l) (fun fuel i _=>by
   rw[d9];split
   ·obtain⟨q,hq⟩:=nr (ix l i).looks tB true (d8 l i) (fun fuel i _=>by
     rw[d8];split
     ·unfold tB;simp only[decide_eq_true_eq,ite_not]
     ·rfl)
    rw[hq];split
    ·rename_i hc;rw[if_neg (by simp only[Bool.and_eq_true,decide_eq_true_eq,not_and];exact fun q=>absurd hc q)]
    ·rename_i hc;cases ha:(ix l i).looks.all tB with
     |true=>rw[if_pos rfl,if_pos (by simp only[Bool.and_true,decide_eq_true_eq];exact hc)]
     |false=>rw[if_neg (by simp),if_neg (by simp)]
   ·rfl)
  rw[hq]at h;by_cases ha:l.all (fun x:ao=>decide (¬(((((20:Int)<(x.ops.length:Int))∨((20:Int)<(x.looks.length:Int)))∨(dO x.ops=true))∨(((30:Int)<(l.length:Int))∧((0:Int)<(x.ops.length:Int)))))&&x.looks.all tB)=true
  ·intro x hx;have:=List.all_eq_true.1 ha x hx;rw[Bool.and_eq_true,decide_eq_true_eq]at this;exact⟨⟨by omega,by omega,fun q=>this.1 (.inl (.inr q))⟩,this.2⟩
  ·rw[if_neg ha]at h;exact absurd rfl h
theorem E7{l:List cA}(h:l.all tB=true): ∀k∈l,k.key.length≤100∧k.v.items.length≤100:=fun k hk=>by
 have:=List.all_eq_true.1 h k hk;unfold tB at this;rw[decide_eq_true_eq]at this;omega
theorem zO{l:List ao}(h: ¬fj l=true):AI l:=by
 obtain⟨h1,h2⟩:=qB l h;exact⟨by omega,fun x hx=>⟨by have:=(h2 x hx).1.1;omega,by have:=(h2 x hx).1.2.1;omega,fun k hk=>by have:=E7 (h2 x hx).2 k hk;omega⟩⟩
theorem xE{l:List ao}(h: ¬fj l=true): ∀y∈bv l,iX y:=by
 rw[rM];obtain⟨h1,h2⟩:=qB l h;exact fun x hx=>⟨by have:=(h2 x hx).1.1;omega,fun p hp=>by have:=xD _ (h2 x hx).1.2.2 p hp;omega,fun k hk=>by have:=E7 (h2 x hx).2 k hk;omega⟩
end Go.Proofs.YtmpeiadlohbikaaGreatDoor.V
end

section
set_option linter.unusedVariables false
set_option linter.unusedSimpArgs false
set_option maxRecDepth 20000
set_option maxHeartbeats 4000000
namespace Go.Proofs.YtmpeiadlohbikaaGreatDoor.V
open Go.RowKit
def g4:cR U:= [(18,QT),(19,QR),(20,PK),(21,QS),(22,Qf),(23,Qg)]
theorem KY:bl Tryz.prog U g4:=aa Fm (aa AH (aa BF (aa D6 (aa Nh (aa Ni (ae))))))
def cX(l:List ao)(s5:List (bD×List Int)):Nat→Int→(List Int)→Bool⊕(Int×(List Int))
 |0,s8,s7_0=> .inr (s8,s7_0)
 |n2+1,s8,s7_0=>
  if s8<(↑(aB (bv l)).fst.length:Int)then
   if jP ((bh s5 (ix (aB (bv l)).fst s8)).getD vk.zero) s7_0=true then
    if(dA s7_0 (ix (aB (bv l)).fst s8)).snd=(0:Int)then
     cX l s5 n2 (s8+(1:Int)) ((dA s7_0 (ix (aB (bv l)).fst s8)).fst)
    else
     .inl false
   else
    .inl false
  else
   .inr (s8,s7_0)
def cY(l:List ao):Nat→Int→(List (bD×List Int))→Bool⊕(Int×(List (bD×List Int)))
 |0,s6,s5=> .inr (s6,s5)
 |n1+1,s6,s5=>
  if s6<(↑l.length:Int)then
   cY l n1 (s6+(1:Int)) (bL s5 (ix l s6).id (ix l s6).deps)
  else
   .inr (s6,s5)
def gq(l:List ao):Bool:=
 if kP=true then
  if fj l=true then
   true
  else
   if(aB (bv l)).snd=(0:Int)then
    match cY l (((↑l.length:Int)-(0:Int)).toNat+1) (0:Int) ([]:List (bD×List Int))with
    | .inl r=>r
    | .inr (s6,s5)=>
     match cX l s5 (((↑(aB (bv l)).fst.length:Int)-(0:Int)).toNat+1) (0:Int) ([(0:Int),(0:Int),(0:Int),(0:Int),(0:Int),(0:Int),(0:Int),(0:Int)])with
     | .inl r=>r
     | .inr (s8,s7_0)=>
      decide ((↑(aB (bv l)).fst.length:Int)=(↑l.length:Int))
   else
    decide ((↑(aB (bv l)).fst.length:Int)=(0:Int))
 else
  false
def c4:aW U:=⟨[.d (.sl (.st 9))],fun xs es K=> ∃(l:List ao),xs= [⟨false,[(1,.d (.sl (.st 9)) l)]⟩]∧es= []∧K (.v ⟨false,[(1,.d .bool (gq l))]⟩) []⟩
theorem k4:bi Tryz.prog U 4 c4:=by
 refine dz (fn:=Tryz.f4) KY bT (by kernel_rfl) Tryz.f4.ntmps [.d .bool] [] (by kernel_rfl) (by kernel_rfl) rfl rfl (by kernel_rfl) (fun xs es K=>?_);rintro⟨l,rfl,rfl,h⟩;refine⟨rfl,?_⟩;have hf0:=gq.eq_1 l;refine⟨rfl,rfl,?_⟩;refine vN hf0 (iN iB) (fun h0 hf0=>?_) (fun h0 hf0=>?_)
 ·rw[hf0]at h;exact h
 ·refine⟨_,rfl,rfl,?_⟩;refine vI hf0 iB (fun h1 hf0=>?_) (fun h1 hf0=>?_)
  ·rw[hf0]at h;exact h
  ·refine⟨_,rfl,rfl,(zO (by assumption)),?_⟩;refine⟨_,rfl,rfl,(xE (by assumption)),?_⟩;refine vN hf0 iD (fun h2 hf0=>?_) (fun h2 hf0=>?_)
   ·refine fun h3=>?_;have h3:(↑(aB (bv l)).fst.length:Int)≤(9223372036854775807:Int):=h3.2;rw[hf0]at h;exact h
   ·refine⟨Int×(List (bD×List Int)),1,fun(s6,s5)=> [(0,.v ⟨false,[(1,.d (.sl (.st 9)) l)]⟩),(3,.v ⟨false,[(1,.d (.sl (.st 0)) ((aB (bv l)).fst))]⟩),(5,.v ⟨false,[(1,.mp 0)]⟩),(6,.v ⟨false,[(1,.d (.int .i64) s6)]⟩)],fun(s6,s5)=> [(0,.map vk s5)],aS (fun(s6,s5)=>((↑l.length:Int)- s6).toNat) (fun(s6,s5)=>((0:Int)≤s6)∧(s6≤(↑l.length:Int))∧True) (fun n1 (s6,s5)=>cY l n1 s6 s5) (cY l (((↑l.length:Int)-(0:Int)).toNat+1) (0:Int) ([]:List (bD×List Int))),fun(s6,s5)=>((↑l.length:Int)- s6).toNat,⟨[],((0:Int),([]:List (bD×List Int))),aS.mk0 _ (Nat.lt_succ_self _) ⟨show(0:Int)≤(0:Int)from by omega,show(0:Int)≤(↑l.length:Int)from by omega,trivial⟩ rfl,?_⟩,?_⟩
    ·repeat (first|exact trivial|refine And.intro rfl ?_)
    ·rintro⟨s6,s5⟩ ⟨n1,hc1,⟨hi1_0,hi1_1,-⟩,hf1⟩;have hf1:=hf1.trans (cY.eq_2 l s6 s5 n1);refine fun h4=>?_;have h4:(↑l.length:Int)≤(9223372036854775807:Int):=h4.2;refine vI hf1 iD (fun h5 hf1=>?_) (fun h5 hf1=>?_)
     ·refine .inl ⟨[(true,0),(true,1),(true,2),(true,3),(true,4),(true,5),(true,6),(true,7),(true,8),(true,9),(true,10)],some 11,[1,2,3,4,5,6,7,8,9,10,11,12],by kernel_rfl,?_⟩;refine And.intro (show(0:Int)≤s6∧s6<(↑l.length:Int)from by omega) ?_;refine And.intro (show(0:Int)≤s6∧s6<(↑l.length:Int)from by omega) ?_;refine .inl (And.intro (i6 (p:=s6) (q:=(1:Int)) (r:=s6+(1:Int)) (by omega)) ?_);have hm1:((↑l.length:Int)-(s6+(1:Int))).toNat<((↑l.length:Int)- s6).toNat:=by omega
      refine⟨[],(s6+(1:Int),bL s5 (ix l s6).id (ix l s6).deps),hm1,aS.next (s:=(s6,s5)) hc1 hm1 ⟨show(0:Int)≤s6+(1:Int)from by omega,show s6+(1:Int)≤(↑l.length:Int)from by omega,trivial⟩ hf1,?_⟩;repeat (first|exact trivial|refine And.intro rfl ?_)
     ·rw[hf1]at hf0;set_option simprocs false in dsimp only at hf0;refine⟨Int×(List Int),2,fun(s8,s7_0)=> [(0,.v ⟨false,[(1,.d (.sl (.st 9)) l)]⟩),(3,.v ⟨false,[(1,.d (.sl (.st 0)) ((aB (bv l)).fst))]⟩),(5,.v ⟨false,[(1,.mp 0)]⟩),(7,.v ⟨false,[(1,.ptr 1 0)]⟩),(8,.v ⟨false,[(1,.d (.int .i64) s8)]⟩)],fun(s8,s7_0)=> [(0,.map vk s5),(1,.cells [(8,.d (.arr 8 (.int .u32)) s7_0)] 45)],aS (fun(s8,s7_0)=>((↑(aB (bv l)).fst.length:Int)- s8).toNat) (fun(s8,s7_0)=>((0:Int)≤s8)∧(s8≤(↑(aB (bv l)).fst.length:Int))∧True) (fun n2 (s8,s7_0)=>cX l s5 n2 s8 s7_0) (cX l s5 (((↑(aB (bv l)).fst.length:Int)-(0:Int)).toNat+1) (0:Int) ([(0:Int),(0:Int),(0:Int),(0:Int),(0:Int),(0:Int),(0:Int),(0:Int)])),fun(s8,s7_0)=>((↑(aB (bv l)).fst.length:Int)- s8).toNat,⟨[],((0:Int),[(0:Int),(0:Int),(0:Int),(0:Int),(0:Int),(0:Int),(0:Int),(0:Int)]),aS.mk0 _ (Nat.lt_succ_self _) ⟨show(0:Int)≤(0:Int)from by omega,show(0:Int)≤(↑(aB (bv l)).fst.length:Int)from by omega,trivial⟩ rfl,?_⟩,?_⟩
      ·repeat (first|exact trivial|refine And.intro rfl ?_)
      ·rintro⟨s8,s7_0⟩ ⟨n2,hc2,⟨hi2_0,hi2_1,-⟩,hf1⟩;have hf1:=hf1.trans (cX.eq_2 l s5 s8 s7_0 n2);refine fun h6=>?_;have h6:(↑(aB (bv l)).fst.length:Int)≤(9223372036854775807:Int):=h6.2;refine vI hf1 iD (fun h7 hf1=>?_) (fun h7 hf1=>?_)
       ·refine .inl ⟨[(true,0),(true,1),(true,2),(true,3),(true,4),(true,5),(true,6),(false,7),(true,8)],none,[2,3,4,5,6,7,8,9,10,11,12,13],by kernel_rfl,?_⟩;refine And.intro (show(0:Int)≤s8∧s8<(↑(aB (bv l)).fst.length:Int)from by omega) ?_;refine⟨_,_,rfl,rfl,?_⟩;refine vN hf1 (iN iB) (fun h8 hf1=>?_) (fun h8 hf1=>?_)
        ·rw[hf1]at hf0;rw[hf0]at h;exact h
        ·refine .inr ⟨(.look 0 (.look 1 (.look 2 (.look 3 (.look 4 (.turn 5 (.look 6 (.look 7 (.look 8 (.turn 9 (.turn 10 .fin .nil) .nil)))) (.turn 9 (.turn 5 (.look 6 (.look 7 (.look 8 (.turn 10 .fin .nil)))) .nil) .nil))))))),some 11,[],3,[(0,.v ⟨false,[(1,.d (.sl (.st 9)) l)]⟩),(3,.v ⟨false,[(1,.d (.sl (.st 0)) ((aB (bv l)).fst))]⟩),(5,.v ⟨false,[(1,.mp 0)]⟩),(7,.v ⟨false,[(1,.ptr 1 0)]⟩),(8,.v ⟨false,[(1,.d (.int .i64) s8)]⟩),(9,.v ⟨false,[(1,.ptr 2 0)]⟩),(10,.v ⟨false,[(1,.d (.int .i64) ((dA s7_0 (ix (aB (bv l)).fst s8)).snd))]⟩)],[(0,.map vk s5),(1,.cells [(8,.d (.arr 8 (.int .u32)) s7_0)] 45),(2,.cells [(8,.d (.arr 8 (.int .u32)) ((dA s7_0 (ix (aB (bv l)).fst s8)).fst))] 45)],True,by kernel_rfl,?_,?_⟩
         ·refine And.intro (show(0:Int)≤s8∧s8<(↑(aB (bv l)).fst.length:Int)from by omega) ?_;refine And.intro ?_ ?_
          ·refine⟨_,_,rfl,rfl,?_⟩;refine And.intro ?_ trivial;refine And.intro ?_ trivial;refine⟨trivial,[],?_⟩;repeat (first|exact trivial|refine And.intro rfl ?_)
          refine And.intro ?_ trivial;refine And.intro ?_ trivial;refine⟨_,_,rfl,rfl,?_⟩;refine And.intro ?_ trivial;refine⟨trivial,[],?_⟩;repeat (first|exact trivial|refine And.intro rfl ?_)
         refine fun _=>?_;refine vN hf1 iD (fun h9 hf1=>?_) (fun h9 hf1=>?_)
         ·rw[hf1]at hf0;rw[hf0]at h;exact h
         ·refine .inl (And.intro (i6 (p:=s8) (q:=(1:Int)) (r:=s8+(1:Int)) (by omega)) ?_);have hm2:((↑(aB (bv l)).fst.length:Int)-(s8+(1:Int))).toNat<((↑(aB (bv l)).fst.length:Int)- s8).toNat:=by omega
          refine⟨[],(s8+(1:Int),(dA s7_0 (ix (aB (bv l)).fst s8)).fst),hm2,aS.next (s:=(s8,s7_0)) hc2 hm2 ⟨show(0:Int)≤s8+(1:Int)from by omega,show s8+(1:Int)≤(↑(aB (bv l)).fst.length:Int)from by omega,trivial⟩ hf1,?_⟩;repeat (first|exact trivial|refine And.intro rfl ?_)
       ·rw[hf1]at hf0;refine fun h10=>?_;have h10:(↑(aB (bv l)).fst.length:Int)≤(9223372036854775807:Int):=h10.2;refine fun h11=>?_;have h11:(↑l.length:Int)≤(9223372036854775807:Int):=h11.2;rw[hf0]at h;exact h
end Go.Proofs.YtmpeiadlohbikaaGreatDoor.V
end

section
set_option linter.unusedVariables false
set_option linter.unusedSimpArgs false
namespace Go.Proofs.YtmpeiadlohbikaaGreatDoor.V
open Go.RowKit Go.Shelf Go.Lib Go.Sort
theorem mC(a b:List Int):jP a b=true↔ ∀j:Int,0≤j→j<8→ix a j≤ix b j:=by
 have h:=rR 8 (fun i=>decide (¬ix b i<ix a i)) false (ji a b) 0 (fun fuel i _=>by
  rw[ji];split
  ·by_cases x:ix b i<ix a i<;>simp[x]
  ·rfl) (((8:Int)-(0:Int)).toNat+1) 0 (by omega) (by omega)
 unfold jP;rcases h with⟨⟨q,h1⟩,h2⟩|⟨h1,j,h2,h3,h4⟩
 ·rw[h1];simp only[true_iff];intro j hj hk;have:=h2 j hj hk;simp only[decide_eq_true_eq]at this;omega
 ·rw[h1];simp only[Bool.false_eq_true,false_iff];intro hall;have:=hall j h2 h3;simp only[decide_eq_false_iff_not]at h4;omega
theorem nL(v:List Int):eb v=0↔ ∀j:Int,0≤j→j<8→ix v j≤1048576:=by
 have h:=rR 8 (fun i=>decide (¬(1048576:Int)<ix v i)) (2:Int) (dg v) 0 (fun fuel i _=>by
  rw[dg];split
  ·by_cases x:(1048576:Int)<ix v i<;>simp[x]
  ·rfl) (((8:Int)-(0:Int)).toNat+1) 0 (by omega) (by omega)
 unfold eb;rcases h with⟨⟨q,h1⟩,h2⟩|⟨h1,j,h2,h3,h4⟩
 ·rw[h1];refine⟨fun _ j hj hk=>?_,fun _=>rfl⟩;have:=h2 j hj hk;simp only[decide_eq_true_eq]at this;omega
 ·rw[h1];refine⟨fun h=>(by cases h),fun hall=>?_⟩;have:=hall j h2 h3;simp only[decide_eq_false_iff_not]at h4;omega
theorem xF(v:List Int):gL v=eb v:=by
 have key: ∀fuel i,e8 v fuel i=dg v fuel i:=by
  intro fuel;induction fuel with
  |zero=>intro i;rfl
  |succ n ih=>intro i;rw[e8,dg,ih]
 unfold gL eb;rw[key];try rfl
theorem Df(a0 a1 a2 a3 a4 a5 a6 a7 b0 b1 b2 b3 b4 b5 b6 b7:Int):oe [a0,a1,a2,a3,a4,a5,a6,a7] [b0,b1,b2,b3,b4,b5,b6,b7]= [max a0 b0,max a1 b1,max a2 b2,max a3 b3,max a4 b4,max a5 b5,max a6 b6,max a7 b7]:=rfl
theorem Qv{l:List Int}(h:l.length=8): ∃a0 a1 a2 a3 a4 a5 a6 a7,l= [a0,a1,a2,a3,a4,a5,a6,a7]:=by
 match l,h with
 | [a0,a1,a2,a3,a4,a5,a6,a7],_=>exact⟨a0,a1,a2,a3,a4,a5,a6,a7,rfl⟩
theorem uT{a b:List Int}(ha:a.length=8)(hb:b.length=8):iG a b=jP a b:=by
 rw[Bool.eq_iff_iff,mC];obtain⟨a0,a1,a2,a3,a4,a5,a6,a7,rfl⟩:=Qv ha;obtain⟨b0,b1,b2,b3,b4,b5,b6,b7,rfl⟩:=Qv hb;unfold iG;rw[Df,decide_eq_true_eq];simp only[List.cons.injEq,and_true];constructor
 ·intro h j h1 h2;have:j=0∨j=1∨j=2∨j=3∨j=4∨j=5∨j=6∨j=7:=by omega
  rcases this with rfl|rfl|rfl|rfl|rfl|rfl|rfl|rfl<;>simp[ix]<;>omega
 ·intro h;have h0:=h 0 (by omega) (by omega);have h1:=h 1 (by omega) (by omega);have h2:=h 2 (by omega) (by omega);have h3:=h 3 (by omega) (by omega);have h4:=h 4 (by omega) (by omega);have h5:=h 5 (by omega) (by omega);have h6:=h 6 (by omega) (by omega);have h7:=h 7 (by omega) (by omega);simp[ix]at h0 h1 h2 h3 h4 h5 h6 h7;omega
theorem Dg{v:List Int}{o j a:Int}(h0:0≤o)(h1:o<v.length)(hj:0≤j):ix (v.set o.toNat a) j=if j=o then a else ix v j:=by
 unfold ix;rw[List.getElem?_set];by_cases e:j=o
 ·subst e;rw[if_pos rfl,if_pos rfl,if_pos (by omega)];rfl
 ·rw[if_neg e,if_neg (by omega)]
structure lm(x:ao):Prop where
 len:x.deps.length=8
 dep: ∀j:Int,0≤j→j<8→0≤ix x.deps j
 seq:0≤x.id.seq
def Dh(d:List Int):Int:=ix d 0+ix d 1+ix d 2+ix d 3+ix d 4+ix d 5+ix d 6+ix d 7
theorem Di{a b:List Int}(h: ∀j:Int,0≤j→j<8→ix a j≤ix b j){o:Int}(h0:0≤o)(h1:o<8)(hlt:ix a o<ix b o):Dh a<Dh b:=by
 have q0:=h 0 (by omega) (by omega);have q1:=h 1 (by omega) (by omega);have q2:=h 2 (by omega) (by omega);have q3:=h 3 (by omega) (by omega);have q4:=h 4 (by omega) (by omega);have q5:=h 5 (by omega) (by omega);have q6:=h 6 (by omega) (by omega);have q7:=h 7 (by omega) (by omega);unfold Dh;have:o=0∨o=1∨o=2∨o=3∨o=4∨o=5∨o=6∨o=7:=by omega
 rcases this with rfl|rfl|rfl|rfl|rfl|rfl|rfl|rfl<;>omega
theorem E8{α:Type}(f:α→Int): ∀(l:List α),l≠ []→ ∃x∈l,∀y∈l,f x≤f y
 | [],h=>absurd rfl h
 | [a],_=>⟨a,by simp,fun y hy=>by simp at hy;subst hy;exact Int.le_refl _⟩
 |a::b::r,_=>by
  obtain⟨x,hx,hm⟩:=E8 f (b::r) (by simp);by_cases h:f a≤f x
  ·exact⟨a,by simp,fun y hy=>by
    rcases List.mem_cons.1 hy with rfl|hy
    ·exact Int.le_refl _
    ·exact Int.le_trans h (hm y hy)⟩
  ·exact⟨x,List.mem_cons_of_mem _ hx,fun y hy=>by
    rcases List.mem_cons.1 hy with rfl|hy
    ·omega
    ·exact hm y hy⟩
section
variable {l:List ao}
theorem j6.idr(F:j6 l)(hw: ∀x∈l,lm x){x:ao}(hx:x∈l):0≤x.id.origin∧x.id.origin<8∧1≤x.id.seq∧x.id.seq≤1048576:=by
 have h:=(F.id x hx).1;have h2:=(hw x hx).seq;unfold dm at h;split at h
 ·cases h
 ·omega
theorem j6.dep(F:j6 l)(hw: ∀x∈l,lm x){x:ao}(hx:x∈l){j:Int}(h0:0≤j)(h1:j<8):0≤ix x.deps j∧ix x.deps j≤1048576:=by
 have h:=(F.id x hx).2;rw[xF,nL]at h;exact⟨(hw x hx).dep j h0 h1,h j h0 h1⟩
theorem j6.next(F:j6 l)(hw: ∀x∈l,lm x){x:ao}(hx:x∈l):ix x.deps x.id.origin+1=x.id.seq:=by
 have h1:=F.idr hw hx;have h2:=F.dep hw hx h1.1 h1.2.1;have h3:=F.ses x hx;omega
theorem j6.prog(F:j6 l)(hw: ∀x∈l,lm x){left:List ao}{v:List Int}(hs: ∀x∈left,x∈l)(ht: ∀x∈l,x∈left∨x.id.seq≤ix v x.id.origin)(hv: ∀j:Int,0≤j→j<8→0≤ix v j)(hne:left≠ []):
  ∃x∈left,∀j:Int,0≤j→j<8→ix x.deps j≤ix v j:=by
 obtain⟨x,hx,hm⟩:=E8 (fun x:ao=>Dh x.deps) left hne;refine⟨x,hx,fun j h0 h1=>?_⟩;by_cases hp:ix x.deps j≤0
 ·have:=hv j h0 h1;omega
 ·obtain⟨y,hy,e,hle⟩:=F.seen x (hs x hx) j (ix x.deps j) h0 h1 (by omega) (Int.le_refl _);rw[uT (hw y hy).len (hw x (hs x hx)).len,mC]at hle;have hn:=F.next hw hy;have eo:y.id.origin=j:=by rw[e]
  have es:y.id.seq=ix x.deps j:=by rw[e]
  rw[eo,es]at hn;have hlt:=Di hle h0 h1 (by omega);rcases ht y hy with h|h
  ·have:=hm y h;omega
  ·rw[eo,es]at h;exact h
abbrev z8:List Int:= [(0:Int),(0:Int),(0:Int),(0:Int),(0:Int),(0:Int),(0:Int),(0:Int)]
def ln(l:List ao):List Int→List bD→List Int→Prop
 |v,[],w=>v=w
 |v,id::r,w=>(∃x∈l,x.id=id∧jP x.deps v=true)∧dA v id=(v.set id.origin.toNat id.seq,0)∧ln l (v.set id.origin.toNat id.seq) r w
theorem ln.snoc{id:bD}{w:List Int}(h1: ∃x∈l,x.id=id∧jP x.deps w=true)(h2:dA w id=(w.set id.origin.toNat id.seq,0)): ∀{v:List Int} {a:List bD},ln l v a w→ln l v (a++ [id]) (w.set id.origin.toNat id.seq)
 |v,[],h=>by
  have h:v=w:=h;subst h;exact⟨h1,h2,rfl⟩
 |v,i::a,h=>⟨h.1,h.2.1,ln.snoc h1 h2 h.2.2⟩
structure OI(l left:List ao)(v:List Int)(out:List bD):Prop where
 sub: ∀x∈left,x∈l
 nd:left.Pairwise fun x y=>x.id≠y.id
 len:out.length+left.length=l.length
 tk: ∀x∈l,x∈left∨x.id.seq≤ix v x.id.origin
 nt: ∀x∈left,ix v x.id.origin<x.id.seq
 vl:v.length=8
 vp: ∀j:Int,0≤j→j<8→0≤ix v j∧ix v j≤1048576
 run:ln l z8 out v
theorem OI.step(F:j6 l)(hw: ∀x∈l,lm x){left:List ao}{v:List Int}{out:List bD}(I:OI l left v out){i:Int}(h0:0≤i)(h1:i<left.length)(hle:iG (ix left i).deps v=true):
  OI l (left.eraseIdx i.toNat) (v.set (ix left i).id.origin.toNat (ix left i).id.seq) (out++ [(ix left i).id]):=by
 obtain⟨n,rfl⟩:=Int.eq_ofNat_of_zero_le h0;have hn:n<left.length:=by omega
 have hx:=I.sub _ (fY left h0 h1);have ei:ix left (n:Int)=left[n]:=mD left hn;have hid:=F.idr hw hx;have hnt:=I.nt _ (fY left h0 h1);have hnx:=F.next hw hx;rw[uT (hw _ hx).len I.vl]at hle;have hle2:=(mC _ _).1 hle _ hid.1 hid.2.1;have hvo:=I.vp _ hid.1 hid.2.1;have hseq:(ix left (n:Int)).id.seq=ix v (ix left (n:Int)).id.origin+1:=by omega
 have hset: ∀j:Int,0≤j→ix (v.set (ix left (n:Int)).id.origin.toNat (ix left (n:Int)).id.seq) j=if j=(ix left (n:Int)).id.origin then(ix left (n:Int)).id.seq else ix v j:=fun j hj=>Dg hid.1 (by rw[I.vl];omega) hj;have hge: ∀j:Int,0≤j→ix v j≤ix (v.set (ix left (n:Int)).id.origin.toNat (ix left (n:Int)).id.seq) j:=fun j hj=>by
  rw[hset j hj];split
  ·rename_i e;subst e;omega
  ·omega
 have her: ∀y,y∈left.eraseIdx n↔y∈left∧y.id≠(ix left (n:Int)).id:=fun y=>by
  rw[List.mem_eraseIdx_iff_getElem];constructor
  ·rintro⟨k,hk,hkn,rfl⟩;refine⟨List.getElem_mem _,?_⟩;rw[ei];rcases Nat.lt_or_gt_of_ne hkn with h|h
   ·exact(List.pairwise_iff_getElem.1 I.nd) k n hk hn h
   ·exact fun e=>(List.pairwise_iff_getElem.1 I.nd) n k hn hk h e.symm
  ·rintro⟨hy,hne⟩;obtain⟨k,hk,rfl⟩:=List.getElem_of_mem hy;refine⟨k,hk,fun e=>hne ?_,rfl⟩;subst e;rw[ei]
 rw[Int.toNat_natCast];refine⟨fun x hx=>I.sub x ((her x).1 hx).1,I.nd.sublist (List.eraseIdx_sublist ..),?_,fun y hy=>?_,fun y hy=>?_,by rw[List.length_set];exact I.vl,fun j h0 h1=>?_,ln.snoc ⟨_,hx,rfl,hle⟩ ?_ I.run⟩
 ·rw[List.length_append,List.length_eraseIdx,if_pos hn];have:=I.len;simp only[List.length_cons,List.length_nil];omega
 ·have hyr:=F.idr hw hy;rcases I.tk y hy with h|h
  ·by_cases e:y.id=(ix left (n:Int)).id
   ·right;rw[hset _ hyr.1,e,if_pos rfl];exact Int.le_refl _
   ·exact .inl ((her y).2 ⟨h,e⟩)
  ·exact .inr (Int.le_trans h (hge _ hyr.1))
 ·obtain⟨hy,hne⟩:=(her y).1 hy;have hyr:=F.idr hw (I.sub y hy);have h2:=I.nt y hy;rw[hset _ hyr.1];split
  ·rename_i e;rw[e]at h2;have:y.id.seq≠(ix left (n:Int)).id.seq:=fun e2=>hne (by
    revert e e2;cases y.id;cases (ix left (n:Int)).id;rintro rfl rfl;rfl)
   omega
  ·exact h2
 ·rw[hset j h0];split
  ·omega
  ·exact I.vp j h0 h1
 ·unfold dA;have c1:eb v=0:=(nL v).2 fun j h0 h1=>(I.vp j h0 h1).2;have c2:dI (ix left (n:Int)).id=0:=by
   unfold dI;rw[if_neg (by omega)]
  rw[if_neg (by rw[c1,c2];simp),if_neg (by unfold od;rw[c2];simp;omega),if_pos (by omega)]
theorem zP{α:Type}{l:List α}{g:α→Bool}(h:bW l g<0): ∀x∈l,g x=false:=by
 unfold bW at h;cases hq:l.findIdx? g with
 |none=>intro x hx;simpa using List.findIdx?_eq_none_iff.1 hq x hx
 |some k=>rw[hq]at h;dsimp only at h;omega
theorem Dj{α:Type} [Inhabited α]{l:List α}{g:α→Bool}(h: ¬bW l g<0):g (ix l (bW l g))=true:=by
 unfold bW at h⊢;cases hq:l.findIdx? g with
 |none=>rw[hq]at h;exact absurd (by decide) h
 |some k=>
  obtain⟨h1,h2,_⟩:=List.findIdx?_eq_some_iff_getElem.1 hq;dsimp only;rw[mD l h1];exact h2
theorem tC(F:j6 l)(hw: ∀x∈l,lm x): ∀(n:Nat) (left:List ao) (v:List Int) (out:List bD),left.length<n→OI l left v out→ ∃out' v',d5 n left v out= .inl (out',0)∧out'.length=l.length∧ln l z8 out' v'
 |0,_,_,_,h,_=>absurd h (Nat.not_lt_zero _)
 |n+1,left,v,out,h,I=>by
  rw[d5];split
  ·rename_i hi;have:left= []:=Classical.byContradiction fun hne=>by
    obtain⟨x,hx,hle⟩:=F.prog hw I.sub I.tk (fun j h0 h1=>(I.vp j h0 h1).1) hne;have:=zP hi x hx;rw[show aP x v=iG x.deps v from rfl,uT (hw x (I.sub x hx)).len I.vl,(mC _ _).2 hle]at this;cases this
   subst this;exact⟨out,v,rfl,by have:=I.len;simpa using this,I.run⟩
  ·rename_i hi;have hin:=iu hi;exact tC F hw n _ _ _ (by have:=nz hi;omega) (I.step F hw hin.1 hin.2 (Dj hi))
theorem ph(hc:(bu l).2=0)(hw: ∀x∈l,lm x): ∃out v,aB l=(out,0)∧out.length=l.length∧ln l z8 out v:=by
 have F:=gQ hc;have hp:(be (fun(t t':ao)=>bC t t') l).Perm l:=by unfold be;exact List.mergeSort_perm ..
 obtain⟨out,v,h1,h2,h3⟩:=tC F hw ((be (fun(t t':ao)=>bC t t') l).length+1) _ z8 [] (Nat.lt_succ_self _) ⟨fun x hx=>hp.mem_iff.1 hx,(hp.pairwise_iff (fun{x y} h e=>h e.symm)).2 F.nd,by rw[List.length_nil,Nat.zero_add];exact hp.length_eq,fun x hx=> .inl (hp.mem_iff.2 hx),fun x hx=>by
  have:=F.idr hw (hp.mem_iff.1 hx);have e: ∀j:Int,0≤j→j<8→ix z8 j=0:=fun j h0 h1=>by
   have:j=0∨j=1∨j=2∨j=3∨j=4∨j=5∨j=6∨j=7:=by omega
   rcases this with rfl|rfl|rfl|rfl|rfl|rfl|rfl|rfl<;>rfl
  rw[e _ this.1 this.2.1];omega,rfl,fun j h0 h1=>by
   have:j=0∨j=1∨j=2∨j=3∨j=4∨j=5∨j=6∨j=7:=by omega
   rcases this with rfl|rfl|rfl|rfl|rfl|rfl|rfl|rfl<;>decide,rfl⟩
 refine⟨out,v,?_,h2,h3⟩;unfold aB;rw[if_pos hc,h1]
theorem tD{id:bD}: ∀(l:List ao) (m:List (bD×List Int)),(∀x∈l,x.id≠id)→bh (l.foldl (fun m x=>bL m x.id x.deps) m) id=bh m id
 | [],m,_=>rfl
 |a::l,m,h=>by
  rw[List.foldl_cons,tD l _ fun x hx=>h x (by simp[hx]),qH,if_neg (fun e=>h a (by simp) e.symm)]
theorem wy{x:ao}: ∀(l:List ao) (m:List (bD×List Int)),l.Pairwise (fun x y=>x.id≠y.id)→x∈l→bh (l.foldl (fun m x=>bL m x.id x.deps) m) x.id=some x.deps
 |a::l,m,hp,hx=>by
  rw[List.pairwise_cons]at hp;rw[List.foldl_cons];rcases List.mem_cons.1 hx with rfl|hx
  ·rw[tD l _ fun y hy=>fun e=>hp.1 y hy e.symm,qH,if_pos rfl]
  ·exact wy l _ hp.2 hx
theorem zQ{s5:List (bD×List Int)}{out:List bD}(he:(aB (bv l)).fst=out)(hd: ∀x∈l,bh s5 x.id=some x.deps){w:List Int}: ∀(n:Nat) (i:Int) (v:List Int),0≤i→((out.length:Int)- i).toNat<n→ln l v (out.drop i.toNat) w→ ∃q,cX l s5 n i v= .inr q
 |0,i,v,_,h,_=>absurd h (Nat.not_lt_zero _)
 |n+1,i,v,h0,h,hr=>by
  rw[cX,he];split
  ·rename_i h1;rw[rQ out h0 h1]at hr;obtain⟨⟨x,hx,hid,hle⟩,htk,hr⟩:=hr;rw[←hid,hd x hx,hid,show(some x.deps).getD vk.zero=x.deps from rfl,if_pos hle,htk,if_pos rfl];exact zQ he hd n _ _ (by omega) (by omega) hr
  ·exact⟨_,rfl⟩
theorem uU:kP=true:=by decide+kernel
theorem pi(hw: ∀x∈l,lm x):gq l=true:=by
 unfold gq;rw[if_pos uU];split
 ·rfl
 ·split
  ·rename_i hz;rw[rM]at hz;have hc:(bu l).2=0:=Classical.byContradiction fun h=>by
    unfold aB at hz;rw[if_neg h]at hz;cases hz
   obtain⟨out,v,h1,h2,h3⟩:=ph hc hw;have he:(aB (bv l)).fst=out:=by rw[rM,h1]
   have hf:=fN l (fun m x=>bL m x.id x.deps) (cY l) (fun fuel b i _=>by rw[cY]) [];rw[hf];dsimp only;rw[he];obtain⟨q,hq⟩:=zQ (w:=v) he (fun x hx=>wy l [] (gQ hc).nd hx) (((↑out.length:Int)-(0:Int)).toNat+1) 0 z8 (by omega) (by omega) h3;rw[hq];simp[h2]
  ·rename_i hz;rw[rM]at hz⊢;unfold aB at hz⊢;split
   ·rename_i hc;obtain⟨out,v,h1,h2,h3⟩:=ph hc hw;unfold aB at h1;rw[if_pos hc]at h1 hz;rw[h1]at hz;exact absurd rfl hz
   ·rfl
end
end Go.Proofs.YtmpeiadlohbikaaGreatDoor.V
end

section
set_option linter.unusedVariables false
set_option linter.unusedSimpArgs false
namespace Go.Proofs.YtmpeiadlohbikaaGreatDoor.V
open Go.ChangeShapes Go.WideShapes Go.ChangeAt Go.RowKit Go.Joins
section
variable {W:World}
set_option maxRecDepth 20000
theorem Ou:nA Tryz.prog U W 28 (.int .u32):=BK Tryz.underlying28
theorem Qw:nA Tryz.prog U W 59 (.st 0):=jI Tryz.underlying59 (by kernel_rfl) (.cons _ _ _ _ _ _ rfl (by kernel_rfl) o3 (.cons _ _ _ _ _ _ rfl (by kernel_rfl) Ou (.nil _))) (fun _=>trivial)
theorem Qx:nA Tryz.prog U W 45 (.arr 8 (.int .u32)):=BN (z:=1) Tryz.underlying45 rfl (by kernel_rfl) (by kernel_rfl) Ou
theorem Sw:nA Tryz.prog U W 30 (.st 2):=jI Tryz.underlying30 (by kernel_rfl) (.cons _ _ _ _ _ _ rfl (by kernel_rfl) Ou (.cons _ _ _ _ _ _ rfl (by kernel_rfl) o3 (.nil _))) (fun _=>trivial)
theorem Sx:nA Tryz.prog U W 224 (.st 3):=jI Tryz.underlying224 (by kernel_rfl) (.cons _ _ _ _ _ _ rfl (by kernel_rfl) Qw (.cons _ _ _ _ _ _ rfl (by kernel_rfl) Qx (.cons _ _ _ _ _ _ rfl (by kernel_rfl) o3 (.cons _ _ _ _ _ _ rfl (by kernel_rfl) o9 (.cons _ _ _ _ _ _ rfl (by kernel_rfl) SG (.cons _ _ _ _ _ _ rfl (by kernel_rfl) Sw (.nil _))))))) (fun _=>trivial)
theorem Sy:nA Tryz.prog U W 149 (.st 6):=jI Tryz.underlying149 (by kernel_rfl) (.cons _ _ _ _ _ _ rfl (by kernel_rfl) o9 (.cons _ _ _ _ _ _ rfl (by kernel_rfl) o2 (.nil _))) (fun _=>trivial)
theorem Sz(hB:Bs W):nA Tryz.prog U W 79 (.sl (.st 6)):=qR (z:=2) hB Tryz.underlying79 rfl (by kernel_rfl) (by decide) Sy
theorem SA(hB:Bs W):nA Tryz.prog U W 81 (.st 7):=jI Tryz.underlying81 (by kernel_rfl) (.cons _ _ _ _ _ _ rfl (by kernel_rfl) o3 (.cons _ _ _ _ _ _ rfl (by kernel_rfl) o2 (.cons _ _ _ _ _ _ rfl (by kernel_rfl) (Sz hB) (.nil _)))) (fun _=>trivial)
theorem Ov(hB:Bs W):nA Tryz.prog U W 104 (.st 8):=jI Tryz.underlying104 (by kernel_rfl) (.cons _ _ _ _ _ _ rfl (by kernel_rfl) o9 (.cons _ _ _ _ _ _ rfl (by kernel_rfl) o3 (.cons _ _ _ _ _ _ rfl (by kernel_rfl) (SA hB) (.nil _)))) (fun _=>trivial)
theorem SB(hB:Bs W):nA Tryz.prog U W 94 (.sl (.st 3)):=qR (z:=17) hB Tryz.underlying94 rfl (by kernel_rfl) (by decide) Sx
theorem SC(hB:Bs W):nA Tryz.prog U W 95 (.sl (.st 8)):=qR (z:=5) hB Tryz.underlying95 rfl (by kernel_rfl) (by decide) (Ov hB)
theorem SD(hB:Bs W):nA Tryz.prog U W 97 (.st 9):=jI Tryz.underlying97 (by kernel_rfl) (.cons _ _ _ _ _ _ rfl (by kernel_rfl) Qw (.cons _ _ _ _ _ _ rfl (by kernel_rfl) Qx (.cons _ _ _ _ _ _ rfl (by kernel_rfl) o3 (.cons _ _ _ _ _ _ rfl (by kernel_rfl) (SB hB) (.cons _ _ _ _ _ _ rfl (by kernel_rfl) (SC hB) (.nil _)))))) (fun _=>trivial)
theorem SE(hB:Bs W):nA Tryz.prog U W 86 (.sl (.st 9)):=qR (z:=13) hB Tryz.underlying86 rfl (by kernel_rfl) (by decide) (SD hB)
end
section
variable {Y:List Nat} {S:World→Prop}
theorem aT.mem{U:bG}{e:aZ}: ∀{xs:List (TT U.ty e)} {vs:List Value},aT U Y S e xs vs→ ∀x∈xs,∃us,aC U Y S e x us
 | [],vs,_,x,hx=>by cases hx
 |y::xs,vs,h,x,hx=>by
  obtain⟨v1,v2,_,h1,_,h2⟩:=h.cons_inv;rcases List.mem_cons.1 hx with rfl|hx
  ·exact⟨v1,h1⟩
  ·exact aT.mem h2 x hx
theorem Dk{x:ao}{vs:List Value}(h:aC U Y S (.st 9) x vs):lm x:=by
 obtain⟨h,-⟩:=h.inv;obtain⟨_,_,-,h1,-,h⟩:=bE.inv (fs:= [(2,.st 0),(8,.arr 8 (.int .u32)),(1,.int .i64),(1,.sl (.st 3)),(1,.sl (.st 8))]) h;obtain⟨_,_,-,h2,-,h⟩:=bE.inv (fs:= [(8,.arr 8 (.int .u32)),(1,.int .i64),(1,.sl (.st 3)),(1,.sl (.st 8))]) h;obtain⟨h1,-⟩:=aC.inv (s:= .st 0) h1;obtain⟨_,_,-,-,-,h1⟩:=bE.inv (fs:= [(1,.int .i64),(1,.int .u32)]) h1;obtain⟨_,_,-,h3,-,-⟩:=bE.inv (fs:= [(1,.int .u32)]) h1;obtain⟨h4,h5⟩:=aC.inv (s:= .arr 8 (.int .u32)) h2;refine⟨h5,fun j h0 h1=>?_,(aC.inv (s:= .int .u32) h3).2.1⟩;obtain⟨us,hu⟩:=aT.mem h4 _ (fY x.deps h0 (by have:x.deps.length=8:=h5;omega));exact(aC.inv (s:= .int .u32) hu).2.1
end
end Go.Proofs.YtmpeiadlohbikaaGreatDoor.V
end

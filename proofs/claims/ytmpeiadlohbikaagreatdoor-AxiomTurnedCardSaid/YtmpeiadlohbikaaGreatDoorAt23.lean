/- Functions walked: printed by the walker. -/
import Derived.Test.YtmpeiadlohbikaaGreatDoorAt21
import Derived.Test.YtmpeiadlohbikaaGreatDoorAt22
section
set_option linter.unusedVariables false
set_option linter.unusedSimpArgs false
set_option maxRecDepth 20000
set_option maxHeartbeats 4000000
namespace Go.Proofs.YtmpeiadlohbikaaGreatDoor.V
open Go.RowKit
def iF(x:al):Prop:=x.ops.length≤1000∧(∀p∈x.ops,p.key.length≤1000000)∧(∀l∈x.looks,l.key.length≤1000000)
theorem BB{x:al}(h:iF x){j:Int}(h0:0≤j)(h1:j<x.ops.length):(ix x.ops j).key.length≤1000000:=h.2.1 _ (gI _ h0 h1)
theorem jU{x:al}(h:iF x){j:Int}(h0:0≤j)(h1:j<x.looks.length):(ix x.looks j).key.length≤1000000:=h.2.2 _ (gI _ h0 h1)
theorem uV{l:List al}(h: ∀y∈l,iF y){j:Int}(h0:0≤j)(h1:j<l.length):iF (ix l j):=h _ (gI _ h0 h1)
theorem rH{l:List al}(h: ∀y∈l,iF y){j:Int}(h0:0≤j)(h1:j<l.length):(ix l j).ops.length≤1000:=(h _ (gI _ h0 h1)).1
def Q8:c6 U:= [(55,Oy),(56,Ov)]
theorem E3:bi Tryz.prog U Q8:=aa Gn (aa Ox (ah))
def Ms:c6 U:= [(133,yy)]
theorem BC:nI Tryz.prog U y6 Ms:=ed ur (j8)
def cy(x:al)(l:List al):Nat→Int→(Int⊕Unit)⊕(Int)
 |0,s8=> .inr s8
 |n1+1,s8=>
  if s8<(↑l.length:Int)then
   if(¬(gN x.deps (ix l s8).id=true))∨(jZ (ix l s8).deps x.deps=true)then
    cy x l n1 (s8+(1:Int))
   else
    .inl (.inl (5:Int))
  else
   .inr s8
def dD(x:al)(l:List al):Int⊕Unit:=
 match cy x l (((↑l.length:Int)-(0:Int)).toNat+1) (0:Int)with
 | .inl r=>r
 | .inr s8=>
  (.inr ())
def Mt:aW U:=⟨[.d (.st 9),.d (.sl (.st 9))],fun xs es K=> ∃(x:al) (l:List al),xs= [⟨true,[(13,.d (.st 9) x)]⟩,⟨false,[(1,.d (.sl (.st 9)) l)]⟩]∧es= []∧V2 (∀r0,dD x l= .inl r0→((0≤r0∧r0≤8))→K (.pan r0) []) (dD x l= .inr ()→(True)→K (.tup []) [])⟩
theorem Mu:mN Tryz.prog U y6 136 Mt:=by
 refine sA (fn:=Tryz.f136) BC E3 bP (by kernel_rfl) Tryz.f136.ntmps [] [] (by kernel_rfl) (by kernel_rfl) rfl rfl (by kernel_rfl) (fun xs es K=>?_);rintro⟨x,l,rfl,rfl,h⟩;refine⟨rfl,?_⟩;have hf0:=dD.eq_1 x l;refine fun h0=>?_;have h0:(↑l.length:Int)≤(9223372036854775807:Int):=h0.2;refine⟨Int,1,fun(s8:Int)=> [(2,.v ⟨false,[(1,.ptr 0 0)]⟩),(6,.v ⟨false,[(1,.d (.sl (.st 9)) l)]⟩),(7,.v ⟨false,[(1,.d (.int .i64) (↑l.length:Int))]⟩),(8,.v ⟨false,[(1,.d (.int .i64) s8)]⟩)],fun(s8:Int)=> [(0,.cells [(13,.d (.st 9) x)] 110)],aN (fun(s8:Int)=>((↑l.length:Int)- s8).toNat) (fun(s8:Int)=>((0:Int)≤s8)∧(s8≤(↑l.length:Int))∧True) (fun n1 (s8:Int)=>cy x l n1 s8) (cy x l (((↑l.length:Int)-(0:Int)).toNat+1) (0:Int)),fun(s8:Int)=>((↑l.length:Int)- s8).toNat,⟨[],(0:Int),aN.mk0 _ (Nat.lt_succ_self _) ⟨show(0:Int)≤(0:Int)from by omega,show(0:Int)≤(↑l.length:Int)from by omega,trivial⟩ rfl,?_⟩,?_⟩
 ·repeat (first|exact trivial|refine And.intro rfl ?_)
 ·rintro s8 ⟨n1,hc1,⟨hi1_0,hi1_1,-⟩,hf1⟩;have hf1:=hf1.trans (cy.eq_2 x l s8 n1);refine vI hf1 iD (fun h1 hf1=>?_) (fun h1 hf1=>?_)
  ·refine And.intro (show(0:Int)≤s8∧s8<(↑l.length:Int)from by omega) ?_;refine⟨_,_,rfl,rfl,?_⟩;refine⟨_,fun h2=>⟨_,_,rfl,rfl,rfl,rfl⟩,rfl,?_⟩;refine⟨_,_,rfl,rfl,?_⟩;refine vI hf1 (iO (iN iB) iB) (fun h3 hf1=>?_) (fun h3 hf1=>?_)
   ·refine .inl (And.intro (jc (p:=s8) (q:=(1:Int)) (r:=s8+(1:Int)) (by omega)) ?_);have hm1:((↑l.length:Int)-(s8+(1:Int))).toNat<((↑l.length:Int)- s8).toNat:=by omega
    refine⟨[],s8+(1:Int),hm1,aN.next (s:=s8) hc1 hm1 ⟨show(0:Int)≤s8+(1:Int)from by omega,show s8+(1:Int)≤(↑l.length:Int)from by omega,trivial⟩ hf1,?_⟩;repeat (first|exact trivial|refine And.intro rfl ?_)
   ·rw[hf1]at hf0;exact h.1 _ hf0 (show((fun(r0:Int)=>(0≤r0∧r0≤8)) (5:Int):Prop)from by omega)
  ·rw[hf1]at hf0;exact h.2 hf0 (show(True:Prop)from by simp)
theorem uW{κ β:Type} [DecidableEq κ]{m:List (κ×β)}{k:κ}{v:β}(h:bO m k=some v):(k,v)∈m:=by
 unfold bO at h;obtain⟨p,h1,h2⟩:=Option.map_eq_some_iff.1 h;have:=List.find?_some h1;obtain rfl:p.1=k:=by simpa using this
 subst h2;exact List.mem_of_find?_eq_some h1
theorem Mw{n:Nat}{pl:List (bC×Int)}(hp: ∀p∈pl,0≤p.2∧p.2<n){id:bC}{z:Int}(h:(bO pl id).isSome=true):0≤(bO pl id).getD z∧(bO pl id).getD z<n:=by
 obtain⟨v,hv⟩:=Option.isSome_iff_exists.1 h;rw[hv];exact hp _ (uW hv)
def Q9:c6 U:= []
theorem E4:bi Tryz.prog U Q9:=ah
def Mx:c6 U:= [(133,yy)]
theorem BD:nI Tryz.prog U y6 Mx:=ed ur (j8)
def cC(recs:List al)(pl:List (bC×Int))(x:al)(s13:Int):Nat→Int→(List al)→(Int⊕(List al))⊕(Int×(List al))
 |0,s8,s5'=> .inr (s8,s5')
 |n2+1,s8,s5'=>
  if s8≤ix x.deps s13 then
   if(bO pl (bC.mk s13 s8)).isSome=true then
    cC recs pl x s13 n2 (s8+(1:Int)) (s5'++ [ix recs ((bO pl (bC.mk s13 s8)).getD cS.zero)])
   else
    .inl (.inl (4:Int))
  else
   .inr (s8,s5')
def cF(recs:List al)(pl:List (bC×Int))(x:al):Nat→Int→(List al)→(Int⊕(List al))⊕(Int×(List al))
 |0,s13,s5=> .inr (s13,s5)
 |n1+1,s13,s5=>
  if s13<(8:Int)then
   if ix x.deps s13≤(↑recs.length:Int)then
    match cC recs pl x s13 ((ix x.deps s13+(1:Int)-(1:Int)).toNat+1) (1:Int) s5 with
    | .inl r=> .inl r
    | .inr (s8,s5')=>
     cF recs pl x n1 (s13+(1:Int)) s5'
   else
    .inl (.inl (4:Int))
  else
   .inr (s13,s5)
def dR(recs:List al)(pl:List (bC×Int))(x:al):Int⊕(List al):=
 match cF recs pl x (((8:Int)-(0:Int)).toNat+1) (0:Int) ([]:List al)with
 | .inl r=>r
 | .inr (s13,s5)=>
  (.inr s5)
def My:aW U:=⟨[.n,.d (.st 9)],fun xs es K=> ∃(recs:List al) (pl:List (bC×Int)) (x:al),xs= [⟨true,[(1,.d (.sl (.st 9)) recs),(1,.mp 0)]⟩,⟨true,[(13,.d (.st 9) x)]⟩]∧es= [.map cS pl]∧(recs.length≤128)∧(∀p∈pl,0≤p.2∧p.2<recs.length)∧V2 (∀r0,dR recs pl x= .inl r0→((0≤r0∧r0≤8))→K (.pan r0) [.map cS pl]) (∀r0,dR recs pl x= .inr r0→(True)→K (.v ⟨false,[(1,.d (.sl (.st 9)) r0)]⟩) [.map cS pl])⟩
theorem Mz:mN Tryz.prog U y6 135 My:=by
 refine sA (fn:=Tryz.f135) BD E4 bP (by kernel_rfl) Tryz.f135.ntmps [.d (.sl (.st 9))] [] (by kernel_rfl) (by kernel_rfl) rfl rfl (by kernel_rfl) (fun xs es K=>?_);rintro⟨recs,pl,x,rfl,rfl,hr,hp,h⟩;refine⟨rfl,?_⟩;have hf0:=dR.eq_1 recs pl x;refine⟨Int×(List al),4,fun(s13,s5)=> [(2,.v ⟨false,[(1,.ptr 1 0)]⟩),(5,.v ⟨false,[(1,.own 3 0)]⟩),(12,.v ⟨true,[(8,.d (.arr 8 (.int .u32)) x.deps)]⟩),(13,.v ⟨false,[(1,.d (.int .i64) s13)]⟩)],fun(s13,s5)=> [(0,.map cS pl),(1,.cells [(1,.d (.sl (.st 9)) recs),(1,.mp 0)] 169),(3,.row 0 (.st 9) s5 110)],aN (fun(s13,s5)=>((8:Int)- s13).toNat) (fun(s13,s5)=>((0:Int)≤s13)∧(s13≤(8:Int))∧((s5.length:Int)≤128*s13)∧True) (fun n1 (s13,s5)=>cF recs pl x n1 s13 s5) (cF recs pl x (((8:Int)-(0:Int)).toNat+1) (0:Int) ([]:List al)),fun(s13,s5)=>((8:Int)- s13).toNat,⟨[],((0:Int),([]:List al)),aN.mk0 _ (Nat.lt_succ_self _) ⟨show(0:Int)≤(0:Int)from by omega,show(0:Int)≤(8:Int)from by omega,show(↑[].length:Int)≤(128:Int)*(0:Int)from by(simp only[List.length_append,List.length_cons,List.length_nil];omega),trivial⟩ rfl,?_⟩,?_⟩
 ·repeat (first|exact trivial|refine And.intro rfl ?_)
 ·rintro⟨s13,s5⟩ ⟨n1,hc1,⟨hi1_0,hi1_1,hi1_2,-⟩,hf1⟩;have hf1:=hf1.trans (cF.eq_2 recs pl x s13 s5 n1);refine vI hf1 iD (fun h0 hf1=>?_) (fun h0 hf1=>?_)
  ·refine And.intro (show(0:Int)≤s13∧s13<(↑(8:Nat):Int)from by omega) ?_;refine .inl (And.intro (fun(h1:(0:Int)≤ix x.deps s13∧ix x.deps s13≤(4294967295:Int))=>(show(-9223372036854775808:Int)≤ix x.deps s13∧ix x.deps s13≤(9223372036854775807:Int)from by omega)) ?_);refine fun h2=>?_;have h2:(↑recs.length:Int)≤(9223372036854775807:Int):=h2.2;refine⟨_,_,rfl,rfl,?_⟩;refine vI hf1 iD (fun h3 hf1=>?_) (fun h3 hf1=>?_)
   ·refine⟨Int×(List al),4,fun(s8,s5')=> [(2,.v ⟨false,[(1,.ptr 1 0)]⟩),(5,.v ⟨false,[(1,.own 3 0)]⟩),(6,.v ⟨false,[(1,.d (.int .i64) s13)]⟩),(7,.v ⟨false,[(1,.d (.int .u32) ((ix x.deps s13):Int))]⟩),(8,.v ⟨false,[(1,.d (.int .u32) s8)]⟩),(12,.v ⟨true,[(8,.d (.arr 8 (.int .u32)) x.deps)]⟩),(13,.v ⟨false,[(1,.d (.int .i64) s13)]⟩)],fun(s8,s5')=> [(0,.map cS pl),(1,.cells [(1,.d (.sl (.st 9)) recs),(1,.mp 0)] 169),(3,.row 0 (.st 9) s5' 110)],aN (fun(s8,s5')=>(ix x.deps s13+1 - s8).toNat) (fun(s8,s5')=>((s5'.length:Int)≤s5.length+s8 - 1)∧(1≤s8)∧(s8≤max (ix x.deps s13) 0+1)∧True) (fun n2 (s8,s5')=>cC recs pl x s13 n2 s8 s5') (cC recs pl x s13 ((ix x.deps s13+(1:Int)-(1:Int)).toNat+1) (1:Int) s5),fun(s8,s5')=>(ix x.deps s13+1 - s8).toNat,⟨[],((1:Int),s5),aN.mk0 _ (Nat.lt_succ_self _) ⟨show(↑s5.length:Int)≤(↑s5.length:Int)+(1:Int)-(1:Int)from by omega,show(1:Int)≤(1:Int)from by omega,show(1:Int)≤max (ix x.deps s13) (0:Int)+(1:Int)from by omega,trivial⟩ rfl,?_⟩,?_⟩
    ·repeat (first|exact trivial|refine And.intro rfl ?_)
    ·rintro⟨s8,s5'⟩ ⟨n2,hc2,⟨hi2_0,hi2_1,hi2_2,-⟩,hf2⟩;have hf2:=hf2.trans (cC.eq_2 recs pl x s13 s8 s5' n2);refine vI hf2 iD (fun h4 hf2=>?_) (fun h4 hf2=>?_)
     ·refine⟨_,_,rfl,rfl,?_⟩;refine vI hf2 iB (fun h5 hf2=>?_) (fun h5 hf2=>?_)
      ·refine And.intro (show(0:Int)≤(bO pl (bC.mk s13 s8)).getD cS.zero∧(bO pl (bC.mk s13 s8)).getD cS.zero<(↑recs.length:Int)from Mw (by assumption) (by assumption)) ?_;refine And.intro (show(s5'.length+ [ix recs ((bO pl (bC.mk s13 s8)).getD cS.zero)].length)*(104:Nat)≤(140737488355328:Nat)from by(simp only[List.length_append,List.length_cons,List.length_nil];omega)) ?_;refine .inl (And.intro (SP (p:=s8) (q:=(1:Int)) (r:=s8+(1:Int)) (by omega)) ?_);have hm2:(ix x.deps s13+(1:Int)-(s8+(1:Int))).toNat<(ix x.deps s13+(1:Int)- s8).toNat:=by omega
       refine⟨[],(s8+(1:Int),s5'++ [ix recs ((bO pl (bC.mk s13 s8)).getD cS.zero)]),hm2,aN.next (s:=(s8,s5')) hc2 hm2 ⟨show(↑(s5'++ [ix recs ((bO pl (bC.mk s13 s8)).getD cS.zero)]).length:Int)≤(↑s5.length:Int)+(s8+(1:Int))-(1:Int)from by(simp only[List.length_append,List.length_cons,List.length_nil];omega),show(1:Int)≤s8+(1:Int)from by omega,show s8+(1:Int)≤max (ix x.deps s13) (0:Int)+(1:Int)from by omega,trivial⟩ hf2,?_⟩;repeat (first|exact trivial|refine And.intro rfl ?_)
      ·rw[hf2]at hf1;rw[hf1]at hf0;exact h.1 _ hf0 (show((fun(r0:Int)=>(0≤r0∧r0≤8)) (4:Int):Prop)from by omega)
     ·rw[hf2]at hf1;refine .inl (And.intro (jc (p:=s13) (q:=(1:Int)) (r:=s13+(1:Int)) (by omega)) ?_);have hm1:((8:Int)-(s13+(1:Int))).toNat<((8:Int)- s13).toNat:=by omega
      refine⟨[],(s13+(1:Int),s5'),hm1,aN.next (s:=(s13,s5)) hc1 hm1 ⟨show(0:Int)≤s13+(1:Int)from by omega,show s13+(1:Int)≤(8:Int)from by omega,show(↑s5'.length:Int)≤(128:Int)*(s13+(1:Int))from by omega,trivial⟩ hf1,?_⟩;repeat (first|exact trivial|refine And.intro rfl ?_)
   ·rw[hf1]at hf0;exact h.1 _ hf0 (show((fun(r0:Int)=>(0≤r0∧r0≤8)) (4:Int):Prop)from by omega)
  ·rw[hf1]at hf0;exact h.2 _ hf0 (show((fun(r0:List al)=>True) s5:Prop)from by simp)
def Ra:c6 U:= [(55,Oy)]
theorem E5:bi Tryz.prog U Ra:=aa Gn (ah)
def fY(a:al)(b:al):Bool:=
 !gN a.deps b.id&&!gN b.deps a.id
def MA:aW U:=⟨[.d (.st 9),.d (.st 9)],fun xs es K=> ∃(a:al) (b:al),xs= [⟨true,[(13,.d (.st 9) a)]⟩,⟨true,[(13,.d (.st 9) b)]⟩]∧es= []∧K (.v ⟨false,[(1,.d .bool (fY a b))]⟩) []⟩
theorem Rb:bh Tryz.prog U 139 MA:=by
 refine d8 (fn:=Tryz.f139) E5 bP (by kernel_rfl) Tryz.f139.ntmps [.d .bool] [] (by kernel_rfl) (by kernel_rfl) rfl rfl (by kernel_rfl) (fun xs es K=>?_);rintro⟨a,b,rfl,rfl,h⟩;refine⟨rfl,?_⟩;have hf0:=fY.eq_1 a b;refine⟨_,_,rfl,rfl,?_⟩;refine⟨_,fun h0=>⟨_,_,rfl,rfl,rfl,rfl⟩,rfl,?_⟩;rw[hf0]at h;exact h
def UQ:c6 U:= []
theorem Jt:bi Tryz.prog U UQ:=ah
def dX(l:List al):Nat→Int→(List (bC×Int))→(List (bC×Int))⊕(Int×(List (bC×Int)))
 |0,s13,e1=> .inr (s13,e1)
 |n1+1,s13,e1=>
  if s13<(↑l.length:Int)then
   if(bO e1 (ix l s13).id).isSome=true then
    dX l n1 (s13+(1:Int)) e1
   else
    dX l n1 (s13+(1:Int)) (cJ e1 (ix l s13).id s13)
  else
   .inr (s13,e1)
def dI(l:List al):List (bC×Int):=
 match dX l (((↑l.length:Int)-(0:Int)).toNat+1) (0:Int) ([]:List (bC×Int))with
 | .inl r=>r
 | .inr (s13,e1)=>
  e1
def SB:aW U:=⟨[.d (.sl (.st 9))],fun xs es K=> ∃(l:List al),xs= [⟨false,[(1,.d (.sl (.st 9)) l)]⟩]∧es= []∧(l.length≤128)∧K (.v ⟨true,[(1,.d (.sl (.st 9)) l),(1,.mp 0)]⟩) [.map cS (dI l)]⟩
theorem UR:bh Tryz.prog U 67 SB:=by
 refine d8 (fn:=Tryz.f67) Jt bP (by kernel_rfl) Tryz.f67.ntmps [.n] [] (by kernel_rfl) (by kernel_rfl) rfl rfl (by kernel_rfl) (fun xs es K=>?_);rintro⟨l,rfl,rfl,hl,h⟩;refine⟨rfl,?_⟩;have hf0:=dI.eq_1 l;refine fun h0=>?_;have h0:(↑l.length:Int)≤(9223372036854775807:Int):=h0.2;refine⟨Int×(List (bC×Int)),3,fun(s13,e1)=> [(2,.v ⟨false,[(1,.ptr 0 0)]⟩),(3,.v ⟨false,[(1,.ptr 2 0)]⟩),(11,.v ⟨false,[(1,.d (.sl (.st 9)) l)]⟩),(12,.v ⟨false,[(1,.d (.int .i64) (↑l.length:Int))]⟩),(13,.v ⟨false,[(1,.d (.int .i64) s13)]⟩)],fun(s13,e1)=> [(0,.cells [(1,.nils),(1,Cx.nilm)] 169),(1,.map cS e1),(2,.cells [(1,.d (.sl (.st 9)) l),(1,.mp 1)] 169)],aN (fun(s13,e1)=>((↑l.length:Int)- s13).toNat) (fun(s13,e1)=>((0:Int)≤s13)∧(s13≤(↑l.length:Int))∧True) (fun n1 (s13,e1)=>dX l n1 s13 e1) (dX l (((↑l.length:Int)-(0:Int)).toNat+1) (0:Int) ([]:List (bC×Int))),fun(s13,e1)=>((↑l.length:Int)- s13).toNat,⟨[],((0:Int),([]:List (bC×Int))),aN.mk0 _ (Nat.lt_succ_self _) ⟨show(0:Int)≤(0:Int)from by omega,show(0:Int)≤(↑l.length:Int)from by omega,trivial⟩ rfl,?_⟩,?_⟩
 ·repeat (first|exact trivial|refine And.intro rfl ?_)
 ·rintro⟨s13,e1⟩ ⟨n1,hc1,⟨hi1_0,hi1_1,-⟩,hf1⟩;have hf1:=hf1.trans (dX.eq_2 l s13 e1 n1);refine vI hf1 iD (fun h1 hf1=>?_) (fun h1 hf1=>?_)
  ·refine And.intro (show(0:Int)≤s13∧s13<(↑l.length:Int)from by omega) ?_;refine vN hf1 (iN iB) (fun h2 hf1=>?_) (fun h2 hf1=>?_)
   ·refine .inl (And.intro (jc (p:=s13) (q:=(1:Int)) (r:=s13+(1:Int)) (by omega)) ?_);have hm1:((↑l.length:Int)-(s13+(1:Int))).toNat<((↑l.length:Int)- s13).toNat:=by omega
    refine⟨[],(s13+(1:Int),cJ e1 (ix l s13).id s13),hm1,aN.next (s:=(s13,e1)) hc1 hm1 ⟨show(0:Int)≤s13+(1:Int)from by omega,show s13+(1:Int)≤(↑l.length:Int)from by omega,trivial⟩ hf1,?_⟩;repeat (first|exact trivial|refine And.intro rfl ?_)
   ·refine .inl (And.intro (jc (p:=s13) (q:=(1:Int)) (r:=s13+(1:Int)) (by omega)) ?_);have hm1:((↑l.length:Int)-(s13+(1:Int))).toNat<((↑l.length:Int)- s13).toNat:=by omega
    refine⟨[],(s13+(1:Int),e1),hm1,aN.next (s:=(s13,e1)) hc1 hm1 ⟨show(0:Int)≤s13+(1:Int)from by omega,show s13+(1:Int)≤(↑l.length:Int)from by omega,trivial⟩ hf1,?_⟩;repeat (first|exact trivial|refine And.intro rfl ?_)
  ·rw[hf1]at hf0;rw[hf0]at h;exact h
end Go.Proofs.YtmpeiadlohbikaaGreatDoor.V
end

section
set_option linter.unusedVariables false
set_option linter.unusedSimpArgs false
set_option maxRecDepth 20000
set_option maxHeartbeats 4000000
namespace Go.Proofs.YtmpeiadlohbikaaGreatDoor.V
open Go.RowKit
def Rc:c6 U:= []
theorem E6:bi Tryz.prog U Rc:=ah
def dz(a:List ar)(b:List ar):Nat→Int→Bool⊕(Int)
 |0,s13=> .inr s13
 |n1+1,s13=>
  if s13<(↑a.length:Int)then
   if ix a s13=ix b s13 then
    dz a b n1 (s13+(1:Int))
   else
    .inl false
  else
   .inr s13
def gK(a:List ar)(b:List ar):Bool:=
 if(↑a.length:Int)=(↑b.length:Int)then
  match dz a b (((↑a.length:Int)-(0:Int)).toNat+1) (0:Int)with
  | .inl r=>r
  | .inr s13=>
   true
 else
  false
def MB:aW U:=⟨[.d (.sl (.st 6)),.d (.sl (.st 6))],fun xs es K=> ∃(a:List ar) (b:List ar),xs= [⟨false,[(1,.d (.sl (.st 6)) a)]⟩,⟨false,[(1,.d (.sl (.st 6)) b)]⟩]∧es= []∧K (.v ⟨false,[(1,.d .bool (gK a b))]⟩) []⟩
theorem Re:bh Tryz.prog U 220 MB:=by
 refine d8 (fn:=Tryz.f220) E6 bP (by kernel_rfl) Tryz.f220.ntmps [.d .bool] [] (by kernel_rfl) (by kernel_rfl) rfl rfl (by kernel_rfl) (fun xs es K=>?_);rintro⟨a,b,rfl,rfl,h⟩;refine⟨rfl,?_⟩;have hf0:=gK.eq_1 a b;refine fun h0=>?_;have h0:(↑a.length:Int)≤(9223372036854775807:Int):=h0.2;refine fun h1=>?_;have h1:(↑b.length:Int)≤(9223372036854775807:Int):=h1.2;refine vN hf0 iD (fun h2 hf0=>?_) (fun h2 hf0=>?_)
 ·rw[hf0]at h;exact h
 ·refine fun h3=>?_;have h3:(↑a.length:Int)≤(9223372036854775807:Int):=h3.2;refine⟨Int,0,fun(s13:Int)=> [(0,.v ⟨false,[(1,.d (.sl (.st 6)) a)]⟩),(1,.v ⟨false,[(1,.d (.sl (.st 6)) b)]⟩),(12,.v ⟨false,[(1,.d (.int .i64) (↑a.length:Int))]⟩),(13,.v ⟨false,[(1,.d (.int .i64) s13)]⟩)],fun(s13:Int)=> [],aN (fun(s13:Int)=>((↑a.length:Int)- s13).toNat) (fun(s13:Int)=>((0:Int)≤s13)∧(s13≤(↑a.length:Int))∧True) (fun n1 (s13:Int)=>dz a b n1 s13) (dz a b (((↑a.length:Int)-(0:Int)).toNat+1) (0:Int)),fun(s13:Int)=>((↑a.length:Int)- s13).toNat,⟨[],(0:Int),aN.mk0 _ (Nat.lt_succ_self _) ⟨show(0:Int)≤(0:Int)from by omega,show(0:Int)≤(↑a.length:Int)from by omega,trivial⟩ rfl,?_⟩,?_⟩
  ·repeat (first|exact trivial|refine And.intro rfl ?_)
  ·rintro s13 ⟨n1,hc1,⟨hi1_0,hi1_1,-⟩,hf1⟩;have hf1:=hf1.trans (dz.eq_2 a b s13 n1);refine vI hf1 iD (fun h4 hf1=>?_) (fun h4 hf1=>?_)
   ·refine .inl ⟨[(true,0),(true,1),(true,2),(true,3),(true,4),(true,5),(true,6),(true,7),(true,8)],none,[0,1,2,3,4,5,6,7,8,9,10,11],by kernel_rfl,?_⟩;refine And.intro (show(0:Int)≤s13∧s13<(↑a.length:Int)from by omega) ?_;refine And.intro (show(0:Int)≤s13∧s13<(↑b.length:Int)from by omega) ?_;refine vN hf1 (iN iD) (fun h5 hf1=>?_) (fun h5 hf1=>?_)
    ·rw[hf1]at hf0;rw[hf0]at h;exact h
    ·refine .inl (And.intro (jc (p:=s13) (q:=(1:Int)) (r:=s13+(1:Int)) (by omega)) ?_);have hm1:((↑a.length:Int)-(s13+(1:Int))).toNat<((↑a.length:Int)- s13).toNat:=by omega
     refine⟨[],s13+(1:Int),hm1,aN.next (s:=s13) hc1 hm1 ⟨show(0:Int)≤s13+(1:Int)from by omega,show s13+(1:Int)≤(↑a.length:Int)from by omega,trivial⟩ hf1,?_⟩;repeat (first|exact trivial|refine And.intro rfl ?_)
   ·rw[hf1]at hf0;rw[hf0]at h;exact h
def Rf:c6 U:= [(220,MB)]
theorem E7:bi Tryz.prog U Rf:=aa Re (ah)
def kP(a:aB)(b:aB):Bool:=
 decide (a.kind=b.kind)&&decide (a.val=b.val)&&gK a.items b.items
def MC:aW U:=⟨[.d (.st 7),.d (.st 7)],fun xs es K=> ∃(a:aB) (b:aB),xs= [⟨true,[(3,.d (.st 7) a)]⟩,⟨true,[(3,.d (.st 7) b)]⟩]∧es= []∧K (.v ⟨false,[(1,.d .bool (kP a b))]⟩) []⟩
theorem Rg:bh Tryz.prog U 180 MC:=by
 refine d8 (fn:=Tryz.f180) E7 bP (by kernel_rfl) Tryz.f180.ntmps [.d .bool] [] (by kernel_rfl) (by kernel_rfl) rfl rfl (by kernel_rfl) (fun xs es K=>?_);rintro⟨a,b,rfl,rfl,h⟩;refine⟨rfl,?_⟩;have hf0:=kP.eq_1 a b;refine⟨_,fun h0=>⟨_,_,rfl,rfl,rfl,rfl⟩,rfl,?_⟩;rw[hf0]at h;exact h
def Rh:c6 U:= []
theorem E8:bi Tryz.prog U Rh:=ah
def mr(a:lM)(b:lM):Bool:=
 if b.act<a.act then
  if [b.act,a.act]= [(1:Int),(1:Int)]then
   true
  else
   if [b.act,a.act]= [(3:Int),(4:Int)]then
    decide (b.name=a.name)
   else
    if [b.act,a.act]= [(5:Int),(5:Int)]then
     decide (b.name=a.name)
    else
     if [b.act,a.act]= [(5:Int),(6:Int)]then
      decide (b.name=a.name)
     else
      false
 else
  if [a.act,b.act]= [(1:Int),(1:Int)]then
   true
  else
   if [a.act,b.act]= [(3:Int),(4:Int)]then
    decide (a.name=b.name)
   else
    if [a.act,b.act]= [(5:Int),(5:Int)]then
     decide (a.name=b.name)
    else
     if [a.act,b.act]= [(5:Int),(6:Int)]then
      decide (a.name=b.name)
     else
      false
def MD:aW U:=⟨[.d (.st 1),.d (.st 1)],fun xs es K=> ∃(a:lM) (b:lM),xs= [⟨true,[(3,.d (.st 1) a)]⟩,⟨true,[(3,.d (.st 1) b)]⟩]∧es= []∧K (.v ⟨false,[(1,.d .bool (mr a b))]⟩) []⟩
theorem Ri:bh Tryz.prog U 183 MD:=by
 refine d8 (fn:=Tryz.f183) E8 bP (by kernel_rfl) Tryz.f183.ntmps [.d .bool] [] (by kernel_rfl) (by kernel_rfl) rfl rfl (by kernel_rfl) (fun xs es K=>?_);rintro⟨a,b,rfl,rfl,h⟩;refine⟨rfl,?_⟩;have hf0:=mr.eq_1 a b;refine vI hf0 iD (fun h0 hf0=>?_) (fun h0 hf0=>?_)
 ·refine vI hf0 iD (fun h1 hf0=>?_) (fun h1 hf0=>?_)
  ·rw[hf0]at h;exact h
  ·refine vI hf0 iD (fun h2 hf0=>?_) (fun h2 hf0=>?_)
   ·refine vT iD (show [b.act,a.act]= [(3:Int),(4:Int)]from by omega) ?_;rw[hf0]at h;exact h
   ·refine vI hf0 iD (fun h3 hf0=>?_) (fun h3 hf0=>?_)
    ·refine vT iD (show [b.act,a.act]= [(5:Int),(5:Int)]from by omega) ?_;rw[hf0]at h;exact h
    ·refine vI hf0 iD (fun h4 hf0=>?_) (fun h4 hf0=>?_)
     ·rw[hf0]at h;exact h
     ·rw[hf0]at h;exact h
 ·refine vI hf0 iD (fun h5 hf0=>?_) (fun h5 hf0=>?_)
  ·rw[hf0]at h;exact h
  ·refine vI hf0 iD (fun h6 hf0=>?_) (fun h6 hf0=>?_)
   ·refine vT iD (show [a.act,b.act]= [(3:Int),(4:Int)]from by omega) ?_;rw[hf0]at h;exact h
   ·refine vI hf0 iD (fun h7 hf0=>?_) (fun h7 hf0=>?_)
    ·refine vT iD (show [a.act,b.act]= [(5:Int),(5:Int)]from by omega) ?_;rw[hf0]at h;exact h
    ·refine vI hf0 iD (fun h8 hf0=>?_) (fun h8 hf0=>?_)
     ·rw[hf0]at h;exact h
     ·rw[hf0]at h;exact h
def Rj:c6 U:= [(183,MD)]
theorem E9:bi Tryz.prog U Rj:=aa Ri (ah)
def gk(q:ak)(p:ak):Bool:=
 decide (p.key=q.key)&&mr p.op q.op
def ME:aW U:=⟨[.d (.st 3),.n],fun xs es K=> ∃(q:ak) (p:ak),xs= [⟨true,[(17,.d (.st 3) q)]⟩,⟨false,[(1,.pd (.st 3) p)]⟩]∧es= []∧K (.v ⟨false,[(1,.d .bool (gk q p))]⟩) []⟩
theorem Rk:bh Tryz.prog U 182 ME:=by
 refine d8 (fn:=Tryz.f182) E9 bP (by kernel_rfl) Tryz.f182.ntmps [.d .bool] [] (by kernel_rfl) (by kernel_rfl) rfl rfl (by kernel_rfl) (fun xs es K=>?_);rintro⟨q,p,rfl,rfl,h⟩;refine⟨rfl,?_⟩;have hf0:=gk.eq_1 q p;refine⟨_,fun h0=>⟨_,_,rfl,rfl,rfl,rfl⟩,rfl,?_⟩;rw[hf0]at h;exact h
def Rl:c6 U:= [(53,Qc),(182,ME)]
theorem Fa:bi Tryz.prog U Rl:=aa OC (aa Rk (ah))
def fJ(p:ak)(b:al):Bool:=
 eE b.ops fun(t:ak)=>gk t p
def MF:aW U:=⟨[.d (.st 3),.n],fun xs es K=> ∃(p:ak) (b:al),xs= [⟨true,[(17,.d (.st 3) p)]⟩,⟨false,[(1,.pd (.st 9) b)]⟩]∧es= []∧K (.v ⟨false,[(1,.d .bool (fJ p b))]⟩) []⟩
theorem Rm:bh Tryz.prog U 181 MF:=by
 refine d8 (fn:=Tryz.f181) Fa bP (by kernel_rfl) Tryz.f181.ntmps [.d .bool] [] (by kernel_rfl) (by kernel_rfl) rfl rfl (by kernel_rfl) (fun xs es K=>?_);rintro⟨p,b,rfl,rfl,h⟩;refine⟨rfl,?_⟩;have hf0:=fJ.eq_1 p b;refine⟨fun(t:ak)=>gk t p,fun t0=>⟨_,_,rfl,rfl,rfl,rfl⟩,?_⟩;refine⟨_,_,rfl,rfl,?_⟩;rw[hf0]at h;exact h
def Rn:c6 U:= [(53,Qc),(181,MF)]
theorem Fb:bi Tryz.prog U Rn:=aa OC (aa Rm (ah))
def fe(a:al)(b:al):Bool:=
 eE a.ops fun(t:ak)=>fJ t b
def MG:aW U:=⟨[.d (.st 9),.d (.st 9)],fun xs es K=> ∃(a:al) (b:al),xs= [⟨true,[(13,.d (.st 9) a)]⟩,⟨true,[(13,.d (.st 9) b)]⟩]∧es= []∧K (.v ⟨false,[(1,.d .bool (fe a b))]⟩) []⟩
theorem Ro:bh Tryz.prog U 140 MG:=by
 refine d8 (fn:=Tryz.f140) Fb bP (by kernel_rfl) Tryz.f140.ntmps [.d .bool] [] (by kernel_rfl) (by kernel_rfl) rfl rfl (by kernel_rfl) (fun xs es K=>?_);rintro⟨a,b,rfl,rfl,h⟩;refine⟨rfl,?_⟩;have hf0:=fe.eq_1 a b;refine⟨fun(t:ak)=>fJ t b,fun t0=>⟨_,_,rfl,rfl,rfl,rfl⟩,?_⟩;refine⟨_,_,rfl,rfl,?_⟩;rw[hf0]at h;exact h
def Rp:c6 U:= [(27,Sf),(28,Sd),(42,Sh),(81,Ph)]
theorem Fc:bi Tryz.prog U Rp:=aa Kx (aa IV (aa Si (aa Pi (ah))))
def MH:c6 U:= [(133,yy)]
theorem BE:nI Tryz.prog U y6 MH:=ed ur (j8)
def dJ(x:al):Nat→Int→(Int⊕Unit)⊕(Int)
 |0,s9=> .inr s9
 |n1+1,s9=>
  if s9<(↑x.ops.length:Int)then
   if(((ix x.ops s9).id=x.id)∧((ix x.ops s9).deps=x.deps))∧((ix x.ops s9).n=s9)then
    if(eN [(ae (ix x.ops s9).key).snd,ct (ix x.ops s9).op]=(0:Int))∧((ae (ix x.ops s9).key).fst=eO (ix x.ops s9).op.act)then
     dJ x n1 (s9+(1:Int))
    else
     .inl (.inl (6:Int))
   else
    .inl (.inl (6:Int))
  else
   .inr s9
def eQ(x:al):Int⊕Unit:=
 match dJ x (((↑x.ops.length:Int)-(0:Int)).toNat+1) (0:Int)with
 | .inl r=>r
 | .inr s9=>
  (.inr ())
def MI:aW U:=⟨[.d (.st 9)],fun xs es K=> ∃(x:al),xs= [⟨true,[(13,.d (.st 9) x)]⟩]∧es= []∧(iF x)∧V2 (∀r0,eQ x= .inl r0→((0≤r0∧r0≤8))→K (.pan r0) []) (eQ x= .inr ()→(True)→K (.tup []) [])⟩
theorem MJ:mN Tryz.prog U y6 137 MI:=by
 refine sA (fn:=Tryz.f137) BE Fc bP (by kernel_rfl) Tryz.f137.ntmps [] [] (by kernel_rfl) (by kernel_rfl) rfl rfl (by kernel_rfl) (fun xs es K=>?_);rintro⟨x,rfl,rfl,hx,h⟩;refine⟨rfl,?_⟩;have hf0:=eQ.eq_1 x;refine fun h0=>?_;have h0:(↑x.ops.length:Int)≤(9223372036854775807:Int):=h0.2;refine⟨Int,1,fun(s9:Int)=> [(1,.v ⟨false,[(1,.ptr 0 0)]⟩),(7,.v ⟨false,[(1,.d (.sl (.st 3)) x.ops)]⟩),(8,.v ⟨false,[(1,.d (.int .i64) (↑x.ops.length:Int))]⟩),(9,.v ⟨false,[(1,.d (.int .i64) s9)]⟩)],fun(s9:Int)=> [(0,.cells [(13,.d (.st 9) x)] 110)],aN (fun(s9:Int)=>((↑x.ops.length:Int)- s9).toNat) (fun(s9:Int)=>((0:Int)≤s9)∧(s9≤(↑x.ops.length:Int))∧True) (fun n1 (s9:Int)=>dJ x n1 s9) (dJ x (((↑x.ops.length:Int)-(0:Int)).toNat+1) (0:Int)),fun(s9:Int)=>((↑x.ops.length:Int)- s9).toNat,⟨[],(0:Int),aN.mk0 _ (Nat.lt_succ_self _) ⟨show(0:Int)≤(0:Int)from by omega,show(0:Int)≤(↑x.ops.length:Int)from by omega,trivial⟩ rfl,?_⟩,?_⟩
 ·repeat (first|exact trivial|refine And.intro rfl ?_)
 ·rintro s9 ⟨n1,hc1,⟨hi1_0,hi1_1,-⟩,hf1⟩;have hf1:=hf1.trans (dJ.eq_2 x s9 n1);refine vI hf1 iD (fun h1 hf1=>?_) (fun h1 hf1=>?_)
  ·refine And.intro (show(0:Int)≤s9∧s9<(↑x.ops.length:Int)from by omega) ?_;refine⟨_,rfl,rfl,(BB (by assumption) (by omega) (by omega)),?_⟩;refine⟨_,_,rfl,rfl,?_⟩;refine vI hf1 (iA (iA iD iD) iD) (fun h2 hf1=>?_) (fun h2 hf1=>?_)
   ·refine⟨_,rfl,rfl,?_⟩;refine⟨_,rfl,rfl,?_⟩;refine⟨_,fun h3=>⟨_,rfl,rfl,rfl,rfl⟩,rfl,?_⟩;refine⟨_,_,rfl,rfl,?_⟩;refine vI hf1 (iA iD iD) (fun h4 hf1=>?_) (fun h4 hf1=>?_)
    ·refine .inl (And.intro (jc (p:=s9) (q:=(1:Int)) (r:=s9+(1:Int)) (by omega)) ?_);have hm1:((↑x.ops.length:Int)-(s9+(1:Int))).toNat<((↑x.ops.length:Int)- s9).toNat:=by omega
     refine⟨[],s9+(1:Int),hm1,aN.next (s:=s9) hc1 hm1 ⟨show(0:Int)≤s9+(1:Int)from by omega,show s9+(1:Int)≤(↑x.ops.length:Int)from by omega,trivial⟩ hf1,?_⟩;repeat (first|exact trivial|refine And.intro rfl ?_)
    ·rw[hf1]at hf0;exact h.1 _ hf0 (show((fun(r0:Int)=>(0≤r0∧r0≤8)) (6:Int):Prop)from by omega)
   ·rw[hf1]at hf0;exact h.1 _ hf0 (show((fun(r0:Int)=>(0≤r0∧r0≤8)) (6:Int):Prop)from by omega)
  ·rw[hf1]at hf0;exact h.2 hf0 (show(True:Prop)from by simp)
def Rq:c6 U:= [(13,Sk),(55,Oy),(179,LH),(180,MC)]
theorem Fd:bi Tryz.prog U Rq:=aa AW (aa Gn (aa QJ (aa Rg (ah))))
def MK:c6 U:= [(133,yy)]
theorem BF:nI Tryz.prog U y6 MK:=ed ur (j8)
def cK(pl:List (bC×Int))(x:al)(s4:List ak):Nat→Int→(Int⊕Unit)⊕(Int)
 |0,s41=> .inr s41
 |n2+1,s41=>
  if s41<(↑x.looks.length:Int)then
   if((0:Int)≤(ix x.looks s41).n)∧((ix x.looks s41).n≤(↑x.ops.length:Int))then
    if((mh (ix x.looks s41).key (s4++List.take (ix x.looks s41).n.toNat x.ops) (x.deps.set x.id.origin.toNat x.id.seq)).snd=(0:Int))∧(kP (mh (ix x.looks s41).key (s4++List.take (ix x.looks s41).n.toNat x.ops) (x.deps.set x.id.origin.toNat x.id.seq)).fst (ix x.looks s41).v=true)then
     cK pl x s4 n2 (s41+(1:Int))
    else
     .inl (.inl (7:Int))
   else
    .inl (.inl (7:Int))
  else
   .inr s41
def cL(recs:List al)(pl:List (bC×Int))(x:al):Nat→Int→(List ak)→(Int⊕Unit)⊕(Int×(List ak))
 |0,s15,s4=> .inr (s15,s4)
 |n1+1,s15,s4=>
  if s15<(↑recs.length:Int)then
   if gN x.deps (ix recs s15).id=true then
    cL recs pl x n1 (s15+(1:Int)) (s4++(ix recs s15).ops)
   else
    cL recs pl x n1 (s15+(1:Int)) s4
  else
   .inr (s15,s4)
def cZ(recs:List al)(pl:List (bC×Int))(x:al):Int⊕Unit:=
 match cL recs pl x (((↑recs.length:Int)-(0:Int)).toNat+1) (0:Int) ([]:List ak)with
 | .inl r=>r
 | .inr (s15,s4)=>
  match cK pl x s4 (((↑x.looks.length:Int)-(0:Int)).toNat+1) (0:Int)with
  | .inl r=>r
  | .inr s41=>
   (.inr ())
def ML:aW U:=⟨[.n,.d (.st 9)],fun xs es K=> ∃(recs:List al) (pl:List (bC×Int)) (x:al),xs= [⟨true,[(1,.d (.sl (.st 9)) recs),(1,.mp 0)]⟩,⟨true,[(13,.d (.st 9) x)]⟩]∧es= [.map cS pl]∧(recs.length≤128)∧(∀y∈recs,iF y)∧(iF x)∧(0≤x.id.origin∧x.id.origin<8)∧V2 (∀r0,cZ recs pl x= .inl r0→((0≤r0∧r0≤8))→K (.pan r0) [.map cS pl]) (cZ recs pl x= .inr ()→(True)→K (.tup []) [.map cS pl])⟩
theorem MM:mN Tryz.prog U y6 138 ML:=by
 refine sA (fn:=Tryz.f138) BF Fd bP (by kernel_rfl) Tryz.f138.ntmps [] [] (by kernel_rfl) (by kernel_rfl) rfl rfl (by kernel_rfl) (fun xs es K=>?_);rintro⟨recs,pl,x,rfl,rfl,hr,ho,hx,hd,h⟩;refine⟨rfl,?_⟩;have hf0:=cZ.eq_1 recs pl x;refine fun h0=>?_;have h0:(↑recs.length:Int)≤(9223372036854775807:Int):=h0.2;refine⟨Int×(List ak),4,fun(s15,s4)=> [(3,.v ⟨false,[(1,.ptr 2 0)]⟩),(4,.v ⟨false,[(1,.own 3 0)]⟩),(13,.v ⟨false,[(1,.d (.sl (.st 9)) recs)]⟩),(14,.v ⟨false,[(1,.d (.int .i64) (↑recs.length:Int))]⟩),(15,.v ⟨false,[(1,.d (.int .i64) s15)]⟩)],fun(s15,s4)=> [(0,.map cS pl),(2,.cells [(13,.d (.st 9) x)] 110),(3,.row 0 (.st 3) s4 70)],aN (fun(s15,s4)=>((↑recs.length:Int)- s15).toNat) (fun(s15,s4)=>((0:Int)≤s15)∧(s15≤(↑recs.length:Int))∧((s4.length:Int)≤1000*s15)∧True) (fun n1 (s15,s4)=>cL recs pl x n1 s15 s4) (cL recs pl x (((↑recs.length:Int)-(0:Int)).toNat+1) (0:Int) ([]:List ak)),fun(s15,s4)=>((↑recs.length:Int)- s15).toNat,⟨[],((0:Int),([]:List ak)),aN.mk0 _ (Nat.lt_succ_self _) ⟨show(0:Int)≤(0:Int)from by omega,show(0:Int)≤(↑recs.length:Int)from by omega,show(↑[].length:Int)≤(1000:Int)*(0:Int)from by(simp only[List.length_append,List.length_cons,List.length_nil];omega),trivial⟩ rfl,?_⟩,?_⟩
 ·repeat (first|exact trivial|refine And.intro rfl ?_)
 ·rintro⟨s15,s4⟩ ⟨n1,hc1,⟨hi1_0,hi1_1,hi1_2,-⟩,hf1⟩;have hf1:=hf1.trans (cL.eq_2 recs pl x s15 s4 n1);refine vI hf1 iD (fun h1 hf1=>?_) (fun h1 hf1=>?_)
  ·refine And.intro (show(0:Int)≤s15∧s15<(↑recs.length:Int)from by omega) ?_;refine⟨_,_,rfl,rfl,?_⟩;refine vI hf1 iB (fun h2 hf1=>?_) (fun h2 hf1=>?_)
   ·refine And.intro (show(s4.length+(ix recs s15).ops.length)*(120:Nat)≤(140737488355328:Nat)from by(have hl:=rH ho (show 0≤s15 by omega) (by omega);(try simp only[List.length_append]);omega)) ?_;refine .inl (And.intro (jc (p:=s15) (q:=(1:Int)) (r:=s15+(1:Int)) (by omega)) ?_);have hm1:((↑recs.length:Int)-(s15+(1:Int))).toNat<((↑recs.length:Int)- s15).toNat:=by omega
    refine⟨[],(s15+(1:Int),s4++(ix recs s15).ops),hm1,aN.next (s:=(s15,s4)) hc1 hm1 ⟨show(0:Int)≤s15+(1:Int)from by omega,show s15+(1:Int)≤(↑recs.length:Int)from by omega,show(↑(s4++(ix recs s15).ops).length:Int)≤(1000:Int)*(s15+(1:Int))from by(have hl:=rH ho (show 0≤s15 by omega) (by omega);(try simp only[List.length_append]);omega),trivial⟩ hf1,?_⟩;repeat (first|exact trivial|refine And.intro rfl ?_)
   ·refine .inl (And.intro (jc (p:=s15) (q:=(1:Int)) (r:=s15+(1:Int)) (by omega)) ?_);have hm1:((↑recs.length:Int)-(s15+(1:Int))).toNat<((↑recs.length:Int)- s15).toNat:=by omega
    refine⟨[],(s15+(1:Int),s4),hm1,aN.next (s:=(s15,s4)) hc1 hm1 ⟨show(0:Int)≤s15+(1:Int)from by omega,show s15+(1:Int)≤(↑recs.length:Int)from by omega,show(↑s4.length:Int)≤(1000:Int)*(s15+(1:Int))from by omega,trivial⟩ hf1,?_⟩;repeat (first|exact trivial|refine And.intro rfl ?_)
  ·rw[hf1]at hf0;set_option simprocs false in dsimp only at hf0;refine .inl ?_;refine And.intro (show(0:Int)≤x.id.origin∧x.id.origin<(↑(8:Nat):Int)from by omega) ?_;refine fun h3=>?_;have h3:(↑x.looks.length:Int)≤(9223372036854775807:Int):=h3.2;refine⟨Int,5,fun(s41:Int)=> [(3,.v ⟨false,[(1,.ptr 2 0)]⟩),(4,.v ⟨false,[(1,.d (.sl (.st 3)) s4)]⟩),(7,.v ⟨false,[(1,.ptr 4 0)]⟩),(39,.v ⟨false,[(1,.d (.sl (.st 8)) x.looks)]⟩),(40,.v ⟨false,[(1,.d (.int .i64) (↑x.looks.length:Int))]⟩),(41,.v ⟨false,[(1,.d (.int .i64) s41)]⟩)],fun(s41:Int)=> [(0,.map cS pl),(2,.cells [(13,.d (.st 9) x)] 110),(4,.cells [(8,.d (.arr 8 (.int .u32)) (x.deps.set x.id.origin.toNat x.id.seq))] 45)],aN (fun(s41:Int)=>((↑x.looks.length:Int)- s41).toNat) (fun(s41:Int)=>((0:Int)≤s41)∧(s41≤(↑x.looks.length:Int))∧True) (fun n2 (s41:Int)=>cK pl x s4 n2 s41) (cK pl x s4 (((↑x.looks.length:Int)-(0:Int)).toNat+1) (0:Int)),fun(s41:Int)=>((↑x.looks.length:Int)- s41).toNat,⟨[],(0:Int),aN.mk0 _ (Nat.lt_succ_self _) ⟨show(0:Int)≤(0:Int)from by omega,show(0:Int)≤(↑x.looks.length:Int)from by omega,trivial⟩ rfl,?_⟩,?_⟩
   ·repeat (first|exact trivial|refine And.intro rfl ?_)
   ·rintro s41 ⟨n2,hc2,⟨hi2_0,hi2_1,-⟩,hf1⟩;have hf1:=hf1.trans (cK.eq_2 pl x s4 s41 n2);refine vI hf1 iD (fun h4 hf1=>?_) (fun h4 hf1=>?_)
    ·refine And.intro (show(0:Int)≤s41∧s41<(↑x.looks.length:Int)from by omega) ?_;refine⟨_,_,rfl,rfl,?_⟩;refine vI hf1 (iA iD iD) (fun h5 hf1=>?_) (fun h5 hf1=>?_)
     ·refine .inr ⟨(.look 0 (.look 1 (.look 2 (.look 3 (.look 4 (.look 5 (.look 6 (.look 7 (.look 10 (.turn 8 (.turn 9 (.turn 11 (.look 12 (.look 13 (.look 14 (.turn 15 (.turn 16 .fin .nil) .nil)))) (.turn 15 (.turn 11 (.look 12 (.look 13 (.look 14 (.turn 16 .fin .nil)))) .nil) .nil)) (.turn 15 (.turn 9 (.turn 11 (.look 12 (.look 13 (.look 14 (.turn 16 .fin .nil)))) .nil) .nil) .nil)) (.turn 15 (.turn 8 (.turn 9 (.turn 11 (.look 12 (.look 13 (.look 14 (.turn 16 .fin .nil)))) .nil) .nil) .nil) .nil))))))))))),some 17,[3],9,[(3,.v ⟨false,[(1,.ptr 2 0)]⟩),(4,.v ⟨false,[(1,.d (.sl (.st 3)) s4)]⟩),(7,.v ⟨false,[(1,.ptr 4 0)]⟩),(9,.v ⟨false,[(1,.ptr 5 0)]⟩),(10,.v ⟨false,[(1,.ptr 8 0)]⟩),(11,.v ⟨false,[(1,.d (.int .i64) ((mh (ix x.looks s41).key (s4++List.take (ix x.looks s41).n.toNat x.ops) (x.deps.set x.id.origin.toNat x.id.seq)).snd))]⟩),(39,.v ⟨false,[(1,.d (.sl (.st 8)) x.looks)]⟩),(40,.v ⟨false,[(1,.d (.int .i64) (↑x.looks.length:Int))]⟩),(41,.v ⟨false,[(1,.d (.int .i64) s41)]⟩)],[(0,.map cS pl),(2,.cells [(13,.d (.st 9) x)] 110),(4,.cells [(8,.d (.arr 8 (.int .u32)) (x.deps.set x.id.origin.toNat x.id.seq))] 45),(5,.cells [(5,.d (.st 8) ((ix x.looks s41):bI))] 107),(8,.cells [(3,.d (.st 7) ((mh (ix x.looks s41).key (s4++List.take (ix x.looks s41).n.toNat x.ops) (x.deps.set x.id.origin.toNat x.id.seq)).fst))] 75)],True,by kernel_rfl,?_,?_⟩
      ·refine And.intro (show(0:Int)≤(0:Int)∧(0:Int)≤(ix x.looks s41).n∧(ix x.looks s41).n≤(↑x.ops.length:Int)from by omega) ?_;refine And.intro ?_ ?_
       ·refine And.intro ?_ ?_
        ·refine⟨_,_,rfl,rfl,(show s4.length≤(1000000:Nat)from by omega),(show(List.take (ix x.looks s41).n.toNat x.ops).length≤(1000000:Nat)from by(have hl:=hx.1;have h2:=List.length_take_le (ix x.looks s41).n.toNat x.ops;omega)),?_⟩;refine And.intro ?_ ?_
         ·refine⟨_,_,_,rfl,rfl,(jU (by assumption) (by omega) (by omega)),?_⟩;refine And.intro ?_ trivial;refine And.intro ?_ trivial;refine⟨trivial,[],?_⟩;repeat (first|exact trivial|refine And.intro rfl ?_)
         refine And.intro ?_ trivial;refine And.intro ?_ trivial;refine⟨_,_,_,rfl,rfl,(jU (by assumption) (by omega) (by omega)),?_⟩;refine And.intro ?_ trivial;refine⟨trivial,[],?_⟩;repeat (first|exact trivial|refine And.intro rfl ?_)
        refine And.intro ?_ trivial;refine And.intro ?_ trivial;refine⟨_,_,rfl,rfl,(show s4.length≤(1000000:Nat)from by omega),(show(List.take (ix x.looks s41).n.toNat x.ops).length≤(1000000:Nat)from by(have hl:=hx.1;have h2:=List.length_take_le (ix x.looks s41).n.toNat x.ops;omega)),?_⟩;refine And.intro ?_ trivial;refine⟨_,_,_,rfl,rfl,(jU (by assumption) (by omega) (by omega)),?_⟩;refine And.intro ?_ trivial;refine⟨trivial,[(8,7)],?_⟩;repeat (first|exact trivial|refine And.intro rfl ?_)
       refine And.intro ?_ trivial;refine And.intro ?_ trivial;refine And.intro ?_ trivial;refine⟨_,_,rfl,rfl,(show s4.length≤(1000000:Nat)from by omega),(show(List.take (ix x.looks s41).n.toNat x.ops).length≤(1000000:Nat)from by(have hl:=hx.1;have h2:=List.length_take_le (ix x.looks s41).n.toNat x.ops;omega)),?_⟩;refine And.intro ?_ trivial;refine⟨_,_,_,rfl,rfl,(jU (by assumption) (by omega) (by omega)),?_⟩;refine And.intro ?_ trivial;refine⟨trivial,[(8,6)],?_⟩;repeat (first|exact trivial|refine And.intro rfl ?_)
      refine fun _=>?_;refine⟨_,fun h6=>⟨_,_,rfl,rfl,rfl,rfl⟩,rfl,?_⟩;refine⟨_,_,rfl,rfl,?_⟩;refine vI hf1 (iA iD iB) (fun h7 hf1=>?_) (fun h7 hf1=>?_)
      ·refine .inl (And.intro (jc (p:=s41) (q:=(1:Int)) (r:=s41+(1:Int)) (by omega)) ?_);have hm2:((↑x.looks.length:Int)-(s41+(1:Int))).toNat<((↑x.looks.length:Int)- s41).toNat:=by omega
       refine⟨[],s41+(1:Int),hm2,aN.next (s:=s41) hc2 hm2 ⟨show(0:Int)≤s41+(1:Int)from by omega,show s41+(1:Int)≤(↑x.looks.length:Int)from by omega,trivial⟩ hf1,?_⟩;repeat (first|exact trivial|refine And.intro rfl ?_)
      ·rw[hf1]at hf0;exact h.1 _ hf0 (show((fun(r0:Int)=>(0≤r0∧r0≤8)) (7:Int):Prop)from by omega)
     ·rw[hf1]at hf0;exact h.1 _ hf0 (show((fun(r0:Int)=>(0≤r0∧r0≤8)) (7:Int):Prop)from by omega)
    ·rw[hf1]at hf0;exact h.2 hf0 (show(True:Prop)from by simp)
end Go.Proofs.YtmpeiadlohbikaaGreatDoor.V
end

section
set_option linter.unusedVariables false
set_option linter.unusedSimpArgs false
set_option maxRecDepth 20000
set_option maxHeartbeats 4000000
namespace Go.Proofs.YtmpeiadlohbikaaGreatDoor.V
open Go.RowKit
def US:c6 U:= [(61,R9)]
theorem Ju:bi Tryz.prog U US:=aa Sa (ah)
def b8(a:al)(b:al):Int:=
 eW a.id b.id
def SC:aW U:=⟨[.d (.st 9),.d (.st 9)],fun xs es K=> ∃(a:al) (b:al),xs= [⟨true,[(13,.d (.st 9) a)]⟩,⟨true,[(13,.d (.st 9) b)]⟩]∧es= []∧K (.v ⟨false,[(1,.d (.int .i64) (b8 a b))]⟩) []⟩
theorem UT:bh Tryz.prog U 60 SC:=by
 refine d8 (fn:=Tryz.f60) Ju bP (by kernel_rfl) Tryz.f60.ntmps [.d (.int .i64)] [] (by kernel_rfl) (by kernel_rfl) rfl rfl (by kernel_rfl) (fun xs es K=>?_);rintro⟨a,b,rfl,rfl,h⟩;refine⟨rfl,?_⟩;have hf0:=b8.eq_1 a b;refine⟨_,_,rfl,rfl,?_⟩;rw[hf0]at h;exact h
def UU:c6 U:= [(56,Ov)]
theorem Jv:bi Tryz.prog U UU:=aa Ox (ah)
def aS(x:al)(v:List (Int)):Bool:=
 jZ x.deps v
def SD:aW U:=⟨[.d (.st 9),.n],fun xs es K=> ∃(x:al) (v:List (Int)),xs= [⟨true,[(13,.d (.st 9) x)]⟩,⟨false,[(1,.pd (.arr 8 (.int .u32)) v)]⟩]∧es= []∧K (.v ⟨false,[(1,.d .bool (aS x v))]⟩) []⟩
theorem UV:bh Tryz.prog U 63 SD:=by
 refine d8 (fn:=Tryz.f63) Jv bP (by kernel_rfl) Tryz.f63.ntmps [.d .bool] [] (by kernel_rfl) (by kernel_rfl) rfl rfl (by kernel_rfl) (fun xs es K=>?_);rintro⟨x,v,rfl,rfl,h⟩;refine⟨rfl,?_⟩;have hf0:=aS.eq_1 x v;refine⟨_,_,rfl,rfl,?_⟩;rw[hf0]at h;exact h
end Go.Proofs.YtmpeiadlohbikaaGreatDoor.V
end

section
set_option linter.unusedVariables false
set_option linter.unusedSimpArgs false
set_option maxRecDepth 20000
set_option maxHeartbeats 4000000
namespace Go.Proofs.YtmpeiadlohbikaaGreatDoor.V
open Go.RowKit
theorem uX(a b:Int):eN [a,b]=if a=0 then b else a:=by
 by_cases h:a=0
 ·subst h;by_cases h2:b=0
  ·subst h2;rfl
  ·unfold eN;rw[show((↑[(0:Int),b].length:Int)- 0).toNat+1=3 from rfl,eC,eC,eC];simp[ix,h2]
 ·unfold eN;rw[show((↑[a,b].length:Int)- 0).toNat+1=3 from rfl,eC];simp[ix,h]
theorem BG{id:bC}{b:Int}(h:eN [dQ id,b]=0):0≤id.origin∧id.origin<8:=by
 rw[uX]at h;split at h
 ·rename_i h0;have:=lm h0;omega
 ·exact absurd h ‹_›
def UW:c6 U:= [(56,Ov),(81,Ph),(123,Lz),(134,LB),(139,MA),(140,MG)]
theorem Jw:bi Tryz.prog U UW:=aa Ox (aa Pi (aa IT (aa PG (aa Rb (aa Ro (ah))))))
def Rr:c6 U:= [(133,yy),(135,My),(136,Mt),(137,MI),(138,ML)]
theorem Fe:nI Tryz.prog U y6 Rr:=ed ur (ed Mz (ed Mu (ed MJ (ed MM (j8)))))
def eG(recs:List al)(pl:List (bC×Int))(at_:Int):Nat→Int→Int⊕(Int)
 |0,s75=> .inr s75
 |n2+1,s75=>
  if s75<(↑(List.take at_.toNat recs).length:Int)then
   if((((ix recs at_).group=(0:Int))∨(¬(ix (List.take at_.toNat recs) s75).group=(ix recs at_).group))∨(¬(fY (ix recs at_) (ix (List.take at_.toNat recs) s75)=true)))∨(¬(fe (ix recs at_) (ix (List.take at_.toNat recs) s75)=true))then
    eG recs pl at_ n2 (s75+(1:Int))
   else
    .inl (8:Int)
  else
   .inr s75
def dt(recs:List al)(pl:List (bC×Int))(at_:Int)(r6:List al):Nat→Int→Int⊕(Int)
 |0,s50=> .inr s50
 |n1+1,s50=>
  if s50<(↑r6.length:Int)then
   if jZ (ix r6 s50).deps (ix recs at_).deps=true then
    dt recs pl at_ r6 n1 (s50+(1:Int))
   else
    .inl (5:Int)
  else
   .inr s50
def cQ(recs:List al)(pl:List (bC×Int))(at_:Int):Int:=
 if eN [dQ (ix recs at_).id,im (ix recs at_).deps]=(0:Int)then
  if(bO pl (ix recs at_).id).getD cS.zero=at_ then
   if(ix (ix recs at_).deps (ix recs at_).id.origin+(1:Int))%(4294967296:Int)=(ix recs at_).id.seq then
    match dR recs pl (ix recs at_)with
    | .inl r3=>
     r3
    | .inr r6=>
     match dt recs pl at_ r6 (((↑r6.length:Int)-(0:Int)).toNat+1) (0:Int)with
     | .inl r=>r
     | .inr s50=>
      match dD (ix recs at_) recs with
      | .inl r32=>
       r32
      | .inr _=>
       match eQ (ix recs at_)with
       | .inl r37=>
        r37
       | .inr _=>
        match cZ recs pl (ix recs at_)with
        | .inl r42=>
         r42
        | .inr _=>
         match eG recs pl at_ (((↑(List.take at_.toNat recs).length:Int)-(0:Int)).toNat+1) (0:Int)with
         | .inl r=>r
         | .inr s75=>
          (0:Int)
   else
    (3:Int)
  else
   (2:Int)
 else
  (1:Int)
def SE:aW U:=⟨[.n,.d (.int .i64)],fun xs es K=> ∃(recs:List al) (pl:List (bC×Int)) (at_:Int),xs= [⟨true,[(1,.d (.sl (.st 9)) recs),(1,.mp 0)]⟩,⟨false,[(1,.d (.int .i64) at_)]⟩]∧es= [.map cS pl]∧(recs.length≤128)∧(∀p∈pl,0≤p.2∧p.2<recs.length)∧(∀y∈recs,iF y)∧(0≤at_∧at_<recs.length)∧K (.v ⟨false,[(1,.d (.int .i64) (cQ recs pl at_))]⟩) [.map cS pl]⟩
theorem UX:bh Tryz.prog U 68 SE:=by
 refine IQ (fn:=Tryz.f68) (fc:=132) (bx:=y6) (R0:=SX Tryz.f68.body) (rest:=Lt Tryz.f68.body) Fe Jw bP (by kernel_rfl) Tryz.f68.ntmps 4 3 2 10 [.d (.int .i64)] [] (by kernel_rfl) (by kernel_rfl) rfl rfl rfl (by kernel_rfl) (by kernel_rfl) (by kernel_rfl) rfl rfl rfl (by kernel_rfl) rfl rfl rfl (by kernel_rfl) (fun q x z w hc hz=>Ec q x z [] w hc hz) Ed IR (fun xs es K=>?_);rintro⟨recs,pl,at_,rfl,rfl,hr,hp,ho,hat,h⟩;refine⟨rfl,?_⟩;have hf0:=cQ.eq_1 recs pl at_;refine And.intro (show(0:Int)≤at_∧at_<(↑recs.length:Int)from by omega) ?_;refine .inl ⟨[(true,0),(true,1),(true,3),(true,4),(false,2),(false,5),(false,6),(false,7),(true,8)],some 9,[4,5,6,7,8,9,10,11,12,13,14,15],by kernel_rfl,?_⟩;refine⟨_,rfl,rfl,?_⟩;refine⟨_,rfl,rfl,?_⟩;refine⟨_,rfl,rfl,?_⟩;refine⟨_,_,rfl,rfl,?_⟩;refine vI hf0 iD (fun h0 hf0=>?_) (fun h0 hf0=>?_)
 ·refine⟨_,_,rfl,rfl,?_⟩;refine vI hf0 iD (fun h1 hf0=>?_) (fun h1 hf0=>?_)
  ·refine .inl ⟨[(true,0),(true,1),(true,2),(true,3),(true,4),(true,5),(true,6),(true,7),(true,8),(true,9),(true,10)],some 11,[5,6,7,8,9,10,11,12,13,14,15,16],by kernel_rfl,?_⟩;refine .inl ?_;refine And.intro (show(0:Int)≤(ix recs at_).id.origin∧(ix recs at_).id.origin<(↑(8:Nat):Int)from BG (by assumption)) ?_;refine .inr ?_;refine⟨_,_,rfl,rfl,?_⟩;refine vI hf0 iD (fun h2 hf0=>?_) (fun h2 hf0=>?_)
   ·refine⟨_,_,_,rfl,rfl,(by omega),(by omega),?_⟩;refine And.intro (fun r3 h4=>?_) (fun r6 h7=>?_)
    ·rw[h4]at hf0;refine fun h5=>?_;refine And.intro (show(-9223372036854775808:Int)≤r3∧r3≤(9223372036854775807:Int)from by omega) ?_;rw[hf0]at h;exact h
    ·rw[h7]at hf0;set_option simprocs false in dsimp only at hf0;refine fun h8=>?_;refine fun h9=>?_;have h9:(↑r6.length:Int)≤(9223372036854775807:Int):=h9.2;refine⟨Int,5,fun(s50:Int)=> [(1,.v ⟨false,[(1,.d (.int .i64) at_)]⟩),(2,.v ⟨false,[(1,.ptr 1 0)]⟩),(4,.v ⟨false,[(1,.ptr 2 0)]⟩),(5,.v ⟨false,[(1,.ptr 3 0)]⟩),(48,.v ⟨false,[(1,.d (.sl (.st 9)) r6)]⟩),(49,.v ⟨false,[(1,.d (.int .i64) (↑r6.length:Int))]⟩),(50,.v ⟨false,[(1,.d (.int .i64) s50)]⟩)],fun(s50:Int)=> [(0,.map cS pl),(1,.cells [(1,.d (.sl (.st 9)) recs),(1,.mp 0)] 169),(2,.cells [(1,.d (.int .i64) (0:Int))] 3),(3,.cells [(13,.d (.st 9) ((ix recs at_):al))] 110)],aN (fun(s50:Int)=>((↑r6.length:Int)- s50).toNat) (fun(s50:Int)=>((0:Int)≤s50)∧(s50≤(↑r6.length:Int))∧True) (fun n1 (s50:Int)=>dt recs pl at_ r6 n1 s50) (dt recs pl at_ r6 (((↑r6.length:Int)-(0:Int)).toNat+1) (0:Int)),fun(s50:Int)=>((↑r6.length:Int)- s50).toNat,⟨[],(0:Int),aN.mk0 _ (Nat.lt_succ_self _) ⟨show(0:Int)≤(0:Int)from by omega,show(0:Int)≤(↑r6.length:Int)from by omega,trivial⟩ rfl,?_⟩,?_⟩
     ·repeat (first|exact trivial|refine And.intro rfl ?_)
     ·rintro s50 ⟨n1,hc1,⟨hi1_0,hi1_1,-⟩,hf1⟩;have hf1:=hf1.trans (dt.eq_2 recs pl at_ r6 s50 n1);refine vI hf1 iD (fun h10 hf1=>?_) (fun h10 hf1=>?_)
      ·refine And.intro (show(0:Int)≤s50∧s50<(↑r6.length:Int)from by omega) ?_;refine⟨_,_,rfl,rfl,?_⟩;refine⟨_,_,rfl,rfl,?_⟩;refine vI hf1 iB (fun h11 hf1=>?_) (fun h11 hf1=>?_)
       ·refine .inl (And.intro (jc (p:=s50) (q:=(1:Int)) (r:=s50+(1:Int)) (by omega)) ?_);have hm1:((↑r6.length:Int)-(s50+(1:Int))).toNat<((↑r6.length:Int)- s50).toNat:=by omega
        refine⟨[],s50+(1:Int),hm1,aN.next (s:=s50) hc1 hm1 ⟨show(0:Int)≤s50+(1:Int)from by omega,show s50+(1:Int)≤(↑r6.length:Int)from by omega,trivial⟩ hf1,?_⟩;repeat (first|exact trivial|refine And.intro rfl ?_)
       ·refine And.intro (show(-9223372036854775808:Int)≤(5:Int)∧(5:Int)≤(9223372036854775807:Int)from by omega) ?_;rw[hf1]at hf0;rw[hf0]at h;exact h
      ·rw[hf1]at hf0;set_option simprocs false in dsimp only at hf0;refine⟨_,_,rfl,rfl,?_⟩;refine And.intro (fun r12 h13=>?_) (fun h15=>?_)
       ·rw[h13]at hf0;refine fun h14=>?_;refine And.intro (show(-9223372036854775808:Int)≤r12∧r12≤(9223372036854775807:Int)from by omega) ?_;rw[hf0]at h;exact h
       ·rw[h15]at hf0;set_option simprocs false in dsimp only at hf0;refine fun h16=>?_;refine⟨_,rfl,rfl,(uV (by assumption) (by omega) (by omega)),?_⟩;refine And.intro (fun r17 h18=>?_) (fun h20=>?_)
        ·rw[h18]at hf0;refine fun h19=>?_;refine And.intro (show(-9223372036854775808:Int)≤r17∧r17≤(9223372036854775807:Int)from by omega) ?_;rw[hf0]at h;exact h
        ·rw[h20]at hf0;set_option simprocs false in dsimp only at hf0;refine fun h21=>?_;refine⟨_,_,_,rfl,rfl,(by omega),(by assumption),(uV (by assumption) (by omega) (by omega)),(BG (by assumption)),?_⟩;refine And.intro (fun r22 h23=>?_) (fun h25=>?_)
         ·rw[h23]at hf0;refine fun h24=>?_;refine And.intro (show(-9223372036854775808:Int)≤r22∧r22≤(9223372036854775807:Int)from by omega) ?_;rw[hf0]at h;exact h
         ·rw[h25]at hf0;set_option simprocs false in dsimp only at hf0;refine fun h26=>?_;refine And.intro (show(0:Int)≤(0:Int)∧(0:Int)≤at_∧at_≤(↑recs.length:Int)from by omega) ?_;refine fun h27=>?_;have h27:(↑(List.take at_.toNat recs).length:Int)≤(9223372036854775807:Int):=h27.2;refine⟨Int,5,fun(s75:Int)=> [(4,.v ⟨false,[(1,.ptr 2 0)]⟩),(5,.v ⟨false,[(1,.ptr 3 0)]⟩),(73,.v ⟨false,[(1,.d (.sl (.st 9)) (List.take at_.toNat recs))]⟩),(74,.v ⟨false,[(1,.d (.int .i64) (↑(List.take at_.toNat recs).length:Int))]⟩),(75,.v ⟨false,[(1,.d (.int .i64) s75)]⟩)],fun(s75:Int)=> [(0,.map cS pl),(2,.cells [(1,.d (.int .i64) (0:Int))] 3),(3,.cells [(13,.d (.st 9) ((ix recs at_):al))] 110)],aN (fun(s75:Int)=>((↑(List.take at_.toNat recs).length:Int)- s75).toNat) (fun(s75:Int)=>((0:Int)≤s75)∧(s75≤(↑(List.take at_.toNat recs).length:Int))∧True) (fun n2 (s75:Int)=>eG recs pl at_ n2 s75) (eG recs pl at_ (((↑(List.take at_.toNat recs).length:Int)-(0:Int)).toNat+1) (0:Int)),fun(s75:Int)=>((↑(List.take at_.toNat recs).length:Int)- s75).toNat,⟨[],(0:Int),aN.mk0 _ (Nat.lt_succ_self _) ⟨show(0:Int)≤(0:Int)from by omega,show(0:Int)≤(↑(List.take at_.toNat recs).length:Int)from by omega,trivial⟩ rfl,?_⟩,?_⟩
          ·repeat (first|exact trivial|refine And.intro rfl ?_)
          ·rintro s75 ⟨n2,hc2,⟨hi2_0,hi2_1,-⟩,hf1⟩;have hf1:=hf1.trans (eG.eq_2 recs pl at_ s75 n2);refine vI hf1 iD (fun h28 hf1=>?_) (fun h28 hf1=>?_)
           ·refine And.intro (show(0:Int)≤s75∧s75<(↑(List.take at_.toNat recs).length:Int)from by omega) ?_;refine⟨_,fun h29=>⟨_,_,rfl,rfl,rfl,rfl⟩,rfl,?_⟩;refine⟨_,fun h30=>⟨_,_,rfl,rfl,rfl,rfl⟩,rfl,?_⟩;refine⟨_,_,rfl,rfl,?_⟩;refine vI hf1 (iO (iO (iO iD iD) (iN iB)) (iN iB)) (fun h31 hf1=>?_) (fun h31 hf1=>?_)
            ·refine .inl (And.intro (jc (p:=s75) (q:=(1:Int)) (r:=s75+(1:Int)) (by omega)) ?_);have hm2:((↑(List.take at_.toNat recs).length:Int)-(s75+(1:Int))).toNat<((↑(List.take at_.toNat recs).length:Int)- s75).toNat:=by omega
             refine⟨[],s75+(1:Int),hm2,aN.next (s:=s75) hc2 hm2 ⟨show(0:Int)≤s75+(1:Int)from by omega,show s75+(1:Int)≤(↑(List.take at_.toNat recs).length:Int)from by omega,trivial⟩ hf1,?_⟩;repeat (first|exact trivial|refine And.intro rfl ?_)
            ·refine And.intro (show(-9223372036854775808:Int)≤(8:Int)∧(8:Int)≤(9223372036854775807:Int)from by omega) ?_;rw[hf1]at hf0;rw[hf0]at h;exact h
           ·rw[hf1]at hf0;rw[hf0]at h;exact h
   ·refine And.intro (show(-9223372036854775808:Int)≤(3:Int)∧(3:Int)≤(9223372036854775807:Int)from by omega) ?_;rw[hf0]at h;exact h
  ·refine And.intro (show(-9223372036854775808:Int)≤(2:Int)∧(2:Int)≤(9223372036854775807:Int)from by omega) ?_;rw[hf0]at h;exact h
 ·refine And.intro (show(-9223372036854775808:Int)≤(1:Int)∧(1:Int)≤(9223372036854775807:Int)from by omega) ?_;rw[hf0]at h;exact h
end Go.Proofs.YtmpeiadlohbikaaGreatDoor.V
end

section
set_option linter.unusedVariables false
set_option linter.unusedSimpArgs false
set_option maxRecDepth 20000
set_option maxHeartbeats 4000000
namespace Go.Proofs.YtmpeiadlohbikaaGreatDoor.V
open Go.RowKit
theorem qo{κ β:Type} [DecidableEq κ]{k:κ}{v:β}{p:κ×β}: ∀{m:List (κ×β)},p∈cJ m k v→p∈m∨p=(k,v)
 | [],h=>by
  have h:p∈ [(k,v)]:=h;exact .inr (List.mem_singleton.1 h)
 |(y,u)::r,h=>by
  unfold cJ at h;split at h
  ·rcases List.mem_cons.1 h with h|h
   ·exact .inr h
   ·exact .inl (List.mem_cons_of_mem _ h)
  ·rcases List.mem_cons.1 h with h|h
   ·exact .inl (by rw[h];simp)
   ·exact(qo h).imp (List.mem_cons_of_mem _) id
theorem tp(l:List al): ∀(n:Nat) (s:Int) (e:List (bC×Int)),0≤s→(∀p∈e,0≤p.2∧p.2<(l.length:Int))→ ∃j r,dX l n s e= .inr (j,r)∧ ∀p∈r,0≤p.2∧p.2<(l.length:Int)
 |0,s,e,h0,h=>⟨s,e,rfl,h⟩
 |n+1,s,e,h0,h=>by
  rw[dX];split
  ·split
   ·exact tp l n _ _ (by omega) h
   ·refine tp l n _ _ (by omega) fun p hp=>?_;rcases qo hp with hp|rfl
    ·exact h p hp
    ·exact⟨h0,by assumption⟩
  ·exact⟨_,_,rfl,h⟩
theorem xS(l:List al): ∀p∈dI l,0≤p.2∧p.2<(l.length:Int):=by
 obtain⟨j,r,h,hr⟩:=tp l (((↑l.length:Int)-(0:Int)).toNat+1) 0 [] (by omega) (fun p hp=>by cases hp);unfold dI;rw[h];exact hr
def UY:c6 U:= [(67,SB),(68,SE)]
theorem Jx:bi Tryz.prog U UY:=aa UR (aa UX (ah))
def dE(l:List al):Nat→Int→(Int×Int)⊕(Int)
 |0,s14=> .inr s14
 |n1+1,s14=>
  if s14<(↑l.length:Int)then
   if cQ l (dI l) s14=(0:Int)then
    dE l n1 (s14+(1:Int))
   else
    .inl ((s14,cQ l (dI l) s14))
  else
   .inr s14
def br(l:List al):Int×Int:=
 if(128:Int)<(↑l.length:Int)then
  ((128:Int),(1:Int))
 else
  match dE l (((↑l.length:Int)-(0:Int)).toNat+1) (0:Int)with
  | .inl r=>r
  | .inr s14=>
   ((-1:Int),(0:Int))
def OF:aW U:=⟨[.d (.sl (.st 9))],fun xs es K=> ∃(l:List al),xs= [⟨false,[(1,.d (.sl (.st 9)) l)]⟩]∧es= []∧(∀y∈l,iF y)∧K (.tup [⟨false,[(1,.d (.int .i64) ((br l).1))]⟩,⟨false,[(1,.d (.int .i64) ((br l).2))]⟩]) []⟩
theorem MN:bh Tryz.prog U 24 OF:=by
 refine d8 (fn:=Tryz.f24) Jx bP (by kernel_rfl) Tryz.f24.ntmps [.d (.int .i64),.d (.int .i64)] [] (by kernel_rfl) (by kernel_rfl) rfl rfl (by kernel_rfl) (fun xs es K=>?_);rintro⟨l,rfl,rfl,ho,h⟩;refine⟨rfl,?_⟩;have hf0:=br.eq_1 l;refine fun h0=>?_;have h0:(↑l.length:Int)≤(9223372036854775807:Int):=h0.2;refine vI hf0 iD (fun h1 hf0=>?_) (fun h1 hf0=>?_)
 ·rw[hf0]at h;exact h
 ·refine⟨_,rfl,rfl,(by omega),?_⟩;refine fun h2=>?_;have h2:(↑l.length:Int)≤(9223372036854775807:Int):=h2.2;refine⟨Int,2,fun(s14:Int)=> [(4,.v ⟨false,[(1,.ptr 1 0)]⟩),(13,.v ⟨false,[(1,.d (.int .i64) (↑l.length:Int))]⟩),(14,.v ⟨false,[(1,.d (.int .i64) s14)]⟩)],fun(s14:Int)=> [(0,.map cS (dI l)),(1,.cells [(1,.d (.sl (.st 9)) l),(1,.mp 0)] 169)],aN (fun(s14:Int)=>((↑l.length:Int)- s14).toNat) (fun(s14:Int)=>((0:Int)≤s14)∧(s14≤(↑l.length:Int))∧True) (fun n1 (s14:Int)=>dE l n1 s14) (dE l (((↑l.length:Int)-(0:Int)).toNat+1) (0:Int)),fun(s14:Int)=>((↑l.length:Int)- s14).toNat,⟨[],(0:Int),aN.mk0 _ (Nat.lt_succ_self _) ⟨show(0:Int)≤(0:Int)from by omega,show(0:Int)≤(↑l.length:Int)from by omega,trivial⟩ rfl,?_⟩,?_⟩
  ·repeat (first|exact trivial|refine And.intro rfl ?_)
  ·rintro s14 ⟨n1,hc1,⟨hi1_0,hi1_1,-⟩,hf1⟩;have hf1:=hf1.trans (dE.eq_2 l s14 n1);refine vI hf1 iD (fun h3 hf1=>?_) (fun h3 hf1=>?_)
   ·refine⟨_,_,_,rfl,rfl,(by omega),(xS _),(by assumption),(by omega),?_⟩;refine vN hf1 iD (fun h4 hf1=>?_) (fun h4 hf1=>?_)
    ·rw[hf1]at hf0;rw[hf0]at h;exact h
    ·refine .inl (And.intro (jc (p:=s14) (q:=(1:Int)) (r:=s14+(1:Int)) (by omega)) ?_);have hm1:((↑l.length:Int)-(s14+(1:Int))).toNat<((↑l.length:Int)- s14).toNat:=by omega
     refine⟨[],s14+(1:Int),hm1,aN.next (s:=s14) hc1 hm1 ⟨show(0:Int)≤s14+(1:Int)from by omega,show s14+(1:Int)≤(↑l.length:Int)from by omega,trivial⟩ hf1,?_⟩;repeat (first|exact trivial|refine And.intro rfl ?_)
   ·rw[hf1]at hf0;rw[hf0]at h;exact h
end Go.Proofs.YtmpeiadlohbikaaGreatDoor.V
end

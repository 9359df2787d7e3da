/- The shapes of a history that is handed in (seat of round rs), and what its data brings. -/
import Derived.Test.YtmpeiadlohbikaaGreatDoorAt26
import Derived.Test.YtmpeiadlohbikaaGreatDoorAt13
import Derived.Test.YtmpeiadlohbikaaGreatDoorAt17
import Derived.Test.YtmpeiadlohbikaaGreatDoorAt25
section
set_option linter.unusedVariables false
set_option linter.unusedSimpArgs false
namespace Go.Proofs.YtmpeiadlohbikaaGreatDoor.V
open Go.ChangeShapes Go.WideShapes Go.ChangeAt Go.RowKit Go.Joins
theorem EB{f:FuncId}{c:aW U}{xs:List (Va U)}{vs:List Value}{W:World}(hk:bh Tryz.prog U f c)(hg:Gv W)(hv: ∀(F:ao) (ρ:Nat→Rz),bM (@Vw F U gB W ρ 0 []) xs vs)
  (hr:c.run xs [] fun r es=>r= .v ⟨false,[(1,.d .bool true)]⟩∧es= []):Fn Tryz.prog f vs W fun v w'=>v= .bool true∧Fr [] W w':=by
 obtain⟨b,bx,bp⟩: ∃b:Bx,b.f.xf=gB∧b.f.pr=Tryz.prog:=⟨⟨⟨gB,Tryz.prog⟩⟩,rfl,rfl⟩;have M:=Ld (F0:=b.f) (U:=U) (X:=gB) (w:=W) (ρ0:=fun _=>rz none 0) (fun x hx=>hg.lt x hx) (fun z hz=>bx▸hz) ⟨fun z hz=>bx▸hz,fun w hw=>hw▸hg⟩;refine Fn.mono (@hk b.f bp gB W _ [] xs vs _ M (hv b.f _) hr) fun v w'=>?_;rintro⟨r,es',ρ',⟨rfl,rfl⟩,hav,M',st⟩;have st:=bQ.i (F0:=b.f) st;exact⟨@ug dfs0 b.f _ _ _ _ _ _ 1 true v hav,st.fr⟩
theorem Gt{W:World}(h:W.ShapedOpen Tryz.prog):Bs W:=fun g hg j v hc=>by
 have e:g=0:=by simpa[gB]using hg
 subst e;obtain⟨cs,hh,hs,_⟩:=h.1 0 #[.int .i64 0] 3 (of_decide_eq_true (by kernel_rfl)) (by kernel_rfl);have hs:cs.size=1:=hs;have h1:cs[j]? =some v:=by simpa[World.cell?,hh]using hc
 have:=(Array.getElem?_eq_some_iff.1 h1).1;omega
section
variable {W:World}
set_option maxRecDepth 20000
theorem o3:od Tryz.prog U W 3 (.int .i64):=wx Tryz.underlying3
theorem o2:od Tryz.prog U W 2 (.int .i64):=wx Tryz.underlying2
theorem o9:od Tryz.prog U W 9 .str:=CT Tryz.underlying9
theorem Up:od Tryz.prog U W 54 (.st 1):=ka Tryz.underlying54 (by kernel_rfl) (.cons _ _ _ _ _ _ rfl (by kernel_rfl) o3 (.cons _ _ _ _ _ _ rfl (by kernel_rfl) o9 (.cons _ _ _ _ _ _ rfl (by kernel_rfl) o2 (.nil _)))) (fun _=>trivial)
end
end Go.Proofs.YtmpeiadlohbikaaGreatDoor.V
end

section
set_option linter.unusedVariables false
set_option linter.unusedSimpArgs false
set_option maxRecDepth 20000
set_option maxHeartbeats 4000000
namespace Go.Proofs.YtmpeiadlohbikaaGreatDoor.V
open Go.RowKit
def g4:c6 U:= [(18,Ry),(19,Rx),(20,Rs),(21,SH),(22,R5),(23,R6)]
theorem MP:bi Tryz.prog U g4:=aa Fh (aa y8 (aa CN (aa Fg (aa O2 (aa O3 (ah))))))
def eR(l:List al)(s5:List (bC×List Int)):Nat→Int→(List Int)→Bool⊕(Int×(List Int))
 |0,s8,s7_0=> .inr (s8,s7_0)
 |n2+1,s8,s7_0=>
  if s8<(↑(aO (bt l)).fst.length:Int)then
   if ku ((bO s5 (ix (aO (bt l)).fst s8)).getD yW.zero) s7_0=true then
    if(d9 s7_0 (ix (aO (bt l)).fst s8)).snd=(0:Int)then
     eR l s5 n2 (s8+(1:Int)) ((d9 s7_0 (ix (aO (bt l)).fst s8)).fst)
    else
     .inl false
   else
    .inl false
  else
   .inr (s8,s7_0)
def eS(l:List al):Nat→Int→(List (bC×List Int))→Bool⊕(Int×(List (bC×List Int)))
 |0,s6,s5=> .inr (s6,s5)
 |n1+1,s6,s5=>
  if s6<(↑l.length:Int)then
   eS l n1 (s6+(1:Int)) (cJ s5 (ix l s6).id (ix l s6).deps)
  else
   .inr (s6,s5)
def nu(l:List al):Bool:=
 if jw=true then
  if ff l=true then
   true
  else
   if(aO (bt l)).snd=(0:Int)then
    match eS l (((↑l.length:Int)-(0:Int)).toNat+1) (0:Int) ([]:List (bC×List Int))with
    | .inl r=>r
    | .inr (s6,s5)=>
     match eR l s5 (((↑(aO (bt l)).fst.length:Int)-(0:Int)).toNat+1) (0:Int) ([(0:Int),(0:Int),(0:Int),(0:Int),(0:Int),(0:Int),(0:Int),(0:Int)])with
     | .inl r=>r
     | .inr (s8,s7_0)=>
      decide ((↑(aO (bt l)).fst.length:Int)=(↑l.length:Int))
   else
    decide ((↑(aO (bt l)).fst.length:Int)=(0:Int))
 else
  false
def c4:aW U:=⟨[.d (.sl (.st 9))],fun xs es K=> ∃(l:List al),xs= [⟨false,[(1,.d (.sl (.st 9)) l)]⟩]∧es= []∧K (.v ⟨false,[(1,.d .bool (nu l))]⟩) []⟩
theorem k4:bh Tryz.prog U 4 c4:=by
 refine d8 (fn:=Tryz.f4) MP bP (by kernel_rfl) Tryz.f4.ntmps [.d .bool] [] (by kernel_rfl) (by kernel_rfl) rfl rfl (by kernel_rfl) (fun xs es K=>?_);rintro⟨l,rfl,rfl,h⟩;refine⟨rfl,?_⟩;have hf0:=nu.eq_1 l;refine⟨rfl,rfl,?_⟩;refine vN hf0 (iN iB) (fun h0 hf0=>?_) (fun h0 hf0=>?_)
 ·rw[hf0]at h;exact h
 ·refine⟨_,rfl,rfl,?_⟩;refine vI hf0 iB (fun h1 hf0=>?_) (fun h1 hf0=>?_)
  ·rw[hf0]at h;exact h
  ·refine⟨_,rfl,rfl,(uB (by assumption)),?_⟩;refine⟨_,rfl,rfl,(n4 (by assumption)),?_⟩;refine vN hf0 iD (fun h2 hf0=>?_) (fun h2 hf0=>?_)
   ·refine fun h3=>?_;have h3:(↑(aO (bt l)).fst.length:Int)≤(9223372036854775807:Int):=h3.2;rw[hf0]at h;exact h
   ·refine⟨Int×(List (bC×List Int)),1,fun(s6,s5)=> [(0,.v ⟨false,[(1,.d (.sl (.st 9)) l)]⟩),(3,.v ⟨false,[(1,.d (.sl (.st 0)) ((aO (bt l)).fst))]⟩),(5,.v ⟨false,[(1,.mp 0)]⟩),(6,.v ⟨false,[(1,.d (.int .i64) s6)]⟩)],fun(s6,s5)=> [(0,.map yW s5)],aN (fun(s6,s5)=>((↑l.length:Int)- s6).toNat) (fun(s6,s5)=>((0:Int)≤s6)∧(s6≤(↑l.length:Int))∧True) (fun n1 (s6,s5)=>eS l n1 s6 s5) (eS l (((↑l.length:Int)-(0:Int)).toNat+1) (0:Int) ([]:List (bC×List Int))),fun(s6,s5)=>((↑l.length:Int)- s6).toNat,⟨[],((0:Int),([]:List (bC×List Int))),aN.mk0 _ (Nat.lt_succ_self _) ⟨show(0:Int)≤(0:Int)from by omega,show(0:Int)≤(↑l.length:Int)from by omega,trivial⟩ rfl,?_⟩,?_⟩
    ·repeat (first|exact trivial|refine And.intro rfl ?_)
    ·rintro⟨s6,s5⟩ ⟨n1,hc1,⟨hi1_0,hi1_1,-⟩,hf1⟩;have hf1:=hf1.trans (eS.eq_2 l s6 s5 n1);refine fun h4=>?_;have h4:(↑l.length:Int)≤(9223372036854775807:Int):=h4.2;refine vI hf1 iD (fun h5 hf1=>?_) (fun h5 hf1=>?_)
     ·refine .inl ⟨[(true,0),(true,1),(true,2),(true,3),(true,4),(true,5),(true,6),(true,7),(true,8),(true,9),(true,10)],some 11,[1,2,3,4,5,6,7,8,9,10,11,12],by kernel_rfl,?_⟩;refine And.intro (show(0:Int)≤s6∧s6<(↑l.length:Int)from by omega) ?_;refine And.intro (show(0:Int)≤s6∧s6<(↑l.length:Int)from by omega) ?_;refine .inl (And.intro (jc (p:=s6) (q:=(1:Int)) (r:=s6+(1:Int)) (by omega)) ?_);have hm1:((↑l.length:Int)-(s6+(1:Int))).toNat<((↑l.length:Int)- s6).toNat:=by omega
      refine⟨[],(s6+(1:Int),cJ s5 (ix l s6).id (ix l s6).deps),hm1,aN.next (s:=(s6,s5)) hc1 hm1 ⟨show(0:Int)≤s6+(1:Int)from by omega,show s6+(1:Int)≤(↑l.length:Int)from by omega,trivial⟩ hf1,?_⟩;repeat (first|exact trivial|refine And.intro rfl ?_)
     ·rw[hf1]at hf0;set_option simprocs false in dsimp only at hf0;refine⟨Int×(List Int),2,fun(s8,s7_0)=> [(0,.v ⟨false,[(1,.d (.sl (.st 9)) l)]⟩),(3,.v ⟨false,[(1,.d (.sl (.st 0)) ((aO (bt l)).fst))]⟩),(5,.v ⟨false,[(1,.mp 0)]⟩),(7,.v ⟨false,[(1,.ptr 1 0)]⟩),(8,.v ⟨false,[(1,.d (.int .i64) s8)]⟩)],fun(s8,s7_0)=> [(0,.map yW s5),(1,.cells [(8,.d (.arr 8 (.int .u32)) s7_0)] 45)],aN (fun(s8,s7_0)=>((↑(aO (bt l)).fst.length:Int)- s8).toNat) (fun(s8,s7_0)=>((0:Int)≤s8)∧(s8≤(↑(aO (bt l)).fst.length:Int))∧True) (fun n2 (s8,s7_0)=>eR l s5 n2 s8 s7_0) (eR l s5 (((↑(aO (bt l)).fst.length:Int)-(0:Int)).toNat+1) (0:Int) ([(0:Int),(0:Int),(0:Int),(0:Int),(0:Int),(0:Int),(0:Int),(0:Int)])),fun(s8,s7_0)=>((↑(aO (bt l)).fst.length:Int)- s8).toNat,⟨[],((0:Int),[(0:Int),(0:Int),(0:Int),(0:Int),(0:Int),(0:Int),(0:Int),(0:Int)]),aN.mk0 _ (Nat.lt_succ_self _) ⟨show(0:Int)≤(0:Int)from by omega,show(0:Int)≤(↑(aO (bt l)).fst.length:Int)from by omega,trivial⟩ rfl,?_⟩,?_⟩
      ·repeat (first|exact trivial|refine And.intro rfl ?_)
      ·rintro⟨s8,s7_0⟩ ⟨n2,hc2,⟨hi2_0,hi2_1,-⟩,hf1⟩;have hf1:=hf1.trans (eR.eq_2 l s5 s8 s7_0 n2);refine fun h6=>?_;have h6:(↑(aO (bt l)).fst.length:Int)≤(9223372036854775807:Int):=h6.2;refine vI hf1 iD (fun h7 hf1=>?_) (fun h7 hf1=>?_)
       ·refine .inl ⟨[(true,0),(true,1),(true,2),(true,3),(true,4),(true,5),(true,6),(false,7),(true,8)],none,[2,3,4,5,6,7,8,9,10,11,12,13],by kernel_rfl,?_⟩;refine And.intro (show(0:Int)≤s8∧s8<(↑(aO (bt l)).fst.length:Int)from by omega) ?_;refine⟨_,_,rfl,rfl,?_⟩;refine vN hf1 (iN iB) (fun h8 hf1=>?_) (fun h8 hf1=>?_)
        ·rw[hf1]at hf0;rw[hf0]at h;exact h
        ·refine .inr ⟨(.look 0 (.look 1 (.look 2 (.look 3 (.look 4 (.turn 5 (.look 6 (.look 7 (.look 8 (.turn 9 (.turn 10 .fin .nil) .nil)))) (.turn 9 (.turn 5 (.look 6 (.look 7 (.look 8 (.turn 10 .fin .nil)))) .nil) .nil))))))),some 11,[],3,[(0,.v ⟨false,[(1,.d (.sl (.st 9)) l)]⟩),(3,.v ⟨false,[(1,.d (.sl (.st 0)) ((aO (bt l)).fst))]⟩),(5,.v ⟨false,[(1,.mp 0)]⟩),(7,.v ⟨false,[(1,.ptr 1 0)]⟩),(8,.v ⟨false,[(1,.d (.int .i64) s8)]⟩),(9,.v ⟨false,[(1,.ptr 2 0)]⟩),(10,.v ⟨false,[(1,.d (.int .i64) ((d9 s7_0 (ix (aO (bt l)).fst s8)).snd))]⟩)],[(0,.map yW s5),(1,.cells [(8,.d (.arr 8 (.int .u32)) s7_0)] 45),(2,.cells [(8,.d (.arr 8 (.int .u32)) ((d9 s7_0 (ix (aO (bt l)).fst s8)).fst))] 45)],True,by kernel_rfl,?_,?_⟩
         ·refine And.intro (show(0:Int)≤s8∧s8<(↑(aO (bt l)).fst.length:Int)from by omega) ?_;refine And.intro ?_ ?_
          ·refine⟨_,_,rfl,rfl,?_⟩;refine And.intro ?_ trivial;refine And.intro ?_ trivial;refine⟨trivial,[],?_⟩;repeat (first|exact trivial|refine And.intro rfl ?_)
          refine And.intro ?_ trivial;refine And.intro ?_ trivial;refine⟨_,_,rfl,rfl,?_⟩;refine And.intro ?_ trivial;refine⟨trivial,[],?_⟩;repeat (first|exact trivial|refine And.intro rfl ?_)
         refine fun _=>?_;refine vN hf1 iD (fun h9 hf1=>?_) (fun h9 hf1=>?_)
         ·rw[hf1]at hf0;rw[hf0]at h;exact h
         ·refine .inl (And.intro (jc (p:=s8) (q:=(1:Int)) (r:=s8+(1:Int)) (by omega)) ?_);have hm2:((↑(aO (bt l)).fst.length:Int)-(s8+(1:Int))).toNat<((↑(aO (bt l)).fst.length:Int)- s8).toNat:=by omega
          refine⟨[],(s8+(1:Int),(d9 s7_0 (ix (aO (bt l)).fst s8)).fst),hm2,aN.next (s:=(s8,s7_0)) hc2 hm2 ⟨show(0:Int)≤s8+(1:Int)from by omega,show s8+(1:Int)≤(↑(aO (bt l)).fst.length:Int)from by omega,trivial⟩ hf1,?_⟩;repeat (first|exact trivial|refine And.intro rfl ?_)
       ·rw[hf1]at hf0;refine fun h10=>?_;have h10:(↑(aO (bt l)).fst.length:Int)≤(9223372036854775807:Int):=h10.2;refine fun h11=>?_;have h11:(↑l.length:Int)≤(9223372036854775807:Int):=h11.2;rw[hf0]at h;exact h
end Go.Proofs.YtmpeiadlohbikaaGreatDoor.V
end

section
set_option linter.unusedVariables false
set_option linter.unusedSimpArgs false
namespace Go.Proofs.YtmpeiadlohbikaaGreatDoor.V
open Go.RowKit Go.Shelf Go.Lib Go.Sort
theorem pU(a b:List Int):ku a b=true↔ ∀j:Int,0≤j→j<8→ix a j≤ix b j:=by
 have h:=sU 8 (fun i=>decide (¬ix b i<ix a i)) false (jI a b) 0 (fun fuel i _=>by
  rw[jI];split
  ·by_cases x:ix b i<ix a i<;>simp[x]
  ·rfl) (((8:Int)-(0:Int)).toNat+1) 0 (by omega) (by omega)
 unfold ku;rcases h with⟨⟨q,h1⟩,h2⟩|⟨h1,j,h2,h3,h4⟩
 ·rw[h1];simp only[true_iff];intro j hj hk;have:=h2 j hj hk;simp only[decide_eq_true_eq]at this;omega
 ·rw[h1];simp only[Bool.false_eq_true,false_iff];intro hall;have:=hall j h2 h3;simp only[decide_eq_false_iff_not]at h4;omega
theorem ov(v:List Int):fa v=0↔ ∀j:Int,0≤j→j<8→ix v j≤1048576:=by
 have h:=sU 8 (fun i=>decide (¬(1048576:Int)<ix v i)) (2:Int) (dK v) 0 (fun fuel i _=>by
  rw[dK];split
  ·by_cases x:(1048576:Int)<ix v i<;>simp[x]
  ·rfl) (((8:Int)-(0:Int)).toNat+1) 0 (by omega) (by omega)
 unfold fa;rcases h with⟨⟨q,h1⟩,h2⟩|⟨h1,j,h2,h3,h4⟩
 ·rw[h1];refine⟨fun _ j hj hk=>?_,fun _=>rfl⟩;have:=h2 j hj hk;simp only[decide_eq_true_eq]at this;omega
 ·rw[h1];refine⟨fun h=>(by cases h),fun hall=>?_⟩;have:=hall j h2 h3;simp only[decide_eq_false_iff_not]at h4;omega
theorem yE(v:List Int):im v=fa v:=by
 have key: ∀fuel i,fS v fuel i=dK v fuel i:=by
  intro fuel;induction fuel with
  |zero=>intro i;rfl
  |succ n ih=>intro i;rw[fS,dK,ih]
 unfold im fa;rw[key];try rfl
theorem Es(a0 a1 a2 a3 a4 a5 a6 a7 b0 b1 b2 b3 b4 b5 b6 b7:Int):oS [a0,a1,a2,a3,a4,a5,a6,a7] [b0,b1,b2,b3,b4,b5,b6,b7]= [max a0 b0,max a1 b1,max a2 b2,max a3 b3,max a4 b4,max a5 b5,max a6 b6,max a7 b7]:=rfl
theorem Sl{l:List Int}(h:l.length=8): ∃a0 a1 a2 a3 a4 a5 a6 a7,l= [a0,a1,a2,a3,a4,a5,a6,a7]:=by
 match l,h with
 | [a0,a1,a2,a3,a4,a5,a6,a7],_=>exact⟨a0,a1,a2,a3,a4,a5,a6,a7,rfl⟩
theorem AX{a b:List Int}(ha:a.length=8)(hb:b.length=8):jZ a b=ku a b:=by
 rw[Bool.eq_iff_iff,pU];obtain⟨a0,a1,a2,a3,a4,a5,a6,a7,rfl⟩:=Sl ha;obtain⟨b0,b1,b2,b3,b4,b5,b6,b7,rfl⟩:=Sl hb;unfold jZ;rw[Es,decide_eq_true_eq];simp only[List.cons.injEq,and_true];constructor
 ·intro h j h1 h2;have:j=0∨j=1∨j=2∨j=3∨j=4∨j=5∨j=6∨j=7:=by omega
  rcases this with rfl|rfl|rfl|rfl|rfl|rfl|rfl|rfl<;>simp[ix]<;>omega
 ·intro h;have h0:=h 0 (by omega) (by omega);have h1:=h 1 (by omega) (by omega);have h2:=h 2 (by omega) (by omega);have h3:=h 3 (by omega) (by omega);have h4:=h 4 (by omega) (by omega);have h5:=h 5 (by omega) (by omega);have h6:=h 6 (by omega) (by omega);have h7:=h 7 (by omega) (by omega);simp[ix]at h0 h1 h2 h3 h4 h5 h6 h7;omega
theorem Et{v:List Int}{o j a:Int}(h0:0≤o)(h1:o<v.length)(hj:0≤j):ix (v.set o.toNat a) j=if j=o then a else ix v j:=by
 unfold ix;rw[List.getElem?_set];by_cases e:j=o
 ·subst e;rw[if_pos rfl,if_pos rfl,if_pos (by omega)];rfl
 ·rw[if_neg e,if_neg (by omega)]
structure uC(x:al):Prop where
 len:x.deps.length=8
 dep: ∀j:Int,0≤j→j<8→0≤ix x.deps j
 seq:0≤x.id.seq
def Eu(d:List Int):Int:=ix d 0+ix d 1+ix d 2+ix d 3+ix d 4+ix d 5+ix d 6+ix d 7
theorem Ev{a b:List Int}(h: ∀j:Int,0≤j→j<8→ix a j≤ix b j){o:Int}(h0:0≤o)(h1:o<8)(hlt:ix a o<ix b o):Eu a<Eu b:=by
 have q0:=h 0 (by omega) (by omega);have q1:=h 1 (by omega) (by omega);have q2:=h 2 (by omega) (by omega);have q3:=h 3 (by omega) (by omega);have q4:=h 4 (by omega) (by omega);have q5:=h 5 (by omega) (by omega);have q6:=h 6 (by omega) (by omega);have q7:=h 7 (by omega) (by omega);unfold Eu;have:o=0∨o=1∨o=2∨o=3∨o=4∨o=5∨o=6∨o=7:=by omega
 rcases this with rfl|rfl|rfl|rfl|rfl|rfl|rfl|rfl<;>omega
theorem Gr{α:Type}(f:α→Int): ∀(l:List α),l≠ []→ ∃x∈l,∀y∈l,f x≤f y
 | [],h=>absurd rfl h
 | [a],_=>⟨a,by simp,fun y hy=>by simp at hy;subst hy;exact Int.le_refl _⟩
 |a::b::r,_=>by
  obtain⟨x,hx,hm⟩:=Gr f (b::r) (by simp);by_cases h:f a≤f x
  ·exact⟨a,by simp,fun y hy=>by
    rcases List.mem_cons.1 hy with rfl|hy
    ·exact Int.le_refl _
    ·exact Int.le_trans h (hm y hy)⟩
  ·exact⟨x,List.mem_cons_of_mem _ hx,fun y hy=>by
    rcases List.mem_cons.1 hy with rfl|hy
    ·omega
    ·exact hm y hy⟩
section
variable {l:List al}
theorem lS.idr(F:lS l)(hw: ∀x∈l,uC x){x:al}(hx:x∈l):0≤x.id.origin∧x.id.origin<8∧1≤x.id.seq∧x.id.seq≤1048576:=by
 have h:=(F.id x hx).1;have h2:=(hw x hx).seq;unfold dQ at h;split at h
 ·cases h
 ·omega
theorem lS.dep(F:lS l)(hw: ∀x∈l,uC x){x:al}(hx:x∈l){j:Int}(h0:0≤j)(h1:j<8):0≤ix x.deps j∧ix x.deps j≤1048576:=by
 have h:=(F.id x hx).2;rw[yE,ov]at h;exact⟨(hw x hx).dep j h0 h1,h j h0 h1⟩
theorem lS.next(F:lS l)(hw: ∀x∈l,uC x){x:al}(hx:x∈l):ix x.deps x.id.origin+1=x.id.seq:=by
 have h1:=F.idr hw hx;have h2:=F.dep hw hx h1.1 h1.2.1;have h3:=F.ses x hx;omega
theorem lS.prog(F:lS l)(hw: ∀x∈l,uC x){left:List al}{v:List Int}(hs: ∀x∈left,x∈l)(ht: ∀x∈l,x∈left∨x.id.seq≤ix v x.id.origin)(hv: ∀j:Int,0≤j→j<8→0≤ix v j)(hne:left≠ []):
  ∃x∈left,∀j:Int,0≤j→j<8→ix x.deps j≤ix v j:=by
 obtain⟨x,hx,hm⟩:=Gr (fun x:al=>Eu x.deps) left hne;refine⟨x,hx,fun j h0 h1=>?_⟩;by_cases hp:ix x.deps j≤0
 ·have:=hv j h0 h1;omega
 ·obtain⟨y,hy,e,hle⟩:=F.seen x (hs x hx) j (ix x.deps j) h0 h1 (by omega) (Int.le_refl _);rw[AX (hw y hy).len (hw x (hs x hx)).len,pU]at hle;have hn:=F.next hw hy;have eo:y.id.origin=j:=by rw[e]
  have es:y.id.seq=ix x.deps j:=by rw[e]
  rw[eo,es]at hn;have hlt:=Ev hle h0 h1 (by omega);rcases ht y hy with h|h
  ·have:=hm y h;omega
  ·rw[eo,es]at h;exact h
abbrev z8:List Int:= [(0:Int),(0:Int),(0:Int),(0:Int),(0:Int),(0:Int),(0:Int),(0:Int)]
def pV(l:List al):List Int→List bC→List Int→Prop
 |v,[],w=>v=w
 |v,id::r,w=>(∃x∈l,x.id=id∧ku x.deps v=true)∧d9 v id=(v.set id.origin.toNat id.seq,0)∧pV l (v.set id.origin.toNat id.seq) r w
theorem pV.snoc{id:bC}{w:List Int}(h1: ∃x∈l,x.id=id∧ku x.deps w=true)(h2:d9 w id=(w.set id.origin.toNat id.seq,0)): ∀{v:List Int} {a:List bC},pV l v a w→pV l v (a++ [id]) (w.set id.origin.toNat id.seq)
 |v,[],h=>by
  have h:v=w:=h;subst h;exact⟨h1,h2,rfl⟩
 |v,i::a,h=>⟨h.1,h.2.1,pV.snoc h1 h2 h.2.2⟩
structure OI(l left:List al)(v:List Int)(out:List bC):Prop where
 sub: ∀x∈left,x∈l
 nd:left.Pairwise fun x y=>x.id≠y.id
 len:out.length+left.length=l.length
 tk: ∀x∈l,x∈left∨x.id.seq≤ix v x.id.origin
 nt: ∀x∈left,ix v x.id.origin<x.id.seq
 vl:v.length=8
 vp: ∀j:Int,0≤j→j<8→0≤ix v j∧ix v j≤1048576
 run:pV l z8 out v
theorem OI.step(F:lS l)(hw: ∀x∈l,uC x){left:List al}{v:List Int}{out:List bC}(I:OI l left v out){i:Int}(h0:0≤i)(h1:i<left.length)(hle:jZ (ix left i).deps v=true):
  OI l (left.eraseIdx i.toNat) (v.set (ix left i).id.origin.toNat (ix left i).id.seq) (out++ [(ix left i).id]):=by
 obtain⟨n,rfl⟩:=Int.eq_ofNat_of_zero_le h0;have hn:n<left.length:=by omega
 have hx:=I.sub _ (gI left h0 h1);have ei:ix left (n:Int)=left[n]:=ow left hn;have hid:=F.idr hw hx;have hnt:=I.nt _ (gI left h0 h1);have hnx:=F.next hw hx;rw[AX (hw _ hx).len I.vl]at hle;have hle2:=(pU _ _).1 hle _ hid.1 hid.2.1;have hvo:=I.vp _ hid.1 hid.2.1;have hseq:(ix left (n:Int)).id.seq=ix v (ix left (n:Int)).id.origin+1:=by omega
 have hset: ∀j:Int,0≤j→ix (v.set (ix left (n:Int)).id.origin.toNat (ix left (n:Int)).id.seq) j=if j=(ix left (n:Int)).id.origin then(ix left (n:Int)).id.seq else ix v j:=fun j hj=>Et hid.1 (by rw[I.vl];omega) hj;have hge: ∀j:Int,0≤j→ix v j≤ix (v.set (ix left (n:Int)).id.origin.toNat (ix left (n:Int)).id.seq) j:=fun j hj=>by
  rw[hset j hj];split
  ·rename_i e;subst e;omega
  ·omega
 have her: ∀y,y∈left.eraseIdx n↔y∈left∧y.id≠(ix left (n:Int)).id:=fun y=>by
  rw[List.mem_eraseIdx_iff_getElem];constructor
  ·rintro⟨k,hk,hkn,rfl⟩;refine⟨List.getElem_mem _,?_⟩;rw[ei];rcases Nat.lt_or_gt_of_ne hkn with h|h
   ·exact(List.pairwise_iff_getElem.1 I.nd) k n hk hn h
   ·exact fun e=>(List.pairwise_iff_getElem.1 I.nd) n k hn hk h e.symm
  ·rintro⟨hy,hne⟩;obtain⟨k,hk,rfl⟩:=List.getElem_of_mem hy;refine⟨k,hk,fun e=>hne ?_,rfl⟩;subst e;rw[ei]
 rw[Int.toNat_natCast];refine⟨fun x hx=>I.sub x ((her x).1 hx).1,I.nd.sublist (List.eraseIdx_sublist ..),?_,fun y hy=>?_,fun y hy=>?_,by rw[List.length_set];exact I.vl,fun j h0 h1=>?_,pV.snoc ⟨_,hx,rfl,hle⟩ ?_ I.run⟩
 ·rw[List.length_append,List.length_eraseIdx,if_pos hn];have:=I.len;simp only[List.length_cons,List.length_nil];omega
 ·have hyr:=F.idr hw hy;rcases I.tk y hy with h|h
  ·by_cases e:y.id=(ix left (n:Int)).id
   ·right;rw[hset _ hyr.1,e,if_pos rfl];exact Int.le_refl _
   ·exact .inl ((her y).2 ⟨h,e⟩)
  ·exact .inr (Int.le_trans h (hge _ hyr.1))
 ·obtain⟨hy,hne⟩:=(her y).1 hy;have hyr:=F.idr hw (I.sub y hy);have h2:=I.nt y hy;rw[hset _ hyr.1];split
  ·rename_i e;rw[e]at h2;have:y.id.seq≠(ix left (n:Int)).id.seq:=fun e2=>hne (by
    revert e e2;cases y.id;cases (ix left (n:Int)).id;rintro rfl rfl;rfl)
   omega
  ·exact h2
 ·rw[hset j h0];split
  ·omega
  ·exact I.vp j h0 h1
 ·unfold d9;have c1:fa v=0:=(ov v).2 fun j h0 h1=>(I.vp j h0 h1).2;have c2:ez (ix left (n:Int)).id=0:=by
   unfold ez;rw[if_neg (by omega)]
  rw[if_neg (by rw[c1,c2];simp),if_neg (by unfold oR;rw[c2];simp;omega),if_pos (by omega)]
theorem v8:jw=true:=by decide+kernel
end
end Go.Proofs.YtmpeiadlohbikaaGreatDoor.V
end

section
set_option linter.unusedVariables false
set_option linter.unusedSimpArgs false
namespace Go.Proofs.YtmpeiadlohbikaaGreatDoor.V
open Go.ChangeShapes Go.WideShapes Go.ChangeAt Go.RowKit Go.Joins
section
variable {W:World}
set_option maxRecDepth 20000
theorem Qf:od Tryz.prog U W 28 (.int .u32):=CS Tryz.underlying28
theorem Sm:od Tryz.prog U W 59 (.st 0):=ka Tryz.underlying59 (by kernel_rfl) (.cons _ _ _ _ _ _ rfl (by kernel_rfl) o3 (.cons _ _ _ _ _ _ rfl (by kernel_rfl) Qf (.nil _))) (fun _=>trivial)
theorem Sn:od Tryz.prog U W 45 (.arr 8 (.int .u32)):=CV (z:=1) Tryz.underlying45 rfl (by kernel_rfl) (by kernel_rfl) Qf
theorem Ug:od Tryz.prog U W 30 (.st 2):=ka Tryz.underlying30 (by kernel_rfl) (.cons _ _ _ _ _ _ rfl (by kernel_rfl) Qf (.cons _ _ _ _ _ _ rfl (by kernel_rfl) o3 (.nil _))) (fun _=>trivial)
theorem Uh:od Tryz.prog U W 224 (.st 3):=ka Tryz.underlying224 (by kernel_rfl) (.cons _ _ _ _ _ _ rfl (by kernel_rfl) Sm (.cons _ _ _ _ _ _ rfl (by kernel_rfl) Sn (.cons _ _ _ _ _ _ rfl (by kernel_rfl) o3 (.cons _ _ _ _ _ _ rfl (by kernel_rfl) o9 (.cons _ _ _ _ _ _ rfl (by kernel_rfl) Up (.cons _ _ _ _ _ _ rfl (by kernel_rfl) Ug (.nil _))))))) (fun _=>trivial)
theorem Ui:od Tryz.prog U W 149 (.st 6):=ka Tryz.underlying149 (by kernel_rfl) (.cons _ _ _ _ _ _ rfl (by kernel_rfl) o9 (.cons _ _ _ _ _ _ rfl (by kernel_rfl) o2 (.nil _))) (fun _=>trivial)
theorem Uj(hB:Bs W):od Tryz.prog U W 79 (.sl (.st 6)):=rR (z:=2) hB Tryz.underlying79 rfl (by kernel_rfl) (by decide) Ui
theorem So(hB:Bs W):od Tryz.prog U W 81 (.st 7):=ka Tryz.underlying81 (by kernel_rfl) (.cons _ _ _ _ _ _ rfl (by kernel_rfl) o3 (.cons _ _ _ _ _ _ rfl (by kernel_rfl) o2 (.cons _ _ _ _ _ _ rfl (by kernel_rfl) (Uj hB) (.nil _)))) (fun _=>trivial)
theorem Qg(hB:Bs W):od Tryz.prog U W 104 (.st 8):=ka Tryz.underlying104 (by kernel_rfl) (.cons _ _ _ _ _ _ rfl (by kernel_rfl) o9 (.cons _ _ _ _ _ _ rfl (by kernel_rfl) o3 (.cons _ _ _ _ _ _ rfl (by kernel_rfl) (So hB) (.nil _)))) (fun _=>trivial)
theorem Uk(hB:Bs W):od Tryz.prog U W 94 (.sl (.st 3)):=rR (z:=17) hB Tryz.underlying94 rfl (by kernel_rfl) (by decide) Uh
theorem Ul(hB:Bs W):od Tryz.prog U W 95 (.sl (.st 8)):=rR (z:=5) hB Tryz.underlying95 rfl (by kernel_rfl) (by decide) (Qg hB)
theorem Um(hB:Bs W):od Tryz.prog U W 97 (.st 9):=ka Tryz.underlying97 (by kernel_rfl) (.cons _ _ _ _ _ _ rfl (by kernel_rfl) Sm (.cons _ _ _ _ _ _ rfl (by kernel_rfl) Sn (.cons _ _ _ _ _ _ rfl (by kernel_rfl) o3 (.cons _ _ _ _ _ _ rfl (by kernel_rfl) (Uk hB) (.cons _ _ _ _ _ _ rfl (by kernel_rfl) (Ul hB) (.nil _)))))) (fun _=>trivial)
theorem Un(hB:Bs W):od Tryz.prog U W 86 (.sl (.st 9)):=rR (z:=13) hB Tryz.underlying86 rfl (by kernel_rfl) (by decide) (Um hB)
end
section
variable {Y:List Nat} {S:World→Prop}
end
end Go.Proofs.YtmpeiadlohbikaaGreatDoor.V
end

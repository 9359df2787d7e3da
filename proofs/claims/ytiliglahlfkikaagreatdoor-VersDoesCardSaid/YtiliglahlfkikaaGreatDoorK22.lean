/- Functions walked: printed by the walker. -/
import Derived.Test.YtiliglahlfkikaaGreatDoorK21
import Derived.Test.YtiliglahlfkikaaGreatDoorK19
import Derived.Test.YtiliglahlfkikaaGreatDoorK14
section
set_option linter.unusedVariables false
set_option linter.unusedSimpArgs false
namespace Go.Proofs.YtiliglahlfkikaaGreatDoor.V
open Go.RowKit Go.Shelf Go.Lib Go.Sort
theorem sD(a:Int):j6 a=cX a:=rfl
theorem v8(o:sZ):gy o=fz o:=by
 obtain⟨act,name,val⟩:=o;unfold gy fz;rw[sD];dsimp only;by_cases h1:act=1
 ·subst h1;simp[bL,cX,ez]
 by_cases h2:act=2
 ·subst h2;simp[bL,cX,ez]
 by_cases h3:act=3
 ·subst h3;simp[bL,cX,ez]
 by_cases h4:act=4
 ·subst h4;simp[bL,cX,ez]
 by_cases h5:act=5
 ·subst h5;simp[bL,cX,ez]
 by_cases h6:act=6
 ·subst h6;simp[bL,cX,ez]
 simp[cX,h1,h2,h3,h4,h5,h6]
structure ka(e:af):Prop where
 tag:fM e.tag
 tags: ∀t∈e.tags,fM t
 time:0≤e.at_.time
theorem Hd(a:Int):(bL a).at_=dE a:=by
 unfold bL dE;by_cases h5:a=5
 ·subst h5;rfl
 by_cases h1:a=1
 ·subst h1;rfl
 simp only[h1,h5,if_false,decide_false,Bool.or_self]
 repeat' split
 all_goals rfl
theorem Aw(a:Int):(bL a).tags=gq a:=by
 unfold bL gq;by_cases h4:a=4
 ·subst h4;rfl
 by_cases h6:a=6
 ·subst h6;rfl
 simp only[h4,h6,if_false,decide_false,Bool.or_self]
 repeat' split
 all_goals rfl
theorem wa{s:au}(h:0≤s.time):jb s=true↔(cx s=0∧ ¬s.time=0):=by
 unfold jb;rw[lU];by_cases e:cx s=0
 ·simp[e];omega
 ·simp[e]
theorem q9{e:af}(h:ka e):fD e=dV e:=by
 unfold fD dV;rw[v8];split
 ·have k1:(dH e.tag=true∨(ba e.tags fun(t:ae)=>dH t)=true)↔ ¬(ay e.tag=0∧e.tags.all (fun t=>decide (ay t=0))=true):=by
   have b1:(dH e.tag=true)↔ ¬ay e.tag=0:=by unfold dH;rw[jO h.tag];simp
   have b2:(ba e.tags fun(t:ae)=>dH t)=!e.tags.all (fun t=>decide (ay t=0)):=by
    rw[cT,←ec];exact hU h.tags dH (fun _=>rfl)
   rw[b1,b2];by_cases x:ay e.tag=0<;>by_cases y:e.tags.all (fun t=>decide (ay t=0))=true<;>simp[x,y]
  obtain⟨q1,l1⟩:=cN e.tags (fun t=>decide (ay t=0)) 2 (fj e) (fun fuel i _=>by rw[fj];simp only[decide_eq_true_eq]);by_cases c1:ay e.tag=0
  ·by_cases c2:e.tags.all (fun t=>decide (ay t=0))=true
   ·rw[if_neg (fun q=>k1.1 q ⟨c1,c2⟩),if_pos c1,l1,if_pos c2];simp only;split
    ·rfl
    ·have k2:(((bL e.act).at_=true∧ ¬jb e.at_=true)∨(¬(bL e.act).at_=true∧ ¬e.at_=au.mk 0 0))∨(¬(bL e.act).tags=true∧(0:Int)<(e.tags.length:Int))↔((dE e.act=true∧(¬cx e.at_=0∨e.at_.time=0))∨(¬dE e.act=true∧ ¬e.at_=au.mk 0 0))∨(¬gq e.act=true∧(0:Int)<(e.tags.length:Int)):=by
      rw[Hd,Aw,wa h.time];by_cases x:dE e.act=true<;>by_cases y:cx e.at_=0<;>by_cases z:e.at_.time=0<;>simp[x,y,z]
     by_cases c3:((dE e.act=true∧(¬cx e.at_=0∨e.at_.time=0))∨(¬dE e.act=true∧ ¬e.at_=au.mk 0 0))∨(¬gq e.act=true∧(0:Int)<(e.tags.length:Int))
     ·rw[if_pos (k2.2 c3),if_pos c3]
     ·rw[if_neg (fun q=>c3 (k2.1 q)),if_neg c3];have v: ∀t∈e.tags,eQ t:=fun t ht=>by
       rw[List.all_eq_true]at c2;exact j7 (by simpa using c2 t ht)
      have key: ∀fuel (i:Int),1≤i→gp e fuel i=fh e fuel i:=by
       intro fuel;induction fuel with
       |zero=>intro i _;rfl
       |succ fuel ih=>
        intro i hi;rw[gp,fh,ih (i+1) (by omega)];split
        ·rw[bE (v _ (cG _ (by omega) (by omega))) (v _ (cG _ (by omega) (by omega))),bM]
        ·rfl
      rw[key _ 1 (by omega)];rfl
   ·rw[if_pos (k1.2 fun q=>c2 q.2),if_pos c1,l1,if_neg c2]
  ·rw[if_pos (k1.2 fun q=>c1 q.1),if_neg c1]
 ·rfl
structure oB(s:az):Prop where
 set:iC s.set
 map:iE s.map
theorem pP{s:az}(h:oB s){e:af}(he:ka e):a8 s e=ar s e:=by
 unfold a8 ar;rw[q9 he,sD];have q1:=De h.set (a:=aT.mk e.tag e.name) he.tag;have q2:=uo h.set he.tags;have q3:=yd h.map (p:=bI.mk e.tag e.name e.val e.at_) he.tag;have q4:=Ap h.map he.tags;simp only[bt,yg,yh,q1,q2,q3,q4]
theorem pQ{s:az}(h:oB s)(v:List Int):bw s v=bk s v:=by
 unfold bw bk;have q1:=ur h.set v;have q2:=ut h.map v;simp only[bt,q1,q2]
theorem uz{α:Type}{s:List α}{i:Int}{a x:α}(h:x∈gQ s i [a]):x=a∨x∈s:=by
 unfold gQ at h;rcases List.mem_append.1 h with h|h
 ·rcases List.mem_append.1 h with h|h
  ·exact .inr (List.mem_of_mem_take h)
  ·exact .inl (List.mem_singleton.1 h)
 ·exact .inr (List.mem_of_mem_drop h)
theorem iC.nil:iC ⟨[],[]⟩:=⟨fun _ h=>(by cases h),fun _ h=>(by cases h)⟩
theorem iE.nil:iE ⟨[],[]⟩:=⟨fun _ h=>(by cases h),fun _ h=>(by cases h)⟩
theorem pR{l:List ae}{x:ae}(h:x∈dd (bu (fun(t t':ae)=>ab t t') l)):x∈l:=((ma l).2 x).1 h
theorem Dj{s:aC}(h:iC s){a:aT}(ha:fM a.tag):iC (iH s a).1:=by
 unfold iH
 repeat' split
 all_goals first|exact iC.nil|exact h|exact⟨fun x hx=>(uz hx).elim (fun e=>e▸ha) (h.adds x),h.gone⟩
theorem Ax{s:aC}(h:iC s){l:List ae}(hl: ∀t∈l,fM t):iC (fF s l).1:=by
 unfold fF
 repeat' split
 all_goals first|exact iC.nil|exact⟨fun x hx=>h.adds x (List.mem_filter.1 hx).1,fun x hx=>(List.mem_append.1 (pR hx)).elim (h.gone x) (hl x)⟩
theorem uA{s:aC}(h:iC s)(v:List Int):iC (db s v).1:=by
 unfold db
 repeat' split
 all_goals first|exact iC.nil|exact⟨h.adds,fun x hx=>h.gone x (List.mem_filter.1 hx).1⟩
theorem yq{s:aD}(h:iE s){p:bI}(ha:fM p.tag):iE (eI s p).1:=by
 unfold eI;rw[show fP s=(s.puts,s.gone)from rfl]
 repeat' split
 all_goals first|exact iE.nil|exact h|exact⟨fun x hx=>(uz hx).elim (fun e=>e▸ha) (h.puts x),h.gone⟩
theorem Ay{s:aD}(h:iE s){l:List ae}(hl: ∀t∈l,fM t):iE (gc s l).1:=by
 unfold gc
 repeat' split
 all_goals first|exact iE.nil|exact⟨fun x hx=>h.puts x (List.mem_filter.1 hx).1,fun x hx=>(List.mem_append.1 (pR hx)).elim (h.gone x) (hl x)⟩
theorem uB{s:aD}(h:iE s)(v:List Int):iE (de s v).1:=by
 unfold de;rw[show fP s=(s.puts,s.gone)from rfl]
 repeat' split
 all_goals first|exact iE.nil|exact⟨h.puts,fun x hx=>h.gone x (List.mem_filter.1 hx).1⟩
def NP:az:=az.mk 0 (bi.mk 0 (au.mk 0 0)) (be.mk 0 0) (aC.mk [] []) (aD.mk [] [])
theorem oB.zero(k:Int)(r:bi)(n:be):oB (az.mk k r n (aC.mk [] []) (aD.mk [] [])):=⟨iC.nil,iE.nil⟩
theorem oB.ite{c:Prop} [Decidable c]{a b:az×Int}(ha:oB a.1)(hb:oB b.1):oB (if c then a else b).1:=by
 by_cases h:c
 ·rw[if_pos h];exact ha
 ·rw[if_neg h];exact hb
theorem pS{s:az}(h:oB s){e:af}(he:ka e):oB (a8 s e).1:=by
 have h1:=Dj h.set (a:=aT.mk e.tag e.name) he.tag;have h2:=Ax h.set he.tags;have h3:=yq h.map (p:=bI.mk e.tag e.name e.val e.at_) he.tag;have h4:=Ay h.map he.tags;unfold a8;simp only[bt]
 repeat' (first|exact oB.zero _ _ _|exact h|exact⟨h.set,h.map⟩|exact⟨h1,h.map⟩|exact⟨h2,h.map⟩|exact⟨h.set,h3⟩|exact⟨h.set,h4⟩|refine oB.ite ?_ ?_)
theorem wb{s:az}(h:oB s)(v:List Int):oB (bw s v).1:=by
 have h1:=uA h.set v;have h2:=uB h.map v;unfold bw;simp only[bt]
 repeat' (first|exact oB.zero _ _ _|exact h|exact⟨h1,h.map⟩|exact⟨h.set,h2⟩|refine oB.ite ?_ ?_)
end Go.Proofs.YtiliglahlfkikaaGreatDoor.V
end

section
set_option linter.unusedVariables false
set_option linter.unusedSimpArgs false
set_option maxRecDepth 20000
set_option maxHeartbeats 4000000
namespace Go.Proofs.YtiliglahlfkikaaGreatDoor.V
open Go.RowKit
def dO(c:Int):Bool:=
 decide (127<c)||!jr (c%256)
def Rf:bf U:=⟨[.d (.int .i32)],fun xs es K=> ∃(c:Int),xs= [⟨false,[(1,.d (.int .i32) c)]⟩]∧es= []∧K (.v (vb (dO c))) []⟩
theorem Rg:Fk 69 Rf:=by
 refine fo Tryz.f69 [.d .bool] [] (aa Qf ah) fun xs es K=>?_;rintro⟨c,rfl,rfl,h⟩;refine⟨rfl,?_⟩;have hf0:=dO.eq_1 c;refine .inr ?_;refine⟨_,fun _=>⟨_,rfl,rfl,rfl,rfl⟩,rfl,?_⟩;exact e0
def jw(s:List UInt8):Nat→Int→(Int×Int)⊕(Int)
 |0,s14=> .inr s14
 |n1+1,s14=>
  if s14<((Lib.split s [(47:UInt8)]).length:Int)then
   if(ix (Lib.split s [(47:UInt8)]) s14= [])∨(0≤fU (ix (Lib.split s [(47:UInt8)]) s14) fun(t:Int)=>dO t)then
    .inl (0,3)
   else
    jw s n1 (s14+1)
  else
   .inr s14
def gg(s:List UInt8):Int×Int:=
 if 24<(s.length:Int)then
  (0,8)
 else
  match jw s ((((Lib.split s [(47:UInt8)]).length:Int)- 0).toNat+1) 0 with
  | .inl r=>r
  | .inr s14=>
   if((ix (ix (Lib.split s [(47:UInt8)]) (((Lib.split s [(47:UInt8)]).length:Int)- 1)) 0).toNat:Int)=114 then
    (1,0)
   else
    if((ix (ix (Lib.split s [(47:UInt8)]) (((Lib.split s [(47:UInt8)]).length:Int)- 1)) 0).toNat:Int)=99 then
     (2,0)
    else
     if((ix (ix (Lib.split s [(47:UInt8)]) (((Lib.split s [(47:UInt8)]).length:Int)- 1)) 0).toNat:Int)=115 then
      (3,0)
     else
      if((ix (ix (Lib.split s [(47:UInt8)]) (((Lib.split s [(47:UInt8)]).length:Int)- 1)) 0).toNat:Int)=109 then
       (4,0)
      else
       (0,5)
def Rh:bf U:=⟨[.d .str],fun xs es K=> ∃(s:List UInt8),xs= [(vt s)]∧es= []∧(s.length≤1000000)∧K (.tup [(vi ((gg s).1)),(vi ((gg s).2))]) []⟩
theorem O6:Fk 31 Rh:=by
 refine fo Tryz.f31 [.d (.int .i64),.d (.int .i64)] [] (aa RC (aa RF (aa Rg ah))) fun xs es K=>?_;rintro⟨s,rfl,rfl,h1,h⟩;refine⟨rfl,?_⟩;have hf0:=gg.eq_1 s;refine fl (x:=s.length) fun _=>?_;refine wI hf0 (fun h1 hf0=>e0) fun h1 hf0=>?_;refine⟨_,_,rfl,rfl,(by omega),(by(simp only[List.length_append,List.length_cons,List.length_nil];omega)),?_⟩;refine fl (x:=(Lib.split s [(47:UInt8)]).length) fun _=>?_;refine lI 0 (fun(s14:Int)=> [(2,.v (vi 0)),(3,.v (vi 0)),(4,.v (Lk (Lib.split s [(47:UInt8)]))),(12,.v (Lk (Lib.split s [(47:UInt8)]))),(13,.v (vi ((Lib.split s [(47:UInt8)]).length:Int))),(14,.v (vi s14))]) (fun(s14:Int)=> []) (fun(s14:Int)=>(((Lib.split s [(47:UInt8)]).length:Int)- s14).toNat) (fun(s14:Int)=>(0≤s14)∧(s14≤((Lib.split s [(47:UInt8)]).length:Int))∧(∀j:Int,0≤j→j<s14→ix (Lib.split s [(47:UInt8)]) j≠ [])∧True) (fun n1 (s14:Int)=>jw s n1 s14) (jw s ((((Lib.split s [(47:UInt8)]).length:Int)- 0).toNat+1) 0) [] (0:Int) ?_ (hi:=⟨show(0:Int)≤(0:Int)from by omega,show(0:Int)≤(↑(Lib.split s [(47:UInt8)]).length:Int)from by omega,show ∀(j:Int),(0:Int)≤j→j<(0:Int)→ix (Lib.split s [(47:UInt8)]) j≠ []from by omega,trivial⟩);rintro s14 ⟨n1,hc1,⟨hi1_0,hi1_1,hi1_2,-⟩,hf1⟩;have hf1:=hf1.trans (jw.eq_2 s s14 n1);refine wI hf1 (fun _ hf1=>?_) fun _ hf1=>?_
 ·refine vx s14 (Lib.split s [(47:UInt8)]) ?_;refine⟨_,fun _=>⟨fun(t:Int)=>dO t,fun t0=>⟨_,rfl,rfl,rfl,rfl⟩,_,_,rfl,rfl,rfl,rfl⟩,rfl,?_⟩;refine wI hf1 (fun _ hf1=>e1) fun _ hf1=>?_;refine bY ?_;exact nx [] (s14+1) hc1 hf1 (hi:=⟨show(0:Int)≤s14+(1:Int)from by omega,show s14+(1:Int)≤(↑(Lib.split s [(47:UInt8)]).length:Int)from by omega,show ∀(j:Int),(0:Int)≤j→j<s14+(1:Int)→ix (Lib.split s [(47:UInt8)]) j≠ []from by(intro j hj1 hj2;rcases(show j<s14∨j=s14 by omega)with hh|rfl;(· exact hi1_2 j hj1 hh);(· intro he;simp_all)),trivial⟩)
 ·rw[hf1]at hf0;refine fl (x:=(Lib.split s [(47:UInt8)]).length) fun _=>?_;refine bY ?_;refine vs (P:=0≤((Lib.split s [(47:UInt8)]).length:Int)- 1∧((Lib.split s [(47:UInt8)]).length:Int)- 1<((Lib.split s [(47:UInt8)]).length:Int)) ?_ (by(have hp:=mq (s:=s) (sep:= [(47:UInt8)]) (by decide);omega));refine vs (P:=(0:Int)≤(0:Int)∧(0:Int)<((ix (Lib.split s [(47:UInt8)]) (((Lib.split s [(47:UInt8)]).length:Int)-(1:Int))).length:Int)) ?_ (by(have hp:=mq (s:=s) (sep:= [(47:UInt8)]) (by decide);have hq:=hi1_2 ((↑(Lib.split s [(47:UInt8)]).length:Int)- 1) (by omega) (by omega);have:=List.length_pos_iff.2 hq;omega));exact wI hf0 (fun _ hf0=>e0) fun _ hf0=>wI hf0 (fun _ hf0=>e0) fun _ hf0=>wI hf0 (fun _ hf0=>e0) fun _ hf0=>wI hf0 (fun _ hf0=>e0) fun _ hf0=>e0
def eL(s:List UInt8):Nat→Int→Int→Int→(Int×Int)⊕(Int×Int×Int)
 |0,s4,s5,s6=> .inr (s4,s5,s6)
 |n1+1,s4,s5,s6=>
  if s6<(s.length:Int)then
   if((97≤((ix s s6).toNat:Int))∧(((ix s s6).toNat:Int)≤122))∨((48≤((ix s s6).toNat:Int))∧(((ix s s6).toNat:Int)≤57))then
    if s5=0 then
     eL s n1 ((ix s s6).toNat:Int) (s5+1) (s6+1)
    else
     eL s n1 s4 (IntKind.i64.wrap (s5+1)) (s6+1)
   else
    if(((ix s s6).toNat:Int)=47)∧(0<s5)then
     eL s n1 s4 0 (s6+1)
    else
     .inl (0,3)
  else
   .inr (s4,s5,s6)
def dh(s:List UInt8):Int×Int:=
 if 24<(s.length:Int)then
  (0,8)
 else
  match eL s (((s.length:Int)- 0).toNat+1) 0 0 0 with
  | .inl r=>r
  | .inr (s4,s5,s6)=>
   if s5=0 then
    (0,3)
   else
    if s4=114 then
     (1,0)
    else
     if s4=99 then
      (2,0)
     else
      if s4=115 then
       (3,0)
      else
       if s4=109 then
        (4,0)
       else
        (0,5)
def Ri:bf U:=⟨[.d .str],fun xs es K=> ∃(s:List UInt8),xs= [(vt s)]∧es= []∧K (.tup [(vi ((dh s).1)),(vi ((dh s).2))]) []⟩
theorem Rj:Fk 33 Ri:=by
 refine fo Tryz.f33 [.d (.int .i64),.d (.int .i64)] [] (ah) fun xs es K=>?_;rintro⟨s,rfl,rfl,h⟩;refine⟨rfl,?_⟩;have hf0:=dh.eq_1 s;refine fl (x:=s.length) fun _=>?_;refine wI hf0 (fun _ hf0=>e0) fun _ hf0=>?_;refine lI (σ:=Int×Int×Int) 0 (fun(s4,s5,s6)=> [(0,.v (vt s)),(2,.v (vi 0)),(3,.v (vi 0)),(4,.v (vc s4)),(5,.v (vi s5)),(6,.v (vi s6))]) (fun(s4,s5,s6)=> []) (fun(s4,s5,s6)=>((s.length:Int)- s6).toNat) (fun(s4,s5,s6)=>(0≤s6)∧(s6≤(s.length:Int))∧True) (fun n1 (s4,s5,s6)=>eL s n1 s4 s5 s6) (eL s (((s.length:Int)- 0).toNat+1) 0 0 0) [] ((0:Int),(0:Int),(0:Int)) ?_;rintro⟨s4,s5,s6⟩ ⟨n1,hc1,⟨hi1_0,hi1_1,-⟩,hf1⟩;have hf1:=hf1.trans (eL.eq_2 s s4 s5 s6 n1);refine fl (x:=s.length) fun _=>?_;refine wI hf1 (fun _ hf1=>?_) fun _ hf1=>?_
 ·refine vx s6 s ?_;refine wI hf1 (fun _ hf1=>?_) fun _ hf1=>?_
  ·refine wI hf1 (fun _ hf1=>?_) fun _ hf1=>?_
   ·refine bY ?_;refine bY ?_;exact nx (s:=(s4,s5,s6)) [] (((ix s s6).toNat:Int),s5+1,s6+1) hc1 hf1
   ·refine .inr ?_;refine bY ?_;exact nx (s:=(s4,s5,s6)) [] (s4,IntKind.i64.wrap (s5+1),s6+1) hc1 hf1
  ·refine wI hf1 (fun _ hf1=>?_) fun _ hf1=>e1;refine bY ?_;exact nx (s:=(s4,s5,s6)) [] (s4,0,s6+1) hc1 hf1
 ·rw[hf1]at hf0;exact wI hf0 (fun _ hf0=>e0) fun _ hf0=>wI hf0 (fun _ hf0=>e0) fun _ hf0=>wI hf0 (fun _ hf0=>e0) fun _ hf0=>wI hf0 (fun _ hf0=>e0) fun _ hf0=>wI hf0 (fun _ hf0=>e0) fun _ hf0=>e0
end Go.Proofs.YtiliglahlfkikaaGreatDoor.V
end

section
set_option linter.unusedVariables false
set_option linter.unusedSimpArgs false
set_option maxRecDepth 20000
set_option maxHeartbeats 4000000
namespace Go.Proofs.YtiliglahlfkikaaGreatDoor.V
open Go.RowKit
theorem dI{α β:Type} [DecidableEq α]: ∀(m:List (α×β)) (x:α) (v:β),(iI m x v).length≤m.length+1
 | [],x,v=>by simp[iI]
 |(k,y)::m,x,v=>by
  unfold iI;split
  ·simp
  ·have:=dI m x v;simp;omega
def cd{α β:Type}(m:List (α×β)):Prop:=(m.map (·.1)).Nodup
theorem qU{α β:Type} [DecidableEq α]: ∀(m:List (α×β)) (k:α) (v:β),(iI m k v).map (·.1)=if k∈m.map (·.1)then m.map (·.1)else m.map (·.1)++ [k]
 | [],k,v=>by simp[iI]
 |e::r,k,v=>by
  unfold iI;split
  ·rename_i h;rw[if_pos (by simp[h])];simp[h]
  ·rename_i h;rw[List.map_cons,qU r k v,List.map_cons];by_cases q:k∈r.map (·.1)
   ·rw[if_pos q,if_pos (by simp[q])]
   ·rw[if_neg q,if_neg (by rw[List.mem_cons];rintro(g|g);exact h g.symm;exact q g)];rfl
theorem kF{α β:Type} [DecidableEq α]{m:List (α×β)}(h:cd m)(k:α)(v:β):cd (iI m k v):=by
 unfold cd at*;rw[qU];split
 ·exact h
 ·rename_i q;rw[List.nodup_append];refine⟨h,by simp,fun a ha b hb e=>?_⟩;simp at hb;subst hb;subst e;exact q ha
theorem oa{α β:Type}{m:List (α×β)}(h:cd m)(p:α×β→Bool):cd (m.filter p):=List.Nodup.sublist (List.filter_sublist.map _) h
def C7(s:az)(b:List Int)(ap:List (ae×af))(sn:List (ae×Bool)):Unit:=
 ()
def Q6:bf U:=⟨[.p [(10,some (.st 10)),(8,some (.arr 8 (.int .u32))),(1,none),(1,none)]],fun xs es K=> ∃(s:az) (b:List Int) (ap:List (ae×af)) (sn:List (ae×Bool)),xs= [(vp 0)]∧es= [.cells [(10,.d (.st 10) s),(8,.d (.arr 8 (.int .u32)) b),(1,.mp 1),(1,.mp 2)] 109,.map bT ap,.map cZ sn]∧K (.v (ic b)) [.cells [(10,.d (.st 10) s),(8,.d (.arr 8 (.int .u32)) b),(1,.mp 1),(1,.mp 2)] 109,.map bT ap,.map cZ sn]⟩
theorem G3:Fk 20 Q6:=by
 refine fo Tryz.f20 [.d (.arr 8 (.int .u32))] [(0,[(10,some (.st 10)),(8,some (.arr 8 (.int .u32))),(1,none),(1,none)])] (ah) fun xs es K=>?_;rintro⟨s,b,ap,sn,rfl,rfl,h⟩;refine⟨rfl,?_⟩;have hf0:=C7.eq_1 s b ap sn;exact h
def eu(s:az)(b:List Int)(ap:List (ae×af))(sn:List (ae×Bool)):Int:=
 (ap.length:Int)
def Q7:bf U:=⟨[.p [(10,some (.st 10)),(8,some (.arr 8 (.int .u32))),(1,none),(1,none)]],fun xs es K=> ∃(s:az) (b:List Int) (ap:List (ae×af)) (sn:List (ae×Bool)),xs= [(vp 0)]∧es= [.cells [(10,.d (.st 10) s),(8,.d (.arr 8 (.int .u32)) b),(1,.mp 1),(1,.mp 2)] 109,.map bT ap,.map cZ sn]∧(ap.length≤1000000)∧K (.v (vi (eu s b ap sn))) [.cells [(10,.d (.st 10) s),(8,.d (.arr 8 (.int .u32)) b),(1,.mp 1),(1,.mp 2)] 109,.map bT ap,.map cZ sn]⟩
theorem G4:Fk 21 Q7:=by
 refine fo Tryz.f21 [.d (.int .i64)] [(0,[(10,some (.st 10)),(8,some (.arr 8 (.int .u32))),(1,none),(1,none)])] (ah) fun xs es K=>?_;rintro⟨s,b,ap,sn,rfl,rfl,h1,h⟩;refine⟨rfl,?_⟩;have hf0:=eu.eq_1 s b ap sn;refine vs (P:=(ap.length:Int)≤9223372036854775807) ?_;refine fl (x:=ap.length) fun _=>?_;exact e0
def g9(s:az)(b:List Int)(ap:List (ae×af))(sn:List (ae×Bool))(t:ae):Bool:=
 (dP sn t).getD cZ.zero
def Q8:bf U:=⟨[.p [(10,some (.st 10)),(8,some (.arr 8 (.int .u32))),(1,none),(1,none)],.d (.st 1)],fun xs es K=> ∃(s:az) (b:List Int) (ap:List (ae×af)) (sn:List (ae×Bool)) (t:ae),xs= [(vp 0),(qF t)]∧es= [.cells [(10,.d (.st 10) s),(8,.d (.arr 8 (.int .u32)) b),(1,.mp 1),(1,.mp 2)] 109,.map bT ap,.map cZ sn]∧K (.v (vb (g9 s b ap sn t))) [.cells [(10,.d (.st 10) s),(8,.d (.arr 8 (.int .u32)) b),(1,.mp 1),(1,.mp 2)] 109,.map bT ap,.map cZ sn]⟩
theorem NK:Fk 22 Q8:=by
 refine fo Tryz.f22 [.d .bool] [(0,[(10,some (.st 10)),(8,some (.arr 8 (.int .u32))),(1,none),(1,none)])] (ah) fun xs es K=>?_;rintro⟨s,b,ap,sn,t,rfl,rfl,h⟩;refine⟨rfl,?_⟩;have hf0:=g9.eq_1 s b ap sn t;refine dp (up 7) none (nw 4) ?_;exact e0
def mw(key:List UInt8):Int⊕(Int×az×(List Int)×(List (ae×af))×(List (ae×Bool))):=
 if(gg key).snd=0 then
  (.inr ((iT (gg key).fst).snd,(iT (gg key).fst).fst,[0,0,0,0,0,0,0,0],[],[]))
 else
  (.inl (gg key).snd)
def c6:bf U:=⟨[.d .str],fun xs es K=> ∃(key:List UInt8),xs= [(vt key)]∧es= []∧(key.length≤1000000)∧V2 (∀r0,mw key= .inl r0→(¬r0=0)→K (.tup [⟨false,[(1,Cx.nilp)]⟩,(vi r0)]) []) (∀r0 r1 r2 r3 r4,mw key= .inr (r0,r1,r2,r3,r4)→(r1.set.adds.length≤4097∧r1.set.gone.length≤4097∧r1.map.puts.length≤4097∧r1.map.gone.length≤4097∧r3.length≤0∧r4.length≤0∧cd r3)→K (.tup [(vp 0),(vi r0)]) [.cells [(10,.d (.st 10) r1),(8,.d (.arr 8 (.int .u32)) r2),(1,.mp 1),(1,.mp 2)] 109,.map bT r3,.map cZ r4])⟩
theorem k6:Fk 6 c6:=by
 refine fo Tryz.f6 [.p [(10,some (.st 10)),(8,some (.arr 8 (.int .u32))),(1,none),(1,none)],.d (.int .i64)] [] (aa O6 (aa Ns ah)) fun xs es K=>?_;rintro⟨key,rfl,rfl,h1,h⟩;refine⟨rfl,?_⟩;have hf0:=mw.eq_1 key;refine⟨_,rfl,rfl,(by omega),?_⟩;refine vN hf0 iD (fun _ hf0=>?_) (fun _ hf0=>?_)
 ·exact h.1 _ hf0 (show((fun(r0:Int)=> ¬r0=0) ((gg key).snd):Prop)from by omega)
 ·refine⟨_,rfl,rfl,?_⟩;exact h.2 _ _ _ _ _ hf0 (show((fun(r0:Int) (r1:az) (r2:List Int) (r3:List (ae×af)) (r4:List (ae×Bool))=>r1.set.adds.length≤4097∧r1.set.gone.length≤4097∧r1.map.puts.length≤4097∧r1.map.gone.length≤4097∧r3.length≤0∧r4.length≤0∧cd r3) ((iT (gg key).fst).snd) ((iT (gg key).fst).fst) ([(0:Int),(0:Int),(0:Int),(0:Int),(0:Int),(0:Int),(0:Int),(0:Int)]) [] []:Prop)from by(refine⟨?_,?_,?_,?_,by simp,by simp,List.nodup_nil⟩<;>(unfold iT;split<;>simp)))
def d4(s:az)(b:List Int)(ap:List (ae×af))(sn:List (ae×Bool)):az:=
 jv s
def Q9:bf U:=⟨[.p [(10,some (.st 10)),(8,some (.arr 8 (.int .u32))),(1,none),(1,none)]],fun xs es K=> ∃(s:az) (b:List Int) (ap:List (ae×af)) (sn:List (ae×Bool)),xs= [(vp 0)]∧es= [.cells [(10,.d (.st 10) s),(8,.d (.arr 8 (.int .u32)) b),(1,.mp 1),(1,.mp 2)] 109,.map bT ap,.map cZ sn]∧(s.set.adds.length≤4097)∧(s.set.gone.length≤4097)∧(s.map.puts.length≤4097)∧(s.map.gone.length≤4097)∧(ap.length≤100000)∧(sn.length≤100000)∧K (.v (vp 3)) [.cells [(10,.d (.st 10) s),(8,.d (.arr 8 (.int .u32)) b),(1,.mp 1),(1,.mp 2)] 109,.map bT ap,.map cZ sn,.cells [(10,.d (.st 10) (d4 s b ap sn)),(8,.d (.arr 8 (.int .u32)) b),(1,.mp 4),(1,.mp 5)] 109,.map bT ap,.map cZ sn]⟩
theorem EP:Fk 19 Q9:=by
 refine fo Tryz.f19 [.p [(10,some (.st 10)),(8,some (.arr 8 (.int .u32))),(1,none),(1,none)]] [(0,[(10,some (.st 10)),(8,some (.arr 8 (.int .u32))),(1,none),(1,none)])] (aa O2 (aa RH (aa RJ ah))) fun xs es K=>?_;rintro⟨s,b,ap,sn,rfl,rfl,h1,h2,h3,h4,h5,h6,h⟩;refine⟨rfl,?_⟩;have hf0:=d4.eq_1 s b ap sn;refine dp [(true,0),(true,1),(true,2),(true,3),(true,5),(true,6),(true,7),(true,8),(true,9),(true,10),(true,11),(true,12),(true,14),(true,15),(true,16),(true,17),(false,4),(false,13),(false,18),(true,19),(false,20),(true,21)] none (1::2::nw 3) ?_;refine⟨_,rfl,rfl,(by omega),(by omega),(by omega),(by omega),?_⟩;refine⟨_,rfl,rfl,?_⟩;refine⟨_,rfl,rfl,?_⟩;exact e0
def C8(ap:List (ae×af)):Unit:=
 ()
def NL:bf U:=⟨[.n],fun xs es K=> ∃(ap:List (ae×af)),xs= [⟨false,[(1,.mp 0)]⟩]∧es= [.map bT ap]∧K (.v ⟨false,[(1,Cx.clo (162:Nat) [(0:Nat)+(1:Nat)])]⟩) [.map bT ap,.cells [(1,.mp 0)] 106]⟩
theorem NM:Fk 102 NL:=by
 refine fo Tryz.f102 [.n] [] (ah) fun xs es K=>?_;rintro⟨ap,rfl,rfl,h⟩;refine⟨rfl,?_⟩;have hf0:=C8.eq_1 ap;exact h
def aO(s:az)(b:List Int)(ap:List (ae×af))(sn:List (ae×Bool))(e:af):Int×az×(List (ae×af))×(List (ae×Bool)):=
 if fD e=0 then
  if j6 e.act=s.kind then
   if(dP sn e.tag).getD cZ.zero=true then
    (11,s,ap,sn)
   else
    if(sn.length:Int)=4096 then
     (4,s,ap,sn)
    else
     if dG b e.tag.id=true then
      if(a8 s e).snd=0 then
       (0,(a8 s e).fst,ap,iI sn e.tag true)
      else
       ((a8 s e).snd,s,ap,sn)
     else
      (0,s,iI ap e.tag (ju e),iI sn e.tag true)
  else
   (5,s,ap,sn)
 else
  (fD e,s,ap,sn)
def c9:bf U:=⟨[.p [(10,some (.st 10)),(8,some (.arr 8 (.int .u32))),(1,none),(1,none)],.d (.st 3)],fun xs es K=> ∃(s:az) (b:List Int) (ap:List (ae×af)) (sn:List (ae×Bool)) (e:af),xs= [(vp 0),(BG e)]∧es= [.cells [(10,.d (.st 10) s),(8,.d (.arr 8 (.int .u32)) b),(1,.mp 1),(1,.mp 2)] 109,.map bT ap,.map cZ sn]∧(s.set.adds.length≤4097)∧(s.set.gone.length≤4097)∧(s.map.puts.length≤4097)∧(s.map.gone.length≤4097)∧(ap.length≤100000)∧(sn.length≤100000)∧(cd ap)∧((fun(r0:Int) (r1:az) (r3:List (ae×af)) (r4:List (ae×Bool))=>r1.set.adds.length≤4097∧r1.set.gone.length≤4097∧r1.map.puts.length≤4097∧r1.map.gone.length≤4097∧r3.length≤ap.length+1∧r4.length≤sn.length+1∧cd r3) ((aO s b ap sn e).1) ((aO s b ap sn e).2.1) ((aO s b ap sn e).2.2.1) ((aO s b ap sn e).2.2.2)→K (.v (vi ((aO s b ap sn e).1))) [.cells [(10,.d (.st 10) ((aO s b ap sn e).2.1)),(8,.d (.arr 8 (.int .u32)) b),(1,.mp 1),(1,.mp 2)] 109,.map bT ((aO s b ap sn e).2.2.1),.map cZ ((aO s b ap sn e).2.2.2)])⟩
theorem k9:Fk 9 c9:=by
 refine fo Tryz.f9 [.d (.int .i64)] [(0,[(10,some (.st 10)),(8,some (.arr 8 (.int .u32))),(1,none),(1,none)])] (aa OZ (aa Nr (aa Jg (aa O5 (aa QW ah))))) fun xs es K=>?_;rintro⟨s,b,ap,sn,e,rfl,rfl,h1,h2,h3,h4,h5,h6,h8,h⟩;refine⟨rfl,?_⟩;have hf0:=aO.eq_1 s b ap sn e;refine⟨_,rfl,rfl,?_⟩;refine fun _=>?_;refine wN hf0 (fun h1 hf0=>?_) fun h1 hf0=>?_
 ·rw[hf0]at h;exact h (by(have hm:=dI sn e.tag true;have hn:=dI ap e.tag (ju e);dsimp only;refine⟨?_,?_,?_,?_,?_,?_,?_⟩<;>first|omega|assumption|exact kF (by assumption) _ _))
 ·refine dp [(true,0),(true,1),(true,3),(true,4),(true,5),(true,6),(true,7),(false,2),(true,8),(true,9)] none (nw 4) ?_;refine⟨_,rfl,rfl,?_⟩;refine wN hf0 (fun h2 hf0=>?_) fun h2 hf0=>?_
  ·rw[hf0]at h;exact h (by(have hm:=dI sn e.tag true;have hn:=dI ap e.tag (ju e);dsimp only;refine⟨?_,?_,?_,?_,?_,?_,?_⟩<;>first|omega|assumption|exact kF (by assumption) _ _))
  ·refine dp (up 8) none (nw 4) ?_;refine wI hf0 (fun h3 hf0=>?_) fun h3 hf0=>?_
   ·rw[hf0]at h;exact h (by(have hm:=dI sn e.tag true;have hn:=dI ap e.tag (ju e);dsimp only;refine⟨?_,?_,?_,?_,?_,?_,?_⟩<;>first|omega|assumption|exact kF (by assumption) _ _))
   ·refine vs (P:=(sn.length:Int)≤9223372036854775807) ?_;refine fl (x:=sn.length) fun h4=>?_;refine wI hf0 (fun h5 hf0=>?_) fun h5 hf0=>?_
    ·rw[hf0]at h;exact h (by(have hm:=dI sn e.tag true;have hn:=dI ap e.tag (ju e);dsimp only;refine⟨?_,?_,?_,?_,?_,?_,?_⟩<;>first|omega|assumption|exact kF (by assumption) _ _))
    ·refine dp (up 7) (some 7) (nw 4) ?_;refine⟨_,_,rfl,rfl,?_⟩;refine wI hf0 (fun h6 hf0=>?_) fun h6 hf0=>?_
     ·refine .inr ⟨(.look 0 (.look 1 (.look 2 (.look 3 (.look 4 (.turn 5 (.look 6 (.look 7 (.look 8 (.turn 9 (.turn 10 .fin .nil) .nil)))) (.turn 9 (.turn 5 (.look 6 (.look 7 (.look 8 (.turn 10 .fin .nil)))) .nil) .nil))))))),some 11,[],5,[(0,.v ⟨false,[(1,.ptr 0 0)]⟩),(3,.v ⟨false,[(1,.ptr 3 0)]⟩),(4,.v ⟨false,[(1,.d (.int .i64) (0:Int))]⟩),(6,.v ⟨false,[(1,.ptr 4 0)]⟩),(7,.v ⟨false,[(1,.d (.int .i64) ((a8 s e).snd))]⟩)],[(0,.cells [(10,.d (.st 10) s),(8,.d (.arr 8 (.int .u32)) b),(1,.mp 1),(1,.mp 2)] 109),(1,.map bT ap),(2,.map cZ sn),(3,.cells [(9,.d (.st 3) e)] 47),(4,.cells [(10,.d (.st 10) ((a8 s e).fst))] 61)],((a8 s e).fst.set.adds.length≤(4097:Nat)∧(a8 s e).fst.set.gone.length≤(4097:Nat)∧(a8 s e).fst.map.puts.length≤(4097:Nat)∧(a8 s e).fst.map.gone.length≤(4097:Nat))∧True,by kernel_rfl,?_,?_⟩
      ·refine And.intro ?_ ?_
       ·refine⟨_,_,rfl,rfl,(by omega),(by omega),(by omega),(by omega),?_⟩;refine fun _=>?_;refine And.intro ?_ trivial;refine And.intro ?_ trivial;refine⟨⟨by assumption,trivial⟩,[],?_⟩;repeat (first|exact trivial|refine And.intro rfl ?_)
       refine And.intro ?_ trivial;refine And.intro ?_ trivial;refine⟨_,_,rfl,rfl,(by omega),(by omega),(by omega),(by omega),?_⟩;refine fun h8=>?_;refine And.intro ?_ trivial;refine⟨⟨by assumption,trivial⟩,[],?_⟩;repeat (first|exact trivial|refine And.intro rfl ?_)
      rintro⟨h9,-⟩;refine wN hf0 (fun _ hf0=>?_) fun _ hf0=>?_
      ·rw[hf0]at h;exact h (by(have hm:=dI sn e.tag true;have hn:=dI ap e.tag (ju e);dsimp only;refine⟨?_,?_,?_,?_,?_,?_,?_⟩<;>first|omega|assumption|exact kF (by assumption) _ _))
      ·refine dp (up 6) (some 6) (nw 5) ?_;rw[hf0]at h;exact h (by(have hm:=dI sn e.tag true;have hn:=dI ap e.tag (ju e);dsimp only;refine⟨?_,?_,?_,?_,?_,?_,?_⟩<;>first|omega|assumption|exact kF (by assumption) _ _))
     ·refine dp [(true,0),(true,1),(true,2),(true,3),(true,4),(true,5),(true,6),(false,7)] (some 8) (nw 4) ?_;refine⟨_,rfl,rfl,(by omega),?_⟩;refine dp (up 6) (some 6) (nw 5) ?_;rw[hf0]at h;exact h (by(have hm:=dI sn e.tag true;have hn:=dI ap e.tag (ju e);dsimp only;refine⟨?_,?_,?_,?_,?_,?_,?_⟩<;>first|omega|assumption|exact kF (by assumption) _ _))
def fm(s:az)(b:List Int)(ap:List (ae×af))(sn:List (ae×Bool))(v:List Int):Nat→Int→(List af)→(List af)⊕(Int×(List af))
 |0,s15,s5=> .inr (s15,s5)
 |n1+1,s15,s5=>
  if s15<((bu (fun(t t':ae)=>ab t t') (List.map (fun(x:ae×af)=>x.fst) ap)).length:Int)then
   if(dG v (ix (bu (fun(t t':ae)=>ab t t') (List.map (fun(x:ae×af)=>x.fst) ap)) s15).id)=true then
    fm s b ap sn v n1 (s15+1) (s5++ [(dP ap (ix (bu (fun(t t':ae)=>ab t t') (List.map (fun(x:ae×af)=>x.fst) ap)) s15)).getD bT.zero])
   else
    fm s b ap sn v n1 (s15+1) s5
  else
   .inr (s15,s5)
def aJ(s:az)(b:List Int)(ap:List (ae×af))(sn:List (ae×Bool))(v:List Int):List af:=
 match fm s b ap sn v ((((bu (fun(t t':ae)=>ab t t') (List.map (fun(x:ae×af)=>x.fst) ap)).length:Int)- 0).toNat+1) 0 ([]:List af)with
 | .inl r=>r
 | .inr (s15,s5)=>
  s5
def Ra:bf U:=⟨[.p [(10,some (.st 10)),(8,some (.arr 8 (.int .u32))),(1,none),(1,none)],.d (.arr 8 (.int .u32))],fun xs es K=> ∃(s:az) (b:List Int) (ap:List (ae×af)) (sn:List (ae×Bool)) (v:List Int),xs= [(vp 0),(ic v)]∧es= [.cells [(10,.d (.st 10) s),(8,.d (.arr 8 (.int .u32)) b),(1,.mp 1),(1,.mp 2)] 109,.map bT ap,.map cZ sn]∧(ap.length≤100000)∧((fun(r0:List af)=>r0.length≤100000) (aJ s b ap sn v)→K (.v (yI (aJ s b ap sn v))) [.cells [(10,.d (.st 10) s),(8,.d (.arr 8 (.int .u32)) b),(1,.mp 1),(1,.mp 2)] 109,.map bT ap,.map cZ sn])⟩
theorem Rb:Fk 46 Ra:=by
 refine fo Tryz.f46 [.d (.sl (.st 3))] [(0,[(10,some (.st 10)),(8,some (.arr 8 (.int .u32))),(1,none),(1,none)])] (aa Jg (aa BI (aa Oc (aa NM ah)))) fun xs es K=>?_;rintro⟨s,b,ap,sn,v,rfl,rfl,h1,h⟩;refine⟨rfl,?_⟩;have hf0:=aJ.eq_1 s b ap sn v;refine⟨_,rfl,rfl,?_⟩;refine⟨fun(t t':ae)=>ab t t',fun t0 t1=>⟨_,_,rfl,rfl,rfl,rfl⟩,?_⟩;refine⟨_,_,rfl,rfl,(show ap.length≤(1000000:Nat)from by omega),(kE _),?_⟩;refine fl (x:=(bu (fun(t t':ae)=>ab t t') (List.map (fun(x:ae×af)=>x.fst) ap)).length) fun _=>?_;refine lI (σ:=Int×(List af)) 7 (fun(s15,s5)=> [(0,.v (vp 0)),(3,.v (vp 3)),(4,.v ⟨false,[(1,.nils)]⟩),(5,.v (vo 6)),(13,.v (vo 5)),(14,.v (vi (((bu (fun(t t':ae)=>ab t t') (List.map (fun(x:ae×af)=>x.fst) ap)).length:Int)))),(15,.v (vi s15))]) (fun(s15,s5)=> [(0,.cells [(10,.d (.st 10) s),(8,.d (.arr 8 (.int .u32)) b),(1,.mp 1),(1,.mp 2)] 109),(1,.map bT ap),(2,.map cZ sn),(3,.cells [(8,.d (.arr 8 (.int .u32)) v)] 41),(5,.row 0 (.st 1) (bu (fun(t t':ae)=>ab t t') (List.map (fun(x:ae×af)=>x.fst) ap)) 34),(6,.row 0 (.st 3) s5 47)]) (fun(s15,s5)=>(((bu (fun(t t':ae)=>ab t t') (List.map (fun(x:ae×af)=>x.fst) ap)).length:Int)- s15).toNat) (fun(s15,s5)=>(0≤s15)∧(s15≤((bu (fun(t t':ae)=>ab t t') (List.map (fun(x:ae×af)=>x.fst) ap)).length:Int))∧((s5.length:Int)≤s15)∧True) (fun n1 (s15,s5)=>fm s b ap sn v n1 s15 s5) (fm s b ap sn v ((((bu (fun(t t':ae)=>ab t t') (List.map (fun(x:ae×af)=>x.fst) ap)).length:Int)- 0).toNat+1) 0 ([]:List af)) [] ((0:Int),([]:List af)) ?_;rintro⟨s15,s5⟩ ⟨n1,hc1,⟨hi1_0,hi1_1,hi1_2,-⟩,hf1⟩;have hf1:=hf1.trans (fm.eq_2 s b ap sn v s15 s5 n1);refine wI hf1 (fun h1 hf1=>?_) fun h1 hf1=>?_
 ·refine vx s15 (bu (fun(t t':ae)=>ab t t') (List.map (fun(x:ae×af)=>x.fst) ap)) ?_;refine⟨_,_,rfl,rfl,?_⟩;refine wI hf1 (fun _ hf1=>?_) fun _ hf1=>?_
  ·refine dp [(true,0),(true,1),(true,2),(true,3),(true,4),(true,5),(true,6),(false,7),(false,8),(true,9)] none (6::nw 8) ?_;refine vs (P:=(s5.length+ [(dP ap (ix (bu (fun(t t':ae)=>ab t t') (List.map (fun(x:ae×af)=>x.fst) ap)) s15)).getD bT.zero].length)*(96:Nat)≤(140737488355328:Nat)) ?_ (by(have hl:=fJ (fun(t t':ae)=>ab t t') (List.map (fun(x:ae×af)=>x.fst) ap);rw[List.length_map]at hl;simp only[List.length_append,List.length_cons,List.length_nil];omega));refine bY ?_;exact nx (s:=(s15,s5)) [] (s15+1,s5++ [(dP ap (ix (bu (fun(t t':ae)=>ab t t') (List.map (fun(x:ae×af)=>x.fst) ap)) s15)).getD bT.zero]) hc1 hf1
  ·refine bY ?_;exact nx (s:=(s15,s5)) [] (s15+1,s5) hc1 hf1
 ·rw[hf1]at hf0;rw[hf0]at h;exact h (by(have hl:=fJ (fun(t t':ae)=>ab t t') (List.map (fun(x:ae×af)=>x.fst) ap);rw[List.length_map]at hl;simp only[List.length_append,List.length_cons,List.length_nil];omega))
def my(s:az)(b:List Int)(ap:List (ae×af))(sn:List (ae×Bool))(v:List Int)(more:List af):Nat→Int→az→(az×Int)⊕(Int×az)
 |0,s39,s9_0=> .inr (s39,s9_0)
 |n1+1,s39,s9_0=>
  if s39<((aJ s b ap sn v++more).length:Int)then
   if(a8 s9_0 (ix (aJ s b ap sn v++more) s39)).snd=0 then
    my s b ap sn v more n1 (s39+1) ((a8 s9_0 (ix (aJ s b ap sn v++more) s39)).fst)
   else
    .inl ((az.mk 0 (bi.mk 0 (au.mk 0 0)) (be.mk 0 0) (aC.mk [] []) (aD.mk [] []),(a8 s9_0 (ix (aJ s b ap sn v++more) s39)).snd))
  else
   .inr (s39,s9_0)
def bP(s:az)(b:List Int)(ap:List (ae×af))(sn:List (ae×Bool))(v:List Int)(more:List af):az×Int:=
 if jo v=0 then
  if ug b v=true then
   match my s b ap sn v more ((((aJ s b ap sn v++more).length:Int)- 0).toNat+1) 0 s with
   | .inl r=>r
   | .inr (s39,s9_0)=>
    (jv s9_0,0)
  else
   (az.mk 0 (bi.mk 0 (au.mk 0 0)) (be.mk 0 0) (aC.mk [] []) (aD.mk [] []),17)
 else
  (az.mk 0 (bi.mk 0 (au.mk 0 0)) (be.mk 0 0) (aC.mk [] []) (aD.mk [] []),jo v)
def Rc:bf U:=⟨[.p [(10,some (.st 10)),(8,some (.arr 8 (.int .u32))),(1,none),(1,none)],.d (.arr 8 (.int .u32)),.d (.sl (.st 3))],fun xs es K=> ∃(s:az) (b:List Int) (ap:List (ae×af)) (sn:List (ae×Bool)) (v:List Int) (more:List af),xs= [(vp 0),(ic v),(yI more)]∧es= [.cells [(10,.d (.st 10) s),(8,.d (.arr 8 (.int .u32)) b),(1,.mp 1),(1,.mp 2)] 109,.map bT ap,.map cZ sn]∧(s.set.adds.length≤4097)∧(s.set.gone.length≤4097)∧(s.map.puts.length≤4097)∧(s.map.gone.length≤4097)∧(ap.length≤100000)∧(sn.length≤100000)∧(more.length≤100000)∧((fun(r0:az) (r1:Int)=>r0.set.adds.length≤4097∧r0.set.gone.length≤4097∧r0.map.puts.length≤4097∧r0.map.gone.length≤4097) ((bP s b ap sn v more).1) ((bP s b ap sn v more).2)→K (.tup [(ki ((bP s b ap sn v more).1)),(vi ((bP s b ap sn v more).2))]) [.cells [(10,.d (.st 10) s),(8,.d (.arr 8 (.int .u32)) b),(1,.mp 1),(1,.mp 2)] 109,.map bT ap,.map cZ sn])⟩
theorem Ae:Fk 12 Rc:=by
 refine fo Tryz.f12 [.d (.st 10),.d (.int .i64)] [(0,[(10,some (.st 10)),(8,some (.arr 8 (.int .u32))),(1,none),(1,none)])] (aa O5 (aa P1 (aa P5 (aa RA (aa Rb (aa O2 ah)))))) fun xs es K=>?_;rintro⟨s,b,ap,sn,v,more,rfl,rfl,h1,h2,h3,h4,h5,h6,h7,h⟩;refine⟨rfl,?_⟩;have hf0:=bP.eq_1 s b ap sn v more;refine⟨_,rfl,rfl,?_⟩;refine vN hf0 iD (fun _ hf0=>?_) (fun _ hf0=>?_)
 ·rw[hf0]at h;exact h (show((fun(r0:az) (r1:Int)=>r0.set.adds.length≤4097∧r0.set.gone.length≤4097∧r0.map.puts.length≤4097∧r0.map.gone.length≤4097) (az.mk (0:Int) (bi.mk (0:Int) (au.mk (0:Int) (0:Int))) (be.mk (0:Int) (0:Int)) (aC.mk [] []) (aD.mk [] [])) (jo v):Prop)from by simp)
 ·refine .inl ⟨[(true,0),(true,1),(true,2),(true,3),(true,4),(false,5),(true,6)],none,[5,6,7,8,9,10,11,12,13,14,15,16],by kernel_rfl,?_⟩;refine⟨_,_,rfl,rfl,?_⟩;refine vN hf0 (iN iB) (fun h1 hf0=>?_) (fun h1 hf0=>?_)
  ·rw[hf0]at h;exact h (show((fun(r0:az) (r1:Int)=>r0.set.adds.length≤4097∧r0.set.gone.length≤4097∧r0.map.puts.length≤4097∧r0.map.gone.length≤4097) (az.mk (0:Int) (bi.mk (0:Int) (au.mk (0:Int) (0:Int))) (be.mk (0:Int) (0:Int)) (aC.mk [] []) (aD.mk [] [])) (17:Int):Prop)from by simp)
  ·refine⟨_,_,_,_,_,rfl,rfl,(by omega),?_⟩;refine fun h2=>?_;refine⟨_,_,rfl,rfl,(show(aJ s b ap sn v).length≤(1000000:Nat)from by omega),(show more.length≤(1000000:Nat)from by omega),?_⟩;refine fun h3=>?_;have h3:(↑(aJ s b ap sn v++more).length:Int)≤(9223372036854775807:Int):=h3.2;refine⟨Int×az,8,fun(s39,s9_0)=> [(6,.v ⟨false,[(1,.ptr 4 0)]⟩),(7,.v ⟨false,[(1,.d (.int .i64) (0:Int))]⟩),(9,.v ⟨false,[(1,.ptr 5 0)]⟩),(37,.v ⟨false,[(1,.own 7 0)]⟩),(38,.v ⟨false,[(1,.d (.int .i64) (↑(aJ s b ap sn v++more).length:Int))]⟩),(39,.v ⟨false,[(1,.d (.int .i64) s39)]⟩)],fun(s39,s9_0)=> [(0,.cells [(10,.d (.st 10) s),(8,.d (.arr 8 (.int .u32)) b),(1,.mp 1),(1,.mp 2)] 109),(1,.map bT ap),(2,.map cZ sn),(4,.cells [(1,.d (.int .i64) (0:Int)),(1,.d (.int .i64) (0:Int)),(1,.d (.int .u32) (0:Int)),(1,.d (.int .i64) (0:Int)),(1,.d (.int .i64) (0:Int)),(1,.d (.int .i64) (0:Int)),(1,.nils),(1,.nils),(1,.nils),(1,.nils)] 61),(5,.cells [(10,.d (.st 10) s9_0)] 61),(7,.row 0 (.st 3) (aJ s b ap sn v++more) 47)],d5 (fun(s39,s9_0)=>((↑(aJ s b ap sn v++more).length:Int)- s39).toNat) (fun(s39,s9_0)=>((0:Int)≤s39)∧(s39≤(↑(aJ s b ap sn v++more).length:Int))∧(s9_0.set.adds.length≤4097)∧(s9_0.set.gone.length≤4097)∧(s9_0.map.puts.length≤4097)∧(s9_0.map.gone.length≤4097)∧True) (fun n1 (s39,s9_0)=>my s b ap sn v more n1 s39 s9_0) (my s b ap sn v more (((↑(aJ s b ap sn v++more).length:Int)-(0:Int)).toNat+1) (0:Int) s),fun(s39,s9_0)=>((↑(aJ s b ap sn v++more).length:Int)- s39).toNat,⟨[],((0:Int),s),d5.mk0 _ (Nat.lt_succ_self _) ⟨show(0:Int)≤(0:Int)from by omega,show(0:Int)≤(↑(aJ s b ap sn v++more).length:Int)from by omega,show s.set.adds.length≤(4097:Nat)from by omega,show s.set.gone.length≤(4097:Nat)from by omega,show s.map.puts.length≤(4097:Nat)from by omega,show s.map.gone.length≤(4097:Nat)from by omega,trivial⟩ rfl,?_⟩,?_⟩
   ·repeat (first|exact trivial|refine And.intro rfl ?_)
   ·rintro⟨s39,s9_0⟩ ⟨n1,hc1,⟨hi1_0,hi1_1,hi1_2,hi1_3,hi1_4,hi1_5,-⟩,hf1⟩;have hf1:=hf1.trans (my.eq_2 s b ap sn v more s39 s9_0 n1);refine vI hf1 iD (fun h4 hf1=>?_) (fun h4 hf1=>?_)
    ·refine And.intro (show(0:Int)≤s39∧s39<(↑(aJ s b ap sn v++more).length:Int)from by omega) ?_;refine⟨_,_,rfl,rfl,(by omega),(by omega),(by omega),(by omega),?_⟩;refine fun h5=>?_;refine vN hf1 iD (fun h6 hf1=>?_) (fun h6 hf1=>?_)
     ·rw[hf1]at hf0;rw[hf0]at h;exact h (show((fun(r0:az) (r1:Int)=>r0.set.adds.length≤4097∧r0.set.gone.length≤4097∧r0.map.puts.length≤4097∧r0.map.gone.length≤4097) (az.mk (0:Int) (bi.mk (0:Int) (au.mk (0:Int) (0:Int))) (be.mk (0:Int) (0:Int)) (aC.mk [] []) (aD.mk [] [])) ((a8 s9_0 (ix (aJ s b ap sn v++more) s39)).snd):Prop)from by simp)
     ·refine .inl (And.intro (rD (p:=s39) (q:=(1:Int)) (r:=s39+(1:Int)) (by omega)) ?_);have hm1:((↑(aJ s b ap sn v++more).length:Int)-(s39+(1:Int))).toNat<((↑(aJ s b ap sn v++more).length:Int)- s39).toNat:=by omega
      refine⟨[],(s39+(1:Int),(a8 s9_0 (ix (aJ s b ap sn v++more) s39)).fst),hm1,d5.next (s:=(s39,s9_0)) hc1 hm1 ⟨show(0:Int)≤s39+(1:Int)from by omega,show s39+(1:Int)≤(↑(aJ s b ap sn v++more).length:Int)from by omega,show(a8 s9_0 (ix (aJ s b ap sn v++more) s39)).fst.set.adds.length≤(4097:Nat)from by omega,show(a8 s9_0 (ix (aJ s b ap sn v++more) s39)).fst.set.gone.length≤(4097:Nat)from by omega,show(a8 s9_0 (ix (aJ s b ap sn v++more) s39)).fst.map.puts.length≤(4097:Nat)from by omega,show(a8 s9_0 (ix (aJ s b ap sn v++more) s39)).fst.map.gone.length≤(4097:Nat)from by omega,trivial⟩ hf1,?_⟩;repeat (first|exact trivial|refine And.intro rfl ?_)
    ·rw[hf1]at hf0;refine⟨_,rfl,rfl,(by omega),(by omega),(by omega),(by omega),?_⟩;rw[hf0]at h;exact h (show((fun(r0:az) (r1:Int)=>r0.set.adds.length≤4097∧r0.set.gone.length≤4097∧r0.map.puts.length≤4097∧r0.map.gone.length≤4097) (jv s9_0) (0:Int):Prop)from by(have e:jv s9_0=s9_0:=rfl;simp only[e];omega))
def l8(ap:List (ae×af))(v:List Int)(l left:List (ae×af)):Prop:=cd ap∧left.Sublist ap∧l=ap.filter (fun p=>decide (p.1∈left.map (·.1))||!dG v p.1.id)
theorem vS{ap:List (ae×af)}{v:List Int}(h:cd ap):l8 ap v ap ap:=⟨h,List.Sublist.refl _,(List.filter_eq_self.2 fun p hp=>by
 rw[decide_eq_true (List.mem_map_of_mem hp)];rfl).symm⟩
theorem Af{ap:List (ae×af)}{v:List Int}{l left:List (ae×af)}(h:l8 ap v l left)(h0:left= []):l=ap.filter (fun p=>!dG v p.1.id):=by
 subst h0;rw[h.2.2];apply List.filter_congr;intro p _;simp
theorem yb{ap:List (ae×af)}{v:List Int}{l left a b:List (ae×af)}{p:ae×af}(h:l8 ap v l left)(h0:left=a++p::b)(h1: ¬dG v p.1.id=true):l8 ap v l (a++b):=by
 subst h0;refine⟨h.1,List.Sublist.trans (List.Sublist.append_left (List.sublist_cons_self p b) a) h.2.1,?_⟩;rw[h.2.2];apply List.filter_congr;intro q _;by_cases e:q.1=p.1
 ·rw[e];simp[h1]
 ·congr 1;simp[e]
theorem Ag{ap:List (ae×af)}{v:List Int}{l left a b:List (ae×af)}{p:ae×af}(h:l8 ap v l left)(h0:left=a++p::b)(h1:dG v p.1.id=true):l8 ap v (eP l p.1) (eP (a++b) p.1):=by
 subst h0;obtain⟨n1,n2,n3⟩:=h;have nl:(l.map (·.1)).Nodup:=by rw[n3];exact List.Nodup.sublist (List.filter_sublist.map _) n1
 have n4:((a++p::b).map (·.1)).Nodup:=List.Nodup.sublist (n2.map _) n1;have n5:(((p::(a++b))).map (·.1)).Nodup:=((List.perm_middle (a:=p) (l₁:=a) (l₂:=b)).symm.map (·.1)).nodup_iff.2 n4;rw[List.map_cons,List.nodup_cons]at n5;have e1:eP (a++b) p.1=a++b:=by
  rw[jS _ n5.2];refine List.filter_eq_self.2 fun q hq=>?_;have:q.1≠p.1:=fun e=>n5.1 (by rw[←e];exact List.mem_map_of_mem hq);simpa using this
 rw[e1];refine⟨n1,List.Sublist.trans (List.Sublist.append_left (List.sublist_cons_self p b) a) n2,?_⟩;rw[jS _ nl,n3,List.filter_filter];apply List.filter_congr;intro q _;by_cases e:q.1=p.1
 ·have h3:p.1∉(a++b).map (·.1):=n5.1;rw[e,decide_eq_false h3,h1];simp
 ·rw[show decide (q.1≠p.1)=true from decide_eq_true e,Bool.true_and];congr 1;simp[e]
theorem uh{α β:Type} [DecidableEq α]: ∀(m:List (α×β)) (x:α),(eP m x).length≤m.length
 | [],x=>by simp[eP]
 |(k,y)::m,x=>by
  unfold eP;split
  ·simp
  ·have:=uh m x;simp;omega
theorem ui{α:Type}{left a b:List α}{p:α}(h:left=a++p::b):(a++b).length<left.length:=by subst h;simp
theorem Ah{left a b:List (ae×af)}{p:ae×af}{k:ae}(h:left=a++p::b):(eP (a++b) k).length<left.length:=Nat.lt_of_le_of_lt (uh _ _) (ui h)
def al(s:az)(b:List Int)(ap:List (ae×af))(sn:List (ae×Bool))(v:List Int):Int×az×(List Int)×(List (ae×af)):=
 if(bP s b ap sn v []).snd=0 then
  if(bw (bP s b ap sn v []).fst v).snd=0 then
   (0,(bw (bP s b ap sn v []).fst v).fst,v,List.filter (fun(p:ae×af)=>!dG v p.fst.id) ap)
  else
   ((bw (bP s b ap sn v []).fst v).snd,s,b,ap)
 else
  ((bP s b ap sn v []).snd,s,b,ap)
def Re:bf U:=⟨[.p [(10,some (.st 10)),(8,some (.arr 8 (.int .u32))),(1,none),(1,none)],.d (.arr 8 (.int .u32))],fun xs es K=> ∃(s:az) (b:List Int) (ap:List (ae×af)) (sn:List (ae×Bool)) (v:List Int),xs= [(vp 0),(ic v)]∧es= [.cells [(10,.d (.st 10) s),(8,.d (.arr 8 (.int .u32)) b),(1,.mp 1),(1,.mp 2)] 109,.map bT ap,.map cZ sn]∧(s.set.adds.length≤4097)∧(s.set.gone.length≤4097)∧(s.map.puts.length≤4097)∧(s.map.gone.length≤4097)∧(ap.length≤100000)∧(sn.length≤100000)∧(cd ap)∧((fun(r0:Int) (r1:az) (r2:List Int) (r3:List (ae×af))=>r1.set.adds.length≤4097∧r1.set.gone.length≤4097∧r1.map.puts.length≤4097∧r1.map.gone.length≤4097∧r3.length≤ap.length∧cd r3) ((al s b ap sn v).1) ((al s b ap sn v).2.1) ((al s b ap sn v).2.2.1) ((al s b ap sn v).2.2.2)→K (.v (vi ((al s b ap sn v).1))) [.cells [(10,.d (.st 10) ((al s b ap sn v).2.1)),(8,.d (.arr 8 (.int .u32)) ((al s b ap sn v).2.2.1)),(1,.mp 1),(1,.mp 2)] 109,.map bT ((al s b ap sn v).2.2.2),.map cZ sn])⟩
theorem Iq:Fk 17 Re:=by
 refine fo Tryz.f17 [.d (.int .i64)] [(0,[(10,some (.st 10)),(8,some (.arr 8 (.int .u32))),(1,none),(1,none)])] (aa Ae (aa Jg (aa Q5 ah))) fun xs es K=>?_;rintro⟨s,b,ap,sn,v,rfl,rfl,h1,h2,h3,h4,h5,h6,h8,h⟩;refine⟨rfl,?_⟩;have hf0:=al.eq_1 s b ap sn v;refine⟨_,_,_,_,_,_,rfl,rfl,(by omega),(by omega),(by omega),(by omega),(by omega),(by omega),(show(0:Nat)≤(100000:Nat)from by omega),?_⟩;refine fun(h0:(bP s b ap sn v []).fst.set.adds.length≤(4097:Nat)∧(bP s b ap sn v []).fst.set.gone.length≤(4097:Nat)∧(bP s b ap sn v []).fst.map.puts.length≤(4097:Nat)∧(bP s b ap sn v []).fst.map.gone.length≤(4097:Nat))=>?_;refine wN hf0 (fun h1 hf0=>?_) fun h1 hf0=>?_
 ·rw[hf0]at h;exact h (by(have hl:=List.length_filter_le (fun(p:ae×af)=>!dG v p.1.id) ap;dsimp only;refine⟨?_,?_,?_,?_,?_,?_⟩<;>first|omega|assumption|exact oa (by assumption) _))
 ·refine⟨_,_,rfl,rfl,(show(bP s b ap sn v []).fst.set.adds.length≤(4097:Nat)from by omega),(show(bP s b ap sn v []).fst.set.gone.length≤(4097:Nat)from by omega),(show(bP s b ap sn v []).fst.map.puts.length≤(4097:Nat)from by omega),(show(bP s b ap sn v []).fst.map.gone.length≤(4097:Nat)from by omega),?_⟩;refine fun(h2:(bw (bP s b ap sn v []).fst v).fst.set.adds.length≤(4097:Nat)∧(bw (bP s b ap sn v []).fst v).fst.set.gone.length≤(4097:Nat)∧(bw (bP s b ap sn v []).fst v).fst.map.puts.length≤(4097:Nat)∧(bw (bP s b ap sn v []).fst v).fst.map.gone.length≤(4097:Nat))=>?_;refine wN hf0 (fun h3 hf0=>?_) fun h3 hf0=>?_
  ·rw[hf0]at h;exact h (by(have hl:=List.length_filter_le (fun(p:ae×af)=>!dG v p.1.id) ap;dsimp only;refine⟨?_,?_,?_,?_,?_,?_⟩<;>first|omega|assumption|exact oa (by assumption) _))
  ·refine dp [(true,0),(true,1),(true,2),(true,3),(true,4),(true,5),(false,6),(true,7),(true,8)] (some 9) (0::nw 5) ?_;refine fun b4=>?_;refine⟨(List (ae×af))×(List (ae×af))×Gh×(List (ae×af)),6,fun(e1,e1l,e1g,e1c)=> [(0,.v ⟨false,[(1,.ptr 0 0)]⟩),(3,.v ⟨false,[(1,.ptr 3 0)]⟩),(4,.v ⟨false,[(1,.d (.int .i64) (0:Int))]⟩),(38,.v ⟨false,[(1,.ptr 5 0)]⟩)],fun(e1,e1l,e1g,e1c)=> [(0,.cells [(10,.d (.st 10) ((bw (bP s b ap sn v []).fst v).fst)),(8,.d (.arr 8 (.int .u32)) v),(1,.mp 1),(1,.mp 2)] 109),(1,.mapr bT e1 e1l e1c e1g),(2,.map cZ sn),(3,.cells [(8,.d (.arr 8 (.int .u32)) v)] 41),(5,.it 1 e1g)],fun(e1,e1l,e1g,e1c)=>(l8 ap v e1 e1l)∧True,fun(e1,e1l,e1g,e1c)=>e1l.length,⟨[],(ap,ap,b4,([]:List (ae×af))),⟨show l8 ap v ap ap from vS (by assumption),trivial⟩,?_⟩,?_⟩
   ·repeat (first|exact trivial|refine And.intro rfl ?_)
   ·rintro⟨e1,e1l,e1g,e1c⟩ ⟨hi1_0,-⟩;refine vs (P:=e1g=e1g) ?_ (by simp);refine And.intro (fun h5=>?_) (fun(a6:List (ae×af)) (p7:ae×af) (b8:List (ae×af)) (h9:e1l=a6++p7::b8)=>?_)
    ·refine vF iB (by simp) ?_;obtain rfl:e1=List.filter (fun(p:ae×af)=>!dG v p.1.id) ap:=Af (by assumption) (by assumption);rw[hf0]at h;exact h (by(have hl:=List.length_filter_le (fun(p:ae×af)=>!dG v p.1.id) ap;dsimp only;refine⟨?_,?_,?_,?_,?_,?_⟩<;>first|omega|assumption|exact oa (by assumption) _))
    ·refine fun b10=>?_;refine vT iB rfl ?_;refine vs (P:=b10=b10) ?_ (by simp);refine⟨_,_,rfl,rfl,?_⟩;refine vR iB (fun _=>?_) (fun _=>?_)
     ·refine dp (up 5) (some 5) (nw 7) ?_;have hm1:(eP (a6++b8) p7.fst).length<e1l.length:=Ah (by assumption);refine⟨[],(eP e1 p7.fst,eP (a6++b8) p7.fst,b10,[]),hm1,⟨show l8 ap v (eP e1 p7.fst) (eP (a6++b8) p7.fst)from Ag (by assumption) (by assumption) (by assumption),trivial⟩,?_⟩;repeat (first|exact trivial|refine And.intro rfl ?_)
     ·have hm1:(a6++b8).length<e1l.length:=ui (by assumption);refine⟨[],(e1,a6++b8,b10,[p7]),hm1,⟨show l8 ap v e1 (a6++b8)from yb (by assumption) (by assumption) (by assumption),trivial⟩,?_⟩;repeat (first|exact trivial|refine And.intro rfl ?_)
end Go.Proofs.YtiliglahlfkikaaGreatDoor.V
end

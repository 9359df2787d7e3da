/- Plain laws: sets, maps, registers and counters: the program's steps are the document's. -/
import Derived.Test.YtiliglahlfkikaaGreatDoorYt19
import Derived.Test.YtiliglahlfkikaaGreatDoorYt14
import Derived.Test.YtiliglahlfkikaaGreatDoorYt3
section
set_option linter.unusedVariables false
set_option linter.unusedSimpArgs false
set_option maxRecDepth 20000
set_option maxHeartbeats 4000000
namespace Go.Proofs.YtiliglahlfkikaaGreatDoor.V
open Go.RowKit
theorem lT(x y:Int):kN x y=if x<y then -1 else if y<x then 1 else 0:=by
 unfold kN;simp[mL]
theorem q9(x y:Int):mP x y=if x<y then -1 else if y<x then 1 else 0:=by
 unfold mP;simp[mM]
theorem mR(x y:Int):fH [x,y]=if x=0 then y else x:=by
 have e1:ix [x,y] 1=y:=rfl;have e0:ix [x,y] 0=x:=rfl;unfold fH;rw[show((↑[x,y].length:Int)- 0).toNat+1=3 from rfl,fa,fa,fa,fa];rw[show(0:Int)+1=1 from rfl,e0,e1];by_cases hx:x=0<;>by_cases hy:y=0<;>simp[hx,hy]
theorem oz(a b:af):ae a b=if a.id.origin<b.id.origin then -1 else if b.id.origin<a.id.origin then 1 else if a.id.seq<b.id.seq then -1 else if b.id.seq<a.id.seq then 1 else if a.n<b.n then -1 else if b.n<a.n then 1 else 0:=by
 unfold ae fw;rw[mR,mR,lT,lT,q9]
 repeat' split
 all_goals omega
theorem rb{a b:af}(h1:a.id.origin=b.id.origin)(h2:a.id.seq=b.id.seq)(h3:a.n=b.n):a=b:=by
 obtain⟨⟨a1,a2⟩,a3⟩:=a;obtain⟨⟨b1,b2⟩,b3⟩:=b;simp only at h1 h2 h3;subst h1;subst h2;subst h3;rfl
open Go.Shelf Go.Lib Go.Sort
theorem lU(a b:af):ltOf ae a b=decide (a.id.origin<b.id.origin∨a.id.origin=b.id.origin∧(a.id.seq<b.id.seq∨a.id.seq=b.id.seq∧a.n<b.n)):=by
 unfold ltOf;rw[oz,decide_eq_decide]
 repeat' split
 all_goals omega
theorem jn(l:List af):iE l ae:=by
 refine⟨⟨fun x=>?_,fun x y z h1 h2=>?_,fun x y z h1 h2=>?_⟩,fun x _ y _ h1 h2=>?_⟩
 ·rw[lU];simp
 ·rw[lU,decide_eq_true_iff]at*;omega
 ·rw[lU,decide_eq_false_iff_not]at*;omega
 ·rw[lU,decide_eq_false_iff_not]at h1 h2;exact rb (by omega) (by omega) (by omega)
theorem pZ(l:List bt):(ej l).length≤l.length:=by
 have key: ∀(n:Nat) (i:Int) (s:List af),0≤i→(s.length:Int)≤i→i≤l.length→ ∃j t,fY l n i s= .inr (j,t)∧t.length≤l.length:=fun n=>by
  induction n with
  |zero=>intro i s h0 h1 h2;exact⟨i,s,rfl,by omega⟩
  |succ n ih=>
   intro i s h0 h1 h2;rw[fY];split
   ·exact ih _ _ (by omega) (by simp;omega) (by omega)
   ·exact⟨i,s,rfl,by omega⟩
 obtain⟨j,t,h,ht⟩:=key (((l.length:Int)- 0).toNat+1) 0 [] (by omega) (by simp) (by omega);unfold ej;rw[h];exact ht
def dV(s:aY)(tags:List af):aY×Int:=
 if dx s=0 then
  if 4096<(tags.length:Int)then
   (aY.mk [] [],8)
  else
   if(bS tags fun(t:af)=>cA t)=true then
    (aY.mk [] [],2)
   else
    if 4096<((dd (aV (fun(t t':af)=>ae t t') (s.gone++tags))).length:Int)then
     (aY.mk [] [],4)
    else
     (aY.mk (List.filter (fun(x:ba)=>!lR x (aY.mk [] (dd (aV (fun(t t':af)=>ae t t') (s.gone++tags))))) s.adds) (dd (aV (fun(t t':af)=>ae t t') (s.gone++tags))),0)
 else
  (aY.mk [] [],dx s)
def PE:bh U:=⟨[.d (.st 8),.d (.sl (.st 1))],fun xs es K=> ∃(s:aY) (tags:List af),xs= [(wD s),(mz tags)]∧es= []∧(s.adds.length≤1000000)∧(s.gone.length≤900000)∧((fun(r0:aY) (r1:Int)=>r0.adds.length≤4097∧r0.gone.length≤4097) ((dV s tags).1) ((dV s tags).2)→K (.tup [(wD ((dV s tags).1)),(vi ((dV s tags).2))]) [])⟩
theorem PF:Fk 82 PE:=by
 refine fo Tryz.f82 [.d (.st 8),.d (.int .i64)] [] (aa IK (aa zf (aa zP (aa Cu (aa Ct (aa I2 (aa GL (aa I5 (aa Nq (aa Mq aj)))))))))) fun xs es K=>?_;rintro⟨s,tags,rfl,rfl,h1,h2,h⟩;refine⟨rfl,?_⟩;have hf0:=dV.eq_1 s tags;refine⟨_,rfl,rfl,(by omega),?_⟩;refine fun _=>?_;refine wN hf0 (fun h1 hf0=>?_) fun h1 hf0=>?_
 ·rw[hf0]at h;exact h (by simp)
 ·refine fl (x:=tags.length) fun h2=>?_;refine wI hf0 (fun _ hf0=>?_) fun _ hf0=>?_
  ·rw[hf0]at h;exact h (by simp)
  ·refine⟨fun(t:af)=>cA t,fun t0=>⟨_,rfl,rfl,rfl,rfl⟩,?_⟩;refine⟨_,_,rfl,rfl,?_⟩;refine wI hf0 (fun _ hf0=>?_) fun _ hf0=>?_
   ·rw[hf0]at h;exact h (by simp)
   ·refine⟨_,_,rfl,rfl,(show s.gone.length≤(1000000:Nat)from by omega),(show tags.length≤(1000000:Nat)from by omega),?_⟩;refine⟨fun(t t':af)=>ae t t',fun t0 t1=>⟨_,_,rfl,rfl,rfl,rfl⟩,?_⟩;refine⟨_,_,rfl,rfl,(jn _),(show(s.gone++tags).length<(4611686018427387904:Nat)from by(simp only[List.length_append,List.length_cons,List.length_nil];omega)),?_⟩;refine⟨_,rfl,rfl,?_⟩;refine fl (x:=(dd (aV (fun(t t':af)=>ae t t') (s.gone++tags))).length) fun _=>?_;refine wI hf0 (fun h6 hf0=>?_) fun h6 hf0=>?_
    ·rw[hf0]at h;exact h (by simp)
    ·refine⟨_,rfl,rfl,(by assumption),?_⟩;refine⟨fun(t:ba)=>lR t (aY.mk [] (dd (aV (fun(t t':af)=>ae t t') (s.gone++tags)))),fun t0=>⟨_,_,rfl,rfl,(Nat.le_trans (Int.ofNat_le.1 (Int.not_lt.1 h6)) (show(4096:Nat)≤1000000 by decide)),rfl,rfl⟩,?_⟩;refine⟨_,_,rfl,rfl,?_⟩;rw[hf0]at h;exact h (by(dsimp only;exact⟨Nat.le_trans (List.length_filter_le _ _) (by omega),Nat.le_trans (Int.ofNat_le.1 (Int.not_lt.1 h6)) (by decide)⟩))
def dz(s:aY):Nat→Int→(List (List UInt8))→(List (List UInt8))⊕(Int×(List (List UInt8)))
 |0,s12,s3=> .inr (s12,s3)
 |n1+1,s12,s3=>
  if s12<(s.adds.length:Int)then
   dz s n1 (s12+1) (s3++ [(ix s.adds s12).elem])
  else
   .inr (s12,s3)
def bf(s:aY):List (List UInt8):=
 if dx s=0 then
  match dz s (((s.adds.length:Int)- 0).toNat+1) 0 ([]:List (List UInt8))with
  | .inl r=>r
  | .inr (s12,s3)=>
   Oh (ja s3)
 else
  []
def PG:bh U:=⟨[.d (.st 8)],fun xs es K=> ∃(s:aY),xs= [(wD s)]∧es= []∧(s.adds.length≤1000000)∧(s.gone.length≤1000000)∧K (.v (HN (bf s))) []⟩
theorem PH:Fk 65 PG:=by
 refine fo Tryz.f65 [.d (.sl .str)] [] (aa Cu (aa Nz (aa Nv aj))) fun xs es K=>?_;rintro⟨s,rfl,rfl,h1,h2,h⟩;refine⟨rfl,?_⟩;have hf0:=bf.eq_1 s;refine⟨_,rfl,rfl,(by omega),?_⟩;refine fun _=>?_;refine wN hf0 (fun h1 hf0=>e0) fun h1 hf0=>?_;refine fl (x:=s.adds.length) fun h2=>?_;refine lI (σ:=Int×(List (List UInt8))) 2 (fun(s12,s3)=> [(2,.v ⟨false,[(1,.nils)]⟩),(3,.v (vo 1)),(10,.v (A3 s.adds)),(11,.v (vi (s.adds.length:Int))),(12,.v (vi s12))]) (fun(s12,s3)=> [(1,.row 0 .str s3 9)]) (fun(s12,s3)=>((s.adds.length:Int)- s12).toNat) (fun(s12,s3)=>(0≤s12)∧(s12≤(s.adds.length:Int))∧((s3.length:Int)≤s12)∧True) (fun n1 (s12,s3)=>dz s n1 s12 s3) (dz s (((s.adds.length:Int)- 0).toNat+1) 0 ([]:List (List UInt8))) [] ((0:Int),([]:List (List UInt8))) ?_;rintro⟨s12,s3⟩ ⟨n1,hc1,⟨hi1_0,hi1_1,hi1_2,-⟩,hf1⟩;have hf1:=hf1.trans (dz.eq_2 s s12 s3 n1);refine wI hf1 (fun _ hf1=>?_) fun _ hf1=>?_
 ·refine vx s12 s.adds ?_;refine vs (P:=(s3.length+ [(ix s.adds s12).elem].length)*(16:Nat)≤(140737488355328:Nat)) ?_;refine ez ?_;exact nx (s:=(s12,s3)) [] (s12+1,s3++ [(ix s.adds s12).elem]) hc1 hf1
 ·rw[hf1]at hf0;refine⟨_,rfl,rfl,(by omega),?_⟩;refine⟨_,rfl,rfl,?_⟩;exact e0
def dq(s:aY)(v:List Int):aY×Int:=
 if dx s=0 then
  (aY.mk s.adds (List.filter (fun(x:af)=>!ig x v) s.gone),0)
 else
  (aY.mk [] [],dx s)
def MS:bh U:=⟨[.d (.st 8),.d (.arr 8 (.int .u32))],fun xs es K=> ∃(s:aY) (v:List Int),xs= [(wD s),(iH v)]∧es= []∧(s.adds.length≤1000000)∧(s.gone.length≤1000000)∧((fun(r0:aY) (r1:Int)=>r0.adds.length≤4097∧r0.gone.length≤4097) ((dq s v).1) ((dq s v).2)→K (.tup [(wD ((dq s v).1)),(vi ((dq s v).2))]) [])⟩
theorem MT:Fk 106 MS:=by
 refine fo Tryz.f106 [.d (.st 8),.d (.int .i64)] [] (aa HV (aa zP (aa Cu (aa Mu (aa I3 aj))))) fun xs es K=>?_;rintro⟨s,v,rfl,rfl,h1,h2,h⟩;refine⟨rfl,?_⟩;have hf0:=dq.eq_1 s v;refine⟨_,rfl,rfl,(by omega),?_⟩;refine fun _=>?_;refine wN hf0 (fun h1 hf0=>?_) fun h1 hf0=>?_
 ·rw[hf0]at h;exact h (by simp)
 ·refine dp [(true,0),(true,1),(true,3),(true,4),(true,6),(false,2),(false,5),(false,7),(true,8),(false,9),(true,10)] none (1::2::nw 3) ?_;refine⟨_,rfl,rfl,(by assumption),?_⟩;refine⟨_,rfl,rfl,(by assumption),?_⟩;refine⟨fun(t:af)=>ig t v,fun t0=>⟨_,_,rfl,rfl,rfl,rfl⟩,?_⟩;refine⟨_,_,rfl,rfl,?_⟩;rw[hf0]at h;exact h (by(dsimp only;exact⟨by omega,Nat.le_trans (List.length_filter_le _ _) (by omega)⟩))
def fB(s:be):Nat→Int→Int⊕(Int)
 |0,s38=> .inr s38
 |n1+1,s38=>
  if s38<(s.puts.length:Int)then
   if(¬(eJ (ix s.puts s38)=true))∨(kP s.gone (ix s.puts s38).tag=true)then
    .inl 3
   else
    fB s n1 (s38+1)
  else
   .inr s38
def dA(s:be):Int:=
 if(4096<(s.puts.length:Int))∨(4096<(s.gone.length:Int))then
  8
 else
  if((bS (ej s.puts) fun(t:af)=>dP t)=true)∨((bS s.gone fun(t:af)=>dP t)=true)then
   2
  else
   if(¬(j7 (ej s.puts)=true))∨(¬(j7 s.gone=true))then
    3
   else
    match fB s (((s.puts.length:Int)- 0).toNat+1) 0 with
    | .inl r=>r
    | .inr s38=>
     0
def MU:bh U:=⟨[.d (.st 9)],fun xs es K=> ∃(s:be),xs= [(wE s)]∧es= []∧(s.puts.length≤1000000)∧(s.gone.length≤1000000)∧((fun(r0:Int)=>r0=0→s.puts.length≤4096∧s.gone.length≤4096) (dA s)→K (.v (vi (dA s))) [])⟩
theorem Cw:Fk 115 MU:=by
 refine fo Tryz.f115 [.d (.int .i64)] [] (aa IK (aa Gx (aa IR (aa IQ (aa Gy (aa MP aj)))))) fun xs es K=>?_;rintro⟨s,rfl,rfl,h1,h2,h⟩;refine⟨rfl,?_⟩;have hf0:=dA.eq_1 s;refine fl (x:=s.puts.length) fun _=>?_;refine wI hf0 (fun h1 hf0=>?_) fun h1 hf0=>?_
 ·rw[hf0]at h;exact h (by omega)
 ·refine⟨_,rfl,rfl,(by omega),?_⟩;refine⟨fun(t:af)=>dP t,fun t0=>⟨_,rfl,rfl,rfl,rfl⟩,?_⟩;refine⟨_,_,rfl,rfl,?_⟩;refine⟨_,fun h2=>⟨fun(t:af)=>dP t,fun t0=>⟨_,rfl,rfl,rfl,rfl⟩,_,_,rfl,rfl,rfl,rfl⟩,rfl,?_⟩;refine wI hf0 (fun _ hf0=>?_) fun _ hf0=>?_
  ·rw[hf0]at h;exact h (by omega)
  ·refine⟨_,rfl,rfl,?_⟩;refine⟨_,fun _=>⟨_,rfl,rfl,rfl,rfl⟩,rfl,?_⟩;refine wI hf0 (fun _ hf0=>?_) fun _ hf0=>?_
   ·rw[hf0]at h;exact h (by omega)
   ·refine fl (x:=s.puts.length) fun _=>?_;refine lI 1 (fun(s38:Int)=> [(1,.v (vp 0)),(2,.v (vi 0)),(36,.v (HM s.puts)),(37,.v (vi (s.puts.length:Int))),(38,.v (vi s38))]) (fun(s38:Int)=> [(0,.cells [(2,.d (.st 9) s)] 59)]) (fun(s38:Int)=>((s.puts.length:Int)- s38).toNat) (fun(s38:Int)=>(0≤s38)∧(s38≤(s.puts.length:Int))∧True) (fun n1 (s38:Int)=>fB s n1 s38) (fB s (((s.puts.length:Int)- 0).toNat+1) 0) [] (0:Int) ?_;rintro s38 ⟨n1,hc1,⟨hi1_0,hi1_1,-⟩,hf1⟩;have hf1:=hf1.trans (fB.eq_2 s s38 n1);refine wI hf1 (fun _ hf1=>?_) fun _ hf1=>?_
    ·refine vx s38 s.puts ?_;refine⟨_,rfl,rfl,?_⟩;refine⟨_,fun _=>⟨_,_,rfl,rfl,(by omega),rfl,rfl⟩,rfl,?_⟩;refine wI hf1 (fun _ hf1=>?_) fun _ hf1=>?_
     ·rw[hf1]at hf0;rw[hf0]at h;exact h (by omega)
     ·refine ez ?_;exact nx [] (s38+1) hc1 hf1
    ·rw[hf1]at hf0;rw[hf0]at h;exact h (by omega)
def lV(p:bt)(gone:List (af)):Bool:=
 kP gone p.tag
def MV:bh U:=⟨[.d (.st 4),.n],fun xs es K=> ∃(p:bt) (gone:List (af)),xs= [(KK p),⟨false,[(1,.pd (.sl (.st 1)) gone)]⟩]∧es= []∧(gone.length≤1000000)∧K (.v (vb (lV p gone))) []⟩
theorem MW:Fk 150 MV:=by
 refine fo Tryz.f150 [.d .bool] [] (aa Gy aj) fun xs es K=>?_;rintro⟨p,gone,rfl,rfl,h2,h⟩;refine⟨rfl,?_⟩;have hf0:=lV.eq_1 p gone;refine⟨_,_,rfl,rfl,(by omega),?_⟩;exact e0
def dg(s:be)(p:bt):be×Int:=
 if dA s=0 then
  if dP p.tag=true then
   (be.mk [] [],2)
  else
   if eJ p=true then
    if(((cJ (ej s.puts) p.tag fun(t t':af)=>ae t t').snd)=true)∨(kP s.gone p.tag=true)then
     (be.mk (ff s).fst (ff s).snd,0)
    else
     if(s.puts.length:Int)=4096 then
      (be.mk [] [],4)
     else
      (be.mk (gu (ff s).fst (cJ (ej s.puts) p.tag fun(t t':af)=>ae t t').fst [p]) (ff s).snd,0)
   else
    (be.mk [] [],3)
 else
  (be.mk [] [],dA s)
def PI:bh U:=⟨[.d (.st 9),.d (.st 4)],fun xs es K=> ∃(s:be) (p:bt),xs= [(wE s),(KK p)]∧es= []∧(s.puts.length≤1000000)∧(s.gone.length≤1000000)∧((fun(r0:be) (r1:Int)=>r0.puts.length≤4097∧r0.gone.length≤4097) ((dg s p).1) ((dg s p).2)→K (.tup [(wE ((dg s p).1)),(vi ((dg s p).2))]) [])⟩
theorem PJ:Fk 83 PI:=by
 refine fo Tryz.f83 [.d (.st 9),.d (.int .i64)] [] (aa zf (aa Cw (aa Gx (aa IR (aa Gu (aa IQ (aa IP (aa Gy (aa Nj aj))))))))) fun xs es K=>?_;rintro⟨s,p,rfl,rfl,h1,h2,h⟩;refine⟨rfl,?_⟩;have hf0:=dg.eq_1 s p;refine⟨_,rfl,rfl,(by omega),(by omega),?_⟩;refine fun _=>?_;refine wN hf0 (fun h1 hf0=>?_) fun h1 hf0=>?_
 ·rw[hf0]at h;exact h (by simp)
 ·refine⟨_,rfl,rfl,?_⟩;refine wI hf0 (fun h2 hf0=>?_) fun h2 hf0=>?_
  ·rw[hf0]at h;exact h (by simp)
  ·refine⟨_,rfl,rfl,?_⟩;refine wN hf0 (fun _ hf0=>?_) fun _ hf0=>?_
   ·rw[hf0]at h;exact h (by simp)
   ·refine dp [(true,0),(true,1),(true,3),(true,4),(false,2),(false,5),(true,6),(true,7),(true,8),(true,9),(true,10)] none (nw 3) ?_;refine⟨_,rfl,rfl,(by omega),?_⟩;refine⟨fun(t t':af)=>ae t t',fun t0 t1=>⟨_,_,rfl,rfl,rfl,rfl⟩,?_⟩;refine⟨_,_,_,rfl,rfl,(by(have hg:=pZ s.puts;omega)),?_⟩;refine⟨_,rfl,rfl,(by omega),(by omega),?_⟩;refine⟨_,fun _=>⟨_,_,rfl,rfl,(by omega),rfl,rfl⟩,rfl,?_⟩;refine wI hf0 (fun _ hf0=>?_) fun _ hf0=>?_
    ·rw[hf0]at h;exact h (by(have e:ff s=(s.puts,s.gone):=rfl;simp only[e];omega))
    ·refine fl (x:=s.puts.length) fun _=>?_;refine wI hf0 (fun _ hf0=>?_) fun _ hf0=>?_
     ·rw[hf0]at h;exact h (by simp)
     ·refine⟨_,_,_,rfl,rfl,((sR _ _ _).1),(show(cJ (ej s.puts) p.tag fun(t t':af)=>ae t t').fst≤(↑(ff s).fst.length:Int)from by(have hg:=pZ s.puts;have h8:=(sR (ej s.puts) p.tag (fun t t1=>ae t t1)).2;have h9:(ff s).1=s.puts:=rfl;rw[h9];omega)),(by assumption),?_⟩;rw[hf0]at h;exact h (by(have e:ff s=(s.puts,s.gone):=rfl;dsimp only;rw[sQ,e];simp only[List.length_cons,List.length_nil];omega))
def dW(s:be)(l:List af):be×Int:=
 if dA s=0 then
  if 4096<(l.length:Int)then
   (be.mk [] [],8)
  else
   if(bS l fun(t:af)=>dP t)=true then
    (be.mk [] [],2)
   else
    if 4096<((dd (aV (fun(t t':af)=>ae t t') (s.gone++l))).length:Int)then
     (be.mk [] [],4)
    else
     (be.mk (List.filter (fun(x:bt)=>!lV x (dd (aV (fun(t t':af)=>ae t t') (s.gone++l)))) s.puts) (dd (aV (fun(t t':af)=>ae t t') (s.gone++l))),0)
 else
  (be.mk [] [],dA s)
def PK:bh U:=⟨[.d (.st 9),.d (.sl (.st 1))],fun xs es K=> ∃(s:be) (l:List af),xs= [(wE s),(mz l)]∧es= []∧(s.puts.length≤1000000)∧(s.gone.length≤900000)∧((fun(r0:be) (r1:Int)=>r0.puts.length≤4097∧r0.gone.length≤4097) ((dW s l).1) ((dW s l).2)→K (.tup [(wE ((dW s l).1)),(vi ((dW s l).2))]) [])⟩
theorem PL:Fk 84 PK:=by
 refine fo Tryz.f84 [.d (.st 9),.d (.int .i64)] [] (aa IK (aa zf (aa CS (aa Cw (aa I2 (aa GL (aa I5 (aa Gx (aa Ns (aa MW aj)))))))))) fun xs es K=>?_;rintro⟨s,l,rfl,rfl,h1,h2,h⟩;refine⟨rfl,?_⟩;have hf0:=dW.eq_1 s l;refine⟨_,rfl,rfl,(by omega),(by omega),?_⟩;refine fun _=>?_;refine wN hf0 (fun h1 hf0=>?_) fun h1 hf0=>?_
 ·rw[hf0]at h;exact h (by simp)
 ·refine fl (x:=l.length) fun h2=>?_;refine wI hf0 (fun _ hf0=>?_) fun _ hf0=>?_
  ·rw[hf0]at h;exact h (by simp)
  ·refine⟨fun(t:af)=>dP t,fun t0=>⟨_,rfl,rfl,rfl,rfl⟩,?_⟩;refine⟨_,_,rfl,rfl,?_⟩;refine wI hf0 (fun _ hf0=>?_) fun _ hf0=>?_
   ·rw[hf0]at h;exact h (by simp)
   ·refine⟨_,_,rfl,rfl,(show s.gone.length≤(1000000:Nat)from by omega),(show l.length≤(1000000:Nat)from by omega),?_⟩;refine⟨fun(t t':af)=>ae t t',fun t0 t1=>⟨_,_,rfl,rfl,rfl,rfl⟩,?_⟩;refine⟨_,_,rfl,rfl,(jn _),(show(s.gone++l).length<(4611686018427387904:Nat)from by(simp only[List.length_append,List.length_cons,List.length_nil];omega)),?_⟩;refine⟨_,rfl,rfl,?_⟩;refine fl (x:=(dd (aV (fun(t t':af)=>ae t t') (s.gone++l))).length) fun _=>?_;refine wI hf0 (fun h6 hf0=>?_) fun h6 hf0=>?_
    ·rw[hf0]at h;exact h (by simp)
    ·refine⟨_,rfl,rfl,(by assumption),?_⟩;refine⟨fun(t:bt)=>lV t (dd (aV (fun(t t':af)=>ae t t') (s.gone++l))),fun t0=>⟨_,_,rfl,rfl,(Nat.le_trans (Int.ofNat_le.1 (Int.not_lt.1 h6)) (show(4096:Nat)≤1000000 by decide)),rfl,rfl⟩,?_⟩;refine⟨_,_,rfl,rfl,?_⟩;rw[hf0]at h;exact h (by(dsimp only;exact⟨Nat.le_trans (List.length_filter_le _ _) (by omega),Nat.le_trans (Int.ofNat_le.1 (Int.not_lt.1 h6)) (by decide)⟩))
def dr(s:be)(v:List Int):be×Int:=
 if dA s=0 then
  (be.mk (ff s).fst (List.filter (fun(x:af)=>!ii x v) (ff s).snd),0)
 else
  (be.mk [] [],dA s)
def MX:bh U:=⟨[.d (.st 9),.d (.arr 8 (.int .u32))],fun xs es K=> ∃(s:be) (v:List Int),xs= [(wE s),(iH v)]∧es= []∧(s.puts.length≤1000000)∧(s.gone.length≤1000000)∧((fun(r0:be) (r1:Int)=>r0.puts.length≤4097∧r0.gone.length≤4097) ((dr s v).1) ((dr s v).2)→K (.tup [(wE ((dr s v).1)),(vi ((dr s v).2))]) [])⟩
theorem MY:Fk 107 MX:=by
 refine fo Tryz.f107 [.d (.st 9),.d (.int .i64)] [] (aa Cw (aa IP (aa I3 (aa Mx aj)))) fun xs es K=>?_;rintro⟨s,v,rfl,rfl,h1,h2,h⟩;refine⟨rfl,?_⟩;have hf0:=dr.eq_1 s v;refine⟨_,rfl,rfl,(by omega),(by omega),?_⟩;refine fun _=>?_;refine wN hf0 (fun h1 hf0=>?_) fun h1 hf0=>?_
 ·rw[hf0]at h;exact h (by simp)
 ·refine⟨_,rfl,rfl,(by omega),(by omega),?_⟩;refine⟨fun(t:af)=>ii t v,fun t0=>⟨_,_,rfl,rfl,rfl,rfl⟩,?_⟩;refine⟨_,_,rfl,rfl,?_⟩;rw[hf0]at h;exact h (by(show s.puts.length≤4097∧(List.filter _ s.gone).length≤4097;exact⟨by omega,Nat.le_trans (List.length_filter_le _ _) (by omega)⟩))
end Go.Proofs.YtiliglahlfkikaaGreatDoor.V
end

section
set_option linter.unusedVariables false
set_option linter.unusedSimpArgs false
set_option maxRecDepth 20000
set_option maxHeartbeats 4000000
namespace Go.Proofs.YtiliglahlfkikaaGreatDoor.V
open Go.RowKit
def iR(b:List Int):Nat→Int→(List Int)→(List Int)⊕(Int×(List Int))
 |0,s5,s2_0=> .inr (s5,s2_0)
 |n1+1,s5,s2_0=>
  if s5<8 then
   iR b n1 (s5+1) (s2_0.set s5.toNat (max (ix s2_0 s5) (ix b s5)))
  else
   .inr (s5,s2_0)
def cq(a:List Int)(b:List Int):List Int:=
 match iR b (((8:Int)-(0:Int)).toNat+1) (0:Int) a with
 | .inl r=>r
 | .inr (s5,s2_0)=>
  s2_0
def O6:bh U:=⟨[.d (.arr 8 (.int .u32)),.d (.arr 8 (.int .u32))],fun xs es K=> ∃(a:List Int) (b:List Int),xs= [(iH a),(iH b)]∧es= []∧K (.v (iH (cq a b))) []⟩
theorem Mr:Fk 27 O6:=by
 refine fo Tryz.f27 [.d (.arr 8 (.int .u32))] [] (aj) fun xs es K=>?_;rintro⟨a,b,rfl,rfl,h⟩;refine⟨rfl,?_⟩;have hf0:=cq.eq_1 a b;refine⟨Int×(List Int),3,fun(s5,s2_0)=> [(2,.v ⟨false,[(1,.ptr 0 0)]⟩),(3,.v ⟨false,[(1,.ptr 1 0)]⟩),(4,.v ⟨false,[(1,.ptr 2 0)]⟩),(5,.v ⟨false,[(1,.d (.int .i64) s5)]⟩)],fun(s5,s2_0)=> [(0,.cells [(8,.d (.arr 8 (.int .u32)) s2_0)] 41),(1,.cells [(8,.d (.arr 8 (.int .u32)) b)] 41),(2,.cells [(1,.d (.int .u32) (0:Int)),(1,.d (.int .u32) (0:Int)),(1,.d (.int .u32) (0:Int)),(1,.d (.int .u32) (0:Int)),(1,.d (.int .u32) (0:Int)),(1,.d (.int .u32) (0:Int)),(1,.d (.int .u32) (0:Int)),(1,.d (.int .u32) (0:Int))] 41)],dQ (fun(s5,s2_0)=>((8:Int)- s5).toNat) (fun(s5,s2_0)=>((0:Int)≤s5)∧(s5≤(8:Int))∧True) (fun n1 (s5,s2_0)=>iR b n1 s5 s2_0) (iR b (((8:Int)-(0:Int)).toNat+1) (0:Int) a),fun(s5,s2_0)=>((8:Int)- s5).toNat,⟨[],((0:Int),a),dQ.mk0 _ (Nat.lt_succ_self _) ⟨show(0:Int)≤(0:Int)from by omega,show(0:Int)≤(8:Int)from by omega,trivial⟩ rfl,?_⟩,?_⟩
 ·repeat (first|exact trivial|refine And.intro rfl ?_)
 ·rintro⟨s5,s2_0⟩ ⟨n1,hc1,⟨hi1_0,hi1_1,-⟩,hf1⟩;have hf1:=hf1.trans (iR.eq_2 b s5 s2_0 n1);refine vI hf1 iD (fun _ hf1=>?_) (fun _ hf1=>?_)
  ·refine .inl ⟨[(true,0),(true,1),(true,2),(true,3),(true,4),(true,5),(true,6),(true,7),(true,8)],some 9,[3,4,5,6,7,8,9,10,11,12,13,14],by kernel_rfl,?_⟩;refine And.intro (show(0:Int)≤s5∧s5<(↑(8:Nat):Int)from by omega) ?_;refine And.intro (show(0:Int)≤s5∧s5<(↑(8:Nat):Int)from by omega) ?_;refine And.intro (show(0:Int)≤s5∧s5<(↑(8:Nat):Int)from by omega) ?_;refine .inl (And.intro (xI (p:=s5) (q:=(1:Int)) (r:=s5+(1:Int)) (by omega)) ?_);have hm1:((8:Int)-(s5+(1:Int))).toNat<((8:Int)- s5).toNat:=by omega
   refine⟨[],(s5+(1:Int),s2_0.set s5.toNat (max (ix s2_0 s5) (ix b s5))),hm1,dQ.next (s:=(s5,s2_0)) hc1 hm1 ⟨show(0:Int)≤s5+(1:Int)from by omega,show s5+(1:Int)≤(8:Int)from by omega,trivial⟩ hf1,?_⟩;repeat (first|exact trivial|refine And.intro rfl ?_)
  ·rw[hf1]at hf0;rw[hf0]at h;exact h
def gx(v:List Int)(id:gi):Bool:=
 decide (ed id=0)&&decide (id.seq≤ix v id.origin)
def O7:bh U:=⟨[.d (.arr 8 (.int .u32)),.d (.st 0)],fun xs es K=> ∃(v:List Int) (id:gi),xs= [(iH v),(D5 id)]∧es= []∧K (.v (vb (gx v id))) []⟩
theorem Ms:Fk 26 O7:=by
 refine fo Tryz.f26 [.d .bool] [] (aa OS aj) fun xs es K=>?_;rintro⟨v,id,rfl,rfl,h⟩;refine⟨rfl,?_⟩;have hf0:=gx.eq_1 v id;refine dp [(true,0),(false,1),(true,2),(true,3),(true,4),(true,5),(true,6),(true,7),(true,8),(true,9),(true,10),(true,11),(true,12)] none (nw 2) ?_;refine⟨_,rfl,rfl,?_⟩;refine And.intro (show decide (ed id=(0:Int))=((8:Nat),true).snd→(0:Int)≤id.origin∧id.origin<(↑(8:Nat):Int)from(fun h=>⟨(ov (of_decide_eq_true h)).1,by have:=(ov (of_decide_eq_true h)).2.1;simp;omega⟩)) ?_;exact e0
end Go.Proofs.YtiliglahlfkikaaGreatDoor.V
end

section
set_option linter.unusedVariables false
set_option linter.unusedSimpArgs false
set_option maxRecDepth 20000
set_option maxHeartbeats 4000000
namespace Go.Proofs.YtiliglahlfkikaaGreatDoor.V
open Go.RowKit
def dI(a:List aP)(b:List aP):Nat→Int→Bool⊕(Int)
 |0,s5=> .inr s5
 |n1+1,s5=>
  if s5<(a.length:Int)then
   if ix a s5=ix b s5 then
    dI a b n1 (s5+1)
   else
    .inl false
  else
   .inr s5
def fZ(a:List aP)(b:List aP):Bool:=
 if(a.length:Int)=(b.length:Int)then
  match dI a b (((a.length:Int)- 0).toNat+1) 0 with
  | .inl r=>r
  | .inr s5=>
   true
 else
  false
def PC:bh U:=⟨[.d (.sl (.st 12)),.d (.sl (.st 12))],fun xs es K=> ∃(a:List aP) (b:List aP),xs= [(tV a),(tV b)]∧es= []∧K (.v (vb (fZ a b))) []⟩
theorem PD:Fk 63 PC:=by
 refine fo Tryz.f63 [.d .bool] [] (aj) fun xs es K=>?_;rintro⟨a,b,rfl,rfl,h⟩;refine⟨rfl,?_⟩;have hf0:=fZ.eq_1 a b;refine fl (x:=a.length) fun _=>?_;refine fl (x:=b.length) fun _=>?_;refine wN hf0 (fun _ hf0=>e0) fun _ hf0=>?_;refine lI 0 (fun(s5:Int)=> [(0,.v (tV a)),(1,.v (tV b)),(4,.v (vb false)),(5,.v (vi s5))]) (fun(s5:Int)=> []) (fun(s5:Int)=>((a.length:Int)- s5).toNat) (fun(s5:Int)=>(0≤s5)∧(s5≤(a.length:Int))∧True) (fun n1 (s5:Int)=>dI a b n1 s5) (dI a b (((a.length:Int)- 0).toNat+1) 0) [] (0:Int) ?_;rintro s5 ⟨n1,hc1,⟨hi1_0,hi1_1,-⟩,hf1⟩;have hf1:=hf1.trans (dI.eq_2 a b s5 n1);refine fl (x:=a.length) fun _=>?_;refine wI hf1 (fun _ hf1=>?_) fun _ hf1=>e1;refine dp (up 9) none (nw 0) ?_;refine vx s5 a ?_;refine vx s5 b ?_;refine wN hf1 (fun _ hf1=>e1) fun _ hf1=>?_;refine ez ?_;exact nx [] (s5+1) hc1 hf1
end Go.Proofs.YtiliglahlfkikaaGreatDoor.V
end

section
set_option linter.unusedVariables false
set_option linter.unusedSimpArgs false
namespace Go.Proofs.YtiliglahlfkikaaGreatDoor.V
open Go.RowKit Go.Shelf Go.Lib Go.Sort
def bj(a b:af):Bool:=decide (a.id.origin<b.id.origin∨(a.id.origin=b.id.origin∧(a.id.seq<b.id.seq∨(a.id.seq=b.id.seq∧a.n<b.n))))
theorem eU(a b c:af)(h1:bj a b=true)(h2:bj b c=true):bj a c=true:=by
 simp only[bj,decide_eq_true_eq]at*;omega
theorem dJ(a:af):bj a a=false:=by simp[bj]
theorem eV{a b:af}(h1:bj a b=true):bj b a=false:=by
 simp only[bj,decide_eq_true_eq,decide_eq_false_iff_not]at*;omega
theorem j9(a b:af):bj a b=true∨a=b∨bj b a=true:=by
 by_cases h:bj a b=true
 ·exact .inl h
 ·by_cases h2:bj b a=true
  ·exact .inr (.inr h2)
  ·refine .inr (.inl (rb ?_ ?_ ?_))<;>simp only[bj,decide_eq_true_eq]at* <;>omega
def mW(a b:af):Int:=if bj a b=true then -1 else if a=b then 0 else 1
theorem d6(a b:af):mW a b<0↔bj a b=true:=by
 unfold mW;split
 ·simp[*]
 ·rename_i h;split<;>simp[h]
theorem ng(a b:af):mW a b=0↔a=b:=by
 unfold mW;split
 ·rename_i h;constructor
  ·intro e;omega
  ·intro e;subst e;rw[dJ]at h;cases h
 ·split
  ·simp[*]
  ·simp[*]
theorem sX(a b:gi):fw a b=if a.origin<b.origin then -1 else if b.origin<a.origin then 1 else if a.seq<b.seq then -1 else if b.seq<a.seq then 1 else 0:=by
 unfold fw;rw[mR,lT,q9];by_cases h1:a.origin<b.origin
 ·simp[h1]
 ·by_cases h2:b.origin<a.origin
  ·simp[h1,h2]
  ·simp[h1,h2]
theorem bT(a b:af):ae a b=mW a b:=by
 unfold ae mW;rw[mR,sX,lT];by_cases h1:a.id.origin<b.id.origin
 ·simp[h1,bj]
 ·by_cases h2:b.id.origin<a.id.origin
  ·have hne: ¬a=b:=fun e=>by subst e;omega
   simp[h1,h2,bj,hne]<;>omega
  ·have e1:a.id.origin=b.id.origin:=by omega
   by_cases h3:a.id.seq<b.id.seq
   ·simp[h1,h2,h3,bj]<;>omega
   ·by_cases h4:b.id.seq<a.id.seq
    ·have hne: ¬a=b:=fun e=>by subst e;omega
     simp[h1,h2,h3,h4,bj,hne]<;>omega
    ·have e2:a.id.seq=b.id.seq:=by omega
     by_cases h5:a.n<b.n
     ·simp[h1,h2,h3,h4,h5,bj]<;>omega
     ·by_cases h6:b.n<a.n
      ·have hne: ¬a=b:=fun e=>by subst e;omega
       simp[h1,h2,h3,h4,h5,h6,bj,hne]<;>omega
      ·have e3:a.n=b.n:=by omega
       have he:a=b:=rb e1 e2 e3;subst he;simp[bj]
def Er(t:af):Prop:= -9223372036854775808≤t.id.seq∧t.id.seq≤9223372036854775807
def kD(t:af):Prop:=0≤t.id.seq∧t.id.seq≤4294967295
theorem kD.seq{t:af}(h:kD t):Er t:=by unfold kD at h;unfold Er;omega
theorem xl(i:gi):ed i=if(i.origin<0)∨(7<i.origin)∨(i.seq<1)∨(1048576<i.seq)then 2 else 0:=by unfold ed;simp only[or_assoc]
theorem sY(t:af):bc t=if(t.n<0)∨(16≤t.n)then 2 else if(t.id.origin<0)∨(8≤t.id.origin)∨(t.id.seq=0)∨(1048576<t.id.seq)then 2 else 0:=by
 unfold bc d4;simp only[or_assoc]
theorem sZ{α:Type}(f:α→Bool)(l:List α):decide ((0:Int)≤nv l f)=l.any f:=by
 unfold nv;cases h:l.findIdx? f with
 |none=>
  rw[List.findIdx?_eq_none_iff]at h;symm;simp only[decide_eq_false_iff_not.2 (show ¬(0:Int)≤ -1 by omega),List.any_eq_false];intro x hx;simp[h x hx]
 |some k=>
  have:=List.findIdx?_eq_some_iff_getElem.1 h;obtain⟨hk,h1,_⟩:=this;symm;simp only[decide_eq_true (show(0:Int)≤(k:Int)by omega),List.any_eq_true];exact⟨_,List.getElem_mem hk,h1⟩
theorem dB(s:List af)(f:af→Bool):bS s f=s.any f:=sZ f s
theorem jR(s:List ba)(f:ba→Bool):eF s f=s.any f:=sZ f s
theorem oJ(l:List af)(c:af→af→Int)(tr: ∀a b d,decide (c a b<0)=true→decide (c b d<0)=true→decide (c a d<0)=true):dC l c=true↔l.Pairwise (fun a b=>c a b<0):=by
 have h:=kW l (fun a b=>decide (c a b<0)) false (cK l c) (fun fuel i _=>by
  rw[cK];split
  ·by_cases h:(0:Int)≤c (ix l (i - 1)) (ix l i)
   ·rw[if_pos h,if_neg (by simp;omega)]
   ·rw[if_neg h,if_pos (by simp;omega)]
  ·rfl) (((l.length:Int)-(1:Int)).toNat+1) 1 (by omega) (by omega)
 have hp:=qb l (fun a b=>decide (c a b<0)) tr;simp only[decide_eq_true_eq]at hp;unfold dC;rcases h with⟨⟨q,a⟩,b⟩|⟨a,j,b,d,e⟩
 ·rw[a];simp only[decide_eq_true_eq]at b;exact⟨fun _=>hp.1 b,fun _=>rfl⟩
 ·rw[a];simp only[Bool.false_eq_true,false_iff];intro hw;have:=hp.2 hw j b d;simp only[decide_eq_false_iff_not]at e;exact e this
theorem oK(l:List ba)(c:ba→ba→Int)(tr: ∀a b d,decide (c a b<0)=true→decide (c b d<0)=true→decide (c a d<0)=true):eT l c=true↔l.Pairwise (fun a b=>c a b<0):=by
 have h:=kW l (fun a b=>decide (c a b<0)) false (dG l c) (fun fuel i _=>by
  rw[dG];split
  ·by_cases h:(0:Int)≤c (ix l (i - 1)) (ix l i)
   ·rw[if_pos h,if_neg (by simp;omega)]
   ·rw[if_neg h,if_pos (by simp;omega)]
  ·rfl) (((l.length:Int)-(1:Int)).toNat+1) 1 (by omega) (by omega)
 have hp:=qb l (fun a b=>decide (c a b<0)) tr;simp only[decide_eq_true_eq]at hp;unfold eT;rcases h with⟨⟨q,a⟩,b⟩|⟨a,j,b,d,e⟩
 ·rw[a];simp only[decide_eq_true_eq]at b;exact⟨fun _=>hp.1 b,fun _=>rfl⟩
 ·rw[a];simp only[Bool.false_eq_true,false_iff];intro hw;have:=hp.2 hw j b d;simp only[decide_eq_false_iff_not]at e;exact e this
theorem s7(l:List af):j7 l=dC l ae:=by
 have key: ∀fuel i,gP l fuel i=cK l ae fuel i:=by
  intro fuel;induction fuel with
  |zero=>intro i;rfl
  |succ fuel ih=>intro i;rw[gP,cK,ih]
 unfold j7 dC;rw[key];try rfl
theorem zp(a b d:af)(h1:decide (ae a b<0)=true)(h2:decide (ae b d<0)=true):decide (ae a d<0)=true:=by
 simp only[bT,decide_eq_true_eq,d6]at*;exact eU a b d h1 h2
def bJ(l:List af):Prop:=l.Pairwise (fun a b=>bj a b=true)
theorem iF(l:List af):dC l ae=true↔bJ l:=by
 rw[oJ l _ zp];unfold bJ;simp only[bT,d6]
theorem pB(l:List ba):eT l fz=true↔bJ (l.map (·.tag)):=by
 rw[oK l fz (fun a b d=>zp a.tag b.tag d.tag)];unfold bJ;rw[List.pairwise_map];have: ∀a b:ba,fz a b=ae a.tag b.tag:=fun _ _=>rfl;simp only[this,bT,d6]
theorem oL(l:List bt):ej l=l.map (·.tag):=by
 unfold ej;rw[nk l (fun acc x=>acc++ [x.tag]) (fY l) (fun _ _ _ _=>rfl)];simp only[pE,List.nil_append]
theorem lY{x:List af}(hx:bJ x)(t:af): ∃q:Int,(cJ x t ae)=(q,decide (t∈x))∧0≤q∧q≤x.length∧(∀k:Int,0≤k→k<q→bj (ix x k) t=true)∧(∀k:Int,q≤k→k<x.length→bj (ix x k) t=false):=by
 have hp: ∀a b:Int,0≤a→a<b→b<x.length→bj (ix x a) (ix x b)=true:=fun a b h0 h1 h2=>by
  have:=List.pairwise_iff_getElem.1 hx a.toNat b.toNat (by omega) (by omega) (by omega);rw[←dD x (by omega),←dD x (by omega)]at this;rw[show((a.toNat:Nat):Int)=a by omega,show((b.toNat:Nat):Int)=b by omega]at this;exact this
 obtain⟨q,h,h0,h1,h2,h3⟩:=nL x (fun a=>ae a t) (fV x t ae) (fun _ _ _=>rfl) (fun a b ha hab hb hc=>by
   simp only[bT,d6]at*;exact eU _ _ _ (hp a b ha hab hb) hc) (((x.length:Int)-(0:Int)).toNat+1) 0 x.length (by omega) (by omega) (by omega) (by omega) (fun _ _ _=>by omega) (fun _ _ _=>by omega)
 simp only[bT,d6]at h2 h3;refine⟨q,?_,h0,h1,h2,fun k a b=>by simpa using h3 k a b⟩;unfold cJ;rw[h];simp only;by_cases hlt:q<(x.length:Int)
 ·congr 1;rw[decide_eq_true hlt,Bool.true_and,bT,Bool.eq_iff_iff,decide_eq_true_eq,ng,decide_eq_true_eq];constructor
  ·intro e;rw[←e];exact wh x h0 hlt
  ·intro hm;obtain⟨k,hk,rfl⟩:=List.getElem_of_mem hm;rcases Int.lt_trichotomy (k:Int) q with hkq|hkq|hkq
   ·have:=h2 k (by omega) hkq;rw[dD x hk,dJ]at this;cases this
   ·rw[←hkq,dD x hk]
   ·have h4:=hp q k h0 hkq (by omega);rw[dD x hk]at h4;exact absurd h4 (h3 q (by omega) hlt)
 ·congr 1;rw[decide_eq_false hlt,Bool.false_and];symm;rw[decide_eq_false_iff_not];intro hm;obtain⟨k,hk,rfl⟩:=List.getElem_of_mem hm;have:=h2 k (by omega) (by omega);rw[dD x hk,dJ]at this;cases this
theorem rf{x:List af}(hx:bJ x)(t:af):(cJ x t ae).2=decide (t∈x):=by
 obtain⟨q,h,_⟩:=lY hx t;rw[h]
structure wc(s:aY):Prop where
 adds: ∀a∈s.adds,kD a.tag
 gone: ∀t∈s.gone,kD t
structure wd(s:be):Prop where
 puts: ∀a∈s.puts,kD a.tag
 gone: ∀t∈s.gone,kD t
theorem uE{l:List af}(h:bJ l)(t:af):kP l t=decide (t∈l):=rf h t
end Go.Proofs.YtiliglahlfkikaaGreatDoor.V
end

section
set_option linter.unusedVariables false
set_option linter.unusedSimpArgs false
namespace Go.Proofs.YtiliglahlfkikaaGreatDoor.V
open Go.RowKit Go.Shelf Go.Lib Go.Sort
theorem IV{α R:Type} [Inhabited α](x:List α)(p:α→Bool)(c:α→Int)(hc: ∀a,c a<0↔p a=true)(L:Nat→Int→Int→R⊕(Int×Int))(hL: ∀fuel i j,L (fuel+1) i j=if i<j then(if c (ix x ((i+j)/2))<0 then L fuel ((i+j)/2+1) j else L fuel i ((i+j)/2))else .inr (i,j))
  (mono:x.Pairwise (fun a b=>p b=true→p a=true)):L (((x.length:Int)-(0:Int)).toNat+1) 0 x.length= .inr (((x.takeWhile p).length:Int),((x.takeWhile p).length:Int)):=by
 obtain⟨q,h,h0,h1,h2,h3⟩:=nL x c L hL (fun a b ha hab hb hcb=>by
  rw[hc]at*;have:=List.pairwise_iff_getElem.1 mono a.toNat b.toNat (by omega) (by omega) (by omega);rw[←dD x (by omega),←dD x (by omega),show((a.toNat:Nat):Int)=a by omega,show((b.toNat:Nat):Int)=b by omega]at this;exact this hcb) (((x.length:Int)-(0:Int)).toNat+1) 0 x.length (by omega) (by omega) (by omega) (by omega) (fun _ _ _=>by omega) (fun _ _ _=>by omega)
 have:=Es p x q.toNat (fun k hk hkl=>by
  have:=(hc _).1 (h2 k (by omega) (by omega));rw[dD x hkl]at this;exact this) (fun k hk hkl=>by
  have:=h3 k (by omega) (by omega);rw[hc,dD x hkl]at this;simpa using this) (by omega)
 rw[h,this];congr 1;have:((q.toNat:Nat):Int)=q:=by omega
 rw[this]
structure Ox(s:aY):Prop where
 la:s.adds.length≤4096
 lg:s.gone.length≤4096
 ra:bJ (s.adds.map (·.tag))
 rg:bJ s.gone
 dj: ∀a∈s.adds,a.tag∉s.gone
theorem uF{α:Type}(f:α→af){l:List α}(h:bJ (l.map f))(t:af):l.Pairwise (fun a b=>bj (f b) t=true→bj (f a) t=true):=by
 unfold bJ at h;rw[List.pairwise_map]at h;exact h.imp fun{a b} hab hb=>eU _ _ _ hab hb
theorem pC{l:List ba}(h:bJ (l.map (·.tag)))(t:af):ef l t de=(((l.takeWhile (fun a=>bj a.tag t)).length:Int),decide (t∈l.map (·.tag))):=by
 unfold ef;rw[IV l (fun a=>bj a.tag t) (fun a=>de a t) (fun a=>by unfold de;rw[bT];exact d6 _ _) (fW l t de) (fun _ _ _=>rfl) (uF (fun a:ba=>a.tag) h t)];simp only;have e:=List.takeWhile_append_dropWhile (p:=fun a:ba=>bj a.tag t) (l:=l);have hd:=rj (fun a:ba=>bj a.tag t) l;by_cases hlt:(((l.takeWhile (fun a=>bj a.tag t)).length:Int))<(l.length:Int)
 ·have hlt':(l.takeWhile (fun a=>bj a.tag t)).length<l.length:=by omega
  congr 1;rw[decide_eq_true hlt,Bool.true_and,dD l hlt',Bool.eq_iff_iff,decide_eq_true_eq,decide_eq_true_eq];unfold de;rw[bT,ng];have hdc:=List.drop_eq_getElem_cons hlt';rw[hd]at hdc;constructor
  ·intro he;rw[←he];exact List.mem_map_of_mem (List.getElem_mem _)
  ·intro hm;obtain⟨a,ha,rfl⟩:=List.mem_map.1 hm;rw[←e]at ha;rcases List.mem_append.1 ha with h1|h1
   ·have:=List.all_eq_true.1 (List.all_takeWhile (p:=fun x:ba=>bj x.tag a.tag) (l:=l)) a h1;rw[dJ]at this;cases this
   ·rw[hdc]at h1;rcases List.mem_cons.1 h1 with h2|h2
    ·rw[←h2]
    ·exfalso;have hr:bJ ((l.dropWhile (fun x=>bj x.tag a.tag)).map (·.tag)):=by
      unfold bJ at h⊢;exact h.sublist ((List.dropWhile_sublist _).map _)
     rw[hdc]at hr;unfold bJ at hr;rw[List.map_cons,List.pairwise_cons]at hr;have h3:=hr.1 a.tag (List.mem_map_of_mem h2);have h4:bj (l[(l.takeWhile (fun x=>bj x.tag a.tag)).length]).tag a.tag=false:=by
      have:=List.head?_dropWhile_not (fun x:ba=>bj x.tag a.tag) l;rw[hdc,List.head?_cons]at this;exact this
     rw[h3]at h4;cases h4
 ·congr 1;rw[decide_eq_false hlt,Bool.false_and];symm;rw[decide_eq_false_iff_not];intro hm;obtain⟨a,ha,rfl⟩:=List.mem_map.1 hm;have hlen:=congrArg List.length e;rw[List.length_append]at hlen;have:l.dropWhile (fun x=>bj x.tag a.tag)= []:=List.eq_nil_of_length_eq_zero (by omega);rw[this,List.append_nil]at e;rw[←e]at ha;have:=List.all_eq_true.1 (List.all_takeWhile (p:=fun x:ba=>bj x.tag a.tag) (l:=l)) a ha;rw[dJ]at this;cases this
theorem zq(a b:af)(h1:bj a b=false)(h2:bj b a=false):a=b:=by
 rcases j9 a b with h|h|h
 ·rw[h]at h1;cases h1
 ·exact h
 ·rw[h]at h2;cases h2
theorem pD(l:List af):bJ (dd (aV ae l))∧(∀x,x∈dd (aV ae l)↔x∈l):=by
 have e: ∀a b,ltOf ae a b=bj a b:=fun a b=>by
  unfold ltOf;rw[bT,Bool.eq_iff_iff,decide_eq_true_iff];exact d6 a b
 have hp:(aV ae l).Perm l:=List.mergeSort_perm _ _;have hs:(aV ae l).Pairwise (fun a b=>bj b a=false):=by
  have:=List.pairwise_mergeSort (le:=fun x y=>!(ltOf ae) y x) (fun a b c h1 h2=>by
   simp only[e,Bool.not_eq_true']at*;rcases j9 c a with h|h|h
   ·rcases j9 b a with g|g|g
    ·rw[g]at h1;cases h1
    ·subst g;rw[h]at h2;cases h2
    ·have:=eU c a b h g;rw[this]at h2;cases h2
   ·subst h;exact dJ c
   ·exact eV h) (fun a b=>by
   simp only[e,Bool.or_eq_true,Bool.not_eq_true'];rcases j9 a b with h|h|h
   ·exact .inl (eV h)
   ·subst h;exact .inl (dJ a)
   ·exact .inr (eV h)) l
  exact this.imp fun{a b} h=>by simpa only[e,Bool.not_eq_true']using h
 refine⟨xm bj zq eU _ hs,fun x=>by rw[zr];exact hp.mem_iff⟩
structure Oy(s:be):Prop where
 lp:s.puts.length≤4096
 lg:s.gone.length≤4096
 rt:s.gone.any cA=false
 rp:bJ (s.puts.map (·.tag))
 rg:bJ s.gone
 dj: ∀a∈s.puts,a.tag∉s.gone
theorem uG{l:List af}(h:bJ l)(t:af):cJ l t ae=(((l.takeWhile (fun a=>bj a t)).length:Int),decide (t∈l)):=by
 obtain⟨q,e,h0,h1,h2,h3⟩:=lY h t;rw[e];congr 1;have:=Es (fun a=>bj a t) l q.toNat (fun k hk hkl=>by
  have:=h2 k (by omega) (by omega);rw[dD l hkl]at this;exact this) (fun k hk hkl=>by
  have:=h3 k (by omega) (by omega);rw[dD l hkl]at this;exact this) (by omega)
 rw[this];omega
theorem GA{α β:Type}(f:α→β)(p:β→Bool)(l:List α):((l.map f).takeWhile p).length=(l.takeWhile (fun x=>p (f x))).length:=by
 rw[List.takeWhile_map,List.length_map];rfl
theorem CG(vv:List Int){id:gi}(h:0≤id.seq):aK vv id=gx vv id:=by
 unfold aK gx;have:d4 id=0↔ed id=0:=by
  rw[xl];unfold d4;simp only[or_assoc];by_cases c:(id.origin<0)∨(7<id.origin)∨(id.seq<1)∨(1048576<id.seq)
  ·rw[if_pos c,if_pos (by omega)]
  ·rw[if_neg c,if_neg (by omega)]
 simp only[this]
theorem tc(s:bY):eI s=if 0≤s.plus∧s.plus≤1125899906842624∧0≤s.minus∧s.minus≤1125899906842624 then 0 else 2:=by
 unfold eI;obtain⟨q,h⟩:=kb [s.plus,s.minus] (fun x=>decide (0≤x∧x≤1125899906842624)) 2 (fA s) (fun fuel i _=>by
  rw[fA];show(if i<2 then _ else _)=(if i<2 then _ else _)
  split
  ·by_cases x:ix [s.plus,s.minus] i<0∨1125899906842624<ix [s.plus,s.minus] i
   ·rw[if_pos x,if_neg (by simp;omega)]
   ·rw[if_neg x,if_pos (by simp;omega)]
  ·rfl)
 rw[show(((2:Int)-(0:Int)).toNat+1)=((([s.plus,s.minus].length:Int))-(0:Int)).toNat+1 from rfl,h];by_cases hb:0≤s.plus∧s.plus≤1125899906842624∧0≤s.minus∧s.minus≤1125899906842624
 ·rw[if_pos hb,if_pos (by simp;omega)]
 ·rw[if_neg hb,if_neg (by simp;omega)]
theorem qa(lo hi:Int)(l:List Int):gC lo hi l=l.all (fun x=>decide (lo≤x∧x≤hi)):=by
 unfold gC;obtain⟨q,h⟩:=kb l (fun x=>decide (lo≤x∧x≤hi)) false (eQ lo hi l) (fun fuel i _=>by
  rw[eQ];split
  ·by_cases x:ix l i<lo∨hi<ix l i
   ·rw[if_pos x,if_neg (by simp;omega)]
   ·rw[if_neg x,if_pos (by simp;omega)]
  ·rfl)
 rw[h];by_cases e:l.all (fun x=>decide (lo≤x∧x≤hi))=true
 ·rw[if_pos e,e]
 ·rw[if_neg e];simp only;symm;simpa using e
theorem CH{a b:Int}(h: -1125899906842624≤a∧a≤1125899906842624∧ -1125899906842624≤b∧b≤1125899906842624):eM a b=if -1125899906842624≤a+b∧a+b≤1125899906842624 then(a+b,0)else(0,12):=by
 unfold eM;rw[qa,qa,bX (by omega),if_pos (by simp;omega)];by_cases e: -1125899906842624≤a+b∧a+b≤1125899906842624
 ·rw[if_pos e,if_pos (by simp;omega)]
 ·rw[if_neg e,if_neg (by simp;omega)]
end Go.Proofs.YtiliglahlfkikaaGreatDoor.V
end

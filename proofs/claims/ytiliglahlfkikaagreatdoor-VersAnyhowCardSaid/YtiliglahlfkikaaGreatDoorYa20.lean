/- Plain laws: objects: the program's steps are the document's; what stands in memory stays so. -/
import Derived.Test.YtiliglahlfkikaaGreatDoorYa19
import Derived.Test.YtiliglahlfkikaaGreatDoorYa14
import Derived.Test.YtiliglahlfkikaaGreatDoorYa3
section
set_option linter.unusedVariables false
set_option linter.unusedSimpArgs false
set_option maxRecDepth 20000
set_option maxHeartbeats 4000000
namespace Go.Proofs.YtiliglahlfkikaaGreatDoor.V
open Go.RowKit
theorem mw(x y:Int):jX x y=if x<y then -1 else if y<x then 1 else 0:=by
 unfold jX;simp[lF]
theorem ux(x y:Int):lJ x y=if x<y then -1 else if y<x then 1 else 0:=by
 unfold lJ;simp[lG]
theorem pN(x y:Int):fe [x,y]=if x=0 then y else x:=by
 have e1:ix [x,y] 1=y:=rfl;have e0:ix [x,y] 0=x:=rfl;unfold fe;rw[show((↑[x,y].length:Int)- 0).toNat+1=3 from rfl,d5,d5,d5,d5];rw[show(0:Int)+1=1 from rfl,e0,e1];by_cases hx:x=0<;>by_cases hy:y=0<;>simp[hx,hy]
theorem nc(a b:ae):af a b=if a.id.origin<b.id.origin then -1 else if b.id.origin<a.id.origin then 1 else if a.id.seq<b.id.seq then -1 else if b.id.seq<a.id.seq then 1 else if a.n<b.n then -1 else if b.n<a.n then 1 else 0:=by
 unfold af ep;rw[pN,pN,mw,mw,ux]
 repeat' split
 all_goals omega
theorem pO{a b:ae}(h1:a.id.origin=b.id.origin)(h2:a.id.seq=b.id.seq)(h3:a.n=b.n):a=b:=by
 obtain⟨⟨a1,a2⟩,a3⟩:=a;obtain⟨⟨b1,b2⟩,b3⟩:=b;simp only at h1 h2 h3;subst h1;subst h2;subst h3;rfl
open Go.Shelf Go.Lib Go.Sort
theorem kN(a b:ae):ltOf af a b=decide (a.id.origin<b.id.origin∨a.id.origin=b.id.origin∧(a.id.seq<b.id.seq∨a.id.seq=b.id.seq∧a.n<b.n)):=by
 unfold ltOf;rw[nc,decide_eq_decide]
 repeat' split
 all_goals omega
theorem ip(l:List ae):gC l af:=by
 refine⟨⟨fun x=>?_,fun x y z h1 h2=>?_,fun x y z h1 h2=>?_⟩,fun x _ y _ h1 h2=>?_⟩
 ·rw[kN];simp
 ·rw[kN,decide_eq_true_iff]at*;omega
 ·rw[kN,decide_eq_false_iff_not]at*;omega
 ·rw[kN,decide_eq_false_iff_not]at h1 h2;exact pO (by omega) (by omega) (by omega)
theorem oG(l:List bl):(eG l).length≤l.length:=by
 have key: ∀(n:Nat) (i:Int) (s:List ae),0≤i→(s.length:Int)≤i→i≤l.length→ ∃j t,fK l n i s= .inr (j,t)∧t.length≤l.length:=fun n=>by
  induction n with
  |zero=>intro i s h0 h1 h2;exact⟨i,s,rfl,by omega⟩
  |succ n ih=>
   intro i s h0 h1 h2;rw[fK];split
   ·exact ih _ _ (by omega) (by simp;omega) (by omega)
   ·exact⟨i,s,rfl,by omega⟩
 obtain⟨j,t,h,ht⟩:=key (((l.length:Int)- 0).toNat+1) 0 [] (by omega) (by simp) (by omega);unfold eG;rw[h];exact ht
def gm(s:aX)(tags:List ae):aX×Int:=
 if dK s=0 then
  if 4096<(tags.length:Int)then
   (aX.mk [] [],8)
  else
   if(bL tags fun(t:ae)=>dB t)=true then
    (aX.mk [] [],2)
   else
    if 4096<((dd (be (fun(t t':ae)=>af t t') (s.gone++tags))).length:Int)then
     (aX.mk [] [],4)
    else
     (aX.mk (List.filter (fun(x:bj)=>!kL x (aX.mk [] (dd (be (fun(t t':ae)=>af t t') (s.gone++tags))))) s.adds) (dd (be (fun(t t':ae)=>af t t') (s.gone++tags))),0)
 else
  (aX.mk [] [],dK s)
def NR:aZ U:=⟨[.d (.st 8),.d (.sl (.st 1))],fun xs es K=> ∃(s:aX) (tags:List ae),xs= [(uU s),(ls tags)]∧es= []∧(s.adds.length≤1000000)∧(s.gone.length≤900000)∧((fun(r0:aX) (r1:Int)=>r0.adds.length≤4097∧r0.gone.length≤4097) ((gm s tags).1) ((gm s tags).2)→K (.tup [(uU ((gm s tags).1)),(vi ((gm s tags).2))]) [])⟩
theorem NS:Fk 82 NR:=by
 refine fo Tryz.f82 [.d (.st 8),.d (.int .i64)] [] (aa GV (aa xP (aa yf (aa AS (aa AR (aa Hd (aa E3 (aa Hh (aa Lv (aa Kn aj)))))))))) fun xs es K=>?_;rintro⟨s,tags,rfl,rfl,h1,h2,h⟩;refine⟨rfl,?_⟩;have hf0:=gm.eq_1 s tags;refine⟨_,rfl,rfl,(by omega),?_⟩;refine fun _=>?_;refine wN hf0 (fun h1 hf0=>?_) fun h1 hf0=>?_
 ·rw[hf0]at h;exact h (by simp)
 ·refine fl (x:=tags.length) fun h2=>?_;refine wI hf0 (fun _ hf0=>?_) fun _ hf0=>?_
  ·rw[hf0]at h;exact h (by simp)
  ·refine⟨fun(t:ae)=>dB t,fun t0=>⟨_,rfl,rfl,rfl,rfl⟩,?_⟩;refine⟨_,_,rfl,rfl,?_⟩;refine wI hf0 (fun _ hf0=>?_) fun _ hf0=>?_
   ·rw[hf0]at h;exact h (by simp)
   ·refine⟨_,_,rfl,rfl,(show s.gone.length≤(1000000:Nat)from by omega),(show tags.length≤(1000000:Nat)from by omega),?_⟩;refine⟨fun(t t':ae)=>af t t',fun t0 t1=>⟨_,_,rfl,rfl,rfl,rfl⟩,?_⟩;refine⟨_,_,rfl,rfl,(ip _),(show(s.gone++tags).length<(4611686018427387904:Nat)from by(simp only[List.length_append,List.length_cons,List.length_nil];omega)),?_⟩;refine⟨_,rfl,rfl,?_⟩;refine fl (x:=(dd (be (fun(t t':ae)=>af t t') (s.gone++tags))).length) fun _=>?_;refine wI hf0 (fun h6 hf0=>?_) fun h6 hf0=>?_
    ·rw[hf0]at h;exact h (by simp)
    ·refine⟨_,rfl,rfl,(by assumption),?_⟩;refine⟨fun(t:bj)=>kL t (aX.mk [] (dd (be (fun(t t':ae)=>af t t') (s.gone++tags)))),fun t0=>⟨_,_,rfl,rfl,(Nat.le_trans (Int.ofNat_le.1 (Int.not_lt.1 h6)) (show(4096:Nat)≤1000000 by decide)),rfl,rfl⟩,?_⟩;refine⟨_,_,rfl,rfl,?_⟩;rw[hf0]at h;exact h (by(dsimp only;exact⟨Nat.le_trans (List.length_filter_le _ _) (by omega),Nat.le_trans (Int.ofNat_le.1 (Int.not_lt.1 h6)) (by decide)⟩))
def ew(s:aX):Nat→Int→(List (List UInt8))→(List (List UInt8))⊕(Int×(List (List UInt8)))
 |0,s12,s3=> .inr (s12,s3)
 |n1+1,s12,s3=>
  if s12<(s.adds.length:Int)then
   ew s n1 (s12+1) (s3++ [(ix s.adds s12).elem])
  else
   .inr (s12,s3)
def bt(s:aX):List (List UInt8):=
 if dK s=0 then
  match ew s (((s.adds.length:Int)- 0).toNat+1) 0 ([]:List (List UInt8))with
  | .inl r=>r
  | .inr (s12,s3)=>
   MB (hU s3)
 else
  []
def NT:aZ U:=⟨[.d (.st 8)],fun xs es K=> ∃(s:aX),xs= [(uU s)]∧es= []∧(s.adds.length≤1000000)∧(s.gone.length≤1000000)∧K (.v (F3 (bt s))) []⟩
theorem NU:Fk 65 NT:=by
 refine fo Tryz.f65 [.d (.sl .str)] [] (aa AS (aa LH (aa LC aj))) fun xs es K=>?_;rintro⟨s,rfl,rfl,h1,h2,h⟩;refine⟨rfl,?_⟩;have hf0:=bt.eq_1 s;refine⟨_,rfl,rfl,(by omega),?_⟩;refine fun _=>?_;refine wN hf0 (fun h1 hf0=>e0) fun h1 hf0=>?_;refine fl (x:=s.adds.length) fun h2=>?_;refine lI (σ:=Int×(List (List UInt8))) 2 (fun(s12,s3)=> [(2,.v ⟨false,[(1,.nils)]⟩),(3,.v (vo 1)),(10,.v (zj s.adds)),(11,.v (vi (s.adds.length:Int))),(12,.v (vi s12))]) (fun(s12,s3)=> [(1,.row 0 .str s3 9)]) (fun(s12,s3)=>((s.adds.length:Int)- s12).toNat) (fun(s12,s3)=>(0≤s12)∧(s12≤(s.adds.length:Int))∧((s3.length:Int)≤s12)∧True) (fun n1 (s12,s3)=>ew s n1 s12 s3) (ew s (((s.adds.length:Int)- 0).toNat+1) 0 ([]:List (List UInt8))) [] ((0:Int),([]:List (List UInt8))) ?_;rintro⟨s12,s3⟩ ⟨n1,hc1,⟨hi1_0,hi1_1,hi1_2,-⟩,hf1⟩;have hf1:=hf1.trans (ew.eq_2 s s12 s3 n1);refine wI hf1 (fun _ hf1=>?_) fun _ hf1=>?_
 ·refine vx s12 s.adds ?_;refine vs (P:=(s3.length+ [(ix s.adds s12).elem].length)*(16:Nat)≤(140737488355328:Nat)) ?_;refine dJ ?_;exact nx (s:=(s12,s3)) [] (s12+1,s3++ [(ix s.adds s12).elem]) hc1 hf1
 ·rw[hf1]at hf0;refine⟨_,rfl,rfl,(by omega),?_⟩;refine⟨_,rfl,rfl,?_⟩;exact e0
def dv(s:aX)(v:List Int):aX×Int:=
 if dK s=0 then
  (aX.mk s.adds (List.filter (fun(x:ae)=>!gk x v) s.gone),0)
 else
  (aX.mk [] [],dK s)
def KN:aZ U:=⟨[.d (.st 8),.d (.arr 8 (.int .u32))],fun xs es K=> ∃(s:aX) (v:List Int),xs= [(uU s),(ia v)]∧es= []∧(s.adds.length≤1000000)∧(s.gone.length≤1000000)∧((fun(r0:aX) (r1:Int)=>r0.adds.length≤4097∧r0.gone.length≤4097) ((dv s v).1) ((dv s v).2)→K (.tup [(uU ((dv s v).1)),(vi ((dv s v).2))]) [])⟩
theorem KP:Fk 106 KN:=by
 refine fo Tryz.f106 [.d (.st 8),.d (.int .i64)] [] (aa Ga (aa yf (aa AS (aa Kp (aa He aj))))) fun xs es K=>?_;rintro⟨s,v,rfl,rfl,h1,h2,h⟩;refine⟨rfl,?_⟩;have hf0:=dv.eq_1 s v;refine⟨_,rfl,rfl,(by omega),?_⟩;refine fun _=>?_;refine wN hf0 (fun h1 hf0=>?_) fun h1 hf0=>?_
 ·rw[hf0]at h;exact h (by simp)
 ·refine dp [(true,0),(true,1),(true,3),(true,4),(true,6),(false,2),(false,5),(false,7),(true,8),(false,9),(true,10)] none (1::2::nw 3) ?_;refine⟨_,rfl,rfl,(by assumption),?_⟩;refine⟨_,rfl,rfl,(by assumption),?_⟩;refine⟨fun(t:ae)=>gk t v,fun t0=>⟨_,_,rfl,rfl,rfl,rfl⟩,?_⟩;refine⟨_,_,rfl,rfl,?_⟩;rw[hf0]at h;exact h (by(dsimp only;exact⟨by omega,Nat.le_trans (List.length_filter_le _ _) (by omega)⟩))
def gS(s:bc):Nat→Int→Int⊕(Int)
 |0,s38=> .inr s38
 |n1+1,s38=>
  if s38<(s.puts.length:Int)then
   if(¬(jc (ix s.puts s38)=true))∨(m9 s.gone (ix s.puts s38).tag=true)then
    .inl 3
   else
    gS s n1 (s38+1)
  else
   .inr s38
def dL(s:bc):Int:=
 if(4096<(s.puts.length:Int))∨(4096<(s.gone.length:Int))then
  8
 else
  if((bL (eG s.puts) fun(t:ae)=>dC t)=true)∨((bL s.gone fun(t:ae)=>dC t)=true)then
   2
  else
   if(¬(mu (eG s.puts)=true))∨(¬(mu s.gone=true))then
    3
   else
    match gS s (((s.puts.length:Int)- 0).toNat+1) 0 with
    | .inl r=>r
    | .inr s38=>
     0
def KQ:aZ U:=⟨[.d (.st 9)],fun xs es K=> ∃(s:bc),xs= [(uV s)]∧es= []∧(s.puts.length≤1000000)∧(s.gone.length≤1000000)∧((fun(r0:Int)=>r0=0→s.puts.length≤4096∧s.gone.length≤4096) (dL s)→K (.v (vi (dL s))) [])⟩
theorem AU:Fk 115 KQ:=by
 refine fo Tryz.f115 [.d (.int .i64)] [] (aa GV (aa EO (aa G0 (aa GZ (aa EP (aa KK aj)))))) fun xs es K=>?_;rintro⟨s,rfl,rfl,h1,h2,h⟩;refine⟨rfl,?_⟩;have hf0:=dL.eq_1 s;refine fl (x:=s.puts.length) fun _=>?_;refine wI hf0 (fun h1 hf0=>?_) fun h1 hf0=>?_
 ·rw[hf0]at h;exact h (by omega)
 ·refine⟨_,rfl,rfl,(by omega),?_⟩;refine⟨fun(t:ae)=>dC t,fun t0=>⟨_,rfl,rfl,rfl,rfl⟩,?_⟩;refine⟨_,_,rfl,rfl,?_⟩;refine⟨_,fun h2=>⟨fun(t:ae)=>dC t,fun t0=>⟨_,rfl,rfl,rfl,rfl⟩,_,_,rfl,rfl,rfl,rfl⟩,rfl,?_⟩;refine wI hf0 (fun _ hf0=>?_) fun _ hf0=>?_
  ·rw[hf0]at h;exact h (by omega)
  ·refine⟨_,rfl,rfl,?_⟩;refine⟨_,fun _=>⟨_,rfl,rfl,rfl,rfl⟩,rfl,?_⟩;refine wI hf0 (fun _ hf0=>?_) fun _ hf0=>?_
   ·rw[hf0]at h;exact h (by omega)
   ·refine fl (x:=s.puts.length) fun _=>?_;refine lI 1 (fun(s38:Int)=> [(1,.v (vp 0)),(2,.v (vi 0)),(36,.v (F2 s.puts)),(37,.v (vi (s.puts.length:Int))),(38,.v (vi s38))]) (fun(s38:Int)=> [(0,.cells [(2,.d (.st 9) s)] 59)]) (fun(s38:Int)=>((s.puts.length:Int)- s38).toNat) (fun(s38:Int)=>(0≤s38)∧(s38≤(s.puts.length:Int))∧True) (fun n1 (s38:Int)=>gS s n1 s38) (gS s (((s.puts.length:Int)- 0).toNat+1) 0) [] (0:Int) ?_;rintro s38 ⟨n1,hc1,⟨hi1_0,hi1_1,-⟩,hf1⟩;have hf1:=hf1.trans (gS.eq_2 s s38 n1);refine wI hf1 (fun _ hf1=>?_) fun _ hf1=>?_
    ·refine vx s38 s.puts ?_;refine⟨_,rfl,rfl,?_⟩;refine⟨_,fun _=>⟨_,_,rfl,rfl,(by omega),rfl,rfl⟩,rfl,?_⟩;refine wI hf1 (fun _ hf1=>?_) fun _ hf1=>?_
     ·rw[hf1]at hf0;rw[hf0]at h;exact h (by omega)
     ·refine dJ ?_;exact nx [] (s38+1) hc1 hf1
    ·rw[hf1]at hf0;rw[hf0]at h;exact h (by omega)
def kO(p:bl)(gone:List (ae)):Bool:=
 m9 gone p.tag
def KT:aZ U:=⟨[.d (.st 4),.n],fun xs es K=> ∃(p:bl) (gone:List (ae)),xs= [(I4 p),⟨false,[(1,.pd (.sl (.st 1)) gone)]⟩]∧es= []∧(gone.length≤1000000)∧K (.v (vb (kO p gone))) []⟩
theorem KU:Fk 150 KT:=by
 refine fo Tryz.f150 [.d .bool] [] (aa EP aj) fun xs es K=>?_;rintro⟨p,gone,rfl,rfl,h2,h⟩;refine⟨rfl,?_⟩;have hf0:=kO.eq_1 p gone;refine⟨_,_,rfl,rfl,(by omega),?_⟩;exact e0
def eU(s:bc)(p:bl):bc×Int:=
 if dL s=0 then
  if dC p.tag=true then
   (bc.mk [] [],2)
  else
   if jc p=true then
    if(((d7 (eG s.puts) p.tag fun(t t':ae)=>af t t').snd)=true)∨(m9 s.gone p.tag=true)then
     (bc.mk (eu s).fst (eu s).snd,0)
    else
     if(s.puts.length:Int)=4096 then
      (bc.mk [] [],4)
     else
      (bc.mk (fW (eu s).fst (d7 (eG s.puts) p.tag fun(t t':ae)=>af t t').fst [p]) (eu s).snd,0)
   else
    (bc.mk [] [],3)
 else
  (bc.mk [] [],dL s)
def NV:aZ U:=⟨[.d (.st 9),.d (.st 4)],fun xs es K=> ∃(s:bc) (p:bl),xs= [(uV s),(I4 p)]∧es= []∧(s.puts.length≤1000000)∧(s.gone.length≤1000000)∧((fun(r0:bc) (r1:Int)=>r0.puts.length≤4097∧r0.gone.length≤4097) ((eU s p).1) ((eU s p).2)→K (.tup [(uV ((eU s p).1)),(vi ((eU s p).2))]) [])⟩
theorem NW:Fk 83 NV:=by
 refine fo Tryz.f83 [.d (.st 9),.d (.int .i64)] [] (aa xP (aa AU (aa EO (aa G0 (aa EM (aa GZ (aa GY (aa EP (aa Lj aj))))))))) fun xs es K=>?_;rintro⟨s,p,rfl,rfl,h1,h2,h⟩;refine⟨rfl,?_⟩;have hf0:=eU.eq_1 s p;refine⟨_,rfl,rfl,(by omega),(by omega),?_⟩;refine fun _=>?_;refine wN hf0 (fun h1 hf0=>?_) fun h1 hf0=>?_
 ·rw[hf0]at h;exact h (by simp)
 ·refine⟨_,rfl,rfl,?_⟩;refine wI hf0 (fun h2 hf0=>?_) fun h2 hf0=>?_
  ·rw[hf0]at h;exact h (by simp)
  ·refine⟨_,rfl,rfl,?_⟩;refine wN hf0 (fun _ hf0=>?_) fun _ hf0=>?_
   ·rw[hf0]at h;exact h (by simp)
   ·refine dp [(true,0),(true,1),(true,3),(true,4),(false,2),(false,5),(true,6),(true,7),(true,8),(true,9),(true,10)] none (nw 3) ?_;refine⟨_,rfl,rfl,(by omega),?_⟩;refine⟨fun(t t':ae)=>af t t',fun t0 t1=>⟨_,_,rfl,rfl,rfl,rfl⟩,?_⟩;refine⟨_,_,_,rfl,rfl,(by(have hg:=oG s.puts;omega)),?_⟩;refine⟨_,rfl,rfl,(by omega),(by omega),?_⟩;refine⟨_,fun _=>⟨_,_,rfl,rfl,(by omega),rfl,rfl⟩,rfl,?_⟩;refine wI hf0 (fun _ hf0=>?_) fun _ hf0=>?_
    ·rw[hf0]at h;exact h (by(have e:eu s=(s.puts,s.gone):=rfl;simp only[e];omega))
    ·refine fl (x:=s.puts.length) fun _=>?_;refine wI hf0 (fun _ hf0=>?_) fun _ hf0=>?_
     ·rw[hf0]at h;exact h (by simp)
     ·refine⟨_,_,_,rfl,rfl,((ri _ _ _).1),(show(d7 (eG s.puts) p.tag fun(t t':ae)=>af t t').fst≤(↑(eu s).fst.length:Int)from by(have hg:=oG s.puts;have h8:=(ri (eG s.puts) p.tag (fun t t1=>af t t1)).2;have h9:(eu s).1=s.puts:=rfl;rw[h9];omega)),(by assumption),?_⟩;rw[hf0]at h;exact h (by(have e:eu s=(s.puts,s.gone):=rfl;dsimp only;rw[rh,e];simp only[List.length_cons,List.length_nil];omega))
def go(s:bc)(l:List ae):bc×Int:=
 if dL s=0 then
  if 4096<(l.length:Int)then
   (bc.mk [] [],8)
  else
   if(bL l fun(t:ae)=>dC t)=true then
    (bc.mk [] [],2)
   else
    if 4096<((dd (be (fun(t t':ae)=>af t t') (s.gone++l))).length:Int)then
     (bc.mk [] [],4)
    else
     (bc.mk (List.filter (fun(x:bl)=>!kO x (dd (be (fun(t t':ae)=>af t t') (s.gone++l)))) s.puts) (dd (be (fun(t t':ae)=>af t t') (s.gone++l))),0)
 else
  (bc.mk [] [],dL s)
def NX:aZ U:=⟨[.d (.st 9),.d (.sl (.st 1))],fun xs es K=> ∃(s:bc) (l:List ae),xs= [(uV s),(ls l)]∧es= []∧(s.puts.length≤1000000)∧(s.gone.length≤900000)∧((fun(r0:bc) (r1:Int)=>r0.puts.length≤4097∧r0.gone.length≤4097) ((go s l).1) ((go s l).2)→K (.tup [(uV ((go s l).1)),(vi ((go s l).2))]) [])⟩
theorem NY:Fk 84 NX:=by
 refine fo Tryz.f84 [.d (.st 9),.d (.int .i64)] [] (aa GV (aa xP (aa Bh (aa AU (aa Hd (aa E3 (aa Hh (aa EO (aa Lz (aa KU aj)))))))))) fun xs es K=>?_;rintro⟨s,l,rfl,rfl,h1,h2,h⟩;refine⟨rfl,?_⟩;have hf0:=go.eq_1 s l;refine⟨_,rfl,rfl,(by omega),(by omega),?_⟩;refine fun _=>?_;refine wN hf0 (fun h1 hf0=>?_) fun h1 hf0=>?_
 ·rw[hf0]at h;exact h (by simp)
 ·refine fl (x:=l.length) fun h2=>?_;refine wI hf0 (fun _ hf0=>?_) fun _ hf0=>?_
  ·rw[hf0]at h;exact h (by simp)
  ·refine⟨fun(t:ae)=>dC t,fun t0=>⟨_,rfl,rfl,rfl,rfl⟩,?_⟩;refine⟨_,_,rfl,rfl,?_⟩;refine wI hf0 (fun _ hf0=>?_) fun _ hf0=>?_
   ·rw[hf0]at h;exact h (by simp)
   ·refine⟨_,_,rfl,rfl,(show s.gone.length≤(1000000:Nat)from by omega),(show l.length≤(1000000:Nat)from by omega),?_⟩;refine⟨fun(t t':ae)=>af t t',fun t0 t1=>⟨_,_,rfl,rfl,rfl,rfl⟩,?_⟩;refine⟨_,_,rfl,rfl,(ip _),(show(s.gone++l).length<(4611686018427387904:Nat)from by(simp only[List.length_append,List.length_cons,List.length_nil];omega)),?_⟩;refine⟨_,rfl,rfl,?_⟩;refine fl (x:=(dd (be (fun(t t':ae)=>af t t') (s.gone++l))).length) fun _=>?_;refine wI hf0 (fun h6 hf0=>?_) fun h6 hf0=>?_
    ·rw[hf0]at h;exact h (by simp)
    ·refine⟨_,rfl,rfl,(by assumption),?_⟩;refine⟨fun(t:bl)=>kO t (dd (be (fun(t t':ae)=>af t t') (s.gone++l))),fun t0=>⟨_,_,rfl,rfl,(Nat.le_trans (Int.ofNat_le.1 (Int.not_lt.1 h6)) (show(4096:Nat)≤1000000 by decide)),rfl,rfl⟩,?_⟩;refine⟨_,_,rfl,rfl,?_⟩;rw[hf0]at h;exact h (by(dsimp only;exact⟨Nat.le_trans (List.length_filter_le _ _) (by omega),Nat.le_trans (Int.ofNat_le.1 (Int.not_lt.1 h6)) (by decide)⟩))
def dw(s:bc)(v:List Int):bc×Int:=
 if dL s=0 then
  (bc.mk (eu s).fst (List.filter (fun(x:ae)=>!gl x v) (eu s).snd),0)
 else
  (bc.mk [] [],dL s)
def KV:aZ U:=⟨[.d (.st 9),.d (.arr 8 (.int .u32))],fun xs es K=> ∃(s:bc) (v:List Int),xs= [(uV s),(ia v)]∧es= []∧(s.puts.length≤1000000)∧(s.gone.length≤1000000)∧((fun(r0:bc) (r1:Int)=>r0.puts.length≤4097∧r0.gone.length≤4097) ((dw s v).1) ((dw s v).2)→K (.tup [(uV ((dw s v).1)),(vi ((dw s v).2))]) [])⟩
theorem KW:Fk 107 KV:=by
 refine fo Tryz.f107 [.d (.st 9),.d (.int .i64)] [] (aa AU (aa GY (aa He (aa Kr aj)))) fun xs es K=>?_;rintro⟨s,v,rfl,rfl,h1,h2,h⟩;refine⟨rfl,?_⟩;have hf0:=dw.eq_1 s v;refine⟨_,rfl,rfl,(by omega),(by omega),?_⟩;refine fun _=>?_;refine wN hf0 (fun h1 hf0=>?_) fun h1 hf0=>?_
 ·rw[hf0]at h;exact h (by simp)
 ·refine⟨_,rfl,rfl,(by omega),(by omega),?_⟩;refine⟨fun(t:ae)=>gl t v,fun t0=>⟨_,_,rfl,rfl,rfl,rfl⟩,?_⟩;refine⟨_,_,rfl,rfl,?_⟩;rw[hf0]at h;exact h (by(show s.puts.length≤4097∧(List.filter _ s.gone).length≤4097;exact⟨by omega,Nat.le_trans (List.length_filter_le _ _) (by omega)⟩))
end Go.Proofs.YtiliglahlfkikaaGreatDoor.V
end

section
set_option linter.unusedVariables false
set_option linter.unusedSimpArgs false
set_option maxRecDepth 20000
set_option maxHeartbeats 4000000
namespace Go.Proofs.YtiliglahlfkikaaGreatDoor.V
open Go.RowKit
def gM(b:List Int):Nat→Int→(List Int)→(List Int)⊕(Int×(List Int))
 |0,s5,s2_0=> .inr (s5,s2_0)
 |n1+1,s5,s2_0=>
  if s5<8 then
   gM b n1 (s5+1) (s2_0.set s5.toNat (max (ix s2_0 s5) (ix b s5)))
  else
   .inr (s5,s2_0)
def rk(a:List Int)(b:List Int):List Int:=
 match gM b (((8:Int)-(0:Int)).toNat+1) (0:Int) a with
 | .inl r=>r
 | .inr (s5,s2_0)=>
  s2_0
def Nn:aZ U:=⟨[.d (.arr 8 (.int .u32)),.d (.arr 8 (.int .u32))],fun xs es K=> ∃(a:List Int) (b:List Int),xs= [(ia a),(ia b)]∧es= []∧K (.v (ia (rk a b))) []⟩
theorem MD:Fk 27 Nn:=by
 refine fo Tryz.f27 [.d (.arr 8 (.int .u32))] [] (aj) fun xs es K=>?_;rintro⟨a,b,rfl,rfl,h⟩;refine⟨rfl,?_⟩;have hf0:=rk.eq_1 a b;refine⟨Int×(List Int),3,fun(s5,s2_0)=> [(2,.v ⟨false,[(1,.ptr 0 0)]⟩),(3,.v ⟨false,[(1,.ptr 1 0)]⟩),(4,.v ⟨false,[(1,.ptr 2 0)]⟩),(5,.v ⟨false,[(1,.d (.int .i64) s5)]⟩)],fun(s5,s2_0)=> [(0,.cells [(8,.d (.arr 8 (.int .u32)) s2_0)] 41),(1,.cells [(8,.d (.arr 8 (.int .u32)) b)] 41),(2,.cells [(1,.d (.int .u32) (0:Int)),(1,.d (.int .u32) (0:Int)),(1,.d (.int .u32) (0:Int)),(1,.d (.int .u32) (0:Int)),(1,.d (.int .u32) (0:Int)),(1,.d (.int .u32) (0:Int)),(1,.d (.int .u32) (0:Int)),(1,.d (.int .u32) (0:Int))] 41)],de (fun(s5,s2_0)=>((8:Int)- s5).toNat) (fun(s5,s2_0)=>((0:Int)≤s5)∧(s5≤(8:Int))∧True) (fun n1 (s5,s2_0)=>gM b n1 s5 s2_0) (gM b (((8:Int)-(0:Int)).toNat+1) (0:Int) a),fun(s5,s2_0)=>((8:Int)- s5).toNat,⟨[],((0:Int),a),de.mk0 _ (Nat.lt_succ_self _) ⟨show(0:Int)≤(0:Int)from by omega,show(0:Int)≤(8:Int)from by omega,trivial⟩ rfl,?_⟩,?_⟩
 ·repeat (first|exact trivial|refine And.intro rfl ?_)
 ·rintro⟨s5,s2_0⟩ ⟨n1,hc1,⟨hi1_0,hi1_1,-⟩,hf1⟩;have hf1:=hf1.trans (gM.eq_2 b s5 s2_0 n1);refine vI hf1 iD (fun _ hf1=>?_) (fun _ hf1=>?_)
  ·refine .inl ⟨[(true,0),(true,1),(true,2),(true,3),(true,4),(true,5),(true,6),(true,7),(true,8)],some 9,[3,4,5,6,7,8,9,10,11,12,13,14],by kernel_rfl,?_⟩;refine And.intro (show(0:Int)≤s5∧s5<(↑(8:Nat):Int)from by omega) ?_;refine And.intro (show(0:Int)≤s5∧s5<(↑(8:Nat):Int)from by omega) ?_;refine And.intro (show(0:Int)≤s5∧s5<(↑(8:Nat):Int)from by omega) ?_;refine .inl (And.intro (v6 (p:=s5) (q:=(1:Int)) (r:=s5+(1:Int)) (by omega)) ?_);have hm1:((8:Int)-(s5+(1:Int))).toNat<((8:Int)- s5).toNat:=by omega
   refine⟨[],(s5+(1:Int),s2_0.set s5.toNat (max (ix s2_0 s5) (ix b s5))),hm1,de.next (s:=(s5,s2_0)) hc1 hm1 ⟨show(0:Int)≤s5+(1:Int)from by omega,show s5+(1:Int)≤(8:Int)from by omega,trivial⟩ hf1,?_⟩;repeat (first|exact trivial|refine And.intro rfl ?_)
  ·rw[hf1]at hf0;rw[hf0]at h;exact h
def uv(v:List Int)(id:fm):Bool:=
 decide (fp id=0)&&decide (id.seq≤ix v id.origin)
def No:aZ U:=⟨[.d (.arr 8 (.int .u32)),.d (.st 0)],fun xs es K=> ∃(v:List Int) (id:fm),xs= [(ia v),(Cp id)]∧es= []∧K (.v (vb (uv v id))) []⟩
theorem ME:Fk 26 No:=by
 refine fo Tryz.f26 [.d .bool] [] (aa Nb aj) fun xs es K=>?_;rintro⟨v,id,rfl,rfl,h⟩;refine⟨rfl,?_⟩;have hf0:=uv.eq_1 v id;refine dp [(true,0),(false,1),(true,2),(true,3),(true,4),(true,5),(true,6),(true,7),(true,8),(true,9),(true,10),(true,11),(true,12)] none (nw 2) ?_;refine⟨_,rfl,rfl,?_⟩;refine And.intro (show decide (fp id=(0:Int))=((8:Nat),true).snd→(0:Int)≤id.origin∧id.origin<(↑(8:Nat):Int)from(fun h=>⟨(m4 (of_decide_eq_true h)).1,by have:=(m4 (of_decide_eq_true h)).2.1;simp;omega⟩)) ?_;exact e0
end Go.Proofs.YtiliglahlfkikaaGreatDoor.V
end

section
set_option linter.unusedVariables false
set_option linter.unusedSimpArgs false
set_option maxRecDepth 20000
set_option maxHeartbeats 4000000
namespace Go.Proofs.YtiliglahlfkikaaGreatDoor.V
open Go.RowKit
def ea(a:List aM)(b:List aM):Nat→Int→Bool⊕(Int)
 |0,s5=> .inr s5
 |n1+1,s5=>
  if s5<(a.length:Int)then
   if ix a s5=ix b s5 then
    ea a b n1 (s5+1)
   else
    .inl false
  else
   .inr s5
def je(a:List aM)(b:List aM):Bool:=
 if(a.length:Int)=(b.length:Int)then
  match ea a b (((a.length:Int)- 0).toNat+1) 0 with
  | .inl r=>r
  | .inr s5=>
   true
 else
  false
def NP:aZ U:=⟨[.d (.sl (.st 12)),.d (.sl (.st 12))],fun xs es K=> ∃(a:List aM) (b:List aM),xs= [(r8 a),(r8 b)]∧es= []∧K (.v (vb (je a b))) []⟩
theorem NQ:Fk 63 NP:=by
 refine fo Tryz.f63 [.d .bool] [] (aj) fun xs es K=>?_;rintro⟨a,b,rfl,rfl,h⟩;refine⟨rfl,?_⟩;have hf0:=je.eq_1 a b;refine fl (x:=a.length) fun _=>?_;refine fl (x:=b.length) fun _=>?_;refine wN hf0 (fun _ hf0=>e0) fun _ hf0=>?_;refine lI 0 (fun(s5:Int)=> [(0,.v (r8 a)),(1,.v (r8 b)),(4,.v (vb false)),(5,.v (vi s5))]) (fun(s5:Int)=> []) (fun(s5:Int)=>((a.length:Int)- s5).toNat) (fun(s5:Int)=>(0≤s5)∧(s5≤(a.length:Int))∧True) (fun n1 (s5:Int)=>ea a b n1 s5) (ea a b (((a.length:Int)- 0).toNat+1) 0) [] (0:Int) ?_;rintro s5 ⟨n1,hc1,⟨hi1_0,hi1_1,-⟩,hf1⟩;have hf1:=hf1.trans (ea.eq_2 a b s5 n1);refine fl (x:=a.length) fun _=>?_;refine wI hf1 (fun _ hf1=>?_) fun _ hf1=>e1;refine dp (up 9) none (nw 0) ?_;refine vx s5 a ?_;refine vx s5 b ?_;refine wN hf1 (fun _ hf1=>e1) fun _ hf1=>?_;refine dJ ?_;exact nx [] (s5+1) hc1 hf1
end Go.Proofs.YtiliglahlfkikaaGreatDoor.V
end

section
set_option linter.unusedVariables false
set_option linter.unusedSimpArgs false
namespace Go.Proofs.YtiliglahlfkikaaGreatDoor.V
open Go.RowKit Go.Shelf Go.Lib Go.Sort
def cK(a b:ae):Bool:=decide (a.id.origin<b.id.origin∨(a.id.origin=b.id.origin∧(a.id.seq<b.id.seq∨(a.id.seq=b.id.seq∧a.n<b.n))))
theorem rr(a b c:ae)(h1:cK a b=true)(h2:cK b c=true):cK a c=true:=by
 simp only[cK,decide_eq_true_eq]at*;omega
theorem ji{a b:ae}(h1:cK a b=true):cK b a=false:=by
 simp only[cK,decide_eq_true_eq,decide_eq_false_iff_not]at*;omega
theorem vG(a b:ae):cK a b=true∨a=b∨cK b a=true:=by
 by_cases h:cK a b=true
 ·exact .inl h
 ·by_cases h2:cK b a=true
  ·exact .inr (.inr h2)
  ·refine .inr (.inl (pO ?_ ?_ ?_))<;>simp only[cK,decide_eq_true_eq]at* <;>omega
def pR(a b:ae):Int:=if cK a b=true then -1 else if a=b then 0 else 1
theorem sX(a b:ae):pR a b<0↔cK a b=true:=by
 unfold pR;split
 ·simp[*]
 ·rename_i h;split<;>simp[h]
theorem ru(a b:fm):ep a b=if a.origin<b.origin then -1 else if b.origin<a.origin then 1 else if a.seq<b.seq then -1 else if b.seq<a.seq then 1 else 0:=by
 unfold ep;rw[pN,mw,ux];by_cases h1:a.origin<b.origin
 ·simp[h1]
 ·by_cases h2:b.origin<a.origin
  ·simp[h1,h2]
  ·simp[h1,h2]
theorem oe(a b:ae):af a b=pR a b:=by
 unfold af pR;rw[pN,ru,mw];by_cases h1:a.id.origin<b.id.origin
 ·simp[h1,cK]
 ·by_cases h2:b.id.origin<a.id.origin
  ·have hne: ¬a=b:=fun e=>by subst e;omega
   simp[h1,h2,cK,hne]<;>omega
  ·have e1:a.id.origin=b.id.origin:=by omega
   by_cases h3:a.id.seq<b.id.seq
   ·simp[h1,h2,h3,cK]<;>omega
   ·by_cases h4:b.id.seq<a.id.seq
    ·have hne: ¬a=b:=fun e=>by subst e;omega
     simp[h1,h2,h3,h4,cK,hne]<;>omega
    ·have e2:a.id.seq=b.id.seq:=by omega
     by_cases h5:a.n<b.n
     ·simp[h1,h2,h3,h4,h5,cK]<;>omega
     ·by_cases h6:b.n<a.n
      ·have hne: ¬a=b:=fun e=>by subst e;omega
       simp[h1,h2,h3,h4,h5,h6,cK,hne]<;>omega
      ·have e3:a.n=b.n:=by omega
       have he:a=b:=pO e1 e2 e3;subst he;simp[cK]
def CK(t:ae):Prop:= -9223372036854775808≤t.id.seq∧t.id.seq≤9223372036854775807
def jM(t:ae):Prop:=0≤t.id.seq∧t.id.seq≤4294967295
theorem jM.seq{t:ae}(h:jM t):CK t:=by unfold jM at h;unfold CK;omega
theorem rv(t:ae):bF t=if(t.n<0)∨(16≤t.n)then 2 else if(t.id.origin<0)∨(8≤t.id.origin)∨(t.id.seq=0)∨(1048576<t.id.seq)then 2 else 0:=by
 unfold bF eR;simp only[or_assoc]
theorem xZ{α:Type}(f:α→Bool)(l:List α):decide ((0:Int)≤l9 l f)=l.any f:=by
 unfold l9;cases h:l.findIdx? f with
 |none=>
  rw[List.findIdx?_eq_none_iff]at h;symm;simp only[decide_eq_false_iff_not.2 (show ¬(0:Int)≤ -1 by omega),List.any_eq_false];intro x hx;simp[h x hx]
 |some k=>
  have:=List.findIdx?_eq_some_iff_getElem.1 h;obtain⟨hk,h1,_⟩:=this;symm;simp only[decide_eq_true (show(0:Int)≤(k:Int)by omega),List.any_eq_true];exact⟨_,List.getElem_mem hk,h1⟩
theorem ns(s:List ae)(f:ae→Bool):bL s f=s.any f:=xZ f s
def dM(l:List ae):Prop:=l.Pairwise (fun a b=>cK a b=true)
structure uz(s:aX):Prop where
 adds: ∀a∈s.adds,jM a.tag
 gone: ∀t∈s.gone,jM t
structure uA(s:bc):Prop where
 puts: ∀a∈s.puts,jM a.tag
 gone: ∀t∈s.gone,jM t
end Go.Proofs.YtiliglahlfkikaaGreatDoor.V
end

section
set_option linter.unusedVariables false
set_option linter.unusedSimpArgs false
namespace Go.Proofs.YtiliglahlfkikaaGreatDoor.V
open Go.RowKit Go.Shelf Go.Lib Go.Sort
structure MP(s:aX):Prop where
 la:s.adds.length≤4096
 lg:s.gone.length≤4096
 ra:dM (s.adds.map (·.tag))
 rg:dM s.gone
 dj: ∀a∈s.adds,a.tag∉s.gone
theorem ES(a b:ae)(h1:cK a b=false)(h2:cK b a=false):a=b:=by
 rcases vG a b with h|h|h
 ·rw[h]at h1;cases h1
 ·exact h
 ·rw[h]at h2;cases h2
structure MQ(s:bc):Prop where
 lp:s.puts.length≤4096
 lg:s.gone.length≤4096
 rt:s.gone.any dB=false
 rp:dM (s.puts.map (·.tag))
 rg:dM s.gone
 dj: ∀a∈s.puts,a.tag∉s.gone
end Go.Proofs.YtiliglahlfkikaaGreatDoor.V
end

section
set_option linter.unusedVariables false
set_option linter.unusedSimpArgs false
set_option maxRecDepth 20000
set_option maxHeartbeats 4000000
namespace Go.Proofs.YtiliglahlfkikaaGreatDoor.V
open Go.RowKit
def ng(s:bK):bK:=
 bK.mk s.val s.at_
def NZ:aZ U:=⟨[.d (.st 5)],fun xs es K=> ∃(s:bK),xs= [(FY s)]∧es= []∧K (.v (FY (ng s))) []⟩
theorem N0:Fk 52 NZ:=by
 refine fo Tryz.f52 [.d (.st 5)] [] (aj) fun xs es K=>?_;rintro⟨s,rfl,rfl,h⟩;refine⟨rfl,?_⟩;have hf0:=ng.eq_1 s;exact e0
def nh(s:cg):cg:=
 cg.mk s.plus s.minus
def N1:aZ U:=⟨[.d (.st 6)],fun xs es K=> ∃(s:cg),xs= [(Ge s)]∧es= []∧K (.v (Ge (nh s))) []⟩
theorem N2:Fk 53 N1:=by
 refine fo Tryz.f53 [.d (.st 6)] [] (aj) fun xs es K=>?_;rintro⟨s,rfl,rfl,h⟩;refine⟨rfl,?_⟩;have hf0:=nh.eq_1 s;exact e0
def gT(s:aX):Nat→Int→(List bj)→aX⊕(Int×(List bj))
 |0,s4,e3=> .inr (s4,e3)
 |n1+1,s4,e3=>
  if s4<(s.adds.length:Int)then
   gT s n1 (s4+1) (e3++ [bj.mk (ix s.adds s4).tag (ix s.adds s4).elem])
  else
   .inr (s4,e3)
def ni(s:aX):aX:=
 match gT s (((s.adds.length:Int)- 0).toNat+1) 0 ([]:List bj)with
 | .inl r=>r
 | .inr (s4,e3)=>
  aX.mk e3 s.gone
def N3:aZ U:=⟨[.d (.st 8)],fun xs es K=> ∃(s:aX),xs= [(uU s)]∧es= []∧(s.adds.length≤1000000)∧(s.gone.length≤1000000)∧K (.v (uU (ni s))) []⟩
theorem N4:Fk 54 N3:=by
 refine fo Tryz.f54 [.d (.st 8)] [] (aj) fun xs es K=>?_;rintro⟨s,rfl,rfl,h1,h2,h⟩;refine⟨rfl,?_⟩;have hf0:=ni.eq_1 s;refine lI (σ:=Int×(List bj)) 4 (fun(s4,e3)=> [(1,.v (vp 0)),(2,.v (vp 1)),(3,.v (vp 2)),(4,.v (vi s4))]) (fun(s4,e3)=> [(0,.cells [(2,.d (.st 8) s)] 56),(1,.cells [(1,.nils),(1,.nils)] 70),(2,.cells [(1,.own 3 0),(1,.nils)] 70),(3,.row 0 (.st 7) e3 178)]) (fun(s4,e3)=>((s.adds.length:Int)- s4).toNat) (fun(s4,e3)=>(0≤s4)∧(s4≤(s.adds.length:Int))∧((e3.length:Int)≤s4)∧True) (fun n1 (s4,e3)=>gT s n1 s4 e3) (gT s (((s.adds.length:Int)- 0).toNat+1) 0 ([]:List bj)) [] ((0:Int),([]:List bj)) ?_;rintro⟨s4,e3⟩ ⟨n1,hc1,⟨hi1_0,hi1_1,hi1_2,-⟩,hf1⟩;have hf1:=hf1.trans (gT.eq_2 s s4 e3 n1);refine fl (x:=s.adds.length) fun _=>?_;refine wI hf1 (fun h1 hf1=>?_) fun h1 hf1=>?_
 ·refine dp [(true,0),(true,1),(true,2),(true,3),(true,4),(true,5),(true,6),(true,7),(true,8),(true,9),(true,10),(true,11),(true,12),(true,13),(true,14),(false,15),(false,16),(true,17)] (some 18) (nw 3) ?_;refine vx s4 s.adds ?_;refine vx s4 s.adds ?_;refine vs (P:=(e3.length+ [bj.mk (ix s.adds s4).tag (ix s.adds s4).elem].length)*(40:Nat)≤(140737488355328:Nat)) ?_;refine dJ ?_;exact nx (s:=(s4,e3)) [] (s4+1,e3++ [bj.mk (ix s.adds s4).tag (ix s.adds s4).elem]) hc1 hf1
 ·rw[hf1]at hf0;refine vs (P:=s.gone.length*(24:Nat)≤(140737488355328:Nat)) ?_;exact e0
def gU(s:bc):Nat→Int→(List bl)→bc⊕(Int×(List bl))
 |0,s4,e3=> .inr (s4,e3)
 |n1+1,s4,e3=>
  if s4<(s.puts.length:Int)then
   gU s n1 (s4+1) (e3++ [bl.mk (ix s.puts s4).tag (ix s.puts s4).field (ix s.puts s4).val (ix s.puts s4).at_])
  else
   .inr (s4,e3)
def nj(s:bc):bc:=
 match gU s (((s.puts.length:Int)- 0).toNat+1) 0 ([]:List bl)with
 | .inl r=>r
 | .inr (s4,e3)=>
  bc.mk e3 s.gone
def N5:aZ U:=⟨[.d (.st 9)],fun xs es K=> ∃(s:bc),xs= [(uV s)]∧es= []∧(s.puts.length≤1000000)∧(s.gone.length≤1000000)∧K (.v (uV (nj s))) []⟩
theorem N6:Fk 55 N5:=by
 refine fo Tryz.f55 [.d (.st 9)] [] (aj) fun xs es K=>?_;rintro⟨s,rfl,rfl,h1,h2,h⟩;refine⟨rfl,?_⟩;have hf0:=nj.eq_1 s;refine lI (σ:=Int×(List bl)) 4 (fun(s4,e3)=> [(1,.v (vp 0)),(2,.v (vp 1)),(3,.v (vp 2)),(4,.v (vi s4))]) (fun(s4,e3)=> [(0,.cells [(2,.d (.st 9) s)] 59),(1,.cells [(1,.nils),(1,.nils)] 73),(2,.cells [(1,.own 3 0),(1,.nils)] 73),(3,.row 0 (.st 4) e3 182)]) (fun(s4,e3)=>((s.puts.length:Int)- s4).toNat) (fun(s4,e3)=>(0≤s4)∧(s4≤(s.puts.length:Int))∧((e3.length:Int)≤s4)∧True) (fun n1 (s4,e3)=>gU s n1 s4 e3) (gU s (((s.puts.length:Int)- 0).toNat+1) 0 ([]:List bl)) [] ((0:Int),([]:List bl)) ?_;rintro⟨s4,e3⟩ ⟨n1,hc1,⟨hi1_0,hi1_1,hi1_2,-⟩,hf1⟩;have hf1:=hf1.trans (gU.eq_2 s s4 e3 n1);refine fl (x:=s.puts.length) fun _=>?_;refine wI hf1 (fun h1 hf1=>?_) fun h1 hf1=>?_
 ·refine vx s4 s.puts ?_;refine vs (P:=(e3.length+ [bl.mk (ix s.puts s4).tag (ix s.puts s4).field (ix s.puts s4).val (ix s.puts s4).at_].length)*(64:Nat)≤(140737488355328:Nat)) ?_;refine dJ ?_;exact nx (s:=(s4,e3)) [] (s4+1,e3++ [bl.mk (ix s.puts s4).tag (ix s.puts s4).field (ix s.puts s4).val (ix s.puts s4).at_]) hc1 hf1
 ·rw[hf1]at hf0;refine vs (P:=s.gone.length*(24:Nat)≤(140737488355328:Nat)) ?_;exact e0
def lK(s:aX):Bool:=
 decide (200<(s.adds.length:Int))||decide (200<(s.gone.length:Int))
def N7:aZ U:=⟨[.d (.st 8)],fun xs es K=> ∃(s:aX),xs= [(uU s)]∧es= []∧K (.v (vb (lK s))) []⟩
theorem N8:Fk 60 N7:=by
 refine fo Tryz.f60 [.d .bool] [] (aj) fun xs es K=>?_;rintro⟨s,rfl,rfl,h⟩;refine⟨rfl,?_⟩;have hf0:=lK.eq_1 s;refine fl (x:=s.adds.length) fun _=>?_;exact e0
def lL(s:bc):Bool:=
 decide (100<(s.puts.length:Int))||decide (200<(s.gone.length:Int))
def N9:aZ U:=⟨[.d (.st 9)],fun xs es K=> ∃(s:bc),xs= [(uV s)]∧es= []∧K (.v (vb (lL s))) []⟩
theorem Oa:Fk 61 N9:=by
 refine fo Tryz.f61 [.d .bool] [] (aj) fun xs es K=>?_;rintro⟨s,rfl,rfl,h⟩;refine⟨rfl,?_⟩;have hf0:=lL.eq_1 s;refine fl (x:=s.puts.length) fun _=>?_;exact e0
def cX(e:ab):ab:=
 ab.mk e.act e.name e.val e.tag e.at_ e.tags
def Ob:aZ U:=⟨[.d (.st 3)],fun xs es K=> ∃(e:ab),xs= [(Dx e)]∧es= []∧(e.tags.length≤1000000)∧K (.v (Dx (cX e))) []⟩
theorem sS:Fk 10 Ob:=by
 refine fo Tryz.f10 [.d (.st 3)] [] (aj) fun xs es K=>?_;rintro⟨e,rfl,rfl,h1,h⟩;refine⟨rfl,?_⟩;have hf0:=cX.eq_1 e;refine dp [(true,0),(true,1),(true,2),(true,3),(true,4),(true,5),(true,6),(true,7),(true,8),(true,9),(true,11),(true,12),(false,10),(false,13),(true,14)] (some 15) (nw 2) ?_;refine vs (P:=((0:Nat)+e.tags.length)*(24:Nat)≤(140737488355328:Nat)) ?_;exact e0
def eb(v:bI):Nat→Int→(List aM)→bI⊕(Int×(List aM))
 |0,s4,e3=> .inr (s4,e3)
 |n1+1,s4,e3=>
  if s4<(v.items.length:Int)then
   eb v n1 (s4+1) (e3++ [aM.mk (ix v.items s4).field (ix v.items s4).val])
  else
   .inr (s4,e3)
def lZ(v:bI):bI:=
 match eb v (((v.items.length:Int)- 0).toNat+1) 0 ([]:List aM)with
 | .inl r=>r
 | .inr (s4,e3)=>
  bI.mk v.kind v.val e3
def Oc:aZ U:=⟨[.d (.st 13)],fun xs es K=> ∃(v:bI),xs= [(zk v)]∧es= []∧(v.items.length≤1000000)∧K (.v (zk (lZ v))) []⟩
theorem MI:Fk 29 Oc:=by
 refine fo Tryz.f29 [.d (.st 13)] [] (aj) fun xs es K=>?_;rintro⟨v,rfl,rfl,h1,h⟩;refine⟨rfl,?_⟩;have hf0:=lZ.eq_1 v;refine⟨Int×(List aM),4,fun(s4,e3)=> [(1,.v ⟨false,[(1,.ptr 0 0)]⟩),(2,.v ⟨false,[(1,.ptr 1 0)]⟩),(3,.v ⟨false,[(1,.ptr 2 0)]⟩),(4,.v ⟨false,[(1,.d (.int .i64) s4)]⟩)],fun(s4,e3)=> [(0,.cells [(3,.d (.st 13) v)] 100),(1,.cells [(1,.d (.int .i64) (0:Int)),(1,.d (.int .i64) (0:Int)),(1,.nils)] 96),(2,.cells [(1,.d (.int .i64) v.kind),(1,.d (.int .i64) v.val),(1,.own 3 0)] 96),(3,.row 0 (.st 12) e3 135)],de (fun(s4,e3)=>((↑v.items.length:Int)- s4).toNat) (fun(s4,e3)=>((0:Int)≤s4)∧(s4≤(↑v.items.length:Int))∧((e3.length:Int)≤s4)∧True) (fun n1 (s4,e3)=>eb v n1 s4 e3) (eb v (((↑v.items.length:Int)-(0:Int)).toNat+1) (0:Int) ([]:List aM)),fun(s4,e3)=>((↑v.items.length:Int)- s4).toNat,⟨[],((0:Int),([]:List aM)),de.mk0 _ (Nat.lt_succ_self _) ⟨show(0:Int)≤(0:Int)from by omega,show(0:Int)≤(↑v.items.length:Int)from by omega,show(↑[].length:Int)≤(0:Int)from by(simp only[List.length_append,List.length_cons,List.length_nil];omega),trivial⟩ rfl,?_⟩,?_⟩
 ·repeat (first|exact trivial|refine And.intro rfl ?_)
 ·rintro⟨s4,e3⟩ ⟨n1,hc1,⟨hi1_0,hi1_1,hi1_2,-⟩,hf1⟩;have hf1:=hf1.trans (eb.eq_2 v s4 e3 n1);refine fun h0=>?_;have h0:(↑v.items.length:Int)≤(9223372036854775807:Int):=h0.2;refine vI hf1 iD (fun h1 hf1=>?_) (fun h1 hf1=>?_)
  ·refine .inl ⟨[(true,0),(true,1),(true,2),(true,3),(true,4),(true,5),(true,6),(true,7),(true,8),(true,9),(true,10),(true,11),(true,12),(true,13),(true,14),(false,15),(false,16),(true,17)],some 18,[3,4,5,6,7,8,9,10,11,12,13,14],by kernel_rfl,?_⟩;refine And.intro (show(0:Int)≤s4∧s4<(↑v.items.length:Int)from by omega) ?_;refine And.intro (show(0:Int)≤s4∧s4<(↑v.items.length:Int)from by omega) ?_;refine And.intro (show(e3.length+ [aM.mk (ix v.items s4).field (ix v.items s4).val].length)*(24:Nat)≤(140737488355328:Nat)from by(simp only[List.length_append,List.length_cons,List.length_nil];omega)) ?_;refine .inl (And.intro (v6 (p:=s4) (q:=(1:Int)) (r:=s4+(1:Int)) (by omega)) ?_);have hm1:((↑v.items.length:Int)-(s4+(1:Int))).toNat<((↑v.items.length:Int)- s4).toNat:=by omega
   refine⟨[],(s4+(1:Int),e3++ [aM.mk (ix v.items s4).field (ix v.items s4).val]),hm1,de.next (s:=(s4,e3)) hc1 hm1 ⟨show(0:Int)≤s4+(1:Int)from by omega,show s4+(1:Int)≤(↑v.items.length:Int)from by omega,show(↑(e3++ [aM.mk (ix v.items s4).field (ix v.items s4).val]).length:Int)≤s4+(1:Int)from by(simp only[List.length_append,List.length_cons,List.length_nil];omega),trivial⟩ hf1,?_⟩;repeat (first|exact trivial|refine And.intro rfl ?_)
  ·rw[hf1]at hf0;rw[hf0]at h;exact h
def kP(s:aA):aA:=
 aA.mk s.kind (ng s.reg) (nh s.num) (ni s.set) (nj s.map)
def Od:aZ U:=⟨[.d (.st 10)],fun xs es K=> ∃(s:aA),xs= [(jG s)]∧es= []∧(s.set.adds.length≤1000000)∧(s.set.gone.length≤1000000)∧(s.map.puts.length≤1000000)∧(s.map.gone.length≤1000000)∧K (.v (jG (kP s))) []⟩
theorem AW:Fk 16 Od:=by
 refine fo Tryz.f16 [.d (.st 10)] [] (aa N0 (aa N2 (aa N4 (aa N6 aj)))) fun xs es K=>?_;rintro⟨s,rfl,rfl,h1,h2,h3,h4,h⟩;refine⟨rfl,?_⟩;have hf0:=kP.eq_1 s;refine dp [(true,0),(true,1),(true,2),(true,3),(true,5),(true,6),(true,8),(true,9),(true,11),(true,12),(false,4),(false,7),(false,10),(false,13),(true,14)] (some 15) (nw 2) ?_;refine⟨_,rfl,rfl,?_⟩;refine⟨_,rfl,rfl,?_⟩;refine⟨_,rfl,rfl,(by omega),(by omega),?_⟩;refine⟨_,rfl,rfl,(by omega),(by omega),?_⟩;exact e0
def dV(s:aA)(e:ab):Bool:=
 lK s.set||lL s.map||decide (100<(e.tags.length:Int))||decide (1000<(e.name.length:Int))
def Oe:aZ U:=⟨[.d (.st 10),.d (.st 3)],fun xs es K=> ∃(s:aA) (e:ab),xs= [(jG s),(Dx e)]∧es= []∧K (.v (vb (dV s e))) []⟩
theorem Je:Fk 25 Oe:=by
 refine fo Tryz.f25 [.d .bool] [] (aa N8 (aa Oa aj)) fun xs es K=>?_;rintro⟨s,e,rfl,rfl,h⟩;refine⟨rfl,?_⟩;have hf0:=dV.eq_1 s e;refine⟨_,rfl,rfl,?_⟩;refine⟨_,fun _=>⟨_,rfl,rfl,rfl,rfl⟩,rfl,?_⟩;exact e0
def fL(e:ab):ab:=
 ab.mk e.act e.name e.val e.tag e.at_ e.tags
def Of:aZ U:=⟨[.d (.st 3)],fun xs es K=> ∃(e:ab),xs= [(Dx e)]∧es= []∧(e.tags.length≤1000000)∧K (.v (Dx (fL e))) []⟩
theorem Og:Fk 38 Of:=by
 refine fo Tryz.f38 [.d (.st 3)] [] (aa Ga aj) fun xs es K=>?_;rintro⟨e,rfl,rfl,h1,h⟩;refine⟨rfl,?_⟩;have hf0:=fL.eq_1 e;refine⟨_,rfl,rfl,(by assumption),?_⟩;exact e0
def fM(s:aA):aA:=
 aA.mk s.kind s.reg s.num (aX.mk s.set.adds s.set.gone) (bc.mk s.map.puts s.map.gone)
def Oh:aZ U:=⟨[.d (.st 10)],fun xs es K=> ∃(s:aA),xs= [(jG s)]∧es= []∧(s.set.adds.length≤1000000)∧(s.set.gone.length≤1000000)∧(s.map.puts.length≤1000000)∧(s.map.gone.length≤1000000)∧K (.v (jG (fM s))) []⟩
theorem MJ:Fk 47 Oh:=by
 refine fo Tryz.f47 [.d (.st 10)] [] (aa Ga (aa yf (aa Bh aj))) fun xs es K=>?_;rintro⟨s,rfl,rfl,h1,h2,h3,h4,h⟩;refine⟨rfl,?_⟩;have hf0:=fM.eq_1 s;refine .inr ⟨(.look 0 (.look 1 (.look 4 (.look 5 (.turn 2 (.turn 3 (.turn 6 (.look 8 (.look 9 (.turn 7 (.turn 10 (.look 11 (.look 12 .fin)) .nil) .nil))) .nil) (.turn 6 (.turn 3 (.look 8 (.look 9 (.turn 7 (.turn 10 (.look 11 (.look 12 .fin)) .nil) .nil))) .nil) .nil)) (.turn 6 (.turn 2 (.turn 3 (.look 8 (.look 9 (.turn 7 (.turn 10 (.look 11 (.look 12 .fin)) .nil) .nil))) .nil) .nil) .nil)))))),some 13,[1,0],4,[(1,.v ⟨false,[(1,.ptr 0 0)]⟩),(2,.v ⟨false,[(1,.ptr 1 0)]⟩)],[(0,.cells [(1,.d (.int .i64) s.kind),(3,.d (.st 5) s.reg),(2,.d (.st 6) s.num),(1,.own 2 0),(1,.own 3 0),(2,.d (.st 9) s.map)] 61),(1,.cells [(1,.d (.int .i64) (0:Int)),(1,.d (.int .i64) (0:Int)),(1,.d (.int .u32) (0:Int)),(1,.d (.int .i64) (0:Int)),(1,.d (.int .i64) (0:Int)),(1,.d (.int .i64) (0:Int)),(1,.nils),(1,.nils),(1,.nils),(1,.nils)] 61),(2,.row 0 (.st 7) s.set.adds 159),(3,.row 0 (.st 1) s.set.gone 34)],True,by kernel_rfl,?_,?_⟩
 ·refine And.intro ?_ ?_
  ·refine And.intro ?_ ?_
   ·refine⟨_,rfl,rfl,(by assumption),?_⟩;refine And.intro ?_ trivial;refine And.intro ?_ trivial;refine⟨_,rfl,rfl,(by assumption),?_⟩;refine And.intro ?_ trivial;refine⟨trivial,[],?_⟩;repeat (first|exact trivial|refine And.intro rfl ?_)
   refine And.intro ?_ trivial;refine And.intro ?_ trivial;refine⟨_,rfl,rfl,(by assumption),?_⟩;refine And.intro ?_ trivial;refine⟨_,rfl,rfl,(by assumption),?_⟩;refine And.intro ?_ trivial;refine⟨trivial,[],?_⟩;repeat (first|exact trivial|refine And.intro rfl ?_)
  refine And.intro ?_ trivial;refine And.intro ?_ trivial;refine And.intro ?_ trivial;refine⟨_,rfl,rfl,(by assumption),?_⟩;refine And.intro ?_ trivial;refine⟨_,rfl,rfl,(by assumption),?_⟩;refine And.intro ?_ trivial;refine⟨trivial,[],?_⟩;repeat (first|exact trivial|refine And.intro rfl ?_)
 refine fun _=>?_;refine .inr ⟨(.look 0 (.look 1 (.look 4 (.look 5 (.turn 2 (.turn 3 (.turn 6 (.look 8 (.look 9 (.turn 7 (.turn 10 (.look 11 (.look 12 .fin)) .nil) .nil))) .nil) (.turn 6 (.turn 3 (.look 8 (.look 9 (.turn 7 (.turn 10 (.look 11 (.look 12 .fin)) .nil) .nil))) .nil) .nil)) (.turn 6 (.turn 2 (.turn 3 (.look 8 (.look 9 (.turn 7 (.turn 10 (.look 11 (.look 12 .fin)) .nil) .nil))) .nil) .nil) .nil)))))),some 13,[0,2,3],6,[(1,.v ⟨false,[(1,.ptr 0 0)]⟩),(2,.v ⟨false,[(1,.ptr 1 0)]⟩)],[(0,.cells [(1,.d (.int .i64) s.kind),(3,.d (.st 5) s.reg),(2,.d (.st 6) s.num),(1,.own 2 0),(1,.own 3 0),(1,.own 4 0),(1,.own 5 0)] 61),(1,.cells [(1,.d (.int .i64) (0:Int)),(1,.d (.int .i64) (0:Int)),(1,.d (.int .u32) (0:Int)),(1,.d (.int .i64) (0:Int)),(1,.d (.int .i64) (0:Int)),(1,.d (.int .i64) (0:Int)),(1,.nils),(1,.nils),(1,.nils),(1,.nils)] 61),(2,.row 0 (.st 7) s.set.adds 159),(3,.row 0 (.st 1) s.set.gone 34),(4,.row 0 (.st 4) s.map.puts 164),(5,.row 0 (.st 1) s.map.gone 34)],True,by kernel_rfl,?_,?_⟩
 ·refine And.intro ?_ ?_
  ·refine And.intro ?_ ?_
   ·refine⟨_,rfl,rfl,(by assumption),?_⟩;refine And.intro ?_ trivial;refine And.intro ?_ trivial;refine⟨_,rfl,rfl,(by assumption),?_⟩;refine And.intro ?_ trivial;refine⟨trivial,[],?_⟩;repeat (first|exact trivial|refine And.intro rfl ?_)
   refine And.intro ?_ trivial;refine And.intro ?_ trivial;refine⟨_,rfl,rfl,(by assumption),?_⟩;refine And.intro ?_ trivial;refine⟨_,rfl,rfl,(by assumption),?_⟩;refine And.intro ?_ trivial;refine⟨trivial,[],?_⟩;repeat (first|exact trivial|refine And.intro rfl ?_)
  refine And.intro ?_ trivial;refine And.intro ?_ trivial;refine And.intro ?_ trivial;refine⟨_,rfl,rfl,(by assumption),?_⟩;refine And.intro ?_ trivial;refine⟨_,rfl,rfl,(by assumption),?_⟩;refine And.intro ?_ trivial;refine⟨trivial,[],?_⟩;repeat (first|exact trivial|refine And.intro rfl ?_)
 refine fun _=>?_;exact e0
def l4(a:bI)(b:bI):Bool:=
 decide (a.kind=b.kind)&&decide (a.val=b.val)&&je a.items b.items
def Oi:aZ U:=⟨[.d (.st 13),.d (.st 13)],fun xs es K=> ∃(a:bI) (b:bI),xs= [(zk a),(zk b)]∧es= []∧K (.v (vb (l4 a b))) []⟩
theorem MK:Fk 28 Oi:=by
 refine fo Tryz.f28 [.d .bool] [] (aa NQ aj) fun xs es K=>?_;rintro⟨a,b,rfl,rfl,h⟩;refine⟨rfl,?_⟩;have hf0:=l4.eq_1 a b;refine⟨_,fun _=>⟨_,_,rfl,rfl,rfl,rfl⟩,rfl,?_⟩;exact e0
def fN(o:vZ):Nat→Int→Bool⊕(Int)
 |0,s3=> .inr s3
 |n1+1,s3=>
  if s3<(o.more.length:Int)then
   if dV (aA.mk 0 (bK.mk 0 (az.mk 0 0)) (cg.mk 0 0) (aX.mk [] []) (bc.mk [] [])) (ix o.more s3)=true then
    .inl true
   else
    fN o n1 (s3+1)
  else
   .inr s3
def oH(o:vZ):Bool:=
 if(dV (aA.mk 0 (bK.mk 0 (az.mk 0 0)) (cg.mk 0 0) (aX.mk [] []) (bc.mk [] [])) o.e=true)∨(10<(o.more.length:Int))then
  true
 else
  match fN o (((o.more.length:Int)- 0).toNat+1) 0 with
  | .inl r=>r
  | .inr s3=>
   false
def c8:aZ U:=⟨[.d (.st 14)],fun xs es K=> ∃(o:vZ),xs= [⟨true,[(19,.d (.st 14) o)]⟩]∧es= []∧K (.v (vb (oH o))) []⟩
theorem k8:Fk 8 c8:=by
 refine fo Tryz.f8 [.d .bool] [] (aa Je aj) fun xs es K=>?_;rintro⟨o,rfl,rfl,h⟩;refine⟨rfl,?_⟩;have hf0:=oH.eq_1 o;refine⟨_,_,rfl,rfl,?_⟩;refine wI hf0 (fun _ hf0=>e0) fun _ hf0=>?_;refine lI 1 (fun(s3:Int)=> [(1,.v (vp 0)),(2,.v (vb false)),(3,.v (vi s3))]) (fun(s3:Int)=> [(0,.cells [(19,.d (.st 14) o)] 44)]) (fun(s3:Int)=>((o.more.length:Int)- s3).toNat) (fun(s3:Int)=>(0≤s3)∧(s3≤(o.more.length:Int))∧True) (fun n1 (s3:Int)=>fN o n1 s3) (fN o (((o.more.length:Int)- 0).toNat+1) 0) [] (0:Int) ?_;rintro s3 ⟨n1,hc1,⟨hi1_0,hi1_1,-⟩,hf1⟩;have hf1:=hf1.trans (fN.eq_2 o s3 n1);refine fl (x:=o.more.length) fun _=>?_;refine wI hf1 (fun _ hf1=>?_) fun _ hf1=>e1;refine vx s3 o.more ?_;refine⟨_,_,rfl,rfl,?_⟩;refine wI hf1 (fun _ hf1=>e1) fun _ hf1=>?_;refine dJ ?_;exact nx [] (s3+1) hc1 hf1
theorem bk(s:aA):ar s=s:=rfl
def aQ(s:aA)(e:ab):aA×Int:=
 if bT e=0 then
  if du e.act=s.kind then
   if e.act=1 then
    if(gO (ar s).reg e.val e.at_).snd=0 then
     (aA.mk (ar s).kind (gO (ar s).reg e.val e.at_).fst (ar s).num (ar s).set (ar s).map,0)
    else
     (aA.mk 0 (bK.mk 0 (az.mk 0 0)) (cg.mk 0 0) (aX.mk [] []) (bc.mk [] []),(gO (ar s).reg e.val e.at_).snd)
   else
    if e.act=2 then
     if(gQ (ar s).num e.val).snd=0 then
      (aA.mk (ar s).kind (ar s).reg (gQ (ar s).num e.val).fst (ar s).set (ar s).map,0)
     else
      (aA.mk 0 (bK.mk 0 (az.mk 0 0)) (cg.mk 0 0) (aX.mk [] []) (bc.mk [] []),(gQ (ar s).num e.val).snd)
    else
     if e.act=3 then
      if(i6 (ar s).set (bj.mk e.tag e.name)).snd=0 then
       (aA.mk (ar s).kind (ar s).reg (ar s).num (i6 (ar s).set (bj.mk e.tag e.name)).fst (ar s).map,0)
      else
       (aA.mk 0 (bK.mk 0 (az.mk 0 0)) (cg.mk 0 0) (aX.mk [] []) (bc.mk [] []),(i6 (ar s).set (bj.mk e.tag e.name)).snd)
     else
      if e.act=4 then
       if(gm (ar s).set e.tags).snd=0 then
        (aA.mk (ar s).kind (ar s).reg (ar s).num (gm (ar s).set e.tags).fst (ar s).map,0)
       else
        (aA.mk 0 (bK.mk 0 (az.mk 0 0)) (cg.mk 0 0) (aX.mk [] []) (bc.mk [] []),(gm (ar s).set e.tags).snd)
      else
       if e.act=5 then
        if(eU (ar s).map (bl.mk e.tag e.name e.val e.at_)).snd=0 then
         (aA.mk (ar s).kind (ar s).reg (ar s).num (ar s).set (eU (ar s).map (bl.mk e.tag e.name e.val e.at_)).fst,0)
        else
         (aA.mk 0 (bK.mk 0 (az.mk 0 0)) (cg.mk 0 0) (aX.mk [] []) (bc.mk [] []),(eU (ar s).map (bl.mk e.tag e.name e.val e.at_)).snd)
       else
        if e.act=6 then
         if(go (ar s).map e.tags).snd=0 then
          (aA.mk (ar s).kind (ar s).reg (ar s).num (ar s).set (go (ar s).map e.tags).fst,0)
         else
          (aA.mk 0 (bK.mk 0 (az.mk 0 0)) (cg.mk 0 0) (aX.mk [] []) (bc.mk [] []),(go (ar s).map e.tags).snd)
        else
         (ar s,0)
  else
   (aA.mk 0 (bK.mk 0 (az.mk 0 0)) (cg.mk 0 0) (aX.mk [] []) (bc.mk [] []),5)
 else
  (aA.mk 0 (bK.mk 0 (az.mk 0 0)) (cg.mk 0 0) (aX.mk [] []) (bc.mk [] []),bT e)
def Oj:aZ U:=⟨[.d (.st 10),.d (.st 3)],fun xs es K=> ∃(s:aA) (e:ab),xs= [(jG s),(Dx e)]∧es= []∧(s.set.adds.length≤4097)∧(s.set.gone.length≤4097)∧(s.map.puts.length≤4097)∧(s.map.gone.length≤4097)∧((fun(r0:aA) (r1:Int)=>r0.set.adds.length≤4097∧r0.set.gone.length≤4097∧r0.map.puts.length≤4097∧r0.map.gone.length≤4097) ((aQ s e).1) ((aQ s e).2)→K (.tup [(jG ((aQ s e).1)),(vi ((aQ s e).2))]) [])⟩
theorem ML:Fk 37 Oj:=by
 refine fo Tryz.f37 [.d (.st 10),.d (.int .i64)] [] (aa MH (aa Kz (aa MG (aa Nx (aa NB (aa Nm (aa NS (aa NW (aa NY aj))))))))) fun xs es K=>?_;rintro⟨s,e,rfl,rfl,h1,h2,h3,h4,h⟩;refine⟨rfl,?_⟩;have hf0:=aQ.eq_1 s e;refine⟨_,rfl,rfl,?_⟩;refine fun _=>?_;refine wN hf0 (fun h1 hf0=>?_) fun h1 hf0=>?_
 ·rw[hf0]at h;exact h (by simp)
 ·refine dp [(true,0),(true,1),(true,3),(true,4),(false,2),(true,5)] none (nw 3) ?_;refine⟨_,rfl,rfl,?_⟩;refine wN hf0 (fun h2 hf0=>?_) fun h2 hf0=>?_
  ·rw[hf0]at h;exact h (by simp)
  ·refine⟨_,rfl,rfl,(by omega),(by omega),(by omega),(by omega),?_⟩;refine wI hf0 (fun h3 hf0=>?_) fun h3 hf0=>?_
   ·refine⟨_,_,_,rfl,rfl,?_⟩;refine wN hf0 (fun h4 hf0=>?_) fun h4 hf0=>?_
    ·rw[hf0]at h;exact h (by simp)
    ·rw[hf0]at h;exact h (by(simp only[bk]at*;omega))
   ·refine wI hf0 (fun _ hf0=>?_) fun _ hf0=>?_
    ·refine⟨_,_,rfl,rfl,?_⟩;refine wN hf0 (fun _ hf0=>?_) fun _ hf0=>?_
     ·rw[hf0]at h;exact h (by simp)
     ·rw[hf0]at h;exact h (by(simp only[bk]at*;omega))
    ·refine wI hf0 (fun _ hf0=>?_) fun _ hf0=>?_
     ·refine⟨_,_,rfl,rfl,(by(rw[bk s];omega)),(by(rw[bk s];omega)),?_⟩;refine fun _=>?_;refine wN hf0 (fun _ hf0=>?_) fun _ hf0=>?_
      ·rw[hf0]at h;exact h (by simp)
      ·rw[hf0]at h;exact h (by(simp only[bk]at*;omega))
     ·refine wI hf0 (fun _ hf0=>?_) fun _ hf0=>?_
      ·refine⟨_,_,rfl,rfl,(by(rw[bk s];omega)),(by(rw[bk s];omega)),?_⟩;refine fun _=>?_;refine wN hf0 (fun _ hf0=>?_) fun _ hf0=>?_
       ·rw[hf0]at h;exact h (by simp)
       ·rw[hf0]at h;exact h (by(simp only[bk]at*;omega))
      ·refine wI hf0 (fun _ hf0=>?_) fun _ hf0=>?_
       ·refine⟨_,_,rfl,rfl,(by(rw[bk s];omega)),(by(rw[bk s];omega)),?_⟩;refine fun _=>?_;refine wN hf0 (fun _ hf0=>?_) fun _ hf0=>?_
        ·rw[hf0]at h;exact h (by simp)
        ·rw[hf0]at h;exact h (by(simp only[bk]at*;omega))
       ·refine wI hf0 (fun _ hf0=>?_) fun _ hf0=>?_
        ·refine⟨_,_,rfl,rfl,(by(rw[bk s];omega)),(by(rw[bk s];omega)),?_⟩;refine fun _=>?_;refine wN hf0 (fun _ hf0=>?_) fun _ hf0=>?_
         ·rw[hf0]at h;exact h (by simp)
         ·rw[hf0]at h;exact h (by(simp only[bk]at*;omega))
        ·refine vF iD (by omega) ?_;rw[hf0]at h;exact h (show((fun(r0:aA) (r1:Int)=>r0.set.adds.length≤4097∧r0.set.gone.length≤4097∧r0.map.puts.length≤4097∧r0.map.gone.length≤4097) (ar s) (0:Int):Prop)from by(rw[bk s];omega))
def bG(s:aA)(v:List Int):aA×Int:=
 if(ar s).kind=1 then
  (ar s,0)
 else
  if(ar s).kind=2 then
   (ar s,0)
  else
   if(ar s).kind=3 then
    if(dv (ar s).set v).snd=0 then
     (aA.mk (ar s).kind (ar s).reg (ar s).num (dv (ar s).set v).fst (ar s).map,0)
    else
     (aA.mk 0 (bK.mk 0 (az.mk 0 0)) (cg.mk 0 0) (aX.mk [] []) (bc.mk [] []),(dv (ar s).set v).snd)
   else
    if(ar s).kind=4 then
     if(dw (ar s).map v).snd=0 then
      (aA.mk (ar s).kind (ar s).reg (ar s).num (ar s).set (dw (ar s).map v).fst,0)
     else
      (aA.mk 0 (bK.mk 0 (az.mk 0 0)) (cg.mk 0 0) (aX.mk [] []) (bc.mk [] []),(dw (ar s).map v).snd)
    else
     (aA.mk 0 (bK.mk 0 (az.mk 0 0)) (cg.mk 0 0) (aX.mk [] []) (bc.mk [] []),5)
def Ok:aZ U:=⟨[.d (.st 10),.d (.arr 8 (.int .u32))],fun xs es K=> ∃(s:aA) (v:List Int),xs= [(jG s),(ia v)]∧es= []∧(s.set.adds.length≤4097)∧(s.set.gone.length≤4097)∧(s.map.puts.length≤4097)∧(s.map.gone.length≤4097)∧((fun(r0:aA) (r1:Int)=>r0.set.adds.length≤4097∧r0.set.gone.length≤4097∧r0.map.puts.length≤4097∧r0.map.gone.length≤4097) ((bG s v).1) ((bG s v).2)→K (.tup [(jG ((bG s v).1)),(vi ((bG s v).2))]) [])⟩
theorem Ol:Fk 56 Ok:=by
 refine fo Tryz.f56 [.d (.st 10),.d (.int .i64)] [] (aa MG (aa KP (aa KW aj))) fun xs es K=>?_;rintro⟨s,v,rfl,rfl,h1,h2,h3,h4,h⟩;refine⟨rfl,?_⟩;have hf0:=bG.eq_1 s v;refine⟨_,rfl,rfl,(by omega),(by omega),(by omega),(by omega),?_⟩;refine wI hf0 (fun _ hf0=>?_) fun _ hf0=>?_
 ·refine vT iD (by omega) ?_;refine vF iB (by simp) ?_;rw[hf0]at h;exact h (show((fun(r0:aA) (r1:Int)=>r0.set.adds.length≤4097∧r0.set.gone.length≤4097∧r0.map.puts.length≤4097∧r0.map.gone.length≤4097) (ar s) (0:Int):Prop)from by(rw[bk s];omega))
 ·refine wI hf0 (fun h1 hf0=>?_) fun h1 hf0=>?_
  ·refine vF iB (by simp) ?_;rw[hf0]at h;exact h (show((fun(r0:aA) (r1:Int)=>r0.set.adds.length≤4097∧r0.set.gone.length≤4097∧r0.map.puts.length≤4097∧r0.map.gone.length≤4097) (ar s) (0:Int):Prop)from by(rw[bk s];omega))
  ·refine wI hf0 (fun h2 hf0=>?_) fun h2 hf0=>?_
   ·refine⟨_,_,rfl,rfl,(by(rw[bk s];omega)),(by(rw[bk s];omega)),?_⟩;refine fun h3=>?_;refine wN hf0 (fun h4 hf0=>?_) fun h4 hf0=>?_
    ·rw[hf0]at h;exact h (by simp)
    ·rw[hf0]at h;exact h (by(simp only[bk]at*;omega))
   ·refine wI hf0 (fun _ hf0=>?_) fun _ hf0=>?_
    ·refine⟨_,_,rfl,rfl,(by(rw[bk s];omega)),(by(rw[bk s];omega)),?_⟩;refine fun _=>?_;refine wN hf0 (fun _ hf0=>?_) fun _ hf0=>?_
     ·rw[hf0]at h;exact h (by simp)
     ·rw[hf0]at h;exact h (by(simp only[bk]at*;omega))
    ·refine vT iB rfl ?_;rw[hf0]at h;exact h (by simp)
end Go.Proofs.YtiliglahlfkikaaGreatDoor.V
end

section
set_option linter.unusedVariables false
set_option linter.unusedSimpArgs false
namespace Go.Proofs.YtiliglahlfkikaaGreatDoor.V
open Go.RowKit Go.Shelf Go.Lib Go.Sort
structure jj(e:ab):Prop where
 tag:jM e.tag
 tags: ∀t∈e.tags,jM t
 time:0≤e.at_.time
structure MS(s:aA):Prop where
 set:uz s.set
 map:uA s.map
theorem uz.nil:uz ⟨[],[]⟩:=⟨fun _ h=>(by cases h),fun _ h=>(by cases h)⟩
theorem uA.nil:uA ⟨[],[]⟩:=⟨fun _ h=>(by cases h),fun _ h=>(by cases h)⟩
def Bg:aA:=aA.mk 0 (bK.mk 0 (az.mk 0 0)) (cg.mk 0 0) (aX.mk [] []) (bc.mk [] [])
theorem MS.zero(k:Int)(r:bK)(n:cg):MS (aA.mk k r n (aX.mk [] []) (bc.mk [] [])):=⟨uz.nil,uA.nil⟩
end Go.Proofs.YtiliglahlfkikaaGreatDoor.V
end

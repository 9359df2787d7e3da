/- Plain law: what a set of effects does to an object, in whatever order. -/
import Derived.Test.YtmpeiadlohbikaaGreatDoorYs20
import Derived.Test.YtmpeiadlohbikaaGreatDoorYs19
import Derived.Test.YtmpeiadlohbikaaGreatDoorYs3
section
set_option linter.unusedVariables false
set_option linter.unusedSimpArgs false
set_option maxRecDepth 20000
set_option maxHeartbeats 4000000
namespace Go.Proofs.YtmpeiadlohbikaaGreatDoor.V
open Go.RowKit
theorem eC{α β:Type} [DecidableEq α]: ∀(m:List (α×β)) (x:α) (v:β),(cA m x v).length≤m.length+1
 | [],x,v=>by simp[cA]
 |(k,y)::m,x,v=>by
  unfold cA;split
  ·simp
  ·have:=eC m x v;simp;omega
def bL{α β:Type}(m:List (α×β)):Prop:=(m.map (·.1)).Nodup
theorem nl{α β:Type} [DecidableEq α]: ∀(m:List (α×β)) (k:α) (v:β),(cA m k v).map (·.1)=if k∈m.map (·.1)then m.map (·.1)else m.map (·.1)++ [k]
 | [],k,v=>by simp[cA]
 |e::r,k,v=>by
  unfold cA;split
  ·rename_i h;rw[if_pos (by simp[h])];simp[h]
  ·rename_i h;rw[List.map_cons,nl r k v,List.map_cons];by_cases q:k∈r.map (·.1)
   ·rw[if_pos q,if_pos (by simp[q])]
   ·rw[if_neg q,if_neg (by rw[List.mem_cons];rintro(g|g);exact h g.symm;exact q g)];rfl
theorem iI{α β:Type} [DecidableEq α]{m:List (α×β)}(h:bL m)(k:α)(v:β):bL (cA m k v):=by
 unfold bL at*;rw[nl];split
 ·exact h
 ·rename_i q;rw[List.nodup_append];refine⟨h,by simp,fun a ha b hb e=>?_⟩;simp at hb;subst hb;subst e;exact q ha
theorem o6{α:Type}{left a b:List α}{p:α}(h:left=a++p::b):(a++b).length<left.length:=by subst h;simp
theorem Dk(x y:List UInt8):nk x y=if x<y then -1 else if y<x then 1 else 0:=by unfold nk ni;simp
def o7(p:List UInt8×bk):aF:=aF.mk p.1 p.2.val
def gL(m:List (List UInt8×bk))(l:List aF)(left:List (List UInt8×bk)):Prop:=bL m∧(l++left.map o7).Perm (m.map o7)
theorem tz{m:List (List UInt8×bk)}(h:bL m):gL m [] m:=⟨h,by simp⟩
theorem uW{m:List (List UInt8×bk)}{l:List aF}{left a b:List (List UInt8×bk)}{p:List UInt8×bk}(h:gL m l left)(e:left=a++p::b):gL m (l++ [aF.mk p.1 p.2.val]) (a++b):=by
 refine⟨h.1,List.Perm.trans ?_ h.2⟩;subst e;simp only[List.map_append,List.map_cons,List.append_assoc,List.singleton_append];exact List.Perm.append_left _ (List.perm_middle (a:=o7 p)).symm
theorem o8{m:List (List UInt8×bk)}{l:List aF}{left:List (List UInt8×bk)}(h:gL m l left)(e:left= []):l.Perm (m.map o7):=by
 subst e;have:=h.2;simpa using this
theorem qu{m:List (List UInt8×bk)}{l:List aF}{left:List (List UInt8×bk)}(h:gL m l left):l.length≤m.length:=by
 have:=h.2.length_eq;simp at this;omega
theorem qv{α β:Type}{f:α→β}{l:List α}(h:(l.map f).Nodup){a b:α}(ha:a∈l)(hb:b∈l)(e:f a=f b):a=b:=by
 induction l with
 |nil=>cases ha
 |cons x l ih=>
  rw[List.map_cons,List.nodup_cons]at h;rcases List.mem_cons.1 ha with e1|ha'
  ·rcases List.mem_cons.1 hb with e2|hb'
   ·rw[e1,e2]
   ·exact absurd (List.mem_map.2 ⟨b,hb',by rw[←e,e1]⟩) h.1
  ·rcases List.mem_cons.1 hb with e2|hb'
   ·exact absurd (List.mem_map.2 ⟨a,ha',by rw[e,e2]⟩) h.1
   ·exact ih h.2 ha' hb'
open Go.Shelf Go.Lib Go.Sort
theorem je(a b:aF):ltOf aP a b=decide (a.field<b.field):=by
 unfold ltOf aP;rw[Dk,decide_eq_decide];split
 ·simp[*]
 ·rename_i h;split<;>simp[h]
theorem gy{l:List aF}(h:(l.map (·.field)).Nodup):fL l aP:=by
 refine⟨⟨fun x=>?_,fun x y z h1 h2=>?_,fun x y z h1 h2=>?_⟩,fun x hx y hy h1 h2=>?_⟩
 ·rw[je];simp[List.lt_irrefl]
 ·rw[je,decide_eq_true_iff]at*;exact List.lt_trans h1 h2
 ·rw[je,decide_eq_false_iff_not,List.not_lt]at*;exact List.le_trans h2 h1
 ·rw[je,decide_eq_false_iff_not,List.not_lt]at h1 h2;exact qv h hx hy (List.le_antisymm h2 h1)
theorem mt{m:List (List UInt8×bk)}(h:bL m):fL (m.map o7) aP:=gy (by rw[List.map_map];exact h)
theorem Ak{m:List (List UInt8×bk)}{l:List aF}{left:List (List UInt8×bk)}(h:gL m l left)(e:left= []):fL l aP:=(mt h.1).perm (o8 h e)
theorem rF{m:List (List UInt8×bk)}{l:List aF}{left:List (List UInt8×bk)}(h:gL m l left)(e:left= []):bl (fun(t t1:aF)=>aP t t1) l=bl (fun(t t1:aF)=>aP t t1) (m.map o7):=oU (mt h.1) (o8 h e)
def cF(s:bw):Nat→Int→(List (List UInt8×bk))→(List aF)⊕(Int×(List (List UInt8×bk)))
 |0,s18,s3=> .inr (s18,s3)
 |n1+1,s18,s3=>
  if s18<(s.puts.length:Int)then
   if(¬((bj s3 (ix s.puts s18).field).isSome=true))∨(gw ((bj s3 (ix s.puts s18).field).getD uq.zero) (ix s.puts s18)<0)then
    cF s n1 (s18+1) (cA s3 (ix s.puts s18).field (ix s.puts s18))
   else
    cF s n1 (s18+1) s3
  else
   .inr (s18,s3)
def eW(s:bw):List aF:=
 if ez s=0 then
  match cF s (((s.puts.length:Int)- 0).toNat+1) 0 ([]:List (List UInt8×bk))with
  | .inl r=>r
  | .inr (s18,s3)=>
   bl (fun(t t1:aF)=>aP t t1) (List.map o7 s3)
 else
  []
def QL:bG U:=⟨[.d (.st 12)],fun xs es K=> ∃(s:bw),xs= [(sg s)]∧es= []∧(s.puts.length≤1000000)∧(s.gone.length≤1000000)∧((fun(r0:List aF)=>r0.length≤1000000) (eW s)→K (.v (BW (eW s))) [])⟩
theorem QM:Fk 52 QL:=by
 refine fo Tryz.f52 [.d (.sl (.st 6))] [] (aa Pb (aa L5 (aa Nq (aa Nu aq)))) fun xs es K=>?_;rintro⟨s,rfl,rfl,h1,h2,h⟩;refine⟨rfl,?_⟩;have hf0:=eW.eq_1 s;refine⟨_,rfl,rfl,(by omega),(by omega),?_⟩;refine fun _=>?_;refine vN hf0 iD (fun h1 hf0=>?_) (fun h1 hf0=>?_)
 ·rw[hf0]at h;exact h (show((fun(r0:List aF)=>r0.length≤1000000) []:Prop)from by simp)
 ·refine fun h2=>?_;have h2:(↑s.puts.length:Int)≤(9223372036854775807:Int):=h2.2;refine⟨Int×(List (List UInt8×bk)),2,fun(s18,s3)=> [(2,.v ⟨false,[(1,.nils)]⟩),(3,.v ⟨false,[(1,.mp 1)]⟩),(16,.v ⟨false,[(1,.d (.sl (.st 5)) s.puts)]⟩),(17,.v ⟨false,[(1,.d (.int .i64) (↑s.puts.length:Int))]⟩),(18,.v ⟨false,[(1,.d (.int .i64) s18)]⟩)],fun(s18,s3)=> [(1,.map uq s3)],cY (fun(s18,s3)=>((↑s.puts.length:Int)- s18).toNat) (fun(s18,s3)=>((0:Int)≤s18)∧(s18≤(↑s.puts.length:Int))∧((s3.length:Int)≤s18)∧(bL s3)∧((s3.length:Int)≤s18)∧True) (fun n1 (s18,s3)=>cF s n1 s18 s3) (cF s (((↑s.puts.length:Int)-(0:Int)).toNat+1) (0:Int) ([]:List (List UInt8×bk))),fun(s18,s3)=>((↑s.puts.length:Int)- s18).toNat,⟨[],((0:Int),([]:List (List UInt8×bk))),cY.mk0 _ (Nat.lt_succ_self _) ⟨show(0:Int)≤(0:Int)from by omega,show(0:Int)≤(↑s.puts.length:Int)from by omega,show(↑[].length:Int)≤(0:Int)from by(simp only[List.length_append,List.length_cons,List.length_nil];omega),show bL []from List.nodup_nil,show(↑[].length:Int)≤(0:Int)from by(simp only[List.length_append,List.length_cons,List.length_nil];omega),trivial⟩ rfl,?_⟩,?_⟩
  ·repeat (first|exact trivial|refine And.intro rfl ?_)
  ·rintro⟨s18,s3⟩ ⟨n1,hc1,⟨hi1_0,hi1_1,hi1_2,hi1_3,hi1_4,-⟩,hf1⟩;have hf1:=hf1.trans (cF.eq_2 s s18 s3 n1);refine vI hf1 iD (fun _ hf1=>?_) (fun _ hf1=>?_)
   ·refine And.intro (show(0:Int)≤s18∧s18<(↑s.puts.length:Int)from by omega) ?_;refine⟨_,fun _=>⟨_,_,rfl,rfl,rfl,rfl⟩,rfl,?_⟩;refine vI hf1 (iO (iN iB) iD) (fun _ hf1=>?_) (fun _ hf1=>?_)
    ·refine .inl (And.intro (qU (p:=s18) (q:=(1:Int)) (r:=s18+(1:Int)) (by omega)) ?_);have hm1:((↑s.puts.length:Int)-(s18+(1:Int))).toNat<((↑s.puts.length:Int)- s18).toNat:=by omega
     refine⟨[],(s18+(1:Int),cA s3 (ix s.puts s18).field (ix s.puts s18)),hm1,cY.next (s:=(s18,s3)) hc1 hm1 ⟨show(0:Int)≤s18+(1:Int)from by omega,show s18+(1:Int)≤(↑s.puts.length:Int)from by omega,show(↑(cA s3 (ix s.puts s18).field (ix s.puts s18)).length:Int)≤s18+(1:Int)from by(have hm:=eC s3 (ix s.puts s18).field (ix s.puts s18);omega),show bL (cA s3 (ix s.puts s18).field (ix s.puts s18))from iI (by assumption) _ _,show(↑(cA s3 (ix s.puts s18).field (ix s.puts s18)).length:Int)≤s18+(1:Int)from by(have hm:=eC s3 (ix s.puts s18).field (ix s.puts s18);omega),trivial⟩ hf1,?_⟩;repeat (first|exact trivial|refine And.intro rfl ?_)
    ·refine .inl (And.intro (qU (p:=s18) (q:=(1:Int)) (r:=s18+(1:Int)) (by omega)) ?_);have hm1:((↑s.puts.length:Int)-(s18+(1:Int))).toNat<((↑s.puts.length:Int)- s18).toNat:=by omega
     refine⟨[],(s18+(1:Int),s3),hm1,cY.next (s:=(s18,s3)) hc1 hm1 ⟨show(0:Int)≤s18+(1:Int)from by omega,show s18+(1:Int)≤(↑s.puts.length:Int)from by omega,show(↑s3.length:Int)≤s18+(1:Int)from by omega,show bL s3 from by omega,show(↑s3.length:Int)≤s18+(1:Int)from by omega,trivial⟩ hf1,?_⟩;repeat (first|exact trivial|refine And.intro rfl ?_)
   ·rw[hf1]at hf0;refine fun b6=>?_;refine⟨(List (List UInt8×bk))×(List (List UInt8×bk))×Gh×(List aF),4,fun(e1l,e1c,e1g,s8)=> [(2,.v ⟨false,[(1,.nils)]⟩),(8,.v ⟨false,[(1,.own 3 0)]⟩),(43,.v ⟨false,[(1,.ptr 2 0)]⟩)],fun(e1l,e1c,e1g,s8)=> [(1,.mapr uq s3 e1l e1c e1g),(2,.it 1 e1g),(3,.row 0 (.st 6) s8 144)],fun(e1l,e1c,e1g,s8)=>(gL s3 s8 e1l)∧True,fun(e1l,e1c,e1g,s8)=>e1l.length,⟨[],(s3,([]:List (List UInt8×bk)),b6,([]:List aF)),⟨show gL s3 [] s3 from tz (by assumption),trivial⟩,?_⟩,?_⟩
    ·repeat (first|exact trivial|refine And.intro rfl ?_)
    ·rintro⟨e1l,e1c,e1g,s8⟩ ⟨hi2_0,-⟩;refine And.intro (show e1g=e1g from by simp) ?_;refine And.intro (fun _=>?_) (fun(a8:List (List UInt8×bk)) (p9:List UInt8×bk) (b10:List (List UInt8×bk)) (h11:e1l=a8++p9::b10)=>?_)
     ·refine vF iB (by simp) ?_;refine⟨fun(t t':aF)=>aP t t',fun t0 t1=>⟨_,_,rfl,rfl,rfl,rfl⟩,?_⟩;refine⟨_,_,rfl,rfl,(Ak (by assumption) (by assumption)),(show s8.length<(4611686018427387904:Nat)from by(have hl:=qu (show gL s3 s8 e1l from by assumption);omega)),?_⟩;have er0:(bl (fun(t t':aF)=>aP t t') s8:List aF)=bl (fun(t t1:aF)=>aP t t1) (List.map o7 s3):=rF (by assumption) (by assumption);rw[hf0]at h;replace h:=h (show((fun(r0:List aF)=>r0.length≤1000000) (bl (fun(t t1:aF)=>aP t t1) (List.map o7 s3)):Prop)from by(dsimp only;rw[da,List.length_map];omega));dsimp only at h;rw[←er0]at h;exact h
     ·refine fun b12=>?_;refine vT iB rfl ?_;refine And.intro (show b12=b12 from by simp) ?_;refine And.intro (show(s8.length+ [aF.mk p9.fst p9.snd.val].length)*(24:Nat)≤(140737488355328:Nat)from by(have hl:=qu (show gL s3 s8 e1l from by assumption);simp only[List.length_append,List.length_cons,List.length_nil];omega)) ?_;have hm2:(a8++b10).length<e1l.length:=o6 (by assumption);refine⟨[],(a8++b10,[p9],b12,s8++ [aF.mk p9.fst p9.snd.val]),hm2,⟨show gL s3 (s8++ [aF.mk p9.fst p9.snd.val]) (a8++b10)from uW (by assumption) (by assumption),trivial⟩,?_⟩;repeat (first|exact trivial|refine And.intro rfl ?_)
theorem lz(s:br):(aZ s).length≤s.adds.length:=by
 have key: ∀(n:Nat) (i:Int) (t:List (List UInt8)),0≤i→(t.length:Int)≤i→i≤s.adds.length→ ∃j u,eK s n i t= .inr (j,u)∧u.length≤s.adds.length:=fun n=>by
  induction n with
  |zero=>intro i t h0 h1 h2;exact⟨i,t,rfl,by omega⟩
  |succ n ih=>
   intro i t h0 h1 h2;rw[eK];split
   ·exact ih _ _ (by omega) (by simp;omega) (by omega)
   ·exact⟨i,t,rfl,by omega⟩
 obtain⟨j,u,h,hu⟩:=key (((s.adds.length:Int)- 0).toNat+1) 0 [] (by omega) (by simp) (by omega);unfold aZ;split
 ·rw[h];exact Nat.le_trans (Aq _) (by rw[hJ];exact hu)
 ·simp
def eX(s:aG):Nat→Int→(List aF)→be⊕(Int×(List aF))
 |0,s30,e3=> .inr (s30,e3)
 |n1+1,s30,e3=>
  if s30<((aZ s.set).length:Int)then
   eX s n1 (s30+1) (e3++ [aF.mk (ix (aZ s.set) s30) 0])
  else
   .inr (s30,e3)
def bW(s:aG):be:=
 if s.kind=1 then
  be.mk s.kind s.reg.val []
 else
  if s.kind=2 then
   be.mk s.kind (j7 s.num) []
  else
   if s.kind=3 then
    match eX s ((((aZ s.set).length:Int)- 0).toNat+1) 0 ([]:List aF)with
    | .inl r=>r
    | .inr (s30,e3)=>
     be.mk s.kind 0 e3
   else
    if s.kind=4 then
     be.mk s.kind 0 (eW s.map)
    else
     be.mk 0 0 []
def QN:bG U:=⟨[.d (.st 15)],fun xs es K=> ∃(s:aG),xs= [(vM s)]∧es= []∧(s.set.adds.length≤900000)∧(s.set.gone.length≤900000)∧(s.map.puts.length≤900000)∧(s.map.gone.length≤900000)∧((fun(r0:be)=>r0.items.length≤1000000) (bW s)→K (.v (IQ (bW s))) [])⟩
theorem Dl:Fk 16 QN:=by
 refine fo Tryz.f16 [.d (.st 7)] [] (aa Qb (aa Qy (aa QM aq))) fun xs es K=>?_;rintro⟨s,rfl,rfl,h1,h2,h3,h4,h⟩;refine⟨rfl,?_⟩;have hf0:=bW.eq_1 s;refine vI hf0 iD (fun _ hf0=>?_) (fun _ hf0=>?_)
 ·rw[hf0]at h;exact h (show((fun(r0:be)=>r0.items.length≤1000000) (be.mk s.kind s.reg.val []):Prop)from by simp)
 ·refine vI hf0 iD (fun h1 hf0=>?_) (fun h1 hf0=>?_)
  ·refine⟨_,rfl,rfl,?_⟩;rw[hf0]at h;exact h (show((fun(r0:be)=>r0.items.length≤1000000) (be.mk s.kind (j7 s.num) []):Prop)from by simp)
  ·refine vI hf0 iD (fun h2 hf0=>?_) (fun h2 hf0=>?_)
   ·refine⟨_,rfl,rfl,(by omega),(by omega),?_⟩;refine fun h3=>?_;have h3:(↑(aZ s.set).length:Int)≤(9223372036854775807:Int):=h3.2;refine⟨Int×(List aF),4,fun(s30,e3)=> [(2,.v ⟨false,[(1,.ptr 1 0)]⟩),(3,.v ⟨false,[(1,.ptr 2 0)]⟩),(28,.v ⟨false,[(1,.d (.sl .str) (aZ s.set))]⟩),(29,.v ⟨false,[(1,.d (.int .i64) (↑(aZ s.set).length:Int))]⟩),(30,.v ⟨false,[(1,.d (.int .i64) s30)]⟩)],fun(s30,e3)=> [(1,.cells [(1,.d (.int .i64) (0:Int)),(1,.d (.int .i64) (0:Int)),(1,.nils)] 75),(2,.cells [(1,.d (.int .i64) s.kind),(1,.d (.int .i64) (0:Int)),(1,.own 3 0)] 75),(3,.row 0 (.st 6) e3 144)],cY (fun(s30,e3)=>((↑(aZ s.set).length:Int)- s30).toNat) (fun(s30,e3)=>((0:Int)≤s30)∧(s30≤(↑(aZ s.set).length:Int))∧((e3.length:Int)≤s30)∧True) (fun n1 (s30,e3)=>eX s n1 s30 e3) (eX s (((↑(aZ s.set).length:Int)-(0:Int)).toNat+1) (0:Int) ([]:List aF)),fun(s30,e3)=>((↑(aZ s.set).length:Int)- s30).toNat,⟨[],((0:Int),([]:List aF)),cY.mk0 _ (Nat.lt_succ_self _) ⟨show(0:Int)≤(0:Int)from by omega,show(0:Int)≤(↑(aZ s.set).length:Int)from by omega,show(↑[].length:Int)≤(0:Int)from by(simp only[List.length_append,List.length_cons,List.length_nil];omega),trivial⟩ rfl,?_⟩,?_⟩
    ·repeat (first|exact trivial|refine And.intro rfl ?_)
    ·rintro⟨s30,e3⟩ ⟨n1,hc1,⟨hi1_0,hi1_1,hi1_2,-⟩,hf1⟩;have hf1:=hf1.trans (eX.eq_2 s s30 e3 n1);refine vI hf1 iD (fun h4 hf1=>?_) (fun h4 hf1=>?_)
     ·refine And.intro (show(0:Int)≤s30∧s30<(↑(aZ s.set).length:Int)from by omega) ?_;refine And.intro (show(e3.length+ [aF.mk (ix (aZ s.set) s30) (0:Int)].length)*(24:Nat)≤(140737488355328:Nat)from by(have hl:=lz s.set;simp only[List.length_append,List.length_cons,List.length_nil];omega)) ?_;refine .inl (And.intro (qU (p:=s30) (q:=(1:Int)) (r:=s30+(1:Int)) (by omega)) ?_);have hm1:((↑(aZ s.set).length:Int)-(s30+(1:Int))).toNat<((↑(aZ s.set).length:Int)- s30).toNat:=by omega
      refine⟨[],(s30+(1:Int),e3++ [aF.mk (ix (aZ s.set) s30) (0:Int)]),hm1,cY.next (s:=(s30,e3)) hc1 hm1 ⟨show(0:Int)≤s30+(1:Int)from by omega,show s30+(1:Int)≤(↑(aZ s.set).length:Int)from by omega,show(↑(e3++ [aF.mk (ix (aZ s.set) s30) (0:Int)]).length:Int)≤s30+(1:Int)from by(simp only[List.length_append,List.length_cons,List.length_nil];omega),trivial⟩ hf1,?_⟩;repeat (first|exact trivial|refine And.intro rfl ?_)
     ·rw[hf1]at hf0;rw[hf0]at h;exact h (show((fun(r0:be)=>r0.items.length≤1000000) (be.mk s.kind (0:Int) e3):Prop)from by(have hl:=lz s.set;simp only[List.length_append,List.length_cons,List.length_nil];omega))
   ·refine vI hf0 iD (fun _ hf0=>?_) (fun _ hf0=>?_)
    ·refine⟨_,rfl,rfl,(by omega),(by omega),?_⟩;refine fun _=>?_;rw[hf0]at h;exact h (show((fun(r0:be)=>r0.items.length≤1000000) (be.mk s.kind (0:Int) (eW s.map)):Prop)from by omega)
    ·rw[hf0]at h;exact h (show((fun(r0:be)=>r0.items.length≤1000000) (be.mk (0:Int) (0:Int) []):Prop)from by simp)
end Go.Proofs.YtmpeiadlohbikaaGreatDoor.V
end

section
set_option linter.unusedVariables false
set_option linter.unusedSimpArgs false
namespace Go.Proofs.YtmpeiadlohbikaaGreatDoor.V
open Go.RowKit Go.Shelf Go.Lib Go.Sort
def bi(a b:am):Bool:=decide (a.id.origin<b.id.origin∨(a.id.origin=b.id.origin∧(a.id.seq<b.id.seq∨(a.id.seq=b.id.seq∧a.n<b.n))))
theorem dR(a b c:am)(h1:bi a b=true)(h2:bi b c=true):bi a c=true:=by
 simp only[bi,decide_eq_true_eq]at*;omega
theorem cV(a:am):bi a a=false:=by simp[bi]
theorem gz{a b:am}(h1:bi a b=true):bi b a=false:=by
 simp only[bi,decide_eq_true_eq,decide_eq_false_iff_not]at*;omega
theorem kG(a b:am):bi a b=true∨a=b∨bi b a=true:=by
 by_cases h:bi a b=true
 ·exact .inl h
 ·by_cases h2:bi b a=true
  ·exact .inr (.inr h2)
  ·refine .inr (.inl (rE ?_ ?_ ?_))<;>simp only[bi,decide_eq_true_eq]at* <;>omega
def ns(a b:am):Int:=if bi a b=true then -1 else if a=b then 0 else 1
theorem dL(a b:am):ns a b<0↔bi a b=true:=by
 unfold ns;split
 ·simp[*]
 ·rename_i h;split<;>simp[h]
theorem nI(a b:am):ns a b=0↔a=b:=by
 unfold ns;split
 ·rename_i h;constructor
  ·intro e;omega
  ·intro e;subst e;rw[cV]at h;cases h
 ·split
  ·simp[*]
  ·simp[*]
theorem tF(a b:bF):fN a b=if a.origin<b.origin then -1 else if b.origin<a.origin then 1 else if a.seq<b.seq then -1 else if b.seq<a.seq then 1 else 0:=by
 unfold fN;rw[ka,kD,om];by_cases h1:a.origin<b.origin
 ·simp[h1]
 ·by_cases h2:b.origin<a.origin
  ·simp[h1,h2]
  ·simp[h1,h2]
theorem bM(a b:am):ak a b=ns a b:=by
 unfold ak ns;rw[ka,tF,kD];by_cases h1:a.id.origin<b.id.origin
 ·simp[h1,bi]
 ·by_cases h2:b.id.origin<a.id.origin
  ·have hne: ¬a=b:=fun e=>by subst e;omega
   simp[h1,h2,bi,hne]<;>omega
  ·have e1:a.id.origin=b.id.origin:=by omega
   by_cases h3:a.id.seq<b.id.seq
   ·simp[h1,h2,h3,bi]<;>omega
   ·by_cases h4:b.id.seq<a.id.seq
    ·have hne: ¬a=b:=fun e=>by subst e;omega
     simp[h1,h2,h3,h4,bi,hne]<;>omega
    ·have e2:a.id.seq=b.id.seq:=by omega
     by_cases h5:a.n<b.n
     ·simp[h1,h2,h3,h4,h5,bi]<;>omega
     ·by_cases h6:b.n<a.n
      ·have hne: ¬a=b:=fun e=>by subst e;omega
       simp[h1,h2,h3,h4,h5,h6,bi,hne]<;>omega
      ·have e3:a.n=b.n:=by omega
       have he:a=b:=rE e1 e2 e3;subst he;simp[bi]
def E1(t:am):Prop:= -9223372036854775808≤t.id.seq∧t.id.seq≤9223372036854775807
def pe(t:am):Prop:=0≤t.id.seq∧t.id.seq≤4294967295
theorem pe.seq{t:am}(h:pe t):E1 t:=by unfold pe at h;unfold E1;omega
theorem pf{α:Type}(f:α→Bool)(l:List α):decide ((0:Int)≤m7 l f)=l.any f:=by
 unfold m7;cases h:l.findIdx? f with
 |none=>
  rw[List.findIdx?_eq_none_iff]at h;symm;simp only[decide_eq_false_iff_not.2 (show ¬(0:Int)≤ -1 by omega),List.any_eq_false];intro x hx;simp[h x hx]
 |some k=>
  have:=List.findIdx?_eq_some_iff_getElem.1 h;obtain⟨hk,h1,_⟩:=this;symm;simp only[decide_eq_true (show(0:Int)≤(k:Int)by omega),List.any_eq_true];exact⟨_,List.getElem_mem hk,h1⟩
theorem dq(s:List am)(f:am→Bool):cc s f=s.any f:=pf f s
theorem kb(s:List bD)(f:bD→Bool):eR s f=s.any f:=pf f s
theorem pg(l:List am)(c:am→am→Int)(tr: ∀a b d,decide (c a b<0)=true→decide (c b d<0)=true→decide (c a d<0)=true):dP l c=true↔l.Pairwise (fun a b=>c a b<0):=by
 have h:=jA l (fun a b=>decide (c a b<0)) false (cU l c) (fun fuel i _=>by
  rw[cU];split
  ·by_cases h:(0:Int)≤c (ix l (i - 1)) (ix l i)
   ·rw[if_pos h,if_neg (by simp;omega)]
   ·rw[if_neg h,if_pos (by simp;omega)]
  ·rfl) (((l.length:Int)-(1:Int)).toNat+1) 1 (by omega) (by omega)
 have hp:=nq l (fun a b=>decide (c a b<0)) tr;simp only[decide_eq_true_eq]at hp;unfold dP;rcases h with⟨⟨q,a⟩,b⟩|⟨a,j,b,d,e⟩
 ·rw[a];simp only[decide_eq_true_eq]at b;exact⟨fun _=>hp.1 b,fun _=>rfl⟩
 ·rw[a];simp only[Bool.false_eq_true,false_iff];intro hw;have:=hp.2 hw j b d;simp only[decide_eq_false_iff_not]at e;exact e this
theorem ph(l:List bD)(c:bD→bD→Int)(tr: ∀a b d,decide (c a b<0)=true→decide (c b d<0)=true→decide (c a d<0)=true):fq l c=true↔l.Pairwise (fun a b=>c a b<0):=by
 have h:=jA l (fun a b=>decide (c a b<0)) false (dW l c) (fun fuel i _=>by
  rw[dW];split
  ·by_cases h:(0:Int)≤c (ix l (i - 1)) (ix l i)
   ·rw[if_pos h,if_neg (by simp;omega)]
   ·rw[if_neg h,if_pos (by simp;omega)]
  ·rfl) (((l.length:Int)-(1:Int)).toNat+1) 1 (by omega) (by omega)
 have hp:=nq l (fun a b=>decide (c a b<0)) tr;simp only[decide_eq_true_eq]at hp;unfold fq;rcases h with⟨⟨q,a⟩,b⟩|⟨a,j,b,d,e⟩
 ·rw[a];simp only[decide_eq_true_eq]at b;exact⟨fun _=>hp.1 b,fun _=>rfl⟩
 ·rw[a];simp only[Bool.false_eq_true,false_iff];intro hw;have:=hp.2 hw j b d;simp only[decide_eq_false_iff_not]at e;exact e this
theorem tG(l:List am):kC l=dP l ak:=by
 have key: ∀fuel i,ik l fuel i=cU l ak fuel i:=by
  intro fuel;induction fuel with
  |zero=>intro i;rfl
  |succ fuel ih=>intro i;rw[ik,cU,ih]
 unfold kC dP;rw[key];try rfl
theorem uZ(a b d:am)(h1:decide (ak a b<0)=true)(h2:decide (ak b d<0)=true):decide (ak a d<0)=true:=by
 simp only[bM,decide_eq_true_eq,dL]at*;exact dR a b d h1 h2
def cP(l:List am):Prop:=l.Pairwise (fun a b=>bi a b=true)
theorem iX(l:List am):dP l ak=true↔cP l:=by
 rw[pg l _ uZ];unfold cP;simp only[bM,dL]
theorem p5(l:List bD):fq l fO=true↔cP (l.map (·.tag)):=by
 rw[ph l fO (fun a b d=>uZ a.tag b.tag d.tag)];unfold cP;rw[List.pairwise_map];have: ∀a b:bD,fO a b=ak a.tag b.tag:=fun _ _=>rfl;simp only[this,bM,dL]
theorem mw(l:List bk):eb l=l.map (·.tag):=by
 unfold eb;rw[fu l (fun acc x=>acc++ [x.tag]) (gu l) (fun _ _ _ _=>rfl)];simp only[iW,List.nil_append]
theorem my{x:List am}(hx:cP x)(t:am): ∃q:Int,(cT x t ak)=(q,decide (t∈x))∧0≤q∧q≤x.length∧(∀k:Int,0≤k→k<q→bi (ix x k) t=true)∧(∀k:Int,q≤k→k<x.length→bi (ix x k) t=false):=by
 have hp: ∀a b:Int,0≤a→a<b→b<x.length→bi (ix x a) (ix x b)=true:=fun a b h0 h1 h2=>by
  have:=List.pairwise_iff_getElem.1 hx a.toNat b.toNat (by omega) (by omega) (by omega);rw[←dQ x (by omega),←dQ x (by omega)]at this;rw[show((a.toNat:Nat):Int)=a by omega,show((b.toNat:Nat):Int)=b by omega]at this;exact this
 obtain⟨q,h,h0,h1,h2,h3⟩:=oo x (fun a=>ak a t) (gp x t ak) (fun _ _ _=>rfl) (fun a b ha hab hb hc=>by
   simp only[bM,dL]at*;exact dR _ _ _ (hp a b ha hab hb) hc) (((x.length:Int)-(0:Int)).toNat+1) 0 x.length (by omega) (by omega) (by omega) (by omega) (fun _ _ _=>by omega) (fun _ _ _=>by omega)
 simp only[bM,dL]at h2 h3;refine⟨q,?_,h0,h1,h2,fun k a b=>by simpa using h3 k a b⟩;unfold cT;rw[h];simp only;by_cases hlt:q<(x.length:Int)
 ·congr 1;rw[decide_eq_true hlt,Bool.true_and,bM,Bool.eq_iff_iff,decide_eq_true_eq,nI,decide_eq_true_eq];constructor
  ·intro e;rw[←e];exact rL x h0 hlt
  ·intro hm;obtain⟨k,hk,rfl⟩:=List.getElem_of_mem hm;rcases Int.lt_trichotomy (k:Int) q with hkq|hkq|hkq
   ·have:=h2 k (by omega) hkq;rw[dQ x hk,cV]at this;cases this
   ·rw[←hkq,dQ x hk]
   ·have h4:=hp q k h0 hkq (by omega);rw[dQ x hk]at h4;exact absurd h4 (h3 q (by omega) hlt)
 ·congr 1;rw[decide_eq_false hlt,Bool.false_and];symm;rw[decide_eq_false_iff_not];intro hm;obtain⟨k,hk,rfl⟩:=List.getElem_of_mem hm;have:=h2 k (by omega) (by omega);rw[dQ x hk,cV]at this;cases this
theorem rM{x:List am}(hx:cP x)(t:am):(cT x t ak).2=decide (t∈x):=by
 obtain⟨q,h,_⟩:=my hx t;rw[h]
structure E2(s:br):Prop where
 adds: ∀a∈s.adds,pe a.tag
 gone: ∀t∈s.gone,pe t
structure E3(s:bw):Prop where
 puts: ∀a∈s.puts,pe a.tag
 gone: ∀t∈s.gone,pe t
theorem u4{l:List am}(h:cP l)(t:am):lw l t=decide (t∈l):=rM h t
theorem JC{α R:Type} [Inhabited α](x:List α)(p:α→Bool)(c:α→Int)(hc: ∀a,c a<0↔p a=true)(L:Nat→Int→Int→R⊕(Int×Int))(hL: ∀fuel i j,L (fuel+1) i j=if i<j then(if c (ix x ((i+j)/2))<0 then L fuel ((i+j)/2+1) j else L fuel i ((i+j)/2))else .inr (i,j))
  (mono:x.Pairwise (fun a b=>p b=true→p a=true)):L (((x.length:Int)-(0:Int)).toNat+1) 0 x.length= .inr (((x.takeWhile p).length:Int),((x.takeWhile p).length:Int)):=by
 obtain⟨q,h,h0,h1,h2,h3⟩:=oo x c L hL (fun a b ha hab hb hcb=>by
  rw[hc]at*;have:=List.pairwise_iff_getElem.1 mono a.toNat b.toNat (by omega) (by omega) (by omega);rw[←dQ x (by omega),←dQ x (by omega),show((a.toNat:Nat):Int)=a by omega,show((b.toNat:Nat):Int)=b by omega]at this;exact this hcb) (((x.length:Int)-(0:Int)).toNat+1) 0 x.length (by omega) (by omega) (by omega) (by omega) (fun _ _ _=>by omega) (fun _ _ _=>by omega)
 have:=E0 p x q.toNat (fun k hk hkl=>by
  have:=(hc _).1 (h2 k (by omega) (by omega));rw[dQ x hkl]at this;exact this) (fun k hk hkl=>by
  have:=h3 k (by omega) (by omega);rw[hc,dQ x hkl]at this;simpa using this) (by omega)
 rw[h,this];congr 1;have:((q.toNat:Nat):Int)=q:=by omega
 rw[this]
theorem u5{α:Type}(f:α→am){l:List α}(h:cP (l.map f))(t:am):l.Pairwise (fun a b=>bi (f b) t=true→bi (f a) t=true):=by
 unfold cP at h;rw[List.pairwise_map]at h;exact h.imp fun{a b} hab hb=>dR _ _ _ hab hb
theorem p6{l:List bD}(h:cP (l.map (·.tag)))(t:am):eJ l t dB=(((l.takeWhile (fun a=>bi a.tag t)).length:Int),decide (t∈l.map (·.tag))):=by
 unfold eJ;rw[JC l (fun a=>bi a.tag t) (fun a=>dB a t) (fun a=>by unfold dB;rw[bM];exact dL _ _) (gq l t dB) (fun _ _ _=>rfl) (u5 (fun a:bD=>a.tag) h t)];simp only;have e:=List.takeWhile_append_dropWhile (p:=fun a:bD=>bi a.tag t) (l:=l);have hd:=rJ (fun a:bD=>bi a.tag t) l;by_cases hlt:(((l.takeWhile (fun a=>bi a.tag t)).length:Int))<(l.length:Int)
 ·have hlt':(l.takeWhile (fun a=>bi a.tag t)).length<l.length:=by omega
  congr 1;rw[decide_eq_true hlt,Bool.true_and,dQ l hlt',Bool.eq_iff_iff,decide_eq_true_eq,decide_eq_true_eq];unfold dB;rw[bM,nI];have hdc:=List.drop_eq_getElem_cons hlt';rw[hd]at hdc;constructor
  ·intro he;rw[←he];exact List.mem_map_of_mem (List.getElem_mem _)
  ·intro hm;obtain⟨a,ha,rfl⟩:=List.mem_map.1 hm;rw[←e]at ha;rcases List.mem_append.1 ha with h1|h1
   ·have:=List.all_eq_true.1 (List.all_takeWhile (p:=fun x:bD=>bi x.tag a.tag) (l:=l)) a h1;rw[cV]at this;cases this
   ·rw[hdc]at h1;rcases List.mem_cons.1 h1 with h2|h2
    ·rw[←h2]
    ·exfalso;have hr:cP ((l.dropWhile (fun x=>bi x.tag a.tag)).map (·.tag)):=by
      unfold cP at h⊢;exact h.sublist ((List.dropWhile_sublist _).map _)
     rw[hdc]at hr;unfold cP at hr;rw[List.map_cons,List.pairwise_cons]at hr;have h3:=hr.1 a.tag (List.mem_map_of_mem h2);have h4:bi (l[(l.takeWhile (fun x=>bi x.tag a.tag)).length]).tag a.tag=false:=by
      have:=List.head?_dropWhile_not (fun x:bD=>bi x.tag a.tag) l;rw[hdc,List.head?_cons]at this;exact this
     rw[h3]at h4;cases h4
 ·congr 1;rw[decide_eq_false hlt,Bool.false_and];symm;rw[decide_eq_false_iff_not];intro hm;obtain⟨a,ha,rfl⟩:=List.mem_map.1 hm;have hlen:=congrArg List.length e;rw[List.length_append]at hlen;have:l.dropWhile (fun x=>bi x.tag a.tag)= []:=List.eq_nil_of_length_eq_zero (by omega);rw[this,List.append_nil]at e;rw[←e]at ha;have:=List.all_eq_true.1 (List.all_takeWhile (p:=fun x:bD=>bi x.tag a.tag) (l:=l)) a ha;rw[cV]at this;cases this
theorem u6(a b:am)(h1:bi a b=false)(h2:bi b a=false):a=b:=by
 rcases kG a b with h|h|h
 ·rw[h]at h1;cases h1
 ·exact h
 ·rw[h]at h2;cases h2
theorem p7(l:List am):cP (dd (bl ak l))∧(∀x,x∈dd (bl ak l)↔x∈l):=by
 have e: ∀a b,ltOf ak a b=bi a b:=fun a b=>by
  unfold ltOf;rw[bM,Bool.eq_iff_iff,decide_eq_true_iff];exact dL a b
 have hp:(bl ak l).Perm l:=List.mergeSort_perm _ _;have hs:(bl ak l).Pairwise (fun a b=>bi b a=false):=by
  have:=List.pairwise_mergeSort (le:=fun x y=>!(ltOf ak) y x) (fun a b c h1 h2=>by
   simp only[e,Bool.not_eq_true']at*;rcases kG c a with h|h|h
   ·rcases kG b a with g|g|g
    ·rw[g]at h1;cases h1
    ·subst g;rw[h]at h2;cases h2
    ·have:=dR c a b h g;rw[this]at h2;cases h2
   ·subst h;exact cV c
   ·exact gz h) (fun a b=>by
   simp only[e,Bool.or_eq_true,Bool.not_eq_true'];rcases kG a b with h|h|h
   ·exact .inl (gz h)
   ·subst h;exact .inl (cV a)
   ·exact .inr (gz h)) l
  exact this.imp fun{a b} h=>by simpa only[e,Bool.not_eq_true']using h
 refine⟨qw bi u6 dR _ hs,fun x=>by rw[uY];exact hp.mem_iff⟩
theorem u7{l:List am}(h:cP l)(t:am):cT l t ak=(((l.takeWhile (fun a=>bi a t)).length:Int),decide (t∈l)):=by
 obtain⟨q,e,h0,h1,h2,h3⟩:=my h t;rw[e];congr 1;have:=E0 (fun a=>bi a t) l q.toNat (fun k hk hkl=>by
  have:=h2 k (by omega) (by omega);rw[dQ l hkl]at this;exact this) (fun k hk hkl=>by
  have:=h3 k (by omega) (by omega);rw[dQ l hkl]at this;exact this) (by omega)
 rw[this];omega
theorem Hr{α β:Type}(f:α→β)(p:β→Bool)(l:List α):((l.map f).takeWhile p).length=(l.takeWhile (fun x=>p (f x))).length:=by
 rw[List.takeWhile_map,List.length_map];rfl
theorem tH(s:ci):eT s=if 0≤s.plus∧s.plus≤1125899906842624∧0≤s.minus∧s.minus≤1125899906842624 then 0 else 2:=by
 unfold eT;obtain⟨q,h⟩:=kF [s.plus,s.minus] (fun x=>decide (0≤x∧x≤1125899906842624)) 2 (fP s) (fun fuel i _=>by
  rw[fP];show(if i<2 then _ else _)=(if i<2 then _ else _)
  split
  ·by_cases x:ix [s.plus,s.minus] i<0∨1125899906842624<ix [s.plus,s.minus] i
   ·rw[if_pos x,if_neg (by simp;omega)]
   ·rw[if_neg x,if_pos (by simp;omega)]
  ·rfl)
 rw[show(((2:Int)-(0:Int)).toNat+1)=((([s.plus,s.minus].length:Int))-(0:Int)).toNat+1 from rfl,h];by_cases hb:0≤s.plus∧s.plus≤1125899906842624∧0≤s.minus∧s.minus≤1125899906842624
 ·rw[if_pos hb,if_pos (by simp;omega)]
 ·rw[if_neg hb,if_neg (by simp;omega)]
theorem qz(lo hi:Int)(l:List Int):gZ lo hi l=l.all (fun x=>decide (lo≤x∧x≤hi)):=by
 unfold gZ;obtain⟨q,h⟩:=kF l (fun x=>decide (lo≤x∧x≤hi)) false (fh lo hi l) (fun fuel i _=>by
  rw[fh];split
  ·by_cases x:ix l i<lo∨hi<ix l i
   ·rw[if_pos x,if_neg (by simp;omega)]
   ·rw[if_neg x,if_pos (by simp;omega)]
  ·rfl)
 rw[h];by_cases e:l.all (fun x=>decide (lo≤x∧x≤hi))=true
 ·rw[if_pos e,e]
 ·rw[if_neg e];simp only;symm;simpa using e
theorem Dt{a b:Int}(h: -1125899906842624≤a∧a≤1125899906842624∧ -1125899906842624≤b∧b≤1125899906842624):fa a b=if -1125899906842624≤a+b∧a+b≤1125899906842624 then(a+b,0)else(0,12):=by
 unfold fa;rw[qz,qz,co (by omega),if_pos (by simp;omega)];by_cases e: -1125899906842624≤a+b∧a+b≤1125899906842624
 ·rw[if_pos e,if_pos (by simp;omega)]
 ·rw[if_neg e,if_neg (by simp;omega)]
theorem E2.nil:E2 ⟨[],[]⟩:=⟨fun _ h=>(by cases h),fun _ h=>(by cases h)⟩
theorem E3.nil:E3 ⟨[],[]⟩:=⟨fun _ h=>(by cases h),fun _ h=>(by cases h)⟩
end Go.Proofs.YtmpeiadlohbikaaGreatDoor.V
end

section
set_option linter.unusedVariables false
set_option linter.unusedSimpArgs false
namespace Go.Proofs.YtmpeiadlohbikaaGreatDoor.V
open Go.RowKit Go.Shelf Go.Lib Go.Sort
def p8{α:Type}(key:α→am)(l:List α)(a:α):List α:=pc (fun x y=>bi (key x) (key y)) l a
theorem At{α:Type}(key:α→am)(l:List α)(a:α):(p8 key l a).map key=pc bi (l.map key) (key a):=by
 unfold p8 pc;rw[List.map_append,List.map_append,List.takeWhile_map,List.dropWhile_map];rfl
theorem Au{α:Type}(key:α→am)(l:List α)(a x:α):x∈p8 key l a↔x=a∨x∈l:=Ar _ l a x
theorem Av{α:Type}(key:α→am)(l:List α)(a:α):(p8 key l a).length=l.length+1:=As _ l a
theorem vd{α:Type}{key:α→am}{l:List α}{a:α}(h:cP (l.map key))(hn:key a∉l.map key):cP ((p8 key l a).map key):=by
 rw[At];exact tC bi u6 dR h (fun x hx q=>hn (q▸hx))
theorem Aw{α:Type}{key:α→am}{l l':List α}(h:cP (l.map key))(h':cP (l'.map key))(hm: ∀x,x∈l↔x∈l'):l=l':=by
 unfold cP at h h';rw[List.pairwise_map]at h h';exact im (fun x y=>bi (key x) (key y)) (fun a b q=>gz q) h h' hm
theorem Ax{l l':List am}(h:cP l)(h':cP l')(hm: ∀x,x∈l↔x∈l'):l=l':=im bi (fun a b q=>gz q) h h' hm
structure iC{α:Type}(key:α→am)(mk:ax→α)(A D:Int)(adds:List α)(gone:List am)(L:List ax):Prop where
 n:adds.length≤L.length
 g:gone.length≤50*L.length
 ra:cP (adds.map key)
 rg:cP gone
 mg: ∀t,t∈gone↔ ∃e∈L,e.act=D∧t∈e.tags
 ma: ∀a,a∈adds↔(∃e∈L,e.act=A∧a=mk e)∧key a∉gone
section
variable {α:Type} {key:α→am} {mk:ax→α} {A D:Int} {adds adds':List α} {gone gone':List am} {L L':List ax} {e:ax}
theorem iC.nil:iC key mk A D [] [] []:=⟨Nat.le_refl _,Nat.le_refl _,List.Pairwise.nil,List.Pairwise.nil,by simp,by simp⟩
theorem iC.dj(h:iC key mk A D adds gone L): ∀a∈adds,key a∉gone:=fun a ha=>((h.ma a).1 ha).2
theorem iC.other(h:iC key mk A D adds gone L)(h1: ¬e.act=A)(h2: ¬e.act=D):iC key mk A D adds gone (L++ [e]):=by
 refine⟨by have:=h.n;simp;omega,by have:=h.g;simp;omega,h.ra,h.rg,fun t=>?_,fun a=>?_⟩
 ·rw[h.mg];simp[h2]
 ·rw[h.ma];simp[h1]
theorem iC.fresh(h:iC key mk A D adds gone L)(hk: ∀e,key (mk e)=e.tag)(hf:e.tag∉L.map (·.tag)):key (mk e)∉adds.map key:=fun hm=>by
 obtain⟨a,ha,h2⟩:=List.mem_map.1 hm;obtain⟨⟨e',he',_,rfl⟩,_⟩:=(h.ma a).1 ha;rw[hk,hk]at h2;exact hf (List.mem_map.2 ⟨e',he',h2⟩)
theorem iC.put(h:iC key mk A D adds gone L)(hk: ∀e,key (mk e)=e.tag)(hA:e.act=A)(hAD: ¬A=D)(hf:e.tag∉L.map (·.tag)):iC key mk A D (if key (mk e)∈gone then adds else p8 key adds (mk e)) gone (L++ [e]):=by
 have hfr:=h.fresh (e:=e) hk hf;have hg: ∀t,t∈gone↔ ∃x∈L++ [e],x.act=D∧t∈x.tags:=fun t=>by rw[h.mg];simp[hA,hAD]
 split
 ·rename_i hm;refine⟨by have:=h.n;simp;omega,by have:=h.g;simp;omega,h.ra,h.rg,hg,fun a=>?_⟩;rw[h.ma];constructor
  ·rintro⟨⟨x,hx,h1,h2⟩,h3⟩;exact⟨⟨x,by simp[hx],h1,h2⟩,h3⟩
  ·rintro⟨⟨x,hx,h1,rfl⟩,h3⟩;rcases List.mem_append.1 hx with hx|hx
   ·exact⟨⟨x,hx,h1,rfl⟩,h3⟩
   ·rw[List.mem_singleton]at hx;subst hx;exact absurd hm h3
 ·rename_i hm;refine⟨by have:=h.n;rw[Av];simp;omega,by have:=h.g;simp;omega,vd h.ra hfr,h.rg,hg,fun a=>?_⟩;rw[Au,h.ma];constructor
  ·rintro(rfl|⟨⟨x,hx,h1,h2⟩,h3⟩)
   ·exact⟨⟨e,by simp,hA,rfl⟩,hm⟩
   ·exact⟨⟨x,by simp[hx],h1,h2⟩,h3⟩
  ·rintro⟨⟨x,hx,h1,rfl⟩,h3⟩;rcases List.mem_append.1 hx with hx|hx
   ·exact .inr ⟨⟨x,hx,h1,rfl⟩,h3⟩
   ·rw[List.mem_singleton]at hx;subst hx;exact .inl rfl
theorem iC.drop(h:iC key mk A D adds gone L)(hD:e.act=D)(hAD: ¬A=D)(hr:cP gone')(hm: ∀t,t∈gone'↔t∈gone∨t∈e.tags)(hl:gone'.length≤gone.length+e.tags.length)(h100:e.tags.length≤50):iC key mk A D (adds.filter (fun a=>!decide (key a∈gone'))) gone' (L++ [e]):=by
 refine⟨by have:=h.n;have:=List.length_filter_le (fun a=>!decide (key a∈gone')) adds;simp;omega,by have:=h.g;simp;omega,?_,hr,fun t=>?_,fun a=>?_⟩
 ·have:=h.ra;unfold cP at this⊢;exact this.sublist (List.filter_sublist.map _)
 ·rw[hm,h.mg];constructor
  ·rintro(⟨x,hx,h1,h2⟩|h1)
   ·exact⟨x,by simp[hx],h1,h2⟩
   ·exact⟨e,by simp,hD,h1⟩
  ·rintro⟨x,hx,h1,h2⟩;rcases List.mem_append.1 hx with hx|hx
   ·exact .inl ⟨x,hx,h1,h2⟩
   ·rw[List.mem_singleton]at hx;subst hx;exact .inr h2
 ·rw[List.mem_filter,h.ma];constructor
  ·rintro⟨⟨⟨x,hx,h1,h2⟩,h3⟩,h4⟩;exact⟨⟨x,by simp[hx],h1,h2⟩,by simpa using h4⟩
  ·rintro⟨⟨x,hx,h1,rfl⟩,h3⟩;rcases List.mem_append.1 hx with hx|hx
   ·exact⟨⟨⟨x,hx,h1,rfl⟩,fun q=>h3 ((hm _).2 (.inl q))⟩,by simpa using h3⟩
   ·rw[List.mem_singleton]at hx;subst hx;exact absurd (h1.symm.trans hD) hAD
theorem iC.ext(h:iC key mk A D adds gone L)(h':iC key mk A D adds' gone' L')(hm: ∀e,e∈L↔e∈L'):adds=adds'∧gone=gone':=by
 have hg:gone=gone':=Ax h.rg h'.rg fun t=>by rw[h.mg,h'.mg];simp only[hm]
 subst hg;exact⟨Aw h.ra h'.ra fun a=>by rw[h.ma,h'.ma];simp only[hm],rfl⟩
end
def qa(a b:bT):Prop:=a.at_.time<b.at_.time∨(a.at_.time=b.at_.time∧(a.at_.origin<b.at_.origin∨(a.at_.origin=b.at_.origin∧a.val<b.val)))
def zR:bT:=⟨0,⟨0,0⟩⟩
def Ay(e:ax):bT:=⟨e.val,e.at_⟩
theorem Du{a b:bT}(h1:a.val=b.val)(h2:a.at_.time=b.at_.time)(h3:a.at_.origin=b.at_.origin):a=b:=by
 obtain⟨a1,⟨a2,a3⟩⟩:=a;obtain⟨b1,⟨b2,b3⟩⟩:=b;simp only at h1 h2 h3;subst h1;subst h2;subst h3;rfl
theorem wT{a b:bT}(h1: ¬qa a b)(h2: ¬qa b a):a=b:=by
 unfold qa at h1 h2;exact Du (by omega) (by omega) (by omega)
structure mA(r:bT)(L:List ax):Prop where
 i:r=zR∨ ∃e∈L,e.act=1∧r=Ay e
 z: ¬qa r zR
 m: ∀e∈L,e.act=1→ ¬qa r (Ay e)
theorem rQ(a:bT): ¬qa a a:=by unfold qa;omega
theorem mA.nil:mA zR []:=⟨.inl rfl,rQ _,by simp⟩
theorem mA.other{r:bT}{L:List ax}{e:ax}(h:mA r L)(h1: ¬e.act=1):mA r (L++ [e]):=by
 refine⟨?_,h.z,fun x hx h2=>?_⟩
 ·rcases h.i with q|⟨x,hx,q⟩
  ·exact .inl q
  ·exact .inr ⟨x,by simp[hx],q⟩
 ·rcases List.mem_append.1 hx with hx|hx
  ·exact h.m x hx h2
  ·rw[List.mem_singleton]at hx;subst hx;exact absurd h2 h1
theorem mA.ext{r r':bT}{L L':List ax}(h:mA r L)(h':mA r' L')(hm: ∀e,e∈L↔e∈L'):r=r':=by
 have key: ∀{r r':bT} {L L':List ax},mA r L→mA r' L'→(∀e,e∈L↔e∈L')→ ¬qa r r':=fun{r r' L L'} h h' hm=>by
  rcases h'.i with q|⟨x,hx,h1,q⟩
  ·rw[q];exact h.z
  ·rw[q];exact h.m x ((hm x).2 hx) h1
 exact wT (key h h' hm) (key h' h (fun e=>(hm e).symm))
def sP:List ax→Int
 | []=>0
 |e::l=>(if e.act=2∧0≤e.val then e.val else 0)+sP l
def sM:List ax→Int
 | []=>0
 |e::l=>(if e.act=2∧e.val<0 then 0 - e.val else 0)+sM l
theorem ve: ∀(l m:List ax),sP (l++m)=sP l+sP m
 | [],m=>by simp[sP]
 |e::l,m=>by rw[List.cons_append,sP,sP,ve l m];omega
theorem vg: ∀(l m:List ax),sM (l++m)=sM l+sM m
 | [],m=>by simp[sM]
 |e::l,m=>by rw[List.cons_append,sM,sM,vg l m];omega
theorem wU{l m:List ax}(h:l.Perm m):sP l=sP m:=by
 induction h with
 |nil=>rfl
 |cons x _ ih=>simp only[sP,ih]
 |swap x y l=>simp only[sP];omega
 |trans _ _ h1 h2=>exact h1.trans h2
theorem wV{l m:List ax}(h:l.Perm m):sM l=sM m:=by
 induction h with
 |nil=>rfl
 |cons x _ ih=>simp only[sM,ih]
 |swap x y l=>simp only[sM];omega
 |trans _ _ h1 h2=>exact h1.trans h2
theorem E4: ∀{l:List ax},(∀e∈l,e.act=2→ -1073741824≤e.val∧e.val≤1073741824)→0≤sP l∧sP l≤1073741824*l.length∧0≤sM l∧sM l≤1073741824*l.length
 | [],_=>by simp[sP,sM]
 |e::l,h=>by
  have ih:=E4 (l:=l) (fun x hx=>h x (by simp[hx]));have he:=h e (by simp);simp only[sP,sM,List.length_cons];split<;>split<;>omega
structure jC(s:br):Prop where
 la:s.adds.length≤4096
 lg:s.gone.length≤4096
 ta: ∀a∈s.adds,aW a.tag=0
 tg: ∀t∈s.gone,aW t=0
 ra:cP (s.adds.map (·.tag))
 rg:cP s.gone
 el: ∀a∈s.adds,fB a.elem=true
 dj: ∀a∈s.adds,a.tag∉s.gone
theorem mB{t:am}(h:aW t=0):cZ t=false:=by unfold cZ;rw[h];rfl
theorem tJ{l:List am}(h: ∀t∈l,aW t=0): ¬l.any cZ=true:=fun q=>by
 obtain⟨a,ha,h2⟩:=List.any_eq_true.1 q;rw[mB (h a ha)]at h2;cases h2
theorem iL{s:br}(h:jC s):ew s=0:=by
 unfold ew;rw[if_neg (by have:=h.la;have:=h.lg;omega),if_neg (by
  rw[kb,dq];rintro(q|q)
  ·obtain⟨a,ha,h2⟩:=List.any_eq_true.1 q;have h2:cZ a.tag=true:=h2;rw[mB (h.ta a ha)]at h2;cases h2
  ·exact tJ h.tg q),if_neg (by
  rintro(q|q)
  ·exact q ⟨(p5 s.adds).2 h.ra,(iX s.gone).2 h.rg⟩
  ·rw[kb]at q;obtain⟨a,ha,h2⟩:=List.any_eq_true.1 q;have h2:(!fB a.elem||(cT s.gone a.tag ak).2)=true:=h2;rw[rM h.rg,h.el a ha]at h2;simp at h2;exact h.dj a ha h2)]
theorem xX{s:br}(h:jC s){a:bD}(ht:aW a.tag=0)(he:fB a.elem=true)(hl:s.adds.length<4096)(hf:a.tag∉s.adds.map (·.tag)):
  gJ s a=(⟨if a.tag∈s.gone then s.adds else p8 (·.tag) s.adds a,s.gone⟩,0):=by
 have hb:(eJ s.adds a.tag fun(t:bD) (t':am)=>dB t t')=_:=p6 h.ra a.tag;have hg:(kz s a.tag=true)↔a.tag∈s.gone:=by
  show((cT s.gone a.tag ak).2=true)↔_
  rw[rM h.rg,decide_eq_true_eq]
 unfold gJ;rw[if_pos (iL h),if_neg (by rw[mB ht];simp),if_pos he,hb];by_cases c5:a.tag∈s.gone
 ·rw[if_pos (.inr (hg.2 c5)),if_pos c5]
 ·rw[if_neg (fun q=>q.elim (fun q=>hf (of_decide_eq_true q)) (fun q=>c5 (hg.1 q))),if_neg c5,if_neg (by omega)];unfold gT p8 pc;simp only[Int.toNat_natCast,wO,rJ]
def io(g l:List am):List am:=dd (bl ak (g++l))
theorem iM(g l:List am):cP (io g l)∧(∀t,t∈io g l↔t∈g∨t∈l)∧(io g l).length≤g.length+l.length:=by
 have h:=p7 (g++l);refine⟨h.1,fun t=>(h.2 t).trans List.mem_append,?_⟩;have:=Aq (bl ak (g++l))
 rwa [da,List.length_append]at this
theorem vh{s:br}(h:jC s){l:List am}(hl: ∀t∈l,aW t=0)(hn:l.length≤4096)(hg:s.gone.length+l.length≤4096):
  fb s l=(⟨s.adds.filter (fun a=>!decide (a.tag∈io s.gone l)),io s.gone l⟩,0):=by
 have hf:=iM s.gone l;have hd:dd (bl (fun(t t':am)=>ak t t') (s.gone++l))=io s.gone l:=rfl;unfold fb;rw[if_pos (iL h),if_neg (by omega),if_neg (by rw[dq];exact tJ hl),hd];rw[if_neg (show ¬4096<((io s.gone l).length:Int)by omega)];refine congrArg (fun x=>((⟨x,io s.gone l⟩:br),(0:Int))) ?_;apply List.filter_congr;intro a ha;congr 1;show(cT (io s.gone l) a.tag ak).2=_
 rw[rM hf.1]
structure kH(s:bw):Prop where
 la:s.puts.length≤4096
 lg:s.gone.length≤4096
 ta: ∀a∈s.puts,aW a.tag=0
 tg: ∀t∈s.gone,aW t=0
 ra:cP (s.puts.map (·.tag))
 rg:cP s.gone
 el: ∀a∈s.puts,eV a=true
 dj: ∀a∈s.puts,a.tag∉s.gone
theorem iQ{s:bw}(h:kH s):ez s=0:=by
 unfold ez;rw[if_neg (by have:=h.la;have:=h.lg;omega),if_neg (by
  rw[dq,dq,mw];rintro(q|q)
  ·refine tJ (l:=s.puts.map (·.tag)) (fun t ht=>?_) q;obtain⟨a,ha,rfl⟩:=List.mem_map.1 ht;exact h.ta a ha
  ·exact tJ h.tg q),if_neg (by
  rw[mw,tG,tG,iX,iX];rintro(q|q)
  ·exact q h.ra
  ·exact q h.rg)]
 obtain⟨q5,l5⟩:=kF s.puts (fun p=>eV p&&!decide (p.tag∈s.gone)) 3 (fQ s) (fun fuel i _=>by
  rw[fQ,u4 h.rg];split
  ·by_cases x1:eV (ix s.puts i)=true<;>by_cases x2:(ix s.puts i).tag∈s.gone<;>simp[x1,x2]
  ·rfl)
 rw[l5,if_pos (by
  rw[List.all_eq_true];intro a ha;simp[h.el a ha,h.dj a ha])]
theorem tL{s:bw}(h:kH s){a:bk}(ht:aW a.tag=0)(he:eV a=true)(hl:s.puts.length<4096)(hf:a.tag∉s.puts.map (·.tag)):
  d4 s a=(⟨if a.tag∈s.gone then s.puts else p8 (·.tag) s.puts a,s.gone⟩,0):=by
 have hmo:gK s=(s.puts,s.gone):=rfl;have hb:(cT (eb s.puts) a.tag fun(t t':am)=>ak t t')=(((s.puts.takeWhile (fun x=>bi x.tag a.tag)).length:Int),decide (a.tag∈s.puts.map (·.tag))):=by
  rw[mw];have:=u7 h.ra a.tag;rw[Hr]at this;exact this
 unfold d4;rw[if_pos (iQ h),if_neg (by rw[show d7 a.tag=cZ a.tag from rfl,mB ht];simp),if_pos he,hmo,hb,u4 h.rg];simp only[decide_eq_true_eq];by_cases c5:a.tag∈s.gone
 ·rw[if_pos (.inr c5),if_pos c5]
 ·rw[if_neg (fun q=>q.elim hf c5),if_neg c5,if_neg (by omega)];unfold gT p8 pc;simp only[Int.toNat_natCast,wO,rJ]
theorem vj{s:bw}(h:kH s){l:List am}(hl: ∀t∈l,aW t=0)(hn:l.length≤4096)(hg:s.gone.length+l.length≤4096):
  fc s l=(⟨s.puts.filter (fun a=>!decide (a.tag∈io s.gone l)),io s.gone l⟩,0):=by
 have hf:=iM s.gone l;have hd:dd (bl (fun(t t':am)=>ak t t') (s.gone++l))=io s.gone l:=rfl;unfold fc;rw[if_pos (iQ h),if_neg (by omega),if_neg (by rw[dq];exact tJ hl),hd];rw[if_neg (show ¬4096<((io s.gone l).length:Int)by omega)];refine congrArg (fun x=>((⟨x,io s.gone l⟩:bw),(0:Int))) ?_;apply List.filter_congr;intro a ha;congr 1;show lw (io s.gone l) a.tag=_
 rw[u4 hf.1]
theorem Az(x y:Int):ls x y=if x<y then -1 else if y<x then 1 else 0:=by unfold ls ng;simp
theorem AA(a b:Int):jd [a,b]=if a=0 then b else a:=by
 unfold jd;rw[show(((([a,b]:List Int).length:Int)-(0:Int)).toNat+1)=3 from rfl];simp only[gX,ix,List.length_cons,List.length_nil];by_cases ha:a=0<;>by_cases hb:b=0<;>simp[ha,hb]
theorem tM(a b:bT):(qa a b→ij a b=b)∧(¬qa a b→ij a b=a):=by
 have:(fY [bX a.at_ b.at_,ls a.val b.val]<0)↔qa a b:=by
  rw[ka,Az];unfold bX;rw[ka,om,kD];unfold qa;by_cases h1:a.at_.time<b.at_.time
  ·simp[h1]
  ·by_cases h2:b.at_.time<a.at_.time
   ·simp[h1,h2];omega
   ·by_cases h3:a.at_.origin<b.at_.origin
    ·have e:a.at_.time=b.at_.time:=by omega
     simp[h3,e]
    ·by_cases h4:b.at_.origin<a.at_.origin
     ·have e:a.at_.time=b.at_.time:=by omega
      simp[h3,h4,e];omega
     ·have e:a.at_.time=b.at_.time:=by omega
      have e2:a.at_.origin=b.at_.origin:=by omega
      by_cases h5:a.val<b.val
      ·simp[e,e2,h5]
      ·by_cases h6:b.val<a.val
       ·simp[e,e2,h5,h6]
       ·simp[e,e2,h5,h6]
 unfold ij;exact⟨fun h=>if_pos (this.2 h),fun h=>if_neg (fun q=>h (this.1 q))⟩
theorem tN{r:bT}{L:List ax}{e:ax}(h:mA r L)(h0:dA r.at_=0)(h1:dA e.at_=0)(h2:0<e.at_.time)(ha:e.act=1): ∃r',eS r e.val e.at_=(r',0)∧mA r' (L++ [e])∧dA r'.at_=0:=by
 refine⟨ij r (Ay e),?_,?_⟩
 ·unfold eS;rw[if_pos (by rw[AA,if_pos h0];exact h1),if_neg (by omega)];rfl
 ·by_cases q:qa r (Ay e)
  ·rw[(tM r (Ay e)).1 q];refine⟨⟨.inr ⟨e,by simp,ha,rfl⟩,?_,fun x hx hx1=>?_⟩,h1⟩
   ·have:=h.z;unfold qa at*;omega
   ·rcases List.mem_append.1 hx with hx|hx
    ·have:=h.m x hx hx1;unfold qa at*;omega
    ·rw[List.mem_singleton]at hx;subst hx;exact rQ _
  ·rw[(tM r (Ay e)).2 q];refine⟨⟨?_,h.z,fun x hx hx1=>?_⟩,h0⟩
   ·rcases h.i with g|⟨x,hx,g⟩
    ·exact .inl g
    ·exact .inr ⟨x,by simp[hx],g⟩
   ·rcases List.mem_append.1 hx with hx|hx
    ·exact h.m x hx hx1
    ·rw[List.mem_singleton]at hx;subst hx;exact q
theorem pm{a b:Int}(h1:0≤a)(h2:0≤b)(h3:a+b≤1125899906842624):fa a b=(a+b,0):=by
 rw[Dt (by omega),if_pos (by omega)]
theorem qB{n:ci}(h:eT n=0):0≤n.plus∧n.plus≤1125899906842624∧0≤n.minus∧n.minus≤1125899906842624:=by
 rw[tH]at h;split at h
 ·assumption
 ·cases h
theorem tO{n:ci}{d:Int}(h:eT n=0)(h1: -1073741824≤d∧d≤1073741824)(h2:n.plus≤100000000000∧n.minus≤100000000000):eU n d=(⟨n.plus+(if 0≤d then d else 0),n.minus+(if d<0 then 0 - d else 0)⟩,0):=by
 have hc:=qB h;unfold eU;rw[if_pos h,if_neg (by omega)];by_cases hd:d<0
 ·rw[if_pos hd,pm (by omega) (by omega) (by omega),if_pos rfl,if_pos hd,if_neg (show ¬0≤d by omega),Int.add_zero,Int.zero_sub]
 ·rw[if_neg hd,pm (by omega) (by omega) (by omega),if_pos rfl,if_neg hd,if_pos (show 0≤d by omega),Int.add_zero]
structure rR(k:Int)(e:ax):Prop where
 c:d6 e=0
 k:cy e.act=k
 t:e.tags.length≤50
structure E5(e:ax):Prop where
 tag:aW e.tag=0
 tags: ∀t∈e.tags,aW t=0
 at_:e.act=1∨e.act=5→dA e.at_=0∧0<e.at_.time
 name:e.act=3∨e.act=5→fB e.name=true
 val:e.act=2→ -1073741824≤e.val∧e.val≤1073741824
theorem Hv{a:Int}(h:a=1∨a=5):(cz a).at_=true:=by rcases h with rfl|rfl<;>rfl
theorem Hw{a:Int}(h:a=3∨a=5):(cz a).name=true:=by rcases h with rfl|rfl<;>rfl
theorem eD{e:ax}(h:d6 e=0):E5 e:=by
 unfold d6 at h;split at h
 ·rename_i h0;split at h
  ·cases h
  rename_i h1;split at h
  ·cases h
  split at h
  ·cases h
  rename_i h2;have t1: ¬ch e.tag=true:=fun q=>h1 (.inl q);have t2: ¬(cc e.tags fun(t:am)=>ch t)=true:=fun q=>h1 (.inr q);unfold bv at h0;split at h0
  ·cases h0
  split at h0
  ·cases h0
  rename_i o1;split at h0
  ·cases h0
  split at h0
  ·cases h0
  split at h0
  ·cases h0
  rename_i o4;refine⟨by unfold ch at t1;simpa using t1,fun t ht=>?_,fun ha=>?_,fun ha=>?_,fun ha=>?_⟩
  ·rw[dq]at t2;have:=t2;simp only[Bool.not_eq_true,List.any_eq_false]at this;have:=this t ht;unfold ch at this;simpa using this
  ·have hq:=Hv ha;have hq2:d5 e.at_=true:=Classical.byContradiction fun q=>h2 (.inl (.inl ⟨hq,q⟩));unfold d5 at hq2;simpa using hq2
  ·exact Classical.byContradiction fun q=>o1 ⟨Hw ha,q⟩
  ·have o4: ¬(e.act=2∧(e.val< -1073741824∨1073741824<e.val)):=o4;omega
 ·rename_i h0;exact absurd h h0
def IL(e:ax):bD:=⟨e.tag,e.name⟩
def vk(e:ax):bk:=⟨e.tag,e.name,e.val,e.at_⟩
structure gV(k:Int)(s:aG)(L:List ax):Prop where
 kd:s.kind=k
 r:mA s.reg L
 p:s.num.plus=sP L
 m:s.num.minus=sM L
 st:iC (·.tag) IL 3 4 s.set.adds s.set.gone L
 mp:iC (·.tag) vk 5 6 s.map.puts s.map.gone L
theorem tP:dA (⟨0,0⟩:aj)=0:=by decide
section
variable {k:Int} {s s':aG} {L L':List ax} {e:ax}
theorem gV.reg0(h:gV k s L)(hg: ∀x∈L,rR k x):dA s.reg.at_=0:=by
 rcases h.r.i with q|⟨x,hx,ha,q⟩
 ·rw[q];exact tP
 ·rw[q];exact((eD (hg x hx).c).at_ (.inl ha)).1
theorem gV.set0(h:gV k s L)(hg: ∀x∈L,rR k x)(hl:L.length≤50):jC s.set:=by
 have hn:=h.st.n;have hgo:=h.st.g;refine⟨by omega,by omega,fun a ha=>?_,fun t ht=>?_,h.st.ra,h.st.rg,fun a ha=>?_,h.st.dj⟩
 ·obtain⟨⟨x,hx,_,rfl⟩,_⟩:=(h.st.ma a).1 ha;exact(eD (hg x hx).c).tag
 ·obtain⟨x,hx,_,h2⟩:=(h.st.mg t).1 ht;exact(eD (hg x hx).c).tags t h2
 ·obtain⟨⟨x,hx,ha3,rfl⟩,_⟩:=(h.st.ma a).1 ha;exact(eD (hg x hx).c).name (.inl ha3)
theorem qC{e:ax}(h:E5 e)(ha:e.act=5):eV (vk e)=true:=by
 have h1:=h.name (.inr ha);have h2:=h.at_ (.inr ha);unfold fB at h1;unfold eV vk;simp only[Bool.and_eq_true,decide_eq_true_eq]at h1⊢;exact⟨⟨h1,h2.1⟩,h2.2⟩
theorem gV.map0(h:gV k s L)(hg: ∀x∈L,rR k x)(hl:L.length≤50):kH s.map:=by
 have hn:=h.mp.n;have hgo:=h.mp.g;refine⟨by omega,by omega,fun a ha=>?_,fun t ht=>?_,h.mp.ra,h.mp.rg,fun a ha=>?_,h.mp.dj⟩
 ·obtain⟨⟨x,hx,_,rfl⟩,_⟩:=(h.mp.ma a).1 ha;exact(eD (hg x hx).c).tag
 ·obtain⟨x,hx,_,h2⟩:=(h.mp.mg t).1 ht;exact(eD (hg x hx).c).tags t h2
 ·obtain⟨⟨x,hx,ha3,rfl⟩,_⟩:=(h.mp.ma a).1 ha;exact qC (eD (hg x hx).c) ha3
theorem gV.num0(h:gV k s L)(hg: ∀x∈L,rR k x)(hl:L.length≤50):eT s.num=0∧s.num.plus≤100000000000∧s.num.minus≤100000000000:=by
 have hb:=E4 (l:=L) (fun x hx ha=>(eD (hg x hx).c).val ha);have h1:=h.p;have h2:=h.m;refine⟨?_,by omega,by omega⟩;rw[tH,if_pos (by omega)]
theorem gV.ext(h:gV k s L)(h':gV k s' L')(hp:L.Perm L'):s=s':=by
 have hm: ∀x,x∈L↔x∈L':=fun x=>hp.mem_iff;have e1:=h.st.ext h'.st hm;have e2:=h.mp.ext h'.mp hm;have e3:=h.r.ext h'.r hm;have e4:=h.p.trans ((wU hp).trans h'.p.symm);have e5:=h.m.trans ((wV hp).trans h'.m.symm);have e6:=h.kd.trans h'.kd.symm;obtain⟨a1,a2,⟨a3,a4⟩,⟨a5,a6⟩,⟨a7,a8⟩⟩:=s;obtain⟨b1,b2,⟨b3,b4⟩,⟨b5,b6⟩,⟨b7,b8⟩⟩:=s';simp only at e1 e2 e3 e4 e5 e6;obtain⟨rfl,rfl⟩:=e1;obtain⟨rfl,rfl⟩:=e2;subst e3;subst e4;subst e5;subst e6;rfl
theorem JE{a k:Int}(h:cy a=k)(h1:1≤k):a=1∨a=2∨a=3∨a=4∨a=5∨a=6:=by
 unfold cy at h
 repeat' split at h
 all_goals omega
theorem iY{l:List ax}{e:ax}(h: ¬e.act=2):sP (l++ [e])=sP l∧sM (l++ [e])=sM l:=by
 rw[ve,vg];simp[sP,sM,h]
theorem nL(hk:1≤k)(h:gV k s L)(hg: ∀x∈L,rR k x)(he:rR k e)(hf:e.tag∉L.map (·.tag))(hl:L.length<50): ∃s',ae s e=(s',0)∧gV k s' (L++ [e]):=by
 have fe:=eD he.c;have hkk:cy e.act=s.kind:=he.k.trans h.kd.symm;rcases JE he.k hk with ha|ha|ha|ha|ha|ha
 ·obtain⟨r',e1,h1,_⟩:=tN h.r (h.reg0 hg) (fe.at_ (.inl ha)).1 (fe.at_ (.inl ha)).2 ha;refine⟨⟨s.kind,r',s.num,s.set,s.map⟩,?_,h.kd,h1,?_,?_,h.st.other (by omega) (by omega),h.mp.other (by omega) (by omega)⟩
  ·have:=(if_pos he.c).trans ((if_pos hkk).trans ((if_pos ha).trans (if_pos (show(eS s.reg e.val e.at_).2=0 by rw[e1]))))|>(show ae s e=(⟨s.kind,(eS s.reg e.val e.at_).1,s.num,s.set,s.map⟩,0)from ·);rw[this,e1]
  ·rw[(iY (by omega)).1];exact h.p
  ·rw[(iY (by omega)).2];exact h.m
 ·have hn:=h.num0 hg (by omega);have e1:=tO hn.1 (fe.val ha) hn.2;refine⟨⟨s.kind,s.reg,(eU s.num e.val).1,s.set,s.map⟩,?_,h.kd,h.r.other (by omega),?_,?_,h.st.other (by omega) (by omega),h.mp.other (by omega) (by omega)⟩
  ·exact(if_pos he.c).trans ((if_pos hkk).trans ((if_neg (show ¬e.act=1 by omega)).trans ((if_pos ha).trans (if_pos (show(eU s.num e.val).2=0 by rw[e1])))))
  ·simp only[e1];rw[ve,h.p];simp[sP,ha]
  ·simp only[e1];rw[vg,h.m];simp[sM,ha]
 ·have hs:=h.set0 hg (by omega);have hn:=h.st.n;have hfr:=h.st.fresh (e:=e) (fun _=>rfl) hf;have e1:=xX hs (a:=IL e) fe.tag (fe.name (.inl ha)) (by omega) hfr;refine⟨⟨s.kind,s.reg,s.num,(gJ s.set (IL e)).1,s.map⟩,?_,h.kd,h.r.other (by omega),?_,?_,?_,h.mp.other (by omega) (by omega)⟩
  ·exact(if_pos he.c).trans ((if_pos hkk).trans ((if_neg (show ¬e.act=1 by omega)).trans ((if_neg (show ¬e.act=2 by omega)).trans ((if_pos ha).trans (if_pos (show(gJ s.set (IL e)).2=0 by rw[e1]))))))
  ·rw[(iY (by omega)).1];exact h.p
  ·rw[(iY (by omega)).2];exact h.m
  ·simp only[e1];exact h.st.put (fun _=>rfl) ha (by omega) hf
 ·have hs:=h.set0 hg (by omega);have hgo:=h.st.g;have ht:=he.t;have e1:=vh hs fe.tags (by omega) (by omega);have hd:=iM s.set.gone e.tags;refine⟨⟨s.kind,s.reg,s.num,(fb s.set e.tags).1,s.map⟩,?_,h.kd,h.r.other (by omega),?_,?_,?_,h.mp.other (by omega) (by omega)⟩
  ·exact(if_pos he.c).trans ((if_pos hkk).trans ((if_neg (show ¬e.act=1 by omega)).trans ((if_neg (show ¬e.act=2 by omega)).trans ((if_neg (show ¬e.act=3 by omega)).trans ((if_pos ha).trans (if_pos (show(fb s.set e.tags).2=0 by rw[e1])))))))
  ·rw[(iY (by omega)).1];exact h.p
  ·rw[(iY (by omega)).2];exact h.m
  ·simp only[e1];exact h.st.drop ha (by omega) hd.1 hd.2.1 hd.2.2 ht
 ·have hs:=h.map0 hg (by omega);have hn:=h.mp.n;have hfr:=h.mp.fresh (e:=e) (fun _=>rfl) hf;have e1:=tL hs (a:=vk e) fe.tag (qC fe ha) (by omega) hfr;refine⟨⟨s.kind,s.reg,s.num,s.set,(d4 s.map (vk e)).1⟩,?_,h.kd,h.r.other (by omega),?_,?_,h.st.other (by omega) (by omega),?_⟩
  ·exact(if_pos he.c).trans ((if_pos hkk).trans ((if_neg (show ¬e.act=1 by omega)).trans ((if_neg (show ¬e.act=2 by omega)).trans ((if_neg (show ¬e.act=3 by omega)).trans ((if_neg (show ¬e.act=4 by omega)).trans ((if_pos ha).trans (if_pos (show(d4 s.map (vk e)).2=0 by rw[e1]))))))))
  ·rw[(iY (by omega)).1];exact h.p
  ·rw[(iY (by omega)).2];exact h.m
  ·simp only[e1];exact h.mp.put (fun _=>rfl) ha (by omega) hf
 ·have hs:=h.map0 hg (by omega);have hgo:=h.mp.g;have ht:=he.t;have e1:=vj hs fe.tags (by omega) (by omega);have hd:=iM s.map.gone e.tags;refine⟨⟨s.kind,s.reg,s.num,s.set,(fc s.map e.tags).1⟩,?_,h.kd,h.r.other (by omega),?_,?_,h.st.other (by omega) (by omega),?_⟩
  ·exact(if_pos he.c).trans ((if_pos hkk).trans ((if_neg (show ¬e.act=1 by omega)).trans ((if_neg (show ¬e.act=2 by omega)).trans ((if_neg (show ¬e.act=3 by omega)).trans ((if_neg (show ¬e.act=4 by omega)).trans ((if_neg (show ¬e.act=5 by omega)).trans ((if_pos ha).trans (if_pos (show(fc s.map e.tags).2=0 by rw[e1])))))))))
  ·rw[(iY (by omega)).1];exact h.p
  ·rw[(iY (by omega)).2];exact h.m
  ·simp only[e1];exact h.mp.drop ha (by omega) hd.1 hd.2.1 hd.2.2 ht
end
def zO(k:Int):aG:=⟨k,⟨0,⟨0,0⟩⟩,⟨0,0⟩,⟨[],[]⟩,⟨[],[]⟩⟩
theorem Hy{k:Int}(h1:1≤k)(h2:k≤4):bt k=(zO k,0):=by
 unfold bt;rw[if_neg (by omega)];rfl
theorem Hz(k:Int):gV k (zO k) []:=⟨rfl,mA.nil,rfl,rfl,iC.nil,iC.nil⟩
theorem gV.small{k:Int}{s:aG}{L:List ax}(h:gV k s L)(hl:L.length≤50):s.set.adds.length≤1000000∧s.set.gone.length≤1000000∧s.map.puts.length≤1000000∧s.map.gone.length≤1000000:=by
 have:=h.st.n;have:=h.st.g;have:=h.mp.n;have:=h.mp.g;omega
end Go.Proofs.YtmpeiadlohbikaaGreatDoor.V
end

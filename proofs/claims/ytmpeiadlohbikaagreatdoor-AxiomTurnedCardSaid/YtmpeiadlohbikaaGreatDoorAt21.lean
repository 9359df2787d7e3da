/- Ranges over functions: a call of yield, a round's body, the statement, and the functions that hold it. -/
import Derived.Test.YtmpeiadlohbikaaGreatDoorAt20
import Derived.Test.YtmpeiadlohbikaaGreatDoorAt18
import Derived.Test.YtmpeiadlohbikaaGreatDoorAt15
import Derived.Test.YtmpeiadlohbikaaGreatDoorAt1
import Derived.RangeFuncKeeps
import Derived.Lib.AppendStr
import Derived.Lib.ConvBytes
section
set_option linter.unusedVariables false
set_option linter.unusedSimpArgs false
set_option maxRecDepth 20000
set_option maxHeartbeats 4000000
namespace Go.Proofs.YtmpeiadlohbikaaGreatDoor.V
open Go.RowKit
theorem fF{α β:Type} [DecidableEq α]: ∀(m:List (α×β)) (x:α) (v:β),(cJ m x v).length≤m.length+1
 | [],x,v=>by simp[cJ]
 |(k,y)::m,x,v=>by
  unfold cJ;split
  ·simp
  ·have:=fF m x v;simp;omega
def cV{α β:Type}(m:List (α×β)):Prop:=(m.map (·.1)).Nodup
theorem nX{α β:Type} [DecidableEq α]: ∀(m:List (α×β)) (k:α) (v:β),(cJ m k v).map (·.1)=if k∈m.map (·.1)then m.map (·.1)else m.map (·.1)++ [k]
 | [],k,v=>by simp[cJ]
 |e::r,k,v=>by
  unfold cJ;split
  ·rename_i h;rw[if_pos (by simp[h])];simp[h]
  ·rename_i h;rw[List.map_cons,nX r k v,List.map_cons];by_cases q:k∈r.map (·.1)
   ·rw[if_pos q,if_pos (by simp[q])]
   ·rw[if_neg q,if_neg (by rw[List.mem_cons];rintro(g|g);exact h g.symm;exact q g)];rfl
theorem oV{α β:Type} [DecidableEq α]{m:List (α×β)}(h:cV m)(k:α)(v:β):cV (cJ m k v):=by
 unfold cV at*;rw[nX];split
 ·exact h
 ·rename_i q;rw[List.nodup_append];refine⟨h,by simp,fun a ha b hb e=>?_⟩;simp at hb;subst hb;subst e;exact q ha
theorem pM{α:Type}{left a b:List α}{p:α}(h:left=a++p::b):(a++b).length<left.length:=by subst h;simp
theorem Eh(x y:List UInt8):nU x y=if x<y then -1 else if y<x then 1 else 0:=by unfold nU nS;simp
def sM(p:List UInt8×bK):ar:=ar.mk p.1 p.2.val
def gO(m:List (List UInt8×bK))(l:List ar)(left:List (List UInt8×bK)):Prop:=cV m∧(l++left.map sM).Perm (m.map sM)
theorem ux{m:List (List UInt8×bK)}(h:cV m):gO m [] m:=⟨h,by simp⟩
theorem v6{m:List (List UInt8×bK)}{l:List ar}{left a b:List (List UInt8×bK)}{p:List UInt8×bK}(h:gO m l left)(e:left=a++p::b):gO m (l++ [ar.mk p.1 p.2.val]) (a++b):=by
 refine⟨h.1,List.Perm.trans ?_ h.2⟩;subst e;simp only[List.map_append,List.map_cons,List.append_assoc,List.singleton_append];exact List.Perm.append_left _ (List.perm_middle (a:=sM p)).symm
theorem pN{m:List (List UInt8×bK)}{l:List ar}{left:List (List UInt8×bK)}(h:gO m l left)(e:left= []):l.Perm (m.map sM):=by
 subst e;have:=h.2;simpa using this
theorem rm{m:List (List UInt8×bK)}{l:List ar}{left:List (List UInt8×bK)}(h:gO m l left):l.length≤m.length:=by
 have:=h.2.length_eq;simp at this;omega
theorem yz{α β:Type}{f:α→β}{l:List α}(h:(l.map f).Nodup){a b:α}(ha:a∈l)(hb:b∈l)(e:f a=f b):a=b:=by
 induction l with
 |nil=>cases ha
 |cons x l ih=>
  rw[List.map_cons,List.nodup_cons]at h;rcases List.mem_cons.1 ha with e1|ha'
  ·rcases List.mem_cons.1 hb with e2|hb'
   ·rw[e1,e2]
   ·exact absurd (List.mem_map.2 ⟨b,hb',by rw[←e,e1]⟩) h.1
  ·rcases List.mem_cons.1 hb with e2|hb'
   ·exact absurd (List.mem_map.2 ⟨a,ha',by rw[e,e2]⟩) h.1
   ·exact ih h.2 ha' hb'
open Go.Shelf Go.Lib Go.Sort
theorem lr(a b:ar):ltOf ch a b=decide (a.field<b.field):=by
 unfold ltOf ch;rw[Eh,decide_eq_decide];split
 ·simp[*]
 ·rename_i h;split<;>simp[h]
theorem iU{l:List ar}(h:(l.map (·.field)).Nodup):fP l ch:=by
 refine⟨⟨fun x=>?_,fun x y z h1 h2=>?_,fun x y z h1 h2=>?_⟩,fun x hx y hy h1 h2=>?_⟩
 ·rw[lr];simp[List.lt_irrefl]
 ·rw[lr,decide_eq_true_iff]at*;exact List.lt_trans h1 h2
 ·rw[lr,decide_eq_false_iff_not,List.not_lt]at*;exact List.le_trans h2 h1
 ·rw[lr,decide_eq_false_iff_not,List.not_lt]at h1 h2;exact yz h hx hy (List.le_antisymm h2 h1)
theorem m5{m:List (List UInt8×bK)}(h:cV m):fP (m.map sM) ch:=iU (by rw[List.map_map];exact h)
theorem AR{m:List (List UInt8×bK)}{l:List ar}{left:List (List UInt8×bK)}(h:gO m l left)(e:left= []):fP l ch:=(m5 h.1).perm (pN h e)
theorem sN{m:List (List UInt8×bK)}{l:List ar}{left:List (List UInt8×bK)}(h:gO m l left)(e:left= []):bk (fun(t t1:ar)=>ch t t1) l=bk (fun(t t1:ar)=>ch t t1) (m.map sM):=pD (m5 h.1) (pN h e)
def g9(s:dm):Nat→Int→(List (List UInt8×bK))→(List ar)⊕(Int×(List (List UInt8×bK)))
 |0,s18,s3=> .inr (s18,s3)
 |n1+1,s18,s3=>
  if s18<(s.puts.length:Int)then
   if(¬((bO s3 (ix s.puts s18).field).isSome=true))∨(pJ ((bO s3 (ix s.puts s18).field).getD u4.zero) (ix s.puts s18)<0)then
    g9 s n1 (s18+1) (cJ s3 (ix s.puts s18).field (ix s.puts s18))
   else
    g9 s n1 (s18+1) s3
  else
   .inr (s18,s3)
def kG(s:dm):List ar:=
 if fC s=0 then
  match g9 s (((s.puts.length:Int)- 0).toNat+1) 0 ([]:List (List UInt8×bK))with
  | .inl r=>r
  | .inr (s18,s3)=>
   bk (fun(t t1:ar)=>ch t t1) (List.map sM s3)
 else
  []
def T1:aW U:=⟨[.d (.st 12)],fun xs es K=> ∃(s:dm),xs= [(tq s)]∧es= []∧(s.puts.length≤1000000)∧(s.gone.length≤1000000)∧((fun(r0:List ar)=>r0.length≤1000000) (kG s)→K (.v (Cw (kG s))) [])⟩
theorem T2:Fk 52 T1:=by
 refine fo Tryz.f52 [.d (.sl (.st 6))] [] (aa Su (aa OB (aa PT (aa PX ah)))) fun xs es K=>?_;rintro⟨s,rfl,rfl,h1,h2,h⟩;refine⟨rfl,?_⟩;have hf0:=kG.eq_1 s;refine⟨_,rfl,rfl,(by omega),(by omega),?_⟩;refine fun _=>?_;refine vN hf0 iD (fun h1 hf0=>?_) (fun h1 hf0=>?_)
 ·rw[hf0]at h;exact h (show((fun(r0:List ar)=>r0.length≤1000000) []:Prop)from by simp)
 ·refine fun h2=>?_;have h2:(↑s.puts.length:Int)≤(9223372036854775807:Int):=h2.2;refine⟨Int×(List (List UInt8×bK)),2,fun(s18,s3)=> [(2,.v ⟨false,[(1,.nils)]⟩),(3,.v ⟨false,[(1,.mp 1)]⟩),(16,.v ⟨false,[(1,.d (.sl (.st 5)) s.puts)]⟩),(17,.v ⟨false,[(1,.d (.int .i64) (↑s.puts.length:Int))]⟩),(18,.v ⟨false,[(1,.d (.int .i64) s18)]⟩)],fun(s18,s3)=> [(1,.map u4 s3)],aN (fun(s18,s3)=>((↑s.puts.length:Int)- s18).toNat) (fun(s18,s3)=>((0:Int)≤s18)∧(s18≤(↑s.puts.length:Int))∧((s3.length:Int)≤s18)∧(cV s3)∧((s3.length:Int)≤s18)∧True) (fun n1 (s18,s3)=>g9 s n1 s18 s3) (g9 s (((↑s.puts.length:Int)-(0:Int)).toNat+1) (0:Int) ([]:List (List UInt8×bK))),fun(s18,s3)=>((↑s.puts.length:Int)- s18).toNat,⟨[],((0:Int),([]:List (List UInt8×bK))),aN.mk0 _ (Nat.lt_succ_self _) ⟨show(0:Int)≤(0:Int)from by omega,show(0:Int)≤(↑s.puts.length:Int)from by omega,show(↑[].length:Int)≤(0:Int)from by(simp only[List.length_append,List.length_cons,List.length_nil];omega),show cV []from List.nodup_nil,show(↑[].length:Int)≤(0:Int)from by(simp only[List.length_append,List.length_cons,List.length_nil];omega),trivial⟩ rfl,?_⟩,?_⟩
  ·repeat (first|exact trivial|refine And.intro rfl ?_)
  ·rintro⟨s18,s3⟩ ⟨n1,hc1,⟨hi1_0,hi1_1,hi1_2,hi1_3,hi1_4,-⟩,hf1⟩;have hf1:=hf1.trans (g9.eq_2 s s18 s3 n1);refine vI hf1 iD (fun _ hf1=>?_) (fun _ hf1=>?_)
   ·refine And.intro (show(0:Int)≤s18∧s18<(↑s.puts.length:Int)from by omega) ?_;refine⟨_,fun _=>⟨_,_,rfl,rfl,rfl,rfl⟩,rfl,?_⟩;refine vI hf1 (iO (iN iB) iD) (fun _ hf1=>?_) (fun _ hf1=>?_)
    ·refine .inl (And.intro (jc (p:=s18) (q:=(1:Int)) (r:=s18+(1:Int)) (by omega)) ?_);have hm1:((↑s.puts.length:Int)-(s18+(1:Int))).toNat<((↑s.puts.length:Int)- s18).toNat:=by omega
     refine⟨[],(s18+(1:Int),cJ s3 (ix s.puts s18).field (ix s.puts s18)),hm1,aN.next (s:=(s18,s3)) hc1 hm1 ⟨show(0:Int)≤s18+(1:Int)from by omega,show s18+(1:Int)≤(↑s.puts.length:Int)from by omega,show(↑(cJ s3 (ix s.puts s18).field (ix s.puts s18)).length:Int)≤s18+(1:Int)from by(have hm:=fF s3 (ix s.puts s18).field (ix s.puts s18);omega),show cV (cJ s3 (ix s.puts s18).field (ix s.puts s18))from oV (by assumption) _ _,show(↑(cJ s3 (ix s.puts s18).field (ix s.puts s18)).length:Int)≤s18+(1:Int)from by(have hm:=fF s3 (ix s.puts s18).field (ix s.puts s18);omega),trivial⟩ hf1,?_⟩;repeat (first|exact trivial|refine And.intro rfl ?_)
    ·refine .inl (And.intro (jc (p:=s18) (q:=(1:Int)) (r:=s18+(1:Int)) (by omega)) ?_);have hm1:((↑s.puts.length:Int)-(s18+(1:Int))).toNat<((↑s.puts.length:Int)- s18).toNat:=by omega
     refine⟨[],(s18+(1:Int),s3),hm1,aN.next (s:=(s18,s3)) hc1 hm1 ⟨show(0:Int)≤s18+(1:Int)from by omega,show s18+(1:Int)≤(↑s.puts.length:Int)from by omega,show(↑s3.length:Int)≤s18+(1:Int)from by omega,show cV s3 from by omega,show(↑s3.length:Int)≤s18+(1:Int)from by omega,trivial⟩ hf1,?_⟩;repeat (first|exact trivial|refine And.intro rfl ?_)
   ·rw[hf1]at hf0;refine fun b6=>?_;refine⟨(List (List UInt8×bK))×(List (List UInt8×bK))×Gh×(List ar),4,fun(e1l,e1c,e1g,s8)=> [(2,.v ⟨false,[(1,.nils)]⟩),(8,.v ⟨false,[(1,.own 3 0)]⟩),(43,.v ⟨false,[(1,.ptr 2 0)]⟩)],fun(e1l,e1c,e1g,s8)=> [(1,.mapr u4 s3 e1l e1c e1g),(2,.it 1 e1g),(3,.row 0 (.st 6) s8 144)],fun(e1l,e1c,e1g,s8)=>(gO s3 s8 e1l)∧True,fun(e1l,e1c,e1g,s8)=>e1l.length,⟨[],(s3,([]:List (List UInt8×bK)),b6,([]:List ar)),⟨show gO s3 [] s3 from ux (by assumption),trivial⟩,?_⟩,?_⟩
    ·repeat (first|exact trivial|refine And.intro rfl ?_)
    ·rintro⟨e1l,e1c,e1g,s8⟩ ⟨hi2_0,-⟩;refine And.intro (show e1g=e1g from by simp) ?_;refine And.intro (fun _=>?_) (fun(a8:List (List UInt8×bK)) (p9:List UInt8×bK) (b10:List (List UInt8×bK)) (h11:e1l=a8++p9::b10)=>?_)
     ·refine vF iB (by simp) ?_;refine⟨fun(t t':ar)=>ch t t',fun t0 t1=>⟨_,_,rfl,rfl,rfl,rfl⟩,?_⟩;refine⟨_,_,rfl,rfl,(AR (by assumption) (by assumption)),(show s8.length<(4611686018427387904:Nat)from by(have hl:=rm (show gO s3 s8 e1l from by assumption);omega)),?_⟩;have er0:(bk (fun(t t':ar)=>ch t t') s8:List ar)=bk (fun(t t1:ar)=>ch t t1) (List.map sM s3):=sN (by assumption) (by assumption);rw[hf0]at h;replace h:=h (show((fun(r0:List ar)=>r0.length≤1000000) (bk (fun(t t1:ar)=>ch t t1) (List.map sM s3)):Prop)from by(dsimp only;rw[dr,List.length_map];omega));dsimp only at h;rw[←er0]at h;exact h
     ·refine fun b12=>?_;refine vT iB rfl ?_;refine And.intro (show b12=b12 from by simp) ?_;refine And.intro (show(s8.length+ [ar.mk p9.fst p9.snd.val].length)*(24:Nat)≤(140737488355328:Nat)from by(have hl:=rm (show gO s3 s8 e1l from by assumption);simp only[List.length_append,List.length_cons,List.length_nil];omega)) ?_;have hm2:(a8++b10).length<e1l.length:=pM (by assumption);refine⟨[],(a8++b10,[p9],b12,s8++ [ar.mk p9.fst p9.snd.val]),hm2,⟨show gO s3 (s8++ [ar.mk p9.fst p9.snd.val]) (a8++b10)from v6 (by assumption) (by assumption),trivial⟩,?_⟩;repeat (first|exact trivial|refine And.intro rfl ?_)
theorem pO(s:cR):(bF s).length≤s.adds.length:=by
 have key: ∀(n:Nat) (i:Int) (t:List (List UInt8)),0≤i→(t.length:Int)≤i→i≤s.adds.length→ ∃j u,fU s n i t= .inr (j,u)∧u.length≤s.adds.length:=fun n=>by
  induction n with
  |zero=>intro i t h0 h1 h2;exact⟨i,t,rfl,by omega⟩
  |succ n ih=>
   intro i t h0 h1 h2;rw[fU];split
   ·exact ih _ _ (by omega) (by simp;omega) (by omega)
   ·exact⟨i,t,rfl,by omega⟩
 obtain⟨j,u,h,hu⟩:=key (((s.adds.length:Int)- 0).toNat+1) 0 [] (by omega) (by simp) (by omega);unfold bF;split
 ·rw[h];exact Nat.le_trans (I2 _) (by rw[hJ];exact hu)
 ·simp
def kH(s:eb):Nat→Int→(List ar)→aB⊕(Int×(List ar))
 |0,s30,e3=> .inr (s30,e3)
 |n1+1,s30,e3=>
  if s30<((bF s.set).length:Int)then
   kH s n1 (s30+1) (e3++ [ar.mk (ix (bF s.set) s30) 0])
  else
   .inr (s30,e3)
def sO(s:eb):aB:=
 if s.kind=1 then
  aB.mk s.kind s.reg.val []
 else
  if s.kind=2 then
   aB.mk s.kind (mW s.num) []
  else
   if s.kind=3 then
    match kH s ((((bF s.set).length:Int)- 0).toNat+1) 0 ([]:List ar)with
    | .inl r=>r
    | .inr (s30,e3)=>
     aB.mk s.kind 0 e3
   else
    if s.kind=4 then
     aB.mk s.kind 0 (kG s.map)
    else
     aB.mk 0 0 []
def T3:aW U:=⟨[.d (.st 15)],fun xs es K=> ∃(s:eb),xs= [(wn s)]∧es= []∧(s.set.adds.length≤900000)∧(s.set.gone.length≤900000)∧(s.map.puts.length≤900000)∧(s.map.gone.length≤900000)∧((fun(r0:aB)=>r0.items.length≤1000000) (sO s)→K (.v (KA (sO s))) [])⟩
theorem Gp:Fk 16 T3:=by
 refine fo Tryz.f16 [.d (.st 7)] [] (aa Tv (aa TO (aa T2 ah))) fun xs es K=>?_;rintro⟨s,rfl,rfl,h1,h2,h3,h4,h⟩;refine⟨rfl,?_⟩;have hf0:=sO.eq_1 s;refine vI hf0 iD (fun _ hf0=>?_) (fun _ hf0=>?_)
 ·rw[hf0]at h;exact h (show((fun(r0:aB)=>r0.items.length≤1000000) (aB.mk s.kind s.reg.val []):Prop)from by simp)
 ·refine vI hf0 iD (fun h1 hf0=>?_) (fun h1 hf0=>?_)
  ·refine⟨_,rfl,rfl,?_⟩;rw[hf0]at h;exact h (show((fun(r0:aB)=>r0.items.length≤1000000) (aB.mk s.kind (mW s.num) []):Prop)from by simp)
  ·refine vI hf0 iD (fun h2 hf0=>?_) (fun h2 hf0=>?_)
   ·refine⟨_,rfl,rfl,(by omega),(by omega),?_⟩;refine fun h3=>?_;have h3:(↑(bF s.set).length:Int)≤(9223372036854775807:Int):=h3.2;refine⟨Int×(List ar),4,fun(s30,e3)=> [(2,.v ⟨false,[(1,.ptr 1 0)]⟩),(3,.v ⟨false,[(1,.ptr 2 0)]⟩),(28,.v ⟨false,[(1,.d (.sl .str) (bF s.set))]⟩),(29,.v ⟨false,[(1,.d (.int .i64) (↑(bF s.set).length:Int))]⟩),(30,.v ⟨false,[(1,.d (.int .i64) s30)]⟩)],fun(s30,e3)=> [(1,.cells [(1,.d (.int .i64) (0:Int)),(1,.d (.int .i64) (0:Int)),(1,.nils)] 75),(2,.cells [(1,.d (.int .i64) s.kind),(1,.d (.int .i64) (0:Int)),(1,.own 3 0)] 75),(3,.row 0 (.st 6) e3 144)],aN (fun(s30,e3)=>((↑(bF s.set).length:Int)- s30).toNat) (fun(s30,e3)=>((0:Int)≤s30)∧(s30≤(↑(bF s.set).length:Int))∧((e3.length:Int)≤s30)∧True) (fun n1 (s30,e3)=>kH s n1 s30 e3) (kH s (((↑(bF s.set).length:Int)-(0:Int)).toNat+1) (0:Int) ([]:List ar)),fun(s30,e3)=>((↑(bF s.set).length:Int)- s30).toNat,⟨[],((0:Int),([]:List ar)),aN.mk0 _ (Nat.lt_succ_self _) ⟨show(0:Int)≤(0:Int)from by omega,show(0:Int)≤(↑(bF s.set).length:Int)from by omega,show(↑[].length:Int)≤(0:Int)from by(simp only[List.length_append,List.length_cons,List.length_nil];omega),trivial⟩ rfl,?_⟩,?_⟩
    ·repeat (first|exact trivial|refine And.intro rfl ?_)
    ·rintro⟨s30,e3⟩ ⟨n1,hc1,⟨hi1_0,hi1_1,hi1_2,-⟩,hf1⟩;have hf1:=hf1.trans (kH.eq_2 s s30 e3 n1);refine vI hf1 iD (fun h4 hf1=>?_) (fun h4 hf1=>?_)
     ·refine And.intro (show(0:Int)≤s30∧s30<(↑(bF s.set).length:Int)from by omega) ?_;refine And.intro (show(e3.length+ [ar.mk (ix (bF s.set) s30) (0:Int)].length)*(24:Nat)≤(140737488355328:Nat)from by(have hl:=pO s.set;simp only[List.length_append,List.length_cons,List.length_nil];omega)) ?_;refine .inl (And.intro (jc (p:=s30) (q:=(1:Int)) (r:=s30+(1:Int)) (by omega)) ?_);have hm1:((↑(bF s.set).length:Int)-(s30+(1:Int))).toNat<((↑(bF s.set).length:Int)- s30).toNat:=by omega
      refine⟨[],(s30+(1:Int),e3++ [ar.mk (ix (bF s.set) s30) (0:Int)]),hm1,aN.next (s:=(s30,e3)) hc1 hm1 ⟨show(0:Int)≤s30+(1:Int)from by omega,show s30+(1:Int)≤(↑(bF s.set).length:Int)from by omega,show(↑(e3++ [ar.mk (ix (bF s.set) s30) (0:Int)]).length:Int)≤s30+(1:Int)from by(simp only[List.length_append,List.length_cons,List.length_nil];omega),trivial⟩ hf1,?_⟩;repeat (first|exact trivial|refine And.intro rfl ?_)
     ·rw[hf1]at hf0;rw[hf0]at h;exact h (show((fun(r0:aB)=>r0.items.length≤1000000) (aB.mk s.kind (0:Int) e3):Prop)from by(have hl:=pO s.set;simp only[List.length_append,List.length_cons,List.length_nil];omega))
   ·refine vI hf0 iD (fun _ hf0=>?_) (fun _ hf0=>?_)
    ·refine⟨_,rfl,rfl,(by omega),(by omega),?_⟩;refine fun _=>?_;rw[hf0]at h;exact h (show((fun(r0:aB)=>r0.items.length≤1000000) (aB.mk s.kind (0:Int) (kG s.map)):Prop)from by omega)
    ·rw[hf0]at h;exact h (show((fun(r0:aB)=>r0.items.length≤1000000) (aB.mk (0:Int) (0:Int) []):Prop)from by simp)
end Go.Proofs.YtmpeiadlohbikaaGreatDoor.V
end

section
set_option linter.unusedVariables false
set_option linter.unusedSimpArgs false
set_option maxRecDepth 20000
set_option maxHeartbeats 4000000
namespace Go.Proofs.YtmpeiadlohbikaaGreatDoor.V
open Go.RowKit
def sP(b:ak)(a:ak):Bool:=
 if a.id=b.id then
  decide (a.n<b.n)
 else
  gN b.deps a.id
def T4:aW U:=⟨[.d (.st 3),.d (.st 3)],fun xs es K=> ∃(b:ak) (a:ak),xs= [(y9 b),(y9 a)]∧es= []∧K (.v (vb (sP b a))) []⟩
theorem P5:Fk 26 T4:=by
 refine fo Tryz.f26 [.d .bool] [] (aa Gn ah) fun xs es K=>?_;rintro⟨b,a,rfl,rfl,h⟩;refine⟨rfl,?_⟩;have hf0:=sP.eq_1 b a;refine wI hf0 (fun _ hf0=>e0) fun _ hf0=>?_;refine⟨_,_,rfl,rfl,?_⟩;exact e0
def lu(act:Int):Int:=
 if act=3 then
  4
 else
  if act=5 then
   6
  else
   0
def P6:aW U:=⟨[.d (.int .i64)],fun xs es K=> ∃(act:Int),xs= [(vi act)]∧es= []∧K (.v (vi (lu act))) []⟩
theorem P7:Fk 162 P6:=by
 refine fo Tryz.f162 [.d (.int .i64)] [] (ah) fun xs es K=>?_;rintro⟨act,rfl,rfl,h⟩;refine⟨rfl,?_⟩;have hf0:=lu.eq_1 act;exact wI hf0 (fun _ hf0=>e0) fun _ hf0=>wI hf0 (fun _ hf0=>e0) fun _ hf0=>e0
def nY(r:ak)(a:ak):Bool:=
 decide ¬lu a.op.act=0&&decide (r.op.act=lu a.op.act)&&decide (r.key=a.key)&&decide (r.op.name=a.op.name)&&sP r a
def P8:aW U:=⟨[.d (.st 3),.d (.st 3)],fun xs es K=> ∃(r:ak) (a:ak),xs= [(y9 r),(y9 a)]∧es= []∧K (.v (vb (nY r a))) []⟩
theorem P9:Fk 112 P8:=by
 refine fo Tryz.f112 [.d .bool] [] (aa P5 (aa P7 ah)) fun xs es K=>?_;rintro⟨r,a,rfl,rfl,h⟩;refine⟨rfl,?_⟩;have hf0:=nY.eq_1 r a;refine⟨_,rfl,rfl,?_⟩;refine⟨_,fun _=>⟨_,_,rfl,rfl,rfl,rfl⟩,rfl,?_⟩;exact e0
def lw(r:ak)(v:List (Int))(a:ak):Bool:=
 gN v r.id&&nY r a
def Qa:aW U:=⟨[.d (.st 3),.n,.n],fun xs es K=> ∃(r:ak) (v:List (Int)) (a:ak),xs= [(y9 r),⟨false,[(1,.pd (.arr 8 (.int .u32)) v)]⟩,⟨false,[(1,.pd (.st 3) a)]⟩]∧es= []∧K (.v (vb (lw r v a))) []⟩
theorem Qb:Fk 111 Qa:=by
 refine fo Tryz.f111 [.d .bool] [] (aa Gn (aa P9 ah)) fun xs es K=>?_;rintro⟨r,v,a,rfl,rfl,h⟩;refine⟨rfl,?_⟩;have hf0:=lw.eq_1 r v a;refine⟨_,_,rfl,rfl,?_⟩;refine⟨_,fun _=>⟨_,_,rfl,rfl,rfl,rfl⟩,rfl,?_⟩;exact e0
def eE(l:List ak)(f:ak→Bool):Bool:=
 decide (0≤cI l f)
def Qc:aW U:=⟨[.d (.sl (.st 3)),.f1 (.st 3)],fun xs es K=> ∃(l:List ak) (f:ak→Bool),xs= [(yX l),⟨false,[(1,.f1 (.st 3) f)]⟩]∧es= []∧K (.v (vb (eE l f))) []⟩
theorem OC:Fk 53 Qc:=by
 refine fo Tryz.f53 [.d .bool] [] (aa Qx ah) fun xs es K=>?_;rintro⟨l,f,rfl,rfl,h⟩;refine⟨rfl,?_⟩;have hf0:=eE.eq_1 l f;refine⟨_,_,rfl,rfl,?_⟩;exact e0
def kI(a:ak)(l:List ak)(v:List Int):Bool:=
 if gN v a.id=true then
  !eE l fun(t:ak)=>lw t v a
 else
  false
def T5:aW U:=⟨[.d (.st 3),.d (.sl (.st 3)),.d (.arr 8 (.int .u32))],fun xs es K=> ∃(a:ak) (l:List ak) (v:List Int),xs= [(y9 a),(yX l),(ja v)]∧es= []∧K (.v (vb (kI a l v))) []⟩
theorem T6:Fk 44 T5:=by
 refine fo Tryz.f44 [.d .bool] [] (aa OC (aa Gn (aa Qb ah))) fun xs es K=>?_;rintro⟨a,l,v,rfl,rfl,h⟩;refine⟨rfl,?_⟩;have hf0:=kI.eq_1 a l v;refine⟨_,_,rfl,rfl,?_⟩;refine wN hf0 (fun _ hf0=>e0) fun _ hf0=>?_;refine⟨fun(t:ak)=>lw t v a,fun t0=>⟨_,_,_,rfl,rfl,rfl,rfl⟩,?_⟩;refine⟨_,_,rfl,rfl,?_⟩;exact e0
def kJ(a:ak)(b:ak):Int:=
 if fQ a.at_ b.at_=0 then
  if a.op.act=1 then
   sJ a.op.val b.op.val
  else
   ap (az.mk a.id a.n) (az.mk b.id b.n)
 else
  fQ a.at_ b.at_
def T7:aW U:=⟨[.d (.st 3),.d (.st 3)],fun xs es K=> ∃(a:ak) (b:ak),xs= [(y9 a),(y9 b)]∧es= []∧K (.v (vi (kJ a b))) []⟩
theorem T8:Fk 45 T7:=by
 refine fo Tryz.f45 [.d (.int .i64)] [] (aa AQ (aa IU (aa Lw ah))) fun xs es K=>?_;rintro⟨a,b,rfl,rfl,h⟩;refine⟨rfl,?_⟩;have hf0:=kJ.eq_1 a b;refine⟨_,_,rfl,rfl,?_⟩;refine wN hf0 (fun _ hf0=>e0) fun _ hf0=>?_;refine wI hf0 (fun _ hf0=>?_) fun _ hf0=>?_
 ·refine⟨_,_,rfl,rfl,?_⟩;exact e0
 ·refine⟨_,_,rfl,rfl,?_⟩;exact e0
def mg(a:ak)(key:List UInt8)(v:List (Int))(kind:Int):Bool:=
 decide ¬a.key=key||!gN v a.id||decide ¬ct a.op=0||decide ¬eO a.op.act=kind
def Qd:aW U:=⟨[.d (.st 3),.n,.n,.n],fun xs es K=> ∃(a:ak) (key:List UInt8) (v:List (Int)) (kind:Int),xs= [(y9 a),⟨false,[(1,.pd .str key)]⟩,⟨false,[(1,.pd (.arr 8 (.int .u32)) v)]⟩,⟨false,[(1,.pd (.int .i64) kind)]⟩]∧es= []∧K (.v (vb (mg a key v kind))) []⟩
theorem Qe:Fk 110 Qd:=by
 refine fo Tryz.f110 [.d .bool] [] (aa Kx (aa IV (aa Gn ah))) fun xs es K=>?_;rintro⟨a,key,v,kind,rfl,rfl,h⟩;refine⟨rfl,?_⟩;have hf0:=mg.eq_1 a key v kind;refine dp [(true,0),(true,1),(true,2),(true,3),(true,4),(true,5),(true,6),(true,7),(false,8),(true,9),(true,10),(true,11),(true,12),(true,13),(false,14),(true,15),(true,16),(true,17),(true,18),(true,19),(true,20),(true,22),(false,21),(true,23),(true,24),(true,25)] none (nw 1) ?_;refine⟨_,fun _=>⟨_,_,rfl,rfl,rfl,rfl⟩,rfl,?_⟩;refine⟨_,fun _=>⟨_,rfl,rfl,rfl,rfl⟩,rfl,?_⟩;refine⟨_,fun _=>⟨_,rfl,rfl,rfl,rfl⟩,rfl,?_⟩;exact e0
def ay(key:List UInt8)(kind:Int)(l:List ak)(v:List Int):List ak:=
 List.filter (fun(x:ak)=>!mg x key v kind) l
def T9:aW U:=⟨[.d .str,.d (.int .i64),.d (.sl (.st 3)),.d (.arr 8 (.int .u32))],fun xs es K=> ∃(key:List UInt8) (kind:Int) (l:List ak) (v:List Int),xs= [(vt key),(vi kind),(yX l),(ja v)]∧es= []∧(l.length≤1000000)∧K (.v (yX (ay key kind l v))) []⟩
theorem Ua:Fk 43 T9:=by
 refine fo Tryz.f43 [.d (.sl (.st 3))] [] (aa QA (aa Qo (aa Qe ah))) fun xs es K=>?_;rintro⟨key,kind,l,v,rfl,rfl,hl,h⟩;refine⟨rfl,?_⟩;have hf0:=ay.eq_1 key kind l v;refine⟨_,rfl,rfl,(by assumption),?_⟩;refine⟨fun(t:ak)=>mg t key v kind,fun t0=>⟨_,_,_,_,rfl,rfl,rfl,rfl⟩,?_⟩;refine⟨_,_,rfl,rfl,?_⟩;exact e0
def eU(a:ar)(b:ar):Int:=
 nU a.field b.field
def Ub:aW U:=⟨[.d (.st 6),.d (.st 6)],fun xs es K=> ∃(a:ar) (b:ar),xs= [(OH a),(OH b)]∧es= []∧K (.v (vi (eU a b))) []⟩
theorem Uc:Fk 47 Ub:=by
 refine fo Tryz.f47 [.d (.int .i64)] [] (aa R8 ah) fun xs es K=>?_;rintro⟨a,b,rfl,rfl,h⟩;refine⟨rfl,?_⟩;have hf0:=eU.eq_1 a b;refine⟨_,_,rfl,rfl,?_⟩;exact e0
def jJ(a:ak)(v:List (Int)):Bool:=
 gN v a.id&&!jZ a.deps v
def Ud:aW U:=⟨[.d (.st 3),.n],fun xs es K=> ∃(a:ak) (v:List (Int)),xs= [(y9 a),⟨false,[(1,.pd (.arr 8 (.int .u32)) v)]⟩]∧es= []∧K (.v (vb (jJ a v))) []⟩
theorem Ue:Fk 54 Ud:=by
 refine fo Tryz.f54 [.d .bool] [] (aa Gn (aa Ox ah)) fun xs es K=>?_;rintro⟨a,v,rfl,rfl,h⟩;refine⟨rfl,?_⟩;have hf0:=jJ.eq_1 a v;refine⟨_,_,rfl,rfl,?_⟩;refine⟨_,fun _=>⟨_,_,rfl,rfl,rfl,rfl⟩,rfl,?_⟩;exact e0
def rq(l:List ak)(v:List Int):Bool:=
 !eE l fun(t:ak)=>jJ t v
def Uf:aW U:=⟨[.d (.sl (.st 3)),.d (.arr 8 (.int .u32))],fun xs es K=> ∃(l:List ak) (v:List Int),xs= [(yX l),(ja v)]∧es= []∧K (.v (vb (rq l v))) []⟩
theorem IX:Fk 17 Uf:=by
 refine fo Tryz.f17 [.d .bool] [] (aa OC (aa Ue ah)) fun xs es K=>?_;rintro⟨l,v,rfl,rfl,h⟩;refine⟨rfl,?_⟩;have hf0:=rq.eq_1 l v;refine⟨fun(t:ak)=>jJ t v,fun t0=>⟨_,_,rfl,rfl,rfl,rfl⟩,?_⟩;refine⟨_,_,rfl,rfl,?_⟩;exact e0
end Go.Proofs.YtmpeiadlohbikaaGreatDoor.V
end

section
set_option linter.unusedVariables false
set_option linter.unusedSimpArgs false
set_option maxRecDepth 20000
set_option maxHeartbeats 4000000
namespace Go.Proofs.YtmpeiadlohbikaaGreatDoor.V
open Go.RowKit
open Go.Shelf Go.Lib Go.Sort
theorem gI{α:Type} [Inhabited α](l:List α){j:Int}(h0:0≤j)(h1:j<l.length):ix l j∈l:=Ez l h0 h1
def yA(p:List UInt8×ak):ar:=ar.mk p.1 p.2.op.val
def Ei(kind val:Int)(m:List (List UInt8×ak)):aB:=if kind=1 then aB.mk kind (match m with| []=>val|p::_=>p.2.op.val) []else aB.mk kind val (bk (fun(t t1:ar)=>eU t t1) (m.map yA))
def m6(kind:Int)(m:List (List UInt8×ak))(v0 v1:Int)(l:List ar)(left:List (List UInt8×ak)):Prop:=
 cV m∧(kind=1→(∀p∈m,p.1= [])∧l= []∧((left=m∧v1=v0)∨(left= []∧ ∃p,m= [p]∧v1=p.2.op.val)))∧(¬kind=1→v1=v0∧(l++left.map yA).Perm (m.map yA))
theorem yB{kind:Int}{m:List (List UInt8×ak)}{v0:Int}(h:cV m)(h1:kind=1→ ∀p∈m,p.1= []):m6 kind m v0 v0 [] m:=⟨h,fun e=>⟨h1 e,rfl,.inl ⟨rfl,rfl⟩⟩,fun _=>⟨rfl,by simp⟩⟩
theorem Ej{kind:Int}{m:List (List UInt8×ak)}{v0 v1:Int}{l:List ar}{left a b:List (List UInt8×ak)}{p:List UInt8×ak}(h:m6 kind m v0 v1 l left)(e:left=a++p::b)(hk:kind=1):m6 kind m v0 p.2.op.val l (a++b):=by
 refine⟨h.1,fun _=>?_,fun q=>absurd hk q⟩;obtain⟨h1,h2,⟨rfl,h3⟩|⟨h3,_⟩⟩:=h.2.1 hk
 ·refine⟨h1,h2,.inr ?_⟩;have hn:=h.1;unfold cV at hn;subst e;have key: ∀(l:List (List UInt8×ak)),(∀p∈l,p.1= [])→(l.map (·.1)).Nodup→l.length≤1:=fun l hl hn=>by
   match l,hl,hn with
   | [],_,_=>simp
   | [x],_,_=>simp
   |x::y::r,hl,hn=>
    rw[List.map_cons,List.map_cons,List.nodup_cons]at hn;exact absurd (by rw[hl x (by simp),hl y (by simp)];simp) hn.1
  have:=key _ h1 hn;simp only[List.length_append,List.length_cons]at this;obtain rfl:a= []:=List.eq_nil_of_length_eq_zero (by omega);obtain rfl:b= []:=List.eq_nil_of_length_eq_zero (by omega);exact⟨rfl,p,rfl,rfl⟩
 ·subst h3;have:=congrArg List.length e;simp at this
theorem AS{kind:Int}{m:List (List UInt8×ak)}{v0 v1:Int}{l:List ar}{left a b:List (List UInt8×ak)}{p:List UInt8×ak}(h:m6 kind m v0 v1 l left)(e:left=a++p::b)(hk: ¬kind=1):m6 kind m v0 v1 (l++ [ar.mk p.1 p.2.op.val]) (a++b):=by
 refine⟨h.1,fun q=>absurd q hk,fun _=>⟨(h.2.2 hk).1,List.Perm.trans ?_ (h.2.2 hk).2⟩⟩;subst e;simp only[List.map_append,List.map_cons,List.append_assoc,List.singleton_append];exact List.Perm.append_left _ (List.perm_middle (a:=yA p)).symm
theorem xx{kind:Int}{m:List (List UInt8×ak)}{v0 v1:Int}{l:List ar}{left:List (List UInt8×ak)}(h:m6 kind m v0 v1 l left):l.length≤m.length:=by
 by_cases hk:kind=1
 ·rw[(h.2.1 hk).2.1];simp
 ·have:=(h.2.2 hk).2.length_eq;simp at this;omega
theorem uy:eU=ch:=rfl
theorem xy{m:List (List UInt8×ak)}(h:cV m):((m.map yA).map (·.field)).Nodup:=by rw[List.map_map];exact h
theorem IY{kind:Int}{m:List (List UInt8×ak)}{v0 v1:Int}{l:List ar}{left:List (List UInt8×ak)}(h:m6 kind m v0 v1 l left)(e:left= []):fP l (fun(t t1:ar)=>eU t t1):=by
 show fP l eU
 rw[uy];by_cases hk:kind=1
 ·rw[(h.2.1 hk).2.1];exact iU List.nodup_nil
 ·have hp:=(h.2.2 hk).2;rw[e,List.map_nil,List.append_nil]at hp;exact(iU (xy h.1)).perm hp
theorem Ek{kind:Int}{m:List (List UInt8×ak)}{v0 v1:Int}{l:List ar}{left:List (List UInt8×ak)}(h:m6 kind m v0 v1 l left)(e:left= []):aB.mk kind v1 (bk (fun(t t1:ar)=>eU t t1) l)=Ei kind v0 m:=by
 unfold Ei;by_cases hk:kind=1
 ·rw[if_pos hk];obtain⟨_,h2,h3⟩:=h.2.1 hk;rw[h2,show bk (fun(t t1:ar)=>eU t t1) ([]:List ar)= []from List.eq_nil_of_length_eq_zero (by rw[dr];rfl)];rcases h3 with⟨h3,h4⟩|⟨_,p,h3,h4⟩
  ·rw[←h3,e,h4]
  ·rw[h3,h4]
 ·rw[if_neg hk];have hp:=(h.2.2 hk).2;rw[e,List.map_nil,List.append_nil]at hp;have:fP (m.map yA) (fun(t t1:ar)=>eU t t1):=by show fP _ eU;rw[uy];exact iU (xy h.1)
  rw[(h.2.2 hk).1,pD this hp]
theorem El{key:List UInt8}{kind:Int}{l:List ak}{v:List Int}{x:ak}(h:x∈ay key kind l v):x∈l∧x.key=key∧gN v x.id=true∧ct x.op=0∧eO x.op.act=kind:=by
 unfold ay at h;obtain⟨h1,h2⟩:=List.mem_filter.1 h;unfold mg at h2;simp at h2;exact⟨h1,h2.1.1.1,h2.1.1.2,h2.1.2,h2.2⟩
theorem AU{o:lM}(h:ct o=0)(hk:eO o.act=1):o.name= []:=by
 unfold ct at h;have ha:o.act=1:=by
  unfold eO at hk
  repeat' split at hk
  all_goals first|assumption|(exfalso;omega)
 have hf:(ea o.act).name=false:=by rw[ha];rfl
 split at h
 ·cases h
 split at h
 ·cases h
 split at h
 ·cases h
 rename_i h3;exact Classical.byContradiction fun q=>h3 ⟨by rw[hf];simp,q⟩
theorem sQ{key:List UInt8}{kind:Int}{l:List ak}{v:List Int}{m:List (List UInt8×ak)}{x:ak}(h:kind=1→ ∀p∈m,p.1= [])(hx:x∈ay key kind l v):kind=1→ ∀p∈cJ m x.op.name x,p.1= []:=fun hk p hp=>by
 have hs:=El hx;have hn:=AU hs.2.2.2.1 (hs.2.2.2.2.trans hk);have hm:p.1∈(cJ m x.op.name x).map (·.1):=List.mem_map_of_mem hp;rw[nX]at hm;split at hm
 ·obtain⟨q,hq,e⟩:=List.mem_map.1 hm;rw[←e];exact h hk q hq
 ·rcases List.mem_append.1 hm with hm|hm
  ·obtain⟨q,hq,e⟩:=List.mem_map.1 hm;rw[←e];exact h hk q hq
  ·rw[List.mem_singleton.1 hm];exact hn
def eV(key:List UInt8)(l:List ak)(v:List Int):Nat→Int→Int→(List (List UInt8×ak))→(aB×Int)⊕(Int×Int×(List (List UInt8×ak)))
 |0,s40,s10_1,s11=> .inr (s40,s10_1,s11)
 |n1+1,s40,s10_1,s11=>
  if s40<((ay key (ae key).fst l v).length:Int)then
   if(ix (ay key (ae key).fst l v) s40).op.act=2 then
    eV key l v n1 (s40+1) (IntKind.i64.wrap (s10_1+(ix (ay key (ae key).fst l v) s40).op.val)) s11
   else
    if(ix (ay key (ae key).fst l v) s40).op.act=1 then
     if(kI (ix (ay key (ae key).fst l v) s40) l v=true)∧((¬((bO s11 (ix (ay key (ae key).fst l v) s40).op.name).isSome=true))∨(kJ ((bO s11 (ix (ay key (ae key).fst l v) s40).op.name).getD qt.zero) (ix (ay key (ae key).fst l v) s40)<0))then
      eV key l v n1 (s40+1) s10_1 (cJ s11 (ix (ay key (ae key).fst l v) s40).op.name (ix (ay key (ae key).fst l v) s40))
     else
      eV key l v n1 (s40+1) s10_1 s11
    else
     if(ix (ay key (ae key).fst l v) s40).op.act=3 then
      if(kI (ix (ay key (ae key).fst l v) s40) l v=true)∧((¬((bO s11 (ix (ay key (ae key).fst l v) s40).op.name).isSome=true))∨(kJ ((bO s11 (ix (ay key (ae key).fst l v) s40).op.name).getD qt.zero) (ix (ay key (ae key).fst l v) s40)<0))then
       eV key l v n1 (s40+1) s10_1 (cJ s11 (ix (ay key (ae key).fst l v) s40).op.name (ix (ay key (ae key).fst l v) s40))
      else
       eV key l v n1 (s40+1) s10_1 s11
     else
      if(ix (ay key (ae key).fst l v) s40).op.act=5 then
       if(kI (ix (ay key (ae key).fst l v) s40) l v=true)∧((¬((bO s11 (ix (ay key (ae key).fst l v) s40).op.name).isSome=true))∨(kJ ((bO s11 (ix (ay key (ae key).fst l v) s40).op.name).getD qt.zero) (ix (ay key (ae key).fst l v) s40)<0))then
        eV key l v n1 (s40+1) s10_1 (cJ s11 (ix (ay key (ae key).fst l v) s40).op.name (ix (ay key (ae key).fst l v) s40))
       else
        eV key l v n1 (s40+1) s10_1 s11
      else
       eV key l v n1 (s40+1) s10_1 s11
  else
   .inr (s40,s10_1,s11)
def mh(key:List UInt8)(l:List ak)(v:List Int):aB×Int:=
 if(ae key).snd=0 then
  if 4096<(l.length:Int)then
   (aB.mk 0 0 [],8)
  else
   match eV key l v ((((ay key (ae key).fst l v).length:Int)- 0).toNat+1) 0 0 ([]:List (List UInt8×ak))with
   | .inl r=>r
   | .inr (s40,s10_1,s11)=>
    (Ei (ae key).fst s10_1 s11,0)
 else
  (aB.mk 0 0 [],(ae key).snd)
def Sk:aW U:=⟨[.d .str,.d (.sl (.st 3)),.d (.arr 8 (.int .u32))],fun xs es K=> ∃(key:List UInt8) (l:List ak) (v:List Int),xs= [(vt key),(yX l),(ja v)]∧es= []∧(key.length≤1000000)∧K (.tup [(KA ((mh key l v).1)),(vi ((mh key l v).2))]) []⟩
theorem AW:Fk 13 Sk:=by
 refine fo Tryz.f13 [.d (.st 7),.d (.int .i64)] [] (aa Si (aa Ua (aa T6 (aa T8 (aa Su (aa Uc ah)))))) fun xs es K=>?_;rintro⟨key,l,v,rfl,rfl,hk,h⟩;refine⟨rfl,?_⟩;have hf0:=mh.eq_1 key l v;refine⟨_,rfl,rfl,(by omega),?_⟩;refine vN hf0 iD (fun _ hf0=>?_) (fun _ hf0=>?_)
 ·rw[hf0]at h;exact h
 ·refine fun h1=>?_;have h1:(↑l.length:Int)≤(9223372036854775807:Int):=h1.2;refine vI hf0 iD (fun _ hf0=>?_) (fun _ hf0=>?_)
  ·rw[hf0]at h;exact h
  ·refine⟨_,_,_,_,rfl,rfl,(by omega),?_⟩;refine fun h3=>?_;have h3:(↑(ay key (ae key).fst l v).length:Int)≤(9223372036854775807:Int):=h3.2;refine⟨Int×Int×(List (List UInt8×ak)),4,fun(s40,s10_1,s11)=> [(1,.v ⟨false,[(1,.d (.sl (.st 3)) l)]⟩),(5,.v ⟨false,[(1,.ptr 0 0)]⟩),(6,.v ⟨false,[(1,.ptr 1 0)]⟩),(7,.v ⟨false,[(1,.d (.int .i64) (0:Int))]⟩),(8,.v ⟨false,[(1,.d (.int .i64) ((ae key).fst))]⟩),(10,.v ⟨false,[(1,.ptr 2 0)]⟩),(11,.v ⟨false,[(1,.mp 3)]⟩),(38,.v ⟨false,[(1,.d (.sl (.st 3)) (ay key (ae key).fst l v))]⟩),(39,.v ⟨false,[(1,.d (.int .i64) (↑(ay key (ae key).fst l v).length:Int))]⟩),(40,.v ⟨false,[(1,.d (.int .i64) s40)]⟩)],fun(s40,s10_1,s11)=> [(0,.cells [(8,.d (.arr 8 (.int .u32)) v)] 45),(1,.cells [(1,.d (.int .i64) (0:Int)),(1,.d (.int .i64) (0:Int)),(1,.nils)] 75),(2,.cells [(1,.d (.int .i64) ((ae key).fst)),(1,.d (.int .i64) s10_1),(1,.nils)] 75),(3,.map qt s11)],aN (fun(s40,s10_1,s11)=>((↑(ay key (ae key).fst l v).length:Int)- s40).toNat) (fun(s40,s10_1,s11)=>((0:Int)≤s40)∧(s40≤(↑(ay key (ae key).fst l v).length:Int))∧((s11.length:Int)≤s40)∧(cV s11)∧((s11.length:Int)≤s40)∧(((ae key).fst=1→ ∀p∈s11,p.1= []))∧True) (fun n1 (s40,s10_1,s11)=>eV key l v n1 s40 s10_1 s11) (eV key l v (((↑(ay key (ae key).fst l v).length:Int)-(0:Int)).toNat+1) (0:Int) (0:Int) ([]:List (List UInt8×ak))),fun(s40,s10_1,s11)=>((↑(ay key (ae key).fst l v).length:Int)- s40).toNat,⟨[],((0:Int),(0:Int),([]:List (List UInt8×ak))),aN.mk0 _ (Nat.lt_succ_self _) ⟨show(0:Int)≤(0:Int)from by omega,show(0:Int)≤(↑(ay key (ae key).fst l v).length:Int)from by omega,show(↑[].length:Int)≤(0:Int)from by(simp only[List.length_append,List.length_cons,List.length_nil];omega),show cV []from List.nodup_nil,show(↑[].length:Int)≤(0:Int)from by(simp only[List.length_append,List.length_cons,List.length_nil];omega),show(ae key).fst=(1:Int)→ ∀(p:List UInt8×ak),p∈ []→p.fst= []from by simp,trivial⟩ rfl,?_⟩,?_⟩
   ·repeat (first|exact trivial|refine And.intro rfl ?_)
   ·rintro⟨s40,s10_1,s11⟩ ⟨n1,hc1,⟨hi1_0,hi1_1,hi1_2,hi1_3,hi1_4,hi1_5,-⟩,hf1⟩;have hf1:=hf1.trans (eV.eq_2 key l v s40 s10_1 s11 n1);refine vI hf1 iD (fun _ hf1=>?_) (fun _ hf1=>?_)
    ·refine And.intro (show(0:Int)≤s40∧s40<(↑(ay key (ae key).fst l v).length:Int)from by omega) ?_;refine vI hf1 iD (fun _ hf1=>?_) (fun _ hf1=>?_)
     ·refine .inr ?_;refine .inl (And.intro (jc (p:=s40) (q:=(1:Int)) (r:=s40+(1:Int)) (by omega)) ?_);have hm1:((↑(ay key (ae key).fst l v).length:Int)-(s40+(1:Int))).toNat<((↑(ay key (ae key).fst l v).length:Int)- s40).toNat:=by omega
      refine⟨[],(s40+(1:Int),IntKind.i64.wrap (s10_1+(ix (ay key (ae key).fst l v) s40).op.val),s11),hm1,aN.next (s:=(s40,s10_1,s11)) hc1 hm1 ⟨show(0:Int)≤s40+(1:Int)from by omega,show s40+(1:Int)≤(↑(ay key (ae key).fst l v).length:Int)from by omega,show(↑s11.length:Int)≤s40+(1:Int)from by omega,show cV s11 from by omega,show(↑s11.length:Int)≤s40+(1:Int)from by omega,show(ae key).fst=(1:Int)→ ∀(p:List UInt8×ak),p∈s11→p.fst= []from by omega,trivial⟩ hf1,?_⟩;repeat (first|exact trivial|refine And.intro rfl ?_)
     ·refine vI hf1 iD (fun _ hf1=>?_) (fun _ hf1=>?_)
      ·refine vT iD (show(ix (ay key (ae key).fst l v) s40).op.act=(1:Int)from by omega) ?_;refine⟨_,_,_,rfl,rfl,?_⟩;refine⟨_,fun _ h8=>⟨_,_,rfl,rfl,rfl,rfl⟩,rfl,?_⟩;refine vI hf1 (iA iB (iO (iN iB) iD)) (fun _ hf1=>?_) (fun _ hf1=>?_)
       ·refine .inl (And.intro (jc (p:=s40) (q:=(1:Int)) (r:=s40+(1:Int)) (by omega)) ?_);have hm1:((↑(ay key (ae key).fst l v).length:Int)-(s40+(1:Int))).toNat<((↑(ay key (ae key).fst l v).length:Int)- s40).toNat:=by omega
        refine⟨[],(s40+(1:Int),s10_1,cJ s11 (ix (ay key (ae key).fst l v) s40).op.name (ix (ay key (ae key).fst l v) s40)),hm1,aN.next (s:=(s40,s10_1,s11)) hc1 hm1 ⟨show(0:Int)≤s40+(1:Int)from by omega,show s40+(1:Int)≤(↑(ay key (ae key).fst l v).length:Int)from by omega,show(↑(cJ s11 (ix (ay key (ae key).fst l v) s40).op.name (ix (ay key (ae key).fst l v) s40)).length:Int)≤s40+(1:Int)from by(have hm:=fF s11 (ix (ay key (ae key).fst l v) s40).op.name (ix (ay key (ae key).fst l v) s40);omega),show cV (cJ s11 (ix (ay key (ae key).fst l v) s40).op.name (ix (ay key (ae key).fst l v) s40))from oV (by assumption) _ _,show(↑(cJ s11 (ix (ay key (ae key).fst l v) s40).op.name (ix (ay key (ae key).fst l v) s40)).length:Int)≤s40+(1:Int)from by(have hm:=fF s11 (ix (ay key (ae key).fst l v) s40).op.name (ix (ay key (ae key).fst l v) s40);omega),show(ae key).fst=(1:Int)→ ∀(p:List UInt8×ak),p∈cJ s11 (ix (ay key (ae key).fst l v) s40).op.name (ix (ay key (ae key).fst l v) s40)→p.fst= []from sQ (by assumption) (gI _ (by omega) (by omega)),trivial⟩ hf1,?_⟩;repeat (first|exact trivial|refine And.intro rfl ?_)
       ·refine .inl (And.intro (jc (p:=s40) (q:=(1:Int)) (r:=s40+(1:Int)) (by omega)) ?_);have hm1:((↑(ay key (ae key).fst l v).length:Int)-(s40+(1:Int))).toNat<((↑(ay key (ae key).fst l v).length:Int)- s40).toNat:=by omega
        refine⟨[],(s40+(1:Int),s10_1,s11),hm1,aN.next (s:=(s40,s10_1,s11)) hc1 hm1 ⟨show(0:Int)≤s40+(1:Int)from by omega,show s40+(1:Int)≤(↑(ay key (ae key).fst l v).length:Int)from by omega,show(↑s11.length:Int)≤s40+(1:Int)from by omega,show cV s11 from by omega,show(↑s11.length:Int)≤s40+(1:Int)from by omega,show(ae key).fst=(1:Int)→ ∀(p:List UInt8×ak),p∈s11→p.fst= []from by omega,trivial⟩ hf1,?_⟩;repeat (first|exact trivial|refine And.intro rfl ?_)
      ·refine vI hf1 iD (fun _ hf1=>?_) (fun _ hf1=>?_)
       ·refine vT iD (show(ix (ay key (ae key).fst l v) s40).op.act=(3:Int)from by omega) ?_;refine⟨_,_,_,rfl,rfl,?_⟩;refine⟨_,fun _ h12=>⟨_,_,rfl,rfl,rfl,rfl⟩,rfl,?_⟩;refine vI hf1 (iA iB (iO (iN iB) iD)) (fun _ hf1=>?_) (fun _ hf1=>?_)
        ·refine .inl (And.intro (jc (p:=s40) (q:=(1:Int)) (r:=s40+(1:Int)) (by omega)) ?_);have hm1:((↑(ay key (ae key).fst l v).length:Int)-(s40+(1:Int))).toNat<((↑(ay key (ae key).fst l v).length:Int)- s40).toNat:=by omega
         refine⟨[],(s40+(1:Int),s10_1,cJ s11 (ix (ay key (ae key).fst l v) s40).op.name (ix (ay key (ae key).fst l v) s40)),hm1,aN.next (s:=(s40,s10_1,s11)) hc1 hm1 ⟨show(0:Int)≤s40+(1:Int)from by omega,show s40+(1:Int)≤(↑(ay key (ae key).fst l v).length:Int)from by omega,show(↑(cJ s11 (ix (ay key (ae key).fst l v) s40).op.name (ix (ay key (ae key).fst l v) s40)).length:Int)≤s40+(1:Int)from by(have hm:=fF s11 (ix (ay key (ae key).fst l v) s40).op.name (ix (ay key (ae key).fst l v) s40);omega),show cV (cJ s11 (ix (ay key (ae key).fst l v) s40).op.name (ix (ay key (ae key).fst l v) s40))from oV (by assumption) _ _,show(↑(cJ s11 (ix (ay key (ae key).fst l v) s40).op.name (ix (ay key (ae key).fst l v) s40)).length:Int)≤s40+(1:Int)from by(have hm:=fF s11 (ix (ay key (ae key).fst l v) s40).op.name (ix (ay key (ae key).fst l v) s40);omega),show(ae key).fst=(1:Int)→ ∀(p:List UInt8×ak),p∈cJ s11 (ix (ay key (ae key).fst l v) s40).op.name (ix (ay key (ae key).fst l v) s40)→p.fst= []from sQ (by assumption) (gI _ (by omega) (by omega)),trivial⟩ hf1,?_⟩;repeat (first|exact trivial|refine And.intro rfl ?_)
        ·refine .inl (And.intro (jc (p:=s40) (q:=(1:Int)) (r:=s40+(1:Int)) (by omega)) ?_);have hm1:((↑(ay key (ae key).fst l v).length:Int)-(s40+(1:Int))).toNat<((↑(ay key (ae key).fst l v).length:Int)- s40).toNat:=by omega
         refine⟨[],(s40+(1:Int),s10_1,s11),hm1,aN.next (s:=(s40,s10_1,s11)) hc1 hm1 ⟨show(0:Int)≤s40+(1:Int)from by omega,show s40+(1:Int)≤(↑(ay key (ae key).fst l v).length:Int)from by omega,show(↑s11.length:Int)≤s40+(1:Int)from by omega,show cV s11 from by omega,show(↑s11.length:Int)≤s40+(1:Int)from by omega,show(ae key).fst=(1:Int)→ ∀(p:List UInt8×ak),p∈s11→p.fst= []from by omega,trivial⟩ hf1,?_⟩;repeat (first|exact trivial|refine And.intro rfl ?_)
       ·refine vI hf1 iD (fun _ hf1=>?_) (fun _ hf1=>?_)
        ·refine⟨_,_,_,rfl,rfl,?_⟩;refine⟨_,fun _ h16=>⟨_,_,rfl,rfl,rfl,rfl⟩,rfl,?_⟩;refine vI hf1 (iA iB (iO (iN iB) iD)) (fun _ hf1=>?_) (fun _ hf1=>?_)
         ·refine .inl (And.intro (jc (p:=s40) (q:=(1:Int)) (r:=s40+(1:Int)) (by omega)) ?_);have hm1:((↑(ay key (ae key).fst l v).length:Int)-(s40+(1:Int))).toNat<((↑(ay key (ae key).fst l v).length:Int)- s40).toNat:=by omega
          refine⟨[],(s40+(1:Int),s10_1,cJ s11 (ix (ay key (ae key).fst l v) s40).op.name (ix (ay key (ae key).fst l v) s40)),hm1,aN.next (s:=(s40,s10_1,s11)) hc1 hm1 ⟨show(0:Int)≤s40+(1:Int)from by omega,show s40+(1:Int)≤(↑(ay key (ae key).fst l v).length:Int)from by omega,show(↑(cJ s11 (ix (ay key (ae key).fst l v) s40).op.name (ix (ay key (ae key).fst l v) s40)).length:Int)≤s40+(1:Int)from by(have hm:=fF s11 (ix (ay key (ae key).fst l v) s40).op.name (ix (ay key (ae key).fst l v) s40);omega),show cV (cJ s11 (ix (ay key (ae key).fst l v) s40).op.name (ix (ay key (ae key).fst l v) s40))from oV (by assumption) _ _,show(↑(cJ s11 (ix (ay key (ae key).fst l v) s40).op.name (ix (ay key (ae key).fst l v) s40)).length:Int)≤s40+(1:Int)from by(have hm:=fF s11 (ix (ay key (ae key).fst l v) s40).op.name (ix (ay key (ae key).fst l v) s40);omega),show(ae key).fst=(1:Int)→ ∀(p:List UInt8×ak),p∈cJ s11 (ix (ay key (ae key).fst l v) s40).op.name (ix (ay key (ae key).fst l v) s40)→p.fst= []from sQ (by assumption) (gI _ (by omega) (by omega)),trivial⟩ hf1,?_⟩;repeat (first|exact trivial|refine And.intro rfl ?_)
         ·refine .inl (And.intro (jc (p:=s40) (q:=(1:Int)) (r:=s40+(1:Int)) (by omega)) ?_);have hm1:((↑(ay key (ae key).fst l v).length:Int)-(s40+(1:Int))).toNat<((↑(ay key (ae key).fst l v).length:Int)- s40).toNat:=by omega
          refine⟨[],(s40+(1:Int),s10_1,s11),hm1,aN.next (s:=(s40,s10_1,s11)) hc1 hm1 ⟨show(0:Int)≤s40+(1:Int)from by omega,show s40+(1:Int)≤(↑(ay key (ae key).fst l v).length:Int)from by omega,show(↑s11.length:Int)≤s40+(1:Int)from by omega,show cV s11 from by omega,show(↑s11.length:Int)≤s40+(1:Int)from by omega,show(ae key).fst=(1:Int)→ ∀(p:List UInt8×ak),p∈s11→p.fst= []from by omega,trivial⟩ hf1,?_⟩;repeat (first|exact trivial|refine And.intro rfl ?_)
        ·refine .inl (And.intro (jc (p:=s40) (q:=(1:Int)) (r:=s40+(1:Int)) (by omega)) ?_);have hm1:((↑(ay key (ae key).fst l v).length:Int)-(s40+(1:Int))).toNat<((↑(ay key (ae key).fst l v).length:Int)- s40).toNat:=by omega
         refine⟨[],(s40+(1:Int),s10_1,s11),hm1,aN.next (s:=(s40,s10_1,s11)) hc1 hm1 ⟨show(0:Int)≤s40+(1:Int)from by omega,show s40+(1:Int)≤(↑(ay key (ae key).fst l v).length:Int)from by omega,show(↑s11.length:Int)≤s40+(1:Int)from by omega,show cV s11 from by omega,show(↑s11.length:Int)≤s40+(1:Int)from by omega,show(ae key).fst=(1:Int)→ ∀(p:List UInt8×ak),p∈s11→p.fst= []from by omega,trivial⟩ hf1,?_⟩;repeat (first|exact trivial|refine And.intro rfl ?_)
    ·rw[hf1]at hf0;refine fun b18=>?_;refine⟨Int×(List (List UInt8×ak))×(List (List UInt8×ak))×Gh×(List ar),6,fun(s10_1',e3l,e3c,e3g,e5)=> [(6,.v ⟨false,[(1,.ptr 1 0)]⟩),(7,.v ⟨false,[(1,.d (.int .i64) (0:Int))]⟩),(8,.v ⟨false,[(1,.d (.int .i64) ((ae key).fst))]⟩),(10,.v ⟨false,[(1,.ptr 2 0)]⟩),(89,.v ⟨false,[(1,.ptr 4 0)]⟩)],fun(s10_1',e3l,e3c,e3g,e5)=> [(1,.cells [(1,.d (.int .i64) (0:Int)),(1,.d (.int .i64) (0:Int)),(1,.nils)] 75),(2,.cells [(1,.d (.int .i64) ((ae key).fst)),(1,.d (.int .i64) s10_1'),(1,.own 5 0)] 75),(3,.mapr qt s11 e3l e3c e3g),(4,.it 3 e3g),(5,.row 0 (.st 6) e5 144)],fun(s10_1',e3l,e3c,e3g,e5)=>(m6 (ae key).fst s11 s10_1 s10_1' e5 e3l)∧True,fun(s10_1',e3l,e3c,e3g,e5)=>e3l.length,⟨[],(s10_1,s11,([]:List (List UInt8×ak)),b18,([]:List ar)),⟨show m6 (ae key).fst s11 s10_1 s10_1 [] s11 from yB (by assumption) (by assumption),trivial⟩,?_⟩,?_⟩
     ·repeat (first|exact trivial|refine And.intro rfl ?_)
     ·rintro⟨s10_1',e3l,e3c,e3g,e5⟩ ⟨hi2_0,-⟩;refine And.intro (show e3g=e3g from by simp) ?_;refine And.intro (fun _=>?_) (fun(a20:List (List UInt8×ak)) (p21:List UInt8×ak) (b22:List (List UInt8×ak)) (h23:e3l=a20++p21::b22)=>?_)
      ·refine vF iB (by simp) ?_;refine⟨fun(t t':ar)=>eU t t',fun t0 t1=>⟨_,_,rfl,rfl,rfl,rfl⟩,?_⟩;refine⟨_,_,rfl,rfl,(IY (by assumption) (by assumption)),(show e5.length<(4611686018427387904:Nat)from by(have hl:=xx (show m6 (ae key).fst s11 s10_1 s10_1' e5 e3l from by assumption);have hz:=List.length_filter_le (fun(x:ak)=>!mg x key v (ae key).fst) l;have hy:(ay key (ae key).fst l v).length≤l.length:=hz;omega)),?_⟩;have er0:(aB.mk (ae key).fst s10_1' (bk (fun(t t':ar)=>eU t t') e5):aB)=Ei (ae key).fst s10_1 s11:=Ek (by assumption) (by assumption);rw[hf0]at h;replace h:=h;dsimp only at h;rw[←er0]at h;exact h
      ·refine fun b24=>?_;refine vT iB rfl ?_;refine And.intro (show b24=b24 from by simp) ?_;refine vR iD (fun _=>?_) (fun _=>?_)
       ·have hm2:(a20++b22).length<e3l.length:=pM (by assumption);refine⟨[],(p21.snd.op.val,a20++b22,[p21],b24,e5),hm2,⟨show m6 (ae key).fst s11 s10_1 p21.snd.op.val e5 (a20++b22)from Ej (by assumption) (by assumption) (by assumption),trivial⟩,?_⟩;repeat (first|exact trivial|refine And.intro rfl ?_)
       ·refine And.intro (show(e5.length+ [ar.mk p21.fst p21.snd.op.val].length)*(24:Nat)≤(140737488355328:Nat)from by(have hl:=xx (show m6 (ae key).fst s11 s10_1 s10_1' e5 e3l from by assumption);have hz:=List.length_filter_le (fun(x:ak)=>!mg x key v (ae key).fst) l;have hy:(ay key (ae key).fst l v).length≤l.length:=hz;simp only[List.length_append,List.length_cons,List.length_nil];omega)) ?_;have hm2:(a20++b22).length<e3l.length:=pM (by assumption);refine⟨[],(s10_1',a20++b22,[p21],b24,e5++ [ar.mk p21.fst p21.snd.op.val]),hm2,⟨show m6 (ae key).fst s11 s10_1 s10_1' (e5++ [ar.mk p21.fst p21.snd.op.val]) (a20++b22)from AS (by assumption) (by assumption) (by assumption),trivial⟩,?_⟩;repeat (first|exact trivial|refine And.intro rfl ?_)
end Go.Proofs.YtmpeiadlohbikaaGreatDoor.V
end

section
namespace Go.Proofs.YtmpeiadlohbikaaGreatDoor
open Go.RowKit Go.Lib
structure Lc where
 fn:FuncId
 tmps:Array Value
 ps:Array Tmp
 asg:Code
 body:Code
 D:Nat
abbrev Lr(c:Lc)(st:LoopState)(pe:Option Code):Obj:= .loop {state:=st,pending:=pe,fn:=c.fn,tmps:=c.tmps,params:=c.ps,assign:=c.asg,body:=c.body,defers:=c.D}
theorem Fr.putObj{w:World}{l:Nat}{o:Obj}:Fr [l] w (w.putObj l o):=⟨rfl,rfl,rfl,by simp,fun _ _ hk=>World.putObj_heap_other (fun e=>hk (by simp[e])),Nat.le_refl _⟩
theorem Hp.putObj{w:World}{H:bZ}{i l:Nat}{o:Obj}(o':Obj)(h:Hp w H)(hi:H[i]? =some (some l,o)):Hp (w.putObj l o') (H.set i (some l,o')):=
 h.setAt hi Fr.putObj (World.putObj_heap_same (cg (h.at hi)))
def ni(P:Program)(l:Nat)(xs:List Value)(w:World)(T F:World→Prop):Prop:=
 ∃fn tmps asg body,(Instr.yield l xs.toArray).run P w= .ok (.round l fn tmps asg body) w∧
  RoundIn Fence.wide 0 P l fn tmps asg body w (fun e w'=> ∃b,e= .returned (.bool b)∧(b=true→T w')∧(b=false→F w'))
section
variable [bB] {P:Program} {n:Nat} {Q:EQ} {env:aI} {w:World} {ops:Array Oper} {o:Oper} {rest:List Oper}
theorem Bl{x:Operand}{xs:List Operand}{vs:List Value}{ts:Array TypeId}{d l:Nat}{T F:World→Prop}(hw:lU n env ops o true)
  (ho:o.op= .call {callee:= .value x,args:=xs.toArray,argTypes:=ts}) (hf:env.ev x=some (.func (.yield l) #[] #[])) (hx:env.evs xs=some vs)
  (hd:o.dst=some d) (hn:Nat.blt d n=true) (hy:ni P l vs w T F)
  (h1: ∀w',T w'→Ls P n ops Q rest ((d,.bool true)::env) w') (h2: ∀w',F w'→Ls P n ops Q rest ((d,.bool false)::env) w'):Ls P n ops Q (o::rest) env w:=fun hnd a r=>
 wpListIn_step fun K hK=>by
  rw[if_pos (hw a r)];refine⟨fun _ _=>trivial,?_⟩;rw[Oper.semFw _ (uU hnd)];obtain⟨fn,tmps,asg,body,hrun,hR⟩:=hy;have e1:=r.evals hx;have e2:=r.eval hf;have hrun2:(execOp a.eval o).run P w= .ok (.round l fn tmps asg body) w:=by
   unfold execOp;simp only[ho,resolve,e2,Deferred.ofValue,Sem.run_bind,Sem.run_pure,Result.andThen_ok,invoke];simp[e1,hrun]
  rw[hrun2,Oper.uponIn_round];refine⟨fun h=>by simp[Fw,Fence.wide]at h,trivial,fun c cs _=>?_⟩;obtain⟨e,w',⟨b,he,ht,hf'⟩,hs⟩:=hR.2 c cs (room_wide _);subst he;refine⟨.returned (.bool b),w',?_,hs⟩;have r':=r.put hn (.bool b);rw[←hd]at r';cases b with
  |true=>exact hK _ _ (h1 w' (ht rfl) (qg hnd) _ r')
  |false=>exact hK _ _ (h2 w' (hf' rfl) (qg hnd) _ r')
end
section
variable [bB] {P:Program} {n:Nat} {env:aI} {S:World→Prop} {o:Oper}
theorem Gg{x y:Operand}{t u:Nat}{k:IntKind}{p q:Int}(ho:o.op= .call {callee:= .builtin .min,args:= #[x,y],argTypes:= #[t,u]})(hx:env.ev x=some (.int k p))(hy:env.ev y=some (.int k q)):ci P n env S o (.int k (min p q)):=fun a r w _=>by
 refine dN ho (r.eval hx) (r.eval hy) fun c=>?_;have e:(if q<p then q else p)=min p q:=by simp only[Int.min_def];split<;>split<;>omega
 simp[builtin,Builtin.min_,Builtin.min2,←e]
end
def Rd(c:Lc)(l:Nat)(T F:World→Prop):EQ:=fun e _ w=>match e with
 | .normal=>w.heap[l]? =some (Lr c .busy none)∧T (w.putObj l (Lr c .ready none))
 | .ret=>w.heap[l]? =some (Lr c .busy none)∧F (w.putObj l (Lr c .done (some .ret)))
 | .exit id=>w.heap[l]? =some (Lr c .busy none)∧F (w.putObj l (Lr c .done (some (.exit id))))
 |_=>False
section
variable {c:Lc} {l i:Nat} {T F:World→Prop} {env:aI} {w:World} {H:bZ}
theorem Q2(hp:Hp w H)(hi:H[i]? =some (some l,Lr c .busy none))(h: ∀W,Hp W (H.set i (some l,Lr c .ready none))→Fr [l] w W→T W):Rd c l T F .normal env w:=⟨hp.at hi,h _ (hp.putObj _ hi) Fr.putObj⟩
end
def td:List Tmp→List Value→aI→aI
 |t::ts,v::vs,e=>td ts vs ((t,v)::e)
 |_,_,e=>e
structure wh(n:Nat)(env:aI)(t:Array Value):Prop where
 size:t.size=n
 get: ∀k v,env.get k=some v→t[k]? =some v
theorem wh.par{n:Nat}: ∀(ts:List Tmp) (vs:List Value) (env:aI) (t:Array Value),wh n env t→(ts.all (Nat.blt · n))=true→wh n (td ts vs env) ((ts.zip vs).foldl (fun tmps (t,a)=>tmps.setIfInBounds t a) t)
 | [],_,_,_,h,_=>h
 |_::_,[],_,_,h,_=>h
 |d::ts,v::vs,env,t,h,hb=>by
  simp only[List.all_cons,Bool.and_eq_true]at hb;have hd:d<n:=by simpa[Nat.blt_eq]using hb.1
  refine wh.par ts vs ((d,v)::env) _ ⟨by simp[h.size],fun k u hk=>?_⟩ hb.2;unfold aI.get at hk;by_cases e:d=k
  ·subst e;simp at hk;subst hk;simp[h.size,hd]
  ·rw[cu e]at hk;simp only[cond_false]at hk;rw[Array.getElem?_setIfInBounds_ne e];exact h.get k u hk
theorem Bm{P:Program}{n l:Nat}{c:Lc}{xs:List Value}{env:aI}{w:World}{T F:World→Prop}(ps:List Tmp)(hps:c.ps=ps.toArray)(hl:xs.length=ps.length)(hb:(ps.all (Nat.blt · n))=true)
  (hw:w.heap[l]? =some (Lr c .ready none)) (ht:wh n env c.tmps)
  (h: ∀ [bB],Wp P n c.asg (Th (fun e w1=> ∃H i,Hp w1 H∧H[i]? =some (some l,Lr c .ready none)∧ ∀W2,Hp W2 (H.set i (some l,Lr c .busy none))→Fr [l] w1 W2→Wp P n c.body (Rd c l T F) e W2) (fun _ _ _=>False)) (td ps xs env) w):
  ni P l xs w T F:=by
 have h1:=run_yield (P:=P) (args:=xs.toArray) hw (by simp[hps,hl]);refine⟨_,_,_,_,h1,?_⟩;refine roundIn_of_wpIn trivial ?_;have hr:=wh.par ps xs env c.tmps ht hb;have h2:= @h ⟨[],some l⟩;have e1:(Array.foldl (fun tmps x=>tmps.setIfInBounds x.fst x.snd) c.tmps (c.ps.zip xs.toArray))=((ps.zip xs).foldl (fun tmps (t,a)=>tmps.setIfInBounds t a) c.tmps):=by
  rw[hps];simp
 have h3:=h2 {tmps:=(ps.zip xs).foldl (fun tmps (t,a)=>tmps.setIfInBounds t a) c.tmps,defers:= []} (@g7.mk ⟨[],some l⟩ _ _ _ hr.size rfl hr.get);simp only[e1];refine Code.wpIn_mono (fun e a' w' hq=>?_) h3;obtain⟨env',r',q⟩:=hq;cases e with
 |normal=>
  obtain⟨H,i,hp,hi,q2⟩:=q;refine⟨_,run_beginRound (hp.at hi) rfl,?_⟩;refine Code.wpIn_mono (fun e2 a2 w2 hq2=>?_) (q2 _ (hp.putObj _ hi) Fr.putObj a' r');obtain⟨env2,r2,q3⟩:=hq2;cases e2 with
  |normal=>exact⟨_,_,run_endRound none q3.1,true,rfl,fun _=>q3.2,fun hf=>by cases hf⟩
  |ret=>exact⟨_,_,run_endRound (some .ret) q3.1,false,rfl,(fun hf=>by cases hf),fun _=>q3.2⟩
  |exit id=>exact⟨_,_,run_endRound (some (.exit id)) q3.1,false,rfl,(fun hf=>by cases hf),fun _=>q3.2⟩
  |_=>exact q3.elim
 |_=>exact q.elim
abbrev CM(D:Nat):bB:=⟨[{target:= .collected D,args:= #[]}],none⟩
def LZ [bB](P:Program)(n:Nat)(fn:Func)(D:Nat)(Post:Value→World→Prop):EQ:=fun e env w=>match e with
 | .normal| .ret=>w.heap[D]? =some (.deferred (some []))∧ ∃v,wk P n fn env (w.putObj D (.deferred none)) v∧Post v (w.putObj D (.deferred none))
 |_=>False
theorem ET [bB]{P:Program}{n i D:Nat}{fn:Func}{env:aI}{w:World}{H:bZ}{Post:Value→World→Prop}(hp:Hp w H)(hi:H[i]? =some (some D,.deferred (some [])))
  (h: ∀W,Hp W (H.set i (some D,.deferred none))→Fr [D] w W→ ∃v,wk P n fn env W v∧Post v W):LZ P n fn D Post .ret env w:=⟨hp.at hi,h _ (hp.putObj _ hi) Fr.putObj⟩
abbrev n9(Post:Value→World→Prop):Ending→World→Prop:=fun e w'=> ∃v,e= .returned v∧Post v w'
def Q3(P:Program)(fn:Func)(Post:Value→World→Prop):List Code→Act→World→Prop
 | []=>bodyPostM Fence.wide 0 P fn (n9 Post) .normal
 |c::cs=>c.wpIn Fence.wide 0 P (Exit.then (Q3 P fn Post cs) (bodyPostM Fence.wide 0 P fn (n9 Post)))
def Wf(P:Program)(n:Nat)(fn:Func)(Post:Value→World→Prop)(cs:List Code)(env:aI)(w:World):Prop:= ∀a, @g7 dfs0 n env a→Q3 P fn Post cs a w
def Wd [bB](P:Program)(n:Nat)(fn:Func)(D:Nat)(Post:Value→World→Prop):List Code→aI→World→Prop
 | []=>LZ P n fn D Post .normal
 |c::cs=>Wp P n c (Th (Wd P n fn D Post cs) (LZ P n fn D Post))
section
variable {P:Program} {n:Nat} {fn:Func} {Post:Value→World→Prop} {env:aI} {w:World} {x y z:Code} {cs:List Code}
theorem wi(h:Wf P n fn Post (x::y::cs) env w):Wf P n fn Post (.seq x y::cs) env w:=fun a r=>
 wpIn_seq (Code.wpIn_mono (fun e a' w' hq=>by cases e<;>exact hq) (h a r))
theorem EU{a:Act}{e:Exit}(he:e= .normal∨e= .ret)(r: @g7 dfs0 n env a)(h: @Fq dfs0 P n fn (n9 Post) e env w):bodyPostM Fence.wide 0 P fn (n9 Post) e a w:=by
 have hd:a.defers= []:=r.defers;rcases he with rfl|rfl<;>
 ·obtain⟨v,hv,hP⟩:=h;simp only[bodyPostM,hd];exact⟨v,hv a r,hP⟩
theorem L0(h: ∀K:aI→World→Prop,(∀e v,Wf P n fn Post cs e v→K e v)→ @Wp dfs0 P n x (Th K (@Fq dfs0 P n fn (n9 Post))) env w):Wf P n fn Post (x::cs) env w:=fun a r=>
 Code.wpIn_mono (fun e a' w' hq=>by
  obtain⟨env',r',q⟩:=hq;cases e with
  |normal=>exact q a' r'
  |ret=>exact EU (.inr rfl) r' q
  |_=>exact q.elim) (h (Wf P n fn Post cs) (fun _ _ h=>h) a r)
theorem qd{a:Act}{e:Exit}{D:Nat}(he:e= .normal∨e= .ret)(r: @g7 (CM D) n env a)(h: @LZ (CM D) P n fn D Post e env w):bodyPostM Fence.wide 0 P fn (n9 Post) e a w:=by
 have hd:a.defers= [{target:= .collected D,args:= #[]}]:= @g7.defers (CM D) _ _ _ r;rcases he with rfl|rfl<;>
 ·obtain⟨h1,v,hv,hP⟩:=h;simp only[bodyPostM,hd];refine⟨by simp,.inl ⟨D,_,rfl,run_takeDeferred h1,v,hv a r,v,rfl,hP⟩⟩
theorem wj{D:Nat}: ∀(cs:List Code) (env:aI) (w:World) (a:Act), @Wd (CM D) P n fn D Post cs env w→ @g7 (CM D) n env a→Q3 P fn Post cs a w
 | [],_,_,_,h,r=>qd (.inl rfl) r h
 |c::cs,env,w,a,h,r=>Code.wpIn_mono (fun e a' w' hq=>by
   obtain⟨env',r',q⟩:=hq;cases e with
   |normal=>exact wj cs env' w' a' q r'
   |ret=>exact qd (.inr rfl) r' q
   |_=>exact q.elim) (h a r)
theorem L3{id gf:Nat}{g:Operand}{ps:Array Tmp}{asg body:Code}{lb:List Value}(hg:env.ev g=some (.func (.func gf) #[] lb.toArray))(hent:aF P gf=true)
  (h: ∀(c:Lc) (D l:Nat) (W:World),c.ps=ps→c.asg=asg→c.body=body→wh n env c.tmps→Fr [] w W→w.heap.size≤D→w.heap.size≤l→(∀H,Hp w H→Hp W (H++ [(some D,.deferred (some [])),(some l,Lr c .ready none)]))→
   Fn P gf (.func (.yield l) #[] #[]::lb) W fun _ W'=>
    (∃H i,Hp W' H∧H[i]? =some (some l,Lr c .ready none)∧ ∀W2,Hp W2 (H.set i (some l,Lr c .exhausted none))→Fr [l] W' W2→ ∀ [bB],Wd P n fn D Post cs env W2)∨
    (∃H i,Hp W' H∧H[i]? =some (some l,Lr c .done (some (.exit id)))∧ ∀W2,Hp W2 (H.set i (some l,Lr c .exhausted (some (.exit id))))→Fr [l] W' W2→ ∀ [bB],Wd P n fn D Post cs env W2)∨
    (∃H i,Hp W' H∧H[i]? =some (some l,Lr c .done (some .ret))∧ ∀W2,Hp W2 (H.set i (some l,Lr c .exhausted (some .ret)))→Fr [l] W' W2→ ∀ [bB],LZ P n fn D Post .ret env W2)):
  Wf P n fn Post (.block id (.rangeFunc g ps asg body)::cs) env w:=fun a r=>by
 refine wpIn_block (wpIn_rangeFunc fun f _=>?_);have e2:=r.eval hg;obtain⟨c,hc⟩: ∃c:Lc,c=⟨f,a.tmps,ps,asg,body,w.heap.size⟩:=⟨_,rfl⟩;obtain⟨W1,hW1⟩: ∃W1,(w.alloc (.deferred (some []))).alloc (Lr c .ready none)=W1:=⟨_,rfl⟩;have hsz:(w.alloc (.deferred (some []))).heap.size=w.heap.size+1:=World.size_alloc ..;have hF:Fr [] w W1:=by rw[←hW1];exact(Fr.alloc w _).step0 (Fr.alloc _ _)
 have hmain:=h c w.heap.size (w.heap.size+1) W1 (by rw[hc]) (by rw[hc]) (by rw[hc]) (by rw[hc];exact⟨r.size,r.get⟩) hF (Nat.le_refl _) (by omega) (fun H hp=>by
  have h1:=(hp.alloc (.deferred (some []))).alloc (Lr c .ready none);rw[hW1,hsz,List.append_assoc]at h1;exact h1)
 refine⟨w.heap.size+1,[{target:= .collected w.heap.size,args:= #[]}],W1,{target:= .fn (.func gf) lb.toArray,args:= #[.func (.yield (w.heap.size+1)) #[] #[]]},W1,gf,
  (.func (.yield (w.heap.size+1)) #[] #[]::lb).toArray,W1,?_,?_,fun _ _=>trivial,?_,fun h=>by simp[Fence.wide]at h,?_⟩
 ·rw[←hW1,hc];exact run_enterLoop_outer _ _ _ _ _
 ·simp only[resolve,e2];simp[go_sem]
 ·have eg:=hent;unfold aF at eg;cases hq:P.funcs[gf]? with
  |none=>simp[hq]at eg
  |some fn'=>
   simp only[hq,Bool.and_eq_true,Bool.not_eq_true',beq_eq_false_iff_ne]at eg;obtain⟨h2,h3⟩:=eg;have h4: ¬fn'.body=none:=by intro hbb;simp[hbb]at h3
   simp only[invoke];simp[callFunc,hq,h2,h4]
 ·have hcalls:=(callsIn_wide (n:=0 - 1)).2 hmain.2;refine hcalls.mono fun e W' ⟨v,he,hv⟩=>?_;subst he;have hd0:a.defers= []:=r.defers;have ra: @g7 (CM w.heap.size) n env {a with defers:= [{target:= .collected w.heap.size,args:= #[]}]++a.defers}:= @g7.mk (CM _) _ _ _ r.size (by rw[hd0];rfl) r.get;rcases hv with⟨H,i,hp,hi,h2⟩|⟨H,i,hp,hi,h2⟩|⟨H,i,hp,hi,h2⟩
  ·exact⟨none,_,run_endLoop (hp.at hi) (by simp),wj cs env _ _ (@h2 _ (hp.putObj _ hi) Fr.putObj (CM _)) ra⟩
  ·refine⟨some (.exit id),_,run_endLoop (hp.at hi) (by simp),?_⟩;refine wpIn_exit ?_;simp only[Exit.inBlock,if_true];exact wj cs env _ _ (@h2 _ (hp.putObj _ hi) Fr.putObj (CM _)) ra
  ·refine⟨some .ret,_,run_endLoop (hp.at hi) (by simp),?_⟩;exact wpIn_ret (qd (.inr rfl) ra (@h2 _ (hp.putObj _ hi) Fr.putObj (CM _)))
theorem Jp{f:FuncId}{c:Code}{args:List Value}(n:Nat)(he:aF P f=true)(hf:P.funcs[f]? =some fn)(hb:fn.body=some c)(hn:fn.ntmps=n)(hle:Nat.ble args.length n=true)
  (h:Wf P n fn Post [c] (bS 0 args) w):Fn P f args w Post:=by
 refine⟨he,callsIn_wide (n:=0)|>.1 (callsIn_of_wp_marks hf hb trivial (Code.wpIn_mono (fun e a' w' hq=>by cases e<;>exact hq) (h _ ⟨?_,rfl,fun k v hk=>?_⟩)))⟩
 ·have:args.length≤n:=by simpa[Nat.ble_eq]using hle
  simp[hn];omega
 ·obtain⟨_,h2⟩:=iz args 0 k v hk;simp only[Nat.sub_zero]at h2;have hlt:k<args.length:=(List.getElem?_eq_some_iff.1 h2).1;have h3:args[k]=v:=(List.getElem?_eq_some_iff.1 h2).2;simp[Array.getElem?_append,hlt,h3]
end
section
variable [bB] {P:Program} {n:Nat} {env:aI} {w:World} {o:Oper} {K:aI→World→Prop} {H:bZ}
end
section
variable [bB] {P:Program} {n:Nat} {env:aI} {w:World} {o:Oper} {K:aI→World→Prop} {H:bZ}
end
end Go.Proofs.YtmpeiadlohbikaaGreatDoor
end

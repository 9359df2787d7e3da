/- Ranges over functions: a call of yield, a round's body, the statement, and the functions that hold it. -/
import Derived.Test.YtmpeiadlohbikaaGreatDoorAx20
import Derived.Test.YtmpeiadlohbikaaGreatDoorAx18
import Derived.Test.YtmpeiadlohbikaaGreatDoorAx16
import Derived.Test.YtmpeiadlohbikaaGreatDoorAx1
import Derived.RangeFuncKeeps
import Derived.Lib.AppendStr
import Derived.Lib.ConvBytes
section
set_option linter.unusedVariables false
set_option linter.unusedSimpArgs false
set_option maxRecDepth 20000
set_option maxHeartbeats 4000000
namespace Go.Proofs.YtmpeiadlohbikaaGreatDoor.V
open Go.RowKit
theorem eP{α β:Type} [DecidableEq α]: ∀(m:List (α×β)) (x:α) (v:β),(bL m x v).length≤m.length+1
 | [],x,v=>by simp[bL]
 |(k,y)::m,x,v=>by
  unfold bL;split
  ·simp
  ·have:=eP m x v;simp;omega
def cx{α β:Type}(m:List (α×β)):Prop:=(m.map (·.1)).Nodup
theorem nm{α β:Type} [DecidableEq α]: ∀(m:List (α×β)) (k:α) (v:β),(bL m k v).map (·.1)=if k∈m.map (·.1)then m.map (·.1)else m.map (·.1)++ [k]
 | [],k,v=>by simp[bL]
 |e::r,k,v=>by
  unfold bL;split
  ·rename_i h;rw[if_pos (by simp[h])];simp[h]
  ·rename_i h;rw[List.map_cons,nm r k v,List.map_cons];by_cases q:k∈r.map (·.1)
   ·rw[if_pos q,if_pos (by simp[q])]
   ·rw[if_neg q,if_neg (by rw[List.mem_cons];rintro(g|g);exact h g.symm;exact q g)];rfl
theorem ol{α β:Type} [DecidableEq α]{m:List (α×β)}(h:cx m)(k:α)(v:β):cx (bL m k v):=by
 unfold cx at*;rw[nm];split
 ·exact h
 ·rename_i q;rw[List.nodup_append];refine⟨h,by simp,fun a ha b hb e=>?_⟩;simp at hb;subst hb;subst e;exact q ha
theorem o7{α:Type}{left a b:List α}{p:α}(h:left=a++p::b):(a++b).length<left.length:=by subst h;simp
theorem C8(x y:List UInt8):nj x y=if x<y then -1 else if y<x then 1 else 0:=by unfold nj nh;simp
def rH(p:List UInt8×bF):au:=au.mk p.1 p.2.val
def fU(m:List (List UInt8×bF))(l:List au)(left:List (List UInt8×bF)):Prop:=cx m∧(l++left.map rH).Perm (m.map rH)
theorem tw{m:List (List UInt8×bF)}(h:cx m):fU m [] m:=⟨h,by simp⟩
theorem uQ{m:List (List UInt8×bF)}{l:List au}{left a b:List (List UInt8×bF)}{p:List UInt8×bF}(h:fU m l left)(e:left=a++p::b):fU m (l++ [au.mk p.1 p.2.val]) (a++b):=by
 refine⟨h.1,List.Perm.trans ?_ h.2⟩;subst e;simp only[List.map_append,List.map_cons,List.append_assoc,List.singleton_append];exact List.Perm.append_left _ (List.perm_middle (a:=rH p)).symm
theorem o8{m:List (List UInt8×bF)}{l:List au}{left:List (List UInt8×bF)}(h:fU m l left)(e:left= []):l.Perm (m.map rH):=by
 subst e;have:=h.2;simpa using this
theorem qv{m:List (List UInt8×bF)}{l:List au}{left:List (List UInt8×bF)}(h:fU m l left):l.length≤m.length:=by
 have:=h.2.length_eq;simp at this;omega
theorem xy{α β:Type}{f:α→β}{l:List α}(h:(l.map f).Nodup){a b:α}(ha:a∈l)(hb:b∈l)(e:f a=f b):a=b:=by
 induction l with
 |nil=>cases ha
 |cons x l ih=>
  rw[List.map_cons,List.nodup_cons]at h;rcases List.mem_cons.1 ha with e1|ha'
  ·rcases List.mem_cons.1 hb with e2|hb'
   ·rw[e1,e2]
   ·exact absurd (List.mem_map.2 ⟨b,hb',by rw[←e,e1]⟩) h.1
  ·rcases List.mem_cons.1 hb with e2|hb'
   ·exact absurd (List.mem_map.2 ⟨a,ha',by rw[e,e2]⟩) h.1
   ·exact ih h.2 ha' hb'
open Go.Shelf Go.Lib Go.Sort
theorem kH(a b:au):ltOf bX a b=decide (a.field<b.field):=by
 unfold ltOf bX;rw[C8,decide_eq_decide];split
 ·simp[*]
 ·rename_i h;split<;>simp[h]
theorem ii{l:List au}(h:(l.map (·.field)).Nodup):eY l bX:=by
 refine⟨⟨fun x=>?_,fun x y z h1 h2=>?_,fun x y z h1 h2=>?_⟩,fun x hx y hy h1 h2=>?_⟩
 ·rw[kH];simp[List.lt_irrefl]
 ·rw[kH,decide_eq_true_iff]at*;exact List.lt_trans h1 h2
 ·rw[kH,decide_eq_false_iff_not,List.not_lt]at*;exact List.le_trans h2 h1
 ·rw[kH,decide_eq_false_iff_not,List.not_lt]at h1 h2;exact xy h hx hy (List.le_antisymm h2 h1)
theorem mA{m:List (List UInt8×bF)}(h:cx m):eY (m.map rH) bX:=ii (by rw[List.map_map];exact h)
theorem zK{m:List (List UInt8×bF)}{l:List au}{left:List (List UInt8×bF)}(h:fU m l left)(e:left= []):eY l bX:=(mA h.1).perm (o8 h e)
theorem rI{m:List (List UInt8×bF)}{l:List au}{left:List (List UInt8×bF)}(h:fU m l left)(e:left= []):be (fun(t t1:au)=>bX t t1) l=be (fun(t t1:au)=>bX t t1) (m.map rH):=oV (mA h.1) (o8 h e)
def gw(s:cL):Nat→Int→(List (List UInt8×bF))→(List au)⊕(Int×(List (List UInt8×bF)))
 |0,s18,s3=> .inr (s18,s3)
 |n1+1,s18,s3=>
  if s18<(s.puts.length:Int)then
   if(¬((bh s3 (ix s.puts s18).field).isSome=true))∨(o4 ((bh s3 (ix s.puts s18).field).getD ud.zero) (ix s.puts s18)<0)then
    gw s n1 (s18+1) (bL s3 (ix s.puts s18).field (ix s.puts s18))
   else
    gw s n1 (s18+1) s3
  else
   .inr (s18,s3)
def jZ(s:cL):List au:=
 if eN s=0 then
  match gw s (((s.puts.length:Int)- 0).toNat+1) 0 ([]:List (List UInt8×bF))with
  | .inl r=>r
  | .inr (s18,s3)=>
   be (fun(t t1:au)=>bX t t1) (List.map rH s3)
 else
  []
def Sg:aW U:=⟨[.d (.st 12)],fun xs es K=> ∃(s:cL),xs= [(sf s)]∧es= []∧(s.puts.length≤1000000)∧(s.gone.length≤1000000)∧((fun(r0:List au)=>r0.length≤1000000) (jZ s)→K (.v (BA (jZ s))) [])⟩
theorem Sh:Fk 52 Sg:=by
 refine fo Tryz.f52 [.d (.sl (.st 6))] [] (aa QC (aa ML (aa N2 (aa N6 ae)))) fun xs es K=>?_;rintro⟨s,rfl,rfl,h1,h2,h⟩;refine⟨rfl,?_⟩;have hf0:=jZ.eq_1 s;refine⟨_,rfl,rfl,(by omega),(by omega),?_⟩;refine fun _=>?_;refine vN hf0 iD (fun h1 hf0=>?_) (fun h1 hf0=>?_)
 ·rw[hf0]at h;exact h (show((fun(r0:List au)=>r0.length≤1000000) []:Prop)from by simp)
 ·refine fun h2=>?_;have h2:(↑s.puts.length:Int)≤(9223372036854775807:Int):=h2.2;refine⟨Int×(List (List UInt8×bF)),2,fun(s18,s3)=> [(2,.v ⟨false,[(1,.nils)]⟩),(3,.v ⟨false,[(1,.mp 1)]⟩),(16,.v ⟨false,[(1,.d (.sl (.st 5)) s.puts)]⟩),(17,.v ⟨false,[(1,.d (.int .i64) (↑s.puts.length:Int))]⟩),(18,.v ⟨false,[(1,.d (.int .i64) s18)]⟩)],fun(s18,s3)=> [(1,.map ud s3)],aS (fun(s18,s3)=>((↑s.puts.length:Int)- s18).toNat) (fun(s18,s3)=>((0:Int)≤s18)∧(s18≤(↑s.puts.length:Int))∧((s3.length:Int)≤s18)∧(cx s3)∧((s3.length:Int)≤s18)∧True) (fun n1 (s18,s3)=>gw s n1 s18 s3) (gw s (((↑s.puts.length:Int)-(0:Int)).toNat+1) (0:Int) ([]:List (List UInt8×bF))),fun(s18,s3)=>((↑s.puts.length:Int)- s18).toNat,⟨[],((0:Int),([]:List (List UInt8×bF))),aS.mk0 _ (Nat.lt_succ_self _) ⟨show(0:Int)≤(0:Int)from by omega,show(0:Int)≤(↑s.puts.length:Int)from by omega,show(↑[].length:Int)≤(0:Int)from by(simp only[List.length_append,List.length_cons,List.length_nil];omega),show cx []from List.nodup_nil,show(↑[].length:Int)≤(0:Int)from by(simp only[List.length_append,List.length_cons,List.length_nil];omega),trivial⟩ rfl,?_⟩,?_⟩
  ·repeat (first|exact trivial|refine And.intro rfl ?_)
  ·rintro⟨s18,s3⟩ ⟨n1,hc1,⟨hi1_0,hi1_1,hi1_2,hi1_3,hi1_4,-⟩,hf1⟩;have hf1:=hf1.trans (gw.eq_2 s s18 s3 n1);refine vI hf1 iD (fun _ hf1=>?_) (fun _ hf1=>?_)
   ·refine And.intro (show(0:Int)≤s18∧s18<(↑s.puts.length:Int)from by omega) ?_;refine⟨_,fun _=>⟨_,_,rfl,rfl,rfl,rfl⟩,rfl,?_⟩;refine vI hf1 (iO (iN iB) iD) (fun _ hf1=>?_) (fun _ hf1=>?_)
    ·refine .inl (And.intro (i6 (p:=s18) (q:=(1:Int)) (r:=s18+(1:Int)) (by omega)) ?_);have hm1:((↑s.puts.length:Int)-(s18+(1:Int))).toNat<((↑s.puts.length:Int)- s18).toNat:=by omega
     refine⟨[],(s18+(1:Int),bL s3 (ix s.puts s18).field (ix s.puts s18)),hm1,aS.next (s:=(s18,s3)) hc1 hm1 ⟨show(0:Int)≤s18+(1:Int)from by omega,show s18+(1:Int)≤(↑s.puts.length:Int)from by omega,show(↑(bL s3 (ix s.puts s18).field (ix s.puts s18)).length:Int)≤s18+(1:Int)from by(have hm:=eP s3 (ix s.puts s18).field (ix s.puts s18);omega),show cx (bL s3 (ix s.puts s18).field (ix s.puts s18))from ol (by assumption) _ _,show(↑(bL s3 (ix s.puts s18).field (ix s.puts s18)).length:Int)≤s18+(1:Int)from by(have hm:=eP s3 (ix s.puts s18).field (ix s.puts s18);omega),trivial⟩ hf1,?_⟩;repeat (first|exact trivial|refine And.intro rfl ?_)
    ·refine .inl (And.intro (i6 (p:=s18) (q:=(1:Int)) (r:=s18+(1:Int)) (by omega)) ?_);have hm1:((↑s.puts.length:Int)-(s18+(1:Int))).toNat<((↑s.puts.length:Int)- s18).toNat:=by omega
     refine⟨[],(s18+(1:Int),s3),hm1,aS.next (s:=(s18,s3)) hc1 hm1 ⟨show(0:Int)≤s18+(1:Int)from by omega,show s18+(1:Int)≤(↑s.puts.length:Int)from by omega,show(↑s3.length:Int)≤s18+(1:Int)from by omega,show cx s3 from by omega,show(↑s3.length:Int)≤s18+(1:Int)from by omega,trivial⟩ hf1,?_⟩;repeat (first|exact trivial|refine And.intro rfl ?_)
   ·rw[hf1]at hf0;refine fun b6=>?_;refine⟨(List (List UInt8×bF))×(List (List UInt8×bF))×Gh×(List au),4,fun(e1l,e1c,e1g,s8)=> [(2,.v ⟨false,[(1,.nils)]⟩),(8,.v ⟨false,[(1,.own 3 0)]⟩),(43,.v ⟨false,[(1,.ptr 2 0)]⟩)],fun(e1l,e1c,e1g,s8)=> [(1,.mapr ud s3 e1l e1c e1g),(2,.it 1 e1g),(3,.row 0 (.st 6) s8 144)],fun(e1l,e1c,e1g,s8)=>(fU s3 s8 e1l)∧True,fun(e1l,e1c,e1g,s8)=>e1l.length,⟨[],(s3,([]:List (List UInt8×bF)),b6,([]:List au)),⟨show fU s3 [] s3 from tw (by assumption),trivial⟩,?_⟩,?_⟩
    ·repeat (first|exact trivial|refine And.intro rfl ?_)
    ·rintro⟨e1l,e1c,e1g,s8⟩ ⟨hi2_0,-⟩;refine And.intro (show e1g=e1g from by simp) ?_;refine And.intro (fun _=>?_) (fun(a8:List (List UInt8×bF)) (p9:List UInt8×bF) (b10:List (List UInt8×bF)) (h11:e1l=a8++p9::b10)=>?_)
     ·refine vF iB (by simp) ?_;refine⟨fun(t t':au)=>bX t t',fun t0 t1=>⟨_,_,rfl,rfl,rfl,rfl⟩,?_⟩;refine⟨_,_,rfl,rfl,(zK (by assumption) (by assumption)),(show s8.length<(4611686018427387904:Nat)from by(have hl:=qv (show fU s3 s8 e1l from by assumption);omega)),?_⟩;have er0:(be (fun(t t':au)=>bX t t') s8:List au)=be (fun(t t1:au)=>bX t t1) (List.map rH s3):=rI (by assumption) (by assumption);rw[hf0]at h;replace h:=h (show((fun(r0:List au)=>r0.length≤1000000) (be (fun(t t1:au)=>bX t t1) (List.map rH s3)):Prop)from by(dsimp only;rw[cQ,List.length_map];omega));dsimp only at h;rw[←er0]at h;exact h
     ·refine fun b12=>?_;refine vT iB rfl ?_;refine And.intro (show b12=b12 from by simp) ?_;refine And.intro (show(s8.length+ [au.mk p9.fst p9.snd.val].length)*(24:Nat)≤(140737488355328:Nat)from by(have hl:=qv (show fU s3 s8 e1l from by assumption);simp only[List.length_append,List.length_cons,List.length_nil];omega)) ?_;have hm2:(a8++b10).length<e1l.length:=o7 (by assumption);refine⟨[],(a8++b10,[p9],b12,s8++ [au.mk p9.fst p9.snd.val]),hm2,⟨show fU s3 (s8++ [au.mk p9.fst p9.snd.val]) (a8++b10)from uQ (by assumption) (by assumption),trivial⟩,?_⟩;repeat (first|exact trivial|refine And.intro rfl ?_)
theorem pa(s:co):(bw s).length≤s.adds.length:=by
 have key: ∀(n:Nat) (i:Int) (t:List (List UInt8)),0≤i→(t.length:Int)≤i→i≤s.adds.length→ ∃j u,fa s n i t= .inr (j,u)∧u.length≤s.adds.length:=fun n=>by
  induction n with
  |zero=>intro i t h0 h1 h2;exact⟨i,t,rfl,by omega⟩
  |succ n ih=>
   intro i t h0 h1 h2;rw[fa];split
   ·exact ih _ _ (by omega) (by simp;omega) (by omega)
   ·exact⟨i,t,rfl,by omega⟩
 obtain⟨j,u,h,hu⟩:=key (((s.adds.length:Int)- 0).toNat+1) 0 [] (by omega) (by simp) (by omega);unfold bw;split
 ·rw[h];exact Nat.le_trans (HG _) (by rw[gx];exact hu)
 ·simp
def j3(s:dD):Nat→Int→(List au)→aF⊕(Int×(List au))
 |0,s30,e3=> .inr (s30,e3)
 |n1+1,s30,e3=>
  if s30<((bw s.set).length:Int)then
   j3 s n1 (s30+1) (e3++ [au.mk (ix (bw s.set) s30) 0])
  else
   .inr (s30,e3)
def rJ(s:dD):aF:=
 if s.kind=1 then
  aF.mk s.kind s.reg.val []
 else
  if s.kind=2 then
   aF.mk s.kind (mt s.num) []
  else
   if s.kind=3 then
    match j3 s ((((bw s.set).length:Int)- 0).toNat+1) 0 ([]:List au)with
    | .inl r=>r
    | .inr (s30,e3)=>
     aF.mk s.kind 0 e3
   else
    if s.kind=4 then
     aF.mk s.kind 0 (jZ s.map)
    else
     aF.mk 0 0 []
def Si:aW U:=⟨[.d (.st 15)],fun xs es K=> ∃(s:dD),xs= [(vm s)]∧es= []∧(s.set.adds.length≤900000)∧(s.set.gone.length≤900000)∧(s.map.puts.length≤900000)∧(s.map.gone.length≤900000)∧((fun(r0:aF)=>r0.items.length≤1000000) (rJ s)→K (.v (I4 (rJ s))) [])⟩
theorem E6:Fk 16 Si:=by
 refine fo Tryz.f16 [.d (.st 7)] [] (aa RL (aa R4 (aa Sh ae))) fun xs es K=>?_;rintro⟨s,rfl,rfl,h1,h2,h3,h4,h⟩;refine⟨rfl,?_⟩;have hf0:=rJ.eq_1 s;refine vI hf0 iD (fun _ hf0=>?_) (fun _ hf0=>?_)
 ·rw[hf0]at h;exact h (show((fun(r0:aF)=>r0.items.length≤1000000) (aF.mk s.kind s.reg.val []):Prop)from by simp)
 ·refine vI hf0 iD (fun h1 hf0=>?_) (fun h1 hf0=>?_)
  ·refine⟨_,rfl,rfl,?_⟩;rw[hf0]at h;exact h (show((fun(r0:aF)=>r0.items.length≤1000000) (aF.mk s.kind (mt s.num) []):Prop)from by simp)
  ·refine vI hf0 iD (fun h2 hf0=>?_) (fun h2 hf0=>?_)
   ·refine⟨_,rfl,rfl,(by omega),(by omega),?_⟩;refine fun h3=>?_;have h3:(↑(bw s.set).length:Int)≤(9223372036854775807:Int):=h3.2;refine⟨Int×(List au),4,fun(s30,e3)=> [(2,.v ⟨false,[(1,.ptr 1 0)]⟩),(3,.v ⟨false,[(1,.ptr 2 0)]⟩),(28,.v ⟨false,[(1,.d (.sl .str) (bw s.set))]⟩),(29,.v ⟨false,[(1,.d (.int .i64) (↑(bw s.set).length:Int))]⟩),(30,.v ⟨false,[(1,.d (.int .i64) s30)]⟩)],fun(s30,e3)=> [(1,.cells [(1,.d (.int .i64) (0:Int)),(1,.d (.int .i64) (0:Int)),(1,.nils)] 75),(2,.cells [(1,.d (.int .i64) s.kind),(1,.d (.int .i64) (0:Int)),(1,.own 3 0)] 75),(3,.row 0 (.st 6) e3 144)],aS (fun(s30,e3)=>((↑(bw s.set).length:Int)- s30).toNat) (fun(s30,e3)=>((0:Int)≤s30)∧(s30≤(↑(bw s.set).length:Int))∧((e3.length:Int)≤s30)∧True) (fun n1 (s30,e3)=>j3 s n1 s30 e3) (j3 s (((↑(bw s.set).length:Int)-(0:Int)).toNat+1) (0:Int) ([]:List au)),fun(s30,e3)=>((↑(bw s.set).length:Int)- s30).toNat,⟨[],((0:Int),([]:List au)),aS.mk0 _ (Nat.lt_succ_self _) ⟨show(0:Int)≤(0:Int)from by omega,show(0:Int)≤(↑(bw s.set).length:Int)from by omega,show(↑[].length:Int)≤(0:Int)from by(simp only[List.length_append,List.length_cons,List.length_nil];omega),trivial⟩ rfl,?_⟩,?_⟩
    ·repeat (first|exact trivial|refine And.intro rfl ?_)
    ·rintro⟨s30,e3⟩ ⟨n1,hc1,⟨hi1_0,hi1_1,hi1_2,-⟩,hf1⟩;have hf1:=hf1.trans (j3.eq_2 s s30 e3 n1);refine vI hf1 iD (fun h4 hf1=>?_) (fun h4 hf1=>?_)
     ·refine And.intro (show(0:Int)≤s30∧s30<(↑(bw s.set).length:Int)from by omega) ?_;refine And.intro (show(e3.length+ [au.mk (ix (bw s.set) s30) (0:Int)].length)*(24:Nat)≤(140737488355328:Nat)from by(have hl:=pa s.set;simp only[List.length_append,List.length_cons,List.length_nil];omega)) ?_;refine .inl (And.intro (i6 (p:=s30) (q:=(1:Int)) (r:=s30+(1:Int)) (by omega)) ?_);have hm1:((↑(bw s.set).length:Int)-(s30+(1:Int))).toNat<((↑(bw s.set).length:Int)- s30).toNat:=by omega
      refine⟨[],(s30+(1:Int),e3++ [au.mk (ix (bw s.set) s30) (0:Int)]),hm1,aS.next (s:=(s30,e3)) hc1 hm1 ⟨show(0:Int)≤s30+(1:Int)from by omega,show s30+(1:Int)≤(↑(bw s.set).length:Int)from by omega,show(↑(e3++ [au.mk (ix (bw s.set) s30) (0:Int)]).length:Int)≤s30+(1:Int)from by(simp only[List.length_append,List.length_cons,List.length_nil];omega),trivial⟩ hf1,?_⟩;repeat (first|exact trivial|refine And.intro rfl ?_)
     ·rw[hf1]at hf0;rw[hf0]at h;exact h (show((fun(r0:aF)=>r0.items.length≤1000000) (aF.mk s.kind (0:Int) e3):Prop)from by(have hl:=pa s.set;simp only[List.length_append,List.length_cons,List.length_nil];omega))
   ·refine vI hf0 iD (fun _ hf0=>?_) (fun _ hf0=>?_)
    ·refine⟨_,rfl,rfl,(by omega),(by omega),?_⟩;refine fun _=>?_;rw[hf0]at h;exact h (show((fun(r0:aF)=>r0.items.length≤1000000) (aF.mk s.kind (0:Int) (jZ s.map)):Prop)from by omega)
    ·rw[hf0]at h;exact h (show((fun(r0:aF)=>r0.items.length≤1000000) (aF.mk (0:Int) (0:Int) []):Prop)from by simp)
end Go.Proofs.YtmpeiadlohbikaaGreatDoor.V
end

section
set_option linter.unusedVariables false
set_option linter.unusedSimpArgs false
set_option maxRecDepth 20000
set_option maxHeartbeats 4000000
namespace Go.Proofs.YtmpeiadlohbikaaGreatDoor.V
open Go.RowKit
def rK(b:aj)(a:aj):Bool:=
 if a.id=b.id then
  decide (a.n<b.n)
 else
  fT b.deps a.id
def Sj:aW U:=⟨[.d (.st 3),.d (.st 3)],fun xs es K=> ∃(b:aj) (a:aj),xs= [(Bz b),(Bz a)]∧es= []∧K (.v (vb (rK b a))) []⟩
theorem Oe:Fk 26 Sj:=by
 refine fo Tryz.f26 [.d .bool] [] (aa E5 ae) fun xs es K=>?_;rintro⟨b,a,rfl,rfl,h⟩;refine⟨rfl,?_⟩;have hf0:=rK.eq_1 b a;refine wI hf0 (fun _ hf0=>e0) fun _ hf0=>?_;refine⟨_,_,rfl,rfl,?_⟩;exact e0
def kI(act:Int):Int:=
 if act=3 then
  4
 else
  if act=5 then
   6
  else
   0
def Og:aW U:=⟨[.d (.int .i64)],fun xs es K=> ∃(act:Int),xs= [(vi act)]∧es= []∧K (.v (vi (kI act))) []⟩
theorem Oh:Fk 162 Og:=by
 refine fo Tryz.f162 [.d (.int .i64)] [] (ae) fun xs es K=>?_;rintro⟨act,rfl,rfl,h⟩;refine⟨rfl,?_⟩;have hf0:=kI.eq_1 act;exact wI hf0 (fun _ hf0=>e0) fun _ hf0=>wI hf0 (fun _ hf0=>e0) fun _ hf0=>e0
def nq(r:aj)(a:aj):Bool:=
 decide ¬kI a.op.act=0&&decide (r.op.act=kI a.op.act)&&decide (r.key=a.key)&&decide (r.op.name=a.op.name)&&rK r a
def Oi:aW U:=⟨[.d (.st 3),.d (.st 3)],fun xs es K=> ∃(r:aj) (a:aj),xs= [(Bz r),(Bz a)]∧es= []∧K (.v (vb (nq r a))) []⟩
theorem Oj:Fk 112 Oi:=by
 refine fo Tryz.f112 [.d .bool] [] (aa Oe (aa Oh ae)) fun xs es K=>?_;rintro⟨r,a,rfl,rfl,h⟩;refine⟨rfl,?_⟩;have hf0:=nq.eq_1 r a;refine⟨_,rfl,rfl,?_⟩;refine⟨_,fun _=>⟨_,_,rfl,rfl,rfl,rfl⟩,rfl,?_⟩;exact e0
def kJ(r:aj)(v:List (Int))(a:aj):Bool:=
 fT v r.id&&nq r a
def Ol:aW U:=⟨[.d (.st 3),.n,.n],fun xs es K=> ∃(r:aj) (v:List (Int)) (a:aj),xs= [(Bz r),⟨false,[(1,.pd (.arr 8 (.int .u32)) v)]⟩,⟨false,[(1,.pd (.st 3) a)]⟩]∧es= []∧K (.v (vb (kJ r v a))) []⟩
theorem Om:Fk 111 Ol:=by
 refine fo Tryz.f111 [.d .bool] [] (aa E5 (aa Oj ae)) fun xs es K=>?_;rintro⟨r,v,a,rfl,rfl,h⟩;refine⟨rfl,?_⟩;have hf0:=kJ.eq_1 r v a;refine⟨_,_,rfl,rfl,?_⟩;refine⟨_,fun _=>⟨_,_,rfl,rfl,rfl,rfl⟩,rfl,?_⟩;exact e0
def dL(l:List aj)(f:aj→Bool):Bool:=
 decide (0≤bW l f)
def On:aW U:=⟨[.d (.sl (.st 3)),.f1 (.st 3)],fun xs es K=> ∃(l:List aj) (f:aj→Bool),xs= [(xW l),⟨false,[(1,.f1 (.st 3) f)]⟩]∧es= []∧K (.v (vb (dL l f))) []⟩
theorem MM:Fk 53 On:=by
 refine fo Tryz.f53 [.d .bool] [] (aa ON ae) fun xs es K=>?_;rintro⟨l,f,rfl,rfl,h⟩;refine⟨rfl,?_⟩;have hf0:=dL.eq_1 l f;refine⟨_,_,rfl,rfl,?_⟩;exact e0
def j4(a:aj)(l:List aj)(v:List Int):Bool:=
 if fT v a.id=true then
  !dL l fun(t:aj)=>kJ t v a
 else
  false
def Sk:aW U:=⟨[.d (.st 3),.d (.sl (.st 3)),.d (.arr 8 (.int .u32))],fun xs es K=> ∃(a:aj) (l:List aj) (v:List Int),xs= [(Bz a),(xW l),(iy v)]∧es= []∧K (.v (vb (j4 a l v))) []⟩
theorem Sl:Fk 44 Sk:=by
 refine fo Tryz.f44 [.d .bool] [] (aa MM (aa E5 (aa Om ae))) fun xs es K=>?_;rintro⟨a,l,v,rfl,rfl,h⟩;refine⟨rfl,?_⟩;have hf0:=j4.eq_1 a l v;refine⟨_,_,rfl,rfl,?_⟩;refine wN hf0 (fun _ hf0=>e0) fun _ hf0=>?_;refine⟨fun(t:aj)=>kJ t v a,fun t0=>⟨_,_,_,rfl,rfl,rfl,rfl⟩,?_⟩;refine⟨_,_,rfl,rfl,?_⟩;exact e0
def j5(a:aj)(b:aj):Int:=
 if eZ a.at_ b.at_=0 then
  if a.op.act=1 then
   rE a.op.val b.op.val
  else
   ap (az.mk a.id a.n) (az.mk b.id b.n)
 else
  eZ a.at_ b.at_
def Sm:aW U:=⟨[.d (.st 3),.d (.st 3)],fun xs es K=> ∃(a:aj) (b:aj),xs= [(Bz a),(Bz b)]∧es= []∧K (.v (vi (j5 a b))) []⟩
theorem Sn:Fk 45 Sm:=by
 refine fo Tryz.f45 [.d (.int .i64)] [] (aa zJ (aa Hy (aa JL ae))) fun xs es K=>?_;rintro⟨a,b,rfl,rfl,h⟩;refine⟨rfl,?_⟩;have hf0:=j5.eq_1 a b;refine⟨_,_,rfl,rfl,?_⟩;refine wN hf0 (fun _ hf0=>e0) fun _ hf0=>?_;refine wI hf0 (fun _ hf0=>?_) fun _ hf0=>?_
 ·refine⟨_,_,rfl,rfl,?_⟩;exact e0
 ·refine⟨_,_,rfl,rfl,?_⟩;exact e0
def lC(a:aj)(key:List UInt8)(v:List (Int))(kind:Int):Bool:=
 decide ¬a.key=key||!fT v a.id||decide ¬cd a.op=0||decide ¬dU a.op.act=kind
def Oo:aW U:=⟨[.d (.st 3),.n,.n,.n],fun xs es K=> ∃(a:aj) (key:List UInt8) (v:List (Int)) (kind:Int),xs= [(Bz a),⟨false,[(1,.pd .str key)]⟩,⟨false,[(1,.pd (.arr 8 (.int .u32)) v)]⟩,⟨false,[(1,.pd (.int .i64) kind)]⟩]∧es= []∧K (.v (vb (lC a key v kind))) []⟩
theorem Oq:Fk 110 Oo:=by
 refine fo Tryz.f110 [.d .bool] [] (aa I1 (aa Hz (aa E5 ae))) fun xs es K=>?_;rintro⟨a,key,v,kind,rfl,rfl,h⟩;refine⟨rfl,?_⟩;have hf0:=lC.eq_1 a key v kind;refine dp [(true,0),(true,1),(true,2),(true,3),(true,4),(true,5),(true,6),(true,7),(false,8),(true,9),(true,10),(true,11),(true,12),(true,13),(false,14),(true,15),(true,16),(true,17),(true,18),(true,19),(true,20),(true,22),(false,21),(true,23),(true,24),(true,25)] none (nw 1) ?_;refine⟨_,fun _=>⟨_,_,rfl,rfl,rfl,rfl⟩,rfl,?_⟩;refine⟨_,fun _=>⟨_,rfl,rfl,rfl,rfl⟩,rfl,?_⟩;refine⟨_,fun _=>⟨_,rfl,rfl,rfl,rfl⟩,rfl,?_⟩;exact e0
def ay(key:List UInt8)(kind:Int)(l:List aj)(v:List Int):List aj:=
 List.filter (fun(x:aj)=>!lC x key v kind) l
def So:aW U:=⟨[.d .str,.d (.int .i64),.d (.sl (.st 3)),.d (.arr 8 (.int .u32))],fun xs es K=> ∃(key:List UInt8) (kind:Int) (l:List aj) (v:List Int),xs= [(vt key),(vi kind),(xW l),(iy v)]∧es= []∧(l.length≤1000000)∧K (.v (xW (ay key kind l v))) []⟩
theorem Sp:Fk 43 So:=by
 refine fo Tryz.f43 [.d (.sl (.st 3))] [] (aa OQ (aa OE (aa Oq ae))) fun xs es K=>?_;rintro⟨key,kind,l,v,rfl,rfl,hl,h⟩;refine⟨rfl,?_⟩;have hf0:=ay.eq_1 key kind l v;refine⟨_,rfl,rfl,(by assumption),?_⟩;refine⟨fun(t:aj)=>lC t key v kind,fun t0=>⟨_,_,_,_,rfl,rfl,rfl,rfl⟩,?_⟩;refine⟨_,_,rfl,rfl,?_⟩;exact e0
def dX(a:au)(b:au):Int:=
 nj a.field b.field
def Sq:aW U:=⟨[.d (.st 6),.d (.st 6)],fun xs es K=> ∃(a:au) (b:au),xs= [(MR a),(MR b)]∧es= []∧K (.v (vi (dX a b))) []⟩
theorem Sr:Fk 47 Sq:=by
 refine fo Tryz.f47 [.d (.int .i64)] [] (aa Qh ae) fun xs es K=>?_;rintro⟨a,b,rfl,rfl,h⟩;refine⟨rfl,?_⟩;have hf0:=dX.eq_1 a b;refine⟨_,_,rfl,rfl,?_⟩;exact e0
def jj(a:aj)(v:List (Int)):Bool:=
 fT v a.id&&!iG a.deps v
def Ss:aW U:=⟨[.d (.st 3),.n],fun xs es K=> ∃(a:aj) (v:List (Int)),xs= [(Bz a),⟨false,[(1,.pd (.arr 8 (.int .u32)) v)]⟩]∧es= []∧K (.v (vb (jj a v))) []⟩
theorem Su:Fk 54 Ss:=by
 refine fo Tryz.f54 [.d .bool] [] (aa E5 (aa MH ae)) fun xs es K=>?_;rintro⟨a,v,rfl,rfl,h⟩;refine⟨rfl,?_⟩;have hf0:=jj.eq_1 a v;refine⟨_,_,rfl,rfl,?_⟩;refine⟨_,fun _=>⟨_,_,rfl,rfl,rfl,rfl⟩,rfl,?_⟩;exact e0
def qw(l:List aj)(v:List Int):Bool:=
 !dL l fun(t:aj)=>jj t v
def Sv:aW U:=⟨[.d (.sl (.st 3)),.d (.arr 8 (.int .u32))],fun xs es K=> ∃(l:List aj) (v:List Int),xs= [(xW l),(iy v)]∧es= []∧K (.v (vb (qw l v))) []⟩
theorem HB:Fk 17 Sv:=by
 refine fo Tryz.f17 [.d .bool] [] (aa MM (aa Su ae)) fun xs es K=>?_;rintro⟨l,v,rfl,rfl,h⟩;refine⟨rfl,?_⟩;have hf0:=qw.eq_1 l v;refine⟨fun(t:aj)=>jj t v,fun t0=>⟨_,_,rfl,rfl,rfl,rfl⟩,?_⟩;refine⟨_,_,rfl,rfl,?_⟩;exact e0
end Go.Proofs.YtmpeiadlohbikaaGreatDoor.V
end

section
set_option linter.unusedVariables false
set_option linter.unusedSimpArgs false
set_option maxRecDepth 20000
set_option maxHeartbeats 4000000
namespace Go.Proofs.YtmpeiadlohbikaaGreatDoor.V
open Go.RowKit
open Go.Shelf Go.Lib Go.Sort
theorem fY{α:Type} [Inhabited α](l:List α){j:Int}(h0:0≤j)(h1:j<l.length):ix l j∈l:=Do l h0 h1
def xz(p:List UInt8×aj):au:=au.mk p.1 p.2.op.val
def C9(kind val:Int)(m:List (List UInt8×aj)):aF:=if kind=1 then aF.mk kind (match m with| []=>val|p::_=>p.2.op.val) []else aF.mk kind val (be (fun(t t1:au)=>dX t t1) (m.map xz))
def mB(kind:Int)(m:List (List UInt8×aj))(v0 v1:Int)(l:List au)(left:List (List UInt8×aj)):Prop:=
 cx m∧(kind=1→(∀p∈m,p.1= [])∧l= []∧((left=m∧v1=v0)∨(left= []∧ ∃p,m= [p]∧v1=p.2.op.val)))∧(¬kind=1→v1=v0∧(l++left.map xz).Perm (m.map xz))
theorem xA{kind:Int}{m:List (List UInt8×aj)}{v0:Int}(h:cx m)(h1:kind=1→ ∀p∈m,p.1= []):mB kind m v0 v0 [] m:=⟨h,fun e=>⟨h1 e,rfl,.inl ⟨rfl,rfl⟩⟩,fun _=>⟨rfl,by simp⟩⟩
theorem Da{kind:Int}{m:List (List UInt8×aj)}{v0 v1:Int}{l:List au}{left a b:List (List UInt8×aj)}{p:List UInt8×aj}(h:mB kind m v0 v1 l left)(e:left=a++p::b)(hk:kind=1):mB kind m v0 p.2.op.val l (a++b):=by
 refine⟨h.1,fun _=>?_,fun q=>absurd hk q⟩;obtain⟨h1,h2,⟨rfl,h3⟩|⟨h3,_⟩⟩:=h.2.1 hk
 ·refine⟨h1,h2,.inr ?_⟩;have hn:=h.1;unfold cx at hn;subst e;have key: ∀(l:List (List UInt8×aj)),(∀p∈l,p.1= [])→(l.map (·.1)).Nodup→l.length≤1:=fun l hl hn=>by
   match l,hl,hn with
   | [],_,_=>simp
   | [x],_,_=>simp
   |x::y::r,hl,hn=>
    rw[List.map_cons,List.map_cons,List.nodup_cons]at hn;exact absurd (by rw[hl x (by simp),hl y (by simp)];simp) hn.1
  have:=key _ h1 hn;simp only[List.length_append,List.length_cons]at this;obtain rfl:a= []:=List.eq_nil_of_length_eq_zero (by omega);obtain rfl:b= []:=List.eq_nil_of_length_eq_zero (by omega);exact⟨rfl,p,rfl,rfl⟩
 ·subst h3;have:=congrArg List.length e;simp at this
theorem zL{kind:Int}{m:List (List UInt8×aj)}{v0 v1:Int}{l:List au}{left a b:List (List UInt8×aj)}{p:List UInt8×aj}(h:mB kind m v0 v1 l left)(e:left=a++p::b)(hk: ¬kind=1):mB kind m v0 v1 (l++ [au.mk p.1 p.2.op.val]) (a++b):=by
 refine⟨h.1,fun q=>absurd q hk,fun _=>⟨(h.2.2 hk).1,List.Perm.trans ?_ (h.2.2 hk).2⟩⟩;subst e;simp only[List.map_append,List.map_cons,List.append_assoc,List.singleton_append];exact List.Perm.append_left _ (List.perm_middle (a:=xz p)).symm
theorem wv{kind:Int}{m:List (List UInt8×aj)}{v0 v1:Int}{l:List au}{left:List (List UInt8×aj)}(h:mB kind m v0 v1 l left):l.length≤m.length:=by
 by_cases hk:kind=1
 ·rw[(h.2.1 hk).2.1];simp
 ·have:=(h.2.2 hk).2.length_eq;simp at this;omega
theorem tx:dX=bX:=rfl
theorem ww{m:List (List UInt8×aj)}(h:cx m):((m.map xz).map (·.field)).Nodup:=by rw[List.map_map];exact h
theorem HC{kind:Int}{m:List (List UInt8×aj)}{v0 v1:Int}{l:List au}{left:List (List UInt8×aj)}(h:mB kind m v0 v1 l left)(e:left= []):eY l (fun(t t1:au)=>dX t t1):=by
 show eY l dX
 rw[tx];by_cases hk:kind=1
 ·rw[(h.2.1 hk).2.1];exact ii List.nodup_nil
 ·have hp:=(h.2.2 hk).2;rw[e,List.map_nil,List.append_nil]at hp;exact(ii (ww h.1)).perm hp
theorem Db{kind:Int}{m:List (List UInt8×aj)}{v0 v1:Int}{l:List au}{left:List (List UInt8×aj)}(h:mB kind m v0 v1 l left)(e:left= []):aF.mk kind v1 (be (fun(t t1:au)=>dX t t1) l)=C9 kind v0 m:=by
 unfold C9;by_cases hk:kind=1
 ·rw[if_pos hk];obtain⟨_,h2,h3⟩:=h.2.1 hk;rw[h2,show be (fun(t t1:au)=>dX t t1) ([]:List au)= []from List.eq_nil_of_length_eq_zero (by rw[cQ];rfl)];rcases h3 with⟨h3,h4⟩|⟨_,p,h3,h4⟩
  ·rw[←h3,e,h4]
  ·rw[h3,h4]
 ·rw[if_neg hk];have hp:=(h.2.2 hk).2;rw[e,List.map_nil,List.append_nil]at hp;have:eY (m.map xz) (fun(t t1:au)=>dX t t1):=by show eY _ dX;rw[tx];exact ii (ww h.1)
  rw[(h.2.2 hk).1,oV this hp]
theorem Dc{key:List UInt8}{kind:Int}{l:List aj}{v:List Int}{x:aj}(h:x∈ay key kind l v):x∈l∧x.key=key∧fT v x.id=true∧cd x.op=0∧dU x.op.act=kind:=by
 unfold ay at h;obtain⟨h1,h2⟩:=List.mem_filter.1 h;unfold lC at h2;simp at h2;exact⟨h1,h2.1.1.1,h2.1.1.2,h2.1.2,h2.2⟩
theorem zM{o:ld}(h:cd o=0)(hk:dU o.act=1):o.name= []:=by
 unfold cd at h;have ha:o.act=1:=by
  unfold dU at hk
  repeat' split at hk
  all_goals first|assumption|(exfalso;omega)
 have hf:(dB o.act).name=false:=by rw[ha];rfl
 split at h
 ·cases h
 split at h
 ·cases h
 split at h
 ·cases h
 rename_i h3;exact Classical.byContradiction fun q=>h3 ⟨by rw[hf];simp,q⟩
theorem rL{key:List UInt8}{kind:Int}{l:List aj}{v:List Int}{m:List (List UInt8×aj)}{x:aj}(h:kind=1→ ∀p∈m,p.1= [])(hx:x∈ay key kind l v):kind=1→ ∀p∈bL m x.op.name x,p.1= []:=fun hk p hp=>by
 have hs:=Dc hx;have hn:=zM hs.2.2.2.1 (hs.2.2.2.2.trans hk);have hm:p.1∈(bL m x.op.name x).map (·.1):=List.mem_map_of_mem hp;rw[nm]at hm;split at hm
 ·obtain⟨q,hq,e⟩:=List.mem_map.1 hm;rw[←e];exact h hk q hq
 ·rcases List.mem_append.1 hm with hm|hm
  ·obtain⟨q,hq,e⟩:=List.mem_map.1 hm;rw[←e];exact h hk q hq
  ·rw[List.mem_singleton.1 hm];exact hn
def dY(key:List UInt8)(l:List aj)(v:List Int):Nat→Int→Int→(List (List UInt8×aj))→(aF×Int)⊕(Int×Int×(List (List UInt8×aj)))
 |0,s40,s10_1,s11=> .inr (s40,s10_1,s11)
 |n1+1,s40,s10_1,s11=>
  if s40<((ay key (ab key).fst l v).length:Int)then
   if(ix (ay key (ab key).fst l v) s40).op.act=2 then
    dY key l v n1 (s40+1) (IntKind.i64.wrap (s10_1+(ix (ay key (ab key).fst l v) s40).op.val)) s11
   else
    if(ix (ay key (ab key).fst l v) s40).op.act=1 then
     if(j4 (ix (ay key (ab key).fst l v) s40) l v=true)∧((¬((bh s11 (ix (ay key (ab key).fst l v) s40).op.name).isSome=true))∨(j5 ((bh s11 (ix (ay key (ab key).fst l v) s40).op.name).getD pR.zero) (ix (ay key (ab key).fst l v) s40)<0))then
      dY key l v n1 (s40+1) s10_1 (bL s11 (ix (ay key (ab key).fst l v) s40).op.name (ix (ay key (ab key).fst l v) s40))
     else
      dY key l v n1 (s40+1) s10_1 s11
    else
     if(ix (ay key (ab key).fst l v) s40).op.act=3 then
      if(j4 (ix (ay key (ab key).fst l v) s40) l v=true)∧((¬((bh s11 (ix (ay key (ab key).fst l v) s40).op.name).isSome=true))∨(j5 ((bh s11 (ix (ay key (ab key).fst l v) s40).op.name).getD pR.zero) (ix (ay key (ab key).fst l v) s40)<0))then
       dY key l v n1 (s40+1) s10_1 (bL s11 (ix (ay key (ab key).fst l v) s40).op.name (ix (ay key (ab key).fst l v) s40))
      else
       dY key l v n1 (s40+1) s10_1 s11
     else
      if(ix (ay key (ab key).fst l v) s40).op.act=5 then
       if(j4 (ix (ay key (ab key).fst l v) s40) l v=true)∧((¬((bh s11 (ix (ay key (ab key).fst l v) s40).op.name).isSome=true))∨(j5 ((bh s11 (ix (ay key (ab key).fst l v) s40).op.name).getD pR.zero) (ix (ay key (ab key).fst l v) s40)<0))then
        dY key l v n1 (s40+1) s10_1 (bL s11 (ix (ay key (ab key).fst l v) s40).op.name (ix (ay key (ab key).fst l v) s40))
       else
        dY key l v n1 (s40+1) s10_1 s11
      else
       dY key l v n1 (s40+1) s10_1 s11
  else
   .inr (s40,s10_1,s11)
def lD(key:List UInt8)(l:List aj)(v:List Int):aF×Int:=
 if(ab key).snd=0 then
  if 4096<(l.length:Int)then
   (aF.mk 0 0 [],8)
  else
   match dY key l v ((((ay key (ab key).fst l v).length:Int)- 0).toNat+1) 0 0 ([]:List (List UInt8×aj))with
   | .inl r=>r
   | .inr (s40,s10_1,s11)=>
    (C9 (ab key).fst s10_1 s11,0)
 else
  (aF.mk 0 0 [],(ab key).snd)
def Qu:aW U:=⟨[.d .str,.d (.sl (.st 3)),.d (.arr 8 (.int .u32))],fun xs es K=> ∃(key:List UInt8) (l:List aj) (v:List Int),xs= [(vt key),(xW l),(iy v)]∧es= []∧(key.length≤1000000)∧K (.tup [(I4 ((lD key l v).1)),(vi ((lD key l v).2))]) []⟩
theorem zN:Fk 13 Qu:=by
 refine fo Tryz.f13 [.d (.st 7),.d (.int .i64)] [] (aa Qr (aa Sp (aa Sl (aa Sn (aa QC (aa Sr ae)))))) fun xs es K=>?_;rintro⟨key,l,v,rfl,rfl,hk,h⟩;refine⟨rfl,?_⟩;have hf0:=lD.eq_1 key l v;refine⟨_,rfl,rfl,(by omega),?_⟩;refine vN hf0 iD (fun _ hf0=>?_) (fun _ hf0=>?_)
 ·rw[hf0]at h;exact h
 ·refine fun h1=>?_;have h1:(↑l.length:Int)≤(9223372036854775807:Int):=h1.2;refine vI hf0 iD (fun _ hf0=>?_) (fun _ hf0=>?_)
  ·rw[hf0]at h;exact h
  ·refine⟨_,_,_,_,rfl,rfl,(by omega),?_⟩;refine fun h3=>?_;have h3:(↑(ay key (ab key).fst l v).length:Int)≤(9223372036854775807:Int):=h3.2;refine⟨Int×Int×(List (List UInt8×aj)),4,fun(s40,s10_1,s11)=> [(1,.v ⟨false,[(1,.d (.sl (.st 3)) l)]⟩),(5,.v ⟨false,[(1,.ptr 0 0)]⟩),(6,.v ⟨false,[(1,.ptr 1 0)]⟩),(7,.v ⟨false,[(1,.d (.int .i64) (0:Int))]⟩),(8,.v ⟨false,[(1,.d (.int .i64) ((ab key).fst))]⟩),(10,.v ⟨false,[(1,.ptr 2 0)]⟩),(11,.v ⟨false,[(1,.mp 3)]⟩),(38,.v ⟨false,[(1,.d (.sl (.st 3)) (ay key (ab key).fst l v))]⟩),(39,.v ⟨false,[(1,.d (.int .i64) (↑(ay key (ab key).fst l v).length:Int))]⟩),(40,.v ⟨false,[(1,.d (.int .i64) s40)]⟩)],fun(s40,s10_1,s11)=> [(0,.cells [(8,.d (.arr 8 (.int .u32)) v)] 45),(1,.cells [(1,.d (.int .i64) (0:Int)),(1,.d (.int .i64) (0:Int)),(1,.nils)] 75),(2,.cells [(1,.d (.int .i64) ((ab key).fst)),(1,.d (.int .i64) s10_1),(1,.nils)] 75),(3,.map pR s11)],aS (fun(s40,s10_1,s11)=>((↑(ay key (ab key).fst l v).length:Int)- s40).toNat) (fun(s40,s10_1,s11)=>((0:Int)≤s40)∧(s40≤(↑(ay key (ab key).fst l v).length:Int))∧((s11.length:Int)≤s40)∧(cx s11)∧((s11.length:Int)≤s40)∧(((ab key).fst=1→ ∀p∈s11,p.1= []))∧True) (fun n1 (s40,s10_1,s11)=>dY key l v n1 s40 s10_1 s11) (dY key l v (((↑(ay key (ab key).fst l v).length:Int)-(0:Int)).toNat+1) (0:Int) (0:Int) ([]:List (List UInt8×aj))),fun(s40,s10_1,s11)=>((↑(ay key (ab key).fst l v).length:Int)- s40).toNat,⟨[],((0:Int),(0:Int),([]:List (List UInt8×aj))),aS.mk0 _ (Nat.lt_succ_self _) ⟨show(0:Int)≤(0:Int)from by omega,show(0:Int)≤(↑(ay key (ab key).fst l v).length:Int)from by omega,show(↑[].length:Int)≤(0:Int)from by(simp only[List.length_append,List.length_cons,List.length_nil];omega),show cx []from List.nodup_nil,show(↑[].length:Int)≤(0:Int)from by(simp only[List.length_append,List.length_cons,List.length_nil];omega),show(ab key).fst=(1:Int)→ ∀(p:List UInt8×aj),p∈ []→p.fst= []from by simp,trivial⟩ rfl,?_⟩,?_⟩
   ·repeat (first|exact trivial|refine And.intro rfl ?_)
   ·rintro⟨s40,s10_1,s11⟩ ⟨n1,hc1,⟨hi1_0,hi1_1,hi1_2,hi1_3,hi1_4,hi1_5,-⟩,hf1⟩;have hf1:=hf1.trans (dY.eq_2 key l v s40 s10_1 s11 n1);refine vI hf1 iD (fun _ hf1=>?_) (fun _ hf1=>?_)
    ·refine And.intro (show(0:Int)≤s40∧s40<(↑(ay key (ab key).fst l v).length:Int)from by omega) ?_;refine vI hf1 iD (fun _ hf1=>?_) (fun _ hf1=>?_)
     ·refine .inr ?_;refine .inl (And.intro (i6 (p:=s40) (q:=(1:Int)) (r:=s40+(1:Int)) (by omega)) ?_);have hm1:((↑(ay key (ab key).fst l v).length:Int)-(s40+(1:Int))).toNat<((↑(ay key (ab key).fst l v).length:Int)- s40).toNat:=by omega
      refine⟨[],(s40+(1:Int),IntKind.i64.wrap (s10_1+(ix (ay key (ab key).fst l v) s40).op.val),s11),hm1,aS.next (s:=(s40,s10_1,s11)) hc1 hm1 ⟨show(0:Int)≤s40+(1:Int)from by omega,show s40+(1:Int)≤(↑(ay key (ab key).fst l v).length:Int)from by omega,show(↑s11.length:Int)≤s40+(1:Int)from by omega,show cx s11 from by omega,show(↑s11.length:Int)≤s40+(1:Int)from by omega,show(ab key).fst=(1:Int)→ ∀(p:List UInt8×aj),p∈s11→p.fst= []from by omega,trivial⟩ hf1,?_⟩;repeat (first|exact trivial|refine And.intro rfl ?_)
     ·refine vI hf1 iD (fun _ hf1=>?_) (fun _ hf1=>?_)
      ·refine vT iD (show(ix (ay key (ab key).fst l v) s40).op.act=(1:Int)from by omega) ?_;refine⟨_,_,_,rfl,rfl,?_⟩;refine⟨_,fun _ h8=>⟨_,_,rfl,rfl,rfl,rfl⟩,rfl,?_⟩;refine vI hf1 (iA iB (iO (iN iB) iD)) (fun _ hf1=>?_) (fun _ hf1=>?_)
       ·refine .inl (And.intro (i6 (p:=s40) (q:=(1:Int)) (r:=s40+(1:Int)) (by omega)) ?_);have hm1:((↑(ay key (ab key).fst l v).length:Int)-(s40+(1:Int))).toNat<((↑(ay key (ab key).fst l v).length:Int)- s40).toNat:=by omega
        refine⟨[],(s40+(1:Int),s10_1,bL s11 (ix (ay key (ab key).fst l v) s40).op.name (ix (ay key (ab key).fst l v) s40)),hm1,aS.next (s:=(s40,s10_1,s11)) hc1 hm1 ⟨show(0:Int)≤s40+(1:Int)from by omega,show s40+(1:Int)≤(↑(ay key (ab key).fst l v).length:Int)from by omega,show(↑(bL s11 (ix (ay key (ab key).fst l v) s40).op.name (ix (ay key (ab key).fst l v) s40)).length:Int)≤s40+(1:Int)from by(have hm:=eP s11 (ix (ay key (ab key).fst l v) s40).op.name (ix (ay key (ab key).fst l v) s40);omega),show cx (bL s11 (ix (ay key (ab key).fst l v) s40).op.name (ix (ay key (ab key).fst l v) s40))from ol (by assumption) _ _,show(↑(bL s11 (ix (ay key (ab key).fst l v) s40).op.name (ix (ay key (ab key).fst l v) s40)).length:Int)≤s40+(1:Int)from by(have hm:=eP s11 (ix (ay key (ab key).fst l v) s40).op.name (ix (ay key (ab key).fst l v) s40);omega),show(ab key).fst=(1:Int)→ ∀(p:List UInt8×aj),p∈bL s11 (ix (ay key (ab key).fst l v) s40).op.name (ix (ay key (ab key).fst l v) s40)→p.fst= []from rL (by assumption) (fY _ (by omega) (by omega)),trivial⟩ hf1,?_⟩;repeat (first|exact trivial|refine And.intro rfl ?_)
       ·refine .inl (And.intro (i6 (p:=s40) (q:=(1:Int)) (r:=s40+(1:Int)) (by omega)) ?_);have hm1:((↑(ay key (ab key).fst l v).length:Int)-(s40+(1:Int))).toNat<((↑(ay key (ab key).fst l v).length:Int)- s40).toNat:=by omega
        refine⟨[],(s40+(1:Int),s10_1,s11),hm1,aS.next (s:=(s40,s10_1,s11)) hc1 hm1 ⟨show(0:Int)≤s40+(1:Int)from by omega,show s40+(1:Int)≤(↑(ay key (ab key).fst l v).length:Int)from by omega,show(↑s11.length:Int)≤s40+(1:Int)from by omega,show cx s11 from by omega,show(↑s11.length:Int)≤s40+(1:Int)from by omega,show(ab key).fst=(1:Int)→ ∀(p:List UInt8×aj),p∈s11→p.fst= []from by omega,trivial⟩ hf1,?_⟩;repeat (first|exact trivial|refine And.intro rfl ?_)
      ·refine vI hf1 iD (fun _ hf1=>?_) (fun _ hf1=>?_)
       ·refine vT iD (show(ix (ay key (ab key).fst l v) s40).op.act=(3:Int)from by omega) ?_;refine⟨_,_,_,rfl,rfl,?_⟩;refine⟨_,fun _ h12=>⟨_,_,rfl,rfl,rfl,rfl⟩,rfl,?_⟩;refine vI hf1 (iA iB (iO (iN iB) iD)) (fun _ hf1=>?_) (fun _ hf1=>?_)
        ·refine .inl (And.intro (i6 (p:=s40) (q:=(1:Int)) (r:=s40+(1:Int)) (by omega)) ?_);have hm1:((↑(ay key (ab key).fst l v).length:Int)-(s40+(1:Int))).toNat<((↑(ay key (ab key).fst l v).length:Int)- s40).toNat:=by omega
         refine⟨[],(s40+(1:Int),s10_1,bL s11 (ix (ay key (ab key).fst l v) s40).op.name (ix (ay key (ab key).fst l v) s40)),hm1,aS.next (s:=(s40,s10_1,s11)) hc1 hm1 ⟨show(0:Int)≤s40+(1:Int)from by omega,show s40+(1:Int)≤(↑(ay key (ab key).fst l v).length:Int)from by omega,show(↑(bL s11 (ix (ay key (ab key).fst l v) s40).op.name (ix (ay key (ab key).fst l v) s40)).length:Int)≤s40+(1:Int)from by(have hm:=eP s11 (ix (ay key (ab key).fst l v) s40).op.name (ix (ay key (ab key).fst l v) s40);omega),show cx (bL s11 (ix (ay key (ab key).fst l v) s40).op.name (ix (ay key (ab key).fst l v) s40))from ol (by assumption) _ _,show(↑(bL s11 (ix (ay key (ab key).fst l v) s40).op.name (ix (ay key (ab key).fst l v) s40)).length:Int)≤s40+(1:Int)from by(have hm:=eP s11 (ix (ay key (ab key).fst l v) s40).op.name (ix (ay key (ab key).fst l v) s40);omega),show(ab key).fst=(1:Int)→ ∀(p:List UInt8×aj),p∈bL s11 (ix (ay key (ab key).fst l v) s40).op.name (ix (ay key (ab key).fst l v) s40)→p.fst= []from rL (by assumption) (fY _ (by omega) (by omega)),trivial⟩ hf1,?_⟩;repeat (first|exact trivial|refine And.intro rfl ?_)
        ·refine .inl (And.intro (i6 (p:=s40) (q:=(1:Int)) (r:=s40+(1:Int)) (by omega)) ?_);have hm1:((↑(ay key (ab key).fst l v).length:Int)-(s40+(1:Int))).toNat<((↑(ay key (ab key).fst l v).length:Int)- s40).toNat:=by omega
         refine⟨[],(s40+(1:Int),s10_1,s11),hm1,aS.next (s:=(s40,s10_1,s11)) hc1 hm1 ⟨show(0:Int)≤s40+(1:Int)from by omega,show s40+(1:Int)≤(↑(ay key (ab key).fst l v).length:Int)from by omega,show(↑s11.length:Int)≤s40+(1:Int)from by omega,show cx s11 from by omega,show(↑s11.length:Int)≤s40+(1:Int)from by omega,show(ab key).fst=(1:Int)→ ∀(p:List UInt8×aj),p∈s11→p.fst= []from by omega,trivial⟩ hf1,?_⟩;repeat (first|exact trivial|refine And.intro rfl ?_)
       ·refine vI hf1 iD (fun _ hf1=>?_) (fun _ hf1=>?_)
        ·refine⟨_,_,_,rfl,rfl,?_⟩;refine⟨_,fun _ h16=>⟨_,_,rfl,rfl,rfl,rfl⟩,rfl,?_⟩;refine vI hf1 (iA iB (iO (iN iB) iD)) (fun _ hf1=>?_) (fun _ hf1=>?_)
         ·refine .inl (And.intro (i6 (p:=s40) (q:=(1:Int)) (r:=s40+(1:Int)) (by omega)) ?_);have hm1:((↑(ay key (ab key).fst l v).length:Int)-(s40+(1:Int))).toNat<((↑(ay key (ab key).fst l v).length:Int)- s40).toNat:=by omega
          refine⟨[],(s40+(1:Int),s10_1,bL s11 (ix (ay key (ab key).fst l v) s40).op.name (ix (ay key (ab key).fst l v) s40)),hm1,aS.next (s:=(s40,s10_1,s11)) hc1 hm1 ⟨show(0:Int)≤s40+(1:Int)from by omega,show s40+(1:Int)≤(↑(ay key (ab key).fst l v).length:Int)from by omega,show(↑(bL s11 (ix (ay key (ab key).fst l v) s40).op.name (ix (ay key (ab key).fst l v) s40)).length:Int)≤s40+(1:Int)from by(have hm:=eP s11 (ix (ay key (ab key).fst l v) s40).op.name (ix (ay key (ab key).fst l v) s40);omega),show cx (bL s11 (ix (ay key (ab key).fst l v) s40).op.name (ix (ay key (ab key).fst l v) s40))from ol (by assumption) _ _,show(↑(bL s11 (ix (ay key (ab key).fst l v) s40).op.name (ix (ay key (ab key).fst l v) s40)).length:Int)≤s40+(1:Int)from by(have hm:=eP s11 (ix (ay key (ab key).fst l v) s40).op.name (ix (ay key (ab key).fst l v) s40);omega),show(ab key).fst=(1:Int)→ ∀(p:List UInt8×aj),p∈bL s11 (ix (ay key (ab key).fst l v) s40).op.name (ix (ay key (ab key).fst l v) s40)→p.fst= []from rL (by assumption) (fY _ (by omega) (by omega)),trivial⟩ hf1,?_⟩;repeat (first|exact trivial|refine And.intro rfl ?_)
         ·refine .inl (And.intro (i6 (p:=s40) (q:=(1:Int)) (r:=s40+(1:Int)) (by omega)) ?_);have hm1:((↑(ay key (ab key).fst l v).length:Int)-(s40+(1:Int))).toNat<((↑(ay key (ab key).fst l v).length:Int)- s40).toNat:=by omega
          refine⟨[],(s40+(1:Int),s10_1,s11),hm1,aS.next (s:=(s40,s10_1,s11)) hc1 hm1 ⟨show(0:Int)≤s40+(1:Int)from by omega,show s40+(1:Int)≤(↑(ay key (ab key).fst l v).length:Int)from by omega,show(↑s11.length:Int)≤s40+(1:Int)from by omega,show cx s11 from by omega,show(↑s11.length:Int)≤s40+(1:Int)from by omega,show(ab key).fst=(1:Int)→ ∀(p:List UInt8×aj),p∈s11→p.fst= []from by omega,trivial⟩ hf1,?_⟩;repeat (first|exact trivial|refine And.intro rfl ?_)
        ·refine .inl (And.intro (i6 (p:=s40) (q:=(1:Int)) (r:=s40+(1:Int)) (by omega)) ?_);have hm1:((↑(ay key (ab key).fst l v).length:Int)-(s40+(1:Int))).toNat<((↑(ay key (ab key).fst l v).length:Int)- s40).toNat:=by omega
         refine⟨[],(s40+(1:Int),s10_1,s11),hm1,aS.next (s:=(s40,s10_1,s11)) hc1 hm1 ⟨show(0:Int)≤s40+(1:Int)from by omega,show s40+(1:Int)≤(↑(ay key (ab key).fst l v).length:Int)from by omega,show(↑s11.length:Int)≤s40+(1:Int)from by omega,show cx s11 from by omega,show(↑s11.length:Int)≤s40+(1:Int)from by omega,show(ab key).fst=(1:Int)→ ∀(p:List UInt8×aj),p∈s11→p.fst= []from by omega,trivial⟩ hf1,?_⟩;repeat (first|exact trivial|refine And.intro rfl ?_)
    ·rw[hf1]at hf0;refine fun b18=>?_;refine⟨Int×(List (List UInt8×aj))×(List (List UInt8×aj))×Gh×(List au),6,fun(s10_1',e3l,e3c,e3g,e5)=> [(6,.v ⟨false,[(1,.ptr 1 0)]⟩),(7,.v ⟨false,[(1,.d (.int .i64) (0:Int))]⟩),(8,.v ⟨false,[(1,.d (.int .i64) ((ab key).fst))]⟩),(10,.v ⟨false,[(1,.ptr 2 0)]⟩),(89,.v ⟨false,[(1,.ptr 4 0)]⟩)],fun(s10_1',e3l,e3c,e3g,e5)=> [(1,.cells [(1,.d (.int .i64) (0:Int)),(1,.d (.int .i64) (0:Int)),(1,.nils)] 75),(2,.cells [(1,.d (.int .i64) ((ab key).fst)),(1,.d (.int .i64) s10_1'),(1,.own 5 0)] 75),(3,.mapr pR s11 e3l e3c e3g),(4,.it 3 e3g),(5,.row 0 (.st 6) e5 144)],fun(s10_1',e3l,e3c,e3g,e5)=>(mB (ab key).fst s11 s10_1 s10_1' e5 e3l)∧True,fun(s10_1',e3l,e3c,e3g,e5)=>e3l.length,⟨[],(s10_1,s11,([]:List (List UInt8×aj)),b18,([]:List au)),⟨show mB (ab key).fst s11 s10_1 s10_1 [] s11 from xA (by assumption) (by assumption),trivial⟩,?_⟩,?_⟩
     ·repeat (first|exact trivial|refine And.intro rfl ?_)
     ·rintro⟨s10_1',e3l,e3c,e3g,e5⟩ ⟨hi2_0,-⟩;refine And.intro (show e3g=e3g from by simp) ?_;refine And.intro (fun _=>?_) (fun(a20:List (List UInt8×aj)) (p21:List UInt8×aj) (b22:List (List UInt8×aj)) (h23:e3l=a20++p21::b22)=>?_)
      ·refine vF iB (by simp) ?_;refine⟨fun(t t':au)=>dX t t',fun t0 t1=>⟨_,_,rfl,rfl,rfl,rfl⟩,?_⟩;refine⟨_,_,rfl,rfl,(HC (by assumption) (by assumption)),(show e5.length<(4611686018427387904:Nat)from by(have hl:=wv (show mB (ab key).fst s11 s10_1 s10_1' e5 e3l from by assumption);have hz:=List.length_filter_le (fun(x:aj)=>!lC x key v (ab key).fst) l;have hy:(ay key (ab key).fst l v).length≤l.length:=hz;omega)),?_⟩;have er0:(aF.mk (ab key).fst s10_1' (be (fun(t t':au)=>dX t t') e5):aF)=C9 (ab key).fst s10_1 s11:=Db (by assumption) (by assumption);rw[hf0]at h;replace h:=h;dsimp only at h;rw[←er0]at h;exact h
      ·refine fun b24=>?_;refine vT iB rfl ?_;refine And.intro (show b24=b24 from by simp) ?_;refine vR iD (fun _=>?_) (fun _=>?_)
       ·have hm2:(a20++b22).length<e3l.length:=o7 (by assumption);refine⟨[],(p21.snd.op.val,a20++b22,[p21],b24,e5),hm2,⟨show mB (ab key).fst s11 s10_1 p21.snd.op.val e5 (a20++b22)from Da (by assumption) (by assumption) (by assumption),trivial⟩,?_⟩;repeat (first|exact trivial|refine And.intro rfl ?_)
       ·refine And.intro (show(e5.length+ [au.mk p21.fst p21.snd.op.val].length)*(24:Nat)≤(140737488355328:Nat)from by(have hl:=wv (show mB (ab key).fst s11 s10_1 s10_1' e5 e3l from by assumption);have hz:=List.length_filter_le (fun(x:aj)=>!lC x key v (ab key).fst) l;have hy:(ay key (ab key).fst l v).length≤l.length:=hz;simp only[List.length_append,List.length_cons,List.length_nil];omega)) ?_;have hm2:(a20++b22).length<e3l.length:=o7 (by assumption);refine⟨[],(s10_1',a20++b22,[p21],b24,e5++ [au.mk p21.fst p21.snd.op.val]),hm2,⟨show mB (ab key).fst s11 s10_1 s10_1' (e5++ [au.mk p21.fst p21.snd.op.val]) (a20++b22)from zL (by assumption) (by assumption) (by assumption),trivial⟩,?_⟩;repeat (first|exact trivial|refine And.intro rfl ?_)
end Go.Proofs.YtmpeiadlohbikaaGreatDoor.V
end

section
namespace Go.Proofs.YtmpeiadlohbikaaGreatDoor
open Go.RowKit Go.Lib
structure Lc where
 fn:FuncId
 tmps:Array Value
 ps:Array Tmp
 asg:Code
 body:Code
 D:Nat
abbrev Lr(c:Lc)(st:LoopState)(pe:Option Code):Obj:= .loop {state:=st,pending:=pe,fn:=c.fn,tmps:=c.tmps,params:=c.ps,assign:=c.asg,body:=c.body,defers:=c.D}
theorem Fr.putObj{w:World}{l:Nat}{o:Obj}:Fr [l] w (w.putObj l o):=⟨rfl,rfl,rfl,by simp,fun _ _ hk=>World.putObj_heap_other (fun e=>hk (by simp[e])),Nat.le_refl _⟩
theorem Hp.putObj{w:World}{H:bR}{i l:Nat}{o:Obj}(o':Obj)(h:Hp w H)(hi:H[i]? =some (some l,o)):Hp (w.putObj l o') (H.set i (some l,o')):=
 h.setAt hi Fr.putObj (World.putObj_heap_same (bZ (h.at hi)))
def mM(P:Program)(l:Nat)(xs:List Value)(w:World)(T F:World→Prop):Prop:=
 ∃fn tmps asg body,(Instr.yield l xs.toArray).run P w= .ok (.round l fn tmps asg body) w∧
  RoundIn Fence.wide 0 P l fn tmps asg body w (fun e w'=> ∃b,e= .returned (.bool b)∧(b=true→T w')∧(b=false→F w'))
section
variable [bt] {P:Program} {n:Nat} {Q:EQ} {env:aG} {w:World} {ops:Array Oper} {o:Oper} {rest:List Oper}
theorem Al{x:Operand}{xs:List Operand}{vs:List Value}{ts:Array TypeId}{d l:Nat}{T F:World→Prop}(hw:lr n env ops o true)
  (ho:o.op= .call {callee:= .value x,args:=xs.toArray,argTypes:=ts}) (hf:env.ev x=some (.func (.yield l) #[] #[])) (hx:env.evs xs=some vs)
  (hd:o.dst=some d) (hn:Nat.blt d n=true) (hy:mM P l vs w T F)
  (h1: ∀w',T w'→Ls P n ops Q rest ((d,.bool true)::env) w') (h2: ∀w',F w'→Ls P n ops Q rest ((d,.bool false)::env) w'):Ls P n ops Q (o::rest) env w:=fun hnd a r=>
 wpListIn_step fun K hK=>by
  rw[if_pos (hw a r)];refine⟨fun _ _=>trivial,?_⟩;rw[Oper.semFw _ (tZ hnd)];obtain⟨fn,tmps,asg,body,hrun,hR⟩:=hy;have e1:=r.evals hx;have e2:=r.eval hf;have hrun2:(execOp a.eval o).run P w= .ok (.round l fn tmps asg body) w:=by
   unfold execOp;simp only[ho,resolve,e2,Deferred.ofValue,Sem.run_bind,Sem.run_pure,Result.andThen_ok,invoke];simp[e1,hrun]
  rw[hrun2,Oper.uponIn_round];refine⟨fun h=>by simp[Fw,Fence.wide]at h,trivial,fun c cs _=>?_⟩;obtain⟨e,w',⟨b,he,ht,hf'⟩,hs⟩:=hR.2 c cs (room_wide _);subst he;refine⟨.returned (.bool b),w',?_,hs⟩;have r':=r.put hn (.bool b);rw[←hd]at r';cases b with
  |true=>exact hK _ _ (h1 w' (ht rfl) (pF hnd) _ r')
  |false=>exact hK _ _ (h2 w' (hf' rfl) (pF hnd) _ r')
end
section
variable [bt] {P:Program} {n:Nat} {env:aG} {S:World→Prop} {o:Oper}
theorem E0{x y:Operand}{t u:Nat}{k:IntKind}{p q:Int}(ho:o.op= .call {callee:= .builtin .min,args:= #[x,y],argTypes:= #[t,u]})(hx:env.ev x=some (.int k p))(hy:env.ev y=some (.int k q)):bY P n env S o (.int k (min p q)):=fun a r w _=>by
 refine dh ho (r.eval hx) (r.eval hy) fun c=>?_;have e:(if q<p then q else p)=min p q:=by simp only[Int.min_def];split<;>split<;>omega
 simp[builtin,Builtin.min_,Builtin.min2,←e]
end
def Rd(c:Lc)(l:Nat)(T F:World→Prop):EQ:=fun e _ w=>match e with
 | .normal=>w.heap[l]? =some (Lr c .busy none)∧T (w.putObj l (Lr c .ready none))
 | .ret=>w.heap[l]? =some (Lr c .busy none)∧F (w.putObj l (Lr c .done (some .ret)))
 | .exit id=>w.heap[l]? =some (Lr c .busy none)∧F (w.putObj l (Lr c .done (some (.exit id))))
 |_=>False
section
variable {c:Lc} {l i:Nat} {T F:World→Prop} {env:aG} {w:World} {H:bR}
theorem Pf(hp:Hp w H)(hi:H[i]? =some (some l,Lr c .busy none))(h: ∀W,Hp W (H.set i (some l,Lr c .ready none))→Fr [l] w W→T W):Rd c l T F .normal env w:=⟨hp.at hi,h _ (hp.putObj _ hi) Fr.putObj⟩
end
def rZ:List Tmp→List Value→aG→aG
 |t::ts,v::vs,e=>rZ ts vs ((t,v)::e)
 |_,_,e=>e
structure u6(n:Nat)(env:aG)(t:Array Value):Prop where
 size:t.size=n
 get: ∀k v,env.get k=some v→t[k]? =some v
theorem u6.par{n:Nat}: ∀(ts:List Tmp) (vs:List Value) (env:aG) (t:Array Value),u6 n env t→(ts.all (Nat.blt · n))=true→u6 n (rZ ts vs env) ((ts.zip vs).foldl (fun tmps (t,a)=>tmps.setIfInBounds t a) t)
 | [],_,_,_,h,_=>h
 |_::_,[],_,_,h,_=>h
 |d::ts,v::vs,env,t,h,hb=>by
  simp only[List.all_cons,Bool.and_eq_true]at hb;have hd:d<n:=by simpa[Nat.blt_eq]using hb.1
  refine u6.par ts vs ((d,v)::env) _ ⟨by simp[h.size],fun k u hk=>?_⟩ hb.2;unfold aG.get at hk;by_cases e:d=k
  ·subst e;simp at hk;subst hk;simp[h.size,hd]
  ·rw[cg e]at hk;simp only[cond_false]at hk;rw[Array.getElem?_setIfInBounds_ne e];exact h.get k u hk
theorem Am{P:Program}{n l:Nat}{c:Lc}{xs:List Value}{env:aG}{w:World}{T F:World→Prop}(ps:List Tmp)(hps:c.ps=ps.toArray)(hl:xs.length=ps.length)(hb:(ps.all (Nat.blt · n))=true)
  (hw:w.heap[l]? =some (Lr c .ready none)) (ht:u6 n env c.tmps)
  (h: ∀ [bt],Wp P n c.asg (Th (fun e w1=> ∃H i,Hp w1 H∧H[i]? =some (some l,Lr c .ready none)∧ ∀W2,Hp W2 (H.set i (some l,Lr c .busy none))→Fr [l] w1 W2→Wp P n c.body (Rd c l T F) e W2) (fun _ _ _=>False)) (rZ ps xs env) w):
  mM P l xs w T F:=by
 have h1:=run_yield (P:=P) (args:=xs.toArray) hw (by simp[hps,hl]);refine⟨_,_,_,_,h1,?_⟩;refine roundIn_of_wpIn trivial ?_;have hr:=u6.par ps xs env c.tmps ht hb;have h2:= @h ⟨[],some l⟩;have e1:(Array.foldl (fun tmps x=>tmps.setIfInBounds x.fst x.snd) c.tmps (c.ps.zip xs.toArray))=((ps.zip xs).foldl (fun tmps (t,a)=>tmps.setIfInBounds t a) c.tmps):=by
  rw[hps];simp
 have h3:=h2 {tmps:=(ps.zip xs).foldl (fun tmps (t,a)=>tmps.setIfInBounds t a) c.tmps,defers:= []} (@gm.mk ⟨[],some l⟩ _ _ _ hr.size rfl hr.get);simp only[e1];refine Code.wpIn_mono (fun e a' w' hq=>?_) h3;obtain⟨env',r',q⟩:=hq;cases e with
 |normal=>
  obtain⟨H,i,hp,hi,q2⟩:=q;refine⟨_,run_beginRound (hp.at hi) rfl,?_⟩;refine Code.wpIn_mono (fun e2 a2 w2 hq2=>?_) (q2 _ (hp.putObj _ hi) Fr.putObj a' r');obtain⟨env2,r2,q3⟩:=hq2;cases e2 with
  |normal=>exact⟨_,_,run_endRound none q3.1,true,rfl,fun _=>q3.2,fun hf=>by cases hf⟩
  |ret=>exact⟨_,_,run_endRound (some .ret) q3.1,false,rfl,(fun hf=>by cases hf),fun _=>q3.2⟩
  |exit id=>exact⟨_,_,run_endRound (some (.exit id)) q3.1,false,rfl,(fun hf=>by cases hf),fun _=>q3.2⟩
  |_=>exact q3.elim
 |_=>exact q.elim
abbrev BE(D:Nat):bt:=⟨[{target:= .collected D,args:= #[]}],none⟩
def Kb [bt](P:Program)(n:Nat)(fn:Func)(D:Nat)(Post:Value→World→Prop):EQ:=fun e env w=>match e with
 | .normal| .ret=>w.heap[D]? =some (.deferred (some []))∧ ∃v,vd P n fn env (w.putObj D (.deferred none)) v∧Post v (w.putObj D (.deferred none))
 |_=>False
theorem DH [bt]{P:Program}{n i D:Nat}{fn:Func}{env:aG}{w:World}{H:bR}{Post:Value→World→Prop}(hp:Hp w H)(hi:H[i]? =some (some D,.deferred (some [])))
  (h: ∀W,Hp W (H.set i (some D,.deferred none))→Fr [D] w W→ ∃v,vd P n fn env W v∧Post v W):Kb P n fn D Post .ret env w:=⟨hp.at hi,h _ (hp.putObj _ hi) Fr.putObj⟩
abbrev nv(Post:Value→World→Prop):Ending→World→Prop:=fun e w'=> ∃v,e= .returned v∧Post v w'
def Ph(P:Program)(fn:Func)(Post:Value→World→Prop):List Code→Act→World→Prop
 | []=>bodyPostM Fence.wide 0 P fn (nv Post) .normal
 |c::cs=>c.wpIn Fence.wide 0 P (Exit.then (Ph P fn Post cs) (bodyPostM Fence.wide 0 P fn (nv Post)))
def Wf(P:Program)(n:Nat)(fn:Func)(Post:Value→World→Prop)(cs:List Code)(env:aG)(w:World):Prop:= ∀a, @gm dfs0 n env a→Ph P fn Post cs a w
def Wd [bt](P:Program)(n:Nat)(fn:Func)(D:Nat)(Post:Value→World→Prop):List Code→aG→World→Prop
 | []=>Kb P n fn D Post .normal
 |c::cs=>Wp P n c (Th (Wd P n fn D Post cs) (Kb P n fn D Post))
section
variable {P:Program} {n:Nat} {fn:Func} {Post:Value→World→Prop} {env:aG} {w:World} {x y z:Code} {cs:List Code}
theorem u7(h:Wf P n fn Post (x::y::cs) env w):Wf P n fn Post (.seq x y::cs) env w:=fun a r=>
 wpIn_seq (Code.wpIn_mono (fun e a' w' hq=>by cases e<;>exact hq) (h a r))
theorem DI{a:Act}{e:Exit}(he:e= .normal∨e= .ret)(r: @gm dfs0 n env a)(h: @Fq dfs0 P n fn (nv Post) e env w):bodyPostM Fence.wide 0 P fn (nv Post) e a w:=by
 have hd:a.defers= []:=r.defers;rcases he with rfl|rfl<;>
 ·obtain⟨v,hv,hP⟩:=h;simp only[bodyPostM,hd];exact⟨v,hv a r,hP⟩
theorem Ke(h: ∀K:aG→World→Prop,(∀e v,Wf P n fn Post cs e v→K e v)→ @Wp dfs0 P n x (Th K (@Fq dfs0 P n fn (nv Post))) env w):Wf P n fn Post (x::cs) env w:=fun a r=>
 Code.wpIn_mono (fun e a' w' hq=>by
  obtain⟨env',r',q⟩:=hq;cases e with
  |normal=>exact q a' r'
  |ret=>exact DI (.inr rfl) r' q
  |_=>exact q.elim) (h (Wf P n fn Post cs) (fun _ _ h=>h) a r)
theorem pC{a:Act}{e:Exit}{D:Nat}(he:e= .normal∨e= .ret)(r: @gm (BE D) n env a)(h: @Kb (BE D) P n fn D Post e env w):bodyPostM Fence.wide 0 P fn (nv Post) e a w:=by
 have hd:a.defers= [{target:= .collected D,args:= #[]}]:= @gm.defers (BE D) _ _ _ r;rcases he with rfl|rfl<;>
 ·obtain⟨h1,v,hv,hP⟩:=h;simp only[bodyPostM,hd];refine⟨by simp,.inl ⟨D,_,rfl,run_takeDeferred h1,v,hv a r,v,rfl,hP⟩⟩
theorem u9{D:Nat}: ∀(cs:List Code) (env:aG) (w:World) (a:Act), @Wd (BE D) P n fn D Post cs env w→ @gm (BE D) n env a→Ph P fn Post cs a w
 | [],_,_,_,h,r=>pC (.inl rfl) r h
 |c::cs,env,w,a,h,r=>Code.wpIn_mono (fun e a' w' hq=>by
   obtain⟨env',r',q⟩:=hq;cases e with
   |normal=>exact u9 cs env' w' a' q r'
   |ret=>exact pC (.inr rfl) r' q
   |_=>exact q.elim) (h a r)
theorem Kg{id gf:Nat}{g:Operand}{ps:Array Tmp}{asg body:Code}{lb:List Value}(hg:env.ev g=some (.func (.func gf) #[] lb.toArray))(hent:aA P gf=true)
  (h: ∀(c:Lc) (D l:Nat) (W:World),c.ps=ps→c.asg=asg→c.body=body→u6 n env c.tmps→Fr [] w W→w.heap.size≤D→w.heap.size≤l→(∀H,Hp w H→Hp W (H++ [(some D,.deferred (some [])),(some l,Lr c .ready none)]))→
   Fn P gf (.func (.yield l) #[] #[]::lb) W fun _ W'=>
    (∃H i,Hp W' H∧H[i]? =some (some l,Lr c .ready none)∧ ∀W2,Hp W2 (H.set i (some l,Lr c .exhausted none))→Fr [l] W' W2→ ∀ [bt],Wd P n fn D Post cs env W2)∨
    (∃H i,Hp W' H∧H[i]? =some (some l,Lr c .done (some (.exit id)))∧ ∀W2,Hp W2 (H.set i (some l,Lr c .exhausted (some (.exit id))))→Fr [l] W' W2→ ∀ [bt],Wd P n fn D Post cs env W2)∨
    (∃H i,Hp W' H∧H[i]? =some (some l,Lr c .done (some .ret))∧ ∀W2,Hp W2 (H.set i (some l,Lr c .exhausted (some .ret)))→Fr [l] W' W2→ ∀ [bt],Kb P n fn D Post .ret env W2)):
  Wf P n fn Post (.block id (.rangeFunc g ps asg body)::cs) env w:=fun a r=>by
 refine wpIn_block (wpIn_rangeFunc fun f _=>?_);have e2:=r.eval hg;obtain⟨c,hc⟩: ∃c:Lc,c=⟨f,a.tmps,ps,asg,body,w.heap.size⟩:=⟨_,rfl⟩;obtain⟨W1,hW1⟩: ∃W1,(w.alloc (.deferred (some []))).alloc (Lr c .ready none)=W1:=⟨_,rfl⟩;have hsz:(w.alloc (.deferred (some []))).heap.size=w.heap.size+1:=World.size_alloc ..;have hF:Fr [] w W1:=by rw[←hW1];exact(Fr.alloc w _).step0 (Fr.alloc _ _)
 have hmain:=h c w.heap.size (w.heap.size+1) W1 (by rw[hc]) (by rw[hc]) (by rw[hc]) (by rw[hc];exact⟨r.size,r.get⟩) hF (Nat.le_refl _) (by omega) (fun H hp=>by
  have h1:=(hp.alloc (.deferred (some []))).alloc (Lr c .ready none);rw[hW1,hsz,List.append_assoc]at h1;exact h1)
 refine⟨w.heap.size+1,[{target:= .collected w.heap.size,args:= #[]}],W1,{target:= .fn (.func gf) lb.toArray,args:= #[.func (.yield (w.heap.size+1)) #[] #[]]},W1,gf,
  (.func (.yield (w.heap.size+1)) #[] #[]::lb).toArray,W1,?_,?_,fun _ _=>trivial,?_,fun h=>by simp[Fence.wide]at h,?_⟩
 ·rw[←hW1,hc];exact run_enterLoop_outer _ _ _ _ _
 ·simp only[resolve,e2];simp[go_sem]
 ·have eg:=hent;unfold aA at eg;cases hq:P.funcs[gf]? with
  |none=>simp[hq]at eg
  |some fn'=>
   simp only[hq,Bool.and_eq_true,Bool.not_eq_true',beq_eq_false_iff_ne]at eg;obtain⟨h2,h3⟩:=eg;have h4: ¬fn'.body=none:=by intro hbb;simp[hbb]at h3
   simp only[invoke];simp[callFunc,hq,h2,h4]
 ·have hcalls:=(callsIn_wide (n:=0 - 1)).2 hmain.2;refine hcalls.mono fun e W' ⟨v,he,hv⟩=>?_;subst he;have hd0:a.defers= []:=r.defers;have ra: @gm (BE w.heap.size) n env {a with defers:= [{target:= .collected w.heap.size,args:= #[]}]++a.defers}:= @gm.mk (BE _) _ _ _ r.size (by rw[hd0];rfl) r.get;rcases hv with⟨H,i,hp,hi,h2⟩|⟨H,i,hp,hi,h2⟩|⟨H,i,hp,hi,h2⟩
  ·exact⟨none,_,run_endLoop (hp.at hi) (by simp),u9 cs env _ _ (@h2 _ (hp.putObj _ hi) Fr.putObj (BE _)) ra⟩
  ·refine⟨some (.exit id),_,run_endLoop (hp.at hi) (by simp),?_⟩;refine wpIn_exit ?_;simp only[Exit.inBlock,if_true];exact u9 cs env _ _ (@h2 _ (hp.putObj _ hi) Fr.putObj (BE _)) ra
  ·refine⟨some .ret,_,run_endLoop (hp.at hi) (by simp),?_⟩;exact wpIn_ret (pC (.inr rfl) ra (@h2 _ (hp.putObj _ hi) Fr.putObj (BE _)))
theorem H9{f:FuncId}{c:Code}{args:List Value}(n:Nat)(he:aA P f=true)(hf:P.funcs[f]? =some fn)(hb:fn.body=some c)(hn:fn.ntmps=n)(hle:Nat.ble args.length n=true)
  (h:Wf P n fn Post [c] (bQ 0 args) w):Fn P f args w Post:=by
 refine⟨he,callsIn_wide (n:=0)|>.1 (callsIn_of_wp_marks hf hb trivial (Code.wpIn_mono (fun e a' w' hq=>by cases e<;>exact hq) (h _ ⟨?_,rfl,fun k v hk=>?_⟩)))⟩
 ·have:args.length≤n:=by simpa[Nat.ble_eq]using hle
  simp[hn];omega
 ·obtain⟨_,h2⟩:=gU args 0 k v hk;simp only[Nat.sub_zero]at h2;have hlt:k<args.length:=(List.getElem?_eq_some_iff.1 h2).1;have h3:args[k]=v:=(List.getElem?_eq_some_iff.1 h2).2;simp[Array.getElem?_append,hlt,h3]
end
section
variable [bt] {P:Program} {n:Nat} {env:aG} {w:World} {o:Oper} {K:aG→World→Prop} {H:bR}
end
section
variable [bt] {P:Program} {n:Nat} {env:aG} {w:World} {o:Oper} {K:aG→World→Prop} {H:bR}
end
end Go.Proofs.YtmpeiadlohbikaaGreatDoor
end

/- From a walk to the given card of a law whose row lists package-level variables. -/
import Derived.Test.YtiliglahlfkikaaGreatDoorYa21
import Derived.Test.YtiliglahlfkikaaGreatDoorYa14
import Derived.Test.YtiliglahlfkikaaGreatDoorYa3
import Derived.Test.YtiliglahlfkikaaGreatDoorYa20
import Derived.Test.YtiliglahlfkikaaGreatDoorYa1
import Derived.Test.YtiliglahlfkikaaGreatDoorRows
import Derived.ProofKit
import Derived.OpenShut
import Derived.Carry
import Derived.Lib.SmallJoins
import Derived.Test.YtiliglahlfkikaaGreatDoorYa2
import Derived.Test.YtiliglahlfkikaaGreatDoorYa12
import Derived.Test.YtiliglahlfkikaaGreatDoorYa4
import Derived.Test.YtiliglahlfkikaaGreatDoorCards
import Derived.Test.YtiliglahlfkikaaGreatDoorTie
import Derived.HandedShaped
import Derived.Lay
import Derived.MakeChecks
import Derived.LaidMore
import Derived.SevenTiedAt
section
set_option linter.unusedVariables false
set_option linter.unusedSimpArgs false
set_option maxRecDepth 20000
set_option maxHeartbeats 4000000
namespace Go.Proofs.YtiliglahlfkikaaGreatDoor.V
open Go.RowKit
theorem A4(x y:List UInt8):m6 x y=if x<y then -1 else if y<x then 1 else 0:=by unfold m6 lH;simp
def pP(p:List UInt8×bl):aM:=aM.mk p.1 p.2.val
def eY(m:List (List UInt8×bl))(l:List aM)(left:List (List UInt8×bl)):Prop:=aR m∧(l++left.map pP).Perm (m.map pP)
theorem rm{m:List (List UInt8×bl)}(h:aR m):eY m [] m:=⟨h,by simp⟩
theorem sW{m:List (List UInt8×bl)}{l:List aM}{left a b:List (List UInt8×bl)}{p:List UInt8×bl}(h:eY m l left)(e:left=a++p::b):eY m (l++ [aM.mk p.1 p.2.val]) (a++b):=by
 refine⟨h.1,List.Perm.trans ?_ h.2⟩;subst e;simp only[List.map_append,List.map_cons,List.append_assoc,List.singleton_append];exact List.Perm.append_left _ (List.perm_middle (a:=pP p)).symm
theorem nm{m:List (List UInt8×bl)}{l:List aM}{left:List (List UInt8×bl)}(h:eY m l left)(e:left= []):l.Perm (m.map pP):=by
 subst e;have:=h.2;simpa using this
theorem oJ{m:List (List UInt8×bl)}{l:List aM}{left:List (List UInt8×bl)}(h:eY m l left):l.length≤m.length:=by
 have:=h.2.length_eq;simp at this;omega
theorem vD{α β:Type}{f:α→β}{l:List α}(h:(l.map f).Nodup){a b:α}(ha:a∈l)(hb:b∈l)(e:f a=f b):a=b:=by
 induction l with
 |nil=>cases ha
 |cons x l ih=>
  rw[List.map_cons,List.nodup_cons]at h;rcases List.mem_cons.1 ha with e1|ha'
  ·rcases List.mem_cons.1 hb with e2|hb'
   ·rw[e1,e2]
   ·exact absurd (List.mem_map.2 ⟨b,hb',by rw[←e,e1]⟩) h.1
  ·rcases List.mem_cons.1 hb with e2|hb'
   ·exact absurd (List.mem_map.2 ⟨a,ha',by rw[e,e2]⟩) h.1
   ·exact ih h.2 ha' hb'
open Go.Shelf Go.Lib Go.Sort
theorem jy(a b:aM):ltOf ck a b=decide (a.field<b.field):=by
 unfold ltOf ck;rw[A4,decide_eq_decide];split
 ·simp[*]
 ·rename_i h;split<;>simp[h]
theorem rn{l:List aM}(h:(l.map (·.field)).Nodup):gC l ck:=by
 refine⟨⟨fun x=>?_,fun x y z h1 h2=>?_,fun x y z h1 h2=>?_⟩,fun x hx y hy h1 h2=>?_⟩
 ·rw[jy];simp[List.lt_irrefl]
 ·rw[jy,decide_eq_true_iff]at*;exact List.lt_trans h1 h2
 ·rw[jy,decide_eq_false_iff_not,List.not_lt]at*;exact List.le_trans h2 h1
 ·rw[jy,decide_eq_false_iff_not,List.not_lt]at h1 h2;exact vD h hx hy (List.le_antisymm h2 h1)
theorem kR{m:List (List UInt8×bl)}(h:aR m):gC (m.map pP) ck:=rn (by rw[List.map_map];exact h)
theorem xT{m:List (List UInt8×bl)}{l:List aM}{left:List (List UInt8×bl)}(h:eY m l left)(e:left= []):gC l ck:=(kR h.1).perm (nm h e)
theorem pQ{m:List (List UInt8×bl)}{l:List aM}{left:List (List UInt8×bl)}(h:eY m l left)(e:left= []):be (fun(t t1:aM)=>ck t t1) l=be (fun(t t1:aM)=>ck t t1) (m.map pP):=jW (kR h.1) (nm h e)
def fq(s:bc):Nat→Int→(List (List UInt8×bl))→(List aM)⊕(Int×(List (List UInt8×bl)))
 |0,s18,s3=> .inr (s18,s3)
 |n1+1,s18,s3=>
  if s18<(s.puts.length:Int)then
   if(¬((cF s3 (ix s.puts s18).field).isSome=true))∨(na ((cF s3 (ix s.puts s18).field).getD rZ.zero) (ix s.puts s18)<0)then
    fq s n1 (s18+1) (dW s3 (ix s.puts s18).field (ix s.puts s18))
   else
    fq s n1 (s18+1) s3
  else
   .inr (s18,s3)
def jg(s:bc):List aM:=
 if dL s=0 then
  match fq s (((s.puts.length:Int)- 0).toNat+1) 0 ([]:List (List UInt8×bl))with
  | .inl r=>r
  | .inr (s18,s3)=>
   be (fun(t t1:aM)=>ck t t1) (List.map pP s3)
 else
  []
def OD:aZ U:=⟨[.d (.st 9)],fun xs es K=> ∃(s:bc),xs= [(uV s)]∧es= []∧(s.puts.length≤1000000)∧(s.gone.length≤1000000)∧((fun(r0:List aM)=>r0.length≤1000000) (jg s)→K (.v (r8 (jg s))) [])⟩
theorem OE:Fk 66 OD:=by
 refine fo Tryz.f66 [.d (.sl (.st 12))] [] (aa AU (aa KI (aa LF (aa KM aj)))) fun xs es K=>?_;rintro⟨s,rfl,rfl,h1,h2,h⟩;refine⟨rfl,?_⟩;have hf0:=jg.eq_1 s;refine⟨_,rfl,rfl,(by omega),(by omega),?_⟩;refine fun _=>?_;refine vN hf0 iD (fun h1 hf0=>?_) (fun h1 hf0=>?_)
 ·rw[hf0]at h;exact h (show((fun(r0:List aM)=>r0.length≤1000000) []:Prop)from by simp)
 ·refine fun h2=>?_;have h2:(↑s.puts.length:Int)≤(9223372036854775807:Int):=h2.2;refine⟨Int×(List (List UInt8×bl)),2,fun(s18,s3)=> [(2,.v ⟨false,[(1,.nils)]⟩),(3,.v ⟨false,[(1,.mp 1)]⟩),(16,.v ⟨false,[(1,.d (.sl (.st 4)) s.puts)]⟩),(17,.v ⟨false,[(1,.d (.int .i64) (↑s.puts.length:Int))]⟩),(18,.v ⟨false,[(1,.d (.int .i64) s18)]⟩)],fun(s18,s3)=> [(1,.map rZ s3)],de (fun(s18,s3)=>((↑s.puts.length:Int)- s18).toNat) (fun(s18,s3)=>((0:Int)≤s18)∧(s18≤(↑s.puts.length:Int))∧((s3.length:Int)≤s18)∧(aR s3)∧((s3.length:Int)≤s18)∧True) (fun n1 (s18,s3)=>fq s n1 s18 s3) (fq s (((↑s.puts.length:Int)-(0:Int)).toNat+1) (0:Int) ([]:List (List UInt8×bl))),fun(s18,s3)=>((↑s.puts.length:Int)- s18).toNat,⟨[],((0:Int),([]:List (List UInt8×bl))),de.mk0 _ (Nat.lt_succ_self _) ⟨show(0:Int)≤(0:Int)from by omega,show(0:Int)≤(↑s.puts.length:Int)from by omega,show(↑[].length:Int)≤(0:Int)from by(simp only[List.length_append,List.length_cons,List.length_nil];omega),show aR []from List.nodup_nil,show(↑[].length:Int)≤(0:Int)from by(simp only[List.length_append,List.length_cons,List.length_nil];omega),trivial⟩ rfl,?_⟩,?_⟩
  ·repeat (first|exact trivial|refine And.intro rfl ?_)
  ·rintro⟨s18,s3⟩ ⟨n1,hc1,⟨hi1_0,hi1_1,hi1_2,hi1_3,hi1_4,-⟩,hf1⟩;have hf1:=hf1.trans (fq.eq_2 s s18 s3 n1);refine vI hf1 iD (fun _ hf1=>?_) (fun _ hf1=>?_)
   ·refine And.intro (show(0:Int)≤s18∧s18<(↑s.puts.length:Int)from by omega) ?_;refine⟨_,fun _=>⟨_,_,rfl,rfl,rfl,rfl⟩,rfl,?_⟩;refine vI hf1 (iO (iN iB) iD) (fun _ hf1=>?_) (fun _ hf1=>?_)
    ·refine .inl (And.intro (v6 (p:=s18) (q:=(1:Int)) (r:=s18+(1:Int)) (by omega)) ?_);have hm1:((↑s.puts.length:Int)-(s18+(1:Int))).toNat<((↑s.puts.length:Int)- s18).toNat:=by omega
     refine⟨[],(s18+(1:Int),dW s3 (ix s.puts s18).field (ix s.puts s18)),hm1,de.next (s:=(s18,s3)) hc1 hm1 ⟨show(0:Int)≤s18+(1:Int)from by omega,show s18+(1:Int)≤(↑s.puts.length:Int)from by omega,show(↑(dW s3 (ix s.puts s18).field (ix s.puts s18)).length:Int)≤s18+(1:Int)from by(have hm:=b9 s3 (ix s.puts s18).field (ix s.puts s18);omega),show aR (dW s3 (ix s.puts s18).field (ix s.puts s18))from gp (by assumption) _ _,show(↑(dW s3 (ix s.puts s18).field (ix s.puts s18)).length:Int)≤s18+(1:Int)from by(have hm:=b9 s3 (ix s.puts s18).field (ix s.puts s18);omega),trivial⟩ hf1,?_⟩;repeat (first|exact trivial|refine And.intro rfl ?_)
    ·refine .inl (And.intro (v6 (p:=s18) (q:=(1:Int)) (r:=s18+(1:Int)) (by omega)) ?_);have hm1:((↑s.puts.length:Int)-(s18+(1:Int))).toNat<((↑s.puts.length:Int)- s18).toNat:=by omega
     refine⟨[],(s18+(1:Int),s3),hm1,de.next (s:=(s18,s3)) hc1 hm1 ⟨show(0:Int)≤s18+(1:Int)from by omega,show s18+(1:Int)≤(↑s.puts.length:Int)from by omega,show(↑s3.length:Int)≤s18+(1:Int)from by omega,show aR s3 from by omega,show(↑s3.length:Int)≤s18+(1:Int)from by omega,trivial⟩ hf1,?_⟩;repeat (first|exact trivial|refine And.intro rfl ?_)
   ·rw[hf1]at hf0;refine fun b6=>?_;refine⟨(List (List UInt8×bl))×(List (List UInt8×bl))×Gh×(List aM),4,fun(e1l,e1c,e1g,s8)=> [(2,.v ⟨false,[(1,.nils)]⟩),(8,.v ⟨false,[(1,.own 3 0)]⟩),(43,.v ⟨false,[(1,.ptr 2 0)]⟩)],fun(e1l,e1c,e1g,s8)=> [(1,.mapr rZ s3 e1l e1c e1g),(2,.it 1 e1g),(3,.row 0 (.st 12) s8 134)],fun(e1l,e1c,e1g,s8)=>(eY s3 s8 e1l)∧True,fun(e1l,e1c,e1g,s8)=>e1l.length,⟨[],(s3,([]:List (List UInt8×bl)),b6,([]:List aM)),⟨show eY s3 [] s3 from rm (by assumption),trivial⟩,?_⟩,?_⟩
    ·repeat (first|exact trivial|refine And.intro rfl ?_)
    ·rintro⟨e1l,e1c,e1g,s8⟩ ⟨hi2_0,-⟩;refine And.intro (show e1g=e1g from by simp) ?_;refine And.intro (fun _=>?_) (fun(a8:List (List UInt8×bl)) (p9:List UInt8×bl) (b10:List (List UInt8×bl)) (h11:e1l=a8++p9::b10)=>?_)
     ·refine vF iB (by simp) ?_;refine⟨fun(t t':aM)=>ck t t',fun t0 t1=>⟨_,_,rfl,rfl,rfl,rfl⟩,?_⟩;refine⟨_,_,rfl,rfl,(xT (by assumption) (by assumption)),(show s8.length<(4611686018427387904:Nat)from by(have hl:=oJ (show eY s3 s8 e1l from by assumption);omega)),?_⟩;have er0:(be (fun(t t':aM)=>ck t t') s8:List aM)=be (fun(t t1:aM)=>ck t t1) (List.map pP s3):=pQ (by assumption) (by assumption);rw[hf0]at h;replace h:=h (show((fun(r0:List aM)=>r0.length≤1000000) (be (fun(t t1:aM)=>ck t t1) (List.map pP s3)):Prop)from by(dsimp only;rw[db,List.length_map];omega));dsimp only at h;rw[←er0]at h;exact h
     ·refine fun b12=>?_;refine vT iB rfl ?_;refine And.intro (show b12=b12 from by simp) ?_;refine And.intro (show(s8.length+ [aM.mk p9.fst p9.snd.val].length)*(24:Nat)≤(140737488355328:Nat)from by(have hl:=oJ (show eY s3 s8 e1l from by assumption);simp only[List.length_append,List.length_cons,List.length_nil];omega)) ?_;have hm2:(a8++b10).length<e1l.length:=nk (by assumption);refine⟨[],(a8++b10,[p9],b12,s8++ [aM.mk p9.fst p9.snd.val]),hm2,⟨show eY s3 (s8++ [aM.mk p9.fst p9.snd.val]) (a8++b10)from sW (by assumption) (by assumption),trivial⟩,?_⟩;repeat (first|exact trivial|refine And.intro rfl ?_)
theorem nq(s:aX):(bt s).length≤s.adds.length:=by
 have key: ∀(n:Nat) (i:Int) (t:List (List UInt8)),0≤i→(t.length:Int)≤i→i≤s.adds.length→ ∃j u,ew s n i t= .inr (j,u)∧u.length≤s.adds.length:=fun n=>by
  induction n with
  |zero=>intro i t h0 h1 h2;exact⟨i,t,rfl,by omega⟩
  |succ n ih=>
   intro i t h0 h1 h2;rw[ew];split
   ·exact ih _ _ (by omega) (by simp;omega) (by omega)
   ·exact⟨i,t,rfl,by omega⟩
 obtain⟨j,u,h,hu⟩:=key (((s.adds.length:Int)- 0).toNat+1) 0 [] (by omega) (by simp) (by omega);unfold bt;split
 ·rw[h];exact Nat.le_trans (EU _) (by rw[fu];exact hu)
 ·simp
def jh(s:aA):Nat→Int→(List aM)→bI⊕(Int×(List aM))
 |0,s30,e3=> .inr (s30,e3)
 |n1+1,s30,e3=>
  if s30<((bt s.set).length:Int)then
   jh s n1 (s30+1) (e3++ [aM.mk (ix (bt s.set) s30) 0])
  else
   .inr (s30,e3)
def kT(s:aA):bI:=
 if s.kind=1 then
  bI.mk s.kind s.reg.val []
 else
  if s.kind=2 then
   bI.mk s.kind (kM s.num) []
  else
   if s.kind=3 then
    match jh s ((((bt s.set).length:Int)- 0).toNat+1) 0 ([]:List aM)with
    | .inl r=>r
    | .inr (s30,e3)=>
     bI.mk s.kind 0 e3
   else
    if s.kind=4 then
     bI.mk s.kind 0 (jg s.map)
    else
     bI.mk 0 0 []
def OF:aZ U:=⟨[.d (.st 10)],fun xs es K=> ∃(s:aA),xs= [(jG s)]∧es= []∧(s.set.adds.length≤900000)∧(s.set.gone.length≤900000)∧(s.map.puts.length≤900000)∧(s.map.gone.length≤900000)∧((fun(r0:bI)=>r0.items.length≤1000000) (kT s)→K (.v (zk (kT s))) [])⟩
theorem K6:Fk 30 OF:=by
 refine fo Tryz.f30 [.d (.st 13)] [] (aa Nz (aa NU (aa OE aj))) fun xs es K=>?_;rintro⟨s,rfl,rfl,h1,h2,h3,h4,h⟩;refine⟨rfl,?_⟩;have hf0:=kT.eq_1 s;refine vI hf0 iD (fun _ hf0=>?_) (fun _ hf0=>?_)
 ·rw[hf0]at h;exact h (show((fun(r0:bI)=>r0.items.length≤1000000) (bI.mk s.kind s.reg.val []):Prop)from by simp)
 ·refine vI hf0 iD (fun h1 hf0=>?_) (fun h1 hf0=>?_)
  ·refine⟨_,rfl,rfl,?_⟩;rw[hf0]at h;exact h (show((fun(r0:bI)=>r0.items.length≤1000000) (bI.mk s.kind (kM s.num) []):Prop)from by simp)
  ·refine vI hf0 iD (fun h2 hf0=>?_) (fun h2 hf0=>?_)
   ·refine⟨_,rfl,rfl,(by omega),(by omega),?_⟩;refine fun h3=>?_;have h3:(↑(bt s.set).length:Int)≤(9223372036854775807:Int):=h3.2;refine⟨Int×(List aM),4,fun(s30,e3)=> [(2,.v ⟨false,[(1,.ptr 1 0)]⟩),(3,.v ⟨false,[(1,.ptr 2 0)]⟩),(28,.v ⟨false,[(1,.d (.sl .str) (bt s.set))]⟩),(29,.v ⟨false,[(1,.d (.int .i64) (↑(bt s.set).length:Int))]⟩),(30,.v ⟨false,[(1,.d (.int .i64) s30)]⟩)],fun(s30,e3)=> [(1,.cells [(1,.d (.int .i64) (0:Int)),(1,.d (.int .i64) (0:Int)),(1,.nils)] 100),(2,.cells [(1,.d (.int .i64) s.kind),(1,.d (.int .i64) (0:Int)),(1,.own 3 0)] 100),(3,.row 0 (.st 12) e3 134)],de (fun(s30,e3)=>((↑(bt s.set).length:Int)- s30).toNat) (fun(s30,e3)=>((0:Int)≤s30)∧(s30≤(↑(bt s.set).length:Int))∧((e3.length:Int)≤s30)∧True) (fun n1 (s30,e3)=>jh s n1 s30 e3) (jh s (((↑(bt s.set).length:Int)-(0:Int)).toNat+1) (0:Int) ([]:List aM)),fun(s30,e3)=>((↑(bt s.set).length:Int)- s30).toNat,⟨[],((0:Int),([]:List aM)),de.mk0 _ (Nat.lt_succ_self _) ⟨show(0:Int)≤(0:Int)from by omega,show(0:Int)≤(↑(bt s.set).length:Int)from by omega,show(↑[].length:Int)≤(0:Int)from by(simp only[List.length_append,List.length_cons,List.length_nil];omega),trivial⟩ rfl,?_⟩,?_⟩
    ·repeat (first|exact trivial|refine And.intro rfl ?_)
    ·rintro⟨s30,e3⟩ ⟨n1,hc1,⟨hi1_0,hi1_1,hi1_2,-⟩,hf1⟩;have hf1:=hf1.trans (jh.eq_2 s s30 e3 n1);refine vI hf1 iD (fun h4 hf1=>?_) (fun h4 hf1=>?_)
     ·refine And.intro (show(0:Int)≤s30∧s30<(↑(bt s.set).length:Int)from by omega) ?_;refine And.intro (show(e3.length+ [aM.mk (ix (bt s.set) s30) (0:Int)].length)*(24:Nat)≤(140737488355328:Nat)from by(have hl:=nq s.set;simp only[List.length_append,List.length_cons,List.length_nil];omega)) ?_;refine .inl (And.intro (v6 (p:=s30) (q:=(1:Int)) (r:=s30+(1:Int)) (by omega)) ?_);have hm1:((↑(bt s.set).length:Int)-(s30+(1:Int))).toNat<((↑(bt s.set).length:Int)- s30).toNat:=by omega
      refine⟨[],(s30+(1:Int),e3++ [aM.mk (ix (bt s.set) s30) (0:Int)]),hm1,de.next (s:=(s30,e3)) hc1 hm1 ⟨show(0:Int)≤s30+(1:Int)from by omega,show s30+(1:Int)≤(↑(bt s.set).length:Int)from by omega,show(↑(e3++ [aM.mk (ix (bt s.set) s30) (0:Int)]).length:Int)≤s30+(1:Int)from by(simp only[List.length_append,List.length_cons,List.length_nil];omega),trivial⟩ hf1,?_⟩;repeat (first|exact trivial|refine And.intro rfl ?_)
     ·rw[hf1]at hf0;rw[hf0]at h;exact h (show((fun(r0:bI)=>r0.items.length≤1000000) (bI.mk s.kind (0:Int) e3):Prop)from by(have hl:=nq s.set;simp only[List.length_append,List.length_cons,List.length_nil];omega))
   ·refine vI hf0 iD (fun _ hf0=>?_) (fun _ hf0=>?_)
    ·refine⟨_,rfl,rfl,(by omega),(by omega),?_⟩;refine fun _=>?_;rw[hf0]at h;exact h (show((fun(r0:bI)=>r0.items.length≤1000000) (bI.mk s.kind (0:Int) (jg s.map)):Prop)from by omega)
    ·rw[hf0]at h;exact h (show((fun(r0:bI)=>r0.items.length≤1000000) (bI.mk (0:Int) (0:Int) []):Prop)from by simp)
end Go.Proofs.YtiliglahlfkikaaGreatDoor.V
end

section
set_option linter.unusedVariables false
set_option linter.unusedSimpArgs false
set_option maxRecDepth 20000
set_option maxHeartbeats 4000000
namespace Go.Proofs.YtiliglahlfkikaaGreatDoor.V
open Go.RowKit
def gV:Bool:=
 match iq [(97:UInt8),(47:UInt8),(99:UInt8)]with
 | .inl r0=>
  false
 | .inr (r3,r4,r5,r6,r7)=>
  if(¬r3=0)∨(false=true)then
   false
  else
   match br r4 r5 r6 r7 (ab.mk 2 [] 5 (ae.mk (fm.mk 1 1) 0) (az.mk 0 0) [])with
   |(r11,r12,r13,r14)=>
    match br r12 r5 r13 r14 (ab.mk 2 [] 7 (ae.mk (fm.mk 2 1) 0) (az.mk 0 0) [])with
    |(r17,r18,r19,r20)=>
     match br r18 r5 r19 r20 (ab.mk 2 [] 5 (ae.mk (fm.mk 1 1) 0) (az.mk 0 0) [])with
     |(r23,r24,r25,r26)=>
      match bu r24 r5 r25 r26 [0,1,0,0,0,0,0,0] []with
      |(r29,r30)=>
       match bu r24 r5 r25 r26 [0,1,1,0,0,0,0,0] [ab.mk 2 [] 1 (ae.mk (fm.mk 3 1) 0) (az.mk 0 0) []]with
       |(r33,r34)=>
        match dm r24 r5 r25 r26 [0,1,0,0,0,0,0,0]with
        |(r37,r38,r39,r40)=>
         match bu r38 r39 r40 r26 [0,0,0,0,0,0,0,0] []with
         |(r43,r44)=>
          decide (r11=0)&&decide (r17=0)&&decide (r23=11)&&decide (r30=0)&&decide ((kT r29).val=5)&&decide (r34=0)&&decide ((kT r33).val=13)&&decide (r37=0)&&decide (sT r38 r39 r40 r26=1)&&decide (r44=17)&&sU r38 r39 r40 r26 (ae.mk (fm.mk 1 1) 0)&&decide (r39= [0,1,0,0,0,0,0,0])
def OG:aZ U:=⟨[],fun xs es K=>xs= []∧es= []∧K (.v (vb gV)) []⟩
theorem K7:Fk 24 OG:=by
 refine fo Tryz.f24 [.d .bool] [] (aa k6 (aa MM (aa G1 (aa K5 (aa AY (aa AZ (aa KX (aa K6 aj)))))))) fun xs es K=>?_;rintro⟨rfl,rfl,h⟩;refine⟨rfl,?_⟩;have hf0:=gV.eq_1;refine⟨_,rfl,rfl,(by(simp only[List.length_append,List.length_cons,List.length_nil];omega)),?_⟩;refine And.intro (fun r0 h1=>?_) (fun r3 r4 r5 r6 r7 h8=>?_)
 ·rw[h1]at hf0;refine fun _=>?_;refine vT (iO iD (iN iB)) (show(¬r0=(0:Int))∨(¬(false=true))from by omega) ?_;exact e0
 ·rw[h8]at hf0;refine fun _=>?_;refine wI hf0 (fun _ hf0=>e0) fun _ hf0=>?_;refine dp [(true,0),(true,1),(true,3),(true,4),(true,6),(true,7),(false,2),(false,5),(false,8),(true,9),(true,10),(true,11)] none (0::1::2::nw 5) ?_;refine⟨_,_,_,_,_,rfl,rfl,(by omega),(by omega),(by omega),(by omega),(by omega),(by omega),((show _∧_∧_∧_∧_∧_∧aR _ from by assumption).2.2.2.2.2.2),?_⟩;refine fun r11 r12 r13 r14 h15=>?_;rw[show br r4 r5 r6 r7 (ab.mk (2:Int) [] (5:Int) (ae.mk (fm.mk (1:Int) (1:Int)) (0:Int)) (az.mk (0:Int) (0:Int)) [])=(r11,r12,r13,r14)from h15]at hf0;dsimp only at hf0;refine fun _=>?_;refine⟨_,_,_,_,_,rfl,rfl,(by omega),(by omega),(by omega),(by omega),(by omega),(by omega),((show _∧_∧_∧_∧_∧_∧aR _ from by assumption).2.2.2.2.2.2),?_⟩;refine fun r17 r18 r19 r20 h21=>?_;rw[show br r12 r5 r13 r14 (ab.mk (2:Int) [] (7:Int) (ae.mk (fm.mk (2:Int) (1:Int)) (0:Int)) (az.mk (0:Int) (0:Int)) [])=(r17,r18,r19,r20)from h21]at hf0;dsimp only at hf0;refine fun _=>?_;refine⟨_,_,_,_,_,rfl,rfl,(by omega),(by omega),(by omega),(by omega),(by omega),(by omega),((show _∧_∧_∧_∧_∧_∧aR _ from by assumption).2.2.2.2.2.2),?_⟩;refine fun r23 r24 r25 r26 h27=>?_;rw[show br r18 r5 r19 r20 (ab.mk (2:Int) [] (5:Int) (ae.mk (fm.mk (1:Int) (1:Int)) (0:Int)) (az.mk (0:Int) (0:Int)) [])=(r23,r24,r25,r26)from h27]at hf0;dsimp only at hf0;refine fun _=>?_;refine⟨_,_,_,_,_,_,rfl,rfl,(by omega),(by omega),(by omega),(by omega),(by omega),(by omega),(show(0:Nat)≤(100000:Nat)from by omega),?_⟩;refine fun r29 r30 h31=>?_;rw[show bu r24 r5 r25 r26 [(0:Int),(1:Int),(0:Int),(0:Int),(0:Int),(0:Int),(0:Int),(0:Int)] []=(r29,r30)from h31]at hf0;dsimp only at hf0;refine fun _=>?_;refine⟨_,_,_,_,_,_,rfl,rfl,(by omega),(by omega),(by omega),(by omega),(by omega),(by omega),(show [ab.mk (2:Int) [] (1:Int) (ae.mk (fm.mk (3:Int) (1:Int)) (0:Int)) (az.mk (0:Int) (0:Int)) []].length≤(100000:Nat)from by(simp only[List.length_append,List.length_cons,List.length_nil];omega)),?_⟩;refine fun r33 r34 h35=>?_;rw[show bu r24 r5 r25 r26 [(0:Int),(1:Int),(1:Int),(0:Int),(0:Int),(0:Int),(0:Int),(0:Int)] [ab.mk (2:Int) [] (1:Int) (ae.mk (fm.mk (3:Int) (1:Int)) (0:Int)) (az.mk (0:Int) (0:Int)) []]=(r33,r34)from h35]at hf0;dsimp only at hf0;refine fun _=>?_;refine⟨_,_,_,_,_,rfl,rfl,(by omega),(by omega),(by omega),(by omega),(by omega),(by omega),((show _∧_∧_∧_∧_∧_∧aR _ from by assumption).2.2.2.2.2.2),?_⟩;refine fun r37 r38 r39 r40 h41=>?_;rw[show dm r24 r5 r25 r26 [(0:Int),(1:Int),(0:Int),(0:Int),(0:Int),(0:Int),(0:Int),(0:Int)]=(r37,r38,r39,r40)from h41]at hf0;dsimp only at hf0;refine fun _=>?_;refine⟨_,_,_,_,_,_,rfl,rfl,(by omega),(by omega),(by omega),(by omega),(by omega),(by omega),(show(0:Nat)≤(100000:Nat)from by omega),?_⟩;refine fun r43 r44 h45=>?_;rw[show bu r38 r39 r40 r26 [(0:Int),(0:Int),(0:Int),(0:Int),(0:Int),(0:Int),(0:Int),(0:Int)] []=(r43,r44)from h45]at hf0;dsimp only at hf0;refine fun _=>?_;refine⟨_,fun _=>⟨_,rfl,rfl,(by omega),(by omega),(by omega),(by omega),fun _=>⟨rfl,rfl⟩⟩,rfl,?_⟩;refine⟨_,fun _=>⟨_,rfl,rfl,(by omega),(by omega),(by omega),(by omega),fun _=>⟨rfl,rfl⟩⟩,rfl,?_⟩;refine⟨_,fun _=>⟨_,_,_,_,rfl,rfl,(by omega),rfl,rfl,rfl⟩,?_⟩;refine⟨_,fun _=>⟨_,_,_,_,_,rfl,rfl,rfl,rfl,rfl⟩,?_⟩;refine⟨_,fun _=>⟨_,_,_,_,rfl,rfl,rfl,rfl,rfl⟩,?_⟩;exact e0
theorem rq{s:aA}{e:ab}(h: ¬dV s e=true):e.tags.length≤100:=by
 unfold dV at h;simp at h;omega
end Go.Proofs.YtiliglahlfkikaaGreatDoor.V
end

section
set_option linter.unusedVariables false
set_option linter.unusedSimpArgs false
namespace Go.Proofs.YtiliglahlfkikaaGreatDoor.V
open Go.RowKit
theorem yd{k:Int}(h:(dO k).2=0):1≤k∧k≤4:=by
 unfold dO at h;split at h
 ·cases h
 ·omega
theorem vJ(key:List UInt8):(∃r,iq key= .inl r)∨ ∃c s,iq key= .inr (c,s,z8,[],[])∧(c=0→ ∃k,1≤k∧k≤4∧s=zO k):=by
 unfold iq;split
 ·refine .inr ⟨_,_,rfl,fun h=>?_⟩;have hk:=yd h;exact⟨_,hk.1,hk.2,by rw[EX hk.1 hk.2]⟩
 ·exact .inl ⟨_,rfl⟩
def w1:ab:=ab.mk 2 [] 5 (ae.mk (fm.mk 1 1) 0) (az.mk 0 0) []
def w2:ab:=ab.mk 2 [] 7 (ae.mk (fm.mk 2 1) 0) (az.mk 0 0) []
def w3:ab:=ab.mk 2 [] 1 (ae.mk (fm.mk 3 1) 0) (az.mk 0 0) []
theorem G5:iq [97,47,99]= .inr (0,zO 2,z8,[],[]):=by kernel_rfl
theorem EZ:br (zO 2) z8 [] [] w1=(0,zO 2,iu [w1],iv [w1]):=by decide+kernel
theorem E0:br (zO 2) z8 (iu [w1]) (iv [w1]) w2=(0,zO 2,iu [w1,w2],iv [w1,w2]):=by decide+kernel
theorem E1:br (zO 2) z8 (iu [w1,w2]) (iv [w1,w2]) w1=(11,zO 2,iu [w1,w2],iv [w1,w2]):=by decide+kernel
theorem G6(s:aA)(b v:List Int):ay s b (iu [w1,w2]) (iv [w1,w2]) v=(if cQ v w1.tag.id=true then [w1]else [])++(if cQ v w2.tag.id=true then [w2]else []):=by
 have hK:be (fun(t t':ae)=>af t t') (List.map (fun(x:ae×ab)=>x.fst) (iu [w1,w2]))= [w1.tag,w2.tag]:=te (l:= [w1.tag,w2.tag]) (by unfold dM;decide);unfold ay;rw[hK];show(match cl s b (iu [w1,w2]) (iv [w1,w2]) v 3 0 []with
  | .inl r=>r
  | .inr (_,r)=>r)=_
 simp only[cl,hK];have e1:ix [w1.tag,w2.tag] 0=w1.tag:=rfl;have e2:ix [w1.tag,w2.tag] 1=w2.tag:=rfl;have g1:(cF (iu [w1,w2]) w1.tag).getD bn.zero=w1:=by decide+kernel
 have g2:(cF (iu [w1,w2]) w2.tag).getD bn.zero=w2:=by decide+kernel
 by_cases q1:cQ v w1.tag.id=true<;>by_cases q2:cQ v w2.tag.id=true<;>simp[e1,e2,g1,g2,q1,q2]
theorem CM:bu (zO 2) z8 (iu [w1,w2]) (iv [w1,w2]) [0,1,0,0,0,0,0,0] []=rA (zO 2) [w1]:=by
 rw[p4,G6,if_pos (by decide+kernel),if_pos (by decide+kernel),if_pos (by decide+kernel),if_neg (by decide+kernel)];rfl
theorem G7:bu (zO 2) z8 (iu [w1,w2]) (iv [w1,w2]) [0,1,1,0,0,0,0,0] [w3]=rA (zO 2) [w1,w2,w3]:=by
 rw[p4,G6,if_pos (by decide+kernel),if_pos (by decide+kernel),if_pos (by decide+kernel),if_pos (by decide+kernel)];rfl
theorem E2:dm (zO 2) z8 (iu [w1,w2]) (iv [w1,w2]) [0,1,0,0,0,0,0,0]=(0,(rA (zO 2) [w1]).1,[0,1,0,0,0,0,0,0],iu [w2]):=by
 unfold dm;rw[CM];decide+kernel
theorem G8(ap:List (ae×ab)):bu (rA (zO 2) [w1]).1 [0,1,0,0,0,0,0,0] ap (iv [w1,w2]) [0,0,0,0,0,0,0,0] []=(Bg,17):=by
 rw[p4,if_pos (by decide+kernel),if_neg (by decide+kernel)]
theorem td:gV=true:=by
 unfold gV;rw[G5];show(if(¬(0:Int)=0)∨(false=true)then false else _)=true
 rw[if_neg (by decide)];rw[show ab.mk 2 [] 5 (ae.mk (fm.mk 1 1) 0) (az.mk 0 0) []=w1 from rfl,show ab.mk 2 [] 7 (ae.mk (fm.mk 2 1) 0) (az.mk 0 0) []=w2 from rfl,show ab.mk 2 [] 1 (ae.mk (fm.mk 3 1) 0) (az.mk 0 0) []=w3 from rfl,EZ];dsimp only;rw[E0];dsimp only;rw[E1];dsimp only;rw[CM,G7,E2];dsimp only;rw[G8];decide+kernel
end Go.Proofs.YtiliglahlfkikaaGreatDoor.V
end

section
set_option linter.unusedVariables false
set_option linter.unusedSimpArgs false
set_option maxRecDepth 20000
set_option maxHeartbeats 4000000
namespace Go.Proofs.YtiliglahlfkikaaGreatDoor.V
open Go.RowKit
def cR(v:List Int)(r12:List Int)(s7_0:aA)(e2:List (ae×ab))(e3:List (ae×Bool))(s11:List ab):Nat→Int→aA→(List (ae×ab))→(List (ae×Bool))→Bool⊕(Int×aA×(List (ae×ab))×(List (ae×Bool)))
 |0,s14,s9_0,e5,e6=> .inr (s14,s9_0,e5,e6)
 |n2+1,s14,s9_0,e5,e6=>
  if 0≤s14 then
   match br s9_0 r12 e5 e6 (ix s11 s14)with
   |(r37,r38,r39,r40)=>
    if r37=0 then
     cR v r12 s7_0 e2 e3 s11 n2 (s14 - 1) r38 r39 r40
    else
     .inl false
  else
   .inr (s14,s9_0,e5,e6)
def bW(l:List ab)(v:List Int)(r11:aA)(r12:List Int)(r13:List (ae×ab))(r14:List (ae×Bool)):Nat→Int→aA→(List (ae×ab))→(List (ae×Bool))→(List ab)→Bool⊕(Int×aA×(List (ae×ab))×(List (ae×Bool))×(List ab))
 |0,s12,s7_0,e2,e3,s11=> .inr (s12,s7_0,e2,e3,s11)
 |n1+1,s12,s7_0,e2,e3,s11=>
  if(s12<(l.length:Int))∧(s12<40)then
   if dV (aA.mk 0 (bK.mk 0 (az.mk 0 0)) (cg.mk 0 0) (aX.mk [] []) (bc.mk [] [])) (ix l s12)=true then
    .inl true
   else
    match br s7_0 r12 e2 e3 (cX (ix l s12))with
    |(r28,r29,r30,r31)=>
     if r28=0 then
      bW l v r11 r12 r13 r14 n1 (s12+1) r29 r30 r31 (s11++ [cX (ix l s12)])
     else
      bW l v r11 r12 r13 r14 n1 (s12+1) r29 r30 r31 s11
  else
   .inr (s12,s7_0,e2,e3,s11)
def fh(key:List UInt8)(l:List ab)(v:List Int):Bool:=
 if gV=true then
  if 1000<(key.length:Int)then
   true
  else
   match iq key with
   | .inl r3=>
    decide (r3=r3)
   | .inr (r10,r11,r12,r13,r14)=>
    if(¬r10=0)∨(¬r10=0)then
     decide (r10=r10)
    else
     match bW l v r11 r12 r13 r14 (((40:Int)-(0:Int)).toNat+1) (0:Int) r11 r13 r14 ([]:List ab)with
     | .inl r=>r
     | .inr (s12,s7_0,e2,e3,s11)=>
      match cR v r12 s7_0 e2 e3 s11 (((s11.length:Int)-(1:Int)+(1:Int)).toNat+1) ((s11.length:Int)-(1:Int)) r11 r13 r14 with
      | .inl r=>r
      | .inr (s14,s9_0,e5,e6)=>
       match bu s7_0 r12 e2 e3 v []with
       |(r75,r76)=>
        match bu s9_0 r12 e5 e6 v []with
        |(r79,r80)=>
         decide (r76=r80)&&gK (kP r75) (kP r79)
 else
  false
def c4:aZ U:=⟨[.d .str,.d (.sl (.st 3)),.d (.arr 8 (.int .u32))],fun xs es K=> ∃(key:List UInt8) (l:List ab) (v:List Int),xs= [(vt key),(Cq l),(ia v)]∧es= []∧K (.v (vb (fh key l v))) []⟩
theorem k4:Fk 4 c4:=by
 refine fo Tryz.f4 [.d .bool] [] (aa k6 (aa MM (aa sS (aa G1 (aa xN (aa AW (aa K7 (aa Je aj)))))))) fun xs es K=>?_;rintro⟨key,l,v,rfl,rfl,h⟩;refine⟨rfl,?_⟩;have hf0:=fh.eq_1 key l v;refine⟨rfl,rfl,?_⟩;refine wN hf0 (fun _ hf0=>e0) fun _ hf0=>?_;refine fl (x:=key.length) fun _=>?_;refine wI hf0 (fun _ hf0=>e0) fun _ hf0=>?_;refine⟨_,rfl,rfl,(by omega),?_⟩;refine And.intro (fun r3 h4=>?_) (fun r10 r11 r12 r13 r14 h15=>?_)
 ·rw[h4]at hf0;refine fun _=>?_;refine⟨_,rfl,rfl,(by omega),?_⟩;refine And.intro (fun r6 h7=>?_) (fun _y0 _y1 _y2 _y3 _y4 h9=>nomatch h4.symm.trans h9);cases h4.symm.trans h7;refine fun _=>?_;refine vT (iO iD iD) (show(¬r3=(0:Int))∨(¬r3=(0:Int))from by omega) ?_;exact e0
 ·rw[h15]at hf0;refine fun _=>?_;refine⟨_,rfl,rfl,(by omega),?_⟩;refine And.intro (fun _y0 h55=>nomatch h15.symm.trans h55) (fun r17 r18 r19 r20 r21 h22=>?_);cases h15.symm.trans h22;refine fun _=>?_;refine wI hf0 (fun _ hf0=>e0) fun _ hf0=>?_;refine lI (σ:=Int×aA×(List (ae×ab))×(List (ae×Bool))×(List ab)) 8 (fun(s12,s7_0,e2,e3,s11)=> [(1,.v (Cq l)),(5,.v (vp 0)),(6,.v (vb false)),(7,.v (vp 1)),(9,.v (vp 4)),(11,.v (vo 7)),(12,.v (vi s12))]) (fun(s12,s7_0,e2,e3,s11)=> [(0,.cells [(8,.d (.arr 8 (.int .u32)) v)] 41),(1,.cells [(10,.d (.st 10) s7_0),(8,.d (.arr 8 (.int .u32)) r12),(1,.mp 2),(1,.mp 3)] 109),(2,.map bn e2),(3,.map bP e3),(4,.cells [(10,.d (.st 10) r11),(8,.d (.arr 8 (.int .u32)) r12),(1,.mp 5),(1,.mp 6)] 109),(5,.map bn r13),(6,.map bP r14),(7,.row 0 (.st 3) s11 47)]) (fun(s12,s7_0,e2,e3,s11)=>(40 - s12).toNat) (fun(s12,s7_0,e2,e3,s11)=>(0≤s12)∧(s12≤40)∧((s11.length:Int)≤s12)∧(s7_0.set.adds.length≤4097)∧(s7_0.set.gone.length≤4097)∧(s7_0.map.puts.length≤4097)∧(s7_0.map.gone.length≤4097)∧(aR e2)∧((e2.length:Int)≤s12)∧((e3.length:Int)≤s12)∧(s12≤40)∧True) (fun n1 (s12,s7_0,e2,e3,s11)=>bW l v r11 r12 r13 r14 n1 s12 s7_0 e2 e3 s11) (bW l v r11 r12 r13 r14 (((40:Int)-(0:Int)).toNat+1) (0:Int) r11 r13 r14 ([]:List ab)) [] ((0:Int),r11,r13,r14,([]:List ab)) ?_ (hi:=⟨show(0:Int)≤(0:Int)from by omega,show(0:Int)≤(40:Int)from by omega,show(↑[].length:Int)≤(0:Int)from by(simp only[List.length_append,List.length_cons,List.length_nil];omega),show r11.set.adds.length≤(4097:Nat)from by omega,show r11.set.gone.length≤(4097:Nat)from by omega,show r11.map.puts.length≤(4097:Nat)from by omega,show r11.map.gone.length≤(4097:Nat)from by omega,show aR r13 from(show _∧_∧_∧_∧_∧_∧aR _ from by assumption).2.2.2.2.2.2,show(↑r13.length:Int)≤(0:Int)from by omega,show(↑r14.length:Int)≤(0:Int)from by omega,show(0:Int)≤(40:Int)from by omega,trivial⟩);rintro⟨s12,s7_0,e2,e3,s11⟩ ⟨n1,hc1,⟨hi1_0,hi1_1,hi1_2,hi1_3,hi1_4,hi1_5,hi1_6,hi1_7,hi1_8,hi1_9,hi1_10,-⟩,hf1⟩;have hf1:=hf1.trans (bW.eq_2 l v r11 r12 r13 r14 s12 s7_0 e2 e3 s11 n1);refine fl (x:=l.length) fun _=>?_;refine wI hf1 (fun _ hf1=>?_) fun _ hf1=>?_
  ·refine vx s12 l ?_;refine⟨_,_,rfl,rfl,?_⟩;refine wI hf1 (fun _ hf1=>e1) fun _ hf1=>?_;refine vx s12 l ?_;refine⟨_,rfl,rfl,(by(have hg:=rq ‹¬dV _ _=true›;omega)),?_⟩;refine⟨_,_,_,_,_,rfl,rfl,(by omega),(by omega),(by omega),(by omega),(by omega),(by omega),(by assumption),?_⟩;refine fun r28 r29 r30 r31 h32=>?_;rw[show br s7_0 r12 e2 e3 (cX (ix l s12))=(r28,r29,r30,r31)from h32]at hf1;dsimp only at hf1;refine fun _=>?_;refine wI hf1 (fun _ hf1=>?_) fun _ hf1=>?_
   ·refine vs (P:=(s11.length+ [cX (ix l s12)].length)*(96:Nat)≤(140737488355328:Nat)) ?_;refine dJ ?_;exact nx (s:=(s12,s7_0,e2,e3,s11)) [] (s12+1,r29,r30,r31,s11++ [cX (ix l s12)]) hc1 hf1 (hi:=⟨show(0:Int)≤s12+(1:Int)from by omega,show s12+(1:Int)≤(40:Int)from by omega,show(↑(s11++ [cX (ix l s12)]).length:Int)≤s12+(1:Int)from by(simp only[List.length_append,List.length_cons,List.length_nil];omega),show r29.set.adds.length≤(4097:Nat)from by omega,show r29.set.gone.length≤(4097:Nat)from by omega,show r29.map.puts.length≤(4097:Nat)from by omega,show r29.map.gone.length≤(4097:Nat)from by omega,show aR r30 from(show _∧_∧_∧_∧_∧_∧aR _ from by assumption).2.2.2.2.2.2,show(↑r30.length:Int)≤s12+(1:Int)from by omega,show(↑r31.length:Int)≤s12+(1:Int)from by omega,show s12+(1:Int)≤(40:Int)from by omega,trivial⟩)
   ·refine dJ ?_;exact nx (s:=(s12,s7_0,e2,e3,s11)) [] (s12+1,r29,r30,r31,s11) hc1 hf1 (hi:=⟨show(0:Int)≤s12+(1:Int)from by omega,show s12+(1:Int)≤(40:Int)from by omega,show(↑s11.length:Int)≤s12+(1:Int)from by omega,show r29.set.adds.length≤(4097:Nat)from by omega,show r29.set.gone.length≤(4097:Nat)from by omega,show r29.map.puts.length≤(4097:Nat)from by omega,show r29.map.gone.length≤(4097:Nat)from by omega,show aR r30 from(show _∧_∧_∧_∧_∧_∧aR _ from by assumption).2.2.2.2.2.2,show(↑r30.length:Int)≤s12+(1:Int)from by omega,show(↑r31.length:Int)≤s12+(1:Int)from by omega,show s12+(1:Int)≤(40:Int)from by omega,trivial⟩)
  ·rw[hf1]at hf0;dsimp only at hf0;refine fl (x:=s11.length) fun _=>?_;refine dJ ?_;refine lI (σ:=Int×aA×(List (ae×ab))×(List (ae×Bool))) 8 (fun(s14,s9_0,e5,e6)=> [(5,.v (vp 0)),(6,.v (vb false)),(7,.v (vp 1)),(9,.v (vp 4)),(11,.v (vo 7)),(14,.v (vi s14))]) (fun(s14,s9_0,e5,e6)=> [(0,.cells [(8,.d (.arr 8 (.int .u32)) v)] 41),(1,.cells [(10,.d (.st 10) s7_0),(8,.d (.arr 8 (.int .u32)) r12),(1,.mp 2),(1,.mp 3)] 109),(2,.map bn e2),(3,.map bP e3),(4,.cells [(10,.d (.st 10) s9_0),(8,.d (.arr 8 (.int .u32)) r12),(1,.mp 5),(1,.mp 6)] 109),(5,.map bn e5),(6,.map bP e6),(7,.row 0 (.st 3) s11 47)]) (fun(s14,s9_0,e5,e6)=>(s14+1).toNat) (fun(s14,s9_0,e5,e6)=>(s14≤(s11.length:Int)- 1)∧(-1≤s14)∧(s9_0.set.adds.length≤4097)∧(s9_0.set.gone.length≤4097)∧(s9_0.map.puts.length≤4097)∧(s9_0.map.gone.length≤4097)∧(aR e5)∧((e5.length:Int)+s14≤100)∧((e6.length:Int)+s14≤100)∧True) (fun n2 (s14,s9_0,e5,e6)=>cR v r12 s7_0 e2 e3 s11 n2 s14 s9_0 e5 e6) (cR v r12 s7_0 e2 e3 s11 (((s11.length:Int)-(1:Int)+(1:Int)).toNat+1) ((s11.length:Int)-(1:Int)) r11 r13 r14) [] ((↑s11.length:Int)-(1:Int),r11,r13,r14) ?_ (hi:=⟨show(↑s11.length:Int)-(1:Int)≤(↑s11.length:Int)-(1:Int)from by omega,show(-1:Int)≤(↑s11.length:Int)-(1:Int)from by omega,show r11.set.adds.length≤(4097:Nat)from by omega,show r11.set.gone.length≤(4097:Nat)from by omega,show r11.map.puts.length≤(4097:Nat)from by omega,show r11.map.gone.length≤(4097:Nat)from by omega,show aR r13 from(show _∧_∧_∧_∧_∧_∧aR _ from by assumption).2.2.2.2.2.2,show(↑r13.length:Int)+((↑s11.length:Int)-(1:Int))≤(100:Int)from by omega,show(↑r14.length:Int)+((↑s11.length:Int)-(1:Int))≤(100:Int)from by omega,trivial⟩);rintro⟨s14,s9_0,e5,e6⟩ ⟨n2,hc2,⟨hi2_0,hi2_1,hi2_2,hi2_3,hi2_4,hi2_5,hi2_6,hi2_7,hi2_8,-⟩,hf1⟩;have hf1:=hf1.trans (cR.eq_2 v r12 s7_0 e2 e3 s11 s14 s9_0 e5 e6 n2);refine wI hf1 (fun _ hf1=>?_) fun _ hf1=>?_
   ·refine vx s14 s11 ?_;refine⟨_,_,_,_,_,rfl,rfl,(by omega),(by omega),(by omega),(by omega),(by omega),(by omega),(by assumption),?_⟩;refine fun r37 r38 r39 r40 h41=>?_;rw[show br s9_0 r12 e5 e6 (ix s11 s14)=(r37,r38,r39,r40)from h41]at hf1;dsimp only at hf1;refine fun _=>?_;refine wN hf1 (fun _ hf1=>e1) fun _ hf1=>?_;refine dJ ?_;exact nx (s:=(s14,s9_0,e5,e6)) [] (s14 - 1,r38,r39,r40) hc2 hf1 (hi:=⟨show s14 -(1:Int)≤(↑s11.length:Int)-(1:Int)from by omega,show(-1:Int)≤s14 -(1:Int)from by omega,show r38.set.adds.length≤(4097:Nat)from by omega,show r38.set.gone.length≤(4097:Nat)from by omega,show r38.map.puts.length≤(4097:Nat)from by omega,show r38.map.gone.length≤(4097:Nat)from by omega,show aR r39 from(show _∧_∧_∧_∧_∧_∧aR _ from by assumption).2.2.2.2.2.2,show(↑r39.length:Int)+(s14 -(1:Int))≤(100:Int)from by omega,show(↑r40.length:Int)+(s14 -(1:Int))≤(100:Int)from by omega,trivial⟩)
   ·rw[hf1]at hf0;dsimp only at hf0;refine⟨_,_,_,_,_,_,rfl,rfl,(by omega),(by omega),(by omega),(by omega),(by omega),(by omega),(show(0:Nat)≤(100000:Nat)from by omega),?_⟩;refine fun r44 r45 h46=>?_;rw[show bu s7_0 r12 e2 e3 v []=(r44,r45)from h46]at hf0;dsimp only at hf0;refine fun _=>?_;refine⟨_,_,_,_,_,_,rfl,rfl,(by omega),(by omega),(by omega),(by omega),(by omega),(by omega),(show(0:Nat)≤(100000:Nat)from by omega),?_⟩;refine fun r48 r49 h50=>?_;rw[show bu s9_0 r12 e5 e6 v []=(r48,r49)from h50]at hf0;dsimp only at hf0;refine fun _=>?_;refine dp [(true,0),(true,1),(true,2),(true,3),(true,4),(true,6),(false,5),(false,7),(false,8),(true,9),(true,10)] none (nw 10) ?_;refine⟨_,fun _=>⟨_,rfl,rfl,(by omega),(by omega),(by omega),(by omega),rfl,rfl⟩,rfl,?_⟩;refine⟨_,fun _=>⟨_,rfl,rfl,(by omega),(by omega),(by omega),(by omega),rfl,rfl⟩,rfl,?_⟩;refine⟨_,fun _=>⟨_,_,rfl,rfl,rfl,rfl⟩,rfl,?_⟩;exact e0
end Go.Proofs.YtiliglahlfkikaaGreatDoor.V
end

section
set_option linter.unusedVariables false
set_option linter.unusedSimpArgs false
namespace Go.Proofs.YtiliglahlfkikaaGreatDoor.V
open Go.RowKit
theorem tc(l:List ab)(v:List Int)(r11:aA)(r13:List (ae×ab))(r14:List (ae×Bool))(hw: ∀e∈l,jj e){k:Int}: ∀(fuel:Nat) (i:Int) (s:aA) (ap:List (ae×ab)) (sn:List (ae×Bool)) (D:List ab),0≤i→i≤40→(D.length:Int)≤i→VA k s z8 ap sn D→
  bW l v r11 z8 r13 r14 fuel i s ap sn D= .inl true∨ ∃i' s' ap' sn' D',bW l v r11 z8 r13 r14 fuel i s ap sn D= .inr (i',s',ap',sn',D')∧VA k s' z8 ap' sn' D'∧D'.length≤40
 |0,i,s,ap,sn,D,h0,h40,hD,R=> .inr ⟨i,s,ap,sn,D,rfl,R,by omega⟩
 |fuel+1,i,s,ap,sn,D,h0,h40,hD,R=>by
  rw[bW];by_cases c:i<(l.length:Int)∧i<40
  ·rw[if_pos c];split
   ·exact .inl rfl
   ·have he:=hw _ (uC l h0 c.1);rw[show cX (ix l i)=ix l i from rfl];have A:=R.add he;rcases hq:br s z8 ap sn (ix l i)with⟨a,s1,ap1,sn1⟩;rw[hq]at A;simp only at A⊢;rcases A with⟨h1,_,h2⟩|⟨h1,h2⟩
    ·rw[if_pos h1];exact tc l v r11 r13 r14 hw fuel (i+1) s1 ap1 sn1 _ (by omega) (by omega) (by simp;omega) h2
    ·rw[if_neg h1];injection h2 with e1 h2;injection h2 with e2 e3;subst e1;subst e2;subst e3;exact tc l v r11 r13 r14 hw fuel (i+1) _ _ _ D (by omega) (by omega) (by omega) R
  ·rw[if_neg c];exact .inr ⟨i,s,ap,sn,D,rfl,R,by omega⟩
theorem yc(v:List Int)(s7:aA)(e2:List (ae×ab))(e3:List (ae×Bool))(D:List ab){k:Int}{s':aA}{ap':List (ae×ab)}{sn':List (ae×Bool)}(R':VA k s' z8 ap' sn' D)(h40:D.length≤40): ∀(fuel:Nat) (i:Int) (s:aA) (ap:List (ae×ab)) (sn:List (ae×Bool)),-1≤i→i<D.length→(i+1).toNat<fuel→VA k s z8 ap sn (D.drop (i+1).toNat).reverse→
  ∃i' s1 ap1 sn1,cR v z8 s7 e2 e3 D fuel i s ap sn= .inr (i',s1,ap1,sn1)∧VA k s1 z8 ap1 sn1 D.reverse
 |0,i,s,ap,sn,h0,h1,hf,R=>by omega
 |fuel+1,i,s,ap,sn,h0,h1,hf,R=>by
  rw[cR];by_cases c:0≤i
  ·rw[if_pos c];have hm:=uC D c h1;have hd:=pW D c h1;have hn:((D.drop i.toNat).map (·.tag)).Nodup:=R'.nd.sublist ((List.drop_sublist _ _).map _);rw[hd,List.map_cons,List.nodup_cons]at hn;have hf2:(ix D i).tag∉((D.drop (i+1).toNat).reverse).map (·.tag):=fun q=>hn.1 (by
    obtain⟨x,hx,e⟩:=List.mem_map.1 q;exact List.mem_map.2 ⟨x,List.mem_reverse.1 hx,e⟩)
   have hc:=R.adds (R'.w _ hm) (R'.g _ hm).1 (R'.g _ hm).2 hf2 (by rw[List.length_reverse,List.length_drop];omega);have A:=R.add (R'.w _ hm);rcases hq:br s z8 ap sn (ix D i)with⟨a,s1,ap1,sn1⟩;rw[hq]at A hc;simp only at A hc⊢;rw[if_pos hc];rcases A with⟨_,_,h2⟩|⟨h2,_⟩
   ·exact yc v s7 e2 e3 D R' h40 fuel (i - 1) s1 ap1 sn1 (by omega) (by omega) (by omega) (by
     rw[show(i - 1+1)=i by omega,hd,List.reverse_cons];exact h2)
   ·exact absurd hc h2
  ·rw[if_neg c];refine⟨i,s,ap,sn,rfl,?_⟩;rw[show(i+1).toNat=0 by omega,List.drop_zero]at R;exact R
theorem nz(key:List UInt8)(l:List ab)(v:List Int)(hw: ∀e∈l,jj e):fh key l v=true:=by
 unfold fh;rw[if_pos td];split
 ·rfl
 rcases vJ key with⟨r,h⟩|⟨c,s,h,hk⟩
 ·rw[h];simp
 ·rw[h];simp only;by_cases hc:c=0
  ·obtain⟨k,k1,k2,rfl⟩:=hk hc;rw[if_neg (by simp[hc])];rcases tc l v (zO k) [] [] hw (((40:Int)-(0:Int)).toNat+1) 0 (zO k) [] [] [] (by omega) (by omega) (by simp) (VA.new k)with h1|⟨i',s',ap',sn',D,h1,R,h40⟩
   ·rw[h1]
   ·rw[h1];simp only;obtain⟨j,s1,ap1,sn1,h2,R1⟩:=yc v s' ap' sn' D R h40 (((D.length:Int)-(1:Int)+(1:Int)).toNat+1) ((D.length:Int)- 1) (zO k) [] [] (by omega) (by omega) (by omega) (by
     rw[show((D.length:Int)- 1+1).toNat=D.length by omega,List.drop_length];exact VA.new k)
    rw[h2];simp only;rw[R.at_ R1 (List.reverse_perm D).symm v []];rcases bu s1 z8 ap1 sn1 v []with⟨x,g⟩;simp[pZ]
  ·rw[if_pos (.inl hc)];simp
end Go.Proofs.YtiliglahlfkikaaGreatDoor.V
end

section
set_option linter.unusedVariables false
set_option linter.unusedSimpArgs false
namespace Go.Proofs.YtiliglahlfkikaaGreatDoor.V
open Go.RowKit
structure ON(o:vZ):Prop where
 e:jj o.e
 more: ∀e∈o.more,jj e
 v:o.v.length=8
section
variable {Y:List Nat} {S:World→Prop}
theorem aN.mem{U:bH}{e:aY}: ∀{xs:List (TT U.ty e)} {vs:List Value},aN U Y S e xs vs→ ∀x∈xs,∃us,aC U Y S e x us
 | [],vs,_,x,hx=>by cases hx
 |y::xs,vs,h,x,hx=>by
  obtain⟨v1,v2,_,h1,_,h2⟩:=h.cons_inv;rcases List.mem_cons.1 hx with rfl|hx
  ·exact⟨v1,h1⟩
  ·exact aN.mem h2 x hx
theorem uB{t:ae}{vs:List Value}(h:aC U Y S (.st 1) t vs):jM t:=by
 obtain⟨h,-⟩:=h.inv;obtain⟨_,_,-,h0,-,-⟩:=bw.inv (fs:= [(2,.st 0),(1,.int .i64)]) h;obtain⟨h0,-⟩:=aC.inv (s:= .st 0) h0;obtain⟨_,_,-,-,-,h1⟩:=bw.inv (fs:= [(1,.int .i64),(1,.int .u32)]) h0;obtain⟨_,_,-,h2,-,-⟩:=bw.inv (fs:= [(1,.int .u32)]) h1;exact(aC.inv (s:= .int .u32) h2).2
theorem Ba{e:ab}{vs:List Value}(h:aC U Y S (.st 3) e vs):jj e:=by
 obtain⟨h,-⟩:=h.inv;obtain⟨_,_,-,-,-,h⟩:=bw.inv (fs:= [(1,.int .i64),(1,.str),(1,.int .i64),(3,.st 1),(2,.st 2),(1,.sl (.st 1))]) h;obtain⟨_,_,-,-,-,h⟩:=bw.inv (fs:= [(1,.str),(1,.int .i64),(3,.st 1),(2,.st 2),(1,.sl (.st 1))]) h;obtain⟨_,_,-,-,-,h⟩:=bw.inv (fs:= [(1,.int .i64),(3,.st 1),(2,.st 2),(1,.sl (.st 1))]) h;obtain⟨_,_,-,h1,-,h⟩:=bw.inv (fs:= [(3,.st 1),(2,.st 2),(1,.sl (.st 1))]) h;obtain⟨_,_,-,h2,-,h⟩:=bw.inv (fs:= [(2,.st 2),(1,.sl (.st 1))]) h;obtain⟨_,_,-,h3,-,h⟩:=bw.inv (fs:= [(1,.sl (.st 1))]) h;obtain⟨h2,-⟩:=aC.inv (s:= .st 2) h2;obtain⟨_,_,-,h4,-,-⟩:=bw.inv (fs:= [(1,.int .u32),(1,.int .i64)]) h2;obtain⟨_,_,_,-,h5,-⟩:=aC.inv (s:= .sl (.st 1)) h3;refine⟨uB h1,fun t ht=>?_,(aC.inv (s:= .int .u32) h4).2.1⟩;obtain⟨us,hu⟩:=aN.mem h5 t ht;exact uB hu
end
end Go.Proofs.YtiliglahlfkikaaGreatDoor.V
end

section
namespace Go.Proofs.YtiliglahlfkikaaGreatDoor
open Go.ChangeShapes Go.WideShapes Go.ChangeAt Go.RowKit Go.Joins
theorem Tryz.own':ownKnob Tryz.prog.godebug=none:=by kernel_rfl
theorem Tryz.laidOut':laidOutB Tryz.prog=true:=by kernel_rfl
def nr(P:Program)(ts:List TypeId):Bool:=ts.all fun t=>P.readableRec t&&decide (t<P.types.size)
theorem jL{H:Type}{enc:TypeId×Value→H}{P:Program}(hl:laidOutB P=true){W W':World}(hb:Below W.heap.size W W'):
  ∀(ts:List TypeId) (vs:List Value) (ds:List (DataW H)) (ps:List MemPlace),nr P ts=true→DataW.TrodAll enc P W 0 (fun _=>true) true ts vs ds ps→(∀x∈ps,x.block<W.heap.size)→
   DataW.TrodAll enc P W' 0 (fun b=>decide (b<W.heap.size)) true ts vs ds ps
 | [],_,_,_,_,h,_=>by
  obtain⟨rfl,rfl,rfl⟩:=trodAll_nil h;exact trodAll_mk0
 |t::ts,_,_,_,hr,h,hlt=>by
  obtain⟨v,vs,d,ds,p,q,rfl,rfl,rfl,h0,h1⟩:=trodAll_cons h;simp only[nr,List.all_cons,Bool.and_eq_true,decide_eq_true_eq]at hr;exact trodAll_cons_mk (Below.trod hl hr.1.1 hr.1.2 h0 hb fun x hx=>hlt x (List.mem_append_left _ hx))
   (jL hl hb ts vs ds q (by unfold nr;simpa using hr.2) h1 fun x hx=>hlt x (List.mem_append_right _ hx))
theorem xU{H:Type}{enc:TypeId×Value→H}{f:Func}{s:ChangeSpec}{W W':World}{args:Array Value}{ds gs:List (DataW H)}{before:List MemPlace}{tb:TypeId}
  (hv:s.vars= []) (hW:DataW.Whole enc Tryz.prog f.params.toList s.vars false W args.toList ds gs before) (hfn:s.fn H ds={results:= [.lit (.bool true)],args:=ds})
  (hr:f.resultTypes= #[tb]) (htb:Tryz.prog.underlying tb=some .bool) (hread:nr Tryz.prog f.params.toList=true) (hb:Below W.heap.size W W'):
  s.post enc Tryz.prog f false true false false W args (.bool true) W':=by
 have hlt: ∀x∈before,x.block<W.heap.size:=fun x hx=>hW.lt x hx;obtain⟨p,q,hA,hV,hps,hfz,hnd⟩:=id hW;rw[hv]at hV;obtain⟨rfl,rfl⟩:=trodVars_none hV;rw[List.append_nil]at hps;subst hps;refine⟨ds,[],before,[],before,[],hW,?_,?_,?_,?_,fun h=>by cases h⟩
 ·rw[List.append_nil,hfn,hr];exact trodAll_mk1 (shut_bool htb true)
 ·rw[List.append_nil,hfn];exact jL Tryz.laidOut' hb _ _ _ _ hread hA hlt
 ·rw[List.append_nil,hfn,hv];rfl
 ·exact World.keptBut_mono (fun x hx=>hx.elim) (hb.frame (fun _=>False))
def xV(f:Func)(W:World)(args:Array Value):Prop:= ∃(H:Type) (enc:TypeId×Value→H) (base:Nat) (ds:List (DataW H)) (p:List MemPlace),
 (∀(j:Nat) t v,f.params[j]? =some t→args[j]? =some v→Value.okWide Tryz.prog W .any base t v)∧DataW.TrodAll enc Tryz.prog W 0 (fun _=>true) true f.params.toList args.toList ds p∧ ∀x∈p,x.block<W.heap.size
theorem xW(s:ByteArray): ∃l:List UInt8,s=⟨l.toArray⟩:=⟨s.data.toList,by cases s;simp⟩
end Go.Proofs.YtiliglahlfkikaaGreatDoor
end

section
set_option linter.unusedVariables false
set_option linter.unusedSimpArgs false
namespace Go.Proofs.YtiliglahlfkikaaGreatDoor
open Go.ChangeShapes Go.WideShapes Go.ChangeAt Go.RowKit Go.Joins
theorem xX{f:Nat→List Value}{m:Nat}: ∀(len j:Nat) (v:Value),(∀i,i<len→(f i).length=m)→((List.range len).flatMap f)[j]? =some v→ ∃i r,i<len∧r<m∧j=i*m+r∧(f i)[r]? =some v
 |0,j,v,_,h=>by simp at h
 |len+1,j,v,hl,h=>by
  rw[List.range_succ,List.flatMap_append,List.getElem?_append]at h;have hlen:((List.range len).flatMap f).length=len*m:=by
   clear h;have: ∀n,n≤len→((List.range n).flatMap f).length=n*m:=by
    intro n;induction n with
    |zero=>intro _;simp
    |succ n ih=>intro hn;rw[List.range_succ,List.flatMap_append,List.length_append,ih (by omega)];simp[hl n (by omega),Nat.add_mul]
   exact this len (Nat.le_refl _)
  split at h
  ·obtain⟨i,r,hi,hr,e,hv⟩:=xX len j v (fun i hi=>hl i (by omega)) h;exact⟨i,r,by omega,hr,e,hv⟩
  ·rename_i hge;rw[hlen]at h hge;simp only[List.flatMap_cons,List.flatMap_nil,List.append_nil]at h;refine⟨len,j - len*m,by omega,?_,by omega,h⟩;have:=(List.getElem?_eq_some_iff.1 h).1;rw[hl len (by omega)]at this;exact this
theorem xY{w:World}{a:Addr}{v:Value}(h:w.cell? a=some v):a.block<w.heap.size∧a.spot=none:=by
 unfold World.cell? at h;split at h
 ·rename_i c t x hb;refine⟨bd hb,?_⟩;split at h
  ·cases h
  ·rename_i hs;simpa using hs
 ·cases h
theorem j3.of_cells{w:World}{a:Addr}{len m:Nat}{f:Nat→List Value}(hm:0<m)(h: ∀i,i<len→w.cells? 0 (a.add (i*m)) m=some (f i)):j3 [] w (some a) ((List.range len).flatMap f):=fun j v hj=>by
 obtain⟨i,r,hi,hr,rfl,hv⟩:=xX len j v (fun i hi=>(World.cells?_some (h i hi)).2.1) hj;have hc:=(World.cells?_some (h i hi)).2.2 r hr;rw[hv,Deep.add_add]at hc;have h0:=(World.cells?_some (h 0 (by omega))).2;have hs:a.spot=Option.none:=by
  have h1:=h0.2 0 hm;rw[List.getElem?_eq_getElem (by omega),Nat.zero_mul]at h1;have:=(xY h1).2;simpa[Addr.add]using this
 obtain⟨g,b,sp⟩:=a;simp only at hs;subst hs;rw[Addr.add_mid]at hc;exact⟨g,b,rfl,by simp,hc⟩
theorem A5{P:Program}{w:World}{base t:Nat}{v:Value}{cs:List Value}(ht:aV P t≠Option.none)(hv:Value.okWide P w .any base t v)(h:v.cells.toList=cs):v= .agg cs.toArray:=by
 unfold aV at ht;unfold Value.okWide at hv;split at hv
 ·obtain⟨c,rfl,_⟩:=hv;rw[←h];rfl
 ·obtain⟨c,rfl,_⟩:=hv;rw[←h];rfl
 ·rename_i h1 h2;exfalso;cases hu:P.underlying t with
  |none=>simp[hu]at ht
  |some d=>cases d<;>first|(exact h1 _ hu)|(exact h2 _ _ hu)|(simp[hu]at ht;done)
theorem ER{P:Program}{w:World}{base t e:Nat}{v:Value}{A:Option Addr}{l c:Nat}(ht:P.underlying t=some (.slice e))(hv:Value.okWide P w .any base t v)(h:v.cells.toList= [.slice A l c]):v= .slice A l c:=by
 unfold Value.okWide at hv;rw[ht]at hv;cases v<;>first|(simp[Value.cells]at h;done)|(simpa[Value.cells]using h)|(simp[Cell.okWide,ht,Cell.ok]at hv;done)
theorem A6{P:Program}{w:World}{base t:Nat}{v:Value}{s:List UInt8}(ht:P.underlying t=some .string)(hv:Value.okWide P w .any base t v)(h:v.cells.toList= [sv s]):v=sv s:=by
 unfold Value.okWide at hv;rw[ht]at hv;cases v<;>first|(simp[Value.cells]at h;done)|(simpa[Value.cells]using h)|(simp[Cell.okWide,ht,Cell.ok]at hv;done)
theorem A7{l:Nat}(h:l≤maxLen):l≤9223372036854775807:=by unfold maxLen at h;omega
section
variable {H:Type} {enc:TypeId×Value→H} {W:World}
end
end Go.Proofs.YtiliglahlfkikaaGreatDoor
end

section
set_option linter.unusedVariables false
set_option linter.unusedSimpArgs false
namespace Go.Proofs.YtiliglahlfkikaaGreatDoor.V
open Go.ChangeShapes Go.WideShapes Go.ChangeAt Go.RowKit Go.Joins
def Bs(W:World):Prop:= ∀g∈gB,∀j v,W.cell? ⟨g,j,none⟩=some v→j=0
def oo(P:Program)(U:bH)(W:World)(t:Nat)(s:aY):Prop:= ∀(H:Type) (enc:TypeId×Value→H) (fuel:Nat) (cs:List Value) (x:DataW H×List MemPlace),DataW.trod enc P W 0 (fun _=>true) true fuel t cs=some x→ ∃m:TT U.ty s,aC U gB (· =W) s m cs
section
variable {P:Program} {U:bH} {W:World}
theorem tI{t:Nat}(hu:P.underlying t=some (.int .i64)):oo P U W t (.int .i64):=fun H enc fuel cs x h=>by
 obtain⟨q,e,_,w0⟩:=DataW.trod_int hu h;have:=bounds_i64 w0;subst e;exact⟨q,aC.int .i64 q (by unfold dy;omega)⟩
theorem zr{t:Nat}(hu:P.underlying t=some (.int .u32)):oo P U W t (.int .u32):=fun H enc fuel cs x h=>by
 obtain⟨q,e,_,w0⟩:=DataW.trod_int hu h;have:=bounds_u32 w0;subst e;exact⟨q,aC.int .u32 q (by unfold dy;omega)⟩
theorem zt{t:Nat}(hu:P.underlying t=some .string):oo P U W t .str:=fun H enc fuel cs x h=>by
 obtain⟨s0,e,_,hs⟩:=DataW.trod_string hu h;obtain⟨l,rfl⟩:=xW s0;subst e;exact⟨l,aC.str l (A7 (by simpa[ByteArray.size]using hs))⟩
inductive qt(P:Program)(U:bH)(W:World):List Field→List (Nat×aY)→Nat→Prop
 |nil (o:Nat):qt P U W [] [] o
 |cons (f:Field) (r:List Field) (k:Nat) (s:aY) (q:List (Nat×aY)) (o:Nat) (ho:f.offset=o) (hk:P.cellsOf f.type=k) (hs:oo P U W f.type s) (hr:qt P U W r q (o+k)):qt P U W (f::r) ((k,s)::q) o
theorem zu{H:Type}{enc:TypeId×Value→H}{cs:List Value}{fl:List Field}{sh:List (Nat×aY)}{o:Nat}(h:qt P U W fl sh o)
  (hall: ∀f∈fl,∃n y,DataW.trod enc P W 0 (fun _=>true) true n f.type ((cs.drop f.offset).take (P.cellsOf f.type))=some y) (hl:cs.length=o+(sh.map (·.1)).sum): ∃T:r9 U.ty sh,bw U gB (· =W) sh T (cs.drop o):=by
 induction h with
 |nil o=>exact⟨(),by rw[List.drop_of_length_le (by simp at hl;omega)];exact bw.nil⟩
 |cons f r k s q o ho hk hs hr ih=>
  obtain⟨T,hT⟩:=ih (fun g hg=>hall g (by simp[hg])) (by simp at hl⊢;omega);obtain⟨n,y,hy⟩:=hall f (by simp);rw[ho,hk]at hy;obtain⟨m,hm⟩:=hs _ _ _ _ _ hy;refine⟨(m,T),?_⟩;have e:cs.drop o=(cs.drop o).take k++cs.drop (o+k):=by rw[←List.drop_drop,List.take_append_drop]
  rw[e];exact bw.cons k s q m T _ _ hm (by simp at hl⊢;omega) hT
theorem o0{t i:Nat}{fs:Array Field}(hu:P.underlying t=some (.struct fs))(hz:P.cellsOf t=(U.rd i).sz)(hf:qt P U W fs.toList (U.rd i).fs 0)(hof: ∀T,(U.rd i).ofK T fun _=>True):oo P U W t (.st i):=fun H enc fuel cs x h=>by
 obtain⟨xs,n,_,_,hlen,hl,hall⟩:=DataW.trod_struct hu h;have hall2: ∀f∈fs.toList,∃n y,DataW.trod enc P W 0 (fun _=>true) true n f.type ((cs.drop f.offset).take (P.cellsOf f.type))=some y:=fun f hf=>by
  obtain⟨j,hj⟩:=List.getElem?_of_mem hf;have hj':fs[j]? =some f:=by rw[←Array.getElem?_toList];exact hj
  have:=hall j f hj';have hjl:j<xs.length:=by
   rw[hl];rcases Nat.lt_or_ge j fs.size with h|h
   ·exact h
   ·rw[Array.getElem?_eq_none h]at hj';cases hj'
  rw[List.getElem?_eq_getElem hjl]at this;exact⟨n,_,this⟩
 obtain⟨T,hT⟩:=zu hf hall2 (by rw[hlen,hz,(U.rd i).sz_ok];omega);rw[List.drop_zero]at hT;obtain⟨m,hm,hto⟩:=(U.rd i).ofK_ok T _ (hof T);exact⟨m,aC.st i m cs (hto▸hT) (by rw[hlen,hz])⟩
theorem tJ{s:aY}{z:Nat}(hz:aI U s=z): ∀(n:Nat) (cs:List Value),cs.length=n*z→(∀i,i<n→ ∃m:TT U.ty s,aC U gB (· =W) s m ((cs.drop (i*z)).take z))→ ∃l:List (TT U.ty s),l.length=n∧aN U gB (· =W) s l cs
 |0,cs,h,_=>⟨[],rfl,by
  have:cs= []:=List.eq_nil_of_length_eq_zero (by simpa using h);subst this;exact aN.nil s⟩
 |n+1,cs,h,hall=>by
  have hz2:cs.length=n*z+z:=by rw[h,Nat.add_mul,Nat.one_mul]
  obtain⟨l,hl,hd⟩:=tJ hz n (cs.drop z) (by rw[List.length_drop];omega) (fun i hi=>by
   obtain⟨m,hm⟩:=hall (i+1) (by omega);rw[List.drop_drop];rw[show(i+1)*z=z+i*z by rw[Nat.add_mul,Nat.one_mul,Nat.add_comm]]at hm;exact⟨m,hm⟩)
  obtain⟨m,hm⟩:=hall 0 (by omega);rw[Nat.zero_mul,List.drop_zero]at hm;refine⟨m::l,by simp[hl],?_⟩;rw[←List.take_append_drop z cs];exact aN.cons s m l _ _ hm (by rw[hz,List.length_take];omega) hd
theorem zw{t n e z:Nat}{s:aY}(hu:P.underlying t=some (.array n e))(hz:aI U s=z)(he:P.cellsOf e=z)(hc:P.cellsOf t=n*z)(ho:oo P U W e s):oo P U W t (.arr n s):=fun H enc fuel cs x h=>by
 obtain⟨xs,k,_,_,hlen,hl,hall⟩:=DataW.trod_array hu h;obtain⟨l,h1,h2⟩:=tJ (W:=W) hz n cs (by rw[hlen,hc]) (fun i hi=>by
  have:=hall i hi;rw[he,List.getElem?_eq_getElem (by omega)]at this;exact ho _ _ _ _ _ this)
 exact⟨l,aC.arr n s l cs h2 h1⟩
theorem zx{s:aY}{z:Nat}(hz:aI U s=z){f:Nat→List Value}{q:Nat→TT U.ty s}: ∀(n:Nat),(∀i,i<n→aC U gB (· =W) s (q i) (f i))→aN U gB (· =W) s ((List.range n).map q) ((List.range n).flatMap f):=by
 have key: ∀(l:List Nat),(∀i∈l,aC U gB (· =W) s (q i) (f i))→aN U gB (· =W) s (l.map q) (l.flatMap f):=by
  intro l;induction l with
  |nil=>intro _;exact aN.nil s
  |cons i r ih=>
   intro h;exact aN.cons s (q i) (r.map q) (f i) _ (h i (by simp)) (h i (by simp)).length (ih fun j hj=>h j (by simp[hj]))
 exact fun n h=>key _ fun i hi=>h i (List.mem_range.1 hi)
theorem wk{t e z:Nat}{s:aY}(hB:Bs W)(hu:P.underlying t=some (.slice e))(hz:aI U s=z)(he:P.cellsOf e=z)(h2:2≤z)(ho:oo P U W e s):oo P U W t (.sl s):=fun H enc fuel cs x h=>by
 rcases Deep.open_slice hu h with⟨rfl,_⟩|⟨a,len,cap,mm,n,D,Pl,rfl,_,hlc,hcm,hmm,_,hall⟩
 ·exact⟨([]:List (TT U.ty s)),aC.sl s [] none 0 [] (aN.nil s) (fun w _ j v hj=>by simp at hj) (Nat.le_refl _) (Nat.zero_le _)⟩
 ·simp only[if_true]at hmm;subst hmm;rw[he]at hall;have hq: ∀i,i<len→ ∃o:List Value×TT U.ty s,W.cells? 0 (a.add (i*z)) z=some o.1∧aC U gB (· =W) s o.2 o.1:=fun i hi=>by
   obtain⟨cs',h1,h2⟩:=hall i (by omega);obtain⟨o,ho⟩:=ho _ _ _ _ _ h2;exact⟨(cs',o),h1,ho⟩
  rcases Nat.eq_zero_or_pos len with h0|h0
  ·subst h0;exact⟨([]:List (TT U.ty s)),aC.sl s [] (some a) mm [] (aN.nil s) (fun w _ j v hj=>by simp at hj) (Nat.zero_le _) hcm⟩
  haveI:Inhabited (List Value×TT U.ty s):=⟨(hq 0 h0).choose⟩
  obtain⟨q,hq⟩:=Deep.choose_lt hq;have hrd:=j3.of_cells (f:=fun i=>(q i).1) (by omega) (fun i hi=>(hq i hi).1);have hd:=zx (W:=W) hz len (f:=fun i=>(q i).1) (q:=fun i=>(q i).2) (fun i hi=>(hq i hi).2);refine⟨(List.range len).map fun i=>(q i).2,?_⟩;have hl:((List.range len).map fun i=>(q i).2).length=len:=by simp
  have:=aC.sl (Y:=gB) (S:=(· =W)) s ((List.range len).map fun i=>(q i).2) (some a) mm _ hd (fun w hw=>?_) (by rw[hl];simpa using hlc) hcm
  ·rw[hl]at this;exact this
  ·subst hw;intro j v hj;obtain⟨g,b,e,_,hc⟩:=hrd j v hj;refine⟨g,b,e,fun hg=>?_,hc⟩;have hc1:=(World.cells?_some (hq 0 h0).1).2;have hlen1:=hc1.1;have hv:=hc1.2 1 (by omega);rw[List.getElem?_eq_getElem (by omega),Nat.zero_mul]at hv;injection e with e;subst e;have:=hB g hg _ _ hv;simp[Addr.add]at this
end
end Go.Proofs.YtiliglahlfkikaaGreatDoor.V
end

section
namespace Go.Proofs.YtiliglahlfkikaaGreatDoor
open Go.ChangeShapes Go.WideShapes Go.ChangeAt Go.RowKit Go.Joins
set_option maxRecDepth 100000 in
theorem vE{f:FuncId}{fn:Func}{s:ChangeSpec}{tb:TypeId}{laid:List (String×DataW Unit)}(hfn:Tryz.prog.funcs[f]? =some fn)(hinit:Tryz.prog.inits.idxOf? f=none)(hv:s.vars= [])(hr:fn.resultTypes= #[tb])(htb:Tryz.prog.underlying tb=some .bool)(hread:nr Tryz.prog fn.params.toList=true)
  (hspec: ∀(H:Type) (ds:List (DataW H)),ds.length=fn.params.toList.length→s.fn H ds={results:= [.lit (.bool true)],args:=ds})
  (walk: ∀(W:World) (args:Array Value),xV fn W args→W.ShapedOpen Tryz.prog→laidMetH Tryz.prog laid W→Fn Tryz.prog f args.toList W fun v w'=>v= .bool true∧Fr [] W w')
  (os:Os) (started:os.Started) (H:Type) (enc:TypeId×Value→H)
  (witness: ∃(w:World) (tape:Tape) (i:Input),w.os=os∧(w.forCall tape i).Shaped Tryz.checked.prog∧i.vars= []∧Input.okWide Tryz.checked.prog (w.forCall tape i) .any w.heap.size f i∧
   ((s.pre enc Tryz.checked.prog fn [] false (w.forCall tape i).memory i.args∧laidMetH Tryz.prog laid (w.forCall tape i).memory)∧sizedMet enc Tryz.checked.prog fn (OpenSpec.ofChange s) false (w.forCall tape i).memory i.args)∧({}:Assume).holds Tryz.checked.prog (lone (Frame.enter Tryz.checked.prog f i.args .normal) [] (w.forCall tape i))):
  ReturnsInHanded {} Tryz.checked os f .any (fun w args=>(s.pre enc Tryz.prog fn [] false w args∧laidMetH Tryz.prog laid w)∧sizedMet enc Tryz.prog fn (OpenSpec.ofChange s) false w args) (s.post enc Tryz.prog fn false true false false):=by
 refine returnsInHanded_of_calls Tryz.own' started hinit witness ?_;intro w tape i _ hsh _ hok hpre hholds;obtain⟨_,_,_,fn',hfn',_,_,_,_,hval⟩:=hok;have e:fn'=fn:=Option.some.inj (hfn'.symm.trans hfn);subst e;obtain⟨⟨⟨ds,gs,before,hw,hc⟩,hx⟩,hz⟩:=hpre;have hw':=DataW.Whole.of_heap (w':=w.forCall tape i) (by rfl) hw;have hX:laidMetH Tryz.prog laid (w.forCall tape i):=hx.of_heap (by rfl);have hW':DataW.Whole enc Tryz.prog fn'.params.toList s.vars false (w.forCall tape i) i.args.toList ds gs before:=hw';have hlt: ∀x∈before,x.block<(w.forCall tape i).heap.size:=fun x hx=>hW'.lt x hx;obtain⟨p,q,hA,hV,hps,_,_⟩:=id hW';have hlen:ds.length=fn'.params.toList.length:=by
  have key: ∀(W:World) (ts:List TypeId) (vs:List Value) (ds:List (DataW H)) (ps:List MemPlace),DataW.TrodAll enc Tryz.prog W 0 (fun _=>true) true ts vs ds ps→ds.length=ts.length:=by
   intro W ts;induction ts with
   |nil=>intro vs ds ps h;obtain⟨_,rfl,_⟩:=trodAll_nil h;rfl
   |cons t ts ih=>intro vs ds ps h;obtain⟨v,vs,d,ds,p,q,rfl,rfl,rfl,_,h1⟩:=trodAll_cons h;simp[ih _ _ _ h1]
  exact key _ _ _ _ _ hA
 have hcl:=(walk (w.forCall tape i) i.args ⟨H,enc,w.heap.size,ds,p,hval,hA,fun x hx=>hlt x (by rw[hps];exact List.mem_append_left _ hx)⟩ hsh hX).2;rw[Array.toArray_toList]at hcl;refine Calls.mono hcl fun e W' ⟨v,he,hv',hF⟩=>?_;subst he;subst hv';exact ChangeSpec.post_blind (xU hv hW' (hspec H ds hlen) hr htb hread hF.below)
end Go.Proofs.YtiliglahlfkikaaGreatDoor
end

/- Functions walked: printed by the walker. -/
import Derived.Test.YtiliglahlfkikaaGreatDoorYt20
import Derived.Test.YtiliglahlfkikaaGreatDoorYt14
import Derived.Test.YtiliglahlfkikaaGreatDoorYt19
section
set_option linter.unusedVariables false
set_option linter.unusedSimpArgs false
set_option maxRecDepth 20000
set_option maxHeartbeats 4000000
namespace Go.Proofs.YtiliglahlfkikaaGreatDoor.V
open Go.RowKit
def oA(s:bM):bM:=
 bM.mk s.val s.at_
def PM:bh U:=⟨[.d (.st 5)],fun xs es K=> ∃(s:bM),xs= [(HK s)]∧es= []∧K (.v (HK (oA s))) []⟩
theorem PN:Fk 52 PM:=by
 refine fo Tryz.f52 [.d (.st 5)] [] (aj) fun xs es K=>?_;rintro⟨s,rfl,rfl,h⟩;refine⟨rfl,?_⟩;have hf0:=oA.eq_1 s;exact e0
def oB(s:bY):bY:=
 bY.mk s.plus s.minus
def PO:bh U:=⟨[.d (.st 6)],fun xs es K=> ∃(s:bY),xs= [(HZ s)]∧es= []∧K (.v (HZ (oB s))) []⟩
theorem PP:Fk 53 PO:=by
 refine fo Tryz.f53 [.d (.st 6)] [] (aj) fun xs es K=>?_;rintro⟨s,rfl,rfl,h⟩;refine⟨rfl,?_⟩;have hf0:=oB.eq_1 s;exact e0
def iU(s:aY):Nat→Int→(List ba)→aY⊕(Int×(List ba))
 |0,s4,e3=> .inr (s4,e3)
 |n1+1,s4,e3=>
  if s4<(s.adds.length:Int)then
   iU s n1 (s4+1) (e3++ [ba.mk (ix s.adds s4).tag (ix s.adds s4).elem])
  else
   .inr (s4,e3)
def oC(s:aY):aY:=
 match iU s (((s.adds.length:Int)- 0).toNat+1) 0 ([]:List ba)with
 | .inl r=>r
 | .inr (s4,e3)=>
  aY.mk e3 s.gone
def PQ:bh U:=⟨[.d (.st 8)],fun xs es K=> ∃(s:aY),xs= [(wD s)]∧es= []∧(s.adds.length≤1000000)∧(s.gone.length≤1000000)∧K (.v (wD (oC s))) []⟩
theorem PR:Fk 54 PQ:=by
 refine fo Tryz.f54 [.d (.st 8)] [] (aj) fun xs es K=>?_;rintro⟨s,rfl,rfl,h1,h2,h⟩;refine⟨rfl,?_⟩;have hf0:=oC.eq_1 s;refine lI (σ:=Int×(List ba)) 4 (fun(s4,e3)=> [(1,.v (vp 0)),(2,.v (vp 1)),(3,.v (vp 2)),(4,.v (vi s4))]) (fun(s4,e3)=> [(0,.cells [(2,.d (.st 8) s)] 56),(1,.cells [(1,.nils),(1,.nils)] 70),(2,.cells [(1,.own 3 0),(1,.nils)] 70),(3,.row 0 (.st 7) e3 178)]) (fun(s4,e3)=>((s.adds.length:Int)- s4).toNat) (fun(s4,e3)=>(0≤s4)∧(s4≤(s.adds.length:Int))∧((e3.length:Int)≤s4)∧True) (fun n1 (s4,e3)=>iU s n1 s4 e3) (iU s (((s.adds.length:Int)- 0).toNat+1) 0 ([]:List ba)) [] ((0:Int),([]:List ba)) ?_;rintro⟨s4,e3⟩ ⟨n1,hc1,⟨hi1_0,hi1_1,hi1_2,-⟩,hf1⟩;have hf1:=hf1.trans (iU.eq_2 s s4 e3 n1);refine fl (x:=s.adds.length) fun _=>?_;refine wI hf1 (fun h1 hf1=>?_) fun h1 hf1=>?_
 ·refine dp [(true,0),(true,1),(true,2),(true,3),(true,4),(true,5),(true,6),(true,7),(true,8),(true,9),(true,10),(true,11),(true,12),(true,13),(true,14),(false,15),(false,16),(true,17)] (some 18) (nw 3) ?_;refine vx s4 s.adds ?_;refine vx s4 s.adds ?_;refine vs (P:=(e3.length+ [ba.mk (ix s.adds s4).tag (ix s.adds s4).elem].length)*(40:Nat)≤(140737488355328:Nat)) ?_;refine ez ?_;exact nx (s:=(s4,e3)) [] (s4+1,e3++ [ba.mk (ix s.adds s4).tag (ix s.adds s4).elem]) hc1 hf1
 ·rw[hf1]at hf0;refine vs (P:=s.gone.length*(24:Nat)≤(140737488355328:Nat)) ?_;exact e0
def iV(s:be):Nat→Int→(List bt)→be⊕(Int×(List bt))
 |0,s4,e3=> .inr (s4,e3)
 |n1+1,s4,e3=>
  if s4<(s.puts.length:Int)then
   iV s n1 (s4+1) (e3++ [bt.mk (ix s.puts s4).tag (ix s.puts s4).field (ix s.puts s4).val (ix s.puts s4).at_])
  else
   .inr (s4,e3)
def oD(s:be):be:=
 match iV s (((s.puts.length:Int)- 0).toNat+1) 0 ([]:List bt)with
 | .inl r=>r
 | .inr (s4,e3)=>
  be.mk e3 s.gone
def PS:bh U:=⟨[.d (.st 9)],fun xs es K=> ∃(s:be),xs= [(wE s)]∧es= []∧(s.puts.length≤1000000)∧(s.gone.length≤1000000)∧K (.v (wE (oD s))) []⟩
theorem PT:Fk 55 PS:=by
 refine fo Tryz.f55 [.d (.st 9)] [] (aj) fun xs es K=>?_;rintro⟨s,rfl,rfl,h1,h2,h⟩;refine⟨rfl,?_⟩;have hf0:=oD.eq_1 s;refine lI (σ:=Int×(List bt)) 4 (fun(s4,e3)=> [(1,.v (vp 0)),(2,.v (vp 1)),(3,.v (vp 2)),(4,.v (vi s4))]) (fun(s4,e3)=> [(0,.cells [(2,.d (.st 9) s)] 59),(1,.cells [(1,.nils),(1,.nils)] 73),(2,.cells [(1,.own 3 0),(1,.nils)] 73),(3,.row 0 (.st 4) e3 182)]) (fun(s4,e3)=>((s.puts.length:Int)- s4).toNat) (fun(s4,e3)=>(0≤s4)∧(s4≤(s.puts.length:Int))∧((e3.length:Int)≤s4)∧True) (fun n1 (s4,e3)=>iV s n1 s4 e3) (iV s (((s.puts.length:Int)- 0).toNat+1) 0 ([]:List bt)) [] ((0:Int),([]:List bt)) ?_;rintro⟨s4,e3⟩ ⟨n1,hc1,⟨hi1_0,hi1_1,hi1_2,-⟩,hf1⟩;have hf1:=hf1.trans (iV.eq_2 s s4 e3 n1);refine fl (x:=s.puts.length) fun _=>?_;refine wI hf1 (fun h1 hf1=>?_) fun h1 hf1=>?_
 ·refine vx s4 s.puts ?_;refine vs (P:=(e3.length+ [bt.mk (ix s.puts s4).tag (ix s.puts s4).field (ix s.puts s4).val (ix s.puts s4).at_].length)*(64:Nat)≤(140737488355328:Nat)) ?_;refine ez ?_;exact nx (s:=(s4,e3)) [] (s4+1,e3++ [bt.mk (ix s.puts s4).tag (ix s.puts s4).field (ix s.puts s4).val (ix s.puts s4).at_]) hc1 hf1
 ·rw[hf1]at hf0;refine vs (P:=s.gone.length*(24:Nat)≤(140737488355328:Nat)) ?_;exact e0
def mS(s:aY):Bool:=
 decide (200<(s.adds.length:Int))||decide (200<(s.gone.length:Int))
def PU:bh U:=⟨[.d (.st 8)],fun xs es K=> ∃(s:aY),xs= [(wD s)]∧es= []∧K (.v (vb (mS s))) []⟩
theorem PV:Fk 60 PU:=by
 refine fo Tryz.f60 [.d .bool] [] (aj) fun xs es K=>?_;rintro⟨s,rfl,rfl,h⟩;refine⟨rfl,?_⟩;have hf0:=mS.eq_1 s;refine fl (x:=s.adds.length) fun _=>?_;exact e0
def mT(s:be):Bool:=
 decide (100<(s.puts.length:Int))||decide (200<(s.gone.length:Int))
def PW:bh U:=⟨[.d (.st 9)],fun xs es K=> ∃(s:be),xs= [(wE s)]∧es= []∧K (.v (vb (mT s))) []⟩
theorem PX:Fk 61 PW:=by
 refine fo Tryz.f61 [.d .bool] [] (aj) fun xs es K=>?_;rintro⟨s,rfl,rfl,h⟩;refine⟨rfl,?_⟩;have hf0:=mT.eq_1 s;refine fl (x:=s.puts.length) fun _=>?_;exact e0
def cU(e:ab):ab:=
 ab.mk e.act e.name e.val e.tag e.at_ e.tags
def PY:bh U:=⟨[.d (.st 3)],fun xs es K=> ∃(e:ab),xs= [(D4 e)]∧es= []∧(e.tags.length≤1000000)∧K (.v (D4 (cU e))) []⟩
theorem uy:Fk 10 PY:=by
 refine fo Tryz.f10 [.d (.st 3)] [] (aj) fun xs es K=>?_;rintro⟨e,rfl,rfl,h1,h⟩;refine⟨rfl,?_⟩;have hf0:=cU.eq_1 e;refine dp [(true,0),(true,1),(true,2),(true,3),(true,4),(true,5),(true,6),(true,7),(true,8),(true,9),(true,11),(true,12),(false,10),(false,13),(true,14)] (some 15) (nw 2) ?_;refine vs (P:=((0:Nat)+e.tags.length)*(24:Nat)≤(140737488355328:Nat)) ?_;exact e0
def fh(v:bO):Nat→Int→(List aP)→bO⊕(Int×(List aP))
 |0,s4,e3=> .inr (s4,e3)
 |n1+1,s4,e3=>
  if s4<(v.items.length:Int)then
   fh v n1 (s4+1) (e3++ [aP.mk (ix v.items s4).field (ix v.items s4).val])
  else
   .inr (s4,e3)
def ij(v:bO):bO:=
 match fh v (((v.items.length:Int)- 0).toNat+1) 0 ([]:List aP)with
 | .inl r=>r
 | .inr (s4,e3)=>
  bO.mk v.kind v.val e3
def PZ:bh U:=⟨[.d (.st 13)],fun xs es K=> ∃(v:bO),xs= [(A4 v)]∧es= []∧(v.items.length≤1000000)∧K (.v (A4 (ij v))) []⟩
theorem MZ:Fk 29 PZ:=by
 refine fo Tryz.f29 [.d (.st 13)] [] (aj) fun xs es K=>?_;rintro⟨v,rfl,rfl,h1,h⟩;refine⟨rfl,?_⟩;have hf0:=ij.eq_1 v;refine⟨Int×(List aP),4,fun(s4,e3)=> [(1,.v ⟨false,[(1,.ptr 0 0)]⟩),(2,.v ⟨false,[(1,.ptr 1 0)]⟩),(3,.v ⟨false,[(1,.ptr 2 0)]⟩),(4,.v ⟨false,[(1,.d (.int .i64) s4)]⟩)],fun(s4,e3)=> [(0,.cells [(3,.d (.st 13) v)] 100),(1,.cells [(1,.d (.int .i64) (0:Int)),(1,.d (.int .i64) (0:Int)),(1,.nils)] 96),(2,.cells [(1,.d (.int .i64) v.kind),(1,.d (.int .i64) v.val),(1,.own 3 0)] 96),(3,.row 0 (.st 12) e3 135)],dQ (fun(s4,e3)=>((↑v.items.length:Int)- s4).toNat) (fun(s4,e3)=>((0:Int)≤s4)∧(s4≤(↑v.items.length:Int))∧((e3.length:Int)≤s4)∧True) (fun n1 (s4,e3)=>fh v n1 s4 e3) (fh v (((↑v.items.length:Int)-(0:Int)).toNat+1) (0:Int) ([]:List aP)),fun(s4,e3)=>((↑v.items.length:Int)- s4).toNat,⟨[],((0:Int),([]:List aP)),dQ.mk0 _ (Nat.lt_succ_self _) ⟨show(0:Int)≤(0:Int)from by omega,show(0:Int)≤(↑v.items.length:Int)from by omega,show(↑[].length:Int)≤(0:Int)from by(simp only[List.length_append,List.length_cons,List.length_nil];omega),trivial⟩ rfl,?_⟩,?_⟩
 ·repeat (first|exact trivial|refine And.intro rfl ?_)
 ·rintro⟨s4,e3⟩ ⟨n1,hc1,⟨hi1_0,hi1_1,hi1_2,-⟩,hf1⟩;have hf1:=hf1.trans (fh.eq_2 v s4 e3 n1);refine fun h0=>?_;have h0:(↑v.items.length:Int)≤(9223372036854775807:Int):=h0.2;refine vI hf1 iD (fun h1 hf1=>?_) (fun h1 hf1=>?_)
  ·refine .inl ⟨[(true,0),(true,1),(true,2),(true,3),(true,4),(true,5),(true,6),(true,7),(true,8),(true,9),(true,10),(true,11),(true,12),(true,13),(true,14),(false,15),(false,16),(true,17)],some 18,[3,4,5,6,7,8,9,10,11,12,13,14],by kernel_rfl,?_⟩;refine And.intro (show(0:Int)≤s4∧s4<(↑v.items.length:Int)from by omega) ?_;refine And.intro (show(0:Int)≤s4∧s4<(↑v.items.length:Int)from by omega) ?_;refine And.intro (show(e3.length+ [aP.mk (ix v.items s4).field (ix v.items s4).val].length)*(24:Nat)≤(140737488355328:Nat)from by(simp only[List.length_append,List.length_cons,List.length_nil];omega)) ?_;refine .inl (And.intro (xI (p:=s4) (q:=(1:Int)) (r:=s4+(1:Int)) (by omega)) ?_);have hm1:((↑v.items.length:Int)-(s4+(1:Int))).toNat<((↑v.items.length:Int)- s4).toNat:=by omega
   refine⟨[],(s4+(1:Int),e3++ [aP.mk (ix v.items s4).field (ix v.items s4).val]),hm1,dQ.next (s:=(s4,e3)) hc1 hm1 ⟨show(0:Int)≤s4+(1:Int)from by omega,show s4+(1:Int)≤(↑v.items.length:Int)from by omega,show(↑(e3++ [aP.mk (ix v.items s4).field (ix v.items s4).val]).length:Int)≤s4+(1:Int)from by(simp only[List.length_append,List.length_cons,List.length_nil];omega),trivial⟩ hf1,?_⟩;repeat (first|exact trivial|refine And.intro rfl ?_)
  ·rw[hf1]at hf0;rw[hf0]at h;exact h
def sT(s:az):az:=
 az.mk s.kind (oA s.reg) (oB s.num) (oC s.set) (oD s.map)
def P0:bh U:=⟨[.d (.st 10)],fun xs es K=> ∃(s:az),xs= [(ku s)]∧es= []∧(s.set.adds.length≤1000000)∧(s.set.gone.length≤1000000)∧(s.map.puts.length≤1000000)∧(s.map.gone.length≤1000000)∧K (.v (ku (sT s))) []⟩
theorem Eo:Fk 16 P0:=by
 refine fo Tryz.f16 [.d (.st 10)] [] (aa PN (aa PP (aa PR (aa PT aj)))) fun xs es K=>?_;rintro⟨s,rfl,rfl,h1,h2,h3,h4,h⟩;refine⟨rfl,?_⟩;have hf0:=sT.eq_1 s;refine dp [(true,0),(true,1),(true,2),(true,3),(true,5),(true,6),(true,8),(true,9),(true,11),(true,12),(false,4),(false,7),(false,10),(false,13),(true,14)] (some 15) (nw 2) ?_;refine⟨_,rfl,rfl,?_⟩;refine⟨_,rfl,rfl,?_⟩;refine⟨_,rfl,rfl,(by omega),(by omega),?_⟩;refine⟨_,rfl,rfl,(by omega),(by omega),?_⟩;exact e0
def cY(s:az)(e:ab):Bool:=
 mS s.set||mT s.map||decide (100<(e.tags.length:Int))||decide (1000<(e.name.length:Int))
def P1:bh U:=⟨[.d (.st 10),.d (.st 3)],fun xs es K=> ∃(s:az) (e:ab),xs= [(ku s),(D4 e)]∧es= []∧K (.v (vb (cY s e))) []⟩
theorem KX:Fk 25 P1:=by
 refine fo Tryz.f25 [.d .bool] [] (aa PV (aa PX aj)) fun xs es K=>?_;rintro⟨s,e,rfl,rfl,h⟩;refine⟨rfl,?_⟩;have hf0:=cY.eq_1 s e;refine⟨_,rfl,rfl,?_⟩;refine⟨_,fun _=>⟨_,rfl,rfl,rfl,rfl⟩,rfl,?_⟩;exact e0
def gQ(e:ab):ab:=
 ab.mk e.act e.name e.val e.tag e.at_ e.tags
def P2:bh U:=⟨[.d (.st 3)],fun xs es K=> ∃(e:ab),xs= [(D4 e)]∧es= []∧(e.tags.length≤1000000)∧K (.v (D4 (gQ e))) []⟩
theorem P3:Fk 38 P2:=by
 refine fo Tryz.f38 [.d (.st 3)] [] (aa HV aj) fun xs es K=>?_;rintro⟨e,rfl,rfl,h1,h⟩;refine⟨rfl,?_⟩;have hf0:=gQ.eq_1 e;refine⟨_,rfl,rfl,(by assumption),?_⟩;exact e0
def gR(s:az):az:=
 az.mk s.kind s.reg s.num (aY.mk s.set.adds s.set.gone) (be.mk s.map.puts s.map.gone)
def P4:bh U:=⟨[.d (.st 10)],fun xs es K=> ∃(s:az),xs= [(ku s)]∧es= []∧(s.set.adds.length≤1000000)∧(s.set.gone.length≤1000000)∧(s.map.puts.length≤1000000)∧(s.map.gone.length≤1000000)∧K (.v (ku (gR s))) []⟩
theorem Om:Fk 47 P4:=by
 refine fo Tryz.f47 [.d (.st 10)] [] (aa HV (aa zP (aa CS aj))) fun xs es K=>?_;rintro⟨s,rfl,rfl,h1,h2,h3,h4,h⟩;refine⟨rfl,?_⟩;have hf0:=gR.eq_1 s;refine .inr ⟨(.look 0 (.look 1 (.look 4 (.look 5 (.turn 2 (.turn 3 (.turn 6 (.look 8 (.look 9 (.turn 7 (.turn 10 (.look 11 (.look 12 .fin)) .nil) .nil))) .nil) (.turn 6 (.turn 3 (.look 8 (.look 9 (.turn 7 (.turn 10 (.look 11 (.look 12 .fin)) .nil) .nil))) .nil) .nil)) (.turn 6 (.turn 2 (.turn 3 (.look 8 (.look 9 (.turn 7 (.turn 10 (.look 11 (.look 12 .fin)) .nil) .nil))) .nil) .nil) .nil)))))),some 13,[1,0],4,[(1,.v ⟨false,[(1,.ptr 0 0)]⟩),(2,.v ⟨false,[(1,.ptr 1 0)]⟩)],[(0,.cells [(1,.d (.int .i64) s.kind),(3,.d (.st 5) s.reg),(2,.d (.st 6) s.num),(1,.own 2 0),(1,.own 3 0),(2,.d (.st 9) s.map)] 61),(1,.cells [(1,.d (.int .i64) (0:Int)),(1,.d (.int .i64) (0:Int)),(1,.d (.int .u32) (0:Int)),(1,.d (.int .i64) (0:Int)),(1,.d (.int .i64) (0:Int)),(1,.d (.int .i64) (0:Int)),(1,.nils),(1,.nils),(1,.nils),(1,.nils)] 61),(2,.row 0 (.st 7) s.set.adds 159),(3,.row 0 (.st 1) s.set.gone 34)],True,by kernel_rfl,?_,?_⟩
 ·refine And.intro ?_ ?_
  ·refine And.intro ?_ ?_
   ·refine⟨_,rfl,rfl,(by assumption),?_⟩;refine And.intro ?_ trivial;refine And.intro ?_ trivial;refine⟨_,rfl,rfl,(by assumption),?_⟩;refine And.intro ?_ trivial;refine⟨trivial,[],?_⟩;repeat (first|exact trivial|refine And.intro rfl ?_)
   refine And.intro ?_ trivial;refine And.intro ?_ trivial;refine⟨_,rfl,rfl,(by assumption),?_⟩;refine And.intro ?_ trivial;refine⟨_,rfl,rfl,(by assumption),?_⟩;refine And.intro ?_ trivial;refine⟨trivial,[],?_⟩;repeat (first|exact trivial|refine And.intro rfl ?_)
  refine And.intro ?_ trivial;refine And.intro ?_ trivial;refine And.intro ?_ trivial;refine⟨_,rfl,rfl,(by assumption),?_⟩;refine And.intro ?_ trivial;refine⟨_,rfl,rfl,(by assumption),?_⟩;refine And.intro ?_ trivial;refine⟨trivial,[],?_⟩;repeat (first|exact trivial|refine And.intro rfl ?_)
 refine fun _=>?_;refine .inr ⟨(.look 0 (.look 1 (.look 4 (.look 5 (.turn 2 (.turn 3 (.turn 6 (.look 8 (.look 9 (.turn 7 (.turn 10 (.look 11 (.look 12 .fin)) .nil) .nil))) .nil) (.turn 6 (.turn 3 (.look 8 (.look 9 (.turn 7 (.turn 10 (.look 11 (.look 12 .fin)) .nil) .nil))) .nil) .nil)) (.turn 6 (.turn 2 (.turn 3 (.look 8 (.look 9 (.turn 7 (.turn 10 (.look 11 (.look 12 .fin)) .nil) .nil))) .nil) .nil) .nil)))))),some 13,[0,2,3],6,[(1,.v ⟨false,[(1,.ptr 0 0)]⟩),(2,.v ⟨false,[(1,.ptr 1 0)]⟩)],[(0,.cells [(1,.d (.int .i64) s.kind),(3,.d (.st 5) s.reg),(2,.d (.st 6) s.num),(1,.own 2 0),(1,.own 3 0),(1,.own 4 0),(1,.own 5 0)] 61),(1,.cells [(1,.d (.int .i64) (0:Int)),(1,.d (.int .i64) (0:Int)),(1,.d (.int .u32) (0:Int)),(1,.d (.int .i64) (0:Int)),(1,.d (.int .i64) (0:Int)),(1,.d (.int .i64) (0:Int)),(1,.nils),(1,.nils),(1,.nils),(1,.nils)] 61),(2,.row 0 (.st 7) s.set.adds 159),(3,.row 0 (.st 1) s.set.gone 34),(4,.row 0 (.st 4) s.map.puts 164),(5,.row 0 (.st 1) s.map.gone 34)],True,by kernel_rfl,?_,?_⟩
 ·refine And.intro ?_ ?_
  ·refine And.intro ?_ ?_
   ·refine⟨_,rfl,rfl,(by assumption),?_⟩;refine And.intro ?_ trivial;refine And.intro ?_ trivial;refine⟨_,rfl,rfl,(by assumption),?_⟩;refine And.intro ?_ trivial;refine⟨trivial,[],?_⟩;repeat (first|exact trivial|refine And.intro rfl ?_)
   refine And.intro ?_ trivial;refine And.intro ?_ trivial;refine⟨_,rfl,rfl,(by assumption),?_⟩;refine And.intro ?_ trivial;refine⟨_,rfl,rfl,(by assumption),?_⟩;refine And.intro ?_ trivial;refine⟨trivial,[],?_⟩;repeat (first|exact trivial|refine And.intro rfl ?_)
  refine And.intro ?_ trivial;refine And.intro ?_ trivial;refine And.intro ?_ trivial;refine⟨_,rfl,rfl,(by assumption),?_⟩;refine And.intro ?_ trivial;refine⟨_,rfl,rfl,(by assumption),?_⟩;refine And.intro ?_ trivial;refine⟨trivial,[],?_⟩;repeat (first|exact trivial|refine And.intro rfl ?_)
 refine fun _=>?_;exact e0
def f4(a:bO)(b:bO):Bool:=
 decide (a.kind=b.kind)&&decide (a.val=b.val)&&fZ a.items b.items
def P5:bh U:=⟨[.d (.st 13),.d (.st 13)],fun xs es K=> ∃(a:bO) (b:bO),xs= [(A4 a),(A4 b)]∧es= []∧K (.v (vb (f4 a b))) []⟩
theorem M4:Fk 28 P5:=by
 refine fo Tryz.f28 [.d .bool] [] (aa PD aj) fun xs es K=>?_;rintro⟨a,b,rfl,rfl,h⟩;refine⟨rfl,?_⟩;have hf0:=f4.eq_1 a b;refine⟨_,fun _=>⟨_,_,rfl,rfl,rfl,rfl⟩,rfl,?_⟩;exact e0
def gS(o:xH):Nat→Int→Bool⊕(Int)
 |0,s3=> .inr s3
 |n1+1,s3=>
  if s3<(o.more.length:Int)then
   if cY (az.mk 0 (bM.mk 0 (aA.mk 0 0)) (bY.mk 0 0) (aY.mk [] []) (be.mk [] [])) (ix o.more s3)=true then
    .inl true
   else
    gS o n1 (s3+1)
  else
   .inr s3
def p4(o:xH):Bool:=
 if(cY (az.mk 0 (bM.mk 0 (aA.mk 0 0)) (bY.mk 0 0) (aY.mk [] []) (be.mk [] [])) o.e=true)∨(10<(o.more.length:Int))then
  true
 else
  match gS o (((o.more.length:Int)- 0).toNat+1) 0 with
  | .inl r=>r
  | .inr s3=>
   false
def c8:bh U:=⟨[.d (.st 14)],fun xs es K=> ∃(o:xH),xs= [⟨true,[(19,.d (.st 14) o)]⟩]∧es= []∧K (.v (vb (p4 o))) []⟩
theorem k8:Fk 8 c8:=by
 refine fo Tryz.f8 [.d .bool] [] (aa KX aj) fun xs es K=>?_;rintro⟨o,rfl,rfl,h⟩;refine⟨rfl,?_⟩;have hf0:=p4.eq_1 o;refine⟨_,_,rfl,rfl,?_⟩;refine wI hf0 (fun _ hf0=>e0) fun _ hf0=>?_;refine lI 1 (fun(s3:Int)=> [(1,.v (vp 0)),(2,.v (vb false)),(3,.v (vi s3))]) (fun(s3:Int)=> [(0,.cells [(19,.d (.st 14) o)] 44)]) (fun(s3:Int)=>((o.more.length:Int)- s3).toNat) (fun(s3:Int)=>(0≤s3)∧(s3≤(o.more.length:Int))∧True) (fun n1 (s3:Int)=>gS o n1 s3) (gS o (((o.more.length:Int)- 0).toNat+1) 0) [] (0:Int) ?_;rintro s3 ⟨n1,hc1,⟨hi1_0,hi1_1,-⟩,hf1⟩;have hf1:=hf1.trans (gS.eq_2 o s3 n1);refine fl (x:=o.more.length) fun _=>?_;refine wI hf1 (fun _ hf1=>?_) fun _ hf1=>e1;refine vx s3 o.more ?_;refine⟨_,_,rfl,rfl,?_⟩;refine wI hf1 (fun _ hf1=>e1) fun _ hf1=>?_;refine ez ?_;exact nx [] (s3+1) hc1 hf1
theorem bC(s:az):ar s=s:=rfl
def ay(s:az)(e:ab):az×Int:=
 if bm e=0 then
  if bB e.act=s.kind then
   if e.act=1 then
    if(dy (ar s).reg e.val e.at_).snd=0 then
     (az.mk (ar s).kind (dy (ar s).reg e.val e.at_).fst (ar s).num (ar s).set (ar s).map,0)
    else
     (az.mk 0 (bM.mk 0 (aA.mk 0 0)) (bY.mk 0 0) (aY.mk [] []) (be.mk [] []),(dy (ar s).reg e.val e.at_).snd)
   else
    if e.act=2 then
     if(df (ar s).num e.val).snd=0 then
      (az.mk (ar s).kind (ar s).reg (df (ar s).num e.val).fst (ar s).set (ar s).map,0)
     else
      (az.mk 0 (bM.mk 0 (aA.mk 0 0)) (bY.mk 0 0) (aY.mk [] []) (be.mk [] []),(df (ar s).num e.val).snd)
    else
     if e.act=3 then
      if(fc (ar s).set (ba.mk e.tag e.name)).snd=0 then
       (az.mk (ar s).kind (ar s).reg (ar s).num (fc (ar s).set (ba.mk e.tag e.name)).fst (ar s).map,0)
      else
       (az.mk 0 (bM.mk 0 (aA.mk 0 0)) (bY.mk 0 0) (aY.mk [] []) (be.mk [] []),(fc (ar s).set (ba.mk e.tag e.name)).snd)
     else
      if e.act=4 then
       if(dV (ar s).set e.tags).snd=0 then
        (az.mk (ar s).kind (ar s).reg (ar s).num (dV (ar s).set e.tags).fst (ar s).map,0)
       else
        (az.mk 0 (bM.mk 0 (aA.mk 0 0)) (bY.mk 0 0) (aY.mk [] []) (be.mk [] []),(dV (ar s).set e.tags).snd)
      else
       if e.act=5 then
        if(dg (ar s).map (bt.mk e.tag e.name e.val e.at_)).snd=0 then
         (az.mk (ar s).kind (ar s).reg (ar s).num (ar s).set (dg (ar s).map (bt.mk e.tag e.name e.val e.at_)).fst,0)
        else
         (az.mk 0 (bM.mk 0 (aA.mk 0 0)) (bY.mk 0 0) (aY.mk [] []) (be.mk [] []),(dg (ar s).map (bt.mk e.tag e.name e.val e.at_)).snd)
       else
        if e.act=6 then
         if(dW (ar s).map e.tags).snd=0 then
          (az.mk (ar s).kind (ar s).reg (ar s).num (ar s).set (dW (ar s).map e.tags).fst,0)
         else
          (az.mk 0 (bM.mk 0 (aA.mk 0 0)) (bY.mk 0 0) (aY.mk [] []) (be.mk [] []),(dW (ar s).map e.tags).snd)
        else
         (ar s,0)
  else
   (az.mk 0 (bM.mk 0 (aA.mk 0 0)) (bY.mk 0 0) (aY.mk [] []) (be.mk [] []),5)
 else
  (az.mk 0 (bM.mk 0 (aA.mk 0 0)) (bY.mk 0 0) (aY.mk [] []) (be.mk [] []),bm e)
def P6:bh U:=⟨[.d (.st 10),.d (.st 3)],fun xs es K=> ∃(s:az) (e:ab),xs= [(ku s),(D4 e)]∧es= []∧(s.set.adds.length≤4097)∧(s.set.gone.length≤4097)∧(s.map.puts.length≤4097)∧(s.map.gone.length≤4097)∧((fun(r0:az) (r1:Int)=>r0.set.adds.length≤4097∧r0.set.gone.length≤4097∧r0.map.puts.length≤4097∧r0.map.gone.length≤4097) ((ay s e).1) ((ay s e).2)→K (.tup [(ku ((ay s e).1)),(vi ((ay s e).2))]) [])⟩
theorem On:Fk 37 P6:=by
 refine fo Tryz.f37 [.d (.st 10),.d (.int .i64)] [] (aa Ol (aa MF (aa Ok (aa Ph (aa Pn (aa O5 (aa PF (aa PJ (aa PL aj))))))))) fun xs es K=>?_;rintro⟨s,e,rfl,rfl,h1,h2,h3,h4,h⟩;refine⟨rfl,?_⟩;have hf0:=ay.eq_1 s e;refine⟨_,rfl,rfl,?_⟩;refine fun _=>?_;refine wN hf0 (fun h1 hf0=>?_) fun h1 hf0=>?_
 ·rw[hf0]at h;exact h (by simp)
 ·refine dp [(true,0),(true,1),(true,3),(true,4),(false,2),(true,5)] none (nw 3) ?_;refine⟨_,rfl,rfl,?_⟩;refine wN hf0 (fun h2 hf0=>?_) fun h2 hf0=>?_
  ·rw[hf0]at h;exact h (by simp)
  ·refine⟨_,rfl,rfl,(by omega),(by omega),(by omega),(by omega),?_⟩;refine wI hf0 (fun h3 hf0=>?_) fun h3 hf0=>?_
   ·refine⟨_,_,_,rfl,rfl,?_⟩;refine wN hf0 (fun h4 hf0=>?_) fun h4 hf0=>?_
    ·rw[hf0]at h;exact h (by simp)
    ·rw[hf0]at h;exact h (by(simp only[bC]at*;omega))
   ·refine wI hf0 (fun _ hf0=>?_) fun _ hf0=>?_
    ·refine⟨_,_,rfl,rfl,?_⟩;refine wN hf0 (fun _ hf0=>?_) fun _ hf0=>?_
     ·rw[hf0]at h;exact h (by simp)
     ·rw[hf0]at h;exact h (by(simp only[bC]at*;omega))
    ·refine wI hf0 (fun _ hf0=>?_) fun _ hf0=>?_
     ·refine⟨_,_,rfl,rfl,(by(rw[bC s];omega)),(by(rw[bC s];omega)),?_⟩;refine fun _=>?_;refine wN hf0 (fun _ hf0=>?_) fun _ hf0=>?_
      ·rw[hf0]at h;exact h (by simp)
      ·rw[hf0]at h;exact h (by(simp only[bC]at*;omega))
     ·refine wI hf0 (fun _ hf0=>?_) fun _ hf0=>?_
      ·refine⟨_,_,rfl,rfl,(by(rw[bC s];omega)),(by(rw[bC s];omega)),?_⟩;refine fun _=>?_;refine wN hf0 (fun _ hf0=>?_) fun _ hf0=>?_
       ·rw[hf0]at h;exact h (by simp)
       ·rw[hf0]at h;exact h (by(simp only[bC]at*;omega))
      ·refine wI hf0 (fun _ hf0=>?_) fun _ hf0=>?_
       ·refine⟨_,_,rfl,rfl,(by(rw[bC s];omega)),(by(rw[bC s];omega)),?_⟩;refine fun _=>?_;refine wN hf0 (fun _ hf0=>?_) fun _ hf0=>?_
        ·rw[hf0]at h;exact h (by simp)
        ·rw[hf0]at h;exact h (by(simp only[bC]at*;omega))
       ·refine wI hf0 (fun _ hf0=>?_) fun _ hf0=>?_
        ·refine⟨_,_,rfl,rfl,(by(rw[bC s];omega)),(by(rw[bC s];omega)),?_⟩;refine fun _=>?_;refine wN hf0 (fun _ hf0=>?_) fun _ hf0=>?_
         ·rw[hf0]at h;exact h (by simp)
         ·rw[hf0]at h;exact h (by(simp only[bC]at*;omega))
        ·refine vF iD (by omega) ?_;rw[hf0]at h;exact h (show((fun(r0:az) (r1:Int)=>r0.set.adds.length≤4097∧r0.set.gone.length≤4097∧r0.map.puts.length≤4097∧r0.map.gone.length≤4097) (ar s) (0:Int):Prop)from by(rw[bC s];omega))
def bl(s:az)(v:List Int):az×Int:=
 if(ar s).kind=1 then
  (ar s,0)
 else
  if(ar s).kind=2 then
   (ar s,0)
  else
   if(ar s).kind=3 then
    if(dq (ar s).set v).snd=0 then
     (az.mk (ar s).kind (ar s).reg (ar s).num (dq (ar s).set v).fst (ar s).map,0)
    else
     (az.mk 0 (bM.mk 0 (aA.mk 0 0)) (bY.mk 0 0) (aY.mk [] []) (be.mk [] []),(dq (ar s).set v).snd)
   else
    if(ar s).kind=4 then
     if(dr (ar s).map v).snd=0 then
      (az.mk (ar s).kind (ar s).reg (ar s).num (ar s).set (dr (ar s).map v).fst,0)
     else
      (az.mk 0 (bM.mk 0 (aA.mk 0 0)) (bY.mk 0 0) (aY.mk [] []) (be.mk [] []),(dr (ar s).map v).snd)
    else
     (az.mk 0 (bM.mk 0 (aA.mk 0 0)) (bY.mk 0 0) (aY.mk [] []) (be.mk [] []),5)
def P7:bh U:=⟨[.d (.st 10),.d (.arr 8 (.int .u32))],fun xs es K=> ∃(s:az) (v:List Int),xs= [(ku s),(iH v)]∧es= []∧(s.set.adds.length≤4097)∧(s.set.gone.length≤4097)∧(s.map.puts.length≤4097)∧(s.map.gone.length≤4097)∧((fun(r0:az) (r1:Int)=>r0.set.adds.length≤4097∧r0.set.gone.length≤4097∧r0.map.puts.length≤4097∧r0.map.gone.length≤4097) ((bl s v).1) ((bl s v).2)→K (.tup [(ku ((bl s v).1)),(vi ((bl s v).2))]) [])⟩
theorem P8:Fk 56 P7:=by
 refine fo Tryz.f56 [.d (.st 10),.d (.int .i64)] [] (aa Ok (aa MT (aa MY aj))) fun xs es K=>?_;rintro⟨s,v,rfl,rfl,h1,h2,h3,h4,h⟩;refine⟨rfl,?_⟩;have hf0:=bl.eq_1 s v;refine⟨_,rfl,rfl,(by omega),(by omega),(by omega),(by omega),?_⟩;refine wI hf0 (fun _ hf0=>?_) fun _ hf0=>?_
 ·refine vT iD (by omega) ?_;refine vF iB (by simp) ?_;rw[hf0]at h;exact h (show((fun(r0:az) (r1:Int)=>r0.set.adds.length≤4097∧r0.set.gone.length≤4097∧r0.map.puts.length≤4097∧r0.map.gone.length≤4097) (ar s) (0:Int):Prop)from by(rw[bC s];omega))
 ·refine wI hf0 (fun h1 hf0=>?_) fun h1 hf0=>?_
  ·refine vF iB (by simp) ?_;rw[hf0]at h;exact h (show((fun(r0:az) (r1:Int)=>r0.set.adds.length≤4097∧r0.set.gone.length≤4097∧r0.map.puts.length≤4097∧r0.map.gone.length≤4097) (ar s) (0:Int):Prop)from by(rw[bC s];omega))
  ·refine wI hf0 (fun h2 hf0=>?_) fun h2 hf0=>?_
   ·refine⟨_,_,rfl,rfl,(by(rw[bC s];omega)),(by(rw[bC s];omega)),?_⟩;refine fun h3=>?_;refine wN hf0 (fun h4 hf0=>?_) fun h4 hf0=>?_
    ·rw[hf0]at h;exact h (by simp)
    ·rw[hf0]at h;exact h (by(simp only[bC]at*;omega))
   ·refine wI hf0 (fun _ hf0=>?_) fun _ hf0=>?_
    ·refine⟨_,_,rfl,rfl,(by(rw[bC s];omega)),(by(rw[bC s];omega)),?_⟩;refine fun _=>?_;refine wN hf0 (fun _ hf0=>?_) fun _ hf0=>?_
     ·rw[hf0]at h;exact h (by simp)
     ·rw[hf0]at h;exact h (by(simp only[bC]at*;omega))
    ·refine vT iB rfl ?_;rw[hf0]at h;exact h (by simp)
end Go.Proofs.YtiliglahlfkikaaGreatDoor.V
end

section
set_option linter.unusedVariables false
set_option linter.unusedSimpArgs false
namespace Go.Proofs.YtiliglahlfkikaaGreatDoor.V
open Go.RowKit Go.Shelf Go.Lib Go.Sort
structure ip(e:ab):Prop where
 tag:kD e.tag
 tags: ∀t∈e.tags,kD t
 time:0≤e.at_.time
structure Oz(s:az):Prop where
 set:wc s.set
 map:wd s.map
theorem wc.nil:wc ⟨[],[]⟩:=⟨fun _ h=>(by cases h),fun _ h=>(by cases h)⟩
theorem wd.nil:wd ⟨[],[]⟩:=⟨fun _ h=>(by cases h),fun _ h=>(by cases h)⟩
def CQ:az:=az.mk 0 (bM.mk 0 (aA.mk 0 0)) (bY.mk 0 0) (aY.mk [] []) (be.mk [] [])
theorem Oz.zero(k:Int)(r:bM)(n:bY):Oz (az.mk k r n (aY.mk [] []) (be.mk [] [])):=⟨wc.nil,wd.nil⟩
end Go.Proofs.YtiliglahlfkikaaGreatDoor.V
end

section
set_option linter.unusedVariables false
set_option linter.unusedSimpArgs false
namespace Go.Proofs.YtiliglahlfkikaaGreatDoor.V
open Go.RowKit Go.Shelf Go.Lib Go.Sort
def nA{α:Type}(key:α→af)(l:List α)(a:α):List α:=oN (fun x y=>bj (key x) (key y)) l a
theorem zx{α:Type}(key:α→af)(l:List α)(a:α):(nA key l a).map key=oN bj (l.map key) (key a):=by
 unfold nA oN;rw[List.map_append,List.map_append,List.takeWhile_map,List.dropWhile_map];rfl
theorem zy{α:Type}(key:α→af)(l:List α)(a x:α):x∈nA key l a↔x=a∨x∈l:=zu _ l a x
theorem zz{α:Type}(key:α→af)(l:List α)(a:α):(nA key l a).length=l.length+1:=zw _ l a
theorem uH{α:Type}{key:α→af}{l:List α}{a:α}(h:bJ (l.map key))(hn:key a∉l.map key):bJ ((nA key l a).map key):=by
 rw[zx];exact te bj zq eU h (fun x hx q=>hn (q▸hx))
theorem zA{α:Type}{key:α→af}{l l':List α}(h:bJ (l.map key))(h':bJ (l'.map key))(hm: ∀x,x∈l↔x∈l'):l=l':=by
 unfold bJ at h h';rw[List.pairwise_map]at h h';exact kT (fun x y=>bj (key x) (key y)) (fun a b q=>eV q) h h' hm
theorem zB{l l':List af}(h:bJ l)(h':bJ l')(hm: ∀x,x∈l↔x∈l'):l=l':=kT bj (fun a b q=>eV q) h h' hm
structure g8{α:Type}(key:α→af)(mk:ab→α)(A D:Int)(adds:List α)(gone:List af)(L:List ab):Prop where
 n:adds.length≤L.length
 g:gone.length≤100*L.length
 ra:bJ (adds.map key)
 rg:bJ gone
 mg: ∀t,t∈gone↔ ∃e∈L,e.act=D∧t∈e.tags
 ma: ∀a,a∈adds↔(∃e∈L,e.act=A∧a=mk e)∧key a∉gone
section
variable {α:Type} {key:α→af} {mk:ab→α} {A D:Int} {adds adds':List α} {gone gone':List af} {L L':List ab} {e:ab}
theorem g8.nil:g8 key mk A D [] [] []:=⟨Nat.le_refl _,Nat.le_refl _,List.Pairwise.nil,List.Pairwise.nil,by simp,by simp⟩
theorem g8.dj(h:g8 key mk A D adds gone L): ∀a∈adds,key a∉gone:=fun a ha=>((h.ma a).1 ha).2
theorem g8.other(h:g8 key mk A D adds gone L)(h1: ¬e.act=A)(h2: ¬e.act=D):g8 key mk A D adds gone (L++ [e]):=by
 refine⟨by have:=h.n;simp;omega,by have:=h.g;simp;omega,h.ra,h.rg,fun t=>?_,fun a=>?_⟩
 ·rw[h.mg];simp[h2]
 ·rw[h.ma];simp[h1]
theorem g8.fresh(h:g8 key mk A D adds gone L)(hk: ∀e,key (mk e)=e.tag)(hf:e.tag∉L.map (·.tag)):key (mk e)∉adds.map key:=fun hm=>by
 obtain⟨a,ha,h2⟩:=List.mem_map.1 hm;obtain⟨⟨e',he',_,rfl⟩,_⟩:=(h.ma a).1 ha;rw[hk,hk]at h2;exact hf (List.mem_map.2 ⟨e',he',h2⟩)
theorem g8.put(h:g8 key mk A D adds gone L)(hk: ∀e,key (mk e)=e.tag)(hA:e.act=A)(hAD: ¬A=D)(hf:e.tag∉L.map (·.tag)):g8 key mk A D (if key (mk e)∈gone then adds else nA key adds (mk e)) gone (L++ [e]):=by
 have hfr:=h.fresh (e:=e) hk hf;have hg: ∀t,t∈gone↔ ∃x∈L++ [e],x.act=D∧t∈x.tags:=fun t=>by rw[h.mg];simp[hA,hAD]
 split
 ·rename_i hm;refine⟨by have:=h.n;simp;omega,by have:=h.g;simp;omega,h.ra,h.rg,hg,fun a=>?_⟩;rw[h.ma];constructor
  ·rintro⟨⟨x,hx,h1,h2⟩,h3⟩;exact⟨⟨x,by simp[hx],h1,h2⟩,h3⟩
  ·rintro⟨⟨x,hx,h1,rfl⟩,h3⟩;rcases List.mem_append.1 hx with hx|hx
   ·exact⟨⟨x,hx,h1,rfl⟩,h3⟩
   ·rw[List.mem_singleton]at hx;subst hx;exact absurd hm h3
 ·rename_i hm;refine⟨by have:=h.n;rw[zz];simp;omega,by have:=h.g;simp;omega,uH h.ra hfr,h.rg,hg,fun a=>?_⟩;rw[zy,h.ma];constructor
  ·rintro(rfl|⟨⟨x,hx,h1,h2⟩,h3⟩)
   ·exact⟨⟨e,by simp,hA,rfl⟩,hm⟩
   ·exact⟨⟨x,by simp[hx],h1,h2⟩,h3⟩
  ·rintro⟨⟨x,hx,h1,rfl⟩,h3⟩;rcases List.mem_append.1 hx with hx|hx
   ·exact .inr ⟨⟨x,hx,h1,rfl⟩,h3⟩
   ·rw[List.mem_singleton]at hx;subst hx;exact .inl rfl
theorem g8.drop(h:g8 key mk A D adds gone L)(hD:e.act=D)(hAD: ¬A=D)(hr:bJ gone')(hm: ∀t,t∈gone'↔t∈gone∨t∈e.tags)(hl:gone'.length≤gone.length+e.tags.length)(h100:e.tags.length≤100):g8 key mk A D (adds.filter (fun a=>!decide (key a∈gone'))) gone' (L++ [e]):=by
 refine⟨by have:=h.n;have:=List.length_filter_le (fun a=>!decide (key a∈gone')) adds;simp;omega,by have:=h.g;simp;omega,?_,hr,fun t=>?_,fun a=>?_⟩
 ·have:=h.ra;unfold bJ at this⊢;exact this.sublist (List.filter_sublist.map _)
 ·rw[hm,h.mg];constructor
  ·rintro(⟨x,hx,h1,h2⟩|h1)
   ·exact⟨x,by simp[hx],h1,h2⟩
   ·exact⟨e,by simp,hD,h1⟩
  ·rintro⟨x,hx,h1,h2⟩;rcases List.mem_append.1 hx with hx|hx
   ·exact .inl ⟨x,hx,h1,h2⟩
   ·rw[List.mem_singleton]at hx;subst hx;exact .inr h2
 ·rw[List.mem_filter,h.ma];constructor
  ·rintro⟨⟨⟨x,hx,h1,h2⟩,h3⟩,h4⟩;exact⟨⟨x,by simp[hx],h1,h2⟩,by simpa using h4⟩
  ·rintro⟨⟨x,hx,h1,rfl⟩,h3⟩;rcases List.mem_append.1 hx with hx|hx
   ·exact⟨⟨⟨x,hx,h1,rfl⟩,fun q=>h3 ((hm _).2 (.inl q))⟩,by simpa using h3⟩
   ·rw[List.mem_singleton]at hx;subst hx;exact absurd (h1.symm.trans hD) hAD
theorem g8.ext(h:g8 key mk A D adds gone L)(h':g8 key mk A D adds' gone' L')(hm: ∀e,e∈L↔e∈L'):adds=adds'∧gone=gone':=by
 have hg:gone=gone':=zB h.rg h'.rg fun t=>by rw[h.mg,h'.mg];simp only[hm]
 subst hg;exact⟨zA h.ra h'.ra fun a=>by rw[h.ma,h'.ma];simp only[hm],rfl⟩
end
def uI(a b:bM):Prop:=a.at_.time<b.at_.time∨(a.at_.time=b.at_.time∧(a.at_.origin<b.at_.origin∨(a.at_.origin=b.at_.origin∧a.val<b.val)))
def zR:bM:=⟨0,⟨0,0⟩⟩
def HU(e:ab):bM:=⟨e.val,e.at_⟩
theorem CK{a b:bM}(h1:a.val=b.val)(h2:a.at_.time=b.at_.time)(h3:a.at_.origin=b.at_.origin):a=b:=by
 obtain⟨a1,⟨a2,a3⟩⟩:=a;obtain⟨b1,⟨b2,b3⟩⟩:=b;simp only at h1 h2 h3;subst h1;subst h2;subst h3;rfl
theorem CL{a b:bM}(h1: ¬uI a b)(h2: ¬uI b a):a=b:=by
 unfold uI at h1 h2;exact CK (by omega) (by omega) (by omega)
structure lZ(r:bM)(L:List ab):Prop where
 i:r=zR∨ ∃e∈L,e.act=1∧r=HU e
 z: ¬uI r zR
 m: ∀e∈L,e.act=1→ ¬uI r (HU e)
theorem wg(a:bM): ¬uI a a:=by unfold uI;omega
theorem lZ.nil:lZ zR []:=⟨.inl rfl,wg _,by simp⟩
theorem lZ.other{r:bM}{L:List ab}{e:ab}(h:lZ r L)(h1: ¬e.act=1):lZ r (L++ [e]):=by
 refine⟨?_,h.z,fun x hx h2=>?_⟩
 ·rcases h.i with q|⟨x,hx,q⟩
  ·exact .inl q
  ·exact .inr ⟨x,by simp[hx],q⟩
 ·rcases List.mem_append.1 hx with hx|hx
  ·exact h.m x hx h2
  ·rw[List.mem_singleton]at hx;subst hx;exact absurd h2 h1
theorem lZ.ext{r r':bM}{L L':List ab}(h:lZ r L)(h':lZ r' L')(hm: ∀e,e∈L↔e∈L'):r=r':=by
 have key: ∀{r r':bM} {L L':List ab},lZ r L→lZ r' L'→(∀e,e∈L↔e∈L')→ ¬uI r r':=fun{r r' L L'} h h' hm=>by
  rcases h'.i with q|⟨x,hx,h1,q⟩
  ·rw[q];exact h.z
  ·rw[q];exact h.m x ((hm x).2 hx) h1
 exact CL (key h h' hm) (key h' h (fun e=>(hm e).symm))
def sP:List ab→Int
 | []=>0
 |e::l=>(if e.act=2∧0≤e.val then e.val else 0)+sP l
def sM:List ab→Int
 | []=>0
 |e::l=>(if e.act=2∧e.val<0 then 0 - e.val else 0)+sM l
theorem uJ: ∀(l m:List ab),sP (l++m)=sP l+sP m
 | [],m=>by simp[sP]
 |e::l,m=>by rw[List.cons_append,sP,sP,uJ l m];omega
theorem uK: ∀(l m:List ab),sM (l++m)=sM l+sM m
 | [],m=>by simp[sM]
 |e::l,m=>by rw[List.cons_append,sM,sM,uK l m];omega
theorem CM{l m:List ab}(h:l.Perm m):sP l=sP m:=by
 induction h with
 |nil=>rfl
 |cons x _ ih=>simp only[sP,ih]
 |swap x y l=>simp only[sP];omega
 |trans _ _ h1 h2=>exact h1.trans h2
theorem CN{l m:List ab}(h:l.Perm m):sM l=sM m:=by
 induction h with
 |nil=>rfl
 |cons x _ ih=>simp only[sM,ih]
 |swap x y l=>simp only[sM];omega
 |trans _ _ h1 h2=>exact h1.trans h2
theorem Et: ∀{l:List ab},(∀e∈l,e.act=2→ -1073741824≤e.val∧e.val≤1073741824)→0≤sP l∧sP l≤1073741824*l.length∧0≤sM l∧sM l≤1073741824*l.length
 | [],_=>by simp[sP,sM]
 |e::l,h=>by
  have ih:=Et (l:=l) (fun x hx=>h x (by simp[hx]));have he:=h e (by simp);simp only[sP,sM,List.length_cons];split<;>split<;>omega
structure fJ(s:aY):Prop where
 la:s.adds.length≤4096
 lg:s.gone.length≤4096
 ta: ∀a∈s.adds,bc a.tag=0
 tg: ∀t∈s.gone,bc t=0
 ra:bJ (s.adds.map (·.tag))
 rg:bJ s.gone
 el: ∀a∈s.adds,fb a.elem=true
 dj: ∀a∈s.adds,a.tag∉s.gone
theorem l4{t:af}(h:bc t=0):cA t=false:=by unfold cA;rw[h];rfl
theorem tf{l:List af}(h: ∀t∈l,bc t=0): ¬l.any cA=true:=fun q=>by
 obtain⟨a,ha,h2⟩:=List.any_eq_true.1 q;rw[l4 (h a ha)]at h2;cases h2
theorem im{s:aY}(h:fJ s):dx s=0:=by
 unfold dx;rw[if_neg (by have:=h.la;have:=h.lg;omega),if_neg (by
  rw[jR,dB];rintro(q|q)
  ·obtain⟨a,ha,h2⟩:=List.any_eq_true.1 q;have h2:cA a.tag=true:=h2;rw[l4 (h.ta a ha)]at h2;cases h2
  ·exact tf h.tg q),if_neg (by
  rintro(q|q)
  ·exact q ⟨(pB s.adds).2 h.ra,(iF s.gone).2 h.rg⟩
  ·rw[jR]at q;obtain⟨a,ha,h2⟩:=List.any_eq_true.1 q;have h2:(!fb a.elem||(cJ s.gone a.tag ae).2)=true:=h2;rw[rf h.rg,h.el a ha]at h2;simp at h2;exact h.dj a ha h2)]
theorem mX{s:aY}(h:fJ s){a:ba}(ht:bc a.tag=0)(he:fb a.elem=true)(hl:s.adds.length<4096)(hf:a.tag∉s.adds.map (·.tag)):
  fc s a=(⟨if a.tag∈s.gone then s.adds else nA (·.tag) s.adds a,s.gone⟩,0):=by
 have hb:(ef s.adds a.tag fun(t:ba) (t':af)=>de t t')=_:=pC h.ra a.tag;have hg:(j4 s a.tag=true)↔a.tag∈s.gone:=by
  show((cJ s.gone a.tag ae).2=true)↔_
  rw[rf h.rg,decide_eq_true_eq]
 unfold fc;rw[if_pos (im h),if_neg (by rw[l4 ht];simp),if_pos he,hb];by_cases c5:a.tag∈s.gone
 ·rw[if_pos (.inr (hg.2 c5)),if_pos c5]
 ·rw[if_neg (fun q=>q.elim (fun q=>hf (of_decide_eq_true q)) (fun q=>c5 (hg.1 q))),if_neg c5,if_neg (by omega)];unfold gu nA oN;simp only[Int.toNat_natCast,we,rj]
def fj(g l:List af):List af:=dd (aV ae (g++l))
theorem eW(g l:List af):bJ (fj g l)∧(∀t,t∈fj g l↔t∈g∨t∈l)∧(fj g l).length≤g.length+l.length:=by
 have h:=pD (g++l);refine⟨h.1,fun t=>(h.2 t).trans List.mem_append,?_⟩;have:=zt (aV ae (g++l))
 rwa [c7,List.length_append]at this
theorem kU{s:aY}(h:fJ s){l:List af}(hl: ∀t∈l,bc t=0)(hn:l.length≤4096)(hg:s.gone.length+l.length≤4096):
  dV s l=(⟨s.adds.filter (fun a=>!decide (a.tag∈fj s.gone l)),fj s.gone l⟩,0):=by
 have hf:=eW s.gone l;have hd:dd (aV (fun(t t':af)=>ae t t') (s.gone++l))=fj s.gone l:=rfl;unfold dV;rw[if_pos (im h),if_neg (by omega),if_neg (by rw[dB];exact tf hl),hd];rw[if_neg (show ¬4096<((fj s.gone l).length:Int)by omega)];refine congrArg (fun x=>((⟨x,fj s.gone l⟩:aY),(0:Int))) ?_;apply List.filter_congr;intro a ha;congr 1;show(cJ (fj s.gone l) a.tag ae).2=_
 rw[rf hf.1]
structure fK(s:be):Prop where
 la:s.puts.length≤4096
 lg:s.gone.length≤4096
 ta: ∀a∈s.puts,bc a.tag=0
 tg: ∀t∈s.gone,bc t=0
 ra:bJ (s.puts.map (·.tag))
 rg:bJ s.gone
 el: ∀a∈s.puts,eJ a=true
 dj: ∀a∈s.puts,a.tag∉s.gone
theorem io{s:be}(h:fK s):dA s=0:=by
 unfold dA;rw[if_neg (by have:=h.la;have:=h.lg;omega),if_neg (by
  rw[dB,dB,oL];rintro(q|q)
  ·refine tf (l:=s.puts.map (·.tag)) (fun t ht=>?_) q;obtain⟨a,ha,rfl⟩:=List.mem_map.1 ht;exact h.ta a ha
  ·exact tf h.tg q),if_neg (by
  rw[oL,s7,s7,iF,iF];rintro(q|q)
  ·exact q h.ra
  ·exact q h.rg)]
 obtain⟨q5,l5⟩:=kb s.puts (fun p=>eJ p&&!decide (p.tag∈s.gone)) 3 (fB s) (fun fuel i _=>by
  rw[fB,uE h.rg];split
  ·by_cases x1:eJ (ix s.puts i)=true<;>by_cases x2:(ix s.puts i).tag∈s.gone<;>simp[x1,x2]
  ·rfl)
 rw[l5,if_pos (by
  rw[List.all_eq_true];intro a ha;simp[h.el a ha,h.dj a ha])]
theorem jS{s:be}(h:fK s){a:bt}(ht:bc a.tag=0)(he:eJ a=true)(hl:s.puts.length<4096)(hf:a.tag∉s.puts.map (·.tag)):
  dg s a=(⟨if a.tag∈s.gone then s.puts else nA (·.tag) s.puts a,s.gone⟩,0):=by
 have hmo:ff s=(s.puts,s.gone):=rfl;have hb:(cJ (ej s.puts) a.tag fun(t t':af)=>ae t t')=(((s.puts.takeWhile (fun x=>bj x.tag a.tag)).length:Int),decide (a.tag∈s.puts.map (·.tag))):=by
  rw[oL];have:=uG h.ra a.tag;rw[GA]at this;exact this
 unfold dg;rw[if_pos (io h),if_neg (by rw[show dP a.tag=cA a.tag from rfl,l4 ht];simp),if_pos he,hmo,hb,uE h.rg];simp only[decide_eq_true_eq];by_cases c5:a.tag∈s.gone
 ·rw[if_pos (.inr c5),if_pos c5]
 ·rw[if_neg (fun q=>q.elim hf c5),if_neg c5,if_neg (by omega)];unfold gu nA oN;simp only[Int.toNat_natCast,we,rj]
theorem kV{s:be}(h:fK s){l:List af}(hl: ∀t∈l,bc t=0)(hn:l.length≤4096)(hg:s.gone.length+l.length≤4096):
  dW s l=(⟨s.puts.filter (fun a=>!decide (a.tag∈fj s.gone l)),fj s.gone l⟩,0):=by
 have hf:=eW s.gone l;have hd:dd (aV (fun(t t':af)=>ae t t') (s.gone++l))=fj s.gone l:=rfl;unfold dW;rw[if_pos (io h),if_neg (by omega),if_neg (by rw[dB];exact tf hl),hd];rw[if_neg (show ¬4096<((fj s.gone l).length:Int)by omega)];refine congrArg (fun x=>((⟨x,fj s.gone l⟩:be),(0:Int))) ?_;apply List.filter_congr;intro a ha;congr 1;show kP (fj s.gone l) a.tag=_
 rw[uE hf.1]
theorem GB(x y:Int):mQ x y=if x<y then -1 else if y<x then 1 else 0:=by unfold mQ mN;simp
theorem zC(a b:Int):iQ [a,b]=if a=0 then b else a:=by
 unfold iQ;rw[show(((([a,b]:List Int).length:Int)-(0:Int)).toNat+1)=3 from rfl];simp only[gA,ix,List.length_cons,List.length_nil];by_cases ha:a=0<;>by_cases hb:b=0<;>simp[ha,hb]
theorem th(a b:bM):(uI a b→gN a b=b)∧(¬uI a b→gN a b=a):=by
 have:(fH [fy a.at_ b.at_,mQ a.val b.val]<0)↔uI a b:=by
  rw[mR,GB];unfold fy;rw[mR,q9,lT];unfold uI;by_cases h1:a.at_.time<b.at_.time
  ·simp[h1]
  ·by_cases h2:b.at_.time<a.at_.time
   ·simp[h1,h2];omega
   ·by_cases h3:a.at_.origin<b.at_.origin
    ·have e:a.at_.time=b.at_.time:=by omega
     simp[h3,e]
    ·by_cases h4:b.at_.origin<a.at_.origin
     ·have e:a.at_.time=b.at_.time:=by omega
      simp[h3,h4,e];omega
     ·have e:a.at_.time=b.at_.time:=by omega
      have e2:a.at_.origin=b.at_.origin:=by omega
      by_cases h5:a.val<b.val
      ·simp[e,e2,h5]
      ·by_cases h6:b.val<a.val
       ·simp[e,e2,h5,h6]
       ·simp[e,e2,h5,h6]
 unfold gN;exact⟨fun h=>if_pos (this.2 h),fun h=>if_neg (fun q=>h (this.1 q))⟩
theorem nh{r:bM}{L:List ab}{e:ab}(h:lZ r L)(h0:db r.at_=0)(h1:db e.at_=0)(h2:0<e.at_.time)(ha:e.act=1): ∃r',dy r e.val e.at_=(r',0)∧lZ r' (L++ [e])∧db r'.at_=0:=by
 refine⟨gN r (HU e),?_,?_⟩
 ·unfold dy;rw[if_pos (by rw[zC,if_pos h0];exact h1),if_neg (by omega)];rfl
 ·by_cases q:uI r (HU e)
  ·rw[(th r (HU e)).1 q];refine⟨⟨.inr ⟨e,by simp,ha,rfl⟩,?_,fun x hx hx1=>?_⟩,h1⟩
   ·have:=h.z;unfold uI at*;omega
   ·rcases List.mem_append.1 hx with hx|hx
    ·have:=h.m x hx hx1;unfold uI at*;omega
    ·rw[List.mem_singleton]at hx;subst hx;exact wg _
  ·rw[(th r (HU e)).2 q];refine⟨⟨?_,h.z,fun x hx hx1=>?_⟩,h0⟩
   ·rcases h.i with g|⟨x,hx,g⟩
    ·exact .inl g
    ·exact .inr ⟨x,by simp[hx],g⟩
   ·rcases List.mem_append.1 hx with hx|hx
    ·exact h.m x hx hx1
    ·rw[List.mem_singleton]at hx;subst hx;exact q
theorem oO{a b:Int}(h1:0≤a)(h2:0≤b)(h3:a+b≤1125899906842624):eM a b=(a+b,0):=by
 rw[CH (by omega),if_pos (by omega)]
theorem xn{n:bY}(h:eI n=0):0≤n.plus∧n.plus≤1125899906842624∧0≤n.minus∧n.minus≤1125899906842624:=by
 rw[tc]at h;split at h
 ·assumption
 ·cases h
theorem ni{n:bY}{d:Int}(h:eI n=0)(h1: -1073741824≤d∧d≤1073741824)(h2:n.plus≤100000000000∧n.minus≤100000000000):df n d=(⟨n.plus+(if 0≤d then d else 0),n.minus+(if d<0 then 0 - d else 0)⟩,0):=by
 have hc:=xn h;unfold df;rw[if_pos h,if_neg (by omega)];by_cases hd:d<0
 ·rw[if_pos hd,oO (by omega) (by omega) (by omega),if_pos rfl,if_pos hd,if_neg (show ¬0≤d by omega),Int.add_zero,Int.zero_sub]
 ·rw[if_neg hd,oO (by omega) (by omega) (by omega),if_pos rfl,if_neg hd,if_pos (show 0≤d by omega),Int.add_zero]
structure jD(k:Int)(e:ab):Prop where
 c:bm e=0
 k:bB e.act=k
 t:e.tags.length≤100
structure Eu(e:ab):Prop where
 tag:bc e.tag=0
 tags: ∀t∈e.tags,bc t=0
 at_:e.act=1∨e.act=5→db e.at_=0∧0<e.at_.time
 name:e.act=3∨e.act=5→fb e.name=true
 val:e.act=2→ -1073741824≤e.val∧e.val≤1073741824
theorem GD{a:Int}(h:a=1∨a=5):(dO a).at_=true:=by rcases h with rfl|rfl<;>rfl
theorem GE{a:Int}(h:a=3∨a=5):(dO a).name=true:=by rcases h with rfl|rfl<;>rfl
theorem d7{e:ab}(h:bm e=0):Eu e:=by
 unfold bm at h;split at h
 ·rename_i h0;split at h
  ·cases h
  rename_i h1;split at h
  ·cases h
  split at h
  ·cases h
  rename_i h2;have t1: ¬dH e.tag=true:=fun q=>h1 (.inl q);have t2: ¬(bS e.tags fun(t:af)=>dH t)=true:=fun q=>h1 (.inr q);unfold fX at h0;split at h0
  ·cases h0
  split at h0
  ·cases h0
  rename_i o1;split at h0
  ·cases h0
  split at h0
  ·cases h0
  split at h0
  ·cases h0
  rename_i o4;refine⟨by unfold dH at t1;simpa using t1,fun t ht=>?_,fun ha=>?_,fun ha=>?_,fun ha=>?_⟩
  ·rw[dB]at t2;have:=t2;simp only[Bool.not_eq_true,List.any_eq_false]at this;have:=this t ht;unfold dH at this;simpa using this
  ·have hq:=GD ha;have hq2:iT e.at_=true:=Classical.byContradiction fun q=>h2 (.inl (.inl ⟨hq,q⟩));unfold iT at hq2;simpa using hq2
  ·exact Classical.byContradiction fun q=>o1 ⟨GE ha,q⟩
  ·have o4: ¬(e.act=2∧(e.val< -1073741824∨1073741824<e.val)):=o4;omega
 ·rename_i h0;exact absurd h h0
def CO(e:ab):ba:=⟨e.tag,e.name⟩
def zD(e:ab):bt:=⟨e.tag,e.name,e.val,e.at_⟩
structure eD(k:Int)(s:az)(L:List ab):Prop where
 kd:s.kind=k
 r:lZ s.reg L
 p:s.num.plus=sP L
 m:s.num.minus=sM L
 st:g8 (·.tag) CO 3 4 s.set.adds s.set.gone L
 mp:g8 (·.tag) zD 5 6 s.map.puts s.map.gone L
theorem tk:db (⟨0,0⟩:aA)=0:=by decide
section
variable {k:Int} {s s':az} {L L':List ab} {e:ab}
theorem eD.reg0(h:eD k s L)(hg: ∀x∈L,jD k x):db s.reg.at_=0:=by
 rcases h.r.i with q|⟨x,hx,ha,q⟩
 ·rw[q];exact tk
 ·rw[q];exact((d7 (hg x hx).c).at_ (.inl ha)).1
theorem eD.set0(h:eD k s L)(hg: ∀x∈L,jD k x)(hl:L.length≤40):fJ s.set:=by
 have hn:=h.st.n;have hgo:=h.st.g;refine⟨by omega,by omega,fun a ha=>?_,fun t ht=>?_,h.st.ra,h.st.rg,fun a ha=>?_,h.st.dj⟩
 ·obtain⟨⟨x,hx,_,rfl⟩,_⟩:=(h.st.ma a).1 ha;exact(d7 (hg x hx).c).tag
 ·obtain⟨x,hx,_,h2⟩:=(h.st.mg t).1 ht;exact(d7 (hg x hx).c).tags t h2
 ·obtain⟨⟨x,hx,ha3,rfl⟩,_⟩:=(h.st.ma a).1 ha;exact(d7 (hg x hx).c).name (.inl ha3)
theorem ka{e:ab}(h:Eu e)(ha:e.act=5):eJ (zD e)=true:=by
 have h1:=h.name (.inr ha);have h2:=h.at_ (.inr ha);unfold fb at h1;unfold eJ zD;simp only[Bool.and_eq_true,decide_eq_true_eq]at h1⊢;exact⟨⟨h1,h2.1⟩,h2.2⟩
theorem eD.map0(h:eD k s L)(hg: ∀x∈L,jD k x)(hl:L.length≤40):fK s.map:=by
 have hn:=h.mp.n;have hgo:=h.mp.g;refine⟨by omega,by omega,fun a ha=>?_,fun t ht=>?_,h.mp.ra,h.mp.rg,fun a ha=>?_,h.mp.dj⟩
 ·obtain⟨⟨x,hx,_,rfl⟩,_⟩:=(h.mp.ma a).1 ha;exact(d7 (hg x hx).c).tag
 ·obtain⟨x,hx,_,h2⟩:=(h.mp.mg t).1 ht;exact(d7 (hg x hx).c).tags t h2
 ·obtain⟨⟨x,hx,ha3,rfl⟩,_⟩:=(h.mp.ma a).1 ha;exact ka (d7 (hg x hx).c) ha3
theorem eD.num0(h:eD k s L)(hg: ∀x∈L,jD k x)(hl:L.length≤40):eI s.num=0∧s.num.plus≤100000000000∧s.num.minus≤100000000000:=by
 have hb:=Et (l:=L) (fun x hx ha=>(d7 (hg x hx).c).val ha);have h1:=h.p;have h2:=h.m;refine⟨?_,by omega,by omega⟩;rw[tc,if_pos (by omega)]
theorem eD.ext(h:eD k s L)(h':eD k s' L')(hp:L.Perm L'):s=s':=by
 have hm: ∀x,x∈L↔x∈L':=fun x=>hp.mem_iff;have e1:=h.st.ext h'.st hm;have e2:=h.mp.ext h'.mp hm;have e3:=h.r.ext h'.r hm;have e4:=h.p.trans ((CM hp).trans h'.p.symm);have e5:=h.m.trans ((CN hp).trans h'.m.symm);have e6:=h.kd.trans h'.kd.symm;obtain⟨a1,a2,⟨a3,a4⟩,⟨a5,a6⟩,⟨a7,a8⟩⟩:=s;obtain⟨b1,b2,⟨b3,b4⟩,⟨b5,b6⟩,⟨b7,b8⟩⟩:=s';simp only at e1 e2 e3 e4 e5 e6;obtain⟨rfl,rfl⟩:=e1;obtain⟨rfl,rfl⟩:=e2;subst e3;subst e4;subst e5;subst e6;rfl
theorem Ev{a k:Int}(h:bB a=k)(h1:1≤k):a=1∨a=2∨a=3∨a=4∨a=5∨a=6:=by
 unfold bB at h
 repeat' split at h
 all_goals omega
theorem iG{l:List ab}{e:ab}(h: ¬e.act=2):sP (l++ [e])=sP l∧sM (l++ [e])=sM l:=by
 rw[uJ,uK];simp[sP,sM,h]
theorem nj(hk:1≤k)(h:eD k s L)(hg: ∀x∈L,jD k x)(he:jD k e)(hf:e.tag∉L.map (·.tag))(hl:L.length<40): ∃s',ay s e=(s',0)∧eD k s' (L++ [e]):=by
 have fe:=d7 he.c;have hkk:bB e.act=s.kind:=he.k.trans h.kd.symm;rcases Ev he.k hk with ha|ha|ha|ha|ha|ha
 ·obtain⟨r',e1,h1,_⟩:=nh h.r (h.reg0 hg) (fe.at_ (.inl ha)).1 (fe.at_ (.inl ha)).2 ha;refine⟨⟨s.kind,r',s.num,s.set,s.map⟩,?_,h.kd,h1,?_,?_,h.st.other (by omega) (by omega),h.mp.other (by omega) (by omega)⟩
  ·have:=(if_pos he.c).trans ((if_pos hkk).trans ((if_pos ha).trans (if_pos (show(dy s.reg e.val e.at_).2=0 by rw[e1]))))|>(show ay s e=(⟨s.kind,(dy s.reg e.val e.at_).1,s.num,s.set,s.map⟩,0)from ·);rw[this,e1]
  ·rw[(iG (by omega)).1];exact h.p
  ·rw[(iG (by omega)).2];exact h.m
 ·have hn:=h.num0 hg (by omega);have e1:=ni hn.1 (fe.val ha) hn.2;refine⟨⟨s.kind,s.reg,(df s.num e.val).1,s.set,s.map⟩,?_,h.kd,h.r.other (by omega),?_,?_,h.st.other (by omega) (by omega),h.mp.other (by omega) (by omega)⟩
  ·exact(if_pos he.c).trans ((if_pos hkk).trans ((if_neg (show ¬e.act=1 by omega)).trans ((if_pos ha).trans (if_pos (show(df s.num e.val).2=0 by rw[e1])))))
  ·simp only[e1];rw[uJ,h.p];simp[sP,ha]
  ·simp only[e1];rw[uK,h.m];simp[sM,ha]
 ·have hs:=h.set0 hg (by omega);have hn:=h.st.n;have hfr:=h.st.fresh (e:=e) (fun _=>rfl) hf;have e1:=mX hs (a:=CO e) fe.tag (fe.name (.inl ha)) (by omega) hfr;refine⟨⟨s.kind,s.reg,s.num,(fc s.set (CO e)).1,s.map⟩,?_,h.kd,h.r.other (by omega),?_,?_,?_,h.mp.other (by omega) (by omega)⟩
  ·exact(if_pos he.c).trans ((if_pos hkk).trans ((if_neg (show ¬e.act=1 by omega)).trans ((if_neg (show ¬e.act=2 by omega)).trans ((if_pos ha).trans (if_pos (show(fc s.set (CO e)).2=0 by rw[e1]))))))
  ·rw[(iG (by omega)).1];exact h.p
  ·rw[(iG (by omega)).2];exact h.m
  ·simp only[e1];exact h.st.put (fun _=>rfl) ha (by omega) hf
 ·have hs:=h.set0 hg (by omega);have hgo:=h.st.g;have ht:=he.t;have e1:=kU hs fe.tags (by omega) (by omega);have hd:=eW s.set.gone e.tags;refine⟨⟨s.kind,s.reg,s.num,(dV s.set e.tags).1,s.map⟩,?_,h.kd,h.r.other (by omega),?_,?_,?_,h.mp.other (by omega) (by omega)⟩
  ·exact(if_pos he.c).trans ((if_pos hkk).trans ((if_neg (show ¬e.act=1 by omega)).trans ((if_neg (show ¬e.act=2 by omega)).trans ((if_neg (show ¬e.act=3 by omega)).trans ((if_pos ha).trans (if_pos (show(dV s.set e.tags).2=0 by rw[e1])))))))
  ·rw[(iG (by omega)).1];exact h.p
  ·rw[(iG (by omega)).2];exact h.m
  ·simp only[e1];exact h.st.drop ha (by omega) hd.1 hd.2.1 hd.2.2 ht
 ·have hs:=h.map0 hg (by omega);have hn:=h.mp.n;have hfr:=h.mp.fresh (e:=e) (fun _=>rfl) hf;have e1:=jS hs (a:=zD e) fe.tag (ka fe ha) (by omega) hfr;refine⟨⟨s.kind,s.reg,s.num,s.set,(dg s.map (zD e)).1⟩,?_,h.kd,h.r.other (by omega),?_,?_,h.st.other (by omega) (by omega),?_⟩
  ·exact(if_pos he.c).trans ((if_pos hkk).trans ((if_neg (show ¬e.act=1 by omega)).trans ((if_neg (show ¬e.act=2 by omega)).trans ((if_neg (show ¬e.act=3 by omega)).trans ((if_neg (show ¬e.act=4 by omega)).trans ((if_pos ha).trans (if_pos (show(dg s.map (zD e)).2=0 by rw[e1]))))))))
  ·rw[(iG (by omega)).1];exact h.p
  ·rw[(iG (by omega)).2];exact h.m
  ·simp only[e1];exact h.mp.put (fun _=>rfl) ha (by omega) hf
 ·have hs:=h.map0 hg (by omega);have hgo:=h.mp.g;have ht:=he.t;have e1:=kV hs fe.tags (by omega) (by omega);have hd:=eW s.map.gone e.tags;refine⟨⟨s.kind,s.reg,s.num,s.set,(dW s.map e.tags).1⟩,?_,h.kd,h.r.other (by omega),?_,?_,h.st.other (by omega) (by omega),?_⟩
  ·exact(if_pos he.c).trans ((if_pos hkk).trans ((if_neg (show ¬e.act=1 by omega)).trans ((if_neg (show ¬e.act=2 by omega)).trans ((if_neg (show ¬e.act=3 by omega)).trans ((if_neg (show ¬e.act=4 by omega)).trans ((if_neg (show ¬e.act=5 by omega)).trans ((if_pos ha).trans (if_pos (show(dW s.map e.tags).2=0 by rw[e1])))))))))
  ·rw[(iG (by omega)).1];exact h.p
  ·rw[(iG (by omega)).2];exact h.m
  ·simp only[e1];exact h.mp.drop ha (by omega) hd.1 hd.2.1 hd.2.2 ht
end
def zO(k:Int):az:=⟨k,⟨0,⟨0,0⟩⟩,⟨0,0⟩,⟨[],[]⟩,⟨[],[]⟩⟩
theorem GF{k:Int}(h1:1≤k)(h2:k≤4):eN k=(zO k,0):=by
 unfold eN;rw[if_neg (by omega)];rfl
theorem zF(k:Int):eD k (zO k) []:=⟨rfl,lZ.nil,rfl,rfl,g8.nil,g8.nil⟩
theorem eD.small{k:Int}{s:az}{L:List ab}(h:eD k s L)(hl:L.length≤40):s.set.adds.length≤1000000∧s.set.gone.length≤1000000∧s.map.puts.length≤1000000∧s.map.gone.length≤1000000:=by
 have:=h.st.n;have:=h.st.g;have:=h.mp.n;have:=h.mp.g;omega
end Go.Proofs.YtiliglahlfkikaaGreatDoor.V
end

section
set_option linter.unusedVariables false
set_option linter.unusedSimpArgs false
set_option maxRecDepth 20000
set_option maxHeartbeats 4000000
namespace Go.Proofs.YtiliglahlfkikaaGreatDoor.V
open Go.RowKit
def lW(c:Int):Bool:=
 decide (127<c)||!kO (c%256)
def Qi:bh U:=⟨[.d (.int .i32)],fun xs es K=> ∃(c:Int),xs= [⟨false,[(1,.d (.int .i32) c)]⟩]∧es= []∧K (.v (vb (lW c))) []⟩
theorem Qj:Fk 69 Qi:=by
 refine fo Tryz.f69 [.d .bool] [] (aa Ps aj) fun xs es K=>?_;rintro⟨c,rfl,rfl,h⟩;refine⟨rfl,?_⟩;have hf0:=lW.eq_1 c;refine .inr ?_;refine⟨_,fun _=>⟨_,rfl,rfl,rfl,rfl⟩,rfl,?_⟩;exact e0
def jQ(s:List UInt8):Nat→Int→(Int×Int)⊕(Int)
 |0,s14=> .inr s14
 |n1+1,s14=>
  if s14<((Lib.split s [(47:UInt8)]).length:Int)then
   if(ix (Lib.split s [(47:UInt8)]) s14= [])∨(0≤iM (ix (Lib.split s [(47:UInt8)]) s14) fun(t:Int)=>lW t)then
    .inl (0,3)
   else
    jQ s n1 (s14+1)
  else
   .inr s14
def fI(s:List UInt8):Int×Int:=
 if 24<(s.length:Int)then
  (0,8)
 else
  match jQ s ((((Lib.split s [(47:UInt8)]).length:Int)- 0).toNat+1) 0 with
  | .inl r=>r
  | .inr s14=>
   if((ix (ix (Lib.split s [(47:UInt8)]) (((Lib.split s [(47:UInt8)]).length:Int)- 1)) 0).toNat:Int)=114 then
    (1,0)
   else
    if((ix (ix (Lib.split s [(47:UInt8)]) (((Lib.split s [(47:UInt8)]).length:Int)- 1)) 0).toNat:Int)=99 then
     (2,0)
    else
     if((ix (ix (Lib.split s [(47:UInt8)]) (((Lib.split s [(47:UInt8)]).length:Int)- 1)) 0).toNat:Int)=115 then
      (3,0)
     else
      if((ix (ix (Lib.split s [(47:UInt8)]) (((Lib.split s [(47:UInt8)]).length:Int)- 1)) 0).toNat:Int)=109 then
       (4,0)
      else
       (0,5)
def Qk:bh U:=⟨[.d .str],fun xs es K=> ∃(s:List UInt8),xs= [(vt s)]∧es= []∧(s.length≤1000000)∧K (.tup [(vi ((fI s).1)),(vi ((fI s).2))]) []⟩
theorem Oq:Fk 31 Qk:=by
 refine fo Tryz.f31 [.d (.int .i64),.d (.int .i64)] [] (aa QA (aa QC (aa Qj aj))) fun xs es K=>?_;rintro⟨s,rfl,rfl,h1,h⟩;refine⟨rfl,?_⟩;have hf0:=fI.eq_1 s;refine fl (x:=s.length) fun _=>?_;refine wI hf0 (fun h1 hf0=>e0) fun h1 hf0=>?_;refine⟨_,_,rfl,rfl,(by omega),(by(simp only[List.length_append,List.length_cons,List.length_nil];omega)),?_⟩;refine fl (x:=(Lib.split s [(47:UInt8)]).length) fun _=>?_;refine lI 0 (fun(s14:Int)=> [(2,.v (vi 0)),(3,.v (vi 0)),(4,.v (HN (Lib.split s [(47:UInt8)]))),(12,.v (HN (Lib.split s [(47:UInt8)]))),(13,.v (vi ((Lib.split s [(47:UInt8)]).length:Int))),(14,.v (vi s14))]) (fun(s14:Int)=> []) (fun(s14:Int)=>(((Lib.split s [(47:UInt8)]).length:Int)- s14).toNat) (fun(s14:Int)=>(0≤s14)∧(s14≤((Lib.split s [(47:UInt8)]).length:Int))∧(∀j:Int,0≤j→j<s14→ix (Lib.split s [(47:UInt8)]) j≠ [])∧True) (fun n1 (s14:Int)=>jQ s n1 s14) (jQ s ((((Lib.split s [(47:UInt8)]).length:Int)- 0).toNat+1) 0) [] (0:Int) ?_ (hi:=⟨show(0:Int)≤(0:Int)from by omega,show(0:Int)≤(↑(Lib.split s [(47:UInt8)]).length:Int)from by omega,show ∀(j:Int),(0:Int)≤j→j<(0:Int)→ix (Lib.split s [(47:UInt8)]) j≠ []from by omega,trivial⟩);rintro s14 ⟨n1,hc1,⟨hi1_0,hi1_1,hi1_2,-⟩,hf1⟩;have hf1:=hf1.trans (jQ.eq_2 s s14 n1);refine wI hf1 (fun _ hf1=>?_) fun _ hf1=>?_
 ·refine vx s14 (Lib.split s [(47:UInt8)]) ?_;refine⟨_,fun _=>⟨fun(t:Int)=>lW t,fun t0=>⟨_,rfl,rfl,rfl,rfl⟩,_,_,rfl,rfl,rfl,rfl⟩,rfl,?_⟩;refine wI hf1 (fun _ hf1=>e1) fun _ hf1=>?_;refine ez ?_;exact nx [] (s14+1) hc1 hf1 (hi:=⟨show(0:Int)≤s14+(1:Int)from by omega,show s14+(1:Int)≤(↑(Lib.split s [(47:UInt8)]).length:Int)from by omega,show ∀(j:Int),(0:Int)≤j→j<s14+(1:Int)→ix (Lib.split s [(47:UInt8)]) j≠ []from by(intro j hj1 hj2;rcases(show j<s14∨j=s14 by omega)with hh|rfl;(· exact hi1_2 j hj1 hh);(· intro he;simp_all)),trivial⟩)
 ·rw[hf1]at hf0;refine fl (x:=(Lib.split s [(47:UInt8)]).length) fun _=>?_;refine ez ?_;refine vs (P:=0≤((Lib.split s [(47:UInt8)]).length:Int)- 1∧((Lib.split s [(47:UInt8)]).length:Int)- 1<((Lib.split s [(47:UInt8)]).length:Int)) ?_ (by(have hp:=kL (s:=s) (sep:= [(47:UInt8)]) (by decide);omega));refine vs (P:=(0:Int)≤(0:Int)∧(0:Int)<((ix (Lib.split s [(47:UInt8)]) (((Lib.split s [(47:UInt8)]).length:Int)-(1:Int))).length:Int)) ?_ (by(have hp:=kL (s:=s) (sep:= [(47:UInt8)]) (by decide);have hq:=hi1_2 ((↑(Lib.split s [(47:UInt8)]).length:Int)- 1) (by omega) (by omega);have:=List.length_pos_iff.2 hq;omega));exact wI hf0 (fun _ hf0=>e0) fun _ hf0=>wI hf0 (fun _ hf0=>e0) fun _ hf0=>wI hf0 (fun _ hf0=>e0) fun _ hf0=>wI hf0 (fun _ hf0=>e0) fun _ hf0=>e0
end Go.Proofs.YtiliglahlfkikaaGreatDoor.V
end

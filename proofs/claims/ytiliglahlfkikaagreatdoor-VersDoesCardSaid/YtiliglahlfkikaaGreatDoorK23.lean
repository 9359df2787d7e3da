/- What data that is handed in brings: of effects and of acts. -/
import Derived.Test.YtiliglahlfkikaaGreatDoorK21
import Derived.Test.YtiliglahlfkikaaGreatDoorK22
import Derived.Test.YtiliglahlfkikaaGreatDoorK14
import Derived.Test.YtiliglahlfkikaaGreatDoorK20
section
set_option linter.unusedVariables false
set_option linter.unusedSimpArgs false
set_option maxRecDepth 20000
set_option maxHeartbeats 4000000
namespace Go.Proofs.YtiliglahlfkikaaGreatDoor.V
open Go.RowKit
def kG(x:bS)(t:ae):Nat→Int→Bool⊕(Int)
 |0,s5=> .inr s5
 |n1+1,s5=>
  if s5<(x.seen.length:Int)then
   if ix x.seen s5=t then
    .inl true
   else
    kG x t n1 (s5+1)
  else
   .inr s5
def fQ(x:bS)(t:ae):Bool:=
 match kG x t (((x.seen.length:Int)- 0).toNat+1) 0 with
 | .inl r=>r
 | .inr s5=>
  false
def Rk:bf U:=⟨[.p [(20,some (.st 11))],.d (.st 1)],fun xs es K=> ∃(x:bS) (t:ae),xs= [(vp 0),(qF t)]∧es= [.cells [(20,.d (.st 11) x)] 84]∧K (.v (vb (fQ x t))) [.cells [(20,.d (.st 11) x)] 84]⟩
theorem LA:Fk 23 Rk:=by
 refine fo Tryz.f23 [.d .bool] [(0,[(20,some (.st 11))])] (ah) fun xs es K=>?_;rintro⟨x,t,rfl,rfl,h⟩;refine⟨rfl,?_⟩;have hf0:=fQ.eq_1 x t;refine lI 2 (fun(s5:Int)=> [(0,.v (vp 0)),(3,.v (vp 1)),(4,.v (vb false)),(5,.v (vi s5))]) (fun(s5:Int)=> [(0,.cells [(20,.d (.st 11) x)] 84),(1,.cells [(3,.d (.st 1) t)] 34)]) (fun(s5:Int)=>((x.seen.length:Int)- s5).toNat) (fun(s5:Int)=>(0≤s5)∧(s5≤(x.seen.length:Int))∧True) (fun n1 (s5:Int)=>kG x t n1 s5) (kG x t (((x.seen.length:Int)- 0).toNat+1) 0) [] (0:Int) ?_;rintro s5 ⟨n1,hc1,⟨hi1_0,hi1_1,-⟩,hf1⟩;have hf1:=hf1.trans (kG.eq_2 x t s5 n1);refine fl (x:=x.seen.length) fun _=>?_;refine wI hf1 (fun _ hf1=>?_) fun _ hf1=>e1;refine dp (up 9) none (nw 2) ?_;refine vx s5 x.seen ?_;refine wI hf1 (fun _ hf1=>e1) fun _ hf1=>?_;refine bY ?_;exact nx [] (s5+1) hc1 hf1
def kH(x:bS)(e:af):Nat→Int→(Int×bS)⊕(Int)
 |0,s8=> .inr s8
 |n1+1,s8=>
  if(s8<(x.l.length:Int))∧(aG (ix x.l s8).tag e.tag<0)then
   kH x e n1 (s8+1)
  else
   .inr s8
def bV(x:bS)(e:af):Int×bS:=
 if dV e=0 then
  if cX e.act=x.s.kind then
   if fQ x e.tag=true then
    (11,x)
   else
    if(x.seen.length:Int)=4096 then
     (4,x)
    else
     if cc x.b e.tag.id=true then
      if(ar x.s e).snd=0 then
       (0,bS.mk (ar x.s e).fst x.b x.l (x.seen++ [e.tag]))
      else
       ((ar x.s e).snd,x)
     else
      match kH x e (((x.l.length:Int)- 0).toNat+1) 0 with
      | .inl r=>r
      | .inr s8=>
       (0,bS.mk x.s x.b (List.take s8.toNat x.l++ [e]++List.drop s8.toNat x.l) (x.seen++ [e.tag]))
  else
   (5,x)
 else
  (dV e,x)
def Rl:bf U:=⟨[.p [(20,some (.st 11))],.d (.st 3)],fun xs es K=> ∃(x:bS) (e:af),xs= [(vp 0),(BG e)]∧es= [.cells [(20,.d (.st 11) x)] 84]∧(x.s.set.adds.length≤4097)∧(x.s.set.gone.length≤4097)∧(x.s.map.puts.length≤4097)∧(x.s.map.gone.length≤4097)∧(x.l.length≤100000)∧(x.seen.length≤100000)∧((fun(r0:Int) (r1:bS)=>r1.s.set.adds.length≤4097∧r1.s.set.gone.length≤4097∧r1.s.map.puts.length≤4097∧r1.s.map.gone.length≤4097∧r1.l.length≤x.l.length+1∧r1.seen.length≤x.seen.length+1) ((bV x e).1) ((bV x e).2)→K (.v (vi ((bV x e).1))) [.cells [(20,.d (.st 11) ((bV x e).2))] 84])⟩
theorem C9:Fk 11 Rl:=by
 refine fo Tryz.f11 [.d (.int .i64)] [(0,[(20,some (.st 11))])] (aa LA (aa GY (aa O0 (aa Me (aa O4 (aa GO ah)))))) fun xs es K=>?_;rintro⟨x,e,rfl,rfl,h1,h2,h3,h4,h5,h6,h⟩;refine⟨rfl,?_⟩;have hf0:=bV.eq_1 x e;refine⟨_,rfl,rfl,?_⟩;refine wN hf0 (fun _ hf0=>?_) fun _ hf0=>?_
 ·rw[hf0]at h;exact h (show((fun(r0:Int) (r1:bS)=>r1.s.set.adds.length≤4097∧r1.s.set.gone.length≤4097∧r1.s.map.puts.length≤4097∧r1.s.map.gone.length≤4097∧r1.l.length≤x.l.length+1∧r1.seen.length≤x.seen.length+1) (dV e) x:Prop)from by omega)
 ·refine dp [(true,0),(true,1),(true,3),(true,4),(true,5),(true,6),(true,7),(false,2),(true,8),(true,9)] none (nw 2) ?_;refine⟨_,rfl,rfl,?_⟩;refine wN hf0 (fun h1 hf0=>?_) fun h1 hf0=>?_
  ·rw[hf0]at h;exact h (show((fun(r0:Int) (r1:bS)=>r1.s.set.adds.length≤4097∧r1.s.set.gone.length≤4097∧r1.s.map.puts.length≤4097∧r1.s.map.gone.length≤4097∧r1.l.length≤x.l.length+1∧r1.seen.length≤x.seen.length+1) (5:Int) x:Prop)from by omega)
  ·refine⟨_,_,rfl,rfl,?_⟩;refine wI hf0 (fun h2 hf0=>?_) fun h2 hf0=>?_
   ·rw[hf0]at h;exact h (show((fun(r0:Int) (r1:bS)=>r1.s.set.adds.length≤4097∧r1.s.set.gone.length≤4097∧r1.s.map.puts.length≤4097∧r1.s.map.gone.length≤4097∧r1.l.length≤x.l.length+1∧r1.seen.length≤x.seen.length+1) (11:Int) x:Prop)from by omega)
   ·refine fl (x:=x.seen.length) fun h3=>?_;refine wI hf0 (fun h4 hf0=>?_) fun h4 hf0=>?_
    ·rw[hf0]at h;exact h (show((fun(r0:Int) (r1:bS)=>r1.s.set.adds.length≤4097∧r1.s.set.gone.length≤4097∧r1.s.map.puts.length≤4097∧r1.s.map.gone.length≤4097∧r1.l.length≤x.l.length+1∧r1.seen.length≤x.seen.length+1) (4:Int) x:Prop)from by omega)
    ·refine dp (up 7) (some 7) (nw 2) ?_;refine⟨_,_,rfl,rfl,?_⟩;refine wI hf0 (fun h5 hf0=>?_) fun h5 hf0=>?_
     ·refine .inr ⟨(.look 0 (.look 1 (.look 2 (.look 3 (.look 4 (.turn 5 (.look 6 (.look 7 (.look 8 (.turn 9 (.turn 10 .fin .nil) .nil)))) (.turn 9 (.turn 5 (.look 6 (.look 7 (.look 8 (.turn 10 .fin .nil)))) .nil) .nil))))))),some 11,[],3,[(0,.v ⟨false,[(1,.ptr 0 0)]⟩),(3,.v ⟨false,[(1,.ptr 1 0)]⟩),(4,.v ⟨false,[(1,.d (.int .i64) (0:Int))]⟩),(6,.v ⟨false,[(1,.ptr 2 0)]⟩),(7,.v ⟨false,[(1,.d (.int .i64) ((ar x.s e).snd))]⟩)],[(0,.cells [(20,.d (.st 11) x)] 84),(1,.cells [(9,.d (.st 3) e)] 39),(2,.cells [(10,.d (.st 10) ((ar x.s e).fst))] 75)],((ar x.s e).fst.set.adds.length≤(4097:Nat)∧(ar x.s e).fst.set.gone.length≤(4097:Nat)∧(ar x.s e).fst.map.puts.length≤(4097:Nat)∧(ar x.s e).fst.map.gone.length≤(4097:Nat))∧True,by kernel_rfl,?_,?_⟩
      ·refine And.intro ?_ ?_
       ·refine⟨_,_,rfl,rfl,(by omega),(by omega),(by omega),(by omega),?_⟩;refine fun h6=>?_;refine And.intro ?_ trivial;refine And.intro ?_ trivial;refine⟨⟨by assumption,trivial⟩,[],?_⟩;repeat (first|exact trivial|refine And.intro rfl ?_)
       refine And.intro ?_ trivial;refine And.intro ?_ trivial;refine⟨_,_,rfl,rfl,(by omega),(by omega),(by omega),(by omega),?_⟩;refine fun _=>?_;refine And.intro ?_ trivial;refine⟨⟨by assumption,trivial⟩,[],?_⟩;repeat (first|exact trivial|refine And.intro rfl ?_)
      rintro⟨h8,-⟩;refine wN hf0 (fun _ hf0=>?_) fun _ hf0=>?_
      ·rw[hf0]at h;exact h (show((fun(r0:Int) (r1:bS)=>r1.s.set.adds.length≤4097∧r1.s.set.gone.length≤4097∧r1.s.map.puts.length≤4097∧r1.s.map.gone.length≤4097∧r1.l.length≤x.l.length+1∧r1.seen.length≤x.seen.length+1) ((ar x.s e).snd) x:Prop)from by omega)
      ·refine .inr ⟨(.look 0 (.look 2 (.look 3 (.look 4 (.look 5 (.look 7 (.look 8 (.turn 1 (.turn 6 (.turn 9 (.turn 10 (.look 11 (.look 12 .fin)) .nil) .nil) (.turn 9 (.turn 6 (.turn 10 (.look 11 (.look 12 .fin)) .nil) .nil) .nil)) (.turn 9 (.turn 1 (.turn 6 (.turn 10 (.look 11 (.look 12 .fin)) .nil) .nil) .nil) .nil))))))))),some 13,[],5,[(4,.v ⟨false,[(1,.d (.int .i64) (0:Int))]⟩)],[(0,.cells [(10,.d (.st 10) ((ar x.s e).fst)),(8,.d (.arr 8 (.int .u32)) x.b),(1,.d (.sl (.st 3)) x.l),(1,.own 3 2)] 84),(3,.row 2 (.st 1) (x.seen++ [e.tag]) 34)],True,by kernel_rfl,?_,?_⟩
       ·refine And.intro ?_ ?_
        ·refine And.intro ?_ ?_
         ·refine vs (P:=((0:Nat)+x.seen.length)*(24:Nat)≤(140737488355328:Nat)) ?_;refine And.intro ?_ trivial;refine And.intro ?_ trivial;refine vs (P:=(x.seen.length+ [e.tag].length)*(24:Nat)≤(140737488355328:Nat)) ?_;refine⟨trivial,[],?_⟩;repeat (first|exact trivial|refine And.intro rfl ?_)
         refine And.intro ?_ trivial;refine And.intro ?_ trivial;refine vs (P:=((0:Nat)+x.seen.length)*(24:Nat)≤(140737488355328:Nat)) ?_;refine And.intro ?_ trivial;refine vs (P:=(x.seen.length+ [e.tag].length)*(24:Nat)≤(140737488355328:Nat)) ?_;refine⟨trivial,[],?_⟩;repeat (first|exact trivial|refine And.intro rfl ?_)
        refine And.intro ?_ trivial;refine And.intro ?_ trivial;refine And.intro ?_ trivial;refine vs (P:=((0:Nat)+x.seen.length)*(24:Nat)≤(140737488355328:Nat)) ?_;refine And.intro ?_ trivial;refine vs (P:=(x.seen.length+ [e.tag].length)*(24:Nat)≤(140737488355328:Nat)) ?_;refine⟨trivial,[(3,4)],?_⟩;repeat (first|exact trivial|refine And.intro rfl ?_)
       refine fun _=>?_;rw[hf0]at h;exact h (by(simp;omega))
     ·refine lI 2 (fun(s8:Int)=> [(0,.v (vp 0)),(3,.v (vp 1)),(4,.v (vi 0)),(8,.v (vi s8))]) (fun(s8:Int)=> [(0,.cells [(20,.d (.st 11) x)] 84),(1,.cells [(9,.d (.st 3) e)] 39)]) (fun(s8:Int)=>((x.l.length:Int)- s8).toNat) (fun(s8:Int)=>(0≤s8)∧(s8≤(x.l.length:Int))∧True) (fun n1 (s8:Int)=>kH x e n1 s8) (kH x e (((x.l.length:Int)- 0).toNat+1) 0) [] (0:Int) ?_;rintro s8 ⟨n1,hc1,⟨hi1_0,hi1_1,-⟩,hf1⟩;have hf1:=hf1.trans (kH.eq_2 x e s8 n1);refine dp [(true,0),(true,1),(true,2),(true,3),(true,4),(true,5),(true,6),(true,7),(true,8),(true,9),(true,10),(true,11),(true,12),(true,13),(true,14),(true,15),(true,16),(true,17),(false,18),(true,19),(true,20)] none (nw 2) ?_;refine fl (x:=x.l.length) fun _=>?_;refine vs (P:=decide (s8<(x.l.length:Int))=((69:Nat),true).snd→0≤s8∧s8<(x.l.length:Int)) ?_ (by(intro h;simp at h;omega));refine⟨_,fun _=>⟨_,_,rfl,rfl,rfl,rfl⟩,rfl,?_⟩;refine wI hf1 (fun _ hf1=>?_) fun _ hf1=>?_
      ·refine bY ?_;exact nx [] (s8+1) hc1 hf1
      ·rw[hf1]at hf0;refine vs (P:=(0:Int)≤(0:Int)∧(0:Int)≤s8∧s8≤(x.l.length:Int)) ?_;refine vs (P:=((0:Nat)+(List.take s8.toNat x.l).length)*(96:Nat)≤(140737488355328:Nat)) ?_ (by(simp;omega));refine vs (P:=((List.take s8.toNat x.l).length+ [e].length)*(96:Nat)≤(140737488355328:Nat)) ?_ (by(simp;omega));refine vs (P:=0≤s8∧s8≤(x.l.length:Int)∧(x.l.length:Int)≤(x.l.length:Int)) ?_;refine vs (P:=((List.take s8.toNat x.l++ [e]).length+(List.drop s8.toNat x.l).length)*(96:Nat)≤(140737488355328:Nat)) ?_ (by(simp;omega));refine .inr ⟨(.look 0 (.look 2 (.look 3 (.look 4 (.look 5 (.look 7 (.look 8 (.turn 1 (.turn 6 (.turn 9 (.turn 10 (.look 11 (.look 12 .fin)) .nil) .nil) (.turn 9 (.turn 6 (.turn 10 (.look 11 (.look 12 .fin)) .nil) .nil) .nil)) (.turn 9 (.turn 1 (.turn 6 (.turn 10 (.look 11 (.look 12 .fin)) .nil) .nil) .nil) .nil))))))))),some 13,[],6,[(4,.v ⟨false,[(1,.d (.int .i64) (0:Int))]⟩)],[(0,.cells [(10,.d (.st 10) x.s),(8,.d (.arr 8 (.int .u32)) x.b),(1,.own 2 3),(1,.own 4 2)] 84),(2,.row 3 (.st 3) (List.take s8.toNat x.l++ [e]++List.drop s8.toNat x.l) 39),(4,.row 2 (.st 1) (x.seen++ [e.tag]) 34)],True,by kernel_rfl,?_,?_⟩
       ·refine And.intro ?_ ?_
        ·refine And.intro ?_ ?_
         ·refine vs (P:=((0:Nat)+x.seen.length)*(24:Nat)≤(140737488355328:Nat)) ?_;refine And.intro ?_ trivial;refine And.intro ?_ trivial;refine vs (P:=(x.seen.length+ [e.tag].length)*(24:Nat)≤(140737488355328:Nat)) ?_;refine⟨trivial,[],?_⟩;repeat (first|exact trivial|refine And.intro rfl ?_)
         refine And.intro ?_ trivial;refine And.intro ?_ trivial;refine vs (P:=((0:Nat)+x.seen.length)*(24:Nat)≤(140737488355328:Nat)) ?_;refine And.intro ?_ trivial;refine vs (P:=(x.seen.length+ [e.tag].length)*(24:Nat)≤(140737488355328:Nat)) ?_;refine⟨trivial,[],?_⟩;repeat (first|exact trivial|refine And.intro rfl ?_)
        refine And.intro ?_ trivial;refine And.intro ?_ trivial;refine And.intro ?_ trivial;refine vs (P:=((0:Nat)+x.seen.length)*(24:Nat)≤(140737488355328:Nat)) ?_;refine And.intro ?_ trivial;refine vs (P:=(x.seen.length+ [e.tag].length)*(24:Nat)≤(140737488355328:Nat)) ?_;refine⟨trivial,[(4,5)],?_⟩;repeat (first|exact trivial|refine And.intro rfl ?_)
       refine fun _=>?_;rw[hf0]at h;exact h (by(simp;omega))
def kI(x:bS)(v:List Int)(more:List af):Nat→Int→Int→az→(az×Int)⊕(Int×Int×az)
 |0,s10,s8,s9_0=> .inr (s10,s8,s9_0)
 |n1+1,s10,s8,s9_0=>
  if s10<(x.l.length:Int)+(more.length:Int)then
   if s10<(x.l.length:Int)then
    if cc v (ix x.l s10).tag.id=true then
     if(ar s9_0 (ix x.l s10)).snd=0 then
      kI x v more n1 (s10+1) ((ar s9_0 (ix x.l s10)).snd) ((ar s9_0 (ix x.l s10)).fst)
     else
      .inl ((az.mk 0 (bi.mk 0 (au.mk 0 0)) (be.mk 0 0) (aC.mk [] []) (aD.mk [] []),(ar s9_0 (ix x.l s10)).snd))
    else
     kI x v more n1 (s10+1) s8 s9_0
   else
    if(ar s9_0 (ix more (s10 -(x.l.length:Int)))).snd=0 then
     kI x v more n1 (s10+1) ((ar s9_0 (ix more (s10 -(x.l.length:Int)))).snd) ((ar s9_0 (ix more (s10 -(x.l.length:Int)))).fst)
    else
     .inl ((az.mk 0 (bi.mk 0 (au.mk 0 0)) (be.mk 0 0) (aC.mk [] []) (aD.mk [] []),(ar s9_0 (ix more (s10 -(x.l.length:Int)))).snd))
  else
   .inr (s10,s8,s9_0)
def bX(x:bS)(v:List Int)(more:List af):az×Int:=
 if dz v=0 then
  if mt x.b v=true then
   match kI x v more (((x.l.length:Int)+(more.length:Int)- 0).toNat+1) 0 (dz v) x.s with
   | .inl r=>r
   | .inr (s10,s8,s9_0)=>
    (s9_0,0)
  else
   (az.mk 0 (bi.mk 0 (au.mk 0 0)) (be.mk 0 0) (aC.mk [] []) (aD.mk [] []),17)
 else
  (az.mk 0 (bi.mk 0 (au.mk 0 0)) (be.mk 0 0) (aC.mk [] []) (aD.mk [] []),dz v)
def Rm:bf U:=⟨[.p [(20,some (.st 11))],.d (.arr 8 (.int .u32)),.d (.sl (.st 3))],fun xs es K=> ∃(x:bS) (v:List Int) (more:List af),xs= [(vp 0),(ic v),(yI more)]∧es= [.cells [(20,.d (.st 11) x)] 84]∧(x.s.set.adds.length≤4097)∧(x.s.set.gone.length≤4097)∧(x.s.map.puts.length≤4097)∧(x.s.map.gone.length≤4097)∧(x.l.length≤100000)∧(x.seen.length≤100000)∧(more.length≤100000)∧((fun(r0:az) (r1:Int)=>r0.set.adds.length≤4097∧r0.set.gone.length≤4097∧r0.map.puts.length≤4097∧r0.map.gone.length≤4097) ((bX x v more).1) ((bX x v more).2)→K (.tup [(ki ((bX x v more).1)),(vi ((bX x v more).2))]) [.cells [(20,.d (.st 11) x)] 84])⟩
theorem BJ:Fk 14 Rm:=by
 refine fo Tryz.f14 [.d (.st 10),.d (.int .i64)] [(0,[(20,some (.st 11))])] (aa GY (aa O4 (aa PO (aa PQ ah)))) fun xs es K=>?_;rintro⟨x,v,more,rfl,rfl,h1,h2,h3,h4,h5,h6,h7,h⟩;refine⟨rfl,?_⟩;have hf0:=bX.eq_1 x v more;refine⟨_,rfl,rfl,?_⟩;refine vN hf0 iD (fun _ hf0=>?_) (fun _ hf0=>?_)
 ·rw[hf0]at h;exact h (show((fun(r0:az) (r1:Int)=>r0.set.adds.length≤4097∧r0.set.gone.length≤4097∧r0.map.puts.length≤4097∧r0.map.gone.length≤4097) (az.mk (0:Int) (bi.mk (0:Int) (au.mk (0:Int) (0:Int))) (be.mk (0:Int) (0:Int)) (aC.mk [] []) (aD.mk [] [])) (dz v):Prop)from by simp)
 ·refine .inl ⟨[(true,0),(true,1),(true,2),(true,3),(true,4),(false,5),(true,6),(true,7)],none,[3,4,5,6,7,8,9,10,11,12,13,14],by kernel_rfl,?_⟩;refine⟨_,_,rfl,rfl,?_⟩;refine vN hf0 (iN iB) (fun h1 hf0=>?_) (fun h1 hf0=>?_)
  ·rw[hf0]at h;exact h (show((fun(r0:az) (r1:Int)=>r0.set.adds.length≤4097∧r0.set.gone.length≤4097∧r0.map.puts.length≤4097∧r0.map.gone.length≤4097) (az.mk (0:Int) (bi.mk (0:Int) (au.mk (0:Int) (0:Int))) (be.mk (0:Int) (0:Int)) (aC.mk [] []) (aD.mk [] [])) (17:Int):Prop)from by simp)
  ·refine⟨Int×Int×az,4,fun(s10,s8,s9_0)=> [(0,.v ⟨false,[(1,.ptr 0 0)]⟩),(2,.v ⟨false,[(1,.d (.sl (.st 3)) more)]⟩),(4,.v ⟨false,[(1,.ptr 1 0)]⟩),(6,.v ⟨false,[(1,.ptr 2 0)]⟩),(7,.v ⟨false,[(1,.d (.int .i64) (0:Int))]⟩),(8,.v ⟨false,[(1,.d (.int .i64) s8)]⟩),(9,.v ⟨false,[(1,.ptr 3 0)]⟩),(10,.v ⟨false,[(1,.d (.int .i64) s10)]⟩)],fun(s10,s8,s9_0)=> [(0,.cells [(20,.d (.st 11) x)] 84),(1,.cells [(8,.d (.arr 8 (.int .u32)) v)] 41),(2,.cells [(1,.d (.int .i64) (0:Int)),(1,.d (.int .i64) (0:Int)),(1,.d (.int .u32) (0:Int)),(1,.d (.int .i64) (0:Int)),(1,.d (.int .i64) (0:Int)),(1,.d (.int .i64) (0:Int)),(1,.nils),(1,.nils),(1,.nils),(1,.nils)] 75),(3,.cells [(10,.d (.st 10) s9_0)] 75)],d5 (fun(s10,s8,s9_0)=>((↑x.l.length:Int)+(↑more.length:Int)- s10).toNat) (fun(s10,s8,s9_0)=>((0:Int)≤s10)∧(s10≤(↑x.l.length:Int)+(↑more.length:Int))∧(s9_0.set.adds.length≤4097)∧(s9_0.set.gone.length≤4097)∧(s9_0.map.puts.length≤4097)∧(s9_0.map.gone.length≤4097)∧True) (fun n1 (s10,s8,s9_0)=>kI x v more n1 s10 s8 s9_0) (kI x v more (((↑x.l.length:Int)+(↑more.length:Int)-(0:Int)).toNat+1) (0:Int) (dz v) x.s),fun(s10,s8,s9_0)=>((↑x.l.length:Int)+(↑more.length:Int)- s10).toNat,⟨[],((0:Int),dz v,x.s),d5.mk0 _ (Nat.lt_succ_self _) ⟨show(0:Int)≤(0:Int)from by omega,show(0:Int)≤(↑x.l.length:Int)+(↑more.length:Int)from by omega,show x.s.set.adds.length≤(4097:Nat)from by omega,show x.s.set.gone.length≤(4097:Nat)from by omega,show x.s.map.puts.length≤(4097:Nat)from by omega,show x.s.map.gone.length≤(4097:Nat)from by omega,trivial⟩ rfl,?_⟩,?_⟩
   ·repeat (first|exact trivial|refine And.intro rfl ?_)
   ·rintro⟨s10,s8,s9_0⟩ ⟨n1,hc1,⟨hi1_0,hi1_1,hi1_2,hi1_3,hi1_4,hi1_5,-⟩,hf1⟩;have hf1:=hf1.trans (kI.eq_2 x v more s10 s8 s9_0 n1);refine fun h2=>?_;have h2:(↑x.l.length:Int)≤(9223372036854775807:Int):=h2.2;refine fun h3=>?_;have h3:(↑more.length:Int)≤(9223372036854775807:Int):=h3.2;refine .inl (And.intro (rD (p:=(↑x.l.length:Int)) (q:=(↑more.length:Int)) (r:=(↑x.l.length:Int)+(↑more.length:Int)) (by omega)) ?_);refine vI hf1 iD (fun h4 hf1=>?_) (fun h4 hf1=>?_)
    ·refine fun h5=>?_;have h5:(↑x.l.length:Int)≤(9223372036854775807:Int):=h5.2;refine vI hf1 iD (fun h6 hf1=>?_) (fun h6 hf1=>?_)
     ·refine And.intro (show(0:Int)≤s10∧s10<(↑x.l.length:Int)from by omega) ?_;refine⟨_,_,rfl,rfl,?_⟩;refine vN hf1 (iN iB) (fun h7 hf1=>?_) (fun h7 hf1=>?_)
      ·refine .inl (And.intro (rD (p:=s10) (q:=(1:Int)) (r:=s10+(1:Int)) (by omega)) ?_);have hm1:((↑x.l.length:Int)+(↑more.length:Int)-(s10+(1:Int))).toNat<((↑x.l.length:Int)+(↑more.length:Int)- s10).toNat:=by omega
       refine⟨[],(s10+(1:Int),s8,s9_0),hm1,d5.next (s:=(s10,s8,s9_0)) hc1 hm1 ⟨show(0:Int)≤s10+(1:Int)from by omega,show s10+(1:Int)≤(↑x.l.length:Int)+(↑more.length:Int)from by omega,show s9_0.set.adds.length≤(4097:Nat)from by omega,show s9_0.set.gone.length≤(4097:Nat)from by omega,show s9_0.map.puts.length≤(4097:Nat)from by omega,show s9_0.map.gone.length≤(4097:Nat)from by omega,trivial⟩ hf1,?_⟩;repeat (first|exact trivial|refine And.intro rfl ?_)
      ·refine⟨_,_,rfl,rfl,(by omega),(by omega),(by omega),(by omega),?_⟩;refine fun _=>?_;refine vN hf1 iD (fun _ hf1=>?_) (fun _ hf1=>?_)
       ·rw[hf1]at hf0;rw[hf0]at h;exact h (show((fun(r0:az) (r1:Int)=>r0.set.adds.length≤4097∧r0.set.gone.length≤4097∧r0.map.puts.length≤4097∧r0.map.gone.length≤4097) (az.mk (0:Int) (bi.mk (0:Int) (au.mk (0:Int) (0:Int))) (be.mk (0:Int) (0:Int)) (aC.mk [] []) (aD.mk [] [])) ((ar s9_0 (ix x.l s10)).snd):Prop)from by simp)
       ·refine .inl (And.intro (rD (p:=s10) (q:=(1:Int)) (r:=s10+(1:Int)) (by omega)) ?_);have hm1:((↑x.l.length:Int)+(↑more.length:Int)-(s10+(1:Int))).toNat<((↑x.l.length:Int)+(↑more.length:Int)- s10).toNat:=by omega
        refine⟨[],(s10+(1:Int),(ar s9_0 (ix x.l s10)).snd,(ar s9_0 (ix x.l s10)).fst),hm1,d5.next (s:=(s10,s8,s9_0)) hc1 hm1 ⟨show(0:Int)≤s10+(1:Int)from by omega,show s10+(1:Int)≤(↑x.l.length:Int)+(↑more.length:Int)from by omega,show(ar s9_0 (ix x.l s10)).fst.set.adds.length≤(4097:Nat)from by omega,show(ar s9_0 (ix x.l s10)).fst.set.gone.length≤(4097:Nat)from by omega,show(ar s9_0 (ix x.l s10)).fst.map.puts.length≤(4097:Nat)from by omega,show(ar s9_0 (ix x.l s10)).fst.map.gone.length≤(4097:Nat)from by omega,trivial⟩ hf1,?_⟩;repeat (first|exact trivial|refine And.intro rfl ?_)
     ·refine fun h10=>?_;have h10:(↑x.l.length:Int)≤(9223372036854775807:Int):=h10.2;refine .inl (And.intro (rD (p:=s10) (q:=(↑x.l.length:Int)) (r:=s10 -(↑x.l.length:Int)) (by omega)) ?_);refine And.intro (show(0:Int)≤s10 -(↑x.l.length:Int)∧s10 -(↑x.l.length:Int)<(↑more.length:Int)from by omega) ?_;refine⟨_,_,rfl,rfl,(by omega),(by omega),(by omega),(by omega),?_⟩;refine fun(h11:(ar s9_0 (ix more (s10 -(↑x.l.length:Int)))).fst.set.adds.length≤(4097:Nat)∧(ar s9_0 (ix more (s10 -(↑x.l.length:Int)))).fst.set.gone.length≤(4097:Nat)∧(ar s9_0 (ix more (s10 -(↑x.l.length:Int)))).fst.map.puts.length≤(4097:Nat)∧(ar s9_0 (ix more (s10 -(↑x.l.length:Int)))).fst.map.gone.length≤(4097:Nat))=>?_;refine vN hf1 iD (fun _ hf1=>?_) (fun _ hf1=>?_)
      ·rw[hf1]at hf0;rw[hf0]at h;exact h (show((fun(r0:az) (r1:Int)=>r0.set.adds.length≤4097∧r0.set.gone.length≤4097∧r0.map.puts.length≤4097∧r0.map.gone.length≤4097) (az.mk (0:Int) (bi.mk (0:Int) (au.mk (0:Int) (0:Int))) (be.mk (0:Int) (0:Int)) (aC.mk [] []) (aD.mk [] [])) ((ar s9_0 (ix more (s10 -(↑x.l.length:Int)))).snd):Prop)from by simp)
      ·refine .inl (And.intro (rD (p:=s10) (q:=(1:Int)) (r:=s10+(1:Int)) (by omega)) ?_);have hm1:((↑x.l.length:Int)+(↑more.length:Int)-(s10+(1:Int))).toNat<((↑x.l.length:Int)+(↑more.length:Int)- s10).toNat:=by omega
       refine⟨[],(s10+(1:Int),(ar s9_0 (ix more (s10 -(↑x.l.length:Int)))).snd,(ar s9_0 (ix more (s10 -(↑x.l.length:Int)))).fst),hm1,d5.next (s:=(s10,s8,s9_0)) hc1 hm1 ⟨show(0:Int)≤s10+(1:Int)from by omega,show s10+(1:Int)≤(↑x.l.length:Int)+(↑more.length:Int)from by omega,show(ar s9_0 (ix more (s10 -(↑x.l.length:Int)))).fst.set.adds.length≤(4097:Nat)from by omega,show(ar s9_0 (ix more (s10 -(↑x.l.length:Int)))).fst.set.gone.length≤(4097:Nat)from by omega,show(ar s9_0 (ix more (s10 -(↑x.l.length:Int)))).fst.map.puts.length≤(4097:Nat)from by omega,show(ar s9_0 (ix more (s10 -(↑x.l.length:Int)))).fst.map.gone.length≤(4097:Nat)from by omega,trivial⟩ hf1,?_⟩;repeat (first|exact trivial|refine And.intro rfl ?_)
    ·rw[hf1]at hf0;rw[hf0]at h;exact h (show((fun(r0:az) (r1:Int)=>r0.set.adds.length≤4097∧r0.set.gone.length≤4097∧r0.map.puts.length≤4097∧r0.map.gone.length≤4097) s9_0 (0:Int):Prop)from by omega)
def iz(x:bS)(v:List Int):Nat→Int→(List af)→(Int×bS)⊕(Int×(List af))
 |0,s8,s7=> .inr (s8,s7)
 |n1+1,s8,s7=>
  if s8<(x.l.length:Int)then
   if cc v (ix x.l s8).tag.id=true then
    iz x v n1 (s8+1) s7
   else
    iz x v n1 (s8+1) (s7++ [ix x.l s8])
  else
   .inr (s8,s7)
def bq(x:bS)(v:List Int):Int×bS:=
 if(bX x v []).snd=0 then
  if(bk (bX x v []).fst v).snd=0 then
   match iz x v (((x.l.length:Int)- 0).toNat+1) 0 ([]:List af)with
   | .inl r=>r
   | .inr (s8,s7)=>
    (0,bS.mk (bk (bX x v []).fst v).fst v s7 x.seen)
  else
   ((bk (bX x v []).fst v).snd,x)
 else
  ((bX x v []).snd,x)
def Rn:bf U:=⟨[.p [(20,some (.st 11))],.d (.arr 8 (.int .u32))],fun xs es K=> ∃(x:bS) (v:List Int),xs= [(vp 0),(ic v)]∧es= [.cells [(20,.d (.st 11) x)] 84]∧(x.s.set.adds.length≤4097)∧(x.s.set.gone.length≤4097)∧(x.s.map.puts.length≤4097)∧(x.s.map.gone.length≤4097)∧(x.l.length≤100000)∧(x.seen.length≤100000)∧((fun(r0:Int) (r1:bS)=>r1.s.set.adds.length≤4097∧r1.s.set.gone.length≤4097∧r1.s.map.puts.length≤4097∧r1.s.map.gone.length≤4097∧r1.l.length≤x.l.length∧r1.seen.length≤x.seen.length) ((bq x v).1) ((bq x v).2)→K (.v (vi ((bq x v).1))) [.cells [(20,.d (.st 11) ((bq x v).2))] 84])⟩
theorem Ir:Fk 18 Rn:=by
 refine fo Tryz.f18 [.d (.int .i64)] [(0,[(20,some (.st 11))])] (aa BJ (aa GY (aa QZ ah))) fun xs es K=>?_;rintro⟨x,v,rfl,rfl,h1,h2,h3,h4,h5,h6,h⟩;refine⟨rfl,?_⟩;have hf0:=bq.eq_1 x v;refine⟨_,_,_,rfl,rfl,(by omega),(by omega),(by omega),(by omega),(by omega),(by omega),(show(0:Nat)≤(100000:Nat)from by omega),?_⟩;refine fun(h0:(bX x v []).fst.set.adds.length≤(4097:Nat)∧(bX x v []).fst.set.gone.length≤(4097:Nat)∧(bX x v []).fst.map.puts.length≤(4097:Nat)∧(bX x v []).fst.map.gone.length≤(4097:Nat))=>?_;refine wI hf0 (fun h1 hf0=>?_) fun h1 hf0=>?_
 ·refine⟨_,_,rfl,rfl,(show(bX x v []).fst.set.adds.length≤(4097:Nat)from by omega),(show(bX x v []).fst.set.gone.length≤(4097:Nat)from by omega),(show(bX x v []).fst.map.puts.length≤(4097:Nat)from by omega),(show(bX x v []).fst.map.gone.length≤(4097:Nat)from by omega),?_⟩;refine fun(h2:(bk (bX x v []).fst v).fst.set.adds.length≤(4097:Nat)∧(bk (bX x v []).fst v).fst.set.gone.length≤(4097:Nat)∧(bk (bX x v []).fst v).fst.map.puts.length≤(4097:Nat)∧(bk (bX x v []).fst v).fst.map.gone.length≤(4097:Nat))=>?_;refine wN hf0 (fun h3 hf0=>?_) fun h3 hf0=>?_
  ·rw[hf0]at h;exact h (show((fun(r0:Int) (r1:bS)=>r1.s.set.adds.length≤4097∧r1.s.set.gone.length≤4097∧r1.s.map.puts.length≤4097∧r1.s.map.gone.length≤4097∧r1.l.length≤x.l.length∧r1.seen.length≤x.seen.length) ((bk (bX x v []).fst v).snd) x:Prop)from by omega)
  ·refine lI (σ:=Int×(List af)) 4 (fun(s8,s7)=> [(0,.v (vp 0)),(3,.v (vp 1)),(4,.v (vi 0)),(5,.v (vp 2)),(7,.v (vo 3)),(8,.v (vi s8))]) (fun(s8,s7)=> [(0,.cells [(20,.d (.st 11) x)] 84),(1,.cells [(8,.d (.arr 8 (.int .u32)) v)] 41),(2,.cells [(10,.d (.st 10) ((bk (bX x v []).fst v).fst))] 75),(3,.row 0 (.st 3) s7 39)]) (fun(s8,s7)=>((x.l.length:Int)- s8).toNat) (fun(s8,s7)=>(0≤s8)∧(s8≤(x.l.length:Int))∧((s7.length:Int)≤s8)∧True) (fun n1 (s8,s7)=>iz x v n1 s8 s7) (iz x v (((x.l.length:Int)- 0).toNat+1) 0 ([]:List af)) [] ((0:Int),([]:List af)) ?_;rintro⟨s8,s7⟩ ⟨n1,hc1,⟨hi1_0,hi1_1,hi1_2,-⟩,hf1⟩;have hf1:=hf1.trans (iz.eq_2 x v s8 s7 n1);refine fl (x:=x.l.length) fun h4=>?_;refine wI hf1 (fun h5 hf1=>?_) fun h5 hf1=>?_
   ·refine dp [(true,0),(true,1),(true,2),(true,3),(true,4),(true,5),(true,6),(true,7),(true,8),(true,9),(false,10),(true,11)] none (nw 3) ?_;refine vx s8 x.l ?_;refine⟨_,_,rfl,rfl,?_⟩;refine wN hf1 (fun h6 hf1=>?_) fun h6 hf1=>?_
    ·refine vx s8 x.l ?_;refine vs (P:=(s7.length+ [ix x.l s8].length)*(96:Nat)≤(140737488355328:Nat)) ?_;refine bY ?_;exact nx (s:=(s8,s7)) [] (s8+1,s7++ [ix x.l s8]) hc1 hf1
    ·refine bY ?_;exact nx (s:=(s8,s7)) [] (s8+1,s7) hc1 hf1
   ·rw[hf1]at hf0;rw[hf0]at h;exact h (by(dsimp only;omega))
 ·refine vT iD (show ¬(bX x v []).snd=(0:Int)from by omega) ?_;rw[hf0]at h;exact h (show((fun(r0:Int) (r1:bS)=>r1.s.set.adds.length≤4097∧r1.s.set.gone.length≤4097∧r1.s.map.puts.length≤4097∧r1.s.map.gone.length≤4097∧r1.l.length≤x.l.length∧r1.seen.length≤x.seen.length) ((bX x v []).snd) x:Prop)from by omega)
def lH(key:List UInt8):Int⊕(Int×bS):=
 if(dh key).snd=0 then
  (.inr (0,bS.mk (az.mk (dh key).fst (bi.mk 0 (au.mk 0 0)) (be.mk 0 0) (aC.mk [] []) (aD.mk [] [])) [0,0,0,0,0,0,0,0] [] []))
 else
  (.inl (dh key).snd)
def c7:bf U:=⟨[.d .str],fun xs es K=> ∃(key:List UInt8),xs= [(vt key)]∧es= []∧V2 (∀r0,lH key= .inl r0→(¬r0=0)→K (.tup [⟨false,[(1,Cx.nilp)]⟩,(vi r0)]) []) (∀r0 r1,lH key= .inr (r0,r1)→(r1.s.set.adds.length≤4097∧r1.s.set.gone.length≤4097∧r1.s.map.puts.length≤4097∧r1.s.map.gone.length≤4097∧r1.l.length≤0∧r1.seen.length≤0)→K (.tup [(vp 0),(vi r0)]) [.cells [(20,.d (.st 11) r1)] 84])⟩
theorem k7:Fk 7 c7:=by
 refine fo Tryz.f7 [.p [(20,some (.st 11))],.d (.int .i64)] [] (aa Rj ah) fun xs es K=>?_;rintro⟨key,rfl,rfl,h⟩;refine⟨rfl,?_⟩;have hf0:=lH.eq_1 key;refine⟨_,rfl,rfl,?_⟩;refine vN hf0 iD (fun _ hf0=>?_) (fun _ hf0=>?_)
 ·exact h.1 _ hf0 (show((fun(r0:Int)=> ¬r0=0) ((dh key).snd):Prop)from by omega)
 ·exact h.2 _ _ hf0 (show((fun(r0:Int) (r1:bS)=>r1.s.set.adds.length≤4097∧r1.s.set.gone.length≤4097∧r1.s.map.puts.length≤4097∧r1.s.map.gone.length≤4097∧r1.l.length≤0∧r1.seen.length≤0) (0:Int) (bS.mk (az.mk (dh key).fst (bi.mk (0:Int) (au.mk (0:Int) (0:Int))) (be.mk (0:Int) (0:Int)) (aC.mk [] []) (aD.mk [] [])) [(0:Int),(0:Int),(0:Int),(0:Int),(0:Int),(0:Int),(0:Int),(0:Int)] [] []):Prop)from by simp)
end Go.Proofs.YtiliglahlfkikaaGreatDoor.V
end

section
set_option linter.unusedVariables false
set_option linter.unusedSimpArgs false
namespace Go.Proofs.YtiliglahlfkikaaGreatDoor.V
open Go.RowKit Go.Shelf Go.Lib Go.Sort
theorem yr(v:List Int):jo v=dz v:=by
 have key: ∀fuel i,gX v fuel i=gl v fuel i:=by
  intro fuel;induction fuel with
  |zero=>intro i;rfl
  |succ n ih=>intro i;rw[gX,gl,ih]
 unfold jo dz;rw[key];rfl
theorem Dk(a0 a1 a2 a3 a4 a5 a6 a7 b0 b1 b2 b3 b4 b5 b6 b7:Int):oQ [a0,a1,a2,a3,a4,a5,a6,a7] [b0,b1,b2,b3,b4,b5,b6,b7]= [max a0 b0,max a1 b1,max a2 b2,max a3 b3,max a4 b4,max a5 b5,max a6 b6,max a7 b7]:=rfl
theorem Az(a b:List Int):mt a b=true↔ ∀j:Int,0≤j→j<8→ix a j≤ix b j:=by
 have h:=oT 8 (fun i=>decide (¬ix b i<ix a i)) false (kD a b) 0 (fun fuel i _=>by
  rw[kD];split
  ·by_cases x:ix b i<ix a i<;>simp[x]
  ·rfl) (((8:Int)-(0:Int)).toNat+1) 0 (by omega) (by omega)
 unfold mt;rcases h with⟨⟨q,h1⟩,h2⟩|⟨h1,j,h2,h3,h4⟩
 ·rw[h1];simp only[true_iff];intro j hj hk;have:=h2 j hj hk;simp only[decide_eq_true_eq]at this;omega
 ·rw[h1];simp only[Bool.false_eq_true,false_iff];intro hall;have:=hall j h2 h3;simp only[decide_eq_false_iff_not]at h4;omega
theorem O9{l:List Int}(h:l.length=8): ∃a0 a1 a2 a3 a4 a5 a6 a7,l= [a0,a1,a2,a3,a4,a5,a6,a7]:=by
 match l,h with
 | [a0,a1,a2,a3,a4,a5,a6,a7],_=>exact⟨a0,a1,a2,a3,a4,a5,a6,a7,rfl⟩
theorem He{a b:List Int}(ha:a.length=8)(hb:b.length=8):ug a b=mt a b:=by
 rw[Bool.eq_iff_iff,Az];obtain⟨a0,a1,a2,a3,a4,a5,a6,a7,rfl⟩:=O9 ha;obtain⟨b0,b1,b2,b3,b4,b5,b6,b7,rfl⟩:=O9 hb;unfold ug;rw[Dk,decide_eq_true_eq];simp only[List.cons.injEq,and_true];constructor
 ·intro h j h1 h2;have:j=0∨j=1∨j=2∨j=3∨j=4∨j=5∨j=6∨j=7:=by omega
  rcases this with rfl|rfl|rfl|rfl|rfl|rfl|rfl|rfl<;>simp[ix]<;>omega
 ·intro h;have h0:=h 0 (by omega) (by omega);have h1:=h 1 (by omega) (by omega);have h2:=h 2 (by omega) (by omega);have h3:=h 3 (by omega) (by omega);have h4:=h 4 (by omega) (by omega);have h5:=h 5 (by omega) (by omega);have h6:=h 6 (by omega) (by omega);have h7:=h 7 (by omega) (by omega);simp[ix]at h0 h1 h2 h3 h4 h5 h6 h7;omega
theorem xt(x:bS)(t:ae):fQ x t=decide (t∈x.seen):=by
 rw[←fH];have key: ∀fuel i,kG x t fuel i=dn x.seen t fuel i:=by
  intro fuel;induction fuel with
  |zero=>intro i;rfl
  |succ n ih=>intro i;rw[kG,dn,ih]
 unfold fQ aX;rw[key];rfl
def lK:az→List af→az×Int
 |s,[]=>(s,0)
 |s,e::l=>if(ar s e).2=0 then lK (ar s e).1 l else(NP,(ar s e).2)
theorem xu(s:az)(b:List Int)(ap:List (ae×af))(sn:List (ae×Bool))(v:List Int)(more:List af)(hw: ∀e∈aJ s b ap sn v++more,ka e): ∀(fuel:Nat) (i:Int) (st:az),0≤i→i≤(aJ s b ap sn v++more).length→(((aJ s b ap sn v++more).length:Int)- i).toNat<fuel→oB st→
  (match my s b ap sn v more fuel i st with| .inl r=>r| .inr (_,q)=>(jv q,(0:Int)))=lK st ((aJ s b ap sn v++more).drop i.toNat)
 |0,i,st,_,_,h,_=>by omega
 |fuel+1,i,st,h0,h1,h,hs=>by
  rw[my];by_cases hlt:i<((aJ s b ap sn v++more).length:Int)
  ·have he:=hw _ (cG _ h0 hlt);rw[if_pos hlt,iU _ h0 hlt,lK];have e:=pP hs he;by_cases h2:(a8 st (ix (aJ s b ap sn v++more) i)).snd=0
   ·rw[if_pos h2,if_pos (e▸h2),xu s b ap sn v more hw fuel (i+1) _ (by omega) (by omega) (by omega) (pS hs he),e]
   ·rw[if_neg h2,if_neg (e▸h2),e];rfl
  ·rw[if_neg hlt,List.drop_of_length_le (by omega)];rfl
theorem ny(x:bS)(v:List Int)(more:List af): ∀(fuel:Nat) (i f:Int) (st:az),0≤i→i≤x.l.length+more.length→(((x.l.length:Int)+more.length)- i).toNat<fuel→
  (match kI x v more fuel i f st with| .inl r=>r| .inr (_,_,q)=>(q,(0:Int)))=lK st ((x.l.drop i.toNat).filter (fun e=>cc v e.tag.id)++more.drop (i - x.l.length).toNat)
 |0,i,f,st,_,_,h=>by omega
 |fuel+1,i,f,st,h0,h1,h=>by
  rw[kI];by_cases hlt:i<(x.l.length:Int)+more.length
  ·rw[if_pos hlt];by_cases h2:i<(x.l.length:Int)
   ·rw[if_pos h2,iU x.l h0 h2,List.filter_cons,show(i -(x.l.length:Int)).toNat=(i+1 -(x.l.length:Int)).toNat by omega];by_cases h3:cc v (ix x.l i).tag.id=true
    ·rw[if_pos h3,if_pos h3,List.cons_append,lK];by_cases h4:(ar st (ix x.l i)).snd=0
     ·rw[if_pos h4,if_pos h4,ny x v more fuel (i+1) _ _ (by omega) (by omega) (by omega)]
     ·rw[if_neg h4,if_neg h4];rfl
    ·rw[if_neg h3,if_neg h3,ny x v more fuel (i+1) _ _ (by omega) (by omega) (by omega)]
   ·have h5:0≤i -(x.l.length:Int):=by omega
    have h6:i -(x.l.length:Int)<(more.length:Int):=by omega
    rw[if_neg h2,List.drop_of_length_le (show x.l.length≤i.toNat by omega),iU more h5 h6,List.filter_nil,List.nil_append,lK];by_cases h4:(ar st (ix more (i -(x.l.length:Int)))).snd=0
    ·rw[if_pos h4,if_pos h4,ny x v more fuel (i+1) _ _ (by omega) (by omega) (by omega),List.drop_of_length_le (show x.l.length≤(i+1).toNat by omega),List.filter_nil,List.nil_append,show i+1 -(x.l.length:Int)=i -(x.l.length:Int)+1 by omega]
    ·rw[if_neg h4,if_neg h4];rfl
  ·rw[if_neg hlt,List.drop_of_length_le (show x.l.length≤i.toNat by omega),List.drop_of_length_le (show more.length≤(i -(x.l.length:Int)).toNat by omega)];rfl
theorem pT{α β:Type} [DecidableEq α]: ∀{m:List (α×β)},cd m→ ∀(k:α) (v:β),(k,v)∈m→dP m k=some v
 | [],_,k,v,h=>by cases h
 |(k0,v0)::m,hn,k,v,h=>by
  unfold cd at hn;rw[List.map_cons,List.nodup_cons]at hn;rcases List.mem_cons.1 h with h|h
  ·injection h with h1 h2;subst h1;subst h2;simp[dP]
  ·have hne: ¬k0=k:=fun e=>hn.1 (by rw[e];exact List.mem_map_of_mem (f:=(·.1)) h);have:=pT (m:=m) hn.2 k v h;unfold dP at this⊢;rw[List.find?_cons_of_neg (by simpa using hne)];exact this
theorem AA{α β:Type} [DecidableEq α]{m:List (α×β)}{k:α}(h:k∉m.map (·.1)):dP m k=none:=rj m fun x hx e=>h (e▸hx)
structure iV(s:az)(b:List Int)(ap:List (ae×af))(sn:List (ae×Bool))(x:bS):Prop where
 so:s=x.s
 bo:b=x.b
 wf:oB s
 bl:x.b.length=8
 lr:bJ (x.l.map (·.tag))
 ap:ap.Perm (x.l.map fun e=>(e.tag,e))
 lw: ∀e∈x.l,ka e
 ls: ∀e∈x.l,e.tag∈x.seen
 sk: ∀t,t∈sn.map (·.1)↔t∈x.seen
 sv: ∀p∈sn,p.2=true
 sd:cd sn
 sl:sn.length=x.seen.length
section
variable {s:az} {b:List Int} {ap:List (ae×af)} {sn:List (ae×Bool)} {x:bS}
theorem bJ.nodup{l:List ae}(h:bJ l):l.Nodup:=by
 unfold bJ at h;exact h.imp fun{a b} hab e=>by subst e;rw[cu]at hab;cases hab
theorem iV.keys(R:iV s b ap sn x):(ap.map (·.1)).Perm (x.l.map (·.tag)):=by
 have:=R.ap.map (·.1);rw[List.map_map]at this;exact this
theorem iV.nd(R:iV s b ap sn x):cd ap:=(R.keys.nodup_iff).2 R.lr.nodup
theorem iV.len(R:iV s b ap sn x):ap.length=x.l.length:=by have:=R.ap.length_eq;rwa [List.length_map]at this
theorem iV.has(R:iV s b ap sn x)(t:ae):g9 s b ap sn t=fQ x t:=by
 rw[xt];show(dP sn t).getD false=_
 by_cases h:t∈x.seen
 ·rw[decide_eq_true h];obtain⟨p,hp,rfl⟩:=List.mem_map.1 ((R.sk t).2 h);rw[pT R.sd p.1 p.2 hp,R.sv p hp];rfl
 ·rw[decide_eq_false h,AA fun h2=>h ((R.sk t).1 h2)];rfl
theorem yt{l:List ae}(h:bJ l):bu (fun(t t':ae)=>ab t t') l=l:=by
 refine List.mergeSort_of_pairwise (List.Pairwise.imp ?_ h);intro a c hac;show(!decide (ab c a<0))=true
 rw[bM,decide_eq_false (fun q=>by have:=(bW _ _).1 q;rw[eb hac]at this;cases this)];rfl
theorem iV.within(R:iV s b ap sn x)(v:List Int):aJ s b ap sn v=x.l.filter (fun e=>cc v e.tag.id):=by
 have hK:bu (fun(t t':ae)=>ab t t') (List.map (fun(x:ae×af)=>x.fst) ap)=x.l.map (·.tag):=by
  have h1:=pA (g:=fun(t t':ae)=>ab t t') (kE (x.l.map (·.tag))) R.keys;rw[h1];exact yt R.lr
 unfold aJ;rw[hK,cF (x.l.map (·.tag)) (fun acc t=>if dG v t.id=true then acc++ [(dP ap t).getD bT.zero]else acc) (fm s b ap sn v) (fun fuel c i _=>by
  rw[fm];simp only[hK];split
  ·by_cases h:dG v (ix (x.l.map (fun e:af=>e.tag)) i).id=true<;>simp[h]
  ·rfl)]
 simp only;rw[dA (fun t:ae=>dG v t.id) (fun t:ae=>(dP ap t).getD bT.zero),List.nil_append,List.filter_map,List.map_map];have e1:x.l.filter ((fun t:ae=>dG v t.id)∘fun e:af=>e.tag)=x.l.filter (fun e=>cc v e.tag.id):=by
  apply List.filter_congr;intro e he;exact nv v (R.lw e he).tag.1
 rw[e1];have e2: ∀e∈x.l.filter (fun e=>cc v e.tag.id),((fun t:ae=>(dP ap t).getD bT.zero)∘fun e:af=>e.tag) e=e:=fun e he=>by
  have hm:(e.tag,e)∈ap:=R.ap.mem_iff.2 (List.mem_map_of_mem (f:=fun e:af=>(e.tag,e)) (List.mem_filter.1 he).1);show(dP ap e.tag).getD bT.zero=e
  rw[pT R.nd _ _ hm];rfl
 conv=>rhs;rw[←List.map_id (x.l.filter (fun e=>cc v e.tag.id))]
 exact List.map_congr_left e2
theorem iV.at_(R:iV s b ap sn x){v:List Int}(hv:v.length=8){more:List af}(hm: ∀e∈more,ka e):bP s b ap sn v more=bX x v more:=by
 have hw:=R.within v;have hall: ∀e∈aJ s b ap sn v++more,ka e:=fun e he=>by
  rw[hw]at he;exact(List.mem_append.1 he).elim (fun h=>R.lw e (List.mem_filter.1 h).1) (hm e)
 unfold bP bX;rw[yr,R.bo,He R.bl hv];by_cases c1:dz v=0
 ·rw[if_pos c1,if_pos c1];by_cases c2:mt x.b v=true
  ·rw[if_pos c2,if_pos c2];have h1:=xu s b ap sn v more hall ((((aJ s b ap sn v++more).length:Int)-(0:Int)).toNat+1) 0 s (by omega) (by omega) (by omega) R.wf;have h2:=ny x v more (((x.l.length:Int)+(more.length:Int)-(0:Int)).toNat+1) 0 (dz v) x.s (by omega) (by omega) (by omega);rw[R.bo]at h1;refine h1.trans (Eq.trans ?_ h2.symm);rw[←R.bo,hw,R.so];simp
  ·rw[if_neg c2,if_neg c2]
 ·rw[if_neg c1,if_neg c1]
theorem rb: ∀(l:List af) (s:az),oB s→(∀e∈l,ka e)→oB (lK s l).1
 | [],s,h,_=>h
 |e::l,s,h,hl=>by
  rw[lK];split
  ·refine rb l _ ?_ fun e he=>hl e (by simp[he]);rw[←pP h (hl e (by simp))];exact pS h (hl e (by simp))
  ·exact oB.zero _ _ _
theorem Hg(R:iV s b ap sn x)(v:List Int){more:List af}(hm: ∀e∈more,ka e):oB (bX x v more).1:=by
 unfold bX;split
 ·split
  ·have h2:=ny x v more (((x.l.length:Int)+(more.length:Int)-(0:Int)).toNat+1) 0 (dz v) x.s (by omega) (by omega) (by omega);refine Eq.mp (congrArg (fun q:az×Int=>oB q.1) h2.symm) ?_;refine rb _ _ (R.so▸R.wf) fun e he=>?_;rcases List.mem_append.1 he with h|h
   ·exact R.lw e (List.mem_of_mem_drop (List.mem_filter.1 h).1)
   ·exact hm e (List.mem_of_mem_drop h)
  ·exact oB.zero _ _ _
 ·exact oB.zero _ _ _
theorem iV.trim(R:iV s b ap sn x){v:List Int}(hv:v.length=8):(al s b ap sn v).1=(bq x v).1∧iV (al s b ap sn v).2.1 (al s b ap sn v).2.2.1 (al s b ap sn v).2.2.2 sn (bq x v).2:=by
 have hA:=R.at_ hv (more:= []) (fun e he=>by cases he);have hwA:=Hg R v (more:= []) (fun e he=>by cases he);unfold al bq;rw[hA];by_cases c1:(bX x v []).snd=0
 ·rw[if_pos c1,if_pos c1,pQ hwA];by_cases c2:(bk (bX x v []).fst v).snd=0
  ·rw[if_pos c2,if_pos c2,cF x.l (fun acc e=>if(!cc v e.tag.id)=true then acc++ [e]else acc) (iz x v) (fun fuel c i _=>by
    rw[iz];by_cases h:cc v (ix x.l i).tag.id=true<;>simp[h])]
   simp only[dA (fun e:af=>!cc v e.tag.id) (fun e:af=>e),List.nil_append,List.map_id'];refine⟨trivial,rfl,rfl,?_,hv,?_,?_,fun e he=>R.lw e (List.mem_filter.1 he).1,fun e he=>R.ls e (List.mem_filter.1 he).1,R.sk,R.sv,R.sd,R.sl⟩
   ·rw[←pQ hwA];exact wb hwA v
   ·have:=R.lr;unfold bJ at this⊢;exact this.sublist (List.filter_sublist.map _)
   ·have h1:=R.ap.filter (fun(p:ae×af)=>!dG v p.fst.id);refine h1.trans (List.Perm.of_eq ?_);rw[List.filter_map];congr 1;apply List.filter_congr;intro e he;show(!dG v e.tag.id)=_
    rw[nv v (R.lw e he).tag.1]
  ·rw[if_neg c2,if_neg c2];exact⟨rfl,R⟩
 ·rw[if_neg c1,if_neg c1];exact⟨rfl,R⟩
theorem iV.add(R:iV s b ap sn x){e:af}(he:ka e):(aO s b ap sn e).1=(bV x e).1∧iV (aO s b ap sn e).2.1 b (aO s b ap sn e).2.2.1 (aO s b ap sn e).2.2.2 (bV x e).2:=by
 have hh:=R.has e.tag;unfold g9 at hh;unfold aO bV;rw[q9 he,sD,hh,R.sl,R.so,R.bo,nv x.b he.tag.1];by_cases c1:dV e=0
 ·rw[if_pos c1,if_pos c1];by_cases c2:cX e.act=x.s.kind
  ·rw[if_pos c2,if_pos c2];by_cases c3:fQ x e.tag=true
   ·rw[if_pos c3,if_pos c3];exact⟨rfl,R.so▸R.bo▸R⟩
   ·rw[if_neg c3,if_neg c3];have hns:e.tag∉x.seen:=fun h=>c3 (by rw[xt];exact decide_eq_true h);have hsn:iI sn e.tag true=sn++ [(e.tag,true)]:=p9 sn true fun k hk q=>hns ((R.sk e.tag).1 (q▸hk));have k1: ∀t,t∈(sn++ [(e.tag,true)]).map (·.1)↔t∈x.seen++ [e.tag]:=fun t=>by rw[List.map_append,List.mem_append,List.mem_append,R.sk t];simp
    have k2: ∀p∈sn++ [(e.tag,true)],p.2=true:=fun p hp=>(List.mem_append.1 hp).elim (R.sv p) fun h=>by rw[List.mem_singleton.1 h]
    have k3:cd (sn++ [(e.tag,true)]):=by
     have:=R.sd;unfold cd at this⊢;rw[List.map_append,List.nodup_append];refine⟨this,by simp,fun a ha c hc q=>?_⟩;simp at hc;subst hc;subst q;exact hns ((R.sk _).1 ha)
    have k4:(sn++ [(e.tag,true)]).length=(x.seen++ [e.tag]).length:=by rw[List.length_append,List.length_append,R.sl];rfl
    by_cases c4:(x.seen.length:Int)=4096
    ·rw[if_pos c4,if_pos c4];exact⟨rfl,R.so▸R.bo▸R⟩
    ·rw[if_neg c4,if_neg c4];have hap:a8 x.s e=ar x.s e:=pP (R.so▸R.wf) he;by_cases c5:cc x.b e.tag.id=true
     ·rw[if_pos c5,if_pos c5,hap];by_cases c6:(ar x.s e).snd=0
      ·rw[if_pos c6,if_pos c6,hsn];exact⟨rfl,rfl,rfl,by rw[←hap];exact pS (R.so▸R.wf) he,R.bl,R.lr,R.ap,R.lw,fun e' h'=>List.mem_append_left _ (R.ls e' h'),k1,k2,k3,k4⟩
      ·rw[if_neg c6,if_neg c6];exact⟨rfl,R.so▸R.bo▸R⟩
     ·rw[if_neg c5,if_neg c5];have hl:=lJ x.l (fun y=>aM y.tag e.tag) (kH x e) (fun fuel i h0=>by
       rw[kH];have:(i<(x.l.length:Int)∧aG (ix x.l i).tag e.tag<0)↔(i<(x.l.length:Int)∧aM (ix x.l i).tag e.tag=true):=by
        by_cases hi:i<(x.l.length:Int)
        ·rw[bE (R.lw _ (cG _ h0 hi)).tag.seq he.tag.seq,bW]
        ·simp[hi]
       simp only[this])
      rw[hl];simp only[Int.toNat_natCast,sB,oS];have hnl:e.tag∉x.l.map (·.tag):=fun h=>by
       obtain⟨e',h1,h2⟩:=List.mem_map.1 h;exact hns (h2▸R.ls e' h1)
      have hma:iI ap e.tag (ju e)=ap++ [(e.tag,e)]:=p9 ap _ fun k hk q=>hnl (q▸R.keys.mem_iff.1 hk);have htw:=List.takeWhile_append_dropWhile (p:=fun y:af=>aM y.tag e.tag) (l:=x.l);have hmem: ∀y,y∈x.l.takeWhile (fun y=>aM y.tag e.tag)++ [e]++x.l.dropWhile (fun y=>aM y.tag e.tag)→y=e∨y∈x.l:=fun y hy=>by
       rcases List.mem_append.1 hy with h|h
       ·rcases List.mem_append.1 h with h|h
        ·exact .inr (htw▸List.mem_append_left _ h)
        ·exact .inl (List.mem_singleton.1 h)
       ·exact .inr (htw▸List.mem_append_right _ h)
      rw[hsn,hma];refine⟨trivial,rfl,rfl,R.so▸R.wf,R.bl,?_,?_,fun y hy=>(hmem y hy).elim (fun q=>q▸he) (R.lw y),fun y hy=>(hmem y hy).elim (fun q=>by rw[q];simp) (fun h=>List.mem_append_left _ (R.ls y h)),k1,k2,k3,k4⟩
      ·have h1:=oy aM vX dx R.lr (t:=e.tag) (fun y hy q=>hnl (q▸hy));unfold bJ;unfold yj at h1;rw[List.takeWhile_map,List.dropWhile_map]at h1;simpa[Function.comp_def]using h1
      ·refine(R.ap.append_right [(e.tag,e)]).trans ?_;rw[List.map_append,List.map_append,←htw,List.map_append,htw];simp only[List.map_cons,List.map_nil,List.append_assoc];exact List.Perm.append_left _ List.perm_append_comm
  ·rw[if_neg c2,if_neg c2];exact⟨rfl,R.so▸R.bo▸R⟩
 ·rw[if_neg c1,if_neg c1];exact⟨rfl,R.so▸R.bo▸R⟩
end
theorem iV.new(k:Int):iV (az.mk k (bi.mk 0 (au.mk 0 0)) (be.mk 0 0) (aC.mk [] []) (aD.mk [] [])) [0,0,0,0,0,0,0,0] [] [] (bS.mk (az.mk k (bi.mk 0 (au.mk 0 0)) (be.mk 0 0) (aC.mk [] []) (aD.mk [] [])) [0,0,0,0,0,0,0,0] [] []):=
 ⟨rfl,rfl,oB.zero _ _ _,rfl,List.Pairwise.nil,List.Perm.refl _,fun _ h=>(by cases h),fun _ h=>(by cases h),fun t=>Iff.rfl,fun _ h=>(by cases h),List.nodup_nil,rfl⟩
end Go.Proofs.YtiliglahlfkikaaGreatDoor.V
end

section
set_option linter.unusedVariables false
set_option linter.unusedSimpArgs false
namespace Go.Proofs.YtiliglahlfkikaaGreatDoor.V
open Go.RowKit Go.Shelf Go.Lib Go.Sort
def q7(b:UInt8):Bool:=jr (b.toNat:Int)
theorem xr(b:UInt8):q7 b=true↔((97≤b.toNat∧b.toNat≤122)∨(48≤b.toNat∧b.toNat≤57)):=by
 unfold q7 jr;simp;omega
theorem vZ(s:ByteArray)(i:Nat)(h:128≤(s.get! i).toNat):128≤(Utf8.decode s i).1:=by
 unfold Utf8.decode;simp only[Nat.add_zero];rw[if_neg (by omega)]
 repeat' split
 all_goals first|(simp only[Utf8.runeError];omega)|(rename_i h;simp at h;simp only;omega)|decide
theorem yk{x:Nat}(h:128≤x):dO (x:Int)=true:=by unfold dO;rw[decide_eq_true (by omega)];rfl
theorem uv(b:UInt8)(h:b.toNat<128):dO (b.toNat:Int)=!q7 b:=by
 unfold dO q7;rw[decide_eq_false (by omega),Bool.false_or,show(b.toNat:Int)%256=b.toNat by omega]
theorem NO{p:List UInt8}{j:Nat}(h:j<p.length):(⟨p.toArray⟩:ByteArray).get! j=p[j]:=by
 show p.toArray[j]! =p[j]
 simp[h]
theorem uw(p:List UInt8): ∀(fuel:Nat) (pos:Int),0≤pos→((p.length:Int)- pos).toNat<fuel→
  (∃i,cJ p (fun(t:Int)=>dO t) true fuel pos= .inl i∧0≤i∧ ¬(p.drop pos.toNat).all q7=true)∨(∃q,cJ p (fun(t:Int)=>dO t) true fuel pos= .inr q∧(p.drop pos.toNat).all q7=true)
 |0,pos,h0,h=>by omega
 |fuel+1,pos,h0,h=>by
  rw[cJ];by_cases hp:pos<(p.length:Int)
  ·have hpn:pos.toNat<p.length:=by omega
   have hs:pos.toNat<(⟨p.toArray⟩:ByteArray).size:=by simpa[ByteArray.size]using hpn
   rw[if_pos hp,List.drop_eq_getElem_cons hpn,List.all_cons];by_cases hb:(p[pos.toNat]).toNat<128
   ·have hd:Utf8.decode ⟨p.toArray⟩ pos.toNat=((p[pos.toNat]).toNat,1):=by
     have hbe:(⟨p.toArray⟩:ByteArray)[pos.toNat]'hs=p[pos.toNat]:=by show p.toArray[pos.toNat]=p[pos.toNat];simp
     have:=decode_ascii ⟨p.toArray⟩ pos.toNat hs (by rw[hbe];exact hb);rw[this,hbe]
    have hr:qC p pos=((p[pos.toNat]).toNat:Int):=by unfold qC;rw[hd]
    have hw:pU p pos=1:=by unfold pU;rw[hd];rfl
    rw[hr,hw,uv _ hb];by_cases hk:q7 p[pos.toNat]=true
    ·rw[hk];simp only[Bool.not_true,Bool.false_eq_true,if_false,Bool.true_and];have e1:(pos+1).toNat=pos.toNat+1:=by omega
     have:=uw p fuel (pos+1) (by omega) (by omega);rw[e1]at this;exact this
    ·have hk:q7 p[pos.toNat]=false:=by simpa using hk
     rw[hk];exact .inl ⟨pos,by simp,h0,by simp⟩
   ·have h2:=vZ ⟨p.toArray⟩ pos.toNat (by rw[NO hpn];omega);have hk:q7 p[pos.toNat]=false:=by
     cases hq:q7 p[pos.toNat]with
     |false=>rfl
     |true=>have:=(xr _).1 hq;omega
    have hr:dO (qC p pos)=true:=by unfold qC;exact yk h2
    rw[if_pos hr,hk];exact .inl ⟨pos,rfl,h0,by simp⟩
  ·rw[if_neg hp,List.drop_of_length_le (by omega)];exact .inr ⟨_,rfl,rfl⟩
theorem v6(p:List UInt8):0≤fU p (fun(t:Int)=>dO t)↔ ¬p.all q7=true:=by
 have h:=uw p (((p.length:Int)-(0:Int)).toNat+1) 0 (by omega) (by omega);unfold fU jl;rw[Int.toNat_zero,List.drop_zero]at h;rcases h with⟨i,h1,h2,h3⟩|⟨q,h1,h2⟩
 ·rw[h1];exact⟨fun _=>h3,fun _=>h2⟩
 ·rw[h1];exact⟨fun h=>absurd h (by simp only;omega),fun h=>absurd h2 h⟩
def ux:List UInt8→List (List UInt8)
 | []=> [[]]
 |c::t=>if c=47 then []::ux t else match ux t with
  | []=> [[c]]
  |p::r=>(c::p)::r
theorem Au(s:List UInt8):ux s≠ []:=by
 cases s with
 |nil=>simp[ux]
 |cons c t=>
  unfold ux;split
  ·simp
  ·split<;>simp
theorem pN(t:List UInt8)(c:UInt8)(h:Lib.indexByte t c= -1):t.count c=0:=by
 induction t with
 |nil=>rfl
 |cons b l ih=>
  unfold Lib.indexByte at h;by_cases e:b=c
  ·subst e;simp at h
  ·have e2:(b==c)=false:=by simpa using e
   rw[if_neg (by simp[e2])]at h;by_cases h2:(Lib.indexByte l c== -1)=true
   ·rw[List.count_cons,ih (by simpa using h2)];simp[e]
   ·rw[if_neg h2]at h;have:=Lib.indexByte_ge l c;omega
theorem pO: ∀s:List UInt8,Lib.splitK [47] 0 (s.count 47) s=ux s
 | []=>rfl
 |c::t=>by
  have ih:=pO t;by_cases e:c=47
  ·subst e;rw[List.count_cons_self,Lib.splitK,Lib.index_one];have h0:Lib.indexByte (47::t) 47=0:=by simp[Lib.indexByte]
   rw[h0];simp only[ux,if_true];rw[if_neg (by decide)];simp only[Int.toNat_zero,Nat.zero_add,List.take_zero,List.length_singleton,List.drop_succ_cons,List.drop_zero];rw[ih]
  ·rw[List.count_cons_of_ne e];have hs:ux (c::t)=match ux t with| []=> [[c]]|p::r=>(c::p)::r:=by rw[ux,if_neg e]
   rw[hs,←ih];cases hk:t.count 47 with
   |zero=>simp[Lib.splitK]
   |succ k=>
    have hi:Lib.indexByte t 47≠ -1:=fun q=>by have:=pN t 47 q;omega
    have hg:=Lib.indexByte_ge t 47;have h1:Lib.indexByte (c::t) 47=Lib.indexByte t 47+1:=by
     rw[Lib.indexByte];rw[if_neg (by simpa using e),if_neg (by simpa using hi)]
    simp only[Lib.splitK,Lib.index_one,h1];rw[if_neg (by simp;omega),if_neg (by simpa using hi)];have e1:(Lib.indexByte t 47+1).toNat=(Lib.indexByte t 47).toNat+1:=by omega
    simp only[e1,Nat.add_zero,List.take_succ_cons,List.length_singleton,List.drop_succ_cons]
theorem ym(s:List UInt8):Lib.split s [47]=ux s:=by
 unfold Lib.split;rw[Lib.count_one,pO]
def sC(f:Int):Int×Int:=if f=114 then(1,0)else if f=99 then(2,0)else if f=115 then(3,0)else if f=109 then(4,0)else(0,5)
def rk:Bool→Int→List UInt8→Option Int
 |part,first,[]=>if part then some first else none
 |part,first,c::t=>if q7 c=true then rk true (if part then first else(c.toNat:Int)) t else if c=47∧part=true then rk false first t else none
def jP(p:List UInt8):Bool:=!p.isEmpty&&p.all q7
def oz(p:List UInt8):Int:=((ix p 0).toNat:Int)
def oA(first:Int)(r:List (List UInt8)):Int:=match r.getLast? with
 |none=>first
 |some q=>oz q
theorem v7 (f g : Int) (p : List UInt8) (r : List (List UInt8)) (h : g = oz p ∨ r ≠ []) : oA f (p :: r) = oA g r := by
  unfold oA
  cases r with
  | nil => rcases h with h | h
           · simp [h]
           · exact absurd rfl h
  | cons a b => rw [List.getLast?_cons_cons, List.getLast?_eq_some_getLast (by simp)]
theorem Av: ∀(s:List UInt8) (first:Int) (p:List UInt8) (r:List (List UInt8)),ux s=p::r→
  rk true first s=(if p.all q7&&r.all jP then some (oA first r)else none)∧rk false first s=(if jP p&&r.all jP then some (oA (oz p) r)else none)
 | [],first,p,r,h=>by
  simp only[ux,List.cons.injEq]at h;obtain⟨rfl,rfl⟩:=h;simp[rk,jP,oA]
 |c::t,first,p,r,h=>by
  have h47:q7 47=false:=by decide
  cases hs:ux t with
  |nil=>exact absurd hs (Au t)
  |cons p2 r2=>
   have ih:=fun f=>Av t f p2 r2 hs;by_cases e:c=47
   ·subst e;simp only[ux,if_true,hs,List.cons.injEq]at h;obtain⟨rfl,rfl⟩:=h;simp only[rk,h47,Bool.false_eq_true,if_false];refine⟨?_,?_⟩
    ·simp only[and_self,if_true];rw[(ih first).2];simp only[List.all_nil,List.all_cons,Bool.true_and];by_cases hg:(jP p2&&r2.all jP)=true
     ·rw[if_pos hg,if_pos hg,v7 first (oz p2) p2 r2 (.inl rfl)]
     ·rw[if_neg hg,if_neg hg]
    ·simp[jP]
   ·simp only[ux,e,if_false,hs,List.cons.injEq]at h;obtain⟨rfl,rfl⟩:=h;simp only[rk,e,false_and,if_false];by_cases hk:q7 c=true
    ·simp only[hk,if_true,List.all_cons,Bool.true_and];refine⟨(ih first).1,?_⟩;simp only[Bool.false_eq_true,if_false];rw[(ih (c.toNat:Int)).1];have hh:oz (c::p2)=(c.toNat:Int):=by simp[oz,ix]
     simp[jP,hk,hh]
    ·simp only[hk,if_false,List.all_cons,Bool.false_eq_true];have hk2:q7 c=false:=by simpa using hk
     simp[jP,hk2]
def Jo(r:(Int×Int)⊕(Int×Int×Int)):Int×Int:=match r with
 | .inl r=>r
 | .inr (s4,s5,_)=>if s5=0 then(0,3)else sC s4
theorem kM(s:List UInt8)(hs:s.length≤24): ∀(fuel:Nat) (s4 s5 s6:Int),0≤s5→s5≤s6→((s.length:Int)- s6).toNat<fuel→Jo (eL s fuel s4 s5 s6)=match rk (decide (¬s5=0)) s4 (s.drop s6.toNat)with|none=>(0,3)|some f=>sC f
 |0,_,_,s6,_,_,h=>by omega
 |fuel+1,s4,s5,s6,h0,h6,h=>by
  rw[eL];have h5:=h6;have h6:0≤s6:=by omega
  by_cases hl:s6<(s.length:Int)
  ·rw[if_pos hl,iU s h6 hl];have k1:(((97:Int)≤(↑(ix s s6).toNat:Int))∧((↑(ix s s6).toNat:Int)≤(122:Int)))∨(((48:Int)≤(↑(ix s s6).toNat:Int))∧((↑(ix s s6).toNat:Int)≤(57:Int)))↔q7 (ix s s6)=true:=by rw[xr];omega
   have h47:((ix s s6).toNat:Int)=47↔ix s s6=47:=by
    constructor
    ·intro q;apply UInt8.toNat_inj.1;simpa using (show(ix s s6).toNat=47 by omega)
    ·intro q;rw[q];rfl
   rw[rk];by_cases c1:q7 (ix s s6)=true
   ·rw[if_pos (k1.2 c1),if_pos c1];by_cases c2:s5=0
    ·rw[if_pos c2,kM s hs fuel _ _ _ (by omega) (by omega) (by omega)];simp[c2]
    ·have hwr:IntKind.i64.wrap (s5+(1:Int))=s5+1:=df (by omega);rw[if_neg c2,hwr,kM s hs fuel _ _ _ (by omega) (by omega) (by omega)];have: ¬s5+1=0:=by omega
     simp[c2,this]
   ·rw[if_neg (fun q=>c1 (k1.1 q)),if_neg c1];by_cases c3:((↑(ix s s6).toNat:Int)=(47:Int))∧((0:Int)<s5)
    ·have:=c3;rw[if_pos c3,if_pos ⟨h47.1 this.1,by simp;omega⟩,kM s hs fuel _ _ _ (by omega) (by omega) (by omega)];simp
    ·rw[if_neg c3,if_neg (fun q=>c3 ⟨h47.2 q.1,by have:=q.2;simp at this;omega⟩)];rfl
  ·rw[if_neg hl,List.drop_of_length_le (by omega)];simp only[Jo,rk];by_cases c:s5=0<;>simp[c]
theorem q8(s:List UInt8):dh s=if 24<(s.length:Int)then(0,8)else match rk false 0 s with|none=>(0,3)|some f=>sC f:=by
 unfold dh;split
 ·rfl
 ·have:=kM s (by omega) (((s.length:Int)-(0:Int)).toNat+1) 0 0 0 (by omega) (by omega) (by omega);simp only[not_true_eq_false,decide_false,Int.toNat_zero,List.drop_zero]at this;rw[←this];cases eL s (((s.length:Int)-(0:Int)).toNat+1) 0 0 0 with
  |inl r=>rfl
  |inr r=>obtain⟨a,b,c⟩:=r;rfl
theorem yp(p:List UInt8):jP p=true↔ ¬(p= []∨0≤fU p (fun(t:Int)=>dO t)):=by
 rw[v6];unfold jP;cases p with
 |nil=>simp
 |cons a b=>simp only[List.isEmpty_cons,Bool.not_false,Bool.true_and,reduceCtorEq,false_or];by_cases h:(a::b).all q7=true<;>simp_all
theorem Di(s:List UInt8):gg s=dh s:=by
 rw[q8];unfold gg;split
 ·rfl
 ·cases hs:ux s with
  |nil=>exact absurd hs (Au s)
  |cons p r=>
   have hrk:=(Av s 0 p r hs).2;have hL:=cN (Lib.split s [47]) jP (0,3) (jw s) (fun fuel i _=>by
    rw[jw];split
    ·have g:=yp (ix (Lib.split s [47]) i);by_cases c:(ix (Lib.split s [(47:UInt8)]) i= [])∨((0:Int)≤fU (ix (Lib.split s [(47:UInt8)]) i) fun(t:Int)=>dO t)
     ·rw[if_pos c,if_neg (fun q=>g.1 q c)]
     ·rw[if_neg c,if_pos (g.2 (fun q=>c q))]
    ·rfl)
   obtain⟨q,hq⟩:=hL;rw[hq,hrk,ym,hs,List.all_cons];by_cases hg:(jP p&&r.all jP)=true
   ·rw[if_pos hg,if_pos hg];have hlast:((ix (ix (p::r) (((p::r).length:Int)- 1)) 0).toNat:Int)=oA (oz p) r:=by
     unfold oA;have e1:ix (p::r) (((p::r).length:Int)- 1)=(p::r).getLast (by simp):=by
      rw[List.getLast_eq_getElem];have:((((p::r).length:Int)- 1))=(((p::r).length - 1:Nat):Int):=by simp
      rw[this,ed _ (by simp)]
     rw[e1];cases r with
     |nil=>simp[oz]
     |cons a b=>rw[List.getLast_cons (by simp),List.getLast?_eq_some_getLast (by simp)];rfl
    simp only[hlast];rfl
   ·rw[if_neg hg,if_neg hg]
end Go.Proofs.YtiliglahlfkikaaGreatDoor.V
end

section
set_option linter.unusedVariables false
set_option linter.unusedSimpArgs false
namespace Go.Proofs.YtiliglahlfkikaaGreatDoor.V
open Go.RowKit
structure Dh(o:gL):Prop where
 e:ka o.e
 more: ∀e∈o.more,ka e
 v:o.v.length=8
section
variable {Y:List Nat} {S:World→Prop}
theorem aZ.mem{U:cn}{e:bm}: ∀{xs:List (TT U.ty e)} {vs:List Value},aZ U Y S e xs vs→ ∀x∈xs,∃us,aK U Y S e x us
 | [],vs,_,x,hx=>by cases hx
 |y::xs,vs,h,x,hx=>by
  obtain⟨v1,v2,_,h1,_,h2⟩:=h.cons_inv;rcases List.mem_cons.1 hx with rfl|hx
  ·exact⟨v1,h1⟩
  ·exact aZ.mem h2 x hx
theorem xp{t:ae}{vs:List Value}(h:aK U Y S (.st 1) t vs):fM t:=by
 obtain⟨h,-⟩:=h.inv;obtain⟨_,_,-,h0,-,-⟩:=bK.inv (fs:= [(2,.st 0),(1,.int .i64)]) h;obtain⟨h0,-⟩:=aK.inv (s:= .st 0) h0;obtain⟨_,_,-,-,-,h1⟩:=bK.inv (fs:= [(1,.int .i64),(1,.int .u32)]) h0;obtain⟨_,_,-,h2,-,-⟩:=bK.inv (fs:= [(1,.int .u32)]) h1;exact(aK.inv (s:= .int .u32) h2).2
theorem xq{e:af}{vs:List Value}(h:aK U Y S (.st 3) e vs):ka e:=by
 obtain⟨h,-⟩:=h.inv;obtain⟨_,_,-,-,-,h⟩:=bK.inv (fs:= [(1,.int .i64),(1,.str),(1,.int .i64),(3,.st 1),(2,.st 2),(1,.sl (.st 1))]) h;obtain⟨_,_,-,-,-,h⟩:=bK.inv (fs:= [(1,.str),(1,.int .i64),(3,.st 1),(2,.st 2),(1,.sl (.st 1))]) h;obtain⟨_,_,-,-,-,h⟩:=bK.inv (fs:= [(1,.int .i64),(3,.st 1),(2,.st 2),(1,.sl (.st 1))]) h;obtain⟨_,_,-,h1,-,h⟩:=bK.inv (fs:= [(3,.st 1),(2,.st 2),(1,.sl (.st 1))]) h;obtain⟨_,_,-,h2,-,h⟩:=bK.inv (fs:= [(2,.st 2),(1,.sl (.st 1))]) h;obtain⟨_,_,-,h3,-,h⟩:=bK.inv (fs:= [(1,.sl (.st 1))]) h;obtain⟨h2,-⟩:=aK.inv (s:= .st 2) h2;obtain⟨_,_,-,h4,-,-⟩:=bK.inv (fs:= [(1,.int .u32),(1,.int .i64)]) h2;obtain⟨_,_,_,-,h5,-⟩:=aK.inv (s:= .sl (.st 1)) h3;refine⟨xp h1,fun t ht=>?_,(aK.inv (s:= .int .u32) h4).2.1⟩;obtain⟨us,hu⟩:=aZ.mem h5 t ht;exact xp hu
theorem G8{o:gL}{vs:List Value}(h:aK U Y S (.st 14) o vs):Dh o:=by
 obtain⟨h,-⟩:=h.inv;obtain⟨_,_,-,-,-,h⟩:=bK.inv (fs:= [(1,.int .i64),(9,.st 3),(8,.arr 8 (.int .u32)),(1,.sl (.st 3))]) h;obtain⟨_,_,-,h1,-,h⟩:=bK.inv (fs:= [(9,.st 3),(8,.arr 8 (.int .u32)),(1,.sl (.st 3))]) h;obtain⟨_,_,-,h2,-,h⟩:=bK.inv (fs:= [(8,.arr 8 (.int .u32)),(1,.sl (.st 3))]) h;obtain⟨_,_,-,h3,-,h⟩:=bK.inv (fs:= [(1,.sl (.st 3))]) h;obtain⟨_,_,_,-,h5,-⟩:=aK.inv (s:= .sl (.st 3)) h3;refine⟨xq h1,fun t ht=>?_,(aK.inv (s:= .arr 8 (.int .u32)) h2).2⟩;obtain⟨us,hu⟩:=aZ.mem h5 t ht;exact xq hu
end
end Go.Proofs.YtiliglahlfkikaaGreatDoor.V
end

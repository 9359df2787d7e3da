/- Functions walked: printed by the walker. -/
import Derived.Test.YtiliglahlfkikaaGreatDoorYt21
import Derived.Test.YtiliglahlfkikaaGreatDoorYt13
import Derived.Test.YtiliglahlfkikaaGreatDoorYt14
section
set_option linter.unusedVariables false
set_option linter.unusedSimpArgs false
set_option maxRecDepth 20000
set_option maxHeartbeats 4000000
namespace Go.Proofs.YtiliglahlfkikaaGreatDoor.V
open Go.RowKit
theorem cd{α β:Type} [DecidableEq α]: ∀(m:List (α×β)) (x:α) (v:β),(eX m x v).length≤m.length+1
 | [],x,v=>by simp[eX]
 |(k,y)::m,x,v=>by
  unfold eX;split
  ·simp
  ·have:=cd m x v;simp;omega
def aN{α β:Type}(m:List (α×β)):Prop:=(m.map (·.1)).Nodup
theorem p5{α β:Type} [DecidableEq α]: ∀(m:List (α×β)) (k:α) (v:β),(eX m k v).map (·.1)=if k∈m.map (·.1)then m.map (·.1)else m.map (·.1)++ [k]
 | [],k,v=>by simp[eX]
 |e::r,k,v=>by
  unfold eX;split
  ·rename_i h;rw[if_pos (by simp[h])];simp[h]
  ·rename_i h;rw[List.map_cons,p5 r k v,List.map_cons];by_cases q:k∈r.map (·.1)
   ·rw[if_pos q,if_pos (by simp[q])]
   ·rw[if_neg q,if_neg (by rw[List.mem_cons];rintro(g|g);exact h g.symm;exact q g)];rfl
theorem ik{α β:Type} [DecidableEq α]{m:List (α×β)}(h:aN m)(k:α)(v:β):aN (eX m k v):=by
 unfold aN at*;rw[p5];split
 ·exact h
 ·rename_i q;rw[List.nodup_append];refine⟨h,by simp,fun a ha b hb e=>?_⟩;simp at hb;subst hb;subst e;exact q ha
theorem mU{α β:Type}{m:List (α×β)}(h:aN m)(p:α×β→Bool):aN (m.filter p):=List.Nodup.sublist (List.filter_sublist.map _) h
def Cy(s:az)(b:List Int)(ap:List (af×ab))(sn:List (af×Bool)):Unit:=
 ()
def P9:bh U:=⟨[.p [(10,some (.st 10)),(8,some (.arr 8 (.int .u32))),(1,none),(1,none)]],fun xs es K=> ∃(s:az) (b:List Int) (ap:List (af×ab)) (sn:List (af×Bool)),xs= [(vp 0)]∧es= [.cells [(10,.d (.st 10) s),(8,.d (.arr 8 (.int .u32)) b),(1,.mp 1),(1,.mp 2)] 109,.map bw ap,.map ck sn]∧K (.v (iH b)) [.cells [(10,.d (.st 10) s),(8,.d (.arr 8 (.int .u32)) b),(1,.mp 1),(1,.mp 2)] 109,.map bw ap,.map ck sn]⟩
theorem Cz:Fk 20 P9:=by
 refine fo Tryz.f20 [.d (.arr 8 (.int .u32))] [(0,[(10,some (.st 10)),(8,some (.arr 8 (.int .u32))),(1,none),(1,none)])] (aj) fun xs es K=>?_;rintro⟨s,b,ap,sn,rfl,rfl,h⟩;refine⟨rfl,?_⟩;have hf0:=Cy.eq_1 s b ap sn;exact h
def uz(s:az)(b:List Int)(ap:List (af×ab))(sn:List (af×Bool)):Int:=
 (ap.length:Int)
def Qa:bh U:=⟨[.p [(10,some (.st 10)),(8,some (.arr 8 (.int .u32))),(1,none),(1,none)]],fun xs es K=> ∃(s:az) (b:List Int) (ap:List (af×ab)) (sn:List (af×Bool)),xs= [(vp 0)]∧es= [.cells [(10,.d (.st 10) s),(8,.d (.arr 8 (.int .u32)) b),(1,.mp 1),(1,.mp 2)] 109,.map bw ap,.map ck sn]∧(ap.length≤1000000)∧K (.v (vi (uz s b ap sn))) [.cells [(10,.d (.st 10) s),(8,.d (.arr 8 (.int .u32)) b),(1,.mp 1),(1,.mp 2)] 109,.map bw ap,.map ck sn]⟩
theorem CA:Fk 21 Qa:=by
 refine fo Tryz.f21 [.d (.int .i64)] [(0,[(10,some (.st 10)),(8,some (.arr 8 (.int .u32))),(1,none),(1,none)])] (aj) fun xs es K=>?_;rintro⟨s,b,ap,sn,rfl,rfl,h1,h⟩;refine⟨rfl,?_⟩;have hf0:=uz.eq_1 s b ap sn;refine vs (P:=(ap.length:Int)≤9223372036854775807) ?_;refine fl (x:=ap.length) fun _=>?_;exact e0
def uA(s:az)(b:List Int)(ap:List (af×ab))(sn:List (af×Bool))(t:af):Bool:=
 (cF sn t).getD ck.zero
def Qb:bh U:=⟨[.p [(10,some (.st 10)),(8,some (.arr 8 (.int .u32))),(1,none),(1,none)],.d (.st 1)],fun xs es K=> ∃(s:az) (b:List Int) (ap:List (af×ab)) (sn:List (af×Bool)) (t:af),xs= [(vp 0),(u4 t)]∧es= [.cells [(10,.d (.st 10) s),(8,.d (.arr 8 (.int .u32)) b),(1,.mp 1),(1,.mp 2)] 109,.map bw ap,.map ck sn]∧K (.v (vb (uA s b ap sn t))) [.cells [(10,.d (.st 10) s),(8,.d (.arr 8 (.int .u32)) b),(1,.mp 1),(1,.mp 2)] 109,.map bw ap,.map ck sn]⟩
theorem M5:Fk 22 Qb:=by
 refine fo Tryz.f22 [.d .bool] [(0,[(10,some (.st 10)),(8,some (.arr 8 (.int .u32))),(1,none),(1,none)])] (aj) fun xs es K=>?_;rintro⟨s,b,ap,sn,t,rfl,rfl,h⟩;refine⟨rfl,?_⟩;have hf0:=uA.eq_1 s b ap sn t;refine dp (up 7) none (nw 4) ?_;exact e0
def jo(key:List UInt8):Int⊕(Int×az×(List Int)×(List (af×ab))×(List (af×Bool))):=
 if(fI key).snd=0 then
  (.inr ((eN (fI key).fst).snd,(eN (fI key).fst).fst,[0,0,0,0,0,0,0,0],[],[]))
 else
  (.inl (fI key).snd)
def c6:bh U:=⟨[.d .str],fun xs es K=> ∃(key:List UInt8),xs= [(vt key)]∧es= []∧(key.length≤1000000)∧V2 (∀r0,jo key= .inl r0→(¬r0=0)→K (.tup [⟨false,[(1,Cx.nilp)]⟩,(vi r0)]) []) (∀r0 r1 r2 r3 r4,jo key= .inr (r0,r1,r2,r3,r4)→(r1.set.adds.length≤4097∧r1.set.gone.length≤4097∧r1.map.puts.length≤4097∧r1.map.gone.length≤4097∧r3.length≤0∧r4.length≤0∧aN r3)→K (.tup [(vp 0),(vi r0)]) [.cells [(10,.d (.st 10) r1),(8,.d (.arr 8 (.int .u32)) r2),(1,.mp 1),(1,.mp 2)] 109,.map bw r3,.map ck r4])⟩
theorem k6:Fk 6 c6:=by
 refine fo Tryz.f6 [.p [(10,some (.st 10)),(8,some (.arr 8 (.int .u32))),(1,none),(1,none)],.d (.int .i64)] [] (aa Oq (aa MG aj)) fun xs es K=>?_;rintro⟨key,rfl,rfl,h1,h⟩;refine⟨rfl,?_⟩;have hf0:=jo.eq_1 key;refine⟨_,rfl,rfl,(by omega),?_⟩;refine vN hf0 iD (fun _ hf0=>?_) (fun _ hf0=>?_)
 ·exact h.1 _ hf0 (show((fun(r0:Int)=> ¬r0=0) ((fI key).snd):Prop)from by omega)
 ·refine⟨_,rfl,rfl,?_⟩;exact h.2 _ _ _ _ _ hf0 (show((fun(r0:Int) (r1:az) (r2:List Int) (r3:List (af×ab)) (r4:List (af×Bool))=>r1.set.adds.length≤4097∧r1.set.gone.length≤4097∧r1.map.puts.length≤4097∧r1.map.gone.length≤4097∧r3.length≤0∧r4.length≤0∧aN r3) ((eN (fI key).fst).snd) ((eN (fI key).fst).fst) ([(0:Int),(0:Int),(0:Int),(0:Int),(0:Int),(0:Int),(0:Int),(0:Int)]) [] []:Prop)from by(refine⟨?_,?_,?_,?_,by simp,by simp,List.nodup_nil⟩<;>(unfold eN;split<;>simp)))
def wa(s:az)(b:List Int)(ap:List (af×ab))(sn:List (af×Bool)):az:=
 gR s
def Qc:bh U:=⟨[.p [(10,some (.st 10)),(8,some (.arr 8 (.int .u32))),(1,none),(1,none)]],fun xs es K=> ∃(s:az) (b:List Int) (ap:List (af×ab)) (sn:List (af×Bool)),xs= [(vp 0)]∧es= [.cells [(10,.d (.st 10) s),(8,.d (.arr 8 (.int .u32)) b),(1,.mp 1),(1,.mp 2)] 109,.map bw ap,.map ck sn]∧(s.set.adds.length≤4097)∧(s.set.gone.length≤4097)∧(s.map.puts.length≤4097)∧(s.map.gone.length≤4097)∧(ap.length≤100000)∧(sn.length≤100000)∧K (.v (vp 3)) [.cells [(10,.d (.st 10) s),(8,.d (.arr 8 (.int .u32)) b),(1,.mp 1),(1,.mp 2)] 109,.map bw ap,.map ck sn,.cells [(10,.d (.st 10) (wa s b ap sn)),(8,.d (.arr 8 (.int .u32)) b),(1,.mp 4),(1,.mp 5)] 109,.map bw ap,.map ck sn]⟩
theorem A7:Fk 19 Qc:=by
 refine fo Tryz.f19 [.p [(10,some (.st 10)),(8,some (.arr 8 (.int .u32))),(1,none),(1,none)]] [(0,[(10,some (.st 10)),(8,some (.arr 8 (.int .u32))),(1,none),(1,none)])] (aa Om (aa QE (aa QG aj))) fun xs es K=>?_;rintro⟨s,b,ap,sn,rfl,rfl,h1,h2,h3,h4,h5,h6,h⟩;refine⟨rfl,?_⟩;have hf0:=wa.eq_1 s b ap sn;refine dp [(true,0),(true,1),(true,2),(true,3),(true,5),(true,6),(true,7),(true,8),(true,9),(true,10),(true,11),(true,12),(true,14),(true,15),(true,16),(true,17),(false,4),(false,13),(false,18),(true,19),(false,20),(true,21)] none (1::2::nw 3) ?_;refine⟨_,rfl,rfl,(by omega),(by omega),(by omega),(by omega),?_⟩;refine⟨_,rfl,rfl,?_⟩;refine⟨_,rfl,rfl,?_⟩;exact e0
def CB(ap:List (af×ab)):Unit:=
 ()
def M6:bh U:=⟨[.n],fun xs es K=> ∃(ap:List (af×ab)),xs= [⟨false,[(1,.mp 0)]⟩]∧es= [.map bw ap]∧K (.v ⟨false,[(1,Cx.clo (162:Nat) [(0:Nat)+(1:Nat)])]⟩) [.map bw ap,.cells [(1,.mp 0)] 106]⟩
theorem M7:Fk 102 M6:=by
 refine fo Tryz.f102 [.n] [] (aj) fun xs es K=>?_;rintro⟨ap,rfl,rfl,h⟩;refine⟨rfl,?_⟩;have hf0:=CB.eq_1 ap;exact h
def aC(s:az)(b:List Int)(ap:List (af×ab))(sn:List (af×Bool))(e:ab):Int×az×(List (af×ab))×(List (af×Bool)):=
 if bm e=0 then
  if bB e.act=s.kind then
   if(cF sn e.tag).getD ck.zero=true then
    (11,s,ap,sn)
   else
    if(sn.length:Int)=4096 then
     (4,s,ap,sn)
    else
     if aK b e.tag.id=true then
      if(ay s e).snd=0 then
       (0,(ay s e).fst,ap,eX sn e.tag true)
      else
       ((ay s e).snd,s,ap,sn)
     else
      (0,s,eX ap e.tag (gQ e),eX sn e.tag true)
  else
   (5,s,ap,sn)
 else
  (bm e,s,ap,sn)
def c9:bh U:=⟨[.p [(10,some (.st 10)),(8,some (.arr 8 (.int .u32))),(1,none),(1,none)],.d (.st 3)],fun xs es K=> ∃(s:az) (b:List Int) (ap:List (af×ab)) (sn:List (af×Bool)) (e:ab),xs= [(vp 0),(D4 e)]∧es= [.cells [(10,.d (.st 10) s),(8,.d (.arr 8 (.int .u32)) b),(1,.mp 1),(1,.mp 2)] 109,.map bw ap,.map ck sn]∧(s.set.adds.length≤4097)∧(s.set.gone.length≤4097)∧(s.map.puts.length≤4097)∧(s.map.gone.length≤4097)∧(ap.length≤100000)∧(sn.length≤100000)∧(aN ap)∧((fun(r0:Int) (r1:az) (r3:List (af×ab)) (r4:List (af×Bool))=>r1.set.adds.length≤4097∧r1.set.gone.length≤4097∧r1.map.puts.length≤4097∧r1.map.gone.length≤4097∧r3.length≤ap.length+1∧r4.length≤sn.length+1∧aN r3) ((aC s b ap sn e).1) ((aC s b ap sn e).2.1) ((aC s b ap sn e).2.2.1) ((aC s b ap sn e).2.2.2)→K (.v (vi ((aC s b ap sn e).1))) [.cells [(10,.d (.st 10) ((aC s b ap sn e).2.1)),(8,.d (.arr 8 (.int .u32)) b),(1,.mp 1),(1,.mp 2)] 109,.map bw ((aC s b ap sn e).2.2.1),.map ck ((aC s b ap sn e).2.2.2)])⟩
theorem k9:Fk 9 c9:=by
 refine fo Tryz.f9 [.d (.int .i64)] [(0,[(10,some (.st 10)),(8,some (.arr 8 (.int .u32))),(1,none),(1,none)])] (aa Ol (aa MF (aa IL (aa On (aa P3 aj))))) fun xs es K=>?_;rintro⟨s,b,ap,sn,e,rfl,rfl,h1,h2,h3,h4,h5,h6,h8,h⟩;refine⟨rfl,?_⟩;have hf0:=aC.eq_1 s b ap sn e;refine⟨_,rfl,rfl,?_⟩;refine fun _=>?_;refine wN hf0 (fun h1 hf0=>?_) fun h1 hf0=>?_
 ·rw[hf0]at h;exact h (by(have hm:=cd sn e.tag true;have hn:=cd ap e.tag (gQ e);dsimp only;refine⟨?_,?_,?_,?_,?_,?_,?_⟩<;>first|omega|assumption|exact ik (by assumption) _ _))
 ·refine dp [(true,0),(true,1),(true,3),(true,4),(true,5),(true,6),(true,7),(false,2),(true,8),(true,9)] none (nw 4) ?_;refine⟨_,rfl,rfl,?_⟩;refine wN hf0 (fun h2 hf0=>?_) fun h2 hf0=>?_
  ·rw[hf0]at h;exact h (by(have hm:=cd sn e.tag true;have hn:=cd ap e.tag (gQ e);dsimp only;refine⟨?_,?_,?_,?_,?_,?_,?_⟩<;>first|omega|assumption|exact ik (by assumption) _ _))
  ·refine dp (up 8) none (nw 4) ?_;refine wI hf0 (fun h3 hf0=>?_) fun h3 hf0=>?_
   ·rw[hf0]at h;exact h (by(have hm:=cd sn e.tag true;have hn:=cd ap e.tag (gQ e);dsimp only;refine⟨?_,?_,?_,?_,?_,?_,?_⟩<;>first|omega|assumption|exact ik (by assumption) _ _))
   ·refine vs (P:=(sn.length:Int)≤9223372036854775807) ?_;refine fl (x:=sn.length) fun h4=>?_;refine wI hf0 (fun h5 hf0=>?_) fun h5 hf0=>?_
    ·rw[hf0]at h;exact h (by(have hm:=cd sn e.tag true;have hn:=cd ap e.tag (gQ e);dsimp only;refine⟨?_,?_,?_,?_,?_,?_,?_⟩<;>first|omega|assumption|exact ik (by assumption) _ _))
    ·refine dp (up 7) (some 7) (nw 4) ?_;refine⟨_,_,rfl,rfl,?_⟩;refine wI hf0 (fun h6 hf0=>?_) fun h6 hf0=>?_
     ·refine .inr ⟨(.look 0 (.look 1 (.look 2 (.look 3 (.look 4 (.turn 5 (.look 6 (.look 7 (.look 8 (.turn 9 (.turn 10 .fin .nil) .nil)))) (.turn 9 (.turn 5 (.look 6 (.look 7 (.look 8 (.turn 10 .fin .nil)))) .nil) .nil))))))),some 11,[],5,[(0,.v ⟨false,[(1,.ptr 0 0)]⟩),(3,.v ⟨false,[(1,.ptr 3 0)]⟩),(4,.v ⟨false,[(1,.d (.int .i64) (0:Int))]⟩),(6,.v ⟨false,[(1,.ptr 4 0)]⟩),(7,.v ⟨false,[(1,.d (.int .i64) ((ay s e).snd))]⟩)],[(0,.cells [(10,.d (.st 10) s),(8,.d (.arr 8 (.int .u32)) b),(1,.mp 1),(1,.mp 2)] 109),(1,.map bw ap),(2,.map ck sn),(3,.cells [(9,.d (.st 3) e)] 47),(4,.cells [(10,.d (.st 10) ((ay s e).fst))] 61)],((ay s e).fst.set.adds.length≤(4097:Nat)∧(ay s e).fst.set.gone.length≤(4097:Nat)∧(ay s e).fst.map.puts.length≤(4097:Nat)∧(ay s e).fst.map.gone.length≤(4097:Nat))∧True,by kernel_rfl,?_,?_⟩
      ·refine And.intro ?_ ?_
       ·refine⟨_,_,rfl,rfl,(by omega),(by omega),(by omega),(by omega),?_⟩;refine fun _=>?_;refine And.intro ?_ trivial;refine And.intro ?_ trivial;refine⟨⟨by assumption,trivial⟩,[],?_⟩;repeat (first|exact trivial|refine And.intro rfl ?_)
       refine And.intro ?_ trivial;refine And.intro ?_ trivial;refine⟨_,_,rfl,rfl,(by omega),(by omega),(by omega),(by omega),?_⟩;refine fun h8=>?_;refine And.intro ?_ trivial;refine⟨⟨by assumption,trivial⟩,[],?_⟩;repeat (first|exact trivial|refine And.intro rfl ?_)
      rintro⟨h9,-⟩;refine wN hf0 (fun _ hf0=>?_) fun _ hf0=>?_
      ·rw[hf0]at h;exact h (by(have hm:=cd sn e.tag true;have hn:=cd ap e.tag (gQ e);dsimp only;refine⟨?_,?_,?_,?_,?_,?_,?_⟩<;>first|omega|assumption|exact ik (by assumption) _ _))
      ·refine dp (up 6) (some 6) (nw 5) ?_;rw[hf0]at h;exact h (by(have hm:=cd sn e.tag true;have hn:=cd ap e.tag (gQ e);dsimp only;refine⟨?_,?_,?_,?_,?_,?_,?_⟩<;>first|omega|assumption|exact ik (by assumption) _ _))
     ·refine dp [(true,0),(true,1),(true,2),(true,3),(true,4),(true,5),(true,6),(false,7)] (some 8) (nw 4) ?_;refine⟨_,rfl,rfl,(by omega),?_⟩;refine dp (up 6) (some 6) (nw 5) ?_;rw[hf0]at h;exact h (by(have hm:=cd sn e.tag true;have hn:=cd ap e.tag (gQ e);dsimp only;refine⟨?_,?_,?_,?_,?_,?_,?_⟩<;>first|omega|assumption|exact ik (by assumption) _ _))
def Qd:bh U:=⟨[.p [(10,some (.st 10)),(8,some (.arr 8 (.int .u32))),(1,none),(1,none)],.d (.st 3)],fun xs es K=> ∃(s:az) (b:List Int) (ap:List (af×ab)) (sn:List (af×Bool)) (e:ab),xs= [⟨false,[(1,.ptr 0 0)]⟩,⟨true,[(9,.d (.st 3) e)]⟩]∧es= [.cells [(10,.d (.st 10) s),(8,.d (.arr 8 (.int .u32)) b),(1,.mp 1),(1,.mp 2)] 109,.map bw ap,.map ck sn]∧(s.set.adds.length≤4097)∧(s.set.gone.length≤4097)∧(s.map.puts.length≤4097)∧(s.map.gone.length≤4097)∧(ap.length≤100000)∧(sn.length≤100000)∧(aN ap)∧(∀r0 r1 r3 r4,aC s b ap sn e=(r0,r1,r3,r4)→(r1.set.adds.length≤4097∧r1.set.gone.length≤4097∧r1.map.puts.length≤4097∧r1.map.gone.length≤4097∧r3.length≤ap.length+1∧r4.length≤sn.length+1∧aN r3)→K (.v ⟨false,[(1,.d (.int .i64) r0)]⟩) [.cells [(10,.d (.st 10) r1),(8,.d (.arr 8 (.int .u32)) b),(1,.mp 1),(1,.mp 2)] 109,.map bw r3,.map ck r4])⟩
theorem Oo:cc Tryz.prog U 9 Qd:=cc.mono k9 fun xs es K=>by
 rintro⟨s,b,ap,sn,e,rfl,rfl,h1,h2,h3,h4,h5,h6,h8,h⟩;exact⟨s,b,ap,sn,e,rfl,rfl,h1,h2,h3,h4,h5,h6,h8,h _ _ _ _ rfl⟩
def bU(s:az)(b:List Int)(ap:List (af×ab))(sn:List (af×Bool))(v:List Int):Nat→Int→(List ab)→(List ab)⊕(Int×(List ab))
 |0,s15,s5=> .inr (s15,s5)
 |n1+1,s15,s5=>
  if s15<((aV (fun(t t':af)=>ae t t') (List.map (fun(x:af×ab)=>x.fst) ap)).length:Int)then
   if(aK v (ix (aV (fun(t t':af)=>ae t t') (List.map (fun(x:af×ab)=>x.fst) ap)) s15).id)=true then
    bU s b ap sn v n1 (s15+1) (s5++ [(cF ap (ix (aV (fun(t t':af)=>ae t t') (List.map (fun(x:af×ab)=>x.fst) ap)) s15)).getD bw.zero])
   else
    bU s b ap sn v n1 (s15+1) s5
  else
   .inr (s15,s5)
def au(s:az)(b:List Int)(ap:List (af×ab))(sn:List (af×Bool))(v:List Int):List ab:=
 match bU s b ap sn v ((((aV (fun(t t':af)=>ae t t') (List.map (fun(x:af×ab)=>x.fst) ap)).length:Int)- 0).toNat+1) 0 ([]:List ab)with
 | .inl r=>r
 | .inr (s15,s5)=>
  s5
def Qe:bh U:=⟨[.p [(10,some (.st 10)),(8,some (.arr 8 (.int .u32))),(1,none),(1,none)],.d (.arr 8 (.int .u32))],fun xs es K=> ∃(s:az) (b:List Int) (ap:List (af×ab)) (sn:List (af×Bool)) (v:List Int),xs= [(vp 0),(iH v)]∧es= [.cells [(10,.d (.st 10) s),(8,.d (.arr 8 (.int .u32)) b),(1,.mp 1),(1,.mp 2)] 109,.map bw ap,.map ck sn]∧(ap.length≤100000)∧((fun(r0:List ab)=>r0.length≤100000) (au s b ap sn v)→K (.v (D6 (au s b ap sn v))) [.cells [(10,.d (.st 10) s),(8,.d (.arr 8 (.int .u32)) b),(1,.mp 1),(1,.mp 2)] 109,.map bw ap,.map ck sn])⟩
theorem Qf:Fk 46 Qe:=by
 refine fo Tryz.f46 [.d (.sl (.st 3))] [(0,[(10,some (.st 10)),(8,some (.arr 8 (.int .u32))),(1,none),(1,none)])] (aa IL (aa zf (aa NF (aa M7 aj)))) fun xs es K=>?_;rintro⟨s,b,ap,sn,v,rfl,rfl,h1,h⟩;refine⟨rfl,?_⟩;have hf0:=au.eq_1 s b ap sn v;refine⟨_,rfl,rfl,?_⟩;refine⟨fun(t t':af)=>ae t t',fun t0 t1=>⟨_,_,rfl,rfl,rfl,rfl⟩,?_⟩;refine⟨_,_,rfl,rfl,(show ap.length≤(1000000:Nat)from by omega),(jn _),?_⟩;refine fl (x:=(aV (fun(t t':af)=>ae t t') (List.map (fun(x:af×ab)=>x.fst) ap)).length) fun _=>?_;refine lI (σ:=Int×(List ab)) 7 (fun(s15,s5)=> [(0,.v (vp 0)),(3,.v (vp 3)),(4,.v ⟨false,[(1,.nils)]⟩),(5,.v (vo 6)),(13,.v (vo 5)),(14,.v (vi (((aV (fun(t t':af)=>ae t t') (List.map (fun(x:af×ab)=>x.fst) ap)).length:Int)))),(15,.v (vi s15))]) (fun(s15,s5)=> [(0,.cells [(10,.d (.st 10) s),(8,.d (.arr 8 (.int .u32)) b),(1,.mp 1),(1,.mp 2)] 109),(1,.map bw ap),(2,.map ck sn),(3,.cells [(8,.d (.arr 8 (.int .u32)) v)] 41),(5,.row 0 (.st 1) (aV (fun(t t':af)=>ae t t') (List.map (fun(x:af×ab)=>x.fst) ap)) 34),(6,.row 0 (.st 3) s5 47)]) (fun(s15,s5)=>(((aV (fun(t t':af)=>ae t t') (List.map (fun(x:af×ab)=>x.fst) ap)).length:Int)- s15).toNat) (fun(s15,s5)=>(0≤s15)∧(s15≤((aV (fun(t t':af)=>ae t t') (List.map (fun(x:af×ab)=>x.fst) ap)).length:Int))∧((s5.length:Int)≤s15)∧True) (fun n1 (s15,s5)=>bU s b ap sn v n1 s15 s5) (bU s b ap sn v ((((aV (fun(t t':af)=>ae t t') (List.map (fun(x:af×ab)=>x.fst) ap)).length:Int)- 0).toNat+1) 0 ([]:List ab)) [] ((0:Int),([]:List ab)) ?_;rintro⟨s15,s5⟩ ⟨n1,hc1,⟨hi1_0,hi1_1,hi1_2,-⟩,hf1⟩;have hf1:=hf1.trans (bU.eq_2 s b ap sn v s15 s5 n1);refine wI hf1 (fun h1 hf1=>?_) fun h1 hf1=>?_
 ·refine vx s15 (aV (fun(t t':af)=>ae t t') (List.map (fun(x:af×ab)=>x.fst) ap)) ?_;refine⟨_,_,rfl,rfl,?_⟩;refine wI hf1 (fun _ hf1=>?_) fun _ hf1=>?_
  ·refine dp [(true,0),(true,1),(true,2),(true,3),(true,4),(true,5),(true,6),(false,7),(false,8),(true,9)] none (6::nw 8) ?_;refine vs (P:=(s5.length+ [(cF ap (ix (aV (fun(t t':af)=>ae t t') (List.map (fun(x:af×ab)=>x.fst) ap)) s15)).getD bw.zero].length)*(96:Nat)≤(140737488355328:Nat)) ?_ (by(have hl:=c7 (fun(t t':af)=>ae t t') (List.map (fun(x:af×ab)=>x.fst) ap);rw[List.length_map]at hl;simp only[List.length_append,List.length_cons,List.length_nil];omega));refine ez ?_;exact nx (s:=(s15,s5)) [] (s15+1,s5++ [(cF ap (ix (aV (fun(t t':af)=>ae t t') (List.map (fun(x:af×ab)=>x.fst) ap)) s15)).getD bw.zero]) hc1 hf1
  ·refine ez ?_;exact nx (s:=(s15,s5)) [] (s15+1,s5) hc1 hf1
 ·rw[hf1]at hf0;rw[hf0]at h;exact h (by(have hl:=c7 (fun(t t':af)=>ae t t') (List.map (fun(x:af×ab)=>x.fst) ap);rw[List.length_map]at hl;simp only[List.length_append,List.length_cons,List.length_nil];omega))
def gT(s:az)(b:List Int)(ap:List (af×ab))(sn:List (af×Bool))(v:List Int)(more:List ab):Nat→Int→az→(az×Int)⊕(Int×az)
 |0,s39,s9_0=> .inr (s39,s9_0)
 |n1+1,s39,s9_0=>
  if s39<((au s b ap sn v++more).length:Int)then
   if(ay s9_0 (ix (au s b ap sn v++more) s39)).snd=0 then
    gT s b ap sn v more n1 (s39+1) ((ay s9_0 (ix (au s b ap sn v++more) s39)).fst)
   else
    .inl ((az.mk 0 (bM.mk 0 (aA.mk 0 0)) (bY.mk 0 0) (aY.mk [] []) (be.mk [] []),(ay s9_0 (ix (au s b ap sn v++more) s39)).snd))
  else
   .inr (s39,s9_0)
def bk(s:az)(b:List Int)(ap:List (af×ab))(sn:List (af×Bool))(v:List Int)(more:List ab):az×Int:=
 if eG v=0 then
  if jP b v=true then
   match gT s b ap sn v more ((((au s b ap sn v++more).length:Int)- 0).toNat+1) 0 s with
   | .inl r=>r
   | .inr (s39,s9_0)=>
    (gR s9_0,0)
  else
   (az.mk 0 (bM.mk 0 (aA.mk 0 0)) (bY.mk 0 0) (aY.mk [] []) (be.mk [] []),17)
 else
  (az.mk 0 (bM.mk 0 (aA.mk 0 0)) (bY.mk 0 0) (aY.mk [] []) (be.mk [] []),eG v)
def Qg:bh U:=⟨[.p [(10,some (.st 10)),(8,some (.arr 8 (.int .u32))),(1,none),(1,none)],.d (.arr 8 (.int .u32)),.d (.sl (.st 3))],fun xs es K=> ∃(s:az) (b:List Int) (ap:List (af×ab)) (sn:List (af×Bool)) (v:List Int) (more:List ab),xs= [(vp 0),(iH v),(D6 more)]∧es= [.cells [(10,.d (.st 10) s),(8,.d (.arr 8 (.int .u32)) b),(1,.mp 1),(1,.mp 2)] 109,.map bw ap,.map ck sn]∧(s.set.adds.length≤4097)∧(s.set.gone.length≤4097)∧(s.map.puts.length≤4097)∧(s.map.gone.length≤4097)∧(ap.length≤100000)∧(sn.length≤100000)∧(more.length≤100000)∧((fun(r0:az) (r1:Int)=>r0.set.adds.length≤4097∧r0.set.gone.length≤4097∧r0.map.puts.length≤4097∧r0.map.gone.length≤4097) ((bk s b ap sn v more).1) ((bk s b ap sn v more).2)→K (.tup [(ku ((bk s b ap sn v more).1)),(vi ((bk s b ap sn v more).2))]) [.cells [(10,.d (.st 10) s),(8,.d (.arr 8 (.int .u32)) b),(1,.mp 1),(1,.mp 2)] 109,.map bw ap,.map ck sn])⟩
theorem xh:Fk 12 Qg:=by
 refine fo Tryz.f12 [.d (.st 10),.d (.int .i64)] [(0,[(10,some (.st 10)),(8,some (.arr 8 (.int .u32))),(1,none),(1,none)])] (aa On (aa O9 (aa Pd (aa Qy (aa Qf (aa Om aj)))))) fun xs es K=>?_;rintro⟨s,b,ap,sn,v,more,rfl,rfl,h1,h2,h3,h4,h5,h6,h7,h⟩;refine⟨rfl,?_⟩;have hf0:=bk.eq_1 s b ap sn v more;refine⟨_,rfl,rfl,?_⟩;refine vN hf0 iD (fun _ hf0=>?_) (fun _ hf0=>?_)
 ·rw[hf0]at h;exact h (show((fun(r0:az) (r1:Int)=>r0.set.adds.length≤4097∧r0.set.gone.length≤4097∧r0.map.puts.length≤4097∧r0.map.gone.length≤4097) (az.mk (0:Int) (bM.mk (0:Int) (aA.mk (0:Int) (0:Int))) (bY.mk (0:Int) (0:Int)) (aY.mk [] []) (be.mk [] [])) (eG v):Prop)from by simp)
 ·refine .inl ⟨[(true,0),(true,1),(true,2),(true,3),(true,4),(false,5),(true,6)],none,[5,6,7,8,9,10,11,12,13,14,15,16],by kernel_rfl,?_⟩;refine⟨_,_,rfl,rfl,?_⟩;refine vN hf0 (iN iB) (fun h1 hf0=>?_) (fun h1 hf0=>?_)
  ·rw[hf0]at h;exact h (show((fun(r0:az) (r1:Int)=>r0.set.adds.length≤4097∧r0.set.gone.length≤4097∧r0.map.puts.length≤4097∧r0.map.gone.length≤4097) (az.mk (0:Int) (bM.mk (0:Int) (aA.mk (0:Int) (0:Int))) (bY.mk (0:Int) (0:Int)) (aY.mk [] []) (be.mk [] [])) (17:Int):Prop)from by simp)
  ·refine⟨_,_,_,_,_,rfl,rfl,(by omega),?_⟩;refine fun h2=>?_;refine⟨_,_,rfl,rfl,(show(au s b ap sn v).length≤(1000000:Nat)from by omega),(show more.length≤(1000000:Nat)from by omega),?_⟩;refine fun h3=>?_;have h3:(↑(au s b ap sn v++more).length:Int)≤(9223372036854775807:Int):=h3.2;refine⟨Int×az,8,fun(s39,s9_0)=> [(6,.v ⟨false,[(1,.ptr 4 0)]⟩),(7,.v ⟨false,[(1,.d (.int .i64) (0:Int))]⟩),(9,.v ⟨false,[(1,.ptr 5 0)]⟩),(37,.v ⟨false,[(1,.own 7 0)]⟩),(38,.v ⟨false,[(1,.d (.int .i64) (↑(au s b ap sn v++more).length:Int))]⟩),(39,.v ⟨false,[(1,.d (.int .i64) s39)]⟩)],fun(s39,s9_0)=> [(0,.cells [(10,.d (.st 10) s),(8,.d (.arr 8 (.int .u32)) b),(1,.mp 1),(1,.mp 2)] 109),(1,.map bw ap),(2,.map ck sn),(4,.cells [(1,.d (.int .i64) (0:Int)),(1,.d (.int .i64) (0:Int)),(1,.d (.int .u32) (0:Int)),(1,.d (.int .i64) (0:Int)),(1,.d (.int .i64) (0:Int)),(1,.d (.int .i64) (0:Int)),(1,.nils),(1,.nils),(1,.nils),(1,.nils)] 61),(5,.cells [(10,.d (.st 10) s9_0)] 61),(7,.row 0 (.st 3) (au s b ap sn v++more) 47)],dQ (fun(s39,s9_0)=>((↑(au s b ap sn v++more).length:Int)- s39).toNat) (fun(s39,s9_0)=>((0:Int)≤s39)∧(s39≤(↑(au s b ap sn v++more).length:Int))∧(s9_0.set.adds.length≤4097)∧(s9_0.set.gone.length≤4097)∧(s9_0.map.puts.length≤4097)∧(s9_0.map.gone.length≤4097)∧True) (fun n1 (s39,s9_0)=>gT s b ap sn v more n1 s39 s9_0) (gT s b ap sn v more (((↑(au s b ap sn v++more).length:Int)-(0:Int)).toNat+1) (0:Int) s),fun(s39,s9_0)=>((↑(au s b ap sn v++more).length:Int)- s39).toNat,⟨[],((0:Int),s),dQ.mk0 _ (Nat.lt_succ_self _) ⟨show(0:Int)≤(0:Int)from by omega,show(0:Int)≤(↑(au s b ap sn v++more).length:Int)from by omega,show s.set.adds.length≤(4097:Nat)from by omega,show s.set.gone.length≤(4097:Nat)from by omega,show s.map.puts.length≤(4097:Nat)from by omega,show s.map.gone.length≤(4097:Nat)from by omega,trivial⟩ rfl,?_⟩,?_⟩
   ·repeat (first|exact trivial|refine And.intro rfl ?_)
   ·rintro⟨s39,s9_0⟩ ⟨n1,hc1,⟨hi1_0,hi1_1,hi1_2,hi1_3,hi1_4,hi1_5,-⟩,hf1⟩;have hf1:=hf1.trans (gT.eq_2 s b ap sn v more s39 s9_0 n1);refine vI hf1 iD (fun h4 hf1=>?_) (fun h4 hf1=>?_)
    ·refine And.intro (show(0:Int)≤s39∧s39<(↑(au s b ap sn v++more).length:Int)from by omega) ?_;refine⟨_,_,rfl,rfl,(by omega),(by omega),(by omega),(by omega),?_⟩;refine fun h5=>?_;refine vN hf1 iD (fun h6 hf1=>?_) (fun h6 hf1=>?_)
     ·rw[hf1]at hf0;rw[hf0]at h;exact h (show((fun(r0:az) (r1:Int)=>r0.set.adds.length≤4097∧r0.set.gone.length≤4097∧r0.map.puts.length≤4097∧r0.map.gone.length≤4097) (az.mk (0:Int) (bM.mk (0:Int) (aA.mk (0:Int) (0:Int))) (bY.mk (0:Int) (0:Int)) (aY.mk [] []) (be.mk [] [])) ((ay s9_0 (ix (au s b ap sn v++more) s39)).snd):Prop)from by simp)
     ·refine .inl (And.intro (xI (p:=s39) (q:=(1:Int)) (r:=s39+(1:Int)) (by omega)) ?_);have hm1:((↑(au s b ap sn v++more).length:Int)-(s39+(1:Int))).toNat<((↑(au s b ap sn v++more).length:Int)- s39).toNat:=by omega
      refine⟨[],(s39+(1:Int),(ay s9_0 (ix (au s b ap sn v++more) s39)).fst),hm1,dQ.next (s:=(s39,s9_0)) hc1 hm1 ⟨show(0:Int)≤s39+(1:Int)from by omega,show s39+(1:Int)≤(↑(au s b ap sn v++more).length:Int)from by omega,show(ay s9_0 (ix (au s b ap sn v++more) s39)).fst.set.adds.length≤(4097:Nat)from by omega,show(ay s9_0 (ix (au s b ap sn v++more) s39)).fst.set.gone.length≤(4097:Nat)from by omega,show(ay s9_0 (ix (au s b ap sn v++more) s39)).fst.map.puts.length≤(4097:Nat)from by omega,show(ay s9_0 (ix (au s b ap sn v++more) s39)).fst.map.gone.length≤(4097:Nat)from by omega,trivial⟩ hf1,?_⟩;repeat (first|exact trivial|refine And.intro rfl ?_)
    ·rw[hf1]at hf0;refine⟨_,rfl,rfl,(by omega),(by omega),(by omega),(by omega),?_⟩;rw[hf0]at h;exact h (show((fun(r0:az) (r1:Int)=>r0.set.adds.length≤4097∧r0.set.gone.length≤4097∧r0.map.puts.length≤4097∧r0.map.gone.length≤4097) (gR s9_0) (0:Int):Prop)from by(have e:gR s9_0=s9_0:=rfl;simp only[e];omega))
def M8:bh U:=⟨[.p [(10,some (.st 10)),(8,some (.arr 8 (.int .u32))),(1,none),(1,none)],.d (.arr 8 (.int .u32)),.d (.sl (.st 3))],fun xs es K=> ∃(s:az) (b:List Int) (ap:List (af×ab)) (sn:List (af×Bool)) (v:List Int) (more:List ab),xs= [⟨false,[(1,.ptr 0 0)]⟩,⟨true,[(8,.d (.arr 8 (.int .u32)) v)]⟩,⟨false,[(1,.d (.sl (.st 3)) more)]⟩]∧es= [.cells [(10,.d (.st 10) s),(8,.d (.arr 8 (.int .u32)) b),(1,.mp 1),(1,.mp 2)] 109,.map bw ap,.map ck sn]∧(s.set.adds.length≤4097)∧(s.set.gone.length≤4097)∧(s.map.puts.length≤4097)∧(s.map.gone.length≤4097)∧(ap.length≤100000)∧(sn.length≤100000)∧(more.length≤100000)∧(∀r0 r1,bk s b ap sn v more=(r0,r1)→(r0.set.adds.length≤4097∧r0.set.gone.length≤4097∧r0.map.puts.length≤4097∧r0.map.gone.length≤4097)→K (.tup [⟨true,[(10,.d (.st 10) r0)]⟩,⟨false,[(1,.d (.int .i64) r1)]⟩]) [.cells [(10,.d (.st 10) s),(8,.d (.arr 8 (.int .u32)) b),(1,.mp 1),(1,.mp 2)] 109,.map bw ap,.map ck sn])⟩
theorem IS:cc Tryz.prog U 12 M8:=cc.mono xh fun xs es K=>by
 rintro⟨s,b,ap,sn,v,more,rfl,rfl,h1,h2,h3,h4,h5,h6,h7,h⟩;exact⟨s,b,ap,sn,v,more,rfl,rfl,h1,h2,h3,h4,h5,h6,h7,h _ _ rfl⟩
def kB(ap:List (af×ab))(v:List Int)(l left:List (af×ab)):Prop:=aN ap∧left.Sublist ap∧l=ap.filter (fun p=>decide (p.1∈left.map (·.1))||!aK v p.1.id)
theorem uB{ap:List (af×ab)}{v:List Int}(h:aN ap):kB ap v ap ap:=⟨h,List.Sublist.refl _,(List.filter_eq_self.2 fun p hp=>by
 rw[decide_eq_true (List.mem_map_of_mem hp)];rfl).symm⟩
theorem zg{ap:List (af×ab)}{v:List Int}{l left:List (af×ab)}(h:kB ap v l left)(h0:left= []):l=ap.filter (fun p=>!aK v p.1.id):=by
 subst h0;rw[h.2.2];apply List.filter_congr;intro p _;simp
theorem xi{ap:List (af×ab)}{v:List Int}{l left a b:List (af×ab)}{p:af×ab}(h:kB ap v l left)(h0:left=a++p::b)(h1: ¬aK v p.1.id=true):kB ap v l (a++b):=by
 subst h0;refine⟨h.1,List.Sublist.trans (List.Sublist.append_left (List.sublist_cons_self p b) a) h.2.1,?_⟩;rw[h.2.2];apply List.filter_congr;intro q _;by_cases e:q.1=p.1
 ·rw[e];simp[h1]
 ·congr 1;simp[e]
theorem zh{ap:List (af×ab)}{v:List Int}{l left a b:List (af×ab)}{p:af×ab}(h:kB ap v l left)(h0:left=a++p::b)(h1:aK v p.1.id=true):kB ap v (dU l p.1) (dU (a++b) p.1):=by
 subst h0;obtain⟨n1,n2,n3⟩:=h;have nl:(l.map (·.1)).Nodup:=by rw[n3];exact List.Nodup.sublist (List.filter_sublist.map _) n1
 have n4:((a++p::b).map (·.1)).Nodup:=List.Nodup.sublist (n2.map _) n1;have n5:(((p::(a++b))).map (·.1)).Nodup:=((List.perm_middle (a:=p) (l₁:=a) (l₂:=b)).symm.map (·.1)).nodup_iff.2 n4;rw[List.map_cons,List.nodup_cons]at n5;have e1:dU (a++b) p.1=a++b:=by
  rw[iu _ n5.2];refine List.filter_eq_self.2 fun q hq=>?_;have:q.1≠p.1:=fun e=>n5.1 (by rw[←e];exact List.mem_map_of_mem hq);simpa using this
 rw[e1];refine⟨n1,List.Sublist.trans (List.Sublist.append_left (List.sublist_cons_self p b) a) n2,?_⟩;rw[iu _ nl,n3,List.filter_filter];apply List.filter_congr;intro q _;by_cases e:q.1=p.1
 ·have h3:p.1∉(a++b).map (·.1):=n5.1;rw[e,decide_eq_false h3,h1];simp
 ·rw[show decide (q.1≠p.1)=true from decide_eq_true e,Bool.true_and];congr 1;simp[e]
theorem sU{α β:Type} [DecidableEq α]: ∀(m:List (α×β)) (x:α),(dU m x).length≤m.length
 | [],x=>by simp[dU]
 |(k,y)::m,x=>by
  unfold dU;split
  ·simp
  ·have:=sU m x;simp;omega
theorem oE{α:Type}{left a b:List α}{p:α}(h:left=a++p::b):(a++b).length<left.length:=by subst h;simp
theorem zi{left a b:List (af×ab)}{p:af×ab}{k:af}(h:left=a++p::b):(dU (a++b) k).length<left.length:=Nat.lt_of_le_of_lt (sU _ _) (oE h)
def bZ(s:az)(b:List Int)(ap:List (af×ab))(sn:List (af×Bool))(v:List Int):Int×az×(List Int)×(List (af×ab)):=
 if(bk s b ap sn v []).snd=0 then
  if(bl (bk s b ap sn v []).fst v).snd=0 then
   (0,(bl (bk s b ap sn v []).fst v).fst,v,List.filter (fun(p:af×ab)=>!aK v p.fst.id) ap)
  else
   ((bl (bk s b ap sn v []).fst v).snd,s,b,ap)
 else
  ((bk s b ap sn v []).snd,s,b,ap)
def Qh:bh U:=⟨[.p [(10,some (.st 10)),(8,some (.arr 8 (.int .u32))),(1,none),(1,none)],.d (.arr 8 (.int .u32))],fun xs es K=> ∃(s:az) (b:List Int) (ap:List (af×ab)) (sn:List (af×Bool)) (v:List Int),xs= [(vp 0),(iH v)]∧es= [.cells [(10,.d (.st 10) s),(8,.d (.arr 8 (.int .u32)) b),(1,.mp 1),(1,.mp 2)] 109,.map bw ap,.map ck sn]∧(s.set.adds.length≤4097)∧(s.set.gone.length≤4097)∧(s.map.puts.length≤4097)∧(s.map.gone.length≤4097)∧(ap.length≤100000)∧(sn.length≤100000)∧(aN ap)∧((fun(r0:Int) (r1:az) (r2:List Int) (r3:List (af×ab))=>r1.set.adds.length≤4097∧r1.set.gone.length≤4097∧r1.map.puts.length≤4097∧r1.map.gone.length≤4097∧r3.length≤ap.length∧aN r3) ((bZ s b ap sn v).1) ((bZ s b ap sn v).2.1) ((bZ s b ap sn v).2.2.1) ((bZ s b ap sn v).2.2.2)→K (.v (vi ((bZ s b ap sn v).1))) [.cells [(10,.d (.st 10) ((bZ s b ap sn v).2.1)),(8,.d (.arr 8 (.int .u32)) ((bZ s b ap sn v).2.2.1)),(1,.mp 1),(1,.mp 2)] 109,.map bw ((bZ s b ap sn v).2.2.2),.map ck sn])⟩
theorem Ep:Fk 17 Qh:=by
 refine fo Tryz.f17 [.d (.int .i64)] [(0,[(10,some (.st 10)),(8,some (.arr 8 (.int .u32))),(1,none),(1,none)])] (aa xh (aa IL (aa P8 aj))) fun xs es K=>?_;rintro⟨s,b,ap,sn,v,rfl,rfl,h1,h2,h3,h4,h5,h6,h8,h⟩;refine⟨rfl,?_⟩;have hf0:=bZ.eq_1 s b ap sn v;refine⟨_,_,_,_,_,_,rfl,rfl,(by omega),(by omega),(by omega),(by omega),(by omega),(by omega),(show(0:Nat)≤(100000:Nat)from by omega),?_⟩;refine fun(h0:(bk s b ap sn v []).fst.set.adds.length≤(4097:Nat)∧(bk s b ap sn v []).fst.set.gone.length≤(4097:Nat)∧(bk s b ap sn v []).fst.map.puts.length≤(4097:Nat)∧(bk s b ap sn v []).fst.map.gone.length≤(4097:Nat))=>?_;refine wN hf0 (fun h1 hf0=>?_) fun h1 hf0=>?_
 ·rw[hf0]at h;exact h (by(have hl:=List.length_filter_le (fun(p:af×ab)=>!aK v p.1.id) ap;dsimp only;refine⟨?_,?_,?_,?_,?_,?_⟩<;>first|omega|assumption|exact mU (by assumption) _))
 ·refine⟨_,_,rfl,rfl,(show(bk s b ap sn v []).fst.set.adds.length≤(4097:Nat)from by omega),(show(bk s b ap sn v []).fst.set.gone.length≤(4097:Nat)from by omega),(show(bk s b ap sn v []).fst.map.puts.length≤(4097:Nat)from by omega),(show(bk s b ap sn v []).fst.map.gone.length≤(4097:Nat)from by omega),?_⟩;refine fun(h2:(bl (bk s b ap sn v []).fst v).fst.set.adds.length≤(4097:Nat)∧(bl (bk s b ap sn v []).fst v).fst.set.gone.length≤(4097:Nat)∧(bl (bk s b ap sn v []).fst v).fst.map.puts.length≤(4097:Nat)∧(bl (bk s b ap sn v []).fst v).fst.map.gone.length≤(4097:Nat))=>?_;refine wN hf0 (fun h3 hf0=>?_) fun h3 hf0=>?_
  ·rw[hf0]at h;exact h (by(have hl:=List.length_filter_le (fun(p:af×ab)=>!aK v p.1.id) ap;dsimp only;refine⟨?_,?_,?_,?_,?_,?_⟩<;>first|omega|assumption|exact mU (by assumption) _))
  ·refine dp [(true,0),(true,1),(true,2),(true,3),(true,4),(true,5),(false,6),(true,7),(true,8)] (some 9) (0::1::2::nw 5) ?_;refine fun b4=>?_;refine⟨(List (af×ab))×(List (af×ab))×Gh×(List (af×ab)),6,fun(e1,e1l,e1g,e1c)=> [(0,.v ⟨false,[(1,.ptr 0 0)]⟩),(3,.v ⟨false,[(1,.ptr 3 0)]⟩),(4,.v ⟨false,[(1,.d (.int .i64) (0:Int))]⟩),(38,.v ⟨false,[(1,.ptr 5 0)]⟩)],fun(e1,e1l,e1g,e1c)=> [(0,.cells [(10,.d (.st 10) ((bl (bk s b ap sn v []).fst v).fst)),(8,.d (.arr 8 (.int .u32)) v),(1,.mp 1),(1,.mp 2)] 109),(1,.mapr bw e1 e1l e1c e1g),(2,.map ck sn),(3,.cells [(8,.d (.arr 8 (.int .u32)) v)] 41),(5,.it 1 e1g)],fun(e1,e1l,e1g,e1c)=>(kB ap v e1 e1l)∧True,fun(e1,e1l,e1g,e1c)=>e1l.length,⟨[],(ap,ap,b4,([]:List (af×ab))),⟨show kB ap v ap ap from uB (by assumption),trivial⟩,?_⟩,?_⟩
   ·repeat (first|exact trivial|refine And.intro rfl ?_)
   ·rintro⟨e1,e1l,e1g,e1c⟩ ⟨hi1_0,-⟩;refine vs (P:=e1g=e1g) ?_ (by simp);refine And.intro (fun h5=>?_) (fun(a6:List (af×ab)) (p7:af×ab) (b8:List (af×ab)) (h9:e1l=a6++p7::b8)=>?_)
    ·refine vF iB (by simp) ?_;obtain rfl:e1=List.filter (fun(p:af×ab)=>!aK v p.1.id) ap:=zg (by assumption) (by assumption);rw[hf0]at h;exact h (by(have hl:=List.length_filter_le (fun(p:af×ab)=>!aK v p.1.id) ap;dsimp only;refine⟨?_,?_,?_,?_,?_,?_⟩<;>first|omega|assumption|exact mU (by assumption) _))
    ·refine fun b10=>?_;refine vT iB rfl ?_;refine vs (P:=b10=b10) ?_ (by simp);refine⟨_,_,rfl,rfl,?_⟩;refine vR iB (fun _=>?_) (fun _=>?_)
     ·refine dp (up 5) (some 5) (nw 7) ?_;have hm1:(dU (a6++b8) p7.fst).length<e1l.length:=zi (by assumption);refine⟨[],(dU e1 p7.fst,dU (a6++b8) p7.fst,b10,[]),hm1,⟨show kB ap v (dU e1 p7.fst) (dU (a6++b8) p7.fst)from zh (by assumption) (by assumption) (by assumption),trivial⟩,?_⟩;repeat (first|exact trivial|refine And.intro rfl ?_)
     ·have hm1:(a6++b8).length<e1l.length:=oE (by assumption);refine⟨[],(e1,a6++b8,b10,[p7]),hm1,⟨show kB ap v e1 (a6++b8)from xi (by assumption) (by assumption) (by assumption),trivial⟩,?_⟩;repeat (first|exact trivial|refine And.intro rfl ?_)
def M9:bh U:=⟨[.p [(10,some (.st 10)),(8,some (.arr 8 (.int .u32))),(1,none),(1,none)],.d (.arr 8 (.int .u32))],fun xs es K=> ∃(s:az) (b:List Int) (ap:List (af×ab)) (sn:List (af×Bool)) (v:List Int),xs= [⟨false,[(1,.ptr 0 0)]⟩,⟨true,[(8,.d (.arr 8 (.int .u32)) v)]⟩]∧es= [.cells [(10,.d (.st 10) s),(8,.d (.arr 8 (.int .u32)) b),(1,.mp 1),(1,.mp 2)] 109,.map bw ap,.map ck sn]∧(s.set.adds.length≤4097)∧(s.set.gone.length≤4097)∧(s.map.puts.length≤4097)∧(s.map.gone.length≤4097)∧(ap.length≤100000)∧(sn.length≤100000)∧(aN ap)∧(∀r0 r1 r2 r3,bZ s b ap sn v=(r0,r1,r2,r3)→(r1.set.adds.length≤4097∧r1.set.gone.length≤4097∧r1.map.puts.length≤4097∧r1.map.gone.length≤4097∧r3.length≤ap.length∧aN r3)→K (.v ⟨false,[(1,.d (.int .i64) r0)]⟩) [.cells [(10,.d (.st 10) r1),(8,.d (.arr 8 (.int .u32)) r2),(1,.mp 1),(1,.mp 2)] 109,.map bw r3,.map ck sn])⟩
theorem IT:cc Tryz.prog U 17 M9:=cc.mono Ep fun xs es K=>by
 rintro⟨s,b,ap,sn,v,rfl,rfl,h1,h2,h3,h4,h5,h6,h8,h⟩;exact⟨s,b,ap,sn,v,rfl,rfl,h1,h2,h3,h4,h5,h6,h8,h _ _ _ _ rfl⟩
end Go.Proofs.YtiliglahlfkikaaGreatDoor.V
end

section
set_option linter.unusedVariables false
set_option linter.unusedSimpArgs false
namespace Go.Proofs.YtiliglahlfkikaaGreatDoor.V
open Go.RowKit Go.Shelf Go.Lib Go.Sort
theorem l8{α β:Type} [DecidableEq α]: ∀{m:List (α×β)},aN m→ ∀(k:α) (v:β),(k,v)∈m→cF m k=some v
 | [],_,k,v,h=>by cases h
 |(k0,v0)::m,hn,k,v,h=>by
  unfold aN at hn;rw[List.map_cons,List.nodup_cons]at hn;rcases List.mem_cons.1 h with h|h
  ·injection h with h1 h2;subst h1;subst h2;simp[cF]
  ·have hne: ¬k0=k:=fun e=>hn.1 (by rw[e];exact List.mem_map_of_mem (f:=(·.1)) h);have:=l8 (m:=m) hn.2 k v h;unfold cF at this⊢;rw[List.find?_cons_of_neg (by simpa using hne)];exact this
theorem oS{α β:Type} [DecidableEq α]{m:List (α×β)}{k:α}(h:k∉m.map (·.1)):cF m k=none:=qg m fun x hx e=>h (e▸hx)
theorem xu{α β:Type} [DecidableEq α]{m m':List (α×β)}(h:aN m)(hp:m.Perm m')(k:α):cF m k=cF m' k:=by
 have h':aN m':=((hp.map (fun x:α×β=>x.1)).nodup_iff).1 h;by_cases q:k∈m.map (·.1)
 ·obtain⟨⟨k',v⟩,hm,rfl⟩:=List.mem_map.1 q;rw[l8 h _ _ hm,l8 h' _ _ (hp.mem_iff.1 hm)]
 ·rw[oS q,oS fun q'=>q ((hp.map (·.1)).mem_iff.2 q')]
theorem rn{s s':az}{b b':List Int}{ap ap':List (af×ab)}{sn sn':List (af×Bool)}(h:aN ap)(hp:ap.Perm ap')(v:List Int):au s b ap sn v=au s' b' ap' sn' v:=by
 have hK:aV (fun(t t':af)=>ae t t') (List.map (fun(x:af×ab)=>x.fst) ap)=aV (fun(t t':af)=>ae t t') (List.map (fun(x:af×ab)=>x.fst) ap'):=
  kM (g:=fun(t t':af)=>ae t t') (jn _) (hp.map _)
 have key: ∀fuel i e,bU s b ap sn v fuel i e=bU s' b' ap' sn' v fuel i e:=by
  intro fuel;induction fuel with
  |zero=>intro i e;rfl
  |succ n ih=>
   intro i e;rw[bU,bU];simp only[hK,ih,xu h hp]
 unfold au;rw[hK,key]
theorem zN{s:az}{b:List Int}{ap ap':List (af×ab)}{sn sn':List (af×Bool)}(h:aN ap)(hp:ap.Perm ap')(v:List Int)(more:List ab):bk s b ap sn v more=bk s b ap' sn' v more:=by
 have hw:=rn (s:=s) (s':=s) (b:=b) (b':=b) (sn:=sn) (sn':=sn') h hp v;have key: ∀fuel i e,gT s b ap sn v more fuel i e=gT s b ap' sn' v more fuel i e:=by
  intro fuel;induction fuel with
  |zero=>intro i e;rfl
  |succ n ih=>
   intro i e;rw[gT,gT];simp only[hw,ih]
 unfold bk;rw[hw,key]
def l9:az→List ab→az×Int
 |s,[]=>(s,0)
 |s,e::l=>if(ay s e).2=0 then l9 (ay s e).1 l else(CQ,(ay s e).2)
theorem wl(s:az)(b:List Int)(ap:List (af×ab))(sn:List (af×Bool))(v:List Int)(more:List ab): ∀(fuel:Nat) (i:Int) (st:az),0≤i→i≤(au s b ap sn v++more).length→(((au s b ap sn v++more).length:Int)- i).toNat<fuel→
  (match gT s b ap sn v more fuel i st with| .inl r=>r| .inr (_,q)=>(gR q,(0:Int)))=l9 st ((au s b ap sn v++more).drop i.toNat)
 |0,i,st,_,_,h=>by omega
 |fuel+1,i,st,h0,h1,h=>by
  rw[gT];by_cases hlt:i<((au s b ap sn v++more).length:Int)
  ·rw[if_pos hlt,rl _ h0 hlt,l9];by_cases h2:(ay st (ix (au s b ap sn v++more) i)).snd=0
   ·rw[if_pos h2,if_pos h2,wl s b ap sn v more fuel (i+1) _ (by omega) (by omega) (by omega)]
   ·rw[if_neg h2,if_neg h2];rfl
  ·rw[if_neg hlt,List.drop_of_length_le (by omega)];rfl
theorem ke(s:az)(b:List Int)(ap:List (af×ab))(sn:List (af×Bool))(v:List Int)(more:List ab):bk s b ap sn v more=if eG v=0 then(if jP b v=true then l9 s (au s b ap sn v++more)else(CQ,17))else(CQ,eG v):=by
 unfold bk;have h:=wl s b ap sn v more ((((au s b ap sn v++more).length:Int)-(0:Int)).toNat+1) 0 s (by omega) (by omega) (by omega);split
 ·split
  ·exact h
  ·rfl
 ·rfl
theorem uM{l:List af}(h:bJ l):aV (fun(t t':af)=>ae t t') l=l:=by
 refine List.mergeSort_of_pairwise (List.Pairwise.imp ?_ h);intro a c hac;show(!decide (ae c a<0))=true
 rw[bT,decide_eq_false (fun q=>by have:=(d6 _ _).1 q;rw[eV hac]at this;cases this)];rfl
def z8:List Int:= [0,0,0,0,0,0,0,0]
theorem I1(j:Int)(h0:0≤j)(h1:j<8):ix z8 j=0:=by
 have:j=0∨j=1∨j=2∨j=3∨j=4∨j=5∨j=6∨j=7:=by omega
 rcases this with rfl|rfl|rfl|rfl|rfl|rfl|rfl|rfl<;>rfl
theorem rq{e:ab}(hw:ip e)(h:bm e=0):aK z8 e.tag.id=false:=by
 have h1:=(d7 h).tag;rw[sY]at h1;have h0:=hw.tag.1;split at h1
 ·cases h1
 split at h1
 ·cases h1
 rename_i c;unfold aK;rw[I1 _ (by omega) (by omega),decide_eq_false (show ¬e.tag.id.seq≤0 by omega),Bool.and_false]
def dt(D:List ab):List (af×ab):=D.map fun e=>(e.tag,e)
def fC(D:List ab):List (af×Bool):=D.map fun e=>(e.tag,true)
theorem iX(D:List ab):(dt D).map (·.1)=D.map (·.tag):=by unfold dt;rw[List.map_map];rfl
theorem kf(D:List ab):(fC D).map (·.1)=D.map (·.tag):=by unfold fC;rw[List.map_map];rfl
structure VA(k:Int)(s:az)(b:List Int)(ap:List (af×ab))(sn:List (af×Bool))(D:List ab):Prop where
 s:s=zO k
 b:b=z8
 ap:ap=dt D
 sn:sn=fC D
 nd:(D.map (·.tag)).Nodup
 g: ∀e∈D,bm e=0∧bB e.act=k
 w: ∀e∈D,ip e
section
variable {k:Int} {s s':az} {b b':List Int} {ap ap':List (af×ab)} {sn sn':List (af×Bool)} {D D':List ab} {e:ab}
theorem VA.new(k:Int):VA k (zO k) z8 [] [] []:=⟨rfl,rfl,rfl,rfl,List.nodup_nil,fun _ h=>(by cases h),fun _ h=>(by cases h)⟩
theorem mc(D:List ab)(hn:(D.map (·.tag)).Nodup)(t:af):(cF (fC D) t).getD ck.zero=decide (t∈D.map (·.tag)):=by
 by_cases q:t∈D.map (·.tag)
 ·obtain⟨e,he,rfl⟩:=List.mem_map.1 q;rw[l8 (m:=fC D) (by unfold aN;rw[kf];exact hn) e.tag true (List.mem_map_of_mem (f:=fun e:ab=>(e.tag,true)) he),decide_eq_true q];rfl
 ·rw[oS (by rw[kf];exact q),decide_eq_false q];rfl
theorem VA.snoc(h:VA k s b ap sn D)(hw:ip e)(h1:bm e=0)(h2:bB e.act=k)(h3:e.tag∉D.map (·.tag)):VA k s b (eX ap e.tag (gQ e)) (eX sn e.tag true) (D++ [e]):=by
 refine⟨h.s,h.b,?_,?_,?_,fun x hx=>?_,fun x hx=>?_⟩
 ·rw[h.ap,jV (dt D) _ fun x hx q=>h3 (by rw[iX]at hx;exact q▸hx)];unfold dt;rw[List.map_append];rfl
 ·rw[h.sn,jV (fC D) true fun x hx q=>h3 (by rw[kf]at hx;exact q▸hx)];unfold fC;rw[List.map_append];rfl
 ·rw[List.map_append,List.nodup_append];refine⟨h.nd,by simp,fun a ha c hc q=>?_⟩;simp at hc;subst hc;subst q;exact h3 ha
 ·rcases List.mem_append.1 hx with hx|hx
  ·exact h.g x hx
  ·rw[List.mem_singleton]at hx;subst hx;exact⟨h1,h2⟩
 ·rcases List.mem_append.1 hx with hx|hx
  ·exact h.w x hx
  ·rw[List.mem_singleton]at hx;subst hx;exact hw
theorem VA.add(h:VA k s b ap sn D)(hw:ip e):((aC s b ap sn e).1=0∧e.tag∉D.map (·.tag)∧VA k (aC s b ap sn e).2.1 b (aC s b ap sn e).2.2.1 (aC s b ap sn e).2.2.2 (D++ [e]))∨(¬(aC s b ap sn e).1=0∧(aC s b ap sn e).2=(s,ap,sn)):=by
 unfold aC;rw[h.sn,mc D h.nd,←h.sn,h.s,h.b];by_cases c1:bm e=0
 ·rw[if_pos c1,rq hw c1];by_cases c2:bB e.act=(zO k).kind
  ·rw[if_pos c2];by_cases c3:e.tag∈D.map (·.tag)
   ·rw[if_pos (decide_eq_true c3)];exact .inr ⟨by simp,rfl⟩
   ·rw[if_neg (by simpa using c3)];split
    ·exact .inr ⟨by simp,rfl⟩
    ·rw[if_neg (by simp)];have:=h.snoc hw c1 c2 c3;rw[h.s,h.b]at this;exact .inl ⟨rfl,c3,this⟩
  ·rw[if_neg c2];exact .inr ⟨by simp,rfl⟩
 ·rw[if_neg c1];exact .inr ⟨c1,rfl⟩
theorem VA.adds(h:VA k s b ap sn D)(hw:ip e)(h1:bm e=0)(h2:bB e.act=k)(h3:e.tag∉D.map (·.tag))(h4:D.length<4096):(aC s b ap sn e).1=0:=by
 unfold aC;rw[h.sn,mc D h.nd,←h.sn,h.s,h.b,if_pos h1,rq hw h1,if_pos (show bB e.act=(zO k).kind from h2),if_neg (by simpa using h3),if_neg (by rw[h.sn];unfold fC;rw[List.length_map];omega),if_neg (by simp)]
theorem VA.at_(h:VA k s b ap sn D)(h':VA k s' b' ap' sn' D')(hp:D.Perm D')(v:List Int)(more:List ab):bk s b ap sn v more=bk s' b' ap' sn' v more:=by
 rw[h.s,h'.s,h.b,h'.b];refine zN (by unfold aN;rw[h.ap,iX];exact h.nd) ?_ v more;rw[h.ap,h'.ap];exact hp.map _
end
end Go.Proofs.YtiliglahlfkikaaGreatDoor.V
end

section
set_option linter.unusedVariables false
set_option linter.unusedSimpArgs false
set_option maxRecDepth 20000
set_option maxHeartbeats 4000000
namespace Go.Proofs.YtiliglahlfkikaaGreatDoor.V
open Go.RowKit
theorem CC(x y:List UInt8):ow x y=if x<y then -1 else if y<x then 1 else 0:=by unfold ow mO;simp
def pA(p:List UInt8×bt):aP:=aP.mk p.1 p.2.val
def gk(m:List (List UInt8×bt))(l:List aP)(left:List (List UInt8×bt)):Prop:=aN m∧(l++left.map pA).Perm (m.map pA)
theorem sV{m:List (List UInt8×bt)}(h:aN m):gk m [] m:=⟨h,by simp⟩
theorem uC{m:List (List UInt8×bt)}{l:List aP}{left a b:List (List UInt8×bt)}{p:List UInt8×bt}(h:gk m l left)(e:left=a++p::b):gk m (l++ [aP.mk p.1 p.2.val]) (a++b):=by
 refine⟨h.1,List.Perm.trans ?_ h.2⟩;subst e;simp only[List.map_append,List.map_cons,List.append_assoc,List.singleton_append];exact List.Perm.append_left _ (List.perm_middle (a:=pA p)).symm
theorem oF{m:List (List UInt8×bt)}{l:List aP}{left:List (List UInt8×bt)}(h:gk m l left)(e:left= []):l.Perm (m.map pA):=by
 subst e;have:=h.2;simpa using this
theorem p6{m:List (List UInt8×bt)}{l:List aP}{left:List (List UInt8×bt)}(h:gk m l left):l.length≤m.length:=by
 have:=h.2.length_eq;simp at this;omega
theorem xj{α β:Type}{f:α→β}{l:List α}(h:(l.map f).Nodup){a b:α}(ha:a∈l)(hb:b∈l)(e:f a=f b):a=b:=by
 induction l with
 |nil=>cases ha
 |cons x l ih=>
  rw[List.map_cons,List.nodup_cons]at h;rcases List.mem_cons.1 ha with e1|ha'
  ·rcases List.mem_cons.1 hb with e2|hb'
   ·rw[e1,e2]
   ·exact absurd (List.mem_map.2 ⟨b,hb',by rw[←e,e1]⟩) h.1
  ·rcases List.mem_cons.1 hb with e2|hb'
   ·exact absurd (List.mem_map.2 ⟨a,ha',by rw[e,e2]⟩) h.1
   ·exact ih h.2 ha' hb'
open Go.Shelf Go.Lib Go.Sort
theorem j8(a b:aP):ltOf cC a b=decide (a.field<b.field):=by
 unfold ltOf cC;rw[CC,decide_eq_decide];split
 ·simp[*]
 ·rename_i h;split<;>simp[h]
theorem sW{l:List aP}(h:(l.map (·.field)).Nodup):iE l cC:=by
 refine⟨⟨fun x=>?_,fun x y z h1 h2=>?_,fun x y z h1 h2=>?_⟩,fun x hx y hy h1 h2=>?_⟩
 ·rw[j8];simp[List.lt_irrefl]
 ·rw[j8,decide_eq_true_iff]at*;exact List.lt_trans h1 h2
 ·rw[j8,decide_eq_false_iff_not,List.not_lt]at*;exact List.le_trans h2 h1
 ·rw[j8,decide_eq_false_iff_not,List.not_lt]at h1 h2;exact xj h hx hy (List.le_antisymm h2 h1)
theorem lX{m:List (List UInt8×bt)}(h:aN m):iE (m.map pA) cC:=sW (by rw[List.map_map];exact h)
theorem zj{m:List (List UInt8×bt)}{l:List aP}{left:List (List UInt8×bt)}(h:gk m l left)(e:left= []):iE l cC:=(lX h.1).perm (oF h e)
theorem re{m:List (List UInt8×bt)}{l:List aP}{left:List (List UInt8×bt)}(h:gk m l left)(e:left= []):aV (fun(t t1:aP)=>cC t t1) l=aV (fun(t t1:aP)=>cC t t1) (m.map pA):=kM (lX h.1) (oF h e)
def cZ(s:be):Nat→Int→(List (List UInt8×bt))→(List aP)⊕(Int×(List (List UInt8×bt)))
 |0,s18,s3=> .inr (s18,s3)
 |n1+1,s18,s3=>
  if s18<(s.puts.length:Int)then
   if(¬((cF s3 (ix s.puts s18).field).isSome=true))∨(oy ((cF s3 (ix s.puts s18).field).getD tU.zero) (ix s.puts s18)<0)then
    cZ s n1 (s18+1) (eX s3 (ix s.puts s18).field (ix s.puts s18))
   else
    cZ s n1 (s18+1) s3
  else
   .inr (s18,s3)
def eK(s:be):List aP:=
 if dA s=0 then
  match cZ s (((s.puts.length:Int)- 0).toNat+1) 0 ([]:List (List UInt8×bt))with
  | .inl r=>r
  | .inr (s18,s3)=>
   aV (fun(t t1:aP)=>cC t t1) (List.map pA s3)
 else
  []
def Ql:bh U:=⟨[.d (.st 9)],fun xs es K=> ∃(s:be),xs= [(wE s)]∧es= []∧(s.puts.length≤1000000)∧(s.gone.length≤1000000)∧((fun(r0:List aP)=>r0.length≤1000000) (eK s)→K (.v (tV (eK s))) [])⟩
theorem Qm:Fk 66 Ql:=by
 refine fo Tryz.f66 [.d (.sl (.st 12))] [] (aa Cw (aa MN (aa Nx (aa MR aj)))) fun xs es K=>?_;rintro⟨s,rfl,rfl,h1,h2,h⟩;refine⟨rfl,?_⟩;have hf0:=eK.eq_1 s;refine⟨_,rfl,rfl,(by omega),(by omega),?_⟩;refine fun _=>?_;refine vN hf0 iD (fun h1 hf0=>?_) (fun h1 hf0=>?_)
 ·rw[hf0]at h;exact h (show((fun(r0:List aP)=>r0.length≤1000000) []:Prop)from by simp)
 ·refine fun h2=>?_;have h2:(↑s.puts.length:Int)≤(9223372036854775807:Int):=h2.2;refine⟨Int×(List (List UInt8×bt)),2,fun(s18,s3)=> [(2,.v ⟨false,[(1,.nils)]⟩),(3,.v ⟨false,[(1,.mp 1)]⟩),(16,.v ⟨false,[(1,.d (.sl (.st 4)) s.puts)]⟩),(17,.v ⟨false,[(1,.d (.int .i64) (↑s.puts.length:Int))]⟩),(18,.v ⟨false,[(1,.d (.int .i64) s18)]⟩)],fun(s18,s3)=> [(1,.map tU s3)],dQ (fun(s18,s3)=>((↑s.puts.length:Int)- s18).toNat) (fun(s18,s3)=>((0:Int)≤s18)∧(s18≤(↑s.puts.length:Int))∧((s3.length:Int)≤s18)∧(aN s3)∧((s3.length:Int)≤s18)∧True) (fun n1 (s18,s3)=>cZ s n1 s18 s3) (cZ s (((↑s.puts.length:Int)-(0:Int)).toNat+1) (0:Int) ([]:List (List UInt8×bt))),fun(s18,s3)=>((↑s.puts.length:Int)- s18).toNat,⟨[],((0:Int),([]:List (List UInt8×bt))),dQ.mk0 _ (Nat.lt_succ_self _) ⟨show(0:Int)≤(0:Int)from by omega,show(0:Int)≤(↑s.puts.length:Int)from by omega,show(↑[].length:Int)≤(0:Int)from by(simp only[List.length_append,List.length_cons,List.length_nil];omega),show aN []from List.nodup_nil,show(↑[].length:Int)≤(0:Int)from by(simp only[List.length_append,List.length_cons,List.length_nil];omega),trivial⟩ rfl,?_⟩,?_⟩
  ·repeat (first|exact trivial|refine And.intro rfl ?_)
  ·rintro⟨s18,s3⟩ ⟨n1,hc1,⟨hi1_0,hi1_1,hi1_2,hi1_3,hi1_4,-⟩,hf1⟩;have hf1:=hf1.trans (cZ.eq_2 s s18 s3 n1);refine vI hf1 iD (fun _ hf1=>?_) (fun _ hf1=>?_)
   ·refine And.intro (show(0:Int)≤s18∧s18<(↑s.puts.length:Int)from by omega) ?_;refine⟨_,fun _=>⟨_,_,rfl,rfl,rfl,rfl⟩,rfl,?_⟩;refine vI hf1 (iO (iN iB) iD) (fun _ hf1=>?_) (fun _ hf1=>?_)
    ·refine .inl (And.intro (xI (p:=s18) (q:=(1:Int)) (r:=s18+(1:Int)) (by omega)) ?_);have hm1:((↑s.puts.length:Int)-(s18+(1:Int))).toNat<((↑s.puts.length:Int)- s18).toNat:=by omega
     refine⟨[],(s18+(1:Int),eX s3 (ix s.puts s18).field (ix s.puts s18)),hm1,dQ.next (s:=(s18,s3)) hc1 hm1 ⟨show(0:Int)≤s18+(1:Int)from by omega,show s18+(1:Int)≤(↑s.puts.length:Int)from by omega,show(↑(eX s3 (ix s.puts s18).field (ix s.puts s18)).length:Int)≤s18+(1:Int)from by(have hm:=cd s3 (ix s.puts s18).field (ix s.puts s18);omega),show aN (eX s3 (ix s.puts s18).field (ix s.puts s18))from ik (by assumption) _ _,show(↑(eX s3 (ix s.puts s18).field (ix s.puts s18)).length:Int)≤s18+(1:Int)from by(have hm:=cd s3 (ix s.puts s18).field (ix s.puts s18);omega),trivial⟩ hf1,?_⟩;repeat (first|exact trivial|refine And.intro rfl ?_)
    ·refine .inl (And.intro (xI (p:=s18) (q:=(1:Int)) (r:=s18+(1:Int)) (by omega)) ?_);have hm1:((↑s.puts.length:Int)-(s18+(1:Int))).toNat<((↑s.puts.length:Int)- s18).toNat:=by omega
     refine⟨[],(s18+(1:Int),s3),hm1,dQ.next (s:=(s18,s3)) hc1 hm1 ⟨show(0:Int)≤s18+(1:Int)from by omega,show s18+(1:Int)≤(↑s.puts.length:Int)from by omega,show(↑s3.length:Int)≤s18+(1:Int)from by omega,show aN s3 from by omega,show(↑s3.length:Int)≤s18+(1:Int)from by omega,trivial⟩ hf1,?_⟩;repeat (first|exact trivial|refine And.intro rfl ?_)
   ·rw[hf1]at hf0;refine fun b6=>?_;refine⟨(List (List UInt8×bt))×(List (List UInt8×bt))×Gh×(List aP),4,fun(e1l,e1c,e1g,s8)=> [(2,.v ⟨false,[(1,.nils)]⟩),(8,.v ⟨false,[(1,.own 3 0)]⟩),(43,.v ⟨false,[(1,.ptr 2 0)]⟩)],fun(e1l,e1c,e1g,s8)=> [(1,.mapr tU s3 e1l e1c e1g),(2,.it 1 e1g),(3,.row 0 (.st 12) s8 134)],fun(e1l,e1c,e1g,s8)=>(gk s3 s8 e1l)∧True,fun(e1l,e1c,e1g,s8)=>e1l.length,⟨[],(s3,([]:List (List UInt8×bt)),b6,([]:List aP)),⟨show gk s3 [] s3 from sV (by assumption),trivial⟩,?_⟩,?_⟩
    ·repeat (first|exact trivial|refine And.intro rfl ?_)
    ·rintro⟨e1l,e1c,e1g,s8⟩ ⟨hi2_0,-⟩;refine And.intro (show e1g=e1g from by simp) ?_;refine And.intro (fun _=>?_) (fun(a8:List (List UInt8×bt)) (p9:List UInt8×bt) (b10:List (List UInt8×bt)) (h11:e1l=a8++p9::b10)=>?_)
     ·refine vF iB (by simp) ?_;refine⟨fun(t t':aP)=>cC t t',fun t0 t1=>⟨_,_,rfl,rfl,rfl,rfl⟩,?_⟩;refine⟨_,_,rfl,rfl,(zj (by assumption) (by assumption)),(show s8.length<(4611686018427387904:Nat)from by(have hl:=p6 (show gk s3 s8 e1l from by assumption);omega)),?_⟩;have er0:(aV (fun(t t':aP)=>cC t t') s8:List aP)=aV (fun(t t1:aP)=>cC t t1) (List.map pA s3):=re (by assumption) (by assumption);rw[hf0]at h;replace h:=h (show((fun(r0:List aP)=>r0.length≤1000000) (aV (fun(t t1:aP)=>cC t t1) (List.map pA s3)):Prop)from by(dsimp only;rw[c7,List.length_map];omega));dsimp only at h;rw[←er0]at h;exact h
     ·refine fun b12=>?_;refine vT iB rfl ?_;refine And.intro (show b12=b12 from by simp) ?_;refine And.intro (show(s8.length+ [aP.mk p9.fst p9.snd.val].length)*(24:Nat)≤(140737488355328:Nat)from by(have hl:=p6 (show gk s3 s8 e1l from by assumption);simp only[List.length_append,List.length_cons,List.length_nil];omega)) ?_;have hm2:(a8++b10).length<e1l.length:=oE (by assumption);refine⟨[],(a8++b10,[p9],b12,s8++ [aP.mk p9.fst p9.snd.val]),hm2,⟨show gk s3 (s8++ [aP.mk p9.fst p9.snd.val]) (a8++b10)from uC (by assumption) (by assumption),trivial⟩,?_⟩;repeat (first|exact trivial|refine And.intro rfl ?_)
theorem kQ(s:aY):(bf s).length≤s.adds.length:=by
 have key: ∀(n:Nat) (i:Int) (t:List (List UInt8)),0≤i→(t.length:Int)≤i→i≤s.adds.length→ ∃j u,dz s n i t= .inr (j,u)∧u.length≤s.adds.length:=fun n=>by
  induction n with
  |zero=>intro i t h0 h1 h2;exact⟨i,t,rfl,by omega⟩
  |succ n ih=>
   intro i t h0 h1 h2;rw[dz];split
   ·exact ih _ _ (by omega) (by simp;omega) (by omega)
   ·exact⟨i,t,rfl,by omega⟩
 obtain⟨j,u,h,hu⟩:=key (((s.adds.length:Int)- 0).toNat+1) 0 [] (by omega) (by simp) (by omega);unfold bf;split
 ·rw[h];exact Nat.le_trans (zt _) (by rw[gD];exact hu)
 ·simp
def d5(s:az):Nat→Int→(List aP)→bO⊕(Int×(List aP))
 |0,s30,e3=> .inr (s30,e3)
 |n1+1,s30,e3=>
  if s30<((bf s.set).length:Int)then
   d5 s n1 (s30+1) (e3++ [aP.mk (ix (bf s.set) s30) 0])
  else
   .inr (s30,e3)
def dw(s:az):bO:=
 if s.kind=1 then
  bO.mk s.kind s.reg.val []
 else
  if s.kind=2 then
   bO.mk s.kind (lS s.num) []
  else
   if s.kind=3 then
    match d5 s ((((bf s.set).length:Int)- 0).toNat+1) 0 ([]:List aP)with
    | .inl r=>r
    | .inr (s30,e3)=>
     bO.mk s.kind 0 e3
   else
    if s.kind=4 then
     bO.mk s.kind 0 (eK s.map)
    else
     bO.mk 0 0 []
def Qn:bh U:=⟨[.d (.st 10)],fun xs es K=> ∃(s:az),xs= [(ku s)]∧es= []∧(s.set.adds.length≤900000)∧(s.set.gone.length≤900000)∧(s.map.puts.length≤900000)∧(s.map.gone.length≤900000)∧((fun(r0:bO)=>r0.items.length≤1000000) (dw s)→K (.v (A4 (dw s))) [])⟩
theorem KY:Fk 30 Qn:=by
 refine fo Tryz.f30 [.d (.st 13)] [] (aa Pj (aa PH (aa Qm aj))) fun xs es K=>?_;rintro⟨s,rfl,rfl,h1,h2,h3,h4,h⟩;refine⟨rfl,?_⟩;have hf0:=dw.eq_1 s;refine vI hf0 iD (fun _ hf0=>?_) (fun _ hf0=>?_)
 ·rw[hf0]at h;exact h (show((fun(r0:bO)=>r0.items.length≤1000000) (bO.mk s.kind s.reg.val []):Prop)from by simp)
 ·refine vI hf0 iD (fun h1 hf0=>?_) (fun h1 hf0=>?_)
  ·refine⟨_,rfl,rfl,?_⟩;rw[hf0]at h;exact h (show((fun(r0:bO)=>r0.items.length≤1000000) (bO.mk s.kind (lS s.num) []):Prop)from by simp)
  ·refine vI hf0 iD (fun h2 hf0=>?_) (fun h2 hf0=>?_)
   ·refine⟨_,rfl,rfl,(by omega),(by omega),?_⟩;refine fun h3=>?_;have h3:(↑(bf s.set).length:Int)≤(9223372036854775807:Int):=h3.2;refine⟨Int×(List aP),4,fun(s30,e3)=> [(2,.v ⟨false,[(1,.ptr 1 0)]⟩),(3,.v ⟨false,[(1,.ptr 2 0)]⟩),(28,.v ⟨false,[(1,.d (.sl .str) (bf s.set))]⟩),(29,.v ⟨false,[(1,.d (.int .i64) (↑(bf s.set).length:Int))]⟩),(30,.v ⟨false,[(1,.d (.int .i64) s30)]⟩)],fun(s30,e3)=> [(1,.cells [(1,.d (.int .i64) (0:Int)),(1,.d (.int .i64) (0:Int)),(1,.nils)] 100),(2,.cells [(1,.d (.int .i64) s.kind),(1,.d (.int .i64) (0:Int)),(1,.own 3 0)] 100),(3,.row 0 (.st 12) e3 134)],dQ (fun(s30,e3)=>((↑(bf s.set).length:Int)- s30).toNat) (fun(s30,e3)=>((0:Int)≤s30)∧(s30≤(↑(bf s.set).length:Int))∧((e3.length:Int)≤s30)∧True) (fun n1 (s30,e3)=>d5 s n1 s30 e3) (d5 s (((↑(bf s.set).length:Int)-(0:Int)).toNat+1) (0:Int) ([]:List aP)),fun(s30,e3)=>((↑(bf s.set).length:Int)- s30).toNat,⟨[],((0:Int),([]:List aP)),dQ.mk0 _ (Nat.lt_succ_self _) ⟨show(0:Int)≤(0:Int)from by omega,show(0:Int)≤(↑(bf s.set).length:Int)from by omega,show(↑[].length:Int)≤(0:Int)from by(simp only[List.length_append,List.length_cons,List.length_nil];omega),trivial⟩ rfl,?_⟩,?_⟩
    ·repeat (first|exact trivial|refine And.intro rfl ?_)
    ·rintro⟨s30,e3⟩ ⟨n1,hc1,⟨hi1_0,hi1_1,hi1_2,-⟩,hf1⟩;have hf1:=hf1.trans (d5.eq_2 s s30 e3 n1);refine vI hf1 iD (fun h4 hf1=>?_) (fun h4 hf1=>?_)
     ·refine And.intro (show(0:Int)≤s30∧s30<(↑(bf s.set).length:Int)from by omega) ?_;refine And.intro (show(e3.length+ [aP.mk (ix (bf s.set) s30) (0:Int)].length)*(24:Nat)≤(140737488355328:Nat)from by(have hl:=kQ s.set;simp only[List.length_append,List.length_cons,List.length_nil];omega)) ?_;refine .inl (And.intro (xI (p:=s30) (q:=(1:Int)) (r:=s30+(1:Int)) (by omega)) ?_);have hm1:((↑(bf s.set).length:Int)-(s30+(1:Int))).toNat<((↑(bf s.set).length:Int)- s30).toNat:=by omega
      refine⟨[],(s30+(1:Int),e3++ [aP.mk (ix (bf s.set) s30) (0:Int)]),hm1,dQ.next (s:=(s30,e3)) hc1 hm1 ⟨show(0:Int)≤s30+(1:Int)from by omega,show s30+(1:Int)≤(↑(bf s.set).length:Int)from by omega,show(↑(e3++ [aP.mk (ix (bf s.set) s30) (0:Int)]).length:Int)≤s30+(1:Int)from by(simp only[List.length_append,List.length_cons,List.length_nil];omega),trivial⟩ hf1,?_⟩;repeat (first|exact trivial|refine And.intro rfl ?_)
     ·rw[hf1]at hf0;rw[hf0]at h;exact h (show((fun(r0:bO)=>r0.items.length≤1000000) (bO.mk s.kind (0:Int) e3):Prop)from by(have hl:=kQ s.set;simp only[List.length_append,List.length_cons,List.length_nil];omega))
   ·refine vI hf0 iD (fun _ hf0=>?_) (fun _ hf0=>?_)
    ·refine⟨_,rfl,rfl,(by omega),(by omega),?_⟩;refine fun _=>?_;rw[hf0]at h;exact h (show((fun(r0:bO)=>r0.items.length≤1000000) (bO.mk s.kind (0:Int) (eK s.map)):Prop)from by omega)
    ·rw[hf0]at h;exact h (show((fun(r0:bO)=>r0.items.length≤1000000) (bO.mk (0:Int) (0:Int) []):Prop)from by simp)
end Go.Proofs.YtiliglahlfkikaaGreatDoor.V
end

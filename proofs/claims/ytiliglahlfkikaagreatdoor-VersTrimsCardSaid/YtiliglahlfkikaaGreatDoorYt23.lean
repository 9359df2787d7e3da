/- From a walk to the given statement of a law: a law that returns true and leaves all that was there as it was. -/
import Derived.Test.YtiliglahlfkikaaGreatDoorYt22
import Derived.Test.YtiliglahlfkikaaGreatDoorYt3
import Derived.Test.YtiliglahlfkikaaGreatDoorYt21
import Derived.Test.YtiliglahlfkikaaGreatDoorYt14
import Derived.Test.YtiliglahlfkikaaGreatDoorYt1
import Derived.Test.YtiliglahlfkikaaGreatDoorRows
import Derived.ProofKit
import Derived.OpenShut
import Derived.Carry
import Derived.Lib.SmallJoins
section
set_option linter.unusedVariables false
set_option linter.unusedSimpArgs false
namespace Go.Proofs.YtiliglahlfkikaaGreatDoor.V
open Go.RowKit Go.Shelf Go.Lib Go.Sort
structure GC{α:Type}(v:List Int)(adds' adds:List α)(gone' gone:List af)(n:Nat):Prop where
 a:adds'=adds
 r:bJ gone'
 sub: ∀t∈gone',t∈gone
 kp: ∀t∈gone,aK v t.id=false→t∈gone'
 l:gone'.length≤100*n
section
variable {α:Type} {v:List Int} {adds' adds:List α} {gone' gone tags:List af} {n m:Nat} {key:α→af}
theorem GC.mono(h:GC v adds' adds gone' gone n)(hn:n≤m):GC v adds' adds gone' gone m:=⟨h.a,h.r,h.sub,h.kp,by have:=h.l;omega⟩
theorem GC.mem(h:GC v adds' adds gone' gone n){t:af}(ht:aK v t.id=false):t∈gone'↔t∈gone:=⟨h.sub t,fun q=>h.kp t q ht⟩
theorem GC.put(h:GC v adds' adds gone' gone n){a:α}(ht:aK v (key a).id=false):GC v (if key a∈gone' then adds' else nA key adds' a) (if key a∈gone then adds else nA key adds a) gone' gone (n+1):=by
 refine⟨?_,h.r,h.sub,h.kp,by have:=h.l;omega⟩;rw[h.a];by_cases q:key a∈gone
 ·rw[if_pos q,if_pos ((h.mem ht).2 q)]
 ·rw[if_neg q,if_neg fun z=>q ((h.mem ht).1 z)]
theorem GC.drop(h:GC v adds' adds gone' gone n)(dj: ∀a∈adds,key a∉gone)(hl:tags.length≤100):GC v (adds'.filter fun a=>!decide (key a∈fj gone' tags)) (adds.filter fun a=>!decide (key a∈fj gone tags)) (fj gone' tags) (fj gone tags) (n+1):=by
 have f':=eW gone' tags;have f:=eW gone tags;refine⟨?_,f'.1,fun t ht=>?_,fun t ht hv=>?_,by have:=h.l;have:=f'.2.2;omega⟩
 ·rw[h.a];apply List.filter_congr;intro a ha;congr 1;rw[decide_eq_decide,f'.2.1,f.2.1];exact⟨fun q=>q.elim (fun z=> .inl (h.sub _ z)) .inr,fun q=>q.elim (fun z=>absurd z (dj a ha)) .inr⟩
 ·rw[f.2.1];exact((f'.2.1 t).1 ht).imp (h.sub t) id
 ·rw[f'.2.1];exact((f.2.1 t).1 ht).imp (fun z=>h.kp t z hv) id
theorem GC.filter(hr:bJ gone)(hl:gone.length≤100*n):GC v adds adds (gone.filter fun t=>!aK v t.id) gone n:=by
 refine⟨rfl,?_,fun t ht=>(List.mem_filter.1 ht).1,fun t ht hv=>List.mem_filter.2 ⟨ht,by rw[hv];rfl⟩,Nat.le_trans (List.length_filter_le _ _) hl⟩;unfold bJ at hr⊢;exact hr.sublist List.filter_sublist
theorem GC.refl(hr:bJ gone)(hl:gone.length≤100*n):GC v adds adds gone gone n:=⟨rfl,hr,fun _ h=>h,fun _ h _=>h,hl⟩
end
theorem fJ.sub{s s':aY}(h:fJ s)(ea:s'.adds=s.adds)(r:bJ s'.gone)(sub: ∀t∈s'.gone,t∈s.gone)(l:s'.gone.length≤4096):fJ s':=
 ⟨by rw[ea];exact h.la,l,by rw[ea];exact h.ta,fun t ht=>h.tg t (sub t ht),by rw[ea];exact h.ra,r,by rw[ea];exact h.el,by rw[ea];exact fun a ha q=>h.dj a ha (sub _ q)⟩
theorem fK.sub{s s':be}(h:fK s)(ea:s'.puts=s.puts)(r:bJ s'.gone)(sub: ∀t∈s'.gone,t∈s.gone)(l:s'.gone.length≤4096):fK s':=
 ⟨by rw[ea];exact h.la,l,by rw[ea];exact h.ta,fun t ht=>h.tg t (sub t ht),by rw[ea];exact h.ra,r,by rw[ea];exact h.el,by rw[ea];exact fun a ha q=>h.dj a ha (sub _ q)⟩
structure rK(v:List Int)(s' s:az)(n:Nat):Prop where
 kd:s'.kind=s.kind
 rg:s'.reg=s.reg
 nm:s'.num=s.num
 st:GC v s'.set.adds s.set.adds s'.set.gone s.set.gone n
 mp:GC v s'.map.puts s.map.puts s'.map.gone s.map.gone n
section
variable {k:Int} {v:List Int} {s s':az} {L:List ab} {e:ab}
theorem xt(c:bm e=0)(hk:bB e.act=s.kind)(ha:e.act=1)(h:(dy s.reg e.val e.at_).2=0):ay s e=(⟨s.kind,(dy s.reg e.val e.at_).1,s.num,s.set,s.map⟩,0):=(if_pos c).trans ((if_pos hk).trans ((if_pos ha).trans (if_pos h)))
theorem zK(c:bm e=0)(hk:bB e.act=s.kind)(ha:e.act=2)(h:(df s.num e.val).2=0):ay s e=(⟨s.kind,s.reg,(df s.num e.val).1,s.set,s.map⟩,0):=(if_pos c).trans ((if_pos hk).trans ((if_neg (show ¬e.act=1 by omega)).trans ((if_pos ha).trans (if_pos h))))
theorem OA(c:bm e=0)(hk:bB e.act=s.kind)(ha:e.act=3)(h:(fc s.set (CO e)).2=0):ay s e=(⟨s.kind,s.reg,s.num,(fc s.set (CO e)).1,s.map⟩,0):=(if_pos c).trans ((if_pos hk).trans ((if_neg (show ¬e.act=1 by omega)).trans ((if_neg (show ¬e.act=2 by omega)).trans ((if_pos ha).trans (if_pos h)))))
theorem OB(c:bm e=0)(hk:bB e.act=s.kind)(ha:e.act=4)(h:(dV s.set e.tags).2=0):ay s e=(⟨s.kind,s.reg,s.num,(dV s.set e.tags).1,s.map⟩,0):=(if_pos c).trans ((if_pos hk).trans ((if_neg (show ¬e.act=1 by omega)).trans ((if_neg (show ¬e.act=2 by omega)).trans ((if_neg (show ¬e.act=3 by omega)).trans ((if_pos ha).trans (if_pos h))))))
theorem OC(c:bm e=0)(hk:bB e.act=s.kind)(ha:e.act=5)(h:(dg s.map (zD e)).2=0):ay s e=(⟨s.kind,s.reg,s.num,s.set,(dg s.map (zD e)).1⟩,0):=(if_pos c).trans ((if_pos hk).trans ((if_neg (show ¬e.act=1 by omega)).trans ((if_neg (show ¬e.act=2 by omega)).trans ((if_neg (show ¬e.act=3 by omega)).trans ((if_neg (show ¬e.act=4 by omega)).trans ((if_pos ha).trans (if_pos h)))))))
theorem OD(c:bm e=0)(hk:bB e.act=s.kind)(ha:e.act=6)(h:(dW s.map e.tags).2=0):ay s e=(⟨s.kind,s.reg,s.num,s.set,(dW s.map e.tags).1⟩,0):=(if_pos c).trans ((if_pos hk).trans ((if_neg (show ¬e.act=1 by omega)).trans ((if_neg (show ¬e.act=2 by omega)).trans ((if_neg (show ¬e.act=3 by omega)).trans ((if_neg (show ¬e.act=4 by omega)).trans ((if_neg (show ¬e.act=5 by omega)).trans ((if_pos ha).trans (if_pos h))))))))
theorem rK.set0(C:rK v s' s L.length)(h:eD k s L)(hg: ∀x∈L,jD k x)(hl:L.length≤40):fJ s'.set:=(h.set0 hg hl).sub C.st.a C.st.r C.st.sub (by have:=C.st.l;omega)
theorem rK.map0(C:rK v s' s L.length)(h:eD k s L)(hg: ∀x∈L,jD k x)(hl:L.length≤40):fK s'.map:=(h.map0 hg hl).sub C.mp.a C.mp.r C.mp.sub (by have:=C.mp.l;omega)
theorem rK.step(hk:1≤k)(C:rK v s' s L.length)(h:eD k s L)(hg: ∀x∈L,jD k x)(he:jD k e)(hf:e.tag∉L.map (·.tag))(hl:L.length<40)(hv:aK v e.tag.id=false):
  ∃t' t,ay s' e=(t',0)∧ay s e=(t,0)∧eD k t (L++ [e])∧rK v t' t (L++ [e]).length:=by
 obtain⟨t,e1,h1⟩:=nj hk h hg he hf hl;have fe:=d7 he.c;have hkk:bB e.act=s.kind:=he.k.trans h.kd.symm;have hkk':bB e.act=s'.kind:=hkk.trans C.kd.symm;have hlen:(L++ [e]).length=L.length+1:=by simp
 have fin: ∀{x' x:az},ay s' e=(x',0)→ay s e=(x,0)→rK v x' x (L.length+1)→ ∃t' t,ay s' e=(t',0)∧ay s e=(t,0)∧eD k t (L++ [e])∧rK v t' t (L++ [e]).length:=fun{x' x} q' q c=>by
  have:t=x:=by rw[e1]at q;exact congrArg Prod.fst q
  subst this;exact⟨x',t,q',q,h1,by rw[hlen];exact c⟩
 have cs:=C.st.mono (Nat.le_succ L.length);have cm:=C.mp.mono (Nat.le_succ L.length);rcases Ev he.k hk with ha|ha|ha|ha|ha|ha
 ·obtain⟨r',e2,_,_⟩:=nh h.r (h.reg0 hg) (fe.at_ (.inl ha)).1 (fe.at_ (.inl ha)).2 ha;have e3:dy s'.reg e.val e.at_=(r',0):=by rw[C.rg];exact e2
  refine fin (xt he.c hkk' ha (by rw[e3])) (xt he.c hkk ha (by rw[e2])) ⟨C.kd,by simp only[e2,e3],C.nm,cs,cm⟩
 ·have hn:=h.num0 hg (by omega);have e2:=ni hn.1 (fe.val ha) hn.2;have e3:df s'.num e.val=df s.num e.val:=by rw[C.nm]
  refine fin (zK he.c hkk' ha (by rw[e3,e2])) (zK he.c hkk ha (by rw[e2])) ⟨C.kd,C.rg,by simp only[e3],cs,cm⟩
 ·have hs:=h.set0 hg (by omega);have hs':=C.set0 h hg (by omega);have hn:=h.st.n;have hfr:=h.st.fresh (e:=e) (fun _=>rfl) hf;have e2:=mX hs (a:=CO e) fe.tag (fe.name (.inl ha)) (by omega) hfr;have e3:=mX hs' (a:=CO e) fe.tag (fe.name (.inl ha)) (by rw[C.st.a];omega) (by rw[C.st.a];exact hfr);refine fin (OA he.c hkk' ha (by rw[e3])) (OA he.c hkk ha (by rw[e2])) ⟨C.kd,C.rg,C.nm,?_,cm⟩;simp only[e2,e3];exact C.st.put (key:=fun a:ba=>a.tag) (a:=CO e) hv
 ·have hs:=h.set0 hg (by omega);have hs':=C.set0 h hg (by omega);have hgo:=h.st.g;have ht:=he.t;have hl':=C.st.l;have e2:=kU hs fe.tags (by omega) (by omega);have e3:=kU hs' fe.tags (by omega) (by omega);refine fin (OB he.c hkk' ha (by rw[e3])) (OB he.c hkk ha (by rw[e2])) ⟨C.kd,C.rg,C.nm,?_,cm⟩;simp only[e2,e3];exact C.st.drop (key:=fun a:ba=>a.tag) h.st.dj ht
 ·have hs:=h.map0 hg (by omega);have hs':=C.map0 h hg (by omega);have hn:=h.mp.n;have hfr:=h.mp.fresh (e:=e) (fun _=>rfl) hf;have e2:=jS hs (a:=zD e) fe.tag (ka fe ha) (by omega) hfr;have e3:=jS hs' (a:=zD e) fe.tag (ka fe ha) (by rw[C.mp.a];omega) (by rw[C.mp.a];exact hfr);refine fin (OC he.c hkk' ha (by rw[e3])) (OC he.c hkk ha (by rw[e2])) ⟨C.kd,C.rg,C.nm,cs,?_⟩;simp only[e2,e3];exact C.mp.put (key:=fun a:bt=>a.tag) (a:=zD e) hv
 ·have hs:=h.map0 hg (by omega);have hs':=C.map0 h hg (by omega);have hgo:=h.mp.g;have ht:=he.t;have hl':=C.mp.l;have e2:=kV hs fe.tags (by omega) (by omega);have e3:=kV hs' fe.tags (by omega) (by omega);refine fin (OD he.c hkk' ha (by rw[e3])) (OD he.c hkk ha (by rw[e2])) ⟨C.kd,C.rg,C.nm,cs,?_⟩;simp only[e2,e3];exact C.mp.drop (key:=fun a:bt=>a.tag) h.mp.dj ht
theorem eD.fold(hk:1≤k): ∀(l:List ab) {s:az} {L:List ab},eD k s L→(∀x∈L,jD k x)→(∀x∈l,jD k x)→((L++l).map (·.tag)).Nodup→(L++l).length≤40→ ∃t,l9 s l=(t,0)∧eD k t (L++l)
 | [],s,L,h,hg,hl,hn,h40=>⟨s,rfl,by rw[List.append_nil];exact h⟩
 |e::l,s,L,h,hg,hl,hn,h40=>by
  have hf:e.tag∉L.map (·.tag):=fun q=>by
   rw[List.map_append,List.nodup_append]at hn;exact hn.2.2 _ q _ (by simp) rfl
  simp only[List.length_append,List.length_cons]at h40;obtain⟨t,e1,h1⟩:=nj hk h hg (hl e (by simp)) hf (by omega);have ee:L++e::l=L++ [e]++l:=by simp
  obtain⟨u,e2,h2⟩:=eD.fold hk l h1 (fun x hx=>(List.mem_append.1 hx).elim (hg x) fun q=>by rw[List.mem_singleton.1 q];exact hl e (by simp)) (fun x hx=>hl x (by simp[hx])) (by rw[←ee];exact hn) (by simp only[List.length_append,List.length_cons,List.length_nil];omega);exact⟨u,by rw[l9,e1];exact e2,by rw[ee];exact h2⟩
theorem rK.fold(hk:1≤k): ∀(l:List ab) {s' s:az} {L:List ab},rK v s' s L.length→eD k s L→(∀x∈L,jD k x)→(∀x∈l,jD k x∧aK v x.tag.id=false)→((L++l).map (·.tag)).Nodup→(L++l).length≤40→ ∃t' t,l9 s' l=(t',0)∧l9 s l=(t,0)∧eD k t (L++l)∧rK v t' t (L++l).length
 | [],s',s,L,C,h,hg,hl,hn,h40=>⟨s',s,rfl,rfl,by rw[List.append_nil];exact h,by rw[List.append_nil];exact C⟩
 |e::l,s',s,L,C,h,hg,hl,hn,h40=>by
  have hf:e.tag∉L.map (·.tag):=fun q=>by
   rw[List.map_append,List.nodup_append]at hn;exact hn.2.2 _ q _ (by simp) rfl
  simp only[List.length_append,List.length_cons]at h40;obtain⟨t',t,e0,e1,h1,c1⟩:=C.step hk h hg (hl e (by simp)).1 hf (by omega) (hl e (by simp)).2;have ee:L++e::l=L++ [e]++l:=by simp
  obtain⟨u',u,e2,e3,h2,c2⟩:=rK.fold hk l c1 h1 (fun x hx=>(List.mem_append.1 hx).elim (hg x) fun q=>by rw[List.mem_singleton.1 q];exact(hl e (by simp)).1) (fun x hx=>hl x (by simp[hx])) (by rw[←ee];exact hn) (by simp only[List.length_append,List.length_cons,List.length_nil];omega);exact⟨u',u,by rw[l9,e0];exact e2,by rw[l9,e1];exact e3,by rw[ee];exact h2,by rw[ee];exact c2⟩
theorem tp(h:eD k s L)(hc:(bl s v).2=0):rK v (bl s v).1 s L.length:=by
 have e0:ar s=s:=rfl;have rs:GC v s.set.adds s.set.adds s.set.gone s.set.gone L.length:=GC.refl h.st.rg h.st.g;have rm:GC v s.map.puts s.map.puts s.map.gone s.map.gone L.length:=GC.refl h.mp.rg h.mp.g;unfold bl at hc⊢;rw[e0]at hc⊢;by_cases k1:s.kind=1
 ·rw[if_pos k1];exact⟨rfl,rfl,rfl,rs,rm⟩
 rw[if_neg k1]at hc⊢;by_cases k2:s.kind=2
 ·rw[if_pos k2];exact⟨rfl,rfl,rfl,rs,rm⟩
 rw[if_neg k2]at hc⊢;by_cases k3:s.kind=3
 ·rw[if_pos k3]at hc⊢;by_cases q:(dq s.set v).2=0
  ·rw[if_pos q];refine⟨rfl,rfl,rfl,?_,rm⟩;unfold dq at q⊢;by_cases c:dx s.set=0
   ·rw[if_pos c];exact GC.filter h.st.rg h.st.g
   ·rw[if_neg c]at q;exact absurd q c
  ·rw[if_neg q]at hc;exact absurd hc q
 rw[if_neg k3]at hc⊢;by_cases k4:s.kind=4
 ·rw[if_pos k4]at hc⊢;by_cases q:(dr s.map v).2=0
  ·rw[if_pos q];refine⟨rfl,rfl,rfl,rs,?_⟩;unfold dr at q⊢;by_cases c:dA s.map=0
   ·rw[if_pos c];exact GC.filter h.mp.rg h.mp.g
   ·rw[if_neg c]at q;exact absurd q c
  ·rw[if_neg q]at hc;exact absurd hc q
 ·rw[if_neg k4]at hc;cases hc
theorem zL{a b:aY}(ha:fJ a)(hb:fJ b)(e:a.adds=b.adds):bf a=bf b:=by
 have key: ∀fuel i t,dz a fuel i t=dz b fuel i t:=by
  intro fuel;induction fuel with
  |zero=>intro i t;rfl
  |succ n ih=>intro i t;rw[dz,dz,e,ih]
 unfold bf;rw[im ha,im hb,key,e]
theorem zM{a b:be}(ha:fK a)(hb:fK b)(e:a.puts=b.puts):eK a=eK b:=by
 have key: ∀fuel i t,cZ a fuel i t=cZ b fuel i t:=by
  intro fuel;induction fuel with
  |zero=>intro i t;rfl
  |succ n ih=>intro i t;rw[cZ,cZ,e];simp only[ih]
 unfold eK;rw[io ha,io hb,key,e]
theorem rK.say(C:rK v s' s L.length)(h:eD k s L)(hg: ∀x∈L,jD k x)(hl:L.length≤40):dw s'=dw s:=by
 have e1:=zL (C.set0 h hg hl) (h.set0 hg hl) C.st.a;have e2:=zM (C.map0 h hg hl) (h.map0 hg hl) C.mp.a;have key: ∀fuel i t,d5 s' fuel i t=d5 s fuel i t:=by
  intro fuel;induction fuel with
  |zero=>intro i t;rfl
  |succ n ih=>intro i t;rw[d5,d5,e1];simp only[ih]
 unfold dw;rw[C.kd,C.rg,C.nm,e1,e2,key]
end
end Go.Proofs.YtiliglahlfkikaaGreatDoor.V
end

section
set_option linter.unusedVariables false
set_option linter.unusedSimpArgs false
namespace Go.Proofs.YtiliglahlfkikaaGreatDoor.V
open Go.RowKit
end Go.Proofs.YtiliglahlfkikaaGreatDoor.V
end

section
set_option linter.unusedVariables false
set_option linter.unusedSimpArgs false
set_option maxRecDepth 20000
set_option maxHeartbeats 4000000
namespace Go.Proofs.YtiliglahlfkikaaGreatDoor.V
open Go.RowKit
def iW:Bool:=
 match jo [(97:UInt8),(47:UInt8),(99:UInt8)]with
 | .inl r0=>
  false
 | .inr (r3,r4,r5,r6,r7)=>
  if(¬r3=0)∨(false=true)then
   false
  else
   match aC r4 r5 r6 r7 (ab.mk 2 [] 5 (af.mk (gi.mk 1 1) 0) (aA.mk 0 0) [])with
   |(r11,r12,r13,r14)=>
    match aC r12 r5 r13 r14 (ab.mk 2 [] 7 (af.mk (gi.mk 2 1) 0) (aA.mk 0 0) [])with
    |(r17,r18,r19,r20)=>
     match aC r18 r5 r19 r20 (ab.mk 2 [] 5 (af.mk (gi.mk 1 1) 0) (aA.mk 0 0) [])with
     |(r23,r24,r25,r26)=>
      match bk r24 r5 r25 r26 [0,1,0,0,0,0,0,0] []with
      |(r29,r30)=>
       match bk r24 r5 r25 r26 [0,1,1,0,0,0,0,0] [ab.mk 2 [] 1 (af.mk (gi.mk 3 1) 0) (aA.mk 0 0) []]with
       |(r33,r34)=>
        match bZ r24 r5 r25 r26 [0,1,0,0,0,0,0,0]with
        |(r37,r38,r39,r40)=>
         match bk r38 r39 r40 r26 [0,0,0,0,0,0,0,0] []with
         |(r43,r44)=>
          decide (r11=0)&&decide (r17=0)&&decide (r23=11)&&decide (r30=0)&&decide ((dw r29).val=5)&&decide (r34=0)&&decide ((dw r33).val=13)&&decide (r37=0)&&decide (uz r38 r39 r40 r26=1)&&decide (r44=17)&&uA r38 r39 r40 r26 (af.mk (gi.mk 1 1) 0)&&decide (r39= [0,1,0,0,0,0,0,0])
def Qo:bh U:=⟨[],fun xs es K=>xs= []∧es= []∧K (.v (vb iW)) []⟩
theorem Na:Fk 24 Qo:=by
 refine fo Tryz.f24 [.d .bool] [] (aa k6 (aa Oo (aa IS (aa IT (aa Cz (aa CA (aa M5 (aa KY aj)))))))) fun xs es K=>?_;rintro⟨rfl,rfl,h⟩;refine⟨rfl,?_⟩;have hf0:=iW.eq_1;refine⟨_,rfl,rfl,(by(simp only[List.length_append,List.length_cons,List.length_nil];omega)),?_⟩;refine And.intro (fun r0 h1=>?_) (fun r3 r4 r5 r6 r7 h8=>?_)
 ·rw[h1]at hf0;refine fun _=>?_;refine vT (iO iD (iN iB)) (show(¬r0=(0:Int))∨(¬(false=true))from by omega) ?_;exact e0
 ·rw[h8]at hf0;refine fun _=>?_;refine wI hf0 (fun _ hf0=>e0) fun _ hf0=>?_;refine dp [(true,0),(true,1),(true,3),(true,4),(true,6),(true,7),(false,2),(false,5),(false,8),(true,9),(true,10),(true,11)] none (0::1::2::nw 5) ?_;refine⟨_,_,_,_,_,rfl,rfl,(by omega),(by omega),(by omega),(by omega),(by omega),(by omega),((show _∧_∧_∧_∧_∧_∧aN _ from by assumption).2.2.2.2.2.2),?_⟩;refine fun r11 r12 r13 r14 h15=>?_;rw[show aC r4 r5 r6 r7 (ab.mk (2:Int) [] (5:Int) (af.mk (gi.mk (1:Int) (1:Int)) (0:Int)) (aA.mk (0:Int) (0:Int)) [])=(r11,r12,r13,r14)from h15]at hf0;dsimp only at hf0;refine fun _=>?_;refine⟨_,_,_,_,_,rfl,rfl,(by omega),(by omega),(by omega),(by omega),(by omega),(by omega),((show _∧_∧_∧_∧_∧_∧aN _ from by assumption).2.2.2.2.2.2),?_⟩;refine fun r17 r18 r19 r20 h21=>?_;rw[show aC r12 r5 r13 r14 (ab.mk (2:Int) [] (7:Int) (af.mk (gi.mk (2:Int) (1:Int)) (0:Int)) (aA.mk (0:Int) (0:Int)) [])=(r17,r18,r19,r20)from h21]at hf0;dsimp only at hf0;refine fun _=>?_;refine⟨_,_,_,_,_,rfl,rfl,(by omega),(by omega),(by omega),(by omega),(by omega),(by omega),((show _∧_∧_∧_∧_∧_∧aN _ from by assumption).2.2.2.2.2.2),?_⟩;refine fun r23 r24 r25 r26 h27=>?_;rw[show aC r18 r5 r19 r20 (ab.mk (2:Int) [] (5:Int) (af.mk (gi.mk (1:Int) (1:Int)) (0:Int)) (aA.mk (0:Int) (0:Int)) [])=(r23,r24,r25,r26)from h27]at hf0;dsimp only at hf0;refine fun _=>?_;refine⟨_,_,_,_,_,_,rfl,rfl,(by omega),(by omega),(by omega),(by omega),(by omega),(by omega),(show(0:Nat)≤(100000:Nat)from by omega),?_⟩;refine fun r29 r30 h31=>?_;rw[show bk r24 r5 r25 r26 [(0:Int),(1:Int),(0:Int),(0:Int),(0:Int),(0:Int),(0:Int),(0:Int)] []=(r29,r30)from h31]at hf0;dsimp only at hf0;refine fun _=>?_;refine⟨_,_,_,_,_,_,rfl,rfl,(by omega),(by omega),(by omega),(by omega),(by omega),(by omega),(show [ab.mk (2:Int) [] (1:Int) (af.mk (gi.mk (3:Int) (1:Int)) (0:Int)) (aA.mk (0:Int) (0:Int)) []].length≤(100000:Nat)from by(simp only[List.length_append,List.length_cons,List.length_nil];omega)),?_⟩;refine fun r33 r34 h35=>?_;rw[show bk r24 r5 r25 r26 [(0:Int),(1:Int),(1:Int),(0:Int),(0:Int),(0:Int),(0:Int),(0:Int)] [ab.mk (2:Int) [] (1:Int) (af.mk (gi.mk (3:Int) (1:Int)) (0:Int)) (aA.mk (0:Int) (0:Int)) []]=(r33,r34)from h35]at hf0;dsimp only at hf0;refine fun _=>?_;refine⟨_,_,_,_,_,rfl,rfl,(by omega),(by omega),(by omega),(by omega),(by omega),(by omega),((show _∧_∧_∧_∧_∧_∧aN _ from by assumption).2.2.2.2.2.2),?_⟩;refine fun r37 r38 r39 r40 h41=>?_;rw[show bZ r24 r5 r25 r26 [(0:Int),(1:Int),(0:Int),(0:Int),(0:Int),(0:Int),(0:Int),(0:Int)]=(r37,r38,r39,r40)from h41]at hf0;dsimp only at hf0;refine fun _=>?_;refine⟨_,_,_,_,_,_,rfl,rfl,(by omega),(by omega),(by omega),(by omega),(by omega),(by omega),(show(0:Nat)≤(100000:Nat)from by omega),?_⟩;refine fun r43 r44 h45=>?_;rw[show bk r38 r39 r40 r26 [(0:Int),(0:Int),(0:Int),(0:Int),(0:Int),(0:Int),(0:Int),(0:Int)] []=(r43,r44)from h45]at hf0;dsimp only at hf0;refine fun _=>?_;refine⟨_,fun _=>⟨_,rfl,rfl,(by omega),(by omega),(by omega),(by omega),fun _=>⟨rfl,rfl⟩⟩,rfl,?_⟩;refine⟨_,fun _=>⟨_,rfl,rfl,(by omega),(by omega),(by omega),(by omega),fun _=>⟨rfl,rfl⟩⟩,rfl,?_⟩;refine⟨_,fun _=>⟨_,_,_,_,rfl,rfl,(by omega),rfl,rfl,rfl⟩,?_⟩;refine⟨_,fun _=>⟨_,_,_,_,_,rfl,rfl,rfl,rfl,rfl⟩,?_⟩;refine⟨_,fun _=>⟨_,_,_,_,rfl,rfl,rfl,rfl,rfl⟩,?_⟩;exact e0
theorem ga{s:az}{e:ab}(h: ¬cY s e=true):e.tags.length≤100:=by
 unfold cY at h;simp at h;omega
theorem uD(s:be):(eK s).length≤s.puts.length:=by
 have key: ∀(n:Nat) (i:Int) (t:List (List UInt8×bt)),0≤i→(t.length:Int)≤i→i≤s.puts.length→ ∃j u,cZ s n i t= .inr (j,u)∧u.length≤s.puts.length:=fun n=>by
  induction n with
  |zero=>intro i t h0 h1 h2;exact⟨i,t,rfl,by omega⟩
  |succ n ih=>
   intro i t h0 h1 h2;rw[cZ];split
   ·split
    ·exact ih _ _ (by omega) (by have:=cd t (ix s.puts i).field (ix s.puts i);omega) (by omega)
    ·exact ih _ _ (by omega) (by omega) (by omega)
   ·exact⟨i,t,rfl,by omega⟩
 obtain⟨j,u,h,hu⟩:=key (((s.puts.length:Int)- 0).toNat+1) 0 [] (by omega) (by simp) (by omega);unfold eK;split
 ·rw[h];show(aV _ (List.map pA u)).length≤_;rw[c7,List.length_map];exact hu
 ·simp
theorem p8(s:az):(dw s).items.length≤s.set.adds.length+s.map.puts.length:=by
 have ho:=kQ s.set;have hm:=uD s.map;have key: ∀(n:Nat) (i:Int) (t:List aP),0≤i→(t.length:Int)≤i→i≤(bf s.set).length→ ∃j u,d5 s n i t= .inr (j,u)∧u.length≤(bf s.set).length:=fun n=>by
  induction n with
  |zero=>intro i t h0 h1 h2;exact⟨i,t,rfl,by omega⟩
  |succ n ih=>
   intro i t h0 h1 h2;rw[d5];split
   ·exact ih _ _ (by omega) (by simp;omega) (by omega)
   ·exact⟨i,t,rfl,by omega⟩
 obtain⟨j,u,h,hu⟩:=key ((((bf s.set).length:Int)- 0).toNat+1) 0 [] (by omega) (by simp) (by omega);unfold dw;split
 ·simp
 split
 ·simp
 split
 ·rw[h];exact Nat.le_trans hu (by omega)
 split
 ·exact Nat.le_trans hm (by omega)
 ·simp
end Go.Proofs.YtiliglahlfkikaaGreatDoor.V
end

section
set_option linter.unusedVariables false
set_option linter.unusedSimpArgs false
namespace Go.Proofs.YtiliglahlfkikaaGreatDoor.V
open Go.RowKit
theorem zG{k:Int}(h:(eN k).2=0):1≤k∧k≤4:=by
 unfold eN at h;split at h
 ·cases h
 ·omega
theorem xp(key:List UInt8):(∃r,jo key= .inl r)∨ ∃c s,jo key= .inr (c,s,z8,[],[])∧(c=0→ ∃k,1≤k∧k≤4∧s=zO k):=by
 unfold jo;split
 ·refine .inr ⟨_,_,rfl,fun h=>?_⟩;have hk:=zG h;exact⟨_,hk.1,hk.2,by rw[GF hk.1 hk.2]⟩
 ·exact .inl ⟨_,rfl⟩
def w1:ab:=ab.mk 2 [] 5 (af.mk (gi.mk 1 1) 0) (aA.mk 0 0) []
def w2:ab:=ab.mk 2 [] 7 (af.mk (gi.mk 2 1) 0) (aA.mk 0 0) []
def w3:ab:=ab.mk 2 [] 1 (af.mk (gi.mk 3 1) 0) (aA.mk 0 0) []
theorem IX:jo [97,47,99]= .inr (0,zO 2,z8,[],[]):=by kernel_rfl
theorem GH:aC (zO 2) z8 [] [] w1=(0,zO 2,dt [w1],fC [w1]):=by decide+kernel
theorem GI:aC (zO 2) z8 (dt [w1]) (fC [w1]) w2=(0,zO 2,dt [w1,w2],fC [w1,w2]):=by decide+kernel
theorem GJ:aC (zO 2) z8 (dt [w1,w2]) (fC [w1,w2]) w1=(11,zO 2,dt [w1,w2],fC [w1,w2]):=by decide+kernel
theorem IY(s:az)(b v:List Int):au s b (dt [w1,w2]) (fC [w1,w2]) v=(if aK v w1.tag.id=true then [w1]else [])++(if aK v w2.tag.id=true then [w2]else []):=by
 have hK:aV (fun(t t':af)=>ae t t') (List.map (fun(x:af×ab)=>x.fst) (dt [w1,w2]))= [w1.tag,w2.tag]:=uM (l:= [w1.tag,w2.tag]) (by unfold bJ;decide);unfold au;rw[hK];show(match bU s b (dt [w1,w2]) (fC [w1,w2]) v 3 0 []with
  | .inl r=>r
  | .inr (_,r)=>r)=_
 simp only[bU,hK];have e1:ix [w1.tag,w2.tag] 0=w1.tag:=rfl;have e2:ix [w1.tag,w2.tag] 1=w2.tag:=rfl;have g1:(cF (dt [w1,w2]) w1.tag).getD bw.zero=w1:=by decide+kernel
 have g2:(cF (dt [w1,w2]) w2.tag).getD bw.zero=w2:=by decide+kernel
 by_cases q1:aK v w1.tag.id=true<;>by_cases q2:aK v w2.tag.id=true<;>simp[e1,e2,g1,g2,q1,q2]
theorem Ew:bk (zO 2) z8 (dt [w1,w2]) (fC [w1,w2]) [0,1,0,0,0,0,0,0] []=l9 (zO 2) [w1]:=by
 rw[ke,IY,if_pos (by decide+kernel),if_pos (by decide+kernel),if_pos (by decide+kernel),if_neg (by decide+kernel)];rfl
theorem IZ:bk (zO 2) z8 (dt [w1,w2]) (fC [w1,w2]) [0,1,1,0,0,0,0,0] [w3]=l9 (zO 2) [w1,w2,w3]:=by
 rw[ke,IY,if_pos (by decide+kernel),if_pos (by decide+kernel),if_pos (by decide+kernel),if_pos (by decide+kernel)];rfl
theorem GK:bZ (zO 2) z8 (dt [w1,w2]) (fC [w1,w2]) [0,1,0,0,0,0,0,0]=(0,(l9 (zO 2) [w1]).1,[0,1,0,0,0,0,0,0],dt [w2]):=by
 unfold bZ;rw[Ew];decide+kernel
theorem I0(ap:List (af×ab)):bk (l9 (zO 2) [w1]).1 [0,1,0,0,0,0,0,0] ap (fC [w1,w2]) [0,0,0,0,0,0,0,0] []=(CQ,17):=by
 rw[ke,if_pos (by decide+kernel),if_neg (by decide+kernel)]
theorem uL:iW=true:=by
 unfold iW;rw[IX];show(if(¬(0:Int)=0)∨(false=true)then false else _)=true
 rw[if_neg (by decide)];rw[show ab.mk 2 [] 5 (af.mk (gi.mk 1 1) 0) (aA.mk 0 0) []=w1 from rfl,show ab.mk 2 [] 7 (af.mk (gi.mk 2 1) 0) (aA.mk 0 0) []=w2 from rfl,show ab.mk 2 [] 1 (af.mk (gi.mk 3 1) 0) (aA.mk 0 0) []=w3 from rfl,GH];dsimp only;rw[GI];dsimp only;rw[GJ];dsimp only;rw[Ew,IZ,GK];dsimp only;rw[I0];decide+kernel
end Go.Proofs.YtiliglahlfkikaaGreatDoor.V
end

section
set_option linter.unusedVariables false
set_option linter.unusedSimpArgs false
set_option maxRecDepth 20000
set_option maxHeartbeats 4000000
namespace Go.Proofs.YtiliglahlfkikaaGreatDoor.V
open Go.RowKit
def bF(l:List ab)(v:List Int)(w:List Int)(r12:List Int):Nat→Int→az→az→(List (af×ab))→(List (af×Bool))→(List (af×ab))→(List (af×Bool))→Bool→(List Int)→Bool⊕(Int×az×az×(List (af×ab))×(List (af×Bool))×(List (af×ab))×(List (af×Bool))×Bool×(List Int))
 |0,s14,s9_0,s11_0,e3,e4,e6,e7,s13,s9_1=> .inr (s14,s9_0,s11_0,e3,e4,e6,e7,s13,s9_1)
 |n1+1,s14,s9_0,s11_0,e3,e4,e6,e7,s13,s9_1=>
  if(s14<(l.length:Int))∧(s14<40)then
   if cY (az.mk 0 (bM.mk 0 (aA.mk 0 0)) (bY.mk 0 0) (aY.mk [] []) (be.mk [] [])) (ix l s14)=true then
    .inl true
   else
    if((l.length:Int)≤2*s14)∧(¬(s13=true))then
     match bZ s9_0 s9_1 e3 e4 v with
     |(r30,r31,r32,r33)=>
      if r30=0 then
       if(true=true)∧(gx v (ix l s14).tag.id=true)then
        bF l v w r12 n1 (s14+1) r31 s11_0 r33 e4 e6 e7 true r32
       else
        match aC r31 r32 r33 e4 (cU (ix l s14))with
        |(r39,r40,r41,r42)=>
         match aC s11_0 r12 e6 e7 (cU (ix l s14))with
         |(r45,r46,r47,r48)=>
          if r39=r45 then
           bF l v w r12 n1 (s14+1) r40 r46 r41 r42 r47 r48 true r32
          else
           .inl false
      else
       .inl true
    else
     if(s13=true)∧(gx v (ix l s14).tag.id=true)then
      bF l v w r12 n1 (s14+1) s9_0 s11_0 e3 e4 e6 e7 s13 s9_1
     else
      match aC s9_0 s9_1 e3 e4 (cU (ix l s14))with
      |(r54,r55,r56,r57)=>
       match aC s11_0 r12 e6 e7 (cU (ix l s14))with
       |(r60,r61,r62,r63)=>
        if r54=r60 then
         bF l v w r12 n1 (s14+1) r55 r61 r56 r57 r62 r63 s13 s9_1
        else
         .inl false
  else
   .inr (s14,s9_0,s11_0,e3,e4,e6,e7,s13,s9_1)
def il(key:List UInt8)(l:List ab)(v:List Int)(w:List Int):Bool:=
 if iW=true then
  if 1000<(key.length:Int)then
   true
  else
   match jo key with
   | .inl r3=>
    decide (r3=r3)
   | .inr (r10,r11,r12,r13,r14)=>
    if(¬r10=0)∨(¬r10=0)then
     decide (r10=r10)
    else
     match bF l v w r12 (((40:Int)-(0:Int)).toNat+1) (0:Int) r11 r11 r13 r14 r13 r14 false r12 with
     | .inl r=>r
     | .inr (s14,s9_0,s11_0,e3,e4,e6,e7,s13,s9_1)=>
      match bk s9_0 s9_1 e3 e4 (cq v w) []with
      |(r80,r81)=>
       match bk s11_0 r12 e6 e7 (cq v w) []with
       |(r84,r85)=>
        decide (r81=r85)&&f4 (ij (dw r80)) (ij (dw r84))
 else
  false
def c5:bh U:=⟨[.d .str,.d (.sl (.st 3)),.d (.arr 8 (.int .u32)),.d (.arr 8 (.int .u32))],fun xs es K=> ∃(key:List UInt8) (l:List ab) (v:List Int) (w:List Int),xs= [(vt key),(D6 l),(iH v),(iH w)]∧es= []∧K (.v (vb (il key l v w))) []⟩
theorem k5:Fk 5 c5:=by
 refine fo Tryz.f5 [.d .bool] [] (aa k6 (aa Oo (aa uy (aa IS (aa IT (aa Na (aa KX (aa Ms (aa Mr (aa M4 (aa MZ (aa KY aj)))))))))))) fun xs es K=>?_;rintro⟨key,l,v,w,rfl,rfl,h⟩;refine⟨rfl,?_⟩;have hf0:=il.eq_1 key l v w;refine⟨rfl,rfl,?_⟩;refine wN hf0 (fun _ hf0=>e0) fun _ hf0=>?_;refine fl (x:=key.length) fun _=>?_;refine wI hf0 (fun _ hf0=>e0) fun _ hf0=>?_;refine⟨_,rfl,rfl,(by omega),?_⟩;refine And.intro (fun r3 h4=>?_) (fun r10 r11 r12 r13 r14 h15=>?_)
 ·rw[h4]at hf0;refine fun _=>?_;refine⟨_,rfl,rfl,(by omega),?_⟩;refine And.intro (fun r6 h7=>?_) (fun _y0 _y1 _y2 _y3 _y4 h9=>nomatch h4.symm.trans h9);cases h4.symm.trans h7;refine fun _=>?_;refine vT (iO iD iD) (show(¬r3=(0:Int))∨(¬r3=(0:Int))from by omega) ?_;exact e0
 ·rw[h15]at hf0;refine fun _=>?_;refine⟨_,rfl,rfl,(by omega),?_⟩;refine And.intro (fun _y0 h80=>nomatch h15.symm.trans h80) (fun r17 r18 r19 r20 r21 h22=>?_);cases h15.symm.trans h22;refine fun _=>?_;refine wI hf0 (fun _ hf0=>e0) fun _ hf0=>?_;refine lI (σ:=Int×az×az×(List (af×ab))×(List (af×Bool))×(List (af×ab))×(List (af×Bool))×Bool×(List Int)) 8 (fun(s14,s9_0,s11_0,e3,e4,e6,e7,s13,s9_1)=> [(1,.v (D6 l)),(6,.v (vp 0)),(7,.v (vp 1)),(8,.v (vb false)),(9,.v (vp 2)),(11,.v (vp 5)),(13,.v (vb s13)),(14,.v (vi s14))]) (fun(s14,s9_0,s11_0,e3,e4,e6,e7,s13,s9_1)=> [(0,.cells [(8,.d (.arr 8 (.int .u32)) v)] 41),(1,.cells [(8,.d (.arr 8 (.int .u32)) w)] 41),(2,.cells [(10,.d (.st 10) s9_0),(8,.d (.arr 8 (.int .u32)) s9_1),(1,.mp 3),(1,.mp 4)] 109),(3,.map bw e3),(4,.map ck e4),(5,.cells [(10,.d (.st 10) s11_0),(8,.d (.arr 8 (.int .u32)) r12),(1,.mp 6),(1,.mp 7)] 109),(6,.map bw e6),(7,.map ck e7)]) (fun(s14,s9_0,s11_0,e3,e4,e6,e7,s13,s9_1)=>(40 - s14).toNat) (fun(s14,s9_0,s11_0,e3,e4,e6,e7,s13,s9_1)=>(0≤s14)∧(s14≤40)∧(s9_0.set.adds.length≤4097)∧(s9_0.set.gone.length≤4097)∧(s9_0.map.puts.length≤4097)∧(s9_0.map.gone.length≤4097)∧(s11_0.set.adds.length≤4097)∧(s11_0.set.gone.length≤4097)∧(s11_0.map.puts.length≤4097)∧(s11_0.map.gone.length≤4097)∧(aN e3)∧(aN e6)∧((e3.length:Int)≤s14)∧((e4.length:Int)≤s14)∧((e6.length:Int)≤s14)∧((e7.length:Int)≤s14)∧(s14≤40)∧True) (fun n1 (s14,s9_0,s11_0,e3,e4,e6,e7,s13,s9_1)=>bF l v w r12 n1 s14 s9_0 s11_0 e3 e4 e6 e7 s13 s9_1) (bF l v w r12 (((40:Int)-(0:Int)).toNat+1) (0:Int) r11 r11 r13 r14 r13 r14 false r12) [] ((0:Int),r11,r11,r13,r14,r13,r14,false,r12) ?_ (hi:=⟨show(0:Int)≤(0:Int)from by omega,show(0:Int)≤(40:Int)from by omega,show r11.set.adds.length≤(4097:Nat)from by omega,show r11.set.gone.length≤(4097:Nat)from by omega,show r11.map.puts.length≤(4097:Nat)from by omega,show r11.map.gone.length≤(4097:Nat)from by omega,show r11.set.adds.length≤(4097:Nat)from by omega,show r11.set.gone.length≤(4097:Nat)from by omega,show r11.map.puts.length≤(4097:Nat)from by omega,show r11.map.gone.length≤(4097:Nat)from by omega,show aN r13 from(show _∧_∧_∧_∧_∧_∧aN _ from by assumption).2.2.2.2.2.2,show aN r13 from(show _∧_∧_∧_∧_∧_∧aN _ from by assumption).2.2.2.2.2.2,show(↑r13.length:Int)≤(0:Int)from by omega,show(↑r14.length:Int)≤(0:Int)from by omega,show(↑r13.length:Int)≤(0:Int)from by omega,show(↑r14.length:Int)≤(0:Int)from by omega,show(0:Int)≤(40:Int)from by omega,trivial⟩);rintro⟨s14,s9_0,s11_0,e3,e4,e6,e7,s13,s9_1⟩ ⟨n1,hc1,⟨hi1_0,hi1_1,hi1_2,hi1_3,hi1_4,hi1_5,hi1_6,hi1_7,hi1_8,hi1_9,hi1_10,hi1_11,hi1_12,hi1_13,hi1_14,hi1_15,hi1_16,-⟩,hf1⟩;have hf1:=hf1.trans (bF.eq_2 l v w r12 s14 s9_0 s11_0 e3 e4 e6 e7 s13 s9_1 n1);refine fl (x:=l.length) fun _=>?_;refine wI hf1 (fun _ hf1=>?_) fun _ hf1=>?_
  ·refine vx s14 l ?_;refine⟨_,_,rfl,rfl,?_⟩;refine wI hf1 (fun _ hf1=>e1) fun _ hf1=>?_;refine ez ?_;refine fl (x:=l.length) fun _=>?_;refine wI hf1 (fun _ hf1=>?_) fun _ hf1=>?_
   ·refine⟨_,_,_,_,_,rfl,rfl,(by omega),(by omega),(by omega),(by omega),(by omega),(by omega),(by assumption),?_⟩;refine fun r30 r31 r32 r33 h34=>?_;rw[show bZ s9_0 s9_1 e3 e4 v=(r30,r31,r32,r33)from h34]at hf1;dsimp only at hf1;refine fun _=>?_;refine wN hf1 (fun _ hf1=>e1) fun _ hf1=>?_;refine dp [(true,0),(true,1),(true,2),(true,3),(true,4),(true,5),(true,6),(true,7),(true,8),(false,9),(true,10)] none (nw 8) ?_;refine vs (P:=true=((74:Nat),true).snd→0≤s14∧s14<(l.length:Int)) ?_;refine⟨_,fun _=>⟨_,_,rfl,rfl,rfl,rfl⟩,rfl,?_⟩;refine wI hf1 (fun _ hf1=>?_) fun _ hf1=>?_
    ·refine ez ?_;exact nx (s:=(s14,s9_0,s11_0,e3,e4,e6,e7,s13,s9_1)) [] (s14+1,r31,s11_0,r33,e4,e6,e7,true,r32) hc1 hf1 (hi:=⟨show(0:Int)≤s14+(1:Int)from by omega,show s14+(1:Int)≤(40:Int)from by omega,show r31.set.adds.length≤(4097:Nat)from by omega,show r31.set.gone.length≤(4097:Nat)from by omega,show r31.map.puts.length≤(4097:Nat)from by omega,show r31.map.gone.length≤(4097:Nat)from by omega,show s11_0.set.adds.length≤(4097:Nat)from by omega,show s11_0.set.gone.length≤(4097:Nat)from by omega,show s11_0.map.puts.length≤(4097:Nat)from by omega,show s11_0.map.gone.length≤(4097:Nat)from by omega,show aN r33 from(show _∧_∧_∧_∧_∧aN _ from by assumption).2.2.2.2.2,show aN e6 from by omega,show(↑r33.length:Int)≤s14+(1:Int)from by omega,show(↑e4.length:Int)≤s14+(1:Int)from by omega,show(↑e6.length:Int)≤s14+(1:Int)from by omega,show(↑e7.length:Int)≤s14+(1:Int)from by omega,show s14+(1:Int)≤(40:Int)from by omega,trivial⟩)
    ·refine dp [(true,0),(true,1),(true,2),(true,3),(true,4),(true,7),(true,8),(true,9),(true,10),(true,11),(false,5),(false,6),(false,12),(false,13),(true,14)] none (0::1::2::3::4::5::6::7::nw 8) ?_;refine vx s14 l ?_;refine vx s14 l ?_;refine⟨_,rfl,rfl,(by(have hg:=ga ‹¬cY _ _=true›;omega)),?_⟩;refine⟨_,_,_,_,_,rfl,rfl,(by omega),(by omega),(by omega),(by omega),(by omega),(by omega),((show _∧_∧_∧_∧_∧aN _ from by assumption).2.2.2.2.2),?_⟩;refine fun r39 r40 r41 r42 h43=>?_;rw[show aC r31 r32 r33 e4 (cU (ix l s14))=(r39,r40,r41,r42)from h43]at hf1;dsimp only at hf1;refine fun _=>?_;refine⟨_,rfl,rfl,(by(have hg:=ga ‹¬cY _ _=true›;omega)),?_⟩;refine⟨_,_,_,_,_,rfl,rfl,(by omega),(by omega),(by omega),(by omega),(by omega),(by omega),(by assumption),?_⟩;refine fun r45 r46 r47 r48 h49=>?_;rw[show aC s11_0 r12 e6 e7 (cU (ix l s14))=(r45,r46,r47,r48)from h49]at hf1;dsimp only at hf1;refine fun _=>?_;refine wN hf1 (fun _ hf1=>e1) fun _ hf1=>?_;refine ez ?_;exact nx (s:=(s14,s9_0,s11_0,e3,e4,e6,e7,s13,s9_1)) [] (s14+1,r40,r46,r41,r42,r47,r48,true,r32) hc1 hf1 (hi:=⟨show(0:Int)≤s14+(1:Int)from by omega,show s14+(1:Int)≤(40:Int)from by omega,show r40.set.adds.length≤(4097:Nat)from by omega,show r40.set.gone.length≤(4097:Nat)from by omega,show r40.map.puts.length≤(4097:Nat)from by omega,show r40.map.gone.length≤(4097:Nat)from by omega,show r46.set.adds.length≤(4097:Nat)from by omega,show r46.set.gone.length≤(4097:Nat)from by omega,show r46.map.puts.length≤(4097:Nat)from by omega,show r46.map.gone.length≤(4097:Nat)from by omega,show aN r41 from(show _∧_∧_∧_∧_∧_∧aN _ from by assumption).2.2.2.2.2.2,show aN r47 from(show _∧_∧_∧_∧_∧_∧aN _ from by assumption).2.2.2.2.2.2,show(↑r41.length:Int)≤s14+(1:Int)from by omega,show(↑r42.length:Int)≤s14+(1:Int)from by omega,show(↑r47.length:Int)≤s14+(1:Int)from by omega,show(↑r48.length:Int)≤s14+(1:Int)from by omega,show s14+(1:Int)≤(40:Int)from by omega,trivial⟩)
   ·refine dp [(true,0),(true,1),(true,2),(true,3),(true,4),(true,5),(true,6),(true,7),(true,8),(false,9),(true,10)] none (nw 8) ?_;refine vs (P:=s13=((74:Nat),true).snd→0≤s14∧s14<(l.length:Int)) ?_;refine⟨_,fun _=>⟨_,_,rfl,rfl,rfl,rfl⟩,rfl,?_⟩;refine wI hf1 (fun _ hf1=>?_) fun _ hf1=>?_
    ·refine ez ?_;exact nx (s:=(s14,s9_0,s11_0,e3,e4,e6,e7,s13,s9_1)) [] (s14+1,s9_0,s11_0,e3,e4,e6,e7,s13,s9_1) hc1 hf1
    ·refine dp [(true,0),(true,1),(true,2),(true,3),(true,4),(true,7),(true,8),(true,9),(true,10),(true,11),(false,5),(false,6),(false,12),(false,13),(true,14)] none (0::1::2::3::4::5::6::7::nw 8) ?_;refine vx s14 l ?_;refine vx s14 l ?_;refine⟨_,rfl,rfl,(by(have hg:=ga ‹¬cY _ _=true›;omega)),?_⟩;refine⟨_,_,_,_,_,rfl,rfl,(by omega),(by omega),(by omega),(by omega),(by omega),(by omega),(by assumption),?_⟩;refine fun r54 r55 r56 r57 h58=>?_;rw[show aC s9_0 s9_1 e3 e4 (cU (ix l s14))=(r54,r55,r56,r57)from h58]at hf1;dsimp only at hf1;refine fun _=>?_;refine⟨_,rfl,rfl,(by(have hg:=ga ‹¬cY _ _=true›;omega)),?_⟩;refine⟨_,_,_,_,_,rfl,rfl,(by omega),(by omega),(by omega),(by omega),(by omega),(by omega),(by assumption),?_⟩;refine fun r60 r61 r62 r63 h64=>?_;rw[show aC s11_0 r12 e6 e7 (cU (ix l s14))=(r60,r61,r62,r63)from h64]at hf1;dsimp only at hf1;refine fun _=>?_;refine wN hf1 (fun _ hf1=>e1) fun _ hf1=>?_;refine ez ?_;exact nx (s:=(s14,s9_0,s11_0,e3,e4,e6,e7,s13,s9_1)) [] (s14+1,r55,r61,r56,r57,r62,r63,s13,s9_1) hc1 hf1 (hi:=⟨show(0:Int)≤s14+(1:Int)from by omega,show s14+(1:Int)≤(40:Int)from by omega,show r55.set.adds.length≤(4097:Nat)from by omega,show r55.set.gone.length≤(4097:Nat)from by omega,show r55.map.puts.length≤(4097:Nat)from by omega,show r55.map.gone.length≤(4097:Nat)from by omega,show r61.set.adds.length≤(4097:Nat)from by omega,show r61.set.gone.length≤(4097:Nat)from by omega,show r61.map.puts.length≤(4097:Nat)from by omega,show r61.map.gone.length≤(4097:Nat)from by omega,show aN r56 from(show _∧_∧_∧_∧_∧_∧aN _ from by assumption).2.2.2.2.2.2,show aN r62 from(show _∧_∧_∧_∧_∧_∧aN _ from by assumption).2.2.2.2.2.2,show(↑r56.length:Int)≤s14+(1:Int)from by omega,show(↑r57.length:Int)≤s14+(1:Int)from by omega,show(↑r62.length:Int)≤s14+(1:Int)from by omega,show(↑r63.length:Int)≤s14+(1:Int)from by omega,show s14+(1:Int)≤(40:Int)from by omega,trivial⟩)
  ·rw[hf1]at hf0;dsimp only at hf0;refine⟨_,_,rfl,rfl,?_⟩;refine⟨_,_,_,_,_,_,rfl,rfl,(by omega),(by omega),(by omega),(by omega),(by omega),(by omega),(show(0:Nat)≤(100000:Nat)from by omega),?_⟩;refine fun r67 r68 h69=>?_;rw[show bk s9_0 s9_1 e3 e4 (cq v w) []=(r67,r68)from h69]at hf0;dsimp only at hf0;refine fun _=>?_;refine⟨_,_,_,_,_,_,rfl,rfl,(by omega),(by omega),(by omega),(by omega),(by omega),(by omega),(show(0:Nat)≤(100000:Nat)from by omega),?_⟩;refine fun r71 r72 h73=>?_;rw[show bk s11_0 r12 e6 e7 (cq v w) []=(r71,r72)from h73]at hf0;dsimp only at hf0;refine fun _=>?_;refine dp [(true,0),(true,1),(true,2),(true,3),(true,4),(true,7),(false,5),(false,6),(false,8),(false,9),(false,10),(true,11),(true,12)] none (nw 11) ?_;refine⟨_,fun _=>⟨_,rfl,rfl,(by omega),(by omega),(by omega),(by omega),fun _=>⟨rfl,rfl⟩⟩,rfl,?_⟩;refine⟨_,fun _=>⟨_,rfl,rfl,(by(have:=p8 r67;omega)),rfl,rfl⟩,rfl,?_⟩;refine⟨_,fun _=>⟨_,rfl,rfl,(by omega),(by omega),(by omega),(by omega),fun _=>⟨rfl,rfl⟩⟩,rfl,?_⟩;refine⟨_,fun _=>⟨_,rfl,rfl,(by(have:=p8 r71;omega)),rfl,rfl⟩,rfl,?_⟩;refine⟨_,fun _=>⟨_,_,rfl,rfl,rfl,rfl⟩,rfl,?_⟩;exact e0
end Go.Proofs.YtiliglahlfkikaaGreatDoor.V
end

section
set_option linter.unusedVariables false
set_option linter.unusedSimpArgs false
namespace Go.Proofs.YtiliglahlfkikaaGreatDoor.V
open Go.RowKit Go.Shelf Go.Lib Go.Sort
theorem l6{α:Type}(p q:α→Bool)(hpq: ∀x,p x=true→q x=true): ∀l:List α,(l.filter p++(l.filter fun x=>!p x).filter q).Perm (l.filter q)
 | []=>List.Perm.refl _
 |x::l=>by
  have ih:=l6 p q hpq l;by_cases hp:p x=true
  ·simp only[List.filter_cons,hp,if_true,Bool.not_true,Bool.false_eq_true,if_false,hpq x hp,List.cons_append];exact ih.cons x
  ·have hp':p x=false:=by simpa using hp
   simp only[List.filter_cons,hp',Bool.false_eq_true,if_false,Bool.not_false,if_true];by_cases hq:q x=true
   ·simp only[hq,if_true];exact List.perm_middle.trans (ih.cons x)
   ·have hq':q x=false:=by simpa using hq
    simp only[hq',Bool.false_eq_true,if_false];exact ih
theorem zH{D:List ab}(hn:(D.map (·.tag)).Nodup){e:ab}(he:e∈D):(cF (dt D) e.tag).getD bw.zero=e:=by
 rw[l8 (m:=dt D) (by unfold aN;rw[iX];exact hn) e.tag e (List.mem_map_of_mem (f:=fun e:ab=>(e.tag,e)) he)];rfl
theorem jT{s:az}{b:List Int}{sn:List (af×Bool)}{D:List ab}(hn:(D.map (·.tag)).Nodup)(v:List Int):(au s b (dt D) sn v).Perm (D.filter fun e=>aK v e.tag.id):=by
 have hp:(aV (fun(t t':af)=>ae t t') (List.map (fun(x:af×ab)=>x.fst) (dt D))).Perm (D.map (·.tag)):=(List.mergeSort_perm _ _).trans (List.Perm.of_eq (iX D));have e:au s b (dt D) sn v=((aV (fun(t t':af)=>ae t t') (List.map (fun(x:af×ab)=>x.fst) (dt D))).filter (fun t:af=>aK v t.id)).map (fun t=>(cF (dt D) t).getD bw.zero):=by
  unfold au;rw[nk (aV (fun(t t':af)=>ae t t') (List.map (fun(x:af×ab)=>x.fst) (dt D))) (fun acc t=>if aK v t.id=true then acc++ [(cF (dt D) t).getD bw.zero]else acc) (bU s b (dt D) sn v) (fun fuel c i _=>by
   rw[bU];split
   ·split<;>rfl
   ·rfl)]
  simp only;rw[mY (fun t:af=>aK v t.id) (fun t:af=>(cF (dt D) t).getD bw.zero),List.nil_append]
 rw[e];have h1:=(hp.filter (fun t:af=>aK v t.id)).map (fun t=>(cF (dt D) t).getD bw.zero);refine h1.trans (List.Perm.of_eq ?_);rw[List.filter_map,List.map_map];conv=>rhs;rw[←List.map_id (D.filter fun e=>aK v e.tag.id)]
 exact List.map_congr_left fun x hx=>zH hn (List.mem_filter.1 hx).1
theorem xq{l:List Int}(h:l.length=8): ∃a0 a1 a2 a3 a4 a5 a6 a7,l= [a0,a1,a2,a3,a4,a5,a6,a7]:=by
 match l,h with
 | [a0,a1,a2,a3,a4,a5,a6,a7],_=>exact⟨a0,a1,a2,a3,a4,a5,a6,a7,rfl⟩
theorem wi(a0 a1 a2 a3 a4 a5 a6 a7 b0 b1 b2 b3 b4 b5 b6 b7:Int):nJ [a0,a1,a2,a3,a4,a5,a6,a7] [b0,b1,b2,b3,b4,b5,b6,b7]= [max a0 b0,max a1 b1,max a2 b2,max a3 b3,max a4 b4,max a5 b5,max a6 b6,max a7 b7]:=rfl
theorem oP(a0 a1 a2 a3 a4 a5 a6 a7 b0 b1 b2 b3 b4 b5 b6 b7:Int):cq [a0,a1,a2,a3,a4,a5,a6,a7] [b0,b1,b2,b3,b4,b5,b6,b7]= [max a0 b0,max a1 b1,max a2 b2,max a3 b3,max a4 b4,max a5 b5,max a6 b6,max a7 b7]:=rfl
theorem zI{v w:List Int}(hv:v.length=8)(hw:w.length=8):jP v (cq v w)=true:=by
 obtain⟨a0,a1,a2,a3,a4,a5,a6,a7,rfl⟩:=xq hv;obtain⟨b0,b1,b2,b3,b4,b5,b6,b7,rfl⟩:=xq hw;unfold jP;rw[oP,wi,decide_eq_true_eq];simp only[List.cons.injEq,and_true];omega
theorem zJ{v w:List Int}(hv:v.length=8)(hw:w.length=8)(h0: ∀x∈v,0≤x):jP z8 (cq v w)=true:=by
 obtain⟨a0,a1,a2,a3,a4,a5,a6,a7,rfl⟩:=xq hv;obtain⟨b0,b1,b2,b3,b4,b5,b6,b7,rfl⟩:=xq hw;simp only[List.mem_cons,List.not_mem_nil,or_false,forall_eq_or_imp,forall_eq]at h0;unfold jP z8;rw[oP,wi,decide_eq_true_eq];simp only[List.cons.injEq,and_true];omega
theorem CR{v w:List Int}(hv:v.length=8)(hw:w.length=8){j:Int}(h0:0≤j)(h1:j<8):ix v j≤ix (cq v w) j:=by
 obtain⟨a0,a1,a2,a3,a4,a5,a6,a7,rfl⟩:=xq hv;obtain⟨b0,b1,b2,b3,b4,b5,b6,b7,rfl⟩:=xq hw;rw[oP];have:j=0∨j=1∨j=2∨j=3∨j=4∨j=5∨j=6∨j=7:=by omega
 rcases this with rfl|rfl|rfl|rfl|rfl|rfl|rfl|rfl<;>simp[ix]<;>omega
theorem xr{v w:List Int}(hv:v.length=8)(hw:w.length=8)(id:gi)(h:aK v id=true):aK (cq v w) id=true:=by
 unfold aK at h⊢;rw[Bool.and_eq_true,decide_eq_true_eq,decide_eq_true_eq]at h⊢;have hb:0≤id.origin∧id.origin≤7:=by
  have:=h.1;unfold d4 at this;split at this
  ·cases this
  ·omega
 have:=CR (w:=w) hv hw hb.1 (show id.origin<8 by omega);exact⟨h.1,by omega⟩
structure TR(k:Int)(v:List Int)(s:az)(ap:List (af×ab))(sn:List (af×Bool))(D:List ab):Prop where
 c:eG v=0
 o: ∃s1 W0,eD k s1 W0∧rK v s s1 W0.length∧W0.Perm (D.filter fun e=>aK v e.tag.id)
 kd:s.kind=k
 ap:ap=dt (D.filter fun e=>!aK v e.tag.id)
 sn:sn=fC D
section
variable {k:Int} {v u:List Int} {s s':az} {b b':List Int} {ap ap':List (af×ab)} {sn sn':List (af×Bool)} {D:List ab} {e:ab}
theorem wj(B:VA k s b ap sn D)(hT: ∀e∈D,e.tags.length≤100): ∀e∈D,jD k e:=fun e he=>⟨(B.g e he).1,(B.g e he).2,hT e he⟩
theorem gy(hn:(D.map (·.tag)).Nodup)(p:ab→Bool):((D.filter p).map (·.tag)).Nodup:=hn.sublist (List.filter_sublist.map _)
theorem VA.trim(hk:1≤k)(B:VA k s b ap sn D)(hT: ∀e∈D,e.tags.length≤100)(h40:D.length≤40)(h:(bZ s b ap sn v).1=0):(bZ s b ap sn v).2.2.1=v∧TR k v (bZ s b ap sn v).2.1 (bZ s b ap sn v).2.2.2 sn D:=by
 have hp:=jT (s:=zO k) (b:=z8) (sn:=fC D) B.nd v;have hlen:(au (zO k) z8 (dt D) (fC D) v).length≤40:=by rw[hp.length_eq];exact Nat.le_trans (List.length_filter_le _ _) h40
 obtain⟨s1,e1,O1⟩:=eD.fold hk (au (zO k) z8 (dt D) (fC D) v) (zF k) (fun x hx=>by cases hx) (fun x hx=>wj B hT x (List.mem_filter.1 (hp.mem_iff.1 hx)).1) (by
  rw[List.nil_append];exact((hp.map _).nodup_iff).2 (gy B.nd _)) (by simpa using hlen)
 rw[List.nil_append]at O1;have hat:=ke s b ap sn v [];rw[List.append_nil,B.s,B.b,B.ap,B.sn,e1]at hat;unfold bZ at h⊢;rw[B.s,B.b,B.ap,B.sn]at h⊢;by_cases c1:eG v=0
 ·rw[if_pos c1]at hat;by_cases c2:jP z8 v=true
  ·rw[if_pos c2]at hat;rw[hat]at h⊢;simp only[if_true]at h⊢;by_cases c3:(bl s1 v).2=0
   ·rw[if_pos c3];have C:=tp (v:=v) O1 c3;refine⟨rfl,c1,⟨s1,_,O1,C,hp⟩,C.kd.trans O1.kd,?_,rfl⟩;show(dt D).filter _=_
    unfold dt;rw[List.filter_map];rfl
   ·rw[if_neg c3]at h;exact absurd h c3
  ·rw[if_neg c2]at hat;rw[hat]at h;cases h
 ·rw[if_neg c1]at hat;rw[hat]at h;simp only[c1,if_false]at h
theorem TR.add(R:TR k v s ap sn D)(B:VA k s' b' ap' sn' D)(hw:ip e)(hv:aK v e.tag.id=false):
  (aC s v ap sn e).1=(aC s' b' ap' sn' e).1∧(((aC s v ap sn e).1=0∧TR k v (aC s v ap sn e).2.1 (aC s v ap sn e).2.2.1 (aC s v ap sn e).2.2.2 (D++ [e])∧VA k (aC s' b' ap' sn' e).2.1 b' (aC s' b' ap' sn' e).2.2.1 (aC s' b' ap' sn' e).2.2.2 (D++ [e]))∨(¬(aC s v ap sn e).1=0∧(aC s v ap sn e).2=(s,ap,sn)∧(aC s' b' ap' sn' e).2=(s',ap',sn'))):=by
 have A:=B.add hw;unfold aC at A⊢;rw[B.sn,mc D B.nd,←B.sn]at A⊢;rw[R.sn,mc D B.nd,←R.sn];have hk:s'.kind=k:=by rw[B.s];rfl
 rw[hk]at A⊢;rw[hv,R.kd];have hlen:sn.length=sn'.length:=by rw[R.sn,B.sn]
 rw[←hlen]at A⊢;by_cases c1:bm e=0
 ·rw[if_pos c1]at A⊢;rw[if_pos c1];rw[B.b,rq hw c1,←B.b]at A⊢;by_cases c2:bB e.act=k
  ·rw[if_pos c2]at A⊢;rw[if_pos c2];by_cases c3:e.tag∈D.map (·.tag)
   ·rw[if_pos (decide_eq_true c3)]at A⊢;rw[if_pos (decide_eq_true c3)];exact⟨rfl,.inr ⟨by simp,rfl,rfl⟩⟩
   ·have n3: ¬decide (e.tag∈D.map (·.tag))=true:=by simpa using c3
    rw[if_neg n3]at A⊢;rw[if_neg n3];by_cases c4:(sn.length:Int)=4096
    ·rw[if_pos c4]at A⊢;rw[if_pos c4];exact⟨rfl,.inr ⟨by simp,rfl,rfl⟩⟩
    ·rw[if_neg c4]at A⊢;rw[if_neg c4];simp only[Bool.false_eq_true,if_false]at A⊢;rcases A with⟨_,_,B2⟩|⟨h,_⟩
     ·refine⟨trivial,.inl ⟨trivial,⟨R.c,?_,R.kd,?_,?_⟩,B2⟩⟩
      ·obtain⟨s1,W0,h1,h2,h3⟩:=R.o;refine⟨s1,W0,h1,h2,?_⟩;rw[List.filter_append,List.filter_cons,hv];simpa using h3
      ·rw[R.ap,jV (dt (D.filter fun e=>!aK v e.tag.id)) _ fun x hx q=>c3 (by
        rw[iX]at hx;obtain⟨y,hy,hye⟩:=List.mem_map.1 hx;exact List.mem_map.2 ⟨y,(List.mem_filter.1 hy).1,hye.trans q⟩)]
       rw[List.filter_append,List.filter_cons,hv];unfold dt;rw[List.map_append];rfl
      ·rw[R.sn,jV (fC D) true fun x hx q=>c3 (by rw[kf]at hx;exact q▸hx)];unfold fC;rw[List.map_append];rfl
     ·exact absurd trivial h
  ·rw[if_neg c2]at A⊢;rw[if_neg c2];exact⟨rfl,.inr ⟨by simp,rfl,rfl⟩⟩
 ·rw[if_neg c1]at A⊢;rw[if_neg c1];exact⟨rfl,.inr ⟨c1,rfl,rfl⟩⟩
theorem TR.at_(hk:1≤k)(R:TR k v s ap sn D)(B:VA k s' b' ap' sn' D)(hT: ∀e∈D,e.tags.length≤100)(h40:D.length≤40)(hvu: ∀id,aK v id=true→aK u id=true)(l1:jP v u=true)(l2:jP z8 u=true):
  (bk s v ap sn u []).2=(bk s' b' ap' sn' u []).2∧dw (bk s v ap sn u []).1=dw (bk s' b' ap' sn' u []).1:=by
 rw[ke,ke,B.s,B.b,B.ap,B.sn];by_cases c1:eG u=0
 ·rw[if_pos c1,if_pos c1,if_pos l1,if_pos l2,List.append_nil,List.append_nil,R.ap];have hG:=wj B hT;have hpb:=jT (s:=zO k) (b:=z8) (sn:=fC D) B.nd u;have hna:=gy B.nd (fun e=>!aK v e.tag.id);have hpa:=jT (s:=s) (b:=v) (sn:=sn) hna u;obtain⟨s1,W0,O1,C,A5⟩:=R.o;have hsp:=l6 (fun e:ab=>aK v e.tag.id) (fun e=>aK u e.tag.id) (fun e=>hvu e.tag.id) D;have hall:(W0++au s v (dt (D.filter fun e=>!aK v e.tag.id)) sn u).Perm (D.filter fun e=>aK u e.tag.id):=(A5.append hpa).trans hsp;have hn:((W0++au s v (dt (D.filter fun e=>!aK v e.tag.id)) sn u).map (·.tag)).Nodup:=((hall.map _).nodup_iff).2 (gy B.nd _);have hl:(W0++au s v (dt (D.filter fun e=>!aK v e.tag.id)) sn u).length≤40:=by rw[hall.length_eq];exact Nat.le_trans (List.length_filter_le _ _) h40
  have hg0: ∀x∈W0,jD k x:=fun x hx=>hG x (List.mem_filter.1 (A5.mem_iff.1 hx)).1;have hg1: ∀x∈au s v (dt (D.filter fun e=>!aK v e.tag.id)) sn u,jD k x∧aK v x.tag.id=false:=fun x hx=>by
   have h1:=List.mem_filter.1 (List.mem_filter.1 (hpa.mem_iff.1 hx)).1;exact⟨hG x h1.1,by simpa using h1.2⟩
  obtain⟨t',t,e1,e2,O2,C2⟩:=rK.fold hk _ C O1 hg0 hg1 hn hl;obtain⟨y,e3,O3⟩:=eD.fold hk (au (zO k) z8 (dt D) (fC D) u) (zF k) (fun x hx=>by cases hx) (fun x hx=>hG x (List.mem_filter.1 (hpb.mem_iff.1 hx)).1) (by
   rw[List.nil_append];exact((hpb.map _).nodup_iff).2 (gy B.nd _)) (by rw[List.nil_append,hpb.length_eq];exact Nat.le_trans (List.length_filter_le _ _) h40)
  rw[List.nil_append]at O3;have ey:t=y:=eD.ext O2 O3 (hall.trans hpb.symm);rw[e1,e3];refine⟨rfl,?_⟩;rw[←ey];exact C2.say O2 (fun x hx=>(List.mem_append.1 hx).elim (hg0 x) fun q=>(hg1 x q).1) hl
 ·rw[if_neg c1,if_neg c1];exact⟨rfl,rfl⟩
end
theorem oQ(a:List aP):fZ a a=true:=by
 unfold fZ;rw[if_pos rfl];obtain⟨q,h⟩:=kb a (fun _=>true) false (dI a a) (fun fuel i _=>by rw[dI];simp);rw[h];simp
theorem oR(a:bO):f4 a a=true:=by unfold f4;simp[oQ]
def A8(k:Int)(v:List Int)(s s':az)(ap:List (af×ab))(sn:List (af×Bool))(ap':List (af×ab))(sn':List (af×Bool))(t:Bool)(b:List Int)(D:List ab):Prop:=
 VA k s' z8 ap' sn' D∧(∀e∈D,e.tags.length≤100)∧((t=false∧VA k s b ap sn D)∨(t=true∧b=v∧TR k v s ap sn D))
theorem A8.end{k:Int}{v w:List Int}{s s':az}{ap:List (af×ab)}{sn:List (af×Bool)}{ap':List (af×ab)}{sn':List (af×Bool)}{t:Bool}{b:List Int}{D:List ab}(hk:1≤k)(h:A8 k v s s' ap sn ap' sn' t b D)(h40:D.length≤40)(hv:v.length=8)(hw:w.length=8)(h0: ∀x∈v,0≤x):
  (bk s b ap sn (cq v w) []).2=(bk s' z8 ap' sn' (cq v w) []).2∧dw (bk s b ap sn (cq v w) []).1=dw (bk s' z8 ap' sn' (cq v w) []).1:=by
 obtain⟨B,hT,h|⟨_,rfl,R⟩⟩:=h
 ·rw[h.2.at_ B (List.Perm.refl _)];exact⟨rfl,rfl⟩
 ·exact R.at_ hk B hT h40 (xr hv hw) (zI hv hw) (zJ hv hw h0)
theorem wk{v:List Int}{e:ab}(hw:ip e)(h: ¬gx v e.tag.id=true):aK v e.tag.id=false:=by
 rw[CG v hw.tag.1];simpa using h
theorem A8.add{k:Int}{v:List Int}{s s':az}{ap:List (af×ab)}{sn:List (af×Bool)}{ap':List (af×ab)}{sn':List (af×Bool)}{t:Bool}{b:List Int}{D:List ab}{e:ab}(h:A8 k v s s' ap sn ap' sn' t b D)(he:ip e)(h1:e.tags.length≤100)(hv:t=true→aK v e.tag.id=false):
  (aC s b ap sn e).1=(aC s' z8 ap' sn' e).1∧ ∃D',D'.length≤D.length+1∧A8 k v (aC s b ap sn e).2.1 (aC s' z8 ap' sn' e).2.1 (aC s b ap sn e).2.2.1 (aC s b ap sn e).2.2.2 (aC s' z8 ap' sn' e).2.2.1 (aC s' z8 ap' sn' e).2.2.2 t b D':=by
 obtain⟨B,hT,h⟩:=h;have hT': ∀x∈D++ [e],x.tags.length≤100:=fun x hx=>(List.mem_append.1 hx).elim (hT x) fun q=>by rw[List.mem_singleton.1 q];exact h1
 rcases h with⟨rfl,A⟩|⟨rfl,rfl,R⟩
 ·have e1:aC s b ap sn e=aC s' z8 ap' sn' e:=by rw[A.s,A.b,A.ap,A.sn,B.s,B.ap,B.sn]
  refine⟨by rw[e1],?_⟩;rcases A.add he with⟨h4,_,h2⟩|⟨_,h2⟩
  ·rcases B.add he with⟨_,_,h3⟩|⟨h3,_⟩
   ·exact⟨D++ [e],by simp,h3,hT',.inl ⟨rfl,h2⟩⟩
   ·rw[←e1]at h3;exact absurd h4 h3
  ·have h3:(aC s' z8 ap' sn' e).2=(s',ap',sn'):=by
    rw[←e1,h2,A.s,A.ap,A.sn,B.s,B.ap,B.sn]
   exact⟨D,by omega,by rw[h3];exact B,hT,.inl ⟨rfl,by rw[h2];exact A⟩⟩
 ·obtain⟨e1,⟨_,h2,h3⟩|⟨_,h2,h3⟩⟩:=R.add B he (hv rfl)
  ·exact⟨e1,D++ [e],by simp,h3,hT',.inr ⟨rfl,rfl,h2⟩⟩
  ·exact⟨e1,D,by omega,by rw[h3];exact B,hT,.inr ⟨rfl,rfl,by rw[h2];exact R⟩⟩
theorem l7(l:List ab)(v w:List Int)(hw: ∀e∈l,ip e){k:Int}(hk:1≤k): ∀(fuel:Nat) (i:Int) (s s':az) (ap:List (af×ab)) (sn:List (af×Bool)) (ap':List (af×ab)) (sn':List (af×Bool)) (t:Bool) (b:List Int) (D:List ab),0≤i→i≤40→(D.length:Int)≤i→A8 k v s s' ap sn ap' sn' t b D→
  bF l v w z8 fuel i s s' ap sn ap' sn' t b= .inl true∨ ∃i' s1 s2 xt sn1 zK sn2 t' b' D',bF l v w z8 fuel i s s' ap sn ap' sn' t b= .inr (i',s1,s2,xt,sn1,zK,sn2,t',b')∧A8 k v s1 s2 xt sn1 zK sn2 t' b' D'∧D'.length≤40
 |0,i,s,s',ap,sn,ap',sn',t,b,D,h0,h40,hD,h=> .inr ⟨i,s,s',ap,sn,ap',sn',t,b,D,rfl,h,by omega⟩
 |fuel+1,i,s,s',ap,sn,ap',sn',t,b,D,h0,h40,hD,h=>by
  rw[bF];by_cases c:i<(l.length:Int)∧i<40
  ·rw[if_pos c];by_cases cg:cY (az.mk 0 (bM.mk 0 (aA.mk 0 0)) (bY.mk 0 0) (aY.mk [] []) (be.mk [] [])) (ix l i)=true
   ·rw[if_pos cg];exact .inl rfl
   ·rw[if_neg cg];have he:=hw _ (wh l h0 c.1);have ht:=ga cg;rw[show cU (ix l i)=ix l i from rfl];have step: ∀{s:az} {ap:List (af×ab)} {t:Bool} {b:List Int},A8 k v s s' ap sn ap' sn' t b D→(t=true→aK v (ix l i).tag.id=false)→
      (match aC s b ap sn (ix l i)with
      |(r39,r40,r41,r42)=>match aC s' z8 ap' sn' (ix l i)with
       |(r45,r46,r47,r48)=>if r39=r45 then bF l v w z8 fuel (i+1) r40 r46 r41 r42 r47 r48 t b else .inl false)= .inl true∨ ∃i' s1 s2 xt sn1 zK sn2 t' b' D',(match aC s b ap sn (ix l i)with
      |(r39,r40,r41,r42)=>match aC s' z8 ap' sn' (ix l i)with
       |(r45,r46,r47,r48)=>if r39=r45 then bF l v w z8 fuel (i+1) r40 r46 r41 r42 r47 r48 t b else .inl false)= .inr (i',s1,s2,xt,sn1,zK,sn2,t',b')∧A8 k v s1 s2 xt sn1 zK sn2 t' b' D'∧D'.length≤40:=fun{s ap t b} h hv=>by
     obtain⟨e1,D',hl,h2⟩:=h.add he ht hv;rcases hq:aC s b ap sn (ix l i)with⟨x,s1,xt,sn1⟩;rcases hq':aC s' z8 ap' sn' (ix l i)with⟨x',s2,zK,sn2⟩;rw[hq,hq']at e1 h2;simp only at e1 h2⊢;rw[if_pos e1];exact l7 l v w hw hk fuel (i+1) _ _ _ _ _ _ _ _ D' (by omega) (by omega) (by omega) h2
    by_cases ct:(l.length:Int)≤2*i∧ ¬t=true
    ·rw[if_pos ct];have hA:VA k s b ap sn D:=by
      rcases h.2.2 with⟨_,A⟩|⟨q,_⟩
      ·exact A
      ·exact absurd q ct.2
     have hq2:=hA.trim (v:=v) hk h.2.1 (by omega);rcases hq:bZ s b ap sn v with⟨x,s1,b1,xt⟩;rw[hq]at hq2;simp only at hq2⊢;by_cases cx:x=0
     ·rw[if_pos cx];obtain⟨rfl,R⟩:=hq2 cx;have h2:A8 k b1 s1 s' xt sn ap' sn' true b1 D:=⟨h.1,h.2.1,.inr ⟨rfl,rfl,R⟩⟩;by_cases cr:gx b1 (ix l i).tag.id=true
      ·rw[if_pos ⟨trivial,cr⟩];exact l7 l b1 w hw hk fuel (i+1) _ _ _ _ _ _ _ _ D (by omega) (by omega) (by omega) h2
      ·rw[if_neg (fun q=>cr q.2)];exact step h2 fun _=>wk he cr
     ·rw[if_neg cx];exact .inl rfl
    ·rw[if_neg ct];by_cases cr:t=true∧gx v (ix l i).tag.id=true
     ·rw[if_pos cr];exact l7 l v w hw hk fuel (i+1) _ _ _ _ _ _ _ _ D (by omega) (by omega) (by omega) h
     ·rw[if_neg cr];exact step h fun q=>wk he fun z=>cr ⟨q,z⟩
  ·rw[if_neg c];exact .inr ⟨i,s,s',ap,sn,ap',sn',t,b,D,rfl,h,by omega⟩
theorem pF(key:List UInt8)(l:List ab)(v w:List Int)(hl: ∀e∈l,ip e)(hv:v.length=8)(hw:w.length=8)(h0: ∀x∈v,0≤x):il key l v w=true:=by
 unfold il;rw[if_pos uL];split
 ·rfl
 rcases xp key with⟨r,h⟩|⟨c,s,h,hk⟩
 ·rw[h];simp
 ·rw[h];simp only;by_cases hc:c=0
  ·obtain⟨k,k1,k2,rfl⟩:=hk hc;rw[if_neg (by simp[hc])];rcases l7 l v w hl k1 (((40:Int)-(0:Int)).toNat+1) 0 (zO k) (zO k) [] [] [] [] false z8 [] (by omega) (by omega) (by simp) ⟨VA.new k,fun _ h=>(by cases h),.inl ⟨rfl,VA.new k⟩⟩with h1|⟨i',s1,s2,xt,sn1,zK,sn2,t',b',D,h1,R,h40⟩
   ·rw[h1]
   ·rw[h1];simp only;have q:=R.end k1 h40 hv hw h0;rcases h3:bk s1 b' xt sn1 (cq v w) []with⟨x,g⟩;rcases h4:bk s2 z8 zK sn2 (cq v w) []with⟨y,g'⟩;rw[h3,h4]at q;simp only at q⊢;rw[q.1,q.2,oR];simp
  ·rw[if_pos (.inl hc)];simp
end Go.Proofs.YtiliglahlfkikaaGreatDoor.V
end

section
set_option linter.unusedVariables false
set_option linter.unusedSimpArgs false
namespace Go.Proofs.YtiliglahlfkikaaGreatDoor.V
open Go.RowKit
structure Qv(o:xH):Prop where
 e:ip o.e
 more: ∀e∈o.more,ip e
 v:o.v.length=8
section
variable {Y:List Nat} {S:World→Prop}
theorem aQ.mem{U:bQ}{e:bg}: ∀{xs:List (TT U.ty e)} {vs:List Value},aQ U Y S e xs vs→ ∀x∈xs,∃us,aD U Y S e x us
 | [],vs,_,x,hx=>by cases hx
 |y::xs,vs,h,x,hx=>by
  obtain⟨v1,v2,_,h1,_,h2⟩:=h.cons_inv;rcases List.mem_cons.1 hx with rfl|hx
  ·exact⟨v1,h1⟩
  ·exact aQ.mem h2 x hx
theorem wf{t:af}{vs:List Value}(h:aD U Y S (.st 1) t vs):kD t:=by
 obtain⟨h,-⟩:=h.inv;obtain⟨_,_,-,h0,-,-⟩:=bH.inv (fs:= [(2,.st 0),(1,.int .i64)]) h;obtain⟨h0,-⟩:=aD.inv (s:= .st 0) h0;obtain⟨_,_,-,-,-,h1⟩:=bH.inv (fs:= [(1,.int .i64),(1,.int .u32)]) h0;obtain⟨_,_,-,h2,-,-⟩:=bH.inv (fs:= [(1,.int .u32)]) h1;exact(aD.inv (s:= .int .u32) h2).2
theorem CJ{e:ab}{vs:List Value}(h:aD U Y S (.st 3) e vs):ip e:=by
 obtain⟨h,-⟩:=h.inv;obtain⟨_,_,-,-,-,h⟩:=bH.inv (fs:= [(1,.int .i64),(1,.str),(1,.int .i64),(3,.st 1),(2,.st 2),(1,.sl (.st 1))]) h;obtain⟨_,_,-,-,-,h⟩:=bH.inv (fs:= [(1,.str),(1,.int .i64),(3,.st 1),(2,.st 2),(1,.sl (.st 1))]) h;obtain⟨_,_,-,-,-,h⟩:=bH.inv (fs:= [(1,.int .i64),(3,.st 1),(2,.st 2),(1,.sl (.st 1))]) h;obtain⟨_,_,-,h1,-,h⟩:=bH.inv (fs:= [(3,.st 1),(2,.st 2),(1,.sl (.st 1))]) h;obtain⟨_,_,-,h2,-,h⟩:=bH.inv (fs:= [(2,.st 2),(1,.sl (.st 1))]) h;obtain⟨_,_,-,h3,-,h⟩:=bH.inv (fs:= [(1,.sl (.st 1))]) h;obtain⟨h2,-⟩:=aD.inv (s:= .st 2) h2;obtain⟨_,_,-,h4,-,-⟩:=bH.inv (fs:= [(1,.int .u32),(1,.int .i64)]) h2;obtain⟨_,_,_,-,h5,-⟩:=aD.inv (s:= .sl (.st 1)) h3;refine⟨wf h1,fun t ht=>?_,(aD.inv (s:= .int .u32) h4).2.1⟩;obtain⟨us,hu⟩:=aQ.mem h5 t ht;exact wf hu
end
end Go.Proofs.YtiliglahlfkikaaGreatDoor.V
end

section
namespace Go.Proofs.YtiliglahlfkikaaGreatDoor
open Go.ChangeShapes Go.WideShapes Go.ChangeAt Go.RowKit Go.Joins
theorem Tryz.own':ownKnob Tryz.prog.godebug=none:=by kernel_rfl
theorem Tryz.laidOut':laidOutB Tryz.prog=true:=by kernel_rfl
def oI(P:Program)(ts:List TypeId):Bool:=ts.all fun t=>P.readableRec t&&decide (t<P.types.size)
theorem kC{H:Type}{enc:TypeId×Value→H}{P:Program}(hl:laidOutB P=true){W W':World}(hb:Below W.heap.size W W'):
  ∀(ts:List TypeId) (vs:List Value) (ds:List (DataW H)) (ps:List MemPlace),oI P ts=true→DataW.TrodAll enc P W 0 (fun _=>true) true ts vs ds ps→(∀x∈ps,x.block<W.heap.size)→
   DataW.TrodAll enc P W' 0 (fun b=>decide (b<W.heap.size)) true ts vs ds ps
 | [],_,_,_,_,h,_=>by
  obtain⟨rfl,rfl,rfl⟩:=trodAll_nil h;exact trodAll_mk0
 |t::ts,_,_,_,hr,h,hlt=>by
  obtain⟨v,vs,d,ds,p,q,rfl,rfl,rfl,h0,h1⟩:=trodAll_cons h;simp only[oI,List.all_cons,Bool.and_eq_true,decide_eq_true_eq]at hr;exact trodAll_cons_mk (Below.trod hl hr.1.1 hr.1.2 h0 hb fun x hx=>hlt x (List.mem_append_left _ hx))
   (kC hl hb ts vs ds q (by unfold oI;simpa using hr.2) h1 fun x hx=>hlt x (List.mem_append_right _ hx))
theorem zk{H:Type}{enc:TypeId×Value→H}{f:Func}{s:ChangeSpec}{W W':World}{args:Array Value}{ds gs:List (DataW H)}{before:List MemPlace}{tb:TypeId}
  (hv:s.vars= []) (hW:DataW.Whole enc Tryz.prog f.params.toList s.vars false W args.toList ds gs before) (hfn:s.fn H ds={results:= [.lit (.bool true)],args:=ds})
  (hr:f.resultTypes= #[tb]) (htb:Tryz.prog.underlying tb=some .bool) (hread:oI Tryz.prog f.params.toList=true) (hb:Below W.heap.size W W'):
  s.post enc Tryz.prog f false true false false W args (.bool true) W':=by
 have hlt: ∀x∈before,x.block<W.heap.size:=fun x hx=>hW.lt x hx;obtain⟨p,q,hA,hV,hps,hfz,hnd⟩:=id hW;rw[hv]at hV;obtain⟨rfl,rfl⟩:=trodVars_none hV;rw[List.append_nil]at hps;subst hps;refine⟨ds,[],before,[],before,[],hW,?_,?_,?_,?_,fun h=>by cases h⟩
 ·rw[List.append_nil,hfn,hr];exact trodAll_mk1 (shut_bool htb true)
 ·rw[List.append_nil,hfn];exact kC Tryz.laidOut' hb _ _ _ _ hread hA hlt
 ·rw[List.append_nil,hfn,hv];rfl
 ·exact World.keptBut_mono (fun x hx=>hx.elim) (hb.frame (fun _=>False))
def zl(f:Func)(W:World)(args:Array Value):Prop:= ∃(H:Type) (enc:TypeId×Value→H) (base:Nat) (ds:List (DataW H)) (p:List MemPlace),
 (∀(j:Nat) t v,f.params[j]? =some t→args[j]? =some v→Value.okWide Tryz.prog W .any base t v)∧DataW.TrodAll enc Tryz.prog W 0 (fun _=>true) true f.params.toList args.toList ds p∧ ∀x∈p,x.block<W.heap.size
theorem zm(s:ByteArray): ∃l:List UInt8,s=⟨l.toArray⟩:=⟨s.data.toList,by cases s;simp⟩
end Go.Proofs.YtiliglahlfkikaaGreatDoor
end

/- An interpreter of our own over abstract values: what code does, with memory as values. It is computed by the kernel; XAc and XAd show that it is right. -/
import Derived.Test.YtmpeiadlohbikaaGreatDoorAx2
import Derived.Maps.RangeRun
import Derived.Test.YtmpeiadlohbikaaGreatDoorAx1
section
set_option linter.unusedVariables false
set_option linter.unusedSimpArgs false
namespace Go.Proofs.YtmpeiadlohbikaaGreatDoor
open Go.RowKit Go.MapKept
def bh{α β:Type} [DecidableEq α](m:List (α×β))(k:α):Option β:=(m.find? (fun e=>decide (e.1=k))).map (·.2)
def bL{α β:Type} [DecidableEq α]:List (α×β)→α→β→List (α×β)
 | [],k,v=> [(k,v)]
 |e::r,k,v=>if e.1=k then(k,v)::r else e::bL r k v
def fV{α β:Type} [DecidableEq α]:List (α×β)→α→List (α×β)
 | [],_=> []
 |e::r,k=>if e.1=k then r else e::fV r k
structure eV{α:Type} [DecidableEq α](P:Program)(kt:TypeId)(enc:α→Value):Prop where
 inj: ∀x y,enc x=enc y→x=y
 chk: ∀em x w,(Instr.checkKey em 10000 kt (enc x)).run P w= .ok () w
 fnd: ∀(x:α) (ks:List α) (es:List MapEntry),es.map (·.key)=ks.map enc→ ∀w,((Instr.findKey kt (enc x) es).run P w= .ok none w∧ ∀k∈ks,k≠x)∨ ∃(j:Nat) (e:MapEntry),(Instr.findKey kt (enc x) es).run P w= .ok (some (j,e.val)) w∧es[j]? =some e∧ks[j]? =some x
 stay: ∀x w,(Instr.keyThatStays (enc x) (enc x)).run P w= .ok (enc x) w
theorem eV.plain{α:Type} [DecidableEq α]{P:Program}{kt:TypeId}{enc:α→Value}{d:TypeDesc}(hu:P.underlying kt=some d)(hk: ∀x,IsKey d (enc x))(inj: ∀x y,enc x=enc y→x=y):eV P kt enc:=
 ⟨inj,fun em x w=>run_checkKey hu (hk x) em 9999,fun x ks es he w=>by
  have hks: ∀e∈es,IsKey d e.key:=fun e hx=>by
   have:e.key∈ks.map enc:=by rw[←he];exact List.mem_map_of_mem hx
   obtain⟨y,_,hy⟩:=List.mem_map.1 this;rw[←hy];exact hk y
  rcases findNow_spec (hk x) es 0 hks with⟨h1,h2⟩|⟨j,e,h1,h2,h3⟩
  ·refine .inl ⟨run_findKey hu h1,fun k hk' e=>?_⟩;subst e;have:enc k∈es.map (·.key):=by rw[he];exact List.mem_map_of_mem hk'
   obtain⟨y,hy,e2⟩:=List.mem_map.1 this;exact h2 y hy e2
  ·refine .inr ⟨j,e,?_,h2,?_⟩
   ·have:=run_findKey (P:=P) (w:=w) hu h1;rw[Nat.zero_add]at this;exact this
   ·have h4:(es.map (·.key))[j]? =some (enc x):=by rw[List.getElem?_map,h2];simp[h3]
    rw[he,List.getElem?_map]at h4;cases hj:ks[j]? with
    |none=>rw[hj]at h4;cases h4
    |some y=>rw[hj]at h4;simp at h4;rw[inj _ _ h4],fun x w=>run_keyThatStays (hk x)⟩
theorem eV.int{P:Program}{kt:TypeId}{k:IntKind}(hu:P.underlying kt=some (.int k)):eV P kt (fun x:Int=> .int k x):=eV.plain hu (fun _=>rfl) (by intro x y h;injection h)
theorem eV.str{P:Program}{kt:TypeId}(hu:P.underlying kt=some .string):eV P kt (fun x:List UInt8=>sv x):=eV.plain hu (fun _=>trivial) (by intro x y h;injection h with h;injection h with h;simpa using h)
theorem eV.bool{P:Program}{kt:TypeId}(hu:P.underlying kt=some .bool):eV P kt (fun x:Bool=> .bool x):=eV.plain hu (fun _=>trivial) (by intro x y h;injection h)
def tV:Value→Bool
 | .int _ _| .bool _| .string _=>true
 |_=>false
theorem DJ{v:Value}(h:tV v=true)(n:Nat):Instr.sameBits n v v=true:=by
 cases v<;>simp[tV]at h<;>cases n<;>simp[Instr.sameBits,bytes_beq]
theorem Ao(n:Nat)(cs:List Value)(h: ∀v∈cs,tV v=true):Instr.sameBits (n+1) (.agg cs.toArray) (.agg cs.toArray)=true:=by
 unfold Instr.sameBits;simp only[BEq.rfl,Bool.true_and,List.all_eq_true];intro p hp;have:p.1=p.2∧p.1∈cs:=by
  clear h;revert hp;induction cs with
  |nil=>intro hp;simp at hp
  |cons a r ih=>
   intro hp;simp only[List.zip_cons_cons,List.mem_cons]at hp;rcases hp with rfl|hp
   ·simp
   ·obtain⟨h1,h2⟩:=ih hp;exact⟨h1,by simp[h2]⟩
 obtain⟨h1,h2⟩:=this;rw[←h1];exact DJ (h _ h2) n
theorem tW{d:TypeDesc}{cs:Array Value}(hd: ∀v,Instr.sameNow d (.agg cs) v=none): ∀(es:List MapEntry) (i:Nat),Instr.findNow d (.agg cs) es i=if es= []then some none else none
 | [],_=>rfl
 |e::r,i=>by simp[Instr.findNow,hd]
theorem eV.agg{α:Type} [DecidableEq α]{P:Program}{kt:TypeId}{enc:α→List Value}{kd:TypeDesc}(hu:P.underlying kt=some kd)(hkd: ∀cs v,Instr.sameNow kd (.agg cs) v=none)(hv:bf P kt≠none)(heq: ∀x y,aX P 8 kt (enc x) (enc y)=some (decide (x=y)))
  (hchk: ∀em x w,(Instr.checkKey em 10000 kt (.agg (enc x).toArray)).run P w= .ok () w) (hfl: ∀x,∀v∈enc x,tV v=true):eV P kt (fun x=> .agg (enc x).toArray):=by
 have inj: ∀x y,enc x=enc y→x=y:=fun x y e=>by
  have h1:=heq x y;have h2:=heq x x;rw[←e,h2]at h1;simpa using h1
 have hval: ∀cs:List Value,jC P kt cs (.agg cs.toArray):=fun cs=>by
  unfold jC;unfold bf at hv;cases hu:P.underlying kt with
  |none=>simp[hu]at hv
  |some d=>cases d<;>first|rfl|(simp[hu]at hv;done)
 have hask: ∀(x:α) (ks:List α) (es:List MapEntry) (i:Nat),es.map (·.key)=ks.map (fun x=>Value.agg (enc x).toArray)→ ∀w,((Instr.findAsking kt (.agg (enc x).toArray) es i).run P w= .ok none w∧ ∀k∈ks,k≠x)∨ ∃(j:Nat) (e:MapEntry),(Instr.findAsking kt (.agg (enc x).toArray) es i).run P w= .ok (some (i+j,e.val)) w∧es[j]? =some e∧ks[j]? =some x:=by
  intro x ks es;induction es generalizing ks with
  |nil=>intro i he w;cases ks with
   |nil=>exact .inl ⟨rfl,by simp⟩
   |cons a r=>simp at he
  |cons e es ih=>
   intro i he w;cases ks with
   |nil=>simp at he
   |cons a r=>
    simp only[List.map_cons,List.cons.injEq]at he;have hrun:(Op.equal kt (.agg (enc x).toArray) e.key).run P w= .ok (decide (x=a)) w:=by
     rw[he.1];have h:=gR 8 kt (enc x) (enc a) _ (heq x a) _ _ (hval _) (hval _) 9992 w;simp only[Op.equal,Op.maxDepth,h]
    unfold Instr.findAsking;simp only[Sem.run_bind,hrun,Result.andThen_ok];by_cases ex:x=a
    ·subst ex;refine .inr ⟨0,e,by simp,rfl,rfl⟩
    ·simp only[ex,decide_false,Bool.false_eq_true,if_false];rcases ih r (i+1) he.2 w with⟨h1,h2⟩|⟨j,e',h1,h2,h3⟩
     ·exact .inl ⟨h1,fun k hk=>by
       rcases List.mem_cons.1 hk with rfl|hk
       ·exact fun q=>ex q.symm
       ·exact h2 k hk⟩
     ·exact .inr ⟨j+1,e',by rw[h1,show i+1+j=i+(j+1)by omega],by simpa using h2,by simpa using h3⟩
 refine⟨fun x y e=>inj x y (by simpa using e),hchk,fun x ks es he w=>?_,fun x w=>?_⟩
 ·have hs: ∀v,Instr.sameNow kd (.agg (enc x).toArray) v=none:=hkd _;have hn:=tW hs es 0;by_cases e0:es= []
  ·subst e0;have:ks= []:=by cases ks<;>simp at he;rfl
   subst this;exact .inl ⟨run_findKey hu rfl,by simp⟩
  ·rw[if_neg e0]at hn;have hfk:(Instr.findKey kt (.agg (enc x).toArray) es).run P w=(Instr.findAsking kt (.agg (enc x).toArray) es 0).run P w:=by
    simp[Instr.findKey,run_underlying hu,Result.andThen,hn]
   rw[hfk];have:=hask x ks es 0 he w;simpa using this
 ·have:=Ao 9999 (enc x) (hfl x);simp only[Instr.keyThatStays,this,if_true];rfl
structure ny{α β:Type}(enc:α→Value)(ev:β→Value)(es:Array MapEntry)(clock:Nat)(m:List (α×β)):Prop where
 st:Stamped es clock
 eq:es.toList.map (fun e=>(e.key,e.val))=m.map (fun p=>(enc p.1,ev p.2))
section
variable {α β:Type} {enc:α→Value} {ev:β→Value} {es:Array MapEntry} {clock:Nat} {m:List (α×β)}
theorem ny.empty:ny enc ev #[] 0 ([]:List (α×β)):=⟨stamped_empty 0,rfl⟩
theorem ny.ks(h:ny enc ev es clock m):es.toList.map (·.key)=(m.map (·.1)).map enc:=by
 have:=congrArg (List.map Prod.fst) h.eq;simpa[List.map_map,Function.comp_def]using this
theorem ny.len(h:ny enc ev es clock m):es.size=m.length:=by
 have:=congrArg List.length h.eq;simpa using this
theorem ny.at{j:Nat}{e:MapEntry}{x:α}(h:ny enc ev es clock m)(h1:es.toList[j]? =some e): ∃p,m[j]? =some p∧e.key=enc p.1∧e.val=ev p.2:=by
 have h2:=congrArg (fun l=>l[j]?) h.eq;simp only[List.getElem?_map,h1,Option.map_some]at h2;cases hm:m[j]? with
 |none=>rw[hm]at h2;cases h2
 |some p=>rw[hm]at h2;simp at h2;exact⟨p,rfl,h2.1,h2.2⟩
variable [DecidableEq α]
theorem ny.nd{P:Program}{kt:TypeId}(L:eV P kt enc)(h:ny enc ev es clock m):(m.map (·.1)).Nodup:=by
 have h1:=h.st.2.2;rw[h.ks]at h1;exact List.Pairwise.of_map enc (fun a b hab e=>hab (by rw[e])) h1
theorem xM(m:List (α×β)){x:α}(h: ∀k∈m.map (·.1),k≠x):bh m x=none:=by
 unfold bh;rw[List.find?_eq_none.2 fun e he=>by simpa using h e.1 (List.mem_map_of_mem he)];rfl
theorem DK(m:List (α×β))(nd:(m.map (·.1)).Nodup){j:Nat}{p:α×β}(h:m[j]? =some p):bh m p.1=some p.2:=by
 induction m generalizing j with
 |nil=>simp at h
 |cons a r ih=>
  simp only[List.map_cons,List.nodup_cons]at nd;unfold bh;cases j with
  |zero=>simp at h;subst h;simp
  |succ j=>
   simp at h;have hin:p∈r:=List.mem_of_getElem? h;have hne:a.1≠p.1:=fun e=>nd.1 (by rw[e];exact List.mem_map_of_mem hin);rw[List.find?_cons_of_neg (by simpa using hne)];exact ih nd.2 h
theorem Ap(m:List (α×β)){x:α}(v:β)(h: ∀k∈m.map (·.1),k≠x):bL m x v=m++ [(x,v)]:=by
 induction m with
 |nil=>rfl
 |cons a r ih=>
  have h1:a.1≠x:=h a.1 (by simp);simp only[bL,h1,if_false,List.cons_append];rw[ih fun k hk=>h k (by simp at hk⊢;exact .inr hk)]
theorem Aq(m:List (α×β))(nd:(m.map (·.1)).Nodup){x:α}(v:β){j:Nat}(h:(m.map (·.1))[j]? =some x):bL m x v=m.set j (x,v):=by
 induction m generalizing j with
 |nil=>simp at h
 |cons a r ih=>
  simp only[List.map_cons,List.nodup_cons]at nd;cases j with
  |zero=>simp at h;simp[bL,h]
  |succ j=>
   simp only[List.map_cons,List.getElem?_cons_succ]at h;have hne:a.1≠x:=fun e=>nd.1 (by rw[e];exact List.mem_of_getElem? h);simp only[bL,hne,if_false,List.set_cons_succ];rw[ih nd.2 h]
theorem pD(m:List (α×β)){x:α}(h: ∀k∈m.map (·.1),k≠x):fV m x=m:=by
 induction m with
 |nil=>rfl
 |cons a r ih=>
  have h1:a.1≠x:=h a.1 (by simp);simp only[fV,h1,if_false];rw[ih fun k hk=>h k (by simp at hk⊢;exact .inr hk)]
theorem Ar(m:List (α×β))(nd:(m.map (·.1)).Nodup){x:α}{j:Nat}(h:(m.map (·.1))[j]? =some x):fV m x=m.eraseIdx j:=by
 induction m generalizing j with
 |nil=>simp at h
 |cons a r ih=>
  simp only[List.map_cons,List.nodup_cons]at nd;cases j with
  |zero=>simp at h;simp[fV,h]
  |succ j=>
   simp only[List.map_cons,List.getElem?_cons_succ]at h;have hne:a.1≠x:=fun e=>nd.1 (by rw[e];exact List.mem_of_getElem? h);simp only[fV,hne,if_false,List.eraseIdx_cons_succ];rw[ih nd.2 h]
theorem qH(m:List (α×β))(x y:α)(v:β):bh (bL m x v) y=if y=x then some v else bh m y:=by
 induction m with
 |nil=>
  by_cases e:x=y
  ·subst e;simp[bL,bh]
  ·simp[bL,bh,e,Ne.symm e]
 |cons a r ih=>
  unfold bL;by_cases e:a.1=x
  ·simp only[e,if_true];by_cases e2:y=x
   ·subst e2;simp[bh]
   ·have: ¬x=y:=fun q=>e2 q.symm;simp only[e2,if_false];unfold bh;rw[List.find?_cons_of_neg (by simpa using this),List.find?_cons_of_neg (by rw[e];simpa using this)]
  ·simp only[e,if_false];by_cases e2:a.1=y
   ·have: ¬y=x:=fun q=>e (e2.trans q);simp[bh,e2,this]
   ·have h1:bh (a::bL r x v) y=bh (bL r x v) y:=by unfold bh;rw[List.find?_cons_of_neg (by simpa using e2)]
    have h2:bh (a::r) y=bh r y:=by unfold bh;rw[List.find?_cons_of_neg (by simpa using e2)]
    rw[h1,h2,ih]
end
section
variable [bt] {P:Program} {n:Nat} {env:aG} {S:World→Prop} {o:Oper} {w:World} {H:bR} {K:aG→World→Prop} {α β:Type} [DecidableEq α] {enc:α→Value} {ev:β→Value}
theorem As{t kt et g i clock:Nat}{m kx x:Operand}{es:Array MapEntry}{ms:List (α×β)}{k:α}{u:β}(ho:o.op= .mapUpdate t m kx x)(hd:o.dst=none)
  (hm:env.ev m=some (.map (some g))) (hkx:env.ev kx=some (enc k)) (hx:env.ev x=some (ev u)) (ht:P.underlying t=some (.map kt et)) (L:eV P kt enc)
  (h:Hp w H) (hi:H[i]? =some (some g,.map es clock)) (hM:ny enc ev es clock ms)
  (hK: ∀es' clock' w',ny enc ev es' clock' (bL ms k u)→Hp w' (H.set i (some g,.map es' clock'))→Fr [g] w w'→K env w'):bH P n env w o K:=by
 have hb:=h.at hi;rcases L.fnd k (ms.map (·.1)) es.toList hM.ks w with⟨h1,h2⟩|⟨j,e,h1,h2,h3⟩
 ·refine vg hd (w':={w with heap:=w.heap.setIfInBounds g (.map (es.push {key:=enc k,val:=ev u,born:=clock}) (clock+1))}) (fun a r=>?_)
   (hK _ _ _ ⟨stamped_push hM.st fun y hy e=>?_,?_⟩ (h.setAt hi (Fr.setObj hb) (MapKept.heap_set hb).1) (Fr.setObj hb))
  ·unfold execOp;simp[ho,r.eval hm,r.eval hkx,r.eval hx,Instr.mapUpdate,run_underlying ht,MapKept.run_getObj_map hb,L.chk,h1,MapKept.run_setObj_map _ hb]
  ·have:y.key∈(ms.map (·.1)).map enc:=by rw[←hM.ks];exact List.mem_map_of_mem hy
   obtain⟨z,hz,e2⟩:=List.mem_map.1 this;exact h2 z hz (L.inj _ _ (e2.trans e))
  ·rw[Ap ms u h2];simp[hM.eq]
 ·have hj:es[j]? =some e:=by simpa using h2
  obtain⟨p,hp,hpk,hpv⟩:=hM.at (x:=k) h2;have hpx:p.1=k:=by rw[List.getElem?_map,hp]at h3;simpa using h3
  have hek:e.key=enc k:=by rw[hpk,hpx]
  have hkey: ∀e',es[j]? =some e'→({e' with key:=enc k,val:=ev u}:MapEntry).key=e'.key:=fun e' he'=>by rw[hj]at he';cases he';exact hek.symm
  refine vg hd (w':={w with heap:=w.heap.setIfInBounds g (.map (es.modify j fun e=>{e with key:=enc k,val:=ev u}) clock)}) (fun a r=>?_)
   (hK (es.modify j fun e=>{e with key:=enc k,val:=ev u}) clock _ ⟨stamped_modify hM.st _ _ (fun _ _=>rfl) (fun e' _ he'=>hkey e' he'),?_⟩ (h.setAt hi (Fr.setObj hb) (MapKept.heap_set hb).1) (Fr.setObj hb))
  ·unfold execOp;simp[ho,r.eval hm,r.eval hkx,r.eval hx,Instr.mapUpdate,run_underlying ht,MapKept.run_getObj_map hb,L.chk,h1,hj,hek,L.stay,MapKept.run_setObj_map _ hb]
  ·rw[Aq ms (hM.nd L) u h3];apply List.ext_getElem?;intro q;have hq:=congrArg (fun l=>l[q]?) hM.eq;simp only[List.getElem?_map,Array.getElem?_toList]at hq;rw[List.getElem?_map,List.getElem?_map,List.getElem?_set,Array.getElem?_toList,Array.getElem?_modify];by_cases e:j=q
   ·subst e;have hlt:j<ms.length:=(List.getElem?_eq_some_iff.1 hp).1;simp[hj,hlt]
   ·simp only[e,if_false];exact hq
omit [bt]in
theorem Ff{kt clock:Nat}{es:Array MapEntry}{ms:List (α×β)}(L:eV P kt enc)(hM:ny enc ev es clock ms)(k:α)(w:World): ∃r,(Instr.findKey kt (enc k) es.toList).run P w= .ok r w∧r.map (·.2)=(bh ms k).map ev:=by
 rcases L.fnd k (ms.map (·.1)) es.toList hM.ks w with⟨h1,h2⟩|⟨j,e,h1,h2,h3⟩
 ·exact⟨_,h1,by rw[xM ms h2];rfl⟩
 ·obtain⟨p,hp,hpk,hpv⟩:=hM.at (x:=k) h2;have hpx:p.1=k:=by rw[List.getElem?_map,hp]at h3;simpa using h3
  exact⟨_,h1,by rw[←hpx,DK ms (hM.nd L) hp,hpv];rfl⟩
theorem xN{t kt et g i clock:Nat}{m kx:Operand}{es:Array MapEntry}{ms:List (α×β)}{k:α}{z:β}(ho:o.op= .lookup t m kx false)
  (hm:env.ev m=some (.map (some g))) (hkx:env.ev kx=some (enc k)) (ht:P.underlying t=some (.map kt et)) (L:eV P kt enc) (hz:il P et=some (ev z))
  (h: ∀w,S w→Hp w H) (hi:H[i]? =some (some g,.map es clock)) (hM:ny enc ev es clock ms):bY P n env S o (ev ((bh ms k).getD z)):=fun a r w hS=>by
 have hb:=(h w hS).at hi;obtain⟨q,h1,h2⟩:=Ff L hM k w;unfold execOp;cases q with
 |none=>
  cases hg:bh ms k with
  |some _=>rw[hg]at h2;cases h2
  |none=>simp[ho,r.eval hm,r.eval hkx,Instr.lookup,run_underlying ht,MapKept.run_getObj_map hb,L.chk,h1,tY hz]
 |some q=>
  cases hg:bh ms k with
  |none=>rw[hg]at h2;cases h2
  |some u=>rw[hg]at h2;simp at h2;simp[ho,r.eval hm,r.eval hkx,Instr.lookup,run_underlying ht,MapKept.run_getObj_map hb,L.chk,h1,h2]
theorem tX{t kt et g i clock:Nat}{m kx:Operand}{es:Array MapEntry}{ms:List (α×β)}{k:α}{z:β}(ho:o.op= .lookup t m kx true)
  (hm:env.ev m=some (.map (some g))) (hkx:env.ev kx=some (enc k)) (ht:P.underlying t=some (.map kt et)) (L:eV P kt enc) (hz:il P et=some (ev z))
  (h: ∀w,S w→Hp w H) (hi:H[i]? =some (some g,.map es clock)) (hM:ny enc ev es clock ms):bY P n env S o (.tuple #[ev ((bh ms k).getD z),.bool (bh ms k).isSome]):=fun a r w hS=>by
 have hb:=(h w hS).at hi;obtain⟨q,h1,h2⟩:=Ff L hM k w;unfold execOp;cases q with
 |none=>
  cases hg:bh ms k with
  |some _=>rw[hg]at h2;cases h2
  |none=>simp[ho,r.eval hm,r.eval hkx,Instr.lookup,run_underlying ht,MapKept.run_getObj_map hb,L.chk,h1,tY hz]
 |some q=>
  cases hg:bh ms k with
  |none=>rw[hg]at h2;cases h2
  |some u=>rw[hg]at h2;simp at h2;simp[ho,r.eval hm,r.eval hkx,Instr.lookup,run_underlying ht,MapKept.run_getObj_map hb,L.chk,h1,h2]
end
end Go.Proofs.YtmpeiadlohbikaaGreatDoor
end

section
set_option linter.unusedVariables false
set_option linter.unusedSimpArgs false
namespace Go.Proofs.YtmpeiadlohbikaaGreatDoor
open Go.RowKit
theorem St.other{X Y:List Nat}{w w':World}{H:bR}{K:List Kf}(h:St X w H K)(hf:Fr Y w w')(hY: ∀y∈Y,y∈X):St X w' H K:=
 ⟨h.hp.keep hf (fun k hk hy=>h.dj k (hY k hy) hk),fun k hk=>k.st (h.kr k hk) (hf.mono fun y hy=>List.mem_append_right _ (hY y hy)) (fun _ hy=> .inl hy),fun x hx=>Nat.lt_of_lt_of_le (h.lo x hx) hf.size,h.dj⟩
theorem Ow.cut{α:Type}{enc:α→List Value}{A:Option Addr}{c m l:Nat}{xs:List α}{sp:List Value}(hm: ∀x,(enc x).length=m)(h:Ow A l c m (xs.flatMap enc) sp)(hl:l=xs.length)(k:Nat):
  Ow A (xs.take k).length c m ((xs.take k).flatMap enc) ((xs.drop k).flatMap enc++sp):=by
 subst hl;refine⟨ba hm _,?_⟩;rcases h.2 with⟨h1,h2,h3,h4⟩|⟨g,h1,h2,h3,h4⟩
 ·have:xs= []:=List.eq_nil_of_length_eq_zero h2;subst this;exact .inl ⟨h1,by simp,h3,by simp[h4]⟩
 ·refine .inr ⟨g,h1,?_,?_,h4⟩
  ·rw[←List.append_assoc,←List.flatMap_append,List.take_append_drop];exact h2
  ·rw[List.length_take];omega
theorem kL{α:Type}{enc:α→List Value}{xs:List α}{sp:List Value}(k:Nat):xs.flatMap enc++sp=(xs.take k).flatMap enc++((xs.drop k).flatMap enc++sp):=by
 rw[←List.append_assoc,←List.flatMap_append,List.take_append_drop]
theorem wG: ∀(x y:List UInt8),Op.bytesLess x y=decide (x<y)
 |_,[]=>by simp[Op.bytesLess]
 | [],_::_=>by simp[Op.bytesLess]
 |a::x,b::y=>by
  rw[Op.bytesLess,wG x y];simp only[List.cons_lt_cons_iff,Bool.decide_or,Bool.decide_and];rfl
theorem Fc(x y:List UInt8):(Op.bytesLess x y||x==y)=decide (x≤y):=by
 rw[wG];by_cases h:x<y
 ·simp[h,List.le_of_lt h]
 ·by_cases e:x=y
  ·subst e;simp
  ·have: ¬x≤y:=fun hle=>by rcases List.le_iff_lt_or_eq.mp hle with h'|h'<;>contradiction
   simp[h,e,this]
section
variable [bt] {P:Program} {n:Nat} {env:aG} {S:World→Prop} {o:Oper} {w:World} {H:bR} {K:aG→World→Prop} {α:Type} {enc:α→List Value}
theorem oq{t e m c l:Nat}{A:Option Addr}{xs:List α}{x:Operand}{lo hi:Option Operand}{q:Int}{sp:List Value}(ho:o.op= .slice t x lo hi none)(hx:env.ev x=some (.slice A l c))(hl:l=xs.length)(ht:ar P t=some (e,m))(hlo:ij env lo=some 0)(hhi:ik env l hi=some q)
  (h1:0≤q) (h2:q≤xs.length) (how:Ow A l c m (xs.flatMap enc) sp):bY P n env S o (.slice A (xs.take q.toNat).length c):=by
 subst hl;have hlc:xs.length≤c:=by rcases how.2 with⟨_,h,h',_⟩|⟨g,_,_,h,_⟩<;>omega
 have:=lF (P:=P) (n:=n) (S:=S) ho hx ht hlo hhi (by omega) h1 (by omega) hlc;have e1:(if c=(0:Int).toNat then A else A.map (·.add ((0:Int).toNat*m)))=A:=by
  split
  ·rfl
  ·cases A with
   |none=>rfl
   |some a=>simp[Addr.add]
 rw[e1]at this;have e2:(xs.take q.toNat).length=q.toNat -(0:Int).toNat:=by rw[List.length_take];omega
 rw[e2];exact this
theorem mK{t e m c g l:Nat}{xs:List α}{x:Operand}{lo hi:Option Operand}{p:Int}{sp:List Value}(ho:o.op= .slice t x lo hi none)(hx:env.ev x=some (.slice (some ⟨g,0,none⟩) l c))(hl:l=xs.length)(ht:ar P t=some (e,m))(hlo:ij env lo=some p)(hhi:ik env l hi=some (l:Int))
  (h0:0≤p) (h1:p<xs.length) (how:Ow (some ⟨g,0,none⟩) l c m (xs.flatMap enc) sp):bY P n env S o (.slice (some ⟨g,0+p.toNat*m,none⟩) (l - p.toNat) (c - p.toNat)):=by
 subst hl;have hlc:xs.length≤c:=by rcases how.2 with⟨_,h,h',_⟩|⟨g,_,_,h,_⟩<;>omega
 have:=oo (P:=P) (n:=n) (S:=S) ho hx ht hlo hhi h0 (by omega) (by omega) hlc;rw[mF (by omega)]at this;simpa using this
theorem pz{t e m c c' i g l:Nat}{x:Operand}{xs:List α}{sp z:List Value}{u:α}{p:Int}(ho:o.op= .call {callee:= .builtin .clear,args:= #[x],argTypes:= #[t]})(hd:o.dst=none)
  (hx:env.ev x=some (.slice (some ⟨g,0+p.toNat*m,none⟩) (l - p.toNat) c')) (hl:l=xs.length) (ht:ar P t=some (e,m)) (hz:zeroCells P e=some z) (hzu:z=enc u) (hm: ∀x,(enc x).length=m) (h1: ∀v∈enc u,v.oneCell'=true)
  (how:Ow (some ⟨g,0,none⟩) l c m (xs.flatMap enc) sp) (h0:0≤p) (hp:p≤xs.length) (h:Hp w H) (hi:H[i]? =some (ah (some ⟨g,0,none⟩),Cl (xs.flatMap enc++sp) e))
  (hK: ∀w',Ow (some ⟨g,0,none⟩) l c m ((xs.take p.toNat++List.replicate (xs.length - p.toNat) u).flatMap enc) sp→Hp w' (H.set i (ah (some ⟨g,0,none⟩),Cl ((xs.take p.toNat++List.replicate (xs.length - p.toNat) u).flatMap enc++sp) e))→Fr [g] w w'→K env w'):bH P n env w o K:=by
 subst hzu;subst hl;have hlen:=ba hm xs;have hpl:p.toNat≤xs.length:=by omega
 have hle:p.toNat*m≤xs.length*m:=Nat.mul_le_mul_right m hpl;have hs:(xs.length - p.toNat)*m=xs.length*m - p.toNat*m:=Nat.sub_mul ..;refine wD ho hd hx ht hz (hm u) h1 h hi (by rw[List.length_append,hlen];omega) fun w' hp' hf=>?_;have e1:(xs.flatMap enc++sp).take (0+p.toNat*m)++(List.replicate (xs.length - p.toNat) (enc u)).flatten++(xs.flatMap enc++sp).drop (0+p.toNat*m+(xs.length - p.toNat)*m)=(xs.take p.toNat++List.replicate (xs.length - p.toNat) u).flatMap enc++sp:=by
  rw[Nat.zero_add,List.take_append_of_le_length (by omega),kN hm,List.drop_append,List.drop_of_length_le (by omega),hlen,show p.toNat*m+(xs.length - p.toNat)*m - xs.length*m=0 by omega,List.flatMap_append,tU];simp
 rw[e1]at hp';refine hK w' ⟨?_,?_⟩ hp' hf
 ·rw[ba hm,List.length_append,List.length_take,List.length_replicate,show min p.toNat xs.length+(xs.length - p.toNat)=xs.length by omega]
 ·rcases how.2 with⟨h2,_⟩|⟨g',e2,h3,h4,h5⟩
  ·cases h2
  ·refine .inr ⟨g',e2,?_,h4,h5⟩;rw[←h3,List.length_append,List.length_append,ba hm,hlen,List.length_append,List.length_take,List.length_replicate,show min p.toNat xs.length+(xs.length - p.toNat)=xs.length by omega]
theorem J4{x y:Operand}{t u:Nat}{p q:List UInt8}(ho:o.op= .binOp .lss t x y u)(hx:env.ev x=some (sv p))(hy:env.ev y=some (sv q)):bY P n env S o (.bool (decide (p<q))):=fun a r w _=>by
 unfold execOp;simp[ho,r.eval hx,r.eval hy,eqGuard,binOp,Op.stringOp,wG]
theorem J5{x y:Operand}{t u:Nat}{p q:List UInt8}(ho:o.op= .binOp .leq t x y u)(hx:env.ev x=some (sv p))(hy:env.ev y=some (sv q)):bY P n env S o (.bool (decide (p≤q))):=fun a r w _=>by
 unfold execOp;simp[ho,r.eval hx,r.eval hy,eqGuard,binOp,Op.stringOp,Fc]
theorem J6{x y:Operand}{t u:Nat}{p q:List UInt8}(ho:o.op= .binOp .gtr t x y u)(hx:env.ev x=some (sv p))(hy:env.ev y=some (sv q)):bY P n env S o (.bool (decide (q<p))):=fun a r w _=>by
 have e:(!decide (p≤q))=decide (q<p):=by rw[←decide_not];exact decide_eq_decide.mpr List.not_le
 unfold execOp;simp[ho,r.eval hx,r.eval hy,eqGuard,binOp,Op.stringOp,Fc,←e]
theorem J7{x y:Operand}{t u:Nat}{p q:List UInt8}(ho:o.op= .binOp .geq t x y u)(hx:env.ev x=some (sv p))(hy:env.ev y=some (sv q)):bY P n env S o (.bool (decide (q≤p))):=fun a r w _=>by
 have e:(!decide (p<q))=decide (q≤p):=by rw[←decide_not];exact decide_eq_decide.mpr List.not_lt
 unfold execOp;simp[ho,r.eval hx,r.eval hy,eqGuard,binOp,Op.stringOp,wG,←e]
theorem J8{t l e:Nat}{x ix:Operand}{k:IntKind}{q:Int}{us:List Value}{v:Value}(ho:o.op= .index t x ix)(hx:env.ev x=some (.agg us.toArray))(hi:env.ev ix=some (.int k q))(ht:P.underlying t=some (.array l e))(hs:(P.info? e).map (·.size)=some 1)(hp:c6 P e=true)(h0:0≤q)(h1:q<l)(hv:us[q.toNat]? =some v):bY P n env S o v:=fun a r w _=>by
 have hA:(isAgg e).run P w= .ok false w:=by
  unfold c6 at hp;cases hu':P.underlying e with
  |none=>simp[hu']at hp
  |some d=>
   unfold isAgg;simp only[Sem.run_bind,run_underlying hu',Result.andThen_ok];cases d<;>simp[hu']at hp<;>rfl
 cases hq:P.info? e with
 |none=>simp[hq]at hs
 |some i=>
  have hs:i.size=1:=by simpa[hq]using hs
  unfold execOp;simp[ho,r.eval hx,r.eval hi,Instr.index,asIntOf,run_underlying ht,h0,h1,sizeOf,typeInfo,hq,hs,part,hA,hv]
theorem Ah{t l e m:Nat}{ps:List (Nat×Operand)}{vs zs cells:List Value}(ho:o.op= .build t ps.toArray)(hx:env.evs (ps.map (·.2))=some vs)(ht:P.underlying t=some (.array l e))(hs:(P.info? e).map (·.size)=some m)(hz:zeroCells P t=some zs)
  (hf:Instr.fill (fun i=>some (i*m,m)) zs.toArray ((ps.map (·.1)).zip vs)=some cells.toArray):bY P n env S o (.agg cells.toArray):=fun a r w _=>by
 have e':(ps.toArray.map fun(i,x)=>(i,a.eval x)).toList=(ps.map (·.1)).zip vs:=by
  rw[←r.evals hx];simp only[List.map_toArray,List.map_map];clear ho hx hf;induction ps with
  |nil=>rfl
  |cons p ps ih=>obtain⟨i,x⟩:=p;simpa using ih
 unfold zeroCells at hz;cases hq:P.info? t with
 |none=>simp[hq]at hz
 |some it=>
  cases hzz:it.zero with
  |none=>simp[hq,hzz]at hz
  |some z=>
   have hz':z.cells=zs.toArray:=by simp[hq,hzz]at hz;rw[←hz]
   cases hqe:P.info? e with
   |none=>simp[hqe]at hs
   |some i=>
    have hs:i.size=m:=by simpa[hqe]using hs
    have hb:(Instr.build t (ps.toArray.map fun(i,x)=>(i,a.eval x))).run P w= .ok (.agg cells.toArray) w:=by
     unfold Instr.build;simp only[e'];simp[zeroValue,typeInfo,hq,hzz,run_underlying ht,sizeOf,hqe,hs,hz',hf]
    unfold execOp;simp only[ho];simp only[Sem.run_bind,hb,Result.andThen_ok];rfl
theorem J9{x:Operand}{t:Nat}{k:IntKind}{p c:Int}(ho:o.op= .unOp .neg t x)(hx:env.ev x=some (.int k p))(hw:k.wrap (0 - p)=c):bY P n env S o (.int k c):=fun a r w _=>by
 unfold execOp;simp only[Int.zero_sub]at hw;simp[ho,r.eval hx,Op.unary,Op.intArith,hw]
theorem nu{t e m g l c:Nat}{x ix:Operand}{k:IntKind}{p q:Int}(ho:o.op= .indexAddr t x ix)(hx:env.ev x=some (.slice (some ⟨g,0+p.toNat*m,none⟩) l c))(hi:env.ev ix=some (.int k q))(ht:ar P t=some (e,m))(hp:0≤p)(h0:0≤q)(h1:q<l):
  bY P n env S o (.pointer (some ⟨g,0+(p+q).toNat*m,none⟩)):=by
 have h:=eW (P:=P) (n:=n) (S:=S) ho hx hi ht h0 h1;rw[show 0+(p+q).toNat*m=0+p.toNat*m+q.toNat*m by rw[Int.toNat_add hp h0,Nat.add_mul];omega];exact h
end
end Go.Proofs.YtmpeiadlohbikaaGreatDoor
end

section
set_option linter.unusedVariables false
set_option linter.unusedSimpArgs false
namespace Go.Proofs.YtmpeiadlohbikaaGreatDoor
open Go.RowKit Go.MapKept
open Go.ChangeMaps (setBlock)
structure Gh where
 since:Nat
 c0:Nat
 seen:Array Nat
structure pT{α β:Type}(enc:α→Value)(ev:β→Value)(es:Array MapEntry)(clock:Nat)(m left cur:List (α×β))(gh:Gh):Prop where
 ok:ny enc ev es clock m
 old: ∀x∈es.toList,x.born<gh.since
 sc:gh.since≤gh.c0
 sk:gh.since≤clock
 cr: ∀p,cur= [p]→gh.c0=clock∧ ∃(e:MapEntry) (s:Array Nat),gh.seen=s.push e.born∧e∈es.toList∧e.key=enc p.1∧e.val=ev p.2
 lf:((leftOf es gh.seen).toList.map fun e=>(e.key,e.val)).Perm (left.map fun p=>(enc p.1,ev p.2))
theorem Hp.one1{w:World}{g:Nat}{o:Obj}(h:w.heap[g]? =some o):Hp w [(some g,o)]:=by
 refine⟨fun i g' o' hi=>?_,fun i j g' o1 o2 hi hj=>?_⟩
 ·cases i with
  |zero=>simp at hi;rw[←hi.1,←hi.2];exact h
  |succ i=>simp at hi
 ·cases i with
  |zero=>cases j with
   |zero=>rfl
   |succ j=>simp at hj
  |succ i=>simp at hi
theorem Fr.setB(w:World)(g:Nat)(o:Obj):Fr [g] w (setBlock w g o):=⟨rfl,rfl,rfl,by simp[Go.ChangeMaps.setBlock],fun k _ hk=>by
 show(w.heap.setIfInBounds g o)[k]? =_
 rw[Array.getElem?_setIfInBounds_ne (fun e=>hk (by simp[e]))],Nat.le_refl _⟩
theorem DC{w:World}{g:Nat}{o:Obj}(h:g<w.heap.size):(setBlock w g o).heap[g]? =some o:=by
 show(w.heap.setIfInBounds g o)[g]? =_
 rw[Array.getElem?_setIfInBounds_self_of_lt h]
theorem fb(es:Array MapEntry)(seen:Array Nat):(leftOf es seen).toList=es.toList.filter fun e=>!seen.contains e.born:=by unfold leftOf;rw[←Array.toList_filter]
theorem xJ{es:Array MapEntry}{seen:Array Nat}{e:MapEntry}{r r':List MapEntry}(hn:(es.toList.map (·.born)).Nodup)(h:(leftOf es seen).toList=r++e::r'):(leftOf es (seen.push e.born)).toList=r++r':=by
 have e1:(leftOf es (seen.push e.born)).toList=(leftOf es seen).toList.filter fun x=>!(x.born==e.born):=by
  rw[fb,fb,List.filter_filter];congr 1;funext x;rw[contains_push];cases seen.contains x.born<;>cases x.born==e.born<;>rfl
 have hn':((r++e::r').map (·.born)).Nodup:=by
  rw[←h,fb];exact List.Nodup.sublist ((List.filter_sublist).map _) hn
 rw[e1,h,List.filter_append,List.filter_cons];simp only[BEq.rfl,Bool.not_true,Bool.false_eq_true,if_false];rw[List.map_append,List.map_cons,List.nodup_append]at hn';obtain⟨h1,h2,h3⟩:=hn';rw[List.nodup_cons]at h2;congr 1
 ·refine List.filter_eq_self.2 fun x hx=>?_;have:=h3 x.born (List.mem_map_of_mem hx) e.born (by simp);simpa using this
 ·refine List.filter_eq_self.2 fun x hx=>?_;have:x.born≠e.born:=fun q=>h2.1 (by rw[←q];exact List.mem_map_of_mem hx);simpa using this
section
variable {α β:Type} {enc:α→Value} {ev:β→Value} {es:Array MapEntry} {clock:Nat} {m left cur:List (α×β)} {gh:Gh}
theorem pT.start(h:ny enc ev es clock m):pT enc ev es clock m m [] ⟨clock,clock, #[]⟩:=by
 refine⟨h,h.st.1,Nat.le_refl _,Nat.le_refl _,fun p e=>(by cases e),?_⟩;have e:(leftOf es #[]).toList=es.toList:=by rw[fb];exact List.filter_eq_self.2 fun x _=>by simp
 simp only[e,h.eq];exact List.Perm.refl _
theorem pT.next(h:pT enc ev es clock m left cur gh){e:MapEntry}(he:e∈(leftOf es gh.seen).toList): ∃r p r',left=r++p::r'∧e.key=enc p.1∧e.val=ev p.2∧pT enc ev es clock m (r++r') [p] ⟨gh.since,clock,gh.seen.push e.born⟩:=by
 obtain⟨a,b,hab⟩:=List.append_of_mem he;have h1:(e.key,e.val)∈left.map fun p=>(enc p.1,ev p.2):=h.lf.mem_iff.1 (List.mem_map.2 ⟨e,he,rfl⟩);obtain⟨p,hp,hpe⟩:=List.mem_map.1 h1;obtain⟨r,r',hr⟩:=List.append_of_mem hp;injection hpe with h2 h3;refine⟨r,p,r',hr,h2.symm,h3.symm,h.ok,h.old,h.sk,h.sk,fun q eq=>⟨rfl,e,gh.seen,rfl,(mem_left he).1,?_⟩,?_⟩
 ·injection eq with eq;subst eq;exact⟨h2.symm,h3.symm⟩
 simp only[xJ h.ok.st.2.1 hab];have h4:=h.lf;rw[hab,hr,List.map_append,List.map_cons,List.map_append,List.map_cons,←h2,←h3]at h4;have h5:=(List.perm_middle.symm.trans h4).trans List.perm_middle;rw[List.map_append,List.map_append];exact h5.cons_inv
theorem pT.stop(h:pT enc ev es clock m left cur gh)(h0:(leftOf es gh.seen).size=0):left= []:=by
 have e:(leftOf es gh.seen).toList= []:=by rw[Array.eq_empty_of_size_eq_zero h0]
 have:=h.lf.length_eq;rw[e]at this;simpa using this.symm
variable [DecidableEq α]
theorem nO: ∀(m:List (α×β)),(m.map (·.1)).Nodup→ ∀k,fV m k=m.filter fun p=>decide (p.1≠k)
 | [],_,_=>rfl
 |a::r,hn,k=>by
  rw[List.map_cons,List.nodup_cons]at hn;unfold fV;by_cases e:a.1=k
  ·rw[if_pos e,List.filter_cons,if_neg (by simpa using e)];refine(List.filter_eq_self.2 fun x hx=>?_).symm;have:x.1≠k:=fun q=>hn.1 (by rw[e,←q];exact List.mem_map_of_mem hx);simpa using this
  ·rw[if_neg e,List.filter_cons,if_pos (by simpa using e),nO r hn.2]
omit [DecidableEq α]in
theorem ns{γ δ:Type}(f:γ→δ): ∀(l:List γ) (j:Nat),(l.eraseIdx j).map f=(l.map f).eraseIdx j
 | [],_=>rfl
 |_::_,0=>rfl
 |a::r,j+1=>by rw[List.eraseIdx_cons_succ,List.map_cons,List.map_cons,List.eraseIdx_cons_succ,ns f r j]
theorem ny.del{P:Program}{kt:TypeId}(L:eV P kt enc)(h:ny enc ev es clock m){j:Nat}{e:MapEntry}{k:α}(h2:es.toList[j]? =some e)(h3:(m.map (·.1))[j]? =some k):ny enc ev (es.eraseIdxIfInBounds j) clock (fV m k):=by
 refine⟨stamped_erase h.st j,?_⟩;have hlt:j<es.size:=(List.getElem?_eq_some_iff.1 h2).1;rw[Ar m (h.nd L) h3];unfold Array.eraseIdxIfInBounds;rw[dif_pos hlt,Array.toList_eraseIdx];rw[ns,ns,h.eq]
theorem pT.nd{P:Program}{kt:TypeId}(L:eV P kt enc)(h:pT enc ev es clock m left cur gh):(left.map (·.1)).Nodup:=by
 have h1:((leftOf es gh.seen).toList.map (·.key)).Nodup:=by
  rw[fb];exact List.Nodup.sublist ((List.filter_sublist).map _) h.ok.st.2.2
 have h2:=(h.lf.map Prod.fst);rw[List.map_map,List.map_map]at h2;have h3:(left.map fun p=>enc p.1).Nodup:=(h2.nodup_iff).1 h1;have h4:((left.map (·.1)).map enc).Nodup:=by rw[List.map_map];exact h3
 exact List.Pairwise.of_map enc (fun a b hab e=>hab (by rw[e])) h4
omit [DecidableEq α]in
theorem mJ: ∀{l:List MapEntry} {j:Nat} {e:MapEntry},l[j]? =some e→(l.map (·.key)).Nodup→ ∀q:MapEntry→Bool,(∀x∈l,q x=true↔x.key≠e.key)→l.eraseIdx j=l.filter q
 | [],j,e,h,_,q,_=>by simp at h
 |a::r,0,e,h,hn,q,hq=>by
  simp at h;subst h;rw[List.map_cons,List.nodup_cons]at hn;have ha: ¬q a=true:=fun c=>(hq a (by simp)).1 c rfl;rw[List.filter_cons,if_neg ha,List.eraseIdx_cons_zero];refine(List.filter_eq_self.2 fun x hx=>(hq x (by simp[hx])).2 fun c=>hn.1 ?_).symm;rw[←c];exact List.mem_map_of_mem hx
 |a::r,j+1,e,h,hn,q,hq=>by
  simp only[List.getElem?_cons_succ]at h;rw[List.map_cons,List.nodup_cons]at hn;have ha:q a=true:=(hq a (by simp)).2 fun c=>hn.1 (by rw[c];exact List.mem_map_of_mem (List.mem_of_getElem? h));rw[List.filter_cons,if_pos ha,List.eraseIdx_cons_succ,mJ h hn.2 q fun x hx=>hq x (by simp[hx])]
theorem pT.del{P:Program}{kt:TypeId}(L:eV P kt enc)(h:pT enc ev es clock m left cur gh){j:Nat}{e:MapEntry}{k:α}(h2:es.toList[j]? =some e)(h3:(m.map (·.1))[j]? =some k):pT enc ev (es.eraseIdxIfInBounds j) clock (fV m k) (fV left k) [] gh:=by
 have hsub:(es.eraseIdxIfInBounds j).toList.Sublist es.toList:=by
  unfold Array.eraseIdxIfInBounds;split
  ·simp only[Array.toList_eraseIdx];exact List.eraseIdx_sublist _ _
  ·exact List.Sublist.refl _
 refine⟨h.ok.del L h2 h3,fun x hx=>h.old x (hsub.subset hx),h.sc,h.sk,fun p e=>(by cases e),?_⟩;have hlt:j<es.size:=(List.getElem?_eq_some_iff.1 h2).1;obtain⟨p,hp,hpk,hpv⟩:=h.ok.at (x:=k) h2;have hpx:p.1=k:=by rw[List.getElem?_map,hp]at h3;simpa using h3
 have hek:e.key=enc k:=by rw[hpk,hpx]
 have hkey: ∀x∈es.toList,∃a,x.key=enc a:=fun x hx=>by
  have:x.key∈(m.map (·.1)).map enc:=by rw[←h.ok.ks];exact List.mem_map_of_mem hx
  obtain⟨a,_,ha⟩:=List.mem_map.1 this;exact⟨a,ha.symm⟩
 let q:Value×Value→Bool:=fun v=> @decide (v.1≠enc k) (Classical.propDecidable _)
 have hq: ∀v,q v=true↔v.1≠enc k:=fun v=>by simp[q]
 have e1:(es.eraseIdxIfInBounds j).toList=es.toList.filter fun x=>q (x.key,x.val):=by
  unfold Array.eraseIdxIfInBounds;rw[dif_pos hlt,Array.toList_eraseIdx];exact mJ h2 h.ok.st.2.2 _ fun x hx=>by rw[hq,hek]
 have e2:(leftOf (es.eraseIdxIfInBounds j) gh.seen).toList.map (fun e=>(e.key,e.val))=((leftOf es gh.seen).toList.map fun e=>(e.key,e.val)).filter q:=by
  rw[fb,fb,e1,List.filter_map,List.filter_filter,List.filter_filter];congr 2;funext x;simp only[Function.comp];exact Bool.and_comm _ _
 have e3:(fV left k).map (fun p=>(enc p.1,ev p.2))=(left.map fun p=>(enc p.1,ev p.2)).filter q:=by
  rw[nO left (h.nd L) k,List.filter_map];congr 2;funext x;rw[Bool.eq_iff_iff];simp only[Function.comp,hq,decide_eq_true_eq];exact not_congr ⟨fun c=>by rw[c],fun c=>L.inj _ _ c⟩
 rw[e2,e3];exact h.lf.filter q
theorem pT.del0(h:pT enc ev es clock m left cur gh){k:α}(hk: ∀x∈m.map (·.1),x≠k){P:Program}{kt:TypeId}(L:eV P kt enc):fV left k=left:=by
 refine pD left fun x hx e=>?_;obtain⟨p,hp,hpx⟩:=List.mem_map.1 hx;have h1:(enc p.1,ev p.2)∈(leftOf es gh.seen).toList.map fun e=>(e.key,e.val):=h.lf.mem_iff.2 (List.mem_map.2 ⟨p,hp,rfl⟩);obtain⟨y,hy,hy2⟩:=List.mem_map.1 h1;injection hy2 with hy2 _;have hyes:=(mem_left hy).1;have:y.key∈(m.map (·.1)).map enc:=by rw[←h.ok.ks];exact List.mem_map_of_mem hyes
 obtain⟨a,ha,ha2⟩:=List.mem_map.1 this;have:a=p.1:=L.inj _ _ (ha2.trans hy2);exact hk a ha (by rw[this,hpx,e])
end
section
variable [bt] {P:Program} {n:Nat} {env:aG} {S:World→Prop} {o:Oper} {w:World} {H:bR} {K:aG→World→Prop} {α β:Type} {enc:α→Value} {ev:β→Value} {es:Array MapEntry} {ms left cur:List (α×β)} {gh:Gh}
theorem HY{t kt et g clock:Nat}{x:Operand}(ho:o.op= .call {callee:= .builtin .len,args:= #[x],argTypes:= #[t]})(hx:env.ev x=some (.map (some g)))(ht:P.underlying t=some (.map kt et))(h: ∀w,S w→w.heap[g]? =some (.map es clock))(hM:ny enc ev es clock ms):bY P n env S o (.int .i64 ms.length):=fun a r w hS=>
 dN ho (r.eval hx) fun cs=>by
  have h:(Builtin.len_ #[t] o.type #[.map (some g)]).run P w= .ok (goInt es.size) w:=by simp[Builtin.len_,run_underlying ht,MapKept.run_getObj_map (h w hS)]
  simp only[builtin,Sem.run_bind,h,Result.andThen_ok];rw[hM.len];rfl
theorem Ae{t kt et g d clock:Nat}{x:Operand}(ho:o.op= .range t x)(hd:o.dst=some d)(hn:Nat.blt d n=true)(hx:env.ev x=some (.map (some g)))(ht:P.underlying t=some (.map kt et))(hb:w.heap[g]? =some (.map es clock))(hM:ny enc ev es clock ms)
  (hK: ∀r w' gh,pT enc ev es clock ms ms [] gh→w'.heap[r]? =some (.mapIter (some g) gh.since gh.seen gh.c0)→Fr [] w w'→w.heap.size≤r→K ((d,.pointer (some ⟨r,0,none⟩))::env) w'):bH P n env w o K:=by
 refine eR hd hn (fun a r=>?_) (hK w.heap.size (w.alloc (.mapIter (some g) clock #[] clock)) ⟨clock,clock, #[]⟩ (pT.start hM) (MapKept.heap_alloc w _).1 (Fr.alloc w _) (Nat.le_refl _));unfold execOp;have:=run_range_map (P:=P) w t kt et g es clock ht hb;simp only[ho,r.eval hx,Sem.run_bind,this,Result.andThen_ok];rfl
theorem DD{r g d clock:Nat}{x:Operand}(ho:o.op= .next x false)(hd:o.dst=some d)(hn:Nat.blt d n=true)(hx:env.ev x=some (.pointer (some ⟨r,0,none⟩)))(hr:w.heap[r]? =some (.mapIter (some g) gh.since gh.seen gh.c0))(hb:w.heap[g]? =some (.map es clock))(hR:pT enc ev es clock ms left cur gh)
  (h0:left= []→K ((d,.tuple #[.bool false])::env) w)
  (h1: ∀a p b gh' w',left=a++p::b→pT enc ev es clock ms (a++b) [p] gh'→w'.heap[r]? =some (.mapIter (some g) gh'.since gh'.seen gh'.c0)→Fr [r] w w'→K ((d,.tuple #[.bool true,enc p.1,ev p.2])::env) w'):bH P n env w o K:=by
 rcases run_next_at (P:=P) w o.type r g gh.since gh.c0 gh.seen es clock hr hb hR.old hR.sc with⟨h2,hrun⟩|⟨e,he,w1,hal,hrun⟩
 ·refine eR hd hn (fun a q=>?_) (h0 (hR.stop h2));unfold execOp;simp only[ho,q.eval hx,Sem.run_bind,hrun,Result.andThen_ok];rfl
 ·obtain⟨a,p,b,e1,e2,e3,hR'⟩:=hR.next he;have hf1:Fr [] w w1:=by
   rcases hal with rfl|rfl
   ·exact Fr.refl _ _
   ·exact Fr.drew w
  have hlt:r<w1.heap.size:=Nat.lt_of_lt_of_le (Array.getElem?_eq_some_iff.1 hr).1 hf1.size;refine eR hd hn (fun a q=>?_) (h1 a p b _ (setBlock w1 r (.mapIter (some g) gh.since (gh.seen.push e.born) clock)) e1 hR' (DC hlt) ((hf1.mono (by simp)).step (Fr.setB w1 r _) (fun y hy=> .inl hy)));unfold execOp;simp only[ho,q.eval hx,Sem.run_bind,hrun,Result.andThen_ok,e2,e3];rfl
theorem Af{r g clock:Nat}{x:Operand}{p:α×β}(ho:o.op= .entry x)(hx:env.ev x=some (.pointer (some ⟨r,0,none⟩)))(hr: ∀w,S w→w.heap[r]? =some (.mapIter (some g) gh.since gh.seen gh.c0))(hb: ∀w,S w→w.heap[g]? =some (.map es clock))(hR:pT enc ev es clock ms left [p] gh):bY P n env S o (.tuple #[enc p.1,ev p.2]):=fun a q w hS=>by
 obtain⟨e1,e,s,e2,h1,h2,h3⟩:=hR.cr p rfl;have hr:=hr w hS;rw[e1,e2]at hr;have hrun:=run_entry_at (P:=P) w r g gh.since s es clock e hr (hb w hS) h1 hR.ok.st.2.1;unfold execOp;simp only[ho,q.eval hx,Sem.run_bind,hrun,Result.andThen_ok,h2,h3];rfl
variable [DecidableEq α]
theorem qF{t t' kt et g clock:Nat}{m kx:Operand}{k:α}(ho:o.op= .call {callee:= .builtin .delete,args:= #[m,kx],argTypes:= #[t,t']})(hd:o.dst=none)
  (hm:env.ev m=some (.map (some g))) (hkx:env.ev kx=some (enc k)) (ht:P.underlying t=some (.map kt et)) (L:eV P kt enc)
  (hb:w.heap[g]? =some (.map es clock)) (hM:ny enc ev es clock ms)
  (hK: ∀es' w',ny enc ev es' clock (fV ms k)→(∀left cur gh,pT enc ev es clock ms left cur gh→pT enc ev es' clock (fV ms k) (fV left k) [] gh)→w'.heap[g]? =some (.map es' clock)→Fr [g] w w'→K env w'):bH P n env w o K:=by
 rcases L.fnd k (ms.map (·.1)) es.toList hM.ks w with⟨h1,h2⟩|⟨j,e,h1,h2,h3⟩
 ·refine rV hd (v:= .tuple #[]) (w':={w with heap:=w.heap.setIfInBounds g (.map es clock)}) (fun a r=>?_)
   (hK es _ (by rw[pD ms h2];exact hM) (fun left cur gh hR=>by rw[pD ms h2,hR.del0 h2 L];exact⟨hR.ok,hR.old,hR.sc,hR.sk,fun p e=>(by cases e),hR.lf⟩) (MapKept.heap_set hb).1 (Fr.setObj hb))
  unfold execOp;simp[ho,resolve,invoke,builtin,Builtin.delete_,r.eval hm,r.eval hkx,run_underlying ht,MapKept.run_getObj_map hb,L.chk,h1,MapKept.run_setObj_map _ hb]
 ·refine rV hd (v:= .tuple #[]) (w':={w with heap:=w.heap.setIfInBounds g (.map (es.eraseIdxIfInBounds j) clock)}) (fun a r=>?_)
   (hK _ _ (hM.del L h2 h3) (fun left cur gh hR=>hR.del L h2 h3) (MapKept.heap_set hb).1 (Fr.setObj hb))
  unfold execOp;simp[ho,resolve,invoke,builtin,Builtin.delete_,r.eval hm,r.eval hkx,run_underlying ht,MapKept.run_getObj_map hb,L.chk,h1,MapKept.run_setObj_map _ hb]
end
end Go.Proofs.YtmpeiadlohbikaaGreatDoor
end

section
set_option linter.unusedVariables false
namespace Go.Proofs.YtmpeiadlohbikaaGreatDoor.V
open Go.RowKit
inductive aZ where
 |int (k:IntKind)|bool|str|st (i:Nat)|arr (n:Nat) (e:aZ)|sl (e:aZ)
def dR:aZ→Bool
 | .st _| .arr _ _=>true
 |_=>false
def TT(ty:Nat→Type):aZ→Type
 | .int _=>Int| .bool=>Bool| .str=>List UInt8| .st i=>ty i| .arr _ e=>List (TT ty e)| .sl e=>List (TT ty e)
def uf(ty:Nat→Type):List (Nat×aZ)→Type
 | []=>Unit
 |x::r=>TT ty x.2×uf ty r
structure RD(ty:Nat→Type)(S:Type) where
 sz:Nat
 fs:List (Nat×aZ)
 to:S→uf ty fs
 toK:S→(uf ty fs→Prop)→Prop
 ofK:uf ty fs→(S→Prop)→Prop
 ixK:List S→Int→(S→Prop)→Prop
 eqK:S→S→(Bool→Prop)→Prop
 sz_ok:(fs.map (·.1)).sum=sz
 toK_ok: ∀x K,toK x K→K (to x)
 ofK_ok: ∀a K,ofK a K→ ∃x,K x∧to x=a
 ixK_ok: ∀l q K,ixK l q K→ ∃x,K x∧ ∀y,l[q.toNat]? =some y→x=y
 eqK_ok: ∀a b K,eqK a b K→ ∃t:Bool,K t∧(t=true↔a=b)
structure bG where
 ty:Nat→Type
 rd:(i:Nat)→RD ty (ty i)
inductive Cx(U:bG) where
 |d (s:aZ) (t:TT U.ty s)
 |own (i v:Nat)
 |ptr (i off:Nat)
 |pel (i v:Nat) (q:Int) (off:Nat)
 |pax (i off n:Nat) (e:aZ) (q:Int) (o:Nat)-- into an array's element
 |pd (s:aZ) (t:TT U.ty s)
 |nilp|nils|nilf|nilm
 |fn (f:FuncId)
 |clo (f:FuncId) (js:List Nat)-- a closure over variables of our own
 |f1 (a:aZ) (g:TT U.ty a→Bool)-- a function value that computes g
 |f2 (a b:aZ) (g:TT U.ty a→TT U.ty b→Int)
 |mp (i:Nat)
 |un
abbrev bU(U:bG):=Nat×Cx U
structure Va(U:bG) where
 ag:Bool
 l:List (bU U)
inductive AV(U:bG) where
 |v (x:Va U)
 |tup (l:List (Va U))
 |pan (z:Int)
 |gd (p:List (Nat×Bool)) (x:Va U)
 |un
structure KD(U:bG) where
 kt:TypeId
 vt:TypeId
 k:aZ
 v:aZ
 dec:DecidableEq (TT U.ty k)
 enc:TT U.ty k→Value
 zero:TT U.ty v
inductive aJ(U:bG) where
 |cells (l:List (bU U)) (t:TypeId)
 |row (v:Nat) (e:aZ) (xs:List (TT U.ty e)) (t:TypeId)
 |frz (v:Nat) (e:aZ) (xs:List (TT U.ty e))
 |clo (f:FuncId) (l:List (bU U))
 |map (d:KD U) (l:List (TT U.ty d.k×TT U.ty d.v))
 |mapr (d:KD U) (l left cur:List (TT U.ty d.k×TT U.ty d.v)) (gh:Gh)-- a loop goes over it
 |it (i:Nat) (gh:Gh)-- an iterator
 |hid (v l m:Nat)-- a row of which only the header is known
 |dead
abbrev En(U:bG):=List (Nat×AV U)
abbrev Hs(U:bG):=List (Nat×aJ U)
def aD{α:Type}:List (Nat×α)→Nat→Option α
 | [],_=>none
 |(j,v)::r,k=>bif Nat.beq j k then some v else aD r k
def dn{α:Type}:List α→Nat→Option α
 | [],_=>none
 |a::_,0=>some a
 |_::r,n+1=>dn r n
inductive Kd where
 |int (k:IntKind)|bool|str|sl (e:Nat)|ptr (e:Nat)|st|arr (n e:Nat)|mp (k v:Nat)|fn|ifc
def ug:Kd→Bool
 | .st| .arr _ _=>true
 |_=>false
structure TI(U:bG) where
 sz:Nat
 kd:Kd
 by_:Nat
 fs:List (Nat×Nat)-- fields:where they begin,their types
 sh:Option aZ
 cmp:Bool -- a record's type whose values are compared
 zero:List (bU U)
 mp:Option (KD U):=none -- a map's type
abbrev cM(U:bG):=List (Nat×TI U)
def nB:(ty:Nat→Type)→(F:Type→Type)→(i j:Nat)→F (ty i)→Option (F (ty j))
 |_,_,0,0,t=>some t
 |ty,F,i+1,j+1,t=>nB (fun n=>ty (n+1)) F i j t
 |_,_,_,_,_=>none
def jJ:IntKind→IntKind→Bool
 | .i8,.i8| .i16,.i16| .i32,.i32| .i64,.i64| .u8,.u8| .u16,.u16| .u32,.u32| .u64,.u64=>true
 |_,_=>false
def ew(ty:Nat→Type):(F:Type→Type)→(s s':aZ)→F (TT ty s)→Option (F (TT ty s'))
 |_,.int k,.int k',t=>bif jJ k k' then some t else none
 |_,.bool,.bool,t=>some t
 |_,.str,.str,t=>some t
 |F,.st i,.st j,t=>nB ty F i j t
 |F,.arr n e,.arr m e',t=>bif Nat.beq n m then ew ty (fun x=>F (List x)) e e' t else none
 |F,.sl e,.sl e',t=>ew ty (fun x=>F (List x)) e e' t
 |_,_,_,_=>none
section
variable {U:bG}
def Gc:(fs:List (Nat×aZ))→uf U.ty fs→(List (bU U)→Prop)→Prop
 | [],_,K=>K []
 |(k,s)::r,(a,b),K=>Gc r b fun l=>K ((k,.d s a)::l)
def aM(U:bG):aZ→Nat
 | .st i=>(U.rd i).sz
 | .arr n e=>n*aM U e
 |_=>1
def xX(U:bG)(s:aZ):(l:List (TT U.ty s))→Int→(TT U.ty s→Prop)→Prop:=match s with
 | .int _=>fun l q K=>K (ix (α:=Int) l q)
 | .bool=>fun l q K=>K (ix (α:=Bool) l q)
 | .str=>fun l q K=>K (ix (α:=List UInt8) l q)
 | .st i=>fun l q K=>(U.rd i).ixK l q K
 | .arr _ e=>fun l q K=>K (ix (α:=List (TT U.ty e)) l q)
 | .sl e=>fun l q K=>K (ix (α:=List (TT U.ty e)) l q)
def Jf(e:aZ)(m:Nat)(xs:List (TT U.ty e))(n:Nat):Nat→(List (bU U)→Prop)→Prop:=
 Nat.rec (motive:=fun _=>Nat→(List (bU U)→Prop)→Prop) (fun _ K=>K []) (fun _ ih j K=>xX U e xs (j:Int) fun x=>ih (j+1) fun l=>K ((m,.d e x)::l)) n
def lP(x:Cx U)(K:List (bU U)→Prop):Prop:=match x with
 | .d (.st i) t=>(U.rd i).toK t fun a=>Gc (U.rd i).fs a K
 | .d (.arr n e) xs=>Jf e (aM U e) xs n 0 K
 |_=>False
def qS(l l':List (bU U))(K:List (bU U)→Prop):Prop:=
 List.rec (motive:=fun _=>(List (bU U)→Prop)→Prop) (fun K=>K l') (fun x _ ih K=>ih fun r=>K (x::r)) l K
def gE:Nat→List (bU U)→Nat→(List (bU U)→Prop)→Prop:=
 Nat.rec (motive:=fun _=>List (bU U)→Nat→(List (bU U)→Prop)→Prop) (fun _ _ _=>False) fun _ ih l k K=>match k with
  |0=>K l
  |k+1=>match l with
   | []=>False
   |(m,x)::r=>bif Nat.ble m (k+1)then ih r (k+1 - m) K else lP x fun l'=>qS l' r fun l''=>ih l'' (k+1) K
def tK:Nat→List (bU U)→Nat→(List (bU U)→Prop)→Prop:=
 Nat.rec (motive:=fun _=>List (bU U)→Nat→(List (bU U)→Prop)→Prop) (fun _ _ _=>False) fun _ ih l k K=>match k with
  |0=>K []
  |k+1=>match l with
   | []=>False
   |(m,x)::r=>bif Nat.ble m (k+1)then ih r (k+1 - m) fun r'=>K ((m,x)::r')else lP x fun l'=>ih l' (k+1) K
def qT:Nat→List (bU U)→Nat→Nat→List (bU U)→(List (bU U)→Prop)→Prop:=
 Nat.rec (motive:=fun _=>List (bU U)→Nat→Nat→List (bU U)→(List (bU U)→Prop)→Prop) (fun _ _ _ _ _=>False) fun _ ih l off k new K=>match off with
  |0=>gE 40 l k fun r=>qS new r K
  |off+1=>match l with
   | []=>False
   |(m,x)::r=>bif Nat.ble m (off+1)then ih r (off+1 - m) k new fun r'=>K ((m,x)::r')else lP x fun l'=>qS l' r fun l''=>ih l'' (off+1) k new K
def lQ(l:List (bU U))(off k:Nat)(K:List (bU U)→Prop):Prop:=gE 40 l off fun r=>tK 40 r k K
def d1(s:aZ)(l:List (bU U))(K:TT U.ty s→Prop):Prop:=match l with
 |(_,.d s' t):: []=>(match ew U.ty (fun x=>x) s' s t with|some u=>K u|none=>False)
 |_=>False
def vC(h:(s:aZ)→List (bU U)→(TT U.ty s→Prop)→Prop):(fs:List (Nat×aZ))→List (bU U)→(uf U.ty fs→Prop)→Prop
 | [],_,K=>K ()
 |(k,s)::r,l,K=>tK 40 l k fun l1=>h s l1 fun a=>gE 40 l k fun l2=>vC h r l2 fun b=>K (a,b)
def vD{α:Type}(h:List (bU U)→(α→Prop)→Prop)(m:Nat)(n:Nat):List (bU U)→(List α→Prop)→Prop:=
 Nat.rec (motive:=fun _=>List (bU U)→(List α→Prop)→Prop) (fun _ K=>K []) (fun _ ih l K=>tK 40 l m fun l1=>h l1 fun a=>gE 40 l m fun l2=>ih l2 fun b=>K (a::b)) n
def jK:List (bU U)→Nat
 | []=>0
 |(k,_)::r=>k+jK r
def cl:Nat→(s:aZ)→List (bU U)→(TT U.ty s→Prop)→Prop:=
 Nat.rec (motive:=fun _=>(s:aZ)→List (bU U)→(TT U.ty s→Prop)→Prop) (fun _ _ _=>False) fun _ ih s=>match s with
  | .st i=>fun l K=>match l with
   |(_,.d (.st j) t):: []=>d1 (.st i) l K
   |_=>bif Nat.beq (jK l) (U.rd i).sz then vC ih (U.rd i).fs l fun a=>(U.rd i).ofK a K else False
  | .sl e=>fun l K=>match l with
   |(_,.nils):: []=>K ([]:List (TT U.ty e))
   |_=>d1 (.sl e) l K
  | .arr n e=>fun l K=>match l with
   |(_,.d (.arr _ _) _):: []=>d1 (.arr n e) l K
   |_=>bif Nat.beq (jK l) (n*aM U e)then vD (ih e) (aM U e) n l K else False
  |s=>fun l K=>d1 s l K
def BP(k:IntKind)(p:Int):Bool:=match k,p with
 | .i8,.ofNat n=>Nat.ble n 127| .i8,.negSucc n=>Nat.ble n 127
 | .i16,.ofNat n=>Nat.ble n 32767| .i16,.negSucc n=>Nat.ble n 32767
 | .i32,.ofNat n=>Nat.ble n 2147483647| .i32,.negSucc n=>Nat.ble n 2147483647
 | .i64,.ofNat n=>Nat.ble n 9223372036854775807| .i64,.negSucc n=>Nat.ble n 9223372036854775807
 | .u8,.ofNat n=>Nat.ble n 255
 | .u16,.ofNat n=>Nat.ble n 65535
 | .u32,.ofNat n=>Nat.ble n 4294967295
 | .u64,.ofNat n=>Nat.ble n 18446744073709551615
 |_,_=>false
def ul(v:Value)(K:Va U→Prop):Prop:=match v with
 | .int k p=>bif BP k p then K ⟨false,[(1,.d (.int k) p)]⟩else False
 | .bool b=>K ⟨false,[(1,.d .bool b)]⟩
 | .string ⟨⟨l⟩⟩=>bif Nat.ble l.length 9223372036854775807 then K ⟨false,[(1,.d .str l)]⟩else False
 | .slice none 0 0=>K ⟨false,[(1,.nils)]⟩
 | .pointer none=>K ⟨false,[(1,.nilp)]⟩
 | .nilFunc=>K ⟨false,[(1,.nilf)]⟩
 | .map none=>K ⟨false,[(1,.nilm)]⟩
 |_=>False
abbrev cK:=List (Nat×Bool)
def eX:cK→cK→Bool
 | [],[]=>true
 |(s,true)::p,(t,true)::q=>bif Nat.beq s t then eX p q else false
 |(s,false)::p,(t,false)::q=>bif Nat.beq s t then eX p q else false
 |_,_=>false
def hZ(q:cK):cK→Bool
 | []=>eX q []
 |x::p=>eX q (x::p)||hZ q p
def kT(p:cK)(R e:En U)(o:Operand)(K:Va U→Prop):Prop:=match o with
 | .tmp t=>(match aD R t with
  |some (.gd q x)=>bif hZ q p then K x else False
  |some _=>False
  |none=>(match aD e t with
   |some (.v x)=>K x
   |_=>False))
 | .const v=>ul v K
 | .func f=>K ⟨false,[(1,.fn f)]⟩
 | .global _=>False
def pW(p:cK)(R e:En U)(l:List Operand):(List (Va U)→Prop)→Prop:=
 List.rec (motive:=fun _=>(List (Va U)→Prop)→Prop) (fun K=>K []) (fun x _ ih K=>kT p R e x fun v=>ih fun r=>K (v::r)) l
def vE(R e:En U)(s:Nat)(K:Bool→Prop)(N:Prop):Prop:=match aD R s with
 |some (.gd _ ⟨false,(_,.d .bool c):: []⟩)=>K c
 |some _=>N
 |none=>(match aD e s with
  |some (.v ⟨false,(_,.d .bool c):: []⟩)=>K c
  |_=>N)
def qd(R e:En U)(p:cK)(A:Prop):Prop:=
 List.rec (motive:=fun _=>Prop) A (fun x _ ih=>vE R e x.1 (fun c=>c=x.2→ih) False) p
def dq:IntKind→Int→Prop
 | .i8,p=> -128≤p∧p≤127
 | .i16,p=> -32768≤p∧p≤32767
 | .i32,p=> -2147483648≤p∧p≤2147483647
 | .i64,p=> -9223372036854775808≤p∧p≤9223372036854775807
 | .u8,p=>0≤p∧p≤255
 | .u16,p=>0≤p∧p≤65535
 | .u32,p=>0≤p∧p≤4294967295
 | .u64,p=>0≤p∧p≤18446744073709551615
def MU(k:IntKind)(r:Int)(K:Int→Prop):Prop:=match k with
 | .u8=>K (r%256)| .u16=>K (r%65536)| .u32=>K (r%4294967296)| .u64=>K (r%18446744073709551616)
 |k=>K (k.wrap r)
def xY(b:Bool)(A B:Prop):Prop:=(b=true→A)∧(b=false→B)
def VS(P A:Prop):Prop:=P∧A
def Q3(A B:Prop):Prop:=A∨B
def Mw(P:Prop)(A B:Prop):Prop:=P∧A∨B
def ES(g:Prop→Prop)(k:IntKind)(p q r:Int)(K:Int→Prop):Prop:=Mw (g (dq k p→dq k q→dq k r)) (K r) (MU k r K)
def c1(x:Cx U):Va U:=⟨false,[(1,x)]⟩
def Gd:BinOp→Bool
 | .shl| .shr=>true
 |_=>false
def Ge(g:Prop→Prop)(op:BinOp)(k:IntKind)(p:Int)(k':IntKind)(q:Int)(K:Va U→Prop):Prop:=bif jJ k k'||Gd op then(match op with
 | .add=>ES g k p q (p+q) fun r=>K ⟨false,[(1,.d (.int k) r)]⟩
 | .sub=>ES g k p q (p - q) fun r=>K ⟨false,[(1,.d (.int k) r)]⟩
 | .mul=>ES g k p q (p*q) fun r=>K ⟨false,[(1,.d (.int k) r)]⟩
 | .quo=>VS (g (dq k p→dq k q→0≤p∧0<q)) (K ⟨false,[(1,.d (.int k) (p/q))]⟩)
 | .rem=>VS (g (dq k p→dq k q→0≤p∧0<q)) (K ⟨false,[(1,.d (.int k) (p%q))]⟩)
 | .shl=>VS (g (dq k' q→0≤q)) (ES g k p p (p*2^(min q.toNat k.bits)) fun r=>K ⟨false,[(1,.d (.int k) r)]⟩)
 | .shr=>VS (g (dq k' q→0≤q)) (K ⟨false,[(1,.d (.int k) (p/2^(min q.toNat k.bits)))]⟩)
 | .eql=>K ⟨false,[(1,.d .bool (decide (p=q)))]⟩
 | .neq=>K ⟨false,[(1,.d .bool (decide (¬p=q)))]⟩
 | .lss=>K ⟨false,[(1,.d .bool (decide (p<q)))]⟩
 | .leq=>K ⟨false,[(1,.d .bool (decide (p≤q)))]⟩
 | .gtr=>K ⟨false,[(1,.d .bool (decide (q<p)))]⟩
 | .geq=>K ⟨false,[(1,.d .bool (decide (q≤p)))]⟩
 | .and=>K ⟨false,[(1,.d (.int k) (bits .and k p q))]⟩
 | .or=>K ⟨false,[(1,.d (.int k) (bits .or k p q))]⟩
 | .xor=>K ⟨false,[(1,.d (.int k) (bits .xor k p q))]⟩
 | .andNot=>K ⟨false,[(1,.d (.int k) (bits .andNot k p q))]⟩)else False
def Gf(g:Prop→Prop)(op:BinOp)(p q:List UInt8)(K:Va U→Prop):Prop:=match op with
 | .add=>VS (g (p.length+q.length≤9223372036854775807)) (K ⟨false,[(1,.d .str (p++q))]⟩)
 | .eql=>K ⟨false,[(1,.d .bool (decide (p=q)))]⟩
 | .neq=>K ⟨false,[(1,.d .bool (decide (¬p=q)))]⟩
 | .lss=>K ⟨false,[(1,.d .bool (decide (p<q)))]⟩
 | .leq=>K ⟨false,[(1,.d .bool (decide (p≤q)))]⟩
 | .gtr=>K ⟨false,[(1,.d .bool (decide (q<p)))]⟩
 | .geq=>K ⟨false,[(1,.d .bool (decide (q≤p)))]⟩
 |_=>False
def Gg(op:BinOp)(p q:Bool)(K:Va U→Prop):Prop:=match op with
 | .eql=>K ⟨false,[(1,.d .bool (decide (p=q)))]⟩
 | .neq=>K ⟨false,[(1,.d .bool (decide (¬p=q)))]⟩
 |_=>False
end
end Go.Proofs.YtmpeiadlohbikaaGreatDoor.V
end

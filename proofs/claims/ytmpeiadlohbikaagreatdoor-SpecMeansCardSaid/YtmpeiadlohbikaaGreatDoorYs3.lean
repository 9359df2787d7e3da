/- Maps: lengths, deletion, ranges over a map. -/
import Derived.Test.YtmpeiadlohbikaaGreatDoorYs2
import Derived.Maps.RangeRun
section
set_option linter.unusedVariables false
set_option linter.unusedSimpArgs false
namespace Go.Proofs.YtmpeiadlohbikaaGreatDoor
open Go.RowKit Go.MapKept
def bj{α β:Type} [DecidableEq α](m:List (α×β))(k:α):Option β:=(m.find? (fun e=>decide (e.1=k))).map (·.2)
def cA{α β:Type} [DecidableEq α]:List (α×β)→α→β→List (α×β)
 | [],k,v=> [(k,v)]
 |e::r,k,v=>if e.1=k then(k,v)::r else e::cA r k v
def gN{α β:Type} [DecidableEq α]:List (α×β)→α→List (α×β)
 | [],_=> []
 |e::r,k=>if e.1=k then r else e::gN r k
structure fI{α:Type} [DecidableEq α](P:Program)(kt:TypeId)(enc:α→Value):Prop where
 inj: ∀x y,enc x=enc y→x=y
 chk: ∀em x w,(Instr.checkKey em 10000 kt (enc x)).run P w= .ok () w
 fnd: ∀(x:α) (ks:List α) (es:List MapEntry),es.map (·.key)=ks.map enc→ ∀w,((Instr.findKey kt (enc x) es).run P w= .ok none w∧ ∀k∈ks,k≠x)∨ ∃(j:Nat) (e:MapEntry),(Instr.findKey kt (enc x) es).run P w= .ok (some (j,e.val)) w∧es[j]? =some e∧ks[j]? =some x
 stay: ∀x w,(Instr.keyThatStays (enc x) (enc x)).run P w= .ok (enc x) w
theorem fI.plain{α:Type} [DecidableEq α]{P:Program}{kt:TypeId}{enc:α→Value}{d:TypeDesc}(hu:P.underlying kt=some d)(hk: ∀x,IsKey d (enc x))(inj: ∀x y,enc x=enc y→x=y):fI P kt enc:=
 ⟨inj,fun em x w=>run_checkKey hu (hk x) em 9999,fun x ks es he w=>by
  have hks: ∀e∈es,IsKey d e.key:=fun e hx=>by
   have:e.key∈ks.map enc:=by rw[←he];exact List.mem_map_of_mem hx
   obtain⟨y,_,hy⟩:=List.mem_map.1 this;rw[←hy];exact hk y
  rcases findNow_spec (hk x) es 0 hks with⟨h1,h2⟩|⟨j,e,h1,h2,h3⟩
  ·refine .inl ⟨run_findKey hu h1,fun k hk' e=>?_⟩;subst e;have:enc k∈es.map (·.key):=by rw[he];exact List.mem_map_of_mem hk'
   obtain⟨y,hy,e2⟩:=List.mem_map.1 this;exact h2 y hy e2
  ·refine .inr ⟨j,e,?_,h2,?_⟩
   ·have:=run_findKey (P:=P) (w:=w) hu h1;rw[Nat.zero_add]at this;exact this
   ·have h4:(es.map (·.key))[j]? =some (enc x):=by rw[List.getElem?_map,h2];simp[h3]
    rw[he,List.getElem?_map]at h4;cases hj:ks[j]? with
    |none=>rw[hj]at h4;cases h4
    |some y=>rw[hj]at h4;simp at h4;rw[inj _ _ h4],fun x w=>run_keyThatStays (hk x)⟩
theorem fI.int{P:Program}{kt:TypeId}{k:IntKind}(hu:P.underlying kt=some (.int k)):fI P kt (fun x:Int=> .int k x):=fI.plain hu (fun _=>rfl) (by intro x y h;injection h)
theorem fI.str{P:Program}{kt:TypeId}(hu:P.underlying kt=some .string):fI P kt (fun x:List UInt8=>sv x):=fI.plain hu (fun _=>trivial) (by intro x y h;injection h with h;injection h with h;simpa using h)
theorem fI.bool{P:Program}{kt:TypeId}(hu:P.underlying kt=some .bool):fI P kt (fun x:Bool=> .bool x):=fI.plain hu (fun _=>trivial) (by intro x y h;injection h)
def ug:Value→Bool
 | .int _ _| .bool _| .string _=>true
 |_=>false
theorem DW{v:Value}(h:ug v=true)(n:Nat):Instr.sameBits n v v=true:=by
 cases v<;>simp[ug]at h<;>cases n<;>simp[Instr.sameBits,bytes_beq]
theorem A3(n:Nat)(cs:List Value)(h: ∀v∈cs,ug v=true):Instr.sameBits (n+1) (.agg cs.toArray) (.agg cs.toArray)=true:=by
 unfold Instr.sameBits;simp only[BEq.rfl,Bool.true_and,List.all_eq_true];intro p hp;have:p.1=p.2∧p.1∈cs:=by
  clear h;revert hp;induction cs with
  |nil=>intro hp;simp at hp
  |cons a r ih=>
   intro hp;simp only[List.zip_cons_cons,List.mem_cons]at hp;rcases hp with rfl|hp
   ·simp
   ·obtain⟨h1,h2⟩:=ih hp;exact⟨h1,by simp[h2]⟩
 obtain⟨h1,h2⟩:=this;rw[←h1];exact DW (h _ h2) n
theorem uh{d:TypeDesc}{cs:Array Value}(hd: ∀v,Instr.sameNow d (.agg cs) v=none): ∀(es:List MapEntry) (i:Nat),Instr.findNow d (.agg cs) es i=if es= []then some none else none
 | [],_=>rfl
 |e::r,i=>by simp[Instr.findNow,hd]
theorem fI.agg{α:Type} [DecidableEq α]{P:Program}{kt:TypeId}{enc:α→List Value}{kd:TypeDesc}(hu:P.underlying kt=some kd)(hkd: ∀cs v,Instr.sameNow kd (.agg cs) v=none)(hv:bJ P kt≠none)(heq: ∀x y,bg P 8 kt (enc x) (enc y)=some (decide (x=y)))
  (hchk: ∀em x w,(Instr.checkKey em 10000 kt (.agg (enc x).toArray)).run P w= .ok () w) (hfl: ∀x,∀v∈enc x,ug v=true):fI P kt (fun x=> .agg (enc x).toArray):=by
 have inj: ∀x y,enc x=enc y→x=y:=fun x y e=>by
  have h1:=heq x y;have h2:=heq x x;rw[←e,h2]at h1;simpa using h1
 have hval: ∀cs:List Value,jP P kt cs (.agg cs.toArray):=fun cs=>by
  unfold jP;unfold bJ at hv;cases hu:P.underlying kt with
  |none=>simp[hu]at hv
  |some d=>cases d<;>first|rfl|(simp[hu]at hv;done)
 have hask: ∀(x:α) (ks:List α) (es:List MapEntry) (i:Nat),es.map (·.key)=ks.map (fun x=>Value.agg (enc x).toArray)→ ∀w,((Instr.findAsking kt (.agg (enc x).toArray) es i).run P w= .ok none w∧ ∀k∈ks,k≠x)∨ ∃(j:Nat) (e:MapEntry),(Instr.findAsking kt (.agg (enc x).toArray) es i).run P w= .ok (some (i+j,e.val)) w∧es[j]? =some e∧ks[j]? =some x:=by
  intro x ks es;induction es generalizing ks with
  |nil=>intro i he w;cases ks with
   |nil=>exact .inl ⟨rfl,by simp⟩
   |cons a r=>simp at he
  |cons e es ih=>
   intro i he w;cases ks with
   |nil=>simp at he
   |cons a r=>
    simp only[List.map_cons,List.cons.injEq]at he;have hrun:(Op.equal kt (.agg (enc x).toArray) e.key).run P w= .ok (decide (x=a)) w:=by
     rw[he.1];have h:=ip 8 kt (enc x) (enc a) _ (heq x a) _ _ (hval _) (hval _) 9992 w;simp only[Op.equal,Op.maxDepth,h]
    unfold Instr.findAsking;simp only[Sem.run_bind,hrun,Result.andThen_ok];by_cases ex:x=a
    ·subst ex;refine .inr ⟨0,e,by simp,rfl,rfl⟩
    ·simp only[ex,decide_false,Bool.false_eq_true,if_false];rcases ih r (i+1) he.2 w with⟨h1,h2⟩|⟨j,e',h1,h2,h3⟩
     ·exact .inl ⟨h1,fun k hk=>by
       rcases List.mem_cons.1 hk with rfl|hk
       ·exact fun q=>ex q.symm
       ·exact h2 k hk⟩
     ·exact .inr ⟨j+1,e',by rw[h1,show i+1+j=i+(j+1)by omega],by simpa using h2,by simpa using h3⟩
 refine⟨fun x y e=>inj x y (by simpa using e),hchk,fun x ks es he w=>?_,fun x w=>?_⟩
 ·have hs: ∀v,Instr.sameNow kd (.agg (enc x).toArray) v=none:=hkd _;have hn:=uh hs es 0;by_cases e0:es= []
  ·subst e0;have:ks= []:=by cases ks<;>simp at he;rfl
   subst this;exact .inl ⟨run_findKey hu rfl,by simp⟩
  ·rw[if_neg e0]at hn;have hfk:(Instr.findKey kt (.agg (enc x).toArray) es).run P w=(Instr.findAsking kt (.agg (enc x).toArray) es 0).run P w:=by
    simp[Instr.findKey,run_underlying hu,Result.andThen,hn]
   rw[hfk];have:=hask x ks es 0 he w;simpa using this
 ·have:=A3 9999 (enc x) (hfl x);simp only[Instr.keyThatStays,this,if_true];rfl
structure nB{α β:Type}(enc:α→Value)(ev:β→Value)(es:Array MapEntry)(clock:Nat)(m:List (α×β)):Prop where
 st:Stamped es clock
 eq:es.toList.map (fun e=>(e.key,e.val))=m.map (fun p=>(enc p.1,ev p.2))
section
variable {α β:Type} {enc:α→Value} {ev:β→Value} {es:Array MapEntry} {clock:Nat} {m:List (α×β)}
theorem nB.empty:nB enc ev #[] 0 ([]:List (α×β)):=⟨stamped_empty 0,rfl⟩
theorem nB.ks(h:nB enc ev es clock m):es.toList.map (·.key)=(m.map (·.1)).map enc:=by
 have:=congrArg (List.map Prod.fst) h.eq;simpa[List.map_map,Function.comp_def]using this
theorem nB.len(h:nB enc ev es clock m):es.size=m.length:=by
 have:=congrArg List.length h.eq;simpa using this
theorem nB.at{j:Nat}{e:MapEntry}{x:α}(h:nB enc ev es clock m)(h1:es.toList[j]? =some e): ∃p,m[j]? =some p∧e.key=enc p.1∧e.val=ev p.2:=by
 have h2:=congrArg (fun l=>l[j]?) h.eq;simp only[List.getElem?_map,h1,Option.map_some]at h2;cases hm:m[j]? with
 |none=>rw[hm]at h2;cases h2
 |some p=>rw[hm]at h2;simp at h2;exact⟨p,rfl,h2.1,h2.2⟩
variable [DecidableEq α]
theorem nB.nd{P:Program}{kt:TypeId}(L:fI P kt enc)(h:nB enc ev es clock m):(m.map (·.1)).Nodup:=by
 have h1:=h.st.2.2;rw[h.ks]at h1;exact List.Pairwise.of_map enc (fun a b hab e=>hab (by rw[e])) h1
theorem yf(m:List (α×β)){x:α}(h: ∀k∈m.map (·.1),k≠x):bj m x=none:=by
 unfold bj;rw[List.find?_eq_none.2 fun e he=>by simpa using h e.1 (List.mem_map_of_mem he)];rfl
theorem xl(m:List (α×β))(nd:(m.map (·.1)).Nodup){j:Nat}{p:α×β}(h:m[j]? =some p):bj m p.1=some p.2:=by
 induction m generalizing j with
 |nil=>simp at h
 |cons a r ih=>
  simp only[List.map_cons,List.nodup_cons]at nd;unfold bj;cases j with
  |zero=>simp at h;subst h;simp
  |succ j=>
   simp at h;have hin:p∈r:=List.mem_of_getElem? h;have hne:a.1≠p.1:=fun e=>nd.1 (by rw[e];exact List.mem_map_of_mem hin);rw[List.find?_cons_of_neg (by simpa using hne)];exact ih nd.2 h
theorem A4(m:List (α×β)){x:α}(v:β)(h: ∀k∈m.map (·.1),k≠x):cA m x v=m++ [(x,v)]:=by
 induction m with
 |nil=>rfl
 |cons a r ih=>
  have h1:a.1≠x:=h a.1 (by simp);simp only[cA,h1,if_false,List.cons_append];rw[ih fun k hk=>h k (by simp at hk⊢;exact .inr hk)]
theorem A5(m:List (α×β))(nd:(m.map (·.1)).Nodup){x:α}(v:β){j:Nat}(h:(m.map (·.1))[j]? =some x):cA m x v=m.set j (x,v):=by
 induction m generalizing j with
 |nil=>simp at h
 |cons a r ih=>
  simp only[List.map_cons,List.nodup_cons]at nd;cases j with
  |zero=>simp at h;simp[cA,h]
  |succ j=>
   simp only[List.map_cons,List.getElem?_cons_succ]at h;have hne:a.1≠x:=fun e=>nd.1 (by rw[e];exact List.mem_of_getElem? h);simp only[cA,hne,if_false,List.set_cons_succ];rw[ih nd.2 h]
theorem pJ(m:List (α×β)){x:α}(h: ∀k∈m.map (·.1),k≠x):gN m x=m:=by
 induction m with
 |nil=>rfl
 |cons a r ih=>
  have h1:a.1≠x:=h a.1 (by simp);simp only[gN,h1,if_false];rw[ih fun k hk=>h k (by simp at hk⊢;exact .inr hk)]
theorem A6(m:List (α×β))(nd:(m.map (·.1)).Nodup){x:α}{j:Nat}(h:(m.map (·.1))[j]? =some x):gN m x=m.eraseIdx j:=by
 induction m generalizing j with
 |nil=>simp at h
 |cons a r ih=>
  simp only[List.map_cons,List.nodup_cons]at nd;cases j with
  |zero=>simp at h;simp[gN,h]
  |succ j=>
   simp only[List.map_cons,List.getElem?_cons_succ]at h;have hne:a.1≠x:=fun e=>nd.1 (by rw[e];exact List.mem_of_getElem? h);simp only[gN,hne,if_false,List.eraseIdx_cons_succ];rw[ih nd.2 h]
theorem qM(m:List (α×β))(x y:α)(v:β):bj (cA m x v) y=if y=x then some v else bj m y:=by
 induction m with
 |nil=>
  by_cases e:x=y
  ·subst e;simp[cA,bj]
  ·simp[cA,bj,e,Ne.symm e]
 |cons a r ih=>
  unfold cA;by_cases e:a.1=x
  ·simp only[e,if_true];by_cases e2:y=x
   ·subst e2;simp[bj]
   ·have: ¬x=y:=fun q=>e2 q.symm;simp only[e2,if_false];unfold bj;rw[List.find?_cons_of_neg (by simpa using this),List.find?_cons_of_neg (by rw[e];simpa using this)]
  ·simp only[e,if_false];by_cases e2:a.1=y
   ·have: ¬y=x:=fun q=>e (e2.trans q);simp[bj,e2,this]
   ·have h1:bj (a::cA r x v) y=bj (cA r x v) y:=by unfold bj;rw[List.find?_cons_of_neg (by simpa using e2)]
    have h2:bj (a::r) y=bj r y:=by unfold bj;rw[List.find?_cons_of_neg (by simpa using e2)]
    rw[h1,h2,ih]
end
section
variable [db] {P:Program} {n:Nat} {env:aS} {S:World→Prop} {o:Oper} {w:World} {H:cJ} {K:aS→World→Prop} {α β:Type} [DecidableEq α] {enc:α→Value} {ev:β→Value}
theorem A7{t kt et g i clock:Nat}{m kx x:Operand}{es:Array MapEntry}{ms:List (α×β)}{k:α}{u:β}(ho:o.op= .mapUpdate t m kx x)(hd:o.dst=none)
  (hm:env.ev m=some (.map (some g))) (hkx:env.ev kx=some (enc k)) (hx:env.ev x=some (ev u)) (ht:P.underlying t=some (.map kt et)) (L:fI P kt enc)
  (h:Hp w H) (hi:H[i]? =some (some g,.map es clock)) (hM:nB enc ev es clock ms)
  (hK: ∀es' clock' w',nB enc ev es' clock' (cA ms k u)→Hp w' (H.set i (some g,.map es' clock'))→Fr [g] w w'→K env w'):b9 P n env w o K:=by
 have hb:=h.at hi;rcases L.fnd k (ms.map (·.1)) es.toList hM.ks w with⟨h1,h2⟩|⟨j,e,h1,h2,h3⟩
 ·refine vL hd (w':={w with heap:=w.heap.setIfInBounds g (.map (es.push {key:=enc k,val:=ev u,born:=clock}) (clock+1))}) (fun a r=>?_)
   (hK _ _ _ ⟨stamped_push hM.st fun y hy e=>?_,?_⟩ (h.setAt hi (Fr.setObj hb) (MapKept.heap_set hb).1) (Fr.setObj hb))
  ·unfold execOp;simp[ho,r.eval hm,r.eval hkx,r.eval hx,Instr.mapUpdate,run_underlying ht,MapKept.run_getObj_map hb,L.chk,h1,MapKept.run_setObj_map _ hb]
  ·have:y.key∈(ms.map (·.1)).map enc:=by rw[←hM.ks];exact List.mem_map_of_mem hy
   obtain⟨z,hz,e2⟩:=List.mem_map.1 this;exact h2 z hz (L.inj _ _ (e2.trans e))
  ·rw[A4 ms u h2];simp[hM.eq]
 ·have hj:es[j]? =some e:=by simpa using h2
  obtain⟨p,hp,hpk,hpv⟩:=hM.at (x:=k) h2;have hpx:p.1=k:=by rw[List.getElem?_map,hp]at h3;simpa using h3
  have hek:e.key=enc k:=by rw[hpk,hpx]
  have hkey: ∀e',es[j]? =some e'→({e' with key:=enc k,val:=ev u}:MapEntry).key=e'.key:=fun e' he'=>by rw[hj]at he';cases he';exact hek.symm
  refine vL hd (w':={w with heap:=w.heap.setIfInBounds g (.map (es.modify j fun e=>{e with key:=enc k,val:=ev u}) clock)}) (fun a r=>?_)
   (hK (es.modify j fun e=>{e with key:=enc k,val:=ev u}) clock _ ⟨stamped_modify hM.st _ _ (fun _ _=>rfl) (fun e' _ he'=>hkey e' he'),?_⟩ (h.setAt hi (Fr.setObj hb) (MapKept.heap_set hb).1) (Fr.setObj hb))
  ·unfold execOp;simp[ho,r.eval hm,r.eval hkx,r.eval hx,Instr.mapUpdate,run_underlying ht,MapKept.run_getObj_map hb,L.chk,h1,hj,hek,L.stay,MapKept.run_setObj_map _ hb]
  ·rw[A5 ms (hM.nd L) u h3];apply List.ext_getElem?;intro q;have hq:=congrArg (fun l=>l[q]?) hM.eq;simp only[List.getElem?_map,Array.getElem?_toList]at hq;rw[List.getElem?_map,List.getElem?_map,List.getElem?_set,Array.getElem?_toList,Array.getElem?_modify];by_cases e:j=q
   ·subst e;have hlt:j<ms.length:=(List.getElem?_eq_some_iff.1 hp).1;simp[hj,hlt]
   ·simp only[e,if_false];exact hq
omit [db]in
theorem Fe{kt clock:Nat}{es:Array MapEntry}{ms:List (α×β)}(L:fI P kt enc)(hM:nB enc ev es clock ms)(k:α)(w:World): ∃r,(Instr.findKey kt (enc k) es.toList).run P w= .ok r w∧r.map (·.2)=(bj ms k).map ev:=by
 rcases L.fnd k (ms.map (·.1)) es.toList hM.ks w with⟨h1,h2⟩|⟨j,e,h1,h2,h3⟩
 ·exact⟨_,h1,by rw[yf ms h2];rfl⟩
 ·obtain⟨p,hp,hpk,hpv⟩:=hM.at (x:=k) h2;have hpx:p.1=k:=by rw[List.getElem?_map,hp]at h3;simpa using h3
  exact⟨_,h1,by rw[←hpx,xl ms (hM.nd L) hp,hpv];rfl⟩
theorem yg{t kt et g i clock:Nat}{m kx:Operand}{es:Array MapEntry}{ms:List (α×β)}{k:α}{z:β}(ho:o.op= .lookup t m kx false)
  (hm:env.ev m=some (.map (some g))) (hkx:env.ev kx=some (enc k)) (ht:P.underlying t=some (.map kt et)) (L:fI P kt enc) (hz:iS P et=some (ev z))
  (h: ∀w,S w→Hp w H) (hi:H[i]? =some (some g,.map es clock)) (hM:nB enc ev es clock ms):cL P n env S o (ev ((bj ms k).getD z)):=fun a r w hS=>by
 have hb:=(h w hS).at hi;obtain⟨q,h1,h2⟩:=Fe L hM k w;unfold execOp;cases q with
 |none=>
  cases hg:bj ms k with
  |some _=>rw[hg]at h2;cases h2
  |none=>simp[ho,r.eval hm,r.eval hkx,Instr.lookup,run_underlying ht,MapKept.run_getObj_map hb,L.chk,h1,uj hz]
 |some q=>
  cases hg:bj ms k with
  |none=>rw[hg]at h2;cases h2
  |some u=>rw[hg]at h2;simp at h2;simp[ho,r.eval hm,r.eval hkx,Instr.lookup,run_underlying ht,MapKept.run_getObj_map hb,L.chk,h1,h2]
theorem ui{t kt et g i clock:Nat}{m kx:Operand}{es:Array MapEntry}{ms:List (α×β)}{k:α}{z:β}(ho:o.op= .lookup t m kx true)
  (hm:env.ev m=some (.map (some g))) (hkx:env.ev kx=some (enc k)) (ht:P.underlying t=some (.map kt et)) (L:fI P kt enc) (hz:iS P et=some (ev z))
  (h: ∀w,S w→Hp w H) (hi:H[i]? =some (some g,.map es clock)) (hM:nB enc ev es clock ms):cL P n env S o (.tuple #[ev ((bj ms k).getD z),.bool (bj ms k).isSome]):=fun a r w hS=>by
 have hb:=(h w hS).at hi;obtain⟨q,h1,h2⟩:=Fe L hM k w;unfold execOp;cases q with
 |none=>
  cases hg:bj ms k with
  |some _=>rw[hg]at h2;cases h2
  |none=>simp[ho,r.eval hm,r.eval hkx,Instr.lookup,run_underlying ht,MapKept.run_getObj_map hb,L.chk,h1,uj hz]
 |some q=>
  cases hg:bj ms k with
  |none=>rw[hg]at h2;cases h2
  |some u=>rw[hg]at h2;simp at h2;simp[ho,r.eval hm,r.eval hkx,Instr.lookup,run_underlying ht,MapKept.run_getObj_map hb,L.chk,h1,h2]
end
end Go.Proofs.YtmpeiadlohbikaaGreatDoor
end

section
set_option linter.unusedVariables false
set_option linter.unusedSimpArgs false
namespace Go.Proofs.YtmpeiadlohbikaaGreatDoor
open Go.RowKit
theorem St.other{X Y:List Nat}{w w':World}{H:cJ}{K:List Kf}(h:St X w H K)(hf:Fr Y w w')(hY: ∀y∈Y,y∈X):St X w' H K:=
 ⟨h.hp.keep hf (fun k hk hy=>h.dj k (hY k hy) hk),fun k hk=>k.st (h.kr k hk) (hf.mono fun y hy=>List.mem_append_right _ (hY y hy)) (fun _ hy=> .inl hy),fun x hx=>Nat.lt_of_lt_of_le (h.lo x hx) hf.size,h.dj⟩
theorem Ow.cut{α:Type}{enc:α→List Value}{A:Option Addr}{c m l:Nat}{xs:List α}{sp:List Value}(hm: ∀x,(enc x).length=m)(h:Ow A l c m (xs.flatMap enc) sp)(hl:l=xs.length)(k:Nat):
  Ow A (xs.take k).length c m ((xs.take k).flatMap enc) ((xs.drop k).flatMap enc++sp):=by
 subst hl;refine⟨bm hm _,?_⟩;rcases h.2 with⟨h1,h2,h3,h4⟩|⟨g,h1,h2,h3,h4⟩
 ·have:xs= []:=List.eq_nil_of_length_eq_zero h2;subst this;exact .inl ⟨h1,by simp,h3,by simp[h4]⟩
 ·refine .inr ⟨g,h1,?_,?_,h4⟩
  ·rw[←List.append_assoc,←List.flatMap_append,List.take_append_drop];exact h2
  ·rw[List.length_take];omega
theorem kL{α:Type}{enc:α→List Value}{xs:List α}{sp:List Value}(k:Nat):xs.flatMap enc++sp=(xs.take k).flatMap enc++((xs.drop k).flatMap enc++sp):=by
 rw[←List.append_assoc,←List.flatMap_append,List.take_append_drop]
theorem xj: ∀(x y:List UInt8),Op.bytesLess x y=decide (x<y)
 |_,[]=>by simp[Op.bytesLess]
 | [],_::_=>by simp[Op.bytesLess]
 |a::x,b::y=>by
  rw[Op.bytesLess,xj x y];simp only[List.cons_lt_cons_iff,Bool.decide_or,Bool.decide_and];rfl
theorem Fb(x y:List UInt8):(Op.bytesLess x y||x==y)=decide (x≤y):=by
 rw[xj];by_cases h:x<y
 ·simp[h,List.le_of_lt h]
 ·by_cases e:x=y
  ·subst e;simp
  ·have: ¬x≤y:=fun hle=>by rcases List.le_iff_lt_or_eq.mp hle with h'|h'<;>contradiction
   simp[h,e,this]
section
variable [db] {P:Program} {n:Nat} {env:aS} {S:World→Prop} {o:Oper} {w:World} {H:cJ} {K:aS→World→Prop} {α:Type} {enc:α→List Value}
theorem oq{t e m c l:Nat}{A:Option Addr}{xs:List α}{x:Operand}{lo hi:Option Operand}{q:Int}{sp:List Value}(ho:o.op= .slice t x lo hi none)(hx:env.ev x=some (.slice A l c))(hl:l=xs.length)(ht:aH P t=some (e,m))(hlo:iR env lo=some 0)(hhi:ji env l hi=some q)
  (h1:0≤q) (h2:q≤xs.length) (how:Ow A l c m (xs.flatMap enc) sp):cL P n env S o (.slice A (xs.take q.toNat).length c):=by
 subst hl;have hlc:xs.length≤c:=by rcases how.2 with⟨_,h,h',_⟩|⟨g,_,_,h,_⟩<;>omega
 have:=ny (P:=P) (n:=n) (S:=S) ho hx ht hlo hhi (by omega) h1 (by omega) hlc;have e1:(if c=(0:Int).toNat then A else A.map (·.add ((0:Int).toNat*m)))=A:=by
  split
  ·rfl
  ·cases A with
   |none=>rfl
   |some a=>simp[Addr.add]
 rw[e1]at this;have e2:(xs.take q.toNat).length=q.toNat -(0:Int).toNat:=by rw[List.length_take];omega
 rw[e2];exact this
theorem mL{t e m c g l:Nat}{xs:List α}{x:Operand}{lo hi:Option Operand}{p:Int}{sp:List Value}(ho:o.op= .slice t x lo hi none)(hx:env.ev x=some (.slice (some ⟨g,0,none⟩) l c))(hl:l=xs.length)(ht:aH P t=some (e,m))(hlo:iR env lo=some p)(hhi:ji env l hi=some (l:Int))
  (h0:0≤p) (h1:p<xs.length) (how:Ow (some ⟨g,0,none⟩) l c m (xs.flatMap enc) sp):cL P n env S o (.slice (some ⟨g,0+p.toNat*m,none⟩) (l - p.toNat) (c - p.toNat)):=by
 subst hl;have hlc:xs.length≤c:=by rcases how.2 with⟨_,h,h',_⟩|⟨g,_,_,h,_⟩<;>omega
 have:=xe (P:=P) (n:=n) (S:=S) ho hx ht hlo hhi h0 (by omega) (by omega) hlc;rw[t8 (by omega)]at this;simpa using this
theorem pG{t e m c c' i g l:Nat}{x:Operand}{xs:List α}{sp z:List Value}{u:α}{p:Int}(ho:o.op= .call {callee:= .builtin .clear,args:= #[x],argTypes:= #[t]})(hd:o.dst=none)
  (hx:env.ev x=some (.slice (some ⟨g,0+p.toNat*m,none⟩) (l - p.toNat) c')) (hl:l=xs.length) (ht:aH P t=some (e,m)) (hz:zeroCells P e=some z) (hzu:z=enc u) (hm: ∀x,(enc x).length=m) (h1: ∀v∈enc u,v.oneCell'=true)
  (how:Ow (some ⟨g,0,none⟩) l c m (xs.flatMap enc) sp) (h0:0≤p) (hp:p≤xs.length) (h:Hp w H) (hi:H[i]? =some (ap (some ⟨g,0,none⟩),Cl (xs.flatMap enc++sp) e))
  (hK: ∀w',Ow (some ⟨g,0,none⟩) l c m ((xs.take p.toNat++List.replicate (xs.length - p.toNat) u).flatMap enc) sp→Hp w' (H.set i (ap (some ⟨g,0,none⟩),Cl ((xs.take p.toNat++List.replicate (xs.length - p.toNat) u).flatMap enc++sp) e))→Fr [g] w w'→K env w'):b9 P n env w o K:=by
 subst hzu;subst hl;have hlen:=bm hm xs;have hpl:p.toNat≤xs.length:=by omega
 have hle:p.toNat*m≤xs.length*m:=Nat.mul_le_mul_right m hpl;have hs:(xs.length - p.toNat)*m=xs.length*m - p.toNat*m:=Nat.sub_mul ..;refine DK ho hd hx ht hz (hm u) h1 h hi (by rw[List.length_append,hlen];omega) fun w' hp' hf=>?_;have e1:(xs.flatMap enc++sp).take (0+p.toNat*m)++(List.replicate (xs.length - p.toNat) (enc u)).flatten++(xs.flatMap enc++sp).drop (0+p.toNat*m+(xs.length - p.toNat)*m)=(xs.take p.toNat++List.replicate (xs.length - p.toNat) u).flatMap enc++sp:=by
  rw[Nat.zero_add,List.take_append_of_le_length (by omega),mN hm,List.drop_append,List.drop_of_length_le (by omega),hlen,show p.toNat*m+(xs.length - p.toNat)*m - xs.length*m=0 by omega,List.flatMap_append,uf];simp
 rw[e1]at hp';refine hK w' ⟨?_,?_⟩ hp' hf
 ·rw[bm hm,List.length_append,List.length_take,List.length_replicate,show min p.toNat xs.length+(xs.length - p.toNat)=xs.length by omega]
 ·rcases how.2 with⟨h2,_⟩|⟨g',e2,h3,h4,h5⟩
  ·cases h2
  ·refine .inr ⟨g',e2,?_,h4,h5⟩;rw[←h3,List.length_append,List.length_append,bm hm,hlen,List.length_append,List.length_take,List.length_replicate,show min p.toNat xs.length+(xs.length - p.toNat)=xs.length by omega]
theorem JY{x y:Operand}{t u:Nat}{p q:List UInt8}(ho:o.op= .binOp .lss t x y u)(hx:env.ev x=some (sv p))(hy:env.ev y=some (sv q)):cL P n env S o (.bool (decide (p<q))):=fun a r w _=>by
 unfold execOp;simp[ho,r.eval hx,r.eval hy,eqGuard,binOp,Op.stringOp,xj]
theorem JZ{x y:Operand}{t u:Nat}{p q:List UInt8}(ho:o.op= .binOp .leq t x y u)(hx:env.ev x=some (sv p))(hy:env.ev y=some (sv q)):cL P n env S o (.bool (decide (p≤q))):=fun a r w _=>by
 unfold execOp;simp[ho,r.eval hx,r.eval hy,eqGuard,binOp,Op.stringOp,Fb]
theorem J0{x y:Operand}{t u:Nat}{p q:List UInt8}(ho:o.op= .binOp .gtr t x y u)(hx:env.ev x=some (sv p))(hy:env.ev y=some (sv q)):cL P n env S o (.bool (decide (q<p))):=fun a r w _=>by
 have e:(!decide (p≤q))=decide (q<p):=by rw[←decide_not];exact decide_eq_decide.mpr List.not_le
 unfold execOp;simp[ho,r.eval hx,r.eval hy,eqGuard,binOp,Op.stringOp,Fb,←e]
theorem J1{x y:Operand}{t u:Nat}{p q:List UInt8}(ho:o.op= .binOp .geq t x y u)(hx:env.ev x=some (sv p))(hy:env.ev y=some (sv q)):cL P n env S o (.bool (decide (q≤p))):=fun a r w _=>by
 have e:(!decide (p<q))=decide (q≤p):=by rw[←decide_not];exact decide_eq_decide.mpr List.not_lt
 unfold execOp;simp[ho,r.eval hx,r.eval hy,eqGuard,binOp,Op.stringOp,xj,←e]
theorem J2{t l e:Nat}{x ix:Operand}{k:IntKind}{q:Int}{us:List Value}{v:Value}(ho:o.op= .index t x ix)(hx:env.ev x=some (.agg us.toArray))(hi:env.ev ix=some (.int k q))(ht:P.underlying t=some (.array l e))(hs:(P.info? e).map (·.size)=some 1)(hp:eE P e=true)(h0:0≤q)(h1:q<l)(hv:us[q.toNat]? =some v):cL P n env S o v:=fun a r w _=>by
 have hA:(isAgg e).run P w= .ok false w:=by
  unfold eE at hp;cases hu':P.underlying e with
  |none=>simp[hu']at hp
  |some d=>
   unfold isAgg;simp only[Sem.run_bind,run_underlying hu',Result.andThen_ok];cases d<;>simp[hu']at hp<;>rfl
 cases hq:P.info? e with
 |none=>simp[hq]at hs
 |some i=>
  have hs:i.size=1:=by simpa[hq]using hs
  unfold execOp;simp[ho,r.eval hx,r.eval hi,Instr.index,asIntOf,run_underlying ht,h0,h1,sizeOf,typeInfo,hq,hs,part,hA,hv]
theorem AX{t l e m:Nat}{ps:List (Nat×Operand)}{vs zs cells:List Value}(ho:o.op= .build t ps.toArray)(hx:env.evs (ps.map (·.2))=some vs)(ht:P.underlying t=some (.array l e))(hs:(P.info? e).map (·.size)=some m)(hz:zeroCells P t=some zs)
  (hf:Instr.fill (fun i=>some (i*m,m)) zs.toArray ((ps.map (·.1)).zip vs)=some cells.toArray):cL P n env S o (.agg cells.toArray):=fun a r w _=>by
 have e':(ps.toArray.map fun(i,x)=>(i,a.eval x)).toList=(ps.map (·.1)).zip vs:=by
  rw[←r.evals hx];simp only[List.map_toArray,List.map_map];clear ho hx hf;induction ps with
  |nil=>rfl
  |cons p ps ih=>obtain⟨i,x⟩:=p;simpa using ih
 unfold zeroCells at hz;cases hq:P.info? t with
 |none=>simp[hq]at hz
 |some it=>
  cases hzz:it.zero with
  |none=>simp[hq,hzz]at hz
  |some z=>
   have hz':z.cells=zs.toArray:=by simp[hq,hzz]at hz;rw[←hz]
   cases hqe:P.info? e with
   |none=>simp[hqe]at hs
   |some i=>
    have hs:i.size=m:=by simpa[hqe]using hs
    have hb:(Instr.build t (ps.toArray.map fun(i,x)=>(i,a.eval x))).run P w= .ok (.agg cells.toArray) w:=by
     unfold Instr.build;simp only[e'];simp[zeroValue,typeInfo,hq,hzz,run_underlying ht,sizeOf,hqe,hs,hz',hf]
    unfold execOp;simp only[ho];simp only[Sem.run_bind,hb,Result.andThen_ok];rfl
theorem J3{x:Operand}{t:Nat}{k:IntKind}{p c:Int}(ho:o.op= .unOp .neg t x)(hx:env.ev x=some (.int k p))(hw:k.wrap (0 - p)=c):cL P n env S o (.int k c):=fun a r w _=>by
 unfold execOp;simp only[Int.zero_sub]at hw;simp[ho,r.eval hx,Op.unary,Op.intArith,hw]
theorem nA{t e m g l c:Nat}{x ix:Operand}{k:IntKind}{p q:Int}(ho:o.op= .indexAddr t x ix)(hx:env.ev x=some (.slice (some ⟨g,0+p.toNat*m,none⟩) l c))(hi:env.ev ix=some (.int k q))(ht:aH P t=some (e,m))(hp:0≤p)(h0:0≤q)(h1:q<l):
  cL P n env S o (.pointer (some ⟨g,0+(p+q).toNat*m,none⟩)):=by
 have h:=gC (P:=P) (n:=n) (S:=S) ho hx hi ht h0 h1;rw[show 0+(p+q).toNat*m=0+p.toNat*m+q.toNat*m by rw[Int.toNat_add hp h0,Nat.add_mul];omega];exact h
end
end Go.Proofs.YtmpeiadlohbikaaGreatDoor
end

section
set_option linter.unusedVariables false
set_option linter.unusedSimpArgs false
namespace Go.Proofs.YtmpeiadlohbikaaGreatDoor
section
variable {α:Type} [Inhabited α]
theorem Hq(l:List α)(k:Nat):ix l (k:Int)=(l[k]?).getD default:=by unfold ix;rw[Int.toNat_natCast]
theorem dQ(l:List α){k:Nat}(h:k<l.length):ix l (k:Int)=l[k]:=by rw[Hq,List.getElem?_eq_getElem h];rfl
theorem rL(l:List α){j:Int}(h0:0≤j)(h1:j<l.length):ix l j∈l:=by
 have hl:j.toNat<l.length:=by omega
 unfold ix;rw[List.getElem?_eq_getElem hl];exact List.getElem_mem hl
theorem wP(l:List α){j:Int}(h0:0≤j)(h1:j<l.length):l.drop j.toNat=ix l j::l.drop (j+1).toNat:=by
 have hl:j.toNat<l.length:=by omega
 rw[List.drop_eq_getElem_cons hl,show(j+1).toNat=j.toNat+1 by omega];unfold ix;rw[List.getElem?_eq_getElem hl];rfl
theorem tD{R:Type}(l:List α)(p:α→Bool)(r:R)(L:Nat→Int→R⊕Int)(hL: ∀fuel i,0≤i→L (fuel+1) i=if i<(l.length:Int)then(if p (ix l i)=true then L fuel (i+1)else .inl r)else .inr i):
  ∀(fuel:Nat) (i:Int),0≤i→((l.length:Int)- i).toNat<fuel→ ∃q,L fuel i=if(l.drop i.toNat).all p=true then .inr q else .inl r
 |0,i,_,h=>by omega
 |fuel+1,i,h0,h=>by
  rw[hL fuel i h0];split
  ·rename_i h1;rw[wP l h0 h1,List.all_cons];by_cases hp:p (ix l i)=true
   ·obtain⟨q,hq⟩:=tD l p r L hL fuel (i+1) (by omega) (by omega);exact⟨q,by rw[if_pos hp,hq,hp,Bool.true_and]⟩
   ·exact⟨i,by rw[if_neg hp];simp[hp]⟩
  ·exact⟨i,by rw[List.drop_of_length_le (by omega)];simp⟩
theorem kF{R:Type}(l:List α)(p:α→Bool)(r:R)(L:Nat→Int→R⊕Int)(hL: ∀fuel i,0≤i→L (fuel+1) i=if i<(l.length:Int)then(if p (ix l i)=true then L fuel (i+1)else .inl r)else .inr i):
  ∃q,L (((l.length:Int)-(0:Int)).toNat+1) 0=if l.all p=true then .inr q else .inl r:=tD l p r L hL _ 0 (by omega) (by omega)
theorem jA{R:Type}(l:List α)(p:α→α→Bool)(r:R)(L:Nat→Int→R⊕Int)(hL: ∀fuel i,1≤i→L (fuel+1) i=if i<(l.length:Int)then(if p (ix l (i - 1)) (ix l i)=true then L fuel (i+1)else .inl r)else .inr i):
  ∀(fuel:Nat) (i:Int),1≤i→((l.length:Int)- i).toNat<fuel→((∃q,L fuel i= .inr q)∧ ∀j:Int,i≤j→j<l.length→p (ix l (j - 1)) (ix l j)=true)∨(L fuel i= .inl r∧ ∃j:Int,i≤j∧j<l.length∧p (ix l (j - 1)) (ix l j)=false)
 |0,i,_,h=>by omega
 |fuel+1,i,h0,h=>by
  rw[hL fuel i h0];split
  ·rename_i h1;by_cases hp:p (ix l (i - 1)) (ix l i)=true
   ·rw[if_pos hp];rcases jA l p r L hL fuel (i+1) (by omega) (by omega)with⟨a,b⟩|⟨a,j,b,c,d⟩
    ·refine .inl ⟨a,fun j hj hk=>?_⟩;by_cases e:j=i
     ·subst e;exact hp
     ·exact b j (by omega) hk
    ·exact .inr ⟨a,j,by omega,c,d⟩
   ·exact .inr ⟨by rw[if_neg hp],i,by omega,h1,by simpa using hp⟩
  ·exact .inl ⟨⟨i,rfl⟩,fun j _ _=>by omega⟩
theorem nq(l:List α)(p:α→α→Bool)(tr: ∀a b c,p a b=true→p b c=true→p a c=true):(∀j:Int,1≤j→j<l.length→p (ix l (j - 1)) (ix l j)=true)↔l.Pairwise (fun a b=>p a b=true):=by
 constructor
 ·intro h;rw[List.pairwise_iff_getElem];have key: ∀(d i:Nat) (h1:i+d+1<l.length),p (l[i]'(by omega)) (l[i+d+1])=true:=by
   intro d;induction d with
   |zero=>
    intro i h1;have:=h ((i:Int)+1) (by omega) (by omega);rw[show(i:Int)+1 - 1=(i:Int)by omega,dQ l (by omega),show(i:Int)+1=((i+1:Nat):Int)by omega,dQ l (by omega)]at this;exact this
   |succ d ih=>
    intro i h1;have h2:=h ((i:Int)+d+2) (by omega) (by omega);rw[show(i:Int)+d+2 - 1=((i+d+1:Nat):Int)by omega,dQ l (by omega),show(i:Int)+d+2=((i+(d+1)+1:Nat):Int)by omega,dQ l (by omega)]at h2;exact tr _ _ _ (ih i (by omega)) h2
  intro i j hi hj hij;have:=key (j - i - 1) i (by omega);have e:i+(j - i - 1)+1=j:=by omega
  simpa only[e]using this
 ·intro h j h1 h2;rw[List.pairwise_iff_getElem]at h;have:=h (j.toNat - 1) j.toNat (by omega) (by omega) (by omega);rw[←dQ l (by omega),←dQ l (by omega)]at this;rw[show((j.toNat - 1:Nat):Int)=j - 1 by omega,show((j.toNat:Nat):Int)=j by omega]at this;exact this
theorem fu{R β:Type}(l:List α)(f:β→α→β)(L:Nat→Int→β→R⊕(Int×β))(hL: ∀fuel b i,0≤i→L (fuel+1) i b=if i<(l.length:Int)then L fuel (i+1) (f b (ix l i))else .inr (i,b))(b:β):
  L (((l.length:Int)-(0:Int)).toNat+1) 0 b= .inr ((l.length:Int),l.foldl f b):=by
 have key: ∀(fuel:Nat) (b:β) (i:Int),0≤i→i≤l.length→((l.length:Int)- i).toNat<fuel→L fuel i b= .inr ((l.length:Int),(l.drop i.toNat).foldl f b):=by
  intro fuel;induction fuel with
  |zero=>intro b i _ _ h;omega
  |succ fuel ih=>
   intro b i h0 h2 h;rw[hL fuel b i h0];split
   ·rename_i h1;rw[ih _ (i+1) (by omega) (by omega) (by omega),wP l h0 h1,List.foldl_cons]
   ·have:i=l.length:=by omega
    subst this;rw[List.drop_of_length_le (by omega)];rfl
 exact key _ b 0 (by omega) (by omega) (by omega)
end
theorem iW{α β:Type}(g:α→β)(l:List α)(b:List β):l.foldl (fun acc x=>acc++ [g x]) b=b++l.map g:=by
 induction l generalizing b with
 |nil=>simp
 |cons a l ih=>rw[List.foldl_cons,ih];simp
theorem nr{α β:Type}(p:α→Bool)(g:α→β)(l:List α)(b:List β):l.foldl (fun acc x=>if p x=true then acc++ [g x]else acc) b=b++(l.filter p).map g:=by
 induction l generalizing b with
 |nil=>simp
 |cons a l ih=>
  rw[List.foldl_cons,ih];by_cases h:p a=true
  ·simp[h]
  ·simp[h]
theorem oo{α R:Type} [Inhabited α](x:List α)(c:α→Int)(L:Nat→Int→Int→R⊕(Int×Int))(hL: ∀fuel i j,L (fuel+1) i j=if i<j then(if c (ix x ((i+j)/2))<0 then L fuel ((i+j)/2+1) j else L fuel i ((i+j)/2))else .inr (i,j))
  (mono: ∀a b:Int,0≤a→a<b→b<x.length→c (ix x b)<0→c (ix x a)<0):
  ∀(fuel:Nat) (i j:Int),0≤i→i≤j→j≤x.length→(j - i).toNat<fuel→(∀k:Int,0≤k→k<i→c (ix x k)<0)→(∀k:Int,j≤k→k<x.length→ ¬c (ix x k)<0)→
   ∃q:Int,L fuel i j= .inr (q,q)∧0≤q∧q≤x.length∧(∀k:Int,0≤k→k<q→c (ix x k)<0)∧(∀k:Int,q≤k→k<x.length→ ¬c (ix x k)<0)
 |0,i,j,_,_,_,h,_,_=>by omega
 |fuel+1,i,j,h0,h1,h2,h,ha,hb=>by
  rw[hL];split
  ·rename_i hlt;have hm:i≤(i+j)/2∧(i+j)/2<j:=by omega
   split
   ·rename_i hc;refine oo x c L hL mono fuel _ j (by omega) (by omega) h2 (by omega) (fun k hk0 hk=>?_) hb;by_cases e:k=(i+j)/2
    ·rw[e];exact hc
    ·exact mono k ((i+j)/2) hk0 (by omega) (by omega) hc
   ·rename_i hc;refine oo x c L hL mono fuel i _ h0 (by omega) (by omega) (by omega) ha (fun k hk0 hk hck=>?_);by_cases e:k=(i+j)/2
    ·rw[e]at hck;exact hc hck
    ·exact hc (mono ((i+j)/2) k (by omega) (by omega) hk hck)
  ·have:i=j:=by omega
   subst this;exact⟨i,rfl,h0,h2,ha,hb⟩
end Go.Proofs.YtmpeiadlohbikaaGreatDoor
end

section
set_option linter.unusedVariables false
set_option linter.unusedSimpArgs false
namespace Go.Proofs.YtmpeiadlohbikaaGreatDoor
def JB{α:Type}:α→List α→α
 |p,[]=>p
 |_,b::l=>JB b l
theorem tB{α:Type}: ∀(p:α) (l:List α),JB p l=(p::l).getLast (by simp)
 |p,[]=>rfl
 |p,b::l=>by rw[List.getLast_cons (by simp)];exact tB b l
section
variable {α:Type} [DecidableEq α]
def sj:α→List α→List α
 |_,[]=> []
 |p,b::l=>if b=p then sj p l else b::sj b l
def dd:List α→List α
 | []=> []
 |a::l=>a::sj a l
theorem rH: ∀(p:α) (l:List α) (x:α),x=p∨x∈sj p l↔x=p∨x∈l
 |p,[],x=>by simp[sj]
 |p,b::l,x=>by
  unfold sj;split
  ·rename_i h;subst h;rw[rH b l x];simp
  ·have:=rH b l x;simp only[List.mem_cons,this]
theorem uY(l:List α)(x:α):x∈dd l↔x∈l:=by
 cases l with
 |nil=>simp[dd]
 |cons a l=>simp only[dd,List.mem_cons];exact rH a l x
theorem pb: ∀(p:α) (l:List α) (x:α),sj p (l++ [x])=sj p l++(if x=JB p l then []else [x])
 |p,[],x=>by by_cases h:x=p<;>simp[sj,JB,h]
 |p,b::l,x=>by
  rw[List.cons_append];unfold sj JB;split
  ·rename_i h;subst h;exact pb b l x
  ·rw[pb b l x];rfl
theorem Ds{l:List α}(h:l≠ [])(x y:α)(hy:l.getLast h=y):dd (l++ [x])=dd l++(if x=y then []else [x]):=by
 cases l with
 |nil=>exact absurd rfl h
 |cons a l=>simp only[List.cons_append,dd];rw[pb,tB,hy]
theorem rI: ∀(p:α) (l:List α),(sj p l).length≤l.length
 |p,[]=>by simp[sj]
 |p,b::l=>by
  unfold sj;split
  ·have:=rI p l;simp;omega
  ·have:=rI b l;simp;omega
theorem Aq(l:List α):(dd l).length≤l.length:=by
 cases l with
 |nil=>simp[dd]
 |cons a l=>have:=rI a l;simp[dd];omega
theorem lB(lt:α→α→Bool)(tot: ∀a b,lt a b=false→lt b a=false→a=b)(tr: ∀a b c,lt a b=true→lt b c=true→lt a c=true): ∀(p:α) (l:List α),(p::l).Pairwise (fun a b=>lt b a=false)→(p::sj p l).Pairwise (fun a b=>lt a b=true)
 |p,[],_=>by simp[sj]
 |p,b::l,h=>by
  rw[List.pairwise_cons,List.pairwise_cons]at h;obtain⟨h1,h2,h3⟩:=h;unfold sj;split
  ·rename_i e;subst e;exact lB lt tot tr b l (List.pairwise_cons.2 ⟨h2,h3⟩)
  ·rename_i e;have hpb:lt p b=true:=by
    have:=h1 b (by simp);by_cases q:lt p b=true
    ·exact q
    ·exact absurd (tot b p this (by simpa using q)) e
   have ih:=lB lt tot tr b l (List.pairwise_cons.2 ⟨h2,h3⟩);refine List.pairwise_cons.2 ⟨fun x hx=>?_,ih⟩;rcases List.mem_cons.1 hx with rfl|hx
   ·exact hpb
   ·exact tr _ _ _ hpb ((List.pairwise_cons.1 ih).1 x hx)
theorem qw(lt:α→α→Bool)(tot: ∀a b,lt a b=false→lt b a=false→a=b)(tr: ∀a b c,lt a b=true→lt b c=true→lt a c=true)(l:List α)(h:l.Pairwise (fun a b=>lt b a=false)):(dd l).Pairwise (fun a b=>lt a b=true):=by
 cases l with
 |nil=>simp[dd]
 |cons a l=>exact lB lt tot tr a l h
end
theorem im{α:Type}(lt:α→α→Bool)(asy: ∀a b,lt a b=true→lt b a=false): ∀{l l':List α},l.Pairwise (fun a b=>lt a b=true)→l'.Pairwise (fun a b=>lt a b=true)→(∀x,x∈l↔x∈l')→l=l'
 | [],[],_,_,_=>rfl
 | [],b::l',_,_,h=>absurd ((h b).2 (by simp)) (by simp)
 |a::l,[],_,_,h=>absurd ((h a).1 (by simp)) (by simp)
 |a::l,b::l',h1,h2,h=>by
  rw[List.pairwise_cons]at h1 h2;have irr: ∀x,lt x x=false:=fun x=>by
   by_cases q:lt x x=true
   ·exact asy x x q
   ·simpa using q
  have hab:a=b:=by
   rcases List.mem_cons.1 ((h a).1 (by simp))with e|hm
   ·exact e
   ·rcases List.mem_cons.1 ((h b).2 (by simp))with e|hm2
    ·exact e.symm
    ·have:=asy _ _ (h2.1 a hm);rw[h1.1 b hm2]at this;cases this
  subst hab;congr 1;refine im lt asy h1.2 h2.2 fun x=>?_;constructor
  ·intro hx;rcases List.mem_cons.1 ((h x).1 (List.mem_cons_of_mem _ hx))with e|hm
   ·subst e;have:=h1.1 x hx;rw[irr]at this;cases this
   ·exact hm
  ·intro hx;rcases List.mem_cons.1 ((h x).2 (List.mem_cons_of_mem _ hx))with e|hm
   ·subst e;have:=h2.1 x hx;rw[irr]at this;cases this
   ·exact hm
theorem wO{α:Type}(p:α→Bool)(l:List α):l.take (l.takeWhile p).length=l.takeWhile p:=by
 conv=>lhs;arg 2;rw[←List.takeWhile_append_dropWhile (p:=p) (l:=l)]
 exact List.take_left
theorem rJ{α:Type}(p:α→Bool)(l:List α):l.drop (l.takeWhile p).length=l.dropWhile p:=by
 conv=>lhs;arg 2;rw[←List.takeWhile_append_dropWhile (p:=p) (l:=l)]
 exact List.drop_left
theorem E0{α:Type}(p:α→Bool)(l:List α)(q:Nat)(h1: ∀k,k<q→ ∀(h:k<l.length),p l[k]=true)(h2: ∀k,q≤k→ ∀(h:k<l.length),p l[k]=false)(hq:q≤l.length):(l.takeWhile p).length=q:=by
 have e:l.takeWhile p=l.take q:=by
  have hl:l.take q++l.drop q=l:=List.take_append_drop q l;conv=>lhs;rw[←hl]
  rw[List.takeWhile_append_of_pos (fun a ha=>by
   obtain⟨k,hk,rfl⟩:=List.getElem_of_mem ha;rw[List.length_take]at hk;rw[List.getElem_take];exact h1 k (by omega) (by omega))]
  have:(l.drop q).takeWhile p= []:=by
   cases hd:l.drop q with
   |nil=>rfl
   |cons a r=>
    have hlt:q<l.length:=by
     rcases Nat.lt_or_ge q l.length with h|h
     ·exact h
     ·rw[List.drop_of_length_le h]at hd;cases hd
    have ha:a=l[q]:=by
     have:=List.drop_eq_getElem_cons hlt;rw[hd]at this;exact(List.cons.inj this).1
    rw[List.takeWhile_cons,if_neg (by rw[ha,h2 q (Nat.le_refl _) hlt];simp)]
  rw[this,List.append_nil]
 rw[e,List.length_take];omega
section
variable {α:Type} (lt:α→α→Bool)
def pc(l:List α)(t:α):List α:=l.takeWhile (fun x=>lt x t)++ [t]++l.dropWhile (fun x=>lt x t)
theorem Ar(l:List α)(t x:α):x∈pc lt l t↔x=t∨x∈l:=by
 have:=List.takeWhile_append_dropWhile (p:=fun x=>lt x t) (l:=l);unfold pc;conv=>rhs;rw[←this]
 simp only[List.mem_append,List.mem_singleton];constructor
 ·rintro((h|h)|h)
  ·exact .inr (.inl h)
  ·exact .inl h
  ·exact .inr (.inr h)
 ·rintro(h|h|h)
  ·exact .inl (.inr h)
  ·exact .inl (.inl h)
  ·exact .inr h
theorem As(l:List α)(t:α):(pc lt l t).length=l.length+1:=by
 have:=congrArg List.length (List.takeWhile_append_dropWhile (p:=fun x=>lt x t) (l:=l));unfold pc;simp only[List.length_append,List.length_singleton]at*;omega
theorem tC(tot: ∀a b,lt a b=false→lt b a=false→a=b)(tr: ∀a b c,lt a b=true→lt b c=true→lt a c=true){l:List α}{t:α}(h:l.Pairwise (fun a b=>lt a b=true))(hn: ∀x∈l,¬x=t):(pc lt l t).Pairwise (fun a b=>lt a b=true):=by
 have e:=List.takeWhile_append_dropWhile (p:=fun x=>lt x t) (l:=l);rw[←e,List.pairwise_append]at h;obtain⟨h1,h2,h3⟩:=h;have hA: ∀x∈l.takeWhile (fun x=>lt x t),lt x t=true:=fun x hx=>by
  have:=List.all_takeWhile (p:=fun x=>lt x t) (l:=l);exact List.all_eq_true.1 this x hx
 have hB: ∀x∈l.dropWhile (fun x=>lt x t),lt t x=true:=by
  cases hd:l.dropWhile (fun x=>lt x t)with
  |nil=>simp
  |cons a r=>
   have ha:lt a t=false:=by
    have:=List.head?_dropWhile_not (fun x=>lt x t) l;rw[hd]at this;simpa using this
   have ham:a∈l:=by rw[←e,hd];simp
   have hta:lt t a=true:=by
    by_cases q:lt t a=true
    ·exact q
    ·exact absurd (tot a t ha (by simpa using q)) (hn a ham)
   rw[hd,List.pairwise_cons]at h2;intro x hx;rcases List.mem_cons.1 hx with rfl|hx
   ·exact hta
   ·exact tr _ _ _ hta (h2.1 x hx)
 unfold pc;rw[List.append_assoc,List.pairwise_append];refine⟨h1,?_,fun a ha b hb=>?_⟩
 ·rw[List.singleton_append,List.pairwise_cons];exact⟨hB,h2⟩
 ·rw[List.singleton_append]at hb;rcases List.mem_cons.1 hb with rfl|hb
  ·exact hA a ha
  ·exact h3 a ha b hb
end
theorem rK{α:Type} [Inhabited α] [DecidableEq α](s:List α)(z:α)(L2:Int→List α→Nat→Int→Int→List α→(List α)⊕(Int×Int×List α))(L1:Nat→Int→List α→(List α)⊕(Int×List α))
  (h2: ∀(s3:Int) r0 fuel s3' s5 r',L2 s3 r0 (fuel+1) s3' s5 r'=if s5<((s.length - s3.toNat:Nat):Int)then(if ix r' (s3+s5)=ix r' (s3+(s5 - 1))then L2 s3 r0 fuel s3' (s5+1) r' else L2 s3 r0 fuel (s3'+1) (s5+1) (r'.set s3'.toNat (ix r' (s3+s5))))else .inr (s3',s5,r'))
  (h1: ∀fuel s3 r0,L1 (fuel+1) s3 r0=if s3<(s.length:Int)then(if ix r0 s3=ix r0 (s3 - 1)then(match L2 s3 r0 (((s.length:Int)-(1:Int)).toNat+1) s3 (1:Int) r0 with| .inl r=> .inl r| .inr (s3',s5,r')=> .inl ((r'.take s3'.toNat++List.replicate (r'.length - s3'.toNat) z).take s3'.toNat))else L1 fuel (s3+1) r0)else .inr (s3,r0)) (hs:1≤s.length):
  ∀(fuel:Nat) (s3:Int),1≤s3→s3≤s.length→dd (s.take s3.toNat)=s.take s3.toNat→((s.length:Int)- s3).toNat<fuel→(L1 fuel s3 s= .inl (dd s)∨(∃q,L1 fuel s3 s= .inr (q,s))∧dd s=s):=by
 have step: ∀n:Nat,1≤n→n<s.length→dd (s.take (n+1))=dd (s.take n)++(if ix s (n:Int)=ix s ((n:Int)- 1)then []else [ix s (n:Int)]):=by
  intro n hn1 hn;have e1:s.take (n+1)=s.take n++ [s[n]]:=by rw[List.take_add_one,List.getElem?_eq_getElem hn];rfl
  have hne:s.take n≠ []:=by intro h;have:=congrArg List.length h;rw[List.length_take,List.length_nil]at this;omega
  have e2:(s.take n).getLast hne=s[n - 1]:=by
   rw[List.getLast_eq_getElem];have:(s.take n).length - 1=n - 1:=by rw[List.length_take];omega
   simp only[this,List.getElem_take]
  rw[e1,Ds hne _ _ e2];rw[dQ s hn,show(n:Int)- 1=((n - 1:Nat):Int)by omega,dQ s (by omega)]
 have qH: ∀(fuel:Nat) (k:Int) (k' j:Int) (r:List α),1≤k→k<s.length→1≤j→k+j≤s.length→k≤k'→k'<k+j→r.length=s.length→(∀i:Nat,(k+j - 1).toNat≤i→r[i]? =s[i]?)→r.take k'.toNat=dd (s.take (k+j).toNat)→((s.length:Int)-(k+j)).toNat<fuel→
   ∃q p r',L2 k s fuel q j r=L2 k s fuel q j r∧L2 k s fuel k' j r= .inr (p,q,r')∧r'.length=s.length∧r'.take p.toNat=dd s∧p≤s.length:=by
  intro fuel;induction fuel with
  |zero=>intro k k' j r _ _ _ _ _ _ _ _ _ h;omega
  |succ fuel ih=>
   intro k k' j r hk1 hk2 hj hkj hkk hk' hrl hr hd hf;rw[h2 k s fuel k' j r];by_cases hlt:j<((s.length - k.toNat:Nat):Int)
   ·rw[if_pos hlt];have hn:(k+j).toNat<s.length:=by omega
    have eA:ix r (k+j)=ix s (k+j):=by unfold ix;rw[hr (k+j).toNat (by omega)]
    have eB:ix r (k+(j - 1))=ix s (k+j - 1):=by unfold ix;rw[show k+(j - 1)=k+j - 1 by omega,hr (k+j - 1).toNat (Nat.le_refl _)]
    have hst:=step (k+j).toNat (by omega) hn;rw[show(((k+j).toNat:Nat):Int)=k+j by omega]at hst;rw[eA,eB];by_cases heq:ix s (k+j)=ix s (k+j - 1)
    ·rw[if_pos heq];rw[if_pos heq,List.append_nil]at hst;obtain⟨q,p,r',_,h3,h4,h5,h6⟩:=ih k k' (j+1) r hk1 hk2 (by omega) (by omega) hkk (by omega) hrl (fun i hi=>hr i (by omega)) (by rw[hd,show(k+(j+1)).toNat=(k+j).toNat+1 by omega,hst]) (by omega);exact⟨q,p,r',rfl,h3,h4,h5,h6⟩
    ·rw[if_neg heq];rw[if_neg heq]at hst;obtain⟨q,p,r',_,h3,h4,h5,h6⟩:=ih k (k'+1) (j+1) (r.set k'.toNat (ix s (k+j))) hk1 hk2 (by omega) (by omega) (by omega) (by omega) (by simpa using hrl) (fun i hi=>by rw[List.getElem?_set_ne (by omega)];exact hr i (by omega)) (by
      rw[show(k+(j+1)).toNat=(k+j).toNat+1 by omega,hst,←hd,show(k'+1).toNat=k'.toNat+1 by omega,List.take_add_one,List.getElem?_set_self (by omega),List.take_set_of_le (by omega)];rfl) (by omega)
     exact⟨q,p,r',rfl,h3,h4,h5,h6⟩
   ·rw[if_neg hlt];refine⟨j,k',r,rfl,rfl,hrl,?_,by omega⟩;rw[hd,List.take_of_length_le (by omega)]
 intro fuel;induction fuel with
 |zero=>intro s3 _ _ _ h;omega
 |succ fuel ih=>
  intro s3 hs1 hs2 hd hf;rw[h1 fuel s3 s];by_cases hlt:s3<(s.length:Int)
  ·rw[if_pos hlt];have hst:=step s3.toNat (by omega) (by omega);rw[show((s3.toNat:Nat):Int)=s3 by omega]at hst;by_cases heq:ix s s3=ix s (s3 - 1)
   ·rw[if_pos heq];rw[if_pos heq,List.append_nil,hd]at hst;obtain⟨q,p,r',_,h3,h4,h5,h6⟩:=qH (((s.length:Int)-(1:Int)).toNat+1) s3 s3 1 s hs1 hlt (by omega) (by omega) (by omega) (by omega) rfl (fun _ _=>rfl) (by rw[show(s3+1).toNat=s3.toNat+1 by omega,hst]) (by omega);rw[h3];left;simp only;congr 1;rw[List.take_append_of_le_length (by rw[List.length_take];omega),List.take_take,Nat.min_self,h5]
   ·rw[if_neg heq];rw[if_neg heq,hd]at hst;exact ih (s3+1) (by omega) (by omega) (by
     rw[show(s3+1).toNat=s3.toNat+1 by omega,hst,List.take_add_one,ix,List.getElem?_eq_getElem (show s3.toNat<s.length by omega)];rfl) (by omega)
  ·rw[if_neg hlt];right;refine⟨⟨s3,rfl⟩,?_⟩;rw[List.take_of_length_le (by omega)]at hd;exact hd
end Go.Proofs.YtmpeiadlohbikaaGreatDoor
end

section
set_option linter.unusedVariables false
set_option linter.unusedSimpArgs false
namespace Go.Proofs.YtmpeiadlohbikaaGreatDoor
open Go.RowKit Go.MapKept
open Go.ChangeMaps (setBlock)
structure Gh where
 since:Nat
 c0:Nat
 seen:Array Nat
structure pU{α β:Type}(enc:α→Value)(ev:β→Value)(es:Array MapEntry)(clock:Nat)(m left cur:List (α×β))(gh:Gh):Prop where
 ok:nB enc ev es clock m
 old: ∀x∈es.toList,x.born<gh.since
 sc:gh.since≤gh.c0
 sk:gh.since≤clock
 cr: ∀p,cur= [p]→gh.c0=clock∧ ∃(e:MapEntry) (s:Array Nat),gh.seen=s.push e.born∧e∈es.toList∧e.key=enc p.1∧e.val=ev p.2
 lf:((leftOf es gh.seen).toList.map fun e=>(e.key,e.val)).Perm (left.map fun p=>(enc p.1,ev p.2))
theorem Hp.one1{w:World}{g:Nat}{o:Obj}(h:w.heap[g]? =some o):Hp w [(some g,o)]:=by
 refine⟨fun i g' o' hi=>?_,fun i j g' o1 o2 hi hj=>?_⟩
 ·cases i with
  |zero=>simp at hi;rw[←hi.1,←hi.2];exact h
  |succ i=>simp at hi
 ·cases i with
  |zero=>cases j with
   |zero=>rfl
   |succ j=>simp at hj
  |succ i=>simp at hi
theorem Fr.setB(w:World)(g:Nat)(o:Obj):Fr [g] w (setBlock w g o):=⟨rfl,rfl,rfl,by simp[Go.ChangeMaps.setBlock],fun k _ hk=>by
 show(w.heap.setIfInBounds g o)[k]? =_
 rw[Array.getElem?_setIfInBounds_ne (fun e=>hk (by simp[e]))],Nat.le_refl _⟩
theorem DQ{w:World}{g:Nat}{o:Obj}(h:g<w.heap.size):(setBlock w g o).heap[g]? =some o:=by
 show(w.heap.setIfInBounds g o)[g]? =_
 rw[Array.getElem?_setIfInBounds_self_of_lt h]
theorem fV(es:Array MapEntry)(seen:Array Nat):(leftOf es seen).toList=es.toList.filter fun e=>!seen.contains e.born:=by unfold leftOf;rw[←Array.toList_filter]
theorem yc{es:Array MapEntry}{seen:Array Nat}{e:MapEntry}{r r':List MapEntry}(hn:(es.toList.map (·.born)).Nodup)(h:(leftOf es seen).toList=r++e::r'):(leftOf es (seen.push e.born)).toList=r++r':=by
 have e1:(leftOf es (seen.push e.born)).toList=(leftOf es seen).toList.filter fun x=>!(x.born==e.born):=by
  rw[fV,fV,List.filter_filter];congr 1;funext x;rw[contains_push];cases seen.contains x.born<;>cases x.born==e.born<;>rfl
 have hn':((r++e::r').map (·.born)).Nodup:=by
  rw[←h,fV];exact List.Nodup.sublist ((List.filter_sublist).map _) hn
 rw[e1,h,List.filter_append,List.filter_cons];simp only[BEq.rfl,Bool.not_true,Bool.false_eq_true,if_false];rw[List.map_append,List.map_cons,List.nodup_append]at hn';obtain⟨h1,h2,h3⟩:=hn';rw[List.nodup_cons]at h2;congr 1
 ·refine List.filter_eq_self.2 fun x hx=>?_;have:=h3 x.born (List.mem_map_of_mem hx) e.born (by simp);simpa using this
 ·refine List.filter_eq_self.2 fun x hx=>?_;have:x.born≠e.born:=fun q=>h2.1 (by rw[←q];exact List.mem_map_of_mem hx);simpa using this
section
variable {α β:Type} {enc:α→Value} {ev:β→Value} {es:Array MapEntry} {clock:Nat} {m left cur:List (α×β)} {gh:Gh}
theorem pU.start(h:nB enc ev es clock m):pU enc ev es clock m m [] ⟨clock,clock, #[]⟩:=by
 refine⟨h,h.st.1,Nat.le_refl _,Nat.le_refl _,fun p e=>(by cases e),?_⟩;have e:(leftOf es #[]).toList=es.toList:=by rw[fV];exact List.filter_eq_self.2 fun x _=>by simp
 simp only[e,h.eq];exact List.Perm.refl _
theorem pU.next(h:pU enc ev es clock m left cur gh){e:MapEntry}(he:e∈(leftOf es gh.seen).toList): ∃r p r',left=r++p::r'∧e.key=enc p.1∧e.val=ev p.2∧pU enc ev es clock m (r++r') [p] ⟨gh.since,clock,gh.seen.push e.born⟩:=by
 obtain⟨a,b,hab⟩:=List.append_of_mem he;have h1:(e.key,e.val)∈left.map fun p=>(enc p.1,ev p.2):=h.lf.mem_iff.1 (List.mem_map.2 ⟨e,he,rfl⟩);obtain⟨p,hp,hpe⟩:=List.mem_map.1 h1;obtain⟨r,r',hr⟩:=List.append_of_mem hp;injection hpe with h2 h3;refine⟨r,p,r',hr,h2.symm,h3.symm,h.ok,h.old,h.sk,h.sk,fun q eq=>⟨rfl,e,gh.seen,rfl,(mem_left he).1,?_⟩,?_⟩
 ·injection eq with eq;subst eq;exact⟨h2.symm,h3.symm⟩
 simp only[yc h.ok.st.2.1 hab];have h4:=h.lf;rw[hab,hr,List.map_append,List.map_cons,List.map_append,List.map_cons,←h2,←h3]at h4;have h5:=(List.perm_middle.symm.trans h4).trans List.perm_middle;rw[List.map_append,List.map_append];exact h5.cons_inv
theorem pU.stop(h:pU enc ev es clock m left cur gh)(h0:(leftOf es gh.seen).size=0):left= []:=by
 have e:(leftOf es gh.seen).toList= []:=by rw[Array.eq_empty_of_size_eq_zero h0]
 have:=h.lf.length_eq;rw[e]at this;simpa using this.symm
variable [DecidableEq α]
theorem nN: ∀(m:List (α×β)),(m.map (·.1)).Nodup→ ∀k,gN m k=m.filter fun p=>decide (p.1≠k)
 | [],_,_=>rfl
 |a::r,hn,k=>by
  rw[List.map_cons,List.nodup_cons]at hn;unfold gN;by_cases e:a.1=k
  ·rw[if_pos e,List.filter_cons,if_neg (by simpa using e)];refine(List.filter_eq_self.2 fun x hx=>?_).symm;have:x.1≠k:=fun q=>hn.1 (by rw[e,←q];exact List.mem_map_of_mem hx);simpa using this
  ·rw[if_neg e,List.filter_cons,if_pos (by simpa using e),nN r hn.2]
omit [DecidableEq α]in
theorem nz{γ δ:Type}(f:γ→δ): ∀(l:List γ) (j:Nat),(l.eraseIdx j).map f=(l.map f).eraseIdx j
 | [],_=>rfl
 |_::_,0=>rfl
 |a::r,j+1=>by rw[List.eraseIdx_cons_succ,List.map_cons,List.map_cons,List.eraseIdx_cons_succ,nz f r j]
theorem nB.del{P:Program}{kt:TypeId}(L:fI P kt enc)(h:nB enc ev es clock m){j:Nat}{e:MapEntry}{k:α}(h2:es.toList[j]? =some e)(h3:(m.map (·.1))[j]? =some k):nB enc ev (es.eraseIdxIfInBounds j) clock (gN m k):=by
 refine⟨stamped_erase h.st j,?_⟩;have hlt:j<es.size:=(List.getElem?_eq_some_iff.1 h2).1;rw[A6 m (h.nd L) h3];unfold Array.eraseIdxIfInBounds;rw[dif_pos hlt,Array.toList_eraseIdx];rw[nz,nz,h.eq]
theorem pU.nd{P:Program}{kt:TypeId}(L:fI P kt enc)(h:pU enc ev es clock m left cur gh):(left.map (·.1)).Nodup:=by
 have h1:((leftOf es gh.seen).toList.map (·.key)).Nodup:=by
  rw[fV];exact List.Nodup.sublist ((List.filter_sublist).map _) h.ok.st.2.2
 have h2:=(h.lf.map Prod.fst);rw[List.map_map,List.map_map]at h2;have h3:(left.map fun p=>enc p.1).Nodup:=(h2.nodup_iff).1 h1;have h4:((left.map (·.1)).map enc).Nodup:=by rw[List.map_map];exact h3
 exact List.Pairwise.of_map enc (fun a b hab e=>hab (by rw[e])) h4
omit [DecidableEq α]in
theorem mK: ∀{l:List MapEntry} {j:Nat} {e:MapEntry},l[j]? =some e→(l.map (·.key)).Nodup→ ∀q:MapEntry→Bool,(∀x∈l,q x=true↔x.key≠e.key)→l.eraseIdx j=l.filter q
 | [],j,e,h,_,q,_=>by simp at h
 |a::r,0,e,h,hn,q,hq=>by
  simp at h;subst h;rw[List.map_cons,List.nodup_cons]at hn;have ha: ¬q a=true:=fun c=>(hq a (by simp)).1 c rfl;rw[List.filter_cons,if_neg ha,List.eraseIdx_cons_zero];refine(List.filter_eq_self.2 fun x hx=>(hq x (by simp[hx])).2 fun c=>hn.1 ?_).symm;rw[←c];exact List.mem_map_of_mem hx
 |a::r,j+1,e,h,hn,q,hq=>by
  simp only[List.getElem?_cons_succ]at h;rw[List.map_cons,List.nodup_cons]at hn;have ha:q a=true:=(hq a (by simp)).2 fun c=>hn.1 (by rw[c];exact List.mem_map_of_mem (List.mem_of_getElem? h));rw[List.filter_cons,if_pos ha,List.eraseIdx_cons_succ,mK h hn.2 q fun x hx=>hq x (by simp[hx])]
theorem pU.del{P:Program}{kt:TypeId}(L:fI P kt enc)(h:pU enc ev es clock m left cur gh){j:Nat}{e:MapEntry}{k:α}(h2:es.toList[j]? =some e)(h3:(m.map (·.1))[j]? =some k):pU enc ev (es.eraseIdxIfInBounds j) clock (gN m k) (gN left k) [] gh:=by
 have hsub:(es.eraseIdxIfInBounds j).toList.Sublist es.toList:=by
  unfold Array.eraseIdxIfInBounds;split
  ·simp only[Array.toList_eraseIdx];exact List.eraseIdx_sublist _ _
  ·exact List.Sublist.refl _
 refine⟨h.ok.del L h2 h3,fun x hx=>h.old x (hsub.subset hx),h.sc,h.sk,fun p e=>(by cases e),?_⟩;have hlt:j<es.size:=(List.getElem?_eq_some_iff.1 h2).1;obtain⟨p,hp,hpk,hpv⟩:=h.ok.at (x:=k) h2;have hpx:p.1=k:=by rw[List.getElem?_map,hp]at h3;simpa using h3
 have hek:e.key=enc k:=by rw[hpk,hpx]
 have hkey: ∀x∈es.toList,∃a,x.key=enc a:=fun x hx=>by
  have:x.key∈(m.map (·.1)).map enc:=by rw[←h.ok.ks];exact List.mem_map_of_mem hx
  obtain⟨a,_,ha⟩:=List.mem_map.1 this;exact⟨a,ha.symm⟩
 let q:Value×Value→Bool:=fun v=> @decide (v.1≠enc k) (Classical.propDecidable _)
 have hq: ∀v,q v=true↔v.1≠enc k:=fun v=>by simp[q]
 have e1:(es.eraseIdxIfInBounds j).toList=es.toList.filter fun x=>q (x.key,x.val):=by
  unfold Array.eraseIdxIfInBounds;rw[dif_pos hlt,Array.toList_eraseIdx];exact mK h2 h.ok.st.2.2 _ fun x hx=>by rw[hq,hek]
 have e2:(leftOf (es.eraseIdxIfInBounds j) gh.seen).toList.map (fun e=>(e.key,e.val))=((leftOf es gh.seen).toList.map fun e=>(e.key,e.val)).filter q:=by
  rw[fV,fV,e1,List.filter_map,List.filter_filter,List.filter_filter];congr 2;funext x;simp only[Function.comp];exact Bool.and_comm _ _
 have e3:(gN left k).map (fun p=>(enc p.1,ev p.2))=(left.map fun p=>(enc p.1,ev p.2)).filter q:=by
  rw[nN left (h.nd L) k,List.filter_map];congr 2;funext x;rw[Bool.eq_iff_iff];simp only[Function.comp,hq,decide_eq_true_eq];exact not_congr ⟨fun c=>by rw[c],fun c=>L.inj _ _ c⟩
 rw[e2,e3];exact h.lf.filter q
theorem pU.del0(h:pU enc ev es clock m left cur gh){k:α}(hk: ∀x∈m.map (·.1),x≠k){P:Program}{kt:TypeId}(L:fI P kt enc):gN left k=left:=by
 refine pJ left fun x hx e=>?_;obtain⟨p,hp,hpx⟩:=List.mem_map.1 hx;have h1:(enc p.1,ev p.2)∈(leftOf es gh.seen).toList.map fun e=>(e.key,e.val):=h.lf.mem_iff.2 (List.mem_map.2 ⟨p,hp,rfl⟩);obtain⟨y,hy,hy2⟩:=List.mem_map.1 h1;injection hy2 with hy2 _;have hyes:=(mem_left hy).1;have:y.key∈(m.map (·.1)).map enc:=by rw[←h.ok.ks];exact List.mem_map_of_mem hyes
 obtain⟨a,ha,ha2⟩:=List.mem_map.1 this;have:a=p.1:=L.inj _ _ (ha2.trans hy2);exact hk a ha (by rw[this,hpx,e])
end
section
variable [db] {P:Program} {n:Nat} {env:aS} {S:World→Prop} {o:Oper} {w:World} {H:cJ} {K:aS→World→Prop} {α β:Type} {enc:α→Value} {ev:β→Value} {es:Array MapEntry} {ms left cur:List (α×β)} {gh:Gh}
theorem HW{t kt et g clock:Nat}{x:Operand}(ho:o.op= .call {callee:= .builtin .len,args:= #[x],argTypes:= #[t]})(hx:env.ev x=some (.map (some g)))(ht:P.underlying t=some (.map kt et))(h: ∀w,S w→w.heap[g]? =some (.map es clock))(hM:nB enc ev es clock ms):cL P n env S o (.int .i64 ms.length):=fun a r w hS=>
 eN ho (r.eval hx) fun cs=>by
  have h:(Builtin.len_ #[t] o.type #[.map (some g)]).run P w= .ok (goInt es.size) w:=by simp[Builtin.len_,run_underlying ht,MapKept.run_getObj_map (h w hS)]
  simp only[builtin,Sem.run_bind,h,Result.andThen_ok];rw[hM.len];rfl
theorem AS{t kt et g d clock:Nat}{x:Operand}(ho:o.op= .range t x)(hd:o.dst=some d)(hn:Nat.blt d n=true)(hx:env.ev x=some (.map (some g)))(ht:P.underlying t=some (.map kt et))(hb:w.heap[g]? =some (.map es clock))(hM:nB enc ev es clock ms)
  (hK: ∀r w' gh,pU enc ev es clock ms ms [] gh→w'.heap[r]? =some (.mapIter (some g) gh.since gh.seen gh.c0)→Fr [] w w'→w.heap.size≤r→K ((d,.pointer (some ⟨r,0,none⟩))::env) w'):b9 P n env w o K:=by
 refine gF hd hn (fun a r=>?_) (hK w.heap.size (w.alloc (.mapIter (some g) clock #[] clock)) ⟨clock,clock, #[]⟩ (pU.start hM) (MapKept.heap_alloc w _).1 (Fr.alloc w _) (Nat.le_refl _));unfold execOp;have:=run_range_map (P:=P) w t kt et g es clock ht hb;simp only[ho,r.eval hx,Sem.run_bind,this,Result.andThen_ok];rfl
theorem DR{r g d clock:Nat}{x:Operand}(ho:o.op= .next x false)(hd:o.dst=some d)(hn:Nat.blt d n=true)(hx:env.ev x=some (.pointer (some ⟨r,0,none⟩)))(hr:w.heap[r]? =some (.mapIter (some g) gh.since gh.seen gh.c0))(hb:w.heap[g]? =some (.map es clock))(hR:pU enc ev es clock ms left cur gh)
  (h0:left= []→K ((d,.tuple #[.bool false])::env) w)
  (h1: ∀a p b gh' w',left=a++p::b→pU enc ev es clock ms (a++b) [p] gh'→w'.heap[r]? =some (.mapIter (some g) gh'.since gh'.seen gh'.c0)→Fr [r] w w'→K ((d,.tuple #[.bool true,enc p.1,ev p.2])::env) w'):b9 P n env w o K:=by
 rcases run_next_at (P:=P) w o.type r g gh.since gh.c0 gh.seen es clock hr hb hR.old hR.sc with⟨h2,hrun⟩|⟨e,he,w1,hal,hrun⟩
 ·refine gF hd hn (fun a q=>?_) (h0 (hR.stop h2));unfold execOp;simp only[ho,q.eval hx,Sem.run_bind,hrun,Result.andThen_ok];rfl
 ·obtain⟨a,p,b,e1,e2,e3,hR'⟩:=hR.next he;have hf1:Fr [] w w1:=by
   rcases hal with rfl|rfl
   ·exact Fr.refl _ _
   ·exact Fr.drew w
  have hlt:r<w1.heap.size:=Nat.lt_of_lt_of_le (Array.getElem?_eq_some_iff.1 hr).1 hf1.size;refine gF hd hn (fun a q=>?_) (h1 a p b _ (setBlock w1 r (.mapIter (some g) gh.since (gh.seen.push e.born) clock)) e1 hR' (DQ hlt) ((hf1.mono (by simp)).step (Fr.setB w1 r _) (fun y hy=> .inl hy)));unfold execOp;simp only[ho,q.eval hx,Sem.run_bind,hrun,Result.andThen_ok,e2,e3];rfl
theorem AU{r g clock:Nat}{x:Operand}{p:α×β}(ho:o.op= .entry x)(hx:env.ev x=some (.pointer (some ⟨r,0,none⟩)))(hr: ∀w,S w→w.heap[r]? =some (.mapIter (some g) gh.since gh.seen gh.c0))(hb: ∀w,S w→w.heap[g]? =some (.map es clock))(hR:pU enc ev es clock ms left [p] gh):cL P n env S o (.tuple #[enc p.1,ev p.2]):=fun a q w hS=>by
 obtain⟨e1,e,s,e2,h1,h2,h3⟩:=hR.cr p rfl;have hr:=hr w hS;rw[e1,e2]at hr;have hrun:=run_entry_at (P:=P) w r g gh.since s es clock e hr (hb w hS) h1 hR.ok.st.2.1;unfold execOp;simp only[ho,q.eval hx,Sem.run_bind,hrun,Result.andThen_ok,h2,h3];rfl
variable [DecidableEq α]
theorem qK{t t' kt et g clock:Nat}{m kx:Operand}{k:α}(ho:o.op= .call {callee:= .builtin .delete,args:= #[m,kx],argTypes:= #[t,t']})(hd:o.dst=none)
  (hm:env.ev m=some (.map (some g))) (hkx:env.ev kx=some (enc k)) (ht:P.underlying t=some (.map kt et)) (L:fI P kt enc)
  (hb:w.heap[g]? =some (.map es clock)) (hM:nB enc ev es clock ms)
  (hK: ∀es' w',nB enc ev es' clock (gN ms k)→(∀left cur gh,pU enc ev es clock ms left cur gh→pU enc ev es' clock (gN ms k) (gN left k) [] gh)→w'.heap[g]? =some (.map es' clock)→Fr [g] w w'→K env w'):b9 P n env w o K:=by
 rcases L.fnd k (ms.map (·.1)) es.toList hM.ks w with⟨h1,h2⟩|⟨j,e,h1,h2,h3⟩
 ·refine r5 hd (v:= .tuple #[]) (w':={w with heap:=w.heap.setIfInBounds g (.map es clock)}) (fun a r=>?_)
   (hK es _ (by rw[pJ ms h2];exact hM) (fun left cur gh hR=>by rw[pJ ms h2,hR.del0 h2 L];exact⟨hR.ok,hR.old,hR.sc,hR.sk,fun p e=>(by cases e),hR.lf⟩) (MapKept.heap_set hb).1 (Fr.setObj hb))
  unfold execOp;simp[ho,resolve,invoke,builtin,Builtin.delete_,r.eval hm,r.eval hkx,run_underlying ht,MapKept.run_getObj_map hb,L.chk,h1,MapKept.run_setObj_map _ hb]
 ·refine r5 hd (v:= .tuple #[]) (w':={w with heap:=w.heap.setIfInBounds g (.map (es.eraseIdxIfInBounds j) clock)}) (fun a r=>?_)
   (hK _ _ (hM.del L h2 h3) (fun left cur gh hR=>hR.del L h2 h3) (MapKept.heap_set hb).1 (Fr.setObj hb))
  unfold execOp;simp[ho,resolve,invoke,builtin,Builtin.delete_,r.eval hm,r.eval hkx,run_underlying ht,MapKept.run_getObj_map hb,L.chk,h1,MapKept.run_setObj_map _ hb]
end
end Go.Proofs.YtmpeiadlohbikaaGreatDoor
end

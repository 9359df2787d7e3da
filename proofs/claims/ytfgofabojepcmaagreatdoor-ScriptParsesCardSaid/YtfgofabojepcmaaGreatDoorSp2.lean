/- Ranges over a string: a rune and its place each time. -/
import Derived.Test.YtfgofabojepcmaaGreatDoorSp1
import Derived.ChangeKeysEq
import Derived.MapKept
import Derived.Maps.RangeRun
import Derived.Laws.RangeString
import Derived.Lib.OthersKept
import Derived.Lib.TrimU
section
set_option linter.unusedVariables false
set_option linter.unusedSimpArgs false
namespace Go.Proofs.YtfgofabojepcmaaGreatDoor
open Go.RowKit
def w5(P:Program)(rc:TypeId→List Value→List Value→Option Bool):List Field→List Value→List Value→Option Bool
 | [],_,_=>some true
 |f::fs,xs,ys=>if f.name≠ "_" then match (P.info? f.type).map (·.size)with
  |some k=>match rc f.type ((xs.drop f.offset).take k) ((ys.drop f.offset).take k),w5 P rc fs xs ys with
   |some a,some b=>some (a&&b)
   |_,_=>none
  |none=>none else none
def ug(rc:List Value→List Value→Option Bool)(k:Nat):List Nat→List Value→List Value→Option Bool
 | [],_,_=>some true
 |i::is,xs,ys=>match rc ((xs.drop (i*k)).take k) ((ys.drop (i*k)).take k),ug rc k is xs ys with
  |some a,some b=>some (a&&b)
  |_,_=>none
def cC(P:Program):Nat→TypeId→List Value→List Value→Option Bool
 |0,_,_,_=>none
 |d+1,t,xs,ys=>match P.underlying t with
  |some (.int _)=>match xs,ys with
   | [.int k a],[.int k' b]=>if k=k' then some (a==b)else none
   |_,_=>none
  |some .string=>match xs,ys with
   | [.string a],[.string b]=>some (a.data.toList==b.data.toList)
   |_,_=>none
  |some .bool=>match xs,ys with
   | [.bool a],[.bool b]=>some (a==b)
   |_,_=>none
  |some (.struct fs)=>if P.stoodInHeld t=false∧xs.length=P.cellsOf t∧ys.length=P.cellsOf t then w5 P (cC P d) fs.toList xs ys else none
  |some (.array n e)=>if 0<n∧xs.length=P.cellsOf t∧ys.length=P.cellsOf t then ug (cC P d e) (P.cellsOf e) (List.range n) xs ys else none
  |_=>none
def gZ(P:Program)(t:TypeId)(cs:List Value)(v:Value):Prop:=match P.underlying t with
 |some (.struct _)|some (.array _ _)=>v= .agg cs.toArray
 |_=>cs= [v]
theorem fG{P:Program}{t k:Nat}{xs:List Value}{off:Nat}(hk:(P.info? t).map (·.size)=some k)(w:World)(hne: ∀d:TypeDesc,P.underlying t=some d→(match d with| .struct _| .array _ _=>True|_=> ∃v,(xs.drop off).take k= [v]))(hu: ∃d,P.underlying t=some d):
  ∃v,(part t xs.toArray off).run P w= .ok v w∧gZ P t ((xs.drop off).take k) v:=by
 obtain⟨d,hd⟩:=hu;have h1:=hne d hd;have hz:=dA hk w;by_cases ha:(∃fs,d= .struct fs)∨(∃n e,d= .array n e)
 ·refine⟨.agg ((xs.drop off).take k).toArray,?_,?_⟩
  ·have hA:(isAgg t).run P w= .ok true w:=by
    unfold isAgg;simp only[Sem.run_bind,run_underlying hd,Result.andThen_ok];rcases ha with⟨fs,rfl⟩|⟨n,e,rfl⟩<;>rfl
   have he:xs.toArray.extract off (off+k)=((xs.drop off).take k).toArray:=by rw[List.extract_toArray,List.extract];simp
   simp[part,hA,hz]
  ·unfold gZ;rw[hd];rcases ha with⟨fs,rfl⟩|⟨n,e,rfl⟩<;>rfl
 ·have h2: ∃v,(xs.drop off).take k= [v]:=by
   cases d<;>first|exact h1|(exact absurd (.inl ⟨_,rfl⟩) ha)|(exact absurd (.inr ⟨_,_,rfl⟩) ha)
  obtain⟨v,hv⟩:=h2;refine⟨v,?_,?_⟩
  ·have hA:(isAgg t).run P w= .ok false w:=by
    unfold isAgg;simp only[Sem.run_bind,run_underlying hd,Result.andThen_ok];cases d<;>first|rfl|(exact absurd (.inl ⟨_,rfl⟩) ha)|(exact absurd (.inr ⟨_,_,rfl⟩) ha)
   have hg:xs.toArray[off]? =some v:=by
    have:((xs.drop off).take k)[0]? =some v:=by rw[hv];rfl
    rw[List.getElem?_take]at this;split at this
    ·simpa using this
    ·cases this
   simp[part,hA,hg]
  ·unfold gZ;rw[hd];cases d<;>first|exact hv|(exact absurd (.inl ⟨_,rfl⟩) ha)|(exact absurd (.inr ⟨_,_,rfl⟩) ha)
theorem jw{P:Program}{d:Nat}{t:TypeId}{xs ys:List Value}{b:Bool}(h:cC P d t xs ys=some b):(∃dd,P.underlying t=some dd)∧ ∀dd:TypeDesc,P.underlying t=some dd→(match dd with| .struct _| .array _ _=>True|_=> ∃v,xs= [v])∧(match dd with| .struct _| .array _ _=>True|_=> ∃v,ys= [v]):=by
 cases d with
 |zero=>cases h
 |succ d=>
  unfold cC at h;split at h
  ·rename_i k hu;refine⟨⟨_,hu⟩,fun dd e=>?_⟩;rw[hu]at e;injection e with e;subst e;split at h
   ·exact⟨⟨_,rfl⟩,_,rfl⟩
   ·cases h
  ·rename_i hu;refine⟨⟨_,hu⟩,fun dd e=>?_⟩;rw[hu]at e;injection e with e;subst e;split at h
   ·exact⟨⟨_,rfl⟩,_,rfl⟩
   ·cases h
  ·rename_i hu;refine⟨⟨_,hu⟩,fun dd e=>?_⟩;rw[hu]at e;injection e with e;subst e;split at h
   ·exact⟨⟨_,rfl⟩,_,rfl⟩
   ·cases h
  ·rename_i hu;refine⟨⟨_,hu⟩,fun dd e=>?_⟩;rw[hu]at e;injection e with e;subst e;exact⟨trivial,trivial⟩
  ·rename_i hu;refine⟨⟨_,hu⟩,fun dd e=>?_⟩;rw[hu]at e;injection e with e;subst e;exact⟨trivial,trivial⟩
  ·cases h
theorem fU{P:Program}: ∀(d:Nat) (t:TypeId) (xs ys:List Value) (b:Bool),cC P d t xs ys=some b→ ∀(x y:Value),gZ P t xs x→gZ P t ys y→ ∀(k:Nat) (w:World),(Op.equalIn (k+d) t x y).run P w= .ok b w
 |0,t,xs,ys,b,h,x,y,hx,hy,k,w=>by cases h
 |d+1,t,xs,ys,b,h,x,y,hx,hy,k,w=>by
  unfold cC at h;unfold gZ at hx hy;split at h
  ·rename_i kk hu;rw[hu]at hx hy;simp only at hx hy;subst hx;subst hy;split at h
   ·rename_i k1 a k2 b1 h1 h2;simp only[List.cons.injEq,and_true]at h1 h2;subst h1;subst h2;split at h
    ·rename_i e;subst e;injection h with h;subst h;exact run_equalIn_int w (k+d) t k1 kk a b1 hu
    ·cases h
   ·cases h
  ·rename_i hu;rw[hu]at hx hy;simp only at hx hy;subst hx;subst hy;split at h
   ·rename_i a b1 h1 h2;simp only[List.cons.injEq,and_true]at h1 h2;subst h1;subst h2;injection h with h;subst h;have:=run_equalIn_string w (k+d) t a b1 hu;rw[ByteArray.toList_eq,ByteArray.toList_eq]at this;exact this
   ·cases h
  ·rename_i hu;rw[hu]at hx hy;simp only at hx hy;subst hx;subst hy;split at h
   ·rename_i a b1 h1 h2;simp only[List.cons.injEq,and_true]at h1 h2;subst h1;subst h2;injection h with h;subst h;exact run_equalIn_bool' w (k+d) t a b1 hu
   ·cases h
  ·rename_i fs hu;rw[hu]at hx hy;simp only at hx hy;subst hx;subst hy;split at h
   ·rename_i hc;have hf:P.fieldsOf t=fs:=by simp[Program.fieldsOf,hu]
    rw[show k+(d+1)=(k+d)+1 from rfl,run_equalIn_struct w (k+d) t _ _ (by rw[hf];exact hu) hc.1,hf];have key: ∀(fs:List Field) (b:Bool),w5 P (cC P d) fs xs ys=some b→(Op.eqFields (k+d) xs.toArray ys.toArray fs).run P w= .ok b w:=by
     intro fs;induction fs with
     |nil=>intro b hb;simp only[w5,Option.some.injEq]at hb;subst hb;simp[Op.eqFields]
     |cons f fs ih=>
      intro b hb;unfold w5 at hb;split at hb
      ·rename_i hn;split at hb
       ·rename_i sz hsz;split at hb
        ·rename_i a1 b1 ha hb1;injection hb with hb;subst hb;obtain⟨hex,hone⟩:=jw ha;obtain⟨vx,px,qx⟩:=fG (xs:=xs) (off:=f.offset) hsz w (fun dd e=>(hone dd e).1) hex;obtain⟨vy,py,qy⟩:=fG (xs:=ys) (off:=f.offset) hsz w (fun dd e=>(hone dd e).2) hex;have hq:=fU d f.type _ _ a1 ha vx vy qx qy k w;have hih:=ih b1 hb1;unfold Op.eqFields;rw[if_pos hn];simp only[Sem.run_bind,px,py,Result.andThen_ok,hq];cases a1
         ·simp
         ·simpa using hih
        ·cases hb
       ·cases hb
      ·cases hb
    exact key _ _ h
   ·cases h
  ·rename_i n e hu;rw[hu]at hx hy;simp only at hx hy;subst hx;subst hy;split at h
   ·rename_i hc;have hinfo: ∃i,P.info? e=some i:=by
     obtain⟨n',rfl⟩: ∃q,n=q+1:=⟨n - 1,by omega⟩;rw[List.range_succ_eq_map]at h;unfold ug at h;split at h
     ·rename_i a1 b1 ha _;obtain⟨⟨dd,hdd⟩,_⟩:=jw ha;exact info_of_underlying hdd
     ·cases h
    have key: ∀(i:TypeInfo),P.info? e=some i→ ∀(is:List Nat) (b:Bool),ug (cC P d e) (P.cellsOf e) is xs ys=some b→(Op.eqItems (k+d) e (P.cellsOf e) xs.toArray ys.toArray is).run P w= .ok b w:=by
     intro inf hi is;induction is with
     |nil=>intro b hb;simp only[ug,Option.some.injEq]at hb;subst hb;simp[Op.eqItems]
     |cons i is ih=>
      intro b hb;unfold ug at hb;split at hb
      ·rename_i a1 b1 ha hb1;injection hb with hb;subst hb;have hsz:(P.info? e).map (·.size)=some (P.cellsOf e):=by simp[Program.cellsOf,hi]
       obtain⟨hex,hone⟩:=jw ha;obtain⟨vx,px,qx⟩:=fG (xs:=xs) (off:=i*P.cellsOf e) hsz w (fun dd e=>(hone dd e).1) hex;obtain⟨vy,py,qy⟩:=fG (xs:=ys) (off:=i*P.cellsOf e) hsz w (fun dd e=>(hone dd e).2) hex;have hq:=fU d e _ _ a1 ha vx vy qx qy k w;have hih:=ih b1 hb1;unfold Op.eqItems;simp only[Sem.run_bind,px,py,Result.andThen_ok,hq];cases a1
       ·simp
       ·simpa using hih
      ·cases hb
    obtain⟨i,hi⟩:=hinfo;rw[show k+(d+1)=(k+d)+1 from rfl,run_equalIn_array w (k+d) _ _ hu hi];exact key i hi _ _ h
   ·cases h
  ·cases h
section
variable [bF] {P:Program} {n:Nat} {env:aK} {S:World→Prop} {o:Oper}
theorem GV{x y:Operand}{t u:Nat}{xs ys:List Value}{b:Bool}(ho:o.op= .binOp .eql t x y u)(hx:env.ev x=some (.agg xs.toArray))(hy:env.ev y=some (.agg ys.toArray))(hg:P.eqGuardType P.depth t=false)(hv:cS P t≠none)(he:cC P 8 t xs ys=some b):cb P n env S o (.bool b):=fun a r w _=>by
 have hval: ∀cs:List Value,gZ P t cs (.agg cs.toArray):=fun cs=>by
  unfold gZ;unfold cS at hv;cases hu:P.underlying t with
  |none=>simp[hu]at hv
  |some d=>cases d<;>first|rfl|(simp[hu]at hv;done)
 have h:=fU 8 t xs ys b he _ _ (hval xs) (hval ys) 9992 w;have hge:=run_eqGuard_agg (P:=P) w .eql t x y xs.toArray ys.toArray hg;unfold execOp;simp only[ho,r.eval hx,r.eval hy,Sem.run_bind,hge,Result.andThen_ok,binOp];simp only[Op.equal,Op.maxDepth,h,Result.andThen_ok];rfl
theorem GW{x y:Operand}{t u:Nat}{xs ys:List Value}{b:Bool}(ho:o.op= .binOp .neq t x y u)(hx:env.ev x=some (.agg xs.toArray))(hy:env.ev y=some (.agg ys.toArray))(hg:P.eqGuardType P.depth t=false)(hv:cS P t≠none)(he:cC P 8 t xs ys=some b):cb P n env S o (.bool !b):=fun a r w _=>by
 have hval: ∀cs:List Value,gZ P t cs (.agg cs.toArray):=fun cs=>by
  unfold gZ;unfold cS at hv;cases hu:P.underlying t with
  |none=>simp[hu]at hv
  |some d=>cases d<;>first|rfl|(simp[hu]at hv;done)
 have h:=fU 8 t xs ys b he _ _ (hval xs) (hval ys) 9992 w;have hge:=run_eqGuard_agg (P:=P) w .neq t x y xs.toArray ys.toArray hg;unfold execOp;simp only[ho,r.eval hx,r.eval hy,Sem.run_bind,hge,Result.andThen_ok,binOp];simp only[Op.equal,Op.maxDepth,h,Result.andThen_ok];rfl
end
def nE(P:Program)(fv:Value)(args:List Value)(w:World)(Post:Value→World→Prop):Prop:= ∃(f:FuncId) (fi ca:List Value),fv= .func (.func f) fi.toArray ca.toArray∧Fn P f (fi++(args++ca)) w Post
theorem nE.of{P:Program}{f:FuncId}{args:List Value}{w:World}{Post:Value→World→Prop}(h:Fn P f args w Post):nE P (.func (.func f) #[] #[]) args w Post:=⟨f,[],[],rfl,by simpa using h⟩
theorem nE.ofc{P:Program}{f:FuncId}{args:List Value}{w:World}{Post:Value→World→Prop}(ca:List Value)(h:Fn P f (args++ca) w Post):nE P (.func (.func f) #[] ca.toArray) args w Post:=⟨f,[],ca,rfl,by simpa using h⟩
section
variable [bF] {P:Program} {n:Nat} {env:aK} {w:World} {o:Oper} {K:aK→World→Prop}
theorem iS{fx:Operand}{fv:Value}{xs:List Operand}{ts:Array TypeId}{vs:List Value}{Post:Value→World→Prop}(ho:o.op= .call {callee:= .value fx,args:=xs.toArray,argTypes:=ts}){d:Nat}(hd:o.dst=some d)(hn:Nat.blt d n=true)
  (hfx:env.ev fx=some fv) (hx:env.evs xs=some vs) (hc:nE P fv vs w Post) (hk: ∀v w',Post v w'→K ((d,v)::env) w'):cd P n env w o K:=fun a r=>by
 obtain⟨f,fi,ca,rfl,hc⟩:=hc;have e:(xs.toArray.map a.eval)=vs.toArray:=by rw[List.map_toArray,r.evals hx]
 have hrun:(execOp a.eval o).run P w= .ok (.enter f (fi++(vs++ca)).toArray) w:=by
  have h1:=hc.1;unfold bI at h1;cases hq:P.funcs[f]? with
  |none=>simp[hq]at h1
  |some fn=>
   simp only[hq,Bool.and_eq_true,Bool.not_eq_true',beq_eq_false_iff_ne]at h1;obtain⟨h2,h3⟩:=h1;have h4: ¬fn.body=none:=by intro hbb;simp[hbb]at h3
   unfold execOp;simp only[ho,resolve,e,r.eval hfx,Deferred.ofValue,Sem.run_bind,Sem.run_pure,Result.andThen_ok,invoke];simp[callFunc,hq,h2,h4]
 unfold Oper.wp;rw[hrun];refine Calls.mono hc.2 fun e w' ⟨v,he,hv⟩=>?_;subst he;have r':=r.put hn v;rw[←hd]at r';exact⟨_,r',hk v w' hv⟩
end
theorem w6 [bF]{P:Program}{n:Nat}{env:aK}{S:World→Prop}{o:Oper}{fn:Go.Fn}{fs cs:List Operand}{vf vc:List Value}(ho:o.op= .makeFunc fn fs.toArray cs.toArray)(hf:env.evs fs=some vf)(hc:env.evs cs=some vc):cb P n env S o (.func fn vf.toArray vc.toArray):=fun a r w _=>by
 have e1:(fs.toArray.map a.eval)=vf.toArray:=by rw[List.map_toArray,r.evals hf]
 have e2:(cs.toArray.map a.eval)=vc.toArray:=by rw[List.map_toArray,r.evals hc]
 unfold execOp;simp only[ho,e1,e2];rfl
theorem jA.isNil{α:Type}{enc:α→List Value}{X:List Nat}{w:World}{A:Option Addr}{c m:Nat}{l:List α}(h:jA X w A l.length c m (l.flatMap enc))(hm:0<m)(hA:A.isNone=true):l= []:=by
 have hA:A=none:=by simpa using hA
 have:=lX h.rd hA h.len hm;exact List.eq_nil_of_length_eq_zero this
theorem eF{α:Type} [BEq α] [LawfulBEq α]{a b:α}(h:(a==b)=false): ¬a=b:=fun e=>by subst e;simp at h
theorem EU{α:Type} [BEq α] [LawfulBEq α]{a b:α}(h:(a !=b)=false):a=b:=by simpa using h
section
variable [bF] {P:Program} {n:Nat} {ops:Array Oper} {Q:EQ} {l:List Oper} {pl:List (Bool×Nat)} {o:Oper} {env:aK} {w:World} {S:World→Prop} {d i:Nat} {x:Operand} {v:Value}
theorem MC(hg:o.guard=none)(hd:o.dst=some d)(hn:Nat.blt d n=true)(ho:o.op= .move x)(hx:env.ev x=some v)(hk:Ls P n ops Q l ((d,v)::env) w):Ls P n ops Q (o::l) env w:=aI (aR hg) hd hn (cf ho hx) hk
theorem MD(hg:o.guard=none)(hd:o.dst=some d)(hn:Nat.blt d n=true)(ho:o.op= .assign x)(hx:env.ev x=some v)(hk:Ls P n ops Q l ((d,v)::env) w):Ls P n ops Q (o::l) env w:=aI (aR hg) hd hn (cW ho hx) hk
end
end Go.Proofs.YtfgofabojepcmaaGreatDoor
end

section
namespace Go.Proofs.YtfgofabojepcmaaGreatDoor
open Go.MapKept
structure Mk(d:TypeDesc)(es:Array MapEntry)(clock:Nat)(f:Value→Option Value):Prop where
 st:Stamped es clock
 ks: ∀x∈es.toList,IsKey d x.key
 get: ∀k v,f k=some v↔ ∃x∈es.toList,x.key=k∧x.val=v
open Classical in
noncomputable def ur (f:Value→Option Value) (k v:Value):Value→Option Value:=fun k'=>if k'=k then some v else f k'
theorem nY(f:Value→Option Value)(k v:Value):ur f k v k=some v:=by simp[ur]
theorem tc(f:Value→Option Value){k k':Value}(v:Value)(h:k'≠k):ur f k v k'=f k':=by simp[ur,h]
theorem Mk.empty(d:TypeDesc):Mk d #[] 0 (fun _=>none):=⟨stamped_empty 0,by simp,by simp⟩
theorem Mk.none_{d:TypeDesc}{es:Array MapEntry}{clock:Nat}{f:Value→Option Value}(h:Mk d es clock f){k:Value}(hk: ∀x∈es.toList,x.key≠k):f k=none:=by
 cases hf:f k with
 |none=>rfl
 |some v=>
  obtain⟨x,hx,e,_⟩:=(h.get k v).1 hf;exact absurd e (hk x hx)
theorem Mk.push{d:TypeDesc}{es:Array MapEntry}{clock:Nat}{f:Value→Option Value}(h:Mk d es clock f){k v:Value}(hd:IsKey d k)(hk: ∀x∈es.toList,x.key≠k):Mk d (es.push {key:=k,val:=v,born:=clock}) (clock+1) (ur f k v):=by
 refine⟨stamped_push h.st hk,fun x hx=>?_,fun k' v'=>?_⟩
 ·simp only[Array.toList_push,List.mem_append,List.mem_singleton]at hx;rcases hx with hx|rfl
  ·exact h.ks x hx
  ·exact hd
 ·simp only[Array.toList_push,List.mem_append,List.mem_singleton];by_cases e:k'=k
  ·subst e;rw[nY];constructor
   ·intro e;cases e;exact⟨_,.inr rfl,rfl,rfl⟩
   ·rintro⟨x,hx|rfl,h1,h2⟩
    ·exact absurd h1 (hk x hx)
    ·simpa using h2
  ·rw[tc f v e,h.get];constructor
   ·rintro⟨x,hx,h1,h2⟩;exact⟨x,.inl hx,h1,h2⟩
   ·rintro⟨x,hx|rfl,h1,h2⟩
    ·exact⟨x,hx,h1,h2⟩
    ·exact absurd h1.symm e
theorem Mk.modify{d:TypeDesc}{es:Array MapEntry}{clock:Nat}{f:Value→Option Value}(h:Mk d es clock f){k v:Value}{j:Nat}{e:MapEntry}(hj:es[j]? =some e)(he:e.key=k):Mk d (es.modify j fun e=>{e with key:=k,val:=v}) clock (ur f k v):=by
 have hkey: ∀e',es[j]? =some e'→({e' with key:=k,val:=v}:MapEntry).key=e'.key:=fun e' he'=>by rw[hj]at he';cases he';exact he.symm
 have hnd:=h.st.2.2;refine⟨stamped_modify h.st _ _ (fun _ _=>rfl) (fun e' _ he'=>hkey e' he'),isKey_modify h.ks _ _ hkey,fun k' v'=>?_⟩;have hat: ∀i x,(es.modify j fun e=>{e with key:=k,val:=v})[i]? =some x↔(i=j∧x={e with key:=k,val:=v})∨(i≠j∧es[i]? =some x):=fun i x=>by
  rw[Array.getElem?_modify];by_cases hij:j=i
  ·subst hij;simp[hj,eq_comm]
  ·simp[hij,Ne.symm hij]
 have hmem: ∀x,x∈(es.modify j fun e=>{e with key:=k,val:=v}).toList↔x={e with key:=k,val:=v}∨ ∃i,i≠j∧es[i]? =some x:=fun x=>by
  rw[Array.mem_toList_iff,Array.mem_iff_getElem?];constructor
  ·rintro⟨i,hi⟩;rcases(hat i x).1 hi with⟨_,h⟩|⟨h1,h2⟩
   ·exact .inl h
   ·exact .inr ⟨i,h1,h2⟩
  ·rintro(h|⟨i,h1,h2⟩)
   ·exact⟨j,(hat j x).2 (.inl ⟨rfl,h⟩)⟩
   ·exact⟨i,(hat i x).2 (.inr ⟨h1,h2⟩)⟩
 have hne: ∀i x,i≠j→es[i]? =some x→x.key≠k:=fun i x hij hi hxk=>by
  have h1:(es.toList.map (·.key))[i]? =some k:=by simp[hi,hxk]
  have h2:(es.toList.map (·.key))[j]? =some k:=by simp[hj,he]
  have hlt:i<(es.toList.map (·.key)).length:=(List.getElem?_eq_some_iff.1 h1).1;exact hij ((List.getElem?_inj hlt hnd).1 (h1.trans h2.symm))
 by_cases ek:k'=k
 ·subst ek;rw[nY];constructor
  ·intro q;cases q;exact⟨_,(hmem _).2 (.inl rfl),rfl,rfl⟩
  ·rintro⟨x,hx,h1,h2⟩;rcases(hmem x).1 hx with rfl|⟨i,hi,hx⟩
   ·simpa using h2
   ·exact absurd h1 (hne i x hi hx)
 ·rw[tc f v ek,h.get];constructor
  ·rintro⟨x,hx,h1,h2⟩;obtain⟨i,hi⟩:=Array.mem_iff_getElem?.1 (Array.mem_toList_iff.1 hx);refine⟨x,(hmem x).2 (.inr ⟨i,fun q=>?_,hi⟩),h1,h2⟩;subst q;rw[hj]at hi;cases hi;exact ek (h1.symm.trans he)
  ·rintro⟨x,hx,h1,h2⟩;rcases(hmem x).1 hx with rfl|⟨i,_,hx⟩
   ·exact absurd h1.symm ek
   ·exact⟨x,Array.mem_toList_iff.2 (Array.mem_of_getElem? hx),h1,h2⟩
section
variable [bF] {P:Program} {n:Nat} {env:aK} {S:World→Prop} {o:Oper} {w:World} {H:bX} {K:aK→World→Prop}
omit [bF]in
theorem Fr.setObj{w:World}{g:Nat}{o o':Obj}(h:w.heap[g]? =some o):Fr [g] w {w with heap:=w.heap.setIfInBounds g o'}:=
 ⟨rfl,rfl,rfl,by simp,fun k _ hk=>(MapKept.heap_set h).2 k (by simpa using hk)⟩
theorem A7{t:Nat}(ho:o.op= .makeMap t none){d:Nat}(hd:o.dst=some d)(hn:Nat.blt d n=true)(h:Hp w H)
  (hk: ∀g w',Hp w' (H++ [(some g,.map #[] 0)])→Fr [] w w'→w.heap.size≤g→K ((d,(.map (some g)))::env) w'):cd P n env w o K:=by
 refine fX hd hn (v:= .map (some w.heap.size)) (w':=w.alloc (.map #[] 0)) (fun a r=>?_) (hk _ _ (h.alloc _) (Fr.alloc w _) (Nat.le_refl _));unfold execOp;simp[ho,Instr.makeMap]
def fI(P:Program)(t:Nat):Option Value:=(P.info? t).bind (·.zero)
omit [bF]in
theorem qA{t:Nat}{z:Value}(h:fI P t=some z)(w:World):(zeroValue t).run P w= .ok z w:=by
 unfold fI at h;cases hq:P.info? t with
 |none=>simp[hq]at h
 |some inf=>simp[hq]at h;simp[zeroValue,typeInfo,hq,h]
end
end Go.Proofs.YtfgofabojepcmaaGreatDoor
end

section
set_option linter.unusedVariables false
set_option linter.unusedSimpArgs false
namespace Go.Proofs.YtfgofabojepcmaaGreatDoor
open Go.RowKit Go.MapKept
def ea{α β:Type} [DecidableEq α](m:List (α×β))(k:α):Option β:=(m.find? (fun e=>decide (e.1=k))).map (·.2)
def lh{α β:Type} [DecidableEq α]:List (α×β)→α→β→List (α×β)
 | [],k,v=> [(k,v)]
 |e::r,k,v=>if e.1=k then(k,v)::r else e::lh r k v
def fz{α β:Type} [DecidableEq α]:List (α×β)→α→List (α×β)
 | [],_=> []
 |e::r,k=>if e.1=k then r else e::fz r k
structure fH{α:Type} [DecidableEq α](P:Program)(kt:TypeId)(enc:α→Value):Prop where
 inj: ∀x y,enc x=enc y→x=y
 chk: ∀em x w,(Instr.checkKey em 10000 kt (enc x)).run P w= .ok () w
 fnd: ∀(x:α) (ks:List α) (es:List MapEntry),es.map (·.key)=ks.map enc→ ∀w,((Instr.findKey kt (enc x) es).run P w= .ok none w∧ ∀k∈ks,k≠x)∨ ∃(j:Nat) (e:MapEntry),(Instr.findKey kt (enc x) es).run P w= .ok (some (j,e.val)) w∧es[j]? =some e∧ks[j]? =some x
 stay: ∀x w,(Instr.keyThatStays (enc x) (enc x)).run P w= .ok (enc x) w
theorem fH.plain{α:Type} [DecidableEq α]{P:Program}{kt:TypeId}{enc:α→Value}{d:TypeDesc}(hu:P.underlying kt=some d)(hk: ∀x,IsKey d (enc x))(inj: ∀x y,enc x=enc y→x=y):fH P kt enc:=
 ⟨inj,fun em x w=>run_checkKey hu (hk x) em 9999,fun x ks es he w=>by
  have hks: ∀e∈es,IsKey d e.key:=fun e hx=>by
   have:e.key∈ks.map enc:=by rw[←he];exact List.mem_map_of_mem hx
   obtain⟨y,_,hy⟩:=List.mem_map.1 this;rw[←hy];exact hk y
  rcases findNow_spec (hk x) es 0 hks with⟨h1,h2⟩|⟨j,e,h1,h2,h3⟩
  ·refine .inl ⟨run_findKey hu h1,fun k hk' e=>?_⟩;subst e;have:enc k∈es.map (·.key):=by rw[he];exact List.mem_map_of_mem hk'
   obtain⟨y,hy,e2⟩:=List.mem_map.1 this;exact h2 y hy e2
  ·refine .inr ⟨j,e,?_,h2,?_⟩
   ·have:=run_findKey (P:=P) (w:=w) hu h1;rw[Nat.zero_add]at this;exact this
   ·have h4:(es.map (·.key))[j]? =some (enc x):=by rw[List.getElem?_map,h2];simp[h3]
    rw[he,List.getElem?_map]at h4;cases hj:ks[j]? with
    |none=>rw[hj]at h4;cases h4
    |some y=>rw[hj]at h4;simp at h4;rw[inj _ _ h4],fun x w=>run_keyThatStays (hk x)⟩
theorem fH.int{P:Program}{kt:TypeId}{k:IntKind}(hu:P.underlying kt=some (.int k)):fH P kt (fun x:Int=> .int k x):=fH.plain hu (fun _=>rfl) (by intro x y h;injection h)
theorem fH.str{P:Program}{kt:TypeId}(hu:P.underlying kt=some .string):fH P kt (fun x:List UInt8=>sv x):=fH.plain hu (fun _=>trivial) (by intro x y h;injection h with h;injection h with h;simpa using h)
theorem fH.bool{P:Program}{kt:TypeId}(hu:P.underlying kt=some .bool):fH P kt (fun x:Bool=> .bool x):=fH.plain hu (fun _=>trivial) (by intro x y h;injection h)
def sZ:Value→Bool
 | .int _ _| .bool _| .string _=>true
 |_=>false
theorem A5{v:Value}(h:sZ v=true)(n:Nat):Instr.sameBits n v v=true:=by
 cases v<;>simp[sZ]at h<;>cases n<;>simp[Instr.sameBits,bytes_beq]
theorem xu(n:Nat)(cs:List Value)(h: ∀v∈cs,sZ v=true):Instr.sameBits (n+1) (.agg cs.toArray) (.agg cs.toArray)=true:=by
 unfold Instr.sameBits;simp only[BEq.rfl,Bool.true_and,List.all_eq_true];intro p hp;have:p.1=p.2∧p.1∈cs:=by
  clear h;revert hp;induction cs with
  |nil=>intro hp;simp at hp
  |cons a r ih=>
   intro hp;simp only[List.zip_cons_cons,List.mem_cons]at hp;rcases hp with rfl|hp
   ·simp
   ·obtain⟨h1,h2⟩:=ih hp;exact⟨h1,by simp[h2]⟩
 obtain⟨h1,h2⟩:=this;rw[←h1];exact A5 (h _ h2) n
theorem qw{d:TypeDesc}{cs:Array Value}(hd: ∀v,Instr.sameNow d (.agg cs) v=none): ∀(es:List MapEntry) (i:Nat),Instr.findNow d (.agg cs) es i=if es= []then some none else none
 | [],_=>rfl
 |e::r,i=>by simp[Instr.findNow,hd]
theorem fH.agg{α:Type} [DecidableEq α]{P:Program}{kt:TypeId}{enc:α→List Value}{kd:TypeDesc}(hu:P.underlying kt=some kd)(hkd: ∀cs v,Instr.sameNow kd (.agg cs) v=none)(hv:cS P kt≠none)(heq: ∀x y,cC P 8 kt (enc x) (enc y)=some (decide (x=y)))
  (hchk: ∀em x w,(Instr.checkKey em 10000 kt (.agg (enc x).toArray)).run P w= .ok () w) (hfl: ∀x,∀v∈enc x,sZ v=true):fH P kt (fun x=> .agg (enc x).toArray):=by
 have inj: ∀x y,enc x=enc y→x=y:=fun x y e=>by
  have h1:=heq x y;have h2:=heq x x;rw[←e,h2]at h1;simpa using h1
 have hval: ∀cs:List Value,gZ P kt cs (.agg cs.toArray):=fun cs=>by
  unfold gZ;unfold cS at hv;cases hu:P.underlying kt with
  |none=>simp[hu]at hv
  |some d=>cases d<;>first|rfl|(simp[hu]at hv;done)
 have hask: ∀(x:α) (ks:List α) (es:List MapEntry) (i:Nat),es.map (·.key)=ks.map (fun x=>Value.agg (enc x).toArray)→ ∀w,((Instr.findAsking kt (.agg (enc x).toArray) es i).run P w= .ok none w∧ ∀k∈ks,k≠x)∨ ∃(j:Nat) (e:MapEntry),(Instr.findAsking kt (.agg (enc x).toArray) es i).run P w= .ok (some (i+j,e.val)) w∧es[j]? =some e∧ks[j]? =some x:=by
  intro x ks es;induction es generalizing ks with
  |nil=>intro i he w;cases ks with
   |nil=>exact .inl ⟨rfl,by simp⟩
   |cons a r=>simp at he
  |cons e es ih=>
   intro i he w;cases ks with
   |nil=>simp at he
   |cons a r=>
    simp only[List.map_cons,List.cons.injEq]at he;have hrun:(Op.equal kt (.agg (enc x).toArray) e.key).run P w= .ok (decide (x=a)) w:=by
     rw[he.1];have h:=fU 8 kt (enc x) (enc a) _ (heq x a) _ _ (hval _) (hval _) 9992 w;simp only[Op.equal,Op.maxDepth,h]
    unfold Instr.findAsking;simp only[Sem.run_bind,hrun,Result.andThen_ok];by_cases ex:x=a
    ·subst ex;refine .inr ⟨0,e,by simp,rfl,rfl⟩
    ·simp only[ex,decide_false,Bool.false_eq_true,if_false];rcases ih r (i+1) he.2 w with⟨h1,h2⟩|⟨j,e',h1,h2,h3⟩
     ·exact .inl ⟨h1,fun k hk=>by
       rcases List.mem_cons.1 hk with rfl|hk
       ·exact fun q=>ex q.symm
       ·exact h2 k hk⟩
     ·exact .inr ⟨j+1,e',by rw[h1,show i+1+j=i+(j+1)by omega],by simpa using h2,by simpa using h3⟩
 refine⟨fun x y e=>inj x y (by simpa using e),hchk,fun x ks es he w=>?_,fun x w=>?_⟩
 ·have hs: ∀v,Instr.sameNow kd (.agg (enc x).toArray) v=none:=hkd _;have hn:=qw hs es 0;by_cases e0:es= []
  ·subst e0;have:ks= []:=by cases ks<;>simp at he;rfl
   subst this;exact .inl ⟨run_findKey hu rfl,by simp⟩
  ·rw[if_neg e0]at hn;have hfk:(Instr.findKey kt (.agg (enc x).toArray) es).run P w=(Instr.findAsking kt (.agg (enc x).toArray) es 0).run P w:=by
    simp[Instr.findKey,run_underlying hu,Result.andThen,hn]
   rw[hfk];have:=hask x ks es 0 he w;simpa using this
 ·have:=xu 9999 (enc x) (hfl x);simp only[Instr.keyThatStays,this,if_true];rfl
structure li{α β:Type}(enc:α→Value)(ev:β→Value)(es:Array MapEntry)(clock:Nat)(m:List (α×β)):Prop where
 st:Stamped es clock
 eq:es.toList.map (fun e=>(e.key,e.val))=m.map (fun p=>(enc p.1,ev p.2))
section
variable {α β:Type} {enc:α→Value} {ev:β→Value} {es:Array MapEntry} {clock:Nat} {m:List (α×β)}
theorem li.empty:li enc ev #[] 0 ([]:List (α×β)):=⟨stamped_empty 0,rfl⟩
theorem li.ks(h:li enc ev es clock m):es.toList.map (·.key)=(m.map (·.1)).map enc:=by
 have:=congrArg (List.map Prod.fst) h.eq;simpa[List.map_map,Function.comp_def]using this
theorem li.len(h:li enc ev es clock m):es.size=m.length:=by
 have:=congrArg List.length h.eq;simpa using this
theorem li.at{j:Nat}{e:MapEntry}{x:α}(h:li enc ev es clock m)(h1:es.toList[j]? =some e): ∃p,m[j]? =some p∧e.key=enc p.1∧e.val=ev p.2:=by
 have h2:=congrArg (fun l=>l[j]?) h.eq;simp only[List.getElem?_map,h1,Option.map_some]at h2;cases hm:m[j]? with
 |none=>rw[hm]at h2;cases h2
 |some p=>rw[hm]at h2;simp at h2;exact⟨p,rfl,h2.1,h2.2⟩
variable [DecidableEq α]
theorem li.nd{P:Program}{kt:TypeId}(L:fH P kt enc)(h:li enc ev es clock m):(m.map (·.1)).Nodup:=by
 have h1:=h.st.2.2;rw[h.ks]at h1;exact List.Pairwise.of_map enc (fun a b hab e=>hab (by rw[e])) h1
theorem uo(m:List (α×β)){x:α}(h: ∀k∈m.map (·.1),k≠x):ea m x=none:=by
 unfold ea;rw[List.find?_eq_none.2 fun e he=>by simpa using h e.1 (List.mem_map_of_mem he)];rfl
theorem A6(m:List (α×β))(nd:(m.map (·.1)).Nodup){j:Nat}{p:α×β}(h:m[j]? =some p):ea m p.1=some p.2:=by
 induction m generalizing j with
 |nil=>simp at h
 |cons a r ih=>
  simp only[List.map_cons,List.nodup_cons]at nd;unfold ea;cases j with
  |zero=>simp at h;subst h;simp
  |succ j=>
   simp at h;have hin:p∈r:=List.mem_of_getElem? h;have hne:a.1≠p.1:=fun e=>nd.1 (by rw[e];exact List.mem_map_of_mem hin);rw[List.find?_cons_of_neg (by simpa using hne)];exact ih nd.2 h
theorem xw(m:List (α×β)){x:α}(v:β)(h: ∀k∈m.map (·.1),k≠x):lh m x v=m++ [(x,v)]:=by
 induction m with
 |nil=>rfl
 |cons a r ih=>
  have h1:a.1≠x:=h a.1 (by simp);simp only[lh,h1,if_false,List.cons_append];rw[ih fun k hk=>h k (by simp at hk⊢;exact .inr hk)]
theorem xx(m:List (α×β))(nd:(m.map (·.1)).Nodup){x:α}(v:β){j:Nat}(h:(m.map (·.1))[j]? =some x):lh m x v=m.set j (x,v):=by
 induction m generalizing j with
 |nil=>simp at h
 |cons a r ih=>
  simp only[List.map_cons,List.nodup_cons]at nd;cases j with
  |zero=>simp at h;simp[lh,h]
  |succ j=>
   simp only[List.map_cons,List.getElem?_cons_succ]at h;have hne:a.1≠x:=fun e=>nd.1 (by rw[e];exact List.mem_of_getElem? h);simp only[lh,hne,if_false,List.set_cons_succ];rw[ih nd.2 h]
theorem m4(m:List (α×β)){x:α}(h: ∀k∈m.map (·.1),k≠x):fz m x=m:=by
 induction m with
 |nil=>rfl
 |cons a r ih=>
  have h1:a.1≠x:=h a.1 (by simp);simp only[fz,h1,if_false];rw[ih fun k hk=>h k (by simp at hk⊢;exact .inr hk)]
theorem xy(m:List (α×β))(nd:(m.map (·.1)).Nodup){x:α}{j:Nat}(h:(m.map (·.1))[j]? =some x):fz m x=m.eraseIdx j:=by
 induction m generalizing j with
 |nil=>simp at h
 |cons a r ih=>
  simp only[List.map_cons,List.nodup_cons]at nd;cases j with
  |zero=>simp at h;simp[fz,h]
  |succ j=>
   simp only[List.map_cons,List.getElem?_cons_succ]at h;have hne:a.1≠x:=fun e=>nd.1 (by rw[e];exact List.mem_of_getElem? h);simp only[fz,hne,if_false,List.eraseIdx_cons_succ];rw[ih nd.2 h]
end
section
variable [bF] {P:Program} {n:Nat} {env:aK} {S:World→Prop} {o:Oper} {w:World} {H:bX} {K:aK→World→Prop} {α β:Type} [DecidableEq α] {enc:α→Value} {ev:β→Value}
theorem xz{t kt et g i clock:Nat}{m kx x:Operand}{es:Array MapEntry}{ms:List (α×β)}{k:α}{u:β}(ho:o.op= .mapUpdate t m kx x)(hd:o.dst=none)
  (hm:env.ev m=some (.map (some g))) (hkx:env.ev kx=some (enc k)) (hx:env.ev x=some (ev u)) (ht:P.underlying t=some (.map kt et)) (L:fH P kt enc)
  (h:Hp w H) (hi:H[i]? =some (some g,.map es clock)) (hM:li enc ev es clock ms)
  (hK: ∀es' clock' w',li enc ev es' clock' (lh ms k u)→Hp w' (H.set i (some g,.map es' clock'))→Fr [g] w w'→K env w'):cd P n env w o K:=by
 have hb:=h.at hi;rcases L.fnd k (ms.map (·.1)) es.toList hM.ks w with⟨h1,h2⟩|⟨j,e,h1,h2,h3⟩
 ·refine rL hd (w':={w with heap:=w.heap.setIfInBounds g (.map (es.push {key:=enc k,val:=ev u,born:=clock}) (clock+1))}) (fun a r=>?_)
   (hK _ _ _ ⟨stamped_push hM.st fun y hy e=>?_,?_⟩ (h.setAt hi (Fr.setObj hb) (MapKept.heap_set hb).1) (Fr.setObj hb))
  ·unfold execOp;simp[ho,r.eval hm,r.eval hkx,r.eval hx,Instr.mapUpdate,run_underlying ht,MapKept.run_getObj_map hb,L.chk,h1,MapKept.run_setObj_map _ hb]
  ·have:y.key∈(ms.map (·.1)).map enc:=by rw[←hM.ks];exact List.mem_map_of_mem hy
   obtain⟨z,hz,e2⟩:=List.mem_map.1 this;exact h2 z hz (L.inj _ _ (e2.trans e))
  ·rw[xw ms u h2];simp[hM.eq]
 ·have hj:es[j]? =some e:=by simpa using h2
  obtain⟨p,hp,hpk,hpv⟩:=hM.at (x:=k) h2;have hpx:p.1=k:=by rw[List.getElem?_map,hp]at h3;simpa using h3
  have hek:e.key=enc k:=by rw[hpk,hpx]
  have hkey: ∀e',es[j]? =some e'→({e' with key:=enc k,val:=ev u}:MapEntry).key=e'.key:=fun e' he'=>by rw[hj]at he';cases he';exact hek.symm
  refine rL hd (w':={w with heap:=w.heap.setIfInBounds g (.map (es.modify j fun e=>{e with key:=enc k,val:=ev u}) clock)}) (fun a r=>?_)
   (hK (es.modify j fun e=>{e with key:=enc k,val:=ev u}) clock _ ⟨stamped_modify hM.st _ _ (fun _ _=>rfl) (fun e' _ he'=>hkey e' he'),?_⟩ (h.setAt hi (Fr.setObj hb) (MapKept.heap_set hb).1) (Fr.setObj hb))
  ·unfold execOp;simp[ho,r.eval hm,r.eval hkx,r.eval hx,Instr.mapUpdate,run_underlying ht,MapKept.run_getObj_map hb,L.chk,h1,hj,hek,L.stay,MapKept.run_setObj_map _ hb]
  ·rw[xx ms (hM.nd L) u h3];apply List.ext_getElem?;intro q;have hq:=congrArg (fun l=>l[q]?) hM.eq;simp only[List.getElem?_map,Array.getElem?_toList]at hq;rw[List.getElem?_map,List.getElem?_map,List.getElem?_set,Array.getElem?_toList,Array.getElem?_modify];by_cases e:j=q
   ·subst e;have hlt:j<ms.length:=(List.getElem?_eq_some_iff.1 hp).1;simp[hj,hlt]
   ·simp only[e,if_false];exact hq
omit [bF]in
theorem Cd{kt clock:Nat}{es:Array MapEntry}{ms:List (α×β)}(L:fH P kt enc)(hM:li enc ev es clock ms)(k:α)(w:World): ∃r,(Instr.findKey kt (enc k) es.toList).run P w= .ok r w∧r.map (·.2)=(ea ms k).map ev:=by
 rcases L.fnd k (ms.map (·.1)) es.toList hM.ks w with⟨h1,h2⟩|⟨j,e,h1,h2,h3⟩
 ·exact⟨_,h1,by rw[uo ms h2];rfl⟩
 ·obtain⟨p,hp,hpk,hpv⟩:=hM.at (x:=k) h2;have hpx:p.1=k:=by rw[List.getElem?_map,hp]at h3;simpa using h3
  exact⟨_,h1,by rw[←hpx,A6 ms (hM.nd L) hp,hpv];rfl⟩
theorem uq{t kt et g i clock:Nat}{m kx:Operand}{es:Array MapEntry}{ms:List (α×β)}{k:α}{z:β}(ho:o.op= .lookup t m kx false)
  (hm:env.ev m=some (.map (some g))) (hkx:env.ev kx=some (enc k)) (ht:P.underlying t=some (.map kt et)) (L:fH P kt enc) (hz:fI P et=some (ev z))
  (h: ∀w,S w→Hp w H) (hi:H[i]? =some (some g,.map es clock)) (hM:li enc ev es clock ms):cb P n env S o (ev ((ea ms k).getD z)):=fun a r w hS=>by
 have hb:=(h w hS).at hi;obtain⟨q,h1,h2⟩:=Cd L hM k w;unfold execOp;cases q with
 |none=>
  cases hg:ea ms k with
  |some _=>rw[hg]at h2;cases h2
  |none=>simp[ho,r.eval hm,r.eval hkx,Instr.lookup,run_underlying ht,MapKept.run_getObj_map hb,L.chk,h1,qA hz]
 |some q=>
  cases hg:ea ms k with
  |none=>rw[hg]at h2;cases h2
  |some u=>rw[hg]at h2;simp at h2;simp[ho,r.eval hm,r.eval hkx,Instr.lookup,run_underlying ht,MapKept.run_getObj_map hb,L.chk,h1,h2]
theorem qz{t kt et g i clock:Nat}{m kx:Operand}{es:Array MapEntry}{ms:List (α×β)}{k:α}{z:β}(ho:o.op= .lookup t m kx true)
  (hm:env.ev m=some (.map (some g))) (hkx:env.ev kx=some (enc k)) (ht:P.underlying t=some (.map kt et)) (L:fH P kt enc) (hz:fI P et=some (ev z))
  (h: ∀w,S w→Hp w H) (hi:H[i]? =some (some g,.map es clock)) (hM:li enc ev es clock ms):cb P n env S o (.tuple #[ev ((ea ms k).getD z),.bool (ea ms k).isSome]):=fun a r w hS=>by
 have hb:=(h w hS).at hi;obtain⟨q,h1,h2⟩:=Cd L hM k w;unfold execOp;cases q with
 |none=>
  cases hg:ea ms k with
  |some _=>rw[hg]at h2;cases h2
  |none=>simp[ho,r.eval hm,r.eval hkx,Instr.lookup,run_underlying ht,MapKept.run_getObj_map hb,L.chk,h1,qA hz]
 |some q=>
  cases hg:ea ms k with
  |none=>rw[hg]at h2;cases h2
  |some u=>rw[hg]at h2;simp at h2;simp[ho,r.eval hm,r.eval hkx,Instr.lookup,run_underlying ht,MapKept.run_getObj_map hb,L.chk,h1,h2]
end
end Go.Proofs.YtfgofabojepcmaaGreatDoor
end

section
set_option linter.unusedVariables false
set_option linter.unusedSimpArgs false
namespace Go.Proofs.YtfgofabojepcmaaGreatDoor
open Go.RowKit
theorem St.other{X Y:List Nat}{w w':World}{H:bX}{K:List Kf}(h:St X w H K)(hf:Fr Y w w')(hY: ∀y∈Y,y∈X):St X w' H K:=
 ⟨h.hp.keep hf (fun k hk hy=>h.dj k (hY k hy) hk),fun k hk=>k.st (h.kr k hk) (hf.mono fun y hy=>List.mem_append_right _ (hY y hy)) (fun _ hy=> .inl hy),fun x hx=>Nat.lt_of_lt_of_le (h.lo x hx) hf.size,h.dj⟩
theorem Ow.cut{α:Type}{enc:α→List Value}{A:Option Addr}{c m l:Nat}{xs:List α}{sp:List Value}(hm: ∀x,(enc x).length=m)(h:Ow A l c m (xs.flatMap enc) sp)(hl:l=xs.length)(k:Nat):
  Ow A (xs.take k).length c m ((xs.take k).flatMap enc) ((xs.drop k).flatMap enc++sp):=by
 subst hl;refine⟨dW hm _,?_⟩;rcases h.2 with⟨h1,h2,h3,h4⟩|⟨g,h1,h2,h3,h4⟩
 ·have:xs= []:=List.eq_nil_of_length_eq_zero h2;subst this;exact .inl ⟨h1,by simp,h3,by simp[h4]⟩
 ·refine .inr ⟨g,h1,?_,?_,h4⟩
  ·rw[←List.append_assoc,←List.flatMap_append,List.take_append_drop];exact h2
  ·rw[List.length_take];omega
theorem uk{α:Type}{enc:α→List Value}{xs:List α}{sp:List Value}(k:Nat):xs.flatMap enc++sp=(xs.take k).flatMap enc++((xs.drop k).flatMap enc++sp):=by
 rw[←List.append_assoc,←List.flatMap_append,List.take_append_drop]
theorem sX: ∀(x y:List UInt8),Op.bytesLess x y=decide (x<y)
 |_,[]=>by simp[Op.bytesLess]
 | [],_::_=>by simp[Op.bytesLess]
 |a::x,b::y=>by
  rw[Op.bytesLess,sX x y];simp only[List.cons_lt_cons_iff,Bool.decide_or,Bool.decide_and];rfl
theorem Cb(x y:List UInt8):(Op.bytesLess x y||x==y)=decide (x≤y):=by
 rw[sX];by_cases h:x<y
 ·simp[h,List.le_of_lt h]
 ·by_cases e:x=y
  ·subst e;simp
  ·have: ¬x≤y:=fun hle=>by rcases List.le_iff_lt_or_eq.mp hle with h'|h'<;>contradiction
   simp[h,e,this]
section
variable [bF] {P:Program} {n:Nat} {env:aK} {S:World→Prop} {o:Oper} {w:World} {H:bX} {K:aK→World→Prop} {α:Type} {enc:α→List Value}
theorem AW{t e m c l:Nat}{A:Option Addr}{xs:List α}{x:Operand}{lo hi:Option Operand}{q:Int}{sp:List Value}(ho:o.op= .slice t x lo hi none)(hx:env.ev x=some (.slice A l c))(hl:l=xs.length)(ht:bn P t=some (e,m))(hlo:iz env lo=some 0)(hhi:kC env l hi=some q)
  (h1:0≤q) (h2:q≤xs.length) (how:Ow A l c m (xs.flatMap enc) sp):cb P n env S o (.slice A (xs.take q.toNat).length c):=by
 subst hl;have hlc:xs.length≤c:=by rcases how.2 with⟨_,h,h',_⟩|⟨g,_,_,h,_⟩<;>omega
 have:=pa (P:=P) (n:=n) (S:=S) ho hx ht hlo hhi (by omega) h1 (by omega) hlc;have e1:(if c=(0:Int).toNat then A else A.map (·.add ((0:Int).toNat*m)))=A:=by
  split
  ·rfl
  ·cases A with
   |none=>rfl
   |some a=>simp[Addr.add]
 rw[e1]at this;have e2:(xs.take q.toNat).length=q.toNat -(0:Int).toNat:=by rw[List.length_take];omega
 rw[e2];exact this
theorem G2{x y:Operand}{t u:Nat}{p q:List UInt8}(ho:o.op= .binOp .lss t x y u)(hx:env.ev x=some (sv p))(hy:env.ev y=some (sv q)):cb P n env S o (.bool (decide (p<q))):=fun a r w _=>by
 unfold execOp;simp[ho,r.eval hx,r.eval hy,eqGuard,binOp,Op.stringOp,sX]
theorem G3{x y:Operand}{t u:Nat}{p q:List UInt8}(ho:o.op= .binOp .leq t x y u)(hx:env.ev x=some (sv p))(hy:env.ev y=some (sv q)):cb P n env S o (.bool (decide (p≤q))):=fun a r w _=>by
 unfold execOp;simp[ho,r.eval hx,r.eval hy,eqGuard,binOp,Op.stringOp,Cb]
theorem G4{x y:Operand}{t u:Nat}{p q:List UInt8}(ho:o.op= .binOp .gtr t x y u)(hx:env.ev x=some (sv p))(hy:env.ev y=some (sv q)):cb P n env S o (.bool (decide (q<p))):=fun a r w _=>by
 have e:(!decide (p≤q))=decide (q<p):=by rw[←decide_not];exact decide_eq_decide.mpr List.not_le
 unfold execOp;simp[ho,r.eval hx,r.eval hy,eqGuard,binOp,Op.stringOp,Cb,←e]
theorem G5{x y:Operand}{t u:Nat}{p q:List UInt8}(ho:o.op= .binOp .geq t x y u)(hx:env.ev x=some (sv p))(hy:env.ev y=some (sv q)):cb P n env S o (.bool (decide (q≤p))):=fun a r w _=>by
 have e:(!decide (p<q))=decide (q≤p):=by rw[←decide_not];exact decide_eq_decide.mpr List.not_lt
 unfold execOp;simp[ho,r.eval hx,r.eval hy,eqGuard,binOp,Op.stringOp,sX,←e]
theorem G6{t l e:Nat}{x ix:Operand}{k:IntKind}{q:Int}{us:List Value}{v:Value}(ho:o.op= .index t x ix)(hx:env.ev x=some (.agg us.toArray))(hi:env.ev ix=some (.int k q))(ht:P.underlying t=some (.array l e))(hs:(P.info? e).map (·.size)=some 1)(hp:cA P e=true)(h0:0≤q)(h1:q<l)(hv:us[q.toNat]? =some v):cb P n env S o v:=fun a r w _=>by
 have hA:(isAgg e).run P w= .ok false w:=by
  unfold cA at hp;cases hu':P.underlying e with
  |none=>simp[hu']at hp
  |some d=>
   unfold isAgg;simp only[Sem.run_bind,run_underlying hu',Result.andThen_ok];cases d<;>simp[hu']at hp<;>rfl
 cases hq:P.info? e with
 |none=>simp[hq]at hs
 |some i=>
  have hs:i.size=1:=by simpa[hq]using hs
  unfold execOp;simp[ho,r.eval hx,r.eval hi,Instr.index,asIntOf,run_underlying ht,h0,h1,sizeOf,typeInfo,hq,hs,part,hA,hv]
theorem xl{t l e m:Nat}{ps:List (Nat×Operand)}{vs zs cells:List Value}(ho:o.op= .build t ps.toArray)(hx:env.evs (ps.map (·.2))=some vs)(ht:P.underlying t=some (.array l e))(hs:(P.info? e).map (·.size)=some m)(hz:zeroCells P t=some zs)
  (hf:Instr.fill (fun i=>some (i*m,m)) zs.toArray ((ps.map (·.1)).zip vs)=some cells.toArray):cb P n env S o (.agg cells.toArray):=fun a r w _=>by
 have e':(ps.toArray.map fun(i,x)=>(i,a.eval x)).toList=(ps.map (·.1)).zip vs:=by
  rw[←r.evals hx];simp only[List.map_toArray,List.map_map];clear ho hx hf;induction ps with
  |nil=>rfl
  |cons p ps ih=>obtain⟨i,x⟩:=p;simpa using ih
 unfold zeroCells at hz;cases hq:P.info? t with
 |none=>simp[hq]at hz
 |some it=>
  cases hzz:it.zero with
  |none=>simp[hq,hzz]at hz
  |some z=>
   have hz':z.cells=zs.toArray:=by simp[hq,hzz]at hz;rw[←hz]
   cases hqe:P.info? e with
   |none=>simp[hqe]at hs
   |some i=>
    have hs:i.size=m:=by simpa[hqe]using hs
    have hb:(Instr.build t (ps.toArray.map fun(i,x)=>(i,a.eval x))).run P w= .ok (.agg cells.toArray) w:=by
     unfold Instr.build;simp only[e'];simp[zeroValue,typeInfo,hq,hzz,run_underlying ht,sizeOf,hqe,hs,hz',hf]
    unfold execOp;simp only[ho];simp only[Sem.run_bind,hb,Result.andThen_ok];rfl
theorem G7{x:Operand}{t:Nat}{k:IntKind}{p c:Int}(ho:o.op= .unOp .neg t x)(hx:env.ev x=some (.int k p))(hw:k.wrap (0 - p)=c):cb P n env S o (.int k c):=fun a r w _=>by
 unfold execOp;simp only[Int.zero_sub]at hw;simp[ho,r.eval hx,Op.unary,Op.intArith,hw]
end
end Go.Proofs.YtfgofabojepcmaaGreatDoor
end

section
set_option linter.unusedVariables false
set_option linter.unusedSimpArgs false
namespace Go.Proofs.YtfgofabojepcmaaGreatDoor
open Go.RowKit Go.MapKept
open Go.ChangeMaps (setBlock)
structure Gh where
 since:Nat
 c0:Nat
 seen:Array Nat
structure ni{α β:Type}(enc:α→Value)(ev:β→Value)(es:Array MapEntry)(clock:Nat)(m left cur:List (α×β))(gh:Gh):Prop where
 ok:li enc ev es clock m
 old: ∀x∈es.toList,x.born<gh.since
 sc:gh.since≤gh.c0
 sk:gh.since≤clock
 cr: ∀p,cur= [p]→gh.c0=clock∧ ∃(e:MapEntry) (s:Array Nat),gh.seen=s.push e.born∧e∈es.toList∧e.key=enc p.1∧e.val=ev p.2
 lf:((leftOf es gh.seen).toList.map fun e=>(e.key,e.val)).Perm (left.map fun p=>(enc p.1,ev p.2))
theorem Hp.one1{w:World}{g:Nat}{o:Obj}(h:w.heap[g]? =some o):Hp w [(some g,o)]:=by
 refine⟨fun i g' o' hi=>?_,fun i j g' o1 o2 hi hj=>?_⟩
 ·cases i with
  |zero=>simp at hi;rw[←hi.1,←hi.2];exact h
  |succ i=>simp at hi
 ·cases i with
  |zero=>cases j with
   |zero=>rfl
   |succ j=>simp at hj
  |succ i=>simp at hi
theorem Fr.setB(w:World)(g:Nat)(o:Obj):Fr [g] w (setBlock w g o):=⟨rfl,rfl,rfl,by simp[Go.ChangeMaps.setBlock],fun k _ hk=>by
 show(w.heap.setIfInBounds g o)[k]? =_
 rw[Array.getElem?_setIfInBounds_ne (fun e=>hk (by simp[e]))]⟩
theorem AS{w:World}{g:Nat}{o:Obj}(h:g<w.heap.size):(setBlock w g o).heap[g]? =some o:=by
 show(w.heap.setIfInBounds g o)[g]? =_
 rw[Array.getElem?_setIfInBounds_self_of_lt h]
theorem eW(es:Array MapEntry)(seen:Array Nat):(leftOf es seen).toList=es.toList.filter fun e=>!seen.contains e.born:=by unfold leftOf;rw[←Array.toList_filter]
theorem uj{es:Array MapEntry}{seen:Array Nat}{e:MapEntry}{r r':List MapEntry}(hn:(es.toList.map (·.born)).Nodup)(h:(leftOf es seen).toList=r++e::r'):(leftOf es (seen.push e.born)).toList=r++r':=by
 have e1:(leftOf es (seen.push e.born)).toList=(leftOf es seen).toList.filter fun x=>!(x.born==e.born):=by
  rw[eW,eW,List.filter_filter];congr 1;funext x;rw[contains_push];cases seen.contains x.born<;>cases x.born==e.born<;>rfl
 have hn':((r++e::r').map (·.born)).Nodup:=by
  rw[←h,eW];exact List.Nodup.sublist ((List.filter_sublist).map _) hn
 rw[e1,h,List.filter_append,List.filter_cons];simp only[BEq.rfl,Bool.not_true,Bool.false_eq_true,if_false];rw[List.map_append,List.map_cons,List.nodup_append]at hn';obtain⟨h1,h2,h3⟩:=hn';rw[List.nodup_cons]at h2;congr 1
 ·refine List.filter_eq_self.2 fun x hx=>?_;have:=h3 x.born (List.mem_map_of_mem hx) e.born (by simp);simpa using this
 ·refine List.filter_eq_self.2 fun x hx=>?_;have:x.born≠e.born:=fun q=>h2.1 (by rw[←q];exact List.mem_map_of_mem hx);simpa using this
section
variable {α β:Type} {enc:α→Value} {ev:β→Value} {es:Array MapEntry} {clock:Nat} {m left cur:List (α×β)} {gh:Gh}
theorem ni.start(h:li enc ev es clock m):ni enc ev es clock m m [] ⟨clock,clock, #[]⟩:=by
 refine⟨h,h.st.1,Nat.le_refl _,Nat.le_refl _,fun p e=>(by cases e),?_⟩;have e:(leftOf es #[]).toList=es.toList:=by rw[eW];exact List.filter_eq_self.2 fun x _=>by simp
 simp only[e,h.eq];exact List.Perm.refl _
theorem ni.next(h:ni enc ev es clock m left cur gh){e:MapEntry}(he:e∈(leftOf es gh.seen).toList): ∃r p r',left=r++p::r'∧e.key=enc p.1∧e.val=ev p.2∧ni enc ev es clock m (r++r') [p] ⟨gh.since,clock,gh.seen.push e.born⟩:=by
 obtain⟨a,b,hab⟩:=List.append_of_mem he;have h1:(e.key,e.val)∈left.map fun p=>(enc p.1,ev p.2):=h.lf.mem_iff.1 (List.mem_map.2 ⟨e,he,rfl⟩);obtain⟨p,hp,hpe⟩:=List.mem_map.1 h1;obtain⟨r,r',hr⟩:=List.append_of_mem hp;injection hpe with h2 h3;refine⟨r,p,r',hr,h2.symm,h3.symm,h.ok,h.old,h.sk,h.sk,fun q eq=>⟨rfl,e,gh.seen,rfl,(mem_left he).1,?_⟩,?_⟩
 ·injection eq with eq;subst eq;exact⟨h2.symm,h3.symm⟩
 simp only[uj h.ok.st.2.1 hab];have h4:=h.lf;rw[hab,hr,List.map_append,List.map_cons,List.map_append,List.map_cons,←h2,←h3]at h4;have h5:=(List.perm_middle.symm.trans h4).trans List.perm_middle;rw[List.map_append,List.map_append];exact h5.cons_inv
theorem ni.stop(h:ni enc ev es clock m left cur gh)(h0:(leftOf es gh.seen).size=0):left= []:=by
 have e:(leftOf es gh.seen).toList= []:=by rw[Array.eq_empty_of_size_eq_zero h0]
 have:=h.lf.length_eq;rw[e]at this;simpa using this.symm
variable [DecidableEq α]
theorem lG: ∀(m:List (α×β)),(m.map (·.1)).Nodup→ ∀k,fz m k=m.filter fun p=>decide (p.1≠k)
 | [],_,_=>rfl
 |a::r,hn,k=>by
  rw[List.map_cons,List.nodup_cons]at hn;unfold fz;by_cases e:a.1=k
  ·rw[if_pos e,List.filter_cons,if_neg (by simpa using e)];refine(List.filter_eq_self.2 fun x hx=>?_).symm;have:x.1≠k:=fun q=>hn.1 (by rw[e,←q];exact List.mem_map_of_mem hx);simpa using this
  ·rw[if_neg e,List.filter_cons,if_pos (by simpa using e),lG r hn.2]
omit [DecidableEq α]in
theorem ld{γ δ:Type}(f:γ→δ): ∀(l:List γ) (j:Nat),(l.eraseIdx j).map f=(l.map f).eraseIdx j
 | [],_=>rfl
 |_::_,0=>rfl
 |a::r,j+1=>by rw[List.eraseIdx_cons_succ,List.map_cons,List.map_cons,List.eraseIdx_cons_succ,ld f r j]
theorem li.del{P:Program}{kt:TypeId}(L:fH P kt enc)(h:li enc ev es clock m){j:Nat}{e:MapEntry}{k:α}(h2:es.toList[j]? =some e)(h3:(m.map (·.1))[j]? =some k):li enc ev (es.eraseIdxIfInBounds j) clock (fz m k):=by
 refine⟨stamped_erase h.st j,?_⟩;have hlt:j<es.size:=(List.getElem?_eq_some_iff.1 h2).1;rw[xy m (h.nd L) h3];unfold Array.eraseIdxIfInBounds;rw[dif_pos hlt,Array.toList_eraseIdx];rw[ld,ld,h.eq]
theorem ni.nd{P:Program}{kt:TypeId}(L:fH P kt enc)(h:ni enc ev es clock m left cur gh):(left.map (·.1)).Nodup:=by
 have h1:((leftOf es gh.seen).toList.map (·.key)).Nodup:=by
  rw[eW];exact List.Nodup.sublist ((List.filter_sublist).map _) h.ok.st.2.2
 have h2:=(h.lf.map Prod.fst);rw[List.map_map,List.map_map]at h2;have h3:(left.map fun p=>enc p.1).Nodup:=(h2.nodup_iff).1 h1;have h4:((left.map (·.1)).map enc).Nodup:=by rw[List.map_map];exact h3
 exact List.Pairwise.of_map enc (fun a b hab e=>hab (by rw[e])) h4
omit [DecidableEq α]in
theorem kF: ∀{l:List MapEntry} {j:Nat} {e:MapEntry},l[j]? =some e→(l.map (·.key)).Nodup→ ∀q:MapEntry→Bool,(∀x∈l,q x=true↔x.key≠e.key)→l.eraseIdx j=l.filter q
 | [],j,e,h,_,q,_=>by simp at h
 |a::r,0,e,h,hn,q,hq=>by
  simp at h;subst h;rw[List.map_cons,List.nodup_cons]at hn;have ha: ¬q a=true:=fun c=>(hq a (by simp)).1 c rfl;rw[List.filter_cons,if_neg ha,List.eraseIdx_cons_zero];refine(List.filter_eq_self.2 fun x hx=>(hq x (by simp[hx])).2 fun c=>hn.1 ?_).symm;rw[←c];exact List.mem_map_of_mem hx
 |a::r,j+1,e,h,hn,q,hq=>by
  simp only[List.getElem?_cons_succ]at h;rw[List.map_cons,List.nodup_cons]at hn;have ha:q a=true:=(hq a (by simp)).2 fun c=>hn.1 (by rw[c];exact List.mem_map_of_mem (List.mem_of_getElem? h));rw[List.filter_cons,if_pos ha,List.eraseIdx_cons_succ,kF h hn.2 q fun x hx=>hq x (by simp[hx])]
theorem ni.del{P:Program}{kt:TypeId}(L:fH P kt enc)(h:ni enc ev es clock m left cur gh){j:Nat}{e:MapEntry}{k:α}(h2:es.toList[j]? =some e)(h3:(m.map (·.1))[j]? =some k):ni enc ev (es.eraseIdxIfInBounds j) clock (fz m k) (fz left k) [] gh:=by
 have hsub:(es.eraseIdxIfInBounds j).toList.Sublist es.toList:=by
  unfold Array.eraseIdxIfInBounds;split
  ·simp only[Array.toList_eraseIdx];exact List.eraseIdx_sublist _ _
  ·exact List.Sublist.refl _
 refine⟨h.ok.del L h2 h3,fun x hx=>h.old x (hsub.subset hx),h.sc,h.sk,fun p e=>(by cases e),?_⟩;have hlt:j<es.size:=(List.getElem?_eq_some_iff.1 h2).1;obtain⟨p,hp,hpk,hpv⟩:=h.ok.at (x:=k) h2;have hpx:p.1=k:=by rw[List.getElem?_map,hp]at h3;simpa using h3
 have hek:e.key=enc k:=by rw[hpk,hpx]
 have hkey: ∀x∈es.toList,∃a,x.key=enc a:=fun x hx=>by
  have:x.key∈(m.map (·.1)).map enc:=by rw[←h.ok.ks];exact List.mem_map_of_mem hx
  obtain⟨a,_,ha⟩:=List.mem_map.1 this;exact⟨a,ha.symm⟩
 let q:Value×Value→Bool:=fun v=> @decide (v.1≠enc k) (Classical.propDecidable _)
 have hq: ∀v,q v=true↔v.1≠enc k:=fun v=>by simp[q]
 have e1:(es.eraseIdxIfInBounds j).toList=es.toList.filter fun x=>q (x.key,x.val):=by
  unfold Array.eraseIdxIfInBounds;rw[dif_pos hlt,Array.toList_eraseIdx];exact kF h2 h.ok.st.2.2 _ fun x hx=>by rw[hq,hek]
 have e2:(leftOf (es.eraseIdxIfInBounds j) gh.seen).toList.map (fun e=>(e.key,e.val))=((leftOf es gh.seen).toList.map fun e=>(e.key,e.val)).filter q:=by
  rw[eW,eW,e1,List.filter_map,List.filter_filter,List.filter_filter];congr 2;funext x;simp only[Function.comp];exact Bool.and_comm _ _
 have e3:(fz left k).map (fun p=>(enc p.1,ev p.2))=(left.map fun p=>(enc p.1,ev p.2)).filter q:=by
  rw[lG left (h.nd L) k,List.filter_map];congr 2;funext x;rw[Bool.eq_iff_iff];simp only[Function.comp,hq,decide_eq_true_eq];exact not_congr ⟨fun c=>by rw[c],fun c=>L.inj _ _ c⟩
 rw[e2,e3];exact h.lf.filter q
theorem ni.del0(h:ni enc ev es clock m left cur gh){k:α}(hk: ∀x∈m.map (·.1),x≠k){P:Program}{kt:TypeId}(L:fH P kt enc):fz left k=left:=by
 refine m4 left fun x hx e=>?_;obtain⟨p,hp,hpx⟩:=List.mem_map.1 hx;have h1:(enc p.1,ev p.2)∈(leftOf es gh.seen).toList.map fun e=>(e.key,e.val):=h.lf.mem_iff.2 (List.mem_map.2 ⟨p,hp,rfl⟩);obtain⟨y,hy,hy2⟩:=List.mem_map.1 h1;injection hy2 with hy2 _;have hyes:=(mem_left hy).1;have:y.key∈(m.map (·.1)).map enc:=by rw[←h.ok.ks];exact List.mem_map_of_mem hyes
 obtain⟨a,ha,ha2⟩:=List.mem_map.1 this;have:a=p.1:=L.inj _ _ (ha2.trans hy2);exact hk a ha (by rw[this,hpx,e])
end
section
variable [bF] {P:Program} {n:Nat} {env:aK} {S:World→Prop} {o:Oper} {w:World} {H:bX} {K:aK→World→Prop} {α β:Type} {enc:α→Value} {ev:β→Value} {es:Array MapEntry} {ms left cur:List (α×β)} {gh:Gh}
theorem Et{t kt et g clock:Nat}{x:Operand}(ho:o.op= .call {callee:= .builtin .len,args:= #[x],argTypes:= #[t]})(hx:env.ev x=some (.map (some g)))(ht:P.underlying t=some (.map kt et))(h: ∀w,S w→w.heap[g]? =some (.map es clock))(hM:li enc ev es clock ms):cb P n env S o (.int .i64 ms.length):=fun a r w hS=>
 fJ ho (r.eval hx) fun cs=>by
  have h:(Builtin.len_ #[t] o.type #[.map (some g)]).run P w= .ok (goInt es.size) w:=by simp[Builtin.len_,run_underlying ht,MapKept.run_getObj_map (h w hS)]
  simp only[builtin,Sem.run_bind,h,Result.andThen_ok];rw[hM.len];rfl
theorem xi{t kt et g d clock:Nat}{x:Operand}(ho:o.op= .range t x)(hd:o.dst=some d)(hn:Nat.blt d n=true)(hx:env.ev x=some (.map (some g)))(ht:P.underlying t=some (.map kt et))(hb:w.heap[g]? =some (.map es clock))(hM:li enc ev es clock ms)
  (hK: ∀r w' gh,ni enc ev es clock ms ms [] gh→w'.heap[r]? =some (.mapIter (some g) gh.since gh.seen gh.c0)→Fr [] w w'→w.heap.size≤r→K ((d,.pointer (some ⟨r,0,none⟩))::env) w'):cd P n env w o K:=by
 refine fX hd hn (fun a r=>?_) (hK w.heap.size (w.alloc (.mapIter (some g) clock #[] clock)) ⟨clock,clock, #[]⟩ (ni.start hM) (MapKept.heap_alloc w _).1 (Fr.alloc w _) (Nat.le_refl _));unfold execOp;have:=run_range_map (P:=P) w t kt et g es clock ht hb;simp only[ho,r.eval hx,Sem.run_bind,this,Result.andThen_ok];rfl
theorem AU{r g d clock:Nat}{x:Operand}(ho:o.op= .next x false)(hd:o.dst=some d)(hn:Nat.blt d n=true)(hx:env.ev x=some (.pointer (some ⟨r,0,none⟩)))(hr:w.heap[r]? =some (.mapIter (some g) gh.since gh.seen gh.c0))(hb:w.heap[g]? =some (.map es clock))(hR:ni enc ev es clock ms left cur gh)
  (h0:left= []→K ((d,.tuple #[.bool false])::env) w)
  (h1: ∀a p b gh' w',left=a++p::b→ni enc ev es clock ms (a++b) [p] gh'→w'.heap[r]? =some (.mapIter (some g) gh'.since gh'.seen gh'.c0)→Fr [r] w w'→K ((d,.tuple #[.bool true,enc p.1,ev p.2])::env) w'):cd P n env w o K:=by
 rcases run_next_at (P:=P) w o.type r g gh.since gh.c0 gh.seen es clock hr hb hR.old hR.sc with⟨h2,hrun⟩|⟨e,he,w1,hal,hrun⟩
 ·refine fX hd hn (fun a q=>?_) (h0 (hR.stop h2));unfold execOp;simp only[ho,q.eval hx,Sem.run_bind,hrun,Result.andThen_ok];rfl
 ·obtain⟨a,p,b,e1,e2,e3,hR'⟩:=hR.next he;have hf1:Fr [] w w1:=by
   rcases hal with rfl|rfl
   ·exact Fr.refl _ _
   ·exact Fr.drew w
  have hlt:r<w1.heap.size:=Nat.lt_of_lt_of_le (Array.getElem?_eq_some_iff.1 hr).1 hf1.size;refine fX hd hn (fun a q=>?_) (h1 a p b _ (setBlock w1 r (.mapIter (some g) gh.since (gh.seen.push e.born) clock)) e1 hR' (AS hlt) ((hf1.mono (by simp)).step (Fr.setB w1 r _) (fun y hy=> .inl hy)));unfold execOp;simp only[ho,q.eval hx,Sem.run_bind,hrun,Result.andThen_ok,e2,e3];rfl
theorem xj{r g clock:Nat}{x:Operand}{p:α×β}(ho:o.op= .entry x)(hx:env.ev x=some (.pointer (some ⟨r,0,none⟩)))(hr: ∀w,S w→w.heap[r]? =some (.mapIter (some g) gh.since gh.seen gh.c0))(hb: ∀w,S w→w.heap[g]? =some (.map es clock))(hR:ni enc ev es clock ms left [p] gh):cb P n env S o (.tuple #[enc p.1,ev p.2]):=fun a q w hS=>by
 obtain⟨e1,e,s,e2,h1,h2,h3⟩:=hR.cr p rfl;have hr:=hr w hS;rw[e1,e2]at hr;have hrun:=run_entry_at (P:=P) w r g gh.since s es clock e hr (hb w hS) h1 hR.ok.st.2.1;unfold execOp;simp only[ho,q.eval hx,Sem.run_bind,hrun,Result.andThen_ok,h2,h3];rfl
variable [DecidableEq α]
theorem nW{t t' kt et g clock:Nat}{m kx:Operand}{k:α}(ho:o.op= .call {callee:= .builtin .delete,args:= #[m,kx],argTypes:= #[t,t']})(hd:o.dst=none)
  (hm:env.ev m=some (.map (some g))) (hkx:env.ev kx=some (enc k)) (ht:P.underlying t=some (.map kt et)) (L:fH P kt enc)
  (hb:w.heap[g]? =some (.map es clock)) (hM:li enc ev es clock ms)
  (hK: ∀es' w',li enc ev es' clock (fz ms k)→(∀left cur gh,ni enc ev es clock ms left cur gh→ni enc ev es' clock (fz ms k) (fz left k) [] gh)→w'.heap[g]? =some (.map es' clock)→Fr [g] w w'→K env w'):cd P n env w o K:=by
 rcases L.fnd k (ms.map (·.1)) es.toList hM.ks w with⟨h1,h2⟩|⟨j,e,h1,h2,h3⟩
 ·refine xb hd (v:= .tuple #[]) (w':={w with heap:=w.heap.setIfInBounds g (.map es clock)}) (fun a r=>?_)
   (hK es _ (by rw[m4 ms h2];exact hM) (fun left cur gh hR=>by rw[m4 ms h2,hR.del0 h2 L];exact⟨hR.ok,hR.old,hR.sc,hR.sk,fun p e=>(by cases e),hR.lf⟩) (MapKept.heap_set hb).1 (Fr.setObj hb))
  unfold execOp;simp[ho,resolve,invoke,builtin,Builtin.delete_,r.eval hm,r.eval hkx,run_underlying ht,MapKept.run_getObj_map hb,L.chk,h1,MapKept.run_setObj_map _ hb]
 ·refine xb hd (v:= .tuple #[]) (w':={w with heap:=w.heap.setIfInBounds g (.map (es.eraseIdxIfInBounds j) clock)}) (fun a r=>?_)
   (hK _ _ (hM.del L h2 h3) (fun left cur gh hR=>hR.del L h2 h3) (MapKept.heap_set hb).1 (Fr.setObj hb))
  unfold execOp;simp[ho,resolve,invoke,builtin,Builtin.delete_,r.eval hm,r.eval hkx,run_underlying ht,MapKept.run_getObj_map hb,L.chk,h1,MapKept.run_setObj_map _ hb]
end
end Go.Proofs.YtfgofabojepcmaaGreatDoor
end

section
set_option linter.unusedVariables false
set_option linter.unusedSimpArgs false
namespace Go.Proofs.YtfgofabojepcmaaGreatDoor
open Go.RowKit
open Go.ChangeMaps (setBlock)
theorem Fr.setBlockR(w:World)(g:Nat)(o:Obj):Fr [g] w (setBlock w g o):=⟨rfl,rfl,rfl,by simp[Go.ChangeMaps.setBlock],fun k _ hk=>by
 show(w.heap.setIfInBounds g o)[k]? =_
 rw[Array.getElem?_setIfInBounds_ne (fun e=>hk (by simp[e]))]⟩
theorem o6{w:World}{g:Nat}{o:Obj}(h:g<w.heap.size):(setBlock w g o).heap[g]? =some o:=by
 show(w.heap.setIfInBounds g o)[g]? =_
 rw[Array.getElem?_setIfInBounds_self_of_lt h]
def jd(s:List UInt8)(pos:Int):Int:=((Utf8.decode ⟨s.toArray⟩ pos.toNat).1:Int)
def eC(s:List UInt8)(pos:Int):Int:=((Utf8.decode ⟨s.toArray⟩ pos.toNat).2:Int)
theorem dO(s:List UInt8)(pos:Int):1≤eC s pos:=by
 have:=Lib.width_pos ⟨s.toArray⟩ pos.toNat;unfold eC;omega
section
variable [bF] {P:Program} {n:Nat} {env:aK} {w:World} {o:Oper} {K:aK→World→Prop} {H:bX} {s:List UInt8}
theorem wX{t d:Nat}{x:Operand}(ho:o.op= .range t x)(hd:o.dst=some d)(hn:Nat.blt d n=true)(hx:env.ev x=some (sv s))(ht:P.underlying t=some .string)(h:Hp w H)
  (hK: ∀r w',Hp w' (H++ [(some r,.stringIter ⟨s.toArray⟩ 0)])→Fr [] w w'→w.heap.size≤r→K ((d,.pointer (some ⟨r,0,none⟩))::env) w'):cd P n env w o K:=by
 refine fX hd hn (fun a r=>?_) (hK w.heap.size (w.alloc (.stringIter ⟨s.toArray⟩ 0)) (h.alloc _) (Fr.alloc w _) (Nat.le_refl _));unfold execOp;have:=run_range_string (P:=P) w t ⟨s.toArray⟩ ht;simp only[ho,r.eval hx,sv,Sem.run_bind,this,Result.andThen_ok];rfl
theorem Az{r ir d:Nat}{pos:Int}{x:Operand}(ho:o.op= .next x true)(hd:o.dst=some d)(hn:Nat.blt d n=true)(hx:env.ev x=some (.pointer (some ⟨r,0,none⟩)))(h:Hp w H)(hir:H[ir]? =some (some r,.stringIter ⟨s.toArray⟩ pos.toNat))(hp:0≤pos)
  (h0: ¬pos<s.length→K ((d,.tuple #[.bool false])::env) w)
  (h1: ∀w',pos<s.length→Hp w' (H.set ir (some r,.stringIter ⟨s.toArray⟩ (pos+eC s pos).toNat))→Fr [r] w w'→K ((d,.tuple #[.bool true,.int .i64 pos,.int .i32 (jd s pos)])::env) w'):cd P n env w o K:=by
 have hs:(⟨s.toArray⟩:ByteArray).size=s.length:=by simp[ByteArray.size]
 by_cases hc:pos<s.length
 ·have hr:=Lib.run_next_any_at (P:=P) w r ⟨s.toArray⟩ pos.toNat o.type (h.at hir) (by rw[hs];omega);have hw:=dO s pos;have e1:(pos+eC s pos).toNat=pos.toNat+(Utf8.decode ⟨s.toArray⟩ pos.toNat).2:=by unfold eC;omega
  have e2:((pos.toNat:Nat):Int)=pos:=by omega
  have hf:Fr [r] w (setBlock w r (.stringIter ⟨s.toArray⟩ (pos+eC s pos).toNat)):=Fr.setBlockR w r _;refine fX hd hn (fun a q=>?_) (h1 (setBlock w r (.stringIter ⟨s.toArray⟩ (pos+eC s pos).toNat)) hc (h.setAt hir hf (o6 (bR (h.at hir)))) hf);unfold execOp;simp only[ho,q.eval hx,Sem.run_bind,hr,Result.andThen_ok];rw[e1,e2];rfl
 ·have hr:=Lib.run_next_end_at (P:=P) w r ⟨s.toArray⟩ pos.toNat o.type (h.at hir) (by rw[hs];omega);refine fX hd hn (fun a q=>?_) (h0 hc);unfold execOp;simp only[ho,q.eval hx,Sem.run_bind,hr,Result.andThen_ok];rfl
end
end Go.Proofs.YtfgofabojepcmaaGreatDoor
end

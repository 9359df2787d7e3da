/- The interpreter's looks are right: operations that only look. -/
import Derived.Test.YtiliglahlfkikaaGreatDoorYt4
section
set_option linter.unusedVariables false
set_option linter.unusedSimpArgs false
namespace Go.Proofs.YtiliglahlfkikaaGreatDoor.V
open Go.RowKit
class ao where
 xf:List Nat
 pr:Program
def rW(Y:List Nat)(S:World→Prop)(A:Option Addr)(cs:List Value):Prop:= ∀w,S w→kZ Y w A cs
mutual
inductive aD(U:bQ)(Y:List Nat)(S:World→Prop):(s:bg)→TT U.ty s→List Value→Prop
 |int (k:IntKind) (p:Int) (h:d9 k p):aD U Y S (.int k) p [.int k p]
 |bool (b:Bool):aD U Y S .bool b [.bool b]
 |str (s:List UInt8) (h:s.length≤9223372036854775807):aD U Y S .str s [sv s]
 |st (i:Nat) (t:U.ty i) (vs:List Value) (h:bH U Y S (U.rd i).fs ((U.rd i).to t) vs) (hl:vs.length=(U.rd i).sz):aD U Y S (.st i) t vs
 |arr (n:Nat) (e:bg) (xs:List (TT U.ty e)) (vs:List Value) (h:aQ U Y S e xs vs) (hn:xs.length=n):aD U Y S (.arr n e) xs vs
 |sl (e:bg) (xs:List (TT U.ty e)) (A:Option Addr) (c:Nat) (cs:List Value) (h:aQ U Y S e xs cs) (hr:rW Y S A cs) (hc:xs.length≤c) (hm:c≤maxLen):aD U Y S (.sl e) xs [.slice A xs.length c]
inductive bH(U:bQ)(Y:List Nat)(S:World→Prop):(fs:List (Nat×bg))→tW U.ty fs→List Value→Prop
 |nil:bH U Y S [] () []
 |cons (k:Nat) (s:bg) (r:List (Nat×bg)) (a:TT U.ty s) (b:tW U.ty r) (vs us:List Value) (h:aD U Y S s a vs) (hl:vs.length=k) (hr:bH U Y S r b us):bH U Y S ((k,s)::r) (a,b) (vs++us)
inductive aQ(U:bQ)(Y:List Nat)(S:World→Prop):(e:bg)→List (TT U.ty e)→List Value→Prop
 |nil (e:bg):aQ U Y S e [] []
 |cons (e:bg) (x:TT U.ty e) (xs:List (TT U.ty e)) (vs us:List Value) (h:aD U Y S e x vs) (hl:vs.length=aL U e) (hr:aQ U Y S e xs us):aQ U Y S e (x::xs) (vs++us)
end
section
variable {U:bQ} {Y:List Nat} {S:World→Prop}
def FF(U:bQ)(Y:List Nat)(S:World→Prop):(s:bg)→TT U.ty s→List Value→Prop
 | .int k=>fun p vs=>vs= [.int k p]∧d9 k p
 | .bool=>fun b vs=>vs= [.bool b]
 | .str=>fun s vs=>vs= [sv s]∧List.length (α:=UInt8) s≤9223372036854775807
 | .st i=>fun t vs=>bH U Y S (U.rd i).fs ((U.rd i).to t) vs∧vs.length=(U.rd i).sz
 | .arr n e=>fun xs vs=>aQ U Y S e xs vs∧List.length (α:=TT U.ty e) xs=n
 | .sl e=>fun xs vs=> ∃A c cs,vs= [.slice A (List.length (α:=TT U.ty e) xs) c]∧aQ U Y S e xs cs∧rW Y S A cs∧List.length (α:=TT U.ty e) xs≤c∧c≤maxLen
theorem aD.inv{s:bg}{t:TT U.ty s}{vs:List Value}(h:aD U Y S s t vs):FF U Y S s t vs:=by
 cases h with
 |int k p h=>exact⟨rfl,h⟩
 |bool b=>exact rfl
 |str s h=>exact⟨rfl,h⟩
 |st i t vs h hl=>exact⟨h,hl⟩
 |arr n e xs vs h hn=>exact⟨h,hn⟩
 |sl e xs A c cs h hr hc hm=>exact⟨A,c,cs,rfl,h,hr,hc,hm⟩
def Bo(U:bQ)(Y:List Nat)(S:World→Prop):(fs:List (Nat×bg))→tW U.ty fs→List Value→Prop
 | [],_,vs=>vs= []
 |(k,s)::r,t,vs=> ∃v1 v2,vs=v1++v2∧aD U Y S s t.1 v1∧v1.length=k∧bH U Y S r t.2 v2
theorem bH.inv{fs:List (Nat×bg)}{t:tW U.ty fs}{vs:List Value}(h:bH U Y S fs t vs):Bo U Y S fs t vs:=by
 cases h with
 |nil=>exact rfl
 |cons k s r a b vs us h hl hr=>exact⟨vs,us,rfl,h,hl,hr⟩
theorem aQ.nil_inv{e:bg}{vs:List Value}(h:aQ U Y S e [] vs):vs= []:=by cases h;rfl
theorem aQ.cons_inv{e:bg}{x:TT U.ty e}{xs:List (TT U.ty e)}{vs:List Value}(h:aQ U Y S e (x::xs) vs): ∃v1 v2,vs=v1++v2∧aD U Y S e x v1∧v1.length=aL U e∧aQ U Y S e xs v2:=by
 cases h with
 |cons e x xs vs us h hl hr=>exact⟨vs,us,rfl,h,hl,hr⟩
theorem aQ.length{e:bg}: ∀{xs:List (TT U.ty e)} {vs:List Value},aQ U Y S e xs vs→vs.length=xs.length*aL U e
 | [],vs,h=>by rw[h.nil_inv];simp
 |x::xs,vs,h=>by
  obtain⟨v1,v2,rfl,_,hl,hr⟩:=h.cons_inv;rw[List.length_append,hl,aQ.length hr,List.length_cons,Nat.add_mul,Nat.one_mul,Nat.add_comm]
theorem aD.length: ∀{s:bg} {t:TT U.ty s} {vs:List Value},aD U Y S s t vs→vs.length=aL U s
 | .int k,t,vs,h=>by rw[h.inv.1];rfl
 | .bool,t,vs,h=>by have e:=h.inv;rw[show vs=_ from e];rfl
 | .str,t,vs,h=>by rw[h.inv.1];rfl
 | .st i,t,vs,h=>h.inv.2
 | .arr n e,t,vs,h=>by
  obtain⟨h1,h2⟩:=h.inv;have:=aQ.length h1;rw[this,h2];rfl
 | .sl e,t,vs,h=>by obtain⟨A,c,cs,e,_⟩:=h.inv;rw[e];rfl
theorem aQ.app{e:bg}: ∀{xs ys:List (TT U.ty e)} {vs us:List Value},aQ U Y S e xs vs→aQ U Y S e ys us→aQ U Y S e (xs++ys) (vs++us)
 | [],ys,vs,us,h,h'=>by rw[h.nil_inv];exact h'
 |x::xs,ys,vs,us,h,h'=>by
  obtain⟨v1,v2,rfl,h1,hl,hr⟩:=h.cons_inv;rw[List.append_assoc];exact .cons e x (xs++ys) v1 (v2++us) h1 hl (aQ.app hr h')
theorem aQ.at{e:bg}: ∀{xs:List (TT U.ty e)} {vs:List Value},aQ U Y S e xs vs→ ∀(q:Nat) (x:TT U.ty e),xs[q]? =some x→aD U Y S e x ((vs.drop (q*aL U e)).take (aL U e))
 | [],vs,h,q,x,hq=>by simp at hq
 |y::xs,vs,h,q,x,hq=>by
  obtain⟨v1,v2,rfl,h1,hl,hr⟩:=h.cons_inv;cases q with
  |zero=>
   simp only[List.getElem?_cons_zero,Option.some.injEq]at hq;subst hq;rw[Nat.zero_mul,List.drop_zero,List.take_append_of_le_length (by omega),List.take_of_length_le (by omega)];exact h1
  |succ q=>
   simp only[List.getElem?_cons_succ]at hq;have:=aQ.at hr q x hq;rw[show(q+1)*aL U e=v1.length+q*aL U e by rw[Nat.add_mul,Nat.one_mul,hl,Nat.add_comm],List.drop_append,List.drop_of_length_le (by omega),List.nil_append,Nat.add_sub_cancel_left];exact this
theorem aQ.set{e:bg}: ∀{xs:List (TT U.ty e)} {vs:List Value},aQ U Y S e xs vs→ ∀(q:Nat) (x:TT U.ty e) (us:List Value),aD U Y S e x us→q<xs.length→aQ U Y S e (xs.set q x) (vs.take (q*aL U e)++us++vs.drop (q*aL U e+us.length))
 | [],vs,h,q,x,us,hx,hq=>by simp at hq
 |y::xs,vs,h,q,x,us,hx,hq=>by
  obtain⟨v1,v2,rfl,h1,hl,hr⟩:=h.cons_inv;have hul:=hx.length;cases q with
  |zero=>
   rw[Nat.zero_mul,List.take_zero,List.nil_append,Nat.zero_add,List.drop_append_of_le_length (by omega),List.drop_of_length_le (by omega),List.nil_append];exact .cons e x xs us v2 hx hul hr
  |succ q=>
   have ih:=aQ.set hr q x us hx (by simpa using hq);have e1:(q+1)*aL U e=v1.length+q*aL U e:=by rw[Nat.add_mul,Nat.one_mul,hl,Nat.add_comm]
   rw[e1,List.take_length_add_append,Nat.add_assoc,List.drop_append,List.drop_of_length_le (by omega:v1.length≤v1.length+(q*aL U e+us.length)),List.nil_append,Nat.add_sub_cancel_left,List.append_assoc,List.append_assoc];refine .cons e y _ v1 _ h1 hl ?_;rw[←List.append_assoc];exact ih
def dS(ag:Bool)(v:Value)(vs:List Value):Prop:=match ag with
 |true=>v= .agg vs.toArray
 |false=>vs= [v]
def lq [ao](Y:List Nat)(w w2:World):Prop:= ∃O,Fr O w w2∧ ∀o∈O,o∉ao.xf∧(o∈Y∨w.heap.size≤o)
def Ig(u:Value):Prop:= ∃(f:FuncId) (ca:List Value),u= .func (.func f) #[] ca.toArray
def xK [ao](U:bQ)(Y:List Nat)(S:World→Prop)(u:Value)(a:bg)(g:TT U.ty a→Bool):Prop:=Ig u∧ ∀w,S w→ ∀w2,lq Y w w2→ ∀t vs v,aD U gB (· =w2) a t vs→dS (eE a) v vs→oU ao.pr u [v] w2 fun r w3=>r= .bool (g t)∧Fr [] w2 w3
def xL [ao](U:bQ)(Y:List Nat)(S:World→Prop)(u:Value)(a b:bg)(g:TT U.ty a→TT U.ty b→Int):Prop:=Ig u∧ ∀w,S w→ ∀w2,lq Y w w2→ ∀t vs v t' vs' v',aD U gB (· =w2) a t vs→dS (eE a) v vs→aD U gB (· =w2) b t' vs'→dS (eE b) v' vs'→oU ao.pr u [v,v'] w2 fun r w3=>r= .int .i64 (g t t')∧d9 .i64 (g t t')∧Fr [] w2 w3
def Mv [ao](Y:List Nat)(S:World→Prop)(Y':List Nat)(S':World→Prop):Prop:= ∀w',S' w'→ ∃w O,S w∧Fr O w w'∧(∀y∈O,y∈Y∧y∉ao.xf)∧ ∀y∈Y',y∈Y∨w.heap.size≤y
theorem Mv.sub [ao]{Y':List Nat}(h: ∀y∈Y',y∈Y):Mv Y S Y' S:=fun w' h'=>⟨w',[],h',Fr.refl _ _,fun _ hy=>(by cases hy),fun y hy=> .inl (h y hy)⟩
theorem Mv.fr [ao]{Y':List Nat}{S':World→Prop}(m:Mv Y S Y' S'): ∀w',S' w'→ ∃w,S w∧Fr Y w w'∧ ∀y∈Y',y∈Y∨w.heap.size≤y:=fun w' h'=>by
 obtain⟨w,O,h1,h2,h3,h4⟩:=m w' h';exact⟨w,h1,h2.mono fun y hy=>(h3 y hy).1,h4⟩
theorem Mv.later [ao]{Y':List Nat}{S':World→Prop}(m:Mv Y S Y' S'){w' w2:World}(h':S' w')(h:lq Y' w' w2): ∃w,S w∧lq Y w w2:=by
 obtain⟨w,O,h1,h2,h3,h4⟩:=m w' h';obtain⟨O',h5,h6⟩:=h;refine⟨w,h1,O++O',(h2.mono fun x hx=>List.mem_append_left _ hx).step h5 (fun y hy=> .inl (List.mem_append_right _ hy)),fun o ho=>?_⟩;rcases List.mem_append.1 ho with ho|ho
 ·exact⟨(h3 o ho).2,.inl (h3 o ho).1⟩
 ·refine⟨(h6 o ho).1,?_⟩;rcases(h6 o ho).2 with h|h
  ·exact h4 o h
  ·exact .inr (Nat.le_trans h2.size h)
theorem xK.mv [ao]{Y':List Nat}{S':World→Prop}(m:Mv Y S Y' S'){u:Value}{a:bg}{g:TT U.ty a→Bool}(h:xK U Y S u a g):xK U Y' S' u a g:=⟨h.1,fun w' hw' w2 h2=>by
 obtain⟨w,h3,h4⟩:=m.later hw' h2;exact h.2 w h3 w2 h4⟩
theorem xL.mv [ao]{Y':List Nat}{S':World→Prop}(m:Mv Y S Y' S'){u:Value}{a b:bg}{g:TT U.ty a→TT U.ty b→Int}(h:xL U Y S u a b g):xL U Y' S' u a b g:=⟨h.1,fun w' hw' w2 h2=>by
 obtain⟨w,h3,h4⟩:=m.later hw' h2;exact h.2 w h3 w2 h4⟩
theorem rW.mv [ao]{Y':List Nat}{S':World→Prop}{A:Option Addr}{cs:List Value}(h:rW Y S A cs)(m:Mv Y S Y' S'):rW Y' S' A cs:=fun w' hw'=>by
 obtain⟨w,hw,hf,hY⟩:=m.fr w' hw';exact(h w hw).stable hf hY
end
mutual
theorem aD.mv [ao]{U:bQ}{Y Y':List Nat}{S S':World→Prop}(m:Mv Y S Y' S'){s:bg}{t:TT U.ty s}{vs:List Value}:aD U Y S s t vs→aD U Y' S' s t vs
 | .int k p h=> .int k p h
 | .bool b=> .bool b
 | .str s h=> .str s h
 | .st i t vs h hl=> .st i t vs (bH.mv m h) hl
 | .arr n e xs vs h hn=> .arr n e xs vs (aQ.mv m h) hn
 | .sl e xs A c cs h hr hc hm=> .sl e xs A c cs (aQ.mv m h) (hr.mv m) hc hm
theorem bH.mv [ao]{U:bQ}{Y Y':List Nat}{S S':World→Prop}(m:Mv Y S Y' S'){fs:List (Nat×bg)}{t:tW U.ty fs}{vs:List Value}:bH U Y S fs t vs→bH U Y' S' fs t vs
 | .nil=> .nil
 | .cons k s r a b vs us h hl hr=> .cons k s r a b vs us (aD.mv m h) hl (bH.mv m hr)
theorem aQ.mv [ao]{U:bQ}{Y Y':List Nat}{S S':World→Prop}(m:Mv Y S Y' S'){e:bg}{xs:List (TT U.ty e)}{vs:List Value}:aQ U Y S e xs vs→aQ U Y' S' e xs vs
 | .nil e=> .nil e
 | .cons e x xs vs us h hl hr=> .cons e x xs vs us (aD.mv m h) hl (aQ.mv m hr)
end
end Go.Proofs.YtiliglahlfkikaaGreatDoor.V
end

section
set_option linter.unusedVariables false
set_option linter.unusedSimpArgs false
namespace Go.Proofs.YtiliglahlfkikaaGreatDoor.V
open Go.RowKit
mutual
theorem aD.one{U:bQ}{Y:List Nat}{S:World→Prop}{s:bg}{t:TT U.ty s}{vs:List Value}:aD U Y S s t vs→ ∀v∈vs,v.oneCell'=true
 | .int k p h=>by simp[Value.oneCell']
 | .bool b=>by simp[Value.oneCell']
 | .str s h=>by simp[Value.oneCell']
 | .st i t vs h hl=>bH.one h
 | .arr n e xs vs h hn=>aQ.one h
 | .sl e xs A c cs h hr hc hm=>by simp[Value.oneCell']
theorem bH.one{U:bQ}{Y:List Nat}{S:World→Prop}{fs:List (Nat×bg)}{t:tW U.ty fs}{vs:List Value}:bH U Y S fs t vs→ ∀v∈vs,v.oneCell'=true
 | .nil=>by simp
 | .cons k s r a b vs us h hl hr=>fun v hv=>(List.mem_append.1 hv).elim (aD.one h v) (bH.one hr v)
theorem aQ.one{U:bQ}{Y:List Nat}{S:World→Prop}{e:bg}{xs:List (TT U.ty e)}{vs:List Value}:aQ U Y S e xs vs→ ∀v∈vs,v.oneCell'=true
 | .nil e=>by simp
 | .cons e x xs vs us h hl hr=>fun v hv=>(List.mem_append.1 hv).elim (aD.one h v) (aQ.one hr v)
end
structure Rz where
 A:Option Addr
 c:Nat
section
variable [ao] {U:bQ}
def bq:Option (aM U)→Option (Nat×Nat×Nat)
 |some (.row v e xs _)=>some (v,xs.length,aL U e)
 |some (.frz v e xs)=>some (v,xs.length,aL U e)
 |some (.hid v l m)=>some (v,l,m)
 |_=>none
def nS(H:Hs U)(i v:Nat)(Q:Nat→Nat→Prop):Prop:= ∀v' l m,bq (aF H i)=some (v',l,m)→v≤v'∧(v=v'→Q l m)
def bi(U:bQ)(Y:List Nat)(S:World→Prop)(ρ:Nat→Rz)(n:Nat)(H:Hs U):Cx U→List Value→Prop
 | .d s t,vs=>aD U Y S s t vs
 | .own i v,vs=>i<n∧ ∃A l c,vs= [.slice A l c]∧nS H i v fun len _=>A=(ρ i).A∧l=len∧c=(ρ i).c
 | .ptr i off,vs=>i<n∧bq (aF H i)=none∧ ∃g,(ρ i).A=some ⟨g,0,none⟩∧vs= [.pointer (some ⟨g,off,none⟩)]
 | .pel i v q off,vs=>i<n∧ ∃a,vs= [.pointer a]∧nS H i v fun len m=> ∃g,(ρ i).A=some ⟨g,0,none⟩∧a=some ⟨g,q.toNat*m+off,none⟩∧0≤q∧q<len
 | .pax i off m s q o,vs=>i<n∧bq (aF H i)=none∧0≤q∧q<m∧ ∃g,(ρ i).A=some ⟨g,0,none⟩∧vs= [.pointer (some ⟨g,off+q.toNat*aL U s+o,none⟩)]
 | .pd s t,vs=> ∃g b us,vs= [.pointer (some ⟨g,b,none⟩)]∧aD U Y S s t us∧rW Y S (some ⟨g,b,none⟩) us
 | .nilp,vs=>vs= [.pointer none]
 | .nils,vs=>vs= [.slice none 0 0]
 | .nilf,vs=>vs= [.nilFunc]
 | .nilm,vs=>vs= [.map none]
 | .fn f,vs=>vs= [.func (.func f) #[] #[]]
 | .clo f js,vs=>vs= [.func (.func f) #[] (js.map fun j=>Value.pointer (ρ j).A).toArray]∧ ∀j∈js,j<n∧bq (aF H j)=none∧ ∃g,(ρ j).A=some ⟨g,0,none⟩
 | .f1 a g,vs=> ∃u,vs= [u]∧xK U Y S u a g
 | .f2 a b g,vs=> ∃u,vs= [u]∧xL U Y S u a b g
 | .mp i,vs=>i<n∧bq (aF H i)=none∧ ∃g,(ρ i).A=some ⟨g,0,none⟩∧vs= [.map (some g)]
 | .un,vs=> ∃u,vs= [u]∧u.oneCell'=true
def bR(V:Cx U→List Value→Prop):List (bW U)→List Value→Prop
 | [],vs=>vs= []
 |(k,x)::r,vs=> ∃v1 v2,vs=v1++v2∧v1.length=k∧V x v1∧bR V r v2
omit [ao]in
theorem lr{α:Type} [Inhabited α]{l:List α}{q:Int}{y:α}(h:l[q.toNat]? =some y):ix l q=y:=by unfold ix;rw[h];rfl
omit [ao]in
theorem iz{s:bg}{l:List (TT U.ty s)}{q:Int}{K:TT U.ty s→Prop}(h:xJ U s l q K): ∃x,K x∧ ∀y,l[q.toNat]? =some y→x=y:=by
 cases s with
 |st i=>exact(U.rd i).ixK_ok l q K h
 |int k=>exact⟨_,h,fun y hy=>lr (α:=Int) hy⟩
 |bool=>exact⟨_,h,fun y hy=>lr (α:=Bool) hy⟩
 |str=>exact⟨_,h,fun y hy=>lr (α:=List UInt8) hy⟩
 |arr k e=>exact⟨_,h,fun y hy=>lr (α:=List (TT U.ty e)) hy⟩
 |sl e=>exact⟨_,h,fun y hy=>lr (α:=List (TT U.ty e)) hy⟩
omit [ao]in
theorem ls: ∀{k k':IntKind},jH k k'=true→k=k':=by
 intro k k';cases k<;>cases k'<;>simp[jH]
omit [ao]in
theorem rX: ∀{ty:Nat→Type} {F:Type→Type} {i j:Nat} {t:F (ty i)} {u:F (ty j)},m7 ty F i j t=some u→i=j∧HEq t u
 |ty,F,0,0,t,u,h=>by simp only[m7,Option.some.injEq]at h;exact⟨rfl,heq_of_eq h⟩
 |ty,F,i+1,j+1,t,u,h=>by
  obtain⟨h1,h2⟩:=rX (ty:=fun n=>ty (n+1)) (by simpa only[m7]using h);subst h1;exact⟨rfl,h2⟩
 |ty,F,0,j+1,t,u,h=>by simp[m7]at h
 |ty,F,i+1,0,t,u,h=>by simp[m7]at h
omit [ao]in
theorem hZ{α:Type}{u:α}{p:Prop}(h:(none:Option α)=some u):p:=by cases h
omit [ao]in
theorem dM{ty:Nat→Type}: ∀(s s':bg) (F:Type→Type) (t:F (TT ty s)) (u:F (TT ty s')),eY ty F s s' t=some u→s=s'∧HEq t u:=by
 intro s;induction s with
 |int k=>
  intro s' F t u h;cases s' with
  |int k'=>
   have h:(bif jH k k' then some t else none)=some u:=h;cases hk:jH k k' with
   |false=>rw[hk]at h;exact hZ h
   |true=>rw[hk]at h;have:=ls hk;subst this;injection h with h;exact⟨rfl,heq_of_eq h⟩
  |_=>exact hZ (show none=some u from h)
 |bool=>
  intro s' F t u h;cases s' with
  |bool=>have h:some t=some u:=h;injection h with h;exact⟨rfl,heq_of_eq h⟩
  |_=>exact hZ (show none=some u from h)
 |str=>
  intro s' F t u h;cases s' with
  |str=>have h:some t=some u:=h;injection h with h;exact⟨rfl,heq_of_eq h⟩
  |_=>exact hZ (show none=some u from h)
 |st i=>
  intro s' F t u h;cases s' with
  |st j=>
   have h:m7 ty F i j t=some u:=h;obtain⟨h1,h2⟩:=rX h;subst h1;exact⟨rfl,h2⟩
  |_=>exact hZ (show none=some u from h)
 |arr n e ih=>
  intro s' F t u h;cases s' with
  |arr m e'=>
   have h:(bif Nat.beq n m then eY ty (fun x=>F (List x)) e e' t else none)=some u:=h;cases hn:Nat.beq n m with
   |false=>rw[hn]at h;exact hZ h
   |true=>
    rw[hn]at h;have hnm:=Nat.eq_of_beq_eq_true hn;obtain⟨h1,h2⟩:=ih e' (fun x=>F (List x)) t u h;subst h1;subst hnm;exact⟨rfl,h2⟩
  |_=>exact hZ (show none=some u from h)
 |sl e ih=>
  intro s' F t u h;cases s' with
  |sl e'=>
   have h:eY ty (fun x=>F (List x)) e e' t=some u:=h;obtain⟨h1,h2⟩:=ih e' (fun x=>F (List x)) t u h;subst h1;exact⟨rfl,h2⟩
  |_=>exact hZ (show none=some u from h)
abbrev lu(U:bQ)(Q:(Cx U→List Value→Prop)→(Y:List Nat)→(World→Prop)→Prop):Prop:= ∀Y S ρ n H,Q (bi U Y S ρ n H) Y S
theorem vl: ∀{fs:List (Nat×bg)} {t:tW U.ty fs} {K:List (bW U)→Prop},Fi fs t K→ ∃l,K l∧lu U fun V Y S=> ∀vs,bH U Y S fs t vs→bR V l vs
 | [],t,K,h=>⟨[],h,fun _ _ _ _ _ _ hd=>hd.inv⟩
 |(k,s)::r,(a,b),K,h=>by
  obtain⟨l,hK,hs⟩:=vl (fs:=r) h;refine⟨_,hK,fun Y S ρ n H vs hd=>?_⟩;obtain⟨v1,v2,rfl,h1,hl,hr⟩:=hd.inv;exact⟨v1,v2,rfl,hl,h1,hs Y S ρ n H _ hr⟩
theorem vm{e:bg}{m:Nat}{xs:List (TT U.ty e)}(hm:m=aL U e): ∀{k j:Nat} {K:List (bW U)→Prop},Ic e m xs k j K→ ∃l,K l∧lu U fun V Y S=> ∀vs,aQ U Y S e (xs.drop j) vs→(xs.drop j).length=k→bR V l vs
 |0,j,K,h=>⟨[],h,fun Y S ρ n H vs hd hl=>by
  have:xs.drop j= []:=List.eq_nil_of_length_eq_zero hl;rw[this]at hd;exact hd.nil_inv⟩
 |k+1,j,K,h=>by
  obtain⟨x,hx,he⟩:=iz (show xJ U e xs (j:Int) _ from h);obtain⟨l,hK,hs⟩:=vm hm (k:=k) hx;refine⟨_,hK,fun Y S ρ n H vs hd hl=>?_⟩;have hj:j<xs.length:=by rw[List.length_drop]at hl;omega
  have hx0:=he xs[j] (by rw[Int.toNat_natCast];exact List.getElem?_eq_getElem hj);rw[List.drop_eq_getElem_cons hj]at hd hl;obtain⟨v1,v2,rfl,h1,hl1,hr⟩:=hd.cons_inv;exact⟨v1,v2,rfl,by rw[hl1,hm],by rw[hx0];exact h1,hs Y S ρ n H _ hr (by rw[List.length_cons]at hl;omega)⟩
theorem lw{x:Cx U}{K:List (bW U)→Prop}(h:ll x K): ∃l,K l∧lu U fun V Y S=> ∀vs,V x vs→bR V l vs:=by
 unfold ll at h;split at h
 ·rename_i i t;obtain⟨l,hK,hs⟩:=vl ((U.rd i).toK_ok _ _ h);exact⟨l,hK,fun Y S ρ n H vs hx=>hs Y S ρ n H vs (show aD U Y S (.st i) t vs from hx).inv.1⟩
 ·rename_i k e xs;obtain⟨l,hK,hs⟩:=vm rfl h;exact⟨l,hK,fun Y S ρ n H vs hx=>by
   have hd:=(show aD U Y S (.arr k e) xs vs from hx).inv;exact hs Y S ρ n H vs hd.1 hd.2⟩
 ·exact h.elim
omit [ao]in
theorem nE{l l':List (bW U)}{K:List (bW U)→Prop}:qt l l' K→K (l++l'):=by
 induction l generalizing K with
 |nil=>exact fun h=>h
 |cons x r ih=>exact fun h=>ih (K:=fun r=>K (x::r)) h
omit [ao]in
theorem bR.app{V:Cx U→List Value→Prop}: ∀{l l':List (bW U)} {vs us:List Value},bR V l vs→bR V l' us→bR V (l++l') (vs++us)
 | [],l',vs,us,h,h'=>by rw[show vs= []from h];exact h'
 |(k,x)::r,l',vs,us,h,h'=>by
  obtain⟨v1,v2,rfl,hl,hx,hr⟩:=h;exact⟨v1,v2++us,List.append_assoc ..,hl,hx,bR.app hr h'⟩
theorem fP: ∀{f:Nat} {l:List (bW U)} {k:Nat} {K:List (bW U)→Prop},gH f l k K→ ∃l',K l'∧lu U fun V Y S=> ∀vs,bR V l vs→bR V l' (vs.drop k)∧k≤vs.length
 |0,l,k,K,h=>h.elim
 |f+1,l,0,K,h=>⟨l,h,fun _ _ _ _ _ vs hs=>⟨hs,Nat.zero_le _⟩⟩
 |f+1,[],k+1,K,h=>h.elim
 |f+1,(m,x)::r,k+1,K,h=>by
  have h:(bif Nat.ble m (k+1)then gH f r (k+1 - m) K else ll x fun l'=>qt l' r fun l''=>gH f l'' (k+1) K):=h;cases hb:Nat.ble m (k+1)with
  |true=>
   rw[hb]at h;have hle:=Nat.le_of_ble_eq_true hb;obtain⟨l',hK,hs'⟩:=fP (f:=f) h;refine⟨l',hK,fun Y S ρ n H vs hs=>?_⟩;obtain⟨v1,v2,rfl,hl,hx,hr⟩:=hs;obtain⟨h1,h2⟩:=hs' Y S ρ n H _ hr;refine⟨?_,by rw[List.length_append];omega⟩;rw[List.drop_append,List.drop_of_length_le (by omega),List.nil_append,hl];exact h1
  |false=>
   rw[hb]at h;obtain⟨l',hK,hs'⟩:=lw h;obtain⟨l2,hK2,hs2⟩:=fP (f:=f) (nE hK);refine⟨l2,hK2,fun Y S ρ n H vs hs=>?_⟩;obtain⟨v1,v2,rfl,hl,hx,hr⟩:=hs;exact hs2 Y S ρ n H _ ((hs' Y S ρ n H _ hx).app hr)
theorem gI: ∀{f:Nat} {l:List (bW U)} {k:Nat} {K:List (bW U)→Prop},tK f l k K→ ∃l',K l'∧lu U fun V Y S=> ∀vs,bR V l vs→bR V l' (vs.take k)∧k≤vs.length
 |0,l,k,K,h=>h.elim
 |f+1,l,0,K,h=>⟨[],h,fun _ _ _ _ _ vs hs=>⟨by simp[bR],Nat.zero_le _⟩⟩
 |f+1,[],k+1,K,h=>h.elim
 |f+1,(m,x)::r,k+1,K,h=>by
  have h:(bif Nat.ble m (k+1)then tK f r (k+1 - m) fun r'=>K ((m,x)::r')else ll x fun l'=>tK f l' (k+1) K):=h;cases hb:Nat.ble m (k+1)with
  |true=>
   rw[hb]at h;have hle:=Nat.le_of_ble_eq_true hb;obtain⟨l',hK,hs'⟩:=gI (f:=f) h;refine⟨_,hK,fun Y S ρ n H vs hs=>?_⟩;obtain⟨v1,v2,rfl,hl,hx,hr⟩:=hs;obtain⟨h1,h2⟩:=hs' Y S ρ n H _ hr;refine⟨⟨v1,_,?_,hl,hx,h1⟩,by rw[List.length_append];omega⟩;rw[List.take_append,List.take_of_length_le (by omega),hl]
  |false=>
   rw[hb]at h;have hgt:k+1<m:=by
    rcases Nat.lt_or_ge (k+1) m with h'|h'
    ·exact h'
    ·rw[Nat.ble_eq_true_of_le h']at hb;cases hb
   obtain⟨l',hK,hs'⟩:=lw h;obtain⟨l2,hK2,hs2⟩:=gI (f:=f) hK;refine⟨l2,hK2,fun Y S ρ n H vs hs=>?_⟩;obtain⟨v1,v2,rfl,hl,hx,hr⟩:=hs;obtain⟨h1,h2⟩:=hs2 Y S ρ n H _ (hs' Y S ρ n H _ hx);refine⟨?_,by rw[List.length_append];omega⟩;rw[List.take_append_of_le_length h2];exact h1
theorem jf: ∀{f:Nat} {l new:List (bW U)} {off k:Nat} {K:List (bW U)→Prop},qu f l off k new K→
  ∃l',K l'∧lu U fun V Y S=> ∀vs us,bR V l vs→bR V new us→us.length=k→bR V l' (vs.take off++us++vs.drop (off+us.length))∧off+us.length≤vs.length
 |0,l,new,off,k,K,h=>h.elim
 |f+1,l,new,0,k,K,h=>by
  have h:gH 40 l k fun r=>qt new r K:=h;obtain⟨l',hK,hs'⟩:=fP h;refine⟨_,nE hK,fun Y S ρ n H vs us hs hn hk=>?_⟩;obtain⟨h1,h2⟩:=hs' Y S ρ n H _ hs;refine⟨?_,by omega⟩;rw[List.take_zero,List.nil_append,Nat.zero_add,hk];exact hn.app h1
 |f+1,[],new,off+1,k,K,h=>h.elim
 |f+1,(m,x)::r,new,off+1,k,K,h=>by
  have h:(bif Nat.ble m (off+1)then qu f r (off+1 - m) k new fun r'=>K ((m,x)::r')else ll x fun l'=>qt l' r fun l''=>qu f l'' (off+1) k new K):=h;cases hb:Nat.ble m (off+1)with
  |true=>
   rw[hb]at h;have hle:=Nat.le_of_ble_eq_true hb;obtain⟨l',hK,hs'⟩:=jf (f:=f) h;refine⟨_,hK,fun Y S ρ n H vs us hs hn hk=>?_⟩;obtain⟨v1,v2,rfl,hl,hx,hr⟩:=hs;obtain⟨h1,h2⟩:=hs' Y S ρ n H _ _ hr hn hk;refine⟨⟨v1,_,?_,hl,hx,h1⟩,by rw[List.length_append];omega⟩;rw[List.take_append,List.take_of_length_le (by omega),List.drop_append,List.drop_of_length_le (by omega),List.nil_append,hl,List.append_assoc,List.append_assoc,List.append_assoc,show off+1+us.length - m=off+1 - m+us.length by omega]
  |false=>
   rw[hb]at h;obtain⟨l',hK,hs'⟩:=lw h;obtain⟨l2,hK2,hs2⟩:=jf (f:=f) (nE hK);refine⟨l2,hK2,fun Y S ρ n H vs us hs hn hk=>?_⟩;obtain⟨v1,v2,rfl,hl,hx,hr⟩:=hs;exact hs2 Y S ρ n H _ _ ((hs' Y S ρ n H _ hx).app hr) hn hk
theorem fQ{l:List (bW U)}{off k:Nat}{K:List (bW U)→Prop}(h:lm l off k K): ∃l',K l'∧lu U fun V Y S=> ∀vs,bR V l vs→bR V l' ((vs.drop off).take k)∧off+k≤vs.length:=by
 obtain⟨l1,h1,hs1⟩:=fP (show gH 40 l off _ from h);obtain⟨l2,h2,hs2⟩:=gI h1;refine⟨l2,h2,fun Y S ρ n H vs hs=>?_⟩;obtain⟨a1,a2⟩:=hs1 Y S ρ n H _ hs;obtain⟨b1,b2⟩:=hs2 Y S ρ n H _ a1;rw[List.length_drop]at b2;exact⟨b1,by omega⟩
omit [ao]in
theorem bR.one1{V:Cx U→List Value→Prop}{k:Nat}{x:Cx U}{vs:List Value}(h:bR V [(k,x)] vs):V x vs∧vs.length=k:=by
 obtain⟨v1,v2,rfl,hl,hx,hr⟩:=h;rw[show v2= []from hr,List.append_nil];exact⟨hx,hl⟩
theorem pM{s:bg}{l:List (bW U)}{K:TT U.ty s→Prop}(h:d1 s l K): ∃t,K t∧lu U fun V Y S=> ∀vs,bR V l vs→aD U Y S s t vs:=by
 unfold d1 at h;split at h
 ·rename_i k s' t;split at h
  ·rename_i u hc;obtain⟨h1,h2⟩:=dM _ _ _ _ _ hc;subst h1;have h2:t=u:=eq_of_heq h2;subst h2;exact⟨t,h,fun Y S ρ n H vs hs=>hs.one1.1⟩
  ·exact h.elim
 ·exact h.elim
theorem rY{g:(s:bg)→List (bW U)→(TT U.ty s→Prop)→Prop}(hg: ∀s l K,g s l K→ ∃t,K t∧lu U fun V Y S=> ∀vs,bR V l vs→aD U Y S s t vs):
  ∀{fs:List (Nat×bg)} {l:List (bW U)} {K:tW U.ty fs→Prop},vh g fs l K→ ∃t:tW U.ty fs,K t∧lu U fun V Y S=> ∀vs,bR V l vs→ ∃us r:List Value,bH U Y S fs t us∧vs=us++r∧us.length=(fs.map (·.1)).sum
 | [],l,K,h=>⟨(),h,fun _ _ _ _ _ vs hs=>⟨[],vs,.nil,rfl,rfl⟩⟩
 |(k,s)::r,l,K,h=>by
  obtain⟨l1,h1,hs1⟩:=gI (show tK 40 l k _ from h);obtain⟨a,h2,hd⟩:=hg s l1 _ h1;obtain⟨l2,h3,hs3⟩:=fP h2;obtain⟨b,h4,h5⟩:=rY hg (fs:=r) h3;refine⟨(a,b),h4,fun Y S ρ n H vs hs=>?_⟩;obtain⟨a1,a2⟩:=hs1 Y S ρ n H _ hs;obtain⟨b1,b2⟩:=hs3 Y S ρ n H _ hs;obtain⟨us,q,hd4,hq,hlen⟩:=h5 Y S ρ n H _ b1;have htl:(vs.take k).length=k:=by rw[List.length_take];omega
  refine⟨vs.take k++us,q,.cons k s r a b _ _ (hd Y S ρ n H _ a1) htl hd4,?_,?_⟩
  ·rw[List.append_assoc,←hq,List.take_append_drop]
  ·rw[List.length_append,htl,hlen];rfl
omit [ao]in
theorem bR.len{V:Cx U→List Value→Prop}: ∀{l:List (bW U)} {vs:List Value},bR V l vs→vs.length=jI l
 | [],vs,h=>by rw[show vs= []from h];rfl
 |(k,x)::r,vs,h=>by
  obtain⟨v1,v2,rfl,hl,_,hr⟩:=h;rw[List.length_append,hl,bR.len hr];rfl
theorem rZ{e:bg}{g:List (bW U)→(TT U.ty e→Prop)→Prop}(hg: ∀l K,g l K→ ∃t,K t∧lu U fun V Y S=> ∀vs,bR V l vs→aD U Y S e t vs):
  ∀{k:Nat} {l:List (bW U)} {K:List (TT U.ty e)→Prop},vj g (aL U e) k l K→ ∃xs:List (TT U.ty e),K xs∧lu U fun V Y S=> ∀vs,bR V l vs→ ∃us r:List Value,aQ U Y S e xs us∧vs=us++r∧xs.length=k
 |0,l,K,h=>⟨[],h,fun _ _ _ _ _ vs hs=>⟨[],vs,.nil e,rfl,rfl⟩⟩
 |k+1,l,K,h=>by
  have h:tK 40 l (aL U e) (fun l1=>g l1 fun a=>gH 40 l (aL U e) fun l2=>vj g (aL U e) k l2 fun b=>K (a::b)):=h;obtain⟨l1,h1,hs1⟩:=gI h;obtain⟨a,h2,hd⟩:=hg l1 _ h1;obtain⟨l2,h3,hs3⟩:=fP h2;obtain⟨xs,h4,h5⟩:=rZ hg (k:=k) h3;refine⟨a::xs,h4,fun Y S ρ n H vs hs=>?_⟩;obtain⟨a1,a2⟩:=hs1 Y S ρ n H _ hs;obtain⟨b1,b2⟩:=hs3 Y S ρ n H _ hs;obtain⟨us,q,hd4,hq,hlen⟩:=h5 Y S ρ n H _ b1;have htl:(vs.take (aL U e)).length=aL U e:=by rw[List.length_take];omega
  refine⟨vs.take (aL U e)++us,q,.cons e a xs _ _ (hd Y S ρ n H _ a1) htl hd4,?_,by rw[List.length_cons,hlen]⟩;rw[List.append_assoc,←hq,List.take_append_drop]
theorem bE: ∀{f:Nat} {s:bg} {l:List (bW U)} {K:TT U.ty s→Prop},da f s l K→ ∃t,K t∧lu U fun V Y S=> ∀vs,bR V l vs→aD U Y S s t vs
 |0,s,l,K,h=>h.elim
 |f+1,.int k,l,K,h=>pM (s:= .int k) h
 |f+1,.bool,l,K,h=>pM (s:= .bool) h
 |f+1,.str,l,K,h=>pM (s:= .str) h
 |f+1,.sl e,l,K,h=>by
  have h:(match (generalizing:=false) l with
   |(_,.nils):: []=>K ([]:List (TT U.ty e))
   |_=>d1 (.sl e) l K):=h
  split at h
  ·refine⟨[],h,fun Y S ρ n H vs hs=>?_⟩;have hv:=hs.one1.1;rw[show vs= [.slice none 0 0]from hv];exact .sl e [] none 0 [] (.nil e) (fun w _=>kZ.nil) (Nat.le_refl _) (Nat.zero_le _)
  ·exact pM h
 |f+1,.st i,l,K,h=>by
  have h:(match (generalizing:=false) l with
   |(_,.d (.st j) t):: []=>d1 (.st i) l K
   |_=>bif Nat.beq (jI l) (U.rd i).sz then vh (da f) (U.rd i).fs l fun a=>(U.rd i).ofK a K else False):=h
  split at h
  ·exact pM h
  ·cases hb:Nat.beq (jI l) (U.rd i).sz with
   |false=>rw[hb]at h;exact h.elim
   |true=>
    rw[hb]at h;have hb:=Nat.eq_of_beq_eq_true hb;obtain⟨a,h1,h2⟩:=rY (fun s l K h=>bE (f:=f) h) h;obtain⟨x,hx,hto⟩:=(U.rd i).ofK_ok a K h1;refine⟨x,hx,fun Y S ρ n H vs hs=>?_⟩;obtain⟨us,r,hd,hq,hlen⟩:=h2 Y S ρ n H _ hs;have hvl:=hs.len;have hr:r= []:=by
     have:=congrArg List.length hq;rw[List.length_append,hlen,(U.rd i).sz_ok]at this;exact List.eq_nil_of_length_eq_zero (by omega)
    subst hr;rw[List.append_nil]at hq;subst hq;exact .st i x vs (by rw[hto];exact hd) (by omega)
 |f+1,.arr k e,l,K,h=>by
  have h:(match (generalizing:=false) l with
   |(_,.d (.arr _ _) _):: []=>d1 (.arr k e) l K
   |_=>bif Nat.beq (jI l) (k*aL U e)then vj (da f e) (aL U e) k l K else False):=h
  split at h
  ·exact pM h
  ·cases hb:Nat.beq (jI l) (k*aL U e)with
   |false=>rw[hb]at h;exact h.elim
   |true=>
    rw[hb]at h;have hb:=Nat.eq_of_beq_eq_true hb;obtain⟨xs,h1,h2⟩:=rZ (fun l K h=>bE (f:=f) h) h;refine⟨xs,h1,fun Y S ρ n H vs hs=>?_⟩;obtain⟨us,r,hd,hq,hlen⟩:=h2 Y S ρ n H _ hs;have hvl:=hs.len;have hr:r= []:=by
     have:=congrArg List.length hq;rw[List.length_append,hd.length,hlen]at this;exact List.eq_nil_of_length_eq_zero (by omega)
    subst hr;rw[List.append_nil]at hq;subst hq;exact .arr k e xs vs hd hlen
variable {Y:List Nat} {S:World→Prop} {ρ:Nat→Rz} {n:Nat} {H:Hs U}
theorem bi.one{x:Cx U}{vs:List Value}(h:bi U Y S ρ n H x vs): ∀v∈vs,v.oneCell'=true:=by
 cases x with
 |d s t=>exact aD.one h
 |own i v=>obtain⟨_,A,l,c,rfl,_⟩:=h;simp[Value.oneCell']
 |ptr i off=>obtain⟨_,_,g,_,rfl⟩:=h;simp[Value.oneCell']
 |pel i v q off=>obtain⟨_,a,rfl,_⟩:=h;simp[Value.oneCell']
 |pax i off m s q o=>obtain⟨_,_,_,_,g,_,rfl⟩:=h;simp[Value.oneCell']
 |pd s t=>obtain⟨g,b,us,rfl,_⟩:=h;simp[Value.oneCell']
 |nilp=>rw[show vs=_ from h];simp[Value.oneCell']
 |nils=>rw[show vs=_ from h];simp[Value.oneCell']
 |nilf=>rw[show vs=_ from h];simp[Value.oneCell']
 |nilm=>rw[show vs=_ from h];simp[Value.oneCell']
 |fn f=>rw[show vs=_ from h];simp[Value.oneCell']
 |clo f js=>rw[h.1];simp[Value.oneCell']
 |f1 a g=>obtain⟨u,rfl,⟨f,fi,ca,rfl⟩,_⟩:=h;simp[Value.oneCell']
 |f2 a b g=>obtain⟨u,rfl,⟨f,fi,ca,rfl⟩,_⟩:=h;simp[Value.oneCell']
 |mp i=>obtain⟨_,_,g,_,rfl⟩:=h;simp[Value.oneCell']
 |un=>obtain⟨u,rfl,h1⟩:=h;simpa using h1
theorem bR.one: ∀{l:List (bW U)} {vs:List Value},bR (bi U Y S ρ n H) l vs→ ∀v∈vs,v.oneCell'=true
 | [],vs,h=>by rw[show vs= []from h];simp
 |(k,x)::r,vs,h=>by
  obtain⟨v1,v2,rfl,hl,hx,hr⟩:=h;exact fun v hv=>(List.mem_append.1 hv).elim (hx.one v) (bR.one hr v)
end
end Go.Proofs.YtiliglahlfkikaaGreatDoor.V
end

section
set_option linter.unusedVariables false
set_option linter.unusedSimpArgs false
namespace Go.Proofs.YtiliglahlfkikaaGreatDoor.V
open Go.RowKit
section
variable [ao] {U:bQ}
def Eh(P:Program)(U:bQ)(d:KD U):Prop:= @fF _ d.dec P d.kt d.enc∧(∀Y S x vs v,aD U Y S d.k x vs→dS (eE d.k) v vs→v=d.enc x)∧ ∃z,iv P d.vt=some z∧ ∀Y S,∃vs,dS (eE d.v) z vs∧aD U Y S d.v d.zero vs
def ug(U:bQ)(d:KD U):Prop:=Eh ao.pr U d
def wS(P:Program)(t:Nat):Kd→Prop
 | .int k=>P.underlying t=some (.int k)
 | .bool=>P.underlying t=some .bool
 | .str=>P.underlying t=some .string
 | .sl e=>P.underlying t=some (.slice e)
 | .ptr e=>P.underlying t=some (.pointer e)
 | .st=> ∃fs,P.underlying t=some (.struct fs)
 | .arr n e=>P.underlying t=some (.array n e)
 | .mp k v=>P.underlying t=some (.map k v)
 | .fn=> ∃d,P.underlying t=some d
 | .ifc=> ∃d,P.underlying t=some d
structure iC(U:bQ)(P:Program)(t:Nat)(s:bg):Prop where
 guard:P.eqGuardType P.depth t=false
 vals: ∀Y S (a b:TT U.ty s) vs us,aD U Y S s a vs→aD U Y S s b us→ ∃r,aT P 8 t vs us=some r∧(r=true↔a=b)
structure aZ(U:bQ)(P:Program)(t:Nat)(ti:TI U):Prop where
 size:(P.info? t).map (·.size)=some ti.sz
 kd:wS P t ti.kd
 one:tX ti.kd=false→du P t=true
 by_:(P.info? t).map (·.bytes)=some ti.by_
 fs: ∀f off ft,dR ti.fs f=some (off,ft)→eL P t f=some off∧(match P.underlying t with|some (.struct fs)=>(fs[f]?).map (·.type)|_=>none)=some ft
 pl:ti.kd= .st→ ∃pls,mf P t=some pls∧ ∀f off ft,dR ti.fs f=some (off,ft)→ ∃k,pls[f]? =some (off,k)∧(P.info? ft).map (·.size)=some k
 eq: ∀s,ti.sh=some s→ti.cmp=true→tX ti.kd=true∧iC U P t s
 mp: ∀d,ti.mp=some d→Eh P U d∧P.underlying t=some (.map d.kt d.vt)
 zero: ∃zs,zeroCells P t=some zs∧zs.length=ti.sz∧ ∀(F:ao) Y S ρ n H,bR (@bi F U Y S ρ n H) ti.zero zs
def bD(U:bQ)(P:Program)(T:dL U):Prop:= ∀t ti,aF T t=some ti→aZ U P t ti
def aB(U:bQ)(Y:List Nat)(S:World→Prop)(d:KD U):List (TT U.ty d.k×TT U.ty d.v)→List (TT U.ty d.k×Value)→Prop
 | [],[]=>True
 |(x,y)::l,(x',u)::m=>x=x'∧(∃vs,dS (eE d.k) (d.enc x) vs∧aD U Y S d.k x vs)∧(∃vs,dS (eE d.v) u vs∧aD U Y S d.v y vs)∧aB U Y S d l m
 |_,_=>False
theorem aB.mv{Y Y':List Nat}{S S':World→Prop}(m:Mv Y S Y' S'){d:KD U}: ∀{l:List (TT U.ty d.k×TT U.ty d.v)} {mv:List (TT U.ty d.k×Value)},aB U Y S d l mv→aB U Y' S' d l mv
 | [],[],h=>h
 |(x,y)::l,(x',u)::mv,⟨h1,⟨ks,h5,h6⟩,⟨vs,h2,h3⟩,h4⟩=>⟨h1,⟨ks,h5,aD.mv m h6⟩,⟨vs,h2,aD.mv m h3⟩,aB.mv m h4⟩
 | [],_::_,h=>h.elim
 |_::_,[],h=>h.elim
section
variable {Y:List Nat} {S:World→Prop} {d:KD U}
omit [ao]in
theorem aB.len: ∀{l:List (TT U.ty d.k×TT U.ty d.v)} {m:List (TT U.ty d.k×Value)},aB U Y S d l m→l.length=m.length
 | [],[],_=>rfl
 |_::_,_::_,h=>by rw[List.length_cons,List.length_cons,aB.len h.2.2.2]
 | [],_::_,h=>h.elim
 |_::_,[],h=>h.elim
omit [ao]in
theorem aB.get(x:TT U.ty d.k): ∀{l:List (TT U.ty d.k×TT U.ty d.v)} {m:List (TT U.ty d.k×Value)},aB U Y S d l m→
  (@cF _ _ d.dec l x=none∧ @cF _ _ d.dec m x=none)∨ ∃y u, @cF _ _ d.dec l x=some y∧ @cF _ _ d.dec m x=some u∧ ∃vs,dS (eE d.v) u vs∧aD U Y S d.v y vs
 | [],[],_=> .inl ⟨rfl,rfl⟩
 |(k,y)::l,(k',u)::m,⟨h1,hk,h2,h3⟩=>by
  subst h1;by_cases e:k=x
  ·exact .inr ⟨y,u,by simp[cF,e],by simp[cF,e],h2⟩
  ·have e1: @cF _ _ d.dec ((k,y)::l) x= @cF _ _ d.dec l x:=by simp[cF,e]
   have e2: @cF _ _ d.dec ((k,u)::m) x= @cF _ _ d.dec m x:=by simp[cF,e]
   rw[e1,e2];exact aB.get x h3
 | [],_::_,h=>h.elim
 |_::_,[],h=>h.elim
omit [ao]in
theorem aB.set{x:TT U.ty d.k}{z:TT U.ty d.v}{q:Value}(hx: ∃vs,dS (eE d.k) (d.enc x) vs∧aD U Y S d.k x vs)(hz: ∃vs,dS (eE d.v) q vs∧aD U Y S d.v z vs): ∀{l:List (TT U.ty d.k×TT U.ty d.v)} {m:List (TT U.ty d.k×Value)},aB U Y S d l m→aB U Y S d (@eX _ _ d.dec l x z) (@eX _ _ d.dec m x q)
 | [],[],_=>⟨rfl,hx,hz,trivial⟩
 |(k,y)::l,(k',u)::m,⟨h1,hk,h2,h3⟩=>by
  subst h1;unfold eX;by_cases e:k=x
  ·simp only[e,if_true];exact⟨rfl,hx,hz,h3⟩
  ·simp only[e,if_false];exact⟨rfl,hk,h2,aB.set hx hz h3⟩
 | [],_::_,h=>h.elim
 |_::_,[],h=>h.elim
omit [ao]in
theorem aB.del{x:TT U.ty d.k}: ∀{l:List (TT U.ty d.k×TT U.ty d.v)} {m:List (TT U.ty d.k×Value)},aB U Y S d l m→aB U Y S d (@dU _ _ d.dec l x) (@dU _ _ d.dec m x)
 | [],[],_=>trivial
 |(k,y)::l,(k',u)::m,⟨h1,hk,h2,h3⟩=>by
  subst h1;unfold dU;by_cases e:k=x
  ·simp only[e,if_true];exact h3
  ·simp only[e,if_false];exact⟨rfl,hk,h2,aB.del h3⟩
 | [],_::_,h=>h.elim
 |_::_,[],h=>h.elim
omit [ao]in
theorem aB.part{a':List (TT U.ty d.k×Value)}{p':TT U.ty d.k×Value}{b':List (TT U.ty d.k×Value)}: ∀{l:List (TT U.ty d.k×TT U.ty d.v)},aB U Y S d l (a'++p'::b')→
  ∃a p b,l=a++p::b∧p.1=p'.1∧(∃vs,dS (eE d.k) (d.enc p.1) vs∧aD U Y S d.k p.1 vs)∧(∃vs,dS (eE d.v) p'.2 vs∧aD U Y S d.v p.2 vs)∧aB U Y S d (a++b) (a'++b'):=by
 induction a' with
 |nil=>
  intro l h;cases l with
  |nil=>exact h.elim
  |cons p l=>obtain⟨h1,hk,h2,h3⟩:=h;exact⟨[],p,l,rfl,h1,hk,h2,h3⟩
 |cons q a' ih=>
  intro l h;cases l with
  |nil=>exact h.elim
  |cons p l=>
   obtain⟨h1,hk,h2,h3⟩:=h;obtain⟨a,p2,b,e,e2,e5,e3,e4⟩:=ih h3;exact⟨p::a,p2,b,by rw[e];rfl,e2,e5,e3,h1,hk,h2,e4⟩
end
def lz(U:bQ)(Y:List Nat)(S:World→Prop)(ρ:Nat→Rz)(n:Nat)(H:Hs U)(i:Nat):aM U→Prop
 | .cells l t=> ∃g vs,(ρ i).A=some ⟨g,0,none⟩∧bR (bi U Y S ρ n H) l vs∧ ∀w,S w→w.heap[g]? =some (Cl vs t)
 | .row v e xs t=>0<aL U e∧ ∃cs sp,aQ U Y S e xs cs∧Ow (ρ i).A xs.length (ρ i).c (aL U e) cs sp∧ ∀g,ah (ρ i).A=some g→ ∀w,S w→w.heap[g]? =some (Cl (cs++sp) t)
 | .frz v e xs=>0<aL U e∧ ∃cs,aQ U Y S e xs cs∧rW Y S (ρ i).A cs∧xs.length≤(ρ i).c∧(ρ i).c≤maxLen
 | .map d l=>ug U d∧ ∃g es clock mv,(ρ i).A=some ⟨g,0,none⟩∧mt d.enc (fun v:Value=>v) es clock mv∧aB U Y S d l mv∧ ∀w,S w→w.heap[g]? =some (.map es clock)
 | .mapr d l left cur gh=>ug U d∧ ∃g es clock mv lv cv,(ρ i).A=some ⟨g,0,none⟩∧oZ d.enc (fun v:Value=>v) es clock mv lv cv gh∧aB U Y S d l mv∧aB U Y S d left lv∧aB U Y S d cur cv∧ ∀w,S w→w.heap[g]? =some (.map es clock)
 | .it k gh=> ∃r g,(ρ i).A=some ⟨r,0,none⟩∧(ρ k).A=some ⟨g,0,none⟩∧k<n∧bq (aF H k)=none∧ ∀w,S w→w.heap[r]? =some (.mapIter (some g) gh.since gh.seen gh.c0)
 | .clo f l=>True
 | .hid _ _ _=>True
 | .dead=>True
def aq(ρ:Nat→Rz):Nat×aM U→Option Nat
 |(i,.cells _ _)=>ah (ρ i).A
 |(i,.row _ _ _ _)=>ah (ρ i).A
 |(i,.map _ _)=>ah (ρ i).A
 |(i,.mapr _ _ _ _ _)=>ah (ρ i).A
 |(i,.it _ _)=>ah (ρ i).A
 |_=>none
def ak(ρ:Nat→Rz)(H:Hs U):List Nat:=H.filterMap (aq ρ)
def sg(S:World→Prop):Prop:=(∀z∈gB,z∈ao.xf)∧ ∀w,S w→Gv w
theorem sg.fr{O:List Nat}{w w':World}(h:sg (· =w))(hf:Fr O w w')(hO: ∀o∈O,o∉ao.xf):sg (· =w'):=⟨h.1,fun w2 h2=>by subst h2;exact(h.2 w rfl).fr hf fun o ho hb=>hO o ho (h.1 o hb)⟩
structure bu(U:bQ)(X:List Nat)(S:World→Prop)(ρ:Nat→Rz)(n:Nat)(H:Hs U):Prop where
 nd:(H.map (·.1)).Nodup
 lt: ∀p∈H,p.1<n
 ent: ∀p∈H,lz U (ak ρ H++X) S ρ n H p.1 p.2
 inj: ∀p∈H,∀q∈H,∀g,aq ρ p=some g→aq ρ q=some g→p.1=q.1
 dj: ∀g∈ak ρ H,g∉X
 lo: ∀w,S w→ ∀x∈X,x<w.heap.size
 xs: ∀x∈ao.xf,x∈X
 gv:sg S
def cP(V:Cx U→List Value→Prop)(x:Va U)(v:Value):Prop:=match x.ag with
 |true=> ∃vs:List Value,v= .agg vs.toArray∧bR V x.l vs
 |false=>bR V x.l [v]
def ch(V:Cx U→List Value→Prop):List (Va U)→List Value→Prop
 | [],vs=>vs= []
 |x::r,vs=> ∃v us,vs=v::us∧cP V x v∧ch V r us
def pu(V:Cx U→List Value→Prop):AV U→Value→Prop
 | .v x,u=>cP V x u
 | .tup l,u=> ∃us:List Value,u= .tuple us.toArray∧ch V l us
 |_,_=>True
def gl(R e:En U)(s:Nat):Option Bool:=match aF R s with
 |some (.gd _ ⟨false,(_,.d .bool c):: []⟩)=>some c
 |some _=>none
 |none=>(match aF e s with
  |some (.v ⟨false,(_,.d .bool c):: []⟩)=>some c
  |_=>none)
def br(R e:En U)(p:dh):Prop:= ∀x∈p,gl R e x.1=some x.2
structure aU(V:Cx U→List Value→Prop)(R e:En U)(ce:aI):Prop where
 v: ∀k x,aF R k=none→aF e k=some (.v x)→ ∃u,ce.get k=some u∧cP V x u
 t: ∀k l,aF R k=none→aF e k=some (.tup l)→ ∃us:List Value,ce.get k=some (.tuple us.toArray)∧ch V l us
 g: ∀k p x,aF R k=some (.gd p x)→ ∃u,ce.get k=some u∧(br R e p→cP V x u)∧(¬br R e p→u=undef)
omit [ao]in
theorem yf{R e:En U}{s:Nat}{K:Bool→Prop}(h:vk R e s K False): ∃c,gl R e s=some c∧K c:=by
 unfold vk at h;unfold gl;split at h
 ·rename_i q k c hc;rw[hc];exact⟨_,rfl,h⟩
 ·exact h.elim
 ·rename_i hn;split at h
  ·rename_i k c hc;rw[hn,hc];exact⟨_,rfl,h⟩
  ·exact h.elim
omit [ao]in
theorem lA{R e:En U}: ∀{p:dh} {A:Prop},pL R e p A→br R e p→A
 | [],A,h,_=>h
 |x::p,A,h,ht=>by
  obtain⟨c,hc,hK⟩:=yf (show vk R e x.1 (fun c=>c=x.2→pL R e p A) False from h);have:=ht x (by simp);rw[hc]at this;injection this with this;exact lA (hK this) fun y hy=>ht y (by simp[hy])
omit [ao]in
theorem jZ: ∀{p q:dh},fu p q=true→p=q
 | [],[],_=>rfl
 |(s,true)::p,(t,true)::q,h=>by
  simp only[fu]at h;cases hb:Nat.beq s t with
  |false=>rw[hb]at h;cases h
  |true=>rw[hb]at h;rw[Nat.eq_of_beq_eq_true hb,jZ h]
 |(s,false)::p,(t,false)::q,h=>by
  simp only[fu]at h;cases hb:Nat.beq s t with
  |false=>rw[hb]at h;cases h
  |true=>rw[hb]at h;rw[Nat.eq_of_beq_eq_true hb,jZ h]
 |(s,true)::p,(t,false)::q,h=>by simp[fu]at h
 |(s,false)::p,(t,true)::q,h=>by simp[fu]at h
 | [],_::_,h=>by simp[fu]at h
 |(_,_)::_,[],h=>by simp[fu]at h
omit [ao]in
theorem na{q:dh}: ∀{p:dh},hU q p=true→ ∀x∈q,x∈p
 | [],h,x,hx=>by have:=jZ (show fu q []=true from h);rw[this]at hx;exact hx
 |y::p,h,x,hx=>by
  have h:(fu q (y::p)||hU q p)=true:=h;rw[Bool.or_eq_true]at h;rcases h with h|h
  ·have:=jZ h;rw[this]at hx;exact hx
  ·exact List.mem_cons_of_mem _ (na h x hx)
omit [ao]in
theorem br.suf{R e:En U}{p q:dh}(h:br R e p)(hs:hU q p=true):br R e q:=fun x hx=>h x (na hs x hx)
omit [ao]in
theorem BE{k:IntKind}{p:Int}(h:Bj k p=true):d9 k p:=by
 cases k<;>cases p<;>simp only[Bj,Nat.ble_eq]at h<;>simp only[d9]<;>first|(cases h;done)|(simp only[Int.ofNat_eq_natCast];omega)|omega
variable {Y:List Nat} {S:World→Prop} {ρ:Nat→Rz} {n:Nat} {H:Hs U} {R e:En U} {ce:aI} {p:dh}
omit [ao]in
theorem OO{V:Cx U→List Value→Prop}{x:Cx U}{v:Value}(h:V x [v]):bR V [(1,x)] [v]:=⟨[v],[],rfl,rfl,h,rfl⟩
omit [ao]in
theorem ia{V:Cx U→List Value→Prop}{x:Cx U}{v:Value}(h:V x [v]):cP V ⟨false,[(1,x)]⟩ v:=OO h
theorem wT{v:Value}{K:Va U→Prop}(h:t6 v K): ∃x,K x∧cP (bi U Y S ρ n H) x v:=by
 unfold t6 at h;split at h
 ·rename_i k q;cases hb:Bj k q with
  |false=>rw[hb]at h;exact h.elim
  |true=>rw[hb]at h;exact⟨_,h,ia (aD.int k q (BE hb))⟩
 ·exact⟨_,h,ia (aD.bool _)⟩
 ·rename_i l;cases hb:Nat.ble l.length 9223372036854775807 with
  |false=>rw[hb]at h;exact h.elim
  |true=>rw[hb]at h;exact⟨_,h,ia (aD.str l (Nat.le_of_ble_eq_true hb))⟩
 ·exact⟨_,h,ia rfl⟩
 ·exact⟨_,h,ia rfl⟩
 ·exact⟨_,h,ia rfl⟩
 ·exact⟨_,h,ia rfl⟩
 ·exact h.elim
theorem dF{o:Operand}{K:Va U→Prop}(h:ln p R e o K)(he:aU (bi U Y S ρ n H) R e ce): ∃x,K x∧(br R e p→ ∃v,ce.ev o=some v∧cP (bi U Y S ρ n H) x v):=by
 unfold ln at h;split at h
 ·rename_i t;split at h
  ·rename_i q x hx;cases hb:hU q p with
   |false=>rw[hb]at h;exact h.elim
   |true=>
    rw[hb]at h;obtain⟨u,hu,h1,_⟩:=he.g _ _ _ hx;exact⟨x,h,fun hp=>⟨u,hu,h1 (hp.suf hb)⟩⟩
  ·exact h.elim
  ·rename_i hn;split at h
   ·rename_i x hx;obtain⟨u,hu,h1⟩:=he.v _ _ hn hx;exact⟨x,h,fun _=>⟨u,hu,h1⟩⟩
   ·exact h.elim
 ·rename_i v;obtain⟨x,hx,hv⟩:=wT h;exact⟨x,hx,fun _=>⟨v,rfl,hv⟩⟩
 ·exact⟨_,h,fun _=>⟨_,rfl,ia rfl⟩⟩
 ·exact h.elim
theorem jg: ∀{l:List Operand} {K:List (Va U)→Prop},rS p R e l K→aU (bi U Y S ρ n H) R e ce→ ∃xs,K xs∧(br R e p→ ∃vs,ce.evs l=some vs∧ch (bi U Y S ρ n H) xs vs)
 | [],K,h,he=>⟨[],h,fun _=>⟨[],rfl,rfl⟩⟩
 |o::l,K,h,he=>by
  obtain⟨x,h1,hx⟩:=dF (show ln p R e o (fun v=>rS p R e l fun r=>K (v::r))from h) he;obtain⟨xs,h2,hxs⟩:=jg (l:=l) h1 he;refine⟨_,h2,fun hp=>?_⟩;obtain⟨v,e1,v1⟩:=hx hp;obtain⟨vs,e2,v2⟩:=hxs hp;exact⟨v::vs,by simp only[aI.evs,e1,e2],v,vs,rfl,v1,v2⟩
theorem cP.single{x:Va U}{k:Nat}{c:Cx U}{v:Value}(h:cP (bi U Y S ρ n H) x v)(hl:x.l= [(k,c)]): ∃vs,bi U Y S ρ n H c vs∧vs.length=k∧v.cells.toList=vs∧(x.ag=false→vs= [v]):=by
 unfold cP at h;split at h
 ·rename_i ha;obtain⟨vs,rfl,hs⟩:=h;rw[hl]at hs;exact⟨vs,hs.one1.1,hs.one1.2,by simp[Value.cells],fun hf=>by rw[ha]at hf;cases hf⟩
 ·rename_i ha;rw[hl]at h;refine⟨[v],h.one1.1,h.one1.2,?_,fun _=>rfl⟩;have:=h.one1.1.one v (by simp);cases v<;>first|rfl|(simp[Value.oneCell']at this)
theorem cP.cells{x:Va U}{v:Value}(h:cP (bi U Y S ρ n H) x v):bR (bi U Y S ρ n H) x.l v.cells.toList:=by
 unfold cP at h;split at h
 ·obtain⟨vs,rfl,hs⟩:=h;simpa[Value.cells]using hs
 ·have:=h.one v (by simp);cases v<;>first|exact h|(simp[Value.oneCell']at this)
theorem cP.int{x:Va U}{k:Nat}{kd:IntKind}{q:Int}{v:Value}(h:cP (bi U Y S ρ n H) x v)(hl:x.l= [(k,.d (.int kd) q)]):d9 kd q∧(v= .int kd q∨v= .agg #[.int kd q]):=by
 obtain⟨vs,h1,h2,h3,h4⟩:=h.single hl;have hd:=(show aD U Y S (.int kd) q vs from h1).inv;refine⟨hd.2,?_⟩;rw[hd.1]at h3 h4;cases hx:x.ag with
 |false=>have:=h4 hx;injection this with this;exact .inl this.symm
 |true=>
  unfold cP at h;rw[hx]at h;obtain⟨us,rfl,hs⟩:=h;simp[Value.cells]at h3;rw[h3];exact .inr rfl
end
end Go.Proofs.YtiliglahlfkikaaGreatDoor.V
end

section
set_option linter.unusedVariables false
set_option linter.unusedSimpArgs false
namespace Go.Proofs.YtiliglahlfkikaaGreatDoor.V
open Go.RowKit
section
variable [ao] {U:bQ} {P:Program} {nt:Nat} {T:dL U} {X:List Nat} {S:World→Prop} {ρ:Nat→Rz} {n:Nat} {H:Hs U} {R e:En U} {ce:aI} {p:dh} {o:Oper}
omit [ao]in
theorem al{α:Type}: ∀{l:List (Nat×α)} {i:Nat} {x:α},aF l i=some x→(i,x)∈l
 |(j,y)::r,i,x,h=>by
  unfold aF at h;cases hb:Nat.beq j i with
  |true=>rw[hb]at h;injection h with h;rw[←h,Nat.eq_of_beq_eq_true hb];simp
  |false=>rw[hb]at h;exact List.mem_cons_of_mem _ (al h)
theorem bI{Y:List Nat}{o:Operand}{K:Cx U→Prop}(h:je p R e o K)(he:aU (bi U Y S ρ n H) R e ce): ∃c,K c∧(br R e p→ ∃v,ce.ev o=some v∧bi U Y S ρ n H c [v]):=by
 obtain⟨x,hx,hv⟩:=dF h he;unfold Fp at hx;split at hx
 ·rename_i k c;refine⟨c,hx,fun hp=>?_⟩;obtain⟨v,e1,e2⟩:=hv hp;exact⟨v,e1,(show bR _ [(k,c)] [v]from e2).one1.1⟩
 ·exact hx.elim
structure yg(S:World→Prop)(l m:Nat)(A:Option Addr)(c:Nat)(cs:List Value):Prop where
 src: ∀w,S w→ ∀ad,A=some ad→ ∀j u,cs[j]? =some u→w.cell? (ad.add j)=some u
 none_:A=none→l=0
 mid: ∀ad,A=some ad→0<l→ad.spot=none
 lc:l≤c
 cm:c≤maxLen
 len:cs.length=l*m
 pos:0<m
omit [ao]in
theorem yh{Y:List Nat}{l m c:Nat}{A:Option Addr}{cs:List Value}(h:rW Y S A cs)(hl:cs.length=l*m)(hm:0<m)(hlc:l≤c)(hc:c≤maxLen)(hS: ∃w,S w):yg S l m A c cs:=by
 refine⟨fun w hw ad hA j u hj=>(h w hw).src ad hA j u hj,fun hA=>?_,fun ad hA hl0=>?_,hlc,hc,hl,hm⟩
 ·obtain⟨w,hw⟩:=hS;exact mq (h w hw) hA hl hm
 ·obtain⟨w,hw⟩:=hS;obtain⟨g,b,e1⟩:=(h w hw).addr (by rw[hl];exact Nat.mul_pos hl0 hm);rw[hA]at e1;injection e1 with e1;rw[e1]
omit [ao]in
theorem FV{l c m:Nat}{A:Option Addr}{cs sp:List Value}{t:Nat}(ho:Ow A l c m cs sp)(hb: ∀g,ah A=some g→ ∀w,S w→w.heap[g]? =some (Cl (cs++sp) t))(hm:0<m):yg S l m A c cs:=by
 refine⟨fun w hw ad hA j u hj=>?_,fun hA=>tD ho hA,fun ad hA _=>?_,?_,?_,ho.1,hm⟩
 ·subst hA;rcases ho.2 with⟨h0,_⟩|⟨g,e1,_⟩
  ·cases h0
  injection e1 with e1;subst e1;rw[Addr.add_mid,Nat.zero_add,cell_of_row w g j (cs++sp).toArray t (0,0) (hb g rfl w hw)];simp only[List.getElem?_toArray];rw[List.getElem?_append_left (List.getElem?_eq_some_iff.1 hj).1];exact hj
 ·rcases ho.2 with⟨h0,_⟩|⟨g,e1,_⟩
  ·rw[h0]at hA;cases hA
  ·rw[hA]at e1;injection e1 with e1;rw[e1]
 ·rcases ho.2 with⟨_,h0,h1,_⟩|⟨g,_,_,h1,_⟩
  ·omega
  ·exact h1
 ·rcases ho.2 with⟨_,h0,h1,_⟩|⟨g,_,_,_,h1⟩
  ·rw[h1];exact Nat.zero_le _
  ·exact h1
theorem qA{x:Cx U}{K:(s:bg)→List (TT U.ty s)→Prop}(h:t7 H x K)(M:bu U X S ρ n H)(hS: ∃w,S w):
  ∃s xs,K s xs∧ ∀vs,bi U (ak ρ H++X) S ρ n H x vs→ ∃A c cs,vs= [.slice A xs.length c]∧aQ U (ak ρ H++X) S s xs cs∧yg S xs.length (aL U s) A c cs:=by
 unfold t7 at h;split at h
 ·rename_i s xs;cases hb:Nat.blt 0 (aL U s)with
  |false=>rw[hb]at h;exact h.elim
  |true=>
   rw[hb]at h;have hb:0<aL U s:=by simpa[Nat.blt_eq]using hb
   refine⟨s,xs,h,fun vs hv=>?_⟩;obtain⟨A,c,cs,rfl,hd,hr,h1,h2⟩:=(show aD U _ S (.sl s) xs vs from hv).inv;exact⟨A,c,cs,rfl,hd,yh hr hd.length hb h1 h2 hS⟩
 ·rename_i i v;split at h
  ·rename_i v' s xs t hl;cases hb:Nat.beq v v' with
   |false=>rw[hb]at h;exact h.elim
   |true=>
    rw[hb]at h;refine⟨s,xs,h,fun vs hv=>?_⟩;obtain⟨_,A,l,c,rfl,hn⟩:=hv;obtain⟨rfl,rfl,rfl⟩:=(hn _ _ _ (by rw[hl];rfl)).2 (Nat.eq_of_beq_eq_true hb);obtain⟨hm,cs,sp,hd,ho,hb⟩:=M.ent _ (al hl);exact⟨_,_,cs,rfl,hd,FV ho hb hm⟩
  ·rename_i v' s xs hl;cases hb:Nat.beq v v' with
   |false=>rw[hb]at h;exact h.elim
   |true=>
    rw[hb]at h;refine⟨s,xs,h,fun vs hv=>?_⟩;obtain⟨_,A,l,c,rfl,hn⟩:=hv;obtain⟨rfl,rfl,rfl⟩:=(hn _ _ _ (by rw[hl];rfl)).2 (Nat.eq_of_beq_eq_true hb);obtain⟨hm,cs,hd,hr,h1,h2⟩:=M.ent _ (al hl);exact⟨_,_,cs,rfl,hd,yh hr hd.length hm h1 h2 hS⟩
  ·exact h.elim
 ·exact h.elim
omit [ao]in
theorem qB{t:Nat}{ti:TI U}(h:aZ U P t ti)(ha:tX ti.kd=true):aW P t=some ti.sz:=by
 have hk:=h.kd;unfold aW;cases hkd:ti.kd with
 |st=>rw[hkd]at hk;obtain⟨fs,hk⟩:=hk;rw[hk];exact h.size
 |arr k e=>rw[hkd]at hk;rw[show P.underlying t=_ from hk];exact h.size
 |_=>rw[hkd]at ha;cases ha
omit [ao]in
theorem nV{t:Nat}{ti:TI U}(h:aZ U P t ti)(ha:tX ti.kd=false):ti.sz=1:=by
 have hp:=h.one ha;have hs:=h.size;unfold du at hp;split at hp
 ·cases hp
 ·cases hp
 ·cases hq:P.info? t with
  |none=>rw[hq]at hs;cases hs
  |some i=>rw[hq]at hp hs;simp at hp hs;omega
 ·cases hp
theorem mC{t:Nat}{l:List (bW U)}{K:Va U→Prop}(h:Eb T t l K)(hT:bD U P T):
  ∃v,K v∧ ∃ti,aF T t=some ti∧lu U fun V Y S=> ∀vs,bR V l vs→vs.length=ti.sz→ ∃u,cP V v u∧(tX ti.kd=true→u= .agg vs.toArray)∧(tX ti.kd=false→vs= [u]):=by
 unfold Eb at h;split at h
 ·rename_i ti hti;have htk:=hT _ _ hti;cases ha:tX ti.kd with
  |true=>
   simp only[ha]at h;exact⟨_,h,ti,hti,fun Y S ρ n H vs hs hl=>⟨_,⟨vs,rfl,hs⟩,fun _=>rfl,fun hf=>(by rw[ha]at hf;cases hf)⟩⟩
  |false=>
   simp only[ha]at h;have h1:=nV htk ha;have one: ∀vs:List Value,vs.length=ti.sz→ ∃v,vs= [v]:=fun vs hl=>by
    match vs,hl with
    | [v],_=>exact⟨v,rfl⟩
    | [],hl=>simp at hl;omega
    |_::_::_,hl=>simp at hl;omega
   split at h
   ·rename_i m i x;obtain⟨l',hK,hs'⟩:=lw h;refine⟨_,hK,ti,hti,fun Y S ρ n H vs hs hl=>?_⟩;obtain⟨v,rfl⟩:=one vs hl;exact⟨v,hs' Y S ρ n H _ hs.one1.1,fun hf=>(by rw[ha]at hf;cases hf),fun _=>rfl⟩
   ·refine⟨_,h,ti,hti,fun Y S ρ n H vs hs hl=>?_⟩;obtain⟨v,rfl⟩:=one vs hl;exact⟨v,hs,fun hf=>(by rw[ha]at hf;cases hf),fun _=>rfl⟩
 ·exact h.elim
omit [ao]in
theorem nW{t:Nat}{ti:TI U}(hti:aZ U P t ti){vs:List Value}{u:Value}(hl:vs.length=ti.sz)(h1:tX ti.kd=true→u= .agg vs.toArray)(h2:tX ti.kd=false→vs= [u]){w:World}{g k:Nat}(hr:w.rangeAt g k vs):(loadVar t ⟨g,k,none⟩).run P w= .ok u w:=by
 cases ha:tX ti.kd with
 |true=>rw[h1 ha];exact jC (qB hti ha) hl hr
 |false=>have:=h2 ha;subst this;exact iw (hti.one ha) (by simpa using hr 0 u rfl)
omit [ao]in
theorem mD{w:World}{g:Nat}{t:Nat}{vs:List Value}(h:w.heap[g]? =some (Cl vs t))(off k:Nat):w.rangeAt g off ((vs.drop off).take k):=fun j v hj=>by
 rw[List.getElem?_take]at hj;split at hj
 ·rw[List.getElem?_drop]at hj;rw[cell_of_row w g (off+j) vs.toArray t (0,0) h];simpa using hj
 ·cases hj
omit [ao]in
theorem go{α:Type}{vs:List α}{q m off k:Nat}(h:off+k≤m):(((vs.drop q).take m).drop off).take k=(vs.drop (q+off)).take k:=by
 rw[List.drop_take,List.take_take,List.drop_drop,Nat.min_eq_left (by omega)]
def OP(P:Program)(V:Cx U→List Value→Prop)(S:World→Prop)(t:Nat)(x:Cx U)(v:Va U):Prop:= ∀u0,V x [u0]→ ∃A u,u0= .pointer (some A)∧cP V v u∧ ∀w,S w→(loadVar t A).run P w= .ok u w
omit [ao]in
theorem nF{q l m:Nat}(h:q<l):q*m+m≤l*m:=by
 have:=Nat.mul_le_mul_right m (show q+1≤l from h);rw[Nat.add_mul,Nat.one_mul]at this;exact this
omit [ao]in
theorem wU{w:World}{g off m k q l:Nat}{cs sp:List Value}{t:Nat}(h:w.heap[g]? =some (Cl (cs++sp) t))(hl:cs.length=l*m)(hq:q<l)(ho:off+k≤m):w.rangeAt g (q*m+off) ((((cs.drop (q*m)).take m).drop off).take k):=by
 rw[go ho];have:=mD h (q*m+off) k;have h2:=nF (m:=m) hq;rw[List.drop_append_of_le_length (by omega),List.take_append_of_le_length (by rw[List.length_drop];omega)]at this;exact this
omit [ao]in
theorem yi{Y:List Nat}{A:Option Addr}{g off m k q l:Nat}{cs:List Value}(h:rW Y S A cs)(hA:A=some ⟨g,0,none⟩)(ho:off+k≤m){w:World}(hw:S w):w.rangeAt g (q*m+off) ((((cs.drop (q*m)).take m).drop off).take k):=by
 rw[go ho];subst hA;have:=(h w hw).range (q*m+off) k;rw[Nat.zero_add]at this;exact this
theorem si{t:Nat}{x:Cx U}{K:Va U→Prop}(h:rU T t H x K)(M:bu U X S ρ n H)(hT:bD U P T):
  ∃v,K v∧OP P (bi U (ak ρ H++X) S ρ n H) S t x v:=by
 unfold rU at h;split at h
 ·rename_i ti hti;have htk:=hT _ _ hti;split at h
  ·rename_i i off;split at h
   ·rename_i l ty hl;obtain⟨l',hK,hs'⟩:=fQ h;obtain⟨v,hv,ti',hti',hva⟩:=mC hK hT;rw[hti]at hti';injection hti' with hti';subst hti';refine⟨v,hv,fun u0 h0=>?_⟩;obtain⟨g,vs,hA,hs,hb⟩:=M.ent _ (al hl);obtain⟨a1,a2⟩:=hs' _ _ _ _ _ _ hs;have hlen:((vs.drop off).take ti.sz).length=ti.sz:=by rw[List.length_take,List.length_drop];omega
    obtain⟨u,hu,e1,e2⟩:=hva _ _ _ _ _ _ a1 hlen;obtain⟨_,_,g',hA',e3⟩:=h0;rw[hA]at hA';injection hA' with hA';injection hA' with hA';subst hA';injection e3 with e3;exact⟨_,u,e3,hu,fun w hw=>nW htk hlen e1 e2 (mD (hb w hw) _ _)⟩
   ·exact h.elim
  ·rename_i i v q off;split at h
   ·rename_i v' s xs ty hl;cases hbq:Nat.beq v v' with
    |false=>rw[hbq]at h;exact h.elim
    |true=>
     rw[hbq]at h;obtain⟨x,hx,hix⟩:=iz h;obtain⟨l',hK,hs'⟩:=fQ hx;obtain⟨va,hv,ti',hti',hva⟩:=mC hK hT;rw[hti]at hti';injection hti' with hti';subst hti';refine⟨va,hv,fun u0 h0=>?_⟩;obtain⟨hm,cs,sp,hd,ho,hb⟩:=M.ent _ (al hl);obtain⟨_,a,e3,hn⟩:=h0;obtain⟨g,hA,ha,hq0,hq1⟩:=(hn _ _ _ (by rw[hl];rfl)).2 (Nat.eq_of_beq_eq_true hbq);injection e3 with e3;have hxq:=hix _ (List.getElem?_eq_getElem (show q.toNat<xs.length by omega));have hat:=hd.at q.toNat _ (List.getElem?_eq_getElem (show q.toNat<xs.length by omega));rw[←hxq]at hat;have hatl:=hat.length;obtain⟨a1,a2⟩:=hs' (ak ρ H++X) S ρ n H _ ⟨_,[],(List.append_nil _).symm,hatl,hat,rfl⟩;rw[hatl]at a2;have hlen:(((((cs.drop (q.toNat*aL U s)).take (aL U s))).drop off).take ti.sz).length=ti.sz:=by rw[List.length_take,List.length_drop,hatl];omega
     obtain⟨u,hu,e1,e2⟩:=hva _ _ _ _ _ _ a1 hlen;subst ha;exact⟨_,u,e3,hu,fun w hw=>nW htk hlen e1 e2 (wU (hb g (by rw[hA];rfl) w hw) hd.length (by omega) a2)⟩
   ·rename_i v' s xs hl;cases hbq:Nat.beq v v' with
    |false=>rw[hbq]at h;exact h.elim
    |true=>
     rw[hbq]at h;obtain⟨x,hx,hix⟩:=iz h;obtain⟨l',hK,hs'⟩:=fQ hx;obtain⟨va,hv,ti',hti',hva⟩:=mC hK hT;rw[hti]at hti';injection hti' with hti';subst hti';refine⟨va,hv,fun u0 h0=>?_⟩;obtain⟨hm,cs,hd,hr,_,_⟩:=M.ent _ (al hl);obtain⟨_,a,e3,hn⟩:=h0;obtain⟨g,hA,ha,hq0,hq1⟩:=(hn _ _ _ (by rw[hl];rfl)).2 (Nat.eq_of_beq_eq_true hbq);injection e3 with e3;have hxq:=hix _ (List.getElem?_eq_getElem (show q.toNat<xs.length by omega));have hat:=hd.at q.toNat _ (List.getElem?_eq_getElem (show q.toNat<xs.length by omega));rw[←hxq]at hat;have hatl:=hat.length;obtain⟨a1,a2⟩:=hs' (ak ρ H++X) S ρ n H _ ⟨_,[],(List.append_nil _).symm,hatl,hat,rfl⟩;rw[hatl]at a2;have hlen:(((((cs.drop (q.toNat*aL U s)).take (aL U s))).drop off).take ti.sz).length=ti.sz:=by rw[List.length_take,List.length_drop,hatl];omega
     obtain⟨u,hu,e1,e2⟩:=hva _ _ _ _ _ _ a1 hlen;subst ha;exact⟨_,u,e3,hu,fun w hw=>nW htk hlen e1 e2 (yi (l:=xs.length) hr hA a2 hw)⟩
   ·exact h.elim
  ·rename_i i off k s q o;split at h
   ·rename_i l ty hl;obtain⟨la,h,hla⟩:=fQ h;obtain⟨(xs:List (TT U.ty s)),h,hxs⟩:=bE h;obtain⟨x,hx,hix⟩:=iz h;obtain⟨l',hK,hs'⟩:=fQ hx;obtain⟨va,hv,ti',hti',hva⟩:=mC hK hT;rw[hti]at hti';injection hti' with hti';subst hti';refine⟨va,hv,fun u0 h0=>?_⟩;obtain⟨g,vs,hA,hs,hb⟩:=M.ent _ (al hl);obtain⟨_,_,hq0,hq1,g',hA',e3⟩:=h0;rw[hA]at hA';injection hA' with hA';injection hA' with hA';subst hA';injection e3 with e3;obtain⟨b1,b2⟩:=hla _ _ _ _ _ _ hs;obtain⟨hd1,hd2⟩:=aD.inv (hxs _ _ _ _ _ _ b1);have hqk:q.toNat<xs.length:=by have:xs.length=k:=hd2;omega
    have hxq:=hix _ (List.getElem?_eq_getElem hqk);have hat:=hd1.at q.toNat _ (List.getElem?_eq_getElem hqk);rw[←hxq]at hat;have hatl:=hat.length;obtain⟨a1,a2⟩:=hs' (ak ρ H++X) S ρ n H _ ⟨_,[],(List.append_nil _).symm,hatl,hat,rfl⟩;rw[hatl]at a2;have hlen:=show((((((vs.drop off).take (k*aL U s)).drop (q.toNat*aL U s)).take (aL U s)).drop o).take ti.sz).length=ti.sz by rw[List.length_take,List.length_drop,hatl];omega
    obtain⟨u,hu,e1,e2⟩:=hva _ _ _ _ _ _ a1 hlen;have hrow:=nF (m:=aL U s) (show q.toNat<k by omega);refine⟨_,u,e3,hu,fun w hw=>nW htk hlen e1 e2 ?_⟩;rw[go (k:=aL U s) hrow,go a2];exact mD (hb w hw) _ _
   ·exact h.elim
  ·rename_i s x;cases hbq:Nat.beq ti.sz (aL U s)with
   |false=>rw[hbq]at h;exact h.elim
   |true=>
    rw[hbq]at h;have hsz:=Nat.eq_of_beq_eq_true hbq;obtain⟨va,hv,ti',hti',hva⟩:=mC h hT;rw[hti]at hti';injection hti' with hti';subst hti';refine⟨va,hv,fun u0 h0=>?_⟩;obtain⟨g,b,us,e3,hd,hr⟩:=h0;injection e3 with e3;have hl:=hd.length;obtain⟨u,hu,e1,e2⟩:=hva (ak ρ H++X) S ρ n H _ ⟨_,[],(List.append_nil _).symm,hl,hd,rfl⟩ (by omega);refine⟨_,u,e3,hu,fun w hw=>nW htk (by omega) e1 e2 ?_⟩;have:=(hr w hw).range 0 us.length;simpa using this
  ·exact h.elim
 ·exact h.elim
omit [ao]in
theorem vr{i v:Nat}(hc:pn H i v=true): ∃l m,bq (aF H i)=some (v,l,m):=by
 unfold pn at hc;split at hc
 ·rename_i hl;rw[hl];exact⟨_,_,by rw[Nat.eq_of_beq_eq_true hc];rfl⟩
 ·rename_i hl;rw[hl];exact⟨_,_,by rw[Nat.eq_of_beq_eq_true hc];rfl⟩
 ·cases hc
theorem vu{Y:List Nat}{i v off:Nat}{q:Int}{u:Value}(h:bi U Y S ρ n H (.pel i v q off) [u])(hc:pn H i v=true): ∃A,u= .pointer (some A):=by
 obtain⟨l,m,hr⟩:=vr hc;obtain⟨hi,a,e1,hn⟩:=h;injection e1 with e1;obtain⟨g,hA,ha,hq⟩:=(hn _ _ _ hr).2 rfl;exact⟨_,by rw[e1,ha]⟩
theorem BF{t f:Nat}{x:Cx U}{K:Cx U→Prop}(h:Fs T t f H x K)(hT:bD U P T): ∃c off,K c∧eL P t f=some off∧ ∀u0,bi U (ak ρ H++X) S ρ n H x [u0]→ ∃g k,u0= .pointer (some ⟨g,k,none⟩)∧bi U (ak ρ H++X) S ρ n H c [.pointer (some ⟨g,k+off,none⟩)]:=by
 unfold Fs at h;split at h
 ·rename_i ti hti;have htk:=hT _ _ hti;split at h
  ·rename_i off ft hf;have hfo:=(htk.fs _ _ _ hf).1;split at h
   ·rename_i i o;refine⟨_,off,h,hfo,fun u0 h0=>?_⟩;obtain⟨hi,hr,g,hA,e1⟩:=h0;injection e1 with e1;exact⟨g,o,e1,hi,hr,g,hA,rfl⟩
   ·rename_i i v q o;cases hc:pn H i v with
    |false=>rw[hc]at h;exact h.elim
    |true=>
     rw[hc]at h;refine⟨_,off,h,hfo,fun u0 h0=>?_⟩;obtain⟨hi,a,e1,hn⟩:=h0;injection e1 with e1;obtain⟨l,m,hr⟩:=vr hc;obtain⟨g,hA,ha,hq⟩:=(hn _ _ _ hr).2 rfl;subst ha;refine⟨g,_,e1,hi,_,by rw[Nat.add_assoc],fun v' l' m' hr'=>?_⟩;rw[hr]at hr';injection hr' with hr';injection hr' with h1 hr';injection hr' with h2 h3;subst h1;subst h2;subst h3;exact⟨Nat.le_refl _,fun _=>⟨g,hA,rfl,hq⟩⟩
   ·rename_i i o k s q o';refine⟨_,off,h,hfo,fun u0 h0=>?_⟩;obtain⟨hi,hr,h1,h2,g,hA,e1⟩:=h0;injection e1 with e1;exact⟨g,_,e1,hi,hr,h1,h2,g,hA,by rw[Nat.add_assoc]⟩
   ·rename_i s y;split at h
    ·rename_i fi hfi;obtain⟨l',hK,hs'⟩:=fQ h;split at hK
     ·rename_i m s' y';cases hb:Nat.beq ti.sz (aL U s)with
      |false=>rw[hb]at hK;exact hK.elim
      |true=>
       rw[hb]at hK;refine⟨_,off,hK,hfo,fun u0 h0=>?_⟩;obtain⟨g,b,us,e1,hd,hr⟩:=h0;injection e1 with e1;obtain⟨a1,a2⟩:=hs' (ak ρ H++X) S ρ n H _ ⟨_,[],(List.append_nil _).symm,hd.length,hd,rfl⟩;refine⟨g,b,e1,g,b+off,_,rfl,a1.one1.1,fun w hw=>?_⟩;exact((hr w hw).drop off).take fi.sz
     ·exact hK.elim
    ·exact h.elim
   ·exact h.elim
  ·exact h.elim
 ·exact h.elim
end
end Go.Proofs.YtiliglahlfkikaaGreatDoor.V
end

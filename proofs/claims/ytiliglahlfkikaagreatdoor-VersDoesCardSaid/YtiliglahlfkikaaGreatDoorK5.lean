/- The interpreter's looks are right: operations that only look. -/
import Derived.Test.YtiliglahlfkikaaGreatDoorK4
section
set_option linter.unusedVariables false
set_option linter.unusedSimpArgs false
namespace Go.Proofs.YtiliglahlfkikaaGreatDoor.V
open Go.RowKit
class ax where
 xf:List Nat
 pr:Program
def tu(Y:List Nat)(S:World→Prop)(A:Option Addr)(cs:List Value):Prop:= ∀w,S w→mD Y w A cs
mutual
inductive aK(U:cn)(Y:List Nat)(S:World→Prop):(s:bm)→TT U.ty s→List Value→Prop
 |int (k:IntKind) (p:Int) (h:fu k p):aK U Y S (.int k) p [.int k p]
 |bool (b:Bool):aK U Y S .bool b [.bool b]
 |str (s:List UInt8) (h:s.length≤9223372036854775807):aK U Y S .str s [sv s]
 |st (i:Nat) (t:U.ty i) (vs:List Value) (h:bK U Y S (U.rd i).fs ((U.rd i).to t) vs) (hl:vs.length=(U.rd i).sz):aK U Y S (.st i) t vs
 |arr (n:Nat) (e:bm) (xs:List (TT U.ty e)) (vs:List Value) (h:aZ U Y S e xs vs) (hn:xs.length=n):aK U Y S (.arr n e) xs vs
 |sl (e:bm) (xs:List (TT U.ty e)) (A:Option Addr) (c:Nat) (cs:List Value) (h:aZ U Y S e xs cs) (hr:tu Y S A cs) (hc:xs.length≤c) (hm:c≤maxLen):aK U Y S (.sl e) xs [.slice A xs.length c]
inductive bK(U:cn)(Y:List Nat)(S:World→Prop):(fs:List (Nat×bm))→u6 U.ty fs→List Value→Prop
 |nil:bK U Y S [] () []
 |cons (k:Nat) (s:bm) (r:List (Nat×bm)) (a:TT U.ty s) (b:u6 U.ty r) (vs us:List Value) (h:aK U Y S s a vs) (hl:vs.length=k) (hr:bK U Y S r b us):bK U Y S ((k,s)::r) (a,b) (vs++us)
inductive aZ(U:cn)(Y:List Nat)(S:World→Prop):(e:bm)→List (TT U.ty e)→List Value→Prop
 |nil (e:bm):aZ U Y S e [] []
 |cons (e:bm) (x:TT U.ty e) (xs:List (TT U.ty e)) (vs us:List Value) (h:aK U Y S e x vs) (hl:vs.length=aU U e) (hr:aZ U Y S e xs us):aZ U Y S e (x::xs) (vs++us)
end
section
variable {U:cn} {Y:List Nat} {S:World→Prop}
def FZ(U:cn)(Y:List Nat)(S:World→Prop):(s:bm)→TT U.ty s→List Value→Prop
 | .int k=>fun p vs=>vs= [.int k p]∧fu k p
 | .bool=>fun b vs=>vs= [.bool b]
 | .str=>fun s vs=>vs= [sv s]∧List.length (α:=UInt8) s≤9223372036854775807
 | .st i=>fun t vs=>bK U Y S (U.rd i).fs ((U.rd i).to t) vs∧vs.length=(U.rd i).sz
 | .arr n e=>fun xs vs=>aZ U Y S e xs vs∧List.length (α:=TT U.ty e) xs=n
 | .sl e=>fun xs vs=> ∃A c cs,vs= [.slice A (List.length (α:=TT U.ty e) xs) c]∧aZ U Y S e xs cs∧tu Y S A cs∧List.length (α:=TT U.ty e) xs≤c∧c≤maxLen
theorem aK.inv{s:bm}{t:TT U.ty s}{vs:List Value}(h:aK U Y S s t vs):FZ U Y S s t vs:=by
 cases h with
 |int k p h=>exact⟨rfl,h⟩
 |bool b=>exact rfl
 |str s h=>exact⟨rfl,h⟩
 |st i t vs h hl=>exact⟨h,hl⟩
 |arr n e xs vs h hn=>exact⟨h,hn⟩
 |sl e xs A c cs h hr hc hm=>exact⟨A,c,cs,rfl,h,hr,hc,hm⟩
def B0(U:cn)(Y:List Nat)(S:World→Prop):(fs:List (Nat×bm))→u6 U.ty fs→List Value→Prop
 | [],_,vs=>vs= []
 |(k,s)::r,t,vs=> ∃v1 v2,vs=v1++v2∧aK U Y S s t.1 v1∧v1.length=k∧bK U Y S r t.2 v2
theorem bK.inv{fs:List (Nat×bm)}{t:u6 U.ty fs}{vs:List Value}(h:bK U Y S fs t vs):B0 U Y S fs t vs:=by
 cases h with
 |nil=>exact rfl
 |cons k s r a b vs us h hl hr=>exact⟨vs,us,rfl,h,hl,hr⟩
theorem aZ.nil_inv{e:bm}{vs:List Value}(h:aZ U Y S e [] vs):vs= []:=by cases h;rfl
theorem aZ.cons_inv{e:bm}{x:TT U.ty e}{xs:List (TT U.ty e)}{vs:List Value}(h:aZ U Y S e (x::xs) vs): ∃v1 v2,vs=v1++v2∧aK U Y S e x v1∧v1.length=aU U e∧aZ U Y S e xs v2:=by
 cases h with
 |cons e x xs vs us h hl hr=>exact⟨vs,us,rfl,h,hl,hr⟩
theorem aZ.length{e:bm}: ∀{xs:List (TT U.ty e)} {vs:List Value},aZ U Y S e xs vs→vs.length=xs.length*aU U e
 | [],vs,h=>by rw[h.nil_inv];simp
 |x::xs,vs,h=>by
  obtain⟨v1,v2,rfl,_,hl,hr⟩:=h.cons_inv;rw[List.length_append,hl,aZ.length hr,List.length_cons,Nat.add_mul,Nat.one_mul,Nat.add_comm]
theorem aK.length: ∀{s:bm} {t:TT U.ty s} {vs:List Value},aK U Y S s t vs→vs.length=aU U s
 | .int k,t,vs,h=>by rw[h.inv.1];rfl
 | .bool,t,vs,h=>by have e:=h.inv;rw[show vs=_ from e];rfl
 | .str,t,vs,h=>by rw[h.inv.1];rfl
 | .st i,t,vs,h=>h.inv.2
 | .arr n e,t,vs,h=>by
  obtain⟨h1,h2⟩:=h.inv;have:=aZ.length h1;rw[this,h2];rfl
 | .sl e,t,vs,h=>by obtain⟨A,c,cs,e,_⟩:=h.inv;rw[e];rfl
theorem aZ.app{e:bm}: ∀{xs ys:List (TT U.ty e)} {vs us:List Value},aZ U Y S e xs vs→aZ U Y S e ys us→aZ U Y S e (xs++ys) (vs++us)
 | [],ys,vs,us,h,h'=>by rw[h.nil_inv];exact h'
 |x::xs,ys,vs,us,h,h'=>by
  obtain⟨v1,v2,rfl,h1,hl,hr⟩:=h.cons_inv;rw[List.append_assoc];exact .cons e x (xs++ys) v1 (v2++us) h1 hl (aZ.app hr h')
theorem aZ.at{e:bm}: ∀{xs:List (TT U.ty e)} {vs:List Value},aZ U Y S e xs vs→ ∀(q:Nat) (x:TT U.ty e),xs[q]? =some x→aK U Y S e x ((vs.drop (q*aU U e)).take (aU U e))
 | [],vs,h,q,x,hq=>by simp at hq
 |y::xs,vs,h,q,x,hq=>by
  obtain⟨v1,v2,rfl,h1,hl,hr⟩:=h.cons_inv;cases q with
  |zero=>
   simp only[List.getElem?_cons_zero,Option.some.injEq]at hq;subst hq;rw[Nat.zero_mul,List.drop_zero,List.take_append_of_le_length (by omega),List.take_of_length_le (by omega)];exact h1
  |succ q=>
   simp only[List.getElem?_cons_succ]at hq;have:=aZ.at hr q x hq;rw[show(q+1)*aU U e=v1.length+q*aU U e by rw[Nat.add_mul,Nat.one_mul,hl,Nat.add_comm],List.drop_append,List.drop_of_length_le (by omega),List.nil_append,Nat.add_sub_cancel_left];exact this
theorem aZ.set{e:bm}: ∀{xs:List (TT U.ty e)} {vs:List Value},aZ U Y S e xs vs→ ∀(q:Nat) (x:TT U.ty e) (us:List Value),aK U Y S e x us→q<xs.length→aZ U Y S e (xs.set q x) (vs.take (q*aU U e)++us++vs.drop (q*aU U e+us.length))
 | [],vs,h,q,x,us,hx,hq=>by simp at hq
 |y::xs,vs,h,q,x,us,hx,hq=>by
  obtain⟨v1,v2,rfl,h1,hl,hr⟩:=h.cons_inv;have hul:=hx.length;cases q with
  |zero=>
   rw[Nat.zero_mul,List.take_zero,List.nil_append,Nat.zero_add,List.drop_append_of_le_length (by omega),List.drop_of_length_le (by omega),List.nil_append];exact .cons e x xs us v2 hx hul hr
  |succ q=>
   have ih:=aZ.set hr q x us hx (by simpa using hq);have e1:(q+1)*aU U e=v1.length+q*aU U e:=by rw[Nat.add_mul,Nat.one_mul,hl,Nat.add_comm]
   rw[e1,List.take_length_add_append,Nat.add_assoc,List.drop_append,List.drop_of_length_le (by omega:v1.length≤v1.length+(q*aU U e+us.length)),List.nil_append,Nat.add_sub_cancel_left,List.append_assoc,List.append_assoc];refine .cons e y _ v1 _ h1 hl ?_;rw[←List.append_assoc];exact ih
def eN(ag:Bool)(v:Value)(vs:List Value):Prop:=match ag with
 |true=>v= .agg vs.toArray
 |false=>vs= [v]
def mK [ax](Y:List Nat)(w w2:World):Prop:= ∃O,Fr O w w2∧ ∀o∈O,o∉ax.xf∧(o∈Y∨w.heap.size≤o)
def II(u:Value):Prop:= ∃(f:FuncId) (ca:List Value),u= .func (.func f) #[] ca.toArray
def yK [ax](U:cn)(Y:List Nat)(S:World→Prop)(u:Value)(a:bm)(g:TT U.ty a→Bool):Prop:=II u∧ ∀w,S w→ ∀w2,mK Y w w2→ ∀t vs v,aK U gB (· =w2) a t vs→eN (fS a) v vs→pW ax.pr u [v] w2 fun r w3=>r= .bool (g t)∧Fr [] w2 w3
def yL [ax](U:cn)(Y:List Nat)(S:World→Prop)(u:Value)(a b:bm)(g:TT U.ty a→TT U.ty b→Int):Prop:=II u∧ ∀w,S w→ ∀w2,mK Y w w2→ ∀t vs v t' vs' v',aK U gB (· =w2) a t vs→eN (fS a) v vs→aK U gB (· =w2) b t' vs'→eN (fS b) v' vs'→pW ax.pr u [v,v'] w2 fun r w3=>r= .int .i64 (g t t')∧fu .i64 (g t t')∧Fr [] w2 w3
def Mv [ax](Y:List Nat)(S:World→Prop)(Y':List Nat)(S':World→Prop):Prop:= ∀w',S' w'→ ∃w O,S w∧Fr O w w'∧(∀y∈O,y∈Y∧y∉ax.xf)∧ ∀y∈Y',y∈Y∨w.heap.size≤y
theorem Mv.sub [ax]{Y':List Nat}(h: ∀y∈Y',y∈Y):Mv Y S Y' S:=fun w' h'=>⟨w',[],h',Fr.refl _ _,fun _ hy=>(by cases hy),fun y hy=> .inl (h y hy)⟩
theorem Mv.fr [ax]{Y':List Nat}{S':World→Prop}(m:Mv Y S Y' S'): ∀w',S' w'→ ∃w,S w∧Fr Y w w'∧ ∀y∈Y',y∈Y∨w.heap.size≤y:=fun w' h'=>by
 obtain⟨w,O,h1,h2,h3,h4⟩:=m w' h';exact⟨w,h1,h2.mono fun y hy=>(h3 y hy).1,h4⟩
theorem Mv.later [ax]{Y':List Nat}{S':World→Prop}(m:Mv Y S Y' S'){w' w2:World}(h':S' w')(h:mK Y' w' w2): ∃w,S w∧mK Y w w2:=by
 obtain⟨w,O,h1,h2,h3,h4⟩:=m w' h';obtain⟨O',h5,h6⟩:=h;refine⟨w,h1,O++O',(h2.mono fun x hx=>List.mem_append_left _ hx).step h5 (fun y hy=> .inl (List.mem_append_right _ hy)),fun o ho=>?_⟩;rcases List.mem_append.1 ho with ho|ho
 ·exact⟨(h3 o ho).2,.inl (h3 o ho).1⟩
 ·refine⟨(h6 o ho).1,?_⟩;rcases(h6 o ho).2 with h|h
  ·exact h4 o h
  ·exact .inr (Nat.le_trans h2.size h)
theorem yK.mv [ax]{Y':List Nat}{S':World→Prop}(m:Mv Y S Y' S'){u:Value}{a:bm}{g:TT U.ty a→Bool}(h:yK U Y S u a g):yK U Y' S' u a g:=⟨h.1,fun w' hw' w2 h2=>by
 obtain⟨w,h3,h4⟩:=m.later hw' h2;exact h.2 w h3 w2 h4⟩
theorem yL.mv [ax]{Y':List Nat}{S':World→Prop}(m:Mv Y S Y' S'){u:Value}{a b:bm}{g:TT U.ty a→TT U.ty b→Int}(h:yL U Y S u a b g):yL U Y' S' u a b g:=⟨h.1,fun w' hw' w2 h2=>by
 obtain⟨w,h3,h4⟩:=m.later hw' h2;exact h.2 w h3 w2 h4⟩
theorem tu.mv [ax]{Y':List Nat}{S':World→Prop}{A:Option Addr}{cs:List Value}(h:tu Y S A cs)(m:Mv Y S Y' S'):tu Y' S' A cs:=fun w' hw'=>by
 obtain⟨w,hw,hf,hY⟩:=m.fr w' hw';exact(h w hw).stable hf hY
end
mutual
theorem aK.mv [ax]{U:cn}{Y Y':List Nat}{S S':World→Prop}(m:Mv Y S Y' S'){s:bm}{t:TT U.ty s}{vs:List Value}:aK U Y S s t vs→aK U Y' S' s t vs
 | .int k p h=> .int k p h
 | .bool b=> .bool b
 | .str s h=> .str s h
 | .st i t vs h hl=> .st i t vs (bK.mv m h) hl
 | .arr n e xs vs h hn=> .arr n e xs vs (aZ.mv m h) hn
 | .sl e xs A c cs h hr hc hm=> .sl e xs A c cs (aZ.mv m h) (hr.mv m) hc hm
theorem bK.mv [ax]{U:cn}{Y Y':List Nat}{S S':World→Prop}(m:Mv Y S Y' S'){fs:List (Nat×bm)}{t:u6 U.ty fs}{vs:List Value}:bK U Y S fs t vs→bK U Y' S' fs t vs
 | .nil=> .nil
 | .cons k s r a b vs us h hl hr=> .cons k s r a b vs us (aK.mv m h) hl (bK.mv m hr)
theorem aZ.mv [ax]{U:cn}{Y Y':List Nat}{S S':World→Prop}(m:Mv Y S Y' S'){e:bm}{xs:List (TT U.ty e)}{vs:List Value}:aZ U Y S e xs vs→aZ U Y' S' e xs vs
 | .nil e=> .nil e
 | .cons e x xs vs us h hl hr=> .cons e x xs vs us (aK.mv m h) hl (aZ.mv m hr)
end
end Go.Proofs.YtiliglahlfkikaaGreatDoor.V
end

section
set_option linter.unusedVariables false
set_option linter.unusedSimpArgs false
namespace Go.Proofs.YtiliglahlfkikaaGreatDoor.V
open Go.RowKit
mutual
theorem aK.one{U:cn}{Y:List Nat}{S:World→Prop}{s:bm}{t:TT U.ty s}{vs:List Value}:aK U Y S s t vs→ ∀v∈vs,v.oneCell'=true
 | .int k p h=>by simp[Value.oneCell']
 | .bool b=>by simp[Value.oneCell']
 | .str s h=>by simp[Value.oneCell']
 | .st i t vs h hl=>bK.one h
 | .arr n e xs vs h hn=>aZ.one h
 | .sl e xs A c cs h hr hc hm=>by simp[Value.oneCell']
theorem bK.one{U:cn}{Y:List Nat}{S:World→Prop}{fs:List (Nat×bm)}{t:u6 U.ty fs}{vs:List Value}:bK U Y S fs t vs→ ∀v∈vs,v.oneCell'=true
 | .nil=>by simp
 | .cons k s r a b vs us h hl hr=>fun v hv=>(List.mem_append.1 hv).elim (aK.one h v) (bK.one hr v)
theorem aZ.one{U:cn}{Y:List Nat}{S:World→Prop}{e:bm}{xs:List (TT U.ty e)}{vs:List Value}:aZ U Y S e xs vs→ ∀v∈vs,v.oneCell'=true
 | .nil e=>by simp
 | .cons e x xs vs us h hl hr=>fun v hv=>(List.mem_append.1 hv).elim (aK.one h v) (aZ.one hr v)
end
structure Rz where
 A:Option Addr
 c:Nat
section
variable [ax] {U:cn}
def bC:Option (aW U)→Option (Nat×Nat×Nat)
 |some (.row v e xs _)=>some (v,xs.length,aU U e)
 |some (.frz v e xs)=>some (v,xs.length,aU U e)
 |some (.hid v l m)=>some (v,l,m)
 |_=>none
def o6(H:Hs U)(i v:Nat)(Q:Nat→Nat→Prop):Prop:= ∀v' l m,bC (aL H i)=some (v',l,m)→v≤v'∧(v=v'→Q l m)
def bn(U:cn)(Y:List Nat)(S:World→Prop)(ρ:Nat→Rz)(n:Nat)(H:Hs U):Cx U→List Value→Prop
 | .d s t,vs=>aK U Y S s t vs
 | .own i v,vs=>i<n∧ ∃A l c,vs= [.slice A l c]∧o6 H i v fun len _=>A=(ρ i).A∧l=len∧c=(ρ i).c
 | .ptr i off,vs=>i<n∧bC (aL H i)=none∧ ∃g,(ρ i).A=some ⟨g,0,none⟩∧vs= [.pointer (some ⟨g,off,none⟩)]
 | .pel i v q off,vs=>i<n∧ ∃a,vs= [.pointer a]∧o6 H i v fun len m=> ∃g,(ρ i).A=some ⟨g,0,none⟩∧a=some ⟨g,q.toNat*m+off,none⟩∧0≤q∧q<len
 | .pax i off m s q o,vs=>i<n∧bC (aL H i)=none∧0≤q∧q<m∧ ∃g,(ρ i).A=some ⟨g,0,none⟩∧vs= [.pointer (some ⟨g,off+q.toNat*aU U s+o,none⟩)]
 | .pd s t,vs=> ∃g b us,vs= [.pointer (some ⟨g,b,none⟩)]∧aK U Y S s t us∧tu Y S (some ⟨g,b,none⟩) us
 | .nilp,vs=>vs= [.pointer none]
 | .nils,vs=>vs= [.slice none 0 0]
 | .nilf,vs=>vs= [.nilFunc]
 | .nilm,vs=>vs= [.map none]
 | .fn f,vs=>vs= [.func (.func f) #[] #[]]
 | .clo f js,vs=>vs= [.func (.func f) #[] (js.map fun j=>Value.pointer (ρ j).A).toArray]∧ ∀j∈js,j<n∧bC (aL H j)=none∧ ∃g,(ρ j).A=some ⟨g,0,none⟩
 | .f1 a g,vs=> ∃u,vs= [u]∧yK U Y S u a g
 | .f2 a b g,vs=> ∃u,vs= [u]∧yL U Y S u a b g
 | .mp i,vs=>i<n∧bC (aL H i)=none∧ ∃g,(ρ i).A=some ⟨g,0,none⟩∧vs= [.map (some g)]
 | .un,vs=> ∃u,vs= [u]∧u.oneCell'=true
def co(V:Cx U→List Value→Prop):List (cC U)→List Value→Prop
 | [],vs=>vs= []
 |(k,x)::r,vs=> ∃v1 v2,vs=v1++v2∧v1.length=k∧V x v1∧co V r v2
omit [ax]in
theorem mL{α:Type} [Inhabited α]{l:List α}{q:Int}{y:α}(h:l[q.toNat]? =some y):ix l q=y:=by unfold ix;rw[h];rfl
omit [ax]in
theorem jW{s:bm}{l:List (TT U.ty s)}{q:Int}{K:TT U.ty s→Prop}(h:yJ U s l q K): ∃x,K x∧ ∀y,l[q.toNat]? =some y→x=y:=by
 cases s with
 |st i=>exact(U.rd i).ixK_ok l q K h
 |int k=>exact⟨_,h,fun y hy=>mL (α:=Int) hy⟩
 |bool=>exact⟨_,h,fun y hy=>mL (α:=Bool) hy⟩
 |str=>exact⟨_,h,fun y hy=>mL (α:=List UInt8) hy⟩
 |arr k e=>exact⟨_,h,fun y hy=>mL (α:=List (TT U.ty e)) hy⟩
 |sl e=>exact⟨_,h,fun y hy=>mL (α:=List (TT U.ty e)) hy⟩
omit [ax]in
theorem mM: ∀{k k':IntKind},lm k k'=true→k=k':=by
 intro k k';cases k<;>cases k'<;>simp[lm]
omit [ax]in
theorem tv: ∀{ty:Nat→Type} {F:Type→Type} {i j:Nat} {t:F (ty i)} {u:F (ty j)},oo ty F i j t=some u→i=j∧HEq t u
 |ty,F,0,0,t,u,h=>by simp only[oo,Option.some.injEq]at h;exact⟨rfl,heq_of_eq h⟩
 |ty,F,i+1,j+1,t,u,h=>by
  obtain⟨h1,h2⟩:=tv (ty:=fun n=>ty (n+1)) (by simpa only[oo]using h);subst h1;exact⟨rfl,h2⟩
 |ty,F,0,j+1,t,u,h=>by simp[oo]at h
 |ty,F,i+1,0,t,u,h=>by simp[oo]at h
omit [ax]in
theorem jE{α:Type}{u:α}{p:Prop}(h:(none:Option α)=some u):p:=by cases h
omit [ax]in
theorem eG{ty:Nat→Type}: ∀(s s':bm) (F:Type→Type) (t:F (TT ty s)) (u:F (TT ty s')),gC ty F s s' t=some u→s=s'∧HEq t u:=by
 intro s;induction s with
 |int k=>
  intro s' F t u h;cases s' with
  |int k'=>
   have h:(bif lm k k' then some t else none)=some u:=h;cases hk:lm k k' with
   |false=>rw[hk]at h;exact jE h
   |true=>rw[hk]at h;have:=mM hk;subst this;injection h with h;exact⟨rfl,heq_of_eq h⟩
  |_=>exact jE (show none=some u from h)
 |bool=>
  intro s' F t u h;cases s' with
  |bool=>have h:some t=some u:=h;injection h with h;exact⟨rfl,heq_of_eq h⟩
  |_=>exact jE (show none=some u from h)
 |str=>
  intro s' F t u h;cases s' with
  |str=>have h:some t=some u:=h;injection h with h;exact⟨rfl,heq_of_eq h⟩
  |_=>exact jE (show none=some u from h)
 |st i=>
  intro s' F t u h;cases s' with
  |st j=>
   have h:oo ty F i j t=some u:=h;obtain⟨h1,h2⟩:=tv h;subst h1;exact⟨rfl,h2⟩
  |_=>exact jE (show none=some u from h)
 |arr n e ih=>
  intro s' F t u h;cases s' with
  |arr m e'=>
   have h:(bif Nat.beq n m then gC ty (fun x=>F (List x)) e e' t else none)=some u:=h;cases hn:Nat.beq n m with
   |false=>rw[hn]at h;exact jE h
   |true=>
    rw[hn]at h;have hnm:=Nat.eq_of_beq_eq_true hn;obtain⟨h1,h2⟩:=ih e' (fun x=>F (List x)) t u h;subst h1;subst hnm;exact⟨rfl,h2⟩
  |_=>exact jE (show none=some u from h)
 |sl e ih=>
  intro s' F t u h;cases s' with
  |sl e'=>
   have h:gC ty (fun x=>F (List x)) e e' t=some u:=h;obtain⟨h1,h2⟩:=ih e' (fun x=>F (List x)) t u h;subst h1;exact⟨rfl,h2⟩
  |_=>exact jE (show none=some u from h)
abbrev mN(U:cn)(Q:(Cx U→List Value→Prop)→(Y:List Nat)→(World→Prop)→Prop):Prop:= ∀Y S ρ n H,Q (bn U Y S ρ n H) Y S
theorem wB: ∀{fs:List (Nat×bm)} {t:u6 U.ty fs} {K:List (cC U)→Prop},FH fs t K→ ∃l,K l∧mN U fun V Y S=> ∀vs,bK U Y S fs t vs→co V l vs
 | [],t,K,h=>⟨[],h,fun _ _ _ _ _ _ hd=>hd.inv⟩
 |(k,s)::r,(a,b),K,h=>by
  obtain⟨l,hK,hs⟩:=wB (fs:=r) h;refine⟨_,hK,fun Y S ρ n H vs hd=>?_⟩;obtain⟨v1,v2,rfl,h1,hl,hr⟩:=hd.inv;exact⟨v1,v2,rfl,hl,h1,hs Y S ρ n H _ hr⟩
theorem wC{e:bm}{m:Nat}{xs:List (TT U.ty e)}(hm:m=aU U e): ∀{k j:Nat} {K:List (cC U)→Prop},IE e m xs k j K→ ∃l,K l∧mN U fun V Y S=> ∀vs,aZ U Y S e (xs.drop j) vs→(xs.drop j).length=k→co V l vs
 |0,j,K,h=>⟨[],h,fun Y S ρ n H vs hd hl=>by
  have:xs.drop j= []:=List.eq_nil_of_length_eq_zero hl;rw[this]at hd;exact hd.nil_inv⟩
 |k+1,j,K,h=>by
  obtain⟨x,hx,he⟩:=jW (show yJ U e xs (j:Int) _ from h);obtain⟨l,hK,hs⟩:=wC hm (k:=k) hx;refine⟨_,hK,fun Y S ρ n H vs hd hl=>?_⟩;have hj:j<xs.length:=by rw[List.length_drop]at hl;omega
  have hx0:=he xs[j] (by rw[Int.toNat_natCast];exact List.getElem?_eq_getElem hj);rw[List.drop_eq_getElem_cons hj]at hd hl;obtain⟨v1,v2,rfl,h1,hl1,hr⟩:=hd.cons_inv;exact⟨v1,v2,rfl,by rw[hl1,hm],by rw[hx0];exact h1,hs Y S ρ n H _ hr (by rw[List.length_cons]at hl;omega)⟩
theorem mO{x:Cx U}{K:List (cC U)→Prop}(h:mH x K): ∃l,K l∧mN U fun V Y S=> ∀vs,V x vs→co V l vs:=by
 unfold mH at h;split at h
 ·rename_i i t;obtain⟨l,hK,hs⟩:=wB ((U.rd i).toK_ok _ _ h);exact⟨l,hK,fun Y S ρ n H vs hx=>hs Y S ρ n H vs (show aK U Y S (.st i) t vs from hx).inv.1⟩
 ·rename_i k e xs;obtain⟨l,hK,hs⟩:=wC rfl h;exact⟨l,hK,fun Y S ρ n H vs hx=>by
   have hd:=(show aK U Y S (.arr k e) xs vs from hx).inv;exact hs Y S ρ n H vs hd.1 hd.2⟩
 ·exact h.elim
omit [ax]in
theorem oL{l l':List (cC U)}{K:List (cC U)→Prop}:rE l l' K→K (l++l'):=by
 induction l generalizing K with
 |nil=>exact fun h=>h
 |cons x r ih=>exact fun h=>ih (K:=fun r=>K (x::r)) h
omit [ax]in
theorem co.app{V:Cx U→List Value→Prop}: ∀{l l':List (cC U)} {vs us:List Value},co V l vs→co V l' us→co V (l++l') (vs++us)
 | [],l',vs,us,h,h'=>by rw[show vs= []from h];exact h'
 |(k,x)::r,l',vs,us,h,h'=>by
  obtain⟨v1,v2,rfl,hl,hx,hr⟩:=h;exact⟨v1,v2++us,List.append_assoc ..,hl,hx,co.app hr h'⟩
theorem il: ∀{f:Nat} {l:List (cC U)} {k:Nat} {K:List (cC U)→Prop},jg f l k K→ ∃l',K l'∧mN U fun V Y S=> ∀vs,co V l vs→co V l' (vs.drop k)∧k≤vs.length
 |0,l,k,K,h=>h.elim
 |f+1,l,0,K,h=>⟨l,h,fun _ _ _ _ _ vs hs=>⟨hs,Nat.zero_le _⟩⟩
 |f+1,[],k+1,K,h=>h.elim
 |f+1,(m,x)::r,k+1,K,h=>by
  have h:(bif Nat.ble m (k+1)then jg f r (k+1 - m) K else mH x fun l'=>rE l' r fun l''=>jg f l'' (k+1) K):=h;cases hb:Nat.ble m (k+1)with
  |true=>
   rw[hb]at h;have hle:=Nat.le_of_ble_eq_true hb;obtain⟨l',hK,hs'⟩:=il (f:=f) h;refine⟨l',hK,fun Y S ρ n H vs hs=>?_⟩;obtain⟨v1,v2,rfl,hl,hx,hr⟩:=hs;obtain⟨h1,h2⟩:=hs' Y S ρ n H _ hr;refine⟨?_,by rw[List.length_append];omega⟩;rw[List.drop_append,List.drop_of_length_le (by omega),List.nil_append,hl];exact h1
  |false=>
   rw[hb]at h;obtain⟨l',hK,hs'⟩:=mO h;obtain⟨l2,hK2,hs2⟩:=il (f:=f) (oL hK);refine⟨l2,hK2,fun Y S ρ n H vs hs=>?_⟩;obtain⟨v1,v2,rfl,hl,hx,hr⟩:=hs;exact hs2 Y S ρ n H _ ((hs' Y S ρ n H _ hx).app hr)
theorem jh: ∀{f:Nat} {l:List (cC U)} {k:Nat} {K:List (cC U)→Prop},tK f l k K→ ∃l',K l'∧mN U fun V Y S=> ∀vs,co V l vs→co V l' (vs.take k)∧k≤vs.length
 |0,l,k,K,h=>h.elim
 |f+1,l,0,K,h=>⟨[],h,fun _ _ _ _ _ vs hs=>⟨by simp[co],Nat.zero_le _⟩⟩
 |f+1,[],k+1,K,h=>h.elim
 |f+1,(m,x)::r,k+1,K,h=>by
  have h:(bif Nat.ble m (k+1)then tK f r (k+1 - m) fun r'=>K ((m,x)::r')else mH x fun l'=>tK f l' (k+1) K):=h;cases hb:Nat.ble m (k+1)with
  |true=>
   rw[hb]at h;have hle:=Nat.le_of_ble_eq_true hb;obtain⟨l',hK,hs'⟩:=jh (f:=f) h;refine⟨_,hK,fun Y S ρ n H vs hs=>?_⟩;obtain⟨v1,v2,rfl,hl,hx,hr⟩:=hs;obtain⟨h1,h2⟩:=hs' Y S ρ n H _ hr;refine⟨⟨v1,_,?_,hl,hx,h1⟩,by rw[List.length_append];omega⟩;rw[List.take_append,List.take_of_length_le (by omega),hl]
  |false=>
   rw[hb]at h;have hgt:k+1<m:=by
    rcases Nat.lt_or_ge (k+1) m with h'|h'
    ·exact h'
    ·rw[Nat.ble_eq_true_of_le h']at hb;cases hb
   obtain⟨l',hK,hs'⟩:=mO h;obtain⟨l2,hK2,hs2⟩:=jh (f:=f) hK;refine⟨l2,hK2,fun Y S ρ n H vs hs=>?_⟩;obtain⟨v1,v2,rfl,hl,hx,hr⟩:=hs;obtain⟨h1,h2⟩:=hs2 Y S ρ n H _ (hs' Y S ρ n H _ hx);refine⟨?_,by rw[List.length_append];omega⟩;rw[List.take_append_of_le_length h2];exact h1
theorem ko: ∀{f:Nat} {l new:List (cC U)} {off k:Nat} {K:List (cC U)→Prop},rF f l off k new K→
  ∃l',K l'∧mN U fun V Y S=> ∀vs us,co V l vs→co V new us→us.length=k→co V l' (vs.take off++us++vs.drop (off+us.length))∧off+us.length≤vs.length
 |0,l,new,off,k,K,h=>h.elim
 |f+1,l,new,0,k,K,h=>by
  have h:jg 40 l k fun r=>rE new r K:=h;obtain⟨l',hK,hs'⟩:=il h;refine⟨_,oL hK,fun Y S ρ n H vs us hs hn hk=>?_⟩;obtain⟨h1,h2⟩:=hs' Y S ρ n H _ hs;refine⟨?_,by omega⟩;rw[List.take_zero,List.nil_append,Nat.zero_add,hk];exact hn.app h1
 |f+1,[],new,off+1,k,K,h=>h.elim
 |f+1,(m,x)::r,new,off+1,k,K,h=>by
  have h:(bif Nat.ble m (off+1)then rF f r (off+1 - m) k new fun r'=>K ((m,x)::r')else mH x fun l'=>rE l' r fun l''=>rF f l'' (off+1) k new K):=h;cases hb:Nat.ble m (off+1)with
  |true=>
   rw[hb]at h;have hle:=Nat.le_of_ble_eq_true hb;obtain⟨l',hK,hs'⟩:=ko (f:=f) h;refine⟨_,hK,fun Y S ρ n H vs us hs hn hk=>?_⟩;obtain⟨v1,v2,rfl,hl,hx,hr⟩:=hs;obtain⟨h1,h2⟩:=hs' Y S ρ n H _ _ hr hn hk;refine⟨⟨v1,_,?_,hl,hx,h1⟩,by rw[List.length_append];omega⟩;rw[List.take_append,List.take_of_length_le (by omega),List.drop_append,List.drop_of_length_le (by omega),List.nil_append,hl,List.append_assoc,List.append_assoc,List.append_assoc,show off+1+us.length - m=off+1 - m+us.length by omega]
  |false=>
   rw[hb]at h;obtain⟨l',hK,hs'⟩:=mO h;obtain⟨l2,hK2,hs2⟩:=ko (f:=f) (oL hK);refine⟨l2,hK2,fun Y S ρ n H vs us hs hn hk=>?_⟩;obtain⟨v1,v2,rfl,hl,hx,hr⟩:=hs;exact hs2 Y S ρ n H _ _ ((hs' Y S ρ n H _ hx).app hr) hn hk
theorem im{l:List (cC U)}{off k:Nat}{K:List (cC U)→Prop}(h:mI l off k K): ∃l',K l'∧mN U fun V Y S=> ∀vs,co V l vs→co V l' ((vs.drop off).take k)∧off+k≤vs.length:=by
 obtain⟨l1,h1,hs1⟩:=il (show jg 40 l off _ from h);obtain⟨l2,h2,hs2⟩:=jh h1;refine⟨l2,h2,fun Y S ρ n H vs hs=>?_⟩;obtain⟨a1,a2⟩:=hs1 Y S ρ n H _ hs;obtain⟨b1,b2⟩:=hs2 Y S ρ n H _ a1;rw[List.length_drop]at b2;exact⟨b1,by omega⟩
omit [ax]in
theorem co.one1{V:Cx U→List Value→Prop}{k:Nat}{x:Cx U}{vs:List Value}(h:co V [(k,x)] vs):V x vs∧vs.length=k:=by
 obtain⟨v1,v2,rfl,hl,hx,hr⟩:=h;rw[show v2= []from hr,List.append_nil];exact⟨hx,hl⟩
theorem qJ{s:bm}{l:List (cC U)}{K:TT U.ty s→Prop}(h:d1 s l K): ∃t,K t∧mN U fun V Y S=> ∀vs,co V l vs→aK U Y S s t vs:=by
 unfold d1 at h;split at h
 ·rename_i k s' t;split at h
  ·rename_i u hc;obtain⟨h1,h2⟩:=eG _ _ _ _ _ hc;subst h1;have h2:t=u:=eq_of_heq h2;subst h2;exact⟨t,h,fun Y S ρ n H vs hs=>hs.one1.1⟩
  ·exact h.elim
 ·exact h.elim
theorem tw{g:(s:bm)→List (cC U)→(TT U.ty s→Prop)→Prop}(hg: ∀s l K,g s l K→ ∃t,K t∧mN U fun V Y S=> ∀vs,co V l vs→aK U Y S s t vs):
  ∀{fs:List (Nat×bm)} {l:List (cC U)} {K:u6 U.ty fs→Prop},wy g fs l K→ ∃t:u6 U.ty fs,K t∧mN U fun V Y S=> ∀vs,co V l vs→ ∃us r:List Value,bK U Y S fs t us∧vs=us++r∧us.length=(fs.map (·.1)).sum
 | [],l,K,h=>⟨(),h,fun _ _ _ _ _ vs hs=>⟨[],vs,.nil,rfl,rfl⟩⟩
 |(k,s)::r,l,K,h=>by
  obtain⟨l1,h1,hs1⟩:=jh (show tK 40 l k _ from h);obtain⟨a,h2,hd⟩:=hg s l1 _ h1;obtain⟨l2,h3,hs3⟩:=il h2;obtain⟨b,h4,h5⟩:=tw hg (fs:=r) h3;refine⟨(a,b),h4,fun Y S ρ n H vs hs=>?_⟩;obtain⟨a1,a2⟩:=hs1 Y S ρ n H _ hs;obtain⟨b1,b2⟩:=hs3 Y S ρ n H _ hs;obtain⟨us,q,hd4,hq,hlen⟩:=h5 Y S ρ n H _ b1;have htl:(vs.take k).length=k:=by rw[List.length_take];omega
  refine⟨vs.take k++us,q,.cons k s r a b _ _ (hd Y S ρ n H _ a1) htl hd4,?_,?_⟩
  ·rw[List.append_assoc,←hq,List.take_append_drop]
  ·rw[List.length_append,htl,hlen];rfl
omit [ax]in
theorem co.len{V:Cx U→List Value→Prop}: ∀{l:List (cC U)} {vs:List Value},co V l vs→vs.length=ln l
 | [],vs,h=>by rw[show vs= []from h];rfl
 |(k,x)::r,vs,h=>by
  obtain⟨v1,v2,rfl,hl,_,hr⟩:=h;rw[List.length_append,hl,co.len hr];rfl
theorem tx{e:bm}{g:List (cC U)→(TT U.ty e→Prop)→Prop}(hg: ∀l K,g l K→ ∃t,K t∧mN U fun V Y S=> ∀vs,co V l vs→aK U Y S e t vs):
  ∀{k:Nat} {l:List (cC U)} {K:List (TT U.ty e)→Prop},wz g (aU U e) k l K→ ∃xs:List (TT U.ty e),K xs∧mN U fun V Y S=> ∀vs,co V l vs→ ∃us r:List Value,aZ U Y S e xs us∧vs=us++r∧xs.length=k
 |0,l,K,h=>⟨[],h,fun _ _ _ _ _ vs hs=>⟨[],vs,.nil e,rfl,rfl⟩⟩
 |k+1,l,K,h=>by
  have h:tK 40 l (aU U e) (fun l1=>g l1 fun a=>jg 40 l (aU U e) fun l2=>wz g (aU U e) k l2 fun b=>K (a::b)):=h;obtain⟨l1,h1,hs1⟩:=jh h;obtain⟨a,h2,hd⟩:=hg l1 _ h1;obtain⟨l2,h3,hs3⟩:=il h2;obtain⟨xs,h4,h5⟩:=tx hg (k:=k) h3;refine⟨a::xs,h4,fun Y S ρ n H vs hs=>?_⟩;obtain⟨a1,a2⟩:=hs1 Y S ρ n H _ hs;obtain⟨b1,b2⟩:=hs3 Y S ρ n H _ hs;obtain⟨us,q,hd4,hq,hlen⟩:=h5 Y S ρ n H _ b1;have htl:(vs.take (aU U e)).length=aU U e:=by rw[List.length_take];omega
  refine⟨vs.take (aU U e)++us,q,.cons e a xs _ _ (hd Y S ρ n H _ a1) htl hd4,?_,by rw[List.length_cons,hlen]⟩;rw[List.append_assoc,←hq,List.take_append_drop]
theorem bQ: ∀{f:Nat} {s:bm} {l:List (cC U)} {K:TT U.ty s→Prop},dL f s l K→ ∃t,K t∧mN U fun V Y S=> ∀vs,co V l vs→aK U Y S s t vs
 |0,s,l,K,h=>h.elim
 |f+1,.int k,l,K,h=>qJ (s:= .int k) h
 |f+1,.bool,l,K,h=>qJ (s:= .bool) h
 |f+1,.str,l,K,h=>qJ (s:= .str) h
 |f+1,.sl e,l,K,h=>by
  have h:(match (generalizing:=false) l with
   |(_,.nils):: []=>K ([]:List (TT U.ty e))
   |_=>d1 (.sl e) l K):=h
  split at h
  ·refine⟨[],h,fun Y S ρ n H vs hs=>?_⟩;have hv:=hs.one1.1;rw[show vs= [.slice none 0 0]from hv];exact .sl e [] none 0 [] (.nil e) (fun w _=>mD.nil) (Nat.le_refl _) (Nat.zero_le _)
  ·exact qJ h
 |f+1,.st i,l,K,h=>by
  have h:(match (generalizing:=false) l with
   |(_,.d (.st j) t):: []=>d1 (.st i) l K
   |_=>bif Nat.beq (ln l) (U.rd i).sz then wy (dL f) (U.rd i).fs l fun a=>(U.rd i).ofK a K else False):=h
  split at h
  ·exact qJ h
  ·cases hb:Nat.beq (ln l) (U.rd i).sz with
   |false=>rw[hb]at h;exact h.elim
   |true=>
    rw[hb]at h;have hb:=Nat.eq_of_beq_eq_true hb;obtain⟨a,h1,h2⟩:=tw (fun s l K h=>bQ (f:=f) h) h;obtain⟨x,hx,hto⟩:=(U.rd i).ofK_ok a K h1;refine⟨x,hx,fun Y S ρ n H vs hs=>?_⟩;obtain⟨us,r,hd,hq,hlen⟩:=h2 Y S ρ n H _ hs;have hvl:=hs.len;have hr:r= []:=by
     have:=congrArg List.length hq;rw[List.length_append,hlen,(U.rd i).sz_ok]at this;exact List.eq_nil_of_length_eq_zero (by omega)
    subst hr;rw[List.append_nil]at hq;subst hq;exact .st i x vs (by rw[hto];exact hd) (by omega)
 |f+1,.arr k e,l,K,h=>by
  have h:(match (generalizing:=false) l with
   |(_,.d (.arr _ _) _):: []=>d1 (.arr k e) l K
   |_=>bif Nat.beq (ln l) (k*aU U e)then wz (dL f e) (aU U e) k l K else False):=h
  split at h
  ·exact qJ h
  ·cases hb:Nat.beq (ln l) (k*aU U e)with
   |false=>rw[hb]at h;exact h.elim
   |true=>
    rw[hb]at h;have hb:=Nat.eq_of_beq_eq_true hb;obtain⟨xs,h1,h2⟩:=tx (fun l K h=>bQ (f:=f) h) h;refine⟨xs,h1,fun Y S ρ n H vs hs=>?_⟩;obtain⟨us,r,hd,hq,hlen⟩:=h2 Y S ρ n H _ hs;have hvl:=hs.len;have hr:r= []:=by
     have:=congrArg List.length hq;rw[List.length_append,hd.length,hlen]at this;exact List.eq_nil_of_length_eq_zero (by omega)
    subst hr;rw[List.append_nil]at hq;subst hq;exact .arr k e xs vs hd hlen
variable {Y:List Nat} {S:World→Prop} {ρ:Nat→Rz} {n:Nat} {H:Hs U}
theorem bn.one{x:Cx U}{vs:List Value}(h:bn U Y S ρ n H x vs): ∀v∈vs,v.oneCell'=true:=by
 cases x with
 |d s t=>exact aK.one h
 |own i v=>obtain⟨_,A,l,c,rfl,_⟩:=h;simp[Value.oneCell']
 |ptr i off=>obtain⟨_,_,g,_,rfl⟩:=h;simp[Value.oneCell']
 |pel i v q off=>obtain⟨_,a,rfl,_⟩:=h;simp[Value.oneCell']
 |pax i off m s q o=>obtain⟨_,_,_,_,g,_,rfl⟩:=h;simp[Value.oneCell']
 |pd s t=>obtain⟨g,b,us,rfl,_⟩:=h;simp[Value.oneCell']
 |nilp=>rw[show vs=_ from h];simp[Value.oneCell']
 |nils=>rw[show vs=_ from h];simp[Value.oneCell']
 |nilf=>rw[show vs=_ from h];simp[Value.oneCell']
 |nilm=>rw[show vs=_ from h];simp[Value.oneCell']
 |fn f=>rw[show vs=_ from h];simp[Value.oneCell']
 |clo f js=>rw[h.1];simp[Value.oneCell']
 |f1 a g=>obtain⟨u,rfl,⟨f,fi,ca,rfl⟩,_⟩:=h;simp[Value.oneCell']
 |f2 a b g=>obtain⟨u,rfl,⟨f,fi,ca,rfl⟩,_⟩:=h;simp[Value.oneCell']
 |mp i=>obtain⟨_,_,g,_,rfl⟩:=h;simp[Value.oneCell']
 |un=>obtain⟨u,rfl,h1⟩:=h;simpa using h1
theorem co.one: ∀{l:List (cC U)} {vs:List Value},co (bn U Y S ρ n H) l vs→ ∀v∈vs,v.oneCell'=true
 | [],vs,h=>by rw[show vs= []from h];simp
 |(k,x)::r,vs,h=>by
  obtain⟨v1,v2,rfl,hl,hx,hr⟩:=h;exact fun v hv=>(List.mem_append.1 hv).elim (hx.one v) (co.one hr v)
end
end Go.Proofs.YtiliglahlfkikaaGreatDoor.V
end

section
set_option linter.unusedVariables false
set_option linter.unusedSimpArgs false
namespace Go.Proofs.YtiliglahlfkikaaGreatDoor.V
open Go.RowKit
section
variable [ax] {U:cn}
def EJ(P:Program)(U:cn)(d:KD U):Prop:= @ia _ d.dec P d.kt d.enc∧(∀Y S x vs v,aK U Y S d.k x vs→eN (fS d.k) v vs→v=d.enc x)∧ ∃z,jT P d.vt=some z∧ ∀Y S,∃vs,eN (fS d.v) z vs∧aK U Y S d.v d.zero vs
def vA(U:cn)(d:KD U):Prop:=EJ ax.pr U d
def xS(P:Program)(t:Nat):Kd→Prop
 | .int k=>P.underlying t=some (.int k)
 | .bool=>P.underlying t=some .bool
 | .str=>P.underlying t=some .string
 | .sl e=>P.underlying t=some (.slice e)
 | .ptr e=>P.underlying t=some (.pointer e)
 | .st=> ∃fs,P.underlying t=some (.struct fs)
 | .arr n e=>P.underlying t=some (.array n e)
 | .mp k v=>P.underlying t=some (.map k v)
 | .fn=> ∃d,P.underlying t=some d
 | .ifc=> ∃d,P.underlying t=some d
structure jX(U:cn)(P:Program)(t:Nat)(s:bm):Prop where
 guard:P.eqGuardType P.depth t=false
 vals: ∀Y S (a b:TT U.ty s) vs us,aK U Y S s a vs→aK U Y S s b us→ ∃r,bc P 8 t vs us=some r∧(r=true↔a=b)
structure bj(U:cn)(P:Program)(t:Nat)(ti:TI U):Prop where
 size:(P.info? t).map (·.size)=some ti.sz
 kd:xS P t ti.kd
 one:u7 ti.kd=false→eE P t=true
 by_:(P.info? t).map (·.bytes)=some ti.by_
 fs: ∀f off ft,eM ti.fs f=some (off,ft)→ga P t f=some off∧(match P.underlying t with|some (.struct fs)=>(fs[f]?).map (·.type)|_=>none)=some ft
 pl:ti.kd= .st→ ∃pls,nA P t=some pls∧ ∀f off ft,eM ti.fs f=some (off,ft)→ ∃k,pls[f]? =some (off,k)∧(P.info? ft).map (·.size)=some k
 eq: ∀s,ti.sh=some s→ti.cmp=true→u7 ti.kd=true∧jX U P t s
 mp: ∀d,ti.mp=some d→EJ P U d∧P.underlying t=some (.map d.kt d.vt)
 zero: ∃zs,zeroCells P t=some zs∧zs.length=ti.sz∧ ∀(F:ax) Y S ρ n H,co (@bn F U Y S ρ n H) ti.zero zs
def bO(U:cn)(P:Program)(T:eF U):Prop:= ∀t ti,aL T t=some ti→bj U P t ti
def aH(U:cn)(Y:List Nat)(S:World→Prop)(d:KD U):List (TT U.ty d.k×TT U.ty d.v)→List (TT U.ty d.k×Value)→Prop
 | [],[]=>True
 |(x,y)::l,(x',u)::m=>x=x'∧(∃vs,eN (fS d.k) (d.enc x) vs∧aK U Y S d.k x vs)∧(∃vs,eN (fS d.v) u vs∧aK U Y S d.v y vs)∧aH U Y S d l m
 |_,_=>False
theorem aH.mv{Y Y':List Nat}{S S':World→Prop}(m:Mv Y S Y' S'){d:KD U}: ∀{l:List (TT U.ty d.k×TT U.ty d.v)} {mv:List (TT U.ty d.k×Value)},aH U Y S d l mv→aH U Y' S' d l mv
 | [],[],h=>h
 |(x,y)::l,(x',u)::mv,⟨h1,⟨ks,h5,h6⟩,⟨vs,h2,h3⟩,h4⟩=>⟨h1,⟨ks,h5,aK.mv m h6⟩,⟨vs,h2,aK.mv m h3⟩,aH.mv m h4⟩
 | [],_::_,h=>h.elim
 |_::_,[],h=>h.elim
section
variable {Y:List Nat} {S:World→Prop} {d:KD U}
omit [ax]in
theorem aH.len: ∀{l:List (TT U.ty d.k×TT U.ty d.v)} {m:List (TT U.ty d.k×Value)},aH U Y S d l m→l.length=m.length
 | [],[],_=>rfl
 |_::_,_::_,h=>by rw[List.length_cons,List.length_cons,aH.len h.2.2.2]
 | [],_::_,h=>h.elim
 |_::_,[],h=>h.elim
omit [ax]in
theorem aH.get(x:TT U.ty d.k): ∀{l:List (TT U.ty d.k×TT U.ty d.v)} {m:List (TT U.ty d.k×Value)},aH U Y S d l m→
  (@dP _ _ d.dec l x=none∧ @dP _ _ d.dec m x=none)∨ ∃y u, @dP _ _ d.dec l x=some y∧ @dP _ _ d.dec m x=some u∧ ∃vs,eN (fS d.v) u vs∧aK U Y S d.v y vs
 | [],[],_=> .inl ⟨rfl,rfl⟩
 |(k,y)::l,(k',u)::m,⟨h1,hk,h2,h3⟩=>by
  subst h1;by_cases e:k=x
  ·exact .inr ⟨y,u,by simp[dP,e],by simp[dP,e],h2⟩
  ·have e1: @dP _ _ d.dec ((k,y)::l) x= @dP _ _ d.dec l x:=by simp[dP,e]
   have e2: @dP _ _ d.dec ((k,u)::m) x= @dP _ _ d.dec m x:=by simp[dP,e]
   rw[e1,e2];exact aH.get x h3
 | [],_::_,h=>h.elim
 |_::_,[],h=>h.elim
omit [ax]in
theorem aH.set{x:TT U.ty d.k}{z:TT U.ty d.v}{q:Value}(hx: ∃vs,eN (fS d.k) (d.enc x) vs∧aK U Y S d.k x vs)(hz: ∃vs,eN (fS d.v) q vs∧aK U Y S d.v z vs): ∀{l:List (TT U.ty d.k×TT U.ty d.v)} {m:List (TT U.ty d.k×Value)},aH U Y S d l m→aH U Y S d (@iI _ _ d.dec l x z) (@iI _ _ d.dec m x q)
 | [],[],_=>⟨rfl,hx,hz,trivial⟩
 |(k,y)::l,(k',u)::m,⟨h1,hk,h2,h3⟩=>by
  subst h1;unfold iI;by_cases e:k=x
  ·simp only[e,if_true];exact⟨rfl,hx,hz,h3⟩
  ·simp only[e,if_false];exact⟨rfl,hk,h2,aH.set hx hz h3⟩
 | [],_::_,h=>h.elim
 |_::_,[],h=>h.elim
omit [ax]in
theorem aH.del{x:TT U.ty d.k}: ∀{l:List (TT U.ty d.k×TT U.ty d.v)} {m:List (TT U.ty d.k×Value)},aH U Y S d l m→aH U Y S d (@eP _ _ d.dec l x) (@eP _ _ d.dec m x)
 | [],[],_=>trivial
 |(k,y)::l,(k',u)::m,⟨h1,hk,h2,h3⟩=>by
  subst h1;unfold eP;by_cases e:k=x
  ·simp only[e,if_true];exact h3
  ·simp only[e,if_false];exact⟨rfl,hk,h2,aH.del h3⟩
 | [],_::_,h=>h.elim
 |_::_,[],h=>h.elim
omit [ax]in
theorem aH.part{a':List (TT U.ty d.k×Value)}{p':TT U.ty d.k×Value}{b':List (TT U.ty d.k×Value)}: ∀{l:List (TT U.ty d.k×TT U.ty d.v)},aH U Y S d l (a'++p'::b')→
  ∃a p b,l=a++p::b∧p.1=p'.1∧(∃vs,eN (fS d.k) (d.enc p.1) vs∧aK U Y S d.k p.1 vs)∧(∃vs,eN (fS d.v) p'.2 vs∧aK U Y S d.v p.2 vs)∧aH U Y S d (a++b) (a'++b'):=by
 induction a' with
 |nil=>
  intro l h;cases l with
  |nil=>exact h.elim
  |cons p l=>obtain⟨h1,hk,h2,h3⟩:=h;exact⟨[],p,l,rfl,h1,hk,h2,h3⟩
 |cons q a' ih=>
  intro l h;cases l with
  |nil=>exact h.elim
  |cons p l=>
   obtain⟨h1,hk,h2,h3⟩:=h;obtain⟨a,p2,b,e,e2,e5,e3,e4⟩:=ih h3;exact⟨p::a,p2,b,by rw[e];rfl,e2,e5,e3,h1,hk,h2,e4⟩
end
def mQ(U:cn)(Y:List Nat)(S:World→Prop)(ρ:Nat→Rz)(n:Nat)(H:Hs U)(i:Nat):aW U→Prop
 | .cells l t=> ∃g vs,(ρ i).A=some ⟨g,0,none⟩∧co (bn U Y S ρ n H) l vs∧ ∀w,S w→w.heap[g]? =some (Cl vs t)
 | .row v e xs t=>0<aU U e∧ ∃cs sp,aZ U Y S e xs cs∧Ow (ρ i).A xs.length (ρ i).c (aU U e) cs sp∧ ∀g,ak (ρ i).A=some g→ ∀w,S w→w.heap[g]? =some (Cl (cs++sp) t)
 | .frz v e xs=>0<aU U e∧ ∃cs,aZ U Y S e xs cs∧tu Y S (ρ i).A cs∧xs.length≤(ρ i).c∧(ρ i).c≤maxLen
 | .map d l=>vA U d∧ ∃g es clock mv,(ρ i).A=some ⟨g,0,none⟩∧nJ d.enc (fun v:Value=>v) es clock mv∧aH U Y S d l mv∧ ∀w,S w→w.heap[g]? =some (.map es clock)
 | .mapr d l left cur gh=>vA U d∧ ∃g es clock mv lv cv,(ρ i).A=some ⟨g,0,none⟩∧p4 d.enc (fun v:Value=>v) es clock mv lv cv gh∧aH U Y S d l mv∧aH U Y S d left lv∧aH U Y S d cur cv∧ ∀w,S w→w.heap[g]? =some (.map es clock)
 | .it k gh=> ∃r g,(ρ i).A=some ⟨r,0,none⟩∧(ρ k).A=some ⟨g,0,none⟩∧k<n∧bC (aL H k)=none∧ ∀w,S w→w.heap[r]? =some (.mapIter (some g) gh.since gh.seen gh.c0)
 | .clo f l=>True
 | .hid _ _ _=>True
 | .dead=>True
def aA(ρ:Nat→Rz):Nat×aW U→Option Nat
 |(i,.cells _ _)=>ak (ρ i).A
 |(i,.row _ _ _ _)=>ak (ρ i).A
 |(i,.map _ _)=>ak (ρ i).A
 |(i,.mapr _ _ _ _ _)=>ak (ρ i).A
 |(i,.it _ _)=>ak (ρ i).A
 |_=>none
def aj(ρ:Nat→Rz)(H:Hs U):List Nat:=H.filterMap (aA ρ)
def tG(S:World→Prop):Prop:=(∀z∈gB,z∈ax.xf)∧ ∀w,S w→Gv w
theorem tG.fr{O:List Nat}{w w':World}(h:tG (· =w))(hf:Fr O w w')(hO: ∀o∈O,o∉ax.xf):tG (· =w'):=⟨h.1,fun w2 h2=>by subst h2;exact(h.2 w rfl).fr hf fun o ho hb=>hO o ho (h.1 o hb)⟩
structure bH(U:cn)(X:List Nat)(S:World→Prop)(ρ:Nat→Rz)(n:Nat)(H:Hs U):Prop where
 nd:(H.map (·.1)).Nodup
 lt: ∀p∈H,p.1<n
 ent: ∀p∈H,mQ U (aj ρ H++X) S ρ n H p.1 p.2
 inj: ∀p∈H,∀q∈H,∀g,aA ρ p=some g→aA ρ q=some g→p.1=q.1
 dj: ∀g∈aj ρ H,g∉X
 lo: ∀w,S w→ ∀x∈X,x<w.heap.size
 xs: ∀x∈ax.xf,x∈X
 gv:tG S
def dJ(V:Cx U→List Value→Prop)(x:Va U)(v:Value):Prop:=match x.ag with
 |true=> ∃vs:List Value,v= .agg vs.toArray∧co V x.l vs
 |false=>co V x.l [v]
def cI(V:Cx U→List Value→Prop):List (Va U)→List Value→Prop
 | [],vs=>vs= []
 |x::r,vs=> ∃v us,vs=v::us∧dJ V x v∧cI V r us
def qr(V:Cx U→List Value→Prop):AV U→Value→Prop
 | .v x,u=>dJ V x u
 | .tup l,u=> ∃us:List Value,u= .tuple us.toArray∧cI V l us
 |_,_=>True
def iK(R e:En U)(s:Nat):Option Bool:=match aL R s with
 |some (.gd _ ⟨false,(_,.d .bool c):: []⟩)=>some c
 |some _=>none
 |none=>(match aL e s with
  |some (.v ⟨false,(_,.d .bool c):: []⟩)=>some c
  |_=>none)
def bD(R e:En U)(p:dQ):Prop:= ∀x∈p,iK R e x.1=some x.2
structure bd(V:Cx U→List Value→Prop)(R e:En U)(ce:aR):Prop where
 v: ∀k x,aL R k=none→aL e k=some (.v x)→ ∃u,ce.get k=some u∧dJ V x u
 t: ∀k l,aL R k=none→aL e k=some (.tup l)→ ∃us:List Value,ce.get k=some (.tuple us.toArray)∧cI V l us
 g: ∀k p x,aL R k=some (.gd p x)→ ∃u,ce.get k=some u∧(bD R e p→dJ V x u)∧(¬bD R e p→u=undef)
omit [ax]in
theorem ze{R e:En U}{s:Nat}{K:Bool→Prop}(h:wA R e s K False): ∃c,iK R e s=some c∧K c:=by
 unfold wA at h;unfold iK;split at h
 ·rename_i q k c hc;rw[hc];exact⟨_,rfl,h⟩
 ·exact h.elim
 ·rename_i hn;split at h
  ·rename_i k c hc;rw[hn,hc];exact⟨_,rfl,h⟩
  ·exact h.elim
omit [ax]in
theorem lq{R e:En U}: ∀{p:dQ} {A:Prop},qI R e p A→bD R e p→A
 | [],A,h,_=>h
 |x::p,A,h,ht=>by
  obtain⟨c,hc,hK⟩:=ze (show wA R e x.1 (fun c=>c=x.2→qI R e p A) False from h);have:=ht x (by simp);rw[hc]at this;injection this with this;exact lq (hK this) fun y hy=>ht y (by simp[hy])
omit [ax]in
theorem lQ: ∀{p q:dQ},gO p q=true→p=q
 | [],[],_=>rfl
 |(s,true)::p,(t,true)::q,h=>by
  simp only[gO]at h;cases hb:Nat.beq s t with
  |false=>rw[hb]at h;cases h
  |true=>rw[hb]at h;rw[Nat.eq_of_beq_eq_true hb,lQ h]
 |(s,false)::p,(t,false)::q,h=>by
  simp only[gO]at h;cases hb:Nat.beq s t with
  |false=>rw[hb]at h;cases h
  |true=>rw[hb]at h;rw[Nat.eq_of_beq_eq_true hb,lQ h]
 |(s,true)::p,(t,false)::q,h=>by simp[gO]at h
 |(s,false)::p,(t,true)::q,h=>by simp[gO]at h
 | [],_::_,h=>by simp[gO]at h
 |(_,_)::_,[],h=>by simp[gO]at h
omit [ax]in
theorem ov{q:dQ}: ∀{p:dQ},jD q p=true→ ∀x∈q,x∈p
 | [],h,x,hx=>by have:=lQ (show gO q []=true from h);rw[this]at hx;exact hx
 |y::p,h,x,hx=>by
  have h:(gO q (y::p)||jD q p)=true:=h;rw[Bool.or_eq_true]at h;rcases h with h|h
  ·have:=lQ h;rw[this]at hx;exact hx
  ·exact List.mem_cons_of_mem _ (ov h x hx)
omit [ax]in
theorem bD.suf{R e:En U}{p q:dQ}(h:bD R e p)(hs:jD q p=true):bD R e q:=fun x hx=>h x (ov hs x hx)
omit [ax]in
theorem Ce{k:IntKind}{p:Int}(h:BV k p=true):fu k p:=by
 cases k<;>cases p<;>simp only[BV,Nat.ble_eq]at h<;>simp only[fu]<;>first|(cases h;done)|(simp only[Int.ofNat_eq_natCast];omega)|omega
variable {Y:List Nat} {S:World→Prop} {ρ:Nat→Rz} {n:Nat} {H:Hs U} {R e:En U} {ce:aR} {p:dQ}
omit [ax]in
theorem Pn{V:Cx U→List Value→Prop}{x:Cx U}{v:Value}(h:V x [v]):co V [(1,x)] [v]:=⟨[v],[],rfl,rfl,h,rfl⟩
omit [ax]in
theorem jF{V:Cx U→List Value→Prop}{x:Cx U}{v:Value}(h:V x [v]):dJ V ⟨false,[(1,x)]⟩ v:=Pn h
theorem xT{v:Value}{K:Va U→Prop}(h:vg v K): ∃x,K x∧dJ (bn U Y S ρ n H) x v:=by
 unfold vg at h;split at h
 ·rename_i k q;cases hb:BV k q with
  |false=>rw[hb]at h;exact h.elim
  |true=>rw[hb]at h;exact⟨_,h,jF (aK.int k q (Ce hb))⟩
 ·exact⟨_,h,jF (aK.bool _)⟩
 ·rename_i l;cases hb:Nat.ble l.length 9223372036854775807 with
  |false=>rw[hb]at h;exact h.elim
  |true=>rw[hb]at h;exact⟨_,h,jF (aK.str l (Nat.le_of_ble_eq_true hb))⟩
 ·exact⟨_,h,jF rfl⟩
 ·exact⟨_,h,jF rfl⟩
 ·exact⟨_,h,jF rfl⟩
 ·exact⟨_,h,jF rfl⟩
 ·exact h.elim
theorem ef{o:Operand}{K:Va U→Prop}(h:mJ p R e o K)(he:bd (bn U Y S ρ n H) R e ce): ∃x,K x∧(bD R e p→ ∃v,ce.ev o=some v∧dJ (bn U Y S ρ n H) x v):=by
 unfold mJ at h;split at h
 ·rename_i t;split at h
  ·rename_i q x hx;cases hb:jD q p with
   |false=>rw[hb]at h;exact h.elim
   |true=>
    rw[hb]at h;obtain⟨u,hu,h1,_⟩:=he.g _ _ _ hx;exact⟨x,h,fun hp=>⟨u,hu,h1 (hp.suf hb)⟩⟩
  ·exact h.elim
  ·rename_i hn;split at h
   ·rename_i x hx;obtain⟨u,hu,h1⟩:=he.v _ _ hn hx;exact⟨x,h,fun _=>⟨u,hu,h1⟩⟩
   ·exact h.elim
 ·rename_i v;obtain⟨x,hx,hv⟩:=xT h;exact⟨x,hx,fun _=>⟨v,rfl,hv⟩⟩
 ·exact⟨_,h,fun _=>⟨_,rfl,jF rfl⟩⟩
 ·exact h.elim
theorem kp: ∀{l:List Operand} {K:List (Va U)→Prop},tl p R e l K→bd (bn U Y S ρ n H) R e ce→ ∃xs,K xs∧(bD R e p→ ∃vs,ce.evs l=some vs∧cI (bn U Y S ρ n H) xs vs)
 | [],K,h,he=>⟨[],h,fun _=>⟨[],rfl,rfl⟩⟩
 |o::l,K,h,he=>by
  obtain⟨x,h1,hx⟩:=ef (show mJ p R e o (fun v=>tl p R e l fun r=>K (v::r))from h) he;obtain⟨xs,h2,hxs⟩:=kp (l:=l) h1 he;refine⟨_,h2,fun hp=>?_⟩;obtain⟨v,e1,v1⟩:=hx hp;obtain⟨vs,e2,v2⟩:=hxs hp;exact⟨v::vs,by simp only[aR.evs,e1,e2],v,vs,rfl,v1,v2⟩
theorem dJ.single{x:Va U}{k:Nat}{c:Cx U}{v:Value}(h:dJ (bn U Y S ρ n H) x v)(hl:x.l= [(k,c)]): ∃vs,bn U Y S ρ n H c vs∧vs.length=k∧v.cells.toList=vs∧(x.ag=false→vs= [v]):=by
 unfold dJ at h;split at h
 ·rename_i ha;obtain⟨vs,rfl,hs⟩:=h;rw[hl]at hs;exact⟨vs,hs.one1.1,hs.one1.2,by simp[Value.cells],fun hf=>by rw[ha]at hf;cases hf⟩
 ·rename_i ha;rw[hl]at h;refine⟨[v],h.one1.1,h.one1.2,?_,fun _=>rfl⟩;have:=h.one1.1.one v (by simp);cases v<;>first|rfl|(simp[Value.oneCell']at this)
theorem dJ.cells{x:Va U}{v:Value}(h:dJ (bn U Y S ρ n H) x v):co (bn U Y S ρ n H) x.l v.cells.toList:=by
 unfold dJ at h;split at h
 ·obtain⟨vs,rfl,hs⟩:=h;simpa[Value.cells]using hs
 ·have:=h.one v (by simp);cases v<;>first|exact h|(simp[Value.oneCell']at this)
theorem dJ.int{x:Va U}{k:Nat}{kd:IntKind}{q:Int}{v:Value}(h:dJ (bn U Y S ρ n H) x v)(hl:x.l= [(k,.d (.int kd) q)]):fu kd q∧(v= .int kd q∨v= .agg #[.int kd q]):=by
 obtain⟨vs,h1,h2,h3,h4⟩:=h.single hl;have hd:=(show aK U Y S (.int kd) q vs from h1).inv;refine⟨hd.2,?_⟩;rw[hd.1]at h3 h4;cases hx:x.ag with
 |false=>have:=h4 hx;injection this with this;exact .inl this.symm
 |true=>
  unfold dJ at h;rw[hx]at h;obtain⟨us,rfl,hs⟩:=h;simp[Value.cells]at h3;rw[h3];exact .inr rfl
end
end Go.Proofs.YtiliglahlfkikaaGreatDoor.V
end

section
set_option linter.unusedVariables false
set_option linter.unusedSimpArgs false
namespace Go.Proofs.YtiliglahlfkikaaGreatDoor.V
open Go.RowKit
section
variable [ax] {U:cn} {P:Program} {nt:Nat} {T:eF U} {X:List Nat} {S:World→Prop} {ρ:Nat→Rz} {n:Nat} {H:Hs U} {R e:En U} {ce:aR} {p:dQ} {o:Oper}
omit [ax]in
theorem am{α:Type}: ∀{l:List (Nat×α)} {i:Nat} {x:α},aL l i=some x→(i,x)∈l
 |(j,y)::r,i,x,h=>by
  unfold aL at h;cases hb:Nat.beq j i with
  |true=>rw[hb]at h;injection h with h;rw[←h,Nat.eq_of_beq_eq_true hb];simp
  |false=>rw[hb]at h;exact List.mem_cons_of_mem _ (am h)
theorem bZ{Y:List Nat}{o:Operand}{K:Cx U→Prop}(h:km p R e o K)(he:bd (bn U Y S ρ n H) R e ce): ∃c,K c∧(bD R e p→ ∃v,ce.ev o=some v∧bn U Y S ρ n H c [v]):=by
 obtain⟨x,hx,hv⟩:=ef h he;unfold FM at hx;split at hx
 ·rename_i k c;refine⟨c,hx,fun hp=>?_⟩;obtain⟨v,e1,e2⟩:=hv hp;exact⟨v,e1,(show co _ [(k,c)] [v]from e2).one1.1⟩
 ·exact hx.elim
structure zf(S:World→Prop)(l m:Nat)(A:Option Addr)(c:Nat)(cs:List Value):Prop where
 src: ∀w,S w→ ∀ad,A=some ad→ ∀j u,cs[j]? =some u→w.cell? (ad.add j)=some u
 none_:A=none→l=0
 mid: ∀ad,A=some ad→0<l→ad.spot=none
 lc:l≤c
 cm:c≤maxLen
 len:cs.length=l*m
 pos:0<m
omit [ax]in
theorem zg{Y:List Nat}{l m c:Nat}{A:Option Addr}{cs:List Value}(h:tu Y S A cs)(hl:cs.length=l*m)(hm:0<m)(hlc:l≤c)(hc:c≤maxLen)(hS: ∃w,S w):zf S l m A c cs:=by
 refine⟨fun w hw ad hA j u hj=>(h w hw).src ad hA j u hj,fun hA=>?_,fun ad hA hl0=>?_,hlc,hc,hl,hm⟩
 ·obtain⟨w,hw⟩:=hS;exact nH (h w hw) hA hl hm
 ·obtain⟨w,hw⟩:=hS;obtain⟨g,b,e1⟩:=(h w hw).addr (by rw[hl];exact Nat.mul_pos hl0 hm);rw[hA]at e1;injection e1 with e1;rw[e1]
omit [ax]in
theorem Gi{l c m:Nat}{A:Option Addr}{cs sp:List Value}{t:Nat}(ho:Ow A l c m cs sp)(hb: ∀g,ak A=some g→ ∀w,S w→w.heap[g]? =some (Cl (cs++sp) t))(hm:0<m):zf S l m A c cs:=by
 refine⟨fun w hw ad hA j u hj=>?_,fun hA=>uP ho hA,fun ad hA _=>?_,?_,?_,ho.1,hm⟩
 ·subst hA;rcases ho.2 with⟨h0,_⟩|⟨g,e1,_⟩
  ·cases h0
  injection e1 with e1;subst e1;rw[Addr.add_mid,Nat.zero_add,cell_of_row w g j (cs++sp).toArray t (0,0) (hb g rfl w hw)];simp only[List.getElem?_toArray];rw[List.getElem?_append_left (List.getElem?_eq_some_iff.1 hj).1];exact hj
 ·rcases ho.2 with⟨h0,_⟩|⟨g,e1,_⟩
  ·rw[h0]at hA;cases hA
  ·rw[hA]at e1;injection e1 with e1;rw[e1]
 ·rcases ho.2 with⟨_,h0,h1,_⟩|⟨g,_,_,h1,_⟩
  ·omega
  ·exact h1
 ·rcases ho.2 with⟨_,h0,h1,_⟩|⟨g,_,_,_,h1⟩
  ·rw[h1];exact Nat.zero_le _
  ·exact h1
theorem rJ{x:Cx U}{K:(s:bm)→List (TT U.ty s)→Prop}(h:vh H x K)(M:bH U X S ρ n H)(hS: ∃w,S w):
  ∃s xs,K s xs∧ ∀vs,bn U (aj ρ H++X) S ρ n H x vs→ ∃A c cs,vs= [.slice A xs.length c]∧aZ U (aj ρ H++X) S s xs cs∧zf S xs.length (aU U s) A c cs:=by
 unfold vh at h;split at h
 ·rename_i s xs;cases hb:Nat.blt 0 (aU U s)with
  |false=>rw[hb]at h;exact h.elim
  |true=>
   rw[hb]at h;have hb:0<aU U s:=by simpa[Nat.blt_eq]using hb
   refine⟨s,xs,h,fun vs hv=>?_⟩;obtain⟨A,c,cs,rfl,hd,hr,h1,h2⟩:=(show aK U _ S (.sl s) xs vs from hv).inv;exact⟨A,c,cs,rfl,hd,zg hr hd.length hb h1 h2 hS⟩
 ·rename_i i v;split at h
  ·rename_i v' s xs t hl;cases hb:Nat.beq v v' with
   |false=>rw[hb]at h;exact h.elim
   |true=>
    rw[hb]at h;refine⟨s,xs,h,fun vs hv=>?_⟩;obtain⟨_,A,l,c,rfl,hn⟩:=hv;obtain⟨rfl,rfl,rfl⟩:=(hn _ _ _ (by rw[hl];rfl)).2 (Nat.eq_of_beq_eq_true hb);obtain⟨hm,cs,sp,hd,ho,hb⟩:=M.ent _ (am hl);exact⟨_,_,cs,rfl,hd,Gi ho hb hm⟩
  ·rename_i v' s xs hl;cases hb:Nat.beq v v' with
   |false=>rw[hb]at h;exact h.elim
   |true=>
    rw[hb]at h;refine⟨s,xs,h,fun vs hv=>?_⟩;obtain⟨_,A,l,c,rfl,hn⟩:=hv;obtain⟨rfl,rfl,rfl⟩:=(hn _ _ _ (by rw[hl];rfl)).2 (Nat.eq_of_beq_eq_true hb);obtain⟨hm,cs,hd,hr,h1,h2⟩:=M.ent _ (am hl);exact⟨_,_,cs,rfl,hd,zg hr hd.length hm h1 h2 hS⟩
  ·exact h.elim
 ·exact h.elim
omit [ax]in
theorem rK{t:Nat}{ti:TI U}(h:bj U P t ti)(ha:u7 ti.kd=true):bB P t=some ti.sz:=by
 have hk:=h.kd;unfold bB;cases hkd:ti.kd with
 |st=>rw[hkd]at hk;obtain⟨fs,hk⟩:=hk;rw[hk];exact h.size
 |arr k e=>rw[hkd]at hk;rw[show P.underlying t=_ from hk];exact h.size
 |_=>rw[hkd]at ha;cases ha
omit [ax]in
theorem o8{t:Nat}{ti:TI U}(h:bj U P t ti)(ha:u7 ti.kd=false):ti.sz=1:=by
 have hp:=h.one ha;have hs:=h.size;unfold eE at hp;split at hp
 ·cases hp
 ·cases hp
 ·cases hq:P.info? t with
  |none=>rw[hq]at hs;cases hs
  |some i=>rw[hq]at hp hs;simp at hp hs;omega
 ·cases hp
theorem nP{t:Nat}{l:List (cC U)}{K:Va U→Prop}(h:ED T t l K)(hT:bO U P T):
  ∃v,K v∧ ∃ti,aL T t=some ti∧mN U fun V Y S=> ∀vs,co V l vs→vs.length=ti.sz→ ∃u,dJ V v u∧(u7 ti.kd=true→u= .agg vs.toArray)∧(u7 ti.kd=false→vs= [u]):=by
 unfold ED at h;split at h
 ·rename_i ti hti;have htk:=hT _ _ hti;cases ha:u7 ti.kd with
  |true=>
   simp only[ha]at h;exact⟨_,h,ti,hti,fun Y S ρ n H vs hs hl=>⟨_,⟨vs,rfl,hs⟩,fun _=>rfl,fun hf=>(by rw[ha]at hf;cases hf)⟩⟩
  |false=>
   simp only[ha]at h;have h1:=o8 htk ha;have one: ∀vs:List Value,vs.length=ti.sz→ ∃v,vs= [v]:=fun vs hl=>by
    match vs,hl with
    | [v],_=>exact⟨v,rfl⟩
    | [],hl=>simp at hl;omega
    |_::_::_,hl=>simp at hl;omega
   split at h
   ·rename_i m i x;obtain⟨l',hK,hs'⟩:=mO h;refine⟨_,hK,ti,hti,fun Y S ρ n H vs hs hl=>?_⟩;obtain⟨v,rfl⟩:=one vs hl;exact⟨v,hs' Y S ρ n H _ hs.one1.1,fun hf=>(by rw[ha]at hf;cases hf),fun _=>rfl⟩
   ·refine⟨_,h,ti,hti,fun Y S ρ n H vs hs hl=>?_⟩;obtain⟨v,rfl⟩:=one vs hl;exact⟨v,hs,fun hf=>(by rw[ha]at hf;cases hf),fun _=>rfl⟩
 ·exact h.elim
omit [ax]in
theorem pa{t:Nat}{ti:TI U}(hti:bj U P t ti){vs:List Value}{u:Value}(hl:vs.length=ti.sz)(h1:u7 ti.kd=true→u= .agg vs.toArray)(h2:u7 ti.kd=false→vs= [u]){w:World}{g k:Nat}(hr:w.rangeAt g k vs):(loadVar t ⟨g,k,none⟩).run P w= .ok u w:=by
 cases ha:u7 ti.kd with
 |true=>rw[h1 ha];exact ld (rK hti ha) hl hr
 |false=>have:=h2 ha;subst this;exact jU (hti.one ha) (by simpa using hr 0 u rfl)
omit [ax]in
theorem nQ{w:World}{g:Nat}{t:Nat}{vs:List Value}(h:w.heap[g]? =some (Cl vs t))(off k:Nat):w.rangeAt g off ((vs.drop off).take k):=fun j v hj=>by
 rw[List.getElem?_take]at hj;split at hj
 ·rw[List.getElem?_drop]at hj;rw[cell_of_row w g (off+j) vs.toArray t (0,0) h];simpa using hj
 ·cases hj
omit [ax]in
theorem iM{α:Type}{vs:List α}{q m off k:Nat}(h:off+k≤m):(((vs.drop q).take m).drop off).take k=(vs.drop (q+off)).take k:=by
 rw[List.drop_take,List.take_take,List.drop_drop,Nat.min_eq_left (by omega)]
def Po(P:Program)(V:Cx U→List Value→Prop)(S:World→Prop)(t:Nat)(x:Cx U)(v:Va U):Prop:= ∀u0,V x [u0]→ ∃A u,u0= .pointer (some A)∧dJ V v u∧ ∀w,S w→(loadVar t A).run P w= .ok u w
omit [ax]in
theorem oM{q l m:Nat}(h:q<l):q*m+m≤l*m:=by
 have:=Nat.mul_le_mul_right m (show q+1≤l from h);rw[Nat.add_mul,Nat.one_mul]at this;exact this
omit [ax]in
theorem xU{w:World}{g off m k q l:Nat}{cs sp:List Value}{t:Nat}(h:w.heap[g]? =some (Cl (cs++sp) t))(hl:cs.length=l*m)(hq:q<l)(ho:off+k≤m):w.rangeAt g (q*m+off) ((((cs.drop (q*m)).take m).drop off).take k):=by
 rw[iM ho];have:=nQ h (q*m+off) k;have h2:=oM (m:=m) hq;rw[List.drop_append_of_le_length (by omega),List.take_append_of_le_length (by rw[List.length_drop];omega)]at this;exact this
omit [ax]in
theorem zh{Y:List Nat}{A:Option Addr}{g off m k q l:Nat}{cs:List Value}(h:tu Y S A cs)(hA:A=some ⟨g,0,none⟩)(ho:off+k≤m){w:World}(hw:S w):w.rangeAt g (q*m+off) ((((cs.drop (q*m)).take m).drop off).take k):=by
 rw[iM ho];subst hA;have:=(h w hw).range (q*m+off) k;rw[Nat.zero_add]at this;exact this
theorem tH{t:Nat}{x:Cx U}{K:Va U→Prop}(h:tq T t H x K)(M:bH U X S ρ n H)(hT:bO U P T):
  ∃v,K v∧Po P (bn U (aj ρ H++X) S ρ n H) S t x v:=by
 unfold tq at h;split at h
 ·rename_i ti hti;have htk:=hT _ _ hti;split at h
  ·rename_i i off;split at h
   ·rename_i l ty hl;obtain⟨l',hK,hs'⟩:=im h;obtain⟨v,hv,ti',hti',hva⟩:=nP hK hT;rw[hti]at hti';injection hti' with hti';subst hti';refine⟨v,hv,fun u0 h0=>?_⟩;obtain⟨g,vs,hA,hs,hb⟩:=M.ent _ (am hl);obtain⟨a1,a2⟩:=hs' _ _ _ _ _ _ hs;have hlen:((vs.drop off).take ti.sz).length=ti.sz:=by rw[List.length_take,List.length_drop];omega
    obtain⟨u,hu,e1,e2⟩:=hva _ _ _ _ _ _ a1 hlen;obtain⟨_,_,g',hA',e3⟩:=h0;rw[hA]at hA';injection hA' with hA';injection hA' with hA';subst hA';injection e3 with e3;exact⟨_,u,e3,hu,fun w hw=>pa htk hlen e1 e2 (nQ (hb w hw) _ _)⟩
   ·exact h.elim
  ·rename_i i v q off;split at h
   ·rename_i v' s xs ty hl;cases hbq:Nat.beq v v' with
    |false=>rw[hbq]at h;exact h.elim
    |true=>
     rw[hbq]at h;obtain⟨x,hx,hix⟩:=jW h;obtain⟨l',hK,hs'⟩:=im hx;obtain⟨va,hv,ti',hti',hva⟩:=nP hK hT;rw[hti]at hti';injection hti' with hti';subst hti';refine⟨va,hv,fun u0 h0=>?_⟩;obtain⟨hm,cs,sp,hd,ho,hb⟩:=M.ent _ (am hl);obtain⟨_,a,e3,hn⟩:=h0;obtain⟨g,hA,ha,hq0,hq1⟩:=(hn _ _ _ (by rw[hl];rfl)).2 (Nat.eq_of_beq_eq_true hbq);injection e3 with e3;have hxq:=hix _ (List.getElem?_eq_getElem (show q.toNat<xs.length by omega));have hat:=hd.at q.toNat _ (List.getElem?_eq_getElem (show q.toNat<xs.length by omega));rw[←hxq]at hat;have hatl:=hat.length;obtain⟨a1,a2⟩:=hs' (aj ρ H++X) S ρ n H _ ⟨_,[],(List.append_nil _).symm,hatl,hat,rfl⟩;rw[hatl]at a2;have hlen:(((((cs.drop (q.toNat*aU U s)).take (aU U s))).drop off).take ti.sz).length=ti.sz:=by rw[List.length_take,List.length_drop,hatl];omega
     obtain⟨u,hu,e1,e2⟩:=hva _ _ _ _ _ _ a1 hlen;subst ha;exact⟨_,u,e3,hu,fun w hw=>pa htk hlen e1 e2 (xU (hb g (by rw[hA];rfl) w hw) hd.length (by omega) a2)⟩
   ·rename_i v' s xs hl;cases hbq:Nat.beq v v' with
    |false=>rw[hbq]at h;exact h.elim
    |true=>
     rw[hbq]at h;obtain⟨x,hx,hix⟩:=jW h;obtain⟨l',hK,hs'⟩:=im hx;obtain⟨va,hv,ti',hti',hva⟩:=nP hK hT;rw[hti]at hti';injection hti' with hti';subst hti';refine⟨va,hv,fun u0 h0=>?_⟩;obtain⟨hm,cs,hd,hr,_,_⟩:=M.ent _ (am hl);obtain⟨_,a,e3,hn⟩:=h0;obtain⟨g,hA,ha,hq0,hq1⟩:=(hn _ _ _ (by rw[hl];rfl)).2 (Nat.eq_of_beq_eq_true hbq);injection e3 with e3;have hxq:=hix _ (List.getElem?_eq_getElem (show q.toNat<xs.length by omega));have hat:=hd.at q.toNat _ (List.getElem?_eq_getElem (show q.toNat<xs.length by omega));rw[←hxq]at hat;have hatl:=hat.length;obtain⟨a1,a2⟩:=hs' (aj ρ H++X) S ρ n H _ ⟨_,[],(List.append_nil _).symm,hatl,hat,rfl⟩;rw[hatl]at a2;have hlen:(((((cs.drop (q.toNat*aU U s)).take (aU U s))).drop off).take ti.sz).length=ti.sz:=by rw[List.length_take,List.length_drop,hatl];omega
     obtain⟨u,hu,e1,e2⟩:=hva _ _ _ _ _ _ a1 hlen;subst ha;exact⟨_,u,e3,hu,fun w hw=>pa htk hlen e1 e2 (zh (l:=xs.length) hr hA a2 hw)⟩
   ·exact h.elim
  ·rename_i i off k s q o;split at h
   ·rename_i l ty hl;obtain⟨la,h,hla⟩:=im h;obtain⟨(xs:List (TT U.ty s)),h,hxs⟩:=bQ h;obtain⟨x,hx,hix⟩:=jW h;obtain⟨l',hK,hs'⟩:=im hx;obtain⟨va,hv,ti',hti',hva⟩:=nP hK hT;rw[hti]at hti';injection hti' with hti';subst hti';refine⟨va,hv,fun u0 h0=>?_⟩;obtain⟨g,vs,hA,hs,hb⟩:=M.ent _ (am hl);obtain⟨_,_,hq0,hq1,g',hA',e3⟩:=h0;rw[hA]at hA';injection hA' with hA';injection hA' with hA';subst hA';injection e3 with e3;obtain⟨b1,b2⟩:=hla _ _ _ _ _ _ hs;obtain⟨hd1,hd2⟩:=aK.inv (hxs _ _ _ _ _ _ b1);have hqk:q.toNat<xs.length:=by have:xs.length=k:=hd2;omega
    have hxq:=hix _ (List.getElem?_eq_getElem hqk);have hat:=hd1.at q.toNat _ (List.getElem?_eq_getElem hqk);rw[←hxq]at hat;have hatl:=hat.length;obtain⟨a1,a2⟩:=hs' (aj ρ H++X) S ρ n H _ ⟨_,[],(List.append_nil _).symm,hatl,hat,rfl⟩;rw[hatl]at a2;have hlen:=show((((((vs.drop off).take (k*aU U s)).drop (q.toNat*aU U s)).take (aU U s)).drop o).take ti.sz).length=ti.sz by rw[List.length_take,List.length_drop,hatl];omega
    obtain⟨u,hu,e1,e2⟩:=hva _ _ _ _ _ _ a1 hlen;have hrow:=oM (m:=aU U s) (show q.toNat<k by omega);refine⟨_,u,e3,hu,fun w hw=>pa htk hlen e1 e2 ?_⟩;rw[iM (k:=aU U s) hrow,iM a2];exact nQ (hb w hw) _ _
   ·exact h.elim
  ·rename_i s x;cases hbq:Nat.beq ti.sz (aU U s)with
   |false=>rw[hbq]at h;exact h.elim
   |true=>
    rw[hbq]at h;have hsz:=Nat.eq_of_beq_eq_true hbq;obtain⟨va,hv,ti',hti',hva⟩:=nP h hT;rw[hti]at hti';injection hti' with hti';subst hti';refine⟨va,hv,fun u0 h0=>?_⟩;obtain⟨g,b,us,e3,hd,hr⟩:=h0;injection e3 with e3;have hl:=hd.length;obtain⟨u,hu,e1,e2⟩:=hva (aj ρ H++X) S ρ n H _ ⟨_,[],(List.append_nil _).symm,hl,hd,rfl⟩ (by omega);refine⟨_,u,e3,hu,fun w hw=>pa htk (by omega) e1 e2 ?_⟩;have:=(hr w hw).range 0 us.length;simpa using this
  ·exact h.elim
 ·exact h.elim
omit [ax]in
theorem wF{i v:Nat}(hc:ql H i v=true): ∃l m,bC (aL H i)=some (v,l,m):=by
 unfold ql at hc;split at hc
 ·rename_i hl;rw[hl];exact⟨_,_,by rw[Nat.eq_of_beq_eq_true hc];rfl⟩
 ·rename_i hl;rw[hl];exact⟨_,_,by rw[Nat.eq_of_beq_eq_true hc];rfl⟩
 ·cases hc
theorem wG{Y:List Nat}{i v off:Nat}{q:Int}{u:Value}(h:bn U Y S ρ n H (.pel i v q off) [u])(hc:ql H i v=true): ∃A,u= .pointer (some A):=by
 obtain⟨l,m,hr⟩:=wF hc;obtain⟨hi,a,e1,hn⟩:=h;injection e1 with e1;obtain⟨g,hA,ha,hq⟩:=(hn _ _ _ hr).2 rfl;exact⟨_,by rw[e1,ha]⟩
theorem Cf{t f:Nat}{x:Cx U}{K:Cx U→Prop}(h:FN T t f H x K)(hT:bO U P T): ∃c off,K c∧ga P t f=some off∧ ∀u0,bn U (aj ρ H++X) S ρ n H x [u0]→ ∃g k,u0= .pointer (some ⟨g,k,none⟩)∧bn U (aj ρ H++X) S ρ n H c [.pointer (some ⟨g,k+off,none⟩)]:=by
 unfold FN at h;split at h
 ·rename_i ti hti;have htk:=hT _ _ hti;split at h
  ·rename_i off ft hf;have hfo:=(htk.fs _ _ _ hf).1;split at h
   ·rename_i i o;refine⟨_,off,h,hfo,fun u0 h0=>?_⟩;obtain⟨hi,hr,g,hA,e1⟩:=h0;injection e1 with e1;exact⟨g,o,e1,hi,hr,g,hA,rfl⟩
   ·rename_i i v q o;cases hc:ql H i v with
    |false=>rw[hc]at h;exact h.elim
    |true=>
     rw[hc]at h;refine⟨_,off,h,hfo,fun u0 h0=>?_⟩;obtain⟨hi,a,e1,hn⟩:=h0;injection e1 with e1;obtain⟨l,m,hr⟩:=wF hc;obtain⟨g,hA,ha,hq⟩:=(hn _ _ _ hr).2 rfl;subst ha;refine⟨g,_,e1,hi,_,by rw[Nat.add_assoc],fun v' l' m' hr'=>?_⟩;rw[hr]at hr';injection hr' with hr';injection hr' with h1 hr';injection hr' with h2 h3;subst h1;subst h2;subst h3;exact⟨Nat.le_refl _,fun _=>⟨g,hA,rfl,hq⟩⟩
   ·rename_i i o k s q o';refine⟨_,off,h,hfo,fun u0 h0=>?_⟩;obtain⟨hi,hr,h1,h2,g,hA,e1⟩:=h0;injection e1 with e1;exact⟨g,_,e1,hi,hr,h1,h2,g,hA,by rw[Nat.add_assoc]⟩
   ·rename_i s y;split at h
    ·rename_i fi hfi;obtain⟨l',hK,hs'⟩:=im h;split at hK
     ·rename_i m s' y';cases hb:Nat.beq ti.sz (aU U s)with
      |false=>rw[hb]at hK;exact hK.elim
      |true=>
       rw[hb]at hK;refine⟨_,off,hK,hfo,fun u0 h0=>?_⟩;obtain⟨g,b,us,e1,hd,hr⟩:=h0;injection e1 with e1;obtain⟨a1,a2⟩:=hs' (aj ρ H++X) S ρ n H _ ⟨_,[],(List.append_nil _).symm,hd.length,hd,rfl⟩;refine⟨g,b,e1,g,b+off,_,rfl,a1.one1.1,fun w hw=>?_⟩;exact((hr w hw).drop off).take fi.sz
     ·exact hK.elim
    ·exact h.elim
   ·exact h.elim
  ·exact h.elim
 ·exact h.elim
end
end Go.Proofs.YtiliglahlfkikaaGreatDoor.V
end

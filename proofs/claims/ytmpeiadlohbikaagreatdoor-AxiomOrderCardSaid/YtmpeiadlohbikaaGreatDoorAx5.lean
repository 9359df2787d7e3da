/- The interpreter's looks are right: operations that only look. -/
import Derived.Test.YtmpeiadlohbikaaGreatDoorAx4
section
set_option linter.unusedVariables false
set_option linter.unusedSimpArgs false
namespace Go.Proofs.YtmpeiadlohbikaaGreatDoor.V
open Go.RowKit
class am where
 xf:List Nat
 pr:Program
def sC(Y:List Nat)(S:World→Prop)(A:Option Addr)(cs:List Value):Prop:= ∀w,S w→lH Y w A cs
mutual
inductive aC(U:bG)(Y:List Nat)(S:World→Prop):(s:aZ)→TT U.ty s→List Value→Prop
 |int (k:IntKind) (p:Int) (h:dq k p):aC U Y S (.int k) p [.int k p]
 |bool (b:Bool):aC U Y S .bool b [.bool b]
 |str (s:List UInt8) (h:s.length≤9223372036854775807):aC U Y S .str s [sv s]
 |st (i:Nat) (t:U.ty i) (vs:List Value) (h:bE U Y S (U.rd i).fs ((U.rd i).to t) vs) (hl:vs.length=(U.rd i).sz):aC U Y S (.st i) t vs
 |arr (n:Nat) (e:aZ) (xs:List (TT U.ty e)) (vs:List Value) (h:aT U Y S e xs vs) (hn:xs.length=n):aC U Y S (.arr n e) xs vs
 |sl (e:aZ) (xs:List (TT U.ty e)) (A:Option Addr) (c:Nat) (cs:List Value) (h:aT U Y S e xs cs) (hr:sC Y S A cs) (hc:xs.length≤c) (hm:c≤maxLen):aC U Y S (.sl e) xs [.slice A xs.length c]
inductive bE(U:bG)(Y:List Nat)(S:World→Prop):(fs:List (Nat×aZ))→uf U.ty fs→List Value→Prop
 |nil:bE U Y S [] () []
 |cons (k:Nat) (s:aZ) (r:List (Nat×aZ)) (a:TT U.ty s) (b:uf U.ty r) (vs us:List Value) (h:aC U Y S s a vs) (hl:vs.length=k) (hr:bE U Y S r b us):bE U Y S ((k,s)::r) (a,b) (vs++us)
inductive aT(U:bG)(Y:List Nat)(S:World→Prop):(e:aZ)→List (TT U.ty e)→List Value→Prop
 |nil (e:aZ):aT U Y S e [] []
 |cons (e:aZ) (x:TT U.ty e) (xs:List (TT U.ty e)) (vs us:List Value) (h:aC U Y S e x vs) (hl:vs.length=aM U e) (hr:aT U Y S e xs us):aT U Y S e (x::xs) (vs++us)
end
section
variable {U:bG} {Y:List Nat} {S:World→Prop}
def Gw(U:bG)(Y:List Nat)(S:World→Prop):(s:aZ)→TT U.ty s→List Value→Prop
 | .int k=>fun p vs=>vs= [.int k p]∧dq k p
 | .bool=>fun b vs=>vs= [.bool b]
 | .str=>fun s vs=>vs= [sv s]∧List.length (α:=UInt8) s≤9223372036854775807
 | .st i=>fun t vs=>bE U Y S (U.rd i).fs ((U.rd i).to t) vs∧vs.length=(U.rd i).sz
 | .arr n e=>fun xs vs=>aT U Y S e xs vs∧List.length (α:=TT U.ty e) xs=n
 | .sl e=>fun xs vs=> ∃A c cs,vs= [.slice A (List.length (α:=TT U.ty e) xs) c]∧aT U Y S e xs cs∧sC Y S A cs∧List.length (α:=TT U.ty e) xs≤c∧c≤maxLen
theorem aC.inv{s:aZ}{t:TT U.ty s}{vs:List Value}(h:aC U Y S s t vs):Gw U Y S s t vs:=by
 cases h with
 |int k p h=>exact⟨rfl,h⟩
 |bool b=>exact rfl
 |str s h=>exact⟨rfl,h⟩
 |st i t vs h hl=>exact⟨h,hl⟩
 |arr n e xs vs h hn=>exact⟨h,hn⟩
 |sl e xs A c cs h hr hc hm=>exact⟨A,c,cs,rfl,h,hr,hc,hm⟩
def BU(U:bG)(Y:List Nat)(S:World→Prop):(fs:List (Nat×aZ))→uf U.ty fs→List Value→Prop
 | [],_,vs=>vs= []
 |(k,s)::r,t,vs=> ∃v1 v2,vs=v1++v2∧aC U Y S s t.1 v1∧v1.length=k∧bE U Y S r t.2 v2
theorem bE.inv{fs:List (Nat×aZ)}{t:uf U.ty fs}{vs:List Value}(h:bE U Y S fs t vs):BU U Y S fs t vs:=by
 cases h with
 |nil=>exact rfl
 |cons k s r a b vs us h hl hr=>exact⟨vs,us,rfl,h,hl,hr⟩
theorem aT.nil_inv{e:aZ}{vs:List Value}(h:aT U Y S e [] vs):vs= []:=by cases h;rfl
theorem aT.cons_inv{e:aZ}{x:TT U.ty e}{xs:List (TT U.ty e)}{vs:List Value}(h:aT U Y S e (x::xs) vs): ∃v1 v2,vs=v1++v2∧aC U Y S e x v1∧v1.length=aM U e∧aT U Y S e xs v2:=by
 cases h with
 |cons e x xs vs us h hl hr=>exact⟨vs,us,rfl,h,hl,hr⟩
theorem aT.length{e:aZ}: ∀{xs:List (TT U.ty e)} {vs:List Value},aT U Y S e xs vs→vs.length=xs.length*aM U e
 | [],vs,h=>by rw[h.nil_inv];simp
 |x::xs,vs,h=>by
  obtain⟨v1,v2,rfl,_,hl,hr⟩:=h.cons_inv;rw[List.length_append,hl,aT.length hr,List.length_cons,Nat.add_mul,Nat.one_mul,Nat.add_comm]
theorem aC.length: ∀{s:aZ} {t:TT U.ty s} {vs:List Value},aC U Y S s t vs→vs.length=aM U s
 | .int k,t,vs,h=>by rw[h.inv.1];rfl
 | .bool,t,vs,h=>by have e:=h.inv;rw[show vs=_ from e];rfl
 | .str,t,vs,h=>by rw[h.inv.1];rfl
 | .st i,t,vs,h=>h.inv.2
 | .arr n e,t,vs,h=>by
  obtain⟨h1,h2⟩:=h.inv;have:=aT.length h1;rw[this,h2];rfl
 | .sl e,t,vs,h=>by obtain⟨A,c,cs,e,_⟩:=h.inv;rw[e];rfl
theorem aT.app{e:aZ}: ∀{xs ys:List (TT U.ty e)} {vs us:List Value},aT U Y S e xs vs→aT U Y S e ys us→aT U Y S e (xs++ys) (vs++us)
 | [],ys,vs,us,h,h'=>by rw[h.nil_inv];exact h'
 |x::xs,ys,vs,us,h,h'=>by
  obtain⟨v1,v2,rfl,h1,hl,hr⟩:=h.cons_inv;rw[List.append_assoc];exact .cons e x (xs++ys) v1 (v2++us) h1 hl (aT.app hr h')
theorem aT.at{e:aZ}: ∀{xs:List (TT U.ty e)} {vs:List Value},aT U Y S e xs vs→ ∀(q:Nat) (x:TT U.ty e),xs[q]? =some x→aC U Y S e x ((vs.drop (q*aM U e)).take (aM U e))
 | [],vs,h,q,x,hq=>by simp at hq
 |y::xs,vs,h,q,x,hq=>by
  obtain⟨v1,v2,rfl,h1,hl,hr⟩:=h.cons_inv;cases q with
  |zero=>
   simp only[List.getElem?_cons_zero,Option.some.injEq]at hq;subst hq;rw[Nat.zero_mul,List.drop_zero,List.take_append_of_le_length (by omega),List.take_of_length_le (by omega)];exact h1
  |succ q=>
   simp only[List.getElem?_cons_succ]at hq;have:=aT.at hr q x hq;rw[show(q+1)*aM U e=v1.length+q*aM U e by rw[Nat.add_mul,Nat.one_mul,hl,Nat.add_comm],List.drop_append,List.drop_of_length_le (by omega),List.nil_append,Nat.add_sub_cancel_left];exact this
theorem aT.set{e:aZ}: ∀{xs:List (TT U.ty e)} {vs:List Value},aT U Y S e xs vs→ ∀(q:Nat) (x:TT U.ty e) (us:List Value),aC U Y S e x us→q<xs.length→aT U Y S e (xs.set q x) (vs.take (q*aM U e)++us++vs.drop (q*aM U e+us.length))
 | [],vs,h,q,x,us,hx,hq=>by simp at hq
 |y::xs,vs,h,q,x,us,hx,hq=>by
  obtain⟨v1,v2,rfl,h1,hl,hr⟩:=h.cons_inv;have hul:=hx.length;cases q with
  |zero=>
   rw[Nat.zero_mul,List.take_zero,List.nil_append,Nat.zero_add,List.drop_append_of_le_length (by omega),List.drop_of_length_le (by omega),List.nil_append];exact .cons e x xs us v2 hx hul hr
  |succ q=>
   have ih:=aT.set hr q x us hx (by simpa using hq);have e1:(q+1)*aM U e=v1.length+q*aM U e:=by rw[Nat.add_mul,Nat.one_mul,hl,Nat.add_comm]
   rw[e1,List.take_length_add_append,Nat.add_assoc,List.drop_append,List.drop_of_length_le (by omega:v1.length≤v1.length+(q*aM U e+us.length)),List.nil_append,Nat.add_sub_cancel_left,List.append_assoc,List.append_assoc];refine .cons e y _ v1 _ h1 hl ?_;rw[←List.append_assoc];exact ih
def dv(ag:Bool)(v:Value)(vs:List Value):Prop:=match ag with
 |true=>v= .agg vs.toArray
 |false=>vs= [v]
def lR [am](Y:List Nat)(w w2:World):Prop:= ∃O,Fr O w w2∧ ∀o∈O,o∉am.xf∧(o∈Y∨w.heap.size≤o)
def Ji(u:Value):Prop:= ∃(f:FuncId) (ca:List Value),u= .func (.func f) #[] ca.toArray
def xZ [am](U:bG)(Y:List Nat)(S:World→Prop)(u:Value)(a:aZ)(g:TT U.ty a→Bool):Prop:=Ji u∧ ∀w,S w→ ∀w2,lR Y w w2→ ∀t vs v,aC U gB (· =w2) a t vs→dv (dR a) v vs→po am.pr u [v] w2 fun r w3=>r= .bool (g t)∧Fr [] w2 w3
def x3 [am](U:bG)(Y:List Nat)(S:World→Prop)(u:Value)(a b:aZ)(g:TT U.ty a→TT U.ty b→Int):Prop:=Ji u∧ ∀w,S w→ ∀w2,lR Y w w2→ ∀t vs v t' vs' v',aC U gB (· =w2) a t vs→dv (dR a) v vs→aC U gB (· =w2) b t' vs'→dv (dR b) v' vs'→po am.pr u [v,v'] w2 fun r w3=>r= .int .i64 (g t t')∧dq .i64 (g t t')∧Fr [] w2 w3
def Mv [am](Y:List Nat)(S:World→Prop)(Y':List Nat)(S':World→Prop):Prop:= ∀w',S' w'→ ∃w O,S w∧Fr O w w'∧(∀y∈O,y∈Y∧y∉am.xf)∧ ∀y∈Y',y∈Y∨w.heap.size≤y
theorem Mv.sub [am]{Y':List Nat}(h: ∀y∈Y',y∈Y):Mv Y S Y' S:=fun w' h'=>⟨w',[],h',Fr.refl _ _,fun _ hy=>(by cases hy),fun y hy=> .inl (h y hy)⟩
theorem Mv.fr [am]{Y':List Nat}{S':World→Prop}(m:Mv Y S Y' S'): ∀w',S' w'→ ∃w,S w∧Fr Y w w'∧ ∀y∈Y',y∈Y∨w.heap.size≤y:=fun w' h'=>by
 obtain⟨w,O,h1,h2,h3,h4⟩:=m w' h';exact⟨w,h1,h2.mono fun y hy=>(h3 y hy).1,h4⟩
theorem Mv.later [am]{Y':List Nat}{S':World→Prop}(m:Mv Y S Y' S'){w' w2:World}(h':S' w')(h:lR Y' w' w2): ∃w,S w∧lR Y w w2:=by
 obtain⟨w,O,h1,h2,h3,h4⟩:=m w' h';obtain⟨O',h5,h6⟩:=h;refine⟨w,h1,O++O',(h2.mono fun x hx=>List.mem_append_left _ hx).step h5 (fun y hy=> .inl (List.mem_append_right _ hy)),fun o ho=>?_⟩;rcases List.mem_append.1 ho with ho|ho
 ·exact⟨(h3 o ho).2,.inl (h3 o ho).1⟩
 ·refine⟨(h6 o ho).1,?_⟩;rcases(h6 o ho).2 with h|h
  ·exact h4 o h
  ·exact .inr (Nat.le_trans h2.size h)
theorem xZ.mv [am]{Y':List Nat}{S':World→Prop}(m:Mv Y S Y' S'){u:Value}{a:aZ}{g:TT U.ty a→Bool}(h:xZ U Y S u a g):xZ U Y' S' u a g:=⟨h.1,fun w' hw' w2 h2=>by
 obtain⟨w,h3,h4⟩:=m.later hw' h2;exact h.2 w h3 w2 h4⟩
theorem x3.mv [am]{Y':List Nat}{S':World→Prop}(m:Mv Y S Y' S'){u:Value}{a b:aZ}{g:TT U.ty a→TT U.ty b→Int}(h:x3 U Y S u a b g):x3 U Y' S' u a b g:=⟨h.1,fun w' hw' w2 h2=>by
 obtain⟨w,h3,h4⟩:=m.later hw' h2;exact h.2 w h3 w2 h4⟩
theorem sC.mv [am]{Y':List Nat}{S':World→Prop}{A:Option Addr}{cs:List Value}(h:sC Y S A cs)(m:Mv Y S Y' S'):sC Y' S' A cs:=fun w' hw'=>by
 obtain⟨w,hw,hf,hY⟩:=m.fr w' hw';exact(h w hw).stable hf hY
end
mutual
theorem aC.mv [am]{U:bG}{Y Y':List Nat}{S S':World→Prop}(m:Mv Y S Y' S'){s:aZ}{t:TT U.ty s}{vs:List Value}:aC U Y S s t vs→aC U Y' S' s t vs
 | .int k p h=> .int k p h
 | .bool b=> .bool b
 | .str s h=> .str s h
 | .st i t vs h hl=> .st i t vs (bE.mv m h) hl
 | .arr n e xs vs h hn=> .arr n e xs vs (aT.mv m h) hn
 | .sl e xs A c cs h hr hc hm=> .sl e xs A c cs (aT.mv m h) (hr.mv m) hc hm
theorem bE.mv [am]{U:bG}{Y Y':List Nat}{S S':World→Prop}(m:Mv Y S Y' S'){fs:List (Nat×aZ)}{t:uf U.ty fs}{vs:List Value}:bE U Y S fs t vs→bE U Y' S' fs t vs
 | .nil=> .nil
 | .cons k s r a b vs us h hl hr=> .cons k s r a b vs us (aC.mv m h) hl (bE.mv m hr)
theorem aT.mv [am]{U:bG}{Y Y':List Nat}{S S':World→Prop}(m:Mv Y S Y' S'){e:aZ}{xs:List (TT U.ty e)}{vs:List Value}:aT U Y S e xs vs→aT U Y' S' e xs vs
 | .nil e=> .nil e
 | .cons e x xs vs us h hl hr=> .cons e x xs vs us (aC.mv m h) hl (aT.mv m hr)
end
end Go.Proofs.YtmpeiadlohbikaaGreatDoor.V
end

section
set_option linter.unusedVariables false
set_option linter.unusedSimpArgs false
namespace Go.Proofs.YtmpeiadlohbikaaGreatDoor.V
open Go.RowKit
mutual
theorem aC.one{U:bG}{Y:List Nat}{S:World→Prop}{s:aZ}{t:TT U.ty s}{vs:List Value}:aC U Y S s t vs→ ∀v∈vs,v.oneCell'=true
 | .int k p h=>by simp[Value.oneCell']
 | .bool b=>by simp[Value.oneCell']
 | .str s h=>by simp[Value.oneCell']
 | .st i t vs h hl=>bE.one h
 | .arr n e xs vs h hn=>aT.one h
 | .sl e xs A c cs h hr hc hm=>by simp[Value.oneCell']
theorem bE.one{U:bG}{Y:List Nat}{S:World→Prop}{fs:List (Nat×aZ)}{t:uf U.ty fs}{vs:List Value}:bE U Y S fs t vs→ ∀v∈vs,v.oneCell'=true
 | .nil=>by simp
 | .cons k s r a b vs us h hl hr=>fun v hv=>(List.mem_append.1 hv).elim (aC.one h v) (bE.one hr v)
theorem aT.one{U:bG}{Y:List Nat}{S:World→Prop}{e:aZ}{xs:List (TT U.ty e)}{vs:List Value}:aT U Y S e xs vs→ ∀v∈vs,v.oneCell'=true
 | .nil e=>by simp
 | .cons e x xs vs us h hl hr=>fun v hv=>(List.mem_append.1 hv).elim (aC.one h v) (aT.one hr v)
end
structure Rz where
 A:Option Addr
 c:Nat
section
variable [am] {U:bG}
def bk:Option (aJ U)→Option (Nat×Nat×Nat)
 |some (.row v e xs _)=>some (v,xs.length,aM U e)
 |some (.frz v e xs)=>some (v,xs.length,aM U e)
 |some (.hid v l m)=>some (v,l,m)
 |_=>none
def oA(H:Hs U)(i v:Nat)(Q:Nat→Nat→Prop):Prop:= ∀v' l m,bk (aD H i)=some (v',l,m)→v≤v'∧(v=v'→Q l m)
def bd(U:bG)(Y:List Nat)(S:World→Prop)(ρ:Nat→Rz)(n:Nat)(H:Hs U):Cx U→List Value→Prop
 | .d s t,vs=>aC U Y S s t vs
 | .own i v,vs=>i<n∧ ∃A l c,vs= [.slice A l c]∧oA H i v fun len _=>A=(ρ i).A∧l=len∧c=(ρ i).c
 | .ptr i off,vs=>i<n∧bk (aD H i)=none∧ ∃g,(ρ i).A=some ⟨g,0,none⟩∧vs= [.pointer (some ⟨g,off,none⟩)]
 | .pel i v q off,vs=>i<n∧ ∃a,vs= [.pointer a]∧oA H i v fun len m=> ∃g,(ρ i).A=some ⟨g,0,none⟩∧a=some ⟨g,q.toNat*m+off,none⟩∧0≤q∧q<len
 | .pax i off m s q o,vs=>i<n∧bk (aD H i)=none∧0≤q∧q<m∧ ∃g,(ρ i).A=some ⟨g,0,none⟩∧vs= [.pointer (some ⟨g,off+q.toNat*aM U s+o,none⟩)]
 | .pd s t,vs=> ∃g b us,vs= [.pointer (some ⟨g,b,none⟩)]∧aC U Y S s t us∧sC Y S (some ⟨g,b,none⟩) us
 | .nilp,vs=>vs= [.pointer none]
 | .nils,vs=>vs= [.slice none 0 0]
 | .nilf,vs=>vs= [.nilFunc]
 | .nilm,vs=>vs= [.map none]
 | .fn f,vs=>vs= [.func (.func f) #[] #[]]
 | .clo f js,vs=>vs= [.func (.func f) #[] (js.map fun j=>Value.pointer (ρ j).A).toArray]∧ ∀j∈js,j<n∧bk (aD H j)=none∧ ∃g,(ρ j).A=some ⟨g,0,none⟩
 | .f1 a g,vs=> ∃u,vs= [u]∧xZ U Y S u a g
 | .f2 a b g,vs=> ∃u,vs= [u]∧x3 U Y S u a b g
 | .mp i,vs=>i<n∧bk (aD H i)=none∧ ∃g,(ρ i).A=some ⟨g,0,none⟩∧vs= [.map (some g)]
 | .un,vs=> ∃u,vs= [u]∧u.oneCell'=true
def bI(V:Cx U→List Value→Prop):List (bU U)→List Value→Prop
 | [],vs=>vs= []
 |(k,x)::r,vs=> ∃v1 v2,vs=v1++v2∧v1.length=k∧V x v1∧bI V r v2
omit [am]in
theorem lS{α:Type} [Inhabited α]{l:List α}{q:Int}{y:α}(h:l[q.toNat]? =some y):ix l q=y:=by unfold ix;rw[h];rfl
omit [am]in
theorem iv{s:aZ}{l:List (TT U.ty s)}{q:Int}{K:TT U.ty s→Prop}(h:xX U s l q K): ∃x,K x∧ ∀y,l[q.toNat]? =some y→x=y:=by
 cases s with
 |st i=>exact(U.rd i).ixK_ok l q K h
 |int k=>exact⟨_,h,fun y hy=>lS (α:=Int) hy⟩
 |bool=>exact⟨_,h,fun y hy=>lS (α:=Bool) hy⟩
 |str=>exact⟨_,h,fun y hy=>lS (α:=List UInt8) hy⟩
 |arr k e=>exact⟨_,h,fun y hy=>lS (α:=List (TT U.ty e)) hy⟩
 |sl e=>exact⟨_,h,fun y hy=>lS (α:=List (TT U.ty e)) hy⟩
omit [am]in
theorem lT: ∀{k k':IntKind},jJ k k'=true→k=k':=by
 intro k k';cases k<;>cases k'<;>simp[jJ]
omit [am]in
theorem sD: ∀{ty:Nat→Type} {F:Type→Type} {i j:Nat} {t:F (ty i)} {u:F (ty j)},nB ty F i j t=some u→i=j∧HEq t u
 |ty,F,0,0,t,u,h=>by simp only[nB,Option.some.injEq]at h;exact⟨rfl,heq_of_eq h⟩
 |ty,F,i+1,j+1,t,u,h=>by
  obtain⟨h1,h2⟩:=sD (ty:=fun n=>ty (n+1)) (by simpa only[nB]using h);subst h1;exact⟨rfl,h2⟩
 |ty,F,0,j+1,t,u,h=>by simp[nB]at h
 |ty,F,i+1,0,t,u,h=>by simp[nB]at h
omit [am]in
theorem ia{α:Type}{u:α}{p:Prop}(h:(none:Option α)=some u):p:=by cases h
omit [am]in
theorem di{ty:Nat→Type}: ∀(s s':aZ) (F:Type→Type) (t:F (TT ty s)) (u:F (TT ty s')),ew ty F s s' t=some u→s=s'∧HEq t u:=by
 intro s;induction s with
 |int k=>
  intro s' F t u h;cases s' with
  |int k'=>
   have h:(bif jJ k k' then some t else none)=some u:=h;cases hk:jJ k k' with
   |false=>rw[hk]at h;exact ia h
   |true=>rw[hk]at h;have:=lT hk;subst this;injection h with h;exact⟨rfl,heq_of_eq h⟩
  |_=>exact ia (show none=some u from h)
 |bool=>
  intro s' F t u h;cases s' with
  |bool=>have h:some t=some u:=h;injection h with h;exact⟨rfl,heq_of_eq h⟩
  |_=>exact ia (show none=some u from h)
 |str=>
  intro s' F t u h;cases s' with
  |str=>have h:some t=some u:=h;injection h with h;exact⟨rfl,heq_of_eq h⟩
  |_=>exact ia (show none=some u from h)
 |st i=>
  intro s' F t u h;cases s' with
  |st j=>
   have h:nB ty F i j t=some u:=h;obtain⟨h1,h2⟩:=sD h;subst h1;exact⟨rfl,h2⟩
  |_=>exact ia (show none=some u from h)
 |arr n e ih=>
  intro s' F t u h;cases s' with
  |arr m e'=>
   have h:(bif Nat.beq n m then ew ty (fun x=>F (List x)) e e' t else none)=some u:=h;cases hn:Nat.beq n m with
   |false=>rw[hn]at h;exact ia h
   |true=>
    rw[hn]at h;have hnm:=Nat.eq_of_beq_eq_true hn;obtain⟨h1,h2⟩:=ih e' (fun x=>F (List x)) t u h;subst h1;subst hnm;exact⟨rfl,h2⟩
  |_=>exact ia (show none=some u from h)
 |sl e ih=>
  intro s' F t u h;cases s' with
  |sl e'=>
   have h:ew ty (fun x=>F (List x)) e e' t=some u:=h;obtain⟨h1,h2⟩:=ih e' (fun x=>F (List x)) t u h;subst h1;exact⟨rfl,h2⟩
  |_=>exact ia (show none=some u from h)
abbrev lU(U:bG)(Q:(Cx U→List Value→Prop)→(Y:List Nat)→(World→Prop)→Prop):Prop:= ∀Y S ρ n H,Q (bd U Y S ρ n H) Y S
theorem vG: ∀{fs:List (Nat×aZ)} {t:uf U.ty fs} {K:List (bU U)→Prop},Gc fs t K→ ∃l,K l∧lU U fun V Y S=> ∀vs,bE U Y S fs t vs→bI V l vs
 | [],t,K,h=>⟨[],h,fun _ _ _ _ _ _ hd=>hd.inv⟩
 |(k,s)::r,(a,b),K,h=>by
  obtain⟨l,hK,hs⟩:=vG (fs:=r) h;refine⟨_,hK,fun Y S ρ n H vs hd=>?_⟩;obtain⟨v1,v2,rfl,h1,hl,hr⟩:=hd.inv;exact⟨v1,v2,rfl,hl,h1,hs Y S ρ n H _ hr⟩
theorem vH{e:aZ}{m:Nat}{xs:List (TT U.ty e)}(hm:m=aM U e): ∀{k j:Nat} {K:List (bU U)→Prop},Jf e m xs k j K→ ∃l,K l∧lU U fun V Y S=> ∀vs,aT U Y S e (xs.drop j) vs→(xs.drop j).length=k→bI V l vs
 |0,j,K,h=>⟨[],h,fun Y S ρ n H vs hd hl=>by
  have:xs.drop j= []:=List.eq_nil_of_length_eq_zero hl;rw[this]at hd;exact hd.nil_inv⟩
 |k+1,j,K,h=>by
  obtain⟨x,hx,he⟩:=iv (show xX U e xs (j:Int) _ from h);obtain⟨l,hK,hs⟩:=vH hm (k:=k) hx;refine⟨_,hK,fun Y S ρ n H vs hd hl=>?_⟩;have hj:j<xs.length:=by rw[List.length_drop]at hl;omega
  have hx0:=he xs[j] (by rw[Int.toNat_natCast];exact List.getElem?_eq_getElem hj);rw[List.drop_eq_getElem_cons hj]at hd hl;obtain⟨v1,v2,rfl,h1,hl1,hr⟩:=hd.cons_inv;exact⟨v1,v2,rfl,by rw[hl1,hm],by rw[hx0];exact h1,hs Y S ρ n H _ hr (by rw[List.length_cons]at hl;omega)⟩
theorem lV{x:Cx U}{K:List (bU U)→Prop}(h:lP x K): ∃l,K l∧lU U fun V Y S=> ∀vs,V x vs→bI V l vs:=by
 unfold lP at h;split at h
 ·rename_i i t;obtain⟨l,hK,hs⟩:=vG ((U.rd i).toK_ok _ _ h);exact⟨l,hK,fun Y S ρ n H vs hx=>hs Y S ρ n H vs (show aC U Y S (.st i) t vs from hx).inv.1⟩
 ·rename_i k e xs;obtain⟨l,hK,hs⟩:=vH rfl h;exact⟨l,hK,fun Y S ρ n H vs hx=>by
   have hd:=(show aC U Y S (.arr k e) xs vs from hx).inv;exact hs Y S ρ n H vs hd.1 hd.2⟩
 ·exact h.elim
omit [am]in
theorem n4{l l':List (bU U)}{K:List (bU U)→Prop}:qS l l' K→K (l++l'):=by
 induction l generalizing K with
 |nil=>exact fun h=>h
 |cons x r ih=>exact fun h=>ih (K:=fun r=>K (x::r)) h
omit [am]in
theorem bI.app{V:Cx U→List Value→Prop}: ∀{l l':List (bU U)} {vs us:List Value},bI V l vs→bI V l' us→bI V (l++l') (vs++us)
 | [],l',vs,us,h,h'=>by rw[show vs= []from h];exact h'
 |(k,x)::r,l',vs,us,h,h'=>by
  obtain⟨v1,v2,rfl,hl,hx,hr⟩:=h;exact⟨v1,v2++us,List.append_assoc ..,hl,hx,bI.app hr h'⟩
theorem fF: ∀{f:Nat} {l:List (bU U)} {k:Nat} {K:List (bU U)→Prop},gE f l k K→ ∃l',K l'∧lU U fun V Y S=> ∀vs,bI V l vs→bI V l' (vs.drop k)∧k≤vs.length
 |0,l,k,K,h=>h.elim
 |f+1,l,0,K,h=>⟨l,h,fun _ _ _ _ _ vs hs=>⟨hs,Nat.zero_le _⟩⟩
 |f+1,[],k+1,K,h=>h.elim
 |f+1,(m,x)::r,k+1,K,h=>by
  have h:(bif Nat.ble m (k+1)then gE f r (k+1 - m) K else lP x fun l'=>qS l' r fun l''=>gE f l'' (k+1) K):=h;cases hb:Nat.ble m (k+1)with
  |true=>
   rw[hb]at h;have hle:=Nat.le_of_ble_eq_true hb;obtain⟨l',hK,hs'⟩:=fF (f:=f) h;refine⟨l',hK,fun Y S ρ n H vs hs=>?_⟩;obtain⟨v1,v2,rfl,hl,hx,hr⟩:=hs;obtain⟨h1,h2⟩:=hs' Y S ρ n H _ hr;refine⟨?_,by rw[List.length_append];omega⟩;rw[List.drop_append,List.drop_of_length_le (by omega),List.nil_append,hl];exact h1
  |false=>
   rw[hb]at h;obtain⟨l',hK,hs'⟩:=lV h;obtain⟨l2,hK2,hs2⟩:=fF (f:=f) (n4 hK);refine⟨l2,hK2,fun Y S ρ n H vs hs=>?_⟩;obtain⟨v1,v2,rfl,hl,hx,hr⟩:=hs;exact hs2 Y S ρ n H _ ((hs' Y S ρ n H _ hx).app hr)
theorem gF: ∀{f:Nat} {l:List (bU U)} {k:Nat} {K:List (bU U)→Prop},tK f l k K→ ∃l',K l'∧lU U fun V Y S=> ∀vs,bI V l vs→bI V l' (vs.take k)∧k≤vs.length
 |0,l,k,K,h=>h.elim
 |f+1,l,0,K,h=>⟨[],h,fun _ _ _ _ _ vs hs=>⟨by simp[bI],Nat.zero_le _⟩⟩
 |f+1,[],k+1,K,h=>h.elim
 |f+1,(m,x)::r,k+1,K,h=>by
  have h:(bif Nat.ble m (k+1)then tK f r (k+1 - m) fun r'=>K ((m,x)::r')else lP x fun l'=>tK f l' (k+1) K):=h;cases hb:Nat.ble m (k+1)with
  |true=>
   rw[hb]at h;have hle:=Nat.le_of_ble_eq_true hb;obtain⟨l',hK,hs'⟩:=gF (f:=f) h;refine⟨_,hK,fun Y S ρ n H vs hs=>?_⟩;obtain⟨v1,v2,rfl,hl,hx,hr⟩:=hs;obtain⟨h1,h2⟩:=hs' Y S ρ n H _ hr;refine⟨⟨v1,_,?_,hl,hx,h1⟩,by rw[List.length_append];omega⟩;rw[List.take_append,List.take_of_length_le (by omega),hl]
  |false=>
   rw[hb]at h;have hgt:k+1<m:=by
    rcases Nat.lt_or_ge (k+1) m with h'|h'
    ·exact h'
    ·rw[Nat.ble_eq_true_of_le h']at hb;cases hb
   obtain⟨l',hK,hs'⟩:=lV h;obtain⟨l2,hK2,hs2⟩:=gF (f:=f) hK;refine⟨l2,hK2,fun Y S ρ n H vs hs=>?_⟩;obtain⟨v1,v2,rfl,hl,hx,hr⟩:=hs;obtain⟨h1,h2⟩:=hs2 Y S ρ n H _ (hs' Y S ρ n H _ hx);refine⟨?_,by rw[List.length_append];omega⟩;rw[List.take_append_of_le_length h2];exact h1
theorem i7: ∀{f:Nat} {l new:List (bU U)} {off k:Nat} {K:List (bU U)→Prop},qT f l off k new K→
  ∃l',K l'∧lU U fun V Y S=> ∀vs us,bI V l vs→bI V new us→us.length=k→bI V l' (vs.take off++us++vs.drop (off+us.length))∧off+us.length≤vs.length
 |0,l,new,off,k,K,h=>h.elim
 |f+1,l,new,0,k,K,h=>by
  have h:gE 40 l k fun r=>qS new r K:=h;obtain⟨l',hK,hs'⟩:=fF h;refine⟨_,n4 hK,fun Y S ρ n H vs us hs hn hk=>?_⟩;obtain⟨h1,h2⟩:=hs' Y S ρ n H _ hs;refine⟨?_,by omega⟩;rw[List.take_zero,List.nil_append,Nat.zero_add,hk];exact hn.app h1
 |f+1,[],new,off+1,k,K,h=>h.elim
 |f+1,(m,x)::r,new,off+1,k,K,h=>by
  have h:(bif Nat.ble m (off+1)then qT f r (off+1 - m) k new fun r'=>K ((m,x)::r')else lP x fun l'=>qS l' r fun l''=>qT f l'' (off+1) k new K):=h;cases hb:Nat.ble m (off+1)with
  |true=>
   rw[hb]at h;have hle:=Nat.le_of_ble_eq_true hb;obtain⟨l',hK,hs'⟩:=i7 (f:=f) h;refine⟨_,hK,fun Y S ρ n H vs us hs hn hk=>?_⟩;obtain⟨v1,v2,rfl,hl,hx,hr⟩:=hs;obtain⟨h1,h2⟩:=hs' Y S ρ n H _ _ hr hn hk;refine⟨⟨v1,_,?_,hl,hx,h1⟩,by rw[List.length_append];omega⟩;rw[List.take_append,List.take_of_length_le (by omega),List.drop_append,List.drop_of_length_le (by omega),List.nil_append,hl,List.append_assoc,List.append_assoc,List.append_assoc,show off+1+us.length - m=off+1 - m+us.length by omega]
  |false=>
   rw[hb]at h;obtain⟨l',hK,hs'⟩:=lV h;obtain⟨l2,hK2,hs2⟩:=i7 (f:=f) (n4 hK);refine⟨l2,hK2,fun Y S ρ n H vs us hs hn hk=>?_⟩;obtain⟨v1,v2,rfl,hl,hx,hr⟩:=hs;exact hs2 Y S ρ n H _ _ ((hs' Y S ρ n H _ hx).app hr) hn hk
theorem fG{l:List (bU U)}{off k:Nat}{K:List (bU U)→Prop}(h:lQ l off k K): ∃l',K l'∧lU U fun V Y S=> ∀vs,bI V l vs→bI V l' ((vs.drop off).take k)∧off+k≤vs.length:=by
 obtain⟨l1,h1,hs1⟩:=fF (show gE 40 l off _ from h);obtain⟨l2,h2,hs2⟩:=gF h1;refine⟨l2,h2,fun Y S ρ n H vs hs=>?_⟩;obtain⟨a1,a2⟩:=hs1 Y S ρ n H _ hs;obtain⟨b1,b2⟩:=hs2 Y S ρ n H _ a1;rw[List.length_drop]at b2;exact⟨b1,by omega⟩
omit [am]in
theorem bI.one1{V:Cx U→List Value→Prop}{k:Nat}{x:Cx U}{vs:List Value}(h:bI V [(k,x)] vs):V x vs∧vs.length=k:=by
 obtain⟨v1,v2,rfl,hl,hx,hr⟩:=h;rw[show v2= []from hr,List.append_nil];exact⟨hx,hl⟩
theorem qe{s:aZ}{l:List (bU U)}{K:TT U.ty s→Prop}(h:d1 s l K): ∃t,K t∧lU U fun V Y S=> ∀vs,bI V l vs→aC U Y S s t vs:=by
 unfold d1 at h;split at h
 ·rename_i k s' t;split at h
  ·rename_i u hc;obtain⟨h1,h2⟩:=di _ _ _ _ _ hc;subst h1;have h2:t=u:=eq_of_heq h2;subst h2;exact⟨t,h,fun Y S ρ n H vs hs=>hs.one1.1⟩
  ·exact h.elim
 ·exact h.elim
theorem sE{g:(s:aZ)→List (bU U)→(TT U.ty s→Prop)→Prop}(hg: ∀s l K,g s l K→ ∃t,K t∧lU U fun V Y S=> ∀vs,bI V l vs→aC U Y S s t vs):
  ∀{fs:List (Nat×aZ)} {l:List (bU U)} {K:uf U.ty fs→Prop},vC g fs l K→ ∃t:uf U.ty fs,K t∧lU U fun V Y S=> ∀vs,bI V l vs→ ∃us r:List Value,bE U Y S fs t us∧vs=us++r∧us.length=(fs.map (·.1)).sum
 | [],l,K,h=>⟨(),h,fun _ _ _ _ _ vs hs=>⟨[],vs,.nil,rfl,rfl⟩⟩
 |(k,s)::r,l,K,h=>by
  obtain⟨l1,h1,hs1⟩:=gF (show tK 40 l k _ from h);obtain⟨a,h2,hd⟩:=hg s l1 _ h1;obtain⟨l2,h3,hs3⟩:=fF h2;obtain⟨b,h4,h5⟩:=sE hg (fs:=r) h3;refine⟨(a,b),h4,fun Y S ρ n H vs hs=>?_⟩;obtain⟨a1,a2⟩:=hs1 Y S ρ n H _ hs;obtain⟨b1,b2⟩:=hs3 Y S ρ n H _ hs;obtain⟨us,q,hd4,hq,hlen⟩:=h5 Y S ρ n H _ b1;have htl:(vs.take k).length=k:=by rw[List.length_take];omega
  refine⟨vs.take k++us,q,.cons k s r a b _ _ (hd Y S ρ n H _ a1) htl hd4,?_,?_⟩
  ·rw[List.append_assoc,←hq,List.take_append_drop]
  ·rw[List.length_append,htl,hlen];rfl
omit [am]in
theorem bI.len{V:Cx U→List Value→Prop}: ∀{l:List (bU U)} {vs:List Value},bI V l vs→vs.length=jK l
 | [],vs,h=>by rw[show vs= []from h];rfl
 |(k,x)::r,vs,h=>by
  obtain⟨v1,v2,rfl,hl,_,hr⟩:=h;rw[List.length_append,hl,bI.len hr];rfl
theorem sF{e:aZ}{g:List (bU U)→(TT U.ty e→Prop)→Prop}(hg: ∀l K,g l K→ ∃t,K t∧lU U fun V Y S=> ∀vs,bI V l vs→aC U Y S e t vs):
  ∀{k:Nat} {l:List (bU U)} {K:List (TT U.ty e)→Prop},vD g (aM U e) k l K→ ∃xs:List (TT U.ty e),K xs∧lU U fun V Y S=> ∀vs,bI V l vs→ ∃us r:List Value,aT U Y S e xs us∧vs=us++r∧xs.length=k
 |0,l,K,h=>⟨[],h,fun _ _ _ _ _ vs hs=>⟨[],vs,.nil e,rfl,rfl⟩⟩
 |k+1,l,K,h=>by
  have h:tK 40 l (aM U e) (fun l1=>g l1 fun a=>gE 40 l (aM U e) fun l2=>vD g (aM U e) k l2 fun b=>K (a::b)):=h;obtain⟨l1,h1,hs1⟩:=gF h;obtain⟨a,h2,hd⟩:=hg l1 _ h1;obtain⟨l2,h3,hs3⟩:=fF h2;obtain⟨xs,h4,h5⟩:=sF hg (k:=k) h3;refine⟨a::xs,h4,fun Y S ρ n H vs hs=>?_⟩;obtain⟨a1,a2⟩:=hs1 Y S ρ n H _ hs;obtain⟨b1,b2⟩:=hs3 Y S ρ n H _ hs;obtain⟨us,q,hd4,hq,hlen⟩:=h5 Y S ρ n H _ b1;have htl:(vs.take (aM U e)).length=aM U e:=by rw[List.length_take];omega
  refine⟨vs.take (aM U e)++us,q,.cons e a xs _ _ (hd Y S ρ n H _ a1) htl hd4,?_,by rw[List.length_cons,hlen]⟩;rw[List.append_assoc,←hq,List.take_append_drop]
theorem bq: ∀{f:Nat} {s:aZ} {l:List (bU U)} {K:TT U.ty s→Prop},cl f s l K→ ∃t,K t∧lU U fun V Y S=> ∀vs,bI V l vs→aC U Y S s t vs
 |0,s,l,K,h=>h.elim
 |f+1,.int k,l,K,h=>qe (s:= .int k) h
 |f+1,.bool,l,K,h=>qe (s:= .bool) h
 |f+1,.str,l,K,h=>qe (s:= .str) h
 |f+1,.sl e,l,K,h=>by
  have h:(match (generalizing:=false) l with
   |(_,.nils):: []=>K ([]:List (TT U.ty e))
   |_=>d1 (.sl e) l K):=h
  split at h
  ·refine⟨[],h,fun Y S ρ n H vs hs=>?_⟩;have hv:=hs.one1.1;rw[show vs= [.slice none 0 0]from hv];exact .sl e [] none 0 [] (.nil e) (fun w _=>lH.nil) (Nat.le_refl _) (Nat.zero_le _)
  ·exact qe h
 |f+1,.st i,l,K,h=>by
  have h:(match (generalizing:=false) l with
   |(_,.d (.st j) t):: []=>d1 (.st i) l K
   |_=>bif Nat.beq (jK l) (U.rd i).sz then vC (cl f) (U.rd i).fs l fun a=>(U.rd i).ofK a K else False):=h
  split at h
  ·exact qe h
  ·cases hb:Nat.beq (jK l) (U.rd i).sz with
   |false=>rw[hb]at h;exact h.elim
   |true=>
    rw[hb]at h;have hb:=Nat.eq_of_beq_eq_true hb;obtain⟨a,h1,h2⟩:=sE (fun s l K h=>bq (f:=f) h) h;obtain⟨x,hx,hto⟩:=(U.rd i).ofK_ok a K h1;refine⟨x,hx,fun Y S ρ n H vs hs=>?_⟩;obtain⟨us,r,hd,hq,hlen⟩:=h2 Y S ρ n H _ hs;have hvl:=hs.len;have hr:r= []:=by
     have:=congrArg List.length hq;rw[List.length_append,hlen,(U.rd i).sz_ok]at this;exact List.eq_nil_of_length_eq_zero (by omega)
    subst hr;rw[List.append_nil]at hq;subst hq;exact .st i x vs (by rw[hto];exact hd) (by omega)
 |f+1,.arr k e,l,K,h=>by
  have h:(match (generalizing:=false) l with
   |(_,.d (.arr _ _) _):: []=>d1 (.arr k e) l K
   |_=>bif Nat.beq (jK l) (k*aM U e)then vD (cl f e) (aM U e) k l K else False):=h
  split at h
  ·exact qe h
  ·cases hb:Nat.beq (jK l) (k*aM U e)with
   |false=>rw[hb]at h;exact h.elim
   |true=>
    rw[hb]at h;have hb:=Nat.eq_of_beq_eq_true hb;obtain⟨xs,h1,h2⟩:=sF (fun l K h=>bq (f:=f) h) h;refine⟨xs,h1,fun Y S ρ n H vs hs=>?_⟩;obtain⟨us,r,hd,hq,hlen⟩:=h2 Y S ρ n H _ hs;have hvl:=hs.len;have hr:r= []:=by
     have:=congrArg List.length hq;rw[List.length_append,hd.length,hlen]at this;exact List.eq_nil_of_length_eq_zero (by omega)
    subst hr;rw[List.append_nil]at hq;subst hq;exact .arr k e xs vs hd hlen
variable {Y:List Nat} {S:World→Prop} {ρ:Nat→Rz} {n:Nat} {H:Hs U}
theorem bd.one{x:Cx U}{vs:List Value}(h:bd U Y S ρ n H x vs): ∀v∈vs,v.oneCell'=true:=by
 cases x with
 |d s t=>exact aC.one h
 |own i v=>obtain⟨_,A,l,c,rfl,_⟩:=h;simp[Value.oneCell']
 |ptr i off=>obtain⟨_,_,g,_,rfl⟩:=h;simp[Value.oneCell']
 |pel i v q off=>obtain⟨_,a,rfl,_⟩:=h;simp[Value.oneCell']
 |pax i off m s q o=>obtain⟨_,_,_,_,g,_,rfl⟩:=h;simp[Value.oneCell']
 |pd s t=>obtain⟨g,b,us,rfl,_⟩:=h;simp[Value.oneCell']
 |nilp=>rw[show vs=_ from h];simp[Value.oneCell']
 |nils=>rw[show vs=_ from h];simp[Value.oneCell']
 |nilf=>rw[show vs=_ from h];simp[Value.oneCell']
 |nilm=>rw[show vs=_ from h];simp[Value.oneCell']
 |fn f=>rw[show vs=_ from h];simp[Value.oneCell']
 |clo f js=>rw[h.1];simp[Value.oneCell']
 |f1 a g=>obtain⟨u,rfl,⟨f,fi,ca,rfl⟩,_⟩:=h;simp[Value.oneCell']
 |f2 a b g=>obtain⟨u,rfl,⟨f,fi,ca,rfl⟩,_⟩:=h;simp[Value.oneCell']
 |mp i=>obtain⟨_,_,g,_,rfl⟩:=h;simp[Value.oneCell']
 |un=>obtain⟨u,rfl,h1⟩:=h;simpa using h1
theorem bI.one: ∀{l:List (bU U)} {vs:List Value},bI (bd U Y S ρ n H) l vs→ ∀v∈vs,v.oneCell'=true
 | [],vs,h=>by rw[show vs= []from h];simp
 |(k,x)::r,vs,h=>by
  obtain⟨v1,v2,rfl,hl,hx,hr⟩:=h;exact fun v hv=>(List.mem_append.1 hv).elim (hx.one v) (bI.one hr v)
end
end Go.Proofs.YtmpeiadlohbikaaGreatDoor.V
end

section
set_option linter.unusedVariables false
set_option linter.unusedSimpArgs false
namespace Go.Proofs.YtmpeiadlohbikaaGreatDoor.V
open Go.RowKit
section
variable [am] {U:bG}
def B7(P:Program)(U:bG)(d:KD U):Prop:= @eV _ d.dec P d.kt d.enc∧(∀Y S x vs v,aC U Y S d.k x vs→dv (dR d.k) v vs→v=d.enc x)∧ ∃z,il P d.vt=some z∧ ∀Y S,∃vs,dv (dR d.v) z vs∧aC U Y S d.v d.zero vs
def vO(U:bG)(d:KD U):Prop:=B7 am.pr U d
def xe(P:Program)(t:Nat):Kd→Prop
 | .int k=>P.underlying t=some (.int k)
 | .bool=>P.underlying t=some .bool
 | .str=>P.underlying t=some .string
 | .sl e=>P.underlying t=some (.slice e)
 | .ptr e=>P.underlying t=some (.pointer e)
 | .st=> ∃fs,P.underlying t=some (.struct fs)
 | .arr n e=>P.underlying t=some (.array n e)
 | .mp k v=>P.underlying t=some (.map k v)
 | .fn=> ∃d,P.underlying t=some d
 | .ifc=> ∃d,P.underlying t=some d
structure ja(U:bG)(P:Program)(t:Nat)(s:aZ):Prop where
 guard:P.eqGuardType P.depth t=false
 vals: ∀Y S (a b:TT U.ty s) vs us,aC U Y S s a vs→aC U Y S s b us→ ∃r,aX P 8 t vs us=some r∧(r=true↔a=b)
structure aU(U:bG)(P:Program)(t:Nat)(ti:TI U):Prop where
 size:(P.info? t).map (·.size)=some ti.sz
 kd:xe P t ti.kd
 one:ug ti.kd=false→c6 P t=true
 by_:(P.info? t).map (·.bytes)=some ti.by_
 fs: ∀f off ft,dn ti.fs f=some (off,ft)→dV P t f=some off∧(match P.underlying t with|some (.struct fs)=>(fs[f]?).map (·.type)|_=>none)=some ft
 pl:ti.kd= .st→ ∃pls,mG P t=some pls∧ ∀f off ft,dn ti.fs f=some (off,ft)→ ∃k,pls[f]? =some (off,k)∧(P.info? ft).map (·.size)=some k
 eq: ∀s,ti.sh=some s→ti.cmp=true→ug ti.kd=true∧ja U P t s
 mp: ∀d,ti.mp=some d→B7 P U d∧P.underlying t=some (.map d.kt d.vt)
 zero: ∃zs,zeroCells P t=some zs∧zs.length=ti.sz∧ ∀(F:am) Y S ρ n H,bI (@bd F U Y S ρ n H) ti.zero zs
def bg(U:bG)(P:Program)(T:cM U):Prop:= ∀t ti,aD T t=some ti→aU U P t ti
def aH(U:bG)(Y:List Nat)(S:World→Prop)(d:KD U):List (TT U.ty d.k×TT U.ty d.v)→List (TT U.ty d.k×Value)→Prop
 | [],[]=>True
 |(x,y)::l,(x',u)::m=>x=x'∧(∃vs,dv (dR d.k) (d.enc x) vs∧aC U Y S d.k x vs)∧(∃vs,dv (dR d.v) u vs∧aC U Y S d.v y vs)∧aH U Y S d l m
 |_,_=>False
theorem aH.mv{Y Y':List Nat}{S S':World→Prop}(m:Mv Y S Y' S'){d:KD U}: ∀{l:List (TT U.ty d.k×TT U.ty d.v)} {mv:List (TT U.ty d.k×Value)},aH U Y S d l mv→aH U Y' S' d l mv
 | [],[],h=>h
 |(x,y)::l,(x',u)::mv,⟨h1,⟨ks,h5,h6⟩,⟨vs,h2,h3⟩,h4⟩=>⟨h1,⟨ks,h5,aC.mv m h6⟩,⟨vs,h2,aC.mv m h3⟩,aH.mv m h4⟩
 | [],_::_,h=>h.elim
 |_::_,[],h=>h.elim
section
variable {Y:List Nat} {S:World→Prop} {d:KD U}
omit [am]in
theorem aH.len: ∀{l:List (TT U.ty d.k×TT U.ty d.v)} {m:List (TT U.ty d.k×Value)},aH U Y S d l m→l.length=m.length
 | [],[],_=>rfl
 |_::_,_::_,h=>by rw[List.length_cons,List.length_cons,aH.len h.2.2.2]
 | [],_::_,h=>h.elim
 |_::_,[],h=>h.elim
omit [am]in
theorem aH.get(x:TT U.ty d.k): ∀{l:List (TT U.ty d.k×TT U.ty d.v)} {m:List (TT U.ty d.k×Value)},aH U Y S d l m→
  (@bh _ _ d.dec l x=none∧ @bh _ _ d.dec m x=none)∨ ∃y u, @bh _ _ d.dec l x=some y∧ @bh _ _ d.dec m x=some u∧ ∃vs,dv (dR d.v) u vs∧aC U Y S d.v y vs
 | [],[],_=> .inl ⟨rfl,rfl⟩
 |(k,y)::l,(k',u)::m,⟨h1,hk,h2,h3⟩=>by
  subst h1;by_cases e:k=x
  ·exact .inr ⟨y,u,by simp[bh,e],by simp[bh,e],h2⟩
  ·have e1: @bh _ _ d.dec ((k,y)::l) x= @bh _ _ d.dec l x:=by simp[bh,e]
   have e2: @bh _ _ d.dec ((k,u)::m) x= @bh _ _ d.dec m x:=by simp[bh,e]
   rw[e1,e2];exact aH.get x h3
 | [],_::_,h=>h.elim
 |_::_,[],h=>h.elim
omit [am]in
theorem aH.set{x:TT U.ty d.k}{z:TT U.ty d.v}{q:Value}(hx: ∃vs,dv (dR d.k) (d.enc x) vs∧aC U Y S d.k x vs)(hz: ∃vs,dv (dR d.v) q vs∧aC U Y S d.v z vs): ∀{l:List (TT U.ty d.k×TT U.ty d.v)} {m:List (TT U.ty d.k×Value)},aH U Y S d l m→aH U Y S d (@bL _ _ d.dec l x z) (@bL _ _ d.dec m x q)
 | [],[],_=>⟨rfl,hx,hz,trivial⟩
 |(k,y)::l,(k',u)::m,⟨h1,hk,h2,h3⟩=>by
  subst h1;unfold bL;by_cases e:k=x
  ·simp only[e,if_true];exact⟨rfl,hx,hz,h3⟩
  ·simp only[e,if_false];exact⟨rfl,hk,h2,aH.set hx hz h3⟩
 | [],_::_,h=>h.elim
 |_::_,[],h=>h.elim
omit [am]in
theorem aH.del{x:TT U.ty d.k}: ∀{l:List (TT U.ty d.k×TT U.ty d.v)} {m:List (TT U.ty d.k×Value)},aH U Y S d l m→aH U Y S d (@fV _ _ d.dec l x) (@fV _ _ d.dec m x)
 | [],[],_=>trivial
 |(k,y)::l,(k',u)::m,⟨h1,hk,h2,h3⟩=>by
  subst h1;unfold fV;by_cases e:k=x
  ·simp only[e,if_true];exact h3
  ·simp only[e,if_false];exact⟨rfl,hk,h2,aH.del h3⟩
 | [],_::_,h=>h.elim
 |_::_,[],h=>h.elim
omit [am]in
theorem aH.part{a':List (TT U.ty d.k×Value)}{p':TT U.ty d.k×Value}{b':List (TT U.ty d.k×Value)}: ∀{l:List (TT U.ty d.k×TT U.ty d.v)},aH U Y S d l (a'++p'::b')→
  ∃a p b,l=a++p::b∧p.1=p'.1∧(∃vs,dv (dR d.k) (d.enc p.1) vs∧aC U Y S d.k p.1 vs)∧(∃vs,dv (dR d.v) p'.2 vs∧aC U Y S d.v p.2 vs)∧aH U Y S d (a++b) (a'++b'):=by
 induction a' with
 |nil=>
  intro l h;cases l with
  |nil=>exact h.elim
  |cons p l=>obtain⟨h1,hk,h2,h3⟩:=h;exact⟨[],p,l,rfl,h1,hk,h2,h3⟩
 |cons q a' ih=>
  intro l h;cases l with
  |nil=>exact h.elim
  |cons p l=>
   obtain⟨h1,hk,h2,h3⟩:=h;obtain⟨a,p2,b,e,e2,e5,e3,e4⟩:=ih h3;exact⟨p::a,p2,b,by rw[e];rfl,e2,e5,e3,h1,hk,h2,e4⟩
end
def lX(U:bG)(Y:List Nat)(S:World→Prop)(ρ:Nat→Rz)(n:Nat)(H:Hs U)(i:Nat):aJ U→Prop
 | .cells l t=> ∃g vs,(ρ i).A=some ⟨g,0,none⟩∧bI (bd U Y S ρ n H) l vs∧ ∀w,S w→w.heap[g]? =some (Cl vs t)
 | .row v e xs t=>0<aM U e∧ ∃cs sp,aT U Y S e xs cs∧Ow (ρ i).A xs.length (ρ i).c (aM U e) cs sp∧ ∀g,ah (ρ i).A=some g→ ∀w,S w→w.heap[g]? =some (Cl (cs++sp) t)
 | .frz v e xs=>0<aM U e∧ ∃cs,aT U Y S e xs cs∧sC Y S (ρ i).A cs∧xs.length≤(ρ i).c∧(ρ i).c≤maxLen
 | .map d l=>vO U d∧ ∃g es clock mv,(ρ i).A=some ⟨g,0,none⟩∧ny d.enc (fun v:Value=>v) es clock mv∧aH U Y S d l mv∧ ∀w,S w→w.heap[g]? =some (.map es clock)
 | .mapr d l left cur gh=>vO U d∧ ∃g es clock mv lv cv,(ρ i).A=some ⟨g,0,none⟩∧pT d.enc (fun v:Value=>v) es clock mv lv cv gh∧aH U Y S d l mv∧aH U Y S d left lv∧aH U Y S d cur cv∧ ∀w,S w→w.heap[g]? =some (.map es clock)
 | .it k gh=> ∃r g,(ρ i).A=some ⟨r,0,none⟩∧(ρ k).A=some ⟨g,0,none⟩∧k<n∧bk (aD H k)=none∧ ∀w,S w→w.heap[r]? =some (.mapIter (some g) gh.since gh.seen gh.c0)
 | .clo f l=>True
 | .hid _ _ _=>True
 | .dead=>True
def aq(ρ:Nat→Rz):Nat×aJ U→Option Nat
 |(i,.cells _ _)=>ah (ρ i).A
 |(i,.row _ _ _ _)=>ah (ρ i).A
 |(i,.map _ _)=>ah (ρ i).A
 |(i,.mapr _ _ _ _ _)=>ah (ρ i).A
 |(i,.it _ _)=>ah (ρ i).A
 |_=>none
def af(ρ:Nat→Rz)(H:Hs U):List Nat:=H.filterMap (aq ρ)
def sK(S:World→Prop):Prop:=(∀z∈gB,z∈am.xf)∧ ∀w,S w→Gv w
theorem sK.fr{O:List Nat}{w w':World}(h:sK (· =w))(hf:Fr O w w')(hO: ∀o∈O,o∉am.xf):sK (· =w'):=⟨h.1,fun w2 h2=>by subst h2;exact(h.2 w rfl).fr hf fun o ho hb=>hO o ho (h.1 o hb)⟩
structure bc(U:bG)(X:List Nat)(S:World→Prop)(ρ:Nat→Rz)(n:Nat)(H:Hs U):Prop where
 nd:(H.map (·.1)).Nodup
 lt: ∀p∈H,p.1<n
 ent: ∀p∈H,lX U (af ρ H++X) S ρ n H p.1 p.2
 inj: ∀p∈H,∀q∈H,∀g,aq ρ p=some g→aq ρ q=some g→p.1=q.1
 dj: ∀g∈af ρ H,g∉X
 lo: ∀w,S w→ ∀x∈X,x<w.heap.size
 xs: ∀x∈am.xf,x∈X
 gv:sK S
def cC(V:Cx U→List Value→Prop)(x:Va U)(v:Value):Prop:=match x.ag with
 |true=> ∃vs:List Value,v= .agg vs.toArray∧bI V x.l vs
 |false=>bI V x.l [v]
def bK(V:Cx U→List Value→Prop):List (Va U)→List Value→Prop
 | [],vs=>vs= []
 |x::r,vs=> ∃v us,vs=v::us∧cC V x v∧bK V r us
def nF(V:Cx U→List Value→Prop):AV U→Value→Prop
 | .v x,u=>cC V x u
 | .tup l,u=> ∃us:List Value,u= .tuple us.toArray∧bK V l us
 |_,_=>True
def fX(R e:En U)(s:Nat):Option Bool:=match aD R s with
 |some (.gd _ ⟨false,(_,.d .bool c):: []⟩)=>some c
 |some _=>none
 |none=>(match aD e s with
  |some (.v ⟨false,(_,.d .bool c):: []⟩)=>some c
  |_=>none)
def bj(R e:En U)(p:cK):Prop:= ∀x∈p,fX R e x.1=some x.2
structure aI(V:Cx U→List Value→Prop)(R e:En U)(ce:aG):Prop where
 v: ∀k x,aD R k=none→aD e k=some (.v x)→ ∃u,ce.get k=some u∧cC V x u
 t: ∀k l,aD R k=none→aD e k=some (.tup l)→ ∃us:List Value,ce.get k=some (.tuple us.toArray)∧bK V l us
 g: ∀k p x,aD R k=some (.gd p x)→ ∃u,ce.get k=some u∧(bj R e p→cC V x u)∧(¬bj R e p→u=undef)
omit [am]in
theorem yE{R e:En U}{s:Nat}{K:Bool→Prop}(h:vE R e s K False): ∃c,fX R e s=some c∧K c:=by
 unfold vE at h;unfold fX;split at h
 ·rename_i q k c hc;rw[hc];exact⟨_,rfl,h⟩
 ·exact h.elim
 ·rename_i hn;split at h
  ·rename_i k c hc;rw[hn,hc];exact⟨_,rfl,h⟩
  ·exact h.elim
omit [am]in
theorem lY{R e:En U}: ∀{p:cK} {A:Prop},qd R e p A→bj R e p→A
 | [],A,h,_=>h
 |x::p,A,h,ht=>by
  obtain⟨c,hc,hK⟩:=yE (show vE R e x.1 (fun c=>c=x.2→qd R e p A) False from h);have:=ht x (by simp);rw[hc]at this;injection this with this;exact lY (hK this) fun y hy=>ht y (by simp[hy])
omit [am]in
theorem kj: ∀{p q:cK},eX p q=true→p=q
 | [],[],_=>rfl
 |(s,true)::p,(t,true)::q,h=>by
  simp only[eX]at h;cases hb:Nat.beq s t with
  |false=>rw[hb]at h;cases h
  |true=>rw[hb]at h;rw[Nat.eq_of_beq_eq_true hb,kj h]
 |(s,false)::p,(t,false)::q,h=>by
  simp only[eX]at h;cases hb:Nat.beq s t with
  |false=>rw[hb]at h;cases h
  |true=>rw[hb]at h;rw[Nat.eq_of_beq_eq_true hb,kj h]
 |(s,true)::p,(t,false)::q,h=>by simp[eX]at h
 |(s,false)::p,(t,true)::q,h=>by simp[eX]at h
 | [],_::_,h=>by simp[eX]at h
 |(_,_)::_,[],h=>by simp[eX]at h
omit [am]in
theorem nG{q:cK}: ∀{p:cK},hZ q p=true→ ∀x∈q,x∈p
 | [],h,x,hx=>by have:=kj (show eX q []=true from h);rw[this]at hx;exact hx
 |y::p,h,x,hx=>by
  have h:(eX q (y::p)||hZ q p)=true:=h;rw[Bool.or_eq_true]at h;rcases h with h|h
  ·have:=kj h;rw[this]at hx;exact hx
  ·exact List.mem_cons_of_mem _ (nG h x hx)
omit [am]in
theorem bj.suf{R e:En U}{p q:cK}(h:bj R e p)(hs:hZ q p=true):bj R e q:=fun x hx=>h x (nG hs x hx)
omit [am]in
theorem B8{k:IntKind}{p:Int}(h:BP k p=true):dq k p:=by
 cases k<;>cases p<;>simp only[BP,Nat.ble_eq]at h<;>simp only[dq]<;>first|(cases h;done)|(simp only[Int.ofNat_eq_natCast];omega)|omega
variable {Y:List Nat} {S:World→Prop} {ρ:Nat→Rz} {n:Nat} {H:Hs U} {R e:En U} {ce:aG} {p:cK}
omit [am]in
theorem Q5{V:Cx U→List Value→Prop}{x:Cx U}{v:Value}(h:V x [v]):bI V [(1,x)] [v]:=⟨[v],[],rfl,rfl,h,rfl⟩
omit [am]in
theorem gu{V:Cx U→List Value→Prop}{x:Cx U}{v:Value}(h:V x [v]):cC V ⟨false,[(1,x)]⟩ v:=Q5 h
theorem xg{v:Value}{K:Va U→Prop}(h:ul v K): ∃x,K x∧cC (bd U Y S ρ n H) x v:=by
 unfold ul at h;split at h
 ·rename_i k q;cases hb:BP k q with
  |false=>rw[hb]at h;exact h.elim
  |true=>rw[hb]at h;exact⟨_,h,gu (aC.int k q (B8 hb))⟩
 ·exact⟨_,h,gu (aC.bool _)⟩
 ·rename_i l;cases hb:Nat.ble l.length 9223372036854775807 with
  |false=>rw[hb]at h;exact h.elim
  |true=>rw[hb]at h;exact⟨_,h,gu (aC.str l (Nat.le_of_ble_eq_true hb))⟩
 ·exact⟨_,h,gu rfl⟩
 ·exact⟨_,h,gu rfl⟩
 ·exact⟨_,h,gu rfl⟩
 ·exact⟨_,h,gu rfl⟩
 ·exact h.elim
theorem cV{o:Operand}{K:Va U→Prop}(h:kT p R e o K)(he:aI (bd U Y S ρ n H) R e ce): ∃x,K x∧(bj R e p→ ∃v,ce.ev o=some v∧cC (bd U Y S ρ n H) x v):=by
 unfold kT at h;split at h
 ·rename_i t;split at h
  ·rename_i q x hx;cases hb:hZ q p with
   |false=>rw[hb]at h;exact h.elim
   |true=>
    rw[hb]at h;obtain⟨u,hu,h1,_⟩:=he.g _ _ _ hx;exact⟨x,h,fun hp=>⟨u,hu,h1 (hp.suf hb)⟩⟩
  ·exact h.elim
  ·rename_i hn;split at h
   ·rename_i x hx;obtain⟨u,hu,h1⟩:=he.v _ _ hn hx;exact⟨x,h,fun _=>⟨u,hu,h1⟩⟩
   ·exact h.elim
 ·rename_i v;obtain⟨x,hx,hv⟩:=xg h;exact⟨x,hx,fun _=>⟨v,rfl,hv⟩⟩
 ·exact⟨_,h,fun _=>⟨_,rfl,gu rfl⟩⟩
 ·exact h.elim
theorem f5: ∀{l:List Operand} {K:List (Va U)→Prop},pW p R e l K→aI (bd U Y S ρ n H) R e ce→ ∃xs,K xs∧(bj R e p→ ∃vs,ce.evs l=some vs∧bK (bd U Y S ρ n H) xs vs)
 | [],K,h,he=>⟨[],h,fun _=>⟨[],rfl,rfl⟩⟩
 |o::l,K,h,he=>by
  obtain⟨x,h1,hx⟩:=cV (show kT p R e o (fun v=>pW p R e l fun r=>K (v::r))from h) he;obtain⟨xs,h2,hxs⟩:=f5 (l:=l) h1 he;refine⟨_,h2,fun hp=>?_⟩;obtain⟨v,e1,v1⟩:=hx hp;obtain⟨vs,e2,v2⟩:=hxs hp;exact⟨v::vs,by simp only[aG.evs,e1,e2],v,vs,rfl,v1,v2⟩
theorem cC.single{x:Va U}{k:Nat}{c:Cx U}{v:Value}(h:cC (bd U Y S ρ n H) x v)(hl:x.l= [(k,c)]): ∃vs,bd U Y S ρ n H c vs∧vs.length=k∧v.cells.toList=vs∧(x.ag=false→vs= [v]):=by
 unfold cC at h;split at h
 ·rename_i ha;obtain⟨vs,rfl,hs⟩:=h;rw[hl]at hs;exact⟨vs,hs.one1.1,hs.one1.2,by simp[Value.cells],fun hf=>by rw[ha]at hf;cases hf⟩
 ·rename_i ha;rw[hl]at h;refine⟨[v],h.one1.1,h.one1.2,?_,fun _=>rfl⟩;have:=h.one1.1.one v (by simp);cases v<;>first|rfl|(simp[Value.oneCell']at this)
theorem cC.cells{x:Va U}{v:Value}(h:cC (bd U Y S ρ n H) x v):bI (bd U Y S ρ n H) x.l v.cells.toList:=by
 unfold cC at h;split at h
 ·obtain⟨vs,rfl,hs⟩:=h;simpa[Value.cells]using hs
 ·have:=h.one v (by simp);cases v<;>first|exact h|(simp[Value.oneCell']at this)
theorem cC.int{x:Va U}{k:Nat}{kd:IntKind}{q:Int}{v:Value}(h:cC (bd U Y S ρ n H) x v)(hl:x.l= [(k,.d (.int kd) q)]):dq kd q∧(v= .int kd q∨v= .agg #[.int kd q]):=by
 obtain⟨vs,h1,h2,h3,h4⟩:=h.single hl;have hd:=(show aC U Y S (.int kd) q vs from h1).inv;refine⟨hd.2,?_⟩;rw[hd.1]at h3 h4;cases hx:x.ag with
 |false=>have:=h4 hx;injection this with this;exact .inl this.symm
 |true=>
  unfold cC at h;rw[hx]at h;obtain⟨us,rfl,hs⟩:=h;simp[Value.cells]at h3;rw[h3];exact .inr rfl
end
end Go.Proofs.YtmpeiadlohbikaaGreatDoor.V
end

section
set_option linter.unusedVariables false
set_option linter.unusedSimpArgs false
namespace Go.Proofs.YtmpeiadlohbikaaGreatDoor.V
open Go.RowKit
section
variable [am] {U:bG} {P:Program} {nt:Nat} {T:cM U} {X:List Nat} {S:World→Prop} {ρ:Nat→Rz} {n:Nat} {H:Hs U} {R e:En U} {ce:aG} {p:cK} {o:Oper}
omit [am]in
theorem ak{α:Type}: ∀{l:List (Nat×α)} {i:Nat} {x:α},aD l i=some x→(i,x)∈l
 |(j,y)::r,i,x,h=>by
  unfold aD at h;cases hb:Nat.beq j i with
  |true=>rw[hb]at h;injection h with h;rw[←h,Nat.eq_of_beq_eq_true hb];simp
  |false=>rw[hb]at h;exact List.mem_cons_of_mem _ (ak h)
theorem br{Y:List Nat}{o:Operand}{K:Cx U→Prop}(h:g8 p R e o K)(he:aI (bd U Y S ρ n H) R e ce): ∃c,K c∧(bj R e p→ ∃v,ce.ev o=some v∧bd U Y S ρ n H c [v]):=by
 obtain⟨x,hx,hv⟩:=cV h he;unfold Gi at hx;split at hx
 ·rename_i k c;refine⟨c,hx,fun hp=>?_⟩;obtain⟨v,e1,e2⟩:=hv hp;exact⟨v,e1,(show bI _ [(k,c)] [v]from e2).one1.1⟩
 ·exact hx.elim
structure yF(S:World→Prop)(l m:Nat)(A:Option Addr)(c:Nat)(cs:List Value):Prop where
 src: ∀w,S w→ ∀ad,A=some ad→ ∀j u,cs[j]? =some u→w.cell? (ad.add j)=some u
 none_:A=none→l=0
 mid: ∀ad,A=some ad→0<l→ad.spot=none
 lc:l≤c
 cm:c≤maxLen
 len:cs.length=l*m
 pos:0<m
omit [am]in
theorem yG{Y:List Nat}{l m c:Nat}{A:Option Addr}{cs:List Value}(h:sC Y S A cs)(hl:cs.length=l*m)(hm:0<m)(hlc:l≤c)(hc:c≤maxLen)(hS: ∃w,S w):yF S l m A c cs:=by
 refine⟨fun w hw ad hA j u hj=>(h w hw).src ad hA j u hj,fun hA=>?_,fun ad hA hl0=>?_,hlc,hc,hl,hm⟩
 ·obtain⟨w,hw⟩:=hS;exact mL (h w hw) hA hl hm
 ·obtain⟨w,hw⟩:=hS;obtain⟨g,b,e1⟩:=(h w hw).addr (by rw[hl];exact Nat.mul_pos hl0 hm);rw[hA]at e1;injection e1 with e1;rw[e1]
omit [am]in
theorem GN{l c m:Nat}{A:Option Addr}{cs sp:List Value}{t:Nat}(ho:Ow A l c m cs sp)(hb: ∀g,ah A=some g→ ∀w,S w→w.heap[g]? =some (Cl (cs++sp) t))(hm:0<m):yF S l m A c cs:=by
 refine⟨fun w hw ad hA j u hj=>?_,fun hA=>tT ho hA,fun ad hA _=>?_,?_,?_,ho.1,hm⟩
 ·subst hA;rcases ho.2 with⟨h0,_⟩|⟨g,e1,_⟩
  ·cases h0
  injection e1 with e1;subst e1;rw[Addr.add_mid,Nat.zero_add,cell_of_row w g j (cs++sp).toArray t (0,0) (hb g rfl w hw)];simp only[List.getElem?_toArray];rw[List.getElem?_append_left (List.getElem?_eq_some_iff.1 hj).1];exact hj
 ·rcases ho.2 with⟨h0,_⟩|⟨g,e1,_⟩
  ·rw[h0]at hA;cases hA
  ·rw[hA]at e1;injection e1 with e1;rw[e1]
 ·rcases ho.2 with⟨_,h0,h1,_⟩|⟨g,_,_,h1,_⟩
  ·omega
  ·exact h1
 ·rcases ho.2 with⟨_,h0,h1,_⟩|⟨g,_,_,_,h1⟩
  ·rw[h1];exact Nat.zero_le _
  ·exact h1
theorem qX{x:Cx U}{K:(s:aZ)→List (TT U.ty s)→Prop}(h:um H x K)(M:bc U X S ρ n H)(hS: ∃w,S w):
  ∃s xs,K s xs∧ ∀vs,bd U (af ρ H++X) S ρ n H x vs→ ∃A c cs,vs= [.slice A xs.length c]∧aT U (af ρ H++X) S s xs cs∧yF S xs.length (aM U s) A c cs:=by
 unfold um at h;split at h
 ·rename_i s xs;cases hb:Nat.blt 0 (aM U s)with
  |false=>rw[hb]at h;exact h.elim
  |true=>
   rw[hb]at h;have hb:0<aM U s:=by simpa[Nat.blt_eq]using hb
   refine⟨s,xs,h,fun vs hv=>?_⟩;obtain⟨A,c,cs,rfl,hd,hr,h1,h2⟩:=(show aC U _ S (.sl s) xs vs from hv).inv;exact⟨A,c,cs,rfl,hd,yG hr hd.length hb h1 h2 hS⟩
 ·rename_i i v;split at h
  ·rename_i v' s xs t hl;cases hb:Nat.beq v v' with
   |false=>rw[hb]at h;exact h.elim
   |true=>
    rw[hb]at h;refine⟨s,xs,h,fun vs hv=>?_⟩;obtain⟨_,A,l,c,rfl,hn⟩:=hv;obtain⟨rfl,rfl,rfl⟩:=(hn _ _ _ (by rw[hl];rfl)).2 (Nat.eq_of_beq_eq_true hb);obtain⟨hm,cs,sp,hd,ho,hb⟩:=M.ent _ (ak hl);exact⟨_,_,cs,rfl,hd,GN ho hb hm⟩
  ·rename_i v' s xs hl;cases hb:Nat.beq v v' with
   |false=>rw[hb]at h;exact h.elim
   |true=>
    rw[hb]at h;refine⟨s,xs,h,fun vs hv=>?_⟩;obtain⟨_,A,l,c,rfl,hn⟩:=hv;obtain⟨rfl,rfl,rfl⟩:=(hn _ _ _ (by rw[hl];rfl)).2 (Nat.eq_of_beq_eq_true hb);obtain⟨hm,cs,hd,hr,h1,h2⟩:=M.ent _ (ak hl);exact⟨_,_,cs,rfl,hd,yG hr hd.length hm h1 h2 hS⟩
  ·exact h.elim
 ·exact h.elim
omit [am]in
theorem qY{t:Nat}{ti:TI U}(h:aU U P t ti)(ha:ug ti.kd=true):bf P t=some ti.sz:=by
 have hk:=h.kd;unfold bf;cases hkd:ti.kd with
 |st=>rw[hkd]at hk;obtain⟨fs,hk⟩:=hk;rw[hk];exact h.size
 |arr k e=>rw[hkd]at hk;rw[show P.underlying t=_ from hk];exact h.size
 |_=>rw[hkd]at ha;cases ha
omit [am]in
theorem oD{t:Nat}{ti:TI U}(h:aU U P t ti)(ha:ug ti.kd=false):ti.sz=1:=by
 have hp:=h.one ha;have hs:=h.size;unfold c6 at hp;split at hp
 ·cases hp
 ·cases hp
 ·cases hq:P.info? t with
  |none=>rw[hq]at hs;cases hs
  |some i=>rw[hq]at hp hs;simp at hp hs;omega
 ·cases hp
theorem mW{t:Nat}{l:List (bU U)}{K:Va U→Prop}(h:ET T t l K)(hT:bg U P T):
  ∃v,K v∧ ∃ti,aD T t=some ti∧lU U fun V Y S=> ∀vs,bI V l vs→vs.length=ti.sz→ ∃u,cC V v u∧(ug ti.kd=true→u= .agg vs.toArray)∧(ug ti.kd=false→vs= [u]):=by
 unfold ET at h;split at h
 ·rename_i ti hti;have htk:=hT _ _ hti;cases ha:ug ti.kd with
  |true=>
   simp only[ha]at h;exact⟨_,h,ti,hti,fun Y S ρ n H vs hs hl=>⟨_,⟨vs,rfl,hs⟩,fun _=>rfl,fun hf=>(by rw[ha]at hf;cases hf)⟩⟩
  |false=>
   simp only[ha]at h;have h1:=oD htk ha;have one: ∀vs:List Value,vs.length=ti.sz→ ∃v,vs= [v]:=fun vs hl=>by
    match vs,hl with
    | [v],_=>exact⟨v,rfl⟩
    | [],hl=>simp at hl;omega
    |_::_::_,hl=>simp at hl;omega
   split at h
   ·rename_i m i x;obtain⟨l',hK,hs'⟩:=lV h;refine⟨_,hK,ti,hti,fun Y S ρ n H vs hs hl=>?_⟩;obtain⟨v,rfl⟩:=one vs hl;exact⟨v,hs' Y S ρ n H _ hs.one1.1,fun hf=>(by rw[ha]at hf;cases hf),fun _=>rfl⟩
   ·refine⟨_,h,ti,hti,fun Y S ρ n H vs hs hl=>?_⟩;obtain⟨v,rfl⟩:=one vs hl;exact⟨v,hs,fun hf=>(by rw[ha]at hf;cases hf),fun _=>rfl⟩
 ·exact h.elim
omit [am]in
theorem oE{t:Nat}{ti:TI U}(hti:aU U P t ti){vs:List Value}{u:Value}(hl:vs.length=ti.sz)(h1:ug ti.kd=true→u= .agg vs.toArray)(h2:ug ti.kd=false→vs= [u]){w:World}{g k:Nat}(hr:w.rangeAt g k vs):(loadVar t ⟨g,k,none⟩).run P w= .ok u w:=by
 cases ha:ug ti.kd with
 |true=>rw[h1 ha];exact jE (qY hti ha) hl hr
 |false=>have:=h2 ha;subst this;exact ip (hti.one ha) (by simpa using hr 0 u rfl)
omit [am]in
theorem mX{w:World}{g:Nat}{t:Nat}{vs:List Value}(h:w.heap[g]? =some (Cl vs t))(off k:Nat):w.rangeAt g off ((vs.drop off).take k):=fun j v hj=>by
 rw[List.getElem?_take]at hj;split at hj
 ·rw[List.getElem?_drop]at hj;rw[cell_of_row w g (off+j) vs.toArray t (0,0) h];simpa using hj
 ·cases hj
omit [am]in
theorem ga{α:Type}{vs:List α}{q m off k:Nat}(h:off+k≤m):(((vs.drop q).take m).drop off).take k=(vs.drop (q+off)).take k:=by
 rw[List.drop_take,List.take_take,List.drop_drop,Nat.min_eq_left (by omega)]
def Q6(P:Program)(V:Cx U→List Value→Prop)(S:World→Prop)(t:Nat)(x:Cx U)(v:Va U):Prop:= ∀u0,V x [u0]→ ∃A u,u0= .pointer (some A)∧cC V v u∧ ∀w,S w→(loadVar t A).run P w= .ok u w
omit [am]in
theorem n5{q l m:Nat}(h:q<l):q*m+m≤l*m:=by
 have:=Nat.mul_le_mul_right m (show q+1≤l from h);rw[Nat.add_mul,Nat.one_mul]at this;exact this
omit [am]in
theorem xh{w:World}{g off m k q l:Nat}{cs sp:List Value}{t:Nat}(h:w.heap[g]? =some (Cl (cs++sp) t))(hl:cs.length=l*m)(hq:q<l)(ho:off+k≤m):w.rangeAt g (q*m+off) ((((cs.drop (q*m)).take m).drop off).take k):=by
 rw[ga ho];have:=mX h (q*m+off) k;have h2:=n5 (m:=m) hq;rw[List.drop_append_of_le_length (by omega),List.take_append_of_le_length (by rw[List.length_drop];omega)]at this;exact this
omit [am]in
theorem yH{Y:List Nat}{A:Option Addr}{g off m k q l:Nat}{cs:List Value}(h:sC Y S A cs)(hA:A=some ⟨g,0,none⟩)(ho:off+k≤m){w:World}(hw:S w):w.rangeAt g (q*m+off) ((((cs.drop (q*m)).take m).drop off).take k):=by
 rw[ga ho];subst hA;have:=(h w hw).range (q*m+off) k;rw[Nat.zero_add]at this;exact this
theorem sL{t:Nat}{x:Cx U}{K:Va U→Prop}(h:sA T t H x K)(M:bc U X S ρ n H)(hT:bg U P T):
  ∃v,K v∧Q6 P (bd U (af ρ H++X) S ρ n H) S t x v:=by
 unfold sA at h;split at h
 ·rename_i ti hti;have htk:=hT _ _ hti;split at h
  ·rename_i i off;split at h
   ·rename_i l ty hl;obtain⟨l',hK,hs'⟩:=fG h;obtain⟨v,hv,ti',hti',hva⟩:=mW hK hT;rw[hti]at hti';injection hti' with hti';subst hti';refine⟨v,hv,fun u0 h0=>?_⟩;obtain⟨g,vs,hA,hs,hb⟩:=M.ent _ (ak hl);obtain⟨a1,a2⟩:=hs' _ _ _ _ _ _ hs;have hlen:((vs.drop off).take ti.sz).length=ti.sz:=by rw[List.length_take,List.length_drop];omega
    obtain⟨u,hu,e1,e2⟩:=hva _ _ _ _ _ _ a1 hlen;obtain⟨_,_,g',hA',e3⟩:=h0;rw[hA]at hA';injection hA' with hA';injection hA' with hA';subst hA';injection e3 with e3;exact⟨_,u,e3,hu,fun w hw=>oE htk hlen e1 e2 (mX (hb w hw) _ _)⟩
   ·exact h.elim
  ·rename_i i v q off;split at h
   ·rename_i v' s xs ty hl;cases hbq:Nat.beq v v' with
    |false=>rw[hbq]at h;exact h.elim
    |true=>
     rw[hbq]at h;obtain⟨x,hx,hix⟩:=iv h;obtain⟨l',hK,hs'⟩:=fG hx;obtain⟨va,hv,ti',hti',hva⟩:=mW hK hT;rw[hti]at hti';injection hti' with hti';subst hti';refine⟨va,hv,fun u0 h0=>?_⟩;obtain⟨hm,cs,sp,hd,ho,hb⟩:=M.ent _ (ak hl);obtain⟨_,a,e3,hn⟩:=h0;obtain⟨g,hA,ha,hq0,hq1⟩:=(hn _ _ _ (by rw[hl];rfl)).2 (Nat.eq_of_beq_eq_true hbq);injection e3 with e3;have hxq:=hix _ (List.getElem?_eq_getElem (show q.toNat<xs.length by omega));have hat:=hd.at q.toNat _ (List.getElem?_eq_getElem (show q.toNat<xs.length by omega));rw[←hxq]at hat;have hatl:=hat.length;obtain⟨a1,a2⟩:=hs' (af ρ H++X) S ρ n H _ ⟨_,[],(List.append_nil _).symm,hatl,hat,rfl⟩;rw[hatl]at a2;have hlen:(((((cs.drop (q.toNat*aM U s)).take (aM U s))).drop off).take ti.sz).length=ti.sz:=by rw[List.length_take,List.length_drop,hatl];omega
     obtain⟨u,hu,e1,e2⟩:=hva _ _ _ _ _ _ a1 hlen;subst ha;exact⟨_,u,e3,hu,fun w hw=>oE htk hlen e1 e2 (xh (hb g (by rw[hA];rfl) w hw) hd.length (by omega) a2)⟩
   ·rename_i v' s xs hl;cases hbq:Nat.beq v v' with
    |false=>rw[hbq]at h;exact h.elim
    |true=>
     rw[hbq]at h;obtain⟨x,hx,hix⟩:=iv h;obtain⟨l',hK,hs'⟩:=fG hx;obtain⟨va,hv,ti',hti',hva⟩:=mW hK hT;rw[hti]at hti';injection hti' with hti';subst hti';refine⟨va,hv,fun u0 h0=>?_⟩;obtain⟨hm,cs,hd,hr,_,_⟩:=M.ent _ (ak hl);obtain⟨_,a,e3,hn⟩:=h0;obtain⟨g,hA,ha,hq0,hq1⟩:=(hn _ _ _ (by rw[hl];rfl)).2 (Nat.eq_of_beq_eq_true hbq);injection e3 with e3;have hxq:=hix _ (List.getElem?_eq_getElem (show q.toNat<xs.length by omega));have hat:=hd.at q.toNat _ (List.getElem?_eq_getElem (show q.toNat<xs.length by omega));rw[←hxq]at hat;have hatl:=hat.length;obtain⟨a1,a2⟩:=hs' (af ρ H++X) S ρ n H _ ⟨_,[],(List.append_nil _).symm,hatl,hat,rfl⟩;rw[hatl]at a2;have hlen:(((((cs.drop (q.toNat*aM U s)).take (aM U s))).drop off).take ti.sz).length=ti.sz:=by rw[List.length_take,List.length_drop,hatl];omega
     obtain⟨u,hu,e1,e2⟩:=hva _ _ _ _ _ _ a1 hlen;subst ha;exact⟨_,u,e3,hu,fun w hw=>oE htk hlen e1 e2 (yH (l:=xs.length) hr hA a2 hw)⟩
   ·exact h.elim
  ·rename_i i off k s q o;split at h
   ·rename_i l ty hl;obtain⟨la,h,hla⟩:=fG h;obtain⟨(xs:List (TT U.ty s)),h,hxs⟩:=bq h;obtain⟨x,hx,hix⟩:=iv h;obtain⟨l',hK,hs'⟩:=fG hx;obtain⟨va,hv,ti',hti',hva⟩:=mW hK hT;rw[hti]at hti';injection hti' with hti';subst hti';refine⟨va,hv,fun u0 h0=>?_⟩;obtain⟨g,vs,hA,hs,hb⟩:=M.ent _ (ak hl);obtain⟨_,_,hq0,hq1,g',hA',e3⟩:=h0;rw[hA]at hA';injection hA' with hA';injection hA' with hA';subst hA';injection e3 with e3;obtain⟨b1,b2⟩:=hla _ _ _ _ _ _ hs;obtain⟨hd1,hd2⟩:=aC.inv (hxs _ _ _ _ _ _ b1);have hqk:q.toNat<xs.length:=by have:xs.length=k:=hd2;omega
    have hxq:=hix _ (List.getElem?_eq_getElem hqk);have hat:=hd1.at q.toNat _ (List.getElem?_eq_getElem hqk);rw[←hxq]at hat;have hatl:=hat.length;obtain⟨a1,a2⟩:=hs' (af ρ H++X) S ρ n H _ ⟨_,[],(List.append_nil _).symm,hatl,hat,rfl⟩;rw[hatl]at a2;have hlen:=show((((((vs.drop off).take (k*aM U s)).drop (q.toNat*aM U s)).take (aM U s)).drop o).take ti.sz).length=ti.sz by rw[List.length_take,List.length_drop,hatl];omega
    obtain⟨u,hu,e1,e2⟩:=hva _ _ _ _ _ _ a1 hlen;have hrow:=n5 (m:=aM U s) (show q.toNat<k by omega);refine⟨_,u,e3,hu,fun w hw=>oE htk hlen e1 e2 ?_⟩;rw[ga (k:=aM U s) hrow,ga a2];exact mX (hb w hw) _ _
   ·exact h.elim
  ·rename_i s x;cases hbq:Nat.beq ti.sz (aM U s)with
   |false=>rw[hbq]at h;exact h.elim
   |true=>
    rw[hbq]at h;have hsz:=Nat.eq_of_beq_eq_true hbq;obtain⟨va,hv,ti',hti',hva⟩:=mW h hT;rw[hti]at hti';injection hti' with hti';subst hti';refine⟨va,hv,fun u0 h0=>?_⟩;obtain⟨g,b,us,e3,hd,hr⟩:=h0;injection e3 with e3;have hl:=hd.length;obtain⟨u,hu,e1,e2⟩:=hva (af ρ H++X) S ρ n H _ ⟨_,[],(List.append_nil _).symm,hl,hd,rfl⟩ (by omega);refine⟨_,u,e3,hu,fun w hw=>oE htk (by omega) e1 e2 ?_⟩;have:=(hr w hw).range 0 us.length;simpa using this
  ·exact h.elim
 ·exact h.elim
omit [am]in
theorem vP{i v:Nat}(hc:pX H i v=true): ∃l m,bk (aD H i)=some (v,l,m):=by
 unfold pX at hc;split at hc
 ·rename_i hl;rw[hl];exact⟨_,_,by rw[Nat.eq_of_beq_eq_true hc];rfl⟩
 ·rename_i hl;rw[hl];exact⟨_,_,by rw[Nat.eq_of_beq_eq_true hc];rfl⟩
 ·cases hc
theorem vQ{Y:List Nat}{i v off:Nat}{q:Int}{u:Value}(h:bd U Y S ρ n H (.pel i v q off) [u])(hc:pX H i v=true): ∃A,u= .pointer (some A):=by
 obtain⟨l,m,hr⟩:=vP hc;obtain⟨hi,a,e1,hn⟩:=h;injection e1 with e1;obtain⟨g,hA,ha,hq⟩:=(hn _ _ _ hr).2 rfl;exact⟨_,by rw[e1,ha]⟩
theorem B9{t f:Nat}{x:Cx U}{K:Cx U→Prop}(h:Gj T t f H x K)(hT:bg U P T): ∃c off,K c∧dV P t f=some off∧ ∀u0,bd U (af ρ H++X) S ρ n H x [u0]→ ∃g k,u0= .pointer (some ⟨g,k,none⟩)∧bd U (af ρ H++X) S ρ n H c [.pointer (some ⟨g,k+off,none⟩)]:=by
 unfold Gj at h;split at h
 ·rename_i ti hti;have htk:=hT _ _ hti;split at h
  ·rename_i off ft hf;have hfo:=(htk.fs _ _ _ hf).1;split at h
   ·rename_i i o;refine⟨_,off,h,hfo,fun u0 h0=>?_⟩;obtain⟨hi,hr,g,hA,e1⟩:=h0;injection e1 with e1;exact⟨g,o,e1,hi,hr,g,hA,rfl⟩
   ·rename_i i v q o;cases hc:pX H i v with
    |false=>rw[hc]at h;exact h.elim
    |true=>
     rw[hc]at h;refine⟨_,off,h,hfo,fun u0 h0=>?_⟩;obtain⟨hi,a,e1,hn⟩:=h0;injection e1 with e1;obtain⟨l,m,hr⟩:=vP hc;obtain⟨g,hA,ha,hq⟩:=(hn _ _ _ hr).2 rfl;subst ha;refine⟨g,_,e1,hi,_,by rw[Nat.add_assoc],fun v' l' m' hr'=>?_⟩;rw[hr]at hr';injection hr' with hr';injection hr' with h1 hr';injection hr' with h2 h3;subst h1;subst h2;subst h3;exact⟨Nat.le_refl _,fun _=>⟨g,hA,rfl,hq⟩⟩
   ·rename_i i o k s q o';refine⟨_,off,h,hfo,fun u0 h0=>?_⟩;obtain⟨hi,hr,h1,h2,g,hA,e1⟩:=h0;injection e1 with e1;exact⟨g,_,e1,hi,hr,h1,h2,g,hA,by rw[Nat.add_assoc]⟩
   ·rename_i s y;split at h
    ·rename_i fi hfi;obtain⟨l',hK,hs'⟩:=fG h;split at hK
     ·rename_i m s' y';cases hb:Nat.beq ti.sz (aM U s)with
      |false=>rw[hb]at hK;exact hK.elim
      |true=>
       rw[hb]at hK;refine⟨_,off,hK,hfo,fun u0 h0=>?_⟩;obtain⟨g,b,us,e1,hd,hr⟩:=h0;injection e1 with e1;obtain⟨a1,a2⟩:=hs' (af ρ H++X) S ρ n H _ ⟨_,[],(List.append_nil _).symm,hd.length,hd,rfl⟩;refine⟨g,b,e1,g,b+off,_,rfl,a1.one1.1,fun w hw=>?_⟩;exact((hr w hw).drop off).take fi.sz
     ·exact hK.elim
    ·exact h.elim
   ·exact h.elim
  ·exact h.elim
 ·exact h.elim
end
end Go.Proofs.YtmpeiadlohbikaaGreatDoor.V
end

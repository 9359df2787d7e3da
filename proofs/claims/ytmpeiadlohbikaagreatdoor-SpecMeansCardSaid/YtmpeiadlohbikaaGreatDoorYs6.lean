/- The interpreter's looks are right: numbers, comparisons, slices. -/
import Derived.Test.YtmpeiadlohbikaaGreatDoorYs5
import Derived.Laws.BitsAllLaws
section
set_option linter.unusedVariables false
set_option linter.unusedSimpArgs false
namespace Go.Proofs.YtmpeiadlohbikaaGreatDoor.V
open Go.RowKit
mutual
theorem aK.one{U:cw}{Y:List Nat}{S:World→Prop}{s:bq}{t:TT U.ty s}{vs:List Value}:aK U Y S s t vs→ ∀v∈vs,v.oneCell'=true
 | .int k p h=>by simp[Value.oneCell']
 | .bool b=>by simp[Value.oneCell']
 | .str s h=>by simp[Value.oneCell']
 | .st i t vs h hl=>bY.one h
 | .arr n e xs vs h hn=>ba.one h
 | .sl e xs A c cs h hr hc hm=>by simp[Value.oneCell']
theorem bY.one{U:cw}{Y:List Nat}{S:World→Prop}{fs:List (Nat×bq)}{t:ut U.ty fs}{vs:List Value}:bY U Y S fs t vs→ ∀v∈vs,v.oneCell'=true
 | .nil=>by simp
 | .cons k s r a b vs us h hl hr=>fun v hv=>(List.mem_append.1 hv).elim (aK.one h v) (bY.one hr v)
theorem ba.one{U:cw}{Y:List Nat}{S:World→Prop}{e:bq}{xs:List (TT U.ty e)}{vs:List Value}:ba U Y S e xs vs→ ∀v∈vs,v.oneCell'=true
 | .nil e=>by simp
 | .cons e x xs vs us h hl hr=>fun v hv=>(List.mem_append.1 hv).elim (aK.one h v) (ba.one hr v)
end
structure Rz where
 A:Option Addr
 c:Nat
section
variable [ay] {U:cw}
def bC:Option (aU U)→Option (Nat×Nat×Nat)
 |some (.row v e xs _)=>some (v,xs.length,aQ U e)
 |some (.frz v e xs)=>some (v,xs.length,aQ U e)
 |some (.hid v l m)=>some (v,l,m)
 |_=>none
def oy(H:Hs U)(i v:Nat)(Q:Nat→Nat→Prop):Prop:= ∀v' l m,bC (aI H i)=some (v',l,m)→v≤v'∧(v=v'→Q l m)
def bn(U:cw)(Y:List Nat)(S:World→Prop)(ρ:Nat→Rz)(n:Nat)(H:Hs U):Cx U→List Value→Prop
 | .d s t,vs=>aK U Y S s t vs
 | .own i v,vs=>i<n∧ ∃A l c,vs= [.slice A l c]∧oy H i v fun len _=>A=(ρ i).A∧l=len∧c=(ρ i).c
 | .ptr i off,vs=>i<n∧bC (aI H i)=none∧ ∃g,(ρ i).A=some ⟨g,0,none⟩∧vs= [.pointer (some ⟨g,off,none⟩)]
 | .pel i v q off,vs=>i<n∧ ∃a,vs= [.pointer a]∧oy H i v fun len m=> ∃g,(ρ i).A=some ⟨g,0,none⟩∧a=some ⟨g,q.toNat*m+off,none⟩∧0≤q∧q<len
 | .pax i off m s q o,vs=>i<n∧bC (aI H i)=none∧0≤q∧q<m∧ ∃g,(ρ i).A=some ⟨g,0,none⟩∧vs= [.pointer (some ⟨g,off+q.toNat*aQ U s+o,none⟩)]
 | .pd s t,vs=> ∃g b us,vs= [.pointer (some ⟨g,b,none⟩)]∧aK U Y S s t us∧sF Y S (some ⟨g,b,none⟩) us
 | .nilp,vs=>vs= [.pointer none]
 | .nils,vs=>vs= [.slice none 0 0]
 | .nilf,vs=>vs= [.nilFunc]
 | .nilm,vs=>vs= [.map none]
 | .fn f,vs=>vs= [.func (.func f) #[] #[]]
 | .clo f js,vs=>vs= [.func (.func f) #[] (js.map fun j=>Value.pointer (ρ j).A).toArray]∧ ∀j∈js,j<n∧bC (aI H j)=none∧ ∃g,(ρ j).A=some ⟨g,0,none⟩
 | .f1 a g,vs=> ∃u,vs= [u]∧yu U Y S u a g
 | .f2 a b g,vs=> ∃u,vs= [u]∧yv U Y S u a b g
 | .mp i,vs=>i<n∧bC (aI H i)=none∧ ∃g,(ρ i).A=some ⟨g,0,none⟩∧vs= [.map (some g)]
 | .un,vs=> ∃u,vs= [u]∧u.oneCell'=true
def cg(V:Cx U→List Value→Prop):List (ck U)→List Value→Prop
 | [],vs=>vs= []
 |(k,x)::r,vs=> ∃v1 v2,vs=v1++v2∧v1.length=k∧V x v1∧cg V r v2
omit [ay]in
theorem lN{α:Type} [Inhabited α]{l:List α}{q:Int}{y:α}(h:l[q.toNat]? =some y):ix l q=y:=by unfold ix;rw[h];rfl
omit [ay]in
theorem iU{s:bq}{l:List (TT U.ty s)}{q:Int}{K:TT U.ty s→Prop}(h:yt U s l q K): ∃x,K x∧ ∀y,l[q.toNat]? =some y→x=y:=by
 cases s with
 |st i=>exact(U.rd i).ixK_ok l q K h
 |int k=>exact⟨_,h,fun y hy=>lN (α:=Int) hy⟩
 |bool=>exact⟨_,h,fun y hy=>lN (α:=Bool) hy⟩
 |str=>exact⟨_,h,fun y hy=>lN (α:=List UInt8) hy⟩
 |arr k e=>exact⟨_,h,fun y hy=>lN (α:=List (TT U.ty e)) hy⟩
 |sl e=>exact⟨_,h,fun y hy=>lN (α:=List (TT U.ty e)) hy⟩
omit [ay]in
theorem lO: ∀{k k':IntKind},jZ k k'=true→k=k':=by
 intro k k';cases k<;>cases k'<;>simp[jZ]
omit [ay]in
theorem sG: ∀{ty:Nat→Type} {F:Type→Type} {i j:Nat} {t:F (ty i)} {u:F (ty j)},nD ty F i j t=some u→i=j∧HEq t u
 |ty,F,0,0,t,u,h=>by simp only[nD,Option.some.injEq]at h;exact⟨rfl,heq_of_eq h⟩
 |ty,F,i+1,j+1,t,u,h=>by
  obtain⟨h1,h2⟩:=sG (ty:=fun n=>ty (n+1)) (by simpa only[nD]using h);subst h1;exact⟨rfl,h2⟩
 |ty,F,0,j+1,t,u,h=>by simp[nD]at h
 |ty,F,i+1,0,t,u,h=>by simp[nD]at h
omit [ay]in
theorem iF{α:Type}{u:α}{p:Prop}(h:(none:Option α)=some u):p:=by cases h
omit [ay]in
theorem dY{ty:Nat→Type}: ∀(s s':bq) (F:Type→Type) (t:F (TT ty s)) (u:F (TT ty s')),fw ty F s s' t=some u→s=s'∧HEq t u:=by
 intro s;induction s with
 |int k=>
  intro s' F t u h;cases s' with
  |int k'=>
   have h:(bif jZ k k' then some t else none)=some u:=h;cases hk:jZ k k' with
   |false=>rw[hk]at h;exact iF h
   |true=>rw[hk]at h;have:=lO hk;subst this;injection h with h;exact⟨rfl,heq_of_eq h⟩
  |_=>exact iF (show none=some u from h)
 |bool=>
  intro s' F t u h;cases s' with
  |bool=>have h:some t=some u:=h;injection h with h;exact⟨rfl,heq_of_eq h⟩
  |_=>exact iF (show none=some u from h)
 |str=>
  intro s' F t u h;cases s' with
  |str=>have h:some t=some u:=h;injection h with h;exact⟨rfl,heq_of_eq h⟩
  |_=>exact iF (show none=some u from h)
 |st i=>
  intro s' F t u h;cases s' with
  |st j=>
   have h:nD ty F i j t=some u:=h;obtain⟨h1,h2⟩:=sG h;subst h1;exact⟨rfl,h2⟩
  |_=>exact iF (show none=some u from h)
 |arr n e ih=>
  intro s' F t u h;cases s' with
  |arr m e'=>
   have h:(bif Nat.beq n m then fw ty (fun x=>F (List x)) e e' t else none)=some u:=h;cases hn:Nat.beq n m with
   |false=>rw[hn]at h;exact iF h
   |true=>
    rw[hn]at h;have hnm:=Nat.eq_of_beq_eq_true hn;obtain⟨h1,h2⟩:=ih e' (fun x=>F (List x)) t u h;subst h1;subst hnm;exact⟨rfl,h2⟩
  |_=>exact iF (show none=some u from h)
 |sl e ih=>
  intro s' F t u h;cases s' with
  |sl e'=>
   have h:fw ty (fun x=>F (List x)) e e' t=some u:=h;obtain⟨h1,h2⟩:=ih e' (fun x=>F (List x)) t u h;subst h1;exact⟨rfl,h2⟩
  |_=>exact iF (show none=some u from h)
abbrev lP(U:cw)(Q:(Cx U→List Value→Prop)→(Y:List Nat)→(World→Prop)→Prop):Prop:= ∀Y S ρ n H,Q (bn U Y S ρ n H) Y S
theorem v7: ∀{fs:List (Nat×bq)} {t:ut U.ty fs} {K:List (ck U)→Prop},Gc fs t K→ ∃l,K l∧lP U fun V Y S=> ∀vs,bY U Y S fs t vs→cg V l vs
 | [],t,K,h=>⟨[],h,fun _ _ _ _ _ _ hd=>hd.inv⟩
 |(k,s)::r,(a,b),K,h=>by
  obtain⟨l,hK,hs⟩:=v7 (fs:=r) h;refine⟨_,hK,fun Y S ρ n H vs hd=>?_⟩;obtain⟨v1,v2,rfl,h1,hl,hr⟩:=hd.inv;exact⟨v1,v2,rfl,hl,h1,hs Y S ρ n H _ hr⟩
theorem v8{e:bq}{m:Nat}{xs:List (TT U.ty e)}(hm:m=aQ U e): ∀{k j:Nat} {K:List (ck U)→Prop},I1 e m xs k j K→ ∃l,K l∧lP U fun V Y S=> ∀vs,ba U Y S e (xs.drop j) vs→(xs.drop j).length=k→cg V l vs
 |0,j,K,h=>⟨[],h,fun Y S ρ n H vs hd hl=>by
  have:xs.drop j= []:=List.eq_nil_of_length_eq_zero hl;rw[this]at hd;exact hd.nil_inv⟩
 |k+1,j,K,h=>by
  obtain⟨x,hx,he⟩:=iU (show yt U e xs (j:Int) _ from h);obtain⟨l,hK,hs⟩:=v8 hm (k:=k) hx;refine⟨_,hK,fun Y S ρ n H vs hd hl=>?_⟩;have hj:j<xs.length:=by rw[List.length_drop]at hl;omega
  have hx0:=he xs[j] (by rw[Int.toNat_natCast];exact List.getElem?_eq_getElem hj);rw[List.drop_eq_getElem_cons hj]at hd hl;obtain⟨v1,v2,rfl,h1,hl1,hr⟩:=hd.cons_inv;exact⟨v1,v2,rfl,by rw[hl1,hm],by rw[hx0];exact h1,hs Y S ρ n H _ hr (by rw[List.length_cons]at hl;omega)⟩
theorem lQ{x:Cx U}{K:List (ck U)→Prop}(h:lJ x K): ∃l,K l∧lP U fun V Y S=> ∀vs,V x vs→cg V l vs:=by
 unfold lJ at h;split at h
 ·rename_i i t;obtain⟨l,hK,hs⟩:=v7 ((U.rd i).toK_ok _ _ h);exact⟨l,hK,fun Y S ρ n H vs hx=>hs Y S ρ n H vs (show aK U Y S (.st i) t vs from hx).inv.1⟩
 ·rename_i k e xs;obtain⟨l,hK,hs⟩:=v8 rfl h;exact⟨l,hK,fun Y S ρ n H vs hx=>by
   have hd:=(show aK U Y S (.arr k e) xs vs from hx).inv;exact hs Y S ρ n H vs hd.1 hd.2⟩
 ·exact h.elim
omit [ay]in
theorem nZ{l l':List (ck U)}{K:List (ck U)→Prop}:qV l l' K→K (l++l'):=by
 induction l generalizing K with
 |nil=>exact fun h=>h
 |cons x r ih=>exact fun h=>ih (K:=fun r=>K (x::r)) h
omit [ay]in
theorem cg.app{V:Cx U→List Value→Prop}: ∀{l l':List (ck U)} {vs us:List Value},cg V l vs→cg V l' us→cg V (l++l') (vs++us)
 | [],l',vs,us,h,h'=>by rw[show vs= []from h];exact h'
 |(k,x)::r,l',vs,us,h,h'=>by
  obtain⟨v1,v2,rfl,hl,hx,hr⟩:=h;exact⟨v1,v2++us,List.append_assoc ..,hl,hx,cg.app hr h'⟩
theorem gg: ∀{f:Nat} {l:List (ck U)} {k:Nat} {K:List (ck U)→Prop},ia f l k K→ ∃l',K l'∧lP U fun V Y S=> ∀vs,cg V l vs→cg V l' (vs.drop k)∧k≤vs.length
 |0,l,k,K,h=>h.elim
 |f+1,l,0,K,h=>⟨l,h,fun _ _ _ _ _ vs hs=>⟨hs,Nat.zero_le _⟩⟩
 |f+1,[],k+1,K,h=>h.elim
 |f+1,(m,x)::r,k+1,K,h=>by
  have h:(bif Nat.ble m (k+1)then ia f r (k+1 - m) K else lJ x fun l'=>qV l' r fun l''=>ia f l'' (k+1) K):=h;cases hb:Nat.ble m (k+1)with
  |true=>
   rw[hb]at h;have hle:=Nat.le_of_ble_eq_true hb;obtain⟨l',hK,hs'⟩:=gg (f:=f) h;refine⟨l',hK,fun Y S ρ n H vs hs=>?_⟩;obtain⟨v1,v2,rfl,hl,hx,hr⟩:=hs;obtain⟨h1,h2⟩:=hs' Y S ρ n H _ hr;refine⟨?_,by rw[List.length_append];omega⟩;rw[List.drop_append,List.drop_of_length_le (by omega),List.nil_append,hl];exact h1
  |false=>
   rw[hb]at h;obtain⟨l',hK,hs'⟩:=lQ h;obtain⟨l2,hK2,hs2⟩:=gg (f:=f) (nZ hK);refine⟨l2,hK2,fun Y S ρ n H vs hs=>?_⟩;obtain⟨v1,v2,rfl,hl,hx,hr⟩:=hs;exact hs2 Y S ρ n H _ ((hs' Y S ρ n H _ hx).app hr)
theorem ib: ∀{f:Nat} {l:List (ck U)} {k:Nat} {K:List (ck U)→Prop},tK f l k K→ ∃l',K l'∧lP U fun V Y S=> ∀vs,cg V l vs→cg V l' (vs.take k)∧k≤vs.length
 |0,l,k,K,h=>h.elim
 |f+1,l,0,K,h=>⟨[],h,fun _ _ _ _ _ vs hs=>⟨by simp[cg],Nat.zero_le _⟩⟩
 |f+1,[],k+1,K,h=>h.elim
 |f+1,(m,x)::r,k+1,K,h=>by
  have h:(bif Nat.ble m (k+1)then tK f r (k+1 - m) fun r'=>K ((m,x)::r')else lJ x fun l'=>tK f l' (k+1) K):=h;cases hb:Nat.ble m (k+1)with
  |true=>
   rw[hb]at h;have hle:=Nat.le_of_ble_eq_true hb;obtain⟨l',hK,hs'⟩:=ib (f:=f) h;refine⟨_,hK,fun Y S ρ n H vs hs=>?_⟩;obtain⟨v1,v2,rfl,hl,hx,hr⟩:=hs;obtain⟨h1,h2⟩:=hs' Y S ρ n H _ hr;refine⟨⟨v1,_,?_,hl,hx,h1⟩,by rw[List.length_append];omega⟩;rw[List.take_append,List.take_of_length_le (by omega),hl]
  |false=>
   rw[hb]at h;have hgt:k+1<m:=by
    rcases Nat.lt_or_ge (k+1) m with h'|h'
    ·exact h'
    ·rw[Nat.ble_eq_true_of_le h']at hb;cases hb
   obtain⟨l',hK,hs'⟩:=lQ h;obtain⟨l2,hK2,hs2⟩:=ib (f:=f) hK;refine⟨l2,hK2,fun Y S ρ n H vs hs=>?_⟩;obtain⟨v1,v2,rfl,hl,hx,hr⟩:=hs;obtain⟨h1,h2⟩:=hs2 Y S ρ n H _ (hs' Y S ρ n H _ hx);refine⟨?_,by rw[List.length_append];omega⟩;rw[List.take_append_of_le_length h2];exact h1
theorem jo: ∀{f:Nat} {l new:List (ck U)} {off k:Nat} {K:List (ck U)→Prop},qW f l off k new K→
  ∃l',K l'∧lP U fun V Y S=> ∀vs us,cg V l vs→cg V new us→us.length=k→cg V l' (vs.take off++us++vs.drop (off+us.length))∧off+us.length≤vs.length
 |0,l,new,off,k,K,h=>h.elim
 |f+1,l,new,0,k,K,h=>by
  have h:ia 40 l k fun r=>qV new r K:=h;obtain⟨l',hK,hs'⟩:=gg h;refine⟨_,nZ hK,fun Y S ρ n H vs us hs hn hk=>?_⟩;obtain⟨h1,h2⟩:=hs' Y S ρ n H _ hs;refine⟨?_,by omega⟩;rw[List.take_zero,List.nil_append,Nat.zero_add,hk];exact hn.app h1
 |f+1,[],new,off+1,k,K,h=>h.elim
 |f+1,(m,x)::r,new,off+1,k,K,h=>by
  have h:(bif Nat.ble m (off+1)then qW f r (off+1 - m) k new fun r'=>K ((m,x)::r')else lJ x fun l'=>qV l' r fun l''=>qW f l'' (off+1) k new K):=h;cases hb:Nat.ble m (off+1)with
  |true=>
   rw[hb]at h;have hle:=Nat.le_of_ble_eq_true hb;obtain⟨l',hK,hs'⟩:=jo (f:=f) h;refine⟨_,hK,fun Y S ρ n H vs us hs hn hk=>?_⟩;obtain⟨v1,v2,rfl,hl,hx,hr⟩:=hs;obtain⟨h1,h2⟩:=hs' Y S ρ n H _ _ hr hn hk;refine⟨⟨v1,_,?_,hl,hx,h1⟩,by rw[List.length_append];omega⟩;rw[List.take_append,List.take_of_length_le (by omega),List.drop_append,List.drop_of_length_le (by omega),List.nil_append,hl,List.append_assoc,List.append_assoc,List.append_assoc,show off+1+us.length - m=off+1 - m+us.length by omega]
  |false=>
   rw[hb]at h;obtain⟨l',hK,hs'⟩:=lQ h;obtain⟨l2,hK2,hs2⟩:=jo (f:=f) (nZ hK);refine⟨l2,hK2,fun Y S ρ n H vs us hs hn hk=>?_⟩;obtain⟨v1,v2,rfl,hl,hx,hr⟩:=hs;exact hs2 Y S ρ n H _ _ ((hs' Y S ρ n H _ hx).app hr) hn hk
theorem gi{l:List (ck U)}{off k:Nat}{K:List (ck U)→Prop}(h:lK l off k K): ∃l',K l'∧lP U fun V Y S=> ∀vs,cg V l vs→cg V l' ((vs.drop off).take k)∧off+k≤vs.length:=by
 obtain⟨l1,h1,hs1⟩:=gg (show ia 40 l off _ from h);obtain⟨l2,h2,hs2⟩:=ib h1;refine⟨l2,h2,fun Y S ρ n H vs hs=>?_⟩;obtain⟨a1,a2⟩:=hs1 Y S ρ n H _ hs;obtain⟨b1,b2⟩:=hs2 Y S ρ n H _ a1;rw[List.length_drop]at b2;exact⟨b1,by omega⟩
omit [ay]in
theorem cg.one1{V:Cx U→List Value→Prop}{k:Nat}{x:Cx U}{vs:List Value}(h:cg V [(k,x)] vs):V x vs∧vs.length=k:=by
 obtain⟨v1,v2,rfl,hl,hx,hr⟩:=h;rw[show v2= []from hr,List.append_nil];exact⟨hx,hl⟩
theorem qg{s:bq}{l:List (ck U)}{K:TT U.ty s→Prop}(h:d1 s l K): ∃t,K t∧lP U fun V Y S=> ∀vs,cg V l vs→aK U Y S s t vs:=by
 unfold d1 at h;split at h
 ·rename_i k s' t;split at h
  ·rename_i u hc;obtain⟨h1,h2⟩:=dY _ _ _ _ _ hc;subst h1;have h2:t=u:=eq_of_heq h2;subst h2;exact⟨t,h,fun Y S ρ n H vs hs=>hs.one1.1⟩
  ·exact h.elim
 ·exact h.elim
theorem sH{g:(s:bq)→List (ck U)→(TT U.ty s→Prop)→Prop}(hg: ∀s l K,g s l K→ ∃t,K t∧lP U fun V Y S=> ∀vs,cg V l vs→aK U Y S s t vs):
  ∀{fs:List (Nat×bq)} {l:List (ck U)} {K:ut U.ty fs→Prop},vY g fs l K→ ∃t:ut U.ty fs,K t∧lP U fun V Y S=> ∀vs,cg V l vs→ ∃us r:List Value,bY U Y S fs t us∧vs=us++r∧us.length=(fs.map (·.1)).sum
 | [],l,K,h=>⟨(),h,fun _ _ _ _ _ vs hs=>⟨[],vs,.nil,rfl,rfl⟩⟩
 |(k,s)::r,l,K,h=>by
  obtain⟨l1,h1,hs1⟩:=ib (show tK 40 l k _ from h);obtain⟨a,h2,hd⟩:=hg s l1 _ h1;obtain⟨l2,h3,hs3⟩:=gg h2;obtain⟨b,h4,h5⟩:=sH hg (fs:=r) h3;refine⟨(a,b),h4,fun Y S ρ n H vs hs=>?_⟩;obtain⟨a1,a2⟩:=hs1 Y S ρ n H _ hs;obtain⟨b1,b2⟩:=hs3 Y S ρ n H _ hs;obtain⟨us,q,hd4,hq,hlen⟩:=h5 Y S ρ n H _ b1;have htl:(vs.take k).length=k:=by rw[List.length_take];omega
  refine⟨vs.take k++us,q,.cons k s r a b _ _ (hd Y S ρ n H _ a1) htl hd4,?_,?_⟩
  ·rw[List.append_assoc,←hq,List.take_append_drop]
  ·rw[List.length_append,htl,hlen];rfl
omit [ay]in
theorem cg.len{V:Cx U→List Value→Prop}: ∀{l:List (ck U)} {vs:List Value},cg V l vs→vs.length=j1 l
 | [],vs,h=>by rw[show vs= []from h];rfl
 |(k,x)::r,vs,h=>by
  obtain⟨v1,v2,rfl,hl,_,hr⟩:=h;rw[List.length_append,hl,cg.len hr];rfl
theorem sI{e:bq}{g:List (ck U)→(TT U.ty e→Prop)→Prop}(hg: ∀l K,g l K→ ∃t,K t∧lP U fun V Y S=> ∀vs,cg V l vs→aK U Y S e t vs):
  ∀{k:Nat} {l:List (ck U)} {K:List (TT U.ty e)→Prop},vZ g (aQ U e) k l K→ ∃xs:List (TT U.ty e),K xs∧lP U fun V Y S=> ∀vs,cg V l vs→ ∃us r:List Value,ba U Y S e xs us∧vs=us++r∧xs.length=k
 |0,l,K,h=>⟨[],h,fun _ _ _ _ _ vs hs=>⟨[],vs,.nil e,rfl,rfl⟩⟩
 |k+1,l,K,h=>by
  have h:tK 40 l (aQ U e) (fun l1=>g l1 fun a=>ia 40 l (aQ U e) fun l2=>vZ g (aQ U e) k l2 fun b=>K (a::b)):=h;obtain⟨l1,h1,hs1⟩:=ib h;obtain⟨a,h2,hd⟩:=hg l1 _ h1;obtain⟨l2,h3,hs3⟩:=gg h2;obtain⟨xs,h4,h5⟩:=sI hg (k:=k) h3;refine⟨a::xs,h4,fun Y S ρ n H vs hs=>?_⟩;obtain⟨a1,a2⟩:=hs1 Y S ρ n H _ hs;obtain⟨b1,b2⟩:=hs3 Y S ρ n H _ hs;obtain⟨us,q,hd4,hq,hlen⟩:=h5 Y S ρ n H _ b1;have htl:(vs.take (aQ U e)).length=aQ U e:=by rw[List.length_take];omega
  refine⟨vs.take (aQ U e)++us,q,.cons e a xs _ _ (hd Y S ρ n H _ a1) htl hd4,?_,by rw[List.length_cons,hlen]⟩;rw[List.append_assoc,←hq,List.take_append_drop]
theorem bI: ∀{f:Nat} {s:bq} {l:List (ck U)} {K:TT U.ty s→Prop},du f s l K→ ∃t,K t∧lP U fun V Y S=> ∀vs,cg V l vs→aK U Y S s t vs
 |0,s,l,K,h=>h.elim
 |f+1,.int k,l,K,h=>qg (s:= .int k) h
 |f+1,.bool,l,K,h=>qg (s:= .bool) h
 |f+1,.str,l,K,h=>qg (s:= .str) h
 |f+1,.sl e,l,K,h=>by
  have h:(match (generalizing:=false) l with
   |(_,.nils):: []=>K ([]:List (TT U.ty e))
   |_=>d1 (.sl e) l K):=h
  split at h
  ·refine⟨[],h,fun Y S ρ n H vs hs=>?_⟩;have hv:=hs.one1.1;rw[show vs= [.slice none 0 0]from hv];exact .sl e [] none 0 [] (.nil e) (fun w _=>lE.nil) (Nat.le_refl _) (Nat.zero_le _)
  ·exact qg h
 |f+1,.st i,l,K,h=>by
  have h:(match (generalizing:=false) l with
   |(_,.d (.st j) t):: []=>d1 (.st i) l K
   |_=>bif Nat.beq (j1 l) (U.rd i).sz then vY (du f) (U.rd i).fs l fun a=>(U.rd i).ofK a K else False):=h
  split at h
  ·exact qg h
  ·cases hb:Nat.beq (j1 l) (U.rd i).sz with
   |false=>rw[hb]at h;exact h.elim
   |true=>
    rw[hb]at h;have hb:=Nat.eq_of_beq_eq_true hb;obtain⟨a,h1,h2⟩:=sH (fun s l K h=>bI (f:=f) h) h;obtain⟨x,hx,hto⟩:=(U.rd i).ofK_ok a K h1;refine⟨x,hx,fun Y S ρ n H vs hs=>?_⟩;obtain⟨us,r,hd,hq,hlen⟩:=h2 Y S ρ n H _ hs;have hvl:=hs.len;have hr:r= []:=by
     have:=congrArg List.length hq;rw[List.length_append,hlen,(U.rd i).sz_ok]at this;exact List.eq_nil_of_length_eq_zero (by omega)
    subst hr;rw[List.append_nil]at hq;subst hq;exact .st i x vs (by rw[hto];exact hd) (by omega)
 |f+1,.arr k e,l,K,h=>by
  have h:(match (generalizing:=false) l with
   |(_,.d (.arr _ _) _):: []=>d1 (.arr k e) l K
   |_=>bif Nat.beq (j1 l) (k*aQ U e)then vZ (du f e) (aQ U e) k l K else False):=h
  split at h
  ·exact qg h
  ·cases hb:Nat.beq (j1 l) (k*aQ U e)with
   |false=>rw[hb]at h;exact h.elim
   |true=>
    rw[hb]at h;have hb:=Nat.eq_of_beq_eq_true hb;obtain⟨xs,h1,h2⟩:=sI (fun l K h=>bI (f:=f) h) h;refine⟨xs,h1,fun Y S ρ n H vs hs=>?_⟩;obtain⟨us,r,hd,hq,hlen⟩:=h2 Y S ρ n H _ hs;have hvl:=hs.len;have hr:r= []:=by
     have:=congrArg List.length hq;rw[List.length_append,hd.length,hlen]at this;exact List.eq_nil_of_length_eq_zero (by omega)
    subst hr;rw[List.append_nil]at hq;subst hq;exact .arr k e xs vs hd hlen
variable {Y:List Nat} {S:World→Prop} {ρ:Nat→Rz} {n:Nat} {H:Hs U}
theorem bn.one{x:Cx U}{vs:List Value}(h:bn U Y S ρ n H x vs): ∀v∈vs,v.oneCell'=true:=by
 cases x with
 |d s t=>exact aK.one h
 |own i v=>obtain⟨_,A,l,c,rfl,_⟩:=h;simp[Value.oneCell']
 |ptr i off=>obtain⟨_,_,g,_,rfl⟩:=h;simp[Value.oneCell']
 |pel i v q off=>obtain⟨_,a,rfl,_⟩:=h;simp[Value.oneCell']
 |pax i off m s q o=>obtain⟨_,_,_,_,g,_,rfl⟩:=h;simp[Value.oneCell']
 |pd s t=>obtain⟨g,b,us,rfl,_⟩:=h;simp[Value.oneCell']
 |nilp=>rw[show vs=_ from h];simp[Value.oneCell']
 |nils=>rw[show vs=_ from h];simp[Value.oneCell']
 |nilf=>rw[show vs=_ from h];simp[Value.oneCell']
 |nilm=>rw[show vs=_ from h];simp[Value.oneCell']
 |fn f=>rw[show vs=_ from h];simp[Value.oneCell']
 |clo f js=>rw[h.1];simp[Value.oneCell']
 |f1 a g=>obtain⟨u,rfl,⟨f,fi,ca,rfl⟩,_⟩:=h;simp[Value.oneCell']
 |f2 a b g=>obtain⟨u,rfl,⟨f,fi,ca,rfl⟩,_⟩:=h;simp[Value.oneCell']
 |mp i=>obtain⟨_,_,g,_,rfl⟩:=h;simp[Value.oneCell']
 |un=>obtain⟨u,rfl,h1⟩:=h;simpa using h1
theorem cg.one: ∀{l:List (ck U)} {vs:List Value},cg (bn U Y S ρ n H) l vs→ ∀v∈vs,v.oneCell'=true
 | [],vs,h=>by rw[show vs= []from h];simp
 |(k,x)::r,vs,h=>by
  obtain⟨v1,v2,rfl,hl,hx,hr⟩:=h;exact fun v hv=>(List.mem_append.1 hv).elim (hx.one v) (cg.one hr v)
end
end Go.Proofs.YtmpeiadlohbikaaGreatDoor.V
end

section
set_option linter.unusedVariables false
set_option linter.unusedSimpArgs false
namespace Go.Proofs.YtmpeiadlohbikaaGreatDoor.V
open Go.RowKit
section
variable [ay] {U:cw}
def Cu(P:Program)(U:cw)(d:KD U):Prop:= @fI _ d.dec P d.kt d.enc∧(∀Y S x vs v,aK U Y S d.k x vs→ef (e9 d.k) v vs→v=d.enc x)∧ ∃z,iS P d.vt=some z∧ ∀Y S,∃vs,ef (e9 d.v) z vs∧aK U Y S d.v d.zero vs
def we(U:cw)(d:KD U):Prop:=Cu ay.pr U d
def xH(P:Program)(t:Nat):Kd→Prop
 | .int k=>P.underlying t=some (.int k)
 | .bool=>P.underlying t=some .bool
 | .str=>P.underlying t=some .string
 | .sl e=>P.underlying t=some (.slice e)
 | .ptr e=>P.underlying t=some (.pointer e)
 | .st=> ∃fs,P.underlying t=some (.struct fs)
 | .arr n e=>P.underlying t=some (.array n e)
 | .mp k v=>P.underlying t=some (.map k v)
 | .fn=> ∃d,P.underlying t=some d
 | .ifc=> ∃d,P.underlying t=some d
structure jS(U:cw)(P:Program)(t:Nat)(s:bq):Prop where
 guard:P.eqGuardType P.depth t=false
 vals: ∀Y S (a b:TT U.ty s) vs us,aK U Y S s a vs→aK U Y S s b us→ ∃r,bg P 8 t vs us=some r∧(r=true↔a=b)
structure bd(U:cw)(P:Program)(t:Nat)(ti:TI U):Prop where
 size:(P.info? t).map (·.size)=some ti.sz
 kd:xH P t ti.kd
 one:uu ti.kd=false→eE P t=true
 by_:(P.info? t).map (·.bytes)=some ti.by_
 fs: ∀f off ft,d9 ti.fs f=some (off,ft)→eZ P t f=some off∧(match P.underlying t with|some (.struct fs)=>(fs[f]?).map (·.type)|_=>none)=some ft
 pl:ti.kd= .st→ ∃pls,mH P t=some pls∧ ∀f off ft,d9 ti.fs f=some (off,ft)→ ∃k,pls[f]? =some (off,k)∧(P.info? ft).map (·.size)=some k
 eq: ∀s,ti.sh=some s→ti.cmp=true→uu ti.kd=true∧jS U P t s
 mp: ∀d,ti.mp=some d→Cu P U d∧P.underlying t=some (.map d.kt d.vt)
 zero: ∃zs,zeroCells P t=some zs∧zs.length=ti.sz∧ ∀(F:ay) Y S ρ n H,cg (@bn F U Y S ρ n H) ti.zero zs
def bK(U:cw)(P:Program)(T:dO U):Prop:= ∀t ti,aI T t=some ti→bd U P t ti
def aJ(U:cw)(Y:List Nat)(S:World→Prop)(d:KD U):List (TT U.ty d.k×TT U.ty d.v)→List (TT U.ty d.k×Value)→Prop
 | [],[]=>True
 |(x,y)::l,(x',u)::m=>x=x'∧(∃vs,ef (e9 d.k) (d.enc x) vs∧aK U Y S d.k x vs)∧(∃vs,ef (e9 d.v) u vs∧aK U Y S d.v y vs)∧aJ U Y S d l m
 |_,_=>False
theorem aJ.mv{Y Y':List Nat}{S S':World→Prop}(m:Mv Y S Y' S'){d:KD U}: ∀{l:List (TT U.ty d.k×TT U.ty d.v)} {mv:List (TT U.ty d.k×Value)},aJ U Y S d l mv→aJ U Y' S' d l mv
 | [],[],h=>h
 |(x,y)::l,(x',u)::mv,⟨h1,⟨ks,h5,h6⟩,⟨vs,h2,h3⟩,h4⟩=>⟨h1,⟨ks,h5,aK.mv m h6⟩,⟨vs,h2,aK.mv m h3⟩,aJ.mv m h4⟩
 | [],_::_,h=>h.elim
 |_::_,[],h=>h.elim
section
variable {Y:List Nat} {S:World→Prop} {d:KD U}
omit [ay]in
theorem aJ.len: ∀{l:List (TT U.ty d.k×TT U.ty d.v)} {m:List (TT U.ty d.k×Value)},aJ U Y S d l m→l.length=m.length
 | [],[],_=>rfl
 |_::_,_::_,h=>by rw[List.length_cons,List.length_cons,aJ.len h.2.2.2]
 | [],_::_,h=>h.elim
 |_::_,[],h=>h.elim
omit [ay]in
theorem aJ.get(x:TT U.ty d.k): ∀{l:List (TT U.ty d.k×TT U.ty d.v)} {m:List (TT U.ty d.k×Value)},aJ U Y S d l m→
  (@bj _ _ d.dec l x=none∧ @bj _ _ d.dec m x=none)∨ ∃y u, @bj _ _ d.dec l x=some y∧ @bj _ _ d.dec m x=some u∧ ∃vs,ef (e9 d.v) u vs∧aK U Y S d.v y vs
 | [],[],_=> .inl ⟨rfl,rfl⟩
 |(k,y)::l,(k',u)::m,⟨h1,hk,h2,h3⟩=>by
  subst h1;by_cases e:k=x
  ·exact .inr ⟨y,u,by simp[bj,e],by simp[bj,e],h2⟩
  ·have e1: @bj _ _ d.dec ((k,y)::l) x= @bj _ _ d.dec l x:=by simp[bj,e]
   have e2: @bj _ _ d.dec ((k,u)::m) x= @bj _ _ d.dec m x:=by simp[bj,e]
   rw[e1,e2];exact aJ.get x h3
 | [],_::_,h=>h.elim
 |_::_,[],h=>h.elim
omit [ay]in
theorem aJ.set{x:TT U.ty d.k}{z:TT U.ty d.v}{q:Value}(hx: ∃vs,ef (e9 d.k) (d.enc x) vs∧aK U Y S d.k x vs)(hz: ∃vs,ef (e9 d.v) q vs∧aK U Y S d.v z vs): ∀{l:List (TT U.ty d.k×TT U.ty d.v)} {m:List (TT U.ty d.k×Value)},aJ U Y S d l m→aJ U Y S d (@cA _ _ d.dec l x z) (@cA _ _ d.dec m x q)
 | [],[],_=>⟨rfl,hx,hz,trivial⟩
 |(k,y)::l,(k',u)::m,⟨h1,hk,h2,h3⟩=>by
  subst h1;unfold cA;by_cases e:k=x
  ·simp only[e,if_true];exact⟨rfl,hx,hz,h3⟩
  ·simp only[e,if_false];exact⟨rfl,hk,h2,aJ.set hx hz h3⟩
 | [],_::_,h=>h.elim
 |_::_,[],h=>h.elim
omit [ay]in
theorem aJ.del{x:TT U.ty d.k}: ∀{l:List (TT U.ty d.k×TT U.ty d.v)} {m:List (TT U.ty d.k×Value)},aJ U Y S d l m→aJ U Y S d (@gN _ _ d.dec l x) (@gN _ _ d.dec m x)
 | [],[],_=>trivial
 |(k,y)::l,(k',u)::m,⟨h1,hk,h2,h3⟩=>by
  subst h1;unfold gN;by_cases e:k=x
  ·simp only[e,if_true];exact h3
  ·simp only[e,if_false];exact⟨rfl,hk,h2,aJ.del h3⟩
 | [],_::_,h=>h.elim
 |_::_,[],h=>h.elim
omit [ay]in
theorem aJ.part{a':List (TT U.ty d.k×Value)}{p':TT U.ty d.k×Value}{b':List (TT U.ty d.k×Value)}: ∀{l:List (TT U.ty d.k×TT U.ty d.v)},aJ U Y S d l (a'++p'::b')→
  ∃a p b,l=a++p::b∧p.1=p'.1∧(∃vs,ef (e9 d.k) (d.enc p.1) vs∧aK U Y S d.k p.1 vs)∧(∃vs,ef (e9 d.v) p'.2 vs∧aK U Y S d.v p.2 vs)∧aJ U Y S d (a++b) (a'++b'):=by
 induction a' with
 |nil=>
  intro l h;cases l with
  |nil=>exact h.elim
  |cons p l=>obtain⟨h1,hk,h2,h3⟩:=h;exact⟨[],p,l,rfl,h1,hk,h2,h3⟩
 |cons q a' ih=>
  intro l h;cases l with
  |nil=>exact h.elim
  |cons p l=>
   obtain⟨h1,hk,h2,h3⟩:=h;obtain⟨a,p2,b,e,e2,e5,e3,e4⟩:=ih h3;exact⟨p::a,p2,b,by rw[e];rfl,e2,e5,e3,h1,hk,h2,e4⟩
end
def lS(U:cw)(Y:List Nat)(S:World→Prop)(ρ:Nat→Rz)(n:Nat)(H:Hs U)(i:Nat):aU U→Prop
 | .cells l t=> ∃g vs,(ρ i).A=some ⟨g,0,none⟩∧cg (bn U Y S ρ n H) l vs∧ ∀w,S w→w.heap[g]? =some (Cl vs t)
 | .row v e xs t=>0<aQ U e∧ ∃cs sp,ba U Y S e xs cs∧Ow (ρ i).A xs.length (ρ i).c (aQ U e) cs sp∧ ∀g,ap (ρ i).A=some g→ ∀w,S w→w.heap[g]? =some (Cl (cs++sp) t)
 | .frz v e xs=>0<aQ U e∧ ∃cs,ba U Y S e xs cs∧sF Y S (ρ i).A cs∧xs.length≤(ρ i).c∧(ρ i).c≤maxLen
 | .map d l=>we U d∧ ∃g es clock mv,(ρ i).A=some ⟨g,0,none⟩∧nB d.enc (fun v:Value=>v) es clock mv∧aJ U Y S d l mv∧ ∀w,S w→w.heap[g]? =some (.map es clock)
 | .mapr d l left cur gh=>we U d∧ ∃g es clock mv lv cv,(ρ i).A=some ⟨g,0,none⟩∧pU d.enc (fun v:Value=>v) es clock mv lv cv gh∧aJ U Y S d l mv∧aJ U Y S d left lv∧aJ U Y S d cur cv∧ ∀w,S w→w.heap[g]? =some (.map es clock)
 | .it k gh=> ∃r g,(ρ i).A=some ⟨r,0,none⟩∧(ρ k).A=some ⟨g,0,none⟩∧k<n∧bC (aI H k)=none∧ ∀w,S w→w.heap[r]? =some (.mapIter (some g) gh.since gh.seen gh.c0)
 | .clo f l=>True
 | .hid _ _ _=>True
 | .dead=>True
def aC(ρ:Nat→Rz):Nat×aU U→Option Nat
 |(i,.cells _ _)=>ap (ρ i).A
 |(i,.row _ _ _ _)=>ap (ρ i).A
 |(i,.map _ _)=>ap (ρ i).A
 |(i,.mapr _ _ _ _ _)=>ap (ρ i).A
 |(i,.it _ _)=>ap (ρ i).A
 |_=>none
def ao(ρ:Nat→Rz)(H:Hs U):List Nat:=H.filterMap (aC ρ)
def sQ(S:World→Prop):Prop:=(∀z∈gB,z∈ay.xf)∧ ∀w,S w→Gv w
theorem sQ.fr{O:List Nat}{w w':World}(h:sQ (· =w))(hf:Fr O w w')(hO: ∀o∈O,o∉ay.xf):sQ (· =w'):=⟨h.1,fun w2 h2=>by subst h2;exact(h.2 w rfl).fr hf fun o ho hb=>hO o ho (h.1 o hb)⟩
structure bH(U:cw)(X:List Nat)(S:World→Prop)(ρ:Nat→Rz)(n:Nat)(H:Hs U):Prop where
 nd:(H.map (·.1)).Nodup
 lt: ∀p∈H,p.1<n
 ent: ∀p∈H,lS U (ao ρ H++X) S ρ n H p.1 p.2
 inj: ∀p∈H,∀q∈H,∀g,aC ρ p=some g→aC ρ q=some g→p.1=q.1
 dj: ∀g∈ao ρ H,g∉X
 lo: ∀w,S w→ ∀x∈X,x<w.heap.size
 xs: ∀x∈ay.xf,x∈X
 gv:sQ S
def de(V:Cx U→List Value→Prop)(x:Va U)(v:Value):Prop:=match x.ag with
 |true=> ∃vs:List Value,v= .agg vs.toArray∧cg V x.l vs
 |false=>cg V x.l [v]
def cx(V:Cx U→List Value→Prop):List (Va U)→List Value→Prop
 | [],vs=>vs= []
 |x::r,vs=> ∃v us,vs=v::us∧de V x v∧cx V r us
def pZ(V:Cx U→List Value→Prop):AV U→Value→Prop
 | .v x,u=>de V x u
 | .tup l,u=> ∃us:List Value,u= .tuple us.toArray∧cx V l us
 |_,_=>True
def gO(R e:En U)(s:Nat):Option Bool:=match aI R s with
 |some (.gd _ ⟨false,(_,.d .bool c):: []⟩)=>some c
 |some _=>none
 |none=>(match aI e s with
  |some (.v ⟨false,(_,.d .bool c):: []⟩)=>some c
  |_=>none)
def bB(R e:En U)(p:dv):Prop:= ∀x∈p,gO R e x.1=some x.2
structure bc(V:Cx U→List Value→Prop)(R e:En U)(ce:aS):Prop where
 v: ∀k x,aI R k=none→aI e k=some (.v x)→ ∃u,ce.get k=some u∧de V x u
 t: ∀k l,aI R k=none→aI e k=some (.tup l)→ ∃us:List Value,ce.get k=some (.tuple us.toArray)∧cx V l us
 g: ∀k p x,aI R k=some (.gd p x)→ ∃u,ce.get k=some u∧(bB R e p→de V x u)∧(¬bB R e p→u=undef)
omit [ay]in
theorem y2{R e:En U}{s:Nat}{K:Bool→Prop}(h:v6 R e s K False): ∃c,gO R e s=some c∧K c:=by
 unfold v6 at h;unfold gO;split at h
 ·rename_i q k c hc;rw[hc];exact⟨_,rfl,h⟩
 ·exact h.elim
 ·rename_i hn;split at h
  ·rename_i k c hc;rw[hn,hc];exact⟨_,rfl,h⟩
  ·exact h.elim
omit [ay]in
theorem lT{R e:En U}: ∀{p:dv} {A:Prop},qf R e p A→bB R e p→A
 | [],A,h,_=>h
 |x::p,A,h,ht=>by
  obtain⟨c,hc,hK⟩:=y2 (show v6 R e x.1 (fun c=>c=x.2→qf R e p A) False from h);have:=ht x (by simp);rw[hc]at this;injection this with this;exact lT (hK this) fun y hy=>ht y (by simp[hy])
omit [ay]in
theorem ko: ∀{p q:dv},fK p q=true→p=q
 | [],[],_=>rfl
 |(s,true)::p,(t,true)::q,h=>by
  simp only[fK]at h;cases hb:Nat.beq s t with
  |false=>rw[hb]at h;cases h
  |true=>rw[hb]at h;rw[Nat.eq_of_beq_eq_true hb,ko h]
 |(s,false)::p,(t,false)::q,h=>by
  simp only[fK]at h;cases hb:Nat.beq s t with
  |false=>rw[hb]at h;cases h
  |true=>rw[hb]at h;rw[Nat.eq_of_beq_eq_true hb,ko h]
 |(s,true)::p,(t,false)::q,h=>by simp[fK]at h
 |(s,false)::p,(t,true)::q,h=>by simp[fK]at h
 | [],_::_,h=>by simp[fK]at h
 |(_,_)::_,[],h=>by simp[fK]at h
omit [ay]in
theorem nG{q:dv}: ∀{p:dv},iE q p=true→ ∀x∈q,x∈p
 | [],h,x,hx=>by have:=ko (show fK q []=true from h);rw[this]at hx;exact hx
 |y::p,h,x,hx=>by
  have h:(fK q (y::p)||iE q p)=true:=h;rw[Bool.or_eq_true]at h;rcases h with h|h
  ·have:=ko h;rw[this]at hx;exact hx
  ·exact List.mem_cons_of_mem _ (nG h x hx)
omit [ay]in
theorem bB.suf{R e:En U}{p q:dv}(h:bB R e p)(hs:iE q p=true):bB R e q:=fun x hx=>h x (nG hs x hx)
omit [ay]in
theorem Cw{k:IntKind}{p:Int}(h:B9 k p=true):eF k p:=by
 cases k<;>cases p<;>simp only[B9,Nat.ble_eq]at h<;>simp only[eF]<;>first|(cases h;done)|(simp only[Int.ofNat_eq_natCast];omega)|omega
variable {Y:List Nat} {S:World→Prop} {ρ:Nat→Rz} {n:Nat} {H:Hs U} {R e:En U} {ce:aS} {p:dv}
omit [ay]in
theorem Pq{V:Cx U→List Value→Prop}{x:Cx U}{v:Value}(h:V x [v]):cg V [(1,x)] [v]:=⟨[v],[],rfl,rfl,h,rfl⟩
omit [ay]in
theorem iz{V:Cx U→List Value→Prop}{x:Cx U}{v:Value}(h:V x [v]):de V ⟨false,[(1,x)]⟩ v:=Pq h
theorem xI{v:Value}{K:Va U→Prop}(h:uy v K): ∃x,K x∧de (bn U Y S ρ n H) x v:=by
 unfold uy at h;split at h
 ·rename_i k q;cases hb:B9 k q with
  |false=>rw[hb]at h;exact h.elim
  |true=>rw[hb]at h;exact⟨_,h,iz (aK.int k q (Cw hb))⟩
 ·exact⟨_,h,iz (aK.bool _)⟩
 ·rename_i l;cases hb:Nat.ble l.length 9223372036854775807 with
  |false=>rw[hb]at h;exact h.elim
  |true=>rw[hb]at h;exact⟨_,h,iz (aK.str l (Nat.le_of_ble_eq_true hb))⟩
 ·exact⟨_,h,iz rfl⟩
 ·exact⟨_,h,iz rfl⟩
 ·exact⟨_,h,iz rfl⟩
 ·exact⟨_,h,iz rfl⟩
 ·exact h.elim
theorem dT{o:Operand}{K:Va U→Prop}(h:lL p R e o K)(he:bc (bn U Y S ρ n H) R e ce): ∃x,K x∧(bB R e p→ ∃v,ce.ev o=some v∧de (bn U Y S ρ n H) x v):=by
 unfold lL at h;split at h
 ·rename_i t;split at h
  ·rename_i q x hx;cases hb:iE q p with
   |false=>rw[hb]at h;exact h.elim
   |true=>
    rw[hb]at h;obtain⟨u,hu,h1,_⟩:=he.g _ _ _ hx;exact⟨x,h,fun hp=>⟨u,hu,h1 (hp.suf hb)⟩⟩
  ·exact h.elim
  ·rename_i hn;split at h
   ·rename_i x hx;obtain⟨u,hu,h1⟩:=he.v _ _ hn hx;exact⟨x,h,fun _=>⟨u,hu,h1⟩⟩
   ·exact h.elim
 ·rename_i v;obtain⟨x,hx,hv⟩:=xI h;exact⟨x,hx,fun _=>⟨v,rfl,hv⟩⟩
 ·exact⟨_,h,fun _=>⟨_,rfl,iz rfl⟩⟩
 ·exact h.elim
theorem iG: ∀{l:List Operand} {K:List (Va U)→Prop},qX p R e l K→bc (bn U Y S ρ n H) R e ce→ ∃xs,K xs∧(bB R e p→ ∃vs,ce.evs l=some vs∧cx (bn U Y S ρ n H) xs vs)
 | [],K,h,he=>⟨[],h,fun _=>⟨[],rfl,rfl⟩⟩
 |o::l,K,h,he=>by
  obtain⟨x,h1,hx⟩:=dT (show lL p R e o (fun v=>qX p R e l fun r=>K (v::r))from h) he;obtain⟨xs,h2,hxs⟩:=iG (l:=l) h1 he;refine⟨_,h2,fun hp=>?_⟩;obtain⟨v,e1,v1⟩:=hx hp;obtain⟨vs,e2,v2⟩:=hxs hp;exact⟨v::vs,by simp only[aS.evs,e1,e2],v,vs,rfl,v1,v2⟩
theorem de.single{x:Va U}{k:Nat}{c:Cx U}{v:Value}(h:de (bn U Y S ρ n H) x v)(hl:x.l= [(k,c)]): ∃vs,bn U Y S ρ n H c vs∧vs.length=k∧v.cells.toList=vs∧(x.ag=false→vs= [v]):=by
 unfold de at h;split at h
 ·rename_i ha;obtain⟨vs,rfl,hs⟩:=h;rw[hl]at hs;exact⟨vs,hs.one1.1,hs.one1.2,by simp[Value.cells],fun hf=>by rw[ha]at hf;cases hf⟩
 ·rename_i ha;rw[hl]at h;refine⟨[v],h.one1.1,h.one1.2,?_,fun _=>rfl⟩;have:=h.one1.1.one v (by simp);cases v<;>first|rfl|(simp[Value.oneCell']at this)
theorem de.cells{x:Va U}{v:Value}(h:de (bn U Y S ρ n H) x v):cg (bn U Y S ρ n H) x.l v.cells.toList:=by
 unfold de at h;split at h
 ·obtain⟨vs,rfl,hs⟩:=h;simpa[Value.cells]using hs
 ·have:=h.one v (by simp);cases v<;>first|exact h|(simp[Value.oneCell']at this)
theorem de.int{x:Va U}{k:Nat}{kd:IntKind}{q:Int}{v:Value}(h:de (bn U Y S ρ n H) x v)(hl:x.l= [(k,.d (.int kd) q)]):eF kd q∧(v= .int kd q∨v= .agg #[.int kd q]):=by
 obtain⟨vs,h1,h2,h3,h4⟩:=h.single hl;have hd:=(show aK U Y S (.int kd) q vs from h1).inv;refine⟨hd.2,?_⟩;rw[hd.1]at h3 h4;cases hx:x.ag with
 |false=>have:=h4 hx;injection this with this;exact .inl this.symm
 |true=>
  unfold de at h;rw[hx]at h;obtain⟨us,rfl,hs⟩:=h;simp[Value.cells]at h3;rw[h3];exact .inr rfl
end
end Go.Proofs.YtmpeiadlohbikaaGreatDoor.V
end

section
set_option linter.unusedVariables false
set_option linter.unusedSimpArgs false
namespace Go.Proofs.YtmpeiadlohbikaaGreatDoor.V
open Go.RowKit
section
variable [ay] {U:cw} {P:Program} {nt:Nat} {T:dO U} {X:List Nat} {S:World→Prop} {ρ:Nat→Rz} {n:Nat} {H:Hs U} {R e:En U} {ce:aS} {p:dv} {o:Oper}
omit [ay]in
theorem ar{α:Type}: ∀{l:List (Nat×α)} {i:Nat} {x:α},aI l i=some x→(i,x)∈l
 |(j,y)::r,i,x,h=>by
  unfold aI at h;cases hb:Nat.beq j i with
  |true=>rw[hb]at h;injection h with h;rw[←h,Nat.eq_of_beq_eq_true hb];simp
  |false=>rw[hb]at h;exact List.mem_cons_of_mem _ (ar h)
theorem bU{Y:List Nat}{o:Operand}{K:Cx U→Prop}(h:jn p R e o K)(he:bc (bn U Y S ρ n H) R e ce): ∃c,K c∧(bB R e p→ ∃v,ce.ev o=some v∧bn U Y S ρ n H c [v]):=by
 obtain⟨x,hx,hv⟩:=dT h he;unfold Gi at hx;split at hx
 ·rename_i k c;refine⟨c,hx,fun hp=>?_⟩;obtain⟨v,e1,e2⟩:=hv hp;exact⟨v,e1,(show cg _ [(k,c)] [v]from e2).one1.1⟩
 ·exact hx.elim
structure y3(S:World→Prop)(l m:Nat)(A:Option Addr)(c:Nat)(cs:List Value):Prop where
 src: ∀w,S w→ ∀ad,A=some ad→ ∀j u,cs[j]? =some u→w.cell? (ad.add j)=some u
 none_:A=none→l=0
 mid: ∀ad,A=some ad→0<l→ad.spot=none
 lc:l≤c
 cm:c≤maxLen
 len:cs.length=l*m
 pos:0<m
omit [ay]in
theorem y4{Y:List Nat}{l m c:Nat}{A:Option Addr}{cs:List Value}(h:sF Y S A cs)(hl:cs.length=l*m)(hm:0<m)(hlc:l≤c)(hc:c≤maxLen)(hS: ∃w,S w):y3 S l m A c cs:=by
 refine⟨fun w hw ad hA j u hj=>(h w hw).src ad hA j u hj,fun hA=>?_,fun ad hA hl0=>?_,hlc,hc,hl,hm⟩
 ·obtain⟨w,hw⟩:=hS;exact mO (h w hw) hA hl hm
 ·obtain⟨w,hw⟩:=hS;obtain⟨g,b,e1⟩:=(h w hw).addr (by rw[hl];exact Nat.mul_pos hl0 hm);rw[hA]at e1;injection e1 with e1;rw[e1]
omit [ay]in
theorem GN{l c m:Nat}{A:Option Addr}{cs sp:List Value}{t:Nat}(ho:Ow A l c m cs sp)(hb: ∀g,ap A=some g→ ∀w,S w→w.heap[g]? =some (Cl (cs++sp) t))(hm:0<m):y3 S l m A c cs:=by
 refine⟨fun w hw ad hA j u hj=>?_,fun hA=>ue ho hA,fun ad hA _=>?_,?_,?_,ho.1,hm⟩
 ·subst hA;rcases ho.2 with⟨h0,_⟩|⟨g,e1,_⟩
  ·cases h0
  injection e1 with e1;subst e1;rw[Addr.add_mid,Nat.zero_add,cell_of_row w g j (cs++sp).toArray t (0,0) (hb g rfl w hw)];simp only[List.getElem?_toArray];rw[List.getElem?_append_left (List.getElem?_eq_some_iff.1 hj).1];exact hj
 ·rcases ho.2 with⟨h0,_⟩|⟨g,e1,_⟩
  ·rw[h0]at hA;cases hA
  ·rw[hA]at e1;injection e1 with e1;rw[e1]
 ·rcases ho.2 with⟨_,h0,h1,_⟩|⟨g,_,_,h1,_⟩
  ·omega
  ·exact h1
 ·rcases ho.2 with⟨_,h0,h1,_⟩|⟨g,_,_,_,h1⟩
  ·rw[h1];exact Nat.zero_le _
  ·exact h1
theorem q8{x:Cx U}{K:(s:bq)→List (TT U.ty s)→Prop}(h:uz H x K)(M:bH U X S ρ n H)(hS: ∃w,S w):
  ∃s xs,K s xs∧ ∀vs,bn U (ao ρ H++X) S ρ n H x vs→ ∃A c cs,vs= [.slice A xs.length c]∧ba U (ao ρ H++X) S s xs cs∧y3 S xs.length (aQ U s) A c cs:=by
 unfold uz at h;split at h
 ·rename_i s xs;cases hb:Nat.blt 0 (aQ U s)with
  |false=>rw[hb]at h;exact h.elim
  |true=>
   rw[hb]at h;have hb:0<aQ U s:=by simpa[Nat.blt_eq]using hb
   refine⟨s,xs,h,fun vs hv=>?_⟩;obtain⟨A,c,cs,rfl,hd,hr,h1,h2⟩:=(show aK U _ S (.sl s) xs vs from hv).inv;exact⟨A,c,cs,rfl,hd,y4 hr hd.length hb h1 h2 hS⟩
 ·rename_i i v;split at h
  ·rename_i v' s xs t hl;cases hb:Nat.beq v v' with
   |false=>rw[hb]at h;exact h.elim
   |true=>
    rw[hb]at h;refine⟨s,xs,h,fun vs hv=>?_⟩;obtain⟨_,A,l,c,rfl,hn⟩:=hv;obtain⟨rfl,rfl,rfl⟩:=(hn _ _ _ (by rw[hl];rfl)).2 (Nat.eq_of_beq_eq_true hb);obtain⟨hm,cs,sp,hd,ho,hb⟩:=M.ent _ (ar hl);exact⟨_,_,cs,rfl,hd,GN ho hb hm⟩
  ·rename_i v' s xs hl;cases hb:Nat.beq v v' with
   |false=>rw[hb]at h;exact h.elim
   |true=>
    rw[hb]at h;refine⟨s,xs,h,fun vs hv=>?_⟩;obtain⟨_,A,l,c,rfl,hn⟩:=hv;obtain⟨rfl,rfl,rfl⟩:=(hn _ _ _ (by rw[hl];rfl)).2 (Nat.eq_of_beq_eq_true hb);obtain⟨hm,cs,hd,hr,h1,h2⟩:=M.ent _ (ar hl);exact⟨_,_,cs,rfl,hd,y4 hr hd.length hm h1 h2 hS⟩
  ·exact h.elim
 ·exact h.elim
omit [ay]in
theorem q9{t:Nat}{ti:TI U}(h:bd U P t ti)(ha:uu ti.kd=true):bJ P t=some ti.sz:=by
 have hk:=h.kd;unfold bJ;cases hkd:ti.kd with
 |st=>rw[hkd]at hk;obtain⟨fs,hk⟩:=hk;rw[hk];exact h.size
 |arr k e=>rw[hkd]at hk;rw[show P.underlying t=_ from hk];exact h.size
 |_=>rw[hkd]at ha;cases ha
omit [ay]in
theorem oB{t:Nat}{ti:TI U}(h:bd U P t ti)(ha:uu ti.kd=false):ti.sz=1:=by
 have hp:=h.one ha;have hs:=h.size;unfold eE at hp;split at hp
 ·cases hp
 ·cases hp
 ·cases hq:P.info? t with
  |none=>rw[hq]at hs;cases hs
  |some i=>rw[hq]at hp hs;simp at hp hs;omega
 ·cases hp
theorem mW{t:Nat}{l:List (ck U)}{K:Va U→Prop}(h:ER T t l K)(hT:bK U P T):
  ∃v,K v∧ ∃ti,aI T t=some ti∧lP U fun V Y S=> ∀vs,cg V l vs→vs.length=ti.sz→ ∃u,de V v u∧(uu ti.kd=true→u= .agg vs.toArray)∧(uu ti.kd=false→vs= [u]):=by
 unfold ER at h;split at h
 ·rename_i ti hti;have htk:=hT _ _ hti;cases ha:uu ti.kd with
  |true=>
   simp only[ha]at h;exact⟨_,h,ti,hti,fun Y S ρ n H vs hs hl=>⟨_,⟨vs,rfl,hs⟩,fun _=>rfl,fun hf=>(by rw[ha]at hf;cases hf)⟩⟩
  |false=>
   simp only[ha]at h;have h1:=oB htk ha;have one: ∀vs:List Value,vs.length=ti.sz→ ∃v,vs= [v]:=fun vs hl=>by
    match vs,hl with
    | [v],_=>exact⟨v,rfl⟩
    | [],hl=>simp at hl;omega
    |_::_::_,hl=>simp at hl;omega
   split at h
   ·rename_i m i x;obtain⟨l',hK,hs'⟩:=lQ h;refine⟨_,hK,ti,hti,fun Y S ρ n H vs hs hl=>?_⟩;obtain⟨v,rfl⟩:=one vs hl;exact⟨v,hs' Y S ρ n H _ hs.one1.1,fun hf=>(by rw[ha]at hf;cases hf),fun _=>rfl⟩
   ·refine⟨_,h,ti,hti,fun Y S ρ n H vs hs hl=>?_⟩;obtain⟨v,rfl⟩:=one vs hl;exact⟨v,hs,fun hf=>(by rw[ha]at hf;cases hf),fun _=>rfl⟩
 ·exact h.elim
omit [ay]in
theorem oC{t:Nat}{ti:TI U}(hti:bd U P t ti){vs:List Value}{u:Value}(hl:vs.length=ti.sz)(h1:uu ti.kd=true→u= .agg vs.toArray)(h2:uu ti.kd=false→vs= [u]){w:World}{g k:Nat}(hr:w.rangeAt g k vs):(loadVar t ⟨g,k,none⟩).run P w= .ok u w:=by
 cases ha:uu ti.kd with
 |true=>rw[h1 ha];exact jR (q9 hti ha) hl hr
 |false=>have:=h2 ha;subst this;exact iT (hti.one ha) (by simpa using hr 0 u rfl)
omit [ay]in
theorem mX{w:World}{g:Nat}{t:Nat}{vs:List Value}(h:w.heap[g]? =some (Cl vs t))(off k:Nat):w.rangeAt g off ((vs.drop off).take k):=fun j v hj=>by
 rw[List.getElem?_take]at hj;split at hj
 ·rw[List.getElem?_drop]at hj;rw[cell_of_row w g (off+j) vs.toArray t (0,0) h];simpa using hj
 ·cases hj
omit [ay]in
theorem gQ{α:Type}{vs:List α}{q m off k:Nat}(h:off+k≤m):(((vs.drop q).take m).drop off).take k=(vs.drop (q+off)).take k:=by
 rw[List.drop_take,List.take_take,List.drop_drop,Nat.min_eq_left (by omega)]
def Ps(P:Program)(V:Cx U→List Value→Prop)(S:World→Prop)(t:Nat)(x:Cx U)(v:Va U):Prop:= ∀u0,V x [u0]→ ∃A u,u0= .pointer (some A)∧de V v u∧ ∀w,S w→(loadVar t A).run P w= .ok u w
omit [ay]in
theorem oa{q l m:Nat}(h:q<l):q*m+m≤l*m:=by
 have:=Nat.mul_le_mul_right m (show q+1≤l from h);rw[Nat.add_mul,Nat.one_mul]at this;exact this
omit [ay]in
theorem xJ{w:World}{g off m k q l:Nat}{cs sp:List Value}{t:Nat}(h:w.heap[g]? =some (Cl (cs++sp) t))(hl:cs.length=l*m)(hq:q<l)(ho:off+k≤m):w.rangeAt g (q*m+off) ((((cs.drop (q*m)).take m).drop off).take k):=by
 rw[gQ ho];have:=mX h (q*m+off) k;have h2:=oa (m:=m) hq;rw[List.drop_append_of_le_length (by omega),List.take_append_of_le_length (by rw[List.length_drop];omega)]at this;exact this
omit [ay]in
theorem y5{Y:List Nat}{A:Option Addr}{g off m k q l:Nat}{cs:List Value}(h:sF Y S A cs)(hA:A=some ⟨g,0,none⟩)(ho:off+k≤m){w:World}(hw:S w):w.rangeAt g (q*m+off) ((((cs.drop (q*m)).take m).drop off).take k):=by
 rw[gQ ho];subst hA;have:=(h w hw).range (q*m+off) k;rw[Nat.zero_add]at this;exact this
theorem sR{t:Nat}{x:Cx U}{K:Va U→Prop}(h:sD T t H x K)(M:bH U X S ρ n H)(hT:bK U P T):
  ∃v,K v∧Ps P (bn U (ao ρ H++X) S ρ n H) S t x v:=by
 unfold sD at h;split at h
 ·rename_i ti hti;have htk:=hT _ _ hti;split at h
  ·rename_i i off;split at h
   ·rename_i l ty hl;obtain⟨l',hK,hs'⟩:=gi h;obtain⟨v,hv,ti',hti',hva⟩:=mW hK hT;rw[hti]at hti';injection hti' with hti';subst hti';refine⟨v,hv,fun u0 h0=>?_⟩;obtain⟨g,vs,hA,hs,hb⟩:=M.ent _ (ar hl);obtain⟨a1,a2⟩:=hs' _ _ _ _ _ _ hs;have hlen:((vs.drop off).take ti.sz).length=ti.sz:=by rw[List.length_take,List.length_drop];omega
    obtain⟨u,hu,e1,e2⟩:=hva _ _ _ _ _ _ a1 hlen;obtain⟨_,_,g',hA',e3⟩:=h0;rw[hA]at hA';injection hA' with hA';injection hA' with hA';subst hA';injection e3 with e3;exact⟨_,u,e3,hu,fun w hw=>oC htk hlen e1 e2 (mX (hb w hw) _ _)⟩
   ·exact h.elim
  ·rename_i i v q off;split at h
   ·rename_i v' s xs ty hl;cases hbq:Nat.beq v v' with
    |false=>rw[hbq]at h;exact h.elim
    |true=>
     rw[hbq]at h;obtain⟨x,hx,hix⟩:=iU h;obtain⟨l',hK,hs'⟩:=gi hx;obtain⟨va,hv,ti',hti',hva⟩:=mW hK hT;rw[hti]at hti';injection hti' with hti';subst hti';refine⟨va,hv,fun u0 h0=>?_⟩;obtain⟨hm,cs,sp,hd,ho,hb⟩:=M.ent _ (ar hl);obtain⟨_,a,e3,hn⟩:=h0;obtain⟨g,hA,ha,hq0,hq1⟩:=(hn _ _ _ (by rw[hl];rfl)).2 (Nat.eq_of_beq_eq_true hbq);injection e3 with e3;have hxq:=hix _ (List.getElem?_eq_getElem (show q.toNat<xs.length by omega));have hat:=hd.at q.toNat _ (List.getElem?_eq_getElem (show q.toNat<xs.length by omega));rw[←hxq]at hat;have hatl:=hat.length;obtain⟨a1,a2⟩:=hs' (ao ρ H++X) S ρ n H _ ⟨_,[],(List.append_nil _).symm,hatl,hat,rfl⟩;rw[hatl]at a2;have hlen:(((((cs.drop (q.toNat*aQ U s)).take (aQ U s))).drop off).take ti.sz).length=ti.sz:=by rw[List.length_take,List.length_drop,hatl];omega
     obtain⟨u,hu,e1,e2⟩:=hva _ _ _ _ _ _ a1 hlen;subst ha;exact⟨_,u,e3,hu,fun w hw=>oC htk hlen e1 e2 (xJ (hb g (by rw[hA];rfl) w hw) hd.length (by omega) a2)⟩
   ·rename_i v' s xs hl;cases hbq:Nat.beq v v' with
    |false=>rw[hbq]at h;exact h.elim
    |true=>
     rw[hbq]at h;obtain⟨x,hx,hix⟩:=iU h;obtain⟨l',hK,hs'⟩:=gi hx;obtain⟨va,hv,ti',hti',hva⟩:=mW hK hT;rw[hti]at hti';injection hti' with hti';subst hti';refine⟨va,hv,fun u0 h0=>?_⟩;obtain⟨hm,cs,hd,hr,_,_⟩:=M.ent _ (ar hl);obtain⟨_,a,e3,hn⟩:=h0;obtain⟨g,hA,ha,hq0,hq1⟩:=(hn _ _ _ (by rw[hl];rfl)).2 (Nat.eq_of_beq_eq_true hbq);injection e3 with e3;have hxq:=hix _ (List.getElem?_eq_getElem (show q.toNat<xs.length by omega));have hat:=hd.at q.toNat _ (List.getElem?_eq_getElem (show q.toNat<xs.length by omega));rw[←hxq]at hat;have hatl:=hat.length;obtain⟨a1,a2⟩:=hs' (ao ρ H++X) S ρ n H _ ⟨_,[],(List.append_nil _).symm,hatl,hat,rfl⟩;rw[hatl]at a2;have hlen:(((((cs.drop (q.toNat*aQ U s)).take (aQ U s))).drop off).take ti.sz).length=ti.sz:=by rw[List.length_take,List.length_drop,hatl];omega
     obtain⟨u,hu,e1,e2⟩:=hva _ _ _ _ _ _ a1 hlen;subst ha;exact⟨_,u,e3,hu,fun w hw=>oC htk hlen e1 e2 (y5 (l:=xs.length) hr hA a2 hw)⟩
   ·exact h.elim
  ·rename_i i off k s q o;split at h
   ·rename_i l ty hl;obtain⟨la,h,hla⟩:=gi h;obtain⟨(xs:List (TT U.ty s)),h,hxs⟩:=bI h;obtain⟨x,hx,hix⟩:=iU h;obtain⟨l',hK,hs'⟩:=gi hx;obtain⟨va,hv,ti',hti',hva⟩:=mW hK hT;rw[hti]at hti';injection hti' with hti';subst hti';refine⟨va,hv,fun u0 h0=>?_⟩;obtain⟨g,vs,hA,hs,hb⟩:=M.ent _ (ar hl);obtain⟨_,_,hq0,hq1,g',hA',e3⟩:=h0;rw[hA]at hA';injection hA' with hA';injection hA' with hA';subst hA';injection e3 with e3;obtain⟨b1,b2⟩:=hla _ _ _ _ _ _ hs;obtain⟨hd1,hd2⟩:=aK.inv (hxs _ _ _ _ _ _ b1);have hqk:q.toNat<xs.length:=by have:xs.length=k:=hd2;omega
    have hxq:=hix _ (List.getElem?_eq_getElem hqk);have hat:=hd1.at q.toNat _ (List.getElem?_eq_getElem hqk);rw[←hxq]at hat;have hatl:=hat.length;obtain⟨a1,a2⟩:=hs' (ao ρ H++X) S ρ n H _ ⟨_,[],(List.append_nil _).symm,hatl,hat,rfl⟩;rw[hatl]at a2;have hlen:=show((((((vs.drop off).take (k*aQ U s)).drop (q.toNat*aQ U s)).take (aQ U s)).drop o).take ti.sz).length=ti.sz by rw[List.length_take,List.length_drop,hatl];omega
    obtain⟨u,hu,e1,e2⟩:=hva _ _ _ _ _ _ a1 hlen;have hrow:=oa (m:=aQ U s) (show q.toNat<k by omega);refine⟨_,u,e3,hu,fun w hw=>oC htk hlen e1 e2 ?_⟩;rw[gQ (k:=aQ U s) hrow,gQ a2];exact mX (hb w hw) _ _
   ·exact h.elim
  ·rename_i s x;cases hbq:Nat.beq ti.sz (aQ U s)with
   |false=>rw[hbq]at h;exact h.elim
   |true=>
    rw[hbq]at h;have hsz:=Nat.eq_of_beq_eq_true hbq;obtain⟨va,hv,ti',hti',hva⟩:=mW h hT;rw[hti]at hti';injection hti' with hti';subst hti';refine⟨va,hv,fun u0 h0=>?_⟩;obtain⟨g,b,us,e3,hd,hr⟩:=h0;injection e3 with e3;have hl:=hd.length;obtain⟨u,hu,e1,e2⟩:=hva (ao ρ H++X) S ρ n H _ ⟨_,[],(List.append_nil _).symm,hl,hd,rfl⟩ (by omega);refine⟨_,u,e3,hu,fun w hw=>oC htk (by omega) e1 e2 ?_⟩;have:=(hr w hw).range 0 us.length;simpa using this
  ·exact h.elim
 ·exact h.elim
omit [ay]in
theorem wf{i v:Nat}(hc:pW H i v=true): ∃l m,bC (aI H i)=some (v,l,m):=by
 unfold pW at hc;split at hc
 ·rename_i hl;rw[hl];exact⟨_,_,by rw[Nat.eq_of_beq_eq_true hc];rfl⟩
 ·rename_i hl;rw[hl];exact⟨_,_,by rw[Nat.eq_of_beq_eq_true hc];rfl⟩
 ·cases hc
theorem wg{Y:List Nat}{i v off:Nat}{q:Int}{u:Value}(h:bn U Y S ρ n H (.pel i v q off) [u])(hc:pW H i v=true): ∃A,u= .pointer (some A):=by
 obtain⟨l,m,hr⟩:=wf hc;obtain⟨hi,a,e1,hn⟩:=h;injection e1 with e1;obtain⟨g,hA,ha,hq⟩:=(hn _ _ _ hr).2 rfl;exact⟨_,by rw[e1,ha]⟩
theorem Cy{t f:Nat}{x:Cx U}{K:Cx U→Prop}(h:Gj T t f H x K)(hT:bK U P T): ∃c off,K c∧eZ P t f=some off∧ ∀u0,bn U (ao ρ H++X) S ρ n H x [u0]→ ∃g k,u0= .pointer (some ⟨g,k,none⟩)∧bn U (ao ρ H++X) S ρ n H c [.pointer (some ⟨g,k+off,none⟩)]:=by
 unfold Gj at h;split at h
 ·rename_i ti hti;have htk:=hT _ _ hti;split at h
  ·rename_i off ft hf;have hfo:=(htk.fs _ _ _ hf).1;split at h
   ·rename_i i o;refine⟨_,off,h,hfo,fun u0 h0=>?_⟩;obtain⟨hi,hr,g,hA,e1⟩:=h0;injection e1 with e1;exact⟨g,o,e1,hi,hr,g,hA,rfl⟩
   ·rename_i i v q o;cases hc:pW H i v with
    |false=>rw[hc]at h;exact h.elim
    |true=>
     rw[hc]at h;refine⟨_,off,h,hfo,fun u0 h0=>?_⟩;obtain⟨hi,a,e1,hn⟩:=h0;injection e1 with e1;obtain⟨l,m,hr⟩:=wf hc;obtain⟨g,hA,ha,hq⟩:=(hn _ _ _ hr).2 rfl;subst ha;refine⟨g,_,e1,hi,_,by rw[Nat.add_assoc],fun v' l' m' hr'=>?_⟩;rw[hr]at hr';injection hr' with hr';injection hr' with h1 hr';injection hr' with h2 h3;subst h1;subst h2;subst h3;exact⟨Nat.le_refl _,fun _=>⟨g,hA,rfl,hq⟩⟩
   ·rename_i i o k s q o';refine⟨_,off,h,hfo,fun u0 h0=>?_⟩;obtain⟨hi,hr,h1,h2,g,hA,e1⟩:=h0;injection e1 with e1;exact⟨g,_,e1,hi,hr,h1,h2,g,hA,by rw[Nat.add_assoc]⟩
   ·rename_i s y;split at h
    ·rename_i fi hfi;obtain⟨l',hK,hs'⟩:=gi h;split at hK
     ·rename_i m s' y';cases hb:Nat.beq ti.sz (aQ U s)with
      |false=>rw[hb]at hK;exact hK.elim
      |true=>
       rw[hb]at hK;refine⟨_,off,hK,hfo,fun u0 h0=>?_⟩;obtain⟨g,b,us,e1,hd,hr⟩:=h0;injection e1 with e1;obtain⟨a1,a2⟩:=hs' (ao ρ H++X) S ρ n H _ ⟨_,[],(List.append_nil _).symm,hd.length,hd,rfl⟩;refine⟨g,b,e1,g,b+off,_,rfl,a1.one1.1,fun w hw=>?_⟩;exact((hr w hw).drop off).take fi.sz
     ·exact hK.elim
    ·exact h.elim
   ·exact h.elim
  ·exact h.elim
 ·exact h.elim
end
end Go.Proofs.YtmpeiadlohbikaaGreatDoor.V
end

section
set_option linter.unusedVariables false
set_option linter.unusedSimpArgs false
namespace Go.Proofs.YtmpeiadlohbikaaGreatDoor.V
open Go.RowKit
theorem mY(n:Int):IntKind.u16.wrap n=n%65536:=by simp[IntKind.wrap,IntKind.bits,IntKind.signed]
theorem mZ(n:Int):IntKind.u64.wrap n=n%18446744073709551616:=by simp[IntKind.wrap,IntKind.bits,IntKind.signed]
theorem sS(n:Int):IntKind.i8.wrap n=(n+128)%256 - 128:=by
 simp[IntKind.wrap,IntKind.bits,IntKind.signed];split<;>omega
theorem qj(n:Int):IntKind.i16.wrap n=(n+32768)%65536 - 32768:=by
 simp[IntKind.wrap,IntKind.bits,IntKind.signed];split<;>omega
theorem lU{k:IntKind}{r:Int}(h:eF k r):k.wrap r=r:=by
 cases k<;>simp only[eF]at h<;>simp only[sS,qj,IntKind.wrap_i32,IntKind.wrap_i64,IntKind.wrap_u8,mY,IntKind.wrap_u32,mZ]<;>omega
theorem kp(k:IntKind)(r:Int):eF k (k.wrap r):=by
 cases k<;>simp only[eF,sS,qj,IntKind.wrap_i32,IntKind.wrap_i64,IntKind.wrap_u8,mY,IntKind.wrap_u32,mZ]<;>omega
theorem y6{k:IntKind}{r:Int}{K:Int→Prop}(h:Mi k r K):K (k.wrap r):=by
 cases k with
 |u8=>rw[IntKind.wrap_u8];exact h
 |u16=>rw[mY];exact h
 |u32=>rw[IntKind.wrap_u32];exact h
 |u64=>rw[mZ];exact h
 |_=>exact h
theorem oD{g:Prop→Prop}{B:Prop}(hg: ∀A,g A→B→A){k:IntKind}{p q r:Int}{K:Int→Prop}(h:EP g k p q r K): ∃c,K c∧(B→eF k p→eF k q→k.wrap r=c∧eF k c):=by
 unfold EP LQ at h;rcases h with⟨h1,h2⟩|h2
 ·exact⟨r,h2,fun hb hp hq=>by have:=hg _ h1 hb hp hq;exact⟨lU this,this⟩⟩
 ·exact⟨_,y6 h2,fun _ _ _=>⟨rfl,kp _ _⟩⟩
theorem GO{g:Prop→Prop}{B:Prop}(hg: ∀A,g A→B→A){k:IntKind}{p r:Int}{K:Int→Prop}(h:EP g k p p r K): ∃c,K c∧(B→eF k p→k.wrap r=c∧eF k c):=by
 obtain⟨c,hK,hc⟩:=oD hg h;exact⟨c,hK,fun hB hp=>hc hB hp hp⟩
theorem y7{k:IntKind}{p m:Int}(h:eF k p)(hm:0<m):eF k (p/m):=by
 have h1:p/m≤max p 0:=by
  rcases Int.le_total 0 p with hp|hp
  ·have:=Int.ediv_le_self m hp;omega
  ·have h2:p/m≤0:=Int.ediv_le_of_le_mul hm (by simpa using hp);omega
 have h2:min p 0≤p/m:=by
  rcases Int.le_total 0 p with hp|hp
  ·have:=Int.ediv_nonneg hp (Int.le_of_lt hm);omega
  ·have:p≤p/m:=by
    rw[Int.le_ediv_iff_mul_le hm];have h3:=Int.mul_nonneg (show(0:Int)≤ -p by omega) (show(0:Int)≤m - 1 by omega);have h4: -p*(m - 1)= -(p*m)+p:=by rw[Int.mul_sub,Int.mul_one,Int.neg_mul];omega
    omega
   omega
 cases k<;>simp only[eF]at h⊢ <;>omega
theorem GP{k:IntKind}{p q:Int}(h:eF k p)(hp:0≤p)(hq:0<q):eF k (p/q):=y7 h hq
theorem GQ{k:IntKind}{p q:Int}(h:eF k p)(hp:0≤p)(hq:0<q):eF k (p%q):=by
 have h1:=Int.emod_nonneg p (show q≠0 by omega);have h2:p%q≤p:=by
  have:=Int.emod_add_mul_ediv p q;have h3:=Int.mul_nonneg (show(0:Int)≤q by omega) (Int.ediv_nonneg hp (show(0:Int)≤q by omega));omega
 cases k<;>simp only[eF]at h⊢ <;>omega
theorem sT(j:Nat):(0:Int)<2^j:=by exact_mod_cast Nat.pow_pos (n:=j) (show 0<2 by decide)
section
variable [ay] {U:cw} {P:Program} {nt:Nat} {T:dO U} {X:List Nat} {S:World→Prop} {ρ:Nat→Rz} {n:Nat} {H:Hs U} {R e:En U} {ce:aS} {p:dv} {o:Oper} {Y:List Nat}
theorem pS{k:IntKind}{q:Int}(h:eF k q):de (bn U Y S ρ n H) (⟨false,[(1,.d (.int k) q)]⟩:Va U) (.int k q):=iz (aK.int k q h)
theorem lF{b:Bool}:de (bn U Y S ρ n H) (⟨false,[(1,.d .bool b)]⟩:Va U) (.bool b):=iz (aK.bool b)
def pT(P:Program)(nt:Nat)(ce:aS)(S:World→Prop)(o:Oper)(B:Prop)(V:Cx U→List Value→Prop)(v:Va U):Prop:=B→ ∃u,cL P nt ce S o u∧de V v u
theorem Cz{g:Prop→Prop}{B:Prop}(hg: ∀A,g A→B→A){op:BinOp}{k k':IntKind}{a b:Int}{K:Va U→Prop}(h:Ge g op k a k' b K){t u:Nat}{x y:Operand}(ho:o.op= .binOp op t x y u)
  (hx:B→ce.ev x=some (.int k a)) (hy:B→ce.ev y=some (.int k' b)) (hp:B→eF k a) (hq:B→eF k' b): ∃v,K v∧pT P nt ce S o B (bn U Y S ρ n H) v:=by
 unfold Ge at h;cases hk:(jZ k k'||Gd op)with
 |false=>rw[hk]at h;exact h.elim
 |true=>
  rw[hk]at h;have h:_:=h;simp only[cond_true]at h;have hkk:Gd op=false→k=k':=fun hs=>by rw[hs,Bool.or_false]at hk;exact lO hk
  cases op with
  |add=>
   obtain rfl:=hkk rfl;obtain⟨c,hK,hc⟩:=oD hg h;exact⟨_,hK,fun hB=>by obtain⟨h1,h2⟩:=hc hB (hp hB) (hq hB);exact⟨_,dS ho (hx hB) (hy hB) h1,pS h2⟩⟩
  |sub=>
   obtain rfl:=hkk rfl;obtain⟨c,hK,hc⟩:=oD hg h;exact⟨_,hK,fun hB=>by obtain⟨h1,h2⟩:=hc hB (hp hB) (hq hB);exact⟨_,nP ho (hx hB) (hy hB) h1,pS h2⟩⟩
  |mul=>
   obtain rfl:=hkk rfl;obtain⟨c,hK,hc⟩:=oD hg h;exact⟨_,hK,fun hB=>by obtain⟨h1,h2⟩:=hc hB (hp hB) (hq hB);exact⟨_,Kg ho (hx hB) (hy hB) h1,pS h2⟩⟩
  |quo=>
   obtain rfl:=hkk rfl;obtain⟨hP,hK⟩:=h;exact⟨_,hK,fun hB=>by
    obtain⟨h0,h1⟩:=hg _ hP hB (hp hB) (hq hB);have hin:=GP (hp hB) h0 h1;exact⟨_,HU ho (hx hB) (hy hB) h0 h1 (lU hin),pS hin⟩⟩
  |rem=>
   obtain rfl:=hkk rfl;obtain⟨hP,hK⟩:=h;exact⟨_,hK,fun hB=>by
    obtain⟨h0,h1⟩:=hg _ hP hB (hp hB) (hq hB);exact⟨_,HV ho (hx hB) (hy hB) h0 h1,pS (GQ (hp hB) h0 h1)⟩⟩
  |shl=>
   obtain⟨hP,hK⟩:=h;obtain⟨c,hK,hc⟩:=GO hg hK;exact⟨_,hK,fun hB=>by
    have h0:=hg _ hP hB (hq hB);obtain⟨h1,h2⟩:=hc hB (hp hB);exact⟨_,Kj ho (hx hB) (hy hB) h0 h1,pS h2⟩⟩
  |shr=>
   obtain⟨hP,hK⟩:=h;exact⟨_,hK,fun hB=>by
    have h0:=hg _ hP hB (hq hB);refine⟨_,Kl ho (hx hB) (hy hB) h0 (Int.fdiv_eq_ediv_of_nonneg _ (Int.le_of_lt (sT _))),pS (y7 (hp hB) (sT _))⟩⟩
  |and=>obtain rfl:=hkk rfl;exact⟨_,h,fun hB=>⟨_,sd ho (hx hB) (hy hB) (.inl rfl) rfl,pS (kp _ _)⟩⟩
  |or=>obtain rfl:=hkk rfl;exact⟨_,h,fun hB=>⟨_,sd ho (hx hB) (hy hB) (.inr (.inl rfl)) rfl,pS (kp _ _)⟩⟩
  |xor=>obtain rfl:=hkk rfl;exact⟨_,h,fun hB=>⟨_,sd ho (hx hB) (hy hB) (.inr (.inr (.inl rfl))) rfl,pS (kp _ _)⟩⟩
  |andNot=>obtain rfl:=hkk rfl;exact⟨_,h,fun hB=>⟨_,sd ho (hx hB) (hy hB) (.inr (.inr (.inr rfl))) rfl,pS (kp _ _)⟩⟩
  |eql=>obtain rfl:=hkk rfl;exact⟨_,h,fun hB=>⟨_,by have:=Kb (P:=P) (n:=nt) (S:=S) ho (hx hB) (hy hB);rw[show(a==b)=decide (a=b)from rfl]at this;exact this,lF⟩⟩
  |neq=>obtain rfl:=hkk rfl;exact⟨_,h,fun hB=>⟨_,by have:=Ou (P:=P) (n:=nt) (S:=S) ho (hx hB) (hy hB);rw[show(a !=b)=decide (¬a=b)by rw[decide_not];rfl]at this;exact this,lF⟩⟩
  |lss=>obtain rfl:=hkk rfl;exact⟨_,h,fun hB=>⟨_,Kc ho (hx hB) (hy hB),lF⟩⟩
  |leq=>obtain rfl:=hkk rfl;exact⟨_,h,fun hB=>⟨_,Ov ho (hx hB) (hy hB),lF⟩⟩
  |gtr=>obtain rfl:=hkk rfl;exact⟨_,h,fun hB=>⟨_,Ke ho (hx hB) (hy hB),lF⟩⟩
  |geq=>obtain rfl:=hkk rfl;exact⟨_,h,fun hB=>⟨_,Ox ho (hx hB) (hy hB),lF⟩⟩
end
end Go.Proofs.YtmpeiadlohbikaaGreatDoor.V
end

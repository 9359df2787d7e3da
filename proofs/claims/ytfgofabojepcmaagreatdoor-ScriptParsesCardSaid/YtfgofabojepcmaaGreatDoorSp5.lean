/- The interpreter's looks are right: numbers, comparisons, slices. -/
import Derived.Test.YtfgofabojepcmaaGreatDoorSp4
import Derived.Laws.BitsAllLaws
section
set_option linter.unusedVariables false
set_option linter.unusedSimpArgs false
namespace Go.Proofs.YtfgofabojepcmaaGreatDoor.V
open Go.RowKit
mutual
theorem aG.one{U:bJ}{Y:List Nat}{S:World→Prop}{s:bj}{t:TT U.ty s}{vs:List Value}:aG U Y S s t vs→ ∀v∈vs,v.oneCell'=true
 | .int k p h=>by simp[Value.oneCell']
 | .bool b=>by simp[Value.oneCell']
 | .str s h=>by simp[Value.oneCell']
 | .st i t vs h hl=>ec.one h
 | .arr n e xs vs h hn=>ba.one h
 | .sl e xs A c cs h hr hc hm=>by simp[Value.oneCell']
 | .enil=>by simp[Value.oneCell']
 | .enum e h=>by simp[Value.oneCell']
 | .eflt a e g v ha h hr=>by simp[Value.oneCell']
 | .eoth t v h1 h2=>by simp[Value.oneCell']
theorem ec.one{U:bJ}{Y:List Nat}{S:World→Prop}{fs:List (Nat×bj)}{t:qJ U.ty fs}{vs:List Value}:ec U Y S fs t vs→ ∀v∈vs,v.oneCell'=true
 | .nil=>by simp
 | .cons k s r a b vs us h hl hr=>fun v hv=>(List.mem_append.1 hv).elim (aG.one h v) (ec.one hr v)
theorem ba.one{U:bJ}{Y:List Nat}{S:World→Prop}{e:bj}{xs:List (TT U.ty e)}{vs:List Value}:ba U Y S e xs vs→ ∀v∈vs,v.oneCell'=true
 | .nil e=>by simp
 | .cons e x xs vs us h hl hr=>fun v hv=>(List.mem_append.1 hv).elim (aG.one h v) (ba.one hr v)
end
section
variable [al] {U:bJ}
def bc:Option (aN U)→Option (Nat×Nat×Nat)
 |some (.row v e xs _)=>some (v,xs.length,aS U e)
 |some (.frz v e xs)=>some (v,xs.length,aS U e)
 |some (.ext v d xs _)=>some (v,xs.length,aS U d.e)
 |some (.hid v l m)=>some (v,l,m)
 |_=>none
def mf(H:Hs U)(i v:Nat)(Q:Nat→Nat→Prop):Prop:= ∀v' l m,bc (aB H i)=some (v',l,m)→v≤v'∧(v=v'→Q l m)
def aV(U:bJ)(Y:List Nat)(S:World→Prop)(ρ:Nat→Rz)(n:Nat)(H:Hs U):Cx U→List Value→Prop
 | .d s t,vs=>aG U Y S s t vs
 | .own i v,vs=>i<n∧ ∃A l c,vs= [.slice A l c]∧mf H i v fun len _=>A=(ρ i).A∧l=len∧c=(ρ i).c
 | .ptr i off,vs=>i<n∧bc (aB H i)=none∧ ∃g,(ρ i).A=some ⟨g,0,none⟩∧vs= [.pointer (some ⟨g,off,none⟩)]
 | .pel i v q off,vs=>i<n∧ ∃a,vs= [.pointer a]∧mf H i v fun len m=> ∃g,(ρ i).A=some ⟨g,0,none⟩∧a=some ⟨g,q.toNat*m+off,none⟩∧0≤q∧q<len
 | .pax i off m s q o,vs=>i<n∧bc (aB H i)=none∧0≤q∧q<m∧ ∃g,(ρ i).A=some ⟨g,0,none⟩∧vs= [.pointer (some ⟨g,off+q.toNat*aS U s+o,none⟩)]
 | .pd s t,vs=> ∃g b us,vs= [.pointer (some ⟨g,b,none⟩)]∧aG U Y S s t us∧nk Y S (some ⟨g,b,none⟩) us
 | .nilp,vs=>vs= [.pointer none]
 | .nils,vs=>vs= [.slice none 0 0]
 | .nilf,vs=>vs= [.nilFunc]
 | .nilm,vs=>vs= [.map none]
 | .fn f,vs=>vs= [.func (.func f) #[] #[]]
 | .clo f js,vs=>vs= [.func (.func f) #[] (js.map fun j=>Value.pointer (ρ j).A).toArray]∧ ∀j∈js,j<n∧bc (aB H j)=none∧ ∃g,(ρ j).A=some ⟨g,0,none⟩
 | .f1 a g,vs=> ∃u,vs= [u]∧x9 U Y S u a g
 | .f2 a b g,vs=> ∃u,vs= [u]∧ya U Y S u a b g
 | .mp i,vs=>i<n∧bc (aB H i)=none∧ ∃g,(ρ i).A=some ⟨g,0,none⟩∧vs= [.map (some g)]
 | .bnd f s t,vs=> ∃u,vs= [.func (.func f) #[u] #[]]∧aG U Y S s t [u]
 | .ifp i,vs=>i<n∧bc (aB H i)=none∧ ∃g,(ρ i).A=some ⟨g,0,none⟩∧vs= [.iface U.eF (.pointer (some ⟨g,0,none⟩))]
 | .un,vs=> ∃u,vs= [u]∧u.oneCell'=true
def bK(V:Cx U→List Value→Prop):List (bH U)→List Value→Prop
 | [],vs=>vs= []
 |(k,x)::r,vs=> ∃v1 v2,vs=v1++v2∧v1.length=k∧V x v1∧bK V r v2
omit [al]in
theorem iH{α:Type} [Inhabited α]{l:List α}{q:Int}{y:α}(h:l[q.toNat]? =some y):ix l q=y:=by unfold ix;rw[h];rfl
omit [al]in
theorem gl{s:bj}{l:List (TT U.ty s)}{q:Int}{K:TT U.ty s→Prop}(h:uv U s l q K): ∃x,K x∧ ∀y,l[q.toNat]? =some y→x=y:=by
 cases s with
 |st i=>exact(U.rd i).ixK_ok l q K h
 |int k=>exact⟨_,h,fun y hy=>iH (α:=Int) hy⟩
 |bool=>exact⟨_,h,fun y hy=>iH (α:=Bool) hy⟩
 |str=>exact⟨_,h,fun y hy=>iH (α:=List UInt8) hy⟩
 |err=>exact⟨_,h,fun y hy=>iH (α:=dr) hy⟩
 |arr k e=>exact⟨_,h,fun y hy=>iH (α:=List (TT U.ty e)) hy⟩
 |sl e=>exact⟨_,h,fun y hy=>iH (α:=List (TT U.ty e)) hy⟩
omit [al]in
theorem jK: ∀{k k':IntKind},ie k k'=true→k=k':=by
 intro k k';cases k<;>cases k'<;>simp[ie]
omit [al]in
theorem pD: ∀{ty:Nat→Type} {F:Type→Type} {i j:Nat} {t:F (ty i)} {u:F (ty j)},lj ty F i j t=some u→i=j∧HEq t u
 |ty,F,0,0,t,u,h=>by simp only[lj,Option.some.injEq]at h;exact⟨rfl,heq_of_eq h⟩
 |ty,F,i+1,j+1,t,u,h=>by
  obtain⟨h1,h2⟩:=pD (ty:=fun n=>ty (n+1)) (by simpa only[lj]using h);subst h1;exact⟨rfl,h2⟩
 |ty,F,0,j+1,t,u,h=>by simp[lj]at h
 |ty,F,i+1,0,t,u,h=>by simp[lj]at h
omit [al]in
theorem fC{α:Type}{u:α}{p:Prop}(h:(none:Option α)=some u):p:=by cases h
omit [al]in
theorem df{ty:Nat→Type}: ∀(s s':bj) (F:Type→Type) (t:F (TT ty s)) (u:F (TT ty s')),ed ty F s s' t=some u→s=s'∧HEq t u:=by
 intro s;induction s with
 |int k=>
  intro s' F t u h;cases s' with
  |int k'=>
   have h:(bif ie k k' then some t else none)=some u:=h;cases hk:ie k k' with
   |false=>rw[hk]at h;exact fC h
   |true=>rw[hk]at h;have:=jK hk;subst this;injection h with h;exact⟨rfl,heq_of_eq h⟩
  |_=>exact fC (show none=some u from h)
 |bool=>
  intro s' F t u h;cases s' with
  |bool=>have h:some t=some u:=h;injection h with h;exact⟨rfl,heq_of_eq h⟩
  |_=>exact fC (show none=some u from h)
 |str=>
  intro s' F t u h;cases s' with
  |str=>have h:some t=some u:=h;injection h with h;exact⟨rfl,heq_of_eq h⟩
  |_=>exact fC (show none=some u from h)
 |err=>
  intro s' F t u h;cases s' with
  |err=>have h:some t=some u:=h;injection h with h;exact⟨rfl,heq_of_eq h⟩
  |_=>exact fC (show none=some u from h)
 |st i=>
  intro s' F t u h;cases s' with
  |st j=>
   have h:lj ty F i j t=some u:=h;obtain⟨h1,h2⟩:=pD h;subst h1;exact⟨rfl,h2⟩
  |_=>exact fC (show none=some u from h)
 |arr n e ih=>
  intro s' F t u h;cases s' with
  |arr m e'=>
   have h:(bif Nat.beq n m then ed ty (fun x=>F (List x)) e e' t else none)=some u:=h;cases hn:Nat.beq n m with
   |false=>rw[hn]at h;exact fC h
   |true=>
    rw[hn]at h;have hnm:=Nat.eq_of_beq_eq_true hn;obtain⟨h1,h2⟩:=ih e' (fun x=>F (List x)) t u h;subst h1;subst hnm;exact⟨rfl,h2⟩
  |_=>exact fC (show none=some u from h)
 |sl e ih=>
  intro s' F t u h;cases s' with
  |sl e'=>
   have h:ed ty (fun x=>F (List x)) e e' t=some u:=h;obtain⟨h1,h2⟩:=ih e' (fun x=>F (List x)) t u h;subst h1;exact⟨rfl,h2⟩
  |_=>exact fC (show none=some u from h)
abbrev jL(U:bJ)(Q:(Cx U→List Value→Prop)→(Y:List Nat)→(World→Prop)→Prop):Prop:= ∀Y S ρ n H,Q (aV U Y S ρ n H) Y S
theorem rV: ∀{fs:List (Nat×bj)} {t:qJ U.ty fs} {K:List (bH U)→Prop},CG fs t K→ ∃l,K l∧jL U fun V Y S=> ∀vs,ec U Y S fs t vs→bK V l vs
 | [],t,K,h=>⟨[],h,fun _ _ _ _ _ _ hd=>hd.inv⟩
 |(k,s)::r,(a,b),K,h=>by
  obtain⟨l,hK,hs⟩:=rV (fs:=r) h;refine⟨_,hK,fun Y S ρ n H vs hd=>?_⟩;obtain⟨v1,v2,rfl,h1,hl,hr⟩:=hd.inv;exact⟨v1,v2,rfl,hl,h1,hs Y S ρ n H _ hr⟩
theorem rW{e:bj}{m:Nat}{xs:List (TT U.ty e)}(hm:m=aS U e): ∀{k j:Nat} {K:List (bH U)→Prop},Fb e m xs k j K→ ∃l,K l∧jL U fun V Y S=> ∀vs,ba U Y S e (xs.drop j) vs→(xs.drop j).length=k→bK V l vs
 |0,j,K,h=>⟨[],h,fun Y S ρ n H vs hd hl=>by
  have:xs.drop j= []:=List.eq_nil_of_length_eq_zero hl;rw[this]at hd;exact hd.nil_inv⟩
 |k+1,j,K,h=>by
  obtain⟨x,hx,he⟩:=gl (show uv U e xs (j:Int) _ from h);obtain⟨l,hK,hs⟩:=rW hm (k:=k) hx;refine⟨_,hK,fun Y S ρ n H vs hd hl=>?_⟩;have hj:j<xs.length:=by rw[List.length_drop]at hl;omega
  have hx0:=he xs[j] (by rw[Int.toNat_natCast];exact List.getElem?_eq_getElem hj);rw[List.drop_eq_getElem_cons hj]at hd hl;obtain⟨v1,v2,rfl,h1,hl1,hr⟩:=hd.cons_inv;exact⟨v1,v2,rfl,by rw[hl1,hm],by rw[hx0];exact h1,hs Y S ρ n H _ hr (by rw[List.length_cons]at hl;omega)⟩
theorem jM{x:Cx U}{K:List (bH U)→Prop}(h:jG x K): ∃l,K l∧jL U fun V Y S=> ∀vs,V x vs→bK V l vs:=by
 unfold jG at h;split at h
 ·rename_i i t;obtain⟨l,hK,hs⟩:=rV ((U.rd i).toK_ok _ _ h);exact⟨l,hK,fun Y S ρ n H vs hx=>hs Y S ρ n H vs (show aG U Y S (.st i) t vs from hx).inv.1⟩
 ·rename_i k e xs;obtain⟨l,hK,hs⟩:=rW rfl h;exact⟨l,hK,fun Y S ρ n H vs hx=>by
   have hd:=(show aG U Y S (.arr k e) xs vs from hx).inv;exact hs Y S ρ n H vs hd.1 hd.2⟩
 ·exact h.elim
omit [al]in
theorem lP{l l':List (bH U)}{K:List (bH U)→Prop}:oe l l' K→K (l++l'):=by
 induction l generalizing K with
 |nil=>exact fun h=>h
 |cons x r ih=>exact fun h=>ih (K:=fun r=>K (x::r)) h
omit [al]in
theorem bK.app{V:Cx U→List Value→Prop}: ∀{l l':List (bH U)} {vs us:List Value},bK V l vs→bK V l' us→bK V (l++l') (vs++us)
 | [],l',vs,us,h,h'=>by rw[show vs= []from h];exact h'
 |(k,x)::r,l',vs,us,h,h'=>by
  obtain⟨v1,v2,rfl,hl,hx,hr⟩:=h;exact⟨v1,v2++us,List.append_assoc ..,hl,hx,bK.app hr h'⟩
theorem ff: ∀{f:Nat} {l:List (bH U)} {k:Nat} {K:List (bH U)→Prop},fO f l k K→ ∃l',K l'∧jL U fun V Y S=> ∀vs,bK V l vs→bK V l' (vs.drop k)∧k≤vs.length
 |0,l,k,K,h=>h.elim
 |f+1,l,0,K,h=>⟨l,h,fun _ _ _ _ _ vs hs=>⟨hs,Nat.zero_le _⟩⟩
 |f+1,[],k+1,K,h=>h.elim
 |f+1,(m,x)::r,k+1,K,h=>by
  have h:(bif Nat.ble m (k+1)then fO f r (k+1 - m) K else jG x fun l'=>oe l' r fun l''=>fO f l'' (k+1) K):=h;cases hb:Nat.ble m (k+1)with
  |true=>
   rw[hb]at h;have hle:=Nat.le_of_ble_eq_true hb;obtain⟨l',hK,hs'⟩:=ff (f:=f) h;refine⟨l',hK,fun Y S ρ n H vs hs=>?_⟩;obtain⟨v1,v2,rfl,hl,hx,hr⟩:=hs;obtain⟨h1,h2⟩:=hs' Y S ρ n H _ hr;refine⟨?_,by rw[List.length_append];omega⟩;rw[List.drop_append,List.drop_of_length_le (by omega),List.nil_append,hl];exact h1
  |false=>
   rw[hb]at h;obtain⟨l',hK,hs'⟩:=jM h;obtain⟨l2,hK2,hs2⟩:=ff (f:=f) (lP hK);refine⟨l2,hK2,fun Y S ρ n H vs hs=>?_⟩;obtain⟨v1,v2,rfl,hl,hx,hr⟩:=hs;exact hs2 Y S ρ n H _ ((hs' Y S ρ n H _ hx).app hr)
theorem fP: ∀{f:Nat} {l:List (bH U)} {k:Nat} {K:List (bH U)→Prop},tK f l k K→ ∃l',K l'∧jL U fun V Y S=> ∀vs,bK V l vs→bK V l' (vs.take k)∧k≤vs.length
 |0,l,k,K,h=>h.elim
 |f+1,l,0,K,h=>⟨[],h,fun _ _ _ _ _ vs hs=>⟨by simp[bK],Nat.zero_le _⟩⟩
 |f+1,[],k+1,K,h=>h.elim
 |f+1,(m,x)::r,k+1,K,h=>by
  have h:(bif Nat.ble m (k+1)then tK f r (k+1 - m) fun r'=>K ((m,x)::r')else jG x fun l'=>tK f l' (k+1) K):=h;cases hb:Nat.ble m (k+1)with
  |true=>
   rw[hb]at h;have hle:=Nat.le_of_ble_eq_true hb;obtain⟨l',hK,hs'⟩:=fP (f:=f) h;refine⟨_,hK,fun Y S ρ n H vs hs=>?_⟩;obtain⟨v1,v2,rfl,hl,hx,hr⟩:=hs;obtain⟨h1,h2⟩:=hs' Y S ρ n H _ hr;refine⟨⟨v1,_,?_,hl,hx,h1⟩,by rw[List.length_append];omega⟩;rw[List.take_append,List.take_of_length_le (by omega),hl]
  |false=>
   rw[hb]at h;have hgt:k+1<m:=by
    rcases Nat.lt_or_ge (k+1) m with h'|h'
    ·exact h'
    ·rw[Nat.ble_eq_true_of_le h']at hb;cases hb
   obtain⟨l',hK,hs'⟩:=jM h;obtain⟨l2,hK2,hs2⟩:=fP (f:=f) hK;refine⟨l2,hK2,fun Y S ρ n H vs hs=>?_⟩;obtain⟨v1,v2,rfl,hl,hx,hr⟩:=hs;obtain⟨h1,h2⟩:=hs2 Y S ρ n H _ (hs' Y S ρ n H _ hx);refine⟨?_,by rw[List.length_append];omega⟩;rw[List.take_append_of_le_length h2];exact h1
theorem gJ: ∀{f:Nat} {l new:List (bH U)} {off k:Nat} {K:List (bH U)→Prop},og f l off k new K→
  ∃l',K l'∧jL U fun V Y S=> ∀vs us,bK V l vs→bK V new us→us.length=k→bK V l' (vs.take off++us++vs.drop (off+us.length))∧off+us.length≤vs.length
 |0,l,new,off,k,K,h=>h.elim
 |f+1,l,new,0,k,K,h=>by
  have h:fO 40 l k fun r=>oe new r K:=h;obtain⟨l',hK,hs'⟩:=ff h;refine⟨_,lP hK,fun Y S ρ n H vs us hs hn hk=>?_⟩;obtain⟨h1,h2⟩:=hs' Y S ρ n H _ hs;refine⟨?_,by omega⟩;rw[List.take_zero,List.nil_append,Nat.zero_add,hk];exact hn.app h1
 |f+1,[],new,off+1,k,K,h=>h.elim
 |f+1,(m,x)::r,new,off+1,k,K,h=>by
  have h:(bif Nat.ble m (off+1)then og f r (off+1 - m) k new fun r'=>K ((m,x)::r')else jG x fun l'=>oe l' r fun l''=>og f l'' (off+1) k new K):=h;cases hb:Nat.ble m (off+1)with
  |true=>
   rw[hb]at h;have hle:=Nat.le_of_ble_eq_true hb;obtain⟨l',hK,hs'⟩:=gJ (f:=f) h;refine⟨_,hK,fun Y S ρ n H vs us hs hn hk=>?_⟩;obtain⟨v1,v2,rfl,hl,hx,hr⟩:=hs;obtain⟨h1,h2⟩:=hs' Y S ρ n H _ _ hr hn hk;refine⟨⟨v1,_,?_,hl,hx,h1⟩,by rw[List.length_append];omega⟩;rw[List.take_append,List.take_of_length_le (by omega),List.drop_append,List.drop_of_length_le (by omega),List.nil_append,hl,List.append_assoc,List.append_assoc,List.append_assoc,show off+1+us.length - m=off+1 - m+us.length by omega]
  |false=>
   rw[hb]at h;obtain⟨l',hK,hs'⟩:=jM h;obtain⟨l2,hK2,hs2⟩:=gJ (f:=f) (lP hK);refine⟨l2,hK2,fun Y S ρ n H vs us hs hn hk=>?_⟩;obtain⟨v1,v2,rfl,hl,hx,hr⟩:=hs;exact hs2 Y S ρ n H _ _ ((hs' Y S ρ n H _ hx).app hr) hn hk
theorem dM{l:List (bH U)}{off k:Nat}{K:List (bH U)→Prop}(h:ig l off k K): ∃l',K l'∧jL U fun V Y S=> ∀vs,bK V l vs→bK V l' ((vs.drop off).take k)∧off+k≤vs.length:=by
 obtain⟨l1,h1,hs1⟩:=ff (show fO 40 l off _ from h);obtain⟨l2,h2,hs2⟩:=fP h1;refine⟨l2,h2,fun Y S ρ n H vs hs=>?_⟩;obtain⟨a1,a2⟩:=hs1 Y S ρ n H _ hs;obtain⟨b1,b2⟩:=hs2 Y S ρ n H _ a1;rw[List.length_drop]at b2;exact⟨b1,by omega⟩
omit [al]in
theorem bK.one1{V:Cx U→List Value→Prop}{k:Nat}{x:Cx U}{vs:List Value}(h:bK V [(k,x)] vs):V x vs∧vs.length=k:=by
 obtain⟨v1,v2,rfl,hl,hx,hr⟩:=h;rw[show v2= []from hr,List.append_nil];exact⟨hx,hl⟩
theorem mg{s:bj}{l:List (bH U)}{K:TT U.ty s→Prop}(h:d1 s l K): ∃t,K t∧jL U fun V Y S=> ∀vs,bK V l vs→aG U Y S s t vs:=by
 unfold d1 at h;split at h
 ·rename_i k s' t;split at h
  ·rename_i u hc;obtain⟨h1,h2⟩:=df _ _ _ _ _ hc;subst h1;have h2:t=u:=eq_of_heq h2;subst h2;exact⟨t,h,fun Y S ρ n H vs hs=>hs.one1.1⟩
  ·exact h.elim
 ·exact h.elim
theorem pE{g:(s:bj)→List (bH U)→(TT U.ty s→Prop)→Prop}(hg: ∀s l K,g s l K→ ∃t,K t∧jL U fun V Y S=> ∀vs,bK V l vs→aG U Y S s t vs):
  ∀{fs:List (Nat×bj)} {l:List (bH U)} {K:qJ U.ty fs→Prop},rT g fs l K→ ∃t:qJ U.ty fs,K t∧jL U fun V Y S=> ∀vs,bK V l vs→ ∃us r:List Value,ec U Y S fs t us∧vs=us++r∧us.length=(fs.map (·.1)).sum
 | [],l,K,h=>⟨(),h,fun _ _ _ _ _ vs hs=>⟨[],vs,.nil,rfl,rfl⟩⟩
 |(k,s)::r,l,K,h=>by
  obtain⟨l1,h1,hs1⟩:=fP (show tK 40 l k _ from h);obtain⟨a,h2,hd⟩:=hg s l1 _ h1;obtain⟨l2,h3,hs3⟩:=ff h2;obtain⟨b,h4,h5⟩:=pE hg (fs:=r) h3;refine⟨(a,b),h4,fun Y S ρ n H vs hs=>?_⟩;obtain⟨a1,a2⟩:=hs1 Y S ρ n H _ hs;obtain⟨b1,b2⟩:=hs3 Y S ρ n H _ hs;obtain⟨us,q,hd4,hq,hlen⟩:=h5 Y S ρ n H _ b1;have htl:(vs.take k).length=k:=by rw[List.length_take];omega
  refine⟨vs.take k++us,q,.cons k s r a b _ _ (hd Y S ρ n H _ a1) htl hd4,?_,?_⟩
  ·rw[List.append_assoc,←hq,List.take_append_drop]
  ·rw[List.length_append,htl,hlen];rfl
omit [al]in
theorem bK.len{V:Cx U→List Value→Prop}: ∀{l:List (bH U)} {vs:List Value},bK V l vs→vs.length=gI l
 | [],vs,h=>by rw[show vs= []from h];rfl
 |(k,x)::r,vs,h=>by
  obtain⟨v1,v2,rfl,hl,_,hr⟩:=h;rw[List.length_append,hl,bK.len hr];rfl
theorem pF{e:bj}{g:List (bH U)→(TT U.ty e→Prop)→Prop}(hg: ∀l K,g l K→ ∃t,K t∧jL U fun V Y S=> ∀vs,bK V l vs→aG U Y S e t vs):
  ∀{k:Nat} {l:List (bH U)} {K:List (TT U.ty e)→Prop},rU g (aS U e) k l K→ ∃xs:List (TT U.ty e),K xs∧jL U fun V Y S=> ∀vs,bK V l vs→ ∃us r:List Value,ba U Y S e xs us∧vs=us++r∧xs.length=k
 |0,l,K,h=>⟨[],h,fun _ _ _ _ _ vs hs=>⟨[],vs,.nil e,rfl,rfl⟩⟩
 |k+1,l,K,h=>by
  have h:tK 40 l (aS U e) (fun l1=>g l1 fun a=>fO 40 l (aS U e) fun l2=>rU g (aS U e) k l2 fun b=>K (a::b)):=h;obtain⟨l1,h1,hs1⟩:=fP h;obtain⟨a,h2,hd⟩:=hg l1 _ h1;obtain⟨l2,h3,hs3⟩:=ff h2;obtain⟨xs,h4,h5⟩:=pF hg (k:=k) h3;refine⟨a::xs,h4,fun Y S ρ n H vs hs=>?_⟩;obtain⟨a1,a2⟩:=hs1 Y S ρ n H _ hs;obtain⟨b1,b2⟩:=hs3 Y S ρ n H _ hs;obtain⟨us,q,hd4,hq,hlen⟩:=h5 Y S ρ n H _ b1;have htl:(vs.take (aS U e)).length=aS U e:=by rw[List.length_take];omega
  refine⟨vs.take (aS U e)++us,q,.cons e a xs _ _ (hd Y S ρ n H _ a1) htl hd4,?_,by rw[List.length_cons,hlen]⟩;rw[List.append_assoc,←hq,List.take_append_drop]
theorem bt: ∀{f:Nat} {s:bj} {l:List (bH U)} {K:TT U.ty s→Prop},cQ f s l K→ ∃t,K t∧jL U fun V Y S=> ∀vs,bK V l vs→aG U Y S s t vs
 |0,s,l,K,h=>h.elim
 |f+1,.int k,l,K,h=>mg (s:= .int k) h
 |f+1,.bool,l,K,h=>mg (s:= .bool) h
 |f+1,.str,l,K,h=>mg (s:= .str) h
 |f+1,.err,l,K,h=>mg (s:= .err) h
 |f+1,.sl e,l,K,h=>by
  have h:(match (generalizing:=false) l with
   |(_,.nils):: []=>K ([]:List (TT U.ty e))
   |_=>d1 (.sl e) l K):=h
  split at h
  ·refine⟨[],h,fun Y S ρ n H vs hs=>?_⟩;have hv:=hs.one1.1;rw[show vs= [.slice none 0 0]from hv];exact .sl e [] none 0 [] (.nil e) (fun w _=>kK.nil) (Nat.le_refl _) (Nat.zero_le _)
  ·exact mg h
 |f+1,.st i,l,K,h=>by
  have h:(match (generalizing:=false) l with
   |(_,.d (.st j) t):: []=>d1 (.st i) l K
   |_=>bif Nat.beq (gI l) (U.rd i).sz then rT (cQ f) (U.rd i).fs l fun a=>(U.rd i).ofK a K else False):=h
  split at h
  ·exact mg h
  ·cases hb:Nat.beq (gI l) (U.rd i).sz with
   |false=>rw[hb]at h;exact h.elim
   |true=>
    rw[hb]at h;have hb:=Nat.eq_of_beq_eq_true hb;obtain⟨a,h1,h2⟩:=pE (fun s l K h=>bt (f:=f) h) h;obtain⟨x,hx,hto⟩:=(U.rd i).ofK_ok a K h1;refine⟨x,hx,fun Y S ρ n H vs hs=>?_⟩;obtain⟨us,r,hd,hq,hlen⟩:=h2 Y S ρ n H _ hs;have hvl:=hs.len;have hr:r= []:=by
     have:=congrArg List.length hq;rw[List.length_append,hlen,(U.rd i).sz_ok]at this;exact List.eq_nil_of_length_eq_zero (by omega)
    subst hr;rw[List.append_nil]at hq;subst hq;exact .st i x vs (by rw[hto];exact hd) (by omega)
 |f+1,.arr k e,l,K,h=>by
  have h:(match (generalizing:=false) l with
   |(_,.d (.arr _ _) _):: []=>d1 (.arr k e) l K
   |_=>bif Nat.beq (gI l) (k*aS U e)then rU (cQ f e) (aS U e) k l K else False):=h
  split at h
  ·exact mg h
  ·cases hb:Nat.beq (gI l) (k*aS U e)with
   |false=>rw[hb]at h;exact h.elim
   |true=>
    rw[hb]at h;have hb:=Nat.eq_of_beq_eq_true hb;obtain⟨xs,h1,h2⟩:=pF (fun l K h=>bt (f:=f) h) h;refine⟨xs,h1,fun Y S ρ n H vs hs=>?_⟩;obtain⟨us,r,hd,hq,hlen⟩:=h2 Y S ρ n H _ hs;have hvl:=hs.len;have hr:r= []:=by
     have:=congrArg List.length hq;rw[List.length_append,hd.length,hlen]at this;exact List.eq_nil_of_length_eq_zero (by omega)
    subst hr;rw[List.append_nil]at hq;subst hq;exact .arr k e xs vs hd hlen
variable {Y:List Nat} {S:World→Prop} {ρ:Nat→Rz} {n:Nat} {H:Hs U}
theorem aV.one{x:Cx U}{vs:List Value}(h:aV U Y S ρ n H x vs): ∀v∈vs,v.oneCell'=true:=by
 cases x with
 |d s t=>exact aG.one h
 |own i v=>obtain⟨_,A,l,c,rfl,_⟩:=h;simp[Value.oneCell']
 |ptr i off=>obtain⟨_,_,g,_,rfl⟩:=h;simp[Value.oneCell']
 |pel i v q off=>obtain⟨_,a,rfl,_⟩:=h;simp[Value.oneCell']
 |pax i off m s q o=>obtain⟨_,_,_,_,g,_,rfl⟩:=h;simp[Value.oneCell']
 |pd s t=>obtain⟨g,b,us,rfl,_⟩:=h;simp[Value.oneCell']
 |nilp=>rw[show vs=_ from h];simp[Value.oneCell']
 |nils=>rw[show vs=_ from h];simp[Value.oneCell']
 |nilf=>rw[show vs=_ from h];simp[Value.oneCell']
 |nilm=>rw[show vs=_ from h];simp[Value.oneCell']
 |fn f=>rw[show vs=_ from h];simp[Value.oneCell']
 |clo f js=>rw[h.1];simp[Value.oneCell']
 |f1 a g=>obtain⟨u,rfl,⟨f,fi,ca,rfl⟩,_⟩:=h;simp[Value.oneCell']
 |f2 a b g=>obtain⟨u,rfl,⟨f,fi,ca,rfl⟩,_⟩:=h;simp[Value.oneCell']
 |mp i=>obtain⟨_,_,g,_,rfl⟩:=h;simp[Value.oneCell']
 |ifp i=>obtain⟨_,_,g,_,rfl⟩:=h;simp[Value.oneCell']
 |bnd f s t=>obtain⟨u,rfl,_⟩:=h;simp[Value.oneCell']
 |un=>obtain⟨u,rfl,h1⟩:=h;simpa using h1
theorem bK.one: ∀{l:List (bH U)} {vs:List Value},bK (aV U Y S ρ n H) l vs→ ∀v∈vs,v.oneCell'=true
 | [],vs,h=>by rw[show vs= []from h];simp
 |(k,x)::r,vs,h=>by
  obtain⟨v1,v2,rfl,hl,hx,hr⟩:=h;exact fun v hv=>(List.mem_append.1 hv).elim (hx.one v) (bK.one hr v)
end
end Go.Proofs.YtfgofabojepcmaaGreatDoor.V
end

section
set_option linter.unusedVariables false
set_option linter.unusedSimpArgs false
namespace Go.Proofs.YtfgofabojepcmaaGreatDoor.V
open Go.RowKit
section
variable [al] {U:bJ}
def Fy(P:Program)(U:bJ)(d:KD U):Prop:= @fH _ d.dec P d.kt d.enc∧(∀Y S x vs v,aG U Y S d.k x vs→d9 (e8 d.k) v vs→v=d.enc x)∧ ∃z,fI P d.vt=some z∧ ∀Y S,∃vs,d9 (e8 d.v) z vs∧aG U Y S d.v d.zero vs
def rY(U:bJ)(d:KD U):Prop:=Fy al.pr U d
def qV(P:Program)(t:Nat):Kd→Prop
 | .int k=>P.underlying t=some (.int k)
 | .bool=>P.underlying t=some .bool
 | .str=>P.underlying t=some .string
 | .sl e=>P.underlying t=some (.slice e)
 | .ptr e=>P.underlying t=some (.pointer e)
 | .st=> ∃fs,P.underlying t=some (.struct fs)
 | .arr n e=>P.underlying t=some (.array n e)
 | .mp k v=>P.underlying t=some (.map k v)
 | .fn=> ∃d,P.underlying t=some d
 | .ifc=> ∃ms,P.underlying t=some (.interface ms)
structure qW(U:bJ)(P:Program)(t:Nat)(s:bj):Prop where
 guard:P.eqGuardType P.depth t=false
 vals: ∀Y S (a b:TT U.ty s) vs us,aG U Y S s a vs→aG U Y S s b us→ ∃r,cC P 8 t vs us=some r∧(r=true↔a=b)
structure bT(U:bJ)(P:Program)(t:Nat)(ti:TI U):Prop where
 size:(P.info? t).map (·.size)=some ti.sz
 kd:qV P t ti.kd
 one:qF ti.kd=false→cA P t=true
 by_:(P.info? t).map (·.bytes)=some ti.by_
 fs: ∀f off ft,cL ti.fs f=some (off,ft)→dh P t f=some off∧(match P.underlying t with|some (.struct fs)=>(fs[f]?).map (·.type)|_=>none)=some ft
 pl:ti.kd= .st→ ∃pls,iC P t=some pls∧ ∀f off ft,cL ti.fs f=some (off,ft)→ ∃k,pls[f]? =some (off,k)∧(P.info? ft).map (·.size)=some k
 eq: ∀s,ti.sh=some s→ti.cmp=true→qF ti.kd=true∧qW U P t s
 mp: ∀d,ti.mp=some d→Fy P U d∧P.underlying t=some (.map d.kt d.vt)
 zi:ti.kd= .int .i64→fI P t=some (.int .i64 0)
 zero: ∃zs,zeroCells P t=some zs∧zs.length=ti.sz∧ ∀(F:al) Y S ρ n H,bK (@aV F U Y S ρ n H) ti.zero zs
def bl(U:bJ)(P:Program)(T:cH U):Prop:= ∀t ti,aB T t=some ti→bT U P t ti
def aH(U:bJ)(Y:List Nat)(S:World→Prop)(d:KD U):List (TT U.ty d.k×TT U.ty d.v)→List (TT U.ty d.k×Value)→Prop
 | [],[]=>True
 |(x,y)::l,(x',u)::m=>x=x'∧(∃vs,d9 (e8 d.k) (d.enc x) vs∧aG U Y S d.k x vs)∧(∃vs,d9 (e8 d.v) u vs∧aG U Y S d.v y vs)∧aH U Y S d l m
 |_,_=>False
theorem aH.mv{Y Y':List Nat}{S S':World→Prop}(m:Mv Y S Y' S'){d:KD U}: ∀{l:List (TT U.ty d.k×TT U.ty d.v)} {mv:List (TT U.ty d.k×Value)},aH U Y S d l mv→aH U Y' S' d l mv
 | [],[],h=>h
 |(x,y)::l,(x',u)::mv,⟨h1,⟨ks,h5,h6⟩,⟨vs,h2,h3⟩,h4⟩=>⟨h1,⟨ks,h5,aG.mv m h6⟩,⟨vs,h2,aG.mv m h3⟩,aH.mv m h4⟩
 | [],_::_,h=>h.elim
 |_::_,[],h=>h.elim
section
variable {Y:List Nat} {S:World→Prop} {d:KD U}
omit [al]in
theorem aH.len: ∀{l:List (TT U.ty d.k×TT U.ty d.v)} {m:List (TT U.ty d.k×Value)},aH U Y S d l m→l.length=m.length
 | [],[],_=>rfl
 |_::_,_::_,h=>by rw[List.length_cons,List.length_cons,aH.len h.2.2.2]
 | [],_::_,h=>h.elim
 |_::_,[],h=>h.elim
omit [al]in
theorem aH.get(x:TT U.ty d.k): ∀{l:List (TT U.ty d.k×TT U.ty d.v)} {m:List (TT U.ty d.k×Value)},aH U Y S d l m→
  (@ea _ _ d.dec l x=none∧ @ea _ _ d.dec m x=none)∨ ∃y u, @ea _ _ d.dec l x=some y∧ @ea _ _ d.dec m x=some u∧ ∃vs,d9 (e8 d.v) u vs∧aG U Y S d.v y vs
 | [],[],_=> .inl ⟨rfl,rfl⟩
 |(k,y)::l,(k',u)::m,⟨h1,hk,h2,h3⟩=>by
  subst h1;by_cases e:k=x
  ·exact .inr ⟨y,u,by simp[ea,e],by simp[ea,e],h2⟩
  ·have e1: @ea _ _ d.dec ((k,y)::l) x= @ea _ _ d.dec l x:=by simp[ea,e]
   have e2: @ea _ _ d.dec ((k,u)::m) x= @ea _ _ d.dec m x:=by simp[ea,e]
   rw[e1,e2];exact aH.get x h3
 | [],_::_,h=>h.elim
 |_::_,[],h=>h.elim
omit [al]in
theorem aH.set{x:TT U.ty d.k}{z:TT U.ty d.v}{q:Value}(hx: ∃vs,d9 (e8 d.k) (d.enc x) vs∧aG U Y S d.k x vs)(hz: ∃vs,d9 (e8 d.v) q vs∧aG U Y S d.v z vs): ∀{l:List (TT U.ty d.k×TT U.ty d.v)} {m:List (TT U.ty d.k×Value)},aH U Y S d l m→aH U Y S d (@lh _ _ d.dec l x z) (@lh _ _ d.dec m x q)
 | [],[],_=>⟨rfl,hx,hz,trivial⟩
 |(k,y)::l,(k',u)::m,⟨h1,hk,h2,h3⟩=>by
  subst h1;unfold lh;by_cases e:k=x
  ·simp only[e,if_true];exact⟨rfl,hx,hz,h3⟩
  ·simp only[e,if_false];exact⟨rfl,hk,h2,aH.set hx hz h3⟩
 | [],_::_,h=>h.elim
 |_::_,[],h=>h.elim
omit [al]in
theorem aH.del{x:TT U.ty d.k}: ∀{l:List (TT U.ty d.k×TT U.ty d.v)} {m:List (TT U.ty d.k×Value)},aH U Y S d l m→aH U Y S d (@fz _ _ d.dec l x) (@fz _ _ d.dec m x)
 | [],[],_=>trivial
 |(k,y)::l,(k',u)::m,⟨h1,hk,h2,h3⟩=>by
  subst h1;unfold fz;by_cases e:k=x
  ·simp only[e,if_true];exact h3
  ·simp only[e,if_false];exact⟨rfl,hk,h2,aH.del h3⟩
 | [],_::_,h=>h.elim
 |_::_,[],h=>h.elim
omit [al]in
theorem aH.part{a':List (TT U.ty d.k×Value)}{p':TT U.ty d.k×Value}{b':List (TT U.ty d.k×Value)}: ∀{l:List (TT U.ty d.k×TT U.ty d.v)},aH U Y S d l (a'++p'::b')→
  ∃a p b,l=a++p::b∧p.1=p'.1∧(∃vs,d9 (e8 d.k) (d.enc p.1) vs∧aG U Y S d.k p.1 vs)∧(∃vs,d9 (e8 d.v) p'.2 vs∧aG U Y S d.v p.2 vs)∧aH U Y S d (a++b) (a'++b'):=by
 induction a' with
 |nil=>
  intro l h;cases l with
  |nil=>exact h.elim
  |cons p l=>obtain⟨h1,hk,h2,h3⟩:=h;exact⟨[],p,l,rfl,h1,hk,h2,h3⟩
 |cons q a' ih=>
  intro l h;cases l with
  |nil=>exact h.elim
  |cons p l=>
   obtain⟨h1,hk,h2,h3⟩:=h;obtain⟨a,p2,b,e,e2,e5,e3,e4⟩:=ih h3;exact⟨p::a,p2,b,by rw[e];rfl,e2,e5,e3,h1,hk,h2,e4⟩
end
def rZ(U:bJ)(Y:List Nat)(S:World→Prop)(ρ:Nat→Rz)(n:Nat)(H:Hs U)(R:Rz)(l m:Nat)(C:Nat→Obj):Option (Int×Nat×Nat×Nat)→Prop
 |none=>True
 |some (q,o,k,u)=>0≤q∧q<l∧o<m∧ ∃g cs t cell,R.A=some ⟨g,0,none⟩∧g∈R.own (some (q,o,k,u))∧C g=Cl cs t∧cs[q.toNat*m+o]? =some cell∧aV U Y S ρ n H (.own k u) [cell]
theorem rZ.imp{Y Y':List Nat}{S S':World→Prop}{ρ ρ':Nat→Rz}{n n':Nat}{H H':Hs U}{R:Rz}{l m:Nat}{C:Nat→Obj}(h: ∀x vs,aV U Y S ρ n H x vs→aV U Y' S' ρ' n' H' x vs): ∀{op:Option (Int×Nat×Nat×Nat)},rZ U Y S ρ n H R l m C op→rZ U Y' S' ρ' n' H' R l m C op
 |none,_=>trivial
 |some (q,o,k,u),⟨h1,h2,h3,g,cs,t,cell,h4,h5,h6,h7,h8⟩=>⟨h1,h2,h3,g,cs,t,cell,h4,h5,h6,h7,h _ _ h8⟩
def jQ(U:bJ)(Y:List Nat)(S:World→Prop)(ρ:Nat→Rz)(n:Nat)(H:Hs U)(i:Nat):aN U→Prop
 | .cells l t=> ∃g vs,(ρ i).A=some ⟨g,0,none⟩∧bK (aV U Y S ρ n H) l vs∧ ∀w,S w→w.heap[g]? =some (Cl vs t)
 | .row v e xs t=>0<aS U e∧ ∃cs sp,ba U Y S e xs cs∧Ow (ρ i).A xs.length (ρ i).c (aS U e) cs sp∧ ∀g,ao (ρ i).A=some g→ ∀w,S w→w.heap[g]? =some (Cl (cs++sp) t)
 | .frz v e xs=>0<aS U e∧ ∃cs,ba U Y S e xs cs∧nk Y S (ρ i).A cs∧xs.length≤(ρ i).c∧(ρ i).c≤maxLen
 | .map d l=>rY U d∧ ∃g es clock mv,(ρ i).A=some ⟨g,0,none⟩∧li d.enc (fun v:Value=>v) es clock mv∧aH U Y S d l mv∧ ∀w,S w→w.heap[g]? =some (.map es clock)
 | .mapr d l left cur gh=>rY U d∧ ∃g es clock mv lv cv,(ρ i).A=some ⟨g,0,none⟩∧ni d.enc (fun v:Value=>v) es clock mv lv cv gh∧aH U Y S d l mv∧aH U Y S d left lv∧aH U Y S d cur cv∧ ∀w,S w→w.heap[g]? =some (.map es clock)
 | .it k gh=> ∃r g,(ρ i).A=some ⟨r,0,none⟩∧(ρ k).A=some ⟨g,0,none⟩∧k<n∧bc (aB H k)=none∧ ∀w,S w→w.heap[r]? =some (.mapIter (some g) gh.since gh.seen gh.c0)
 | .ext v d xs op=> ∃C,d.ok (op.map (·.1)) xs Y S (ρ i) C∧(∀g∈(ρ i).own op,∀w,S w→w.heap[g]? =some (C g))∧rZ U Y S ρ n H (ρ i) xs.length (aS U d.e) C op
 | .its s p=>0≤p∧s.length≤9223372036854775807∧ ∃r,(ρ i).A=some ⟨r,0,none⟩∧ ∀w,S w→w.heap[r]? =some (.stringIter ⟨s.toArray⟩ p.toNat)
 | .clo f l=>True
 | .hid _ _ _=>True
 | .dead=>True
def dX(ρ:Nat→Rz):Nat×aN U→List Nat
 |(i,.cells _ _)=>(ao (ρ i).A).toList
 |(i,.row _ _ _ _)=>(ao (ρ i).A).toList
 |(i,.map _ _)=>(ao (ρ i).A).toList
 |(i,.mapr _ _ _ _ _)=>(ao (ρ i).A).toList
 |(i,.it _ _)=>(ao (ρ i).A).toList
 |(i,.its _ _)=>(ao (ρ i).A).toList
 |(i,.ext _ _ _ op)=>(ρ i).own op
 |_=> []
def Lv(ρ:Nat→Rz):Nat×aN U→Nat→Prop
 |(i,.cells _ _),g=>ao (ρ i).A=some g
 |(i,.row _ _ _ _),g=>ao (ρ i).A=some g
 |(i,.map _ _),g=>ao (ρ i).A=some g
 |(i,.mapr _ _ _ _ _),g=>ao (ρ i).A=some g
 |(i,.it _ _),g=>ao (ρ i).A=some g
 |(i,.its _ _),g=>ao (ρ i).A=some g
 |(i,.ext _ _ _ op),g=>g∈(ρ i).own op
 |_,_=>False
omit [al]in
theorem eJ{ρ:Nat→Rz}{p:Nat×aN U}{g:Nat}:g∈dX ρ p↔Lv ρ p g:=by
 obtain⟨i,x⟩:=p;cases x<;>simp only[dX,Lv,Option.mem_toList,Option.mem_def,List.not_mem_nil]
def aj(ρ:Nat→Rz)(H:Hs U):List Nat:=H.flatMap (dX ρ)
def pJ(S:World→Prop):Prop:=(∀z∈gB,z∈al.xf)∧ ∀w,S w→Gv w
theorem pJ.fr{O:List Nat}{w w':World}(h:pJ (· =w))(hf:Fr O w w')(hO: ∀o∈O,o∉al.xf):pJ (· =w'):=⟨h.1,fun w2 h2=>by subst h2;exact(h.2 w rfl).fr hf fun o ho hb=>hO o ho (h.1 o hb)⟩
structure bd(U:bJ)(X:List Nat)(S:World→Prop)(ρ:Nat→Rz)(n:Nat)(H:Hs U):Prop where
 nd:(H.map (·.1)).Nodup
 lt: ∀p∈H,p.1<n
 ent: ∀p∈H,jQ U (aj ρ H++X) S ρ n H p.1 p.2
 inj: ∀p∈H,∀q∈H,∀g,Lv ρ p g→Lv ρ q g→p.1=q.1
 dj: ∀g∈aj ρ H,g∉X
 lo: ∀w,S w→ ∀x∈X,x<w.heap.size
 xs: ∀x∈al.xf,x∈X
 gv:pJ S
def ct(V:Cx U→List Value→Prop)(x:Va U)(v:Value):Prop:=match x.ag with
 |true=> ∃vs:List Value,v= .agg vs.toArray∧bK V x.l vs
 |false=>bK V x.l [v]
def bB(V:Cx U→List Value→Prop):List (Va U)→List Value→Prop
 | [],vs=>vs= []
 |x::r,vs=> ∃v us,vs=v::us∧ct V x v∧bB V r us
def jg(V:Cx U→List Value→Prop):AV U→Value→Prop
 | .v x,u=>ct V x u
 | .tup l,u=> ∃us:List Value,u= .tuple us.toArray∧bB V l us
 |_,_=>True
def ef(R e:En U)(s:Nat):Option Bool:=match aB R s with
 |some (.gd _ ⟨false,(_,.d .bool c):: []⟩)=>some c
 |some _=>none
 |none=>(match aB e s with
  |some (.v ⟨false,(_,.d .bool c):: []⟩)=>some c
  |_=>none)
def bg(R e:En U)(p:b8):Prop:= ∀x∈p,ef R e x.1=some x.2
structure aM(V:Cx U→List Value→Prop)(R e:En U)(ce:aK):Prop where
 v: ∀k x,aB R k=none→aB e k=some (.v x)→ ∃u,ce.get k=some u∧ct V x u
 t: ∀k l,aB R k=none→aB e k=some (.tup l)→ ∃us:List Value,ce.get k=some (.tuple us.toArray)∧bB V l us
 g: ∀k p x,aB R k=some (.gd p x)→ ∃u,ce.get k=some u∧(bg R e p→ct V x u)∧(¬bg R e p→u=undef)
omit [al]in
theorem u6{R e:En U}{s:Nat}{K:Bool→Prop}(h:lm R e s K False): ∃c,ef R e s=some c∧K c:=by
 unfold lm at h;unfold ef;split at h
 ·rename_i q k c hc;rw[hc];exact⟨_,rfl,h⟩
 ·exact h.elim
 ·rename_i hn;split at h
  ·rename_i k c hc;rw[hn,hc];exact⟨_,rfl,h⟩
  ·exact h.elim
omit [al]in
theorem ij{R e:En U}: ∀{p:b8} {A:Prop},me R e p A→bg R e p→A
 | [],A,h,_=>h
 |x::p,A,h,ht=>by
  obtain⟨c,hc,hK⟩:=u6 (show lm R e x.1 (fun c=>c=x.2→me R e p A) False from h);have:=ht x (by simp);rw[hc]at this;injection this with this;exact ij (hK this) fun y hy=>ht y (by simp[hy])
omit [al]in
theorem u7{R e:En U}{s:Nat}{K:Bool→Prop}{N:Prop}(h:lm R e s K N):(∃c,ef R e s=some c∧K c)∨(ef R e s=none∧N):=by
 unfold lm at h;unfold ef;split at h
 ·rename_i q k c hc;rw[hc];exact .inl ⟨_,rfl,h⟩
 ·rename_i y hne hc;rw[hc];right;refine⟨?_,h⟩;split
  ·rename_i heq;injection heq with heq;exact(hne _ _ _ heq).elim
  ·rfl
  ·rename_i heq;cases heq
 ·rename_i hn;rw[hn];split at h
  ·rename_i k c hc;rw[hc];exact .inl ⟨_,rfl,h⟩
  ·rename_i hne;right;refine⟨?_,h⟩;dsimp only;split
   ·rename_i heq;exact(hne _ _ heq).elim
   ·rfl
omit [al]in
theorem pK{R e:En U}: ∀{p:b8} {A:Prop},uW R e p A→ ¬bg R e p→A
 | [],A,h,hn=>absurd (fun x hx=>(by cases hx)) hn
 |x::p,A,h,hn=>by
  rcases u7 (show lm R e x.1 (fun c=>((c=x.2→False)→A)∧uW R e p A) A from h)with⟨c,hc,h1,h2⟩|⟨_,h⟩
  ·by_cases hcx:c=x.2
   ·refine pK h2 fun ht=>hn fun y hy=>?_;rcases List.mem_cons.1 hy with rfl|hy
    ·rw[hc,hcx]
    ·exact ht y hy
   ·exact h1 hcx
  ·exact h
omit [al]in
theorem iI: ∀{p q:b8},eE p q=true→p=q
 | [],[],_=>rfl
 |(s,true)::p,(t,true)::q,h=>by
  simp only[eE]at h;cases hb:Nat.beq s t with
  |false=>rw[hb]at h;cases h
  |true=>rw[hb]at h;rw[Nat.eq_of_beq_eq_true hb,iI h]
 |(s,false)::p,(t,false)::q,h=>by
  simp only[eE]at h;cases hb:Nat.beq s t with
  |false=>rw[hb]at h;cases h
  |true=>rw[hb]at h;rw[Nat.eq_of_beq_eq_true hb,iI h]
 |(s,true)::p,(t,false)::q,h=>by simp[eE]at h
 |(s,false)::p,(t,true)::q,h=>by simp[eE]at h
 | [],_::_,h=>by simp[eE]at h
 |(_,_)::_,[],h=>by simp[eE]at h
omit [al]in
theorem lr{q:b8}: ∀{p:b8},ga q p=true→ ∀x∈q,x∈p
 | [],h,x,hx=>by have:=iI (show eE q []=true from h);rw[this]at hx;exact hx
 |y::p,h,x,hx=>by
  have h:(eE q (y::p)||ga q p)=true:=h;rw[Bool.or_eq_true]at h;rcases h with h|h
  ·have:=iI h;rw[this]at hx;exact hx
  ·exact List.mem_cons_of_mem _ (lr h x hx)
omit [al]in
theorem bg.suf{R e:En U}{p q:b8}(h:bg R e p)(hs:ga q p=true):bg R e q:=fun x hx=>h x (lr hs x hx)
omit [al]in
theorem yJ{k:IntKind}{p:Int}(h:yj k p=true):cZ k p:=by
 cases k<;>cases p<;>simp only[yj,Nat.ble_eq]at h<;>simp only[cZ]<;>first|(cases h;done)|(simp only[Int.ofNat_eq_natCast];omega)|omega
variable {Y:List Nat} {S:World→Prop} {ρ:Nat→Rz} {n:Nat} {H:Hs U} {R e:En U} {ce:aK} {p:b8}
omit [al]in
theorem Me{V:Cx U→List Value→Prop}{x:Cx U}{v:Value}(h:V x [v]):bK V [(1,x)] [v]:=⟨[v],[],rfl,rfl,h,rfl⟩
omit [al]in
theorem eD{V:Cx U→List Value→Prop}{x:Cx U}{v:Value}(h:V x [v]):ct V ⟨false,[(1,x)]⟩ v:=Me h
theorem tA{v:Value}{K:Va U→Prop}(h:qK v K): ∃x,K x∧ct (aV U Y S ρ n H) x v:=by
 unfold qK at h;split at h
 ·rename_i k q;cases hb:yj k q with
  |false=>rw[hb]at h;exact h.elim
  |true=>rw[hb]at h;exact⟨_,h,eD (aG.int k q (yJ hb))⟩
 ·exact⟨_,h,eD (aG.bool _)⟩
 ·rename_i l;cases hb:Nat.ble l.length 9223372036854775807 with
  |false=>rw[hb]at h;exact h.elim
  |true=>rw[hb]at h;exact⟨_,h,eD (aG.str l (Nat.le_of_ble_eq_true hb))⟩
 ·exact⟨_,h,eD rfl⟩
 ·exact⟨_,h,eD rfl⟩
 ·exact⟨_,h,eD rfl⟩
 ·exact⟨_,h,eD aG.enil⟩
 ·exact⟨_,h,eD rfl⟩
 ·exact h.elim
theorem c8{o:Operand}{K:Va U→Prop}(h:jH p R e o K)(he:aM (aV U Y S ρ n H) R e ce): ∃x,K x∧(bg R e p→ ∃v,ce.ev o=some v∧ct (aV U Y S ρ n H) x v):=by
 unfold jH at h;split at h
 ·rename_i t;split at h
  ·rename_i q x hx;cases hb:ga q p with
   |false=>rw[hb]at h;exact h.elim
   |true=>
    rw[hb]at h;obtain⟨u,hu,h1,_⟩:=he.g _ _ _ hx;exact⟨x,h,fun hp=>⟨u,hu,h1 (hp.suf hb)⟩⟩
  ·exact h.elim
  ·rename_i hn;split at h
   ·rename_i x hx;obtain⟨u,hu,h1⟩:=he.v _ _ hn hx;exact⟨x,h,fun _=>⟨u,hu,h1⟩⟩
   ·exact h.elim
 ·rename_i v;obtain⟨x,hx,hv⟩:=tA h;exact⟨x,hx,fun _=>⟨v,rfl,hv⟩⟩
 ·exact⟨_,h,fun _=>⟨_,rfl,eD rfl⟩⟩
 ·exact h.elim
theorem e9: ∀{l:List Operand} {K:List (Va U)→Prop},mc p R e l K→aM (aV U Y S ρ n H) R e ce→ ∃xs,K xs∧(bg R e p→ ∃vs,ce.evs l=some vs∧bB (aV U Y S ρ n H) xs vs)
 | [],K,h,he=>⟨[],h,fun _=>⟨[],rfl,rfl⟩⟩
 |o::l,K,h,he=>by
  obtain⟨x,h1,hx⟩:=c8 (show jH p R e o (fun v=>mc p R e l fun r=>K (v::r))from h) he;obtain⟨xs,h2,hxs⟩:=e9 (l:=l) h1 he;refine⟨_,h2,fun hp=>?_⟩;obtain⟨v,e1,v1⟩:=hx hp;obtain⟨vs,e2,v2⟩:=hxs hp;exact⟨v::vs,by simp only[aK.evs,e1,e2],v,vs,rfl,v1,v2⟩
theorem ct.single{x:Va U}{k:Nat}{c:Cx U}{v:Value}(h:ct (aV U Y S ρ n H) x v)(hl:x.l= [(k,c)]): ∃vs,aV U Y S ρ n H c vs∧vs.length=k∧v.cells.toList=vs∧(x.ag=false→vs= [v]):=by
 unfold ct at h;split at h
 ·rename_i ha;obtain⟨vs,rfl,hs⟩:=h;rw[hl]at hs;exact⟨vs,hs.one1.1,hs.one1.2,by simp[Value.cells],fun hf=>by rw[ha]at hf;cases hf⟩
 ·rename_i ha;rw[hl]at h;refine⟨[v],h.one1.1,h.one1.2,?_,fun _=>rfl⟩;have:=h.one1.1.one v (by simp);cases v<;>first|rfl|(simp[Value.oneCell']at this)
theorem ct.cells{x:Va U}{v:Value}(h:ct (aV U Y S ρ n H) x v):bK (aV U Y S ρ n H) x.l v.cells.toList:=by
 unfold ct at h;split at h
 ·obtain⟨vs,rfl,hs⟩:=h;simpa[Value.cells]using hs
 ·have:=h.one v (by simp);cases v<;>first|exact h|(simp[Value.oneCell']at this)
theorem ct.int{x:Va U}{k:Nat}{kd:IntKind}{q:Int}{v:Value}(h:ct (aV U Y S ρ n H) x v)(hl:x.l= [(k,.d (.int kd) q)]):cZ kd q∧(v= .int kd q∨v= .agg #[.int kd q]):=by
 obtain⟨vs,h1,h2,h3,h4⟩:=h.single hl;have hd:=(show aG U Y S (.int kd) q vs from h1).inv;refine⟨hd.2,?_⟩;rw[hd.1]at h3 h4;cases hx:x.ag with
 |false=>have:=h4 hx;injection this with this;exact .inl this.symm
 |true=>
  unfold ct at h;rw[hx]at h;obtain⟨us,rfl,hs⟩:=h;simp[Value.cells]at h3;rw[h3];exact .inr rfl
end
end Go.Proofs.YtfgofabojepcmaaGreatDoor.V
end

section
set_option linter.unusedVariables false
set_option linter.unusedSimpArgs false
namespace Go.Proofs.YtfgofabojepcmaaGreatDoor.V
open Go.RowKit
section
variable [al] {U:bJ} {P:Program} {nt:Nat} {T:cH U} {X:List Nat} {S:World→Prop} {ρ:Nat→Rz} {n:Nat} {H:Hs U} {R e:En U} {ce:aK} {p:b8} {o:Oper}
omit [al]in
theorem af{α:Type}: ∀{l:List (Nat×α)} {i:Nat} {x:α},aB l i=some x→(i,x)∈l
 |(j,y)::r,i,x,h=>by
  unfold aB at h;cases hb:Nat.beq j i with
  |true=>rw[hb]at h;injection h with h;rw[←h,Nat.eq_of_beq_eq_true hb];simp
  |false=>rw[hb]at h;exact List.mem_cons_of_mem _ (af h)
theorem bm{Y:List Nat}{o:Operand}{K:Cx U→Prop}(h:f8 p R e o K)(he:aM (aV U Y S ρ n H) R e ce): ∃c,K c∧(bg R e p→ ∃v,ce.ev o=some v∧aV U Y S ρ n H c [v]):=by
 obtain⟨x,hx,hv⟩:=c8 h he;unfold CL at hx;split at hx
 ·rename_i k c;refine⟨c,hx,fun hp=>?_⟩;obtain⟨v,e1,e2⟩:=hv hp;exact⟨v,e1,(show bK _ [(k,c)] [v]from e2).one1.1⟩
 ·exact hx.elim
structure u9(S:World→Prop)(l m:Nat)(A:Option Addr)(c:Nat)(cs:List Value):Prop where
 src: ∀w,S w→ ∀ad,A=some ad→ ∀j u,cs[j]? =some u→w.cell? (ad.add j)=some u
 none_:A=none→l=0
 mid: ∀ad,A=some ad→0<l→ad.spot=none
 lc:l≤c
 cm:c≤maxLen
 len:cs.length=l*m
 pos:0<m
omit [al]in
theorem vb{Y:List Nat}{l m c:Nat}{A:Option Addr}{cs:List Value}(h:nk Y S A cs)(hl:cs.length=l*m)(hm:0<m)(hlc:l≤c)(hc:c≤maxLen)(hS: ∃w,S w):u9 S l m A c cs:=by
 refine⟨fun w hw ad hA j u hj=>(h w hw).src ad hA j u hj,fun hA=>?_,fun ad hA hl0=>?_,hlc,hc,hl,hm⟩
 ·obtain⟨w,hw⟩:=hS;exact lX (h w hw) hA hl hm
 ·obtain⟨w,hw⟩:=hS;obtain⟨g,b,e1⟩:=(h w hw).addr (by rw[hl];exact Nat.mul_pos hl0 hm);rw[hA]at e1;injection e1 with e1;rw[e1]
omit [al]in
theorem Dn{l c m:Nat}{A:Option Addr}{cs sp:List Value}{t:Nat}(ho:Ow A l c m cs sp)(hb: ∀g,ao A=some g→ ∀w,S w→w.heap[g]? =some (Cl (cs++sp) t))(hm:0<m):u9 S l m A c cs:=by
 refine⟨fun w hw ad hA j u hj=>?_,fun hA=>xm ho hA,fun ad hA _=>?_,?_,?_,ho.1,hm⟩
 ·subst hA;rcases ho.2 with⟨h0,_⟩|⟨g,e1,_⟩
  ·cases h0
  injection e1 with e1;subst e1;rw[Addr.add_mid,Nat.zero_add,cell_of_row w g j (cs++sp).toArray t (0,0) (hb g rfl w hw)];simp only[List.getElem?_toArray];rw[List.getElem?_append_left (List.getElem?_eq_some_iff.1 hj).1];exact hj
 ·rcases ho.2 with⟨h0,_⟩|⟨g,e1,_⟩
  ·rw[h0]at hA;cases hA
  ·rw[hA]at e1;injection e1 with e1;rw[e1]
 ·rcases ho.2 with⟨_,h0,h1,_⟩|⟨g,_,_,h1,_⟩
  ·omega
  ·exact h1
 ·rcases ho.2 with⟨_,h0,h1,_⟩|⟨g,_,_,_,h1⟩
  ·rw[h1];exact Nat.zero_le _
  ·exact h1
theorem oo{x:Cx U}{K:(s:bj)→List (TT U.ty s)→Prop}(h:qL H x K)(M:bd U X S ρ n H)(hS: ∃w,S w):
  ∃s xs,K s xs∧ ∀vs,aV U (aj ρ H++X) S ρ n H x vs→ ∃A c cs,vs= [.slice A xs.length c]∧ba U (aj ρ H++X) S s xs cs∧u9 S xs.length (aS U s) A c cs:=by
 unfold qL at h;split at h
 ·rename_i s xs;cases hb:Nat.blt 0 (aS U s)with
  |false=>rw[hb]at h;exact h.elim
  |true=>
   rw[hb]at h;have hb:0<aS U s:=by simpa[Nat.blt_eq]using hb
   refine⟨s,xs,h,fun vs hv=>?_⟩;obtain⟨A,c,cs,rfl,hd,hr,h1,h2⟩:=(show aG U _ S (.sl s) xs vs from hv).inv;exact⟨A,c,cs,rfl,hd,vb hr hd.length hb h1 h2 hS⟩
 ·rename_i i v;split at h
  ·rename_i v' s xs t hl;cases hb:Nat.beq v v' with
   |false=>rw[hb]at h;exact h.elim
   |true=>
    rw[hb]at h;refine⟨s,xs,h,fun vs hv=>?_⟩;obtain⟨_,A,l,c,rfl,hn⟩:=hv;obtain⟨rfl,rfl,rfl⟩:=(hn _ _ _ (by rw[hl];rfl)).2 (Nat.eq_of_beq_eq_true hb);obtain⟨hm,cs,sp,hd,ho,hb⟩:=M.ent _ (af hl);exact⟨_,_,cs,rfl,hd,Dn ho hb hm⟩
  ·rename_i v' s xs hl;cases hb:Nat.beq v v' with
   |false=>rw[hb]at h;exact h.elim
   |true=>
    rw[hb]at h;refine⟨s,xs,h,fun vs hv=>?_⟩;obtain⟨_,A,l,c,rfl,hn⟩:=hv;obtain⟨rfl,rfl,rfl⟩:=(hn _ _ _ (by rw[hl];rfl)).2 (Nat.eq_of_beq_eq_true hb);obtain⟨hm,cs,hd,hr,h1,h2⟩:=M.ent _ (af hl);exact⟨_,_,cs,rfl,hd,vb hr hd.length hm h1 h2 hS⟩
  ·exact h.elim
 ·exact h.elim
omit [al]in
theorem oq{t:Nat}{ti:TI U}(h:bT U P t ti)(ha:qF ti.kd=true):cS P t=some ti.sz:=by
 have hk:=h.kd;unfold cS;cases hkd:ti.kd with
 |st=>rw[hkd]at hk;obtain⟨fs,hk⟩:=hk;rw[hk];exact h.size
 |arr k e=>rw[hkd]at hk;rw[show P.underlying t=_ from hk];exact h.size
 |_=>rw[hkd]at ha;cases ha
omit [al]in
theorem mi{t:Nat}{ti:TI U}(h:bT U P t ti)(ha:qF ti.kd=false):ti.sz=1:=by
 have hp:=h.one ha;have hs:=h.size;unfold cA at hp;split at hp
 ·cases hp
 ·cases hp
 ·cases hq:P.info? t with
  |none=>rw[hq]at hs;cases hs
  |some i=>rw[hq]at hp hs;simp at hp hs;omega
 ·cases hp
theorem jo{t:Nat}{l:List (bH U)}{K:Va U→Prop}(h:ym T t l K)(hT:bl U P T):
  ∃v,K v∧ ∃ti,aB T t=some ti∧jL U fun V Y S=> ∀vs,bK V l vs→vs.length=ti.sz→ ∃u,ct V v u∧(qF ti.kd=true→u= .agg vs.toArray)∧(qF ti.kd=false→vs= [u]):=by
 unfold ym at h;split at h
 ·rename_i ti hti;have htk:=hT _ _ hti;cases ha:qF ti.kd with
  |true=>
   simp only[ha]at h;exact⟨_,h,ti,hti,fun Y S ρ n H vs hs hl=>⟨_,⟨vs,rfl,hs⟩,fun _=>rfl,fun hf=>(by rw[ha]at hf;cases hf)⟩⟩
  |false=>
   simp only[ha]at h;have h1:=mi htk ha;have one: ∀vs:List Value,vs.length=ti.sz→ ∃v,vs= [v]:=fun vs hl=>by
    match vs,hl with
    | [v],_=>exact⟨v,rfl⟩
    | [],hl=>simp at hl;omega
    |_::_::_,hl=>simp at hl;omega
   split at h
   ·rename_i m i x;obtain⟨l',hK,hs'⟩:=jM h;refine⟨_,hK,ti,hti,fun Y S ρ n H vs hs hl=>?_⟩;obtain⟨v,rfl⟩:=one vs hl;exact⟨v,hs' Y S ρ n H _ hs.one1.1,fun hf=>(by rw[ha]at hf;cases hf),fun _=>rfl⟩
   ·refine⟨_,h,ti,hti,fun Y S ρ n H vs hs hl=>?_⟩;obtain⟨v,rfl⟩:=one vs hl;exact⟨v,hs,fun hf=>(by rw[ha]at hf;cases hf),fun _=>rfl⟩
 ·exact h.elim
omit [al]in
theorem kO{t:Nat}{ti:TI U}(hti:bT U P t ti){vs:List Value}{u:Value}(hl:vs.length=ti.sz)(h1:qF ti.kd=true→u= .agg vs.toArray)(h2:qF ti.kd=false→vs= [u]){w:World}{g k:Nat}(hr:w.rangeAt g k vs):(loadVar t ⟨g,k,none⟩).run P w= .ok u w:=by
 cases ha:qF ti.kd with
 |true=>rw[h1 ha];exact g7 (oq hti ha) hl hr
 |false=>have:=h2 ha;subst this;exact gk (hti.one ha) (by simpa using hr 0 u rfl)
omit [al]in
theorem kP{w:World}{g:Nat}{t:Nat}{vs:List Value}(h:w.heap[g]? =some (Cl vs t))(off k:Nat):w.rangeAt g off ((vs.drop off).take k):=fun j v hj=>by
 rw[List.getElem?_take]at hj;split at hj
 ·rw[List.getElem?_drop]at hj;rw[cell_of_row w g (off+j) vs.toArray t (0,0) h];simpa using hj
 ·cases hj
omit [al]in
theorem fD{α:Type}{vs:List α}{q m off k:Nat}(h:off+k≤m):(((vs.drop q).take m).drop off).take k=(vs.drop (q+off)).take k:=by
 rw[List.drop_take,List.take_take,List.drop_drop,Nat.min_eq_left (by omega)]
def Mf(P:Program)(V:Cx U→List Value→Prop)(S:World→Prop)(t:Nat)(x:Cx U)(v:Va U):Prop:= ∀u0,V x [u0]→ ∃A u,u0= .pointer (some A)∧ct V v u∧ ∀w,S w→(loadVar t A).run P w= .ok u w
omit [al]in
theorem lQ{q l m:Nat}(h:q<l):q*m+m≤l*m:=by
 have:=Nat.mul_le_mul_right m (show q+1≤l from h);rw[Nat.add_mul,Nat.one_mul]at this;exact this
omit [al]in
theorem tB{w:World}{g off m k q l:Nat}{cs sp:List Value}{t:Nat}(h:w.heap[g]? =some (Cl (cs++sp) t))(hl:cs.length=l*m)(hq:q<l)(ho:off+k≤m):w.rangeAt g (q*m+off) ((((cs.drop (q*m)).take m).drop off).take k):=by
 rw[fD ho];have:=kP h (q*m+off) k;have h2:=lQ (m:=m) hq;rw[List.drop_append_of_le_length (by omega),List.take_append_of_le_length (by rw[List.length_drop];omega)]at this;exact this
omit [al]in
theorem vd{Y:List Nat}{A:Option Addr}{g off m k q l:Nat}{cs:List Value}(h:nk Y S A cs)(hA:A=some ⟨g,0,none⟩)(ho:off+k≤m){w:World}(hw:S w):w.rangeAt g (q*m+off) ((((cs.drop (q*m)).take m).drop off).take k):=by
 rw[fD ho];subst hA;have:=(h w hw).range (q*m+off) k;rw[Nat.zero_add]at this;exact this
theorem pL{t:Nat}{x:Cx U}{K:Va U→Prop}(h:pz T t H x K)(M:bd U X S ρ n H)(hT:bl U P T):
  ∃v,K v∧Mf P (aV U (aj ρ H++X) S ρ n H) S t x v:=by
 unfold pz at h;split at h
 ·rename_i ti hti;have htk:=hT _ _ hti;split at h
  ·rename_i i off;split at h
   ·rename_i l ty hl;obtain⟨l',hK,hs'⟩:=dM h;obtain⟨v,hv,ti',hti',hva⟩:=jo hK hT;rw[hti]at hti';injection hti' with hti';subst hti';refine⟨v,hv,fun u0 h0=>?_⟩;obtain⟨g,vs,hA,hs,hb⟩:=M.ent _ (af hl);obtain⟨a1,a2⟩:=hs' _ _ _ _ _ _ hs;have hlen:((vs.drop off).take ti.sz).length=ti.sz:=by rw[List.length_take,List.length_drop];omega
    obtain⟨u,hu,e1,e2⟩:=hva _ _ _ _ _ _ a1 hlen;obtain⟨_,_,g',hA',e3⟩:=h0;rw[hA]at hA';injection hA' with hA';injection hA' with hA';subst hA';injection e3 with e3;exact⟨_,u,e3,hu,fun w hw=>kO htk hlen e1 e2 (kP (hb w hw) _ _)⟩
   ·exact h.elim
  ·rename_i i v q off;split at h
   ·rename_i v' s xs ty hl;cases hbq:Nat.beq v v' with
    |false=>rw[hbq]at h;exact h.elim
    |true=>
     rw[hbq]at h;obtain⟨x,hx,hix⟩:=gl h;obtain⟨l',hK,hs'⟩:=dM hx;obtain⟨va,hv,ti',hti',hva⟩:=jo hK hT;rw[hti]at hti';injection hti' with hti';subst hti';refine⟨va,hv,fun u0 h0=>?_⟩;obtain⟨hm,cs,sp,hd,ho,hb⟩:=M.ent _ (af hl);obtain⟨_,a,e3,hn⟩:=h0;obtain⟨g,hA,ha,hq0,hq1⟩:=(hn _ _ _ (by rw[hl];rfl)).2 (Nat.eq_of_beq_eq_true hbq);injection e3 with e3;have hxq:=hix _ (List.getElem?_eq_getElem (show q.toNat<xs.length by omega));have hat:=hd.at q.toNat _ (List.getElem?_eq_getElem (show q.toNat<xs.length by omega));rw[←hxq]at hat;have hatl:=hat.length;obtain⟨a1,a2⟩:=hs' (aj ρ H++X) S ρ n H _ ⟨_,[],(List.append_nil _).symm,hatl,hat,rfl⟩;rw[hatl]at a2;have hlen:(((((cs.drop (q.toNat*aS U s)).take (aS U s))).drop off).take ti.sz).length=ti.sz:=by rw[List.length_take,List.length_drop,hatl];omega
     obtain⟨u,hu,e1,e2⟩:=hva _ _ _ _ _ _ a1 hlen;subst ha;exact⟨_,u,e3,hu,fun w hw=>kO htk hlen e1 e2 (tB (hb g (by rw[hA];rfl) w hw) hd.length (by omega) a2)⟩
   ·rename_i v' s xs hl;cases hbq:Nat.beq v v' with
    |false=>rw[hbq]at h;exact h.elim
    |true=>
     rw[hbq]at h;obtain⟨x,hx,hix⟩:=gl h;obtain⟨l',hK,hs'⟩:=dM hx;obtain⟨va,hv,ti',hti',hva⟩:=jo hK hT;rw[hti]at hti';injection hti' with hti';subst hti';refine⟨va,hv,fun u0 h0=>?_⟩;obtain⟨hm,cs,hd,hr,_,_⟩:=M.ent _ (af hl);obtain⟨_,a,e3,hn⟩:=h0;obtain⟨g,hA,ha,hq0,hq1⟩:=(hn _ _ _ (by rw[hl];rfl)).2 (Nat.eq_of_beq_eq_true hbq);injection e3 with e3;have hxq:=hix _ (List.getElem?_eq_getElem (show q.toNat<xs.length by omega));have hat:=hd.at q.toNat _ (List.getElem?_eq_getElem (show q.toNat<xs.length by omega));rw[←hxq]at hat;have hatl:=hat.length;obtain⟨a1,a2⟩:=hs' (aj ρ H++X) S ρ n H _ ⟨_,[],(List.append_nil _).symm,hatl,hat,rfl⟩;rw[hatl]at a2;have hlen:(((((cs.drop (q.toNat*aS U s)).take (aS U s))).drop off).take ti.sz).length=ti.sz:=by rw[List.length_take,List.length_drop,hatl];omega
     obtain⟨u,hu,e1,e2⟩:=hva _ _ _ _ _ _ a1 hlen;subst ha;exact⟨_,u,e3,hu,fun w hw=>kO htk hlen e1 e2 (vd (l:=xs.length) hr hA a2 hw)⟩
   ·rename_i v' d xs q0 o0 k0 u0 hl;cases hbq:(Nat.beq v v'&&(Nat.beq off o0&&Nat.beq ti.sz 1))with
    |false=>rw[hbq]at h;exact h.elim
    |true=>
     rw[hbq]at h;rw[Bool.and_eq_true,Bool.and_eq_true]at hbq;obtain⟨hq,hK⟩:=(show q=q0∧_ from h);subst hq;obtain⟨va,hv,ti',hti',hva⟩:=jo hK hT;rw[hti]at hti';injection hti' with hti';subst hti';refine⟨va,hv,fun u0 h0=>?_⟩;obtain⟨C,_,hb,_,_,_,g0,cs,ty,cell,hA0,hgb,hC,hcell,hown⟩:=M.ent _ (af hl);obtain⟨_,a,e3,hn⟩:=h0;obtain⟨g,hA,ha,hq0,hq1⟩:=(hn _ _ _ (by rw[hl];rfl)).2 (Nat.eq_of_beq_eq_true hbq.1);injection e3 with e3;have ho:=Nat.eq_of_beq_eq_true hbq.2.1;have hs1:=Nat.eq_of_beq_eq_true hbq.2.2;subst ho;simp only at hA0;rw[hA]at hA0;injection hA0 with hA0;injection hA0 with hA0;subst hA0;obtain⟨u,hu,e1,e2⟩:=hva (aj ρ H++X) S ρ n H [cell] ⟨[cell],[],rfl,rfl,hown,rfl⟩ (by rw[hs1];rfl);subst ha;refine⟨_,u,e3,hu,fun w hw=>kO htk (by rw[hs1];rfl) e1 e2 fun j y hj=>?_⟩;rw[cell_of_row w g _ cs.toArray ty (0,0) (by rw[hb g hgb w hw,hC])];cases j with
     |zero=>simp at hj;subst hj;simpa using hcell
     |succ j=>simp at hj
   ·exact h.elim
  ·rename_i i off k s q o;split at h
   ·rename_i l ty hl;obtain⟨la,h,hla⟩:=dM h;obtain⟨(xs:List (TT U.ty s)),h,hxs⟩:=bt h;obtain⟨x,hx,hix⟩:=gl h;obtain⟨l',hK,hs'⟩:=dM hx;obtain⟨va,hv,ti',hti',hva⟩:=jo hK hT;rw[hti]at hti';injection hti' with hti';subst hti';refine⟨va,hv,fun u0 h0=>?_⟩;obtain⟨g,vs,hA,hs,hb⟩:=M.ent _ (af hl);obtain⟨_,_,hq0,hq1,g',hA',e3⟩:=h0;rw[hA]at hA';injection hA' with hA';injection hA' with hA';subst hA';injection e3 with e3;obtain⟨b1,b2⟩:=hla _ _ _ _ _ _ hs;obtain⟨hd1,hd2⟩:=aG.inv (hxs _ _ _ _ _ _ b1);have hqk:q.toNat<xs.length:=by have:xs.length=k:=hd2;omega
    have hxq:=hix _ (List.getElem?_eq_getElem hqk);have hat:=hd1.at q.toNat _ (List.getElem?_eq_getElem hqk);rw[←hxq]at hat;have hatl:=hat.length;obtain⟨a1,a2⟩:=hs' (aj ρ H++X) S ρ n H _ ⟨_,[],(List.append_nil _).symm,hatl,hat,rfl⟩;rw[hatl]at a2;have hlen:=show((((((vs.drop off).take (k*aS U s)).drop (q.toNat*aS U s)).take (aS U s)).drop o).take ti.sz).length=ti.sz by rw[List.length_take,List.length_drop,hatl];omega
    obtain⟨u,hu,e1,e2⟩:=hva _ _ _ _ _ _ a1 hlen;have hrow:=lQ (m:=aS U s) (show q.toNat<k by omega);refine⟨_,u,e3,hu,fun w hw=>kO htk hlen e1 e2 ?_⟩;rw[fD (k:=aS U s) hrow,fD a2];exact kP (hb w hw) _ _
   ·exact h.elim
  ·rename_i s x;cases hbq:Nat.beq ti.sz (aS U s)with
   |false=>rw[hbq]at h;exact h.elim
   |true=>
    rw[hbq]at h;have hsz:=Nat.eq_of_beq_eq_true hbq;obtain⟨va,hv,ti',hti',hva⟩:=jo h hT;rw[hti]at hti';injection hti' with hti';subst hti';refine⟨va,hv,fun u0 h0=>?_⟩;obtain⟨g,b,us,e3,hd,hr⟩:=h0;injection e3 with e3;have hl:=hd.length;obtain⟨u,hu,e1,e2⟩:=hva (aj ρ H++X) S ρ n H _ ⟨_,[],(List.append_nil _).symm,hl,hd,rfl⟩ (by omega);refine⟨_,u,e3,hu,fun w hw=>kO htk (by omega) e1 e2 ?_⟩;have:=(hr w hw).range 0 us.length;simpa using this
  ·exact h.elim
 ·exact h.elim
omit [al]in
theorem r3{i v:Nat}(hc:nl H i v=true): ∃l m,bc (aB H i)=some (v,l,m):=by
 unfold nl at hc;split at hc
 ·rename_i hl;rw[hl];exact⟨_,_,by rw[Nat.eq_of_beq_eq_true hc];rfl⟩
 ·rename_i hl;rw[hl];exact⟨_,_,by rw[Nat.eq_of_beq_eq_true hc];rfl⟩
 ·rename_i hl;rw[hl];exact⟨_,_,by rw[Nat.eq_of_beq_eq_true hc];rfl⟩
 ·cases hc
theorem r4{Y:List Nat}{i v off:Nat}{q:Int}{u:Value}(h:aV U Y S ρ n H (.pel i v q off) [u])(hc:nl H i v=true): ∃A,u= .pointer (some A):=by
 obtain⟨l,m,hr⟩:=r3 hc;obtain⟨hi,a,e1,hn⟩:=h;injection e1 with e1;obtain⟨g,hA,ha,hq⟩:=(hn _ _ _ hr).2 rfl;exact⟨_,by rw[e1,ha]⟩
theorem yK{t f:Nat}{x:Cx U}{K:Cx U→Prop}(h:CM T t f H x K)(hT:bl U P T): ∃c off,K c∧dh P t f=some off∧ ∀u0,aV U (aj ρ H++X) S ρ n H x [u0]→ ∃g k,u0= .pointer (some ⟨g,k,none⟩)∧aV U (aj ρ H++X) S ρ n H c [.pointer (some ⟨g,k+off,none⟩)]:=by
 unfold CM at h;split at h
 ·rename_i ti hti;have htk:=hT _ _ hti;split at h
  ·rename_i off ft hf;have hfo:=(htk.fs _ _ _ hf).1;split at h
   ·rename_i i o;refine⟨_,off,h,hfo,fun u0 h0=>?_⟩;obtain⟨hi,hr,g,hA,e1⟩:=h0;injection e1 with e1;exact⟨g,o,e1,hi,hr,g,hA,rfl⟩
   ·rename_i i v q o;cases hc:nl H i v with
    |false=>rw[hc]at h;exact h.elim
    |true=>
     rw[hc]at h;refine⟨_,off,h,hfo,fun u0 h0=>?_⟩;obtain⟨hi,a,e1,hn⟩:=h0;injection e1 with e1;obtain⟨l,m,hr⟩:=r3 hc;obtain⟨g,hA,ha,hq⟩:=(hn _ _ _ hr).2 rfl;subst ha;refine⟨g,_,e1,hi,_,by rw[Nat.add_assoc],fun v' l' m' hr'=>?_⟩;rw[hr]at hr';injection hr' with hr';injection hr' with h1 hr';injection hr' with h2 h3;subst h1;subst h2;subst h3;exact⟨Nat.le_refl _,fun _=>⟨g,hA,rfl,hq⟩⟩
   ·rename_i i o k s q o';refine⟨_,off,h,hfo,fun u0 h0=>?_⟩;obtain⟨hi,hr,h1,h2,g,hA,e1⟩:=h0;injection e1 with e1;exact⟨g,_,e1,hi,hr,h1,h2,g,hA,by rw[Nat.add_assoc]⟩
   ·rename_i s y;split at h
    ·rename_i fi hfi;obtain⟨l',hK,hs'⟩:=dM h;split at hK
     ·rename_i m s' y';cases hb:Nat.beq ti.sz (aS U s)with
      |false=>rw[hb]at hK;exact hK.elim
      |true=>
       rw[hb]at hK;refine⟨_,off,hK,hfo,fun u0 h0=>?_⟩;obtain⟨g,b,us,e1,hd,hr⟩:=h0;injection e1 with e1;obtain⟨a1,a2⟩:=hs' (aj ρ H++X) S ρ n H _ ⟨_,[],(List.append_nil _).symm,hd.length,hd,rfl⟩;refine⟨g,b,e1,g,b+off,_,rfl,a1.one1.1,fun w hw=>?_⟩;exact((hr w hw).drop off).take fi.sz
     ·exact hK.elim
    ·exact h.elim
   ·exact h.elim
  ·exact h.elim
 ·exact h.elim
end
end Go.Proofs.YtfgofabojepcmaaGreatDoor.V
end

section
set_option linter.unusedVariables false
set_option linter.unusedSectionVars false
set_option linter.unusedSimpArgs false
namespace Go.Proofs.YtfgofabojepcmaaGreatDoor.V
open Go.RowKit
theorem kQ(n:Int):IntKind.u16.wrap n=n%65536:=by simp[IntKind.wrap,IntKind.bits,IntKind.signed]
theorem kR(n:Int):IntKind.u64.wrap n=n%18446744073709551616:=by simp[IntKind.wrap,IntKind.bits,IntKind.signed]
theorem pM(n:Int):IntKind.i8.wrap n=(n+128)%256 - 128:=by
 simp[IntKind.wrap,IntKind.bits,IntKind.signed];split<;>omega
theorem nL(n:Int):IntKind.i16.wrap n=(n+32768)%65536 - 32768:=by
 simp[IntKind.wrap,IntKind.bits,IntKind.signed];split<;>omega
theorem ot{k:IntKind}{r:Int}(h:cZ k r):k.wrap r=r:=by
 cases k<;>simp only[cZ]at h<;>simp only[pM,nL,IntKind.wrap_i32,IntKind.wrap_i64,IntKind.wrap_u8,kQ,IntKind.wrap_u32,kR]<;>omega
theorem iJ(k:IntKind)(r:Int):cZ k (k.wrap r):=by
 cases k<;>simp only[cZ,pM,nL,IntKind.wrap_i32,IntKind.wrap_i64,IntKind.wrap_u8,kQ,IntKind.wrap_u32,kR]<;>omega
theorem vg{k:IntKind}{r:Int}{K:Int→Prop}(h:IE k r K):K (k.wrap r):=by
 cases k with
 |u8=>rw[IntKind.wrap_u8];exact h
 |u16=>rw[kQ];exact h
 |u32=>rw[IntKind.wrap_u32];exact h
 |u64=>rw[kR];exact h
 |_=>exact h
theorem mj{g:Prop→Prop}{B:Prop}(hg: ∀A,g A→B→A){k:IntKind}{p q r:Int}{K:Int→Prop}(h:BN g k p q r K): ∃c,K c∧(B→cZ k p→cZ k q→k.wrap r=c∧cZ k c):=by
 unfold BN IF at h;rcases h with⟨h1,h2⟩|h2
 ·exact⟨r,h2,fun hb hp hq=>by have:=hg _ h1 hb hp hq;exact⟨ot this,this⟩⟩
 ·exact⟨_,vg h2,fun _ _ _=>⟨rfl,iJ _ _⟩⟩
theorem Do{g:Prop→Prop}{B:Prop}(hg: ∀A,g A→B→A){k:IntKind}{p r:Int}{K:Int→Prop}(h:BN g k p p r K): ∃c,K c∧(B→cZ k p→k.wrap r=c∧cZ k c):=by
 obtain⟨c,hK,hc⟩:=mj hg h;exact⟨c,hK,fun hB hp=>hc hB hp hp⟩
theorem vh{k:IntKind}{p m:Int}(h:cZ k p)(hm:0<m):cZ k (p/m):=by
 have h1:p/m≤max p 0:=by
  rcases Int.le_total 0 p with hp|hp
  ·have:=Int.ediv_le_self m hp;omega
  ·have h2:p/m≤0:=Int.ediv_le_of_le_mul hm (by simpa using hp);omega
 have h2:min p 0≤p/m:=by
  rcases Int.le_total 0 p with hp|hp
  ·have:=Int.ediv_nonneg hp (Int.le_of_lt hm);omega
  ·have:p≤p/m:=by
    rw[Int.le_ediv_iff_mul_le hm];have h3:=Int.mul_nonneg (show(0:Int)≤ -p by omega) (show(0:Int)≤m - 1 by omega);have h4: -p*(m - 1)= -(p*m)+p:=by rw[Int.mul_sub,Int.mul_one,Int.neg_mul];omega
    omega
   omega
 cases k<;>simp only[cZ]at h⊢ <;>omega
theorem Dp{k:IntKind}{p q:Int}(h:cZ k p)(hp:0≤p)(hq:0<q):cZ k (p/q):=vh h hq
theorem Dq{k:IntKind}{p q:Int}(h:cZ k p)(hp:0≤p)(hq:0<q):cZ k (p%q):=by
 have h1:=Int.emod_nonneg p (show q≠0 by omega);have h2:p%q≤p:=by
  have:=Int.emod_add_mul_ediv p q;have h3:=Int.mul_nonneg (show(0:Int)≤q by omega) (Int.ediv_nonneg hp (show(0:Int)≤q by omega));omega
 cases k<;>simp only[cZ]at h⊢ <;>omega
theorem pN(j:Nat):(0:Int)<2^j:=by exact_mod_cast Nat.pow_pos (n:=j) (show 0<2 by decide)
section
variable [bF] [al] {U:bJ} {P:Program} {nt:Nat} {T:cH U} {X:List Nat} {S:World→Prop} {ρ:Nat→Rz} {n:Nat} {H:Hs U} {R e:En U} {ce:aK} {p:b8} {o:Oper} {Y:List Nat}
theorem lK{k:IntKind}{q:Int}(h:cZ k q):ct (aV U Y S ρ n H) (⟨false,[(1,.d (.int k) q)]⟩:Va U) (.int k q):=eD (aG.int k q h)
theorem g9{b:Bool}:ct (aV U Y S ρ n H) (⟨false,[(1,.d .bool b)]⟩:Va U) (.bool b):=eD (aG.bool b)
def lR(P:Program)(nt:Nat)(ce:aK)(S:World→Prop)(o:Oper)(B:Prop)(V:Cx U→List Value→Prop)(v:Va U):Prop:=B→ ∃u,cb P nt ce S o u∧ct V v u
theorem yL{g:Prop→Prop}{B:Prop}(hg: ∀A,g A→B→A){op:BinOp}{k k':IntKind}{a b:Int}{K:Va U→Prop}(h:CI g op k a k' b K){t u:Nat}{x y:Operand}(ho:o.op= .binOp op t x y u)
  (hx:B→ce.ev x=some (.int k a)) (hy:B→ce.ev y=some (.int k' b)) (hp:B→cZ k a) (hq:B→cZ k' b): ∃v,K v∧lR P nt ce S o B (aV U Y S ρ n H) v:=by
 unfold CI at h;cases hk:(ie k k'||CH op)with
 |false=>rw[hk]at h;exact h.elim
 |true=>
  rw[hk]at h;have h:_:=h;simp only[cond_true]at h;have hkk:CH op=false→k=k':=fun hs=>by rw[hs,Bool.or_false]at hk;exact jK hk
  cases op with
  |add=>
   obtain rfl:=hkk rfl;obtain⟨c,hK,hc⟩:=mj hg h;exact⟨_,hK,fun hB=>by obtain⟨h1,h2⟩:=hc hB (hp hB) (hq hB);exact⟨_,jm ho (hx hB) (hy hB) h1,lK h2⟩⟩
  |sub=>
   obtain rfl:=hkk rfl;obtain⟨c,hK,hc⟩:=mj hg h;exact⟨_,hK,fun hB=>by obtain⟨h1,h2⟩:=hc hB (hp hB) (hq hB);exact⟨_,xF ho (hx hB) (hy hB) h1,lK h2⟩⟩
  |mul=>
   obtain rfl:=hkk rfl;obtain⟨c,hK,hc⟩:=mj hg h;exact⟨_,hK,fun hB=>by obtain⟨h1,h2⟩:=hc hB (hp hB) (hq hB);exact⟨_,Hn ho (hx hB) (hy hB) h1,lK h2⟩⟩
  |quo=>
   obtain rfl:=hkk rfl;obtain⟨hP,hK⟩:=h;exact⟨_,hK,fun hB=>by
    obtain⟨h0,h1⟩:=hg _ hP hB (hp hB) (hq hB);have hin:=Dp (hp hB) h0 h1;exact⟨_,Er ho (hx hB) (hy hB) h0 h1 (ot hin),lK hin⟩⟩
  |rem=>
   obtain rfl:=hkk rfl;obtain⟨hP,hK⟩:=h;exact⟨_,hK,fun hB=>by
    obtain⟨h0,h1⟩:=hg _ hP hB (hp hB) (hq hB);exact⟨_,Es ho (hx hB) (hy hB) h0 h1,lK (Dq (hp hB) h0 h1)⟩⟩
  |shl=>
   obtain⟨hP,hK⟩:=h;obtain⟨c,hK,hc⟩:=Do hg hK;exact⟨_,hK,fun hB=>by
    have h0:=hg _ hP hB (hq hB);obtain⟨h1,h2⟩:=hc hB (hp hB);exact⟨_,Hr ho (hx hB) (hy hB) h0 h1,lK h2⟩⟩
  |shr=>
   obtain⟨hP,hK⟩:=h;exact⟨_,hK,fun hB=>by
    have h0:=hg _ hP hB (hq hB);refine⟨_,Ht ho (hx hB) (hy hB) h0 (Int.fdiv_eq_ediv_of_nonneg _ (Int.le_of_lt (pN _))),lK (vh (hp hB) (pN _))⟩⟩
  |and=>obtain rfl:=hkk rfl;exact⟨_,h,fun hB=>⟨_,pj ho (hx hB) (hy hB) (.inl rfl) rfl,lK (iJ _ _)⟩⟩
  |or=>obtain rfl:=hkk rfl;exact⟨_,h,fun hB=>⟨_,pj ho (hx hB) (hy hB) (.inr (.inl rfl)) rfl,lK (iJ _ _)⟩⟩
  |xor=>obtain rfl:=hkk rfl;exact⟨_,h,fun hB=>⟨_,pj ho (hx hB) (hy hB) (.inr (.inr (.inl rfl))) rfl,lK (iJ _ _)⟩⟩
  |andNot=>obtain rfl:=hkk rfl;exact⟨_,h,fun hB=>⟨_,pj ho (hx hB) (hy hB) (.inr (.inr (.inr rfl))) rfl,lK (iJ _ _)⟩⟩
  |eql=>obtain rfl:=hkk rfl;exact⟨_,h,fun hB=>⟨_,by have:=KK (P:=P) (n:=nt) (S:=S) ho (hx hB) (hy hB);rw[show(a==b)=decide (a=b)from rfl]at this;exact this,g9⟩⟩
  |neq=>obtain rfl:=hkk rfl;exact⟨_,h,fun hB=>⟨_,by have:=KL (P:=P) (n:=nt) (S:=S) ho (hx hB) (hy hB);rw[show(a !=b)=decide (¬a=b)by rw[decide_not];rfl]at this;exact this,g9⟩⟩
  |lss=>obtain rfl:=hkk rfl;exact⟨_,h,fun hB=>⟨_,Hj ho (hx hB) (hy hB),g9⟩⟩
  |leq=>obtain rfl:=hkk rfl;exact⟨_,h,fun hB=>⟨_,KM ho (hx hB) (hy hB),g9⟩⟩
  |gtr=>obtain rfl:=hkk rfl;exact⟨_,h,fun hB=>⟨_,Hl ho (hx hB) (hy hB),g9⟩⟩
  |geq=>obtain rfl:=hkk rfl;exact⟨_,h,fun hB=>⟨_,KN ho (hx hB) (hy hB),g9⟩⟩
end
end Go.Proofs.YtfgofabojepcmaaGreatDoor.V
end

/- Regions and code are right. -/
import Derived.Test.YtmpeiadlohbikaaGreatDoorAt9
section
set_option linter.unusedVariables false
set_option linter.unusedSimpArgs false
namespace Go.Proofs.YtmpeiadlohbikaaGreatDoor.V
open Go.RowKit
section
variable [ao] {U:bD} {P:Program} {nt:Nat} {T:cW U} {X:List Nat} {w w0:World} {ρ ρ0:Nat→Rz} {n n0:Nat} {H H' H0:Hs U} {R e e':En U} {ce:aI} {φ:List (Nat×Nat)} {b N:Nat}
omit [ao]in
theorem sr{p:Nat→Bool}: ∀{l:List Nat},vB p l=true→ ∀i∈l,p i=true
 | [],_,i,hi=>by cases hi
 |a::r,h,i,hi=>by
  have h:(bif p a then vB p r else false)=true:=h;cases ha:p a with
  |false=>rw[ha]at h;cases h
  |true=>
   rw[ha]at h;rcases List.mem_cons.1 hi with rfl|hi
   ·exact ha
   ·exact sr h i hi
structure Wk(φ:List (Nat×Nat))(b N:Nat)(H H':Hs U):Prop where
 bN:b≤N
 nd:(H'.map (·.1)).Nodup
 sn:(H'.map fun p=>cT φ p.1).Nodup
 lt: ∀p∈H',p.1<N
 lo: ∀p∈φ,b≤p.1
omit [ao]in
theorem Wk.src{φ:List (Nat×Nat)}(h: ∀p∈φ,b≤p.1){k:Nat}(hk:k<b):cT φ k=k:=by
 unfold cT;split
 ·rename_i i hi;have:=h _ (af hi);simp only at this;omega
 ·rfl
def l7(ρ:Nat→Rz)(n:Nat)(φ:List (Nat×Nat)):Nat→Rz:=fun k=>bif Nat.ble n (cT φ k)then(rz none 0)else ρ (cT φ k)
omit [ao]in
theorem dU{k:Nat}(h:cT φ k<n):l7 ρ n φ k=ρ (cT φ k):=by
 unfold l7;cases hb:Nat.ble n (cT φ k)with
 |false=>rfl
 |true=>have:=Nat.le_of_ble_eq_true hb;omega
omit [ao]in
theorem iQ{k:Nat}(h:Nat.ble n (cT φ k)=true):l7 ρ n φ k=(rz none 0):=by unfold l7;rw[h];rfl
def Kv(φ:List (Nat×Nat))(b:Nat)(H':Hs U)(k:Nat)(x:aH U):aH U→Prop
 | .dead=>True
 | .cells _ _=> ∃l t,x= .cells l t
 | .row v' s xs' t=> ∃v xs,x= .row v s xs t∧xs=xs'∧(k<b→v=v')
 | .map d l=>x= .map d l
 | .mapr d l r q g=>x= .mapr d l r q g
 | .it k2 g=> ∃i,x= .it i g∧cT φ k2=i∧vA H' k2=true
 | .ext v' d xs' none=> ∃v,x= .ext v d xs' none∧(k<b→v=v')
 |_=>False
def OW(φ:List (Nat×Nat))(b n:Nat)(k:Nat)(y:aH U):Prop:=Nat.ble n (cT φ k)=true∧b≤k∧((∃v s t,y= .row v s [] t∧0<aG U s)∨ ∃v d,y= .ext v d [] none)
def Af(φ:List (Nat×Nat))(b n:Nat)(H H':Hs U):Prop:= ∀(k:Nat) y,aD H' k=some y→(∃x,aD H (cT φ k)=some x∧Kv φ b H' k x y)∨OW φ b n k y
omit [ao]in
theorem su{s s':aZ}{t:TT U.ty s}{t':TT U.ty s'}{A:Prop}(h:Oi s t s' t' A):s=s'∧HEq t t'∧A:=by
 unfold Oi at h;split at h
 ·rename_i u hc;obtain⟨h1,h2⟩:=dv _ _ _ _ _ hc;subst h1;have h2:t=u:=eq_of_heq h2;subst h2;exact⟨rfl,heq_of_eq h.1,h.2⟩
 ·exact h.elim
omit [ao]in
theorem xb{a a':aZ}{g:TT U.ty a→Bool}{g':TT U.ty a'→Bool}{A:Prop}(h:H9 a g a' g' A):a=a'∧HEq g g'∧A:=by
 unfold H9 at h;split at h
 ·rename_i u hc;obtain⟨h1,h2⟩:=dv _ _ _ _ _ hc;subst h1;have h2:g=u:=eq_of_heq h2;subst h2;exact⟨rfl,heq_of_eq h.1,h.2⟩
 ·exact h.elim
omit [ao]in
theorem xc{a b a' b':aZ}{g:TT U.ty a→TT U.ty b→Int}{g':TT U.ty a'→TT U.ty b'→Int}{A:Prop}(h:Ia a b g a' b' g' A):a=a'∧b=b'∧HEq g g'∧A:=by
 unfold Ia at h;split at h
 ·rename_i u hc;obtain⟨h1,h2⟩:=dv _ _ _ _ _ hc;subst h1;have h2:g=u:=eq_of_heq h2;subst h2;split at h
  ·rename_i u hc;obtain⟨h1,h2⟩:=dv _ _ _ _ _ hc;subst h1;have h2:g=u:=eq_of_heq h2;subst h2;exact⟨rfl,rfl,heq_of_eq h.1,h.2⟩
  ·exact h.elim
 ·exact h.elim
omit [ao]in
theorem Ag{ρ:Nat→Rz}: ∀{ks js:List Nat},K5 φ H' ks js=true→(∀j∈js,j<n)→ks.map (fun k=>Value.pointer (l7 ρ n φ k).A)=js.map (fun j=>Value.pointer (ρ j).A)∧ ∀k∈ks,cT φ k∈js∧rX H' k=true
 | [],[],_=>fun _=>⟨rfl,fun k hk=>by cases hk⟩
 |k::ks,j::js,h=>fun hn=>by
  have h:(Nat.beq (cT φ k) j&&rX H' k&&K5 φ H' ks js)=true:=h;simp only[Bool.and_eq_true]at h;obtain⟨⟨h1,h2⟩,h3⟩:=h;have h1:=Nat.eq_of_beq_eq_true h1;obtain⟨e,h4⟩:=Ag (ρ:=ρ) h3 fun j hj=>hn j (List.mem_cons_of_mem _ hj);refine⟨by rw[List.map_cons,List.map_cons,e];rw[dU (by rw[h1];exact hn j (by simp)),h1],fun i hi=>?_⟩;rcases List.mem_cons.1 hi with rfl|hi
  ·exact⟨by rw[h1];simp,h2⟩
  ·exact⟨List.mem_cons_of_mem _ (h4 i hi).1,(h4 i hi).2⟩
 | [],_::_,h=>by cases h
 |_::_,[],h=>by cases h
theorem IB{Y':List Nat}(hW:Wk φ b N H H')(hR:Af φ b n H H')(M:aX U X (· =w) ρ n H)(hY: ∀y∈Y',y∈aj ρ H++X){x y:Cx U}{A:Prop}(h:Ic φ n H H' x y A):A∧ ∀vs,Vw U X w ρ n H x vs→bd U Y' (· =w) (l7 ρ n φ) N H' y vs:=by
 have mv:Mv (aj ρ H++X) (· =w) Y' (· =w):=fun w2 h2=>⟨w2,[],h2,Fr.refl _ _,fun _ h=>(by cases h),fun y hy=> .inl (hY y hy)⟩;unfold Ic at h;split at h
 ·rename_i k v';cases hb:(Nat.ble n (cT φ k)&&qJ H' k v')with
  |false=>rw[hb]at h;exact h.elim
  |true=>
   rw[hb]at h;rw[Bool.and_eq_true]at hb;obtain⟨h1,h3⟩:=hb;refine⟨h,fun vs hv=>?_⟩;unfold qJ at h3;split at h3
   ·rename_i v2 s2 xs2 t2 hk;have h3:=Nat.eq_of_beq_eq_true h3;subst h3;rcases hR k _ hk with⟨x,hx,_⟩|⟨_,_,⟨v,s,t,e,_⟩|⟨v,d,e⟩⟩
    ·have h4:=M.lt _ (af hx);have h5:=Nat.le_of_ble_eq_true h1;exact absurd h4 (by simp only;omega)
    ·injection e with e0 e1 e2 e3;subst e1;have e2:=eq_of_heq e2;subst e2;refine⟨hW.lt _ (af hk),none,0,0,hv,fun v'' l' m' hr=>?_⟩;rw[hk]at hr;injection hr with hr;injection hr with g1 hr;injection hr with g2 g3;subst g1;subst g2;exact⟨Nat.le_refl _,fun _=>by rw[iQ h1];exact⟨rfl,rfl,rfl⟩⟩
    ·cases e
   ·rename_i v2 d2 xs2 hk;have h3:=Nat.eq_of_beq_eq_true h3;subst h3;rcases hR k _ hk with⟨x,hx,_⟩|⟨_,_,⟨v,s,t,e,_⟩|⟨v,d,e⟩⟩
    ·have h4:=M.lt _ (af hx);have h5:=Nat.le_of_ble_eq_true h1;exact absurd h4 (by simp only;omega)
    ·cases e
    ·injection e with e0 e1 e2;subst e1;have e2:=eq_of_heq e2;subst e2;refine⟨hW.lt _ (af hk),none,0,0,hv,fun v'' l' m' hr=>?_⟩;rw[hk]at hr;injection hr with hr;injection hr with g1 hr;injection hr with g2 g3;subst g1;subst g2;exact⟨Nat.le_refl _,fun _=>by rw[iQ h1];exact⟨rfl,rfl,rfl⟩⟩
   ·cases h3
 ·rename_i i v k v';cases hb:(Nat.beq (cT φ k) i&&qJ H i v&&qJ H' k v')with
  |false=>rw[hb]at h;exact h.elim
  |true=>
   rw[hb]at h;simp only[Bool.and_eq_true]at hb;obtain⟨⟨h1,h2⟩,h3⟩:=hb;have h1:=Nat.eq_of_beq_eq_true h1;refine⟨h,fun vs hv=>?_⟩;obtain⟨hi,A',l,c,e1,hn⟩:=hv;unfold qJ at h3;split at h3
   ·rename_i v2 s2 xs2 t2 hk;have h3:=Nat.eq_of_beq_eq_true h3;subst h3;have hin:i<n:=hi;have hrk:l7 ρ n φ k=ρ i:=by rw[dU (by rw[h1];exact hin),h1]
    obtain⟨x,hx,v1,xs,rfl,rfl,hvv⟩: ∃x,aD H (cT φ k)=some x∧Kv φ b H' k x _:=by
     rcases hR k _ hk with h|⟨h,_⟩
     ·exact h
     ·rw[h1]at h;have:=Nat.le_of_ble_eq_true h;omega
    rw[h1]at hx;refine⟨hW.lt _ (af hk),A',l,c,e1,fun v'' l' m' hr=>?_⟩;rw[hk]at hr;injection hr with hr;injection hr with g1 hr;injection hr with g2 g3;subst g1;subst g2;subst g3;refine⟨Nat.le_refl _,fun _=>?_⟩;unfold qJ at h2;rw[hx]at h2;have h2:=Nat.eq_of_beq_eq_true h2;subst h2;obtain⟨a1,a2,a3⟩:=(hn _ _ _ (by rw[hx];rfl)).2 rfl;exact⟨by rw[a1,hrk],a2,by rw[a3,hrk]⟩
   ·rename_i v2 d2 xs2 hk;have h3:=Nat.eq_of_beq_eq_true h3;subst h3;have hin:i<n:=hi;have hrk:l7 ρ n φ k=ρ i:=by rw[dU (by rw[h1];exact hin),h1]
    obtain⟨x,hx,v1,rfl,hvv⟩: ∃x,aD H (cT φ k)=some x∧Kv φ b H' k x _:=by
     rcases hR k _ hk with h|⟨h,_⟩
     ·exact h
     ·rw[h1]at h;have:=Nat.le_of_ble_eq_true h;omega
    rw[h1]at hx;refine⟨hW.lt _ (af hk),A',l,c,e1,fun v'' l' m' hr=>?_⟩;rw[hk]at hr;injection hr with hr;injection hr with g1 hr;injection hr with g2 g3;subst g1;subst g2;subst g3;refine⟨Nat.le_refl _,fun _=>?_⟩;unfold qJ at h2;rw[hx]at h2;have h2:=Nat.eq_of_beq_eq_true h2;subst h2;obtain⟨a1,a2,a3⟩:=(hn _ _ _ (by rw[hx];rfl)).2 rfl;exact⟨by rw[a1,hrk],a2,by rw[a3,hrk]⟩
   ·cases h3
 ·rename_i i v s t';split at h
  ·rename_i v' s' xs hl;cases hb:Nat.beq v v' with
   |false=>rw[hb]at h;exact h.elim
   |true=>
    rw[hb]at h;have hvv:=Nat.eq_of_beq_eq_true hb;subst hvv;obtain⟨g1,g2,hA⟩:=su h;subst g1;have g2:=eq_of_heq g2;subst g2;refine⟨hA,fun vs hv=>?_⟩;obtain⟨hi,A',l,c,e1,hn⟩:=hv;obtain⟨rfl,rfl,rfl⟩:=(hn _ _ _ (by rw[hl];rfl)).2 rfl;obtain⟨hm,cs,hd,hrd,k1,k2⟩:=M.ent _ (af hl);subst e1;exact aC.mv mv (aC.sl s' xs _ _ cs hd hrd k1 k2)
  ·exact h.elim
 ·rename_i i o k p;cases hb:(Nat.beq (cT φ k) i&&Nat.beq o p&&rX H' k)with
  |false=>rw[hb]at h;exact h.elim
  |true=>
   rw[hb]at h;simp only[Bool.and_eq_true]at hb;obtain⟨⟨h1,h2⟩,h3⟩:=hb;have h1:=Nat.eq_of_beq_eq_true h1;have h2:=Nat.eq_of_beq_eq_true h2;subst h2;refine⟨h,fun vs hv=>?_⟩;obtain⟨hi,hr,g,hA,e1⟩:=hv;unfold rX at h3;split at h3
   ·rename_i l t hk;exact⟨hW.lt _ (af hk),by rw[hk];rfl,g,by rw[dU (by rw[h1];exact hi),h1];exact hA,e1⟩
   ·rename_i l t hk;exact⟨hW.lt _ (af hk),by rw[hk];rfl,g,by rw[dU (by rw[h1];exact hi),h1];exact hA,e1⟩
   ·cases h3
 ·obtain⟨g1,g2,hA⟩:=su h;subst g1;have g2:=eq_of_heq g2;subst g2;exact⟨hA,fun vs hv=>aC.mv mv hv⟩
 ·exact⟨h,fun vs hv=>hv⟩
 ·exact⟨h,fun vs hv=>hv⟩
 ·rename_i s xs;obtain⟨h1,h2⟩:=h;subst h1;refine⟨h2,fun vs hv=>?_⟩;rw[show vs= [.slice none 0 0]from hv];exact aC.sl s [] none 0 [] (.nil s) (fun w _=>mo.nil) (Nat.le_refl _) (Nat.zero_le _)
 ·exact⟨h,fun vs hv=>hv⟩
 ·exact⟨h,fun vs hv=>hv⟩
 ·rename_i i k;cases hb:(Nat.beq (cT φ k) i&&vA H' k)with
  |false=>rw[hb]at h;exact h.elim
  |true=>
   rw[hb]at h;rw[Bool.and_eq_true]at hb;have h1:=Nat.eq_of_beq_eq_true hb.1;refine⟨h,fun vs hv=>?_⟩;obtain⟨hi,hr,g,hA,e1⟩:=hv;have h3:=hb.2;unfold vA at h3;split at h3
   ·rename_i d l hk;exact⟨hW.lt _ (af hk),by rw[hk];rfl,g,by rw[dU (by rw[h1];exact hi),h1];exact hA,e1⟩
   ·rename_i d l r q0 q hk;exact⟨hW.lt _ (af hk),by rw[hk];rfl,g,by rw[dU (by rw[h1];exact hi),h1];exact hA,e1⟩
   ·cases h3
 ·rename_i f g;cases hb:Nat.beq f g with
  |false=>rw[hb]at h;exact h.elim
  |true=>rw[hb]at h;have:=Nat.eq_of_beq_eq_true hb;subst this;exact⟨h,fun vs hv=>hv⟩
 ·rename_i f js g ks;cases hb:(Nat.beq f g&&K5 φ H' ks js)with
  |false=>rw[hb]at h;exact h.elim
  |true=>
   rw[hb]at h;rw[Bool.and_eq_true]at hb;have:=Nat.eq_of_beq_eq_true hb.1;subst this;refine⟨h,fun vs hv=>?_⟩;obtain⟨e2,hj⟩:=hv;obtain⟨e,hk⟩:=Ag (ρ:=ρ) (n:=n) hb.2 fun j hjj=>(hj j hjj).1;refine⟨by rw[e2,e],fun k hkk=>?_⟩;obtain⟨h1,h2⟩:=hk k hkk;obtain⟨hjn,_,g,hA⟩:=hj _ h1;unfold rX at h2;split at h2
   ·rename_i l t hl;exact⟨hW.lt _ (af hl),by rw[hl];rfl,g,by rw[dU hjn];exact hA⟩
   ·rename_i l t hl;exact⟨hW.lt _ (af hl),by rw[hl];rfl,g,by rw[dU hjn];exact hA⟩
   ·cases h2
 ·obtain⟨g1,g2,hA⟩:=xb h;subst g1;have g2:=eq_of_heq g2;subst g2;exact⟨hA,fun vs hv=>by obtain⟨u,e,hf⟩:=hv;exact⟨u,e,hf.mv mv⟩⟩
 ·obtain⟨g0,g1,g2,hA⟩:=xc h;subst g0;subst g1;have g2:=eq_of_heq g2;subst g2;exact⟨hA,fun vs hv=>by obtain⟨u,e,hf⟩:=hv;exact⟨u,e,hf.mv mv⟩⟩
 ·exact h.elim
omit [ao]in
theorem Lb{x y:Cx U}{A:Prop}(h:Ic φ n H H' x y A):A:=by
 have bifA: ∀{c:Bool} {A:Prop},(bif c then A else False)→A:=fun{c A} h=>by
  cases c with
  |true=>exact h
  |false=>exact h.elim
 unfold Ic at h;split at h
 ·exact bifA h
 ·exact bifA h
 ·split at h
  ·exact(su (bifA h)).2.2
  ·exact h.elim
 ·exact bifA h
 ·exact(su h).2.2
 ·exact h
 ·exact h
 ·exact h.2
 ·exact h
 ·exact h
 ·exact bifA h
 ·exact bifA h
 ·exact bifA h
 ·exact(xb h).2.2
 ·exact(xc h).2.2.2
 ·exact h.elim
def LL(U:bD)(φ:List (Nat×Nat))(n:Nat)(H H':Hs U)(l l':List (cd U)):Prop:= ∀(X:List Nat) (w:World) (ρ:Nat→Rz) (b N:Nat) (Y':List Nat),Wk φ b N H H'→Af φ b n H H'→aX U X (· =w) ρ n H→(∀y∈Y',y∈aj ρ H++X)→ ∀vs,bJ (Vw U X w ρ n H) l vs→bJ (bd U Y' (· =w) (l7 ρ n φ) N H') l' vs
theorem Ah{l:List (cd U)}{s:aZ}{m:Nat}{t:TT U.ty s}{l':List (cd U)}{A:Prop}(ih: ∀(l:List (cd U)) (A:Prop),zB φ n H H' l l' A→A∧LL U φ n H H' l l')
  (h:tK 40 l m fun l1=>cG 20 s l1 fun u=>u=t∧gQ 40 l m fun l2=>zB φ n H H' l2 l' A):A∧LL U φ n H H' l ((m,.d s t)::l'):=by
 obtain⟨l1,h,h1⟩:=gu h;obtain⟨u,hu,h2⟩:=bu h;obtain⟨hu,h5⟩:=hu;subst hu;obtain⟨l2,h4,h3⟩:=fj h5;obtain⟨hA,hr⟩:=ih _ _ h4;refine⟨hA,fun X w ρ b N Y' hW hR M hY vs hs=>?_⟩;have mv:Mv (aj ρ H++X) (· =w) Y' (· =w):=fun w2 h2=>⟨w2,[],h2,Fr.refl _ _,fun _ h=>(by cases h),fun y hy=> .inl (hY y hy)⟩;obtain⟨a1,a2⟩:=h1 _ _ _ _ _ _ hs;obtain⟨a3,_⟩:=h3 _ _ _ _ _ _ hs;exact⟨vs.take m,vs.drop m,(List.take_append_drop _ _).symm,by rw[List.length_take];omega,aC.mv mv (h2 _ _ _ _ _ _ a1),hr X w ρ b N Y' hW hR M hY _ a3⟩
theorem pv: ∀{l' l:List (cd U)} {A:Prop},zB φ n H H' l l' A→A∧LL U φ n H H' l l'
 | [],[],A,h=>⟨h,fun _ _ _ _ _ _ _ _ _ _ _ hs=>hs⟩
 | [],_::_,A,h=>h.elim
 |(m,y)::l',l,A,h=>by
  have hd: ∀{h:(match (generalizing:=false) l with|(k,x)::l=>bif Nat.beq k m then Ic φ n H H' x y (zB φ n H H' l l' A)else False| []=>False)},A∧LL U φ n H H' l ((m,y)::l'):=fun{h}=>by
   cases l with
   |nil=>exact h.elim
   |cons p l=>
    obtain⟨k,x⟩:=p;have hh:(bif Nat.beq k m then Ic φ n H H' x y (zB φ n H H' l l' A)else False):=h;cases hb:Nat.beq k m with
    |false=>rw[hb]at hh;exact hh.elim
    |true=>
     rw[hb]at hh;have:=Nat.eq_of_beq_eq_true hb;subst this;obtain⟨hA,hl⟩:=pv (Lb hh);refine⟨hA,fun X w ρ b N Y' hW hR M hY vs hs=>?_⟩;obtain⟨v1,v2,e1,hk,h1,h2⟩:=hs;exact⟨v1,v2,e1,hk,(IB hW hR M hY hh).2 _ h1,hl X w ρ b N Y' hW hR M hY _ h2⟩
  match y,h, @hd with
  | .d (.st i) t,h,_=>exact Ah (fun l A h=>pv h) h
  | .d (.arr k e) t,h,_=>exact Ah (fun l A h=>pv h) h
  | .d (.int _) _,h,hd=>exact hd (h:=h)
  | .d .bool _,h,hd=>exact hd (h:=h)
  | .d .str _,h,hd=>exact hd (h:=h)
  | .d (.sl _) _,h,hd=>exact hd (h:=h)
  | .own _ _,h,hd=>exact hd (h:=h)
  | .ptr _ _,h,hd=>exact hd (h:=h)
  | .pel _ _ _ _,h,hd=>exact hd (h:=h)
  | .pax _ _ _ _ _ _,h,hd=>exact hd (h:=h)
  | .pd _ _,h,hd=>exact hd (h:=h)
  | .nilp,h,hd=>exact hd (h:=h)
  | .nils,h,hd=>exact hd (h:=h)
  | .nilf,h,hd=>exact hd (h:=h)
  | .nilm,h,hd=>exact hd (h:=h)
  | .fn _,h,hd=>exact hd (h:=h)
  | .clo _ _,h,hd=>exact hd (h:=h)
  | .f1 _ _,h,hd=>exact hd (h:=h)
  | .f2 _ _ _,h,hd=>exact hd (h:=h)
  | .mp _,h,hd=>exact hd (h:=h)
  | .un,h,hd=>exact hd (h:=h)
termination_by structural l'=>l'
def LX(φ:List (Nat×Nat))(n:Nat)(H H':Hs U):aH U→aH U→Prop
 | .cells l t,.cells l' t'=>t=t'∧LL U φ n H H' l l'
 |_,_=>True
theorem IC{k:Nat}{x y:aH U}{A:Prop}(h:Ol φ b n H H' k x y A):A∧Kv φ b H' k x y∧LX φ n H H' x y:=by
 unfold Ol at h;split at h
 ·exact⟨h,trivial,by cases x<;>trivial⟩
 ·rename_i l t l' t';cases hb:Nat.beq t t' with
  |false=>rw[hb]at h;exact h.elim
  |true=>
   rw[hb]at h;obtain⟨hA,hl⟩:=pv h;exact⟨hA,⟨_,_,rfl⟩,Nat.eq_of_beq_eq_true hb,hl⟩
 ·rename_i v s xs t v' s' xs' t';cases hb:(Nat.beq t t'&&(Nat.ble b k||Nat.beq v v'))with
  |false=>rw[hb]at h;exact h.elim
  |true=>
   rw[hb]at h;simp only[cond_true]at h;simp only[Bool.and_eq_true,Bool.or_eq_true]at hb;cases hc:dZ U.ty List s s' xs with
   |none=>rw[hc]at h;exact h.elim
   |some u=>
    rw[hc]at h;obtain⟨g1,g2⟩:=dv _ _ _ _ _ hc;subst g1;have g2:xs=u:=eq_of_heq g2;subst g2;obtain⟨h1,h2⟩:=hb;have h1:=Nat.eq_of_beq_eq_true h1;subst h1;refine⟨h.2,⟨v,xs,rfl,h.1,fun hkb=>?_⟩,trivial⟩;rcases h2 with h2|h2
    ·have:=Nat.le_of_ble_eq_true h2;omega
    ·exact Nat.eq_of_beq_eq_true h2
 ·obtain⟨e,hA⟩:=h;refine⟨hA,?_,trivial⟩;injection e with e1 e2;subst e1;show _=_
  rw[eq_of_heq e2]
 ·obtain⟨e,eg,hA⟩:=h;refine⟨hA,?_,trivial⟩;injection e with e1 e2;subst e1;have e2:=eq_of_heq e2;injection e2 with e3 e4;injection e4 with e4 e5;show _=_
  rw[e3,e4,e5,eg]
 ·rename_i i g k' g';cases hb:(Nat.beq (cT φ k') i&&vA H' k')with
  |false=>rw[hb]at h;exact h.elim
  |true=>
   rw[hb]at h;rw[Bool.and_eq_true]at hb;exact⟨h.2,⟨i,by rw[h.1],Nat.eq_of_beq_eq_true hb.1,hb.2⟩,trivial⟩
 ·rename_i v d xs v' d' xs';cases hb:(Nat.ble b k||Nat.beq v v')with
  |false=>rw[hb]at h;exact h.elim
  |true=>
   rw[hb]at h;simp only[cond_true]at h;rw[Bool.or_eq_true]at hb;obtain⟨e,hA⟩:=h;injection e with e1 e2;subst e1;have e2:=eq_of_heq e2;subst e2;refine⟨hA,⟨v,rfl,fun hkb=>?_⟩,trivial⟩;rcases hb with h2|h2
   ·have:=Nat.le_of_ble_eq_true h2;omega
   ·exact Nat.eq_of_beq_eq_true h2
 ·exact h.elim
theorem sw: ∀{Q:Hs U} {A:Prop},Ge φ b n H H' Q A→A∧ ∀p∈Q,(∃x,aD H (cT φ p.1)=some x∧Kv φ b H' p.1 x p.2∧LX φ n H H' x p.2)∨OW φ b n p.1 p.2
 | [],A,h=>⟨h,fun p hp=>by cases hp⟩
 |(k,y)::Q,A,h=>by
  have h:(match aD H (cT φ k)with|some x=>Ol φ b n H H' k x y (Ge φ b n H H' Q A)|none=>R1 b n φ k y (Ge φ b n H H' Q A)):=h;split at h
  ·rename_i x hx;obtain⟨h1,h2,h3⟩:=IC h;obtain⟨hA,h4⟩:=sw h1;refine⟨hA,fun p hp=>?_⟩;rcases List.mem_cons.1 hp with rfl|hp
   ·exact .inl ⟨x,hx,h2,h3⟩
   ·exact h4 p hp
  ·cases y with
   |row v s xs t=>
    have h:bif Nat.ble n (cT φ k)&&Nat.ble b k&&Nat.blt 0 (aG U s)then xs= []∧Ge φ b n H H' Q A else False:=h;cases hb:(Nat.ble n (cT φ k)&&Nat.ble b k&&Nat.blt 0 (aG U s))with
    |false=>rw[hb]at h;exact h.elim
    |true=>
     rw[hb]at h;simp only[Bool.and_eq_true]at hb;obtain⟨hx,h⟩:=h;obtain⟨hA,h4⟩:=sw h;refine⟨hA,fun p hp=>?_⟩;rcases List.mem_cons.1 hp with rfl|hp
     ·exact .inr ⟨hb.1.1,Nat.le_of_ble_eq_true hb.1.2,.inl ⟨v,s,t,by rw[hx],by simpa[Nat.blt_eq]using hb.2⟩⟩
     ·exact h4 p hp
   |ext v d xs op=>cases op with
    |some o=>exact h.elim
    |none=>
     have h:bif Nat.ble n (cT φ k)&&Nat.ble b k then xs= []∧Ge φ b n H H' Q A else False:=h;cases hb:(Nat.ble n (cT φ k)&&Nat.ble b k)with
     |false=>rw[hb]at h;exact h.elim
     |true=>
      rw[hb]at h;simp only[Bool.and_eq_true]at hb;obtain⟨hx,h⟩:=h;obtain⟨hA,h4⟩:=sw h;refine⟨hA,fun p hp=>?_⟩;rcases List.mem_cons.1 hp with rfl|hp
      ·exact .inr ⟨hb.1,Nat.le_of_ble_eq_true hb.2,.inr ⟨v,d,by rw[hx]⟩⟩
      ·exact h4 p hp
   |_=>exact h.elim
omit [ao]in
theorem OX{Q:Nat→aH U→aH U→Prop}(hW:(H'.map (·.1)).Nodup)(h: ∀p∈H',(∃x,aD H (cT φ p.1)=some x∧Kv φ b H' p.1 x p.2∧Q p.1 x p.2)∨OW φ b n p.1 p.2):Af φ b n H H':=fun k y hk=>by
 rcases h _ (af hk)with⟨x,hx,hl,_⟩|h
 ·exact .inl ⟨x,hx,hl⟩
 ·exact .inr h
end
end Go.Proofs.YtmpeiadlohbikaaGreatDoor.V
end

section
set_option linter.unusedVariables false
set_option linter.unusedSimpArgs false
namespace Go.Proofs.YtmpeiadlohbikaaGreatDoor.V
open Go.RowKit
section
variable [ao] {U:bD} {P:Program} {nt:Nat} {T:cW U} {X:List Nat} {w w' w0:World} {ρ ρ0:Nat→Rz} {n n0:Nat} {H H' H0:Hs U} {R e e':En U} {ce:aI} {φ:List (Nat×Nat)} {b N:Nat}
theorem vK{Y':List Nat}(hW:Wk φ b N H H')(hR:Af φ b n H H')(M:aX U X (· =w) ρ n H)(hY: ∀y∈Y',y∈aj ρ H++X): ∀{e':En U} {A:Prop},Oj φ n e H H' e' A→ ∀(k:Nat) av,aD e' k=some av→ ∃y x,av= .v y∧aD e k=some (.v x)∧ ∀u,cM (Vw U X w ρ n H) x u→cM (bd U Y' (· =w) (l7 ρ n φ) N H') y u
 | [],A,h,k,av,hk=>by cases hk
 |(j,.v y)::r,A,h,k,av,hk=>by
  have h:(match aD e j with
   |some (.v x)=>bif x.ag==y.ag then zB φ n H H' x.l y.l (Oj φ n e H H' r A)else False
   |_=>False):=h
  split at h
  ·rename_i x hx;cases hb:(x.ag==y.ag)with
   |false=>rw[hb]at h;exact h.elim
   |true=>
    rw[hb]at h;have hag:x.ag=y.ag:=by simpa using hb
    obtain⟨h,hl'⟩:=pv h;have hl:=hl' X w ρ b N Y' hW hR M hY;unfold aD at hk;by_cases ejk:j=k
    ·subst ejk;rw[Nat.beq_refl]at hk;injection hk with hk;refine⟨y,x,hk.symm,hx,fun u hu=>?_⟩;obtain⟨a,l⟩:=x;obtain⟨a',l'⟩:=y;simp only at hag hl;subst hag;exact so hl hu
    ·rw[cu ejk]at hk;exact vK hW hR M hY h k av hk
  ·exact h.elim
 |(j,.tup l)::r,A,h,k,av,hk=>h.elim
 |(j,.gd p x)::r,A,h,k,av,hk=>h.elim
 |(j,.un)::r,A,h,k,av,hk=>h.elim
theorem vL(M:aX U X (· =w) ρ n H)(he:aJ (Vw U X w ρ n H) [] e ce)(hs:K6 b N φ n e H e' H')(st:bQ ρ0 b H0 w0 ρ n H w): ∃ρ',aX U X (· =w) ρ' N H'∧aJ (Vw U X w ρ' N H') [] e' ce∧bQ ρ0 b H0 w0 ρ' N H' w:=by
 unfold K6 at hs;cases hb:(Nat.ble b N&&nB (H'.map (·.1))&&nB (H'.map fun p=>cT φ p.1)&&vB (fun i=>Nat.blt i N) (H'.map (·.1))&&vB (fun i=>Nat.ble b i) (φ.map (·.1)))with
 |false=>rw[hb]at hs;exact hs.elim
 |true=>
  rw[hb]at hs;simp only[cond_true]at hs;simp only[Bool.and_eq_true]at hb;obtain⟨⟨⟨⟨h1,h2⟩,h3⟩,h4⟩,h5⟩:=hb;have hW:Wk φ b N H H':=⟨Nat.le_of_ble_eq_true h1,mL h2,mL h3,fun p hp=>by have:=sr h4 p.1 (List.mem_map.2 ⟨p,hp,rfl⟩);simpa[Nat.blt_eq]using this,fun p hp=>Nat.le_of_ble_eq_true (sr h5 p.1 (List.mem_map.2 ⟨p,hp,rfl⟩))⟩;obtain⟨hE,hH⟩:=sw hs;have hR:Af φ b n H H':=OX (Q:=fun _ x y=>LX φ n H H' x y) hW.nd hH;have slt: ∀{k x},aD H (cT φ k)=some x→cT φ k<n:=fun hx=>M.lt _ (af hx);have live: ∀p∈H',∀g,Lv (l7 ρ n φ) p g→ ∃x,aD H (cT φ p.1)=some x∧Lv ρ (cT φ p.1,x) g:=fun p hp g hg=>by
   obtain⟨k,y⟩:=p;rcases hR k y (dC hW.nd hp)with⟨x,hx,hy⟩|⟨hn,_,⟨v,s,t,rfl,_⟩|⟨v,d,rfl⟩⟩;case inr.inl=>
    unfold Lv at hg;simp only at hg;rw[iQ hn]at hg;cases hg
   case inr.inr=>
    unfold Lv at hg;simp only at hg;rw[iQ hn]at hg;cases hg
   refine⟨x,hx,?_⟩;have hrk:=dU (ρ:=ρ) (slt hx);unfold Lv at hg;cases y with
   |cells l t=>obtain⟨l0,t0,rfl⟩:=hy;simp only[hrk]at hg;exact hg
   |row v s xs t=>obtain⟨v0,xs0,rfl,_⟩:=hy;simp only[hrk]at hg;exact hg
   |map d l=>obtain rfl:=hy;simp only[hrk]at hg;exact hg
   |mapr d l r q0 q=>obtain rfl:=hy;simp only[hrk]at hg;exact hg
   |it k2 q=>obtain⟨i,rfl,_,_⟩:=hy;simp only[hrk]at hg;exact hg
   |ext v d xs op=>cases op with
    |some o=>exact hy.elim
    |none=>obtain⟨v0,rfl,_⟩:=hy;simp only[hrk]at hg;exact hg
   |dead=>cases hg
   |frz v s xs=>exact hy.elim
   |clo f l=>exact hy.elim
   |hid v l m=>exact hy.elim
  have own: ∀g∈aj (l7 ρ n φ) H',g∈aj ρ H:=fun g hg=>by
   obtain⟨p,hp,hg⟩:=aA.1 hg;obtain⟨x,hx,hxg⟩:=live p hp g hg;exact aA.2 ⟨_,af hx,hxg⟩
  have hY: ∀g∈aj (l7 ρ n φ) H'++X,g∈aj ρ H++X:=fun g hg=>by
   rcases List.mem_append.1 hg with h|h
   ·exact List.mem_append_left _ (own g h)
   ·exact List.mem_append_right _ h
  have mv:Mv (aj ρ H++X) (· =w) (aj (l7 ρ n φ) H'++X) (· =w):=fun w2 h2=>⟨w2,[],h2,Fr.refl _ _,fun _ h=>(by cases h),fun y hy=> .inl (hY y hy)⟩;refine⟨l7 ρ n φ,⟨hW.nd,hW.lt,fun p hp=>?_,fun p hp q hq g h1 h2=>?_,fun g hg=>M.dj g (own g hg),M.lo,M.xs,M.gv⟩,⟨fun k x _ hk=>?_,fun k l _ hk=>?_,fun k p x hk=>by cases hk⟩,⟨st.xd,hW.bN,st.fr,fun g hg=>st.nb g (own g hg),fun i hi v' l' m' hr=>?_,fun i hi hr=>?_⟩⟩
  ·obtain⟨k,y⟩:=p;rcases hH _ hp with⟨x,hx,hy,hl⟩|⟨hn,_,⟨v,s,t,rfl,hs0⟩|⟨v,d,rfl⟩⟩;case inr.inl=>
    refine⟨hs0,[],[],.nil s,?_,fun g hg=>?_⟩
    ·simp only;rw[iQ hn];exact Ow.nil _
    ·simp only at hg;rw[iQ hn]at hg;cases hg
   case inr.inr=>
    refine⟨fun _=>Cl [] 0,?_,fun g hg=>?_,trivial⟩
    ·simp only;rw[iQ hn];exact d.nil
    ·simp only at hg;rw[iQ hn]at hg;cases hg
   have hM:=M.ent _ (af hx);have hrk:=dU (ρ:=ρ) (slt hx);simp only at hx hl hy hM⊢;cases y with
   |cells l t=>
    obtain⟨l0,t0,rfl⟩:=hy;obtain⟨rfl,hl⟩:=hl;obtain⟨g,vs,hA,hs,hw⟩:=hM;exact⟨g,vs,by rw[hrk];exact hA,hl X w ρ b N _ hW hR M hY vs hs,hw⟩
   |row v s xs t=>
    obtain⟨v0,xs0,rfl,rfl,_⟩:=hy;obtain⟨hm,cs,sp,hd,ho,hw⟩:=hM;exact⟨hm,cs,sp,aR.mv mv hd,by rw[hrk];exact ho,by rw[hrk];exact hw⟩
   |map d l=>
    obtain rfl:=hy;obtain⟨hk,g,es,clock,m,hA,hm,hd,hw⟩:=hM;exact⟨hk,g,es,clock,m,by rw[hrk];exact hA,hm,aK.mv mv hd,hw⟩
   |mapr d l r q0 q=>
    obtain rfl:=hy;obtain⟨hk,g,es,clock,m,lv,cv,hA,hm,hd,hl,hc,hw⟩:=hM;exact⟨hk,g,es,clock,m,lv,cv,by rw[hrk];exact hA,hm,aK.mv mv hd,aK.mv mv hl,aK.mv mv hc,hw⟩
   |it k2 q=>
    obtain⟨i,rfl,e1,e2⟩:=hy;obtain⟨r,g,hA,hA2,hk,hrk2,hw⟩:=hM;have h3:k2<N∧bg (aD H' k2)=none:=by
     unfold vA at e2;split at e2
     ·rename_i d l hk;exact⟨hW.lt _ (af hk),by rw[hk];rfl⟩
     ·rename_i d l r q0 q hk;exact⟨hW.lt _ (af hk),by rw[hk];rfl⟩
     ·cases e2
    exact⟨r,g,by rw[hrk];exact hA,by rw[dU (by rw[e1];exact hk),e1];exact hA2,h3.1,h3.2,hw⟩
   |ext v d xs op=>cases op with
    |some o=>exact hy.elim
    |none=>
     obtain⟨v0,rfl,_⟩:=hy;obtain⟨C,hd,hw,ho⟩:=hM;exact⟨C,by rw[hrk];exact d.mv mv.fr hd,by rw[hrk];exact hw,trivial⟩
   |dead=>trivial
   |frz v s xs=>exact hy.elim
   |clo f l=>exact hy.elim
   |hid v l m=>exact hy.elim
  ·obtain⟨x,hx,hxg⟩:=live p hp g h1;obtain⟨y,hy,hyg⟩:=live q hq g h2;have:=M.inj _ (af hx) _ (af hy) g hxg hyg;simp only at this;have hn:=hW.sn;obtain⟨i,hi⟩:=List.mem_iff_getElem?.1 hp;obtain⟨j,hj⟩:=List.mem_iff_getElem?.1 hq;have hij:i=j:=by
    have hi':(H'.map fun p=>cT φ p.1)[i]? =some (cT φ p.1):=by rw[List.getElem?_map,hi];rfl
    have hj':(H'.map fun p=>cT φ p.1)[j]? =some (cT φ p.1):=by rw[List.getElem?_map,hj,this];rfl
    exact(List.getElem?_inj (bL hi') hn).1 (hi'.trans hj'.symm)
   subst hij;rw[hi]at hj;injection hj with hj;rw[hj]
  ·obtain⟨y,x0,hy,hx0,hc⟩:=vK hW hR M hY hE k _ hk;injection hy with hy;subst hy;obtain⟨u,hu,hv⟩:=he.v k x0 rfl hx0;exact⟨u,hu,hc u hv⟩
  ·obtain⟨y,x0,hy,_⟩:=vK hW hR M hY hE k _ hk;cases hy
  ·cases hy:aD H' i with
   |none=>rw[hy]at hr;cases hr
   |some y=>
    rw[hy]at hr;rcases hR i y hy with⟨x,hx,hxy⟩|⟨_,hbi,_⟩;case inr=>omega
    have hrk:=dU (ρ:=ρ) (slt hx);have hsrc:=Wk.src hW.lo hi;rw[hsrc]at hx;cases y with
    |row v s xs t=>
     obtain⟨v0,xs0,rfl,rfl,hv⟩:=hxy;have:=hv hi;subst this;obtain⟨v1,l1,m1,a1,a2,a3⟩:=st.row i hi v' l' m' (by rw[hx];exact hr);refine⟨v1,l1,m1,a1,a2,fun h=>?_⟩;obtain⟨b1,b2⟩:=a3 h;exact⟨by rw[hrk,hsrc];exact b1,b2⟩
    |ext v d xs op=>cases op with
     |some o=>exact hxy.elim
     |none=>
      obtain⟨v0,rfl,hv⟩:=hxy;have:=hv hi;subst this;obtain⟨v1,l1,m1,a1,a2,a3⟩:=st.row i hi v' l' m' (by rw[hx];exact hr);refine⟨v1,l1,m1,a1,a2,fun h=>?_⟩;obtain⟨b1,b2⟩:=a3 h;exact⟨by rw[hrk,hsrc];exact b1,b2⟩
    |frz v s xs=>exact hxy.elim
    |hid v l m=>exact hxy.elim
    |_=>cases hr
  ·have hsrc:=Wk.src hW.lo hi;rw[dU (by rw[hsrc];have:=st.nn;omega),hsrc];exact st.cel i hi hr
theorem aX.keep0(M:aX U X (· =w) ρ n H)(hf:Fr [] w w'):aX U X (· =w') ρ n H∧bQ ρ n H w ρ n H w':=by
 have s:bQ ρ n H w ρ n H w':=⟨M.xd,Nat.le_refl _,hf.mono (by simp),fun g hg=> .inl hg,fun i hi v' l' m' h=>⟨v',l',m',h,Nat.le_refl _,fun _=>⟨rfl,rfl,rfl⟩⟩,fun _ _ _=>rfl⟩;exact⟨⟨M.nd,M.lt,fun p hp=>(M.ent p hp).step s rfl fun g hg=>hf.block g (cl M p hp g hg) (by simp),M.inj,M.dj,fun w2 h2 x hx=>by subst h2;exact Nat.lt_of_lt_of_le (M.lo w rfl x hx) hf.size,M.xs,M.gv.fr hf (fun _ h=>by cases h)⟩,s⟩
end
end Go.Proofs.YtmpeiadlohbikaaGreatDoor.V
end

section
set_option linter.unusedVariables false
set_option linter.unusedSectionVars false
set_option linter.unusedSimpArgs false
namespace Go.Proofs.YtmpeiadlohbikaaGreatDoor.V
open Go.RowKit
section
variable [bB] [ao] {U:bD} {P:Program} {nt:Nat} {T:cW U} {G:c6 U} {X:List Nat} {w w' w0:World} {ρ ρ0:Nat→Rz} {n n0:Nat} {H H' H0:Hs U} {R e e':En U} {ce:aI} {o:Oper} {S:List Nat}
omit [ao]in
theorem bH.mono{K K':aI→World→Prop}(h:bH P nt ce w o K)(hk: ∀e w,K e w→K' e w):bH P nt ce w o K':=fun a r=>Oper.wp_mono (fun a' w' ⟨e',r',q⟩=>⟨e',r',hk _ _ q⟩) (h a r)
omit [ao]in
theorem cA:bn R e []:=fun x hx=>by cases hx
omit [ao]in
theorem kj{c:Call}{f:FuncId}(h1:c.callee= .value (.func f)):c={callee:= .value (.func f),args:=c.args.toList.toArray,argTypes:=c.argTypes}:=by
 obtain⟨a,b,d⟩:=c;simp only at h1;rw[h1]
omit [ao]in
theorem ue{c:Call}{s:Nat}(h1:c.callee= .value (.tmp s)):c={callee:= .value (.tmp s),args:=c.args.toList.toArray,argTypes:=c.argTypes}:=by
 obtain⟨a,b,d⟩:=c;simp only at h1;rw[h1]
theorem Gj(hd:(o.dst.all (Nat.blt · nt))=true){f:FuncId}{xs:List Operand}{ts:Array TypeId}{vs:List Value}{K:AV U→Nat→Hs U→Prop}(ho:o.op= .call {callee:= .value (.func f),args:=xs.toArray,argTypes:=ts})(hx:ce.evs xs=some vs)
  (hc:Fn P f vs w fun v w'=> ∃av n' H' ρ',K av n' H'∧nv (Vw U X w' ρ' n' H') av v∧aX U X (· =w') ρ' n' H'∧bQ ρ n H w ρ' n' H' w'):jA P nt U X w ρ n H ce o K:=by
 unfold jA;cases hdst:o.dst with
 |none=>
  refine E1 ho hdst hx hc fun v w' ⟨av,n',H',ρ',a,b,c,d⟩=>?_;exact⟨av,n',H',ρ',v,a,rfl,b,c,d⟩
 |some d=>
  rw[hdst]at hd;refine wl ho hdst (by simpa using hd) hx hc fun v w' ⟨av,n',H',ρ',a,b,c,d⟩=>?_;exact⟨av,n',H',ρ',v,a,rfl,b,c,d⟩
theorem Ai{Y:List Nat}{w:World}:mB Y w w:=⟨[],Fr.refl _ _,fun _ h=>(by cases h)⟩
theorem y3.call{Y:List Nat}{u v:Value}{a:aZ}{g:TT U.ty a→Bool}{t:TT U.ty a}(hf:y3 U Y (· =w) u a g)(hY: ∀z∈gB,z∈Y)(hd:aC U Y (· =w) a t v.cells.toList)(hv:d4 (eK a) v v.cells.toList):pZ ao.pr u [v] w fun r w3=>r= .bool (g t)∧Fr [] w w3:=
 hf.2 w rfl w Ai t _ v (aC.mv (Mv.sub hY) hd) hv
theorem y4.call{Y:List Nat}{u v v':Value}{a b:aZ}{g:TT U.ty a→TT U.ty b→Int}{t:TT U.ty a}{t':TT U.ty b}(hf:y4 U Y (· =w) u a b g)(hY: ∀z∈gB,z∈Y)(hd:aC U Y (· =w) a t v.cells.toList)(hv:d4 (eK a) v v.cells.toList)(hd':aC U Y (· =w) b t' v'.cells.toList)(hv':d4 (eK b) v' v'.cells.toList):pZ ao.pr u [v,v'] w fun r w3=>r= .int .i64 (g t t')∧dS .i64 (g t t')∧Fr [] w w3:=
 hf.2 w rfl w Ai t _ v t' _ v' (aC.mv (Mv.sub hY) hd) hv (aC.mv (Mv.sub hY) hd') hv'
theorem ID(hpr:ao.pr=P){c:Cx U}{u:Value}{xs:List (Va U)}{vs:List Value}{K:AV U→Hs U→Prop}(h:OT c xs H K)(M:aX U X (· =w) ρ n H)(hc:Vw U X w ρ n H c [u])(hv:bM (Vw U X w ρ n H) xs vs):
  pZ P u vs w fun r w'=> ∃av H',K av H'∧nv (Vw U X w' ρ n H') av r∧aX U X (· =w') ρ n H'∧bQ ρ n H w ρ n H' w':=by
 unfold OT at h;split at h
 ·rename_i a g x;obtain⟨v,us,rfl,h1,h2⟩:=hv;rw[show us= []from h2];cases hb:(x.ag==eK a)with
  |false=>rw[hb]at h;exact h.elim
  |true=>
   rw[hb]at h;obtain⟨H1,t,hK,M1,s1,d1⟩:=pm h M;obtain⟨u',e,hf⟩:=bd.step s1 hc;injection e with e;subst e;have hA:=rQ h1;rw[beq_iff_eq.1 hb]at hA;rw[←hpr];obtain⟨f,fi,ca,e,hfn⟩:=hf.call M1.gY (d1 v h1) hA;refine⟨f,fi,ca,e,hfn.mono fun r w' ⟨e2,hf2⟩=>?_⟩;obtain⟨M2,s2⟩:=M1.keep0 hf2;exact⟨_,H1,hK,e2▸mt,M2,s1.trans s2⟩
 ·rename_i a b g x y;obtain⟨v,us,rfl,h1,v',us',rfl,h3,h4⟩:=hv;rw[show us'= []from h4];cases hb:((x.ag==eK a)&&(y.ag==eK b))with
  |false=>rw[hb]at h;exact h.elim
  |true=>
   rw[hb]at h;rw[Bool.and_eq_true]at hb;obtain⟨H1,t,h,M1,s1,d1⟩:=pm h M;obtain⟨H2,t',hK,M2,s2,d2⟩:=pm h M1;obtain⟨u',e,hf⟩:=bd.step (s1.trans s2) hc;injection e with e;subst e;have hA:=rQ h1;have hB:=rQ h3;rw[beq_iff_eq.1 hb.1]at hA;rw[beq_iff_eq.1 hb.2]at hB;rw[←hpr];obtain⟨f,fi,ca,e,hfn⟩:=hf.call M2.gY (aC.mv (s2.mv (X:=X)) (d1 v h1)) hA (d2 v' (cM.imp (fun _ _ h=>bd.step s1 h) h3)) hB;refine⟨f,fi,ca,e,hfn.mono fun r w' ⟨e2,hin,hf2⟩=>?_⟩;obtain⟨M3,s3⟩:=M2.keep0 hf2;exact⟨_,H2,hK,e2▸pg hin,M3,(s1.trans s2).trans s3⟩
 ·exact h.elim
theorem xe(hG:dF P U G)(hT:bf U P T)(hd:(o.dst.all (Nat.blt · nt))=true){K:AV U→Nat→Hs U→Prop}(h:zy T G o R e n H K)(M:aX U X (· =w) ρ n H)(he:aJ (Vw U X w ρ n H) R e ce):jA P nt U X w ρ n H ce o K:=by
 unfold zy at h;split at h
 ·rename_i t ho;obtain⟨d,hdst,hn,h⟩:=ef h hd;split at h
  ·rename_i ti hti;exact zW (hT _ _ hti) h ho hdst hn M
  ·exact h.elim
 ·rename_i t x ho;obtain⟨d,hdst,hn,h⟩:=ef h hd;obtain⟨v,h,hv⟩:=cH h he;obtain⟨u,e1,h1⟩:=hv cA;exact Iw h ho hdst hn e1 h1 M
 ·rename_i t ho;obtain⟨d,hdst,hn,h⟩:=ef h hd;split at h
  ·rename_i ti hti;split at h
   ·rename_i kd hm;exact zX (hT _ _ hti) hm hG.1 h ho hdst hn M
   ·exact h.elim
  ·exact h.elim
 ·rename_i t m kx x ho;obtain⟨hdst,h⟩:=vD h;obtain⟨c,h,hc⟩:=bj h he;obtain⟨kv,h,hk⟩:=cH h he;obtain⟨v,h,hv⟩:=cH h he;obtain⟨u0,e1,h1⟩:=hc cA;obtain⟨u1,e2,h2⟩:=hk cA;obtain⟨u,e3,h3⟩:=hv cA;refine bH.mono (Hw hG.1 h ho hdst e1 e2 e3 h1 h2 h3 hT M) ?_;rintro ce' w' ⟨av,n',H',ρ',cv,⟨rfl,hK⟩,a,b,c,d⟩;exact⟨.un,_,H',ρ',cv,hK,a,trivial,c,d⟩
 ·rename_i t x ho;obtain⟨d,hdst,hn,h⟩:=ef h hd;obtain⟨c,h,hc⟩:=bj h he;obtain⟨u0,e1,h1⟩:=hc cA;refine bH.mono (Hz h ho hdst hn e1 h1 hT M) ?_;rintro ce' w' ⟨av,n',H',ρ',cv,⟨rfl,rfl,hK⟩,a,b,c,d⟩;exact⟨_,_,H',ρ',cv,hK,a,b,c,d⟩
 ·rename_i x ho;obtain⟨d,hdst,hn,h⟩:=ef h hd;obtain⟨c,h,hc⟩:=bj h he;obtain⟨u0,e1,h1⟩:=hc cA;refine bH.mono (HA h ho hdst hn e1 h1 M) ?_;rintro ce' w' ⟨av,n',H',ρ',cv,⟨rfl,hK⟩,a,b,c,d⟩;exact⟨av,_,H',ρ',cv,hK,a,b,c,d⟩
 ·rename_i t x y ho;obtain⟨hdst,h⟩:=vD h;obtain⟨c,h,hc⟩:=bj h he;obtain⟨v,h,hv⟩:=cH h he;obtain⟨u0,e1,h1⟩:=hc cA;obtain⟨u,e2,h2⟩:=hv cA;refine bH.mono (t6 h ho hdst e1 e2 h1 h2 hT M) ?_;rintro ce' w' ⟨av,n',H',ρ',cv,⟨rfl,hK⟩,a,b,c,d⟩;exact⟨.un,_,H',ρ',cv,hK,a,trivial,c,d⟩
 ·rename_i t k ps ho;obtain⟨d,hdst,hn,h⟩:=ef h hd;obtain⟨el,ei,h,hu,hes,hei⟩:=kg h hT;split at h
  ·rename_i s hsh;cases hb:(Nat.beq ei.sz (aG U s)&&Nat.blt 0 (aG U s)&&Nat.ble (k*aG U s) 1000)with
   |false=>rw[hb]at h;exact h.elim
   |true=>
    rw[hb]at h;simp only[cond_true]at h;simp only[Bool.and_eq_true,Nat.blt_eq]at hb;exact Ix h (by rw[ho]) hdst hn hes hei (Nat.eq_of_beq_eq_true hb.1.1) hb.1.2 (Nat.le_of_ble_eq_true hb.2) M he
  ·exact h.elim
 ·rename_i t x y ho;obtain⟨d,hdst,hn,h⟩:=ef h hd;obtain⟨c,h,hc⟩:=bj h he;obtain⟨c',h,hc'⟩:=bj h he;split at h
  ·obtain⟨u0,e1,h1⟩:=hc cA;obtain⟨u1,e2,h2⟩:=hc' cA;obtain⟨rfl,_⟩:=aC.intE h1;obtain⟨rfl,_⟩:=aC.intE h2;exact Iy h ho hdst hn e1 e2 hT M
  ·exact h.elim
 ·rename_i c ho;split at h
  ·rename_i hcal;split at h
   ·rename_i x y t t' h2 h3;obtain⟨d,hdst,hn,hh⟩:=ef h hd;clear h;cases hb:Nat.beq t t' with
    |false=>rw[hb]at hh;exact hh.elim
    |true=>
     rw[hb]at hh;simp only[cond_true]at hh;have:=Nat.eq_of_beq_eq_true hb;subst this;obtain⟨c1,hh,hc1⟩:=bj hh he;obtain⟨c2,hh,hc2⟩:=bj hh he;obtain⟨u0,e1,k1⟩:=hc1 cA;obtain⟨u1,e2,k2⟩:=hc2 cA;exact Iz hh (by rw[ho,kY hcal h2 h3]) hdst hn e1 e2 k1 k2 hT M
   ·exact h.elim
  ·rename_i hcal;split at h
   ·rename_i m kx t t' h2 h3;obtain⟨hdst,hh⟩:=vD h;clear h;obtain⟨c,hh,hc⟩:=bj hh he;obtain⟨kv,hh,hk⟩:=cH hh he;obtain⟨u0,e1,k1⟩:=hc cA;obtain⟨u1,e2,k2⟩:=hk cA;refine bH.mono (Hy hG.1 hh (by rw[ho,kY hcal h2 h3]) hdst e1 e2 k1 k2 hT M) ?_;rintro ce' w' ⟨av,n',H',ρ',cv,⟨rfl,hK⟩,a,b,c,d⟩;exact⟨.un,_,H',ρ',cv,hK,a,trivial,c,d⟩
   ·exact h.elim
  ·rename_i f hcal;obtain⟨xs,h,hxs⟩:=gU h he;obtain⟨vs,e1,hv⟩:=hxs cA;unfold Gd at h;split at h
   ·rename_i k hk;exact Gj hd (by rw[ho];exact congrArg Op.call (kj hcal)) e1 (Ae hG (hG.2 f k hk) h M hv)
   ·exact h.elim
  ·rename_i s hcal;obtain⟨d,hdst,hn,h⟩:=ef h hd;obtain⟨x,h,hx⟩:=bj h he;obtain⟨xs,h,hxs⟩:=gU h he;obtain⟨u,e0,h0⟩:=hx cA;obtain⟨vs,e1,hv⟩:=hxs cA;refine m7 (by rw[ho];exact congrArg Op.call (ue hcal)) hdst hn e0 e1 (ID hG.1 h M h0 hv) fun v w' ⟨av,H',a,b,c,d⟩=>?_;exact⟨av,n,H',ρ,v,a,by rw[hdst];rfl,b,c,d⟩
  ·exact h.elim
 ·exact h.elim
structure d7(R e:En U)(S:List Nat):Prop where
 rs: ∀k,aD R k≠none→k∈S
 gd: ∀k av,aD R k=some av→ ∃p x,av= .gd p x∧ ∀q∈p,q.1∈S
 ne: ∀k,aD R k≠none→aD e k=none
omit [ao]in
theorem dP{α:Type}{d k:Nat}{x:α}{l:List (Nat×α)}(h: ¬d=k):aD ((d,x)::l) k=aD l k:=by
 show(bif Nat.beq d k then some x else aD l k)=_
 rw[cu h];rfl
omit [ao]in
theorem jD{d k:Nat}{u:Value}(h: ¬d=k):aI.get ((d,u)::ce) k=ce.get k:=by
 show(bif Nat.beq d k then some u else ce.get k)=_
 rw[cu h];rfl
omit [ao]in
theorem nM{d:Nat}{u:Value}:aI.get ((d,u)::ce) d=some u:=by
 show(bif Nat.beq d d then some u else ce.get d)=_
 rw[Nat.beq_refl];rfl
omit [ao]in
theorem xg{d s:Nat}{av:AV U}(h: ¬d=s):gS R ((d,av)::e) s=gS R e s:=by
 unfold gS;rw[dP h]
omit [ao]in
theorem xh{d s:Nat}{av:AV U}(h: ¬d=s):gS ((d,av)::R) e s=gS R e s:=by
 unfold gS;rw[dP h]
omit [ao]in
theorem IE{d:Nat}{av:AV U}{p:di}(h: ∀q∈p,¬d=q.1):bn R ((d,av)::e) p↔bn R e p:=
 ⟨fun hp q hq=>by rw[←xg (h q hq)];exact hp q hq,fun hp q hq=>by rw[xg (h q hq)];exact hp q hq⟩
omit [ao]in
theorem Aj{d:Nat}{av:AV U}{p:di}(h: ∀q∈p,¬d=q.1):bn ((d,av)::R) e p↔bn R e p:=
 ⟨fun hp q hq=>by rw[←xh (h q hq)];exact hp q hq,fun hp q hq=>by rw[xh (h q hq)];exact hp q hq⟩
omit [ao]in
theorem aJ.putV{V:Cx U→List Value→Prop}(he:aJ V R e ce)(hr:d7 R e S){d:Nat}(hd:d∉S){av:AV U}{cv:Value}(hv:nv V av cv):aJ V R ((d,av)::e) ((d,cv)::ce)∧d7 R ((d,av)::e) S:=by
 have hne: ∀k,aD R k≠none→ ¬d=k:=fun k hk h=>hd (h▸hr.rs k hk);refine⟨⟨fun k x h1 h2=>?_,fun k l h1 h2=>?_,fun k p x h1=>?_⟩,⟨hr.rs,hr.gd,fun k hk=>by rw[dP (hne k hk)];exact hr.ne k hk⟩⟩
 ·by_cases e1:d=k
  ·subst e1;rw[nH]at h2;injection h2 with h2;subst h2;exact⟨cv,nM,hv⟩
  ·rw[dP e1]at h2;rw[jD e1];exact he.v k x h1 h2
 ·by_cases e1:d=k
  ·subst e1;rw[nH]at h2;injection h2 with h2;subst h2;obtain⟨us,rfl,h3⟩:=hv;exact⟨us,nM,h3⟩
  ·rw[dP e1]at h2;rw[jD e1];exact he.t k l h1 h2
 ·have e1:=hne k (by rw[h1];simp);obtain⟨p',x',e2,hp⟩:=hr.gd k _ h1;injection e2 with e2 e3;subst e2;have hiff:=IE (R:=R) (e:=e) (d:=d) (av:=av) (p:=p) fun q hq h=>hd (h▸hp q hq);obtain⟨u,a,b,c⟩:=he.g k p x h1;exact⟨u,by rw[jD e1];exact a,fun h=>b (hiff.1 h),fun h=>c fun h'=>h (hiff.2 h')⟩
omit [ao]in
theorem aJ.putG{V:Cx U→List Value→Prop}(he:aJ V R e ce)(hr:d7 R e S){d s:Nat}(hd:d∉S)(hds: ¬d=s)(hde:aD e d=none){p:di}{x:Va U}{cv:Value}(hps: ∀q∈p,q.1=s∨q.1∈S)(h1:bn R e p→cM V x cv)(h2: ¬bn R e p→cv=undef):aJ V ((d,.gd p x)::R) e ((d,cv)::ce)∧d7 ((d,.gd p x)::R) e (d::s::S):=by
 have hpd: ∀q∈p,¬d=q.1:=fun q hq h=>by rcases hps q hq with h'|h';(· exact hds (h.trans h'));(· exact hd (h▸h'))
 refine⟨⟨fun k y g1 g2=>?_,fun k l g1 g2=>?_,fun k p' x' g1=>?_⟩,⟨fun k hk=>?_,fun k av hk=>?_,fun k hk=>?_⟩⟩
 ·by_cases e1:d=k
  ·subst e1;rw[nH]at g1;cases g1
  ·rw[dP e1]at g1;rw[jD e1];exact he.v k y g1 g2
 ·by_cases e1:d=k
  ·subst e1;rw[nH]at g1;cases g1
  ·rw[dP e1]at g1;rw[jD e1];exact he.t k l g1 g2
 ·by_cases e1:d=k
  ·subst e1;rw[nH]at g1;injection g1 with g1;injection g1 with g2 g3;subst g2;subst g3;have hiff:=Aj (R:=R) (e:=e) (d:=d) (av:= .gd p x) hpd;exact⟨cv,nM,fun h=>h1 (hiff.1 h),fun h=>h2 fun h'=>h (hiff.2 h')⟩
  ·rw[dP e1]at g1;obtain⟨p2,x2,e2,hp⟩:=hr.gd k _ g1;injection e2 with e2 e3;subst e2;have hiff:=Aj (R:=R) (e:=e) (d:=d) (av:= .gd p x) (p:=p') fun q hq h=>hd (h▸hp q hq);obtain⟨u,a,b,c⟩:=he.g k p' x' g1;exact⟨u,by rw[jD e1];exact a,fun h=>b (hiff.1 h),fun h=>c fun h'=>h (hiff.2 h')⟩
 ·by_cases e1:d=k
  ·simp[e1]
  ·rw[dP e1]at hk;simp[hr.rs k hk]
 ·by_cases e1:d=k
  ·subst e1;rw[nH]at hk;injection hk with hk;refine⟨p,x,hk.symm,fun q hq=>?_⟩;rcases hps q hq with h|h
   ·simp[h]
   ·simp[h]
  ·rw[dP e1]at hk;obtain⟨p2,x2,e2,hp⟩:=hr.gd k _ hk;exact⟨p2,x2,e2,fun q hq=>by simp[hp q hq]⟩
 ·by_cases e1:d=k
  ·subst e1;exact hde
  ·rw[dP e1]at hk;exact hr.ne k hk
omit [ao]in
theorem mS{V:Cx U→List Value→Prop}{all:List Oper}{j s:Nat}{b:Bool}{oj:Oper}(hV: ∀(k:Nat) (c:Bool) u,cM V ⟨false,[(k,.d .bool c)]⟩ u→u= .bool c)(he:aJ V R e ce)(hr:d7 R e S)(hg:o.guard=some (j,b))(hj:dT all j=some oj)(hs:oj.dst=some s){q:di}{k:Nat}{c:Bool}
  (hc:aD R s=some (.gd q ⟨false,[(k,.d .bool c)]⟩)∨(aD R s=none∧aD e s=some (.v ⟨false,[(k,.d .bool c)]⟩)∧q= [])):
  (∀q'∈(s,b)::q,q'.1=s∨q'.1∈S)∧((bn R e ((s,b)::q)∧lU nt ce all.toArray o true)∨(¬bn R e ((s,b)::q)∧lU nt ce all.toArray o false)):=by
 have hjj:(all.toArray[j]?).bind (·.dst)=some s:=by simp only[List.getElem?_toArray];rw[←da,hj];exact hs
 have yes:bn R e q→ce.get s=some (.bool c)→gS R e s=some c→(bn R e ((s,b)::q)∧lU nt ce all.toArray o true)∨(¬bn R e ((s,b)::q)∧lU nt ce all.toArray o false):=fun hq hget hslot=>by
  have hw:=Q4 (n:=nt) (env:=ce) (ops:=all.toArray) hg hjj hget;by_cases hcb:c=b
  ·subst hcb;refine .inl ⟨fun x hx=>?_,by simpa using hw⟩;rcases List.mem_cons.1 hx with rfl|hx
   ·exact hslot
   ·exact hq x hx
  ·refine .inr ⟨fun hp=>?_,?_⟩
   ·have:=hp (s,b) (by simp);rw[hslot]at this;injection this with this;exact hcb this
   ·rw[show(c==b)=false by simpa using hcb]at hw;exact hw
 rcases hc with hc|⟨hR,hc,rfl⟩
 ·obtain⟨p',x',e2,hp⟩:=hr.gd s _ hc;injection e2 with e2 e3;subst e2;refine⟨fun q' hq'=>?_,?_⟩
  ·rcases List.mem_cons.1 hq' with rfl|h
   ·exact .inl rfl
   ·exact .inr (hp q' h)
  ·obtain⟨u,hu,h1,h2⟩:=he.g s _ _ hc;by_cases hq:bn R e q
   ·exact yes hq (by rw[hu,hV _ _ _ (h1 hq)]) (by unfold gS;rw[hc])
   ·rw[h2 hq]at hu;exact .inr ⟨fun hp=>hq fun x hx=>hp x (by simp[hx]),QX hg hjj hu⟩
 ·refine⟨fun q' hq'=>?_,?_⟩
  ·rcases List.mem_cons.1 hq' with rfl|h
   ·exact .inl rfl
   ·cases h
  ·obtain⟨u,hu,h1⟩:=he.v s _ hR hc;exact yes cA (by rw[hu,hV _ _ _ h1]) (by unfold gS;rw[hR,hc])
end
end Go.Proofs.YtmpeiadlohbikaaGreatDoor.V
end

section
set_option linter.unusedVariables false
set_option linter.unusedSectionVars false
set_option linter.unusedSimpArgs false
namespace Go.Proofs.YtmpeiadlohbikaaGreatDoor.V
open Go.RowKit
section
variable [bB] [ao] {U:bD} {P:Program} {nt:Nat} {T:cW U} {G:c6 U} {X:List Nat} {w w' w0:World} {ρ ρ0:Nat→Rz} {n n0 b:Nat} {H H' H0:Hs U} {R e e':En U} {ce:aI} {o:Oper} {S:List Nat}
theorem bd.up{Y:List Nat}{ρ':Nat→Rz}{x:Cx U}{vs:List Value}(h:bd U Y (· =w) ρ' 0 [] x vs):bd U Y (· =w) ρ n H x vs:=by
 cases x with
 |own i v=>exact absurd h.1 (Nat.not_lt_zero _)
 |ptr i v=>exact absurd h.1 (Nat.not_lt_zero _)
 |pel i v q o=>exact absurd h.1 (Nat.not_lt_zero _)
 |pax i off m s q o=>exact absurd h.1 (Nat.not_lt_zero _)
 |clo f js=>
  cases js with
  |nil=>exact⟨h.1,by simp⟩
  |cons j js=>exact absurd (h.2 j (by simp)).1 (Nat.not_lt_zero _)
 |mp i=>exact absurd h.1 (Nat.not_lt_zero _)
 |_=>exact h
theorem sx(M:aX U X (· =w) ρ n H): ∀{js:List Nat} {K:List (Va U)→Prop},Db T H js K→ ∃caps,K caps∧(∀j∈js,∃l t,aD H j=some (.cells l t))∧
  ∀w2 O,Fr O w w2→(∀o∈O,o∈aj ρ H++X∨w.heap.size≤o)→(∀j∈js,∀g,(ρ j).A=some ⟨g,0,none⟩→g∉O)→ ∀(F0:ao) (ρ0:Nat→Rz),bM (@bd F0 U gB (· =w2) ρ0 0 []) caps (js.map fun j=>Value.pointer (ρ j).A)
 | [],K,h=>⟨[],h,fun j hj=>(by cases hj),fun _ _ _ _ _ _ _=>rfl⟩
 |j::js,K,h=>by
  have h:(match aD H j with
   |some (.cells l t)=>(match aD T t with
    |some ti=>(match ti.sh with
     |some s=>cG 20 s l fun x=>Db T H js fun r=>K (⟨false,[(1,.pd s x)]⟩::r)
     |none=>False)
    |none=>False)
   |_=>False):=h
  split at h
  ·rename_i l t hl;split at h
   ·rename_i ti hti;split at h
    ·rename_i s hs;obtain⟨x,h,hx⟩:=bu h;obtain⟨caps,hK,cells,hcap⟩:=sx M (js:=js) h;refine⟨_,hK,fun k hk=>?_,fun w2 O hf hO hj=>?_⟩
     ·rcases List.mem_cons.1 hk with rfl|hk
      ·exact⟨l,t,hl⟩
      ·exact cells k hk
     ·obtain⟨g,vs,hA,hsg,hw⟩:=M.ent _ (af hl);have hg:g∉O:=hj j (by simp) g hA;have hheap:=hw w rfl;have hd:=hx _ _ _ _ _ _ hsg;have hd2:aC U gB (· =w2) s x vs:= @aC.mv ⟨[],ao.pr⟩ U (aj ρ H++X) gB (· =w) (· =w2) (fun w3 h3=>by
       subst h3;exact⟨w,_,rfl,Fr.sub hf hO,fun y hy=>⟨hy,fun h=>(by cases h)⟩,fun y hy=> .inl (List.mem_append_right _ (M.xs y (M.gv.1 y hy)))⟩) s x vs hd
      have gv0:=M.gv.1;have xd0:=M.xd;intro F0 ρ0;refine⟨_,_,rfl,?_,hcap w2 O hf hO (fun k hk=>hj k (by simp[hk])) F0 ρ0⟩;have hA:(ρ j).A=some ⟨g,0,none⟩:=hA;show cM _ _ (Value.pointer (ρ j).A)
      rw[hA];refine gz ⟨g,0,vs,rfl,hd2,fun w3 h3=>?_⟩;subst h3;intro i v hi;refine⟨g,0,rfl,fun hb=>xd0 g (aA.2 ⟨_,af hl,(show ab (ρ j).A=some g by rw[hA];rfl)⟩) (gv0 g hb),?_⟩;have hb:w3.heap[g]? =some (Cl vs t):=by rw[hf.block g (cg hheap) hg];exact hheap
      rw[Nat.zero_add,cell_of_row w3 g i vs.toArray t (0,0) hb];simpa using hi
    ·exact h.elim
   ·exact h.elim
  ·exact h.elim
def Cs(U:bD) [F:ao](X:List Nat)(w:World)(ρ:Nat→Rz)(n:Nat)(H:Hs U)(x:Va U)(c:Cx U)(Z:List Nat):Prop:=(∀j∈Z,∃l t,aD H j=some (.cells l t))∧
 ∀F1:ao,F1.pr=F.pr→(∀z∈F.xf,z∈F1.xf)→(∀j∈Z,∀g,(ρ j).A=some ⟨g,0,none⟩→g∈F1.xf)→ ∀v,cM (@Vw F U X w ρ n H) x v→ @bd F1 U (aj ρ H++X) (· =w) (gA ρ []) 0 [] c [v]
omit [ao]in
theorem DP [F:ao](hG:dF P U G){a:aZ}{x:Va U}{K:(TT U.ty a→Bool)→Prop}(h:Dc T G H a x K)(M:aX U X (· =w) ρ n H): ∃g Z,K g∧Cs U X w ρ n H x (.f1 a g) Z:=by
 have gv0:=M.gv;unfold Dc at h;split at h
 ·rename_i k f;obtain⟨c,⟨g,hr,hK⟩,hC⟩:=iM h hG.2;refine⟨g,[],hK,fun j hj=>(by cases hj),fun F1 hp hx hz v hv=>?_⟩;have e: [v]= [Value.func (.func f) #[] #[]]:=(show bJ _ [(k,.fn f)] [v]from hv).one1.1;injection e with e;subst e;exact⟨_,rfl,sf (cvs:= []) hC (hp.trans hG.1) ⟨fun z hz=>hx z (gv0.1 z hz),gv0.2⟩ hr fun _ _ _ _=>rfl⟩
 ·rename_i k f js;obtain⟨caps,h,cells,hcap⟩:=sx M h;obtain⟨c,⟨g,hr,hK⟩,hC⟩:=iM h hG.2;refine⟨g,js,hK,cells,fun F1 hp hx hz v hv=>?_⟩;have e:=(show bJ _ [(k,.clo f js)] [v]from hv).one1.1;have e:=e.1;injection e with e;subst e;exact⟨_,rfl,sf hC (hp.trans hG.1) ⟨fun z hz=>hx z (gv0.1 z hz),gv0.2⟩ hr fun w2 ⟨O,hf,hO⟩ F0 ρ0=>hcap w2 O hf (fun o ho=>(hO o ho).2) (fun j hj g hA ho=>(hO g ho).1 (hz j hj g hA)) F0 ρ0⟩
 ·exact h.elim
omit [ao]in
theorem DQ [F:ao](hG:dF P U G){a b:aZ}{x:Va U}{K:(TT U.ty a→TT U.ty b→Int)→Prop}(h:Dd T G H a b x K)(M:aX U X (· =w) ρ n H): ∃g Z,K g∧Cs U X w ρ n H x (.f2 a b g) Z:=by
 have gv0:=M.gv;unfold Dd at h;split at h
 ·rename_i k f;obtain⟨c,⟨g,hr,hK⟩,hC⟩:=iM h hG.2;refine⟨g,[],hK,fun j hj=>(by cases hj),fun F1 hp hx hz v hv=>?_⟩;have e: [v]= [Value.func (.func f) #[] #[]]:=(show bJ _ [(k,.fn f)] [v]from hv).one1.1;injection e with e;subst e;exact⟨_,rfl,sg (cvs:= []) hC (hp.trans hG.1) ⟨fun z hz=>hx z (gv0.1 z hz),gv0.2⟩ hr fun _ _ _ _=>rfl⟩
 ·rename_i k f js;obtain⟨caps,h,cells,hcap⟩:=sx M h;obtain⟨c,⟨g,hr,hK⟩,hC⟩:=iM h hG.2;refine⟨g,js,hK,cells,fun F1 hp hx hz v hv=>?_⟩;have e:=(show bJ _ [(k,.clo f js)] [v]from hv).one1.1;have e:=e.1;injection e with e;subst e;exact⟨_,rfl,sg hC (hp.trans hG.1) ⟨fun z hz=>hx z (gv0.1 z hz),gv0.2⟩ hr fun w2 ⟨O,hf,hO⟩ F0 ρ0=>hcap w2 O hf (fun o ho=>(hO o ho).2) (fun j hj g hA ho=>(hO g ho).1 (hz j hj g hA)) F0 ρ0⟩
 ·exact h.elim
omit [ao]in
theorem pw [F:ao](hG:dF P U G)(M:aX U X (· =w) ρ n H): ∀{md:List Md} {xs:List (Va U)} {K:List (Va U)→Prop},Kt T G H md xs K→ ∃(ys:List (Va U)) (Z:List Nat),K ys∧(∀j∈Z,∃l t,aD H j=some (.cells l t))∧
  ∀F1:ao,F1.pr=F.pr→(∀z∈F.xf,z∈F1.xf)→(∀j∈Z,∀g,(ρ j).A=some ⟨g,0,none⟩→g∈F1.xf)→ ∀vs,bM (@Vw F U X w ρ n H) xs vs→bM (@Vc F1 U (aj ρ H++X) w ρ [] []) ys vs
 | [],[],K,h=>⟨[],[],h,fun j hj=>(by cases hj),fun F1 hp hx hz vs hv=>hv⟩
 | [],_::_,K,h=>h.elim
 |m::md,[],K,h=>⟨[],[],h,fun j hj=>(by cases hj),fun F1 hp hx hz vs hv=>hv⟩
 | .d s::md,x::xs,K,h=>by
  have rel:jW true H [] ([]:List (aH U)):=⟨rfl,fun j i hj=>by simp at hj⟩;have h:oE true H [] x.l fun l=>cG 20 s l fun t=>Kt T G H md xs fun r=>K (⟨x.ag,[(aG U s,.d s t)]⟩::r):=h;obtain⟨l,h,hl⟩:=ld M.i h;have hl:=hl [] (aj ρ H++X) (fun y hy=>hy) rel;obtain⟨t,h,ht⟩:=bu (show cG 20 s l _ from h);have hd: ∀v,cM (Vw U X w ρ n H) x v→aC U (aj ρ H++X) (· =w) s t v.cells.toList∧d4 x.ag v v.cells.toList:=fun v hv=>⟨ht _ _ _ _ _ _ (hl _ hv.cells),rQ hv⟩;obtain⟨ys,Z,h,cells,hys⟩:=pw hG M h;refine⟨_,Z,h,cells,fun F1 hp hx hz vs hv=>?_⟩;obtain⟨v,us,e1,h1,h2⟩:=hv;exact⟨v,us,e1,Gi (hd v h1).1 (hd v h1).2,hys F1 hp hx hz _ h2⟩
 | .p _::md,x::xs,K,h=>h.elim
 | .n::md,x::xs,K,h=>by
  have rel:jW true H [] ([]:List (aH U)):=⟨rfl,fun j i hj=>by simp at hj⟩;have h:oE true H [] x.l fun l=>Kt T G H md xs fun r=>K (⟨x.ag,l⟩::r):=h;obtain⟨l,h,hl⟩:=ld M.i h;have hl:=hl [] (aj ρ H++X) (fun y hy=>hy) rel;have hv1: ∀v,cM (Vw U X w ρ n H) x v→cM (Vc U (aj ρ H++X) w ρ [] []) ⟨x.ag,l⟩ v:=fun v hv=>by obtain⟨a,lx⟩:=x;exact so hl hv
  obtain⟨ys,Z,h,cells,hys⟩:=pw hG M h;refine⟨_,Z,h,cells,fun F1 hp hx hz vs hv=>?_⟩;obtain⟨v,us,e1,h1,h2⟩:=hv;exact⟨v,us,e1,(hv1 v h1).imp fun _ _ h=>bd.inst hx hp.symm h,hys F1 hp hx hz _ h2⟩
 | .f1 a::md,x::xs,K,h=>by
  have h:Dc T G H a x fun g=>Kt T G H md xs fun r=>K (⟨false,[(1,.f1 a g)]⟩::r):=h;obtain⟨g,js,h,cells1,cv⟩:=DP hG h M;obtain⟨ys,Z,h,cells,hys⟩:=pw hG M h;refine⟨_,js++Z,h,fun j hj=>(List.mem_append.1 hj).elim (cells1 j) (cells j),fun F1 hp hx hz vs hv=>?_⟩;obtain⟨v,us,e1,h1,h2⟩:=hv;exact⟨v,us,e1,gz (cv F1 hp hx (fun j hj=>hz j (List.mem_append_left _ hj)) v h1),hys F1 hp hx (fun j hj=>hz j (List.mem_append_right _ hj)) _ h2⟩
 | .f2 a b::md,x::xs,K,h=>by
  have h:Dd T G H a b x fun g=>Kt T G H md xs fun r=>K (⟨false,[(1,.f2 a b g)]⟩::r):=h;obtain⟨g,js,h,cells1,cv⟩:=DQ hG h M;obtain⟨ys,Z,h,cells,hys⟩:=pw hG M h;refine⟨_,js++Z,h,fun j hj=>(List.mem_append.1 hj).elim (cells1 j) (cells j),fun F1 hp hx hz vs hv=>?_⟩;obtain⟨v,us,e1,h1,h2⟩:=hv;exact⟨v,us,e1,gz (cv F1 hp hx (fun j hj=>hz j (List.mem_append_left _ hj)) v h1),hys F1 hp hx (fun j hj=>hz j (List.mem_append_right _ hj)) _ h2⟩
omit [ao]in
theorem bd.upI{F1:ao} [F:ao](hp:F1.pr=F.pr){Y:List Nat}{ρ':Nat→Rz}{x:Cx U}{vs:List Value}(hx: ∀a g,x≠ .f1 a g)(hx2: ∀a b g,x≠ .f2 a b g)(h: @bd F1 U Y (· =w) ρ' 0 [] x vs):bd U Y (· =w) ρ n H x vs:=bd.up (by
 cases x with
 |f1 a g=>exact absurd rfl (hx a g)
 |f2 a b g=>exact absurd rfl (hx2 a b g)
 |_=>exact h)
omit [ao]in
theorem vM: ∀{l:List (cd U)},De l=true→ ∀p∈l,(∀a g,p.2≠ .f1 a g)∧ ∀a b g,p.2≠ .f2 a b g
 |(k,x)::r,h,p,hp=>by
  have key:((∀a g,x≠ .f1 a g)∧ ∀a b g,x≠ .f2 a b g)∧De r=true:=by
   cases x with
   |f1 a g=>cases h
   |f2 a b g=>cases h
   |_=>exact⟨⟨fun _ _ e=>(by cases e),fun _ _ _ e=>(by cases e)⟩,h⟩
  rcases List.mem_cons.1 hp with rfl|hp
  ·exact key.1
  ·exact vM key.2 p hp
omit [ao]in
theorem bJ.impL{V V':Cx U→List Value→Prop}: ∀{l:List (cd U)} {vs:List Value},(∀p∈l,∀vs,V p.2 vs→V' p.2 vs)→bJ V l vs→bJ V' l vs
 | [],vs,_,hs=>hs
 |(k,x)::r,vs,h,hs=>by obtain⟨v1,v2,e,hl,hx,hr⟩:=hs;exact⟨v1,v2,e,hl,h (k,x) (by simp) _ hx,bJ.impL (fun p hp=>h p (by simp[hp])) hr⟩
omit [ao]in
theorem cM.impL{V V':Cx U→List Value→Prop}{x:Va U}{v:Value}(h: ∀p∈x.l,∀vs,V p.2 vs→V' p.2 vs)(hv:cM V x v):cM V' x v:=by
 unfold cM at*;split at hv
 ·obtain⟨vs,e,hs⟩:=hv;exact⟨vs,e,bJ.impL h hs⟩
 ·exact bJ.impL h hv
omit [ao]in
theorem Ld{F0:ao}{ρ0:Nat→Rz}(hlo: ∀x∈X,x<w.heap.size)(hx: ∀z∈F0.xf,z∈X)(hgv: @tQ F0 (· =w)): @aX F0 U X (· =w) ρ0 ([]:List (aH U)).length (au 0 []):=
 ⟨List.nodup_nil,fun p hp=>(by cases hp),fun p hp=>(by cases hp),fun p hp=>(by cases hp),fun g hg=>(by cases hg),fun w2 h2 g hg=>(by subst h2;exact hlo g hg),hx,hgv⟩
omit [ao]in
theorem Ak [F:ao](hG:dF P U G){p:di}{K:Va U→Prop}(h:vu T G p o R e n H K)(M:aX U X (· =w) ρ n H)(he:aJ (Vw U X w ρ n H) R e ce): ∃x,K x∧(bn R e p→ ∃fx fv xs ts vs,o.op= .call {callee:= .value fx,args:=List.toArray xs,argTypes:=ts}∧ce.ev fx=some fv∧ce.evs xs=some vs∧pZ P fv vs w fun v w'=>cM (Vw U X w' ρ n H) x v∧Fr [] w w'):=by
 unfold vu at h;split at h
 ·rename_i c ho;split at h
  ·rename_i f hcal;split at h
   ·rename_i k hk;obtain⟨xs,h,hxs⟩:=gU h he;obtain⟨x,h,hnf,hK⟩:=h;refine⟨x,hK,fun hp=>?_⟩;obtain⟨vs,e1,hv⟩:=hxs hp;obtain⟨ys,Z,h,cells,hys⟩:=pw hG M (mJ h hp);refine⟨.func f,_,c.args.toList,c.argTypes,vs,by rw[ho];exact congrArg Op.call (kj hcal),rfl,e1,pZ.of ?_⟩;obtain⟨b,bp,bx,bz,bo⟩: ∃b:Bx,b.f.pr=F.pr∧(∀z∈F.xf,z∈b.f.xf)∧(∀j∈Z,∀g,(ρ j).A=some ⟨g,0,none⟩→g∈b.f.xf)∧ ∀z∈b.f.xf,z∈F.xf∨ ∃j∈Z,ab (ρ j).A=some z:=
     ⟨⟨⟨F.xf++Z.filterMap (fun j=>ab (ρ j).A),F.pr⟩⟩,rfl,fun z hz=>List.mem_append_left _ hz,fun j hj g hA=>List.mem_append_right _ (List.mem_filterMap.2 ⟨j,hj,by rw[hA];rfl⟩),fun z hz=>(List.mem_append.1 hz).imp id fun h=>List.mem_filterMap.1 h⟩
    have Mc:=Ld (F0:=b.f) (U:=U) (X:=aj ρ H++X) (w:=w) (ρ0:=gA ρ []) (fun g hg=>by
      rcases List.mem_append.1 hg with h|h
      ·obtain⟨p,hp,h⟩:=aA.1 h;exact cl M p hp g h
      ·exact M.lo w rfl g h) (fun z hz=>by
      rcases bo z hz with h|⟨j,hj,hA⟩
      ·exact List.mem_append_right _ (M.xs z h)
      ·obtain⟨l,t,hl⟩:=cells j hj;exact List.mem_append_left _ (aA.2 ⟨_,af hl,hA⟩)) ⟨fun z hz=>bx z (M.gv.1 z hz),M.gv.2⟩
    refine Fn.mono (@hG.2 f k hk b.f (bp.trans hG.1) _ w _ [] ys vs _ Mc (hys b.f bp bx bz _ hv) h) fun v w'=>?_;rintro⟨r,es',ρ',⟨rfl,rfl⟩,hav,M',st⟩;have st:=bQ.i (F0:=b.f) st;exact⟨cM.impL (fun p hp vs h=>bd.upI bp (vM hnf p hp).1 (vM hnf p hp).2 h) hav,st.fr⟩
   ·exact h.elim
  ·rename_i s hcal;obtain⟨d,h,hd⟩:=bj h he;obtain⟨xs,h,hxs⟩:=gU h he;unfold RZ at h;have hoo:o.op= .call {callee:= .value (.tmp s),args:=c.args.toList.toArray,argTypes:=c.argTypes}:=by rw[ho];exact congrArg Op.call (ue hcal)
   split at h
   ·rename_i a g x _;cases hb:(x.ag==eK a)with
    |false=>rw[hb]at h;exact h.elim
    |true=>
     rw[hb]at h;simp only[cond_true]at h;obtain⟨t,hK,ht⟩:=bu h;refine⟨_,hK,fun hp=>?_⟩;obtain⟨vs,e1,v,us,rfl,h1,h2⟩:=hxs hp;rw[show us= []from h2]at e1;obtain⟨u,e2,u',e3,hf⟩:=hd hp;injection e3 with e3;subst e3;have hA:=rQ h1;rw[beq_iff_eq.1 hb]at hA;have hfn:=hf.call M.gY (ht _ _ _ _ _ _ h1.cells) hA;rw[hG.1]at hfn;obtain⟨f,fi,ca,e,hfn⟩:=hfn;exact⟨.tmp s,u,_,_,_,hoo,e2,e1,f,fi,ca,e,hfn.mono fun r w' ⟨e4,hf2⟩=>⟨e4▸mt,hf2⟩⟩
   ·rename_i a b g x y _;cases hb:((x.ag==eK a)&&(y.ag==eK b))with
    |false=>rw[hb]at h;exact h.elim
    |true=>
     rw[hb]at h;rw[Bool.and_eq_true]at hb;simp only[cond_true]at h;obtain⟨t,h,ht⟩:=bu h;obtain⟨t',hK,ht'⟩:=bu h;refine⟨_,hK,fun hp=>?_⟩;obtain⟨vs,e1,v,us,rfl,h1,v',us',rfl,h3,h4⟩:=hxs hp;rw[show us'= []from h4]at e1;obtain⟨u,e2,u',e3,hf⟩:=hd hp;injection e3 with e3;subst e3;have hA:=rQ h1;have hB:=rQ h3;rw[beq_iff_eq.1 hb.1]at hA;rw[beq_iff_eq.1 hb.2]at hB;have hfn:=hf.call M.gY (ht _ _ _ _ _ _ h1.cells) hA (ht' _ _ _ _ _ _ h3.cells) hB;rw[hG.1]at hfn;obtain⟨f,fi,ca,e,hfn⟩:=hfn;exact⟨.tmp s,u,_,_,_,hoo,e2,e1,f,fi,ca,e,hfn.mono fun r w' ⟨e4,hin,hf2⟩=>⟨e4▸pg hin,hf2⟩⟩
   ·exact h.elim
  ·exact h.elim
 ·exact h.elim
omit [ao]in
theorem Al: ∀{l:List Operand} {vs:List Value},ce.evs l=some vs→vs.length=l.length
 | [],vs,h=>by injection h with h;subst h;rfl
 |o::l,vs,h=>by
  simp only[aI.evs]at h;split at h
  ·rename_i v us h1 h2;injection h with h;subst h;rw[List.length_cons,List.length_cons,Al h2]
  ·cases h
omit [ao]in
theorem xi: ∀{ps:List (Nat×Operand)} {j k:Nat},zz ps j k=true→ps.map (·.1)=List.range' j ps.length∧k=j+ps.length
 | [],j,k,h=>⟨rfl,(Nat.eq_of_beq_eq_true (show Nat.beq j k=true from h)).symm⟩
 |(i,x)::ps,j,k,h=>by
  have h:(Nat.beq i j&&zz ps (j+1) k)=true:=h;rw[Bool.and_eq_true]at h;obtain⟨h1,h2⟩:=xi h.2;have:=Nat.eq_of_beq_eq_true h.1;exact⟨by simp only[List.map_cons,List.length_cons,List.range'_succ,h1,this],by rw[List.length_cons];omega⟩
theorem Am{s:aZ}(M:aX U X (· =w) ρ n H): ∀{l:List (Va U)} {K:List (TT U.ty s)→Prop},OU s H l K→ ∃xs,K xs∧xs.length=l.length∧ ∀vs,bM (Vw U X w ρ n H) l vs→vs.length=l.length∧aR U (aj ρ H++X) (· =w) s xs (vs.flatMap (·.cells.toList))∧ ∀v∈vs,v.cells.toList.length=aG U s
 | [],K,h=>⟨[],h,rfl,fun vs hv=>by rw[show vs= []from hv];exact⟨rfl,.nil s,fun v hv=>by cases hv⟩⟩
 |x::r,K,h=>by
  have rel:jW true H [] ([]:List (aH U)):=⟨rfl,fun j i hj=>by simp at hj⟩;have h:oE true H [] x.l fun l=>cG 20 s l fun t=>OU s H r fun r=>K (t::r):=h;obtain⟨l,h,hl⟩:=ld M.i h;have hl:=hl [] (aj ρ H++X) (fun y hy=>hy) rel;obtain⟨t,h,ht⟩:=bu (show cG 20 s l _ from h);obtain⟨xs,h,hlen,hx⟩:=Am M h;refine⟨_,h,by rw[List.length_cons,List.length_cons,hlen],fun vs hv=>?_⟩;obtain⟨v,us,rfl,h1,h2⟩:=hv;obtain⟨h3,h4,h5⟩:=hx _ h2;have hd:=ht _ _ _ _ _ _ (hl _ h1.cells);refine⟨by rw[List.length_cons,List.length_cons,h3],by rw[List.flatMap_cons];exact .cons s t xs _ _ hd hd.length h4,fun u hu=>?_⟩;rcases List.mem_cons.1 hu with rfl|hu
  ·exact hd.length
  ·exact h5 u hu
omit [ao]in
theorem DR [F:ao](hG:dF P U G)(hT:bf U P T){p:di}{K:Va U→Prop}(h:wF T G p o R e n H K)(M:aX U X (· =w) ρ n H)(he:aJ (Vw U X w ρ n H) R e ce): ∃x,K x∧(bn R e p→ ∀{d:Nat} {C:aI→World→Prop},o.dst=some d→Nat.blt d nt=true→(∀v w',cM (Vw U X w' ρ n H) x v→Fr [] w w'→C ((d,v)::ce) w')→bH P nt ce w o C):=by
 unfold wF at h;split at h
 ·rename_i t k ps ho;obtain⟨el,ei,h,hu,hes,hei⟩:=kg h hT;split at h
  ·rename_i s hsh;cases hb:(Nat.beq ei.sz (aG U s)&&Nat.blt 0 (aG U s)&&Nat.ble (k*aG U s) 1000&&zz ps.toList 0 k)with
   |false=>rw[hb]at h;exact h.elim
   |true=>
    rw[hb]at h;simp only[cond_true]at h;simp only[Bool.and_eq_true,Nat.blt_eq]at hb;obtain⟨⟨⟨b1,b2⟩,b3⟩,b4⟩:=hb;obtain⟨i1,i2⟩:=xi b4;obtain⟨xs,h,hxs⟩:=gU h he;obtain⟨l,hK,hll,hl⟩:=Am M h;refine⟨_,hK,fun hp {d} {C} hd hn hC=>?_⟩;obtain⟨vs,e1,hv⟩:=hxs hp;obtain⟨l1,l2,l3⟩:=hl vs hv;obtain⟨zs,hz,_,_⟩:=hei.zero;have l4:vs.length=ps.toList.length:=by have:=Al e1;rw[List.length_map]at this;exact this
    have hsz:=Nat.eq_of_beq_eq_true b1;refine vE (ps:=ps.toList) (by rw[ho]) hd hn e1 (by rw[i1,l4]) (by omega) (by rw[←hsz];exact hes) hz (Nat.le_of_ble_eq_true b3) l3 fun g w' hblk hf hg=>?_;have hkl:k=l.length:=by omega
    refine hC _ w' (gz ?_) hf;have hm:Mv (aj ρ H++X) (· =w) (aj ρ H++X) (· =w'):=fun w2 h2=>by
     subst h2;exact⟨w,[],rfl,hf,fun y hy=>(by cases hy),fun y hy=> .inl hy⟩
    rw[hkl];refine .sl s l _ _ _ (aR.mv hm l2) (fun w2 h2 j u hj=>?_) (Nat.le_refl _) ?_
    ·subst h2;refine⟨g,0,rfl,fun hgx=>?_,?_⟩
     ·have:g<w.heap.size:=by
       rcases List.mem_append.1 hgx with h|h
       ·obtain⟨p,hp,h⟩:=aA.1 h;exact cl M p hp g h
       ·exact M.lo w rfl g h
      omega
     ·rw[Nat.zero_add,cell_of_row w2 g j _ el (0,0) hblk];simpa using hj
    ·have:=Nat.le_of_ble_eq_true b3;have:l.length*1≤l.length*aG U s:=Nat.mul_le_mul_left _ b2;rw[hkl]at b3;have:=Nat.le_of_ble_eq_true b3;unfold maxLen;omega
  ·exact h.elim
 ·obtain⟨x,hK,hx⟩:=Ak hG h M he;refine⟨x,hK,fun hp {d} {C} hd hn hC=>?_⟩;obtain⟨fx,fv,xs,ts,vs,ho,hfx,hvs,hfn⟩:=hx hp;exact m7 ho hd hn hfx hvs hfn fun v w' hvw=>hC v w' hvw.1 hvw.2
theorem ug(k:Nat)(c:Bool)(u:Value)(h:cM (Vw U X w ρ n H) ⟨false,[(k,.d .bool c)]⟩ u):u= .bool c:=aC.boolE (show bJ _ [(k,.d .bool c)] [u]from h).one1.1
theorem DS{o:Oper}{x:AV U}{A:Prop}{u:Value}{Y:List Nat}{W:World→Prop}{ρ:Nat→Rz}{n:Nat}{H:Hs U}(h:Df o x A)(hu:nv (bd U Y W ρ n H) x u):A:=by
 unfold Df at h;split at h
 ·split at h
  ·split at h
   ·rename_i k0 k q;have h1:bJ (bd U Y W ρ n H) [(k0,.d (.int k) q)] [u]:=hu;obtain⟨v1,v2,e1,e2,h2,h3⟩:=h1;exact h (aC.inv h2).2
   ·exact h
  ·exact h
 ·exact h
end
end Go.Proofs.YtmpeiadlohbikaaGreatDoor.V
end

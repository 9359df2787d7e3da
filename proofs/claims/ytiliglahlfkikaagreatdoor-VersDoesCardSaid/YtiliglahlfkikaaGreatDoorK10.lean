/- Regions and code are right. -/
import Derived.Test.YtiliglahlfkikaaGreatDoorK9
section
set_option linter.unusedVariables false
set_option linter.unusedSimpArgs false
namespace Go.Proofs.YtiliglahlfkikaaGreatDoor.V
open Go.RowKit
section
variable [ax] {U:cn} {P:Program} {nt:Nat} {T:eF U} {X:List Nat} {w w0:World} {ρ ρ0:Nat→Rz} {n n0:Nat} {H H' H0:Hs U} {R e e':En U} {ce:aR} {φ:List (Nat×Nat)} {b N:Nat}
omit [ax]in
theorem rZ{p:Nat→Bool}: ∀{l:List Nat},vz p l=true→ ∀i∈l,p i=true
 | [],_,i,hi=>by cases hi
 |a::r,h,i,hi=>by
  have h:(bif p a then vz p r else false)=true:=h;cases ha:p a with
  |false=>rw[ha]at h;cases h
  |true=>
   rw[ha]at h;rcases List.mem_cons.1 hi with rfl|hi
   ·exact ha
   ·exact rZ h i hi
structure Wk(φ:List (Nat×Nat))(b N:Nat)(H H':Hs U):Prop where
 bN:b≤N
 nd:(H'.map (·.1)).Nodup
 sn:(H'.map fun p=>dR φ p.1).Nodup
 lt: ∀p∈H',p.1<N
 lo: ∀p∈φ,b≤p.1
omit [ax]in
theorem Wk.src{φ:List (Nat×Nat)}(h: ∀p∈φ,b≤p.1){k:Nat}(hk:k<b):dR φ k=k:=by
 unfold dR;split
 ·rename_i i hi;have:=h _ (am hi);simp only at this;omega
 ·rfl
def m6(ρ:Nat→Rz)(n:Nat)(φ:List (Nat×Nat)):Nat→Rz:=fun k=>bif Nat.ble n (dR φ k)then⟨none,0⟩else ρ (dR φ k)
omit [ax]in
theorem fw{k:Nat}(h:dR φ k<n):m6 ρ n φ k=ρ (dR φ k):=by
 unfold m6;cases hb:Nat.ble n (dR φ k)with
 |false=>rfl
 |true=>have:=Nat.le_of_ble_eq_true hb;omega
omit [ax]in
theorem oO{k:Nat}(h:Nat.ble n (dR φ k)=true):m6 ρ n φ k=⟨none,0⟩:=by unfold m6;rw[h];rfl
def IY(φ:List (Nat×Nat))(b:Nat)(H':Hs U)(k:Nat)(x:aW U):aW U→Prop
 | .dead=>True
 | .cells _ _=> ∃l t,x= .cells l t
 | .row v' s xs' t=> ∃v xs,x= .row v s xs t∧xs=xs'∧(k<b→v=v')
 | .map d l=>x= .map d l
 | .mapr d l r q g=>x= .mapr d l r q g
 | .it k2 g=> ∃i,x= .it i g∧dR φ k2=i∧vr H' k2=true
 |_=>False
def LO(φ:List (Nat×Nat))(b n:Nat)(k:Nat)(y:aW U):Prop:=Nat.ble n (dR φ k)=true∧b≤k∧ ∃v s t,y= .row v s [] t∧0<aU U s
def zJ(φ:List (Nat×Nat))(b n:Nat)(H H':Hs U):Prop:= ∀(k:Nat) y,aL H' k=some y→(∃x,aL H (dR φ k)=some x∧IY φ b H' k x y)∨LO φ b n k y
omit [ax]in
theorem r6{s s':bm}{t:TT U.ty s}{t':TT U.ty s'}{A:Prop}(h:Lt s t s' t' A):s=s'∧HEq t t'∧A:=by
 unfold Lt at h;split at h
 ·rename_i u hc;obtain⟨h1,h2⟩:=eG _ _ _ _ _ hc;subst h1;have h2:t=u:=eq_of_heq h2;subst h2;exact⟨rfl,heq_of_eq h.1,h.2⟩
 ·exact h.elim
omit [ax]in
theorem wV{a a':bm}{g:TT U.ty a→Bool}{g':TT U.ty a'→Bool}{A:Prop}(h:Gb a g a' g' A):a=a'∧HEq g g'∧A:=by
 unfold Gb at h;split at h
 ·rename_i u hc;obtain⟨h1,h2⟩:=eG _ _ _ _ _ hc;subst h1;have h2:g=u:=eq_of_heq h2;subst h2;exact⟨rfl,heq_of_eq h.1,h.2⟩
 ·exact h.elim
omit [ax]in
theorem wW{a b a' b':bm}{g:TT U.ty a→TT U.ty b→Int}{g':TT U.ty a'→TT U.ty b'→Int}{A:Prop}(h:Gc a b g a' b' g' A):a=a'∧b=b'∧HEq g g'∧A:=by
 unfold Gc at h;split at h
 ·rename_i u hc;obtain⟨h1,h2⟩:=eG _ _ _ _ _ hc;subst h1;have h2:g=u:=eq_of_heq h2;subst h2;split at h
  ·rename_i u hc;obtain⟨h1,h2⟩:=eG _ _ _ _ _ hc;subst h1;have h2:g=u:=eq_of_heq h2;subst h2;exact⟨rfl,rfl,heq_of_eq h.1,h.2⟩
  ·exact h.elim
 ·exact h.elim
omit [ax]in
theorem zK{ρ:Nat→Rz}: ∀{ks js:List Nat},IU φ H' ks js=true→(∀j∈js,j<n)→ks.map (fun k=>Value.pointer (m6 ρ n φ k).A)=js.map (fun j=>Value.pointer (ρ j).A)∧ ∀k∈ks,dR φ k∈js∧vu H' k=true
 | [],[],_=>fun _=>⟨rfl,fun k hk=>by cases hk⟩
 |k::ks,j::js,h=>fun hn=>by
  have h:(Nat.beq (dR φ k) j&&vu H' k&&IU φ H' ks js)=true:=h;simp only[Bool.and_eq_true]at h;obtain⟨⟨h1,h2⟩,h3⟩:=h;have h1:=Nat.eq_of_beq_eq_true h1;obtain⟨e,h4⟩:=zK (ρ:=ρ) h3 fun j hj=>hn j (List.mem_cons_of_mem _ hj);refine⟨by rw[List.map_cons,List.map_cons,e];rw[fw (by rw[h1];exact hn j (by simp)),h1],fun i hi=>?_⟩;rcases List.mem_cons.1 hi with rfl|hi
  ·exact⟨by rw[h1];simp,h2⟩
  ·exact⟨List.mem_cons_of_mem _ (h4 i hi).1,(h4 i hi).2⟩
 | [],_::_,h=>by cases h
 |_::_,[],h=>by cases h
theorem GD{Y':List Nat}(hW:Wk φ b N H H')(hR:zJ φ b n H H')(M:bH U X (· =w) ρ n H)(hY: ∀y∈Y',y∈aj ρ H++X){x y:Cx U}{A:Prop}(h:Gd φ n H H' x y A):A∧ ∀vs,Vw U X w ρ n H x vs→bn U Y' (· =w) (m6 ρ n φ) N H' y vs:=by
 have mv:Mv (aj ρ H++X) (· =w) Y' (· =w):=fun w2 h2=>⟨w2,[],h2,Fr.refl _ _,fun _ h=>(by cases h),fun y hy=> .inl (hY y hy)⟩;unfold Gd at h;split at h
 ·rename_i k v';cases hb:(Nat.ble n (dR φ k)&&rI H' k v')with
  |false=>rw[hb]at h;exact h.elim
  |true=>
   rw[hb]at h;rw[Bool.and_eq_true]at hb;obtain⟨h1,h3⟩:=hb;refine⟨h,fun vs hv=>?_⟩;unfold rI at h3;split at h3
   ·rename_i v2 s2 xs2 t2 hk;have h3:=Nat.eq_of_beq_eq_true h3;subst h3;rcases hR k _ hk with⟨x,hx,_⟩|⟨_,_,v,s,t,e,_⟩
    ·have h4:=M.lt _ (am hx);have h5:=Nat.le_of_ble_eq_true h1;exact absurd h4 (by simp only;omega)
    ·injection e with e0 e1 e2 e3;subst e1;have e2:=eq_of_heq e2;subst e2;refine⟨hW.lt _ (am hk),none,0,0,hv,fun v'' l' m' hr=>?_⟩;rw[hk]at hr;injection hr with hr;injection hr with g1 hr;injection hr with g2 g3;subst g1;subst g2;exact⟨Nat.le_refl _,fun _=>by rw[oO h1];exact⟨rfl,rfl,rfl⟩⟩
   ·cases h3
 ·rename_i i v k v';cases hb:(Nat.beq (dR φ k) i&&rI H i v&&rI H' k v')with
  |false=>rw[hb]at h;exact h.elim
  |true=>
   rw[hb]at h;simp only[Bool.and_eq_true]at hb;obtain⟨⟨h1,h2⟩,h3⟩:=hb;have h1:=Nat.eq_of_beq_eq_true h1;refine⟨h,fun vs hv=>?_⟩;obtain⟨hi,A',l,c,e1,hn⟩:=hv;unfold rI at h3;split at h3
   ·rename_i v2 s2 xs2 t2 hk;have h3:=Nat.eq_of_beq_eq_true h3;subst h3;have hin:i<n:=hi;have hrk:m6 ρ n φ k=ρ i:=by rw[fw (by rw[h1];exact hin),h1]
    obtain⟨x,hx,v1,xs,rfl,rfl,hvv⟩: ∃x,aL H (dR φ k)=some x∧IY φ b H' k x _:=by
     rcases hR k _ hk with h|⟨h,_⟩
     ·exact h
     ·rw[h1]at h;have:=Nat.le_of_ble_eq_true h;omega
    rw[h1]at hx;refine⟨hW.lt _ (am hk),A',l,c,e1,fun v'' l' m' hr=>?_⟩;rw[hk]at hr;injection hr with hr;injection hr with g1 hr;injection hr with g2 g3;subst g1;subst g2;subst g3;refine⟨Nat.le_refl _,fun _=>?_⟩;unfold rI at h2;rw[hx]at h2;have h2:=Nat.eq_of_beq_eq_true h2;subst h2;obtain⟨a1,a2,a3⟩:=(hn _ _ _ (by rw[hx];rfl)).2 rfl;exact⟨by rw[a1,hrk],a2,by rw[a3,hrk]⟩
   ·cases h3
 ·rename_i i v s t';split at h
  ·rename_i v' s' xs hl;cases hb:Nat.beq v v' with
   |false=>rw[hb]at h;exact h.elim
   |true=>
    rw[hb]at h;have hvv:=Nat.eq_of_beq_eq_true hb;subst hvv;obtain⟨g1,g2,hA⟩:=r6 h;subst g1;have g2:=eq_of_heq g2;subst g2;refine⟨hA,fun vs hv=>?_⟩;obtain⟨hi,A',l,c,e1,hn⟩:=hv;obtain⟨rfl,rfl,rfl⟩:=(hn _ _ _ (by rw[hl];rfl)).2 rfl;obtain⟨hm,cs,hd,hrd,k1,k2⟩:=M.ent _ (am hl);subst e1;exact aK.mv mv (aK.sl s' xs _ _ cs hd hrd k1 k2)
  ·exact h.elim
 ·rename_i i o k p;cases hb:(Nat.beq (dR φ k) i&&Nat.beq o p&&vu H' k)with
  |false=>rw[hb]at h;exact h.elim
  |true=>
   rw[hb]at h;simp only[Bool.and_eq_true]at hb;obtain⟨⟨h1,h2⟩,h3⟩:=hb;have h1:=Nat.eq_of_beq_eq_true h1;have h2:=Nat.eq_of_beq_eq_true h2;subst h2;refine⟨h,fun vs hv=>?_⟩;obtain⟨hi,hr,g,hA,e1⟩:=hv;unfold vu at h3;split at h3
   ·rename_i l t hk;exact⟨hW.lt _ (am hk),by rw[hk];rfl,g,by rw[fw (by rw[h1];exact hi),h1];exact hA,e1⟩
   ·rename_i l t hk;exact⟨hW.lt _ (am hk),by rw[hk];rfl,g,by rw[fw (by rw[h1];exact hi),h1];exact hA,e1⟩
   ·cases h3
 ·obtain⟨g1,g2,hA⟩:=r6 h;subst g1;have g2:=eq_of_heq g2;subst g2;exact⟨hA,fun vs hv=>aK.mv mv hv⟩
 ·exact⟨h,fun vs hv=>hv⟩
 ·exact⟨h,fun vs hv=>hv⟩
 ·rename_i s xs;obtain⟨h1,h2⟩:=h;subst h1;refine⟨h2,fun vs hv=>?_⟩;rw[show vs= [.slice none 0 0]from hv];exact aK.sl s [] none 0 [] (.nil s) (fun w _=>mD.nil) (Nat.le_refl _) (Nat.zero_le _)
 ·exact⟨h,fun vs hv=>hv⟩
 ·exact⟨h,fun vs hv=>hv⟩
 ·rename_i i k;cases hb:(Nat.beq (dR φ k) i&&vr H' k)with
  |false=>rw[hb]at h;exact h.elim
  |true=>
   rw[hb]at h;rw[Bool.and_eq_true]at hb;have h1:=Nat.eq_of_beq_eq_true hb.1;refine⟨h,fun vs hv=>?_⟩;obtain⟨hi,hr,g,hA,e1⟩:=hv;have h3:=hb.2;unfold vr at h3;split at h3
   ·rename_i d l hk;exact⟨hW.lt _ (am hk),by rw[hk];rfl,g,by rw[fw (by rw[h1];exact hi),h1];exact hA,e1⟩
   ·rename_i d l r q0 q hk;exact⟨hW.lt _ (am hk),by rw[hk];rfl,g,by rw[fw (by rw[h1];exact hi),h1];exact hA,e1⟩
   ·cases h3
 ·rename_i f g;cases hb:Nat.beq f g with
  |false=>rw[hb]at h;exact h.elim
  |true=>rw[hb]at h;have:=Nat.eq_of_beq_eq_true hb;subst this;exact⟨h,fun vs hv=>hv⟩
 ·rename_i f js g ks;cases hb:(Nat.beq f g&&IU φ H' ks js)with
  |false=>rw[hb]at h;exact h.elim
  |true=>
   rw[hb]at h;rw[Bool.and_eq_true]at hb;have:=Nat.eq_of_beq_eq_true hb.1;subst this;refine⟨h,fun vs hv=>?_⟩;obtain⟨e2,hj⟩:=hv;obtain⟨e,hk⟩:=zK (ρ:=ρ) (n:=n) hb.2 fun j hjj=>(hj j hjj).1;refine⟨by rw[e2,e],fun k hkk=>?_⟩;obtain⟨h1,h2⟩:=hk k hkk;obtain⟨hjn,_,g,hA⟩:=hj _ h1;unfold vu at h2;split at h2
   ·rename_i l t hl;exact⟨hW.lt _ (am hl),by rw[hl];rfl,g,by rw[fw hjn];exact hA⟩
   ·rename_i l t hl;exact⟨hW.lt _ (am hl),by rw[hl];rfl,g,by rw[fw hjn];exact hA⟩
   ·cases h2
 ·obtain⟨g1,g2,hA⟩:=wV h;subst g1;have g2:=eq_of_heq g2;subst g2;exact⟨hA,fun vs hv=>by obtain⟨u,e,hf⟩:=hv;exact⟨u,e,hf.mv mv⟩⟩
 ·obtain⟨g0,g1,g2,hA⟩:=wW h;subst g0;subst g1;have g2:=eq_of_heq g2;subst g2;exact⟨hA,fun vs hv=>by obtain⟨u,e,hf⟩:=hv;exact⟨u,e,hf.mv mv⟩⟩
 ·exact h.elim
omit [ax]in
theorem IZ{x y:Cx U}{A:Prop}(h:Gd φ n H H' x y A):A:=by
 have bifA: ∀{c:Bool} {A:Prop},(bif c then A else False)→A:=fun{c A} h=>by
  cases c with
  |true=>exact h
  |false=>exact h.elim
 unfold Gd at h;split at h
 ·exact bifA h
 ·exact bifA h
 ·split at h
  ·exact(r6 (bifA h)).2.2
  ·exact h.elim
 ·exact bifA h
 ·exact(r6 h).2.2
 ·exact h
 ·exact h
 ·exact h.2
 ·exact h
 ·exact h
 ·exact bifA h
 ·exact bifA h
 ·exact bifA h
 ·exact(wV h).2.2
 ·exact(wW h).2.2.2
 ·exact h.elim
def LL(U:cn)(φ:List (Nat×Nat))(n:Nat)(H H':Hs U)(l l':List (cC U)):Prop:= ∀(X:List Nat) (w:World) (ρ:Nat→Rz) (b N:Nat) (Y':List Nat),Wk φ b N H H'→zJ φ b n H H'→bH U X (· =w) ρ n H→(∀y∈Y',y∈aj ρ H++X)→ ∀vs,co (Vw U X w ρ n H) l vs→co (bn U Y' (· =w) (m6 ρ n φ) N H') l' vs
theorem zL{l:List (cC U)}{s:bm}{m:Nat}{t:TT U.ty s}{l':List (cC U)}{A:Prop}(ih: ∀(l:List (cC U)) (A:Prop),za φ n H H' l l' A→A∧LL U φ n H H' l l')
  (h:tK 40 l m fun l1=>dL 20 s l1 fun u=>u=t∧jg 40 l m fun l2=>za φ n H H' l2 l' A):A∧LL U φ n H H' l ((m,.d s t)::l'):=by
 obtain⟨l1,h,h1⟩:=jh h;obtain⟨u,hu,h2⟩:=bQ h;obtain⟨hu,h5⟩:=hu;subst hu;obtain⟨l2,h4,h3⟩:=il h5;obtain⟨hA,hr⟩:=ih _ _ h4;refine⟨hA,fun X w ρ b N Y' hW hR M hY vs hs=>?_⟩;have mv:Mv (aj ρ H++X) (· =w) Y' (· =w):=fun w2 h2=>⟨w2,[],h2,Fr.refl _ _,fun _ h=>(by cases h),fun y hy=> .inl (hY y hy)⟩;obtain⟨a1,a2⟩:=h1 _ _ _ _ _ _ hs;obtain⟨a3,_⟩:=h3 _ _ _ _ _ _ hs;exact⟨vs.take m,vs.drop m,(List.take_append_drop _ _).symm,by rw[List.length_take];omega,aK.mv mv (h2 _ _ _ _ _ _ a1),hr X w ρ b N Y' hW hR M hY _ a3⟩
theorem pt: ∀{l' l:List (cC U)} {A:Prop},za φ n H H' l l' A→A∧LL U φ n H H' l l'
 | [],[],A,h=>⟨h,fun _ _ _ _ _ _ _ _ _ _ _ hs=>hs⟩
 | [],_::_,A,h=>h.elim
 |(m,y)::l',l,A,h=>by
  have hd: ∀{h:(match (generalizing:=false) l with|(k,x)::l=>bif Nat.beq k m then Gd φ n H H' x y (za φ n H H' l l' A)else False| []=>False)},A∧LL U φ n H H' l ((m,y)::l'):=fun{h}=>by
   cases l with
   |nil=>exact h.elim
   |cons p l=>
    obtain⟨k,x⟩:=p;have hh:(bif Nat.beq k m then Gd φ n H H' x y (za φ n H H' l l' A)else False):=h;cases hb:Nat.beq k m with
    |false=>rw[hb]at hh;exact hh.elim
    |true=>
     rw[hb]at hh;have:=Nat.eq_of_beq_eq_true hb;subst this;obtain⟨hA,hl⟩:=pt (IZ hh);refine⟨hA,fun X w ρ b N Y' hW hR M hY vs hs=>?_⟩;obtain⟨v1,v2,e1,hk,h1,h2⟩:=hs;exact⟨v1,v2,e1,hk,(GD hW hR M hY hh).2 _ h1,hl X w ρ b N Y' hW hR M hY _ h2⟩
  match y,h, @hd with
  | .d (.st i) t,h,_=>exact zL (fun l A h=>pt h) h
  | .d (.arr k e) t,h,_=>exact zL (fun l A h=>pt h) h
  | .d (.int _) _,h,hd=>exact hd (h:=h)
  | .d .bool _,h,hd=>exact hd (h:=h)
  | .d .str _,h,hd=>exact hd (h:=h)
  | .d (.sl _) _,h,hd=>exact hd (h:=h)
  | .own _ _,h,hd=>exact hd (h:=h)
  | .ptr _ _,h,hd=>exact hd (h:=h)
  | .pel _ _ _ _,h,hd=>exact hd (h:=h)
  | .pax _ _ _ _ _ _,h,hd=>exact hd (h:=h)
  | .pd _ _,h,hd=>exact hd (h:=h)
  | .nilp,h,hd=>exact hd (h:=h)
  | .nils,h,hd=>exact hd (h:=h)
  | .nilf,h,hd=>exact hd (h:=h)
  | .nilm,h,hd=>exact hd (h:=h)
  | .fn _,h,hd=>exact hd (h:=h)
  | .clo _ _,h,hd=>exact hd (h:=h)
  | .f1 _ _,h,hd=>exact hd (h:=h)
  | .f2 _ _ _,h,hd=>exact hd (h:=h)
  | .mp _,h,hd=>exact hd (h:=h)
  | .un,h,hd=>exact hd (h:=h)
termination_by structural l'=>l'
def LX(φ:List (Nat×Nat))(n:Nat)(H H':Hs U):aW U→aW U→Prop
 | .cells l t,.cells l' t'=>t=t'∧LL U φ n H H' l l'
 |_,_=>True
theorem GE{k:Nat}{x y:aW U}{A:Prop}(h:Lv φ b n H H' k x y A):A∧IY φ b H' k x y∧LX φ n H H' x y:=by
 unfold Lv at h;split at h
 ·exact⟨h,trivial,by cases x<;>trivial⟩
 ·rename_i l t l' t';cases hb:Nat.beq t t' with
  |false=>rw[hb]at h;exact h.elim
  |true=>
   rw[hb]at h;obtain⟨hA,hl⟩:=pt h;exact⟨hA,⟨_,_,rfl⟩,Nat.eq_of_beq_eq_true hb,hl⟩
 ·rename_i v s xs t v' s' xs' t';cases hb:(Nat.beq t t'&&(Nat.ble b k||Nat.beq v v'))with
  |false=>rw[hb]at h;exact h.elim
  |true=>
   rw[hb]at h;simp only[cond_true]at h;simp only[Bool.and_eq_true,Bool.or_eq_true]at hb;cases hc:gC U.ty List s s' xs with
   |none=>rw[hc]at h;exact h.elim
   |some u=>
    rw[hc]at h;obtain⟨g1,g2⟩:=eG _ _ _ _ _ hc;subst g1;have g2:xs=u:=eq_of_heq g2;subst g2;obtain⟨h1,h2⟩:=hb;have h1:=Nat.eq_of_beq_eq_true h1;subst h1;refine⟨h.2,⟨v,xs,rfl,h.1,fun hkb=>?_⟩,trivial⟩;rcases h2 with h2|h2
    ·have:=Nat.le_of_ble_eq_true h2;omega
    ·exact Nat.eq_of_beq_eq_true h2
 ·obtain⟨e,hA⟩:=h;refine⟨hA,?_,trivial⟩;injection e with e1 e2;subst e1;show _=_
  rw[eq_of_heq e2]
 ·obtain⟨e,eg,hA⟩:=h;refine⟨hA,?_,trivial⟩;injection e with e1 e2;subst e1;have e2:=eq_of_heq e2;injection e2 with e3 e4;injection e4 with e4 e5;show _=_
  rw[e3,e4,e5,eg]
 ·rename_i i g k' g';cases hb:(Nat.beq (dR φ k') i&&vr H' k')with
  |false=>rw[hb]at h;exact h.elim
  |true=>
   rw[hb]at h;rw[Bool.and_eq_true]at hb;exact⟨h.2,⟨i,by rw[h.1],Nat.eq_of_beq_eq_true hb.1,hb.2⟩,trivial⟩
 ·exact h.elim
theorem vG: ∀{Q:Hs U} {A:Prop},Ge φ b n H H' Q A→A∧ ∀p∈Q,(∃x,aL H (dR φ p.1)=some x∧IY φ b H' p.1 x p.2∧LX φ n H H' x p.2)∨LO φ b n p.1 p.2
 | [],A,h=>⟨h,fun p hp=>by cases hp⟩
 |(k,y)::Q,A,h=>by
  have h:(match aL H (dR φ k)with|some x=>Lv φ b n H H' k x y (Ge φ b n H H' Q A)|none=>OQ b n φ k y (Ge φ b n H H' Q A)):=h;split at h
  ·rename_i x hx;obtain⟨h1,h2,h3⟩:=GE h;obtain⟨hA,h4⟩:=vG h1;refine⟨hA,fun p hp=>?_⟩;rcases List.mem_cons.1 hp with rfl|hp
   ·exact .inl ⟨x,hx,h2,h3⟩
   ·exact h4 p hp
  ·cases y with
   |row v s xs t=>
    have h:bif Nat.ble n (dR φ k)&&Nat.ble b k&&Nat.blt 0 (aU U s)then xs= []∧Ge φ b n H H' Q A else False:=h;cases hb:(Nat.ble n (dR φ k)&&Nat.ble b k&&Nat.blt 0 (aU U s))with
    |false=>rw[hb]at h;exact h.elim
    |true=>
     rw[hb]at h;simp only[Bool.and_eq_true]at hb;obtain⟨hx,h⟩:=h;obtain⟨hA,h4⟩:=vG h;refine⟨hA,fun p hp=>?_⟩;rcases List.mem_cons.1 hp with rfl|hp
     ·exact .inr ⟨hb.1.1,Nat.le_of_ble_eq_true hb.1.2,v,s,t,by rw[hx],by simpa[Nat.blt_eq]using hb.2⟩
     ·exact h4 p hp
   |_=>exact h.elim
omit [ax]in
theorem LP{Q:Nat→aW U→aW U→Prop}(hW:(H'.map (·.1)).Nodup)(h: ∀p∈H',(∃x,aL H (dR φ p.1)=some x∧IY φ b H' p.1 x p.2∧Q p.1 x p.2)∨LO φ b n p.1 p.2):zJ φ b n H H':=fun k y hk=>by
 rcases h _ (am hk)with⟨x,hx,hl,_⟩|h
 ·exact .inl ⟨x,hx,hl⟩
 ·exact .inr h
end
end Go.Proofs.YtiliglahlfkikaaGreatDoor.V
end

section
set_option linter.unusedVariables false
set_option linter.unusedSimpArgs false
namespace Go.Proofs.YtiliglahlfkikaaGreatDoor.V
open Go.RowKit
section
variable [ax] {U:cn} {P:Program} {nt:Nat} {T:eF U} {X:List Nat} {w w' w0:World} {ρ ρ0:Nat→Rz} {n n0:Nat} {H H' H0:Hs U} {R e e':En U} {ce:aR} {φ:List (Nat×Nat)} {b N:Nat}
theorem vH{Y':List Nat}(hW:Wk φ b N H H')(hR:zJ φ b n H H')(M:bH U X (· =w) ρ n H)(hY: ∀y∈Y',y∈aj ρ H++X): ∀{e':En U} {A:Prop},Lu φ n e H H' e' A→ ∀(k:Nat) av,aL e' k=some av→ ∃y x,av= .v y∧aL e k=some (.v x)∧ ∀u,dJ (Vw U X w ρ n H) x u→dJ (bn U Y' (· =w) (m6 ρ n φ) N H') y u
 | [],A,h,k,av,hk=>by cases hk
 |(j,.v y)::r,A,h,k,av,hk=>by
  have h:(match aL e j with
   |some (.v x)=>bif x.ag==y.ag then za φ n H H' x.l y.l (Lu φ n e H H' r A)else False
   |_=>False):=h
  split at h
  ·rename_i x hx;cases hb:(x.ag==y.ag)with
   |false=>rw[hb]at h;exact h.elim
   |true=>
    rw[hb]at h;have hag:x.ag=y.ag:=by simpa using hb
    obtain⟨h,hl'⟩:=pt h;have hl:=hl' X w ρ b N Y' hW hR M hY;unfold aL at hk;by_cases ejk:j=k
    ·subst ejk;rw[Nat.beq_refl]at hk;injection hk with hk;refine⟨y,x,hk.symm,hx,fun u hu=>?_⟩;obtain⟨a,l⟩:=x;obtain⟨a',l'⟩:=y;simp only at hag hl;subst hag;exact rY hl hu
    ·rw[dq ejk]at hk;exact vH hW hR M hY h k av hk
  ·exact h.elim
 |(j,.tup l)::r,A,h,k,av,hk=>h.elim
 |(j,.gd p x)::r,A,h,k,av,hk=>h.elim
 |(j,.un)::r,A,h,k,av,hk=>h.elim
theorem vJ(M:bH U X (· =w) ρ n H)(he:bd (Vw U X w ρ n H) [] e ce)(hs:EI b N φ n e H e' H')(st:dg ρ0 b H0 w0 ρ n H w): ∃ρ',bH U X (· =w) ρ' N H'∧bd (Vw U X w ρ' N H') [] e' ce∧dg ρ0 b H0 w0 ρ' N H' w:=by
 unfold EI at hs;cases hb:(Nat.ble b N&&oE (H'.map (·.1))&&oE (H'.map fun p=>dR φ p.1)&&vz (fun i=>Nat.blt i N) (H'.map (·.1))&&vz (fun i=>Nat.ble b i) (φ.map (·.1)))with
 |false=>rw[hb]at hs;exact hs.elim
 |true=>
  rw[hb]at hs;simp only[cond_true]at hs;simp only[Bool.and_eq_true]at hb;obtain⟨⟨⟨⟨h1,h2⟩,h3⟩,h4⟩,h5⟩:=hb;have hW:Wk φ b N H H':=⟨Nat.le_of_ble_eq_true h1,mX h2,mX h3,fun p hp=>by have:=rZ h4 p.1 (List.mem_map.2 ⟨p,hp,rfl⟩);simpa[Nat.blt_eq]using this,fun p hp=>Nat.le_of_ble_eq_true (rZ h5 p.1 (List.mem_map.2 ⟨p,hp,rfl⟩))⟩;obtain⟨hE,hH⟩:=vG hs;have hR:zJ φ b n H H':=LP (Q:=fun _ x y=>LX φ n H H' x y) hW.nd hH;have slt: ∀{k x},aL H (dR φ k)=some x→dR φ k<n:=fun hx=>M.lt _ (am hx);have live: ∀p∈H',∀g,aA (m6 ρ n φ) p=some g→ ∃x,aL H (dR φ p.1)=some x∧aA ρ (dR φ p.1,x)=some g:=fun p hp g hg=>by
   obtain⟨k,y⟩:=p;rcases hR k y (dS hW.nd hp)with⟨x,hx,hy⟩|⟨hn,_,v,s,t,rfl,_⟩;case inr=>
    unfold aA at hg;simp only at hg;rw[oO hn]at hg;cases hg
   refine⟨x,hx,?_⟩;have hrk:=fw (ρ:=ρ) (slt hx);unfold aA at hg;cases y with
   |cells l t=>obtain⟨l0,t0,rfl⟩:=hy;simp only[hrk]at hg;exact hg
   |row v s xs t=>obtain⟨v0,xs0,rfl,_⟩:=hy;simp only[hrk]at hg;exact hg
   |map d l=>obtain rfl:=hy;simp only[hrk]at hg;exact hg
   |mapr d l r q0 q=>obtain rfl:=hy;simp only[hrk]at hg;exact hg
   |it k2 q=>obtain⟨i,rfl,_,_⟩:=hy;simp only[hrk]at hg;exact hg
   |dead=>cases hg
   |frz v s xs=>exact hy.elim
   |clo f l=>exact hy.elim
   |hid v l m=>exact hy.elim
  have own: ∀g∈aj (m6 ρ n φ) H',g∈aj ρ H:=fun g hg=>by
   obtain⟨p,hp,hg⟩:=aP.1 hg;obtain⟨x,hx,hxg⟩:=live p hp g hg;exact aP.2 ⟨_,am hx,hxg⟩
  have hY: ∀g∈aj (m6 ρ n φ) H'++X,g∈aj ρ H++X:=fun g hg=>by
   rcases List.mem_append.1 hg with h|h
   ·exact List.mem_append_left _ (own g h)
   ·exact List.mem_append_right _ h
  have mv:Mv (aj ρ H++X) (· =w) (aj (m6 ρ n φ) H'++X) (· =w):=fun w2 h2=>⟨w2,[],h2,Fr.refl _ _,fun _ h=>(by cases h),fun y hy=> .inl (hY y hy)⟩;refine⟨m6 ρ n φ,⟨hW.nd,hW.lt,fun p hp=>?_,fun p hp q hq g h1 h2=>?_,fun g hg=>M.dj g (own g hg),M.lo,M.xs,M.gv⟩,⟨fun k x _ hk=>?_,fun k l _ hk=>?_,fun k p x hk=>by cases hk⟩,⟨st.xd,hW.bN,st.fr,fun g hg=>st.nb g (own g hg),fun i hi v' l' m' hr=>?_,fun i hi hr=>?_⟩⟩
  ·obtain⟨k,y⟩:=p;rcases hH _ hp with⟨x,hx,hy,hl⟩|⟨hn,_,v,s,t,rfl,hs0⟩;case inr=>
    refine⟨hs0,[],[],.nil s,?_,fun g hg=>?_⟩
    ·simp only;rw[oO hn];exact Ow.nil _
    ·simp only at hg;rw[oO hn]at hg;cases hg
   have hM:=M.ent _ (am hx);have hrk:=fw (ρ:=ρ) (slt hx);simp only at hx hl hy hM⊢;cases y with
   |cells l t=>
    obtain⟨l0,t0,rfl⟩:=hy;obtain⟨rfl,hl⟩:=hl;obtain⟨g,vs,hA,hs,hw⟩:=hM;exact⟨g,vs,by rw[hrk];exact hA,hl X w ρ b N _ hW hR M hY vs hs,hw⟩
   |row v s xs t=>
    obtain⟨v0,xs0,rfl,rfl,_⟩:=hy;obtain⟨hm,cs,sp,hd,ho,hw⟩:=hM;exact⟨hm,cs,sp,aZ.mv mv hd,by rw[hrk];exact ho,by rw[hrk];exact hw⟩
   |map d l=>
    obtain rfl:=hy;obtain⟨hk,g,es,clock,m,hA,hm,hd,hw⟩:=hM;exact⟨hk,g,es,clock,m,by rw[hrk];exact hA,hm,aH.mv mv hd,hw⟩
   |mapr d l r q0 q=>
    obtain rfl:=hy;obtain⟨hk,g,es,clock,m,lv,cv,hA,hm,hd,hl,hc,hw⟩:=hM;exact⟨hk,g,es,clock,m,lv,cv,by rw[hrk];exact hA,hm,aH.mv mv hd,aH.mv mv hl,aH.mv mv hc,hw⟩
   |it k2 q=>
    obtain⟨i,rfl,e1,e2⟩:=hy;obtain⟨r,g,hA,hA2,hk,hrk2,hw⟩:=hM;have h3:k2<N∧bC (aL H' k2)=none:=by
     unfold vr at e2;split at e2
     ·rename_i d l hk;exact⟨hW.lt _ (am hk),by rw[hk];rfl⟩
     ·rename_i d l r q0 q hk;exact⟨hW.lt _ (am hk),by rw[hk];rfl⟩
     ·cases e2
    exact⟨r,g,by rw[hrk];exact hA,by rw[fw (by rw[e1];exact hk),e1];exact hA2,h3.1,h3.2,hw⟩
   |dead=>trivial
   |frz v s xs=>exact hy.elim
   |clo f l=>exact hy.elim
   |hid v l m=>exact hy.elim
  ·obtain⟨x,hx,hxg⟩:=live p hp g h1;obtain⟨y,hy,hyg⟩:=live q hq g h2;have:=M.inj _ (am hx) _ (am hy) g hxg hyg;simp only at this;have hn:=hW.sn;obtain⟨i,hi⟩:=List.mem_iff_getElem?.1 hp;obtain⟨j,hj⟩:=List.mem_iff_getElem?.1 hq;have hij:i=j:=by
    have hi':(H'.map fun p=>dR φ p.1)[i]? =some (dR φ p.1):=by rw[List.getElem?_map,hi];rfl
    have hj':(H'.map fun p=>dR φ p.1)[j]? =some (dR φ p.1):=by rw[List.getElem?_map,hj,this];rfl
    exact(List.getElem?_inj (ci hi') hn).1 (hi'.trans hj'.symm)
   subst hij;rw[hi]at hj;injection hj with hj;rw[hj]
  ·obtain⟨y,x0,hy,hx0,hc⟩:=vH hW hR M hY hE k _ hk;injection hy with hy;subst hy;obtain⟨u,hu,hv⟩:=he.v k x0 rfl hx0;exact⟨u,hu,hc u hv⟩
  ·obtain⟨y,x0,hy,_⟩:=vH hW hR M hY hE k _ hk;cases hy
  ·cases hy:aL H' i with
   |none=>rw[hy]at hr;cases hr
   |some y=>
    rw[hy]at hr;rcases hR i y hy with⟨x,hx,hxy⟩|⟨_,hbi,_⟩;case inr=>omega
    have hrk:=fw (ρ:=ρ) (slt hx);have hsrc:=Wk.src hW.lo hi;rw[hsrc]at hx;cases y with
    |row v s xs t=>
     obtain⟨v0,xs0,rfl,rfl,hv⟩:=hxy;have:=hv hi;subst this;obtain⟨v1,l1,m1,a1,a2,a3⟩:=st.row i hi v' l' m' (by rw[hx];exact hr);refine⟨v1,l1,m1,a1,a2,fun h=>?_⟩;obtain⟨b1,b2⟩:=a3 h;exact⟨by rw[hrk,hsrc];exact b1,b2⟩
    |frz v s xs=>exact hxy.elim
    |hid v l m=>exact hxy.elim
    |_=>cases hr
  ·have hsrc:=Wk.src hW.lo hi;rw[fw (by rw[hsrc];have:=st.nn;omega),hsrc];exact st.cel i hi hr
theorem bH.keep0(M:bH U X (· =w) ρ n H)(hf:Fr [] w w'):bH U X (· =w') ρ n H∧dg ρ n H w ρ n H w':=by
 have s:dg ρ n H w ρ n H w':=⟨M.xd,Nat.le_refl _,hf.mono (by simp),fun g hg=> .inl hg,fun i hi v' l' m' h=>⟨v',l',m',h,Nat.le_refl _,fun _=>⟨rfl,rfl,rfl⟩⟩,fun _ _ _=>rfl⟩;exact⟨⟨M.nd,M.lt,fun p hp=>(M.ent p hp).step s rfl fun g hg=>hf.block g (eO M p hp g hg) (by simp),M.inj,M.dj,fun w2 h2 x hx=>by subst h2;exact Nat.lt_of_lt_of_le (M.lo w rfl x hx) hf.size,M.xs,M.gv.fr hf (fun _ h=>by cases h)⟩,s⟩
end
end Go.Proofs.YtiliglahlfkikaaGreatDoor.V
end

section
set_option linter.unusedVariables false
set_option linter.unusedSimpArgs false
namespace Go.Proofs.YtiliglahlfkikaaGreatDoor.V
open Go.RowKit
section
variable [ax] {U:cn} {P:Program} {nt:Nat} {T:eF U} {G:jZ U} {X:List Nat} {w w' w0:World} {ρ ρ0:Nat→Rz} {n n0:Nat} {H H' H0:Hs U} {R e e':En U} {ce:aR} {o:Oper} {S:List Nat}
omit [ax]in
theorem ch.mono{K K':aR→World→Prop}(h:ch P nt ce w o K)(hk: ∀e w,K e w→K' e w):ch P nt ce w o K':=fun a r=>Oper.wp_mono (fun a' w' ⟨e',r',q⟩=>⟨e',r',hk _ _ q⟩) (h a r)
omit [ax]in
theorem eT:bD R e []:=fun x hx=>by cases hx
omit [ax]in
theorem pu{c:Call}{f:FuncId}(h1:c.callee= .value (.func f)):c={callee:= .value (.func f),args:=c.args.toList.toArray,argTypes:=c.argTypes}:=by
 obtain⟨a,b,d⟩:=c;simp only at h1;rw[h1]
omit [ax]in
theorem tV{c:Call}{s:Nat}(h1:c.callee= .value (.tmp s)):c={callee:= .value (.tmp s),args:=c.args.toList.toArray,argTypes:=c.argTypes}:=by
 obtain⟨a,b,d⟩:=c;simp only at h1;rw[h1]
theorem I0(hd:(o.dst.all (Nat.blt · nt))=true){f:FuncId}{xs:List Operand}{ts:Array TypeId}{vs:List Value}{K:AV U→Nat→Hs U→Prop}(ho:o.op= .call {callee:= .value (.func f),args:=xs.toArray,argTypes:=ts})(hx:ce.evs xs=some vs)
  (hc:Fn P f vs w fun v w'=> ∃av n' H' ρ',K av n' H'∧qr (Vw U X w' ρ' n' H') av v∧bH U X (· =w') ρ' n' H'∧dg ρ n H w ρ' n' H' w'):mV P nt U X w ρ n H ce o K:=by
 unfold mV;cases hdst:o.dst with
 |none=>
  refine DO ho hdst hx hc fun v w' ⟨av,n',H',ρ',a,b,c,d⟩=>?_;exact⟨av,n',H',ρ',v,a,rfl,b,c,d⟩
 |some d=>
  rw[hdst]at hd;refine wo ho hdst (by simpa using hd) hx hc fun v w' ⟨av,n',H',ρ',a,b,c,d⟩=>?_;exact⟨av,n',H',ρ',v,a,rfl,b,c,d⟩
theorem zM{Y:List Nat}{w:World}:mK Y w w:=⟨[],Fr.refl _ _,fun _ h=>(by cases h)⟩
theorem yK.call{Y:List Nat}{u v:Value}{a:bm}{g:TT U.ty a→Bool}{t:TT U.ty a}(hf:yK U Y (· =w) u a g)(hY: ∀z∈gB,z∈Y)(hd:aK U Y (· =w) a t v.cells.toList)(hv:eN (fS a) v v.cells.toList):pW ax.pr u [v] w fun r w3=>r= .bool (g t)∧Fr [] w w3:=
 hf.2 w rfl w zM t _ v (aK.mv (Mv.sub hY) hd) hv
theorem yL.call{Y:List Nat}{u v v':Value}{a b:bm}{g:TT U.ty a→TT U.ty b→Int}{t:TT U.ty a}{t':TT U.ty b}(hf:yL U Y (· =w) u a b g)(hY: ∀z∈gB,z∈Y)(hd:aK U Y (· =w) a t v.cells.toList)(hv:eN (fS a) v v.cells.toList)(hd':aK U Y (· =w) b t' v'.cells.toList)(hv':eN (fS b) v' v'.cells.toList):pW ax.pr u [v,v'] w fun r w3=>r= .int .i64 (g t t')∧fu .i64 (g t t')∧Fr [] w w3:=
 hf.2 w rfl w zM t _ v t' _ v' (aK.mv (Mv.sub hY) hd) hv (aK.mv (Mv.sub hY) hd') hv'
theorem GF(hpr:ax.pr=P){c:Cx U}{u:Value}{xs:List (Va U)}{vs:List Value}{K:AV U→Hs U→Prop}(h:LM c xs H K)(M:bH U X (· =w) ρ n H)(hc:Vw U X w ρ n H c [u])(hv:cI (Vw U X w ρ n H) xs vs):
  pW P u vs w fun r w'=> ∃av H',K av H'∧qr (Vw U X w' ρ n H') av r∧bH U X (· =w') ρ n H'∧dg ρ n H w ρ n H' w':=by
 unfold LM at h;split at h
 ·rename_i a g x;obtain⟨v,us,rfl,h1,h2⟩:=hv;rw[show us= []from h2];cases hb:(x.ag==fS a)with
  |false=>rw[hb]at h;exact h.elim
  |true=>
   rw[hb]at h;obtain⟨H1,t,hK,M1,s1,d1⟩:=pi h M;obtain⟨u',e,hf⟩:=bn.step s1 hc;injection e with e;subst e;have hA:=rC h1;rw[beq_iff_eq.1 hb]at hA;rw[←hpr];obtain⟨f,fi,ca,e,hfn⟩:=hf.call M1.gY (d1 v h1) hA;refine⟨f,fi,ca,e,hfn.mono fun r w' ⟨e2,hf2⟩=>?_⟩;obtain⟨M2,s2⟩:=M1.keep0 hf2;exact⟨_,H1,hK,e2▸mR,M2,s1.trans s2⟩
 ·rename_i a b g x y;obtain⟨v,us,rfl,h1,v',us',rfl,h3,h4⟩:=hv;rw[show us'= []from h4];cases hb:((x.ag==fS a)&&(y.ag==fS b))with
  |false=>rw[hb]at h;exact h.elim
  |true=>
   rw[hb]at h;rw[Bool.and_eq_true]at hb;obtain⟨H1,t,h,M1,s1,d1⟩:=pi h M;obtain⟨H2,t',hK,M2,s2,d2⟩:=pi h M1;obtain⟨u',e,hf⟩:=bn.step (s1.trans s2) hc;injection e with e;subst e;have hA:=rC h1;have hB:=rC h3;rw[beq_iff_eq.1 hb.1]at hA;rw[beq_iff_eq.1 hb.2]at hB;rw[←hpr];obtain⟨f,fi,ca,e,hfn⟩:=hf.call M2.gY (aK.mv (s2.mv (X:=X)) (d1 v h1)) hA (d2 v' (dJ.imp (fun _ _ h=>bn.step s1 h) h3)) hB;refine⟨f,fi,ca,e,hfn.mono fun r w' ⟨e2,hin,hf2⟩=>?_⟩;obtain⟨M3,s3⟩:=M2.keep0 hf2;exact⟨_,H2,hK,e2▸qj hin,M3,(s1.trans s2).trans s3⟩
 ·exact h.elim
theorem r7(hG:gw P U G)(hT:bO U P T)(hd:(o.dst.all (Nat.blt · nt))=true){K:AV U→Nat→Hs U→Prop}(h:y8 T G o R e n H K)(M:bH U X (· =w) ρ n H)(he:bd (Vw U X w ρ n H) R e ce):mV P nt U X w ρ n H ce o K:=by
 unfold y8 at h;split at h
 ·rename_i t ho;obtain⟨d,hdst,hn,h⟩:=iR h hd;split at h
  ·rename_i ti hti;exact zw (hT _ _ hti) h ho hdst hn M
  ·exact h.elim
 ·rename_i t x ho;obtain⟨d,hdst,hn,h⟩:=iR h hd;obtain⟨v,h,hv⟩:=ef h he;obtain⟨u,e1,h1⟩:=hv eT;exact Gw h ho hdst hn e1 h1 M
 ·rename_i t ho;obtain⟨d,hdst,hn,h⟩:=iR h hd;split at h
  ·rename_i ti hti;split at h
   ·rename_i kd hm;exact zx (hT _ _ hti) hm hG.1 h ho hdst hn M
   ·exact h.elim
  ·exact h.elim
 ·rename_i t m kx x ho;obtain⟨hdst,h⟩:=vB h;obtain⟨c,h,hc⟩:=bZ h he;obtain⟨kv,h,hk⟩:=ef h he;obtain⟨v,h,hv⟩:=ef h he;obtain⟨u0,e1,h1⟩:=hc eT;obtain⟨u1,e2,h2⟩:=hk eT;obtain⟨u,e3,h3⟩:=hv eT;refine ch.mono (FD hG.1 h ho hdst e1 e2 e3 h1 h2 h3 hT M) ?_;rintro ce' w' ⟨av,n',H',ρ',cv,⟨rfl,hK⟩,a,b,c,d⟩;exact⟨.un,_,H',ρ',cv,hK,a,trivial,c,d⟩
 ·rename_i t x ho;obtain⟨d,hdst,hn,h⟩:=iR h hd;obtain⟨c,h,hc⟩:=bZ h he;obtain⟨u0,e1,h1⟩:=hc eT;refine ch.mono (FF h ho hdst hn e1 h1 hT M) ?_;rintro ce' w' ⟨av,n',H',ρ',cv,⟨rfl,rfl,hK⟩,a,b,c,d⟩;exact⟨_,_,H',ρ',cv,hK,a,b,c,d⟩
 ·rename_i x ho;obtain⟨d,hdst,hn,h⟩:=iR h hd;obtain⟨c,h,hc⟩:=bZ h he;obtain⟨u0,e1,h1⟩:=hc eT;refine ch.mono (FG h ho hdst hn e1 h1 M) ?_;rintro ce' w' ⟨av,n',H',ρ',cv,⟨rfl,hK⟩,a,b,c,d⟩;exact⟨av,_,H',ρ',cv,hK,a,b,c,d⟩
 ·rename_i t x y ho;obtain⟨hdst,h⟩:=vB h;obtain⟨c,h,hc⟩:=bZ h he;obtain⟨v,h,hv⟩:=ef h he;obtain⟨u0,e1,h1⟩:=hc eT;obtain⟨u,e2,h2⟩:=hv eT;refine ch.mono (zy h ho hdst e1 e2 h1 h2 hT M) ?_;rintro ce' w' ⟨av,n',H',ρ',cv,⟨rfl,hK⟩,a,b,c,d⟩;exact⟨.un,_,H',ρ',cv,hK,a,trivial,c,d⟩
 ·rename_i t k ps ho;obtain⟨d,hdst,hn,h⟩:=iR h hd;obtain⟨el,ei,h,hu,hes,hei⟩:=pc h hT;split at h
  ·rename_i s hsh;cases hb:(Nat.beq ei.sz (aU U s)&&Nat.blt 0 (aU U s)&&Nat.ble (k*aU U s) 1000)with
   |false=>rw[hb]at h;exact h.elim
   |true=>
    rw[hb]at h;simp only[cond_true]at h;simp only[Bool.and_eq_true,Nat.blt_eq]at hb;exact Gz h (by rw[ho]) hdst hn hes hei (Nat.eq_of_beq_eq_true hb.1.1) hb.1.2 (Nat.le_of_ble_eq_true hb.2) M he
  ·exact h.elim
 ·rename_i t x y ho;obtain⟨d,hdst,hn,h⟩:=iR h hd;obtain⟨c,h,hc⟩:=bZ h he;obtain⟨c',h,hc'⟩:=bZ h he;split at h
  ·obtain⟨u0,e1,h1⟩:=hc eT;obtain⟨u1,e2,h2⟩:=hc' eT;obtain⟨rfl,_⟩:=aK.intE h1;obtain⟨rfl,_⟩:=aK.intE h2;exact GA h ho hdst hn e1 e2 hT M
  ·exact h.elim
 ·rename_i c ho;split at h
  ·rename_i hcal;split at h
   ·rename_i x y t t' h2 h3;obtain⟨d,hdst,hn,hh⟩:=iR h hd;clear h;cases hb:Nat.beq t t' with
    |false=>rw[hb]at hh;exact hh.elim
    |true=>
     rw[hb]at hh;simp only[cond_true]at hh;have:=Nat.eq_of_beq_eq_true hb;subst this;obtain⟨c1,hh,hc1⟩:=bZ hh he;obtain⟨c2,hh,hc2⟩:=bZ hh he;obtain⟨u0,e1,k1⟩:=hc1 eT;obtain⟨u1,e2,k2⟩:=hc2 eT;exact GB hh (by rw[ho,mS hcal h2 h3]) hdst hn e1 e2 k1 k2 hT M
   ·exact h.elim
  ·rename_i hcal;split at h
   ·rename_i m kx t t' h2 h3;obtain⟨hdst,hh⟩:=vB h;clear h;obtain⟨c,hh,hc⟩:=bZ hh he;obtain⟨kv,hh,hk⟩:=ef hh he;obtain⟨u0,e1,k1⟩:=hc eT;obtain⟨u1,e2,k2⟩:=hk eT;refine ch.mono (FE hG.1 hh (by rw[ho,mS hcal h2 h3]) hdst e1 e2 k1 k2 hT M) ?_;rintro ce' w' ⟨av,n',H',ρ',cv,⟨rfl,hK⟩,a,b,c,d⟩;exact⟨.un,_,H',ρ',cv,hK,a,trivial,c,d⟩
   ·exact h.elim
  ·rename_i f hcal;obtain⟨xs,h,hxs⟩:=kp h he;obtain⟨vs,e1,hv⟩:=hxs eT;unfold EH at h;split at h
   ·rename_i k hk;exact I0 hd (by rw[ho];exact congrArg Op.call (pu hcal)) e1 (zI hG (hG.2 f k hk) h M hv)
   ·exact h.elim
  ·rename_i s hcal;obtain⟨d,hdst,hn,h⟩:=iR h hd;obtain⟨x,h,hx⟩:=bZ h he;obtain⟨xs,h,hxs⟩:=kp h he;obtain⟨u,e0,h0⟩:=hx eT;obtain⟨vs,e1,hv⟩:=hxs eT;refine nz (by rw[ho];exact congrArg Op.call (tV hcal)) hdst hn e0 e1 (GF hG.1 h M h0 hv) fun v w' ⟨av,H',a,b,c,d⟩=>?_;exact⟨av,n,H',ρ,v,a,by rw[hdst];rfl,b,c,d⟩
  ·exact h.elim
 ·exact h.elim
structure eU(R e:En U)(S:List Nat):Prop where
 rs: ∀k,aL R k≠none→k∈S
 gd: ∀k av,aL R k=some av→ ∃p x,av= .gd p x∧ ∀q∈p,q.1∈S
 ne: ∀k,aL R k≠none→aL e k=none
omit [ax]in
theorem iL{α:Type}{d k:Nat}{x:α}{l:List (Nat×α)}(h: ¬d=k):aL ((d,x)::l) k=aL l k:=by
 show(bif Nat.beq d k then some x else aL l k)=_
 rw[dq h];rfl
omit [ax]in
theorem mj{d k:Nat}{u:Value}(h: ¬d=k):aR.get ((d,u)::ce) k=ce.get k:=by
 show(bif Nat.beq d k then some u else ce.get k)=_
 rw[dq h];rfl
omit [ax]in
theorem se{d:Nat}{u:Value}:aR.get ((d,u)::ce) d=some u:=by
 show(bif Nat.beq d d then some u else ce.get d)=_
 rw[Nat.beq_refl];rfl
omit [ax]in
theorem wX{d s:Nat}{av:AV U}(h: ¬d=s):iK R ((d,av)::e) s=iK R e s:=by
 unfold iK;rw[iL h]
omit [ax]in
theorem wY{d s:Nat}{av:AV U}(h: ¬d=s):iK ((d,av)::R) e s=iK R e s:=by
 unfold iK;rw[iL h]
omit [ax]in
theorem GG{d:Nat}{av:AV U}{p:dQ}(h: ∀q∈p,¬d=q.1):bD R ((d,av)::e) p↔bD R e p:=
 ⟨fun hp q hq=>by rw[←wX (h q hq)];exact hp q hq,fun hp q hq=>by rw[wX (h q hq)];exact hp q hq⟩
omit [ax]in
theorem zN{d:Nat}{av:AV U}{p:dQ}(h: ∀q∈p,¬d=q.1):bD ((d,av)::R) e p↔bD R e p:=
 ⟨fun hp q hq=>by rw[←wY (h q hq)];exact hp q hq,fun hp q hq=>by rw[wY (h q hq)];exact hp q hq⟩
omit [ax]in
theorem bd.putV{V:Cx U→List Value→Prop}(he:bd V R e ce)(hr:eU R e S){d:Nat}(hd:d∉S){av:AV U}{cv:Value}(hv:qr V av cv):bd V R ((d,av)::e) ((d,cv)::ce)∧eU R ((d,av)::e) S:=by
 have hne: ∀k,aL R k≠none→ ¬d=k:=fun k hk h=>hd (h▸hr.rs k hk);refine⟨⟨fun k x h1 h2=>?_,fun k l h1 h2=>?_,fun k p x h1=>?_⟩,⟨hr.rs,hr.gd,fun k hk=>by rw[iL (hne k hk)];exact hr.ne k hk⟩⟩
 ·by_cases e1:d=k
  ·subst e1;rw[rN]at h2;injection h2 with h2;subst h2;exact⟨cv,se,hv⟩
  ·rw[iL e1]at h2;rw[mj e1];exact he.v k x h1 h2
 ·by_cases e1:d=k
  ·subst e1;rw[rN]at h2;injection h2 with h2;subst h2;obtain⟨us,rfl,h3⟩:=hv;exact⟨us,se,h3⟩
  ·rw[iL e1]at h2;rw[mj e1];exact he.t k l h1 h2
 ·have e1:=hne k (by rw[h1];simp);obtain⟨p',x',e2,hp⟩:=hr.gd k _ h1;injection e2 with e2 e3;subst e2;have hiff:=GG (R:=R) (e:=e) (d:=d) (av:=av) (p:=p) fun q hq h=>hd (h▸hp q hq);obtain⟨u,a,b,c⟩:=he.g k p x h1;exact⟨u,by rw[mj e1];exact a,fun h=>b (hiff.1 h),fun h=>c fun h'=>h (hiff.2 h')⟩
omit [ax]in
theorem bd.putG{V:Cx U→List Value→Prop}(he:bd V R e ce)(hr:eU R e S){d s:Nat}(hd:d∉S)(hds: ¬d=s)(hde:aL e d=none){p:dQ}{x:Va U}{cv:Value}(hps: ∀q∈p,q.1=s∨q.1∈S)(h1:bD R e p→dJ V x cv)(h2: ¬bD R e p→cv=undef):bd V ((d,.gd p x)::R) e ((d,cv)::ce)∧eU ((d,.gd p x)::R) e (d::s::S):=by
 have hpd: ∀q∈p,¬d=q.1:=fun q hq h=>by rcases hps q hq with h'|h';(· exact hds (h.trans h'));(· exact hd (h▸h'))
 refine⟨⟨fun k y g1 g2=>?_,fun k l g1 g2=>?_,fun k p' x' g1=>?_⟩,⟨fun k hk=>?_,fun k av hk=>?_,fun k hk=>?_⟩⟩
 ·by_cases e1:d=k
  ·subst e1;rw[rN]at g1;cases g1
  ·rw[iL e1]at g1;rw[mj e1];exact he.v k y g1 g2
 ·by_cases e1:d=k
  ·subst e1;rw[rN]at g1;cases g1
  ·rw[iL e1]at g1;rw[mj e1];exact he.t k l g1 g2
 ·by_cases e1:d=k
  ·subst e1;rw[rN]at g1;injection g1 with g1;injection g1 with g2 g3;subst g2;subst g3;have hiff:=zN (R:=R) (e:=e) (d:=d) (av:= .gd p x) hpd;exact⟨cv,se,fun h=>h1 (hiff.1 h),fun h=>h2 fun h'=>h (hiff.2 h')⟩
  ·rw[iL e1]at g1;obtain⟨p2,x2,e2,hp⟩:=hr.gd k _ g1;injection e2 with e2 e3;subst e2;have hiff:=zN (R:=R) (e:=e) (d:=d) (av:= .gd p x) (p:=p') fun q hq h=>hd (h▸hp q hq);obtain⟨u,a,b,c⟩:=he.g k p' x' g1;exact⟨u,by rw[mj e1];exact a,fun h=>b (hiff.1 h),fun h=>c fun h'=>h (hiff.2 h')⟩
 ·by_cases e1:d=k
  ·simp[e1]
  ·rw[iL e1]at hk;simp[hr.rs k hk]
 ·by_cases e1:d=k
  ·subst e1;rw[rN]at hk;injection hk with hk;refine⟨p,x,hk.symm,fun q hq=>?_⟩;rcases hps q hq with h|h
   ·simp[h]
   ·simp[h]
  ·rw[iL e1]at hk;obtain⟨p2,x2,e2,hp⟩:=hr.gd k _ hk;exact⟨p2,x2,e2,fun q hq=>by simp[hp q hq]⟩
 ·by_cases e1:d=k
  ·subst e1;exact hde
  ·rw[iL e1]at hk;exact hr.ne k hk
omit [ax]in
theorem m7{V:Cx U→List Value→Prop}{all:List Oper}{j s:Nat}{b:Bool}{oj:Oper}(hV: ∀(k:Nat) (c:Bool) u,dJ V ⟨false,[(k,.d .bool c)]⟩ u→u= .bool c)(he:bd V R e ce)(hr:eU R e S)(hg:o.guard=some (j,b))(hj:eM all j=some oj)(hs:oj.dst=some s){q:dQ}{k:Nat}{c:Bool}
  (hc:aL R s=some (.gd q ⟨false,[(k,.d .bool c)]⟩)∨(aL R s=none∧aL e s=some (.v ⟨false,[(k,.d .bool c)]⟩)∧q= [])):
  (∀q'∈(s,b)::q,q'.1=s∨q'.1∈S)∧((bD R e ((s,b)::q)∧nN nt ce all.toArray o true)∨(¬bD R e ((s,b)::q)∧nN nt ce all.toArray o false)):=by
 have hjj:(all.toArray[j]?).bind (·.dst)=some s:=by simp only[List.getElem?_toArray];rw[←dB,hj];exact hs
 have yes:bD R e q→ce.get s=some (.bool c)→iK R e s=some c→(bD R e ((s,b)::q)∧nN nt ce all.toArray o true)∨(¬bD R e ((s,b)::q)∧nN nt ce all.toArray o false):=fun hq hget hslot=>by
  have hw:=Oq (n:=nt) (env:=ce) (ops:=all.toArray) hg hjj hget;by_cases hcb:c=b
  ·subst hcb;refine .inl ⟨fun x hx=>?_,by simpa using hw⟩;rcases List.mem_cons.1 hx with rfl|hx
   ·exact hslot
   ·exact hq x hx
  ·refine .inr ⟨fun hp=>?_,?_⟩
   ·have:=hp (s,b) (by simp);rw[hslot]at this;injection this with this;exact hcb this
   ·rw[show(c==b)=false by simpa using hcb]at hw;exact hw
 rcases hc with hc|⟨hR,hc,rfl⟩
 ·obtain⟨p',x',e2,hp⟩:=hr.gd s _ hc;injection e2 with e2 e3;subst e2;refine⟨fun q' hq'=>?_,?_⟩
  ·rcases List.mem_cons.1 hq' with rfl|h
   ·exact .inl rfl
   ·exact .inr (hp q' h)
  ·obtain⟨u,hu,h1,h2⟩:=he.g s _ _ hc;by_cases hq:bD R e q
   ·exact yes hq (by rw[hu,hV _ _ _ (h1 hq)]) (by unfold iK;rw[hc])
   ·rw[h2 hq]at hu;exact .inr ⟨fun hp=>hq fun x hx=>hp x (by simp[hx]),Ok hg hjj hu⟩
 ·refine⟨fun q' hq'=>?_,?_⟩
  ·rcases List.mem_cons.1 hq' with rfl|h
   ·exact .inl rfl
   ·cases h
  ·obtain⟨u,hu,h1⟩:=he.v s _ hR hc;exact yes eT (by rw[hu,hV _ _ _ h1]) (by unfold iK;rw[hR,hc])
end
end Go.Proofs.YtiliglahlfkikaaGreatDoor.V
end

section
set_option linter.unusedVariables false
set_option linter.unusedSimpArgs false
namespace Go.Proofs.YtiliglahlfkikaaGreatDoor.V
open Go.RowKit
section
variable [ax] {U:cn} {P:Program} {nt:Nat} {T:eF U} {G:jZ U} {X:List Nat} {w w' w0:World} {ρ ρ0:Nat→Rz} {n n0 b:Nat} {H H' H0:Hs U} {R e e':En U} {ce:aR} {o:Oper} {S:List Nat}
theorem bn.up{Y:List Nat}{ρ':Nat→Rz}{x:Cx U}{vs:List Value}(h:bn U Y (· =w) ρ' 0 [] x vs):bn U Y (· =w) ρ n H x vs:=by
 cases x with
 |own i v=>exact absurd h.1 (Nat.not_lt_zero _)
 |ptr i v=>exact absurd h.1 (Nat.not_lt_zero _)
 |pel i v q o=>exact absurd h.1 (Nat.not_lt_zero _)
 |pax i off m s q o=>exact absurd h.1 (Nat.not_lt_zero _)
 |clo f js=>
  cases js with
  |nil=>exact⟨h.1,by simp⟩
  |cons j js=>exact absurd (h.2 j (by simp)).1 (Nat.not_lt_zero _)
 |mp i=>exact absurd h.1 (Nat.not_lt_zero _)
 |_=>exact h
theorem sf(M:bH U X (· =w) ρ n H): ∀{js:List Nat} {K:List (Va U)→Prop},B8 T H js K→ ∃caps,K caps∧(∀j∈js,∃l t,aL H j=some (.cells l t))∧
  ∀w2 O,Fr O w w2→(∀o∈O,o∈aj ρ H++X∨w.heap.size≤o)→(∀j∈js,∀g,(ρ j).A=some ⟨g,0,none⟩→g∉O)→ ∀(F0:ax) (ρ0:Nat→Rz),cI (@bn F0 U gB (· =w2) ρ0 0 []) caps (js.map fun j=>Value.pointer (ρ j).A)
 | [],K,h=>⟨[],h,fun j hj=>(by cases hj),fun _ _ _ _ _ _ _=>rfl⟩
 |j::js,K,h=>by
  have h:(match aL H j with
   |some (.cells l t)=>(match aL T t with
    |some ti=>(match ti.sh with
     |some s=>dL 20 s l fun x=>B8 T H js fun r=>K (⟨false,[(1,.pd s x)]⟩::r)
     |none=>False)
    |none=>False)
   |_=>False):=h
  split at h
  ·rename_i l t hl;split at h
   ·rename_i ti hti;split at h
    ·rename_i s hs;obtain⟨x,h,hx⟩:=bQ h;obtain⟨caps,hK,cells,hcap⟩:=sf M (js:=js) h;refine⟨_,hK,fun k hk=>?_,fun w2 O hf hO hj=>?_⟩
     ·rcases List.mem_cons.1 hk with rfl|hk
      ·exact⟨l,t,hl⟩
      ·exact cells k hk
     ·obtain⟨g,vs,hA,hsg,hw⟩:=M.ent _ (am hl);have hg:g∉O:=hj j (by simp) g hA;have hheap:=hw w rfl;have hd:=hx _ _ _ _ _ _ hsg;have hd2:aK U gB (· =w2) s x vs:= @aK.mv ⟨[],ax.pr⟩ U (aj ρ H++X) gB (· =w) (· =w2) (fun w3 h3=>by
       subst h3;exact⟨w,_,rfl,Fr.sub hf hO,fun y hy=>⟨hy,fun h=>(by cases h)⟩,fun y hy=> .inl (List.mem_append_right _ (M.xs y (M.gv.1 y hy)))⟩) s x vs hd
      have gv0:=M.gv.1;have xd0:=M.xd;intro F0 ρ0;refine⟨_,_,rfl,?_,hcap w2 O hf hO (fun k hk=>hj k (by simp[hk])) F0 ρ0⟩;have hA:(ρ j).A=some ⟨g,0,none⟩:=hA;show dJ _ _ (Value.pointer (ρ j).A)
      rw[hA];refine jF ⟨g,0,vs,rfl,hd2,fun w3 h3=>?_⟩;subst h3;intro i v hi;refine⟨g,0,rfl,fun hb=>xd0 g (aP.2 ⟨_,am hl,(show ak (ρ j).A=some g by rw[hA];rfl)⟩) (gv0 g hb),?_⟩;have hb:w3.heap[g]? =some (Cl vs t):=by rw[hf.block g (bF hheap) hg];exact hheap
      rw[Nat.zero_add,cell_of_row w3 g i vs.toArray t (0,0) hb];simpa using hi
    ·exact h.elim
   ·exact h.elim
  ·exact h.elim
def Cs(U:cn) [F:ax](X:List Nat)(w:World)(ρ:Nat→Rz)(n:Nat)(H:Hs U)(x:Va U)(c:Cx U)(Z:List Nat):Prop:=(∀j∈Z,∃l t,aL H j=some (.cells l t))∧
 ∀F1:ax,F1.pr=F.pr→(∀z∈F.xf,z∈F1.xf)→(∀j∈Z,∀g,(ρ j).A=some ⟨g,0,none⟩→g∈F1.xf)→ ∀v,dJ (@Vw F U X w ρ n H) x v→ @bn F1 U (aj ρ H++X) (· =w) (ip ρ []) 0 [] c [v]
omit [ax]in
theorem CL [F:ax](hG:gw P U G){a:bm}{x:Va U}{K:(TT U.ty a→Bool)→Prop}(h:B9 T G H a x K)(M:bH U X (· =w) ρ n H): ∃g Z,K g∧Cs U X w ρ n H x (.f1 a g) Z:=by
 have gv0:=M.gv;unfold B9 at h;split at h
 ·rename_i k f;obtain⟨c,⟨g,hr,hK⟩,hC⟩:=jH h hG.2;refine⟨g,[],hK,fun j hj=>(by cases hj),fun F1 hp hx hz v hv=>?_⟩;have e: [v]= [Value.func (.func f) #[] #[]]:=(show co _ [(k,.fn f)] [v]from hv).one1.1;injection e with e;subst e;exact⟨_,rfl,rS (cvs:= []) hC (hp.trans hG.1) ⟨fun z hz=>hx z (gv0.1 z hz),gv0.2⟩ hr fun _ _ _ _=>rfl⟩
 ·rename_i k f js;obtain⟨caps,h,cells,hcap⟩:=sf M h;obtain⟨c,⟨g,hr,hK⟩,hC⟩:=jH h hG.2;refine⟨g,js,hK,cells,fun F1 hp hx hz v hv=>?_⟩;have e:=(show co _ [(k,.clo f js)] [v]from hv).one1.1;have e:=e.1;injection e with e;subst e;exact⟨_,rfl,rS hC (hp.trans hG.1) ⟨fun z hz=>hx z (gv0.1 z hz),gv0.2⟩ hr fun w2 ⟨O,hf,hO⟩ F0 ρ0=>hcap w2 O hf (fun o ho=>(hO o ho).2) (fun j hj g hA ho=>(hO g ho).1 (hz j hj g hA)) F0 ρ0⟩
 ·exact h.elim
omit [ax]in
theorem CM [F:ax](hG:gw P U G){a b:bm}{x:Va U}{K:(TT U.ty a→TT U.ty b→Int)→Prop}(h:Ca T G H a b x K)(M:bH U X (· =w) ρ n H): ∃g Z,K g∧Cs U X w ρ n H x (.f2 a b g) Z:=by
 have gv0:=M.gv;unfold Ca at h;split at h
 ·rename_i k f;obtain⟨c,⟨g,hr,hK⟩,hC⟩:=jH h hG.2;refine⟨g,[],hK,fun j hj=>(by cases hj),fun F1 hp hx hz v hv=>?_⟩;have e: [v]= [Value.func (.func f) #[] #[]]:=(show co _ [(k,.fn f)] [v]from hv).one1.1;injection e with e;subst e;exact⟨_,rfl,rT (cvs:= []) hC (hp.trans hG.1) ⟨fun z hz=>hx z (gv0.1 z hz),gv0.2⟩ hr fun _ _ _ _=>rfl⟩
 ·rename_i k f js;obtain⟨caps,h,cells,hcap⟩:=sf M h;obtain⟨c,⟨g,hr,hK⟩,hC⟩:=jH h hG.2;refine⟨g,js,hK,cells,fun F1 hp hx hz v hv=>?_⟩;have e:=(show co _ [(k,.clo f js)] [v]from hv).one1.1;have e:=e.1;injection e with e;subst e;exact⟨_,rfl,rT hC (hp.trans hG.1) ⟨fun z hz=>hx z (gv0.1 z hz),gv0.2⟩ hr fun w2 ⟨O,hf,hO⟩ F0 ρ0=>hcap w2 O hf (fun o ho=>(hO o ho).2) (fun j hj g hA ho=>(hO g ho).1 (hz j hj g hA)) F0 ρ0⟩
 ·exact h.elim
omit [ax]in
theorem pv [F:ax](hG:gw P U G)(M:bH U X (· =w) ρ n H): ∀{md:List Md} {xs:List (Va U)} {K:List (Va U)→Prop},Io T G H md xs K→ ∃(ys:List (Va U)) (Z:List Nat),K ys∧(∀j∈Z,∃l t,aL H j=some (.cells l t))∧
  ∀F1:ax,F1.pr=F.pr→(∀z∈F.xf,z∈F1.xf)→(∀j∈Z,∀g,(ρ j).A=some ⟨g,0,none⟩→g∈F1.xf)→ ∀vs,cI (@Vw F U X w ρ n H) xs vs→cI (@Vc F1 U (aj ρ H++X) w ρ [] []) ys vs
 | [],[],K,h=>⟨[],[],h,fun j hj=>(by cases hj),fun F1 hp hx hz vs hv=>hv⟩
 | [],_::_,K,h=>h.elim
 |m::md,[],K,h=>⟨[],[],h,fun j hj=>(by cases hj),fun F1 hp hx hz vs hv=>hv⟩
 | .d s::md,x::xs,K,h=>by
  have rel:ly true H [] ([]:List (aW U)):=⟨rfl,fun j i hj=>by simp at hj⟩;have h:qn true H [] x.l fun l=>dL 20 s l fun t=>Io T G H md xs fun r=>K (⟨x.ag,[(aU U s,.d s t)]⟩::r):=h;obtain⟨l,h,hl⟩:=mW M.i h;have hl:=hl [] (aj ρ H++X) (fun y hy=>hy) rel;obtain⟨t,h,ht⟩:=bQ (show dL 20 s l _ from h);have hd: ∀v,dJ (Vw U X w ρ n H) x v→aK U (aj ρ H++X) (· =w) s t v.cells.toList∧eN x.ag v v.cells.toList:=fun v hv=>⟨ht _ _ _ _ _ _ (hl _ hv.cells),rC hv⟩;obtain⟨ys,Z,h,cells,hys⟩:=pv hG M h;refine⟨_,Z,h,cells,fun F1 hp hx hz vs hv=>?_⟩;obtain⟨v,us,e1,h1,h2⟩:=hv;exact⟨v,us,e1,EM (hd v h1).1 (hd v h1).2,hys F1 hp hx hz _ h2⟩
 | .p _::md,x::xs,K,h=>h.elim
 | .n::md,x::xs,K,h=>by
  have rel:ly true H [] ([]:List (aW U)):=⟨rfl,fun j i hj=>by simp at hj⟩;have h:qn true H [] x.l fun l=>Io T G H md xs fun r=>K (⟨x.ag,l⟩::r):=h;obtain⟨l,h,hl⟩:=mW M.i h;have hl:=hl [] (aj ρ H++X) (fun y hy=>hy) rel;have hv1: ∀v,dJ (Vw U X w ρ n H) x v→dJ (Vc U (aj ρ H++X) w ρ [] []) ⟨x.ag,l⟩ v:=fun v hv=>by obtain⟨a,lx⟩:=x;exact rY hl hv
  obtain⟨ys,Z,h,cells,hys⟩:=pv hG M h;refine⟨_,Z,h,cells,fun F1 hp hx hz vs hv=>?_⟩;obtain⟨v,us,e1,h1,h2⟩:=hv;exact⟨v,us,e1,(hv1 v h1).imp fun _ _ h=>bn.inst hx hp.symm h,hys F1 hp hx hz _ h2⟩
 | .f1 a::md,x::xs,K,h=>by
  have h:B9 T G H a x fun g=>Io T G H md xs fun r=>K (⟨false,[(1,.f1 a g)]⟩::r):=h;obtain⟨g,js,h,cells1,cv⟩:=CL hG h M;obtain⟨ys,Z,h,cells,hys⟩:=pv hG M h;refine⟨_,js++Z,h,fun j hj=>(List.mem_append.1 hj).elim (cells1 j) (cells j),fun F1 hp hx hz vs hv=>?_⟩;obtain⟨v,us,e1,h1,h2⟩:=hv;exact⟨v,us,e1,jF (cv F1 hp hx (fun j hj=>hz j (List.mem_append_left _ hj)) v h1),hys F1 hp hx (fun j hj=>hz j (List.mem_append_right _ hj)) _ h2⟩
 | .f2 a b::md,x::xs,K,h=>by
  have h:Ca T G H a b x fun g=>Io T G H md xs fun r=>K (⟨false,[(1,.f2 a b g)]⟩::r):=h;obtain⟨g,js,h,cells1,cv⟩:=CM hG h M;obtain⟨ys,Z,h,cells,hys⟩:=pv hG M h;refine⟨_,js++Z,h,fun j hj=>(List.mem_append.1 hj).elim (cells1 j) (cells j),fun F1 hp hx hz vs hv=>?_⟩;obtain⟨v,us,e1,h1,h2⟩:=hv;exact⟨v,us,e1,jF (cv F1 hp hx (fun j hj=>hz j (List.mem_append_left _ hj)) v h1),hys F1 hp hx (fun j hj=>hz j (List.mem_append_right _ hj)) _ h2⟩
omit [ax]in
theorem bn.upI{F1:ax} [F:ax](hp:F1.pr=F.pr){Y:List Nat}{ρ':Nat→Rz}{x:Cx U}{vs:List Value}(hx: ∀a g,x≠ .f1 a g)(hx2: ∀a b g,x≠ .f2 a b g)(h: @bn F1 U Y (· =w) ρ' 0 [] x vs):bn U Y (· =w) ρ n H x vs:=bn.up (by
 cases x with
 |f1 a g=>exact absurd rfl (hx a g)
 |f2 a b g=>exact absurd rfl (hx2 a b g)
 |_=>exact h)
omit [ax]in
theorem vK: ∀{l:List (cC U)},Cb l=true→ ∀p∈l,(∀a g,p.2≠ .f1 a g)∧ ∀a b g,p.2≠ .f2 a b g
 |(k,x)::r,h,p,hp=>by
  have key:((∀a g,x≠ .f1 a g)∧ ∀a b g,x≠ .f2 a b g)∧Cb r=true:=by
   cases x with
   |f1 a g=>cases h
   |f2 a b g=>cases h
   |_=>exact⟨⟨fun _ _ e=>(by cases e),fun _ _ _ e=>(by cases e)⟩,h⟩
  rcases List.mem_cons.1 hp with rfl|hp
  ·exact key.1
  ·exact vK key.2 p hp
omit [ax]in
theorem co.impL{V V':Cx U→List Value→Prop}: ∀{l:List (cC U)} {vs:List Value},(∀p∈l,∀vs,V p.2 vs→V' p.2 vs)→co V l vs→co V' l vs
 | [],vs,_,hs=>hs
 |(k,x)::r,vs,h,hs=>by obtain⟨v1,v2,e,hl,hx,hr⟩:=hs;exact⟨v1,v2,e,hl,h (k,x) (by simp) _ hx,co.impL (fun p hp=>h p (by simp[hp])) hr⟩
omit [ax]in
theorem dJ.impL{V V':Cx U→List Value→Prop}{x:Va U}{v:Value}(h: ∀p∈x.l,∀vs,V p.2 vs→V' p.2 vs)(hv:dJ V x v):dJ V' x v:=by
 unfold dJ at*;split at hv
 ·obtain⟨vs,e,hs⟩:=hv;exact⟨vs,e,co.impL h hs⟩
 ·exact co.impL h hv
omit [ax]in
theorem I1{F0:ax}{ρ0:Nat→Rz}(hlo: ∀x∈X,x<w.heap.size)(hx: ∀z∈F0.xf,z∈X)(hgv: @tG F0 (· =w)): @bH F0 U X (· =w) ρ0 ([]:List (aW U)).length (aS 0 []):=
 ⟨List.nodup_nil,fun p hp=>(by cases hp),fun p hp=>(by cases hp),fun p hp=>(by cases hp),fun g hg=>(by cases hg),fun w2 h2 g hg=>(by subst h2;exact hlo g hg),hx,hgv⟩
omit [ax]in
theorem tW [F:ax](hG:gw P U G){p:dQ}{K:Va U→Prop}(h:rH T G p o R e n H K)(M:bH U X (· =w) ρ n H)(he:bd (Vw U X w ρ n H) R e ce): ∃x,K x∧(bD R e p→ ∃fx fv xs ts vs,o.op= .call {callee:= .value fx,args:=List.toArray xs,argTypes:=ts}∧ce.ev fx=some fv∧ce.evs xs=some vs∧pW P fv vs w fun v w'=>dJ (Vw U X w' ρ n H) x v∧Fr [] w w'):=by
 unfold rH at h;split at h
 ·rename_i c ho;split at h
  ·rename_i f hcal;split at h
   ·rename_i k hk;obtain⟨xs,h,hxs⟩:=kp h he;obtain⟨x,h,hnf,hK⟩:=h;refine⟨x,hK,fun hp=>?_⟩;obtain⟨vs,e1,hv⟩:=hxs hp;obtain⟨ys,Z,h,cells,hys⟩:=pv hG M (lq h hp);refine⟨.func f,_,c.args.toList,c.argTypes,vs,by rw[ho];exact congrArg Op.call (pu hcal),rfl,e1,pW.of ?_⟩;obtain⟨b,bp,bx,bz,bo⟩: ∃b:Bx,b.f.pr=F.pr∧(∀z∈F.xf,z∈b.f.xf)∧(∀j∈Z,∀g,(ρ j).A=some ⟨g,0,none⟩→g∈b.f.xf)∧ ∀z∈b.f.xf,z∈F.xf∨ ∃j∈Z,ak (ρ j).A=some z:=
     ⟨⟨⟨F.xf++Z.filterMap (fun j=>ak (ρ j).A),F.pr⟩⟩,rfl,fun z hz=>List.mem_append_left _ hz,fun j hj g hA=>List.mem_append_right _ (List.mem_filterMap.2 ⟨j,hj,by rw[hA];rfl⟩),fun z hz=>(List.mem_append.1 hz).imp id fun h=>List.mem_filterMap.1 h⟩
    have Mc:=I1 (F0:=b.f) (U:=U) (X:=aj ρ H++X) (w:=w) (ρ0:=ip ρ []) (fun g hg=>by
      rcases List.mem_append.1 hg with h|h
      ·obtain⟨p,hp,h⟩:=aP.1 h;exact eO M p hp g h
      ·exact M.lo w rfl g h) (fun z hz=>by
      rcases bo z hz with h|⟨j,hj,hA⟩
      ·exact List.mem_append_right _ (M.xs z h)
      ·obtain⟨l,t,hl⟩:=cells j hj;exact List.mem_append_left _ (aP.2 ⟨_,am hl,hA⟩)) ⟨fun z hz=>bx z (M.gv.1 z hz),M.gv.2⟩
    refine Fn.mono (@hG.2 f k hk b.f (bp.trans hG.1) _ w _ [] ys vs _ Mc (hys b.f bp bx bz _ hv) h) fun v w'=>?_;rintro⟨r,es',ρ',⟨rfl,rfl⟩,hav,M',st⟩;have st:=dg.i (F0:=b.f) st;exact⟨dJ.impL (fun p hp vs h=>bn.upI bp (vK hnf p hp).1 (vK hnf p hp).2 h) hav,st.fr⟩
   ·exact h.elim
  ·rename_i s hcal;obtain⟨d,h,hd⟩:=bZ h he;obtain⟨xs,h,hxs⟩:=kp h he;unfold OP at h;have hoo:o.op= .call {callee:= .value (.tmp s),args:=c.args.toList.toArray,argTypes:=c.argTypes}:=by rw[ho];exact congrArg Op.call (tV hcal)
   split at h
   ·rename_i a g x _;cases hb:(x.ag==fS a)with
    |false=>rw[hb]at h;exact h.elim
    |true=>
     rw[hb]at h;simp only[cond_true]at h;obtain⟨t,hK,ht⟩:=bQ h;refine⟨_,hK,fun hp=>?_⟩;obtain⟨vs,e1,v,us,rfl,h1,h2⟩:=hxs hp;rw[show us= []from h2]at e1;obtain⟨u,e2,u',e3,hf⟩:=hd hp;injection e3 with e3;subst e3;have hA:=rC h1;rw[beq_iff_eq.1 hb]at hA;have hfn:=hf.call M.gY (ht _ _ _ _ _ _ h1.cells) hA;rw[hG.1]at hfn;obtain⟨f,fi,ca,e,hfn⟩:=hfn;exact⟨.tmp s,u,_,_,_,hoo,e2,e1,f,fi,ca,e,hfn.mono fun r w' ⟨e4,hf2⟩=>⟨e4▸mR,hf2⟩⟩
   ·rename_i a b g x y _;cases hb:((x.ag==fS a)&&(y.ag==fS b))with
    |false=>rw[hb]at h;exact h.elim
    |true=>
     rw[hb]at h;rw[Bool.and_eq_true]at hb;simp only[cond_true]at h;obtain⟨t,h,ht⟩:=bQ h;obtain⟨t',hK,ht'⟩:=bQ h;refine⟨_,hK,fun hp=>?_⟩;obtain⟨vs,e1,v,us,rfl,h1,v',us',rfl,h3,h4⟩:=hxs hp;rw[show us'= []from h4]at e1;obtain⟨u,e2,u',e3,hf⟩:=hd hp;injection e3 with e3;subst e3;have hA:=rC h1;have hB:=rC h3;rw[beq_iff_eq.1 hb.1]at hA;rw[beq_iff_eq.1 hb.2]at hB;have hfn:=hf.call M.gY (ht _ _ _ _ _ _ h1.cells) hA (ht' _ _ _ _ _ _ h3.cells) hB;rw[hG.1]at hfn;obtain⟨f,fi,ca,e,hfn⟩:=hfn;exact⟨.tmp s,u,_,_,_,hoo,e2,e1,f,fi,ca,e,hfn.mono fun r w' ⟨e4,hin,hf2⟩=>⟨e4▸qj hin,hf2⟩⟩
   ·exact h.elim
  ·exact h.elim
 ·exact h.elim
theorem wZ(k:Nat)(c:Bool)(u:Value)(h:dJ (Vw U X w ρ n H) ⟨false,[(k,.d .bool c)]⟩ u):u= .bool c:=aK.boolE (show co _ [(k,.d .bool c)] [u]from h).one1.1
theorem w9{o:Oper}{x:AV U}{A:Prop}{u:Value}{Y:List Nat}{W:World→Prop}{ρ:Nat→Rz}{n:Nat}{H:Hs U}(h:Cc o x A)(hu:qr (bn U Y W ρ n H) x u):A:=by
 unfold Cc at h;split at h
 ·split at h
  ·split at h
   ·rename_i k0 k q;have h1:co (bn U Y W ρ n H) [(k0,.d (.int k) q)] [u]:=hu;obtain⟨v1,v2,e1,e2,h2,h3⟩:=h1;exact h (aK.inv h2).2
   ·exact h
  ·exact h
 ·exact h
theorem xa(hG:gw P U G)(hT:bO U P T){Q:EQ}{all:List Oper}{K:KS U}(hQ: ∀e n H ρ ce w,K e n H→bH U X (· =w) ρ n H→bd (Vw U X w ρ n H) [] e ce→dg ρ0 b H0 w0 ρ n H w→Q .normal ce w):
  ∀(l:List Oper) (e:En U) (n:Nat) (H:Hs U) (R:En U) (S:List Nat) (ρ:Nat→Rz) (ce:aR) (w:World),(∀o∈l,(o.dst.all (Nat.blt · nt))=true)→vm T G all l e n H R S K→bH U X (· =w) ρ n H→bd (Vw U X w ρ n H) R e ce→eU R e S→dg ρ0 b H0 w0 ρ n H w→
   Ls P nt all.toArray Q l ce w
 | [],e,n,H,R,S,ρ,ce,w,hd,h,M,he,hr,st=>by
  refine dW (hQ e n H ρ ce w h M ⟨fun k x _ hk=>?_,fun k l _ hk=>?_,fun k p x hk=>by cases hk⟩ st)
  ·exact he.v k x (Classical.byContradiction fun hn=>by rw[hr.ne k hn]at hk;cases hk) hk
  ·exact he.t k l (Classical.byContradiction fun hn=>by rw[hr.ne k hn]at hk;cases hk) hk
 |o::l,e,n,H,R,S,ρ,ce,w,hd,h,M,he,hr,st=>by
  have ih:=xa (all:=all) hG hT hQ l;have hdo:=hd o (by simp);have hdl: ∀o∈l,(o.dst.all (Nat.blt · nt))=true:=fun o ho=>hd o (by simp[ho]);have h:jj T G all o (vm T G all l) e n H R S K:=h;unfold jj at h;split at h
  ·rename_i hg;split at h
   ·refine DM (lh hg) (ch.mono (r7 hG hT hdo h M he) ?_);rintro ce' w' ⟨av,n',H',ρ',cv,hK,rfl,hav,M',s'⟩;unfold qp at hK;cases hdst:o.dst with
    |none=>
     rw[hdst]at hK;exact ih _ _ _ _ _ _ _ _ hdl hK M' (he.step s') hr (st.trans s')
    |some d=>
     rw[hdst]at hK;simp only at hK;cases hm:ji d S with
     |true=>rw[hm]at hK;exact hK.elim
     |false=>
      rw[hm]at hK;obtain⟨he',hr'⟩:=(he.step s').putV hr (fT hm) hav;exact ih _ _ _ _ _ _ _ _ hdl hK M' he' hr' (st.trans s')
   ·obtain⟨x,hK,hy⟩:=mT hG.1 (p:= []) (fun A h _=>h) h hT M he ⟨w,rfl⟩;obtain⟨u,hyld,hu⟩:=hy eT;have hK:=w9 hK hu;unfold qp at hK;cases hdst:o.dst with
    |none=>
     rw[hdst]at hK;exact JL (lh hg) hdst hyld (ih _ _ _ _ _ _ _ _ hdl hK M he hr st)
    |some d=>
     rw[hdst]at hK hdo;simp only at hK;cases hm:ji d S with
     |true=>rw[hm]at hK;exact hK.elim
     |false=>
      rw[hm]at hK;obtain⟨he',hr'⟩:=he.putV hr (fT hm) (av:=x) hu;exact yD (lh hg) hdst (by simpa using hdo) hyld (ih _ _ _ _ _ _ _ _ hdl hK M he' hr' st)
  ·rename_i j bb hg;split at h
   ·rename_i oj hj;split at h
    ·rename_i s hs;have key: ∀(q:dQ) (k:Nat) (c:Bool),(aL R s=some (.gd q ⟨false,[(k,.d .bool c)]⟩)∨(aL R s=none∧aL e s=some (.v ⟨false,[(k,.d .bool c)]⟩)∧q= []))→tC T G o (vm T G all l) s ((s,bb)::q) e n H R S K→Ls P nt all.toArray Q (o::l) ce w:=fun q k c hc h=>by
      obtain⟨hps,hw⟩:=m7 (nt:=nt) wZ he hr hg hj hs hc;have fin: ∀x:Va U,putG (vm T G all l) s o.dst ((s,bb)::q) x e n H R S K→ ∃d,o.dst=some d∧Nat.blt d nt=true∧vm T G all l e n H ((d,.gd ((s,bb)::q) x)::R) (d::s::S) K∧d∉S∧ ¬d=s∧aL e d=none:=fun x h=>by
       unfold putG at h;split at h
       ·rename_i d hdst;split at h
        ·rename_i hde;cases hm:(ji d S||Nat.beq d s)with
         |true=>rw[hm]at h;exact h.elim
         |false=>
          rw[hm]at h;rw[Bool.or_eq_false_iff]at hm;rw[hdst]at hdo;exact⟨d,hdst,by simpa using hdo,h,fT hm.1,fun e1=>(by rw[e1,Nat.beq_refl]at hm;cases hm.2),hde⟩
        ·exact h.elim
       ·exact h.elim
      unfold tC at h;split at h
      ·obtain⟨x,hK,hx⟩:=tW hG h M he;obtain⟨d,hdst,hn,hK,h1,h2,h3⟩:=fin x hK;rcases hw with⟨hp,hw⟩|⟨hp,hw⟩
       ·obtain⟨fx,fv,xs,ts,vs,ho,hfx,hvs,hfn⟩:=hx hp;refine DM hw (nz ho hdst hn hfx hvs hfn fun v w' hvw=>?_);obtain⟨hv,hf⟩:=hvw;obtain⟨M',s'⟩:=M.keep0 hf;obtain⟨he',hr'⟩:=(he.step s').putG hr h1 h2 h3 hps (x:=x) (cv:=v) (fun _=>hv) (fun hn=>absurd hp hn);exact ih _ _ _ _ _ _ _ _ hdl hK M' he' hr' (st.trans s')
       ·obtain⟨he',hr'⟩:=he.putG hr h1 h2 h3 hps (x:=x) (cv:=undef) (fun h=>absurd h hp) (fun _=>rfl);exact JM hw hdst hn (ih _ _ _ _ _ _ _ _ hdl hK M he' hr' st)
      ·obtain⟨x0,hK,hy⟩:=mT hG.1 (p:=(s,bb)::q) (fun A h hp=>lq h hp) h hT M he ⟨w,rfl⟩;split at hK
       ·rename_i x;obtain⟨d,hdst,hn,hK,h1,h2,h3⟩:=fin x hK;rcases hw with⟨hp,hw⟩|⟨hp,hw⟩
        ·obtain⟨u,hyld,hu⟩:=hy hp;obtain⟨he',hr'⟩:=he.putG hr h1 h2 h3 hps (x:=x) (cv:=u) (fun _=>hu) (fun hn=>absurd hp hn);exact yD hw hdst hn hyld (ih _ _ _ _ _ _ _ _ hdl hK M he' hr' st)
        ·obtain⟨he',hr'⟩:=he.putG hr h1 h2 h3 hps (x:=x) (cv:=undef) (fun h=>absurd h hp) (fun _=>rfl);exact JM hw hdst hn (ih _ _ _ _ _ _ _ _ hdl hK M he' hr' st)
       ·exact hK.elim
     split at h
     ·rename_i q k c hc;exact key q k c (.inl hc) h
     ·exact h.elim
     ·rename_i hR;split at h
      ·rename_i k c hc;exact key [] k c (.inr ⟨hR,hc,rfl⟩) h
      ·exact h.elim
    ·exact h.elim
   ·exact h.elim
end
end Go.Proofs.YtiliglahlfkikaaGreatDoor.V
end

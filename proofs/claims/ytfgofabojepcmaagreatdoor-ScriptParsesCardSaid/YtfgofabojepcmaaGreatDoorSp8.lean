/- Calls: what is handed on, and back. -/
import Derived.Test.YtfgofabojepcmaaGreatDoorSp7
section
set_option linter.unusedVariables false
set_option linter.unusedSectionVars false
set_option linter.unusedSimpArgs false
namespace Go.Proofs.YtfgofabojepcmaaGreatDoor.V
open Go.RowKit
section
variable [bF] [al] {U:bJ} {P:Program} {nt:Nat} {T:cH U} {X:List Nat} {w:World} {ρ:Nat→Rz} {n:Nat} {H:Hs U} {R e:En U} {ce:aK} {o:Oper}
def IC:aN U→Bool
 | .row _ _ _ _=>false
 | .ext _ _ _ _=>false
 |_=>true
def BK(H H':Hs U):Prop:= ∀j l t,aB H' j=some (.cells l t)→aB H j=some (.cells l t)
def CP(H H':Hs U):Prop:= ∀j x,IC x=true→aB H j=some x→aB H' j=some x
omit [al]in
theorem CP.refl(H:Hs U):CP H H:=fun _ _ _ h=>h
omit [al]in
theorem CP.trans{H1 H2:Hs U}(a:CP H H1)(b:CP H1 H2):CP H H2:=fun j l t h=>b j l t (a j l t h)
omit [al]in
theorem l9{i:Nat}{x:aN U}: ∀{H:Hs U} {K K':Hs U→Prop},eG H i x K→(∀H',H'=ej H i x→K H'→K' H')→eG H i x K'
 | [],_,_,h,_=>h.elim
 |y::r,K,K',h,hk=>by
  have h:(bif Nat.beq y.1 i then K ((i,x)::r)else eG r i x fun r'=>K (y::r')):=h;show(bif Nat.beq y.1 i then K' ((i,x)::r)else eG r i x fun r'=>K' (y::r'))
  cases hb:Nat.beq y.1 i with
  |true=>rw[hb]at h;exact hk _ (by unfold ej;rw[hb];rfl) h
  |false=>rw[hb]at h;exact l9 (H:=r) h fun H' e hK=>hk _ (by unfold ej;rw[hb,e];rfl) hK
omit [al]in
theorem uG{x:bH U}{K K':Hs U→bH U→Prop}(h:pw H x K)(hk: ∀H' y,CP H H'→BK H H'→K H' y→K' H' y):pw H x K':=by
 unfold pw at h⊢;split at h
 ·rename_i i v;show(match aB H i with
   |some (.row v' e xs _)=>(bif Nat.beq v v' then eG H i (.frz v e xs) fun H=>K' H (1,.d (.sl e) xs)else False)
   |some (.frz v' e xs)=>(bif Nat.beq v v' then K' H (1,.d (.sl e) xs)else False)
   |some (.ext v' d xs none)=>(bif Nat.beq v v' then eG H i (.frz v d.e xs) fun H=>K' H (1,.d (.sl d.e) xs)else False)
   |_=>False)
  split at h
  ·rename_i v' s xs t hl;rw[hl];simp only;cases hb:Nat.beq v v' with
   |false=>rw[hb]at h;exact h.elim
   |true=>
    rw[hb]at h;exact l9 h fun H' e hK=>hk _ _ (fun j y hy hj=>by
     subst e;rw[dt ⟨_,hl⟩];split
     ·rename_i e;subst e;rw[hl]at hj;injection hj with hj;subst hj;cases hy
     ·exact hj) (fun j l1 t1 hj=>by
     subst e;rw[dt ⟨_,hl⟩]at hj;split at hj
     ·cases hj
     ·exact hj) hK
  ·rename_i v' s xs hl;rw[hl];simp only;cases hb:Nat.beq v v' with
   |false=>rw[hb]at h;exact h.elim
   |true=>rw[hb]at h;exact hk _ _ (CP.refl _) (fun _ _ _ h=>h) h
  ·rename_i v' d xs hl;rw[hl];simp only;cases hb:Nat.beq v v' with
   |false=>rw[hb]at h;exact h.elim
   |true=>
    rw[hb]at h;exact l9 h fun H' e hK=>hk _ _ (fun j y hy hj=>by
     subst e;rw[dt ⟨_,hl⟩];split
     ·rename_i e;subst e;rw[hl]at hj;injection hj with hj;subst hj;cases hy
     ·exact hj) (fun j l1 t1 hj=>by
     subst e;rw[dt ⟨_,hl⟩]at hj;split at hj
     ·cases hj
     ·exact hj) hK
  ·exact h.elim
 ·exact hk _ _ (CP.refl _) (fun _ _ _ h=>h) h
omit [al]in
theorem ic: ∀{l:List (bH U)} {H:Hs U} {K K':Hs U→List (bH U)→Prop},i6 l H K→(∀H' r,CP H H'→BK H H'→K H' r→K' H' r)→i6 l H K'
 | [],H,K,K',h,hk=>hk _ _ (CP.refl _) (fun _ _ _ h=>h) h
 |x::l,H,K,K',h,hk=>by
  have h:pw H x fun H y=>i6 l H fun H r=>K H (y::r):=h;exact uG h fun H1 y c1 b1 h1=>ic (l:=l) h1 fun H2 r c2 b2 h2=>hk _ _ (c1.trans c2) (fun j l t h=>b1 j l t (b2 j l t h)) h2
theorem ma{x:Va U}{v:Value}(h:ct (Vw U X w ρ n H) x v):d9 x.ag v v.cells.toList:=by
 unfold ct at h;unfold d9;cases hag:x.ag with
 |true=>simp only[hag]at h⊢;obtain⟨vs,rfl,_⟩:=h;simp[Value.cells]
 |false=>
  simp only[hag]at h⊢;have:=h.one v (by simp);cases v<;>first|rfl|(simp[Value.oneCell']at this)
theorem yg{s:bj}{x:Va U}{K:Hs U→TT U.ty s→Prop}(h:uJ s H x K)(M:bd U X (· =w) ρ n H): ∃H' t,K H' t∧CP H H'∧bd U X (· =w) ρ n H'∧bP ρ n H w ρ n H' w∧ ∀u,ct (Vw U X w ρ n H) x u→aG U (aj ρ H'++X) (· =w) s t u.cells.toList:=by
 have h:i6 x.l H fun H l=>cQ 20 s l fun t=>K H t:=h;obtain⟨H',l',⟨h1,cp⟩,M',s',c'⟩:=fa (ic h fun H' r cp _ h=>(⟨h,cp⟩:_∧CP H H')) M;obtain⟨t,h2,ht⟩:=bt h1;exact⟨H',t,h2,cp,M',s',fun u hu=>ht _ _ _ _ _ _ (c' _ hu.cells)⟩
omit [al]in
theorem bA{a b:Bool}(h:(a==b)=true):a=b:=by simpa using h
theorem qI{d:KD U}{kv:Va U}{k:TT U.ty d.k}{u:Value}(hk:Fy P U d)(hb:(kv.ag==e8 d.k)=true)(hd: ∀vs,bK (Vw U X w ρ n H) kv.l vs→aG U (aj ρ H++X) (· =w) d.k k vs)(hv:ct (Vw U X w ρ n H) kv u):u=d.enc k∧ ∃vs,d9 (e8 d.k) (d.enc k) vs∧aG U (aj ρ H++X) (· =w) d.k k vs:=by
 obtain⟨vs,h1,h2⟩:=LD hv hb;have e:=hk.2.1 _ _ _ _ _ (hd _ h2) h1;exact⟨e,vs,e▸h1,hd _ h2⟩
theorem rS{i g:Nat}{u:Value}(h:Vw U X w ρ n H (.mp i) [u])(hA:(ρ i).A=some ⟨g,0,none⟩):u= .map (some g):=by
 obtain⟨_,_,g',hA',e⟩:=h;rw[hA]at hA';injection hA' with hA';injection hA' with hA';subst hA';simpa using e
abbrev Fa(P:Program)(nt:Nat)(U:bJ) [al](X:List Nat)(w:World)(ρ:Nat→Rz)(n:Nat)(H:Hs U)(ce:aK)(o:Oper)(K:Hs U→Prop):Prop:=il P nt U X w ρ n H ce o fun _ n' H'=>n'=n∧K H'
theorem CB(hpr:al.pr=P){t:Nat}{m kx x:Operand}{c:Cx U}{kv xv:Va U}{u0 u1 u2:Value}{K:Hs U→Prop}(h:C7 T t H c kv xv K)(ho:o.op= .mapUpdate t m kx x)(hd:o.dst=none)(hm:ce.ev m=some u0)(hkx:ce.ev kx=some u1)(hx:ce.ev x=some u2)
  (h0:Vw U X w ρ n H c [u0]) (h1:ct (Vw U X w ρ n H) kv u1) (h2:ct (Vw U X w ρ n H) xv u2) (hT:bl U P T) (M:bd U X (· =w) ρ n H):Fa P nt U X w ρ n H ce o K:=by
 unfold C7 at h;split at h
 ·rename_i i;split at h
  ·rename_i d l hl;cases hb:(tl T t d&&((kv.ag==e8 d.k)&&(xv.ag==e8 d.v)))with
   |false=>rw[hb]at h;exact h.elim
   |true=>
    rw[hb]at h;simp only[cond_true]at h;simp only[Bool.and_eq_true]at hb;have ht:=ml hb.1 hT;obtain⟨k,h,hkk⟩:=bt h;obtain⟨H',y,hK,cp,M',s',c'⟩:=yg h M;have hK:=b9 hK;have hl':=cp _ _ rfl hl;obtain⟨hkd,g,es,clock,mv,hA,hM,hD,hw⟩:=M'.ent _ (af hl');have hkd':=hkd;unfold rY at hkd';rw[hpr]at hkd';obtain⟨rfl,vs,hk1,hk2⟩:=qI hkd' hb.2.1 (fun vs hs=>hkk _ _ _ _ _ _ hs) h1;have e0:=rS h0 hA;subst e0;have hb': ∃vs,d9 (e8 d.v) u2 vs∧aG U (aj ρ H'++X) (· =w) d.v y vs:=⟨_,(bA hb.2.2)▸ma h2,c' u2 h2⟩;have hset:=aH.set (x:=k) ⟨vs,hk1,aG.mv (s'.mv (X:=X)) hk2⟩ hb' hD;refine @xz _ P nt ce o w [(some g,.map es clock)] _ _ _ d.dec d.enc (fun v:Value=>v) t d.kt d.vt g 0 clock m kx x es mv k u2 ho hd hm hkx hx ht hkd'.1 (Hp.one1 (hw w rfl)) rfl hM fun es' clock' w' hM' hp hf=>?_;have hf':Fr (dX ρ (i,(.map d l:aN U))) w w':=by
     have:ao (ρ i).A=some g:=by rw[hA];rfl
     show Fr (ao (ρ i).A).toList w w'
     rw[this];exact hf
    have hb0: ∀g',Lv (ci ρ i (ρ i)) (i,(.map d (@lh _ _ d.dec l k y):aN U)) g'→Lv ρ (i,(.map d l:aN U)) g'∨w.heap.size≤g':=fun g' h=> .inl (by rw[aP]at h;exact h);have hr0: ∀v' l' m',bc (some (.map d (@lh _ _ d.dec l k y):aN U))=some (v',l',m')→ ∃v0 l0 m,bc (some (.map d l:aN U))=some (v0,l0,m)∧v0≤v'∧(v0=v'→ρ i=ρ i∧l'=l0∧m'=m):=fun v' l' m' hr=>by cases hr
    have st:=bP.upd (n:=n) M'.xd M'.nd hl' hf' (ρ i) hb0 hr0 (fun _=>rfl);have M2:=M'.upd hl' hf' (ρ i) hb0 hr0 (fun _=>rfl) ⟨hkd,g,es',clock',_,by rw[aP];exact hA,hM',aH.mv (st.mv (X:=X)) hset,fun w2 h2=>by subst h2;exact hp.at (i:=0) rfl⟩;rw[aP]at st M2;exact⟨.un,n,_,ρ,undef,⟨rfl,hK⟩,by rw[hd];rfl,trivial,M2,s'.trans st⟩
  ·exact h.elim
 ·exact h.elim
theorem od{i g:Nat}{x y:aN U}{w':World}(M:bd U X (· =w) ρ n H)(hi:aB H i=some y)(hA:(ρ i).A=some ⟨g,0,none⟩)(hy: ∀g,Lv ρ (i,y) g↔ao (ρ i).A=some g)(hx: ∀g,Lv ρ (i,x) g→ao (ρ i).A=some g)(hr:bc (some x)=none)(hf:Fr [g] w w')
  (he:bP ρ n H w ρ n (ej H i x) w'→jQ U (aj ρ (ej H i x)++X) (· =w') ρ n (ej H i x) i x):bd U X (· =w') ρ n (ej H i x)∧bP ρ n H w ρ n (ej H i x) w':=by
 have hf':Fr (dX ρ (i,y)) w w':=hf.mono fun z hz=>eJ.2 ((hy z).2 (by rw[List.mem_singleton.1 hz,hA];rfl));have hb0: ∀g',Lv (ci ρ i (ρ i)) (i,x) g'→Lv ρ (i,y) g'∨w.heap.size≤g':=fun g' h=>by
  rw[aP]at h;exact .inl ((hy g').2 (hx g' h))
 have hr0: ∀v' l' m',bc (some x)=some (v',l',m')→ ∃v0 l0 m,bc (some y)=some (v0,l0,m)∧v0≤v'∧(v0=v'→ρ i=ρ i∧l'=l0∧m'=m):=fun v' l' m' h=>by rw[hr]at h;cases h
 have st:=bP.upd (n:=n) M.xd M.nd hi hf' (ρ i) hb0 hr0 (fun _=>rfl);rw[aP]at st;have M2:=M.upd hi hf' (ρ i) hb0 hr0 (fun _=>rfl) (by rw[aP];exact he st);rw[aP]at M2;exact⟨M2,st⟩
theorem CC(hpr:al.pr=P){t t':Nat}{m kx:Operand}{c:Cx U}{kv:Va U}{u0 u1:Value}{K:Hs U→Prop}(h:C8 T t H c kv K)(ho:o.op= .call {callee:= .builtin .delete,args:= #[m,kx],argTypes:= #[t,t']})(hd:o.dst=none)(hm:ce.ev m=some u0)(hkx:ce.ev kx=some u1)
  (h0:Vw U X w ρ n H c [u0]) (h1:ct (Vw U X w ρ n H) kv u1) (hT:bl U P T) (M:bd U X (· =w) ρ n H):Fa P nt U X w ρ n H ce o K:=by
 unfold C8 at h;split at h
 ·rename_i i;split at h
  ·rename_i d l hl;cases hb:(tl T t d&&(kv.ag==e8 d.k))with
   |false=>rw[hb]at h;exact h.elim
   |true=>
    rw[hb]at h;simp only[cond_true]at h;simp only[Bool.and_eq_true]at hb;have ht:=ml hb.1 hT;obtain⟨k,h,hkk⟩:=bt h;have hK:=b9 h;obtain⟨hkd,g,es,clock,mv,hA,hM,hD,hw⟩:=M.ent _ (af hl);have hkd':=hkd;unfold rY at hkd';rw[hpr]at hkd';obtain⟨rfl,vs,hk1,hk2⟩:=qI hkd' hb.2 (fun vs hs=>hkk _ _ _ _ _ _ hs) h1;have e0:=rS h0 hA;subst e0;refine @nW _ P nt ce o w _ _ _ d.enc (fun v:Value=>v) es mv d.dec t t' d.kt d.vt g clock m kx k ho hd hm hkx ht hkd'.1 (hw w rfl) hM fun es' w' hM' _ hp hf=>?_;obtain⟨M2,st⟩:=od (x:= .map d (@fz _ _ d.dec l k)) M hl hA (fun _=>Iff.rfl) (fun _ h=>h) rfl hf fun st=>⟨hkd,g,es',clock,_,hA,hM',aH.mv (st.mv (X:=X)) hD.del,fun w2 h2=>by subst h2;exact hp⟩;exact⟨.un,n,_,ρ,undef,⟨rfl,hK⟩,by rw[hd];rfl,trivial,M2,st⟩
  ·rename_i d l left cur gh hl;cases hb:(tl T t d&&(kv.ag==e8 d.k))with
   |false=>rw[hb]at h;exact h.elim
   |true=>
    rw[hb]at h;simp only[cond_true]at h;simp only[Bool.and_eq_true]at hb;have ht:=ml hb.1 hT;obtain⟨k,h,hkk⟩:=bt h;have hK:=b9 h;obtain⟨hkd,g,es,clock,mv,lv,cv,hA,hM,hD,hL,hC,hw⟩:=M.ent _ (af hl);have hkd':=hkd;unfold rY at hkd';rw[hpr]at hkd';obtain⟨rfl,vs,hk1,hk2⟩:=qI hkd' hb.2 (fun vs hs=>hkk _ _ _ _ _ _ hs) h1;have e0:=rS h0 hA;subst e0;refine @nW _ P nt ce o w _ _ _ d.enc (fun v:Value=>v) es mv d.dec t t' d.kt d.vt g clock m kx k ho hd hm hkx ht hkd'.1 (hw w rfl) hM.ok fun es' w' _ hR hp hf=>?_;obtain⟨M2,st⟩:=od (x:= .mapr d (@fz _ _ d.dec l k) (@fz _ _ d.dec left k) [] gh) M hl hA (fun _=>Iff.rfl) (fun _ h=>h) rfl hf fun st=>⟨hkd,g,es',clock,_,_,[],hA,hR _ _ _ hM,aH.mv (st.mv (X:=X)) hD.del,aH.mv (st.mv (X:=X)) hL.del,trivial,fun w2 h2=>by subst h2;exact hp⟩;exact⟨.un,n,_,ρ,undef,⟨rfl,hK⟩,by rw[hd];rfl,trivial,M2,st⟩
  ·exact h.elim
 ·exact h.elim
theorem CD{t:Nat}{x:Operand}{c:Cx U}{u0:Value}{K:Hs U→Prop}(h:C9 T t H n c K)(ho:o.op= .range t x){dd:Nat}(hd:o.dst=some dd)(hn:Nat.blt dd nt=true)(hx:ce.ev x=some u0)(h0:Vw U X w ρ n H c [u0])(hT:bl U P T)(M:bd U X (· =w) ρ n H):
  il P nt U X w ρ n H ce o fun av n' H'=>av= .v ⟨false,[(1,.ptr n 0)]⟩∧n'=n+1∧K H':=by
 unfold C9 at h;split at h
 ·rename_i i;split at h
  ·rename_i d l hl;cases hb:tl T t d with
   |false=>rw[hb]at h;exact h.elim
   |true=>
    rw[hb]at h;simp only[cond_true]at h;have ht:=ml hb hT;obtain⟨hkd,g,es,clock,mv,hA,hM,hD,hw⟩:=M.ent _ (af hl);have e0:=rS h0 hA;subst e0;refine xi ho hd hn hx ht (hw w rfl) hM fun r w' gh hR hr hf hsz=>?_;have hK:=b9 (h gh);have hin:=M.lt _ (af hl);have hni: ¬n=i:=by have:i<n:=hin;omega
    have hb0: ∀g',Lv (ci ρ n (rz (some ⟨r,0,none⟩) 0)) (n,(.it i gh:aN U)) g'→w.heap.size≤g':=fun g' h=>by
     have h:ao (ci ρ n (rz (some ⟨r,0,none⟩) 0) n).A=some g':=h;rw[aO]at h;injection h with h;subst h;exact hsz
    have st:=bP.push (ρ:=ρ) M.xd M.lt hf (rz (some ⟨r,0,none⟩) 0) (.it i gh:aN U) hb0;have hl':aB ((n,(.it i gh:aN U))::H) i=some (.map d l):=by unfold aB;rw[cn hni];exact hl
    have M1:=M.push hf _ _ hb0 ⟨r,g,by rw[aO],by rw[fF hni];exact hA,Nat.lt_succ_of_lt hin,by rw[hl'];rfl,fun w2 h2=>by subst h2;exact hr⟩;have hA':(ci ρ n (rz (some ⟨r,0,none⟩) 0) i).A=some ⟨g,0,none⟩:=by rw[fF hni];exact hA
    have hbk:w'.heap[g]? =some (.map es clock):=by rw[hf.block g (bR (hw w rfl)) (by simp)];exact hw w rfl
    obtain⟨M2,st2⟩:=od (x:= .mapr d l l [] gh) M1 hl' hA' (fun _=>Iff.rfl) (fun _ h=>h) rfl ((Fr.refl [] w').mono (by simp)) fun st2=>⟨hkd,g,es,clock,mv,mv,[],hA',hR,aH.mv ((st.trans st2).mv (X:=X)) hD,aH.mv ((st.trans st2).mv (X:=X)) hD,trivial,fun w2 h2=>by subst h2;exact hbk⟩;have eH:ej ((n,(.it i gh:aN U))::H) i (.mapr d l l [] gh)=(n,.it i gh)::ej H i (.mapr d l l [] gh):=by
     show(bif Nat.beq n i then _ else _)=_
     rw[cn hni];rfl
    rw[eH]at M2 st2;refine⟨_,n+1,_,_,_,⟨rfl,rfl,hK⟩,aK.dstS hd _,eD ⟨Nat.lt_succ_self _,by rw[ow];rfl,r,by rw[aO],rfl⟩,M2,st.trans st2⟩
  ·exact h.elim
 ·rename_i s;obtain⟨k,hK,hk⟩:=eK h hT;cases hs:jI k with
  |false=>rw[hs]at hK;exact hK.elim
  |true=>
   rw[hs]at hK;simp only[cond_true]at hK;obtain⟨rfl,hl⟩:=aG.strE h0;refine wX ho hd hn hx (jR hs hk) (Hp.nil w) fun r w' hp hf hsz=>?_;have hr:w'.heap[r]? =some (.stringIter ⟨s.toArray⟩ 0):=hp.at (i:=0) rfl;have hb0: ∀g',Lv (ci ρ n (rz (some ⟨r,0,none⟩) 0)) (n,(.its s 0:aN U)) g'→w.heap.size≤g':=fun g' h=>by
    have h:ao (ci ρ n (rz (some ⟨r,0,none⟩) 0) n).A=some g':=h;rw[aO]at h;injection h with h;subst h;exact hsz
   have st:=bP.push (ρ:=ρ) M.xd M.lt hf (rz (some ⟨r,0,none⟩) 0) (.its s 0:aN U) hb0;have M1:=M.push hf _ _ hb0 ⟨Int.le_refl _,hl,r,by rw[aO],fun w2 h2=>by subst h2;exact hr⟩;exact⟨_,n+1,_,_,_,⟨rfl,rfl,hK⟩,aK.dstS hd _,eD ⟨Nat.lt_succ_self _,by rw[ow];rfl,r,by rw[aO],rfl⟩,M1,st⟩
 ·exact h.elim
theorem CE{x:Operand}{c:Cx U}{u0:Value}{K:AV U→Hs U→Prop}(h:Da H c K)(ho:o.op= .next x false){dd:Nat}(hd:o.dst=some dd)(hn:Nat.blt dd nt=true)(hx:ce.ev x=some u0)(h0:Vw U X w ρ n H c [u0])(M:bd U X (· =w) ρ n H):
  il P nt U X w ρ n H ce o fun av n' H'=>n'=n∧K av H':=by
 unfold Da at h;split at h
 ·rename_i j;split at h
  ·rename_i i gh hj;split at h
   ·rename_i d l left cur gh' hi;obtain⟨rfl,h2,h3⟩:=h;obtain⟨r,g,hA,hA2,hk,hrk,hwr⟩:=M.ent _ (af hj);obtain⟨hkd,g',es,clock,mv,lv,cv,hA3,hM,hD,hL,hC,hw⟩:=M.ent _ (af hi);rw[hA2]at hA3;injection hA3 with hA3;injection hA3 with hA3;subst hA3;have e0:u0= .pointer (some ⟨r,0,none⟩):=by
     obtain⟨_,_,g',hA',e⟩:=h0;rw[hA]at hA';injection hA' with hA';injection hA' with hA';subst hA';simpa using e
    subst e0;have hij: ¬j=i:=by rintro rfl;rw[hj]at hi;cases hi
    have hrg:r≠g:=by
     rintro rfl;exact hij (M.inj (j,.it i gh) (af hj) (i,.mapr d l left cur gh) (af hi) r (show ao (ρ j).A=some r by rw[hA];rfl) (show ao (ρ i).A=some r by rw[hA2];rfl))
    have hup: ∀y:aN U,aB (ej H j y) i=some (.mapr d l left cur gh):=fun y=>by rw[dt ⟨_,hj⟩,if_neg hij];exact hi
    refine AU ho hd hn hx (hwr w rfl) (hw w rfl) hM (fun e=>?_) (fun a p b gh2 w' e hR hr2 hf=>?_)
    ·subst e;have el:left= []:=List.eq_nil_of_length_eq_zero (by rw[hL.len];rfl);have hK:=b9 (b9 (h2 el));obtain⟨M1,mF⟩:=od (x:= .dead) M hj hA (fun _=>Iff.rfl) (fun _ h=>h.elim) rfl ((Fr.refl [] w).mono (by simp)) fun _=>trivial;obtain⟨M2,st2⟩:=od (x:= .map d l) M1 (hup _) hA2 (fun _=>Iff.rfl) (fun _ h=>h) rfl ((Fr.refl [] w).mono (by simp)) fun st2=>⟨hkd,g,es,clock,mv,hA2,hM.ok,aH.mv ((mF.trans st2).mv (X:=X)) hD,fun w2 h2=>by subst h2;exact hw _ rfl⟩;exact⟨_,n,_,ρ,_,⟨rfl,hK⟩,aK.dstS hd _,⟨[_],rfl,_,[],rfl,g9,rfl⟩,M2,mF.trans st2⟩
    ·subst e;obtain⟨a',p',b',e,e2,e5,e3,e4⟩:=hL.part;have hK:=b9 (b9 (h3 a' p' b' e gh2));have hbk:w'.heap[g]? =some (.map es clock):=by rw[hf.block g (bR (hw w rfl)) (by simpa using Ne.symm hrg)];exact hw w rfl
     obtain⟨M1,mF⟩:=od (x:= .it i gh2) M hj hA (fun _=>Iff.rfl) (fun _ h=>h) rfl hf fun st=>⟨r,g,hA,hA2,hk,by rw[hup];rfl,fun w2 h2=>by subst h2;exact hr2⟩;obtain⟨ks,k1,k2⟩:=e5;obtain⟨vs,v1,v2⟩:=e3;obtain⟨M2,st2⟩:=od (x:= .mapr d l (a'++b') [p'] gh2) M1 (hup _) hA2 (fun _=>Iff.rfl) (fun _ h=>h) rfl ((Fr.refl [] w').mono (by simp)) fun st2=>⟨hkd,g,es,clock,mv,_,[p],hA2,hR,aH.mv ((mF.trans st2).mv (X:=X)) hD,aH.mv ((mF.trans st2).mv (X:=X)) e4,⟨e2,⟨ks,k1,aG.mv ((mF.trans st2).mv (X:=X)) k2⟩,⟨vs,v1,aG.mv ((mF.trans st2).mv (X:=X)) v2⟩,trivial⟩,fun w2 h2=>by subst h2;exact hbk⟩;have mm:=(mF.trans st2).mv (X:=X);refine⟨_,n,_,ρ,_,⟨rfl,hK⟩,aK.dstS hd _,⟨[_,_,_],rfl,_,_,rfl,g9,_,_,rfl,iK (e2▸k1) (aG.mv mm k2),_,_,rfl,iK v1 (aG.mv mm v2),rfl⟩,M2,mF.trans st2⟩
   ·exact h.elim
  ·exact h.elim
 ·exact h.elim
theorem yh(s:List UInt8)(p:Int):cZ .i32 (jd s p):=by
 have h:(Utf8.decode ⟨s.toArray⟩ p.toNat).1≤2147483647:=by
  have hb: ∀k,(ByteArray.get! ⟨s.toArray⟩ k).toNat<256:=fun k=>UInt8.toNat_lt _;unfold Utf8.decode Utf8.runeError;simp only;have h0:=hb (p.toNat+0);have h1:=hb (p.toNat+1);have h2:=hb (p.toNat+2);have h3:=hb (p.toNat+3)
  repeat' split
  all_goals first|omega|(simp only;omega)
 unfold jd cZ;omega
theorem CF{x:Operand}{c:Cx U}{u0:Value}{K:AV U→Hs U→Prop}(h:Db H c K)(ho:o.op= .next x true){dd:Nat}(hd:o.dst=some dd)(hn:Nat.blt dd nt=true)(hx:ce.ev x=some u0)(h0:Vw U X w ρ n H c [u0])(M:bd U X (· =w) ρ n H):
  il P nt U X w ρ n H ce o fun av n' H'=>n'=n∧K av H':=by
 unfold Db at h;split at h
 ·rename_i j;split at h
  ·rename_i s p hj;obtain⟨qG,hl,r,hA,hwr⟩:=M.ent _ (af hj);have e0:u0= .pointer (some ⟨r,0,none⟩):=by
    obtain⟨_,_,g',hA',e⟩:=h0;rw[hA]at hA';injection hA' with hA';injection hA' with hA';subst hA';simpa using e
   subst e0;refine Az ho hd hn hx (Hp.one1 (hwr w rfl)) (ir:=0) rfl qG (fun hc=>?_) (fun w' hc hp hf=>?_)
   ·have hK:=b9 (h.2 (by simpa using hc));obtain⟨M1,mF⟩:=od (x:= .dead) M hj hA (fun _=>Iff.rfl) (fun _ h=>h.elim) rfl ((Fr.refl [] w).mono (by simp)) fun _=>trivial;exact⟨_,n,_,ρ,_,⟨rfl,hK⟩,aK.dstS hd _,⟨[_],rfl,_,[],rfl,g9,rfl⟩,M1,mF⟩
   ·have hK:=b9 (h.1 (by simpa using hc));have hw:=dO s p;have hr:w'.heap[r]? =some (.stringIter ⟨s.toArray⟩ (p+eC s p).toNat):=hp.at (i:=0) rfl;obtain⟨M1,mF⟩:=od (x:= .its s (p+eC s p)) M hj hA (fun _=>Iff.rfl) (fun _ h=>h) rfl hf fun st=>⟨by omega,hl,r,hA,fun w2 h2=>by subst h2;exact hr⟩;exact⟨_,n,_,ρ,_,⟨rfl,hK⟩,aK.dstS hd _,⟨[_,_,_],rfl,_,_,rfl,g9,_,_,rfl,lK (by simp only[cZ];omega),_,_,rfl,lK (yh s p),rfl⟩,M1,mF⟩
  ·exact h.elim
 ·exact h.elim
end
end Go.Proofs.YtfgofabojepcmaaGreatDoor.V
end

section
set_option linter.unusedVariables false
set_option linter.unusedSectionVars false
set_option linter.unusedSimpArgs false
namespace Go.Proofs.YtfgofabojepcmaaGreatDoor.V
open Go.RowKit
theorem mq{w:World}{g:Nat}{o:Obj}(h:w.heap[g]? =some o):Hp w [(some g,o)]:=by
 refine⟨fun i g' o' hi=>?_,fun i j g' o1 o2 hi hj=>?_⟩
 ·cases i with
  |zero=>simp at hi;rw[←hi.1,←hi.2];exact h
  |succ i=>simp at hi
 ·cases i with
  |zero=>cases j with
   |zero=>rfl
   |succ j=>simp at hj
  |succ i=>simp at hi
theorem qG{w:World}(o:Obj):Hp w [(none,o)]:=by
 refine⟨fun i g' o' hi=>?_,fun i j g' o1 o2 hi hj=>?_⟩
 ·cases i<;>simp at hi
 ·cases i<;>simp at hi
theorem jq{α:Type}{cs sp us:List α}{a m off:Nat}(h1:a+m≤cs.length)(h2:off+us.length≤m):
  (cs++sp).take (a+off)++us++(cs++sp).drop (a+off+us.length)=(cs.take a++(((cs.drop a).take m).take off++us++((cs.drop a).take m).drop (off+us.length))++cs.drop (a+m))++sp:=by
 have e1:(cs++sp).take (a+off)=cs.take a++((cs.drop a).take m).take off:=by
  rw[List.take_append_of_le_length (by omega),List.take_take,Nat.min_eq_left (by omega),←List.take_add]
 have e2:(cs++sp).drop (a+off+us.length)=((cs.drop a).take m).drop (off+us.length)++cs.drop (a+m)++sp:=by
  rw[List.drop_append_of_le_length (by omega)];have h3:cs.drop (a+off+us.length)=((cs.drop a).take m).drop (off+us.length)++cs.drop (a+m):=by
   rw[List.drop_take,List.drop_drop,←Nat.add_assoc];have:cs.drop (a+m)=(cs.drop (a+off+us.length)).drop (m -(off+us.length)):=by rw[List.drop_drop];congr 1;omega
   rw[this,List.take_append_drop]
  rw[h3]
 rw[e1,e2];simp only[List.append_assoc]
section
variable [bF] [al] {U:bJ} {P:Program} {nt:Nat} {T:cH U} {X:List Nat} {w:World} {ρ:Nat→Rz} {n:Nat} {H:Hs U} {R e:En U} {ce:aK} {o:Oper}
theorem vB{t:Nat}{xo yo:Operand}{x:Cx U}{y:Va U}{u0 u:Value}{K:Hs U→Prop}(h:qM T t H x y K)(ho:o.op= .store t xo yo)(hd:o.dst=none)(hx:ce.ev xo=some u0)(hy:ce.ev yo=some u)(hu0:Vw U X w ρ n H x [u0])(hu:ct (Vw U X w ρ n H) y u)(hT:bl U P T)(M:bd U X (· =w) ρ n H):
  il P nt U X w ρ n H ce o fun _ n' H'=>n'=n∧K H':=by
 unfold qM at h;split at h
 ·rename_i ti hti;have hsz:=(hT _ _ hti).size;split at h
  ·rename_i i off;split at h
   ·rename_i l ty hl;cases hb:Nat.beq (gI y.l) ti.sz with
    |false=>rw[hb]at h;exact h.elim
    |true=>
     rw[hb]at h;simp only[cond_true]at h;have hb:=Nat.eq_of_beq_eq_true hb;obtain⟨l',hK,hs'⟩:=gJ h;have hK:=b9 hK;obtain⟨g,vs,hA,hs,hw⟩:=M.ent _ (af hl);have hc:=hu.cells;have hcl:=hc.len;obtain⟨a1,a2⟩:=hs' _ _ _ _ _ _ _ hs hc (by omega);obtain⟨hi,hr,g',hA',e1⟩:=hu0;rw[hA]at hA';injection hA' with hA';injection hA' with hA';subst hA';injection e1 with e1;subst e1;refine fY (vs:=u.cells.toList) (i:=0) ho hd hx hy rfl (by rw[hcl,hb];exact hsz) hc.one (mq (hw w rfl)) rfl a2 fun w' hp hf _=>?_;have hblk:w'.heap[g]? =some (Cl (vs.take off++u.cells.toList++vs.drop (off+u.cells.toList.length)) ty):=hp.at (i:=0) rfl;have hf':Fr (dX ρ (i,(.cells l ty:aN U))) w w':=by
      unfold dX;simp only[hA];exact hf
     have hb0: ∀g',Lv (ci ρ i (ρ i)) (i,(.cells l' ty:aN U)) g'→Lv ρ (i,(.cells l ty:aN U)) g'∨w.heap.size≤g':=fun g' h=>by rw[aP]at h;exact .inl h
     have st:=bP.upd (n:=n) M.xd M.nd hl hf' (ρ i) hb0 (fun v' l' m' hr=>by cases hr) (fun _=>rfl);rw[aP]at st;have M':=M.upd hl hf' (ρ i) hb0 (fun v' l' m' hr=>by cases hr) (fun _=>rfl) (by
      rw[aP];exact⟨g,_,hA,a1.imp fun _ _ h=>h.step st,fun w2 h2=>by subst h2;exact hblk⟩)
     rw[aP]at M';exact⟨.un,n,_,ρ,undef,⟨rfl,hK⟩,by rw[hd];rfl,trivial,M',st⟩
   ·exact h.elim
  ·rename_i i v q off;obtain⟨H1,yl,h,M1,s1,c1⟩:=fa h M;split at h
   ·rename_i v' s xs ty hl;cases hb:(Nat.beq v v'&&Nat.beq (gI yl) ti.sz)with
    |false=>rw[hb]at h;exact h.elim
    |true=>
     rw[hb]at h;simp only[Bool.and_eq_true]at hb;simp only[cond_true]at h;have hvv:=Nat.eq_of_beq_eq_true hb.1;have hb2:=Nat.eq_of_beq_eq_true hb.2;subst hvv;obtain⟨x0,h,hix⟩:=gl h;obtain⟨l',h,hs'⟩:=gJ h;obtain⟨z,h,hz⟩:=bt h;have hK:=b9 h;obtain⟨hm,cs,sp,hd1,how,hw⟩:=M1.ent _ (af hl);have hc:=c1 _ hu.cells;have hcl:=hc.len;obtain⟨hi,a,e1,hn⟩:=aV.step s1 hu0;obtain⟨g,hA,ha,hq0,hq1⟩:=(hn _ _ _ (by rw[hl];rfl)).2 rfl;injection e1 with e1;subst e1;subst ha;have hql:q.toNat<xs.length:=by omega
     have hxq:=hix _ (List.getElem?_eq_getElem hql);have hat:=hd1.at q.toNat _ (List.getElem?_eq_getElem hql);rw[←hxq]at hat;have hatl:=hat.length;obtain⟨a1,a2⟩:=hs' (aj ρ H1++X) (· =w) ρ n H1 _ _ ⟨_,[],(List.append_nil _).symm,hatl,hat,rfl⟩ hc (by omega);rw[hatl]at a2;have hdz:=hz _ _ _ _ _ _ a1;have hmul:=lQ (m:=aS U s) hql;have hcsl:=hd1.length;have hdzl:=hdz.length;have hset:=hd1.set q.toNat z _ hdz hql;have sp0:=jq (cs:=cs) (sp:= []) (us:=u.cells.toList) (a:=q.toNat*aS U s) (m:=aS U s) (off:=off) (by omega) a2;simp only[List.append_nil]at sp0;rw[hdzl,←sp0]at hset;refine fY (vs:=u.cells.toList) (i:=0) ho hd hx hy rfl (by rw[hcl,hb2];exact hsz) hc.one (mq (hw g (by rw[hA];rfl) w rfl)) rfl (by rw[List.length_append];omega) fun w' hp hf _=>?_;have hblk:w'.heap[g]? =some (Cl ((cs++sp).take (q.toNat*aS U s+off)++u.cells.toList++(cs++sp).drop (q.toNat*aS U s+off+u.cells.toList.length)) ty):=hp.at (i:=0) rfl;have esp:(cs++sp).take (q.toNat*aS U s+off)++u.cells.toList++(cs++sp).drop (q.toNat*aS U s+off+u.cells.toList.length)=(cs.take (q.toNat*aS U s+off)++u.cells.toList++cs.drop (q.toNat*aS U s+off+u.cells.toList.length))++sp:=by
      rw[List.take_append_of_le_length (by omega),List.drop_append_of_le_length (by omega)];simp only[List.append_assoc]
     rw[esp]at hblk;have hf':Fr (dX ρ (i,(.row v s xs ty:aN U))) w w':=by
      unfold dX;simp only[hA];exact hf
     have hb0: ∀g',Lv (ci ρ i (ρ i)) (i,(.row v s (xs.set q.toNat z) ty:aN U)) g'→Lv ρ (i,(.row v s xs ty:aN U)) g'∨w.heap.size≤g':=fun g' h=>by rw[aP]at h;exact .inl h
     have hr0: ∀v' l' m',bc (some (.row v s (xs.set q.toNat z) ty:aN U))=some (v',l',m')→ ∃v0 l m,bc (some (.row v s xs ty:aN U))=some (v0,l,m)∧v0≤v'∧(v0=v'→ρ i=ρ i∧l'=l∧m'=m):=fun v' l' m' hr=>⟨v',l',m',by rw[←hr];simp only[bc,List.length_set],Nat.le_refl _,fun _=>⟨rfl,rfl,rfl⟩⟩;have st:=bP.upd (n:=n) M1.xd M1.nd hl hf' (ρ i) hb0 hr0 (fun _=>rfl);rw[aP]at st;have hsl:(cs.take (q.toNat*aS U s+off)++u.cells.toList++cs.drop (q.toNat*aS U s+off+u.cells.toList.length)).length=cs.length:=by
      rw[List.length_append,List.length_append,List.length_take,List.length_drop];omega
     have M':=M1.upd hl hf' (ρ i) hb0 hr0 (fun _=>rfl) (by
      rw[aP];refine⟨hm,_,sp,ba.mv (st.mv (X:=X)) hset,⟨?_,?_⟩,fun g' hg' w2 h2=>?_⟩
      ·rw[hsl,List.length_set];exact how.1
      ·rcases how.2 with⟨h0,_⟩|⟨g1,h3,h4,h5⟩
       ·rw[hA]at h0;cases h0
       ·refine .inr ⟨g1,h3,?_,by rw[List.length_set];exact h5⟩;rw[List.length_append,hsl,←List.length_append];exact h4
      ·subst h2;rw[hA]at hg';injection hg' with hg';subst hg';exact hblk)
     rw[aP]at M';exact⟨.un,n,_,ρ,undef,⟨rfl,hK⟩,by rw[hd];rfl,trivial,M',s1.trans st⟩
   ·exact h.elim
  ·rename_i i off k s q o';obtain⟨H1,yl,h,M1,s1,c1⟩:=fa h M;split at h
   ·rename_i l ty hl;cases hb:Nat.beq (gI yl) ti.sz with
    |false=>rw[hb]at h;exact h.elim
    |true=>
     rw[hb]at h;simp only[cond_true]at h;have hb2:=Nat.eq_of_beq_eq_true hb;obtain⟨la,h,hla⟩:=dM h;obtain⟨(xs:List (TT U.ty s)),h,hxs⟩:=bt h;obtain⟨x0,h,hix⟩:=gl h;obtain⟨l1,h,hs1⟩:=gJ h;obtain⟨z,h,hz⟩:=bt h;obtain⟨l',h,hs2⟩:=gJ h;have hK:=b9 h;obtain⟨g,vs,hA,hs,hw⟩:=M1.ent _ (af hl);have hc:=c1 _ hu.cells;have hcl:=hc.len;obtain⟨hi,hr,hq0,hq1,g',hA',e1⟩:=aV.step s1 hu0;rw[hA]at hA';injection hA' with hA';injection hA' with hA';subst hA';injection e1 with e1;subst e1;obtain⟨b1,b2⟩:=hla _ _ _ _ _ _ hs;obtain⟨hd1,hd2⟩:=aG.inv (hxs _ _ _ _ _ _ b1);have hd2:xs.length=k:=hd2;have hql:q.toNat<xs.length:=by omega
     have hxq:=hix _ (List.getElem?_eq_getElem hql);have hat:=hd1.at q.toNat _ (List.getElem?_eq_getElem hql);rw[←hxq]at hat;have hatl:=hat.length;obtain⟨a1,a2⟩:=hs1 (aj ρ H1++X) (· =w) ρ n H1 _ _ ⟨_,[],(List.append_nil _).symm,hatl,hat,rfl⟩ hc (by omega);rw[hatl]at a2;have hdz:=hz _ _ _ _ _ _ a1;have hmul:=lQ (m:=aS U s) hql;have hcsl:=hd1.length;rw[hd2]at hcsl hmul;have hdzl:=hdz.length;have hset:=hd1.set q.toNat z _ hdz hql;have sp0:=jq (cs:=(vs.drop off).take (k*aS U s)) (sp:= []) (us:=u.cells.toList) (a:=q.toNat*aS U s) (m:=aS U s) (off:=o') (by omega) a2;simp only[List.append_nil]at sp0;rw[hdzl,←sp0]at hset;have hden:=aG.arr (U:=U) k s (xs.set q.toNat z) _ hset (by rw[List.length_set];exact hd2);have hdl:_=k*aS U s:=hden.length;obtain⟨d1,d2⟩:=hs2 (aj ρ H1++X) (· =w) ρ n H1 _ _ hs ⟨_,[],(List.append_nil _).symm,hdl,hden,rfl⟩ hdl;have e5:=jq (cs:=vs) (sp:= []) (us:=u.cells.toList) (a:=off) (m:=k*aS U s) (off:=q.toNat*aS U s+o') b2 (by omega);simp only[List.append_nil,←Nat.add_assoc]at e5;rw[hdl,←e5]at d1;refine fY (vs:=u.cells.toList) (i:=0) ho hd hx hy rfl (by rw[hcl,hb2];exact hsz) hc.one (mq (hw w rfl)) rfl (by omega) fun w' hp hf _=>?_;have hblk:w'.heap[g]? =some (Cl (vs.take (off+q.toNat*aS U s+o')++u.cells.toList++vs.drop (off+q.toNat*aS U s+o'+u.cells.toList.length)) ty):=hp.at (i:=0) rfl;have hf':Fr (dX ρ (i,(.cells l ty:aN U))) w w':=by
      unfold dX;simp only[hA];exact hf
     have hb0: ∀g',Lv (ci ρ i (ρ i)) (i,(.cells l' ty:aN U)) g'→Lv ρ (i,(.cells l ty:aN U)) g'∨w.heap.size≤g':=fun g' h=>by rw[aP]at h;exact .inl h
     have st:=bP.upd (n:=n) M1.xd M1.nd hl hf' (ρ i) hb0 (fun v' l' m' hr=>by cases hr) (fun _=>rfl);rw[aP]at st;have M':=M1.upd hl hf' (ρ i) hb0 (fun v' l' m' hr=>by cases hr) (fun _=>rfl) (by
      rw[aP];exact⟨g,_,hA,d1.imp fun _ _ h=>h.step st,fun w2 h2=>by subst h2;exact hblk⟩)
     rw[aP]at M';exact⟨.un,n,_,ρ,undef,⟨rfl,hK⟩,by rw[hd];rfl,trivial,M',s1.trans st⟩
   ·exact h.elim
  ·exact h.elim
 ·exact h.elim
end
end Go.Proofs.YtfgofabojepcmaaGreatDoor.V
end

section
set_option linter.unusedVariables false
set_option linter.unusedSectionVars false
set_option linter.unusedSimpArgs false
namespace Go.Proofs.YtfgofabojepcmaaGreatDoor.V
open Go.RowKit
theorem nN{m:Nat}{pls:List (Nat×Nat)}: ∀(us:List Value) (j:Nat) (pre rest:List Value),(∀i,j≤i→i<j+us.length→pls[i]? =some (i*m,m))→(∀v∈us,v.cells.toList.length=m)→pre.length=j*m→rest.length=us.length*m→
  jk pls (pre++rest) ((List.range' j us.length).zip us)=some (pre++us.flatMap (·.cells.toList))
 | [],j,pre,rest,_,_,_,hr=>by
  have:rest= []:=List.eq_nil_of_length_eq_zero (by simpa using hr);subst this;simp[jk]
 |v::us,j,pre,rest,hp,hm,hpre,hr=>by
  simp only[List.length_cons,List.range'_succ,List.zip_cons_cons,jk];rw[hp j (Nat.le_refl _) (by simp)];have hv:=hm v (by simp);have hrl:rest.length=us.length*m+m:=by rw[hr,List.length_cons,Nat.add_mul,Nat.one_mul]
  have b1:Nat.beq v.cells.toList.length m=true:=by rw[hv];exact Nat.beq_refl m
  have b2:Nat.ble (j*m+m) (pre++rest).length=true:=Nat.ble_eq_true_of_le (by rw[List.length_append];omega);simp only[b1,b2,Bool.and_self,cond_true];have e:(pre++rest).take (j*m)++(v.cells.toList++(pre++rest).drop (j*m+m))=(pre++v.cells.toList)++rest.drop m:=by
   rw[←hpre,List.take_left,List.drop_append,List.drop_of_length_le (by omega),List.nil_append,Nat.add_sub_cancel_left,List.append_assoc]
  rw[e,nN us (j+1) (pre++v.cells.toList) (rest.drop m) (fun i h1 h2=>hp i (by omega) (by simp only[List.length_cons];omega)) (fun u hu=>hm u (by simp[hu])) (by rw[List.length_append,hpre,hv,Nat.add_mul,Nat.one_mul]) (by rw[List.length_drop];omega)];simp
section
variable [bF] [al] {U:bJ} {P:Program} {nt:Nat} {T:cH U} {X:List Nat} {w:World} {ρ:Nat→Rz} {n:Nat} {H:Hs U} {R e:En U} {ce:aK} {o:Oper} {K:aK→World→Prop}
omit [al]in
theorem vC{t el m k:Nat}{ps:List (Nat×Operand)}{vs z:List Value}(ho:o.op= .buildSlice t k ps.toArray){d:Nat}(hd:o.dst=some d)(hn:Nat.blt d nt=true)(hx:ce.evs (ps.map (·.2))=some vs)(hp:ps.map (·.1)=List.range' 0 vs.length)(hk:k=vs.length)(ht:bn P t=some (el,m))(hz:zeroCells P el=some z)
  (hlen:k*m≤1000) (h1: ∀v∈vs,v.cells.toList.length=m)
  (hK: ∀g w',w'.heap[g]? =some (Cl (vs.flatMap (·.cells.toList)) el)→Fr [] w w'→w.heap.size≤g→K ((d,(.slice (some ⟨g,0,none⟩) k k))::ce) w'):cd P nt ce w o K:=by
 obtain⟨hu,hs⟩:=cP ht;unfold zeroCells at hz;cases hq:P.info? el with
 |none=>simp[hq]at hz
 |some inf=>
  cases hzz:inf.zero with
  |none=>simp[hq,hzz]at hz
  |some z0=>
   refine fX hd hn (v:= .slice (some ⟨w.heap.size,0,none⟩) k k) (w':=w.alloc (.cells (vs.flatMap (·.cells.toList)).toArray el)) (fun a r=>?_) (hK _ _ (heap_alloc_new w _) (Fr.alloc w _) (Nat.le_refl _));have hparts:(ps.toArray.map fun(i,x)=>(i,a.eval x)).toList=(List.range' 0 vs.length).zip vs:=by
    rw[←hp,←r.evals hx];simp only[List.map_toArray,List.map_map];clear ho hx hp h1 hK hk;induction ps with
    |nil=>rfl
    |cons p ps ih=>obtain⟨i,x⟩:=p;simpa using ih
   have hfill: ∀zs:Array Value,zs.size=k*m→Instr.fill (fun i=>some (i*m,m)) zs ((List.range' 0 vs.length).zip vs)=some (vs.flatMap (·.cells.toList)).toArray:=fun zs hzs=>by
    have hpl: ∀i,0≤i→i<0+vs.length→((List.range vs.length).map fun i=>(i*m,m))[i]? =some (i*m,m):=fun i _ hi=>by
     rw[List.getElem?_map,List.getElem?_range (by omega)];rfl
    have hL:=nN (m:=m) vs 0 [] zs.toList hpl h1 (by simp) (by simp[hzs,hk]);simp only[List.nil_append]at hL;have hF:=fb _ _ _ _ hL;rw[Array.toArray_toList]at hF;rw[←hF];refine mX _ _ _ _ fun q hq=>?_;have:q.1<vs.length:=by
     have:=(List.of_mem_zip hq).1;rw[List.mem_range'_1]at this;omega
    have h2:=hpl q.1 (Nat.zero_le _) (by omega);simp only[List.getElem?_toArray];rw[h2]
   have hrun:=sV (P:=P) (w:=w) (t:=t) (e:=el) (len:=k) (ps.toArray.map fun(i,x)=>(i,a.eval x)) hu hs (by omega) z0 (by simp[zeroValue,typeInfo,hq,hzz]) _ (by rw[hparts];exact hfill _ (by simp));unfold execOp;simp only[ho,Sem.run_bind,hrun,Result.andThen_ok];rfl
theorem sd{s:bj}{k:Nat}: ∀{ps:List (Nat×Operand)} {j:Nat} {H:Hs U} {K:Hs U→List (TT U.ty s)→Prop},yp [] R e s k ps j H K→bd U X (· =w) ρ n H→aM (Vw U X w ρ n H) R e ce→
  ∃H' xs,K H' xs∧bd U X (· =w) ρ n H'∧bP ρ n H w ρ n H' w∧ ∃vs,ce.evs (ps.map (·.2))=some vs∧ps.map (·.1)=List.range' j vs.length∧k=j+vs.length∧xs.length=vs.length∧ba U (aj ρ H'++X) (· =w) s xs (vs.flatMap (·.cells.toList))∧ ∀v∈vs,v.cells.toList.length=aS U s
 | [],j,H,K,h,M,he=>by
  have h:(bif Nat.beq j k then K H []else False):=h;cases hb:Nat.beq j k with
  |false=>rw[hb]at h;exact h.elim
  |true=>
   rw[hb]at h;have:=Nat.eq_of_beq_eq_true hb;exact⟨H,[],h,M,M.stp0,[],rfl,rfl,by simp[this],rfl,.nil s,by simp⟩
 |(i,x)::ps,j,H,K,h,M,he=>by
  have h:(bif Nat.beq i j then jH [] R e x fun y=>uJ s H y fun H a=>yp [] R e s k ps (j+1) H fun H r=>K H (a::r)else False):=h;cases hb:Nat.beq i j with
  |false=>rw[hb]at h;exact h.elim
  |true=>
   rw[hb]at h;simp only[cond_true]at h;have hij:=Nat.eq_of_beq_eq_true hb;subst hij;obtain⟨y,h,hy⟩:=c8 h he;obtain⟨v,e1,hv⟩:=hy (fun x hx=>by cases hx);obtain⟨H1,t,h,M1,s1,hd⟩:=jp h M;obtain⟨H2,xs,h,M2,s2,vs,e2,e3,e4,e5,e6,e7⟩:=sd (ps:=ps) h M1 (he.step s1);have hd1:=aG.mv (s2.mv (X:=X)) (hd v hv);refine⟨H2,t::xs,h,M2,s1.trans s2,v::vs,?_,?_,?_,?_,?_,?_⟩
   ·simp only[List.map_cons,aK.evs,e1,e2]
   ·simp only[List.map_cons,e3,List.length_cons,List.range'_succ]
   ·rw[List.length_cons];omega
   ·rw[List.length_cons,List.length_cons,e5]
   ·rw[List.flatMap_cons];exact .cons s t xs _ _ hd1 hd1.length e6
   ·intro u hu;rcases List.mem_cons.1 hu with rfl|hu
    ·exact hd1.length
    ·exact e7 u hu
theorem ox{s:bj}{xs:List (TT U.ty s)}{el:Nat}{A:Option Addr}{c:Nat}{cs sp:List Value}{w':World}{Ka:AV U→Nat→Hs U→Prop}(hK:Ka (.v ⟨false,[(1,.own n 0)]⟩) (n+1) ((n,.row 0 s xs el)::H)){d:Nat}(hd:o.dst=some d)(M:bd U X (· =w) ρ n H)(hf:Fr [] w w')
  (hm:0<aS U s) (hden:ba U (aj ρ H++X) (· =w) s xs cs) (how:Ow A xs.length c (aS U s) cs sp) (hblk: ∀g,ao A=some g→w'.heap[g]? =some (Cl (cs++sp) el)) (hg: ∀g,ao A=some g→w.heap.size≤g):
  ∃av n' H' ρ' cv,Ka av n' H'∧((d,(.slice A xs.length c:Value))::ce)=ce.dst o.dst cv∧jg (Vw U X w' ρ' n' H') av cv∧bd U X (· =w') ρ' n' H'∧bP ρ n H w ρ' n' H' w':=by
 have hb: ∀g',Lv (ci ρ n (rz A c)) (n,(.row 0 s xs el:aN U)) g'→w.heap.size≤g':=fun g' h=>hg g' (jV h);have st:=bP.push (ρ:=ρ) M.xd M.lt hf (rz A c) (.row 0 s xs el:aN U) hb;refine⟨_,_,_,ci ρ n (rz A c),_,hK,aK.dstS hd _,?_,M.push hf _ _ hb ⟨hm,cs,sp,ba.mv (st.mv (X:=X)) hden,by rw[aO];exact how,fun g h w2 h2=>by subst h2;rw[aO]at h;exact hblk g h⟩,st⟩;refine eD ⟨Nat.lt_succ_self _,_,_,_,rfl,fun v' l m hr=>?_⟩;rw[ow]at hr;injection hr with hr;injection hr with h1 hr;injection hr with h2 h3;subst h1;subst h2;subst h3;exact⟨Nat.le_refl _,fun _=>⟨by rw[aO],rfl,by rw[aO]⟩⟩
theorem DD{s:bj}{t k el:Nat}{ei:TI U}{ps:List (Nat×Operand)}{Ka:AV U→Nat→Hs U→Prop}(h:yp [] R e s k ps 0 H fun H l=>Ka (.v ⟨false,[(1,.own n 0)]⟩) (n+1) ((n,.row 0 s l el)::H)){d:Nat}(ho:o.op= .buildSlice t k ps.toArray)(hd:o.dst=some d)(hn:Nat.blt d nt=true)
  (hes:bn P t=some (el,ei.sz)) (hei:bT U P el ei) (hsz:ei.sz=aS U s) (hm:0<aS U s) (hbig:k*aS U s≤1000) (M:bd U X (· =w) ρ n H) (he:aM (Vw U X w ρ n H) R e ce):il P nt U X w ρ n H ce o Ka:=by
 obtain⟨H1,xs,hK,M1,s1,vs,e1,e2,e3,e4,e5,e6⟩:=sd h M he;obtain⟨zs,hz,_,_⟩:=hei.zero;have e3:k=vs.length:=by omega
 refine vC ho hd hn e1 e2 e3 (by rw[←hsz];exact hes) hz hbig e6 fun g w' hblk hf hg=>?_;have hkx:k=xs.length:=by omega
 rw[hkx];have:=ox (ce:=ce) (o:=o) (A:=some ⟨g,0,none⟩) (c:=xs.length) (sp:= []) hK hd M1 hf hm e5 ⟨e5.length,.inr ⟨g,rfl,by rw[List.append_nil];exact e5.length,Nat.le_refl _,by
  have:xs.length*1≤xs.length*aS U s:=Nat.mul_le_mul_left _ hm;rw[hkx]at hbig;unfold maxLen;omega⟩⟩ (fun g' h=>by rw[tC]at h;injection h with h;subst h;rw[List.append_nil];exact hblk) (fun g' h=>by rw[tC]at h;injection h with h;subst h;exact hg)
 obtain⟨av,n',H',ρ',cv,a1,a2,a3,a4,a5⟩:=this;exact⟨av,n',H',ρ',cv,a1,a2,a3,a4,s1.trans a5⟩
omit [al]in
theorem oy{Y:List Nat}{S:World→Prop}{s:bj}{z:TT U.ty s}{zs:List Value}(hz:aG U Y S s z zs): ∀k:Nat,ba U Y S s (List.replicate k z) (List.replicate k zs).flatten
 |0=> .nil s
 |k+1=>by rw[List.replicate_succ,List.replicate_succ,List.flatten_cons];exact .cons s z _ zs _ hz hz.length (oy hz k)
omit [al]in
theorem vD{s:bj}{ei:TI U}(h:EX U s ei=true):ei.sz=aS U s∧0<aS U s∧0<ei.by_:=by
 unfold EX at h;simp only[Bool.and_eq_true,Nat.blt_eq]at h;exact⟨Nat.eq_of_beq_eq_true h.1.1,h.1.2,h.2⟩
theorem DE{t:Nat}{q r:Int}{xo yo:Operand}{k1 k2:IntKind}{Ka:AV U→Nat→Hs U→Prop}(h:Fk T t H n q r Ka){d:Nat}(ho:o.op= .makeSlice t xo yo)(hd:o.dst=some d)(hn:Nat.blt d nt=true)(hx:ce.ev xo=some (.int k1 q))(hy:ce.ev yo=some (.int k2 r))(hT:bl U P T)(M:bd U X (· =w) ρ n H):il P nt U X w ρ n H ce o Ka:=by
 obtain⟨el,ei,h,hu,hes,hei⟩:=kT h hT;split at h
 ·rename_i s hsh;cases hb:EX U s ei with
  |false=>rw[hb]at h;exact h.elim
  |true=>
   rw[hb]at h;simp only[cond_true]at h;obtain⟨h1,h2,h3⟩:=vD hb;obtain⟨z,h,hz⟩:=bt h;obtain⟨⟨q0,q1,q2,q3⟩,hK⟩:=h;obtain⟨zs,hzc,hzl,hzs⟩:=hei.zero;have hdz:=hz _ _ _ _ _ _ (hzs _ (aj ρ H++X) (· =w) ρ n H);obtain⟨a,rfl⟩:=Int.eq_ofNat_of_zero_le q0;obtain⟨b,rfl⟩:=Int.eq_ofNat_of_zero_le (show 0≤r by omega);simp only[Int.toNat_natCast]at hK q3;refine Eo (l:=a) (c:=b) ho hd hn hx hy hes hzc hzl hei.by_ (by omega) (by omega) (by omega) (Hp.nil w) fun g w' hp hf hg=>?_;have hblk:w'.heap[g]? =some (Cl (List.replicate b zs).flatten el):=hp.at (i:=0) rfl;have hd1:=oy hdz a;have hl1:=hd1.length;have hl2:=(oy hdz b).length;have esp:(List.replicate b zs).flatten=(List.replicate a zs).flatten++(List.replicate (b - a) zs).flatten:=by
    rw[←List.flatten_append,List.replicate_append_replicate,show a+(b - a)=b by omega]
   rw[esp]at hblk;have:=ox (ce:=ce) (o:=o) (A:=some ⟨g,0,none⟩) (c:=b) (sp:=(List.replicate (b - a) zs).flatten) hK hd M hf h2 hd1 ⟨hl1,.inr ⟨g,rfl,by rw[←esp,hl2,List.length_replicate],by rw[List.length_replicate];omega,by unfold maxLen;omega⟩⟩ (fun g' h=>by rw[tC]at h;injection h with h;subst h;exact hblk) (fun g' h=>by rw[tC]at h;injection h with h;subst h;exact hg);rw[List.length_replicate]at this;exact this
 ·exact h.elim
theorem za{s:bj}{y:Cx U}{K:List (TT U.ty s)→Prop}(h:C6 s H y K)(M:bd U X (· =w) ρ n H): ∃ys,K ys∧ ∀u,Vw U X w ρ n H y [u]→ ∃B c cs,u= .slice B ys.length c∧ba U (aj ρ H++X) (· =w) s ys cs∧(∀ad,B=some ad→ ∀j u,cs[j]? =some u→w.cell? (ad.add j)=some u)∧(B=none→ys.length=0):=by
 unfold C6 at h;split at h
 ·refine⟨[],h,fun u hu=>?_⟩;have e: [u]= [Value.slice none 0 0]:=hu;injection e with e;subst e;exact⟨none,0,[],rfl,.nil s,fun ad h=>by(cases h),fun _=>rfl⟩
 ·obtain⟨s',ys,hK,hv⟩:=oo h M ⟨w,rfl⟩;split at hK
  ·rename_i ys' hc;obtain⟨g1,g2⟩:=df _ _ _ _ _ hc;subst g1;have g2:ys=ys':=eq_of_heq g2;subst g2;refine⟨ys,hK,fun u hu=>?_⟩;obtain⟨A,c,cs,e,hd,hr⟩:=hv _ hu;injection e with e;exact⟨A,c,cs,e,hd,fun ad hA j u hj=>hr.src w rfl ad hA j u hj,hr.none_⟩
  ·exact hK.elim
theorem DF{t:Nat}{x y:Cx U}{xo yo:Operand}{u0 u1:Value}{Ka:AV U→Nat→Hs U→Prop}(h:Fj T t H n x y Ka){d:Nat}(ho:o.op= .call {callee:= .builtin .append,args:= #[xo,yo],argTypes:= #[t,t]})(hd:o.dst=some d)(hn:Nat.blt d nt=true)(hx:ce.ev xo=some u0)(hy:ce.ev yo=some u1)(hu0:Vw U X w ρ n H x [u0])(hu1:Vw U X w ρ n H y [u1])(hT:bl U P T)(M:bd U X (· =w) ρ n H):il P nt U X w ρ n H ce o Ka:=by
 obtain⟨el,ei,h,hu,hes,hei⟩:=kT h hT;split at h
 ·rename_i s hsh;cases hb:EX U s ei with
  |false=>rw[hb]at h;exact h.elim
  |true=>
   rw[hb]at h;simp only[cond_true]at h;obtain⟨h1,h2,h3⟩:=vD hb;obtain⟨ys,kk,hys⟩:=za h M;clear h;obtain⟨B,cB,ds,rfl,hdy,hsrc,hB⟩:=hys u1 hu1;obtain⟨zs,hzc,hzl,_⟩:=hei.zero;have hdyl:=hdy.length;split at kk
   ·obtain⟨hP,hK⟩:=kk;have e0: [u0]= [Value.slice none 0 0]:=hu0;injection e0 with e0;subst e0;have hbig:ys.length≤140737488355328:=Nat.le_trans (Nat.le_mul_of_pos_right _ h3) hP;refine kE (i:=0) (xs:= []) (sp:= []) (news:=ds) ho rfl hd hn hx hy hes hzc hzl hei.by_ (by omega) (Ow.nil _) (qG _) rfl (by rw[h1];exact hdyl) hsrc hB hdy.one (by unfold maxLen;omega) (by rw[Nat.zero_add];exact hP) fun A' c' sp' w' how hp hf hg=>?_;rw[Nat.zero_add]at how⊢;rw[List.nil_append]at how hp;rw[h1]at how;exact ox hK hd M (by simpa[ao]using hf) h2 hdy how (fun g hg=>hp.at (i:=0) (by rw[hg];rfl)) (fun g hg'=>by rcases hg g hg' with h|h;(· cases h);exact h)
   ·rename_i i v;split at kk
    ·rename_i v' s' xs u hl;cases hbb:(Nat.beq v v'&&Nat.beq u el)with
     |false=>rw[hbb]at kk;exact kk.elim
     |true=>
      rw[hbb]at kk;simp only[cond_true]at kk;simp only[Bool.and_eq_true]at hbb;have hvv:=Nat.eq_of_beq_eq_true hbb.1;have huel:=Nat.eq_of_beq_eq_true hbb.2;subst hvv;subst huel;cases hc:ed U.ty List s' s xs with
      |none=>rw[hc]at kk;exact kk.elim
      |some xs'=>
       rw[hc]at kk;obtain⟨g1,g2⟩:=df _ _ _ _ _ hc;have g1:=g1.symm;subst g1;have g2:xs=xs':=eq_of_heq g2;subst g2;obtain⟨hP,kk⟩:=kk;have hK:=b9 kk;obtain⟨hm,cs,sp,hdx,how0,hw⟩:=M.ent _ (af hl);obtain⟨hi,A,l,c,e1,hnow⟩:=hu0;injection e1 with e1;subst e1;obtain⟨rfl,rfl,rfl⟩:=(hnow _ _ _ (by rw[hl];rfl)).2 rfl;have hbig:xs.length+ys.length≤140737488355328:=Nat.le_trans (Nat.le_mul_of_pos_right _ h3) hP;have hHp:Hp w [(ao (ρ i).A,Cl (cs++sp) u)]:=by
        cases hA:ao (ρ i).A with
        |none=>exact qG _
        |some g=>exact mq (hw g hA w rfl)
       refine kE (i:=0) (xs:=cs) (sp:=sp) (news:=ds) ho rfl hd hn hx hy hes hzc hzl hei.by_ (by omega) (by rw[h1];exact how0) hHp rfl (by rw[h1];exact hdyl) hsrc hB hdy.one (by unfold maxLen;omega) hP fun A' c' sp' w' how hp hf hg=>?_;have hb0: ∀g',Lv (ci ρ i (rz A' c')) (i,(.row (v+1) s (xs++ys) u:aN U)) g'→Lv ρ (i,(.row v s xs u:aN U)) g'∨w.heap.size≤g':=fun g' h=>hg g' (jV h);have hr0: ∀v' l' m',bc (some (.row (v+1) s (xs++ys) u:aN U))=some (v',l',m')→ ∃v0 l m,bc (some (.row v s xs u:aN U))=some (v0,l,m)∧v0≤v'∧(v0=v'→(rz A' c')=ρ i∧l'=l∧m'=m):=fun v' l' m' hr=>by
        injection hr with hr;injection hr with g1 hr;subst g1;exact⟨v,_,_,rfl,Nat.le_succ _,fun h=>by omega⟩
       have st:=bP.upd (n:=n) M.xd M.nd hl hf (rz A' c') hb0 hr0 (fun h=>by cases h);have hden:=hdx.app hdy;have M':=M.upd hl hf (rz A' c') hb0 hr0 (fun h=>by cases h) (by
        refine⟨hm,_,sp',ba.mv (st.mv (X:=X)) hden,?_,fun g hg' w2 h2=>?_⟩
        ·rw[aO,List.length_append,←h1];exact how
        ·subst h2;rw[aO]at hg';exact hp.at (i:=0) (by rw[hg'];rfl))
       refine⟨_,_,_,_,_,hK,aK.dstS hd _,?_,M',st⟩;refine eD ⟨hi,_,_,_,rfl,fun v' l m hr=>?_⟩;rw[dt ⟨_,hl⟩,if_pos rfl]at hr;injection hr with hr;injection hr with g1 hr;injection hr with g2 g3;subst g1;subst g2;subst g3;exact⟨Nat.le_refl _,fun _=>⟨by rw[aO],by rw[List.length_append],by rw[aO]⟩⟩
    ·exact kk.elim
   ·exact kk.elim
 ·exact h.elim
end
end Go.Proofs.YtfgofabojepcmaaGreatDoor.V
end

section
set_option linter.unusedVariables false
set_option linter.unusedSimpArgs false
namespace Go.Proofs.YtfgofabojepcmaaGreatDoor.V
open Go.RowKit
def aJ{U:bJ}:Nat→List (aN U)→Hs U
 |_,[]=> []
 |j,x::r=>(j,x)::aJ (j+1) r
section
variable [F:al] {U:bJ} {P:Program} {nt:Nat} {T:cH U} {X:List Nat} {w w':World} {ρ:Nat→Rz} {n:Nat} {H:Hs U} {R e:En U} {ce:aK} {o:Oper} {L:List Nat} {z:Bool} {Yc:List Nat}
omit [al]in
theorem se: ∀{es:List (aN U)} {j0 j:Nat},j0≤j→aB (aJ j0 es) j=es[j - j0]?
 | [],j0,j,h=>by simp[aJ,aB]
 |x::r,j0,j,h=>by
  unfold aJ aB;by_cases e:j0=j
  ·subst e;rw[Nat.beq_refl,Nat.sub_self];rfl
  ·rw[cn e,show j - j0=(j -(j0+1))+1 by omega];simp only[cond_false,List.getElem?_cons_succ];exact se (by omega)
omit [al]in
theorem dJ{es:List (aN U)}{j:Nat}:aB (aJ 0 es) j=es[j]? :=by have:=se (es:=es) (Nat.zero_le j);rwa [Nat.sub_zero]at this
omit [al]in
theorem mr: ∀{es:List (aN U)} {j0:Nat},(aJ j0 es).map (·.1)=List.range' j0 es.length
 | [],j0=>rfl
 |x::r,j0=>by simp[aJ,mr (es:=r),List.range'_succ]
omit [al]in
theorem du{es:List (aN U)}{p:Nat×aN U}:p∈aJ 0 es↔es[p.1]? =some p.2:=by
 have nd:((aJ 0 es).map (·.1)).Nodup:=by rw[mr];exact List.nodup_range'
 constructor
 ·intro h;rw[←dJ];exact cM nd h
 ·intro h;rw[←dJ]at h;exact af h
def fm(ρ:Nat→Rz)(L:List Nat):Nat→Rz:=fun j=>match L[j]? with
 |some i=>ρ i
 |none=>(rz none 0)
omit [al]in
theorem bQ{j i:Nat}(h:L[j]? =some i):fm ρ L j=ρ i:=by unfold fm;rw[h]
def zv(z:Bool)(v:Nat):Nat:=bif z then 0 else v
omit [al]in
theorem pT{v:Nat}{K:Nat→Prop}(h:zV z v K):K (zv z v):=by cases z<;>exact h
structure gX(z:Bool)(H:Hs U)(L:List Nat)(es:List (aN U)):Prop where
 len:es.length=L.length
 at_: ∀(j i:Nat),L[j]? =some i→ ∃x y,aB H i=some x∧es[j]? =some y∧(∀v' l m,bc (some y)=some (v',l,m)→ ∃v,bc (some x)=some (v,l,m)∧v'=zv z v)∧(bc (some x)=none→bc (some y)=none)
abbrev Vc(U:bJ)(Yc:List Nat)(w:World)(ρ:Nat→Rz)(L:List Nat)(es:List (aN U)):Cx U→List Value→Prop:=aV U Yc (· =w) (fm ρ L) es.length (aJ 0 es)
omit [al]in
theorem gM{i:Nat}: ∀{L:List Nat} {c:Nat} {K:Nat→Prop},oh L i c K→ ∃j,K (c+j)∧L[j]? =some i
 | [],c,K,h=>h.elim
 |a::L,c,K,h=>by
  have h:(bif Nat.beq a i then K c else oh L i (c+1) K):=h;cases hb:Nat.beq a i with
  |true=>rw[hb]at h;exact⟨0,h,by rw[Nat.eq_of_beq_eq_true hb];rfl⟩
  |false=>
   rw[hb]at h;obtain⟨j,h1,h2⟩:=gM (L:=L) h;exact⟨j+1,by rw[show c+(j+1)=c+1+j by omega];exact h1,by simpa using h2⟩
omit [al]in
theorem bC{α:Type}{l:List α}{j:Nat}{x:α}(h:l[j]? =some x):j<l.length:=(List.getElem?_eq_some_iff.1 h).1
omit [al]in
structure qY(U:bJ)(F0:al)(X:List Nat)(w:World)(ρ:Nat→Rz)(n:Nat)(H:Hs U):Prop where
 nd:(H.map (·.1)).Nodup
 lt: ∀p∈H,p.1<n
 ent: ∀p∈H, @jQ F0 U (aj ρ H++X) (· =w) ρ n H p.1 p.2
 inj: ∀p∈H,∀q∈H,∀g,Lv ρ p g→Lv ρ q g→p.1=q.1
 dj: ∀g∈aj ρ H,g∉X
 lo: ∀x∈X,x<w.heap.size
 xs: ∀x∈F0.xf,x∈X
 gv: @pJ F0 (· =w)
 olt: ∀p∈H,∀g,Lv ρ p g→g<w.heap.size
omit [al]in
structure IT{U:bJ}(ρ:Nat→Rz)(n:Nat)(H:Hs U)(w:World)(ρ':Nat→Rz)(n':Nat)(H':Hs U)(w':World):Prop where
 nn:n≤n'
 fr:Fr (aj ρ H) w w'
 nb: ∀g∈aj ρ' H',g∈aj ρ H∨w.heap.size≤g
 row: ∀i,i<n→ ∀v' l' m',bc (aB H' i)=some (v',l',m')→ ∃v l m,bc (aB H i)=some (v,l,m)∧v≤v'∧(v=v'→ρ' i=ρ i∧l'=l∧m'=m)
 cel: ∀i,i<n→bc (aB H i)=none→ρ' i=ρ i
omit [al]in
theorem bP.i{F0:al}{ρ':Nat→Rz}{n':Nat}{H':Hs U}(s: @bP F0 U ρ n H w ρ' n' H' w'):IT ρ n H w ρ' n' H' w':=⟨s.nn,s.fr,s.nb,s.row,s.cel⟩
omit [al]in
theorem bd.i{F0:al}(M: @bd F0 U X (· =w) ρ n H):qY U F0 X w ρ n H:=⟨M.nd,M.lt,M.ent,M.inj,M.dj,M.lo w rfl,M.xs,M.gv,cN M⟩
omit [al]in
theorem zb{x:Cx U}{K:Cx U→Prop}(h:qN z H L x K){F0:al} [F:al](M:qY U F0 X w ρ n H): ∃y,K y∧ ∀es Yc,(∀y∈Yc,y∈aj ρ H++X)→gX z H L es→ ∀vs,Vw U X w ρ n H x vs→Vc U Yc w ρ L es y vs:=by
 have mvY: ∀Yc:List Nat,(∀y∈Yc,y∈aj ρ H++X)→Mv (aj ρ H++X) (· =w) Yc (· =w):=fun Yc hY w2 h2=>⟨w2,[],h2,Fr.refl _ _,fun _ h=>(by cases h),fun y hy=> .inl (hY y hy)⟩;cases x with
 |own i v=>
  unfold qN at h;simp only at h;split at h
  ·rename_i v' s xs t hl;cases hb:Nat.beq v v' with
   |false=>
    rw[hb]at h;exact⟨.un,h,fun es Yc hY _ vs hv=>by obtain⟨_,A,l,c,e,_⟩:=hv;exact⟨_,e,rfl⟩⟩
   |true=>
    rw[hb]at h;have hvv:=Nat.eq_of_beq_eq_true hb;subst hvv;obtain⟨j,h,hj⟩:=gM h;have h:=pT h;rw[Nat.zero_add]at h;refine⟨_,h,fun es Yc hY he vs hv=>?_⟩;obtain⟨hi,A,l,c,e,hn⟩:=hv;obtain⟨x',y',hx',hy',hr1,hr2⟩:=he.at_ j i hj;refine⟨bC hy',A,l,c,e,fun v' l' m' hr=>?_⟩;rw[dJ,hy']at hr;obtain⟨v0,h1,h2⟩:=hr1 _ _ _ hr;rw[←hx']at h1;obtain⟨a1,a2⟩:=hn _ _ _ h1;rw[hl]at h1;injection h1 with h1;injection h1 with h1 _;subst h1;rw[h2,bQ hj];exact⟨Nat.le_refl _,fun _=>a2 rfl⟩
  ·rename_i v' s xs hl;cases hb:Nat.beq v v' with
   |false=>
    rw[hb]at h;exact⟨.un,h,fun es Yc hY _ vs hv=>by obtain⟨_,A,l,c,e,_⟩:=hv;exact⟨_,e,rfl⟩⟩
   |true=>
    rw[hb]at h;have hvv:=Nat.eq_of_beq_eq_true hb;subst hvv;refine⟨_,h,fun es Yc hY he vs hv=>?_⟩;obtain⟨hi,A,l,c,e,hn⟩:=hv;obtain⟨rfl,rfl,rfl⟩:=(hn _ _ _ (by rw[hl];rfl)).2 rfl;obtain⟨hm,cs,hd,hrd,h1,h2⟩:=M.ent _ (af hl);subst e;exact aG.mv (mvY Yc hY) (aG.sl s xs _ _ cs hd hrd h1 h2)
  ·rename_i v' d xs hl;cases hb:Nat.beq v v' with
   |false=>
    rw[hb]at h;exact⟨.un,h,fun es Yc hY _ vs hv=>by obtain⟨_,A,l,c,e,_⟩:=hv;exact⟨_,e,rfl⟩⟩
   |true=>
    rw[hb]at h;have hvv:=Nat.eq_of_beq_eq_true hb;subst hvv;obtain⟨j,h,hj⟩:=gM h;have h:=pT h;rw[Nat.zero_add]at h;refine⟨_,h,fun es Yc hY he vs hv=>?_⟩;obtain⟨hi,A,l,c,e,hn⟩:=hv;obtain⟨x',y',hx',hy',hr1,hr2⟩:=he.at_ j i hj;refine⟨bC hy',A,l,c,e,fun v' l' m' hr=>?_⟩;rw[dJ,hy']at hr;obtain⟨v0,h1,h2⟩:=hr1 _ _ _ hr;rw[←hx']at h1;obtain⟨a1,a2⟩:=hn _ _ _ h1;rw[hl]at h1;injection h1 with h1;injection h1 with h1 _;subst h1;rw[h2,bQ hj];exact⟨Nat.le_refl _,fun _=>a2 rfl⟩
  ·exact⟨.un,h,fun es Yc hY _ vs hv=>by obtain⟨_,A,l,c,e,_⟩:=hv;exact⟨_,e,rfl⟩⟩
 |ptr i off=>
  unfold qN at h;simp only at h;obtain⟨j,h,hj⟩:=gM h;rw[Nat.zero_add]at h;refine⟨_,h,fun es Yc hY he vs hv=>?_⟩;obtain⟨hi,hr,g,hA,e⟩:=hv;obtain⟨x',y',hx',hy',hr1,hr2⟩:=he.at_ j i hj;exact⟨bC hy',by rw[dJ,hy'];exact hr2 (by rw[←hx'];exact hr),g,by rw[bQ hj];exact hA,e⟩
 |pel i v q off=>
  unfold qN at h;simp only at h;split at h
  ·rename_i v' s xs t hl;cases hb:Nat.beq v v' with
   |false=>
    rw[hb]at h;exact⟨.un,h,fun es Yc hY _ vs hv=>by obtain⟨_,a,e,_⟩:=hv;exact⟨_,e,rfl⟩⟩
   |true=>
    rw[hb]at h;have hvv:=Nat.eq_of_beq_eq_true hb;subst hvv;obtain⟨j,h,hj⟩:=gM h;have h:=pT h;rw[Nat.zero_add]at h;refine⟨_,h,fun es Yc hY he vs hv=>?_⟩;obtain⟨hi,a,e,hn⟩:=hv;obtain⟨x',y',hx',hy',hr1,hr2⟩:=he.at_ j i hj;refine⟨bC hy',a,e,fun v' l' m' hr=>?_⟩;rw[dJ,hy']at hr;obtain⟨v0,h1,h2⟩:=hr1 _ _ _ hr;rw[←hx']at h1;obtain⟨a1,a2⟩:=hn _ _ _ h1;rw[hl]at h1;injection h1 with h1;injection h1 with h1 _;subst h1;rw[h2,bQ hj];exact⟨Nat.le_refl _,fun _=>a2 rfl⟩
  ·exact⟨.un,h,fun es Yc hY _ vs hv=>by obtain⟨_,a,e,_⟩:=hv;exact⟨_,e,rfl⟩⟩
 |pax i off k s q o=>exact⟨.un,h,fun es Yc hY _ vs hv=>by obtain⟨_,_,_,_,g,_,e⟩:=hv;exact⟨_,e,rfl⟩⟩
 |clo f js=>
  match js,h with
  | [],h=>exact⟨.un,h,fun es Yc hY _ vs hv=>⟨_,hv.1,rfl⟩⟩
  |_::_::_,h=>exact⟨.un,h,fun es Yc hY _ vs hv=>⟨_,hv.1,rfl⟩⟩
  |i:: [],h=>
   have h:oh L i 0 fun j=>K (.clo f [j]):=h;obtain⟨j,h,hj⟩:=gM h;rw[Nat.zero_add]at h;refine⟨_,h,fun es Yc hY he vs hv=>?_⟩;obtain⟨e,hall⟩:=hv;obtain⟨hi,hr,g,hA⟩:=hall i (by simp);obtain⟨x',y',hx',hy',hr1,hr2⟩:=he.at_ j i hj;exact⟨by rw[e];simp[bQ hj],fun k hk=>by
    have hk:=List.mem_singleton.1 hk;subst hk;exact⟨bC hy',by rw[dJ,hy'];exact hr2 (by rw[←hx'];exact hr),g,by rw[bQ hj];exact hA⟩⟩
 |f1 a g=>exact⟨_,h,fun es Yc hY _ vs hv=>by obtain⟨u,e,hf⟩:=hv;exact⟨u,e,hf.mv (mvY Yc hY)⟩⟩
 |f2 a b g=>exact⟨_,h,fun es Yc hY _ vs hv=>by obtain⟨u,e,hf⟩:=hv;exact⟨u,e,hf.mv (mvY Yc hY)⟩⟩
 |mp i=>
  unfold qN at h;simp only at h;obtain⟨j,h,hj⟩:=gM h;rw[Nat.zero_add]at h;refine⟨_,h,fun es Yc hY he vs hv=>?_⟩;obtain⟨hi,hr,g,hA,e⟩:=hv;obtain⟨x',y',hx',hy',hr1,hr2⟩:=he.at_ j i hj;exact⟨bC hy',by rw[dJ,hy'];exact hr2 (by rw[←hx'];exact hr),g,by rw[bQ hj];exact hA,e⟩
 |ifp i=>exact⟨.un,h,fun es Yc hY _ vs hv=>by obtain⟨_,_,g,_,e⟩:=hv;exact⟨_,e,rfl⟩⟩
 |bnd f s t=>exact⟨_,h,fun es Yc hY _ vs hv=>by obtain⟨u,e,hd⟩:=hv;exact⟨u,e,aG.mv (mvY Yc hY) hd⟩⟩
 |d s t=>exact⟨_,h,fun es Yc hY _ vs hv=>aG.mv (mvY Yc hY) hv⟩
 |pd s t=>exact⟨_,h,fun es Yc hY _ vs hv=>by obtain⟨g,b,us,e,hd,hr⟩:=hv;exact⟨g,b,us,e,aG.mv (mvY Yc hY) hd,hr.mv (mvY Yc hY)⟩⟩
 |nilp=>exact⟨_,h,fun es Yc hY _ vs hv=>hv⟩
 |nils=>exact⟨_,h,fun es Yc hY _ vs hv=>hv⟩
 |nilf=>exact⟨_,h,fun es Yc hY _ vs hv=>hv⟩
 |nilm=>exact⟨_,h,fun es Yc hY _ vs hv=>hv⟩
 |fn f=>exact⟨_,h,fun es Yc hY _ vs hv=>hv⟩
 |un=>exact⟨_,h,fun es Yc hY _ vs hv=>hv⟩
omit [al]in
theorem iL{F0:al} [F:al](M:qY U F0 X w ρ n H): ∀{l:List (bH U)} {K:List (bH U)→Prop},lI z H L l K→ ∃l',K l'∧ ∀es Yc,(∀y∈Yc,y∈aj ρ H++X)→gX z H L es→ ∀vs,bK (Vw U X w ρ n H) l vs→bK (Vc U Yc w ρ L es) l' vs
 | [],K,h=>⟨[],h,fun _ _ _ _ _ hs=>hs⟩
 |(k,x)::l,K,h=>by
  have h:qN z H L x fun y=>lI z H L l fun r=>K ((k,y)::r):=h;obtain⟨y,h,hy⟩:=zb h M;obtain⟨l',h,hl⟩:=iL M (l:=l) h;refine⟨_,h,fun es Yc hY he vs hs=>?_⟩;obtain⟨v1,v2,e,hk,hx,hr⟩:=hs;exact⟨v1,v2,e,hk,hy es Yc hY he _ hx,hl es Yc hY he _ hr⟩
omit [al]in
theorem mt{F0:al} [F:al](M:qY U F0 X w ρ n H): ∀{l:List (Va U)} {K:List (Va U)→Prop},pH z H L l K→ ∃l',K l'∧ ∀es Yc,(∀y∈Yc,y∈aj ρ H++X)→gX z H L es→ ∀vs,bB (Vw U X w ρ n H) l vs→bB (Vc U Yc w ρ L es) l' vs
 | [],K,h=>⟨[],h,fun _ _ _ _ _ hs=>hs⟩
 |x::l,K,h=>by
  have h:lI z H L x.l fun l1=>pH z H L l fun r=>K (⟨x.ag,l1⟩::r):=h;obtain⟨l1,h,h1⟩:=iL M h;obtain⟨l',h,hl⟩:=mt M (l:=l) h;refine⟨_,h,fun es Yc hY he vs hs=>?_⟩;obtain⟨v,us,e,hx,hr⟩:=hs;refine⟨v,us,e,?_,hl es Yc hY he _ hr⟩;unfold ct at hx⊢;cases hag:x.ag with
  |true=>simp only[hag]at hx⊢;obtain⟨vs',e',hs'⟩:=hx;exact⟨vs',e',h1 es Yc hY he _ hs'⟩
  |false=>simp only[hag]at hx⊢;exact h1 es Yc hY he _ hx
def mu(U:bJ)(X:List Nat)(w:World)(ρ:Nat→Rz)(n:Nat)(H:Hs U)(z:Bool)(L:List Nat)(x y:aN U):Prop:=match x with
 | .cells l t=> ∃l',y= .cells l' t∧ ∀es Yc,(∀y∈Yc,y∈aj ρ H++X)→gX z H L es→ ∀vs,bK (Vw U X w ρ n H) l vs→bK (Vc U Yc w ρ L es) l' vs
 | .row v s xs t=>y= .row (zv z v) s xs t
 | .map d l=>y= .map d l
 | .mapr d l _ _ _=>y= .map d l
 | .ext v d xs none=>y= .ext (zv z v) d xs none
 |_=>y= .dead
omit [al]in
theorem zd{F0:al} [F:al](M:qY U F0 X w ρ n H){x:aN U}{K:aN U→Prop}(h:C3 z H L x K): ∃y,K y∧mu U X w ρ n H z L x y:=by
 cases x with
 |cells l t=>
  obtain⟨l',h,hl⟩:=iL M (show lI z H L l _ from h);exact⟨_,h,l',rfl,hl⟩
 |row v s xs t=>
  have h:zV z v fun v=>K (.row v s xs t):=h;exact⟨_,pT h,rfl⟩
 |frz v s xs=>exact⟨_,h,rfl⟩
 |map d l=>exact⟨_,h,rfl⟩
 |mapr d l r q g=>exact⟨_,h,rfl⟩
 |it i g=>exact⟨_,h,rfl⟩
 |its i g=>exact⟨_,h,rfl⟩
 |ext v d xs op=>cases op with
  |none=>
   have h:zV z v fun v=>K (.ext v d xs none):=h;exact⟨_,pT h,rfl⟩
  |some o=>exact⟨_,h,rfl⟩
 |clo f l=>exact⟨_,h,rfl⟩
 |hid v l m=>exact⟨_,h,rfl⟩
 |dead=>exact⟨_,h,rfl⟩
theorem mu.row{x y:aN U}(h:mu U X w ρ n H z L x y):(∀v' l m,bc (some y)=some (v',l,m)→ ∃v,bc (some x)=some (v,l,m)∧v'=zv z v)∧(bc (some x)=none→bc (some y)=none):=by
 cases x with
 |cells l t=>obtain⟨l',rfl,_⟩:=h;exact⟨fun _ _ _ h=>(by cases h),fun _=>rfl⟩
 |row v s xs t=>
  rw[show y=_ from h];refine⟨fun v' l m hr=>?_,fun hr=>by cases hr⟩;injection hr with hr;injection hr with h1 hr;exact⟨v,by rw[←hr];rfl,h1.symm⟩
 |ext v d xs op=>cases op with
  |none=>
   rw[show y=_ from h];refine⟨fun v' l m hr=>?_,fun hr=>by cases hr⟩;injection hr with hr;injection hr with h1 hr;exact⟨v,by rw[←hr];rfl,h1.symm⟩
  |some o=>rw[show y=_ from h];exact⟨fun _ _ _ h=>(by cases h),fun _=>rfl⟩
 |_=>rw[show y=_ from h];exact⟨fun _ _ _ h=>(by cases h),fun _=>rfl⟩
omit [al]in
theorem mw{F0:al} [F:al](M:qY U F0 X w ρ n H): ∀{Q:List Nat} {K:List (aN U)→Prop},pG z H L Q K→ ∃es,K es∧es.length=Q.length∧ ∀(j i:Nat),Q[j]? =some i→ ∃x y,aB H i=some x∧es[j]? =some y∧mu U X w ρ n H z L x y
 | [],K,h=>⟨[],h,rfl,fun j i hj=>by simp at hj⟩
 |i::Q,K,h=>by
  have h:(match aB H i with
   |some x=>C3 z H L x fun y=>pG z H L Q fun r=>K (y::r)
   |none=>False):=h
  split at h
  ·rename_i x hx;obtain⟨y,h,hy⟩:=zd M h;obtain⟨es,h,hl,hes⟩:=mw M (Q:=Q) h;refine⟨_,h,by simp[hl],fun j k hj=>?_⟩;cases j with
   |zero=>simp at hj;subst hj;exact⟨x,y,hx,rfl,hy⟩
   |succ j=>simp at hj;simpa using hes j k hj
  ·exact h.elim
theorem gX.of{es:List (aN U)}(hl:es.length=L.length)(h: ∀(j i:Nat),L[j]? =some i→ ∃x y,aB H i=some x∧es[j]? =some y∧mu U X w ρ n H z L x y):gX z H L es:=
 ⟨hl,fun j i hj=>by obtain⟨x,y,h1,h2,h3⟩:=h j i hj;exact⟨x,y,h1,h2,h3.row⟩⟩
omit [al]in
theorem dv{i:Nat}: ∀{L:List Nat},fh i L=false→i∉L
 | [],_=>by simp
 |j::L,h=>by
  have h:(Nat.beq j i||fh i L)=false:=h;rw[Bool.or_eq_false_iff]at h;intro hm;rcases List.mem_cons.1 hm with rfl|hm
  ·rw[Nat.beq_refl]at h;cases h.1
  ·exact dv h.2 hm
omit [al]in
theorem jW: ∀{L:List Nat},lJ L=true→L.Nodup
 | [],_=>List.nodup_nil
 |i::L,h=>by
  have h:(bif fh i L then false else lJ L)=true:=h;cases hb:fh i L with
  |true=>rw[hb]at h;cases h
  |false=>rw[hb]at h;exact List.nodup_cons.2 ⟨dv hb,jW h⟩
omit [al]in
theorem oz: ∀{L:List Nat} {K:List Nat→Prop},yu L K→K L
 | [],K,h=>h
 |x::L,K,h=>oz (L:=L) (K:=fun r=>K (x::r)) h
def Xo(ρ:Nat→Rz)(H:Hs U)(X:List Nat)(ρc:Nat→Rz)(Hc:Hs U):List Nat:=(aj ρ H++X).filter fun g=>decide (g∉aj ρc Hc)
theorem DG{x y:aN U}{i j g:Nat}(hj:L[j]? =some i)(h:mu U X w ρ n H z L x y)(hg:Lv (fm ρ L) (j,y) g):Lv ρ (i,x) g:=by
 cases x with
 |cells l t=>obtain⟨l',rfl,_⟩:=h;unfold Lv at hg⊢;simp only[bQ hj]at hg;exact hg
 |row v s xs t=>rw[show y=_ from h]at hg;unfold Lv at hg⊢;simp only[bQ hj]at hg;exact hg
 |map d l=>rw[show y=_ from h]at hg;unfold Lv at hg⊢;simp only[bQ hj]at hg;exact hg
 |mapr d l r q gh=>rw[show y=_ from h]at hg;unfold Lv at hg⊢;simp only[bQ hj]at hg;exact hg
 |ext v d xs op=>cases op with
  |none=>rw[show y=_ from h]at hg;unfold Lv at hg⊢;simp only[bQ hj]at hg;exact hg
  |some o=>rw[show y=_ from h]at hg;cases hg
 |_=>rw[show y=_ from h]at hg;cases hg
end
end Go.Proofs.YtfgofabojepcmaaGreatDoor.V
end

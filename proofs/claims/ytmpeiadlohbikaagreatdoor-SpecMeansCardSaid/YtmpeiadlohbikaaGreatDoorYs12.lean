/- Regions that draw their order are right. -/
import Derived.Test.YtmpeiadlohbikaaGreatDoorYs11
section
set_option linter.unusedVariables false
set_option linter.unusedSimpArgs false
namespace Go.Proofs.YtmpeiadlohbikaaGreatDoor.V
open Go.RowKit
def mi(ops:Array Oper)(f:Nat):Prop:= ∀listed:Array Bool,jG .any ops listed→f∈Region.ready .any ops listed→ ∀k,k<ops.size→k=f∨listed.getD k false=true
section
variable {P:Program} {ops:Array Oper} {Q:Exit→Act→World→Prop} {S:World→Prop} {f:Nat}
theorem zJ(h:DJ .any ops f=true):mi ops f:=fun listed hc hf k hk=>pB hc hf _ _ h (fun x hx=> .inl (by simpa using hx)) k (by simpa using hk)
theorem uR(h:ops.size≤f):mi ops f:=fun listed hc hf k hk=>by
 obtain⟨_,o,ho,_⟩:=mem_ready.1 hf;have:=(Array.getElem?_eq_some_iff.1 ho).1;omega
theorem jt(hfin:mi ops f){i:Nat}{oi:Oper}{v:Value}(hif:i≠f)(hi:ops[i]? =some oi)(hsel: ∀(j:Nat) (o:Oper) cs b,ops[j]? =some o→o.op≠ .select cs b)
  (hQ: ∀c a w,Q (.panic c) (a.put oi.dst v) w→Q (.panic c) a w): ∀(fuel:Nat) (listed:Array Bool) (a:Act) (w:World),jG .any ops listed→
   (∀j oj,ops[j]? =some oj→j≠i→listed.getD j true=false→(∀e∈oj.after,Region.binds .any e=true→e.on≠i)→oi.apart ops oj=true)→
   i∈Region.ready .any ops listed→YieldsIf P ops S oi v a→S w→
   jF P .any ops Q S f fuel (listed.setIfInBounds i true) (a.put oi.dst v) w→jF P .any ops Q S f (fuel+1) listed a w
 |0,listed,a,w,_,_,hr,hy,hS,H=>by
  refine⟨fun h=>(by rw[h]at hr;cases hr),fun j hj=>?_⟩;rcases Decidable.em (j=i)with rfl|hji
  ·exact hy.wpOp hi hS ⟨fun _=>hS,H⟩
  ·exact absurd (ready_mono hj hji) (by rw[H.1];exact List.not_mem_nil)
 |fuel+1,listed,a,w,hc,hfree,hr,hy,hS,H=>by
  refine⟨fun h=>(by rw[h]at hr;cases hr),fun j hj=>?_⟩;rcases Decidable.em (j=i)with rfl|hji
  ·exact hy.wpOp hi hS ⟨fun _=>hS,H⟩
  obtain⟨hjun,oj,hoj,hall⟩:=mem_ready.1 hj;have h0:=(mem_ready.1 hr).1;have hnl:listed.getD i false=true→False:=fun h1=>by
   rcases Nat.lt_or_ge i listed.size with h'|h'
   ·simp[h']at h0 h1;rw[h0]at h1;cases h1
   ·simp[Array.getElem?_eq_none h']at h1
  have hjf:j≠f:=fun e=>by
   subst e;have hlt:i<ops.size:=by
    rcases Nat.lt_or_ge i ops.size with h|h
    ·exact h
    ·rw[Array.getElem?_eq_none h]at hi;cases hi
   rcases hfin listed hc hj i hlt with h|h
   ·exact hif h
   ·exact hnl h
  have hnot: ∀e∈oj.after,Region.binds .any e=true→e.on≠i:=fun e he hb heq=>hnl (heq▸hall e he hb);have h2:=wpOp_putIf hoj (hfree j oj hoj hji hjun hnot) (fun cs b=>hsel i oi cs b hi) (fun cs b=>hsel j oj cs b hoj) hQ hy (H.2 j (ready_mono hj hji));refine wpOp_mono (fun a' w' h3=>?_) h2;have hS':=h3.2.1 hjf;refine⟨fun _=>hS',jt hfin hif hi hsel hQ fuel (listed.setIfInBounds j true) a' w' (iq hc hj) (fun k ok hk hki hun hno=>?_) (ready_mono hr (Ne.symm hji)) h3.1 hS' ?_⟩
  ·refine hfree k ok hk hki ?_ hno;rcases Decidable.em (j=k)with rfl|hjk
   ·exact hjun
   ·rwa [getD_set_ne true hjk]at hun
  ·rw[Array.setIfInBounds_comm _ _ hji];exact h3.2.2
end
def Pg(P:Program)(n:Nat)(ops:Array Oper)(f:Nat)(D:List Nat)(Q:EQ)(fuel:Nat)(listed:Array Bool)(env:aS)(w:World):Prop:=
 ∀a,ld n env a→jG .any ops listed→jF P .any ops (fun e a w=>match e with| .normal=>Lf n Q .normal a w|_=>False) (fun w'=>Fr D w w') f fuel listed a w
section
variable {P:Program} {n:Nat} {Q:EQ} {env:aS} {w:World} {ops:Array Oper} {fuel f:Nat} {listed:Array Bool} {D D':List Nat}
theorem My{i:Nat}{o:Oper}{v:Value}(hfin:mi ops f)(hs:Region.noSelect ops=true)(ho:ops[i]? =some o)(h1:(Region.ready .any ops listed).contains i=true)(h2:Region.free .any ops listed i=true)(h4:i≠f)(hw:mT n env ops o true)(hd:(o.dst.all (Nat.blt · n))=true)(hy:cL P n env (fun w'=>Fr D w w') o v)(h:Pg P n ops f D Q fuel (listed.setIfInBounds i true) (env.dst o.dst v) w):
  Pg P n ops f D Q (fuel+1) listed env w:=fun a r hc=>by
 have hr':i∈Region.ready .any ops listed:=by simpa using h1
 exact jt (v:=v) hfin h4 ho (Region.noSelect_spec hs) (fun _ _ _ hf=>hf) _ listed a w hc (Region.free_spec ho h2) hr' (.inl ⟨hw a r,fun w' hS'=>hy a r w' hS'⟩) (Fr.refl _ _) (h _ (r.dst hd v) (iq hc hr'))
theorem Mz{i:Nat}{o:Oper}(hfin:mi ops f)(hs:Region.noSelect ops=true)(ho:ops[i]? =some o)(h1:(Region.ready .any ops listed).contains i=true)(h2:Region.free .any ops listed i=true)(h4:i≠f)(hw:mT n env ops o false)(hd:(o.dst.all (Nat.blt · n))=true)(h:Pg P n ops f D Q fuel (listed.setIfInBounds i true) (env.dst o.dst undef) w):
  Pg P n ops f D Q (fuel+1) listed env w:=fun a r hc=>by
 have hr':i∈Region.ready .any ops listed:=by simpa using h1
 exact jt (v:=undef) hfin h4 ho (Region.noSelect_spec hs) (fun _ _ _ hf=>hf) _ listed a w hc (Region.free_spec ho h2) hr' (.inr ⟨hw a r,rfl⟩) (Fr.refl _ _) (h _ (r.dst hd undef) (iq hc hr'))
theorem zK{P:Program}{ops:Array Oper}{Q:Exit→Act→World→Prop}{S S':World→Prop}{f:Nat}(hS: ∀w,S' w→S w){fuel:Nat}{listed:Array Bool}{a:Act}{w:World}(h:jF P .any ops Q S' f fuel listed a w):jF P .any ops Q S f fuel listed a w:=nM hS _ _ _ _ h
def lm(P:Program)(n:Nat)(ops:Array Oper)(f:Nat)(D:List Nat)(Q:EQ)(fuel:Nat)(listed:Array Bool)(env:aS)(w:World)(i:Nat)(o:Oper):Prop:=
 (mT n env ops o true∧b9 P n env w o (fun env' w'=> ∃D',Fr D w w'∧(∀y∈D',y∈D∨w.heap.size≤y)∧Pg P n ops f D' Q fuel (listed.setIfInBounds i true) env' w'))∨
 (mT n env ops o false∧(o.dst.all (Nat.blt · n))=true∧Pg P n ops f D Q fuel (listed.setIfInBounds i true) (env.dst o.dst undef) w)
theorem Jq(hne:Region.ready .any ops listed≠ [])(h: ∀i∈Region.ready .any ops listed,∃o,ops[i]? =some o∧lm P n ops f D Q fuel listed env w i o):Pg P n ops f D Q (fuel+1) listed env w:=fun a r hc=>by
 refine⟨fun h0=>absurd h0 hne,fun j hj=>?_⟩;obtain⟨o,ho,hh⟩:=h j hj;unfold wpOp;simp only[ho];rcases hh with⟨hw,h⟩|⟨hw,hd,h⟩
 ·rw[if_pos (hw a r)];refine .inl (jL (Oper.wp_mono (fun a' w' ⟨env',r',D',hf,hD,hl⟩=>⟨fun _=>hf,?_⟩) (h a r)));exact zK (fun w2 h2=>hf.step h2 hD) (hl a' r' (iq hc hj))
 ·rw[if_neg (by rw[hw a r];decide)];exact⟨fun _=>Fr.refl _ _,h _ (r.dst hd undef) (iq hc hj)⟩
theorem Hg{o:Oper}(hr:Region.ready .any ops listed= [f])(hr2:(Region.ready .any ops (listed.setIfInBounds f true)).isEmpty=true)(ho:ops[f]? =some o)(hw:mT n env ops o true)(h:b9 P n env w o (fun env' w'=>Q .normal env' w')):Pg P n ops f D Q (fuel+1) listed env w:=fun a r hc=>by
 have hr2:Region.ready .any ops (listed.setIfInBounds f true)= []:=by simpa using hr2
 refine⟨fun h0=>(by rw[hr]at h0;cases h0),fun j hj=>?_⟩;rw[hr]at hj;obtain rfl:j=f:=by simpa using hj
 unfold wpOp;simp only[ho];rw[if_pos (hw a r)];refine .inl (jL (Oper.wp_mono (fun a' w' ⟨env',r',hl⟩=>⟨fun h=>absurd rfl h,?_⟩) (h a r)));cases fuel with
 |zero=>exact⟨hr2,env',r',hl⟩
 |succ fuel=>exact⟨fun _=>⟨env',r',hl⟩,by rw[hr2];simp⟩
theorem C9{o:Oper}(hr:Region.ready .any ops listed= [f])(hr2:(Region.ready .any ops (listed.setIfInBounds f true)).isEmpty=true)(ho:ops[f]? =some o)(hw:mT n env ops o false)(hd:(o.dst.all (Nat.blt · n))=true)(h:Q .normal (env.dst o.dst undef) w):Pg P n ops f D Q (fuel+1) listed env w:=fun a r hc=>by
 have hr2:Region.ready .any ops (listed.setIfInBounds f true)= []:=by simpa using hr2
 refine⟨fun h0=>(by rw[hr]at h0;cases h0),fun j hj=>?_⟩;rw[hr]at hj;obtain rfl:j=f:=by simpa using hj
 unfold wpOp;simp only[ho];rw[if_neg (by rw[hw a r];decide)];refine⟨fun h=>absurd rfl h,?_⟩;have r':=r.dst hd undef;cases fuel with
 |zero=>exact⟨hr2,_,r',h⟩
 |succ fuel=>exact⟨fun _=>⟨_,r',h⟩,by rw[hr2];simp⟩
theorem Da(hr:(Region.ready .any ops listed).isEmpty=true)(h:Q .normal env w):Pg P n ops f D Q fuel listed env w:=fun a r hc=>by
 have hr:Region.ready .any ops listed= []:=by simpa using hr
 cases fuel with
 |zero=>exact⟨hr,env,r,h⟩
 |succ fuel=>exact⟨fun _=>⟨env,r,h⟩,by rw[hr];simp⟩
theorem EZ{id:Nat}{l:List Oper}(f:Nat)(hm:P.follows .mixedOrders=true)(hnd:l.all qO=true)(h:Pg P n l.toArray f D Q l.toArray.size (Array.replicate l.toArray.size false) env w.drew):Wp P n (.region id l.toArray true) Q env w:=fun a r=>by
 have h1:=h a r (tZ _);have h2:(Code.region id l.toArray true).wpIn (Fw db.ro) 0 P (fun e a w=>match e with| .normal=>Lf n Q .normal a w|_=>False) a w:=qP hm uk (by simpa using hnd) (pC _ _ _ _ h1);refine Code.wpIn_mono (fun e a' w' hq=>?_) h2;cases e<;>first|exact hq.elim|exact hq
end
end Go.Proofs.YtmpeiadlohbikaaGreatDoor.V
end

section
set_option linter.unusedVariables false
set_option linter.unusedSimpArgs false
namespace Go.Proofs.YtmpeiadlohbikaaGreatDoor.V
open Go.RowKit
section
variable [ay] {U:cw} {P:Program} {nt:Nat} {T:dO U} {G:jm U} {X:List Nat} {w w' w0:World} {ρ ρ' ρ0:Nat→Rz} {n n' n0 b:Nat} {H H' H0:Hs U} {R e e':En U} {ce:aS} {o:Oper} {S:List Nat} {p:Nat→Bool}
def ct(p:Nat→Bool)(x:Nat×aU U):Nat×aU U:=match p x.1,x.2 with
 |true,.row v e xs _=>(x.1,.hid v xs.length (aQ U e))
 |true,.cells _ _=>(x.1,.dead)
 |true,.map _ _=>(x.1,.dead)
 |true,.mapr _ _ _ _ _=>(x.1,.dead)
 |true,.it _ _=>(x.1,.dead)
 |_,y=>(x.1,y)
def bR(p:Nat→Bool)(H:Hs U):Hs U:=H.map (ct p)
omit [ay]in
theorem nW: ∀{H:Hs U} {K:Hs U→Prop},xE p H K→K (bR p H)
 | [],K,h=>h
 |x::r,K,h=>by
  have h:xE p r fun r=>match p x.1,x.2 with
   |true,.row v e xs _=>K ((x.1,.hid v xs.length (aQ U e))::r)
   |true,.cells _ _=>K ((x.1,.dead)::r)
   |true,.map _ _=>K ((x.1,.dead)::r)
   |true,.mapr _ _ _ _ _=>K ((x.1,.dead)::r)
   |true,.it _ _=>K ((x.1,.dead)::r)
   |_,y=>K ((x.1,y)::r):=h
  have h:=nW h;show K (ct p x::bR p r)
  unfold ct;split at h
  ·exact h
  ·exact h
  ·exact h
  ·exact h
  ·exact h
  ·exact h
omit [ay]in
theorem mU(x:Nat×aU U):(ct p x).1=x.1:=by unfold ct;split<;>rfl
omit [ay]in
theorem vQ: ∀{H:Hs U} {i:Nat},aI (bR p H) i=(aI H i).map fun x=>(ct p (i,x)).2
 | [],i=>rfl
 |(j,x)::r,i=>by
  show aI (ct p (j,x)::bR p r) i=_
  have e1:ct p (j,x)=(j,(ct p (j,x)).2):=Prod.ext (mU (j,x)) rfl;by_cases e:j=i
  ·subst e;rw[e1,si,si];rfl
  ·rw[e1,gP e,gP e];exact vQ
omit [ay]in
theorem xy(i:Nat)(x:aU U):bC (some (ct p (i,x)).2)=bC (some x):=by
 unfold ct;cases p i<;>cases x<;>rfl
omit [ay]in
theorem ed{i:Nat}:bC (aI (bR p H) i)=bC (aI H i):=by
 rw[vQ];cases aI H i with
 |none=>rfl
 |some x=>exact xy i x
omit [ay]in
theorem jW{q:Nat×aU U}(h:q∈bR p H): ∃x,(q.1,x)∈H∧q.2=(ct p (q.1,x)).2:=by
 obtain⟨⟨i,x⟩,hx,rfl⟩:=List.mem_map.1 h;rw[mU];exact⟨x,hx,rfl⟩
omit [ay]in
theorem lh{i g:Nat}{x:aU U}(h:aC ρ (i,(ct p (i,x)).2)=some g):p i=false∧(ct p (i,x)).2=x∧aC ρ (i,x)=some g:=by
 unfold ct at h⊢;cases hp:p i with
 |true=>rw[hp]at h;cases x<;>first|cases h
 |false=>rw[hp]at h;exact⟨rfl,rfl,h⟩
omit [ay]in
theorem ga{g:Nat}(h:g∈ao ρ (bR p H)): ∃i x,(i,x)∈H∧p i=false∧aC ρ (i,x)=some g:=by
 obtain⟨q,hq,hg⟩:=aL.1 h;obtain⟨x,hx,e1⟩:=jW hq;obtain⟨i,y⟩:=q;simp only at hx e1;subst e1;obtain⟨h1,h2,h3⟩:=lh hg;exact⟨i,x,hx,h1,h3⟩
omit [ay]in
theorem hZ{i g:Nat}{x:aU U}(hx:(i,x)∈H)(hp:p i=false)(hg:aC ρ (i,x)=some g):g∈ao ρ (bR p H):=by
 refine aL.2 ⟨ct p (i,x),List.mem_map.2 ⟨_,hx,rfl⟩,?_⟩;unfold ct;rw[hp];exact hg
abbrev np(p:Nat→Bool):Nat→Bool:=fun i=>!p i
omit [ay]in
theorem gc{g:Nat}:g∈ao ρ H↔g∈ao ρ (bR p H)∨g∈ao ρ (bR (np p) H):=by
 constructor
 ·intro h;obtain⟨⟨i,x⟩,hq,hg⟩:=aL.1 h;cases hp:p i with
  |false=>exact .inl (hZ hq hp hg)
  |true=>exact .inr (hZ hq (by simp[np,hp]) hg)
 ·rintro(h|h)
  ·obtain⟨i,x,h1,_,h3⟩:=ga h;exact aL.2 ⟨_,h1,h3⟩
  ·obtain⟨i,x,h1,_,h3⟩:=ga h;exact aL.2 ⟨_,h1,h3⟩
theorem bn.cong{Y Y':List Nat}{S S':World→Prop}(m:Mv Y S Y' S')(hr: ∀i,bC (aI H' i)=bC (aI H i)){x:Cx U}{vs:List Value}(h:bn U Y S ρ n H x vs):bn U Y' S' ρ n H' x vs:=by
 cases x with
 |d s t=>exact aK.mv m h
 |own i v=>obtain⟨h1,A,l,c,e,hn⟩:=h;exact⟨h1,A,l,c,e,fun v' l' m' hr'=>hn _ _ _ (by rw[←hr];exact hr')⟩
 |ptr i off=>obtain⟨h1,h2,h3⟩:=h;exact⟨h1,by rw[hr];exact h2,h3⟩
 |pel i v q off=>obtain⟨h1,a,e,hn⟩:=h;exact⟨h1,a,e,fun v' l' m' hr'=>hn _ _ _ (by rw[←hr];exact hr')⟩
 |pax i off k s q o=>obtain⟨h1,h2,h3⟩:=h;exact⟨h1,by rw[hr];exact h2,h3⟩
 |pd s t=>obtain⟨g,b,us,e,hd,hrd⟩:=h;exact⟨g,b,us,e,aK.mv m hd,hrd.mv m⟩
 |nilp=>exact h
 |nils=>exact h
 |nilf=>exact h
 |nilm=>exact h
 |fn f=>exact h
 |clo f js=>exact⟨h.1,fun j hj=>by obtain⟨a,b,c⟩:=h.2 j hj;exact⟨a,by rw[hr];exact b,c⟩⟩
 |f1 a g=>obtain⟨u,e,hf⟩:=h;exact⟨u,e,hf.mv m⟩
 |f2 a b g=>obtain⟨u,e,hf⟩:=h;exact⟨u,e,hf.mv m⟩
 |mp i=>obtain⟨h1,h2,h3⟩:=h;exact⟨h1,by rw[hr];exact h2,h3⟩
 |un=>exact h
theorem ow(M:bH U X (· =w) ρ n H):bH U (ao ρ (bR (np p) H)++X) (fun w'=>Fr (ao ρ (bR (np p) H)) w w') ρ n (bR p H)∧
  Mv (ao ρ H++X) (· =w) (ao ρ (bR p H)++(ao ρ (bR (np p) H)++X)) (fun w'=>Fr (ao ρ (bR (np p) H)) w w')∧
  Mv (ao ρ (bR p H)++(ao ρ (bR (np p) H)++X)) (fun w'=>Fr (ao ρ (bR (np p) H)) w w') (ao ρ H++X) (· =w):=by
 have hY: ∀y,y∈ao ρ (bR p H)++(ao ρ (bR (np p) H)++X)↔y∈ao ρ H++X:=fun y=>by
  simp only[List.mem_append,gc (p:=p) (H:=H),or_assoc]
 have mv:Mv (ao ρ H++X) (· =w) (ao ρ (bR p H)++(ao ρ (bR (np p) H)++X)) (fun w'=>Fr (ao ρ (bR (np p) H)) w w'):=fun w' hw'=>⟨w,_,rfl,hw',fun y hy=>by
  have h1:=gc.2 (.inr hy);exact⟨List.mem_append_left _ h1,fun hx=>M.dj y h1 (M.xs y hx)⟩,fun y hy=> .inl ((hY y).1 hy)⟩
 have mv2:Mv (ao ρ (bR p H)++(ao ρ (bR (np p) H)++X)) (fun w'=>Fr (ao ρ (bR (np p) H)) w w') (ao ρ H++X) (· =w):=fun w' hw'=>⟨w,[],Fr.refl _ _,by subst hw';exact Fr.refl _ _,fun _ h=>(by cases h),fun y hy=> .inl ((hY y).2 hy)⟩;refine⟨⟨?_,fun q hq=>?_,fun q hq=>?_,fun q hq r hr g h1 h2=>?_,fun g hg hx=>?_,fun w' hw' g hg=>?_,fun z hz=>List.mem_append_right _ (M.xs z hz),⟨M.gv.1,fun w' hw'=>(M.gv.fr hw' (fun y hy hx=>M.xd y (gc.2 (.inr hy)) hx)).2 _ rfl⟩⟩,mv,mv2⟩
 ·have:(bR p H).map (·.1)=H.map (·.1):=by
   unfold bR;rw[List.map_map];exact List.map_congr_left fun x _=>mU x
  rw[this];exact M.nd
 ·obtain⟨x,hx,_⟩:=jW hq;exact M.lt (q.1,x) hx
 ·obtain⟨x,hx,e1⟩:=jW hq;obtain⟨i,y⟩:=q;simp only at hx e1⊢;have hM:=M.ent _ hx;have hcg: ∀x vs,Vw U X w ρ n H x vs→bn U (ao ρ (bR p H)++(ao ρ (bR (np p) H)++X)) (fun w'=>Fr (ao ρ (bR (np p) H)) w w') ρ n (bR p H) x vs:=fun x vs h=>h.cong mv fun i=>ed;have stay: ∀g,p i=false→aC ρ (i,x)=some g→g∉ao ρ (bR (np p) H):=fun g hp hg hm=>by
   obtain⟨k,z,h1,h2,h3⟩:=ga hm;have:=M.inj _ hx _ h1 g hg h3;simp only at this;subst this;simp[np,hp]at h2
  cases hp:p i with
  |true=>
   clear hq;subst e1;cases x with
   |frz v s xs=>
    have e2:(ct p (i,(.frz v s xs:aU U))).2= .frz v s xs:=by simp only[ct,hp]
    rw[e2];obtain⟨hm,cs,hd,hr,h1,h2⟩:=hM;exact⟨hm,cs,ba.mv mv hd,hr.mv mv,h1,h2⟩
   |cells l t=>
    have e2:(ct p (i,(.cells l t:aU U))).2= .dead:=by simp only[ct,hp]
    rw[e2];trivial
   |map d l=>
    have e2:(ct p (i,(.map d l:aU U))).2= .dead:=by simp only[ct,hp]
    rw[e2];trivial
   |mapr d l r q0 q=>
    have e2:(ct p (i,(.mapr d l r q0 q:aU U))).2= .dead:=by simp only[ct,hp]
    rw[e2];trivial
   |it k q=>
    have e2:(ct p (i,(.it k q:aU U))).2= .dead:=by simp only[ct,hp]
    rw[e2];trivial
   |row v s xs t=>
    have e2:(ct p (i,(.row v s xs t:aU U))).2= .hid v xs.length (aQ U s):=by simp only[ct,hp]
    rw[e2];trivial
   |clo f l=>
    have e2:(ct p (i,(.clo f l:aU U))).2= .clo f l:=by simp only[ct,hp]
    rw[e2];trivial
   |hid v l m=>
    have e2:(ct p (i,(.hid v l m:aU U))).2= .hid v l m:=by simp only[ct,hp]
    rw[e2];trivial
   |dead=>
    have e2:(ct p (i,(.dead:aU U))).2= .dead:=by simp only[ct,hp]
    rw[e2];trivial
  |false=>
   have e2:(ct p (i,x)).2=x:=by cases x<;>simp only[ct,hp]
   rw[e1,e2];cases x with
   |cells l t=>
    obtain⟨g,vs,hA,hs,hw⟩:=hM;have hlive:aC ρ (i,(.cells l t:aU U))=some g:=by unfold aC;simp only[hA];rfl
    exact⟨g,vs,hA,hs.imp hcg,fun w' hw'=>by rw[hw'.block g (dU M _ hx g hlive) (stay g hp hlive)];exact hw w rfl⟩
   |row v s xs t=>
    obtain⟨hm,cs,sp,hd,ho,hw⟩:=hM;exact⟨hm,cs,sp,ba.mv mv hd,ho,fun g hg w' hw'=>by rw[hw'.block g (dU M _ hx g hg) (stay g hp hg)];exact hw g hg w rfl⟩
   |map d l=>
    obtain⟨hk,g,es,clock,m,hA,hm,hd,hw⟩:=hM;have hlive:aC ρ (i,(.map d l:aU U))=some g:=by unfold aC;simp only[hA];rfl
    exact⟨hk,g,es,clock,m,hA,hm,aJ.mv mv hd,fun w' hw'=>by rw[hw'.block g (dU M _ hx g hlive) (stay g hp hlive)];exact hw w rfl⟩
   |mapr d l r q0 q=>
    obtain⟨hk,g,es,clock,m,lv,cv,hA,hm,hd,hl,hc,hw⟩:=hM;have hlive:aC ρ (i,(.mapr d l r q0 q:aU U))=some g:=by unfold aC;simp only[hA];rfl
    exact⟨hk,g,es,clock,m,lv,cv,hA,hm,aJ.mv mv hd,aJ.mv mv hl,aJ.mv mv hc,fun w' hw'=>by rw[hw'.block g (dU M _ hx g hlive) (stay g hp hlive)];exact hw w rfl⟩
   |it k q=>
    obtain⟨r,g,hA,hA2,hk,hrk,hw⟩:=hM;have hlive:aC ρ (i,(.it k q:aU U))=some r:=by unfold aC;simp only[hA];rfl
    exact⟨r,g,hA,hA2,hk,by rw[ed];exact hrk,fun w' hw'=>by rw[hw'.block r (dU M _ hx r hlive) (stay r hp hlive)];exact hw w rfl⟩
   |frz v s xs=>obtain⟨hm,cs,hd,hr,h1,h2⟩:=hM;exact⟨hm,cs,ba.mv mv hd,hr.mv mv,h1,h2⟩
   |clo f l=>trivial
   |hid v l m=>trivial
   |dead=>trivial
 ·obtain⟨x,hx,e1⟩:=jW hq;obtain⟨y,hy,e2⟩:=jW hr;obtain⟨i,q2⟩:=q;obtain⟨j,r2⟩:=r;simp only at hx e1 hy e2⊢;subst e1;subst e2;exact M.inj _ hx _ hy g (lh h1).2.2 (lh h2).2.2
 ·rcases List.mem_append.1 hx with hx|hx
  ·obtain⟨i,x,h1,h2,h3⟩:=ga hg;obtain⟨j,y,h4,h5,h6⟩:=ga hx;have:=M.inj _ h1 _ h4 g h3 h6;simp only at this;subst this;simp[np,h2]at h5
  ·exact M.dj g (gc.2 (.inl hg)) hx
 ·refine Nat.lt_of_lt_of_le ?_ hw'.size;rcases List.mem_append.1 hg with h|h
  ·obtain⟨i,x,h1,h2,h3⟩:=ga h;exact dU M _ h1 g h3
  ·exact M.lo w rfl g h
end
end Go.Proofs.YtmpeiadlohbikaaGreatDoor.V
end

section
set_option linter.unusedVariables false
set_option linter.unusedSimpArgs false
namespace Go.Proofs.YtmpeiadlohbikaaGreatDoor.V
open Go.RowKit
section
variable [ay] {U:cw} {P:Program} {nt:Nat} {T:dO U} {G:jm U} {X Y:List Nat} {w w' w0:World} {W:World→Prop} {ρ ρ' ρ0:Nat→Rz} {n n' n0 b:Nat} {H H' H0:Hs U} {R e e':En U} {ce:aS} {o:Oper} {S:List Nat} {p:Nat→Bool}
def EN(P:Program)(nt:Nat)(all:List Oper)(o:Oper)(W:World→Prop)(V:Cx U→List Value→Prop)(ce:aS)(C:En U→En U→List Nat→Prop):Prop:=
 ∃e' R' S',C e' R' S'∧((∃v,mT nt ce all.toArray o true∧cL P nt ce W o v∧bc V R' e' (ce.dst o.dst v)∧ep R' e' S')∨(mT nt ce all.toArray o false∧bc V R' e' (ce.dst o.dst undef)∧ep R' e' S'))
omit [ay]in
theorem nX{rest:KR U}{K:KS U}{s:Nat}{q:dv}{x:Va U}(hdo:(o.dst.all (Nat.blt · nt))=true)(h:putG rest s o.dst q x e n H R S K): ∃d,o.dst=some d∧Nat.blt d nt=true∧rest e n H ((d,.gd q x)::R) (d::s::S) K∧d∉S∧ ¬d=s∧aI e d=none:=by
 unfold putG at h;split at h
 ·rename_i d hdst;split at h
  ·rename_i hde;cases hm:(iV d S||Nat.beq d s)with
   |true=>rw[hm]at h;exact h.elim
   |false=>
    rw[hm]at h;rw[Bool.or_eq_false_iff]at hm;rw[hdst]at hdo;exact⟨d,hdst,by simpa using hdo,h,ie hm.1,fun e1=>(by rw[e1,Nat.beq_refl]at hm;cases hm.2),hde⟩
  ·exact h.elim
 ·exact h.elim
theorem qe{all:List Oper}{rest:KR U}{K:KS U}(hpr:ay.pr=P)(hna:lR o=false)(hT:bK U P T)(h:fJ T G all o rest e n H R S K)(M:bH U Y W ρ n H)(he:bc (bn U (ao ρ H++Y) W ρ n H) R e ce)(hr:ep R e S)(hS: ∃w,W w)(hdo:(o.dst.all (Nat.blt · nt))=true):
  EN P nt all o W (bn U (ao ρ H++Y) W ρ n H) ce (fun e' R' S'=>rest e' n H R' S' K):=by
 unfold fJ at h;split at h
 ·rename_i hg;rw[hna]at h;have h:kU (fun P=>P) T [] o R e H fun v=>Cr o v (sN rest o.dst v e n H R S K):=h;obtain⟨x,hK,hy⟩:=sW (nt:=nt) hpr (p:= []) (fun A h _=>h) h hT M he hS;obtain⟨u,hyld,hu⟩:=hy eO;have hK:=C6 hK hu;unfold sN at hK;cases hdst:o.dst with
  |none=>
   rw[hdst]at hK;exact⟨_,_,_,hK,.inl ⟨u,mR hg,hyld,by rw[hdst];exact he,hr⟩⟩
  |some d=>
   rw[hdst]at hK hdo;simp only at hK;cases hm:iV d S with
   |true=>rw[hm]at hK;exact hK.elim
   |false=>
    rw[hm]at hK;obtain⟨he',hr'⟩:=he.putV hr (ie hm) (av:=x) hu;exact⟨_,_,_,hK,.inl ⟨u,mR hg,hyld,by rw[hdst];exact he',hr'⟩⟩
 ·rename_i j bb hg;split at h
  ·rename_i oj hj;split at h
   ·rename_i s hs;have key: ∀(q:dv) (k:Nat) (c:Bool),(aI R s=some (.gd q ⟨false,[(k,.d .bool c)]⟩)∨(aI R s=none∧aI e s=some (.v ⟨false,[(k,.d .bool c)]⟩)∧q= []))→xD T G o rest s ((s,bb)::q) e n H R S K→EN P nt all o W (bn U (ao ρ H++Y) W ρ n H) ce (fun e' R' S'=>rest e' n H R' S' K):=fun q k c hc h=>by
     obtain⟨hps,hw⟩:=mh (nt:=nt) (fun k c u (h:de _ ⟨false,[(k,.d .bool c)]⟩ u)=>aK.boolE (show cg _ [(k,.d .bool c)] [u]from h).one1.1) he hr hg hj hs hc;unfold xD at h;rw[hna]at h;have h:kU (qf R e ((s,bb)::q)) T ((s,bb)::q) o R e H fun v=>(match (generalizing:=false) v with
      | .v v=>putG rest s o.dst ((s,bb)::q) v e n H R S K
      |_=>False):=h
     obtain⟨x0,hK,hy⟩:=sW (nt:=nt) hpr (p:=(s,bb)::q) (fun A h hp=>lT h hp) h hT M he hS;have hx0: ∃x,x0= .v x∧putG rest s o.dst ((s,bb)::q) x e n H R S K:=by
      split at hK
      ·exact⟨_,rfl,hK⟩
      ·exact hK.elim
     obtain⟨x,rfl,hK⟩:=hx0;obtain⟨d,hdst,hn,hK,h1,h2,h3⟩:=nX hdo hK;rcases hw with⟨hp,hw⟩|⟨hp,hw⟩
     ·obtain⟨u,hyld,hu⟩:=hy hp;obtain⟨he',hr'⟩:=he.putG hr h1 h2 h3 hps (x:=x) (cv:=u) (fun _=>hu) (fun hn=>absurd hp hn);exact⟨_,_,_,hK,.inl ⟨u,hw,hyld,by rw[hdst];exact he',hr'⟩⟩
     ·obtain⟨he',hr'⟩:=he.putG hr h1 h2 h3 hps (x:=x) (cv:=undef) (fun h=>absurd h hp) (fun _=>rfl);exact⟨_,_,_,hK,.inr ⟨hw,by rw[hdst];exact he',hr'⟩⟩
    split at h
    ·rename_i q k c hc;exact key q k c (.inl hc) h
    ·exact h.elim
    ·rename_i hR;split at h
     ·rename_i k c hc;exact key [] k c (.inr ⟨hR,hc,rfl⟩) h
     ·exact h.elim
   ·exact h.elim
  ·exact h.elim
def EO(P:Program)(nt:Nat)(all:List Oper)(o:Oper)(X:List Nat)(w:World)(ρ:Nat→Rz)(n:Nat)(H:Hs U)(ce:aS)(C:En U→Nat→Hs U→En U→List Nat→Prop):Prop:=
 (mT nt ce all.toArray o true∧b9 P nt ce w o fun ce' w'=> ∃e' n' H' R' S' ρ',C e' n' H' R' S'∧bH U X (· =w') ρ' n' H'∧cW ρ n H w ρ' n' H' w'∧bc (Vw U X w' ρ' n' H') R' e' ce'∧ep R' e' S'∧(lR o=false∨o.guard≠none→Fr [] w w'∧n'=n∧H'=H∧ρ'=ρ))∨
 (mT nt ce all.toArray o false∧ ∃e' R' S',C e' n H R' S'∧bc (Vw U X w ρ n H) R' e' (ce.dst o.dst undef)∧ep R' e' S')
omit [ay]in
theorem B2{v:Value}{K:aS→World→Prop}(hd:(o.dst.all (Nat.blt · nt))=true)(hy:cL P nt ce (· =w) o v)(h:K (ce.dst o.dst v) w):b9 P nt ce w o K:=fun a r=>by
 unfold Oper.wp;rw[hy a r w rfl];exact⟨_,r.dst hd v,h⟩
theorem mV(hG:eQ P U G)(hT:bK U P T){all:List Oper}{rest:KR U}{K:KS U}(h:fJ T G all o rest e n H R S K)(M:bH U X (· =w) ρ n H)(he:bc (Vw U X w ρ n H) R e ce)(hr:ep R e S)(hdo:(o.dst.all (Nat.blt · nt))=true):
  EO P nt all o X w ρ n H ce (fun e' n' H' R' S'=>rest e' n' H' R' S' K):=by
 cases hna:lR o with
 |false=>
  obtain⟨e',R',S',hK,hh⟩:=qe (nt:=nt) hG.1 hna hT h M he hr ⟨w,rfl⟩ hdo;rcases hh with⟨v,hw,hy,he',hr'⟩|⟨hw,he',hr'⟩
  ·exact .inl ⟨hw,B2 hdo hy ⟨_,_,_,_,_,_,hK,M,M.stp0,he',hr',fun _=>⟨Fr.refl _ _,rfl,rfl,rfl⟩⟩⟩
  ·exact .inr ⟨hw,_,_,_,hK,he',hr'⟩
 |true=>
  unfold fJ at h;split at h
  ·rename_i hg;rw[hna]at h;have h:yV T G o R e n H fun v n H=>sN rest o.dst v e n H R S K:=h;refine .inl ⟨mR hg,b9.mono (wx hG hT hdo h M he) ?_⟩;rintro ce' w' ⟨av,n',H',ρ',cv,hK,rfl,hav,M',s'⟩;unfold sN at hK;cases hdst:o.dst with
   |none=>
    rw[hdst]at hK;exact⟨_,_,_,_,_,_,hK,M',s',he.step s',hr,fun hh=>(by rcases hh with hh|hh;(· rw[hna]at hh;cases hh);(· exact absurd hg hh))⟩
   |some d=>
    rw[hdst]at hK;simp only at hK;cases hm:iV d S with
    |true=>rw[hm]at hK;exact hK.elim
    |false=>
     rw[hm]at hK;obtain⟨he',hr'⟩:=(he.step s').putV hr (ie hm) hav;exact⟨_,_,_,_,_,_,hK,M',s',he',hr',fun hh=>(by rcases hh with hh|hh;(· rw[hna]at hh;cases hh);(· exact absurd hg hh))⟩
  ·rename_i j bb hg;split at h
   ·rename_i oj hj;split at h
    ·rename_i s hs;have key: ∀(q:dv) (k:Nat) (c:Bool),(aI R s=some (.gd q ⟨false,[(k,.d .bool c)]⟩)∨(aI R s=none∧aI e s=some (.v ⟨false,[(k,.d .bool c)]⟩)∧q= []))→xD T G o rest s ((s,bb)::q) e n H R S K→EO P nt all o X w ρ n H ce (fun e' n' H' R' S'=>rest e' n' H' R' S' K):=fun q k c hc h=>by
      obtain⟨hps,hw⟩:=mh (nt:=nt) wB he hr hg hj hs hc;unfold xD at h;rw[hna]at h;have h:wa T G ((s,bb)::q) o R e n H fun v=>putG rest s o.dst ((s,bb)::q) v e n H R S K:=h;obtain⟨x,hK,hx⟩:=C5 (nt:=nt) hG hT h M he;obtain⟨d,hdst,hn,hK,h1,h2,h3⟩:=nX hdo hK;rcases hw with⟨hp,hw⟩|⟨hp,hw⟩
      ·refine .inl ⟨hw,hx hp hdst hn fun v w' hv hf=>?_⟩;obtain⟨M',s'⟩:=M.keep0 hf;obtain⟨he',hr'⟩:=(he.step s').putG hr h1 h2 h3 hps (x:=x) (cv:=v) (fun _=>hv) (fun hn=>absurd hp hn);exact⟨_,_,_,_,_,_,hK,M',s',he',hr',fun _=>⟨hf,rfl,rfl,rfl⟩⟩
      ·obtain⟨he',hr'⟩:=he.putG hr h1 h2 h3 hps (x:=x) (cv:=undef) (fun h=>absurd h hp) (fun _=>rfl);exact .inr ⟨hw,_,_,_,hK,by rw[hdst];exact he',hr'⟩
     split at h
     ·rename_i q k c hc;exact key q k c (.inl hc) h
     ·exact h.elim
     ·rename_i hR;split at h
      ·rename_i k c hc;exact key [] k c (.inr ⟨hR,hc,rfl⟩) h
      ·exact h.elim
    ·exact h.elim
   ·exact h.elim
end
end Go.Proofs.YtmpeiadlohbikaaGreatDoor.V
end

section
set_option linter.unusedVariables false
set_option linter.unusedSimpArgs false
namespace Go.Proofs.YtmpeiadlohbikaaGreatDoor.V
open Go.RowKit
section
variable [ay] {U:cw} {P:Program} {nt:Nat} {T:dO U} {G:jm U} {X Y:List Nat} {w w' w0:World} {W:World→Prop} {ρ ρ' ρ0:Nat→Rz} {n n' n0 b:Nat} {H H' H0 L:Hs U} {R e e':En U} {ce:aS} {o:Oper} {S:List Nat} {p:Nat→Bool}
def Mf:aU U→Prop
 | .cells _ _=>True
 | .map _ _=>True
 | .mapr _ _ _ _ _=>True
 | .it _ _=>True
 |_=>False
def LP(p:Nat→Bool)(H:Hs U)(x y:Nat×aU U):Prop:=x.1=y.1∧(y.2=x.2∨(p x.1=true∧ ∃v e xs t l m,aI H x.1=some (.row v e xs t)∧x.2= .hid v l m∧y.2= .row v e xs t)∨(p x.1=true∧ ∃z,aI H x.1=some z∧Mf z∧x.2= .dead∧y.2=z))
omit [ay]in
theorem qS: ∀{H':Hs U} {K:Hs U→Prop},Ct p H H' K→ ∃L,K L∧L.map (·.1)=H'.map (·.1)∧ ∀y∈L,∃x∈H',LP p H x y
 | [],K,h=>⟨[],h,rfl,fun y hy=>by cases hy⟩
 |x::r,K,h=>by
  have h:Ct p H r fun r=>match (generalizing:=false) p x.1,aI H x.1,x.2 with
   |true,some (.row v e xs t),.hid v' _ _=>bif Nat.beq v v' then K ((x.1,.row v e xs t)::r)else False
   |true,some (.cells l t),.dead=>K ((x.1,.cells l t)::r)
   |true,some (.map d l),.dead=>K ((x.1,.map d l)::r)
   |true,some (.mapr d l l' q g),.dead=>K ((x.1,.mapr d l l' q g)::r)
   |true,some (.it i g),.dead=>K ((x.1,.it i g)::r)
   |_,_,y=>K ((x.1,y)::r):=h
  obtain⟨L,h,hm,hL⟩:=qS h;have mk: ∀y,y.1=x.1→LP p H x y→ ∀z∈y::L,∃x'∈x::r,LP p H x' z:=fun y _ hy z hz=>by
   rcases List.mem_cons.1 hz with rfl|hz
   ·exact⟨x,List.mem_cons_self,hy⟩
   ·obtain⟨x',h1,h2⟩:=hL z hz;exact⟨x',List.mem_cons_of_mem _ h1,h2⟩
  split at h
  ·rename_i v e xs t v' l m h1 h2 h3;cases hb:Nat.beq v v' with
   |false=>rw[hb]at h;exact h.elim
   |true=>
    rw[hb]at h;simp only[cond_true]at h;have hv:=Nat.eq_of_beq_eq_true hb;subst hv;exact⟨_,h,by simp[hm],mk _ rfl ⟨rfl,.inr (.inl ⟨h1,v,e,xs,t,l,m,h2,h3,rfl⟩)⟩⟩
  ·rename_i l t h1 h2 h3;exact⟨_,h,by simp[hm],mk _ rfl ⟨rfl,.inr (.inr ⟨h1,_,h2,trivial,h3,rfl⟩)⟩⟩
  ·rename_i d l h1 h2 h3;exact⟨_,h,by simp[hm],mk _ rfl ⟨rfl,.inr (.inr ⟨h1,_,h2,trivial,h3,rfl⟩)⟩⟩
  ·rename_i d l l' q g h1 h2 h3;exact⟨_,h,by simp[hm],mk _ rfl ⟨rfl,.inr (.inr ⟨h1,_,h2,trivial,h3,rfl⟩)⟩⟩
  ·rename_i i g h1 h2 h3;exact⟨_,h,by simp[hm],mk _ rfl ⟨rfl,.inr (.inr ⟨h1,_,h2,trivial,h3,rfl⟩)⟩⟩
  ·exact⟨_,h,by simp[hm],mk _ rfl ⟨rfl,.inl rfl⟩⟩
theorem bH.sub{W':World→Prop}(M:bH U X W ρ n H)(h: ∀w,W' w→W w):bH U X W' ρ n H:=by
 have mv:Mv (ao ρ H++X) W (ao ρ H++X) W':=fun w' hw'=>⟨w',[],h _ hw',Fr.refl _ _,fun _ h=>(by cases h),fun y hy=> .inl hy⟩;refine⟨M.nd,M.lt,fun q hq=>?_,M.inj,M.dj,fun w' hw'=>M.lo w' (h _ hw'),M.xs,⟨M.gv.1,fun w hw=>M.gv.2 w (h w hw)⟩⟩;have hM:=M.ent q hq;obtain⟨i,x⟩:=q;cases x with
 |cells l t=>obtain⟨g,vs,hA,hs,hw⟩:=hM;exact⟨g,vs,hA,hs.imp fun x vs hx=>hx.cong mv fun i=>rfl,fun w' hw'=>hw w' (h _ hw')⟩
 |row v s xs t=>obtain⟨hm,cs,sp,hd,ho,hw⟩:=hM;exact⟨hm,cs,sp,ba.mv mv hd,ho,fun g hg w' hw'=>hw g hg w' (h _ hw')⟩
 |map d l=>obtain⟨hk,g,es,clock,m,hA,hm,hd,hw⟩:=hM;exact⟨hk,g,es,clock,m,hA,hm,aJ.mv mv hd,fun w' hw'=>hw w' (h _ hw')⟩
 |mapr d l r q0 q=>obtain⟨hk,g,es,clock,m,lv,cv,hA,hm,hd,hl,hc,hw⟩:=hM;exact⟨hk,g,es,clock,m,lv,cv,hA,hm,aJ.mv mv hd,aJ.mv mv hl,aJ.mv mv hc,fun w' hw'=>hw w' (h _ hw')⟩
 |it k q=>obtain⟨r,g,hA,hA2,hk,hrk,hw⟩:=hM;exact⟨r,g,hA,hA2,hk,hrk,fun w' hw'=>hw w' (h _ hw')⟩
 |frz v s xs=>obtain⟨hm,cs,hd,hr,h1,h2⟩:=hM;exact⟨hm,cs,ba.mv mv hd,hr.mv mv,h1,h2⟩
 |clo f l=>trivial
 |hid v l m=>trivial
 |dead=>trivial
theorem sm(M:bH U X (· =w) ρ n H)(M':bH U (ao ρ (bR (np p) H)++X) (· =w') ρ' n' H')(s:cW ρ n (bR p H) w ρ' n' H' w')(hm:L.map (·.1)=H'.map (·.1))(hL: ∀y∈L,∃x∈H',LP p H x y):
  bH U X (· =w') ρ' n' L∧cW ρ n H w ρ' n' L w'∧(∀i,bC (aI L i)=bC (aI H' i))∧Mv (ao ρ' H'++(ao ρ (bR (np p) H)++X)) (· =w') (ao ρ' L++X) (· =w')∧(∀g∈ao ρ' (bR p L),g∈ao ρ (bR p H)∨w.heap.size≤g):=by
 have hnd:(L.map (·.1)).Nodup:=by rw[hm];exact M'.nd
 have res: ∀x∈H',p x.1=true→ ∀y,aI H x.1=some y→(∀v e xs t,y= .row v e xs t→ ∃l m,x.2= .hid v l m)→(Mf y→x.2= .dead)→(∀v e xs t,y= .row v e xs t→ρ' x.1=ρ x.1∧bC (some x.2)=bC (some y))∧(Mf y→ρ' x.1=ρ x.1):=fun x hx hp y hy h1 h2=>by
  have hin:=ar hy;have hlt:=M.lt _ hin;have hlk:=ej M'.nd (show(x.1,x.2)∈H' from hx);refine⟨fun v e xs t ey=>?_,fun ey=>?_⟩
  ·obtain⟨l,m,e1⟩:=h1 v e xs t ey;obtain⟨v0,l0,m0,r0,_,r1⟩:=s.row x.1 hlt v l m (by rw[hlk,e1];rfl);rw[ed,hy,ey]at r0;injection r0 with r0;injection r0 with a1 a2;injection a2 with a2 a3;obtain⟨b1,b2,b3⟩:=r1 a1.symm;refine⟨b1,?_⟩;rw[e1,ey,b2,b3,←a2,←a3];rfl
  ·exact s.cel x.1 hlt (by rw[ed,hy];cases y<;>first|rfl|exact ey.elim)
 have key: ∀y∈L,∃x∈H',x.1=y.1∧(y.2=x.2∨(p y.1=true∧aI H y.1=some y.2∧ρ' y.1=ρ y.1∧bC (some x.2)=bC (some y.2))):=fun y hy=>by
  obtain⟨x,hx,e1,hr⟩:=hL y hy;refine⟨x,hx,e1,?_⟩;rcases hr with hr|⟨hp,v,e,xs,t,l,m,h1,h2,h3⟩|⟨hp,z,h1,hc,h2,h3⟩
  ·exact .inl hr
  ·have r:=(res x hx hp _ h1 (fun v' e' xs' t' ee=>by cases ee;exact⟨l,m,h2⟩) (fun ee=>ee.elim)).1 _ _ _ _ rfl;rw[←e1,h3];exact .inr ⟨hp,h1,r.1,r.2⟩
  ·have r:=(res x hx hp _ h1 (fun v' e' xs' t' ee=>by subst ee;exact hc.elim) (fun _=>h2)).2 hc;rw[←e1,h3];exact .inr ⟨hp,h1,r,by rw[h2];cases z<;>first|rfl|exact hc.elim⟩
 have liv: ∀(ρa ρb:Nat→Rz) (i:Nat) (x:aU U),ρa i=ρb i→aC ρa (i,x)=aC ρb (i,x):=fun ρa ρb i x h=>by cases x<;>simp only[aC,h]
 have blk: ∀y∈L,∀g,aC ρ' y=some g→g∈ao ρ' H'∨(p y.1=true∧(y.1,y.2)∈H∧aC ρ (y.1,y.2)=some g∧g∈ao ρ (bR (np p) H)):=fun y hy g hg=>by
  obtain⟨x,hx,e1,h⟩:=key y hy;rcases h with h|⟨hp,h1,h2,_⟩
  ·obtain⟨i,y⟩:=y;obtain⟨j,x⟩:=x;simp only at e1 h;subst e1;subst h;exact .inl (aL.2 ⟨_,hx,hg⟩)
  ·have hg':aC ρ (y.1,y.2)=some g:=by rw[←liv ρ' ρ _ _ h2];exact hg
   exact .inr ⟨hp,ar h1,hg',hZ (ar h1) (by simp[np,hp]) hg'⟩
 have hown: ∀g∈ao ρ' L,g∈ao ρ' H'∨g∈ao ρ (bR (np p) H):=fun g hg=>by
  obtain⟨y,hy,hg⟩:=aL.1 hg;rcases blk y hy g hg with h|h
  ·exact .inl h
  ·exact .inr h.2.2.2
 have hrow: ∀i,bC (aI L i)=bC (aI H' i):=fun i=>by
  cases hi:aI L i with
  |some y=>
   have hin:=ar hi;obtain⟨⟨j,x⟩,hx,e1,h⟩:=key _ hin;simp only at e1 h;subst e1;rw[ej M'.nd hx];rcases h with h|⟨_,_,_,h⟩
   ·rw[h]
   ·exact h.symm
  |none=>
   have:aI H' i=none:=sX fun q hq e1=>by
    have h1:i∈L.map (·.1):=by rw[hm];exact List.mem_map.2 ⟨q,hq,e1⟩
    obtain⟨⟨j,y⟩,hy,e2⟩:=List.mem_map.1 h1;simp only at e2;subst e2;rw[ej hnd hy]at hi;cases hi
   rw[this]
 have mv:Mv (ao ρ' H'++(ao ρ (bR (np p) H)++X)) (· =w') (ao ρ' L++X) (· =w'):=fun w2 h2=>⟨w2,[],h2,Fr.refl _ _,fun _ h=>(by cases h),fun y hy=> .inl (by
  rcases List.mem_append.1 hy with hy|hy
  ·rcases hown y hy with h|h
   ·exact List.mem_append_left _ h
   ·exact List.mem_append_right _ (List.mem_append_left _ h)
  ·exact List.mem_append_right _ (List.mem_append_right _ hy))⟩
 have st:cW ρ n H w ρ' n' L w':=by
  refine⟨M.xd,s.nn,s.fr.mono fun g hg=>gc.2 (.inl hg),fun g hg=>?_,fun i hi v l m h=>?_,fun i hi h=>s.cel i hi (by rw[ed];exact h)⟩
  ·rcases hown g hg with h|h
   ·rcases s.nb g h with h|h
    ·exact .inl (gc.2 (.inl h))
    ·exact .inr h
   ·exact .inl (gc.2 (.inr h))
  ·rw[hrow]at h;obtain⟨v0,l0,m0,r0,r1⟩:=s.row i hi v l m h;exact⟨v0,l0,m0,by rw[←ed (p:=p)];exact r0,r1⟩
 refine⟨⟨hnd,fun y hy=>?_,fun y hy=>?_,fun y hy z hz g h1 h2=>?_,fun g hg hx=>?_,fun w2 h2 x hx=>M'.lo w2 h2 x (List.mem_append_right _ hx),M.xs,M.gv.fr st.fr M.xd⟩,st,hrow,mv,fun g hg=>?_⟩
 ·obtain⟨x,hx,e1,_⟩:=key y hy;rw[←e1];exact M'.lt x hx
 ·obtain⟨x,hx,e1,h⟩:=key y hy;rcases h with h|⟨hp,h1,h2,_⟩
  ·have hM:=M'.ent x hx;rw[e1,←h]at hM;have hcg: ∀x vs,bn U (ao ρ' H'++(ao ρ (bR (np p) H)++X)) (· =w') ρ' n' H' x vs→bn U (ao ρ' L++X) (· =w') ρ' n' L x vs:=fun x vs h=>h.cong mv hrow;obtain⟨i,y⟩:=y;simp only at hM⊢;cases y with
   |cells l t=>obtain⟨g,vs,hA,hs,hw⟩:=hM;exact⟨g,vs,hA,hs.imp hcg,hw⟩
   |row v s xs t=>obtain⟨hm,cs,sp,hd,ho,hw⟩:=hM;exact⟨hm,cs,sp,ba.mv mv hd,ho,hw⟩
   |map d l=>obtain⟨hk,g,es,clock,m,hA,hm,hd,hw⟩:=hM;exact⟨hk,g,es,clock,m,hA,hm,aJ.mv mv hd,hw⟩
   |mapr d l r q0 q=>obtain⟨hk,g,es,clock,m,lv,cv,hA,hm,hd,hl,hc,hw⟩:=hM;exact⟨hk,g,es,clock,m,lv,cv,hA,hm,aJ.mv mv hd,aJ.mv mv hl,aJ.mv mv hc,hw⟩
   |it k q=>obtain⟨r,g,hA,hA2,hk,hrk,hw⟩:=hM;exact⟨r,g,hA,hA2,hk,by rw[hrow];exact hrk,hw⟩
   |frz v s xs=>obtain⟨hm,cs,hd,hr,h1,h2⟩:=hM;exact⟨hm,cs,ba.mv mv hd,hr.mv mv,h1,h2⟩
   |clo f l=>trivial
   |hid v l m=>trivial
   |dead=>trivial
  ·have hin:=ar h1;refine lS.step st (M.ent _ hin) h2 fun g hg=>s.fr.block g (dU M _ hin g hg) fun hgo=>?_;obtain⟨j,z,g1,g2,g3⟩:=ga hgo;have:=M.inj _ hin _ g1 g hg g3;simp only at this;rw[this,g2]at hp;cases hp
 ·have dj: ∀g,g∈ao ρ' H'→g∈ao ρ (bR (np p) H)→False:=fun g a b=>M'.dj g a (List.mem_append_left _ b);obtain⟨x,hx,e1,hh1⟩:=key y hy;obtain⟨x2,hx2,e2,hh2⟩:=key z hz;rcases blk y hy g h1 with a|⟨_,a1,a2,a3⟩
  ·rcases blk z hz g h2 with c|⟨_,c1,c2,c3⟩
   ·have f1:aC ρ' x=some g∨g∈ao ρ (bR (np p) H):=by
     rcases hh1 with h|⟨hp,q1,q2,_⟩
     ·left;rw[←h1];obtain⟨i,y⟩:=y;obtain⟨j,x⟩:=x;simp only at e1 h;subst e1;subst h;rfl
     ·right;exact hZ (ar q1) (by simp[np,hp]) (by rw[←liv ρ' ρ _ _ q2];exact h1)
    have f2:aC ρ' x2=some g∨g∈ao ρ (bR (np p) H):=by
     rcases hh2 with h|⟨hp,q1,q2,_⟩
     ·left;rw[←h2];obtain⟨i,y⟩:=z;obtain⟨j,x⟩:=x2;simp only at e2 h;subst e2;subst h;rfl
     ·right;exact hZ (ar q1) (by simp[np,hp]) (by rw[←liv ρ' ρ _ _ q2];exact h2)
    rcases f1 with f1|f1
    ·rcases f2 with f2|f2
     ·rw[←e1,←e2];exact M'.inj x hx x2 hx2 g f1 f2
     ·exact(dj g a f2).elim
    ·exact(dj g a f1).elim
   ·exact(dj g a c3).elim
  ·rcases blk z hz g h2 with c|⟨_,c1,c2,c3⟩
   ·exact(dj g c a3).elim
   ·exact M.inj _ a1 _ c1 g a2 c2
 ·rcases hown g hg with h|h
  ·exact M'.dj g h (List.mem_append_right _ hx)
  ·exact M.dj g (gc.2 (.inr h)) hx
 ·obtain⟨i,y,g1,g2,g3⟩:=ga hg;rcases blk _ g1 g g3 with h|⟨h,_⟩
  ·exact s.nb g h
  ·simp only at h;rw[g2]at h;cases h
end
end Go.Proofs.YtmpeiadlohbikaaGreatDoor.V
end

section
set_option linter.unusedVariables false
set_option linter.unusedSimpArgs false
namespace Go.Proofs.YtmpeiadlohbikaaGreatDoor.V
open Go.RowKit
section
variable [ay] {U:cw} {P:Program} {nt:Nat} {T:dO U} {G:jm U} {X Y:List Nat} {w w' w0:World} {W:World→Prop} {ρ ρ' ρ0:Nat→Rz} {n n' n0 b:Nat} {H H' H0 L:Hs U} {R e e':En U} {ce:aS} {o:Oper} {S:List Nat} {p:Nat→Bool}
omit [ay]in
theorem bc.noR {V : Cx U → List Value → Prop} (he : bc V R e ce) (hr : ep R e S) : bc V [] e ce :=
  ⟨fun k x _ hk => he.v k x (Classical.byContradiction fun hn => by rw [hr.ne k hn] at hk; cases hk) hk,
   fun k l _ hk => he.t k l (Classical.byContradiction fun hn => by rw [hr.ne k hn] at hk; cases hk) hk, fun k p x hk => by cases hk⟩
omit [ay]in
theorem pZ.imp{V V':Cx U→List Value→Prop}(h: ∀x vs,V x vs→V' x vs): ∀{av:AV U} {v:Value},pZ V av v→pZ V' av v
 | .v x,v,hx=>de.imp h hx
 | .tup l,v,hx=>by obtain⟨us,h1,h2⟩:=hx;exact⟨us,h1,cx.imp h h2⟩
 | .gd p x,v,hx=>hx
 | .un,v,hx=>hx
omit [ay]in
theorem lG{l:List Oper}{i:Nat}{o:Oper}(h:d9 l i=some o):l.toArray[i]? =some o∧o∈l:=by
 rw[df]at h;exact⟨by simpa using h,List.mem_of_getElem? h⟩
omit [ay]in
theorem yB{ops:Array Oper}{listed:Array Bool}{i:Nat}(h:i∈Region.ready .any ops listed):i<ops.size:=by
 obtain⟨_,o,ho,_⟩:=mem_ready.1 h;exact(Array.getElem?_eq_some_iff.1 ho).1
def pV(f:Option Nat):Nat:=match f with|some _=>1|none=>0
def ID(f:Option Nat)(i:Nat):Bool:=match f with|some f=>i !=f|none=>true
omit [ay]in
theorem vS{ops:Array Oper}{listed:Array Bool}{i:Nat}{f:Option Nat}(h:i∈Region.ready .any ops listed)(hf:ID f i=true):i≠f.getD ops.size:=by
 have:=yB h;cases f with
 |none=>show i≠ops.size;omega
 |some f=>exact(by simpa[ID]using hf: ¬i=f)
theorem sr(hG:eQ P U G)(hT:bK U P T){Q:EQ}{l:List Oper}{K:KS U}{D:List Nat}{listed:Array Bool}{fuel:Nat}{f:Option Nat}
  (hQ: ∀e n H ρ ce w,K e n H→bH U X (· =w) ρ n H→bc (Vw U X w ρ n H) [] e ce→cW ρ0 b H0 w0 ρ n H w→Q .normal ce w) (hd: ∀o∈l,(o.dst.all (Nat.blt · nt))=true)
  (hc:nF l.toArray f [] listed=true) (hl:pV f≤fuel) (h:kW T G l f e n H R S K) (M:bH U X (· =w) ρ n H) (he:bc (Vw U X w ρ n H) R e ce) (hr:ep R e S) (st:cW ρ0 b H0 w0 ρ n H w):
  Pg P nt l.toArray (f.getD l.toArray.size) D Q fuel listed ce w:=by
 cases f with
 |none=>exact Da hc (hQ _ _ _ _ _ _ h M (he.noR hr) st)
 |some f=>
  have hc:(Region.ready .any l.toArray listed== [f]&&(Region.ready .any l.toArray (listed.setIfInBounds f true)).isEmpty)=true:=hc;rw[Bool.and_eq_true]at hc;obtain⟨k,rfl⟩: ∃k,fuel=k+1:=⟨fuel - 1,by unfold pV at hl;simp only at hl;omega⟩;have h:(match (generalizing:=false) d9 l f with
   |some o=>fJ T G l o (fun e n H _ _ K=>K e n H)
   |none=>fun _ _ _ _ _ _=>False) e n H R S K:=h
  cases ho:d9 l f with
  |none=>rw[ho]at h;exact h.elim
  |some o=>
   rw[ho]at h;obtain⟨ha,hin⟩:=lG ho;have h:fJ T G l o (fun e n H _ _ K=>K e n H) e n H R S K:=h;rcases mV hG hT h M he hr (hd o hin)with⟨hw,hact⟩|⟨hw,e',R',S',hK,he',hr'⟩
   ·refine Hg (by simpa using hc.1) hc.2 ha hw (b9.mono hact ?_);rintro ce' w' ⟨e',n',H',R',S',ρ',hK,M',s',he',hr',_⟩;exact hQ _ _ _ _ _ _ hK M' (he'.noR hr') (st.trans s')
   ·exact C9 (by simpa using hc.1) hc.2 ha hw (hd o hin) (hQ _ _ _ _ _ _ hK M (he'.noR hr') st)
theorem su(hG:eQ P U G)(hT:bK U P T){Q:EQ}{l:List Oper}{K:KS U}{fl k i:Nat}{listed:Array Bool}{rest:KR U}
  (hs:Region.noSelect l.toArray=true) (hfin:mi l.toArray fl) (ha:l.toArray[i]? =some o) (hdo:(o.dst.all (Nat.blt · nt))=true) (c1:(Region.ready .any l.toArray listed).contains i=true) (c2:Region.free .any l.toArray listed i=true) (hne:i≠fl)
  (ih: ∀(e:En U) (n:Nat) (H:Hs U) (R:En U) (S:List Nat) (ρ:Nat→Rz) (ce:aS) (w:World),rest e n H R S K→bH U X (· =w) ρ n H→bc (Vw U X w ρ n H) R e ce→ep R e S→cW ρ0 b H0 w0 ρ n H w→Pg P nt l.toArray fl (ao ρ (bR (np p) H)) Q k (listed.setIfInBounds i true) ce w)
  (h:kV T G l p true o rest e n H R S K) (M:bH U X (· =w) ρ n H) (he:bc (Vw U X w ρ n H) R e ce) (hr:ep R e S) (st:cW ρ0 b H0 w0 ρ n H w):Pg P nt l.toArray fl (ao ρ (bR (np p) H)) Q (k+1) listed ce w:=by
 unfold kV at h;cases hna:lR o with
 |true=>rw[hna]at h;exact h.elim
 |false=>
  rw[hna]at h;have h:xE p H fun Hu=>fJ T G l o (fun e _ _ R S K=>rest e n H R S K) e n Hu R S K:=h;have h:=nW h;obtain⟨Mh,mv1,mv2⟩:=ow (p:=p) M;obtain⟨e',R',S',hK,hh⟩:=qe (nt:=nt) hG.1 hna hT h Mh (he.imp fun _ _ hx=>hx.cong mv1 fun i=>ed) hr ⟨w,Fr.refl _ _⟩ hdo;rcases hh with⟨v,hw,hy,he',hr'⟩|⟨hw,he',hr'⟩
  ·exact My hfin hs ha c1 c2 hne hw hdo hy (ih _ _ _ _ _ _ _ _ hK M (he'.imp fun _ _ hx=>hx.cong mv2 fun i=>ed.symm) hr' st)
  ·exact Mz hfin hs ha c1 c2 hne hw hdo (ih _ _ _ _ _ _ _ _ hK M (he'.imp fun _ _ hx=>hx.cong mv2 fun i=>ed.symm) hr' st)
theorem vU(hG:eQ P U G){q:dv}{K:Va U→Prop}(h:qi T G p q o R e n H K)(M:bH U X (· =w) ρ n H)(he:bc (Vw U X w ρ n H) R e ce):
  ∃x,K x∧(bB R e q→ ∃fx fv xs ts vs,o.op= .call {callee:= .value fx,args:=List.toArray xs,argTypes:=ts}∧ce.ev fx=some fv∧ce.evs xs=some vs∧pA P fv vs w fun v w'=>
   ∃ρ',de (Vw U X w' ρ' n H) x v∧bH U X (· =w') ρ' n H∧cW ρ n H w ρ' n H w'∧Fr (ao ρ (bR (np p) H)) w w'∧ ∀y∈ao ρ' (bR (np p) H),y∈ao ρ (bR (np p) H)∨w.heap.size≤y):=by
 unfold qi at h;split at h
 ·rename_i c ho;split at h
  ·rename_i f hcal;split at h
   ·rename_i k hk;obtain⟨xs,h,hxs⟩:=iG h he;have h:=nW h;obtain⟨x,h,hK⟩:=h;refine⟨x,hK,fun hp=>?_⟩;obtain⟨vs,e1,hv⟩:=hxs hp;have h:=lT h hp;refine⟨.func f,_,c.args.toList,c.argTypes,vs,by rw[ho];exact congrArg Op.call (oO hcal),rfl,e1,pA.of ?_⟩;obtain⟨Mh,mv1,_⟩:=ow (p:=np p) M;have h1: ∀w',w'=w→Fr (ao ρ (bR (np (np p)) H)) w w':=fun w' hw'=>by subst hw';exact Fr.refl _ _
    have Mk:=Mh.sub h1;have mvk:=fun w' hw'=>mv1 w' (h1 w' hw');have hv:cx (Vw U (ao ρ (bR (np (np p)) H)++X) w ρ n (bR (np p) H)) xs vs:=cx.imp (fun _ _ hx=>hx.cong mvk fun i=>ed) hv;refine Fn.mono (zz hG (hG.2 f k hk) h Mk hv) fun v w'=>?_;rintro⟨av,n',H',ρ',⟨e2,e3,hK2⟩,hav,M',s'⟩;subst e2;subst e3;obtain⟨L,hL0,hm,hL⟩:=qS hK2;subst hL0;obtain⟨M2,s2,hrow,mv,hD⟩:=sm M M' s' hm hL;have hav:pZ (Vw U X w' ρ' _ _) (.v x) v:=pZ.imp (fun _ _ hx=>hx.cong mv hrow) hav;exact⟨ρ',hav,M2,s2,s'.fr,hD⟩
   ·exact h.elim
  ·exact h.elim
 ·exact h.elim
theorem yC(hG:eQ P U G){Q:EQ}{l:List Oper}{K:KS U}{fl k i:Nat}{listed:Array Bool}{rest:KR U}(hdo:(o.dst.all (Nat.blt · nt))=true)
  (ih: ∀(e:En U) (n:Nat) (H:Hs U) (R:En U) (S:List Nat) (ρ:Nat→Rz) (ce:aS) (w:World),rest e n H R S K→bH U X (· =w) ρ n H→bc (Vw U X w ρ n H) R e ce→ep R e S→cW ρ0 b H0 w0 ρ n H w→Pg P nt l.toArray fl (ao ρ (bR (np p) H)) Q k (listed.setIfInBounds i true) ce w)
  (h:j2 T G l p o rest e n H R S K) (M:bH U X (· =w) ρ n H) (he:bc (Vw U X w ρ n H) R e ce) (hr:ep R e S) (st:cW ρ0 b H0 w0 ρ n H w):lm P nt l.toArray fl (ao ρ (bR (np p) H)) Q k listed ce w i o:=by
 unfold j2 at h;split at h
 ·exact h.elim
 ·rename_i j bb hg;split at h
  ·rename_i oj hj;split at h
   ·rename_i s hs;have key: ∀(q:dv) (kk:Nat) (c:Bool),(aI R s=some (.gd q ⟨false,[(kk,.d .bool c)]⟩)∨(aI R s=none∧aI e s=some (.v ⟨false,[(kk,.d .bool c)]⟩)∧q= []))→qi T G p ((s,bb)::q) o R e n H (fun v=>putG rest s o.dst ((s,bb)::q) v e n H R S K)→lm P nt l.toArray fl (ao ρ (bR (np p) H)) Q k listed ce w i o:=fun q kk c hc h=>by
     obtain⟨hps,hw⟩:=mh (nt:=nt) wB he hr hg hj hs hc;obtain⟨x,hK,hx⟩:=vU hG h M he;obtain⟨d,hdst,hn,hK,h1,h2,h3⟩:=nX hdo hK;rcases hw with⟨hp,hw⟩|⟨hp,hw⟩
     ·obtain⟨fx,fv,xs,ts,vs,ho,hfx,hvs,hfn⟩:=hx hp;refine .inl ⟨hw,mG ho hdst hn hfx hvs hfn fun v w' hvw=>?_⟩;obtain⟨ρ',hv,M',s',hf,hD⟩:=hvw;obtain⟨he',hr'⟩:=(he.step s').putG hr h1 h2 h3 hps (x:=x) (cv:=v) (fun _=>hv) (fun hn=>absurd hp hn);exact⟨_,hf,hD,ih _ _ _ _ _ _ _ _ hK M' he' hr' (st.trans s')⟩
     ·obtain⟨he',hr'⟩:=he.putG hr h1 h2 h3 hps (x:=x) (cv:=undef) (fun h=>absurd h hp) (fun _=>rfl);exact .inr ⟨hw,hdo,by rw[hdst];exact ih _ _ _ _ _ _ _ _ hK M he' hr' st⟩
    split at h
    ·rename_i q kk c hc;exact key q kk c (.inl hc) h
    ·exact h.elim
    ·rename_i hR;split at h
     ·rename_i kk c hc;exact key [] kk c (.inr ⟨hR,hc,rfl⟩) h
     ·exact h.elim
   ·exact h.elim
  ·exact h.elim
theorem sx(hG:eQ P U G)(hT:bK U P T){Q:EQ}{l:List Oper}{K:KS U}{fl k i:Nat}{listed:Array Bool}{rest:KR U}(hdo:(o.dst.all (Nat.blt · nt))=true)
  (ih: ∀(e:En U) (n:Nat) (H:Hs U) (R:En U) (S:List Nat) (ρ:Nat→Rz) (ce:aS) (w:World),rest e n H R S K→bH U X (· =w) ρ n H→bc (Vw U X w ρ n H) R e ce→ep R e S→cW ρ0 b H0 w0 ρ n H w→Pg P nt l.toArray fl (ao ρ (bR (np p) H)) Q k (listed.setIfInBounds i true) ce w)
  (h:kV T G l p false o rest e n H R S K) (M:bH U X (· =w) ρ n H) (he:bc (Vw U X w ρ n H) R e ce) (hr:ep R e S) (st:cW ρ0 b H0 w0 ρ n H w):lm P nt l.toArray fl (ao ρ (bR (np p) H)) Q k listed ce w i o:=by
 unfold kV at h;have turn:(lR o=false∨o.guard≠none)→fJ T G l o rest e n H R S K→lm P nt l.toArray fl (ao ρ (bR (np p) H)) Q k listed ce w i o:=fun hor h=>by
  rcases mV hG hT h M he hr hdo with⟨hw,hact⟩|⟨hw,e',R',S',hK,he',hr'⟩
  ·refine .inl ⟨hw,b9.mono hact ?_⟩;rintro ce' w' ⟨e',n',H',R',S',ρ',hK,M',s',he',hr',hx⟩;obtain⟨hf,en,eh,er⟩:=hx hor;subst en;subst eh;subst er;exact⟨_,hf.mono (by simp),fun y hy=> .inl hy,ih _ _ _ _ _ _ _ _ hK M' he' hr' (st.trans s')⟩
  ·exact .inr ⟨hw,hdo,ih _ _ _ _ _ _ _ _ hK M he' hr' st⟩
 cases hna:lR o with
 |false=>
  rw[hna]at h;exact turn (.inl hna) h
 |true=>
  rw[hna]at h;cases hg:o.guard with
  |some g=>
   simp only[hg]at h;cases hpc:xF G o with
   |true=>
    rw[hpc]at h;exact yC hG hdo ih h M he hr st
   |false=>
    rw[hpc]at h;exact turn (.inr (by rw[hg];exact Option.some_ne_none _)) h
  |none=>
   simp only[hg]at h;have h:=nW h;obtain⟨Mh,mv1,_⟩:=ow (p:=np p) M;have h1: ∀w',w'=w→Fr (ao ρ (bR (np (np p)) H)) w w':=fun w' hw'=>by subst hw';exact Fr.refl _ _
   have Mk:=Mh.sub h1;have mvk:=fun w' hw'=>mv1 w' (h1 w' hw');have hA:lX P nt U _ w ρ n (bR (np p) H) ce o _:=wx hG hT hdo h Mk (he.imp fun _ _ hx=>hx.cong mvk fun i=>ed);refine .inl ⟨mR hg,b9.mono hA ?_⟩;rintro ce' w' ⟨av,n',H',ρ',cv,hK,rfl,hav,M',s'⟩;obtain⟨L,hK,hm,hL⟩:=qS hK;obtain⟨M2,s2,hrow,mv,hD⟩:=sm M M' s' hm hL;refine⟨ao ρ' (bR (np p) L),s'.fr,hD,?_⟩;have hav:pZ (Vw U X w' ρ' n' L) av cv:=pZ.imp (fun _ _ hx=>hx.cong mv hrow) hav;unfold sN at hK;cases hdst:o.dst with
   |none=>
    rw[hdst]at hK;exact ih _ _ _ _ _ _ _ _ hK M2 (he.step s2) hr (st.trans s2)
   |some d=>
    rw[hdst]at hK;simp only at hK;cases hm:iV d S with
    |true=>rw[hm]at hK;exact hK.elim
    |false=>
     rw[hm]at hK;obtain⟨he',hr'⟩:=(he.step s2).putV hr (ie hm) hav;exact ih _ _ _ _ _ _ _ _ hK M2 he' hr' (st.trans s2)
theorem sy(hG:eQ P U G)(hT:bK U P T){Q:EQ}{l:List Oper}{K:KS U}{mk:List Nat}{f:Option Nat}
  (hQ: ∀e n H ρ ce w,K e n H→bH U X (· =w) ρ n H→bc (Vw U X w ρ n H) [] e ce→cW ρ0 b H0 w0 ρ n H w→Q .normal ce w) (hd: ∀o∈l,(o.dst.all (Nat.blt · nt))=true)
  (hs:Region.noSelect l.toArray=true) (hfin:mi l.toArray (f.getD l.toArray.size)):
  ∀(pl:List (Bool×Nat)) (listed:Array Bool) (fuel:Nat) (e:En U) (n:Nat) (H:Hs U) (R:En U) (S:List Nat) (ρ:Nat→Rz) (ce:aS) (w:World),nF l.toArray f pl listed=true→pl.length+pV f≤fuel→
   wb T G l mk (kW T G l f) pl e n H R S K→bH U X (· =w) ρ n H→bc (Vw U X w ρ n H) R e ce→ep R e S→cW ρ0 b H0 w0 ρ n H w→
   Pg P nt l.toArray (f.getD l.toArray.size) (ao ρ (bR (np fun i=>iV i mk) H)) Q fuel listed ce w
 | [],listed,fuel,e,n,H,R,S,ρ,ce,w,hc,hl,h,M,he,hr,st=>sr hG hT hQ hd hc (by simpa using hl) h M he hr st
 |(how,i)::pl,listed,fuel,e,n,H,R,S,ρ,ce,w,hc,hl,h,M,he,hr,st=>by
  obtain⟨k,rfl⟩: ∃k,fuel=k+1:=⟨fuel - 1,by simp only[List.length_cons]at hl;omega⟩;have hl2:pl.length+pV f≤k:=by simp only[List.length_cons]at hl;omega
  have ih:=fun c4 e n H R S ρ ce w=>sy (mk:=mk) hG hT hQ hd hs hfin pl (listed.setIfInBounds i true) k e n H R S ρ ce w c4 hl2;replace h:(match (generalizing:=false) d9 l i with
   |some o=>kV T G l (fun i=>iV i mk) how o (wb T G l mk (kW T G l f) pl)
   |none=>fun _ _ _ _ _ _=>False) e n H R S K:=h
  cases ho:d9 l i with
  |none=>rw[ho]at h;exact h.elim
  |some o=>
   rw[ho]at h;obtain⟨ha,hin⟩:=lG ho;have hdo:=hd o hin;cases how with
   |true=>
    have hc:((Region.ready .any l.toArray listed).contains i&&Region.free .any l.toArray listed i&&ID f i&&nF l.toArray f pl (listed.setIfInBounds i true))=true:=hc;simp only[Bool.and_eq_true]at hc;obtain⟨⟨⟨c1,c2⟩,c3⟩,c4⟩:=hc;exact su hG hT hs hfin ha hdo c1 c2 (vS (by simpa using c1) c3) (ih c4) h M he hr st
   |false=>
    have hc:(Region.ready .any l.toArray listed== [i]&&ID f i&&nF l.toArray f pl (listed.setIfInBounds i true))=true:=hc;simp only[Bool.and_eq_true]at hc;obtain⟨⟨c1,c3⟩,c4⟩:=hc;have c1:Region.ready .any l.toArray listed= [i]:=by simpa using c1
    refine Jq (by rw[c1];exact List.cons_ne_nil _ _) fun j hj=>?_;rw[c1]at hj;obtain rfl:j=i:=by simpa using hj
    exact⟨o,ha,sx hG hT hdo (ih c4) h M he hr st⟩
theorem lH(hG:eQ P U G)(hT:bK U P T){Q:EQ}{l:List Oper}{K:KS U}{f:Option Nat}
  (hQ: ∀e n H ρ ce w,K e n H→bH U X (· =w) ρ n H→bc (Vw U X w ρ n H) [] e ce→cW ρ0 b H0 w0 ρ n H w→Q .normal ce w) (hd: ∀o∈l,(o.dst.all (Nat.blt · nt))=true)
  (hs:Region.noSelect l.toArray=true) (hfin:mi l.toArray (f.getD l.toArray.size)):
  ∀(t:Ot) (listed:Array Bool) (fuel:Nat) (e:En U) (n:Nat) (H:Hs U) (R:En U) (S:List Nat) (ρ:Nat→Rz) (ce:aS) (w:World),
   sO T G l p (kW T G l f) t e n H R S K→bH U X (· =w) ρ n H→bc (Vw U X w ρ n H) R e ce→ep R e S→cW ρ0 b H0 w0 ρ n H w→
   (ic l.toArray f t listed none=true→t.h+pV f≤fuel→Pg P nt l.toArray (f.getD l.toArray.size) (ao ρ (bR (np p) H)) Q fuel listed ce w)∧
   (∀L,ic l.toArray f t listed (some L)=true→t.h+pV f≤fuel+1→ ∀i∈L,∃o,l.toArray[i]? =some o∧lm P nt l.toArray (f.getD l.toArray.size) (ao ρ (bR (np p) H)) Q fuel listed ce w i o)
 | .fin,listed,fuel,e,n,H,R,S,ρ,ce,w,h,M,he,hr,st=>⟨fun hc hl=>sr hG hT hQ hd hc (by simpa[Ot.h]using hl) h M he hr st,fun L hc=>by cases hc⟩
 | .nil,listed,fuel,e,n,H,R,S,ρ,ce,w,h,M,he,hr,st=>⟨fun hc=>(by cases hc),fun L hc _ i hi=>by
   have hc:L.isEmpty=true:=hc;rw[List.isEmpty_iff]at hc;subst hc;cases hi⟩
 | .look i r,listed,fuel,e,n,H,R,S,ρ,ce,w,h,M,he,hr,st=>⟨fun hc hl=>by
   obtain⟨k,rfl⟩: ∃k,fuel=k+1:=⟨fuel - 1,by simp only[Ot.h]at hl;omega⟩;have hl2:r.h+pV f≤k:=by simp only[Ot.h]at hl;omega
   have hc:((Region.ready .any l.toArray listed).contains i&&Region.free .any l.toArray listed i&&ID f i&&ic l.toArray f r (listed.setIfInBounds i true) none)=true:=hc;simp only[Bool.and_eq_true]at hc;obtain⟨⟨⟨c1,c2⟩,c3⟩,c4⟩:=hc;have h:(match (generalizing:=false) d9 l i with
    |some o=>kV T G l p true o (sO T G l p (kW T G l f) r)
    |none=>fun _ _ _ _ _ _=>False) e n H R S K:=h
   cases ho:d9 l i with
   |none=>rw[ho]at h;exact h.elim
   |some o=>
    rw[ho]at h;obtain⟨ha,hin⟩:=lG ho;exact su hG hT hs hfin ha (hd o hin) c1 c2 (vS (by simpa using c1) c3) (fun e n H R S ρ ce w h M he hr st=>(lH hG hT hQ hd hs hfin r _ k e n H R S ρ ce w h M he hr st).1 c4 hl2) h M he hr st,fun L hc=>by cases hc⟩
 | .turn i a t,listed,fuel,e,n,H,R,S,ρ,ce,w,h,M,he,hr,st=>by
  have h:(match (generalizing:=false) d9 l i with
    |some o=>kV T G l p false o (sO T G l p (kW T G l f) a)
    |none=>fun _ _ _ _ _ _=>False) e n H R S K∧sO T G l p (kW T G l f) t e n H R S K:=h
  obtain⟨h,h2⟩:=h;have key: ∀L k,Ja i L=true→ic l.toArray f a (listed.setIfInBounds i true) none=true→ic l.toArray f t listed (some L.tail)=true→(Ot.turn i a t).h+pV f≤k+1→ ∀j∈L,∃o,l.toArray[j]? =some o∧lm P nt l.toArray (f.getD l.toArray.size) (ao ρ (bR (np p) H)) Q k listed ce w j o:=fun L k c1 c2 c3 hl j hj=>by
   have hl2:a.h+pV f≤k:=by simp only[Ot.h]at hl;omega
   have hl3:t.h+pV f≤k+1:=by simp only[Ot.h]at hl;omega
   cases L with
   |nil=>cases hj
   |cons x L=>
    have c1:x=i:=Nat.eq_of_beq_eq_true c1;subst c1;rcases List.mem_cons.1 hj with rfl|hj
    ·cases ho:d9 l j with
     |none=>rw[ho]at h;exact h.elim
     |some o=>
      rw[ho]at h;obtain⟨ha,hin⟩:=lG ho;exact⟨o,ha,sx hG hT (hd o hin) (fun e n H R S ρ ce w h M he hr st=>(lH hG hT hQ hd hs hfin a _ k e n H R S ρ ce w h M he hr st).1 c2 hl2) h M he hr st⟩
    ·exact(lH hG hT hQ hd hs hfin t listed k e n H R S ρ ce w h2 M he hr st).2 L c3 hl3 j hj
  refine⟨fun hc hl=>?_,fun L hc hl=>?_⟩
  ·obtain⟨k,rfl⟩: ∃k,fuel=k+1:=⟨fuel - 1,by simp only[Ot.h]at hl;omega⟩;have hc:(Ja i (Region.ready .any l.toArray listed)&&ic l.toArray f a (listed.setIfInBounds i true) none&&ic l.toArray f t listed (some (Region.ready .any l.toArray listed).tail))=true:=hc;simp only[Bool.and_eq_true]at hc;obtain⟨⟨c1,c2⟩,c3⟩:=hc;exact Jq (fun h0=>by rw[h0]at c1;cases c1) (key _ k c1 c2 c3 hl)
  ·have hc:(Ja i L&&ic l.toArray f a (listed.setIfInBounds i true) none&&ic l.toArray f t listed (some L.tail))=true:=hc;simp only[Bool.and_eq_true]at hc;obtain⟨⟨c1,c2⟩,c3⟩:=hc;exact key _ fuel c1 c2 c3 hl
theorem yD(hG:eQ P U G)(hT:bK U P T)(hmo:P.follows .mixedOrders=true){Q:EQ}{l:List Oper}{K:KS U}{id:Nat}(hQ: ∀e n H ρ ce w,K e n H→bH U X (· =w) ρ n H→bc (Vw U X w ρ n H) [] e ce→cW ρ0 b H0 w0 ρ n H w→Q .normal ce w)(hd: ∀o∈l,(o.dst.all (Nat.blt · nt))=true)(hnd:l.all qO=true)
  (h:wd T G b l.toArray e n H K) (M:bH U X (· =w) ρ n H) (he:bc (Vw U X w ρ n H) [] e ce) (st:cW ρ0 b H0 w0 ρ n H w):Wp P nt (.region id l.toArray true) Q ce w:=by
 obtain⟨M',s'⟩:=M.keep0 (Fr.drew w);have fin: ∀f:Option Nat,(match f with|some f=>DJ .any l.toArray f|none=>true)=true→mi l.toArray (f.getD l.toArray.size):=fun f hf=>by
  cases f with
  |none=>exact uR (Nat.le_refl _)
  |some f=>exact zJ hf
 have r0:ep ([]:En U) e []:=⟨fun k hk=>absurd rfl hk,fun k av hk=>(by cases hk),fun k hk=>absurd rfl hk⟩;rcases h with⟨pl,f,mk,hp,h⟩|⟨t,f,mk,N,E,L,A,hp,h,hK⟩
 ·unfold uE at hp;simp only[Bool.and_eq_true]at hp;obtain⟨⟨⟨hs,hf⟩,hc⟩,hl⟩:=hp;exact EZ _ hmo hnd (sy hG hT hQ hd hs (fin f hf) pl _ _ _ _ _ _ _ _ _ _ hc (Nat.le_of_ble_eq_true hl) h M' (he.step s') r0 (st.trans s'))
 ·unfold yX at hp;simp only[Bool.and_eq_true]at hp;obtain⟨⟨⟨hs,hf⟩,hc⟩,hl⟩:=hp;refine EZ _ hmo hnd ((lH hG hT (K:=fun e' n' H'=>A∧ ∃φ,Je b N φ n' e' H' E L) ?_ hd hs (fin f hf) t _ _ _ _ _ _ _ _ _ _ h M' (he.step s') r0 (st.trans s')).1 hc (Nat.le_of_ble_eq_true hl));rintro e' n' H' ρ' ce' w' ⟨hA,φ,hle⟩ M2 he2 st2;obtain⟨ρ3,M3,he3,st3⟩:=uO M2 he2 hle st2;exact hQ _ _ _ _ _ _ (hK hA) M3 he3 st3
omit [ay]in
theorem IU{n:Nat}{env:aS}{w:World}{Q:EQ}{ops:Array Oper}{rest:List Oper}{o:Oper}(hw:mT n env ops o false)(hd:(o.dst.all (Nat.blt · n))=true)(h:Ls P n ops Q rest (env.dst o.dst undef) w):Ls P n ops Q (o::rest) env w:=by
 cases hdst:o.dst with
 |none=>rw[hdst]at h;exact J5 hw hdst h
 |some d=>rw[hdst]at h hd;exact J4 hw hdst (by simpa using hd) h
theorem vV(hG:eQ P U G)(hT:bK U P T){Q:EQ}{all:List Oper}{K:KS U}(hQ: ∀e n H ρ ce w,K e n H→bH U X (· =w) ρ n H→bc (Vw U X w ρ n H) [] e ce→cW ρ0 b H0 w0 ρ n H w→Q .normal ce w):
  ∀(l:List Oper) (e:En U) (n:Nat) (H:Hs U) (R:En U) (S:List Nat) (ρ:Nat→Rz) (ce:aS) (w:World),(∀o∈l,(o.dst.all (Nat.blt · nt))=true)→oA T G all l e n H R S K→bH U X (· =w) ρ n H→bc (Vw U X w ρ n H) R e ce→ep R e S→cW ρ0 b H0 w0 ρ n H w→
   Ls P nt all.toArray Q l ce w
 | [],e,n,H,R,S,ρ,ce,w,hd,h,M,he,hr,st=>dN (hQ e n H ρ ce w h M (he.noR hr) st)
 |o::l,e,n,H,R,S,ρ,ce,w,hd,h,M,he,hr,st=>by
  have ih:=vV (all:=all) hG hT hQ l;have hdo:=hd o (by simp);have hdl: ∀o∈l,(o.dst.all (Nat.blt · nt))=true:=fun o ho=>hd o (by simp[ho]);have h:(match o.guard with
   |none=>fJ T G all o (oA T G all l)
   |some _=>bif xF G o then j2 T G all (fun _=>true) o (oA T G all l)else fJ T G all o (oA T G all l)) e n H R S K:=h
  have key:fJ T G all o (oA T G all l) e n H R S K→Ls P nt all.toArray Q (o::l) ce w:=fun h=>by
   rcases mV hG hT h M he hr hdo with⟨hw,hact⟩|⟨hw,e',R',S',hK,he',hr'⟩
   ·refine D2 hw (b9.mono hact ?_);rintro ce' w' ⟨e',n',H',R',S',ρ',hK,M',s',he',hr',_⟩;exact ih _ _ _ _ _ _ _ _ hdl hK M' he' hr' (st.trans s')
   ·exact IU hw hdo (ih _ _ _ _ _ _ _ _ hdl hK M he' hr' st)
  cases hg0:o.guard with
  |none=>rw[hg0]at h;exact key h
  |some jb=>
   rw[hg0]at h;have h:(bif xF G o then j2 T G all (fun _=>true) o (oA T G all l)else fJ T G all o (oA T G all l)) e n H R S K:=h;cases hp:xF G o with
   |false=>rw[hp]at h;exact key h
   |true=>
    rw[hp]at h;have h:j2 T G all (fun _=>true) o (oA T G all l) e n H R S K:=h;unfold j2 at h;split at h
    ·exact h.elim
    ·rename_i j bb hg;split at h
     ·rename_i oj hj;split at h
      ·rename_i s hs;have key: ∀(q:dv) (kk:Nat) (c:Bool),(aI R s=some (.gd q ⟨false,[(kk,.d .bool c)]⟩)∨(aI R s=none∧aI e s=some (.v ⟨false,[(kk,.d .bool c)]⟩)∧q= []))→qi T G (fun _=>true) ((s,bb)::q) o R e n H (fun v=>putG (oA T G all l) s o.dst ((s,bb)::q) v e n H R S K)→Ls P nt all.toArray Q (o::l) ce w:=fun q kk c hc h=>by
        obtain⟨hps,hw⟩:=mh (nt:=nt) wB he hr hg hj hs hc;obtain⟨x,hK,hx⟩:=vU hG h M he;obtain⟨d,hdst,hn,hK,h1,h2,h3⟩:=nX hdo hK;rcases hw with⟨hp,hw⟩|⟨hp,hw⟩
        ·obtain⟨fx,fv,xs,ts,vs,ho,hfx,hvs,hfn⟩:=hx hp;refine D2 hw (mG ho hdst hn hfx hvs hfn fun v w' hvw=>?_);obtain⟨ρ',hv,M',s',hf,hD⟩:=hvw;obtain⟨he',hr'⟩:=(he.step s').putG hr h1 h2 h3 hps (x:=x) (cv:=v) (fun _=>hv) (fun hn=>absurd hp hn);exact ih _ _ _ _ _ _ _ _ hdl hK M' he' hr' (st.trans s')
        ·obtain⟨he',hr'⟩:=he.putG hr h1 h2 h3 hps (x:=x) (cv:=undef) (fun h=>absurd h hp) (fun _=>rfl);exact J4 hw hdst hn (ih _ _ _ _ _ _ _ _ hdl hK M he' hr' st)
       split at h
       ·rename_i q kk c hc;exact key q kk c (.inl hc) h
       ·exact h.elim
       ·rename_i hR;split at h
        ·rename_i kk c hc;exact key [] kk c (.inr ⟨hR,hc,rfl⟩) h
        ·exact h.elim
      ·exact h.elim
     ·exact h.elim
end
end Go.Proofs.YtmpeiadlohbikaaGreatDoor.V
end

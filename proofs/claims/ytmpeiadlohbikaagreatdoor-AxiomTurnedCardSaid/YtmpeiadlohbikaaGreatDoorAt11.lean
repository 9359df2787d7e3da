/- Hidden entries come back. -/
import Derived.Test.YtmpeiadlohbikaaGreatDoorAt10
import Derived.Test.YtmpeiadlohbikaaGreatDoorAt8
section
set_option linter.unusedVariables false
set_option linter.unusedSimpArgs false
namespace Go.Proofs.YtmpeiadlohbikaaGreatDoor.V
open Go.RowKit
def mT(ops:Array Oper)(f:Nat):Prop:= ∀listed:Array Bool,jL .any ops listed→f∈Region.ready .any ops listed→ ∀k,k<ops.size→k=f∨listed.getD k false=true
section
variable {P:Program} {ops:Array Oper} {Q:Exit→Act→World→Prop} {S:World→Prop} {f:Nat}
theorem Ao(h:EG .any ops f=true):mT ops f:=fun listed hc hf k hk=>p4 hc hf _ _ h (fun x hx=> .inl (by simpa using hx)) k (by simpa using hk)
theorem vO(h:ops.size≤f):mT ops f:=fun listed hc hf k hk=>by
 obtain⟨_,o,ho,_⟩:=mem_ready.1 hf;have:=(Array.getElem?_eq_some_iff.1 ho).1;omega
theorem jF(hfin:mT ops f){i:Nat}{oi:Oper}{v:Value}(hif:i≠f)(hi:ops[i]? =some oi)(hsel: ∀(j:Nat) (o:Oper) cs b,ops[j]? =some o→o.op≠ .select cs b)
  (hQ: ∀c a w,Q (.panic c) (a.put oi.dst v) w→Q (.panic c) a w): ∀(fuel:Nat) (listed:Array Bool) (a:Act) (w:World),jL .any ops listed→
   (∀j oj,ops[j]? =some oj→j≠i→listed.getD j true=false→(∀e∈oj.after,Region.binds .any e=true→e.on≠i)→oi.apart ops oj=true)→
   i∈Region.ready .any ops listed→YieldsIf P ops S oi v a→S w→
   jK P .any ops Q S f fuel (listed.setIfInBounds i true) (a.put oi.dst v) w→jK P .any ops Q S f (fuel+1) listed a w
 |0,listed,a,w,_,_,hr,hy,hS,H=>by
  refine⟨fun h=>(by rw[h]at hr;cases hr),fun j hj=>?_⟩;rcases Decidable.em (j=i)with rfl|hji
  ·exact hy.wpOp hi hS ⟨fun _=>hS,H⟩
  ·exact absurd (ready_mono hj hji) (by rw[H.1];exact List.not_mem_nil)
 |fuel+1,listed,a,w,hc,hfree,hr,hy,hS,H=>by
  refine⟨fun h=>(by rw[h]at hr;cases hr),fun j hj=>?_⟩;rcases Decidable.em (j=i)with rfl|hji
  ·exact hy.wpOp hi hS ⟨fun _=>hS,H⟩
  obtain⟨hjun,oj,hoj,hall⟩:=mem_ready.1 hj;have h0:=(mem_ready.1 hr).1;have hnl:listed.getD i false=true→False:=fun h1=>by
   rcases Nat.lt_or_ge i listed.size with h'|h'
   ·simp[h']at h0 h1;rw[h0]at h1;cases h1
   ·simp[Array.getElem?_eq_none h']at h1
  have hjf:j≠f:=fun e=>by
   subst e;have hlt:i<ops.size:=by
    rcases Nat.lt_or_ge i ops.size with h|h
    ·exact h
    ·rw[Array.getElem?_eq_none h]at hi;cases hi
   rcases hfin listed hc hj i hlt with h|h
   ·exact hif h
   ·exact hnl h
  have hnot: ∀e∈oj.after,Region.binds .any e=true→e.on≠i:=fun e he hb heq=>hnl (heq▸hall e he hb);have h2:=wpOp_putIf hoj (hfree j oj hoj hji hjun hnot) (fun cs b=>hsel i oi cs b hi) (fun cs b=>hsel j oj cs b hoj) hQ hy (H.2 j (ready_mono hj hji));refine wpOp_mono (fun a' w' h3=>?_) h2;have hS':=h3.2.1 hjf;refine⟨fun _=>hS',jF hfin hif hi hsel hQ fuel (listed.setIfInBounds j true) a' w' (iw hc hj) (fun k ok hk hki hun hno=>?_) (ready_mono hr (Ne.symm hji)) h3.1 hS' ?_⟩
  ·refine hfree k ok hk hki ?_ hno;rcases Decidable.em (j=k)with rfl|hjk
   ·exact hjun
   ·rwa [getD_set_ne true hjk]at hun
  ·rw[Array.setIfInBounds_comm _ _ hji];exact h3.2.2
end
def Lh [bB] [oW](n:Nat)(Q:EQ):Exit→Act→World→Prop:=fun e a w=>match e with
 | .normal=>Lf n Q .normal a w
 | .panic c=>g7 n oW.pe a∧Q (.panic c) oW.pe w
 |_=>False
theorem Ap [bB] [oW]{n:Nat}{Q:EQ}: ¬LetsOut (Lh n Q):=fun⟨_,_,h⟩=>h
def vg [oW](d:Option Nat):Bool:=d.all fun d=>(oW.pe.get d).isNone
theorem Li [bB] [oW]{n:Nat}{a:Act}{d:Option Nat}{v:Value}(hd:vg d=true)(r:g7 n oW.pe (a.put d v)):g7 n oW.pe a:=by
 cases d with
 |none=>exact r
 |some d=>
  have hd:(oW.pe.get d).isNone=true:=by simpa[vg]using hd
  refine⟨by simpa[Act.put]using r.size,by simpa[Act.put]using r.defers,fun k u hk=>?_⟩;have h:=r.get k u hk;have hne:d≠k:=fun e=>by subst e;rw[hk]at hd;cases hd
  simpa[Act.put,Array.getElem?_setIfInBounds_ne hne]using h
theorem xk [bB] [oW]{n:Nat}{Q:EQ}{d:Option Nat}{v:Value}(hd:vg d=true): ∀c a w,Lh n Q (.panic c) (a.put d v) w→Lh n Q (.panic c) a w:=fun c a w h=>⟨Li hd h.1,h.2⟩
def Pg [bB] [oW](P:Program)(n:Nat)(ops:Array Oper)(f:Nat)(D:List Nat)(Q:EQ)(fuel:Nat)(listed:Array Bool)(env:aI)(w:World):Prop:=
 ∀a,g7 n env a→jL .any ops listed→jK P .any ops (Lh n Q) (fun w'=>Fr D w w') f fuel listed a w
section
variable [bB] [oW] {P:Program} {n:Nat} {Q:EQ} {env:aI} {w:World} {ops:Array Oper} {fuel f:Nat} {listed:Array Bool} {D D':List Nat}
theorem OZ{i:Nat}{o:Oper}{v:Value}(hfin:mT ops f)(hs:Region.noSelect ops=true)(ho:ops[i]? =some o)(h1:(Region.ready .any ops listed).contains i=true)(h2:Region.free .any ops listed i=true)(h4:i≠f)(hw:lU n env ops o true)(hd:(o.dst.all (Nat.blt · n))=true)(hpe:vg o.dst=true)(hy:ci P n env (fun w'=>Fr D w w') o v)(h:Pg P n ops f D Q fuel (listed.setIfInBounds i true) (env.dst o.dst v) w):
  Pg P n ops f D Q (fuel+1) listed env w:=fun a r hc=>by
 have hr':i∈Region.ready .any ops listed:=by simpa using h1
 exact jF (v:=v) hfin h4 ho (Region.noSelect_spec hs) (xk hpe) _ listed a w hc (Region.free_spec ho h2) hr' (.inl ⟨hw a r,fun w' hS'=>hy a r w' hS'⟩) (Fr.refl _ _) (h _ (r.dst hd v) (iw hc hr'))
theorem O0{i:Nat}{o:Oper}(hfin:mT ops f)(hs:Region.noSelect ops=true)(ho:ops[i]? =some o)(h1:(Region.ready .any ops listed).contains i=true)(h2:Region.free .any ops listed i=true)(h4:i≠f)(hw:lU n env ops o false)(hd:(o.dst.all (Nat.blt · n))=true)(hpe:vg o.dst=true)(h:Pg P n ops f D Q fuel (listed.setIfInBounds i true) (env.dst o.dst undef) w):
  Pg P n ops f D Q (fuel+1) listed env w:=fun a r hc=>by
 have hr':i∈Region.ready .any ops listed:=by simpa using h1
 exact jF (v:=undef) hfin h4 ho (Region.noSelect_spec hs) (xk hpe) _ listed a w hc (Region.free_spec ho h2) hr' (.inr ⟨hw a r,rfl⟩) (Fr.refl _ _) (h _ (r.dst hd undef) (iw hc hr'))
omit [bB] [oW]in
theorem Aq{P:Program}{ops:Array Oper}{Q:Exit→Act→World→Prop}{S S':World→Prop}{f:Nat}(hS: ∀w,S' w→S w){fuel:Nat}{listed:Array Bool}{a:Act}{w:World}(h:jK P .any ops Q S' f fuel listed a w):jK P .any ops Q S f fuel listed a w:=oy hS _ _ _ _ h
def l9(P:Program)(n:Nat)(ops:Array Oper)(f:Nat)(D:List Nat)(Q:EQ)(fuel:Nat)(listed:Array Bool)(env:aI)(w:World)(i:Nat)(o:Oper):Prop:=
 (lU n env ops o true∧bH P n env w o (fun env' w'=> ∃D',Fr D w w'∧(∀y∈D',y∈D∨w.heap.size≤y)∧Pg P n ops f D' Q fuel (listed.setIfInBounds i true) env' w'))∨
 (lU n env ops o false∧(o.dst.all (Nat.blt · n))=true∧Pg P n ops f D Q fuel (listed.setIfInBounds i true) (env.dst o.dst undef) w)
theorem Lj(hne:Region.ready .any ops listed≠ [])(h: ∀i∈Region.ready .any ops listed,∃o,ops[i]? =some o∧l9 P n ops f D Q fuel listed env w i o):Pg P n ops f D Q (fuel+1) listed env w:=fun a r hc=>by
 refine⟨fun h0=>absurd h0 hne,fun j hj=>?_⟩;obtain⟨o,ho,hh⟩:=h j hj;unfold wpOp;simp only[ho];rcases hh with⟨hw,h⟩|⟨hw,hd,h⟩
 ·rw[if_pos (hw a r)];refine .inl (jR (Oper.wp_mono (fun a' w' ⟨env',r',D',hf,hD,hl⟩=>⟨fun _=>hf,?_⟩) (h a r)));exact Aq (fun w2 h2=>hf.step h2 hD) (hl a' r' (iw hc hj))
 ·rw[if_neg (by rw[hw a r];decide)];exact⟨fun _=>Fr.refl _ _,h _ (r.dst hd undef) (iw hc hj)⟩
theorem Ar{o:Oper}(hr:Region.ready .any ops listed= [f])(hr2:(Region.ready .any ops (listed.setIfInBounds f true)).isEmpty=true)(ho:ops[f]? =some o)(hw:lU n env ops o true)(h:bH P n env w o (fun env' w'=>Q .normal env' w')):Pg P n ops f D Q (fuel+1) listed env w:=fun a r hc=>by
 have hr2:Region.ready .any ops (listed.setIfInBounds f true)= []:=by simpa using hr2
 refine⟨fun h0=>(by rw[hr]at h0;cases h0),fun j hj=>?_⟩;rw[hr]at hj;obtain rfl:j=f:=by simpa using hj
 unfold wpOp;simp only[ho];rw[if_pos (hw a r)];refine .inl (jR (Oper.wp_mono (fun a' w' ⟨env',r',hl⟩=>⟨fun h=>absurd rfl h,?_⟩) (h a r)));cases fuel with
 |zero=>exact⟨hr2,env',r',hl⟩
 |succ fuel=>exact⟨fun _=>⟨env',r',hl⟩,by rw[hr2];simp⟩
theorem DV{o:Oper}{g:FuncId}{xs:List Operand}{ts:Array TypeId}{vs:List Value}{Post PP:Value→World→Prop}(hr:Region.ready .any ops listed= [f])(hr2:(Region.ready .any ops (listed.setIfInBounds f true)).isEmpty=true)(ho:ops[f]? =some o)(hw:lU n env ops o true)(hcl:o.op= .call {callee:= .value (.func g),args:=xs.toArray,argTypes:=ts})(hd:(o.dst.all (Nat.blt · n))=true)
  (hx:env.evs xs=some vs) (hc:xC P g vs w Post PP) (hk: ∀v w',Post v w'→Q .normal (env.dst o.dst v) w') (hp: ∀v w',PP v w'→aI.Le oW.pe env∧Q (.panic [{v:=v,recovered:=false}]) oW.pe w'):Pg P n ops f D Q (fuel+1) listed env w:=fun a r hcl2=>by
 have hr2:Region.ready .any ops (listed.setIfInBounds f true)= []:=by simpa using hr2
 refine⟨fun h0=>(by rw[hr]at h0;cases h0),fun j hj=>?_⟩;rw[hr]at hj;obtain rfl:j=f:=by simpa using hj
 unfold wpOp;simp only[ho];rw[if_pos (hw a r)];refine .inl ?_;unfold Oper.wp;rw[rx hc.1 hcl hx r];refine Calls.mono hc.2 fun e w' he=>?_;rcases he with⟨v,rfl,hv⟩|⟨v,rfl,hv⟩
 ·refine⟨fun h=>absurd rfl h,?_⟩;have r':=r.dst hd v;cases fuel with
  |zero=>exact⟨hr2,_,r',hk v w' hv⟩
  |succ fuel=>exact⟨fun _=>⟨_,r',hk v w' hv⟩,by rw[hr2];simp⟩
 ·exact⟨r.weak (hp v w' hv).1,(hp v w' hv).2⟩
theorem DW{o:Oper}(hr:Region.ready .any ops listed= [f])(hr2:(Region.ready .any ops (listed.setIfInBounds f true)).isEmpty=true)(ho:ops[f]? =some o)(hw:lU n env ops o false)(hd:(o.dst.all (Nat.blt · n))=true)(h:Q .normal (env.dst o.dst undef) w):Pg P n ops f D Q (fuel+1) listed env w:=fun a r hc=>by
 have hr2:Region.ready .any ops (listed.setIfInBounds f true)= []:=by simpa using hr2
 refine⟨fun h0=>(by rw[hr]at h0;cases h0),fun j hj=>?_⟩;rw[hr]at hj;obtain rfl:j=f:=by simpa using hj
 unfold wpOp;simp only[ho];rw[if_neg (by rw[hw a r];decide)];refine⟨fun h=>absurd rfl h,?_⟩;have r':=r.dst hd undef;cases fuel with
 |zero=>exact⟨hr2,_,r',h⟩
 |succ fuel=>exact⟨fun _=>⟨_,r',h⟩,by rw[hr2];simp⟩
theorem DX(hr:(Region.ready .any ops listed).isEmpty=true)(h:Q .normal env w):Pg P n ops f D Q fuel listed env w:=fun a r hc=>by
 have hr:Region.ready .any ops listed= []:=by simpa using hr
 cases fuel with
 |zero=>exact⟨hr,env,r,h⟩
 |succ fuel=>exact⟨fun _=>⟨env,r,h⟩,by rw[hr];simp⟩
theorem Gl{id:Nat}{l:List Oper}(f:Nat)(hm:P.follows .mixedOrders=true)(hnd:l.all qD=true)(h:Pg P n l.toArray f D Q l.toArray.size (Array.replicate l.toArray.size false) env w.drew):Wp P n (.region id l.toArray true) Q env w:=fun a r=>by
 have h1:=h a r (uG _);have h2:(Code.region id l.toArray true).wpIn (Fw bB.ro) 0 P (Lh n Q) a w:=rE hm Ap (by simpa using hnd) (p5 _ _ _ _ h1);refine Code.wpIn_mono (fun e a' w' hq=>?_) h2;cases e<;>first|exact hq.elim|exact⟨_,hq.1,hq.2⟩|exact hq
end
end Go.Proofs.YtmpeiadlohbikaaGreatDoor.V
end

section
set_option linter.unusedVariables false
set_option linter.unusedSimpArgs false
namespace Go.Proofs.YtmpeiadlohbikaaGreatDoor.V
open Go.RowKit
section
variable [ao] {U:bD} {P:Program} {nt:Nat} {T:cW U} {G:c6 U} {X:List Nat} {w w' w0:World} {ρ ρ' ρ0:Nat→Rz} {n n' n0 b:Nat} {H H' H0:Hs U} {R e e':En U} {ce:aI} {o:Oper} {S:List Nat} {p:Nat→Bool}
def bT(p:Nat→Bool)(x:Nat×aH U):Nat×aH U:=match p x.1,x.2 with
 |true,.row v e xs _=>(x.1,.hid v xs.length (aG U e))
 |true,.cells _ _=>(x.1,.dead)
 |true,.map _ _=>(x.1,.dead)
 |true,.mapr _ _ _ _ _=>(x.1,.dead)
 |true,.it _ _=>(x.1,.dead)
 |true,.ext v d xs _=>(x.1,.hid v xs.length (aG U d.e))
 |_,y=>(x.1,y)
def bG(p:Nat→Bool)(H:Hs U):Hs U:=H.map (bT p)
omit [ao]in
theorem oJ: ∀{H:Hs U} {K:Hs U→Prop},yb p H K→K (bG p H)
 | [],K,h=>h
 |x::r,K,h=>by
  have h:yb p r fun r=>match p x.1,x.2 with
   |true,.row v e xs _=>K ((x.1,.hid v xs.length (aG U e))::r)
   |true,.cells _ _=>K ((x.1,.dead)::r)
   |true,.map _ _=>K ((x.1,.dead)::r)
   |true,.mapr _ _ _ _ _=>K ((x.1,.dead)::r)
   |true,.it _ _=>K ((x.1,.dead)::r)
   |true,.ext v d xs _=>K ((x.1,.hid v xs.length (aG U d.e))::r)
   |_,y=>K ((x.1,y)::r):=h
  have h:=oJ h;show K (bT p x::bG p r)
  unfold bT;split at h
  ·exact h
  ·exact h
  ·exact h
  ·exact h
  ·exact h
  ·exact h
  ·exact h
omit [ao]in
theorem ny(x:Nat×aH U):(bT p x).1=x.1:=by unfold bT;split<;>rfl
omit [ao]in
theorem wt: ∀{H:Hs U} {i:Nat},aD (bG p H) i=(aD H i).map fun x=>(bT p (i,x)).2
 | [],i=>rfl
 |(j,x)::r,i=>by
  show aD (bT p (j,x)::bG p r) i=_
  have e1:bT p (j,x)=(j,(bT p (j,x)).2):=Prod.ext (ny (j,x)) rfl;by_cases e:j=i
  ·subst e;rw[e1,nH,nH];rfl
  ·rw[e1,dP e,dP e];exact wt
omit [ao]in
theorem x5(i:Nat)(x:aH U):bg (some (bT p (i,x)).2)=bg (some x):=by
 unfold bT;cases p i<;>cases x<;>rfl
omit [ao]in
theorem dY{i:Nat}:bg (aD (bG p H) i)=bg (aD H i):=by
 rw[wt];cases aD H i with
 |none=>rfl
 |some x=>exact x5 i x
omit [ao]in
theorem j7{q:Nat×aH U}(h:q∈bG p H): ∃x,(q.1,x)∈H∧q.2=(bT p (q.1,x)).2:=by
 obtain⟨⟨i,x⟩,hx,rfl⟩:=List.mem_map.1 h;rw[ny];exact⟨x,hx,rfl⟩
omit [ao]in
theorem lW{i g:Nat}{x:aH U}(h:Lv ρ (i,(bT p (i,x)).2) g):p i=false∧(bT p (i,x)).2=x∧Lv ρ (i,x) g:=by
 unfold bT at h⊢;cases hp:p i with
 |true=>rw[hp]at h;cases x<;>first|cases h
 |false=>rw[hp]at h;exact⟨rfl,rfl,h⟩
omit [ao]in
theorem gp{g:Nat}(h:g∈aj ρ (bG p H)): ∃i x,(i,x)∈H∧p i=false∧Lv ρ (i,x) g:=by
 obtain⟨q,hq,hg⟩:=aA.1 h;obtain⟨x,hx,e1⟩:=j7 hq;obtain⟨i,y⟩:=q;simp only at hx e1;subst e1;obtain⟨h1,h2,h3⟩:=lW hg;exact⟨i,x,hx,h1,h3⟩
omit [ao]in
theorem ic{i g:Nat}{x:aH U}(hx:(i,x)∈H)(hp:p i=false)(hg:Lv ρ (i,x) g):g∈aj ρ (bG p H):=by
 refine aA.2 ⟨bT p (i,x),List.mem_map.2 ⟨_,hx,rfl⟩,?_⟩;unfold bT;rw[hp];exact hg
abbrev np(p:Nat→Bool):Nat→Bool:=fun i=>!p i
omit [ao]in
theorem gq{g:Nat}:g∈aj ρ H↔g∈aj ρ (bG p H)∨g∈aj ρ (bG (np p) H):=by
 constructor
 ·intro h;obtain⟨⟨i,x⟩,hq,hg⟩:=aA.1 h;cases hp:p i with
  |false=>exact .inl (ic hq hp hg)
  |true=>exact .inr (ic hq (by simp[np,hp]) hg)
 ·rintro(h|h)
  ·obtain⟨i,x,h1,_,h3⟩:=gp h;exact aA.2 ⟨_,h1,h3⟩
  ·obtain⟨i,x,h1,_,h3⟩:=gp h;exact aA.2 ⟨_,h1,h3⟩
theorem bd.cong{Y Y':List Nat}{S S':World→Prop}(m:Mv Y S Y' S')(hr: ∀i,bg (aD H' i)=bg (aD H i)){x:Cx U}{vs:List Value}(h:bd U Y S ρ n H x vs):bd U Y' S' ρ n H' x vs:=by
 cases x with
 |d s t=>exact aC.mv m h
 |own i v=>obtain⟨h1,A,l,c,e,hn⟩:=h;exact⟨h1,A,l,c,e,fun v' l' m' hr'=>hn _ _ _ (by rw[←hr];exact hr')⟩
 |ptr i off=>obtain⟨h1,h2,h3⟩:=h;exact⟨h1,by rw[hr];exact h2,h3⟩
 |pel i v q off=>obtain⟨h1,a,e,hn⟩:=h;exact⟨h1,a,e,fun v' l' m' hr'=>hn _ _ _ (by rw[←hr];exact hr')⟩
 |pax i off k s q o=>obtain⟨h1,h2,h3⟩:=h;exact⟨h1,by rw[hr];exact h2,h3⟩
 |pd s t=>obtain⟨g,b,us,e,hd,hrd⟩:=h;exact⟨g,b,us,e,aC.mv m hd,hrd.mv m⟩
 |nilp=>exact h
 |nils=>exact h
 |nilf=>exact h
 |nilm=>exact h
 |fn f=>exact h
 |clo f js=>exact⟨h.1,fun j hj=>by obtain⟨a,b,c⟩:=h.2 j hj;exact⟨a,by rw[hr];exact b,c⟩⟩
 |f1 a g=>obtain⟨u,e,hf⟩:=h;exact⟨u,e,hf.mv m⟩
 |f2 a b g=>obtain⟨u,e,hf⟩:=h;exact⟨u,e,hf.mv m⟩
 |mp i=>obtain⟨h1,h2,h3⟩:=h;exact⟨h1,by rw[hr];exact h2,h3⟩
 |un=>exact h
theorem o7(M:aX U X (· =w) ρ n H):aX U (aj ρ (bG (np p) H)++X) (fun w'=>Fr (aj ρ (bG (np p) H)) w w') ρ n (bG p H)∧
  Mv (aj ρ H++X) (· =w) (aj ρ (bG p H)++(aj ρ (bG (np p) H)++X)) (fun w'=>Fr (aj ρ (bG (np p) H)) w w')∧
  Mv (aj ρ (bG p H)++(aj ρ (bG (np p) H)++X)) (fun w'=>Fr (aj ρ (bG (np p) H)) w w') (aj ρ H++X) (· =w):=by
 have hY: ∀y,y∈aj ρ (bG p H)++(aj ρ (bG (np p) H)++X)↔y∈aj ρ H++X:=fun y=>by
  simp only[List.mem_append,gq (p:=p) (H:=H),or_assoc]
 have mv:Mv (aj ρ H++X) (· =w) (aj ρ (bG p H)++(aj ρ (bG (np p) H)++X)) (fun w'=>Fr (aj ρ (bG (np p) H)) w w'):=fun w' hw'=>⟨w,_,rfl,hw',fun y hy=>by
  have h1:=gq.2 (.inr hy);exact⟨List.mem_append_left _ h1,fun hx=>M.dj y h1 (M.xs y hx)⟩,fun y hy=> .inl ((hY y).1 hy)⟩
 have mv2:Mv (aj ρ (bG p H)++(aj ρ (bG (np p) H)++X)) (fun w'=>Fr (aj ρ (bG (np p) H)) w w') (aj ρ H++X) (· =w):=fun w' hw'=>⟨w,[],Fr.refl _ _,by subst hw';exact Fr.refl _ _,fun _ h=>(by cases h),fun y hy=> .inl ((hY y).2 hy)⟩;refine⟨⟨?_,fun q hq=>?_,fun q hq=>?_,fun q hq r hr g h1 h2=>?_,fun g hg hx=>?_,fun w' hw' g hg=>?_,fun z hz=>List.mem_append_right _ (M.xs z hz),⟨M.gv.1,fun w' hw'=>(M.gv.fr hw' (fun y hy hx=>M.xd y (gq.2 (.inr hy)) hx)).2 _ rfl⟩⟩,mv,mv2⟩
 ·have:(bG p H).map (·.1)=H.map (·.1):=by
   unfold bG;rw[List.map_map];exact List.map_congr_left fun x _=>ny x
  rw[this];exact M.nd
 ·obtain⟨x,hx,_⟩:=j7 hq;exact M.lt (q.1,x) hx
 ·obtain⟨x,hx,e1⟩:=j7 hq;obtain⟨i,y⟩:=q;simp only at hx e1⊢;have hM:=M.ent _ hx;have hcg: ∀x vs,Vw U X w ρ n H x vs→bd U (aj ρ (bG p H)++(aj ρ (bG (np p) H)++X)) (fun w'=>Fr (aj ρ (bG (np p) H)) w w') ρ n (bG p H) x vs:=fun x vs h=>h.cong mv fun i=>dY;have stay: ∀g,p i=false→Lv ρ (i,x) g→g∉aj ρ (bG (np p) H):=fun g hp hg hm=>by
   obtain⟨k,z,h1,h2,h3⟩:=gp hm;have:=M.inj _ hx _ h1 g hg h3;simp only at this;subst this;simp[np,hp]at h2
  cases hp:p i with
  |true=>
   clear hq;subst e1;cases x with
   |frz v s xs=>
    have e2:(bT p (i,(.frz v s xs:aH U))).2= .frz v s xs:=by simp only[bT,hp]
    rw[e2];obtain⟨hm,cs,hd,hr,h1,h2⟩:=hM;exact⟨hm,cs,aR.mv mv hd,hr.mv mv,h1,h2⟩
   |cells l t=>
    have e2:(bT p (i,(.cells l t:aH U))).2= .dead:=by simp only[bT,hp]
    rw[e2];trivial
   |map d l=>
    have e2:(bT p (i,(.map d l:aH U))).2= .dead:=by simp only[bT,hp]
    rw[e2];trivial
   |mapr d l r q0 q=>
    have e2:(bT p (i,(.mapr d l r q0 q:aH U))).2= .dead:=by simp only[bT,hp]
    rw[e2];trivial
   |it k q=>
    have e2:(bT p (i,(.it k q:aH U))).2= .dead:=by simp only[bT,hp]
    rw[e2];trivial
   |row v s xs t=>
    have e2:(bT p (i,(.row v s xs t:aH U))).2= .hid v xs.length (aG U s):=by simp only[bT,hp]
    rw[e2];trivial
   |ext v d xs op=>
    have e2:(bT p (i,(.ext v d xs op:aH U))).2= .hid v xs.length (aG U d.e):=by simp only[bT,hp]
    rw[e2];trivial
   |clo f l=>
    have e2:(bT p (i,(.clo f l:aH U))).2= .clo f l:=by simp only[bT,hp]
    rw[e2];trivial
   |hid v l m=>
    have e2:(bT p (i,(.hid v l m:aH U))).2= .hid v l m:=by simp only[bT,hp]
    rw[e2];trivial
   |dead=>
    have e2:(bT p (i,(.dead:aH U))).2= .dead:=by simp only[bT,hp]
    rw[e2];trivial
  |false=>
   have e2:(bT p (i,x)).2=x:=by cases x<;>simp only[bT,hp]
   rw[e1,e2];cases x with
   |cells l t=>
    obtain⟨g,vs,hA,hs,hw⟩:=hM;have hlive:Lv ρ (i,(.cells l t:aH U)) g:=by unfold Lv;simp only[hA];rfl
    exact⟨g,vs,hA,hs.imp hcg,fun w' hw'=>by rw[hw'.block g (cl M _ hx g hlive) (stay g hp hlive)];exact hw w rfl⟩
   |row v s xs t=>
    obtain⟨hm,cs,sp,hd,ho,hw⟩:=hM;exact⟨hm,cs,sp,aR.mv mv hd,ho,fun g hg w' hw'=>by rw[hw'.block g (cl M _ hx g hg) (stay g hp hg)];exact hw g hg w rfl⟩
   |map d l=>
    obtain⟨hk,g,es,clock,m,hA,hm,hd,hw⟩:=hM;have hlive:Lv ρ (i,(.map d l:aH U)) g:=by unfold Lv;simp only[hA];rfl
    exact⟨hk,g,es,clock,m,hA,hm,aK.mv mv hd,fun w' hw'=>by rw[hw'.block g (cl M _ hx g hlive) (stay g hp hlive)];exact hw w rfl⟩
   |mapr d l r q0 q=>
    obtain⟨hk,g,es,clock,m,lv,cv,hA,hm,hd,hl,hc,hw⟩:=hM;have hlive:Lv ρ (i,(.mapr d l r q0 q:aH U)) g:=by unfold Lv;simp only[hA];rfl
    exact⟨hk,g,es,clock,m,lv,cv,hA,hm,aK.mv mv hd,aK.mv mv hl,aK.mv mv hc,fun w' hw'=>by rw[hw'.block g (cl M _ hx g hlive) (stay g hp hlive)];exact hw w rfl⟩
   |it k q=>
    obtain⟨r,g,hA,hA2,hk,hrk,hw⟩:=hM;have hlive:Lv ρ (i,(.it k q:aH U)) r:=by unfold Lv;simp only[hA];rfl
    exact⟨r,g,hA,hA2,hk,by rw[dY];exact hrk,fun w' hw'=>by rw[hw'.block r (cl M _ hx r hlive) (stay r hp hlive)];exact hw w rfl⟩
   |ext v d xs op=>
    obtain⟨C,hd,hw,ho⟩:=hM;exact⟨C,d.mv mv.fr hd,fun g hg w' hw'=>by rw[hw'.block g (cl M _ hx g hg) (stay g hp hg)];exact hw g hg w rfl,ho.imp hcg⟩
   |frz v s xs=>obtain⟨hm,cs,hd,hr,h1,h2⟩:=hM;exact⟨hm,cs,aR.mv mv hd,hr.mv mv,h1,h2⟩
   |clo f l=>trivial
   |hid v l m=>trivial
   |dead=>trivial
 ·obtain⟨x,hx,e1⟩:=j7 hq;obtain⟨y,hy,e2⟩:=j7 hr;obtain⟨i,q2⟩:=q;obtain⟨j,r2⟩:=r;simp only at hx e1 hy e2⊢;subst e1;subst e2;exact M.inj _ hx _ hy g (lW h1).2.2 (lW h2).2.2
 ·rcases List.mem_append.1 hx with hx|hx
  ·obtain⟨i,x,h1,h2,h3⟩:=gp hg;obtain⟨j,y,h4,h5,h6⟩:=gp hx;have:=M.inj _ h1 _ h4 g h3 h6;simp only at this;subst this;simp[np,h2]at h5
  ·exact M.dj g (gq.2 (.inl hg)) hx
 ·refine Nat.lt_of_lt_of_le ?_ hw'.size;rcases List.mem_append.1 hg with h|h
  ·obtain⟨i,x,h1,h2,h3⟩:=gp h;exact cl M _ h1 g h3
  ·exact M.lo w rfl g h
end
end Go.Proofs.YtmpeiadlohbikaaGreatDoor.V
end

section
set_option linter.unusedVariables false
set_option linter.unusedSectionVars false
set_option linter.unusedSimpArgs false
namespace Go.Proofs.YtmpeiadlohbikaaGreatDoor.V
open Go.RowKit
section
variable [bB] [ao] {U:bD} {P:Program} {nt:Nat} {T:cW U} {G:c6 U} {X Y:List Nat} {w w' w0:World} {W:World→Prop} {ρ ρ' ρ0:Nat→Rz} {n n' n0 b:Nat} {H H' H0:Hs U} {R e e':En U} {ce:aI} {o:Oper} {S:List Nat} {p:Nat→Bool}
def F7(P:Program)(nt:Nat)(all:List Oper)(o:Oper)(W:World→Prop)(V:Cx U→List Value→Prop)(ce:aI)(C:En U→En U→List Nat→Prop):Prop:=
 ∃e' R' S',C e' R' S'∧((∃v,lU nt ce all.toArray o true∧ci P nt ce W o v∧aJ V R' e' (ce.dst o.dst v)∧d7 R' e' S')∨(lU nt ce all.toArray o false∧aJ V R' e' (ce.dst o.dst undef)∧d7 R' e' S'))
omit [ao]in
theorem oK{rest:KR U}{K:KS U}{s:Nat}{q:di}{x:Va U}(hdo:(o.dst.all (Nat.blt · nt))=true)(h:putG rest s o.dst q x e n H R S K): ∃d,o.dst=some d∧Nat.blt d nt=true∧rest e n H ((d,.gd q x)::R) (d::s::S) K∧d∉S∧ ¬d=s∧aD e d=none:=by
 unfold putG at h;split at h
 ·rename_i d hdst;split at h
  ·rename_i hde;cases hm:(gx d S||Nat.beq d s)with
   |true=>rw[hm]at h;exact h.elim
   |false=>
    rw[hm]at h;rw[Bool.or_eq_false_iff]at hm;rw[hdst]at hdo;exact⟨d,hdst,by simpa using hdo,h,d6 hm.1,fun e1=>(by rw[e1,Nat.beq_refl]at hm;cases hm.2),hde⟩
  ·exact h.elim
 ·exact h.elim
theorem qS{all:List Oper}{rest:KR U}{K:KS U}(hpr:ao.pr=P)(hna:mH o=false)(hT:bf U P T)(h:ig T G all o rest e n H R S K)(M:aX U Y W ρ n H)(he:aJ (bd U (aj ρ H++Y) W ρ n H) R e ce)(hr:d7 R e S)(hS: ∃w,W w)(hdo:(o.dst.all (Nat.blt · nt))=true):
  F7 P nt all o W (bd U (aj ρ H++Y) W ρ n H) ce (fun e' R' S'=>rest e' n H R' S' K):=by
 unfold ig at h;split at h
 ·rename_i hg;rw[hna]at h;have h:lN (fun P=>P) T [] o R e H fun v=>Df o v (mI rest o.dst v e n H R S K):=h;obtain⟨x,hK,hy⟩:=tY (nt:=nt) hpr (p:= []) (fun A h _=>h) h hT M he hS;obtain⟨u,hyld,hu⟩:=hy cA;have hK:=DS hK hu;unfold mI at hK;cases hdst:o.dst with
  |none=>
   rw[hdst]at hK;exact⟨_,_,_,hK,.inl ⟨u,fN hg,hyld,by rw[hdst];exact he,hr⟩⟩
  |some d=>
   rw[hdst]at hK hdo;simp only at hK;cases hm:gx d S with
   |true=>rw[hm]at hK;exact hK.elim
   |false=>
    rw[hm]at hK;obtain⟨he',hr'⟩:=he.putV hr (d6 hm) (av:=x) hu;exact⟨_,_,_,hK,.inl ⟨u,fN hg,hyld,by rw[hdst];exact he',hr'⟩⟩
 ·rename_i j bb hg;split at h
  ·rename_i oj hj;split at h
   ·rename_i s hs;have key: ∀(q:di) (k:Nat) (c:Bool),(aD R s=some (.gd q ⟨false,[(k,.d .bool c)]⟩)∨(aD R s=none∧aD e s=some (.v ⟨false,[(k,.d .bool c)]⟩)∧q= []))→ya T G o rest s ((s,bb)::q) e n H R S K→F7 P nt all o W (bd U (aj ρ H++Y) W ρ n H) ce (fun e' R' S'=>rest e' n H R' S' K):=fun q k c hc h=>by
     obtain⟨hps,hw⟩:=mS (nt:=nt) (fun k c u (h:cM _ ⟨false,[(k,.d .bool c)]⟩ u)=>aC.boolE (show bJ _ [(k,.d .bool c)] [u]from h).one1.1) he hr hg hj hs hc;unfold ya at h;rw[hna]at h;have h:lN (qT R e ((s,bb)::q)) T ((s,bb)::q) o R e H fun v=>(match (generalizing:=false) v with
      | .v v=>putG rest s o.dst ((s,bb)::q) v e n H R S K
      |_=>False):=h
     obtain⟨x0,hK,hy⟩:=tY (nt:=nt) hpr (p:=(s,bb)::q) (fun A h hp=>mJ h hp) h hT M he hS;have hx0: ∃x,x0= .v x∧putG rest s o.dst ((s,bb)::q) x e n H R S K:=by
      split at hK
      ·exact⟨_,rfl,hK⟩
      ·exact hK.elim
     obtain⟨x,rfl,hK⟩:=hx0;obtain⟨d,hdst,hn,hK,h1,h2,h3⟩:=oK hdo hK;rcases hw with⟨hp,hw⟩|⟨hp,hw⟩
     ·obtain⟨u,hyld,hu⟩:=hy hp;obtain⟨he',hr'⟩:=he.putG hr h1 h2 h3 hps (x:=x) (cv:=u) (fun _=>hu) (fun hn=>absurd hp hn);exact⟨_,_,_,hK,.inl ⟨u,hw,hyld,by rw[hdst];exact he',hr'⟩⟩
     ·obtain⟨he',hr'⟩:=he.putG hr h1 h2 h3 hps (x:=x) (cv:=undef) (fun h=>absurd h hp) (fun _=>rfl);exact⟨_,_,_,hK,.inr ⟨hw,by rw[hdst];exact he',hr'⟩⟩
    split at h
    ·rename_i q k c hc;exact key q k c (.inl hc) h
    ·exact h.elim
    ·rename_i hR;split at h
     ·rename_i k c hc;exact key [] k c (.inr ⟨hR,hc,rfl⟩) h
     ·exact h.elim
   ·exact h.elim
  ·exact h.elim
def F8(P:Program)(nt:Nat)(all:List Oper)(o:Oper)(X:List Nat)(w:World)(ρ:Nat→Rz)(n:Nat)(H:Hs U)(ce:aI)(C:En U→Nat→Hs U→En U→List Nat→Prop):Prop:=
 (lU nt ce all.toArray o true∧bH P nt ce w o fun ce' w'=> ∃e' n' H' R' S' ρ',C e' n' H' R' S'∧aX U X (· =w') ρ' n' H'∧bQ ρ n H w ρ' n' H' w'∧aJ (Vw U X w' ρ' n' H') R' e' ce'∧d7 R' e' S'∧(mH o=false∨o.guard≠none→Fr [] w w'∧n'=n∧H'=H∧ρ'=ρ))∨
 (lU nt ce all.toArray o false∧ ∃e' R' S',C e' n H R' S'∧aJ (Vw U X w ρ n H) R' e' (ce.dst o.dst undef)∧d7 R' e' S')
omit [ao]in
theorem rN{v:Value}{K:aI→World→Prop}(hd:(o.dst.all (Nat.blt · nt))=true)(hy:ci P nt ce (· =w) o v)(h:K (ce.dst o.dst v) w):bH P nt ce w o K:=fun a r=>by
 unfold Oper.wp;rw[hy a r w rfl];exact⟨_,r.dst hd v,h⟩
theorem nz(hG:dF P U G)(hT:bf U P T){all:List Oper}{rest:KR U}{K:KS U}(h:ig T G all o rest e n H R S K)(M:aX U X (· =w) ρ n H)(he:aJ (Vw U X w ρ n H) R e ce)(hr:d7 R e S)(hdo:(o.dst.all (Nat.blt · nt))=true):
  F8 P nt all o X w ρ n H ce (fun e' n' H' R' S'=>rest e' n' H' R' S' K):=by
 cases hna:mH o with
 |false=>
  obtain⟨e',R',S',hK,hh⟩:=qS (nt:=nt) hG.1 hna hT h M he hr ⟨w,rfl⟩ hdo;rcases hh with⟨v,hw,hy,he',hr'⟩|⟨hw,he',hr'⟩
  ·exact .inl ⟨hw,rN hdo hy ⟨_,_,_,_,_,_,hK,M,M.stp0,he',hr',fun _=>⟨Fr.refl _ _,rfl,rfl,rfl⟩⟩⟩
  ·exact .inr ⟨hw,_,_,_,hK,he',hr'⟩
 |true=>
  unfold ig at h;split at h
  ·rename_i hg;rw[hna]at h;have h:zy T G o R e n H fun v n H=>mI rest o.dst v e n H R S K:=h;refine .inl ⟨fN hg,bH.mono (xe hG hT hdo h M he) ?_⟩;rintro ce' w' ⟨av,n',H',ρ',cv,hK,rfl,hav,M',s'⟩;unfold mI at hK;cases hdst:o.dst with
   |none=>
    rw[hdst]at hK;exact⟨_,_,_,_,_,_,hK,M',s',he.step s',hr,fun hh=>(by rcases hh with hh|hh;(· rw[hna]at hh;cases hh);(· exact absurd hg hh))⟩
   |some d=>
    rw[hdst]at hK;simp only at hK;cases hm:gx d S with
    |true=>rw[hm]at hK;exact hK.elim
    |false=>
     rw[hm]at hK;obtain⟨he',hr'⟩:=(he.step s').putV hr (d6 hm) hav;exact⟨_,_,_,_,_,_,hK,M',s',he',hr',fun hh=>(by rcases hh with hh|hh;(· rw[hna]at hh;cases hh);(· exact absurd hg hh))⟩
  ·rename_i j bb hg;split at h
   ·rename_i oj hj;split at h
    ·rename_i s hs;have key: ∀(q:di) (k:Nat) (c:Bool),(aD R s=some (.gd q ⟨false,[(k,.d .bool c)]⟩)∨(aD R s=none∧aD e s=some (.v ⟨false,[(k,.d .bool c)]⟩)∧q= []))→ya T G o rest s ((s,bb)::q) e n H R S K→F8 P nt all o X w ρ n H ce (fun e' n' H' R' S'=>rest e' n' H' R' S' K):=fun q k c hc h=>by
      obtain⟨hps,hw⟩:=mS (nt:=nt) ug he hr hg hj hs hc;unfold ya at h;rw[hna]at h;have h:wF T G ((s,bb)::q) o R e n H fun v=>putG rest s o.dst ((s,bb)::q) v e n H R S K:=h;obtain⟨x,hK,hx⟩:=DR (nt:=nt) hG hT h M he;obtain⟨d,hdst,hn,hK,h1,h2,h3⟩:=oK hdo hK;rcases hw with⟨hp,hw⟩|⟨hp,hw⟩
      ·refine .inl ⟨hw,hx hp hdst hn fun v w' hv hf=>?_⟩;obtain⟨M',s'⟩:=M.keep0 hf;obtain⟨he',hr'⟩:=(he.step s').putG hr h1 h2 h3 hps (x:=x) (cv:=v) (fun _=>hv) (fun hn=>absurd hp hn);exact⟨_,_,_,_,_,_,hK,M',s',he',hr',fun _=>⟨hf,rfl,rfl,rfl⟩⟩
      ·obtain⟨he',hr'⟩:=he.putG hr h1 h2 h3 hps (x:=x) (cv:=undef) (fun h=>absurd h hp) (fun _=>rfl);exact .inr ⟨hw,_,_,_,hK,by rw[hdst];exact he',hr'⟩
     split at h
     ·rename_i q k c hc;exact key q k c (.inl hc) h
     ·exact h.elim
     ·rename_i hR;split at h
      ·rename_i k c hc;exact key [] k c (.inr ⟨hR,hc,rfl⟩) h
      ·exact h.elim
    ·exact h.elim
   ·exact h.elim
end
end Go.Proofs.YtmpeiadlohbikaaGreatDoor.V
end

section
set_option linter.unusedVariables false
set_option linter.unusedSimpArgs false
namespace Go.Proofs.YtmpeiadlohbikaaGreatDoor.V
open Go.RowKit
section
variable [ao] {U:bD} {P:Program} {nt:Nat} {T:cW U} {G:c6 U} {X Y:List Nat} {w w' w0:World} {W:World→Prop} {ρ ρ' ρ0:Nat→Rz} {n n' n0 b:Nat} {H H' H0 L:Hs U} {R e e':En U} {ce:aI} {o:Oper} {S:List Nat} {p:Nat→Bool}
def OJ:aH U→Prop
 | .cells _ _=>True
 | .map _ _=>True
 | .mapr _ _ _ _ _=>True
 | .it _ _=>True
 |_=>False
def OK:aH U→Prop
 | .row _ _ _ _=>True
 | .ext _ _ _ _=>True
 |_=>False
def Od(p:Nat→Bool)(H:Hs U)(x y:Nat×aH U):Prop:=x.1=y.1∧(y.2=x.2∨(p x.1=true∧ ∃z v l0 m0 l m,aD H x.1=some z∧OK z∧bg (some z)=some (v,l0,m0)∧x.2= .hid v l m∧y.2=z)∨(p x.1=true∧ ∃z,aD H x.1=some z∧OJ z∧x.2= .dead∧y.2=z))
omit [ao]in
theorem rO: ∀{H':Hs U} {K:Hs U→Prop},Dg p H H' K→ ∃L,K L∧L.map (·.1)=H'.map (·.1)∧ ∀y∈L,∃x∈H',Od p H x y
 | [],K,h=>⟨[],h,rfl,fun y hy=>by cases hy⟩
 |x::r,K,h=>by
  have h:Dg p H r fun r=>match (generalizing:=false) p x.1,aD H x.1,x.2 with
   |true,some (.row v e xs t),.hid v' _ _=>bif Nat.beq v v' then K ((x.1,.row v e xs t)::r)else False
   |true,some (.cells l t),.dead=>K ((x.1,.cells l t)::r)
   |true,some (.map d l),.dead=>K ((x.1,.map d l)::r)
   |true,some (.mapr d l l' q g),.dead=>K ((x.1,.mapr d l l' q g)::r)
   |true,some (.it i g),.dead=>K ((x.1,.it i g)::r)
   |true,some (.ext v d xs op),.hid v' _ _=>bif Nat.beq v v' then K ((x.1,.ext v d xs op)::r)else False
   |_,_,y=>K ((x.1,y)::r):=h
  obtain⟨L,h,hm,hL⟩:=rO h;have mk: ∀y,y.1=x.1→Od p H x y→ ∀z∈y::L,∃x'∈x::r,Od p H x' z:=fun y _ hy z hz=>by
   rcases List.mem_cons.1 hz with rfl|hz
   ·exact⟨x,List.mem_cons_self,hy⟩
   ·obtain⟨x',h1,h2⟩:=hL z hz;exact⟨x',List.mem_cons_of_mem _ h1,h2⟩
  split at h
  ·rename_i v e xs t v' l m h1 h2 h3;cases hb:Nat.beq v v' with
   |false=>rw[hb]at h;exact h.elim
   |true=>
    rw[hb]at h;simp only[cond_true]at h;have hv:=Nat.eq_of_beq_eq_true hb;subst hv;exact⟨_,h,by simp[hm],mk _ rfl ⟨rfl,.inr (.inl ⟨h1,_,v,_,_,l,m,h2,trivial,rfl,h3,rfl⟩)⟩⟩
  ·rename_i l t h1 h2 h3;exact⟨_,h,by simp[hm],mk _ rfl ⟨rfl,.inr (.inr ⟨h1,_,h2,trivial,h3,rfl⟩)⟩⟩
  ·rename_i d l h1 h2 h3;exact⟨_,h,by simp[hm],mk _ rfl ⟨rfl,.inr (.inr ⟨h1,_,h2,trivial,h3,rfl⟩)⟩⟩
  ·rename_i d l l' q g h1 h2 h3;exact⟨_,h,by simp[hm],mk _ rfl ⟨rfl,.inr (.inr ⟨h1,_,h2,trivial,h3,rfl⟩)⟩⟩
  ·rename_i i g h1 h2 h3;exact⟨_,h,by simp[hm],mk _ rfl ⟨rfl,.inr (.inr ⟨h1,_,h2,trivial,h3,rfl⟩)⟩⟩
  ·rename_i v d xs op v' l m h1 h2 h3;cases hb:Nat.beq v v' with
   |false=>rw[hb]at h;exact h.elim
   |true=>
    rw[hb]at h;simp only[cond_true]at h;have hv:=Nat.eq_of_beq_eq_true hb;subst hv;exact⟨_,h,by simp[hm],mk _ rfl ⟨rfl,.inr (.inl ⟨h1,_,v,_,_,l,m,h2,trivial,rfl,h3,rfl⟩)⟩⟩
  ·exact⟨_,h,by simp[hm],mk _ rfl ⟨rfl,.inl rfl⟩⟩
theorem aX.sub{W':World→Prop}(M:aX U X W ρ n H)(h: ∀w,W' w→W w):aX U X W' ρ n H:=by
 have mv:Mv (aj ρ H++X) W (aj ρ H++X) W':=fun w' hw'=>⟨w',[],h _ hw',Fr.refl _ _,fun _ h=>(by cases h),fun y hy=> .inl hy⟩;refine⟨M.nd,M.lt,fun q hq=>?_,M.inj,M.dj,fun w' hw'=>M.lo w' (h _ hw'),M.xs,⟨M.gv.1,fun w hw=>M.gv.2 w (h w hw)⟩⟩;have hM:=M.ent q hq;obtain⟨i,x⟩:=q;cases x with
 |cells l t=>obtain⟨g,vs,hA,hs,hw⟩:=hM;exact⟨g,vs,hA,hs.imp fun x vs hx=>hx.cong mv fun i=>rfl,fun w' hw'=>hw w' (h _ hw')⟩
 |row v s xs t=>obtain⟨hm,cs,sp,hd,ho,hw⟩:=hM;exact⟨hm,cs,sp,aR.mv mv hd,ho,fun g hg w' hw'=>hw g hg w' (h _ hw')⟩
 |map d l=>obtain⟨hk,g,es,clock,m,hA,hm,hd,hw⟩:=hM;exact⟨hk,g,es,clock,m,hA,hm,aK.mv mv hd,fun w' hw'=>hw w' (h _ hw')⟩
 |mapr d l r q0 q=>obtain⟨hk,g,es,clock,m,lv,cv,hA,hm,hd,hl,hc,hw⟩:=hM;exact⟨hk,g,es,clock,m,lv,cv,hA,hm,aK.mv mv hd,aK.mv mv hl,aK.mv mv hc,fun w' hw'=>hw w' (h _ hw')⟩
 |it k q=>obtain⟨r,g,hA,hA2,hk,hrk,hw⟩:=hM;exact⟨r,g,hA,hA2,hk,hrk,fun w' hw'=>hw w' (h _ hw')⟩
 |frz v s xs=>obtain⟨hm,cs,hd,hr,h1,h2⟩:=hM;exact⟨hm,cs,aR.mv mv hd,hr.mv mv,h1,h2⟩
 |ext v d xs op=>obtain⟨C,hd,hw,ho⟩:=hM;exact⟨C,d.mv mv.fr hd,fun g hg w' hw'=>hw g hg w' (h _ hw'),ho.imp fun _ _ hx=>hx.cong mv fun i=>rfl⟩
 |clo f l=>trivial
 |hid v l m=>trivial
 |dead=>trivial
theorem tz(M:aX U X (· =w) ρ n H)(M':aX U (aj ρ (bG (np p) H)++X) (· =w') ρ' n' H')(s:bQ ρ n (bG p H) w ρ' n' H' w')(hm:L.map (·.1)=H'.map (·.1))(hL: ∀y∈L,∃x∈H',Od p H x y):
  aX U X (· =w') ρ' n' L∧bQ ρ n H w ρ' n' L w'∧(∀i,bg (aD L i)=bg (aD H' i))∧Mv (aj ρ' H'++(aj ρ (bG (np p) H)++X)) (· =w') (aj ρ' L++X) (· =w')∧(∀g∈aj ρ' (bG p L),g∈aj ρ (bG p H)∨w.heap.size≤g):=by
 have hnd:(L.map (·.1)).Nodup:=by rw[hm];exact M'.nd
 have res: ∀x∈H',p x.1=true→ ∀y,aD H x.1=some y→(∀v l0 m0,bg (some y)=some (v,l0,m0)→OK y→ ∃l m,x.2= .hid v l m)→(OJ y→x.2= .dead)→(∀v l0 m0,bg (some y)=some (v,l0,m0)→OK y→ρ' x.1=ρ x.1∧bg (some x.2)=bg (some y))∧(OJ y→ρ' x.1=ρ x.1):=fun x hx hp y hy h1 h2=>by
  have hin:=af hy;have hlt:=M.lt _ hin;have hlk:=dC M'.nd (show(x.1,x.2)∈H' from hx);refine⟨fun v lz mz ey er=>?_,fun ey=>?_⟩
  ·obtain⟨l,m,e1⟩:=h1 v lz mz ey er;obtain⟨v0,l0,m0,r0,_,r1⟩:=s.row x.1 hlt v l m (by rw[hlk,e1];rfl);rw[dY,hy,ey]at r0;injection r0 with r0;injection r0 with a1 a2;injection a2 with a2 a3;obtain⟨b1,b2,b3⟩:=r1 a1.symm;refine⟨b1,?_⟩;rw[e1,ey,b2,b3,←a2,←a3];rfl
  ·exact s.cel x.1 hlt (by rw[dY,hy];cases y<;>first|rfl|exact ey.elim)
 have key: ∀y∈L,∃x∈H',x.1=y.1∧(y.2=x.2∨(p y.1=true∧aD H y.1=some y.2∧ρ' y.1=ρ y.1∧bg (some x.2)=bg (some y.2))):=fun y hy=>by
  obtain⟨x,hx,e1,hr⟩:=hL y hy;refine⟨x,hx,e1,?_⟩;rcases hr with hr|⟨hp,z,v,lz,mz,l,m,h1,hz,hzr,h2,h3⟩|⟨hp,z,h1,hc,h2,h3⟩
  ·exact .inl hr
  ·have r:=(res x hx hp _ h1 (fun v' l' m' ee _=>by rw[hzr]at ee;injection ee with ee;injection ee with ee _;subst ee;exact⟨l,m,h2⟩) (fun ee=>by cases z<;>first|exact ee.elim|exact hz.elim)).1 _ _ _ hzr hz;rw[←e1,h3];exact .inr ⟨hp,h1,r.1,r.2⟩
  ·have r:=(res x hx hp _ h1 (fun v' l' m' _ ee=>by cases z<;>first|exact ee.elim|exact hc.elim) (fun _=>h2)).2 hc;rw[←e1,h3];exact .inr ⟨hp,h1,r,by rw[h2];cases z<;>first|rfl|exact hc.elim⟩
 have liv: ∀(ρa ρb:Nat→Rz) (i:Nat) (x:aH U),ρa i=ρb i→Lv ρa (i,x)=Lv ρb (i,x):=fun ρa ρb i x h=>by funext g;cases x<;>simp only[Lv,h]
 have blk: ∀y∈L,∀g,Lv ρ' y g→g∈aj ρ' H'∨(p y.1=true∧(y.1,y.2)∈H∧Lv ρ (y.1,y.2) g∧g∈aj ρ (bG (np p) H)):=fun y hy g hg=>by
  obtain⟨x,hx,e1,h⟩:=key y hy;rcases h with h|⟨hp,h1,h2,_⟩
  ·obtain⟨i,y⟩:=y;obtain⟨j,x⟩:=x;simp only at e1 h;subst e1;subst h;exact .inl (aA.2 ⟨_,hx,hg⟩)
  ·have hg':Lv ρ (y.1,y.2) g:=by rw[←liv ρ' ρ _ _ h2];exact hg
   exact .inr ⟨hp,af h1,hg',ic (af h1) (by simp[np,hp]) hg'⟩
 have hown: ∀g∈aj ρ' L,g∈aj ρ' H'∨g∈aj ρ (bG (np p) H):=fun g hg=>by
  obtain⟨y,hy,hg⟩:=aA.1 hg;rcases blk y hy g hg with h|h
  ·exact .inl h
  ·exact .inr h.2.2.2
 have hrow: ∀i,bg (aD L i)=bg (aD H' i):=fun i=>by
  cases hi:aD L i with
  |some y=>
   have hin:=af hi;obtain⟨⟨j,x⟩,hx,e1,h⟩:=key _ hin;simp only at e1 h;subst e1;rw[dC M'.nd hx];rcases h with h|⟨_,_,_,h⟩
   ·rw[h]
   ·exact h.symm
  |none=>
   have:aD H' i=none:=tZ fun q hq e1=>by
    have h1:i∈L.map (·.1):=by rw[hm];exact List.mem_map.2 ⟨q,hq,e1⟩
    obtain⟨⟨j,y⟩,hy,e2⟩:=List.mem_map.1 h1;simp only at e2;subst e2;rw[dC hnd hy]at hi;cases hi
   rw[this]
 have mv:Mv (aj ρ' H'++(aj ρ (bG (np p) H)++X)) (· =w') (aj ρ' L++X) (· =w'):=fun w2 h2=>⟨w2,[],h2,Fr.refl _ _,fun _ h=>(by cases h),fun y hy=> .inl (by
  rcases List.mem_append.1 hy with hy|hy
  ·rcases hown y hy with h|h
   ·exact List.mem_append_left _ h
   ·exact List.mem_append_right _ (List.mem_append_left _ h)
  ·exact List.mem_append_right _ (List.mem_append_right _ hy))⟩
 have st:bQ ρ n H w ρ' n' L w':=by
  refine⟨M.xd,s.nn,s.fr.mono fun g hg=>gq.2 (.inl hg),fun g hg=>?_,fun i hi v l m h=>?_,fun i hi h=>s.cel i hi (by rw[dY];exact h)⟩
  ·rcases hown g hg with h|h
   ·rcases s.nb g h with h|h
    ·exact .inl (gq.2 (.inl h))
    ·exact .inr h
   ·exact .inl (gq.2 (.inr h))
  ·rw[hrow]at h;obtain⟨v0,l0,m0,r0,r1⟩:=s.row i hi v l m h;exact⟨v0,l0,m0,by rw[←dY (p:=p)];exact r0,r1⟩
 refine⟨⟨hnd,fun y hy=>?_,fun y hy=>?_,fun y hy z hz g h1 h2=>?_,fun g hg hx=>?_,fun w2 h2 x hx=>M'.lo w2 h2 x (List.mem_append_right _ hx),M.xs,M.gv.fr st.fr M.xd⟩,st,hrow,mv,fun g hg=>?_⟩
 ·obtain⟨x,hx,e1,_⟩:=key y hy;rw[←e1];exact M'.lt x hx
 ·obtain⟨x,hx,e1,h⟩:=key y hy;rcases h with h|⟨hp,h1,h2,_⟩
  ·have hM:=M'.ent x hx;rw[e1,←h]at hM;have hcg: ∀x vs,bd U (aj ρ' H'++(aj ρ (bG (np p) H)++X)) (· =w') ρ' n' H' x vs→bd U (aj ρ' L++X) (· =w') ρ' n' L x vs:=fun x vs h=>h.cong mv hrow;obtain⟨i,y⟩:=y;simp only at hM⊢;cases y with
   |cells l t=>obtain⟨g,vs,hA,hs,hw⟩:=hM;exact⟨g,vs,hA,hs.imp hcg,hw⟩
   |row v s xs t=>obtain⟨hm,cs,sp,hd,ho,hw⟩:=hM;exact⟨hm,cs,sp,aR.mv mv hd,ho,hw⟩
   |map d l=>obtain⟨hk,g,es,clock,m,hA,hm,hd,hw⟩:=hM;exact⟨hk,g,es,clock,m,hA,hm,aK.mv mv hd,hw⟩
   |mapr d l r q0 q=>obtain⟨hk,g,es,clock,m,lv,cv,hA,hm,hd,hl,hc,hw⟩:=hM;exact⟨hk,g,es,clock,m,lv,cv,hA,hm,aK.mv mv hd,aK.mv mv hl,aK.mv mv hc,hw⟩
   |it k q=>obtain⟨r,g,hA,hA2,hk,hrk,hw⟩:=hM;exact⟨r,g,hA,hA2,hk,by rw[hrow];exact hrk,hw⟩
   |frz v s xs=>obtain⟨hm,cs,hd,hr,h1,h2⟩:=hM;exact⟨hm,cs,aR.mv mv hd,hr.mv mv,h1,h2⟩
   |ext v d xs op=>obtain⟨C,hd,hw,ho⟩:=hM;exact⟨C,d.mv mv.fr hd,hw,ho.imp hcg⟩
   |clo f l=>trivial
   |hid v l m=>trivial
   |dead=>trivial
  ·have hin:=af h1;refine lQ.step st (M.ent _ hin) h2 fun g hg=>s.fr.block g (cl M _ hin g hg) fun hgo=>?_;obtain⟨j,z,g1,g2,g3⟩:=gp hgo;have:=M.inj _ hin _ g1 g hg g3;simp only at this;rw[this,g2]at hp;cases hp
 ·have dj: ∀g,g∈aj ρ' H'→g∈aj ρ (bG (np p) H)→False:=fun g a b=>M'.dj g a (List.mem_append_left _ b);obtain⟨x,hx,e1,hh1⟩:=key y hy;obtain⟨x2,hx2,e2,hh2⟩:=key z hz;rcases blk y hy g h1 with a|⟨_,a1,a2,a3⟩
  ·rcases blk z hz g h2 with c|⟨_,c1,c2,c3⟩
   ·have f1:Lv ρ' x g∨g∈aj ρ (bG (np p) H):=by
     rcases hh1 with h|⟨hp,q1,q2,_⟩
     ·left;obtain⟨i,y⟩:=y;obtain⟨j,x⟩:=x;simp only at e1 h;subst e1;subst h;exact h1
     ·right;exact ic (af q1) (by simp[np,hp]) (by rw[←liv ρ' ρ _ _ q2];exact h1)
    have f2:Lv ρ' x2 g∨g∈aj ρ (bG (np p) H):=by
     rcases hh2 with h|⟨hp,q1,q2,_⟩
     ·left;obtain⟨i,y⟩:=z;obtain⟨j,x⟩:=x2;simp only at e2 h;subst e2;subst h;exact h2
     ·right;exact ic (af q1) (by simp[np,hp]) (by rw[←liv ρ' ρ _ _ q2];exact h2)
    rcases f1 with f1|f1
    ·rcases f2 with f2|f2
     ·rw[←e1,←e2];exact M'.inj x hx x2 hx2 g f1 f2
     ·exact(dj g a f2).elim
    ·exact(dj g a f1).elim
   ·exact(dj g a c3).elim
  ·rcases blk z hz g h2 with c|⟨_,c1,c2,c3⟩
   ·exact(dj g c a3).elim
   ·exact M.inj _ a1 _ c1 g a2 c2
 ·rcases hown g hg with h|h
  ·exact M'.dj g h (List.mem_append_right _ hx)
  ·exact M.dj g (gq.2 (.inr h)) hx
 ·obtain⟨i,y,g1,g2,g3⟩:=gp hg;rcases blk _ g1 g g3 with h|⟨h,_⟩
  ·exact s.nb g h
  ·simp only at h;rw[g2]at h;cases h
end
end Go.Proofs.YtmpeiadlohbikaaGreatDoor.V
end

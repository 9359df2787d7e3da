/- Memory: a list of known blocks (Hp), what may have changed (Fr), and the rules for operations that read or write memory. -/
import Derived.Handy
import Derived.WalkSpells
import Derived.WalkLawsBesides
import Derived.OrdersHeld
import Derived.Laws.CopyRow
import Derived.Deep.MidRow
import Derived.LoopN
import Derived.Lib.BufferWrite
import Derived.LoopNIn
import Derived.TacticsIn
import Derived.RangeFuncKeeps
import Derived.RangeFuncCalls
section
namespace Go.Proofs.YtmpeiadlohbikaaGreatDoor
open Go.RowKit
theorem cu{d k:Nat}(e: ¬d=k):Nat.beq d k=false:=by
 rcases h:Nat.beq d k with _|_
 ·rfl
 ·exact absurd (Nat.eq_of_beq_eq_true h) e
class bB where
 ds:List Deferred
 ro:Option Nat
instance(priority:=100) dfs0:bB:=⟨[],none⟩
def Fw(ro:Option Nat):Fence:={Fence.wide with round:=ro}
abbrev aI:=List (Nat×Value)
def aI.get:aI→Nat→Option Value
 | [],_=>none
 |(j,v)::r,k=>bif Nat.beq j k then some v else aI.get r k
def aI.ev(e:aI):Operand→Option Value
 | .tmp t=>e.get t
 | .const v=>some v
 | .global g=>some (.pointer (some ⟨g,0,none⟩))
 | .func f=>some (.func (.func f) #[] #[])
def aI.evs(e:aI):List Operand→Option (List Value)
 | []=>some []
 |x::r=>match e.ev x,aI.evs e r with
  |some v,some vs=>some (v::vs)
  |_,_=>none
section
variable [bB]
structure g7(n:Nat)(env:aI)(a:Act):Prop where
 size:a.tmps.size=n
 defers:a.defers=bB.ds
 get: ∀k v,env.get k=some v→a.tmps[k]? =some v
theorem g7.eval{n:Nat}{env:aI}{a:Act}(h:g7 n env a){x:Operand}{v:Value}(hx:env.ev x=some v):a.eval x=v:=by
 cases x with
 |tmp t=>
  have:=h.get t v hx;simp[Act.eval,this]
 |const u=>simpa[aI.ev,Act.eval]using hx
 |global g=>simpa[aI.ev,Act.eval]using hx
 |func f=>simpa[aI.ev,Act.eval]using hx
theorem g7.evals{n:Nat}{env:aI}{a:Act}(h:g7 n env a): ∀{xs:List Operand} {vs:List Value},env.evs xs=some vs→xs.map a.eval=vs
 | [],vs,hx=>by simpa[aI.evs]using hx
 |x::r,vs,hx=>by
  simp only[aI.evs]at hx;split at hx
  ·rename_i v us h1 h2;simp only[Option.some.injEq]at hx;rw[←hx,List.map_cons,h.eval h1,h.evals h2]
  ·cases hx
theorem g7.put{n d:Nat}{env:aI}{a:Act}(h:g7 n env a)(hd:Nat.blt d n=true)(v:Value):g7 n ((d,v)::env) (a.put (some d) v):=by
 have hd':d<n:=by simpa[Nat.blt_eq]using hd
 refine⟨by simp[Act.put,h.size],by simp[Act.put,h.defers],fun k u hk=>?_⟩;unfold aI.get at hk;by_cases e:d=k
 ·subst e;simp at hk;subst hk;simp[Act.put,h.size,hd']
 ·have hb:Nat.beq d k=false:=cu e;rw[hb]at hk;simp only[cond_false]at hk;simp[Act.put,Array.getElem?_setIfInBounds_ne e,h.get k u hk]
def aI.Le:aI→aI→Prop
 | [],_=>True
 |(k,v)::r,e=>e.get k=some v∧aI.Le r e
omit [bB]in
theorem aI.Le.get{e:aI}: ∀{s:aI},aI.Le s e→ ∀k v,s.get k=some v→e.get k=some v
 | [],_,k,v,hk=>by simp[aI.get]at hk
 |(j,u)::r,h,k,v,hk=>by
  unfold aI.get at hk;by_cases ejk:j=k
  ·subst ejk;simp at hk;subst hk;exact h.1
  ·have hb:Nat.beq j k=false:=cu ejk;rw[hb]at hk;exact aI.Le.get h.2 k v hk
theorem g7.weak{n:Nat}{env env':aI}{a:Act}(h:g7 n env a)(hl:aI.Le env' env):g7 n env' a:=
 ⟨h.size,h.defers,fun k v hk=>h.get k v (hl.get k v hk)⟩
abbrev EQ:=Exit→aI→World→Prop
def Lf(n:Nat)(Q:EQ):Exit→Act→World→Prop:=fun e a w=> ∃env,g7 n env a∧Q e env w
def Wp(P:Program)(n:Nat)(c:Code)(Q:EQ)(env:aI)(w:World):Prop:= ∀a,g7 n env a→c.wpIn (Fw bB.ro) 0 P (Lf n Q) a w
def qD(o:Oper):Bool:=match o.op with
 | .defer _=>false
 |_=>true
omit [bB]in
theorem Bt{o:Oper}(h:qD o=true): ∀c,o.op≠ .defer c:=fun c hc=>by simp[qD,hc]at h
omit [bB]in
theorem Oper.semFw{o:Oper}(ro:Option Nat)(h:qD o=true)(ρ:Operand→Value):o.semAt (Fw ro).round ρ=execOp ρ o:=Oper.semAt_eq _ _ _ (Bt h)
omit [bB]in
theorem EY{o:Oper}{ro:Option Nat}{P:Program}{a:Act}{K:Act→World→Prop}{Q:Exit→Act→World→Prop}{r:Result Next}(h:o.upon P a K Q r):o.uponIn (Fw ro) 0 P a K Q r:=by
 cases r with
 |ok x w'=>
  cases x<;>simp only[Oper.upon,Oper.uponIn]at h⊢ <;>
   first
    |exact h
    |(refine⟨fun h=>by simp[Fw,Fence.wide]at h,?_⟩;exact(callsIn_wide (n:=0 - 1)).2 h)
    |(refine⟨fun h=>by simp[Fw,Fence.wide]at h,fun c cs _=>?_⟩;obtain⟨v,w',r,s⟩:=h c cs;exact⟨v,w',r,stepsIn_wide.2 s⟩)
 |halt x w'=>cases x<;>simp only[Oper.upon,Oper.uponIn]at h⊢ <;>exact h
omit [bB]in
theorem nj{o:Oper}{ro:Option Nat}{P:Program}{a:Act}{w:World}{K:Act→World→Prop}{Q:Exit→Act→World→Prop}(hnd:qD o=true)(h:o.wp P a w K Q):o.wpIn (Fw ro) 0 P a w K Q:=by
 refine⟨fun _ _=>trivial,?_⟩;rw[Oper.semFw ro hnd];exact EY h
omit [bB]in
theorem nk{ro:Option Nat}{P:Program}{ops:Array Oper}{Q:Exit→Act→World→Prop}(hl: ¬LetsOut Q)(hnd:ops.toList.all qD=true): ∀(l:List Nat) (a:Act) (w:World),wpOps P ops Q l a w→wpOpsIn (Fw ro) 0 P ops Q l a w
 | [],_,_,h=>h
 |i::l,a,w,h=>by
  simp only[wpOps]at h;simp only[wpOpsIn];cases ho:ops[i]? with
  |none=>simp only[ho]at h⊢;exact nk hl hnd l a w h
  |some o=>
   simp only[ho]at h⊢;have hn:qD o=true:=List.all_eq_true.1 hnd o (by
    obtain⟨h1,h2⟩:=Array.getElem?_eq_some_iff.1 ho;rw[←h2];exact Array.getElem_mem_toList h1)
   split
   ·rename_i hw;rw[if_pos hw]at h;rcases h with h|h
    ·exact nj hn (Oper.wp_mono (fun a w=>nk hl hnd l a w) h)
    ·exact absurd h.2 hl
   ·rename_i hw;rw[if_neg hw]at h;exact⟨fun _ _=>trivial,nk hl hnd l _ w h⟩
omit [bB]in
theorem rE{ro:Option Nat}{id:Nat}{P:Program}{ops:Array Oper}{Q:Exit→Act→World→Prop}{a:Act}{w:World}(hm:P.follows .mixedOrders=true)(hl: ¬LetsOut Q)(hnd:ops.toList.all qD=true)
  (h:wpAny P .any ops Q ops.size (Array.replicate ops.size false) a w.drew):(Code.region id ops true).wpIn (Fw ro) 0 P Q a w:=
 wpIn_region_draw fun t=>nk hl hnd _ a _ (by
  simp only[Region.schedule,hm,Bool.true_or,if_true];exact wpAny_sound ops.size t _ a _ h)
omit [bB]in
theorem Bu{K:Act→World→Prop}: ¬LetsOut (fun e a w=>match e with| .normal=>K a w|_=>False):=fun⟨_,_,h⟩=>h
def Ls(P:Program)(n:Nat)(ops:Array Oper)(Q:EQ)(l:List Oper)(env:aI)(w:World):Prop:=l.all qD=true→ ∀a,g7 n env a→wpListIn (Fw bB.ro) 0 P ops (Lf n Q) l a w
def Th(K:aI→World→Prop)(Q:EQ):EQ
 | .normal,env,w=>K env w
 |e,env,w=>Q e env w
def Ib(id:Nat)(Q:EQ):EQ
 | .exit i,env,w=>bif Nat.beq i id then Q .normal env w else Q (.exit i) env w
 |e,env,w=>Q e env w
section
variable {P:Program} {n:Nat} {Q:EQ} {env:aI} {w:World} {c x y:Code}
theorem xN(env':aI)(hl:aI.Le env' env)(h:Wp P n c Q env' w):Wp P n c Q env w:=fun a r=>h a (r.weak hl)
theorem dW(h:Q .normal env w):Wp P n .skip Q env w:=fun _ r=>wpIn_skip ⟨env,r,h⟩
theorem Bv{l:Nat}(h:Q .normal env w):Wp P n (.label l) Q env w:=fun _ r=>wpIn_label ⟨env,r,h⟩
theorem fH{id:Nat}(h:Q (.exit id) env w):Wp P n (.exit id) Q env w:=fun _ r=>wpIn_exit ⟨env,r,h⟩
theorem wR(h:Q .ret env w):Wp P n .ret Q env w:=fun _ r=>wpIn_ret ⟨env,r,h⟩
theorem qf(h: ∀K:aI→World→Prop,(∀e v,Wp P n y Q e v→K e v)→Wp P n x (Th K Q) env w):Wp P n (.seq x y) Q env w:=fun a r=>
 wpIn_seq (Code.wpIn_mono (fun e a' w' hq=>by
  obtain⟨env',r',q⟩:=hq;cases e with
  |normal=>exact q a' r'
  |_=>exact⟨env',r',q⟩) (h (Wp P n y Q) (fun _ _ h=>h) a r))
theorem fW{b:Operand}(hb:env.ev b=some (.bool true))(h:Wp P n x Q env w):Wp P n (.cond b x y) Q env w:=fun a r=>
 wpIn_cond_true (r.eval hb) (h a r)
theorem ib{b:Operand}(hb:env.ev b=some (.bool false))(h:Wp P n y Q env w):Wp P n (.cond b x y) Q env w:=fun a r=>
 wpIn_cond_false (r.eval hb) (h a r)
theorem gj{b:Operand}{t:Bool}(hb:env.ev b=some (.bool t))(h1:t=true→Wp P n x Q env w)(h2:t=false→Wp P n y Q env w):Wp P n (.cond b x y) Q env w:=by
 cases t
 ·exact ib hb (h2 rfl)
 ·exact fW hb (h1 rfl)
theorem bv{id:Nat}(h:Wp P n c (Ib id Q) env w):Wp P n (.block id c) Q env w:=fun a r=>
 wpIn_block (Code.wpIn_mono (fun e a' w' hq=>by
  obtain⟨env',r',q⟩:=hq;cases e with
  |exit i=>
   unfold Exit.inBlock;by_cases hi:i=id
   ·subst hi;simp only[Ib]at q⊢;simp at q⊢;exact⟨env',r',q⟩
   ·have hb:Nat.beq i id=false:=cu hi;simp only[Ib,hb,cond_false]at q;simp only[hi,if_false];exact⟨env',r',q⟩
  |_=>exact⟨env',r',q⟩) (h a r))
theorem g8{Q':EQ}(h:Wp P n c Q env w)(hq: ∀e v u,Q e v u→Q' e v u):Wp P n c Q' env w:=fun a r=>
 Code.wpIn_mono (fun _ _ _ ⟨env',r',q⟩=>⟨env',r',hq _ _ _ q⟩) (h a r)
theorem xO(I:Nat→aI→World→Prop)(m0:Nat)(h0:I m0 env w)
  (h: ∀m env w,I m env w→Wp P n c (Th (fun env' w'=> ∃m',m'<m∧I m' env' w') Q) env w):Wp P n (.loop c) Q env w:=by
 intro a r;have key: ∀N m env w a,m<N→I m env w→g7 n env a→Code.roundsIn (Fw bB.ro) 0 P c (Lf n Q) N a w:=by
  intro N;induction N with
  |zero=>intro m env w a hm;omega
  |succ N ih=>
   intro m env w a hm hi ra;rw[roundsIn_succ];refine Code.wpIn_mono (fun e a' w' hq=>?_) (h m env w hi a ra);obtain⟨env',r',q⟩:=hq;cases e with
   |normal=>
    obtain⟨m',hlt,hi'⟩:=q;exact ih m' env' w' a' (by omega) hi' r'
   |_=>exact⟨env',r',q⟩
 exact wpIn_loop_rounds (m0+1) (key (m0+1) m0 env w a (by omega) h0 r)
theorem rF{id:Nat}{l:List Oper}(h:Ls P n l.toArray Q l env w)(hnd:l.all qD=true:=by rfl):Wp P n (.region id l.toArray false) Q env w:=fun a r=>wpIn_region_lit (h hnd a r)
end
def lU(n:Nat)(env:aI)(ops:Array Oper)(o:Oper)(b:Bool):Prop:= ∀a,g7 n env a→Region.wanted o (yielded ops a.tmps)=b
theorem fN{n:Nat}{env:aI}{ops:Array Oper}{o:Oper}(hg:o.guard=none):lU n env ops o true:=fun _ _=>by simp[Region.wanted,hg]
theorem Q4{n:Nat}{env:aI}{ops:Array Oper}{o:Oper}{j s:Nat}{b c:Bool}(hg:o.guard=some (j,b))(hj:(ops[j]?).bind (·.dst)=some s)(hs:env.get s=some (.bool c)):
  lU n env ops o (c==b):=fun a r=>by
 have:=r.get s _ hs;simp[Region.wanted,hg,yielded,hj,this]
def ci(P:Program)(n:Nat)(env:aI)(S:World→Prop)(o:Oper)(v:Value):Prop:= ∀a,g7 n env a→ ∀w,S w→(execOp a.eval o).run P w= .ok (.value v) w
def bH(P:Program)(n:Nat)(env:aI)(w:World)(o:Oper)(K:aI→World→Prop):Prop:= ∀a,g7 n env a→o.wp P a w (fun a' w'=> ∃env',g7 n env' a'∧K env' w') (fun _ _ _=>False)
def aI.dst(env:aI)(d:Option Nat)(v:Value):aI:=match d with
 |some d=>(d,v)::env
 |none=>env
theorem g7.dst{n:Nat}{env:aI}{a:Act}(h:g7 n env a){d:Option Nat}(hd:(d.all (Nat.blt · n))=true)(v:Value):g7 n (env.dst d v) (a.put d v):=by
 cases d with
 |none=>exact h
 |some d=>exact h.put (by simpa using hd) v
omit [bB]in
theorem jR{P:Program}{o:Oper}{a:Act}{w:World}{K:Act→World→Prop}{Q:Exit→Act→World→Prop}(h:o.wp P a w K (fun _ _ _=>False)):o.wp P a w K Q:=by
 unfold Oper.wp at*;generalize (execOp a.eval o).run P w=r at*;cases r with
 |ok x w'=>
  cases x<;>simp only[Oper.upon]at h⊢ <;>
   first
    |exact h
    |exact Calls.mono h (fun e w'' he=>by
      cases e with
      |returned v=>exact he
      |panicked c=>exact he.elim
      |outgrown=>obtain⟨_,_,hf⟩:=he;exact hf.elim)
 |halt x w'=>cases x<;>simp only[Oper.upon]at h⊢ <;>exact h.elim
section
variable {P:Program} {n:Nat} {Q:EQ} {env:aI} {w:World} {ops:Array Oper} {o:Oper} {rest:List Oper}
theorem cw(h:Q .normal env w):Ls P n ops Q [] env w:=fun _ _ r=>wpListIn_nil ⟨env,r,h⟩
omit [bB]in
theorem uU{o:Oper}{l:List Oper}(h:(o::l).all qD=true):qD o=true:=by simp only[List.all_cons,Bool.and_eq_true]at h;exact h.1
omit [bB]in
theorem qg{o:Oper}{l:List Oper}(h:(o::l).all qD=true):l.all qD=true:=by simp only[List.all_cons,Bool.and_eq_true]at h;exact h.2
theorem EZ{v:Value}{d:Nat}(hw:lU n env ops o true)(hd:o.dst=some d)(hn:Nat.blt d n=true)(hy:ci P n env (· =w) o v)(h:Ls P n ops Q rest ((d,v)::env) w):Ls P n ops Q (o::rest) env w:=fun hnd a r=>
 wpListIn_step fun K hK=>by
  rw[if_pos (hw a r)];refine nj (uU hnd) ?_;unfold Oper.wp;rw[hy a r w rfl];have r':=r.put hn v;rw[←hd]at r';exact hK _ _ (h (qg hnd) _ r')
theorem L4{d:Nat}(hw:lU n env ops o false)(hd:o.dst=some d)(hn:Nat.blt d n=true)(h:Ls P n ops Q rest ((d,undef)::env) w):Ls P n ops Q (o::rest) env w:=fun hnd a r=>
 wpListIn_step fun K hK=>by
  rw[if_neg (by rw[hw a r];decide)];have r':=r.put hn undef;rw[←hd]at r';exact⟨fun _ _=>trivial,hK _ _ (h (qg hnd) _ r')⟩
theorem L5(hw:lU n env ops o false)(hd:o.dst=none)(h:Ls P n ops Q rest env w):Ls P n ops Q (o::rest) env w:=fun hnd a r=>
 wpListIn_step fun K hK=>by
  rw[if_neg (by rw[hw a r];decide)];refine⟨fun _ _=>trivial,hK _ _ (h (qg hnd) _ ?_)⟩;rw[hd];exact r
theorem Bw(hw:lU n env ops o true)(h:bH P n env w o (fun env' w'=>Ls P n ops Q rest env' w')):Ls P n ops Q (o::rest) env w:=fun hnd a r=>
 wpListIn_step fun K hK=>by
  rw[if_pos (hw a r)];exact nj (uU hnd) (jR (Oper.wp_mono (fun a' w' ⟨env',r',hl⟩=>hK _ _ (hl (qg hnd) a' r')) (h a r)))
end
def qh(md:Region.Mode)(ops:Array Oper):List (Bool×Nat)→Array Bool→Bool
 | [],listed=>(Region.ready md ops listed).isEmpty
 |(true,i)::r,listed=>(Region.ready md ops listed).contains i&&Region.free md ops listed i&&qh md ops r (listed.setIfInBounds i true)
 |(false,i)::r,listed=>Region.ready md ops listed== [i]&&qh md ops r (listed.setIfInBounds i true)
def Pl(P:Program)(n:Nat)(ops:Array Oper)(S:World→Prop)(Q:EQ):List (Bool×Nat)→aI→World→Prop
 | [],env,w=>Q .normal env w
 |(true,i)::r,env,w=> ∃o,ops[i]? =some o∧(o.dst.all (Nat.blt · n))=true∧
   ((lU n env ops o true∧ ∃v,ci P n env S o v∧Pl P n ops S Q r (env.dst o.dst v) w)∨(lU n env ops o false∧Pl P n ops S Q r (env.dst o.dst undef) w))
 |(false,i)::r,env,w=> ∃o,ops[i]? =some o∧(o.dst.all (Nat.blt · n))=true∧
   ((lU n env ops o true∧bH P n env w o (fun env' w'=>S w'∧Pl P n ops S Q r env' w'))∨(lU n env ops o false∧Pl P n ops S Q r (env.dst o.dst undef) w))
section
variable {P:Program} {n:Nat} {Q:EQ} {env:aI} {w:World} {ops:Array Oper} {S:World→Prop}
theorem kO(hs:Region.noSelect ops=true): ∀(l:List (Bool×Nat)) (listed:Array Bool) (env:aI) (w:World) (a:Act),qh .any ops l listed=true→g7 n env a→S w→
  Pl P n ops S Q l env w→wpAnyH P .any ops (fun e a w=>match e with| .normal=>Lf n Q .normal a w|_=>False) S l.length listed a w
 | [],listed,env,w,a,hB,r,hS,h=>wpAnyH_done (by simpa[qh]using hB) ⟨env,r,h⟩ _
 |(true,i)::l,listed,env,w,a,hB,r,hS,h=>by
  simp only[qh,Bool.and_eq_true]at hB;obtain⟨⟨h1,h2⟩,h3⟩:=hB;obtain⟨o,ho,hd,h⟩:=h;rcases h with⟨hw,v,hy,h⟩|⟨hw,h⟩
  ·exact wpAnyH_take (v:=v) ho hs h2 h1 (fun _ _ _ hf=>hf) (.inl ⟨hw a r,fun w' hS'=>hy a r w' hS'⟩) hS (kO hs l _ _ w _ h3 (r.dst hd v) hS h)
  ·exact wpAnyH_take (v:=undef) ho hs h2 h1 (fun _ _ _ hf=>hf) (.inr ⟨hw a r,rfl⟩) hS (kO hs l _ _ w _ h3 (r.dst hd undef) hS h)
 |(false,i)::l,listed,env,w,a,hB,r,hS,h=>by
  simp only[qh,Bool.and_eq_true,beq_iff_eq]at hB;obtain⟨h1,h3⟩:=hB;obtain⟨o,ho,hd,h⟩:=h;refine wpAnyH_all h1 (by simp) fun j hj=>?_;obtain rfl:j=i:=by simpa using hj
  unfold wpOp;simp only[ho];rcases h with⟨hw,h⟩|⟨hw,h⟩
  ·rw[if_pos (hw a r)];exact .inl (jR (Oper.wp_mono (fun a' w' ⟨env',r',hS',hl⟩=>⟨hS',kO hs l _ env' w' a' h3 r' hS' hl⟩) (h a r)))
  ·rw[if_neg (by rw[hw a r];decide)];exact⟨hS,kO hs l _ _ w _ h3 (r.dst hd undef) hS h⟩
def Qs(Q:EQ):EQ:=fun e env w=> ∃e':aI,(∀k v,e'.get k=some v→env.get k=some v)∧Q e e' w
theorem jS{id:Nat}{l:List Oper}(S:World→Prop)(pl:List (Bool×Nat))(hm:P.follows .mixedOrders=true)(hs:Region.noSelect l.toArray=true)
  (hB:qh .any l.toArray pl (Array.replicate l.toArray.size false)=true) (hlen:pl.length=l.toArray.size) (hS:S w.drew) (h:Pl P n l.toArray S (Qs Q) pl env w.drew) (hnd:l.all qD=true:=by rfl):Wp P n (.region id l.toArray true) Q env w:=fun a r=>by
 have h1:=kO (P:=P) (n:=n) (Q:=Qs Q) (S:=S) hs pl _ env w.drew a hB r hS h;rw[hlen]at h1;have h2:(Code.region id l.toArray true).wpIn (Fw bB.ro) 0 P (fun e a w=>match e with| .normal=>Lf n (Qs Q) .normal a w|_=>False) a w:=rE hm Bu (by simpa using hnd) (wpAny_of_held _ _ _ _ h1);refine Code.wpIn_mono (fun e a' w' hq=>?_) h2;cases e<;>first|exact hq.elim|(obtain⟨env',r',e2,hsub,q⟩:=hq;exact⟨e2,⟨r'.size,r'.defers,fun k v hk=>r'.get k v (hsub k v hk)⟩,q⟩)
theorem g7.sub{a:Act}{e:aI}(r:g7 n env a)(h: ∀k v,e.get k=some v→env.get k=some v):g7 n e a:=⟨r.size,r.defers,fun k v hk=>r.get k v (h k v hk)⟩
theorem mq(h:Q .normal env w):Pl P n ops S (Qs Q) [] env w:=⟨env,fun _ _ h=>h,h⟩
omit [bB]in
theorem aI.dst_some{env:aI}{o:Oper}{d:Nat}(hd:o.dst=some d)(v:Value):env.dst o.dst v=(d,v)::env:=by rw[hd];rfl
omit [bB]in
theorem E0{o:Oper}{d n:Nat}(hd:o.dst=some d)(hn:Nat.blt d n=true):(o.dst.all (Nat.blt · n))=true:=by rw[hd];simpa using hn
theorem te{i d:Nat}{o:Oper}{r:List (Bool×Nat)}{v:Value}(ho:ops[i]? =some o)(hw:lU n env ops o true)(hd:o.dst=some d)(hn:Nat.blt d n=true)(hy:ci P n env S o v)(h:Pl P n ops S Q r ((d,v)::env) w):
  Pl P n ops S Q ((true,i)::r) env w:=⟨o,ho,E0 hd hn,.inl ⟨hw,v,hy,by rw[aI.dst_some hd];exact h⟩⟩
theorem Jq{i:Nat}{o:Oper}{r:List (Bool×Nat)}(ho:ops[i]? =some o)(hw:lU n env ops o true)(hd:(o.dst.all (Nat.blt · n))=true)(h:bH P n env w o (fun env' w'=>S w'∧Pl P n ops S Q r env' w')):
  Pl P n ops S Q ((false,i)::r) env w:=⟨o,ho,hd,.inl ⟨hw,h⟩⟩
end
def wk(P:Program)(n:Nat)(fn:Func)(env:aI)(w:World)(v:Value):Prop:= ∀a,g7 n env a→(results fn a.tmps).run P w= .ok v w
def Fq(P:Program)(n:Nat)(fn:Func)(R:Ending→World→Prop):EQ
 | .normal,env,w| .ret,env,w=> ∃v,wk P n fn env w v∧R (.returned v) w
 |_,_,_=>False
def bS:Nat→List Value→aI
 |_,[]=> []
 |i,v::r=>(i,v)::bS (i+1) r
omit [bB]in
theorem iz: ∀(vs:List Value) (i k:Nat) (v:Value),(bS i vs).get k=some v→i≤k∧vs[k - i]? =some v
 | [],i,k,v,h=>by simp[bS,aI.get]at h
 |u::r,i,k,v,h=>by
  unfold bS aI.get at h;by_cases e:i=k
  ·subst e;simp at h;subst h;simp
  ·have hb:Nat.beq i k=false:=cu e;rw[hb]at h;obtain⟨h1,h2⟩:=iz r (i+1) k v h;refine⟨by omega,?_⟩;rw[show k - i=(k -(i+1))+1 by omega];simpa using h2
end
theorem By{P:Program}{f:FuncId}{fn:Func}{c:Code}{args:List Value}{w:World}{R:Ending→World→Prop}(n:Nat)
  (hf:P.funcs[f]? =some fn) (hb:fn.body=some c) (hn:fn.ntmps=n) (hle:Nat.ble args.length n=true) (h:Wp P n c (Fq P n fn R) (bS 0 args) w):Calls P f args.toArray w R:=by
 have h1:=h {tmps:=args.toArray++Array.replicate (fn.ntmps - args.toArray.size) undef,defers:= []} ⟨?_,rfl,fun k v hk=>?_⟩
 ·have h2:=(wpIn_wide (n:=0)).1 h1;refine calls_of_wp hf hb (Code.wp_mono (fun e a' w' hq=>?_) h2);obtain⟨env',r',q⟩:=hq;cases e<;>simp only[Fq]at q<;>first|exact q.elim|skip
  all_goals
   obtain⟨v,hv,hR⟩:=q;exact⟨r'.defers,v,hv a' r',hR⟩
 ·have:args.length≤n:=by simpa[Nat.ble_eq]using hle
  simp[hn];omega
 ·obtain⟨_,h2⟩:=iz args 0 k v hk;simp only[Nat.sub_zero]at h2;have hlt:k<args.length:=(List.getElem?_eq_some_iff.1 h2).1;have h3:args[k]=v:=(List.getElem?_eq_some_iff.1 h2).2;simp[Array.getElem?_append,hlt,h3]
section
variable [bB]
theorem iC{P:Program}{n:Nat}{fn:Func}{env:aI}{w:World}{t:Tmp}{v:Value}(h:fn.results= #[.tmp t])(hv:env.get t=some v):wk P n fn env w v:=fun a r=>by
 rw[results_tmp h];have:=r.get t v hv;simp[this]
theorem Jr{P:Program}{n:Nat}{fn:Func}{env:aI}{w:World}(h:fn.results= #[]):wk P n fn env w (.tuple #[]):=fun _ _=>results_none h _ _ _
end
end Go.Proofs.YtmpeiadlohbikaaGreatDoor
end

section
namespace Go.Proofs.YtmpeiadlohbikaaGreatDoor
open Go.RowKit
abbrev sv(l:List UInt8):Value:= .string ⟨l.toArray⟩
abbrev Cl(cs:List Value)(t:TypeId):Obj:= .cells cs.toArray t (0,0)
def eP(P:Program)(s f:Nat):Option Nat:=match P.underlying s with
 |some (.struct fs)=>match fs[f]? with
  |some fd=>match P.info? fd.type with
   |some i=>if i.size=0 then none else some fd.offset
   |none=>none
  |none=>none
 |_=>none
def ba(P:Program)(t:Nat):Option Nat:=match P.underlying t with
 |some (.struct _)|some (.array _ _)=>(P.info? t).map (·.size)
 |_=>none
def dG(P:Program)(t:Nat):Bool:=match P.underlying t with
 |some (.struct _)|some (.array _ _)=>false
 |some _=>match P.info? t with
  |some i=>i.size==1
  |none=>false
 |none=>false
def zeroCells(P:Program)(t:Nat):Option (List Value):=(P.info? t).bind fun i=>i.zero.map fun z=>z.cells.toList
section
variable [bB] {P:Program} {n:Nat} {env:aI} {S:World→Prop} {o:Oper} {v:Value}
theorem jT{x:Operand}(ho:o.op= .move x)(hx:env.ev x=some v):ci P n env S o v:=fun a r w _=>by
 unfold execOp;simp only[ho,r.eval hx];rfl
theorem nl{x:Operand}(ho:o.op= .assign x)(hx:env.ev x=some v):ci P n env S o v:=fun a r w _=>by
 unfold execOp;simp only[ho,r.eval hx];rfl
theorem qi{c x y:Operand}(ho:o.op= .pick c x y)(hc:env.ev c=some (.bool true))(hx:env.ev x=some v):ci P n env S o v:=fun a r w _=>by
 unfold execOp;simp[ho,r.eval hc,r.eval hx,asBool]
theorem qj{c x y:Operand}(ho:o.op= .pick c x y)(hc:env.ev c=some (.bool false))(hx:env.ev y=some v):ci P n env S o v:=fun a r w _=>by
 unfold execOp;simp[ho,r.eval hc,r.eval hx,asBool]
theorem GB{x:Operand}{i:Nat}{vs:Array Value}(ho:o.op= .extract x i)(hx:env.ev x=some (.tuple vs))(hv:vs[i]? =some v):ci P n env S o v:=fun a r w _=>by
 unfold execOp;simp[ho,r.eval hx,Instr.extract,hv]
theorem L6{x:Operand}{b:Addr}(ho:o.op= .nilCheck x)(hx:env.ev x=some (.pointer (some b))):ci P n env S o (.pointer (some b)):=fun a r w _=>by
 unfold execOp;simp only[ho,r.eval hx];rfl
theorem L7{x:Operand}{s f g k off:Nat}(ho:o.op= .fieldAddr s x f)(hx:env.ev x=some (.pointer (some ⟨g,k,none⟩)))(hf:eP P s f=some off):
  ci P n env S o (.pointer (some ⟨g,k+off,none⟩)):=fun a r w _=>by
 unfold eP at hf;split at hf<;>try (cases hf;done)
 rename_i fs hu;split at hf<;>try (cases hf;done)
 rename_i fd hfd;split at hf<;>try (cases hf;done)
 rename_i i hi;split at hf
 ·cases hf
 ·rename_i hz;injection hf with hf;subst hf;unfold execOp;simp[ho,r.eval hx,Instr.fieldAt,run_underlying hu,hfd,Instr.sureAddr,fieldPlace,sizeOf,typeInfo,hi,hz,Addr.add_mid]
theorem Bz{x:Operand}{t:Nat}{b:Bool}(ho:o.op= .unOp .not t x)(hx:env.ev x=some (.bool b)):ci P n env S o (.bool !b):=fun a r w _=>by
 unfold execOp;simp[ho,r.eval hx,Op.unary]
theorem nm{op:BinOp}{x y:Operand}{t u:Nat}{k:IntKind}{p q:Int}{b:Bool}(ho:o.op= .binOp op t x y u)(hx:env.ev x=some (.int k p))(hy:env.ev y=some (.int k q))
  (hr: ∀w:World,(Op.intCmp op p q).run P w= .ok (.bool b) w) (hop:op= .eql∨op= .neq∨op= .lss∨op= .leq∨op= .gtr∨op= .geq):ci P n env S o (.bool b):=fun a r w _=>by
 unfold execOp;rcases hop with rfl|rfl|rfl|rfl|rfl|rfl<;>simp[ho,r.eval hx,r.eval hy,eqGuard,binOp,hr]
theorem L8{x y:Operand}{t u:Nat}{k:IntKind}{p q:Int}(ho:o.op= .binOp .eql t x y u)(hx:env.ev x=some (.int k p))(hy:env.ev y=some (.int k q)):ci P n env S o (.bool (p==q)):=
 nm ho hx hy (fun _=>rfl) (by simp)
theorem L9{x y:Operand}{t u:Nat}{k:IntKind}{p q:Int}(ho:o.op= .binOp .eql t x y u)(hx:env.ev x=some (.int k p))(hy:env.ev y=some (.int k q))(h:p≠q):ci P n env S o (.bool false):=
 nm ho hx hy (fun w=>by simp[Op.intCmp,h]) (by simp)
theorem Q5{x y:Operand}{t u:Nat}{k:IntKind}{p q:Int}(ho:o.op= .binOp .neq t x y u)(hx:env.ev x=some (.int k p))(hy:env.ev y=some (.int k q)):ci P n env S o (.bool (p !=q)):=
 nm ho hx hy (fun _=>rfl) (by simp)
theorem Me{x y:Operand}{t u:Nat}{k:IntKind}{p q:Int}(ho:o.op= .binOp .lss t x y u)(hx:env.ev x=some (.int k p))(hy:env.ev y=some (.int k q)):ci P n env S o (.bool (decide (p<q))):=
 nm ho hx hy (fun _=>rfl) (by simp)
theorem xP{x y:Operand}{t u:Nat}{k:IntKind}{p q:Int}(ho:o.op= .binOp .lss t x y u)(hx:env.ev x=some (.int k p))(hy:env.ev y=some (.int k q))(h:p<q):ci P n env S o (.bool true):=
 nm ho hx hy (fun w=>by simp[Op.intCmp,h]) (by simp)
theorem GC{x y:Operand}{t u:Nat}{k:IntKind}{p q:Int}(ho:o.op= .binOp .lss t x y u)(hx:env.ev x=some (.int k p))(hy:env.ev y=some (.int k q))(h:q≤p):ci P n env S o (.bool false):=
 nm ho hx hy (fun w=>by simp[Op.intCmp,h]) (by simp)
theorem Q6{x y:Operand}{t u:Nat}{k:IntKind}{p q:Int}(ho:o.op= .binOp .leq t x y u)(hx:env.ev x=some (.int k p))(hy:env.ev y=some (.int k q)):ci P n env S o (.bool (decide (p≤q))):=
 nm ho hx hy (fun _=>rfl) (by simp)
theorem Mf{x y:Operand}{t u:Nat}{k:IntKind}{p q:Int}(ho:o.op= .binOp .gtr t x y u)(hx:env.ev x=some (.int k p))(hy:env.ev y=some (.int k q)):ci P n env S o (.bool (decide (q<p))):=
 nm ho hx hy (fun _=>rfl) (by simp)
theorem Q7{x y:Operand}{t u:Nat}{k:IntKind}{p q:Int}(ho:o.op= .binOp .geq t x y u)(hx:env.ev x=some (.int k p))(hy:env.ev y=some (.int k q)):ci P n env S o (.bool (decide (q≤p))):=
 nm ho hx hy (fun _=>rfl) (by simp)
theorem dH{x y:Operand}{t u:Nat}{k:IntKind}{p q c:Int}(ho:o.op= .binOp .add t x y u)(hx:env.ev x=some (.int k p))(hy:env.ev y=some (.int k q))(hw:k.wrap (p+q)=c):ci P n env S o (.int k c):=fun a r w _=>by
 unfold execOp;simp[ho,r.eval hx,r.eval hy,eqGuard,binOp,Op.intArith,hw]
theorem oB{x y:Operand}{t u:Nat}{k:IntKind}{p q c:Int}(ho:o.op= .binOp .sub t x y u)(hx:env.ev x=some (.int k p))(hy:env.ev y=some (.int k q))(hw:k.wrap (p - q)=c):ci P n env S o (.int k c):=fun a r w _=>by
 unfold execOp;simp[ho,r.eval hx,r.eval hy,eqGuard,binOp,Op.intArith,hw]
theorem Mg{x y:Operand}{t u:Nat}{k:IntKind}{p q c:Int}(ho:o.op= .binOp .mul t x y u)(hx:env.ev x=some (.int k p))(hy:env.ev y=some (.int k q))(hw:k.wrap (p*q)=c):ci P n env S o (.int k c):=fun a r w _=>by
 unfold execOp;simp[ho,r.eval hx,r.eval hy,eqGuard,binOp,Op.intArith,hw]
theorem Mi{x y:Operand}{t u:Nat}{k:IntKind}{p q c:Int}(ho:o.op= .binOp .quo t x y u)(hx:env.ev x=some (.int k p))(hy:env.ev y=some (.int k q))(h0:q≠0)(hw:k.wrap (p.tdiv q)=c):ci P n env S o (.int k c):=fun a r w _=>by
 unfold execOp;simp[ho,r.eval hx,r.eval hy,eqGuard,binOp,Op.intDiv,hw,h0]
theorem Mj{x y:Operand}{t u:Nat}{k:IntKind}{p q c:Int}(ho:o.op= .binOp .rem t x y u)(hx:env.ev x=some (.int k p))(hy:env.ev y=some (.int k q))(h0:q≠0)(hw:p.tmod q=c):ci P n env S o (.int k c):=fun a r w _=>by
 unfold execOp;simp[ho,r.eval hx,r.eval hy,eqGuard,binOp,Op.intDiv,hw,h0]
theorem Ml{x y:Operand}{t u:Nat}{k ky:IntKind}{p q c:Int}(ho:o.op= .binOp .shl t x y u)(hx:env.ev x=some (.int k p))(hy:env.ev y=some (.int ky q))(h0:0≤q)(hw:k.wrap (p*2^(min q.toNat k.bits))=c):ci P n env S o (.int k c):=fun a r w _=>by
 have h0': ¬q<0:=by omega
 unfold execOp;simp[ho,r.eval hx,r.eval hy,eqGuard,binOp,Op.shift,hw,h0']
theorem Mm{x y:Operand}{t u:Nat}{k ky:IntKind}{p q c:Int}(ho:o.op= .binOp .shr t x y u)(hx:env.ev x=some (.int k p))(hy:env.ev y=some (.int ky q))(h0:0≤q)(hw:p.fdiv (2^(min q.toNat k.bits))=c):ci P n env S o (.int k c):=fun a r w _=>by
 have h0': ¬q<0:=by omega
 unfold execOp;simp[ho,r.eval hx,r.eval hy,eqGuard,binOp,Op.shift,hw,h0']
theorem tf{op:BinOp}{x y:Operand}{t u:Nat}{k:IntKind}{p q c:Int}(ho:o.op= .binOp op t x y u)(hx:env.ev x=some (.int k p))(hy:env.ev y=some (.int k q))(hop:op= .and∨op= .or∨op= .xor∨op= .andNot)(hw:bits op k p q=c):ci P n env S o (.int k c):=fun a r w _=>by
 subst hw;unfold execOp;rcases hop with rfl|rfl|rfl|rfl<;>simp[ho,r.eval hx,r.eval hy,eqGuard,binOp,Op.intBits,bits]
theorem Mn{x:Operand}{src dst:Nat}{d:TypeDesc}{k k0:IntKind}{p c:Int}(ho:o.op= .convert src dst x)(hx:env.ev x=some (.int k0 p))(hs:P.underlying src=some d)(hd:P.underlying dst=some (.int k))(hw:k.wrap p=c):ci P n env S o (.int k c):=fun a r w _=>by
 subst hw;unfold execOp;simp[ho,r.eval hx,convert,run_underlying hs,run_underlying hd,Conv.intToInt]
omit [bB]in
theorem jv{P:Program}{t:Nat}(ht:P.underlying t=some .bool)(p q:Bool)(d:Nat)(w:World):(Op.equalIn (d+1) t (.bool p) (.bool q)).run P w= .ok (p==q) w:=by
 simp[Op.equalIn,run_underlying ht]
theorem GD{x y:Operand}{t u:Nat}{p q:Bool}(ho:o.op= .binOp .eql t x y u)(hx:env.ev x=some (.bool p))(hy:env.ev y=some (.bool q))(ht:P.underlying t=some .bool):ci P n env S o (.bool (p==q)):=fun a r w _=>by
 have h:=jv ht p q 9999 w;unfold execOp;simp only[ho,r.eval hx,r.eval hy];simp only[eqGuard,binOp];simp[Op.equal,Op.maxDepth,h]
theorem Mo{x y:Operand}{t u:Nat}{p q:Bool}(ho:o.op= .binOp .neq t x y u)(hx:env.ev x=some (.bool p))(hy:env.ev y=some (.bool q))(ht:P.underlying t=some .bool):ci P n env S o (.bool (p !=q)):=fun a r w _=>by
 have h:=jv ht p q 9999 w;unfold execOp;simp only[ho,r.eval hx,r.eval hy];simp only[eqGuard,binOp];simp[Op.equal,Op.maxDepth,h,bne]
theorem GE{x y:Operand}{t u:Nat}{p q:List UInt8}(ho:o.op= .binOp .eql t x y u)(hx:env.ev x=some (sv p))(hy:env.ev y=some (sv q)):ci P n env S o (.bool (p==q)):=fun a r w _=>by
 unfold execOp;simp[ho,r.eval hx,r.eval hy,eqGuard,binOp,Op.stringOp]
theorem GF{x y:Operand}{t u:Nat}{p q:List UInt8}(ho:o.op= .binOp .neq t x y u)(hx:env.ev x=some (sv p))(hy:env.ev y=some (sv q)):ci P n env S o (.bool (p !=q)):=fun a r w _=>by
 unfold execOp;simp[ho,r.eval hx,r.eval hy,eqGuard,binOp,Op.stringOp,bne]
theorem Mq{x y:Operand}{t u:Nat}{p q:List UInt8}(ho:o.op= .binOp .add t x y u)(hx:env.ev x=some (sv p))(hy:env.ev y=some (sv q))(hl:p.length+q.length≤9223372036854775807):ci P n env S o (sv (p++q)):=fun a r w _=>by
 have e:(⟨p.toArray⟩:ByteArray)++⟨q.toArray⟩=⟨(p++q).toArray⟩:=by
  apply ByteArray.ext;simp
 have hl': ¬IntKind.i64.max<(((⟨p.toArray⟩:ByteArray).size+(⟨q.toArray⟩:ByteArray).size:Nat):Int):=by
  have h1:IntKind.i64.max=9223372036854775807:=by decide
  rw[h1];simp[ByteArray.size];omega
 unfold execOp;simp only[ho,r.eval hx,r.eval hy];simp only[eqGuard,binOp,Op.stringOp,gt_iff_lt,if_neg hl',e];rfl
omit [bB]in
theorem eF{b:Builtin}{x:Operand}{t:Nat}{u:Value}{a:Act}{w w':World}(ho:o.op= .call {callee:= .builtin b,args:= #[x],argTypes:= #[t]})(hx:a.eval x=u)
  (h: ∀cs,(builtin b #[t] o.type cs #[u]).run P w= .ok (.value v) w'):(execOp a.eval o).run P w= .ok (.value v) w':=by
 unfold execOp;simp only[ho,resolve,List.map_toArray,List.map_cons,List.map_nil,hx,Sem.run_bind,Sem.run_pure,Result.andThen_ok,invoke,h]
theorem Js{x:Operand}{t:Nat}{p:List UInt8}(ho:o.op= .call {callee:= .builtin .len,args:= #[x],argTypes:= #[t]})(hx:env.ev x=some (sv p))(ht:P.underlying t=some .string):ci P n env S o (.int .i64 p.length):=fun a r w _=>
 eF ho (r.eval hx) fun cs=>by
  have h:(Builtin.len_ #[t] o.type #[sv p]).run P w= .ok (goInt (⟨p.toArray⟩:ByteArray).size) w:=by simp[Builtin.len_,run_underlying ht]
  simp only[builtin,Sem.run_bind,h,Result.andThen_ok];rfl
theorem qk{x:Operand}{t e:Nat}{b:Option Addr}{l c:Nat}(ho:o.op= .call {callee:= .builtin .len,args:= #[x],argTypes:= #[t]})(hx:env.ev x=some (.slice b l c))(ht:P.underlying t=some (.slice e)):ci P n env S o (.int .i64 l):=fun a r w _=>
 eF ho (r.eval hx) fun cs=>by
  have h:(Builtin.len_ #[t] o.type #[.slice b l c]).run P w= .ok (goInt l) w:=by simp[Builtin.len_,run_underlying ht]
  simp only[builtin,Sem.run_bind,h,Result.andThen_ok];rfl
end
end Go.Proofs.YtmpeiadlohbikaaGreatDoor
end

section
namespace Go.Proofs.YtmpeiadlohbikaaGreatDoor
open Go.RowKit
abbrev bZ:=List (Option Nat×Obj)
def aQ(H:bZ):List Nat:=H.filterMap (·.1)
/- A run never takes a draw back. -/
theorem o4{ε α β:Type}{x:Except ε α}{f:α→Except ε β}{r:β}(h:(x>>=f)= .ok r): ∃a,x= .ok a∧f a= .ok r:=by
 cases x with
 |error e=>cases h
 |ok a=>exact⟨a,rfl,h⟩
theorem oH{p:Program}{w:World}{t a:Addr}{u:TypeId}{v:Value}{b:Bool}{r:World×List Addr}(h:w.viewStore p t u a v b= .ok r):r.1.drawn=w.drawn:=by
 unfold World.viewStore at h;simp only at h;split at h
 ·obtain⟨_,h1,_⟩:=o4 h;cases h1
 ·obtain⟨x,_,h⟩:=o4 h;split at h
  ·split at h
   ·obtain⟨_,h1,_⟩:=o4 h;cases h1
   ·obtain⟨_,_,h⟩:=o4 h;injection h with h;rw[←h]
  ·cases h
theorem ql{p:Program}{w w2:World}{a:Addr}{v:Value}{b:Bool}{x:List Addr}(h:w.farStore p a v b= .ok (w2,x)):w2.drawn=w.drawn:=by
 unfold World.farStore at h;split at h
 ·split at h
  ·rename_i r hr;injection h with h;have:=oH hr;rw[h]at this;exact this
  ·cases h
 ·cases h
theorem tg(w:World)(a:Addr)(n:Nat):(w.freeze a n).drawn=w.drawn:=by unfold World.freeze;split<;>rfl
theorem yO{α:Type}(m:Ask α): ∀w:World,w.drawn≤(w.ask m).2.drawn:=by
 induction m with
 |done a=>intro w;exact Nat.le_refl _
 |ask s n k ih=>
  intro w;unfold World.ask;simp only;split
  ·exact ih _ _
  ·have:=ih ((Question.extern s n).cut (w.tape w.drawn (Question.extern s n))) {w with drawn:=w.drawn+1};exact Nat.le_trans (Nat.le_succ _) this
theorem yP(w:World)(c:Sys):w.drawn≤(w.sys c).2.drawn:=by
 have h:=yO (Kernel.perform c w.os) w;unfold World.sys;split
 ·exact Nat.le_refl _
 ·rename_i e;rw[e]at h;exact h
theorem yQ {α : Type} {P : Program} (m : Sem α) : ∀ (w : World) (v : α) (w' : World), m.run P w = .ok v w' → w.drawn ≤ w'.drawn := by
  induction m with
  | pure a => intro w v w' h; simp [Sem.run] at h; rw [h.2]; exact Nat.le_refl _
  | load m a k ih =>
    intro w v w' h
    simp only [Sem.run] at h
    repeat' split at h
    all_goals first | (have := ih _ _ _ _ h; exact this) | cases h
  | store m a v k ih =>
    intro w u w' h
    cases v <;> simp only [Sem.run] at h <;> first
      | (cases h; done)
      | (split at h
         · split at h
           · cases h
           · (have := ih _ _ _ h; exact this)
         · split at h
           · rename_i hf; have := ih _ _ _ h; rw [ql hf] at this; exact this
           · cases h)
  | new o k ih => intro w v w' h; simp only [Sem.run] at h; (have := ih _ _ _ _ h; exact this)
  | shape r k ih => intro w v w' h; simp only [Sem.run] at h; (have := ih _ _ _ _ h; exact this)
  | freeze a n k ih => intro w v w' h; simp only [Sem.run] at h; have := ih _ _ _ h; rw [tg] at this; exact this
  | frozen a k ih => intro w v w' h; simp only [Sem.run] at h; (have := ih _ _ _ _ h; exact this)
  | getObj r k ih =>
    intro w v w' h
    simp only [Sem.run] at h
    split at h
    · cases h
    · (have := ih _ _ _ _ h; exact this)
    · cases h
  | setObj r o k ih =>
    intro w v w' h
    simp only [Sem.run] at h
    split at h
    · cases h
    · (have := ih _ _ _ h; exact this)
    · cases h
  | choose q k ih =>
    intro w v w' h
    simp only [Sem.run] at h
    split at h
    · (have := ih _ _ _ _ h; exact this)
    · have := ih _ _ _ _ h; exact Nat.le_trans (Nat.le_succ _) this
  | sys c k ih => intro w v w' h; simp only [Sem.run] at h; have := ih _ _ _ _ h; exact Nat.le_trans (yP w c) this
  | program k ih => intro w v w' h; simp only [Sem.run] at h; (have := ih _ _ _ _ h; exact this)
  | mark m k ih => intro w v w' h; simp only [Sem.run] at h; (have := ih _ _ _ h; exact this)
  | halt h => intro w v w' h; simp only [Sem.run] at h; cases h
structure Fr(X:List Nat)(w w':World):Prop where
 os:w'.os=w.os
 tape:w'.tape=w.tape
 output:w'.output=w.output
 size:w.heap.size≤w'.heap.size
 block: ∀k,k<w.heap.size→k∉X→w'.heap[k]? =w.heap[k]?
 drawn:w.drawn≤w'.drawn
theorem Fr.refl(X:List Nat)(w:World):Fr X w w:=⟨rfl,rfl,rfl,Nat.le_refl _,fun _ _ _=>rfl,Nat.le_refl _⟩
theorem Fr.drew(w:World):Fr [] w w.drew:=⟨rfl,rfl,rfl,Nat.le_refl _,fun _ _ _=>rfl,Nat.le_succ _⟩
theorem Fr.alloc(w:World)(o:Obj):Fr [] w (w.alloc o):=⟨rfl,rfl,rfl,by simp,fun k hk _=>heap_alloc_old w o hk,Nat.le_refl _⟩
theorem Fr.setRow(w:World)(g:Nat)(cs:Array Value):Fr [g] w (w.setRow g cs):=⟨rfl,rfl,rfl,by simp,fun k _ hk=>setRow_other w g k cs (by simpa using hk),Nat.le_refl _⟩
theorem Fr.step{X Y:List Nat}{w0 w w':World}(h:Fr X w0 w)(h':Fr Y w w')(hY: ∀y∈Y,y∈X∨w0.heap.size≤y):Fr X w0 w':=
 ⟨h'.os.trans h.os,h'.tape.trans h.tape,h'.output.trans h.output,Nat.le_trans h.size h'.size,fun k hk hX=>
  (h'.block k (Nat.lt_of_lt_of_le hk h.size) (fun hy=>(hY k hy).elim hX (fun hle=>by omega))).trans (h.block k hk hX),Nat.le_trans h.drawn h'.drawn⟩
theorem Fr.step0{X:List Nat}{w0 w w':World}(h:Fr X w0 w)(h':Fr [] w w'):Fr X w0 w':=h.step h' (fun _ hy=>by cases hy)
theorem Fr.mono{X Y:List Nat}{w w':World}(h:Fr X w w')(hX: ∀x∈X,x∈Y):Fr Y w w':=⟨h.os,h.tape,h.output,h.size,fun k hk hn=>h.block k hk (fun hx=>hn (hX k hx)),h.drawn⟩
theorem Fr.below{w w':World}(h:Fr [] w w'):Below w.heap.size w w':=⟨h.os,h.tape,h.output,h.size,fun k hk=>h.block k hk (by simp)⟩
theorem Fr.cell{X:List Nat}{w w':World}(h:Fr X w w'){p:Addr}(hp:p.block<w.heap.size)(hX:p.block∉X):w'.cell? p=w.cell? p:=World.cell?_of_block (h.block _ hp hX)
structure Hp(w:World)(H:bZ):Prop where
 blk: ∀(i:Nat) g o,H[i]? =some (some g,o)→w.heap[g]? =some o
 inj: ∀(i j:Nat) g o o',H[i]? =some (some g,o)→H[j]? =some (some g,o')→i=j
theorem cg{w:World}{g:Nat}{o:Obj}(h:w.heap[g]? =some o):g<w.heap.size:=by
 rcases Nat.lt_or_ge g w.heap.size with hlt|hge
 ·exact hlt
 ·rw[Array.getElem?_eq_none hge]at h;cases h
theorem cP{H:bZ}{k:Nat}:k∈aQ H↔ ∃(i:Nat) (o:Obj),H[i]? =some (some k,o):=by
 unfold aQ;rw[List.mem_filterMap];constructor
 ·rintro⟨⟨a,b⟩,hm,he⟩;obtain⟨i,hi⟩:=List.mem_iff_getElem?.1 hm;exact⟨i,b,by rw[hi];simp at he;rw[he]⟩
 ·rintro⟨i,o,hi⟩;exact⟨(some k,o),List.mem_of_getElem? hi,rfl⟩
section
variable {w w':World} {H H':bZ} {g i:Nat} {o o':Obj}
theorem Hp.nil(w:World):Hp w []:=⟨fun _ _ _ h=>by simp at h,fun _ _ _ _ _ h=>by simp at h⟩
theorem Hp.at(h:Hp w H)(hi:H[i]? =some (some g,o)):w.heap[g]? =some o:=h.blk i g o hi
theorem Hp.lt(h:Hp w H)(hi:H[i]? =some (some g,o)):g<w.heap.size:=cg (h.at hi)
theorem Hp.keys_lt(h:Hp w H): ∀k∈aQ H,k<w.heap.size:=fun k hk=>by
 obtain⟨i,o,hi⟩:=cP.1 hk;exact h.lt hi
theorem Hp.drew(h:Hp w H):Hp w.drew H:=⟨h.blk,h.inj⟩
theorem Hp.keep{X:List Nat}(h:Hp w H)(hf:Fr X w w')(hX: ∀k∈aQ H,k∉X):Hp w' H:=
 ⟨fun i g o hi=>(hf.block g (h.lt hi) (hX g (cP.2 ⟨i,o,hi⟩))).trans (h.at hi),h.inj⟩
theorem Hp.keep0(h:Hp w H)(hf:Fr [] w w'):Hp w' H:=h.keep hf (by simp)
theorem Hp.push(h:Hp w H)(hf:Fr [] w w')(hg:w.heap.size≤g)(hb:w'.heap[g]? =some o):Hp w' (H++ [(some g,o)]):=by
 have hk:=h.keep0 hf;have cases1: ∀(j:Nat) a b,(H++ [(some g,o)])[j]? =some (some a,b)→(H[j]? =some (some a,b))∨(j=H.length∧a=g∧b=o):=fun j a b hj=>by
  rw[List.getElem?_append]at hj;split at hj
  ·exact .inl hj
  ·rename_i hlt;by_cases e:j=H.length
   ·subst e;simp at hj;exact .inr ⟨rfl,hj.1.symm,hj.2.symm⟩
   ·rw[List.getElem?_eq_none (by simp;omega)]at hj;cases hj
 refine⟨fun j a b hj=>?_,fun j l a b c hj hl=>?_⟩
 ·rcases cases1 j a b hj with hj|⟨_,rfl,rfl⟩
  ·exact hk.at hj
  ·exact hb
 ·rcases cases1 j a b hj with hj|⟨e1,e2,_⟩<;>rcases cases1 l a c hl with hl|⟨f1,f2,_⟩
  ·exact h.inj j l a b c hj hl
  ·have:=h.lt hj;omega
  ·have:=h.lt hl;omega
  ·omega
theorem Hp.alloc(h:Hp w H)(o:Obj):Hp (w.alloc o) (H++ [(some w.heap.size,o)]):=h.push (Fr.alloc w o) (Nat.le_refl _) (heap_alloc_new w o)
theorem Hp.setAny{k':Option Nat}{k:Option Nat}{X:List Nat}(h:Hp w H)(hi:H[i]? =some (k,o))(hX: ∀x∈X,k=some x)(hf:Fr X w w')(hk: ∀g',k'=some g'→w'.heap[g']? =some o'∧(k=some g'∨w.heap.size≤g')):Hp w' (H.set i (k',o')):=by
 have hl:i<H.length:=(List.getElem?_eq_some_iff.1 hi).1;have cases1: ∀(j:Nat) a b,(H.set i (k',o'))[j]? =some (some a,b)→(i≠j∧H[j]? =some (some a,b))∨(i=j∧k'=some a∧o'=b):=fun j a b hj=>by
  rw[List.getElem?_set]at hj;by_cases e:i=j
  ·subst e;simp[hl]at hj;exact .inr ⟨rfl,hj⟩
  ·simp[e]at hj;exact .inl ⟨e,hj⟩
 have far: ∀(j:Nat) a b,i≠j→H[j]? =some (some a,b)→k≠some a:=fun j a b hij hj e=>hij (h.inj i j a o b (by rw[hi,e]) hj);refine⟨fun j a b hj=>?_,fun j l a b c hj hl'=>?_⟩
 ·rcases cases1 j a b hj with⟨hij,hj⟩|⟨_,e1,e2⟩
  ·exact(hf.block a (h.lt hj) (fun hx=>far j a b hij hj (hX a hx))).trans (h.at hj)
  ·rw[←e2];exact(hk a e1).1
 ·rcases cases1 j a b hj with⟨hij,hj⟩|⟨e0,e1,e2⟩<;>rcases cases1 l a c hl' with⟨hil,hl'⟩|⟨f0,f1,f2⟩
  ·exact h.inj j l a b c hj hl'
  ·rcases(hk a f1).2 with e|e
   ·exact absurd e (far j a b hij hj)
   ·have:=h.lt hj;omega
  ·rcases(hk a e1).2 with e|e
   ·exact absurd e (far l a c hil hl')
   ·have:=h.lt hl';omega
  ·omega
theorem Hp.setAt(h:Hp w H)(hi:H[i]? =some (some g,o))(hf:Fr [g] w w')(hg:w'.heap[g]? =some o'):Hp w' (H.set i (some g,o')):=
 h.setAny hi (by simp) hf fun g' e=>by injection e with e;subst e;exact⟨hg,.inl rfl⟩
theorem Hp.pick(h:Hp w H)(idx:List Nat)(H':bZ)(hn:idx.Nodup)(hH:idx.map (fun i=>H[i]?)=H'.map some):Hp w H':=by
 have key: ∀(j:Nat) (e:Option Nat×Obj),H'[j]? =some e→ ∃i:Nat,idx[j]? =some i∧H[i]? =some e:=fun j e hj=>by
  have h1:(H'.map some)[j]? =some (some e):=by simp[hj]
  rw[←hH]at h1;rw[List.getElem?_map]at h1;cases hx:idx[j]? with
  |none=>simp[hx]at h1
  |some i=>exact⟨i,rfl,by simpa[hx]using h1⟩
 refine⟨fun j a b hj=>?_,fun j l a b c hj hl=>?_⟩
 ·obtain⟨i,_,hi⟩:=key j _ hj;exact h.at hi
 ·obtain⟨i1,a1,b1⟩:=key j _ hj;obtain⟨i2,a2,b2⟩:=key l _ hl;have e12:=h.inj i1 i2 a b c b1 b2;subst e12;have l2:j<idx.length:=(List.getElem?_eq_some_iff.1 a1).1;exact(List.getElem?_inj l2 hn).1 (a1.trans a2.symm)
theorem Hp.conv{k:Option Nat}{cs cs':List Value}{ty:Nat}(h:Hp w H)(hi:H[i]? =some (k,Cl cs ty))(he:cs=cs'):Hp w (H.set i (k,Cl cs' ty)):=by
 subst he;have:H.set i (k,Cl cs ty)=H:=by
  apply List.ext_getElem?;intro j;rw[List.getElem?_set];by_cases e:i=j
  ·subst e;obtain⟨hl,hi'⟩:=List.getElem?_eq_some_iff.1 hi;simp[hl,hi']
  ·simp[e]
 rw[this];exact h
def cx(H:bZ):List Nat→bZ
 | []=> []
 |i::r=>match H[i]? with
  |some e=>e::cx H r
  |none=>cx H r
theorem Hp.pk(h:Hp w H)(idx:List Nat)(hn:idx.Nodup):Hp w (cx H idx):=by
 have key: ∀(idx:List Nat) (j:Nat) e,(cx H idx)[j]? =some e→ ∃i:Nat,i∈idx∧H[i]? =some e:=by
  intro idx;induction idx with
  |nil=>intro j e he;simp[cx]at he
  |cons a r ih=>
   intro j e he;unfold cx at he;cases ha:H[a]? with
   |none=>rw[ha]at he;obtain⟨i,h1,h2⟩:=ih j e he;exact⟨i,by simp[h1],h2⟩
   |some x=>
    rw[ha]at he;cases j with
    |zero=>simp at he;subst he;exact⟨a,by simp,ha⟩
    |succ j=>obtain⟨i,h1,h2⟩:=ih j e (by simpa using he);exact⟨i,by simp[h1],h2⟩
 have inj: ∀(idx:List Nat),idx.Nodup→ ∀(j l:Nat) g a b,(cx H idx)[j]? =some (some g,a)→(cx H idx)[l]? =some (some g,b)→j=l:=by
  intro idx;induction idx with
  |nil=>intro _ j l g a b hj;simp[cx]at hj
  |cons x r ih=>
   intro hnd j l g a b hj hl;rw[List.nodup_cons]at hnd;unfold cx at hj hl;cases hx:H[x]? with
   |none=>rw[hx]at hj hl;exact ih hnd.2 j l g a b hj hl
   |some y=>
    rw[hx]at hj hl;cases j with
    |zero=>
     cases l with
     |zero=>rfl
     |succ l=>
      simp at hj;subst hj;obtain⟨i,h1,h2⟩:=key r l _ (by simpa using hl);have:=h.inj x i g a b hx h2;subst this;exact absurd h1 hnd.1
    |succ j=>
     cases l with
     |zero=>
      simp at hl;subst hl;obtain⟨i,h1,h2⟩:=key r j _ (by simpa using hj);have:=h.inj x i g b a hx h2;subst this;exact absurd h1 hnd.1
     |succ l=>
      have:=ih hnd.2 j l g a b (by simpa using hj) (by simpa using hl);omega
 exact⟨fun j g o hj=>by obtain⟨i,_,h2⟩:=key idx j _ hj;exact h.at h2,fun j l g a b hj hl=>inj idx hn j l g a b hj hl⟩
theorem Hp.after{H0 H1 Hx:bZ}{X:List Nat}(h:Hp w (H0++Hx))(hX: ∀x∈X,x∈aQ Hx)(hf:Fr X w w')(h1:Hp w' H1)(hk: ∀k∈aQ H1,k∈aQ Hx∨w.heap.size≤k):Hp w' (H0++H1):=by
 have l0: ∀(j:Nat) e,H0[j]? =some e→(H0++Hx)[j]? =some e∧j<H0.length:=fun j e hj=>by
  have hl:j<H0.length:=(List.getElem?_eq_some_iff.1 hj).1;exact⟨by rw[List.getElem?_append_left hl];exact hj,hl⟩
 have nx: ∀(j:Nat) a b,H0[j]? =some (some a,b)→a∉aQ Hx:=fun j a b hj hx=>by
  obtain⟨q,c,hq⟩:=cP.1 hx;obtain⟨h2,hl⟩:=l0 j _ hj;have h3:(H0++Hx)[H0.length+q]? =some (some a,c):=by rw[List.getElem?_append_right (by omega)];simpa using hq
  have:=h.inj _ _ _ _ _ h2 h3;omega
 have cases1: ∀(j:Nat) a b,(H0++H1)[j]? =some (some a,b)→H0[j]? =some (some a,b)∨(H0.length≤j∧H1[j - H0.length]? =some (some a,b)):=fun j a b hj=>by
  rcases Nat.lt_or_ge j H0.length with hl|hl
  ·rw[List.getElem?_append_left hl]at hj;exact .inl hj
  ·rw[List.getElem?_append_right hl]at hj;exact .inr ⟨hl,hj⟩
 refine⟨fun j a b hj=>?_,fun j l a b c hj hl=>?_⟩
 ·rcases cases1 j a b hj with hj|⟨_,hj⟩
  ·have hb:=h.at (l0 j _ hj).1;exact(hf.block a (cg hb) (fun hx=>nx j a b hj (hX a hx))).trans hb
  ·exact h1.at hj
 ·have apart: ∀(p q:Nat) (b c:Obj),H0[p]? =some (some a,b)→H1[q]? =some (some a,c)→False:=fun p q b c hp hq=>by
   rcases hk a (cP.2 ⟨q,c,hq⟩)with hx|hx
   ·exact nx p a b hp hx
   ·have:=cg (h.at (l0 p _ hp).1);omega
  rcases cases1 j a b hj with hj|⟨hj0,hj⟩<;>rcases cases1 l a c hl with hl|⟨hl0,hl⟩
  ·exact h.inj j l a b c (l0 j _ hj).1 (l0 l _ hl).1
  ·exact(apart _ _ _ _ hj hl).elim
  ·exact(apart _ _ _ _ hl hj).elim
  ·have:=h1.inj _ _ _ _ _ hj hl;omega
theorem Hp.ne(h:Hp w H){j g2:Nat}{o2:Obj}(hi:H[i]? =some (some g,o))(hj:H[j]? =some (some g2,o2))(hij:i≠j):g≠g2:=by
 rintro rfl;exact hij (h.inj i j g o o2 hi hj)
end
def aF(P:Program)(f:FuncId):Bool:=match P.funcs[f]? with
 |some fn=>!(fn.name== "runtime.NumGoroutine")&&fn.body.isSome
 |none=>false
def Fn(P:Program)(f:FuncId)(args:List Value)(w:World)(Post:Value→World→Prop):Prop:=aF P f=true∧Calls P f args.toArray w fun e w'=> ∃v,e= .returned v∧Post v w'
theorem iE{P:Program}{f:FuncId}{fn:Func}{c:Code}{args:List Value}{w:World}{Post:Value→World→Prop}(n:Nat)
  (he:aF P f=true) (hf:P.funcs[f]? =some fn) (hb:fn.body=some c) (hn:fn.ntmps=n) (hle:Nat.ble args.length n=true) (h:Wp P n c (Fq P n fn fun e w'=> ∃v,e= .returned v∧Post v w') (bS 0 args) w):Fn P f args w Post:=
 ⟨he,By n hf hb hn hle h⟩
theorem Fn.mono{P:Program}{f:FuncId}{args:List Value}{w:World}{Post Post':Value→World→Prop}(h:Fn P f args w Post)(hp: ∀v w',Post v w'→Post' v w'):Fn P f args w Post':=
 ⟨h.1,Calls.mono h.2 fun _ _ ⟨v,he,hv⟩=>⟨v,he,hp _ _ hv⟩⟩
theorem fR [bB]{P:Program}{n:Nat}{fn:Func}{env:aI}{w:World}{Post:Value→World→Prop}{v:Value}(hr:wk P n fn env w v)(hp:Post v w):Fq P n fn (fun e w'=> ∃v,e= .returned v∧Post v w') .ret env w:=⟨v,hr,v,rfl,hp⟩
theorem fE [bB]{P:Program}{n:Nat}{fn:Func}{env:aI}{w:World}{Post:Value→World→Prop}{v:Value}(hr:wk P n fn env w v)(hp:Post v w):Fq P n fn (fun e w'=> ∃v,e= .returned v∧Post v w') .normal env w:=⟨v,hr,v,rfl,hp⟩
section
variable [bB] {P:Program} {n:Nat} {env:aI} {w:World} {o:Oper} {K:aI→World→Prop} {H:bZ}
theorem wl{f:FuncId}{xs:List Operand}{ts:Array TypeId}{vs:List Value}{Post:Value→World→Prop}(ho:o.op= .call {callee:= .value (.func f),args:=xs.toArray,argTypes:=ts}){d:Nat}(hd:o.dst=some d)(hn:Nat.blt d n=true)
  (hx:env.evs xs=some vs) (hc:Fn P f vs w Post) (hk: ∀v w',Post v w'→K ((d,v)::env) w'):bH P n env w o K:=fun a r=>by
 have e:(xs.toArray.map a.eval)=vs.toArray:=by rw[List.map_toArray,r.evals hx]
 have hrun:(execOp a.eval o).run P w= .ok (.enter f vs.toArray) w:=by
  have h1:=hc.1;unfold aF at h1;cases hq:P.funcs[f]? with
  |none=>simp[hq]at h1
  |some fn=>
   simp only[hq,Bool.and_eq_true,Bool.not_eq_true',beq_eq_false_iff_ne]at h1;obtain⟨h2,h3⟩:=h1;have h4: ¬fn.body=none:=by intro hbb;simp[hbb]at h3
   unfold execOp;simp only[ho,resolve,e,Act.eval,Deferred.ofValue,Sem.run_bind,Sem.run_pure,Result.andThen_ok,invoke];simp[callFunc,hq,h2,h4]
 unfold Oper.wp;rw[hrun];refine Calls.mono hc.2 fun e w' ⟨v,he,hv⟩=>?_;subst he;have r':=r.put hn v;rw[←hd]at r';exact⟨_,r',hk v w' hv⟩
theorem E1{f:FuncId}{xs:List Operand}{ts:Array TypeId}{vs:List Value}{Post:Value→World→Prop}(ho:o.op= .call {callee:= .value (.func f),args:=xs.toArray,argTypes:=ts})(hd:o.dst=none)
  (hx:env.evs xs=some vs) (hc:Fn P f vs w Post) (hk: ∀v w',Post v w'→K env w'):bH P n env w o K:=fun a r=>by
 have e:(xs.toArray.map a.eval)=vs.toArray:=by rw[List.map_toArray,r.evals hx]
 have hrun:(execOp a.eval o).run P w= .ok (.enter f vs.toArray) w:=by
  have h1:=hc.1;unfold aF at h1;cases hq:P.funcs[f]? with
  |none=>simp[hq]at h1
  |some fn=>
   simp only[hq,Bool.and_eq_true,Bool.not_eq_true',beq_eq_false_iff_ne]at h1;obtain⟨h2,h3⟩:=h1;have h4: ¬fn.body=none:=by intro hbb;simp[hbb]at h3
   unfold execOp;simp only[ho,resolve,e,Act.eval,Deferred.ofValue,Sem.run_bind,Sem.run_pure,Result.andThen_ok,invoke];simp[callFunc,hq,h2,h4]
 unfold Oper.wp;rw[hrun];refine Calls.mono hc.2 fun e w' ⟨v,he,hv⟩=>?_;subst he;refine⟨env,?_,hk v w' hv⟩;rw[hd];exact r
theorem fI{v:Value}{w':World}{d:Nat}(hd:o.dst=some d)(hn:Nat.blt d n=true)(hr: ∀a,g7 n env a→(execOp a.eval o).run P w= .ok (.value v) w')(hk:K ((d,v)::env) w'):bH P n env w o K:=fun a r=>by
 unfold Oper.wp;rw[hr a r];have r':=r.put hn v;rw[←hd]at r';exact⟨_,r',hk⟩
theorem wm{w':World}(hd:o.dst=none)(hr: ∀a,g7 n env a→(execOp a.eval o).run P w= .ok .skip w')(hk:K env w'):bH P n env w o K:=fun a r=>by
 unfold Oper.wp;rw[hr a r];refine⟨env,?_,hk⟩;rw[hd];exact r
omit [bB]in
theorem iZ{t g k:Nat}{v:Value}(ht:dG P t=true)(hc:w.cell? ⟨g,k,none⟩=some v):(loadVar t ⟨g,k,none⟩).run P w= .ok v w:=by
 have:(isAgg t).run P w= .ok false w:=by
  unfold dG at ht;cases hu:P.underlying t with
  |none=>simp[hu]at ht
  |some d=>
   unfold isAgg;simp only[Sem.run_bind,run_underlying hu,Result.andThen_ok];cases d<;>simp[hu]at ht<;>rfl
 simp[loadVar,this,hc]
omit [bB]in
theorem j5{t g k m:Nat}{cs:List Value}(ht:ba P t=some m)(hm:cs.length=m)(hc:w.rangeAt g k cs):(loadVar t ⟨g,k,none⟩).run P w= .ok (.agg cs.toArray) w:=by
 unfold ba at ht;split at ht<;>try (cases ht;done)
 ·rename_i d hu;exact run_loadVar_mid w g k t cs _ hc hu rfl (by rw[ht,hm])
 ·rename_i a b hu;exact run_loadVar_mid w g k t cs _ hc hu rfl (by rw[ht,hm])
end
section
variable [bB] {P:Program} {n:Nat} {env:aI} {S:World→Prop} {o:Oper}
theorem xQ{t g k:Nat}{x:Operand}{v:Value}(ho:o.op= .load t x)(hx:env.ev x=some (.pointer (some ⟨g,k,none⟩)))(ht:dG P t=true)(hc: ∀w,S w→w.cell? ⟨g,k,none⟩=some v):ci P n env S o v:=fun a r w hS=>by
 unfold execOp;simp[ho,r.eval hx,Instr.loadAt,Instr.sureAddr,iZ ht (hc w hS)]
theorem xR{t g k m:Nat}{x:Operand}{cs:List Value}(ho:o.op= .load t x)(hx:env.ev x=some (.pointer (some ⟨g,k,none⟩)))(ht:ba P t=some m)(hm:cs.length=m)(hc: ∀w,S w→w.rangeAt g k cs):ci P n env S o (.agg cs.toArray):=fun a r w hS=>by
 unfold execOp;simp[ho,r.eval hx,Instr.loadAt,Instr.sureAddr,j5 ht hm (hc w hS)]
omit [bB]in
theorem i6{w:World}{H:bZ}{g i k ty:Nat}{cs:List Value}{v:Value}(h:Hp w H)(hi:H[i]? =some (some g,Cl cs ty))(hv:cs[k]? =some v):w.cell? ⟨g,k,none⟩=some v:=by
 rw[cell_of_row w g k cs.toArray ty (0,0) (h.at hi)];simpa using hv
omit [bB]in
theorem qm{w:World}{H:bZ}{g i k m ty:Nat}{cs:List Value}(h:Hp w H)(hi:H[i]? =some (some g,Cl cs ty)):w.rangeAt g k ((cs.drop k).take m):=fun j v hj=>by
 refine i6 h hi ?_;rw[List.getElem?_take]at hj;split at hj
 ·rw[List.getElem?_drop]at hj;exact hj
 ·cases hj
omit [bB]in
theorem rG{w:World}{H:bZ}{g i ty:Nat}{cs:List Value}(h:Hp w H)(hi:H[i]? =some (some g,Cl cs ty)):w.rangeAt g 0 cs:=fun j v hj=>by
 refine i6 h hi ?_;simpa using hj
theorem th{t g k i ty:Nat}{x:Operand}{cs:List Value}{H:bZ}{v:Value}(ho:o.op= .load t x)(hx:env.ev x=some (.pointer (some ⟨g,k,none⟩)))(ht:dG P t=true)(h: ∀w,S w→Hp w H)(hi:H[i]? =some (some g,Cl cs ty))(hv:cs[k]? =some v):ci P n env S o v:=
 xQ ho hx ht fun w hS=>i6 (h w hS) hi hv
theorem tl{t g m i ty:Nat}{x:Operand}{cs:List Value}{H:bZ}(ho:o.op= .load t x)(hx:env.ev x=some (.pointer (some ⟨g,0,none⟩)))(ht:ba P t=some m)(h: ∀w,S w→Hp w H)(hi:H[i]? =some (some g,Cl cs ty))(hl:cs.length=m):ci P n env S o (.agg cs.toArray):=
 xR ho hx ht hl fun w hS=>rG (h w hS) hi
end
section
variable [bB] {P:Program} {n:Nat} {env:aI} {w:World} {o:Oper} {K:aI→World→Prop} {H:bZ}
theorem fX{t g k i ty:Nat}{x y:Operand}{u:Value}{vs cs:List Value}(ho:o.op= .store t x y)(hd:o.dst=none)(hx:env.ev x=some (.pointer (some ⟨g,k,none⟩)))(hy:env.ev y=some u)
  (hu:u.cells.toList=vs) (ht:(P.info? t).map (·.size)=some vs.length) (h1: ∀v∈vs,v.oneCell'=true) (h:Hp w H) (hi:H[i]? =some (some g,Cl cs ty)) (hfit:k+vs.length≤cs.length)
  (hk: ∀w',Hp w' (H.set i (some g,Cl (cs.take k++vs++cs.drop (k+vs.length)) ty))→Fr [g] w w'→w'.heap.size=w.heap.size→K env w'):bH P n env w o K:=by
 have hg:=h.at hi;have hst:=run_storeCells_at P g k ty vs 0 cs.toArray w hg (by simpa using hfit) h1;simp only[Nat.add_zero]at hst;have hsz:u.cells.size=vs.length:=by rw[←hu];simp
 cases hq:P.info? t with
 |none=>simp[hq]at ht
 |some inf=>
  have hs:inf.size=vs.length:=by simpa[hq]using ht
  refine wm hd (w':=w.setRow g (cs.take k++vs++cs.drop (k+vs.length)).toArray) (fun a r=>?_) (hk _ (h.setAt hi (Fr.setRow w g _) (setRow_heap w g _ _ ty (0,0) hg)) (Fr.setRow w g _) (by simp));unfold execOp;simp[ho,r.eval hx,r.eval hy,Instr.storeAt,Instr.sureAddr,storeVar,sizeOf,typeInfo,hq,hs,hsz,hu];rw[hst];simp
omit [bB]in
theorem qR{α:Type}(cs:List α)(k:Nat)(v:α)(hk:k<cs.length):cs.take k++ [v]++cs.drop (k+1)=cs.set k v:=by
 rw[List.set_eq_take_append_cons_drop,if_pos hk];simp
theorem E2{t g k i ty:Nat}{x y:Operand}{u:Value}{cs:List Value}(ho:o.op= .store t x y)(hd:o.dst=none)(hx:env.ev x=some (.pointer (some ⟨g,k,none⟩)))(hy:env.ev y=some u)
  (hu:u.cells= #[u]) (ht:(P.info? t).map (·.size)=some 1) (h1:u.oneCell'=true) (h:Hp w H) (hi:H[i]? =some (some g,Cl cs ty)) (hfit:k<cs.length)
  (hk: ∀w',Hp w' (H.set i (some g,Cl (cs.set k u) ty))→Fr [g] w w'→w'.heap.size=w.heap.size→K env w'):bH P n env w o K:=
 fX (vs:= [u]) ho hd hx hy (by simp[hu]) (by simpa using ht) (by simpa using h1) h hi (by simp;omega) fun w' hp hf=>by
  rw[List.length_singleton,qR cs k u hfit]at hp;exact hk w' hp hf
theorem qn{t g i ty:Nat}{x y:Operand}{us cs:List Value}(ho:o.op= .store t x y)(hd:o.dst=none)(hx:env.ev x=some (.pointer (some ⟨g,0,none⟩)))(hy:env.ev y=some (.agg us.toArray))
  {m:Nat} (ht:(P.info? t).map (·.size)=some m) (hm:us.length=m) (h1: ∀v∈us,v.oneCell'=true) (h:Hp w H) (hi:H[i]? =some (some g,Cl cs ty)) (hl:cs.length=us.length)
  (hk: ∀w',Hp w' (H.set i (some g,Cl us ty))→Fr [g] w w'→w'.heap.size=w.heap.size→K env w'):bH P n env w o K:=
 fX (vs:=us) ho hd hx hy rfl (by rw[hm];exact ht) h1 h hi (by omega) fun w' hp hf=>by
  rw[List.take_zero,List.nil_append,Nat.zero_add,List.drop_of_length_le (by omega),List.append_nil]at hp;exact hk w' hp hf
theorem o5{t:Nat}{cs:List Value}(ho:o.op= .alloc t){d:Nat}(hd:o.dst=some d)(hn:Nat.blt d n=true)(hz:zeroCells P t=some cs)(h:Hp w H)
  (hk: ∀g w',Hp w' (H++ [(some g,Cl cs t)])→Fr [] w w'→w.heap.size≤g→K ((d,(.pointer (some ⟨g,0,none⟩)))::env) w'):bH P n env w o K:=by
 unfold zeroCells at hz;cases hq:P.info? t with
 |none=>simp[hq]at hz
 |some inf=>
  cases hzz:inf.zero with
  |none=>simp[hq,hzz]at hz
  |some z=>
   have hz':z.cells=cs.toArray:=by simp[hq,hzz]at hz;rw[←hz]
   refine fI hd hn (v:= .pointer (some ⟨w.heap.size,0,none⟩)) (w':=w.alloc (.cells cs.toArray t)) (fun a r=>?_) (hk _ _ (h.alloc _) (Fr.alloc w _) (Nat.le_refl _));unfold execOp;simp[ho,Instr.alloc,zeroValue,typeInfo,hq,hzz,newVar,newRow,hz']
theorem Mr{t:Nat}{x:Operand}{us:List Value}(ho:o.op= .box t x){d:Nat}(hd:o.dst=some d)(hn:Nat.blt d n=true)(hx:env.ev x=some (.agg us.toArray))(h:Hp w H)
  (hk: ∀g w',Hp w' (H++ [(some g,Cl us t)])→Fr [] w w'→w.heap.size≤g→K ((d,(.pointer (some ⟨g,0,none⟩)))::env) w'):bH P n env w o K:=by
 refine fI hd hn (v:= .pointer (some ⟨w.heap.size,0,none⟩)) (w':=w.alloc (.cells us.toArray t)) (fun a r=>?_) (hk _ _ (h.alloc _) (Fr.alloc w _) (Nat.le_refl _));unfold execOp;simp[ho,Instr.box,newVar,newRow,r.eval hx,Value.cells]
theorem BA{t:Nat}{x:Operand}{u:Value}(ho:o.op= .box t x){d:Nat}(hd:o.dst=some d)(hn:Nat.blt d n=true)(hx:env.ev x=some u)(hu:u.cells= #[u])(h:Hp w H)
  (hk: ∀g w',Hp w' (H++ [(some g,Cl [u] t)])→Fr [] w w'→w.heap.size≤g→K ((d,(.pointer (some ⟨g,0,none⟩)))::env) w'):bH P n env w o K:=by
 refine fI hd hn (v:= .pointer (some ⟨w.heap.size,0,none⟩)) (w':=w.alloc (.cells #[u] t)) (fun a r=>?_) (hk _ _ (h.alloc _) (Fr.alloc w _) (Nat.le_refl _));unfold execOp;simp[ho,Instr.box,newVar,newRow,r.eval hx,hu]
end
end Go.Proofs.YtmpeiadlohbikaaGreatDoor
end

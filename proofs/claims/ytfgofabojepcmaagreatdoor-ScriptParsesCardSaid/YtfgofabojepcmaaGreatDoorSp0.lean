/- Rules for slices, strings, arrays and struct values. -/
import Derived.Handy
import Derived.WalkSpells
import Derived.WalkLawsBesides
import Derived.OrdersHeld
import Derived.Laws.CopyRow
import Derived.Deep.MidRow
import Derived.LoopN
import Derived.Lib.BufferWrite
import Derived.LoopNIn
import Derived.TacticsIn
import Derived.RangeFuncKeeps
import Derived.RangeFuncCalls
import Derived.Maps.AppendAt
import Derived.Laws.MakeOwn
import Derived.Laws.BytesArg
section
namespace Go.Proofs.YtfgofabojepcmaaGreatDoor
open Go.RowKit
theorem cn{d k:Nat}(e: ¬d=k):Nat.beq d k=false:=by
 rcases h:Nat.beq d k with _|_
 ·rfl
 ·exact absurd (Nat.eq_of_beq_eq_true h) e
class bF where
 ds:List Deferred
 ro:Option Nat
instance(priority:=100) dfs0:bF:=⟨[],none⟩
def Fw(ro:Option Nat):Fence:={Fence.wide with round:=ro}
abbrev aK:=List (Nat×Value)
def aK.get:aK→Nat→Option Value
 | [],_=>none
 |(j,v)::r,k=>bif Nat.beq j k then some v else aK.get r k
def aK.ev(e:aK):Operand→Option Value
 | .tmp t=>e.get t
 | .const v=>some v
 | .global g=>some (.pointer (some ⟨g,0,none⟩))
 | .func f=>some (.func (.func f) #[] #[])
def aK.evs(e:aK):List Operand→Option (List Value)
 | []=>some []
 |x::r=>match e.ev x,aK.evs e r with
  |some v,some vs=>some (v::vs)
  |_,_=>none
section
variable [bF]
structure gj(n:Nat)(env:aK)(a:Act):Prop where
 size:a.tmps.size=n
 defers:a.defers=bF.ds
 get: ∀k v,env.get k=some v→a.tmps[k]? =some v
theorem gj.eval{n:Nat}{env:aK}{a:Act}(h:gj n env a){x:Operand}{v:Value}(hx:env.ev x=some v):a.eval x=v:=by
 cases x with
 |tmp t=>
  have:=h.get t v hx;simp[Act.eval,this]
 |const u=>simpa[aK.ev,Act.eval]using hx
 |global g=>simpa[aK.ev,Act.eval]using hx
 |func f=>simpa[aK.ev,Act.eval]using hx
theorem gj.evals{n:Nat}{env:aK}{a:Act}(h:gj n env a): ∀{xs:List Operand} {vs:List Value},env.evs xs=some vs→xs.map a.eval=vs
 | [],vs,hx=>by simpa[aK.evs]using hx
 |x::r,vs,hx=>by
  simp only[aK.evs]at hx;split at hx
  ·rename_i v us h1 h2;simp only[Option.some.injEq]at hx;rw[←hx,List.map_cons,h.eval h1,h.evals h2]
  ·cases hx
theorem gj.put{n d:Nat}{env:aK}{a:Act}(h:gj n env a)(hd:Nat.blt d n=true)(v:Value):gj n ((d,v)::env) (a.put (some d) v):=by
 have hd':d<n:=by simpa[Nat.blt_eq]using hd
 refine⟨by simp[Act.put,h.size],by simp[Act.put,h.defers],fun k u hk=>?_⟩;unfold aK.get at hk;by_cases e:d=k
 ·subst e;simp at hk;subst hk;simp[Act.put,h.size,hd']
 ·have hb:Nat.beq d k=false:=cn e;rw[hb]at hk;simp only[cond_false]at hk;simp[Act.put,Array.getElem?_setIfInBounds_ne e,h.get k u hk]
def aK.Le:aK→aK→Prop
 | [],_=>True
 |(k,v)::r,e=>e.get k=some v∧aK.Le r e
omit [bF]in
theorem aK.Le.get{e:aK}: ∀{s:aK},aK.Le s e→ ∀k v,s.get k=some v→e.get k=some v
 | [],_,k,v,hk=>by simp[aK.get]at hk
 |(j,u)::r,h,k,v,hk=>by
  unfold aK.get at hk;by_cases ejk:j=k
  ·subst ejk;simp at hk;subst hk;exact h.1
  ·have hb:Nat.beq j k=false:=cn ejk;rw[hb]at hk;exact aK.Le.get h.2 k v hk
theorem gj.weak{n:Nat}{env env':aK}{a:Act}(h:gj n env a)(hl:aK.Le env' env):gj n env' a:=
 ⟨h.size,h.defers,fun k v hk=>h.get k v (hl.get k v hk)⟩
abbrev EQ:=Exit→aK→World→Prop
def Lf(n:Nat)(Q:EQ):Exit→Act→World→Prop:=fun e a w=> ∃env,gj n env a∧Q e env w
def Wp(P:Program)(n:Nat)(c:Code)(Q:EQ)(env:aK)(w:World):Prop:= ∀a,gj n env a→c.wpIn (Fw bF.ro) 0 P (Lf n Q) a w
def pi(o:Oper):Bool:=match o.op with
 | .defer _=>false
 |_=>true
omit [bF]in
theorem xA{o:Oper}(h:pi o=true): ∀c,o.op≠ .defer c:=fun c hc=>by simp[pi,hc]at h
omit [bF]in
theorem Oper.semFw{o:Oper}(ro:Option Nat)(h:pi o=true)(ρ:Operand→Value):o.semAt (Fw ro).round ρ=execOp ρ o:=Oper.semAt_eq _ _ _ (xA h)
omit [bF]in
theorem A8{o:Oper}{ro:Option Nat}{P:Program}{a:Act}{K:Act→World→Prop}{Q:Exit→Act→World→Prop}{r:Result Next}(h:o.upon P a K Q r):o.uponIn (Fw ro) 0 P a K Q r:=by
 cases r with
 |ok x w'=>
  cases x<;>simp only[Oper.upon,Oper.uponIn]at h⊢ <;>
   first
    |exact h
    |(refine⟨fun h=>by simp[Fw,Fence.wide]at h,?_⟩;exact(callsIn_wide (n:=0 - 1)).2 h)
    |(refine⟨fun h=>by simp[Fw,Fence.wide]at h,fun c cs _=>?_⟩;obtain⟨v,w',r,s⟩:=h c cs;exact⟨v,w',r,stepsIn_wide.2 s⟩)
 |halt x w'=>cases x<;>simp only[Oper.upon,Oper.uponIn]at h⊢ <;>exact h
omit [bF]in
theorem lY{o:Oper}{ro:Option Nat}{P:Program}{a:Act}{w:World}{K:Act→World→Prop}{Q:Exit→Act→World→Prop}(hnd:pi o=true)(h:o.wp P a w K Q):o.wpIn (Fw ro) 0 P a w K Q:=by
 refine⟨fun _ _=>trivial,?_⟩;rw[Oper.semFw ro hnd];exact A8 h
omit [bF]in
theorem kH{ro:Option Nat}{P:Program}{ops:Array Oper}{Q:Exit→Act→World→Prop}(hl: ¬LetsOut Q)(hnd:ops.toList.all pi=true): ∀(l:List Nat) (a:Act) (w:World),wpOps P ops Q l a w→wpOpsIn (Fw ro) 0 P ops Q l a w
 | [],_,_,h=>h
 |i::l,a,w,h=>by
  simp only[wpOps]at h;simp only[wpOpsIn];cases ho:ops[i]? with
  |none=>simp only[ho]at h⊢;exact kH hl hnd l a w h
  |some o=>
   simp only[ho]at h⊢;have hn:pi o=true:=List.all_eq_true.1 hnd o (by
    obtain⟨h1,h2⟩:=Array.getElem?_eq_some_iff.1 ho;rw[←h2];exact Array.getElem_mem_toList h1)
   split
   ·rename_i hw;rw[if_pos hw]at h;rcases h with h|h
    ·exact lY hn (Oper.wp_mono (fun a w=>kH hl hnd l a w) h)
    ·exact absurd h.2 hl
   ·rename_i hw;rw[if_neg hw]at h;exact⟨fun _ _=>trivial,kH hl hnd l _ w h⟩
omit [bF]in
theorem ut{ro:Option Nat}{id:Nat}{P:Program}{ops:Array Oper}{Q:Exit→Act→World→Prop}{a:Act}{w:World}(hm:P.follows .mixedOrders=true)(hl: ¬LetsOut Q)(hnd:ops.toList.all pi=true)
  (h:wpAny P .any ops Q ops.size (Array.replicate ops.size false) a w.drew):(Code.region id ops true).wpIn (Fw ro) 0 P Q a w:=
 wpIn_region_draw fun t=>kH hl hnd _ a _ (by
  simp only[Region.schedule,hm,Bool.true_or,if_true];exact wpAny_sound ops.size t _ a _ h)
def Ls(P:Program)(n:Nat)(ops:Array Oper)(Q:EQ)(l:List Oper)(env:aK)(w:World):Prop:=l.all pi=true→ ∀a,gj n env a→wpListIn (Fw bF.ro) 0 P ops (Lf n Q) l a w
def Th(K:aK→World→Prop)(Q:EQ):EQ
 | .normal,env,w=>K env w
 |e,env,w=>Q e env w
def Ib(id:Nat)(Q:EQ):EQ
 | .exit i,env,w=>bif Nat.beq i id then Q .normal env w else Q (.exit i) env w
 |e,env,w=>Q e env w
section
variable {P:Program} {n:Nat} {Q:EQ} {env:aK} {w:World} {c x y:Code}
theorem A9(env':aK)(hl:aK.Le env' env)(h:Wp P n c Q env' w):Wp P n c Q env w:=fun a r=>h a (r.weak hl)
theorem dH(h:Q .normal env w):Wp P n .skip Q env w:=fun _ r=>wpIn_skip ⟨env,r,h⟩
theorem xB{l:Nat}(h:Q .normal env w):Wp P n (.label l) Q env w:=fun _ r=>wpIn_label ⟨env,r,h⟩
theorem lZ{id:Nat}(h:Q (.exit id) env w):Wp P n (.exit id) Q env w:=fun _ r=>wpIn_exit ⟨env,r,h⟩
theorem wR(h:Q .ret env w):Wp P n .ret Q env w:=fun _ r=>wpIn_ret ⟨env,r,h⟩
theorem bi(h: ∀K:aK→World→Prop,(∀e v,Wp P n y Q e v→K e v)→Wp P n x (Th K Q) env w):Wp P n (.seq x y) Q env w:=fun a r=>
 wpIn_seq (Code.wpIn_mono (fun e a' w' hq=>by
  obtain⟨env',r',q⟩:=hq;cases e with
  |normal=>exact q a' r'
  |_=>exact⟨env',r',q⟩) (h (Wp P n y Q) (fun _ _ h=>h) a r))
theorem dm{b:Operand}(hb:env.ev b=some (.bool true))(h:Wp P n x Q env w):Wp P n (.cond b x y) Q env w:=fun a r=>
 wpIn_cond_true (r.eval hb) (h a r)
theorem dI{b:Operand}(hb:env.ev b=some (.bool false))(h:Wp P n y Q env w):Wp P n (.cond b x y) Q env w:=fun a r=>
 wpIn_cond_false (r.eval hb) (h a r)
theorem iW{b:Operand}{t:Bool}(hb:env.ev b=some (.bool t))(h1:t=true→Wp P n x Q env w)(h2:t=false→Wp P n y Q env w):Wp P n (.cond b x y) Q env w:=by
 cases t
 ·exact dI hb (h2 rfl)
 ·exact dm hb (h1 rfl)
theorem cz{id:Nat}(h:Wp P n c (Ib id Q) env w):Wp P n (.block id c) Q env w:=fun a r=>
 wpIn_block (Code.wpIn_mono (fun e a' w' hq=>by
  obtain⟨env',r',q⟩:=hq;cases e with
  |exit i=>
   unfold Exit.inBlock;by_cases hi:i=id
   ·subst hi;simp only[Ib]at q⊢;simp at q⊢;exact⟨env',r',q⟩
   ·have hb:Nat.beq i id=false:=cn hi;simp only[Ib,hb,cond_false]at q;simp only[hi,if_false];exact⟨env',r',q⟩
  |_=>exact⟨env',r',q⟩) (h a r))
theorem kI{Q':EQ}(h:Wp P n c Q env w)(hq: ∀e v u,Q e v u→Q' e v u):Wp P n c Q' env w:=fun a r=>
 Code.wpIn_mono (fun _ _ _ ⟨env',r',q⟩=>⟨env',r',hq _ _ _ q⟩) (h a r)
theorem td(I:Nat→aK→World→Prop)(m0:Nat)(h0:I m0 env w)
  (h: ∀m env w,I m env w→Wp P n c (Th (fun env' w'=> ∃m',m'<m∧I m' env' w') Q) env w):Wp P n (.loop c) Q env w:=by
 intro a r;have key: ∀N m env w a,m<N→I m env w→gj n env a→Code.roundsIn (Fw bF.ro) 0 P c (Lf n Q) N a w:=by
  intro N;induction N with
  |zero=>intro m env w a hm;omega
  |succ N ih=>
   intro m env w a hm hi ra;rw[roundsIn_succ];refine Code.wpIn_mono (fun e a' w' hq=>?_) (h m env w hi a ra);obtain⟨env',r',q⟩:=hq;cases e with
   |normal=>
    obtain⟨m',hlt,hi'⟩:=q;exact ih m' env' w' a' (by omega) hi' r'
   |_=>exact⟨env',r',q⟩
 exact wpIn_loop_rounds (m0+1) (key (m0+1) m0 env w a (by omega) h0 r)
theorem aW{id:Nat}{l:List Oper}(h:Ls P n l.toArray Q l env w)(hnd:l.all pi=true:=by rfl):Wp P n (.region id l.toArray false) Q env w:=fun a r=>wpIn_region_lit (h hnd a r)
end
def lH(n:Nat)(env:aK)(ops:Array Oper)(o:Oper)(b:Bool):Prop:= ∀a,gj n env a→Region.wanted o (yielded ops a.tmps)=b
theorem aR{n:Nat}{env:aK}{ops:Array Oper}{o:Oper}(hg:o.guard=none):lH n env ops o true:=fun _ _=>by simp[Region.wanted,hg]
theorem He{n:Nat}{env:aK}{ops:Array Oper}{o:Oper}{j s:Nat}{b c:Bool}(hg:o.guard=some (j,b))(hj:(ops[j]?).bind (·.dst)=some s)(hs:env.get s=some (.bool c)):
  lH n env ops o (c==b):=fun a r=>by
 have:=r.get s _ hs;simp[Region.wanted,hg,yielded,hj,this]
theorem cE{n:Nat}{env:aK}{ops:Array Oper}{o:Oper}{j s:Nat}{b:Bool}(hg:o.guard=some (j,b))(hj:(ops[j]?).bind (·.dst)=some s)(hs:env.get s=some (.bool b)):
  lH n env ops o true:=fun a r=>by
 have:=He (n:=n) (ops:=ops) hg hj hs a r;simpa using this
def cb(P:Program)(n:Nat)(env:aK)(S:World→Prop)(o:Oper)(v:Value):Prop:= ∀a,gj n env a→ ∀w,S w→(execOp a.eval o).run P w= .ok (.value v) w
def cd(P:Program)(n:Nat)(env:aK)(w:World)(o:Oper)(K:aK→World→Prop):Prop:= ∀a,gj n env a→o.wp P a w (fun a' w'=> ∃env',gj n env' a'∧K env' w') (fun _ _ _=>False)
def aK.dst(env:aK)(d:Option Nat)(v:Value):aK:=match d with
 |some d=>(d,v)::env
 |none=>env
theorem gj.dst{n:Nat}{env:aK}{a:Act}(h:gj n env a){d:Option Nat}(hd:(d.all (Nat.blt · n))=true)(v:Value):gj n (env.dst d v) (a.put d v):=by
 cases d with
 |none=>exact h
 |some d=>exact h.put (by simpa using hd) v
omit [bF]in
theorem jy{P:Program}{o:Oper}{a:Act}{w:World}{K:Act→World→Prop}{Q:Exit→Act→World→Prop}(h:o.wp P a w K (fun _ _ _=>False)):o.wp P a w K Q:=by
 unfold Oper.wp at*;generalize (execOp a.eval o).run P w=r at*;cases r with
 |ok x w'=>
  cases x<;>simp only[Oper.upon]at h⊢ <;>
   first
    |exact h
    |exact Calls.mono h (fun e w'' he=>by
      cases e with
      |returned v=>exact he
      |panicked c=>exact he.elim
      |outgrown=>obtain⟨_,_,hf⟩:=he;exact hf.elim)
 |halt x w'=>cases x<;>simp only[Oper.upon]at h⊢ <;>exact h.elim
section
variable {P:Program} {n:Nat} {Q:EQ} {env:aK} {w:World} {ops:Array Oper} {o:Oper} {rest:List Oper}
theorem bq(h:Q .normal env w):Ls P n ops Q [] env w:=fun _ _ r=>wpListIn_nil ⟨env,r,h⟩
omit [bF]in
theorem tf{o:Oper}{l:List Oper}(h:(o::l).all pi=true):pi o=true:=by simp only[List.all_cons,Bool.and_eq_true]at h;exact h.1
omit [bF]in
theorem m5{o:Oper}{l:List Oper}(h:(o::l).all pi=true):l.all pi=true:=by simp only[List.all_cons,Bool.and_eq_true]at h;exact h.2
theorem aI{v:Value}{d:Nat}(hw:lH n env ops o true)(hd:o.dst=some d)(hn:Nat.blt d n=true)(hy:cb P n env (· =w) o v)(h:Ls P n ops Q rest ((d,v)::env) w):Ls P n ops Q (o::rest) env w:=fun hnd a r=>
 wpListIn_step fun K hK=>by
  rw[if_pos (hw a r)];refine lY (tf hnd) ?_;unfold Oper.wp;rw[hy a r w rfl];have r':=r.put hn v;rw[←hd]at r';exact hK _ _ (h (m5 hnd) _ r')
theorem EA{d:Nat}(hw:lH n env ops o false)(hd:o.dst=some d)(hn:Nat.blt d n=true)(h:Ls P n ops Q rest ((d,undef)::env) w):Ls P n ops Q (o::rest) env w:=fun hnd a r=>
 wpListIn_step fun K hK=>by
  rw[if_neg (by rw[hw a r];decide)];have r':=r.put hn undef;rw[←hd]at r';exact⟨fun _ _=>trivial,hK _ _ (h (m5 hnd) _ r')⟩
theorem Hg(hw:lH n env ops o false)(hd:o.dst=none)(h:Ls P n ops Q rest env w):Ls P n ops Q (o::rest) env w:=fun hnd a r=>
 wpListIn_step fun K hK=>by
  rw[if_neg (by rw[hw a r];decide)];refine⟨fun _ _=>trivial,hK _ _ (h (m5 hnd) _ ?_)⟩;rw[hd];exact r
theorem m6(hw:lH n env ops o true)(h:cd P n env w o (fun env' w'=>Ls P n ops Q rest env' w')):Ls P n ops Q (o::rest) env w:=fun hnd a r=>
 wpListIn_step fun K hK=>by
  rw[if_pos (hw a r)];exact lY (tf hnd) (jy (Oper.wp_mono (fun a' w' ⟨env',r',hl⟩=>hK _ _ (hl (m5 hnd) a' r')) (h a r)))
end
section
variable {P:Program} {n:Nat} {Q:EQ} {env:aK} {w:World} {ops:Array Oper} {S:World→Prop}
theorem gj.sub{a:Act}{e:aK}(r:gj n env a)(h: ∀k v,e.get k=some v→env.get k=some v):gj n e a:=⟨r.size,r.defers,fun k v hk=>r.get k v (h k v hk)⟩
end
def uz(P:Program)(n:Nat)(fn:Func)(env:aK)(w:World)(v:Value):Prop:= ∀a,gj n env a→(results fn a.tmps).run P w= .ok v w
def Fq(P:Program)(n:Nat)(fn:Func)(R:Ending→World→Prop):EQ
 | .normal,env,w| .ret,env,w=> ∃v,uz P n fn env w v∧R (.returned v) w
 |_,_,_=>False
def dL:Nat→List Value→aK
 |_,[]=> []
 |i,v::r=>(i,v)::dL (i+1) r
omit [bF]in
theorem jz: ∀(vs:List Value) (i k:Nat) (v:Value),(dL i vs).get k=some v→i≤k∧vs[k - i]? =some v
 | [],i,k,v,h=>by simp[dL,aK.get]at h
 |u::r,i,k,v,h=>by
  unfold dL aK.get at h;by_cases e:i=k
  ·subst e;simp at h;subst h;simp
  ·have hb:Nat.beq i k=false:=cn e;rw[hb]at h;obtain⟨h1,h2⟩:=jz r (i+1) k v h;refine⟨by omega,?_⟩;rw[show k - i=(k -(i+1))+1 by omega];simpa using h2
end
theorem xC{P:Program}{f:FuncId}{fn:Func}{c:Code}{args:List Value}{w:World}{R:Ending→World→Prop}(n:Nat)
  (hf:P.funcs[f]? =some fn) (hb:fn.body=some c) (hn:fn.ntmps=n) (hle:Nat.ble args.length n=true) (h:Wp P n c (Fq P n fn R) (dL 0 args) w):Calls P f args.toArray w R:=by
 have h1:=h {tmps:=args.toArray++Array.replicate (fn.ntmps - args.toArray.size) undef,defers:= []} ⟨?_,rfl,fun k v hk=>?_⟩
 ·have h2:=(wpIn_wide (n:=0)).1 h1;refine calls_of_wp hf hb (Code.wp_mono (fun e a' w' hq=>?_) h2);obtain⟨env',r',q⟩:=hq;cases e<;>simp only[Fq]at q<;>first|exact q.elim|skip
  all_goals
   obtain⟨v,hv,hR⟩:=q;exact⟨r'.defers,v,hv a' r',hR⟩
 ·have:args.length≤n:=by simpa[Nat.ble_eq]using hle
  simp[hn];omega
 ·obtain⟨_,h2⟩:=jz args 0 k v hk;simp only[Nat.sub_zero]at h2;have hlt:k<args.length:=(List.getElem?_eq_some_iff.1 h2).1;have h3:args[k]=v:=(List.getElem?_eq_some_iff.1 h2).2;simp[Array.getElem?_append,hlt,h3]
section
variable [bF]
theorem Ba{P:Program}{n:Nat}{fn:Func}{env:aK}{w:World}{t:Tmp}{v:Value}(h:fn.results= #[.tmp t])(hv:env.get t=some v):uz P n fn env w v:=fun a r=>by
 rw[results_tmp h];have:=r.get t v hv;simp[this]
theorem Hh{P:Program}{n:Nat}{fn:Func}{env:aK}{w:World}(h:fn.results= #[]):uz P n fn env w (.tuple #[]):=fun _ _=>results_none h _ _ _
end
end Go.Proofs.YtfgofabojepcmaaGreatDoor
end

section
namespace Go.Proofs.YtfgofabojepcmaaGreatDoor
open Go.RowKit
abbrev sv(l:List UInt8):Value:= .string ⟨l.toArray⟩
abbrev Cl(cs:List Value)(t:TypeId):Obj:= .cells cs.toArray t (0,0)
def dh(P:Program)(s f:Nat):Option Nat:=match P.underlying s with
 |some (.struct fs)=>match fs[f]? with
  |some fd=>match P.info? fd.type with
   |some i=>if i.size=0 then none else some fd.offset
   |none=>none
  |none=>none
 |_=>none
def cS(P:Program)(t:Nat):Option Nat:=match P.underlying t with
 |some (.struct _)|some (.array _ _)=>(P.info? t).map (·.size)
 |_=>none
def cA(P:Program)(t:Nat):Bool:=match P.underlying t with
 |some (.struct _)|some (.array _ _)=>false
 |some _=>match P.info? t with
  |some i=>i.size==1
  |none=>false
 |none=>false
def zeroCells(P:Program)(t:Nat):Option (List Value):=(P.info? t).bind fun i=>i.zero.map fun z=>z.cells.toList
section
variable [bF] {P:Program} {n:Nat} {env:aK} {S:World→Prop} {o:Oper} {v:Value}
theorem cf{x:Operand}(ho:o.op= .move x)(hx:env.ev x=some v):cb P n env S o v:=fun a r w _=>by
 unfold execOp;simp only[ho,r.eval hx];rfl
theorem cW{x:Operand}(ho:o.op= .assign x)(hx:env.ev x=some v):cb P n env S o v:=fun a r w _=>by
 unfold execOp;simp only[ho,r.eval hx];rfl
theorem m7{c x y:Operand}(ho:o.op= .pick c x y)(hc:env.ev c=some (.bool true))(hx:env.ev x=some v):cb P n env S o v:=fun a r w _=>by
 unfold execOp;simp[ho,r.eval hc,r.eval hx,asBool]
theorem fW{c x y:Operand}(ho:o.op= .pick c x y)(hc:env.ev c=some (.bool false))(hx:env.ev y=some v):cb P n env S o v:=fun a r w _=>by
 unfold execOp;simp[ho,r.eval hc,r.eval hx,asBool]
theorem qB{x:Operand}{i:Nat}{vs:Array Value}(ho:o.op= .extract x i)(hx:env.ev x=some (.tuple vs))(hv:vs[i]? =some v):cb P n env S o v:=fun a r w _=>by
 unfold execOp;simp[ho,r.eval hx,Instr.extract,hv]
theorem nZ{x:Operand}{b:Addr}(ho:o.op= .nilCheck x)(hx:env.ev x=some (.pointer (some b))):cb P n env S o (.pointer (some b)):=fun a r w _=>by
 unfold execOp;simp only[ho,r.eval hx];rfl
theorem n4{x:Operand}{s f g k off:Nat}(ho:o.op= .fieldAddr s x f)(hx:env.ev x=some (.pointer (some ⟨g,k,none⟩)))(hf:dh P s f=some off):
  cb P n env S o (.pointer (some ⟨g,k+off,none⟩)):=fun a r w _=>by
 unfold dh at hf;split at hf<;>try (cases hf;done)
 rename_i fs hu;split at hf<;>try (cases hf;done)
 rename_i fd hfd;split at hf<;>try (cases hf;done)
 rename_i i hi;split at hf
 ·cases hf
 ·rename_i hz;injection hf with hf;subst hf;unfold execOp;simp[ho,r.eval hx,Instr.fieldAt,run_underlying hu,hfd,Instr.sureAddr,fieldPlace,sizeOf,typeInfo,hi,hz,Addr.add_mid]
theorem xD{x:Operand}{t:Nat}{b:Bool}(ho:o.op= .unOp .not t x)(hx:env.ev x=some (.bool b)):cb P n env S o (.bool !b):=fun a r w _=>by
 unfold execOp;simp[ho,r.eval hx,Op.unary]
theorem jl{op:BinOp}{x y:Operand}{t u:Nat}{k:IntKind}{p q:Int}{b:Bool}(ho:o.op= .binOp op t x y u)(hx:env.ev x=some (.int k p))(hy:env.ev y=some (.int k q))
  (hr: ∀w:World,(Op.intCmp op p q).run P w= .ok (.bool b) w) (hop:op= .eql∨op= .neq∨op= .lss∨op= .leq∨op= .gtr∨op= .geq):cb P n env S o (.bool b):=fun a r w _=>by
 unfold execOp;rcases hop with rfl|rfl|rfl|rfl|rfl|rfl<;>simp[ho,r.eval hx,r.eval hy,eqGuard,binOp,hr]
theorem KK{x y:Operand}{t u:Nat}{k:IntKind}{p q:Int}(ho:o.op= .binOp .eql t x y u)(hx:env.ev x=some (.int k p))(hy:env.ev y=some (.int k q)):cb P n env S o (.bool (p==q)):=
 jl ho hx hy (fun _=>rfl) (by simp)
theorem Hi{x y:Operand}{t u:Nat}{k:IntKind}{p q:Int}(ho:o.op= .binOp .eql t x y u)(hx:env.ev x=some (.int k p))(hy:env.ev y=some (.int k q))(h:p≠q):cb P n env S o (.bool false):=
 jl ho hx hy (fun w=>by simp[Op.intCmp,h]) (by simp)
theorem KL{x y:Operand}{t u:Nat}{k:IntKind}{p q:Int}(ho:o.op= .binOp .neq t x y u)(hx:env.ev x=some (.int k p))(hy:env.ev y=some (.int k q)):cb P n env S o (.bool (p !=q)):=
 jl ho hx hy (fun _=>rfl) (by simp)
theorem Hj{x y:Operand}{t u:Nat}{k:IntKind}{p q:Int}(ho:o.op= .binOp .lss t x y u)(hx:env.ev x=some (.int k p))(hy:env.ev y=some (.int k q)):cb P n env S o (.bool (decide (p<q))):=
 jl ho hx hy (fun _=>rfl) (by simp)
theorem m8{x y:Operand}{t u:Nat}{k:IntKind}{p q:Int}(ho:o.op= .binOp .lss t x y u)(hx:env.ev x=some (.int k p))(hy:env.ev y=some (.int k q))(h:p<q):cb P n env S o (.bool true):=
 jl ho hx hy (fun w=>by simp[Op.intCmp,h]) (by simp)
theorem xE{x y:Operand}{t u:Nat}{k:IntKind}{p q:Int}(ho:o.op= .binOp .lss t x y u)(hx:env.ev x=some (.int k p))(hy:env.ev y=some (.int k q))(h:q≤p):cb P n env S o (.bool false):=
 jl ho hx hy (fun w=>by simp[Op.intCmp,h]) (by simp)
theorem KM{x y:Operand}{t u:Nat}{k:IntKind}{p q:Int}(ho:o.op= .binOp .leq t x y u)(hx:env.ev x=some (.int k p))(hy:env.ev y=some (.int k q)):cb P n env S o (.bool (decide (p≤q))):=
 jl ho hx hy (fun _=>rfl) (by simp)
theorem Hl{x y:Operand}{t u:Nat}{k:IntKind}{p q:Int}(ho:o.op= .binOp .gtr t x y u)(hx:env.ev x=some (.int k p))(hy:env.ev y=some (.int k q)):cb P n env S o (.bool (decide (q<p))):=
 jl ho hx hy (fun _=>rfl) (by simp)
theorem Hm{x y:Operand}{t u:Nat}{k:IntKind}{p q:Int}(ho:o.op= .binOp .gtr t x y u)(hx:env.ev x=some (.int k p))(hy:env.ev y=some (.int k q))(h:p≤q):cb P n env S o (.bool false):=
 jl ho hx hy (fun w=>by simp[Op.intCmp,h]) (by simp)
theorem KN{x y:Operand}{t u:Nat}{k:IntKind}{p q:Int}(ho:o.op= .binOp .geq t x y u)(hx:env.ev x=some (.int k p))(hy:env.ev y=some (.int k q)):cb P n env S o (.bool (decide (q≤p))):=
 jl ho hx hy (fun _=>rfl) (by simp)
theorem jm{x y:Operand}{t u:Nat}{k:IntKind}{p q c:Int}(ho:o.op= .binOp .add t x y u)(hx:env.ev x=some (.int k p))(hy:env.ev y=some (.int k q))(hw:k.wrap (p+q)=c):cb P n env S o (.int k c):=fun a r w _=>by
 unfold execOp;simp[ho,r.eval hx,r.eval hy,eqGuard,binOp,Op.intArith,hw]
theorem xF{x y:Operand}{t u:Nat}{k:IntKind}{p q c:Int}(ho:o.op= .binOp .sub t x y u)(hx:env.ev x=some (.int k p))(hy:env.ev y=some (.int k q))(hw:k.wrap (p - q)=c):cb P n env S o (.int k c):=fun a r w _=>by
 unfold execOp;simp[ho,r.eval hx,r.eval hy,eqGuard,binOp,Op.intArith,hw]
theorem Hn{x y:Operand}{t u:Nat}{k:IntKind}{p q c:Int}(ho:o.op= .binOp .mul t x y u)(hx:env.ev x=some (.int k p))(hy:env.ev y=some (.int k q))(hw:k.wrap (p*q)=c):cb P n env S o (.int k c):=fun a r w _=>by
 unfold execOp;simp[ho,r.eval hx,r.eval hy,eqGuard,binOp,Op.intArith,hw]
theorem Ho{x y:Operand}{t u:Nat}{k:IntKind}{p q c:Int}(ho:o.op= .binOp .quo t x y u)(hx:env.ev x=some (.int k p))(hy:env.ev y=some (.int k q))(h0:q≠0)(hw:k.wrap (p.tdiv q)=c):cb P n env S o (.int k c):=fun a r w _=>by
 unfold execOp;simp[ho,r.eval hx,r.eval hy,eqGuard,binOp,Op.intDiv,hw,h0]
theorem Hq{x y:Operand}{t u:Nat}{k:IntKind}{p q c:Int}(ho:o.op= .binOp .rem t x y u)(hx:env.ev x=some (.int k p))(hy:env.ev y=some (.int k q))(h0:q≠0)(hw:p.tmod q=c):cb P n env S o (.int k c):=fun a r w _=>by
 unfold execOp;simp[ho,r.eval hx,r.eval hy,eqGuard,binOp,Op.intDiv,hw,h0]
theorem Hr{x y:Operand}{t u:Nat}{k ky:IntKind}{p q c:Int}(ho:o.op= .binOp .shl t x y u)(hx:env.ev x=some (.int k p))(hy:env.ev y=some (.int ky q))(h0:0≤q)(hw:k.wrap (p*2^(min q.toNat k.bits))=c):cb P n env S o (.int k c):=fun a r w _=>by
 have h0': ¬q<0:=by omega
 unfold execOp;simp[ho,r.eval hx,r.eval hy,eqGuard,binOp,Op.shift,hw,h0']
theorem Ht{x y:Operand}{t u:Nat}{k ky:IntKind}{p q c:Int}(ho:o.op= .binOp .shr t x y u)(hx:env.ev x=some (.int k p))(hy:env.ev y=some (.int ky q))(h0:0≤q)(hw:p.fdiv (2^(min q.toNat k.bits))=c):cb P n env S o (.int k c):=fun a r w _=>by
 have h0': ¬q<0:=by omega
 unfold execOp;simp[ho,r.eval hx,r.eval hy,eqGuard,binOp,Op.shift,hw,h0']
theorem pj{op:BinOp}{x y:Operand}{t u:Nat}{k:IntKind}{p q c:Int}(ho:o.op= .binOp op t x y u)(hx:env.ev x=some (.int k p))(hy:env.ev y=some (.int k q))(hop:op= .and∨op= .or∨op= .xor∨op= .andNot)(hw:bits op k p q=c):cb P n env S o (.int k c):=fun a r w _=>by
 subst hw;unfold execOp;rcases hop with rfl|rfl|rfl|rfl<;>simp[ho,r.eval hx,r.eval hy,eqGuard,binOp,Op.intBits,bits]
theorem Hv{x:Operand}{src dst:Nat}{d:TypeDesc}{k k0:IntKind}{p c:Int}(ho:o.op= .convert src dst x)(hx:env.ev x=some (.int k0 p))(hs:P.underlying src=some d)(hd:P.underlying dst=some (.int k))(hw:k.wrap p=c):cb P n env S o (.int k c):=fun a r w _=>by
 subst hw;unfold execOp;simp[ho,r.eval hx,convert,run_underlying hs,run_underlying hd,Conv.intToInt]
omit [bF]in
theorem gF{P:Program}{t:Nat}(ht:P.underlying t=some .bool)(p q:Bool)(d:Nat)(w:World):(Op.equalIn (d+1) t (.bool p) (.bool q)).run P w= .ok (p==q) w:=by
 simp[Op.equalIn,run_underlying ht]
theorem Hw{x y:Operand}{t u:Nat}{p q:Bool}(ho:o.op= .binOp .eql t x y u)(hx:env.ev x=some (.bool p))(hy:env.ev y=some (.bool q))(ht:P.underlying t=some .bool):cb P n env S o (.bool (p==q)):=fun a r w _=>by
 have h:=gF ht p q 9999 w;unfold execOp;simp only[ho,r.eval hx,r.eval hy];simp only[eqGuard,binOp];simp[Op.equal,Op.maxDepth,h]
theorem Hy{x y:Operand}{t u:Nat}{p q:Bool}(ho:o.op= .binOp .neq t x y u)(hx:env.ev x=some (.bool p))(hy:env.ev y=some (.bool q))(ht:P.underlying t=some .bool):cb P n env S o (.bool (p !=q)):=fun a r w _=>by
 have h:=gF ht p q 9999 w;unfold execOp;simp only[ho,r.eval hx,r.eval hy];simp only[eqGuard,binOp];simp[Op.equal,Op.maxDepth,h,bne]
theorem Hz{x y:Operand}{t u:Nat}{p q:List UInt8}(ho:o.op= .binOp .eql t x y u)(hx:env.ev x=some (sv p))(hy:env.ev y=some (sv q)):cb P n env S o (.bool (p==q)):=fun a r w _=>by
 unfold execOp;simp[ho,r.eval hx,r.eval hy,eqGuard,binOp,Op.stringOp]
theorem HA{x y:Operand}{t u:Nat}{p q:List UInt8}(ho:o.op= .binOp .neq t x y u)(hx:env.ev x=some (sv p))(hy:env.ev y=some (sv q)):cb P n env S o (.bool (p !=q)):=fun a r w _=>by
 unfold execOp;simp[ho,r.eval hx,r.eval hy,eqGuard,binOp,Op.stringOp,bne]
theorem HB{x y:Operand}{t u:Nat}{p q:List UInt8}(ho:o.op= .binOp .add t x y u)(hx:env.ev x=some (sv p))(hy:env.ev y=some (sv q))(hl:p.length+q.length≤9223372036854775807):cb P n env S o (sv (p++q)):=fun a r w _=>by
 have e:(⟨p.toArray⟩:ByteArray)++⟨q.toArray⟩=⟨(p++q).toArray⟩:=by
  apply ByteArray.ext;simp
 have hl': ¬IntKind.i64.max<(((⟨p.toArray⟩:ByteArray).size+(⟨q.toArray⟩:ByteArray).size:Nat):Int):=by
  have h1:IntKind.i64.max=9223372036854775807:=by decide
  rw[h1];simp[ByteArray.size];omega
 unfold execOp;simp only[ho,r.eval hx,r.eval hy];simp only[eqGuard,binOp,Op.stringOp,gt_iff_lt,if_neg hl',e];rfl
omit [bF]in
theorem fJ{b:Builtin}{x:Operand}{t:Nat}{u:Value}{a:Act}{w w':World}(ho:o.op= .call {callee:= .builtin b,args:= #[x],argTypes:= #[t]})(hx:a.eval x=u)
  (h: ∀cs,(builtin b #[t] o.type cs #[u]).run P w= .ok (.value v) w'):(execOp a.eval o).run P w= .ok (.value v) w':=by
 unfold execOp;simp only[ho,resolve,List.map_toArray,List.map_cons,List.map_nil,hx,Sem.run_bind,Sem.run_pure,Result.andThen_ok,invoke,h]
theorem EB{x:Operand}{t:Nat}{p:List UInt8}(ho:o.op= .call {callee:= .builtin .len,args:= #[x],argTypes:= #[t]})(hx:env.ev x=some (sv p))(ht:P.underlying t=some .string):cb P n env S o (.int .i64 p.length):=fun a r w _=>
 fJ ho (r.eval hx) fun cs=>by
  have h:(Builtin.len_ #[t] o.type #[sv p]).run P w= .ok (goInt (⟨p.toArray⟩:ByteArray).size) w:=by simp[Builtin.len_,run_underlying ht]
  simp only[builtin,Sem.run_bind,h,Result.andThen_ok];rfl
theorem m9{x:Operand}{t e:Nat}{b:Option Addr}{l c:Nat}(ho:o.op= .call {callee:= .builtin .len,args:= #[x],argTypes:= #[t]})(hx:env.ev x=some (.slice b l c))(ht:P.underlying t=some (.slice e)):cb P n env S o (.int .i64 l):=fun a r w _=>
 fJ ho (r.eval hx) fun cs=>by
  have h:(Builtin.len_ #[t] o.type #[.slice b l c]).run P w= .ok (goInt l) w:=by simp[Builtin.len_,run_underlying ht]
  simp only[builtin,Sem.run_bind,h,Result.andThen_ok];rfl
end
end Go.Proofs.YtfgofabojepcmaaGreatDoor
end

section
namespace Go.Proofs.YtfgofabojepcmaaGreatDoor
open Go.RowKit
abbrev bX:=List (Option Nat×Obj)
def bG(H:bX):List Nat:=H.filterMap (·.1)
structure Fr(X:List Nat)(w w':World):Prop where
 os:w'.os=w.os
 tape:w'.tape=w.tape
 output:w'.output=w.output
 size:w.heap.size≤w'.heap.size
 block: ∀k,k<w.heap.size→k∉X→w'.heap[k]? =w.heap[k]?
theorem Fr.refl(X:List Nat)(w:World):Fr X w w:=⟨rfl,rfl,rfl,Nat.le_refl _,fun _ _ _=>rfl⟩
theorem Fr.drew(w:World):Fr [] w w.drew:=⟨rfl,rfl,rfl,Nat.le_refl _,fun _ _ _=>rfl⟩
theorem Fr.alloc(w:World)(o:Obj):Fr [] w (w.alloc o):=⟨rfl,rfl,rfl,by simp,fun k hk _=>heap_alloc_old w o hk⟩
theorem Fr.setRow(w:World)(g:Nat)(cs:Array Value):Fr [g] w (w.setRow g cs):=⟨rfl,rfl,rfl,by simp,fun k _ hk=>setRow_other w g k cs (by simpa using hk)⟩
theorem Fr.step{X Y:List Nat}{w0 w w':World}(h:Fr X w0 w)(h':Fr Y w w')(hY: ∀y∈Y,y∈X∨w0.heap.size≤y):Fr X w0 w':=
 ⟨h'.os.trans h.os,h'.tape.trans h.tape,h'.output.trans h.output,Nat.le_trans h.size h'.size,fun k hk hX=>
  (h'.block k (Nat.lt_of_lt_of_le hk h.size) (fun hy=>(hY k hy).elim hX (fun hle=>by omega))).trans (h.block k hk hX)⟩
theorem Fr.step0{X:List Nat}{w0 w w':World}(h:Fr X w0 w)(h':Fr [] w w'):Fr X w0 w':=h.step h' (fun _ hy=>by cases hy)
theorem Fr.mono{X Y:List Nat}{w w':World}(h:Fr X w w')(hX: ∀x∈X,x∈Y):Fr Y w w':=⟨h.os,h.tape,h.output,h.size,fun k hk hn=>h.block k hk (fun hx=>hn (hX k hx))⟩
theorem Fr.below{w w':World}(h:Fr [] w w'):Below w.heap.size w w':=⟨h.os,h.tape,h.output,h.size,fun k hk=>h.block k hk (by simp)⟩
theorem Fr.of_below{w w':World}(h:Below w.heap.size w w'):Fr [] w w':=⟨h.os,h.tape,h.output,h.size,fun k hk _=>h.block k hk⟩
theorem Fr.cell{X:List Nat}{w w':World}(h:Fr X w w'){p:Addr}(hp:p.block<w.heap.size)(hX:p.block∉X):w'.cell? p=w.cell? p:=World.cell?_of_block (h.block _ hp hX)
structure Hp(w:World)(H:bX):Prop where
 blk: ∀(i:Nat) g o,H[i]? =some (some g,o)→w.heap[g]? =some o
 inj: ∀(i j:Nat) g o o',H[i]? =some (some g,o)→H[j]? =some (some g,o')→i=j
theorem bR{w:World}{g:Nat}{o:Obj}(h:w.heap[g]? =some o):g<w.heap.size:=by
 rcases Nat.lt_or_ge g w.heap.size with hlt|hge
 ·exact hlt
 ·rw[Array.getElem?_eq_none hge]at h;cases h
theorem cX{H:bX}{k:Nat}:k∈bG H↔ ∃(i:Nat) (o:Obj),H[i]? =some (some k,o):=by
 unfold bG;rw[List.mem_filterMap];constructor
 ·rintro⟨⟨a,b⟩,hm,he⟩;obtain⟨i,hi⟩:=List.mem_iff_getElem?.1 hm;exact⟨i,b,by rw[hi];simp at he;rw[he]⟩
 ·rintro⟨i,o,hi⟩;exact⟨(some k,o),List.mem_of_getElem? hi,rfl⟩
section
variable {w w':World} {H H':bX} {g i:Nat} {o o':Obj}
theorem Hp.nil(w:World):Hp w []:=⟨fun _ _ _ h=>by simp at h,fun _ _ _ _ _ h=>by simp at h⟩
theorem Hp.at(h:Hp w H)(hi:H[i]? =some (some g,o)):w.heap[g]? =some o:=h.blk i g o hi
theorem Hp.lt(h:Hp w H)(hi:H[i]? =some (some g,o)):g<w.heap.size:=bR (h.at hi)
theorem Hp.keys_lt(h:Hp w H): ∀k∈bG H,k<w.heap.size:=fun k hk=>by
 obtain⟨i,o,hi⟩:=cX.1 hk;exact h.lt hi
theorem Hp.drew(h:Hp w H):Hp w.drew H:=⟨h.blk,h.inj⟩
theorem Hp.keep{X:List Nat}(h:Hp w H)(hf:Fr X w w')(hX: ∀k∈bG H,k∉X):Hp w' H:=
 ⟨fun i g o hi=>(hf.block g (h.lt hi) (hX g (cX.2 ⟨i,o,hi⟩))).trans (h.at hi),h.inj⟩
theorem Hp.keep0(h:Hp w H)(hf:Fr [] w w'):Hp w' H:=h.keep hf (by simp)
theorem Hp.push(h:Hp w H)(hf:Fr [] w w')(hg:w.heap.size≤g)(hb:w'.heap[g]? =some o):Hp w' (H++ [(some g,o)]):=by
 have hk:=h.keep0 hf;have cases1: ∀(j:Nat) a b,(H++ [(some g,o)])[j]? =some (some a,b)→(H[j]? =some (some a,b))∨(j=H.length∧a=g∧b=o):=fun j a b hj=>by
  rw[List.getElem?_append]at hj;split at hj
  ·exact .inl hj
  ·rename_i hlt;by_cases e:j=H.length
   ·subst e;simp at hj;exact .inr ⟨rfl,hj.1.symm,hj.2.symm⟩
   ·rw[List.getElem?_eq_none (by simp;omega)]at hj;cases hj
 refine⟨fun j a b hj=>?_,fun j l a b c hj hl=>?_⟩
 ·rcases cases1 j a b hj with hj|⟨_,rfl,rfl⟩
  ·exact hk.at hj
  ·exact hb
 ·rcases cases1 j a b hj with hj|⟨e1,e2,_⟩<;>rcases cases1 l a c hl with hl|⟨f1,f2,_⟩
  ·exact h.inj j l a b c hj hl
  ·have:=h.lt hj;omega
  ·have:=h.lt hl;omega
  ·omega
theorem Hp.alloc(h:Hp w H)(o:Obj):Hp (w.alloc o) (H++ [(some w.heap.size,o)]):=h.push (Fr.alloc w o) (Nat.le_refl _) (heap_alloc_new w o)
theorem Hp.setAny{k':Option Nat}{k:Option Nat}{X:List Nat}(h:Hp w H)(hi:H[i]? =some (k,o))(hX: ∀x∈X,k=some x)(hf:Fr X w w')(hk: ∀g',k'=some g'→w'.heap[g']? =some o'∧(k=some g'∨w.heap.size≤g')):Hp w' (H.set i (k',o')):=by
 have hl:i<H.length:=(List.getElem?_eq_some_iff.1 hi).1;have cases1: ∀(j:Nat) a b,(H.set i (k',o'))[j]? =some (some a,b)→(i≠j∧H[j]? =some (some a,b))∨(i=j∧k'=some a∧o'=b):=fun j a b hj=>by
  rw[List.getElem?_set]at hj;by_cases e:i=j
  ·subst e;simp[hl]at hj;exact .inr ⟨rfl,hj⟩
  ·simp[e]at hj;exact .inl ⟨e,hj⟩
 have far: ∀(j:Nat) a b,i≠j→H[j]? =some (some a,b)→k≠some a:=fun j a b hij hj e=>hij (h.inj i j a o b (by rw[hi,e]) hj);refine⟨fun j a b hj=>?_,fun j l a b c hj hl'=>?_⟩
 ·rcases cases1 j a b hj with⟨hij,hj⟩|⟨_,e1,e2⟩
  ·exact(hf.block a (h.lt hj) (fun hx=>far j a b hij hj (hX a hx))).trans (h.at hj)
  ·rw[←e2];exact(hk a e1).1
 ·rcases cases1 j a b hj with⟨hij,hj⟩|⟨e0,e1,e2⟩<;>rcases cases1 l a c hl' with⟨hil,hl'⟩|⟨f0,f1,f2⟩
  ·exact h.inj j l a b c hj hl'
  ·rcases(hk a f1).2 with e|e
   ·exact absurd e (far j a b hij hj)
   ·have:=h.lt hj;omega
  ·rcases(hk a e1).2 with e|e
   ·exact absurd e (far l a c hil hl')
   ·have:=h.lt hl';omega
  ·omega
theorem Hp.setAt(h:Hp w H)(hi:H[i]? =some (some g,o))(hf:Fr [g] w w')(hg:w'.heap[g]? =some o'):Hp w' (H.set i (some g,o')):=
 h.setAny hi (by simp) hf fun g' e=>by injection e with e;subst e;exact⟨hg,.inl rfl⟩
theorem Hp.pick(h:Hp w H)(idx:List Nat)(H':bX)(hn:idx.Nodup)(hH:idx.map (fun i=>H[i]?)=H'.map some):Hp w H':=by
 have key: ∀(j:Nat) (e:Option Nat×Obj),H'[j]? =some e→ ∃i:Nat,idx[j]? =some i∧H[i]? =some e:=fun j e hj=>by
  have h1:(H'.map some)[j]? =some (some e):=by simp[hj]
  rw[←hH]at h1;rw[List.getElem?_map]at h1;cases hx:idx[j]? with
  |none=>simp[hx]at h1
  |some i=>exact⟨i,rfl,by simpa[hx]using h1⟩
 refine⟨fun j a b hj=>?_,fun j l a b c hj hl=>?_⟩
 ·obtain⟨i,_,hi⟩:=key j _ hj;exact h.at hi
 ·obtain⟨i1,a1,b1⟩:=key j _ hj;obtain⟨i2,a2,b2⟩:=key l _ hl;have e12:=h.inj i1 i2 a b c b1 b2;subst e12;have l2:j<idx.length:=(List.getElem?_eq_some_iff.1 a1).1;exact(List.getElem?_inj l2 hn).1 (a1.trans a2.symm)
theorem Hp.conv{k:Option Nat}{cs cs':List Value}{ty:Nat}(h:Hp w H)(hi:H[i]? =some (k,Cl cs ty))(he:cs=cs'):Hp w (H.set i (k,Cl cs' ty)):=by
 subst he;have:H.set i (k,Cl cs ty)=H:=by
  apply List.ext_getElem?;intro j;rw[List.getElem?_set];by_cases e:i=j
  ·subst e;obtain⟨hl,hi'⟩:=List.getElem?_eq_some_iff.1 hi;simp[hl,hi']
  ·simp[e]
 rw[this];exact h
def dq(H:bX):List Nat→bX
 | []=> []
 |i::r=>match H[i]? with
  |some e=>e::dq H r
  |none=>dq H r
theorem Hp.pk(h:Hp w H)(idx:List Nat)(hn:idx.Nodup):Hp w (dq H idx):=by
 have key: ∀(idx:List Nat) (j:Nat) e,(dq H idx)[j]? =some e→ ∃i:Nat,i∈idx∧H[i]? =some e:=by
  intro idx;induction idx with
  |nil=>intro j e he;simp[dq]at he
  |cons a r ih=>
   intro j e he;unfold dq at he;cases ha:H[a]? with
   |none=>rw[ha]at he;obtain⟨i,h1,h2⟩:=ih j e he;exact⟨i,by simp[h1],h2⟩
   |some x=>
    rw[ha]at he;cases j with
    |zero=>simp at he;subst he;exact⟨a,by simp,ha⟩
    |succ j=>obtain⟨i,h1,h2⟩:=ih j e (by simpa using he);exact⟨i,by simp[h1],h2⟩
 have inj: ∀(idx:List Nat),idx.Nodup→ ∀(j l:Nat) g a b,(dq H idx)[j]? =some (some g,a)→(dq H idx)[l]? =some (some g,b)→j=l:=by
  intro idx;induction idx with
  |nil=>intro _ j l g a b hj;simp[dq]at hj
  |cons x r ih=>
   intro hnd j l g a b hj hl;rw[List.nodup_cons]at hnd;unfold dq at hj hl;cases hx:H[x]? with
   |none=>rw[hx]at hj hl;exact ih hnd.2 j l g a b hj hl
   |some y=>
    rw[hx]at hj hl;cases j with
    |zero=>
     cases l with
     |zero=>rfl
     |succ l=>
      simp at hj;subst hj;obtain⟨i,h1,h2⟩:=key r l _ (by simpa using hl);have:=h.inj x i g a b hx h2;subst this;exact absurd h1 hnd.1
    |succ j=>
     cases l with
     |zero=>
      simp at hl;subst hl;obtain⟨i,h1,h2⟩:=key r j _ (by simpa using hj);have:=h.inj x i g b a hx h2;subst this;exact absurd h1 hnd.1
     |succ l=>
      have:=ih hnd.2 j l g a b (by simpa using hj) (by simpa using hl);omega
 exact⟨fun j g o hj=>by obtain⟨i,_,h2⟩:=key idx j _ hj;exact h.at h2,fun j l g a b hj hl=>inj idx hn j l g a b hj hl⟩
theorem Hp.after{H0 H1 Hx:bX}{X:List Nat}(h:Hp w (H0++Hx))(hX: ∀x∈X,x∈bG Hx)(hf:Fr X w w')(h1:Hp w' H1)(hk: ∀k∈bG H1,k∈bG Hx∨w.heap.size≤k):Hp w' (H0++H1):=by
 have l0: ∀(j:Nat) e,H0[j]? =some e→(H0++Hx)[j]? =some e∧j<H0.length:=fun j e hj=>by
  have hl:j<H0.length:=(List.getElem?_eq_some_iff.1 hj).1;exact⟨by rw[List.getElem?_append_left hl];exact hj,hl⟩
 have nx: ∀(j:Nat) a b,H0[j]? =some (some a,b)→a∉bG Hx:=fun j a b hj hx=>by
  obtain⟨q,c,hq⟩:=cX.1 hx;obtain⟨h2,hl⟩:=l0 j _ hj;have h3:(H0++Hx)[H0.length+q]? =some (some a,c):=by rw[List.getElem?_append_right (by omega)];simpa using hq
  have:=h.inj _ _ _ _ _ h2 h3;omega
 have cases1: ∀(j:Nat) a b,(H0++H1)[j]? =some (some a,b)→H0[j]? =some (some a,b)∨(H0.length≤j∧H1[j - H0.length]? =some (some a,b)):=fun j a b hj=>by
  rcases Nat.lt_or_ge j H0.length with hl|hl
  ·rw[List.getElem?_append_left hl]at hj;exact .inl hj
  ·rw[List.getElem?_append_right hl]at hj;exact .inr ⟨hl,hj⟩
 refine⟨fun j a b hj=>?_,fun j l a b c hj hl=>?_⟩
 ·rcases cases1 j a b hj with hj|⟨_,hj⟩
  ·have hb:=h.at (l0 j _ hj).1;exact(hf.block a (bR hb) (fun hx=>nx j a b hj (hX a hx))).trans hb
  ·exact h1.at hj
 ·have apart: ∀(p q:Nat) (b c:Obj),H0[p]? =some (some a,b)→H1[q]? =some (some a,c)→False:=fun p q b c hp hq=>by
   rcases hk a (cX.2 ⟨q,c,hq⟩)with hx|hx
   ·exact nx p a b hp hx
   ·have:=bR (h.at (l0 p _ hp).1);omega
  rcases cases1 j a b hj with hj|⟨hj0,hj⟩<;>rcases cases1 l a c hl with hl|⟨hl0,hl⟩
  ·exact h.inj j l a b c (l0 j _ hj).1 (l0 l _ hl).1
  ·exact(apart _ _ _ _ hj hl).elim
  ·exact(apart _ _ _ _ hl hj).elim
  ·have:=h1.inj _ _ _ _ _ hj hl;omega
theorem Hp.ne(h:Hp w H){j g2:Nat}{o2:Obj}(hi:H[i]? =some (some g,o))(hj:H[j]? =some (some g2,o2))(hij:i≠j):g≠g2:=by
 rintro rfl;exact hij (h.inj i j g o o2 hi hj)
end
def bI(P:Program)(f:FuncId):Bool:=match P.funcs[f]? with
 |some fn=>!(fn.name== "runtime.NumGoroutine")&&fn.body.isSome
 |none=>false
def Fn(P:Program)(f:FuncId)(args:List Value)(w:World)(Post:Value→World→Prop):Prop:=bI P f=true∧Calls P f args.toArray w fun e w'=> ∃v,e= .returned v∧Post v w'
theorem n5{P:Program}{f:FuncId}{fn:Func}{c:Code}{args:List Value}{w:World}{Post:Value→World→Prop}(n:Nat)
  (he:bI P f=true) (hf:P.funcs[f]? =some fn) (hb:fn.body=some c) (hn:fn.ntmps=n) (hle:Nat.ble args.length n=true) (h:Wp P n c (Fq P n fn fun e w'=> ∃v,e= .returned v∧Post v w') (dL 0 args) w):Fn P f args w Post:=
 ⟨he,xC n hf hb hn hle h⟩
theorem Fn.mono{P:Program}{f:FuncId}{args:List Value}{w:World}{Post Post':Value→World→Prop}(h:Fn P f args w Post)(hp: ∀v w',Post v w'→Post' v w'):Fn P f args w Post':=
 ⟨h.1,Calls.mono h.2 fun _ _ ⟨v,he,hv⟩=>⟨v,he,hp _ _ hv⟩⟩
theorem fR [bF]{P:Program}{n:Nat}{fn:Func}{env:aK}{w:World}{Post:Value→World→Prop}{v:Value}(hr:uz P n fn env w v)(hp:Post v w):Fq P n fn (fun e w'=> ∃v,e= .returned v∧Post v w') .ret env w:=⟨v,hr,v,rfl,hp⟩
theorem fE [bF]{P:Program}{n:Nat}{fn:Func}{env:aK}{w:World}{Post:Value→World→Prop}{v:Value}(hr:uz P n fn env w v)(hp:Post v w):Fq P n fn (fun e w'=> ∃v,e= .returned v∧Post v w') .normal env w:=⟨v,hr,v,rfl,hp⟩
section
variable [bF] {P:Program} {n:Nat} {env:aK} {w:World} {o:Oper} {K:aK→World→Prop} {H:bX}
theorem rK{f:FuncId}{xs:List Operand}{ts:Array TypeId}{vs:List Value}{Post:Value→World→Prop}(ho:o.op= .call {callee:= .value (.func f),args:=xs.toArray,argTypes:=ts}){d:Nat}(hd:o.dst=some d)(hn:Nat.blt d n=true)
  (hx:env.evs xs=some vs) (hc:Fn P f vs w Post) (hk: ∀v w',Post v w'→K ((d,v)::env) w'):cd P n env w o K:=fun a r=>by
 have e:(xs.toArray.map a.eval)=vs.toArray:=by rw[List.map_toArray,r.evals hx]
 have hrun:(execOp a.eval o).run P w= .ok (.enter f vs.toArray) w:=by
  have h1:=hc.1;unfold bI at h1;cases hq:P.funcs[f]? with
  |none=>simp[hq]at h1
  |some fn=>
   simp only[hq,Bool.and_eq_true,Bool.not_eq_true',beq_eq_false_iff_ne]at h1;obtain⟨h2,h3⟩:=h1;have h4: ¬fn.body=none:=by intro hbb;simp[hbb]at h3
   unfold execOp;simp only[ho,resolve,e,Act.eval,Deferred.ofValue,Sem.run_bind,Sem.run_pure,Result.andThen_ok,invoke];simp[callFunc,hq,h2,h4]
 unfold Oper.wp;rw[hrun];refine Calls.mono hc.2 fun e w' ⟨v,he,hv⟩=>?_;subst he;have r':=r.put hn v;rw[←hd]at r';exact⟨_,r',hk v w' hv⟩
theorem Bb{f:FuncId}{xs:List Operand}{ts:Array TypeId}{vs:List Value}{Post:Value→World→Prop}(ho:o.op= .call {callee:= .value (.func f),args:=xs.toArray,argTypes:=ts})(hd:o.dst=none)
  (hx:env.evs xs=some vs) (hc:Fn P f vs w Post) (hk: ∀v w',Post v w'→K env w'):cd P n env w o K:=fun a r=>by
 have e:(xs.toArray.map a.eval)=vs.toArray:=by rw[List.map_toArray,r.evals hx]
 have hrun:(execOp a.eval o).run P w= .ok (.enter f vs.toArray) w:=by
  have h1:=hc.1;unfold bI at h1;cases hq:P.funcs[f]? with
  |none=>simp[hq]at h1
  |some fn=>
   simp only[hq,Bool.and_eq_true,Bool.not_eq_true',beq_eq_false_iff_ne]at h1;obtain⟨h2,h3⟩:=h1;have h4: ¬fn.body=none:=by intro hbb;simp[hbb]at h3
   unfold execOp;simp only[ho,resolve,e,Act.eval,Deferred.ofValue,Sem.run_bind,Sem.run_pure,Result.andThen_ok,invoke];simp[callFunc,hq,h2,h4]
 unfold Oper.wp;rw[hrun];refine Calls.mono hc.2 fun e w' ⟨v,he,hv⟩=>?_;subst he;refine⟨env,?_,hk v w' hv⟩;rw[hd];exact r
theorem fX{v:Value}{w':World}{d:Nat}(hd:o.dst=some d)(hn:Nat.blt d n=true)(hr: ∀a,gj n env a→(execOp a.eval o).run P w= .ok (.value v) w')(hk:K ((d,v)::env) w'):cd P n env w o K:=fun a r=>by
 unfold Oper.wp;rw[hr a r];have r':=r.put hn v;rw[←hd]at r';exact⟨_,r',hk⟩
theorem rL{w':World}(hd:o.dst=none)(hr: ∀a,gj n env a→(execOp a.eval o).run P w= .ok .skip w')(hk:K env w'):cd P n env w o K:=fun a r=>by
 unfold Oper.wp;rw[hr a r];refine⟨env,?_,hk⟩;rw[hd];exact r
omit [bF]in
theorem gk{t g k:Nat}{v:Value}(ht:cA P t=true)(hc:w.cell? ⟨g,k,none⟩=some v):(loadVar t ⟨g,k,none⟩).run P w= .ok v w:=by
 have:(isAgg t).run P w= .ok false w:=by
  unfold cA at ht;cases hu:P.underlying t with
  |none=>simp[hu]at ht
  |some d=>
   unfold isAgg;simp only[Sem.run_bind,run_underlying hu,Result.andThen_ok];cases d<;>simp[hu]at ht<;>rfl
 simp[loadVar,this,hc]
omit [bF]in
theorem g7{t g k m:Nat}{cs:List Value}(ht:cS P t=some m)(hm:cs.length=m)(hc:w.rangeAt g k cs):(loadVar t ⟨g,k,none⟩).run P w= .ok (.agg cs.toArray) w:=by
 unfold cS at ht;split at ht<;>try (cases ht;done)
 ·rename_i d hu;exact run_loadVar_mid w g k t cs _ hc hu rfl (by rw[ht,hm])
 ·rename_i a b hu;exact run_loadVar_mid w g k t cs _ hc hu rfl (by rw[ht,hm])
end
section
variable [bF] {P:Program} {n:Nat} {env:aK} {S:World→Prop} {o:Oper}
theorem bO{t g k:Nat}{x:Operand}{v:Value}(ho:o.op= .load t x)(hx:env.ev x=some (.pointer (some ⟨g,k,none⟩)))(ht:cA P t=true)(hc: ∀w,S w→w.cell? ⟨g,k,none⟩=some v):cb P n env S o v:=fun a r w hS=>by
 unfold execOp;simp[ho,r.eval hx,Instr.loadAt,Instr.sureAddr,gk ht (hc w hS)]
omit [bF]in
theorem pm{w:World}{H:bX}{g i k ty:Nat}{cs:List Value}{v:Value}(h:Hp w H)(hi:H[i]? =some (some g,Cl cs ty))(hv:cs[k]? =some v):w.cell? ⟨g,k,none⟩=some v:=by
 rw[cell_of_row w g k cs.toArray ty (0,0) (h.at hi)];simpa using hv
omit [bF]in
theorem n6{w:World}{H:bX}{g i ty:Nat}{cs:List Value}(h:Hp w H)(hi:H[i]? =some (some g,Cl cs ty)):w.rangeAt g 0 cs:=fun j v hj=>by
 refine pm h hi ?_;simpa using hj
theorem br{t g k i ty:Nat}{x:Operand}{cs:List Value}{H:bX}{v:Value}(ho:o.op= .load t x)(hx:env.ev x=some (.pointer (some ⟨g,k,none⟩)))(ht:cA P t=true)(h: ∀w,S w→Hp w H)(hi:H[i]? =some (some g,Cl cs ty))(hv:cs[k]? =some v):cb P n env S o v:=
 bO ho hx ht fun w hS=>pm (h w hS) hi hv
end
section
variable [bF] {P:Program} {n:Nat} {env:aK} {w:World} {o:Oper} {K:aK→World→Prop} {H:bX}
theorem fY{t g k i ty:Nat}{x y:Operand}{u:Value}{vs cs:List Value}(ho:o.op= .store t x y)(hd:o.dst=none)(hx:env.ev x=some (.pointer (some ⟨g,k,none⟩)))(hy:env.ev y=some u)
  (hu:u.cells.toList=vs) (ht:(P.info? t).map (·.size)=some vs.length) (h1: ∀v∈vs,v.oneCell'=true) (h:Hp w H) (hi:H[i]? =some (some g,Cl cs ty)) (hfit:k+vs.length≤cs.length)
  (hk: ∀w',Hp w' (H.set i (some g,Cl (cs.take k++vs++cs.drop (k+vs.length)) ty))→Fr [g] w w'→w'.heap.size=w.heap.size→K env w'):cd P n env w o K:=by
 have hg:=h.at hi;have hst:=run_storeCells_at P g k ty vs 0 cs.toArray w hg (by simpa using hfit) h1;simp only[Nat.add_zero]at hst;have hsz:u.cells.size=vs.length:=by rw[←hu];simp
 cases hq:P.info? t with
 |none=>simp[hq]at ht
 |some inf=>
  have hs:inf.size=vs.length:=by simpa[hq]using ht
  refine rL hd (w':=w.setRow g (cs.take k++vs++cs.drop (k+vs.length)).toArray) (fun a r=>?_) (hk _ (h.setAt hi (Fr.setRow w g _) (setRow_heap w g _ _ ty (0,0) hg)) (Fr.setRow w g _) (by simp));unfold execOp;simp[ho,r.eval hx,r.eval hy,Instr.storeAt,Instr.sureAddr,storeVar,sizeOf,typeInfo,hq,hs,hsz,hu];rw[hst];simp
omit [bF]in
theorem nF{α:Type}(cs:List α)(k:Nat)(v:α)(hk:k<cs.length):cs.take k++ [v]++cs.drop (k+1)=cs.set k v:=by
 rw[List.set_eq_take_append_cons_drop,if_pos hk];simp
theorem Bc{t g k i ty:Nat}{x y:Operand}{u:Value}{cs:List Value}(ho:o.op= .store t x y)(hd:o.dst=none)(hx:env.ev x=some (.pointer (some ⟨g,k,none⟩)))(hy:env.ev y=some u)
  (hu:u.cells= #[u]) (ht:(P.info? t).map (·.size)=some 1) (h1:u.oneCell'=true) (h:Hp w H) (hi:H[i]? =some (some g,Cl cs ty)) (hfit:k<cs.length)
  (hk: ∀w',Hp w' (H.set i (some g,Cl (cs.set k u) ty))→Fr [g] w w'→w'.heap.size=w.heap.size→K env w'):cd P n env w o K:=
 fY (vs:= [u]) ho hd hx hy (by simp[hu]) (by simpa using ht) (by simpa using h1) h hi (by simp;omega) fun w' hp hf=>by
  rw[List.length_singleton,nF cs k u hfit]at hp;exact hk w' hp hf
theorem kJ{t g i ty:Nat}{x y:Operand}{us cs:List Value}(ho:o.op= .store t x y)(hd:o.dst=none)(hx:env.ev x=some (.pointer (some ⟨g,0,none⟩)))(hy:env.ev y=some (.agg us.toArray))
  {m:Nat} (ht:(P.info? t).map (·.size)=some m) (hm:us.length=m) (h1: ∀v∈us,v.oneCell'=true) (h:Hp w H) (hi:H[i]? =some (some g,Cl cs ty)) (hl:cs.length=us.length)
  (hk: ∀w',Hp w' (H.set i (some g,Cl us ty))→Fr [g] w w'→w'.heap.size=w.heap.size→K env w'):cd P n env w o K:=
 fY (vs:=us) ho hd hx hy rfl (by rw[hm];exact ht) h1 h hi (by omega) fun w' hp hf=>by
  rw[List.take_zero,List.nil_append,Nat.zero_add,List.drop_of_length_le (by omega),List.append_nil]at hp;exact hk w' hp hf
theorem l7{t:Nat}{cs:List Value}(ho:o.op= .alloc t){d:Nat}(hd:o.dst=some d)(hn:Nat.blt d n=true)(hz:zeroCells P t=some cs)(h:Hp w H)
  (hk: ∀g w',Hp w' (H++ [(some g,Cl cs t)])→Fr [] w w'→w.heap.size≤g→K ((d,(.pointer (some ⟨g,0,none⟩)))::env) w'):cd P n env w o K:=by
 unfold zeroCells at hz;cases hq:P.info? t with
 |none=>simp[hq]at hz
 |some inf=>
  cases hzz:inf.zero with
  |none=>simp[hq,hzz]at hz
  |some z=>
   have hz':z.cells=cs.toArray:=by simp[hq,hzz]at hz;rw[←hz]
   refine fX hd hn (v:= .pointer (some ⟨w.heap.size,0,none⟩)) (w':=w.alloc (.cells cs.toArray t)) (fun a r=>?_) (hk _ _ (h.alloc _) (Fr.alloc w _) (Nat.le_refl _));unfold execOp;simp[ho,Instr.alloc,zeroValue,typeInfo,hq,hzz,newVar,newRow,hz']
theorem HC{t:Nat}{x:Operand}{us:List Value}(ho:o.op= .box t x){d:Nat}(hd:o.dst=some d)(hn:Nat.blt d n=true)(hx:env.ev x=some (.agg us.toArray))(h:Hp w H)
  (hk: ∀g w',Hp w' (H++ [(some g,Cl us t)])→Fr [] w w'→w.heap.size≤g→K ((d,(.pointer (some ⟨g,0,none⟩)))::env) w'):cd P n env w o K:=by
 refine fX hd hn (v:= .pointer (some ⟨w.heap.size,0,none⟩)) (w':=w.alloc (.cells us.toArray t)) (fun a r=>?_) (hk _ _ (h.alloc _) (Fr.alloc w _) (Nat.le_refl _));unfold execOp;simp[ho,Instr.box,newVar,newRow,r.eval hx,Value.cells]
theorem xG{t:Nat}{x:Operand}{u:Value}(ho:o.op= .box t x){d:Nat}(hd:o.dst=some d)(hn:Nat.blt d n=true)(hx:env.ev x=some u)(hu:u.cells= #[u])(h:Hp w H)
  (hk: ∀g w',Hp w' (H++ [(some g,Cl [u] t)])→Fr [] w w'→w.heap.size≤g→K ((d,(.pointer (some ⟨g,0,none⟩)))::env) w'):cd P n env w o K:=by
 refine fX hd hn (v:= .pointer (some ⟨w.heap.size,0,none⟩)) (w':=w.alloc (.cells #[u] t)) (fun a r=>?_) (hk _ _ (h.alloc _) (Fr.alloc w _) (Nat.le_refl _));unfold execOp;simp[ho,Instr.box,newVar,newRow,r.eval hx,hu]
end
end Go.Proofs.YtfgofabojepcmaaGreatDoor
end

section
namespace Go.Proofs.YtfgofabojepcmaaGreatDoor
open Go.RowKit
def bn(P:Program)(t:Nat):Option (Nat×Nat):=match P.underlying t with
 |some (.slice e)=>(P.info? e).map fun i=>(e,i.size)
 |_=>none
def iU(P:Program)(t:Nat):Option (Nat×Nat):=match P.underlying t with
 |some (.array m e)=>(P.info? e).map fun i=>(m,i.size)
 |_=>none
theorem cP{P:Program}{t e m:Nat}(h:bn P t=some (e,m)):P.underlying t=some (.slice e)∧(P.info? e).map (·.size)=some m:=by
 unfold bn at h;split at h
 ·rename_i e' hu;cases hq:P.info? e' with
  |none=>simp[hq]at h
  |some i=>
   simp[hq]at h;obtain⟨rfl,rfl⟩:=h;exact⟨hu,by simp[hq]⟩
 ·cases h
theorem dA{P:Program}{e m:Nat}(h:(P.info? e).map (·.size)=some m)(w:World):(sizeOf e).run P w= .ok m w:=by
 cases hq:P.info? e with
 |none=>simp[hq]at h
 |some i=>simp[hq]at h;simp[sizeOf,typeInfo,hq,h]
theorem o8{P:Program}{t k m:Nat}(h:iU P t=some (k,m)): ∃e,P.underlying t=some (.array k e)∧(P.info? e).map (·.size)=some m:=by
 unfold iU at h;split at h
 ·rename_i k' e' hu;cases hq:P.info? e' with
  |none=>simp[hq]at h
  |some i=>
   simp[hq]at h;obtain⟨rfl,rfl⟩:=h;exact⟨e',hu,by simp[hq]⟩
 ·cases h
section
variable [bF] {P:Program} {n:Nat} {env:aK} {S:World→Prop} {o:Oper}
theorem GX{t:Nat}{x ix:Operand}{p:List UInt8}{k:IntKind}{q:Int}{b:UInt8}(ho:o.op= .index t x ix)(hx:env.ev x=some (sv p))(hi:env.ev ix=some (.int k q))(ht:P.underlying t=some .string)(h0:0≤q)(hb:p[q.toNat]? =some b):cb P n env S o (.int .u8 b.toNat):=fun a r w _=>by
 have hg:(⟨p.toArray⟩:ByteArray)[q.toNat]? =some b:=by
  have hl:q.toNat<p.length:=(List.getElem?_eq_some_iff.1 hb).1;have hl':q.toNat<(⟨p.toArray⟩:ByteArray).size:=by simpa[ByteArray.size]using hl
  rw[getElem?_pos (⟨p.toArray⟩:ByteArray) q.toNat hl'];have:=(List.getElem?_eq_some_iff.1 hb).2;simp[←this];rfl
 unfold execOp;simp[ho,r.eval hx,r.eval hi,Instr.index,asIntOf,run_underlying ht,h0,hg]
theorem kB{t e m g b l c:Nat}{x ix:Operand}{k:IntKind}{q:Int}(ho:o.op= .indexAddr t x ix)(hx:env.ev x=some (.slice (some ⟨g,b,none⟩) l c))(hi:env.ev ix=some (.int k q))(ht:bn P t=some (e,m))(h0:0≤q)(h1:q<l):
  cb P n env S o (.pointer (some ⟨g,b+q.toNat*m,none⟩)):=fun a r w _=>by
 obtain⟨hu,hs⟩:=cP ht;unfold execOp;simp[ho,r.eval hx,r.eval hi,Instr.indexAt,asIntOf,run_underlying hu,h0,h1,dA hs,Addr.add_mid]
theorem sU{t m g b l:Nat}{x ix:Operand}{k:IntKind}{q:Int}(ho:o.op= .indexAddr t x ix)(hx:env.ev x=some (.pointer (some ⟨g,b,none⟩)))(hi:env.ev ix=some (.int k q))(ht:iU P t=some (l,m))(h0:0≤q)(h1:q<l):
  cb P n env S o (.pointer (some ⟨g,b+q.toNat*m,none⟩)):=fun a r w _=>by
 obtain⟨e,hu,hs⟩:=o8 ht;unfold execOp;simp[ho,r.eval hx,r.eval hi,Instr.indexAt,asIntOf,run_underlying hu,h0,h1,dA hs,Addr.add_mid,Instr.sureAddr]
theorem Ek{t m g b l j:Nat}{x ix:Operand}{k:IntKind}(ho:o.op= .indexAddr t x ix)(hx:env.ev x=some (.pointer (some ⟨g,b,none⟩)))(hi:env.ev ix=some (.int k (j:Int)))(ht:iU P t=some (l,m))(h1:j<l):
  cb P n env S o (.pointer (some ⟨g,b+j*m,none⟩)):=by
 have:=sU (P:=P) (n:=n) (S:=S) ho hx hi ht (by omega) (by omega);simpa using this
def iz(env:aK):Option Operand→Option Int
 |none=>some 0
 |some x=>match env.ev x with
  |some (.int _ q)=>some q
  |_=>none
def kC(env:aK)(l:Nat):Option Operand→Option Int
 |none=>some l
 |some x=>match env.ev x with
  |some (.int _ q)=>some q
  |_=>none
theorem g5{isS:Bool}{l c:Nat}{lo hi:Option Operand}{p q:Int}{a:Act}(r:gj n env a)(hlo:iz env lo=some p)(hhi:kC env l hi=some q)(h0:0≤p)(h1:p≤q)(h2:q≤c)(hlc:hi=none→l≤c)(w:World):
  (Instr.sliceBounds isS l c (lo.map a.eval) (hi.map a.eval) none).run P w= .ok (p.toNat,q.toNat,c) w:=by
 have hq0:0≤q:=by omega
 cases hi with
 |none=>
  simp only[kC,Option.some.injEq]at hhi;subst hhi;cases lo with
  |none=>
   simp only[iz,Option.some.injEq]at hlo;subst hlo;simp[Instr.sliceBounds]
  |some x=>
   unfold iz at hlo;split at hlo
   ·rename_i heq;cases heq
   ·rename_i y heq;injection heq with heq;subst heq;split at hlo
    ·rename_i kk qq he;injection hlo with hlo;subst hlo;simp[Instr.sliceBounds,Instr.sliceBound,r.eval he,asIntOf,h0,h1]
    ·cases hlo
 |some z=>
  unfold kC at hhi;split at hhi
  ·rename_i heq;cases heq
  ·rename_i y heq;injection heq with heq;subst heq;split at hhi
   ·rename_i kk qq he;injection hhi with hhi;subst hhi;have h1n:p≤(qq.toNat:Int):=by omega
    cases lo with
    |none=>
     simp only[iz,Option.some.injEq]at hlo;subst hlo;simp[Instr.sliceBounds,Instr.sliceBound,r.eval he,asIntOf,hq0,h2]
    |some x=>
     unfold iz at hlo;split at hlo
     ·rename_i heq';cases heq'
     ·rename_i y' heq';injection heq' with heq';subst heq';split at hlo
      ·rename_i k2 q2 he2;injection hlo with hlo;subst hlo;simp[Instr.sliceBounds,Instr.sliceBound,r.eval he,r.eval he2,asIntOf,hq0,h2,h0];omega
      ·cases hlo
   ·cases hhi
theorem El{t:Nat}{x:Operand}{lo hi:Option Operand}{s:List UInt8}{p q:Int}(ho:o.op= .slice t x lo hi none)(hx:env.ev x=some (sv s))(ht:P.underlying t=some .string)(hlo:iz env lo=some p)(hhi:kC env s.length hi=some q)
  (h0:0≤p) (h1:p≤q) (h2:q≤s.length):cb P n env S o (sv ((s.take q.toNat).drop p.toNat)):=fun a r w _=>by
 have hb:=g5 (P:=P) (isS:=false) r hlo hhi h0 h1 h2 (fun _=>Nat.le_refl _) w;have hsz:(⟨s.toArray⟩:ByteArray).size=s.length:=by simp[ByteArray.size]
 have e:(⟨s.toArray⟩:ByteArray).extract p.toNat q.toNat=⟨((s.take q.toNat).drop p.toNat).toArray⟩:=by
  apply ByteArray.ext;rw[ByteArray.data_extract];simp[List.extract_toArray,List.drop_take]
 unfold execOp;simp[ho,r.eval hx,Instr.sliceAt,run_underlying ht,Instr.slice,hsz,hb,e]
theorem pa{t e m l c:Nat}{A:Option Addr}{x:Operand}{lo hi:Option Operand}{p q:Int}(ho:o.op= .slice t x lo hi none)(hx:env.ev x=some (.slice A l c))(ht:bn P t=some (e,m))(hlo:iz env lo=some p)(hhi:kC env l hi=some q)
  (h0:0≤p) (h1:p≤q) (h2:q≤c) (hlc:l≤c):cb P n env S o (.slice (if c=p.toNat then A else A.map (·.add (p.toNat*m))) (q.toNat - p.toNat) (c - p.toNat)):=fun a r w _=>by
 obtain⟨hu,hs⟩:=cP ht;have hb:=g5 (P:=P) (isS:=true) r hlo hhi h0 h1 h2 (fun _=>hlc) w;unfold execOp;simp[ho,r.eval hx,Instr.sliceAt,Instr.slice,run_underlying hu,hb,dA hs]
end
section
variable [bF] {P:Program} {n:Nat} {env:aK} {S:World→Prop} {o:Oper}
end
def jk(pls:List (Nat×Nat)):List Value→List (Nat×Value)→Option (List Value)
 |cs,[]=>some cs
 |cs,(i,v)::r=>match pls[i]? with
  |some (off,sz)=>bif Nat.beq v.cells.toList.length sz&&Nat.ble (off+sz) cs.length then jk pls (cs.take off++(v.cells.toList++cs.drop (off+sz))) r else none
  |none=>none
def iC(P:Program)(t:Nat):Option (List (Nat×Nat)):=match P.underlying t with
 |some (.struct fields)=>fields.toList.mapM fun f=>(P.info? f.type).map fun i=>(f.offset,i.size)
 |_=>none
theorem gE: ∀(u:List Value) (off j:Nat) (cs:Array Value),off+j+u.length≤cs.size→
  (u.zipIdx j).foldl (fun cs (cj:Value×Nat)=>cs.setIfInBounds (off+cj.2) cj.1) cs=(cs.toList.take (off+j)++(u++cs.toList.drop (off+j+u.length))).toArray
 | [],off,j,cs,_=>by simp
 |v::u,off,j,cs,h=>by
  simp only[List.length_cons]at h;rw[List.zipIdx_cons,List.foldl_cons,gE u off (j+1) _ (by simp;omega)];have e:=list_seg_step cs.toList (off+j) v u (by simp;omega);simp only[Array.toList_setIfInBounds,List.length_cons,←Nat.add_assoc];simpa[Nat.add_assoc]using e
theorem fb(pls:List (Nat×Nat)): ∀(parts:List (Nat×Value)) (cs out:List Value),jk pls cs parts=some out→Instr.fill (pls.toArray[·]?) cs.toArray parts=some out.toArray
 | [],cs,out,h=>by simp[jk]at h;simp[Instr.fill,h]
 |(i,v)::r,cs,out,h=>by
  unfold jk at h;split at h
  ·rename_i off sz hp;cases hb:(Nat.beq v.cells.toList.length sz&&Nat.ble (off+sz) cs.length)with
   |false=>rw[hb]at h;cases h
   |true=>
    rw[hb]at h;simp only[cond_true]at h;simp only[Bool.and_eq_true,Nat.ble_eq]at hb;have h1:v.cells.toList.length=sz:=Nat.eq_of_beq_eq_true hb.1;have hsz:v.cells.size=sz:=by rw[←h1];simp
    have key:=gE v.cells.toList off 0 cs.toArray (by simp;omega);simp only[Nat.add_zero]at key;unfold Instr.fill;have hp':pls.toArray[i]? =some (off,sz):=by simpa using hp
    simp only[hp'];rw[if_neg (by simp[hsz];omega)];have key2:(v.cells.zipIdx.foldl (fun cs (cj:Value×Nat)=>cs.setIfInBounds (off+cj.2) cj.1) cs.toArray)=(cs.take off++(v.cells.toList++cs.drop (off+sz))).toArray:=by
     rw[←Array.foldl_toList,Array.toList_zipIdx,key];simp[hsz]
    have key3:v.cells.zipIdx.foldl (fun cs x=>match x with|(c,j)=>cs.setIfInBounds (off+j) c) cs.toArray=(cs.take off++(v.cells.toList++cs.drop (off+sz))).toArray:=key2;rw[key3];exact fb pls r _ out h
  ·cases h
section
variable [bF] {P:Program} {n:Nat} {env:aK} {S:World→Prop} {o:Oper}
theorem pb{t:Nat}{ps:List (Nat×Operand)}{vs zs cells:List Value}{pls:List (Nat×Nat)}(ho:o.op= .build t ps.toArray)(hx:env.evs (ps.map (·.2))=some vs)(hz:zeroCells P t=some zs)(hp:iC P t=some pls)
  (hf:jk pls zs ((ps.map (·.1)).zip vs)=some cells):cb P n env S o (.agg cells.toArray):=fun a r w _=>by
 have e:(ps.toArray.map fun(i,x)=>(i,a.eval x)).toList=(ps.map (·.1)).zip vs:=by
  rw[←r.evals hx];simp only[List.map_toArray,List.map_map];clear ho hx hf;induction ps with
  |nil=>rfl
  |cons p ps ih=>obtain⟨i,x⟩:=p;simpa using ih
 unfold iC at hp;split at hp
 ·rename_i fields hu;unfold zeroCells at hz;cases hq:P.info? t with
  |none=>simp[hq]at hz
  |some it=>
   cases hzz:it.zero with
   |none=>simp[hq,hzz]at hz
   |some z=>
    have hz':z.cells=zs.toArray:=by simp[hq,hzz]at hz;rw[←hz]
    have hb:P.built t ((ps.map (·.1)).zip vs)=some cells.toArray:=by
     unfold Program.built;simp only[hq,hu,hzz,hp,hz'];exact fb pls _ zs cells hf
    have:=run_build (P:=P) w t (ps.toArray.map fun(i,x)=>(i,a.eval x)) cells.toArray (by rw[e];exact hb);unfold execOp;simp only[ho];simp only[Sem.run_bind,this,Result.andThen_ok];rfl
 ·cases hp
theorem AQ{t f ft off:Nat}{x:Operand}{us:List Value}{v:Value}(ho:o.op= .field t x f)(hx:env.ev x=some (.agg us.toArray))(hf:dh P t f=some off)(hft:(match P.underlying t with|some (.struct fs)=>(fs[f]?).map (·.type)|_=>none)=some ft)(hp:cA P ft=true)(hv:us[off]? =some v):cb P n env S o v:=fun a r w _=>by
 unfold dh at hf;split at hf<;>try (cases hf;done)
 rename_i fs hu;simp only[hu]at hft;split at hf<;>try (cases hf;done)
 rename_i fd hfd;simp only[hfd,Option.map_some,Option.some.injEq]at hft;split at hf<;>try (cases hf;done)
 rename_i i hi;split at hf
 ·cases hf
 ·injection hf with hf;subst hf;subst hft;have hA:(isAgg fd.type).run P w= .ok false w:=by
   unfold cA at hp;cases hu':P.underlying fd.type with
   |none=>simp[hu']at hp
   |some d=>
    unfold isAgg;simp only[Sem.run_bind,run_underlying hu',Result.andThen_ok];cases d<;>simp[hu']at hp<;>rfl
  unfold execOp;simp[ho,r.eval hx,Instr.field,run_underlying hu,hfd,asAgg,part,hA,hv]
end
end Go.Proofs.YtfgofabojepcmaaGreatDoor
end

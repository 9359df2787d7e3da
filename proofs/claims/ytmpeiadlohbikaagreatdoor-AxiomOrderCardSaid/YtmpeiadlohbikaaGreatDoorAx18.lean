/- Short forms for this seat's walks. -/
import Derived.Test.YtmpeiadlohbikaaGreatDoorAx17
import Derived.Test.YtmpeiadlohbikaaGreatDoorAx3
import Derived.Laws.RangeString
import Derived.Lib.OthersKept
import Derived.Lib.TrimU
import Derived.Maps.RangeRun
import Derived.Test.YtmpeiadlohbikaaGreatDoorAx15
import Derived.Test.YtmpeiadlohbikaaGreatDoorProg
import Derived.Test.YtmpeiadlohbikaaGreatDoorAx14
import Derived.Test.YtmpeiadlohbikaaGreatDoorAx12
section
set_option linter.unusedVariables false
set_option linter.unusedSimpArgs false
namespace Go.Proofs.YtmpeiadlohbikaaGreatDoor.V
open Go.RowKit Go.Shelf Go.Lib Go.Sort
section
variable {U:bG} {P:Program} {ρs:Ren} {tE:Nat} {s:aZ} {ei:TI U}
theorem jA{α β:Type}(p:α→Prop)(φ:α→List β): ∀(l:List α) (h: ∀x∈l,p x),(l.attachWith p h).flatMap (fun a=>φ a.1)=l.flatMap φ:=fun l h=>by
 conv=>rhs;rw[←List.attachWith_map_subtype_val (p:=p) (l:=l) h]
 rw[List.flatMap_map]
theorem jB{α β:Type}(p:α→Prop)(φ:α→β)(l:List α)(h: ∀x∈l,p x):(l.attachWith p h).map (fun a=>φ a.1)=l.map φ:=by
 conv=>rhs;rw[←List.attachWith_map_subtype_val (p:=p) (l:=l) h]
 rw[List.map_map];rfl
theorem qp{α β:Type}(φ:α→β)(g:β→β→Int)(l:List α):(be (fun a b=>g (φ a) (φ b)) l).map φ=be g (l.map φ):=by
 unfold be;exact List.map_mergeSort (r:=fun x y=>!ltOf (fun a b=>g (φ a) (φ b)) y x) (s:=fun x y=>!(ltOf g) y x) (f:=φ) (fun a _ b _=>rfl)
def eY{α:Type}(l:List α)(g:α→α→Int):Prop:=SWO (ltOf g)∧ ∀x∈l,∀y∈l,ltOf g x y=false→ltOf g y x=false→x=y
def zq(U:bG)(s:aZ)(tE:Nat):aW U:=⟨[.n,.f2 s s],fun xs es K=> ∃(l:List (TT U.ty s)) (g:TT U.ty s→TT U.ty s→Int),xs= [⟨false,[(1,.own 0 0)]⟩,⟨false,[(1,.f2 s s g)]⟩]∧es= [.row 0 s l tE]∧eY l g∧l.length<4611686018427387904∧K (.tup []) [.row 0 s (be g l) tE]⟩
theorem rD [am]{X:List Nat}{w w1:World}{ρ:Nat→Rz}{H:Hs U}{g:TT U.ty s→TT U.ty s→Int}{f:FuncId}{ca:List Value}(hpr:am.pr=P)(hag:dR s=true)(hv:x3 U (af ρ H++X) (· =w) (.func (.func f) #[] ca.toArray) s s g)(x y:Em U (af ρ H++X) w s){O:List Nat}(hf:Fr O w w1)(hO: ∀y∈O,y∈af ρ H)(xd: ∀g∈af ρ H,g∉am.xf)(hY: ∀z∈gB,z∈af ρ H++X):
  Fn P f ([.agg x.c.toArray,.agg y.c.toArray]++ca) w1 fun v w2=>v= .int .i64 (g x.x y.x)∧Fr [] w1 w2:=by
 have mv:Mv (af ρ H++X) (· =w) (af ρ H++X) (· =w1):=fun w2 h2=>⟨w,O,rfl,by subst h2;exact hf,fun y hy=>⟨List.mem_append_left _ (hO y hy),xd y (hO y hy)⟩,fun y hy=> .inl hy⟩;have h1:=x3.call (v:= .agg x.c.toArray) (v':= .agg y.c.toArray) (hv.mv mv) hY (t:=x.x) (t':=y.x) (by simpa[Value.cells]using aC.mv mv x.den) (by unfold dv;rw[hag];simp[Value.cells]) (by simpa[Value.cells]using aC.mv mv y.den) (by unfold dv;rw[hag];simp[Value.cells]);rw[hpr]at h1;obtain⟨f',fi,ca',e,h2⟩:=h1;injection e with e1 e2 e3;injection e1 with e1;subst e1;have e2:fi= []:=by
  have:=congrArg Array.toList e2;simpa using this.symm
 have e3:ca=ca':=by
  have:=congrArg Array.toList e3;simpa using this
 subst e2;subst e3;exact Fn.mono h2 fun v w' ⟨a,_,b⟩=>⟨a,b⟩
theorem zr(L:SlLaysF0.n6 P ρs)(hen:aA P (ρs.f 6)=true)(hag:dR s=true)(ag:bf P (ρs.t 24)=some (aM U s))(sz:(P.info? (ρs.t 24)).map (·.size)=some (aM U s))(hti:aU U P tE ei)(hz: ∃z,cl 20 s ei.zero fun x=>x=z)(hm0:0<aM U s)
  (hfl: ∀(Y:List Nat) (w:World) (x:TT U.ty s) (c c':List Value),aC U Y (· =w) s x c→aC U Y (· =w) s x c'→c=c'):bi P U (ρs.f 6) (zq U s tE):=fun [F:am] hpr X w ρ es0 xs vs K M hv hrun=>by
 obtain⟨l,g,rfl,rfl,⟨hO,hT⟩,hl62,hK⟩:=hrun;obtain⟨v,us,rfl,h1,v2,us2,rfl,h2,h3⟩:=hv;rw[show us2= []from h3];have hl:aD (ax 0 [aJ.row 0 s l tE]) 0=some (.row 0 s l tE):=rfl;obtain⟨em,sp,hi,e1,e2,rfl,how0,hw⟩:=ic M hl h1;obtain⟨I,hu⟩:=eE hti hz (af ρ (ax 0 [aJ.row 0 s l tE])++X) w;obtain⟨u',e,hv2⟩:=(show Vw U X w ρ 1 (ax 0 [aJ.row 0 s l tE]) (.f2 s s g) [v2]from(bI.one1 h2).1);injection e with e;subst e;obtain⟨f,ca,rfl⟩:=hv2.1;have dj: ∀g,ah (ρ 0).A=some g→g∉X:=fun g hg=>M.dj g (dH hl hg);have hkey: ∀cs,∀y∈aR [(ah (ρ 0).A,Cl cs tE)],y∈af ρ (ax 0 [aJ.row 0 s l tE]):=fun cs y hy=>by
  rw[cT]at hy;exact dH hl (by simpa using hy)
 have hen2:aA P f=true:=(rD hpr hag hv2 (default:Em U (af ρ (ax 0 [aJ.row 0 s l tE])++X) w s) default (Fr.refl [] w) (fun y hy=>by cases hy) M.xd M.gY).1;have key: ∀(p:Em U (af ρ (ax 0 [aJ.row 0 s l tE])++X) w s→Prop) (hp: ∀x∈em,p x) (e0:Em U (af ρ (ax 0 [aJ.row 0 s l tE])++X) w s) (h0:p e0),(∀x y,p x→p y→ltOf g x.x y.x=false→ltOf g y.x x.x=false→x.x=y.x)→
   Fn P (ρs.f 6) [.slice (ρ 0).A em.length (ρ 0).c,.func (.func f) #[] ca.toArray] w fun v w'=>v= .tuple #[]∧ ∃em':List (Em U (af ρ (ax 0 [aJ.row 0 s l tE])++X) w s),em'.map (·.x)=be g l∧Ow (ρ 0).A em.length (ρ 0).c (aM U s) (em'.flatMap (·.c)) sp∧(∀g,ah (ρ 0).A=some g→w'.heap[g]? =some (Cl (em'.flatMap (·.c)++sp) tE))∧Fr (ah (ρ 0).A).toList w w':=by
  intro p hp e0 h0 hT'
  haveI:Inhabited {x:Em U (af ρ (ax 0 [aJ.row 0 s l tE])++X) w s//p x}:=⟨⟨e0,h0⟩⟩
  have hfm:=jA p (fun e:Em U (af ρ (ax 0 [aJ.row 0 s l tE])++X) w s=>e.c) em hp;have hlen:(em.attachWith p hp).length=em.length:=List.length_attachWith;have hs:=Ai (enc:=fun a:{x:Em U (af ρ (ax 0 [aJ.row 0 s l tE])++X) w s//p x}=>a.1.c) (k:=aM U s) (e:=tE) L (wJ ag) (bO sz) (fun x=>x.1.hl) hm0 (fun x=>x.1.h1) (cf:=fun a b=>g a.1.x b.1.x)
   ⟨fun x=>hO.1 x.1.x,fun x y z=>hO.2 x.1.x y.1.x z.1.x,fun x y z=>hO.3 x.1.x y.1.x z.1.x⟩
   (fun x y h1 h2=>by
    have e:=hT' x.1 y.1 x.2 y.2 h1 h2;obtain⟨⟨x,c,d⟩,hx⟩:=x;obtain⟨⟨y,c',d'⟩,hy⟩:=y;simp only at e;subst e;have:=hfl _ _ _ _ _ d d';subst this;rfl) (g:=f) (cb:=ca) (pA hen2) hen X w (em.attachWith p hp) (by rw[hlen];omega) (ρ 0).A (ρ 0).c sp (by rw[hfm];exact kV (M.lo w rfl) hw dj) (by rw[hfm,hlen];exact how0)
   (fun w1 x y hf1=>rD hpr hag hv2 x.1 y.1 hf1 (hkey _) M.xd M.gY)
  rw[hlen]at hs;refine hs.mono ?_;rintro v w' ⟨rfl,a1,a2,a3,a4⟩;refine⟨rfl,(be (fun a b:{x:Em U (af ρ (ax 0 [aJ.row 0 s l tE])++X) w s//p x}=>g a.1.x b.1.x) (em.attachWith p hp)).map (·.1),?_,?_,fun g' hg'=>?_,?_⟩
  ·rw[List.map_map];have:=qp (fun a:{x:Em U (af ρ (ax 0 [aJ.row 0 s l tE])++X) w s//p x}=>a.1.x) g (em.attachWith p hp);rw[show((fun x:Em U (af ρ (ax 0 [aJ.row 0 s l tE])++X) w s=>x.x)∘fun x:{x:Em U (af ρ (ax 0 [aJ.row 0 s l tE])++X) w s//p x}=>x.1)=fun a=>a.1.x from rfl,this];have h9:=jB p (fun e:Em U (af ρ (ax 0 [aJ.row 0 s l tE])++X) w s=>e.x) em hp;rw[h9,e1]
  ·rw[List.flatMap_map];exact a1
  ·rw[List.flatMap_map];exact a3.hp.at (i:=0) (by rw[hg'];rfl)
  ·rw[cT]at a4;exact a4
 have main:Fn P (ρs.f 6) [.slice (ρ 0).A em.length (ρ 0).c,.func (.func f) #[] ca.toArray] w fun v w'=>v= .tuple #[]∧ ∃em':List (Em U (af ρ (ax 0 [aJ.row 0 s l tE])++X) w s),em'.map (·.x)=be g l∧Ow (ρ 0).A em.length (ρ 0).c (aM U s) (em'.flatMap (·.c)) sp∧(∀g,ah (ρ 0).A=some g→w'.heap[g]? =some (Cl (em'.flatMap (·.c)++sp) tE))∧Fr (ah (ρ 0).A).toList w w':=by
  cases hem:em with
  |nil=>
   rw[←hem];exact key (fun x=>x=default) (fun x hx=>by rw[hem]at hx;cases hx) default rfl (fun x y hx hy _ _=>by rw[hx,hy])
  |cons e0 r=>
   rw[←hem];exact key (fun x=>x∈em) (fun x hx=>hx) e0 (by rw[hem];simp) (fun x y hx hy=>hT _ (by rw[←e1];exact List.mem_map_of_mem hx) _ (by rw[←e1];exact List.mem_map_of_mem hy))
 refine main.mono ?_;rintro v w' ⟨rfl,em',b1,b2,b3,b4⟩;have hlen:em.length=(be g l).length:=by rw[cQ,e2]
 rw[hlen]at b2;obtain⟨ρ',a2,a3⟩:=Hl (el:=tE) M hl hm0 b4 (cQ ..) (by have:=iw em';rw[b1]at this;exact this) b2 b3;exact⟨_,_,ρ',hK,⟨[],rfl,rfl⟩,a2,a3⟩
end
end Go.Proofs.YtmpeiadlohbikaaGreatDoor.V
end

section
set_option linter.unusedVariables false
set_option linter.unusedSimpArgs false
namespace Go.Proofs.YtmpeiadlohbikaaGreatDoor
open Go.RowKit
open Go.ChangeMaps (setBlock)
theorem Fr.setBlockR(w:World)(g:Nat)(o:Obj):Fr [g] w (setBlock w g o):=⟨rfl,rfl,rfl,by simp[Go.ChangeMaps.setBlock],fun k _ hk=>by
 show(w.heap.setIfInBounds g o)[k]? =_
 rw[Array.getElem?_setIfInBounds_ne (fun e=>hk (by simp[e]))],Nat.le_refl _⟩
theorem rS{w:World}{g:Nat}{o:Obj}(h:g<w.heap.size):(setBlock w g o).heap[g]? =some o:=by
 show(w.heap.setIfInBounds g o)[g]? =_
 rw[Array.getElem?_setIfInBounds_self_of_lt h]
def xG(s:List UInt8)(pos:Int):Int:=((Utf8.decode ⟨s.toArray⟩ pos.toNat).1:Int)
def rT(s:List UInt8)(pos:Int):Int:=((Utf8.decode ⟨s.toArray⟩ pos.toNat).2:Int)
theorem pn(s:List UInt8)(pos:Int):1≤rT s pos:=by
 have:=Lib.width_pos ⟨s.toArray⟩ pos.toNat;unfold rT;omega
section
variable [bt] {P:Program} {n:Nat} {env:aG} {w:World} {o:Oper} {K:aG→World→Prop} {H:bR} {s:List UInt8}
theorem zZ{t d:Nat}{x:Operand}(ho:o.op= .range t x)(hd:o.dst=some d)(hn:Nat.blt d n=true)(hx:env.ev x=some (sv s))(ht:P.underlying t=some .string)(h:Hp w H)
  (hK: ∀r w',Hp w' (H++ [(some r,.stringIter ⟨s.toArray⟩ 0)])→Fr [] w w'→w.heap.size≤r→K ((d,.pointer (some ⟨r,0,none⟩))::env) w'):bH P n env w o K:=by
 refine eR hd hn (fun a r=>?_) (hK w.heap.size (w.alloc (.stringIter ⟨s.toArray⟩ 0)) (h.alloc _) (Fr.alloc w _) (Nat.le_refl _));unfold execOp;have:=run_range_string (P:=P) w t ⟨s.toArray⟩ ht;simp only[ho,r.eval hx,sv,Sem.run_bind,this,Result.andThen_ok];rfl
theorem Ds{r ir d:Nat}{pos:Int}{x:Operand}(ho:o.op= .next x true)(hd:o.dst=some d)(hn:Nat.blt d n=true)(hx:env.ev x=some (.pointer (some ⟨r,0,none⟩)))(h:Hp w H)(hir:H[ir]? =some (some r,.stringIter ⟨s.toArray⟩ pos.toNat))(hp:0≤pos)
  (h0: ¬pos<s.length→K ((d,.tuple #[.bool false])::env) w)
  (h1: ∀w',pos<s.length→Hp w' (H.set ir (some r,.stringIter ⟨s.toArray⟩ (pos+rT s pos).toNat))→Fr [r] w w'→K ((d,.tuple #[.bool true,.int .i64 pos,.int .i32 (xG s pos)])::env) w'):bH P n env w o K:=by
 have hs:(⟨s.toArray⟩:ByteArray).size=s.length:=by simp[ByteArray.size]
 by_cases hc:pos<s.length
 ·have hr:=Lib.run_next_any_at (P:=P) w r ⟨s.toArray⟩ pos.toNat o.type (h.at hir) (by rw[hs];omega);have hw:=pn s pos;have e1:(pos+rT s pos).toNat=pos.toNat+(Utf8.decode ⟨s.toArray⟩ pos.toNat).2:=by unfold rT;omega
  have e2:((pos.toNat:Nat):Int)=pos:=by omega
  have hf:Fr [r] w (setBlock w r (.stringIter ⟨s.toArray⟩ (pos+rT s pos).toNat)):=Fr.setBlockR w r _;refine eR hd hn (fun a q=>?_) (h1 (setBlock w r (.stringIter ⟨s.toArray⟩ (pos+rT s pos).toNat)) hc (h.setAt hir hf (rS (bZ (h.at hir)))) hf);unfold execOp;simp only[ho,q.eval hx,Sem.run_bind,hr,Result.andThen_ok];rw[e1,e2];rfl
 ·have hr:=Lib.run_next_end_at (P:=P) w r ⟨s.toArray⟩ pos.toNat o.type (h.at hir) (by rw[hs];omega);refine eR hd hn (fun a q=>?_) (h0 hc);unfold execOp;simp only[ho,q.eval hx,Sem.run_bind,hr,Result.andThen_ok];rfl
end
end Go.Proofs.YtmpeiadlohbikaaGreatDoor
end

section
set_option linter.unusedVariables false
set_option linter.unusedSimpArgs false
set_option maxRecDepth 20000
namespace Go.Proofs.YtmpeiadlohbikaaGreatDoor.V
open Go.RowKit
def b9(s:List (List UInt8))(s3:Int)(r0:List (List UInt8)):Nat→Int→Int→(List (List UInt8))→((List (List UInt8)))⊕(Int×Int×(List (List UInt8)))
 |0,s3',s5,r0'=> .inr (s3',s5,r0')
 |fuel+1,s3',s5,r0'=>
  if s5<((s.length - s3.toNat:Nat):Int)then
   if(ix r0' (s3+s5))=(ix r0' (s3+(s5 - 1)))then
    b9 s s3 r0 fuel s3' (s5+1) r0'
   else
    b9 s s3 r0 fuel (s3'+1) (s5+1) (r0'.set s3'.toNat (ix r0' (s3+s5)))
  else
   .inr (s3',s5,r0')
def cc(s:List (List UInt8)):Nat→Int→(List (List UInt8))→((List (List UInt8)))⊕(Int×(List (List UInt8)))
 |0,s3,r0=> .inr (s3,r0)
 |fuel+1,s3,r0=>
  if s3<(s.length:Int)then
   if(ix r0 s3)=(ix r0 (s3 - 1))then
    match b9 s s3 r0 (((s.length:Int)-(1:Int)).toNat+1) s3 (1:Int) r0 with
    | .inl r=> .inl r
    | .inr (s3',s5,r0')=>
     .inl ((r0'.take s3'.toNat++List.replicate (r0'.length - s3'.toNat) []).take s3'.toNat)
   else
    cc s fuel (s3+1) r0
  else
   .inr (s3,r0)
def cI(s:List (List UInt8)):(List (List UInt8)):=
 if(s.length:Int)<2 then
  s
 else
  match cc s (((s.length:Int)-(1:Int)).toNat+1) (1:Int) s with
  | .inl r=>r
  | .inr (s3,r0)=>
   r0
theorem nH(s:List (List UInt8)):cI s=dd s:=by
 unfold cI;split
 ·rename_i h0;match s,h0 with
  | [],_=>rfl
  | [a],_=>rfl
  |a::b::l,h=>simp at h;omega
 ·rename_i h;have hs:1≤s.length:=by omega
  rcases rP s ([]:List UInt8) (b9 s) (cc s) (fun _ _ _ _ _ _=>rfl) (fun fuel s3 r0=>by
   rw[cc];generalize b9 s s3 r0 (((s.length:Int)-(1:Int)).toNat+1) s3 (1:Int) r0=X;rcases X with r|⟨a,b,c⟩<;>rfl) hs (((s.length:Int)-(1:Int)).toNat+1) 1 (by omega) (by omega) (by
   match s,hs with
   |a::l,_=>rfl) (by omega)with e|⟨⟨q,e⟩,e2⟩
  ·rw[e]
  ·rw[e];exact e2.symm
theorem uK{P:Program}{fi tE:Nat}{fn:Go.Func}{ρf ρt:Nat→Nat}(hen:aA P fi=true)(hf:P.funcs[fi]? =some fn)(hb:fn.body=some (dS ρf ρt (cw Tryz.f92)))(hn:fn.ntmps=61)(hr:fn.results= #[.tmp 2])(hmx:P.follows .mixedOrders=true)(i64:P.underlying (ρt 3)=some (.int .i64))(hE:tE=ρt 61)(es:ar P (ρt 36)=some (tE,1))(un:P.underlying (ρt 36)=some (.slice tE))(pl:c6 P tE=true)(sz:(P.info? tE).map (·.size)=some 1)(zc:zeroCells P tE=some [sv []])
  (X:List Nat) (w:World) (s:List (List UInt8)) (A_s:Option Addr) (c_s:Nat) (s1:List Value) (hs:St X w [(ah A_s,Cl (s.flatMap (fun x=> [sv x])++s1) tE)] []) (z4:Ow A_s s.length c_s 1 (s.flatMap (fun x=> [sv x])) s1):
  Fn P fi [.slice A_s s.length c_s] w fun v w'=> ∃(A':Option Addr) (c':Nat) (sp':List Value),v= .slice A' (cI s).length c'∧Ow A' (cI s).length c' 1 ((cI s).flatMap (fun x=> [sv x])) sp'∧St X w' [(ah A',Cl ((cI s).flatMap (fun x=> [sv x])++sp') tE)] []∧Fr (aR [(ah A_s,Cl (s.flatMap (fun x=> [sv x])++s1) tE)]) w w'∧(∀k∈aR [(ah A',Cl ((cI s).flatMap (fun x=> [sv x])++sp') tE)],k∈(aR [(ah A_s,Cl (s.flatMap (fun x=> [sv x])++s1) tE)])∨w.heap.size≤k):=by
 refine io 61 hen hf hb hn rfl ?_;dsimp only[bQ];subst hE;have hs0:=hs;have st:St X w [(ah A_s,Cl (s.flatMap (fun x=> [sv x])++s1) (ρt 61))] []:=hs;have z2: ∀g,ah A_s=some g→g∈(aR [(ah A_s,Cl (s.flatMap (fun x=> [sv x])++s1) (ρt 61))])∨w.heap.size≤g:=fun g hg=> .inl (by simp[aR,hg]);have z3:=Ow.le z4;have hF:=Fr.refl (aR [(ah A_s,Cl (s.flatMap (fun x=> [sv x])++s1) (ρt 61))]) w;refine sq fun _ k1=>rg (dr rfl (Ln k1 (sq fun _ k2=>sq fun _ k3=>rg (Lm rfl (Ly rfl (sg rfl un) (Ly rfl (x7 rfl) (Ln k3 (cD rfl (fun hc1=>?_) (fun hc1=>?_)))))))))
 ·refine sq fun _ k4=>rg (Lm rfl (dr rfl (Ln k4 (wR (jn (fR (gV hr rfl) ?_))))));unfold cI;rewrite[if_pos hc1];exact⟨_,_,_,rfl,z4,(st.pk [0] (by decide)).pickK [],hF,kZ z2 kY⟩
 refine sk k2 (sq fun _ k5=>sq fun _ k6=>rg (dr rfl (Ln k6 (bn (lp (fun q E W=> ∃(s3:Int) (r0:List (List UInt8)),E= [(0,.slice A_s s.length c_s),(3,.int .i64 s3)]∧jq q (fun m=>(cc s m s3 r0=cc s (((s.length:Int)-(1:Int)).toNat+1) (1:Int) s∧((s.length:Int)- s3).toNat<m)) (cc s (((s.length:Int)-(1:Int)).toNat+1) (1:Int) s= .inr (s3,r0))∧(1≤s3∧1≤s3)∧Ow A_s s.length c_s 1 (r0.flatMap (fun x=> [sv x])) s1∧(r0.length=s.length)∧St X W [(ah A_s,Cl (r0.flatMap (fun x=> [sv x])++s1) (ρt 61))] []∧Fr (aR [(ah A_s,Cl (s.flatMap (fun x=> [sv x])++s1) (ρt 61))]) w W) (((s.length:Int)-(1:Int)).toNat+1) [(0,_),(3,_)] ⟨rfl,rfl,trivial⟩ ⟨_,_,rfl,⟨rfl,Nat.lt_succ_self _⟩,by first|omega|(simp;done)|(simp;omega),z4,rfl,st,hF⟩ k5 ?_ fun hout1=>?_)))))
 ·rintro E w1 ⟨s3,r0,rfl,hLk1,hinv,howr0,hlmr0,st,hF⟩;unfold jq at hLk1;dsimp only at hLk1;refine sq fun _ k7=>rg (Lm rfl (dr rfl (Ln k7 (wR (fR (gV hr rfl) ?_)))));unfold cI;rewrite[if_neg hc1,hLk1];(try dsimp only);exact⟨A_s,c_s,s1,by rw[hlmr0],by rw[hlmr0];exact howr0,(st.pk [0] (by decide)).pickK [],hF,kZ z2 kY⟩
 rintro m E w2 ⟨s3,r0,rfl,⟨hL1,hmu⟩,hinv,howr0,hlmr0,st,hF⟩;obtain⟨fuel,rfl⟩: ∃q,m=q+1:=⟨m - 1,by omega⟩;have z1:=Ow.le howr0;refine sq fun _ k8=>sq fun _ k9=>rg (Lm rfl (Lm rfl (Ly rfl (sg rfl un) (Ly rfl (x7 rfl) (Ln k9 (cD rfl (fun hc2=>?_) (fun hc2=>?_)))))))
 ·refine sk k8 (sq fun _ wt=>bn (sq fun _ zH=>?_));refine ju (fun W=>St X W (ci (Fe st) [0]) (I3 st)) [(true,0),(true,1),(true,2),(true,3),(true,4),(true,5),(true,6),(true,7),(true,8),(true,9)] hmx (by kernel_rfl) (by kernel_rfl) rfl ((st.pk [0] (by decide)).drew) ?_;have st:=st.drew;have hF:=hF.step0 (Fr.drew _);refine Pm rfl (Pm rfl ?_);obtain⟨gi1,egi1⟩:=(howr0).some_ (by first|omega|(simp;done)|(simp;omega));subst egi1;refine Py rfl (eW (q:=s3) rfl rfl rfl es (by first|omega|(simp;done)|(simp;omega)) (by first|omega|(simp;done)|(simp;omega))) ?_;refine Py rfl (jr (q:=s3) 0 rfl rfl pl (fun _ h=>gy.own (i:=0) h.hp rfl howr0 (by decide)) (fun _=>rfl) (by first|omega|(simp;done)|(simp;omega)) (by first|omega|(simp;done)|(simp;omega)) rfl) ?_;refine Pm rfl (Pm rfl (Py rfl (nQ (c:=s3 - 1) rfl rfl rfl (bP (by first|omega|(simp;done)|(simp;omega)))) ?_));refine Py rfl (eW (q:=s3 - 1) rfl rfl rfl es (by first|omega|(simp;done)|(simp;omega)) (by first|omega|(simp;done)|(simp;omega))) ?_;refine Py rfl (jr (q:=s3 - 1) 0 rfl rfl pl (fun _ h=>gy.own (i:=0) h.hp rfl howr0 (by decide)) (fun _=>rfl) (by first|omega|(simp;done)|(simp;omega)) (by first|omega|(simp;done)|(simp;omega)) rfl) ?_;refine Py rfl (Fj rfl rfl rfl) (lJ (ck (zH _ _ (cE rfl (fun hc3=>?_) (fun hc3=>?_)))))
  ·refine sq fun _ zG=>rg (Lm rfl (Lm rfl (Ly rfl (mK (enc:=(fun x=> [sv x])) (xs:=r0) (p:=s3) rfl rfl (hlmr0).symm es rfl rfl (by first|omega|(simp;done)|(simp;omega)) (by first|omega|(simp;done)|(simp;omega)) howr0) ?_)));refine dr rfl (Ln zG (sq fun _ zN=>sq fun _ BC=>rg (dr rfl (Ln BC (bn (lp (fun q E W=> ∃(s3':Int) (s5:Int) (r0':List (List UInt8)),E= [(0,.slice (some ⟨gi1,0,none⟩) s.length c_s),(3,.int .i64 s3'),(4,.slice (some ⟨gi1,0+s3.toNat*1,none⟩) (s.length - s3.toNat) (c_s - s3.toNat)),(5,.int .i64 s5)]∧jq q (fun m=>(b9 s s3 r0 m s3' s5 r0'=b9 s s3 r0 (((s.length:Int)-(1:Int)).toNat+1) s3 (1:Int) r0∧((s.length:Int)- s5).toNat<m)) (b9 s s3 r0 (((s.length:Int)-(1:Int)).toNat+1) s3 (1:Int) r0= .inr (s3',s5,r0'))∧(1≤s5∧s3≤s3'∧s3'<s3+s5∧s5≤s.length - s3∧1≤s3)∧Ow (some ⟨gi1,0,none⟩) s.length c_s 1 (r0'.flatMap (fun x=> [sv x])) s1∧(r0'.length=s.length)∧St X W [(ah (some ⟨gi1,0,none⟩),Cl (r0'.flatMap (fun x=> [sv x])++s1) (ρt 61))] []∧Fr (aR [(ah (some ⟨gi1,0,none⟩),Cl (s.flatMap (fun x=> [sv x])++s1) (ρt 61))]) w W) (((s.length:Int)-(1:Int)).toNat+1) [(0,_),(3,_),(4,_),(5,_)] ⟨rfl,rfl,rfl,rfl,trivial⟩ ⟨_,_,_,rfl,⟨rfl,Nat.lt_succ_self _⟩,by first|omega|(simp;done)|(simp;omega),howr0,hlmr0,st,hF⟩ zN ?_ fun hout2=>?_))))))
   ·rintro E w3 ⟨s3',s5,r0',rfl,hLk2,hinv,howr0',hlmr0',st,hF⟩;unfold jq at hLk2;dsimp only at hLk2;refine sq fun _ BD=>rg (Lm rfl (Lm rfl (Ly rfl (mK (enc:=(fun x=> [sv x])) (xs:=r0') (p:=s3') rfl rfl (hlmr0').symm es rfl rfl (by first|omega|(simp;done)|(simp;omega)) (by first|omega|(simp;done)|(simp;omega)) howr0') ?_)));refine La rfl (pz (i:=0) (enc:=(fun x=> [sv x])) (xs:=r0') (u:= []) (p:=s3') rfl rfl rfl (hlmr0').symm es zc rfl (fun _=>rfl) (by intro v hv;simp only[List.mem_singleton]at hv;subst hv;rfl) howr0' (by first|omega|(simp;done)|(simp;omega)) (by first|omega|(simp;done)|(simp;omega)) st.hp rfl (fun w4 how1 (hp:Hp w4 [_]) hf=>?_));have st:St X w4 [_] []:=st.set (i:=0) rfl hp hf;have st:St X w4 [_] []:=st;have hF:=hF.step hf (fun y hy=>z2 y (by simp at hy;subst hy;rfl));have hln1:(r0'.take s3'.toNat++List.replicate (r0'.length - s3'.toNat) []).length=s.length:=by simp only[List.length_append,List.length_take,List.length_replicate];omega
    refine Ln BD (sq fun _ E6=>rg (Lm rfl (Lm rfl (Ly rfl (oq (enc:=(fun x=> [sv x])) (xs:=r0'.take s3'.toNat++List.replicate (r0'.length - s3'.toNat) []) (q:=s3') rfl rfl (hln1).symm es rfl rfl (by first|omega|(simp;done)|(simp;omega)) (by first|omega|(simp;done)|(simp;omega)) how1) ?_))));have how2:=Ow.cut (enc:=(fun x=> [sv x])) (xs:=r0'.take s3'.toNat++List.replicate (r0'.length - s3'.toNat) []) (fun _=>rfl) how1 (hln1).symm s3'.toNat;have st:St X _ [_] []:=st.conv (i:=0) rfl (kL s3'.toNat);refine dr rfl (Ln E6 (wR (tO (jn (jn (tO (jn (fR (gV hr rfl) ?_))))))));have hret1:cc s (((s.length:Int)-(1:Int)).toNat+1) (1:Int) s= .inl ((r0'.take s3'.toNat++List.replicate (r0'.length - s3'.toNat) []).take s3'.toNat):=by rewrite[←hL1,cc];rewrite[if_pos hc2,if_pos hc3,hLk2];(try dsimp only);all_goals rfl
    have he3:cI s=((r0'.take s3'.toNat++List.replicate (r0'.length - s3'.toNat) []).take s3'.toNat):=by unfold cI;rewrite[if_neg hc1,hret1];(try dsimp only);all_goals rfl
    rewrite[he3];exact⟨_,_,_,rfl,how2,(st.pk [0] (by decide)).pickK [],hF,kZ z2 kY⟩
   rintro m E w5 ⟨s3',s5,r0',rfl,⟨hL2,hmu⟩,hinv,howr0',hlmr0',st,hF⟩;obtain⟨fuel,rfl⟩: ∃q,m=q+1:=⟨m - 1,by omega⟩;have hlehowr0':=Ow.le howr0';refine sq fun _ HB=>sq fun _ Fm=>rg (Lm rfl (Lm rfl (Ly rfl (sg rfl un) (Ly rfl (x7 rfl) (Ln Fm (cD rfl (fun hc4=>?_) (fun hc4=>?_)))))))
   ·refine sk HB (sq fun _ AH=>bn (sq fun _ BF=>?_));refine ju (fun W=>St X W (ci (Fe st) [0]) (I3 st)) [(true,0),(true,1),(true,2),(true,3),(true,4),(true,5),(true,6),(true,7),(true,8),(true,9)] hmx (by kernel_rfl) (by kernel_rfl) rfl ((st.pk [0] (by decide)).drew) ?_;have st:=st.drew;have hF:=hF.step0 (Fr.drew _);refine Pm rfl (Pm rfl (Py rfl (nu (p:=s3) (q:=s5) rfl rfl rfl es (by first|omega|(simp;done)|(simp;omega)) (by first|omega|(simp;done)|(simp;omega)) (by first|omega|(simp;done)|(simp;omega))) ?_));refine Py rfl (jr (q:=s3+s5) 0 rfl rfl pl (fun _ h=>gy.own (i:=0) h.hp rfl howr0' (by decide)) (fun _=>rfl) (by first|omega|(simp;done)|(simp;omega)) (by first|omega|(simp;done)|(simp;omega)) rfl) ?_;refine Pm rfl (Pm rfl (Py rfl (nQ (c:=s5 - 1) rfl rfl rfl (bP (by first|omega|(simp;done)|(simp;omega)))) ?_));refine Py rfl (nu (p:=s3) (q:=s5 - 1) rfl rfl rfl es (by first|omega|(simp;done)|(simp;omega)) (by first|omega|(simp;done)|(simp;omega)) (by first|omega|(simp;done)|(simp;omega))) ?_;refine Py rfl (jr (q:=s3+(s5 - 1)) 0 rfl rfl pl (fun _ h=>gy.own (i:=0) h.hp rfl howr0' (by decide)) (fun _=>rfl) (by first|omega|(simp;done)|(simp;omega)) (by first|omega|(simp;done)|(simp;omega)) rfl) ?_;refine Py rfl (Fl rfl rfl rfl) (lJ (ck (BF _ _ (cN rfl (fun hc5=>?_) (fun hc5=>?_)))))
    ·refine sq fun _ D6=>rg (Lm rfl (Lm rfl (Lm rfl (Lm rfl (Ly rfl (nu (p:=s3) (q:=s5) rfl rfl rfl es (by first|omega|(simp;done)|(simp;omega)) (by first|omega|(simp;done)|(simp;omega)) (by first|omega|(simp;done)|(simp;omega))) ?_)))));refine Ly rfl (jr (q:=s3+s5) 0 rfl rfl pl (fun _ e=>e▸gy.own (i:=0) st.hp rfl howr0' (by decide)) (fun _=>rfl) (by first|omega|(simp;done)|(simp;omega)) (by first|omega|(simp;done)|(simp;omega)) rfl) ?_;refine Ly rfl (eW (q:=s3') rfl rfl rfl es (by first|omega|(simp;done)|(simp;omega)) (by first|omega|(simp;done)|(simp;omega))) ?_;refine La rfl (pB (i:=0) (q:=s3') (u:=ix r0' (s3+s5)) rfl rfl rfl rfl rfl (fun _=>rfl) sz (by intro v hv;simp only[List.mem_singleton]at hv;subst hv;rfl) howr0' st.hp rfl (by first|omega|(simp;done)|(simp;omega)) (by first|omega|(simp;done)|(simp;omega)) (by decide) (fun w6 how3 (hp:Hp w6 [_]) hf=>?_));have st:St X w6 [_] []:=st.set (i:=0) rfl hp hf;have st:St X w6 [_] []:=st;have hF:=hF.step hf (fun y hy=>z2 y (by simp at hy;subst hy;rfl));have hln2:(r0'.set s3'.toNat (ix r0' (s3+s5))).length=s.length:=by rw[List.length_set];exact hlmr0'
     rewrite[hln2]at how3;refine Ln D6 (rg (Lm rfl (Ly rfl (da (c:=s3'+1) rfl rfl rfl (bP (by first|omega|(simp;done)|(simp;omega)))) ?_)));refine dr rfl (ch (kX (ck (AH _ _ (rg (Lm rfl (Ly rfl (da (c:=s5+1) rfl rfl rfl (bP (by first|omega|(simp;done)|(simp;omega)))) ?_)))))));refine dr rfl (ch (ck (?_)));exact⟨fuel,[(0,_),(3,_),(4,_),(5,_)],Nat.lt_succ_self _,⟨rfl,rfl,rfl,rfl,trivial⟩,(s3'+1),(s5+1),(r0'.set s3'.toNat (ix r0' (s3+s5))),rfl,⟨by rewrite[←hL2,b9];rewrite[if_pos hc4,if_neg hc5];rfl,by first|omega|(simp;done)|(simp;omega)⟩,by first|omega|(simp;done)|(simp;omega),how3,hln2,(st.pk [0] (by decide)).pickK [],hF⟩
    refine dt (kX (ck (AH _ _ (rg (Lm rfl (Ly rfl (da (c:=s5+1) rfl rfl rfl (bP (by first|omega|(simp;done)|(simp;omega)))) ?_))))));refine dr rfl (ch (ck (?_)));exact⟨fuel,[(0,_),(3,_),(4,_),(5,_)],Nat.lt_succ_self _,⟨rfl,rfl,rfl,rfl,trivial⟩,s3',(s5+1),r0',rfl,⟨by rewrite[←hL2,b9];rewrite[if_pos hc4,if_pos hc5];rfl,by first|omega|(simp;done)|(simp;omega)⟩,by first|omega|(simp;done)|(simp;omega),howr0',hlmr0',(st.pk [0] (by decide)).pickK [],hF⟩
   refine eQ (iU (iU (gT (ck (?_)))));exact hout2 _ [(0,_),(3,_),(4,_),(5,_)] _ ⟨rfl,rfl,rfl,rfl,trivial⟩ ⟨s3',s5,r0',rfl,show _=_ from by rewrite[←hL2,b9];rewrite[if_neg hc4];rfl,by first|omega|(simp;done)|(simp;omega),howr0',hlmr0',(st.pk [0] (by decide)).pickK [],hF⟩
  refine dt (kX (ck (wt _ _ (rg (Lm rfl (Ly rfl (da (c:=s3+1) rfl rfl rfl (bP (by first|omega|(simp;done)|(simp;omega)))) ?_))))));refine dr rfl (ch (ck (?_)));exact⟨fuel,[(0,_),(3,_)],Nat.lt_succ_self _,⟨rfl,rfl,trivial⟩,(s3+1),r0,rfl,⟨by rewrite[←hL1,cc];rewrite[if_pos hc2,if_neg hc3];rfl,by first|omega|(simp;done)|(simp;omega)⟩,by first|omega|(simp;done)|(simp;omega),howr0,hlmr0,(st.pk [0] (by decide)).pickK [],hF⟩
 refine eQ (iU (iU (gT (ck (?_)))));exact hout1 _ [(0,_),(3,_)] _ ⟨rfl,rfl,trivial⟩ ⟨s3,r0,rfl,show _=_ from by rewrite[←hL1,cc];rewrite[if_neg hc2];rfl,by first|omega|(simp;done)|(simp;omega),howr0,hlmr0,(st.pk [0] (by decide)).pickK [],hF⟩
section
variable {U:bG} {P:Program} {fi tE:Nat} {fn:Go.Func} {ρf ρt:Nat→Nat} {X:List Nat} {w:World}
theorem JG{Y:List Nat}{S:World→Prop}: ∀{xs:List (List UInt8)} {vs:List Value},aT U Y S .str xs vs→vs=xs.flatMap (fun x=> [sv x])∧ ∀x∈xs,x.length≤9223372036854775807
 | [],vs,h=>⟨h.nil_inv,by simp⟩
 |x::xs,vs,h=>by
  obtain⟨v1,v2,rfl,h1,hl,hr⟩:=h.cons_inv;obtain⟨e1,e2⟩:=h1.inv;obtain⟨e3,e4⟩:=JG hr;refine⟨by rw[show v1=_ from e1,e3];rfl,fun y hy=>?_⟩;rcases List.mem_cons.1 hy with rfl|hy
  ·exact e2
  ·exact e4 y hy
theorem CU{Y:List Nat}{S:World→Prop}: ∀(xs:List (List UInt8)),(∀x∈xs,x.length≤9223372036854775807)→aT U Y S .str xs (xs.flatMap (fun x=> [sv x]))
 | [],_=> .nil _
 |x::xs,h=> .cons .str x xs [sv x] _ (aC.str x (h x (by simp))) rfl (CU xs fun y hy=>h y (by simp[hy]))
theorem th [am]{ρ:Nat→Rz}{n i:Nat}{H:Hs U}{xs:List (List UInt8)}{v:Value}(M:bc U X (· =w) ρ n H)(hl:aD H i=some (.row 0 .str xs tE))(h:cC (Vw U X w ρ n H) ⟨false,[(1,.own i 0)]⟩ v):
  ∃(sp:List Value),i<n∧(∀x∈xs,x.length≤9223372036854775807)∧v= .slice (ρ i).A xs.length (ρ i).c∧Ow (ρ i).A xs.length (ρ i).c 1 (xs.flatMap (fun x=> [sv x])) sp∧ ∀g,ah (ρ i).A=some g→w.heap[g]? =some (Cl (xs.flatMap (fun x=> [sv x])++sp) tE):=by
 obtain⟨hi,A,l,c,e1,hnow⟩:=(show Vw U X w ρ n H (.own i 0) [v]from(bI.one1 h).1);injection e1 with e1;subst e1;obtain⟨rfl,rfl,rfl⟩:=(hnow _ _ _ (by rw[hl];rfl)).2 rfl;obtain⟨hm,cs,sp,hdx,how0,hw⟩:=M.ent _ (ak hl);obtain⟨e1,e2⟩:=JG hdx;subst e1;exact⟨sp,hi,e2,rfl,how0,fun g hg=>hw g hg w rfl⟩
def Qd(l:List (List UInt8)):List (List UInt8):=dd l
def qr(U:bG)(tE:Nat):aW U:=⟨[.n],fun xs es K=> ∃l:List (List UInt8),xs= [⟨false,[(1,.own 0 0)]⟩]∧es= [.row 0 .str l tE]∧K (.v ⟨false,[(1,.own 0 1)]⟩) [.row 1 .str (Qd l) tE]⟩
theorem uL(hen:aA P fi=true)(hf:P.funcs[fi]? =some fn)(hb:fn.body=some (dS ρf ρt (cw Tryz.f92)))(hn:fn.ntmps=61)(hr:fn.results= #[.tmp 2])(hmx:P.follows .mixedOrders=true)(i64:P.underlying (ρt 3)=some (.int .i64))(hE:tE=ρt 61)(es:ar P (ρt 36)=some (tE,1))(un:P.underlying (ρt 36)=some (.slice tE))(pl:c6 P tE=true)(sz:(P.info? tE).map (·.size)=some 1)(zc:zeroCells P tE=some [sv []]):bi P U fi (qr U tE):=fun [F:am] hpr X w ρ es0 xs vs K M hv hrun=>by
 obtain⟨l,rfl,rfl,hK⟩:=hrun;obtain⟨v,us,rfl,h1,h3⟩:=hv;rw[show us= []from h3];have hl:aD (ax 0 [(aJ.row 0 .str l tE:aJ U)]) 0=some (.row 0 .str l tE):=rfl;obtain⟨sp,hi,hlen,rfl,how0,hw⟩:=th M hl h1;have dj: ∀g,ah (ρ 0).A=some g→g∉X:=fun g hg=>M.dj g (dH (s:= .str) hl hg);refine Fn.mono (uK hen hf hb hn hr hmx i64 hE es un pl sz zc X w l (ρ 0).A (ρ 0).c sp (kV (M.lo w rfl) hw dj) how0) ?_;rintro v w' ⟨A',c',sp',rfl,how,st,hf',hk⟩;rw[nH]at how st⊢;rw[cT]at hf';obtain⟨ρ',a1,a2,a3⟩:=zo (el:=tE) (s:= .str) M hi hl (show 0<1 from Nat.one_pos) hf' (fun g' hg'=>(hk g' (by simp[aR,nH,hg'])).imp (fun h=>by rw[cT]at h;simpa using h) id) (CU (dd l) fun x hx=>hlen x ((HF l x).1 hx)) how (fun g' hg'=>st.hp.at (i:=0) (by rw[hg'];rfl));exact⟨_,_,ρ',hK,a1,a2,a3⟩
def zt(U:bG)(tE:Nat):aW U:=⟨[.n],fun xs es K=> ∃l:List (List UInt8),xs= [⟨false,[(1,.own 0 0)]⟩]∧es= [.row 0 .str l tE]∧l.length<4611686018427387904∧K (.tup []) [.row 0 .str (iV l) tE]⟩
open Go.Shelf Go.Lib Go.Sort in
theorem CV(hen:aA P fi=true)
  (hC: ∀(blk cap:Nat) (ss:List (List UInt8)) (w:World),Holds encStr w blk 0 ss.toArray→blk<w.heap.size→ss.length<4611686018427387904→Calls P fi #[.slice (some ⟨blk,0,none⟩) ss.length cap] w fun e w'=>e= .returned (.tuple #[])∧ ∃n os,w'=grow (putRow encStr (Sort.ahead w n) blk 0 (ss.mergeSort fun x y=>decide (x≤y)).toArray) os)
  (hN: ∀(p:Option Addr) (cap:Nat) (w:World),Calls P fi #[.slice p 0 cap] w fun e w'=>e= .returned (.tuple #[])∧w'=w):bi P U fi (zt U tE):=fun [F:am] hpr X w ρ es0 xs vs K M hv hrun=>by
 obtain⟨l,rfl,rfl,h62,hK⟩:=hrun;obtain⟨v,us,rfl,h1,h3⟩:=hv;rw[show us= []from h3];have hl:aD (ax 0 [(aJ.row 0 .str l tE:aJ U)]) 0=some (.row 0 .str l tE):=rfl;obtain⟨sp,hi,hlen,rfl,how0,hw⟩:=th M hl h1;have dj: ∀g,ah (ρ 0).A=some g→g∉X:=fun g hg=>M.dj g (dH (s:= .str) hl hg);refine Fn.mono (xL hen hC hN X w l (ρ 0).A (ρ 0).c sp (kV (M.lo w rfl) hw dj) how0 h62) ?_;rintro v w' ⟨rfl,how,e,st,hf'⟩;rw[←e]at how;rw[cT]at hf';obtain⟨ρ',a2,a3⟩:=Hl (el:=tE) (s:= .str) M hl (show 0<1 from Nat.one_pos) hf' (List.length_mergeSort _) (CU (iV l) fun x hx=>hlen x ((List.mergeSort_perm _ _).mem_iff.1 hx)) how (fun g' hg'=>st.hp.at (i:=0) (by rw[hg'];rfl));exact⟨_,_,ρ',hK,⟨[],rfl,rfl⟩,a2,a3⟩
def zu(U:bG):aW U:=⟨[.d .str,.d .str],fun xs es K=> ∃s sep:List UInt8,xs= [⟨false,[(1,.d .str s)]⟩,⟨false,[(1,.d .str sep)]⟩]∧es= []∧s.length≤1000000∧1≤sep.length∧K (.v ⟨false,[(1,.d (.sl .str) (Lib.split s sep))]⟩) []⟩
theorem oU(sep:ByteArray)(save:Nat): ∀(k:Nat) (s x:ByteArray),x∈Lib.splitB sep save k s→x.size≤s.size
 |0,s,x,h=>by simp[Lib.splitB]at h;subst h;exact Nat.le_refl _
 |k+1,s,x,h=>by
  unfold Lib.splitB at h;split at h
  ·simp at h;subst h;exact Nat.le_refl _
  ·rcases List.mem_cons.1 h with rfl|h
   ·rw[ByteArray.size_extract];omega
   ·have:=oU sep save k _ x h;rw[ByteArray.size_extract]at this;omega
theorem lz{s sep:List UInt8}(h1:1≤sep.length):(Lib.split s sep).length=Lib.count s sep+1:=by
 have:=Lib.splitB_all ⟨sep.toArray⟩ (by simpa[ByteArray.size]using h1) 0 (Lib.count s sep) ⟨s.toArray⟩ (by simp);have h2:=congrArg List.length (Lib.splitB_data ⟨sep.toArray⟩ 0 (Lib.count s sep) ⟨s.toArray⟩);rw[List.length_map,this]at h2;unfold Lib.split;simpa using h2.symm
theorem CW(hen:aA P fi=true)(hC: ∀(s sep:ByteArray) (m:Int) (w:World),s.size<4294967281→w.cell? ⟨0,0,none⟩=some (.int .i64 m)→1≤sep.size→Calls P fi #[.string s,.string sep] w fun e w'=>
   e= .returned (.slice (some ⟨w.heap.size,0,none⟩) (Lib.countB s sep+1) (Lib.countB s sep+1))∧w'=w.alloc (.cells ((Lib.splitB sep 0 (Lib.countB s sep) s).map Value.string).toArray tE)):bi P U fi (zu U):=fun [F:am] hpr X w ρ es0 xs vs K M hv hrun=>by
 obtain⟨s,sep,rfl,rfl,hs,h1,hK⟩:=hrun;obtain⟨v,us,rfl,ha,v2,us2,rfl,hb,h3⟩:=hv;rw[show us2= []from h3];obtain⟨e1,_⟩:=aC.inv (show aC U _ _ .str s [v]from(bI.one1 ha).1);obtain⟨e2,_⟩:=aC.inv (show aC U _ _ .str sep [v2]from(bI.one1 hb).1);injection e1 with e1;injection e2 with e2;subst e1;subst e2;obtain⟨mx,hm⟩:=M.gv.2 w rfl;refine⟨hen,(hC ⟨s.toArray⟩ ⟨sep.toArray⟩ mx w (by simp[ByteArray.size];omega) hm (by simpa[ByteArray.size]using h1)).mono ?_⟩;rintro e w' ⟨rfl,rfl⟩;have hlen:=lz (s:=s) h1;have hd2:=Lib.splitB_data ⟨sep.toArray⟩ 0 (Lib.count s sep) ⟨s.toArray⟩;have hsp:Lib.split s sep=(Lib.splitB ⟨sep.toArray⟩ 0 (Lib.count s sep) ⟨s.toArray⟩).map (·.data.toList):=by rw[hd2];rfl
 have hcells:((Lib.splitB ⟨sep.toArray⟩ 0 (Lib.countB ⟨s.toArray⟩ ⟨sep.toArray⟩) ⟨s.toArray⟩).map Value.string)=(Lib.split s sep).flatMap (fun x=> [sv x]):=by
  rw[ot,hsp,List.map_map];apply List.map_congr_left;intro x _;cases x;rfl
 have hcount:Lib.count s sep≤s.length:=by
  have:=Lib.countB_le ⟨sep.toArray⟩ (by simpa[ByteArray.size]using h1) s.length ⟨s.toArray⟩ (by simp[ByteArray.size]);simpa[ByteArray.size]using this
 have hf:Fr [] w (w.alloc (.cells ((Lib.splitB ⟨sep.toArray⟩ 0 (Lib.countB ⟨s.toArray⟩ ⟨sep.toArray⟩) ⟨s.toArray⟩).map Value.string).toArray tE)):=Fr.alloc w _;refine⟨_,rfl,_,_,ρ,hK,?_,(M.keep0 hf).1,(M.keep0 hf).2⟩;refine gu ?_;show aC U _ _ (.sl .str) (Lib.split s sep) [_]
 have hle: ∀x∈Lib.split s sep,x.length≤9223372036854775807:=fun x hx=>by
  rw[hsp]at hx;obtain⟨y,hy,rfl⟩:=List.mem_map.1 hx;have:=oU _ _ _ _ _ hy;have e1:y.size=y.data.toList.length:=Array.length_toList.symm;have e2:(⟨s.toArray⟩:ByteArray).size=s.length:=List.size_toArray;omega
 have hrd:lH (af ρ (ax 0 ([]:List (aJ U)))++X) (w.alloc (.cells ((Lib.splitB ⟨sep.toArray⟩ 0 (Lib.countB ⟨s.toArray⟩ ⟨sep.toArray⟩) ⟨s.toArray⟩).map Value.string).toArray tE)) (some ⟨w.heap.size,0,none⟩) ((Lib.split s sep).flatMap (fun x=> [sv x])):=by
  intro j v hj;refine⟨w.heap.size,0,rfl,fun hx=>?_,?_⟩
  ·have:=M.lo w rfl _ (show w.heap.size∈X from hx);omega
  ·rw[Nat.zero_add,hcells];unfold World.cell?;simp only[heap_alloc_new];simpa using hj
 have:=aC.sl (U:=U) (Y:=af ρ (ax 0 [])++X) (S:=(· =w.alloc (.cells ((Lib.splitB ⟨sep.toArray⟩ 0 (Lib.countB ⟨s.toArray⟩ ⟨sep.toArray⟩) ⟨s.toArray⟩).map Value.string).toArray tE))) .str (Lib.split s sep) (some ⟨w.heap.size,0,none⟩) (Lib.count s sep+1) _ (CU _ hle) (fun w2 h2=>by rw[h2];exact hrd) (Nat.le_of_eq hlen) (by unfold maxLen;omega);rw[show(List.length (α:=TT U.ty .str) (Lib.split s sep))=Lib.count s sep+1 from hlen]at this;exact this
end
theorem CX(s:List UInt8)(p:Int):0≤xG s p∧xG s p≤1114111:=by have:=Lib.rune_le ⟨s.toArray⟩ p.toNat;unfold xG;omega
def cP(s:List UInt8)(f:Int→Bool)(truth:Bool):Nat→Int→(Int)⊕(Int)
 |0,pgr1=> .inr (pgr1)
 |fuel+1,pgr1=>
  if pgr1<(s.length:Int)then
   if(f (xG s pgr1))=truth then
    .inl pgr1
   else
    cP s f truth fuel (pgr1+rT s pgr1)
  else
   .inr (pgr1)
def iC(s:List UInt8)(f:Int→Bool)(truth:Bool):Int:=
 match cP s f truth (((s.length:Int)-(0:Int)).toNat+1) (0:Int)with
 | .inl r=>r
 | .inr (pgr1)=>
  (-1)
theorem xn(w:World)(s:List UInt8)(f1:Value)(f:Int→Bool)(truth:Bool)(z1: ∀(w1:World) (x0:Int),Fr ([]) w w1→0≤x0∧x0≤1114111→po Tryz.prog f1 [.int .i32 x0] w1 fun v w2=>v= .bool (f x0)∧Fr [] w1 w2):
  Fn Tryz.prog 161 [sv s,f1,.bool truth] w fun v w'=>v= .int .i64 (iC s f truth)∧Fr [] w w':=by
 refine io 21 (by kernel_rfl) Tryz.func161 rfl rfl rfl ?_;dsimp only[bQ];have st:=Du (X:= []) (w:=w) (by simp[Lo]);have hF:=Fr.refl ([]) w;refine sq fun _ k1=>rg (dr rfl (Ln k1 (sq fun _ k2=>sq fun _ k3=>rg (Lm rfl (La rfl (zZ (s:=s) rfl rfl rfl rfl Tryz.underlying9 st.hp (fun gr1 w1 (hp:Hp w1 [_]) hf hg1=>?_)))))));have st:St [] w1 [_] []:=st.push hp hf hg1;have hg1:=Nat.le_trans hF.size hg1;have hF:=hF.step0 hf;refine Ln k3 (bn (lp (fun q E W=> ∃(pgr1:Int),E= [(1,f1),(2,.bool truth),(10,.pointer (some ⟨gr1,0,none⟩))]∧jq q (fun m=>(cP s f truth m pgr1=cP s f truth (((s.length:Int)-(0:Int)).toNat+1) (0:Int)∧((s.length:Int)- pgr1).toNat<m)) (cP s f truth (((s.length:Int)-(0:Int)).toNat+1) (0:Int)= .inr (pgr1))∧(0≤pgr1)∧St [] W [(some gr1,Obj.stringIter ⟨s.toArray⟩ pgr1.toNat)] []∧Fr ([]) w W) (((s.length:Int)-(0:Int)).toNat+1) [(1,_),(2,_),(10,_)] ⟨rfl,rfl,rfl,trivial⟩ ⟨_,rfl,⟨rfl,Nat.lt_succ_self _⟩,by first|omega|(simp;done)|(simp;omega),st,hF⟩ k2 ?_ fun hout1=>?_))
 ·rintro E w2 ⟨pgr1,rfl,hLk1,hinv,st,hF⟩;unfold jq at hLk1;dsimp only at hLk1;refine sq fun _ k4=>rg (dr rfl (Ln k4 (wR (fR (gV rfl rfl) ?_))));unfold iC;rewrite[hLk1];(try dsimp only);exact⟨rfl,hF⟩
 rintro m E w3 ⟨pgr1,rfl,⟨hL1,hmu⟩,hinv,st,hF⟩;obtain⟨fuel,rfl⟩: ∃q,m=q+1:=⟨m - 1,by omega⟩;refine sq fun _ k5=>rg ?_;have hdw1:=pn s pgr1;refine DO (fP rfl) (Ds (ir:=0) (s:=s) (pos:=pgr1) rfl rfl rfl rfl st.hp rfl (by omega) (fun hc1=>?_) (fun w4 hc1 (hp:Hp w4 [_]) hf=>?_))
 ·refine Lx rfl (Ln k5 (sq fun _ k6=>gA rfl (eQ (iU (iU (gT (ck (?_))))))));exact hout1 _ [(1,_),(2,_),(10,_)] _ ⟨rfl,rfl,rfl,trivial⟩ ⟨pgr1,rfl,show _=_ from by rewrite[←hL1,cP];rewrite[if_neg hc1];rfl,by first|omega|(simp;done)|(simp;omega),(st.pk [0] (by decide)).pickK [],hF⟩
 have st:St [] w4 [_] []:=st.set (i:=0) rfl hp hf;have st:St [] w4 [_] []:=st;have hF:=hF.step hf (by intro y hy;simp only[List.mem_cons,List.not_mem_nil,or_false]at hy;subst hy;first|(exact Or.inr (by omega))|(exact Or.inl (Pe _ _))|(exact Or.inl (by simp)));refine Lx rfl (Ln k5 (sq fun _ k7=>fe rfl (sk k7 (bn (sq fun _ k8=>rg (Lx rfl (Lx rfl (dr rfl (dr rfl (Ln k8 (sq fun _ k9=>rg (Lm rfl (Lm rfl (La rfl (O6 st hF rfl (z1 _ (xG s pgr1) hF (CX s pgr1)) fun w5 st hF=>Lm rfl (Ly rfl (Fi rfl rfl rfl Tryz.underlying4) (Ln k9 (cE rfl (fun hc2=>?_) (fun hc2=>?_)))))))))))))))))))
 ·refine sq fun _ wt=>rg (Lm rfl (dr rfl (Ln wt (wR (tO (jn (tO (jn (fR (gV rfl rfl) ?_)))))))));have hret1:cP s f truth (((s.length:Int)-(0:Int)).toNat+1) (0:Int)= .inl pgr1:=by rewrite[←hL1,cP];rewrite[if_pos hc1,if_pos hc2];rfl
  have he2:iC s f truth=pgr1:=by unfold iC;rewrite[hret1];(try dsimp only);all_goals rfl
  rewrite[he2];exact⟨rfl,hF⟩
 refine dt (kX (ck (?_)));exact⟨fuel,[(1,_),(2,_),(10,_)],Nat.lt_succ_self _,⟨rfl,rfl,rfl,trivial⟩,(pgr1+rT s pgr1),rfl,⟨by rewrite[←hL1,cP];rewrite[if_pos hc1,if_neg hc2];rfl,by first|omega|(simp;done)|(simp;omega)⟩,by first|omega|(simp;done)|(simp;omega),(st.pk [0] (by decide)).pickK [],hF⟩
def iE(s:List UInt8)(f:Int→Bool):Int:=
 iC s f true
theorem xp(w:World)(s:List UInt8)(f1:Value)(f:Int→Bool)(z1: ∀(w1:World) (x0:Int),Fr ([]) w w1→0≤x0∧x0≤1114111→po Tryz.prog f1 [.int .i32 x0] w1 fun v w2=>v= .bool (f x0)∧Fr [] w1 w2):
  Fn Tryz.prog 105 [sv s,f1] w fun v w'=>v= .int .i64 (iE s f)∧Fr [] w w':=by
 refine io 8 (by kernel_rfl) Tryz.func105 rfl rfl rfl ?_;dsimp only[bQ];have st:=Du (X:= []) (w:=w) (by simp[Lo]);have hF:=Fr.refl ([]) w;refine sq fun _ k1=>rg (dr rfl (Ln k1 (sq fun _ k2=>rg (Lm rfl (Lm rfl (La rfl (QI st hF rfl (xn _ s f1 f true (fun w1 x0 hw hr=>z1 w1 x0 (hF.step0 hw) hr)) fun w1 st hF=>dr rfl (Ln k2 (wR (fR (gV rfl rfl) ?_))))))))));unfold iE;exact⟨rfl,hF⟩
section
variable {U:bG}
def wn(U:bG):aW U:=⟨[.d .str,.f1 (.int .i32)],fun xs es K=> ∃(s:List UInt8) (g:Int→Bool),xs= [⟨false,[(1,.d .str s)]⟩,⟨false,[(1,.f1 (.int .i32) g)]⟩]∧es= []∧K (.v ⟨false,[(1,.d (.int .i64) (iE s g))]⟩) []⟩
theorem qs(s:List UInt8)(f:Int→Bool)(truth:Bool): ∀(fuel:Nat) (p:Int),0≤p→(∃q,cP s f truth fuel p= .inl q∧0≤q∧q<s.length)∨ ∃q,cP s f truth fuel p= .inr q
 |0,p,h=> .inr ⟨p,rfl⟩
 |fuel+1,p,h=>by
  unfold cP;split
  ·split
   ·exact .inl ⟨p,rfl,h,by omega⟩
   ·have:=pn s p;exact qs s f truth fuel _ (by omega)
  ·exact .inr ⟨_,rfl⟩
theorem zw:bi Tryz.prog U 105 (wn U):=fun [F:am] hpr X w ρ es0 xs vs K M hv hrun=>by
 obtain⟨s,g,rfl,rfl,hK⟩:=hrun;obtain⟨v,us,rfl,ha,v2,us2,rfl,hb,h3⟩:=hv;rw[show us2= []from h3];obtain⟨e1,hsl⟩:=aC.inv (show aC U _ _ .str s [v]from(bI.one1 ha).1);injection e1 with e1;subst e1;obtain⟨u',e,hv⟩:=(show Vw U X w ρ 0 (ax 0 []) (.f1 (.int .i32) g) [v2]from(bI.one1 hb).1);injection e with e;subst e;refine Fn.mono (xp w s _ g (fun w1 x0 hf hx=>?_)) ?_
 ·have mv:Mv (af ρ (ax 0 ([]:List (aJ U)))++X) (· =w) (af ρ (ax 0 ([]:List (aJ U)))++X) (· =w1):=Q7 hf;have h1:=xZ.call (U:=U) (a:= .int .i32) (v:= .int .i32 x0) (t:=(x0:Int)) (hv.mv mv) M.gY (aC.int .i32 x0 ⟨by omega,by omega⟩) rfl;rw[hpr]at h1;exact h1
 ·rintro v w' ⟨rfl,hf'⟩;have hr:dq .i64 (iE s g):=by
   unfold iE iC;rcases qs s g true (((s.length:Int)-(0:Int)).toNat+1) 0 (by omega)with⟨q,e,h1,h2⟩|⟨q,e⟩
   ·rw[e];exact⟨by simp only;omega,by simp only;omega⟩
   ·rw[e];exact(show dq .i64 (-1)from⟨by decide,by decide⟩)
  exact⟨_,_,ρ,hK,gu (aC.int .i64 _ hr),(M.keep0 hf').1,(M.keep0 hf').2⟩
end
end Go.Proofs.YtmpeiadlohbikaaGreatDoor.V
end

section
set_option linter.unusedVariables false
set_option linter.unusedSimpArgs false
namespace Go.Proofs.YtmpeiadlohbikaaGreatDoor.V
open Go.RowKit Go.Shelf Go.Lib Go.Sort
theorem eY.perm{α:Type}{l l':List α}{g:α→α→Int}(h:eY l g)(hp:l'.Perm l):eY l' g:=⟨h.1,fun x hx y hy=>h.2 x (hp.mem_iff.1 hx) y (hp.mem_iff.1 hy)⟩
theorem oV{α:Type}{l l':List α}{g:α→α→Int}(h:eY l g)(hp:l'.Perm l):be g l'=be g l:=by
 have tr: ∀a b c:α,(!(ltOf g) b a)=true→(!(ltOf g) c b)=true→(!(ltOf g) c a)=true:=fun a b c h1 h2=>by
  simp only[Bool.not_eq_true']at*;exact h.1.3 c b a h2 h1
 have tot: ∀a b:α,((!(ltOf g) b a)||(!(ltOf g) a b))=true:=fun a b=>by
  cases h1:ltOf g b a with
  |false=>rfl
  |true=>
   cases h2:ltOf g a b with
   |false=>rfl
   |true=>have:=h.1.2 _ _ _ h1 h2;rw[h.1.1]at this;cases this
 have p1:(be g l').Perm l':=List.mergeSort_perm _ _;have p2:(be g l).Perm l:=List.mergeSort_perm _ _;have s1:=List.pairwise_mergeSort (le:=fun x y=>!(ltOf g) y x) tr tot l';have s2:=List.pairwise_mergeSort (le:=fun x y=>!(ltOf g) y x) tr tot l;refine List.Perm.eq_of_pairwise (le:=fun x y=>(!(ltOf g) y x)=true) (fun a b ha hb h1 h2=>?_) s1 s2 ((p1.trans hp).trans p2.symm);simp only[Bool.not_eq_true']at h1 h2;exact h.2 a (hp.mem_iff.1 (p1.mem_iff.1 ha)) b (p2.mem_iff.1 hb) h2 h1
end Go.Proofs.YtmpeiadlohbikaaGreatDoor.V
end

section
set_option linter.unusedVariables false
set_option maxRecDepth 20000
namespace Go.Proofs.YtmpeiadlohbikaaGreatDoor.V
open Go.RowKit Go.Shelf Go.Sort
def SH:aW U:=oS U (.st 4) 61
theorem OB:bi Tryz.prog U 79 SH:=oa (s:=(.st 4)) (fn:=Tryz.f79) (ρf:=fun n=>n) (ρt:=fun n=>n) (by kernel_rfl) Tryz.func79 (by kernel_rfl) rfl rfl (by kernel_rfl) Tryz.underlying3 (by kernel_rfl) (by kernel_rfl) kR ⟨_,rfl⟩ (by decide) (by decide) (by decide)
def SI:aW U:=oS U (.st 10) 128
theorem OC:bi Tryz.prog U 78 SI:=oa (s:=(.st 10)) (fn:=Tryz.f78) (ρf:=fun n=>n) (ρt:=fun|36=>35|n=>n) (by kernel_rfl) Tryz.func78 (by kernel_rfl) rfl rfl (by kernel_rfl) Tryz.underlying3 (by kernel_rfl) (by kernel_rfl) kh ⟨_,rfl⟩ (by decide) (by decide) (by decide)
def SJ:aW U:=oS U (.st 5) 133
theorem MN:bi Tryz.prog U 80 SJ:=oa (s:=(.st 5)) (fn:=Tryz.f80) (ρf:=fun n=>n) (ρt:=fun|36=>39|n=>n) (by kernel_rfl) Tryz.func80 (by kernel_rfl) rfl rfl (by kernel_rfl) Tryz.underlying3 (by kernel_rfl) (by kernel_rfl) ki ⟨_,rfl⟩ (by decide) (by decide) (by decide)
def OD:aW U:=oS U (.st 3) 70
theorem OE:bi Tryz.prog U 109 OD:=oa (s:=(.st 3)) (fn:=Tryz.f109) (ρf:=fun n=>n) (ρt:=fun|36=>26|n=>n) (by kernel_rfl) Tryz.func109 (by kernel_rfl) rfl rfl (by kernel_rfl) Tryz.underlying3 (by kernel_rfl) (by kernel_rfl) kQ ⟨_,rfl⟩ (by decide) (by decide) (by decide)
def SK:aW U:=ry U (.st 4) 61
theorem Qy:bi Tryz.prog U 90 SK:=td (fg:=Tryz.f153) (s:=(.st 4)) (fn:=Tryz.f90) (ρf:=fun n=>n) (ρt:=fun n=>n) (by kernel_rfl) Tryz.func90 (by kernel_rfl) rfl rfl (by kernel_rfl) Tryz.func153 (by kernel_rfl) rfl rfl (by kernel_rfl) Tryz.underlying3 (by kernel_rfl) (by kernel_rfl) (by kernel_rfl) (by kernel_rfl) (by kernel_rfl) kR ⟨_,rfl⟩ (by decide) (by decide) (by decide)
def SL:aW U:=rC U (.st 10) 128
theorem SM:bi Tryz.prog U 89 SL:=tf (fo:=Tryz.f151) (s:=(.st 10)) (fn:=Tryz.f89) (ρf:=fun n=>n) (ρt:=fun n=>n) (by kernel_rfl) Tryz.func89 (by kernel_rfl) rfl rfl (by kernel_rfl) Tryz.underlying3 (by kernel_rfl) (by kernel_rfl) Tryz.func151 (by kernel_rfl) (by kernel_rfl) (by kernel_rfl) (by kernel_rfl) kh ⟨_,rfl⟩ (by decide) (by decide) (by decide)
def OF:aW U:=rC U (.st 5) 133
theorem OG:bi Tryz.prog U 101 OF:=tf (fo:=Tryz.f157) (s:=(.st 5)) (fn:=Tryz.f101) (ρf:=fun|151=>157|152=>158|n=>n) (ρt:=fun|35=>39|n=>n) (by kernel_rfl) Tryz.func101 (by kernel_rfl) rfl rfl (by kernel_rfl) Tryz.underlying3 (by kernel_rfl) (by kernel_rfl) Tryz.func157 (by kernel_rfl) (by kernel_rfl) (by kernel_rfl) (by kernel_rfl) ki ⟨_,rfl⟩ (by decide) (by decide) (by decide)
def OH:aW U:=rz U (.st 4)
theorem OJ:bi Tryz.prog U 149 OH:=rB (s:=(.st 4)) (fn:=Tryz.f149) (ρf:=fun n=>n) (ρt:=fun|35=>36|198=>115|128=>61|n=>n) (by kernel_rfl) Tryz.func149 (by kernel_rfl) rfl rfl (by kernel_rfl) Tryz.underlying3 rfl (by kernel_rfl) (by kernel_rfl) rfl (by kernel_rfl) (by kernel_rfl) kR ⟨_,rfl⟩ (by decide) (by decide) (by decide)
def OK:aW U:=rz U (.st 10)
theorem OL:bi Tryz.prog U 155 OK:=rB (s:=(.st 10)) (fn:=Tryz.f155) (ρf:=fun n=>n) (ρt:=fun n=>n) (by kernel_rfl) Tryz.func155 (by kernel_rfl) rfl rfl (by kernel_rfl) Tryz.underlying3 rfl (by kernel_rfl) (by kernel_rfl) rfl (by kernel_rfl) (by kernel_rfl) kh ⟨_,rfl⟩ (by decide) (by decide) (by decide)
def OM:aW U:=rz U (.st 3)
theorem ON:bi Tryz.prog U 122 OM:=rB (s:=(.st 3)) (fn:=Tryz.f122) (ρf:=fun n=>n) (ρt:=fun|35=>26|198=>154|128=>70|n=>n) (by kernel_rfl) Tryz.func122 (by kernel_rfl) rfl rfl (by kernel_rfl) Tryz.underlying3 rfl (by kernel_rfl) (by kernel_rfl) rfl (by kernel_rfl) (by kernel_rfl) kQ ⟨_,rfl⟩ (by decide) (by decide) (by decide)
def SN:aW U:=oc U (.st 10) 128
theorem SO:bi Tryz.prog U 93 SN:=oT (fx:=Tryz.f155) (s:=(.st 10)) (fn:=Tryz.f93) (ρf:=fun n=>n) (ρt:=fun n=>n) (by kernel_rfl) Tryz.func93 (by kernel_rfl) rfl rfl (by kernel_rfl) Tryz.func155 (by kernel_rfl) rfl rfl (by kernel_rfl) Tryz.underlying3 rfl (by kernel_rfl) (by kernel_rfl) rfl (by kernel_rfl) (by kernel_rfl) kh ⟨_,rfl⟩ (by decide) (by decide) (by decide)
def OO:aW U:=oc U (.st 5) 133
theorem JT:bi Tryz.prog U 102 OO:=oT (fx:=Tryz.f159) (s:=(.st 5)) (fn:=Tryz.f102) (ρf:=fun|155=>159|n=>n) (ρt:=fun|35=>39|198=>205|128=>133|n=>n) (by kernel_rfl) Tryz.func102 (by kernel_rfl) rfl rfl (by kernel_rfl) Tryz.func159 (by kernel_rfl) rfl rfl (by kernel_rfl) Tryz.underlying3 rfl (by kernel_rfl) (by kernel_rfl) rfl (by kernel_rfl) (by kernel_rfl) ki ⟨_,rfl⟩ (by decide) (by decide) (by decide)
def OP:aW U:=oc U (.st 3) 70
theorem OQ:bi Tryz.prog U 108 OP:=oT (fx:=Tryz.f122) (s:=(.st 3)) (fn:=Tryz.f108) (ρf:=fun|155=>122|n=>n) (ρt:=fun|35=>26|198=>154|128=>70|n=>n) (by kernel_rfl) Tryz.func108 (by kernel_rfl) rfl rfl (by kernel_rfl) Tryz.func122 (by kernel_rfl) rfl rfl (by kernel_rfl) Tryz.underlying3 rfl (by kernel_rfl) (by kernel_rfl) rfl (by kernel_rfl) (by kernel_rfl) kQ ⟨_,rfl⟩ (by decide) (by decide) (by decide)
def Qz:DecidableEq (TT U.ty (.st 4)):=inferInstanceAs (DecidableEq az)
def SP:aW U:=tg U (.st 4) 61 Qz
theorem QA:bi Tryz.prog U 92 SP:=xm (s:=(.st 4)) (fn:=Tryz.f92) (ρf:=fun n=>n) (ρt:=fun n=>n) Qz (by kernel_rfl) Tryz.func92 (by kernel_rfl) rfl rfl (by kernel_rfl) Tryz.underlying3 (by kernel_rfl) (by kernel_rfl) rfl (by kernel_rfl) (by kernel_rfl) Lh kR ⟨_,rfl⟩ (by decide) (by decide) (by decide)
def OR:aW U:=qr U 9
theorem OS:bi Tryz.prog U 119 OR:=uL (fn:=Tryz.f119) (ρf:=fun n=>n) (ρt:=fun|36=>25|61=>9|n=>n) (by kernel_rfl) Tryz.func119 (by kernel_rfl) rfl rfl (by kernel_rfl) Tryz.underlying3 rfl (by kernel_rfl) (by kernel_rfl) (by kernel_rfl) (by kernel_rfl) (by kernel_rfl)
def SQ:aW U:=zq U (.st 4) 61
theorem QB:bi Tryz.prog U 91 SQ:=zr (s:=(.st 4)) (ρs:=Tryz.laysSortTag_ren) Tryz.laysSortTag (by kernel_rfl) rfl (by kernel_rfl) (by kernel_rfl) kR ⟨_,rfl⟩ (by decide) (fun _ _ _ _ _ h h'=>(xU h).trans (xU h').symm)
def SR:aW U:=zq U (.st 6) 144
theorem QC:bi Tryz.prog U 46 SR:=zr (s:=(.st 6)) (ρs:=Tryz.laysSortItem_ren) Tryz.laysSortItem (by kernel_rfl) rfl (by kernel_rfl) (by kernel_rfl) uc ⟨_,rfl⟩ (by decide) (fun _ _ _ _ _ h h'=>(xV h).trans (xV h').symm)
def OT:aW U:=zt U 9
theorem OU:bi Tryz.prog U 118 OT:=CV (by kernel_rfl) (fun blk cap ss w h1 h2 h3=>Tryz.slices_Sort_string blk 0 cap ss w h1 h2 h3) Tryz.slices_Sort_string_none
def OV:aW U:=zu U
theorem OW:bi Tryz.prog U 104 OV:=CW (by kernel_rfl) Tryz.strings_Split
def OX:aW U:=wn U
theorem OY:bi Tryz.prog U 105 OX:=zw
end Go.Proofs.YtmpeiadlohbikaaGreatDoor.V
end

section
set_option linter.unusedVariables false
namespace Go.Proofs.YtmpeiadlohbikaaGreatDoor.V
open Go.RowKit
section
variable {U:bG}
theorem wI{α:Type}{f x y:α}{b:Bool}{P:Prop} [Decidable P]{A B:Prop}(hf:f=if P then x else y)(h1:P→f=x→A)(h2: ¬P→f=y→B)(hb:b=true↔P:=by repeat (first|exact iD|exact iB|apply iA|apply iO|apply iN|apply iP)):xY b A B:=vI hf hb h1 h2
theorem wN{α:Type}{f x y:α}{b:Bool}{P:Prop} [Decidable P]{A B:Prop}(hf:f=if P then x else y)(h1: ¬P→f=y→A)(h2:P→f=x→B)(hb:b=true↔ ¬P:=by repeat (first|exact iD|exact iB|apply iN|apply iA|apply iO|apply iP)):xY b A B:=vN hf hb h1 h2
theorem vs{P A:Prop}(a:A)(p:P:=by first|omega|(simp only[List.length_append,List.length_cons,List.length_nil];omega)):VS P A:=⟨p,a⟩
theorem vx{α:Type}(i:Int)(l:List α){A:Prop}(a:A)(p:0≤i∧i<(l.length:Int):=by omega):VS (0≤i∧i<(l.length:Int)) A:=⟨p,a⟩
theorem fZ{p q r:Int}{A B:Prop}(a:A)(h: -9223372036854775808≤p→p≤9223372036854775807→ -9223372036854775808≤q→q≤9223372036854775807→ -9223372036854775808≤r∧r≤9223372036854775807:=by first|omega|(simp only[List.length_append,List.length_cons,List.length_nil];omega)):Mw (dq .i64 p→dq .i64 q→dq .i64 r) A B:= .inl ⟨i6 h,a⟩
theorem fl{k:IntKind}{x:Int}{A:Prop}(h:x≤9223372036854775807→A)(hk:k= .i64:=by rfl):dq k x→A:=fun q=>h (by subst hk;exact q.2)
theorem lI{σ β:Type}{b n:Nat}{a:En U→Nat→Hs U→KO U→Prop}{e:En U}{H:Hs U}{K:KO U}(N:Nat)(E:σ→En U)(M:σ→Hs U)(μ:σ→Nat)(inv:σ→Prop)(L:Nat→σ→β)(X:β)(φ:List (Nat×Nat))(s0:σ)
  (k: ∀s,aS μ inv L X s→a (E s) N (M s) fun o e' n' H'=>match o with
   | .n=> ∃φ s',μ s'<μ s∧aS μ inv L X s'∧MB b N φ n' e' H' (E s') (M s')
   |o=>K o e' n' H')
  (hi:inv s0:=by((try dsimp only);repeat' apply And.intro)<;>first|trivial|omega|assumption|(simp only[List.length_append,List.length_cons,List.length_nil];omega)|(simp;omega)|(intro h;simp at h;omega)|simp)
  (hX:X=L (μ s0+1) s0:=by rfl) (hle:MB b N φ n e H (E s0) (M s0):=by repeat (first|exact trivial|refine And.intro rfl ?_)):yC b a e n H K:=
 ⟨σ,N,E,M,aS μ inv L X,μ,⟨φ,s0,aS.mk0 _ (Nat.lt_succ_self _) hi hX,hle⟩,k⟩
theorem nx{σ β:Type}{μ:σ→Nat}{inv:σ→Prop}{L:Nat→σ→β}{X:β}{s:σ}{c:Nat}{LE:List (Nat×Nat)→σ→Prop}(φ:List (Nat×Nat))(s':σ)(hc:μ s<c+1)(hX:X=L c s')
  (hm:μ s'<μ s:=by(try dsimp only);omega)
  (hi:inv s':=by((try dsimp only);repeat' apply And.intro)<;>first|trivial|omega|assumption|(simp only[List.length_append,List.length_cons,List.length_nil];omega)|(simp;omega)|(intro h;simp at h;omega)|simp)
  (hle:LE φ s':=by repeat (first|exact trivial|refine And.intro rfl ?_)): ∃φ s',μ s'<μ s∧aS μ inv L X s'∧LE φ s':=⟨φ,s',hm,aS.next hc hm hi hX,hle⟩
theorem dp{T:cM U}{G:cR U}{b n:Nat}{ops:Array Oper}{e:En U}{H:Hs U}{K:KS U}(pl:List (Bool×Nat))(f:Option Nat)(mk:List Nat)(k:vK T G ops.toList mk (li T G ops.toList f) pl e n H [] [] K)(h:uu ops f pl=true:=by kernel_rfl):vM T G b ops e n H K:= .inl ⟨pl,f,mk,h,k⟩
def up(n:Nat):List (Bool×Nat):=Nat.rec (motive:=fun _=>Nat→List (Bool×Nat)) (fun _=> []) (fun _ ih i=>(true,i)::ih (i+1)) n 0
def nw(i:Nat):List Nat:= [i,i+1,i+2,i+3,i+4,i+5,i+6,i+7,i+8,i+9,i+10,i+11]
theorem e0{A:Prop}(a:A:=by rw[hf0]at h;exact h):A:=a
theorem e1{A:Prop}(a:A:=by rw[hf1]at hf0;rw[hf0]at h;exact h):A:=a
theorem e2{A:Prop}(a:A:=by rw[hf2]at hf1;rw[hf1]at hf0;rw[hf0]at h;exact h):A:=a
theorem bi.mono{P:Program}{f:FuncId}{c c':aW U}(h:bi P U f c)(hm: ∀xs es K,c'.run xs es K→c.run xs es K):bi P U f c':=fun [F:am] hpr X w ρ es xs vs K M hv hr=>h hpr X w ρ es xs vs K M hv (hm _ _ _ hr)
abbrev vi(x:Int):Va U:=⟨false,[(1,.d (.int .i64) x)]⟩
abbrev vb(x:Bool):Va U:=⟨false,[(1,.d .bool x)]⟩
abbrev vt(x:List UInt8):Va U:=⟨false,[(1,.d .str x)]⟩
abbrev vp(i:Nat):Va U:=⟨false,[(1,.ptr i 0)]⟩
abbrev vo(i:Nat):Va U:=⟨false,[(1,.own i 0)]⟩
end
end Go.Proofs.YtmpeiadlohbikaaGreatDoor.V
end

section
set_option linter.unusedVariables false
namespace Go.Proofs.YtmpeiadlohbikaaGreatDoor.V
open Go.RowKit
theorem fo{f:FuncId}{c:aW U}{G:cR U}(fn:Func)(md:List Md)(em:List (Nat×List (Nat×Option aZ)))(hG:bl Tryz.prog U G)(h: ∀xs es K,c.run xs es K→Nat.ble xs.length fn.ntmps=true∧GM QZ G fn md em (m9 0 xs) es.length (ax 0 es) K)
  (h1:(aA Tryz.prog f&&match fn.body with|some c=>p3 fn.ntmps c|none=>false)=true:=by kernel_rfl) (h2:Tryz.prog.funcs[f]? =some fn:=by kernel_rfl):bi Tryz.prog U f c:=by
 rw[Bool.and_eq_true]at h1;cases hb:fn.body with
 |none=>rw[hb]at h1;cases h1.2
 |some c=>exact dz (fn:=fn) hG bT (by kernel_rfl) fn.ntmps md em h1.1 h2 hb rfl (by have:=h1.2;rw[hb]at this;exact this) h
abbrev Fk(f:FuncId)(c:aW U):Prop:=bi Tryz.prog U f c
abbrev vm(x:TT U.ty (.st 15)):Va U:=⟨true,[(10,.d (.st 15) x)]⟩
abbrev iy(x:TT U.ty (.arr 8 (.int .u32))):Va U:=⟨true,[(8,.d (.arr 8 (.int .u32)) x)]⟩
abbrev vw(x:TT U.ty (.int .u32)):Va U:=⟨false,[(1,.d (.int .u32) x)]⟩
abbrev IT(x:TT U.ty (.st 16)):Va U:=⟨true,[(9,.d (.st 16) x)]⟩
abbrev MQ(x:TT U.ty (.st 1)):Va U:=⟨true,[(3,.d (.st 1) x)]⟩
abbrev Bz(x:TT U.ty (.st 3)):Va U:=⟨true,[(17,.d (.st 3) x)]⟩
abbrev EM(x:TT U.ty (.st 0)):Va U:=⟨true,[(2,.d (.st 0) x)]⟩
abbrev nX(x:TT U.ty (.sl (.st 4))):Va U:=⟨false,[(1,.d (.sl (.st 4)) x)]⟩
abbrev x8(x:TT U.ty (.st 4)):Va U:=⟨true,[(3,.d (.st 4) x)]⟩
abbrev sf(x:TT U.ty (.st 12)):Va U:=⟨true,[(2,.d (.st 12) x)]⟩
abbrev xW(x:TT U.ty (.sl (.st 3))):Va U:=⟨false,[(1,.d (.sl (.st 3)) x)]⟩
abbrev ue(x:TT U.ty (.st 11)):Va U:=⟨true,[(2,.d (.st 11) x)]⟩
abbrev vn(x:TT U.ty (.st 10)):Va U:=⟨true,[(4,.d (.st 10) x)]⟩
abbrev qN(x:TT U.ty (.sl (.st 10))):Va U:=⟨false,[(1,.d (.sl (.st 10)) x)]⟩
abbrev I4(x:TT U.ty (.st 7)):Va U:=⟨true,[(3,.d (.st 7) x)]⟩
abbrev I5(x:TT U.ty (.sl (.int .i64))):Va U:=⟨false,[(1,.d (.sl (.int .i64)) x)]⟩
abbrev I6(x:TT U.ty (.st 2)):Va U:=⟨true,[(2,.d (.st 2) x)]⟩
abbrev I7(x:TT U.ty (.st 5)):Va U:=⟨true,[(7,.d (.st 5) x)]⟩
abbrev BA(x:TT U.ty (.sl (.st 6))):Va U:=⟨false,[(1,.d (.sl (.st 6)) x)]⟩
abbrev BB(x:TT U.ty (.st 13)):Va U:=⟨true,[(3,.d (.st 13) x)]⟩
abbrev EN(x:TT U.ty (.sl (.st 5))):Va U:=⟨false,[(1,.d (.sl (.st 5)) x)]⟩
abbrev EO(x:TT U.ty (.st 14)):Va U:=⟨true,[(2,.d (.st 14) x)]⟩
abbrev MR(x:TT U.ty (.st 6)):Va U:=⟨true,[(2,.d (.st 6) x)]⟩
abbrev IU(x:TT U.ty (.sl .str)):Va U:=⟨false,[(1,.d (.sl .str) x)]⟩
end Go.Proofs.YtmpeiadlohbikaaGreatDoor.V
end

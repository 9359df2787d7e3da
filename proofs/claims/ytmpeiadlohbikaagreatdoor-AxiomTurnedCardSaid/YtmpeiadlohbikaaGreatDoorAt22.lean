/- axiom.must: returns, or panics with what was broken (seat of round rs). -/
import Derived.Test.YtmpeiadlohbikaaGreatDoorAt16
import Derived.Test.YtmpeiadlohbikaaGreatDoorAt17
import Derived.Test.YtmpeiadlohbikaaGreatDoorAt21
import Derived.Test.YtmpeiadlohbikaaGreatDoorAt1
import Derived.Test.YtmpeiadlohbikaaGreatDoorAt3
import Derived.Test.YtmpeiadlohbikaaGreatDoorAt18
import Derived.Test.YtmpeiadlohbikaaGreatDoorAt8
import Derived.Defers
import Derived.Test.YtmpeiadlohbikaaGreatDoorAt12
import Derived.Test.YtmpeiadlohbikaaGreatDoorAt14
import Derived.Laws.Build
import Derived.Stop.Asserts
import Derived.Test.YtmpeiadlohbikaaGreatDoorProg
import Derived.Tactics
import Derived.Tactics2
import Derived.Recover
import Derived.Laws.Pointers
import Derived.Test.YtmpeiadlohbikaaGreatDoorAt13
section
set_option linter.unusedVariables false
set_option linter.unusedSimpArgs false
namespace Go.Proofs.YtmpeiadlohbikaaGreatDoor.V
open Go.RowKit Go.Shelf Go.Lib Go.Sort
theorem D9{P:Program}{f m et:Nat}{fn:Go.Func}{ρf ρt:Nat→Nat}(hen:aF P f=true)(hf:P.funcs[f]? =some fn)(hb:fn.body=some (eM ρf ρt (cU Tryz.f127)))(hn:fn.ntmps=16)(hr0:fn.results= #[])
  {α:Type} [Inhabited α] {cs:α→List Value} {z:List Value} (pl:dG P (ρt 91)=true) (es:aq P (ρt 91)=some (ρt 110,m)) (un:P.underlying (ρt 91)=some (.slice et)) (ag:ba P (ρt 110)=some m) (sz:(P.info? (ρt 110)).map (·.size)=some m) (zc:zeroCells P (ρt 110)=some z) (hz:z.length=m)
  (hcs: ∀x,(cs x).length=m) (hm0:0<m) (h1: ∀x,∀v∈cs x,v.oneCell'=true) {X:List Nat} {w:World} {A:Option Addr} {c gs:Nat} {ls:List α} (hS:hZ X w A ls.length c m (ls.flatMap cs)) (hgs:w.heap[gs]? =some (Cl [.slice A ls.length c] (ρt 91)))
  (l:Nat) (W0:World) (hf0:Fr [] w W0) (Q:World→Prop) (J:List α→World→Prop) (h0:J [] W0) (hst: ∀xs W W',J xs W→Fr [] W W'→J xs W')
  (hy: ∀xs x W,(∃ys,xs++x::ys=ls)→J xs W→ni P l [.agg (cs x).toArray] W (fun W'=>J (xs++ [x]) W'∧ ∃O,Fr O W W'∧ ∀o∈O,w.heap.size≤o) (fun _=>False)) (hQ: ∀W,J ls W→Q W):
  Fn P f [.func (.yield l) #[] #[],.pointer (some ⟨gs,0,none⟩)] W0 fun _ W'=>Q W':=by
 refine iE 16 hen hf hb hn rfl ?_;dsimp only[bS];have CK:Hp W0 [(some gs,Cl [.slice A ls.length c] (ρt 91))]:=(Hp.one1 hgs).keep0 hf0;refine sq fun _ k1=>rg (Ly rfl (th (i:=0) rfl rfl pl (fun _ e=>e▸CK) rfl rfl) (Ly rfl (tx rfl un) (Lm rfl (Ln k1 (bv ?_)))));refine uK (fun k e W=> ∃(q:Nat),k=ls.length - q∧q≤ls.length∧e= [(0,.func (.yield l) #[] #[]),(5,.slice A ls.length c),(6,.int .i64 (ls.length:Int)),(7,.int .i64 (q:Int))]∧J (ls.take q) W∧Fr [] w W) (ls.length) [(0,_),(5,_),(6,_),(7,_)] ⟨rfl,rfl,rfl,rfl,trivial⟩ ⟨0,rfl,Nat.zero_le _,rfl,h0,hf0⟩ ?_;rintro k e W ⟨q,rfl,hq,rfl,hj,hF⟩;have hS1:=hS.stable (hF.mono (by simp)) (Y:=X) (fun y hy=> .inl hy);have hle:=hS1.le;refine sq fun _ k2=>rg (Ly rfl (y7 rfl) (Ln k2 (sq fun _ k3=>cD rfl (fun hc=>?_) (fun hc=>?_))))
 ·have hql:q<ls.length:=by omega
  refine sk k3 (sq fun _ k4=>bv (sq fun _ k5=>rg ?_));obtain⟨g,b,rfl⟩:=hS1.addr hcs hm0 (q:=(q:Int)) (by omega) (by omega);refine Ly rfl (fG (q:=(q:Int)) rfl rfl rfl es (by omega) (by omega)) ?_;refine Ly rfl (oA (q:=(q:Int)) rfl rfl ag (fun _ e=>e▸hS1) hcs (by omega) (by omega)) ?_;refine La rfl (o5 rfl rfl rfl zc (Hp.nil W) fun g3 W2 hp3 hf2 hg3=>?_);have hp3:Hp W2 [(_,Cl _ _)]:=hp3;refine La rfl (qn (i:=0) rfl rfl rfl rfl sz (hcs _) (h1 _) hp3 rfl (by rw[hz,hcs]) fun W3 hp4 hf3 _=>?_);have hp4:Hp W3 [(_,Cl (cs (ix ls (q:Int))) _)]:=hp4;have hf4:Fr [] W W3:=hf2.step hf3 (by simp;exact hg3);have hj:=hst _ _ _ hj hf4;refine Ln k5 (sq fun _ k6=>rg (Lm rfl (Ly rfl (tl (i:=0) rfl rfl ag (fun _ e=>e▸hp4) rfl (hcs _)) ?_)));have hix:ix ls (q:Int)=ls[q]:=by unfold ix;simp[List.getElem?_eq_getElem hql]
  have hyl:=hy (ls.take q) (ix ls (q:Int)) W3 ⟨ls.drop (q+1),by rw[hix];simp⟩ hj;have htk:ls.take q++ [ix ls (q:Int)]=ls.take (q+1):=by rw[hix];simp
  refine Bl (fN rfl) rfl rfl rfl rfl rfl hyl (fun W4 hT=>?_) (fun W4 hT=>hT.elim);obtain⟨hj,O,hfO,hgO⟩:=hT;rw[htk]at hj;refine Ly rfl (Bz rfl rfl) (Ln k6 (ib rfl (dW (lJ (cz (k4 _ _ (rg (Ly rfl (dH (c:=(q:Int)+1) rfl rfl rfl (bY (by omega))) ?_))))))));refine Lm rfl (cw (cz ?_));exact⟨ls.length -(q+1),[(0,_),(5,_),(6,_),(7,_)],by omega,⟨rfl,rfl,rfl,rfl,trivial⟩,q+1,rfl,by omega,rfl,hj,(hF.step0 hf4).step hfO (fun y hy=> .inr (hgO y hy))⟩
 ·refine fH (jt (jt (iy (fE (Jr hr0) ?_))));refine hQ _ ?_
  rwa [List.take_of_length_le (by omega)]at hj
def SW(P:Program)(gf:Nat)(lb:List Value)(w:World){α:Type}(enc:α→Value)(ok:List α→α→Prop)(KS:List α→Prop):Prop:=
 ∀(l:Nat) (W:World),Fr [] w W→ ∀(Q:List α→World→Prop) (J:List α→World→Prop),J [] W→(∀xs W1 W2,J xs W1→Fr [] W1 W2→J xs W2)→
  (∀xs x W1,ok xs x→J xs W1→ni P l [enc x] W1 (fun W2=>J (xs++ [x]) W2∧ ∃O,Fr O W1 W2∧ ∀o∈O,w.heap.size≤o) (fun _=>False))→(∀xs W1,KS xs→J xs W1→Q xs W1)→
  Fn P gf (.func (.yield l) #[] #[]::lb) W fun _ W'=> ∃xs,KS xs∧Q xs W'
theorem Ea{w:World}{H:bZ}(h:Hp w H)(o:Obj):Hp w (H++ [(none,o)]):=by
 have key: ∀(i g:Nat) (b:Obj),(H++ [(none,o)])[i]? =some (some g,b)→H[i]? =some (some g,b):=fun i g b hi=>by
  rw[List.getElem?_append]at hi;split at hi
  ·exact hi
  ·rename_i hlt;cases hk:i - H.length with
   |zero=>rw[hk]at hi;cases hi
   |succ k=>rw[hk]at hi;cases hi
 exact⟨fun i g b hi=>h.blk i g b (key i g b hi),fun i j g a b hi hj=>h.inj i j g a b (key i g a hi) (key j g b hj)⟩
theorem yr{P:Program}{f gf m by_:Nat}{fn:Go.Func}{ρf ρt:Nat→Nat}(hen:aF P f=true)(hf:P.funcs[f]? =some fn)(hb:fn.body=some (eM ρf ρt (cU Tryz.f175)))(hn:fn.ntmps=13)(hr0:fn.results= #[.tmp 4])(heg:aF P gf=true)
  {α:Type} {enc:α→Value} {cs:α→List Value} {z:List Value} (es:aq P (ρt 91)=some (ρt 110,m)) (plS:dG P (ρt 91)=true) (aG:(P.info? (ρt 91)).map (·.size)=some 1) (ag:ba P (ρt 110)=some m) (sz:(P.info? (ρt 110)).map (·.size)=some m) (zc:zeroCells P (ρt 110)=some z) (hz:z.length=m) (hby:(P.info? (ρt 110)).map (·.bytes)=some by_) (hbb:by_≤100000) (hm0:0<m) (hmB:m≤1000) (zcS:zeroCells P (ρt 91)=some [.slice none 0 0])
  (lb:List Value) (w:World) {ok:List α→α→Prop} {KS:List α→Prop} (hok: ∀xs x,ok xs x→xs.length+1≤1000000∧enc x= .agg (cs x).toArray∧(cs x).length=m∧ ∀v∈cs x,v.oneCell'=true) (hIt:SW P gf lb w enc ok KS):
  Fn P f [.slice none 0 0,.func (.func gf) #[] lb.toArray] w fun v w'=> ∃(xs:List α) (A:Option Addr) (c:Nat) (sp:List Value),KS xs∧v= .slice A xs.length c∧Ow A xs.length c m (xs.flatMap cs) sp∧(∀g,ab A=some g→w'.heap[g]? =some (Cl (xs.flatMap cs++sp) (ρt 110))∧w.heap.size≤g)∧Fr [] w w':=by
 refine Jp 13 hen hf hb hn rfl ?_;dsimp only[bS];refine wi (L0 fun K1 hK1=>?_);refine rg (La rfl (BA rfl rfl rfl rfl rfl (Hp.nil w) fun g2 w1 hp hf1 hg2=>?_));have hp:Hp w1 [(some g2,Cl [.slice none 0 0] (ρt 91))]:=hp;refine dV rfl (cw (cz (hK1 _ _ ?_)));refine wi (wi (L0 fun K2 hK2=>?_));refine rg (Lm rfl (cw (cz (hK2 _ _ ?_))));refine L3 (lb:=lb) rfl heg (fun c Dm l wL hc1 hc2 hc3 htm hF0 hDn hln hpush=>?_);have hp:Hp wL [(some g2,Cl [.slice none 0 0] (ρt 91)),(some Dm,.deferred (some [])),(some l,Lr c .ready none)]:=hpush _ hp;have hF:=hf1.step0 hF0;have hl0:w.heap.size≤l:=Nat.le_trans hf1.size hln;have hD0:w.heap.size≤Dm:=Nat.le_trans hf1.size hDn;have l0:=hp.lt (i:=0) rfl;have l1:=hp.lt (i:=1) rfl;have l2:=hp.lt (i:=2) rfl;refine(hIt l wL hF (fun xs W=> ∃(A:Option Addr) (c':Nat) (sp:List Value),Hp W [(some g2,Cl [.slice A xs.length c'] (ρt 91)),(some Dm,.deferred (some [])),(some l,Lr c .ready none),(ab A,Cl (xs.flatMap cs++sp) (ρt 110))]∧Ow A xs.length c' m (xs.flatMap cs) sp∧Fr [] w W∧ ∀g,ab A=some g→w.heap.size≤g) (fun xs W=> ∃(A:Option Addr) (c':Nat) (sp:List Value),Hp W [(some g2,Cl [.slice A xs.length c'] (ρt 91)),(some Dm,.deferred (some [])),(some l,Lr c .ready none),(ab A,Cl (xs.flatMap cs++sp) (ρt 110))]∧Ow A xs.length c' m (xs.flatMap cs) sp∧Fr [] w W∧(∀g,ab A=some g→w.heap.size≤g)) ?_ ?_ ?_ ?_).mono (fun _ W' hq=>?_)
 ·exact⟨none,0,[],Ea hp _,Ow.nil m,hF,fun g e=>(by cases e)⟩
 ·rintro xs W1 W2 ⟨A,c',sp,hp,how,hG,hA⟩ hf;exact⟨A,c',sp,hp.keep0 hf,how,hG.step hf (fun y hy=>by cases hy),hA⟩
 ·rintro xs x W1 hx ⟨A,c',sp,hp,how,hG,hA⟩;obtain⟨hN,hx1,hx2,hx3⟩:=hok xs x hx;rw[hx1];have hF:=Fr.refl ([l,g2]++(ab A).toList) W1;refine Bm [7] hc1 rfl rfl (hp.at (i:=2) rfl) htm (fun [inst:bB]=>?_);rw[hc2];dsimp only[td];refine rg (La rfl (o5 rfl rfl rfl zc hp fun g5 W2 hp hf2 hg5=>?_));have hp:Hp W2 [_,_,_,_,(some g5,Cl z (ρt 110))]:=hp;refine La rfl (qn (i:=4) rfl rfl rfl rfl sz hx2 hx3 hp rfl (by rw[hz,hx2]) fun W3 hp hf3 _=>?_);have hp:Hp W3 [_,_,_,_,(some g5,Cl (cs x) (ρt 110))]:=hp;have hF:=(hF.step0 hf2).step hf3 (fun y hy=> .inr (by simp at hy;subst hy;exact hg5));refine cw (cz ⟨_,2,hp,rfl,fun W4 hp hf4=>?_⟩);have hp:Hp W4 [(some g2,Cl [.slice A xs.length c'] (ρt 91)),_,(some l,Lr c .busy none),(ab A,Cl (xs.flatMap cs++sp) (ρt 110)),(some g5,Cl (cs x) (ρt 110))]:=hp;have hF:=hF.step hf4 (fun y hy=> .inl (by simp at hy;subst hy;simp));rw[hc3];refine bv ?_;refine rg (Ly rfl (th (i:=0) rfl rfl plS (fun _ e=>e▸hp) rfl rfl) (Ly rfl (tl (i:=4) rfl rfl ag (fun _ e=>e▸hp) rfl hx2) ?_));refine La rfl (I9 rfl rfl rfl rfl es zc hx2 hmB hp fun g6 W5 hp hf5 hg6=>?_);have hp:Hp W5 [(some g2,Cl [.slice A xs.length c'] (ρt 91)),_,(some l,Lr c .busy none),(ab A,Cl (xs.flatMap cs++sp) (ρt 110)),(some g5,Cl (cs x) (ρt 110)),(some g6,Cl (cs x) (ρt 110))]:=hp;have hF:=hF.step0 hf5;refine La rfl (kN (i:=3) (news:=cs x) rfl rfl rfl rfl rfl rfl es zc hz hby hm0 how hp rfl (by rw[hx2,Nat.one_mul]) (Jh (by have:=rG hp (i:=5) rfl;exact this)) (fun e=>by cases e) hx3 (by show xs.length+1≤maxLen;unfold maxLen;omega) (mb (by omega) hbb) fun A' c2 sp' W6 how' hp hf6 hA'=>?_);have hp:Hp W6 [(some g2,Cl [.slice A xs.length c'] (ρt 91)),_,(some l,Lr c .busy none),(ab A',Cl (xs.flatMap cs++cs x++sp') (ρt 110)),(some g5,Cl (cs x) (ρt 110)),(some g6,Cl (cs x) (ρt 110))]:=hp;have hF5:=hF;have hF:=hF.step hf6 (fun y hy=> .inl (List.mem_append_right _ hy));refine La rfl (E2 (i:=0) rfl rfl rfl rfl rfl aG rfl hp rfl (by simp) fun W7 hp hf7 _=>?_);have hp:Hp W7 [(some g2,Cl [.slice A' (xs.length+1) c2] (ρt 91)),(some Dm,.deferred (some [])),(some l,Lr c .busy none),(ab A',Cl (xs.flatMap cs++cs x++sp') (ρt 110)),(some g5,Cl (cs x) (ρt 110)),(some g6,Cl (cs x) (ρt 110))]:=hp;have hF:=hF.step hf7 (fun y hy=> .inl (by simp at hy;subst hy;simp));refine cw (lJ (Q2 (i:=2) hp rfl (fun W8 hp hf8=>?_)));have hp:Hp W8 [(some g2,Cl [.slice A' (xs.length+1) c2] (ρt 91)),(some Dm,.deferred (some [])),(some l,Lr c .ready none),(ab A',Cl (xs.flatMap cs++cs x++sp') (ρt 110)),(some g5,Cl (cs x) (ρt 110)),(some g6,Cl (cs x) (ρt 110))]:=hp;have hF:=hF.step hf8 (fun y hy=> .inl (by simp at hy;subst hy;simp));have efm:(xs++ [x]).flatMap cs=xs.flatMap cs++cs x:=by simp
  have hO: ∀y∈ [l,g2]++(ab A).toList,w.heap.size≤y:=fun y hy=>by
   rcases List.mem_append.1 hy with hy|hy
   ·simp at hy;rcases hy with rfl|rfl
    ·exact hl0
    ·exact hg2
   ·exact hA y (by simpa using hy)
  refine⟨⟨A',c2,sp',?_,?_,hG.step hF (fun y hy=> .inr (hO y hy)),fun g hg=>?_⟩,_,hF,hO⟩
  ·rw[efm,List.length_append];exact hp.pk [0,1,2,3] (by decide)
  ·rw[efm,List.length_append];exact how'
  ·rcases hA' g hg with h|h
   ·exact hA g h
   ·have h1:=hF5.size;have h2:=hG.size;omega
 ·rintro xs W1 hKS ⟨A,c',sp,hp,how,hG,hA⟩;exact⟨A,c',sp,hp,how,hG,hA⟩
 obtain⟨xs,hKS,A,c',sp,hp,how,hG,hA⟩:=hq;refine .inl ⟨_,2,hp,rfl,?_⟩;intro W2 hp hf inst;have hp:Hp W2 [(some g2,Cl [.slice A xs.length c'] (ρt 91)),(some Dm,.deferred (some [])),_,(ab A,Cl (xs.flatMap cs++sp) (ρt 110))]:=hp;have hG:=hG.step hf (fun y hy=> .inr (by simp at hy;subst hy;exact hl0));refine qf fun K3 hK3=>?_;refine rg (Ly rfl (th (i:=0) rfl rfl plS (fun _ e=>e▸hp) rfl rfl) (dV rfl (cw (cz (hK3 _ _ ?_)))));refine wR (jN (ET (i:=1) hp rfl (fun WE hp hf=>⟨_,iC hr0 rfl,xs,A,c',sp,hKS,rfl,how,fun g hg=>⟨?_,hA g hg⟩,hG.step hf (fun y hy=> .inr (by simp at hy;subst hy;exact hD0))⟩)));exact hp.at (i:=3) (by rw[←hg];rfl)
section
variable [ao] {U:bD} {X:List Nat} {w:World} {ρ:Nat→Rz} {n:Nat} {H:Hs U}
theorem AE(M:aX U X (· =w) ρ n H){H':Hs U}(hp:H'.Perm H):aX U X (· =w) ρ n H'∧bQ ρ n H w ρ n H' w:=by
 have nd':(H'.map (·.1)).Nodup:=(hp.map _).nodup_iff.2 M.nd;have hlk: ∀i,aD H' i=aD H i:=fun i=>by
  cases h:aD H i with
  |some x=>exact dC nd' (hp.mem_iff.2 (af h))
  |none=>
   cases h':aD H' i with
   |none=>rfl
   |some y=>rw[dC M.nd (hp.mem_iff.1 (af h'))]at h;cases h
 have hob: ∀g,g∈aj ρ H'↔g∈aj ρ H:=fun g=>⟨fun h=>by obtain⟨p,h1,h2⟩:=aA.1 h;exact aA.2 ⟨p,hp.mem_iff.1 h1,h2⟩,fun h=>by obtain⟨p,h1,h2⟩:=aA.1 h;exact aA.2 ⟨p,hp.mem_iff.2 h1,h2⟩⟩;have st:bQ ρ n H w ρ n H' w:=⟨M.xd,Nat.le_refl _,Fr.refl _ _,fun g hg=> .inl ((hob g).1 hg),fun i hi v' l' m' h=>⟨v',l',m',by rw[←hlk];exact h,Nat.le_refl _,fun _=>⟨rfl,rfl,rfl⟩⟩,fun _ _ _=>rfl⟩;exact⟨⟨nd',fun p h=>M.lt p (hp.mem_iff.1 h),fun p h=>(M.ent p (hp.mem_iff.1 h)).step st rfl (fun _ _=>rfl),fun p h q h'=>M.inj p (hp.mem_iff.1 h) q (hp.mem_iff.1 h'),fun g hg=>M.dj g ((hob g).1 hg),M.lo,M.xs,M.gv⟩,st⟩
end
section
variable {U:bD} {Y:List Nat} {S:World→Prop}
end
def uq(U:bD)(s:aZ)(fk tm el:Nat):aW U:=⟨[.n,.n],fun xs es K=> ∃l:List (TT U.ty s),xs= [⟨false,[(1,.nils)]⟩,⟨false,[(1,.clo fk [0])]⟩]∧es= [.cells [(1,.d (.sl s) l)] tm]∧l.length≤1000000∧
 K (.v ⟨false,[(1,.own 1 0)]⟩) [.cells [(1,.d (.sl s) l)] tm,.row 0 s l el]⟩
theorem yt{U:bD}{P:Program}{fi fk et:Nat}{fn fn1:Go.Func}{ρf ρt ρf1 ρt1:Nat→Nat}{s:aZ}{ei:TI U}
  (hen:aF P fi=true) (hf:P.funcs[fi]? =some fn) (hb:fn.body=some (eM ρf ρt (cU Tryz.f175))) (hn:fn.ntmps=13) (hr0:fn.results= #[.tmp 4])
  (hen1:aF P fk=true) (hf1:P.funcs[fk]? =some fn1) (hb1:fn1.body=some (eM ρf1 ρt1 (cU Tryz.f127))) (hn1:fn1.ntmps=16) (hr1:fn1.results= #[]) (h34:ρt1 110=ρt 110) (h91:ρt1 91=ρt 91)
  (es:aq P (ρt 91)=some (ρt 110,aG U s)) (un:P.underlying (ρt 91)=some (.slice et)) (plS:dG P (ρt 91)=true) (szS1:(P.info? (ρt 91)).map (·.size)=some 1) (zcS:zeroCells P (ρt 91)=some [.slice none 0 0]) (ag:ba P (ρt 110)=some (aG U s)) (sz:(P.info? (ρt 110)).map (·.size)=some (aG U s))
  (hti:aT U P (ρt 110) ei) (hz: ∃z,cG 20 s ei.zero fun x=>x=z) (hbb:ei.by_≤100000) (hm0:0<aG U s) (hmB:aG U s≤1000):bh P U fi (uq U s fk (ρt1 91) (ρt 110)):=fun [F:ao] hpr X w ρ es0 xs vs K M hv hrun=>by
 obtain⟨l,rfl,rfl,hl,hK⟩:=hrun;obtain⟨v1,us1,rfl,h1,v2,us2,rfl,h2,h3⟩:=hv;rw[show us2= []from h3];have e1: [v1]= [Value.slice none 0 0]:=(bJ.one1 h1).1;injection e1 with e1;subst e1;obtain⟨e2,hall⟩:=(bJ.one1 h2).1;injection e2 with e2;subst e2;obtain⟨g0,FZ,hA0,hs0,hw0⟩:=M.ent (0,.cells [(1,.d (.sl s) l)] (ρt1 91)) (by simp[au]);obtain⟨I,hu⟩:=fq hti hz (aj ρ (au 0 [aH.cells [(1,.d (.sl s) l)] (ρt1 91)])++X) w;obtain⟨v3,v4,rfl,hl1,hx,hr⟩:=hs0;rw[show v4= []from hr,List.append_nil]at hw0;have hx:aC U (aj ρ (au 0 [aH.cells [(1,.d (.sl s) l)] (ρt1 91)])++X) (· =w) (.sl s) l v3:=hx;obtain⟨v,rfl⟩:=vS hx;obtain⟨A,c,em,e1,rfl,e2,hS⟩:=vQ hx;have key:([0].map fun j=>Value.pointer (ρ j).A)= [Value.pointer (some ⟨g0,0,none⟩)]:=by simp[hA0]
 rw[key];refine Fn.mono (yr (cs:=fun e:Em U (aj ρ (au 0 [aH.cells [(1,.d (.sl s) l)] (ρt1 91)])++X) w s=>e.c) (enc:=fun e=> .agg e.c.toArray) (KS:=fun xs=>xs=em) (ok:=fun xs x=> ∃ys,xs++x::ys=em) hen hf hb hn hr0 hen1 es plS szS1 ag sz hu (default:Em U (aj ρ (au 0 [aH.cells [(1,.d (.sl s) l)] (ρt1 91)])++X) w s).hl hti.by_ hbb hm0 hmB zcS _ w ?_ ?_) ?_
 ·rintro xs x ⟨ys,hp⟩;refine⟨?_,rfl,x.hl,x.h1⟩;have:=congrArg List.length hp;simp only[List.length_append,List.length_cons]at this;omega
 ·intro l' W hf0 Q J h0 hst hy hQ;refine Fn.mono (D9 (cs:=fun e:Em U (aj ρ (au 0 [aH.cells [(1,.d (.sl s) l)] (ρt1 91)])++X) w s=>e.c) hen1 hf1 hb1 hn1 hr1 (by rw[h91];exact plS) (by rw[h91,h34];exact es) (by rw[h91];exact un) (by rw[h34];exact ag) (by rw[h34];exact sz) (by rw[h34];exact hu) (default:Em U (aj ρ (au 0 [aH.cells [(1,.d (.sl s) l)] (ρt1 91)])++X) w s).hl
   (fun x=>x.hl) hm0 (fun x=>x.h1) hS (hw0 w rfl) l' W hf0 (fun W'=>Q em W') J h0 hst (fun xs x W1 hx hj=>hy xs x W1 hx hj) (fun W1 hj=>hQ _ _ rfl hj)) fun v W' hq=>⟨em,rfl,hq⟩
 ·rintro v w' ⟨ks,A',c',sp,rfl,rfl,how,hblk,hF⟩;have hden:=i7 ks;rw[e1]at hden;rw[e2]at how⊢;obtain⟨ρ',a1,a2,a3⟩:=II (el:=ρt 110) M hF hm0 hden how (fun g hg=>(hblk g hg).1) (fun g hg=>(hblk g hg).2);obtain⟨m2,s2⟩:=AE (H':=au 0 [aH.cells [(1,.d (.sl s) l)] (ρt1 91),.row 0 s l (ρt 110)]) a2 (List.perm_append_singleton (1,aH.row 0 s l (ρt 110)) (au 0 [aH.cells [(1,.d (.sl s) l)] (ρt1 91)]));exact⟨_,_,ρ',hK,a1.imp fun _ _ h=>h.step s2,m2,a3.trans s2⟩
section
variable {U:bD} {P:Program} {ρs:Ren} {tE:Nat} {s:aZ} {ei:TI U}
def AF(Ok:List (TT U.ty s)→(TT U.ty s→TT U.ty s→Int)→Prop)(tE:Nat):aW U:=⟨[.n,.f2 s s],fun xs es K=> ∃(l:List (TT U.ty s)) (g:TT U.ty s→TT U.ty s→Int),xs= [⟨false,[(1,.own 0 0)]⟩,⟨false,[(1,.f2 s s g)]⟩]∧es= [.row 0 s l tE]∧Ok l g∧l.length<4611686018427387904∧K (.tup []) [.row 0 s (bk g l) tE]⟩
theorem Eb{Ok:List (TT U.ty s)→(TT U.ty s→TT U.ty s→Int)→Prop}(L:SlLaysF0.n6 P ρs)(hen:aF P (ρs.f 6)=true)(hag:eK s=true)(ag:ba P (ρs.t 24)=some (aG U s))(sz:(P.info? (ρs.t 24)).map (·.size)=some (aG U s))(hti:aT U P tE ei)(hz: ∃z,cG 20 s ei.zero fun x=>x=z)(hm0:0<aG U s)
  (hOk: ∀l g,Ok l g→SWO (ltOf g)∧ ∀(Y:List Nat) (w:World) (em:List (Em U Y w s)),em.map (·.x)=l→ ∀x∈em,∀y∈em,ltOf g x.x y.x=false→ltOf g y.x x.x=false→x=y):bh P U (ρs.f 6) (AF Ok tE):=fun [F:ao] hpr X w ρ es0 xs vs K M hv hrun=>by
 obtain⟨l,g,rfl,rfl,hok,hl62,hK⟩:=hrun;obtain⟨hO,hT⟩:=hOk l g hok;obtain⟨v,us,rfl,h1,v2,us2,rfl,h2,h3⟩:=hv;rw[show us2= []from h3];have hl:aD (au 0 [aH.row 0 s l tE]) 0=some (.row 0 s l tE):=rfl;obtain⟨em,sp,hi,e1,e2,rfl,how0,hw⟩:=iR M hl h1;obtain⟨I,hu⟩:=fq hti hz (aj ρ (au 0 [aH.row 0 s l tE])++X) w;obtain⟨u',e,hv2⟩:=(show Vw U X w ρ 1 (au 0 [aH.row 0 s l tE]) (.f2 s s g) [v2]from(bJ.one1 h2).1);injection e with e;subst e;obtain⟨f,ca,rfl⟩:=hv2.1;have dj: ∀g,ab (ρ 0).A=some g→g∉X:=fun g hg=>M.dj g (ew hl hg);have hkey: ∀cs,∀y∈aQ [(ab (ρ 0).A,Cl cs tE)],y∈aj ρ (au 0 [aH.row 0 s l tE]):=fun cs y hy=>by
  rw[dw]at hy;exact ew hl (by simpa using hy)
 have hen2:aF P f=true:=(sI hpr hag hv2 (default:Em U (aj ρ (au 0 [aH.row 0 s l tE])++X) w s) default (Fr.refl [] w) (fun y hy=>by cases hy) M.xd M.gY).1;have key: ∀(p:Em U (aj ρ (au 0 [aH.row 0 s l tE])++X) w s→Prop) (hp: ∀x∈em,p x) (e0:Em U (aj ρ (au 0 [aH.row 0 s l tE])++X) w s) (h0:p e0),(∀x y,p x→p y→ltOf g x.x y.x=false→ltOf g y.x x.x=false→x=y)→
   Fn P (ρs.f 6) [.slice (ρ 0).A em.length (ρ 0).c,.func (.func f) #[] ca.toArray] w fun v w'=>v= .tuple #[]∧ ∃em':List (Em U (aj ρ (au 0 [aH.row 0 s l tE])++X) w s),em'.map (·.x)=bk g l∧Ow (ρ 0).A em.length (ρ 0).c (aG U s) (em'.flatMap (·.c)) sp∧(∀g,ab (ρ 0).A=some g→w'.heap[g]? =some (Cl (em'.flatMap (·.c)++sp) tE))∧Fr (ab (ρ 0).A).toList w w':=by
  intro p hp e0 h0 hT'
  haveI:Inhabited {x:Em U (aj ρ (au 0 [aH.row 0 s l tE])++X) w s//p x}:=⟨⟨e0,h0⟩⟩
  have hfm:=jX p (fun e:Em U (aj ρ (au 0 [aH.row 0 s l tE])++X) w s=>e.c) em hp;have hlen:(em.attachWith p hp).length=em.length:=List.length_attachWith;have hs:=Bi (enc:=fun a:{x:Em U (aj ρ (au 0 [aH.row 0 s l tE])++X) w s//p x}=>a.1.c) (k:=aG U s) (e:=tE) L (xL ag) (bX sz) (fun x=>x.1.hl) hm0 (fun x=>x.1.h1) (cf:=fun a b=>g a.1.x b.1.x)
   ⟨fun x=>hO.1 x.1.x,fun x y z=>hO.2 x.1.x y.1.x z.1.x,fun x y z=>hO.3 x.1.x y.1.x z.1.x⟩
   (fun x y h1 h2=>by
    have e:=hT' x.1 y.1 x.2 y.2 h1 h2;obtain⟨x,hx⟩:=x;obtain⟨y,hy⟩:=y;simp only at e;subst e;rfl) (g:=f) (cb:=ca) (qb hen2) hen X w (em.attachWith p hp) (by rw[hlen];omega) (ρ 0).A (ρ 0).c sp (by rw[hfm];exact lG (M.lo w rfl) hw dj) (by rw[hfm,hlen];exact how0)
   (fun w1 x y hf1=>sI hpr hag hv2 x.1 y.1 hf1 (hkey _) M.xd M.gY)
  rw[hlen]at hs;refine hs.mono ?_;rintro v w' ⟨rfl,a1,a2,a3,a4⟩;refine⟨rfl,(bk (fun a b:{x:Em U (aj ρ (au 0 [aH.row 0 s l tE])++X) w s//p x}=>g a.1.x b.1.x) (em.attachWith p hp)).map (·.1),?_,?_,fun g' hg'=>?_,?_⟩
  ·rw[List.map_map];have:=rh (fun a:{x:Em U (aj ρ (au 0 [aH.row 0 s l tE])++X) w s//p x}=>a.1.x) g (em.attachWith p hp);rw[show((fun x:Em U (aj ρ (au 0 [aH.row 0 s l tE])++X) w s=>x.x)∘fun x:{x:Em U (aj ρ (au 0 [aH.row 0 s l tE])++X) w s//p x}=>x.1)=fun a=>a.1.x from rfl,this];have h9:=jY p (fun e:Em U (aj ρ (au 0 [aH.row 0 s l tE])++X) w s=>e.x) em hp;rw[h9,e1]
  ·rw[List.flatMap_map];exact a1
  ·rw[List.flatMap_map];exact a3.hp.at (i:=0) (by rw[hg'];rfl)
  ·rw[dw]at a4;exact a4
 have main:Fn P (ρs.f 6) [.slice (ρ 0).A em.length (ρ 0).c,.func (.func f) #[] ca.toArray] w fun v w'=>v= .tuple #[]∧ ∃em':List (Em U (aj ρ (au 0 [aH.row 0 s l tE])++X) w s),em'.map (·.x)=bk g l∧Ow (ρ 0).A em.length (ρ 0).c (aG U s) (em'.flatMap (·.c)) sp∧(∀g,ab (ρ 0).A=some g→w'.heap[g]? =some (Cl (em'.flatMap (·.c)++sp) tE))∧Fr (ab (ρ 0).A).toList w w':=by
  cases hem:em with
  |nil=>
   rw[←hem];exact key (fun x=>x=default) (fun x hx=>by rw[hem]at hx;cases hx) default rfl (fun x y hx hy _ _=>by rw[hx,hy])
  |cons e0 r=>
   rw[←hem];exact key (fun x=>x∈em) (fun x hx=>hx) e0 (by rw[hem];simp) (fun x y hx hy=>hT _ _ em e1 x hx y hy)
 refine main.mono ?_;rintro v w' ⟨rfl,em',b1,b2,b3,b4⟩;have hlen:em.length=(bk g l).length:=by rw[dr,e2]
 rw[hlen]at b2;obtain⟨ρ',a2,a3⟩:=IJ (el:=tE) M hl hm0 b4 (dr ..) (by have:=i7 em';rw[b1]at this;exact this) b2 b3;exact⟨_,_,ρ',hK,⟨[],rfl,rfl⟩,a2,a3⟩
def rk{α:Type}(l:List α)(g:α→α→Int):Prop:=SWO (ltOf g)∧l.Pairwise fun x y=>ltOf g x y=true∨ltOf g y x=true
theorem rk.ok{l:List (TT U.ty s)}{g:TT U.ty s→TT U.ty s→Int}(h:rk l g):SWO (ltOf g)∧ ∀(Y:List Nat) (w:World) (em:List (Em U Y w s)),em.map (·.x)=l→ ∀x∈em,∀y∈em,ltOf g x.x y.x=false→ltOf g y.x x.x=false→x=y:=by
 refine⟨h.1,fun Y w em he x hx y hy h1 h2=>?_⟩;have hp:=h.2;rw[←he,List.pairwise_map]at hp;obtain⟨i,hi,rfl⟩:=List.getElem_of_mem hx;obtain⟨j,hj,rfl⟩:=List.getElem_of_mem hy;rw[List.pairwise_iff_getElem]at hp;rcases Nat.lt_trichotomy i j with hij|hij|hij
 ·rcases hp i j hi hj hij with h|h
  ·rw[h]at h1;cases h1
  ·rw[h]at h2;cases h2
 ·subst hij;rfl
 ·rcases hp j i hj hi hij with h|h
  ·rw[h]at h2;cases h2
  ·rw[h]at h1;cases h1
end
def AG(U:bD)(s:aZ)(fk tm el:Nat):aW U:=⟨[.n],fun xs es K=> ∃l:List (TT U.ty s),xs= [⟨false,[(1,.clo fk [0])]⟩]∧es= [.cells [(1,.d (.sl s) l)] tm]∧l.length≤1000000∧
 K (.v ⟨false,[(1,.own 1 0)]⟩) [.cells [(1,.d (.sl s) l)] tm,.row 0 s l el]⟩
def yu(U:bD)(s:aZ)(fk tm el:Nat):aW U:=⟨[.n,.f2 s s],fun xs es K=> ∃(l:List (TT U.ty s)) (g:TT U.ty s→TT U.ty s→Int),xs= [⟨false,[(1,.clo fk [0])]⟩,⟨false,[(1,.f2 s s g)]⟩]∧es= [.cells [(1,.d (.sl s) l)] tm]∧l.length≤1000000∧rk l g∧
 K (.v ⟨false,[(1,.own 1 0)]⟩) [.cells [(1,.d (.sl s) l)] tm,.row 0 s (bk g l) el]⟩
def Lp(U:bD)(s:aZ)(fk tm:Nat):aW U:=⟨[.d (.sl s)],fun xs es K=> ∃l:List (TT U.ty s),xs= [⟨false,[(1,.d (.sl s) l)]⟩]∧es= []∧K (.v ⟨false,[(1,.clo fk [0])]⟩) [.cells [(1,.d (.sl s) l)] tm]⟩
theorem IK{P:Program}{f tE m:Nat}{fn:Go.Func}{ρf ρt:Nat→Nat}(hen:aF P f=true)(hf:P.funcs[f]? =some fn)(hb:fn.body=some (eM ρf ρt (cU Tryz.f64)))(hn:fn.ntmps=33)(hr:fn.results= #[.tmp 6])(hmx:P.follows .mixedOrders=true)
  {α:Type} [Inhabited α] {enc:α→List Value} (es:aq P (ρt 91)=some (tE,m)) (un:P.underlying (ρt 91)=some (.slice tE)) (zc:zeroCells P tE=some (enc default)) (hm: ∀x,(enc x).length=m) (hm0:0<m) (h1: ∀x,∀v∈enc x,v.oneCell'=true)
  (g c:Nat) (row:List α) (sp:List Value) (i:Nat) (w:World) (hp:Hp w [(some g,Cl (row.flatMap enc++sp) tE)]) (hi:i<row.length) (how:Ow (some ⟨g,0,none⟩) row.length c m (row.flatMap enc) sp):
  Fn P f [.slice (some ⟨g,0,none⟩) row.length c,.int .i64 (i:Int),.int .i64 ((i+1:Nat):Int)] w fun v w'=>v= .slice (some ⟨g,0,none⟩) (row.length - 1) c∧Ow (some ⟨g,0,none⟩) (row.length - 1) c m ((row.eraseIdx i).flatMap enc) (enc default++sp)∧Hp w' [(some g,Cl ((row.eraseIdx i).flatMap enc++(enc default++sp)) tE)]∧Fr [g] w w':=by
 have hle:=how.le;obtain⟨hrl,⟨h0,_⟩|⟨g',h0,hcl,hrc,hcm⟩⟩:=how
 ·cases h0
 have hcm':(c:Int)≤9223372036854775807:=by unfold maxLen at hcm;omega
 have hdl:((row.drop (i+1)).flatMap enc).length=(row.length -(i+1))*m:=by rw[bc hm,List.length_drop]
 have hel:((row.eraseIdx i).flatMap enc).length=(row.length - 1)*m:=by rw[bc hm,List.length_eraseIdx,if_pos hi]
 have her:(row.eraseIdx i).flatMap enc=(row.take i).flatMap enc++(row.drop (i+1)).flatMap enc:=by rw[List.eraseIdx_eq_take_drop_succ,List.flatMap_append]
 have m1:i*m+(row.length -(i+1))*m=(row.length - 1)*m:=by rw[←Nat.add_mul,show i+(row.length -(i+1))=row.length - 1 by omega]
 have m2:(row.length - 1)*m+m=row.length*m:=by rw[←Nat.succ_mul];congr 1;omega
 have m3:i*m≤row.length*m:=Nat.mul_le_mul_right m (by omega);refine iE 33 hen hf hb hn rfl ?_;dsimp only[bS];have hF:=Fr.refl [g] w;refine sq fun _ k1=>rg (dV rfl (Ln k1 (sq fun _ k2=>rg (Lm rfl (Lm rfl (Lm rfl (Lm rfl (Ly rfl (tx rfl un) ?_))))))));refine Ly rfl (Ja rfl rfl es rfl rfl rfl (by omega) (by omega) (by omega) (by omega)) (Ln k2 ?_);refine sq fun _ k3=>sq fun _ k4=>rg (Lm rfl (Lm rfl (Ly rfl (L9 rfl rfl rfl (by omega)) (Ln k4 (ib rfl (dW (cz (k3 _ _ ?_))))))));refine sq fun _ k5=>rg (Lm rfl (Ly rfl (tx rfl un) (dV rfl (Ln k5 (sq fun _ k6=>?_)))));refine jS (fun _=>True) [(true,0),(true,1),(true,2),(true,3),(true,4),(true,5),(false,6),(true,7)] hmx (by kernel_rfl) (by kernel_rfl) rfl (trivial) ?_;have hp:=hp.drew;have hF:=hF.step0 (Fr.drew _);refine te rfl (fN rfl) rfl rfl (jT rfl rfl) ?_;refine te rfl (fN rfl) rfl rfl (jT rfl rfl) ?_;refine te rfl (fN rfl) rfl rfl (EI rfl rfl es rfl (by omega) (by omega) (by omega)) ?_;refine te rfl (fN rfl) rfl rfl (jT rfl rfl) ?_;refine te rfl (fN rfl) rfl rfl (jT rfl rfl) ?_;refine te rfl (fN rfl) rfl rfl (oX rfl rfl es rfl rfl (by omega) (by omega) (by omega) (by omega)) ?_;refine Jq rfl (fN rfl) (by rfl) ?_;have hp:Hp w.drew [(some g,Cl (row.flatMap enc++sp) tE)]:=hp;refine uH (i:=0) (l:=i) (sl:=row.length -(i+1)) (m:=m) (news:=(row.drop (i+1)).flatMap enc) rfl rfl rfl rfl rfl rfl es hp rfl hdl (fun j u hj=>?_) ?_ (by omega) (by rw[List.length_append,hrl,hdl];omega) (fun w1 (hp:Hp w1 [_]) hf=>?_)
 ·have hjl:=(List.getElem?_eq_some_iff.1 hj).1;rw[hdl]at hjl;have hne:i+1<row.length:=by
   refine Classical.byContradiction fun h=>?_;rw[show row.length -(i+1)=0 by omega,Nat.zero_mul]at hjl;omega
  have hm4:(i+1)*m+(row.length -(i+1))*m=row.length*m:=by rw[←Nat.add_mul,show i+1+(row.length -(i+1))=row.length by omega]
  show w.drew.cell? ((p6 ⟨g,0,none⟩ c (i+1) m).add j)=some u
  rw[m8 (by omega),Addr.add_mid];refine i6 (i:=0) hp rfl ?_;rw[List.getElem?_append_left (by rw[hrl];omega)];rw[←lB hm,List.getElem?_drop]at hj;rw[show 0+(i+1)*m+j=(i+1)*m+j by omega];exact hj
 ·intro v hv;obtain⟨x,_,hx⟩:=List.mem_flatMap.1 hv;exact h1 x v hx
 have hF:=hF.step hf (fun y hy=> .inl hy);refine⟨trivial,?_⟩;have hc1:(row.flatMap enc++sp).take (0+i*m)++(row.drop (i+1)).flatMap enc++(row.flatMap enc++sp).drop (0+i*m+((row.drop (i+1)).flatMap enc).length)=(row.eraseIdx i).flatMap enc++(row.flatMap enc++sp).drop ((row.length - 1)*m):=by
  rw[her,Nat.zero_add,List.take_append_of_le_length (by omega),lC hm,hdl,m1]
 have hp:Hp w1 [_]:=hp.conv (i:=0) rfl hc1;rw[show i+(row.length -(i+1))=row.length - 1 by omega];refine te rfl (fN rfl) rfl rfl (nl rfl rfl) ?_;refine mq (cz (k6 _ _ ?_));refine sq fun _ k7=>rg (Lm rfl (Lm rfl (Ly rfl (tx rfl un) (Lm rfl ?_))));refine Ly rfl (oX rfl rfl es rfl rfl (by omega) (by omega) (by omega) (by omega)) ?_;rw[show p6 ⟨g,0,none⟩ c (((row.length - 1:Nat):Int)).toNat m=⟨g,0+(row.length - 1)*m,none⟩from by rw[Int.toNat_natCast];exact m8 (by omega)];refine La rfl (xG (i:=0) (l:=row.length -(row.length - 1)) (m:=m) (z:=enc default) rfl rfl rfl es zc (hm _) (h1 _) hp rfl ?_ (fun w2 (hp:Hp w2 [_]) hf=>?_))
 ·rw[List.length_append,hel,List.length_drop,List.length_append,hrl,show row.length -(row.length - 1)=1 by omega];omega
 have hF:=hF.step hf (fun y hy=> .inl hy);refine Ln k7 (sq fun _ k8=>rg (Lm rfl (dV rfl (Ln k8 (wR (fR (iC hr rfl) ?_))))));rw[show row.length -(row.length - 1)=1 by omega]at hp;refine⟨rfl,⟨hel,.inr ⟨g,rfl,?_,by omega,hcm⟩⟩,?_,hF⟩
 ·rw[List.length_append,List.length_append,hel,hm,←hcl,List.length_append,hrl];omega
 ·have e2:((row.eraseIdx i).flatMap enc++(row.flatMap enc++sp).drop ((row.length - 1)*m)).take (0+(row.length - 1)*m)=(row.eraseIdx i).flatMap enc:=by
   rw[Nat.zero_add,←hel,List.take_left]
  have e3:((row.eraseIdx i).flatMap enc++(row.flatMap enc++sp).drop ((row.length - 1)*m)).drop (0+(row.length - 1)*m+1*m)=sp:=by
   rw[Nat.zero_add,Nat.one_mul,←hel,List.drop_length_add_append,List.drop_drop,hel,m2,←hrl,List.drop_left]
  rw[e2,e3]at hp;simpa[List.append_assoc]using hp
section
variable {U:bD} {P:Program} {fi tE:Nat} {fn:Go.Func} {ρf ρt:Nat→Nat} {s:aZ} {ei:TI U}
def xq(U:bD)(s:aZ)(tE:Nat):aW U:=⟨[.n,.f1 s],fun xs es K=> ∃(l:List (TT U.ty s)) (g:TT U.ty s→Bool),xs= [⟨false,[(1,.own 0 0)]⟩,⟨false,[(1,.f1 s g)]⟩]∧es= [.row 0 s l tE]∧K (.v ⟨false,[(1,.d (.int .i64) (cI l g))]⟩) [.row 0 s l tE]⟩
theorem AH(hen:aF P fi=true)(hf:P.funcs[fi]? =some fn)(hb:fn.body=some (eM ρf ρt (cU Tryz.f155)))(hn:fn.ntmps=19)(hr:fn.results= #[.tmp 4])(hmx:P.follows .mixedOrders=true)(i64:P.underlying (ρt 3)=some (.int .i64))(hag:eK s=true)
  (es:aq P (ρt 35)=some (tE,aG U s)) (un:P.underlying (ρt 35)=some (.slice tE)) (hE:tE=ρt 128) (ag:ba P tE=some (aG U s)) (sz:(P.info? tE).map (·.size)=some (aG U s)) (hti:aT U P tE ei) (hz: ∃z,cG 20 s ei.zero fun x=>x=z) (hbb:ei.by_≤100000) (hm0:0<aG U s) (hmB:aG U s≤1000):bh P U fi (xq U s tE):=fun [F:ao] hpr X w ρ es0 xs vs K M hv hrun=>by
 obtain⟨l,g,rfl,rfl,hK⟩:=hrun;obtain⟨v,us,rfl,h1,v2,us2,rfl,h2,h3⟩:=hv;rw[show us2= []from h3];have hl:aD (au 0 [aH.row 0 s l tE]) 0=some (.row 0 s l tE):=rfl;obtain⟨em,sp,hi,e1,e2,rfl,how0,hw⟩:=iR M hl h1;obtain⟨I,hu⟩:=fq hti hz (aj ρ (au 0 [aH.row 0 s l tE])++X) w;have h2:Vw U X w ρ 1 (au 0 [aH.row 0 s l tE]) (.f1 s g) [v2]:=(bJ.one1 h2).1;have dj: ∀g,ab (ρ 0).A=some g→g∉X:=fun g hg=>M.dj g (ew hl hg);have hs:=hZ.own (i:=0) (lG (M.lo w rfl) hw dj).hp rfl how0 hm0;refine Fn.mono (sB (enc:=fun e:Em U (aj ρ (au 0 [aH.row 0 s l tE])++X) w s=>e.c) hen hf hb hn hr hmx es un i64 (by exact hu) hti.by_ hbb (fun x=>x.hl) hm0 hmB (fun x=>x.h1) [] w (fun x hx=>by cases hx) em (ρ 0).A (ρ 0).c v2 (fun e=>g e.x) hs (fun w1 x0 hw=>sF hpr hag h2 x0 hw (fun y hy=>by cases hy) M.xd M.gY) hE ag sz) ?_;rintro v w' ⟨rfl,hf'⟩;rw[xn,uk (fun e:Em U (aj ρ (au 0 [aH.row 0 s l tE])++X) w s=>e.x),e1];have hr:dS .i64 (cI l g):=by
  unfold cI;have:=hs.le;cases hq:l.findIdx? g with
  |none=>exact⟨by decide,by decide⟩
  |some k=>have:=(List.findIdx?_eq_some_iff_getElem.1 hq).1;simp only[dS];omega
 exact⟨_,_,ρ,hK,gz (aC.int .i64 _ hr),(M.keep0 hf').1,(M.keep0 hf').2⟩
theorem qO{α β:Type}(f:α→β)(l:List α)(n:Nat):(l.eraseIdx n).map f=(l.map f).eraseIdx n:=by
 rw[List.eraseIdx_eq_take_drop_succ,List.eraseIdx_eq_take_drop_succ,List.map_append,List.map_take,List.map_drop]
def Gm(U:bD)(s:aZ)(tE:Nat):aW U:=⟨[.n,.n,.n],fun xs es K=> ∃(l:List (TT U.ty s)) (i j:Int),xs= [⟨false,[(1,.own 0 0)]⟩,⟨false,[(1,.d (.int .i64) i)]⟩,⟨false,[(1,.d (.int .i64) j)]⟩]∧es= [.row 0 s l tE]∧(0≤i∧i<l.length∧j=i+1)∧K (.v ⟨false,[(1,.own 0 1)]⟩) [.row 1 s (l.eraseIdx i.toNat) tE]⟩
theorem IL(hen:aF P fi=true)(hf:P.funcs[fi]? =some fn)(hb:fn.body=some (eM ρf ρt (cU Tryz.f64)))(hn:fn.ntmps=33)(hr:fn.results= #[.tmp 6])(hmx:P.follows .mixedOrders=true)
  (es:aq P (ρt 91)=some (tE,aG U s)) (un:P.underlying (ρt 91)=some (.slice tE)) (hti:aT U P tE ei) (hz: ∃z,cG 20 s ei.zero fun x=>x=z) (hm0:0<aG U s):bh P U fi (Gm U s tE):=fun [F:ao] hpr X w ρ es0 xs vs K M hv hrun=>by
 obtain⟨l,i,j,rfl,rfl,⟨hi0,hi1,rfl⟩,hK⟩:=hrun;obtain⟨v,us,rfl,h1,v2,us2,rfl,h2,v3,us3,rfl,h3,h4⟩:=hv;rw[show us3= []from h4];have hl:aD (au 0 [aH.row 0 s l tE]) 0=some (.row 0 s l tE):=rfl;obtain⟨em,sp,hi,e1,e2,rfl,how0,hw⟩:=iR M hl h1;obtain⟨hv2,_⟩:=aC.inv (show aC U _ _ (.int .i64) i [v2]from(bJ.one1 h2).1);injection hv2 with hv2;subst hv2;obtain⟨hv3,_⟩:=aC.inv (show aC U _ _ (.int .i64) (i+1) [v3]from(bJ.one1 h3).1);injection hv3 with hv3;subst hv3;obtain⟨I,hu⟩:=fq hti hz (aj ρ (au 0 [aH.row 0 s l tE])++X) w;obtain⟨n,rfl⟩:=Int.eq_ofNat_of_zero_le hi0;have hn1:n<em.length:=by rw[e2];omega
 obtain⟨g,hA⟩:=how0.some_ (by omega);have dj: ∀g,ab (ρ 0).A=some g→g∉X:=fun g hg=>M.dj g (ew hl hg);have hst:=(lG (M.lo w rfl) hw dj).hp;rw[hA]at hst how0⊢;refine Fn.mono (IK (enc:=fun e:Em U (aj ρ (au 0 [aH.row 0 s l tE])++X) w s=>e.c) hen hf hb hn hr hmx es un (by exact hu) (fun x=>x.hl) hm0 (fun x=>x.h1) g (ρ 0).c em sp n w hst hn1 how0) ?_;rintro v w' ⟨rfl,how,hp,hF⟩;have em':(em.eraseIdx n).map (·.x)=l.eraseIdx n:=(qO _ em n).trans (by rw[e1]);have hlen:em.length - 1=(l.eraseIdx n).length:=by rw[List.length_eraseIdx,if_pos (by omega),e2]
 rw[hlen]at how⊢;obtain⟨ρ',a1,a2,a3⟩:=Ax (el:=tE) M hi hl hm0 (by rw[hA];exact hF) (fun g' hg'=> .inl (by rw[hA];exact hg')) (by have:=i7 (em.eraseIdx n);rw[em']at this;exact this) how (fun g' hg'=>by injection hg' with hg';subst hg';exact hp.at (i:=0) rfl);exact⟨_,_,ρ',hK,a1,a2,a3⟩
end
end Go.Proofs.YtmpeiadlohbikaaGreatDoor.V
end

section
set_option linter.unusedVariables false
set_option maxRecDepth 20000
namespace Go.Proofs.YtmpeiadlohbikaaGreatDoor.V
open Go.RowKit Go.Shelf Go.Sort
def LH:aW U:=sD U (.st 3) 70
theorem QJ:bh Tryz.prog U 179 LH:=uj (fg:=Tryz.f219) (s:=(.st 3)) (fn:=Tryz.f179) (ρf:=fun|153=>219|n=>n) (ρt:=fun|36=>26|249=>300|n=>n) (by kernel_rfl) Tryz.func179 (by kernel_rfl) rfl rfl (by kernel_rfl) Tryz.func219 (by kernel_rfl) rfl rfl (by kernel_rfl) Tryz.underlying3 (by kernel_rfl) (by kernel_rfl) (by kernel_rfl) (by kernel_rfl) (by kernel_rfl) lD ⟨_,rfl⟩ (by decide) (by decide) (by decide)
def Sv:aW U:=xq U (.st 9) 110
theorem UB:bh Tryz.prog U 62 Sv:=AH (s:=(.st 9)) (fn:=Tryz.f62) (ρf:=fun n=>n) (ρt:=fun|35=>91|198=>163|128=>110|n=>n) (by kernel_rfl) Tryz.func62 (by kernel_rfl) rfl rfl (by kernel_rfl) Tryz.underlying3 rfl (by kernel_rfl) (by kernel_rfl) rfl (by kernel_rfl) (by kernel_rfl) kR ⟨_,rfl⟩ (by decide) (by decide) (by decide)
def Sw:aW U:=Gm U (.st 9) 110
theorem UC:bh Tryz.prog U 64 Sw:=IL (s:=(.st 9)) (fn:=Tryz.f64) (ρf:=fun n=>n) (ρt:=fun n=>n) (by kernel_rfl) Tryz.func64 (by kernel_rfl) rfl rfl (by kernel_rfl) (by kernel_rfl) (by kernel_rfl) kR ⟨_,rfl⟩ (by decide)
def LI:aW U:=AF (s:=(.st 9)) rk 110
theorem QL:bh Tryz.prog U 126 LI:=Eb (s:=(.st 9)) (ρs:=Tryz.laysSortRec_ren) Tryz.laysSortRec (by kernel_rfl) rfl (by kernel_rfl) (by kernel_rfl) kR ⟨_,rfl⟩ (by decide) (fun l g h=>rk.ok h)
def LJ:aW U:=uq U (.st 9) 127 91 110
theorem QM:bh Tryz.prog U 175 LJ:=yt (et:=110) (s:=(.st 9)) (fn:=Tryz.f175) (fn1:=Tryz.f127) (ρf:=fun n=>n) (ρt:=fun n=>n) (ρf1:=fun n=>n) (ρt1:=fun n=>n) (by kernel_rfl) Tryz.func175 (by kernel_rfl) rfl rfl (by kernel_rfl) Tryz.func127 (by kernel_rfl) rfl rfl rfl rfl (by kernel_rfl) (by kernel_rfl) (by kernel_rfl) (by kernel_rfl) (by kernel_rfl) (by kernel_rfl) (by kernel_rfl) kR ⟨_,rfl⟩ (by decide) (by decide) (by decide)
def LK:aW U:=AG U (.st 9) 127 91 110
def QN:c6 U:= [(175,LJ)]
theorem EC:bi Tryz.prog U QN:=aa QM (ah)
theorem QO:bh Tryz.prog U 125 LK:=by
 refine d8 (fn:=Tryz.f125) EC bP (by kernel_rfl) Tryz.f125.ntmps [.n] [] (by kernel_rfl) (by kernel_rfl) rfl rfl (by kernel_rfl) (fun xs es K=>?_);rintro⟨l,rfl,rfl,hl,h⟩;exact⟨rfl,l,rfl,rfl,hl,h⟩
def Sx:aW U:=yu U (.st 9) 127 91 110
def UD:c6 U:= [(125,LK),(126,LI)]
theorem I5:bi Tryz.prog U UD:=aa QO (aa QL (ah))
theorem UE:bh Tryz.prog U 58 Sx:=by
 refine d8 (fn:=Tryz.f58) I5 bP (by kernel_rfl) Tryz.f58.ntmps [.n] [] (by kernel_rfl) (by kernel_rfl) rfl rfl (by kernel_rfl) (fun xs es K=>?_);rintro⟨l,g,rfl,rfl,hl,hs,h⟩;exact⟨rfl,l,rfl,rfl,hl,l,g,rfl,rfl,hs,Nat.lt_of_le_of_lt hl (by decide),h⟩
def Sy:aW U:=Lp U (.st 9) 127 91
def UF:c6 U:= []
theorem I6:bi Tryz.prog U UF:=ah
theorem UG:bh Tryz.prog U 59 Sy:=by
 refine d8 (fn:=Tryz.f59) I6 bP (by kernel_rfl) Tryz.f59.ntmps [.n] [] (by kernel_rfl) (by kernel_rfl) rfl rfl (by kernel_rfl) (fun xs es K=>?_);rintro⟨l,rfl,rfl,h⟩;exact⟨rfl,h⟩
end Go.Proofs.YtmpeiadlohbikaaGreatDoor.V
end

section
set_option linter.unusedVariables false
namespace Go.Proofs.YtmpeiadlohbikaaGreatDoor
open Go.RowKit
abbrev qP(d:Deferred):bB:=⟨[d],none⟩
theorem IM{P:Program}{f fc:FuncId}{fn:Func}{R0 rest:Code}{i1:Nat}{mk df:Oper}{args:List Value}{w:World}{Post:Value→World→Prop}(n s0 dM:Nat)
  (he:aF P f=true) (hec:aF P fc=true) (hf:P.funcs[f]? =some fn) (hb:fn.body=some (.seq R0 (.seq (.region i1 #[mk,df] false) rest))) (hn:fn.ntmps=n) (hle:Nat.ble args.length n=true)
  (hmk:mk.op= .makeFunc (.func fc) #[] #[.tmp s0]) (hmg:mk.guard=none) (hmd:mk.dst=some dM) (hdn:Nat.blt dM n=true) (hdf:df.op= .defer {callee:= .value (.tmp dM),args:= #[],argTypes:= #[]}) (hdg:df.guard=none) (hdd:df.dst=none)
  {Q0:EQ} (h0: @Wp dfs0 P n R0 Q0 (bS 0 args) w) (hq0: ∀e env w',Q0 e env w'→e= .normal)
  (h1: ∀env w1,Q0 .normal env w1→ ∃p,env.get s0=some p∧ ∃Q1:EQ, @Wp (qP {target:= .fn (.func fc) #[p],args:= #[]}) P n rest Q1 ((dM,.func (.func fc) #[] #[p])::env) w1∧
   (∀e env2 w2,Q1 e env2 w2→(e= .normal∨e= .ret)∧CallsD P fc #[p] .returning w2 (fun e u' w'=> ∃x,e= .returned x∧u'= .returning∧ ∃v, @wk (qP {target:= .fn (.func fc) #[p],args:= #[]}) P n fn env2 w' v∧Post v w')∨
    ∃v,e= .panic [{v:=v,recovered:=false}]∧CallsD P fc #[p] (.panicking [{v:=v,recovered:=false}]) w2 fun e u' w'=> ∃x,e= .returned x∧u'= .panicking [{v:=v,recovered:=true}]∧ ∃v, @wk (qP {target:= .fn (.func fc) #[p],args:= #[]}) P n fn env2 w' v∧Post v w')):Fn P f args w Post:=by
 refine⟨he,calls_of_wp_defers hf hb ((wpIn_wide (n:=0)).1 ?_)⟩;have r0: @g7 dfs0 n (bS 0 args) {tmps:=args.toArray++Array.replicate (fn.ntmps - args.toArray.size) undef,defers:= []}:=by
  refine⟨?_,rfl,fun k v hk=>?_⟩
  ·have:args.length≤n:=by simpa[Nat.ble_eq]using hle
   simp[hn];omega
  ·obtain⟨_,h2⟩:=iz args 0 k v hk;simp only[Nat.sub_zero]at h2;have hlt:k<args.length:=(List.getElem?_eq_some_iff.1 h2).1;have h3:args[k]=v:=(List.getElem?_eq_some_iff.1 h2).2;simp[Array.getElem?_append,hlt,h3]
 refine wpIn_seq (Code.wpIn_mono (fun e a' w' hq=>?_) (h0 _ r0));obtain⟨env,r,q⟩:=hq;obtain rfl:=hq0 e env w' q;obtain⟨p,hp,Q1,hw1,hQ1⟩:=h1 env w' q;show(Code.seq (Code.region i1 #[mk,df] false) rest).wpIn _ _ _ _ _ _
 refine wpIn_seq (wpIn_region_list ?_);show wpListIn _ _ _ _ _ [mk,df] a' w'
 unfold wpListIn;rw[if_pos (by simp[Region.wanted,hmg])];refine⟨fun _ _=>trivial,?_⟩;have e1:(mk.semAt (none:Option Nat) a'.eval).run P w'= .ok (.value (.func (.func fc) #[] #[p])) w':=by
  rw[Oper.semAt_none];unfold execOp;have hev:a'.eval (.tmp s0)=p:=r.eval (x:= .tmp s0) hp;simp[hmk,hev];rfl
 show mk.uponIn _ _ _ _ _ _ ((mk.semAt none a'.eval).run P w')
 rw[e1];show wpListIn _ _ _ _ _ [df] (a'.put mk.dst (.func (.func fc) #[] #[p])) w'
 unfold wpListIn;rw[if_pos (by simp[Region.wanted,hdg])];refine⟨fun _ _=>trivial,?_⟩;have r1: @g7 dfs0 n ((dM,.func (.func fc) #[] #[p])::env) (a'.put mk.dst (.func (.func fc) #[] #[p])):=by rw[hmd];exact r.put hdn _
 have e2:(df.semAt (none:Option Nat) (a'.put mk.dst (.func (.func fc) #[] #[p])).eval).run P w'= .ok (.defer {target:= .fn (.func fc) #[p],args:= #[]}) w':=by
  have hev:(a'.put mk.dst (.func (.func fc) #[] #[p])).eval (.tmp dM)= .func (.func fc) #[] #[p]:=r1.eval (x:= .tmp dM) (by simp[aI.ev,aI.get]);rw[Oper.semAt_none];unfold execOp;simp only[hdf,resolve];rw[hev];simp[Deferred.ofValue]
 show df.uponIn _ _ _ _ _ _ ((df.semAt none (a'.put mk.dst (.func (.func fc) #[] #[p])).eval).run P w')
 rw[e2];have r3: @g7 (qP {target:= .fn (.func fc) #[p],args:= #[]}) n ((dM,.func (.func fc) #[] #[p])::env) (({a'.put mk.dst (.func (.func fc) #[] #[p])with defers:={target:= .fn (.func fc) #[p],args:= #[]}::(a'.put mk.dst (.func (.func fc) #[] #[p])).defers}:Act).put df.dst undef):=by
  rw[hdd];exact @g7.mk (qP _) _ _ _ r1.size (congrArg (List.cons _) r1.defers) r1.get
 show Code.wpIn _ _ _ rest _ _ w'
 refine Code.wpIn_mono (fun e a4 w4 hq=>?_) (hw1 _ r3);obtain⟨env4,r4,q4⟩:=hq;have hi: ∀w,(invoke (.fn (.func fc) #[p]) #[]).run P w= .ok (.enter fc #[p]) w:=fun w=>by
  have h1:=hec;unfold aF at h1;cases hq:P.funcs[fc]? with
  |none=>simp[hq]at h1
  |some fn=>
   simp only[hq,Bool.and_eq_true,Bool.not_eq_true',beq_eq_false_iff_ne]at h1;obtain⟨h2,h3⟩:=h1;have h4: ¬fn.body=none:=by intro hbb;simp[hbb]at h3
   simp[invoke,callFunc,hq,h2,h4]
 have hdl:a4.defers= [{target:= .fn (.func fc) #[p],args:= #[]}]:= @g7.defers (qP _) n env4 a4 r4;rcases hQ1 e env4 w4 q4 with⟨he2,hc⟩|⟨v,rfl,hc⟩
 ·have key:Leaves P fn a4.tmps (fun e w'=> ∃v,e= .returned v∧Post v w') a4.defers .returning w4:=by
   rw[hdl];refine leaves_cons (by simp) (hi w4) (hc.mono ?_);rintro e u' w5 ⟨x,rfl,rfl,v,hv,hp⟩;exact⟨v,hv a4 r4,v,rfl,hp⟩
  rcases he2 with rfl|rfl<;>exact key
 ·show Leaves P fn a4.tmps _ a4.defers (.panicking _) w4
  rw[hdl];refine leaves_cons (by simp) (hi w4) (hc.mono ?_);rintro e u' w5 ⟨x,rfl,rfl,v,hv,hp⟩;show Leaves P fn a4.tmps _ [] (settle _) w5
  exact⟨v,hv a4 r4,v,rfl,hp⟩
end Go.Proofs.YtmpeiadlohbikaaGreatDoor
end

section
set_option linter.unusedVariables false
set_option linter.unusedSimpArgs false
set_option linter.unusedSectionVars false
namespace Go.Proofs.YtmpeiadlohbikaaGreatDoor.V
open Go.RowKit
theorem AI{w:World}{g e:Nat}{cs:List Value}(h:w.heap[g]? =some (Cl cs e)){j:Nat}(hj:j<cs.length):w.cell? ⟨g,j,none⟩=some cs[j]∧w.frozen? ⟨g,j,none⟩=false:=by
 constructor
 ·unfold World.cell?;simp only[h];simp[hj]
 ·unfold World.frozen?;simp only[h];simp
section
variable {U:bD}
def Ee(H:Hs U)(j:Nat):Bool:=match aD H j with
 |some (.cells ((_,.d (.int .i64) _):: []) _)=>true
 |_=>false
def Oo(T:cW U)(fn:Func)(md:List Md)(em:List (Nat×List (Nat×Option aZ)))(b:Nat)(K:AV U→List (aH U)→Prop)(s0 t0 j0:Nat)(z:Int)(e:En U)(n:Nat)(H:Hs U):Prop:=gR [] [] e (.tmp s0) fun c=>match c with
 | .ptr j 0=>bif Nat.beq j j0&&Ee H j0 then VS (-9223372036854775808≤z∧z≤9223372036854775807) (nA T t0 H (.ptr j0 0) ⟨false,[(1,.d (.int .i64) z)]⟩ fun H=>rY T fn md em b K .r [(s0,.v ⟨false,[(1,.ptr j0 0)]⟩)] n H)else False
 |_=>False
def Lq(GP:c6 U)(T:cW U)(G:c6 U)(fn:Func)(R0 rest:Code)(s0 t0 j0 dM:Nat)(md:List Md)(em:List (Nat×List (Nat×Option aZ)))(e:En U)(b:Nat)(H:Hs U)(K:AV U→List (aH U)→Prop):Prop:=aw T G b R0 e b H fun o e n H=>match o with
 | .n=>gR [] [] e (.tmp s0) fun c=>match c with
  | .ptr j 0=>bif Nat.beq j j0&&Nat.blt j0 n&&rX H j0 then @aw U ⟨GP,fun z e n H=>Oo T fn md em b K s0 t0 j0 z e n H,fun _=>none⟩ T G n rest ((dM,.un)::e) n H (rY T fn md em b K)else False
  |_=>False
 |_=>False
variable [ao] {P:Program} {T:cW U} {G:c6 U} {X:List Nat} {w w0:World} {ρ ρ0:Nat→Rz} {n b:Nat} {H H0:Hs U} {fn:Func} {nt:Nat}
theorem yv{t0 j:Nat}{z:Int}{K:Hs U→Prop}(hT:bf U P T)(hu:P.underlying t0=some (.int .i64))(h:nA T t0 H (.ptr j 0) ⟨false,[(1,.d (.int .i64) z)]⟩ K)(M:aX U X (· =w) ρ n H)(hz: -9223372036854775808≤z∧z≤9223372036854775807){p:Value}(hp:Vw U X w ρ n H (.ptr j 0) [p]){w':World}(hw: ∀a:Act,a.eval (.tmp 0)=p→a.eval (.tmp 1)= .int .i64 z→(execOp a.eval ⟨none,.store t0 (.tmp 0) (.tmp 1),0, "", #[],none⟩).run P w= .ok .skip w'):
  ∃ρ' H',K H'∧aX U X (· =w') ρ' n H'∧bQ ρ n H w ρ' n H' w':=by
 have hA:=t6 (nt:=2) (ce:= [(0,p),(1,.int .i64 z)]) (o:=⟨none,.store t0 (.tmp 0) (.tmp 1),0, "", #[],none⟩) h rfl rfl (xo:= .tmp 0) (yo:= .tmp 1) (u0:=p) (u:= .int .i64 z) rfl rfl hp ?_ hT M
 ·have ha:=hA {tmps:= #[p,.int .i64 z],defers:= []} ⟨rfl,rfl,fun k v hk=>?_⟩
  ·unfold Oper.wp at ha;rw[hw _ rfl rfl]at ha;obtain⟨env',r',av,n',H',ρ',cv,⟨rfl,hK⟩,_,_,M',st⟩:=ha;exact⟨ρ',H',hK,M',st⟩
  ·unfold aI.get at hk;by_cases e:0=k
   ·subst e;simp at hk;subst hk;rfl
   ·rw[cu e]at hk;simp only[cond_false]at hk;unfold aI.get at hk;by_cases e1:1=k
    ·subst e1;simp at hk;subst hk;rfl
    ·rw[cu e1]at hk;simp[aI.get]at hk
 ·exact pg hz
def y5(s0:Nat):Code→Bool
 | .region _ ops _=>ops.toList.all fun o=>o.dst.all fun d=>!Nat.beq s0 d
 | .seq a b=>y5 s0 a&&y5 s0 b
 | .cond _ a b=>y5 s0 a&&y5 s0 b
 | .block _ a=>y5 s0 a
 | .loop a=>y5 s0 a
 |_=>true
omit [ao]in
theorem IP{s0:Nat}{p:Value}(c:Code):y5 s0 c=true→ @qL ⟨[(s0,p)]⟩ c=true:=by
 induction c with
 |region _ ops _=>
  intro h;have h:(ops.toList.all fun o=>o.dst.all fun d=>!Nat.beq s0 d)=true:=h;show(ops.toList.all fun o=> @vg ⟨[(s0,p)]⟩ o.dst)=true
  rw[List.all_eq_true]at h⊢;intro o ho;have h1:=h o ho;unfold vg;cases hd:o.dst with
  |none=>rfl
  |some d=>
   rw[hd]at h1;have h1:(!Nat.beq s0 d)=true:=h1;have h2:Nat.beq s0 d=false:=by simpa using h1
   show(aI.get [(s0,p)] d).isNone=true
   unfold aI.get;rw[h2];rfl
 |seq a b iha ihb=>
  intro h;have h:(y5 s0 a&&y5 s0 b)=true:=h;rw[Bool.and_eq_true]at h;show(@qL ⟨[(s0,p)]⟩ a&& @qL ⟨[(s0,p)]⟩ b)=true
  rw[iha h.1,ihb h.2];rfl
 |cond _ a b iha ihb=>
  intro h;have h:(y5 s0 a&&y5 s0 b)=true:=h;rw[Bool.and_eq_true]at h;show(@qL ⟨[(s0,p)]⟩ a&& @qL ⟨[(s0,p)]⟩ b)=true
  rw[iha h.1,ihb h.2];rfl
 |block _ a ih=>exact fun h=>ih h
 |loop a ih=>exact fun h=>ih h
 |_=>exact fun _=>rfl
omit [ao]in
theorem IQ{f fc:FuncId}{c:aW U}{GP:c6 U}{bx:Int→Value}{R0 rest:Code}{i1:Nat}{mk df:Oper}(hGP:nI P U bx GP)(hG:bi P U G)(hT:bf U P T)(hmo:P.follows .mixedOrders=true)(nt s0 t0 j0 dM:Nat)(md:List Md)(em:List (Nat×List (Nat×Option aZ)))
  (hen:aF P f=true) (hec:aF P fc=true) (hf:P.funcs[f]? =some fn) (hb:fn.body=some (.seq R0 (.seq (.region i1 #[mk,df] false) rest))) (hn:fn.ntmps=nt) (hcd:qB nt R0=true) (hcd1:qB nt rest=true) (hnw:y5 s0 rest=true)
  (hmk:mk.op= .makeFunc (.func fc) #[] #[.tmp s0]) (hmg:mk.guard=none) (hmd:mk.dst=some dM) (hdn:Nat.blt dM nt=true) (hdf:df.op= .defer {callee:= .value (.tmp dM),args:= #[],argTypes:= #[]}) (hdg:df.guard=none) (hdd:df.dst=none)
  (hu:P.underlying t0=some (.int .i64))
  (hcp: ∀(q:Addr) (x z:Int) (w:World),w.cell? q=some (.int .i64 x)→w.frozen? q=false→CallsD P fc #[.pointer (some q)] (.panicking [{v:=bx z,recovered:=false}]) w fun e u' w'=>e= .returned (.tuple #[])∧u'= .panicking [{v:=bx z,recovered:=true}]∧w'=w.setCell q (.int .i64 z))
  (hcr: ∀(q:Addr) (w:World),CallsD P fc #[.pointer (some q)] .returning w fun e u' w'=>e= .returned (.tuple #[])∧u'= .returning∧w'=w)
  (hst: ∀(q:Addr) (x z:Int) (w:World),w.cell? q=some (.int .i64 x)→w.frozen? q=false→ ∀a:Act,a.eval (.tmp 0)= .pointer (some q)→a.eval (.tmp 1)= .int .i64 z→(execOp a.eval ⟨none,.store t0 (.tmp 0) (.tmp 1),0, "", #[],none⟩).run P w= .ok .skip (w.setCell q (.int .i64 z)))
  (h: ∀xs es K,c.run xs es K→Nat.ble xs.length nt=true∧Lq GP T G fn R0 rest s0 t0 j0 dM md em (l8 0 xs) es.length (au 0 es) K):bh P U f c:=fun [F:ao] hpr X w ρ es xs vs K M hv hrun=>by
 obtain⟨hlen,hfun⟩:=h xs es K hrun;unfold Lq at hfun
 have he:aJ (Vw U X w ρ es.length (au 0 es)) [] (l8 0 xs) (bS 0 vs):=by
  refine⟨fun k x _ hk=>?_,fun k l _ hk=>?_,fun k p x hk=>by cases hk⟩
  ·obtain⟨y,u,h1,h2,h3⟩:=fp hv k _ hk;injection h1 with h1;subst h1;exact⟨u,h2,h3⟩
  ·obtain⟨y,u,h1,_⟩:=fp hv k _ hk;cases h1
 have hw:= @pz dfs0 pes0 F U panNone (fun _=> .nilIface) P nt T G X w ρ es.length (au 0 es) (fun f c h=>(by cases h)) (fun o f h=>(by cases h)) (fun z e n H ρ ce w h=>h.elim) ⟨hpr,hG⟩ hT hmo R0 _ _ _ _ ρ _ w hfun hcd (Kw R0) M he M.stp0;refine IM nt s0 dM hen hec hf hb hn (by rw[hv.length];exact hlen) hmk hmg hmd hdn hdf hdg hdd hw (fun ex env w' hq=>?_) (fun ce w1 hq=>?_)
 ·by_cases hpx: ∃c,ex= .panic c
  ·obtain⟨c,rfl⟩:=hpx;obtain⟨_,_,_,_,_,_,_,_,hk,_⟩:=hq;exact hk.elim
  obtain⟨o,e',n',H',ρ',hK,ho,_⟩:=km hpx hq;cases o with
  |n=>cases ex<;>first|exact ho.elim|rfl
  |r=>exact hK.elim
  |x i=>exact hK.elim
 ·obtain⟨o,e1,n1,H1,ρ1,hK,ho,M1,he1,lG⟩:=km (by rintro⟨c,hc⟩;cases hc) hq;cases o with
  |r=>exact hK.elim
  |x i=>exact hK.elim
  |n=>
   obtain⟨d,hK,hd⟩:=bj (show gR [] [] e1 (.tmp s0) _ from hK) he1;split at hK
   ·rename_i j;cases hbb:(Nat.beq j j0&&Nat.blt j0 n1&&rX H1 j0)with
    |false=>rw[hbb]at hK;exact hK.elim
    |true=>
     rw[hbb]at hK;simp only[cond_true]at hK;simp only[Bool.and_eq_true]at hbb;obtain rfl:=Nat.eq_of_beq_eq_true hbb.1.1;obtain⟨u,eu,hu1⟩:=hd cA;obtain⟨hlt,hrow,g,hA,hpe⟩:=hu1;injection hpe with hpe;subst hpe;have same: ∀{z:Int} {e:En U} {n:Nat} {H:Hs U} {ρ2:Nat→Rz} {ce2:aI} {w2:World},Oo T fn md em es.length K s0 t0 j z e n H→aX U X (· =w2) ρ2 n H→aJ (Vw U X w2 ρ2 n H) [] e ce2→bQ ρ1 n1 H1 w1 ρ2 n H w2→
       ce2.get s0=some (.pointer (some ⟨g,0,none⟩))∧Vw U X w2 ρ2 n H (.ptr j 0) [.pointer (some ⟨g,0,none⟩)]∧Ee H j=true∧(-9223372036854775808≤z∧z≤9223372036854775807)∧nA T t0 H (.ptr j 0) ⟨false,[(1,.d (.int .i64) z)]⟩ fun H=>rY T fn md em es.length K .r [(s0,.v ⟨false,[(1,.ptr j 0)]⟩)] n H:=fun{z e n H ρ2 ce2 w2} hk M2 he2 st2=>by
      obtain⟨d2,hk,hd2⟩:=bj (show gR [] [] e (.tmp s0) _ from hk) he2;split at hk
      ·rename_i j2;cases hb2:(Nat.beq j2 j&&Ee H j)with
       |false=>rw[hb2]at hk;exact hk.elim
       |true=>
        rw[hb2]at hk;simp only[cond_true]at hk;simp only[Bool.and_eq_true]at hb2;obtain rfl:=Nat.eq_of_beq_eq_true hb2.1;obtain⟨u2,eu2,hu2⟩:=hd2 cA;have hu3:=hu2;obtain⟨_,_,g2,hA2,hp2⟩:=hu2;injection hp2 with hp2;subst hp2;have:ρ2 j2=ρ1 j2:=st2.cel j2 hlt hrow;rw[this,hA]at hA2;injection hA2 with hA2;injection hA2 with hA2;subst hA2;exact⟨eu2,hu3,hb2.2,hk.1,hk.2⟩
      ·exact hk.elim
     have hw2:= @pz (qP {target:= .fn (.func fc) #[.pointer (some ⟨g,0,none⟩)],args:= #[]}) ⟨[(s0,.pointer (some ⟨g,0,none⟩))]⟩ F U ⟨GP,fun z e n H=>Oo T fn md em es.length K s0 t0 j z e n H,fun _=>none⟩ bx P nt T G X w1 ρ1 n1 H1 hGP (fun o f h=>(by cases h))
      (fun z e n H ρ ce w hk M he st=>⟨(same hk M he st).1,trivial⟩) ⟨hpr,hG⟩ hT hmo rest _ _ _ _ ρ1 ((dM,.func (.func fc) #[] #[.pointer (some ⟨g,0,none⟩)])::ce) w1 hK hcd1 (IP rest hnw) M1
      (he1.putV (R:= []) (S:= []) ⟨fun k hk=>absurd rfl hk,fun k av hk=>(by cases hk),fun k hk=>absurd rfl hk⟩ (by simp) (av:= .un) (cv:= .func (.func fc) #[] #[.pointer (some ⟨g,0,none⟩)]) trivial).1 M1.stp0
     refine⟨_,eu,_,hw2,fun ex env2 w2 hq2=>?_⟩;by_cases hpx: ∃c,ex= .panic c
     ·obtain⟨c,rfl⟩:=hpx;obtain⟨z,e2,n2,H2,ρ2,ce2,rfl,hce,hk,M2,he2,st2⟩:=hq2;refine .inr ⟨bx z,rfl,?_⟩;obtain⟨_,hp,hib,hzr,hS⟩:=same hk M2 he2 st2;have hcell: ∃x:Int,w2.cell? ⟨g,0,none⟩=some (.int .i64 x)∧w2.frozen? ⟨g,0,none⟩=false:=by
       unfold Ee at hib;split at hib
       ·rename_i kk x ty hl;obtain⟨g3,y9,hA3,hs3,hw3⟩:=M2.ent _ (af hl);obtain⟨_,_,g4,hA4,hp4⟩:=hp;rw[hA3]at hA4;injection hA4 with hA4;injection hA4 with hA4;injection hp4 with hp4;injection hp4 with hp4;injection hp4 with hp4;injection hp4 with hp4;subst hp4;subst hA4;have h1:=bJ.one1 hs3;obtain⟨rfl,_⟩:=(aC.inv (s:= .int .i64) h1.1);have:=AI (hw3 w2 rfl) (j:=0) (by simp);exact⟨x,this.1,this.2⟩
       ·cases hib
      obtain⟨x,hc1,hc2⟩:=hcell;refine(hcp ⟨g,0,none⟩ x z w2 hc1 hc2).mono ?_;rintro e3 u3 w3 ⟨rfl,rfl,rfl⟩;obtain⟨ρ3,H3,hE,M3,st3⟩:=yv hT hu hS M2 hzr hp (hst ⟨g,0,none⟩ x z w2 hc1 hc2);have he3:aJ (Vw U X (w2.setCell ⟨g,0,none⟩ (.int .i64 z)) ρ3 n2 H3) [] [(s0,.v ⟨false,[(1,.ptr j 0)]⟩)] [(s0,.pointer (some ⟨g,0,none⟩))]:=by
       refine⟨fun k x _ hk=>?_,fun k l _ hk=>?_,fun k p x hk=>(by cases hk)⟩
       ·by_cases e1:s0=k
        ·subst e1;rw[nH]at hk;injection hk with hk;injection hk with hk;subst hk;exact⟨_,nM,gz (bd.step st3 hp)⟩
        ·rw[dP e1]at hk;cases hk
       ·by_cases e1:s0=k
        ·subst e1;rw[nH]at hk;injection hk with hk;cases hk
        ·rw[dP e1]at hk;cases hk
      obtain⟨v,hres,r,es',ρ4,_,k1,k2,k3,k4⟩:= @jE (qP {target:= .fn (.func fc) #[.pointer (some ⟨g,0,none⟩)],args:= #[]}) F U P nt T X _ w ρ3 ρ n2 es.length H3 (au 0 es) _ _ fn hT md em K .r hE M3 he3 ((lG.trans st2).trans st3);refine⟨_,rfl,rfl,v,?_,r,es',ρ4,k1,k2,k3,k4⟩;rw[hce];exact hres
     ·obtain⟨o,e2,n2,H2,ρ2,hK2,ho2,M2,he2,st2⟩:= @km (qP {target:= .fn (.func fc) #[.pointer (some ⟨g,0,none⟩)],args:= #[]}) ⟨[(s0,.pointer (some ⟨g,0,none⟩))]⟩ F U ⟨GP,fun z e n H=>Oo T fn md em es.length K s0 t0 j z e n H,fun _=>none⟩ bx X _ w1 ρ1 n1 H1 env2 _ ex hpx hq2;refine .inl ⟨?_,?_⟩
      ·cases o with
       |n=>cases ex<;>first|exact ho2.elim|exact .inl rfl
       |r=>cases ex<;>first|exact ho2.elim|exact .inr rfl
       |x i=>exact hK2.elim
      ·refine(hcr ⟨g,0,none⟩ w2).mono ?_;rintro e3 u3 w3 ⟨rfl,rfl,rfl⟩;obtain⟨v,hres,r,es',ρ4,_,k1,k2,k3,k4⟩:= @jE (qP {target:= .fn (.func fc) #[.pointer (some ⟨g,0,none⟩)],args:= #[]}) F U P nt T X _ w ρ2 ρ n2 es.length H2 (au 0 es) _ _ fn hT md em K o hK2 M2 he2 (lG.trans st2);exact⟨_,rfl,rfl,v,hres,r,es',ρ4,k1,k2,k3,k4⟩
   ·exact hK.elim
end
end Go.Proofs.YtmpeiadlohbikaaGreatDoor.V
end

section
set_option linter.unusedVariables false
set_option linter.unusedSimpArgs false
namespace Go.Proofs.YtmpeiadlohbikaaGreatDoor
open Go.RowKit
section
variable [bB] {P:Program} {n:Nat} {env:aI} {S:World→Prop} {o:Oper}
theorem LM{t:Nat}{x:Operand}{v:Value}(ho:o.op= .makeInterface t x)(hx:env.ev x=some v)(ht:P.concrete t=true):ci P n env S o (.iface t v):=fun a r w _=>by
 have h:=run_makeInterface (P:=P) w t v ht;unfold execOp;simp only[ho,r.eval hx,Sem.run_bind,h,Result.andThen_ok];rfl
end
end Go.Proofs.YtmpeiadlohbikaaGreatDoor
end

section
set_option linter.unusedVariables false
set_option linter.unusedSimpArgs false
namespace Go.Proofs.YtmpeiadlohbikaaGreatDoor
theorem vW(v:Value)(w:World):(Instr.typeAssert (.iface 231 v) 20 231 true).run Tryz.prog w= .ok (.tuple #[v,.bool true]) w:=by kernel_rfl
theorem vX(w:World):(Instr.typeAssert .nilIface 20 231 true).run Tryz.prog w= .ok (.tuple #[.int .i64 0,.bool false]) w:=by kernel_rfl
set_option maxRecDepth 100000
theorem Ec(p:Addr)(x z:Int)(older:List PanicEntry)(w:World)(hc:w.cell? p=some (.int .i64 x))(hz:w.frozen? p=false):
  CallsD Tryz.prog 132 #[.pointer (some p)] (.panicking ({v:= .iface 231 (.int .i64 z),recovered:=false}::older)) w fun e u' w'=>
   e= .returned (.tuple #[])∧u'= .panicking ({v:= .iface 231 (.int .i64 z),recovered:=true}::older)∧w'=w.setCell p (.int .i64 z):=by
 refine callsD_of_wpS Tryz.func132 rfl fun c₀ cs hu=>?_;apply wpS_seq;apply wpS_region;simp[wpOpsS,go_sem,recoverD,hu,Tryz.ntmps132,Exit.thenS,vW];apply wpS_seq;apply wpS_region;simp[wpOpsS,go_sem,Exit.thenS];refine wpS_cond (t:=true) (by simp[Act.eval,Array.replicate]) ?_;simp only[if_true];apply wpS_region;simp[wpOpsS,go_sem,hc,hz,bodyPostS,results,Tryz.results132]
theorem Ed(p:Addr)(w:World):
  CallsD Tryz.prog 132 #[.pointer (some p)] .returning w fun e u' w'=>e= .returned (.tuple #[])∧u'= .returning∧w'=w:=by
 refine callsD_of_wpS Tryz.func132 rfl fun c₀ cs hu=>?_;apply wpS_seq;apply wpS_region;simp[wpOpsS,go_sem,recoverD,hu,Tryz.ntmps132,Exit.thenS,vX];apply wpS_seq;apply wpS_region;simp[wpOpsS,go_sem,Exit.thenS];refine wpS_cond (t:=false) (by simp[Act.eval,Array.replicate]) ?_;simp only[Bool.false_eq_true,if_false];refine wpS_of_wp (wp_skip ?_);cases c₀;simp_all[bodyPostS,results,Tryz.results132]
end Go.Proofs.YtmpeiadlohbikaaGreatDoor
end

section
set_option linter.unusedVariables false
set_option linter.unusedSimpArgs false
namespace Go.Proofs.YtmpeiadlohbikaaGreatDoor
open Go.RowKit
def y6(z:Int):Value:= .iface 231 (.int .i64 z)
theorem Ef(b:Bool)(z:Int)(w:World):xC Tryz.prog 133 [.bool b,.int .i64 z] w (fun v w'=>b=true∧v= .tuple #[]∧w'=w) (fun v w'=>b=false∧v=y6 z∧w'=w):=by
 refine A3 8 (by kernel_rfl) Tryz.func133 (show Tryz.f133.body=some _ from rfl) rfl rfl ?_;refine sq fun K hK=>rg (Lm rfl (Ly rfl (yn rfl) (Ln hK ?_)));refine QP rfl (fun h=>?_) (fun h=>?_)
 ·refine rg (Lm rfl (Ly rfl (LM rfl rfl (by kernel_rfl)) (A4 (fN rfl) rfl rfl ?_)));exact⟨_,rfl,by simpa using h,rfl,rfl⟩
 ·exact dW ⟨_,Jr rfl,h,rfl,rfl⟩
theorem IR(q:Addr)(x z:Int)(w:World)(hc:w.cell? q=some (.int .i64 x))(hz:w.frozen? q=false)(a:Act)(h0:a.eval (.tmp 0)= .pointer (some q))(h1:a.eval (.tmp 1)= .int .i64 z):(execOp a.eval ⟨none,.store 3 (.tmp 0) (.tmp 1),0, "", #[],none⟩).run Tryz.prog w= .ok .skip (w.setCell q (.int .i64 z)):=by
 have h0:a.tmps[0]?.getD undef= .pointer (some q):=by simpa[Act.eval]using h0
 have h1:a.tmps[1]?.getD undef= .int .i64 z:=by simpa[Act.eval]using h1
 simp[go_sem,h0,h1,hc,hz,storeCells]
def SX:Option Code→Code
 |some (.seq a (.seq _ _))=>a
 |_=> .skip
def Lt:Option Code→Code
 |some (.seq _ (.seq _ b))=>b
 |_=> .skip
namespace V
def yy:aW U:=⟨[.n,.n],fun xs es K=> ∃(b:Bool) (z:Int),xs= [⟨false,[(1,.d .bool b)]⟩,⟨false,[(1,.d (.int .i64) z)]⟩]∧es= []∧y2 b (K (.tup []) []) (K (.pan z) [])⟩
theorem ur:mN Tryz.prog U y6 133 yy:=fun [F:ao] hpr X w ρ es xs vs K M hv hrun=>by
 obtain⟨b,z,rfl,rfl,h⟩:=hrun;obtain⟨v,us,rfl,ha,v2,us2,rfl,hb,h3⟩:=hv;rw[show us2= []from h3];obtain rfl:=ug _ _ _ ha;obtain⟨e2,_⟩:=aC.inv (show aC U _ _ (.int .i64) z [v2]from(bJ.one1 hb).1);injection e2 with e2;subst e2;refine xC.mono (Ef b z w) (fun v w' q=>?_) (fun v w' q=>?_)
 ·obtain⟨q1,rfl,rfl⟩:=q;exact⟨.tup [],[],ρ,(fun z h=>by cases h),h.1 q1,⟨[],rfl,rfl⟩,M,M.stp0⟩
 ·obtain⟨q1,rfl,rfl⟩:=q;exact⟨z,rfl,[],ρ,h.2 q1,M,M.stp0⟩
end V
end Go.Proofs.YtmpeiadlohbikaaGreatDoor
end

/- The library's contracts at this seat's functions. -/
import Derived.Test.YtfgofabojepcmaaGreatDoorSp14
import Derived.Test.YtfgofabojepcmaaGreatDoorSp13
import Derived.Test.YtfgofabojepcmaaGreatDoorProg
import Derived.Test.YtfgofabojepcmaaGreatDoorSp2
section
set_option linter.unusedVariables false
set_option linter.unusedSimpArgs false
namespace Go.Proofs.YtfgofabojepcmaaGreatDoor.V
open Go.RowKit Go.Shelf Go.Lib Go.Sort
def LE{U:bJ}(c1 c2:bZ U):bZ U:=⟨c1.md,fun xs es K=> ∃b:Bool,bif b then c1.run xs es K else c2.run xs es K⟩
theorem I1{U:bJ}{P:Program}{f:FuncId}{c1 c2:bZ U}(h1:aQ P U f c1)(h2:aQ P U f c2):aQ P U f (LE c1 c2):=fun [F:al] hpr X w ρ es xs vs K M hv ⟨b,hb⟩=>by
 cases b with
 |true=>exact h1 hpr X w ρ es xs vs K M hv hb
 |false=>exact h2 hpr X w ρ es xs vs K M hv hb
theorem nv{v:Value}(h:v.oneCell'=true):v.cells= #[v]:=by cases v<;>first|rfl|cases h
theorem zD{P:Program}{f et:Nat}{fn:Go.Func}{ρf ρt:Nat→Nat}(hen:bI P f=true)(hf:P.funcs[f]? =some fn)(hb:fn.body=some (i7 ρf ρt (io Tryz.f295)))(hn:fn.ntmps=16)(hr0:fn.results= #[])
  {α:Type} [Inhabited α] {enc:α→Value} (pl:cA P (ρt 80)=true) (es:bn P (ρt 80)=some (ρt 9,1)) (un:P.underlying (ρt 80)=some (.slice et)) (plE:cA P (ρt 9)=true)
  {X:List Nat} {w:World} {A:Option Addr} {c gs:Nat} {ls:List α} (hS:jA X w A ls.length c 1 (ls.flatMap fun x=> [enc x])) (hgs:w.heap[gs]? =some (Cl [.slice A ls.length c] (ρt 80)))
  (l:Nat) (W0:World) (hf0:Fr [] w W0) (Q:World→Prop) (J:List α→World→Prop) (h0:J [] W0) (hst: ∀xs W W',J xs W→Fr [] W W'→J xs W')
  (hy: ∀xs x W,(∃ys,xs++x::ys=ls)→J xs W→kG P l [enc x] W (fun W'=>J (xs++ [x]) W'∧ ∃O,Fr O W W'∧ ∀o∈O,w.heap.size≤o) (fun _=>False)) (hQ: ∀W,J ls W→Q W):
  Fn P f [.func (.yield l) #[] #[],.pointer (some ⟨gs,0,none⟩)] W0 fun _ W'=>Q W':=by
 refine n5 16 hen hf hb hn rfl ?_;dsimp only[dL];have qG:Hp W0 [(some gs,Cl [.slice A ls.length c] (ρt 80))]:=(Hp.one1 hgs).keep0 hf0;refine sq fun _ k1=>rg (Ly rfl (br (i:=0) rfl rfl pl (fun _ e=>e▸qG) rfl rfl) (Ly rfl (GT rfl un) (Lm rfl (Ln k1 (cz ?_)))));refine xh (fun k e W=> ∃(q:Nat),k=ls.length - q∧q≤ls.length∧e= [(0,.func (.yield l) #[] #[]),(5,.slice A ls.length c),(6,.int .i64 (ls.length:Int)),(7,.int .i64 (q:Int))]∧J (ls.take q) W∧Fr [] w W) (ls.length) [(0,_),(5,_),(6,_),(7,_)] ⟨rfl,rfl,rfl,rfl,trivial⟩ ⟨0,rfl,Nat.zero_le _,rfl,h0,hf0⟩ ?_;rintro k e W ⟨q,rfl,hq,rfl,hj,hF⟩;have hS1:=hS.stable (hF.mono (by simp)) (Y:=X) (fun y hy=> .inl hy);have hle:=hS1.le;refine sq fun _ k2=>rg (Ly rfl (Iy rfl) (Ln k2 (sq fun _ k3=>cD rfl (fun hc=>?_) (fun hc=>?_))))
 ·have hql:q<ls.length:=by omega
  refine sk k3 (sq fun _ k4=>cz (sq fun _ k5=>rg ?_));obtain⟨g,b,rfl⟩:=hS1.addr (fun _=>rfl) Nat.one_pos (q:=(q:Int)) (by omega) (by omega);refine Ly rfl (kB (q:=(q:Int)) rfl rfl rfl es (by omega) (by omega)) ?_;refine Ly rfl (mZ (q:=(q:Int)) 0 rfl rfl plE (fun _ e=>e▸hS1) (fun _=>rfl) (by omega) (by omega) rfl) ?_;refine nD rfl (Ln k5 (sq fun _ k6=>rg (Lm rfl (Lm rfl ?_))));have hix:ix ls (q:Int)=ls[q]:=by unfold ix;simp[List.getElem?_eq_getElem hql]
  have hyl:=hy (ls.take q) (ix ls (q:Int)) W ⟨ls.drop (q+1),by rw[hix];simp⟩ hj;have htk:ls.take q++ [ix ls (q:Int)]=ls.take (q+1):=by rw[hix];simp
  refine xq (aR rfl) rfl rfl rfl rfl rfl hyl (fun W4 hT=>?_) (fun W4 hT=>hT.elim);obtain⟨hj,O,hfO,hgO⟩:=hT;rw[htk]at hj;refine Ly rfl (xD rfl rfl) (Ln k6 (dI rfl (dH (rG (cg (k4 _ _ (rg (Ly rfl (jm (c:=(q:Int)+1) rfl rfl rfl (pc (by omega))) ?_))))))));refine Lm rfl (bq (cg ?_));exact⟨ls.length -(q+1),[(0,_),(5,_),(6,_),(7,_)],by omega,⟨rfl,rfl,rfl,rfl,trivial⟩,q+1,rfl,by omega,rfl,hj,hF.step hfO (fun y hy=> .inr (hgO y hy))⟩
 ·refine lZ (ui (ui (pf (fE (Hh hr0) ?_))));refine hQ _ ?_
  rwa [List.take_of_length_le (by omega)]at hj
theorem tG{P:Program}{f gf by_:Nat}{fn:Go.Func}{ρf ρt:Nat→Nat}(hen:bI P f=true)(hf:P.funcs[f]? =some fn)(hb:fn.body=some (i7 ρf ρt (io Tryz.f342)))(hn:fn.ntmps=13)(hr0:fn.results= #[.tmp 4])(heg:bI P gf=true)
  {α:Type} {enc:α→Value} {z:List Value} (es:bn P (ρt 80)=some (ρt 9,1)) (plS:cA P (ρt 80)=true) (aS:(P.info? (ρt 80)).map (·.size)=some 1) (zc:zeroCells P (ρt 9)=some z) (hz:z.length=1) (hby:(P.info? (ρt 9)).map (·.bytes)=some by_) (hbb:by_≤100000) (zcS:zeroCells P (ρt 80)=some [.slice none 0 0])
  (lb:List Value) (w:World) {ok:List α→α→Prop} {KS:List α→Prop} (hok: ∀xs x,ok xs x→xs.length+1≤1000000∧(enc x).oneCell'=true) (hIt:Mi P gf lb w enc ok KS):
  Fn P f [.slice none 0 0,.func (.func gf) #[] lb.toArray] w fun v w'=> ∃(xs:List α) (A:Option Addr) (c:Nat) (sp:List Value),KS xs∧v= .slice A xs.length c∧Ow A xs.length c 1 (xs.flatMap (fun x=> [enc x])) sp∧(∀g,ao A=some g→w'.heap[g]? =some (Cl (xs.flatMap (fun x=> [enc x])++sp) (ρt 9))∧w.heap.size≤g)∧Fr [] w w':=by
 refine Ez 13 hen hf hb hn rfl ?_;dsimp only[dL];refine rI (G9 fun K1 hK1=>?_);refine rg (La rfl (xG rfl rfl rfl rfl rfl (Hp.nil w) fun g2 w1 hp hf1 hg2=>?_));have hp:Hp w1 [(some g2,Cl [.slice none 0 0] (ρt 80))]:=hp;refine nD rfl (bq (cg (hK1 _ _ ?_)));refine rI (rI (G9 fun K2 hK2=>?_));refine rg (Lm rfl (bq (cg (hK2 _ _ ?_))));refine Hd (lb:=lb) rfl heg (fun c Dm l wL hc1 hc2 hc3 htm hF0 hDn hln hpush=>?_);have hp:Hp wL [(some g2,Cl [.slice none 0 0] (ρt 80)),(some Dm,.deferred (some [])),(some l,Lr c .ready none)]:=hpush _ hp;have hF:=hf1.step0 hF0;have hl0:w.heap.size≤l:=Nat.le_trans hf1.size hln;have hD0:w.heap.size≤Dm:=Nat.le_trans hf1.size hDn;have l0:=hp.lt (i:=0) rfl;have l1:=hp.lt (i:=1) rfl;have l2:=hp.lt (i:=2) rfl;refine(hIt l wL hF (fun xs W=> ∃(A:Option Addr) (c':Nat) (sp:List Value),Hp W [(some g2,Cl [.slice A xs.length c'] (ρt 80)),(some Dm,.deferred (some [])),(some l,Lr c .ready none),(ao A,Cl (xs.flatMap (fun x=> [enc x])++sp) (ρt 9))]∧Ow A xs.length c' 1 (xs.flatMap (fun x=> [enc x])) sp∧Fr [] w W∧ ∀g,ao A=some g→w.heap.size≤g) (fun xs W=> ∃(A:Option Addr) (c':Nat) (sp:List Value),Hp W [(some g2,Cl [.slice A xs.length c'] (ρt 80)),(some Dm,.deferred (some [])),(some l,Lr c .ready none),(ao A,Cl (xs.flatMap (fun x=> [enc x])++sp) (ρt 9))]∧Ow A xs.length c' 1 (xs.flatMap (fun x=> [enc x])) sp∧Fr [] w W∧(∀g,ao A=some g→w.heap.size≤g)) ?_ ?_ ?_ ?_).mono (fun _ W' hq=>?_)
 ·exact⟨none,0,[],zC hp _,Ow.nil 1,hF,fun g e=>(by cases e)⟩
 ·rintro xs W1 W2 ⟨A,c',sp,hp,how,hG,hA⟩ hf;exact⟨A,c',sp,hp.keep0 hf,how,hG.step hf (fun y hy=>by cases hy),hA⟩
 ·rintro xs x W1 hx ⟨A,c',sp,hp,how,hG,hA⟩;obtain⟨hN,hx3⟩:=hok xs x hx;have hF:=Fr.refl ([l,g2]++(ao A).toList) W1;refine xr [7] hc1 rfl rfl (hp.at (i:=2) rfl) htm (fun [inst:bF]=>?_);rw[hc2];dsimp only[ph];refine rg (nD rfl ?_);refine bq (cg ⟨_,2,hp,rfl,fun W4 hp hf4=>?_⟩);have hp:Hp W4 [(some g2,Cl [.slice A xs.length c'] (ρt 80)),_,(some l,Lr c .busy none),(ao A,Cl (xs.flatMap (fun x=> [enc x])++sp) (ρt 9))]:=hp;have hF:=hF.step hf4 (fun y hy=> .inl (by simp at hy;subst hy;simp));rw[hc3];refine cz ?_;refine rg (Ly rfl (br (i:=0) rfl rfl plS (fun _ e=>e▸hp) rfl rfl) (Lm rfl ?_));refine La rfl (GY (ps:= [(0,.tmp 9)]) (vs:= [enc x]) rfl rfl rfl rfl rfl es zc hz (by decide) (fun v hv=>by rw[List.mem_singleton.1 hv];exact nv hx3) hp fun g6 W5 hp hf5 hg6=>?_);have hp:Hp W5 [(some g2,Cl [.slice A xs.length c'] (ρt 80)),_,(some l,Lr c .busy none),(ao A,Cl (xs.flatMap (fun x=> [enc x])++sp) (ρt 9)),(some g6,Cl [enc x] (ρt 9))]:=hp;have hF:=hF.step0 hf5;refine La rfl (kE (i:=3) (news:= [enc x]) rfl rfl rfl rfl rfl rfl es zc hz hby Nat.one_pos how hp rfl (by rfl) (Ep (by have:=n6 hp (i:=4) rfl;exact this)) (fun e=>by cases e) (fun v hv=>by rw[List.mem_singleton.1 hv];exact hx3) (by show xs.length+1≤maxLen;unfold maxLen;omega) (mb (by omega) hbb) fun A' c2 sp' W6 how' hp hf6 hA'=>?_);have hp:Hp W6 [(some g2,Cl [.slice A xs.length c'] (ρt 80)),_,(some l,Lr c .busy none),(ao A',Cl (xs.flatMap (fun x=> [enc x])++ [enc x]++sp') (ρt 9)),(some g6,Cl [enc x] (ρt 9))]:=hp;have hF5:=hF;have hF:=hF.step hf6 (fun y hy=> .inl (List.mem_append_right _ hy));refine La rfl (Bc (i:=0) rfl rfl rfl rfl rfl aS rfl hp rfl (by simp) fun W7 hp hf7 _=>?_);have hp:Hp W7 [(some g2,Cl [.slice A' (xs.length+1) c2] (ρt 80)),(some Dm,.deferred (some [])),(some l,Lr c .busy none),(ao A',Cl (xs.flatMap (fun x=> [enc x])++ [enc x]++sp') (ρt 9)),(some g6,Cl [enc x] (ρt 9))]:=hp;have hF:=hF.step hf7 (fun y hy=> .inl (by simp at hy;subst hy;simp));refine bq (rG (KI (i:=2) hp rfl (fun W8 hp hf8=>?_)));have hp:Hp W8 [(some g2,Cl [.slice A' (xs.length+1) c2] (ρt 80)),(some Dm,.deferred (some [])),(some l,Lr c .ready none),(ao A',Cl (xs.flatMap (fun x=> [enc x])++ [enc x]++sp') (ρt 9)),(some g6,Cl [enc x] (ρt 9))]:=hp;have hF:=hF.step hf8 (fun y hy=> .inl (by simp at hy;subst hy;simp));have efm:(xs++ [x]).flatMap (fun x=> [enc x])=xs.flatMap (fun x=> [enc x])++ [enc x]:=by simp
  have hO: ∀y∈ [l,g2]++(ao A).toList,w.heap.size≤y:=fun y hy=>by
   rcases List.mem_append.1 hy with hy|hy
   ·simp at hy;rcases hy with rfl|rfl
    ·exact hl0
    ·exact hg2
   ·exact hA y (by simpa using hy)
  refine⟨⟨A',c2,sp',?_,?_,hG.step hF (fun y hy=> .inr (hO y hy)),fun g hg=>?_⟩,_,hF,hO⟩
  ·rw[efm,List.length_append];exact hp.pk [0,1,2,3] (by decide)
  ·rw[efm,List.length_append];exact how'
  ·rcases hA' g hg with h|h
   ·exact hA g h
   ·have h1:=hF5.size;have h2:=hG.size;omega
 ·rintro xs W1 hKS ⟨A,c',sp,hp,how,hG,hA⟩;exact⟨A,c',sp,hp,how,hG,hA⟩
 obtain⟨xs,hKS,A,c',sp,hp,how,hG,hA⟩:=hq;refine .inl ⟨_,2,hp,rfl,?_⟩;intro W2 hp hf inst;have hp:Hp W2 [(some g2,Cl [.slice A xs.length c'] (ρt 80)),(some Dm,.deferred (some [])),_,(ao A,Cl (xs.flatMap (fun x=> [enc x])++sp) (ρt 9))]:=hp;have hG:=hG.step hf (fun y hy=> .inr (by simp at hy;subst hy;exact hl0));refine bi fun K3 hK3=>?_;refine rg (Ly rfl (br (i:=0) rfl rfl plS (fun _ e=>e▸hp) rfl rfl) (nD rfl (bq (cg (hK3 _ _ ?_)))));refine wR (iE (A3 (i:=1) hp rfl (fun WE hp hf=>⟨_,Ba hr0 rfl,xs,A,c',sp,hKS,rfl,how,fun g hg=>⟨?_,hA g hg⟩,hG.step hf (fun y hy=> .inr (by simp at hy;subst hy;exact hD0))⟩)));exact hp.at (i:=3) (by rw[←hg];rfl)
theorem zE{U:bJ}{Y:List Nat}{w:World}(e:Em U Y w .str):e.c.length=1:=e.hl
def FL{U:bJ}{Y:List Nat}{w:World}(e:Em U Y w .str):Value:=e.c.headD .nilIface
theorem LF{U:bJ}{Y:List Nat}{w:World}(e:Em U Y w .str):e.c= [FL e]:=by
 unfold FL;have:=zE e;match e.c,this with
 | [a],_=>rfl
theorem FM{U:bJ}{Y:List Nat}{w:World}(l:List (Em U Y w .str)):l.flatMap (·.c)=l.flatMap (fun e=> [FL e]):=by
 congr 1;funext e;exact LF e
def p3(U:bJ)(s:bj)(fk tm el:Nat):bZ U:=⟨[.n,.n],fun xs es K=> ∃l:List (TT U.ty s),xs= [⟨false,[(1,.nils)]⟩,⟨false,[(1,.clo fk [0])]⟩]∧es= [.cells [(1,.d (.sl s) l)] tm]∧l.length≤1000000∧
 K (.v ⟨false,[(1,.own 1 0)]⟩) [.cells [(1,.d (.sl s) l)] tm,.row 0 s l el]⟩
theorem ri{U:bJ}{P:Program}{fi fk et:Nat}{fn fn1:Go.Func}{ρf ρt ρf1 ρt1:Nat→Nat}{ei:TI U}
  (hen:bI P fi=true) (hf:P.funcs[fi]? =some fn) (hb:fn.body=some (i7 ρf ρt (io Tryz.f342))) (hn:fn.ntmps=13) (hr0:fn.results= #[.tmp 4])
  (hen1:bI P fk=true) (hf1:P.funcs[fk]? =some fn1) (hb1:fn1.body=some (i7 ρf1 ρt1 (io Tryz.f295))) (hn1:fn1.ntmps=16) (hr1:fn1.results= #[]) (h34:ρt1 9=ρt 9) (h91:ρt1 80=ρt 80)
  (es:bn P (ρt 80)=some (ρt 9,1)) (un:P.underlying (ρt 80)=some (.slice et)) (plS:cA P (ρt 80)=true) (szS1:(P.info? (ρt 80)).map (·.size)=some 1) (zcS:zeroCells P (ρt 80)=some [.slice none 0 0]) (plE:cA P (ρt 9)=true)
  (hti:bT U P (ρt 9) ei) (hz: ∃z,cQ 20 .str ei.zero fun x=>x=z) (hbb:ei.by_≤100000):aQ P U fi (p3 U .str fk (ρt1 80) (ρt 9)):=fun [F:al] hpr X w ρ es0 xs vs K M hv hrun=>by
 obtain⟨l,rfl,rfl,hl,hK⟩:=hrun;obtain⟨v1,us1,rfl,h1,v2,us2,rfl,h2,h3⟩:=hv;rw[show us2= []from h3];have e1: [v1]= [Value.slice none 0 0]:=(bK.one1 h1).1;injection e1 with e1;subst e1;obtain⟨e2,hall⟩:=(bK.one1 h2).1;injection e2 with e2;subst e2;obtain⟨g0,vs0,hA0,hs0,hw0⟩:=M.ent (0,.cells [(1,.d (.sl .str) l)] (ρt1 80)) (by simp[aJ]);obtain⟨I,hu⟩:=sI hti hz (aj ρ (aJ 0 [aN.cells [(1,.d (.sl .str) l)] (ρt1 80)])++X) w;obtain⟨v3,v4,rfl,hl1,hx,hr⟩:=hs0;rw[show v4= []from hr,List.append_nil]at hw0;have hx:aG U (aj ρ (aJ 0 [aN.cells [(1,.d (.sl .str) l)] (ρt1 80)])++X) (· =w) (.sl .str) l v3:=hx;obtain⟨v,rfl⟩:=rh hx;obtain⟨A,c,em,e1,rfl,e2,hS⟩:=rf hx;have key:([0].map fun j=>Value.pointer (ρ j).A)= [Value.pointer (some ⟨g0,0,none⟩)]:=by simp[hA0]
 rw[key];refine Fn.mono (tG (enc:=fun e:Em U (aj ρ (aJ 0 [aN.cells [(1,.d (.sl .str) l)] (ρt1 80)])++X) w .str=>FL e) (KS:=fun xs=>xs=em) (ok:=fun xs x=> ∃ys,xs++x::ys=em) hen hf hb hn hr0 hen1 es plS szS1 hu (default:Em U (aj ρ (aJ 0 [aN.cells [(1,.d (.sl .str) l)] (ρt1 80)])++X) w .str).hl hti.by_ hbb zcS _ w ?_ ?_) ?_
 ·rintro xs x ⟨ys,hp⟩;refine⟨?_,x.h1 _ (by rw[LF x];exact List.mem_singleton.2 rfl)⟩;have:=congrArg List.length hp;simp only[List.length_append,List.length_cons]at this;omega
 ·intro l' W hf0 Q J h0 hst hy hQ;refine Fn.mono (zD (enc:=fun e:Em U (aj ρ (aJ 0 [aN.cells [(1,.d (.sl .str) l)] (ρt1 80)])++X) w .str=>FL e) hen1 hf1 hb1 hn1 hr1 (by rw[h91];exact plS) (by rw[h91,h34];exact es) (by rw[h91];exact un) (by rw[h34];exact plE)
   (by rw[←FM];exact hS) (hw0 w rfl) l' W hf0 (fun W'=>Q em W') J h0 hst (fun xs x W1 hx hj=>hy xs x W1 hx hj) (fun W1 hj=>hQ _ _ rfl hj)) fun v W' hq=>⟨em,rfl,hq⟩
 ·rintro v w' ⟨ks,A',c',sp,rfl,rfl,how,hblk,hF⟩;have hden:=rb ks;rw[←FM]at how hblk;rw[e1]at hden;rw[e2]at how⊢;obtain⟨ρ',a1,a2,a3⟩:=FJ (s:= .str) (el:=ρt 9) M hF Nat.one_pos hden how (fun g hg=>(hblk g hg).1) (fun g hg=>(hblk g hg).2);obtain⟨m2,s2⟩:=wa (H':=aJ 0 [aN.cells [(1,.d (.sl .str) l)] (ρt1 80),.row 0 .str l (ρt 9)]) a2 (List.perm_append_singleton (1,aN.row 0 .str l (ρt 9)) (aJ 0 [aN.cells [(1,.d (.sl .str) l)] (ρt1 80)]));exact⟨_,_,ρ',hK,a1.imp fun _ _ h=>h.step s2,m2,a3.trans s2⟩
def wh(U:bJ)(s:bj)(fk tm el:Nat):bZ U:=⟨[.n],fun xs es K=> ∃l:List (TT U.ty s),xs= [⟨false,[(1,.clo fk [0])]⟩]∧es= [.cells [(1,.d (.sl s) l)] tm]∧l.length≤1000000∧
 K (.v ⟨false,[(1,.own 1 0)]⟩) [.cells [(1,.d (.sl s) l)] tm,.row 0 s l el]⟩
def FN(U:bJ)(s:bj)(fk tm:Nat):bZ U:=⟨[.d (.sl s)],fun xs es K=> ∃l:List (TT U.ty s),xs= [⟨false,[(1,.d (.sl s) l)]⟩]∧es= []∧K (.v ⟨false,[(1,.clo fk [0])]⟩) [.cells [(1,.d (.sl s) l)] tm]⟩
def zF(U:bJ)(fk tm el:Nat):bZ U:=⟨[.n],fun xs es K=> ∃l:List (List UInt8),xs= [⟨false,[(1,.clo fk [0])]⟩]∧es= [.cells [(1,.d (.sl .str) l)] tm]∧l.length≤1000000∧
 K (.v ⟨false,[(1,.own 1 0)]⟩) [.cells [(1,.d (.sl .str) l)] tm,.row 0 .str (bE l) el]⟩
section
variable {U:bJ} {P:Program} {fi:Nat}
def lu(s:List UInt8):Int:=match Lib.atoiAll s with| .ok v=>v| .range=>Lib.atoiSat s|_=>0
def sK(s:List UInt8):dr:=match Lib.atoiAll s with| .ok _=> .nil|_=> .oth
def B1(U:bJ):bZ U:=⟨[.d .str],fun xs es K=> ∃s:List UInt8,xs= [⟨false,[(1,.d .str s)]⟩]∧es= []∧s.length≤1000000∧K (.tup [⟨false,[(1,.d (.int .i64) (lu s))]⟩,⟨false,[(1,.d .err (sK s))]⟩]) []⟩
def B2(U:bJ):bZ U:=⟨[.d (.int .i64)],fun xs es K=> ∃n:Int,xs= [⟨false,[(1,.d (.int .i64) n)]⟩]∧es= []∧K (.v ⟨false,[(1,.d .str (Lib.itoa n))]⟩) []⟩
def FO(U:bJ):bZ U:=⟨[.d .str,.d .str],fun xs es K=> ∃s sep:List UInt8,xs= [⟨false,[(1,.d .str s)]⟩,⟨false,[(1,.d .str sep)]⟩]∧es= []∧s.length≤1000000∧
 K (.tup [⟨false,[(1,.d .str (Lib.cut s sep).1)]⟩,⟨false,[(1,.d .str (Lib.cut s sep).2.1)]⟩,⟨false,[(1,.d .bool (Lib.cut s sep).2.2)]⟩]) []⟩
end
theorem ny(w:World)(e:Nat)(t:ByteArray):Fr [] w (Lib.bytesWorld w e t):=Fr.of_below (Lib.bytesWorld_below _ _ _)
theorem zG(w:World)(k:Nat)(os:Array Obj):Fr [] w (grow (w.drewN k) os):=⟨rfl,rfl,rfl,by show w.heap.size≤(w.heap++os).size;rw[Array.size_append];omega,fun j hj _=>by show(w.heap++os)[j]? =_;rw[Array.getElem?_append_left hj]⟩
theorem wi(w:World)(k:Nat):Fr [] w (w.drewN k):=⟨rfl,rfl,rfl,Nat.le_refl _,fun j hj _=>rfl⟩
theorem I2{v:Int}{l:List UInt8}(h:Lib.atoiAll l= .ok v):cZ .i64 v:=by
 obtain⟨h1,h2⟩:=Lib.atoiAll_bounds h;simp only[cZ];omega
section
variable {U:bJ}
theorem DU(hN:U.eN=38)(hFt:U.eF=161):aQ Tryz.prog U 274 (B1 U):=fun [F:al] hpr X w ρ es0 xs vs K M hv hrun=>by
 obtain⟨s,rfl,rfl,hs,hK⟩:=hrun;obtain⟨v,us,rfl,ha,h3⟩:=hv;rw[show us= []from h3];obtain⟨e1,_⟩:=aG.inv (show aG U _ _ .str s [v]from(bK.one1 ha).1);injection e1 with e1;subst e1;have G:=M.gv.2 w rfl;refine⟨by kernel_rfl,?_⟩;have fin: ∀(n:Int) (e:dr) (ve:Value) (w':World),cZ .i64 n→aG U (aj ρ (aJ 0 ([]:List (aN U)))++X) (· =w') .err e [ve]→Fr [] w w'→K (.tup [⟨false,[(1,.d (.int .i64) n)]⟩,⟨false,[(1,.d .err e)]⟩]) []→
   ∃r es' ρ',K r es'∧jg (Vw U X w' ρ' es'.length (aJ 0 es')) r (.tuple #[.int .i64 n,ve])∧bd U X (· =w') ρ' es'.length (aJ 0 es')∧bP ρ 0 (aJ 0 []) w ρ' es'.length (aJ 0 es') w':=fun n e ve w' h1 h2 hf hK=>
  ⟨_,_,ρ,hK,⟨[_,_],rfl,_,_,rfl,eD (aG.int .i64 n h1),_,_,rfl,eD h2,rfl⟩,(M.keep0 hf).1,(M.keep0 hf).2⟩
 have hsz:(⟨s.toArray⟩:ByteArray).size=s.length:=List.size_toArray;unfold lu sK at hK;cases h:Lib.atoiAll s with
 |ok v=>
  rw[h]at hK;refine(Tryz.strconv_Atoi_ok ⟨s.toArray⟩ (by omega) v h w).mono ?_;rintro e w' ⟨rfl,hw⟩;refine⟨_,rfl,fin v .nil .nilIface w' (I2 h) aG.enil ?_ hK⟩;rcases hw with rfl|⟨t,rfl⟩
  ·exact Fr.refl _ _
  ·exact ny _ _ _
 |range=>
  rw[h]at hK;obtain⟨t,p,he⟩:=G.e5;refine(Tryz.strconv_Atoi_range ⟨s.toArray⟩ (by omega) h _ w he (.inr ⟨_,_,rfl⟩)).mono ?_;rintro e w' ⟨N,rfl,_,_,hb⟩;have hb2:=Lib.atoiSat_bounds s;exact⟨_,rfl,fin (Lib.atoiSat s) .oth _ w' (by simp only[cZ];omega) (aG.eoth _ _ (by rw[hN];decide) (by rw[hFt];decide)) (Fr.of_below hb) hK⟩
 | _ =>
  rw[h]at hK;obtain⟨t,p,he⟩:=G.e4;refine(Tryz.strconv_Atoi_none ⟨s.toArray⟩ (by omega) (fun v hq=>by rw[h]at hq;cases hq) (fun hq=>by rw[h]at hq;cases hq) _ w he (.inr ⟨_,_,rfl⟩)).mono ?_;rintro e w' ⟨N,rfl,_,_,hb⟩;exact⟨_,rfl,fin 0 .oth _ w' ⟨by decide,by decide⟩ (aG.eoth _ _ (by rw[hN];decide) (by rw[hFt];decide)) (Fr.of_below hb) hK⟩
theorem zH(u:Nat):(Lib.decDigits u).length≤u+1:=by
 induction u using Nat.strongRecOn with
 |ind u ih=>
  rw[Lib.decDigits];split
  ·simp
  ·rw[List.length_append];have:=ih (u/10) (by omega);simp only[List.length_singleton];omega
theorem wj(n:Int)(h0: -9223372036854775808≤n)(h1:n≤9223372036854775807):(Lib.itoa n).length≤9223372036854775807:=by
 unfold Lib.itoa;have key: ∀u:Nat,u≤9223372036854775808→(Lib.decDigits u).length≤922337203685477582:=fun u hu=>by
  rw[Lib.decDigits];split
  ·simp
  ·rw[List.length_append];have:=zH (u/10);simp only[List.length_singleton];omega
 split
 ·have:=key n.natAbs (by omega);simp only[List.length_cons];omega
 ·have:=key n.toNat (by omega);omega
theorem FP{w:World}(G:Gv w):Lib.TabIs Tryz.prog w "internal/strconv.uint64pow10" .u64 Lib.pow10Tab:=by
 obtain⟨t,o,h⟩:=G.p10;unfold Lib.TabIs World.var?;have hg:Tryz.prog.globalNamed "internal/strconv.uint64pow10" =some 6:=by kernel_rfl
 simp[hg,h]
theorem DV:aQ Tryz.prog U 275 (B2 U):=fun [F:al] hpr X w ρ es0 xs vs K M hv hrun=>by
 obtain⟨n,rfl,rfl,hK⟩:=hrun;obtain⟨v,us,rfl,ha,h3⟩:=hv;rw[show us= []from h3];obtain⟨e1,hn⟩:=aG.inv (show aG U _ _ (.int .i64) n [v]from(bK.one1 ha).1);injection e1 with e1;subst e1;have hn:cZ .i64 n:=hn;simp only[cZ]at hn;refine⟨by kernel_rfl,(Tryz.strconv_Itoa n (by omega) (by omega) w (FP (M.gv.2 w rfl))).mono ?_⟩;rintro e w' ⟨rfl,k,os,rfl⟩;have hf:=zG w k os;refine⟨_,rfl,_,_,ρ,hK,eD (aG.str _ ?_),(M.keep0 hf).1,(M.keep0 hf).2⟩;exact wj n (by omega) (by omega)
theorem zI(s sep:List UInt8):(Lib.cut s sep).1.length≤s.length∧(Lib.cut s sep).2.1.length≤s.length:=by
 unfold Lib.cut;split
 ·simp only[List.length_take,List.length_drop];omega
 ·simp
theorem FQ:aQ Tryz.prog U 329 (FO U):=fun [F:al] hpr X w ρ es0 xs vs K M hv hrun=>by
 obtain⟨s,sep,rfl,rfl,hs,hK⟩:=hrun;obtain⟨v,us,rfl,ha,v2,us2,rfl,hb,h3⟩:=hv;rw[show us2= []from h3];obtain⟨e1,_⟩:=aG.inv (show aG U _ _ .str s [v]from(bK.one1 ha).1);obtain⟨e2,_⟩:=aG.inv (show aG U _ _ .str sep [v2]from(bK.one1 hb).1);injection e1 with e1;injection e2 with e2;subst e1;subst e2;obtain⟨mx,hm⟩:=(M.gv.2 w rfl).mx;refine⟨by kernel_rfl,(Tryz.strings_Cut ⟨s.toArray⟩ ⟨sep.toArray⟩ mx w (by have:(⟨s.toArray⟩:ByteArray).size=s.length:=List.size_toArray;omega) hm).mono ?_⟩;rintro e w' ⟨rfl,k,rfl⟩;have hf:=wi w k;have hl:=zI s sep;exact⟨_,rfl,_,_,ρ,hK,⟨[_,_,_],rfl,_,_,rfl,eD (aG.str _ (by omega)),_,_,rfl,eD (aG.str _ (by omega)),_,_,rfl,eD (aG.bool _),rfl⟩,(M.keep0 hf).1,(M.keep0 hf).2⟩
end
end Go.Proofs.YtfgofabojepcmaaGreatDoor.V
end

section
set_option linter.unusedVariables false
set_option linter.unusedSimpArgs false
set_option maxRecDepth 20000
namespace Go.Proofs.YtfgofabojepcmaaGreatDoor.V
open Go.RowKit
structure ah where
 up:Int
 interest:List (List UInt8)
deriving DecidableEq,Inhabited
structure ak where
 mark:Int
 journal:Int
deriving DecidableEq,Inhabited
structure ap where
 cores:Int
 edges:List (ah)
 devices:List (ah)
 groups:List (List (Int))
 disk:ak
deriving DecidableEq,Inhabited
structure g8 where
 act:Int
 name:List UInt8
 val:Int
deriving DecidableEq,Inhabited
structure ax where
 kind:Int
 node:Int
 «to»:Int
 i:Int
 key:List UInt8
 op:g8
 names:List (List UInt8)
 who:List (Int)
deriving DecidableEq,Inhabited
structure aZ where
 word:List UInt8
 e:ax
deriving DecidableEq,Inhabited
structure Ce where
 config:ap
 lines:List (aZ)
 stage:Int
deriving DecidableEq,Inhabited
structure xH where
 at_:Int
 err:dr
deriving DecidableEq,Inhabited
def ty:Nat→Type|0=>ah|1=>ak|2=>ap|3=>g8|4=>ax|5=>aZ|6=>Ce|7=>xH|_=>Unit
def MF:RD ty ah where
 sz:=2
 fs:= [(1,.int .i64),(1,.sl (.str))]
 «to» x:=(x.up,x.interest,())
 toK x K:=K (x.up,x.interest,())
 ofK:=fun(a0,a1,_) K=>K ⟨a0,a1⟩
 ixK l q K:=K (ix l q)
 eqK a b K:=K (decide (a=b))
 sz_ok:=rfl
 toK_ok _ _ h:=h
 ofK_ok:=fun(a0,a1,_) K h=>⟨_,h,rfl⟩
 ixK_ok l q K h:=⟨_,h,fun y hy=>by unfold ix;rw[hy];rfl⟩
 eqK_ok a b K h:=⟨_,h,by simp⟩
def MG:RD ty ak where
 sz:=2
 fs:= [(1,.int .i64),(1,.int .i64)]
 «to» x:=(x.mark,x.journal,())
 toK x K:=K (x.mark,x.journal,())
 ofK:=fun(a0,a1,_) K=>K ⟨a0,a1⟩
 ixK l q K:=K (ix l q)
 eqK a b K:=K (decide (a=b))
 sz_ok:=rfl
 toK_ok _ _ h:=h
 ofK_ok:=fun(a0,a1,_) K h=>⟨_,h,rfl⟩
 ixK_ok l q K h:=⟨_,h,fun y hy=>by unfold ix;rw[hy];rfl⟩
 eqK_ok a b K h:=⟨_,h,by simp⟩
def MH:RD ty ap where
 sz:=6
 fs:= [(1,.int .i64),(1,.sl (.st 0)),(1,.sl (.st 0)),(1,.sl (.sl (.int .i64))),(2,.st 1)]
 «to» x:=(x.cores,x.edges,x.devices,x.groups,x.disk,())
 toK x K:=K (x.cores,x.edges,x.devices,x.groups,x.disk,())
 ofK:=fun(a0,a1,a2,a3,a4,_) K=>K ⟨a0,a1,a2,a3,a4⟩
 ixK l q K:=K (ix l q)
 eqK a b K:=K (decide (a=b))
 sz_ok:=rfl
 toK_ok _ _ h:=h
 ofK_ok:=fun(a0,a1,a2,a3,a4,_) K h=>⟨_,h,rfl⟩
 ixK_ok l q K h:=⟨_,h,fun y hy=>by unfold ix;rw[hy];rfl⟩
 eqK_ok a b K h:=⟨_,h,by simp⟩
def MI:RD ty g8 where
 sz:=3
 fs:= [(1,.int .i64),(1,.str),(1,.int .i64)]
 «to» x:=(x.act,x.name,x.val,())
 toK x K:=K (x.act,x.name,x.val,())
 ofK:=fun(a0,a1,a2,_) K=>K ⟨a0,a1,a2⟩
 ixK l q K:=K (ix l q)
 eqK a b K:=K (decide (a=b))
 sz_ok:=rfl
 toK_ok _ _ h:=h
 ofK_ok:=fun(a0,a1,a2,_) K h=>⟨_,h,rfl⟩
 ixK_ok l q K h:=⟨_,h,fun y hy=>by unfold ix;rw[hy];rfl⟩
 eqK_ok a b K h:=⟨_,h,by simp⟩
def MJ:RD ty ax where
 sz:=10
 fs:= [(1,.int .i64),(1,.int .i64),(1,.int .i64),(1,.int .i64),(1,.str),(3,.st 3),(1,.sl (.str)),(1,.sl (.int .i64))]
 «to» x:=(x.kind,x.node,x.«to»,x.i,x.key,x.op,x.names,x.who,())
 toK x K:=K (x.kind,x.node,x.«to»,x.i,x.key,x.op,x.names,x.who,())
 ofK:=fun(a0,a1,a2,a3,a4,a5,a6,a7,_) K=>K ⟨a0,a1,a2,a3,a4,a5,a6,a7⟩
 ixK l q K:=K (ix l q)
 eqK a b K:=K (decide (a=b))
 sz_ok:=rfl
 toK_ok _ _ h:=h
 ofK_ok:=fun(a0,a1,a2,a3,a4,a5,a6,a7,_) K h=>⟨_,h,rfl⟩
 ixK_ok l q K h:=⟨_,h,fun y hy=>by unfold ix;rw[hy];rfl⟩
 eqK_ok a b K h:=⟨_,h,by simp⟩
def MK:RD ty aZ where
 sz:=11
 fs:= [(1,.str),(10,.st 4)]
 «to» x:=(x.word,x.e,())
 toK x K:=K (x.word,x.e,())
 ofK:=fun(a0,a1,_) K=>K ⟨a0,a1⟩
 ixK l q K:=K (ix l q)
 eqK a b K:=K (decide (a=b))
 sz_ok:=rfl
 toK_ok _ _ h:=h
 ofK_ok:=fun(a0,a1,_) K h=>⟨_,h,rfl⟩
 ixK_ok l q K h:=⟨_,h,fun y hy=>by unfold ix;rw[hy];rfl⟩
 eqK_ok a b K h:=⟨_,h,by simp⟩
def ML:RD ty Ce where
 sz:=8
 fs:= [(6,.st 2),(1,.sl (.st 5)),(1,.int .i64)]
 «to» x:=(x.config,x.lines,x.stage,())
 toK x K:=K (x.config,x.lines,x.stage,())
 ofK:=fun(a0,a1,a2,_) K=>K ⟨a0,a1,a2⟩
 ixK l q K:=K (ix l q)
 eqK a b K:=K (decide (a=b))
 sz_ok:=rfl
 toK_ok _ _ h:=h
 ofK_ok:=fun(a0,a1,a2,_) K h=>⟨_,h,rfl⟩
 ixK_ok l q K h:=⟨_,h,fun y hy=>by unfold ix;rw[hy];rfl⟩
 eqK_ok a b K h:=⟨_,h,by simp⟩
def MM:RD ty xH where
 sz:=2
 fs:= [(1,.int .i64),(1,.err)]
 «to» x:=(x.at_,x.err,())
 toK x K:=K (x.at_,x.err,())
 ofK:=fun(a0,a1,_) K=>K ⟨a0,a1⟩
 ixK l q K:=K (ix l q)
 eqK a b K:=K (decide (a=b))
 sz_ok:=rfl
 toK_ok _ _ h:=h
 ofK_ok:=fun(a0,a1,_) K h=>⟨_,h,rfl⟩
 ixK_ok l q K h:=⟨_,h,fun y hy=>by unfold ix;rw[hy];rfl⟩
 eqK_ok a b K h:=⟨_,h,by simp⟩
def MN:RD ty Unit where
 sz:=0
 fs:= []
 «to» x:=()
 toK x K:=False
 ofK:=fun _ _=>False
 ixK _ _ _:=False
 eqK _ _ _:=False
 sz_ok:=rfl
 toK_ok _ _ h:=h.elim
 ofK_ok _ _ h:=h.elim
 ixK_ok _ _ _ h:=h.elim
 eqK_ok _ _ _ h:=h.elim
def U:bJ where
 ty:=ty
 rd:=fun|0=>MF|1=>MG|2=>MH|3=>MI|4=>MJ|5=>MK|6=>ML|7=>MM|_+8=>MN
 eN:=38
 eF:=161
def rM(a:ak):List Value:= [.int .i64 a.mark,.int .i64 a.journal]
theorem uu{Y:List Nat}{S:World→Prop}{a:ak}{vs:List Value}(h:aG U Y S (.st 1) a vs):vs=rM a:=by
 obtain⟨h0,_⟩:=aG.inv h;obtain⟨v0,u0,e0,d0,_,h1⟩:=ec.inv h0;obtain⟨g0,_⟩:=aG.inv d0;obtain⟨v1,u1,e1,d1,_,h2⟩:=ec.inv h1;obtain⟨g1,_⟩:=aG.inv d1;have hz:u1= []:=ec.inv h2;rw[e0,e1,g0,g1,hz];rfl
def xI(a:g8):List Value:= [.int .i64 a.act,sv a.name,.int .i64 a.val]
theorem Bd{Y:List Nat}{S:World→Prop}{a:g8}{vs:List Value}(h:aG U Y S (.st 3) a vs):vs=xI a:=by
 obtain⟨h0,_⟩:=aG.inv h;obtain⟨v0,u0,e0,d0,_,h1⟩:=ec.inv h0;obtain⟨g0,_⟩:=aG.inv d0;obtain⟨v1,u1,e1,d1,_,h2⟩:=ec.inv h1;obtain⟨g1,_⟩:=aG.inv d1;obtain⟨v2,u2,e2,d2,_,h3⟩:=ec.inv h2;obtain⟨g2,_⟩:=aG.inv d2;have hz:u2= []:=ec.inv h3;rw[e0,e1,e2,g0,g1,g2,hz];rfl
theorem HD(a0:Int)(a1:Int)(b0:Int)(b1:Int):cC Tryz.prog 8 68 [.int .i64 a0,.int .i64 a1] [.int .i64 b0,.int .i64 b1]=some (((a0==b0)&&((a1==b1)&&true))):=by kernel_rfl
theorem HE(a b:ak): ∃r,cC Tryz.prog 8 68 (rM a) (rM b)=some r∧(r=true↔a=b):=by
 obtain⟨a0,a1⟩:=a;obtain⟨b0,b1⟩:=b;refine⟨_,HD _ _ _ _,?_⟩;show _↔(ak.mk a0 a1)=(ak.mk b0 b1)
 simp
theorem KP:qW U Tryz.prog 68 (.st 1):=⟨by kernel_rfl,fun Y S a b vs us h1 h2=>by rw[uu h1,uu h2];exact HE a b⟩
theorem HF(a0:Int)(a1:Int)(b0:Int)(b1:Int):cC Tryz.prog 8 59 [.int .i64 a0,.int .i64 a1] [.int .i64 b0,.int .i64 b1]=some (((a0==b0)&&((a1==b1)&&true))):=by kernel_rfl
theorem HG(a b:ak): ∃r,cC Tryz.prog 8 59 (rM a) (rM b)=some r∧(r=true↔a=b):=by
 obtain⟨a0,a1⟩:=a;obtain⟨b0,b1⟩:=b;refine⟨_,HF _ _ _ _,?_⟩;show _↔(ak.mk a0 a1)=(ak.mk b0 b1)
 simp
theorem KQ:qW U Tryz.prog 59 (.st 1):=⟨by kernel_rfl,fun Y S a b vs us h1 h2=>by rw[uu h1,uu h2];exact HG a b⟩
theorem HH(a0:Int)(a1:List UInt8)(a2:Int)(b0:Int)(b1:List UInt8)(b2:Int):cC Tryz.prog 8 85 [.int .i64 a0,sv a1,.int .i64 a2] [.int .i64 b0,sv b1,.int .i64 b2]=some (((a0==b0)&&((a1==b1)&&((a2==b2)&&true)))):=by kernel_rfl
theorem HI(a b:g8): ∃r,cC Tryz.prog 8 85 (xI a) (xI b)=some r∧(r=true↔a=b):=by
 obtain⟨a0,a1,a2⟩:=a;obtain⟨b0,b1,b2⟩:=b;refine⟨_,HH _ _ _ _ _ _,?_⟩;show _↔(g8.mk a0 a1 a2)=(g8.mk b0 b1 b2)
 simp
theorem KT:qW U Tryz.prog 85 (.st 3):=⟨by kernel_rfl,fun Y S a b vs us h1 h2=>by rw[Bd h1,Bd h2];exact HI a b⟩
theorem HJ(a0:Int)(a1:List UInt8)(a2:Int)(b0:Int)(b1:List UInt8)(b2:Int):cC Tryz.prog 8 79 [.int .i64 a0,sv a1,.int .i64 a2] [.int .i64 b0,sv b1,.int .i64 b2]=some (((a0==b0)&&((a1==b1)&&((a2==b2)&&true)))):=by kernel_rfl
theorem HK(a b:g8): ∃r,cC Tryz.prog 8 79 (xI a) (xI b)=some r∧(r=true↔a=b):=by
 obtain⟨a0,a1,a2⟩:=a;obtain⟨b0,b1,b2⟩:=b;refine⟨_,HJ _ _ _ _ _ _,?_⟩;show _↔(g8.mk a0 a1 a2)=(g8.mk b0 b1 b2)
 simp
theorem KU:qW U Tryz.prog 79 (.st 3):=⟨by kernel_rfl,fun Y S a b vs us h1 h2=>by rw[Bd h1,Bd h2];exact HK a b⟩
theorem HL(a0:Int)(a1:Int)(b0:Int)(b1:Int):cC Tryz.prog 8 73 [.int .i64 a0,.int .i64 a1] [.int .i64 b0,.int .i64 b1]=some (((a0==b0)&&((a1==b1)&&true))):=by kernel_rfl
theorem HM(a b:ak): ∃r,cC Tryz.prog 8 73 (rM a) (rM b)=some r∧(r=true↔a=b):=by
 obtain⟨a0,a1⟩:=a;obtain⟨b0,b1⟩:=b;refine⟨_,HL _ _ _ _,?_⟩;show _↔(ak.mk a0 a1)=(ak.mk b0 b1)
 simp
theorem KV:qW U Tryz.prog 73 (.st 1):=⟨by kernel_rfl,fun Y S a b vs us h1 h2=>by rw[uu h1,uu h2];exact HM a b⟩
def LS:TI U:=⟨1,.int .i64,8,[],some (.int .i64),false,[(1,.d (.int .i64) (0:Int))],none⟩
theorem EC:bT U Tryz.prog 3 LS:=bw [.i .i64] rfl (by kernel_rfl) rfl (by kernel_rfl) (by kernel_rfl) (show Tryz.prog.underlying 3=some (.int .i64)by kernel_rfl) (by kernel_rfl) (by kernel_rfl) (by kernel_rfl) (fun i h1 h2=>by cases h2) (fun d h=>by cases h)
def LT:TI U:=⟨1,.str,16,[],some (.str),false,[(1,.d .str ([]:List UInt8))],none⟩
theorem xJ:bT U Tryz.prog 9 LT:=bw [.s] rfl (by kernel_rfl) rfl (by kernel_rfl) (by kernel_rfl) (show Tryz.prog.underlying 9=some .string by kernel_rfl) (by kernel_rfl) (by kernel_rfl) (by kernel_rfl) (fun i h1 h2=>by cases h2) (fun d h=>by cases h)
def HN:TI U:=⟨1,.sl 9,24,[],some (.sl (.str)),false,[(1,.nils)],none⟩
theorem Be:bT U Tryz.prog 80 HN:=bw [.l] rfl (by kernel_rfl) rfl (by kernel_rfl) (by kernel_rfl) (show Tryz.prog.underlying 80=some (.slice 9)by kernel_rfl) (by kernel_rfl) (by kernel_rfl) (by kernel_rfl) (fun i h1 h2=>by cases h2) (fun d h=>by cases h)
def HO:TI U:=⟨6,.st,96,[(0,3),(1,67),(2,67),(3,57),(4,68)],some (.st 2),false,[(1,.d (.int .i64) (0:Int)),(1,.nils),(1,.nils),(1,.nils),(1,.d (.int .i64) (0:Int)),(1,.d (.int .i64) (0:Int))],none⟩
theorem Bf:bT U Tryz.prog 70 HO:=bw [.i .i64,.l,.l,.l,.i .i64,.i .i64] rfl (by kernel_rfl) rfl (by kernel_rfl) (by kernel_rfl) ⟨_,rfl⟩ rfl (by kernel_rfl) (by kernel_rfl) (fun i h1 h2=>by cases h2) (fun d h=>by cases h)
def HP:TI U:=⟨1,.sl 250,24,[],some (.sl (.st 0)),false,[(1,.nils)],none⟩
theorem Bg:bT U Tryz.prog 67 HP:=bw [.l] rfl (by kernel_rfl) rfl (by kernel_rfl) (by kernel_rfl) (show Tryz.prog.underlying 67=some (.slice 250)by kernel_rfl) (by kernel_rfl) (by kernel_rfl) (by kernel_rfl) (fun i h1 h2=>by cases h2) (fun d h=>by cases h)
def Cf:TI U:=⟨2,.st,32,[(0,3),(1,80)],some (.st 0),false,[(1,.d (.int .i64) (0:Int)),(1,.nils)],none⟩
theorem xK:bT U Tryz.prog 250 Cf:=bw [.i .i64,.l] rfl (by kernel_rfl) rfl (by kernel_rfl) (by kernel_rfl) ⟨_,rfl⟩ rfl (by kernel_rfl) (by kernel_rfl) (fun i h1 h2=>by cases h2) (fun d h=>by cases h)
def HQ:TI U:=⟨1,.sl 35,24,[],some (.sl (.sl (.int .i64))),false,[(1,.nils)],none⟩
theorem Bh:bT U Tryz.prog 57 HQ:=bw [.l] rfl (by kernel_rfl) rfl (by kernel_rfl) (by kernel_rfl) (show Tryz.prog.underlying 57=some (.slice 35)by kernel_rfl) (by kernel_rfl) (by kernel_rfl) (by kernel_rfl) (fun i h1 h2=>by cases h2) (fun d h=>by cases h)
def HR:TI U:=⟨1,.sl 3,24,[],some (.sl (.int .i64)),false,[(1,.nils)],none⟩
theorem Bi:bT U Tryz.prog 35 HR:=bw [.l] rfl (by kernel_rfl) rfl (by kernel_rfl) (by kernel_rfl) (show Tryz.prog.underlying 35=some (.slice 3)by kernel_rfl) (by kernel_rfl) (by kernel_rfl) (by kernel_rfl) (fun i h1 h2=>by cases h2) (fun d h=>by cases h)
def HS:TI U:=⟨2,.st,16,[(0,3),(1,3)],some (.st 1),true,[(1,.d (.int .i64) (0:Int)),(1,.d (.int .i64) (0:Int))],none⟩
theorem Bj:bT U Tryz.prog 68 HS:=bw [.i .i64,.i .i64] rfl (by kernel_rfl) rfl (by kernel_rfl) (by kernel_rfl) ⟨_,rfl⟩ rfl (by kernel_rfl) (by kernel_rfl) (fun i h1 h2=>⟨rfl,by injection h1 with h1;subst h1;exact KP⟩) (fun d h=>by cases h)
def HT:TI U:=⟨6,.st,96,[(0,3),(1,56),(2,56),(3,57),(4,59)],some (.st 2),false,[(1,.d (.int .i64) (0:Int)),(1,.nils),(1,.nils),(1,.nils),(1,.d (.int .i64) (0:Int)),(1,.d (.int .i64) (0:Int))],none⟩
theorem Bk:bT U Tryz.prog 61 HT:=bw [.i .i64,.l,.l,.l,.i .i64,.i .i64] rfl (by kernel_rfl) rfl (by kernel_rfl) (by kernel_rfl) ⟨_,rfl⟩ rfl (by kernel_rfl) (by kernel_rfl) (fun i h1 h2=>by cases h2) (fun d h=>by cases h)
def HU:TI U:=⟨1,.sl 256,24,[],some (.sl (.st 0)),false,[(1,.nils)],none⟩
theorem Bl:bT U Tryz.prog 56 HU:=bw [.l] rfl (by kernel_rfl) rfl (by kernel_rfl) (by kernel_rfl) (show Tryz.prog.underlying 56=some (.slice 256)by kernel_rfl) (by kernel_rfl) (by kernel_rfl) (by kernel_rfl) (fun i h1 h2=>by cases h2) (fun d h=>by cases h)
def Cg:TI U:=⟨2,.st,32,[(0,3),(1,80)],some (.st 0),false,[(1,.d (.int .i64) (0:Int)),(1,.nils)],none⟩
theorem qC:bT U Tryz.prog 256 Cg:=bw [.i .i64,.l] rfl (by kernel_rfl) rfl (by kernel_rfl) (by kernel_rfl) ⟨_,rfl⟩ rfl (by kernel_rfl) (by kernel_rfl) (fun i h1 h2=>by cases h2) (fun d h=>by cases h)
def HV:TI U:=⟨2,.st,16,[(0,3),(1,3)],some (.st 1),true,[(1,.d (.int .i64) (0:Int)),(1,.d (.int .i64) (0:Int))],none⟩
theorem Bm:bT U Tryz.prog 59 HV:=bw [.i .i64,.i .i64] rfl (by kernel_rfl) rfl (by kernel_rfl) (by kernel_rfl) ⟨_,rfl⟩ rfl (by kernel_rfl) (by kernel_rfl) (fun i h1 h2=>⟨rfl,by injection h1 with h1;subst h1;exact KQ⟩) (fun d h=>by cases h)
def HW:TI U:=⟨10,.st,128,[(0,3),(1,3),(2,3),(3,3),(4,9),(5,85),(8,80),(9,35)],some (.st 4),false,[(1,.d (.int .i64) (0:Int)),(1,.d (.int .i64) (0:Int)),(1,.d (.int .i64) (0:Int)),(1,.d (.int .i64) (0:Int)),(1,.d .str ([]:List UInt8)),(1,.d (.int .i64) (0:Int)),(1,.d .str ([]:List UInt8)),(1,.d (.int .i64) (0:Int)),(1,.nils),(1,.nils)],none⟩
theorem Bn:bT U Tryz.prog 87 HW:=bw [.i .i64,.i .i64,.i .i64,.i .i64,.s,.i .i64,.s,.i .i64,.l,.l] rfl (by kernel_rfl) rfl (by kernel_rfl) (by kernel_rfl) ⟨_,rfl⟩ rfl (by kernel_rfl) (by kernel_rfl) (fun i h1 h2=>by cases h2) (fun d h=>by cases h)
def HX:TI U:=⟨3,.st,32,[(0,3),(1,9),(2,2)],some (.st 3),true,[(1,.d (.int .i64) (0:Int)),(1,.d .str ([]:List UInt8)),(1,.d (.int .i64) (0:Int))],none⟩
theorem Bo:bT U Tryz.prog 85 HX:=bw [.i .i64,.s,.i .i64] rfl (by kernel_rfl) rfl (by kernel_rfl) (by kernel_rfl) ⟨_,rfl⟩ rfl (by kernel_rfl) (by kernel_rfl) (fun i h1 h2=>⟨rfl,by injection h1 with h1;subst h1;exact KT⟩) (fun d h=>by cases h)
def LU:TI U:=⟨1,.int .i64,8,[],some (.int .i64),false,[(1,.d (.int .i64) (0:Int))],none⟩
theorem ED:bT U Tryz.prog 2 LU:=bw [.i .i64] rfl (by kernel_rfl) rfl (by kernel_rfl) (by kernel_rfl) (show Tryz.prog.underlying 2=some (.int .i64)by kernel_rfl) (by kernel_rfl) (by kernel_rfl) (by kernel_rfl) (fun i h1 h2=>by cases h2) (fun d h=>by cases h)
def LV:TI U:=⟨1,.bool,1,[],some (.bool),false,[(1,.d .bool false)],none⟩
theorem EE:bT U Tryz.prog 4 LV:=bw [.b] rfl (by kernel_rfl) rfl (by kernel_rfl) (by kernel_rfl) (show Tryz.prog.underlying 4=some .bool by kernel_rfl) (by kernel_rfl) (by kernel_rfl) (by kernel_rfl) (fun i h1 h2=>by cases h2) (fun d h=>by cases h)
def HY:TI U:=⟨10,.st,128,[(0,3),(1,3),(2,3),(3,3),(4,9),(5,79),(8,80),(9,35)],some (.st 4),false,[(1,.d (.int .i64) (0:Int)),(1,.d (.int .i64) (0:Int)),(1,.d (.int .i64) (0:Int)),(1,.d (.int .i64) (0:Int)),(1,.d .str ([]:List UInt8)),(1,.d (.int .i64) (0:Int)),(1,.d .str ([]:List UInt8)),(1,.d (.int .i64) (0:Int)),(1,.nils),(1,.nils)],none⟩
theorem Bp:bT U Tryz.prog 82 HY:=bw [.i .i64,.i .i64,.i .i64,.i .i64,.s,.i .i64,.s,.i .i64,.l,.l] rfl (by kernel_rfl) rfl (by kernel_rfl) (by kernel_rfl) ⟨_,rfl⟩ rfl (by kernel_rfl) (by kernel_rfl) (fun i h1 h2=>by cases h2) (fun d h=>by cases h)
def HZ:TI U:=⟨3,.st,32,[(0,3),(1,9),(2,2)],some (.st 3),true,[(1,.d (.int .i64) (0:Int)),(1,.d .str ([]:List UInt8)),(1,.d (.int .i64) (0:Int))],none⟩
theorem Bq:bT U Tryz.prog 79 HZ:=bw [.i .i64,.s,.i .i64] rfl (by kernel_rfl) rfl (by kernel_rfl) (by kernel_rfl) ⟨_,rfl⟩ rfl (by kernel_rfl) (by kernel_rfl) (fun i h1 h2=>⟨rfl,by injection h1 with h1;subst h1;exact KU⟩) (fun d h=>by cases h)
def LW:TI U:=⟨1,.int .u8,1,[],some (.int .u8),false,[(1,.d (.int .u8) (0:Int))],none⟩
theorem EF:bT U Tryz.prog 5 LW:=bw [.i .u8] rfl (by kernel_rfl) rfl (by kernel_rfl) (by kernel_rfl) (show Tryz.prog.underlying 5=some (.int .u8)by kernel_rfl) (by kernel_rfl) (by kernel_rfl) (by kernel_rfl) (fun i h1 h2=>by cases h2) (fun d h=>by cases h)
def H3:TI U:=⟨2,.st,16,[(0,3),(1,38)],some (.st 1),true,[(1,.d (.int .i64) (0:Int)),(1,.d (.int .i64) (0:Int))],none⟩
theorem Br:bT U Tryz.prog 73 H3:=bw [.i .i64,.i .i64] rfl (by kernel_rfl) rfl (by kernel_rfl) (by kernel_rfl) ⟨_,rfl⟩ rfl (by kernel_rfl) (by kernel_rfl) (fun i h1 h2=>⟨rfl,by injection h1 with h1;subst h1;exact KV⟩) (fun d h=>by cases h)
def H4:TI U:=⟨1,.int .i64,8,[],some (.int .i64),false,[(1,.d (.int .i64) (0:Int))],none⟩
theorem Bs:bT U Tryz.prog 38 H4:=bw [.i .i64] rfl (by kernel_rfl) rfl (by kernel_rfl) (by kernel_rfl) (show Tryz.prog.underlying 38=some (.int .i64)by kernel_rfl) (by kernel_rfl) (by kernel_rfl) (by kernel_rfl) (fun i h1 h2=>by cases h2) (fun d h=>by cases h)
def H7:TI U:=⟨11,.st,144,[(0,9),(1,87)],some (.st 5),false,[(1,.d .str ([]:List UInt8)),(1,.d (.int .i64) (0:Int)),(1,.d (.int .i64) (0:Int)),(1,.d (.int .i64) (0:Int)),(1,.d (.int .i64) (0:Int)),(1,.d .str ([]:List UInt8)),(1,.d (.int .i64) (0:Int)),(1,.d .str ([]:List UInt8)),(1,.d (.int .i64) (0:Int)),(1,.nils),(1,.nils)],none⟩
theorem Bt:bT U Tryz.prog 89 H7:=bw [.s,.i .i64,.i .i64,.i .i64,.i .i64,.s,.i .i64,.s,.i .i64,.l,.l] rfl (by kernel_rfl) rfl (by kernel_rfl) (by kernel_rfl) ⟨_,rfl⟩ rfl (by kernel_rfl) (by kernel_rfl) (fun i h1 h2=>by cases h2) (fun d h=>by cases h)
def H8:TI U:=⟨11,.st,144,[(0,9),(1,82)],some (.st 5),false,[(1,.d .str ([]:List UInt8)),(1,.d (.int .i64) (0:Int)),(1,.d (.int .i64) (0:Int)),(1,.d (.int .i64) (0:Int)),(1,.d (.int .i64) (0:Int)),(1,.d .str ([]:List UInt8)),(1,.d (.int .i64) (0:Int)),(1,.d .str ([]:List UInt8)),(1,.d (.int .i64) (0:Int)),(1,.nils),(1,.nils)],none⟩
theorem Bu:bT U Tryz.prog 84 H8:=bw [.s,.i .i64,.i .i64,.i .i64,.i .i64,.s,.i .i64,.s,.i .i64,.l,.l] rfl (by kernel_rfl) rfl (by kernel_rfl) (by kernel_rfl) ⟨_,rfl⟩ rfl (by kernel_rfl) (by kernel_rfl) (fun i h1 h2=>by cases h2) (fun d h=>by cases h)
def H9:TI U:=⟨1,.int .i32,4,[],some (.int .i32),false,[(1,.d (.int .i32) (0:Int))],none⟩
theorem Bv:bT U Tryz.prog 21 H9:=bw [.i .i32] rfl (by kernel_rfl) rfl (by kernel_rfl) (by kernel_rfl) (show Tryz.prog.underlying 21=some (.int .i32)by kernel_rfl) (by kernel_rfl) (by kernel_rfl) (by kernel_rfl) (fun i h1 h2=>by cases h2) (fun d h=>by cases h)
def Ia:TI U:=⟨1,.ifc,16,[],some (.err),false,[(1,.d .err dr.nil)],none⟩
theorem Bw:bT U Tryz.prog 64 Ia:=bw [.e] rfl (by kernel_rfl) rfl (by kernel_rfl) (by kernel_rfl) ⟨_,rfl⟩ (by kernel_rfl) (by kernel_rfl) (by kernel_rfl) (fun i h1 h2=>by cases h2) (fun d h=>by cases h)
def Ch:TI U:=⟨8,.st,128,[(0,61),(6,62),(7,3)],some (.st 6),false,[(1,.d (.int .i64) (0:Int)),(1,.nils),(1,.nils),(1,.nils),(1,.d (.int .i64) (0:Int)),(1,.d (.int .i64) (0:Int)),(1,.nils),(1,.d (.int .i64) (0:Int))],none⟩
theorem xL:bT U Tryz.prog 149 Ch:=bw [.i .i64,.l,.l,.l,.i .i64,.i .i64,.l,.i .i64] rfl (by kernel_rfl) rfl (by kernel_rfl) (by kernel_rfl) ⟨_,rfl⟩ rfl (by kernel_rfl) (by kernel_rfl) (fun i h1 h2=>by cases h2) (fun d h=>by cases h)
def Ic:TI U:=⟨1,.sl 84,24,[],some (.sl (.st 5)),false,[(1,.nils)],none⟩
theorem By:bT U Tryz.prog 62 Ic:=bw [.l] rfl (by kernel_rfl) rfl (by kernel_rfl) (by kernel_rfl) (show Tryz.prog.underlying 62=some (.slice 84)by kernel_rfl) (by kernel_rfl) (by kernel_rfl) (by kernel_rfl) (fun i h1 h2=>by cases h2) (fun d h=>by cases h)
def Ci:TI U:=⟨1,.ptr 165,8,[],none,false,[(1,.nilp)],none⟩
theorem xM:bT U Tryz.prog 161 Ci:=bw [.p] rfl (by kernel_rfl) rfl (by kernel_rfl) (by kernel_rfl) (show Tryz.prog.underlying 161=some (.pointer 165)by kernel_rfl) (by kernel_rfl) (by kernel_rfl) (by kernel_rfl) (fun i h1 h2=>by cases h2) (fun d h=>by cases h)
def Cj:TI U:=⟨2,.st,24,[(0,3),(1,64)],some (.st 7),false,[(1,.d (.int .i64) (0:Int)),(1,.d .err dr.nil)],none⟩
theorem xN:bT U Tryz.prog 165 Cj:=bw [.i .i64,.e] rfl (by kernel_rfl) rfl (by kernel_rfl) (by kernel_rfl) ⟨_,rfl⟩ rfl (by kernel_rfl) (by kernel_rfl) (fun i h1 h2=>by cases h2) (fun d h=>by cases h)
def Ie:TI U:=⟨1,.sl 89,24,[],some (.sl (.st 5)),false,[(1,.nils)],none⟩
theorem Bz:bT U Tryz.prog 71 Ie:=bw [.l] rfl (by kernel_rfl) rfl (by kernel_rfl) (by kernel_rfl) (show Tryz.prog.underlying 71=some (.slice 89)by kernel_rfl) (by kernel_rfl) (by kernel_rfl) (by kernel_rfl) (fun i h1 h2=>by cases h2) (fun d h=>by cases h)
def Ck:TI U:=⟨1,.sl 56,24,[],some (.sl (.sl (.st 0))),false,[(1,.nils)],none⟩
theorem xO:bT U Tryz.prog 425 Ck:=bw [.l] rfl (by kernel_rfl) rfl (by kernel_rfl) (by kernel_rfl) (show Tryz.prog.underlying 425=some (.slice 56)by kernel_rfl) (by kernel_rfl) (by kernel_rfl) (by kernel_rfl) (fun i h1 h2=>by cases h2) (fun d h=>by cases h)
def Cm:TI U:=⟨1,.sl 4,24,[],some (.sl (.bool)),false,[(1,.nils)],none⟩
theorem xP:bT U Tryz.prog 207 Cm:=bw [.l] rfl (by kernel_rfl) rfl (by kernel_rfl) (by kernel_rfl) (show Tryz.prog.underlying 207=some (.slice 4)by kernel_rfl) (by kernel_rfl) (by kernel_rfl) (by kernel_rfl) (fun i h1 h2=>by cases h2) (fun d h=>by cases h)
def If:TI U:=⟨1,.fn,8,[],none,false,[(1,.nilf)],none⟩
theorem BA:bT U Tryz.prog 91 If:=bw [.f] rfl (by kernel_rfl) rfl (by kernel_rfl) (by kernel_rfl) ⟨_,rfl⟩ (by kernel_rfl) (by kernel_rfl) (by kernel_rfl) (fun i h1 h2=>by cases h2) (fun d h=>by cases h)
def Cn:TI U:=⟨1,.fn,8,[],none,false,[(1,.nilf)],none⟩
theorem xQ:bT U Tryz.prog 336 Cn:=bw [.f] rfl (by kernel_rfl) rfl (by kernel_rfl) (by kernel_rfl) ⟨_,rfl⟩ (by kernel_rfl) (by kernel_rfl) (by kernel_rfl) (fun i h1 h2=>by cases h2) (fun d h=>by cases h)
def Co:TI U:=⟨1,.fn,8,[],none,false,[(1,.nilf)],none⟩
theorem xR:bT U Tryz.prog 422 Co:=bw [.f] rfl (by kernel_rfl) rfl (by kernel_rfl) (by kernel_rfl) ⟨_,rfl⟩ (by kernel_rfl) (by kernel_rfl) (by kernel_rfl) (fun i h1 h2=>by cases h2) (fun d h=>by cases h)
def Cp:TI U:=⟨1,.int .u8,1,[],some (.int .u8),false,[(1,.d (.int .u8) (0:Int))],none⟩
theorem xS:bT U Tryz.prog 265 Cp:=bw [.i .u8] rfl (by kernel_rfl) rfl (by kernel_rfl) (by kernel_rfl) (show Tryz.prog.underlying 265=some (.int .u8)by kernel_rfl) (by kernel_rfl) (by kernel_rfl) (by kernel_rfl) (fun i h1 h2=>by cases h2) (fun d h=>by cases h)
def Cq:TI U:=⟨1,.fn,8,[],none,false,[(1,.nilf)],none⟩
theorem xU:bT U Tryz.prog 338 Cq:=bw [.f] rfl (by kernel_rfl) rfl (by kernel_rfl) (by kernel_rfl) ⟨_,rfl⟩ (by kernel_rfl) (by kernel_rfl) (by kernel_rfl) (fun i h1 h2=>by cases h2) (fun d h=>by cases h)
def Cr:TI U:=⟨1,.ptr 56,8,[],none,false,[(1,.nilp)],none⟩
theorem xV:bT U Tryz.prog 342 Cr:=bw [.p] rfl (by kernel_rfl) rfl (by kernel_rfl) (by kernel_rfl) (show Tryz.prog.underlying 342=some (.pointer 56)by kernel_rfl) (by kernel_rfl) (by kernel_rfl) (by kernel_rfl) (fun i h1 h2=>by cases h2) (fun d h=>by cases h)
def Ct:TI U:=⟨1,.fn,8,[],none,false,[(1,.nilf)],none⟩
theorem xW:bT U Tryz.prog 386 Ct:=bw [.f] rfl (by kernel_rfl) rfl (by kernel_rfl) (by kernel_rfl) ⟨_,rfl⟩ (by kernel_rfl) (by kernel_rfl) (by kernel_rfl) (fun i h1 h2=>by cases h2) (fun d h=>by cases h)
def Cu:TI U:=⟨1,.ptr 70,8,[],none,false,[(1,.nilp)],none⟩
theorem xX:bT U Tryz.prog 154 Cu:=bw [.p] rfl (by kernel_rfl) rfl (by kernel_rfl) (by kernel_rfl) (show Tryz.prog.underlying 154=some (.pointer 70)by kernel_rfl) (by kernel_rfl) (by kernel_rfl) (by kernel_rfl) (fun i h1 h2=>by cases h2) (fun d h=>by cases h)
def Cw:TI U:=⟨1,.ptr 161,8,[],none,false,[(1,.nilp)],none⟩
theorem xY:bT U Tryz.prog 163 Cw:=bw [.p] rfl (by kernel_rfl) rfl (by kernel_rfl) (by kernel_rfl) (show Tryz.prog.underlying 163=some (.pointer 161)by kernel_rfl) (by kernel_rfl) (by kernel_rfl) (by kernel_rfl) (fun i h1 h2=>by cases h2) (fun d h=>by cases h)
def Cy:TI U:=⟨1,.ptr 61,8,[],none,false,[(1,.nilp)],none⟩
theorem xZ:bT U Tryz.prog 243 Cy:=bw [.p] rfl (by kernel_rfl) rfl (by kernel_rfl) (by kernel_rfl) (show Tryz.prog.underlying 243=some (.pointer 61)by kernel_rfl) (by kernel_rfl) (by kernel_rfl) (by kernel_rfl) (fun i h1 h2=>by cases h2) (fun d h=>by cases h)
def Cz:TI U:=⟨1,.ptr 87,8,[],none,false,[(1,.nilp)],none⟩
theorem x3:bT U Tryz.prog 255 Cz:=bw [.p] rfl (by kernel_rfl) rfl (by kernel_rfl) (by kernel_rfl) (show Tryz.prog.underlying 255=some (.pointer 87)by kernel_rfl) (by kernel_rfl) (by kernel_rfl) (by kernel_rfl) (fun i h1 h2=>by cases h2) (fun d h=>by cases h)
def CA:TI U:=⟨1,.ptr 82,8,[],none,false,[(1,.nilp)],none⟩
theorem x4:bT U Tryz.prog 340 CA:=bw [.p] rfl (by kernel_rfl) rfl (by kernel_rfl) (by kernel_rfl) (show Tryz.prog.underlying 340=some (.pointer 82)by kernel_rfl) (by kernel_rfl) (by kernel_rfl) (by kernel_rfl) (fun i h1 h2=>by cases h2) (fun d h=>by cases h)
def MO:cH U:= [(3,LS),(9,LT),(80,HN),(70,HO),(67,HP),(250,Cf),(57,HQ),(35,HR),(68,HS),(61,HT),(56,HU),(256,Cg),(59,HV),(87,HW),(85,HX),(2,LU),(4,LV),(82,HY),(79,HZ),(5,LW),(73,H3),(38,H4),(89,H7),(84,H8),(21,H9),(64,Ia),(149,Ch),(62,Ic),(161,Ci),(165,Cj),(71,Ie),(425,Ck),(207,Cm),(91,If),(336,Cn),(422,Co),(265,Cp),(338,Cq),(342,Cr),(386,Ct),(154,Cu),(163,Cw),(243,Cy),(255,Cz),(340,CA)]
theorem aC:bl U Tryz.prog MO:=aD EC (aD xJ (aD Be (aD Bf (aD Bg (aD xK (aD Bh (aD Bi (aD Bj (aD Bk (aD Bl (aD qC (aD Bm (aD Bn (aD Bo (aD ED (aD EE (aD Bp (aD Bq (aD EF (aD Br (aD Bs (aD Bt (aD Bu (aD Bv (aD Bw (aD xL (aD By (aD xM (aD xN (aD Bz (aD xO (aD xP (aD BA (aD xQ (aD xR (aD xS (aD xU (aD xV (aD xW (aD xX (aD xY (aD xZ (aD x3 (aD x4 (yf)))))))))))))))))))))))))))))))))))))))))))))
end Go.Proofs.YtfgofabojepcmaaGreatDoor.V
end

section
set_option linter.unusedVariables false
set_option linter.unusedSimpArgs false
namespace Go.Proofs.YtfgofabojepcmaaGreatDoor
section
variable {α:Type} [Inhabited α]
theorem D7(l:List α)(k:Nat):ix l (k:Int)=(l[k]?).getD default:=by unfold ix;rw[Int.toNat_natCast]
theorem cU(l:List α){k:Nat}(h:k<l.length):ix l (k:Int)=l[k]:=by rw[D7,List.getElem?_eq_getElem h];rfl
theorem sN(l:List α){j:Int}(h0:0≤j)(h1:j<l.length):ix l j∈l:=by
 have hl:j.toNat<l.length:=by omega
 unfold ix;rw[List.getElem?_eq_getElem hl];exact List.getElem_mem hl
theorem kf(l:List α){j:Int}(h0:0≤j)(h1:j<l.length):l.drop j.toNat=ix l j::l.drop (j+1).toNat:=by
 have hl:j.toNat<l.length:=by omega
 rw[List.drop_eq_getElem_cons hl,show(j+1).toNat=j.toNat+1 by omega];unfold ix;rw[List.getElem?_eq_getElem hl];rfl
theorem qd{R:Type}(l:List α)(p:α→Bool)(r:R)(L:Nat→Int→R⊕Int)(hL: ∀fuel i,0≤i→L (fuel+1) i=if i<(l.length:Int)then(if p (ix l i)=true then L fuel (i+1)else .inl r)else .inr i):
  ∀(fuel:Nat) (i:Int),0≤i→((l.length:Int)- i).toNat<fuel→ ∃q,L fuel i=if(l.drop i.toNat).all p=true then .inr q else .inl r
 |0,i,_,h=>by omega
 |fuel+1,i,h0,h=>by
  rw[hL fuel i h0];split
  ·rename_i h1;rw[kf l h0 h1,List.all_cons];by_cases hp:p (ix l i)=true
   ·obtain⟨q,hq⟩:=qd l p r L hL fuel (i+1) (by omega) (by omega);exact⟨q,by rw[if_pos hp,hq,hp,Bool.true_and]⟩
   ·exact⟨i,by rw[if_neg hp];simp[hp]⟩
  ·exact⟨i,by rw[List.drop_of_length_le (by omega)];simp⟩
theorem dk{R:Type}(l:List α)(p:α→Bool)(r:R)(L:Nat→Int→R⊕Int)(hL: ∀fuel i,0≤i→L (fuel+1) i=if i<(l.length:Int)then(if p (ix l i)=true then L fuel (i+1)else .inl r)else .inr i):
  ∃q,L (((l.length:Int)-(0:Int)).toNat+1) 0=if l.all p=true then .inr q else .inl r:=qd l p r L hL _ 0 (by omega) (by omega)
theorem lU{R:Type}(n:Int)(P:Int→Bool)(r:R)(L:Nat→Int→R⊕Int)(i0:Int)(hL: ∀fuel i,i0≤i→L (fuel+1) i=if i<n then(if P i=true then L fuel (i+1)else .inl r)else .inr i):
  ∀(fuel:Nat) (i:Int),i0≤i→(n - i).toNat<fuel→((∃q,L fuel i= .inr q)∧ ∀j:Int,i≤j→j<n→P j=true)∨(L fuel i= .inl r∧ ∃j:Int,i≤j∧j<n∧P j=false)
 |0,i,_,h=>by omega
 |fuel+1,i,h0,h=>by
  rw[hL fuel i h0];split
  ·rename_i h1;by_cases hp:P i=true
   ·rw[if_pos hp];rcases lU n P r L i0 hL fuel (i+1) (by omega) (by omega)with⟨a,b⟩|⟨a,j,b,c,d⟩
    ·refine .inl ⟨a,fun j hj hk=>?_⟩;by_cases e:j=i
     ·subst e;exact hp
     ·exact b j (by omega) hk
    ·exact .inr ⟨a,j,by omega,c,d⟩
   ·exact .inr ⟨by rw[if_neg hp],i,by omega,h1,by simpa using hp⟩
  ·exact .inl ⟨⟨i,rfl⟩,fun j _ _=>by omega⟩
theorem tP(l:List α)(p:α→α→Bool)(tr: ∀a b c,p a b=true→p b c=true→p a c=true):(∀j:Int,1≤j→j<l.length→p (ix l (j - 1)) (ix l j)=true)↔l.Pairwise (fun a b=>p a b=true):=by
 constructor
 ·intro h;rw[List.pairwise_iff_getElem];have key: ∀(d i:Nat) (h1:i+d+1<l.length),p (l[i]'(by omega)) (l[i+d+1])=true:=by
   intro d;induction d with
   |zero=>
    intro i h1;have:=h ((i:Int)+1) (by omega) (by omega);rw[show(i:Int)+1 - 1=(i:Int)by omega,cU l (by omega),show(i:Int)+1=((i+1:Nat):Int)by omega,cU l (by omega)]at this;exact this
   |succ d ih=>
    intro i h1;have h2:=h ((i:Int)+d+2) (by omega) (by omega);rw[show(i:Int)+d+2 - 1=((i+d+1:Nat):Int)by omega,cU l (by omega),show(i:Int)+d+2=((i+(d+1)+1:Nat):Int)by omega,cU l (by omega)]at h2;exact tr _ _ _ (ih i (by omega)) h2
  intro i j hi hj hij;have:=key (j - i - 1) i (by omega);have e:i+(j - i - 1)+1=j:=by omega
  simpa only[e]using this
 ·intro h j h1 h2;rw[List.pairwise_iff_getElem]at h;have:=h (j.toNat - 1) j.toNat (by omega) (by omega) (by omega);rw[←cU l (by omega),←cU l (by omega)]at this;rw[show((j.toNat - 1:Nat):Int)=j - 1 by omega,show((j.toNat:Nat):Int)=j by omega]at this;exact this
theorem nS{R β:Type}(l:List α)(f:β→α→β)(L:Nat→β→Int→R⊕(β×Int))(hL: ∀fuel b i,0≤i→L (fuel+1) b i=if i<(l.length:Int)then L fuel (f b (ix l i)) (i+1)else .inr (b,i)):
  ∀(fuel:Nat) (b:β) (i:Int),0≤i→i≤l.length→((l.length:Int)- i).toNat<fuel→L fuel b i= .inr ((l.drop i.toNat).foldl f b,(l.length:Int))
 |0,b,i,_,_,h=>by omega
 |fuel+1,b,i,h0,h2,h=>by
  rw[hL fuel b i h0];split
  ·rename_i h1;rw[nS l f L hL fuel _ (i+1) (by omega) (by omega) (by omega),kf l h0 h1,List.foldl_cons]
  ·have:i=l.length:=by omega
   subst this;rw[List.drop_of_length_le (by omega)];rfl
theorem rq{R β:Type}(l:List α)(f:β→α→β)(L:Nat→β→Int→R⊕(β×Int))(hL: ∀fuel b i,0≤i→L (fuel+1) b i=if i<(l.length:Int)then L fuel (f b (ix l i)) (i+1)else .inr (b,i))(b:β):
  L (((l.length:Int)-(0:Int)).toNat+1) b 0= .inr (l.foldl f b,(l.length:Int)):=nS l f L hL _ b 0 (by omega) (by omega) (by omega)
end
end Go.Proofs.YtfgofabojepcmaaGreatDoor
end

section
set_option linter.unusedVariables false
set_option linter.unusedSimpArgs false
namespace Go.Proofs.YtfgofabojepcmaaGreatDoor.V
open Go.RowKit
def E1:bZ U:=wg U
theorem FR:aQ Tryz.prog U 43 E1:=zB (by kernel_rfl) Tryz.strings_Split
def FS:bZ U:=B1 U
theorem I3:aQ Tryz.prog U 274 FS:=DU rfl rfl
def FT:bZ U:=B2 U
theorem I4:aQ Tryz.prog U 275 FT:=DV
def FU:bZ U:=FO U
theorem I5:aQ Tryz.prog U 329 FU:=FQ
def FV:bZ U:=wf U 9
theorem I6:aQ Tryz.prog U 294 FV:=zA (by kernel_rfl) (fun blk cap ss w h1 h2 h3=>Tryz.slices_Sort_string blk 0 cap ss w h1 h2 h3) Tryz.slices_Sort_string_none
def FW:bZ U:=p3 U .str 295 80 9
theorem I7:aQ Tryz.prog U 342 FW:=ri (et:=9) (fn:=Tryz.f342) (fn1:=Tryz.f295) (ρf:=fun n=>n) (ρt:=fun n=>n) (ρf1:=fun n=>n) (ρt1:=fun n=>n) (by kernel_rfl) Tryz.func342 (by kernel_rfl) rfl rfl (by kernel_rfl) Tryz.func295 (by kernel_rfl) rfl rfl rfl rfl (by kernel_rfl) (by kernel_rfl) (by kernel_rfl) (by kernel_rfl) (by kernel_rfl) (by kernel_rfl) xJ ⟨_,rfl⟩ (by decide)
def FX:bZ U:=wh U .str 295 80 9
def I8:bS U:= [(342,FW)]
theorem zJ:ay Tryz.prog U I8:=ae I7 (am)
theorem I9:aQ Tryz.prog U 293 FX:=by
 refine aT (fn:=Tryz.f293) zJ aC (by kernel_rfl) Tryz.f293.ntmps [.n] [] (by kernel_rfl) (by kernel_rfl) rfl rfl (by kernel_rfl) (fun xs es K=>?_);rintro⟨l,rfl,rfl,hl,h⟩;exact⟨rfl,l,rfl,rfl,hl,h⟩
def FY:bZ U:=zF U 295 80 9
def Ja:bS U:= [(293,FX),(294,FV)]
theorem zK:ay Tryz.prog U Ja:=ae I9 (ae I6 (am))
theorem Jb:aQ Tryz.prog U 235 FY:=by
 refine aT (fn:=Tryz.f235) zK aC (by kernel_rfl) Tryz.f235.ntmps [.n] [] (by kernel_rfl) (by kernel_rfl) rfl rfl (by kernel_rfl) (fun xs es K=>?_);rintro⟨l,rfl,rfl,hl,h⟩;exact⟨rfl,l,rfl,rfl,hl,l,rfl,rfl,Nat.lt_of_le_of_lt hl (by decide),h⟩
def FZ:bZ U:=FN U .str 295 80
def Jc:bS U:= []
theorem zL:ay Tryz.prog U Jc:=am
theorem Jd:aQ Tryz.prog U 236 FZ:=by
 refine aT (fn:=Tryz.f236) zL aC (by kernel_rfl) Tryz.f236.ntmps [.n] [] (by kernel_rfl) (by kernel_rfl) rfl rfl (by kernel_rfl) (fun xs es K=>?_);rintro⟨l,rfl,rfl,h⟩;exact⟨rfl,h⟩
def F2:bZ U:=sJ U (.st 0) 256
theorem Je:aQ Tryz.prog U 204 F2:=wb (fg:=Tryz.f281) (s:= .st 0) (fn:=Tryz.f204) (ρf:=fun n=>n) (ρt:=fun n=>n) (by kernel_rfl) Tryz.func204 (by kernel_rfl) rfl rfl (by kernel_rfl) Tryz.func281 (by kernel_rfl) rfl rfl (by kernel_rfl) Tryz.underlying3 (by kernel_rfl) (by kernel_rfl) (by kernel_rfl) (by kernel_rfl) (by kernel_rfl) qC ⟨_,rfl⟩ (by decide) (by decide) (by decide)
theorem dK{l:List (List UInt8)}{m:Nat}(h: ∀p∈l,p.length≤m){q:Int}(h0:0≤q)(h1:q<l.length):(ix l q).length≤m:=h _ (sN _ h0 h1)
theorem b5{s sep:List UInt8}{m:Nat}(hs:s.length≤m): ∀p∈Lib.split s sep,p.length≤m:=fun p hp=>by
 have hd2:=Lib.splitB_data ⟨sep.toArray⟩ 0 (Lib.count s sep) ⟨s.toArray⟩;have hsp:Lib.split s sep=(Lib.splitB ⟨sep.toArray⟩ 0 (Lib.count s sep) ⟨s.toArray⟩).map (·.data.toList):=by rw[hd2];rfl
 rw[hsp]at hp;obtain⟨y,hy,rfl⟩:=List.mem_map.1 hp;have:=ju _ _ _ _ _ hy;have e1:y.size=y.data.toList.length:=Array.length_toList.symm;have e2:(⟨s.toArray⟩:ByteArray).size=s.length:=List.size_toArray;omega
theorem rj{l:List (List UInt8)}{m:Nat}(h: ∀p∈l,p.length≤m): ∀p∈bE l,p.length≤m:=fun p hp=>h p ((List.mergeSort_perm _ _).mem_iff.1 hp)
theorem nR{l:List (List UInt8)}{x:List UInt8}{m:Nat}(h: ∀p∈l,p.length≤m)(hx:x.length≤m): ∀p∈l++ [x],p.length≤m:=fun p hp=>(List.mem_append.1 hp).elim (h p) fun h=>by rw[List.mem_singleton.1 h];exact hx
theorem p4{m:Nat}: ∀p∈([]:List (List UInt8)),p.length≤m:=fun p hp=>by cases hp
end Go.Proofs.YtfgofabojepcmaaGreatDoor.V
end

/- Functions walked: printed by the walker. -/
import Derived.Test.YtiliglahlfkikaaGreatDoorK16
import Derived.Test.YtiliglahlfkikaaGreatDoorK17
import Derived.Test.YtiliglahlfkikaaGreatDoorK3
import Derived.Shelf.SlMaps.Clone
import Derived.Test.YtiliglahlfkikaaGreatDoorK13
import Derived.Test.YtiliglahlfkikaaGreatDoorK14
section
set_option linter.unusedVariables false
set_option linter.unusedSimpArgs false
namespace Go.Proofs.YtiliglahlfkikaaGreatDoor.V
open Go.RowKit
theorem CY{P:Program}{f m kt et:Nat}{fn:Go.Func}{ρf ρt:Nat→Nat}(hen:bg P f=true)(hf:P.funcs[f]? =some fn)(hb:fn.body=some (gP ρf ρt (ej Tryz.f162)))(hn:fn.ntmps=14)(hr0:fn.results= #[])
  {α β:Type} {enc:α→Value} {ev:β→Value} {cs:α→List Value} {z:List Value} (pl:eE P (ρt 106)=true) (un:P.underlying (ρt 106)=some (.map kt et)) (ag:bB P (ρt 34)=some m) (sz:(P.info? (ρt 34)).map (·.size)=some m) (zc:zeroCells P (ρt 34)=some z) (hz:z.length=m)
  (l gs g clock:Nat) (es:Array MapEntry) (ms:List (α×β)) (w:World) (hM:nJ enc ev es clock ms) (hE: ∀x∈ms.map (·.1),enc x= .agg (cs x).toArray∧(cs x).length=m∧ ∀v∈cs x,v.oneCell'=true)
  (hgs:Hp w [(some gs,Cl [.map (some g)] (ρt 106))]) (hg:w.heap[g]? =some (.map es clock)) (Q:List α→World→Prop) (Jx:World→Prop)
  (h: ∀r W0,Fr [] w W0→w.heap.size≤r→r<W0.heap.size→ ∃J:List α→World→Prop,J [] W0∧(∀xs W W',J xs W→Fr [r] W W'→J xs W')∧
   (∀xs x W,(∃ys,(xs++x::ys).Perm (ms.map (·.1)))→J xs W→nI P l [enc x] W (fun W'=>J (xs++ [x]) W'∧ ∃O,Fr O W W'∧g∉O∧r∉O) Jx)∧ ∀xs W,xs.Perm (ms.map (·.1))→J xs W→Q xs W):
  Fn P f [.func (.yield l) #[] #[],.pointer (some ⟨gs,0,none⟩)] w fun _ W'=>(∃xs,xs.Perm (ms.map (·.1))∧Q xs W')∨Jx W':=by
 refine lN 14 hen hf hb hn rfl ?_;dsimp only[dX];refine sq fun _ k1=>rg (Ly rfl (sX (i:=0) rfl rfl pl (fun _ e=>e▸hgs) rfl rfl) (La rfl (uK rfl rfl rfl rfl un hg hM fun r W0 gh hR hr hf0 hsz=>?_)));obtain⟨J,h0,hst,hy,hQ⟩:=h r W0 hf0 hsz (bF hr);have hg0:W0.heap[g]? =some (.map es clock):=by rw[hf0.block g (bF hg) (by simp)];exact hg
 have hgr:g≠r:=by have:=bF hg;omega
 refine Ln k1 (cl ?_);refine uI (fun k e W=> ∃(xs:List α) (left cur:List (α×β)) (gh:Gh),k=left.length∧e= [(0,.func (.yield l) #[] #[]),(5,.pointer (some ⟨r,0,none⟩))]∧(xs++left.map (·.1)).Perm (ms.map (·.1))∧p4 enc ev es clock ms left cur gh∧W.heap[r]? =some (.mapIter (some g) gh.since gh.seen gh.c0)∧W.heap[g]? =some (.map es clock)∧J xs W) ms.length [(0,_),(5,_)] ⟨rfl,rfl,trivial⟩ ⟨[],ms,[],gh,rfl,rfl,List.Perm.refl _,hR,hr,hg0,h0⟩ ?_;rintro k e W ⟨xs,left,cur,gh,rfl,rfl,hp,hR,hr,hg,hj⟩;refine sq fun _ k2=>rg (La rfl (xy rfl rfl rfl rfl hr hg hR (fun e0=>?_) (fun a p b gh' W1 e0 hR2 hr hf1=>?_)))
 ·subst e0;refine Ly rfl (uY rfl rfl rfl) (Ln k2 (sq fun _ k3=>je rfl ?_));refine iX (lZ (lZ (kQ (fE (HH hr0) ?_))));exact .inl ⟨xs,by simpa using hp,hQ xs _ (by simpa using hp) hj⟩
 subst e0;have hg:W1.heap[g]? =some (.map es clock):=by rw[hf1.block g (bF hg) (by simpa using hgr)];exact hg
 have hj:=hst _ _ _ hj hf1;have hx: ∃ys,(xs++p.1::ys).Perm (ms.map (·.1)):=⟨(a++b).map (·.1),by
  refine List.Perm.trans ?_ hp;refine List.Perm.append_left xs ?_;simp only[List.map_append,List.map_cons];exact List.perm_middle.symm⟩
 obtain⟨hx1,hx2,hx3⟩:=hE p.1 (by obtain⟨ys,h⟩:=hx;exact h.mem_iff.1 (by simp));refine Ly rfl (uY rfl rfl rfl) (Ln k2 (sq fun _ k3=>fK rfl ?_));refine sk k3 (cl ?_);refine sq fun _ k4=>rg (Ly rfl (uL rfl rfl (fun w e=>e▸hr) (fun w e=>e▸hg) hR2) (Ly rfl (uY rfl rfl rfl) (La rfl (oZ rfl rfl rfl zc (Hp.nil W1) fun g3 W2 hp3 hf2 hg3=>?_))));have hp3:Hp W2 [(_,Cl _ _)]:=hp3;rw[hx1];refine La rfl (qh (i:=0) rfl rfl rfl rfl sz hx2 hx3 hp3 rfl (by rw[hz,hx2]) fun W3 hp4 hf3 _=>?_);have hp4:Hp W3 [(_,Cl (cs p.1) _)]:=hp4;have hf4:Fr [] W1 W3:=hf2.step hf3 (by simp;exact hg3);have hr3:W3.heap[r]? =some (.mapIter (some g) gh'.since gh'.seen gh'.c0):=by rw[hf4.block r (bF hr) (by simp)];exact hr
 have hg4:W3.heap[g]? =some (.map es clock):=by rw[hf4.block g (bF hg) (by simp)];exact hg
 have hj:=hst _ _ _ hj (hf4.mono (by simp));refine Ln k4 (sq fun _ k5=>rg (Lm rfl (Ly rfl (sY (i:=0) rfl rfl ag (fun _ e=>e▸hp4) rfl hx2) ?_)));have hyl:=hy xs p.1 W3 hx hj;rw[hx1]at hyl;refine AP (lh rfl) rfl rfl rfl rfl rfl hyl (fun W4 hT=>?_) (fun W4 hT=>?_)
 ·obtain⟨hj,O,hfO,hgO,hrO⟩:=hT;refine Ly rfl (xE rfl rfl) (Ln k5 (je rfl (ii (od (eD ?_)))));exact⟨(a++b).length,[(0,_),(5,_)],by simp,⟨rfl,rfl,trivial⟩,xs++ [p.1],a++b,[p],gh',rfl,rfl,by
   refine List.Perm.trans ?_ hp;rw[List.append_assoc];refine List.Perm.append_left xs ?_;simp only[List.map_append,List.map_cons,List.singleton_append];exact List.perm_middle.symm,hR2,by rw[hfO.block r (bF hr3) hrO];exact hr3,by rw[hfO.block g (bF hg4) hgO];exact hg4,hj⟩
 ·refine Ly rfl (xE rfl rfl) (Ln k5 (fK rfl ?_));refine wR (uJ (lY (uJ (fR (HH hr0) ?_))));exact .inr hT
theorem CZ{w:World}{H:cw}(h:Hp w H)(o:Obj):Hp w (H++ [(none,o)]):=by
 have key: ∀(i g:Nat) (b:Obj),(H++ [(none,o)])[i]? =some (some g,b)→H[i]? =some (some g,b):=fun i g b hi=>by
  rw[List.getElem?_append]at hi;split at hi
  ·exact hi
  ·rename_i hlt;cases hk:i - H.length with
   |zero=>rw[hk]at hi;cases hi
   |succ k=>rw[hk]at hi;cases hi
 exact⟨fun i g b hi=>h.blk i g b (key i g b hi),fun i j g a b hi hj=>h.inj i j g a b (key i g a hi) (key j g b hj)⟩
def C0(P:Program)(gf:Nat)(lb:List Value)(w:World){α:Type}(enc:α→Value)(ok:List α→α→Prop)(KS:List α→Prop):Prop:=
 ∀(l:Nat) (W:World),Fr [] w W→ ∀(Q:List α→World→Prop),(∀r W0,Fr [] W W0→W.heap.size≤r→r<W0.heap.size→ ∃J:List α→World→Prop,J [] W0∧(∀xs W1 W2,J xs W1→Fr [r] W1 W2→J xs W2)∧
  (∀xs x W1,ok xs x→J xs W1→nI P l [enc x] W1 (fun W2=>J (xs++ [x]) W2∧ ∃O,Fr O W1 W2∧ ∀o∈O,w.heap.size≤o∧o≠r) (fun _=>False))∧ ∀xs W1,KS xs→J xs W1→Q xs W1)→
  Fn P gf (.func (.yield l) #[] #[]::lb) W fun _ W'=> ∃xs,KS xs∧Q xs W'
theorem Ac{P:Program}{f gf m by_:Nat}{fn:Go.Func}{ρf ρt:Nat→Nat}(hen:bg P f=true)(hf:P.funcs[f]? =some fn)(hb:fn.body=some (gP ρf ρt (ej Tryz.f196)))(hn:fn.ntmps=13)(hr0:fn.results= #[.tmp 4])(heg:bg P gf=true)
  {α:Type} {enc:α→Value} {cs:α→List Value} {z:List Value} (es:aF P (ρt 37)=some (ρt 34,m)) (plS:eE P (ρt 37)=true) (aU:(P.info? (ρt 37)).map (·.size)=some 1) (ag:bB P (ρt 34)=some m) (sz:(P.info? (ρt 34)).map (·.size)=some m) (zc:zeroCells P (ρt 34)=some z) (hz:z.length=m) (hby:(P.info? (ρt 34)).map (·.bytes)=some by_) (hbb:by_≤100000) (hm0:0<m) (hmB:m≤1000) (zcS:zeroCells P (ρt 37)=some [.slice none 0 0])
  (lb:List Value) (w:World) {ok:List α→α→Prop} {KS:List α→Prop} (hok: ∀xs x,ok xs x→xs.length+1≤1000000∧enc x= .agg (cs x).toArray∧(cs x).length=m∧ ∀v∈cs x,v.oneCell'=true) (hIt:C0 P gf lb w enc ok KS):
  Fn P f [.slice none 0 0,.func (.func gf) #[] lb.toArray] w fun v w'=> ∃(xs:List α) (A:Option Addr) (c:Nat) (sp:List Value),KS xs∧v= .slice A xs.length c∧Ow A xs.length c m (xs.flatMap cs) sp∧(∀g,ak A=some g→w'.heap[g]? =some (Cl (xs.flatMap cs++sp) (ρt 34))∧w.heap.size≤g)∧Fr [] w w':=by
 refine HG 13 hen hf hb hn rfl ?_;dsimp only[dX];refine wl (JJ fun K1 hK1=>?_);refine rg (La rfl (A3 rfl rfl rfl rfl rfl (Hp.nil w) fun g2 w1 hp hf1 hg2=>?_));have hp:Hp w1 [(some g2,Cl [.slice none 0 0] (ρt 37))]:=hp;refine gA rfl (dW (eD (hK1 _ _ ?_)));refine wl (wl (JJ fun K2 hK2=>?_));refine rg (Lm rfl (dW (eD (hK2 _ _ ?_))));refine JK (lb:=lb) rfl heg (fun c Dm l wL hc1 hc2 hc3 htm hF0 hDn hln hpush=>?_);have hp:Hp wL [(some g2,Cl [.slice none 0 0] (ρt 37)),(some Dm,.deferred (some [])),(some l,Lr c .ready none)]:=hpush _ hp;have hF:=hf1.step0 hF0;have hl0:w.heap.size≤l:=Nat.le_trans hf1.size hln;have hD0:w.heap.size≤Dm:=Nat.le_trans hf1.size hDn;have l0:=hp.lt (i:=0) rfl;have l1:=hp.lt (i:=1) rfl;have l2:=hp.lt (i:=2) rfl;refine(hIt l wL hF (fun xs W=> ∃(A:Option Addr) (c':Nat) (sp:List Value),Hp W [(some g2,Cl [.slice A xs.length c'] (ρt 37)),(some Dm,.deferred (some [])),(some l,Lr c .ready none),(ak A,Cl (xs.flatMap cs++sp) (ρt 34))]∧Ow A xs.length c' m (xs.flatMap cs) sp∧Fr [] w W∧ ∀g,ak A=some g→w.heap.size≤g) (fun r W0 hf0 hr1 hr2=>?_)).mono (fun _ W' hq=>?_)
 ·refine⟨fun xs W=> ∃(A:Option Addr) (c':Nat) (sp:List Value),Hp W [(some g2,Cl [.slice A xs.length c'] (ρt 37)),(some Dm,.deferred (some [])),(some l,Lr c .ready none),(ak A,Cl (xs.flatMap cs++sp) (ρt 34))]∧Ow A xs.length c' m (xs.flatMap cs) sp∧Fr [] w W∧(∀g,ak A=some g→w.heap.size≤g∧g≠r)∧W0.heap.size≤W.heap.size,?_,?_,?_,?_⟩
  ·exact⟨none,0,[],CZ (hp.keep0 hf0) _,Ow.nil m,hF.step0 hf0,fun g e=>(by cases e),Nat.le_refl _⟩
  ·rintro xs W1 W2 ⟨A,c',sp,hp,how,hG,hA,hs⟩ hf;refine⟨A,c',sp,hp.keep hf (fun k hk hkr=>?_),how,hG.step hf (fun y hy=> .inr (by simp at hy;subst hy;have:=hF.size;omega)),hA,Nat.le_trans hs hf.size⟩;have hkr:=List.mem_singleton.1 hkr;subst hkr;obtain⟨i,o,hi⟩:=cV.1 hk;match i,hi with
   |0,hi=>injection hi with hi;injection hi with hi _;injection hi with hi;omega
   |1,hi=>injection hi with hi;injection hi with hi _;injection hi with hi;omega
   |2,hi=>injection hi with hi;injection hi with hi _;injection hi with hi;omega
   |3,hi=>injection hi with hi;injection hi with hi _;exact(hA _ hi).2 rfl
   |_+4,hi=>cases hi
  ·rintro xs x W1 hx ⟨A,c',sp,hp,how,hG,hA,hs⟩;obtain⟨hN,hx1,hx2,hx3⟩:=hok xs x hx;rw[hx1];have hF:=Fr.refl ([l,g2]++(ak A).toList) W1;refine AQ [7] hc1 rfl rfl (hp.at (i:=2) rfl) htm (fun [inst:cO]=>?_);rw[hc2];dsimp only[sS];refine rg (La rfl (oZ rfl rfl rfl zc hp fun g5 W2 hp hf2 hg5=>?_));have hp:Hp W2 [_,_,_,_,(some g5,Cl z (ρt 34))]:=hp;refine La rfl (qh (i:=4) rfl rfl rfl rfl sz hx2 hx3 hp rfl (by rw[hz,hx2]) fun W3 hp hf3 _=>?_);have hp:Hp W3 [_,_,_,_,(some g5,Cl (cs x) (ρt 34))]:=hp;have hF:=(hF.step0 hf2).step hf3 (fun y hy=> .inr (by simp at hy;subst hy;exact hg5));refine dW (eD ⟨_,2,hp,rfl,fun W4 hp hf4=>?_⟩);have hp:Hp W4 [(some g2,Cl [.slice A xs.length c'] (ρt 37)),_,(some l,Lr c .busy none),(ak A,Cl (xs.flatMap cs++sp) (ρt 34)),(some g5,Cl (cs x) (ρt 34))]:=hp;have hF:=hF.step hf4 (fun y hy=> .inl (by simp at hy;subst hy;simp));rw[hc3];refine cl ?_;refine rg (Ly rfl (sX (i:=0) rfl rfl plS (fun _ e=>e▸hp) rfl rfl) (Ly rfl (sY (i:=4) rfl rfl ag (fun _ e=>e▸hp) rfl hx2) ?_));refine La rfl (Hm rfl rfl rfl rfl es zc hx2 hmB hp fun g6 W5 hp hf5 hg6=>?_);have hp:Hp W5 [(some g2,Cl [.slice A xs.length c'] (ρt 37)),_,(some l,Lr c .busy none),(ak A,Cl (xs.flatMap cs++sp) (ρt 34)),(some g5,Cl (cs x) (ρt 34)),(some g6,Cl (cs x) (ρt 34))]:=hp;have hF:=hF.step0 hf5;refine La rfl (nC (i:=3) (news:=cs x) rfl rfl rfl rfl rfl rfl es zc hz hby hm0 how hp rfl (by rw[hx2,Nat.one_mul]) (Hw (by have:=rv hp (i:=5) rfl;exact this)) (fun e=>by cases e) hx3 (by show xs.length+1≤maxLen;unfold maxLen;omega) (mb (by omega) hbb) fun A' c2 sp' W6 how' hp hf6 hA'=>?_);have hp:Hp W6 [(some g2,Cl [.slice A xs.length c'] (ρt 37)),_,(some l,Lr c .busy none),(ak A',Cl (xs.flatMap cs++cs x++sp') (ρt 34)),(some g5,Cl (cs x) (ρt 34)),(some g6,Cl (cs x) (ρt 34))]:=hp;have hF5:=hF;have hF:=hF.step hf6 (fun y hy=> .inl (List.mem_append_right _ hy));refine La rfl (DP (i:=0) rfl rfl rfl rfl rfl aU rfl hp rfl (by simp) fun W7 hp hf7 _=>?_);have hp:Hp W7 [(some g2,Cl [.slice A' (xs.length+1) c2] (ρt 37)),(some Dm,.deferred (some [])),(some l,Lr c .busy none),(ak A',Cl (xs.flatMap cs++cs x++sp') (ρt 34)),(some g5,Cl (cs x) (ρt 34)),(some g6,Cl (cs x) (ρt 34))]:=hp;have hF:=hF.step hf7 (fun y hy=> .inl (by simp at hy;subst hy;simp));refine dW (od (On (i:=2) hp rfl (fun W8 hp hf8=>?_)));have hp:Hp W8 [(some g2,Cl [.slice A' (xs.length+1) c2] (ρt 37)),(some Dm,.deferred (some [])),(some l,Lr c .ready none),(ak A',Cl (xs.flatMap cs++cs x++sp') (ρt 34)),(some g5,Cl (cs x) (ρt 34)),(some g6,Cl (cs x) (ρt 34))]:=hp;have hF:=hF.step hf8 (fun y hy=> .inl (by simp at hy;subst hy;simp));have efm:(xs++ [x]).flatMap cs=xs.flatMap cs++cs x:=by simp
   have hO: ∀y∈ [l,g2]++(ak A).toList,w.heap.size≤y∧y≠r:=fun y hy=>by
    rcases List.mem_append.1 hy with hy|hy
    ·simp at hy;rcases hy with rfl|rfl
     ·exact⟨hl0,by omega⟩
     ·exact⟨hg2,by omega⟩
    ·exact hA y (by simpa using hy)
   refine⟨⟨A',c2,sp',?_,?_,hG.step hF (fun y hy=> .inr (hO y hy).1),fun g hg=>?_,Nat.le_trans hs hF.size⟩,_,hF,hO⟩
   ·rw[efm,List.length_append];exact hp.pk [0,1,2,3] (by decide)
   ·rw[efm,List.length_append];exact how'
   ·rcases hA' g hg with h|h
    ·exact hA g h
    ·have h1:=hF5.size;have h2:=hG.size;exact⟨by omega,by omega⟩
  ·rintro xs W1 hKS ⟨A,c',sp,hp,how,hG,hA,hs⟩;exact⟨A,c',sp,hp,how,hG,fun g hg=>(hA g hg).1⟩
 obtain⟨xs,hKS,A,c',sp,hp,how,hG,hA⟩:=hq;refine .inl ⟨_,2,hp,rfl,?_⟩;intro W2 hp hf inst;have hp:Hp W2 [(some g2,Cl [.slice A xs.length c'] (ρt 37)),(some Dm,.deferred (some [])),_,(ak A,Cl (xs.flatMap cs++sp) (ρt 34))]:=hp;have hG:=hG.step hf (fun y hy=> .inr (by simp at hy;subst hy;exact hl0));refine wn fun K3 hK3=>?_;refine rg (Ly rfl (sX (i:=0) rfl rfl plS (fun _ e=>e▸hp) rfl rfl) (gA rfl (dW (eD (hK3 _ _ ?_)))));refine wR (lY (DG (i:=1) hp rfl (fun WE hp hf=>⟨_,kU hr0 rfl,xs,A,c',sp,hKS,rfl,how,fun g hg=>⟨?_,hA g hg⟩,hG.step hf (fun y hy=> .inr (by simp at hy;subst hy;exact hD0))⟩)));exact hp.at (i:=3) (by rw[←hg];rfl)
section
variable [ax] {U:cn} {X:List Nat} {w:World} {ρ:Nat→Rz} {n:Nat} {H:Hs U}
theorem t8(M:bH U X (· =w) ρ n H){H':Hs U}(hp:H'.Perm H):bH U X (· =w) ρ n H'∧dg ρ n H w ρ n H' w:=by
 have nd':(H'.map (·.1)).Nodup:=(hp.map _).nodup_iff.2 M.nd;have hlk: ∀i,aL H' i=aL H i:=fun i=>by
  cases h:aL H i with
  |some x=>exact dS nd' (hp.mem_iff.2 (am h))
  |none=>
   cases h':aL H' i with
   |none=>rfl
   |some y=>rw[dS M.nd (hp.mem_iff.1 (am h'))]at h;cases h
 have hob: ∀g,g∈aj ρ H'↔g∈aj ρ H:=fun g=>(hp.filterMap _).mem_iff;have st:dg ρ n H w ρ n H' w:=⟨M.xd,Nat.le_refl _,Fr.refl _ _,fun g hg=> .inl ((hob g).1 hg),fun i hi v' l' m' h=>⟨v',l',m',by rw[←hlk];exact h,Nat.le_refl _,fun _=>⟨rfl,rfl,rfl⟩⟩,fun _ _ _=>rfl⟩;exact⟨⟨nd',fun p h=>M.lt p (hp.mem_iff.1 h),fun p h=>(M.ent p (hp.mem_iff.1 h)).step st rfl (fun _ _=>rfl),fun p h q h'=>M.inj p (hp.mem_iff.1 h) q (hp.mem_iff.1 h'),fun g hg=>M.dj g ((hob g).1 hg),M.lo,M.xs,M.gv⟩,st⟩
end
section
variable {U:cn} {Y:List Nat} {S:World→Prop} {d:KD U}
theorem aH.keys: ∀{l:List (TT U.ty d.k×TT U.ty d.v)} {m:List (TT U.ty d.k×Value)},aH U Y S d l m→m.map (·.1)=l.map (·.1)∧ ∀x∈l.map (·.1),∃vs,eN (fS d.k) (d.enc x) vs∧aK U Y S d.k x vs
 | [],[],_=>⟨rfl,fun x h=>by cases h⟩
 |(x,y)::l,(x',u)::m,⟨h1,hk,_,h3⟩=>by
  subst h1;obtain⟨h4,h5⟩:=aH.keys h3;refine⟨by simp[h4],fun z hz=>?_⟩;rcases List.mem_cons.1 hz with rfl|hz
  ·exact hk
  ·exact h5 z hz
 | [],_::_,h=>h.elim
 |_::_,[],h=>h.elim
theorem xk{s:bm}{cs:TT U.ty s→List Value}: ∀(l:List (TT U.ty s)),(∀x∈l,aK U Y S s x (cs x))→aZ U Y S s l (l.flatMap cs)
 | [],_=> .nil s
 |x::l,h=> .cons s x l (cs x) _ (h x (by simp)) (h x (by simp)).length (xk l fun y hy=>h y (by simp[hy]))
end
def ua(U:cn)(d:KD U)(fk tm el:Nat):bf U:=⟨[.n,.n],fun xs es K=> ∃l:List (TT U.ty d.k×TT U.ty d.v),xs= [⟨false,[(1,.nils)]⟩,⟨false,[(1,.clo fk [0])]⟩]∧es= [.cells [(1,.mp 1)] tm,.map d l]∧l.length≤1000000∧
 ∀ks:List (TT U.ty d.k),ks.Perm (l.map (·.1))→K (.v ⟨false,[(1,.own 2 0)]⟩) [.cells [(1,.mp 1)] tm,.map d l,.row 0 d.k ks el]⟩
theorem x9{U:cn}{P:Program}{fi fk kt et:Nat}{fn fn1:Go.Func}{ρf ρt ρf1 ρt1:Nat→Nat}{d:KD U}{ei:TI U}
  (hen:bg P fi=true) (hf:P.funcs[fi]? =some fn) (hb:fn.body=some (gP ρf ρt (ej Tryz.f196))) (hn:fn.ntmps=13) (hr0:fn.results= #[.tmp 4])
  (hen1:bg P fk=true) (hf1:P.funcs[fk]? =some fn1) (hb1:fn1.body=some (gP ρf1 ρt1 (ej Tryz.f162))) (hn1:fn1.ntmps=14) (hr1:fn1.results= #[]) (h34:ρt1 34=ρt 34)
  (es:aF P (ρt 37)=some (ρt 34,aU U d.k)) (plS:eE P (ρt 37)=true) (szS1:(P.info? (ρt 37)).map (·.size)=some 1) (zcS:zeroCells P (ρt 37)=some [.slice none 0 0]) (ag:bB P (ρt 34)=some (aU U d.k)) (sz:(P.info? (ρt 34)).map (·.size)=some (aU U d.k))
  (pl:eE P (ρt1 106)=true) (un:P.underlying (ρt1 106)=some (.map kt et)) (hag:fS d.k=true) (hti:bj U P (ρt 34) ei) (hz: ∃z,dL 20 d.k ei.zero fun x=>x=z) (hbb:ei.by_≤100000) (hm0:0<aU U d.k) (hmB:aU U d.k≤1000):dY P U fi (ua U d fk (ρt1 106) (ρt 34)):=fun [F:ax] hpr X w ρ es0 xs vs K M hv hrun=>by
 obtain⟨l,rfl,rfl,hl,hK⟩:=hrun;obtain⟨v1,us1,rfl,h1,v2,us2,rfl,h2,h3⟩:=hv;rw[show us2= []from h3];have e1: [v1]= [Value.slice none 0 0]:=(co.one1 h1).1;injection e1 with e1;subst e1;obtain⟨e2,hall⟩:=(co.one1 h2).1;injection e2 with e2;subst e2;obtain⟨g0,BH,hA0,hs0,hw0⟩:=M.ent (0,.cells [(1,.mp 1)] (ρt1 106)) (by simp[aS]);obtain⟨hkd,g,es',clock,mv,hA1,hM,hD,hw1⟩:=M.ent (1,.map d l) (by simp[aS]);obtain⟨z,hzz⟩:=hz;obtain⟨I,hu⟩:=jI hti ⟨z,hzz⟩ (aj ρ (aS 0 [aW.cells [(1,.mp 1)] (ρt1 106),.map d l])++X) w;obtain⟨hk1,hk2⟩:=hD.keys;have ev0:BH= [.map (some g)]:=by
  obtain⟨v1,v2,rfl,hl1,hx,hr⟩:=hs0;obtain⟨_,_,g',hA',e⟩:=hx;rw[show v2= []from hr,e];rw[hA1]at hA';injection hA' with hA';injection hA' with hA';subst hA';rfl
 subst ev0;have hgs:Hp w [(some g0,Cl [.map (some g)] (ρt1 106))]:=Hp.one1 (hw0 w rfl);obtain⟨cs,hcs⟩: ∃cs:TT U.ty d.k→List Value,cs=fun x=>(d.enc x).cells.toList:=⟨_,rfl⟩;have hE: ∀x∈mv.map (·.1),d.enc x= .agg (cs x).toArray∧(cs x).length=aU U d.k∧(∀v∈cs x,v.oneCell'=true)∧aK U (aj ρ (aS 0 [aW.cells [(1,.mp 1)] (ρt1 106),.map d l])++X) (· =w) d.k x (cs x):=fun x hx=>by
  obtain⟨vs,ha,hd⟩:=hk2 x (by rw[←hk1];exact hx);unfold eN at ha;rw[hag]at ha;have:cs x=vs:=by rw[hcs];simp only;rw[ha];simp[Value.cells]
  rw[this];exact⟨ha,hd.length,hd.one,hd⟩
 have hE3: ∀x∈mv.map (·.1),d.enc x= .agg (cs x).toArray∧(cs x).length=aU U d.k∧ ∀v∈cs x,v.oneCell'=true:=fun x hx=>⟨(hE x hx).1,(hE x hx).2.1,(hE x hx).2.2.1⟩;have hlen:(mv.map (·.1)).length≤1000000:=by rw[hk1,List.length_map];exact hl
 have key:([0].map fun j=>Value.pointer (ρ j).A)= [Value.pointer (some ⟨g0,0,none⟩)]:=by simp[hA0]
 rw[key];refine Fn.mono (Ac (cs:=cs) (enc:=d.enc) (KS:=fun xs=>xs.Perm (mv.map (·.1))) (ok:=fun xs x=> ∃ys,(xs++x::ys).Perm (mv.map (·.1))) hen hf hb hn hr0 hen1 es plS szS1 ag sz hu (default:Em U (aj ρ (aS 0 [aW.cells [(1,.mp 1)] (ρt1 106),.map d l])++X) w d.k).hl hti.by_ hbb hm0 hmB zcS _ w ?_ ?_) ?_
 ·rintro xs x ⟨ys,hp⟩;refine⟨?_,hE3 x (hp.mem_iff.1 (by simp))⟩;have:=hp.length_eq;simp only[List.length_append,List.length_cons]at this;omega
 ·intro l' W hf0 Q hJ;refine Fn.mono (CY (cs:=cs) (enc:=d.enc) (m:=aU U d.k) hen1 hf1 hb1 hn1 hr1 pl un (by rw[h34];exact ag) (by rw[h34];exact sz) (by rw[h34];exact hu) (default:Em U (aj ρ (aS 0 [aW.cells [(1,.mp 1)] (ρt1 106),.map d l])++X) w d.k).hl l' g0 g clock es' mv W hM hE3 (hgs.keep0 hf0) (by rw[hf0.block g (bF (hw1 w rfl)) (by simp)];exact hw1 w rfl) Q (fun _=>False) fun r W0 a1 a2 a3=>?_) (fun v W' hq=>hq.resolve_right id);obtain⟨J,b1,b2,b3,b4⟩:=hJ r W0 a1 a2 a3;refine⟨J,b1,b2,fun xs x W1 hx hj=>?_,b4⟩;have hy:=b3 xs x W1 hx hj;obtain⟨fn',tm',as',bo',c1,c2⟩:=hy;refine⟨fn',tm',as',bo',c1,c2.mono fun e w' h=>?_⟩;obtain⟨b,q1,q2,q3⟩:=h;refine⟨b,q1,fun hb=>?_,q3⟩;obtain⟨q4,O,q5,q6⟩:=q2 hb;exact⟨q4,O,q5,fun h=>by have:=(q6 _ h).1;have:=bF (hw1 w rfl);omega,fun h=>(q6 _ h).2 rfl⟩
 ·rintro v w' ⟨ks,A,c,sp,hKS,rfl,how,hblk,hF⟩;obtain⟨ρ',a1,a2,a3⟩:=GL (el:=ρt 34) M hF hm0 (xk (cs:=cs) ks fun x hx=>(hE x (hKS.mem_iff.1 hx)).2.2.2) how (fun g hg=>(hblk g hg).1) (fun g hg=>(hblk g hg).2);obtain⟨m2,s2⟩:=t8 (H':=aS 0 [aW.cells [(1,.mp 1)] (ρt1 106),.map d l,.row 0 d.k ks (ρt 34)]) a2 (List.perm_append_singleton (2,aW.row 0 d.k ks (ρt 34)) (aS 0 [aW.cells [(1,.mp 1)] (ρt1 106),.map d l]));exact⟨_,_,ρ',hK ks (by rw[←hk1];exact hKS),a1.imp fun _ _ h=>h.step s2,m2,a3.trans s2⟩
end Go.Proofs.YtiliglahlfkikaaGreatDoor.V
end

section
set_option linter.unusedVariables false
set_option linter.unusedSimpArgs false
namespace Go.Proofs.YtiliglahlfkikaaGreatDoor.V
open Go.RowKit Go.Shelf Go.Lib Go.Sort
section
variable [ax] {U:cn} {X:List Nat} {w w':World} {ρ:Nat→Rz} {n:Nat} {H:Hs U}
theorem LV{d:KD U}{l:List (TT U.ty d.k×TT U.ty d.v)}{mv:List (TT U.ty d.k×Value)}{es:Array MapEntry}{clock g:Nat}(M:bH U X (· =w) ρ n H)(hf:Fr [] w w')(hkd:vA U d)(hM:nJ d.enc (fun v:Value=>v) es clock mv)(hD:aH U (aj ρ H++X) (· =w) d l mv)(hg:w.heap.size≤g)(hblk:w'.heap[g]? =some (.map es clock)):
  ∃ρ',dJ (Vw U X w' ρ' (n+1) ((n,.map d l)::H)) ⟨false,[(1,.mp n)]⟩ (.map (some g))∧bH U X (· =w') ρ' (n+1) ((n,.map d l)::H)∧dg ρ n H w ρ' (n+1) ((n,.map d l)::H) w':=by
 have hb: ∀g',aA (cW ρ n ⟨some ⟨g,0,none⟩,0⟩) (n,(.map d l:aW U))=some g'→w.heap.size≤g':=fun g' h=>by
  have h:ak (cW ρ n ⟨some ⟨g,0,none⟩,0⟩ n).A=some g':=h;rw[aN]at h;injection h with h;subst h;exact hg
 have st:=dg.push (ρ:=ρ) M.xd M.lt hf ⟨some ⟨g,0,none⟩,0⟩ (.map d l:aW U) hb;refine⟨cW ρ n ⟨some ⟨g,0,none⟩,0⟩,jF ⟨Nat.lt_succ_self _,by rw[rN];rfl,g,by rw[aN],rfl⟩,M.push hf _ _ hb ⟨hkd,g,es,clock,mv,by rw[aN],hM,aH.mv (st.mv (X:=X)) hD,fun w2 h2=>by subst h2;exact hblk⟩,st⟩
end
section
variable {U:cn} {P:Program} {ρs:Ren} {d:KD U}
def sw(U:cn)(d:KD U):bf U:=⟨[.n],fun xs es K=> ∃l:List (TT U.ty d.k×TT U.ty d.v),xs= [⟨false,[(1,.mp 0)]⟩]∧es= [.map d l]∧K (.v ⟨false,[(1,.mp 1)]⟩) [.map d l,.map d l]⟩
theorem ub(L:SlLaysW.n5 P ρs)(hen:bg P (ρs.f 5)=true):dY P U (ρs.f 5) (sw U d):=fun [F:ax] hpr X w ρ es0 xs vs K M hv hrun=>by
 obtain⟨l,rfl,rfl,hK⟩:=hrun;obtain⟨v1,us1,rfl,h1,h3⟩:=hv;rw[show us1= []from h3];obtain⟨hkd,g,es,clock,mv,hA,hM,hD,hw⟩:=M.ent (0,.map d l) (by simp[aS]);obtain⟨_,_,g',hA',e1⟩:=(co.one1 h1).1;rw[hA]at hA';injection hA' with hA';injection hA' with hA';subst hA';injection e1 with e1;subst e1;refine⟨hen,(AnyW.maps_Clone L g es clock w (hw w rfl)).mono ?_⟩;rintro e w' ⟨rfl,rfl⟩;obtain⟨ρ',a1,a2,a3⟩:=LV M (Fr.alloc w (.map es clock)) hkd hM hD (Nat.le_refl _) (heap_alloc_new w _);obtain⟨m2,s2⟩:=t8 (H':=aS 0 [aW.map d l,.map d l]) a2 (List.perm_append_singleton (1,aW.map d l) (aS 0 [aW.map d l]));exact⟨_,rfl,_,_,ρ',hK,a1.imp fun _ _ h=>h.step s2,m2,a3.trans s2⟩
end
theorem mo.perm{α:Type}{l l':List α}{g:α→α→Int}(h:mo l g)(hp:l'.Perm l):mo l' g:=⟨h.1,fun x hx y hy=>h.2 x (hp.mem_iff.1 hx) y (hp.mem_iff.1 hy)⟩
theorem pA{α:Type}{l l':List α}{g:α→α→Int}(h:mo l g)(hp:l'.Perm l):bu g l'=bu g l:=by
 have tr: ∀a b c:α,(!(ltOf g) b a)=true→(!(ltOf g) c b)=true→(!(ltOf g) c a)=true:=fun a b c h1 h2=>by
  simp only[Bool.not_eq_true']at*;exact h.1.3 c b a h2 h1
 have tot: ∀a b:α,((!(ltOf g) b a)||(!(ltOf g) a b))=true:=fun a b=>by
  cases h1:ltOf g b a with
  |false=>rfl
  |true=>
   cases h2:ltOf g a b with
   |false=>rfl
   |true=>have:=h.1.2 _ _ _ h1 h2;rw[h.1.1]at this;cases this
 have p1:(bu g l').Perm l':=List.mergeSort_perm _ _;have p2:(bu g l).Perm l:=List.mergeSort_perm _ _;have s1:=List.pairwise_mergeSort (le:=fun x y=>!(ltOf g) y x) tr tot l';have s2:=List.pairwise_mergeSort (le:=fun x y=>!(ltOf g) y x) tr tot l;refine List.Perm.eq_of_pairwise (le:=fun x y=>(!(ltOf g) y x)=true) (fun a b ha hb h1 h2=>?_) s1 s2 ((p1.trans hp).trans p2.symm);simp only[Bool.not_eq_true']at h1 h2;exact h.2 a (hp.mem_iff.1 (p1.mem_iff.1 ha)) b (p2.mem_iff.1 hb) h2 h1
def ya(U:cn)(d:KD U)(fk tm el:Nat):bf U:=⟨[.n,.f2 d.k d.k],fun xs es K=> ∃(l:List (TT U.ty d.k×TT U.ty d.v)) (g:TT U.ty d.k→TT U.ty d.k→Int),xs= [⟨false,[(1,.clo fk [0])]⟩,⟨false,[(1,.f2 d.k d.k g)]⟩]∧es= [.cells [(1,.mp 1)] tm,.map d l]∧l.length≤1000000∧mo (l.map (·.1)) g∧
 K (.v ⟨false,[(1,.own 2 0)]⟩) [.cells [(1,.mp 1)] tm,.map d l,.row 0 d.k (bu g (l.map (·.1))) el]⟩
def Ad(U:cn)(d:KD U)(fk tm el:Nat):bf U:=⟨[.n],fun xs es K=> ∃l:List (TT U.ty d.k×TT U.ty d.v),xs= [⟨false,[(1,.clo fk [0])]⟩]∧es= [.cells [(1,.mp 1)] tm,.map d l]∧l.length≤1000000∧
 ∀ks:List (TT U.ty d.k),ks.Perm (l.map (·.1))→K (.v ⟨false,[(1,.own 2 0)]⟩) [.cells [(1,.mp 1)] tm,.map d l,.row 0 d.k ks el]⟩
end Go.Proofs.YtiliglahlfkikaaGreatDoor.V
end

section
set_option linter.unusedVariables false
set_option maxRecDepth 20000
namespace Go.Proofs.YtiliglahlfkikaaGreatDoor.V
open Go.RowKit Go.Shelf Go.Sort
def Rx:bf U:=sm U (.st 1) 34
theorem Is:dY Tryz.prog U 85 Rx:=sr (s:=(.st 1)) (fn:=Tryz.f85) (ρf:=fun n=>n) (ρt:=fun n=>n) (by kernel_rfl) Tryz.func85 (by kernel_rfl) rfl rfl (by kernel_rfl) Tryz.underlying3 (by kernel_rfl) (by kernel_rfl) jV ⟨_,rfl⟩ (by decide) (by decide) (by decide)
def NQ:bf U:=sm U (.st 7) 159
theorem AC:dY Tryz.prog U 103 NQ:=sr (s:=(.st 7)) (fn:=Tryz.f103) (ρf:=fun n=>n) (ρt:=fun|37=>54|n=>n) (by kernel_rfl) Tryz.func103 (by kernel_rfl) rfl rfl (by kernel_rfl) Tryz.underlying3 (by kernel_rfl) (by kernel_rfl) lO ⟨_,rfl⟩ (by decide) (by decide) (by decide)
def NR:bf U:=sm U (.st 4) 164
theorem Dl:dY Tryz.prog U 104 NR:=sr (s:=(.st 4)) (fn:=Tryz.f104) (ρf:=fun n=>n) (ρt:=fun|37=>57|n=>n) (by kernel_rfl) Tryz.func104 (by kernel_rfl) rfl rfl (by kernel_rfl) Tryz.underlying3 (by kernel_rfl) (by kernel_rfl) lP ⟨_,rfl⟩ (by decide) (by decide) (by decide)
def Ry:bf U:=ss U (.st 3) 47
theorem RA:dY Tryz.prog U 45 Ry:=tZ (fg:=Tryz.f100) (s:=(.st 3)) (fn:=Tryz.f45) (ρf:=fun|188=>100|n=>n) (ρt:=fun|37=>64|264=>186|n=>n) (by kernel_rfl) Tryz.func45 (by kernel_rfl) rfl rfl (by kernel_rfl) Tryz.func100 (by kernel_rfl) rfl rfl (by kernel_rfl) Tryz.underlying3 (by kernel_rfl) (by kernel_rfl) (by kernel_rfl) (by kernel_rfl) (by kernel_rfl) ta ⟨_,rfl⟩ (by decide) (by decide) (by decide)
def NS:bf U:=ss U (.st 1) 34
theorem Jp:dY Tryz.prog U 137 NS:=tZ (fg:=Tryz.f188) (s:=(.st 1)) (fn:=Tryz.f137) (ρf:=fun n=>n) (ρt:=fun n=>n) (by kernel_rfl) Tryz.func137 (by kernel_rfl) rfl rfl (by kernel_rfl) Tryz.func188 (by kernel_rfl) rfl rfl (by kernel_rfl) Tryz.underlying3 (by kernel_rfl) (by kernel_rfl) (by kernel_rfl) (by kernel_rfl) (by kernel_rfl) jV ⟨_,rfl⟩ (by decide) (by decide) (by decide)
def NT:bf U:=su U (.st 7) 159
theorem NU:dY Tryz.prog U 136 NT:=t6 (fo:=Tryz.f186) (s:=(.st 7)) (fn:=Tryz.f136) (ρf:=fun n=>n) (ρt:=fun n=>n) (by kernel_rfl) Tryz.func136 (by kernel_rfl) rfl rfl (by kernel_rfl) Tryz.underlying3 (by kernel_rfl) (by kernel_rfl) Tryz.func186 (by kernel_rfl) (by kernel_rfl) (by kernel_rfl) (by kernel_rfl) lO ⟨_,rfl⟩ (by decide) (by decide) (by decide)
def NV:bf U:=su U (.st 4) 164
theorem NW:dY Tryz.prog U 148 NV:=t6 (fo:=Tryz.f191) (s:=(.st 4)) (fn:=Tryz.f148) (ρf:=fun|186=>191|187=>192|n=>n) (ρt:=fun|54=>57|n=>n) (by kernel_rfl) Tryz.func148 (by kernel_rfl) rfl rfl (by kernel_rfl) Tryz.underlying3 (by kernel_rfl) (by kernel_rfl) Tryz.func191 (by kernel_rfl) (by kernel_rfl) (by kernel_rfl) (by kernel_rfl) lP ⟨_,rfl⟩ (by decide) (by decide) (by decide)
def NX:bf U:=vP U (.st 1)
theorem NY:dY Tryz.prog U 124 NX:=xi (s:=(.st 1)) (fn:=Tryz.f124) (ρf:=fun n=>n) (ρt:=fun|54=>37|228=>86|159=>34|n=>n) (by kernel_rfl) Tryz.func124 (by kernel_rfl) rfl rfl (by kernel_rfl) Tryz.underlying3 rfl (by kernel_rfl) (by kernel_rfl) rfl (by kernel_rfl) (by kernel_rfl) jV ⟨_,rfl⟩ (by decide) (by decide) (by decide)
def NZ:bf U:=vP U (.st 7)
theorem N0:dY Tryz.prog U 190 NZ:=xi (s:=(.st 7)) (fn:=Tryz.f190) (ρf:=fun n=>n) (ρt:=fun n=>n) (by kernel_rfl) Tryz.func190 (by kernel_rfl) rfl rfl (by kernel_rfl) Tryz.underlying3 rfl (by kernel_rfl) (by kernel_rfl) rfl (by kernel_rfl) (by kernel_rfl) lO ⟨_,rfl⟩ (by decide) (by decide) (by decide)
def N1:bf U:=oP U (.st 1) 34
theorem Jq:dY Tryz.prog U 164 N1:=pw (fx:=Tryz.f124) (s:=(.st 1)) (fn:=Tryz.f164) (ρf:=fun|190=>124|n=>n) (ρt:=fun|54=>37|228=>86|159=>34|n=>n) (by kernel_rfl) Tryz.func164 (by kernel_rfl) rfl rfl (by kernel_rfl) Tryz.func124 (by kernel_rfl) rfl rfl (by kernel_rfl) Tryz.underlying3 rfl (by kernel_rfl) (by kernel_rfl) rfl (by kernel_rfl) (by kernel_rfl) jV ⟨_,rfl⟩ (by decide) (by decide) (by decide)
def N2:bf U:=oP U (.st 7) 159
theorem N3:dY Tryz.prog U 140 N2:=pw (fx:=Tryz.f190) (s:=(.st 7)) (fn:=Tryz.f140) (ρf:=fun n=>n) (ρt:=fun n=>n) (by kernel_rfl) Tryz.func140 (by kernel_rfl) rfl rfl (by kernel_rfl) Tryz.func190 (by kernel_rfl) rfl rfl (by kernel_rfl) Tryz.underlying3 rfl (by kernel_rfl) (by kernel_rfl) rfl (by kernel_rfl) (by kernel_rfl) lO ⟨_,rfl⟩ (by decide) (by decide) (by decide)
def N4:bf U:=oP U (.st 4) 164
theorem N5:dY Tryz.prog U 149 N4:=pw (fx:=Tryz.f193) (s:=(.st 4)) (fn:=Tryz.f149) (ρf:=fun|190=>193|n=>n) (ρt:=fun|54=>57|228=>235|159=>164|n=>n) (by kernel_rfl) Tryz.func149 (by kernel_rfl) rfl rfl (by kernel_rfl) Tryz.func193 (by kernel_rfl) rfl rfl (by kernel_rfl) Tryz.underlying3 rfl (by kernel_rfl) (by kernel_rfl) rfl (by kernel_rfl) (by kernel_rfl) lP ⟨_,rfl⟩ (by decide) (by decide) (by decide)
def Jr:DecidableEq (TT U.ty (.st 1)):=inferInstanceAs (DecidableEq ae)
def N6:bf U:=t7 U (.st 1) 34 Jr
theorem Js:dY Tryz.prog U 139 N6:=x5 (s:=(.st 1)) (fn:=Tryz.f139) (ρf:=fun n=>n) (ρt:=fun n=>n) Jr (by kernel_rfl) Tryz.func139 (by kernel_rfl) rfl rfl (by kernel_rfl) Tryz.underlying3 (by kernel_rfl) (by kernel_rfl) rfl (by kernel_rfl) (by kernel_rfl) J6 jV ⟨_,rfl⟩ (by decide) (by decide) (by decide)
def Jt:bf U:=EO U (.st 1) 34
theorem Hi:dY Tryz.prog U 138 Jt:=GN (s:=(.st 1)) (ρs:=Tryz.laysSortTag_ren) Tryz.laysSortTag (by kernel_rfl) rfl (by kernel_rfl) (by kernel_rfl) jV ⟨_,rfl⟩ (by decide) (fun _ _ _ _ _ h h'=>(uZ h).trans (uZ h').symm)
def RB:bf U:=Aa U
theorem RC:dY Tryz.prog U 67 RB:=CW (by kernel_rfl) Tryz.strings_Split
def RE:bf U:=xj U
theorem RF:dY Tryz.prog U 68 RE:=Ab
def RG:bf U:=sw U bT
theorem RH:dY Tryz.prog U 58 RG:=ub (ρs:=Tryz.laysCloneE_ren) Tryz.laysCloneE (by kernel_rfl)
def RI:bf U:=sw U cZ
theorem RJ:dY Tryz.prog U 59 RI:=ub (ρs:=Tryz.laysCloneB_ren) Tryz.laysCloneB (by kernel_rfl)
def Ju:bf U:=ua U bT 162 106 34
theorem N7:dY Tryz.prog U 196 Ju:=x9 (d:=bT) (fn:=Tryz.f196) (fn1:=Tryz.f162) (ρf:=fun n=>n) (ρt:=fun n=>n) (ρf1:=fun n=>n) (ρt1:=fun n=>n) (by kernel_rfl) Tryz.func196 (by kernel_rfl) rfl rfl (by kernel_rfl) Tryz.func162 (by kernel_rfl) rfl rfl rfl (by kernel_rfl) (by kernel_rfl) (by kernel_rfl) (by kernel_rfl) (by kernel_rfl) (by kernel_rfl) (by kernel_rfl) Tryz.underlying106 rfl jV ⟨_,rfl⟩ (by decide) (by decide) (by decide)
def Jv:bf U:=Ad U bT 162 106 34
def N8:jZ U:= [(196,Ju)]
theorem Dn:ku Tryz.prog U N8:=aa N7 (ah)
theorem N9:dY Tryz.prog U 161 Jv:=by
 refine zO (fn:=Tryz.f161) Dn wr (by kernel_rfl) Tryz.f161.ntmps [.n] [] (by kernel_rfl) (by kernel_rfl) rfl rfl (by kernel_rfl) (fun xs es K=>?_);rintro⟨l,rfl,rfl,hl,h⟩;exact⟨rfl,l,rfl,rfl,hl,fun ks hk=>h ks hk⟩
def Oa:bf U:=ya U bT 162 106 34
def Ob:jZ U:= [(161,Jv),(138,Jt)]
theorem Do:ku Tryz.prog U Ob:=aa N9 (aa Hi (ah))
theorem Oc:dY Tryz.prog U 101 Oa:=by
 refine zO (fn:=Tryz.f101) Do wr (by kernel_rfl) Tryz.f101.ntmps [.n] [] (by kernel_rfl) (by kernel_rfl) rfl rfl (by kernel_rfl) (fun xs es K=>?_);rintro⟨l,g,rfl,rfl,hl,hs,h⟩;refine⟨rfl,l,rfl,rfl,hl,fun ks hk=>⟨ks,g,rfl,rfl,hs.perm hk,Nat.lt_of_le_of_lt (Nat.le_trans (Nat.le_of_eq (hk.length_eq.trans (List.length_map ..))) hl) (by decide),?_⟩⟩;rw[←pA hs hk]at h;exact h
end Go.Proofs.YtiliglahlfkikaaGreatDoor.V
end

section
set_option linter.unusedVariables false
set_option linter.unusedSimpArgs false
set_option maxRecDepth 20000
set_option maxHeartbeats 4000000
namespace Go.Proofs.YtiliglahlfkikaaGreatDoor.V
open Go.RowKit
def nW(x:Int):Bool:=
 decide ¬x=x
def Mf:bf U:=⟨[.d (.int .i64)],fun xs es K=> ∃(x:Int),xs= [(vi x)]∧es= []∧K (.v (vb (nW x))) []⟩
theorem Mg:Fk 183 Mf:=by
 refine fo Tryz.f183 [.d .bool] [] (ah) fun xs es K=>?_;rintro⟨x,rfl,rfl,h⟩;refine⟨rfl,?_⟩;have hf0:=nW.eq_1 x;exact e0
def nX(x:Int):Bool:=
 decide ¬x=x
def Mi:bf U:=⟨[.d (.int .u32)],fun xs es K=> ∃(x:Int),xs= [(vw x)]∧es= []∧K (.v (vb (nX x))) []⟩
theorem Mj:Fk 220 Mi:=by
 refine fo Tryz.f220 [.d .bool] [] (ah) fun xs es K=>?_;rintro⟨x,rfl,rfl,h⟩;refine⟨rfl,?_⟩;have hf0:=nX.eq_1 x;exact e0
def nY(x:Int):Bool:=
 decide ¬x=x
def Ml:bf U:=⟨[.d (.int .i64)],fun xs es K=> ∃(x:Int),xs= [(vi x)]∧es= []∧K (.v (vb (nY x))) []⟩
theorem Mm:Fk 221 Ml:=by
 refine fo Tryz.f221 [.d .bool] [] (ah) fun xs es K=>?_;rintro⟨x,rfl,rfl,h⟩;refine⟨rfl,?_⟩;have hf0:=nY.eq_1 x;exact e0
def mr(x:Int)(y:Int):Int:=
 if nW x=true then
  if nW y=true then
   0
  else
   (-1)
 else
  if nW y=true then
   1
  else
   if x<y then
    (-1)
   else
    if y<x then
     1
    else
     0
def Mn:bf U:=⟨[.d (.int .i64),.d (.int .i64)],fun xs es K=> ∃(x:Int) (y:Int),xs= [(vi x),(vi y)]∧es= []∧K (.v (vi (mr x y))) []⟩
theorem GR:Fk 128 Mn:=by
 refine fo Tryz.f128 [.d (.int .i64)] [] (aa Mg ah) fun xs es K=>?_;rintro⟨x,y,rfl,rfl,h⟩;refine⟨rfl,?_⟩;have hf0:=mr.eq_1 x y;refine⟨_,rfl,rfl,?_⟩;refine⟨_,rfl,rfl,?_⟩;exact wI hf0 (fun _ hf0=>wI hf0 (fun _ hf0=>e0) fun _ hf0=>e0) fun _ hf0=>wI hf0 (fun _ hf0=>e0) fun _ hf0=>wI hf0 (fun _ hf0=>e0) fun _ hf0=>wI hf0 (fun _ hf0=>e0) fun _ hf0=>e0
def nZ(x:Int)(y:Int):Int:=
 if nX x=true then
  if nX y=true then
   0
  else
   (-1)
 else
  if nX y=true then
   1
  else
   if x<y then
    (-1)
   else
    if y<x then
     1
    else
     0
def Mo:bf U:=⟨[.d (.int .u32),.d (.int .u32)],fun xs es K=> ∃(x:Int) (y:Int),xs= [(vw x),(vw y)]∧es= []∧K (.v (vi (nZ x y))) []⟩
theorem Jd:Fk 182 Mo:=by
 refine fo Tryz.f182 [.d (.int .i64)] [] (aa Mj ah) fun xs es K=>?_;rintro⟨x,y,rfl,rfl,h⟩;refine⟨rfl,?_⟩;have hf0:=nZ.eq_1 x y;refine⟨_,rfl,rfl,?_⟩;refine⟨_,rfl,rfl,?_⟩;exact wI hf0 (fun _ hf0=>wI hf0 (fun _ hf0=>e0) fun _ hf0=>e0) fun _ hf0=>wI hf0 (fun _ hf0=>e0) fun _ hf0=>wI hf0 (fun _ hf0=>e0) fun _ hf0=>wI hf0 (fun _ hf0=>e0) fun _ hf0=>e0
def pC(x:Int)(y:Int):Int:=
 if nY x=true then
  if nY y=true then
   0
  else
   (-1)
 else
  if nY y=true then
   1
  else
   if x<y then
    (-1)
   else
    if y<x then
     1
    else
     0
def Mq:bf U:=⟨[.d (.int .i64),.d (.int .i64)],fun xs es K=> ∃(x:Int) (y:Int),xs= [(vi x),(vi y)]∧es= []∧K (.v (vi (pC x y))) []⟩
theorem Mr:Fk 184 Mq:=by
 refine fo Tryz.f184 [.d (.int .i64)] [] (aa Mm ah) fun xs es K=>?_;rintro⟨x,y,rfl,rfl,h⟩;refine⟨rfl,?_⟩;have hf0:=pC.eq_1 x y;refine⟨_,rfl,rfl,?_⟩;refine⟨_,rfl,rfl,?_⟩;exact wI hf0 (fun _ hf0=>wI hf0 (fun _ hf0=>e0) fun _ hf0=>e0) fun _ hf0=>wI hf0 (fun _ hf0=>e0) fun _ hf0=>wI hf0 (fun _ hf0=>e0) fun _ hf0=>wI hf0 (fun _ hf0=>e0) fun _ hf0=>e0
def gG(l:List Int):Nat→Int→Int⊕(Int)
 |0,s8=> .inr s8
 |n1+1,s8=>
  if s8<(l.length:Int)then
   if ix l s8=0 then
    gG l n1 (s8+1)
   else
    .inl (ix l s8)
  else
   .inr s8
def jK(l:List Int):Int:=
 match gG l (((l.length:Int)- 0).toNat+1) 0 with
 | .inl r=>r
 | .inr s8=>
  0
def Ms:bf U:=⟨[.d (.sl (.int .i64))],fun xs es K=> ∃(l:List Int),xs= [(Iw l)]∧es= []∧K (.v (vi (jK l))) []⟩
theorem C5:Fk 126 Ms:=by
 refine fo Tryz.f126 [.d (.int .i64)] [] (ah) fun xs es K=>?_;rintro⟨l,rfl,rfl,h⟩;refine⟨rfl,?_⟩;have hf0:=jK.eq_1 l;refine fl (x:=l.length) fun _=>?_;refine lI 0 (fun(s8:Int)=> [(2,.v (vi 0)),(3,.v (vi 0)),(6,.v (Iw l)),(7,.v (vi (l.length:Int))),(8,.v (vi s8))]) (fun(s8:Int)=> []) (fun(s8:Int)=>((l.length:Int)- s8).toNat) (fun(s8:Int)=>(0≤s8)∧(s8≤(l.length:Int))∧True) (fun n1 (s8:Int)=>gG l n1 s8) (gG l (((l.length:Int)- 0).toNat+1) 0) [] (0:Int) ?_;rintro s8 ⟨n1,hc1,⟨hi1_0,hi1_1,-⟩,hf1⟩;have hf1:=hf1.trans (gG.eq_2 l s8 n1);refine wI hf1 (fun _ hf1=>?_) fun _ hf1=>e1;refine vx s8 l ?_;refine wN hf1 (fun _ hf1=>e1) fun _ hf1=>?_;refine bY ?_;exact nx [] (s8+1) hc1 hf1
def i6(l:List Int):Nat→Int→Int⊕(Int)
 |0,s8=> .inr s8
 |n1+1,s8=>
  if s8<(l.length:Int)then
   if ix l s8=0 then
    i6 l n1 (s8+1)
   else
    .inl (ix l s8)
  else
   .inr s8
def j4(l:List Int):Int:=
 match i6 l (((l.length:Int)- 0).toNat+1) 0 with
 | .inl r=>r
 | .inr s8=>
  0
def Mt:bf U:=⟨[.d (.sl (.int .i64))],fun xs es K=> ∃(l:List Int),xs= [(Iw l)]∧es= []∧K (.v (vi (j4 l))) []⟩
theorem Mu:Fk 129 Mt:=by
 refine fo Tryz.f129 [.d (.int .i64)] [] (ah) fun xs es K=>?_;rintro⟨l,rfl,rfl,h⟩;refine⟨rfl,?_⟩;have hf0:=j4.eq_1 l;refine fl (x:=l.length) fun _=>?_;refine lI 0 (fun(s8:Int)=> [(2,.v (vi 0)),(3,.v (vi 0)),(6,.v (Iw l)),(7,.v (vi (l.length:Int))),(8,.v (vi s8))]) (fun(s8:Int)=> []) (fun(s8:Int)=>((l.length:Int)- s8).toNat) (fun(s8:Int)=>(0≤s8)∧(s8≤(l.length:Int))∧True) (fun n1 (s8:Int)=>i6 l n1 s8) (i6 l (((l.length:Int)- 0).toNat+1) 0) [] (0:Int) ?_;rintro s8 ⟨n1,hc1,⟨hi1_0,hi1_1,-⟩,hf1⟩;have hf1:=hf1.trans (i6.eq_2 l s8 n1);refine wI hf1 (fun _ hf1=>?_) fun _ hf1=>e1;refine vx s8 l ?_;refine wN hf1 (fun _ hf1=>e1) fun _ hf1=>?_;refine bY ?_;exact nx [] (s8+1) hc1 hf1
def fV(id:kW):Int:=
 if(((id.origin<0)∨(8≤id.origin))∨(id.seq=0))∨(1048576<id.seq)then
  2
 else
  0
def PI:bf U:=⟨[.d (.st 0)],fun xs es K=> ∃(id:kW),xs= [(BH id)]∧es= []∧K (.v (vi (fV id))) []⟩
theorem OU:Fk 77 PI:=by
 refine fo Tryz.f77 [.d (.int .i64)] [] (ah) fun xs es K=>?_;rintro⟨id,rfl,rfl,h⟩;refine⟨rfl,?_⟩;have hf0:=fV.eq_1 id;exact wI hf0 (fun _ hf0=>e0) fun _ hf0=>e0
def dM(t:ae):Int:=
 if(t.n<0)∨(16≤t.n)then
  2
 else
  fV t.id
def Mw:bf U:=⟨[.d (.st 1)],fun xs es K=> ∃(t:ae),xs= [(qF t)]∧es= []∧K (.v (vi (dM t))) []⟩
theorem GS:Fk 123 Mw:=by
 refine fo Tryz.f123 [.d (.int .i64)] [] (aa OU ah) fun xs es K=>?_;rintro⟨t,rfl,rfl,h⟩;refine⟨rfl,?_⟩;have hf0:=dM.eq_1 t;refine wI hf0 (fun _ hf0=>e0) fun _ hf0=>?_;refine⟨_,rfl,rfl,?_⟩;exact e0
def gT(a:kW)(b:kW):Int:=
 jK [mr a.origin b.origin,nZ a.seq b.seq]
def Mx:bf U:=⟨[.d (.st 0),.d (.st 0)],fun xs es K=> ∃(a:kW) (b:kW),xs= [(BH a),(BH b)]∧es= []∧K (.v (vi (gT a b))) []⟩
theorem My:Fk 127 Mx:=by
 refine fo Tryz.f127 [.d (.int .i64)] [] (aa C5 (aa GR (aa Jd ah))) fun xs es K=>?_;rintro⟨a,b,rfl,rfl,h⟩;refine⟨rfl,?_⟩;have hf0:=gT.eq_1 a b;refine dp [(true,0),(true,1),(true,2),(true,3),(true,5),(true,6),(true,7),(true,8),(false,4),(false,9),(false,10),(false,11),(true,12)] none (nw 2) ?_;refine⟨_,_,rfl,rfl,?_⟩;refine⟨_,_,rfl,rfl,?_⟩;refine⟨_,rfl,rfl,?_⟩;exact e0
def ab(a:ae)(b:ae):Int:=
 jK [gT a.id b.id,mr a.n b.n]
def PJ:bf U:=⟨[.d (.st 1),.d (.st 1)],fun xs es K=> ∃(a:ae) (b:ae),xs= [(qF a),(qF b)]∧es= []∧K (.v (vi (ab a b))) []⟩
theorem BI:Fk 76 PJ:=by
 refine fo Tryz.f76 [.d (.int .i64)] [] (aa C5 (aa My (aa GR ah))) fun xs es K=>?_;rintro⟨a,b,rfl,rfl,h⟩;refine⟨rfl,?_⟩;have hf0:=ab.eq_1 a b;refine dp [(true,0),(true,1),(true,2),(true,3),(true,5),(true,6),(true,7),(true,8),(false,4),(false,9),(false,10),(false,11),(true,12)] none (nw 2) ?_;refine⟨_,_,rfl,rfl,?_⟩;refine⟨_,_,rfl,rfl,?_⟩;refine⟨_,rfl,rfl,?_⟩;exact e0
def lB(origin:Int):Bool:=
 decide (0≤origin)&&decide (origin<8)
def Mz:bf U:=⟨[.d (.int .i64)],fun xs es K=> ∃(origin:Int),xs= [(vi origin)]∧es= []∧K (.v (vb (lB origin))) []⟩
theorem MA:Fk 181 Mz:=by
 refine fo Tryz.f181 [.d .bool] [] (ah) fun xs es K=>?_;rintro⟨origin,rfl,rfl,h⟩;refine⟨rfl,?_⟩;have hf0:=lB.eq_1 origin;exact e0
def fW(s:au):Int:=
 if(1048576<s.time)∨(¬(lB s.origin=true))then
  2
 else
  0
def MB:bf U:=⟨[.d (.st 2)],fun xs es K=> ∃(s:au),xs= [(Ex s)]∧es= []∧K (.v (vi (fW s))) []⟩
theorem GT:Fk 125 MB:=by
 refine fo Tryz.f125 [.d (.int .i64)] [] (aa MA ah) fun xs es K=>?_;rintro⟨s,rfl,rfl,h⟩;refine⟨rfl,?_⟩;have hf0:=fW.eq_1 s;refine⟨_,fun _=>⟨_,rfl,rfl,rfl,rfl⟩,rfl,?_⟩;exact wI hf0 (fun _ hf0=>e0) fun _ hf0=>e0
def jm(a:au)(b:au):Int:=
 jK [nZ a.time b.time,mr a.origin b.origin]
def MC:bf U:=⟨[.d (.st 2),.d (.st 2)],fun xs es K=> ∃(a:au) (b:au),xs= [(Ex a),(Ex b)]∧es= []∧K (.v (vi (jm a b))) []⟩
theorem MD:Fk 175 MC:=by
 refine fo Tryz.f175 [.d (.int .i64)] [] (aa C5 (aa GR (aa Jd ah))) fun xs es K=>?_;rintro⟨a,b,rfl,rfl,h⟩;refine⟨rfl,?_⟩;have hf0:=jm.eq_1 a b;refine dp [(true,0),(true,1),(true,2),(true,3),(true,5),(true,6),(true,7),(true,8),(false,4),(false,9),(false,10),(false,11),(true,12)] none (nw 2) ?_;refine⟨_,_,rfl,rfl,?_⟩;refine⟨_,_,rfl,rfl,?_⟩;refine⟨_,rfl,rfl,?_⟩;exact e0
def iS(s:List UInt8):Bool:=
 decide ¬s= []&&decide ((s.length:Int)≤12)
def ME:bf U:=⟨[.d .str],fun xs es K=> ∃(s:List UInt8),xs= [(vt s)]∧es= []∧K (.v (vb (iS s))) []⟩
theorem GU:Fk 122 ME:=by
 refine fo Tryz.f122 [.d .bool] [] (ah) fun xs es K=>?_;rintro⟨s,rfl,rfl,h⟩;refine⟨rfl,?_⟩;have hf0:=iS.eq_1 s;exact e0
def br(t:ae):Bool:=
 decide ¬dM t=0
def MF:bf U:=⟨[.d (.st 1)],fun xs es K=> ∃(t:ae),xs= [(qF t)]∧es= []∧K (.v (vb (br t))) []⟩
theorem C6:Fk 132 MF:=by
 refine fo Tryz.f132 [.d .bool] [] (aa GS ah) fun xs es K=>?_;rintro⟨t,rfl,rfl,h⟩;refine⟨rfl,?_⟩;have hf0:=br.eq_1 t;refine⟨_,rfl,rfl,?_⟩;exact e0
def dN(a:aT)(t:ae):Int:=
 ab a.tag t
def MG:bf U:=⟨[.d (.st 7),.d (.st 1)],fun xs es K=> ∃(a:aT) (t:ae),xs= [(FC a),(qF t)]∧es= []∧K (.v (vi (dN a t))) []⟩
theorem Je:Fk 134 MG:=by
 refine fo Tryz.f134 [.d (.int .i64)] [] (aa BI ah) fun xs es K=>?_;rintro⟨a,t,rfl,rfl,h⟩;refine⟨rfl,?_⟩;have hf0:=dN.eq_1 a t;refine⟨_,_,rfl,rfl,?_⟩;exact e0
def ba(l:List ae)(f:ae→Bool):Bool:=
 decide (0≤oF l f)
def PK:bf U:=⟨[.d (.sl (.st 1)),.f1 (.st 1)],fun xs es K=> ∃(l:List ae) (f:ae→Bool),xs= [(gM l),⟨false,[(1,.f1 (.st 1) f)]⟩]∧es= []∧K (.v (vb (ba l f))) []⟩
theorem Jf:Fk 73 PK:=by
 refine fo Tryz.f73 [.d .bool] [] (aa NY ah) fun xs es K=>?_;rintro⟨l,f,rfl,rfl,h⟩;refine⟨rfl,?_⟩;have hf0:=ba.eq_1 l f;refine⟨_,_,rfl,rfl,?_⟩;exact e0
def dT(l:List aT)(f:aT→Bool):Bool:=
 decide (0≤oF l f)
def MH:bf U:=⟨[.d (.sl (.st 7)),.f1 (.st 7)],fun xs es K=> ∃(l:List aT) (f:aT→Bool),xs= [(yH l),⟨false,[(1,.f1 (.st 7) f)]⟩]∧es= []∧K (.v (vb (dT l f))) []⟩
theorem MI:Fk 166 MH:=by
 refine fo Tryz.f166 [.d .bool] [] (aa N0 ah) fun xs es K=>?_;rintro⟨l,f,rfl,rfl,h⟩;refine⟨rfl,?_⟩;have hf0:=dT.eq_1 l f;refine⟨_,_,rfl,rfl,?_⟩;exact e0
def iq(x:List ae)(target:ae)(c:ae→ae→Int):Nat→Int→Int→(Int×Bool)⊕(Int×Int)
 |0,s9,s10=> .inr (s9,s10)
 |n1+1,s9,s10=>
  if s9<s10 then
   if c (ix x ((s9+s10)/2)) target<0 then
    iq x target c n1 ((s9+s10)/(2:Int)+(1:Int)) s10
   else
    iq x target c n1 s9 ((s9+s10)/2)
  else
   .inr (s9,s10)
def cY(x:List ae)(target:ae)(c:ae→ae→Int):Int×Bool:=
 match iq x target c (((x.length:Int)- 0).toNat+1) 0 (x.length:Int)with
 | .inl r=>r
 | .inr (s9,s10)=>
  (s9,decide (s9<(x.length:Int))&&decide (c (ix x s9) target=0))
def MJ:bf U:=⟨[.d (.sl (.st 1)),.d (.st 1),.f2 (.st 1) (.st 1)],fun xs es K=> ∃(x:List ae) (target:ae) (c:ae→ae→Int),xs= [(gM x),(qF target),⟨false,[(1,.f2 (.st 1) (.st 1) c)]⟩]∧es= []∧(x.length≤1000000)∧K (.tup [(vi ((cY x target c).1)),(vb ((cY x target c).2))]) []⟩
theorem GV:Fk 144 MJ:=by
 refine fo Tryz.f144 [.d (.int .i64),.d .bool] [] (ah) fun xs es K=>?_;rintro⟨x,target,c,rfl,rfl,hx,h⟩;refine⟨rfl,?_⟩;have hf0:=cY.eq_1 x target c;refine fun h0=>?_;have h0:(↑x.length:Int)≤(9223372036854775807:Int):=h0.2;refine⟨Int×Int,1,fun(s9,s10)=> [(0,.v ⟨false,[(1,.d (.sl (.st 1)) x)]⟩),(2,.v ⟨false,[(1,Cx.f2 (bm.st (1:Nat)) (bm.st (1:Nat)) c)]⟩),(4,.v ⟨false,[(1,.ptr 0 0)]⟩),(6,.v ⟨false,[(1,.d (.int .i64) (0:Int))]⟩),(7,.v ⟨false,[(1,.d .bool false)]⟩),(8,.v ⟨false,[(1,.d (.int .i64) (↑x.length:Int))]⟩),(9,.v ⟨false,[(1,.d (.int .i64) s9)]⟩),(10,.v ⟨false,[(1,.d (.int .i64) s10)]⟩)],fun(s9,s10)=> [(0,.cells [(3,.d (.st 1) target)] 34)],d5 (fun(s9,s10)=>(s10 - s9).toNat) (fun(s9,s10)=>(0≤s9)∧(s9≤s10)∧(s10≤(x.length:Int))∧True) (fun n1 (s9,s10)=>iq x target c n1 s9 s10) (iq x target c (((↑x.length:Int)-(0:Int)).toNat+1) (0:Int) (↑x.length:Int)),fun(s9,s10)=>(s10 - s9).toNat,⟨[],((0:Int),(↑x.length:Int)),d5.mk0 _ (Nat.lt_succ_self _) ⟨show(0:Int)≤(0:Int)from by omega,show(0:Int)≤(↑x.length:Int)from by omega,show(↑x.length:Int)≤(↑x.length:Int)from by omega,trivial⟩ rfl,?_⟩,?_⟩
 ·repeat (first|exact trivial|refine And.intro rfl ?_)
 ·rintro⟨s9,s10⟩ ⟨n1,hc1,⟨hi1_0,hi1_1,hi1_2,-⟩,hf1⟩;have hf1:=hf1.trans (iq.eq_2 x target c s9 s10 n1);refine vI hf1 iD (fun _ hf1=>?_) (fun _ hf1=>?_)
  ·refine .inl (And.intro (rD (p:=s9) (q:=s10) (r:=s9+s10) (by omega)) ?_);refine .inl (And.intro (fun(h2:(-9223372036854775808:Int)≤s9+s10∧s9+s10≤(9223372036854775807:Int))=>(show(0:Int)≤s9+s10∧s9+s10≤(18446744073709551615:Int)from by omega)) ?_);refine And.intro (show(0:Int)≤(1:Int)∧(1:Int)≤(18446744073709551615:Int)→(0:Int)≤(1:Int)from by omega) ?_;refine .inl (And.intro (fun(h3:(0:Int)≤(s9+s10)/(2:Int)∧(s9+s10)/(2:Int)≤(18446744073709551615:Int))=>(show(-9223372036854775808:Int)≤(s9+s10)/(2:Int)∧(s9+s10)/(2:Int)≤(9223372036854775807:Int)from by omega)) ?_);refine .inl ⟨[(true,0),(true,1),(true,2),(true,3),(true,4),(true,5),(false,6),(true,7)],none,[1,2,3,4,5,6,7,8,9,10,11,12],by kernel_rfl,?_⟩;refine And.intro (show(0:Int)≤(s9+s10)/(2:Int)∧(s9+s10)/(2:Int)<(↑x.length:Int)from by omega) ?_;refine vI hf1 iD (fun _ hf1=>?_) (fun _ hf1=>?_)
   ·refine .inl (And.intro (rD (p:=(s9+s10)/(2:Int)) (q:=(1:Int)) (r:=(s9+s10)/(2:Int)+(1:Int)) (by omega)) ?_);have hm1:(s10 -((s9+s10)/(2:Int)+(1:Int))).toNat<(s10 - s9).toNat:=by omega
    refine⟨[],((s9+s10)/(2:Int)+(1:Int),s10),hm1,d5.next (s:=(s9,s10)) hc1 hm1 ⟨show(0:Int)≤(s9+s10)/(2:Int)+(1:Int)from by omega,show(s9+s10)/(2:Int)+(1:Int)≤s10 from by omega,show s10≤(↑x.length:Int)from by omega,trivial⟩ hf1,?_⟩;repeat (first|exact trivial|refine And.intro rfl ?_)
   ·have hm1:((s9+s10)/(2:Int)- s9).toNat<(s10 - s9).toNat:=by omega
    refine⟨[],(s9,(s9+s10)/(2:Int)),hm1,d5.next (s:=(s9,s10)) hc1 hm1 ⟨show(0:Int)≤s9 from by omega,show s9≤(s9+s10)/(2:Int)from by omega,show(s9+s10)/(2:Int)≤(↑x.length:Int)from by omega,trivial⟩ hf1,?_⟩;repeat (first|exact trivial|refine And.intro rfl ?_)
  ·rw[hf1]at hf0;refine .inl ⟨[(true,0),(true,1),(true,2),(true,3),(true,4),(true,5),(true,6),(true,7),(true,8),(true,9),(true,10),(false,11),(true,12),(true,13),(true,14),(true,15)],none,[1,2,3,4,5,6,7,8,9,10,11,12],by kernel_rfl,?_⟩;refine And.intro (show decide (s9<(↑x.length:Int))=((39:Nat),true).snd→(0:Int)≤s9∧s9<(↑x.length:Int)from by(intro h;simp at h;omega)) ?_;rw[hf0]at h;exact h
def iu(x:List aT)(target:ae)(c:aT→ae→Int):Nat→Int→Int→(Int×Bool)⊕(Int×Int)
 |0,s9,s10=> .inr (s9,s10)
 |n1+1,s9,s10=>
  if s9<s10 then
   if c (ix x ((s9+s10)/2)) target<0 then
    iu x target c n1 ((s9+s10)/(2:Int)+(1:Int)) s10
   else
    iu x target c n1 s9 ((s9+s10)/2)
  else
   .inr (s9,s10)
def fB(x:List aT)(target:ae)(c:aT→ae→Int):Int×Bool:=
 match iu x target c (((x.length:Int)- 0).toNat+1) 0 (x.length:Int)with
 | .inl r=>r
 | .inr (s9,s10)=>
  (s9,decide (s9<(x.length:Int))&&decide (c (ix x s9) target=0))
def MK:bf U:=⟨[.d (.sl (.st 7)),.d (.st 1),.f2 (.st 7) (.st 1)],fun xs es K=> ∃(x:List aT) (target:ae) (c:aT→ae→Int),xs= [(yH x),(qF target),⟨false,[(1,.f2 (.st 7) (.st 1) c)]⟩]∧es= []∧(x.length≤1000000)∧K (.tup [(vi ((fB x target c).1)),(vb ((fB x target c).2))]) []⟩
theorem ML:Fk 133 MK:=by
 refine fo Tryz.f133 [.d (.int .i64),.d .bool] [] (ah) fun xs es K=>?_;rintro⟨x,target,c,rfl,rfl,hx,h⟩;refine⟨rfl,?_⟩;have hf0:=fB.eq_1 x target c;refine fun h0=>?_;have h0:(↑x.length:Int)≤(9223372036854775807:Int):=h0.2;refine⟨Int×Int,1,fun(s9,s10)=> [(0,.v ⟨false,[(1,.d (.sl (.st 7)) x)]⟩),(2,.v ⟨false,[(1,Cx.f2 (bm.st (7:Nat)) (bm.st (1:Nat)) c)]⟩),(4,.v ⟨false,[(1,.ptr 0 0)]⟩),(6,.v ⟨false,[(1,.d (.int .i64) (0:Int))]⟩),(7,.v ⟨false,[(1,.d .bool false)]⟩),(8,.v ⟨false,[(1,.d (.int .i64) (↑x.length:Int))]⟩),(9,.v ⟨false,[(1,.d (.int .i64) s9)]⟩),(10,.v ⟨false,[(1,.d (.int .i64) s10)]⟩)],fun(s9,s10)=> [(0,.cells [(3,.d (.st 1) target)] 34)],d5 (fun(s9,s10)=>(s10 - s9).toNat) (fun(s9,s10)=>(0≤s9)∧(s9≤s10)∧(s10≤(x.length:Int))∧True) (fun n1 (s9,s10)=>iu x target c n1 s9 s10) (iu x target c (((↑x.length:Int)-(0:Int)).toNat+1) (0:Int) (↑x.length:Int)),fun(s9,s10)=>(s10 - s9).toNat,⟨[],((0:Int),(↑x.length:Int)),d5.mk0 _ (Nat.lt_succ_self _) ⟨show(0:Int)≤(0:Int)from by omega,show(0:Int)≤(↑x.length:Int)from by omega,show(↑x.length:Int)≤(↑x.length:Int)from by omega,trivial⟩ rfl,?_⟩,?_⟩
 ·repeat (first|exact trivial|refine And.intro rfl ?_)
 ·rintro⟨s9,s10⟩ ⟨n1,hc1,⟨hi1_0,hi1_1,hi1_2,-⟩,hf1⟩;have hf1:=hf1.trans (iu.eq_2 x target c s9 s10 n1);refine vI hf1 iD (fun _ hf1=>?_) (fun _ hf1=>?_)
  ·refine .inl (And.intro (rD (p:=s9) (q:=s10) (r:=s9+s10) (by omega)) ?_);refine .inl (And.intro (fun(h2:(-9223372036854775808:Int)≤s9+s10∧s9+s10≤(9223372036854775807:Int))=>(show(0:Int)≤s9+s10∧s9+s10≤(18446744073709551615:Int)from by omega)) ?_);refine And.intro (show(0:Int)≤(1:Int)∧(1:Int)≤(18446744073709551615:Int)→(0:Int)≤(1:Int)from by omega) ?_;refine .inl (And.intro (fun(h3:(0:Int)≤(s9+s10)/(2:Int)∧(s9+s10)/(2:Int)≤(18446744073709551615:Int))=>(show(-9223372036854775808:Int)≤(s9+s10)/(2:Int)∧(s9+s10)/(2:Int)≤(9223372036854775807:Int)from by omega)) ?_);refine .inl ⟨[(true,0),(true,1),(true,2),(true,3),(true,4),(true,5),(false,6),(true,7)],none,[1,2,3,4,5,6,7,8,9,10,11,12],by kernel_rfl,?_⟩;refine And.intro (show(0:Int)≤(s9+s10)/(2:Int)∧(s9+s10)/(2:Int)<(↑x.length:Int)from by omega) ?_;refine vI hf1 iD (fun _ hf1=>?_) (fun _ hf1=>?_)
   ·refine .inl (And.intro (rD (p:=(s9+s10)/(2:Int)) (q:=(1:Int)) (r:=(s9+s10)/(2:Int)+(1:Int)) (by omega)) ?_);have hm1:(s10 -((s9+s10)/(2:Int)+(1:Int))).toNat<(s10 - s9).toNat:=by omega
    refine⟨[],((s9+s10)/(2:Int)+(1:Int),s10),hm1,d5.next (s:=(s9,s10)) hc1 hm1 ⟨show(0:Int)≤(s9+s10)/(2:Int)+(1:Int)from by omega,show(s9+s10)/(2:Int)+(1:Int)≤s10 from by omega,show s10≤(↑x.length:Int)from by omega,trivial⟩ hf1,?_⟩;repeat (first|exact trivial|refine And.intro rfl ?_)
   ·have hm1:((s9+s10)/(2:Int)- s9).toNat<(s10 - s9).toNat:=by omega
    refine⟨[],(s9,(s9+s10)/(2:Int)),hm1,d5.next (s:=(s9,s10)) hc1 hm1 ⟨show(0:Int)≤s9 from by omega,show s9≤(s9+s10)/(2:Int)from by omega,show(s9+s10)/(2:Int)≤(↑x.length:Int)from by omega,trivial⟩ hf1,?_⟩;repeat (first|exact trivial|refine And.intro rfl ?_)
  ·rw[hf1]at hf0;refine .inl ⟨[(true,0),(true,1),(true,2),(true,3),(true,4),(true,5),(true,6),(true,7),(true,8),(true,9),(true,10),(false,11),(true,12),(true,13),(true,14),(true,15)],none,[1,2,3,4,5,6,7,8,9,10,11,12],by kernel_rfl,?_⟩;refine And.intro (show decide (s9<(↑x.length:Int))=((39:Nat),true).snd→(0:Int)≤s9∧s9<(↑x.length:Int)from by(intro h;simp at h;omega)) ?_;rw[hf0]at h;exact h
def eo(l:List aT)(c:aT→aT→Int):Nat→Int→Bool⊕(Int)
 |0,s5=> .inr s5
 |n1+1,s5=>
  if s5<(l.length:Int)then
   if 0≤c (ix l (s5 - 1)) (ix l s5)then
    .inl false
   else
    eo l c n1 (s5+1)
  else
   .inr s5
def d9(l:List aT)(c:aT→aT→Int):Bool:=
 match eo l c (((l.length:Int)- 1).toNat+1) 1 with
 | .inl r=>r
 | .inr s5=>
  true
def MM:bf U:=⟨[.d (.sl (.st 7)),.f2 (.st 7) (.st 7)],fun xs es K=> ∃(l:List aT) (c:aT→aT→Int),xs= [(yH l),⟨false,[(1,.f2 (.st 7) (.st 7) c)]⟩]∧es= []∧K (.v (vb (d9 l c))) []⟩
theorem MN:Fk 168 MM:=by
 refine fo Tryz.f168 [.d .bool] [] (ah) fun xs es K=>?_;rintro⟨l,c,rfl,rfl,h⟩;refine⟨rfl,?_⟩;have hf0:=d9.eq_1 l c;refine lI 0 (fun(s5:Int)=> [(0,.v (yH l)),(1,.v ⟨false,[(1,Cx.f2 (bm.st (7:Nat)) (bm.st (7:Nat)) c)]⟩),(4,.v (vb false)),(5,.v (vi s5))]) (fun(s5:Int)=> []) (fun(s5:Int)=>((l.length:Int)- s5).toNat) (fun(s5:Int)=>(1≤s5)∧True) (fun n1 (s5:Int)=>eo l c n1 s5) (eo l c (((l.length:Int)- 1).toNat+1) 1) [] (1:Int) ?_;rintro s5 ⟨n1,hc1,⟨hi1_0,-⟩,hf1⟩;have hf1:=hf1.trans (eo.eq_2 l c s5 n1);refine fl (x:=l.length) fun _=>?_;refine wI hf1 (fun _ hf1=>?_) fun _ hf1=>e1;refine dp [(true,0),(true,1),(true,2),(true,3),(true,4),(true,5),(true,6),(true,7),(true,8),(true,9),(false,10),(true,11)] none (nw 0) ?_;refine bY ?_;refine vx (s5 - 1) l ?_;refine vx s5 l ?_;refine wI hf1 (fun _ hf1=>e1) fun _ hf1=>?_;refine bY ?_;exact nx [] (s5+1) hc1 hf1
def ct(l:List ae)(c:ae→ae→Int):Nat→Int→Bool⊕(Int)
 |0,s5=> .inr s5
 |n1+1,s5=>
  if s5<(l.length:Int)then
   if 0≤c (ix l (s5 - 1)) (ix l s5)then
    .inl false
   else
    ct l c n1 (s5+1)
  else
   .inr s5
def cS(l:List ae)(c:ae→ae→Int):Bool:=
 match ct l c (((l.length:Int)- 1).toNat+1) 1 with
 | .inl r=>r
 | .inr s5=>
  true
def MO:bf U:=⟨[.d (.sl (.st 1)),.f2 (.st 1) (.st 1)],fun xs es K=> ∃(l:List ae) (c:ae→ae→Int),xs= [(gM l),⟨false,[(1,.f2 (.st 1) (.st 1) c)]⟩]∧es= []∧K (.v (vb (cS l c))) []⟩
theorem MP:Fk 170 MO:=by
 refine fo Tryz.f170 [.d .bool] [] (ah) fun xs es K=>?_;rintro⟨l,c,rfl,rfl,h⟩;refine⟨rfl,?_⟩;have hf0:=cS.eq_1 l c;refine lI 0 (fun(s5:Int)=> [(0,.v (gM l)),(1,.v ⟨false,[(1,Cx.f2 (bm.st (1:Nat)) (bm.st (1:Nat)) c)]⟩),(4,.v (vb false)),(5,.v (vi s5))]) (fun(s5:Int)=> []) (fun(s5:Int)=>((l.length:Int)- s5).toNat) (fun(s5:Int)=>(1≤s5)∧True) (fun n1 (s5:Int)=>ct l c n1 s5) (ct l c (((l.length:Int)- 1).toNat+1) 1) [] (1:Int) ?_;rintro s5 ⟨n1,hc1,⟨hi1_0,-⟩,hf1⟩;have hf1:=hf1.trans (ct.eq_2 l c s5 n1);refine fl (x:=l.length) fun _=>?_;refine wI hf1 (fun _ hf1=>?_) fun _ hf1=>e1;refine dp [(true,0),(true,1),(true,2),(true,3),(true,4),(true,5),(true,6),(true,7),(true,8),(true,9),(false,10),(true,11)] none (nw 0) ?_;refine bY ?_;refine vx (s5 - 1) l ?_;refine vx s5 l ?_;refine wI hf1 (fun _ hf1=>e1) fun _ hf1=>?_;refine bY ?_;exact nx [] (s5+1) hc1 hf1
end Go.Proofs.YtiliglahlfkikaaGreatDoor.V
end

/-
  DERIVED: THE SHELF's CONTRACTS AT THIS DUMP, IN PLAIN WORDS (tools/lay-plain.mjs out of 'TryzShelf.lean', which tools/lay-shelf.mjs wrote): THE SAME DECLARATIONS UNDER THE SAME NAMES: 'import', 'namespace', 'open', 'def', 'theorem' AND NOTHING ELSE: no command of the shelf's: FOR A HAND-IN. Each laying: the table of numbers ('.._ren') and one theorem, a field a fact of the dump's own or the kernel's comparison; each contract: ONE APPLICATION.
-/
import Derived.Test.YtfgofabojepcmaaGreatDoorSp13
import Derived.Test.YtfgofabojepcmaaGreatDoorSp3
import Derived.Test.YtfgofabojepcmaaGreatDoorSp1
import Derived.Test.YtfgofabojepcmaaGreatDoorSp2
import Derived.Test.YtfgofabojepcmaaGreatDoorProg
import Derived.Shelf.Strings.Split
import Derived.Shelf.Small.Bits
import Derived.Shelf.Utf8.RuneCount
import Derived.Shelf.Strconv.Atoi
import Derived.Shelf.Strconv.Itoa0
import Derived.Shelf.Strconv.Itoa1
import Derived.Shelf.LaysM
import Derived.Shelf.Strconv.Itoa2
import Derived.Shelf.Strconv.Itoa3
import Derived.Shelf.Strconv.AtoiErrFast
import Derived.Shelf.Strconv.ParseIntEmpty
import Derived.Shelf.Strconv.AtoiFail
import Derived.Shelf.Strconv.Clone
import Derived.Shelf.Strconv.SyntaxError
import Derived.Shelf.LaysC
import Derived.Shelf.Strconv.ToError
import Derived.Shelf.Strconv.Lower
import Derived.Shelf.Strconv.ParseUint10
import Derived.Shelf.Strconv.ParseUint10Empty
import Derived.Shelf.Strconv.ParseUint10Any
import Derived.Shelf.Strconv.ParseInt10
import Derived.Shelf.Strconv.AtoiLong
import Derived.Shelf.Strconv.AtoiInnerAll
import Derived.Shelf.Strconv.RangeError
import Derived.Shelf.Strconv.ToErrorRange
import Derived.Shelf.Strconv.AtoiAll
import Derived.Shelf.Strings.Search1
import Derived.Shelf.Strings.Search2
import Derived.Shelf.Strings.Search3
import Derived.Shelf.Strings.Cut
import Derived.Shelf.Strings.Count
import Derived.Shelf.Strings.Shaped
import Derived.Shelf.Sort.Plain
import Derived.Shelf.GgClosure.StringsIndexFunc
import Derived.Ground.GgwProg
import Derived.Shelf.GgClosure.StringsIndexFuncTop
import Derived.Shelf.Strings.Prefix
import Derived.Shelf.Strings.SplitShaped
import Derived.Shelf.Unicode.Decode
import Derived.Shelf.Strings.RuneCount
import Derived.Shelf.Strings.Explode
import Derived.Shelf.Unicode.DecodeSlow
import Derived.Shelf.Unicode.DecodeAny
import Derived.Shelf.Strings.FuncGrows
import Derived.Shelf.Slices.In.SortNone
section
set_option linter.unusedVariables false
set_option linter.unusedSimpArgs false
namespace Go.Proofs.YtfgofabojepcmaaGreatDoor.V
open Go.RowKit
theorem mb{a b:Nat}(h:a≤1000000000)(hb:b≤100000):a*b≤140737488355328:=Nat.le_trans (Nat.mul_le_mul h hb) (by decide)
theorem DS{P:Program}{f tE m by_:Nat}{fn:Go.Func}{ρf ρt:Nat→Nat}(hen:bI P f=true)(hf:P.funcs[f]? =some fn)(hb:fn.body=some (i7 ρf ρt (io Tryz.f281)))(hn:fn.ntmps=27)(hr:fn.results= #[.tmp 4])(hmx:P.follows .mixedOrders=true)
  {α:Type} [Inhabited α] {enc:α→List Value} (es:bn P (ρt 56)=some (tE,m)) (un:P.underlying (ρt 56)=some (.slice tE)) (i64:P.underlying (ρt 3)=some (.int .i64)) (zc:zeroCells P tE=some (enc default)) (hby:(P.info? tE).map (·.bytes)=some by_) (hbb:by_≤100000) (hm: ∀x,(enc x).length=m) (hm0:0<m) (hmB:m≤1000) (h1: ∀x,∀v∈enc x,v.oneCell'=true)
  (X:List Nat) (w:World) (hX:Lo X w) (n:Int) (hn0:0≤n) (hn1:n≤3000000):
  Fn P f [.slice none 0 0,.int .i64 n] w fun v w'=> ∃(A':Option Addr) (c':Nat) (sp':List Value),v= .slice A' ([]:List α).length c'∧Ow A' ([]:List α).length c' m (([]:List α).flatMap enc) sp'∧St X w' [(ao A',Cl (([]:List α).flatMap enc++sp') tE)] []∧Fr ([]) w w'∧(∀k∈bG [(ao A',Cl (([]:List α).flatMap enc++sp') tE)],k∈([])∨w.heap.size≤k):=by
 refine n5 27 hen hf hb hn rfl ?_;dsimp only[dL];have st:=GU hX;have hF:=Fr.refl ([]) w;refine sq fun _ k1=>rg (nD rfl (Ln k1 (sq fun _ k2=>sq fun _ k3=>rg (Lm rfl (Ly rfl (Iy rfl) (Ln k3 ?_))))));have hd1: ¬(n<0):=by
  omega
 refine iW rfl (fun hc1=>absurd hc1 (by first|(simp[hd1];done)|(rw[hd1];simp;done)|simpa using hd1)) (fun _=>?_);refine sk k2 (sq fun _ k4=>sq fun _ k5=>rg (Lm rfl (Lm rfl (Ly rfl (xc rfl rfl un) (Lm rfl (Ly rfl (GT rfl un) (Ly rfl (xF (c:=0) rfl rfl rfl (by decide)) ?_)))))));refine Ly rfl (xF (c:=n - 0) rfl rfl rfl (pc (by first|omega|(simp;done)|(simp;omega)))) ?_;refine nD rfl (Ln k5 (sq fun _ k6=>rg (Lm rfl (Ly rfl (MB rfl) (Ln k6 (cD rfl (fun hc2=>?_) (fun hc2=>?_)))))))
 ·refine rg (Lm rfl (Lm rfl (Ly rfl (xc rfl rfl un) (Ly rfl (pa (p:=0) (q:=0) rfl rfl es rfl rfl (by decide) (by decide) (by decide) (Nat.le_refl _)) ?_))));refine Lm rfl (La rfl (Ej (enc:=enc) (xs:=([]:List α)) (u:=(default:α)) (q:=n - 0) rfl rfl rfl rfl rfl (by simp;try omega) es i64 zc rfl hby hm hm0 xe (fun _=>rfl) (by first|omega|(simp;done)|(simp;omega)) (by first|omega|(simp;done)|(simp;omega)) (by first|omega|(simp;done)|(simp;omega)) (mb (by simp;omega) hbb) st.hp (fun g1 ca1 sp1 w1 how1 (hp:Hp w1 [_]) hf hg1=>?_)));have st:St X w1 [_] []:=st.push hp hf hg1;have st:St X w1 [_] []:=st;have hg1:=Nat.le_trans hF.size hg1;have hF:=hF.step0 hf;have hnew1: ∀g,ao (some ⟨g1,0,none⟩)=some g→g∈([])∨w.heap.size≤g:=fun g hg=>by simp[ao]at hg;subst hg;exact .inr hg1
  refine Lm rfl (Ly rfl (GT rfl un) (Ly rfl (AW (enc:=enc) (xs:=([]:List α)++List.replicate (n - 0).toNat (default:α)) (q:=(0:Int)) rfl rfl rfl es rfl rfl (by first|omega|(simp;done)|(simp;omega)) (by first|omega|(simp;done)|(simp;omega)) how1) ?_));have how2:=Ow.cut (enc:=enc) (xs:=([]:List α)++List.replicate (n - 0).toNat (default:α)) hm how1 rfl (0:Int).toNat;have st:St X _ [_] []:=st.conv (i:=0) rfl (uk (0:Int).toNat);refine nD rfl (Ln k4 (sq fun _ k7=>rg (Lm rfl (nD rfl (Ln k7 (wR (fR (Ba hr rfl) ?_)))))));exact⟨_,_,_,rfl,how2,(st.pk [0] (by decide)).pickK [],hF,Ew hnew1 Ev⟩
 refine sk k4 (sq fun _ k8=>rg (Lm rfl (nD rfl (Ln k8 ?_))));obtain⟨st,how3,hnew2⟩:=st.rowN enc hF m tE;have st:St _ _ [_] _:=st;refine wR (fR (Ba hr rfl) ?_);exact⟨_,_,_,rfl,how3,(st.pk [0] (by decide)).pickK [],hF,Ew hnew2 Ev⟩
theorem tF{P:Program}{fi tE m by_:Nat}{fn:Go.Func}{ρf ρt:Nat→Nat}(hen:bI P fi=true)(hf:P.funcs[fi]? =some fn)(hb:fn.body=some (i7 ρf ρt (io Tryz.f204)))(hn:fn.ntmps=36)(hr:fn.results= #[.tmp 2])(hmx:P.follows .mixedOrders=true)
  {α:Type} [Inhabited α] {enc:α→List Value} (es:bn P (ρt 56)=some (tE,m)) (un:P.underlying (ρt 56)=some (.slice tE)) (i64:P.underlying (ρt 3)=some (.int .i64)) (zc:zeroCells P tE=some (enc default)) (hby:(P.info? tE).map (·.bytes)=some by_) (hbb:by_≤100000) (hm: ∀x,(enc x).length=m) (hm0:0<m) (hmB:m≤1000) (h1: ∀x,∀v∈enc x,v.oneCell'=true)
  (X:List Nat) (w:World) (hX:Lo X w) (l1:List α) (A1:Option Addr) (C1:Nat) (l2:List α) (A2:Option Addr) (C2:Nat) (A_l:Option Addr) (c_l:Nat) (z5:jA X w A1 l1.length C1 m (l1.flatMap enc)) (z6:jA X w A2 l2.length C2 m (l2.flatMap enc)) (h_l:jA X w A_l ([.slice A1 l1.length C1,.slice A2 l2.length C2]:List Value).length c_l 1 (([.slice A1 l1.length C1,.slice A2 l2.length C2]:List Value).flatMap (fun v:Value=> [v]))) (hl1:l1.length≤1000000) (hl2:l2.length≤1000000) {tS:Nat} (es2:bn P (ρt 425)=some (ρt 56,1)) (un2:P.underlying (ρt 425)=some (.slice (ρt 56))) (pl:cA P (ρt 56)=true)
  (hgr: ∀(X:List Nat) (w:World) (hX:Lo X w) (n:Int) (hn0:0≤n) (hn1:n≤3000000),Fn P (ρf 281) [.slice none 0 0,.int .i64 n] w fun v w'=> ∃(A':Option Addr) (c':Nat) (sp':List Value),v= .slice A' ([]:List α).length c'∧Ow A' ([]:List α).length c' m (([]:List α).flatMap enc) sp'∧St X w' [(ao A',Cl (([]:List α).flatMap enc++sp') tE)] []∧Fr ([]) w w'∧(∀k∈bG [(ao A',Cl (([]:List α).flatMap enc++sp') tE)],k∈([])∨w.heap.size≤k)):
  Fn P fi [.slice A_l (([.slice A1 l1.length C1,.slice A2 l2.length C2]:List Value).length) c_l] w fun v w'=> ∃(A':Option Addr) (c':Nat) (sp':List Value),v= .slice A' ((l1++l2)).length c'∧Ow A' ((l1++l2)).length c' m (((l1++l2)).flatMap enc) sp'∧St X w' [(ao A',Cl (((l1++l2)).flatMap enc++sp') tE)] []∧Fr ([]) w w'∧(∀k∈bG [(ao A',Cl (((l1++l2)).flatMap enc++sp') tE)],k∈([])∨w.heap.size≤k):=by
 refine n5 36 hen hf hb hn rfl ?_;dsimp only[dL];have hbl:Nat.blt 0 m=true:=by simpa using hm0
 have st:=KE hX z5 z6 h_l;have hF:=Fr.refl ([]) w;have z1:=(st.q 0 rfl).le;have z2:=(st.q 1 rfl).le;have z4:=(st.q 2 rfl).le;refine sq fun _ k1=>rg (nD rfl (Ln k1 (sq fun _ k2=>rg (nD rfl (Ln k2 (sq fun _ k3=>sq fun _ k4=>rg (Lm rfl (Ly rfl (m9 (l:=2) rfl rfl un2) (Lm rfl (Ln k4 (cz (iV 3 (eA (sq fun _ k5=>rg (Ly rfl (m8 rfl rfl rfl (by decide)) ?_)))))))))))))));refine Ln k5 (sq fun _ k6=>dm rfl (sk k6 (sq fun _ k7=>cz (sq fun _ k8=>rg ?_))));obtain⟨gi1,bi1,egi1⟩:=(st.k (i:=2) rfl).addr (fun _=>rfl) (by decide) (q:=0) (by first|omega|(simp;done)|(simp;omega)) (by first|omega|(simp;done)|(simp;omega));subst egi1;refine Ly rfl (kB (q:=0) rfl rfl rfl es2 (by first|omega|(simp;done)|(simp;omega)) (by first|omega|(simp;done)|(simp;omega))) ?_;refine Ly rfl (mZ (v:= .slice A1 l1.length C1) (enc:=(fun v:Value=> [v])) (l:=([.slice A1 l1.length C1,.slice A2 l2.length C2]:List Value)) (q:=0) 0 rfl rfl pl (fun _ e=>e▸st.k (i:=2) rfl) (fun _=>rfl) (by first|omega|(simp;done)|(simp;omega)) (by first|omega|(simp;done)|(simp;omega)) rfl) ?_;refine nD rfl (Ln k8 (sq fun _ k9=>rg (Lm rfl (Lm rfl (Ly rfl (GT rfl un) (Ly rfl (jm (c:=0+(l1.length:Int)) rfl rfl rfl (pc (by first|omega|(simp;done)|(simp;omega)))) ?_))))));refine nD rfl (Ln k9 (sq fun _ k10=>rg (Lm rfl (Ly rfl (Iy rfl) (Ln k10 ?_)))));have hd1: ¬((0+(l1.length:Int))<0):=by
  omega
 refine iW rfl (fun hc1=>absurd hc1 (by first|(simp[hd1];done)|(rw[hd1];simp;done)|simpa using hd1)) (fun _=>?_);refine dH (rG (cg (k7 _ _ (rg (Ly rfl (jm (c:=1) rfl rfl rfl (by decide)) ?_)))));refine Lm rfl (bq (cg (eA (sq fun _ k11=>rg (Ly rfl (m8 rfl rfl rfl (by decide)) ?_)))));refine Ln k11 (sq fun _ k12=>dm rfl (sk k12 (sq fun _ k13=>cz (sq fun _ k14=>rg (Ly rfl (kB (q:=1) rfl rfl rfl es2 (by first|omega|(simp;done)|(simp;omega)) (by first|omega|(simp;done)|(simp;omega))) ?_)))));refine Ly rfl (mZ (v:= .slice A2 l2.length C2) (enc:=(fun v:Value=> [v])) (l:=([.slice A1 l1.length C1,.slice A2 l2.length C2]:List Value)) (q:=1) 0 rfl rfl pl (fun _ e=>e▸st.k (i:=2) rfl) (fun _=>rfl) (by first|omega|(simp;done)|(simp;omega)) (by first|omega|(simp;done)|(simp;omega)) rfl) ?_;refine nD rfl (Ln k14 (sq fun _ Ju=>rg (Lm rfl (Lm rfl (Ly rfl (GT rfl un) (Ly rfl (jm (c:=(0+(l1.length:Int))+(l2.length:Int)) rfl rfl rfl (pc (by first|omega|(simp;done)|(simp;omega)))) ?_))))));refine nD rfl (Ln Ju (sq fun _ Lp=>rg (Lm rfl (Ly rfl (Iy rfl) (Ln Lp ?_)))));have hd2: ¬(((0+(l1.length:Int))+(l2.length:Int))<0):=by
  omega
 refine iW rfl (fun hc2=>absurd hc2 (by first|(simp[hd2];done)|(rw[hd2];simp;done)|simpa using hd2)) (fun _=>?_);refine dH (rG (cg (k13 _ _ (rg (Ly rfl (jm (c:=2) rfl rfl rfl (by decide)) ?_)))));refine Lm rfl (bq (cg (eA (sq fun _ Lu=>rg (Ly rfl (xE rfl rfl rfl (by decide)) ?_)))));refine Ln Lu (sq fun _ LH=>dI rfl (lZ (ui (ui (pf (cg (k3 _ _ (sq fun _ Lw=>rg (Lm rfl (La rfl (rK rfl rfl rfl rfl (hgr (bG (ME st)++X) _ st.Lo ((0+(l1.length:Int))+(l2.length:Int)) (by omega) (by omega)) (fun v w1 ⟨Ao1,co1,spo1,hv,how1,hN1,hfO1,hkc1⟩=>?_))))))))))));subst hv;have hnew1: ∀g,ao Ao1=some g→g∈([])∨w.heap.size≤g:=fun g hg=>(hkc1 g (by simp[bG,hg])).elim (fun h=>by simp at h) (fun h=> .inr (Nat.le_trans hF.size h));have st:=st.callN hN1 hfO1 (fun k hk=>(hkc1 k hk).elim (fun h=>by simp at h) id);have hF:=hF.step0 hfO1;have z3:=Ow.le how1;have st:St X w1 [_] [_,_,_]:=st;refine nD rfl (Ln Lw (sq fun _ k20=>sq fun _ k21=>rg (Lm rfl (Ly rfl (m9 (l:=2) rfl rfl un2) (Lm rfl (Ln k21 (cz (iV 3 (eA (sq fun _ k22=>rg (Ly rfl (m8 rfl rfl rfl (by decide)) ?_)))))))))));refine Ln k22 (sq fun _ k23=>dm rfl (sk k23 (sq fun _ k24=>cz (sq fun _ k25=>rg (Ly rfl (kB (q:=0) rfl rfl rfl es2 (by first|omega|(simp;done)|(simp;omega)) (by first|omega|(simp;done)|(simp;omega))) ?_)))));refine Ly rfl (mZ (v:= .slice A1 l1.length C1) (enc:=(fun v:Value=> [v])) (l:=([.slice A1 l1.length C1,.slice A2 l2.length C2]:List Value)) (q:=0) 0 rfl rfl pl (fun _ e=>e▸st.k (i:=2) rfl) (fun _=>rfl) (by first|omega|(simp;done)|(simp;omega)) (by first|omega|(simp;done)|(simp;omega)) rfl) ?_;refine nD rfl (Ln k25 (rg (Lm rfl (Lm rfl (La rfl (LQ (enc:=enc) (([]:List α)) l1 0 es zc hby hm h1 how1 hnew1 st hF (st.k (i:=0) rfl).rd.src (fun h=>by have:=(st.k (i:=0) rfl).rd;exact lX this h (st.k (i:=0) rfl).len hm0) (by rw[hm,hbl];rfl) (by simp;omega) (mb (by simp;omega) hbb) fun Aa1 ca1 sp1 w2 how2 hnew2 (st:St _ _ [_] _) hF=>?_))))));refine nD rfl (bq (rG (cg (k24 _ _ (rg (Ly rfl (jm (c:=1) rfl rfl rfl (by decide)) ?_))))));refine Lm rfl (bq (cg (eA (sq fun _ k26=>rg (Ly rfl (m8 rfl rfl rfl (by decide)) ?_)))));refine Ln k26 (sq fun _ k27=>dm rfl (sk k27 (sq fun _ k28=>cz (sq fun _ k29=>rg (Ly rfl (kB (q:=1) rfl rfl rfl es2 (by first|omega|(simp;done)|(simp;omega)) (by first|omega|(simp;done)|(simp;omega))) ?_)))));refine Ly rfl (mZ (v:= .slice A2 l2.length C2) (enc:=(fun v:Value=> [v])) (l:=([.slice A1 l1.length C1,.slice A2 l2.length C2]:List Value)) (q:=1) 0 rfl rfl pl (fun _ e=>e▸st.k (i:=2) rfl) (fun _=>rfl) (by first|omega|(simp;done)|(simp;omega)) (by first|omega|(simp;done)|(simp;omega)) rfl) ?_;refine nD rfl (Ln k29 (rg (Lm rfl (Lm rfl (La rfl (LQ (enc:=enc) ((([]:List α))++l1) l2 0 es zc hby hm h1 how2 hnew2 st hF (st.k (i:=1) rfl).rd.src (fun h=>by have:=(st.k (i:=1) rfl).rd;exact lX this h (st.k (i:=1) rfl).len hm0) (by rw[hm,hbl];rfl) (by simp;omega) (mb (by simp;omega) hbb) fun Aa2 ca2 sp2 w3 how3 hnew3 (st:St _ _ [_] _) hF=>?_))))));refine nD rfl (bq (rG (cg (k28 _ _ (rg (Ly rfl (jm (c:=2) rfl rfl rfl (by decide)) ?_))))));refine Lm rfl (bq (cg (eA (sq fun _ k30=>rg (Ly rfl (xE rfl rfl rfl (by decide)) ?_)))));refine Ln k30 (sq fun _ k31=>dI rfl (lZ (ui (ui (pf (cg (k20 _ _ (sq fun _ k32=>rg (Lm rfl (nD rfl (Ln k32 (wR (fR (Ba hr rfl) ?_)))))))))))));exact⟨_,_,_,rfl,how3,(st.pk [0] (by decide)).pickK [],hF,Ew hnew3 Ev⟩
section
variable [al] {U:bJ} {P:Program} {X:List Nat} {w w':World} {ρ:Nat→Rz} {n:Nat} {H:Hs U}
theorem FJ{s:bj}{xs:List (TT U.ty s)}{el:Nat}{A:Option Addr}{c:Nat}{cs sp:List Value}(M:bd U X (· =w) ρ n H)(hf:Fr [] w w')
  (hm:0<aS U s) (hden:ba U (aj ρ H++X) (· =w) s xs cs) (how:Ow A xs.length c (aS U s) cs sp) (hblk: ∀g,ao A=some g→w'.heap[g]? =some (Cl (cs++sp) el)) (hg: ∀g,ao A=some g→w.heap.size≤g):
  ∃ρ',ct (Vw U X w' ρ' (n+1) ((n,.row 0 s xs el)::H)) ⟨false,[(1,.own n 0)]⟩ (.slice A xs.length c)∧bd U X (· =w') ρ' (n+1) ((n,.row 0 s xs el)::H)∧bP ρ n H w ρ' (n+1) ((n,.row 0 s xs el)::H) w':=by
 have hb: ∀g',Lv (ci ρ n (rz A c)) (n,(.row 0 s xs el:aN U)) g'→w.heap.size≤g':=fun g' h=>hg g' (jV h);have st:=bP.push (ρ:=ρ) M.xd M.lt hf (rz A c) (.row 0 s xs el:aN U) hb;refine⟨ci ρ n (rz A c),?_,M.push hf _ _ hb ⟨hm,cs,sp,ba.mv (st.mv (X:=X)) hden,by rw[aO];exact how,fun g h w2 h2=>by subst h2;rw[aO]at h;exact hblk g h⟩,st⟩;refine eD ⟨Nat.lt_succ_self _,_,_,_,rfl,fun v' l m hr=>?_⟩;rw[ow]at hr;injection hr with hr;injection hr with h1 hr;injection hr with h2 h3;subst h1;subst h2;subst h3;exact⟨Nat.le_refl _,fun _=>⟨by rw[aO],rfl,by rw[aO]⟩⟩
theorem I0{i v:Nat}{s:bj}{xs xs':List (TT U.ty s)}{el:Nat}{cs' sp':List Value}(M:bd U X (· =w) ρ n H)(hl:aB H i=some (.row v s xs el))(hm:0<aS U s)(hf:Fr (ao (ρ i).A).toList w w')(hlen:xs'.length=xs.length)
  (hden:ba U (aj ρ H++X) (· =w) s xs' cs') (how:Ow (ρ i).A xs'.length (ρ i).c (aS U s) cs' sp') (hblk: ∀g,ao (ρ i).A=some g→w'.heap[g]? =some (Cl (cs'++sp') el)):
  ∃ρ',bd U X (· =w') ρ' n (ej H i (.row v s xs' el))∧bP ρ n H w ρ' n (ej H i (.row v s xs' el)) w':=by
 have hb0: ∀g',Lv (ci ρ i (ρ i)) (i,(.row v s xs' el:aN U)) g'→Lv ρ (i,(.row v s xs el:aN U)) g'∨w.heap.size≤g':=fun g' h=> .inl (jV h);have hr0: ∀v' l' m',bc (some (.row v s xs' el:aN U))=some (v',l',m')→ ∃v0 l m,bc (some (.row v s xs el:aN U))=some (v0,l,m)∧v0≤v'∧(v0=v'→(ρ i)=ρ i∧l'=l∧m'=m):=fun v' l' m' hr=>by
  injection hr with hr;injection hr with g1 hr;injection hr with g2 g3;subst g1;subst g2;subst g3;exact⟨v,_,_,rfl,Nat.le_refl _,fun _=>⟨rfl,hlen,rfl⟩⟩
 have st:=bP.upd (n:=n) M.xd M.nd hl hf (ρ i) hb0 hr0 (fun h=>by cases h);have M':=M.upd hl hf (ρ i) hb0 hr0 (fun h=>by cases h) (by
  refine⟨hm,cs',sp',ba.mv (st.mv (X:=X)) hden,by rw[aO];exact how,fun g hg' w2 h2=>?_⟩;subst h2;rw[aO]at hg';exact hblk g hg')
 exact⟨_,M',st⟩
theorem wa(M:bd U X (· =w) ρ n H){H':Hs U}(hp:H'.Perm H):bd U X (· =w) ρ n H'∧bP ρ n H w ρ n H' w:=by
 have nd':(H'.map (·.1)).Nodup:=(hp.map _).nodup_iff.2 M.nd;have hlk: ∀i,aB H' i=aB H i:=fun i=>by
  cases h:aB H i with
  |some x=>exact cM nd' (hp.mem_iff.2 (af h))
  |none=>
   cases h':aB H' i with
   |none=>rfl
   |some y=>rw[cM M.nd (hp.mem_iff.1 (af h'))]at h;cases h
 have hob: ∀g,g∈aj ρ H'↔g∈aj ρ H:=fun g=>⟨fun h=>by obtain⟨p,h1,h2⟩:=az.1 h;exact az.2 ⟨p,hp.mem_iff.1 h1,h2⟩,fun h=>by obtain⟨p,h1,h2⟩:=az.1 h;exact az.2 ⟨p,hp.mem_iff.2 h1,h2⟩⟩;have st:bP ρ n H w ρ n H' w:=⟨M.xd,Nat.le_refl _,Fr.refl _ _,fun g hg=> .inl ((hob g).1 hg),fun i hi v' l' m' h=>⟨v',l',m',by rw[←hlk];exact h,Nat.le_refl _,fun _=>⟨rfl,rfl,rfl⟩⟩,fun _ _ _=>rfl⟩;exact⟨⟨nd',fun p h=>M.lt p (hp.mem_iff.1 h),fun p h=>(M.ent p (hp.mem_iff.1 h)).step st rfl (fun _ _=>rfl),fun p h q h'=>M.inj p (hp.mem_iff.1 h) q (hp.mem_iff.1 h'),fun g hg=>M.dj g ((hob g).1 hg),M.lo,M.xs,M.gv⟩,st⟩
end
theorem sI{U:bJ}{P:Program}{tE:Nat}{ei:TI U}{s:bj}(hti:bT U P tE ei)(hz: ∃z,cQ 20 s ei.zero fun x=>x=z)(Y:List Nat)(w:World): ∃I:Inhabited (Em U Y w s),zeroCells P tE=some (default:Em U Y w s).c:=by
 obtain⟨z,hz⟩:=hz;obtain⟨zs,h1,h2,h3⟩:=hti.zero;have F:al:=⟨[],P⟩;obtain⟨x,hx,hd⟩:=bt hz;exact⟨⟨⟨x,zs,hd _ _ _ _ _ _ (h3 F Y (· =w) (fun _=>(rz none 0)) 0 [])⟩⟩,h1⟩
section
variable {U:bJ} {P:Program} {fi tE:Nat} {fn:Go.Func} {ρf ρt:Nat→Nat} {s:bj} {ei:TI U}
def sJ(U:bJ)(s:bj)(tE:Nat):bZ U:=⟨[.d (.sl (.sl s))],fun xs es K=> ∃l1 l2:List (TT U.ty s),xs= [⟨false,[(1,.d (.sl (.sl s)) [l1,l2])]⟩]∧es= []∧l1.length≤1000000∧l2.length≤1000000∧K (.v ⟨false,[(1,.own 0 0)]⟩) [.row 0 s (l1++l2) tE]⟩
theorem rf [al]{Y:List Nat}{w:World}{l:List (TT U.ty s)}{v:Value}(h:aG U Y (· =w) (.sl s) l [v]):
  ∃A c,∃em:List (Em U Y w s),em.map (·.x)=l∧v= .slice A em.length c∧em.length=l.length∧jA Y w A em.length c (aS U s) (em.flatMap (·.c)):=by
 obtain⟨A,c,cs,e,hd,hr,h1,h2⟩:=h.inv;injection e with e;subst e;obtain⟨em,e1,e2⟩:=B0 hd;have hl:em.length=l.length:=by rw[←e1,List.length_map]
 exact⟨A,c,em,e1,by rw[hl],hl,⟨by rw[e2];exact hr w rfl,by rw[dW (fun x=>x.hl)],by rw[hl];exact h1,h2⟩⟩
theorem rh{Y:List Nat}{S:World→Prop}{l:List (TT U.ty s)}{vs:List Value}(h:aG U Y S (.sl s) l vs): ∃v,vs= [v]:=by
 obtain⟨A,c,cs,e,_⟩:=h.inv;exact⟨_,e⟩
theorem wb{fg:Go.Func}(hen:bI P fi=true)(hf:P.funcs[fi]? =some fn)(hb:fn.body=some (i7 ρf ρt (io Tryz.f204)))(hn:fn.ntmps=36)(hr:fn.results= #[.tmp 2])
  (gen:bI P (ρf 281)=true) (gf:P.funcs[ρf 281]? =some fg) (gb:fg.body=some (i7 ρf ρt (io Tryz.f281))) (gn:fg.ntmps=27) (gr:fg.results= #[.tmp 4]) (hmx:P.follows .mixedOrders=true) (i64:P.underlying (ρt 3)=some (.int .i64))
  (es:bn P (ρt 56)=some (tE,aS U s)) (un:P.underlying (ρt 56)=some (.slice tE)) (es2:bn P (ρt 425)=some (ρt 56,1)) (un2:P.underlying (ρt 425)=some (.slice (ρt 56))) (pl:cA P (ρt 56)=true)
  (hti:bT U P tE ei) (hz: ∃z,cQ 20 s ei.zero fun x=>x=z) (hbb:ei.by_≤100000) (hm0:0<aS U s) (hmB:aS U s≤1000):aQ P U fi (sJ U s tE):=fun [F:al] hpr X w ρ es0 xs vs K M hv hrun=>by
 obtain⟨l1,l2,rfl,rfl,hl1,hl2,hK⟩:=hrun;obtain⟨v,us,rfl,h1,h2⟩:=hv;rw[show us= []from h2];obtain⟨A,c,cs,e,hd,hrd,hlc,hcm⟩:=(show aG U (aj ρ (aJ 0 [])++X) (· =w) (.sl (.sl s)) [l1,l2] [v]from(bK.one1 h1).1).inv;injection e with e;subst e;obtain⟨v1,r1,rfl,d1,_,hd⟩:=ba.cons_inv hd;obtain⟨v2,r2,rfl,d2,_,hd⟩:=ba.cons_inv hd;have hr2:=hd.nil_inv;subst hr2;obtain⟨v1,rfl⟩:=rh d1;obtain⟨v2,rfl⟩:=rh d2;obtain⟨A1,C1,em1,e1,rfl,n1,s1⟩:=rf d1;obtain⟨A2,C2,em2,e2,rfl,n2,s2⟩:=rf d2;obtain⟨I,hu⟩:=sI hti hz (aj ρ (aJ 0 [])++X) w;have hX:=M.lo w rfl;refine Fn.mono (tF (tS:=0) (enc:=fun e:Em U (aj ρ (aJ 0 [])++X) w s=>e.c) hen hf hb hn hr hmx es un i64 (by exact hu) hti.by_ hbb (fun x=>x.hl) hm0 hmB (fun x=>x.h1) X w hX em1 A1 C1 em2 A2 C2 A c s1 s2 ⟨hrd w rfl,rfl,hlc,hcm⟩ (by omega) (by omega) es2 un2 pl
  (fun X w hX n hn0 hn1=>DS (enc:=fun e:Em U _ _ s=>e.c) gen gf gb gn gr hmx es un i64 (by exact hu) hti.by_ hbb (fun x=>x.hl) hm0 hmB (fun x=>x.h1) X w hX n hn0 hn1)) ?_
 rintro v w' ⟨A',c',sp',rfl,how,st,hf',hk⟩;have hlen:(em1++em2).length=(l1++l2).length:=by rw[List.length_append,List.length_append,n1,n2]
 rw[hlen]at how⊢;obtain⟨ρ',a1,a2,a3⟩:=FJ (el:=tE) M hf' hm0 (by have:=rb (em1++em2);rw[List.map_append,e1,e2]at this;exact this) how (fun g hg=>st.hp.at (i:=0) (by rw[hg];rfl)) (fun g hg=>(hk g (by simp[bG,hg])).elim (fun h=>by cases h) id);exact⟨_,_,ρ',hK,a1,a2,a3⟩
theorem mF{X:List Nat}{w:World}{A:Option Addr}{cs:List Value}(hX:Lo X w)(h: ∀g,ao A=some g→w.heap[g]? =some (Cl cs tE))(dj: ∀g,ao A=some g→g∉X):St X w [(ao A,Cl cs tE)] []:=by
 refine⟨?_,by simp,hX,fun x hx hk=>?_⟩
 ·cases hA:ao A with
  |none=>exact qG _
  |some g=>exact mq (h g hA)
 ·cases hA:ao A with
  |none=>rw[hA]at hk;cases hk
  |some g=>rw[hA]at hk;simp[bG]at hk;subst hk;exact dj x hA hx
theorem wc{A:Option Addr}{o:Obj}:bG [(ao A,o)]=(ao A).toList:=by cases h:ao A<;>simp[bG]
theorem zy [al]{ρ:Nat→Rz}{i:Nat}{H:Hs U}{v:Nat}{xs:List (TT U.ty s)}(hl:aB H i=some (.row v s xs tE)){g:Nat}(hg:ao (ρ i).A=some g):g∈aj ρ H:=az.2 ⟨_,af hl,hg⟩
end
section
variable {U:bJ} {P:Program} {fi tE:Nat} {fn:Go.Func} {ρf ρt:Nat→Nat} {X:List Nat} {w:World}
theorem FK{Y:List Nat}{S:World→Prop}: ∀{xs:List (List UInt8)} {vs:List Value},ba U Y S .str xs vs→vs=xs.flatMap (fun x=> [sv x])∧ ∀x∈xs,x.length≤9223372036854775807
 | [],vs,h=>⟨h.nil_inv,by simp⟩
 |x::xs,vs,h=>by
  obtain⟨v1,v2,rfl,h1,hl,hr⟩:=h.cons_inv;obtain⟨e1,e2⟩:=h1.inv;obtain⟨e3,e4⟩:=FK hr;refine⟨by rw[show v1=_ from e1,e3];rfl,fun y hy=>?_⟩;rcases List.mem_cons.1 hy with rfl|hy
  ·exact e2
  ·exact e4 y hy
theorem DT{Y:List Nat}{S:World→Prop}: ∀(xs:List (List UInt8)),(∀x∈xs,x.length≤9223372036854775807)→ba U Y S .str xs (xs.flatMap (fun x=> [sv x]))
 | [],_=> .nil _
 |x::xs,h=> .cons .str x xs [sv x] _ (aG.str x (h x (by simp))) rfl (DT xs fun y hy=>h y (by simp[hy]))
theorem we [al]{ρ:Nat→Rz}{n i:Nat}{H:Hs U}{xs:List (List UInt8)}{v:Value}(M:bd U X (· =w) ρ n H)(hl:aB H i=some (.row 0 .str xs tE))(h:ct (Vw U X w ρ n H) ⟨false,[(1,.own i 0)]⟩ v):
  ∃(sp:List Value),i<n∧(∀x∈xs,x.length≤9223372036854775807)∧v= .slice (ρ i).A xs.length (ρ i).c∧Ow (ρ i).A xs.length (ρ i).c 1 (xs.flatMap (fun x=> [sv x])) sp∧ ∀g,ao (ρ i).A=some g→w.heap[g]? =some (Cl (xs.flatMap (fun x=> [sv x])++sp) tE):=by
 obtain⟨hi,A,l,c,e1,hnow⟩:=(show Vw U X w ρ n H (.own i 0) [v]from(bK.one1 h).1);injection e1 with e1;subst e1;obtain⟨rfl,rfl,rfl⟩:=(hnow _ _ _ (by rw[hl];rfl)).2 rfl;obtain⟨hm,cs,sp,hdx,how0,hw⟩:=M.ent _ (af hl);obtain⟨e1,e2⟩:=FK hdx;subst e1;exact⟨sp,hi,e2,rfl,how0,fun g hg=>hw g hg w rfl⟩
def wf(U:bJ)(tE:Nat):bZ U:=⟨[.n],fun xs es K=> ∃l:List (List UInt8),xs= [⟨false,[(1,.own 0 0)]⟩]∧es= [.row 0 .str l tE]∧l.length<4611686018427387904∧K (.tup []) [.row 0 .str (bE l) tE]⟩
open Go.Shelf Go.Lib Go.Sort in
theorem zA(hen:bI P fi=true)
  (hC: ∀(blk cap:Nat) (ss:List (List UInt8)) (w:World),Holds encStr w blk 0 ss.toArray→blk<w.heap.size→ss.length<4611686018427387904→Calls P fi #[.slice (some ⟨blk,0,none⟩) ss.length cap] w fun e w'=>e= .returned (.tuple #[])∧ ∃n os,w'=grow (putRow encStr (Sort.ahead w n) blk 0 (ss.mergeSort fun x y=>decide (x≤y)).toArray) os)
  (hN: ∀(p:Option Addr) (cap:Nat) (w:World),Calls P fi #[.slice p 0 cap] w fun e w'=>e= .returned (.tuple #[])∧w'=w):aQ P U fi (wf U tE):=fun [F:al] hpr X w ρ es0 xs vs K M hv hrun=>by
 obtain⟨l,rfl,rfl,h62,hK⟩:=hrun;obtain⟨v,us,rfl,h1,h3⟩:=hv;rw[show us= []from h3];have hl:aB (aJ 0 [(aN.row 0 .str l tE:aN U)]) 0=some (.row 0 .str l tE):=rfl;obtain⟨sp,hi,hlen,rfl,how0,hw⟩:=we M hl h1;have dj: ∀g,ao (ρ 0).A=some g→g∉X:=fun g hg=>M.dj g (zy (s:= .str) hl hg);refine Fn.mono (um hen hC hN X w l (ρ 0).A (ρ 0).c sp (mF (M.lo w rfl) hw dj) how0 h62) ?_;rintro v w' ⟨rfl,how,e,st,hf'⟩;rw[←e]at how;rw[wc]at hf';obtain⟨ρ',a2,a3⟩:=I0 (el:=tE) (s:= .str) M hl (show 0<1 from Nat.one_pos) hf' (List.length_mergeSort _) (DT (bE l) fun x hx=>hlen x ((List.mergeSort_perm _ _).mem_iff.1 hx)) how (fun g' hg'=>st.hp.at (i:=0) (by rw[hg'];rfl));exact⟨_,_,ρ',hK,⟨[],rfl,rfl⟩,a2,a3⟩
def wg(U:bJ):bZ U:=⟨[.d .str,.d .str],fun xs es K=> ∃s sep:List UInt8,xs= [⟨false,[(1,.d .str s)]⟩,⟨false,[(1,.d .str sep)]⟩]∧es= []∧s.length≤1000000∧1≤sep.length∧K (.v ⟨false,[(1,.d (.sl .str) (Lib.split s sep))]⟩) []⟩
theorem ju(sep:ByteArray)(save:Nat): ∀(k:Nat) (s x:ByteArray),x∈Lib.splitB sep save k s→x.size≤s.size
 |0,s,x,h=>by simp[Lib.splitB]at h;subst h;exact Nat.le_refl _
 |k+1,s,x,h=>by
  unfold Lib.splitB at h;split at h
  ·simp at h;subst h;exact Nat.le_refl _
  ·rcases List.mem_cons.1 h with rfl|h
   ·rw[ByteArray.size_extract];omega
   ·have:=ju sep save k _ x h;rw[ByteArray.size_extract]at this;omega
theorem jv{s sep:List UInt8}(h1:1≤sep.length):(Lib.split s sep).length=Lib.count s sep+1:=by
 have:=Lib.splitB_all ⟨sep.toArray⟩ (by simpa[ByteArray.size]using h1) 0 (Lib.count s sep) ⟨s.toArray⟩ (by simp);have h2:=congrArg List.length (Lib.splitB_data ⟨sep.toArray⟩ 0 (Lib.count s sep) ⟨s.toArray⟩);rw[List.length_map,this]at h2;unfold Lib.split;simpa using h2.symm
theorem zB(hen:bI P fi=true)(hC: ∀(s sep:ByteArray) (m:Int) (w:World),s.size<4294967281→w.cell? ⟨1,0,none⟩=some (.int .i64 m)→1≤sep.size→Calls P fi #[.string s,.string sep] w fun e w'=>
   e= .returned (.slice (some ⟨w.heap.size,0,none⟩) (Lib.countB s sep+1) (Lib.countB s sep+1))∧w'=w.alloc (.cells ((Lib.splitB sep 0 (Lib.countB s sep) s).map Value.string).toArray tE)):aQ P U fi (wg U):=fun [F:al] hpr X w ρ es0 xs vs K M hv hrun=>by
 obtain⟨s,sep,rfl,rfl,hs,h1,hK⟩:=hrun;obtain⟨v,us,rfl,ha,v2,us2,rfl,hb,h3⟩:=hv;rw[show us2= []from h3];obtain⟨e1,_⟩:=aG.inv (show aG U _ _ .str s [v]from(bK.one1 ha).1);obtain⟨e2,_⟩:=aG.inv (show aG U _ _ .str sep [v2]from(bK.one1 hb).1);injection e1 with e1;injection e2 with e2;subst e1;subst e2;obtain⟨mx,hm⟩:=(M.gv.2 w rfl).mx;refine⟨hen,(hC ⟨s.toArray⟩ ⟨sep.toArray⟩ mx w (by simp[ByteArray.size];omega) hm (by simpa[ByteArray.size]using h1)).mono ?_⟩;rintro e w' ⟨rfl,rfl⟩;have hlen:=jv (s:=s) h1;have hd2:=Lib.splitB_data ⟨sep.toArray⟩ 0 (Lib.count s sep) ⟨s.toArray⟩;have hsp:Lib.split s sep=(Lib.splitB ⟨sep.toArray⟩ 0 (Lib.count s sep) ⟨s.toArray⟩).map (·.data.toList):=by rw[hd2];rfl
 have hcells:((Lib.splitB ⟨sep.toArray⟩ 0 (Lib.countB ⟨s.toArray⟩ ⟨sep.toArray⟩) ⟨s.toArray⟩).map Value.string)=(Lib.split s sep).flatMap (fun x=> [sv x]):=by
  rw[lW,hsp,List.map_map];apply List.map_congr_left;intro x _;cases x;rfl
 have hcount:Lib.count s sep≤s.length:=by
  have:=Lib.countB_le ⟨sep.toArray⟩ (by simpa[ByteArray.size]using h1) s.length ⟨s.toArray⟩ (by simp[ByteArray.size]);simpa[ByteArray.size]using this
 have hf:Fr [] w (w.alloc (.cells ((Lib.splitB ⟨sep.toArray⟩ 0 (Lib.countB ⟨s.toArray⟩ ⟨sep.toArray⟩) ⟨s.toArray⟩).map Value.string).toArray tE)):=Fr.alloc w _;refine⟨_,rfl,_,_,ρ,hK,?_,(M.keep0 hf).1,(M.keep0 hf).2⟩;refine eD ?_;show aG U _ _ (.sl .str) (Lib.split s sep) [_]
 have hle: ∀x∈Lib.split s sep,x.length≤9223372036854775807:=fun x hx=>by
  rw[hsp]at hx;obtain⟨y,hy,rfl⟩:=List.mem_map.1 hx;have:=ju _ _ _ _ _ hy;have e1:y.size=y.data.toList.length:=Array.length_toList.symm;have e2:(⟨s.toArray⟩:ByteArray).size=s.length:=List.size_toArray;omega
 have hrd:kK (aj ρ (aJ 0 ([]:List (aN U)))++X) (w.alloc (.cells ((Lib.splitB ⟨sep.toArray⟩ 0 (Lib.countB ⟨s.toArray⟩ ⟨sep.toArray⟩) ⟨s.toArray⟩).map Value.string).toArray tE)) (some ⟨w.heap.size,0,none⟩) ((Lib.split s sep).flatMap (fun x=> [sv x])):=by
  intro j v hj;refine⟨w.heap.size,0,rfl,fun hx=>?_,?_⟩
  ·have:=M.lo w rfl _ (show w.heap.size∈X from hx);omega
  ·rw[Nat.zero_add,hcells];unfold World.cell?;simp only[heap_alloc_new];simpa using hj
 have:=aG.sl (U:=U) (Y:=aj ρ (aJ 0 [])++X) (S:=(· =w.alloc (.cells ((Lib.splitB ⟨sep.toArray⟩ 0 (Lib.countB ⟨s.toArray⟩ ⟨sep.toArray⟩) ⟨s.toArray⟩).map Value.string).toArray tE))) .str (Lib.split s sep) (some ⟨w.heap.size,0,none⟩) (Lib.count s sep+1) _ (DT _ hle) (fun w2 h2=>by rw[h2];exact hrd) (Nat.le_of_eq hlen) (by unfold maxLen;omega);rw[show(List.length (α:=TT U.ty .str) (Lib.split s sep))=Lib.count s sep+1 from hlen]at this;exact this
end
def Mi(P:Program)(gf:Nat)(lb:List Value)(w:World){α:Type}(enc:α→Value)(ok:List α→α→Prop)(KS:List α→Prop):Prop:=
 ∀(l:Nat) (W:World),Fr [] w W→ ∀(Q:List α→World→Prop) (J:List α→World→Prop),J [] W→(∀xs W1 W2,J xs W1→Fr [] W1 W2→J xs W2)→
  (∀xs x W1,ok xs x→J xs W1→kG P l [enc x] W1 (fun W2=>J (xs++ [x]) W2∧ ∃O,Fr O W1 W2∧ ∀o∈O,w.heap.size≤o) (fun _=>False))→(∀xs W1,KS xs→J xs W1→Q xs W1)→
  Fn P gf (.func (.yield l) #[] #[]::lb) W fun _ W'=> ∃xs,KS xs∧Q xs W'
theorem zC{w:World}{H:bX}(h:Hp w H)(o:Obj):Hp w (H++ [(none,o)]):=by
 have key: ∀(i g:Nat) (b:Obj),(H++ [(none,o)])[i]? =some (some g,b)→H[i]? =some (some g,b):=fun i g b hi=>by
  rw[List.getElem?_append]at hi;split at hi
  ·exact hi
  ·rename_i hlt;cases hk:i - H.length with
   |zero=>rw[hk]at hi;cases hi
   |succ k=>rw[hk]at hi;cases hi
 exact⟨fun i g b hi=>h.blk i g b (key i g b hi),fun i j g a b hi hj=>h.inj i j g a b (key i g a hi) (key j g b hj)⟩
end Go.Proofs.YtfgofabojepcmaaGreatDoor.V
end

section
namespace Go.Proofs
open Go.Shelf
def Tryz.laysM171_ren:Go.Shelf.Ren:=⟨fun|171=>275|243=>332|246=>363|283=>381|284=>382|285=>383|286=>384|129=>319|317=>400|318=>401|319=>402|320=>403|337=>408|338=>409|n=>n,fun|3=>3|9=>9|2=>2|4=>4|171=>494|0=>0|53=>270|37=>363|5=>5|173=>496|212=>512|51=>27|20=>20|213=>513|46=>362|232=>518|233=>519|n=>n,fun|17=>6|18=>7|19=>8|n=>n⟩
theorem Tryz.laysM171:Go.Proofs.LaysM.n171 Tryz.prog Tryz.laysM171_ren:={
 mixed:=by kernel_rfl
 f129:=Tryz.func319.trans (congrArg some (by kernel_rfl))
 f171:=Tryz.func275.trans (congrArg some (by kernel_rfl))
 f243:=Tryz.func332.trans (congrArg some (by kernel_rfl))
 f246:=Tryz.func363.trans (congrArg some (by kernel_rfl))
 f283:=Tryz.func381.trans (congrArg some (by kernel_rfl))
 f284:=Tryz.func382.trans (congrArg some (by kernel_rfl))
 f285:=Tryz.func383.trans (congrArg some (by kernel_rfl))
 f286:=Tryz.func384.trans (congrArg some (by kernel_rfl))
 f317:=Tryz.func400.trans (congrArg some (by kernel_rfl))
 f318:=Tryz.func401.trans (congrArg some (by kernel_rfl))
 f319:=Tryz.func402.trans (congrArg some (by kernel_rfl))
 f320:=Tryz.func403.trans (congrArg some (by kernel_rfl))
 f337:=Tryz.func408.trans (congrArg some (by kernel_rfl))
 f338:=Tryz.func409.trans (congrArg some (by kernel_rfl))
 t0:=Tryz.underlying0
 a0:=Tryz.isAgg0
 z0:=Tryz.sizeOf0
 v0:=Tryz.zeroValue0
 t2:=Tryz.underlying2
 a2:=Tryz.isAgg2
 z2:=Tryz.sizeOf2
 v2:=Tryz.zeroValue2
 t3:=Tryz.underlying3
 a3:=Tryz.isAgg3
 z3:=Tryz.sizeOf3
 v3:=Tryz.zeroValue3
 t4:=Tryz.underlying4
 a4:=Tryz.isAgg4
 z4:=Tryz.sizeOf4
 v4:=Tryz.zeroValue4
 t5:=Tryz.underlying5
 a5:=Tryz.isAgg5
 z5:=Tryz.sizeOf5
 v5:=Tryz.zeroValue5
 t9:=Tryz.underlying9
 a9:=Tryz.isAgg9
 z9:=Tryz.sizeOf9
 v9:=Tryz.zeroValue9
 t20:=Tryz.underlying20
 a20:=Tryz.isAgg20
 z20:=Tryz.sizeOf20
 v20:=Tryz.zeroValue20
 t37:=Tryz.underlying363
 a37:=Tryz.isAgg363
 z37:=Tryz.sizeOf363
 v37:=Tryz.zeroValue363
 t46:=Tryz.underlying362
 a46:=Tryz.isAgg362
 z46:=Tryz.sizeOf362
 v46:=Tryz.zeroValue362
 t51:=Tryz.underlying27
 a51:=Tryz.isAgg27
 z51:=Tryz.sizeOf27
 v51:=Tryz.zeroValue27
 t53:=Tryz.underlying270
 a53:=Tryz.isAgg270
 z53:=Tryz.sizeOf270
 v53:=Tryz.zeroValue270
 t171:=Tryz.underlying494
 a171:=Tryz.isAgg494
 z171:=Tryz.sizeOf494
 v171:=Tryz.zeroValue494
 t173:=Tryz.underlying496
 a173:=Tryz.isAgg496
 z173:=Tryz.sizeOf496
 v173:=Tryz.zeroValue496
 t212:=Tryz.underlying512
 a212:=Tryz.isAgg512
 z212:=Tryz.sizeOf512
 v212:=Tryz.zeroValue512
 t213:=Tryz.underlying513
 a213:=Tryz.isAgg513
 z213:=Tryz.sizeOf513
 t232:=Tryz.underlying518
 a232:=Tryz.isAgg518
 z232:=Tryz.sizeOf518
 v232:=Tryz.zeroValue518
 t233:=Tryz.underlying519
 a233:=Tryz.isAgg519
 z233:=Tryz.sizeOf519
 v233:=Tryz.zeroValue519
 g17:=by kernel_rfl
 g18:=by kernel_rfl
 g19:=by kernel_rfl
 i0:=by kernel_rfl
 i2:=by kernel_rfl
 i3:=by kernel_rfl
 i4:=by kernel_rfl
 i5:=by kernel_rfl
 i9:=by kernel_rfl
 i20:=by kernel_rfl
 i37:=by kernel_rfl
 i46:=by kernel_rfl
 i51:=by kernel_rfl
 i53:=by kernel_rfl
 i171:=by kernel_rfl
 i173:=by kernel_rfl
 i212:=by kernel_rfl
 i232:=by kernel_rfl
 i233:=by kernel_rfl
 m17:=by kernel_rfl
 m18:=by kernel_rfl
 m19:=by kernel_rfl}
open Go.RowKit Go.Sort Go.Lib in
theorem Tryz.strconv_Itoa(n:Int)(h0: -9223372036854775808≤n)(h1:n≤9223372036854775807)(w:World)(htab:Lib.TabIs Tryz.prog w "internal/strconv.uint64pow10" .u64 Lib.pow10Tab):
  Calls Tryz.prog 275 #[.int .i64 n] w fun e w'=>e= .returned (.string ⟨(Lib.itoa n).toArray⟩)∧ ∃k os,w'=grow (w.drewN k) os:=Any.strconv_Itoa Tryz.laysM171 n h0 h1 w htab
def Tryz.laysC172_ren:Go.Shelf.Ren:=⟨fun|172=>274|244=>330|245=>331|247=>358|279=>359|280=>360|281=>361|282=>362|287=>378|316=>379|171=>275|205=>380|321=>398|322=>399|243=>332|246=>363|283=>381|284=>382|285=>383|286=>384|129=>319|317=>400|318=>401|319=>402|320=>403|337=>408|338=>409|n=>n,fun|9=>9|3=>3|75=>64|76=>420|4=>4|5=>5|167=>472|37=>363|0=>0|85=>473|2=>2|168=>475|53=>270|175=>489|46=>362|210=>492|127=>507|145=>510|143=>508|21=>21|171=>494|173=>496|212=>512|51=>27|20=>20|213=>513|232=>518|233=>519|80=>520|n=>n,fun|15=>4|16=>5|17=>6|18=>7|19=>8|n=>n⟩
theorem Tryz.laysC172:Go.Proofs.LaysC.n172 Tryz.prog Tryz.laysC172_ren:={
 mixed:=by kernel_rfl
 f129:=Tryz.func319.trans (congrArg some (by kernel_rfl))
 f171:=Tryz.func275.trans (congrArg some (by kernel_rfl))
 f172:=Tryz.func274.trans (congrArg some (by kernel_rfl))
 f205:=Tryz.func380.trans (congrArg some (by kernel_rfl))
 f243:=Tryz.func332.trans (congrArg some (by kernel_rfl))
 f244:=Tryz.func330.trans (congrArg some (by kernel_rfl))
 f245:=Tryz.func331.trans (congrArg some (by kernel_rfl))
 f246:=Tryz.func363.trans (congrArg some (by kernel_rfl))
 f247:=Tryz.func358.trans (congrArg some (by kernel_rfl))
 f279:=Tryz.func359.trans (congrArg some (by kernel_rfl))
 f280:=Tryz.func360.trans (congrArg some (by kernel_rfl))
 f281:=Tryz.func361.trans (congrArg some (by kernel_rfl))
 f282:=Tryz.func362.trans (congrArg some (by kernel_rfl))
 f283:=Tryz.func381.trans (congrArg some (by kernel_rfl))
 f284:=Tryz.func382.trans (congrArg some (by kernel_rfl))
 f285:=Tryz.func383.trans (congrArg some (by kernel_rfl))
 f286:=Tryz.func384.trans (congrArg some (by kernel_rfl))
 f287:=Tryz.func378.trans (congrArg some (by kernel_rfl))
 f316:=Tryz.func379.trans (congrArg some (by kernel_rfl))
 f317:=Tryz.func400.trans (congrArg some (by kernel_rfl))
 f318:=Tryz.func401.trans (congrArg some (by kernel_rfl))
 f319:=Tryz.func402.trans (congrArg some (by kernel_rfl))
 f320:=Tryz.func403.trans (congrArg some (by kernel_rfl))
 f321:=Tryz.func398.trans (congrArg some (by kernel_rfl))
 f322:=Tryz.func399.trans (congrArg some (by kernel_rfl))
 f337:=Tryz.func408.trans (congrArg some (by kernel_rfl))
 f338:=Tryz.func409.trans (congrArg some (by kernel_rfl))
 t0:=Tryz.underlying0
 a0:=Tryz.isAgg0
 z0:=Tryz.sizeOf0
 v0:=Tryz.zeroValue0
 t2:=Tryz.underlying2
 a2:=Tryz.isAgg2
 z2:=Tryz.sizeOf2
 v2:=Tryz.zeroValue2
 t3:=Tryz.underlying3
 a3:=Tryz.isAgg3
 z3:=Tryz.sizeOf3
 v3:=Tryz.zeroValue3
 t4:=Tryz.underlying4
 a4:=Tryz.isAgg4
 z4:=Tryz.sizeOf4
 v4:=Tryz.zeroValue4
 t5:=Tryz.underlying5
 a5:=Tryz.isAgg5
 z5:=Tryz.sizeOf5
 v5:=Tryz.zeroValue5
 t9:=Tryz.underlying9
 a9:=Tryz.isAgg9
 z9:=Tryz.sizeOf9
 v9:=Tryz.zeroValue9
 t20:=Tryz.underlying20
 a20:=Tryz.isAgg20
 z20:=Tryz.sizeOf20
 v20:=Tryz.zeroValue20
 t21:=Tryz.underlying21
 a21:=Tryz.isAgg21
 z21:=Tryz.sizeOf21
 v21:=Tryz.zeroValue21
 t37:=Tryz.underlying363
 a37:=Tryz.isAgg363
 z37:=Tryz.sizeOf363
 v37:=Tryz.zeroValue363
 t46:=Tryz.underlying362
 a46:=Tryz.isAgg362
 z46:=Tryz.sizeOf362
 v46:=Tryz.zeroValue362
 t51:=Tryz.underlying27
 a51:=Tryz.isAgg27
 z51:=Tryz.sizeOf27
 v51:=Tryz.zeroValue27
 t53:=Tryz.underlying270
 a53:=Tryz.isAgg270
 z53:=Tryz.sizeOf270
 v53:=Tryz.zeroValue270
 t75:=Tryz.underlying64
 a75:=Tryz.isAgg64
 z75:=Tryz.sizeOf64
 v75:=Tryz.zeroValue64
 t76:=Tryz.underlying420
 a76:=Tryz.isAgg420
 z76:=Tryz.sizeOf420
 v76:=Tryz.zeroValue420
 t85:=Tryz.underlying473
 a85:=Tryz.isAgg473
 z85:=Tryz.sizeOf473
 v85:=Tryz.zeroValue473
 t127:=Tryz.underlying507
 a127:=Tryz.isAgg507
 z127:=Tryz.sizeOf507
 v127:=Tryz.zeroValue507
 t143:=Tryz.underlying508
 a143:=Tryz.isAgg508
 z143:=Tryz.sizeOf508
 v143:=Tryz.zeroValue508
 t145:=Tryz.underlying510
 a145:=Tryz.isAgg510
 z145:=Tryz.sizeOf510
 v145:=Tryz.zeroValue510
 t167:=Tryz.underlying472
 a167:=Tryz.isAgg472
 z167:=Tryz.sizeOf472
 v167:=Tryz.zeroValue472
 t168:=Tryz.underlying475
 a168:=Tryz.isAgg475
 z168:=Tryz.sizeOf475
 v168:=Tryz.zeroValue475
 t171:=Tryz.underlying494
 a171:=Tryz.isAgg494
 z171:=Tryz.sizeOf494
 v171:=Tryz.zeroValue494
 t173:=Tryz.underlying496
 a173:=Tryz.isAgg496
 z173:=Tryz.sizeOf496
 v173:=Tryz.zeroValue496
 t175:=Tryz.underlying489
 a175:=Tryz.isAgg489
 z175:=Tryz.sizeOf489
 v175:=Tryz.zeroValue489
 t210:=Tryz.underlying492
 a210:=Tryz.isAgg492
 z210:=Tryz.sizeOf492
 v210:=Tryz.zeroValue492
 t212:=Tryz.underlying512
 a212:=Tryz.isAgg512
 z212:=Tryz.sizeOf512
 v212:=Tryz.zeroValue512
 t213:=Tryz.underlying513
 a213:=Tryz.isAgg513
 z213:=Tryz.sizeOf513
 t232:=Tryz.underlying518
 a232:=Tryz.isAgg518
 z232:=Tryz.sizeOf518
 v232:=Tryz.zeroValue518
 t233:=Tryz.underlying519
 a233:=Tryz.isAgg519
 z233:=Tryz.sizeOf519
 v233:=Tryz.zeroValue519
 g15:=by kernel_rfl
 g16:=by kernel_rfl
 g17:=by kernel_rfl
 g18:=by kernel_rfl
 g19:=by kernel_rfl
 t80:=Tryz.underlying520
 a80:=Tryz.isAgg520
 z80:=Tryz.sizeOf520
 v80:=Tryz.zeroValue520
 i0:=by kernel_rfl
 i2:=by kernel_rfl
 i3:=by kernel_rfl
 i4:=by kernel_rfl
 i5:=by kernel_rfl
 i9:=by kernel_rfl
 i20:=by kernel_rfl
 i21:=by kernel_rfl
 i37:=by kernel_rfl
 i46:=by kernel_rfl
 i51:=by kernel_rfl
 i53:=by kernel_rfl
 i75:=by kernel_rfl
 i76:=by kernel_rfl
 i80:=by kernel_rfl
 i85:=by kernel_rfl
 i127:=by kernel_rfl
 i143:=by kernel_rfl
 i145:=by kernel_rfl
 i167:=by kernel_rfl
 i168:=by kernel_rfl
 i171:=by kernel_rfl
 i173:=by kernel_rfl
 i175:=by kernel_rfl
 i210:=by kernel_rfl
 i212:=by kernel_rfl
 i232:=by kernel_rfl
 i233:=by kernel_rfl
 m15:=by kernel_rfl
 m16:=by kernel_rfl
 m17:=by kernel_rfl
 m18:=by kernel_rfl
 m19:=by kernel_rfl
 c0:=by kernel_rfl
 c2:=by kernel_rfl
 c3:=by kernel_rfl
 c4:=by kernel_rfl
 c5:=by kernel_rfl
 c9:=by kernel_rfl
 c20:=by kernel_rfl
 c21:=by kernel_rfl
 c37:=by kernel_rfl
 c46:=by kernel_rfl
 c51:=by kernel_rfl
 c53:=by kernel_rfl
 c75:=by kernel_rfl
 c76:=by kernel_rfl
 c80:=by kernel_rfl
 c85:=by kernel_rfl
 c127:=by kernel_rfl
 c143:=by kernel_rfl
 c145:=by kernel_rfl
 c167:=by kernel_rfl
 c168:=by kernel_rfl
 c171:=by kernel_rfl
 c173:=by kernel_rfl
 c175:=by kernel_rfl
 c210:=by kernel_rfl
 c212:=by kernel_rfl
 c213:=by kernel_rfl
 c232:=by kernel_rfl
 c233:=by kernel_rfl}
open Go.RowKit in
theorem Tryz.strconv_Atoi_ok(s:ByteArray)(hmax:s.size≤9223372036854775806)(v:Int)(h:Lib.atoiAll s.data.toList= .ok v)(w:World):
  Calls Tryz.prog 274 #[.string s] w fun e w'=>e= .returned (.tuple #[.int .i64 v,.nilIface])∧(w'=w∨ ∃t,w'=Lib.bytesWorld w 5 t):=Any.strconv_Atoi_ok Tryz.laysC172 s hmax v h w
open Go.RowKit in
theorem Tryz.strconv_Atoi_none(s:ByteArray)(hlim:s.size≤281474976710656)(h1: ∀v,¬Lib.atoiAll s.data.toList= .ok v)(h2: ¬Lib.atoiAll s.data.toList= .range)(ev:Value)(w:World)(hv:w.cell? ⟨4,0,none⟩=some ev)(hev:ev= .nilIface∨ ∃te pe,ev= .iface te pe):
  Calls Tryz.prog 274 #[.string s] w fun e w'=> ∃N,e= .returned (.tuple #[.int .i64 (0),.iface 475 (.pointer (some ⟨N,0,none⟩))])∧w.heap.size≤N∧w'.heap[N]? =some (.cells #[.string ⟨#[65,116,111,105]⟩,.string s,ev] 492 (0,0))∧Below w.heap.size w w':=Any.strconv_Atoi_syntax Tryz.laysC172 s hlim (by cases hq:Lib.atoiAll s.data.toList with
 | ok v => exact absurd hq (h1 v)
 | range => exact absurd hq h2
 | _ => rfl) ev w hv hev
open Go.RowKit in
theorem Tryz.strconv_Atoi_range(s:ByteArray)(hlim:s.size≤281474976710656)(h:Lib.atoiAll s.data.toList= .range)(ev:Value)(w:World)(hv:w.cell? ⟨5,0,none⟩=some ev)(hev:ev= .nilIface∨ ∃te pe,ev= .iface te pe):
  Calls Tryz.prog 274 #[.string s] w fun e w'=> ∃N,e= .returned (.tuple #[.int .i64 (Lib.atoiSat s.data.toList),.iface 475 (.pointer (some ⟨N,0,none⟩))])∧w.heap.size≤N∧w'.heap[N]? =some (.cells #[.string ⟨#[65,116,111,105]⟩,.string s,ev] 492 (0,0))∧Below w.heap.size w w':=Any.strconv_Atoi_range Tryz.laysC172 s hlim h ev w hv hev
def Tryz.lays145_ren:Go.Shelf.Ren:=⟨fun|145=>329|220=>357|219=>272|217=>325|225=>326|224=>327|267=>328|266=>355|314=>356|n=>n,fun|9=>9|4=>4|59=>448|3=>3|5=>5|46=>362|146=>470|51=>27|n=>n,fun|1=>1|n=>n⟩
theorem Tryz.lays145:Go.Proofs.Lays.n145 Tryz.prog Tryz.lays145_ren:={
 mixed:=by kernel_rfl
 f145:=Tryz.func329.trans (congrArg some (by kernel_rfl))
 f217:=Tryz.func325.trans (congrArg some (by kernel_rfl))
 f219:=Tryz.func272.trans (congrArg some (by kernel_rfl))
 f220:=Tryz.func357.trans (congrArg some (by kernel_rfl))
 f224:=Tryz.func327.trans (congrArg some (by kernel_rfl))
 f225:=Tryz.func326.trans (congrArg some (by kernel_rfl))
 f266:=Tryz.func355.trans (congrArg some (by kernel_rfl))
 f267:=Tryz.func328.trans (congrArg some (by kernel_rfl))
 f314:=Tryz.func356.trans (congrArg some (by kernel_rfl))
 t3:=Tryz.underlying3
 a3:=Tryz.isAgg3
 z3:=Tryz.sizeOf3
 v3:=Tryz.zeroValue3
 t4:=Tryz.underlying4
 a4:=Tryz.isAgg4
 z4:=Tryz.sizeOf4
 v4:=Tryz.zeroValue4
 t5:=Tryz.underlying5
 a5:=Tryz.isAgg5
 z5:=Tryz.sizeOf5
 v5:=Tryz.zeroValue5
 t9:=Tryz.underlying9
 a9:=Tryz.isAgg9
 z9:=Tryz.sizeOf9
 v9:=Tryz.zeroValue9
 t46:=Tryz.underlying362
 a46:=Tryz.isAgg362
 z46:=Tryz.sizeOf362
 v46:=Tryz.zeroValue362
 t51:=Tryz.underlying27
 a51:=Tryz.isAgg27
 z51:=Tryz.sizeOf27
 v51:=Tryz.zeroValue27
 t59:=Tryz.underlying448
 a59:=Tryz.isAgg448
 z59:=Tryz.sizeOf448
 v59:=Tryz.zeroValue448
 t146:=Tryz.underlying470
 a146:=Tryz.isAgg470
 z146:=Tryz.sizeOf470
 v146:=Tryz.zeroValue470
 g1:=by kernel_rfl}
open Go.RowKit Go.Lib in
theorem Tryz.strings_Cut(s sep:ByteArray)(m:Int)(w:World)(hs:s.size<4294967281)(hm:w.cell? ⟨1,0,none⟩=some (.int .i64 m)):
  Calls Tryz.prog 329 #[.string s,.string sep] w fun e w'=>e= .returned (.tuple #[.string ⟨(Lib.cut s.data.toList sep.data.toList).1.toArray⟩,.string ⟨(Lib.cut s.data.toList sep.data.toList).2.1.toArray⟩,.bool (Lib.cut s.data.toList sep.data.toList).2.2])∧ ∃n,w'=w.drewN n:=Any.strings_Cut Tryz.lays145 s sep m w hs hm
def Tryz.laysM219_ren:Go.Shelf.Ren:=⟨fun|219=>272|217=>325|225=>326|224=>327|267=>328|266=>355|314=>356|n=>n,fun|9=>9|3=>3|4=>4|5=>5|46=>362|146=>470|51=>27|n=>n,fun|1=>1|n=>n⟩
theorem Tryz.laysM219:Go.Proofs.LaysM.n219 Tryz.prog Tryz.laysM219_ren:={
 mixed:=by kernel_rfl
 f217:=Tryz.func325.trans (congrArg some (by kernel_rfl))
 f219:=Tryz.func272.trans (congrArg some (by kernel_rfl))
 f224:=Tryz.func327.trans (congrArg some (by kernel_rfl))
 f225:=Tryz.func326.trans (congrArg some (by kernel_rfl))
 f266:=Tryz.func355.trans (congrArg some (by kernel_rfl))
 f267:=Tryz.func328.trans (congrArg some (by kernel_rfl))
 f314:=Tryz.func356.trans (congrArg some (by kernel_rfl))
 t3:=Tryz.underlying3
 a3:=Tryz.isAgg3
 z3:=Tryz.sizeOf3
 v3:=Tryz.zeroValue3
 t4:=Tryz.underlying4
 a4:=Tryz.isAgg4
 z4:=Tryz.sizeOf4
 v4:=Tryz.zeroValue4
 t5:=Tryz.underlying5
 a5:=Tryz.isAgg5
 z5:=Tryz.sizeOf5
 v5:=Tryz.zeroValue5
 t9:=Tryz.underlying9
 a9:=Tryz.isAgg9
 z9:=Tryz.sizeOf9
 v9:=Tryz.zeroValue9
 t46:=Tryz.underlying362
 a46:=Tryz.isAgg362
 z46:=Tryz.sizeOf362
 v46:=Tryz.zeroValue362
 t51:=Tryz.underlying27
 a51:=Tryz.isAgg27
 z51:=Tryz.sizeOf27
 v51:=Tryz.zeroValue27
 t146:=Tryz.underlying470
 a146:=Tryz.isAgg470
 z146:=Tryz.sizeOf470
 v146:=Tryz.zeroValue470
 g1:=by kernel_rfl
 i3:=by kernel_rfl
 i4:=by kernel_rfl
 i5:=by kernel_rfl
 i9:=by kernel_rfl
 i46:=by kernel_rfl
 i51:=by kernel_rfl
 i146:=by kernel_rfl
 m1:=by kernel_rfl
 s1_3:=fun w h=>Go.Proofs.cell_of_shapedOpen_int (zero:= #[.int .i64 0]) (t:=3) h (of_decide_eq_true (by kernel_rfl)) (by kernel_rfl) rfl (by kernel_rfl) (by kernel_rfl) Tryz.underlying3}
def Tryz.lays190_ren:Go.Shelf.Ren:=⟨fun|190=>294|125=>255|258=>343|128=>318|129=>319|302=>366|303=>367|304=>368|305=>369|306=>370|307=>371|308=>372|309=>373|310=>374|333=>385|329=>349|330=>350|334=>386|335=>387|336=>388|344=>404|n=>n,fun|31=>80|9=>9|3=>3|46=>362|0=>0|51=>27|53=>270|4=>4|183=>441|182=>440|131=>152|5=>5|218=>460|222=>463|228=>485|229=>486|n=>n,fun|n=>n⟩
theorem Tryz.lays190:Go.Proofs.Lays.n190 Tryz.prog Tryz.lays190_ren:={
 mixed:=by kernel_rfl
 f125:=Tryz.func255.trans (congrArg some (by kernel_rfl))
 f128:=Tryz.func318.trans (congrArg some (by kernel_rfl))
 f129:=Tryz.func319.trans (congrArg some (by kernel_rfl))
 f190:=Tryz.func294.trans (congrArg some (by kernel_rfl))
 f258:=Tryz.func343.trans (congrArg some (by kernel_rfl))
 f302:=Tryz.func366.trans (congrArg some (by kernel_rfl))
 f303:=Tryz.func367.trans (congrArg some (by kernel_rfl))
 f304:=Tryz.func368.trans (congrArg some (by kernel_rfl))
 f305:=Tryz.func369.trans (congrArg some (by kernel_rfl))
 f306:=Tryz.func370.trans (congrArg some (by kernel_rfl))
 f307:=Tryz.func371.trans (congrArg some (by kernel_rfl))
 f308:=Tryz.func372.trans (congrArg some (by kernel_rfl))
 f309:=Tryz.func373.trans (congrArg some (by kernel_rfl))
 f310:=Tryz.func374.trans (congrArg some (by kernel_rfl))
 f329:=Tryz.func349.trans (congrArg some (by kernel_rfl))
 f330:=Tryz.func350.trans (congrArg some (by kernel_rfl))
 f333:=Tryz.func385.trans (congrArg some (by kernel_rfl))
 f334:=Tryz.func386.trans (congrArg some (by kernel_rfl))
 f335:=Tryz.func387.trans (congrArg some (by kernel_rfl))
 f336:=Tryz.func388.trans (congrArg some (by kernel_rfl))
 f344:=Tryz.func404.trans (congrArg some (by kernel_rfl))
 t0:=Tryz.underlying0
 a0:=Tryz.isAgg0
 z0:=Tryz.sizeOf0
 v0:=Tryz.zeroValue0
 t3:=Tryz.underlying3
 a3:=Tryz.isAgg3
 z3:=Tryz.sizeOf3
 v3:=Tryz.zeroValue3
 t4:=Tryz.underlying4
 a4:=Tryz.isAgg4
 z4:=Tryz.sizeOf4
 v4:=Tryz.zeroValue4
 t5:=Tryz.underlying5
 a5:=Tryz.isAgg5
 z5:=Tryz.sizeOf5
 v5:=Tryz.zeroValue5
 t9:=Tryz.underlying9
 a9:=Tryz.isAgg9
 z9:=Tryz.sizeOf9
 v9:=Tryz.zeroValue9
 t31:=Tryz.underlying80
 a31:=Tryz.isAgg80
 z31:=Tryz.sizeOf80
 v31:=Tryz.zeroValue80
 t46:=Tryz.underlying362
 a46:=Tryz.isAgg362
 z46:=Tryz.sizeOf362
 v46:=Tryz.zeroValue362
 t51:=Tryz.underlying27
 a51:=Tryz.isAgg27
 z51:=Tryz.sizeOf27
 v51:=Tryz.zeroValue27
 t53:=Tryz.underlying270
 a53:=Tryz.isAgg270
 z53:=Tryz.sizeOf270
 v53:=Tryz.zeroValue270
 t131:=Tryz.underlying152
 a131:=Tryz.isAgg152
 z131:=Tryz.sizeOf152
 v131:=Tryz.zeroValue152
 t182:=Tryz.underlying440
 a182:=Tryz.isAgg440
 z182:=Tryz.sizeOf440
 v182:=Tryz.zeroValue440
 t183:=Tryz.underlying441
 a183:=Tryz.isAgg441
 z183:=Tryz.sizeOf441
 v183:=Tryz.zeroValue441
 t218:=Tryz.underlying460
 a218:=Tryz.isAgg460
 z218:=Tryz.sizeOf460
 v218:=Tryz.zeroValue460
 t222:=Tryz.underlying463
 a222:=Tryz.isAgg463
 z222:=Tryz.sizeOf463
 v222:=Tryz.zeroValue463
 t228:=Tryz.underlying485
 a228:=Tryz.isAgg485
 z228:=Tryz.sizeOf485
 v228:=Tryz.zeroValue485
 t229:=Tryz.underlying486
 a229:=Tryz.isAgg486
 z229:=Tryz.sizeOf486
 v229:=Tryz.zeroValue486}
open Go.Sort Go.RowKit in
theorem Tryz.slices_Sort_string(blk off cap:Nat)(ss:List (List UInt8))(w:World)(hH:Holds encStr w blk off ss.toArray)(hblk:blk<w.heap.size)(hsz:ss.length<4611686018427387904):
  Calls Tryz.prog 294 #[.slice (some ⟨blk,off,none⟩) ss.length cap] w fun e w'=>
   e= .returned (.tuple #[])∧ ∃n os,w'=grow (putRow encStr (Sort.ahead w n) blk off (ss.mergeSort fun x y=>decide (x≤y)).toArray) os:=Any.slices_Sort_string Tryz.lays190 blk off cap ss w hH hblk hsz
def Tryz.lays146_ren:Go.Shelf.Ren:=⟨fun|146=>43|221=>109|268=>193|138=>194|143=>195|195=>269|197=>270|218=>271|219=>272|260=>324|217=>325|225=>326|224=>327|267=>328|266=>355|314=>356|n=>n,fun|9=>9|31=>80|3=>3|4=>4|0=>0|105=>415|21=>21|5=>5|46=>362|119=>466|139=>469|138=>468|146=>470|51=>27|n=>n,fun|1=>1|3=>2|4=>3|n=>n⟩
theorem Tryz.lays146:Go.Proofs.Lays.n146 Tryz.prog Tryz.lays146_ren:={
 mixed:=by kernel_rfl
 f138:=Tryz.func194.trans (congrArg some (by kernel_rfl))
 f143:=Tryz.func195.trans (congrArg some (by kernel_rfl))
 f146:=Tryz.func43.trans (congrArg some (by kernel_rfl))
 f195:=Tryz.func269.trans (congrArg some (by kernel_rfl))
 f197:=Tryz.func270.trans (congrArg some (by kernel_rfl))
 f217:=Tryz.func325.trans (congrArg some (by kernel_rfl))
 f218:=Tryz.func271.trans (congrArg some (by kernel_rfl))
 f219:=Tryz.func272.trans (congrArg some (by kernel_rfl))
 f221:=Tryz.func109.trans (congrArg some (by kernel_rfl))
 f224:=Tryz.func327.trans (congrArg some (by kernel_rfl))
 f225:=Tryz.func326.trans (congrArg some (by kernel_rfl))
 f260:=Tryz.func324.trans (congrArg some (by kernel_rfl))
 f266:=Tryz.func355.trans (congrArg some (by kernel_rfl))
 f267:=Tryz.func328.trans (congrArg some (by kernel_rfl))
 f268:=Tryz.func193.trans (congrArg some (by kernel_rfl))
 f314:=Tryz.func356.trans (congrArg some (by kernel_rfl))
 t0:=Tryz.underlying0
 a0:=Tryz.isAgg0
 z0:=Tryz.sizeOf0
 v0:=Tryz.zeroValue0
 t3:=Tryz.underlying3
 a3:=Tryz.isAgg3
 z3:=Tryz.sizeOf3
 v3:=Tryz.zeroValue3
 t4:=Tryz.underlying4
 a4:=Tryz.isAgg4
 z4:=Tryz.sizeOf4
 v4:=Tryz.zeroValue4
 t5:=Tryz.underlying5
 a5:=Tryz.isAgg5
 z5:=Tryz.sizeOf5
 v5:=Tryz.zeroValue5
 t9:=Tryz.underlying9
 a9:=Tryz.isAgg9
 z9:=Tryz.sizeOf9
 v9:=Tryz.zeroValue9
 t21:=Tryz.underlying21
 a21:=Tryz.isAgg21
 z21:=Tryz.sizeOf21
 v21:=Tryz.zeroValue21
 t31:=Tryz.underlying80
 a31:=Tryz.isAgg80
 z31:=Tryz.sizeOf80
 v31:=Tryz.zeroValue80
 t46:=Tryz.underlying362
 a46:=Tryz.isAgg362
 z46:=Tryz.sizeOf362
 v46:=Tryz.zeroValue362
 t51:=Tryz.underlying27
 a51:=Tryz.isAgg27
 z51:=Tryz.sizeOf27
 v51:=Tryz.zeroValue27
 t105:=Tryz.underlying415
 a105:=Tryz.isAgg415
 z105:=Tryz.sizeOf415
 v105:=Tryz.zeroValue415
 t119:=Tryz.underlying466
 a119:=Tryz.isAgg466
 z119:=Tryz.sizeOf466
 t138:=Tryz.underlying468
 a138:=Tryz.isAgg468
 z138:=Tryz.sizeOf468
 v138:=Tryz.zeroValue468
 t139:=Tryz.underlying469
 a139:=Tryz.isAgg469
 z139:=Tryz.sizeOf469
 v139:=Tryz.zeroValue469
 t146:=Tryz.underlying470
 a146:=Tryz.isAgg470
 z146:=Tryz.sizeOf470
 v146:=Tryz.zeroValue470
 g1:=by kernel_rfl
 g3:=by kernel_rfl
 g4:=by kernel_rfl}
open Go.RowKit Go.Lib in
theorem Tryz.strings_Split(s sep:ByteArray)(m:Int)(w:World)(hs:s.size<4294967281)(hm:w.cell? ⟨1,0,none⟩=some (.int .i64 m))(h1:1≤sep.size):
  Calls Tryz.prog 43 #[.string s,.string sep] w fun e w'=>
   e= .returned (.slice (some ⟨w.heap.size,0,none⟩) (Lib.countB s sep+1) (Lib.countB s sep+1))∧w'=w.alloc (.cells ((Lib.splitB sep 0 (Lib.countB s sep) s).map Value.string).toArray 9):=Any.strings_Split Tryz.lays146 (by kernel_rfl) s sep m w hs hm h1
open Go.RowKit Go.Sort in
theorem Tryz.slices_Sort_string_none(p:Option Addr)(cap:Nat)(w:World):
  Calls Tryz.prog 294 #[.slice p 0 cap] w fun e w'=>e= .returned (.tuple #[])∧w'=w:=Any.slices_Sort_string_none Tryz.lays190 p cap w
end Go.Proofs
end

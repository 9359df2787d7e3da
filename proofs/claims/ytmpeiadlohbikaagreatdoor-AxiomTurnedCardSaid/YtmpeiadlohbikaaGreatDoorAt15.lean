/- Plain: lists that rise, insertion, adjacent duplicates. -/
import Derived.Test.YtmpeiadlohbikaaGreatDoorAt14
import Derived.Test.YtmpeiadlohbikaaGreatDoorProg
import Derived.Test.YtmpeiadlohbikaaGreatDoorAt3
section
set_option linter.unusedVariables false
set_option linter.unusedSimpArgs false
namespace Go.Proofs.YtmpeiadlohbikaaGreatDoor.V
open Go.RowKit
theorem mb{a b:Nat}(h:a≤1000000000)(hb:b≤100000):a*b≤140737488355328:=Nat.le_trans (Nat.mul_le_mul h hb) (by decide)
theorem DZ{P:Program}{f tE m by_:Nat}{fn:Go.Func}{ρf ρt:Nat→Nat}(hen:aF P f=true)(hf:P.funcs[f]? =some fn)(hb:fn.body=some (eM ρf ρt (cU Tryz.f79)))(hn:fn.ntmps=8)(hr:fn.results= #[.tmp 2])(hmx:P.follows .mixedOrders=true)
  {α:Type} [Inhabited α] {enc:α→List Value} (es:aq P (ρt 36)=some (tE,m)) (un:P.underlying (ρt 36)=some (.slice tE)) (i64:P.underlying (ρt 3)=some (.int .i64)) (zc:zeroCells P tE=some (enc default)) (hby:(P.info? tE).map (·.bytes)=some by_) (hbb:by_≤100000) (hm: ∀x,(enc x).length=m) (hm0:0<m) (hmB:m≤1000) (h1: ∀x,∀v∈enc x,v.oneCell'=true)
  (X:List Nat) (w:World) (hX:Lo X w) (s:List α) (A_s:Option Addr) (c_s:Nat) (h_s:hZ X w A_s s.length c_s m (s.flatMap enc)) (hs1:s.length≤1000000):
  Fn P f [.slice A_s s.length c_s] w fun v w'=> ∃(A':Option Addr) (c':Nat) (sp':List Value),v= .slice A' s.length c'∧Ow A' s.length c' m (s.flatMap enc) sp'∧St X w' [(ab A',Cl (s.flatMap enc++sp') tE)] []∧Fr ([]) w w'∧(∀k∈aQ [(ab A',Cl (s.flatMap enc++sp') tE)],k∈([])∨w.heap.size≤k):=by
 refine iE 8 hen hf hb hn rfl ?_;dsimp only[bS];have hbl:Nat.blt 0 m=true:=by simpa using hm0
 have st:=I7 hX h_s;have hF:=Fr.refl ([]) w;have z1:=(st.q 0 rfl).le;refine sq fun _ k1=>rg (dV rfl (Ln k1 (sq fun _ k2=>sq fun _ k3=>rg (Lm rfl (Ly rfl (Bg rfl rfl rfl un) (Ln k3 (cB rfl (fun hc1=>?_) (fun hc1=>?_))))))))
 ·refine sq fun _ k4=>rg (dV rfl (Ln k4 ?_));obtain⟨st,how1,hnew1⟩:=st.rowN enc hF m tE;have st:St _ _ [_] _:=st;have he1:s=([]:List α):=h_s.isNil hm0 (by simpa using hc1);subst he1;refine wR (jN (fR (iC hr rfl) ?_));exact⟨_,_,_,rfl,how1,(st.pk [0] (by decide)).pickK [],hF,lL hnew1 lK⟩
 refine sk k2 (sq fun _ k5=>rg (La rfl (UK (enc:=enc) es zc st hF rfl fun g1 w1 how2 hnew2 (st:St _ _ [_] _) hF=>Lm rfl (La rfl (OE (enc:=enc) ([]:List α) s 0 es zc hby hm h1 how2 hnew2 st hF (st.k (i:=0) rfl).rd.src (fun h=>by have:=(st.k (i:=0) rfl).rd;exact nh this h (st.k (i:=0) rfl).len hm0) (by rw[hm,hbl];rfl) (by simp;omega) (mb (by simp;omega) hbb) fun Aa1 ca1 sp1 w2 how3 hnew3 (st:St _ _ [_] _) hF=>?_)))));refine dV rfl (Ln k5 (wR (fR (iC hr rfl) ?_)));exact⟨_,_,_,rfl,how3,(st.pk [0] (by decide)).pickK [],hF,lL hnew3 lK⟩
theorem IH{P:Program}{f tE m by_:Nat}{fn:Go.Func}{ρf ρt:Nat→Nat}(hen:aF P f=true)(hf:P.funcs[f]? =some fn)(hb:fn.body=some (eM ρf ρt (cU Tryz.f153)))(hn:fn.ntmps=27)(hr:fn.results= #[.tmp 4])(hmx:P.follows .mixedOrders=true)
  {α:Type} [Inhabited α] {enc:α→List Value} (es:aq P (ρt 36)=some (tE,m)) (un:P.underlying (ρt 36)=some (.slice tE)) (i64:P.underlying (ρt 3)=some (.int .i64)) (zc:zeroCells P tE=some (enc default)) (hby:(P.info? tE).map (·.bytes)=some by_) (hbb:by_≤100000) (hm: ∀x,(enc x).length=m) (hm0:0<m) (hmB:m≤1000) (h1: ∀x,∀v∈enc x,v.oneCell'=true)
  (X:List Nat) (w:World) (hX:Lo X w) (n:Int) (hn0:0≤n) (hn1:n≤3000000):
  Fn P f [.slice none 0 0,.int .i64 n] w fun v w'=> ∃(A':Option Addr) (c':Nat) (sp':List Value),v= .slice A' ([]:List α).length c'∧Ow A' ([]:List α).length c' m (([]:List α).flatMap enc) sp'∧St X w' [(ab A',Cl (([]:List α).flatMap enc++sp') tE)] []∧Fr ([]) w w'∧(∀k∈aQ [(ab A',Cl (([]:List α).flatMap enc++sp') tE)],k∈([])∨w.heap.size≤k):=by
 refine iE 27 hen hf hb hn rfl ?_;dsimp only[bS];have st:=EF hX;have hF:=Fr.refl ([]) w;refine sq fun _ k1=>rg (dV rfl (Ln k1 (sq fun _ k2=>sq fun _ k3=>rg (Lm rfl (Ly rfl (y7 rfl) (Ln k3 ?_))))));have hd1: ¬(n<0):=by
  omega
 refine gj rfl (fun hc1=>absurd hc1 (by first|(simp[hd1];done)|(rw[hd1];simp;done)|simpa using hd1)) (fun _=>?_);refine sk k2 (sq fun _ k4=>sq fun _ k5=>rg (Lm rfl (Lm rfl (Ly rfl (wc rfl rfl un) (Lm rfl (Ly rfl (tx rfl un) (Ly rfl (oB (c:=0) rfl rfl rfl (by decide)) ?_)))))));refine Ly rfl (oB (c:=n - 0) rfl rfl rfl (bY (by first|omega|(simp;done)|(simp;omega)))) ?_;refine dV rfl (Ln k5 (sq fun _ k6=>rg (Lm rfl (Ly rfl (Sz rfl) (Ln k6 (cD rfl (fun hc2=>?_) (fun hc2=>?_)))))))
 ·refine rg (Lm rfl (Lm rfl (Ly rfl (wc rfl rfl un) (Ly rfl (ml (p:=0) (q:=0) rfl rfl es rfl rfl (by decide) (by decide) (by decide) (Nat.le_refl _)) ?_))));refine Lm rfl (La rfl (Ba (enc:=enc) (xs:=([]:List α)) (u:=(default:α)) (q:=n - 0) rfl rfl rfl rfl rfl (by simp;try omega) es i64 zc rfl hby hm hm0 Bc (fun _=>rfl) (by first|omega|(simp;done)|(simp;omega)) (by first|omega|(simp;done)|(simp;omega)) (by first|omega|(simp;done)|(simp;omega)) (mb (by simp;omega) hbb) st.hp (fun g1 ca1 sp1 w1 how1 (hp:Hp w1 [_]) hf hg1=>?_)));have st:St X w1 [_] []:=st.push hp hf hg1;have st:St X w1 [_] []:=st;have hg1:=Nat.le_trans hF.size hg1;have hF:=hF.step0 hf;have hnew1: ∀g,ab (some ⟨g1,0,none⟩)=some g→g∈([])∨w.heap.size≤g:=fun g hg=>by simp[ab]at hg;subst hg;exact .inr hg1
  refine Lm rfl (Ly rfl (tx rfl un) (Ly rfl (oY (enc:=enc) (xs:=([]:List α)++List.replicate (n - 0).toNat (default:α)) (q:=(0:Int)) rfl rfl rfl es rfl rfl (by first|omega|(simp;done)|(simp;omega)) (by first|omega|(simp;done)|(simp;omega)) how1) ?_));have how2:=Ow.cut (enc:=enc) (xs:=([]:List α)++List.replicate (n - 0).toNat (default:α)) hm how1 rfl (0:Int).toNat;have st:St X _ [_] []:=st.conv (i:=0) rfl (lA (0:Int).toNat);refine dV rfl (Ln k4 (sq fun _ k7=>rg (Lm rfl (dV rfl (Ln k7 (wR (fR (iC hr rfl) ?_)))))));exact⟨_,_,_,rfl,how2,(st.pk [0] (by decide)).pickK [],hF,lL hnew1 lK⟩
 refine sk k4 (sq fun _ k8=>rg (Lm rfl (dV rfl (Ln k8 ?_))));obtain⟨st,how3,hnew2⟩:=st.rowN enc hF m tE;have st:St _ _ [_] _:=st;refine wR (fR (iC hr rfl) ?_);exact⟨_,_,_,rfl,how3,(st.pk [0] (by decide)).pickK [],hF,lL hnew2 lK⟩
def iJ{α:Type}(s:List α)(i:Int)(vs:List α):List α:=s.take i.toNat++vs++s.drop i.toNat
theorem As{P:Program}{f tE m by_:Nat}{fn:Go.Func}{ρf ρt:Nat→Nat}(hen:aF P f=true)(hf:P.funcs[f]? =some fn)(hb:fn.body=some (eM ρf ρt (cU Tryz.f89)))(hn:fn.ntmps=95)(hr:fn.results= #[.tmp 6])(hmx:P.follows .mixedOrders=true)
  {α:Type} [Inhabited α] {enc:α→List Value} (es:aq P (ρt 35)=some (tE,m)) (un:P.underlying (ρt 35)=some (.slice tE)) (i64:P.underlying (ρt 3)=some (.int .i64)) (zc:zeroCells P tE=some (enc default)) (hby:(P.info? tE).map (·.bytes)=some by_) (hbb:by_≤100000) (hm: ∀x,(enc x).length=m) (hm0:0<m) (hmB:m≤1000) (h1: ∀x,∀v∈enc x,v.oneCell'=true)
  (X:List Nat) (w:World) (s:List α) (A_s:Option Addr) (c_s:Nat) (s2:List Value) (i:Int) (vs:List α) (A1:Option Addr) (C1:Nat) (s1:List Value) (hs:St X w [(ab A_s,Cl (s.flatMap enc++s2) tE),(ab A1,Cl (vs.flatMap enc++s1) tE)] []) (z6:Ow A_s s.length c_s m (s.flatMap enc) s2) (z5:Ow A1 vs.length C1 m (vs.flatMap enc) s1) (hv1:vs.length=1) (hi0:0≤i) (hi1:i≤s.length) (hs1:s.length≤1000000) {fo:Go.Func} (ovf:P.funcs[ρf 151]? =some fo) (ovn:(fo.name== "runtime.NumGoroutine")=false) (ovb:fo.body.isNone=true) (ovr:Extern.findNext fo=none) (ove:Extern.find fo=some (Extern.SlicesOverlaps.overlaps #[ρt 35,ρt 35] #[ρt 4])):
  Fn P f [.slice A_s s.length c_s,.int .i64 i,.slice A1 vs.length C1] w fun v w'=> ∃(A':Option Addr) (c':Nat) (sp':List Value),v= .slice A' (iJ s i vs).length c'∧Ow A' (iJ s i vs).length c' m ((iJ s i vs).flatMap enc) sp'∧St X w' [(ab A',Cl ((iJ s i vs).flatMap enc++sp') tE)] []∧Fr (aQ [(ab A_s,Cl (s.flatMap enc++s2) tE)]) w w'∧(∀k∈aQ [(ab A',Cl ((iJ s i vs).flatMap enc++sp') tE)],k∈(aQ [(ab A_s,Cl (s.flatMap enc++s2) tE)])∨w.heap.size≤k):=by
 refine iE 95 hen hf hb hn rfl ?_;dsimp only[bS];have hbl:Nat.blt 0 m=true:=by simpa using hm0
 have hs0:=hs;have st:St X w [(ab A_s,Cl (s.flatMap enc++s2) tE),(ab A1,Cl (vs.flatMap enc++s1) tE)] []:=hs;have z3: ∀g,ab A_s=some g→g∈(aQ [(ab A_s,Cl (s.flatMap enc++s2) tE)])∨w.heap.size≤g:=fun g hg=> .inl (by simp[aQ,hg]);have z4:=Ow.le z6;have z2:=Ow.le z5;have hF:=Fr.refl (aQ [(ab A_s,Cl (s.flatMap enc++s2) tE)]) w;refine sq fun _ k1=>rg (dV rfl (Ln k1 (sq fun _ k2=>rg (Lm rfl (Lm rfl ?_)))));have hlcu:=(Ow.lc z6).1;refine Ly rfl (ml (p:=i) (q:=(s.length:Int)) rfl rfl es rfl rfl (by first|omega|(simp;done)|(simp;omega)) (by first|omega|(simp;done)|(simp;omega)) (by first|omega|(simp;done)|(simp;omega)) hlcu) ?_;refine Ln k2 (sq fun _ k3=>rg (Lm rfl (Ly rfl (tx rfl un) (dV rfl (Ln k3 (sq fun _ k4=>sq fun _ k5=>rg (Lm rfl (Ly rfl (QQ rfl) (Ln k5 ?_)))))))));have hd1: ¬((vs.length:Int)=0):=by
  omega
 refine gj rfl (fun hc1=>absurd hc1 (by first|(simp[hd1];done)|(rw[hd1];simp;done)|simpa using hd1)) (fun _=>?_);refine sk k4 (sq fun _ k6=>rg (Lm rfl (Ly rfl (tx rfl un) (dV rfl (Ln k6 (sq fun _ k7=>sq fun _ k8=>rg (Lm rfl (Lm rfl (Ly rfl (QQ rfl) (Ln k8 (cE rfl (fun hc2=>?_) (fun hc2=>?_))))))))))))
 ·refine sq fun _ k9=>rg (Lm rfl (Lm rfl (La rfl (OE (enc:=enc) s vs 0 es zc hby hm h1 z6 z3 st hF (ER (i:=1) st.hp rfl z5) (uO z5) (by rw[hm,hbl];rfl) (by omega) (mb (by omega) hbb) fun Aa1 ca1 sp1 w1 how1 hnew1 (st:St _ _ [_,_] _) hF=>?_))));refine dV rfl (Ln k9 (wR (jN (fR (iC hr rfl) ?_))));have he1:iJ s i vs=(s++vs):=by
   unfold iJ;first|rfl|exact sZ s vs (by omega)|exact p7 s vs _ (by omega) (by omega) (by omega)
  rewrite[he1];exact⟨_,_,_,rfl,how1,(st.pk [0] (by decide)).pickK [],hF,lL hnew1 lK⟩
 refine sk k7 (sq fun _ xu=>sq fun _ AN=>rg (Lm rfl (Lm rfl (Ly rfl (dH (c:=(s.length:Int)+(vs.length:Int)) rfl rfl rfl (bY (by first|omega|(simp;done)|(simp;omega)))) ?_))));refine Lm rfl ?_;have hlcp:=Ow.lc z6;refine Ly rfl (wc rfl rfl un) (Ly rfl (Sz rfl) (Ln AN (cD rfl (fun hc3=>?_) (fun hc3=>?_))))
 ·refine sq fun _ AM=>rg (Lm rfl (Lm rfl ?_));obtain⟨gi1,egi1⟩:=(z6).some_ (by first|omega|(simp;done)|(simp;omega));subst egi1;have hlc1:=Ow.lc z6;have hlc1b:=hlc1;try simp only[List.length_append,List.length_take,List.length_drop,List.length_replicate]at hlc1b
  refine Ly rfl (jM (p:=(0:Int)) (q:=i) rfl rfl es rfl rfl (by first|omega|(simp;done)|(simp;omega)) (by first|omega|(simp;done)|(simp;omega)) (by first|omega|(simp;done)|(simp;omega)) (by first|omega|(simp;done)|(simp;omega)) (by first|omega|(simp;done)|(simp;omega))) ?_;refine Lm rfl (Lm rfl (Ly rfl (dH (c:=(s.length:Int)+(vs.length:Int)) rfl rfl rfl (bY (by first|omega|(simp;done)|(simp;omega)))) ?_));refine Lm rfl (Ly rfl (oB (c:=((s.length:Int)+(vs.length:Int))- i) rfl rfl rfl (bY (by first|omega|(simp;done)|(simp;omega)))) ?_);have hlcz:=Ow.lc z6;refine La rfl (Ba (enc:=enc) (xs:=s.take i.toNat) (u:=(default:α)) (q:=((s.length:Int)+(vs.length:Int))- i) rfl rfl rfl rfl rfl (by simp;try omega) es i64 zc rfl hby hm hm0 (Bb (i:=0) (enc:=enc) (xs:=s) hm st.hp rfl i.toNat) (fun h=>by cases h) (by first|omega|(simp;done)|(simp;omega)) (by first|omega|(simp;done)|(simp;omega)) (by first|omega|(simp;done)|(simp;omega)) (mb (by simp;omega) hbb) st.hp (fun g1 ca2 sp2 w2 how2 (hp:Hp w2 [_,_,_]) hf hg1=>?_));have st:St X w2 [_,_,_] []:=st.push hp hf hg1;have st:St X w2 [_,_,_] []:=st;have hg1:=Nat.le_trans hF.size hg1;have hF:=hF.step0 hf;have hnew2: ∀g,ab (some ⟨g1,0,none⟩)=some g→g∈(aQ [(ab (some ⟨gi1,0,none⟩),Cl (s.flatMap enc++s2) tE)])∨w.heap.size≤g:=fun g hg=>by simp[ab]at hg;subst hg;exact .inr hg1
  refine dV rfl (Ln AM (sq fun _ AW=>rg (Lm rfl (Lm rfl ?_))));have hlc2:=Ow.lc how2;have hlc2b:=hlc2;try simp only[List.length_append,List.length_take,List.length_drop,List.length_replicate]at hlc2b
  refine Ly rfl (jM (p:=i) (q:=(((s.take i.toNat)++List.replicate (((s.length:Int)+(vs.length:Int))- i).toNat (default:α)).length:Int)) rfl rfl es rfl rfl (by first|omega|(simp;done)|(simp;omega)) (by first|omega|(simp;done)|(simp;omega)) (by first|omega|(simp;done)|(simp;omega)) (by first|omega|(simp;done)|(simp;omega)) (by first|omega|(simp;done)|(simp;omega))) ?_;refine Lm rfl ?_;obtain⟨gi2,egi2⟩:=(z5).some_ (by first|omega|(simp;done)|(simp;omega));subst egi2;have hlcc:=Ow.lc how2;refine La rfl (xH (i:=2) (enc:=enc) (xs:=(s.take i.toNat)++List.replicate (((s.length:Int)+(vs.length:Int))- i).toNat (default:α)) (ys:=vs) (p:=i) rfl rfl rfl rfl rfl es hm hm0 h1 (by try simp only[show ∀a b:Nat,Nat.min a b=min a b from fun _ _=>rfl,List.length_drop,List.length_append,List.length_replicate,List.length_take];omega) (ry (i:=1) st.hp rfl) how2 rfl st.hp rfl (by simp;omega) (fun w3 how3 (hp:Hp w3 [_,_,_]) hf=>?_));have st:St X w3 [_,_,_] []:=st.set (i:=2) rfl hp hf;have st:St X w3 [_,_,_] []:=st;have hF:=hF.step hf (fun y hy=>hnew2 y (by simp at hy;subst hy;rfl));have hln1:(((s.take i.toNat)++List.replicate (((s.length:Int)+(vs.length:Int))- i).toNat (default:α)).take i.toNat++vs++((s.take i.toNat)++List.replicate (((s.length:Int)+(vs.length:Int))- i).toNat (default:α)).drop (i.toNat+vs.length)).length=((s.take i.toNat)++List.replicate (((s.length:Int)+(vs.length:Int))- i).toNat (default:α)).length:=by simp;omega
  refine Ln AW (sq fun _ AO=>?_);refine jS (fun W=>St X W (cx (Gz st) [0,1]) (Kz st)) [(true,0),(true,1),(true,2),(true,3),(true,4),(true,5),(true,6),(true,7),(false,8)] hmx (by kernel_rfl) (by kernel_rfl) rfl ((st.pk [0,1] (by decide)).drew) ?_;have st:=st.drew;have hF:=hF.step0 (Fr.drew _);refine Pm rfl (Pm rfl (Pm rfl (Py rfl (dH (c:=i+(vs.length:Int)) rfl rfl rfl (bY (by first|omega|(simp;done)|(simp;omega)))) ?_)));have hlc3:=Ow.lc how3;have hlc3b:=hlc3;try simp only[List.length_append,List.length_take,List.length_drop,List.length_replicate]at hlc3b
  refine Py rfl (jM (p:=i+(vs.length:Int)) (q:=(((s.take i.toNat)++List.replicate (((s.length:Int)+(vs.length:Int))- i).toNat (default:α)).length:Int)) rfl rfl es rfl rfl (by first|omega|(simp;done)|(simp;omega)) (by first|omega|(simp;done)|(simp;omega)) (by first|omega|(simp;done)|(simp;omega)) (by first|omega|(simp;done)|(simp;omega)) (by first|omega|(simp;done)|(simp;omega))) ?_;refine Pm rfl (Pm rfl ?_);have hlc4:=Ow.lc z6;have hlc4b:=hlc4;try simp only[List.length_append,List.length_take,List.length_drop,List.length_replicate]at hlc4b
  refine Py rfl (jM (p:=i) (q:=(s.length:Int)) rfl rfl es rfl rfl (by first|omega|(simp;done)|(simp;omega)) (by first|omega|(simp;done)|(simp;omega)) (by first|omega|(simp;done)|(simp;omega)) (by first|omega|(simp;done)|(simp;omega)) (by first|omega|(simp;done)|(simp;omega))) ?_;have hlcc:=Ow.lc how3;refine Jq rfl (fN rfl) (by rfl) ?_;refine xH (i:=2) (enc:=enc) (xs:=((s.take i.toNat)++List.replicate (((s.length:Int)+(vs.length:Int))- i).toNat (default:α)).take i.toNat++vs++((s.take i.toNat)++List.replicate (((s.length:Int)+(vs.length:Int))- i).toNat (default:α)).drop (i.toNat+vs.length)) (ys:=s.drop i.toNat) (p:=i+(vs.length:Int)) rfl rfl rfl rfl rfl es hm hm0 h1 (by try simp only[show ∀a b:Nat,Nat.min a b=min a b from fun _ _=>rfl,List.length_drop,List.length_append,List.length_replicate,List.length_take];omega) (we (i:=0) (enc:=enc) (xs:=s) hm st.hp rfl i.toNat) how3 (hln1).symm st.hp rfl (by simp;omega) (fun w4 how4 (hp:Hp w4 [_,_,_]) hf=>?_);have st:St X w4 [_,_,_] []:=st.set (i:=2) rfl hp hf;have st:St X w4 [_,_,_] []:=st;have hF:=hF.step hf (fun y hy=>hnew2 y (by simp at hy;subst hy;rfl));refine⟨(st.pk [0,1] (by decide)).tK 0,?_⟩;have hln2:((((s.take i.toNat)++List.replicate (((s.length:Int)+(vs.length:Int))- i).toNat (default:α)).take i.toNat++vs++((s.take i.toNat)++List.replicate (((s.length:Int)+(vs.length:Int))- i).toNat (default:α)).drop (i.toNat+vs.length)).take (i+(vs.length:Int)).toNat++(s.drop i.toNat)++(((s.take i.toNat)++List.replicate (((s.length:Int)+(vs.length:Int))- i).toNat (default:α)).take i.toNat++vs++((s.take i.toNat)++List.replicate (((s.length:Int)+(vs.length:Int))- i).toNat (default:α)).drop (i.toNat+vs.length)).drop ((i+(vs.length:Int)).toNat+(s.drop i.toNat).length)).length=((s.take i.toNat)++List.replicate (((s.length:Int)+(vs.length:Int))- i).toNat (default:α)).length:=by simp;omega
  refine mq (cz (AO _ _ (sq fun _ CL=>rg (Lm rfl (dV rfl (Ln CL (wR (jN (fR (iC hr rfl) ?_)))))))));have he2:iJ s i vs=((((s.take i.toNat)++List.replicate (((s.length:Int)+(vs.length:Int))- i).toNat (default:α)).take i.toNat++vs++((s.take i.toNat)++List.replicate (((s.length:Int)+(vs.length:Int))- i).toNat (default:α)).drop (i.toNat+vs.length)).take (i+(vs.length:Int)).toNat++(s.drop i.toNat)++(((s.take i.toNat)++List.replicate (((s.length:Int)+(vs.length:Int))- i).toNat (default:α)).take i.toNat++vs++((s.take i.toNat)++List.replicate (((s.length:Int)+(vs.length:Int))- i).toNat (default:α)).drop (i.toNat+vs.length)).drop ((i+(vs.length:Int)).toNat+(s.drop i.toNat).length)):=by
   unfold iJ;first|rfl|exact sZ s vs (by omega)|exact p7 s vs _ (by omega) (by omega) (by omega)
  rewrite[he2];exact⟨some ⟨g1,0,none⟩,ca2,sp2,by rw[hln2],by rw[hln2];exact how4,(st.pk [2] (by decide)).pickK [],hF,lL hnew2 lK⟩
 refine sk xu (sq fun _ Gp=>rg (Lm rfl (Lm rfl (Lm rfl (Ly rfl (dH (c:=(s.length:Int)+(vs.length:Int)) rfl rfl rfl (bY (by first|omega|(simp;done)|(simp;omega)))) ?_)))));obtain⟨gi3,egi3⟩:=(z6).some_ (by first|omega|(simp;done)|(simp;omega));subst egi3;have hlc5:=Ow.lc z6;have hlc5b:=hlc5;try simp only[List.length_append,List.length_take,List.length_drop,List.length_replicate]at hlc5b
 refine Ly rfl (Jc (q:=(s.length:Int)+(vs.length:Int)) rfl rfl es rfl (by first|omega|(simp;done)|(simp;omega)) (by first|omega|(simp;done)|(simp;omega)) (by first|omega|(simp;done)|(simp;omega)) (by first|omega|(simp;done)|(simp;omega))) ?_;refine dV rfl (Ln Gp (sq fun _ IX=>sq fun _ Fh=>rg (Lm rfl (Lm rfl (Lm rfl (Lm rfl (Ly rfl (dH (c:=i+(vs.length:Int)) rfl rfl rfl (bY (by first|omega|(simp;done)|(simp;omega)))) ?_)))))));have hlc6:=Ow.lc z6;have hlc6b:=hlc6;try simp only[List.length_append,List.length_take,List.length_drop,List.length_replicate]at hlc6b
 refine Ly rfl (jM (p:=i+(vs.length:Int)) (q:=(((s.length:Int)+(vs.length:Int)).toNat:Int)) rfl rfl es rfl rfl (by first|omega|(simp;done)|(simp;omega)) (by first|omega|(simp;done)|(simp;omega)) (by first|omega|(simp;done)|(simp;omega)) (by first|omega|(simp;done)|(simp;omega)) (by first|omega|(simp;done)|(simp;omega))) ?_;obtain⟨gi4,egi4⟩:=(z5).some_ (by first|omega|(simp;done)|(simp;omega));subst egi4;refine La rfl (wd (t:=ρt 35) (tR:=ρt 4) (i:=1) (j:=0) rfl rfl rfl ovf ovn ovb ovr ove es rfl st.hp rfl rfl (by decide) (by rw[List.length_append,bc (enc:=enc) (m:=m) hm];have:=Nat.mul_pos (show 0<s.length by omega) hm0;omega) ?_);refine Ly rfl (yn rfl) (Ln Fh (fW rfl (sq fun _ y8=>?_)));refine jS (fun W=>St X W (cx (Gz st) [1]) (Kz st)) [(true,0),(true,1),(true,2),(true,3),(true,4),(true,5),(true,6),(true,7),(false,8)] hmx (by kernel_rfl) (by kernel_rfl) rfl ((st.pk [1] (by decide)).drew) ?_;have st:=st.drew;have hF:=hF.step0 (Fr.drew _);refine Pm rfl (Pm rfl (Pm rfl (Py rfl (dH (c:=i+(vs.length:Int)) rfl rfl rfl (bY (by first|omega|(simp;done)|(simp;omega)))) ?_)));have hlc7:=Ow.lc z6;have hlc7b:=hlc7;try simp only[List.length_append,List.length_take,List.length_drop,List.length_replicate]at hlc7b
 refine Py rfl (jM (p:=i+(vs.length:Int)) (q:=(((s.length:Int)+(vs.length:Int)).toNat:Int)) rfl rfl es rfl rfl (by first|omega|(simp;done)|(simp;omega)) (by first|omega|(simp;done)|(simp;omega)) (by first|omega|(simp;done)|(simp;omega)) (by first|omega|(simp;done)|(simp;omega)) (by first|omega|(simp;done)|(simp;omega))) ?_;refine Pm rfl (Pm rfl ?_);have hlc8:=Ow.lc z6;have hlc8b:=hlc8;try simp only[List.length_append,List.length_take,List.length_drop,List.length_replicate]at hlc8b
 refine Py rfl (jM (p:=i) (q:=(((s.length:Int)+(vs.length:Int)).toNat:Int)) rfl rfl es rfl rfl (by first|omega|(simp;done)|(simp;omega)) (by first|omega|(simp;done)|(simp;omega)) (by first|omega|(simp;done)|(simp;omega)) (by first|omega|(simp;done)|(simp;omega)) (by first|omega|(simp;done)|(simp;omega))) ?_;refine Jq rfl (fN rfl) (by rfl) ?_;refine EH (j:=0) (enc:=enc) (xs:=s) (sp:=s2) (p:=i+(vs.length:Int)) (i:=i) (mm:=vs.length) rfl rfl rfl rfl rfl es hm h1 (by first|omega|(simp;done)|(simp;omega)) (by first|omega|(simp;done)|(simp;omega)) (by first|omega|(simp;done)|(simp;omega)) (by try simp only[show ∀a b:Nat,Nat.min a b=min a b from fun _ _=>rfl,List.length_drop,List.length_append,List.length_replicate,List.length_take];omega) st.hp rfl (Ow.room z6 (by first|omega|(simp;done)|(simp;omega))) (fun hole1 w5 hhole1 (hp:Hp w5 [_,_]) hf=>?_);have st:St X w5 [_,_] []:=st.set (i:=0) rfl hp hf;have st:St X w5 [_,_] []:=st;have hF:=hF.step hf (fun y hy=>z3 y (by simp at hy;subst hy;rfl));refine⟨(st.pk [1] (by decide)).tK 0,?_⟩;refine mq (cz (y8 _ _ (sq fun _ CN=>rg (Lm rfl (Lm rfl ?_)))));have hlc9:=Ow.lc z6;have hlc9b:=hlc9;try simp only[List.length_append,List.length_take,List.length_drop,List.length_replicate]at hlc9b
 refine Ly rfl (jM (p:=i) (q:=(((s.length:Int)+(vs.length:Int)).toNat:Int)) rfl rfl es rfl rfl (by first|omega|(simp;done)|(simp;omega)) (by first|omega|(simp;done)|(simp;omega)) (by first|omega|(simp;done)|(simp;omega)) (by first|omega|(simp;done)|(simp;omega)) (by first|omega|(simp;done)|(simp;omega))) ?_;refine Lm rfl (La rfl (Jb (j:=0) (enc:=enc) (ys:=vs) (i:=i) rfl rfl rfl rfl rfl es hm h1 (by try simp only[show ∀a b:Nat,Nat.min a b=min a b from fun _ _=>rfl,List.length_drop,List.length_append,List.length_replicate,List.length_take];omega) (ry (i:=1) st.hp rfl) st.hp rfl (by rw[bc (enc:=enc) (m:=m) hm,List.length_take];congr 1;omega) (by rw[hhole1]) (fun w6 (hp:Hp w6 _) hf=>?_)));have st:St X w6 _ []:=st.set (i:=0) rfl hp hf;have hF:=hF.step hf (fun y hy=>z3 y (by simp at hy;subst hy;rfl));have hln3:(s.take i.toNat++vs++s.drop i.toNat).length=(s.length+vs.length):=by simp;omega
 have how5:=Ow.ins (enc:=enc) (s:=s) (i:=i.toNat) (v:=vs) hm z6 rfl (by omega) (by omega);have hln4:(s.take i.toNat++vs++s.drop i.toNat).length=((s.length:Int)+(vs.length:Int)).toNat:=by simp;omega
 rewrite[hln4]at how5;have st:St X w6 [_,_] []:=st.conv (i:=0) rfl (by simp:_=(s.take i.toNat++vs++s.drop i.toNat).flatMap enc++(s2.drop (vs.length*m)));refine Ln CN (sq fun _ Fg=>rg (Lm rfl (dV rfl (Ln Fg (wR (jN (fR (iC hr rfl) ?_)))))));have he3:iJ s i vs=(s.take i.toNat++vs++s.drop i.toNat):=by
  unfold iJ;first|rfl|exact sZ s vs (by omega)|exact p7 s vs _ (by omega) (by omega) (by omega)
 rewrite[he3];exact⟨some ⟨gi3,0,none⟩,c_s,(s2.drop (vs.length*m)),by rw[hln4],by rw[hln4];exact how5,(st.pk [0] (by decide)).pickK [],hF,lL z3 lK⟩
theorem yi{P:Program}{fi tE m by_:Nat}{fn:Go.Func}{ρf ρt:Nat→Nat}(hen:aF P fi=true)(hf:P.funcs[fi]? =some fn)(hb:fn.body=some (eM ρf ρt (cU Tryz.f90)))(hn:fn.ntmps=36)(hr:fn.results= #[.tmp 2])(hmx:P.follows .mixedOrders=true)
  {α:Type} [Inhabited α] {enc:α→List Value} (es:aq P (ρt 36)=some (tE,m)) (un:P.underlying (ρt 36)=some (.slice tE)) (i64:P.underlying (ρt 3)=some (.int .i64)) (zc:zeroCells P tE=some (enc default)) (hby:(P.info? tE).map (·.bytes)=some by_) (hbb:by_≤100000) (hm: ∀x,(enc x).length=m) (hm0:0<m) (hmB:m≤1000) (h1: ∀x,∀v∈enc x,v.oneCell'=true)
  (X:List Nat) (w:World) (hX:Lo X w) (l1:List α) (A1:Option Addr) (C1:Nat) (l2:List α) (A2:Option Addr) (C2:Nat) (A_l:Option Addr) (c_l:Nat) (z5:hZ X w A1 l1.length C1 m (l1.flatMap enc)) (z6:hZ X w A2 l2.length C2 m (l2.flatMap enc)) (h_l:hZ X w A_l ([.slice A1 l1.length C1,.slice A2 l2.length C2]:List Value).length c_l 1 (([.slice A1 l1.length C1,.slice A2 l2.length C2]:List Value).flatMap (fun v:Value=> [v]))) (hl1:l1.length≤1000000) (hl2:l2.length≤1000000) {tS:Nat} (es2:aq P (ρt 249)=some (ρt 36,1)) (un2:P.underlying (ρt 249)=some (.slice (ρt 36))) (pl:dG P (ρt 36)=true)
  (hgr: ∀(X:List Nat) (w:World) (hX:Lo X w) (n:Int) (hn0:0≤n) (hn1:n≤3000000),Fn P (ρf 153) [.slice none 0 0,.int .i64 n] w fun v w'=> ∃(A':Option Addr) (c':Nat) (sp':List Value),v= .slice A' ([]:List α).length c'∧Ow A' ([]:List α).length c' m (([]:List α).flatMap enc) sp'∧St X w' [(ab A',Cl (([]:List α).flatMap enc++sp') tE)] []∧Fr ([]) w w'∧(∀k∈aQ [(ab A',Cl (([]:List α).flatMap enc++sp') tE)],k∈([])∨w.heap.size≤k)):
  Fn P fi [.slice A_l (([.slice A1 l1.length C1,.slice A2 l2.length C2]:List Value).length) c_l] w fun v w'=> ∃(A':Option Addr) (c':Nat) (sp':List Value),v= .slice A' ((l1++l2)).length c'∧Ow A' ((l1++l2)).length c' m (((l1++l2)).flatMap enc) sp'∧St X w' [(ab A',Cl (((l1++l2)).flatMap enc++sp') tE)] []∧Fr ([]) w w'∧(∀k∈aQ [(ab A',Cl (((l1++l2)).flatMap enc++sp') tE)],k∈([])∨w.heap.size≤k):=by
 refine iE 36 hen hf hb hn rfl ?_;dsimp only[bS];have hbl:Nat.blt 0 m=true:=by simpa using hm0
 have st:=QV hX z5 z6 h_l;have hF:=Fr.refl ([]) w;have z1:=(st.q 0 rfl).le;have z2:=(st.q 1 rfl).le;have z4:=(st.q 2 rfl).le;refine sq fun _ k1=>rg (dV rfl (Ln k1 (sq fun _ k2=>rg (dV rfl (Ln k2 (sq fun _ k3=>sq fun _ k4=>rg (Lm rfl (Ly rfl (qk (l:=2) rfl rfl un2) (Lm rfl (Ln k4 (bv (rA 3 (jr (sq fun _ k5=>rg (Ly rfl (xP rfl rfl rfl (by decide)) ?_)))))))))))))));refine Ln k5 (sq fun _ k6=>fW rfl (sk k6 (sq fun _ k7=>bv (sq fun _ k8=>rg ?_))));obtain⟨gi1,bi1,egi1⟩:=(st.k (i:=2) rfl).addr (fun _=>rfl) (by decide) (q:=0) (by first|omega|(simp;done)|(simp;omega)) (by first|omega|(simp;done)|(simp;omega));subst egi1;refine Ly rfl (fG (q:=0) rfl rfl rfl es2 (by first|omega|(simp;done)|(simp;omega)) (by first|omega|(simp;done)|(simp;omega))) ?_;refine Ly rfl (jQ (v:= .slice A1 l1.length C1) (enc:=(fun v:Value=> [v])) (l:=([.slice A1 l1.length C1,.slice A2 l2.length C2]:List Value)) (q:=0) 0 rfl rfl pl (fun _ e=>e▸st.k (i:=2) rfl) (fun _=>rfl) (by first|omega|(simp;done)|(simp;omega)) (by first|omega|(simp;done)|(simp;omega)) rfl) ?_;refine dV rfl (Ln k8 (sq fun _ k9=>rg (Lm rfl (Lm rfl (Ly rfl (tx rfl un) (Ly rfl (dH (c:=0+(l1.length:Int)) rfl rfl rfl (bY (by first|omega|(simp;done)|(simp;omega)))) ?_))))));refine dV rfl (Ln k9 (sq fun _ xu=>rg (Lm rfl (Ly rfl (y7 rfl) (Ln xu ?_)))));have hd1: ¬((0+(l1.length:Int))<0):=by
  omega
 refine gj rfl (fun hc1=>absurd hc1 (by first|(simp[hd1];done)|(rw[hd1];simp;done)|simpa using hd1)) (fun _=>?_);refine dW (lJ (cz (k7 _ _ (rg (Ly rfl (dH (c:=1) rfl rfl rfl (by decide)) ?_)))));refine Lm rfl (cw (cz (jr (sq fun _ AN=>rg (Ly rfl (xP rfl rfl rfl (by decide)) ?_)))));refine Ln AN (sq fun _ AM=>fW rfl (sk AM (sq fun _ AW=>bv (sq fun _ AO=>rg (Ly rfl (fG (q:=1) rfl rfl rfl es2 (by first|omega|(simp;done)|(simp;omega)) (by first|omega|(simp;done)|(simp;omega))) ?_)))));refine Ly rfl (jQ (v:= .slice A2 l2.length C2) (enc:=(fun v:Value=> [v])) (l:=([.slice A1 l1.length C1,.slice A2 l2.length C2]:List Value)) (q:=1) 0 rfl rfl pl (fun _ e=>e▸st.k (i:=2) rfl) (fun _=>rfl) (by first|omega|(simp;done)|(simp;omega)) (by first|omega|(simp;done)|(simp;omega)) rfl) ?_;refine dV rfl (Ln AO (sq fun _ CL=>rg (Lm rfl (Lm rfl (Ly rfl (tx rfl un) (Ly rfl (dH (c:=(0+(l1.length:Int))+(l2.length:Int)) rfl rfl rfl (bY (by first|omega|(simp;done)|(simp;omega)))) ?_))))));refine dV rfl (Ln CL (sq fun _ Gp=>rg (Lm rfl (Ly rfl (y7 rfl) (Ln Gp ?_)))));have hd2: ¬(((0+(l1.length:Int))+(l2.length:Int))<0):=by
  omega
 refine gj rfl (fun hc2=>absurd hc2 (by first|(simp[hd2];done)|(rw[hd2];simp;done)|simpa using hd2)) (fun _=>?_);refine dW (lJ (cz (AW _ _ (rg (Ly rfl (dH (c:=2) rfl rfl rfl (by decide)) ?_)))));refine Lm rfl (cw (cz (jr (sq fun _ IX=>rg (Ly rfl (GC rfl rfl rfl (by decide)) ?_)))));refine Ln IX (sq fun _ Fh=>ib rfl (fH (jt (jt (iy (cz (k3 _ _ (sq fun _ y8=>rg (Lm rfl (La rfl (wl rfl rfl rfl rfl (hgr (aQ (Gz st)++X) _ st.Lo ((0+(l1.length:Int))+(l2.length:Int)) (by omega) (by omega)) (fun v w1 ⟨Ao1,co1,spo1,hv,how1,hN1,hfO1,hkc1⟩=>?_))))))))))));subst hv;have hnew1: ∀g,ab Ao1=some g→g∈([])∨w.heap.size≤g:=fun g hg=>(hkc1 g (by simp[aQ,hg])).elim (fun h=>by simp at h) (fun h=> .inr (Nat.le_trans hF.size h));have st:=st.callN hN1 hfO1 (fun k hk=>(hkc1 k hk).elim (fun h=>by simp at h) id);have hF:=hF.step0 hfO1;have z3:=Ow.le how1;have st:St X w1 [_] [_,_,_]:=st;refine dV rfl (Ln y8 (sq fun _ CN=>sq fun _ Fg=>rg (Lm rfl (Ly rfl (qk (l:=2) rfl rfl un2) (Lm rfl (Ln Fg (bv (rA 3 (jr (sq fun _ O2=>rg (Ly rfl (xP rfl rfl rfl (by decide)) ?_)))))))))));refine Ln O2 (sq fun _ O3=>fW rfl (sk O3 (sq fun _ MN=>bv (sq fun _ OG=>rg (Ly rfl (fG (q:=0) rfl rfl rfl es2 (by first|omega|(simp;done)|(simp;omega)) (by first|omega|(simp;done)|(simp;omega))) ?_)))));refine Ly rfl (jQ (v:= .slice A1 l1.length C1) (enc:=(fun v:Value=> [v])) (l:=([.slice A1 l1.length C1,.slice A2 l2.length C2]:List Value)) (q:=0) 0 rfl rfl pl (fun _ e=>e▸st.k (i:=2) rfl) (fun _=>rfl) (by first|omega|(simp;done)|(simp;omega)) (by first|omega|(simp;done)|(simp;omega)) rfl) ?_;refine dV rfl (Ln OG (rg (Lm rfl (Lm rfl (La rfl (OE (enc:=enc) (([]:List α)) l1 0 es zc hby hm h1 how1 hnew1 st hF (st.k (i:=0) rfl).rd.src (fun h=>by have:=(st.k (i:=0) rfl).rd;exact nh this h (st.k (i:=0) rfl).len hm0) (by rw[hm,hbl];rfl) (by simp;omega) (mb (by simp;omega) hbb) fun Aa1 ca1 sp1 w2 how2 hnew2 (st:St _ _ [_] _) hF=>?_))))));refine dV rfl (cw (lJ (cz (MN _ _ (rg (Ly rfl (dH (c:=1) rfl rfl rfl (by decide)) ?_))))));refine Lm rfl (cw (cz (jr (sq fun _ P5=>rg (Ly rfl (xP rfl rfl rfl (by decide)) ?_)))));refine Ln P5 (sq fun _ Kx=>fW rfl (sk Kx (sq fun _ IV=>bv (sq fun _ Oz=>rg (Ly rfl (fG (q:=1) rfl rfl rfl es2 (by first|omega|(simp;done)|(simp;omega)) (by first|omega|(simp;done)|(simp;omega))) ?_)))));refine Ly rfl (jQ (v:= .slice A2 l2.length C2) (enc:=(fun v:Value=> [v])) (l:=([.slice A1 l1.length C1,.slice A2 l2.length C2]:List Value)) (q:=1) 0 rfl rfl pl (fun _ e=>e▸st.k (i:=2) rfl) (fun _=>rfl) (by first|omega|(simp;done)|(simp;omega)) (by first|omega|(simp;done)|(simp;omega)) rfl) ?_;refine dV rfl (Ln Oz (rg (Lm rfl (Lm rfl (La rfl (OE (enc:=enc) ((([]:List α))++l1) l2 0 es zc hby hm h1 how2 hnew2 st hF (st.k (i:=1) rfl).rd.src (fun h=>by have:=(st.k (i:=1) rfl).rd;exact nh this h (st.k (i:=1) rfl).len hm0) (by rw[hm,hbl];rfl) (by simp;omega) (mb (by simp;omega) hbb) fun Aa2 ca2 sp2 w3 how3 hnew3 (st:St _ _ [_] _) hF=>?_))))));refine dV rfl (cw (lJ (cz (IV _ _ (rg (Ly rfl (dH (c:=2) rfl rfl rfl (by decide)) ?_))))));refine Lm rfl (cw (cz (jr (sq fun _ OA=>rg (Ly rfl (GC rfl rfl rfl (by decide)) ?_)))));refine Ln OA (sq fun _ Sj=>ib rfl (fH (jt (jt (iy (cz (CN _ _ (sq fun _ P4=>rg (Lm rfl (dV rfl (Ln P4 (wR (fR (iC hr rfl) ?_)))))))))))));exact⟨_,_,_,rfl,how3,(st.pk [0] (by decide)).pickK [],hF,lL hnew3 lK⟩
end Go.Proofs.YtmpeiadlohbikaaGreatDoor.V
end

section
set_option linter.unusedVariables false
set_option linter.unusedSimpArgs false
namespace Go.Proofs.YtmpeiadlohbikaaGreatDoor.V
open Go.RowKit
theorem At{α:Type} [Inhabited α](l:List α){j:Int}(h0:0≤j)(h1:j<l.length):l.drop j.toNat=ix l j::l.drop (j+1).toNat:=by
 have hl:j.toNat<l.length:=by omega
 rw[List.drop_eq_getElem_cons hl,show(j+1).toNat=j.toNat+1 by omega];unfold ix;rw[List.getElem?_eq_getElem hl];rfl
theorem uh{α:Type}(l:List α){i j:Int}(v:α)(h0:0≤i)(h:i<j):(l.set i.toNat v).drop j.toNat=l.drop j.toNat:=List.drop_set_of_lt (by omega)
theorem qM{α:Type}(l:List α){i:Int}(v:α)(h0:0≤i)(h1:i<l.length):(l.set i.toNat v).take (i+1).toNat=l.take i.toNat++ [v]:=by
 have hl:i.toNat<l.length:=by omega
 rw[show(i+1).toNat=i.toNat+1 by omega,List.take_add_one,List.take_set_of_le (Nat.le_refl _),List.getElem?_set_self hl];rfl
def dn{α:Type} [Inhabited α](s:List α)(f:α→Bool):Nat→Int→(Int)⊕(Int)
 |0,s8=> .inr (s8)
 |fuel+1,s8=>
  if s8<(s.length:Int)then
   if(f (ix s s8))=true then
    .inl s8
   else
    dn s f fuel (s8+1)
  else
   .inr (s8)
def aP{α:Type} [Inhabited α](s:List α)(f:α→Bool):Int:=
 match dn s f (((s.length:Int)-(0:Int)).toNat+1) (0:Int)with
 | .inl r=>r
 | .inr (s8)=>
  (-1)
theorem ko{α:Type} [Inhabited α](s:List α)(f:α→Bool): ∀(fuel:Nat) (i:Int),0≤i→((s.length:Int)- i).toNat<fuel→(∃k:Int,dn s f fuel i= .inl k∧i≤k∧k<s.length∧f (ix s k)=true∧ ∀j:Int,i≤j→j<k→f (ix s j)=false)∨((∃q,dn s f fuel i= .inr q)∧ ∀j:Int,i≤j→j<s.length→f (ix s j)=false)
 |0,i,_,h=>by omega
 |fuel+1,i,h0,h=>by
  unfold dn;split
  ·rename_i h1;split
   ·rename_i h2;exact .inl ⟨i,rfl,by omega,h1,h2,fun j _ _=>by omega⟩
   ·rename_i h2;have h2:f (ix s i)=false:=by simpa using h2
    rcases ko s f fuel (i+1) (by omega) (by omega)with⟨k,a,b,c,d,e⟩|⟨a,b⟩
    ·refine .inl ⟨k,a,by omega,c,d,fun j hj hk=>?_⟩;by_cases e2:j=i
     ·subst e2;exact h2
     ·exact e j (by omega) hk
    ·refine .inr ⟨a,fun j hj hk=>?_⟩;by_cases e2:j=i
     ·subst e2;exact h2
     ·exact b j (by omega) hk
  ·exact .inr ⟨⟨_,rfl⟩,fun j _ _=>by omega⟩
theorem jG{α:Type} [Inhabited α](s:List α)(f:α→Bool):(0≤aP s f∧aP s f<s.length∧f (ix s (aP s f))=true∧ ∀j:Int,0≤j→j<aP s f→f (ix s j)=false)∨(aP s f= -1∧ ∀j:Int,0≤j→j<s.length→f (ix s j)=false):=by
 unfold aP;rcases ko s f (((s.length:Int)-(0:Int)).toNat+1) 0 (by omega) (by omega)with⟨k,a,b,c,d,e⟩|⟨⟨q,a⟩,b⟩
 ·rw[a];exact .inl ⟨b,c,d,e⟩
 ·rw[a];exact .inr ⟨rfl,b⟩
theorem yj{α:Type} [Inhabited α]{s:List α}{f:α→Bool}(h: ¬aP s f= -1):0≤aP s f∧aP s f<s.length:=by
 rcases jG s f with⟨a,b,_⟩|⟨a,_⟩
 ·exact⟨a,b⟩
 ·exact absurd a h
def db{α:Type} [Inhabited α](s:List α)(del:α→Bool):Nat→Int→Int→(List α)→((List α))⊕(Int×Int×(List α))
 |0,s5,s6,r0=> .inr (s5,s6,r0)
 |fuel+1,s5,s6,r0=>
  if s6<(s.length:Int)then
   if(del (ix r0 s6))=true then
    db s del fuel s5 (s6+1) r0
   else
    db s del fuel (s5+1) (s6+1) (r0.set s5.toNat (ix r0 s6))
  else
   .inr (s5,s6,r0)
def ep{α:Type} [Inhabited α](s:List α)(del:α→Bool):(List α):=
 if(aP s del)=(-1)then
  s
 else
  match db s del (((s.length:Int)-((aP s del)+1)).toNat+1) (aP s del) ((aP s del)+1) s with
  | .inl r=>r
  | .inr (s5,s6,r0)=>
   (r0.take s5.toNat++List.replicate (r0.length - s5.toNat) default).take s5.toNat
theorem gM{α:Type} [Inhabited α](s:List α)(del:α→Bool): ∀(fuel:Nat) (i j:Int) (r:List α),0≤i→i<j→j≤s.length→r.length=s.length→((s.length:Int)- j).toNat<fuel→
  ∃i' r' j',db s del fuel i j r= .inr (i',j',r')∧r'.length=s.length∧0≤i'∧i'≤s.length∧r'.take i'.toNat=r.take i.toNat++(r.drop j.toNat).filter (fun x=>!del x)
 |0,i,j,r,_,_,_,_,h=>by omega
 |fuel+1,i,j,r,h0,h1,h2,hr,h=>by
  unfold db;split
  ·rename_i hj;have hd:=At r (j:=j) (by omega) (by omega);split
   ·rename_i hdel;obtain⟨i',r',j',a,b,c,c2,d⟩:=gM s del fuel i (j+1) r h0 (by omega) (by omega) hr (by omega);refine⟨i',r',j',a,b,c,c2,?_⟩;rw[d,hd,List.filter_cons_of_neg (by simp[hdel])]
   ·rename_i hdel;obtain⟨i',r',j',a,b,c,c2,d⟩:=gM s del fuel (i+1) (j+1) (r.set i.toNat (ix r j)) (by omega) (by omega) (by omega) (by simpa using hr) (by omega);refine⟨i',r',j',a,b,c,c2,?_⟩;rw[d,qM r _ h0 (by omega),uh r _ h0 (by omega),hd,List.filter_cons_of_pos (by simpa using hdel)];simp
  ·have:j=s.length:=by omega
   subst this;refine⟨i,r,_,rfl,hr,h0,by omega,?_⟩;rw[List.drop_of_length_le (by omega)];simp
theorem vP{α:Type} [Inhabited α](s:List α)(del:α→Bool):ep s del=s.filter (fun x=>!del x):=by
 unfold ep;rcases jG s del with⟨a,b,c,d⟩|⟨a,b⟩
 ·rw[if_neg (by omega)];obtain⟨i',r',j',e1,e2,e3,e4,e5⟩:=gM s del (((s.length:Int)-(aP s del+1)).toNat+1) (aP s del) (aP s del+1) s a (by omega) (by omega) rfl (by omega);rw[e1];simp only;rw[List.take_append_of_le_length (by rw[List.length_take];omega),List.take_take,Nat.min_self,e5];have hs:s=s.take (aP s del).toNat++ix s (aP s del)::s.drop (aP s del+1).toNat:=by
   rw[←At s a b,List.take_append_drop]
  have h1:(s.take (aP s del).toNat).filter (fun x=>!del x)=s.take (aP s del).toNat:=by
   rw[List.filter_eq_self];intro x hx;obtain⟨k,hk⟩:=List.getElem?_of_mem hx;rw[List.getElem?_take]at hk;split at hk
   ·rename_i hlt;have:=d (k:Int) (by omega) (by omega);unfold ix at this;rw[Int.toNat_natCast,hk]at this;simpa using this
   ·cases hk
  generalize hk:aP s del=k at*;have h2:s.filter (fun x=>!del x)=(s.take k.toNat++ix s k::s.drop (k+1).toNat).filter (fun x=>!del x):=by rw[←hs]
  rw[h2,List.filter_append,h1,List.filter_cons_of_neg (by simp[c])]
 ·rw[if_pos a];symm;rw[List.filter_eq_self];intro x hx;obtain⟨k,hk⟩:=List.getElem?_of_mem hx;have hl:k<s.length:=(List.getElem?_eq_some_iff.1 hk).1;have:=b (k:Int) (by omega) (by omega);unfold ix at this;rw[Int.toNat_natCast,hk]at this;simpa using this
theorem sB{P:Program}{fi tE m by_:Nat}{fn:Go.Func}{ρf ρt:Nat→Nat}(hen:aF P fi=true)(hf:P.funcs[fi]? =some fn)(hb:fn.body=some (eM ρf ρt (cU Tryz.f155)))(hn:fn.ntmps=19)(hr:fn.results= #[.tmp 4])(hmx:P.follows .mixedOrders=true)
  {α:Type} [Inhabited α] {enc:α→List Value} (es:aq P (ρt 35)=some (tE,m)) (un:P.underlying (ρt 35)=some (.slice tE)) (i64:P.underlying (ρt 3)=some (.int .i64)) (zc:zeroCells P tE=some (enc default)) (hby:(P.info? tE).map (·.bytes)=some by_) (hbb:by_≤100000) (hm: ∀x,(enc x).length=m) (hm0:0<m) (hmB:m≤1000) (h1: ∀x,∀v∈enc x,v.oneCell'=true)
  (X:List Nat) (w:World) (hX:Lo X w) (s:List α) (A_s:Option Addr) (c_s:Nat) (f1:Value) (f:α→Bool) (h_s:hZ X w A_s s.length c_s m (s.flatMap enc)) (z2: ∀(w1:World) (x0:α),Fr ([]) w w1→pZ P f1 [.agg (enc x0).toArray] w1 fun v w2=>v= .bool (f x0)∧Fr [] w1 w2) (hE:tE=ρt 128) (ag:ba P tE=some m) (sz:(P.info? tE).map (·.size)=some m):
  Fn P fi [.slice A_s s.length c_s,f1] w fun v w'=>v= .int .i64 (aP s f)∧Fr [] w w':=by
 refine iE 19 hen hf hb hn rfl ?_;dsimp only[bS];subst hE;have st:=I7 hX h_s;have hF:=Fr.refl ([]) w;have z1:=(st.q 0 rfl).le;refine sq fun _ k1=>rg (dV rfl (Ln k1 (sq fun _ k2=>sq fun _ k3=>rg (Lm rfl (Ly rfl (tx rfl un) (Lm rfl (Ln k3 (bv (lp (fun q E W=> ∃(s8:Int),E= [(0,.slice A_s s.length c_s),(1,f1),(7,.int .i64 (s.length:Int)),(8,.int .i64 s8)]∧jq q (fun m=>(dn s f m s8=dn s f (((s.length:Int)-(0:Int)).toNat+1) (0:Int)∧((s.length:Int)- s8).toNat<m)) (dn s f (((s.length:Int)-(0:Int)).toNat+1) (0:Int)= .inr (s8))∧(0≤s8)∧St X W [] [kS A_s s.length c_s m (s.flatMap enc)]∧Fr ([]) w W) (((s.length:Int)-(0:Int)).toNat+1) [(0,_),(1,_),(7,_),(8,_)] ⟨rfl,rfl,rfl,rfl,trivial⟩ ⟨_,rfl,⟨rfl,Nat.lt_succ_self _⟩,by first|omega|(simp;done)|(simp;omega),st,hF⟩ k2 ?_ fun hout1=>?_)))))))))
 ·rintro E w1 ⟨s8,rfl,hLk1,hinv,st,hF⟩;unfold jq at hLk1;dsimp only at hLk1;refine sq fun _ k4=>rg (dV rfl (Ln k4 (wR (fR (iC hr rfl) ?_))));unfold aP;rewrite[hLk1];(try dsimp only);exact⟨rfl,hF⟩
 rintro m E w2 ⟨s8,rfl,⟨hL1,hmu⟩,hinv,st,hF⟩;obtain⟨fuel,rfl⟩: ∃q,m=q+1:=⟨m - 1,by omega⟩;refine sq fun _ k5=>rg (Ly rfl (y7 rfl) (Ln k5 (sq fun _ k6=>cD rfl (fun hc1=>?_) (fun hc1=>?_))))
 ·refine sk k6 (sq fun _ k7=>bv (sq fun _ k8=>rg (Lm rfl (dV rfl (Ln k8 (sq fun _ k9=>rg (Lm rfl (Lm rfl (Lm rfl ?_)))))))));obtain⟨gi1,bi1,egi1⟩:=(st.k (i:=0) rfl).addr hm hm0 (q:=s8) (by first|omega|(simp;done)|(simp;omega)) (by first|omega|(simp;done)|(simp;omega));subst egi1;refine Ly rfl (fG (q:=s8) rfl rfl rfl es (by first|omega|(simp;done)|(simp;omega)) (by first|omega|(simp;done)|(simp;omega))) ?_;refine Ly rfl (oA (q:=s8) rfl rfl ag (fun _ e=>e▸st.k (i:=0) rfl) hm (by first|omega|(simp;done)|(simp;omega)) (by first|omega|(simp;done)|(simp;omega))) ?_;refine La rfl (QR st hF rfl (z2 _ (ix s s8) hF) fun w3 st hF=>Ln k9 (cB rfl (fun hc2=>?_) (fun hc2=>?_)))
  ·refine sq fun _ xu=>rg (Lm rfl (dV rfl (Ln xu (wR (uL (jN (jN (uL (jN (fR (iC hr rfl) ?_))))))))));have hret1:dn s f (((s.length:Int)-(0:Int)).toNat+1) (0:Int)= .inl s8:=by rewrite[←hL1,dn];rewrite[if_pos hc1,if_pos hc2];rfl
   have he2:aP s f=s8:=by unfold aP;rewrite[hret1];(try dsimp only);all_goals rfl
   rewrite[he2];exact⟨rfl,hF⟩
  refine dW (lJ (cz (k7 _ _ (rg (Ly rfl (dH (c:=s8+1) rfl rfl rfl (bY (by first|omega|(simp;done)|(simp;omega)))) ?_)))));refine Lm rfl (cw (cz (?_)));exact⟨fuel,[(0,_),(1,_),(7,_),(8,_)],Nat.lt_succ_self _,⟨rfl,rfl,rfl,rfl,trivial⟩,(s8+1),rfl,⟨by rewrite[←hL1,dn];rewrite[if_pos hc1,if_neg hc2];rfl,by first|omega|(simp;done)|(simp;omega)⟩,by first|omega|(simp;done)|(simp;omega),(st.pk [] (by decide)).pickK [0],hF⟩
 refine fH (jt (jt (iy (cz (?_)))));exact hout1 _ [(0,_),(1,_),(7,_),(8,_)] _ ⟨rfl,rfl,rfl,rfl,trivial⟩ ⟨s8,rfl,show _=_ from by rewrite[←hL1,dn];rewrite[if_neg hc1];rfl,by first|omega|(simp;done)|(simp;omega),(st.pk [] (by decide)).pickK [0],hF⟩
theorem Au{P:Program}{fi tE m by_:Nat}{fn:Go.Func}{ρf ρt:Nat→Nat}(hen:aF P fi=true)(hf:P.funcs[fi]? =some fn)(hb:fn.body=some (eM ρf ρt (cU Tryz.f93)))(hn:fn.ntmps=42)(hr:fn.results= #[.tmp 4])(hmx:P.follows .mixedOrders=true)
  {α:Type} [Inhabited α] {enc:α→List Value} (es:aq P (ρt 35)=some (tE,m)) (un:P.underlying (ρt 35)=some (.slice tE)) (i64:P.underlying (ρt 3)=some (.int .i64)) (zc:zeroCells P tE=some (enc default)) (hby:(P.info? tE).map (·.bytes)=some by_) (hbb:by_≤100000) (hm: ∀x,(enc x).length=m) (hm0:0<m) (hmB:m≤1000) (h1: ∀x,∀v∈enc x,v.oneCell'=true)
  (X:List Nat) (w:World) (s:List α) (A_s:Option Addr) (c_s:Nat) (s1:List Value) (f1:Value) (del:α→Bool) (hs:St X w [(ab A_s,Cl (s.flatMap enc++s1) tE)] []) (z5:Ow A_s s.length c_s m (s.flatMap enc) s1) (z4: ∀(w1:World) (x0:α),Fr (aQ [(ab A_s,Cl (s.flatMap enc++s1) tE)]) w w1→pZ P f1 [.agg (enc x0).toArray] w1 fun v w2=>v= .bool (del x0)∧Fr [] w1 w2) (hE:tE=ρt 128) (ag:ba P tE=some m) (sz:(P.info? tE).map (·.size)=some m) (hix: ∀(X:List Nat) (w:World),Lo X w→hZ X w A_s s.length c_s m (s.flatMap enc)→(∀(w1:World) (x0:α),Fr ([]) w w1→pZ P f1 [.agg (enc x0).toArray] w1 fun v w2=>v= .bool (del x0)∧Fr [] w1 w2)→Fn P (ρf 155) [.slice A_s s.length c_s,f1] w fun v w'=>v= .int .i64 (aP s del)∧Fr [] w w'):
  Fn P fi [.slice A_s s.length c_s,f1] w fun v w'=> ∃(A':Option Addr) (c':Nat) (sp':List Value),v= .slice A' (ep s del).length c'∧Ow A' (ep s del).length c' m ((ep s del).flatMap enc) sp'∧St X w' [(ab A',Cl ((ep s del).flatMap enc++sp') tE)] []∧Fr (aQ [(ab A_s,Cl (s.flatMap enc++s1) tE)]) w w'∧(∀k∈aQ [(ab A',Cl ((ep s del).flatMap enc++sp') tE)],k∈(aQ [(ab A_s,Cl (s.flatMap enc++s1) tE)])∨w.heap.size≤k):=by
 refine iE 42 hen hf hb hn rfl ?_;dsimp only[bS];subst hE;have hall: ∀x,(enc x).all Value.oneCell'=true:=fun x=>List.all_eq_true.2 (h1 x);have hs0:=hs;have st:St X w [(ab A_s,Cl (s.flatMap enc++s1) (ρt 128))] []:=hs;have z2: ∀g,ab A_s=some g→g∈(aQ [(ab A_s,Cl (s.flatMap enc++s1) (ρt 128))])∨w.heap.size≤g:=fun g hg=> .inl (by simp[aQ,hg]);have z3:=Ow.le z5;have hF:=Fr.refl (aQ [(ab A_s,Cl (s.flatMap enc++s1) (ρt 128))]) w;refine sq fun _ k1=>rg (dV rfl (Ln k1 (sq fun _ k2=>rg (Lm rfl (Lm rfl (La rfl (SA st hF rfl (hix (aQ (cx (Gz st) [])++X) _ (st.sub [] [] [] (by decide)).lo ((st.freeze (i:=0) [] (by decide) rfl z5 hm0).k (i:=0) rfl) (fun w1 x0 hw=>z4 w1 x0 (hF.step0 hw))) fun w1 st hF=>?_)))))));refine dV rfl (Ln k2 (sq fun _ k3=>sq fun _ k4=>rg (Lm rfl (Ly rfl (QQ rfl) (Ln k4 (cE rfl (fun hc1=>?_) (fun hc1=>?_)))))))
 ·refine sq fun _ k5=>rg (Lm rfl (dV rfl (Ln k5 (wR (jN (fR (iC hr rfl) ?_))))));unfold ep;rewrite[if_pos hc1];exact⟨_,_,_,rfl,z5,(st.pk [0] (by decide)).pickK [],hF,lL z2 lK⟩
 have khc1:=yj hc1;refine sk k3 (sq fun _ k6=>sq fun _ k7=>rg (Lm rfl (Ly rfl (dH (c:=(aP s del)+1) rfl rfl rfl (bY (by first|omega|(simp;done)|(simp;omega)))) ?_)));refine dV rfl (Ln k7 (bv (lp (fun q E W=> ∃(s5:Int) (s6:Int) (r0:List α),E= [(0,.slice A_s s.length c_s),(1,f1),(5,.int .i64 s5),(6,.int .i64 s6)]∧jq q (fun m=>(db s del m s5 s6 r0=db s del (((s.length:Int)-((aP s del)+1)).toNat+1) (aP s del) ((aP s del)+1) s∧((s.length:Int)- s6).toNat<m)) (db s del (((s.length:Int)-((aP s del)+1)).toNat+1) (aP s del) ((aP s del)+1) s= .inr (s5,s6,r0))∧(0≤s5∧s5<s6∧s6≤s.length)∧Ow A_s s.length c_s m (r0.flatMap enc) s1∧(r0.length=s.length)∧St X W [(ab A_s,Cl (r0.flatMap enc++s1) (ρt 128))] []∧Fr (aQ [(ab A_s,Cl (s.flatMap enc++s1) (ρt 128))]) w W) (((s.length:Int)-((aP s del)+1)).toNat+1) [(0,_),(1,_),(5,_),(6,_)] ⟨rfl,rfl,rfl,rfl,trivial⟩ ⟨_,_,_,rfl,⟨rfl,Nat.lt_succ_self _⟩,by first|omega|(simp;done)|(simp;omega),z5,rfl,st,hF⟩ k6 ?_ fun hout1=>?_)))
 ·rintro E w2 ⟨s5,s6,r0,rfl,hLk1,hinv,howr0,hlmr0,st,hF⟩;unfold jq at hLk1;dsimp only at hLk1;refine sq fun _ k8=>rg (Lm rfl (Lm rfl ?_));obtain⟨gi1,egi1⟩:=(howr0).some_ (by first|omega|(simp;done)|(simp;omega));subst egi1;refine Ly rfl (ng (enc:=enc) (xs:=r0) (p:=s5) rfl rfl (hlmr0).symm es rfl rfl (by first|omega|(simp;done)|(simp;omega)) (by first|omega|(simp;done)|(simp;omega)) howr0) ?_;refine La rfl (qa (i:=0) (enc:=enc) (xs:=r0) (u:=default) (p:=s5) rfl rfl rfl (hlmr0).symm es zc rfl hm (h1 _) howr0 (by first|omega|(simp;done)|(simp;omega)) (by first|omega|(simp;done)|(simp;omega)) st.hp rfl (fun w3 how1 (hp:Hp w3 [_]) hf=>?_));have st:St X w3 [_] []:=st.set (i:=0) rfl hp hf;have st:St X w3 [_] []:=st;have hF:=hF.step hf (fun y hy=>z2 y (by simp at hy;subst hy;rfl));have hln1:(r0.take s5.toNat++List.replicate (r0.length - s5.toNat) default).length=s.length:=by simp only[List.length_append,List.length_take,List.length_replicate];omega
  refine Ln k8 (sq fun _ k9=>rg (Lm rfl (Lm rfl (Ly rfl (oY (enc:=enc) (xs:=r0.take s5.toNat++List.replicate (r0.length - s5.toNat) default) (q:=s5) rfl rfl (hln1).symm es rfl rfl (by first|omega|(simp;done)|(simp;omega)) (by first|omega|(simp;done)|(simp;omega)) how1) ?_))));have how2:=Ow.cut (enc:=enc) (xs:=r0.take s5.toNat++List.replicate (r0.length - s5.toNat) default) hm how1 (hln1).symm s5.toNat;have st:St X _ [_] []:=st.conv (i:=0) rfl (lA s5.toNat);refine dV rfl (Ln k9 (wR (fR (iC hr rfl) ?_)));unfold ep;rewrite[if_neg hc1,hLk1];(try dsimp only);exact⟨_,_,_,rfl,how2,(st.pk [0] (by decide)).pickK [],hF,lL z2 lK⟩
 rintro m E w4 ⟨s5,s6,r0,rfl,⟨hL1,hmu⟩,hinv,howr0,hlmr0,st,hF⟩;obtain⟨fuel,rfl⟩: ∃q,m=q+1:=⟨m - 1,by omega⟩;have z1:=Ow.le howr0;refine sq fun _ xu=>sq fun _ AN=>rg (Lm rfl (Lm rfl (Ly rfl (tx rfl un) (Ly rfl (y7 rfl) (Ln AN (cD rfl (fun hc2=>?_) (fun hc2=>?_)))))))
 ·refine sk xu (sq fun _ AM=>bv (sq fun _ AW=>rg (Lm rfl (Lm rfl ?_))));obtain⟨gi2,egi2⟩:=(howr0).some_ (by first|omega|(simp;done)|(simp;omega));subst egi2;refine Ly rfl (fG (q:=s6) rfl rfl rfl es (by first|omega|(simp;done)|(simp;omega)) (by first|omega|(simp;done)|(simp;omega))) ?_;refine Ly rfl (oA (q:=s6) rfl rfl ag (fun _ e=>e▸hZ.own (i:=0) st.hp rfl howr0 hm0) hm (by first|omega|(simp;done)|(simp;omega)) (by first|omega|(simp;done)|(simp;omega))) ?_;refine La rfl (UH zc st hF rfl fun g1 w5 (st:St _ _ [_,_] _) hF hg1=>La rfl (UJ (us:=enc (ix r0 s6)) (cs:=enc default) 1 sz st hF (.inr hg1) (by rw[hm,hm,hall];rfl) fun w6 (st:St _ _ [_,_] _) hF=>Ln AW (sq fun _ AO=>rg (Lm rfl (Ly rfl (yw (cs:=enc (ix r0 s6)) 1 ag st (by rw[hm];rfl)) (La rfl (QR st hF rfl (z4 _ (ix r0 s6) hF) fun w7 st hF=>Ly rfl (yn rfl) (Ln AO (QP rfl (fun hc3=>?_) (fun hc3=>?_))))))))))
  ·refine sq fun _ CL=>rg (Lm rfl (Lm rfl (Ly rfl (yw (cs:=enc (ix r0 s6)) 1 ag st (by rw[hm];rfl)) (Ly rfl (fG (q:=s5) rfl rfl rfl es (by first|omega|(simp;done)|(simp;omega)) (by first|omega|(simp;done)|(simp;omega))) ?_))));refine La rfl (qc (i:=0) (q:=s5) (u:=ix r0 s6) rfl rfl rfl rfl rfl hm sz (h1 _) howr0 st.hp rfl (by first|omega|(simp;done)|(simp;omega)) (by first|omega|(simp;done)|(simp;omega)) hm0 (fun w8 how3 (hp:Hp w8 [_,_]) hf=>?_));have st:St X w8 [_,_] []:=st.set (i:=0) rfl hp hf;have st:St X w8 [_,_] []:=st;have hF:=hF.step hf (fun y hy=>z2 y (by simp at hy;subst hy;rfl));have hln2:(r0.set s5.toNat (ix r0 s6)).length=s.length:=by rw[List.length_set];exact hlmr0
   rewrite[hln2]at how3;refine Ln CL (rg (Lm rfl (Ly rfl (dH (c:=s5+1) rfl rfl rfl (bY (by first|omega|(simp;done)|(simp;omega)))) ?_)));refine dV rfl (cw (lJ (cz (AM _ _ (rg (Lm rfl (Ly rfl (dH (c:=s6+1) rfl rfl rfl (bY (by first|omega|(simp;done)|(simp;omega)))) ?_)))))));refine dV rfl (cw (cz (?_)));exact⟨fuel,[(0,_),(1,_),(5,_),(6,_)],Nat.lt_succ_self _,⟨rfl,rfl,rfl,rfl,trivial⟩,(s5+1),(s6+1),(r0.set s5.toNat (ix r0 s6)),rfl,⟨by rewrite[←hL1,db];rewrite[if_pos hc2,if_neg hc3];rfl,by first|omega|(simp;done)|(simp;omega)⟩,by first|omega|(simp;done)|(simp;omega),how3,hln2,(st.pk [0] (by decide)).pickK [],hF⟩
  refine dW (lJ (cz (AM _ _ (rg (Lm rfl (Ly rfl (dH (c:=s6+1) rfl rfl rfl (bY (by first|omega|(simp;done)|(simp;omega)))) ?_))))));refine dV rfl (cw (cz (?_)));exact⟨fuel,[(0,_),(1,_),(5,_),(6,_)],Nat.lt_succ_self _,⟨rfl,rfl,rfl,rfl,trivial⟩,s5,(s6+1),r0,rfl,⟨by rewrite[←hL1,db];rewrite[if_pos hc2,if_pos hc3];rfl,by first|omega|(simp;done)|(simp;omega)⟩,by first|omega|(simp;done)|(simp;omega),howr0,hlmr0,(st.pk [0] (by decide)).pickK [],hF⟩
 refine fH (jt (jt (iy (cz (?_)))));exact hout1 _ [(0,_),(1,_),(5,_),(6,_)] _ ⟨rfl,rfl,rfl,rfl,trivial⟩ ⟨s5,s6,r0,rfl,show _=_ from by rewrite[←hL1,db];rewrite[if_neg hc2];rfl,by first|omega|(simp;done)|(simp;omega),howr0,hlmr0,(st.pk [0] (by decide)).pickK [],hF⟩
end Go.Proofs.YtmpeiadlohbikaaGreatDoor.V
end

section
set_option linter.unusedVariables false
set_option linter.unusedSimpArgs false
namespace Go.Proofs.YtmpeiadlohbikaaGreatDoor
section
variable {α:Type} [Inhabited α]
theorem I3(l:List α)(k:Nat):ix l (k:Int)=(l[k]?).getD default:=by unfold ix;rw[Int.toNat_natCast]
theorem ow(l:List α){k:Nat}(h:k<l.length):ix l (k:Int)=l[k]:=by rw[I3,List.getElem?_eq_getElem h];rfl
theorem Ez(l:List α){j:Int}(h0:0≤j)(h1:j<l.length):ix l j∈l:=by
 have hl:j.toNat<l.length:=by omega
 unfold ix;rw[List.getElem?_eq_getElem hl];exact List.getElem_mem hl
theorem xB(l:List α){j:Int}(h0:0≤j)(h1:j<l.length):l.drop j.toNat=ix l j::l.drop (j+1).toNat:=by
 have hl:j.toNat<l.length:=by omega
 rw[List.drop_eq_getElem_cons hl,show(j+1).toNat=j.toNat+1 by omega];unfold ix;rw[List.getElem?_eq_getElem hl];rfl
theorem uE{R:Type}(l:List α)(p:α→Bool)(r:R)(L:Nat→Int→R⊕Int)(hL: ∀fuel i,0≤i→L (fuel+1) i=if i<(l.length:Int)then(if p (ix l i)=true then L fuel (i+1)else .inl r)else .inr i):
  ∀(fuel:Nat) (i:Int),0≤i→((l.length:Int)- i).toNat<fuel→ ∃q,L fuel i=if(l.drop i.toNat).all p=true then .inr q else .inl r
 |0,i,_,h=>by omega
 |fuel+1,i,h0,h=>by
  rw[hL fuel i h0];split
  ·rename_i h1;rw[xB l h0 h1,List.all_cons];by_cases hp:p (ix l i)=true
   ·obtain⟨q,hq⟩:=uE l p r L hL fuel (i+1) (by omega) (by omega);exact⟨q,by rw[if_pos hp,hq,hp,Bool.true_and]⟩
   ·exact⟨i,by rw[if_neg hp];simp[hp]⟩
  ·exact⟨i,by rw[List.drop_of_length_le (by omega)];simp⟩
theorem n5{R:Type}(l:List α)(p:α→Bool)(r:R)(L:Nat→Int→R⊕Int)(hL: ∀fuel i,0≤i→L (fuel+1) i=if i<(l.length:Int)then(if p (ix l i)=true then L fuel (i+1)else .inl r)else .inr i):
  ∃q,L (((l.length:Int)-(0:Int)).toNat+1) 0=if l.all p=true then .inr q else .inl r:=uE l p r L hL _ 0 (by omega) (by omega)
theorem sU{R:Type}(n:Int)(P:Int→Bool)(r:R)(L:Nat→Int→R⊕Int)(i0:Int)(hL: ∀fuel i,i0≤i→L (fuel+1) i=if i<n then(if P i=true then L fuel (i+1)else .inl r)else .inr i):
  ∀(fuel:Nat) (i:Int),i0≤i→(n - i).toNat<fuel→((∃q,L fuel i= .inr q)∧ ∀j:Int,i≤j→j<n→P j=true)∨(L fuel i= .inl r∧ ∃j:Int,i≤j∧j<n∧P j=false)
 |0,i,_,h=>by omega
 |fuel+1,i,h0,h=>by
  rw[hL fuel i h0];split
  ·rename_i h1;by_cases hp:P i=true
   ·rw[if_pos hp];rcases sU n P r L i0 hL fuel (i+1) (by omega) (by omega)with⟨a,b⟩|⟨a,j,b,c,d⟩
    ·refine .inl ⟨a,fun j hj hk=>?_⟩;by_cases e:j=i
     ·subst e;exact hp
     ·exact b j (by omega) hk
    ·exact .inr ⟨a,j,by omega,c,d⟩
   ·exact .inr ⟨by rw[if_neg hp],i,by omega,h1,by simpa using hp⟩
  ·exact .inl ⟨⟨i,rfl⟩,fun j _ _=>by omega⟩
theorem iV{R β:Type}(l:List α)(f:β→α→β)(L:Nat→Int→β→R⊕(Int×β))(hL: ∀fuel b i,0≤i→L (fuel+1) i b=if i<(l.length:Int)then L fuel (i+1) (f b (ix l i))else .inr (i,b))(b:β):
  L (((l.length:Int)-(0:Int)).toNat+1) 0 b= .inr ((l.length:Int),l.foldl f b):=by
 have key: ∀(fuel:Nat) (b:β) (i:Int),0≤i→i≤l.length→((l.length:Int)- i).toNat<fuel→L fuel i b= .inr ((l.length:Int),(l.drop i.toNat).foldl f b):=by
  intro fuel;induction fuel with
  |zero=>intro b i _ _ h;omega
  |succ fuel ih=>
   intro b i h0 h2 h;rw[hL fuel b i h0];split
   ·rename_i h1;rw[ih _ (i+1) (by omega) (by omega) (by omega),xB l h0 h1,List.foldl_cons]
   ·have:i=l.length:=by omega
    subst this;rw[List.drop_of_length_le (by omega)];rfl
 exact key _ b 0 (by omega) (by omega) (by omega)
end
theorem gg{α β:Type}(g:α→β)(l:List α)(b:List β):l.foldl (fun acc x=>acc++ [g x]) b=b++l.map g:=by
 induction l generalizing b with
 |nil=>simp
 |cons a l ih=>rw[List.foldl_cons,ih];simp
end Go.Proofs.YtmpeiadlohbikaaGreatDoor
end

section
set_option linter.unusedVariables false
set_option linter.unusedSimpArgs false
namespace Go.Proofs.YtmpeiadlohbikaaGreatDoor
def LC{α:Type}:α→List α→α
 |p,[]=>p
 |_,b::l=>LC b l
theorem uD{α:Type}: ∀(p:α) (l:List α),LC p l=(p::l).getLast (by simp)
 |p,[]=>rfl
 |p,b::l=>by rw[List.getLast_cons (by simp)];exact uD b l
section
variable {α:Type} [DecidableEq α]
def wa:α→List α→List α
 |_,[]=> []
 |p,b::l=>if b=p then wa p l else b::wa b l
def dd:List α→List α
 | []=> []
 |a::l=>a::wa a l
theorem sR: ∀(p:α) (l:List α) (x:α),x=p∨x∈wa p l↔x=p∨x∈l
 |p,[],x=>by simp[wa]
 |p,b::l,x=>by
  unfold wa;split
  ·rename_i h;subst h;rw[sR b l x];simp
  ·have:=sR b l x;simp only[List.mem_cons,this]
theorem I1(l:List α)(x:α):x∈dd l↔x∈l:=by
 cases l with
 |nil=>simp[dd]
 |cons a l=>simp only[dd,List.mem_cons];exact sR a l x
theorem pW: ∀(p:α) (l:List α) (x:α),wa p (l++ [x])=wa p l++(if x=LC p l then []else [x])
 |p,[],x=>by by_cases h:x=p<;>simp[wa,LC,h]
 |p,b::l,x=>by
  rw[List.cons_append];unfold wa LC;split
  ·rename_i h;subst h;exact pW b l x
  ·rw[pW b l x];rfl
theorem Ey{l:List α}(h:l≠ [])(x y:α)(hy:l.getLast h=y):dd (l++ [x])=dd l++(if x=y then []else [x]):=by
 cases l with
 |nil=>exact absurd rfl h
 |cons a l=>simp only[List.cons_append,dd];rw[pW,uD,hy]
theorem sS: ∀(p:α) (l:List α),(wa p l).length≤l.length
 |p,[]=>by simp[wa]
 |p,b::l=>by
  unfold wa;split
  ·have:=sS p l;simp;omega
  ·have:=sS b l;simp;omega
theorem I2(l:List α):(dd l).length≤l.length:=by
 cases l with
 |nil=>simp[dd]
 |cons a l=>have:=sS a l;simp[dd];omega
end
section
variable {α:Type} (lt:α→α→Bool)
end
theorem sT{α:Type} [Inhabited α] [DecidableEq α](s:List α)(z:α)(L2:Int→List α→Nat→Int→Int→List α→(List α)⊕(Int×Int×List α))(L1:Nat→Int→List α→(List α)⊕(Int×List α))
  (h2: ∀(s3:Int) r0 fuel s3' s5 r',L2 s3 r0 (fuel+1) s3' s5 r'=if s5<((s.length - s3.toNat:Nat):Int)then(if ix r' (s3+s5)=ix r' (s3+(s5 - 1))then L2 s3 r0 fuel s3' (s5+1) r' else L2 s3 r0 fuel (s3'+1) (s5+1) (r'.set s3'.toNat (ix r' (s3+s5))))else .inr (s3',s5,r'))
  (h1: ∀fuel s3 r0,L1 (fuel+1) s3 r0=if s3<(s.length:Int)then(if ix r0 s3=ix r0 (s3 - 1)then(match L2 s3 r0 (((s.length:Int)-(1:Int)).toNat+1) s3 (1:Int) r0 with| .inl r=> .inl r| .inr (s3',s5,r')=> .inl ((r'.take s3'.toNat++List.replicate (r'.length - s3'.toNat) z).take s3'.toNat))else L1 fuel (s3+1) r0)else .inr (s3,r0)) (hs:1≤s.length):
  ∀(fuel:Nat) (s3:Int),1≤s3→s3≤s.length→dd (s.take s3.toNat)=s.take s3.toNat→((s.length:Int)- s3).toNat<fuel→(L1 fuel s3 s= .inl (dd s)∨(∃q,L1 fuel s3 s= .inr (q,s))∧dd s=s):=by
 have step: ∀n:Nat,1≤n→n<s.length→dd (s.take (n+1))=dd (s.take n)++(if ix s (n:Int)=ix s ((n:Int)- 1)then []else [ix s (n:Int)]):=by
  intro n hn1 hn;have e1:s.take (n+1)=s.take n++ [s[n]]:=by rw[List.take_add_one,List.getElem?_eq_getElem hn];rfl
  have hne:s.take n≠ []:=by intro h;have:=congrArg List.length h;rw[List.length_take,List.length_nil]at this;omega
  have e2:(s.take n).getLast hne=s[n - 1]:=by
   rw[List.getLast_eq_getElem];have:(s.take n).length - 1=n - 1:=by rw[List.length_take];omega
   simp only[this,List.getElem_take]
  rw[e1,Ey hne _ _ e2];rw[ow s hn,show(n:Int)- 1=((n - 1:Nat):Int)by omega,ow s (by omega)]
 have inner: ∀(fuel:Nat) (k:Int) (k' j:Int) (r:List α),1≤k→k<s.length→1≤j→k+j≤s.length→k≤k'→k'<k+j→r.length=s.length→(∀i:Nat,(k+j - 1).toNat≤i→r[i]? =s[i]?)→r.take k'.toNat=dd (s.take (k+j).toNat)→((s.length:Int)-(k+j)).toNat<fuel→
   ∃q p r',L2 k s fuel q j r=L2 k s fuel q j r∧L2 k s fuel k' j r= .inr (p,q,r')∧r'.length=s.length∧r'.take p.toNat=dd s∧p≤s.length:=by
  intro fuel;induction fuel with
  |zero=>intro k k' j r _ _ _ _ _ _ _ _ _ h;omega
  |succ fuel ih=>
   intro k k' j r hk1 hk2 hj hkj hkk hk' hrl hr hd hf;rw[h2 k s fuel k' j r];by_cases hlt:j<((s.length - k.toNat:Nat):Int)
   ·rw[if_pos hlt];have hn:(k+j).toNat<s.length:=by omega
    have eA:ix r (k+j)=ix s (k+j):=by unfold ix;rw[hr (k+j).toNat (by omega)]
    have eB:ix r (k+(j - 1))=ix s (k+j - 1):=by unfold ix;rw[show k+(j - 1)=k+j - 1 by omega,hr (k+j - 1).toNat (Nat.le_refl _)]
    have hst:=step (k+j).toNat (by omega) hn;rw[show(((k+j).toNat:Nat):Int)=k+j by omega]at hst;rw[eA,eB];by_cases heq:ix s (k+j)=ix s (k+j - 1)
    ·rw[if_pos heq];rw[if_pos heq,List.append_nil]at hst;obtain⟨q,p,r',_,h3,h4,h5,h6⟩:=ih k k' (j+1) r hk1 hk2 (by omega) (by omega) hkk (by omega) hrl (fun i hi=>hr i (by omega)) (by rw[hd,show(k+(j+1)).toNat=(k+j).toNat+1 by omega,hst]) (by omega);exact⟨q,p,r',rfl,h3,h4,h5,h6⟩
    ·rw[if_neg heq];rw[if_neg heq]at hst;obtain⟨q,p,r',_,h3,h4,h5,h6⟩:=ih k (k'+1) (j+1) (r.set k'.toNat (ix s (k+j))) hk1 hk2 (by omega) (by omega) (by omega) (by omega) (by simpa using hrl) (fun i hi=>by rw[List.getElem?_set_ne (by omega)];exact hr i (by omega)) (by
      rw[show(k+(j+1)).toNat=(k+j).toNat+1 by omega,hst,←hd,show(k'+1).toNat=k'.toNat+1 by omega,List.take_add_one,List.getElem?_set_self (by omega),List.take_set_of_le (by omega)];rfl) (by omega)
     exact⟨q,p,r',rfl,h3,h4,h5,h6⟩
   ·rw[if_neg hlt];refine⟨j,k',r,rfl,rfl,hrl,?_,by omega⟩;rw[hd,List.take_of_length_le (by omega)]
 intro fuel;induction fuel with
 |zero=>intro s3 _ _ _ h;omega
 |succ fuel ih=>
  intro s3 hs1 hs2 hd hf;rw[h1 fuel s3 s];by_cases hlt:s3<(s.length:Int)
  ·rw[if_pos hlt];have hst:=step s3.toNat (by omega) (by omega);rw[show((s3.toNat:Nat):Int)=s3 by omega]at hst;by_cases heq:ix s s3=ix s (s3 - 1)
   ·rw[if_pos heq];rw[if_pos heq,List.append_nil,hd]at hst;obtain⟨q,p,r',_,h3,h4,h5,h6⟩:=inner (((s.length:Int)-(1:Int)).toNat+1) s3 s3 1 s hs1 hlt (by omega) (by omega) (by omega) (by omega) rfl (fun _ _=>rfl) (by rw[show(s3+1).toNat=s3.toNat+1 by omega,hst]) (by omega);rw[h3];left;simp only;congr 1;rw[List.take_append_of_le_length (by rw[List.length_take];omega),List.take_take,Nat.min_self,h5]
   ·rw[if_neg heq];rw[if_neg heq,hd]at hst;exact ih (s3+1) (by omega) (by omega) (by
     rw[show(s3+1).toNat=s3.toNat+1 by omega,hst,List.take_add_one,ix,List.getElem?_eq_getElem (show s3.toNat<s.length by omega)];rfl) (by omega)
  ·rw[if_neg hlt];right;refine⟨⟨s3,rfl⟩,?_⟩;rw[List.take_of_length_le (by omega)]at hd;exact hd
end Go.Proofs.YtmpeiadlohbikaaGreatDoor
end

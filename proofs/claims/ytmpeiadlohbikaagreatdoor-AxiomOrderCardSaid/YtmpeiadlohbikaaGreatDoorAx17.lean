/- slices.SortFunc at structs, over the shelf's contract: an own row that is sorted in place. -/
import Derived.Test.YtmpeiadlohbikaaGreatDoorAx16
import Derived.Test.YtmpeiadlohbikaaGreatDoorAx15
import Derived.Test.YtmpeiadlohbikaaGreatDoorProg
import Derived.Test.YtmpeiadlohbikaaGreatDoorAx3
import Derived.Shelf.SlSortCmp.NoneTotal
section
set_option linter.unusedVariables false
set_option linter.unusedSimpArgs false
namespace Go.Proofs.YtmpeiadlohbikaaGreatDoor.V
open Go.RowKit
def zm{α:Type}:α→List α→α
 |p,[]=>p
 |_,b::l=>zm b l
theorem qo{α:Type}: ∀(p:α) (l:List α),zm p l=(p::l).getLast (by simp)
 |p,[]=>rfl
 |p,b::l=>by rw[List.getLast_cons (by simp)];exact qo b l
section
variable {α:Type} (eqd:α→α→Bool)
def rx:α→List α→List α
 |_,[]=> []
 |p,b::l=>if eqd b p=true then rx b l else b::rx b l
def wl:List α→List α
 | []=> []
 |a::l=>a::rx eqd a l
theorem na: ∀(p:α) (l:List α) (x:α),rx eqd p (l++ [x])=rx eqd p l++(if eqd x (zm p l)=true then []else [x])
 |p,[],x=>by by_cases h:eqd x p=true<;>simp[rx,zm,h]
 |p,b::l,x=>by
  rw[List.cons_append];unfold rx zm;split
  ·exact na b l x
  ·rw[na b l x];rfl
theorem zn{l:List α}(h:l≠ [])(x y:α)(hy:l.getLast h=y):wl eqd (l++ [x])=wl eqd l++(if eqd x y=true then []else [x]):=by
 cases l with
 |nil=>exact absurd rfl h
 |cons a l=>simp only[List.cons_append,wl];rw[na,qo,hy]
end
theorem p6{α:Type} [Inhabited α](eqd:α→α→Bool)(s:List α)(z:α)(L2:Int→List α→Nat→Int→Int→List α→(List α)⊕(Int×Int×List α))(L1:Nat→Int→List α→(List α)⊕(Int×List α))
  (h2: ∀(s3:Int) r0 fuel s3' s5 r',L2 s3 r0 (fuel+1) s3' s5 r'=if s5<((s.length - s3.toNat:Nat):Int)then(if eqd (ix r' (s3+s5)) (ix r' (s3+(s5 - 1)))=true then L2 s3 r0 fuel s3' (s5+1) r' else L2 s3 r0 fuel (s3'+1) (s5+1) (r'.set s3'.toNat (ix r' (s3+s5))))else .inr (s3',s5,r'))
  (h1: ∀fuel s3 r0,L1 (fuel+1) s3 r0=if s3<(s.length:Int)then(if eqd (ix r0 s3) (ix r0 (s3 - 1))=true then(match L2 s3 r0 (((s.length:Int)-(1:Int)).toNat+1) s3 (1:Int) r0 with| .inl r=> .inl r| .inr (s3',s5,r')=> .inl ((r'.take s3'.toNat++List.replicate (r'.length - s3'.toNat) z).take s3'.toNat))else L1 fuel (s3+1) r0)else .inr (s3,r0)) (hs:1≤s.length):
  ∀(fuel:Nat) (s3:Int),1≤s3→s3≤s.length→wl eqd (s.take s3.toNat)=s.take s3.toNat→((s.length:Int)- s3).toNat<fuel→(L1 fuel s3 s= .inl (wl eqd s)∨(∃q,L1 fuel s3 s= .inr (q,s))∧wl eqd s=s):=by
 have step: ∀n:Nat,1≤n→n<s.length→wl eqd (s.take (n+1))=wl eqd (s.take n)++(if eqd (ix s (n:Int)) (ix s ((n:Int)- 1))=true then []else [ix s (n:Int)]):=by
  intro n hn1 hn;have e1:s.take (n+1)=s.take n++ [s[n]]:=by rw[List.take_add_one,List.getElem?_eq_getElem hn];rfl
  have hne:s.take n≠ []:=by intro h;have:=congrArg List.length h;rw[List.length_take,List.length_nil]at this;omega
  have e2:(s.take n).getLast hne=s[n - 1]:=by
   rw[List.getLast_eq_getElem];have:(s.take n).length - 1=n - 1:=by rw[List.length_take];omega
   simp only[this,List.getElem_take]
  rw[e1,zn eqd hne _ _ e2];rw[mD s hn,show(n:Int)- 1=((n - 1:Nat):Int)by omega,mD s (by omega)]
 have inner: ∀(fuel:Nat) (k:Int) (k' j:Int) (r:List α),1≤k→k<s.length→1≤j→k+j≤s.length→k≤k'→k'<k+j→r.length=s.length→(∀i:Nat,(k+j - 1).toNat≤i→r[i]? =s[i]?)→r.take k'.toNat=wl eqd (s.take (k+j).toNat)→((s.length:Int)-(k+j)).toNat<fuel→
   ∃q p r',L2 k s fuel q j r=L2 k s fuel q j r∧L2 k s fuel k' j r= .inr (p,q,r')∧r'.length=s.length∧r'.take p.toNat=wl eqd s∧p≤s.length:=by
  intro fuel;induction fuel with
  |zero=>intro k k' j r _ _ _ _ _ _ _ _ _ h;omega
  |succ fuel ih=>
   intro k k' j r hk1 hk2 hj hkj hkk hk' hrl hr hd hf;rw[h2 k s fuel k' j r];by_cases hlt:j<((s.length - k.toNat:Nat):Int)
   ·rw[if_pos hlt];have hn:(k+j).toNat<s.length:=by omega
    have eA:ix r (k+j)=ix s (k+j):=by unfold ix;rw[hr (k+j).toNat (by omega)]
    have eB:ix r (k+(j - 1))=ix s (k+j - 1):=by unfold ix;rw[show k+(j - 1)=k+j - 1 by omega,hr (k+j - 1).toNat (Nat.le_refl _)]
    have hst:=step (k+j).toNat (by omega) hn;rw[show(((k+j).toNat:Nat):Int)=k+j by omega]at hst;rw[eA,eB];by_cases heq:eqd (ix s (k+j)) (ix s (k+j - 1))=true
    ·rw[if_pos heq];rw[if_pos heq,List.append_nil]at hst;obtain⟨q,p,r',_,h3,h4,h5,h6⟩:=ih k k' (j+1) r hk1 hk2 (by omega) (by omega) hkk (by omega) hrl (fun i hi=>hr i (by omega)) (by rw[hd,show(k+(j+1)).toNat=(k+j).toNat+1 by omega,hst]) (by omega);exact⟨q,p,r',rfl,h3,h4,h5,h6⟩
    ·rw[if_neg heq];rw[if_neg heq]at hst;obtain⟨q,p,r',_,h3,h4,h5,h6⟩:=ih k (k'+1) (j+1) (r.set k'.toNat (ix s (k+j))) hk1 hk2 (by omega) (by omega) (by omega) (by omega) (by simpa using hrl) (fun i hi=>by rw[List.getElem?_set_ne (by omega)];exact hr i (by omega)) (by
      rw[show(k+(j+1)).toNat=(k+j).toNat+1 by omega,hst,←hd,show(k'+1).toNat=k'.toNat+1 by omega,List.take_add_one,List.getElem?_set_self (by omega),List.take_set_of_le (by omega)];rfl) (by omega)
     exact⟨q,p,r',rfl,h3,h4,h5,h6⟩
   ·rw[if_neg hlt];refine⟨j,k',r,rfl,rfl,hrl,?_,by omega⟩;rw[hd,List.take_of_length_le (by omega)]
 intro fuel;induction fuel with
 |zero=>intro s3 _ _ _ h;omega
 |succ fuel ih=>
  intro s3 hs1 hs2 hd hf;rw[h1 fuel s3 s];by_cases hlt:s3<(s.length:Int)
  ·rw[if_pos hlt];have hst:=step s3.toNat (by omega) (by omega);rw[show((s3.toNat:Nat):Int)=s3 by omega]at hst;by_cases heq:eqd (ix s s3) (ix s (s3 - 1))=true
   ·rw[if_pos heq];rw[if_pos heq,List.append_nil,hd]at hst;obtain⟨q,p,r',_,h3,h4,h5,h6⟩:=inner (((s.length:Int)-(1:Int)).toNat+1) s3 s3 1 s hs1 hlt (by omega) (by omega) (by omega) (by omega) rfl (fun _ _=>rfl) (by rw[show(s3+1).toNat=s3.toNat+1 by omega,hst]) (by omega);rw[h3];left;simp only;congr 1;rw[List.take_append_of_le_length (by rw[List.length_take];omega),List.take_take,Nat.min_self,h5]
   ·rw[if_neg heq];rw[if_neg heq,hd]at hst;exact ih (s3+1) (by omega) (by omega) (by
     rw[show(s3+1).toNat=s3.toNat+1 by omega,hst,List.take_add_one,ix,List.getElem?_eq_getElem (show s3.toNat<s.length by omega)];rfl) (by omega)
  ·rw[if_neg hlt];right;refine⟨⟨s3,rfl⟩,?_⟩;rw[List.take_of_length_le (by omega)]at hd;exact hd
def cy{α:Type} [Inhabited α](eqd:α→α→Bool)(s:List α)(s3:Int)(r0:List α):Nat→Int→Int→(List α)→((List α))⊕(Int×Int×(List α))
 |0,s3',s5,r0'=> .inr (s3',s5,r0')
 |fuel+1,s3',s5,r0'=>
  if s5<((s.length - s3.toNat:Nat):Int)then
   if eqd (ix r0' (s3+s5)) (ix r0' (s3+(s5 - 1)))=true then
    cy eqd s s3 r0 fuel s3' (s5+1) r0'
   else
    cy eqd s s3 r0 fuel (s3'+1) (s5+1) (r0'.set s3'.toNat (ix r0' (s3+s5)))
  else
   .inr (s3',s5,r0')
def b8{α:Type} [Inhabited α](eqd:α→α→Bool)(s:List α):Nat→Int→(List α)→((List α))⊕(Int×(List α))
 |0,s3,r0=> .inr (s3,r0)
 |fuel+1,s3,r0=>
  if s3<(s.length:Int)then
   if eqd (ix r0 s3) (ix r0 (s3 - 1))=true then
    match cy eqd s s3 r0 (((s.length:Int)-(1:Int)).toNat+1) s3 (1:Int) r0 with
    | .inl r=> .inl r
    | .inr (s3',s5,r0')=>
     .inl ((r0'.take s3'.toNat++List.replicate (r0'.length - s3'.toNat) (default:α)).take s3'.toNat)
   else
    b8 eqd s fuel (s3+1) r0
  else
   .inr (s3,r0)
def cH{α:Type} [Inhabited α](eqd:α→α→Bool)(s:List α):(List α):=
 if(s.length:Int)<2 then
  s
 else
  match b8 eqd s (((s.length:Int)-(1:Int)).toNat+1) (1:Int) s with
  | .inl r=>r
  | .inr (s3,r0)=>
   r0
theorem tc{α:Type} [Inhabited α](eqd:α→α→Bool)(s:List α):cH eqd s=wl eqd s:=by
 unfold cH;split
 ·rename_i h0;match s,h0 with
  | [],_=>rfl
  | [a],_=>rfl
  |a::b::l,h=>exact absurd h (by simp only[List.length_cons];omega)
 ·rename_i h;have hs:1≤s.length:=by omega
  rcases p6 eqd s (default:α) (cy eqd s) (b8 eqd s) (fun _ _ _ _ _ _=>rfl) (fun fuel s3 r0=>by
   rw[b8]) hs (((s.length:Int)-(1:Int)).toNat+1) 1 (by omega) (by omega) (by
   match s,hs with
   |a::l,_=>rfl) (by omega)with e|⟨⟨q,e⟩,e2⟩
  ·rw[e]
  ·rw[e];exact e2.symm
theorem CT{α β:Type} [DecidableEq β](eqd:α→α→Bool)(φ:α→β)(h: ∀a b,eqd a b=true↔φ a=φ b)(l:List α):(wl eqd l).map φ=dd (l.map φ):=by
 have key: ∀(l:List α) (p:α),(rx eqd p l).map φ=uV (φ p) (l.map φ):=by
  intro l;induction l with
  |nil=>intro p;rfl
  |cons b l ih=>
   intro p;rw[List.map_cons];unfold rx uV;by_cases q:eqd b p=true
   ·rw[if_pos q,if_pos ((h b p).1 q)];rw[ih b,(h b p).1 q]
   ·rw[if_neg q,if_neg (fun z=>q ((h b p).2 z)),List.map_cons,ih]
 cases l with
 |nil=>rfl
 |cons a l=>rw[List.map_cons];unfold wl dd;rw[List.map_cons,key]
theorem xl{P:Program}{fi tE m by_:Nat}{fn:Go.Func}{ρf ρt:Nat→Nat}(hen:aA P fi=true)(hf:P.funcs[fi]? =some fn)(hb:fn.body=some (dS ρf ρt (cw Tryz.f92)))(hn:fn.ntmps=61)(hr:fn.results= #[.tmp 2])(hmx:P.follows .mixedOrders=true)
  {α:Type} [Inhabited α] {enc:α→List Value} (es:ar P (ρt 36)=some (tE,m)) (un:P.underlying (ρt 36)=some (.slice tE)) (i64:P.underlying (ρt 3)=some (.int .i64)) (zc:zeroCells P tE=some (enc default)) (hby:(P.info? tE).map (·.bytes)=some by_) (hbb:by_≤100000) (hm: ∀x,(enc x).length=m) (hm0:0<m) (hmB:m≤1000) (h1: ∀x,∀v∈enc x,v.oneCell'=true)
  (X:List Nat) (w:World) (s:List α) (A_s:Option Addr) (c_s:Nat) (s1:List Value) (hs:St X w [(ah A_s,Cl (s.flatMap enc++s1) tE)] []) (z4:Ow A_s s.length c_s m (s.flatMap enc) s1) (hE:tE=ρt 61) (ag:bf P tE=some m) (sz:(P.info? tE).map (·.size)=some m) (eg:P.eqGuardType P.depth tE=false) (eqd:α→α→Bool) (hq: ∀x y,aX P 8 tE (enc x) (enc y)=some (eqd x y)):
  Fn P fi [.slice A_s s.length c_s] w fun v w'=> ∃(A':Option Addr) (c':Nat) (sp':List Value),v= .slice A' (cH eqd s).length c'∧Ow A' (cH eqd s).length c' m ((cH eqd s).flatMap enc) sp'∧St X w' [(ah A',Cl ((cH eqd s).flatMap enc++sp') tE)] []∧Fr (aR [(ah A_s,Cl (s.flatMap enc++s1) tE)]) w w'∧(∀k∈aR [(ah A',Cl ((cH eqd s).flatMap enc++sp') tE)],k∈(aR [(ah A_s,Cl (s.flatMap enc++s1) tE)])∨w.heap.size≤k):=by
 refine io 61 hen hf hb hn rfl ?_;dsimp only[bQ];subst hE;have hs0:=hs;have st:St X w [(ah A_s,Cl (s.flatMap enc++s1) (ρt 61))] []:=hs;have z2: ∀g,ah A_s=some g→g∈(aR [(ah A_s,Cl (s.flatMap enc++s1) (ρt 61))])∨w.heap.size≤g:=fun g hg=> .inl (by simp[aR,hg]);have z3:=Ow.le z4;have hF:=Fr.refl (aR [(ah A_s,Cl (s.flatMap enc++s1) (ρt 61))]) w;refine sq fun _ k1=>rg (dr rfl (Ln k1 (sq fun _ k2=>sq fun _ k3=>rg (Lm rfl (Ly rfl (sg rfl un) (Ly rfl (x7 rfl) (Ln k3 (cD rfl (fun hc1=>?_) (fun hc1=>?_)))))))))
 ·refine sq fun _ k4=>rg (Lm rfl (dr rfl (Ln k4 (wR (jn (fR (gV hr rfl) ?_))))));unfold cH;rewrite[if_pos hc1];exact⟨_,_,_,rfl,z4,(st.pk [0] (by decide)).pickK [],hF,kZ z2 kY⟩
 refine sk k2 (sq fun _ k5=>sq fun _ k6=>rg (dr rfl (Ln k6 (bn (lp (fun q E W=> ∃(s3:Int) (r0:List α),E= [(0,.slice A_s s.length c_s),(3,.int .i64 s3)]∧jq q (fun m=>(b8 eqd s m s3 r0=b8 eqd s (((s.length:Int)-(1:Int)).toNat+1) (1:Int) s∧((s.length:Int)- s3).toNat<m)) (b8 eqd s (((s.length:Int)-(1:Int)).toNat+1) (1:Int) s= .inr (s3,r0))∧(1≤s3∧1≤s3)∧Ow A_s s.length c_s m (r0.flatMap enc) s1∧(r0.length=s.length)∧St X W [(ah A_s,Cl (r0.flatMap enc++s1) (ρt 61))] []∧Fr (aR [(ah A_s,Cl (s.flatMap enc++s1) (ρt 61))]) w W) (((s.length:Int)-(1:Int)).toNat+1) [(0,_),(3,_)] ⟨rfl,rfl,trivial⟩ ⟨_,_,rfl,⟨rfl,Nat.lt_succ_self _⟩,by first|omega|(simp;done)|(simp;omega),z4,rfl,st,hF⟩ k5 ?_ fun hout1=>?_)))))
 ·rintro E w1 ⟨s3,r0,rfl,hLk1,hinv,howr0,hlmr0,st,hF⟩;unfold jq at hLk1;dsimp only at hLk1;refine sq fun _ k7=>rg (Lm rfl (dr rfl (Ln k7 (wR (fR (gV hr rfl) ?_)))));unfold cH;rewrite[if_neg hc1,hLk1];(try dsimp only);exact⟨A_s,c_s,s1,by rw[hlmr0],by rw[hlmr0];exact howr0,(st.pk [0] (by decide)).pickK [],hF,kZ z2 kY⟩
 rintro m E w2 ⟨s3,r0,rfl,⟨hL1,hmu⟩,hinv,howr0,hlmr0,st,hF⟩;obtain⟨fuel,rfl⟩: ∃q,m=q+1:=⟨m - 1,by omega⟩;have z1:=Ow.le howr0;refine sq fun _ k8=>sq fun _ k9=>rg (Lm rfl (Lm rfl (Ly rfl (sg rfl un) (Ly rfl (x7 rfl) (Ln k9 (cD rfl (fun hc2=>?_) (fun hc2=>?_)))))))
 ·refine sk k8 (sq fun _ wt=>bn (sq fun _ zH=>?_));refine ju (fun W=>St X W (ci (Fe st) [0]) (I3 st)) [(true,0),(true,1),(true,2),(true,3),(true,4),(true,5),(true,6),(true,7),(true,8),(true,9)] hmx (by kernel_rfl) (by kernel_rfl) rfl ((st.pk [0] (by decide)).drew) ?_;have st:=st.drew;have hF:=hF.step0 (Fr.drew _);refine Pm rfl (Pm rfl ?_);obtain⟨gi1,egi1⟩:=(howr0).some_ (by first|omega|(simp;done)|(simp;omega));subst egi1;refine Py rfl (eW (q:=s3) rfl rfl rfl es (by first|omega|(simp;done)|(simp;omega)) (by first|omega|(simp;done)|(simp;omega))) ?_;refine Py rfl (nP (q:=s3) rfl rfl ag (fun _ h=>gy.own (i:=0) h.hp rfl howr0 hm0) hm (by first|omega|(simp;done)|(simp;omega)) (by first|omega|(simp;done)|(simp;omega))) ?_;refine Pm rfl (Pm rfl (Py rfl (nQ (c:=s3 - 1) rfl rfl rfl (bP (by first|omega|(simp;done)|(simp;omega)))) ?_));refine Py rfl (eW (q:=s3 - 1) rfl rfl rfl es (by first|omega|(simp;done)|(simp;omega)) (by first|omega|(simp;done)|(simp;omega))) ?_;refine Py rfl (nP (q:=s3 - 1) rfl rfl ag (fun _ h=>gy.own (i:=0) h.hp rfl howr0 hm0) hm (by first|omega|(simp;done)|(simp;omega)) (by first|omega|(simp;done)|(simp;omega))) ?_;refine Py rfl (Fa (b:=eqd (ix r0 s3) (ix r0 (s3 - 1))) rfl rfl rfl eg (by rw[ag];simp) (hq (ix r0 s3) (ix r0 (s3 - 1)))) ?_;refine lJ (ck (zH _ _ (cB rfl (fun hc3=>?_) (fun hc3=>?_))))
  ·refine sq fun _ zG=>rg (Lm rfl (Lm rfl (Ly rfl (mK (enc:=enc) (xs:=r0) (p:=s3) rfl rfl (hlmr0).symm es rfl rfl (by first|omega|(simp;done)|(simp;omega)) (by first|omega|(simp;done)|(simp;omega)) howr0) ?_)));refine dr rfl (Ln zG (sq fun _ zN=>sq fun _ BC=>rg (dr rfl (Ln BC (bn (lp (fun q E W=> ∃(s3':Int) (s5:Int) (r0':List α),E= [(0,.slice (some ⟨gi1,0,none⟩) s.length c_s),(3,.int .i64 s3'),(4,.slice (some ⟨gi1,0+s3.toNat*m,none⟩) (s.length - s3.toNat) (c_s - s3.toNat)),(5,.int .i64 s5)]∧jq q (fun m=>(cy eqd s s3 r0 m s3' s5 r0'=cy eqd s s3 r0 (((s.length:Int)-(1:Int)).toNat+1) s3 (1:Int) r0∧((s.length:Int)- s5).toNat<m)) (cy eqd s s3 r0 (((s.length:Int)-(1:Int)).toNat+1) s3 (1:Int) r0= .inr (s3',s5,r0'))∧(1≤s5∧s3≤s3'∧s3'<s3+s5∧s5≤s.length - s3∧1≤s3)∧Ow (some ⟨gi1,0,none⟩) s.length c_s m (r0'.flatMap enc) s1∧(r0'.length=s.length)∧St X W [(ah (some ⟨gi1,0,none⟩),Cl (r0'.flatMap enc++s1) (ρt 61))] []∧Fr (aR [(ah (some ⟨gi1,0,none⟩),Cl (s.flatMap enc++s1) (ρt 61))]) w W) (((s.length:Int)-(1:Int)).toNat+1) [(0,_),(3,_),(4,_),(5,_)] ⟨rfl,rfl,rfl,rfl,trivial⟩ ⟨_,_,_,rfl,⟨rfl,Nat.lt_succ_self _⟩,by first|omega|(simp;done)|(simp;omega),howr0,hlmr0,st,hF⟩ zN ?_ fun hout2=>?_))))))
   ·rintro E w3 ⟨s3',s5,r0',rfl,hLk2,hinv,howr0',hlmr0',st,hF⟩;unfold jq at hLk2;dsimp only at hLk2;refine sq fun _ BD=>rg (Lm rfl (Lm rfl (Ly rfl (mK (enc:=enc) (xs:=r0') (p:=s3') rfl rfl (hlmr0').symm es rfl rfl (by first|omega|(simp;done)|(simp;omega)) (by first|omega|(simp;done)|(simp;omega)) howr0') ?_)));refine La rfl (pz (i:=0) (enc:=enc) (xs:=r0') (u:=(default:α)) (p:=s3') rfl rfl rfl (hlmr0').symm es zc rfl hm (h1 _) howr0' (by first|omega|(simp;done)|(simp;omega)) (by first|omega|(simp;done)|(simp;omega)) st.hp rfl (fun w4 how1 (hp:Hp w4 [_]) hf=>?_));have st:St X w4 [_] []:=st.set (i:=0) rfl hp hf;have st:St X w4 [_] []:=st;have hF:=hF.step hf (fun y hy=>z2 y (by simp at hy;subst hy;rfl));have hln1:(r0'.take s3'.toNat++List.replicate (r0'.length - s3'.toNat) (default:α)).length=s.length:=by simp only[List.length_append,List.length_take,List.length_replicate];omega
    refine Ln BD (sq fun _ E6=>rg (Lm rfl (Lm rfl (Ly rfl (oq (enc:=enc) (xs:=r0'.take s3'.toNat++List.replicate (r0'.length - s3'.toNat) (default:α)) (q:=s3') rfl rfl (hln1).symm es rfl rfl (by first|omega|(simp;done)|(simp;omega)) (by first|omega|(simp;done)|(simp;omega)) how1) ?_))));have how2:=Ow.cut (enc:=enc) (xs:=r0'.take s3'.toNat++List.replicate (r0'.length - s3'.toNat) (default:α)) hm how1 (hln1).symm s3'.toNat;have st:St X _ [_] []:=st.conv (i:=0) rfl (kL s3'.toNat);refine dr rfl (Ln E6 (wR (tO (jn (jn (tO (jn (fR (gV hr rfl) ?_))))))));have hret1:b8 eqd s (((s.length:Int)-(1:Int)).toNat+1) (1:Int) s= .inl ((r0'.take s3'.toNat++List.replicate (r0'.length - s3'.toNat) (default:α)).take s3'.toNat):=by rewrite[←hL1,b8];rewrite[if_pos hc2,if_pos hc3,hLk2];(try dsimp only);all_goals rfl
    have he3:cH eqd s=((r0'.take s3'.toNat++List.replicate (r0'.length - s3'.toNat) (default:α)).take s3'.toNat):=by unfold cH;rewrite[if_neg hc1,hret1];(try dsimp only);all_goals rfl
    rewrite[he3];exact⟨_,_,_,rfl,how2,(st.pk [0] (by decide)).pickK [],hF,kZ z2 kY⟩
   rintro m E w5 ⟨s3',s5,r0',rfl,⟨hL2,hmu⟩,hinv,howr0',hlmr0',st,hF⟩;obtain⟨fuel,rfl⟩: ∃q,m=q+1:=⟨m - 1,by omega⟩;have hlehowr0':=Ow.le howr0';refine sq fun _ HB=>sq fun _ Fm=>rg (Lm rfl (Lm rfl (Ly rfl (sg rfl un) (Ly rfl (x7 rfl) (Ln Fm (cD rfl (fun hc4=>?_) (fun hc4=>?_)))))))
   ·refine sk HB (sq fun _ AH=>bn (sq fun _ BF=>?_));refine ju (fun W=>St X W (ci (Fe st) [0]) (I3 st)) [(true,0),(true,1),(true,2),(true,3),(true,4),(true,5),(true,6),(true,7),(true,8),(true,9)] hmx (by kernel_rfl) (by kernel_rfl) rfl ((st.pk [0] (by decide)).drew) ?_;have st:=st.drew;have hF:=hF.step0 (Fr.drew _);refine Pm rfl (Pm rfl (Py rfl (nu (p:=s3) (q:=s5) rfl rfl rfl es (by first|omega|(simp;done)|(simp;omega)) (by first|omega|(simp;done)|(simp;omega)) (by first|omega|(simp;done)|(simp;omega))) ?_));refine Py rfl (nP (q:=s3+s5) rfl rfl ag (fun _ h=>gy.own (i:=0) h.hp rfl howr0' hm0) hm (by first|omega|(simp;done)|(simp;omega)) (by first|omega|(simp;done)|(simp;omega))) ?_;refine Pm rfl (Pm rfl (Py rfl (nQ (c:=s5 - 1) rfl rfl rfl (bP (by first|omega|(simp;done)|(simp;omega)))) ?_));refine Py rfl (nu (p:=s3) (q:=s5 - 1) rfl rfl rfl es (by first|omega|(simp;done)|(simp;omega)) (by first|omega|(simp;done)|(simp;omega)) (by first|omega|(simp;done)|(simp;omega))) ?_;refine Py rfl (nP (q:=s3+(s5 - 1)) rfl rfl ag (fun _ h=>gy.own (i:=0) h.hp rfl howr0' hm0) hm (by first|omega|(simp;done)|(simp;omega)) (by first|omega|(simp;done)|(simp;omega))) ?_;refine Py rfl (Fb (b:=eqd (ix r0' (s3+s5)) (ix r0' (s3+(s5 - 1)))) rfl rfl rfl eg (by rw[ag];simp) (hq (ix r0' (s3+s5)) (ix r0' (s3+(s5 - 1))))) ?_;refine lJ (ck (BF _ _ (O4 rfl (fun hc5=>?_) (fun hc5=>?_))))
    ·refine sq fun _ D6=>rg (Lm rfl (Lm rfl (Lm rfl (Lm rfl (Ly rfl (nu (p:=s3) (q:=s5) rfl rfl rfl es (by first|omega|(simp;done)|(simp;omega)) (by first|omega|(simp;done)|(simp;omega)) (by first|omega|(simp;done)|(simp;omega))) ?_)))));refine Ly rfl (nP (q:=s3+s5) rfl rfl ag (fun _ e=>e▸gy.own (i:=0) st.hp rfl howr0' hm0) hm (by first|omega|(simp;done)|(simp;omega)) (by first|omega|(simp;done)|(simp;omega))) ?_;refine Ly rfl (eW (q:=s3') rfl rfl rfl es (by first|omega|(simp;done)|(simp;omega)) (by first|omega|(simp;done)|(simp;omega))) ?_;refine La rfl (pB (i:=0) (q:=s3') (u:=ix r0' (s3+s5)) rfl rfl rfl rfl rfl hm sz (h1 _) howr0' st.hp rfl (by first|omega|(simp;done)|(simp;omega)) (by first|omega|(simp;done)|(simp;omega)) hm0 (fun w6 how3 (hp:Hp w6 [_]) hf=>?_));have st:St X w6 [_] []:=st.set (i:=0) rfl hp hf;have st:St X w6 [_] []:=st;have hF:=hF.step hf (fun y hy=>z2 y (by simp at hy;subst hy;rfl));have hln2:(r0'.set s3'.toNat (ix r0' (s3+s5))).length=s.length:=by rw[List.length_set];exact hlmr0'
     rewrite[hln2]at how3;refine Ln D6 (rg (Lm rfl (Ly rfl (da (c:=s3'+1) rfl rfl rfl (bP (by first|omega|(simp;done)|(simp;omega)))) ?_)));refine dr rfl (ch (kX (ck (AH _ _ (rg (Lm rfl (Ly rfl (da (c:=s5+1) rfl rfl rfl (bP (by first|omega|(simp;done)|(simp;omega)))) ?_)))))));refine dr rfl (ch (ck (?_)));exact⟨fuel,[(0,_),(3,_),(4,_),(5,_)],Nat.lt_succ_self _,⟨rfl,rfl,rfl,rfl,trivial⟩,(s3'+1),(s5+1),(r0'.set s3'.toNat (ix r0' (s3+s5))),rfl,⟨by rewrite[←hL2,cy];rewrite[if_pos hc4,if_neg hc5];rfl,by first|omega|(simp;done)|(simp;omega)⟩,by first|omega|(simp;done)|(simp;omega),how3,hln2,(st.pk [0] (by decide)).pickK [],hF⟩
    refine dt (kX (ck (AH _ _ (rg (Lm rfl (Ly rfl (da (c:=s5+1) rfl rfl rfl (bP (by first|omega|(simp;done)|(simp;omega)))) ?_))))));refine dr rfl (ch (ck (?_)));exact⟨fuel,[(0,_),(3,_),(4,_),(5,_)],Nat.lt_succ_self _,⟨rfl,rfl,rfl,rfl,trivial⟩,s3',(s5+1),r0',rfl,⟨by rewrite[←hL2,cy];rewrite[if_pos hc4,if_pos hc5];rfl,by first|omega|(simp;done)|(simp;omega)⟩,by first|omega|(simp;done)|(simp;omega),howr0',hlmr0',(st.pk [0] (by decide)).pickK [],hF⟩
   refine eQ (iU (iU (gT (ck (?_)))));exact hout2 _ [(0,_),(3,_),(4,_),(5,_)] _ ⟨rfl,rfl,rfl,rfl,trivial⟩ ⟨s3',s5,r0',rfl,show _=_ from by rewrite[←hL2,cy];rewrite[if_neg hc4];rfl,by first|omega|(simp;done)|(simp;omega),howr0',hlmr0',(st.pk [0] (by decide)).pickK [],hF⟩
  refine dt (kX (ck (wt _ _ (rg (Lm rfl (Ly rfl (da (c:=s3+1) rfl rfl rfl (bP (by first|omega|(simp;done)|(simp;omega)))) ?_))))));refine dr rfl (ch (ck (?_)));exact⟨fuel,[(0,_),(3,_)],Nat.lt_succ_self _,⟨rfl,rfl,trivial⟩,(s3+1),r0,rfl,⟨by rewrite[←hL1,b8];rewrite[if_pos hc2,if_neg hc3];rfl,by first|omega|(simp;done)|(simp;omega)⟩,by first|omega|(simp;done)|(simp;omega),howr0,hlmr0,(st.pk [0] (by decide)).pickK [],hF⟩
 refine eQ (iU (iU (gT (ck (?_)))));exact hout1 _ [(0,_),(3,_)] _ ⟨rfl,rfl,trivial⟩ ⟨s3,r0,rfl,show _=_ from by rewrite[←hL1,b8];rewrite[if_neg hc2];rfl,by first|omega|(simp;done)|(simp;omega),howr0,hlmr0,(st.pk [0] (by decide)).pickK [],hF⟩
end Go.Proofs.YtmpeiadlohbikaaGreatDoor.V
end

section
set_option linter.unusedVariables false
set_option linter.unusedSimpArgs false
namespace Go.Proofs.YtmpeiadlohbikaaGreatDoor.V
open Go.RowKit
section
variable [am] {U:bG} {P:Program} {X:List Nat} {w w':World} {ρ:Nat→Rz} {n:Nat} {H:Hs U}
theorem Hj{s:aZ}{xs:List (TT U.ty s)}{el:Nat}{A:Option Addr}{c:Nat}{cs sp:List Value}(M:bc U X (· =w) ρ n H)(hf:Fr [] w w')
  (hm:0<aM U s) (hden:aT U (af ρ H++X) (· =w) s xs cs) (how:Ow A xs.length c (aM U s) cs sp) (hblk: ∀g,ah A=some g→w'.heap[g]? =some (Cl (cs++sp) el)) (hg: ∀g,ah A=some g→w.heap.size≤g):
  ∃ρ',cC (Vw U X w' ρ' (n+1) ((n,.row 0 s xs el)::H)) ⟨false,[(1,.own n 0)]⟩ (.slice A xs.length c)∧bc U X (· =w') ρ' (n+1) ((n,.row 0 s xs el)::H)∧bM ρ n H w ρ' (n+1) ((n,.row 0 s xs el)::H) w':=by
 have hb: ∀g',aq (ct ρ n ⟨A,c⟩) (n,(.row 0 s xs el:aJ U))=some g'→w.heap.size≤g':=fun g' h=>hg g' (jM h);have st:=bM.push (ρ:=ρ) M.xd M.lt hf ⟨A,c⟩ (.row 0 s xs el:aJ U) hb;refine⟨ct ρ n ⟨A,c⟩,?_,M.push hf _ _ hb ⟨hm,cs,sp,aT.mv (st.mv (X:=X)) hden,by rw[aO];exact how,fun g h w2 h2=>by subst h2;rw[aO]at h;exact hblk g h⟩,st⟩;refine gu ⟨Nat.lt_succ_self _,_,_,_,rfl,fun v' l m hr=>?_⟩;rw[nS]at hr;injection hr with hr;injection hr with h1 hr;injection hr with h2 h3;subst h1;subst h2;subst h3;exact⟨Nat.le_refl _,fun _=>⟨by rw[aO],rfl,by rw[aO]⟩⟩
theorem zo{i v:Nat}{s:aZ}{xs xs':List (TT U.ty s)}{el:Nat}{A':Option Addr}{c':Nat}{cs' sp':List Value}(M:bc U X (· =w) ρ n H)(hi:i<n)(hl:aD H i=some (.row v s xs el))(hm:0<aM U s)(hf:Fr (ah (ρ i).A).toList w w')
  (hb: ∀g,ah A'=some g→ah (ρ i).A=some g∨w.heap.size≤g) (hden:aT U (af ρ H++X) (· =w) s xs' cs') (how:Ow A' xs'.length c' (aM U s) cs' sp') (hblk: ∀g,ah A'=some g→w'.heap[g]? =some (Cl (cs'++sp') el)):
  ∃ρ',cC (Vw U X w' ρ' n (dQ H i (.row (v+1) s xs' el))) ⟨false,[(1,.own i (v+1))]⟩ (.slice A' xs'.length c')∧bc U X (· =w') ρ' n (dQ H i (.row (v+1) s xs' el))∧bM ρ n H w ρ' n (dQ H i (.row (v+1) s xs' el)) w':=by
 have hb0: ∀g',aq (ct ρ i ⟨A',c'⟩) (i,(.row (v+1) s xs' el:aJ U))=some g'→aq ρ (i,(.row v s xs el:aJ U))=some g'∨w.heap.size≤g':=fun g' h=>hb g' (jM h);have hr0: ∀v' l' m',bk (some (.row (v+1) s xs' el:aJ U))=some (v',l',m')→ ∃v0 l m,bk (some (.row v s xs el:aJ U))=some (v0,l,m)∧v0≤v'∧(v0=v'→(⟨A',c'⟩:Rz)=ρ i∧l'=l∧m'=m):=fun v' l' m' hr=>by
  injection hr with hr;injection hr with g1 hr;subst g1;exact⟨v,_,_,rfl,Nat.le_succ _,fun h=>by omega⟩
 have st:=bM.upd (n:=n) M.xd M.nd hl hf ⟨A',c'⟩ hb0 hr0 (fun h=>by cases h);have M':=M.upd hl hf ⟨A',c'⟩ hb0 hr0 (fun h=>by cases h) (by
  refine⟨hm,cs',sp',aT.mv (st.mv (X:=X)) hden,by rw[aO];exact how,fun g hg' w2 h2=>?_⟩;subst h2;rw[aO]at hg';exact hblk g hg')
 refine⟨_,?_,M',st⟩;refine gu ⟨hi,_,_,_,rfl,fun v' l m hr=>?_⟩;rw[fH ⟨_,hl⟩,if_pos rfl]at hr;injection hr with hr;injection hr with g1 hr;injection hr with g2 g3;subst g1;subst g2;subst g3;exact⟨Nat.le_refl _,fun _=>⟨by rw[aO],rfl,by rw[aO]⟩⟩
theorem Hl{i v:Nat}{s:aZ}{xs xs':List (TT U.ty s)}{el:Nat}{cs' sp':List Value}(M:bc U X (· =w) ρ n H)(hl:aD H i=some (.row v s xs el))(hm:0<aM U s)(hf:Fr (ah (ρ i).A).toList w w')(hlen:xs'.length=xs.length)
  (hden:aT U (af ρ H++X) (· =w) s xs' cs') (how:Ow (ρ i).A xs'.length (ρ i).c (aM U s) cs' sp') (hblk: ∀g,ah (ρ i).A=some g→w'.heap[g]? =some (Cl (cs'++sp') el)):
  ∃ρ',bc U X (· =w') ρ' n (dQ H i (.row v s xs' el))∧bM ρ n H w ρ' n (dQ H i (.row v s xs' el)) w':=by
 have hb0: ∀g',aq (ct ρ i ⟨(ρ i).A,(ρ i).c⟩) (i,(.row v s xs' el:aJ U))=some g'→aq ρ (i,(.row v s xs el:aJ U))=some g'∨w.heap.size≤g':=fun g' h=> .inl (jM h);have hr0: ∀v' l' m',bk (some (.row v s xs' el:aJ U))=some (v',l',m')→ ∃v0 l m,bk (some (.row v s xs el:aJ U))=some (v0,l,m)∧v0≤v'∧(v0=v'→(⟨(ρ i).A,(ρ i).c⟩:Rz)=ρ i∧l'=l∧m'=m):=fun v' l' m' hr=>by
  injection hr with hr;injection hr with g1 hr;injection hr with g2 g3;subst g1;subst g2;subst g3;exact⟨v,_,_,rfl,Nat.le_refl _,fun _=>⟨rfl,hlen,rfl⟩⟩
 have st:=bM.upd (n:=n) M.xd M.nd hl hf ⟨(ρ i).A,(ρ i).c⟩ hb0 hr0 (fun h=>by cases h);have M':=M.upd hl hf ⟨(ρ i).A,(ρ i).c⟩ hb0 hr0 (fun h=>by cases h) (by
  refine⟨hm,cs',sp',aT.mv (st.mv (X:=X)) hden,by rw[aO];exact how,fun g hg' w2 h2=>?_⟩;subst h2;rw[aO]at hg';exact hblk g hg')
 exact⟨_,M',st⟩
theorem Q7{Y:List Nat}(hf:Fr [] w w'):Mv Y (· =w) Y (· =w'):=fun w2 h2=>⟨w,[],rfl,by subst h2;exact hf,fun _ h=>(by cases h),fun y hy=> .inl hy⟩
end
theorem eE{U:bG}{P:Program}{tE:Nat}{ei:TI U}{s:aZ}(hti:aU U P tE ei)(hz: ∃z,cl 20 s ei.zero fun x=>x=z)(Y:List Nat)(w:World): ∃I:Inhabited (Em U Y w s),zeroCells P tE=some (default:Em U Y w s).c:=by
 obtain⟨z,hz⟩:=hz;obtain⟨zs,h1,h2,h3⟩:=hti.zero;have F:am:=⟨[],P⟩;obtain⟨x,hx,hd⟩:=bq hz;exact⟨⟨⟨x,zs,hd _ _ _ _ _ _ (h3 F Y (· =w) (fun _=>⟨none,0⟩) 0 [])⟩⟩,h1⟩
section
variable {U:bG} {P:Program} {fi tE:Nat} {fn:Go.Func} {ρf ρt:Nat→Nat} {s:aZ} {ei:TI U}
def oS(U:bG)(s:aZ)(tE:Nat):aW U:=⟨[.d (.sl s)],fun xs es K=> ∃l:List (TT U.ty s),xs= [⟨false,[(1,.d (.sl s) l)]⟩]∧es= []∧l.length≤1000000∧K (.v ⟨false,[(1,.own 0 0)]⟩) [.row 0 s l tE]⟩
theorem zp [am]{X:List Nat}{w:World}{ρ:Nat→Rz}{n:Nat}{H:Hs U}{l:List (TT U.ty s)}{v:Value}(h:cC (Vw U X w ρ n H) ⟨false,[(1,.d (.sl s) l)]⟩ v):
  ∃A c,∃em:List (Em U (af ρ H++X) w s),em.map (·.x)=l∧v= .slice A em.length c∧em.length=l.length∧gy (af ρ H++X) w A em.length c (aM U s) (em.flatMap (·.c)):=by
 obtain⟨A,c,cs,e,hd,hr,h1,h2⟩:=(show aC U (af ρ H++X) (· =w) (.sl s) l [v]from(bI.one1 h).1).inv;injection e with e;subst e;obtain⟨em,e1,e2⟩:=wk hd;have hl:em.length=l.length:=by rw[←e1,List.length_map]
 exact⟨A,c,em,e1,by rw[hl],hl,⟨by rw[e2];exact hr w rfl,by rw[ba (fun x=>x.hl)],by rw[hl];exact h1,h2⟩⟩
theorem oa(hen:aA P fi=true)(hf:P.funcs[fi]? =some fn)(hb:fn.body=some (dS ρf ρt (cw Tryz.f79)))(hn:fn.ntmps=8)(hr:fn.results= #[.tmp 2])(hmx:P.follows .mixedOrders=true)(i64:P.underlying (ρt 3)=some (.int .i64))
  (es:ar P (ρt 36)=some (tE,aM U s)) (un:P.underlying (ρt 36)=some (.slice tE)) (hti:aU U P tE ei) (hz: ∃z,cl 20 s ei.zero fun x=>x=z) (hbb:ei.by_≤100000) (hm0:0<aM U s) (hmB:aM U s≤1000):bi P U fi (oS U s tE):=fun [F:am] hpr X w ρ es0 xs vs K M hv hrun=>by
 obtain⟨l,rfl,rfl,hl,hK⟩:=hrun;obtain⟨v,us,rfl,h1,h2⟩:=hv;rw[show us= []from h2];obtain⟨A,c,em,e1,rfl,e2,hs⟩:=zp h1;obtain⟨I,hu⟩:=eE hti hz (af ρ (ax 0 [])++X) w;refine Fn.mono (CS (enc:=fun e:Em U (af ρ (ax 0 [])++X) w s=>e.c) hen hf hb hn hr hmx es un i64 (by exact hu) hti.by_ hbb (fun x=>x.hl) hm0 hmB (fun x=>x.h1) X w (M.lo w rfl) em A c hs (by omega)) ?_;rintro v w' ⟨A',c',sp',rfl,how,st,hf',hk⟩;rw[e2]at how⊢;obtain⟨ρ',a1,a2,a3⟩:=Hj (el:=tE) M hf' hm0 (by have:=iw em;rw[e1]at this;exact this) how (fun g hg=>st.hp.at (i:=0) (by rw[hg];rfl)) (fun g hg=>(hk g (by simp[aR,hg])).elim (fun h=>by cases h) id);exact⟨_,_,ρ',hK,a1,a2,a3⟩
def ry(U:bG)(s:aZ)(tE:Nat):aW U:=⟨[.d (.sl (.sl s))],fun xs es K=> ∃l1 l2:List (TT U.ty s),xs= [⟨false,[(1,.d (.sl (.sl s)) [l1,l2])]⟩]∧es= []∧l1.length≤1000000∧l2.length≤1000000∧K (.v ⟨false,[(1,.own 0 0)]⟩) [.row 0 s (l1++l2) tE]⟩
theorem uI [am]{Y:List Nat}{w:World}{l:List (TT U.ty s)}{v:Value}(h:aC U Y (· =w) (.sl s) l [v]):
  ∃A c,∃em:List (Em U Y w s),em.map (·.x)=l∧v= .slice A em.length c∧em.length=l.length∧gy Y w A em.length c (aM U s) (em.flatMap (·.c)):=by
 obtain⟨A,c,cs,e,hd,hr,h1,h2⟩:=h.inv;injection e with e;subst e;obtain⟨em,e1,e2⟩:=wk hd;have hl:em.length=l.length:=by rw[←e1,List.length_map]
 exact⟨A,c,em,e1,by rw[hl],hl,⟨by rw[e2];exact hr w rfl,by rw[ba (fun x=>x.hl)],by rw[hl];exact h1,h2⟩⟩
theorem uJ{Y:List Nat}{S:World→Prop}{l:List (TT U.ty s)}{vs:List Value}(h:aC U Y S (.sl s) l vs): ∃v,vs= [v]:=by
 obtain⟨A,c,cs,e,_⟩:=h.inv;exact⟨_,e⟩
theorem td{fg:Go.Func}(hen:aA P fi=true)(hf:P.funcs[fi]? =some fn)(hb:fn.body=some (dS ρf ρt (cw Tryz.f90)))(hn:fn.ntmps=36)(hr:fn.results= #[.tmp 2])
  (gen:aA P (ρf 153)=true) (gf:P.funcs[ρf 153]? =some fg) (gb:fg.body=some (dS ρf ρt (cw Tryz.f153))) (gn:fg.ntmps=27) (gr:fg.results= #[.tmp 4]) (hmx:P.follows .mixedOrders=true) (i64:P.underlying (ρt 3)=some (.int .i64))
  (es:ar P (ρt 36)=some (tE,aM U s)) (un:P.underlying (ρt 36)=some (.slice tE)) (es2:ar P (ρt 249)=some (ρt 36,1)) (un2:P.underlying (ρt 249)=some (.slice (ρt 36))) (pl:c6 P (ρt 36)=true)
  (hti:aU U P tE ei) (hz: ∃z,cl 20 s ei.zero fun x=>x=z) (hbb:ei.by_≤100000) (hm0:0<aM U s) (hmB:aM U s≤1000):bi P U fi (ry U s tE):=fun [F:am] hpr X w ρ es0 xs vs K M hv hrun=>by
 obtain⟨l1,l2,rfl,rfl,hl1,hl2,hK⟩:=hrun;obtain⟨v,us,rfl,h1,h2⟩:=hv;rw[show us= []from h2];obtain⟨A,c,cs,e,hd,hrd,hlc,hcm⟩:=(show aC U (af ρ (ax 0 [])++X) (· =w) (.sl (.sl s)) [l1,l2] [v]from(bI.one1 h1).1).inv;injection e with e;subst e;obtain⟨v1,r1,rfl,d1,_,hd⟩:=aT.cons_inv hd;obtain⟨v2,r2,rfl,d2,_,hd⟩:=aT.cons_inv hd;have hr2:=hd.nil_inv;subst hr2;obtain⟨v1,rfl⟩:=uJ d1;obtain⟨v2,rfl⟩:=uJ d2;obtain⟨A1,C1,em1,e1,rfl,n1,s1⟩:=uI d1;obtain⟨A2,C2,em2,e2,rfl,n2,s2⟩:=uI d2;obtain⟨I,hu⟩:=eE hti hz (af ρ (ax 0 [])++X) w;have hX:=M.lo w rfl;refine Fn.mono (xj (tS:=0) (enc:=fun e:Em U (af ρ (ax 0 [])++X) w s=>e.c) hen hf hb hn hr hmx es un i64 (by exact hu) hti.by_ hbb (fun x=>x.hl) hm0 hmB (fun x=>x.h1) X w hX em1 A1 C1 em2 A2 C2 A c s1 s2 ⟨hrd w rfl,rfl,hlc,hcm⟩ (by omega) (by omega) es2 un2 pl
  (fun X w hX n hn0 hn1=>Hi (enc:=fun e:Em U _ _ s=>e.c) gen gf gb gn gr hmx es un i64 (by exact hu) hti.by_ hbb (fun x=>x.hl) hm0 hmB (fun x=>x.h1) X w hX n hn0 hn1)) ?_
 rintro v w' ⟨A',c',sp',rfl,how,st,hf',hk⟩;have hlen:(em1++em2).length=(l1++l2).length:=by rw[List.length_append,List.length_append,n1,n2]
 rw[hlen]at how⊢;obtain⟨ρ',a1,a2,a3⟩:=Hj (el:=tE) M hf' hm0 (by have:=iw (em1++em2);rw[List.map_append,e1,e2]at this;exact this) how (fun g hg=>st.hp.at (i:=0) (by rw[hg];rfl)) (fun g hg=>(hk g (by simp[aR,hg])).elim (fun h=>by cases h) id);exact⟨_,_,ρ',hK,a1,a2,a3⟩
def bW{α:Type}(l:List α)(g:α→Bool):Int:=match l.findIdx? g with
 |some i=>(i:Int)
 |none=> -1
theorem wm{α:Type} [Inhabited α](l:List α)(g:α→Bool):aQ l g=bW l g:=by
 unfold bW;rcases jg l g with⟨a,b,c,d⟩|⟨a,b⟩
 ·obtain⟨k,hk⟩:=Int.eq_ofNat_of_zero_le a;rw[hk]at b c d⊢;have hkl:k<l.length:=by omega
  have e:l.findIdx? g=some k:=by
   rw[List.findIdx?_eq_some_iff_getElem];refine⟨hkl,by rw[←mD l hkl];exact c,fun j hj=>?_⟩;have:=d j (by omega) (by omega);rw[mD l (by omega)]at this;simp[this]
  rw[e]
 ·rw[a];have e:l.findIdx? g=none:=by
   rw[List.findIdx?_eq_none_iff];intro x hx;obtain⟨j,hj,rfl⟩:=List.getElem_of_mem hx;have:=b j (by omega) (by omega)
   rwa [mD l hj]at this
  rw[e]
theorem te{α β:Type}(φ:α→β)(l:List α)(g:β→Bool):bW l (fun x=>g (φ x))=bW (l.map φ) g:=by
 unfold bW;rw[List.findIdx?_map];rfl
def rz(U:bG)(s:aZ):aW U:=⟨[.d (.sl s),.f1 s],fun xs es K=> ∃(l:List (TT U.ty s)) (g:TT U.ty s→Bool),xs= [⟨false,[(1,.d (.sl s) l)]⟩,⟨false,[(1,.f1 s g)]⟩]∧es= []∧K (.v ⟨false,[(1,.d (.int .i64) (bW l g))]⟩) []⟩
theorem rA [am]{X:List Nat}{w w1:World}{ρ:Nat→Rz}{n:Nat}{H:Hs U}{g:TT U.ty s→Bool}{u:Value}(hpr:am.pr=P)(hag:dR s=true)(h:Vw U X w ρ n H (.f1 s g) [u])(x:Em U (af ρ H++X) w s){O:List Nat}(hf:Fr O w w1)(hO: ∀y∈O,y∈af ρ H)(xd: ∀g∈af ρ H,g∉am.xf)(hY: ∀z∈gB,z∈af ρ H++X):
  po P u [.agg x.c.toArray] w1 fun v w2=>v= .bool (g x.x)∧Fr [] w1 w2:=by
 obtain⟨u',e,hv⟩:=h;injection e with e;subst e;have mv:Mv (af ρ H++X) (· =w) (af ρ H++X) (· =w1):=fun w2 h2=>⟨w,O,rfl,by subst h2;exact hf,fun y hy=>⟨List.mem_append_left _ (hO y hy),xd y (hO y hy)⟩,fun y hy=> .inl hy⟩;have h1:=xZ.call (v:= .agg x.c.toArray) (hv.mv mv) hY (t:=x.x) (by simpa[Value.cells]using aC.mv mv x.den) (by unfold dv;rw[hag];simp[Value.cells]);rw[hpr]at h1;exact h1
theorem rB(hen:aA P fi=true)(hf:P.funcs[fi]? =some fn)(hb:fn.body=some (dS ρf ρt (cw Tryz.f155)))(hn:fn.ntmps=19)(hr:fn.results= #[.tmp 4])(hmx:P.follows .mixedOrders=true)(i64:P.underlying (ρt 3)=some (.int .i64))(hag:dR s=true)
  (es:ar P (ρt 35)=some (tE,aM U s)) (un:P.underlying (ρt 35)=some (.slice tE)) (hE:tE=ρt 128) (ag:bf P tE=some (aM U s)) (sz:(P.info? tE).map (·.size)=some (aM U s)) (hti:aU U P tE ei) (hz: ∃z,cl 20 s ei.zero fun x=>x=z) (hbb:ei.by_≤100000) (hm0:0<aM U s) (hmB:aM U s≤1000):bi P U fi (rz U s):=fun [F:am] hpr X w ρ es0 xs vs K M hv hrun=>by
 obtain⟨l,g,rfl,rfl,hK⟩:=hrun;obtain⟨v,us,rfl,h1,v2,us2,rfl,h2,h3⟩:=hv;rw[show us2= []from h3];obtain⟨A,c,em,e1,rfl,e2,hs⟩:=zp h1;obtain⟨I,hu⟩:=eE hti hz (af ρ (ax 0 [])++X) w;have h2:Vw U X w ρ 0 (ax 0 []) (.f1 s g) [v2]:=(bI.one1 h2).1;refine Fn.mono (rv (enc:=fun e:Em U (af ρ (ax 0 [])++X) w s=>e.c) hen hf hb hn hr hmx es un i64 (by exact hu) hti.by_ hbb (fun x=>x.hl) hm0 hmB (fun x=>x.h1) X w (M.lo w rfl) em A c v2 (fun e=>g e.x) hs (fun w1 x0 hw=>rA hpr hag h2 x0 hw (fun y hy=>by cases hy) M.xd M.gY) hE ag sz) ?_;rintro v w' ⟨rfl,hf'⟩;rw[wm,te (fun e:Em U (af ρ (ax 0 [])++X) w s=>e.x),e1];have hr:dq .i64 (bW l g):=by
  unfold bW;have:=hs.le;cases hq:l.findIdx? g with
  |none=>exact⟨by decide,by decide⟩
  |some k=>have:=(List.findIdx?_eq_some_iff_getElem.1 hq).1;simp only[dq];omega
 exact⟨_,_,ρ,hK,gu (aC.int .i64 _ hr),(M.keep0 hf').1,(M.keep0 hf').2⟩
theorem ic [am]{X:List Nat}{w:World}{ρ:Nat→Rz}{n i:Nat}{H:Hs U}{xs:List (TT U.ty s)}{v:Value}(M:bc U X (· =w) ρ n H)(hl:aD H i=some (.row 0 s xs tE))(h:cC (Vw U X w ρ n H) ⟨false,[(1,.own i 0)]⟩ v):
  ∃(em:List (Em U (af ρ H++X) w s)) (sp:List Value),i<n∧em.map (·.x)=xs∧em.length=xs.length∧v= .slice (ρ i).A em.length (ρ i).c∧Ow (ρ i).A em.length (ρ i).c (aM U s) (em.flatMap (·.c)) sp∧ ∀g,ah (ρ i).A=some g→w.heap[g]? =some (Cl (em.flatMap (·.c)++sp) tE):=by
 obtain⟨hi,A,l,c,e1,hnow⟩:=(show Vw U X w ρ n H (.own i 0) [v]from(bI.one1 h).1);injection e1 with e1;subst e1;obtain⟨rfl,rfl,rfl⟩:=(hnow _ _ _ (by rw[hl];rfl)).2 rfl;obtain⟨hm,cs,sp,hdx,how0,hw⟩:=M.ent _ (ak hl);obtain⟨em,e1,e2⟩:=wk hdx;have hlen:em.length=xs.length:=by rw[←e1,List.length_map]
 refine⟨em,sp,hi,e1,hlen,by rw[hlen],by rw[hlen,e2];exact how0,fun g hg=>by rw[e2];exact hw g hg w rfl⟩
theorem kV{X:List Nat}{w:World}{A:Option Addr}{cs:List Value}(hX:Lo X w)(h: ∀g,ah A=some g→w.heap[g]? =some (Cl cs tE))(dj: ∀g,ah A=some g→g∉X):St X w [(ah A,Cl cs tE)] []:=by
 refine⟨?_,by simp,hX,fun x hx hk=>?_⟩
 ·cases hA:ah A with
  |none=>exact Cz _
  |some g=>exact x4 (h g hA)
 ·cases hA:ah A with
  |none=>rw[hA]at hk;cases hk
  |some g=>rw[hA]at hk;simp[aR]at hk;subst hk;exact dj x hA hx
theorem cT{A:Option Addr}{o:Obj}:aR [(ah A,o)]=(ah A).toList:=by cases h:ah A<;>simp[aR]
theorem dH [am]{ρ:Nat→Rz}{i:Nat}{H:Hs U}{v:Nat}{xs:List (TT U.ty s)}(hl:aD H i=some (.row v s xs tE)){g:Nat}(hg:ah (ρ i).A=some g):g∈af ρ H:=aL.2 ⟨_,ak hl,hg⟩
def oc(U:bG)(s:aZ)(tE:Nat):aW U:=⟨[.n,.f1 s],fun xs es K=> ∃(l:List (TT U.ty s)) (g:TT U.ty s→Bool),xs= [⟨false,[(1,.own 0 0)]⟩,⟨false,[(1,.f1 s g)]⟩]∧es= [.row 0 s l tE]∧K (.v ⟨false,[(1,.own 0 1)]⟩) [.row 1 s (l.filter fun x=>!g x) tE]⟩
theorem oT{fx:Go.Func}(hen:aA P fi=true)(hf:P.funcs[fi]? =some fn)(hb:fn.body=some (dS ρf ρt (cw Tryz.f93)))(hn:fn.ntmps=42)(hr:fn.results= #[.tmp 4])
  (gen:aA P (ρf 155)=true) (gf:P.funcs[ρf 155]? =some fx) (gb:fx.body=some (dS ρf ρt (cw Tryz.f155))) (gn:fx.ntmps=19) (gr:fx.results= #[.tmp 4]) (hmx:P.follows .mixedOrders=true) (i64:P.underlying (ρt 3)=some (.int .i64)) (hag:dR s=true)
  (es:ar P (ρt 35)=some (tE,aM U s)) (un:P.underlying (ρt 35)=some (.slice tE)) (hE:tE=ρt 128) (ag:bf P tE=some (aM U s)) (sz:(P.info? tE).map (·.size)=some (aM U s)) (hti:aU U P tE ei) (hz: ∃z,cl 20 s ei.zero fun x=>x=z) (hbb:ei.by_≤100000) (hm0:0<aM U s) (hmB:aM U s≤1000):bi P U fi (oc U s tE):=fun [F:am] hpr X w ρ es0 xs vs K M hv hrun=>by
 obtain⟨l,g,rfl,rfl,hK⟩:=hrun;obtain⟨v,us,rfl,h1,v2,us2,rfl,h2,h3⟩:=hv;rw[show us2= []from h3];have hl:aD (ax 0 [aJ.row 0 s l tE]) 0=some (.row 0 s l tE):=rfl;obtain⟨em,sp,hi,e1,e2,rfl,how0,hw⟩:=ic M hl h1;obtain⟨I,hu⟩:=eE hti hz (af ρ (ax 0 [aJ.row 0 s l tE])++X) w;have h2:Vw U X w ρ 1 (ax 0 [aJ.row 0 s l tE]) (.f1 s g) [v2]:=(bI.one1 h2).1;have dj: ∀g,ah (ρ 0).A=some g→g∉X:=fun g hg=>M.dj g (dH hl hg);have hkey: ∀y∈aR [(ah (ρ 0).A,Cl (em.flatMap (fun e:Em U (af ρ (ax 0 [aJ.row 0 s l tE])++X) w s=>e.c)++sp) tE)],y∈af ρ (ax 0 [aJ.row 0 s l tE]):=fun y hy=>by
  rw[cT]at hy;exact dH hl (by simpa using hy)
 refine Fn.mono (zl (enc:=fun e:Em U (af ρ (ax 0 [aJ.row 0 s l tE])++X) w s=>e.c) hen hf hb hn hr hmx es un i64 (by exact hu) hti.by_ hbb (fun x=>x.hl) hm0 hmB (fun x=>x.h1) X w em (ρ 0).A (ρ 0).c sp v2 (fun e=>g e.x) (kV (M.lo w rfl) hw dj) how0
  (fun w1 x0 hw1=>rA hpr hag h2 x0 hw1 hkey M.xd M.gY) hE ag sz
  (fun X w hX hs hp=>rv (enc:=fun e:Em U (af ρ (ax 0 [aJ.row 0 s l tE])++_) _ s=>e.c) gen gf gb gn gr hmx es un i64 (by exact hu) hti.by_ hbb (fun x=>x.hl) hm0 hmB (fun x=>x.h1) X w hX em (ρ 0).A (ρ 0).c v2 (fun e=>g e.x) hs hp hE ag sz)) ?_
 rintro v w' ⟨A',c',sp',rfl,how,st,hf',hk⟩;rw[uH]at how st⊢;have em':(em.filter fun x=>!g x.x).map (·.x)=l.filter fun x=>!g x:=by rw[←e1,List.filter_map];rfl
 have hlen:(em.filter fun x=>!g x.x).length=(l.filter fun x=>!g x).length:=by rw[←em',List.length_map]
 rw[hlen]at how⊢;rw[cT]at hf';obtain⟨ρ',a1,a2,a3⟩:=zo (el:=tE) M hi hl hm0 hf' (fun g' hg'=>(hk g' (by simp[aR,hg'])).imp (fun h=>by rw[cT]at h;simpa using h) id) (by have:=iw (em.filter fun x=>!g x.x);rw[em']at this;exact this) how (fun g' hg'=>st.hp.at (i:=0) (by rw[hg'];rfl));exact⟨_,_,ρ',hK,a1,a2,a3⟩
theorem bc.dead [am]{X:List Nat}{w:World}{ρ:Nat→Rz}{n i:Nat}{H:Hs U}{x:aJ U}(M:bc U X (· =w) ρ n H)(hl:aD H i=some x):bc U X (· =w) (ct ρ i (ρ i)) n (dQ H i .dead)∧bM ρ n H w (ct ρ i (ρ i)) n (dQ H i .dead) w:=by
 have hb: ∀g,aq (ct ρ i (ρ i)) (i,(.dead:aJ U))=some g→aq ρ (i,x)=some g∨w.heap.size≤g:=fun g h=>by cases h
 have hr: ∀v' l' m',bk (some (.dead:aJ U))=some (v',l',m')→ ∃v l m,bk (some x)=some (v,l,m)∧v≤v'∧(v=v'→ρ i=ρ i∧l'=l∧m'=m):=fun v' l' m' h=>by cases h
 exact⟨M.upd hl (Fr.refl _ _) (ρ i) hb hr (fun _=>rfl) trivial,bM.upd M.xd M.nd hl (Fr.refl _ _) (ρ i) hb hr (fun _=>rfl)⟩
def rC(U:bG)(s:aZ)(tE:Nat):aW U:=⟨[.n,.n,.n],fun xs es K=> ∃(l:List (TT U.ty s)) (i:Int) (a:TT U.ty s),xs= [⟨false,[(1,.own 0 0)]⟩,⟨false,[(1,.d (.int .i64) i)]⟩,⟨false,[(1,.own 1 0)]⟩]∧es= [.row 0 s l tE,.row 0 s [a] tE]∧0≤i∧i≤l.length∧l.length≤1000000∧K (.v ⟨false,[(1,.own 0 1)]⟩) [.row 1 s (hU l i [a]) tE,.dead]⟩
theorem tf{fo:Go.Func}(hen:aA P fi=true)(hf:P.funcs[fi]? =some fn)(hb:fn.body=some (dS ρf ρt (cw Tryz.f89)))(hn:fn.ntmps=95)(hr:fn.results= #[.tmp 6])(hmx:P.follows .mixedOrders=true)(i64:P.underlying (ρt 3)=some (.int .i64))
  (es:ar P (ρt 35)=some (tE,aM U s)) (un:P.underlying (ρt 35)=some (.slice tE)) (ovf:P.funcs[ρf 151]? =some fo) (ovn:(fo.name== "runtime.NumGoroutine")=false) (ovb:fo.body.isNone=true) (ovr:Extern.findNext fo=none) (ove:Extern.find fo=some (Extern.SlicesOverlaps.overlaps #[ρt 35,ρt 35] #[ρt 4]))
  (hti:aU U P tE ei) (hz: ∃z,cl 20 s ei.zero fun x=>x=z) (hbb:ei.by_≤100000) (hm0:0<aM U s) (hmB:aM U s≤1000):bi P U fi (rC U s tE):=fun [F:am] hpr X w ρ es0 xs vs K M hv hrun=>by
 obtain⟨l,i,a,rfl,rfl,hi0,hi1,hl1,hK⟩:=hrun;obtain⟨v,us,rfl,h1,v2,us2,rfl,h2,v3,us3,rfl,h3,h4⟩:=hv;rw[show us3= []from h4];have hl:aD (ax 0 [aJ.row 0 s l tE,aJ.row 0 s [a] tE]) 0=some (.row 0 s l tE):=rfl;have hlb:aD (ax 0 [aJ.row 0 s l tE,aJ.row 0 s [a] tE]) 1=some (.row 0 s [a] tE):=rfl;obtain⟨em,sp,hi,e1,e2,rfl,how0,hw⟩:=ic M hl h1;obtain⟨en,sq,hib,e1b,e2b,rfl,how0b,hwb⟩:=ic M hlb h3;obtain⟨hv2,_⟩:=aC.inv (show aC U _ _ (.int .i64) i [v2]from(bI.one1 h2).1);injection hv2 with hv2;subst hv2;obtain⟨I,hu⟩:=eE hti hz (af ρ (ax 0 [aJ.row 0 s l tE,aJ.row 0 s [a] tE])++X) w;have hne: ∀g,ah (ρ 0).A=some g→ah (ρ 1).A=some g→False:=fun g h0 h1=>by
  have:=M.inj _ (ak hl) _ (ak hlb) g h0 h1;cases this
 have hst:St X w [(ah (ρ 0).A,Cl (em.flatMap (·.c)++sp) tE),(ah (ρ 1).A,Cl (en.flatMap (·.c)++sq) tE)] []:=by
  refine⟨⟨fun j g o hj=>?_,fun j k g o o' hj hk=>?_⟩,by simp,M.lo w rfl,fun x hx hk=>?_⟩
  ·match j,hj with
   |0,hj=>injection hj with hj;injection hj with a1 a2;subst a2;exact hw g a1
   |1,hj=>injection hj with hj;injection hj with a1 a2;subst a2;exact hwb g a1
   |j+2,hj=>simp at hj
  ·match j,k,hj,hk with
   |0,0,_,_=>rfl
   |1,1,_,_=>rfl
   |0,1,hj,hk=>injection hj with hj;injection hj with a1 a2;injection hk with hk;injection hk with b1 b2;exact(hne g a1 b1).elim
   |1,0,hj,hk=>injection hj with hj;injection hj with a1 a2;injection hk with hk;injection hk with b1 b2;exact(hne g b1 a1).elim
   |j+2,_,hj,_=>simp at hj
   |_,k+2,_,hk=>simp at hk
  ·obtain⟨j,o,hj⟩:=cn.1 hk;match j,hj with
   |0,hj=>injection hj with hj;injection hj with a1 a2;exact M.dj x (dH hl a1) hx
   |1,hj=>injection hj with hj;injection hj with a1 a2;exact M.dj x (dH hlb a1) hx
   |j+2,hj=>simp at hj
 refine Fn.mono (zj (enc:=fun e:Em U (af ρ (ax 0 [aJ.row 0 s l tE,aJ.row 0 s [a] tE])++X) w s=>e.c) hen hf hb hn hr hmx es un i64 (by exact hu) hti.by_ hbb (fun x=>x.hl) hm0 hmB (fun x=>x.h1) X w em (ρ 0).A (ρ 0).c sp i en (ρ 1).A (ρ 1).c sq hst how0 how0b (by rw[e2b];rfl) hi0 (by rw[e2];exact hi1) (by omega) ovf ovn ovb ovr ove) ?_;rintro v w' ⟨A',c',sp',rfl,how,st,hf',hk⟩;have em':(hU em i en).map (·.x)=hU l i [a]:=by unfold hU;rw[List.map_append,List.map_append,List.map_take,List.map_drop,e1,e1b]
 have hlen:(hU em i en).length=(hU l i [a]).length:=by rw[←em',List.length_map]
 rw[hlen]at how⊢;rw[cT]at hf';obtain⟨ρ',a1,a2,a3⟩:=zo (el:=tE) M hi hl hm0 hf' (fun g' hg'=>(hk g' (by simp[aR,hg'])).imp (fun h=>by rw[cT]at h;simpa using h) id) (by have:=iw (hU em i en);rw[em']at this;exact this) how (fun g' hg'=>st.hp.at (i:=0) (by rw[hg'];rfl));obtain⟨b1,b2⟩:=bc.dead (i:=1) (x:= .row 0 s [a] tE) a2 rfl;refine⟨_,_,_,hK,cC.imp (fun _ _ h=>h.step b2) a1,b1,a3.trans b2⟩
def tg(U:bG)(s:aZ)(tE:Nat)(D:DecidableEq (TT U.ty s)):aW U:=⟨[.n],fun xs es K=> ∃l:List (TT U.ty s),xs= [⟨false,[(1,.own 0 0)]⟩]∧es= [.row 0 s l tE]∧K (.v ⟨false,[(1,.own 0 1)]⟩) [.row 1 s (dd l) tE]⟩
theorem xm(D:DecidableEq (TT U.ty s))(hen:aA P fi=true)(hf:P.funcs[fi]? =some fn)(hb:fn.body=some (dS ρf ρt (cw Tryz.f92)))(hn:fn.ntmps=61)(hr:fn.results= #[.tmp 2])(hmx:P.follows .mixedOrders=true)(i64:P.underlying (ρt 3)=some (.int .i64))
  (es:ar P (ρt 36)=some (tE,aM U s)) (un:P.underlying (ρt 36)=some (.slice tE)) (hE:tE=ρt 61) (ag:bf P tE=some (aM U s)) (sz:(P.info? tE).map (·.size)=some (aM U s)) (heq:ja U P tE s) (hti:aU U P tE ei) (hz: ∃z,cl 20 s ei.zero fun x=>x=z) (hbb:ei.by_≤100000) (hm0:0<aM U s) (hmB:aM U s≤1000):bi P U fi (tg U s tE D):=fun [F:am] hpr X w ρ es0 xs vs K M hv hrun=>by
 obtain⟨l,rfl,rfl,hK⟩:=hrun;obtain⟨v,us,rfl,h1,h3⟩:=hv;rw[show us= []from h3];have hl:aD (ax 0 [aJ.row 0 s l tE]) 0=some (.row 0 s l tE):=rfl;obtain⟨em,sp,hi,e1,e2,rfl,how0,hw⟩:=ic M hl h1;obtain⟨I,hu⟩:=eE hti hz (af ρ (ax 0 [aJ.row 0 s l tE])++X) w;have dj: ∀g,ah (ρ 0).A=some g→g∉X:=fun g hg=>M.dj g (dH hl hg);have hq: ∀x y:Em U (af ρ (ax 0 [aJ.row 0 s l tE])++X) w s,aX P 8 tE x.c y.c=some (decide (x.x=y.x)):=fun x y=>by
  obtain⟨r,h1,h2⟩:=heq.vals _ _ _ _ _ _ x.den y.den;rw[h1];congr 1;rw[Bool.eq_iff_iff,h2];simp
 refine Fn.mono (xl (enc:=fun e:Em U (af ρ (ax 0 [aJ.row 0 s l tE])++X) w s=>e.c) hen hf hb hn hr hmx es un i64 (by exact hu) hti.by_ hbb (fun x=>x.hl) hm0 hmB (fun x=>x.h1) X w em (ρ 0).A (ρ 0).c sp (kV (M.lo w rfl) hw dj) how0 hE ag sz heq.guard (fun x y=>decide (x.x=y.x)) hq) ?_;rintro v w' ⟨A',c',sp',rfl,how,st,hf',hk⟩;rw[tc]at how st⊢;have em':=CT (fun x y:Em U (af ρ (ax 0 [aJ.row 0 s l tE])++X) w s=>decide (x.x=y.x)) (fun x=>x.x) (fun a b=>decide_eq_true_iff) em;rw[e1]at em';have hlen:=congrArg List.length em';rw[List.length_map]at hlen;rw[hlen]at how⊢;rw[cT]at hf';obtain⟨ρ',a1,a2,a3⟩:=zo (el:=tE) M hi hl hm0 hf' (fun g' hg'=>(hk g' (by simp[aR,hg'])).imp (fun h=>by rw[cT]at h;simpa using h) id) (by have:=iw (wl (fun x y:Em U (af ρ (ax 0 [aJ.row 0 s l tE])++X) w s=>decide (x.x=y.x)) em);rw[em']at this;exact this) how (fun g' hg'=>st.hp.at (i:=0) (by rw[hg'];rfl));exact⟨_,_,ρ',hK,a1,a2,a3⟩
end
end Go.Proofs.YtmpeiadlohbikaaGreatDoor.V
end

section
set_option linter.unusedVariables false
set_option linter.unusedSimpArgs false
namespace Go.Proofs.YtmpeiadlohbikaaGreatDoor
open Go.RowKit Go.Shelf Go.Lib Go.Sort
theorem Fd{α:Type} [Inhabited α]{enc:α→List Value}{k:Nat}(hk: ∀x,(enc x).length=k)(hk0:0<k): ∀(l:List α) (t:Nat),t<l.length*k→(l.flatMap enc)[t]? =(enc (l[t/k]?.getD default))[t%k]?
 | [],t,h=>by simp at h
 |a::l,t,h=>by
  rw[List.flatMap_cons];by_cases ht:t<k
  ·rw[List.getElem?_append_left (by rw[hk];exact ht),Nat.div_eq_of_lt ht,Nat.mod_eq_of_lt ht];rfl
  ·have hs:t=(t - k)+k:=by omega
   have hd:t/k=(t - k)/k+1:=by
    have:=Nat.add_div_right (t - k) hk0;rw[←hs]at this;exact this
   have hm:t%k=(t - k)%k:=by
    have:=Nat.add_mod_right (t - k) k;rw[←hs]at this;exact this
   rw[List.getElem?_append_right (by rw[hk];omega),hk,Fd hk hk0 l (t - k) (by rw[List.length_cons,Nat.add_mul,Nat.one_mul]at h;omega),hd,hm];rfl
theorem lG{α:Type} [Inhabited α]{enc:α→List Value}{k:Nat}(hk: ∀x,(enc x).length=k)(hk0:0<k)(l:List α):(flatK enc k l.toArray).toList=l.flatMap enc:=by
 apply List.ext_getElem?;intro t;by_cases ht:t<l.length*k
 ·rw[Fd hk hk0 l t ht];have h1:t<(flatK enc k l.toArray).size:=by simpa using ht
  have h2:=get_flatK enc k l.toArray t (by simpa using ht);rw[getElem!_pos _ t h1]at h2;rw[Array.getElem?_toList,Array.getElem?_eq_getElem h1,h2];have hl:t/k<l.length:=Nat.div_lt_of_lt_mul (by rw[Nat.mul_comm];exact ht);have e1:l.toArray[t/k]! =(l[t/k]?.getD default):=by
   rw[getElem!_pos _ _ (by simpa using hl)];simp[List.getElem?_eq_getElem hl]
  rw[e1];have hmod:t%k<(enc (l[t/k]?.getD default)).length:=by rw[hk];exact Nat.mod_lt _ hk0
  rw[List.getElem?_eq_getElem hmod,getElem!_pos (enc (l[t/k]?.getD default)) (t%k) hmod]
 ·rw[List.getElem?_eq_none (by simp;omega),List.getElem?_eq_none (by rw[ba hk];omega)]
theorem tP{w:World}{g e:Nat}{xs ys sp:List Value}(h:w.heap[g]? =some (Cl (xs++sp) e))(hl:ys.length=xs.length):(putRow id w g 0 ys.toArray).heap[g]? =some (Cl (ys++sp) e)∧ ∀k,k≠g→(putRow id w g 0 ys.toArray).heap[k]? =w.heap[k]? :=by
 constructor
 ·show(w.heap.modify g _)[g]? =_
  rw[Array.getElem?_modify,if_pos rfl,h];show some (Obj.cells (putCells id 0 ys.toArray (xs++sp).toArray) e (0,0))=_
  congr 2;apply Array.ext_getElem?;intro j;unfold putCells;rw[Array.getElem?_mapIdx];by_cases hj:j<ys.length
  ·have h1:j<(xs++sp).length:=by rw[List.length_append];omega
   rw[show(xs++sp).toArray[j]? =some ((xs++sp)[j])from by simp[h1]];simp only[Option.map_some,Nat.zero_le,Nat.zero_add,true_and,List.size_toArray,hj,if_true,Nat.sub_zero,id];rw[getElem!_pos _ _ (by simpa using hj)];simp[List.getElem?_append_left hj,hj]
  ·cases hq:(xs++sp).toArray[j]? with
   |none=>
    have:(xs++sp).length≤j:=by simpa using hq
    simp only[Option.map_none];symm;rw[List.getElem?_toArray,List.getElem?_eq_none (by rw[List.length_append]at*;omega)]
   |some x=>
    simp only[Option.map_some,Nat.zero_le,Nat.zero_add,true_and,List.size_toArray,hj,if_false];rw[←hq];simp only[List.getElem?_toArray];rw[List.getElem?_append_right (by omega),List.getElem?_append_right (by omega),hl]
 ·intro k hk;show(w.heap.modify g _)[k]? =_
  rw[Array.getElem?_modify,if_neg (fun e=>hk e.symm)]
theorem jp{α:Type} [Inhabited α]{enc:α→List Value}{k:Nat}(hk: ∀x,(enc x).length=k)(hk0:0<k){w:World}{g e:Nat}{xs:List α}{sp:List Value}(h:w.heap[g]? =some (Cl (xs.flatMap enc++sp) e))(m:Nat)(ys:List α)(hl:ys.length=xs.length)(os:Array Obj):
  Fr [g] w (sortWorldK enc k w g 0 m ys.toArray os)∧(sortWorldK enc k w g 0 m ys.toArray os).heap[g]? =some (Cl (ys.flatMap enc++sp) e):=by
 have hF:(flatK enc k ys.toArray)=(ys.flatMap enc).toArray:=by
  have:=lG hk hk0 ys;rw[←this]
 have hp:=tP (w:=Sort.ahead w m) (ys:=ys.flatMap enc) (show(Sort.ahead w m).heap[g]? =some (Cl (xs.flatMap enc++sp) e)from h) (by rw[ba hk,ba hk,hl]);have hsz:(putRow id (Sort.ahead w m) g 0 (ys.flatMap enc).toArray).heap.size=w.heap.size:=by rw[size_putRow];rfl
 have hg:g<w.heap.size:=bZ h;unfold sortWorldK putRowK;rw[hF];have happ: ∀j,j<w.heap.size→(grow (putRow id (Sort.ahead w m) g 0 (ys.flatMap enc).toArray) os).heap[j]? =(putRow id (Sort.ahead w m) g 0 (ys.flatMap enc).toArray).heap[j]? :=fun j hj=>by
  show(_++os)[j]? =_
  rw[Array.getElem?_append_left (by rw[hsz];exact hj)]
 refine⟨⟨rfl,rfl,rfl,?_,fun j hj hn=>?_,?_⟩,?_⟩
 ·show _≤(_++os).size
  rw[Array.size_append,hsz];omega
 ·rw[happ j hj];exact hp.2 j (by simpa using hn)
 ·show w.drawn≤w.drawn+m
  omega
 ·rw[happ g hg];exact hp.1
theorem u5{w w':World}(h:Fr [] w w'): ∃q os,w'=grow (w.drewN q) os:=by
 refine⟨w'.drawn - w.drawn,w'.heap.extract w.heap.size w'.heap.size,?_⟩;have hd:=h.drawn;have hh:w'.heap=w.heap++w'.heap.extract w.heap.size w'.heap.size:=by
  apply Array.ext_getElem?;intro j;by_cases hj:j<w.heap.size
  ·rw[Array.getElem?_append_left hj];exact h.block j hj (by simp)
  ·rw[Array.getElem?_append_right (by omega),Array.getElem?_extract];by_cases hj2:j<w'.heap.size
   ·rw[if_pos (by omega)];congr 1;omega
   ·rw[if_neg (by omega),Array.getElem?_eq_none (by omega)]
 obtain⟨h1,t1,d1,o1,p1⟩:=w';have a1:=h.os;have a2:=h.tape;have a3:=h.output;simp only at a1 a2 a3 hh hd⊢;unfold grow World.drewN;simp only;rw[a1,a2,a3,show w.drawn+(d1 - w.drawn)=d1 by omega];rw[←hh]
def be{α:Type}(cf:α→α→Int)(s:List α):List α:=s.mergeSort (fun x y=>!(ltOf cf) y x)
theorem cQ{α:Type}(cf:α→α→Int)(s:List α):(be cf s).length=s.length:=List.length_mergeSort _
theorem wH{w:World}{g e:Nat}{cs:List Value}(h:w.heap[g]? =some (Cl cs e)){j:Nat}(hj:j<cs.length):w.cell? ⟨g,j,none⟩=some cs[j]∧w.frozen? ⟨g,j,none⟩=false:=by
 constructor
 ·unfold World.cell?;simp only[h];simp[hj]
 ·unfold World.frozen?;simp only[h];simp
theorem Ai{α:Type} [Inhabited α]{P:Program}{ρ:Ren}{enc:α→List Value}{k e:Nat}(L:SlLaysF0.n6 P ρ)(aE: ∀w,(isAgg (ρ.t 24)).run P w= .ok true w)(zE: ∀w,(Go.sizeOf (ρ.t 24)).run P w= .ok k w)(hk: ∀x,(enc x).length=k)(hk0:0<k)(h1: ∀x,∀v∈enc x,v.oneCell'=true)
  {cf:α→α→Int} (hO:SWO (ltOf cf)) (hT: ∀x y,(ltOf cf) x y=false→(ltOf cf) y x=false→x=y) {g:Nat} {cb:List Value} (eg: ∀args w,(callFunc g args).run P w= .ok (.enter g args) w) (he:aA P (ρ.f 6)=true)
  (X:List Nat) (w:World) (s:List α) (hs62:s.length<4611686018427387904) (A:Option Addr) (c:Nat) (sp:List Value) (hs:St X w [(ah A,Cl (s.flatMap enc++sp) e)] []) (how:Ow A s.length c k (s.flatMap enc) sp)
  (hcmp: ∀(w1:World) (x y:α),Fr (aR [(ah A,Cl (s.flatMap enc++sp) e)]) w w1→Fn P g ([.agg (enc x).toArray,.agg (enc y).toArray]++cb) w1 fun v w2=>v= .int .i64 (cf x y)∧Fr [] w1 w2):
  Fn P (ρ.f 6) [.slice A s.length c,.func (.func g) #[] cb.toArray] w fun v w'=>v= .tuple #[]∧Ow A s.length c k ((be cf s).flatMap enc) sp∧(be cf s).length=s.length∧St X w' [(ah A,Cl ((be cf s).flatMap enc++sp) e)] []∧Fr (aR [(ah A,Cl (s.flatMap enc++sp) e)]) w w':=by
 rcases how.2 with⟨rfl,h2,h3,h4⟩|⟨g0,rfl,h3,h4,h5⟩
 ·have hs0:s= []:=List.eq_nil_of_length_eq_zero h2;subst hs0;refine⟨he,(AnyF.slices_SortFunc_none L none c (.func (.func g) #[] cb.toArray) w).mono ?_⟩;rintro e1 w' ⟨rfl,rfl⟩;have hsn:be cf ([]:List α)= []:=List.eq_nil_of_length_eq_zero (cQ cf []);rw[hsn];exact⟨_,rfl,rfl,how,rfl,hs,Fr.refl _ _⟩
 ·have hb:w.heap[g0]? =some (Cl (s.flatMap enc++sp) e):=hs.hp.at (i:=0) rfl;have hkeys:aR [(ah (some ⟨g0,0,none⟩),Cl (s.flatMap enc++sp) e)]= [g0]:=rfl;have hlen:=ba hk s;have hH:HoldsK enc k w g0 0 s.toArray:=by
   intro j hj;have hj2:j<(s.flatMap enc).length:=by rw[hlen];simpa using hj
   have hc:=wH hb (j:=j) (by rw[List.length_append];omega);rw[Nat.zero_add];refine⟨?_,hc.2⟩;rw[hc.1,List.getElem_append_left hj2];have:(flatK enc k s.toArray)=(s.flatMap enc).toArray:=by rw[←lG hk hk0 s]
   simp only[this,id];rw[getElem!_pos _ _ (by simpa using hj2)];simp
  have hl:CmpLays P g cb.toArray enc k cf g0 0 s.toArray.size w:=by
   intro m os dk hdk x y;have hdk2:dk=dk.toList.toArray:=by simp
   rw[hdk2];have hf:=(jp hk hk0 hb m dk.toList (by simpa using hdk) os).1;have hc:=(hcmp _ x y (by rw[hkeys];exact hf)).2;have e1:([.agg (enc x).toArray,.agg (enc y).toArray]++cb:List Value).toArray= #[.agg (enc x).toArray,.agg (enc y).toArray]++cb.toArray:=by simp
   rw[e1]at hc;refine hc.mono ?_;rintro e2 w2 ⟨v,rfl,rfl,hf2⟩;exact⟨rfl,u5 hf2⟩
  have hc:=AnyQ.slices_SortFunc_total L k aE zE enc hk h1 cf hO g cb.toArray g0 0 c s.toArray w eg hl hH (bZ hb) (by simpa using hs62) hT;refine⟨he,?_⟩;have e0:([.slice (some ⟨g0,0,none⟩) s.length c,.func (.func g) #[] cb.toArray]:List Value).toArray= #[.slice (some ⟨g0,0,none⟩) s.toArray.size c,.func (.func g) #[] cb.toArray]:=by simp
  rw[e0];refine hc.mono ?_;rintro e2 w' ⟨rfl,n,os,rfl⟩;have hw:=jp hk hk0 hb n (be cf s) (cQ cf s) os;refine⟨_,rfl,rfl,?_,cQ cf s,?_,hw.1⟩
  ·refine⟨by rw[ba hk,cQ],.inr ⟨g0,rfl,?_,h4,h5⟩⟩;rw[←h3,List.length_append,List.length_append,ba hk,ba hk,cQ]
  ·exact hs.set (i:=0) rfl (hs.hp.setAt (i:=0) rfl hw.1 hw.2) hw.1
theorem wJ{P:Program}{t k:Nat}(h:bf P t=some k)(w:World):(isAgg t).run P w= .ok true w:=by
 unfold bf at h;cases hu:P.underlying t with
 |none=>simp[hu]at h
 |some d=>
  unfold isAgg;simp only[Sem.run_bind,run_underlying hu,Result.andThen_ok];cases d<;>simp[hu]at h<;>rfl
theorem pA{P:Program}{f:FuncId}(h:aA P f=true)(args:Array Value)(w:World):(callFunc f args).run P w= .ok (.enter f args) w:=by
 unfold aA at h;cases hq:P.funcs[f]? with
 |none=>simp[hq]at h
 |some fn=>
  simp only[hq,Bool.and_eq_true]at h;obtain⟨h1,h2⟩:=h;cases hb:fn.body with
  |none=>simp[hb]at h2
  |some c=>
   have h4: ¬fn.name= "runtime.NumGoroutine" :=by simpa using h1
   simp[callFunc,hq,hb,h4]
theorem xK{α:Type} [Inhabited α](enc:α→Value)(w:World)(b:Nat)(d:List α):putRow enc w b 0 d.toArray=putRow id w b 0 (d.map enc).toArray:=by
 unfold putRow;congr 1;funext c;unfold putCells;apply Array.ext_getElem?;intro j;rw[Array.getElem?_mapIdx,Array.getElem?_mapIdx];cases c[j]? with
 |none=>rfl
 |some x=>
  simp only[Option.map_some,List.size_toArray,List.length_map,Nat.zero_add,Nat.sub_zero];by_cases h:0≤j∧j<d.length
  ·rw[if_pos h,if_pos h,getElem!_pos _ _ (by simpa using h.2),getElem!_pos _ _ (by simpa using h.2)];simp
  ·rw[if_neg h,if_neg h]
theorem ot(l:List (List UInt8)):l.flatMap (fun x=> [sv x])=l.map sv:=by induction l<;>simp_all
def iV(s:List (List UInt8)):List (List UInt8):=s.mergeSort fun x y=>decide (x≤y)
theorem gx(s:List (List UInt8)):(iV s).length=s.length:=List.length_mergeSort _
theorem xL{P:Program}{f e:Nat}(he:aA P f=true)
  (hC: ∀(blk cap:Nat) (ss:List (List UInt8)) (w:World),Holds encStr w blk 0 ss.toArray→blk<w.heap.size→ss.length<4611686018427387904→Calls P f #[.slice (some ⟨blk,0,none⟩) ss.length cap] w fun e w'=>e= .returned (.tuple #[])∧ ∃n os,w'=grow (putRow encStr (Sort.ahead w n) blk 0 (ss.mergeSort fun x y=>decide (x≤y)).toArray) os)
  (hN: ∀(p:Option Addr) (cap:Nat) (w:World),Calls P f #[.slice p 0 cap] w fun e w'=>e= .returned (.tuple #[])∧w'=w)
  (X:List Nat) (w:World) (s:List (List UInt8)) (A:Option Addr) (c:Nat) (sp:List Value) (hs:St X w [(ah A,Cl (s.flatMap (fun x=> [sv x])++sp) e)] []) (how:Ow A s.length c 1 (s.flatMap (fun x=> [sv x])) sp) (hs62:s.length<4611686018427387904):
  Fn P f [.slice A s.length c] w fun v w'=>v= .tuple #[]∧Ow A s.length c 1 ((iV s).flatMap (fun x=> [sv x])) sp∧(iV s).length=s.length∧St X w' [(ah A,Cl ((iV s).flatMap (fun x=> [sv x])++sp) e)] []∧Fr (aR [(ah A,Cl (s.flatMap (fun x=> [sv x])++sp) e)]) w w':=by
 have hk: ∀x:List UInt8,([sv x]:List Value).length=1:=fun _=>rfl;rcases how.2 with⟨rfl,h2,h3,h4⟩|⟨g0,rfl,h3,h4,h5⟩
 ·have hs0:s= []:=List.eq_nil_of_length_eq_zero h2;subst hs0;refine⟨he,(hN none c w).mono ?_⟩;rintro e1 w' ⟨rfl,rfl⟩;have hsn:iV []= []:=List.eq_nil_of_length_eq_zero (gx []);rw[hsn];exact⟨_,rfl,rfl,how,rfl,hs,Fr.refl _ _⟩
 ·have hb:w.heap[g0]? =some (Cl (s.flatMap (fun x=> [sv x])++sp) e):=hs.hp.at (i:=0) rfl;have hkeys:aR [(ah (some ⟨g0,0,none⟩),Cl (s.flatMap (fun x=> [sv x])++sp) e)]= [g0]:=rfl;have hH:Holds encStr w g0 0 s.toArray:=by
   intro j hj;have hj':j<s.length:=by simpa using hj
   have hj2:j<(s.flatMap (fun x=> [sv x])).length:=by rw[ot];simpa using hj
   have hc:=wH hb (j:=j) (by rw[List.length_append];omega);rw[Nat.zero_add];refine⟨?_,hc.2⟩;rw[hc.1,List.getElem_append_left hj2];simp only[ot];rw[getElem!_pos s.toArray j hj];simp
  refine⟨he,?_⟩;refine(hC g0 c s w hH (bZ hb) hs62).mono ?_;rintro e2 w' ⟨rfl,n,os,rfl⟩;have hw:=jp hk (by decide) hb n (iV s) (gx s) os;have hF:(flatK (fun x=> [sv x]) 1 (iV s).toArray)=((iV s).flatMap (fun x=> [sv x])).toArray:=by
   have:=lG hk (by decide) (iV s);rw[←this]
  have e3:grow (putRow encStr (Sort.ahead w n) g0 0 (s.mergeSort fun x y=>decide (x≤y)).toArray) os=sortWorldK (fun x=> [sv x]) 1 w g0 0 n (iV s).toArray os:=by
   unfold sortWorldK putRowK;rw[hF,ot,xK];rfl
  rw[e3];refine⟨_,rfl,rfl,?_,gx s,?_,hw.1⟩
  ·refine⟨by rw[ba hk,gx],.inr ⟨g0,rfl,?_,h4,h5⟩⟩;rw[←h3,List.length_append,List.length_append,ba hk,ba hk,gx]
  ·exact hs.set (i:=0) rfl (hs.hp.setAt (i:=0) rfl hw.1 hw.2) hw.1
end Go.Proofs.YtmpeiadlohbikaaGreatDoor
end

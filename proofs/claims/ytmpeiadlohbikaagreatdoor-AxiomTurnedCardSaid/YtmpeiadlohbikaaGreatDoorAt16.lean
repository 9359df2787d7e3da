/- slices.SortFunc at structs, over the shelf's contract: an own row that is sorted in place. -/
import Derived.Test.YtmpeiadlohbikaaGreatDoorAt15
import Derived.Test.YtmpeiadlohbikaaGreatDoorAt14
import Derived.Test.YtmpeiadlohbikaaGreatDoorProg
import Derived.Test.YtmpeiadlohbikaaGreatDoorAt3
import Derived.Shelf.SlSortCmp.NoneTotal
section
set_option linter.unusedVariables false
set_option linter.unusedSimpArgs false
namespace Go.Proofs.YtmpeiadlohbikaaGreatDoor.V
open Go.RowKit
def Av{α:Type}:α→List α→α
 |p,[]=>p
 |_,b::l=>Av b l
theorem rf{α:Type}: ∀(p:α) (l:List α),Av p l=(p::l).getLast (by simp)
 |p,[]=>rfl
 |p,b::l=>by rw[List.getLast_cons (by simp)];exact rf b l
section
variable {α:Type} (eqd:α→α→Bool)
def sC:α→List α→List α
 |_,[]=> []
 |p,b::l=>if eqd b p=true then sC b l else b::sC b l
def xm:List α→List α
 | []=> []
 |a::l=>a::sC eqd a l
theorem nN: ∀(p:α) (l:List α) (x:α),sC eqd p (l++ [x])=sC eqd p l++(if eqd x (Av p l)=true then []else [x])
 |p,[],x=>by by_cases h:eqd x p=true<;>simp[sC,Av,h]
 |p,b::l,x=>by
  rw[List.cons_append];unfold sC Av;split
  ·exact nN b l x
  ·rw[nN b l x];rfl
theorem Aw{l:List α}(h:l≠ [])(x y:α)(hy:l.getLast h=y):xm eqd (l++ [x])=xm eqd l++(if eqd x y=true then []else [x]):=by
 cases l with
 |nil=>exact absurd rfl h
 |cons a l=>simp only[List.cons_append,xm];rw[nN,rf,hy]
end
theorem qN{α:Type} [Inhabited α](eqd:α→α→Bool)(s:List α)(z:α)(L2:Int→List α→Nat→Int→Int→List α→(List α)⊕(Int×Int×List α))(L1:Nat→Int→List α→(List α)⊕(Int×List α))
  (h2: ∀(s3:Int) r0 fuel s3' s5 r',L2 s3 r0 (fuel+1) s3' s5 r'=if s5<((s.length - s3.toNat:Nat):Int)then(if eqd (ix r' (s3+s5)) (ix r' (s3+(s5 - 1)))=true then L2 s3 r0 fuel s3' (s5+1) r' else L2 s3 r0 fuel (s3'+1) (s5+1) (r'.set s3'.toNat (ix r' (s3+s5))))else .inr (s3',s5,r'))
  (h1: ∀fuel s3 r0,L1 (fuel+1) s3 r0=if s3<(s.length:Int)then(if eqd (ix r0 s3) (ix r0 (s3 - 1))=true then(match L2 s3 r0 (((s.length:Int)-(1:Int)).toNat+1) s3 (1:Int) r0 with| .inl r=> .inl r| .inr (s3',s5,r')=> .inl ((r'.take s3'.toNat++List.replicate (r'.length - s3'.toNat) z).take s3'.toNat))else L1 fuel (s3+1) r0)else .inr (s3,r0)) (hs:1≤s.length):
  ∀(fuel:Nat) (s3:Int),1≤s3→s3≤s.length→xm eqd (s.take s3.toNat)=s.take s3.toNat→((s.length:Int)- s3).toNat<fuel→(L1 fuel s3 s= .inl (xm eqd s)∨(∃q,L1 fuel s3 s= .inr (q,s))∧xm eqd s=s):=by
 have step: ∀n:Nat,1≤n→n<s.length→xm eqd (s.take (n+1))=xm eqd (s.take n)++(if eqd (ix s (n:Int)) (ix s ((n:Int)- 1))=true then []else [ix s (n:Int)]):=by
  intro n hn1 hn;have e1:s.take (n+1)=s.take n++ [s[n]]:=by rw[List.take_add_one,List.getElem?_eq_getElem hn];rfl
  have hne:s.take n≠ []:=by intro h;have:=congrArg List.length h;rw[List.length_take,List.length_nil]at this;omega
  have e2:(s.take n).getLast hne=s[n - 1]:=by
   rw[List.getLast_eq_getElem];have:(s.take n).length - 1=n - 1:=by rw[List.length_take];omega
   simp only[this,List.getElem_take]
  rw[e1,Aw eqd hne _ _ e2];rw[ow s hn,show(n:Int)- 1=((n - 1:Nat):Int)by omega,ow s (by omega)]
 have inner: ∀(fuel:Nat) (k:Int) (k' j:Int) (r:List α),1≤k→k<s.length→1≤j→k+j≤s.length→k≤k'→k'<k+j→r.length=s.length→(∀i:Nat,(k+j - 1).toNat≤i→r[i]? =s[i]?)→r.take k'.toNat=xm eqd (s.take (k+j).toNat)→((s.length:Int)-(k+j)).toNat<fuel→
   ∃q p r',L2 k s fuel q j r=L2 k s fuel q j r∧L2 k s fuel k' j r= .inr (p,q,r')∧r'.length=s.length∧r'.take p.toNat=xm eqd s∧p≤s.length:=by
  intro fuel;induction fuel with
  |zero=>intro k k' j r _ _ _ _ _ _ _ _ _ h;omega
  |succ fuel ih=>
   intro k k' j r hk1 hk2 hj hkj hkk hk' hrl hr hd hf;rw[h2 k s fuel k' j r];by_cases hlt:j<((s.length - k.toNat:Nat):Int)
   ·rw[if_pos hlt];have hn:(k+j).toNat<s.length:=by omega
    have eA:ix r (k+j)=ix s (k+j):=by unfold ix;rw[hr (k+j).toNat (by omega)]
    have eB:ix r (k+(j - 1))=ix s (k+j - 1):=by unfold ix;rw[show k+(j - 1)=k+j - 1 by omega,hr (k+j - 1).toNat (Nat.le_refl _)]
    have hst:=step (k+j).toNat (by omega) hn;rw[show(((k+j).toNat:Nat):Int)=k+j by omega]at hst;rw[eA,eB];by_cases heq:eqd (ix s (k+j)) (ix s (k+j - 1))=true
    ·rw[if_pos heq];rw[if_pos heq,List.append_nil]at hst;obtain⟨q,p,r',_,h3,h4,h5,h6⟩:=ih k k' (j+1) r hk1 hk2 (by omega) (by omega) hkk (by omega) hrl (fun i hi=>hr i (by omega)) (by rw[hd,show(k+(j+1)).toNat=(k+j).toNat+1 by omega,hst]) (by omega);exact⟨q,p,r',rfl,h3,h4,h5,h6⟩
    ·rw[if_neg heq];rw[if_neg heq]at hst;obtain⟨q,p,r',_,h3,h4,h5,h6⟩:=ih k (k'+1) (j+1) (r.set k'.toNat (ix s (k+j))) hk1 hk2 (by omega) (by omega) (by omega) (by omega) (by simpa using hrl) (fun i hi=>by rw[List.getElem?_set_ne (by omega)];exact hr i (by omega)) (by
      rw[show(k+(j+1)).toNat=(k+j).toNat+1 by omega,hst,←hd,show(k'+1).toNat=k'.toNat+1 by omega,List.take_add_one,List.getElem?_set_self (by omega),List.take_set_of_le (by omega)];rfl) (by omega)
     exact⟨q,p,r',rfl,h3,h4,h5,h6⟩
   ·rw[if_neg hlt];refine⟨j,k',r,rfl,rfl,hrl,?_,by omega⟩;rw[hd,List.take_of_length_le (by omega)]
 intro fuel;induction fuel with
 |zero=>intro s3 _ _ _ h;omega
 |succ fuel ih=>
  intro s3 hs1 hs2 hd hf;rw[h1 fuel s3 s];by_cases hlt:s3<(s.length:Int)
  ·rw[if_pos hlt];have hst:=step s3.toNat (by omega) (by omega);rw[show((s3.toNat:Nat):Int)=s3 by omega]at hst;by_cases heq:eqd (ix s s3) (ix s (s3 - 1))=true
   ·rw[if_pos heq];rw[if_pos heq,List.append_nil,hd]at hst;obtain⟨q,p,r',_,h3,h4,h5,h6⟩:=inner (((s.length:Int)-(1:Int)).toNat+1) s3 s3 1 s hs1 hlt (by omega) (by omega) (by omega) (by omega) rfl (fun _ _=>rfl) (by rw[show(s3+1).toNat=s3.toNat+1 by omega,hst]) (by omega);rw[h3];left;simp only;congr 1;rw[List.take_append_of_le_length (by rw[List.length_take];omega),List.take_take,Nat.min_self,h5]
   ·rw[if_neg heq];rw[if_neg heq,hd]at hst;exact ih (s3+1) (by omega) (by omega) (by
     rw[show(s3+1).toNat=s3.toNat+1 by omega,hst,List.take_add_one,ix,List.getElem?_eq_getElem (show s3.toNat<s.length by omega)];rfl) (by omega)
  ·rw[if_neg hlt];right;refine⟨⟨s3,rfl⟩,?_⟩;rw[List.take_of_length_le (by omega)]at hd;exact hd
def cX{α:Type} [Inhabited α](eqd:α→α→Bool)(s:List α)(s3:Int)(r0:List α):Nat→Int→Int→(List α)→((List α))⊕(Int×Int×(List α))
 |0,s3',s5,r0'=> .inr (s3',s5,r0')
 |fuel+1,s3',s5,r0'=>
  if s5<((s.length - s3.toNat:Nat):Int)then
   if eqd (ix r0' (s3+s5)) (ix r0' (s3+(s5 - 1)))=true then
    cX eqd s s3 r0 fuel s3' (s5+1) r0'
   else
    cX eqd s s3 r0 fuel (s3'+1) (s5+1) (r0'.set s3'.toNat (ix r0' (s3+s5)))
  else
   .inr (s3',s5,r0')
def cn{α:Type} [Inhabited α](eqd:α→α→Bool)(s:List α):Nat→Int→(List α)→((List α))⊕(Int×(List α))
 |0,s3,r0=> .inr (s3,r0)
 |fuel+1,s3,r0=>
  if s3<(s.length:Int)then
   if eqd (ix r0 s3) (ix r0 (s3 - 1))=true then
    match cX eqd s s3 r0 (((s.length:Int)-(1:Int)).toNat+1) s3 (1:Int) r0 with
    | .inl r=> .inl r
    | .inr (s3',s5,r0')=>
     .inl ((r0'.take s3'.toNat++List.replicate (r0'.length - s3'.toNat) (default:α)).take s3'.toNat)
   else
    cn eqd s fuel (s3+1) r0
  else
   .inr (s3,r0)
def de{α:Type} [Inhabited α](eqd:α→α→Bool)(s:List α):(List α):=
 if(s.length:Int)<2 then
  s
 else
  match cn eqd s (((s.length:Int)-(1:Int)).toNat+1) (1:Int) s with
  | .inl r=>r
  | .inr (s3,r0)=>
   r0
theorem ui{α:Type} [Inhabited α](eqd:α→α→Bool)(s:List α):de eqd s=xm eqd s:=by
 unfold de;split
 ·rename_i h0;match s,h0 with
  | [],_=>rfl
  | [a],_=>rfl
  |a::b::l,h=>exact absurd h (by simp only[List.length_cons];omega)
 ·rename_i h;have hs:1≤s.length:=by omega
  rcases qN eqd s (default:α) (cX eqd s) (cn eqd s) (fun _ _ _ _ _ _=>rfl) (fun fuel s3 r0=>by
   rw[cn]) hs (((s.length:Int)-(1:Int)).toNat+1) 1 (by omega) (by omega) (by
   match s,hs with
   |a::l,_=>rfl) (by omega)with e|⟨⟨q,e⟩,e2⟩
  ·rw[e]
  ·rw[e];exact e2.symm
theorem D4{α β:Type} [DecidableEq β](eqd:α→α→Bool)(φ:α→β)(h: ∀a b,eqd a b=true↔φ a=φ b)(l:List α):(xm eqd l).map φ=dd (l.map φ):=by
 have key: ∀(l:List α) (p:α),(sC eqd p l).map φ=wa (φ p) (l.map φ):=by
  intro l;induction l with
  |nil=>intro p;rfl
  |cons b l ih=>
   intro p;rw[List.map_cons];unfold sC wa;by_cases q:eqd b p=true
   ·rw[if_pos q,if_pos ((h b p).1 q)];rw[ih b,(h b p).1 q]
   ·rw[if_neg q,if_neg (fun z=>q ((h b p).2 z)),List.map_cons,ih]
 cases l with
 |nil=>rfl
 |cons a l=>rw[List.map_cons];unfold xm dd;rw[List.map_cons,key]
theorem yk{P:Program}{fi tE m by_:Nat}{fn:Go.Func}{ρf ρt:Nat→Nat}(hen:aF P fi=true)(hf:P.funcs[fi]? =some fn)(hb:fn.body=some (eM ρf ρt (cU Tryz.f92)))(hn:fn.ntmps=61)(hr:fn.results= #[.tmp 2])(hmx:P.follows .mixedOrders=true)
  {α:Type} [Inhabited α] {enc:α→List Value} (es:aq P (ρt 36)=some (tE,m)) (un:P.underlying (ρt 36)=some (.slice tE)) (i64:P.underlying (ρt 3)=some (.int .i64)) (zc:zeroCells P tE=some (enc default)) (hby:(P.info? tE).map (·.bytes)=some by_) (hbb:by_≤100000) (hm: ∀x,(enc x).length=m) (hm0:0<m) (hmB:m≤1000) (h1: ∀x,∀v∈enc x,v.oneCell'=true)
  (X:List Nat) (w:World) (s:List α) (A_s:Option Addr) (c_s:Nat) (s1:List Value) (hs:St X w [(ab A_s,Cl (s.flatMap enc++s1) tE)] []) (z4:Ow A_s s.length c_s m (s.flatMap enc) s1) (hE:tE=ρt 61) (ag:ba P tE=some m) (sz:(P.info? tE).map (·.size)=some m) (eg:P.eqGuardType P.depth tE=false) (eqd:α→α→Bool) (hq: ∀x y,aY P 8 tE (enc x) (enc y)=some (eqd x y)):
  Fn P fi [.slice A_s s.length c_s] w fun v w'=> ∃(A':Option Addr) (c':Nat) (sp':List Value),v= .slice A' (de eqd s).length c'∧Ow A' (de eqd s).length c' m ((de eqd s).flatMap enc) sp'∧St X w' [(ab A',Cl ((de eqd s).flatMap enc++sp') tE)] []∧Fr (aQ [(ab A_s,Cl (s.flatMap enc++s1) tE)]) w w'∧(∀k∈aQ [(ab A',Cl ((de eqd s).flatMap enc++sp') tE)],k∈(aQ [(ab A_s,Cl (s.flatMap enc++s1) tE)])∨w.heap.size≤k):=by
 refine iE 61 hen hf hb hn rfl ?_;dsimp only[bS];subst hE;have hs0:=hs;have st:St X w [(ab A_s,Cl (s.flatMap enc++s1) (ρt 61))] []:=hs;have z2: ∀g,ab A_s=some g→g∈(aQ [(ab A_s,Cl (s.flatMap enc++s1) (ρt 61))])∨w.heap.size≤g:=fun g hg=> .inl (by simp[aQ,hg]);have z3:=Ow.le z4;have hF:=Fr.refl (aQ [(ab A_s,Cl (s.flatMap enc++s1) (ρt 61))]) w;refine sq fun _ k1=>rg (dV rfl (Ln k1 (sq fun _ k2=>sq fun _ k3=>rg (Lm rfl (Ly rfl (tx rfl un) (Ly rfl (y7 rfl) (Ln k3 (cD rfl (fun hc1=>?_) (fun hc1=>?_)))))))))
 ·refine sq fun _ k4=>rg (Lm rfl (dV rfl (Ln k4 (wR (jN (fR (iC hr rfl) ?_))))));unfold de;rewrite[if_pos hc1];exact⟨_,_,_,rfl,z4,(st.pk [0] (by decide)).pickK [],hF,lL z2 lK⟩
 refine sk k2 (sq fun _ k5=>sq fun _ k6=>rg (dV rfl (Ln k6 (bv (lp (fun q E W=> ∃(s3:Int) (r0:List α),E= [(0,.slice A_s s.length c_s),(3,.int .i64 s3)]∧jq q (fun m=>(cn eqd s m s3 r0=cn eqd s (((s.length:Int)-(1:Int)).toNat+1) (1:Int) s∧((s.length:Int)- s3).toNat<m)) (cn eqd s (((s.length:Int)-(1:Int)).toNat+1) (1:Int) s= .inr (s3,r0))∧(1≤s3∧1≤s3)∧Ow A_s s.length c_s m (r0.flatMap enc) s1∧(r0.length=s.length)∧St X W [(ab A_s,Cl (r0.flatMap enc++s1) (ρt 61))] []∧Fr (aQ [(ab A_s,Cl (s.flatMap enc++s1) (ρt 61))]) w W) (((s.length:Int)-(1:Int)).toNat+1) [(0,_),(3,_)] ⟨rfl,rfl,trivial⟩ ⟨_,_,rfl,⟨rfl,Nat.lt_succ_self _⟩,by first|omega|(simp;done)|(simp;omega),z4,rfl,st,hF⟩ k5 ?_ fun hout1=>?_)))))
 ·rintro E w1 ⟨s3,r0,rfl,hLk1,hinv,howr0,hlmr0,st,hF⟩;unfold jq at hLk1;dsimp only at hLk1;refine sq fun _ k7=>rg (Lm rfl (dV rfl (Ln k7 (wR (fR (iC hr rfl) ?_)))));unfold de;rewrite[if_neg hc1,hLk1];(try dsimp only);exact⟨A_s,c_s,s1,by rw[hlmr0],by rw[hlmr0];exact howr0,(st.pk [0] (by decide)).pickK [],hF,lL z2 lK⟩
 rintro m E w2 ⟨s3,r0,rfl,⟨hL1,hmu⟩,hinv,howr0,hlmr0,st,hF⟩;obtain⟨fuel,rfl⟩: ∃q,m=q+1:=⟨m - 1,by omega⟩;have z1:=Ow.le howr0;refine sq fun _ k8=>sq fun _ k9=>rg (Lm rfl (Lm rfl (Ly rfl (tx rfl un) (Ly rfl (y7 rfl) (Ln k9 (cD rfl (fun hc2=>?_) (fun hc2=>?_)))))))
 ·refine sk k8 (sq fun _ xu=>bv (sq fun _ AN=>?_));refine jS (fun W=>St X W (cx (Gz st) [0]) (Kz st)) [(true,0),(true,1),(true,2),(true,3),(true,4),(true,5),(true,6),(true,7),(true,8),(true,9)] hmx (by kernel_rfl) (by kernel_rfl) rfl ((st.pk [0] (by decide)).drew) ?_;have st:=st.drew;have hF:=hF.step0 (Fr.drew _);refine Pm rfl (Pm rfl ?_);obtain⟨gi1,egi1⟩:=(howr0).some_ (by first|omega|(simp;done)|(simp;omega));subst egi1;refine Py rfl (fG (q:=s3) rfl rfl rfl es (by first|omega|(simp;done)|(simp;omega)) (by first|omega|(simp;done)|(simp;omega))) ?_;refine Py rfl (oA (q:=s3) rfl rfl ag (fun _ h=>hZ.own (i:=0) h.hp rfl howr0 hm0) hm (by first|omega|(simp;done)|(simp;omega)) (by first|omega|(simp;done)|(simp;omega))) ?_;refine Pm rfl (Pm rfl (Py rfl (oB (c:=s3 - 1) rfl rfl rfl (bY (by first|omega|(simp;done)|(simp;omega)))) ?_));refine Py rfl (fG (q:=s3 - 1) rfl rfl rfl es (by first|omega|(simp;done)|(simp;omega)) (by first|omega|(simp;done)|(simp;omega))) ?_;refine Py rfl (oA (q:=s3 - 1) rfl rfl ag (fun _ h=>hZ.own (i:=0) h.hp rfl howr0 hm0) hm (by first|omega|(simp;done)|(simp;omega)) (by first|omega|(simp;done)|(simp;omega))) ?_;refine Py rfl (Gu (b:=eqd (ix r0 s3) (ix r0 (s3 - 1))) rfl rfl rfl eg (by rw[ag];simp) (hq (ix r0 s3) (ix r0 (s3 - 1)))) ?_;refine mq (cz (AN _ _ (cB rfl (fun hc3=>?_) (fun hc3=>?_))))
  ·refine sq fun _ AM=>rg (Lm rfl (Lm rfl (Ly rfl (ng (enc:=enc) (xs:=r0) (p:=s3) rfl rfl (hlmr0).symm es rfl rfl (by first|omega|(simp;done)|(simp;omega)) (by first|omega|(simp;done)|(simp;omega)) howr0) ?_)));refine dV rfl (Ln AM (sq fun _ AW=>sq fun _ AO=>rg (dV rfl (Ln AO (bv (lp (fun q E W=> ∃(s3':Int) (s5:Int) (r0':List α),E= [(0,.slice (some ⟨gi1,0,none⟩) s.length c_s),(3,.int .i64 s3'),(4,.slice (some ⟨gi1,0+s3.toNat*m,none⟩) (s.length - s3.toNat) (c_s - s3.toNat)),(5,.int .i64 s5)]∧jq q (fun m=>(cX eqd s s3 r0 m s3' s5 r0'=cX eqd s s3 r0 (((s.length:Int)-(1:Int)).toNat+1) s3 (1:Int) r0∧((s.length:Int)- s5).toNat<m)) (cX eqd s s3 r0 (((s.length:Int)-(1:Int)).toNat+1) s3 (1:Int) r0= .inr (s3',s5,r0'))∧(1≤s5∧s3≤s3'∧s3'<s3+s5∧s5≤s.length - s3∧1≤s3)∧Ow (some ⟨gi1,0,none⟩) s.length c_s m (r0'.flatMap enc) s1∧(r0'.length=s.length)∧St X W [(ab (some ⟨gi1,0,none⟩),Cl (r0'.flatMap enc++s1) (ρt 61))] []∧Fr (aQ [(ab (some ⟨gi1,0,none⟩),Cl (s.flatMap enc++s1) (ρt 61))]) w W) (((s.length:Int)-(1:Int)).toNat+1) [(0,_),(3,_),(4,_),(5,_)] ⟨rfl,rfl,rfl,rfl,trivial⟩ ⟨_,_,_,rfl,⟨rfl,Nat.lt_succ_self _⟩,by first|omega|(simp;done)|(simp;omega),howr0,hlmr0,st,hF⟩ AW ?_ fun hout2=>?_))))))
   ·rintro E w3 ⟨s3',s5,r0',rfl,hLk2,hinv,howr0',hlmr0',st,hF⟩;unfold jq at hLk2;dsimp only at hLk2;refine sq fun _ CL=>rg (Lm rfl (Lm rfl (Ly rfl (ng (enc:=enc) (xs:=r0') (p:=s3') rfl rfl (hlmr0').symm es rfl rfl (by first|omega|(simp;done)|(simp;omega)) (by first|omega|(simp;done)|(simp;omega)) howr0') ?_)));refine La rfl (qa (i:=0) (enc:=enc) (xs:=r0') (u:=(default:α)) (p:=s3') rfl rfl rfl (hlmr0').symm es zc rfl hm (h1 _) howr0' (by first|omega|(simp;done)|(simp;omega)) (by first|omega|(simp;done)|(simp;omega)) st.hp rfl (fun w4 how1 (hp:Hp w4 [_]) hf=>?_));have st:St X w4 [_] []:=st.set (i:=0) rfl hp hf;have st:St X w4 [_] []:=st;have hF:=hF.step hf (fun y hy=>z2 y (by simp at hy;subst hy;rfl));have hln1:(r0'.take s3'.toNat++List.replicate (r0'.length - s3'.toNat) (default:α)).length=s.length:=by simp only[List.length_append,List.length_take,List.length_replicate];omega
    refine Ln CL (sq fun _ Gp=>rg (Lm rfl (Lm rfl (Ly rfl (oY (enc:=enc) (xs:=r0'.take s3'.toNat++List.replicate (r0'.length - s3'.toNat) (default:α)) (q:=s3') rfl rfl (hln1).symm es rfl rfl (by first|omega|(simp;done)|(simp;omega)) (by first|omega|(simp;done)|(simp;omega)) how1) ?_))));have how2:=Ow.cut (enc:=enc) (xs:=r0'.take s3'.toNat++List.replicate (r0'.length - s3'.toNat) (default:α)) hm how1 (hln1).symm s3'.toNat;have st:St X _ [_] []:=st.conv (i:=0) rfl (lA s3'.toNat);refine dV rfl (Ln Gp (wR (uL (jN (jN (uL (jN (fR (iC hr rfl) ?_))))))));have hret1:cn eqd s (((s.length:Int)-(1:Int)).toNat+1) (1:Int) s= .inl ((r0'.take s3'.toNat++List.replicate (r0'.length - s3'.toNat) (default:α)).take s3'.toNat):=by rewrite[←hL1,cn];rewrite[if_pos hc2,if_pos hc3,hLk2];(try dsimp only);all_goals rfl
    have he3:de eqd s=((r0'.take s3'.toNat++List.replicate (r0'.length - s3'.toNat) (default:α)).take s3'.toNat):=by unfold de;rewrite[if_neg hc1,hret1];(try dsimp only);all_goals rfl
    rewrite[he3];exact⟨_,_,_,rfl,how2,(st.pk [0] (by decide)).pickK [],hF,lL z2 lK⟩
   rintro m E w5 ⟨s3',s5,r0',rfl,⟨hL2,hmu⟩,hinv,howr0',hlmr0',st,hF⟩;obtain⟨fuel,rfl⟩: ∃q,m=q+1:=⟨m - 1,by omega⟩;have hlehowr0':=Ow.le howr0';refine sq fun _ IX=>sq fun _ Fh=>rg (Lm rfl (Lm rfl (Ly rfl (tx rfl un) (Ly rfl (y7 rfl) (Ln Fh (cD rfl (fun hc4=>?_) (fun hc4=>?_)))))))
   ·refine sk IX (sq fun _ y8=>bv (sq fun _ CN=>?_));refine jS (fun W=>St X W (cx (Gz st) [0]) (Kz st)) [(true,0),(true,1),(true,2),(true,3),(true,4),(true,5),(true,6),(true,7),(true,8),(true,9)] hmx (by kernel_rfl) (by kernel_rfl) rfl ((st.pk [0] (by decide)).drew) ?_;have st:=st.drew;have hF:=hF.step0 (Fr.drew _);refine Pm rfl (Pm rfl (Py rfl (n8 (p:=s3) (q:=s5) rfl rfl rfl es (by first|omega|(simp;done)|(simp;omega)) (by first|omega|(simp;done)|(simp;omega)) (by first|omega|(simp;done)|(simp;omega))) ?_));refine Py rfl (oA (q:=s3+s5) rfl rfl ag (fun _ h=>hZ.own (i:=0) h.hp rfl howr0' hm0) hm (by first|omega|(simp;done)|(simp;omega)) (by first|omega|(simp;done)|(simp;omega))) ?_;refine Pm rfl (Pm rfl (Py rfl (oB (c:=s5 - 1) rfl rfl rfl (bY (by first|omega|(simp;done)|(simp;omega)))) ?_));refine Py rfl (n8 (p:=s3) (q:=s5 - 1) rfl rfl rfl es (by first|omega|(simp;done)|(simp;omega)) (by first|omega|(simp;done)|(simp;omega)) (by first|omega|(simp;done)|(simp;omega))) ?_;refine Py rfl (oA (q:=s3+(s5 - 1)) rfl rfl ag (fun _ h=>hZ.own (i:=0) h.hp rfl howr0' hm0) hm (by first|omega|(simp;done)|(simp;omega)) (by first|omega|(simp;done)|(simp;omega))) ?_;refine Py rfl (Gw (b:=eqd (ix r0' (s3+s5)) (ix r0' (s3+(s5 - 1)))) rfl rfl rfl eg (by rw[ag];simp) (hq (ix r0' (s3+s5)) (ix r0' (s3+(s5 - 1))))) ?_;refine mq (cz (CN _ _ (QP rfl (fun hc5=>?_) (fun hc5=>?_))))
    ·refine sq fun _ Fg=>rg (Lm rfl (Lm rfl (Lm rfl (Lm rfl (Ly rfl (n8 (p:=s3) (q:=s5) rfl rfl rfl es (by first|omega|(simp;done)|(simp;omega)) (by first|omega|(simp;done)|(simp;omega)) (by first|omega|(simp;done)|(simp;omega))) ?_)))));refine Ly rfl (oA (q:=s3+s5) rfl rfl ag (fun _ e=>e▸hZ.own (i:=0) st.hp rfl howr0' hm0) hm (by first|omega|(simp;done)|(simp;omega)) (by first|omega|(simp;done)|(simp;omega))) ?_;refine Ly rfl (fG (q:=s3') rfl rfl rfl es (by first|omega|(simp;done)|(simp;omega)) (by first|omega|(simp;done)|(simp;omega))) ?_;refine La rfl (qc (i:=0) (q:=s3') (u:=ix r0' (s3+s5)) rfl rfl rfl rfl rfl hm sz (h1 _) howr0' st.hp rfl (by first|omega|(simp;done)|(simp;omega)) (by first|omega|(simp;done)|(simp;omega)) hm0 (fun w6 how3 (hp:Hp w6 [_]) hf=>?_));have st:St X w6 [_] []:=st.set (i:=0) rfl hp hf;have st:St X w6 [_] []:=st;have hF:=hF.step hf (fun y hy=>z2 y (by simp at hy;subst hy;rfl));have hln2:(r0'.set s3'.toNat (ix r0' (s3+s5))).length=s.length:=by rw[List.length_set];exact hlmr0'
     rewrite[hln2]at how3;refine Ln Fg (rg (Lm rfl (Ly rfl (dH (c:=s3'+1) rfl rfl rfl (bY (by first|omega|(simp;done)|(simp;omega)))) ?_)));refine dV rfl (cw (lJ (cz (y8 _ _ (rg (Lm rfl (Ly rfl (dH (c:=s5+1) rfl rfl rfl (bY (by first|omega|(simp;done)|(simp;omega)))) ?_)))))));refine dV rfl (cw (cz (?_)));exact⟨fuel,[(0,_),(3,_),(4,_),(5,_)],Nat.lt_succ_self _,⟨rfl,rfl,rfl,rfl,trivial⟩,(s3'+1),(s5+1),(r0'.set s3'.toNat (ix r0' (s3+s5))),rfl,⟨by rewrite[←hL2,cX];rewrite[if_pos hc4,if_neg hc5];rfl,by first|omega|(simp;done)|(simp;omega)⟩,by first|omega|(simp;done)|(simp;omega),how3,hln2,(st.pk [0] (by decide)).pickK [],hF⟩
    refine dW (lJ (cz (y8 _ _ (rg (Lm rfl (Ly rfl (dH (c:=s5+1) rfl rfl rfl (bY (by first|omega|(simp;done)|(simp;omega)))) ?_))))));refine dV rfl (cw (cz (?_)));exact⟨fuel,[(0,_),(3,_),(4,_),(5,_)],Nat.lt_succ_self _,⟨rfl,rfl,rfl,rfl,trivial⟩,s3',(s5+1),r0',rfl,⟨by rewrite[←hL2,cX];rewrite[if_pos hc4,if_pos hc5];rfl,by first|omega|(simp;done)|(simp;omega)⟩,by first|omega|(simp;done)|(simp;omega),howr0',hlmr0',(st.pk [0] (by decide)).pickK [],hF⟩
   refine fH (jt (jt (iy (cz (?_)))));exact hout2 _ [(0,_),(3,_),(4,_),(5,_)] _ ⟨rfl,rfl,rfl,rfl,trivial⟩ ⟨s3',s5,r0',rfl,show _=_ from by rewrite[←hL2,cX];rewrite[if_neg hc4];rfl,by first|omega|(simp;done)|(simp;omega),howr0',hlmr0',(st.pk [0] (by decide)).pickK [],hF⟩
  refine dW (lJ (cz (xu _ _ (rg (Lm rfl (Ly rfl (dH (c:=s3+1) rfl rfl rfl (bY (by first|omega|(simp;done)|(simp;omega)))) ?_))))));refine dV rfl (cw (cz (?_)));exact⟨fuel,[(0,_),(3,_)],Nat.lt_succ_self _,⟨rfl,rfl,trivial⟩,(s3+1),r0,rfl,⟨by rewrite[←hL1,cn];rewrite[if_pos hc2,if_neg hc3];rfl,by first|omega|(simp;done)|(simp;omega)⟩,by first|omega|(simp;done)|(simp;omega),howr0,hlmr0,(st.pk [0] (by decide)).pickK [],hF⟩
 refine fH (jt (jt (iy (cz (?_)))));exact hout1 _ [(0,_),(3,_)] _ ⟨rfl,rfl,trivial⟩ ⟨s3,r0,rfl,show _=_ from by rewrite[←hL1,cn];rewrite[if_neg hc2];rfl,by first|omega|(simp;done)|(simp;omega),howr0,hlmr0,(st.pk [0] (by decide)).pickK [],hF⟩
end Go.Proofs.YtmpeiadlohbikaaGreatDoor.V
end

section
set_option linter.unusedVariables false
set_option linter.unusedSimpArgs false
namespace Go.Proofs.YtmpeiadlohbikaaGreatDoor.V
open Go.RowKit
section
variable [ao] {U:bD} {P:Program} {X:List Nat} {w w':World} {ρ:Nat→Rz} {n:Nat} {H:Hs U}
theorem II{s:aZ}{xs:List (TT U.ty s)}{el:Nat}{A:Option Addr}{c:Nat}{cs sp:List Value}(M:aX U X (· =w) ρ n H)(hf:Fr [] w w')
  (hm:0<aG U s) (hden:aR U (aj ρ H++X) (· =w) s xs cs) (how:Ow A xs.length c (aG U s) cs sp) (hblk: ∀g,ab A=some g→w'.heap[g]? =some (Cl (cs++sp) el)) (hg: ∀g,ab A=some g→w.heap.size≤g):
  ∃ρ',cM (Vw U X w' ρ' (n+1) ((n,.row 0 s xs el)::H)) ⟨false,[(1,.own n 0)]⟩ (.slice A xs.length c)∧aX U X (· =w') ρ' (n+1) ((n,.row 0 s xs el)::H)∧bQ ρ n H w ρ' (n+1) ((n,.row 0 s xs el)::H) w':=by
 have hb: ∀g',Lv (bR ρ n (rz A c)) (n,(.row 0 s xs el:aH U)) g'→w.heap.size≤g':=fun g' h=>hg g' (kh h);have st:=bQ.push (ρ:=ρ) M.xd M.lt hf (rz A c) (.row 0 s xs el:aH U) hb;refine⟨bR ρ n (rz A c),?_,M.push hf _ _ hb ⟨hm,cs,sp,aR.mv (st.mv (X:=X)) hden,by rw[ax];exact how,fun g h w2 h2=>by subst h2;rw[ax]at h;exact hblk g h⟩,st⟩;refine gz ⟨Nat.lt_succ_self _,_,_,_,rfl,fun v' l m hr=>?_⟩;rw[nH]at hr;injection hr with hr;injection hr with h1 hr;injection hr with h2 h3;subst h1;subst h2;subst h3;exact⟨Nat.le_refl _,fun _=>⟨by rw[ax],rfl,by rw[ax]⟩⟩
theorem Ax{i v:Nat}{s:aZ}{xs xs':List (TT U.ty s)}{el:Nat}{A':Option Addr}{c':Nat}{cs' sp':List Value}(M:aX U X (· =w) ρ n H)(hi:i<n)(hl:aD H i=some (.row v s xs el))(hm:0<aG U s)(hf:Fr (ab (ρ i).A).toList w w')
  (hb: ∀g,ab A'=some g→ab (ρ i).A=some g∨w.heap.size≤g) (hden:aR U (aj ρ H++X) (· =w) s xs' cs') (how:Ow A' xs'.length c' (aG U s) cs' sp') (hblk: ∀g,ab A'=some g→w'.heap[g]? =some (Cl (cs'++sp') el)):
  ∃ρ',cM (Vw U X w' ρ' n (cO H i (.row (v+1) s xs' el))) ⟨false,[(1,.own i (v+1))]⟩ (.slice A' xs'.length c')∧aX U X (· =w') ρ' n (cO H i (.row (v+1) s xs' el))∧bQ ρ n H w ρ' n (cO H i (.row (v+1) s xs' el)) w':=by
 have hb0: ∀g',Lv (bR ρ i (rz A' c')) (i,(.row (v+1) s xs' el:aH U)) g'→Lv ρ (i,(.row v s xs el:aH U)) g'∨w.heap.size≤g':=fun g' h=>hb g' (kh h);have hr0: ∀v' l' m',bg (some (.row (v+1) s xs' el:aH U))=some (v',l',m')→ ∃v0 l m,bg (some (.row v s xs el:aH U))=some (v0,l,m)∧v0≤v'∧(v0=v'→(rz A' c')=ρ i∧l'=l∧m'=m):=fun v' l' m' hr=>by
  injection hr with hr;injection hr with g1 hr;subst g1;exact⟨v,_,_,rfl,Nat.le_succ _,fun h=>by omega⟩
 have st:=bQ.upd (n:=n) M.xd M.nd hl hf (rz A' c') hb0 hr0 (fun h=>by cases h);have M':=M.upd hl hf (rz A' c') hb0 hr0 (fun h=>by cases h) (by
  refine⟨hm,cs',sp',aR.mv (st.mv (X:=X)) hden,by rw[ax];exact how,fun g hg' w2 h2=>?_⟩;subst h2;rw[ax]at hg';exact hblk g hg')
 refine⟨_,?_,M',st⟩;refine gz ⟨hi,_,_,_,rfl,fun v' l m hr=>?_⟩;rw[bV ⟨_,hl⟩,if_pos rfl]at hr;injection hr with hr;injection hr with g1 hr;injection hr with g2 g3;subst g1;subst g2;subst g3;exact⟨Nat.le_refl _,fun _=>⟨by rw[ax],rfl,by rw[ax]⟩⟩
theorem IJ{i v:Nat}{s:aZ}{xs xs':List (TT U.ty s)}{el:Nat}{cs' sp':List Value}(M:aX U X (· =w) ρ n H)(hl:aD H i=some (.row v s xs el))(hm:0<aG U s)(hf:Fr (ab (ρ i).A).toList w w')(hlen:xs'.length=xs.length)
  (hden:aR U (aj ρ H++X) (· =w) s xs' cs') (how:Ow (ρ i).A xs'.length (ρ i).c (aG U s) cs' sp') (hblk: ∀g,ab (ρ i).A=some g→w'.heap[g]? =some (Cl (cs'++sp') el)):
  ∃ρ',aX U X (· =w') ρ' n (cO H i (.row v s xs' el))∧bQ ρ n H w ρ' n (cO H i (.row v s xs' el)) w':=by
 have hb0: ∀g',Lv (bR ρ i (ρ i)) (i,(.row v s xs' el:aH U)) g'→Lv ρ (i,(.row v s xs el:aH U)) g'∨w.heap.size≤g':=fun g' h=> .inl (kh h);have hr0: ∀v' l' m',bg (some (.row v s xs' el:aH U))=some (v',l',m')→ ∃v0 l m,bg (some (.row v s xs el:aH U))=some (v0,l,m)∧v0≤v'∧(v0=v'→(ρ i)=ρ i∧l'=l∧m'=m):=fun v' l' m' hr=>by
  injection hr with hr;injection hr with g1 hr;injection hr with g2 g3;subst g1;subst g2;subst g3;exact⟨v,_,_,rfl,Nat.le_refl _,fun _=>⟨rfl,hlen,rfl⟩⟩
 have st:=bQ.upd (n:=n) M.xd M.nd hl hf (ρ i) hb0 hr0 (fun h=>by cases h);have M':=M.upd hl hf (ρ i) hb0 hr0 (fun h=>by cases h) (by
  refine⟨hm,cs',sp',aR.mv (st.mv (X:=X)) hden,by rw[ax];exact how,fun g hg' w2 h2=>?_⟩;subst h2;rw[ax]at hg';exact hblk g hg')
 exact⟨_,M',st⟩
theorem SV{Y:List Nat}(hf:Fr [] w w'):Mv Y (· =w) Y (· =w'):=fun w2 h2=>⟨w,[],rfl,by subst h2;exact hf,fun _ h=>(by cases h),fun y hy=> .inl hy⟩
end
theorem fq{U:bD}{P:Program}{tE:Nat}{ei:TI U}{s:aZ}(hti:aT U P tE ei)(hz: ∃z,cG 20 s ei.zero fun x=>x=z)(Y:List Nat)(w:World): ∃I:Inhabited (Em U Y w s),zeroCells P tE=some (default:Em U Y w s).c:=by
 obtain⟨z,hz⟩:=hz;obtain⟨zs,h1,h2,h3⟩:=hti.zero;have F:ao:=⟨[],P⟩;obtain⟨x,hx,hd⟩:=bu hz;exact⟨⟨⟨x,zs,hd _ _ _ _ _ _ (h3 F Y (· =w) (fun _=>(rz none 0)) 0 [])⟩⟩,h1⟩
section
variable {U:bD} {P:Program} {fi tE:Nat} {fn:Go.Func} {ρf ρt:Nat→Nat} {s:aZ} {ei:TI U}
def pA(U:bD)(s:aZ)(tE:Nat):aW U:=⟨[.d (.sl s)],fun xs es K=> ∃l:List (TT U.ty s),xs= [⟨false,[(1,.d (.sl s) l)]⟩]∧es= []∧l.length≤1000000∧K (.v ⟨false,[(1,.own 0 0)]⟩) [.row 0 s l tE]⟩
theorem Ay [ao]{X:List Nat}{w:World}{ρ:Nat→Rz}{n:Nat}{H:Hs U}{l:List (TT U.ty s)}{v:Value}(h:cM (Vw U X w ρ n H) ⟨false,[(1,.d (.sl s) l)]⟩ v):
  ∃A c,∃em:List (Em U (aj ρ H++X) w s),em.map (·.x)=l∧v= .slice A em.length c∧em.length=l.length∧hZ (aj ρ H++X) w A em.length c (aG U s) (em.flatMap (·.c)):=by
 obtain⟨A,c,cs,e,hd,hr,h1,h2⟩:=(show aC U (aj ρ H++X) (· =w) (.sl s) l [v]from(bJ.one1 h).1).inv;injection e with e;subst e;obtain⟨em,e1,e2⟩:=xl hd;have hl:em.length=l.length:=by rw[←e1,List.length_map]
 exact⟨A,c,em,e1,by rw[hl],hl,⟨by rw[e2];exact hr w rfl,by rw[bc (fun x=>x.hl)],by rw[hl];exact h1,h2⟩⟩
theorem oP(hen:aF P fi=true)(hf:P.funcs[fi]? =some fn)(hb:fn.body=some (eM ρf ρt (cU Tryz.f79)))(hn:fn.ntmps=8)(hr:fn.results= #[.tmp 2])(hmx:P.follows .mixedOrders=true)(i64:P.underlying (ρt 3)=some (.int .i64))
  (es:aq P (ρt 36)=some (tE,aG U s)) (un:P.underlying (ρt 36)=some (.slice tE)) (hti:aT U P tE ei) (hz: ∃z,cG 20 s ei.zero fun x=>x=z) (hbb:ei.by_≤100000) (hm0:0<aG U s) (hmB:aG U s≤1000):bh P U fi (pA U s tE):=fun [F:ao] hpr X w ρ es0 xs vs K M hv hrun=>by
 obtain⟨l,rfl,rfl,hl,hK⟩:=hrun;obtain⟨v,us,rfl,h1,h2⟩:=hv;rw[show us= []from h2];obtain⟨A,c,em,e1,rfl,e2,hs⟩:=Ay h1;obtain⟨I,hu⟩:=fq hti hz (aj ρ (au 0 [])++X) w;refine Fn.mono (DZ (enc:=fun e:Em U (aj ρ (au 0 [])++X) w s=>e.c) hen hf hb hn hr hmx es un i64 (by exact hu) hti.by_ hbb (fun x=>x.hl) hm0 hmB (fun x=>x.h1) X w (M.lo w rfl) em A c hs (by omega)) ?_;rintro v w' ⟨A',c',sp',rfl,how,st,hf',hk⟩;rw[e2]at how⊢;obtain⟨ρ',a1,a2,a3⟩:=II (el:=tE) M hf' hm0 (by have:=i7 em;rw[e1]at this;exact this) how (fun g hg=>st.hp.at (i:=0) (by rw[hg];rfl)) (fun g hg=>(hk g (by simp[aQ,hg])).elim (fun h=>by cases h) id);exact⟨_,_,ρ',hK,a1,a2,a3⟩
def sD(U:bD)(s:aZ)(tE:Nat):aW U:=⟨[.d (.sl (.sl s))],fun xs es K=> ∃l1 l2:List (TT U.ty s),xs= [⟨false,[(1,.d (.sl (.sl s)) [l1,l2])]⟩]∧es= []∧l1.length≤1000000∧l2.length≤1000000∧K (.v ⟨false,[(1,.own 0 0)]⟩) [.row 0 s (l1++l2) tE]⟩
theorem vQ [ao]{Y:List Nat}{w:World}{l:List (TT U.ty s)}{v:Value}(h:aC U Y (· =w) (.sl s) l [v]):
  ∃A c,∃em:List (Em U Y w s),em.map (·.x)=l∧v= .slice A em.length c∧em.length=l.length∧hZ Y w A em.length c (aG U s) (em.flatMap (·.c)):=by
 obtain⟨A,c,cs,e,hd,hr,h1,h2⟩:=h.inv;injection e with e;subst e;obtain⟨em,e1,e2⟩:=xl hd;have hl:em.length=l.length:=by rw[←e1,List.length_map]
 exact⟨A,c,em,e1,by rw[hl],hl,⟨by rw[e2];exact hr w rfl,by rw[bc (fun x=>x.hl)],by rw[hl];exact h1,h2⟩⟩
theorem vS{Y:List Nat}{S:World→Prop}{l:List (TT U.ty s)}{vs:List Value}(h:aC U Y S (.sl s) l vs): ∃v,vs= [v]:=by
 obtain⟨A,c,cs,e,_⟩:=h.inv;exact⟨_,e⟩
theorem uj{fg:Go.Func}(hen:aF P fi=true)(hf:P.funcs[fi]? =some fn)(hb:fn.body=some (eM ρf ρt (cU Tryz.f90)))(hn:fn.ntmps=36)(hr:fn.results= #[.tmp 2])
  (gen:aF P (ρf 153)=true) (gf:P.funcs[ρf 153]? =some fg) (gb:fg.body=some (eM ρf ρt (cU Tryz.f153))) (gn:fg.ntmps=27) (gr:fg.results= #[.tmp 4]) (hmx:P.follows .mixedOrders=true) (i64:P.underlying (ρt 3)=some (.int .i64))
  (es:aq P (ρt 36)=some (tE,aG U s)) (un:P.underlying (ρt 36)=some (.slice tE)) (es2:aq P (ρt 249)=some (ρt 36,1)) (un2:P.underlying (ρt 249)=some (.slice (ρt 36))) (pl:dG P (ρt 36)=true)
  (hti:aT U P tE ei) (hz: ∃z,cG 20 s ei.zero fun x=>x=z) (hbb:ei.by_≤100000) (hm0:0<aG U s) (hmB:aG U s≤1000):bh P U fi (sD U s tE):=fun [F:ao] hpr X w ρ es0 xs vs K M hv hrun=>by
 obtain⟨l1,l2,rfl,rfl,hl1,hl2,hK⟩:=hrun;obtain⟨v,us,rfl,h1,h2⟩:=hv;rw[show us= []from h2];obtain⟨A,c,cs,e,hd,hrd,hlc,hcm⟩:=(show aC U (aj ρ (au 0 [])++X) (· =w) (.sl (.sl s)) [l1,l2] [v]from(bJ.one1 h1).1).inv;injection e with e;subst e;obtain⟨v1,r1,rfl,d1,_,hd⟩:=aR.cons_inv hd;obtain⟨v2,r2,rfl,d2,_,hd⟩:=aR.cons_inv hd;have hr2:=hd.nil_inv;subst hr2;obtain⟨v1,rfl⟩:=vS d1;obtain⟨v2,rfl⟩:=vS d2;obtain⟨A1,C1,em1,e1,rfl,n1,s1⟩:=vQ d1;obtain⟨A2,C2,em2,e2,rfl,n2,s2⟩:=vQ d2;obtain⟨I,hu⟩:=fq hti hz (aj ρ (au 0 [])++X) w;have hX:=M.lo w rfl;refine Fn.mono (yi (tS:=0) (enc:=fun e:Em U (aj ρ (au 0 [])++X) w s=>e.c) hen hf hb hn hr hmx es un i64 (by exact hu) hti.by_ hbb (fun x=>x.hl) hm0 hmB (fun x=>x.h1) X w hX em1 A1 C1 em2 A2 C2 A c s1 s2 ⟨hrd w rfl,rfl,hlc,hcm⟩ (by omega) (by omega) es2 un2 pl
  (fun X w hX n hn0 hn1=>IH (enc:=fun e:Em U _ _ s=>e.c) gen gf gb gn gr hmx es un i64 (by exact hu) hti.by_ hbb (fun x=>x.hl) hm0 hmB (fun x=>x.h1) X w hX n hn0 hn1)) ?_
 rintro v w' ⟨A',c',sp',rfl,how,st,hf',hk⟩;have hlen:(em1++em2).length=(l1++l2).length:=by rw[List.length_append,List.length_append,n1,n2]
 rw[hlen]at how⊢;obtain⟨ρ',a1,a2,a3⟩:=II (el:=tE) M hf' hm0 (by have:=i7 (em1++em2);rw[List.map_append,e1,e2]at this;exact this) how (fun g hg=>st.hp.at (i:=0) (by rw[hg];rfl)) (fun g hg=>(hk g (by simp[aQ,hg])).elim (fun h=>by cases h) id);exact⟨_,_,ρ',hK,a1,a2,a3⟩
def cI{α:Type}(l:List α)(g:α→Bool):Int:=match l.findIdx? g with
 |some i=>(i:Int)
 |none=> -1
theorem xn{α:Type} [Inhabited α](l:List α)(g:α→Bool):aP l g=cI l g:=by
 unfold cI;rcases jG l g with⟨a,b,c,d⟩|⟨a,b⟩
 ·obtain⟨k,hk⟩:=Int.eq_ofNat_of_zero_le a;rw[hk]at b c d⊢;have hkl:k<l.length:=by omega
  have e:l.findIdx? g=some k:=by
   rw[List.findIdx?_eq_some_iff_getElem];refine⟨hkl,by rw[←ow l hkl];exact c,fun j hj=>?_⟩;have:=d j (by omega) (by omega);rw[ow l (by omega)]at this;simp[this]
  rw[e]
 ·rw[a];have e:l.findIdx? g=none:=by
   rw[List.findIdx?_eq_none_iff];intro x hx;obtain⟨j,hj,rfl⟩:=List.getElem_of_mem hx;have:=b j (by omega) (by omega)
   rwa [ow l hj]at this
  rw[e]
theorem uk{α β:Type}(φ:α→β)(l:List α)(g:β→Bool):cI l (fun x=>g (φ x))=cI (l.map φ) g:=by
 unfold cI;rw[List.findIdx?_map];rfl
def sE(U:bD)(s:aZ):aW U:=⟨[.d (.sl s),.f1 s],fun xs es K=> ∃(l:List (TT U.ty s)) (g:TT U.ty s→Bool),xs= [⟨false,[(1,.d (.sl s) l)]⟩,⟨false,[(1,.f1 s g)]⟩]∧es= []∧K (.v ⟨false,[(1,.d (.int .i64) (cI l g))]⟩) []⟩
theorem sF [ao]{X:List Nat}{w w1:World}{ρ:Nat→Rz}{n:Nat}{H:Hs U}{g:TT U.ty s→Bool}{u:Value}(hpr:ao.pr=P)(hag:eK s=true)(h:Vw U X w ρ n H (.f1 s g) [u])(x:Em U (aj ρ H++X) w s){O:List Nat}(hf:Fr O w w1)(hO: ∀y∈O,y∈aj ρ H)(xd: ∀g∈aj ρ H,g∉ao.xf)(hY: ∀z∈gB,z∈aj ρ H++X):
  pZ P u [.agg x.c.toArray] w1 fun v w2=>v= .bool (g x.x)∧Fr [] w1 w2:=by
 obtain⟨u',e,hv⟩:=h;injection e with e;subst e;have mv:Mv (aj ρ H++X) (· =w) (aj ρ H++X) (· =w1):=fun w2 h2=>⟨w,O,rfl,by subst h2;exact hf,fun y hy=>⟨List.mem_append_left _ (hO y hy),xd y (hO y hy)⟩,fun y hy=> .inl hy⟩;have h1:=y3.call (v:= .agg x.c.toArray) (hv.mv mv) hY (t:=x.x) (by simpa[Value.cells]using aC.mv mv x.den) (by unfold d4;rw[hag];simp[Value.cells]);rw[hpr]at h1;exact h1
theorem sG(hen:aF P fi=true)(hf:P.funcs[fi]? =some fn)(hb:fn.body=some (eM ρf ρt (cU Tryz.f155)))(hn:fn.ntmps=19)(hr:fn.results= #[.tmp 4])(hmx:P.follows .mixedOrders=true)(i64:P.underlying (ρt 3)=some (.int .i64))(hag:eK s=true)
  (es:aq P (ρt 35)=some (tE,aG U s)) (un:P.underlying (ρt 35)=some (.slice tE)) (hE:tE=ρt 128) (ag:ba P tE=some (aG U s)) (sz:(P.info? tE).map (·.size)=some (aG U s)) (hti:aT U P tE ei) (hz: ∃z,cG 20 s ei.zero fun x=>x=z) (hbb:ei.by_≤100000) (hm0:0<aG U s) (hmB:aG U s≤1000):bh P U fi (sE U s):=fun [F:ao] hpr X w ρ es0 xs vs K M hv hrun=>by
 obtain⟨l,g,rfl,rfl,hK⟩:=hrun;obtain⟨v,us,rfl,h1,v2,us2,rfl,h2,h3⟩:=hv;rw[show us2= []from h3];obtain⟨A,c,em,e1,rfl,e2,hs⟩:=Ay h1;obtain⟨I,hu⟩:=fq hti hz (aj ρ (au 0 [])++X) w;have h2:Vw U X w ρ 0 (au 0 []) (.f1 s g) [v2]:=(bJ.one1 h2).1;refine Fn.mono (sB (enc:=fun e:Em U (aj ρ (au 0 [])++X) w s=>e.c) hen hf hb hn hr hmx es un i64 (by exact hu) hti.by_ hbb (fun x=>x.hl) hm0 hmB (fun x=>x.h1) X w (M.lo w rfl) em A c v2 (fun e=>g e.x) hs (fun w1 x0 hw=>sF hpr hag h2 x0 hw (fun y hy=>by cases hy) M.xd M.gY) hE ag sz) ?_;rintro v w' ⟨rfl,hf'⟩;rw[xn,uk (fun e:Em U (aj ρ (au 0 [])++X) w s=>e.x),e1];have hr:dS .i64 (cI l g):=by
  unfold cI;have:=hs.le;cases hq:l.findIdx? g with
  |none=>exact⟨by decide,by decide⟩
  |some k=>have:=(List.findIdx?_eq_some_iff_getElem.1 hq).1;simp only[dS];omega
 exact⟨_,_,ρ,hK,gz (aC.int .i64 _ hr),(M.keep0 hf').1,(M.keep0 hf').2⟩
theorem iR [ao]{X:List Nat}{w:World}{ρ:Nat→Rz}{n i:Nat}{H:Hs U}{xs:List (TT U.ty s)}{v:Value}(M:aX U X (· =w) ρ n H)(hl:aD H i=some (.row 0 s xs tE))(h:cM (Vw U X w ρ n H) ⟨false,[(1,.own i 0)]⟩ v):
  ∃(em:List (Em U (aj ρ H++X) w s)) (sp:List Value),i<n∧em.map (·.x)=xs∧em.length=xs.length∧v= .slice (ρ i).A em.length (ρ i).c∧Ow (ρ i).A em.length (ρ i).c (aG U s) (em.flatMap (·.c)) sp∧ ∀g,ab (ρ i).A=some g→w.heap[g]? =some (Cl (em.flatMap (·.c)++sp) tE):=by
 obtain⟨hi,A,l,c,e1,hnow⟩:=(show Vw U X w ρ n H (.own i 0) [v]from(bJ.one1 h).1);injection e1 with e1;subst e1;obtain⟨rfl,rfl,rfl⟩:=(hnow _ _ _ (by rw[hl];rfl)).2 rfl;obtain⟨hm,cs,sp,hdx,how0,hw⟩:=M.ent _ (af hl);obtain⟨em,e1,e2⟩:=xl hdx;have hlen:em.length=xs.length:=by rw[←e1,List.length_map]
 refine⟨em,sp,hi,e1,hlen,by rw[hlen],by rw[hlen,e2];exact how0,fun g hg=>by rw[e2];exact hw g hg w rfl⟩
theorem lG{X:List Nat}{w:World}{A:Option Addr}{cs:List Value}(hX:Lo X w)(h: ∀g,ab A=some g→w.heap[g]? =some (Cl cs tE))(dj: ∀g,ab A=some g→g∉X):St X w [(ab A,Cl cs tE)] []:=by
 refine⟨?_,by simp,hX,fun x hx hk=>?_⟩
 ·cases hA:ab A with
  |none=>exact CK _
  |some g=>exact yh (h g hA)
 ·cases hA:ab A with
  |none=>rw[hA]at hk;cases hk
  |some g=>rw[hA]at hk;simp[aQ]at hk;subst hk;exact dj x hA hx
theorem dw{A:Option Addr}{o:Obj}:aQ [(ab A,o)]=(ab A).toList:=by cases h:ab A<;>simp[aQ]
theorem ew [ao]{ρ:Nat→Rz}{i:Nat}{H:Hs U}{v:Nat}{xs:List (TT U.ty s)}(hl:aD H i=some (.row v s xs tE)){g:Nat}(hg:ab (ρ i).A=some g):g∈aj ρ H:=aA.2 ⟨_,af hl,hg⟩
def oQ(U:bD)(s:aZ)(tE:Nat):aW U:=⟨[.n,.f1 s],fun xs es K=> ∃(l:List (TT U.ty s)) (g:TT U.ty s→Bool),xs= [⟨false,[(1,.own 0 0)]⟩,⟨false,[(1,.f1 s g)]⟩]∧es= [.row 0 s l tE]∧K (.v ⟨false,[(1,.own 0 1)]⟩) [.row 1 s (l.filter fun x=>!g x) tE]⟩
theorem pB{fx:Go.Func}(hen:aF P fi=true)(hf:P.funcs[fi]? =some fn)(hb:fn.body=some (eM ρf ρt (cU Tryz.f93)))(hn:fn.ntmps=42)(hr:fn.results= #[.tmp 4])
  (gen:aF P (ρf 155)=true) (gf:P.funcs[ρf 155]? =some fx) (gb:fx.body=some (eM ρf ρt (cU Tryz.f155))) (gn:fx.ntmps=19) (gr:fx.results= #[.tmp 4]) (hmx:P.follows .mixedOrders=true) (i64:P.underlying (ρt 3)=some (.int .i64)) (hag:eK s=true)
  (es:aq P (ρt 35)=some (tE,aG U s)) (un:P.underlying (ρt 35)=some (.slice tE)) (hE:tE=ρt 128) (ag:ba P tE=some (aG U s)) (sz:(P.info? tE).map (·.size)=some (aG U s)) (hti:aT U P tE ei) (hz: ∃z,cG 20 s ei.zero fun x=>x=z) (hbb:ei.by_≤100000) (hm0:0<aG U s) (hmB:aG U s≤1000):bh P U fi (oQ U s tE):=fun [F:ao] hpr X w ρ es0 xs vs K M hv hrun=>by
 obtain⟨l,g,rfl,rfl,hK⟩:=hrun;obtain⟨v,us,rfl,h1,v2,us2,rfl,h2,h3⟩:=hv;rw[show us2= []from h3];have hl:aD (au 0 [aH.row 0 s l tE]) 0=some (.row 0 s l tE):=rfl;obtain⟨em,sp,hi,e1,e2,rfl,how0,hw⟩:=iR M hl h1;obtain⟨I,hu⟩:=fq hti hz (aj ρ (au 0 [aH.row 0 s l tE])++X) w;have h2:Vw U X w ρ 1 (au 0 [aH.row 0 s l tE]) (.f1 s g) [v2]:=(bJ.one1 h2).1;have dj: ∀g,ab (ρ 0).A=some g→g∉X:=fun g hg=>M.dj g (ew hl hg);have hkey: ∀y∈aQ [(ab (ρ 0).A,Cl (em.flatMap (fun e:Em U (aj ρ (au 0 [aH.row 0 s l tE])++X) w s=>e.c)++sp) tE)],y∈aj ρ (au 0 [aH.row 0 s l tE]):=fun y hy=>by
  rw[dw]at hy;exact ew hl (by simpa using hy)
 refine Fn.mono (Au (enc:=fun e:Em U (aj ρ (au 0 [aH.row 0 s l tE])++X) w s=>e.c) hen hf hb hn hr hmx es un i64 (by exact hu) hti.by_ hbb (fun x=>x.hl) hm0 hmB (fun x=>x.h1) X w em (ρ 0).A (ρ 0).c sp v2 (fun e=>g e.x) (lG (M.lo w rfl) hw dj) how0
  (fun w1 x0 hw1=>sF hpr hag h2 x0 hw1 hkey M.xd M.gY) hE ag sz
  (fun X w hX hs hp=>sB (enc:=fun e:Em U (aj ρ (au 0 [aH.row 0 s l tE])++_) _ s=>e.c) gen gf gb gn gr hmx es un i64 (by exact hu) hti.by_ hbb (fun x=>x.hl) hm0 hmB (fun x=>x.h1) X w hX em (ρ 0).A (ρ 0).c v2 (fun e=>g e.x) hs hp hE ag sz)) ?_
 rintro v w' ⟨A',c',sp',rfl,how,st,hf',hk⟩;rw[vP]at how st⊢;have em':(em.filter fun x=>!g x.x).map (·.x)=l.filter fun x=>!g x:=by rw[←e1,List.filter_map];rfl
 have hlen:(em.filter fun x=>!g x.x).length=(l.filter fun x=>!g x).length:=by rw[←em',List.length_map]
 rw[hlen]at how⊢;rw[dw]at hf';obtain⟨ρ',a1,a2,a3⟩:=Ax (el:=tE) M hi hl hm0 hf' (fun g' hg'=>(hk g' (by simp[aQ,hg'])).imp (fun h=>by rw[dw]at h;simpa using h) id) (by have:=i7 (em.filter fun x=>!g x.x);rw[em']at this;exact this) how (fun g' hg'=>st.hp.at (i:=0) (by rw[hg'];rfl));exact⟨_,_,ρ',hK,a1,a2,a3⟩
theorem aX.dead [ao]{X:List Nat}{w:World}{ρ:Nat→Rz}{n i:Nat}{H:Hs U}{x:aH U}(M:aX U X (· =w) ρ n H)(hl:aD H i=some x):aX U X (· =w) (bR ρ i (ρ i)) n (cO H i .dead)∧bQ ρ n H w (bR ρ i (ρ i)) n (cO H i .dead) w:=by
 have hb: ∀g,Lv (bR ρ i (ρ i)) (i,(.dead:aH U)) g→Lv ρ (i,x) g∨w.heap.size≤g:=fun g h=>by cases h
 have hr: ∀v' l' m',bg (some (.dead:aH U))=some (v',l',m')→ ∃v l m,bg (some x)=some (v,l,m)∧v≤v'∧(v=v'→ρ i=ρ i∧l'=l∧m'=m):=fun v' l' m' h=>by cases h
 exact⟨M.upd hl (Fr.refl _ _) (ρ i) hb hr (fun _=>rfl) trivial,bQ.upd M.xd M.nd hl (Fr.refl _ _) (ρ i) hb hr (fun _=>rfl)⟩
def sH(U:bD)(s:aZ)(tE:Nat):aW U:=⟨[.n,.n,.n],fun xs es K=> ∃(l:List (TT U.ty s)) (i:Int) (a:TT U.ty s),xs= [⟨false,[(1,.own 0 0)]⟩,⟨false,[(1,.d (.int .i64) i)]⟩,⟨false,[(1,.own 1 0)]⟩]∧es= [.row 0 s l tE,.row 0 s [a] tE]∧0≤i∧i≤l.length∧l.length≤1000000∧K (.v ⟨false,[(1,.own 0 1)]⟩) [.row 1 s (iJ l i [a]) tE,.dead]⟩
theorem ul{fo:Go.Func}(hen:aF P fi=true)(hf:P.funcs[fi]? =some fn)(hb:fn.body=some (eM ρf ρt (cU Tryz.f89)))(hn:fn.ntmps=95)(hr:fn.results= #[.tmp 6])(hmx:P.follows .mixedOrders=true)(i64:P.underlying (ρt 3)=some (.int .i64))
  (es:aq P (ρt 35)=some (tE,aG U s)) (un:P.underlying (ρt 35)=some (.slice tE)) (ovf:P.funcs[ρf 151]? =some fo) (ovn:(fo.name== "runtime.NumGoroutine")=false) (ovb:fo.body.isNone=true) (ovr:Extern.findNext fo=none) (ove:Extern.find fo=some (Extern.SlicesOverlaps.overlaps #[ρt 35,ρt 35] #[ρt 4]))
  (hti:aT U P tE ei) (hz: ∃z,cG 20 s ei.zero fun x=>x=z) (hbb:ei.by_≤100000) (hm0:0<aG U s) (hmB:aG U s≤1000):bh P U fi (sH U s tE):=fun [F:ao] hpr X w ρ es0 xs vs K M hv hrun=>by
 obtain⟨l,i,a,rfl,rfl,hi0,hi1,hl1,hK⟩:=hrun;obtain⟨v,us,rfl,h1,v2,us2,rfl,h2,v3,us3,rfl,h3,h4⟩:=hv;rw[show us3= []from h4];have hl:aD (au 0 [aH.row 0 s l tE,aH.row 0 s [a] tE]) 0=some (.row 0 s l tE):=rfl;have hlb:aD (au 0 [aH.row 0 s l tE,aH.row 0 s [a] tE]) 1=some (.row 0 s [a] tE):=rfl;obtain⟨em,sp,hi,e1,e2,rfl,how0,hw⟩:=iR M hl h1;obtain⟨en,sq,hib,e1b,e2b,rfl,how0b,hwb⟩:=iR M hlb h3;obtain⟨hv2,_⟩:=aC.inv (show aC U _ _ (.int .i64) i [v2]from(bJ.one1 h2).1);injection hv2 with hv2;subst hv2;obtain⟨I,hu⟩:=fq hti hz (aj ρ (au 0 [aH.row 0 s l tE,aH.row 0 s [a] tE])++X) w;have hne: ∀g,ab (ρ 0).A=some g→ab (ρ 1).A=some g→False:=fun g h0 h1=>by
  have:=M.inj _ (af hl) _ (af hlb) g h0 h1;cases this
 have hst:St X w [(ab (ρ 0).A,Cl (em.flatMap (·.c)++sp) tE),(ab (ρ 1).A,Cl (en.flatMap (·.c)++sq) tE)] []:=by
  refine⟨⟨fun j g o hj=>?_,fun j k g o o' hj hk=>?_⟩,by simp,M.lo w rfl,fun x hx hk=>?_⟩
  ·match j,hj with
   |0,hj=>injection hj with hj;injection hj with a1 a2;subst a2;exact hw g a1
   |1,hj=>injection hj with hj;injection hj with a1 a2;subst a2;exact hwb g a1
   |j+2,hj=>simp at hj
  ·match j,k,hj,hk with
   |0,0,_,_=>rfl
   |1,1,_,_=>rfl
   |0,1,hj,hk=>injection hj with hj;injection hj with a1 a2;injection hk with hk;injection hk with b1 b2;exact(hne g a1 b1).elim
   |1,0,hj,hk=>injection hj with hj;injection hj with a1 a2;injection hk with hk;injection hk with b1 b2;exact(hne g b1 a1).elim
   |j+2,_,hj,_=>simp at hj
   |_,k+2,_,hk=>simp at hk
  ·obtain⟨j,o,hj⟩:=cP.1 hk;match j,hj with
   |0,hj=>injection hj with hj;injection hj with a1 a2;exact M.dj x (ew hl a1) hx
   |1,hj=>injection hj with hj;injection hj with a1 a2;exact M.dj x (ew hlb a1) hx
   |j+2,hj=>simp at hj
 refine Fn.mono (As (enc:=fun e:Em U (aj ρ (au 0 [aH.row 0 s l tE,aH.row 0 s [a] tE])++X) w s=>e.c) hen hf hb hn hr hmx es un i64 (by exact hu) hti.by_ hbb (fun x=>x.hl) hm0 hmB (fun x=>x.h1) X w em (ρ 0).A (ρ 0).c sp i en (ρ 1).A (ρ 1).c sq hst how0 how0b (by rw[e2b];rfl) hi0 (by rw[e2];exact hi1) (by omega) ovf ovn ovb ovr ove) ?_;rintro v w' ⟨A',c',sp',rfl,how,st,hf',hk⟩;have em':(iJ em i en).map (·.x)=iJ l i [a]:=by unfold iJ;rw[List.map_append,List.map_append,List.map_take,List.map_drop,e1,e1b]
 have hlen:(iJ em i en).length=(iJ l i [a]).length:=by rw[←em',List.length_map]
 rw[hlen]at how⊢;rw[dw]at hf';obtain⟨ρ',a1,a2,a3⟩:=Ax (el:=tE) M hi hl hm0 hf' (fun g' hg'=>(hk g' (by simp[aQ,hg'])).imp (fun h=>by rw[dw]at h;simpa using h) id) (by have:=i7 (iJ em i en);rw[em']at this;exact this) how (fun g' hg'=>st.hp.at (i:=0) (by rw[hg'];rfl));obtain⟨b1,b2⟩:=aX.dead (i:=1) (x:= .row 0 s [a] tE) a2 rfl;refine⟨_,_,_,hK,cM.imp (fun _ _ h=>h.step b2) a1,b1,a3.trans b2⟩
def um(U:bD)(s:aZ)(tE:Nat)(D:DecidableEq (TT U.ty s)):aW U:=⟨[.n],fun xs es K=> ∃l:List (TT U.ty s),xs= [⟨false,[(1,.own 0 0)]⟩]∧es= [.row 0 s l tE]∧K (.v ⟨false,[(1,.own 0 1)]⟩) [.row 1 s (dd l) tE]⟩
theorem ym(D:DecidableEq (TT U.ty s))(hen:aF P fi=true)(hf:P.funcs[fi]? =some fn)(hb:fn.body=some (eM ρf ρt (cU Tryz.f92)))(hn:fn.ntmps=61)(hr:fn.results= #[.tmp 2])(hmx:P.follows .mixedOrders=true)(i64:P.underlying (ρt 3)=some (.int .i64))
  (es:aq P (ρt 36)=some (tE,aG U s)) (un:P.underlying (ρt 36)=some (.slice tE)) (hE:tE=ρt 61) (ag:ba P tE=some (aG U s)) (sz:(P.info? tE).map (·.size)=some (aG U s)) (heq:jy U P tE s) (hti:aT U P tE ei) (hz: ∃z,cG 20 s ei.zero fun x=>x=z) (hbb:ei.by_≤100000) (hm0:0<aG U s) (hmB:aG U s≤1000):bh P U fi (um U s tE D):=fun [F:ao] hpr X w ρ es0 xs vs K M hv hrun=>by
 obtain⟨l,rfl,rfl,hK⟩:=hrun;obtain⟨v,us,rfl,h1,h3⟩:=hv;rw[show us= []from h3];have hl:aD (au 0 [aH.row 0 s l tE]) 0=some (.row 0 s l tE):=rfl;obtain⟨em,sp,hi,e1,e2,rfl,how0,hw⟩:=iR M hl h1;obtain⟨I,hu⟩:=fq hti hz (aj ρ (au 0 [aH.row 0 s l tE])++X) w;have dj: ∀g,ab (ρ 0).A=some g→g∉X:=fun g hg=>M.dj g (ew hl hg);have hq: ∀x y:Em U (aj ρ (au 0 [aH.row 0 s l tE])++X) w s,aY P 8 tE x.c y.c=some (decide (x.x=y.x)):=fun x y=>by
  obtain⟨r,h1,h2⟩:=heq.vals _ _ _ _ _ _ x.den y.den;rw[h1];congr 1;rw[Bool.eq_iff_iff,h2];simp
 refine Fn.mono (yk (enc:=fun e:Em U (aj ρ (au 0 [aH.row 0 s l tE])++X) w s=>e.c) hen hf hb hn hr hmx es un i64 (by exact hu) hti.by_ hbb (fun x=>x.hl) hm0 hmB (fun x=>x.h1) X w em (ρ 0).A (ρ 0).c sp (lG (M.lo w rfl) hw dj) how0 hE ag sz heq.guard (fun x y=>decide (x.x=y.x)) hq) ?_;rintro v w' ⟨A',c',sp',rfl,how,st,hf',hk⟩;rw[ui]at how st⊢;have em':=D4 (fun x y:Em U (aj ρ (au 0 [aH.row 0 s l tE])++X) w s=>decide (x.x=y.x)) (fun x=>x.x) (fun a b=>decide_eq_true_iff) em;rw[e1]at em';have hlen:=congrArg List.length em';rw[List.length_map]at hlen;rw[hlen]at how⊢;rw[dw]at hf';obtain⟨ρ',a1,a2,a3⟩:=Ax (el:=tE) M hi hl hm0 hf' (fun g' hg'=>(hk g' (by simp[aQ,hg'])).imp (fun h=>by rw[dw]at h;simpa using h) id) (by have:=i7 (xm (fun x y:Em U (aj ρ (au 0 [aH.row 0 s l tE])++X) w s=>decide (x.x=y.x)) em);rw[em']at this;exact this) how (fun g' hg'=>st.hp.at (i:=0) (by rw[hg'];rfl));exact⟨_,_,ρ',hK,a1,a2,a3⟩
end
end Go.Proofs.YtmpeiadlohbikaaGreatDoor.V
end

section
set_option linter.unusedVariables false
set_option linter.unusedSimpArgs false
namespace Go.Proofs.YtmpeiadlohbikaaGreatDoor
open Go.RowKit Go.Shelf Go.Lib Go.Sort
theorem Gy{α:Type} [Inhabited α]{enc:α→List Value}{k:Nat}(hk: ∀x,(enc x).length=k)(hk0:0<k): ∀(l:List α) (t:Nat),t<l.length*k→(l.flatMap enc)[t]? =(enc (l[t/k]?.getD default))[t%k]?
 | [],t,h=>by simp at h
 |a::l,t,h=>by
  rw[List.flatMap_cons];by_cases ht:t<k
  ·rw[List.getElem?_append_left (by rw[hk];exact ht),Nat.div_eq_of_lt ht,Nat.mod_eq_of_lt ht];rfl
  ·have hs:t=(t - k)+k:=by omega
   have hd:t/k=(t - k)/k+1:=by
    have:=Nat.add_div_right (t - k) hk0;rw[←hs]at this;exact this
   have hm:t%k=(t - k)%k:=by
    have:=Nat.add_mod_right (t - k) k;rw[←hs]at this;exact this
   rw[List.getElem?_append_right (by rw[hk];omega),hk,Gy hk hk0 l (t - k) (by rw[List.length_cons,Nat.add_mul,Nat.one_mul]at h;omega),hd,hm];rfl
theorem mn{α:Type} [Inhabited α]{enc:α→List Value}{k:Nat}(hk: ∀x,(enc x).length=k)(hk0:0<k)(l:List α):(flatK enc k l.toArray).toList=l.flatMap enc:=by
 apply List.ext_getElem?;intro t;by_cases ht:t<l.length*k
 ·rw[Gy hk hk0 l t ht];have h1:t<(flatK enc k l.toArray).size:=by simpa using ht
  have h2:=get_flatK enc k l.toArray t (by simpa using ht);rw[getElem!_pos _ t h1]at h2;rw[Array.getElem?_toList,Array.getElem?_eq_getElem h1,h2];have hl:t/k<l.length:=Nat.div_lt_of_lt_mul (by rw[Nat.mul_comm];exact ht);have e1:l.toArray[t/k]! =(l[t/k]?.getD default):=by
   rw[getElem!_pos _ _ (by simpa using hl)];simp[List.getElem?_eq_getElem hl]
  rw[e1];have hmod:t%k<(enc (l[t/k]?.getD default)).length:=by rw[hk];exact Nat.mod_lt _ hk0
  rw[List.getElem?_eq_getElem hmod,getElem!_pos (enc (l[t/k]?.getD default)) (t%k) hmod]
 ·rw[List.getElem?_eq_none (by simp;omega),List.getElem?_eq_none (by rw[bc hk];omega)]
theorem uM{w:World}{g e:Nat}{xs ys sp:List Value}(h:w.heap[g]? =some (Cl (xs++sp) e))(hl:ys.length=xs.length):(putRow id w g 0 ys.toArray).heap[g]? =some (Cl (ys++sp) e)∧ ∀k,k≠g→(putRow id w g 0 ys.toArray).heap[k]? =w.heap[k]? :=by
 constructor
 ·show(w.heap.modify g _)[g]? =_
  rw[Array.getElem?_modify,if_pos rfl,h];show some (Obj.cells (putCells id 0 ys.toArray (xs++sp).toArray) e (0,0))=_
  congr 2;apply Array.ext_getElem?;intro j;unfold putCells;rw[Array.getElem?_mapIdx];by_cases hj:j<ys.length
  ·have h1:j<(xs++sp).length:=by rw[List.length_append];omega
   rw[show(xs++sp).toArray[j]? =some ((xs++sp)[j])from by simp[h1]];simp only[Option.map_some,Nat.zero_le,Nat.zero_add,true_and,List.size_toArray,hj,if_true,Nat.sub_zero,id];rw[getElem!_pos _ _ (by simpa using hj)];simp[List.getElem?_append_left hj,hj]
  ·cases hq:(xs++sp).toArray[j]? with
   |none=>
    have:(xs++sp).length≤j:=by simpa using hq
    simp only[Option.map_none];symm;rw[List.getElem?_toArray,List.getElem?_eq_none (by rw[List.length_append]at*;omega)]
   |some x=>
    simp only[Option.map_some,Nat.zero_le,Nat.zero_add,true_and,List.size_toArray,hj,if_false];rw[←hq];simp only[List.getElem?_toArray];rw[List.getElem?_append_right (by omega),List.getElem?_append_right (by omega),hl]
 ·intro k hk;show(w.heap.modify g _)[k]? =_
  rw[Array.getElem?_modify,if_neg (fun e=>hk e.symm)]
theorem jP{α:Type} [Inhabited α]{enc:α→List Value}{k:Nat}(hk: ∀x,(enc x).length=k)(hk0:0<k){w:World}{g e:Nat}{xs:List α}{sp:List Value}(h:w.heap[g]? =some (Cl (xs.flatMap enc++sp) e))(m:Nat)(ys:List α)(hl:ys.length=xs.length)(os:Array Obj):
  Fr [g] w (sortWorldK enc k w g 0 m ys.toArray os)∧(sortWorldK enc k w g 0 m ys.toArray os).heap[g]? =some (Cl (ys.flatMap enc++sp) e):=by
 have hF:(flatK enc k ys.toArray)=(ys.flatMap enc).toArray:=by
  have:=mn hk hk0 ys;rw[←this]
 have hp:=uM (w:=Sort.ahead w m) (ys:=ys.flatMap enc) (show(Sort.ahead w m).heap[g]? =some (Cl (xs.flatMap enc++sp) e)from h) (by rw[bc hk,bc hk,hl]);have hsz:(putRow id (Sort.ahead w m) g 0 (ys.flatMap enc).toArray).heap.size=w.heap.size:=by rw[size_putRow];rfl
 have hg:g<w.heap.size:=cg h;unfold sortWorldK putRowK;rw[hF];have happ: ∀j,j<w.heap.size→(grow (putRow id (Sort.ahead w m) g 0 (ys.flatMap enc).toArray) os).heap[j]? =(putRow id (Sort.ahead w m) g 0 (ys.flatMap enc).toArray).heap[j]? :=fun j hj=>by
  show(_++os)[j]? =_
  rw[Array.getElem?_append_left (by rw[hsz];exact hj)]
 refine⟨⟨rfl,rfl,rfl,?_,fun j hj hn=>?_,?_⟩,?_⟩
 ·show _≤(_++os).size
  rw[Array.size_append,hsz];omega
 ·rw[happ j hj];exact hp.2 j (by simpa using hn)
 ·show w.drawn≤w.drawn+m
  omega
 ·rw[happ g hg];exact hp.1
theorem wg{w w':World}(h:Fr [] w w'): ∃q os,w'=grow (w.drewN q) os:=by
 refine⟨w'.drawn - w.drawn,w'.heap.extract w.heap.size w'.heap.size,?_⟩;have hd:=h.drawn;have hh:w'.heap=w.heap++w'.heap.extract w.heap.size w'.heap.size:=by
  apply Array.ext_getElem?;intro j;by_cases hj:j<w.heap.size
  ·rw[Array.getElem?_append_left hj];exact h.block j hj (by simp)
  ·rw[Array.getElem?_append_right (by omega),Array.getElem?_extract];by_cases hj2:j<w'.heap.size
   ·rw[if_pos (by omega)];congr 1;omega
   ·rw[if_neg (by omega),Array.getElem?_eq_none (by omega)]
 obtain⟨h1,t1,d1,o1,p1⟩:=w';have a1:=h.os;have a2:=h.tape;have a3:=h.output;simp only at a1 a2 a3 hh hd⊢;unfold grow World.drewN;simp only;rw[a1,a2,a3,show w.drawn+(d1 - w.drawn)=d1 by omega];rw[←hh]
def bk{α:Type}(cf:α→α→Int)(s:List α):List α:=s.mergeSort (fun x y=>!(ltOf cf) y x)
theorem dr{α:Type}(cf:α→α→Int)(s:List α):(bk cf s).length=s.length:=List.length_mergeSort _
theorem xK{w:World}{g e:Nat}{cs:List Value}(h:w.heap[g]? =some (Cl cs e)){j:Nat}(hj:j<cs.length):w.cell? ⟨g,j,none⟩=some cs[j]∧w.frozen? ⟨g,j,none⟩=false:=by
 constructor
 ·unfold World.cell?;simp only[h];simp[hj]
 ·unfold World.frozen?;simp only[h];simp
theorem Bi{α:Type} [Inhabited α]{P:Program}{ρ:Ren}{enc:α→List Value}{k e:Nat}(L:SlLaysF0.n6 P ρ)(aE: ∀w,(isAgg (ρ.t 24)).run P w= .ok true w)(zE: ∀w,(Go.sizeOf (ρ.t 24)).run P w= .ok k w)(hk: ∀x,(enc x).length=k)(hk0:0<k)(h1: ∀x,∀v∈enc x,v.oneCell'=true)
  {cf:α→α→Int} (hO:SWO (ltOf cf)) (hT: ∀x y,(ltOf cf) x y=false→(ltOf cf) y x=false→x=y) {g:Nat} {cb:List Value} (eg: ∀args w,(callFunc g args).run P w= .ok (.enter g args) w) (he:aF P (ρ.f 6)=true)
  (X:List Nat) (w:World) (s:List α) (hs62:s.length<4611686018427387904) (A:Option Addr) (c:Nat) (sp:List Value) (hs:St X w [(ab A,Cl (s.flatMap enc++sp) e)] []) (how:Ow A s.length c k (s.flatMap enc) sp)
  (hcmp: ∀(w1:World) (x y:α),Fr (aQ [(ab A,Cl (s.flatMap enc++sp) e)]) w w1→Fn P g ([.agg (enc x).toArray,.agg (enc y).toArray]++cb) w1 fun v w2=>v= .int .i64 (cf x y)∧Fr [] w1 w2):
  Fn P (ρ.f 6) [.slice A s.length c,.func (.func g) #[] cb.toArray] w fun v w'=>v= .tuple #[]∧Ow A s.length c k ((bk cf s).flatMap enc) sp∧(bk cf s).length=s.length∧St X w' [(ab A,Cl ((bk cf s).flatMap enc++sp) e)] []∧Fr (aQ [(ab A,Cl (s.flatMap enc++sp) e)]) w w':=by
 rcases how.2 with⟨rfl,h2,h3,h4⟩|⟨g0,rfl,h3,h4,h5⟩
 ·have hs0:s= []:=List.eq_nil_of_length_eq_zero h2;subst hs0;refine⟨he,(AnyF.slices_SortFunc_none L none c (.func (.func g) #[] cb.toArray) w).mono ?_⟩;rintro e1 w' ⟨rfl,rfl⟩;have hsn:bk cf ([]:List α)= []:=List.eq_nil_of_length_eq_zero (dr cf []);rw[hsn];exact⟨_,rfl,rfl,how,rfl,hs,Fr.refl _ _⟩
 ·have hb:w.heap[g0]? =some (Cl (s.flatMap enc++sp) e):=hs.hp.at (i:=0) rfl;have hkeys:aQ [(ab (some ⟨g0,0,none⟩),Cl (s.flatMap enc++sp) e)]= [g0]:=rfl;have hlen:=bc hk s;have hH:HoldsK enc k w g0 0 s.toArray:=by
   intro j hj;have hj2:j<(s.flatMap enc).length:=by rw[hlen];simpa using hj
   have hc:=xK hb (j:=j) (by rw[List.length_append];omega);rw[Nat.zero_add];refine⟨?_,hc.2⟩;rw[hc.1,List.getElem_append_left hj2];have:(flatK enc k s.toArray)=(s.flatMap enc).toArray:=by rw[←mn hk hk0 s]
   simp only[this,id];rw[getElem!_pos _ _ (by simpa using hj2)];simp
  have hl:CmpLays P g cb.toArray enc k cf g0 0 s.toArray.size w:=by
   intro m os dk hdk x y;have hdk2:dk=dk.toList.toArray:=by simp
   rw[hdk2];have hf:=(jP hk hk0 hb m dk.toList (by simpa using hdk) os).1;have hc:=(hcmp _ x y (by rw[hkeys];exact hf)).2;have e1:([.agg (enc x).toArray,.agg (enc y).toArray]++cb:List Value).toArray= #[.agg (enc x).toArray,.agg (enc y).toArray]++cb.toArray:=by simp
   rw[e1]at hc;refine hc.mono ?_;rintro e2 w2 ⟨v,rfl,rfl,hf2⟩;exact⟨rfl,wg hf2⟩
  have hc:=AnyQ.slices_SortFunc_total L k aE zE enc hk h1 cf hO g cb.toArray g0 0 c s.toArray w eg hl hH (cg hb) (by simpa using hs62) hT;refine⟨he,?_⟩;have e0:([.slice (some ⟨g0,0,none⟩) s.length c,.func (.func g) #[] cb.toArray]:List Value).toArray= #[.slice (some ⟨g0,0,none⟩) s.toArray.size c,.func (.func g) #[] cb.toArray]:=by simp
  rw[e0];refine hc.mono ?_;rintro e2 w' ⟨rfl,n,os,rfl⟩;have hw:=jP hk hk0 hb n (bk cf s) (dr cf s) os;refine⟨_,rfl,rfl,?_,dr cf s,?_,hw.1⟩
  ·refine⟨by rw[bc hk,dr],.inr ⟨g0,rfl,?_,h4,h5⟩⟩;rw[←h3,List.length_append,List.length_append,bc hk,bc hk,dr]
  ·exact hs.set (i:=0) rfl (hs.hp.setAt (i:=0) rfl hw.1 hw.2) hw.1
theorem xL{P:Program}{t k:Nat}(h:ba P t=some k)(w:World):(isAgg t).run P w= .ok true w:=by
 unfold ba at h;cases hu:P.underlying t with
 |none=>simp[hu]at h
 |some d=>
  unfold isAgg;simp only[Sem.run_bind,run_underlying hu,Result.andThen_ok];cases d<;>simp[hu]at h<;>rfl
theorem qb{P:Program}{f:FuncId}(h:aF P f=true)(args:Array Value)(w:World):(callFunc f args).run P w= .ok (.enter f args) w:=by
 unfold aF at h;cases hq:P.funcs[f]? with
 |none=>simp[hq]at h
 |some fn=>
  simp only[hq,Bool.and_eq_true]at h;obtain⟨h1,h2⟩:=h;cases hb:fn.body with
  |none=>simp[hb]at h2
  |some c=>
   have h4: ¬fn.name= "runtime.NumGoroutine" :=by simpa using h1
   simp[callFunc,hq,hb,h4]
theorem yJ{α:Type} [Inhabited α](enc:α→Value)(w:World)(b:Nat)(d:List α):putRow enc w b 0 d.toArray=putRow id w b 0 (d.map enc).toArray:=by
 unfold putRow;congr 1;funext c;unfold putCells;apply Array.ext_getElem?;intro j;rw[Array.getElem?_mapIdx,Array.getElem?_mapIdx];cases c[j]? with
 |none=>rfl
 |some x=>
  simp only[Option.map_some,List.size_toArray,List.length_map,Nat.zero_add,Nat.sub_zero];by_cases h:0≤j∧j<d.length
  ·rw[if_pos h,if_pos h,getElem!_pos _ _ (by simpa using h.2),getElem!_pos _ _ (by simpa using h.2)];simp
  ·rw[if_neg h,if_neg h]
theorem oZ(l:List (List UInt8)):l.flatMap (fun x=> [sv x])=l.map sv:=by induction l<;>simp_all
def ju(s:List (List UInt8)):List (List UInt8):=s.mergeSort fun x y=>decide (x≤y)
theorem hJ(s:List (List UInt8)):(ju s).length=s.length:=List.length_mergeSort _
theorem yK{P:Program}{f e:Nat}(he:aF P f=true)
  (hC: ∀(blk cap:Nat) (ss:List (List UInt8)) (w:World),Holds encStr w blk 0 ss.toArray→blk<w.heap.size→ss.length<4611686018427387904→Calls P f #[.slice (some ⟨blk,0,none⟩) ss.length cap] w fun e w'=>e= .returned (.tuple #[])∧ ∃n os,w'=grow (putRow encStr (Sort.ahead w n) blk 0 (ss.mergeSort fun x y=>decide (x≤y)).toArray) os)
  (hN: ∀(p:Option Addr) (cap:Nat) (w:World),Calls P f #[.slice p 0 cap] w fun e w'=>e= .returned (.tuple #[])∧w'=w)
  (X:List Nat) (w:World) (s:List (List UInt8)) (A:Option Addr) (c:Nat) (sp:List Value) (hs:St X w [(ab A,Cl (s.flatMap (fun x=> [sv x])++sp) e)] []) (how:Ow A s.length c 1 (s.flatMap (fun x=> [sv x])) sp) (hs62:s.length<4611686018427387904):
  Fn P f [.slice A s.length c] w fun v w'=>v= .tuple #[]∧Ow A s.length c 1 ((ju s).flatMap (fun x=> [sv x])) sp∧(ju s).length=s.length∧St X w' [(ab A,Cl ((ju s).flatMap (fun x=> [sv x])++sp) e)] []∧Fr (aQ [(ab A,Cl (s.flatMap (fun x=> [sv x])++sp) e)]) w w':=by
 have hk: ∀x:List UInt8,([sv x]:List Value).length=1:=fun _=>rfl;rcases how.2 with⟨rfl,h2,h3,h4⟩|⟨g0,rfl,h3,h4,h5⟩
 ·have hs0:s= []:=List.eq_nil_of_length_eq_zero h2;subst hs0;refine⟨he,(hN none c w).mono ?_⟩;rintro e1 w' ⟨rfl,rfl⟩;have hsn:ju []= []:=List.eq_nil_of_length_eq_zero (hJ []);rw[hsn];exact⟨_,rfl,rfl,how,rfl,hs,Fr.refl _ _⟩
 ·have hb:w.heap[g0]? =some (Cl (s.flatMap (fun x=> [sv x])++sp) e):=hs.hp.at (i:=0) rfl;have hkeys:aQ [(ab (some ⟨g0,0,none⟩),Cl (s.flatMap (fun x=> [sv x])++sp) e)]= [g0]:=rfl;have hH:Holds encStr w g0 0 s.toArray:=by
   intro j hj;have hj':j<s.length:=by simpa using hj
   have hj2:j<(s.flatMap (fun x=> [sv x])).length:=by rw[oZ];simpa using hj
   have hc:=xK hb (j:=j) (by rw[List.length_append];omega);rw[Nat.zero_add];refine⟨?_,hc.2⟩;rw[hc.1,List.getElem_append_left hj2];simp only[oZ];rw[getElem!_pos s.toArray j hj];simp
  refine⟨he,?_⟩;refine(hC g0 c s w hH (cg hb) hs62).mono ?_;rintro e2 w' ⟨rfl,n,os,rfl⟩;have hw:=jP hk (by decide) hb n (ju s) (hJ s) os;have hF:(flatK (fun x=> [sv x]) 1 (ju s).toArray)=((ju s).flatMap (fun x=> [sv x])).toArray:=by
   have:=mn hk (by decide) (ju s);rw[←this]
  have e3:grow (putRow encStr (Sort.ahead w n) g0 0 (s.mergeSort fun x y=>decide (x≤y)).toArray) os=sortWorldK (fun x=> [sv x]) 1 w g0 0 n (ju s).toArray os:=by
   unfold sortWorldK putRowK;rw[hF,oZ,yJ];rfl
  rw[e3];refine⟨_,rfl,rfl,?_,hJ s,?_,hw.1⟩
  ·refine⟨by rw[bc hk,hJ],.inr ⟨g0,rfl,?_,h4,h5⟩⟩;rw[←h3,List.length_append,List.length_append,bc hk,bc hk,hJ]
  ·exact hs.set (i:=0) rfl (hs.hp.setAt (i:=0) rfl hw.1 hw.2) hw.1
end Go.Proofs.YtmpeiadlohbikaaGreatDoor
end

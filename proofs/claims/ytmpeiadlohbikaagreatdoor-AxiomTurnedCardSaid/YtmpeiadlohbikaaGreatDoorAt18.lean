/- Short forms for this seat's walks. -/
import Derived.Test.YtmpeiadlohbikaaGreatDoorAt17
import Derived.Test.YtmpeiadlohbikaaGreatDoorAt14
import Derived.Test.YtmpeiadlohbikaaGreatDoorProg
import Derived.Test.YtmpeiadlohbikaaGreatDoorAt13
import Derived.Test.YtmpeiadlohbikaaGreatDoorAt12
section
set_option linter.unusedVariables false
set_option linter.unusedSimpArgs false
set_option maxRecDepth 20000
namespace Go.Proofs.YtmpeiadlohbikaaGreatDoor.V
open Go.RowKit
def co(s:List (List UInt8))(s3:Int)(r0:List (List UInt8)):Nat→Int→Int→(List (List UInt8))→((List (List UInt8)))⊕(Int×Int×(List (List UInt8)))
 |0,s3',s5,r0'=> .inr (s3',s5,r0')
 |fuel+1,s3',s5,r0'=>
  if s5<((s.length - s3.toNat:Nat):Int)then
   if(ix r0' (s3+s5))=(ix r0' (s3+(s5 - 1)))then
    co s s3 r0 fuel s3' (s5+1) r0'
   else
    co s s3 r0 fuel (s3'+1) (s5+1) (r0'.set s3'.toNat (ix r0' (s3+s5)))
  else
   .inr (s3',s5,r0')
def cq(s:List (List UInt8)):Nat→Int→(List (List UInt8))→((List (List UInt8)))⊕(Int×(List (List UInt8)))
 |0,s3,r0=> .inr (s3,r0)
 |fuel+1,s3,r0=>
  if s3<(s.length:Int)then
   if(ix r0 s3)=(ix r0 (s3 - 1))then
    match co s s3 r0 (((s.length:Int)-(1:Int)).toNat+1) s3 (1:Int) r0 with
    | .inl r=> .inl r
    | .inr (s3',s5,r0')=>
     .inl ((r0'.take s3'.toNat++List.replicate (r0'.length - s3'.toNat) []).take s3'.toNat)
   else
    cq s fuel (s3+1) r0
  else
   .inr (s3,r0)
def dg(s:List (List UInt8)):(List (List UInt8)):=
 if(s.length:Int)<2 then
  s
 else
  match cq s (((s.length:Int)-(1:Int)).toNat+1) (1:Int) s with
  | .inl r=>r
  | .inr (s3,r0)=>
   r0
theorem oo(s:List (List UInt8)):dg s=dd s:=by
 unfold dg;split
 ·rename_i h0;match s,h0 with
  | [],_=>rfl
  | [a],_=>rfl
  |a::b::l,h=>simp at h;omega
 ·rename_i h;have hs:1≤s.length:=by omega
  rcases sT s ([]:List UInt8) (co s) (cq s) (fun _ _ _ _ _ _=>rfl) (fun fuel s3 r0=>by
   rw[cq];generalize co s s3 r0 (((s.length:Int)-(1:Int)).toNat+1) s3 (1:Int) r0=X;rcases X with r|⟨a,b,c⟩<;>rfl) hs (((s.length:Int)-(1:Int)).toNat+1) 1 (by omega) (by omega) (by
   match s,hs with
   |a::l,_=>rfl) (by omega)with e|⟨⟨q,e⟩,e2⟩
  ·rw[e]
  ·rw[e];exact e2.symm
theorem vU{P:Program}{fi tE:Nat}{fn:Go.Func}{ρf ρt:Nat→Nat}(hen:aF P fi=true)(hf:P.funcs[fi]? =some fn)(hb:fn.body=some (eM ρf ρt (cU Tryz.f92)))(hn:fn.ntmps=61)(hr:fn.results= #[.tmp 2])(hmx:P.follows .mixedOrders=true)(i64:P.underlying (ρt 3)=some (.int .i64))(hE:tE=ρt 61)(es:aq P (ρt 36)=some (tE,1))(un:P.underlying (ρt 36)=some (.slice tE))(pl:dG P tE=true)(sz:(P.info? tE).map (·.size)=some 1)(zc:zeroCells P tE=some [sv []])
  (X:List Nat) (w:World) (s:List (List UInt8)) (A_s:Option Addr) (c_s:Nat) (s1:List Value) (hs:St X w [(ab A_s,Cl (s.flatMap (fun x=> [sv x])++s1) tE)] []) (z4:Ow A_s s.length c_s 1 (s.flatMap (fun x=> [sv x])) s1):
  Fn P fi [.slice A_s s.length c_s] w fun v w'=> ∃(A':Option Addr) (c':Nat) (sp':List Value),v= .slice A' (dg s).length c'∧Ow A' (dg s).length c' 1 ((dg s).flatMap (fun x=> [sv x])) sp'∧St X w' [(ab A',Cl ((dg s).flatMap (fun x=> [sv x])++sp') tE)] []∧Fr (aQ [(ab A_s,Cl (s.flatMap (fun x=> [sv x])++s1) tE)]) w w'∧(∀k∈aQ [(ab A',Cl ((dg s).flatMap (fun x=> [sv x])++sp') tE)],k∈(aQ [(ab A_s,Cl (s.flatMap (fun x=> [sv x])++s1) tE)])∨w.heap.size≤k):=by
 refine iE 61 hen hf hb hn rfl ?_;dsimp only[bS];subst hE;have hs0:=hs;have st:St X w [(ab A_s,Cl (s.flatMap (fun x=> [sv x])++s1) (ρt 61))] []:=hs;have z2: ∀g,ab A_s=some g→g∈(aQ [(ab A_s,Cl (s.flatMap (fun x=> [sv x])++s1) (ρt 61))])∨w.heap.size≤g:=fun g hg=> .inl (by simp[aQ,hg]);have z3:=Ow.le z4;have hF:=Fr.refl (aQ [(ab A_s,Cl (s.flatMap (fun x=> [sv x])++s1) (ρt 61))]) w;refine sq fun _ k1=>rg (dV rfl (Ln k1 (sq fun _ k2=>sq fun _ k3=>rg (Lm rfl (Ly rfl (tx rfl un) (Ly rfl (y7 rfl) (Ln k3 (cD rfl (fun hc1=>?_) (fun hc1=>?_)))))))))
 ·refine sq fun _ k4=>rg (Lm rfl (dV rfl (Ln k4 (wR (jN (fR (iC hr rfl) ?_))))));unfold dg;rewrite[if_pos hc1];exact⟨_,_,_,rfl,z4,(st.pk [0] (by decide)).pickK [],hF,lL z2 lK⟩
 refine sk k2 (sq fun _ k5=>sq fun _ k6=>rg (dV rfl (Ln k6 (bv (lp (fun q E W=> ∃(s3:Int) (r0:List (List UInt8)),E= [(0,.slice A_s s.length c_s),(3,.int .i64 s3)]∧jq q (fun m=>(cq s m s3 r0=cq s (((s.length:Int)-(1:Int)).toNat+1) (1:Int) s∧((s.length:Int)- s3).toNat<m)) (cq s (((s.length:Int)-(1:Int)).toNat+1) (1:Int) s= .inr (s3,r0))∧(1≤s3∧1≤s3)∧Ow A_s s.length c_s 1 (r0.flatMap (fun x=> [sv x])) s1∧(r0.length=s.length)∧St X W [(ab A_s,Cl (r0.flatMap (fun x=> [sv x])++s1) (ρt 61))] []∧Fr (aQ [(ab A_s,Cl (s.flatMap (fun x=> [sv x])++s1) (ρt 61))]) w W) (((s.length:Int)-(1:Int)).toNat+1) [(0,_),(3,_)] ⟨rfl,rfl,trivial⟩ ⟨_,_,rfl,⟨rfl,Nat.lt_succ_self _⟩,by first|omega|(simp;done)|(simp;omega),z4,rfl,st,hF⟩ k5 ?_ fun hout1=>?_)))))
 ·rintro E w1 ⟨s3,r0,rfl,hLk1,hinv,howr0,hlmr0,st,hF⟩;unfold jq at hLk1;dsimp only at hLk1;refine sq fun _ k7=>rg (Lm rfl (dV rfl (Ln k7 (wR (fR (iC hr rfl) ?_)))));unfold dg;rewrite[if_neg hc1,hLk1];(try dsimp only);exact⟨A_s,c_s,s1,by rw[hlmr0],by rw[hlmr0];exact howr0,(st.pk [0] (by decide)).pickK [],hF,lL z2 lK⟩
 rintro m E w2 ⟨s3,r0,rfl,⟨hL1,hmu⟩,hinv,howr0,hlmr0,st,hF⟩;obtain⟨fuel,rfl⟩: ∃q,m=q+1:=⟨m - 1,by omega⟩;have z1:=Ow.le howr0;refine sq fun _ k8=>sq fun _ k9=>rg (Lm rfl (Lm rfl (Ly rfl (tx rfl un) (Ly rfl (y7 rfl) (Ln k9 (cD rfl (fun hc2=>?_) (fun hc2=>?_)))))))
 ·refine sk k8 (sq fun _ xu=>bv (sq fun _ AN=>?_));refine jS (fun W=>St X W (cx (Gz st) [0]) (Kz st)) [(true,0),(true,1),(true,2),(true,3),(true,4),(true,5),(true,6),(true,7),(true,8),(true,9)] hmx (by kernel_rfl) (by kernel_rfl) rfl ((st.pk [0] (by decide)).drew) ?_;have st:=st.drew;have hF:=hF.step0 (Fr.drew _);refine Pm rfl (Pm rfl ?_);obtain⟨gi1,egi1⟩:=(howr0).some_ (by first|omega|(simp;done)|(simp;omega));subst egi1;refine Py rfl (fG (q:=s3) rfl rfl rfl es (by first|omega|(simp;done)|(simp;omega)) (by first|omega|(simp;done)|(simp;omega))) ?_;refine Py rfl (jQ (q:=s3) 0 rfl rfl pl (fun _ h=>hZ.own (i:=0) h.hp rfl howr0 (by decide)) (fun _=>rfl) (by first|omega|(simp;done)|(simp;omega)) (by first|omega|(simp;done)|(simp;omega)) rfl) ?_;refine Pm rfl (Pm rfl (Py rfl (oB (c:=s3 - 1) rfl rfl rfl (bY (by first|omega|(simp;done)|(simp;omega)))) ?_));refine Py rfl (fG (q:=s3 - 1) rfl rfl rfl es (by first|omega|(simp;done)|(simp;omega)) (by first|omega|(simp;done)|(simp;omega))) ?_;refine Py rfl (jQ (q:=s3 - 1) 0 rfl rfl pl (fun _ h=>hZ.own (i:=0) h.hp rfl howr0 (by decide)) (fun _=>rfl) (by first|omega|(simp;done)|(simp;omega)) (by first|omega|(simp;done)|(simp;omega)) rfl) ?_;refine Py rfl (GE rfl rfl rfl) (mq (cz (AN _ _ (cE rfl (fun hc3=>?_) (fun hc3=>?_)))))
  ·refine sq fun _ AM=>rg (Lm rfl (Lm rfl (Ly rfl (ng (enc:=(fun x=> [sv x])) (xs:=r0) (p:=s3) rfl rfl (hlmr0).symm es rfl rfl (by first|omega|(simp;done)|(simp;omega)) (by first|omega|(simp;done)|(simp;omega)) howr0) ?_)));refine dV rfl (Ln AM (sq fun _ AW=>sq fun _ AO=>rg (dV rfl (Ln AO (bv (lp (fun q E W=> ∃(s3':Int) (s5:Int) (r0':List (List UInt8)),E= [(0,.slice (some ⟨gi1,0,none⟩) s.length c_s),(3,.int .i64 s3'),(4,.slice (some ⟨gi1,0+s3.toNat*1,none⟩) (s.length - s3.toNat) (c_s - s3.toNat)),(5,.int .i64 s5)]∧jq q (fun m=>(co s s3 r0 m s3' s5 r0'=co s s3 r0 (((s.length:Int)-(1:Int)).toNat+1) s3 (1:Int) r0∧((s.length:Int)- s5).toNat<m)) (co s s3 r0 (((s.length:Int)-(1:Int)).toNat+1) s3 (1:Int) r0= .inr (s3',s5,r0'))∧(1≤s5∧s3≤s3'∧s3'<s3+s5∧s5≤s.length - s3∧1≤s3)∧Ow (some ⟨gi1,0,none⟩) s.length c_s 1 (r0'.flatMap (fun x=> [sv x])) s1∧(r0'.length=s.length)∧St X W [(ab (some ⟨gi1,0,none⟩),Cl (r0'.flatMap (fun x=> [sv x])++s1) (ρt 61))] []∧Fr (aQ [(ab (some ⟨gi1,0,none⟩),Cl (s.flatMap (fun x=> [sv x])++s1) (ρt 61))]) w W) (((s.length:Int)-(1:Int)).toNat+1) [(0,_),(3,_),(4,_),(5,_)] ⟨rfl,rfl,rfl,rfl,trivial⟩ ⟨_,_,_,rfl,⟨rfl,Nat.lt_succ_self _⟩,by first|omega|(simp;done)|(simp;omega),howr0,hlmr0,st,hF⟩ AW ?_ fun hout2=>?_))))))
   ·rintro E w3 ⟨s3',s5,r0',rfl,hLk2,hinv,howr0',hlmr0',st,hF⟩;unfold jq at hLk2;dsimp only at hLk2;refine sq fun _ CL=>rg (Lm rfl (Lm rfl (Ly rfl (ng (enc:=(fun x=> [sv x])) (xs:=r0') (p:=s3') rfl rfl (hlmr0').symm es rfl rfl (by first|omega|(simp;done)|(simp;omega)) (by first|omega|(simp;done)|(simp;omega)) howr0') ?_)));refine La rfl (qa (i:=0) (enc:=(fun x=> [sv x])) (xs:=r0') (u:= []) (p:=s3') rfl rfl rfl (hlmr0').symm es zc rfl (fun _=>rfl) (by intro v hv;simp only[List.mem_singleton]at hv;subst hv;rfl) howr0' (by first|omega|(simp;done)|(simp;omega)) (by first|omega|(simp;done)|(simp;omega)) st.hp rfl (fun w4 how1 (hp:Hp w4 [_]) hf=>?_));have st:St X w4 [_] []:=st.set (i:=0) rfl hp hf;have st:St X w4 [_] []:=st;have hF:=hF.step hf (fun y hy=>z2 y (by simp at hy;subst hy;rfl));have hln1:(r0'.take s3'.toNat++List.replicate (r0'.length - s3'.toNat) []).length=s.length:=by simp only[List.length_append,List.length_take,List.length_replicate];omega
    refine Ln CL (sq fun _ Gp=>rg (Lm rfl (Lm rfl (Ly rfl (oY (enc:=(fun x=> [sv x])) (xs:=r0'.take s3'.toNat++List.replicate (r0'.length - s3'.toNat) []) (q:=s3') rfl rfl (hln1).symm es rfl rfl (by first|omega|(simp;done)|(simp;omega)) (by first|omega|(simp;done)|(simp;omega)) how1) ?_))));have how2:=Ow.cut (enc:=(fun x=> [sv x])) (xs:=r0'.take s3'.toNat++List.replicate (r0'.length - s3'.toNat) []) (fun _=>rfl) how1 (hln1).symm s3'.toNat;have st:St X _ [_] []:=st.conv (i:=0) rfl (lA s3'.toNat);refine dV rfl (Ln Gp (wR (uL (jN (jN (uL (jN (fR (iC hr rfl) ?_))))))));have hret1:cq s (((s.length:Int)-(1:Int)).toNat+1) (1:Int) s= .inl ((r0'.take s3'.toNat++List.replicate (r0'.length - s3'.toNat) []).take s3'.toNat):=by rewrite[←hL1,cq];rewrite[if_pos hc2,if_pos hc3,hLk2];(try dsimp only);all_goals rfl
    have he3:dg s=((r0'.take s3'.toNat++List.replicate (r0'.length - s3'.toNat) []).take s3'.toNat):=by unfold dg;rewrite[if_neg hc1,hret1];(try dsimp only);all_goals rfl
    rewrite[he3];exact⟨_,_,_,rfl,how2,(st.pk [0] (by decide)).pickK [],hF,lL z2 lK⟩
   rintro m E w5 ⟨s3',s5,r0',rfl,⟨hL2,hmu⟩,hinv,howr0',hlmr0',st,hF⟩;obtain⟨fuel,rfl⟩: ∃q,m=q+1:=⟨m - 1,by omega⟩;have hlehowr0':=Ow.le howr0';refine sq fun _ IX=>sq fun _ Fh=>rg (Lm rfl (Lm rfl (Ly rfl (tx rfl un) (Ly rfl (y7 rfl) (Ln Fh (cD rfl (fun hc4=>?_) (fun hc4=>?_)))))))
   ·refine sk IX (sq fun _ y8=>bv (sq fun _ CN=>?_));refine jS (fun W=>St X W (cx (Gz st) [0]) (Kz st)) [(true,0),(true,1),(true,2),(true,3),(true,4),(true,5),(true,6),(true,7),(true,8),(true,9)] hmx (by kernel_rfl) (by kernel_rfl) rfl ((st.pk [0] (by decide)).drew) ?_;have st:=st.drew;have hF:=hF.step0 (Fr.drew _);refine Pm rfl (Pm rfl (Py rfl (n8 (p:=s3) (q:=s5) rfl rfl rfl es (by first|omega|(simp;done)|(simp;omega)) (by first|omega|(simp;done)|(simp;omega)) (by first|omega|(simp;done)|(simp;omega))) ?_));refine Py rfl (jQ (q:=s3+s5) 0 rfl rfl pl (fun _ h=>hZ.own (i:=0) h.hp rfl howr0' (by decide)) (fun _=>rfl) (by first|omega|(simp;done)|(simp;omega)) (by first|omega|(simp;done)|(simp;omega)) rfl) ?_;refine Pm rfl (Pm rfl (Py rfl (oB (c:=s5 - 1) rfl rfl rfl (bY (by first|omega|(simp;done)|(simp;omega)))) ?_));refine Py rfl (n8 (p:=s3) (q:=s5 - 1) rfl rfl rfl es (by first|omega|(simp;done)|(simp;omega)) (by first|omega|(simp;done)|(simp;omega)) (by first|omega|(simp;done)|(simp;omega))) ?_;refine Py rfl (jQ (q:=s3+(s5 - 1)) 0 rfl rfl pl (fun _ h=>hZ.own (i:=0) h.hp rfl howr0' (by decide)) (fun _=>rfl) (by first|omega|(simp;done)|(simp;omega)) (by first|omega|(simp;done)|(simp;omega)) rfl) ?_;refine Py rfl (GF rfl rfl rfl) (mq (cz (CN _ _ (cN rfl (fun hc5=>?_) (fun hc5=>?_)))))
    ·refine sq fun _ Fg=>rg (Lm rfl (Lm rfl (Lm rfl (Lm rfl (Ly rfl (n8 (p:=s3) (q:=s5) rfl rfl rfl es (by first|omega|(simp;done)|(simp;omega)) (by first|omega|(simp;done)|(simp;omega)) (by first|omega|(simp;done)|(simp;omega))) ?_)))));refine Ly rfl (jQ (q:=s3+s5) 0 rfl rfl pl (fun _ e=>e▸hZ.own (i:=0) st.hp rfl howr0' (by decide)) (fun _=>rfl) (by first|omega|(simp;done)|(simp;omega)) (by first|omega|(simp;done)|(simp;omega)) rfl) ?_;refine Ly rfl (fG (q:=s3') rfl rfl rfl es (by first|omega|(simp;done)|(simp;omega)) (by first|omega|(simp;done)|(simp;omega))) ?_;refine La rfl (qc (i:=0) (q:=s3') (u:=ix r0' (s3+s5)) rfl rfl rfl rfl rfl (fun _=>rfl) sz (by intro v hv;simp only[List.mem_singleton]at hv;subst hv;rfl) howr0' st.hp rfl (by first|omega|(simp;done)|(simp;omega)) (by first|omega|(simp;done)|(simp;omega)) (by decide) (fun w6 how3 (hp:Hp w6 [_]) hf=>?_));have st:St X w6 [_] []:=st.set (i:=0) rfl hp hf;have st:St X w6 [_] []:=st;have hF:=hF.step hf (fun y hy=>z2 y (by simp at hy;subst hy;rfl));have hln2:(r0'.set s3'.toNat (ix r0' (s3+s5))).length=s.length:=by rw[List.length_set];exact hlmr0'
     rewrite[hln2]at how3;refine Ln Fg (rg (Lm rfl (Ly rfl (dH (c:=s3'+1) rfl rfl rfl (bY (by first|omega|(simp;done)|(simp;omega)))) ?_)));refine dV rfl (cw (lJ (cz (y8 _ _ (rg (Lm rfl (Ly rfl (dH (c:=s5+1) rfl rfl rfl (bY (by first|omega|(simp;done)|(simp;omega)))) ?_)))))));refine dV rfl (cw (cz (?_)));exact⟨fuel,[(0,_),(3,_),(4,_),(5,_)],Nat.lt_succ_self _,⟨rfl,rfl,rfl,rfl,trivial⟩,(s3'+1),(s5+1),(r0'.set s3'.toNat (ix r0' (s3+s5))),rfl,⟨by rewrite[←hL2,co];rewrite[if_pos hc4,if_neg hc5];rfl,by first|omega|(simp;done)|(simp;omega)⟩,by first|omega|(simp;done)|(simp;omega),how3,hln2,(st.pk [0] (by decide)).pickK [],hF⟩
    refine dW (lJ (cz (y8 _ _ (rg (Lm rfl (Ly rfl (dH (c:=s5+1) rfl rfl rfl (bY (by first|omega|(simp;done)|(simp;omega)))) ?_))))));refine dV rfl (cw (cz (?_)));exact⟨fuel,[(0,_),(3,_),(4,_),(5,_)],Nat.lt_succ_self _,⟨rfl,rfl,rfl,rfl,trivial⟩,s3',(s5+1),r0',rfl,⟨by rewrite[←hL2,co];rewrite[if_pos hc4,if_pos hc5];rfl,by first|omega|(simp;done)|(simp;omega)⟩,by first|omega|(simp;done)|(simp;omega),howr0',hlmr0',(st.pk [0] (by decide)).pickK [],hF⟩
   refine fH (jt (jt (iy (cz (?_)))));exact hout2 _ [(0,_),(3,_),(4,_),(5,_)] _ ⟨rfl,rfl,rfl,rfl,trivial⟩ ⟨s3',s5,r0',rfl,show _=_ from by rewrite[←hL2,co];rewrite[if_neg hc4];rfl,by first|omega|(simp;done)|(simp;omega),howr0',hlmr0',(st.pk [0] (by decide)).pickK [],hF⟩
  refine dW (lJ (cz (xu _ _ (rg (Lm rfl (Ly rfl (dH (c:=s3+1) rfl rfl rfl (bY (by first|omega|(simp;done)|(simp;omega)))) ?_))))));refine dV rfl (cw (cz (?_)));exact⟨fuel,[(0,_),(3,_)],Nat.lt_succ_self _,⟨rfl,rfl,trivial⟩,(s3+1),r0,rfl,⟨by rewrite[←hL1,cq];rewrite[if_pos hc2,if_neg hc3];rfl,by first|omega|(simp;done)|(simp;omega)⟩,by first|omega|(simp;done)|(simp;omega),howr0,hlmr0,(st.pk [0] (by decide)).pickK [],hF⟩
 refine fH (jt (jt (iy (cz (?_)))));exact hout1 _ [(0,_),(3,_)] _ ⟨rfl,rfl,trivial⟩ ⟨s3,r0,rfl,show _=_ from by rewrite[←hL1,cq];rewrite[if_neg hc2];rfl,by first|omega|(simp;done)|(simp;omega),howr0,hlmr0,(st.pk [0] (by decide)).pickK [],hF⟩
section
variable {U:bD} {P:Program} {fi tE:Nat} {fn:Go.Func} {ρf ρt:Nat→Nat} {X:List Nat} {w:World}
theorem Ll{Y:List Nat}{S:World→Prop}: ∀{xs:List (List UInt8)} {vs:List Value},aR U Y S .str xs vs→vs=xs.flatMap (fun x=> [sv x])∧ ∀x∈xs,x.length≤9223372036854775807
 | [],vs,h=>⟨h.nil_inv,by simp⟩
 |x::xs,vs,h=>by
  obtain⟨v1,v2,rfl,h1,hl,hr⟩:=h.cons_inv;obtain⟨e1,e2⟩:=h1.inv;obtain⟨e3,e4⟩:=Ll hr;refine⟨by rw[show v1=_ from e1,e3];rfl,fun y hy=>?_⟩;rcases List.mem_cons.1 hy with rfl|hy
  ·exact e2
  ·exact e4 y hy
theorem D5{Y:List Nat}{S:World→Prop}: ∀(xs:List (List UInt8)),(∀x∈xs,x.length≤9223372036854775807)→aR U Y S .str xs (xs.flatMap (fun x=> [sv x]))
 | [],_=> .nil _
 |x::xs,h=> .cons .str x xs [sv x] _ (aC.str x (h x (by simp))) rfl (D5 xs fun y hy=>h y (by simp[hy]))
theorem uo [ao]{ρ:Nat→Rz}{n i:Nat}{H:Hs U}{xs:List (List UInt8)}{v:Value}(M:aX U X (· =w) ρ n H)(hl:aD H i=some (.row 0 .str xs tE))(h:cM (Vw U X w ρ n H) ⟨false,[(1,.own i 0)]⟩ v):
  ∃(sp:List Value),i<n∧(∀x∈xs,x.length≤9223372036854775807)∧v= .slice (ρ i).A xs.length (ρ i).c∧Ow (ρ i).A xs.length (ρ i).c 1 (xs.flatMap (fun x=> [sv x])) sp∧ ∀g,ab (ρ i).A=some g→w.heap[g]? =some (Cl (xs.flatMap (fun x=> [sv x])++sp) tE):=by
 obtain⟨hi,A,l,c,e1,hnow⟩:=(show Vw U X w ρ n H (.own i 0) [v]from(bJ.one1 h).1);injection e1 with e1;subst e1;obtain⟨rfl,rfl,rfl⟩:=(hnow _ _ _ (by rw[hl];rfl)).2 rfl;obtain⟨hm,cs,sp,hdx,how0,hw⟩:=M.ent _ (af hl);obtain⟨e1,e2⟩:=Ll hdx;subst e1;exact⟨sp,hi,e2,rfl,how0,fun g hg=>hw g hg w rfl⟩
def R3(l:List (List UInt8)):List (List UInt8):=dd l
def ri(U:bD)(tE:Nat):aW U:=⟨[.n],fun xs es K=> ∃l:List (List UInt8),xs= [⟨false,[(1,.own 0 0)]⟩]∧es= [.row 0 .str l tE]∧K (.v ⟨false,[(1,.own 0 1)]⟩) [.row 1 .str (R3 l) tE]⟩
theorem vV(hen:aF P fi=true)(hf:P.funcs[fi]? =some fn)(hb:fn.body=some (eM ρf ρt (cU Tryz.f92)))(hn:fn.ntmps=61)(hr:fn.results= #[.tmp 2])(hmx:P.follows .mixedOrders=true)(i64:P.underlying (ρt 3)=some (.int .i64))(hE:tE=ρt 61)(es:aq P (ρt 36)=some (tE,1))(un:P.underlying (ρt 36)=some (.slice tE))(pl:dG P tE=true)(sz:(P.info? tE).map (·.size)=some 1)(zc:zeroCells P tE=some [sv []]):bh P U fi (ri U tE):=fun [F:ao] hpr X w ρ es0 xs vs K M hv hrun=>by
 obtain⟨l,rfl,rfl,hK⟩:=hrun;obtain⟨v,us,rfl,h1,h3⟩:=hv;rw[show us= []from h3];have hl:aD (au 0 [(aH.row 0 .str l tE:aH U)]) 0=some (.row 0 .str l tE):=rfl;obtain⟨sp,hi,hlen,rfl,how0,hw⟩:=uo M hl h1;have dj: ∀g,ab (ρ 0).A=some g→g∉X:=fun g hg=>M.dj g (ew (s:= .str) hl hg);refine Fn.mono (vU hen hf hb hn hr hmx i64 hE es un pl sz zc X w l (ρ 0).A (ρ 0).c sp (lG (M.lo w rfl) hw dj) how0) ?_;rintro v w' ⟨A',c',sp',rfl,how,st,hf',hk⟩;rw[oo]at how st⊢;rw[dw]at hf';obtain⟨ρ',a1,a2,a3⟩:=Ax (el:=tE) (s:= .str) M hi hl (show 0<1 from Nat.one_pos) hf' (fun g' hg'=>(hk g' (by simp[aQ,oo,hg'])).imp (fun h=>by rw[dw]at h;simpa using h) id) (D5 (dd l) fun x hx=>hlen x ((I1 l x).1 hx)) how (fun g' hg'=>st.hp.at (i:=0) (by rw[hg'];rfl));exact⟨_,_,ρ',hK,a1,a2,a3⟩
def AB(U:bD)(tE:Nat):aW U:=⟨[.n],fun xs es K=> ∃l:List (List UInt8),xs= [⟨false,[(1,.own 0 0)]⟩]∧es= [.row 0 .str l tE]∧l.length<4611686018427387904∧K (.tup []) [.row 0 .str (ju l) tE]⟩
open Go.Shelf Go.Lib Go.Sort in
theorem D6(hen:aF P fi=true)
  (hC: ∀(blk cap:Nat) (ss:List (List UInt8)) (w:World),Holds encStr w blk 0 ss.toArray→blk<w.heap.size→ss.length<4611686018427387904→Calls P fi #[.slice (some ⟨blk,0,none⟩) ss.length cap] w fun e w'=>e= .returned (.tuple #[])∧ ∃n os,w'=grow (putRow encStr (Sort.ahead w n) blk 0 (ss.mergeSort fun x y=>decide (x≤y)).toArray) os)
  (hN: ∀(p:Option Addr) (cap:Nat) (w:World),Calls P fi #[.slice p 0 cap] w fun e w'=>e= .returned (.tuple #[])∧w'=w):bh P U fi (AB U tE):=fun [F:ao] hpr X w ρ es0 xs vs K M hv hrun=>by
 obtain⟨l,rfl,rfl,h62,hK⟩:=hrun;obtain⟨v,us,rfl,h1,h3⟩:=hv;rw[show us= []from h3];have hl:aD (au 0 [(aH.row 0 .str l tE:aH U)]) 0=some (.row 0 .str l tE):=rfl;obtain⟨sp,hi,hlen,rfl,how0,hw⟩:=uo M hl h1;have dj: ∀g,ab (ρ 0).A=some g→g∉X:=fun g hg=>M.dj g (ew (s:= .str) hl hg);refine Fn.mono (yK hen hC hN X w l (ρ 0).A (ρ 0).c sp (lG (M.lo w rfl) hw dj) how0 h62) ?_;rintro v w' ⟨rfl,how,e,st,hf'⟩;rw[←e]at how;rw[dw]at hf';obtain⟨ρ',a2,a3⟩:=IJ (el:=tE) (s:= .str) M hl (show 0<1 from Nat.one_pos) hf' (List.length_mergeSort _) (D5 (ju l) fun x hx=>hlen x ((List.mergeSort_perm _ _).mem_iff.1 hx)) how (fun g' hg'=>st.hp.at (i:=0) (by rw[hg'];rfl));exact⟨_,_,ρ',hK,⟨[],rfl,rfl⟩,a2,a3⟩
def AC(U:bD):aW U:=⟨[.d .str,.d .str],fun xs es K=> ∃s sep:List UInt8,xs= [⟨false,[(1,.d .str s)]⟩,⟨false,[(1,.d .str sep)]⟩]∧es= []∧s.length≤1000000∧1≤sep.length∧K (.v ⟨false,[(1,.d (.sl .str) (Lib.split s sep))]⟩) []⟩
theorem pC(sep:ByteArray)(save:Nat): ∀(k:Nat) (s x:ByteArray),x∈Lib.splitB sep save k s→x.size≤s.size
 |0,s,x,h=>by simp[Lib.splitB]at h;subst h;exact Nat.le_refl _
 |k+1,s,x,h=>by
  unfold Lib.splitB at h;split at h
  ·simp at h;subst h;exact Nat.le_refl _
  ·rcases List.mem_cons.1 h with rfl|h
   ·rw[ByteArray.size_extract];omega
   ·have:=pC sep save k _ x h;rw[ByteArray.size_extract]at this;omega
theorem ma{s sep:List UInt8}(h1:1≤sep.length):(Lib.split s sep).length=Lib.count s sep+1:=by
 have:=Lib.splitB_all ⟨sep.toArray⟩ (by simpa[ByteArray.size]using h1) 0 (Lib.count s sep) ⟨s.toArray⟩ (by simp);have h2:=congrArg List.length (Lib.splitB_data ⟨sep.toArray⟩ 0 (Lib.count s sep) ⟨s.toArray⟩);rw[List.length_map,this]at h2;unfold Lib.split;simpa using h2.symm
theorem D7(hen:aF P fi=true)(hC: ∀(s sep:ByteArray) (m:Int) (w:World),s.size<4294967281→w.cell? ⟨0,0,none⟩=some (.int .i64 m)→1≤sep.size→Calls P fi #[.string s,.string sep] w fun e w'=>
   e= .returned (.slice (some ⟨w.heap.size,0,none⟩) (Lib.countB s sep+1) (Lib.countB s sep+1))∧w'=w.alloc (.cells ((Lib.splitB sep 0 (Lib.countB s sep) s).map Value.string).toArray tE)):bh P U fi (AC U):=fun [F:ao] hpr X w ρ es0 xs vs K M hv hrun=>by
 obtain⟨s,sep,rfl,rfl,hs,h1,hK⟩:=hrun;obtain⟨v,us,rfl,ha,v2,us2,rfl,hb,h3⟩:=hv;rw[show us2= []from h3];obtain⟨e1,_⟩:=aC.inv (show aC U _ _ .str s [v]from(bJ.one1 ha).1);obtain⟨e2,_⟩:=aC.inv (show aC U _ _ .str sep [v2]from(bJ.one1 hb).1);injection e1 with e1;injection e2 with e2;subst e1;subst e2;obtain⟨mx,hm⟩:=M.gv.2 w rfl;refine⟨hen,(hC ⟨s.toArray⟩ ⟨sep.toArray⟩ mx w (by simp[ByteArray.size];omega) hm (by simpa[ByteArray.size]using h1)).mono ?_⟩;rintro e w' ⟨rfl,rfl⟩;have hlen:=ma (s:=s) h1;have hd2:=Lib.splitB_data ⟨sep.toArray⟩ 0 (Lib.count s sep) ⟨s.toArray⟩;have hsp:Lib.split s sep=(Lib.splitB ⟨sep.toArray⟩ 0 (Lib.count s sep) ⟨s.toArray⟩).map (·.data.toList):=by rw[hd2];rfl
 have hcells:((Lib.splitB ⟨sep.toArray⟩ 0 (Lib.countB ⟨s.toArray⟩ ⟨sep.toArray⟩) ⟨s.toArray⟩).map Value.string)=(Lib.split s sep).flatMap (fun x=> [sv x]):=by
  rw[oZ,hsp,List.map_map];apply List.map_congr_left;intro x _;cases x;rfl
 have hcount:Lib.count s sep≤s.length:=by
  have:=Lib.countB_le ⟨sep.toArray⟩ (by simpa[ByteArray.size]using h1) s.length ⟨s.toArray⟩ (by simp[ByteArray.size]);simpa[ByteArray.size]using this
 have hf:Fr [] w (w.alloc (.cells ((Lib.splitB ⟨sep.toArray⟩ 0 (Lib.countB ⟨s.toArray⟩ ⟨sep.toArray⟩) ⟨s.toArray⟩).map Value.string).toArray tE)):=Fr.alloc w _;refine⟨_,rfl,_,_,ρ,hK,?_,(M.keep0 hf).1,(M.keep0 hf).2⟩;refine gz ?_;show aC U _ _ (.sl .str) (Lib.split s sep) [_]
 have hle: ∀x∈Lib.split s sep,x.length≤9223372036854775807:=fun x hx=>by
  rw[hsp]at hx;obtain⟨y,hy,rfl⟩:=List.mem_map.1 hx;have:=pC _ _ _ _ _ hy;have e1:y.size=y.data.toList.length:=Array.length_toList.symm;have e2:(⟨s.toArray⟩:ByteArray).size=s.length:=List.size_toArray;omega
 have hrd:mo (aj ρ (au 0 ([]:List (aH U)))++X) (w.alloc (.cells ((Lib.splitB ⟨sep.toArray⟩ 0 (Lib.countB ⟨s.toArray⟩ ⟨sep.toArray⟩) ⟨s.toArray⟩).map Value.string).toArray tE)) (some ⟨w.heap.size,0,none⟩) ((Lib.split s sep).flatMap (fun x=> [sv x])):=by
  intro j v hj;refine⟨w.heap.size,0,rfl,fun hx=>?_,?_⟩
  ·have:=M.lo w rfl _ (show w.heap.size∈X from hx);omega
  ·rw[Nat.zero_add,hcells];unfold World.cell?;simp only[heap_alloc_new];simpa using hj
 have:=aC.sl (U:=U) (Y:=aj ρ (au 0 [])++X) (S:=(· =w.alloc (.cells ((Lib.splitB ⟨sep.toArray⟩ 0 (Lib.countB ⟨s.toArray⟩ ⟨sep.toArray⟩) ⟨s.toArray⟩).map Value.string).toArray tE))) .str (Lib.split s sep) (some ⟨w.heap.size,0,none⟩) (Lib.count s sep+1) _ (D5 _ hle) (fun w2 h2=>by rw[h2];exact hrd) (Nat.le_of_eq hlen) (by unfold maxLen;omega);rw[show(List.length (α:=TT U.ty .str) (Lib.split s sep))=Lib.count s sep+1 from hlen]at this;exact this
end
theorem D8(s:List UInt8)(p:Int):0≤yF s p∧yF s p≤1114111:=by have:=Lib.rune_le ⟨s.toArray⟩ p.toNat;unfold yF;omega
def dq(s:List UInt8)(f:Int→Bool)(truth:Bool):Nat→Int→(Int)⊕(Int)
 |0,pgr1=> .inr (pgr1)
 |fuel+1,pgr1=>
  if pgr1<(s.length:Int)then
   if(f (yF s pgr1))=truth then
    .inl pgr1
   else
    dq s f truth fuel (pgr1+sW s pgr1)
  else
   .inr (pgr1)
def je(s:List UInt8)(f:Int→Bool)(truth:Bool):Int:=
 match dq s f truth (((s.length:Int)-(0:Int)).toNat+1) (0:Int)with
 | .inl r=>r
 | .inr (pgr1)=>
  (-1)
theorem yp(w:World)(s:List UInt8)(f1:Value)(f:Int→Bool)(truth:Bool)(z1: ∀(w1:World) (x0:Int),Fr ([]) w w1→0≤x0∧x0≤1114111→pZ Tryz.prog f1 [.int .i32 x0] w1 fun v w2=>v= .bool (f x0)∧Fr [] w1 w2):
  Fn Tryz.prog 161 [sv s,f1,.bool truth] w fun v w'=>v= .int .i64 (je s f truth)∧Fr [] w w':=by
 refine iE 21 (by kernel_rfl) Tryz.func161 rfl rfl rfl ?_;dsimp only[bS];have st:=EF (X:= []) (w:=w) (by simp[Lo]);have hF:=Fr.refl ([]) w;refine sq fun _ k1=>rg (dV rfl (Ln k1 (sq fun _ k2=>sq fun _ k3=>rg (Lm rfl (La rfl (A8 (s:=s) rfl rfl rfl rfl Tryz.underlying9 st.hp (fun gr1 w1 (hp:Hp w1 [_]) hf hg1=>?_)))))));have st:St [] w1 [_] []:=st.push hp hf hg1;have hg1:=Nat.le_trans hF.size hg1;have hF:=hF.step0 hf;refine Ln k3 (bv (lp (fun q E W=> ∃(pgr1:Int),E= [(1,f1),(2,.bool truth),(10,.pointer (some ⟨gr1,0,none⟩))]∧jq q (fun m=>(dq s f truth m pgr1=dq s f truth (((s.length:Int)-(0:Int)).toNat+1) (0:Int)∧((s.length:Int)- pgr1).toNat<m)) (dq s f truth (((s.length:Int)-(0:Int)).toNat+1) (0:Int)= .inr (pgr1))∧(0≤pgr1)∧St [] W [(some gr1,Obj.stringIter ⟨s.toArray⟩ pgr1.toNat)] []∧Fr ([]) w W) (((s.length:Int)-(0:Int)).toNat+1) [(1,_),(2,_),(10,_)] ⟨rfl,rfl,rfl,trivial⟩ ⟨_,rfl,⟨rfl,Nat.lt_succ_self _⟩,by first|omega|(simp;done)|(simp;omega),st,hF⟩ k2 ?_ fun hout1=>?_))
 ·rintro E w2 ⟨pgr1,rfl,hLk1,hinv,st,hF⟩;unfold jq at hLk1;dsimp only at hLk1;refine sq fun _ k4=>rg (dV rfl (Ln k4 (wR (fR (iC rfl rfl) ?_))));unfold je;rewrite[hLk1];(try dsimp only);exact⟨rfl,hF⟩
 rintro m E w3 ⟨pgr1,rfl,⟨hL1,hmu⟩,hinv,st,hF⟩;obtain⟨fuel,rfl⟩: ∃q,m=q+1:=⟨m - 1,by omega⟩;refine sq fun _ k5=>rg ?_;have hdw1:=pY s pgr1;refine Bw (fN rfl) (ED (ir:=0) (s:=s) (pos:=pgr1) rfl rfl rfl rfl st.hp rfl (by omega) (fun hc1=>?_) (fun w4 hc1 (hp:Hp w4 [_]) hf=>?_))
 ·refine Lx rfl (Ln k5 (sq fun _ k6=>ib rfl (fH (jt (jt (iy (cz (?_))))))));exact hout1 _ [(1,_),(2,_),(10,_)] _ ⟨rfl,rfl,rfl,trivial⟩ ⟨pgr1,rfl,show _=_ from by rewrite[←hL1,dq];rewrite[if_neg hc1];rfl,by first|omega|(simp;done)|(simp;omega),(st.pk [0] (by decide)).pickK [],hF⟩
 have st:St [] w4 [_] []:=st.set (i:=0) rfl hp hf;have st:St [] w4 [_] []:=st;have hF:=hF.step hf (by intro y hy;simp only[List.mem_cons,List.not_mem_nil,or_false]at hy;subst hy;first|(exact Or.inr (by omega))|(exact Or.inl (QZ _ _))|(exact Or.inl (by simp)));refine Lx rfl (Ln k5 (sq fun _ k7=>fW rfl (sk k7 (bv (sq fun _ k8=>rg (Lx rfl (Lx rfl (dV rfl (dV rfl (Ln k8 (sq fun _ k9=>rg (Lm rfl (Lm rfl (La rfl (QR st hF rfl (z1 _ (yF s pgr1) hF (D8 s pgr1)) fun w5 st hF=>Lm rfl (Ly rfl (GD rfl rfl rfl Tryz.underlying4) (Ln k9 (cE rfl (fun hc2=>?_) (fun hc2=>?_)))))))))))))))))))
 ·refine sq fun _ xu=>rg (Lm rfl (dV rfl (Ln xu (wR (uL (jN (uL (jN (fR (iC rfl rfl) ?_)))))))));have hret1:dq s f truth (((s.length:Int)-(0:Int)).toNat+1) (0:Int)= .inl pgr1:=by rewrite[←hL1,dq];rewrite[if_pos hc1,if_pos hc2];rfl
  have he2:je s f truth=pgr1:=by unfold je;rewrite[hret1];(try dsimp only);all_goals rfl
  rewrite[he2];exact⟨rfl,hF⟩
 refine dW (lJ (cz (?_)));exact⟨fuel,[(1,_),(2,_),(10,_)],Nat.lt_succ_self _,⟨rfl,rfl,rfl,trivial⟩,(pgr1+sW s pgr1),rfl,⟨by rewrite[←hL1,dq];rewrite[if_pos hc1,if_neg hc2];rfl,by first|omega|(simp;done)|(simp;omega)⟩,by first|omega|(simp;done)|(simp;omega),(st.pk [0] (by decide)).pickK [],hF⟩
def jf(s:List UInt8)(f:Int→Bool):Int:=
 je s f true
theorem yq(w:World)(s:List UInt8)(f1:Value)(f:Int→Bool)(z1: ∀(w1:World) (x0:Int),Fr ([]) w w1→0≤x0∧x0≤1114111→pZ Tryz.prog f1 [.int .i32 x0] w1 fun v w2=>v= .bool (f x0)∧Fr [] w1 w2):
  Fn Tryz.prog 105 [sv s,f1] w fun v w'=>v= .int .i64 (jf s f)∧Fr [] w w':=by
 refine iE 8 (by kernel_rfl) Tryz.func105 rfl rfl rfl ?_;dsimp only[bS];have st:=EF (X:= []) (w:=w) (by simp[Lo]);have hF:=Fr.refl ([]) w;refine sq fun _ k1=>rg (dV rfl (Ln k1 (sq fun _ k2=>rg (Lm rfl (Lm rfl (La rfl (SA st hF rfl (yp _ s f1 f true (fun w1 x0 hw hr=>z1 w1 x0 (hF.step0 hw) hr)) fun w1 st hF=>dV rfl (Ln k2 (wR (fR (iC rfl rfl) ?_))))))))));unfold jf;exact⟨rfl,hF⟩
section
variable {U:bD}
def xp(U:bD):aW U:=⟨[.d .str,.f1 (.int .i32)],fun xs es K=> ∃(s:List UInt8) (g:Int→Bool),xs= [⟨false,[(1,.d .str s)]⟩,⟨false,[(1,.f1 (.int .i32) g)]⟩]∧es= []∧K (.v ⟨false,[(1,.d (.int .i64) (jf s g))]⟩) []⟩
theorem rj(s:List UInt8)(f:Int→Bool)(truth:Bool): ∀(fuel:Nat) (p:Int),0≤p→(∃q,dq s f truth fuel p= .inl q∧0≤q∧q<s.length)∨ ∃q,dq s f truth fuel p= .inr q
 |0,p,h=> .inr ⟨p,rfl⟩
 |fuel+1,p,h=>by
  unfold dq;split
  ·split
   ·exact .inl ⟨p,rfl,h,by omega⟩
   ·have:=pY s p;exact rj s f truth fuel _ (by omega)
  ·exact .inr ⟨_,rfl⟩
theorem AD:bh Tryz.prog U 105 (xp U):=fun [F:ao] hpr X w ρ es0 xs vs K M hv hrun=>by
 obtain⟨s,g,rfl,rfl,hK⟩:=hrun;obtain⟨v,us,rfl,ha,v2,us2,rfl,hb,h3⟩:=hv;rw[show us2= []from h3];obtain⟨e1,hsl⟩:=aC.inv (show aC U _ _ .str s [v]from(bJ.one1 ha).1);injection e1 with e1;subst e1;obtain⟨u',e,hv⟩:=(show Vw U X w ρ 0 (au 0 []) (.f1 (.int .i32) g) [v2]from(bJ.one1 hb).1);injection e with e;subst e;refine Fn.mono (yq w s _ g (fun w1 x0 hf hx=>?_)) ?_
 ·have mv:Mv (aj ρ (au 0 ([]:List (aH U)))++X) (· =w) (aj ρ (au 0 ([]:List (aH U)))++X) (· =w1):=SV hf;have h1:=y3.call (U:=U) (a:= .int .i32) (v:= .int .i32 x0) (t:=(x0:Int)) (hv.mv mv) M.gY (aC.int .i32 x0 ⟨by omega,by omega⟩) rfl;rw[hpr]at h1;exact h1
 ·rintro v w' ⟨rfl,hf'⟩;have hr:dS .i64 (jf s g):=by
   unfold jf je;rcases rj s g true (((s.length:Int)-(0:Int)).toNat+1) 0 (by omega)with⟨q,e,h1,h2⟩|⟨q,e⟩
   ·rw[e];exact⟨by simp only;omega,by simp only;omega⟩
   ·rw[e];exact(show dS .i64 (-1)from⟨by decide,by decide⟩)
  exact⟨_,_,ρ,hK,gz (aC.int .i64 _ hr),(M.keep0 hf').1,(M.keep0 hf').2⟩
end
end Go.Proofs.YtmpeiadlohbikaaGreatDoor.V
end

section
set_option linter.unusedVariables false
set_option linter.unusedSimpArgs false
namespace Go.Proofs.YtmpeiadlohbikaaGreatDoor.V
open Go.RowKit Go.Shelf Go.Lib Go.Sort
theorem fP.perm{α:Type}{l l':List α}{g:α→α→Int}(h:fP l g)(hp:l'.Perm l):fP l' g:=⟨h.1,fun x hx y hy=>h.2 x (hp.mem_iff.1 hx) y (hp.mem_iff.1 hy)⟩
theorem pD{α:Type}{l l':List α}{g:α→α→Int}(h:fP l g)(hp:l'.Perm l):bk g l'=bk g l:=by
 have tr: ∀a b c:α,(!(ltOf g) b a)=true→(!(ltOf g) c b)=true→(!(ltOf g) c a)=true:=fun a b c h1 h2=>by
  simp only[Bool.not_eq_true']at*;exact h.1.3 c b a h2 h1
 have tot: ∀a b:α,((!(ltOf g) b a)||(!(ltOf g) a b))=true:=fun a b=>by
  cases h1:ltOf g b a with
  |false=>rfl
  |true=>
   cases h2:ltOf g a b with
   |false=>rfl
   |true=>have:=h.1.2 _ _ _ h1 h2;rw[h.1.1]at this;cases this
 have p1:(bk g l').Perm l':=List.mergeSort_perm _ _;have p2:(bk g l).Perm l:=List.mergeSort_perm _ _;have s1:=List.pairwise_mergeSort (le:=fun x y=>!(ltOf g) y x) tr tot l';have s2:=List.pairwise_mergeSort (le:=fun x y=>!(ltOf g) y x) tr tot l;refine List.Perm.eq_of_pairwise (le:=fun x y=>(!(ltOf g) y x)=true) (fun a b ha hb h1 h2=>?_) s1 s2 ((p1.trans hp).trans p2.symm);simp only[Bool.not_eq_true']at h1 h2;exact h.2 a (hp.mem_iff.1 (p1.mem_iff.1 ha)) b (p2.mem_iff.1 hb) h2 h1
end Go.Proofs.YtmpeiadlohbikaaGreatDoor.V
end

section
set_option linter.unusedVariables false
set_option maxRecDepth 20000
namespace Go.Proofs.YtmpeiadlohbikaaGreatDoor.V
open Go.RowKit Go.Shelf Go.Sort
def Uq:aW U:=pA U (.st 4) 61
theorem Ql:bh Tryz.prog U 79 Uq:=oP (s:=(.st 4)) (fn:=Tryz.f79) (ρf:=fun n=>n) (ρt:=fun n=>n) (by kernel_rfl) Tryz.func79 (by kernel_rfl) rfl rfl (by kernel_rfl) Tryz.underlying3 (by kernel_rfl) (by kernel_rfl) lE ⟨_,rfl⟩ (by decide) (by decide) (by decide)
def Ur:aW U:=pA U (.st 10) 128
theorem Qm:bh Tryz.prog U 78 Ur:=oP (s:=(.st 10)) (fn:=Tryz.f78) (ρf:=fun n=>n) (ρt:=fun|36=>35|n=>n) (by kernel_rfl) Tryz.func78 (by kernel_rfl) rfl rfl (by kernel_rfl) Tryz.underlying3 (by kernel_rfl) (by kernel_rfl) kT ⟨_,rfl⟩ (by decide) (by decide) (by decide)
def Us:aW U:=pA U (.st 5) 133
theorem OD:bh Tryz.prog U 80 Us:=oP (s:=(.st 5)) (fn:=Tryz.f80) (ρf:=fun n=>n) (ρt:=fun|36=>39|n=>n) (by kernel_rfl) Tryz.func80 (by kernel_rfl) rfl rfl (by kernel_rfl) Tryz.underlying3 (by kernel_rfl) (by kernel_rfl) kU ⟨_,rfl⟩ (by decide) (by decide) (by decide)
def Qn:aW U:=pA U (.st 3) 70
theorem Qo:bh Tryz.prog U 109 Qn:=oP (s:=(.st 3)) (fn:=Tryz.f109) (ρf:=fun n=>n) (ρt:=fun|36=>26|n=>n) (by kernel_rfl) Tryz.func109 (by kernel_rfl) rfl rfl (by kernel_rfl) Tryz.underlying3 (by kernel_rfl) (by kernel_rfl) lD ⟨_,rfl⟩ (by decide) (by decide) (by decide)
def Ut:aW U:=sD U (.st 4) 61
theorem Sp:bh Tryz.prog U 90 Ut:=uj (fg:=Tryz.f153) (s:=(.st 4)) (fn:=Tryz.f90) (ρf:=fun n=>n) (ρt:=fun n=>n) (by kernel_rfl) Tryz.func90 (by kernel_rfl) rfl rfl (by kernel_rfl) Tryz.func153 (by kernel_rfl) rfl rfl (by kernel_rfl) Tryz.underlying3 (by kernel_rfl) (by kernel_rfl) (by kernel_rfl) (by kernel_rfl) (by kernel_rfl) lE ⟨_,rfl⟩ (by decide) (by decide) (by decide)
def Uu:aW U:=sH U (.st 10) 128
theorem Uv:bh Tryz.prog U 89 Uu:=ul (fo:=Tryz.f151) (s:=(.st 10)) (fn:=Tryz.f89) (ρf:=fun n=>n) (ρt:=fun n=>n) (by kernel_rfl) Tryz.func89 (by kernel_rfl) rfl rfl (by kernel_rfl) Tryz.underlying3 (by kernel_rfl) (by kernel_rfl) Tryz.func151 (by kernel_rfl) (by kernel_rfl) (by kernel_rfl) (by kernel_rfl) kT ⟨_,rfl⟩ (by decide) (by decide) (by decide)
def Qp:aW U:=sH U (.st 5) 133
theorem Qq:bh Tryz.prog U 101 Qp:=ul (fo:=Tryz.f157) (s:=(.st 5)) (fn:=Tryz.f101) (ρf:=fun|151=>157|152=>158|n=>n) (ρt:=fun|35=>39|n=>n) (by kernel_rfl) Tryz.func101 (by kernel_rfl) rfl rfl (by kernel_rfl) Tryz.underlying3 (by kernel_rfl) (by kernel_rfl) Tryz.func157 (by kernel_rfl) (by kernel_rfl) (by kernel_rfl) (by kernel_rfl) kU ⟨_,rfl⟩ (by decide) (by decide) (by decide)
def Qr:aW U:=sE U (.st 4)
theorem Qt:bh Tryz.prog U 149 Qr:=sG (s:=(.st 4)) (fn:=Tryz.f149) (ρf:=fun n=>n) (ρt:=fun|35=>36|198=>115|128=>61|n=>n) (by kernel_rfl) Tryz.func149 (by kernel_rfl) rfl rfl (by kernel_rfl) Tryz.underlying3 rfl (by kernel_rfl) (by kernel_rfl) rfl (by kernel_rfl) (by kernel_rfl) lE ⟨_,rfl⟩ (by decide) (by decide) (by decide)
def Qu:aW U:=sE U (.st 10)
theorem Qv:bh Tryz.prog U 155 Qu:=sG (s:=(.st 10)) (fn:=Tryz.f155) (ρf:=fun n=>n) (ρt:=fun n=>n) (by kernel_rfl) Tryz.func155 (by kernel_rfl) rfl rfl (by kernel_rfl) Tryz.underlying3 rfl (by kernel_rfl) (by kernel_rfl) rfl (by kernel_rfl) (by kernel_rfl) kT ⟨_,rfl⟩ (by decide) (by decide) (by decide)
def Qw:aW U:=sE U (.st 3)
theorem Qx:bh Tryz.prog U 122 Qw:=sG (s:=(.st 3)) (fn:=Tryz.f122) (ρf:=fun n=>n) (ρt:=fun|35=>26|198=>154|128=>70|n=>n) (by kernel_rfl) Tryz.func122 (by kernel_rfl) rfl rfl (by kernel_rfl) Tryz.underlying3 rfl (by kernel_rfl) (by kernel_rfl) rfl (by kernel_rfl) (by kernel_rfl) lD ⟨_,rfl⟩ (by decide) (by decide) (by decide)
def Uw:aW U:=oQ U (.st 10) 128
theorem Ux:bh Tryz.prog U 93 Uw:=pB (fx:=Tryz.f155) (s:=(.st 10)) (fn:=Tryz.f93) (ρf:=fun n=>n) (ρt:=fun n=>n) (by kernel_rfl) Tryz.func93 (by kernel_rfl) rfl rfl (by kernel_rfl) Tryz.func155 (by kernel_rfl) rfl rfl (by kernel_rfl) Tryz.underlying3 rfl (by kernel_rfl) (by kernel_rfl) rfl (by kernel_rfl) (by kernel_rfl) kT ⟨_,rfl⟩ (by decide) (by decide) (by decide)
def Qy:aW U:=oQ U (.st 5) 133
theorem LG:bh Tryz.prog U 102 Qy:=pB (fx:=Tryz.f159) (s:=(.st 5)) (fn:=Tryz.f102) (ρf:=fun|155=>159|n=>n) (ρt:=fun|35=>39|198=>205|128=>133|n=>n) (by kernel_rfl) Tryz.func102 (by kernel_rfl) rfl rfl (by kernel_rfl) Tryz.func159 (by kernel_rfl) rfl rfl (by kernel_rfl) Tryz.underlying3 rfl (by kernel_rfl) (by kernel_rfl) rfl (by kernel_rfl) (by kernel_rfl) kU ⟨_,rfl⟩ (by decide) (by decide) (by decide)
def Qz:aW U:=oQ U (.st 3) 70
theorem QA:bh Tryz.prog U 108 Qz:=pB (fx:=Tryz.f122) (s:=(.st 3)) (fn:=Tryz.f108) (ρf:=fun|155=>122|n=>n) (ρt:=fun|35=>26|198=>154|128=>70|n=>n) (by kernel_rfl) Tryz.func108 (by kernel_rfl) rfl rfl (by kernel_rfl) Tryz.func122 (by kernel_rfl) rfl rfl (by kernel_rfl) Tryz.underlying3 rfl (by kernel_rfl) (by kernel_rfl) rfl (by kernel_rfl) (by kernel_rfl) lD ⟨_,rfl⟩ (by decide) (by decide) (by decide)
def Sq:DecidableEq (TT U.ty (.st 4)):=inferInstanceAs (DecidableEq az)
def Uy:aW U:=um U (.st 4) 61 Sq
theorem Sr:bh Tryz.prog U 92 Uy:=ym (s:=(.st 4)) (fn:=Tryz.f92) (ρf:=fun n=>n) (ρt:=fun n=>n) Sq (by kernel_rfl) Tryz.func92 (by kernel_rfl) rfl rfl (by kernel_rfl) Tryz.underlying3 (by kernel_rfl) (by kernel_rfl) rfl (by kernel_rfl) (by kernel_rfl) M7 lE ⟨_,rfl⟩ (by decide) (by decide) (by decide)
def QB:aW U:=ri U 9
theorem QC:bh Tryz.prog U 119 QB:=vV (fn:=Tryz.f119) (ρf:=fun n=>n) (ρt:=fun|36=>25|61=>9|n=>n) (by kernel_rfl) Tryz.func119 (by kernel_rfl) rfl rfl (by kernel_rfl) Tryz.underlying3 rfl (by kernel_rfl) (by kernel_rfl) (by kernel_rfl) (by kernel_rfl) (by kernel_rfl)
def Uz:aW U:=Az U (.st 4) 61
theorem Ss:bh Tryz.prog U 91 Uz:=AA (s:=(.st 4)) (ρs:=Tryz.laysSortTag_ren) Tryz.laysSortTag (by kernel_rfl) rfl (by kernel_rfl) (by kernel_rfl) lE ⟨_,rfl⟩ (by decide) (fun _ _ _ _ _ h h'=>(yU h).trans (yU h').symm)
def UA:aW U:=Az U (.st 6) 144
theorem Su:bh Tryz.prog U 46 UA:=AA (s:=(.st 6)) (ρs:=Tryz.laysSortItem_ren) Tryz.laysSortItem (by kernel_rfl) rfl (by kernel_rfl) (by kernel_rfl) uZ ⟨_,rfl⟩ (by decide) (fun _ _ _ _ _ h h'=>(yV h).trans (yV h').symm)
def QD:aW U:=AB U 9
theorem QE:bh Tryz.prog U 118 QD:=D6 (by kernel_rfl) (fun blk cap ss w h1 h2 h3=>Tryz.slices_Sort_string blk 0 cap ss w h1 h2 h3) Tryz.slices_Sort_string_none
def QF:aW U:=AC U
theorem QG:bh Tryz.prog U 104 QF:=D7 (by kernel_rfl) Tryz.strings_Split
def QH:aW U:=xp U
theorem QI:bh Tryz.prog U 105 QH:=AD
end Go.Proofs.YtmpeiadlohbikaaGreatDoor.V
end

section
set_option linter.unusedVariables false
namespace Go.Proofs.YtmpeiadlohbikaaGreatDoor.V
open Go.RowKit
section
variable {U:bD}
theorem wI{α:Type}{f x y:α}{b:Bool}{P:Prop} [Decidable P]{A B:Prop}(hf:f=if P then x else y)(h1:P→f=x→A)(h2: ¬P→f=y→B)(hb:b=true↔P:=by repeat (first|exact iD|exact iB|apply iA|apply iO|apply iN|apply iP)):y2 b A B:=vI hf hb h1 h2
theorem wN{α:Type}{f x y:α}{b:Bool}{P:Prop} [Decidable P]{A B:Prop}(hf:f=if P then x else y)(h1: ¬P→f=y→A)(h2:P→f=x→B)(hb:b=true↔ ¬P:=by repeat (first|exact iD|exact iB|apply iN|apply iA|apply iO|apply iP)):y2 b A B:=vN hf hb h1 h2
theorem vs{P A:Prop}(a:A)(p:P:=by first|omega|(simp only[List.length_append,List.length_cons,List.length_nil];omega)):VS P A:=⟨p,a⟩
theorem vx{α:Type}(i:Int)(l:List α){A:Prop}(a:A)(p:0≤i∧i<(l.length:Int):=by omega):VS (0≤i∧i<(l.length:Int)) A:=⟨p,a⟩
theorem gT{p q r:Int}{A B:Prop}(a:A)(h: -9223372036854775808≤p→p≤9223372036854775807→ -9223372036854775808≤q→q≤9223372036854775807→ -9223372036854775808≤r∧r≤9223372036854775807:=by first|omega|(simp only[List.length_append,List.length_cons,List.length_nil];omega)):Og (dS .i64 p→dS .i64 q→dS .i64 r) A B:= .inl ⟨jc h,a⟩
theorem fl{k:IntKind}{x:Int}{A:Prop}(h:x≤9223372036854775807→A)(hk:k= .i64:=by rfl):dS k x→A:=fun q=>h (by subst hk;exact q.2)
theorem lI{σ β:Type}{b n:Nat}{a:En U→Nat→Hs U→KO U→Prop}{e:En U}{H:Hs U}{K:KO U}(N:Nat)(E:σ→En U)(M:σ→Hs U)(μ:σ→Nat)(inv:σ→Prop)(L:Nat→σ→β)(X:β)(φ:List (Nat×Nat))(s0:σ)
  (k: ∀s,aN μ inv L X s→a (E s) N (M s) fun o e' n' H'=>match o with
   | .n=> ∃φ s',μ s'<μ s∧aN μ inv L X s'∧Om b N φ n' e' H' (E s') (M s')
   |o=>K o e' n' H')
  (hi:inv s0:=by((try dsimp only);repeat' apply And.intro)<;>first|trivial|omega|assumption|(simp only[List.length_append,List.length_cons,List.length_nil];omega)|(simp;omega)|(intro h;simp at h;omega)|simp)
  (hX:X=L (μ s0+1) s0:=by rfl) (hle:Om b N φ n e H (E s0) (M s0):=by repeat (first|exact trivial|refine And.intro rfl ?_)):zC b a e n H K:=
 ⟨σ,N,E,M,aN μ inv L X,μ,⟨φ,s0,aN.mk0 _ (Nat.lt_succ_self _) hi hX,hle⟩,k⟩
theorem nx{σ β:Type}{μ:σ→Nat}{inv:σ→Prop}{L:Nat→σ→β}{X:β}{s:σ}{c:Nat}{LE:List (Nat×Nat)→σ→Prop}(φ:List (Nat×Nat))(s':σ)(hc:μ s<c+1)(hX:X=L c s')
  (hm:μ s'<μ s:=by(try dsimp only);omega)
  (hi:inv s':=by((try dsimp only);repeat' apply And.intro)<;>first|trivial|omega|assumption|(simp only[List.length_append,List.length_cons,List.length_nil];omega)|(simp;omega)|(intro h;simp at h;omega)|simp)
  (hle:LE φ s':=by repeat (first|exact trivial|refine And.intro rfl ?_)): ∃φ s',μ s'<μ s∧aN μ inv L X s'∧LE φ s':=⟨φ,s',hm,aN.next hc hm hi hX,hle⟩
theorem dp{T:cW U}{G:c6 U}{b n:Nat}{ops:Array Oper}{e:En U}{H:Hs U}{K:KS U}(pl:List (Bool×Nat))(f:Option Nat)(mk:List Nat)(k:wG T G ops.toList mk (lP T G ops.toList f) pl e n H [] [] K)(h:vz ops f pl=true:=by kernel_rfl):wH T G b ops e n H K:= .inl ⟨pl,f,mk,h,k⟩
def up(n:Nat):List (Bool×Nat):=Nat.rec (motive:=fun _=>Nat→List (Bool×Nat)) (fun _=> []) (fun _ ih i=>(true,i)::ih (i+1)) n 0
def nw(i:Nat):List Nat:= [i,i+1,i+2,i+3,i+4,i+5,i+6,i+7,i+8,i+9,i+10,i+11]
theorem e0{A:Prop}(a:A:=by rw[hf0]at h;exact h):A:=a
theorem e1{A:Prop}(a:A:=by rw[hf1]at hf0;rw[hf0]at h;exact h):A:=a
theorem e2{A:Prop}(a:A:=by rw[hf2]at hf1;rw[hf1]at hf0;rw[hf0]at h;exact h):A:=a
theorem bh.mono{P:Program}{f:FuncId}{c c':aW U}(h:bh P U f c)(hm: ∀xs es K,c'.run xs es K→c.run xs es K):bh P U f c':=fun [F:ao] hpr X w ρ es xs vs K M hv hr=>h hpr X w ρ es xs vs K M hv (hm _ _ _ hr)
abbrev vi(x:Int):Va U:=⟨false,[(1,.d (.int .i64) x)]⟩
abbrev vb(x:Bool):Va U:=⟨false,[(1,.d .bool x)]⟩
abbrev vt(x:List UInt8):Va U:=⟨false,[(1,.d .str x)]⟩
abbrev vp(i:Nat):Va U:=⟨false,[(1,.ptr i 0)]⟩
abbrev vo(i:Nat):Va U:=⟨false,[(1,.own i 0)]⟩
end
end Go.Proofs.YtmpeiadlohbikaaGreatDoor.V
end

section
set_option linter.unusedVariables false
namespace Go.Proofs.YtmpeiadlohbikaaGreatDoor.V
open Go.RowKit
theorem fo{f:FuncId}{c:aW U}{G:c6 U}(fn:Func)(md:List Md)(em:List (Nat×List (Nat×Option aZ)))(hG:bi Tryz.prog U G)(h: ∀xs es K,c.run xs es K→Nat.ble xs.length fn.ntmps=true∧If SN G fn md em (l8 0 xs) es.length (au 0 es) K)
  (h1:(aF Tryz.prog f&&match fn.body with|some c=>qB fn.ntmps c|none=>false)=true:=by kernel_rfl) (h2:Tryz.prog.funcs[f]? =some fn:=by kernel_rfl):bh Tryz.prog U f c:=by
 rw[Bool.and_eq_true]at h1;cases hb:fn.body with
 |none=>rw[hb]at h1;cases h1.2
 |some c=>exact d8 (fn:=fn) hG bP (by kernel_rfl) fn.ntmps md em h1.1 h2 hb rfl (by have:=h1.2;rw[hb]at this;exact this) h
abbrev Fk(f:FuncId)(c:aW U):Prop:=bh Tryz.prog U f c
abbrev wn(x:TT U.ty (.st 15)):Va U:=⟨true,[(10,.d (.st 15) x)]⟩
abbrev ja(x:TT U.ty (.arr 8 (.int .u32))):Va U:=⟨true,[(8,.d (.arr 8 (.int .u32)) x)]⟩
abbrev vw(x:TT U.ty (.int .u32)):Va U:=⟨false,[(1,.d (.int .u32) x)]⟩
abbrev J2(x:TT U.ty (.st 16)):Va U:=⟨true,[(9,.d (.st 16) x)]⟩
abbrev N3(x:TT U.ty (.st 1)):Va U:=⟨true,[(3,.d (.st 1) x)]⟩
abbrev y9(x:TT U.ty (.st 3)):Va U:=⟨true,[(17,.d (.st 3) x)]⟩
abbrev FZ(x:TT U.ty (.st 0)):Va U:=⟨true,[(2,.d (.st 0) x)]⟩
abbrev oI(x:TT U.ty (.sl (.st 4))):Va U:=⟨false,[(1,.d (.sl (.st 4)) x)]⟩
abbrev za(x:TT U.ty (.st 4)):Va U:=⟨true,[(3,.d (.st 4) x)]⟩
abbrev tq(x:TT U.ty (.st 12)):Va U:=⟨true,[(2,.d (.st 12) x)]⟩
abbrev yX(x:TT U.ty (.sl (.st 3))):Va U:=⟨false,[(1,.d (.sl (.st 3)) x)]⟩
abbrev u5(x:TT U.ty (.st 11)):Va U:=⟨true,[(2,.d (.st 11) x)]⟩
abbrev wo(x:TT U.ty (.st 10)):Va U:=⟨true,[(4,.d (.st 10) x)]⟩
abbrev rJ(x:TT U.ty (.sl (.st 10))):Va U:=⟨false,[(1,.d (.sl (.st 10)) x)]⟩
abbrev KA(x:TT U.ty (.st 7)):Va U:=⟨true,[(3,.d (.st 7) x)]⟩
abbrev KB(x:TT U.ty (.sl (.int .i64))):Va U:=⟨false,[(1,.d (.sl (.int .i64)) x)]⟩
abbrev J3(x:TT U.ty (.st 2)):Va U:=⟨true,[(2,.d (.st 2) x)]⟩
abbrev KC(x:TT U.ty (.st 5)):Va U:=⟨true,[(7,.d (.st 5) x)]⟩
abbrev Cw(x:TT U.ty (.sl (.st 6))):Va U:=⟨false,[(1,.d (.sl (.st 6)) x)]⟩
abbrev Cy(x:TT U.ty (.st 13)):Va U:=⟨true,[(3,.d (.st 13) x)]⟩
abbrev F2(x:TT U.ty (.sl (.st 5))):Va U:=⟨false,[(1,.d (.sl (.st 5)) x)]⟩
abbrev F3(x:TT U.ty (.st 14)):Va U:=⟨true,[(2,.d (.st 14) x)]⟩
abbrev OH(x:TT U.ty (.st 6)):Va U:=⟨true,[(2,.d (.st 6) x)]⟩
abbrev J4(x:TT U.ty (.sl .str)):Va U:=⟨false,[(1,.d (.sl .str) x)]⟩
end Go.Proofs.YtmpeiadlohbikaaGreatDoor.V
end

/- From a walk to the given card of a law whose row lists package-level variables. -/
import Derived.Test.YtmpeiadlohbikaaGreatDoorAt25
import Derived.Test.YtmpeiadlohbikaaGreatDoorAt1
import Derived.Test.YtmpeiadlohbikaaGreatDoorRows
import Derived.ProofKit
import Derived.OpenShut
import Derived.Carry
import Derived.Lib.SmallJoins
import Derived.Test.YtmpeiadlohbikaaGreatDoorAt2
import Derived.Test.YtmpeiadlohbikaaGreatDoorAt12
import Derived.Test.YtmpeiadlohbikaaGreatDoorAt4
import Derived.Test.YtmpeiadlohbikaaGreatDoorCards
import Derived.Test.YtmpeiadlohbikaaGreatDoorTie
import Derived.HandedShaped
import Derived.Lay
import Derived.MakeChecks
import Derived.LaidMore
import Derived.SevenTiedAt
section
set_option linter.unusedVariables false
set_option linter.unusedSectionVars false
set_option linter.unusedSimpArgs false
namespace Go.Proofs.YtmpeiadlohbikaaGreatDoor.V
open Go.RowKit
inductive Hk(U:bD) where
 |bsd (D:DD U)-- a slice of one element that owns a row
 |apx (D:DD U)-- such slices are appended
 |opn (D:DD U) (s z:Nat)-- ahead of an assignment:an element (of the row in slot s,its index in slot z) is opened
 |cls (D:DD U) (s:Nat)-- ahead of it:the opened element is closed
 |pcl -- a call that reads a row and leaves it
section
variable {U:bD}
def N9(H:Hs U)(x:Va U)(K:Va U→Prop):Prop:=match x with
 |⟨false,(1,.own i v):: []⟩=>(match aD H i with
  |some (.ext v' d xs none)=>bif Nat.beq v v' then K ⟨false,[(1,.d (.sl d.e) xs)]⟩else False
  |_=>False)
 |_=>False
def KF:List (Va U)→Bool
 | []=>true
 |⟨false,(1,.d (.int _) _):: []⟩::r=>KF r
 |⟨false,(1,.d .bool _):: []⟩::r=>KF r
 |_=>false
def SO:AV U→Bool
 | .v x=>KF [x]
 | .tup l=>KF l
 |_=>false
def Kl(G:c6 U)(f:FuncId)(H:Hs U)(v:Va U)(K:AV U→Prop):Prop:=oF G f fun c=>N9 H v fun x=>c.run [x] [] fun r es=>SO r=true∧K r
def RV(T:cW U)(G:c6 U)(hk:Hk U)(o:Oper)(R e:En U)(n:Nat)(H:Hs U)(K:AV U→Nat→Hs U→Prop):Prop:=match hk with
 | .bsd D=>(match o.op with
  | .buildSlice t 1 ⟨(0,x):: []⟩=>lX o.dst (j6 [] R e x fun v=>N6 D T t n H v K)
  |_=>False)
 | .apx D=>(match o.op with
  | .call c=>(match c.callee with
   | .builtin .append=>(match c.args.toList,c.argTypes.toList with
    |x::y:: [],t::t':: []=>lX o.dst (bif Nat.beq t t' then gR [] R e x fun a=>gR [] R e y fun b=>N7 D T t n H a b K else False)
    |_,_=>False)
   |_=>False)
  |_=>False)
 | .opn D s z=>(match o.op with
  | .assign x=>lX o.dst (j6 [] R e x fun v=>gR [] R e (.tmp s) fun a=>gR [] R e (.tmp z) fun b=>Kg D n H a b fun n H=>K (.v v) n H)
  |_=>False)
 | .cls D s=>(match o.op with
  | .move x=>lX o.dst (j6 [] R e x fun v=>gR [] R e (.tmp s) fun a=>Ki D H a fun H=>K (.v v) n H)
  |_=>False)
 | .pcl=>(match o.op with
  | .call c=>(match c.callee with
   | .value (.func f)=>(match c.args.toList with
    |x:: []=>j6 [] R e x fun v=>Kl G f H v fun r=>K r n H
    |_=>False)
   |_=>False)
  |_=>False)
def Km(T:cW U)(G:c6 U)(hs:List (Nat×Hk U))(o:Oper):Option (En U→En U→Nat→Hs U→(AV U→Nat→Hs U→Prop)→Prop):=match o.dst with
 |some d=>(match aD hs d with
  |some hk=>some (RV T G hk o)
  |none=>none)
 |none=>none
abbrev F6(T:cW U)(G:c6 U)(hs:List (Nat×Hk U)):fL U:=⟨[],fun _ _ _ _=>False,Km T G hs⟩
def Oa(hs:List (Nat×Hk U))(T:cW U)(G:c6 U)(fn:Func)(md:List Md)(em:List (Nat×List (Nat×Option aZ)))(e:En U)(b:Nat)(H:Hs U)(K:AV U→List (aH U)→Prop):Prop:=match fn.body with
 |some c=> @aw U (F6 T G hs) T G b c e b H (rY T fn md em b K)
 |none=>False
theorem tw{V V':Cx U→List Value→Prop}(h1: ∀k t vs,V (.d (.int k) t) vs→V' (.d (.int k) t) vs)(h2: ∀t vs,V (.d .bool t) vs→V' (.d .bool t) vs): ∀{l:List (Va U)} {us:List Value},KF l=true→bM V l us→bM V' l us
 | [],us,_,h=>h
 |x::l,us,hf,h=>by
  obtain⟨u,us',e,hx,hr⟩:=h;unfold KF at hf;split at hf
  ·rename_i hh;cases hh
  ·rename_i k t r hh;injection hh with a1 a2;subst a1;subst a2;obtain⟨v1,v2,e1,e2,e3,e4⟩:=(show bJ V _ [u]from hx);exact⟨u,us',e,⟨v1,v2,e1,e2,h1 _ _ _ e3,e4⟩,tw h1 h2 hf hr⟩
  ·rename_i t r hh;injection hh with a1 a2;subst a1;subst a2;obtain⟨v1,v2,e1,e2,e3,e4⟩:=(show bJ V _ [u]from hx);exact⟨u,us',e,⟨v1,v2,e1,e2,h2 _ _ e3,e4⟩,tw h1 h2 hf hr⟩
  ·cases hf
theorem Kn{V V':Cx U→List Value→Prop}(h1: ∀k t vs,V (.d (.int k) t) vs→V' (.d (.int k) t) vs)(h2: ∀t vs,V (.d .bool t) vs→V' (.d .bool t) vs){r:AV U}{u:Value}(hf:SO r=true)(h:nv V r u):nv V' r u:=by
 cases r with
 |v x=>
  have h3:bM V [x] [u]:=⟨u,[],rfl,h,rfl⟩;obtain⟨u',us,e,hx,_⟩:=tw h1 h2 (l:= [x]) hf h3;injection e with e;subst e;exact hx
 |tup l=>obtain⟨us,e,hv⟩:=h;exact⟨us,e,tw h1 h2 hf hv⟩
 |_=>cases hf
variable [bB] [ao] {P:Program} {nt:Nat} {T:cW U} {G:c6 U} {X:List Nat} {w:World} {ρ:Nat→Rz} {n:Nat} {H:Hs U} {R e:En U} {ce:aI} {o:Oper}
theorem Ko(hG:dF P U G)(hdo:(o.dst.all (Nat.blt · nt))=true){f:FuncId}{v:Va U}{xo:Operand}{ts:Array TypeId}{u0:Value}{K:AV U→Nat→Hs U→Prop}(h:Kl G f H v fun r=>K r n H)(ho:o.op= .call {callee:= .value (.func f),args:= [xo].toArray,argTypes:=ts})(hx:ce.ev xo=some u0)(hv:cM (Vw U X w ρ n H) v u0)(M:aX U X (· =w) ρ n H):jA P nt U X w ρ n H ce o K:=by
 unfold Kl oF at h;split at h
 ·rename_i c hc;have hfn:bh P U f c:=hG.2 f c hc;unfold N9 at h;split at h
  ·rename_i i v;split at h
   ·rename_i v' d xs hl;cases hb:Nat.beq v v' with
    |false=>rw[hb]at h;exact h.elim
    |true=>
     rw[hb,cond_true]at h;obtain rfl:=Nat.eq_of_beq_eq_true hb;obtain⟨C,hd,hw,_⟩:=M.ent _ (af hl);obtain⟨_,A,l,cc,e1,hnow⟩:=(show bJ (Vw U X w ρ n H) [(1,.own i v)] [u0]from hv).one1.1;injection e1 with e1;subst e1;obtain⟨rfl,rfl,rfl⟩:=(hnow _ _ _ (by rw[hl];rfl)).2 rfl;have gB1:=M.gv.1;have gB2:=M.gv.2;have lo0: ∀x∈gB,x<w.heap.size:=fun x hx=>M.lo w rfl x (M.xs x (gB1 x hx));obtain⟨cs,hd',hrd,hc1,hc2⟩:=d.frz (Y:=gB) (S:=(· =w)) (d.mv (fun w2 h2=>⟨w2,h2,Fr.refl _ _,fun y hy=> .inl (M.gY y hy)⟩) hd) fun g hg=>⟨fun hgb=>M.dj g (aA.2 ⟨_,af hl,hg⟩) (M.xs g (gB1 g hgb)),hw g hg⟩;have M0: @aX ⟨gB,P⟩ U gB (· =w) ρ 0 []:=by
      letI F0:ao:=⟨gB,P⟩
      exact @aX.mk F0 U gB (· =w) ρ 0 [] List.nodup_nil (fun p hp=>(by cases hp)) (fun p hp=>(by cases hp)) (fun p hp=>(by cases hp)) (fun g hg=>(by cases hg)) (fun w2 h2 x hx=>by subst h2;exact lo0 x hx) (fun x hx=>hx) (And.intro (fun z hz=>hz) gB2)
     have hf:= @hfn ⟨gB,P⟩ rfl gB w ρ [] [⟨false,[(1,.d (.sl d.e) xs)]⟩] [Value.slice (ρ i).A xs.length (ρ i).c] _ M0 ⟨_,[],rfl,⟨_,[],rfl,rfl,aC.sl d.e xs _ _ cs hd' hrd hc1 hc2,rfl⟩,rfl⟩ h;refine Gj hdo ho (by simp only[aI.evs,hx]) (hf.mono fun v w' hq=>?_);obtain⟨r,es',ρ',⟨hfl,hK⟩,hav,_,st⟩:=hq;have hfr:Fr [] w w':=by letI F0:ao:=⟨gB,P⟩;exact st.fr
     obtain⟨M',s'⟩:=M.keep0 hfr;refine⟨r,n,H,ρ,hK,Kn (fun k t vs hh=>?_) (fun t vs hh=>?_) hfl hav,M',s'⟩
     ·obtain⟨e3,hr⟩:=aC.inv (show aC U _ _ (.int k) t vs from hh);subst e3;exact aC.int k t hr
     ·have e3:=aC.inv (show aC U _ _ .bool t vs from hh);obtain rfl:=e3;exact aC.bool t
   ·exact h.elim
  ·exact h.elim
 ·exact h.elim
theorem Ob(hG:dF P U G)(hT:bf U P T){hk:Hk U}{K:AV U→Nat→Hs U→Prop}(h:RV T G hk o R e n H K)(hd:(o.dst.all (Nat.blt · nt))=true)(M:aX U X (· =w) ρ n H)(he:aJ (Vw U X w ρ n H) R e ce):jA P nt U X w ρ n H ce o K:=by
 unfold RV at h;cases hk with
 |bsd D=>
  simp only at h;split at h
  ·rename_i t x ho;obtain⟨d,hdst,hn,h⟩:=ef h hd;obtain⟨v,h,hv⟩:=cH h he;obtain⟨u,e1,h1⟩:=hv cA;exact Kb h ho hdst hn e1 h1 hT M
  ·exact h.elim
 |apx D=>
  simp only at h;split at h
  ·rename_i c ho;split at h
   ·rename_i hcal;split at h
    ·rename_i x y t t' h2 h3;obtain⟨d,hdst,hn,hh⟩:=ef h hd;clear h;cases hb:Nat.beq t t' with
     |false=>rw[hb]at hh;exact hh.elim
     |true=>
      rw[hb,cond_true]at hh;have:=Nat.eq_of_beq_eq_true hb;subst this;obtain⟨c1,hh,hc1⟩:=bj hh he;obtain⟨c2,hh,hc2⟩:=bj hh he;obtain⟨u0,e1,k1⟩:=hc1 cA;obtain⟨u1,e2,k2⟩:=hc2 cA;exact Ke hh (by rw[ho,kY hcal h2 h3]) hdst hn e1 e2 k1 k2 hT M
    ·exact h.elim
   ·exact h.elim
  ·exact h.elim
 |opn D s z=>
  simp only at h;split at h
  ·rename_i x ho;obtain⟨d,hdst,hn,h⟩:=ef h hd;obtain⟨v,h,hv⟩:=cH h he;obtain⟨u,e1,h1⟩:=hv cA;obtain⟨a,h,ha⟩:=bj h he;obtain⟨b,h,hb⟩:=bj h he;obtain⟨n1,H1,ρ1,hK,M1,s1⟩:=Kh h M;exact rN hd (nl ho e1) ⟨_,n1,H1,ρ1,_,hK,rfl,cM.imp (fun _ _ h=>h.step s1) h1,M1,s1⟩
  ·exact h.elim
 |cls D s=>
  simp only at h;split at h
  ·rename_i x ho;obtain⟨d,hdst,hn,h⟩:=ef h hd;obtain⟨v,h,hv⟩:=cH h he;obtain⟨u,e1,h1⟩:=hv cA;obtain⟨a,h,ha⟩:=bj h he;obtain⟨H1,hK,M1,s1⟩:=Kj h M;exact rN hd (jT ho e1) ⟨_,n,H1,ρ,_,hK,rfl,cM.imp (fun _ _ h=>h.step s1) h1,M1,s1⟩
  ·exact h.elim
 |pcl=>
  simp only at h;split at h
  ·rename_i c ho;split at h
   ·rename_i f hcal;split at h
    ·rename_i x hargs;obtain⟨v,h,hv⟩:=cH h he;obtain⟨u,e1,h1⟩:=hv cA;exact Ko hG hd h (by rw[ho];exact congrArg Op.call ((kj hcal).trans (by rw[hargs]))) e1 h1 M
    ·exact h.elim
   ·exact h.elim
  ·exact h.elim
theorem Oc(hG:bi P U G)(hT:bf U P T)(hs:List (Nat×Hk U)): @Hv _ _ P nt U (F6 T G hs):=fun o f hf hpr X w ρ n H R e ce K h hd M he=>by
 have hf:Km T G hs o=some f:=hf;unfold Km at hf;split at hf
 ·split at hf
  ·injection hf with hf;subst hf;exact Ob ⟨hpr,hG⟩ hT h hd M he
  ·cases hf
 ·cases hf
omit [bB] [ao]in
theorem CI{fn:Func}(hs:List (Nat×Hk U)){f:FuncId}{c:aW U}{code:Code}(hG:bi P U G)(hT:bf U P T)(hmo:P.follows .mixedOrders=true)(nt:Nat)(md:List Md)(em:List (Nat×List (Nat×Option aZ)))(hen:aF P f=true)(hf:P.funcs[f]? =some fn)(hb:fn.body=some code)(hn:fn.ntmps=nt)(hcd:qB nt code=true)
  (h: ∀xs es K,c.run xs es K→Nat.ble xs.length nt=true∧Oa hs T G fn md em (l8 0 xs) es.length (au 0 es) K):bh P U f c:=fun [F:ao] hpr X w ρ es xs vs K M hv hrun=>by
 obtain⟨hlen,hfun⟩:=h xs es K hrun;unfold Oa at hfun
 rw[hb]at hfun
 have he:aJ (Vw U X w ρ es.length (au 0 es)) [] (l8 0 xs) (bS 0 vs):=by
  refine⟨fun k x _ hk=>?_,fun k l _ hk=>?_,fun k p x hk=>by cases hk⟩
  ·obtain⟨y,u,h1,h2,h3⟩:=fp hv k _ hk;injection h1 with h1;subst h1;exact⟨u,h2,h3⟩
  ·obtain⟨y,u,h1,_⟩:=fp hv k _ hk;cases h1
 have hw:= @pz dfs0 pes0 F U (F6 T G hs) (fun _=> .nilIface) P nt T G X w ρ es.length (au 0 es) (fun f c h=>(by cases h)) (@Oc U dfs0 F P nt T G hG hT hs) (fun z e n H ρ ce w h=>h.elim) ⟨hpr,hG⟩ hT hmo code _ _ _ _ ρ _ w hfun hcd (Kw code) M he M.stp0;refine iE nt hen hf hb hn (by rw[hv.length];exact hlen) (g8 hw ?_);intro ex ce' w' hq;by_cases hpx: ∃c,ex= .panic c
 ·obtain⟨c,rfl⟩:=hpx;obtain⟨_,_,_,_,_,_,_,_,hk,_⟩:=hq;exact hk.elim
 obtain⟨o,e',n',H',ρ',hK,ho,M',he',st'⟩:= @km dfs0 pes0 F U (F6 T G hs) (fun _=> .nilIface) X _ w ρ es.length (au 0 es) ce' _ ex hpx hq;obtain⟨v,hres,r,es',ρ2,_,h1,h2,h3,h4⟩:=jE (nt:=nt) hT hK M' he' st';cases ex with
 |normal=>exact fE hres ⟨r,es',ρ2,h1,h2,h3,h4⟩
 |ret=>exact fR hres ⟨r,es',ρ2,h1,h2,h3,h4⟩
 |exit j=>cases o<;>first|exact ho.elim|exact hK.elim
 |_=>cases o<;>exact ho.elim
end
end Go.Proofs.YtmpeiadlohbikaaGreatDoor.V
end

section
set_option linter.unusedVariables false
set_option linter.unusedSimpArgs false
set_option maxRecDepth 20000
set_option maxHeartbeats 4000000
namespace Go.Proofs.YtmpeiadlohbikaaGreatDoor.V
open Go.RowKit
theorem xV{Y:List Nat}{S:World→Prop}{x:al}{vs:List Value}(h:aC U Y S (.st 9) x vs): ∃v1 h5,vs=v1++ [h5]∧v1.length=12∧aC U Y S (.sl (.st 8)) x.looks [h5]∧ ∀(ys:List bI) h',aC U Y S (.sl (.st 8)) ys [h']→aC U Y S (.st 9) ({x with looks:=ys}:al) (v1++ [h']):=by
 obtain⟨h,hl⟩:=h.inv;obtain⟨a1,b1,e1,h1,l1,h⟩:=bE.inv (fs:= [(2,.st 0),(8,.arr 8 (.int .u32)),(1,.int .i64),(1,.sl (.st 3)),(1,.sl (.st 8))]) h;obtain⟨a2,b2,e2,h2,l2,h⟩:=bE.inv (fs:= [(8,.arr 8 (.int .u32)),(1,.int .i64),(1,.sl (.st 3)),(1,.sl (.st 8))]) h;obtain⟨a3,b3,e3,h3,l3,h⟩:=bE.inv (fs:= [(1,.int .i64),(1,.sl (.st 3)),(1,.sl (.st 8))]) h;obtain⟨a4,b4,e4,h4,l4,h⟩:=bE.inv (fs:= [(1,.sl (.st 3)),(1,.sl (.st 8))]) h;obtain⟨a5,b5,e5,h5,l5,h⟩:=bE.inv (fs:= [(1,.sl (.st 8))]) h;have e6:b5= []:=bE.inv (fs:= []) h;obtain⟨z,rfl⟩: ∃z,a5= [z]:=by
  match a5,l5 with
  | [z],_=>exact⟨z,rfl⟩
 subst e6 e5 e4 e3 e2 e1;refine⟨a1++(a2++(a3++a4)),z,by simp only[List.append_assoc,List.append_nil],by simp only[List.length_append];omega,h5,fun ys h' hd=>?_⟩;rw[show a1++(a2++(a3++a4))++ [h']=a1++(a2++(a3++(a4++([h']++ []))))by simp only[List.append_assoc,List.append_nil]];refine aC.st 9 _ _ (.cons 2 (.st 0) _ _ _ _ _ h1 l1 (.cons 8 _ _ _ _ _ _ h2 l2 (.cons 1 _ _ _ _ _ _ h3 l3 (.cons 1 _ _ _ _ _ _ h4 l4 (@bE.cons U Y S 1 (.sl (.st 8)) [] (show TT U.ty (.sl (.st 8))from ys) () _ _ hd rfl .nil))))) ?_;show _=13
 simp only[List.length_append,List.length_cons,List.length_nil];omega
theorem xW{v1 v2 w1:List Value}{h z:Value}(e:v1++ [h]++v2=w1++ [z])(hl:v1.length=12)(hw:w1.length=12):v1=w1∧h=z∧v2= []:=by
 rw[List.append_assoc]at e;obtain⟨a,b⟩:=List.append_inj e (by omega);injection b with b c;exact⟨a,b,c⟩
def oC:DD U where
 e:= .st 9
 e2:= .st 8
 t2:=107
 of_:=12
 nest:=fun(x:al)=>x.looks
 repl:=fun(x:al) (ys:List bI)=>({x with looks:=ys}:al)
 sz:=by decide
 sz2:=by decide
 off:=by decide
 put:=fun{Y S x v1 v2 ys h} hd hl hy=>by
  obtain⟨w1,z,e,hw,_,hp⟩:=xV hd;obtain⟨rfl,-,rfl⟩:=xW e hl hw;rw[List.append_nil];exact hp ys h hy
 nil:=fun{Y S x v1 v2} hd hl=>by
  obtain⟨w1,z,e,hw,hz,_⟩:=xV hd;obtain⟨-,rfl,-⟩:=xW e hl hw;obtain⟨A,c,cs,e1,_⟩:=aC.inv (s:= .sl (.st 8)) hz;injection e1 with e1 _;injection e1 with _ e1 _;exact List.length_eq_zero_iff.1 e1.symm
 nr:=fun _ _=>rfl
 rr:=fun _ _ _=>rfl
 rn:=fun(x:al)=>by cases x;rfl
def N4:aW U:=⟨[.n],fun xs es K=> ∃(l:List al),xs= [⟨false,[(1,.d (.sl (.st 9)) l)]⟩]∧es= []∧(yT l)∧K (.v ⟨false,[(1,.own 0 0)]⟩) [.ext 0 (dB oC 110) (bt l) none]⟩
theorem RT:bh Tryz.prog U 21 N4:=by
 refine CI (fn:=Tryz.f21) [(69,.bsd oC),(70,.apx oC)] BJ bP (by kernel_rfl) Tryz.f21.ntmps [.n] [] (by kernel_rfl) (by kernel_rfl) rfl rfl (by kernel_rfl) (fun xs es K=>?_);rintro⟨l,rfl,rfl,hg,h⟩;refine⟨rfl,?_⟩;have hf0:=bt.eq_1 l;refine⟨Int×(List al),1,fun(s4,s3)=> [(0,.v ⟨false,[(1,.d (.sl (.st 9)) l)]⟩),(3,.v ⟨false,[(1,.own 0 0)]⟩),(4,.v ⟨false,[(1,.d (.int .i64) s4)]⟩)],fun(s4,s3)=> [(0,.ext 0 (dB oC 110) s3 none)],aN (fun(s4,s3)=>((↑l.length:Int)- s4).toNat) (fun(s4,s3)=>((0:Int)≤s4)∧(s4≤(↑l.length:Int))∧((s3.length:Int)≤s4)∧True) (fun n1 (s4,s3)=>gm l n1 s4 s3) (gm l (((↑l.length:Int)-(0:Int)).toNat+1) (0:Int) ([]:List al)),fun(s4,s3)=>((↑l.length:Int)- s4).toNat,⟨[],((0:Int),([]:List al)),aN.mk0 _ (Nat.lt_succ_self _) ⟨show(0:Int)≤(0:Int)from by omega,show(0:Int)≤(↑l.length:Int)from by omega,show(↑[].length:Int)≤(0:Int)from by(simp only[List.length_append,List.length_cons,List.length_nil];omega),trivial⟩ rfl,?_⟩,?_⟩
 ·repeat (first|exact trivial|refine And.intro rfl ?_)
 ·rintro⟨s4,s3⟩ ⟨n1,hc1,⟨hi1_0,hi1_1,hi1_2,-⟩,hf1⟩;have hf1:=hf1.trans (gm.eq_2 l s4 s3 n1);refine fun h0=>?_;have h0:(↑l.length:Int)≤(9223372036854775807:Int):=h0.2;refine vI hf1 iD (fun h1 hf1=>?_) (fun h1 hf1=>?_)
  ·refine .inr ⟨(.look 0 (.look 1 (.look 2 (.look 3 (.look 4 (.look 5 (.look 6 (.look 7 (.look 8 (.look 9 (.look 10 (.look 11 (.look 12 (.look 13 (.look 14 (.look 15 (.look 16 (.look 17 (.look 18 (.look 19 (.turn 20 (.look 21 (.turn 22 .fin .nil)) (.turn 22 (.turn 20 (.look 21 .fin) .nil) .nil)))))))))))))))))))))),some 23,[],2,[(0,.v ⟨false,[(1,.d (.sl (.st 9)) l)]⟩),(3,.v ⟨false,[(1,.own 0 0)]⟩),(4,.v ⟨false,[(1,.d (.int .i64) s4)]⟩),(5,.v ⟨false,[(1,.ptr 1 0)]⟩)],[(0,.ext 0 (dB oC 110) s3 none),(1,.cells [(2,.d (.st 0) ((ix l s4).id)),(8,.d (.arr 8 (.int .u32)) ((ix l s4).deps)),(1,.d (.int .i64) ((ix l s4).group)),(1,.d (.sl (.st 3)) (dO (ix l s4).ops)),(1,.nils)] 110)],True,by kernel_rfl,?_,?_⟩
   ·refine And.intro (show(0:Int)≤s4∧s4<(↑l.length:Int)from by omega) ?_;refine And.intro (show(0:Int)≤s4∧s4<(↑l.length:Int)from by omega) ?_;refine And.intro (show(0:Int)≤s4∧s4<(↑l.length:Int)from by omega) ?_;refine And.intro (show(0:Int)≤s4∧s4<(↑l.length:Int)from by omega) ?_;refine And.intro ?_ ?_
    ·refine⟨_,rfl,rfl,(nq hg (by omega) (by omega)),?_⟩;refine And.intro ?_ trivial;refine⟨trivial,[],?_⟩;repeat (first|exact trivial|refine And.intro rfl ?_)
    refine And.intro ?_ trivial;refine And.intro ?_ trivial;refine⟨_,rfl,rfl,(nq hg (by omega) (by omega)),?_⟩;refine⟨trivial,[],?_⟩;repeat (first|exact trivial|refine And.intro rfl ?_)
   refine fun _=>?_;refine⟨Int×(List bI),3,fun(s6,e2)=> [(0,.v ⟨false,[(1,.d (.sl (.st 9)) l)]⟩),(3,.v ⟨false,[(1,.own 0 0)]⟩),(4,.v ⟨false,[(1,.d (.int .i64) s4)]⟩),(5,.v ⟨false,[(1,.ptr 1 0)]⟩),(6,.v ⟨false,[(1,.d (.int .i64) s6)]⟩)],fun(s6,e2)=> [(0,.ext 0 (dB oC 110) s3 none),(1,.cells [(2,.d (.st 0) ((ix l s4).id)),(8,.d (.arr 8 (.int .u32)) ((ix l s4).deps)),(1,.d (.int .i64) ((ix l s4).group)),(1,.d (.sl (.st 3)) (dO (ix l s4).ops)),(1,.own 2 0)] 110),(2,.row 0 (.st 8) e2 107)],aN (fun(s6,e2)=>((↑(ix l s4).looks.length:Int)- s6).toNat) (fun(s6,e2)=>((0:Int)≤s6)∧(s6≤(↑(ix l s4).looks.length:Int))∧((e2.length:Int)≤s6)∧True) (fun n2 (s6,e2)=>gl l s4 s3 n2 s6 e2) (gl l s4 s3 (((↑(ix l s4).looks.length:Int)-(0:Int)).toNat+1) (0:Int) ([]:List bI)),fun(s6,e2)=>((↑(ix l s4).looks.length:Int)- s6).toNat,⟨[],((0:Int),([]:List bI)),aN.mk0 _ (Nat.lt_succ_self _) ⟨show(0:Int)≤(0:Int)from by omega,show(0:Int)≤(↑(ix l s4).looks.length:Int)from by omega,show(↑[].length:Int)≤(0:Int)from by(simp only[List.length_append,List.length_cons,List.length_nil];omega),trivial⟩ rfl,?_⟩,?_⟩
   ·repeat (first|exact trivial|refine And.intro rfl ?_)
   ·rintro⟨s6,e2⟩ ⟨n2,hc2,⟨hi2_0,hi2_1,hi2_2,-⟩,hf2⟩;have hf2:=hf2.trans (gl.eq_2 l s4 s3 s6 e2 n2);refine And.intro (show(0:Int)≤s4∧s4<(↑l.length:Int)from by omega) ?_;refine fun h2=>?_;have h2:(↑(ix l s4).looks.length:Int)≤(9223372036854775807:Int):=h2.2;refine vI hf2 iD (fun h3 hf2=>?_) (fun h3 hf2=>?_)
    ·refine And.intro (show(0:Int)≤s4∧s4<(↑l.length:Int)from by omega) ?_;refine And.intro (show(0:Int)≤s6∧s6<(↑(ix l s4).looks.length:Int)from by omega) ?_;refine .inl ⟨[(true,0),(true,1),(true,2),(true,3),(true,4),(true,5),(true,6),(true,7),(false,8),(true,9),(false,10),(false,11),(true,12)],some 13,[2,4,5,6,7,8,9,10,11,12,13,14,15],by kernel_rfl,?_⟩;refine⟨_,rfl,rfl,(qr hg (by omega) (by omega) (by omega) (by omega)),?_⟩;refine And.intro (show(e2.length+ [bI.mk (ix (ix l s4).looks s6).key (ix (ix l s4).looks s6).n (du (ix (ix l s4).looks s6).v)].length)*(64:Nat)≤(140737488355328:Nat)from by(have hz:=qp hg (show 0≤s4 by omega) (by omega);(try simp only[List.length_append,List.length_cons,List.length_nil]);omega)) ?_;refine .inl (And.intro (jc (p:=s6) (q:=(1:Int)) (r:=s6+(1:Int)) (by omega)) ?_);have hm2:((↑(ix l s4).looks.length:Int)-(s6+(1:Int))).toNat<((↑(ix l s4).looks.length:Int)- s6).toNat:=by omega
     refine⟨[],(s6+(1:Int),e2++ [bI.mk (ix (ix l s4).looks s6).key (ix (ix l s4).looks s6).n (du (ix (ix l s4).looks s6).v)]),hm2,aN.next (s:=(s6,e2)) hc2 hm2 ⟨show(0:Int)≤s6+(1:Int)from by omega,show s6+(1:Int)≤(↑(ix l s4).looks.length:Int)from by omega,show(↑(e2++ [bI.mk (ix (ix l s4).looks s6).key (ix (ix l s4).looks s6).n (du (ix (ix l s4).looks s6).v)]).length:Int)≤s6+(1:Int)from by(simp only[List.length_append,List.length_cons,List.length_nil];omega),trivial⟩ hf2,?_⟩;repeat (first|exact trivial|refine And.intro rfl ?_)
    ·rw[hf2]at hf1;refine⟨_,_,rfl,rfl,?_⟩;refine And.intro (show(s3.length+ [al.mk (ix l s4).id (ix l s4).deps (ix l s4).group (dO (ix l s4).ops) e2].length)*(104:Nat)≤(140737488355328:Nat)from by(have hq:=hg.1;(try simp only[List.length_append,List.length_cons,List.length_nil]);omega)) ?_;refine .inl (And.intro (jc (p:=s4) (q:=(1:Int)) (r:=s4+(1:Int)) (by omega)) ?_);have hm1:((↑l.length:Int)-(s4+(1:Int))).toNat<((↑l.length:Int)- s4).toNat:=by omega
     refine⟨[],(s4+(1:Int),s3++ [al.mk (ix l s4).id (ix l s4).deps (ix l s4).group (dO (ix l s4).ops) e2]),hm1,aN.next (s:=(s4,s3)) hc1 hm1 ⟨show(0:Int)≤s4+(1:Int)from by omega,show s4+(1:Int)≤(↑l.length:Int)from by omega,show(↑(s3++ [al.mk (ix l s4).id (ix l s4).deps (ix l s4).group (dO (ix l s4).ops) e2]).length:Int)≤s4+(1:Int)from by(simp only[List.length_append,List.length_cons,List.length_nil];omega),trivial⟩ hf1,?_⟩;repeat (first|exact trivial|refine And.intro rfl ?_)
  ·rw[hf1]at hf0;rw[hf0]at h;exact h
end Go.Proofs.YtmpeiadlohbikaaGreatDoor.V
end

section
set_option linter.unusedVariables false
set_option linter.unusedSimpArgs false
namespace Go.Proofs.YtmpeiadlohbikaaGreatDoor.V
open Go.RowKit Go.Shelf Go.Lib Go.Sort
def Er(x y:al):Prop:=x.id=y.id∧x.deps=y.deps∧x.group=y.group∧x.ops=y.ops
structure xX(m m2:List al):Prop where
 len:m2.length=m.length
 e: ∀s,Er (ix m2 s) (ix m s)
variable {m m2:List al}
theorem J5(E:xX m m2):dI m2=dI m:=by
 have key: ∀n s e,dX m2 n s e=dX m n s e:=by
  intro n;induction n with
  |zero=>intro s e;rfl
  |succ n ih=>intro s e;rw[dX,dX,E.len,(E.e s).1,ih,ih]
 unfold dI;rw[key,E.len]
theorem qu(E:xX m m2){x y:al}(h:Er y x):dD y m2=dD x m:=by
 have key: ∀n s,cy y m2 n s=cy x m n s:=by
  intro n;induction n with
  |zero=>intro s;rfl
  |succ n ih=>intro s;rw[cy,cy,E.len,(E.e s).1,(E.e s).2.1,h.2.1,ih]
 unfold dD;rw[key,E.len]
theorem Cz{x y:al}(h:Er y x):eQ y=eQ x:=by
 have key: ∀n s,dJ y n s=dJ x n s:=by
  intro n;induction n with
  |zero=>intro s;rfl
  |succ n ih=>intro s;rw[dJ,dJ,h.1,h.2.1,h.2.2.2,ih]
 unfold eQ;rw[key,h.2.2.2]
theorem rK(E:xX m m2){pl pl':List (bC×Int)}{x y:al}(h:Er y x): ∀n s e,cL m2 pl y n s e=cL m pl' x n s e:=by
 intro n;induction n with
 |zero=>intro s e;rfl
 |succ n ih=>intro s e;rw[cL,cL,E.len,(E.e s).1,(E.e s).2.2.2,h.2.1,ih,ih]
theorem xY(r:List al)(s:Int):(ix r s).deps=ix (r.map (·.deps)) s:=by
 unfold ix;rw[List.getElem?_map];cases r[s.toNat]? <;>rfl
theorem CA(E:xX m m2){pl:List (bC×Int)}{x y:al}(h:Er y x)(o:Int): ∀n s (l l2:List al),l2.map (·.deps)=l.map (·.deps)→
  (∃a,cC m pl x o n s l= .inl (.inl a)∧cC m2 pl y o n s l2= .inl (.inl a))∨ ∃q r r2,cC m pl x o n s l= .inr (q,r)∧cC m2 pl y o n s l2= .inr (q,r2)∧r2.map (·.deps)=r.map (·.deps):=by
 intro n;induction n with
 |zero=>intro s l l2 hl;exact .inr ⟨_,_,_,rfl,rfl,hl⟩
 |succ n ih=>
  intro s l l2 hl;rw[cC,cC,h.2.1];by_cases h1:s≤ix x.deps o
  ·rw[if_pos h1,if_pos h1];by_cases h2:(bO pl (bC.mk o s)).isSome=true
   ·rw[if_pos h2,if_pos h2];refine ih _ _ _ ?_;rw[List.map_append,List.map_append,hl,List.map_cons,List.map_cons,(E.e _).2.1]
   ·rw[if_neg h2,if_neg h2];exact .inl ⟨_,rfl,rfl⟩
  ·rw[if_neg h1,if_neg h1];exact .inr ⟨_,_,_,rfl,rfl,hl⟩
theorem CB(E:xX m m2){pl:List (bC×Int)}{x y:al}(h:Er y x): ∀n o (l l2:List al),l2.map (·.deps)=l.map (·.deps)→
  (∃a,cF m pl x n o l= .inl (.inl a)∧cF m2 pl y n o l2= .inl (.inl a))∨ ∃q r r2,cF m pl x n o l= .inr (q,r)∧cF m2 pl y n o l2= .inr (q,r2)∧r2.map (·.deps)=r.map (·.deps):=by
 intro n;induction n with
 |zero=>intro s l l2 hl;exact .inr ⟨_,_,_,rfl,rfl,hl⟩
 |succ n ih=>
  intro o l l2 hl;rw[cF,cF,h.2.1,E.len];by_cases h1:o<(8:Int)
  ·rw[if_pos h1,if_pos h1];by_cases h2:ix x.deps o≤(↑m.length:Int)
   ·rw[if_pos h2,if_pos h2];rcases CA E (pl:=pl) h o ((ix x.deps o+(1:Int)-(1:Int)).toNat+1) 1 l l2 hl with⟨a,e1,e2⟩|⟨q,r,r2,e1,e2,hr⟩
    ·rw[e1,e2];exact .inl ⟨_,rfl,rfl⟩
    ·rw[e1,e2];exact ih _ _ _ hr
   ·rw[if_neg h2,if_neg h2];exact .inl ⟨_,rfl,rfl⟩
  ·rw[if_neg h1,if_neg h1];exact .inr ⟨_,_,_,rfl,rfl,hl⟩
theorem CC(E:xX m m2){pl:List (bC×Int)}{x y:al}(h:Er y x):(∃a,dR m pl x= .inl a∧dR m2 pl y= .inl a)∨ ∃r r2,dR m pl x= .inr r∧dR m2 pl y= .inr r2∧r2.map (·.deps)=r.map (·.deps):=by
 unfold dR;rcases CB E (pl:=pl) h (((8:Int)-(0:Int)).toNat+1) 0 [] [] rfl with⟨a,e1,e2⟩|⟨q,r,r2,e1,e2,hr⟩
 ·rw[e1,e2];exact .inl ⟨_,rfl,rfl⟩
 ·rw[e1,e2];exact .inr ⟨_,_,rfl,rfl,hr⟩
theorem u6(E:xX m m2){pl:List (bC×Int)}{a:Int}{r r2:List al}(hr:r2.map (·.deps)=r.map (·.deps)): ∀n s,dt m2 pl a r2 n s=dt m pl a r n s:=by
 have hl:r2.length=r.length:=by simpa using congrArg List.length hr
 intro n;induction n with
 |zero=>intro s;rfl
 |succ n ih=>intro s;rw[dt,dt,hl,xY r2 s,hr,←xY r s,(E.e a).2.1,ih]
theorem xX.take(E:xX m m2)(n:Nat):xX (m.take n) (m2.take n):=by
 refine⟨by rw[List.length_take,List.length_take,E.len],fun s=>?_⟩;have h:=E.e s;unfold ix at h⊢;rw[List.getElem?_take,List.getElem?_take];by_cases hs:s.toNat<n
 ·rw[if_pos hs,if_pos hs];exact h
 ·rw[if_neg hs,if_neg hs];exact⟨rfl,rfl,rfl,rfl⟩
theorem CD{x y x' y':al}(h:Er x' x)(h2:Er y' y):fY x' y'=fY x y:=by
 unfold fY;rw[h.1,h.2.1,h2.1,h2.2.1]
theorem yY{x y x' y':al}(h:Er x' x)(h2:Er y' y):fe x' y'=fe x y:=by
 unfold fe fJ;rw[h.2.2.2,h2.2.2.2]
theorem CE(E:xX m m2){pl:List (bC×Int)}{a:Int}: ∀n s,eG m2 pl a n s=eG m pl a n s:=by
 have hl:(m2.take a.toNat).length=(m.take a.toNat).length:=(E.take _).len;intro n;induction n with
 |zero=>intro s;rfl
 |succ n ih=>intro s;rw[eG,eG,hl,(E.e a).2.2.1,((E.take a.toNat).e s).2.2.1,CD (E.e a) ((E.take a.toNat).e s),yY (E.e a) ((E.take a.toNat).e s),ih]
theorem J6(E:xX m m2){pl:List (bC×Int)}{a:Int}(hx:ix m2 a=ix m a):cQ m2 pl a=cQ m pl a:=by
 have er:Er (ix m a) (ix m a):=⟨rfl,rfl,rfl,rfl⟩;have hreads:cZ m2 pl (ix m a)=cZ m pl (ix m a):=by
  unfold cZ;rw[rK E (pl:=pl) (pl':=pl) er,E.len]
 have hl:(m2.take a.toNat).length=(m.take a.toNat).length:=(E.take _).len;unfold cQ;rw[hx];rcases CC E (pl:=pl) er with⟨z,e1,e2⟩|⟨r,r2,e1,e2,hr⟩
 ·rw[e1,e2]
 ·rw[e1,e2];dsimp only;have hl2:r2.length=r.length:=by simpa using congrArg List.length hr
  rw[u6 E (pl:=pl) (a:=a) hr,hl2,qu E er,hreads,CE E,hl]
theorem yZ{x:al}{z:Int}(h:dD x m= .inl z): ¬z=0:=by
 have key: ∀n s r,cy x m n s= .inl r→r= .inl 5:=by
  intro n;induction n with
  |zero=>intro s r h;cases h
  |succ n ih=>
   intro s r h;rw[cy]at h;split at h
   ·split at h
    ·exact ih _ _ h
    ·injection h with h;exact h.symm
   ·cases h
 unfold dD at h;split at h
 ·rename_i r hr;rw[key _ _ _ hr]at h;injection h with h;subst h;decide
 ·cases h
theorem F4{x:al}{z:Int}(h:eQ x= .inl z): ¬z=0:=by
 have key: ∀n s r,dJ x n s= .inl r→r= .inl 6:=by
  intro n;induction n with
  |zero=>intro s r h;cases h
  |succ n ih=>
   intro s r h;rw[dJ]at h;split at h
   ·split at h
    ·split at h
     ·exact ih _ _ h
     ·injection h with h;exact h.symm
    ·injection h with h;exact h.symm
   ·cases h
 unfold eQ at h;split at h
 ·rename_i r hr;rw[key _ _ _ hr]at h;injection h with h;subst h;decide
 ·cases h
theorem oD(pl:List (bC×Int))(x:al): ∀n s e,∃q r,cL m pl x n s e= .inr (q,r):=by
 intro n;induction n with
 |zero=>intro s e;exact⟨_,_,rfl⟩
 |succ n ih=>
  intro s e;rw[cL];split
  ·split
   ·exact ih _ _
   ·exact ih _ _
  ·exact⟨_,_,rfl⟩
theorem lV{pl:List (bC×Int)}{x:al}(e:List ak): ∀n s r,cK pl x e n s= .inl r→r= .inl 7:=by
 intro n;induction n with
 |zero=>intro s r h;cases h
 |succ n ih=>
  intro s r h;rw[cK]at h;split at h
  ·split at h
   ·split at h
    ·exact ih _ _ h
    ·injection h with h;exact h.symm
   ·injection h with h;exact h.symm
  ·cases h
theorem u7{pl:List (bC×Int)}{x:al}{e:List ak}{n:Nat}{s:Int}{r:Int⊕Unit}{u:Unit}(h:cK pl x e n s= .inl r): ¬r= .inr u:=by
 rw[lV e n s r h];exact fun h=>by cases h
theorem CF{pl:List (bC×Int)}{x:al}{z:Int}(h:cZ m pl x= .inl z): ¬z=0:=by
 obtain⟨q,r,h1⟩:=oD (m:=m) pl x (((↑m.length:Int)-(0:Int)).toNat+1) 0 [];unfold cZ at h;rw[h1]at h;dsimp only at h;split at h
 ·rename_i r hr;rw[lV _ _ _ _ hr]at h;injection h with h;subst h;decide
 ·cases h
theorem CG(E:xX m m2){pl:List (bC×Int)}{a:Int}(h0:cQ m pl a=0)(hbad: ∀u,cZ m pl (ix m a)= .inr u→cZ m2 pl (ix m2 a)= .inl 7):cQ m2 pl a=7:=by
 have er:=E.e a;unfold cQ at h0⊢;rw[er.1,er.2.1];split at h0
 ·rename_i h1;rw[if_pos h1];split at h0
  ·rename_i h2;rw[if_pos h2];split at h0
   ·rename_i h3;rw[if_pos h3];rcases CC E (pl:=pl) er with⟨z,e1,e2⟩|⟨r,r2,e1,e2,hr⟩
    ·rw[e1]at h0;rcases ot m pl (ix m a)with⟨_,e3,_⟩|e3
     ·rw[e1]at e3;cases e3
     ·rw[e1]at e3;injection e3 with e3;subst e3;cases h0
    ·rw[e1]at h0;rw[e2];dsimp only at h0⊢;have hl2:r2.length=r.length:=by simpa using congrArg List.length hr
     rw[u6 E (pl:=pl) (a:=a) hr,hl2];rcases nZ m pl a r (((↑r.length:Int)-(0:Int)).toNat+1) 0 (by omega) (by omega)with⟨q,h6,_⟩|h6
     ·rw[h6]at h0⊢;dsimp only at h0⊢;rw[qu E er,Cz er];generalize hc:dD (ix m a) m=c at h0⊢;cases c with
      |inl z=>dsimp only at h0;exact absurd h0 (yZ hc)
      |inr _=>
       dsimp only at h0⊢;generalize hd:eQ (ix m a)=d at h0⊢;cases d with
       |inl z=>dsimp only at h0;exact absurd h0 (F4 hd)
       |inr _=>
        dsimp only at h0⊢;generalize hr0:cZ m pl (ix m a)=rr at h0;cases rr with
        |inl z=>dsimp only at h0;exact absurd h0 (CF hr0)
        |inr u=>rw[hbad u hr0]
     ·rw[h6]at h0;cases h0
   ·cases h0
  ·cases h0
 ·cases h0
end Go.Proofs.YtmpeiadlohbikaaGreatDoor.V
end

section
set_option linter.unusedVariables false
set_option linter.unusedSimpArgs false
namespace Go.Proofs.YtmpeiadlohbikaaGreatDoor.V
open Go.RowKit Go.Shelf Go.Lib Go.Sort
theorem J7{α:Type} [Inhabited α]{a b:List α}(hl:a.length=b.length)(h: ∀j:Int,0≤j→j<a.length→ix a j=ix b j):a=b:=by
 refine List.ext_getElem hl fun n h1 h2=>?_;have:=h (n:Int) (by omega) (by omega);unfold ix at this;simpa[List.getElem?_eq_getElem h1,List.getElem?_eq_getElem h2]using this
theorem tt{a b:List ar}(h:gK a b=true):a=b:=by
 have key: ∀n s,0≤s→((a.length:Int)- s).toNat<n→(∃q,dz a b n s= .inr q∧ ∀j:Int,s≤j→j<a.length→ix a j=ix b j)∨dz a b n s= .inl false:=by
  intro n;induction n with
  |zero=>intro s _ h;exact absurd h (Nat.not_lt_zero _)
  |succ n ih=>
   intro s h0 hn;rw[dz];split
   ·split
    ·rename_i h1 h2;rcases ih (s+1) (by omega) (by omega)with⟨q,h3,h4⟩|h3
     ·refine .inl ⟨q,h3,fun j hj hl=>?_⟩;by_cases e:s=j
      ·subst e;exact h2
      ·exact h4 j (by omega) hl
     ·exact .inr h3
    ·exact .inr rfl
   ·exact .inl ⟨_,rfl,fun j hj hl=>by omega⟩
 unfold gK at h;split at h
 ·rename_i hl;refine J7 (by omega) ?_;rcases key (((↑a.length:Int)-(0:Int)).toNat+1) 0 (by omega) (by omega)with⟨q,h1,h2⟩|h1
  ·exact fun j h3 h4=>h2 j h3 h4
  ·rw[h1]at h;cases h
 ·cases h
theorem rL{a b:aB}(h:kP a b=true):a=b:=by
 unfold kP at h;simp only[Bool.and_eq_true,decide_eq_true_eq]at h;obtain⟨⟨h1,h2⟩,h3⟩:=h;have h3:=tt h3;cases a;cases b;simp only at h1 h2 h3;rw[h1,h2,h3]
variable {l m2:List al}
theorem rM{α:Type} [Inhabited α]{l:List α}{k:Int}{x:α}(h0:0≤k)(h1:k<l.length):ix (l.set k.toNat x) k=x:=by
 unfold ix;rw[List.getElem?_set_self (by omega)];rfl
theorem oc{α:Type} [Inhabited α]{l:List α}{k j:Int}{x:α}(h: ¬k.toNat=j.toNat):ix (l.set k.toNat x) j=ix l j:=by
 unfold ix;rw[List.getElem?_set_ne h]
theorem u9{pl:List (bC×Int)}{x:al}{i:Int}{W:aB}(i0:0≤i)(i1:i<x.looks.length)(hW: ¬W=(ix x.looks i).v)(e:List ak):
  ∀n s q,0≤s→s≤i→((x.looks.length:Int)- s).toNat<n→cK pl x e n s= .inr q→cK pl ({x with looks:=x.looks.set i.toNat (bI.mk (ix x.looks i).key (ix x.looks i).n W)}:al) e n s= .inl (.inl 7):=by
 intro n;induction n with
 |zero=>intro s q _ _ h;exact absurd h (Nat.not_lt_zero _)
 |succ n ih=>
  intro s q h0 hs hn h;rw[cK]at h⊢;dsimp only;rw[List.length_set,if_pos (by omega)];rw[if_pos (by omega)]at h;by_cases hsi:s=i
  ·subst hsi;rw[rM i0 i1];dsimp only;split at h
   ·rename_i h1;rw[if_pos h1];split at h
    ·rename_i h2;rw[if_neg];rintro⟨h3,h4⟩;exact hW ((rL h4).symm.trans (rL h2.2))
    ·cases h
   ·cases h
  ·rw[oc (by omega)];split at h
   ·rename_i h1;rw[if_pos h1];split at h
    ·rename_i h2;rw[if_pos h2];exact ih _ _ (by omega) (by omega) (by omega) h
    ·cases h
   ·cases h
theorem wq{k i:Int}{W:aB}(h:(br l).2=0)(k0:0≤k)(k1:k<l.length)(i0:0≤i)(i1:i<(ix l k).looks.length)(hW: ¬W=(ix (ix l k).looks i).v):
  br (l.set k.toNat ({ix l k with looks:=(ix l k).looks.set i.toNat (bI.mk (ix (ix l k).looks i).key (ix (ix l k).looks i).n W)}:al))=(k,7):=by
 obtain⟨hl,hr⟩:=pR h;generalize hy:({ix l k with looks:=(ix l k).looks.set i.toNat (bI.mk (ix (ix l k).looks i).key (ix (ix l k).looks i).n W)}:al)=y;have hey:Er y (ix l k):=by subst hy;exact⟨rfl,rfl,rfl,rfl⟩
 have hk:ix (l.set k.toNat y) k=y:=rM k0 k1;have E:xX l (l.set k.toNat y):=⟨by rw[List.length_set],fun s=>by
  by_cases e:k.toNat=s.toNat
  ·have:ix (l.set k.toNat y) s=ix (l.set k.toNat y) k:=by unfold ix;rw[e]
   rw[this,hk];have:ix l s=ix l k:=by unfold ix;rw[e]
   rw[this];exact hey
  ·rw[oc e];exact⟨rfl,rfl,rfl,rfl⟩⟩
 have hbad:cQ (l.set k.toNat y) (dI l) k=7:=by
  refine CG E (hr k k0 k1) fun u hu=>?_;rw[hk];unfold cZ at hu⊢;rw[rK E (pl:=dI l) (pl':=dI l) hey,E.len];obtain⟨q,r,h1⟩:=oD (m:=l) (dI l) (ix l k) (((↑l.length:Int)-(0:Int)).toNat+1) 0 [];rw[h1]at hu⊢;dsimp only at hu⊢;have hyl:y.looks.length=(ix l k).looks.length:=by subst hy;exact List.length_set
  rw[hyl];cases h2:cK (dI l) (ix l k) r (((↑(ix l k).looks.length:Int)-(0:Int)).toNat+1) 0 with
  |inl z=>
   rw[h2]at hu;dsimp only at hu;exact absurd hu (u7 h2)
  |inr q2=>
   rw[←hy,u9 i0 i1 hW r _ 0 q2 (by omega) i0 (by omega) h2]
 have key: ∀n s,0≤s→s≤k→((l.length:Int)- s).toNat<n→dE (l.set k.toNat y) n s= .inl (k,7):=by
  intro n;induction n with
  |zero=>intro s _ _ h;exact absurd h (Nat.not_lt_zero _)
  |succ n ih=>
   intro s h0 hs hn;rw[dE,List.length_set,if_pos (by omega),J5 E];by_cases e:s=k
   ·subst e;rw[hbad,if_neg (by decide)]
   ·rw[J6 E (oc (by omega)),hr s h0 (by omega),if_pos rfl];exact ih _ (by omega) (by omega) (by omega)
 unfold br;rw[List.length_set,if_neg (by omega),key _ 0 (by omega) k0 (by omega)]
end Go.Proofs.YtmpeiadlohbikaaGreatDoor.V
end

section
set_option linter.unusedVariables false
set_option linter.unusedSimpArgs false
set_option maxRecDepth 20000
set_option maxHeartbeats 4000000
namespace Go.Proofs.YtmpeiadlohbikaaGreatDoor.V
open Go.RowKit
theorem qv(a:List ar):gC a a=true:=by
 have key: ∀n s,∃q,dL a a n s= .inr q:=by
  intro n;induction n with
  |zero=>intro s;exact⟨_,rfl⟩
  |succ n ih=>
   intro s;rw[dL];split
   ·rw[if_pos rfl];exact ih _
   ·exact⟨_,rfl⟩
 obtain⟨q,h⟩:=key (((↑a.length:Int)-(0:Int)).toNat+1) 0;unfold gC;rw[if_pos rfl,h]
theorem qw(v:aB):gD v v=true:=by
 unfold gD;rw[qv];simp
theorem J8{p:Int×Int}{k:Int}(h:p=(k,7)):(decide (p.1=k)&&decide (p.2=7))=true:=by subst h;simp
theorem y0{l:List al}{k i:Int}{W:aB}(h: ∀y∈l,iF y)(k0:0≤k)(k1:k<l.length)(i0:0≤i)(i1:i<(ix l k).looks.length):
  ∀y∈l.set k.toNat ({ix l k with looks:=(ix l k).looks.set i.toNat (bI.mk (ix (ix l k).looks i).key (ix (ix l k).looks i).n W)}:al),iF y:=fun y hy=>by
 rcases List.mem_or_eq_of_mem_set hy with hy|rfl
 ·exact h y hy
 ·obtain⟨h1,h2,h3⟩:=h _ (gI l k0 k1);refine⟨h1,h2,fun p hp=>?_⟩;rcases List.mem_or_eq_of_mem_set hp with hp|rfl
  ·exact h3 p hp
  ·have h4:=h3 (ix (ix l k).looks i) (gI _ i0 i1);exact h4
def g5:c6 U:= [(18,Ry),(19,Rx),(21,N4),(24,OF),(14,R7),(25,Rw)]
theorem N5:bi Tryz.prog U g5:=aa Fh (aa y8 (aa RT (aa MN (aa AO (aa OG (ah))))))
def c5:aW U:=⟨[.d (.sl (.st 9)),.n,.n,.d (.st 7)],fun xs es K=> ∃(l:List al) (a b:Int) (v:aB),xs= [⟨false,[(1,.d (.sl (.st 9)) l)]⟩,⟨false,[(1,.d (.int .i64) a)]⟩,⟨false,[(1,.d (.int .i64) b)]⟩,⟨true,[(3,.d (.st 7) v)]⟩]∧es= []∧jw=true∧K (.v ⟨false,[(1,.d .bool true)]⟩) []⟩
theorem k5:bh Tryz.prog U 5 c5:=by
 refine CI (fn:=Tryz.f5) [(13,.opn oC 9 12),(89,.cls oC 9),(35,.pcl),(90,.pcl)] N5 bP (by kernel_rfl) Tryz.f5.ntmps [.d .bool] [] (by kernel_rfl) (by kernel_rfl) rfl rfl (by kernel_rfl) (fun xs es K=>?_);rintro⟨l,a,b,v,rfl,rfl,hw,h⟩;refine⟨rfl,?_⟩;refine⟨rfl,rfl,?_⟩;refine⟨fun h0=>?_,fun h0=>?_⟩
 ·rw[hw]at h0;cases h0
 ·refine⟨_,rfl,rfl,?_⟩;refine⟨fun h1=>?_,fun h1=>?_⟩
  ·exact h
  ·simp only[Bool.or_eq_false_iff,decide_eq_false_iff_not]at h1;have hg: ¬ff l=true:=by rw[h1.1.1];exact fun h=>by cases h
   have hv:v.items.length≤100:=by have h6: ¬(100:Int)<(v.items.length:Int):=h1.1.2;omega
   have hl0:0<l.length:=by have h6: ¬(l.length:Int)=0:=h1.2;omega
   refine⟨_,rfl,rfl,(uB hg),?_⟩;refine⟨_,rfl,rfl,(n4 hg),?_⟩;refine⟨rfl,?_⟩;refine .inr ?_;refine fun h2=>?_;have hm:(↑l.length:Int)≤9223372036854775807:=h2.2;refine .inl (And.intro ?_ ?_)
   ·exact fun _=>(show 0≤(↑l.length:Int)∧(↑l.length:Int)≤18446744073709551615 from⟨by omega,by omega⟩)
   refine And.intro ?_ ?_
   ·exact fun _ _=>(show 0≤a%18446744073709551616∧0<(↑l.length:Int)from⟨by omega,by omega⟩)
   have k0:0≤a%18446744073709551616%(↑l.length:Int):=Int.emod_nonneg _ (by omega);have k1:a%18446744073709551616%(↑l.length:Int)<(↑l.length:Int):=Int.emod_lt_of_pos _ (by omega);refine .inl (And.intro ?_ ?_)
   ·exact fun _=>(show -9223372036854775808≤a%18446744073709551616%(↑l.length:Int)∧a%18446744073709551616%(↑l.length:Int)≤9223372036854775807 from⟨by omega,by omega⟩)
   refine And.intro (fun _=>(show 0≤(a%18446744073709551616%(↑l.length:Int))∧(a%18446744073709551616%(↑l.length:Int))<(↑l.length:Int)from⟨k0,k1⟩)) ?_;refine⟨fun h3=>?_,fun h3=>?_⟩
   ·exact h
   simp only[Bool.or_eq_false_iff,decide_eq_false_iff_not,Classical.not_not]at h3;have hl1:0<(ix l (a%18446744073709551616%(↑l.length:Int))).looks.length:=by have h6: ¬((ix l (a%18446744073709551616%(↑l.length:Int))).looks.length:Int)=0:=h3.2;omega
   refine .inr ?_;refine And.intro (show 0≤(a%18446744073709551616%(↑l.length:Int))∧(a%18446744073709551616%(↑l.length:Int))<(↑l.length:Int)from⟨k0,k1⟩) ?_;refine fun h4=>?_;have hm2:(↑(ix l (a%18446744073709551616%(↑l.length:Int))).looks.length:Int)≤9223372036854775807:=h4.2;refine .inl (And.intro ?_ ?_)
   ·exact fun _=>(show 0≤(↑(ix l (a%18446744073709551616%(↑l.length:Int))).looks.length:Int)∧(↑(ix l (a%18446744073709551616%(↑l.length:Int))).looks.length:Int)≤18446744073709551615 from⟨by omega,by omega⟩)
   refine And.intro ?_ ?_
   ·exact fun _ _=>(show 0≤b%18446744073709551616∧0<(↑(ix l (a%18446744073709551616%(↑l.length:Int))).looks.length:Int)from⟨by omega,by omega⟩)
   have i0:0≤(b%18446744073709551616%(↑(ix l (a%18446744073709551616%(↑l.length:Int))).looks.length:Int)):=Int.emod_nonneg _ (by omega);have i1:(b%18446744073709551616%(↑(ix l (a%18446744073709551616%(↑l.length:Int))).looks.length:Int))<(↑(ix l (a%18446744073709551616%(↑l.length:Int))).looks.length:Int):=Int.emod_lt_of_pos _ (by omega);refine .inl (And.intro ?_ ?_)
   ·exact fun _=>(show -9223372036854775808≤(b%18446744073709551616%(↑(ix l (a%18446744073709551616%(↑l.length:Int))).looks.length:Int))∧(b%18446744073709551616%(↑(ix l (a%18446744073709551616%(↑l.length:Int))).looks.length:Int))≤9223372036854775807 from⟨by omega,by omega⟩)
   refine⟨_,_,rfl,And.intro (show 0≤(a%18446744073709551616%(↑l.length:Int))∧(a%18446744073709551616%(↑l.length:Int))<((bt l).length:Int)from by rw[kL];exact⟨k0,k1⟩) ?_⟩;refine .inl ⟨[(true,0),(true,1),(true,2),(true,3),(true,4),(true,5),(true,6),(true,7),(true,8),(true,9)],some 10,[50],by kernel_rfl,?_⟩;refine And.intro (show 0≤(a%18446744073709551616%(↑l.length:Int))∧(a%18446744073709551616%(↑l.length:Int))<(↑l.length:Int)from⟨k0,k1⟩) ?_;refine And.intro (show 0≤(b%18446744073709551616%(↑(ix l (a%18446744073709551616%(↑l.length:Int))).looks.length:Int))∧(b%18446744073709551616%(↑(ix l (a%18446744073709551616%(↑l.length:Int))).looks.length:Int))<(↑(ix l (a%18446744073709551616%(↑l.length:Int))).looks.length:Int)from⟨i0,i1⟩) ?_;refine⟨_,_,rfl,rfl,?_⟩;refine⟨fun h5=>?_,fun h5=>?_⟩
   ·exact h
   refine .inl ⟨[(true,0),(true,1),(true,2),(true,3),(true,4),(true,5),(true,6),(false,7),(true,8),(true,9)],some 10,[5,6,7,8],by kernel_rfl,?_⟩;refine And.intro (show 0≤(a%18446744073709551616%(↑l.length:Int))∧(a%18446744073709551616%(↑l.length:Int))<((bt l).length:Int)from by rw[kL];exact⟨k0,k1⟩) ?_;refine And.intro rfl ?_;refine⟨_,rfl,rfl,by omega,?_⟩;refine And.intro (show 0≤(b%18446744073709551616%(↑(ix l (a%18446744073709551616%(↑l.length:Int))).looks.length:Int))∧(b%18446744073709551616%(↑(ix l (a%18446744073709551616%(↑l.length:Int))).looks.length:Int))<((ix (bt l) (a%18446744073709551616%(↑l.length:Int))).looks.length:Int)from by rw[kL];exact⟨i0,i1⟩) ?_;refine⟨_,_,rfl,?_⟩;refine⟨_,rfl,rfl,?_,?_⟩
   ·rw[kL]at*;exact y0 (by have:=n4 hg;rwa [kL]at this) k0 k1 i0 i1
   refine⟨rfl,?_⟩;have hx: ∀x:Bool,x=true→K (.v ⟨false,[(1,.d .bool x)]⟩) []:=fun x hx=>by rw[hx];exact h
   refine hx _ ?_;have hW: ¬v=(ix (ix l (a%18446744073709551616%(↑l.length:Int))).looks (b%18446744073709551616%(↑(ix l (a%18446744073709551616%(↑l.length:Int))).looks.length:Int))).v:=fun e=>by have h6:gD v (ix (ix l (a%18446744073709551616%(↑l.length:Int))).looks (b%18446744073709551616%(↑(ix l (a%18446744073709551616%(↑l.length:Int))).looks.length:Int))).v=false:=h5;rw[←e,qw]at h6;cases h6
   have hf:(br l).2=0:=by have:=h3.1;rwa [kL]at this
   rw[kL,ru];exact J8 (wq hf k0 k1 i0 i1 hW)
end Go.Proofs.YtmpeiadlohbikaaGreatDoor.V
end

section
namespace Go.Proofs.YtmpeiadlohbikaaGreatDoor
open Go.ChangeShapes Go.WideShapes Go.ChangeAt Go.RowKit Go.Joins
theorem Tryz.own':ownKnob Tryz.prog.godebug=none:=by kernel_rfl
theorem Tryz.laidOut':laidOutB Tryz.prog=true:=by kernel_rfl
def pE(P:Program)(ts:List TypeId):Bool:=ts.all fun t=>P.readableRec t&&decide (t<P.types.size)
theorem lR{H:Type}{enc:TypeId×Value→H}{P:Program}(hl:laidOutB P=true){W W':World}(hb:Below W.heap.size W W'):
  ∀(ts:List TypeId) (vs:List Value) (ds:List (DataW H)) (ps:List MemPlace),pE P ts=true→DataW.TrodAll enc P W 0 (fun _=>true) true ts vs ds ps→(∀x∈ps,x.block<W.heap.size)→
   DataW.TrodAll enc P W' 0 (fun b=>decide (b<W.heap.size)) true ts vs ds ps
 | [],_,_,_,_,h,_=>by
  obtain⟨rfl,rfl,rfl⟩:=trodAll_nil h;exact trodAll_mk0
 |t::ts,_,_,_,hr,h,hlt=>by
  obtain⟨v,vs,d,ds,p,q,rfl,rfl,rfl,h0,h1⟩:=trodAll_cons h;simp only[pE,List.all_cons,Bool.and_eq_true,decide_eq_true_eq]at hr;exact trodAll_cons_mk (Below.trod hl hr.1.1 hr.1.2 h0 hb fun x hx=>hlt x (List.mem_append_left _ hx))
   (lR hl hb ts vs ds q (by unfold pE;simpa using hr.2) h1 fun x hx=>hlt x (List.mem_append_right _ hx))
theorem AJ{H:Type}{enc:TypeId×Value→H}{f:Func}{s:ChangeSpec}{W W':World}{args:Array Value}{ds gs:List (DataW H)}{before:List MemPlace}{tb:TypeId}
  (hv:s.vars= []) (hW:DataW.Whole enc Tryz.prog f.params.toList s.vars false W args.toList ds gs before) (hfn:s.fn H ds={results:= [.lit (.bool true)],args:=ds})
  (hr:f.resultTypes= #[tb]) (htb:Tryz.prog.underlying tb=some .bool) (hread:pE Tryz.prog f.params.toList=true) (hb:Below W.heap.size W W'):
  s.post enc Tryz.prog f false true false false W args (.bool true) W':=by
 have hlt: ∀x∈before,x.block<W.heap.size:=fun x hx=>hW.lt x hx;obtain⟨p,q,hA,hV,hps,hfz,hnd⟩:=id hW;rw[hv]at hV;obtain⟨rfl,rfl⟩:=trodVars_none hV;rw[List.append_nil]at hps;subst hps;refine⟨ds,[],before,[],before,[],hW,?_,?_,?_,?_,fun h=>by cases h⟩
 ·rw[List.append_nil,hfn,hr];exact trodAll_mk1 (shut_bool htb true)
 ·rw[List.append_nil,hfn];exact lR Tryz.laidOut' hb _ _ _ _ hread hA hlt
 ·rw[List.append_nil,hfn,hv];rfl
 ·exact World.keptBut_mono (fun x hx=>hx.elim) (hb.frame (fun _=>False))
def AK(f:Func)(W:World)(args:Array Value):Prop:= ∃(H:Type) (enc:TypeId×Value→H) (base:Nat) (ds:List (DataW H)) (p:List MemPlace),
 (∀(j:Nat) t v,f.params[j]? =some t→args[j]? =some v→Value.okWide Tryz.prog W .any base t v)∧DataW.TrodAll enc Tryz.prog W 0 (fun _=>true) true f.params.toList args.toList ds p∧ ∀x∈p,x.block<W.heap.size
theorem AL(s:ByteArray): ∃l:List UInt8,s=⟨l.toArray⟩:=⟨s.data.toList,by cases s;simp⟩
end Go.Proofs.YtmpeiadlohbikaaGreatDoor
end

section
set_option linter.unusedVariables false
set_option linter.unusedSimpArgs false
namespace Go.Proofs.YtmpeiadlohbikaaGreatDoor
open Go.ChangeShapes Go.WideShapes Go.ChangeAt Go.RowKit Go.Joins
theorem AY{f:Nat→List Value}{m:Nat}: ∀(len j:Nat) (v:Value),(∀i,i<len→(f i).length=m)→((List.range len).flatMap f)[j]? =some v→ ∃i r,i<len∧r<m∧j=i*m+r∧(f i)[r]? =some v
 |0,j,v,_,h=>by simp at h
 |len+1,j,v,hl,h=>by
  rw[List.range_succ,List.flatMap_append,List.getElem?_append]at h;have hlen:((List.range len).flatMap f).length=len*m:=by
   clear h;have: ∀n,n≤len→((List.range n).flatMap f).length=n*m:=by
    intro n;induction n with
    |zero=>intro _;simp
    |succ n ih=>intro hn;rw[List.range_succ,List.flatMap_append,List.length_append,ih (by omega)];simp[hl n (by omega),Nat.add_mul]
   exact this len (Nat.le_refl _)
  split at h
  ·obtain⟨i,r,hi,hr,e,hv⟩:=AY len j v (fun i hi=>hl i (by omega)) h;exact⟨i,r,by omega,hr,e,hv⟩
  ·rename_i hge;rw[hlen]at h hge;simp only[List.flatMap_cons,List.flatMap_nil,List.append_nil]at h;refine⟨len,j - len*m,by omega,?_,by omega,h⟩;have:=(List.getElem?_eq_some_iff.1 h).1;rw[hl len (by omega)]at this;exact this
theorem AZ{w:World}{a:Addr}{v:Value}(h:w.cell? a=some v):a.block<w.heap.size∧a.spot=none:=by
 unfold World.cell? at h;split at h
 ·rename_i c t x hb;refine⟨cg hb,?_⟩;split at h
  ·cases h
  ·rename_i hs;simpa using hs
 ·cases h
theorem mo.of_cells{w:World}{a:Addr}{len m:Nat}{f:Nat→List Value}(hm:0<m)(h: ∀i,i<len→w.cells? 0 (a.add (i*m)) m=some (f i)):mo [] w (some a) ((List.range len).flatMap f):=fun j v hj=>by
 obtain⟨i,r,hi,hr,rfl,hv⟩:=AY len j v (fun i hi=>(World.cells?_some (h i hi)).2.1) hj;have hc:=(World.cells?_some (h i hi)).2.2 r hr;rw[hv,Deep.add_add]at hc;have h0:=(World.cells?_some (h 0 (by omega))).2;have hs:a.spot=Option.none:=by
  have h1:=h0.2 0 hm;rw[List.getElem?_eq_getElem (by omega),Nat.zero_mul]at h1;have:=(AZ h1).2;simpa[Addr.add]using this
 obtain⟨g,b,sp⟩:=a;simp only at hs;subst hs;rw[Addr.add_mid]at hc;exact⟨g,b,rfl,by simp,hc⟩
theorem Ew{P:Program}{w:World}{base t:Nat}{v:Value}{cs:List Value}(ht:ba P t≠Option.none)(hv:Value.okWide P w .any base t v)(h:v.cells.toList=cs):v= .agg cs.toArray:=by
 unfold ba at ht;unfold Value.okWide at hv;split at hv
 ·obtain⟨c,rfl,_⟩:=hv;rw[←h];rfl
 ·obtain⟨c,rfl,_⟩:=hv;rw[←h];rfl
 ·rename_i h1 h2;exfalso;cases hu:P.underlying t with
  |none=>simp[hu]at ht
  |some d=>cases d<;>first|(exact h1 _ hu)|(exact h2 _ _ hu)|(simp[hu]at ht;done)
theorem I0{P:Program}{w:World}{base t e:Nat}{v:Value}{A:Option Addr}{l c:Nat}(ht:P.underlying t=some (.slice e))(hv:Value.okWide P w .any base t v)(h:v.cells.toList= [.slice A l c]):v= .slice A l c:=by
 unfold Value.okWide at hv;rw[ht]at hv;cases v<;>first|(simp[Value.cells]at h;done)|(simpa[Value.cells]using h)|(simp[Cell.okWide,ht,Cell.ok]at hv;done)
theorem xA{P:Program}{w:World}{base t:Nat}{k:IntKind}{v:Value}{q:Int}(ht:P.underlying t=some (.int k))(hv:Value.okWide P w .any base t v)(h:v.cells.toList= [.int k q]):v= .int k q:=by
 unfold Value.okWide at hv;rw[ht]at hv;cases v<;>first|(simp[Value.cells]at h;done)|(simpa[Value.cells]using h)|(simp[Cell.okWide,ht,Cell.ok]at hv;done)
theorem Ex{l:Nat}(h:l≤maxLen):l≤9223372036854775807:=by unfold maxLen at h;omega
section
variable {H:Type} {enc:TypeId×Value→H} {W:World}
end
end Go.Proofs.YtmpeiadlohbikaaGreatDoor
end

section
set_option linter.unusedVariables false
set_option linter.unusedSimpArgs false
namespace Go.Proofs.YtmpeiadlohbikaaGreatDoor.V
open Go.ChangeShapes Go.WideShapes Go.ChangeAt Go.RowKit Go.Joins
def Bs(W:World):Prop:= ∀g∈gB,∀j v,W.cell? ⟨g,j,none⟩=some v→j=0
def od(P:Program)(U:bD)(W:World)(t:Nat)(s:aZ):Prop:= ∀(H:Type) (enc:TypeId×Value→H) (fuel:Nat) (cs:List Value) (x:DataW H×List MemPlace),DataW.trod enc P W 0 (fun _=>true) true fuel t cs=some x→ ∃m:TT U.ty s,aC U gB (· =W) s m cs
section
variable {P:Program} {U:bD} {W:World}
theorem wx{t:Nat}(hu:P.underlying t=some (.int .i64)):od P U W t (.int .i64):=fun H enc fuel cs x h=>by
 obtain⟨q,e,_,w0⟩:=DataW.trod_int hu h;have:=bounds_i64 w0;subst e;exact⟨q,aC.int .i64 q (by unfold dS;omega)⟩
theorem CS{t:Nat}(hu:P.underlying t=some (.int .u32)):od P U W t (.int .u32):=fun H enc fuel cs x h=>by
 obtain⟨q,e,_,w0⟩:=DataW.trod_int hu h;have:=bounds_u32 w0;subst e;exact⟨q,aC.int .u32 q (by unfold dS;omega)⟩
theorem CT{t:Nat}(hu:P.underlying t=some .string):od P U W t .str:=fun H enc fuel cs x h=>by
 obtain⟨s0,e,_,hs⟩:=DataW.trod_string hu h;obtain⟨l,rfl⟩:=AL s0;subst e;exact⟨l,aC.str l (Ex (by simpa[ByteArray.size]using hs))⟩
inductive tG(P:Program)(U:bD)(W:World):List Field→List (Nat×aZ)→Nat→Prop
 |nil (o:Nat):tG P U W [] [] o
 |cons (f:Field) (r:List Field) (k:Nat) (s:aZ) (q:List (Nat×aZ)) (o:Nat) (ho:f.offset=o) (hk:P.cellsOf f.type=k) (hs:od P U W f.type s) (hr:tG P U W r q (o+k)):tG P U W (f::r) ((k,s)::q) o
theorem CU{H:Type}{enc:TypeId×Value→H}{cs:List Value}{fl:List Field}{sh:List (Nat×aZ)}{o:Nat}(h:tG P U W fl sh o)
  (hall: ∀f∈fl,∃n y,DataW.trod enc P W 0 (fun _=>true) true n f.type ((cs.drop f.offset).take (P.cellsOf f.type))=some y) (hl:cs.length=o+(sh.map (·.1)).sum): ∃T:vd U.ty sh,bE U gB (· =W) sh T (cs.drop o):=by
 induction h with
 |nil o=>exact⟨(),by rw[List.drop_of_length_le (by simp at hl;omega)];exact bE.nil⟩
 |cons f r k s q o ho hk hs hr ih=>
  obtain⟨T,hT⟩:=ih (fun g hg=>hall g (by simp[hg])) (by simp at hl⊢;omega);obtain⟨n,y,hy⟩:=hall f (by simp);rw[ho,hk]at hy;obtain⟨m,hm⟩:=hs _ _ _ _ _ hy;refine⟨(m,T),?_⟩;have e:cs.drop o=(cs.drop o).take k++cs.drop (o+k):=by rw[←List.drop_drop,List.take_append_drop]
  rw[e];exact bE.cons k s q m T _ _ hm (by simp at hl⊢;omega) hT
theorem ka{t i:Nat}{fs:Array Field}(hu:P.underlying t=some (.struct fs))(hz:P.cellsOf t=(U.rd i).sz)(hf:tG P U W fs.toList (U.rd i).fs 0)(hof: ∀T,(U.rd i).ofK T fun _=>True):od P U W t (.st i):=fun H enc fuel cs x h=>by
 obtain⟨xs,n,_,_,hlen,hl,hall⟩:=DataW.trod_struct hu h;have hall2: ∀f∈fs.toList,∃n y,DataW.trod enc P W 0 (fun _=>true) true n f.type ((cs.drop f.offset).take (P.cellsOf f.type))=some y:=fun f hf=>by
  obtain⟨j,hj⟩:=List.getElem?_of_mem hf;have hj':fs[j]? =some f:=by rw[←Array.getElem?_toList];exact hj
  have:=hall j f hj';have hjl:j<xs.length:=by
   rw[hl];rcases Nat.lt_or_ge j fs.size with h|h
   ·exact h
   ·rw[Array.getElem?_eq_none h]at hj';cases hj'
  rw[List.getElem?_eq_getElem hjl]at this;exact⟨n,_,this⟩
 obtain⟨T,hT⟩:=CU hf hall2 (by rw[hlen,hz,(U.rd i).sz_ok];omega);rw[List.drop_zero]at hT;obtain⟨m,hm,hto⟩:=(U.rd i).ofK_ok T _ (hof T);exact⟨m,aC.st i m cs (hto▸hT) (by rw[hlen,hz])⟩
theorem wy{s:aZ}{z:Nat}(hz:aG U s=z): ∀(n:Nat) (cs:List Value),cs.length=n*z→(∀i,i<n→ ∃m:TT U.ty s,aC U gB (· =W) s m ((cs.drop (i*z)).take z))→ ∃l:List (TT U.ty s),l.length=n∧aR U gB (· =W) s l cs
 |0,cs,h,_=>⟨[],rfl,by
  have:cs= []:=List.eq_nil_of_length_eq_zero (by simpa using h);subst this;exact aR.nil s⟩
 |n+1,cs,h,hall=>by
  have hz2:cs.length=n*z+z:=by rw[h,Nat.add_mul,Nat.one_mul]
  obtain⟨l,hl,hd⟩:=wy hz n (cs.drop z) (by rw[List.length_drop];omega) (fun i hi=>by
   obtain⟨m,hm⟩:=hall (i+1) (by omega);rw[List.drop_drop];rw[show(i+1)*z=z+i*z by rw[Nat.add_mul,Nat.one_mul,Nat.add_comm]]at hm;exact⟨m,hm⟩)
  obtain⟨m,hm⟩:=hall 0 (by omega);rw[Nat.zero_mul,List.drop_zero]at hm;refine⟨m::l,by simp[hl],?_⟩;rw[←List.take_append_drop z cs];exact aR.cons s m l _ _ hm (by rw[hz,List.length_take];omega) hd
theorem CV{t n e z:Nat}{s:aZ}(hu:P.underlying t=some (.array n e))(hz:aG U s=z)(he:P.cellsOf e=z)(hc:P.cellsOf t=n*z)(ho:od P U W e s):od P U W t (.arr n s):=fun H enc fuel cs x h=>by
 obtain⟨xs,k,_,_,hlen,hl,hall⟩:=DataW.trod_array hu h;obtain⟨l,h1,h2⟩:=wy (W:=W) hz n cs (by rw[hlen,hc]) (fun i hi=>by
  have:=hall i hi;rw[he,List.getElem?_eq_getElem (by omega)]at this;exact ho _ _ _ _ _ this)
 exact⟨l,aC.arr n s l cs h2 h1⟩
theorem CW{s:aZ}{z:Nat}(hz:aG U s=z){f:Nat→List Value}{q:Nat→TT U.ty s}: ∀(n:Nat),(∀i,i<n→aC U gB (· =W) s (q i) (f i))→aR U gB (· =W) s ((List.range n).map q) ((List.range n).flatMap f):=by
 have key: ∀(l:List Nat),(∀i∈l,aC U gB (· =W) s (q i) (f i))→aR U gB (· =W) s (l.map q) (l.flatMap f):=by
  intro l;induction l with
  |nil=>intro _;exact aR.nil s
  |cons i r ih=>
   intro h;exact aR.cons s (q i) (r.map q) (f i) _ (h i (by simp)) (h i (by simp)).length (ih fun j hj=>h j (by simp[hj]))
 exact fun n h=>key _ fun i hi=>h i (List.mem_range.1 hi)
theorem rR{t e z:Nat}{s:aZ}(hB:Bs W)(hu:P.underlying t=some (.slice e))(hz:aG U s=z)(he:P.cellsOf e=z)(h2:2≤z)(ho:od P U W e s):od P U W t (.sl s):=fun H enc fuel cs x h=>by
 rcases Deep.open_slice hu h with⟨rfl,_⟩|⟨a,len,cap,mm,n,D,Pl,rfl,_,hlc,hcm,hmm,_,hall⟩
 ·exact⟨([]:List (TT U.ty s)),aC.sl s [] none 0 [] (aR.nil s) (fun w _ j v hj=>by simp at hj) (Nat.le_refl _) (Nat.zero_le _)⟩
 ·simp only[if_true]at hmm;subst hmm;rw[he]at hall;have hq: ∀i,i<len→ ∃o:List Value×TT U.ty s,W.cells? 0 (a.add (i*z)) z=some o.1∧aC U gB (· =W) s o.2 o.1:=fun i hi=>by
   obtain⟨cs',h1,h2⟩:=hall i (by omega);obtain⟨o,ho⟩:=ho _ _ _ _ _ h2;exact⟨(cs',o),h1,ho⟩
  rcases Nat.eq_zero_or_pos len with h0|h0
  ·subst h0;exact⟨([]:List (TT U.ty s)),aC.sl s [] (some a) mm [] (aR.nil s) (fun w _ j v hj=>by simp at hj) (Nat.zero_le _) hcm⟩
  haveI:Inhabited (List Value×TT U.ty s):=⟨(hq 0 h0).choose⟩
  obtain⟨q,hq⟩:=Deep.choose_lt hq;have hrd:=mo.of_cells (f:=fun i=>(q i).1) (by omega) (fun i hi=>(hq i hi).1);have hd:=CW (W:=W) hz len (f:=fun i=>(q i).1) (q:=fun i=>(q i).2) (fun i hi=>(hq i hi).2);refine⟨(List.range len).map fun i=>(q i).2,?_⟩;have hl:((List.range len).map fun i=>(q i).2).length=len:=by simp
  have:=aC.sl (Y:=gB) (S:=(· =W)) s ((List.range len).map fun i=>(q i).2) (some a) mm _ hd (fun w hw=>?_) (by rw[hl];simpa using hlc) hcm
  ·rw[hl]at this;exact this
  ·subst hw;intro j v hj;obtain⟨g,b,e,_,hc⟩:=hrd j v hj;refine⟨g,b,e,fun hg=>?_,hc⟩;have hc1:=(World.cells?_some (hq 0 h0).1).2;have hlen1:=hc1.1;have hv:=hc1.2 1 (by omega);rw[List.getElem?_eq_getElem (by omega),Nat.zero_mul]at hv;injection e with e;subst e;have:=hB g hg _ _ hv;simp[Addr.add]at this
end
end Go.Proofs.YtmpeiadlohbikaaGreatDoor.V
end

section
namespace Go.Proofs.YtmpeiadlohbikaaGreatDoor
open Go.ChangeShapes Go.WideShapes Go.ChangeAt Go.RowKit Go.Joins
set_option maxRecDepth 100000 in
theorem yx{f:FuncId}{fn:Func}{s:ChangeSpec}{tb:TypeId}{laid:List (String×DataW Unit)}(hfn:Tryz.prog.funcs[f]? =some fn)(hinit:Tryz.prog.inits.idxOf? f=none)(hv:s.vars= [])(hr:fn.resultTypes= #[tb])(htb:Tryz.prog.underlying tb=some .bool)(hread:pE Tryz.prog fn.params.toList=true)
  (hspec: ∀(H:Type) (ds:List (DataW H)),ds.length=fn.params.toList.length→s.fn H ds={results:= [.lit (.bool true)],args:=ds})
  (walk: ∀(W:World) (args:Array Value),AK fn W args→W.ShapedOpen Tryz.prog→laidMetH Tryz.prog laid W→Fn Tryz.prog f args.toList W fun v w'=>v= .bool true∧Fr [] W w')
  (os:Os) (started:os.Started) (H:Type) (enc:TypeId×Value→H)
  (witness: ∃(w:World) (tape:Tape) (i:Input),w.os=os∧(w.forCall tape i).Shaped Tryz.checked.prog∧i.vars= []∧Input.okWide Tryz.checked.prog (w.forCall tape i) .any w.heap.size f i∧
   ((s.pre enc Tryz.checked.prog fn [] false (w.forCall tape i).memory i.args∧laidMetH Tryz.prog laid (w.forCall tape i).memory)∧sizedMet enc Tryz.checked.prog fn (OpenSpec.ofChange s) false (w.forCall tape i).memory i.args)∧({}:Assume).holds Tryz.checked.prog (lone (Frame.enter Tryz.checked.prog f i.args .normal) [] (w.forCall tape i))):
  ReturnsInHanded {} Tryz.checked os f .any (fun w args=>(s.pre enc Tryz.prog fn [] false w args∧laidMetH Tryz.prog laid w)∧sizedMet enc Tryz.prog fn (OpenSpec.ofChange s) false w args) (s.post enc Tryz.prog fn false true false false):=by
 refine returnsInHanded_of_calls Tryz.own' started hinit witness ?_;intro w tape i _ hsh _ hok hpre hholds;obtain⟨_,_,_,fn',hfn',_,_,_,_,hval⟩:=hok;have e:fn'=fn:=Option.some.inj (hfn'.symm.trans hfn);subst e;obtain⟨⟨⟨ds,gs,before,hw,hc⟩,hx⟩,hz⟩:=hpre;have hw':=DataW.Whole.of_heap (w':=w.forCall tape i) (by rfl) hw;have hX:laidMetH Tryz.prog laid (w.forCall tape i):=hx.of_heap (by rfl);have hW':DataW.Whole enc Tryz.prog fn'.params.toList s.vars false (w.forCall tape i) i.args.toList ds gs before:=hw';have hlt: ∀x∈before,x.block<(w.forCall tape i).heap.size:=fun x hx=>hW'.lt x hx;obtain⟨p,q,hA,hV,hps,_,_⟩:=id hW';have hlen:ds.length=fn'.params.toList.length:=by
  have key: ∀(W:World) (ts:List TypeId) (vs:List Value) (ds:List (DataW H)) (ps:List MemPlace),DataW.TrodAll enc Tryz.prog W 0 (fun _=>true) true ts vs ds ps→ds.length=ts.length:=by
   intro W ts;induction ts with
   |nil=>intro vs ds ps h;obtain⟨_,rfl,_⟩:=trodAll_nil h;rfl
   |cons t ts ih=>intro vs ds ps h;obtain⟨v,vs,d,ds,p,q,rfl,rfl,rfl,_,h1⟩:=trodAll_cons h;simp[ih _ _ _ h1]
  exact key _ _ _ _ _ hA
 have hcl:=(walk (w.forCall tape i) i.args ⟨H,enc,w.heap.size,ds,p,hval,hA,fun x hx=>hlt x (by rw[hps];exact List.mem_append_left _ hx)⟩ hsh hX).2;rw[Array.toArray_toList]at hcl;refine Calls.mono hcl fun e W' ⟨v,he,hv',hF⟩=>?_;subst he;subst hv';exact ChangeSpec.post_blind (AJ hv hW' (hspec H ds hlen) hr htb hread hF.below)
end Go.Proofs.YtmpeiadlohbikaaGreatDoor
end

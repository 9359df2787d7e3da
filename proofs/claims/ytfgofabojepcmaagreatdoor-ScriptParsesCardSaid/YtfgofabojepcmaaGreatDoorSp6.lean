/- The interpreter's looks are right: cuts, fields, builds; the whole. -/
import Derived.Test.YtfgofabojepcmaaGreatDoorSp5
section
set_option linter.unusedVariables false
set_option linter.unusedSectionVars false
set_option linter.unusedSimpArgs false
namespace Go.Proofs.YtfgofabojepcmaaGreatDoor.V
open Go.RowKit
section
variable [bF] [al] {U:bJ} {P:Program} {nt:Nat} {T:cH U} {X:List Nat} {S:World→Prop} {ρ:Nat→Rz} {n:Nat} {H:Hs U} {R e:En U} {ce:aK} {p:b8} {o:Oper} {Y:List Nat} {B:Prop} {g:Prop→Prop}
theorem aG.intE{k:IntKind}{q:Int}{v:Value}(h:aV U Y S ρ n H (.d (.int k) q) [v]):v= .int k q∧cZ k q:=by
 have:=(show aG U Y S (.int k) q [v]from h).inv;exact⟨by simpa using this.1,this.2⟩
theorem aG.boolE{b:Bool}{v:Value}(h:aV U Y S ρ n H (.d .bool b) [v]):v= .bool b:=by
 have:=(show aG U Y S .bool b [v]from h).inv;have e: [v]= [Value.bool b]:=this;simpa using e
theorem aG.strE{s:List UInt8}{v:Value}(h:aV U Y S ρ n H (.d .str s) [v]):v=sv s∧s.length≤9223372036854775807:=by
 have:=(show aG U Y S .str s [v]from h).inv;exact⟨by simpa using this.1,this.2⟩
theorem Iw{s:List UInt8}(h:s.length≤9223372036854775807):ct (aV U Y S ρ n H) (⟨false,[(1,.d .str s)]⟩:Va U) (sv s):=eD (aG.str s h)
omit [al]in
theorem eK{t:Nat}{K:Kd→Prop}(h:pA T t K)(hT:bl U P T): ∃k,K k∧qV P t k:=by
 unfold pA at h;split at h
 ·rename_i ti hti;exact⟨_,h,(hT _ _ hti).kd⟩
 ·exact h.elim
omit [al]in
theorem kT{t:Nat}{K:Nat→TI U→Prop}(h:BO T t K)(hT:bl U P T): ∃e ei,K e ei∧P.underlying t=some (.slice e)∧bn P t=some (e,ei.sz)∧bT U P e ei:=by
 unfold BO at h;split at h
 ·rename_i ti hti;split at h
  ·rename_i e hk;split at h
   ·rename_i ei hei;have h1:=(hT _ _ hti).kd;rw[hk]at h1;have h2:=hT _ _ hei;have h3:=h2.size;refine⟨e,ei,h,h1,?_,h2⟩;unfold bn;rw[show P.underlying t=_ from h1];simp only;cases hi:P.info? e with
    |none=>rw[hi]at h3;cases h3
    |some i=>rw[hi]at h3;simp at h3;simp[h3]
   ·exact h.elim
  ·exact h.elim
 ·exact h.elim
theorem yM(hg: ∀A,g A→B→A){op:BinOp}{a b:List UInt8}{K:Va U→Prop}(h:CJ g op a b K){t u:Nat}{x y:Operand}(ho:o.op= .binOp op t x y u)
  (hx:B→ce.ev x=some (sv a)) (hy:B→ce.ev y=some (sv b)): ∃v,K v∧lR P nt ce S o B (aV U Y S ρ n H) v:=by
 unfold CJ at h;split at h
 ·obtain⟨hP,hK⟩:=h;exact⟨_,hK,fun hB=>⟨_,HB ho (hx hB) (hy hB) (hg _ hP hB),Iw (by rw[List.length_append];exact hg _ hP hB)⟩⟩
 ·exact⟨_,h,fun hB=>⟨_,by have:=Hz (P:=P) (n:=nt) (S:=S) ho (hx hB) (hy hB);rw[show(a==b)=decide (a=b)from(by cases hd:decide (a=b)<;>simp_all)]at this;exact this,g9⟩⟩
 ·exact⟨_,h,fun hB=>⟨_,by have:=HA (P:=P) (n:=nt) (S:=S) ho (hx hB) (hy hB);rw[show(a !=b)=decide (¬a=b)from(by cases hd:decide (¬a=b)<;>simp_all)]at this;exact this,g9⟩⟩
 ·exact⟨_,h,fun hB=>⟨_,G2 ho (hx hB) (hy hB),g9⟩⟩
 ·exact⟨_,h,fun hB=>⟨_,G3 ho (hx hB) (hy hB),g9⟩⟩
 ·exact⟨_,h,fun hB=>⟨_,G4 ho (hx hB) (hy hB),g9⟩⟩
 ·exact⟨_,h,fun hB=>⟨_,G5 ho (hx hB) (hy hB),g9⟩⟩
 ·exact h.elim
theorem yN{op:BinOp}{a b:Bool}{K:Va U→Prop}(h:CK op a b K){t u:Nat}{x y:Operand}(ho:o.op= .binOp op t x y u)(ht:P.underlying t=some .bool)
  (hx:B→ce.ev x=some (.bool a)) (hy:B→ce.ev y=some (.bool b)): ∃v,K v∧lR P nt ce S o B (aV U Y S ρ n H) v:=by
 unfold CK at h;split at h
 ·exact⟨_,h,fun hB=>⟨_,by have:=Hw (P:=P) (n:=nt) (S:=S) ho (hx hB) (hy hB) ht;rw[show(a==b)=decide (a=b)from(by cases a<;>cases b<;>rfl)]at this;exact this,g9⟩⟩
 ·exact⟨_,h,fun hB=>⟨_,by have:=Hy (P:=P) (n:=nt) (S:=S) ho (hx hB) (hy hB) ht;rw[show(a !=b)=decide (¬a=b)from(by cases a<;>cases b<;>rfl)]at this;exact this,g9⟩⟩
 ·exact h.elim
omit [al]in
theorem Dr{x y:Operand}{t u e l c l' c':Nat}{A:Option Addr}(ho:o.op= .binOp .neq t x y u)(hx:ce.ev x=some (.slice A l c))(hy:ce.ev y=some (.slice none l' c'))(ht:P.underlying t=some (.slice e)):cb P nt ce S o (.bool (!A.isNone)):=fun a ra w _=>by
 have h: ∀d:Nat,(Op.equalIn (d+1) t (.slice A l c) (.slice none l' c')).run P w= .ok A.isNone w:=fun d=>by
  unfold Op.equalIn;cases A<;>simp[run_underlying ht]
 unfold execOp;simp only[ho,ra.eval hx,ra.eval hy,eqGuard,binOp];simp[Op.equal,Op.maxDepth,h 9999]
omit [al]in
theorem vi{x y:Operand}{t u e:Nat}{A:Option Addr}(ho:o.op= .binOp .neq t x y u)(hx:ce.ev x=some (.pointer A))(hy:ce.ev y=some (.pointer none))(ht:P.underlying t=some (.pointer e)):cb P nt ce S o (.bool (!A.isNone)):=fun a ra w _=>by
 have h: ∀d:Nat,(Op.equalIn (d+1) t (.pointer A) (.pointer none)).run P w= .ok A.isNone w:=fun d=>by
  unfold Op.equalIn;cases A<;>simp[run_underlying ht]
 unfold execOp;simp only[ho,ra.eval hx,ra.eval hy,eqGuard,binOp];simp[Op.equal,Op.maxDepth,h 9999]
def Ds:Bool→BinOp
 |true=> .neq
 |false=> .eql
def BV:Bool→Bool→Bool
 |true,b=>!b
 |false,b=>b
omit [al]in
theorem r5{neg b:Bool}{K:Va U→Prop}(h:nK neg b K):K ⟨false,[(1,.d .bool (BV neg b))]⟩:=by cases neg<;>exact h
omit [al]in
theorem Dt{neg:Bool}{x y:Operand}{t u e:Nat}{A:Option Addr}(ho:o.op= .binOp (Ds neg) t x y u)(hx:ce.ev x=some (.pointer A))(hy:ce.ev y=some (.pointer none))(ht:P.underlying t=some (.pointer e)):cb P nt ce S o (.bool (BV neg A.isNone)):=by
 cases neg
 ·exact xk ho hx hy ht
 ·exact vi ho hx hy ht
omit [al]in
theorem vj{neg:Bool}{x y:Operand}{t u e l c l' c':Nat}{A:Option Addr}(ho:o.op= .binOp (Ds neg) t x y u)(hx:ce.ev x=some (.slice A l c))(hy:ce.ev y=some (.slice none l' c'))(ht:P.underlying t=some (.slice e)):cb P nt ce S o (.bool (BV neg A.isNone)):=by
 cases neg
 ·exact Eu ho hx hy ht
 ·exact Dr ho hx hy ht
omit [al]in
theorem Fz{neg:Bool}{x y:Operand}{t u e g a b:Nat}(ho:o.op= .binOp (Ds neg) t x y u)(hx:ce.ev x=some (.pointer (some ⟨g,a,none⟩)))(hy:ce.ev y=some (.pointer (some ⟨g,b,none⟩)))(ht:P.underlying t=some (.pointer e)){m:Nat}(hm:(P.info? e).map (·.size)=some m)(h0: ¬m=0):cb P nt ce S o (.bool (BV neg (Nat.beq a b))):=fun ac ra w _=>by
 have h: ∀d:Nat,(Op.equalIn (d+1) t (.pointer (some ⟨g,a,none⟩)) (.pointer (some ⟨g,b,none⟩))).run P w= .ok (Nat.beq a b) w:=fun d=>by
  unfold Op.equalIn;by_cases e:a=b
  ·subst e;simp[run_underlying ht,dA hm,h0,sameAddr]
  ·have:Nat.beq a b=false:=by cases h:Nat.beq a b with|false=>rfl|true=>exact absurd (Nat.eq_of_beq_eq_true h) e
   rw[this];simp[run_underlying ht,dA hm,h0,sameAddr,e]
 unfold execOp;cases neg<;>simp only[Ds]at ho<;>simp only[ho,ra.eval hx,ra.eval hy,eqGuard,binOp]<;>simp[Op.equal,Op.maxDepth,h 9999,BV]
omit [al]in
theorem yO{t:Nat}{x y:Cx U}(h:uL T t x y=true)(hT:bl U P T):(y= .nilp∧(∃e,P.underlying t=some (.pointer e))∧(x= .nilp∨(∃i f,x= .ptr i f)∨(∃s a,x= .pd s a)∨(∃i v q f,x= .pel i v q f)∨ ∃i f k s q f',x= .pax i f k s q f'))∨(y= .nils∧(∃e,P.underlying t=some (.slice e))∧(x= .nils∨(∃i v,x= .own i v)∨ ∃s a,x= .d (.sl s) a)):=by
 have hp:(match aB T t with|some ti=>(match ti.kd with| .ptr _=>true|_=>false)|none=>false)=true→ ∃e,P.underlying t=some (.pointer e):=fun h=>by
  split at h
  ·rename_i ti hti;split at h
   ·rename_i e hk;have:=(hT _ _ hti).kd;rw[hk]at this;exact⟨e,this⟩
   ·cases h
  ·cases h
 have hsl:(match aB T t with|some ti=>(match ti.kd with| .sl _=>true|_=>false)|none=>false)=true→ ∃e,P.underlying t=some (.slice e):=fun h=>by
  split at h
  ·rename_i ti hti;split at h
   ·rename_i e hk;have:=(hT _ _ hti).kd;rw[hk]at this;exact⟨e,this⟩
   ·cases h
  ·cases h
 unfold uL at h;split at h
 ·exact .inl ⟨rfl,hp h,.inl rfl⟩
 ·exact .inl ⟨rfl,hp h,.inr (.inl ⟨_,_,rfl⟩)⟩
 ·exact .inl ⟨rfl,hp h,.inr (.inr (.inl ⟨_,_,rfl⟩))⟩
 ·exact .inl ⟨rfl,hp h,.inr (.inr (.inr (.inl ⟨_,_,_,_,rfl⟩)))⟩
 ·exact .inl ⟨rfl,hp h,.inr (.inr (.inr (.inr ⟨_,_,_,_,_,_,rfl⟩)))⟩
 ·exact .inr ⟨rfl,hsl h,.inl rfl⟩
 ·exact .inr ⟨rfl,hsl h,.inr (.inl ⟨_,_,rfl⟩)⟩
 ·exact .inr ⟨rfl,hsl h,.inr (.inr ⟨_,_,rfl⟩)⟩
 ·cases h
theorem r6{neg:Bool}{x y:Cx U}{K:Va U→Prop}(h:CQ neg H x K){t u:Nat}{xo yo:Operand}(ho:o.op= .binOp (Ds neg) t xo yo u)(hn:uL T t x y=true)(hT:bl U P T)(M:bd U X S ρ n H)(hS: ∃w,S w)
  (hx:B→ ∃v,ce.ev xo=some v∧aV U (aj ρ H++X) S ρ n H x [v]) (hy:B→ ∃v,ce.ev yo=some v∧aV U (aj ρ H++X) S ρ n H y [v]): ∃v,K v∧lR P nt ce S o B (aV U (aj ρ H++X) S ρ n H) v:=by
 have slice:(∃e,P.underlying t=some (.slice e))→y= .nils→(qL H x fun e xs=> ∀b:Bool,(b=true→xs= [])→nK neg b K)→ ∃v,K v∧lR P nt ce S o B (aV U (aj ρ H++X) S ρ n H) v:=fun⟨e,hu⟩ hyn h=>by
  obtain⟨s,xs,hK,hv⟩:=oo h M hS;by_cases hB:B
  ·obtain⟨v,e1,h1⟩:=hx hB;obtain⟨v',e2,h2⟩:=hy hB;rw[hyn]at h2;obtain⟨A,c,cs,e3,hd,hr⟩:=hv _ h1;injection e3 with e3;subst e3;have e4: [v']= [Value.slice none 0 0]:=h2;injection e4 with e4;subst e4;exact⟨_,r5 (hK A.isNone (fun hA=>List.eq_nil_of_length_eq_zero (hr.none_ (by simpa using hA)))),fun _=>⟨_,vj ho e1 e2 hu,g9⟩⟩
  ·exact⟨_,r5 (hK false (fun h=>by cases h)),fun hB'=>absurd hB' hB⟩
 rcases yO hn hT with⟨hyn,⟨e,hu⟩,hx'⟩|⟨hyn,⟨e,hu⟩,hx'⟩
 ·have ptr: ∀(b:Bool),(∀v,aV U (aj ρ H++X) S ρ n H x [v]→ ∃A,v= .pointer A∧A.isNone=b)→K ⟨false,[(1,.d .bool (BV neg b))]⟩→ ∃v,K v∧lR P nt ce S o B (aV U (aj ρ H++X) S ρ n H) v:=fun b hb hK=>by
   refine⟨_,hK,fun hB=>?_⟩;obtain⟨v,e1,h1⟩:=hx hB;obtain⟨v',e2,h2⟩:=hy hB;rw[hyn]at h2;have e4: [v']= [Value.pointer none]:=h2;injection e4 with e4;subst e4;obtain⟨A,rfl,hA⟩:=hb v h1;subst hA;exact⟨_,Dt ho e1 e2 hu,g9⟩
  rcases hx' with rfl|⟨i,f,rfl⟩|⟨s,a,rfl⟩|⟨i,v,q,f,rfl⟩|⟨i,f,k,s,q,f',rfl⟩
  ·exact ptr true (fun v hv=>⟨none,by have e: [v]= [Value.pointer none]:=hv;simpa using e,rfl⟩) (by cases neg<;>exact h)
  ·exact ptr false (fun v hv=>by obtain⟨_,_,g,_,e⟩:=hv;exact⟨_,by simpa using e,rfl⟩) (by cases neg<;>exact h)
  ·exact ptr false (fun v hv=>by obtain⟨g,b,us,e,_⟩:=hv;exact⟨_,by simpa using e,rfl⟩) (by cases neg<;>exact h)
  ·cases hc:nl H i v with
   |false=>exact absurd (show(bif nl H i v then _ else False)from h) (by rw[hc];exact id)
   |true=>
    have h:(bif nl H i v then K ⟨false,[(1,.d .bool neg)]⟩else False):=h;rw[hc]at h;exact ptr false (fun v hv=>by obtain⟨A,e⟩:=r4 hv hc;exact⟨_,e,rfl⟩) (by cases neg<;>exact h)
  ·exact ptr false (fun v hv=>by obtain⟨_,_,_,_,g,_,e⟩:=hv;exact⟨_,by simpa using e,rfl⟩) (by cases neg<;>exact h)
 ·rcases hx' with rfl|⟨i,f,rfl⟩|⟨s,a,rfl⟩
  ·refine⟨_,h,fun hB=>?_⟩;obtain⟨v,e1,h1⟩:=hx hB;obtain⟨v',e2,h2⟩:=hy hB;rw[hyn]at h2;have e3: [v]= [Value.slice none 0 0]:=h1;have e4: [v']= [Value.slice none 0 0]:=h2;injection e3 with e3;subst e3;injection e4 with e4;subst e4;have:=vj (P:=P) (nt:=nt) (S:=S) ho e1 e2 hu;exact⟨_,this,by cases neg<;>exact g9⟩
  ·exact slice ⟨e,hu⟩ hyn h
  ·exact slice ⟨e,hu⟩ hyn h
theorem yP(hg: ∀A,g A→B→A){op:BinOp}{x y:Cx U}{K:Va U→Prop}{t u:Nat}(h:CR g T op t H x y K){xo yo:Operand}(ho:o.op= .binOp op t xo yo u)(hT:bl U P T)(M:bd U X S ρ n H)(hS: ∃w,S w)
  (hx:B→ ∃v,ce.ev xo=some v∧aV U (aj ρ H++X) S ρ n H x [v]) (hy:B→ ∃v,ce.ev yo=some v∧aV U (aj ρ H++X) S ρ n H y [v]): ∃v,K v∧lR P nt ce S o B (aV U (aj ρ H++X) S ρ n H) v:=by
 unfold CR at h;split at h
 ·refine yL hg h ho (fun hB=>?_) (fun hB=>?_) (fun hB=>?_) (fun hB=>?_)
  ·obtain⟨v,e1,h1⟩:=hx hB;rw[e1,(aG.intE h1).1]
  ·obtain⟨v,e1,h1⟩:=hy hB;rw[e1,(aG.intE h1).1]
  ·obtain⟨v,e1,h1⟩:=hx hB;exact(aG.intE h1).2
  ·obtain⟨v,e1,h1⟩:=hy hB;exact(aG.intE h1).2
 ·refine yM hg h ho (fun hB=>?_) (fun hB=>?_)
  ·obtain⟨v,e1,h1⟩:=hx hB;rw[e1,(aG.strE h1).1]
  ·obtain⟨v,e1,h1⟩:=hy hB;rw[e1,(aG.strE h1).1]
 ·obtain⟨k,hK,hk⟩:=eK h hT;split at hK
  ·refine yN hK ho hk (fun hB=>?_) (fun hB=>?_)
   ·obtain⟨v,e1,h1⟩:=hx hB;rw[e1,aG.boolE h1]
   ·obtain⟨v,e1,h1⟩:=hy hB;rw[e1,aG.boolE h1]
  ·exact hK.elim
 ·rename_i i a j b;cases hb:(Nat.beq i j&&IG T t)with
  |false=>rw[hb]at h;exact h.elim
  |true=>
   rw[hb]at h;rw[Bool.and_eq_true]at hb;have e:=Nat.eq_of_beq_eq_true hb.1;subst e;obtain⟨el,m,hu,hm,hm0⟩: ∃e m,P.underlying t=some (.pointer e)∧(P.info? e).map (·.size)=some m∧ ¬m=0:=by
    have h:=hb.2;unfold IG at h;split at h
    ·rename_i ti hti;split at h
     ·rename_i e hk;split at h
      ·rename_i ei hei;have:=(hT _ _ hti).kd;rw[hk]at this;refine⟨e,_,this,(hT _ _ hei).size,fun q=>?_⟩;rw[q]at h;cases h
      ·cases h
     ·cases h
    ·cases h
   have key: ∀neg,op=Ds neg→K ⟨false,[(1,.d .bool (BV neg (Nat.beq a b)))]⟩→ ∃v,K v∧lR P nt ce S o B (aV U (aj ρ H++X) S ρ n H) v:=fun neg hop hK=>by
    refine⟨_,hK,fun hB=>?_⟩;obtain⟨v,e1,_,_,g,hA,h1⟩:=hx hB;obtain⟨v',e2,_,_,g',hA',h2⟩:=hy hB;injection h1 with h1;subst h1;injection h2 with h2;subst h2;rw[hA]at hA';injection hA' with hA';injection hA' with hA';subst hA';exact⟨_,Fz (hop▸ho) e1 e2 hu hm hm0,g9⟩
   simp only[cond_true]at h;split at h
   ·exact key false rfl (r5 h)
   ·exact key true rfl (r5 h)
   ·exact h.elim
 ·cases hn:uL T t x y with
  |false=>rw[hn]at h;exact h.elim
  |true=>
   rw[hn]at h;simp only[cond_true]at h;split at h
   ·exact r6 (neg:=false) h ho hn hT M hS hx hy
   ·exact r6 (neg:=true) h ho hn hT M hS hx hy
   ·exact h.elim
omit [al]in
theorem Du{α:Type} [DecidableEq α](a b:α)(K:Bool→Prop)(h:K (decide (a=b))): ∃t:Bool,K t∧(t=true↔a=b):=⟨_,h,decide_eq_true_iff⟩
omit [al]in
theorem Dv{s:bj}{a b:TT U.ty s}{K:Bool→Prop}(h:Lz U s a b K): ∃t:Bool,K t∧(t=true↔a=b):=by
 cases s with
 |st i=>exact(U.rd i).eqK_ok _ _ _ h
 |arr n e=>
  cases e with
  |int k=>exact Du (α:=List Int) a b K h
  |bool=>exact Du (α:=List Bool) a b K h
  |str=>exact Du (α:=List (List UInt8)) a b K h
  |_=>exact False.elim h
 |_=>exact False.elim h
theorem yQ(hg: ∀A,g A→B→A){op:BinOp}{x y:Va U}{K:Va U→Prop}{t u:Nat}(h:CS g T op t H x y K){xo yo:Operand}(ho:o.op= .binOp op t xo yo u)(hT:bl U P T)(M:bd U X S ρ n H)(hS: ∃w,S w)
  (hx:B→ ∃v,ce.ev xo=some v∧ct (aV U (aj ρ H++X) S ρ n H) x v) (hy:B→ ∃v,ce.ev yo=some v∧ct (aV U (aj ρ H++X) S ρ n H) y v): ∃v,K v∧lR P nt ce S o B (aV U (aj ρ H++X) S ρ n H) v:=by
 unfold CS at h;split at h
 ·rename_i k a k' b;exact yP hg h ho hT M hS (fun hB=>by obtain⟨v,e1,h1⟩:=hx hB;exact⟨v,e1,(show bK _ [(k,a)] [v]from h1).one1.1⟩) (fun hB=>by obtain⟨v,e1,h1⟩:=hy hB;exact⟨v,e1,(show bK _ [(k',b)] [v]from h1).one1.1⟩)
 ·rename_i l l';split at h
  ·rename_i ti hti;split at h
   ·rename_i i hsh hcmp;obtain⟨hag,heq⟩:=(hT _ _ hti).eq i hsh hcmp;obtain⟨a,h1,ha⟩:=bt h;obtain⟨b,h2,hb⟩:=bt h1;obtain⟨r,h3,hr⟩:=Dv h2;have key: ∀neg:Bool,o.op= .binOp (Ds neg) t xo yo u→B→ ∃u,cb P nt ce S o u∧ct (aV U (aj ρ H++X) S ρ n H) ⟨false,[(1,.d .bool (BV neg r))]⟩ u:=fun neg ho hB=>by
     obtain⟨v,e1,vs,rfl,s1⟩:=hx hB;obtain⟨v',e2,us,rfl,s2⟩:=hy hB;obtain⟨q,hq,hq2⟩:=heq.vals _ _ _ _ _ _ (ha _ _ _ _ _ _ s1) (hb _ _ _ _ _ _ s2);have hqr:q=r:=Bool.eq_iff_iff.2 (hq2.trans hr.symm);subst hqr;have hne:cS P t≠none:=by rw[oq (hT _ _ hti) hag];simp
     cases neg
     ·exact⟨_,GV ho e1 e2 heq.guard hne hq,g9⟩
     ·exact⟨_,GW ho e1 e2 heq.guard hne hq,g9⟩
    split at h3
    ·exact⟨_,h3,key false ho⟩
    ·exact⟨_,h3,key true ho⟩
    ·exact h3.elim
   ·exact h.elim
  ·exact h.elim
 ·exact h.elim
end
end Go.Proofs.YtfgofabojepcmaaGreatDoor.V
end

section
set_option linter.unusedVariables false
set_option linter.unusedSectionVars false
set_option linter.unusedSimpArgs false
namespace Go.Proofs.YtfgofabojepcmaaGreatDoor.V
open Go.RowKit
section
variable [bF] [al] {U:bJ} {P:Program} {nt:Nat} {T:cH U} {X:List Nat} {S:World→Prop} {ρ:Nat→Rz} {n:Nat} {H:Hs U} {R e:En U} {ce:aK} {p:b8} {o:Oper} {Y:List Nat} {g:Prop→Prop}
omit [al]in
theorem bg.cons{s:Nat}{b:Bool}(h:bg R e p)(hs:ef R e s=some b):bg R e ((s,b)::p):=fun x hx=>by
 rcases List.mem_cons.1 hx with rfl|hx
 ·exact hs
 ·exact h x hx
theorem vk{s:Nat}{K:Cx U→Prop}(h:f8 p R e (.tmp s) K)(he:aM (aV U Y S ρ n H) R e ce): ∃c,K c∧(∀t,c= .d .bool t→ef R e s=some t)∧(bg R e p→ ∃v,ce.ev (.tmp s)=some v∧aV U Y S ρ n H c [v]):=by
 unfold f8 jH at h;simp only at h;have sc: ∀x:Va U,CL x K→ ∃c,K c∧ ∃k,x=⟨false,[(k,c)]⟩:=fun x hx=>by
  unfold CL at hx;split at hx
  ·exact⟨_,hx,_,rfl⟩
  ·exact hx.elim
 split at h
 ·rename_i q x hx;cases hb:ga q p with
  |false=>rw[hb]at h;exact h.elim
  |true=>
   rw[hb]at h;obtain⟨u,hu,h1,_⟩:=he.g _ _ _ hx;obtain⟨c,hK,k,rfl⟩:=sc _ h;exact⟨c,hK,fun t ht=>(by subst ht;unfold ef;rw[hx];rfl),fun hp=>⟨u,hu,(show bK _ [(k,c)] [u]from h1 (hp.suf hb)).one1.1⟩⟩
 ·exact h.elim
 ·rename_i hn;split at h
  ·rename_i x hx;obtain⟨u,hu,h1⟩:=he.v _ _ hn hx;obtain⟨c,hK,k,rfl⟩:=sc _ h;exact⟨c,hK,fun t ht=>(by subst ht;unfold ef;rw[hn,hx];rfl),fun hp=>⟨u,hu,(show bK _ [(k,c)] [u]from h1).one1.1⟩⟩
  ·exact h.elim
theorem vl{b:Bool}{x y:Va U}{K:Va U→Prop}(h:pickK b x y K): ∃v,K v∧ ∀u,(b=true→ct (aV U Y S ρ n H) x u)→(b=false→ct (aV U Y S ρ n H) y u)→ct (aV U Y S ρ n H) v u:=by
 unfold pickK at h;split at h
 ·rename_i a k s t a' k' s' w;cases hb:(a==a'&&Nat.beq k (aS U s))with
  |false=>rw[hb]at h;exact h.elim
  |true=>
   rw[hb]at h;simp only[Bool.and_eq_true,beq_iff_eq]at hb;obtain⟨haa,hk⟩:=hb;have hk:=Nat.eq_of_beq_eq_true hk;subst haa;simp only[cond_true]at h;split at h
   ·rename_i w' hc;obtain⟨h1,h2⟩:=df _ _ _ _ _ hc;subst h1;have h2:w=w':=eq_of_heq h2;subst h2;refine⟨_,h,fun u hx hy=>?_⟩;cases b with
    |true=>exact hx rfl
    |false=>
     have hv:=hy rfl;have fix: ∀vs,bK (aV U Y S ρ n H) [(k',.d s' w)] vs→bK (aV U Y S ρ n H) [(k,.d s' w)] vs:=fun vs hs=>⟨vs,[],(List.append_nil _).symm,by rw[hk];exact aG.length hs.one1.1,hs.one1.1,rfl⟩;cases a with
     |true=>obtain⟨vs,e1,hs⟩:=hv;exact⟨vs,e1,fix _ hs⟩
     |false=>exact fix _ hv
   ·exact h.elim
 ·exact h.elim
theorem yR{c a b:Operand}{K:Va U→Prop}(h:CO p R e c a b K)(he:aM (aV U Y S ρ n H) R e ce)(ho:o.op= .pick c a b): ∃v,K v∧lR P nt ce S o (bg R e p) (aV U Y S ρ n H) v:=by
 unfold CO at h;split at h
 ·rename_i s;obtain⟨d,hK,hsl,hd⟩:=vk h he;split at hK
  ·rename_i t;have hslot:=hsl t rfl;have hbv:bg R e p→ce.ev (.tmp s)=some (.bool t):=fun hp=>by obtain⟨v,e1,h1⟩:=hd hp;rw[e1,aG.boolE h1]
   split at hK
   ·obtain⟨y,hK,hy⟩:=bm hK he;split at hK
    ·rename_i u;refine⟨_,hK,fun hp=>?_⟩;cases t with
     |true=>exact⟨_,m7 ho (hbv hp) rfl,g9⟩
     |false=>
      obtain⟨v,e1,h1⟩:=hy (hp.cons hslot);have:=aG.boolE h1;subst this;exact⟨_,fW ho (hbv hp) e1,g9⟩
    ·exact hK.elim
   ·split at hK
    ·obtain⟨y,hK,hy⟩:=bm hK he;split at hK
     ·rename_i u;refine⟨_,hK,fun hp=>?_⟩;cases t with
      |false=>exact⟨_,fW ho (hbv hp) rfl,g9⟩
      |true=>
       obtain⟨v,e1,h1⟩:=hy (hp.cons hslot);have:=aG.boolE h1;subst this;exact⟨_,m7 ho (hbv hp) e1,g9⟩
     ·exact hK.elim
    ·obtain⟨x,hK,hx⟩:=c8 hK he;obtain⟨y,hK,hy⟩:=c8 hK he;obtain⟨v,hK,hv⟩:=vl (Y:=Y) (S:=S) (ρ:=ρ) (n:=n) (H:=H) hK;refine⟨v,hK,fun hp=>?_⟩;cases t with
     |true=>
      obtain⟨u,e1,h1⟩:=hx (hp.cons hslot);exact⟨u,m7 ho (hbv hp) e1,hv u (fun _=>h1) (fun h=>by cases h)⟩
     |false=>
      obtain⟨u,e1,h1⟩:=hy (hp.cons hslot);exact⟨u,fW ho (hbv hp) e1,hv u (fun h=>by cases h) (fun _=>h1)⟩
  ·exact hK.elim
 ·exact h.elim
omit [al]in
theorem r7{k:Kd}{t:Nat}(h:uK k=true)(hk:qV P t k): ∃e,P.underlying t=some (.slice e):=by
 cases k with
 |sl e=>exact⟨e,hk⟩
 |_=>exact Bool.noConfusion (show false=true from h)
omit [al]in
theorem jR{k:Kd}{t:Nat}(h:jI k=true)(hk:qV P t k):P.underlying t=some .string:=by
 cases k with
 |str=>exact hk
 |_=>exact Bool.noConfusion (show false=true from h)
theorem r8{c:Cx U}{K:(d:KD U)→List (TT U.ty d.k×TT U.ty d.v)→Prop}(h:uM H c K)(M:bd U X S ρ n H): ∃d l,K d l∧rY U d∧ ∃g es clock mv,li d.enc (fun v:Value=>v) es clock mv∧aH U (aj ρ H++X) S d l mv∧(∀w,S w→w.heap[g]? =some (.map es clock))∧ ∀v,aV U (aj ρ H++X) S ρ n H c [v]→v= .map (some g):=by
 unfold uM at h;split at h
 ·rename_i i;split at h
  ·rename_i d l hl;obtain⟨hk,g,es,clock,mv,hA,hm,hd,hw⟩:=M.ent _ (af hl);exact⟨d,l,h,hk,g,es,clock,mv,hm,hd,hw,fun v hv=>by
    obtain⟨_,_,g',hA',e⟩:=hv;rw[hA]at hA';injection hA' with hA';injection hA' with hA';subst hA';simpa using e⟩
  ·rename_i d l left cur gh hl;obtain⟨hk,g,es,clock,mv,lv,cv,hA,hm,hd,_,_,hw⟩:=M.ent _ (af hl);exact⟨d,l,h,hk,g,es,clock,mv,hm.ok,hd,hw,fun v hv=>by
    obtain⟨_,_,g',hA',e⟩:=hv;rw[hA]at hA';injection hA' with hA';injection hA' with hA';subst hA';simpa using e⟩
  ·exact h.elim
 ·exact h.elim
omit [al]in
theorem ml{t:Nat}{d:KD U}(h:tl T t d=true)(hT:bl U P T):P.underlying t=some (.map d.kt d.vt):=by
 unfold tl at h;split at h
 ·rename_i ti hti;have hk:=(hT _ _ hti).kd;split at h
  ·rename_i k v e;rw[e]at hk;simp only[Bool.and_eq_true]at h;rw[←Nat.eq_of_beq_eq_true h.1,←Nat.eq_of_beq_eq_true h.2];exact hk
  ·cases h
 ·cases h
omit [al]in
theorem yS{k:Kd}{t:Nat}(h:CT k=true)(hk:qV P t k): ∃kt vt,P.underlying t=some (.map kt vt):=by
 cases k with
 |mp a b=>exact⟨a,b,hk⟩
 |_=>exact Bool.noConfusion (show false=true from h)
theorem yT{B:Prop}{t:Nat}{x:Cx U}{K:Int→Prop}(h:CU T t H x K){xo:Operand}(ho:o.op= .call {callee:= .builtin .len,args:= #[xo],argTypes:= #[t]})(hT:bl U P T)(M:bd U X S ρ n H)(hS: ∃w,S w)
  (hx:B→ ∃v,ce.ev xo=some v∧aV U (aj ρ H++X) S ρ n H x [v]): ∃r,K r∧lR P nt ce S o B (aV U (aj ρ H++X) S ρ n H) ⟨false,[(1,.d (.int .i64) r)]⟩:=by
 have row:(qL H x fun _ xs=>K (xs.length:Int))→(∃e,P.underlying t=some (.slice e))→ ∃r,K r∧lR P nt ce S o B (aV U (aj ρ H++X) S ρ n H) ⟨false,[(1,.d (.int .i64) r)]⟩:=fun h ⟨e,hu⟩=>by
  obtain⟨s,xs,hK,hv⟩:=oo h M hS;refine⟨_,hK,fun hB=>?_⟩;obtain⟨v,e1,h1⟩:=hx hB;obtain⟨A,c,cs,e3,hd,hr⟩:=hv _ h1;injection e3 with e3;subst e3;have h2:=hr.lc;have h3:=hr.cm;unfold maxLen at h3;exact⟨_,m9 ho e1 hu,lK (by simp only[cZ];omega)⟩
 unfold CU at h;split at h
 ·obtain⟨k,hK,hk⟩:=eK h hT;cases hs:jI k with
  |false=>rw[hs]at hK;exact hK.elim
  |true=>
   rw[hs]at hK;refine⟨_,hK,fun hB=>?_⟩;obtain⟨v,e1,h1⟩:=hx hB;obtain⟨h2,h3⟩:=aG.strE h1;have hu:=jR hs hk;exact⟨_,EB ho (by rw[e1,h2]) hu,lK (by simp only[cZ];omega)⟩
 ·obtain⟨k,hK,hk⟩:=eK h hT;cases hs:uK k with
  |false=>rw[hs]at hK;exact hK.elim
  |true=>
   rw[hs]at hK;refine⟨_,hK,fun hB=>?_⟩;obtain⟨v,e1,h1⟩:=hx hB;have e4: [v]= [Value.slice none 0 0]:=h1;injection e4 with e4;subst e4;obtain⟨e,hu⟩:=r7 hs hk;exact⟨_,m9 ho e1 hu,lK (by simp[cZ])⟩
 ·obtain⟨k,hK,hk⟩:=eK h hT;cases hs:CT k with
  |false=>rw[hs]at hK;exact hK.elim
  |true=>
   rw[hs]at hK;simp only[cond_true]at hK;obtain⟨d,l,hK,hkd,g,es,clock,mv,hM,hD,hw,hcv⟩:=r8 hK M;obtain⟨h1,hK⟩:=hK;refine⟨_,hK,fun hB=>?_⟩;obtain⟨v,e1,h2⟩:=hx hB;obtain⟨kt,vt,hu⟩:=yS hs hk;refine⟨_,Et ho (by rw[e1,hcv v h2]) hu hw hM,?_⟩;rw[←hD.len];exact lK (by simp only[cZ];omega)
 ·obtain⟨k,hK,hk⟩:=eK h hT;cases hs:uK k with
  |false=>rw[hs]at hK;exact hK.elim
  |true=>
   rw[hs]at hK;exact row hK (r7 hs hk)
theorem yU{B:Prop}(hg: ∀A,g A→B→A){t:Nat}{x:Cx U}{q:Int}{k:IntKind}{K:Va U→Prop}(h:CV g T t x q K){xo yo:Operand}(ho:o.op= .index t xo yo)(hT:bl U P T)
  (hx:B→ ∃v,ce.ev xo=some v∧aV U Y S ρ n H x [v]) (hy:B→ce.ev yo=some (.int k q)): ∃v,K v∧lR P nt ce S o B (aV U Y S ρ n H) v:=by
 unfold CV at h;split at h
 ·rename_i s;obtain⟨kd,hK,hk⟩:=eK h hT;cases hs:jI kd with
  |false=>rw[hs]at hK;exact hK.elim
  |true=>
   rw[hs]at hK;obtain⟨hP,hK⟩:=hK;refine⟨_,hK,fun hB=>?_⟩;obtain⟨h0,h1⟩:=hg _ hP hB;obtain⟨v,e1,h2⟩:=hx hB;obtain⟨h2,h3⟩:=aG.strE h2;have hu:=jR hs hk;refine⟨_,Ey ho (by rw[e1,h2]) (hy hB) hu h0 h1,lK ?_⟩;simp only[cZ];have:=UInt8.toNat_lt (ix (α:=UInt8) s q);omega
 ·exact h.elim
omit [al]in
theorem ba.drop{e:bj}: ∀{xs:List (TT U.ty e)} {vs:List Value} (k:Nat),ba U Y S e xs vs→ba U Y S e (xs.drop k) (vs.drop (k*aS U e))
 |xs,vs,0,h=>by simpa using h
 | [],vs,k+1,h=>by rw[h.nil_inv];simp;exact .nil e
 |x::xs,vs,k+1,h=>by
  obtain⟨v1,v2,rfl,h1,hl,hr⟩:=h.cons_inv;rw[show(k+1)*aS U e=v1.length+k*aS U e by rw[Nat.add_mul,Nat.one_mul,hl,Nat.add_comm],List.drop_append,show v1.drop (v1.length+k*aS U e)= []from List.drop_of_length_le (by omega),List.nil_append,Nat.add_sub_cancel_left];exact ba.drop k hr
omit [al]in
theorem ba.take{e:bj}: ∀{xs:List (TT U.ty e)} {vs:List Value} (k:Nat),ba U Y S e xs vs→ba U Y S e (xs.take k) (vs.take (k*aS U e))
 |xs,vs,0,h=>by simp;exact .nil e
 | [],vs,k+1,h=>by rw[h.nil_inv];simp;exact .nil e
 |x::xs,vs,k+1,h=>by
  obtain⟨v1,v2,rfl,h1,hl,hr⟩:=h.cons_inv;rw[show(k+1)*aS U e=v1.length+k*aS U e by rw[Nat.add_mul,Nat.one_mul,hl,Nat.add_comm],List.take_length_add_append];exact .cons e x _ v1 _ h1 hl (ba.take k hr)
omit [al]in
theorem nk.addr{A:Option Addr}{cs:List Value}(h:nk Y S A cs)(hS: ∃w,S w)(hl:0<cs.length): ∃gb b,A=some ⟨gb,b,none⟩:=by
 obtain⟨w,hw⟩:=hS;exact(h w hw).addr hl
omit [al]in
theorem nk.part{gb b:Nat}{cs:List Value}(h:nk Y S (some ⟨gb,b,none⟩) cs)(k m:Nat):nk Y S (some ⟨gb,b+k,none⟩) ((cs.drop k).take m):=fun w hw=>((h w hw).drop k).take m
theorem vm{s:bj}{xs:List (TT U.ty s)}{cs:List Value}{gb b:Nat}{q:Int}{y:TT U.ty s}(hd:ba U Y S s xs cs)(hr:nk Y S (some ⟨gb,b,none⟩) cs)(h1:q.toNat<xs.length)(hy: ∀z,xs[q.toNat]? =some z→y=z):aV U Y S ρ n H (.pd s y) [.pointer (some ⟨gb,b+q.toNat*aS U s,none⟩)]:=by
 have e:=hy _ (List.getElem?_eq_getElem h1);refine⟨gb,_,_,rfl,?_,hr.part _ (aS U s)⟩;rw[e];exact hd.at q.toNat _ (List.getElem?_eq_getElem h1)
omit [al]in
theorem r9{s:bj}{xs:List (TT U.ty s)}{cs:List Value}{q:Nat}(hd:ba U Y S s xs cs)(h:q<xs.length)(hm:0<aS U s):0<cs.length:=by
 rw[hd.length];exact Nat.mul_pos (by omega) hm
theorem yV{B:Prop}(hg: ∀A,g A→B→A){t:Nat}{x:Cx U}{q:Int}{k:IntKind}{K:Cx U→Prop}(h:Fd g T t H x q K){xo yo:Operand}(ho:o.op= .indexAddr t xo yo)(hT:bl U P T)(M:bd U X S ρ n H)(hS: ∃w,S w)
  (hx:B→ ∃v,ce.ev xo=some v∧aV U (aj ρ H++X) S ρ n H x [v]) (hy:B→ce.ev yo=some (.int k q)): ∃c,K c∧lR P nt ce S o B (aV U (aj ρ H++X) S ρ n H) ⟨false,[(1,c)]⟩:=by
 obtain⟨el,ei,h,hu,hes,hei⟩:=kT h hT;split at h
 ·rename_i s xs _;cases hb:(Nat.beq ei.sz (aS U s)&&Nat.blt 0 (aS U s))with
  |false=>rw[hb]at h;exact h.elim
  |true=>
   rw[hb]at h;simp only[Bool.and_eq_true]at hb;have hsz:=Nat.eq_of_beq_eq_true hb.1;have hpos:0<aS U s:=by simpa[Nat.blt_eq]using hb.2
   obtain⟨hP,h⟩:=h;obtain⟨y,hK,hyx⟩:=gl h;refine⟨_,hK,fun hB=>?_⟩;obtain⟨h0,h1⟩:=hg _ hP hB;obtain⟨v,e1,h2⟩:=hx hB;obtain⟨A,c,cs,e3,hd,hr,hc,hm⟩:=(show aG U _ S (.sl s) xs [v]from h2).inv;injection e3 with e3;subst e3;have h1':q.toNat<xs.length:=by omega
   obtain⟨gb,b,rfl⟩:=hr.addr hS (r9 hd h1' hpos);exact⟨_,kB ho e1 (hy hB) hes h0 h1,by rw[hsz];exact eD (vm hd hr h1' hyx)⟩
 ·rename_i i v _;split at h
  ·rename_i v' s xs ty hl;cases hb:(Nat.beq v v'&&Nat.beq ei.sz (aS U s))with
   |false=>rw[hb]at h;exact h.elim
   |true=>
    rw[hb]at h;simp only[Bool.and_eq_true]at hb;have hsz:=Nat.eq_of_beq_eq_true hb.2;obtain⟨hP,hK⟩:=h;refine⟨_,hK,fun hB=>?_⟩;obtain⟨h0,h1⟩:=hg _ hP hB;obtain⟨u,e1,hi,A,l,c,e3,hn⟩:=hx hB;injection e3 with e3;subst e3;obtain⟨rfl,rfl,rfl⟩:=(hn _ _ _ (by rw[hl];rfl)).2 (Nat.eq_of_beq_eq_true hb.1);obtain⟨hm,cs,sp,hd,how,hblk⟩:=M.ent _ (af hl);obtain⟨gb,hA⟩:=how.some_ (show 0<xs.length by omega);rw[hA]at e1;refine⟨_,kB ho e1 (hy hB) hes h0 h1,eD ⟨hi,_,rfl,?_⟩⟩;intro v1 l1 m1 hr1;rw[hl]at hr1;injection hr1 with hr1;injection hr1 with g1 hr1;injection hr1 with g2 g3;subst g1;subst g2;subst g3;exact⟨Nat.le_of_eq (Nat.eq_of_beq_eq_true hb.1),fun _=>⟨gb,hA,by rw[hsz,Nat.zero_add,Nat.add_zero],h0,h1⟩⟩
  ·rename_i v' s xs hl;cases hb:(Nat.beq v v'&&Nat.beq ei.sz (aS U s))with
   |false=>rw[hb]at h;exact h.elim
   |true=>
    rw[hb]at h;simp only[Bool.and_eq_true]at hb;have hsz:=Nat.eq_of_beq_eq_true hb.2;obtain⟨hP,h⟩:=h;obtain⟨y,hK,hyx⟩:=gl h;refine⟨_,hK,fun hB=>?_⟩;obtain⟨h0,h1⟩:=hg _ hP hB;obtain⟨u,e1,hi,A,l,c,e3,hn⟩:=hx hB;injection e3 with e3;subst e3;obtain⟨rfl,rfl,rfl⟩:=(hn _ _ _ (by rw[hl];rfl)).2 (Nat.eq_of_beq_eq_true hb.1);obtain⟨hm,cs,hd,hr,_,_⟩:=M.ent _ (af hl);have h1':q.toNat<xs.length:=by omega
    obtain⟨gb,b,hA⟩:=hr.addr hS (r9 hd h1' hm);rw[hA]at e1 hr;exact⟨_,kB ho e1 (hy hB) hes h0 h1,by rw[hsz];exact eD (vm hd hr h1' hyx)⟩
  ·rename_i v' d xs op hl;cases hb:(Nat.beq v v'&&Nat.beq ei.sz (aS U d.e))with
   |false=>rw[hb]at h;exact h.elim
   |true=>
    rw[hb]at h;simp only[Bool.and_eq_true]at hb;have hsz:=Nat.eq_of_beq_eq_true hb.2;obtain⟨hP,hK⟩:=h;refine⟨_,hK,fun hB=>?_⟩;obtain⟨h0,h1⟩:=hg _ hP hB;obtain⟨u,e1,hi,A,l,c,e3,hn⟩:=hx hB;injection e3 with e3;subst e3;obtain⟨rfl,rfl,rfl⟩:=(hn _ _ _ (by rw[hl];rfl)).2 (Nat.eq_of_beq_eq_true hb.1);obtain⟨C,hd,_,_⟩:=M.ent _ (af hl);obtain⟨gb,hA⟩:=d.adr hd (show 0<xs.length by omega);rw[hA]at e1;refine⟨_,kB ho e1 (hy hB) hes h0 h1,eD ⟨hi,_,rfl,?_⟩⟩;intro v1 l1 m1 hr1;rw[hl]at hr1;injection hr1 with hr1;injection hr1 with g1 hr1;injection hr1 with g2 g3;subst g1;subst g2;subst g3;exact⟨Nat.le_of_eq (Nat.eq_of_beq_eq_true hb.1),fun _=>⟨gb,hA,by rw[hsz,Nat.zero_add,Nat.add_zero],h0,h1⟩⟩
  ·exact h.elim
 ·exact h.elim
end
end Go.Proofs.YtfgofabojepcmaaGreatDoor.V
end

section
set_option linter.unusedVariables false
set_option linter.unusedSectionVars false
set_option linter.unusedSimpArgs false
namespace Go.Proofs.YtfgofabojepcmaaGreatDoor.V
open Go.RowKit
section
variable [bF] [al] {U:bJ} {P:Program} {nt:Nat} {T:cH U} {X:List Nat} {S:World→Prop} {ρ:Nat→Rz} {n:Nat} {H:Hs U} {R e:En U} {ce:aK} {p:b8} {o:Oper} {Y:List Nat} {g:Prop→Prop}
theorem lS{x:Option Operand}{d:Int}{K:Int→Prop}(h:nq p R e x d K)(he:aM (aV U Y S ρ n H) R e ce): ∃q,K q∧(x=none→q=d)∧(bg R e p→ ∀y,x=some y→ ∃k,ce.ev y=some (.int k q)):=by
 unfold nq at h;split at h
 ·exact⟨d,h,fun _=>rfl,fun _ y hy=>(by cases hy)⟩
 ·obtain⟨c,hK,hc⟩:=bm h he;split at hK
  ·refine⟨_,hK,fun hn=>(by cases hn),fun hp y hy=>?_⟩;injection hy with hy;subst hy;obtain⟨v,e1,h1⟩:=hc hp;exact⟨_,by rw[e1,(aG.intE h1).1]⟩
  ·exact hK.elim
omit [al]in
theorem pO{x:Option Operand}{q:Int}(h0:x=none→q=0)(h1: ∀y,x=some y→ ∃k,ce.ev y=some (.int k q)):iz ce x=some q:=by
 cases x with
 |none=>rw[h0 rfl];rfl
 |some y=>obtain⟨k,hk⟩:=h1 y rfl;simp only[iz,hk]
omit [al]in
theorem pP{x:Option Operand}{q:Int}{l:Nat}(h0:x=none→q=l)(h1: ∀y,x=some y→ ∃k,ce.ev y=some (.int k q)):kC ce l x=some q:=by
 cases x with
 |none=>rw[h0 rfl];rfl
 |some y=>obtain⟨k,hk⟩:=h1 y rfl;simp only[kC,hk]
theorem yW{s:bj}{xs:List (TT U.ty s)}{A:Option Addr}{c a b:Nat}{cs:List Value}(hd:ba U Y S s xs cs)(hr:nk Y S A cs)(hc:xs.length≤c)(hm:c≤maxLen)(hS: ∃w,S w)(h1:a≤b)(h2:b≤xs.length):
  aV U Y S ρ n H (.d (.sl s) ((xs.take b).drop a)) [.slice (if c=a then A else A.map (·.add (a*aS U s))) (b - a) (c - a)]:=by
 have hl:((xs.take b).drop a).length=b - a:=by rw[List.length_drop,List.length_take];omega
 have hd':=(hd.take b).drop a;rw[←hl];refine aG.sl s _ _ _ _ hd' ?_ (by rw[hl];omega) (by omega);by_cases hn:(List.drop (a*aS U s) (cs.take (b*aS U s)))= []
 ·rw[hn];exact fun w _=>kK.nil
 ·have hpos:0<(List.drop (a*aS U s) (cs.take (b*aS U s))).length:=List.length_pos_iff.2 hn;have hcl:0<cs.length:=by rw[List.length_drop,List.length_take]at hpos;omega
  obtain⟨gb,b0,rfl⟩:=hr.addr hS hcl;have hab:a<b:=by
   rcases Nat.lt_or_ge a b with h|h
   ·exact h
   ·have:a=b:=by omega
    subst this;rw[List.length_drop,List.length_take]at hpos;omega
  rw[if_neg (by omega)];intro w hw;have:=((hr w hw).take (b*aS U s)).drop (a*aS U s);simpa[Addr.add_mid]using this
theorem yX(hg: ∀A,g A→bg R e p→A){t:Nat}{s:List UInt8}{lo hi:Option Operand}{K:Cx U→Prop}(h:nq p R e lo 0 fun a=>nq p R e hi (s.length:Int) fun b=>VS (g (0≤a∧a≤b∧b≤s.length)) (match lo,hi with
  |none,_=>K (.d .str (s.take b.toNat))
  |_,none=>K (.d .str (s.drop a.toNat))
  |_,_=>K (.d .str ((s.take b.toNat).drop a.toNat)))) {xo:Operand} (ho:o.op= .slice t xo lo hi none) (hu:P.underlying t=some .string) (he:aM (aV U Y S ρ n H) R e ce)
  (hx:bg R e p→ ∃v,ce.ev xo=some v∧aV U Y S ρ n H (.d .str s) [v]): ∃c,K c∧lR P nt ce S o (bg R e p) (aV U Y S ρ n H) ⟨false,[(1,c)]⟩:=by
 obtain⟨a,h,ha0,ha⟩:=lS h he;obtain⟨b,h,hb0,hb⟩:=lS h he;obtain⟨hP,hK⟩:=h;have key:bg R e p→0≤a∧a≤b∧b≤s.length∧cb P nt ce S o (sv ((List.take b.toNat s).drop a.toNat))∧s.length≤9223372036854775807:=fun hp=>by
  obtain⟨h0,h1,h2⟩:=hg _ hP hp;obtain⟨v,e1,h3⟩:=hx hp;obtain⟨rfl,h4⟩:=aG.strE h3;exact⟨h0,h1,h2,El ho e1 hu (pO ha0 (ha hp)) (pP hb0 (hb hp)) h0 h1 h2,h4⟩
 have lens: ∀i j:Nat,s.length≤9223372036854775807→((List.take j s).drop i).length≤9223372036854775807:=fun i j h=>by rw[List.length_drop,List.length_take];omega
 cases lo with
 |none=>
  have hK:K (.d .str (List.take b.toNat s)):=hK;refine⟨_,hK,fun hp=>?_⟩;obtain⟨h0,h1,h2,hy,h4⟩:=key hp;have:=ha0 rfl;subst this;exact⟨_,hy,by rw[Int.toNat_zero,List.drop_zero];exact Iw (by rw[List.length_take];omega)⟩
 |some lx=>
  cases hi with
  |none=>
   have hK:K (.d .str (List.drop a.toNat s)):=hK;refine⟨_,hK,fun hp=>?_⟩;obtain⟨h0,h1,h2,hy,h4⟩:=key hp;have:=hb0 rfl;subst this;exact⟨_,hy,by rw[Int.toNat_natCast,List.take_length];exact Iw (by rw[List.length_drop];omega)⟩
  |some hx=>
   have hK:K (.d .str ((List.take b.toNat s).drop a.toNat)):=hK;refine⟨_,hK,fun hp=>?_⟩;obtain⟨h0,h1,h2,hy,h4⟩:=key hp;exact⟨_,hy,Iw (lens _ _ h4)⟩
theorem yY(hg: ∀A,g A→bg R e p→A){t el:Nat}{s:bj}{xs:List (TT U.ty s)}{lo hi:Option Operand}{K:Cx U→Prop}(h:nq p R e lo 0 fun a=>nq p R e hi (xs.length:Int) fun b=>VS (g (0≤a∧a≤b∧b≤xs.length)) (match lo,hi with
  |none,_=>K (.d (.sl s) (xs.take b.toNat))
  |_,none=>K (.d (.sl s) (xs.drop a.toNat))
  |_,_=>K (.d (.sl s) ((xs.take b.toNat).drop a.toNat)))) {xo:Operand} (ho:o.op= .slice t xo lo hi none) (hes:bn P t=some (el,aS U s)) (he:aM (aV U Y S ρ n H) R e ce) (hS: ∃w,S w)
  (hx:bg R e p→ ∃v,ce.ev xo=some v∧aV U Y S ρ n H (.d (.sl s) xs) [v]): ∃c,K c∧lR P nt ce S o (bg R e p) (aV U Y S ρ n H) ⟨false,[(1,c)]⟩:=by
 obtain⟨a,h,ha0,ha⟩:=lS h he;obtain⟨b,h,hb0,hb⟩:=lS h he;obtain⟨hP,hK⟩:=h;have key:bg R e p→ ∃v,cb P nt ce S o v∧aV U Y S ρ n H (.d (.sl s) ((List.take b.toNat xs).drop a.toNat)) [v]:=fun hp=>by
  obtain⟨h0,h1,h2⟩:=hg _ hP hp;obtain⟨v,e1,h3⟩:=hx hp;obtain⟨A,c,cs,e3,hd,hr,hc,hm⟩:=(show aG U _ S (.sl s) xs [v]from h3).inv;injection e3 with e3;subst e3;have hlc:b≤(c:Int):=by
   have:(xs.length:Int)≤c:=by exact_mod_cast hc
   omega
  exact⟨_,pa (P:=P) (n:=nt) (S:=S) ho e1 hes (pO ha0 (ha hp)) (pP hb0 (hb hp)) h0 h1 hlc hc,yW hd hr hc hm hS (by omega) (by omega)⟩
 cases lo with
 |none=>
  have hK:K (.d (.sl s) (List.take b.toNat xs)):=hK;refine⟨_,hK,fun hp=>?_⟩;obtain⟨v,hy,hv⟩:=key hp;have:=ha0 rfl;subst this;exact⟨v,hy,eD hv⟩
 |some lx=>
  cases hi with
  |none=>
   have hK:K (.d (.sl s) (List.drop a.toNat xs)):=hK;refine⟨_,hK,fun hp=>?_⟩;obtain⟨v,hy,hv⟩:=key hp;have:=hb0 rfl;subst this;rw[Int.toNat_natCast,List.take_length]at hv;exact⟨v,hy,eD hv⟩
  |some hx=>
   have hK:K (.d (.sl s) ((List.take b.toNat xs).drop a.toNat)):=hK;refine⟨_,hK,fun hp=>?_⟩;obtain⟨v,hy,hv⟩:=key hp;exact⟨v,hy,eD hv⟩
theorem yZ(hg: ∀A,g A→bg R e p→A){t:Nat}{x:Cx U}{lo hi:Option Operand}{K:Cx U→Prop}(h:yr g T t p R e x lo hi K){xo:Operand}(ho:o.op= .slice t xo lo hi none)(hT:bl U P T)(he:aM (aV U Y S ρ n H) R e ce)(hS: ∃w,S w)
  (hx:bg R e p→ ∃v,ce.ev xo=some v∧aV U Y S ρ n H x [v]): ∃c,K c∧lR P nt ce S o (bg R e p) (aV U Y S ρ n H) ⟨false,[(1,c)]⟩:=by
 unfold yr at h;split at h
 ·rename_i s;obtain⟨k,h,hk⟩:=eK h hT;cases hs:jI k with
  |false=>rw[hs]at h;exact h.elim
  |true=>
   rw[hs]at h;simp only[cond_true]at h;exact yX hg h ho (jR hs hk) he hx
 ·rename_i s xs;obtain⟨el,ei,h,hu,hes,hei⟩:=kT h hT;cases hs:Nat.beq ei.sz (aS U s)with
  |false=>rw[hs]at h;exact h.elim
  |true=>
   rw[hs]at h;simp only[cond_true]at h;exact yY hg h ho (by rw[←Nat.eq_of_beq_eq_true hs];exact hes) he hS hx
 ·exact h.elim
theorem y0{B:Prop}{t f:Nat}{l:List (bH U)}{K:Va U→Prop}(h:CN T t f l K){xo:Operand}(ho:o.op= .field t xo f)(hT:bl U P T)(hx:B→ ∃v,ce.ev xo=some v∧ct (aV U Y S ρ n H) ⟨true,l⟩ v): ∃v,K v∧lR P nt ce S o B (aV U Y S ρ n H) v:=by
 unfold CN at h;split at h
 ·rename_i ti hti;split at h
  ·rename_i off ft hf;obtain⟨h1,h2⟩:=(hT _ _ hti).fs _ _ _ hf;split at h
   ·rename_i fi hfi;have hfk:=hT _ _ hfi;obtain⟨l',hK,hs'⟩:=dM h;obtain⟨v,hv,ti',hti',hva⟩:=jo hK hT;rw[hfi]at hti';injection hti' with hti';subst hti';refine⟨v,hv,fun hB=>?_⟩;obtain⟨u,e1,us,rfl,hs⟩:=hx hB;obtain⟨a1,a2⟩:=hs' _ _ _ _ _ _ hs;have hlen:((us.drop off).take fi.sz).length=fi.sz:=by rw[List.length_take,List.length_drop];omega
    obtain⟨w,hw,c1,c2⟩:=hva _ _ _ _ _ _ a1 hlen;cases ha:qF fi.kd with
    |true=>rw[c1 ha]at hw;exact⟨_,xp ho e1 h1 h2 (oq hfk ha) rfl hlen,hw⟩
    |false=>
     have mq:=mi hfk ha;have:=c2 ha;refine⟨w,AQ ho e1 h1 h2 (hfk.one ha) ?_,hw⟩;have h0:((us.drop off).take fi.sz)[0]? =some w:=by rw[this];rfl
     rw[mq,List.getElem?_take,if_pos (by decide),List.getElem?_drop]at h0;exact h0
   ·exact h.elim
  ·exact h.elim
 ·exact h.elim
theorem ov{fs:List (Nat×Nat)}{pls:List (Nat×Nat)}(hT:bl U P T)(hpl: ∀f off ft,cL fs f=some (off,ft)→ ∃k,pls[f]? =some (off,k)∧(P.info? ft).map (·.size)=some k)(he:aM (aV U Y S ρ n H) R e ce):
  ∀{ps:List (Nat×Operand)} {l:List (bH U)} {K:List (bH U)→Prop},yn T p R e fs ps l K→ ∃l',K l'∧(bg R e p→ ∀zs,bK (aV U Y S ρ n H) l zs→ ∃vs cells,ce.evs (ps.map (·.2))=some vs∧jk pls zs ((ps.map (·.1)).zip vs)=some cells∧bK (aV U Y S ρ n H) l' cells)
 | [],l,K,h=>⟨l,h,fun _ zs hs=>⟨[],zs,rfl,rfl,hs⟩⟩
 |(f,x)::ps,l,K,h=>by
  have h:(match cL fs f with
   |some (off,ft)=>(match aB T ft with
    |some fi=>jH p R e x fun y=>bif Nat.beq (gI y.l) fi.sz then og 40 l off fi.sz y.l fun l=>yn T p R e fs ps l K else False
    |none=>False)
   |none=>False):=h
  split at h
  ·rename_i off ft hf;split at h
   ·rename_i fi hfi;obtain⟨y,h,hy⟩:=c8 h he;cases hb:Nat.beq (gI y.l) fi.sz with
    |false=>rw[hb]at h;exact h.elim
    |true=>
     rw[hb]at h;simp only[cond_true]at h;have hb:=Nat.eq_of_beq_eq_true hb;obtain⟨l1,h1,hs1⟩:=gJ h;obtain⟨l2,h2,hs2⟩:=ov hT hpl he (ps:=ps) h1;refine⟨l2,h2,fun hp zs hz=>?_⟩;obtain⟨v,e1,hv⟩:=hy hp;have hc:=hv.cells;have hcl:=hc.len;obtain⟨k,hk1,hk2⟩:=hpl _ _ _ hf;have hsz:=(hT _ _ hfi).size;rw[hk2]at hsz;injection hsz with hsz;obtain⟨a1,a2⟩:=hs1 _ _ _ _ _ _ _ hz hc (by omega);obtain⟨vs,cells,e2,e3,e4⟩:=hs2 hp _ a1;refine⟨v::vs,cells,?_,?_,e4⟩
     ·simp only[List.map_cons,aK.evs,e1,e2]
     ·simp only[List.map_cons,List.zip_cons_cons,jk,hk1];have b1:Nat.beq v.cells.toList.length k=true:=by rw[show v.cells.toList.length=k by omega];exact Nat.beq_refl k
      have b2:Nat.ble (off+k) zs.length=true:=Nat.ble_eq_true_of_le (by omega);rw[b1,b2];simp only[Bool.and_self,cond_true];rw[show off+k=off+v.cells.toList.length by omega,←List.append_assoc];exact e3
   ·exact h.elim
  ·exact h.elim
theorem Dw{x:Va U}{K:Cx U→Prop}(h:CL x K): ∃c,K c∧ ∀v,ct (aV U Y S ρ n H) x v→aV U Y S ρ n H c [v]:=by
 unfold CL at h;split at h
 ·rename_i k c;exact⟨c,h,fun v hv=>(show bK _ [(k,c)] [v]from hv).one1.1⟩
 ·exact h.elim
omit [al]in
theorem nM{g g':Nat→Option (Nat×Nat)}(hg: ∀i x,g i=some x→g' i=some x): ∀(parts:List (Nat×Value)) (cs out:Array Value),Instr.fill g cs parts=some out→Instr.fill g' cs parts=some out
 | [],cs,out,h=>by simpa[Instr.fill]using h
 |(i,v)::r,cs,out,h=>by
  unfold Instr.fill at h⊢;cases hi:g i with
  |none=>rw[hi]at h;simp at h
  |some x=>
   rw[hi]at h;rw[hg _ _ hi];obtain⟨off,sz⟩:=x;simp only at h⊢;split at h
   ·cases h
   ·rename_i hc;rw[if_neg hc];exact nM hg r _ _ h
omit [al]in
theorem vn{m el k:Nat}(hm:(P.info? el).map (·.size)=some m): ∀{c:Nat} {off f x ft:Nat},cL (EV m el c off) f=some (x,ft)→ ∃k,((EV m el c off).map fun q=>(q.1,m))[f]? =some (x,k)∧(P.info? ft).map (·.size)=some k
 |0,off,f,x,ft,h=>by cases f<;>cases h
 |c+1,off,0,x,ft,h=>by
  have h:some (off,el)=some (x,ft):=h;injection h with h;injection h with h1 h2;subst h1;subst h2;exact⟨m,rfl,hm⟩
 |c+1,off,f+1,x,ft,h=>vn (k:=k) hm (c:=c) (off:=off+m) (f:=f) h
omit [al]in
theorem vo{m el:Nat}: ∀{c off i:Nat} {x:Nat×Nat},((EV m el c off).map fun q=>(q.1,m))[i]? =some x→x=(off+i*m,m)
 |0,off,i,x,h=>by cases h
 |c+1,off,0,x,h=>by
  have h:some (off,m)=some x:=h;injection h with h;rw[←h,Nat.zero_mul];rfl
 |c+1,off,i+1,x,h=>by
  have:=vo (c:=c) (off:=off+m) (i:=i) h;rw[this,Nat.succ_mul];congr 1;omega
omit [al]in
theorem y2{t k e:Nat}(h:yq T t=some (k,e))(hT:bl U P T):P.underlying t=some (.array k e):=by
 unfold yq at h;split at h
 ·rename_i ti hti;split at h
  ·rename_i k' e' hk;have:=(hT _ _ hti).kd;rw[hk]at this;injection h with h;injection h with h1 h2;subst h1;subst h2;exact this
  ·cases h
 ·cases h
omit [al]in
theorem Dx{K:Cx U→Prop}{i off sz:Nat}{q:Int}{n:Nat}(h:IH K i off sz q n): ∃j:Nat,K (.ptr i (off+j*sz))∧(0≤q→q<n→q=j):=by
 unfold IH at h;split at h
 ·by_cases e:q=0
  ·exact⟨0,by simpa using h.1 (decide_eq_true e),fun _ _=>e⟩
  ·exact⟨1,by simpa using h.2 (decide_eq_false e),fun _ _=>by omega⟩
 ·by_cases e:q=0
  ·exact⟨0,by simpa using h.1 (decide_eq_true e),fun _ _=>e⟩
  ·have h:=h.2 (decide_eq_false e);by_cases e1:q=1
   ·exact⟨1,by simpa using h.1 (decide_eq_true e1),fun _ _=>e1⟩
   ·exact⟨2,h.2 (decide_eq_false e1),fun _ _=>by omega⟩
 ·exact h.elim
theorem y3{B:Prop}(hg: ∀A,g A→B→A){t l e:Nat}{x:Cx U}{q:Int}{k:IntKind}{K:Cx U→Prop}{xo yo:Operand}(h:CX g T l e x yo q K)(ho:o.op= .indexAddr t xo yo)(hA:yq T t=some (l,e))(hT:bl U P T)
  (hx:B→ ∃v,ce.ev xo=some v∧aV U Y S ρ n H x [v]) (hy:B→ce.ev yo=some (.int k q)): ∃c,K c∧lR P nt ce S o B (aV U Y S ρ n H) ⟨false,[(1,c)]⟩:=by
 have hu:=y2 hA hT;unfold CX at h;split at h
 ·rename_i ei hei;have hes:iU P t=some (l,ei.sz):=by
   have h2:=(hT _ _ hei).size;unfold iU;rw[hu];cases hq:P.info? e with
   |none=>rw[hq]at h2;cases h2
   |some i=>rw[hq]at h2;simp at h2;simp[hq,h2]
  split at h
  ·rename_i s hs;cases hb:Nat.beq ei.sz (aS U s)with
   |false=>rw[hb]at h;exact h.elim
   |true=>
    rw[hb]at h;have hsz:=Nat.eq_of_beq_eq_true hb;simp only[cond_true]at h;split at h
    ·rename_i i off;split at h
     ·rename_i kk c;cases hlt:Nat.blt c l with
      |false=>rw[hlt]at h;exact h.elim
      |true=>
       rw[hlt]at h;refine⟨_,h,fun hB=>?_⟩;obtain⟨v,e1,hi,hr,gb,hA',e2⟩:=hx hB;injection e2 with e2;subst e2;exact⟨_,Ek (k:=kk) (j:=c) ho e1 rfl hes (by simpa[Nat.blt_eq]using hlt),eD ⟨hi,hr,gb,hA',by rw[hsz]⟩⟩
     ·rcases h with⟨hP,hK⟩|⟨hP,hK⟩
      ·refine⟨_,hK,fun hB=>?_⟩;obtain⟨h0,h1⟩:=hg _ hP hB;obtain⟨v,e1,hi,hr,gb,hA',e2⟩:=hx hB;injection e2 with e2;subst e2;exact⟨_,sU ho e1 (hy hB) hes h0 h1,eD ⟨hi,hr,h0,h1,gb,hA',by rw[hsz];rfl⟩⟩
      ·obtain⟨j,hK,hj⟩:=Dx hK;refine⟨_,hK,fun hB=>?_⟩;obtain⟨h0,h1⟩:=hg _ hP hB;obtain⟨v,e1,hi,hr,gb,hA',e2⟩:=hx hB;injection e2 with e2;subst e2;have e3:=hj h0 h1;subst e3;exact⟨_,sU ho e1 (hy hB) hes h0 h1,eD ⟨hi,hr,gb,hA',by rw[hsz,Int.toNat_natCast]⟩⟩
    ·rename_i m s' xs;cases hb2:(Nat.beq l m&&Nat.beq (aS U s') (aS U s))with
     |false=>rw[hb2]at h;exact h.elim
     |true=>
      rw[hb2]at h;rw[Bool.and_eq_true]at hb2;have e3:=Nat.eq_of_beq_eq_true hb2.1;have e4:=Nat.eq_of_beq_eq_true hb2.2;obtain⟨hP,h⟩:=h;obtain⟨y,hK,hyx⟩:=gl h;refine⟨_,hK,fun hB=>?_⟩;obtain⟨h0,h1⟩:=hg _ hP hB;obtain⟨v,e1,gb,b,us,e2,hd,hr⟩:=hx hB;injection e2 with e2;subst e2;obtain⟨hd1,hd2⟩:=aG.inv hd;exact⟨_,sU ho e1 (hy hB) hes h0 h1,by rw[hsz,←e4];exact eD (vm hd1 hr (by rw[hd2];omega) hyx)⟩
    ·exact h.elim
  ·exact h.elim
 ·exact h.elim
theorem y4{B:Prop}(hg: ∀A,g A→B→A){t:Nat}{l:List (bH U)}{q:Int}{k:IntKind}{K:Va U→Prop}(h:CW g T t l q K){xo yo:Operand}(ho:o.op= .index t xo yo)(hT:bl U P T)
  (hx:B→ ∃v,ce.ev xo=some v∧ct (aV U Y S ρ n H) ⟨true,l⟩ v) (hy:B→ce.ev yo=some (.int k q)): ∃v,K v∧lR P nt ce S o B (aV U Y S ρ n H) v:=by
 unfold CW at h;split at h
 ·rename_i ti hti;have hkd:=(hT _ _ hti).kd;split at h
  ·rename_i m e m' s hk hs;rw[hk]at hkd;split at h
   ·rename_i ei hei;cases hb:(Nat.beq m m'&&Nat.beq ei.sz 1&&Nat.beq (aS U s) 1&&!qF ei.kd)with
    |false=>rw[hb]at h;exact h.elim
    |true=>
     rw[hb]at h;simp only[Bool.and_eq_true,Bool.not_eq_true']at hb;obtain⟨⟨⟨e1,e2⟩,e3⟩,e4⟩:=hb;have e1:=Nat.eq_of_beq_eq_true e1;have e2:=Nat.eq_of_beq_eq_true e2;have e3:=Nat.eq_of_beq_eq_true e3;simp only[cond_true]at h;obtain⟨(xs:List (TT U.ty s)),h,hxs⟩:=bt h;obtain⟨hP,h⟩:=h;obtain⟨x,hK,hix⟩:=gl h;refine⟨_,hK,fun hB=>?_⟩;obtain⟨h0,h1⟩:=hg _ hP hB;obtain⟨v,f1,us,rfl,h2⟩:=hx hB;obtain⟨hd1,hd2⟩:=aG.inv (hxs _ _ _ _ _ _ h2);have hqk:q.toNat<xs.length:=by have:xs.length=m':=hd2;omega
     have hat:=hd1.at q.toNat _ (List.getElem?_eq_getElem hqk);rw[←hix _ (List.getElem?_eq_getElem hqk)]at hat;have hl:=hat.length;rw[e3]at hat hl;have hv: ∃u,(us.drop (q.toNat*1)).take 1= [u]:=by
      match hh:(us.drop (q.toNat*1)).take 1,hl with
      | [u],_=>exact⟨u,rfl⟩
     obtain⟨u,hu⟩:=hv;rw[hu]at hat;have hget:us[q.toNat]? =some u:=by
      have:((us.drop (q.toNat*1)).take 1)[0]? =some u:=by rw[hu];rfl
      rw[List.getElem?_take,if_pos (by decide),List.getElem?_drop]at this;simpa using this
     exact⟨u,G6 ho f1 (hy hB) hkd ((hT _ _ hei).size.trans (by rw[e2])) ((hT _ _ hei).one e4) h0 h1 hget,eD hat⟩
   ·exact h.elim
  ·exact h.elim
 ·exact h.elim
end
end Go.Proofs.YtfgofabojepcmaaGreatDoor.V
end

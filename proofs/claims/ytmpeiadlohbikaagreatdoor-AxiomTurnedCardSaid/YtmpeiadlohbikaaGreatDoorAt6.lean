/- The interpreter's looks are right: cuts, fields, builds; the whole. -/
import Derived.Test.YtmpeiadlohbikaaGreatDoorAt5
section
set_option linter.unusedVariables false
set_option linter.unusedSectionVars false
set_option linter.unusedSimpArgs false
namespace Go.Proofs.YtmpeiadlohbikaaGreatDoor.V
open Go.RowKit
section
variable [bB] [ao] {U:bD} {P:Program} {nt:Nat} {T:cW U} {X:List Nat} {S:World→Prop} {ρ:Nat→Rz} {n:Nat} {H:Hs U} {R e:En U} {ce:aI} {p:di} {o:Oper} {Y:List Nat} {B:Prop} {g:Prop→Prop}
theorem aC.intE{k:IntKind}{q:Int}{v:Value}(h:bd U Y S ρ n H (.d (.int k) q) [v]):v= .int k q∧dS k q:=by
 have:=(show aC U Y S (.int k) q [v]from h).inv;exact⟨by simpa using this.1,this.2⟩
theorem aC.boolE{b:Bool}{v:Value}(h:bd U Y S ρ n H (.d .bool b) [v]):v= .bool b:=by
 have:=(show aC U Y S .bool b [v]from h).inv;have e: [v]= [Value.bool b]:=this;simpa using e
theorem aC.strE{s:List UInt8}{v:Value}(h:bd U Y S ρ n H (.d .str s) [v]):v=sv s∧s.length≤9223372036854775807:=by
 have:=(show aC U Y S .str s [v]from h).inv;exact⟨by simpa using this.1,this.2⟩
theorem On{s:List UInt8}(h:s.length≤9223372036854775807):cM (bd U Y S ρ n H) (⟨false,[(1,.d .str s)]⟩:Va U) (sv s):=gz (aC.str s h)
omit [ao]in
theorem jz{t:Nat}{K:Kd→Prop}(h:zk T t K)(hT:bf U P T): ∃k,K k∧yd P t k:=by
 unfold zk at h;split at h
 ·rename_i ti hti;exact⟨_,h,(hT _ _ hti).kd⟩
 ·exact h.elim
omit [ao]in
theorem kg{t:Nat}{K:Nat→TI U→Prop}(h:CJ T t K)(hT:bf U P T): ∃e ei,K e ei∧P.underlying t=some (.slice e)∧aq P t=some (e,ei.sz)∧aT U P e ei:=by
 unfold CJ at h;split at h
 ·rename_i ti hti;split at h
  ·rename_i e hk;split at h
   ·rename_i ei hei;have h1:=(hT _ _ hti).kd;rw[hk]at h1;have h2:=hT _ _ hei;have h3:=h2.size;refine⟨e,ei,h,h1,?_,h2⟩;unfold aq;rw[show P.underlying t=_ from h1];simp only;cases hi:P.info? e with
    |none=>rw[hi]at h3;cases h3
    |some i=>rw[hi]at h3;simp at h3;simp[h3]
   ·exact h.elim
  ·exact h.elim
 ·exact h.elim
theorem Dn(hg: ∀A,g A→B→A){op:BinOp}{a b:List UInt8}{K:Va U→Prop}(h:HE g op a b K){t u:Nat}{x y:Operand}(ho:o.op= .binOp op t x y u)
  (hx:B→ce.ev x=some (sv a)) (hy:B→ce.ev y=some (sv b)): ∃v,K v∧qA P nt ce S o B (bd U Y S ρ n H) v:=by
 unfold HE at h;split at h
 ·obtain⟨hP,hK⟩:=h;exact⟨_,hK,fun hB=>⟨_,Mq ho (hx hB) (hy hB) (hg _ hP hB),On (by rw[List.length_append];exact hg _ hP hB)⟩⟩
 ·exact⟨_,h,fun hB=>⟨_,by have:=GE (P:=P) (n:=nt) (S:=S) ho (hx hB) (hy hB);rw[show(a==b)=decide (a=b)from(by cases hd:decide (a=b)<;>simp_all)]at this;exact this,mt⟩⟩
 ·exact⟨_,h,fun hB=>⟨_,by have:=GF (P:=P) (n:=nt) (S:=S) ho (hx hB) (hy hB);rw[show(a !=b)=decide (¬a=b)from(by cases hd:decide (¬a=b)<;>simp_all)]at this;exact this,mt⟩⟩
 ·exact⟨_,h,fun hB=>⟨_,LS ho (hx hB) (hy hB),mt⟩⟩
 ·exact⟨_,h,fun hB=>⟨_,LT ho (hx hB) (hy hB),mt⟩⟩
 ·exact⟨_,h,fun hB=>⟨_,LU ho (hx hB) (hy hB),mt⟩⟩
 ·exact⟨_,h,fun hB=>⟨_,LV ho (hx hB) (hy hB),mt⟩⟩
 ·exact h.elim
theorem Do{op:BinOp}{a b:Bool}{K:Va U→Prop}(h:HF op a b K){t u:Nat}{x y:Operand}(ho:o.op= .binOp op t x y u)(ht:P.underlying t=some .bool)
  (hx:B→ce.ev x=some (.bool a)) (hy:B→ce.ev y=some (.bool b)): ∃v,K v∧qA P nt ce S o B (bd U Y S ρ n H) v:=by
 unfold HF at h;split at h
 ·exact⟨_,h,fun hB=>⟨_,by have:=GD (P:=P) (n:=nt) (S:=S) ho (hx hB) (hy hB) ht;rw[show(a==b)=decide (a=b)from(by cases a<;>cases b<;>rfl)]at this;exact this,mt⟩⟩
 ·exact⟨_,h,fun hB=>⟨_,by have:=Mo (P:=P) (n:=nt) (S:=S) ho (hx hB) (hy hB) ht;rw[show(a !=b)=decide (¬a=b)from(by cases a<;>cases b<;>rfl)]at this;exact this,mt⟩⟩
 ·exact h.elim
omit [ao]in
theorem Ik{x y:Operand}{t u e l c l' c':Nat}{A:Option Addr}(ho:o.op= .binOp .neq t x y u)(hx:ce.ev x=some (.slice A l c))(hy:ce.ev y=some (.slice none l' c'))(ht:P.underlying t=some (.slice e)):ci P nt ce S o (.bool (!A.isNone)):=fun a ra w _=>by
 have h: ∀d:Nat,(Op.equalIn (d+1) t (.slice A l c) (.slice none l' c')).run P w= .ok A.isNone w:=fun d=>by
  unfold Op.equalIn;cases A<;>simp[run_underlying ht]
 unfold execOp;simp only[ho,ra.eval hx,ra.eval hy,eqGuard,binOp];simp[Op.equal,Op.maxDepth,h 9999]
omit [ao]in
theorem zL{x y:Operand}{t u e:Nat}{A:Option Addr}(ho:o.op= .binOp .neq t x y u)(hx:ce.ev x=some (.pointer A))(hy:ce.ev y=some (.pointer none))(ht:P.underlying t=some (.pointer e)):ci P nt ce S o (.bool (!A.isNone)):=fun a ra w _=>by
 have h: ∀d:Nat,(Op.equalIn (d+1) t (.pointer A) (.pointer none)).run P w= .ok A.isNone w:=fun d=>by
  unfold Op.equalIn;cases A<;>simp[run_underlying ht]
 unfold execOp;simp only[ho,ra.eval hx,ra.eval hy,eqGuard,binOp];simp[Op.equal,Op.maxDepth,h 9999]
def Il:Bool→BinOp
 |true=> .neq
 |false=> .eql
def Gf:Bool→Bool→Bool
 |true,b=>!b
 |false,b=>b
omit [ao]in
theorem wP{neg b:Bool}{K:Va U→Prop}(h:nK neg b K):K ⟨false,[(1,.d .bool (Gf neg b))]⟩:=by cases neg<;>exact h
omit [ao]in
theorem Im{neg:Bool}{x y:Operand}{t u e:Nat}{A:Option Addr}(ho:o.op= .binOp (Il neg) t x y u)(hx:ce.ev x=some (.pointer A))(hy:ce.ev y=some (.pointer none))(ht:P.underlying t=some (.pointer e)):ci P nt ce S o (.bool (Gf neg A.isNone)):=by
 cases neg
 ·exact Jl ho hx hy ht
 ·exact zL ho hx hy ht
omit [ao]in
theorem zM{neg:Bool}{x y:Operand}{t u e l c l' c':Nat}{A:Option Addr}(ho:o.op= .binOp (Il neg) t x y u)(hx:ce.ev x=some (.slice A l c))(hy:ce.ev y=some (.slice none l' c'))(ht:P.underlying t=some (.slice e)):ci P nt ce S o (.bool (Gf neg A.isNone)):=by
 cases neg
 ·exact Bg ho hx hy ht
 ·exact Ik ho hx hy ht
omit [ao]in
theorem K8{neg:Bool}{x y:Operand}{t u e g a b:Nat}(ho:o.op= .binOp (Il neg) t x y u)(hx:ce.ev x=some (.pointer (some ⟨g,a,none⟩)))(hy:ce.ev y=some (.pointer (some ⟨g,b,none⟩)))(ht:P.underlying t=some (.pointer e)){m:Nat}(hm:(P.info? e).map (·.size)=some m)(h0: ¬m=0):ci P nt ce S o (.bool (Gf neg (Nat.beq a b))):=fun ac ra w _=>by
 have h: ∀d:Nat,(Op.equalIn (d+1) t (.pointer (some ⟨g,a,none⟩)) (.pointer (some ⟨g,b,none⟩))).run P w= .ok (Nat.beq a b) w:=fun d=>by
  unfold Op.equalIn;by_cases e:a=b
  ·subst e;simp[run_underlying ht,bX hm,h0,sameAddr]
  ·have:Nat.beq a b=false:=by cases h:Nat.beq a b with|false=>rfl|true=>exact absurd (Nat.eq_of_beq_eq_true h) e
   rw[this];simp[run_underlying ht,bX hm,h0,sameAddr,e]
 unfold execOp;cases neg<;>simp only[Il]at ho<;>simp only[ho,ra.eval hx,ra.eval hy,eqGuard,binOp]<;>simp[Op.equal,Op.maxDepth,h 9999,Gf]
omit [ao]in
theorem Dp{t:Nat}{x y:Cx U}(h:zm T t x y=true)(hT:bf U P T):(y= .nilp∧(∃e,P.underlying t=some (.pointer e))∧(x= .nilp∨(∃i f,x= .ptr i f)∨(∃s a,x= .pd s a)∨(∃i v q f,x= .pel i v q f)∨ ∃i f k s q f',x= .pax i f k s q f'))∨(y= .nils∧(∃e,P.underlying t=some (.slice e))∧(x= .nils∨(∃i v,x= .own i v)∨ ∃s a,x= .d (.sl s) a)):=by
 have hp:(match aD T t with|some ti=>(match ti.kd with| .ptr _=>true|_=>false)|none=>false)=true→ ∃e,P.underlying t=some (.pointer e):=fun h=>by
  split at h
  ·rename_i ti hti;split at h
   ·rename_i e hk;have:=(hT _ _ hti).kd;rw[hk]at this;exact⟨e,this⟩
   ·cases h
  ·cases h
 have hsl:(match aD T t with|some ti=>(match ti.kd with| .sl _=>true|_=>false)|none=>false)=true→ ∃e,P.underlying t=some (.slice e):=fun h=>by
  split at h
  ·rename_i ti hti;split at h
   ·rename_i e hk;have:=(hT _ _ hti).kd;rw[hk]at this;exact⟨e,this⟩
   ·cases h
  ·cases h
 unfold zm at h;split at h
 ·exact .inl ⟨rfl,hp h,.inl rfl⟩
 ·exact .inl ⟨rfl,hp h,.inr (.inl ⟨_,_,rfl⟩)⟩
 ·exact .inl ⟨rfl,hp h,.inr (.inr (.inl ⟨_,_,rfl⟩))⟩
 ·exact .inl ⟨rfl,hp h,.inr (.inr (.inr (.inl ⟨_,_,_,_,rfl⟩)))⟩
 ·exact .inl ⟨rfl,hp h,.inr (.inr (.inr (.inr ⟨_,_,_,_,_,_,rfl⟩)))⟩
 ·exact .inr ⟨rfl,hsl h,.inl rfl⟩
 ·exact .inr ⟨rfl,hsl h,.inr (.inl ⟨_,_,rfl⟩)⟩
 ·exact .inr ⟨rfl,hsl h,.inr (.inr ⟨_,_,rfl⟩)⟩
 ·cases h
theorem wQ{neg:Bool}{x y:Cx U}{K:Va U→Prop}(h:HK neg H x K){t u:Nat}{xo yo:Operand}(ho:o.op= .binOp (Il neg) t xo yo u)(hn:zm T t x y=true)(hT:bf U P T)(M:aX U X S ρ n H)(hS: ∃w,S w)
  (hx:B→ ∃v,ce.ev xo=some v∧bd U (aj ρ H++X) S ρ n H x [v]) (hy:B→ ∃v,ce.ev yo=some v∧bd U (aj ρ H++X) S ρ n H y [v]): ∃v,K v∧qA P nt ce S o B (bd U (aj ρ H++X) S ρ n H) v:=by
 have slice:(∃e,P.underlying t=some (.slice e))→y= .nils→(vn H x fun e xs=> ∀b:Bool,(b=true→xs= [])→nK neg b K)→ ∃v,K v∧qA P nt ce S o B (bd U (aj ρ H++X) S ρ n H) v:=fun⟨e,hu⟩ hyn h=>by
  obtain⟨s,xs,hK,hv⟩:=rZ h M hS;by_cases hB:B
  ·obtain⟨v,e1,h1⟩:=hx hB;obtain⟨v',e2,h2⟩:=hy hB;rw[hyn]at h2;obtain⟨A,c,cs,e3,hd,hr⟩:=hv _ h1;injection e3 with e3;subst e3;have e4: [v']= [Value.slice none 0 0]:=h2;injection e4 with e4;subst e4;exact⟨_,wP (hK A.isNone (fun hA=>List.eq_nil_of_length_eq_zero (hr.none_ (by simpa using hA)))),fun _=>⟨_,zM ho e1 e2 hu,mt⟩⟩
  ·exact⟨_,wP (hK false (fun h=>by cases h)),fun hB'=>absurd hB' hB⟩
 rcases Dp hn hT with⟨hyn,⟨e,hu⟩,hx'⟩|⟨hyn,⟨e,hu⟩,hx'⟩
 ·have ptr: ∀(b:Bool),(∀v,bd U (aj ρ H++X) S ρ n H x [v]→ ∃A,v= .pointer A∧A.isNone=b)→K ⟨false,[(1,.d .bool (Gf neg b))]⟩→ ∃v,K v∧qA P nt ce S o B (bd U (aj ρ H++X) S ρ n H) v:=fun b hb hK=>by
   refine⟨_,hK,fun hB=>?_⟩;obtain⟨v,e1,h1⟩:=hx hB;obtain⟨v',e2,h2⟩:=hy hB;rw[hyn]at h2;have e4: [v']= [Value.pointer none]:=h2;injection e4 with e4;subst e4;obtain⟨A,rfl,hA⟩:=hb v h1;subst hA;exact⟨_,Im ho e1 e2 hu,mt⟩
  rcases hx' with rfl|⟨i,f,rfl⟩|⟨s,a,rfl⟩|⟨i,v,q,f,rfl⟩|⟨i,f,k,s,q,f',rfl⟩
  ·exact ptr true (fun v hv=>⟨none,by have e: [v]= [Value.pointer none]:=hv;simpa using e,rfl⟩) (by cases neg<;>exact h)
  ·exact ptr false (fun v hv=>by obtain⟨_,_,g,_,e⟩:=hv;exact⟨_,by simpa using e,rfl⟩) (by cases neg<;>exact h)
  ·exact ptr false (fun v hv=>by obtain⟨g,b,us,e,_⟩:=hv;exact⟨_,by simpa using e,rfl⟩) (by cases neg<;>exact h)
  ·cases hc:qH H i v with
   |false=>exact absurd (show(bif qH H i v then _ else False)from h) (by rw[hc];exact id)
   |true=>
    have h:(bif qH H i v then K ⟨false,[(1,.d .bool neg)]⟩else False):=h;rw[hc]at h;exact ptr false (fun v hv=>by obtain⟨A,e⟩:=wO hv hc;exact⟨_,e,rfl⟩) (by cases neg<;>exact h)
  ·exact ptr false (fun v hv=>by obtain⟨_,_,_,_,g,_,e⟩:=hv;exact⟨_,by simpa using e,rfl⟩) (by cases neg<;>exact h)
 ·rcases hx' with rfl|⟨i,f,rfl⟩|⟨s,a,rfl⟩
  ·refine⟨_,h,fun hB=>?_⟩;obtain⟨v,e1,h1⟩:=hx hB;obtain⟨v',e2,h2⟩:=hy hB;rw[hyn]at h2;have e3: [v]= [Value.slice none 0 0]:=h1;have e4: [v']= [Value.slice none 0 0]:=h2;injection e3 with e3;subst e3;injection e4 with e4;subst e4;have:=zM (P:=P) (nt:=nt) (S:=S) ho e1 e2 hu;exact⟨_,this,by cases neg<;>exact mt⟩
  ·exact slice ⟨e,hu⟩ hyn h
  ·exact slice ⟨e,hu⟩ hyn h
theorem Dq(hg: ∀A,g A→B→A){op:BinOp}{x y:Cx U}{K:Va U→Prop}{t u:Nat}(h:HL g T op t H x y K){xo yo:Operand}(ho:o.op= .binOp op t xo yo u)(hT:bf U P T)(M:aX U X S ρ n H)(hS: ∃w,S w)
  (hx:B→ ∃v,ce.ev xo=some v∧bd U (aj ρ H++X) S ρ n H x [v]) (hy:B→ ∃v,ce.ev yo=some v∧bd U (aj ρ H++X) S ρ n H y [v]): ∃v,K v∧qA P nt ce S o B (bd U (aj ρ H++X) S ρ n H) v:=by
 unfold HL at h;split at h
 ·refine Dl hg h ho (fun hB=>?_) (fun hB=>?_) (fun hB=>?_) (fun hB=>?_)
  ·obtain⟨v,e1,h1⟩:=hx hB;rw[e1,(aC.intE h1).1]
  ·obtain⟨v,e1,h1⟩:=hy hB;rw[e1,(aC.intE h1).1]
  ·obtain⟨v,e1,h1⟩:=hx hB;exact(aC.intE h1).2
  ·obtain⟨v,e1,h1⟩:=hy hB;exact(aC.intE h1).2
 ·refine Dn hg h ho (fun hB=>?_) (fun hB=>?_)
  ·obtain⟨v,e1,h1⟩:=hx hB;rw[e1,(aC.strE h1).1]
  ·obtain⟨v,e1,h1⟩:=hy hB;rw[e1,(aC.strE h1).1]
 ·obtain⟨k,hK,hk⟩:=jz h hT;split at hK
  ·refine Do hK ho hk (fun hB=>?_) (fun hB=>?_)
   ·obtain⟨v,e1,h1⟩:=hx hB;rw[e1,aC.boolE h1]
   ·obtain⟨v,e1,h1⟩:=hy hB;rw[e1,aC.boolE h1]
  ·exact hK.elim
 ·rename_i i a j b;cases hb:(Nat.beq i j&&ON T t)with
  |false=>rw[hb]at h;exact h.elim
  |true=>
   rw[hb]at h;rw[Bool.and_eq_true]at hb;have e:=Nat.eq_of_beq_eq_true hb.1;subst e;obtain⟨el,m,hu,hm,hm0⟩: ∃e m,P.underlying t=some (.pointer e)∧(P.info? e).map (·.size)=some m∧ ¬m=0:=by
    have h:=hb.2;unfold ON at h;split at h
    ·rename_i ti hti;split at h
     ·rename_i e hk;split at h
      ·rename_i ei hei;have:=(hT _ _ hti).kd;rw[hk]at this;refine⟨e,_,this,(hT _ _ hei).size,fun q=>?_⟩;rw[q]at h;cases h
      ·cases h
     ·cases h
    ·cases h
   have key: ∀neg,op=Il neg→K ⟨false,[(1,.d .bool (Gf neg (Nat.beq a b)))]⟩→ ∃v,K v∧qA P nt ce S o B (bd U (aj ρ H++X) S ρ n H) v:=fun neg hop hK=>by
    refine⟨_,hK,fun hB=>?_⟩;obtain⟨v,e1,_,_,g,hA,h1⟩:=hx hB;obtain⟨v',e2,_,_,g',hA',h2⟩:=hy hB;injection h1 with h1;subst h1;injection h2 with h2;subst h2;rw[hA]at hA';injection hA' with hA';injection hA' with hA';subst hA';exact⟨_,K8 (hop▸ho) e1 e2 hu hm hm0,mt⟩
   simp only[cond_true]at h;split at h
   ·exact key false rfl (wP h)
   ·exact key true rfl (wP h)
   ·exact h.elim
 ·cases hn:zm T t x y with
  |false=>rw[hn]at h;exact h.elim
  |true=>
   rw[hn]at h;simp only[cond_true]at h;split at h
   ·exact wQ (neg:=false) h ho hn hT M hS hx hy
   ·exact wQ (neg:=true) h ho hn hT M hS hx hy
   ·exact h.elim
omit [ao]in
theorem Io{α:Type} [DecidableEq α](a b:α)(K:Bool→Prop)(h:K (decide (a=b))): ∃t:Bool,K t∧(t=true↔a=b):=⟨_,h,decide_eq_true_iff⟩
omit [ao]in
theorem Ip{s:aZ}{a b:TT U.ty s}{K:Bool→Prop}(h:RY U s a b K): ∃t:Bool,K t∧(t=true↔a=b):=by
 cases s with
 |st i=>exact(U.rd i).eqK_ok _ _ _ h
 |arr n e=>
  cases e with
  |int k=>exact Io (α:=List Int) a b K h
  |bool=>exact Io (α:=List Bool) a b K h
  |str=>exact Io (α:=List (List UInt8)) a b K h
  |_=>exact False.elim h
 |_=>exact False.elim h
theorem Dr(hg: ∀A,g A→B→A){op:BinOp}{x y:Va U}{K:Va U→Prop}{t u:Nat}(h:HM g T op t H x y K){xo yo:Operand}(ho:o.op= .binOp op t xo yo u)(hT:bf U P T)(M:aX U X S ρ n H)(hS: ∃w,S w)
  (hx:B→ ∃v,ce.ev xo=some v∧cM (bd U (aj ρ H++X) S ρ n H) x v) (hy:B→ ∃v,ce.ev yo=some v∧cM (bd U (aj ρ H++X) S ρ n H) y v): ∃v,K v∧qA P nt ce S o B (bd U (aj ρ H++X) S ρ n H) v:=by
 unfold HM at h;split at h
 ·rename_i k a k' b;exact Dq hg h ho hT M hS (fun hB=>by obtain⟨v,e1,h1⟩:=hx hB;exact⟨v,e1,(show bJ _ [(k,a)] [v]from h1).one1.1⟩) (fun hB=>by obtain⟨v,e1,h1⟩:=hy hB;exact⟨v,e1,(show bJ _ [(k',b)] [v]from h1).one1.1⟩)
 ·rename_i l l';split at h
  ·rename_i ti hti;split at h
   ·rename_i i hsh hcmp;obtain⟨hag,heq⟩:=(hT _ _ hti).eq i hsh hcmp;obtain⟨a,h1,ha⟩:=bu h;obtain⟨b,h2,hb⟩:=bu h1;obtain⟨r,h3,hr⟩:=Ip h2;have key: ∀neg:Bool,o.op= .binOp (Il neg) t xo yo u→B→ ∃u,ci P nt ce S o u∧cM (bd U (aj ρ H++X) S ρ n H) ⟨false,[(1,.d .bool (Gf neg r))]⟩ u:=fun neg ho hB=>by
     obtain⟨v,e1,vs,rfl,s1⟩:=hx hB;obtain⟨v',e2,us,rfl,s2⟩:=hy hB;obtain⟨q,hq,hq2⟩:=heq.vals _ _ _ _ _ _ (ha _ _ _ _ _ _ s1) (hb _ _ _ _ _ _ s2);have hqr:q=r:=Bool.eq_iff_iff.2 (hq2.trans hr.symm);subst hqr;have hne:ba P t≠none:=by rw[r5 (hT _ _ hti) hag];simp
     cases neg
     ·exact⟨_,Gu ho e1 e2 heq.guard hne hq,mt⟩
     ·exact⟨_,Gw ho e1 e2 heq.guard hne hq,mt⟩
    split at h3
    ·exact⟨_,h3,key false ho⟩
    ·exact⟨_,h3,key true ho⟩
    ·exact h3.elim
   ·exact h.elim
  ·exact h.elim
 ·exact h.elim
end
end Go.Proofs.YtmpeiadlohbikaaGreatDoor.V
end

section
set_option linter.unusedVariables false
set_option linter.unusedSectionVars false
set_option linter.unusedSimpArgs false
namespace Go.Proofs.YtmpeiadlohbikaaGreatDoor.V
open Go.RowKit
section
variable [bB] [ao] {U:bD} {P:Program} {nt:Nat} {T:cW U} {X:List Nat} {S:World→Prop} {ρ:Nat→Rz} {n:Nat} {H:Hs U} {R e:En U} {ce:aI} {p:di} {o:Oper} {Y:List Nat} {g:Prop→Prop}
omit [ao]in
theorem bn.cons{s:Nat}{b:Bool}(h:bn R e p)(hs:gS R e s=some b):bn R e ((s,b)::p):=fun x hx=>by
 rcases List.mem_cons.1 hx with rfl|hx
 ·exact hs
 ·exact h x hx
theorem zN{s:Nat}{K:Cx U→Prop}(h:gR p R e (.tmp s) K)(he:aJ (bd U Y S ρ n H) R e ce): ∃c,K c∧(∀t,c= .d .bool t→gS R e s=some t)∧(bn R e p→ ∃v,ce.ev (.tmp s)=some v∧bd U Y S ρ n H c [v]):=by
 unfold gR j6 at h;simp only at h;have sc: ∀x:Va U,HG x K→ ∃c,K c∧ ∃k,x=⟨false,[(k,c)]⟩:=fun x hx=>by
  unfold HG at hx;split at hx
  ·exact⟨_,hx,_,rfl⟩
  ·exact hx.elim
 split at h
 ·rename_i q x hx;cases hb:iK q p with
  |false=>rw[hb]at h;exact h.elim
  |true=>
   rw[hb]at h;obtain⟨u,hu,h1,_⟩:=he.g _ _ _ hx;obtain⟨c,hK,k,rfl⟩:=sc _ h;exact⟨c,hK,fun t ht=>(by subst ht;unfold gS;rw[hx];rfl),fun hp=>⟨u,hu,(show bJ _ [(k,c)] [u]from h1 (hp.suf hb)).one1.1⟩⟩
 ·exact h.elim
 ·rename_i hn;split at h
  ·rename_i x hx;obtain⟨u,hu,h1⟩:=he.v _ _ hn hx;obtain⟨c,hK,k,rfl⟩:=sc _ h;exact⟨c,hK,fun t ht=>(by subst ht;unfold gS;rw[hn,hx];rfl),fun hp=>⟨u,hu,(show bJ _ [(k,c)] [u]from h1).one1.1⟩⟩
  ·exact h.elim
theorem zO{b:Bool}{x y:Va U}{K:Va U→Prop}(h:pickK b x y K): ∃v,K v∧ ∀u,(b=true→cM (bd U Y S ρ n H) x u)→(b=false→cM (bd U Y S ρ n H) y u)→cM (bd U Y S ρ n H) v u:=by
 unfold pickK at h;split at h
 ·rename_i a k s t a' k' s' w;cases hb:(a==a'&&Nat.beq k (aG U s))with
  |false=>rw[hb]at h;exact h.elim
  |true=>
   rw[hb]at h;simp only[Bool.and_eq_true,beq_iff_eq]at hb;obtain⟨haa,hk⟩:=hb;have hk:=Nat.eq_of_beq_eq_true hk;subst haa;simp only[cond_true]at h;split at h
   ·rename_i w' hc;obtain⟨h1,h2⟩:=dv _ _ _ _ _ hc;subst h1;have h2:w=w':=eq_of_heq h2;subst h2;refine⟨_,h,fun u hx hy=>?_⟩;cases b with
    |true=>exact hx rfl
    |false=>
     have hv:=hy rfl;have fix: ∀vs,bJ (bd U Y S ρ n H) [(k',.d s' w)] vs→bJ (bd U Y S ρ n H) [(k,.d s' w)] vs:=fun vs hs=>⟨vs,[],(List.append_nil _).symm,by rw[hk];exact aC.length hs.one1.1,hs.one1.1,rfl⟩;cases a with
     |true=>obtain⟨vs,e1,hs⟩:=hv;exact⟨vs,e1,fix _ hs⟩
     |false=>exact fix _ hv
   ·exact h.elim
 ·exact h.elim
theorem Ds{c a b:Operand}{K:Va U→Prop}(h:HJ p R e c a b K)(he:aJ (bd U Y S ρ n H) R e ce)(ho:o.op= .pick c a b): ∃v,K v∧qA P nt ce S o (bn R e p) (bd U Y S ρ n H) v:=by
 unfold HJ at h;split at h
 ·rename_i s;obtain⟨d,hK,hsl,hd⟩:=zN h he;split at hK
  ·rename_i t;have hslot:=hsl t rfl;have hbv:bn R e p→ce.ev (.tmp s)=some (.bool t):=fun hp=>by obtain⟨v,e1,h1⟩:=hd hp;rw[e1,aC.boolE h1]
   split at hK
   ·obtain⟨y,hK,hy⟩:=bj hK he;split at hK
    ·rename_i u;refine⟨_,hK,fun hp=>?_⟩;cases t with
     |true=>exact⟨_,qi ho (hbv hp) rfl,mt⟩
     |false=>
      obtain⟨v,e1,h1⟩:=hy (hp.cons hslot);have:=aC.boolE h1;subst this;exact⟨_,qj ho (hbv hp) e1,mt⟩
    ·exact hK.elim
   ·split at hK
    ·obtain⟨y,hK,hy⟩:=bj hK he;split at hK
     ·rename_i u;refine⟨_,hK,fun hp=>?_⟩;cases t with
      |false=>exact⟨_,qj ho (hbv hp) rfl,mt⟩
      |true=>
       obtain⟨v,e1,h1⟩:=hy (hp.cons hslot);have:=aC.boolE h1;subst this;exact⟨_,qi ho (hbv hp) e1,mt⟩
     ·exact hK.elim
    ·obtain⟨x,hK,hx⟩:=cH hK he;obtain⟨y,hK,hy⟩:=cH hK he;obtain⟨v,hK,hv⟩:=zO (Y:=Y) (S:=S) (ρ:=ρ) (n:=n) (H:=H) hK;refine⟨v,hK,fun hp=>?_⟩;cases t with
     |true=>
      obtain⟨u,e1,h1⟩:=hx (hp.cons hslot);exact⟨u,qi ho (hbv hp) e1,hv u (fun _=>h1) (fun h=>by cases h)⟩
     |false=>
      obtain⟨u,e1,h1⟩:=hy (hp.cons hslot);exact⟨u,qj ho (hbv hp) e1,hv u (fun h=>by cases h) (fun _=>h1)⟩
  ·exact hK.elim
 ·exact h.elim
omit [ao]in
theorem wS{k:Kd}{t:Nat}(h:zl k=true)(hk:yd P t k): ∃e,P.underlying t=some (.slice e):=by
 cases k with
 |sl e=>exact⟨e,hk⟩
 |_=>exact Bool.noConfusion (show false=true from h)
omit [ao]in
theorem ph{k:Kd}{t:Nat}(h:pa k=true)(hk:yd P t k):P.underlying t=some .string:=by
 cases k with
 |str=>exact hk
 |_=>exact Bool.noConfusion (show false=true from h)
theorem wT{c:Cx U}{K:(d:KD U)→List (TT U.ty d.k×TT U.ty d.v)→Prop}(h:zn H c K)(M:aX U X S ρ n H): ∃d l,K d l∧wJ U d∧ ∃g es clock mv,oa d.enc (fun v:Value=>v) es clock mv∧aK U (aj ρ H++X) S d l mv∧(∀w,S w→w.heap[g]? =some (.map es clock))∧ ∀v,bd U (aj ρ H++X) S ρ n H c [v]→v= .map (some g):=by
 unfold zn at h;split at h
 ·rename_i i;split at h
  ·rename_i d l hl;obtain⟨hk,g,es,clock,mv,hA,hm,hd,hw⟩:=M.ent _ (af hl);exact⟨d,l,h,hk,g,es,clock,mv,hm,hd,hw,fun v hv=>by
    obtain⟨_,_,g',hA',e⟩:=hv;rw[hA]at hA';injection hA' with hA';injection hA' with hA';subst hA';simpa using e⟩
  ·rename_i d l left cur gh hl;obtain⟨hk,g,es,clock,mv,lv,cv,hA,hm,hd,_,_,hw⟩:=M.ent _ (af hl);exact⟨d,l,h,hk,g,es,clock,mv,hm.ok,hd,hw,fun v hv=>by
    obtain⟨_,_,g',hA',e⟩:=hv;rw[hA]at hA';injection hA' with hA';injection hA' with hA';subst hA';simpa using e⟩
  ·exact h.elim
 ·exact h.elim
omit [ao]in
theorem pi{t:Nat}{d:KD U}(h:x6 T t d=true)(hT:bf U P T):P.underlying t=some (.map d.kt d.vt):=by
 unfold x6 at h;split at h
 ·rename_i ti hti;have hk:=(hT _ _ hti).kd;split at h
  ·rename_i k v e;rw[e]at hk;simp only[Bool.and_eq_true]at h;rw[←Nat.eq_of_beq_eq_true h.1,←Nat.eq_of_beq_eq_true h.2];exact hk
  ·cases h
 ·cases h
omit [ao]in
theorem Dt{k:Kd}{t:Nat}(h:HN k=true)(hk:yd P t k): ∃kt vt,P.underlying t=some (.map kt vt):=by
 cases k with
 |mp a b=>exact⟨a,b,hk⟩
 |_=>exact Bool.noConfusion (show false=true from h)
theorem Du{B:Prop}{t:Nat}{x:Cx U}{K:Int→Prop}(h:HO T t H x K){xo:Operand}(ho:o.op= .call {callee:= .builtin .len,args:= #[xo],argTypes:= #[t]})(hT:bf U P T)(M:aX U X S ρ n H)(hS: ∃w,S w)
  (hx:B→ ∃v,ce.ev xo=some v∧bd U (aj ρ H++X) S ρ n H x [v]): ∃r,K r∧qA P nt ce S o B (bd U (aj ρ H++X) S ρ n H) ⟨false,[(1,.d (.int .i64) r)]⟩:=by
 have row:(vn H x fun _ xs=>K (xs.length:Int))→(∃e,P.underlying t=some (.slice e))→ ∃r,K r∧qA P nt ce S o B (bd U (aj ρ H++X) S ρ n H) ⟨false,[(1,.d (.int .i64) r)]⟩:=fun h ⟨e,hu⟩=>by
  obtain⟨s,xs,hK,hv⟩:=rZ h M hS;refine⟨_,hK,fun hB=>?_⟩;obtain⟨v,e1,h1⟩:=hx hB;obtain⟨A,c,cs,e3,hd,hr⟩:=hv _ h1;injection e3 with e3;subst e3;have h2:=hr.lc;have h3:=hr.cm;unfold maxLen at h3;exact⟨_,qk ho e1 hu,pg (by simp only[dS];omega)⟩
 unfold HO at h;split at h
 ·obtain⟨k,hK,hk⟩:=jz h hT;cases hs:pa k with
  |false=>rw[hs]at hK;exact hK.elim
  |true=>
   rw[hs]at hK;refine⟨_,hK,fun hB=>?_⟩;obtain⟨v,e1,h1⟩:=hx hB;obtain⟨h2,h3⟩:=aC.strE h1;have hu:=ph hs hk;exact⟨_,Js ho (by rw[e1,h2]) hu,pg (by simp only[dS];omega)⟩
 ·obtain⟨k,hK,hk⟩:=jz h hT;cases hs:zl k with
  |false=>rw[hs]at hK;exact hK.elim
  |true=>
   rw[hs]at hK;refine⟨_,hK,fun hB=>?_⟩;obtain⟨v,e1,h1⟩:=hx hB;have e4: [v]= [Value.slice none 0 0]:=h1;injection e4 with e4;subst e4;obtain⟨e,hu⟩:=wS hs hk;exact⟨_,qk ho e1 hu,pg (by simp[dS])⟩
 ·obtain⟨k,hK,hk⟩:=jz h hT;cases hs:HN k with
  |false=>rw[hs]at hK;exact hK.elim
  |true=>
   rw[hs]at hK;simp only[cond_true]at hK;obtain⟨d,l,hK,hkd,g,es,clock,mv,hM,hD,hw,hcv⟩:=wT hK M;obtain⟨h1,hK⟩:=hK;refine⟨_,hK,fun hB=>?_⟩;obtain⟨v,e1,h2⟩:=hx hB;obtain⟨kt,vt,hu⟩:=Dt hs hk;refine⟨_,Jk ho (by rw[e1,hcv v h2]) hu hw hM,?_⟩;rw[←hD.len];exact pg (by simp only[dS];omega)
 ·obtain⟨k,hK,hk⟩:=jz h hT;cases hs:zl k with
  |false=>rw[hs]at hK;exact hK.elim
  |true=>
   rw[hs]at hK;exact row hK (wS hs hk)
theorem Dv{B:Prop}(hg: ∀A,g A→B→A){t:Nat}{x:Cx U}{q:Int}{k:IntKind}{K:Va U→Prop}(h:HP g T t x q K){xo yo:Operand}(ho:o.op= .index t xo yo)(hT:bf U P T)
  (hx:B→ ∃v,ce.ev xo=some v∧bd U Y S ρ n H x [v]) (hy:B→ce.ev yo=some (.int k q)): ∃v,K v∧qA P nt ce S o B (bd U Y S ρ n H) v:=by
 unfold HP at h;split at h
 ·rename_i s;obtain⟨kd,hK,hk⟩:=jz h hT;cases hs:pa kd with
  |false=>rw[hs]at hK;exact hK.elim
  |true=>
   rw[hs]at hK;obtain⟨hP,hK⟩:=hK;refine⟨_,hK,fun hB=>?_⟩;obtain⟨h0,h1⟩:=hg _ hP hB;obtain⟨v,e1,h2⟩:=hx hB;obtain⟨h2,h3⟩:=aC.strE h2;have hu:=ph hs hk;refine⟨_,Jo ho (by rw[e1,h2]) (hy hB) hu h0 h1,pg ?_⟩;simp only[dS];have:=UInt8.toNat_lt (ix (α:=UInt8) s q);omega
 ·exact h.elim
omit [ao]in
theorem aR.drop{e:aZ}: ∀{xs:List (TT U.ty e)} {vs:List Value} (k:Nat),aR U Y S e xs vs→aR U Y S e (xs.drop k) (vs.drop (k*aG U e))
 |xs,vs,0,h=>by simpa using h
 | [],vs,k+1,h=>by rw[h.nil_inv];simp;exact .nil e
 |x::xs,vs,k+1,h=>by
  obtain⟨v1,v2,rfl,h1,hl,hr⟩:=h.cons_inv;rw[show(k+1)*aG U e=v1.length+k*aG U e by rw[Nat.add_mul,Nat.one_mul,hl,Nat.add_comm],List.drop_append,show v1.drop (v1.length+k*aG U e)= []from List.drop_of_length_le (by omega),List.nil_append,Nat.add_sub_cancel_left];exact aR.drop k hr
omit [ao]in
theorem aR.take{e:aZ}: ∀{xs:List (TT U.ty e)} {vs:List Value} (k:Nat),aR U Y S e xs vs→aR U Y S e (xs.take k) (vs.take (k*aG U e))
 |xs,vs,0,h=>by simp;exact .nil e
 | [],vs,k+1,h=>by rw[h.nil_inv];simp;exact .nil e
 |x::xs,vs,k+1,h=>by
  obtain⟨v1,v2,rfl,h1,hl,hr⟩:=h.cons_inv;rw[show(k+1)*aG U e=v1.length+k*aG U e by rw[Nat.add_mul,Nat.one_mul,hl,Nat.add_comm],List.take_length_add_append];exact .cons e x _ v1 _ h1 hl (aR.take k hr)
omit [ao]in
theorem rS.addr{A:Option Addr}{cs:List Value}(h:rS Y S A cs)(hS: ∃w,S w)(hl:0<cs.length): ∃gb b,A=some ⟨gb,b,none⟩:=by
 obtain⟨w,hw⟩:=hS;exact(h w hw).addr hl
omit [ao]in
theorem rS.part{gb b:Nat}{cs:List Value}(h:rS Y S (some ⟨gb,b,none⟩) cs)(k m:Nat):rS Y S (some ⟨gb,b+k,none⟩) ((cs.drop k).take m):=fun w hw=>((h w hw).drop k).take m
theorem zP{s:aZ}{xs:List (TT U.ty s)}{cs:List Value}{gb b:Nat}{q:Int}{y:TT U.ty s}(hd:aR U Y S s xs cs)(hr:rS Y S (some ⟨gb,b,none⟩) cs)(h1:q.toNat<xs.length)(hy: ∀z,xs[q.toNat]? =some z→y=z):bd U Y S ρ n H (.pd s y) [.pointer (some ⟨gb,b+q.toNat*aG U s,none⟩)]:=by
 have e:=hy _ (List.getElem?_eq_getElem h1);refine⟨gb,_,_,rfl,?_,hr.part _ (aG U s)⟩;rw[e];exact hd.at q.toNat _ (List.getElem?_eq_getElem h1)
omit [ao]in
theorem wU{s:aZ}{xs:List (TT U.ty s)}{cs:List Value}{q:Nat}(hd:aR U Y S s xs cs)(h:q<xs.length)(hm:0<aG U s):0<cs.length:=by
 rw[hd.length];exact Nat.mul_pos (by omega) hm
theorem Dw{B:Prop}(hg: ∀A,g A→B→A){t:Nat}{x:Cx U}{q:Int}{k:IntKind}{K:Cx U→Prop}(h:KQ g T t H x q K){xo yo:Operand}(ho:o.op= .indexAddr t xo yo)(hT:bf U P T)(M:aX U X S ρ n H)(hS: ∃w,S w)
  (hx:B→ ∃v,ce.ev xo=some v∧bd U (aj ρ H++X) S ρ n H x [v]) (hy:B→ce.ev yo=some (.int k q)): ∃c,K c∧qA P nt ce S o B (bd U (aj ρ H++X) S ρ n H) ⟨false,[(1,c)]⟩:=by
 obtain⟨el,ei,h,hu,hes,hei⟩:=kg h hT;split at h
 ·rename_i s xs _;cases hb:(Nat.beq ei.sz (aG U s)&&Nat.blt 0 (aG U s))with
  |false=>rw[hb]at h;exact h.elim
  |true=>
   rw[hb]at h;simp only[Bool.and_eq_true]at hb;have hsz:=Nat.eq_of_beq_eq_true hb.1;have hpos:0<aG U s:=by simpa[Nat.blt_eq]using hb.2
   obtain⟨hP,h⟩:=h;obtain⟨y,hK,hyx⟩:=gL h;refine⟨_,hK,fun hB=>?_⟩;obtain⟨h0,h1⟩:=hg _ hP hB;obtain⟨v,e1,h2⟩:=hx hB;obtain⟨A,c,cs,e3,hd,hr,hc,hm⟩:=(show aC U _ S (.sl s) xs [v]from h2).inv;injection e3 with e3;subst e3;have h1':q.toNat<xs.length:=by omega
   obtain⟨gb,b,rfl⟩:=hr.addr hS (wU hd h1' hpos);exact⟨_,fG ho e1 (hy hB) hes h0 h1,by rw[hsz];exact gz (zP hd hr h1' hyx)⟩
 ·rename_i i v _;split at h
  ·rename_i v' s xs ty hl;cases hb:(Nat.beq v v'&&Nat.beq ei.sz (aG U s))with
   |false=>rw[hb]at h;exact h.elim
   |true=>
    rw[hb]at h;simp only[Bool.and_eq_true]at hb;have hsz:=Nat.eq_of_beq_eq_true hb.2;obtain⟨hP,hK⟩:=h;refine⟨_,hK,fun hB=>?_⟩;obtain⟨h0,h1⟩:=hg _ hP hB;obtain⟨u,e1,hi,A,l,c,e3,hn⟩:=hx hB;injection e3 with e3;subst e3;obtain⟨rfl,rfl,rfl⟩:=(hn _ _ _ (by rw[hl];rfl)).2 (Nat.eq_of_beq_eq_true hb.1);obtain⟨hm,cs,sp,hd,how,hblk⟩:=M.ent _ (af hl);obtain⟨gb,hA⟩:=how.some_ (show 0<xs.length by omega);rw[hA]at e1;refine⟨_,fG ho e1 (hy hB) hes h0 h1,gz ⟨hi,_,rfl,?_⟩⟩;intro v1 l1 m1 hr1;rw[hl]at hr1;injection hr1 with hr1;injection hr1 with g1 hr1;injection hr1 with g2 g3;subst g1;subst g2;subst g3;exact⟨Nat.le_of_eq (Nat.eq_of_beq_eq_true hb.1),fun _=>⟨gb,hA,by rw[hsz,Nat.zero_add,Nat.add_zero],h0,h1⟩⟩
  ·rename_i v' s xs hl;cases hb:(Nat.beq v v'&&Nat.beq ei.sz (aG U s))with
   |false=>rw[hb]at h;exact h.elim
   |true=>
    rw[hb]at h;simp only[Bool.and_eq_true]at hb;have hsz:=Nat.eq_of_beq_eq_true hb.2;obtain⟨hP,h⟩:=h;obtain⟨y,hK,hyx⟩:=gL h;refine⟨_,hK,fun hB=>?_⟩;obtain⟨h0,h1⟩:=hg _ hP hB;obtain⟨u,e1,hi,A,l,c,e3,hn⟩:=hx hB;injection e3 with e3;subst e3;obtain⟨rfl,rfl,rfl⟩:=(hn _ _ _ (by rw[hl];rfl)).2 (Nat.eq_of_beq_eq_true hb.1);obtain⟨hm,cs,hd,hr,_,_⟩:=M.ent _ (af hl);have h1':q.toNat<xs.length:=by omega
    obtain⟨gb,b,hA⟩:=hr.addr hS (wU hd h1' hm);rw[hA]at e1 hr;exact⟨_,fG ho e1 (hy hB) hes h0 h1,by rw[hsz];exact gz (zP hd hr h1' hyx)⟩
  ·rename_i v' d xs op hl;cases hb:(Nat.beq v v'&&Nat.beq ei.sz (aG U d.e))with
   |false=>rw[hb]at h;exact h.elim
   |true=>
    rw[hb]at h;simp only[Bool.and_eq_true]at hb;have hsz:=Nat.eq_of_beq_eq_true hb.2;obtain⟨hP,hK⟩:=h;refine⟨_,hK,fun hB=>?_⟩;obtain⟨h0,h1⟩:=hg _ hP hB;obtain⟨u,e1,hi,A,l,c,e3,hn⟩:=hx hB;injection e3 with e3;subst e3;obtain⟨rfl,rfl,rfl⟩:=(hn _ _ _ (by rw[hl];rfl)).2 (Nat.eq_of_beq_eq_true hb.1);obtain⟨C,hd,_,_⟩:=M.ent _ (af hl);obtain⟨gb,hA⟩:=d.adr hd (show 0<xs.length by omega);rw[hA]at e1;refine⟨_,fG ho e1 (hy hB) hes h0 h1,gz ⟨hi,_,rfl,?_⟩⟩;intro v1 l1 m1 hr1;rw[hl]at hr1;injection hr1 with hr1;injection hr1 with g1 hr1;injection hr1 with g2 g3;subst g1;subst g2;subst g3;exact⟨Nat.le_of_eq (Nat.eq_of_beq_eq_true hb.1),fun _=>⟨gb,hA,by rw[hsz,Nat.zero_add,Nat.add_zero],h0,h1⟩⟩
  ·exact h.elim
 ·exact h.elim
end
end Go.Proofs.YtmpeiadlohbikaaGreatDoor.V
end

section
set_option linter.unusedVariables false
set_option linter.unusedSectionVars false
set_option linter.unusedSimpArgs false
namespace Go.Proofs.YtmpeiadlohbikaaGreatDoor.V
open Go.RowKit
section
variable [bB] [ao] {U:bD} {P:Program} {nt:Nat} {T:cW U} {X:List Nat} {S:World→Prop} {ρ:Nat→Rz} {n:Nat} {H:Hs U} {R e:En U} {ce:aI} {p:di} {o:Oper} {Y:List Nat} {g:Prop→Prop}
theorem oM{x:Option Operand}{d:Int}{K:Int→Prop}(h:qI p R e x d K)(he:aJ (bd U Y S ρ n H) R e ce): ∃q,K q∧(x=none→q=d)∧(bn R e p→ ∀y,x=some y→ ∃k,ce.ev y=some (.int k q)):=by
 unfold qI at h;split at h
 ·exact⟨d,h,fun _=>rfl,fun _ y hy=>(by cases hy)⟩
 ·obtain⟨c,hK,hc⟩:=bj h he;split at hK
  ·refine⟨_,hK,fun hn=>(by cases hn),fun hp y hy=>?_⟩;injection hy with hy;subst hy;obtain⟨v,e1,h1⟩:=hc hp;exact⟨_,by rw[e1,(aC.intE h1).1]⟩
  ·exact hK.elim
omit [ao]in
theorem tW{x:Option Operand}{q:Int}(h0:x=none→q=0)(h1: ∀y,x=some y→ ∃k,ce.ev y=some (.int k q)):iW ce x=some q:=by
 cases x with
 |none=>rw[h0 rfl];rfl
 |some y=>obtain⟨k,hk⟩:=h1 y rfl;simp only[iW,hk]
omit [ao]in
theorem tX{x:Option Operand}{q:Int}{l:Nat}(h0:x=none→q=l)(h1: ∀y,x=some y→ ∃k,ce.ev y=some (.int k q)):iX ce l x=some q:=by
 cases x with
 |none=>rw[h0 rfl];rfl
 |some y=>obtain⟨k,hk⟩:=h1 y rfl;simp only[iX,hk]
theorem Dx{s:aZ}{xs:List (TT U.ty s)}{A:Option Addr}{c a b:Nat}{cs:List Value}(hd:aR U Y S s xs cs)(hr:rS Y S A cs)(hc:xs.length≤c)(hm:c≤maxLen)(hS: ∃w,S w)(h1:a≤b)(h2:b≤xs.length):
  bd U Y S ρ n H (.d (.sl s) ((xs.take b).drop a)) [.slice (if c=a then A else A.map (·.add (a*aG U s))) (b - a) (c - a)]:=by
 have hl:((xs.take b).drop a).length=b - a:=by rw[List.length_drop,List.length_take];omega
 have hd':=(hd.take b).drop a;rw[←hl];refine aC.sl s _ _ _ _ hd' ?_ (by rw[hl];omega) (by omega);by_cases hn:(List.drop (a*aG U s) (cs.take (b*aG U s)))= []
 ·rw[hn];exact fun w _=>mo.nil
 ·have hpos:0<(List.drop (a*aG U s) (cs.take (b*aG U s))).length:=List.length_pos_iff.2 hn;have hcl:0<cs.length:=by rw[List.length_drop,List.length_take]at hpos;omega
  obtain⟨gb,b0,rfl⟩:=hr.addr hS hcl;have hab:a<b:=by
   rcases Nat.lt_or_ge a b with h|h
   ·exact h
   ·have:a=b:=by omega
    subst this;rw[List.length_drop,List.length_take]at hpos;omega
  rw[if_neg (by omega)];intro w hw;have:=((hr w hw).take (b*aG U s)).drop (a*aG U s);simpa[Addr.add_mid]using this
theorem Dy(hg: ∀A,g A→bn R e p→A){t:Nat}{s:List UInt8}{lo hi:Option Operand}{K:Cx U→Prop}(h:qI p R e lo 0 fun a=>qI p R e hi (s.length:Int) fun b=>VS (g (0≤a∧a≤b∧b≤s.length)) (match lo,hi with
  |none,_=>K (.d .str (s.take b.toNat))
  |_,none=>K (.d .str (s.drop a.toNat))
  |_,_=>K (.d .str ((s.take b.toNat).drop a.toNat)))) {xo:Operand} (ho:o.op= .slice t xo lo hi none) (hu:P.underlying t=some .string) (he:aJ (bd U Y S ρ n H) R e ce)
  (hx:bn R e p→ ∃v,ce.ev xo=some v∧bd U Y S ρ n H (.d .str s) [v]): ∃c,K c∧qA P nt ce S o (bn R e p) (bd U Y S ρ n H) ⟨false,[(1,c)]⟩:=by
 obtain⟨a,h,ha0,ha⟩:=oM h he;obtain⟨b,h,hb0,hb⟩:=oM h he;obtain⟨hP,hK⟩:=h;have key:bn R e p→0≤a∧a≤b∧b≤s.length∧ci P nt ce S o (sv ((List.take b.toNat s).drop a.toNat))∧s.length≤9223372036854775807:=fun hp=>by
  obtain⟨h0,h1,h2⟩:=hg _ hP hp;obtain⟨v,e1,h3⟩:=hx hp;obtain⟨rfl,h4⟩:=aC.strE h3;exact⟨h0,h1,h2,Je ho e1 hu (tW ha0 (ha hp)) (tX hb0 (hb hp)) h0 h1 h2,h4⟩
 have lens: ∀i j:Nat,s.length≤9223372036854775807→((List.take j s).drop i).length≤9223372036854775807:=fun i j h=>by rw[List.length_drop,List.length_take];omega
 cases lo with
 |none=>
  have hK:K (.d .str (List.take b.toNat s)):=hK;refine⟨_,hK,fun hp=>?_⟩;obtain⟨h0,h1,h2,hy,h4⟩:=key hp;have:=ha0 rfl;subst this;exact⟨_,hy,by rw[Int.toNat_zero,List.drop_zero];exact On (by rw[List.length_take];omega)⟩
 |some lx=>
  cases hi with
  |none=>
   have hK:K (.d .str (List.drop a.toNat s)):=hK;refine⟨_,hK,fun hp=>?_⟩;obtain⟨h0,h1,h2,hy,h4⟩:=key hp;have:=hb0 rfl;subst this;exact⟨_,hy,by rw[Int.toNat_natCast,List.take_length];exact On (by rw[List.length_drop];omega)⟩
  |some hx=>
   have hK:K (.d .str ((List.take b.toNat s).drop a.toNat)):=hK;refine⟨_,hK,fun hp=>?_⟩;obtain⟨h0,h1,h2,hy,h4⟩:=key hp;exact⟨_,hy,On (lens _ _ h4)⟩
theorem Dz(hg: ∀A,g A→bn R e p→A){t el:Nat}{s:aZ}{xs:List (TT U.ty s)}{lo hi:Option Operand}{K:Cx U→Prop}(h:qI p R e lo 0 fun a=>qI p R e hi (xs.length:Int) fun b=>VS (g (0≤a∧a≤b∧b≤xs.length)) (match lo,hi with
  |none,_=>K (.d (.sl s) (xs.take b.toNat))
  |_,none=>K (.d (.sl s) (xs.drop a.toNat))
  |_,_=>K (.d (.sl s) ((xs.take b.toNat).drop a.toNat)))) {xo:Operand} (ho:o.op= .slice t xo lo hi none) (hes:aq P t=some (el,aG U s)) (he:aJ (bd U Y S ρ n H) R e ce) (hS: ∃w,S w)
  (hx:bn R e p→ ∃v,ce.ev xo=some v∧bd U Y S ρ n H (.d (.sl s) xs) [v]): ∃c,K c∧qA P nt ce S o (bn R e p) (bd U Y S ρ n H) ⟨false,[(1,c)]⟩:=by
 obtain⟨a,h,ha0,ha⟩:=oM h he;obtain⟨b,h,hb0,hb⟩:=oM h he;obtain⟨hP,hK⟩:=h;have key:bn R e p→ ∃v,ci P nt ce S o v∧bd U Y S ρ n H (.d (.sl s) ((List.take b.toNat xs).drop a.toNat)) [v]:=fun hp=>by
  obtain⟨h0,h1,h2⟩:=hg _ hP hp;obtain⟨v,e1,h3⟩:=hx hp;obtain⟨A,c,cs,e3,hd,hr,hc,hm⟩:=(show aC U _ S (.sl s) xs [v]from h3).inv;injection e3 with e3;subst e3;have hlc:b≤(c:Int):=by
   have:(xs.length:Int)≤c:=by exact_mod_cast hc
   omega
  exact⟨_,ml (P:=P) (n:=nt) (S:=S) ho e1 hes (tW ha0 (ha hp)) (tX hb0 (hb hp)) h0 h1 hlc hc,Dx hd hr hc hm hS (by omega) (by omega)⟩
 cases lo with
 |none=>
  have hK:K (.d (.sl s) (List.take b.toNat xs)):=hK;refine⟨_,hK,fun hp=>?_⟩;obtain⟨v,hy,hv⟩:=key hp;have:=ha0 rfl;subst this;exact⟨v,hy,gz hv⟩
 |some lx=>
  cases hi with
  |none=>
   have hK:K (.d (.sl s) (List.drop a.toNat xs)):=hK;refine⟨_,hK,fun hp=>?_⟩;obtain⟨v,hy,hv⟩:=key hp;have:=hb0 rfl;subst this;rw[Int.toNat_natCast,List.take_length]at hv;exact⟨v,hy,gz hv⟩
  |some hx=>
   have hK:K (.d (.sl s) ((List.take b.toNat xs).drop a.toNat)):=hK;refine⟨_,hK,fun hp=>?_⟩;obtain⟨v,hy,hv⟩:=key hp;exact⟨v,hy,gz hv⟩
theorem DA(hg: ∀A,g A→bn R e p→A){t:Nat}{x:Cx U}{lo hi:Option Operand}{K:Cx U→Prop}(h:C4 g T t p R e x lo hi K){xo:Operand}(ho:o.op= .slice t xo lo hi none)(hT:bf U P T)(he:aJ (bd U Y S ρ n H) R e ce)(hS: ∃w,S w)
  (hx:bn R e p→ ∃v,ce.ev xo=some v∧bd U Y S ρ n H x [v]): ∃c,K c∧qA P nt ce S o (bn R e p) (bd U Y S ρ n H) ⟨false,[(1,c)]⟩:=by
 unfold C4 at h;split at h
 ·rename_i s;obtain⟨k,h,hk⟩:=jz h hT;cases hs:pa k with
  |false=>rw[hs]at h;exact h.elim
  |true=>
   rw[hs]at h;simp only[cond_true]at h;exact Dy hg h ho (ph hs hk) he hx
 ·rename_i s xs;obtain⟨el,ei,h,hu,hes,hei⟩:=kg h hT;cases hs:Nat.beq ei.sz (aG U s)with
  |false=>rw[hs]at h;exact h.elim
  |true=>
   rw[hs]at h;simp only[cond_true]at h;exact Dz hg h ho (by rw[←Nat.eq_of_beq_eq_true hs];exact hes) he hS hx
 ·exact h.elim
theorem DB{B:Prop}{t f:Nat}{l:List (cd U)}{K:Va U→Prop}(h:HI T t f l K){xo:Operand}(ho:o.op= .field t xo f)(hT:bf U P T)(hx:B→ ∃v,ce.ev xo=some v∧cM (bd U Y S ρ n H) ⟨true,l⟩ v): ∃v,K v∧qA P nt ce S o B (bd U Y S ρ n H) v:=by
 unfold HI at h;split at h
 ·rename_i ti hti;split at h
  ·rename_i off ft hf;obtain⟨h1,h2⟩:=(hT _ _ hti).fs _ _ _ hf;split at h
   ·rename_i fi hfi;have hfk:=hT _ _ hfi;obtain⟨l',hK,hs'⟩:=gw h;obtain⟨v,hv,ti',hti',hva⟩:=lY hK hT;rw[hfi]at hti';injection hti' with hti';subst hti';refine⟨v,hv,fun hB=>?_⟩;obtain⟨u,e1,us,rfl,hs⟩:=hx hB;obtain⟨a1,a2⟩:=hs' _ _ _ _ _ _ hs;have hlen:((us.drop off).take fi.sz).length=fi.sz:=by rw[List.length_take,List.length_drop];omega
    obtain⟨w,hw,c1,c2⟩:=hva _ _ _ _ _ _ a1 hlen;cases ha:ve fi.kd with
    |true=>rw[c1 ha]at hw;exact⟨_,Bk ho e1 h1 h2 (r5 hfk ha) rfl hlen,hw⟩
    |false=>
     have yh:=pc hfk ha;have:=c2 ha;refine⟨w,EK ho e1 h1 h2 (hfk.one ha) ?_,hw⟩;have h0:((us.drop off).take fi.sz)[0]? =some w:=by rw[this];rfl
     rw[yh,List.getElem?_take,if_pos (by decide),List.getElem?_drop]at h0;exact h0
   ·exact h.elim
  ·exact h.elim
 ·exact h.elim
theorem r8{fs:List (Nat×Nat)}{pls:List (Nat×Nat)}(hT:bf U P T)(hpl: ∀f off ft,dT fs f=some (off,ft)→ ∃k,pls[f]? =some (off,k)∧(P.info? ft).map (·.size)=some k)(he:aJ (bd U Y S ρ n H) R e ce):
  ∀{ps:List (Nat×Operand)} {l:List (cd U)} {K:List (cd U)→Prop},CZ T p R e fs ps l K→ ∃l',K l'∧(bn R e p→ ∀zs,bJ (bd U Y S ρ n H) l zs→ ∃vs cells,ce.evs (ps.map (·.2))=some vs∧lT pls zs ((ps.map (·.1)).zip vs)=some cells∧bJ (bd U Y S ρ n H) l' cells)
 | [],l,K,h=>⟨l,h,fun _ zs hs=>⟨[],zs,rfl,rfl,hs⟩⟩
 |(f,x)::ps,l,K,h=>by
  have h:(match dT fs f with
   |some (off,ft)=>(match aD T ft with
    |some fi=>j6 p R e x fun y=>bif Nat.beq (ke y.l) fi.sz then rT 40 l off fi.sz y.l fun l=>CZ T p R e fs ps l K else False
    |none=>False)
   |none=>False):=h
  split at h
  ·rename_i off ft hf;split at h
   ·rename_i fi hfi;obtain⟨y,h,hy⟩:=cH h he;cases hb:Nat.beq (ke y.l) fi.sz with
    |false=>rw[hb]at h;exact h.elim
    |true=>
     rw[hb]at h;simp only[cond_true]at h;have hb:=Nat.eq_of_beq_eq_true hb;obtain⟨l1,h1,hs1⟩:=jx h;obtain⟨l2,h2,hs2⟩:=r8 hT hpl he (ps:=ps) h1;refine⟨l2,h2,fun hp zs hz=>?_⟩;obtain⟨v,e1,hv⟩:=hy hp;have hc:=hv.cells;have hcl:=hc.len;obtain⟨k,hk1,hk2⟩:=hpl _ _ _ hf;have hsz:=(hT _ _ hfi).size;rw[hk2]at hsz;injection hsz with hsz;obtain⟨a1,a2⟩:=hs1 _ _ _ _ _ _ _ hz hc (by omega);obtain⟨vs,cells,e2,e3,e4⟩:=hs2 hp _ a1;refine⟨v::vs,cells,?_,?_,e4⟩
     ·simp only[List.map_cons,aI.evs,e1,e2]
     ·simp only[List.map_cons,List.zip_cons_cons,lT,hk1];have b1:Nat.beq v.cells.toList.length k=true:=by rw[show v.cells.toList.length=k by omega];exact Nat.beq_refl k
      have b2:Nat.ble (off+k) zs.length=true:=Nat.ble_eq_true_of_le (by omega);rw[b1,b2];simp only[Bool.and_self,cond_true];rw[show off+k=off+v.cells.toList.length by omega,←List.append_assoc];exact e3
   ·exact h.elim
  ·exact h.elim
theorem Iq{x:Va U}{K:Cx U→Prop}(h:HG x K): ∃c,K c∧ ∀v,cM (bd U Y S ρ n H) x v→bd U Y S ρ n H c [v]:=by
 unfold HG at h;split at h
 ·rename_i k c;exact⟨c,h,fun v hv=>(show bJ _ [(k,c)] [v]from hv).one1.1⟩
 ·exact h.elim
omit [ao]in
theorem q8{g g':Nat→Option (Nat×Nat)}(hg: ∀i x,g i=some x→g' i=some x): ∀(parts:List (Nat×Value)) (cs out:Array Value),Instr.fill g cs parts=some out→Instr.fill g' cs parts=some out
 | [],cs,out,h=>by simpa[Instr.fill]using h
 |(i,v)::r,cs,out,h=>by
  unfold Instr.fill at h⊢;cases hi:g i with
  |none=>rw[hi]at h;simp at h
  |some x=>
   rw[hi]at h;rw[hg _ _ hi];obtain⟨off,sz⟩:=x;simp only at h⊢;split at h
   ·cases h
   ·rename_i hc;rw[if_neg hc];exact q8 hg r _ _ h
omit [ao]in
theorem zQ{m el k:Nat}(hm:(P.info? el).map (·.size)=some m): ∀{c:Nat} {off f x ft:Nat},dT (Kq m el c off) f=some (x,ft)→ ∃k,((Kq m el c off).map fun q=>(q.1,m))[f]? =some (x,k)∧(P.info? ft).map (·.size)=some k
 |0,off,f,x,ft,h=>by cases f<;>cases h
 |c+1,off,0,x,ft,h=>by
  have h:some (off,el)=some (x,ft):=h;injection h with h;injection h with h1 h2;subst h1;subst h2;exact⟨m,rfl,hm⟩
 |c+1,off,f+1,x,ft,h=>zQ (k:=k) hm (c:=c) (off:=off+m) (f:=f) h
omit [ao]in
theorem zR{m el:Nat}: ∀{c off i:Nat} {x:Nat×Nat},((Kq m el c off).map fun q=>(q.1,m))[i]? =some x→x=(off+i*m,m)
 |0,off,i,x,h=>by cases h
 |c+1,off,0,x,h=>by
  have h:some (off,m)=some x:=h;injection h with h;rw[←h,Nat.zero_mul];rfl
 |c+1,off,i+1,x,h=>by
  have:=zR (c:=c) (off:=off+m) (i:=i) h;rw[this,Nat.succ_mul];congr 1;omega
omit [ao]in
theorem DC{t k e:Nat}(h:C3 T t=some (k,e))(hT:bf U P T):P.underlying t=some (.array k e):=by
 unfold C3 at h;split at h
 ·rename_i ti hti;split at h
  ·rename_i k' e' hk;have:=(hT _ _ hti).kd;rw[hk]at this;injection h with h;injection h with h1 h2;subst h1;subst h2;exact this
  ·cases h
 ·cases h
omit [ao]in
theorem Ir{K:Cx U→Prop}{i off sz:Nat}{q:Int}{n:Nat}(h:OO K i off sz q n): ∃j:Nat,K (.ptr i (off+j*sz))∧(0≤q→q<n→q=j):=by
 unfold OO at h;split at h
 ·by_cases e:q=0
  ·exact⟨0,by simpa using h.1 (decide_eq_true e),fun _ _=>e⟩
  ·exact⟨1,by simpa using h.2 (decide_eq_false e),fun _ _=>by omega⟩
 ·by_cases e:q=0
  ·exact⟨0,by simpa using h.1 (decide_eq_true e),fun _ _=>e⟩
  ·have h:=h.2 (decide_eq_false e);by_cases e1:q=1
   ·exact⟨1,by simpa using h.1 (decide_eq_true e1),fun _ _=>e1⟩
   ·exact⟨2,h.2 (decide_eq_false e1),fun _ _=>by omega⟩
 ·exact h.elim
theorem DE{B:Prop}(hg: ∀A,g A→B→A){t l e:Nat}{x:Cx U}{q:Int}{k:IntKind}{K:Cx U→Prop}{xo yo:Operand}(h:HR g T l e x yo q K)(ho:o.op= .indexAddr t xo yo)(hA:C3 T t=some (l,e))(hT:bf U P T)
  (hx:B→ ∃v,ce.ev xo=some v∧bd U Y S ρ n H x [v]) (hy:B→ce.ev yo=some (.int k q)): ∃c,K c∧qA P nt ce S o B (bd U Y S ρ n H) ⟨false,[(1,c)]⟩:=by
 have hu:=DC hA hT;unfold HR at h;split at h
 ·rename_i ei hei;have hes:ly P t=some (l,ei.sz):=by
   have h2:=(hT _ _ hei).size;unfold ly;rw[hu];cases hq:P.info? e with
   |none=>rw[hq]at h2;cases h2
   |some i=>rw[hq]at h2;simp at h2;simp[hq,h2]
  split at h
  ·rename_i s hs;cases hb:Nat.beq ei.sz (aG U s)with
   |false=>rw[hb]at h;exact h.elim
   |true=>
    rw[hb]at h;have hsz:=Nat.eq_of_beq_eq_true hb;simp only[cond_true]at h;split at h
    ·rename_i i off;split at h
     ·rename_i kk c;cases hlt:Nat.blt c l with
      |false=>rw[hlt]at h;exact h.elim
      |true=>
       rw[hlt]at h;refine⟨_,h,fun hB=>?_⟩;obtain⟨v,e1,hi,hr,gb,hA',e2⟩:=hx hB;injection e2 with e2;subst e2;exact⟨_,Jd (k:=kk) (j:=c) ho e1 rfl hes (by simpa[Nat.blt_eq]using hlt),gz ⟨hi,hr,gb,hA',by rw[hsz]⟩⟩
     ·rcases h with⟨hP,hK⟩|⟨hP,hK⟩
      ·refine⟨_,hK,fun hB=>?_⟩;obtain⟨h0,h1⟩:=hg _ hP hB;obtain⟨v,e1,hi,hr,gb,hA',e2⟩:=hx hB;injection e2 with e2;subst e2;exact⟨_,xI ho e1 (hy hB) hes h0 h1,gz ⟨hi,hr,h0,h1,gb,hA',by rw[hsz];rfl⟩⟩
      ·obtain⟨j,hK,hj⟩:=Ir hK;refine⟨_,hK,fun hB=>?_⟩;obtain⟨h0,h1⟩:=hg _ hP hB;obtain⟨v,e1,hi,hr,gb,hA',e2⟩:=hx hB;injection e2 with e2;subst e2;have e3:=hj h0 h1;subst e3;exact⟨_,xI ho e1 (hy hB) hes h0 h1,gz ⟨hi,hr,gb,hA',by rw[hsz,Int.toNat_natCast]⟩⟩
    ·rename_i m s' xs;cases hb2:(Nat.beq l m&&Nat.beq (aG U s') (aG U s))with
     |false=>rw[hb2]at h;exact h.elim
     |true=>
      rw[hb2]at h;rw[Bool.and_eq_true]at hb2;have e3:=Nat.eq_of_beq_eq_true hb2.1;have e4:=Nat.eq_of_beq_eq_true hb2.2;obtain⟨hP,h⟩:=h;obtain⟨y,hK,hyx⟩:=gL h;refine⟨_,hK,fun hB=>?_⟩;obtain⟨h0,h1⟩:=hg _ hP hB;obtain⟨v,e1,gb,b,us,e2,hd,hr⟩:=hx hB;injection e2 with e2;subst e2;obtain⟨hd1,hd2⟩:=aC.inv hd;exact⟨_,xI ho e1 (hy hB) hes h0 h1,by rw[hsz,←e4];exact gz (zP hd1 hr (by rw[hd2];omega) hyx)⟩
    ·exact h.elim
  ·exact h.elim
 ·exact h.elim
theorem DF{B:Prop}(hg: ∀A,g A→B→A){t:Nat}{l:List (cd U)}{q:Int}{k:IntKind}{K:Va U→Prop}(h:HQ g T t l q K){xo yo:Operand}(ho:o.op= .index t xo yo)(hT:bf U P T)
  (hx:B→ ∃v,ce.ev xo=some v∧cM (bd U Y S ρ n H) ⟨true,l⟩ v) (hy:B→ce.ev yo=some (.int k q)): ∃v,K v∧qA P nt ce S o B (bd U Y S ρ n H) v:=by
 unfold HQ at h;split at h
 ·rename_i ti hti;have hkd:=(hT _ _ hti).kd;split at h
  ·rename_i m e m' s hk hs;rw[hk]at hkd;split at h
   ·rename_i ei hei;cases hb:(Nat.beq m m'&&Nat.beq ei.sz 1&&Nat.beq (aG U s) 1&&!ve ei.kd)with
    |false=>rw[hb]at h;exact h.elim
    |true=>
     rw[hb]at h;simp only[Bool.and_eq_true,Bool.not_eq_true']at hb;obtain⟨⟨⟨e1,e2⟩,e3⟩,e4⟩:=hb;have e1:=Nat.eq_of_beq_eq_true e1;have e2:=Nat.eq_of_beq_eq_true e2;have e3:=Nat.eq_of_beq_eq_true e3;simp only[cond_true]at h;obtain⟨(xs:List (TT U.ty s)),h,hxs⟩:=bu h;obtain⟨hP,h⟩:=h;obtain⟨x,hK,hix⟩:=gL h;refine⟨_,hK,fun hB=>?_⟩;obtain⟨h0,h1⟩:=hg _ hP hB;obtain⟨v,f1,us,rfl,h2⟩:=hx hB;obtain⟨hd1,hd2⟩:=aC.inv (hxs _ _ _ _ _ _ h2);have hqk:q.toNat<xs.length:=by have:xs.length=m':=hd2;omega
     have hat:=hd1.at q.toNat _ (List.getElem?_eq_getElem hqk);rw[←hix _ (List.getElem?_eq_getElem hqk)]at hat;have hl:=hat.length;rw[e3]at hat hl;have hv: ∃u,(us.drop (q.toNat*1)).take 1= [u]:=by
      match hh:(us.drop (q.toNat*1)).take 1,hl with
      | [u],_=>exact⟨u,rfl⟩
     obtain⟨u,hu⟩:=hv;rw[hu]at hat;have hget:us[q.toNat]? =some u:=by
      have:((us.drop (q.toNat*1)).take 1)[0]? =some u:=by rw[hu];rfl
      rw[List.getElem?_take,if_pos (by decide),List.getElem?_drop]at this;simpa using this
     exact⟨u,LW ho f1 (hy hB) hkd ((hT _ _ hei).size.trans (by rw[e2])) ((hT _ _ hei).one e4) h0 h1 hget,gz hat⟩
   ·exact h.elim
  ·exact h.elim
 ·exact h.elim
end
end Go.Proofs.YtmpeiadlohbikaaGreatDoor.V
end

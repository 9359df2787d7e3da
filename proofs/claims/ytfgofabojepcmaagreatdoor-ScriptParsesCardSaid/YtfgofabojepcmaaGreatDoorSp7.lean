/- Operations that act are right. -/
import Derived.Test.YtfgofabojepcmaaGreatDoorSp6
section
set_option linter.unusedVariables false
set_option linter.unusedSectionVars false
set_option linter.unusedSimpArgs false
namespace Go.Proofs.YtfgofabojepcmaaGreatDoor.V
open Go.RowKit
section
variable [bF] [al] {U:bJ} {P:Program} {nt:Nat} {T:cH U} {X:List Nat} {S:World→Prop} {ρ:Nat→Rz} {n:Nat} {H:Hs U} {R e:En U} {ce:aK} {p:b8} {o:Oper} {Y:List Nat} {g:Prop→Prop}
omit [al]in
theorem Dy{k:IntKind}{a b:Int}(h:cZ k a)(h':cZ k b):cZ k (max a b):=by rw[Int.max_def];split<;>assumption
omit [al]in
theorem Dz{k:IntKind}{a b:Int}(h:cZ k a)(h':cZ k b):cZ k (min a b):=by rw[Int.min_def];split<;>assumption
omit [al]in
theorem BW{x y:Operand}{t u:Nat}{k:IntKind}{p q:Int}(ho:o.op= .call {callee:= .builtin .min,args:= #[x,y],argTypes:= #[t,u]})(hx:ce.ev x=some (.int k p))(hy:ce.ev y=some (.int k q)):cb P nt ce S o (.int k (min p q)):=fun a r w _=>by
 refine ez ho (r.eval hx) (r.eval hy) fun c=>?_;have e:(if q<p then q else p)=min p q:=by simp only[Int.min_def];split<;>split<;>omega
 simp[builtin,Builtin.min_,Builtin.min2,←e]
omit [al]in
theorem bB.nth{V:Cx U→List Value→Prop}: ∀{l:List (Va U)} {us:List Value} {i:Nat} {x:Va U},bB V l us→cL l i=some x→ ∃u,us[i]? =some u∧ct V x u
 | [],us,i,x,h,hi=>by cases i<;>cases hi
 |y::r,us,0,x,h,hi=>by
  obtain⟨v,us',rfl,h1,_⟩:=h;injection hi with hi;subst hi;exact⟨v,rfl,h1⟩
 |y::r,us,i+1,x,h,hi=>by
  obtain⟨v,us',rfl,_,h2⟩:=h;obtain⟨u,hu,hv⟩:=bB.nth h2 (i:=i) hi;exact⟨u,hu,hv⟩
omit [al]in
theorem y5{t:Nat}{x:Operand}{A:Addr}{u:Value}(ho:o.op= .load t x)(hx:ce.ev x=some (.pointer (some A)))(h: ∀w,S w→(loadVar t A).run P w= .ok u w):cb P nt ce S o u:=fun a r w hS=>by
 unfold execOp;simp[ho,r.eval hx,Instr.loadAt,Instr.sureAddr,h w hS]
omit [al]in
theorem ik{α:Type}{a:Array α}{l:List α}(h:a.toList=l):a=l.toArray:=by rw[←h]
omit [al]in
theorem jS{c:Call}{b:Builtin}{xs:List Operand}{ts:List TypeId}(h1:c.callee= .builtin b)(h2:c.args.toList=xs)(h3:c.argTypes.toList=ts):c={callee:= .builtin b,args:=xs.toArray,argTypes:=ts.toArray}:=by
 obtain⟨a,b',c'⟩:=c;simp only at h1 h2 h3;rw[h1,ik h2,ik h3]
theorem vp: ∀{l:List (Va U)} {K:List Nat→Prop},II l K→ ∃js,K js∧ ∀vs,bB (aV U Y S ρ n H) l vs→vs=js.map (fun j=>Value.pointer (ρ j).A)∧ ∀j∈js,j<n∧bc (aB H j)=none∧ ∃g,(ρ j).A=some ⟨g,0,none⟩
 | [],K,h=>⟨[],h,fun vs hv=>⟨hv,fun j hj=>by cases hj⟩⟩
 |x::l,K,h=>by
  have h:(match (generalizing:=false) x with
   |⟨false,(_,.ptr j 0):: []⟩=>II l fun r=>K (j::r)
   |_=>False):=h
  split at h
  ·rename_i k j _;obtain⟨js,h,hj⟩:=vp (l:=l) h;refine⟨_,h,fun vs hv=>?_⟩;obtain⟨v,us,rfl,h1,h2⟩:=hv;obtain⟨hi,hr,g,hA,e⟩:=(show bK _ [(k,.ptr j 0)] [v]from h1).one1.1;injection e with e;obtain⟨e2,h3⟩:=hj us h2;refine⟨by rw[e2,e,List.map_cons,hA],fun i hi2=>?_⟩;rcases List.mem_cons.1 hi2 with rfl|hi2
   ·exact⟨hi,hr,g,hA⟩
   ·exact h3 i hi2
  ·exact h.elim
omit [al]in
theorem LD{V:Cx U→List Value→Prop}{x:Va U}{u:Value}{b:Bool}(h:ct V x u)(hb:(x.ag==b)=true): ∃vs,d9 b u vs∧bK V x.l vs:=by
 have e:x.ag=b:=by simpa using hb
 subst e;unfold ct at h;unfold d9;cases hx:x.ag with
 |true=>rw[hx]at h;obtain⟨vs,e,hs⟩:=h;exact⟨vs,e,hs⟩
 |false=>rw[hx]at h;exact⟨[u],rfl,h⟩
theorem iK{s:bj}{y:TT U.ty s}{u:Value}{vs:List Value}(h:d9 (e8 s) u vs)(hd:aG U Y S s y vs):ct (aV U Y S ρ n H) (pB s y) u:=by
 unfold ct pB;unfold d9 at h;have hs:bK (aV U Y S ρ n H) [(aS U s,.d s y)] vs:=⟨vs,[],by simp,hd.length,hd,rfl⟩;cases hx:e8 s with
 |true=>rw[hx]at h;exact⟨vs,h,hs⟩
 |false=>rw[hx]at h;simp only at h;subst h;exact hs
theorem vq(hpr:al.pr=P){t:Nat}{m kx:Operand}{ok:Bool}{K:AV U→Prop}(ho:o.op= .lookup t m kx ok)(h:f8 p R e m fun c=>jH p R e kx fun kv=>uM H c fun d l=>bif tl T t d&&(kv.ag==e8 d.k)then cQ 20 d.k kv.l fun k=>Fc ok d (@ea _ _ d.dec l k) K else False)(hT:bl U P T)(M:bd U X S ρ n H)(he:aM (aV U (aj ρ H++X) S ρ n H) R e ce):
  match ok with
  |false=> ∃x,K (.v x)∧lR P nt ce S o (bg R e p) (aV U (aj ρ H++X) S ρ n H) x
  |true=> ∃l,K (.tup l)∧(bg R e p→ ∃us:List Value,cb P nt ce S o (.tuple us.toArray)∧bB (aV U (aj ρ H++X) S ρ n H) l us):=by
 obtain⟨c,h,hc⟩:=bm h he;obtain⟨kv,h,hk⟩:=c8 h he;obtain⟨d,l,h,hkd,g,es,clock,mv,hM,hD,hw,hcv⟩:=r8 h M;cases hb:(tl T t d&&(kv.ag==e8 d.k))with
 |false=>rw[hb]at h;exact h.elim
 |true=>
  rw[hb]at h;simp only[cond_true]at h;simp only[Bool.and_eq_true]at hb;have ht:=ml hb.1 hT;obtain⟨k,h,hkk⟩:=bt h
  letI:=d.dec
  unfold rY at hkd;rw[hpr]at hkd;obtain⟨L,henc,z,hz,hz0⟩:=hkd;have key:bg R e p→ce.ev m=some (.map (some g))∧ce.ev kx=some (d.enc k):=fun hp=>by
   obtain⟨u,e1,h1⟩:=hc hp;obtain⟨q,e2,h2⟩:=hk hp;obtain⟨vs,h3,h4⟩:=LD h2 hb.2;have e3:=hcv u h1;have e4:=henc _ _ k vs q (hkk _ _ _ _ _ _ h4) h3;rw[e1,e2,e3,e4];exact⟨rfl,rfl⟩
  have val: ∃vs,d9 (e8 d.v) ((ea mv k).getD z) vs∧aG U (aj ρ H++X) S d.v ((ea l k).getD d.zero) vs:=by
   rcases hD.get k with⟨h1,h2⟩|⟨y,u,h1,h2,h3⟩
   ·rw[h1,h2];exact hz0 _ _
   ·rw[h1,h2];exact h3
  have som:(ea mv k).isSome=(ea l k).isSome:=by
   rcases hD.get k with⟨h1,h2⟩|⟨y,u,h1,h2,h3⟩
   ·rw[h1,h2];rfl
   ·rw[h1,h2];rfl
  obtain⟨vs,hv1,hv2⟩:=val;have mq: ∀w,S w→Hp w [(some g,.map es clock)]:=fun w hS=>Hp.one1 (hw w hS);cases ok with
  |false=>
   refine⟨_,h,fun hp=>?_⟩;obtain⟨e1,e2⟩:=key hp;exact⟨_,uq (ev:=fun v:Value=>v) ho e1 e2 ht L hz mq (i:=0) rfl hM,iK hv1 hv2⟩
  |true=>
   refine⟨_,h,fun hp=>?_⟩;obtain⟨e1,e2⟩:=key hp;refine⟨[_,_],qz (ev:=fun v:Value=>v) ho e1 e2 ht L hz mq (i:=0) rfl hM,_,_,rfl,iK hv1 hv2,_,_,rfl,?_,rfl⟩;rw[som];exact g9
omit [al]in
theorem DA{x:Operand}{K:AV U→Prop}(h:IJ p R e x K):jH p R e x (fun v=>K (.v v))∨ ∃t l,x= .tmp t∧aB R t=none∧aB e t=some (.tup l)∧K (.tup l):=by
 unfold IJ at h;split at h
 ·rename_i t;unfold jH;simp only;split at h
  ·rename_i q y hR;first|(rw[hR];exact .inl h)|exact .inl h
  ·exact h.elim
  ·rename_i hR;split at h
   ·rename_i y hy;first|(rw[hR,hy];exact .inl h)|(rw[hy];exact .inl h)|exact .inl h
   ·rename_i l hy;exact .inr ⟨t,l,rfl,hR,hy,h⟩
   ·exact h.elim
 ·exact .inl h
theorem y6{B:Prop}{op:BinOp}{c:Cx U}{K:Va U→Prop}{t u:Nat}{xo:Operand}(h:Fe T op t c K)(ho:o.op= .binOp op t xo (.const .nilIface) u)(hT:bl U P T){Y:List Nat}
  (hx:B→ ∃v,ce.ev xo=some v∧aV U Y S ρ n H c [v]): ∃v,K v∧lR P nt ce S o B (aV U Y S ρ n H) v:=by
 obtain⟨k,h,hk⟩:=eK h hT;cases hb:BQ k with
 |false=>rw[hb]at h;exact h.elim
 |true=>
  rw[hb]at h;obtain⟨ms,ht⟩: ∃ms,P.underlying t=some (.interface ms):=by cases k<;>first|exact hk|cases hb
  have key: ∀b:Bool,(∀v,aV U Y S ρ n H c [v]→(v= .nilIface∧b=true)∨ ∃t' v',v= .iface t' v'∧b=false)→Iq op b K→ ∃v,K v∧lR P nt ce S o B (aV U Y S ρ n H) v:=fun b hv h=>by
   unfold Iq at h;split at h
   ·refine⟨_,h,fun hB=>?_⟩;obtain⟨v,e1,h1⟩:=hx hB;rcases hv v h1 with⟨rfl,rfl⟩|⟨t',v',rfl,rfl⟩
    ·exact⟨_,iT (b:=true) ho e1 ht (fun d w=>gU ht d w) (fun w y=>by cases y<;>rfl),g9⟩
    ·exact⟨_,iT (b:=false) ho e1 ht (fun d w=>fw ht d w) (fun w y=>by cases y<;>rfl),g9⟩
   ·refine⟨_,h,fun hB=>?_⟩;obtain⟨v,e1,h1⟩:=hx hB;rcases hv v h1 with⟨rfl,rfl⟩|⟨t',v',rfl,rfl⟩
    ·exact⟨_,sT (b:=true) ho e1 ht (fun d w=>gU ht d w) (fun w y=>by cases y<;>rfl),g9⟩
    ·exact⟨_,sT (b:=false) ho e1 ht (fun d w=>fw ht d w) (fun w y=>by cases y<;>rfl),g9⟩
   ·exact h.elim
  simp only[cond_true]at h;split at h
  ·rename_i a _;refine key (decide ((show dr from a)=dr.nil)) (fun v hv=>?_) h;cases a with
   |nil=>have e: [v]= [Value.nilIface]:=aG.inv (show aG U Y S .err _ [v]from hv);injection e with e;exact .inl ⟨e,rfl⟩
   |num e=>obtain⟨e,_⟩:=aG.inv (show aG U Y S .err _ [v]from hv);injection e with e;exact .inr ⟨_,_,e,rfl⟩
   |flt a b=>obtain⟨g,x,e,_⟩:=aG.inv (show aG U Y S .err _ [v]from hv);injection e with e;exact .inr ⟨_,_,e,rfl⟩
   |oth=>obtain⟨t',x,e,_⟩:=aG.inv (show aG U Y S .err _ [v]from hv);injection e with e;exact .inr ⟨_,_,e,rfl⟩
  ·rename_i i;refine key _ (fun v hv=>?_) h;obtain⟨_,_,g,_,e⟩:=hv;injection e with e;exact .inr ⟨_,_,e,rfl⟩
  ·exact h.elim
omit [al]in
theorem vr{P:Program}{t:Nat}{k:IntKind}(h:P.underlying t=some (.int k)):P.concrete t=true:=by unfold Program.concrete;rw[h]
omit [al]in
theorem vu{P:Program}{t e:Nat}(h:P.underlying t=some (.pointer e)):P.concrete t=true:=by unfold Program.concrete;rw[h]
omit [al]in
theorem pQ{k:Kd}{t:Nat}(h:pC k=true)(hk:qV P t k):P.underlying t=some (.int .i64):=by
 cases k with
 |int k=>cases k<;>first|exact hk|exact Bool.noConfusion (show false=true from h)
 |_=>exact Bool.noConfusion (show false=true from h)
theorem y7{t:Nat}{c:Cx U}{K:Cx U→Prop}(h:CY T t H c K)(hT:bl U P T)(M:bd U X S ρ n H): ∃c',K c'∧P.concrete t=true∧ ∀u,aV U (aj ρ H++X) S ρ n H c [u]→aV U (aj ρ H++X) S ρ n H c' [.iface t u]:=by
 unfold CY at h;split at h
 ·rename_i q;cases hb:Nat.beq t U.eN with
  |false=>rw[hb]at h;exact h.elim
  |true=>
   rw[hb]at h;simp only[cond_true]at h;obtain⟨k,h,hk⟩:=eK h hT;cases hi:pC k with
   |false=>rw[hi]at h;exact h.elim
   |true=>
    rw[hi]at h;refine⟨_,h,vr (pQ hi hk),fun u hu=>?_⟩;obtain⟨rfl,h2⟩:=aG.intE hu;rw[Nat.eq_of_beq_eq_true hb];exact aG.enum q h2
 ·rename_i i;cases hb:Nat.beq t U.eF with
  |false=>rw[hb]at h;exact h.elim
  |true=>
   rw[hb]at h;simp only[cond_true]at h;obtain⟨k,h,hk⟩:=eK h hT;cases hi:Ff k with
   |false=>rw[hi]at h;exact h.elim
   |true=>
    rw[hi]at h;simp only[cond_true]at h;split at h
    ·rename_i l ty hl;refine⟨_,h,?_,fun u hu=>?_⟩
     ·cases k with
      |ptr e=>exact vu hk
      |_=>exact Bool.noConfusion (show false=true from hi)
     ·obtain⟨h1,h2,g,h3,e⟩:=hu;injection e with e;subst e;exact⟨h1,h2,g,h3,by rw[Nat.eq_of_beq_eq_true hb]⟩
    ·exact h.elim
 ·exact h.elim
theorem DB{x:Operand}{xt t:Nat}{v:Value}{b:Bool}{r:Value}(ho:o.op= .typeAssert x xt t true)(hx:ce.ev x=some v)(h: ∀w,(Instr.typeAssert v xt t true).run P w= .ok (.tuple #[r,.bool b]) w):cb P nt ce S o (.tuple #[r,.bool b]):=fun a q w _=>by
 unfold execOp;simp only[ho,q.eval hx,Sem.run_bind,h,Result.andThen_ok];rfl
theorem y8{t xt:Nat}{c:Cx U}{x:Operand}{K:AV U→Prop}(h:CZ T t c K)(ho:o.op= .typeAssert x xt t true)(hT:bl U P T){Y:List Nat}{B:Prop}(hx:B→ ∃v,ce.ev x=some v∧aV U Y S ρ n H c [v]):
  ∃l,K (.tup l)∧(B→ ∃u,cb P nt ce S o u∧jg (aV U Y S ρ n H) (.tup l) u):=by
 unfold CZ at h;split at h
 ·rename_i a;cases hb:(Nat.beq t U.eN&&!Nat.beq U.eF U.eN)with
  |false=>rw[hb]at h;exact h.elim
  |true=>
   rw[hb]at h;rw[Bool.and_eq_true]at hb;have ht:=Nat.eq_of_beq_eq_true hb.1;have hne: ¬U.eF=t:=fun e=>by have h2:=hb.2;rw[ht]at e;rw[e,Nat.beq_refl]at h2;cases h2
   simp only[cond_true]at h;unfold pA at h;split at h
   ·rename_i ti hti;have htk:=hT _ _ hti;cases hi:pC ti.kd with
    |false=>rw[hi]at h;exact h.elim
    |true=>
     rw[hi]at h;have hu:=pQ hi htk.kd;have hz:fI P t=some (.int .i64 0):=htk.zi (by
      cases hk:ti.kd with
      |int k=>rw[hk]at hi;cases k<;>first|rfl|exact Bool.noConfusion (show false=true from hi)
      |_=>rw[hk]at hi;exact Bool.noConfusion (show false=true from hi))
     unfold fI at hz;refine⟨_,h,fun hB=>?_⟩;obtain⟨v,e1,h1⟩:=hx hB;cases hinf:P.info? t with
     |none=>rw[hinf]at hz;cases hz
     |some inf=>
      rw[hinf]at hz;have hz:inf.zero=some (.int .i64 0):=hz;have fl: ∀v,(v= .nilIface∨ ∃t' v',v= .iface t' v'∧ ¬t'=t)→ ∀w,(Instr.typeAssert v xt t true).run P w= .ok (.tuple #[.int .i64 0,.bool false]) w:=fun v hv w=>by
       rcases hv with rfl|⟨t',v',rfl,hn⟩
       ·simp[Instr.typeAssert,run_underlying hu,typeInfo,hinf,zeroValue,hz]
       ·simp[Instr.typeAssert,run_underlying hu,typeInfo,hinf,zeroValue,hz,hn]
      have re: ∀r b,cZ .i64 r→(∀w,(Instr.typeAssert v xt t true).run P w= .ok (.tuple #[.int .i64 r,.bool b]) w)→ ∃u,cb P nt ce S o u∧jg (aV U Y S ρ n H) (.tup [⟨false,[(1,.d (.int .i64) r)]⟩,⟨false,[(1,.d .bool b)]⟩]) u:=fun r b hr hrun=>⟨_,DB ho e1 hrun,[_,_],rfl,_,_,rfl,lK hr,_,_,rfl,g9,rfl⟩;have z0:cZ .i64 0:=by unfold cZ;omega
      cases a with
      |nil=>
       have e: [v]= [Value.nilIface]:=aG.inv (show aG U Y S .err _ [v]from h1);injection e with e;exact re 0 false z0 (fl v (.inl e))
      |num e=>
       obtain⟨e2,hr⟩:=aG.inv (show aG U Y S .err _ [v]from h1);injection e2 with e2;subst e2;refine re e true hr fun w=>?_;rw[←ht];simp[Instr.typeAssert,run_underlying hu]
      |flt a b=>
       obtain⟨g,x,e,_⟩:=aG.inv (show aG U Y S .err _ [v]from h1);injection e with e;exact re 0 false z0 (fl v (.inr ⟨_,_,e,hne⟩))
      |oth=>
       obtain⟨t',x,e,hn,_⟩:=aG.inv (show aG U Y S .err _ [v]from h1);injection e with e;exact re 0 false z0 (fl v (.inr ⟨_,_,e,fun h=>hn (h.trans ht)⟩))
   ·exact h.elim
 ·exact h.elim
def mn(o:Oper):Bool:=match o.op with
 | .move _=>true
 | .typeAssert _ _ _ true=>true
 | .lookup _ _ _ true=>true
 | .entry _=>true
 |_=>false
theorem vw(hpr:al.pr=P)(hlo:mn o=false)(hg: ∀A,g A→bg R e p→A){K:AV U→Prop}(h:ii g T p o R e H K)(hT:bl U P T)(M:bd U X S ρ n H)(he:aM (aV U (aj ρ H++X) S ρ n H) R e ce)(hS: ∃w,S w):
  ∃x,K (.v x)∧lR P nt ce S o (bg R e p) (aV U (aj ρ H++X) S ρ n H) x:=by
 unfold ii at h;split at h
 ·rename_i x ho;unfold mn at hlo;rw[ho]at hlo;cases hlo
 ·rename_i x ho;obtain⟨v,hK,hv⟩:=c8 h he;exact⟨v,hK,fun hp=>by obtain⟨u,e1,h1⟩:=hv hp;exact⟨u,cW ho e1,h1⟩⟩
 ·rename_i c a b ho;exact yR h he ho
 ·rename_i t x ho;obtain⟨c,hK,hc⟩:=bm h he;obtain⟨v,hK,hv⟩:=pL hK M hT;exact⟨v,hK,fun hp=>by
   obtain⟨u0,e1,h1⟩:=hc hp;obtain⟨A,u,rfl,h2,h3⟩:=hv u0 h1;exact⟨u,y5 ho e1 h3,h2⟩⟩
 ·rename_i x ho;obtain⟨c,hK,hc⟩:=bm h he;cases hb:BP H c with
  |false=>rw[hb]at hK;exact hK.elim
  |true=>
   rw[hb]at hK;refine⟨_,hK,fun hp=>?_⟩;obtain⟨u0,e1,h1⟩:=hc hp;have: ∃A,u0= .pointer (some A):=by
    cases c with
    |ptr i f=>obtain⟨_,_,g,_,e2⟩:=h1;exact⟨_,by simpa using e2⟩
    |pd s a=>obtain⟨g,b,us,e2,_⟩:=h1;exact⟨_,by simpa using e2⟩
    |pax i f k s q f'=>obtain⟨_,_,_,_,g,_,e2⟩:=h1;exact⟨_,by simpa using e2⟩
    |pel i v q f=>exact r4 h1 hb
    |_=>exact Bool.noConfusion (show false=true from hb)
   obtain⟨A,rfl⟩:=this;exact⟨_,nZ ho e1,eD h1⟩
 ·rename_i op t x u ho;obtain⟨c,hK,hc⟩:=bm h he;exact y6 hK ho hT hc
 ·rename_i op t x y u _ ho;obtain⟨v,hK,hv⟩:=c8 h he;obtain⟨w,hK,hw⟩:=c8 hK he;exact yQ hg hK ho hT M hS hv hw
 ·rename_i t x ho;obtain⟨c,hK,hc⟩:=bm h he;obtain⟨c',hK,hk,hv⟩:=y7 hK hT M;exact⟨_,hK,fun hp=>by obtain⟨u,e1,h1⟩:=hc hp;exact⟨_,Ca ho e1 hk,eD (hv u h1)⟩⟩
 ·rename_i x xt t ho;unfold mn at hlo;rw[ho]at hlo;cases hlo
 ·rename_i op t x ho;obtain⟨c,hK,hc⟩:=bm h he;split at hK
  ·rename_i b;refine⟨_,hK,fun hp=>?_⟩;obtain⟨u0,e1,h1⟩:=hc hp;have:=aG.boolE h1;subst this;exact⟨_,xD ho e1,g9⟩
  ·rename_i k q _;obtain⟨r,hK,hr⟩:=mj hg hK;refine⟨_,hK,fun hp=>?_⟩;obtain⟨u0,e1,h1⟩:=hc hp;obtain⟨rfl,h2⟩:=aG.intE h1;obtain⟨h3,h4⟩:=hr hp h2 h2;exact⟨_,G7 ho e1 ((congrArg _ (Int.zero_sub _)).trans h3),lK h4⟩
  ·exact hK.elim
 ·rename_i t x f ho;obtain⟨c,hK,hc⟩:=bm h he;obtain⟨d,off,hK,hf,hd⟩:=yK (X:=X) (S:=S) (ρ:=ρ) (n:=n) hK hT;exact⟨_,hK,fun hp=>by
   obtain⟨u0,e1,h1⟩:=hc hp;obtain⟨gb,k,rfl,h2⟩:=hd u0 h1;exact⟨_,n4 ho e1 hf,eD h2⟩⟩
 ·rename_i t x f ho;obtain⟨v,hK,hv⟩:=c8 h he;cases hag:v.ag with
  |false=>simp only[hag]at hK
  |true=>
   simp only[hag]at hK;exact y0 hK ho hT fun hp=>by
    obtain⟨u,e1,h1⟩:=hv hp;exact⟨u,e1,by rw[←hag];exact h1⟩
 ·rename_i t x y ho;obtain⟨c,hK,hc⟩:=bm h he;obtain⟨d,hK,hd⟩:=bm hK he;split at hK
  ·have hy:=fun hp=>show ce.ev y=_ by obtain⟨u,e1,h1⟩:=hd hp;rw[e1,(aG.intE h1).1]
   split at hK
   ·rename_i hA;obtain⟨c',hK,hc'⟩:=y3 hg hK ho hA hT hc hy;exact⟨_,hK,hc'⟩
   ·obtain⟨c',hK,hc'⟩:=yV hg hK ho hT M hS hc hy;exact⟨_,hK,hc'⟩
  ·exact hK.elim
 ·rename_i t x y ho;obtain⟨v,hK,hv⟩:=c8 h he;obtain⟨d,hK,hd⟩:=bm hK he;split at hK
  ·have hy:=fun hp=>show ce.ev y=_ by obtain⟨u,e1,h1⟩:=hd hp;rw[e1,(aG.intE h1).1]
   cases hag:v.ag with
   |true=>
    simp only[hag]at hK;exact y4 hg hK ho hT (fun hp=>by obtain⟨u,e1,h1⟩:=hv hp;exact⟨u,e1,hag▸h1⟩) hy
   |false=>
    simp only[hag]at hK;obtain⟨c,hK,hc⟩:=Dw hK;exact yU hg hK ho hT (fun hp=>by obtain⟨u,e1,h1⟩:=hv hp;exact⟨u,e1,hc _ h1⟩) hy
  ·exact hK.elim
 ·rename_i t x lo hi ho;obtain⟨c,hK,hc⟩:=bm h he;obtain⟨c',hK,hc'⟩:=yZ hg hK ho hT he hS hc;exact⟨_,hK,hc'⟩
 ·rename_i t m kx ok ho;have hl:=vq (nt:=nt) hpr ho h hT M he;cases ok with
  |false=>exact hl
  |true=>unfold mn at hlo;rw[ho]at hlo;cases hlo
 ·rename_i x ho;unfold mn at hlo;rw[ho]at hlo;cases hlo
 ·rename_i x i ho;split at h
  ·rename_i t;split at h
   ·exact h.elim
   ·rename_i hn;split at h
    ·rename_i l hl;split at h
     ·rename_i v hv;refine⟨v,h,fun _=>?_⟩;obtain⟨us,e1,h1⟩:=he.t _ _ hn hl;obtain⟨u,hu,h2⟩:=h1.nth hv;exact⟨u,qB ho e1 (by simpa using hu),h2⟩
     ·exact h.elim
    ·exact h.elim
  ·exact h.elim
 ·rename_i t ps ho;split at h
  ·rename_i ti hti;split at h
   ·rename_i hkd;have htk:=hT _ _ hti;obtain⟨pls,mq,hp2⟩:=htk.pl hkd;obtain⟨zs,hz,_,hzs⟩:=htk.zero;obtain⟨l,hK,hl⟩:=ov hT hp2 he h;refine⟨_,hK,fun hp=>?_⟩;obtain⟨vs,cells,e1,e2,e3⟩:=hl hp zs (hzs _ _ _ _ _ _);exact⟨_,pb (ps:=ps.toList) (by simpa using ho) e1 hz mq e2,cells,rfl,e3⟩
   ·rename_i k el hkd;split at h
    ·rename_i ei hei;have hu:P.underlying t=some (.array k el):=by have:=(hT _ _ hti).kd;rw[hkd]at this;exact this
     have hm:=(hT _ _ hei).size;obtain⟨zs,hz,_,hzs⟩:=(hT _ _ hti).zero;obtain⟨l,hK,hl⟩:=ov hT (pls:=(EV ei.sz el k 0).map fun q=>(q.1,ei.sz)) (fun f off ft hf=>vn (k:=0) hm hf) he h;refine⟨_,hK,fun hp=>?_⟩;obtain⟨vs,cells,e1,e2,e3⟩:=hl hp zs (hzs _ _ _ _ _ _);refine⟨_,xl (ps:=ps.toList) (by simpa using ho) e1 hu hm hz (nM (fun i x hx=>?_) _ _ _ (fb _ _ _ _ e2)),cells,rfl,e3⟩;have hx:=vo (show((EV ei.sz el k 0).map fun q=>(q.1,ei.sz))[i]? =some x by simpa using hx);rw[hx,Nat.zero_add]
    ·exact h.elim
   ·exact h.elim
  ·exact h.elim
 ·rename_i f first caps ho
  split at h
  ·rename_i hfi;obtain⟨xs,h,hxs⟩:=e9 h he;obtain⟨js,hK,hj⟩:=vp (Y:=aj ρ H++X) (S:=S) (ρ:=ρ) (n:=n) (H:=H) h;refine⟨_,hK,fun hp=>?_⟩;obtain⟨vs,e1,hv⟩:=hxs hp;obtain⟨e2,h3⟩:=hj vs hv;exact⟨_,w6 (fs:= []) (cs:=caps.toList) (vf:= []) (by rw[ho];congr 1;exact ik hfi) rfl e1,eD ⟨by rw[e2],h3⟩⟩
  ·rename_i x hfi;split at h
   ·rename_i hca;obtain⟨c,h,hc⟩:=bm h he;split at h
    ·rename_i s t;refine⟨_,h,fun hp=>?_⟩;obtain⟨u,e1,h1⟩:=hc hp;refine⟨_,w6 (fs:= [x]) (cs:= []) (vf:= [u]) (vc:= []) (by rw[ho,←ik hfi,←ik hca]) (by simp only[aK.evs,e1]) rfl,eD ⟨u,rfl,h1⟩⟩
    ·exact h.elim
   ·exact h.elim
  ·exact h.elim
 ·rename_i s d x ho;obtain⟨c,hK,hc⟩:=bm h he;obtain⟨ks,hK,hks⟩:=eK hK hT;obtain⟨kd,hK,hkd⟩:=eK hK hT;split at hK
  ·rename_i k q k' _ _;have hr: ∃r,K (.v ⟨false,[(1,.d (.int k') r)]⟩)∧(bg R e p→cZ k q→k'.wrap q=r∧cZ k' r):=by
    rcases hK with⟨h1,h2⟩|h2
    ·exact⟨q,h2,fun hp hq=>by have:=hg _ h1 hp hq;exact⟨ot this,this⟩⟩
    ·exact⟨_,vg h2,fun _ _=>⟨rfl,iJ _ _⟩⟩
   obtain⟨r,hK,hr⟩:=hr;refine⟨_,hK,fun hp=>?_⟩;obtain⟨u0,e1,h1⟩:=hc hp;obtain⟨rfl,h2⟩:=aG.intE h1;have hsrc: ∃ds,P.underlying s=some ds:=by cases ks<;>first|exact⟨_,hks⟩|(obtain⟨z,hz⟩:=hks;exact⟨_,hz⟩)
   obtain⟨ds,hds⟩:=hsrc;obtain⟨h3,h4⟩:=hr hp h2;exact⟨_,Hv ho e1 hds hkd h3,lK h4⟩
  ·exact hK.elim
 ·rename_i c ho;split at h
  ·rename_i x t h1 h2 h3;obtain⟨a,hK,ha⟩:=bm h he;have hc:=jS h1 h2 h3;obtain⟨r,hK,hr⟩:=yT hK (by rw[ho,hc]) hT M hS ha;exact⟨_,hK,hr⟩
  ·rename_i x y t u h1 h2 h3;obtain⟨a,hK,ha⟩:=bm h he;obtain⟨b,hK,hb⟩:=bm hK he;have hc:=jS h1 h2 h3;split at hK
   ·rename_i k a k' b _;cases hk:ie k k' with
    |false=>rw[hk]at hK;exact hK.elim
    |true=>
     rw[hk]at hK;have:=jK hk;subst this;refine⟨_,hK,fun hp=>?_⟩;obtain⟨u0,e1,h4⟩:=ha hp;obtain⟨u1,e2,h5⟩:=hb hp;obtain⟨rfl,h6⟩:=aG.intE h4;obtain⟨rfl,h7⟩:=aG.intE h5;exact⟨_,G1 (by rw[ho,hc]) e1 e2,lK (Dy h6 h7)⟩
   ·exact hK.elim
  ·rename_i x y t u h1 h2 h3;obtain⟨a,hK,ha⟩:=bm h he;obtain⟨b,hK,hb⟩:=bm hK he;have hc:=jS h1 h2 h3;split at hK
   ·rename_i k a k' b _;cases hk:ie k k' with
    |false=>rw[hk]at hK;exact hK.elim
    |true=>
     rw[hk]at hK;have:=jK hk;subst this;refine⟨_,hK,fun hp=>?_⟩;obtain⟨u0,e1,h4⟩:=ha hp;obtain⟨u1,e2,h5⟩:=hb hp;obtain⟨rfl,h6⟩:=aG.intE h4;obtain⟨rfl,h7⟩:=aG.intE h5;exact⟨_,BW (by rw[ho,hc]) e1 e2,lK (Dz h6 h7)⟩
   ·exact hK.elim
  ·exact h.elim
 ·exact h.elim
theorem pR(hpr:al.pr=P)(hg: ∀A,g A→bg R e p→A){K:AV U→Prop}(h:ii g T p o R e H K)(hT:bl U P T)(M:bd U X S ρ n H)(he:aM (aV U (aj ρ H++X) S ρ n H) R e ce)(hS: ∃w,S w):
  ∃x,K x∧(bg R e p→ ∃u,cb P nt ce S o u∧jg (aV U (aj ρ H++X) S ρ n H) x u):=by
 cases hl:mn o with
 |false=>
  obtain⟨x,a,b⟩:=vw (nt:=nt) hpr hl hg h hT M he hS;exact⟨.v x,a,b⟩
 |true=>
  unfold mn at hl;split at hl
  ·rename_i x ho;unfold ii at h;rw[ho]at h;rcases DA h with h|⟨t,l,rfl,hR,hl,hK⟩
   ·obtain⟨v,hK,hv⟩:=c8 h he;exact⟨_,hK,fun hp=>by obtain⟨u,e1,h1⟩:=hv hp;exact⟨u,cf ho e1,h1⟩⟩
   ·refine⟨_,hK,fun hp=>?_⟩;obtain⟨us,e1,h1⟩:=he.t t l hR hl;exact⟨_,cf ho (show ce.ev (.tmp t)=some _ from e1),us,rfl,h1⟩
  ·rename_i x xt t ho;unfold ii at h;rw[ho]at h;obtain⟨c,h,hc⟩:=bm h he;obtain⟨l,hK,hv⟩:=y8 (nt:=nt) h ho hT hc;exact⟨_,hK,hv⟩
  ·rename_i t m kx ho;unfold ii at h;rw[ho]at h;obtain⟨l,a,b⟩:=vq (nt:=nt) (ok:=true) hpr ho h hT M he;exact⟨.tup l,a,fun hp=>by obtain⟨us,b1,b2⟩:=b hp;exact⟨_,b1,us,rfl,b2⟩⟩
  ·rename_i x ho;unfold ii at h;rw[ho]at h;obtain⟨c,h,hc⟩:=bm h he;split at h
   ·rename_i j;split at h
    ·rename_i i gh hj;split at h
     ·rename_i d l left q gh' hi;obtain⟨rfl,hK⟩:=h;obtain⟨r,g,hA,hA2,hk,hrk,hwr⟩:=M.ent _ (af hj);obtain⟨hkd,g',es,clock,mv,lv,cv,hA3,hM,hD,hL,hC,hw⟩:=M.ent _ (af hi);rw[hA2]at hA3;injection hA3 with hA3;injection hA3 with hA3;subst hA3;refine⟨_,hK,fun hp=>?_⟩;obtain⟨u0,e1,h1⟩:=hc hp;have e0:u0= .pointer (some ⟨r,0,none⟩):=by
       obtain⟨_,_,g',hA',e⟩:=h1;rw[hA]at hA';injection hA' with hA';injection hA' with hA';subst hA';simpa using e
      subst e0;match cv,hC,hM with
      |(k,u):: [],⟨e2,⟨ks,k1,k2⟩,⟨vs,v1,v2⟩,_⟩,hM=>
       exact⟨_,xj (p:=(k,u)) ho e1 hwr hw hM,[_,_],rfl,_,_,rfl,iK (e2▸k1) k2,_,_,rfl,iK v1 v2,rfl⟩
     ·exact h.elim
    ·exact h.elim
   ·exact h.elim
  ·cases hl
end
end Go.Proofs.YtfgofabojepcmaaGreatDoor.V
end

section
set_option linter.unusedVariables false
set_option linter.unusedSimpArgs false
namespace Go.Proofs.YtfgofabojepcmaaGreatDoor.V
open Go.RowKit
section
variable [al] {U:bJ} {X:List Nat} {ρ ρ':Nat→Rz} {n n':Nat} {H H':Hs U} {w w':World}
structure bP(ρ:Nat→Rz)(n:Nat)(H:Hs U)(w:World)(ρ':Nat→Rz)(n':Nat)(H':Hs U)(w':World):Prop where
 xd: ∀g∈aj ρ H,g∉al.xf
 nn:n≤n'
 fr:Fr (aj ρ H) w w'
 nb: ∀g∈aj ρ' H',g∈aj ρ H∨w.heap.size≤g
 row: ∀i,i<n→ ∀v' l' m',bc (aB H' i)=some (v',l',m')→ ∃v l m,bc (aB H i)=some (v,l,m)∧v≤v'∧(v=v'→ρ' i=ρ i∧l'=l∧m'=m)
 cel: ∀i,i<n→bc (aB H i)=none→ρ' i=ρ i
theorem bd.xd{S:World→Prop}(M:bd U X S ρ n H): ∀g∈aj ρ H,g∉al.xf:=fun g hg hx=>M.dj g hg (M.xs g hx)
theorem bd.gY{S:World→Prop}(M:bd U X S ρ n H): ∀z∈gB,z∈aj ρ H++X:=fun z hz=>List.mem_append_right _ (M.xs z (M.gv.1 z hz))
theorem bd.stp0(M:bd U X (· =w) ρ n H):bP ρ n H w ρ n H w:=
 ⟨M.xd,Nat.le_refl _,Fr.refl _ _,fun _ h=> .inl h,fun i hi v' l' m' h=>⟨v',l',m',h,Nat.le_refl _,fun _=>⟨rfl,rfl,rfl⟩⟩,fun _ _ _=>rfl⟩
theorem bP.trans{ρ2:Nat→Rz}{n2:Nat}{H2:Hs U}{w2:World}(a:bP ρ n H w ρ' n' H' w')(b:bP ρ' n' H' w' ρ2 n2 H2 w2):bP ρ n H w ρ2 n2 H2 w2:=by
 refine⟨a.xd,Nat.le_trans a.nn b.nn,a.fr.step b.fr a.nb,fun g hg=>?_,fun i hi v2 l2 m2 h2=>?_,fun i hi h=>?_⟩
 ·rcases b.nb g hg with h|h
  ·exact a.nb g h
  ·exact .inr (Nat.le_trans a.fr.size h)
 ·obtain⟨v1,l1,m1,h1,hle,heq⟩:=b.row i (by have:=a.nn;omega) v2 l2 m2 h2;obtain⟨v0,l0,m0,h0,hle0,heq0⟩:=a.row i hi v1 l1 m1 h1;refine⟨v0,l0,m0,h0,Nat.le_trans hle0 hle,fun he=>?_⟩;obtain⟨a1,a2,a3⟩:=heq (by omega);obtain⟨b1,b2,b3⟩:=heq0 (by omega);exact⟨a1.trans b1,a2.trans b2,a3.trans b3⟩
 ·have h1:bc (aB H' i)=none:=by
   cases hr:bc (aB H' i)with
   |none=>rfl
   |some x=>obtain⟨v,l,m,h0,_⟩:=a.row i hi _ _ _ hr;rw[h]at h0;cases h0
  rw[b.cel i (by have:=a.nn;omega) h1,a.cel i hi h]
theorem bP.mv(s:bP ρ n H w ρ' n' H' w'):Mv (aj ρ H++X) (· =w) (aj ρ' H'++X) (· =w'):=fun w2 h2=>by
 subst h2;refine⟨w,_,rfl,s.fr,fun x hx=>⟨List.mem_append_left _ hx,s.xd x hx⟩,fun y hy=>?_⟩;rcases List.mem_append.1 hy with hy|hy
 ·rcases s.nb y hy with h|h
  ·exact .inl (List.mem_append_left _ h)
  ·exact .inr h
 ·exact .inl (List.mem_append_right _ hy)
theorem mf.step(s:bP ρ n H w ρ' n' H' w'){i v:Nat}(hi:i<n){Q Q':Nat→Nat→Prop}(h:mf H i v Q)(hQ: ∀l m,ρ' i=ρ i→Q l m→Q' l m):mf H' i v Q':=fun v' l m hr=>by
 obtain⟨v0,l0,m0,h0,hle,heq⟩:=s.row i hi _ _ _ hr;obtain⟨h1,h2⟩:=h _ _ _ h0;refine⟨Nat.le_trans h1 hle,fun e=>?_⟩;obtain⟨a1,a2,a3⟩:=heq (by omega);subst a2;subst a3;exact hQ _ _ a1 (h2 (by omega))
theorem aV.step(s:bP ρ n H w ρ' n' H' w'){x:Cx U}{vs:List Value}(h:aV U (aj ρ H++X) (· =w) ρ n H x vs):aV U (aj ρ' H'++X) (· =w') ρ' n' H' x vs:=by
 have m:=s.mv (X:=X);cases x with
 |d sh t=>exact aG.mv m h
 |own i v=>
  obtain⟨hi,A,l,c,e,hn⟩:=h;exact⟨Nat.lt_of_lt_of_le hi s.nn,A,l,c,e,hn.step s hi fun l m hr ⟨a,b,c⟩=>⟨by rw[hr];exact a,b,by rw[hr];exact c⟩⟩
 |ptr i off=>
  obtain⟨hi,hr,g,hA,e⟩:=h;refine⟨Nat.lt_of_lt_of_le hi s.nn,?_,g,by rw[s.cel i hi hr];exact hA,e⟩;cases hr':bc (aB H' i)with
  |none=>rfl
  |some y=>obtain⟨v,l,m,h0,_⟩:=s.row i hi _ _ _ hr';rw[hr]at h0;cases h0
 |pax i off k sh q o=>
  obtain⟨hi,hr,h0,h1,g,hA,e⟩:=h;refine⟨Nat.lt_of_lt_of_le hi s.nn,?_,h0,h1,g,by rw[s.cel i hi hr];exact hA,e⟩;cases hr':bc (aB H' i)with
  |none=>rfl
  |some y=>obtain⟨v,l,m,h0,_⟩:=s.row i hi _ _ _ hr';rw[hr]at h0;cases h0
 |pel i v q off=>
  obtain⟨hi,a,e,hn⟩:=h;exact⟨Nat.lt_of_lt_of_le hi s.nn,a,e,hn.step s hi fun l m hr ⟨g,hA,r⟩=>⟨g,by rw[hr];exact hA,r⟩⟩
 |pd sh t=>
  obtain⟨g,b,us,e,hd,hr⟩:=h;exact⟨g,b,us,e,aG.mv m hd,hr.mv m⟩
 |nilp=>exact h
 |nils=>exact h
 |nilf=>exact h
 |nilm=>exact h
 |fn f=>exact h
 |clo f js=>
  obtain⟨e,hj⟩:=h;refine⟨e.trans ?_,fun j hjm=>?_⟩
  ·rw[List.map_congr_left (g:=fun j=>Value.pointer (ρ' j).A) fun j hjm=>by rw[s.cel j (hj j hjm).1 (hj j hjm).2.1]]
  ·obtain⟨hi,hr,g,hA⟩:=hj j hjm;refine⟨Nat.lt_of_lt_of_le hi s.nn,?_,g,by rw[s.cel j hi hr];exact hA⟩;cases hr':bc (aB H' j)with
   |none=>rfl
   |some y=>obtain⟨v,l,m,h0,_⟩:=s.row j hi _ _ _ hr';rw[hr]at h0;cases h0
 |f1 a g=>obtain⟨u,e,hf⟩:=h;exact⟨u,e,hf.mv m⟩
 |f2 a b g=>obtain⟨u,e,hf⟩:=h;exact⟨u,e,hf.mv m⟩
 |mp i=>
  obtain⟨hi,hr,g,hA,e⟩:=h;refine⟨Nat.lt_of_lt_of_le hi s.nn,?_,g,by rw[s.cel i hi hr];exact hA,e⟩;cases hr':bc (aB H' i)with
  |none=>rfl
  |some y=>obtain⟨v,l,m,h0,_⟩:=s.row i hi _ _ _ hr';rw[hr]at h0;cases h0
 |ifp i=>
  obtain⟨hi,hr,g,hA,e⟩:=h;refine⟨Nat.lt_of_lt_of_le hi s.nn,?_,g,by rw[s.cel i hi hr];exact hA,e⟩;cases hr':bc (aB H' i)with
  |none=>rfl
  |some y=>obtain⟨v,l,m,h0,_⟩:=s.row i hi _ _ _ hr';rw[hr]at h0;cases h0
 |bnd f sh t=>obtain⟨u,e,hd⟩:=h;exact⟨u,e,aG.mv m hd⟩
 |un=>exact h
omit [al]in
theorem bK.imp{V V':Cx U→List Value→Prop}(h: ∀x vs,V x vs→V' x vs): ∀{l:List (bH U)} {vs:List Value},bK V l vs→bK V' l vs
 | [],vs,hs=>hs
 |(k,x)::r,vs,hs=>by obtain⟨v1,v2,e,hl,hx,hr⟩:=hs;exact⟨v1,v2,e,hl,h _ _ hx,bK.imp h hr⟩
omit [al]in
theorem ct.imp{V V':Cx U→List Value→Prop}(h: ∀x vs,V x vs→V' x vs){x:Va U}{v:Value}(hv:ct V x v):ct V' x v:=by
 unfold ct at*;split at hv
 ·obtain⟨vs,e,hs⟩:=hv;exact⟨vs,e,hs.imp h⟩
 ·exact hv.imp h
omit [al]in
theorem bB.imp{V V':Cx U→List Value→Prop}(h: ∀x vs,V x vs→V' x vs): ∀{l:List (Va U)} {vs:List Value},bB V l vs→bB V' l vs
 | [],vs,hs=>hs
 |x::r,vs,hs=>by obtain⟨v,us,e,hx,hr⟩:=hs;exact⟨v,us,e,hx.imp h,bB.imp h hr⟩
omit [al]in
theorem aM.imp{V V':Cx U→List Value→Prop}(h: ∀x vs,V x vs→V' x vs){R e:En U}{ce:aK}(he:aM V R e ce):aM V' R e ce:=
 ⟨fun k x h1 h2=>by obtain⟨u,a,b⟩:=he.v k x h1 h2;exact⟨u,a,b.imp h⟩,fun k l h1 h2=>by obtain⟨u,a,b⟩:=he.t k l h1 h2;exact⟨u,a,b.imp h⟩,
  fun k p x h1=>by obtain⟨u,a,b,c⟩:=he.g k p x h1;exact⟨u,a,fun hp=>(b hp).imp h,c⟩⟩
theorem aM.step(s:bP ρ n H w ρ' n' H' w'){R e:En U}{ce:aK}(he:aM (aV U (aj ρ H++X) (· =w) ρ n H) R e ce):aM (aV U (aj ρ' H'++X) (· =w') ρ' n' H') R e ce:=he.imp fun _ _ h=>h.step s
theorem jQ.step(s:bP ρ n H w ρ' n' H' w'){i:Nat}{x:aN U}(h:jQ U (aj ρ H++X) (· =w) ρ n H i x)(hr:ρ' i=ρ i)(hb: ∀g,Lv ρ (i,x) g→w'.heap[g]? =w.heap[g]?):jQ U (aj ρ' H'++X) (· =w') ρ' n' H' i x:=by
 have m:=s.mv (X:=X);cases x with
 |cells l t=>
  obtain⟨g,vs,hA,hs,hw⟩:=h;refine⟨g,vs,by rw[hr];exact hA,hs.imp fun _ _ h=>h.step s,fun w2 h2=>?_⟩;subst h2;rw[hb g (show ao (ρ i).A=some g by rw[hA];rfl)];exact hw w rfl
 |row v e xs t=>
  obtain⟨hm,cs,sp,hd,ho,hw⟩:=h;refine⟨hm,cs,sp,ba.mv m hd,by rw[hr];exact ho,fun g hg w2 h2=>?_⟩;subst h2;rw[hr]at hg;rw[hb g hg];exact hw g hg w rfl
 |frz v e xs=>
  obtain⟨hm,cs,hd,hrd,h1,h2⟩:=h;exact⟨hm,cs,ba.mv m hd,by rw[hr];exact hrd.mv m,by rw[hr];exact h1,by rw[hr];exact h2⟩
 |map d l=>
  obtain⟨hk,g,es,clock,mv,hA,hm,hd,hw⟩:=h;refine⟨hk,g,es,clock,mv,by rw[hr];exact hA,hm,aH.mv m hd,fun w2 h2=>?_⟩;subst h2;rw[hb g (show ao (ρ i).A=some g by rw[hA];rfl)];exact hw w rfl
 |mapr d l left cur gh=>
  obtain⟨hk,g,es,clock,mv,lv,cv,hA,hm,hd,hl,hc,hw⟩:=h;refine⟨hk,g,es,clock,mv,lv,cv,by rw[hr];exact hA,hm,aH.mv m hd,aH.mv m hl,aH.mv m hc,fun w2 h2=>?_⟩;subst h2;rw[hb g (show ao (ρ i).A=some g by rw[hA];rfl)];exact hw w rfl
 |it k gh=>
  obtain⟨r,g,hA,hA2,hk,hrk,hw⟩:=h;refine⟨r,g,by rw[hr];exact hA,by rw[s.cel k hk hrk];exact hA2,Nat.lt_of_lt_of_le hk s.nn,?_,fun w2 h2=>?_⟩
  ·cases hr':bc (aB H' k)with
   |none=>rfl
   |some y=>obtain⟨v,l,m,h0,_⟩:=s.row k hk _ _ _ hr';rw[hrk]at h0;cases h0
  ·subst h2;rw[hb r (show ao (ρ i).A=some r by rw[hA];rfl)];exact hw w rfl
 |its q p=>
  obtain⟨h1,h2,r,hA,hw⟩:=h;refine⟨h1,h2,r,by rw[hr];exact hA,fun w2 h2=>?_⟩;subst h2;rw[hb r (show ao (ρ i).A=some r by rw[hA];rfl)];exact hw w rfl
 |ext v d xs op=>
  obtain⟨C,hd,hw,ho⟩:=h;refine⟨C,by rw[hr];exact d.mv m.fr hd,fun g hg w2 h2=>?_,by rw[hr];exact ho.imp fun _ _ h=>h.step s⟩;subst h2;rw[hr]at hg;rw[hb g hg];exact hw g hg w rfl
 |clo f l=>trivial
 |hid v l m=>trivial
 |dead=>trivial
omit [al]in
theorem pS{α:Type}: ∀{l:List (Nat×α)} {i:Nat},(∀p∈l,p.1≠i)→aB l i=none
 | [],i,h=>rfl
 |(j,y)::r,i,h=>by
  unfold aB;rw[cn (h (j,y) (by simp))];exact pS fun p hp=>h p (List.mem_cons_of_mem _ hp)
omit [al]in
theorem cM{α:Type}: ∀{l:List (Nat×α)} {i:Nat} {x:α},(l.map (·.1)).Nodup→(i,x)∈l→aB l i=some x
 |(j,y)::r,i,x,hn,h=>by
  unfold aB;rw[List.map_cons,List.nodup_cons]at hn;rcases List.mem_cons.1 h with h|h
  ·injection h with h1 h2;subst h1;subst h2;rw[Nat.beq_refl];rfl
  ·have: ¬j=i:=by rintro rfl;exact hn.1 (List.mem_map.2 ⟨_,h,rfl⟩)
   rw[cn this];exact cM hn.2 h
omit [al]in
theorem az{g:Nat}:g∈aj ρ H↔ ∃p∈H,Lv ρ p g:=by
 unfold aj;rw[List.mem_flatMap];exact⟨fun⟨p,h1,h2⟩=>⟨p,h1,eJ.1 h2⟩,fun⟨p,h1,h2⟩=>⟨p,h1,eJ.2 h2⟩⟩
def ci(ρ:Nat→Rz)(i:Nat)(r:Rz):Nat→Rz:=fun j=>bif Nat.beq i j then r else ρ j
omit [al]in
theorem aO(ρ:Nat→Rz)(i:Nat)(r:Rz):ci ρ i r i=r:=by unfold ci;rw[Nat.beq_refl];rfl
omit [al]in
theorem aP(ρ:Nat→Rz)(i:Nat):ci ρ i (ρ i)=ρ:=by
 funext j;unfold ci;cases hb:Nat.beq i j with
 |true=>rw[Nat.eq_of_beq_eq_true hb];rfl
 |false=>rfl
omit [al]in
theorem fF{i j:Nat}(h: ¬i=j)(ρ:Nat→Rz)(r:Rz):ci ρ i r j=ρ j:=by unfold ci;rw[cn h];rfl
omit [al]in
theorem jT{i:Nat}{r:Rz}{p:Nat×aN U}(h: ¬i=p.1):Lv (ci ρ i r) p=Lv ρ p:=by
 obtain⟨j,x⟩:=p;unfold Lv;cases x<;>simp only[fF h]
theorem bP.push(xd: ∀g∈aj ρ H,g∉al.xf)(hlt: ∀p∈H,p.1<n)(hf:Fr [] w w')(r:Rz)(x:aN U)(hb: ∀g,Lv (ci ρ n r) (n,x) g→w.heap.size≤g):bP ρ n H w (ci ρ n r) (n+1) ((n,x)::H) w':=by
 refine⟨xd,Nat.le_succ _,hf.mono (by simp),fun g hg=>?_,fun i hi v' l' m' h=>?_,fun i hi _=>fF (by omega) ρ r⟩
 ·obtain⟨p,hp,hg⟩:=az.1 hg;rcases List.mem_cons.1 hp with rfl|hp
  ·exact .inr (hb g hg)
  ·rw[jT (by have:=hlt p hp;omega)]at hg;exact .inl (az.2 ⟨p,hp,hg⟩)
 ·unfold aB at h;rw[cn (by omega)]at h;exact⟨v',l',m',h,Nat.le_refl _,fun _=>⟨fF (by omega) ρ r,rfl,rfl⟩⟩
theorem cN(M:bd U X (· =w) ρ n H): ∀p∈H,∀g,Lv ρ p g→g<w.heap.size:=fun p hp g hg=>by
 have h:=M.ent p hp;obtain⟨i,x⟩:=p;cases x with
 |cells l t=>
  obtain⟨g',vs,hA,hs,hw⟩:=h;unfold Lv at hg;simp only[hA]at hg;injection hg with hg;subst hg;exact bR (hw w rfl)
 |row v e xs t=>
  obtain⟨hm,cs,sp,hd,ho,hw⟩:=h;exact bR (hw g hg w rfl)
 |map d l=>
  obtain⟨hk,g',es,clock,mv,hA,hm,hd,hw⟩:=h;unfold Lv at hg;simp only[hA]at hg;injection hg with hg;subst hg;exact bR (hw w rfl)
 |mapr d l left cur gh=>
  obtain⟨hk,g',es,clock,mv,lv,cv,hA,hm,hd,hl,hc,hw⟩:=h;unfold Lv at hg;simp only[hA]at hg;injection hg with hg;subst hg;exact bR (hw w rfl)
 |it k gh=>
  obtain⟨r,g',hA,hA2,hk,hrk,hw⟩:=h;unfold Lv at hg;simp only[hA]at hg;injection hg with hg;subst hg;exact bR (hw w rfl)
 |its q p=>
  obtain⟨_,_,r,hA,hw⟩:=h;unfold Lv at hg;simp only[hA]at hg;injection hg with hg;subst hg;exact bR (hw w rfl)
 |ext v d xs op=>
  obtain⟨C,hd,hw,ho⟩:=h;exact bR (hw g hg w rfl)
 |_=>cases hg
theorem bd.push(M:bd U X (· =w) ρ n H)(hf:Fr [] w w')(r:Rz)(x:aN U)(hb: ∀g,Lv (ci ρ n r) (n,x) g→w.heap.size≤g)
  (he:jQ U (aj (ci ρ n r) ((n,x)::H)++X) (· =w') (ci ρ n r) (n+1) ((n,x)::H) n x):bd U X (· =w') (ci ρ n r) (n+1) ((n,x)::H):=by
 have s:=bP.push (ρ:=ρ) M.xd M.lt hf r x hb;have hX: ∀g∈X,g<w.heap.size:=M.lo w rfl;refine⟨?_,fun p hp=>?_,fun p hp=>?_,fun p hp q hq g h1 h2=>?_,fun g hg=>?_,fun w2 h2 x hx=>?_,M.xs,M.gv.fr hf (fun _ h=>by cases h)⟩
 ·rw[List.map_cons,List.nodup_cons];refine⟨fun h=>?_,M.nd⟩;obtain⟨p,hp,h⟩:=List.mem_map.1 h;have:=M.lt p hp;omega
 ·rcases List.mem_cons.1 hp with rfl|hp
  ·exact Nat.lt_succ_self _
  ·exact Nat.lt_succ_of_lt (M.lt p hp)
 ·rcases List.mem_cons.1 hp with rfl|hp
  ·exact he
  ·have hne: ¬n=p.1:=by have:=M.lt p hp;omega
   exact(M.ent p hp).step s (fF hne ρ r) fun g hg=>hf.block g (cN M p hp g hg) (by simp)
 ·have old: ∀q∈H,∀g,Lv (ci ρ n r) q g→g<w.heap.size:=fun q hq g hg=>by
   rw[jT (by have:=M.lt q hq;omega)]at hg;exact cN M q hq g hg
  rcases List.mem_cons.1 hp with rfl|hp<;>rcases List.mem_cons.1 hq with rfl|hq
  ·rfl
  ·have a:=hb g h1;have b:=old q hq g h2;omega
  ·have a:=hb g h2;have b:=old p hp g h1;omega
  ·rw[jT (by have:=M.lt p hp;omega)]at h1;rw[jT (by have:=M.lt q hq;omega)]at h2;exact M.inj p hp q hq g h1 h2
 ·rcases s.nb g hg with h|h
  ·exact M.dj g h
  ·exact fun hx=>by have:=hX g hx;omega
 ·subst h2;exact Nat.lt_of_lt_of_le (hX x hx) hf.size
def ej:Hs U→Nat→aN U→Hs U
 | [],_,_=> []
 |y::r,i,x=>bif Nat.beq y.1 i then(i,x)::r else y::ej r i x
omit [al]in
theorem b9{i:Nat}{x:aN U}: ∀{H:Hs U} {K:Hs U→Prop},eG H i x K→K (ej H i x)
 | [],K,h=>h.elim
 |y::r,K,h=>by
  have h:(bif Nat.beq y.1 i then K ((i,x)::r)else eG r i x fun r'=>K (y::r')):=h;unfold ej;cases hb:Nat.beq y.1 i with
  |true=>rw[hb]at h;exact h
  |false=>rw[hb]at h;exact b9 (H:=r) h
omit [al]in
theorem jU{i:Nat}{x:aN U}: ∀{H:Hs U},(ej H i x).map (·.1)=H.map (·.1)
 | []=>rfl
 |y::r=>by
  unfold ej;cases hb:Nat.beq y.1 i with
  |true=>have:=Nat.eq_of_beq_eq_true hb;simp[this]
  |false=>simp[jU (H:=r)]
omit [al]in
theorem dt{i j:Nat}{x:aN U}: ∀{H:Hs U},(∃y,aB H i=some y)→aB (ej H i x) j=if i=j then some x else aB H j
 | [],h=>by obtain⟨y,h⟩:=h;cases h
 |y::r,h=>by
  unfold ej;cases hb:Nat.beq y.1 i with
  |true=>
   have hyi:=Nat.eq_of_beq_eq_true hb;simp only[cond_true];unfold aB;by_cases hij:i=j
   ·subst hij;rw[Nat.beq_refl,if_pos rfl];rfl
   ·rw[cn hij,if_neg hij];obtain⟨a,b⟩:=y;simp only at hyi;subst hyi;simp only[cn hij,cond_false]
  |false=>
   simp only[cond_false];obtain⟨a,b⟩:=y;unfold aB at h⊢;simp only at hb;rw[hb]at h;have ih:=dt (j:=j) (x:=x) (H:=r) h;cases hj:Nat.beq a j with
   |true=>
    have haj:=Nat.eq_of_beq_eq_true hj;have hij: ¬i=j:=by rintro rfl;rw[hj]at hb;cases hb
    rw[if_neg hij];rfl
   |false=>simp only[cond_false];exact ih
omit [al]in
theorem fj{i:Nat}{x:aN U}(hn:(H.map (·.1)).Nodup)(hi: ∃y,aB H i=some y): ∀p∈ej H i x,p=(i,x)∨(p∈H∧ ¬i=p.1):=fun p hp=>by
 have hn':((ej H i x).map (·.1)).Nodup:=by rw[jU];exact hn
 obtain⟨j,y⟩:=p;have h1:=cM hn' hp;rw[dt hi]at h1;by_cases hij:i=j
 ·subst hij;rw[if_pos rfl]at h1;injection h1 with h1;subst h1;exact .inl rfl
 ·rw[if_neg hij]at h1;exact .inr ⟨af h1,hij⟩
theorem bP.upd(xd: ∀g∈aj ρ H,g∉al.xf)(hn:(H.map (·.1)).Nodup){i:Nat}{x y:aN U}(hi:aB H i=some y)(hf:Fr (dX ρ (i,y)) w w')(r:Rz)
  (hb: ∀g,Lv (ci ρ i r) (i,x) g→Lv ρ (i,y) g∨w.heap.size≤g)
  (hr: ∀v' l' m',bc (some x)=some (v',l',m')→ ∃v l m,bc (some y)=some (v,l,m)∧v≤v'∧(v=v'→r=ρ i∧l'=l∧m'=m)) (hc:bc (some y)=none→r=ρ i):bP ρ n H w (ci ρ i r) n (ej H i x) w':=by
 have hi': ∃y,aB H i=some y:=⟨y,hi⟩;refine⟨xd,Nat.le_refl _,hf.mono fun g hg=>?_,fun g hg=>?_,fun j hj v' l' m' h=>?_,fun j hj h=>?_⟩
 ·refine az.2 ⟨(i,y),af hi,eJ.1 hg⟩
 ·obtain⟨p,hp,hg⟩:=az.1 hg;rcases fj hn hi' p hp with rfl|⟨hp,hne⟩
  ·rcases hb g hg with h|h
   ·exact .inl (az.2 ⟨_,af hi,h⟩)
   ·exact .inr h
  ·rw[jT hne]at hg;exact .inl (az.2 ⟨p,hp,hg⟩)
 ·rw[dt hi']at h;by_cases hij:i=j
  ·subst hij;rw[if_pos rfl]at h;rw[hi,aO];exact hr _ _ _ h
  ·rw[if_neg hij]at h;exact⟨v',l',m',h,Nat.le_refl _,fun _=>⟨fF hij ρ r,rfl,rfl⟩⟩
 ·by_cases hij:i=j
  ·subst hij;rw[hi]at h;rw[aO];exact hc h
  ·exact fF hij ρ r
theorem bd.upd(M:bd U X (· =w) ρ n H){i:Nat}{x y:aN U}(hi:aB H i=some y)(hf:Fr (dX ρ (i,y)) w w')(r:Rz)
  (hb: ∀g,Lv (ci ρ i r) (i,x) g→Lv ρ (i,y) g∨w.heap.size≤g)
  (hr: ∀v' l' m',bc (some x)=some (v',l',m')→ ∃v l m,bc (some y)=some (v,l,m)∧v≤v'∧(v=v'→r=ρ i∧l'=l∧m'=m)) (hc:bc (some y)=none→r=ρ i)
  (he:jQ U (aj (ci ρ i r) (ej H i x)++X) (· =w') (ci ρ i r) n (ej H i x) i x):bd U X (· =w') (ci ρ i r) n (ej H i x):=by
 have hi': ∃y,aB H i=some y:=⟨y,hi⟩;have s:=bP.upd (n:=n) M.xd M.nd hi hf r hb hr hc;have hX: ∀g∈X,g<w.heap.size:=M.lo w rfl;have hne: ∀p∈H,¬i=p.1→ ∀g,Lv ρ p g→g∉dX ρ (i,y):=fun p hp hn g hg hm=>hn (M.inj _ (af hi) p hp g (eJ.1 hm) hg);refine⟨by rw[jU];exact M.nd,fun p hp=>?_,fun p hp=>?_,fun p hp q hq g h1 h2=>?_,fun g hg=>?_,fun w2 h2 x hx=>?_,M.xs,M.gv.fr s.fr M.xd⟩
 ·rcases fj M.nd hi' p hp with rfl|⟨hp,_⟩
  ·exact M.lt (i,y) (af hi)
  ·exact M.lt p hp
 ·rcases fj M.nd hi' p hp with rfl|⟨hp,hn⟩
  ·exact he
  ·exact(M.ent p hp).step s (fF hn ρ r) fun g hg=>hf.block g (cN M p hp g hg) (hne p hp hn g hg)
 ·rcases fj M.nd hi' p hp with rfl|⟨hp,hn⟩<;>rcases fj M.nd hi' q hq with rfl|⟨hq,hm⟩
  ·rfl
  ·rw[jT hm]at h2;rcases hb g h1 with h|h
   ·exact M.inj (i,y) (af hi) q hq g h h2
   ·have:=cN M q hq g h2;omega
  ·rw[jT hn]at h1;rcases hb g h2 with h|h
   ·exact M.inj p hp (i,y) (af hi) g h1 h
   ·have:=cN M p hp g h1;omega
  ·rw[jT hn]at h1;rw[jT hm]at h2;exact M.inj p hp q hq g h1 h2
 ·rcases s.nb g hg with h|h
  ·exact M.dj g h
  ·exact fun hx=>by have:=hX g hx;omega
 ·subst h2;exact Nat.lt_of_lt_of_le (hX x hx) hf.size
end
end Go.Proofs.YtfgofabojepcmaaGreatDoor.V
end

section
set_option linter.unusedVariables false
set_option linter.unusedSectionVars false
set_option linter.unusedSimpArgs false
namespace Go.Proofs.YtfgofabojepcmaaGreatDoor.V
open Go.RowKit
section
variable [bF] [al] {U:bJ} {P:Program} {nt:Nat} {T:cH U} {X:List Nat} {w:World} {ρ:Nat→Rz} {n:Nat} {H:Hs U} {R e:En U} {ce:aK} {o:Oper}
abbrev Vw(U:bJ)(X:List Nat)(w:World)(ρ:Nat→Rz)(n:Nat)(H:Hs U):Cx U→List Value→Prop:=aV U (aj ρ H++X) (· =w) ρ n H
theorem y9{x:bH U}{K:Hs U→bH U→Prop}(h:pw H x K)(M:bd U X (· =w) ρ n H): ∃H' y,K H' y∧bd U X (· =w) ρ n H'∧bP ρ n H w ρ n H' w∧ ∀vs,bK (Vw U X w ρ n H) [x] vs→bK (Vw U X w ρ n H') [y] vs:=by
 unfold pw at h;split at h
 ·rename_i i v;split at h
  ·rename_i v' s xs t hl;cases hb:Nat.beq v v' with
   |false=>rw[hb]at h;exact h.elim
   |true=>
    rw[hb]at h;simp only[cond_true]at h;have hvv:=Nat.eq_of_beq_eq_true hb;subst hvv;have hK:=b9 h;obtain⟨hm,cs,sp,hd,ho,hw⟩:=M.ent _ (af hl);have hb0: ∀g,Lv (ci ρ i (ρ i)) (i,(.frz v s xs:aN U)) g→Lv ρ (i,(.row v s xs t:aN U)) g∨w.heap.size≤g:=fun g hg=>by cases hg
    have hr0: ∀v' l' m',bc (some (.frz v s xs:aN U))=some (v',l',m')→ ∃v0 l m,bc (some (.row v s xs t:aN U))=some (v0,l,m)∧v0≤v'∧(v0=v'→ρ i=ρ i∧l'=l∧m'=m):=fun v' l' m' hr=>⟨v',l',m',hr,Nat.le_refl _,fun _=>⟨rfl,rfl,rfl⟩⟩;have hf:Fr (dX ρ (i,(.row v s xs t:aN U))) w w:=Fr.refl _ _;have st:=bP.upd (n:=n) M.xd M.nd hl hf (ρ i) hb0 hr0 (fun _=>rfl);rw[aP]at st;have hrd:nk (aj ρ (ej H i (.frz v s xs))++X) (· =w) (ρ i).A cs:=fun w2 h2 j u hj=>by
     subst h2;have hjl:j<cs.length:=(List.getElem?_eq_some_iff.1 hj).1;rcases ho.2 with⟨_,h0,_⟩|⟨g,hA,_⟩
     ·rw[ho.1,h0,Nat.zero_mul]at hjl;omega
     refine⟨g,0,hA,fun hg=>?_,?_⟩
     ·rcases List.mem_append.1 hg with hg|hg
      ·obtain⟨p,hp,hg⟩:=az.1 hg;rcases fj M.nd ⟨_,hl⟩ p hp with rfl|⟨hp,hne⟩
       ·cases hg
       ·exact hne (M.inj (i,.row v s xs t) (af hl) p hp g (show ao (ρ i).A=some g by rw[hA];rfl) hg)
      ·exact M.dj g (az.2 ⟨(i,.row v s xs t),af hl,show ao (ρ i).A=some g by rw[hA];rfl⟩) hg
     ·rw[cell_of_row w2 g (0+j) (cs++sp).toArray t (0,0) (hw g (by rw[hA];rfl) w2 rfl)];simp only[List.getElem?_toArray,Nat.zero_add];rw[List.getElem?_append_left hjl];exact hj
    have hlc:xs.length≤(ρ i).c∧(ρ i).c≤maxLen:=by
     rcases ho.2 with⟨_,h0,h1,_⟩|⟨g,_,_,h1,h2⟩
     ·rw[h0,h1];exact⟨Nat.le_refl _,Nat.zero_le _⟩
     ·exact⟨h1,h2⟩
    have hd':=ba.mv (st.mv (X:=X)) hd;have M':=M.upd hl hf (ρ i) hb0 hr0 (fun _=>rfl) (x:= .frz v s xs) (by
     rw[aP];exact⟨hm,cs,hd',hrd,hlc.1,hlc.2⟩)
    rw[aP]at M';refine⟨_,_,hK,M',st,fun vs hs=>?_⟩;obtain⟨⟨hi,A,l,c,e1,hn⟩,hlen⟩:=hs.one1;obtain⟨rfl,rfl,rfl⟩:=(hn _ _ _ (by rw[hl];rfl)).2 rfl;subst e1;exact⟨_,[],(List.append_nil _).symm,rfl,aG.sl s xs _ _ cs hd' hrd hlc.1 hlc.2,rfl⟩
  ·rename_i v' s xs hl;cases hb:Nat.beq v v' with
   |false=>rw[hb]at h;exact h.elim
   |true=>
    rw[hb]at h;have hvv:=Nat.eq_of_beq_eq_true hb;subst hvv;obtain⟨hm,cs,hd,hrd,h1,h2⟩:=M.ent _ (af hl);refine⟨_,_,h,M,M.stp0,fun vs hs=>?_⟩;obtain⟨⟨hi,A,l,c,e1,hn⟩,hlen⟩:=hs.one1;obtain⟨rfl,rfl,rfl⟩:=(hn _ _ _ (by rw[hl];rfl)).2 rfl;subst e1;exact⟨_,[],(List.append_nil _).symm,rfl,aG.sl s xs _ _ cs hd hrd h1 h2,rfl⟩
  ·rename_i v' d xs hl;cases hb:Nat.beq v v' with
   |false=>rw[hb]at h;exact h.elim
   |true=>
    rw[hb]at h;simp only[cond_true]at h;have hvv:=Nat.eq_of_beq_eq_true hb;subst hvv;have hK:=b9 h;obtain⟨C,hd,hw,_⟩:=M.ent _ (af hl);have hb0: ∀g,Lv (ci ρ i (ρ i)) (i,(.frz v d.e xs:aN U)) g→Lv ρ (i,(.ext v d xs none:aN U)) g∨w.heap.size≤g:=fun g hg=>by cases hg
    have hr0: ∀v' l' m',bc (some (.frz v d.e xs:aN U))=some (v',l',m')→ ∃v0 l m,bc (some (.ext v d xs none:aN U))=some (v0,l,m)∧v0≤v'∧(v0=v'→ρ i=ρ i∧l'=l∧m'=m):=fun v' l' m' hr=>⟨v',l',m',hr,Nat.le_refl _,fun _=>⟨rfl,rfl,rfl⟩⟩;have hf:Fr (dX ρ (i,(.ext v d xs none:aN U))) w w:=Fr.refl _ _;have st:=bP.upd (n:=n) M.xd M.nd hl hf (ρ i) hb0 hr0 (fun _=>rfl);rw[aP]at st;obtain⟨cs,hd',hrd,hc1,hc2⟩:=d.frz (d.mv (st.mv (X:=X)).fr hd) fun g hg=>⟨fun hgY=>by
     rcases List.mem_append.1 hgY with hgY|hgY
     ·obtain⟨p,hp,hgp⟩:=az.1 hgY;rcases fj M.nd ⟨_,hl⟩ p hp with rfl|⟨hp,hne⟩
      ·cases hgp
      ·exact hne (M.inj (i,.ext v d xs none) (af hl) p hp g hg hgp)
     ·exact M.dj g (az.2 ⟨(i,.ext v d xs none),af hl,hg⟩) hgY,hw g hg⟩
    have M':=M.upd hl hf (ρ i) hb0 hr0 (fun _=>rfl) (x:= .frz v d.e xs) (by
     rw[aP];exact⟨d.sz,cs,hd',hrd,hc1,hc2⟩)
    rw[aP]at M';refine⟨_,_,hK,M',st,fun vs hs=>?_⟩;obtain⟨⟨hi,A,l,c,e1,hn⟩,hlen⟩:=hs.one1;obtain⟨rfl,rfl,rfl⟩:=(hn _ _ _ (by rw[hl];rfl)).2 rfl;subst e1;exact⟨_,[],(List.append_nil _).symm,rfl,aG.sl d.e xs _ _ cs hd' hrd hc1 hc2,rfl⟩
  ·exact h.elim
 ·exact⟨_,_,h,M,M.stp0,fun _ hs=>hs⟩
omit [al]in
theorem bK.cons{V:Cx U→List Value→Prop}{x:bH U}{r:List (bH U)}{vs:List Value}(h:bK V (x::r) vs): ∃v1 v2,vs=v1++v2∧bK V [x] v1∧bK V r v2:=by
 obtain⟨k,c⟩:=x;obtain⟨v1,v2,e,hl,hx,hr⟩:=h;exact⟨v1,v2,e,⟨v1,[],(List.append_nil _).symm,hl,hx,rfl⟩,hr⟩
theorem fa: ∀{l:List (bH U)} {H:Hs U} {K:Hs U→List (bH U)→Prop},i6 l H K→bd U X (· =w) ρ n H→ ∃H' l',K H' l'∧bd U X (· =w) ρ n H'∧bP ρ n H w ρ n H' w∧ ∀vs,bK (Vw U X w ρ n H) l vs→bK (Vw U X w ρ n H') l' vs
 | [],H,K,h,M=>⟨H,[],h,M,M.stp0,fun _ hs=>hs⟩
 |x::l,H,K,h,M=>by
  obtain⟨H1,y,h1,M1,s1,c1⟩:=y9 (show pw H x (fun H y=>i6 l H fun H r=>K H (y::r))from h) M;obtain⟨H2,l2,h2,M2,s2,c2⟩:=fa (l:=l) h1 M1;refine⟨H2,_,h2,M2,s1.trans s2,fun vs hs=>?_⟩;obtain⟨v1,v2,rfl,ha,hb⟩:=hs.cons;have hy:bK (Vw U X w ρ n H2) [y] v1:=(c1 _ ha).imp fun _ _ h=>h.step s2;have hr:=c2 _ (hb.imp fun _ _ h=>h.step s1);exact bK.app (l:= [y]) hy hr
theorem jp{s:bj}{x:Va U}{K:Hs U→TT U.ty s→Prop}(h:uJ s H x K)(M:bd U X (· =w) ρ n H): ∃H' t,K H' t∧bd U X (· =w) ρ n H'∧bP ρ n H w ρ n H' w∧ ∀u,ct (Vw U X w ρ n H) x u→aG U (aj ρ H'++X) (· =w) s t u.cells.toList:=by
 obtain⟨H',l',h1,M',s',c'⟩:=fa (show i6 x.l H _ from h) M;obtain⟨t,h2,ht⟩:=bt h1;exact⟨H',t,h2,M',s',fun u hu=>ht _ _ _ _ _ _ (c' _ hu.cells)⟩
def il(P:Program)(nt:Nat)(U:bJ)(X:List Nat)(w:World)(ρ:Nat→Rz)(n:Nat)(H:Hs U)(ce:aK)(o:Oper)(K:AV U→Nat→Hs U→Prop):Prop:=
 cd P nt ce w o fun ce' w'=> ∃av n' H' ρ' cv,K av n' H'∧ce'=ce.dst o.dst cv∧jg (Vw U X w' ρ' n' H') av cv∧bd U X (· =w') ρ' n' H'∧bP ρ n H w ρ' n' H' w'
omit [al]in
theorem eo{A:Prop}(h:kN o.dst A)(hd:(o.dst.all (Nat.blt · nt))=true): ∃d,o.dst=some d∧Nat.blt d nt=true∧A:=by
 unfold kN at h;cases ho:o.dst with
 |none=>rw[ho]at h;exact h.elim
 |some d=>rw[ho]at h hd;exact⟨d,rfl,by simpa using hd,h⟩
omit [al]in
theorem qX{A:Prop}(h:Fm o.dst A):o.dst=none∧A:=by
 unfold Fm at h;cases ho:o.dst with
 |none=>rw[ho]at h;exact⟨rfl,h⟩
 |some d=>rw[ho]at h;exact h.elim
omit [al]in
theorem aK.dstS{d:Nat}(hd:o.dst=some d)(v:Value):((d,v)::ce)=ce.dst o.dst v:=by rw[hd];rfl
omit [al]in
theorem ow{α:Type}(n:Nat)(x:α)(l:List (Nat×α)):aB ((n,x)::l) n=some x:=by unfold aB;rw[Nat.beq_refl];rfl
omit [al]in
theorem tC{g:Nat}:ao (some ⟨g,0,none⟩)=some g:=rfl
omit [al]in
theorem mo{i:Nat}{r:Rz}{l:List (bH U)}{t g:Nat}(h:Lv (ci ρ i r) (i,(.cells l t:aN U)) g):ao r.A=some g:=by
 unfold Lv at h;simp only[aO]at h;exact h
omit [al]in
theorem jV{i:Nat}{r:Rz}{v:Nat}{s:bj}{xs:List (TT U.ty s)}{t g:Nat}(h:Lv (ci ρ i r) (i,(.row v s xs t:aN U)) g):ao r.A=some g:=by
 unfold Lv at h;simp only[aO]at h;exact h
theorem vz{t:Nat}{K:AV U→Nat→Hs U→Prop}{ti:TI U}(hti:bT U P t ti)(hK:K (.v ⟨false,[(1,.ptr n 0)]⟩) (n+1) ((n,.cells ti.zero t)::H)){d:Nat}(ho:o.op= .alloc t)(hd:o.dst=some d)(hn:Nat.blt d nt=true)(M:bd U X (· =w) ρ n H):il P nt U X w ρ n H ce o K:=by
 obtain⟨zs,hz,hzl,hzs⟩:=hti.zero;refine l7 ho hd hn hz (Hp.nil w) fun g w' hp hf hg=>?_;have hblk:w'.heap[g]? =some (Cl zs t):=hp.at (i:=0) rfl;have hb: ∀g',Lv (ci ρ n (rz (some ⟨g,0,none⟩) 0)) (n,(.cells ti.zero t:aN U)) g'→w.heap.size≤g':=fun g' h=>by
  have:=mo h;rw[tC]at this;injection this with this;subst this;exact hg
 refine⟨_,_,_,ci ρ n (rz (some ⟨g,0,none⟩) 0),_,hK,aK.dstS hd _,?_,M.push hf _ _ hb ⟨g,zs,by rw[aO],hzs _ _ _ _ _ _,fun w2 h2=>by subst h2;exact hblk⟩,bP.push M.xd M.lt hf _ _ hb⟩;exact eD ⟨Nat.lt_succ_self _,by rw[ow];rfl,g,by rw[aO],rfl⟩
theorem vA{t:Nat}{K:AV U→Nat→Hs U→Prop}{ti:TI U}{kd:KD U}(hti:bT U P t ti)(hm:ti.mp=some kd)(hpr:al.pr=P)(hK:K (.v ⟨false,[(1,.mp n)]⟩) (n+1) ((n,.map kd [])::H)){d:Nat}(ho:o.op= .makeMap t none)(hd:o.dst=some d)(hn:Nat.blt d nt=true)(M:bd U X (· =w) ρ n H):il P nt U X w ρ n H ce o K:=by
 obtain⟨hk,hu⟩:=hti.mp kd hm;refine A7 ho hd hn (Hp.nil w) fun g w' hp hf hg=>?_;have hblk:w'.heap[g]? =some (.map #[] 0):=hp.at (i:=0) rfl;have hb: ∀g',Lv (ci ρ n (rz (some ⟨g,0,none⟩) 0)) (n,(.map kd []:aN U)) g'→w.heap.size≤g':=fun g' h=>by
  have h:ao (ci ρ n (rz (some ⟨g,0,none⟩) 0) n).A=some g':=h;rw[aO]at h;injection h with h;subst h;exact hg
 refine⟨_,_,_,ci ρ n (rz (some ⟨g,0,none⟩) 0),_,hK,aK.dstS hd _,?_,M.push hf _ _ hb ⟨(show Fy al.pr U kd by rw[hpr];exact hk),g, #[],0,[],by rw[aO],li.empty,trivial,fun w2 h2=>by subst h2;exact hblk⟩,bP.push M.xd M.lt hf _ _ hb⟩;exact eD ⟨Nat.lt_succ_self _,by rw[ow];rfl,g,by rw[aO],rfl⟩
theorem DC{t:Nat}{x:Operand}{v:Va U}{u:Value}{K:AV U→Nat→Hs U→Prop}(hK:K (.v ⟨false,[(1,.ptr n 0)]⟩) (n+1) ((n,.cells v.l t)::H)){d:Nat}(ho:o.op= .box t x)(hd:o.dst=some d)(hn:Nat.blt d nt=true)(hx:ce.ev x=some u)(hv:ct (Vw U X w ρ n H) v u)(M:bd U X (· =w) ρ n H):il P nt U X w ρ n H ce o K:=by
 have key: ∀g w',w'.heap[g]? =some (Cl u.cells.toList t)→Fr [] w w'→w.heap.size≤g→ ∃av n' H' ρ' cv,K av n' H'∧((d,(.pointer (some ⟨g,0,none⟩):Value))::ce)=ce.dst o.dst cv∧jg (Vw U X w' ρ' n' H') av cv∧bd U X (· =w') ρ' n' H'∧bP ρ n H w ρ' n' H' w':=fun g w' hblk hf hg=>by
  have hb: ∀g',Lv (ci ρ n (rz (some ⟨g,0,none⟩) 0)) (n,(.cells v.l t:aN U)) g'→w.heap.size≤g':=fun g' h=>by
   have:=mo h;rw[tC]at this;injection this with this;subst this;exact hg
  have st:=bP.push (ρ:=ρ) M.xd M.lt hf (rz (some ⟨g,0,none⟩) 0) (.cells v.l t:aN U) hb;refine⟨_,_,_,ci ρ n (rz (some ⟨g,0,none⟩) 0),_,hK,aK.dstS hd _,?_,M.push hf _ _ hb ⟨g,_,by rw[aO],hv.cells.imp fun _ _ h=>h.step st,fun w2 h2=>by subst h2;exact hblk⟩,st⟩;exact eD ⟨Nat.lt_succ_self _,by rw[ow];rfl,g,by rw[aO],rfl⟩
 by_cases ha: ∃us:List Value,u= .agg us.toArray
 ·obtain⟨us,rfl⟩:=ha;exact HC ho hd hn hx (Hp.nil w) fun g w' hp hf hg=>key g w' (by simpa[Value.cells]using hp.at (i:=0) rfl) hf hg
 ·have hu:u.cells= #[u]:=by
   cases u with
   |agg cs=>exact absurd ⟨cs.toList,by simp⟩ ha
   |_=>rfl
  exact xG ho hd hn hx hu (Hp.nil w) fun g w' hp hf hg=>key g w' (by rw[hu];exact hp.at (i:=0) rfl) hf hg
end
end Go.Proofs.YtfgofabojepcmaaGreatDoor.V
end

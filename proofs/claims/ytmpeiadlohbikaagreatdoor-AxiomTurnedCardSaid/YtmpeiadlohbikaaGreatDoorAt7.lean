/- Maps are changed, and gone over. -/
import Derived.Test.YtmpeiadlohbikaaGreatDoorAt6
section
set_option linter.unusedVariables false
set_option linter.unusedSectionVars false
set_option linter.unusedSimpArgs false
namespace Go.Proofs.YtmpeiadlohbikaaGreatDoor.V
open Go.RowKit
section
variable [bB] [ao] {U:bD} {P:Program} {nt:Nat} {T:cW U} {X:List Nat} {S:World→Prop} {ρ:Nat→Rz} {n:Nat} {H:Hs U} {R e:En U} {ce:aI} {p:di} {o:Oper} {Y:List Nat} {g:Prop→Prop}
omit [ao]in
theorem Is{k:IntKind}{a b:Int}(h:dS k a)(h':dS k b):dS k (max a b):=by rw[Int.max_def];split<;>assumption
omit [ao]in
theorem Iu{k:IntKind}{a b:Int}(h:dS k a)(h':dS k b):dS k (min a b):=by rw[Int.min_def];split<;>assumption
omit [ao]in
theorem Gg{x y:Operand}{t u:Nat}{k:IntKind}{p q:Int}(ho:o.op= .call {callee:= .builtin .min,args:= #[x,y],argTypes:= #[t,u]})(hx:ce.ev x=some (.int k p))(hy:ce.ev y=some (.int k q)):ci P nt ce S o (.int k (min p q)):=fun a r w _=>by
 refine dN ho (r.eval hx) (r.eval hy) fun c=>?_;have e:(if q<p then q else p)=min p q:=by simp only[Int.min_def];split<;>split<;>omega
 simp[builtin,Builtin.min_,Builtin.min2,←e]
omit [ao]in
theorem bM.nth{V:Cx U→List Value→Prop}: ∀{l:List (Va U)} {us:List Value} {i:Nat} {x:Va U},bM V l us→dT l i=some x→ ∃u,us[i]? =some u∧cM V x u
 | [],us,i,x,h,hi=>by cases i<;>cases hi
 |y::r,us,0,x,h,hi=>by
  obtain⟨v,us',rfl,h1,_⟩:=h;injection hi with hi;subst hi;exact⟨v,rfl,h1⟩
 |y::r,us,i+1,x,h,hi=>by
  obtain⟨v,us',rfl,_,h2⟩:=h;obtain⟨u,hu,hv⟩:=bM.nth h2 (i:=i) hi;exact⟨u,hu,hv⟩
omit [ao]in
theorem DG{t:Nat}{x:Operand}{A:Addr}{u:Value}(ho:o.op= .load t x)(hx:ce.ev x=some (.pointer (some A)))(h: ∀w,S w→(loadVar t A).run P w= .ok u w):ci P nt ce S o u:=fun a r w hS=>by
 unfold execOp;simp[ho,r.eval hx,Instr.loadAt,Instr.sureAddr,h w hS]
omit [ao]in
theorem pj{α:Type}{a:Array α}{l:List α}(h:a.toList=l):a=l.toArray:=by rw[←h]
omit [ao]in
theorem kY{c:Call}{b:Builtin}{xs:List Operand}{ts:List TypeId}(h1:c.callee= .builtin b)(h2:c.args.toList=xs)(h3:c.argTypes.toList=ts):c={callee:= .builtin b,args:=xs.toArray,argTypes:=ts.toArray}:=by
 obtain⟨a,b',c'⟩:=c;simp only at h1 h2 h3;rw[h1,pj h2,pj h3]
theorem zS: ∀{l:List (Va U)} {K:List Nat→Prop},OP l K→ ∃js,K js∧ ∀vs,bM (bd U Y S ρ n H) l vs→vs=js.map (fun j=>Value.pointer (ρ j).A)∧ ∀j∈js,j<n∧bg (aD H j)=none∧ ∃g,(ρ j).A=some ⟨g,0,none⟩
 | [],K,h=>⟨[],h,fun vs hv=>⟨hv,fun j hj=>by cases hj⟩⟩
 |x::l,K,h=>by
  have h:(match (generalizing:=false) x with
   |⟨false,(_,.ptr j 0):: []⟩=>OP l fun r=>K (j::r)
   |_=>False):=h
  split at h
  ·rename_i k j _;obtain⟨js,h,hj⟩:=zS (l:=l) h;refine⟨_,h,fun vs hv=>?_⟩;obtain⟨v,us,rfl,h1,h2⟩:=hv;obtain⟨hi,hr,g,hA,e⟩:=(show bJ _ [(k,.ptr j 0)] [v]from h1).one1.1;injection e with e;obtain⟨e2,h3⟩:=hj us h2;refine⟨by rw[e2,e,List.map_cons,hA],fun i hi2=>?_⟩;rcases List.mem_cons.1 hi2 with rfl|hi2
   ·exact⟨hi,hr,g,hA⟩
   ·exact h3 i hi2
  ·exact h.elim
omit [ao]in
theorem R2{V:Cx U→List Value→Prop}{x:Va U}{u:Value}{b:Bool}(h:cM V x u)(hb:(x.ag==b)=true): ∃vs,d4 b u vs∧bJ V x.l vs:=by
 have e:x.ag=b:=by simpa using hb
 subst e;unfold cM at h;unfold d4;cases hx:x.ag with
 |true=>rw[hx]at h;obtain⟨vs,e,hs⟩:=h;exact⟨vs,e,hs⟩
 |false=>rw[hx]at h;exact⟨[u],rfl,h⟩
theorem kZ{s:aZ}{y:TT U.ty s}{u:Value}{vs:List Value}(h:d4 (eK s) u vs)(hd:aC U Y S s y vs):cM (bd U Y S ρ n H) (tJ s y) u:=by
 unfold cM tJ;unfold d4 at h;have hs:bJ (bd U Y S ρ n H) [(aG U s,.d s y)] vs:=⟨vs,[],by simp,hd.length,hd,rfl⟩;cases hx:eK s with
 |true=>rw[hx]at h;exact⟨vs,h,hs⟩
 |false=>rw[hx]at h;simp only at h;subst h;exact hs
theorem zT(hpr:ao.pr=P){t:Nat}{m kx:Operand}{ok:Bool}{K:AV U→Prop}(ho:o.op= .lookup t m kx ok)(h:gR p R e m fun c=>j6 p R e kx fun kv=>zn H c fun d l=>bif x6 T t d&&(kv.ag==eK d.k)then cG 20 d.k kv.l fun k=>KP ok d (@bO _ _ d.dec l k) K else False)(hT:bf U P T)(M:aX U X S ρ n H)(he:aJ (bd U (aj ρ H++X) S ρ n H) R e ce):
  match ok with
  |false=> ∃x,K (.v x)∧qA P nt ce S o (bn R e p) (bd U (aj ρ H++X) S ρ n H) x
  |true=> ∃l,K (.tup l)∧(bn R e p→ ∃us:List Value,ci P nt ce S o (.tuple us.toArray)∧bM (bd U (aj ρ H++X) S ρ n H) l us):=by
 obtain⟨c,h,hc⟩:=bj h he;obtain⟨kv,h,hk⟩:=cH h he;obtain⟨d,l,h,hkd,g,es,clock,mv,hM,hD,hw,hcv⟩:=wT h M;cases hb:(x6 T t d&&(kv.ag==eK d.k))with
 |false=>rw[hb]at h;exact h.elim
 |true=>
  rw[hb]at h;simp only[cond_true]at h;simp only[Bool.and_eq_true]at hb;have ht:=pi hb.1 hT;obtain⟨k,h,hkk⟩:=bu h
  letI:=d.dec
  unfold wJ at hkd;rw[hpr]at hkd;obtain⟨L,henc,z,hz,hz0⟩:=hkd;have key:bn R e p→ce.ev m=some (.map (some g))∧ce.ev kx=some (d.enc k):=fun hp=>by
   obtain⟨u,e1,h1⟩:=hc hp;obtain⟨q,e2,h2⟩:=hk hp;obtain⟨vs,h3,h4⟩:=R2 h2 hb.2;have e3:=hcv u h1;have e4:=henc _ _ k vs q (hkk _ _ _ _ _ _ h4) h3;rw[e1,e2,e3,e4];exact⟨rfl,rfl⟩
  have val: ∃vs,d4 (eK d.v) ((bO mv k).getD z) vs∧aC U (aj ρ H++X) S d.v ((bO l k).getD d.zero) vs:=by
   rcases hD.get k with⟨h1,h2⟩|⟨y,u,h1,h2,h3⟩
   ·rw[h1,h2];exact hz0 _ _
   ·rw[h1,h2];exact h3
  have som:(bO mv k).isSome=(bO l k).isSome:=by
   rcases hD.get k with⟨h1,h2⟩|⟨y,u,h1,h2,h3⟩
   ·rw[h1,h2];rfl
   ·rw[h1,h2];rfl
  obtain⟨vs,hv1,hv2⟩:=val;have yh: ∀w,S w→Hp w [(some g,.map es clock)]:=fun w hS=>Hp.one1 (hw w hS);cases ok with
  |false=>
   refine⟨_,h,fun hp=>?_⟩;obtain⟨e1,e2⟩:=key hp;exact⟨_,yM (ev:=fun v:Value=>v) ho e1 e2 ht L hz yh (i:=0) rfl hM,kZ hv1 hv2⟩
  |true=>
   refine⟨_,h,fun hp=>?_⟩;obtain⟨e1,e2⟩:=key hp;refine⟨[_,_],uS (ev:=fun v:Value=>v) ho e1 e2 ht L hz yh (i:=0) rfl hM,_,_,rfl,kZ hv1 hv2,_,_,rfl,?_,rfl⟩;rw[som];exact mt
omit [ao]in
theorem Iv{x:Operand}{K:AV U→Prop}(h:OQ p R e x K):j6 p R e x (fun v=>K (.v v))∨ ∃t l,x= .tmp t∧aD R t=none∧aD e t=some (.tup l)∧K (.tup l):=by
 unfold OQ at h;split at h
 ·rename_i t;unfold j6;simp only;split at h
  ·rename_i q y hR;first|(rw[hR];exact .inl h)|exact .inl h
  ·exact h.elim
  ·rename_i hR;split at h
   ·rename_i y hy;first|(rw[hR,hy];exact .inl h)|(rw[hy];exact .inl h)|exact .inl h
   ·rename_i l hy;exact .inr ⟨t,l,rfl,hR,hy,h⟩
   ·exact h.elim
 ·exact .inl h
def q9(o:Oper):Bool:=match o.op with
 | .move _=>true
 | .lookup _ _ _ true=>true
 | .entry _=>true
 |_=>false
theorem zU(hpr:ao.pr=P)(hlo:q9 o=false)(hg: ∀A,g A→bn R e p→A){K:AV U→Prop}(h:lN g T p o R e H K)(hT:bf U P T)(M:aX U X S ρ n H)(he:aJ (bd U (aj ρ H++X) S ρ n H) R e ce)(hS: ∃w,S w):
  ∃x,K (.v x)∧qA P nt ce S o (bn R e p) (bd U (aj ρ H++X) S ρ n H) x:=by
 unfold lN at h;split at h
 ·rename_i x ho;unfold q9 at hlo;rw[ho]at hlo;cases hlo
 ·rename_i x ho;obtain⟨v,hK,hv⟩:=cH h he;exact⟨v,hK,fun hp=>by obtain⟨u,e1,h1⟩:=hv hp;exact⟨u,nl ho e1,h1⟩⟩
 ·rename_i c a b ho;exact Ds h he ho
 ·rename_i t x ho;obtain⟨c,hK,hc⟩:=bj h he;obtain⟨v,hK,hv⟩:=tT hK M hT;exact⟨v,hK,fun hp=>by
   obtain⟨u0,e1,h1⟩:=hc hp;obtain⟨A,u,rfl,h2,h3⟩:=hv u0 h1;exact⟨u,DG ho e1 h3,h2⟩⟩
 ·rename_i x ho;obtain⟨c,hK,hc⟩:=bj h he;cases hb:Ga H c with
  |false=>rw[hb]at hK;exact hK.elim
  |true=>
   rw[hb]at hK;refine⟨_,hK,fun hp=>?_⟩;obtain⟨u0,e1,h1⟩:=hc hp;have: ∃A,u0= .pointer (some A):=by
    cases c with
    |ptr i f=>obtain⟨_,_,g,_,e2⟩:=h1;exact⟨_,by simpa using e2⟩
    |pd s a=>obtain⟨g,b,us,e2,_⟩:=h1;exact⟨_,by simpa using e2⟩
    |pax i f k s q f'=>obtain⟨_,_,_,_,g,_,e2⟩:=h1;exact⟨_,by simpa using e2⟩
    |pel i v q f=>exact wO h1 hb
    |_=>exact Bool.noConfusion (show false=true from hb)
   obtain⟨A,rfl⟩:=this;exact⟨_,L6 ho e1,gz h1⟩
 ·rename_i op t x y u ho;obtain⟨v,hK,hv⟩:=cH h he;obtain⟨w,hK,hw⟩:=cH hK he;exact Dr hg hK ho hT M hS hv hw
 ·rename_i op t x ho;obtain⟨c,hK,hc⟩:=bj h he;split at hK
  ·rename_i b;refine⟨_,hK,fun hp=>?_⟩;obtain⟨u0,e1,h1⟩:=hc hp;have:=aC.boolE h1;subst this;exact⟨_,Bz ho e1,mt⟩
  ·rename_i k q _;obtain⟨r,hK,hr⟩:=pf hg hK;refine⟨_,hK,fun hp=>?_⟩;obtain⟨u0,e1,h1⟩:=hc hp;obtain⟨rfl,h2⟩:=aC.intE h1;obtain⟨h3,h4⟩:=hr hp h2 h2;exact⟨_,LY ho e1 ((congrArg _ (Int.zero_sub _)).trans h3),pg h4⟩
  ·exact hK.elim
 ·rename_i t x f ho;obtain⟨c,hK,hc⟩:=bj h he;obtain⟨d,off,hK,hf,hd⟩:=Dk (X:=X) (S:=S) (ρ:=ρ) (n:=n) hK hT;exact⟨_,hK,fun hp=>by
   obtain⟨u0,e1,h1⟩:=hc hp;obtain⟨gb,k,rfl,h2⟩:=hd u0 h1;exact⟨_,L7 ho e1 hf,gz h2⟩⟩
 ·rename_i t x f ho;obtain⟨v,hK,hv⟩:=cH h he;cases hag:v.ag with
  |false=>simp only[hag]at hK
  |true=>
   simp only[hag]at hK;exact DB hK ho hT fun hp=>by
    obtain⟨u,e1,h1⟩:=hv hp;exact⟨u,e1,by rw[←hag];exact h1⟩
 ·rename_i t x y ho;obtain⟨c,hK,hc⟩:=bj h he;obtain⟨d,hK,hd⟩:=bj hK he;split at hK
  ·have hy:=fun hp=>show ce.ev y=_ by obtain⟨u,e1,h1⟩:=hd hp;rw[e1,(aC.intE h1).1]
   split at hK
   ·rename_i hA;obtain⟨c',hK,hc'⟩:=DE hg hK ho hA hT hc hy;exact⟨_,hK,hc'⟩
   ·obtain⟨c',hK,hc'⟩:=Dw hg hK ho hT M hS hc hy;exact⟨_,hK,hc'⟩
  ·exact hK.elim
 ·rename_i t x y ho;obtain⟨v,hK,hv⟩:=cH h he;obtain⟨d,hK,hd⟩:=bj hK he;split at hK
  ·have hy:=fun hp=>show ce.ev y=_ by obtain⟨u,e1,h1⟩:=hd hp;rw[e1,(aC.intE h1).1]
   cases hag:v.ag with
   |true=>
    simp only[hag]at hK;exact DF hg hK ho hT (fun hp=>by obtain⟨u,e1,h1⟩:=hv hp;exact⟨u,e1,hag▸h1⟩) hy
   |false=>
    simp only[hag]at hK;obtain⟨c,hK,hc⟩:=Iq hK;exact Dv hg hK ho hT (fun hp=>by obtain⟨u,e1,h1⟩:=hv hp;exact⟨u,e1,hc _ h1⟩) hy
  ·exact hK.elim
 ·rename_i t x lo hi ho;obtain⟨c,hK,hc⟩:=bj h he;obtain⟨c',hK,hc'⟩:=DA hg hK ho hT he hS hc;exact⟨_,hK,hc'⟩
 ·rename_i t m kx ok ho;have hl:=zT (nt:=nt) hpr ho h hT M he;cases ok with
  |false=>exact hl
  |true=>unfold q9 at hlo;rw[ho]at hlo;cases hlo
 ·rename_i x ho;unfold q9 at hlo;rw[ho]at hlo;cases hlo
 ·rename_i x i ho;split at h
  ·rename_i t;split at h
   ·exact h.elim
   ·rename_i hn;split at h
    ·rename_i l hl;split at h
     ·rename_i v hv;refine⟨v,h,fun _=>?_⟩;obtain⟨us,e1,h1⟩:=he.t _ _ hn hl;obtain⟨u,hu,h2⟩:=h1.nth hv;exact⟨u,GB ho e1 (by simpa using hu),h2⟩
     ·exact h.elim
    ·exact h.elim
  ·exact h.elim
 ·rename_i t ps ho;split at h
  ·rename_i ti hti;split at h
   ·rename_i hkd;have htk:=hT _ _ hti;obtain⟨pls,yh,hp2⟩:=htk.pl hkd;obtain⟨zs,hz,_,hzs⟩:=htk.zero;obtain⟨l,hK,hl⟩:=r8 hT hp2 he h;refine⟨_,hK,fun hp=>?_⟩;obtain⟨vs,cells,e1,e2,e3⟩:=hl hp zs (hzs _ _ _ _ _ _);exact⟨_,EJ (ps:=ps.toList) (by simpa using ho) e1 hz yh e2,cells,rfl,e3⟩
   ·rename_i k el hkd;split at h
    ·rename_i ei hei;have hu:P.underlying t=some (.array k el):=by have:=(hT _ _ hti).kd;rw[hkd]at this;exact this
     have hm:=(hT _ _ hei).size;obtain⟨zs,hz,_,hzs⟩:=(hT _ _ hti).zero;obtain⟨l,hK,hl⟩:=r8 hT (pls:=(Kq ei.sz el k 0).map fun q=>(q.1,ei.sz)) (fun f off ft hf=>zQ (k:=0) hm hf) he h;refine⟨_,hK,fun hp=>?_⟩;obtain⟨vs,cells,e1,e2,e3⟩:=hl hp zs (hzs _ _ _ _ _ _);refine⟨_,Bh (ps:=ps.toList) (by simpa using ho) e1 hu hm hz (q8 (fun i x hx=>?_) _ _ _ (gi _ _ _ _ e2)),cells,rfl,e3⟩;have hx:=zR (show((Kq ei.sz el k 0).map fun q=>(q.1,ei.sz))[i]? =some x by simpa using hx);rw[hx,Nat.zero_add]
    ·exact h.elim
   ·exact h.elim
  ·exact h.elim
 ·rename_i f first caps ho
  split at h
  ·rename_i hfi;obtain⟨xs,h,hxs⟩:=gU h he;obtain⟨js,hK,hj⟩:=zS (Y:=aj ρ H++X) (S:=S) (ρ:=ρ) (n:=n) (H:=H) h;refine⟨_,hK,fun hp=>?_⟩;obtain⟨vs,e1,hv⟩:=hxs hp;obtain⟨e2,h3⟩:=hj vs hv;exact⟨_,I8 (fs:= []) (cs:=caps.toList) (vf:= []) (by rw[ho];congr 1;exact pj hfi) rfl e1,gz ⟨by rw[e2],h3⟩⟩
  ·exact h.elim
 ·rename_i s d x ho;obtain⟨c,hK,hc⟩:=bj h he;obtain⟨ks,hK,hks⟩:=jz hK hT;obtain⟨kd,hK,hkd⟩:=jz hK hT;split at hK
  ·rename_i k q k' _ _;have hr: ∃r,K (.v ⟨false,[(1,.d (.int k') r)]⟩)∧(bn R e p→dS k q→k'.wrap q=r∧dS k' r):=by
    rcases hK with⟨h1,h2⟩|h2
    ·exact⟨q,h2,fun hp hq=>by have:=hg _ h1 hp hq;exact⟨r7 this,this⟩⟩
    ·exact⟨_,zJ h2,fun _ _=>⟨rfl,kX _ _⟩⟩
   obtain⟨r,hK,hr⟩:=hr;refine⟨_,hK,fun hp=>?_⟩;obtain⟨u0,e1,h1⟩:=hc hp;obtain⟨rfl,h2⟩:=aC.intE h1;have hsrc: ∃ds,P.underlying s=some ds:=by cases ks<;>first|exact⟨_,hks⟩|(obtain⟨z,hz⟩:=hks;exact⟨_,hz⟩)
   obtain⟨ds,hds⟩:=hsrc;obtain⟨h3,h4⟩:=hr hp h2;exact⟨_,Mn ho e1 hds hkd h3,pg h4⟩
  ·exact hK.elim
 ·rename_i c ho;split at h
  ·rename_i x t h1 h2 h3;obtain⟨a,hK,ha⟩:=bj h he;have hc:=kY h1 h2 h3;obtain⟨r,hK,hr⟩:=Du hK (by rw[ho,hc]) hT M hS ha;exact⟨_,hK,hr⟩
  ·rename_i x y t u h1 h2 h3;obtain⟨a,hK,ha⟩:=bj h he;obtain⟨b,hK,hb⟩:=bj hK he;have hc:=kY h1 h2 h3;split at hK
   ·rename_i k a k' b _;cases hk:kb k k' with
    |false=>rw[hk]at hK;exact hK.elim
    |true=>
     rw[hk]at hK;have:=mD hk;subst this;refine⟨_,hK,fun hp=>?_⟩;obtain⟨u0,e1,h4⟩:=ha hp;obtain⟨u1,e2,h5⟩:=hb hp;obtain⟨rfl,h6⟩:=aC.intE h4;obtain⟨rfl,h7⟩:=aC.intE h5;exact⟨_,LR (by rw[ho,hc]) e1 e2,pg (Is h6 h7)⟩
   ·exact hK.elim
  ·rename_i x y t u h1 h2 h3;obtain⟨a,hK,ha⟩:=bj h he;obtain⟨b,hK,hb⟩:=bj hK he;have hc:=kY h1 h2 h3;split at hK
   ·rename_i k a k' b _;cases hk:kb k k' with
    |false=>rw[hk]at hK;exact hK.elim
    |true=>
     rw[hk]at hK;have:=mD hk;subst this;refine⟨_,hK,fun hp=>?_⟩;obtain⟨u0,e1,h4⟩:=ha hp;obtain⟨u1,e2,h5⟩:=hb hp;obtain⟨rfl,h6⟩:=aC.intE h4;obtain⟨rfl,h7⟩:=aC.intE h5;exact⟨_,Gg (by rw[ho,hc]) e1 e2,pg (Iu h6 h7)⟩
   ·exact hK.elim
  ·exact h.elim
 ·exact h.elim
theorem tY(hpr:ao.pr=P)(hg: ∀A,g A→bn R e p→A){K:AV U→Prop}(h:lN g T p o R e H K)(hT:bf U P T)(M:aX U X S ρ n H)(he:aJ (bd U (aj ρ H++X) S ρ n H) R e ce)(hS: ∃w,S w):
  ∃x,K x∧(bn R e p→ ∃u,ci P nt ce S o u∧nv (bd U (aj ρ H++X) S ρ n H) x u):=by
 cases hl:q9 o with
 |false=>
  obtain⟨x,a,b⟩:=zU (nt:=nt) hpr hl hg h hT M he hS;exact⟨.v x,a,b⟩
 |true=>
  unfold q9 at hl;split at hl
  ·rename_i x ho;unfold lN at h;rw[ho]at h;rcases Iv h with h|⟨t,l,rfl,hR,hl,hK⟩
   ·obtain⟨v,hK,hv⟩:=cH h he;exact⟨_,hK,fun hp=>by obtain⟨u,e1,h1⟩:=hv hp;exact⟨u,jT ho e1,h1⟩⟩
   ·refine⟨_,hK,fun hp=>?_⟩;obtain⟨us,e1,h1⟩:=he.t t l hR hl;exact⟨_,jT ho (show ce.ev (.tmp t)=some _ from e1),us,rfl,h1⟩
  ·rename_i t m kx ho;unfold lN at h;rw[ho]at h;obtain⟨l,a,b⟩:=zT (nt:=nt) (ok:=true) hpr ho h hT M he;exact⟨.tup l,a,fun hp=>by obtain⟨us,b1,b2⟩:=b hp;exact⟨_,b1,us,rfl,b2⟩⟩
  ·rename_i x ho;unfold lN at h;rw[ho]at h;obtain⟨c,h,hc⟩:=bj h he;split at h
   ·rename_i j;split at h
    ·rename_i i gh hj;split at h
     ·rename_i d l left q gh' hi;obtain⟨rfl,hK⟩:=h;obtain⟨r,g,hA,hA2,hk,hrk,hwr⟩:=M.ent _ (af hj);obtain⟨hkd,g',es,clock,mv,lv,cv,hA3,hM,hD,hL,hC,hw⟩:=M.ent _ (af hi);rw[hA2]at hA3;injection hA3 with hA3;injection hA3 with hA3;subst hA3;refine⟨_,hK,fun hp=>?_⟩;obtain⟨u0,e1,h1⟩:=hc hp;have e0:u0= .pointer (some ⟨r,0,none⟩):=by
       obtain⟨_,_,g',hA',e⟩:=h1;rw[hA]at hA';injection hA' with hA';injection hA' with hA';subst hA';simpa using e
      subst e0;match cv,hC,hM with
      |(k,u):: [],⟨e2,⟨ks,k1,k2⟩,⟨vs,v1,v2⟩,_⟩,hM=>
       exact⟨_,Bf (p:=(k,u)) ho e1 hwr hw hM,[_,_],rfl,_,_,rfl,kZ (e2▸k1) k2,_,_,rfl,kZ v1 v2,rfl⟩
     ·exact h.elim
    ·exact h.elim
   ·exact h.elim
  ·cases hl
end
end Go.Proofs.YtmpeiadlohbikaaGreatDoor.V
end

section
set_option linter.unusedVariables false
set_option linter.unusedSimpArgs false
namespace Go.Proofs.YtmpeiadlohbikaaGreatDoor.V
open Go.RowKit
section
variable [ao] {U:bD} {X:List Nat} {ρ ρ':Nat→Rz} {n n':Nat} {H H':Hs U} {w w':World}
structure bQ(ρ:Nat→Rz)(n:Nat)(H:Hs U)(w:World)(ρ':Nat→Rz)(n':Nat)(H':Hs U)(w':World):Prop where
 xd: ∀g∈aj ρ H,g∉ao.xf
 nn:n≤n'
 fr:Fr (aj ρ H) w w'
 nb: ∀g∈aj ρ' H',g∈aj ρ H∨w.heap.size≤g
 row: ∀i,i<n→ ∀v' l' m',bg (aD H' i)=some (v',l',m')→ ∃v l m,bg (aD H i)=some (v,l,m)∧v≤v'∧(v=v'→ρ' i=ρ i∧l'=l∧m'=m)
 cel: ∀i,i<n→bg (aD H i)=none→ρ' i=ρ i
theorem aX.xd{S:World→Prop}(M:aX U X S ρ n H): ∀g∈aj ρ H,g∉ao.xf:=fun g hg hx=>M.dj g hg (M.xs g hx)
theorem aX.gY{S:World→Prop}(M:aX U X S ρ n H): ∀z∈gB,z∈aj ρ H++X:=fun z hz=>List.mem_append_right _ (M.xs z (M.gv.1 z hz))
theorem aX.stp0(M:aX U X (· =w) ρ n H):bQ ρ n H w ρ n H w:=
 ⟨M.xd,Nat.le_refl _,Fr.refl _ _,fun _ h=> .inl h,fun i hi v' l' m' h=>⟨v',l',m',h,Nat.le_refl _,fun _=>⟨rfl,rfl,rfl⟩⟩,fun _ _ _=>rfl⟩
theorem bQ.trans{ρ2:Nat→Rz}{n2:Nat}{H2:Hs U}{w2:World}(a:bQ ρ n H w ρ' n' H' w')(b:bQ ρ' n' H' w' ρ2 n2 H2 w2):bQ ρ n H w ρ2 n2 H2 w2:=by
 refine⟨a.xd,Nat.le_trans a.nn b.nn,a.fr.step b.fr a.nb,fun g hg=>?_,fun i hi v2 l2 m2 h2=>?_,fun i hi h=>?_⟩
 ·rcases b.nb g hg with h|h
  ·exact a.nb g h
  ·exact .inr (Nat.le_trans a.fr.size h)
 ·obtain⟨v1,l1,m1,h1,hle,heq⟩:=b.row i (by have:=a.nn;omega) v2 l2 m2 h2;obtain⟨v0,l0,m0,h0,hle0,heq0⟩:=a.row i hi v1 l1 m1 h1;refine⟨v0,l0,m0,h0,Nat.le_trans hle0 hle,fun he=>?_⟩;obtain⟨a1,a2,a3⟩:=heq (by omega);obtain⟨b1,b2,b3⟩:=heq0 (by omega);exact⟨a1.trans b1,a2.trans b2,a3.trans b3⟩
 ·have h1:bg (aD H' i)=none:=by
   cases hr:bg (aD H' i)with
   |none=>rfl
   |some x=>obtain⟨v,l,m,h0,_⟩:=a.row i hi _ _ _ hr;rw[h]at h0;cases h0
  rw[b.cel i (by have:=a.nn;omega) h1,a.cel i hi h]
theorem bQ.mv(s:bQ ρ n H w ρ' n' H' w'):Mv (aj ρ H++X) (· =w) (aj ρ' H'++X) (· =w'):=fun w2 h2=>by
 subst h2;refine⟨w,_,rfl,s.fr,fun x hx=>⟨List.mem_append_left _ hx,s.xd x hx⟩,fun y hy=>?_⟩;rcases List.mem_append.1 hy with hy|hy
 ·rcases s.nb y hy with h|h
  ·exact .inl (List.mem_append_left _ h)
  ·exact .inr h
 ·exact .inl (List.mem_append_right _ hy)
theorem pb.step(s:bQ ρ n H w ρ' n' H' w'){i v:Nat}(hi:i<n){Q Q':Nat→Nat→Prop}(h:pb H i v Q)(hQ: ∀l m,ρ' i=ρ i→Q l m→Q' l m):pb H' i v Q':=fun v' l m hr=>by
 obtain⟨v0,l0,m0,h0,hle,heq⟩:=s.row i hi _ _ _ hr;obtain⟨h1,h2⟩:=h _ _ _ h0;refine⟨Nat.le_trans h1 hle,fun e=>?_⟩;obtain⟨a1,a2,a3⟩:=heq (by omega);subst a2;subst a3;exact hQ _ _ a1 (h2 (by omega))
theorem bd.step(s:bQ ρ n H w ρ' n' H' w'){x:Cx U}{vs:List Value}(h:bd U (aj ρ H++X) (· =w) ρ n H x vs):bd U (aj ρ' H'++X) (· =w') ρ' n' H' x vs:=by
 have m:=s.mv (X:=X);cases x with
 |d sh t=>exact aC.mv m h
 |own i v=>
  obtain⟨hi,A,l,c,e,hn⟩:=h;exact⟨Nat.lt_of_lt_of_le hi s.nn,A,l,c,e,hn.step s hi fun l m hr ⟨a,b,c⟩=>⟨by rw[hr];exact a,b,by rw[hr];exact c⟩⟩
 |ptr i off=>
  obtain⟨hi,hr,g,hA,e⟩:=h;refine⟨Nat.lt_of_lt_of_le hi s.nn,?_,g,by rw[s.cel i hi hr];exact hA,e⟩;cases hr':bg (aD H' i)with
  |none=>rfl
  |some y=>obtain⟨v,l,m,h0,_⟩:=s.row i hi _ _ _ hr';rw[hr]at h0;cases h0
 |pax i off k sh q o=>
  obtain⟨hi,hr,h0,h1,g,hA,e⟩:=h;refine⟨Nat.lt_of_lt_of_le hi s.nn,?_,h0,h1,g,by rw[s.cel i hi hr];exact hA,e⟩;cases hr':bg (aD H' i)with
  |none=>rfl
  |some y=>obtain⟨v,l,m,h0,_⟩:=s.row i hi _ _ _ hr';rw[hr]at h0;cases h0
 |pel i v q off=>
  obtain⟨hi,a,e,hn⟩:=h;exact⟨Nat.lt_of_lt_of_le hi s.nn,a,e,hn.step s hi fun l m hr ⟨g,hA,r⟩=>⟨g,by rw[hr];exact hA,r⟩⟩
 |pd sh t=>
  obtain⟨g,b,us,e,hd,hr⟩:=h;exact⟨g,b,us,e,aC.mv m hd,hr.mv m⟩
 |nilp=>exact h
 |nils=>exact h
 |nilf=>exact h
 |nilm=>exact h
 |fn f=>exact h
 |clo f js=>
  obtain⟨e,hj⟩:=h;refine⟨e.trans ?_,fun j hjm=>?_⟩
  ·rw[List.map_congr_left (g:=fun j=>Value.pointer (ρ' j).A) fun j hjm=>by rw[s.cel j (hj j hjm).1 (hj j hjm).2.1]]
  ·obtain⟨hi,hr,g,hA⟩:=hj j hjm;refine⟨Nat.lt_of_lt_of_le hi s.nn,?_,g,by rw[s.cel j hi hr];exact hA⟩;cases hr':bg (aD H' j)with
   |none=>rfl
   |some y=>obtain⟨v,l,m,h0,_⟩:=s.row j hi _ _ _ hr';rw[hr]at h0;cases h0
 |f1 a g=>obtain⟨u,e,hf⟩:=h;exact⟨u,e,hf.mv m⟩
 |f2 a b g=>obtain⟨u,e,hf⟩:=h;exact⟨u,e,hf.mv m⟩
 |mp i=>
  obtain⟨hi,hr,g,hA,e⟩:=h;refine⟨Nat.lt_of_lt_of_le hi s.nn,?_,g,by rw[s.cel i hi hr];exact hA,e⟩;cases hr':bg (aD H' i)with
  |none=>rfl
  |some y=>obtain⟨v,l,m,h0,_⟩:=s.row i hi _ _ _ hr';rw[hr]at h0;cases h0
 |un=>exact h
omit [ao]in
theorem bJ.imp{V V':Cx U→List Value→Prop}(h: ∀x vs,V x vs→V' x vs): ∀{l:List (cd U)} {vs:List Value},bJ V l vs→bJ V' l vs
 | [],vs,hs=>hs
 |(k,x)::r,vs,hs=>by obtain⟨v1,v2,e,hl,hx,hr⟩:=hs;exact⟨v1,v2,e,hl,h _ _ hx,bJ.imp h hr⟩
omit [ao]in
theorem cM.imp{V V':Cx U→List Value→Prop}(h: ∀x vs,V x vs→V' x vs){x:Va U}{v:Value}(hv:cM V x v):cM V' x v:=by
 unfold cM at*;split at hv
 ·obtain⟨vs,e,hs⟩:=hv;exact⟨vs,e,hs.imp h⟩
 ·exact hv.imp h
omit [ao]in
theorem bM.imp{V V':Cx U→List Value→Prop}(h: ∀x vs,V x vs→V' x vs): ∀{l:List (Va U)} {vs:List Value},bM V l vs→bM V' l vs
 | [],vs,hs=>hs
 |x::r,vs,hs=>by obtain⟨v,us,e,hx,hr⟩:=hs;exact⟨v,us,e,hx.imp h,bM.imp h hr⟩
omit [ao]in
theorem aJ.imp{V V':Cx U→List Value→Prop}(h: ∀x vs,V x vs→V' x vs){R e:En U}{ce:aI}(he:aJ V R e ce):aJ V' R e ce:=
 ⟨fun k x h1 h2=>by obtain⟨u,a,b⟩:=he.v k x h1 h2;exact⟨u,a,b.imp h⟩,fun k l h1 h2=>by obtain⟨u,a,b⟩:=he.t k l h1 h2;exact⟨u,a,b.imp h⟩,
  fun k p x h1=>by obtain⟨u,a,b,c⟩:=he.g k p x h1;exact⟨u,a,fun hp=>(b hp).imp h,c⟩⟩
theorem aJ.step(s:bQ ρ n H w ρ' n' H' w'){R e:En U}{ce:aI}(he:aJ (bd U (aj ρ H++X) (· =w) ρ n H) R e ce):aJ (bd U (aj ρ' H'++X) (· =w') ρ' n' H') R e ce:=he.imp fun _ _ h=>h.step s
theorem lQ.step(s:bQ ρ n H w ρ' n' H' w'){i:Nat}{x:aH U}(h:lQ U (aj ρ H++X) (· =w) ρ n H i x)(hr:ρ' i=ρ i)(hb: ∀g,Lv ρ (i,x) g→w'.heap[g]? =w.heap[g]?):lQ U (aj ρ' H'++X) (· =w') ρ' n' H' i x:=by
 have m:=s.mv (X:=X);cases x with
 |cells l t=>
  obtain⟨g,vs,hA,hs,hw⟩:=h;refine⟨g,vs,by rw[hr];exact hA,hs.imp fun _ _ h=>h.step s,fun w2 h2=>?_⟩;subst h2;rw[hb g (show ab (ρ i).A=some g by rw[hA];rfl)];exact hw w rfl
 |row v e xs t=>
  obtain⟨hm,cs,sp,hd,ho,hw⟩:=h;refine⟨hm,cs,sp,aR.mv m hd,by rw[hr];exact ho,fun g hg w2 h2=>?_⟩;subst h2;rw[hr]at hg;rw[hb g hg];exact hw g hg w rfl
 |frz v e xs=>
  obtain⟨hm,cs,hd,hrd,h1,h2⟩:=h;exact⟨hm,cs,aR.mv m hd,by rw[hr];exact hrd.mv m,by rw[hr];exact h1,by rw[hr];exact h2⟩
 |map d l=>
  obtain⟨hk,g,es,clock,mv,hA,hm,hd,hw⟩:=h;refine⟨hk,g,es,clock,mv,by rw[hr];exact hA,hm,aK.mv m hd,fun w2 h2=>?_⟩;subst h2;rw[hb g (show ab (ρ i).A=some g by rw[hA];rfl)];exact hw w rfl
 |mapr d l left cur gh=>
  obtain⟨hk,g,es,clock,mv,lv,cv,hA,hm,hd,hl,hc,hw⟩:=h;refine⟨hk,g,es,clock,mv,lv,cv,by rw[hr];exact hA,hm,aK.mv m hd,aK.mv m hl,aK.mv m hc,fun w2 h2=>?_⟩;subst h2;rw[hb g (show ab (ρ i).A=some g by rw[hA];rfl)];exact hw w rfl
 |it k gh=>
  obtain⟨r,g,hA,hA2,hk,hrk,hw⟩:=h;refine⟨r,g,by rw[hr];exact hA,by rw[s.cel k hk hrk];exact hA2,Nat.lt_of_lt_of_le hk s.nn,?_,fun w2 h2=>?_⟩
  ·cases hr':bg (aD H' k)with
   |none=>rfl
   |some y=>obtain⟨v,l,m,h0,_⟩:=s.row k hk _ _ _ hr';rw[hrk]at h0;cases h0
  ·subst h2;rw[hb r (show ab (ρ i).A=some r by rw[hA];rfl)];exact hw w rfl
 |ext v d xs op=>
  obtain⟨C,hd,hw,ho⟩:=h;refine⟨C,by rw[hr];exact d.mv m.fr hd,fun g hg w2 h2=>?_,by rw[hr];exact ho.imp fun _ _ h=>h.step s⟩;subst h2;rw[hr]at hg;rw[hb g hg];exact hw g hg w rfl
 |clo f l=>trivial
 |hid v l m=>trivial
 |dead=>trivial
omit [ao]in
theorem tZ{α:Type}: ∀{l:List (Nat×α)} {i:Nat},(∀p∈l,p.1≠i)→aD l i=none
 | [],i,h=>rfl
 |(j,y)::r,i,h=>by
  unfold aD;rw[cu (h (j,y) (by simp))];exact tZ fun p hp=>h p (List.mem_cons_of_mem _ hp)
omit [ao]in
theorem dC{α:Type}: ∀{l:List (Nat×α)} {i:Nat} {x:α},(l.map (·.1)).Nodup→(i,x)∈l→aD l i=some x
 |(j,y)::r,i,x,hn,h=>by
  unfold aD;rw[List.map_cons,List.nodup_cons]at hn;rcases List.mem_cons.1 h with h|h
  ·injection h with h1 h2;subst h1;subst h2;rw[Nat.beq_refl];rfl
  ·have: ¬j=i:=by rintro rfl;exact hn.1 (List.mem_map.2 ⟨_,h,rfl⟩)
   rw[cu this];exact dC hn.2 h
omit [ao]in
theorem aA{g:Nat}:g∈aj ρ H↔ ∃p∈H,Lv ρ p g:=by
 unfold aj;rw[List.mem_flatMap];exact⟨fun⟨p,h1,h2⟩=>⟨p,h1,jd.1 h2⟩,fun⟨p,h1,h2⟩=>⟨p,h1,jd.2 h2⟩⟩
def bR(ρ:Nat→Rz)(i:Nat)(r:Rz):Nat→Rz:=fun j=>bif Nat.beq i j then r else ρ j
omit [ao]in
theorem ax(ρ:Nat→Rz)(i:Nat)(r:Rz):bR ρ i r i=r:=by unfold bR;rw[Nat.beq_refl];rfl
omit [ao]in
theorem aU(ρ:Nat→Rz)(i:Nat):bR ρ i (ρ i)=ρ:=by
 funext j;unfold bR;cases hb:Nat.beq i j with
 |true=>rw[Nat.eq_of_beq_eq_true hb];rfl
 |false=>rfl
omit [ao]in
theorem ck{i j:Nat}(h: ¬i=j)(ρ:Nat→Rz)(r:Rz):bR ρ i r j=ρ j:=by unfold bR;rw[cu h];rfl
omit [ao]in
theorem mK{i:Nat}{r:Rz}{p:Nat×aH U}(h: ¬i=p.1):Lv (bR ρ i r) p=Lv ρ p:=by
 obtain⟨j,x⟩:=p;unfold Lv;cases x<;>simp only[ck h]
theorem bQ.push(xd: ∀g∈aj ρ H,g∉ao.xf)(hlt: ∀p∈H,p.1<n)(hf:Fr [] w w')(r:Rz)(x:aH U)(hb: ∀g,Lv (bR ρ n r) (n,x) g→w.heap.size≤g):bQ ρ n H w (bR ρ n r) (n+1) ((n,x)::H) w':=by
 refine⟨xd,Nat.le_succ _,hf.mono (by simp),fun g hg=>?_,fun i hi v' l' m' h=>?_,fun i hi _=>ck (by omega) ρ r⟩
 ·obtain⟨p,hp,hg⟩:=aA.1 hg;rcases List.mem_cons.1 hp with rfl|hp
  ·exact .inr (hb g hg)
  ·rw[mK (by have:=hlt p hp;omega)]at hg;exact .inl (aA.2 ⟨p,hp,hg⟩)
 ·unfold aD at h;rw[cu (by omega)]at h;exact⟨v',l',m',h,Nat.le_refl _,fun _=>⟨ck (by omega) ρ r,rfl,rfl⟩⟩
theorem cl(M:aX U X (· =w) ρ n H): ∀p∈H,∀g,Lv ρ p g→g<w.heap.size:=fun p hp g hg=>by
 have h:=M.ent p hp;obtain⟨i,x⟩:=p;cases x with
 |cells l t=>
  obtain⟨g',vs,hA,hs,hw⟩:=h;unfold Lv at hg;simp only[hA]at hg;injection hg with hg;subst hg;exact cg (hw w rfl)
 |row v e xs t=>
  obtain⟨hm,cs,sp,hd,ho,hw⟩:=h;exact cg (hw g hg w rfl)
 |map d l=>
  obtain⟨hk,g',es,clock,mv,hA,hm,hd,hw⟩:=h;unfold Lv at hg;simp only[hA]at hg;injection hg with hg;subst hg;exact cg (hw w rfl)
 |mapr d l left cur gh=>
  obtain⟨hk,g',es,clock,mv,lv,cv,hA,hm,hd,hl,hc,hw⟩:=h;unfold Lv at hg;simp only[hA]at hg;injection hg with hg;subst hg;exact cg (hw w rfl)
 |it k gh=>
  obtain⟨r,g',hA,hA2,hk,hrk,hw⟩:=h;unfold Lv at hg;simp only[hA]at hg;injection hg with hg;subst hg;exact cg (hw w rfl)
 |ext v d xs op=>
  obtain⟨C,hd,hw,ho⟩:=h;exact cg (hw g hg w rfl)
 |_=>cases hg
theorem aX.push(M:aX U X (· =w) ρ n H)(hf:Fr [] w w')(r:Rz)(x:aH U)(hb: ∀g,Lv (bR ρ n r) (n,x) g→w.heap.size≤g)
  (he:lQ U (aj (bR ρ n r) ((n,x)::H)++X) (· =w') (bR ρ n r) (n+1) ((n,x)::H) n x):aX U X (· =w') (bR ρ n r) (n+1) ((n,x)::H):=by
 have s:=bQ.push (ρ:=ρ) M.xd M.lt hf r x hb;have hX: ∀g∈X,g<w.heap.size:=M.lo w rfl;refine⟨?_,fun p hp=>?_,fun p hp=>?_,fun p hp q hq g h1 h2=>?_,fun g hg=>?_,fun w2 h2 x hx=>?_,M.xs,M.gv.fr hf (fun _ h=>by cases h)⟩
 ·rw[List.map_cons,List.nodup_cons];refine⟨fun h=>?_,M.nd⟩;obtain⟨p,hp,h⟩:=List.mem_map.1 h;have:=M.lt p hp;omega
 ·rcases List.mem_cons.1 hp with rfl|hp
  ·exact Nat.lt_succ_self _
  ·exact Nat.lt_succ_of_lt (M.lt p hp)
 ·rcases List.mem_cons.1 hp with rfl|hp
  ·exact he
  ·have hne: ¬n=p.1:=by have:=M.lt p hp;omega
   exact(M.ent p hp).step s (ck hne ρ r) fun g hg=>hf.block g (cl M p hp g hg) (by simp)
 ·have old: ∀q∈H,∀g,Lv (bR ρ n r) q g→g<w.heap.size:=fun q hq g hg=>by
   rw[mK (by have:=M.lt q hq;omega)]at hg;exact cl M q hq g hg
  rcases List.mem_cons.1 hp with rfl|hp<;>rcases List.mem_cons.1 hq with rfl|hq
  ·rfl
  ·have a:=hb g h1;have b:=old q hq g h2;omega
  ·have a:=hb g h2;have b:=old p hp g h1;omega
  ·rw[mK (by have:=M.lt p hp;omega)]at h1;rw[mK (by have:=M.lt q hq;omega)]at h2;exact M.inj p hp q hq g h1 h2
 ·rcases s.nb g hg with h|h
  ·exact M.dj g h
  ·exact fun hx=>by have:=hX g hx;omega
 ·subst h2;exact Nat.lt_of_lt_of_le (hX x hx) hf.size
def cO:Hs U→Nat→aH U→Hs U
 | [],_,_=> []
 |y::r,i,x=>bif Nat.beq y.1 i then(i,x)::r else y::cO r i x
omit [ao]in
theorem bU{i:Nat}{x:aH U}: ∀{H:Hs U} {K:Hs U→Prop},fh H i x K→K (cO H i x)
 | [],K,h=>h.elim
 |y::r,K,h=>by
  have h:(bif Nat.beq y.1 i then K ((i,x)::r)else fh r i x fun r'=>K (y::r')):=h;unfold cO;cases hb:Nat.beq y.1 i with
  |true=>rw[hb]at h;exact h
  |false=>rw[hb]at h;exact bU (H:=r) h
omit [ao]in
theorem eL{i:Nat}{x:aH U}: ∀{H:Hs U},(cO H i x).map (·.1)=H.map (·.1)
 | []=>rfl
 |y::r=>by
  unfold cO;cases hb:Nat.beq y.1 i with
  |true=>have:=Nat.eq_of_beq_eq_true hb;simp[this]
  |false=>simp[eL (H:=r)]
omit [ao]in
theorem bV{i j:Nat}{x:aH U}: ∀{H:Hs U},(∃y,aD H i=some y)→aD (cO H i x) j=if i=j then some x else aD H j
 | [],h=>by obtain⟨y,h⟩:=h;cases h
 |y::r,h=>by
  unfold cO;cases hb:Nat.beq y.1 i with
  |true=>
   have hyi:=Nat.eq_of_beq_eq_true hb;simp only[cond_true];unfold aD;by_cases hij:i=j
   ·subst hij;rw[Nat.beq_refl,if_pos rfl];rfl
   ·rw[cu hij,if_neg hij];obtain⟨a,b⟩:=y;simp only at hyi;subst hyi;simp only[cu hij,cond_false]
  |false=>
   simp only[cond_false];obtain⟨a,b⟩:=y;unfold aD at h⊢;simp only at hb;rw[hb]at h;have ih:=bV (j:=j) (x:=x) (H:=r) h;cases hj:Nat.beq a j with
   |true=>
    have haj:=Nat.eq_of_beq_eq_true hj;have hij: ¬i=j:=by rintro rfl;rw[hj]at hb;cases hb
    rw[if_neg hij];rfl
   |false=>simp only[cond_false];exact ih
omit [ao]in
theorem bw{i:Nat}{x:aH U}(hn:(H.map (·.1)).Nodup)(hi: ∃y,aD H i=some y): ∀p∈cO H i x,p=(i,x)∨(p∈H∧ ¬i=p.1):=fun p hp=>by
 have hn':((cO H i x).map (·.1)).Nodup:=by rw[eL];exact hn
 obtain⟨j,y⟩:=p;have h1:=dC hn' hp;rw[bV hi]at h1;by_cases hij:i=j
 ·subst hij;rw[if_pos rfl]at h1;injection h1 with h1;subst h1;exact .inl rfl
 ·rw[if_neg hij]at h1;exact .inr ⟨af h1,hij⟩
theorem bQ.upd(xd: ∀g∈aj ρ H,g∉ao.xf)(hn:(H.map (·.1)).Nodup){i:Nat}{x y:aH U}(hi:aD H i=some y)(hf:Fr (gy ρ (i,y)) w w')(r:Rz)
  (hb: ∀g,Lv (bR ρ i r) (i,x) g→Lv ρ (i,y) g∨w.heap.size≤g)
  (hr: ∀v' l' m',bg (some x)=some (v',l',m')→ ∃v l m,bg (some y)=some (v,l,m)∧v≤v'∧(v=v'→r=ρ i∧l'=l∧m'=m)) (hc:bg (some y)=none→r=ρ i):bQ ρ n H w (bR ρ i r) n (cO H i x) w':=by
 have hi': ∃y,aD H i=some y:=⟨y,hi⟩;refine⟨xd,Nat.le_refl _,hf.mono fun g hg=>?_,fun g hg=>?_,fun j hj v' l' m' h=>?_,fun j hj h=>?_⟩
 ·refine aA.2 ⟨(i,y),af hi,jd.1 hg⟩
 ·obtain⟨p,hp,hg⟩:=aA.1 hg;rcases bw hn hi' p hp with rfl|⟨hp,hne⟩
  ·rcases hb g hg with h|h
   ·exact .inl (aA.2 ⟨_,af hi,h⟩)
   ·exact .inr h
  ·rw[mK hne]at hg;exact .inl (aA.2 ⟨p,hp,hg⟩)
 ·rw[bV hi']at h;by_cases hij:i=j
  ·subst hij;rw[if_pos rfl]at h;rw[hi,ax];exact hr _ _ _ h
  ·rw[if_neg hij]at h;exact⟨v',l',m',h,Nat.le_refl _,fun _=>⟨ck hij ρ r,rfl,rfl⟩⟩
 ·by_cases hij:i=j
  ·subst hij;rw[hi]at h;rw[ax];exact hc h
  ·exact ck hij ρ r
theorem aX.upd(M:aX U X (· =w) ρ n H){i:Nat}{x y:aH U}(hi:aD H i=some y)(hf:Fr (gy ρ (i,y)) w w')(r:Rz)
  (hb: ∀g,Lv (bR ρ i r) (i,x) g→Lv ρ (i,y) g∨w.heap.size≤g)
  (hr: ∀v' l' m',bg (some x)=some (v',l',m')→ ∃v l m,bg (some y)=some (v,l,m)∧v≤v'∧(v=v'→r=ρ i∧l'=l∧m'=m)) (hc:bg (some y)=none→r=ρ i)
  (he:lQ U (aj (bR ρ i r) (cO H i x)++X) (· =w') (bR ρ i r) n (cO H i x) i x):aX U X (· =w') (bR ρ i r) n (cO H i x):=by
 have hi': ∃y,aD H i=some y:=⟨y,hi⟩;have s:=bQ.upd (n:=n) M.xd M.nd hi hf r hb hr hc;have hX: ∀g∈X,g<w.heap.size:=M.lo w rfl;have hne: ∀p∈H,¬i=p.1→ ∀g,Lv ρ p g→g∉gy ρ (i,y):=fun p hp hn g hg hm=>hn (M.inj _ (af hi) p hp g (jd.1 hm) hg);refine⟨by rw[eL];exact M.nd,fun p hp=>?_,fun p hp=>?_,fun p hp q hq g h1 h2=>?_,fun g hg=>?_,fun w2 h2 x hx=>?_,M.xs,M.gv.fr s.fr M.xd⟩
 ·rcases bw M.nd hi' p hp with rfl|⟨hp,_⟩
  ·exact M.lt (i,y) (af hi)
  ·exact M.lt p hp
 ·rcases bw M.nd hi' p hp with rfl|⟨hp,hn⟩
  ·exact he
  ·exact(M.ent p hp).step s (ck hn ρ r) fun g hg=>hf.block g (cl M p hp g hg) (hne p hp hn g hg)
 ·rcases bw M.nd hi' p hp with rfl|⟨hp,hn⟩<;>rcases bw M.nd hi' q hq with rfl|⟨hq,hm⟩
  ·rfl
  ·rw[mK hm]at h2;rcases hb g h1 with h|h
   ·exact M.inj (i,y) (af hi) q hq g h h2
   ·have:=cl M q hq g h2;omega
  ·rw[mK hn]at h1;rcases hb g h2 with h|h
   ·exact M.inj p hp (i,y) (af hi) g h1 h
   ·have:=cl M p hp g h1;omega
  ·rw[mK hn]at h1;rw[mK hm]at h2;exact M.inj p hp q hq g h1 h2
 ·rcases s.nb g hg with h|h
  ·exact M.dj g h
  ·exact fun hx=>by have:=hX g hx;omega
 ·subst h2;exact Nat.lt_of_lt_of_le (hX x hx) hf.size
end
end Go.Proofs.YtmpeiadlohbikaaGreatDoor.V
end

section
set_option linter.unusedVariables false
set_option linter.unusedSectionVars false
set_option linter.unusedSimpArgs false
namespace Go.Proofs.YtmpeiadlohbikaaGreatDoor.V
open Go.RowKit
section
variable [bB] [ao] {U:bD} {P:Program} {nt:Nat} {T:cW U} {X:List Nat} {w:World} {ρ:Nat→Rz} {n:Nat} {H:Hs U} {R e:En U} {ce:aI} {o:Oper}
abbrev Vw(U:bD)(X:List Nat)(w:World)(ρ:Nat→Rz)(n:Nat)(H:Hs U):Cx U→List Value→Prop:=bd U (aj ρ H++X) (· =w) ρ n H
theorem DH{x:cd U}{K:Hs U→cd U→Prop}(h:tH H x K)(M:aX U X (· =w) ρ n H): ∃H' y,K H' y∧aX U X (· =w) ρ n H'∧bQ ρ n H w ρ n H' w∧ ∀vs,bJ (Vw U X w ρ n H) [x] vs→bJ (Vw U X w ρ n H') [y] vs:=by
 unfold tH at h;split at h
 ·rename_i i v;split at h
  ·rename_i v' s xs t hl;cases hb:Nat.beq v v' with
   |false=>rw[hb]at h;exact h.elim
   |true=>
    rw[hb]at h;simp only[cond_true]at h;have hvv:=Nat.eq_of_beq_eq_true hb;subst hvv;have hK:=bU h;obtain⟨hm,cs,sp,hd,ho,hw⟩:=M.ent _ (af hl);have hb0: ∀g,Lv (bR ρ i (ρ i)) (i,(.frz v s xs:aH U)) g→Lv ρ (i,(.row v s xs t:aH U)) g∨w.heap.size≤g:=fun g hg=>by cases hg
    have hr0: ∀v' l' m',bg (some (.frz v s xs:aH U))=some (v',l',m')→ ∃v0 l m,bg (some (.row v s xs t:aH U))=some (v0,l,m)∧v0≤v'∧(v0=v'→ρ i=ρ i∧l'=l∧m'=m):=fun v' l' m' hr=>⟨v',l',m',hr,Nat.le_refl _,fun _=>⟨rfl,rfl,rfl⟩⟩;have hf:Fr (gy ρ (i,(.row v s xs t:aH U))) w w:=Fr.refl _ _;have st:=bQ.upd (n:=n) M.xd M.nd hl hf (ρ i) hb0 hr0 (fun _=>rfl);rw[aU]at st;have hrd:rS (aj ρ (cO H i (.frz v s xs))++X) (· =w) (ρ i).A cs:=fun w2 h2 j u hj=>by
     subst h2;have hjl:j<cs.length:=(List.getElem?_eq_some_iff.1 hj).1;rcases ho.2 with⟨_,h0,_⟩|⟨g,hA,_⟩
     ·rw[ho.1,h0,Nat.zero_mul]at hjl;omega
     refine⟨g,0,hA,fun hg=>?_,?_⟩
     ·rcases List.mem_append.1 hg with hg|hg
      ·obtain⟨p,hp,hg⟩:=aA.1 hg;rcases bw M.nd ⟨_,hl⟩ p hp with rfl|⟨hp,hne⟩
       ·cases hg
       ·exact hne (M.inj (i,.row v s xs t) (af hl) p hp g (show ab (ρ i).A=some g by rw[hA];rfl) hg)
      ·exact M.dj g (aA.2 ⟨(i,.row v s xs t),af hl,show ab (ρ i).A=some g by rw[hA];rfl⟩) hg
     ·rw[cell_of_row w2 g (0+j) (cs++sp).toArray t (0,0) (hw g (by rw[hA];rfl) w2 rfl)];simp only[List.getElem?_toArray,Nat.zero_add];rw[List.getElem?_append_left hjl];exact hj
    have hlc:xs.length≤(ρ i).c∧(ρ i).c≤maxLen:=by
     rcases ho.2 with⟨_,h0,h1,_⟩|⟨g,_,_,h1,h2⟩
     ·rw[h0,h1];exact⟨Nat.le_refl _,Nat.zero_le _⟩
     ·exact⟨h1,h2⟩
    have hd':=aR.mv (st.mv (X:=X)) hd;have M':=M.upd hl hf (ρ i) hb0 hr0 (fun _=>rfl) (x:= .frz v s xs) (by
     rw[aU];exact⟨hm,cs,hd',hrd,hlc.1,hlc.2⟩)
    rw[aU]at M';refine⟨_,_,hK,M',st,fun vs hs=>?_⟩;obtain⟨⟨hi,A,l,c,e1,hn⟩,hlen⟩:=hs.one1;obtain⟨rfl,rfl,rfl⟩:=(hn _ _ _ (by rw[hl];rfl)).2 rfl;subst e1;exact⟨_,[],(List.append_nil _).symm,rfl,aC.sl s xs _ _ cs hd' hrd hlc.1 hlc.2,rfl⟩
  ·rename_i v' s xs hl;cases hb:Nat.beq v v' with
   |false=>rw[hb]at h;exact h.elim
   |true=>
    rw[hb]at h;have hvv:=Nat.eq_of_beq_eq_true hb;subst hvv;obtain⟨hm,cs,hd,hrd,h1,h2⟩:=M.ent _ (af hl);refine⟨_,_,h,M,M.stp0,fun vs hs=>?_⟩;obtain⟨⟨hi,A,l,c,e1,hn⟩,hlen⟩:=hs.one1;obtain⟨rfl,rfl,rfl⟩:=(hn _ _ _ (by rw[hl];rfl)).2 rfl;subst e1;exact⟨_,[],(List.append_nil _).symm,rfl,aC.sl s xs _ _ cs hd hrd h1 h2,rfl⟩
  ·rename_i v' d xs hl;cases hb:Nat.beq v v' with
   |false=>rw[hb]at h;exact h.elim
   |true=>
    rw[hb]at h;simp only[cond_true]at h;have hvv:=Nat.eq_of_beq_eq_true hb;subst hvv;have hK:=bU h;obtain⟨C,hd,hw,_⟩:=M.ent _ (af hl);have hb0: ∀g,Lv (bR ρ i (ρ i)) (i,(.frz v d.e xs:aH U)) g→Lv ρ (i,(.ext v d xs none:aH U)) g∨w.heap.size≤g:=fun g hg=>by cases hg
    have hr0: ∀v' l' m',bg (some (.frz v d.e xs:aH U))=some (v',l',m')→ ∃v0 l m,bg (some (.ext v d xs none:aH U))=some (v0,l,m)∧v0≤v'∧(v0=v'→ρ i=ρ i∧l'=l∧m'=m):=fun v' l' m' hr=>⟨v',l',m',hr,Nat.le_refl _,fun _=>⟨rfl,rfl,rfl⟩⟩;have hf:Fr (gy ρ (i,(.ext v d xs none:aH U))) w w:=Fr.refl _ _;have st:=bQ.upd (n:=n) M.xd M.nd hl hf (ρ i) hb0 hr0 (fun _=>rfl);rw[aU]at st;obtain⟨cs,hd',hrd,hc1,hc2⟩:=d.frz (d.mv (st.mv (X:=X)).fr hd) fun g hg=>⟨fun hgY=>by
     rcases List.mem_append.1 hgY with hgY|hgY
     ·obtain⟨p,hp,hgp⟩:=aA.1 hgY;rcases bw M.nd ⟨_,hl⟩ p hp with rfl|⟨hp,hne⟩
      ·cases hgp
      ·exact hne (M.inj (i,.ext v d xs none) (af hl) p hp g hg hgp)
     ·exact M.dj g (aA.2 ⟨(i,.ext v d xs none),af hl,hg⟩) hgY,hw g hg⟩
    have M':=M.upd hl hf (ρ i) hb0 hr0 (fun _=>rfl) (x:= .frz v d.e xs) (by
     rw[aU];exact⟨d.sz,cs,hd',hrd,hc1,hc2⟩)
    rw[aU]at M';refine⟨_,_,hK,M',st,fun vs hs=>?_⟩;obtain⟨⟨hi,A,l,c,e1,hn⟩,hlen⟩:=hs.one1;obtain⟨rfl,rfl,rfl⟩:=(hn _ _ _ (by rw[hl];rfl)).2 rfl;subst e1;exact⟨_,[],(List.append_nil _).symm,rfl,aC.sl d.e xs _ _ cs hd' hrd hc1 hc2,rfl⟩
  ·exact h.elim
 ·exact⟨_,_,h,M,M.stp0,fun _ hs=>hs⟩
omit [ao]in
theorem bJ.cons{V:Cx U→List Value→Prop}{x:cd U}{r:List (cd U)}{vs:List Value}(h:bJ V (x::r) vs): ∃v1 v2,vs=v1++v2∧bJ V [x] v1∧bJ V r v2:=by
 obtain⟨k,c⟩:=x;obtain⟨v1,v2,e,hl,hx,hr⟩:=h;exact⟨v1,v2,e,⟨v1,[],(List.append_nil _).symm,hl,hx,rfl⟩,hr⟩
theorem fZ: ∀{l:List (cd U)} {H:Hs U} {K:Hs U→List (cd U)→Prop},lF l H K→aX U X (· =w) ρ n H→ ∃H' l',K H' l'∧aX U X (· =w) ρ n H'∧bQ ρ n H w ρ n H' w∧ ∀vs,bJ (Vw U X w ρ n H) l vs→bJ (Vw U X w ρ n H') l' vs
 | [],H,K,h,M=>⟨H,[],h,M,M.stp0,fun _ hs=>hs⟩
 |x::l,H,K,h,M=>by
  obtain⟨H1,y,h1,M1,s1,c1⟩:=DH (show tH H x (fun H y=>lF l H fun H r=>K H (y::r))from h) M;obtain⟨H2,l2,h2,M2,s2,c2⟩:=fZ (l:=l) h1 M1;refine⟨H2,_,h2,M2,s1.trans s2,fun vs hs=>?_⟩;obtain⟨v1,v2,rfl,ha,hb⟩:=hs.cons;have hy:bJ (Vw U X w ρ n H2) [y] v1:=(c1 _ ha).imp fun _ _ h=>h.step s2;have hr:=c2 _ (hb.imp fun _ _ h=>h.step s1);exact bJ.app (l:= [y]) hy hr
theorem pm{s:aZ}{x:Va U}{K:Hs U→TT U.ty s→Prop}(h:zj s H x K)(M:aX U X (· =w) ρ n H): ∃H' t,K H' t∧aX U X (· =w) ρ n H'∧bQ ρ n H w ρ n H' w∧ ∀u,cM (Vw U X w ρ n H) x u→aC U (aj ρ H'++X) (· =w) s t u.cells.toList:=by
 obtain⟨H',l',h1,M',s',c'⟩:=fZ (show lF x.l H _ from h) M;obtain⟨t,h2,ht⟩:=bu h1;exact⟨H',t,h2,M',s',fun u hu=>ht _ _ _ _ _ _ (c' _ hu.cells)⟩
def jA(P:Program)(nt:Nat)(U:bD)(X:List Nat)(w:World)(ρ:Nat→Rz)(n:Nat)(H:Hs U)(ce:aI)(o:Oper)(K:AV U→Nat→Hs U→Prop):Prop:=
 bH P nt ce w o fun ce' w'=> ∃av n' H' ρ' cv,K av n' H'∧ce'=ce.dst o.dst cv∧nv (Vw U X w' ρ' n' H') av cv∧aX U X (· =w') ρ' n' H'∧bQ ρ n H w ρ' n' H' w'
omit [ao]in
theorem ef{A:Prop}(h:lX o.dst A)(hd:(o.dst.all (Nat.blt · nt))=true): ∃d,o.dst=some d∧Nat.blt d nt=true∧A:=by
 unfold lX at h;cases ho:o.dst with
 |none=>rw[ho]at h;exact h.elim
 |some d=>rw[ho]at h hd;exact⟨d,rfl,by simpa using hd,h⟩
omit [ao]in
theorem vD{A:Prop}(h:KX o.dst A):o.dst=none∧A:=by
 unfold KX at h;cases ho:o.dst with
 |none=>rw[ho]at h;exact⟨rfl,h⟩
 |some d=>rw[ho]at h;exact h.elim
omit [ao]in
theorem aI.dstS{d:Nat}(hd:o.dst=some d)(v:Value):((d,v)::ce)=ce.dst o.dst v:=by rw[hd];rfl
omit [ao]in
theorem nH{α:Type}(n:Nat)(x:α)(l:List (Nat×α)):aD ((n,x)::l) n=some x:=by unfold aD;rw[Nat.beq_refl];rfl
omit [ao]in
theorem yg{g:Nat}:ab (some ⟨g,0,none⟩)=some g:=rfl
omit [ao]in
theorem pn{i:Nat}{r:Rz}{l:List (cd U)}{t g:Nat}(h:Lv (bR ρ i r) (i,(.cells l t:aH U)) g):ab r.A=some g:=by
 unfold Lv at h;simp only[ax]at h;exact h
omit [ao]in
theorem kh{i:Nat}{r:Rz}{v:Nat}{s:aZ}{xs:List (TT U.ty s)}{t g:Nat}(h:Lv (bR ρ i r) (i,(.row v s xs t:aH U)) g):ab r.A=some g:=by
 unfold Lv at h;simp only[ax]at h;exact h
theorem zW{t:Nat}{K:AV U→Nat→Hs U→Prop}{ti:TI U}(hti:aT U P t ti)(hK:K (.v ⟨false,[(1,.ptr n 0)]⟩) (n+1) ((n,.cells ti.zero t)::H)){d:Nat}(ho:o.op= .alloc t)(hd:o.dst=some d)(hn:Nat.blt d nt=true)(M:aX U X (· =w) ρ n H):jA P nt U X w ρ n H ce o K:=by
 obtain⟨zs,hz,hzl,hzs⟩:=hti.zero;refine o5 ho hd hn hz (Hp.nil w) fun g w' hp hf hg=>?_;have hblk:w'.heap[g]? =some (Cl zs t):=hp.at (i:=0) rfl;have hb: ∀g',Lv (bR ρ n (rz (some ⟨g,0,none⟩) 0)) (n,(.cells ti.zero t:aH U)) g'→w.heap.size≤g':=fun g' h=>by
  have:=pn h;rw[yg]at this;injection this with this;subst this;exact hg
 refine⟨_,_,_,bR ρ n (rz (some ⟨g,0,none⟩) 0),_,hK,aI.dstS hd _,?_,M.push hf _ _ hb ⟨g,zs,by rw[ax],hzs _ _ _ _ _ _,fun w2 h2=>by subst h2;exact hblk⟩,bQ.push M.xd M.lt hf _ _ hb⟩;exact gz ⟨Nat.lt_succ_self _,by rw[nH];rfl,g,by rw[ax],rfl⟩
theorem zX{t:Nat}{K:AV U→Nat→Hs U→Prop}{ti:TI U}{kd:KD U}(hti:aT U P t ti)(hm:ti.mp=some kd)(hpr:ao.pr=P)(hK:K (.v ⟨false,[(1,.mp n)]⟩) (n+1) ((n,.map kd [])::H)){d:Nat}(ho:o.op= .makeMap t none)(hd:o.dst=some d)(hn:Nat.blt d nt=true)(M:aX U X (· =w) ρ n H):jA P nt U X w ρ n H ce o K:=by
 obtain⟨hk,hu⟩:=hti.mp kd hm;refine EX ho hd hn (Hp.nil w) fun g w' hp hf hg=>?_;have hblk:w'.heap[g]? =some (.map #[] 0):=hp.at (i:=0) rfl;have hb: ∀g',Lv (bR ρ n (rz (some ⟨g,0,none⟩) 0)) (n,(.map kd []:aH U)) g'→w.heap.size≤g':=fun g' h=>by
  have h:ab (bR ρ n (rz (some ⟨g,0,none⟩) 0) n).A=some g':=h;rw[ax]at h;injection h with h;subst h;exact hg
 refine⟨_,_,_,bR ρ n (rz (some ⟨g,0,none⟩) 0),_,hK,aI.dstS hd _,?_,M.push hf _ _ hb ⟨(show Di ao.pr U kd by rw[hpr];exact hk),g, #[],0,[],by rw[ax],oa.empty,trivial,fun w2 h2=>by subst h2;exact hblk⟩,bQ.push M.xd M.lt hf _ _ hb⟩;exact gz ⟨Nat.lt_succ_self _,by rw[nH];rfl,g,by rw[ax],rfl⟩
theorem Iw{t:Nat}{x:Operand}{v:Va U}{u:Value}{K:AV U→Nat→Hs U→Prop}(hK:K (.v ⟨false,[(1,.ptr n 0)]⟩) (n+1) ((n,.cells v.l t)::H)){d:Nat}(ho:o.op= .box t x)(hd:o.dst=some d)(hn:Nat.blt d nt=true)(hx:ce.ev x=some u)(hv:cM (Vw U X w ρ n H) v u)(M:aX U X (· =w) ρ n H):jA P nt U X w ρ n H ce o K:=by
 have key: ∀g w',w'.heap[g]? =some (Cl u.cells.toList t)→Fr [] w w'→w.heap.size≤g→ ∃av n' H' ρ' cv,K av n' H'∧((d,(.pointer (some ⟨g,0,none⟩):Value))::ce)=ce.dst o.dst cv∧nv (Vw U X w' ρ' n' H') av cv∧aX U X (· =w') ρ' n' H'∧bQ ρ n H w ρ' n' H' w':=fun g w' hblk hf hg=>by
  have hb: ∀g',Lv (bR ρ n (rz (some ⟨g,0,none⟩) 0)) (n,(.cells v.l t:aH U)) g'→w.heap.size≤g':=fun g' h=>by
   have:=pn h;rw[yg]at this;injection this with this;subst this;exact hg
  have st:=bQ.push (ρ:=ρ) M.xd M.lt hf (rz (some ⟨g,0,none⟩) 0) (.cells v.l t:aH U) hb;refine⟨_,_,_,bR ρ n (rz (some ⟨g,0,none⟩) 0),_,hK,aI.dstS hd _,?_,M.push hf _ _ hb ⟨g,_,by rw[ax],hv.cells.imp fun _ _ h=>h.step st,fun w2 h2=>by subst h2;exact hblk⟩,st⟩;exact gz ⟨Nat.lt_succ_self _,by rw[nH];rfl,g,by rw[ax],rfl⟩
 by_cases ha: ∃us:List Value,u= .agg us.toArray
 ·obtain⟨us,rfl⟩:=ha;exact Mr ho hd hn hx (Hp.nil w) fun g w' hp hf hg=>key g w' (by simpa[Value.cells]using hp.at (i:=0) rfl) hf hg
 ·have hu:u.cells= #[u]:=by
   cases u with
   |agg cs=>exact absurd ⟨cs.toList,by simp⟩ ha
   |_=>rfl
  exact BA ho hd hn hx hu (Hp.nil w) fun g w' hp hf hg=>key g w' (by rw[hu];exact hp.at (i:=0) rfl) hf hg
end
end Go.Proofs.YtmpeiadlohbikaaGreatDoor.V
end

section
set_option linter.unusedVariables false
set_option linter.unusedSectionVars false
set_option linter.unusedSimpArgs false
namespace Go.Proofs.YtmpeiadlohbikaaGreatDoor.V
open Go.RowKit
section
variable [bB] [ao] {U:bD} {P:Program} {nt:Nat} {T:cW U} {X:List Nat} {w:World} {ρ:Nat→Rz} {n:Nat} {H:Hs U} {R e:En U} {ce:aI} {o:Oper}
def OL:aH U→Bool
 | .row _ _ _ _=>false
 | .ext _ _ _ _=>false
 |_=>true
def CP(H H':Hs U):Prop:= ∀j x,OL x=true→aD H j=some x→aD H' j=some x
omit [ao]in
theorem CP.refl(H:Hs U):CP H H:=fun _ _ _ h=>h
omit [ao]in
theorem CP.trans{H1 H2:Hs U}(a:CP H H1)(b:CP H1 H2):CP H H2:=fun j l t h=>b j l t (a j l t h)
omit [ao]in
theorem o8{i:Nat}{x:aH U}: ∀{H:Hs U} {K K':Hs U→Prop},fh H i x K→(∀H',H'=cO H i x→K H'→K' H')→fh H i x K'
 | [],_,_,h,_=>h.elim
 |y::r,K,K',h,hk=>by
  have h:(bif Nat.beq y.1 i then K ((i,x)::r)else fh r i x fun r'=>K (y::r')):=h;show(bif Nat.beq y.1 i then K' ((i,x)::r)else fh r i x fun r'=>K' (y::r'))
  cases hb:Nat.beq y.1 i with
  |true=>rw[hb]at h;exact hk _ (by unfold cO;rw[hb];rfl) h
  |false=>rw[hb]at h;exact o8 (H:=r) h fun H' e hK=>hk _ (by unfold cO;rw[hb,e];rfl) hK
omit [ao]in
theorem zi{x:cd U}{K K':Hs U→cd U→Prop}(h:tH H x K)(hk: ∀H' y,CP H H'→K H' y→K' H' y):tH H x K':=by
 unfold tH at h⊢;split at h
 ·rename_i i v;show(match aD H i with
   |some (.row v' e xs _)=>(bif Nat.beq v v' then fh H i (.frz v e xs) fun H=>K' H (1,.d (.sl e) xs)else False)
   |some (.frz v' e xs)=>(bif Nat.beq v v' then K' H (1,.d (.sl e) xs)else False)
   |some (.ext v' d xs none)=>(bif Nat.beq v v' then fh H i (.frz v d.e xs) fun H=>K' H (1,.d (.sl d.e) xs)else False)
   |_=>False)
  split at h
  ·rename_i v' s xs t hl;rw[hl];simp only;cases hb:Nat.beq v v' with
   |false=>rw[hb]at h;exact h.elim
   |true=>
    rw[hb]at h;exact o8 h fun H' e hK=>hk _ _ (fun j y hy hj=>by
     subst e;rw[bV ⟨_,hl⟩];split
     ·rename_i e;subst e;rw[hl]at hj;injection hj with hj;subst hj;cases hy
     ·exact hj) hK
  ·rename_i v' s xs hl;rw[hl];simp only;cases hb:Nat.beq v v' with
   |false=>rw[hb]at h;exact h.elim
   |true=>rw[hb]at h;exact hk _ _ (CP.refl _) h
  ·rename_i v' d xs hl;rw[hl];simp only;cases hb:Nat.beq v v' with
   |false=>rw[hb]at h;exact h.elim
   |true=>
    rw[hb]at h;exact o8 h fun H' e hK=>hk _ _ (fun j y hy hj=>by
     subst e;rw[bV ⟨_,hl⟩];split
     ·rename_i e;subst e;rw[hl]at hj;injection hj with hj;subst hj;cases hy
     ·exact hj) hK
  ·exact h.elim
 ·exact hk _ _ (CP.refl _) h
omit [ao]in
theorem j9: ∀{l:List (cd U)} {H:Hs U} {K K':Hs U→List (cd U)→Prop},lF l H K→(∀H' r,CP H H'→K H' r→K' H' r)→lF l H K'
 | [],H,K,K',h,hk=>hk _ _ (CP.refl _) h
 |x::l,H,K,K',h,hk=>by
  have h:tH H x fun H y=>lF l H fun H r=>K H (y::r):=h;exact zi h fun H1 y c1 h1=>j9 (l:=l) h1 fun H2 r c2 h2=>hk _ _ (c1.trans c2) h2
theorem rQ{x:Va U}{v:Value}(h:cM (Vw U X w ρ n H) x v):d4 x.ag v v.cells.toList:=by
 unfold cM at h;unfold d4;cases hag:x.ag with
 |true=>simp only[hag]at h⊢;obtain⟨vs,rfl,_⟩:=h;simp[Value.cells]
 |false=>
  simp only[hag]at h⊢;have:=h.one v (by simp);cases v<;>first|rfl|(simp[Value.oneCell']at this)
theorem CR{s:aZ}{x:Va U}{K:Hs U→TT U.ty s→Prop}(h:zj s H x K)(M:aX U X (· =w) ρ n H): ∃H' t,K H' t∧CP H H'∧aX U X (· =w) ρ n H'∧bQ ρ n H w ρ n H' w∧ ∀u,cM (Vw U X w ρ n H) x u→aC U (aj ρ H'++X) (· =w) s t u.cells.toList:=by
 have h:lF x.l H fun H l=>cG 20 s l fun t=>K H t:=h;obtain⟨H',l',⟨h1,cp⟩,M',s',c'⟩:=fZ (j9 h fun H' r cp h=>(⟨h,cp⟩:_∧CP H H')) M;obtain⟨t,h2,ht⟩:=bu h1;exact⟨H',t,h2,cp,M',s',fun u hu=>ht _ _ _ _ _ _ (c' _ hu.cells)⟩
omit [ao]in
theorem bA{a b:Bool}(h:(a==b)=true):a=b:=by simpa using h
theorem vj{d:KD U}{kv:Va U}{k:TT U.ty d.k}{u:Value}(hk:Di P U d)(hb:(kv.ag==eK d.k)=true)(hd: ∀vs,bJ (Vw U X w ρ n H) kv.l vs→aC U (aj ρ H++X) (· =w) d.k k vs)(hv:cM (Vw U X w ρ n H) kv u):u=d.enc k∧ ∃vs,d4 (eK d.k) (d.enc k) vs∧aC U (aj ρ H++X) (· =w) d.k k vs:=by
 obtain⟨vs,h1,h2⟩:=R2 hv hb;have e:=hk.2.1 _ _ _ _ _ (hd _ h2) h1;exact⟨e,vs,e▸h1,hd _ h2⟩
theorem ww{i g:Nat}{u:Value}(h:Vw U X w ρ n H (.mp i) [u])(hA:(ρ i).A=some ⟨g,0,none⟩):u= .map (some g):=by
 obtain⟨_,_,g',hA',e⟩:=h;rw[hA]at hA';injection hA' with hA';injection hA' with hA';subst hA';simpa using e
abbrev KM(P:Program)(nt:Nat)(U:bD) [ao](X:List Nat)(w:World)(ρ:Nat→Rz)(n:Nat)(H:Hs U)(ce:aI)(o:Oper)(K:Hs U→Prop):Prop:=jA P nt U X w ρ n H ce o fun _ n' H'=>n'=n∧K H'
theorem Hw(hpr:ao.pr=P){t:Nat}{m kx x:Operand}{c:Cx U}{kv xv:Va U}{u0 u1 u2:Value}{K:Hs U→Prop}(h:HW T t H c kv xv K)(ho:o.op= .mapUpdate t m kx x)(hd:o.dst=none)(hm:ce.ev m=some u0)(hkx:ce.ev kx=some u1)(hx:ce.ev x=some u2)
  (h0:Vw U X w ρ n H c [u0]) (h1:cM (Vw U X w ρ n H) kv u1) (h2:cM (Vw U X w ρ n H) xv u2) (hT:bf U P T) (M:aX U X (· =w) ρ n H):KM P nt U X w ρ n H ce o K:=by
 unfold HW at h;split at h
 ·rename_i i;split at h
  ·rename_i d l hl;cases hb:(x6 T t d&&((kv.ag==eK d.k)&&(xv.ag==eK d.v)))with
   |false=>rw[hb]at h;exact h.elim
   |true=>
    rw[hb]at h;simp only[cond_true]at h;simp only[Bool.and_eq_true]at hb;have ht:=pi hb.1 hT;obtain⟨k,h,hkk⟩:=bu h;obtain⟨H',y,hK,cp,M',s',c'⟩:=CR h M;have hK:=bU hK;have hl':=cp _ _ rfl hl;obtain⟨hkd,g,es,clock,mv,hA,hM,hD,hw⟩:=M'.ent _ (af hl');have hkd':=hkd;unfold wJ at hkd';rw[hpr]at hkd';obtain⟨rfl,vs,hk1,hk2⟩:=vj hkd' hb.2.1 (fun vs hs=>hkk _ _ _ _ _ _ hs) h1;have e0:=ww h0 hA;subst e0;have hb': ∃vs,d4 (eK d.v) u2 vs∧aC U (aj ρ H'++X) (· =w) d.v y vs:=⟨_,(bA hb.2.2)▸rQ h2,c' u2 h2⟩;have hset:=aK.set (x:=k) ⟨vs,hk1,aC.mv (s'.mv (X:=X)) hk2⟩ hb' hD;refine @Br _ P nt ce o w [(some g,.map es clock)] _ _ _ d.dec d.enc (fun v:Value=>v) t d.kt d.vt g 0 clock m kx x es mv k u2 ho hd hm hkx hx ht hkd'.1 (Hp.one1 (hw w rfl)) rfl hM fun es' clock' w' hM' hp hf=>?_;have hf':Fr (gy ρ (i,(.map d l:aH U))) w w':=by
     have:ab (ρ i).A=some g:=by rw[hA];rfl
     show Fr (ab (ρ i).A).toList w w'
     rw[this];exact hf
    have hb0: ∀g',Lv (bR ρ i (ρ i)) (i,(.map d (@cJ _ _ d.dec l k y):aH U)) g'→Lv ρ (i,(.map d l:aH U)) g'∨w.heap.size≤g':=fun g' h=> .inl (by rw[aU]at h;exact h);have hr0: ∀v' l' m',bg (some (.map d (@cJ _ _ d.dec l k y):aH U))=some (v',l',m')→ ∃v0 l0 m,bg (some (.map d l:aH U))=some (v0,l0,m)∧v0≤v'∧(v0=v'→ρ i=ρ i∧l'=l0∧m'=m):=fun v' l' m' hr=>by cases hr
    have st:=bQ.upd (n:=n) M'.xd M'.nd hl' hf' (ρ i) hb0 hr0 (fun _=>rfl);have M2:=M'.upd hl' hf' (ρ i) hb0 hr0 (fun _=>rfl) ⟨hkd,g,es',clock',_,by rw[aU];exact hA,hM',aK.mv (st.mv (X:=X)) hset,fun w2 h2=>by subst h2;exact hp.at (i:=0) rfl⟩;rw[aU]at st M2;exact⟨.un,n,_,ρ,undef,⟨rfl,hK⟩,by rw[hd];rfl,trivial,M2,s'.trans st⟩
  ·exact h.elim
 ·exact h.elim
theorem vk{i g:Nat}{x y:aH U}{w':World}(M:aX U X (· =w) ρ n H)(hi:aD H i=some y)(hA:(ρ i).A=some ⟨g,0,none⟩)(hy: ∀g,Lv ρ (i,y) g↔ab (ρ i).A=some g)(hx: ∀g,Lv ρ (i,x) g→ab (ρ i).A=some g)(hr:bg (some x)=none)(hf:Fr [g] w w')
  (he:bQ ρ n H w ρ n (cO H i x) w'→lQ U (aj ρ (cO H i x)++X) (· =w') ρ n (cO H i x) i x):aX U X (· =w') ρ n (cO H i x)∧bQ ρ n H w ρ n (cO H i x) w':=by
 have hf':Fr (gy ρ (i,y)) w w':=hf.mono fun z hz=>jd.2 ((hy z).2 (by rw[List.mem_singleton.1 hz,hA];rfl));have hb0: ∀g',Lv (bR ρ i (ρ i)) (i,x) g'→Lv ρ (i,y) g'∨w.heap.size≤g':=fun g' h=>by
  rw[aU]at h;exact .inl ((hy g').2 (hx g' h))
 have hr0: ∀v' l' m',bg (some x)=some (v',l',m')→ ∃v0 l0 m,bg (some y)=some (v0,l0,m)∧v0≤v'∧(v0=v'→ρ i=ρ i∧l'=l0∧m'=m):=fun v' l' m' h=>by rw[hr]at h;cases h
 have st:=bQ.upd (n:=n) M.xd M.nd hi hf' (ρ i) hb0 hr0 (fun _=>rfl);rw[aU]at st;have M2:=M.upd hi hf' (ρ i) hb0 hr0 (fun _=>rfl) (by rw[aU];exact he st);rw[aU]at M2;exact⟨M2,st⟩
theorem Hy(hpr:ao.pr=P){t t':Nat}{m kx:Operand}{c:Cx U}{kv:Va U}{u0 u1:Value}{K:Hs U→Prop}(h:HX T t H c kv K)(ho:o.op= .call {callee:= .builtin .delete,args:= #[m,kx],argTypes:= #[t,t']})(hd:o.dst=none)(hm:ce.ev m=some u0)(hkx:ce.ev kx=some u1)
  (h0:Vw U X w ρ n H c [u0]) (h1:cM (Vw U X w ρ n H) kv u1) (hT:bf U P T) (M:aX U X (· =w) ρ n H):KM P nt U X w ρ n H ce o K:=by
 unfold HX at h;split at h
 ·rename_i i;split at h
  ·rename_i d l hl;cases hb:(x6 T t d&&(kv.ag==eK d.k))with
   |false=>rw[hb]at h;exact h.elim
   |true=>
    rw[hb]at h;simp only[cond_true]at h;simp only[Bool.and_eq_true]at hb;have ht:=pi hb.1 hT;obtain⟨k,h,hkk⟩:=bu h;have hK:=bU h;obtain⟨hkd,g,es,clock,mv,hA,hM,hD,hw⟩:=M.ent _ (af hl);have hkd':=hkd;unfold wJ at hkd';rw[hpr]at hkd';obtain⟨rfl,vs,hk1,hk2⟩:=vj hkd' hb.2 (fun vs hs=>hkk _ _ _ _ _ _ hs) h1;have e0:=ww h0 hA;subst e0;refine @rB _ P nt ce o w _ _ _ d.enc (fun v:Value=>v) es mv d.dec t t' d.kt d.vt g clock m kx k ho hd hm hkx ht hkd'.1 (hw w rfl) hM fun es' w' hM' _ hp hf=>?_;obtain⟨M2,st⟩:=vk (x:= .map d (@gP _ _ d.dec l k)) M hl hA (fun _=>Iff.rfl) (fun _ h=>h) rfl hf fun st=>⟨hkd,g,es',clock,_,hA,hM',aK.mv (st.mv (X:=X)) hD.del,fun w2 h2=>by subst h2;exact hp⟩;exact⟨.un,n,_,ρ,undef,⟨rfl,hK⟩,by rw[hd];rfl,trivial,M2,st⟩
  ·rename_i d l left cur gh hl;cases hb:(x6 T t d&&(kv.ag==eK d.k))with
   |false=>rw[hb]at h;exact h.elim
   |true=>
    rw[hb]at h;simp only[cond_true]at h;simp only[Bool.and_eq_true]at hb;have ht:=pi hb.1 hT;obtain⟨k,h,hkk⟩:=bu h;have hK:=bU h;obtain⟨hkd,g,es,clock,mv,lv,cv,hA,hM,hD,hL,hC,hw⟩:=M.ent _ (af hl);have hkd':=hkd;unfold wJ at hkd';rw[hpr]at hkd';obtain⟨rfl,vs,hk1,hk2⟩:=vj hkd' hb.2 (fun vs hs=>hkk _ _ _ _ _ _ hs) h1;have e0:=ww h0 hA;subst e0;refine @rB _ P nt ce o w _ _ _ d.enc (fun v:Value=>v) es mv d.dec t t' d.kt d.vt g clock m kx k ho hd hm hkx ht hkd'.1 (hw w rfl) hM.ok fun es' w' _ hR hp hf=>?_;obtain⟨M2,st⟩:=vk (x:= .mapr d (@gP _ _ d.dec l k) (@gP _ _ d.dec left k) [] gh) M hl hA (fun _=>Iff.rfl) (fun _ h=>h) rfl hf fun st=>⟨hkd,g,es',clock,_,_,[],hA,hR _ _ _ hM,aK.mv (st.mv (X:=X)) hD.del,aK.mv (st.mv (X:=X)) hL.del,trivial,fun w2 h2=>by subst h2;exact hp⟩;exact⟨.un,n,_,ρ,undef,⟨rfl,hK⟩,by rw[hd];rfl,trivial,M2,st⟩
  ·exact h.elim
 ·exact h.elim
theorem Hz{t:Nat}{x:Operand}{c:Cx U}{u0:Value}{K:Hs U→Prop}(h:HY T t H n c K)(ho:o.op= .range t x){dd:Nat}(hd:o.dst=some dd)(hn:Nat.blt dd nt=true)(hx:ce.ev x=some u0)(h0:Vw U X w ρ n H c [u0])(hT:bf U P T)(M:aX U X (· =w) ρ n H):
  jA P nt U X w ρ n H ce o fun av n' H'=>av= .v ⟨false,[(1,.ptr n 0)]⟩∧n'=n+1∧K H':=by
 unfold HY at h;split at h
 ·rename_i i;split at h
  ·rename_i d l hl;cases hb:x6 T t d with
   |false=>rw[hb]at h;exact h.elim
   |true=>
    rw[hb]at h;simp only[cond_true]at h;have ht:=pi hb hT;obtain⟨hkd,g,es,clock,mv,hA,hM,hD,hw⟩:=M.ent _ (af hl);have e0:=ww h0 hA;subst e0;refine Be ho hd hn hx ht (hw w rfl) hM fun r w' gh hR hr hf hsz=>?_;have hK:=bU (h gh);have hin:=M.lt _ (af hl);have hni: ¬n=i:=by have:i<n:=hin;omega
    have hb0: ∀g',Lv (bR ρ n (rz (some ⟨r,0,none⟩) 0)) (n,(.it i gh:aH U)) g'→w.heap.size≤g':=fun g' h=>by
     have h:ab (bR ρ n (rz (some ⟨r,0,none⟩) 0) n).A=some g':=h;rw[ax]at h;injection h with h;subst h;exact hsz
    have st:=bQ.push (ρ:=ρ) M.xd M.lt hf (rz (some ⟨r,0,none⟩) 0) (.it i gh:aH U) hb0;have hl':aD ((n,(.it i gh:aH U))::H) i=some (.map d l):=by unfold aD;rw[cu hni];exact hl
    have M1:=M.push hf _ _ hb0 ⟨r,g,by rw[ax],by rw[ck hni];exact hA,Nat.lt_succ_of_lt hin,by rw[hl'];rfl,fun w2 h2=>by subst h2;exact hr⟩;have hA':(bR ρ n (rz (some ⟨r,0,none⟩) 0) i).A=some ⟨g,0,none⟩:=by rw[ck hni];exact hA
    have hbk:w'.heap[g]? =some (.map es clock):=by rw[hf.block g (cg (hw w rfl)) (by simp)];exact hw w rfl
    obtain⟨M2,st2⟩:=vk (x:= .mapr d l l [] gh) M1 hl' hA' (fun _=>Iff.rfl) (fun _ h=>h) rfl ((Fr.refl [] w').mono (by simp)) fun st2=>⟨hkd,g,es,clock,mv,mv,[],hA',hR,aK.mv ((st.trans st2).mv (X:=X)) hD,aK.mv ((st.trans st2).mv (X:=X)) hD,trivial,fun w2 h2=>by subst h2;exact hbk⟩;have eH:cO ((n,(.it i gh:aH U))::H) i (.mapr d l l [] gh)=(n,.it i gh)::cO H i (.mapr d l l [] gh):=by
     show(bif Nat.beq n i then _ else _)=_
     rw[cu hni];rfl
    rw[eH]at M2 st2;refine⟨_,n+1,_,_,_,⟨rfl,rfl,hK⟩,aI.dstS hd _,gz ⟨Nat.lt_succ_self _,by rw[nH];rfl,r,by rw[ax],rfl⟩,M2,st.trans st2⟩
  ·exact h.elim
 ·exact h.elim
theorem HA{x:Operand}{c:Cx U}{u0:Value}{K:AV U→Hs U→Prop}(h:HZ H c K)(ho:o.op= .next x false){dd:Nat}(hd:o.dst=some dd)(hn:Nat.blt dd nt=true)(hx:ce.ev x=some u0)(h0:Vw U X w ρ n H c [u0])(M:aX U X (· =w) ρ n H):
  jA P nt U X w ρ n H ce o fun av n' H'=>n'=n∧K av H':=by
 unfold HZ at h;split at h
 ·rename_i j;split at h
  ·rename_i i gh hj;split at h
   ·rename_i d l left cur gh' hi;obtain⟨rfl,h2,h3⟩:=h;obtain⟨r,g,hA,hA2,hk,hrk,hwr⟩:=M.ent _ (af hj);obtain⟨hkd,g',es,clock,mv,lv,cv,hA3,hM,hD,hL,hC,hw⟩:=M.ent _ (af hi);rw[hA2]at hA3;injection hA3 with hA3;injection hA3 with hA3;subst hA3;have e0:u0= .pointer (some ⟨r,0,none⟩):=by
     obtain⟨_,_,g',hA',e⟩:=h0;rw[hA]at hA';injection hA' with hA';injection hA' with hA';subst hA';simpa using e
    subst e0;have hij: ¬j=i:=by rintro rfl;rw[hj]at hi;cases hi
    have hrg:r≠g:=by
     rintro rfl;exact hij (M.inj (j,.it i gh) (af hj) (i,.mapr d l left cur gh) (af hi) r (show ab (ρ j).A=some r by rw[hA];rfl) (show ab (ρ i).A=some r by rw[hA2];rfl))
    have hup: ∀y:aH U,aD (cO H j y) i=some (.mapr d l left cur gh):=fun y=>by rw[bV ⟨_,hj⟩,if_neg hij];exact hi
    refine EO ho hd hn hx (hwr w rfl) (hw w rfl) hM (fun e=>?_) (fun a p b gh2 w' e hR hr2 hf=>?_)
    ·subst e;have el:left= []:=List.eq_nil_of_length_eq_zero (by rw[hL.len];rfl);have hK:=bU (bU (h2 el));obtain⟨M1,lG⟩:=vk (x:= .dead) M hj hA (fun _=>Iff.rfl) (fun _ h=>h.elim) rfl ((Fr.refl [] w).mono (by simp)) fun _=>trivial;obtain⟨M2,st2⟩:=vk (x:= .map d l) M1 (hup _) hA2 (fun _=>Iff.rfl) (fun _ h=>h) rfl ((Fr.refl [] w).mono (by simp)) fun st2=>⟨hkd,g,es,clock,mv,hA2,hM.ok,aK.mv ((lG.trans st2).mv (X:=X)) hD,fun w2 h2=>by subst h2;exact hw _ rfl⟩;exact⟨_,n,_,ρ,_,⟨rfl,hK⟩,aI.dstS hd _,⟨[_],rfl,_,[],rfl,mt,rfl⟩,M2,lG.trans st2⟩
    ·subst e;obtain⟨a',p',b',e,e2,e5,e3,e4⟩:=hL.part;have hK:=bU (bU (h3 a' p' b' e gh2));have hbk:w'.heap[g]? =some (.map es clock):=by rw[hf.block g (cg (hw w rfl)) (by simpa using Ne.symm hrg)];exact hw w rfl
     obtain⟨M1,lG⟩:=vk (x:= .it i gh2) M hj hA (fun _=>Iff.rfl) (fun _ h=>h) rfl hf fun st=>⟨r,g,hA,hA2,hk,by rw[hup];rfl,fun w2 h2=>by subst h2;exact hr2⟩;obtain⟨ks,k1,k2⟩:=e5;obtain⟨vs,v1,v2⟩:=e3;obtain⟨M2,st2⟩:=vk (x:= .mapr d l (a'++b') [p'] gh2) M1 (hup _) hA2 (fun _=>Iff.rfl) (fun _ h=>h) rfl ((Fr.refl [] w').mono (by simp)) fun st2=>⟨hkd,g,es,clock,mv,_,[p],hA2,hR,aK.mv ((lG.trans st2).mv (X:=X)) hD,aK.mv ((lG.trans st2).mv (X:=X)) e4,⟨e2,⟨ks,k1,aC.mv ((lG.trans st2).mv (X:=X)) k2⟩,⟨vs,v1,aC.mv ((lG.trans st2).mv (X:=X)) v2⟩,trivial⟩,fun w2 h2=>by subst h2;exact hbk⟩;have mm:=(lG.trans st2).mv (X:=X);refine⟨_,n,_,ρ,_,⟨rfl,hK⟩,aI.dstS hd _,⟨[_,_,_],rfl,_,_,rfl,mt,_,_,rfl,kZ (e2▸k1) (aC.mv mm k2),_,_,rfl,kZ v1 (aC.mv mm v2),rfl⟩,M2,lG.trans st2⟩
   ·exact h.elim
  ·exact h.elim
 ·exact h.elim
end
end Go.Proofs.YtmpeiadlohbikaaGreatDoor.V
end

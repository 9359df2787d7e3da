/- Maps are changed, and gone over. -/
import Derived.Test.YtmpeiadlohbikaaGreatDoorAx6
section
set_option linter.unusedVariables false
set_option linter.unusedSectionVars false
set_option linter.unusedSimpArgs false
namespace Go.Proofs.YtmpeiadlohbikaaGreatDoor.V
open Go.RowKit
section
variable [bt] [am] {U:bG} {P:Program} {nt:Nat} {T:cM U} {X:List Nat} {S:World→Prop} {ρ:Nat→Rz} {n:Nat} {H:Hs U} {R e:En U} {ce:aG} {p:cK} {o:Oper} {Y:List Nat} {g:Prop→Prop}
omit [am]in
theorem GZ{k:IntKind}{a b:Int}(h:dq k a)(h':dq k b):dq k (max a b):=by rw[Int.max_def];split<;>assumption
omit [am]in
theorem G0{k:IntKind}{a b:Int}(h:dq k a)(h':dq k b):dq k (min a b):=by rw[Int.min_def];split<;>assumption
omit [am]in
theorem E0{x y:Operand}{t u:Nat}{k:IntKind}{p q:Int}(ho:o.op= .call {callee:= .builtin .min,args:= #[x,y],argTypes:= #[t,u]})(hx:ce.ev x=some (.int k p))(hy:ce.ev y=some (.int k q)):bY P nt ce S o (.int k (min p q)):=fun a r w _=>by
 refine dh ho (r.eval hx) (r.eval hy) fun c=>?_;have e:(if q<p then q else p)=min p q:=by simp only[Int.min_def];split<;>split<;>omega
 simp[builtin,Builtin.min_,Builtin.min2,←e]
omit [am]in
theorem bK.nth{V:Cx U→List Value→Prop}: ∀{l:List (Va U)} {us:List Value} {i:Nat} {x:Va U},bK V l us→dn l i=some x→ ∃u,us[i]? =some u∧cC V x u
 | [],us,i,x,h,hi=>by cases i<;>cases hi
 |y::r,us,0,x,h,hi=>by
  obtain⟨v,us',rfl,h1,_⟩:=h;injection hi with hi;subst hi;exact⟨v,rfl,h1⟩
 |y::r,us,i+1,x,h,hi=>by
  obtain⟨v,us',rfl,_,h2⟩:=h;obtain⟨u,hu,hv⟩:=bK.nth h2 (i:=i) hi;exact⟨u,hu,hv⟩
omit [am]in
theorem Cw{t:Nat}{x:Operand}{A:Addr}{u:Value}(ho:o.op= .load t x)(hx:ce.ev x=some (.pointer (some A)))(h: ∀w,S w→(loadVar t A).run P w= .ok u w):bY P nt ce S o u:=fun a r w hS=>by
 unfold execOp;simp[ho,r.eval hx,Instr.loadAt,Instr.sureAddr,h w hS]
omit [am]in
theorem oJ{α:Type}{a:Array α}{l:List α}(h:a.toList=l):a=l.toArray:=by rw[←h]
omit [am]in
theorem lZ{c:Call}{b:Builtin}{xs:List Operand}{ts:List TypeId}(h1:c.callee= .builtin b)(h2:c.args.toList=xs)(h3:c.argTypes.toList=ts):c={callee:= .builtin b,args:=xs.toArray,argTypes:=ts.toArray}:=by
 obtain⟨a,b',c'⟩:=c;simp only at h1 h2 h3;rw[h1,oJ h2,oJ h3]
theorem yR: ∀{l:List (Va U)} {K:List Nat→Prop},MX l K→ ∃js,K js∧ ∀vs,bK (bd U Y S ρ n H) l vs→vs=js.map (fun j=>Value.pointer (ρ j).A)∧ ∀j∈js,j<n∧bk (aD H j)=none∧ ∃g,(ρ j).A=some ⟨g,0,none⟩
 | [],K,h=>⟨[],h,fun vs hv=>⟨hv,fun j hj=>by cases hj⟩⟩
 |x::l,K,h=>by
  have h:(match (generalizing:=false) x with
   |⟨false,(_,.ptr j 0):: []⟩=>MX l fun r=>K (j::r)
   |_=>False):=h
  split at h
  ·rename_i k j _;obtain⟨js,h,hj⟩:=yR (l:=l) h;refine⟨_,h,fun vs hv=>?_⟩;obtain⟨v,us,rfl,h1,h2⟩:=hv;obtain⟨hi,hr,g,hA,e⟩:=(show bI _ [(k,.ptr j 0)] [v]from h1).one1.1;injection e with e;obtain⟨e2,h3⟩:=hj us h2;refine⟨by rw[e2,e,List.map_cons,hA],fun i hi2=>?_⟩;rcases List.mem_cons.1 hi2 with rfl|hi2
   ·exact⟨hi,hr,g,hA⟩
   ·exact h3 i hi2
  ·exact h.elim
omit [am]in
theorem Qc{V:Cx U→List Value→Prop}{x:Va U}{u:Value}{b:Bool}(h:cC V x u)(hb:(x.ag==b)=true): ∃vs,dv b u vs∧bI V x.l vs:=by
 have e:x.ag=b:=by simpa using hb
 subst e;unfold cC at h;unfold dv;cases hx:x.ag with
 |true=>rw[hx]at h;obtain⟨vs,e,hs⟩:=h;exact⟨vs,e,hs⟩
 |false=>rw[hx]at h;exact⟨[u],rfl,h⟩
theorem ko{s:aZ}{y:TT U.ty s}{u:Value}{vs:List Value}(h:dv (dR s) u vs)(hd:aC U Y S s y vs):cC (bd U Y S ρ n H) (sB s y) u:=by
 unfold cC sB;unfold dv at h;have hs:bI (bd U Y S ρ n H) [(aM U s,.d s y)] vs:=⟨vs,[],by simp,hd.length,hd,rfl⟩;cases hx:dR s with
 |true=>rw[hx]at h;exact⟨vs,h,hs⟩
 |false=>rw[hx]at h;simp only at h;subst h;exact hs
theorem yS(hpr:am.pr=P){t:Nat}{m kx:Operand}{ok:Bool}{K:AV U→Prop}(ho:o.op= .lookup t m kx ok)(h:g8 p R e m fun c=>kT p R e kx fun kv=>yk H c fun d l=>bif wX T t d&&(kv.ag==dR d.k)then cl 20 d.k kv.l fun k=>Jg ok d (@bh _ _ d.dec l k) K else False)(hT:bg U P T)(M:bc U X S ρ n H)(he:aI (bd U (af ρ H++X) S ρ n H) R e ce):
  match ok with
  |false=> ∃x,K (.v x)∧pS P nt ce S o (bj R e p) (bd U (af ρ H++X) S ρ n H) x
  |true=> ∃l,K (.tup l)∧(bj R e p→ ∃us:List Value,bY P nt ce S o (.tuple us.toArray)∧bK (bd U (af ρ H++X) S ρ n H) l us):=by
 obtain⟨c,h,hc⟩:=br h he;obtain⟨kv,h,hk⟩:=cV h he;obtain⟨d,l,h,hkd,g,es,clock,mv,hM,hD,hw,hcv⟩:=vW h M;cases hb:(wX T t d&&(kv.ag==dR d.k))with
 |false=>rw[hb]at h;exact h.elim
 |true=>
  rw[hb]at h;simp only[cond_true]at h;simp only[Bool.and_eq_true]at hb;have ht:=oI hb.1 hT;obtain⟨k,h,hkk⟩:=bq h
  letI:=d.dec
  unfold vO at hkd;rw[hpr]at hkd;obtain⟨L,henc,z,hz,hz0⟩:=hkd;have key:bj R e p→ce.ev m=some (.map (some g))∧ce.ev kx=some (d.enc k):=fun hp=>by
   obtain⟨u,e1,h1⟩:=hc hp;obtain⟨q,e2,h2⟩:=hk hp;obtain⟨vs,h3,h4⟩:=Qc h2 hb.2;have e3:=hcv u h1;have e4:=henc _ _ k vs q (hkk _ _ _ _ _ _ h4) h3;rw[e1,e2,e3,e4];exact⟨rfl,rfl⟩
  have val: ∃vs,dv (dR d.v) ((bh mv k).getD z) vs∧aC U (af ρ H++X) S d.v ((bh l k).getD d.zero) vs:=by
   rcases hD.get k with⟨h1,h2⟩|⟨y,u,h1,h2,h3⟩
   ·rw[h1,h2];exact hz0 _ _
   ·rw[h1,h2];exact h3
  have som:(bh mv k).isSome=(bh l k).isSome:=by
   rcases hD.get k with⟨h1,h2⟩|⟨y,u,h1,h2,h3⟩
   ·rw[h1,h2];rfl
   ·rw[h1,h2];rfl
  obtain⟨vs,hv1,hv2⟩:=val;have x4: ∀w,S w→Hp w [(some g,.map es clock)]:=fun w hS=>Hp.one1 (hw w hS);cases ok with
  |false=>
   refine⟨_,h,fun hp=>?_⟩;obtain⟨e1,e2⟩:=key hp;exact⟨_,xN (ev:=fun v:Value=>v) ho e1 e2 ht L hz x4 (i:=0) rfl hM,ko hv1 hv2⟩
  |true=>
   refine⟨_,h,fun hp=>?_⟩;obtain⟨e1,e2⟩:=key hp;refine⟨[_,_],tX (ev:=fun v:Value=>v) ho e1 e2 ht L hz x4 (i:=0) rfl hM,_,_,rfl,ko hv1 hv2,_,_,rfl,?_,rfl⟩;rw[som];exact lM
omit [am]in
theorem G1{x:Operand}{K:AV U→Prop}(h:MY p R e x K):kT p R e x (fun v=>K (.v v))∨ ∃t l,x= .tmp t∧aD R t=none∧aD e t=some (.tup l)∧K (.tup l):=by
 unfold MY at h;split at h
 ·rename_i t;unfold kT;simp only;split at h
  ·rename_i q y hR;first|(rw[hR];exact .inl h)|exact .inl h
  ·exact h.elim
  ·rename_i hR;split at h
   ·rename_i y hy;first|(rw[hR,hy];exact .inl h)|(rw[hy];exact .inl h)|exact .inl h
   ·rename_i l hy;exact .inr ⟨t,l,rfl,hR,hy,h⟩
   ·exact h.elim
 ·exact .inl h
def qk(o:Oper):Bool:=match o.op with
 | .move _=>true
 | .lookup _ _ _ true=>true
 | .entry _=>true
 |_=>false
theorem yT(hpr:am.pr=P)(hlo:qk o=false)(hg: ∀A,g A→bj R e p→A){K:AV U→Prop}(h:lg g T p o R e H K)(hT:bg U P T)(M:bc U X S ρ n H)(he:aI (bd U (af ρ H++X) S ρ n H) R e ce)(hS: ∃w,S w):
  ∃x,K (.v x)∧pS P nt ce S o (bj R e p) (bd U (af ρ H++X) S ρ n H) x:=by
 unfold lg at h;split at h
 ·rename_i x ho;unfold qk at hlo;rw[ho]at hlo;cases hlo
 ·rename_i x ho;obtain⟨v,hK,hv⟩:=cV h he;exact⟨v,hK,fun hp=>by obtain⟨u,e1,h1⟩:=hv hp;exact⟨u,pH ho e1,h1⟩⟩
 ·rename_i c a b ho;exact Cg h he ho
 ·rename_i t x ho;obtain⟨c,hK,hc⟩:=br h he;obtain⟨v,hK,hv⟩:=sL hK M hT;exact⟨v,hK,fun hp=>by
   obtain⟨u0,e1,h1⟩:=hc hp;obtain⟨A,u,rfl,h2,h3⟩:=hv u0 h1;exact⟨u,Cw ho e1 h3,h2⟩⟩
 ·rename_i x ho;obtain⟨c,hK,hc⟩:=br h he;cases hb:EV H c with
  |false=>rw[hb]at hK;exact hK.elim
  |true=>
   rw[hb]at hK;refine⟨_,hK,fun hp=>?_⟩;obtain⟨u0,e1,h1⟩:=hc hp;have: ∃A,u0= .pointer (some A):=by
    cases c with
    |ptr i f=>obtain⟨_,_,g,_,e2⟩:=h1;exact⟨_,by simpa using e2⟩
    |pd s a=>obtain⟨g,b,us,e2,_⟩:=h1;exact⟨_,by simpa using e2⟩
    |pax i f k s q f'=>obtain⟨_,_,_,_,g,_,e2⟩:=h1;exact⟨_,by simpa using e2⟩
    |pel i v q f=>exact vQ h1 hb
    |_=>exact Bool.noConfusion (show false=true from hb)
   obtain⟨A,rfl⟩:=this;exact⟨_,Kj ho e1,gu h1⟩
 ·rename_i op t x y u ho;obtain⟨v,hK,hv⟩:=cV h he;obtain⟨w,hK,hw⟩:=cV hK he;exact Cf hg hK ho hT M hS hv hw
 ·rename_i op t x ho;obtain⟨c,hK,hc⟩:=br h he;split at hK
  ·rename_i b;refine⟨_,hK,fun hp=>?_⟩;obtain⟨u0,e1,h1⟩:=hc hp;have:=aC.boolE h1;subst this;exact⟨_,Ax ho e1,lM⟩
  ·rename_i k q _;obtain⟨r,hK,hr⟩:=oF hg hK;refine⟨_,hK,fun hp=>?_⟩;obtain⟨u0,e1,h1⟩:=hc hp;obtain⟨rfl,h2⟩:=aC.intE h1;obtain⟨h3,h4⟩:=hr hp h2 h2;exact⟨_,J9 ho e1 ((congrArg _ (Int.zero_sub _)).trans h3),oG h4⟩
  ·exact hK.elim
 ·rename_i t x f ho;obtain⟨c,hK,hc⟩:=br h he;obtain⟨d,off,hK,hf,hd⟩:=B9 (X:=X) (S:=S) (ρ:=ρ) (n:=n) hK hT;exact⟨_,hK,fun hp=>by
   obtain⟨u0,e1,h1⟩:=hc hp;obtain⟨gb,k,rfl,h2⟩:=hd u0 h1;exact⟨_,Kl ho e1 hf,gu h2⟩⟩
 ·rename_i t x f ho;obtain⟨v,hK,hv⟩:=cV h he;cases hag:v.ag with
  |false=>simp only[hag]at hK
  |true=>
   simp only[hag]at hK;exact Cq hK ho hT fun hp=>by
    obtain⟨u,e1,h1⟩:=hv hp;exact⟨u,e1,by rw[←hag];exact h1⟩
 ·rename_i t x y ho;obtain⟨c,hK,hc⟩:=br h he;obtain⟨d,hK,hd⟩:=br hK he;split at hK
  ·have hy:=fun hp=>show ce.ev y=_ by obtain⟨u,e1,h1⟩:=hd hp;rw[e1,(aC.intE h1).1]
   split at hK
   ·rename_i hA;obtain⟨c',hK,hc'⟩:=Ct hg hK ho hA hT hc hy;exact⟨_,hK,hc'⟩
   ·obtain⟨c',hK,hc'⟩:=Ck hg hK ho hT M hS hc hy;exact⟨_,hK,hc'⟩
  ·exact hK.elim
 ·rename_i t x y ho;obtain⟨v,hK,hv⟩:=cV h he;obtain⟨d,hK,hd⟩:=br hK he;split at hK
  ·have hy:=fun hp=>show ce.ev y=_ by obtain⟨u,e1,h1⟩:=hd hp;rw[e1,(aC.intE h1).1]
   cases hag:v.ag with
   |true=>
    simp only[hag]at hK;exact Cu hg hK ho hT (fun hp=>by obtain⟨u,e1,h1⟩:=hv hp;exact⟨u,e1,hag▸h1⟩) hy
   |false=>
    simp only[hag]at hK;obtain⟨c,hK,hc⟩:=GX hK;exact Cj hg hK ho hT (fun hp=>by obtain⟨u,e1,h1⟩:=hv hp;exact⟨u,e1,hc _ h1⟩) hy
  ·exact hK.elim
 ·rename_i t x lo hi ho;obtain⟨c,hK,hc⟩:=br h he;obtain⟨c',hK,hc'⟩:=Cp hg hK ho hT he hS hc;exact⟨_,hK,hc'⟩
 ·rename_i t m kx ok ho;have hl:=yS (nt:=nt) hpr ho h hT M he;cases ok with
  |false=>exact hl
  |true=>unfold qk at hlo;rw[ho]at hlo;cases hlo
 ·rename_i x ho;unfold qk at hlo;rw[ho]at hlo;cases hlo
 ·rename_i x i ho;split at h
  ·rename_i t;split at h
   ·exact h.elim
   ·rename_i hn;split at h
    ·rename_i l hl;split at h
     ·rename_i v hv;refine⟨v,h,fun _=>?_⟩;obtain⟨us,e1,h1⟩:=he.t _ _ hn hl;obtain⟨u,hu,h2⟩:=h1.nth hv;exact⟨u,Fg ho e1 (by simpa using hu),h2⟩
     ·exact h.elim
    ·exact h.elim
  ·exact h.elim
 ·rename_i t ps ho;split at h
  ·rename_i ti hti;split at h
   ·rename_i hkd;have htk:=hT _ _ hti;obtain⟨pls,x4,hp2⟩:=htk.pl hkd;obtain⟨zs,hz,_,hzs⟩:=htk.zero;obtain⟨l,hK,hl⟩:=q8 hT hp2 he h;refine⟨_,hK,fun hp=>?_⟩;obtain⟨vs,cells,e1,e2,e3⟩:=hl hp zs (hzs _ _ _ _ _ _);exact⟨_,Dy (ps:=ps.toList) (by simpa using ho) e1 hz x4 e2,cells,rfl,e3⟩
   ·rename_i k el hkd;split at h
    ·rename_i ei hei;have hu:P.underlying t=some (.array k el):=by have:=(hT _ _ hti).kd;rw[hkd]at this;exact this
     have hm:=(hT _ _ hei).size;obtain⟨zs,hz,_,hzs⟩:=(hT _ _ hti).zero;obtain⟨l,hK,hl⟩:=q8 hT (pls:=(IW ei.sz el k 0).map fun q=>(q.1,ei.sz)) (fun f off ft hf=>yP (k:=0) hm hf) he h;refine⟨_,hK,fun hp=>?_⟩;obtain⟨vs,cells,e1,e2,e3⟩:=hl hp zs (hzs _ _ _ _ _ _);refine⟨_,Ah (ps:=ps.toList) (by simpa using ho) e1 hu hm hz (qj (fun i x hx=>?_) _ _ _ (fw _ _ _ _ e2)),cells,rfl,e3⟩;have hx:=yQ (show((IW ei.sz el k 0).map fun q=>(q.1,ei.sz))[i]? =some x by simpa using hx);rw[hx,Nat.zero_add]
    ·exact h.elim
   ·exact h.elim
  ·exact h.elim
 ·rename_i f first caps ho
  split at h
  ·rename_i hfi;obtain⟨xs,h,hxs⟩:=f5 h he;obtain⟨js,hK,hj⟩:=yR (Y:=af ρ H++X) (S:=S) (ρ:=ρ) (n:=n) (H:=H) h;refine⟨_,hK,fun hp=>?_⟩;obtain⟨vs,e1,hv⟩:=hxs hp;obtain⟨e2,h3⟩:=hj vs hv;exact⟨_,HM (fs:= []) (cs:=caps.toList) (vf:= []) (by rw[ho];congr 1;exact oJ hfi) rfl e1,gu ⟨by rw[e2],h3⟩⟩
  ·exact h.elim
 ·rename_i s d x ho;obtain⟨c,hK,hc⟩:=br h he;obtain⟨ks,hK,hks⟩:=jc hK hT;obtain⟨kd,hK,hkd⟩:=jc hK hT;split at hK
  ·rename_i k q k' _ _;have hr: ∃r,K (.v ⟨false,[(1,.d (.int k') r)]⟩)∧(bj R e p→dq k q→k'.wrap q=r∧dq k' r):=by
    rcases hK with⟨h1,h2⟩|h2
    ·exact⟨q,h2,fun hp hq=>by have:=hg _ h1 hp hq;exact⟨qZ this,this⟩⟩
    ·exact⟨_,yI h2,fun _ _=>⟨rfl,km _ _⟩⟩
   obtain⟨r,hK,hr⟩:=hr;refine⟨_,hK,fun hp=>?_⟩;obtain⟨u0,e1,h1⟩:=hc hp;obtain⟨rfl,h2⟩:=aC.intE h1;have hsrc: ∃ds,P.underlying s=some ds:=by cases ks<;>first|exact⟨_,hks⟩|(obtain⟨z,hz⟩:=hks;exact⟨_,hz⟩)
   obtain⟨ds,hds⟩:=hsrc;obtain⟨h3,h4⟩:=hr hp h2;exact⟨_,Kv ho e1 hds hkd h3,oG h4⟩
  ·exact hK.elim
 ·rename_i c ho;split at h
  ·rename_i x t h1 h2 h3;obtain⟨a,hK,ha⟩:=br h he;have hc:=lZ h1 h2 h3;obtain⟨r,hK,hr⟩:=Ci hK (by rw[ho,hc]) hT M hS ha;exact⟨_,hK,hr⟩
  ·rename_i x y t u h1 h2 h3;obtain⟨a,hK,ha⟩:=br h he;obtain⟨b,hK,hb⟩:=br hK he;have hc:=lZ h1 h2 h3;split at hK
   ·rename_i k a k' b _;cases hk:jJ k k' with
    |false=>rw[hk]at hK;exact hK.elim
    |true=>
     rw[hk]at hK;have:=lT hk;subst this;refine⟨_,hK,fun hp=>?_⟩;obtain⟨u0,e1,h4⟩:=ha hp;obtain⟨u1,e2,h5⟩:=hb hp;obtain⟨rfl,h6⟩:=aC.intE h4;obtain⟨rfl,h7⟩:=aC.intE h5;exact⟨_,J3 (by rw[ho,hc]) e1 e2,oG (GZ h6 h7)⟩
   ·exact hK.elim
  ·rename_i x y t u h1 h2 h3;obtain⟨a,hK,ha⟩:=br h he;obtain⟨b,hK,hb⟩:=br hK he;have hc:=lZ h1 h2 h3;split at hK
   ·rename_i k a k' b _;cases hk:jJ k k' with
    |false=>rw[hk]at hK;exact hK.elim
    |true=>
     rw[hk]at hK;have:=lT hk;subst this;refine⟨_,hK,fun hp=>?_⟩;obtain⟨u0,e1,h4⟩:=ha hp;obtain⟨u1,e2,h5⟩:=hb hp;obtain⟨rfl,h6⟩:=aC.intE h4;obtain⟨rfl,h7⟩:=aC.intE h5;exact⟨_,E0 (by rw[ho,hc]) e1 e2,oG (G0 h6 h7)⟩
   ·exact hK.elim
  ·exact h.elim
 ·exact h.elim
theorem sQ(hpr:am.pr=P)(hg: ∀A,g A→bj R e p→A){K:AV U→Prop}(h:lg g T p o R e H K)(hT:bg U P T)(M:bc U X S ρ n H)(he:aI (bd U (af ρ H++X) S ρ n H) R e ce)(hS: ∃w,S w):
  ∃x,K x∧(bj R e p→ ∃u,bY P nt ce S o u∧nF (bd U (af ρ H++X) S ρ n H) x u):=by
 cases hl:qk o with
 |false=>
  obtain⟨x,a,b⟩:=yT (nt:=nt) hpr hl hg h hT M he hS;exact⟨.v x,a,b⟩
 |true=>
  unfold qk at hl;split at hl
  ·rename_i x ho;unfold lg at h;rw[ho]at h;rcases G1 h with h|⟨t,l,rfl,hR,hl,hK⟩
   ·obtain⟨v,hK,hv⟩:=cV h he;exact⟨_,hK,fun hp=>by obtain⟨u,e1,h1⟩:=hv hp;exact⟨u,ka ho e1,h1⟩⟩
   ·refine⟨_,hK,fun hp=>?_⟩;obtain⟨us,e1,h1⟩:=he.t t l hR hl;exact⟨_,ka ho (show ce.ev (.tmp t)=some _ from e1),us,rfl,h1⟩
  ·rename_i t m kx ho;unfold lg at h;rw[ho]at h;obtain⟨l,a,b⟩:=yS (nt:=nt) (ok:=true) hpr ho h hT M he;exact⟨.tup l,a,fun hp=>by obtain⟨us,b1,b2⟩:=b hp;exact⟨_,b1,us,rfl,b2⟩⟩
  ·rename_i x ho;unfold lg at h;rw[ho]at h;obtain⟨c,h,hc⟩:=br h he;split at h
   ·rename_i j;split at h
    ·rename_i i gh hj;split at h
     ·rename_i d l left q gh' hi;obtain⟨rfl,hK⟩:=h;obtain⟨r,g,hA,hA2,hk,hrk,hwr⟩:=M.ent _ (ak hj);obtain⟨hkd,g',es,clock,mv,lv,cv,hA3,hM,hD,hL,hC,hw⟩:=M.ent _ (ak hi);rw[hA2]at hA3;injection hA3 with hA3;injection hA3 with hA3;subst hA3;refine⟨_,hK,fun hp=>?_⟩;obtain⟨u0,e1,h1⟩:=hc hp;have e0:u0= .pointer (some ⟨r,0,none⟩):=by
       obtain⟨_,_,g',hA',e⟩:=h1;rw[hA]at hA';injection hA' with hA';injection hA' with hA';subst hA';simpa using e
      subst e0;match cv,hC,hM with
      |(k,u):: [],⟨e2,⟨ks,k1,k2⟩,⟨vs,v1,v2⟩,_⟩,hM=>
       exact⟨_,Af (p:=(k,u)) ho e1 hwr hw hM,[_,_],rfl,_,_,rfl,ko (e2▸k1) k2,_,_,rfl,ko v1 v2,rfl⟩
     ·exact h.elim
    ·exact h.elim
   ·exact h.elim
  ·cases hl
end
end Go.Proofs.YtmpeiadlohbikaaGreatDoor.V
end

section
set_option linter.unusedVariables false
set_option linter.unusedSimpArgs false
namespace Go.Proofs.YtmpeiadlohbikaaGreatDoor.V
open Go.RowKit
section
variable [am] {U:bG} {X:List Nat} {ρ ρ':Nat→Rz} {n n':Nat} {H H':Hs U} {w w':World}
structure bM(ρ:Nat→Rz)(n:Nat)(H:Hs U)(w:World)(ρ':Nat→Rz)(n':Nat)(H':Hs U)(w':World):Prop where
 xd: ∀g∈af ρ H,g∉am.xf
 nn:n≤n'
 fr:Fr (af ρ H) w w'
 nb: ∀g∈af ρ' H',g∈af ρ H∨w.heap.size≤g
 row: ∀i,i<n→ ∀v' l' m',bk (aD H' i)=some (v',l',m')→ ∃v l m,bk (aD H i)=some (v,l,m)∧v≤v'∧(v=v'→ρ' i=ρ i∧l'=l∧m'=m)
 cel: ∀i,i<n→bk (aD H i)=none→ρ' i=ρ i
theorem bc.xd{S:World→Prop}(M:bc U X S ρ n H): ∀g∈af ρ H,g∉am.xf:=fun g hg hx=>M.dj g hg (M.xs g hx)
theorem bc.gY{S:World→Prop}(M:bc U X S ρ n H): ∀z∈gB,z∈af ρ H++X:=fun z hz=>List.mem_append_right _ (M.xs z (M.gv.1 z hz))
theorem bc.stp0(M:bc U X (· =w) ρ n H):bM ρ n H w ρ n H w:=
 ⟨M.xd,Nat.le_refl _,Fr.refl _ _,fun _ h=> .inl h,fun i hi v' l' m' h=>⟨v',l',m',h,Nat.le_refl _,fun _=>⟨rfl,rfl,rfl⟩⟩,fun _ _ _=>rfl⟩
theorem bM.trans{ρ2:Nat→Rz}{n2:Nat}{H2:Hs U}{w2:World}(a:bM ρ n H w ρ' n' H' w')(b:bM ρ' n' H' w' ρ2 n2 H2 w2):bM ρ n H w ρ2 n2 H2 w2:=by
 refine⟨a.xd,Nat.le_trans a.nn b.nn,a.fr.step b.fr a.nb,fun g hg=>?_,fun i hi v2 l2 m2 h2=>?_,fun i hi h=>?_⟩
 ·rcases b.nb g hg with h|h
  ·exact a.nb g h
  ·exact .inr (Nat.le_trans a.fr.size h)
 ·obtain⟨v1,l1,m1,h1,hle,heq⟩:=b.row i (by have:=a.nn;omega) v2 l2 m2 h2;obtain⟨v0,l0,m0,h0,hle0,heq0⟩:=a.row i hi v1 l1 m1 h1;refine⟨v0,l0,m0,h0,Nat.le_trans hle0 hle,fun he=>?_⟩;obtain⟨a1,a2,a3⟩:=heq (by omega);obtain⟨b1,b2,b3⟩:=heq0 (by omega);exact⟨a1.trans b1,a2.trans b2,a3.trans b3⟩
 ·have h1:bk (aD H' i)=none:=by
   cases hr:bk (aD H' i)with
   |none=>rfl
   |some x=>obtain⟨v,l,m,h0,_⟩:=a.row i hi _ _ _ hr;rw[h]at h0;cases h0
  rw[b.cel i (by have:=a.nn;omega) h1,a.cel i hi h]
theorem bM.mv(s:bM ρ n H w ρ' n' H' w'):Mv (af ρ H++X) (· =w) (af ρ' H'++X) (· =w'):=fun w2 h2=>by
 subst h2;refine⟨w,_,rfl,s.fr,fun x hx=>⟨List.mem_append_left _ hx,s.xd x hx⟩,fun y hy=>?_⟩;rcases List.mem_append.1 hy with hy|hy
 ·rcases s.nb y hy with h|h
  ·exact .inl (List.mem_append_left _ h)
  ·exact .inr h
 ·exact .inl (List.mem_append_right _ hy)
theorem oA.step(s:bM ρ n H w ρ' n' H' w'){i v:Nat}(hi:i<n){Q Q':Nat→Nat→Prop}(h:oA H i v Q)(hQ: ∀l m,ρ' i=ρ i→Q l m→Q' l m):oA H' i v Q':=fun v' l m hr=>by
 obtain⟨v0,l0,m0,h0,hle,heq⟩:=s.row i hi _ _ _ hr;obtain⟨h1,h2⟩:=h _ _ _ h0;refine⟨Nat.le_trans h1 hle,fun e=>?_⟩;obtain⟨a1,a2,a3⟩:=heq (by omega);subst a2;subst a3;exact hQ _ _ a1 (h2 (by omega))
theorem bd.step(s:bM ρ n H w ρ' n' H' w'){x:Cx U}{vs:List Value}(h:bd U (af ρ H++X) (· =w) ρ n H x vs):bd U (af ρ' H'++X) (· =w') ρ' n' H' x vs:=by
 have m:=s.mv (X:=X);cases x with
 |d sh t=>exact aC.mv m h
 |own i v=>
  obtain⟨hi,A,l,c,e,hn⟩:=h;exact⟨Nat.lt_of_lt_of_le hi s.nn,A,l,c,e,hn.step s hi fun l m hr ⟨a,b,c⟩=>⟨by rw[hr];exact a,b,by rw[hr];exact c⟩⟩
 |ptr i off=>
  obtain⟨hi,hr,g,hA,e⟩:=h;refine⟨Nat.lt_of_lt_of_le hi s.nn,?_,g,by rw[s.cel i hi hr];exact hA,e⟩;cases hr':bk (aD H' i)with
  |none=>rfl
  |some y=>obtain⟨v,l,m,h0,_⟩:=s.row i hi _ _ _ hr';rw[hr]at h0;cases h0
 |pax i off k sh q o=>
  obtain⟨hi,hr,h0,h1,g,hA,e⟩:=h;refine⟨Nat.lt_of_lt_of_le hi s.nn,?_,h0,h1,g,by rw[s.cel i hi hr];exact hA,e⟩;cases hr':bk (aD H' i)with
  |none=>rfl
  |some y=>obtain⟨v,l,m,h0,_⟩:=s.row i hi _ _ _ hr';rw[hr]at h0;cases h0
 |pel i v q off=>
  obtain⟨hi,a,e,hn⟩:=h;exact⟨Nat.lt_of_lt_of_le hi s.nn,a,e,hn.step s hi fun l m hr ⟨g,hA,r⟩=>⟨g,by rw[hr];exact hA,r⟩⟩
 |pd sh t=>
  obtain⟨g,b,us,e,hd,hr⟩:=h;exact⟨g,b,us,e,aC.mv m hd,hr.mv m⟩
 |nilp=>exact h
 |nils=>exact h
 |nilf=>exact h
 |nilm=>exact h
 |fn f=>exact h
 |clo f js=>
  obtain⟨e,hj⟩:=h;refine⟨e.trans ?_,fun j hjm=>?_⟩
  ·rw[List.map_congr_left (g:=fun j=>Value.pointer (ρ' j).A) fun j hjm=>by rw[s.cel j (hj j hjm).1 (hj j hjm).2.1]]
  ·obtain⟨hi,hr,g,hA⟩:=hj j hjm;refine⟨Nat.lt_of_lt_of_le hi s.nn,?_,g,by rw[s.cel j hi hr];exact hA⟩;cases hr':bk (aD H' j)with
   |none=>rfl
   |some y=>obtain⟨v,l,m,h0,_⟩:=s.row j hi _ _ _ hr';rw[hr]at h0;cases h0
 |f1 a g=>obtain⟨u,e,hf⟩:=h;exact⟨u,e,hf.mv m⟩
 |f2 a b g=>obtain⟨u,e,hf⟩:=h;exact⟨u,e,hf.mv m⟩
 |mp i=>
  obtain⟨hi,hr,g,hA,e⟩:=h;refine⟨Nat.lt_of_lt_of_le hi s.nn,?_,g,by rw[s.cel i hi hr];exact hA,e⟩;cases hr':bk (aD H' i)with
  |none=>rfl
  |some y=>obtain⟨v,l,m,h0,_⟩:=s.row i hi _ _ _ hr';rw[hr]at h0;cases h0
 |un=>exact h
omit [am]in
theorem bI.imp{V V':Cx U→List Value→Prop}(h: ∀x vs,V x vs→V' x vs): ∀{l:List (bU U)} {vs:List Value},bI V l vs→bI V' l vs
 | [],vs,hs=>hs
 |(k,x)::r,vs,hs=>by obtain⟨v1,v2,e,hl,hx,hr⟩:=hs;exact⟨v1,v2,e,hl,h _ _ hx,bI.imp h hr⟩
omit [am]in
theorem cC.imp{V V':Cx U→List Value→Prop}(h: ∀x vs,V x vs→V' x vs){x:Va U}{v:Value}(hv:cC V x v):cC V' x v:=by
 unfold cC at*;split at hv
 ·obtain⟨vs,e,hs⟩:=hv;exact⟨vs,e,hs.imp h⟩
 ·exact hv.imp h
omit [am]in
theorem bK.imp{V V':Cx U→List Value→Prop}(h: ∀x vs,V x vs→V' x vs): ∀{l:List (Va U)} {vs:List Value},bK V l vs→bK V' l vs
 | [],vs,hs=>hs
 |x::r,vs,hs=>by obtain⟨v,us,e,hx,hr⟩:=hs;exact⟨v,us,e,hx.imp h,bK.imp h hr⟩
omit [am]in
theorem aI.imp{V V':Cx U→List Value→Prop}(h: ∀x vs,V x vs→V' x vs){R e:En U}{ce:aG}(he:aI V R e ce):aI V' R e ce:=
 ⟨fun k x h1 h2=>by obtain⟨u,a,b⟩:=he.v k x h1 h2;exact⟨u,a,b.imp h⟩,fun k l h1 h2=>by obtain⟨u,a,b⟩:=he.t k l h1 h2;exact⟨u,a,b.imp h⟩,
  fun k p x h1=>by obtain⟨u,a,b,c⟩:=he.g k p x h1;exact⟨u,a,fun hp=>(b hp).imp h,c⟩⟩
theorem aI.step(s:bM ρ n H w ρ' n' H' w'){R e:En U}{ce:aG}(he:aI (bd U (af ρ H++X) (· =w) ρ n H) R e ce):aI (bd U (af ρ' H'++X) (· =w') ρ' n' H') R e ce:=he.imp fun _ _ h=>h.step s
theorem lX.step(s:bM ρ n H w ρ' n' H' w'){i:Nat}{x:aJ U}(h:lX U (af ρ H++X) (· =w) ρ n H i x)(hr:ρ' i=ρ i)(hb: ∀g,aq ρ (i,x)=some g→w'.heap[g]? =w.heap[g]?):lX U (af ρ' H'++X) (· =w') ρ' n' H' i x:=by
 have m:=s.mv (X:=X);cases x with
 |cells l t=>
  obtain⟨g,vs,hA,hs,hw⟩:=h;refine⟨g,vs,by rw[hr];exact hA,hs.imp fun _ _ h=>h.step s,fun w2 h2=>?_⟩;subst h2;rw[hb g (show ah (ρ i).A=some g by rw[hA];rfl)];exact hw w rfl
 |row v e xs t=>
  obtain⟨hm,cs,sp,hd,ho,hw⟩:=h;refine⟨hm,cs,sp,aT.mv m hd,by rw[hr];exact ho,fun g hg w2 h2=>?_⟩;subst h2;rw[hr]at hg;rw[hb g hg];exact hw g hg w rfl
 |frz v e xs=>
  obtain⟨hm,cs,hd,hrd,h1,h2⟩:=h;exact⟨hm,cs,aT.mv m hd,by rw[hr];exact hrd.mv m,by rw[hr];exact h1,by rw[hr];exact h2⟩
 |map d l=>
  obtain⟨hk,g,es,clock,mv,hA,hm,hd,hw⟩:=h;refine⟨hk,g,es,clock,mv,by rw[hr];exact hA,hm,aH.mv m hd,fun w2 h2=>?_⟩;subst h2;rw[hb g (show ah (ρ i).A=some g by rw[hA];rfl)];exact hw w rfl
 |mapr d l left cur gh=>
  obtain⟨hk,g,es,clock,mv,lv,cv,hA,hm,hd,hl,hc,hw⟩:=h;refine⟨hk,g,es,clock,mv,lv,cv,by rw[hr];exact hA,hm,aH.mv m hd,aH.mv m hl,aH.mv m hc,fun w2 h2=>?_⟩;subst h2;rw[hb g (show ah (ρ i).A=some g by rw[hA];rfl)];exact hw w rfl
 |it k gh=>
  obtain⟨r,g,hA,hA2,hk,hrk,hw⟩:=h;refine⟨r,g,by rw[hr];exact hA,by rw[s.cel k hk hrk];exact hA2,Nat.lt_of_lt_of_le hk s.nn,?_,fun w2 h2=>?_⟩
  ·cases hr':bk (aD H' k)with
   |none=>rfl
   |some y=>obtain⟨v,l,m,h0,_⟩:=s.row k hk _ _ _ hr';rw[hrk]at h0;cases h0
  ·subst h2;rw[hb r (show ah (ρ i).A=some r by rw[hA];rfl)];exact hw w rfl
 |clo f l=>trivial
 |hid v l m=>trivial
 |dead=>trivial
omit [am]in
theorem sR{α:Type}: ∀{l:List (Nat×α)} {i:Nat},(∀p∈l,p.1≠i)→aD l i=none
 | [],i,h=>rfl
 |(j,y)::r,i,h=>by
  unfold aD;rw[cg (h (j,y) (by simp))];exact sR fun p hp=>h p (List.mem_cons_of_mem _ hp)
omit [am]in
theorem cW{α:Type}: ∀{l:List (Nat×α)} {i:Nat} {x:α},(l.map (·.1)).Nodup→(i,x)∈l→aD l i=some x
 |(j,y)::r,i,x,hn,h=>by
  unfold aD;rw[List.map_cons,List.nodup_cons]at hn;rcases List.mem_cons.1 h with h|h
  ·injection h with h1 h2;subst h1;subst h2;rw[Nat.beq_refl];rfl
  ·have: ¬j=i:=by rintro rfl;exact hn.1 (List.mem_map.2 ⟨_,h,rfl⟩)
   rw[cg this];exact cW hn.2 h
omit [am]in
theorem aL{g:Nat}:g∈af ρ H↔ ∃p∈H,aq ρ p=some g:=by unfold af;rw[List.mem_filterMap]
def ct(ρ:Nat→Rz)(i:Nat)(r:Rz):Nat→Rz:=fun j=>bif Nat.beq i j then r else ρ j
omit [am]in
theorem aO(ρ:Nat→Rz)(i:Nat)(r:Rz):ct ρ i r i=r:=by unfold ct;rw[Nat.beq_refl];rfl
omit [am]in
theorem aY(ρ:Nat→Rz)(i:Nat):ct ρ i (ρ i)=ρ:=by
 funext j;unfold ct;cases hb:Nat.beq i j with
 |true=>rw[Nat.eq_of_beq_eq_true hb];rfl
 |false=>rfl
omit [am]in
theorem gc{i j:Nat}(h: ¬i=j)(ρ:Nat→Rz)(r:Rz):ct ρ i r j=ρ j:=by unfold ct;rw[cg h];rfl
omit [am]in
theorem ez{i:Nat}{r:Rz}{p:Nat×aJ U}(h: ¬i=p.1):aq (ct ρ i r) p=aq ρ p:=by
 obtain⟨j,x⟩:=p;unfold aq;cases x<;>simp only[gc h]
theorem bM.push(xd: ∀g∈af ρ H,g∉am.xf)(hlt: ∀p∈H,p.1<n)(hf:Fr [] w w')(r:Rz)(x:aJ U)(hb: ∀g,aq (ct ρ n r) (n,x)=some g→w.heap.size≤g):bM ρ n H w (ct ρ n r) (n+1) ((n,x)::H) w':=by
 refine⟨xd,Nat.le_succ _,hf.mono (by simp),fun g hg=>?_,fun i hi v' l' m' h=>?_,fun i hi _=>gc (by omega) ρ r⟩
 ·obtain⟨p,hp,hg⟩:=aL.1 hg;rcases List.mem_cons.1 hp with rfl|hp
  ·exact .inr (hb g hg)
  ·rw[ez (by have:=hlt p hp;omega)]at hg;exact .inl (aL.2 ⟨p,hp,hg⟩)
 ·unfold aD at h;rw[cg (by omega)]at h;exact⟨v',l',m',h,Nat.le_refl _,fun _=>⟨gc (by omega) ρ r,rfl,rfl⟩⟩
theorem de(M:bc U X (· =w) ρ n H): ∀p∈H,∀g,aq ρ p=some g→g<w.heap.size:=fun p hp g hg=>by
 have h:=M.ent p hp;obtain⟨i,x⟩:=p;cases x with
 |cells l t=>
  obtain⟨g',vs,hA,hs,hw⟩:=h;unfold aq at hg;simp only[hA]at hg;injection hg with hg;subst hg;exact bZ (hw w rfl)
 |row v e xs t=>
  obtain⟨hm,cs,sp,hd,ho,hw⟩:=h;exact bZ (hw g hg w rfl)
 |map d l=>
  obtain⟨hk,g',es,clock,mv,hA,hm,hd,hw⟩:=h;unfold aq at hg;simp only[hA]at hg;injection hg with hg;subst hg;exact bZ (hw w rfl)
 |mapr d l left cur gh=>
  obtain⟨hk,g',es,clock,mv,lv,cv,hA,hm,hd,hl,hc,hw⟩:=h;unfold aq at hg;simp only[hA]at hg;injection hg with hg;subst hg;exact bZ (hw w rfl)
 |it k gh=>
  obtain⟨r,g',hA,hA2,hk,hrk,hw⟩:=h;unfold aq at hg;simp only[hA]at hg;injection hg with hg;subst hg;exact bZ (hw w rfl)
 |_=>cases hg
theorem bc.push(M:bc U X (· =w) ρ n H)(hf:Fr [] w w')(r:Rz)(x:aJ U)(hb: ∀g,aq (ct ρ n r) (n,x)=some g→w.heap.size≤g)
  (he:lX U (af (ct ρ n r) ((n,x)::H)++X) (· =w') (ct ρ n r) (n+1) ((n,x)::H) n x):bc U X (· =w') (ct ρ n r) (n+1) ((n,x)::H):=by
 have s:=bM.push (ρ:=ρ) M.xd M.lt hf r x hb;have hX: ∀g∈X,g<w.heap.size:=M.lo w rfl;refine⟨?_,fun p hp=>?_,fun p hp=>?_,fun p hp q hq g h1 h2=>?_,fun g hg=>?_,fun w2 h2 x hx=>?_,M.xs,M.gv.fr hf (fun _ h=>by cases h)⟩
 ·rw[List.map_cons,List.nodup_cons];refine⟨fun h=>?_,M.nd⟩;obtain⟨p,hp,h⟩:=List.mem_map.1 h;have:=M.lt p hp;omega
 ·rcases List.mem_cons.1 hp with rfl|hp
  ·exact Nat.lt_succ_self _
  ·exact Nat.lt_succ_of_lt (M.lt p hp)
 ·rcases List.mem_cons.1 hp with rfl|hp
  ·exact he
  ·have hne: ¬n=p.1:=by have:=M.lt p hp;omega
   exact(M.ent p hp).step s (gc hne ρ r) fun g hg=>hf.block g (de M p hp g hg) (by simp)
 ·have old: ∀q∈H,∀g,aq (ct ρ n r) q=some g→g<w.heap.size:=fun q hq g hg=>by
   rw[ez (by have:=M.lt q hq;omega)]at hg;exact de M q hq g hg
  rcases List.mem_cons.1 hp with rfl|hp<;>rcases List.mem_cons.1 hq with rfl|hq
  ·rfl
  ·have a:=hb g h1;have b:=old q hq g h2;omega
  ·have a:=hb g h2;have b:=old p hp g h1;omega
  ·rw[ez (by have:=M.lt p hp;omega)]at h1;rw[ez (by have:=M.lt q hq;omega)]at h2;exact M.inj p hp q hq g h1 h2
 ·rcases s.nb g hg with h|h
  ·exact M.dj g h
  ·exact fun hx=>by have:=hX g hx;omega
 ·subst h2;exact Nat.lt_of_lt_of_le (hX x hx) hf.size
def dQ:Hs U→Nat→aJ U→Hs U
 | [],_,_=> []
 |y::r,i,x=>bif Nat.beq y.1 i then(i,x)::r else y::dQ r i x
omit [am]in
theorem c5{i:Nat}{x:aJ U}: ∀{H:Hs U} {K:Hs U→Prop},g9 H i x K→K (dQ H i x)
 | [],K,h=>h.elim
 |y::r,K,h=>by
  have h:(bif Nat.beq y.1 i then K ((i,x)::r)else g9 r i x fun r'=>K (y::r')):=h;unfold dQ;cases hb:Nat.beq y.1 i with
  |true=>rw[hb]at h;exact h
  |false=>rw[hb]at h;exact c5 (H:=r) h
omit [am]in
theorem l7{i:Nat}{x:aJ U}: ∀{H:Hs U},(dQ H i x).map (·.1)=H.map (·.1)
 | []=>rfl
 |y::r=>by
  unfold dQ;cases hb:Nat.beq y.1 i with
  |true=>have:=Nat.eq_of_beq_eq_true hb;simp[this]
  |false=>simp[l7 (H:=r)]
omit [am]in
theorem fH{i j:Nat}{x:aJ U}: ∀{H:Hs U},(∃y,aD H i=some y)→aD (dQ H i x) j=if i=j then some x else aD H j
 | [],h=>by obtain⟨y,h⟩:=h;cases h
 |y::r,h=>by
  unfold dQ;cases hb:Nat.beq y.1 i with
  |true=>
   have hyi:=Nat.eq_of_beq_eq_true hb;simp only[cond_true];unfold aD;by_cases hij:i=j
   ·subst hij;rw[Nat.beq_refl,if_pos rfl];rfl
   ·rw[cg hij,if_neg hij];obtain⟨a,b⟩:=y;simp only at hyi;subst hyi;simp only[cg hij,cond_false]
  |false=>
   simp only[cond_false];obtain⟨a,b⟩:=y;unfold aD at h⊢;simp only at hb;rw[hb]at h;have ih:=fH (j:=j) (x:=x) (H:=r) h;cases hj:Nat.beq a j with
   |true=>
    have haj:=Nat.eq_of_beq_eq_true hj;have hij: ¬i=j:=by rintro rfl;rw[hj]at hb;cases hb
    rw[if_neg hij];rfl
   |false=>simp only[cond_false];exact ih
omit [am]in
theorem iz{i:Nat}{x:aJ U}(hn:(H.map (·.1)).Nodup)(hi: ∃y,aD H i=some y): ∀p∈dQ H i x,p=(i,x)∨(p∈H∧ ¬i=p.1):=fun p hp=>by
 have hn':((dQ H i x).map (·.1)).Nodup:=by rw[l7];exact hn
 obtain⟨j,y⟩:=p;have h1:=cW hn' hp;rw[fH hi]at h1;by_cases hij:i=j
 ·subst hij;rw[if_pos rfl]at h1;injection h1 with h1;subst h1;exact .inl rfl
 ·rw[if_neg hij]at h1;exact .inr ⟨ak h1,hij⟩
theorem bM.upd(xd: ∀g∈af ρ H,g∉am.xf)(hn:(H.map (·.1)).Nodup){i:Nat}{x y:aJ U}(hi:aD H i=some y)(hf:Fr (aq ρ (i,y)).toList w w')(r:Rz)
  (hb: ∀g,aq (ct ρ i r) (i,x)=some g→aq ρ (i,y)=some g∨w.heap.size≤g)
  (hr: ∀v' l' m',bk (some x)=some (v',l',m')→ ∃v l m,bk (some y)=some (v,l,m)∧v≤v'∧(v=v'→r=ρ i∧l'=l∧m'=m)) (hc:bk (some y)=none→r=ρ i):bM ρ n H w (ct ρ i r) n (dQ H i x) w':=by
 have hi': ∃y,aD H i=some y:=⟨y,hi⟩;refine⟨xd,Nat.le_refl _,hf.mono fun g hg=>?_,fun g hg=>?_,fun j hj v' l' m' h=>?_,fun j hj h=>?_⟩
 ·refine aL.2 ⟨(i,y),ak hi,by simpa using hg⟩
 ·obtain⟨p,hp,hg⟩:=aL.1 hg;rcases iz hn hi' p hp with rfl|⟨hp,hne⟩
  ·rcases hb g hg with h|h
   ·exact .inl (aL.2 ⟨_,ak hi,h⟩)
   ·exact .inr h
  ·rw[ez hne]at hg;exact .inl (aL.2 ⟨p,hp,hg⟩)
 ·rw[fH hi']at h;by_cases hij:i=j
  ·subst hij;rw[if_pos rfl]at h;rw[hi,aO];exact hr _ _ _ h
  ·rw[if_neg hij]at h;exact⟨v',l',m',h,Nat.le_refl _,fun _=>⟨gc hij ρ r,rfl,rfl⟩⟩
 ·by_cases hij:i=j
  ·subst hij;rw[hi]at h;rw[aO];exact hc h
  ·exact gc hij ρ r
theorem bc.upd(M:bc U X (· =w) ρ n H){i:Nat}{x y:aJ U}(hi:aD H i=some y)(hf:Fr (aq ρ (i,y)).toList w w')(r:Rz)
  (hb: ∀g,aq (ct ρ i r) (i,x)=some g→aq ρ (i,y)=some g∨w.heap.size≤g)
  (hr: ∀v' l' m',bk (some x)=some (v',l',m')→ ∃v l m,bk (some y)=some (v,l,m)∧v≤v'∧(v=v'→r=ρ i∧l'=l∧m'=m)) (hc:bk (some y)=none→r=ρ i)
  (he:lX U (af (ct ρ i r) (dQ H i x)++X) (· =w') (ct ρ i r) n (dQ H i x) i x):bc U X (· =w') (ct ρ i r) n (dQ H i x):=by
 have hi': ∃y,aD H i=some y:=⟨y,hi⟩;have s:=bM.upd (n:=n) M.xd M.nd hi hf r hb hr hc;have hX: ∀g∈X,g<w.heap.size:=M.lo w rfl;have hne: ∀p∈H,¬i=p.1→ ∀g,aq ρ p=some g→g∉(aq ρ (i,y)).toList:=fun p hp hn g hg hm=>hn (M.inj _ (ak hi) p hp g (by simpa using hm) hg);refine⟨by rw[l7];exact M.nd,fun p hp=>?_,fun p hp=>?_,fun p hp q hq g h1 h2=>?_,fun g hg=>?_,fun w2 h2 x hx=>?_,M.xs,M.gv.fr s.fr M.xd⟩
 ·rcases iz M.nd hi' p hp with rfl|⟨hp,_⟩
  ·exact M.lt (i,y) (ak hi)
  ·exact M.lt p hp
 ·rcases iz M.nd hi' p hp with rfl|⟨hp,hn⟩
  ·exact he
  ·exact(M.ent p hp).step s (gc hn ρ r) fun g hg=>hf.block g (de M p hp g hg) (hne p hp hn g hg)
 ·rcases iz M.nd hi' p hp with rfl|⟨hp,hn⟩<;>rcases iz M.nd hi' q hq with rfl|⟨hq,hm⟩
  ·rfl
  ·rw[ez hm]at h2;rcases hb g h1 with h|h
   ·exact M.inj (i,y) (ak hi) q hq g h h2
   ·have:=de M q hq g h2;omega
  ·rw[ez hn]at h1;rcases hb g h2 with h|h
   ·exact M.inj p hp (i,y) (ak hi) g h1 h
   ·have:=de M p hp g h1;omega
  ·rw[ez hn]at h1;rw[ez hm]at h2;exact M.inj p hp q hq g h1 h2
 ·rcases s.nb g hg with h|h
  ·exact M.dj g h
  ·exact fun hx=>by have:=hX g hx;omega
 ·subst h2;exact Nat.lt_of_lt_of_le (hX x hx) hf.size
end
end Go.Proofs.YtmpeiadlohbikaaGreatDoor.V
end

section
set_option linter.unusedVariables false
set_option linter.unusedSectionVars false
set_option linter.unusedSimpArgs false
namespace Go.Proofs.YtmpeiadlohbikaaGreatDoor.V
open Go.RowKit
section
variable [bt] [am] {U:bG} {P:Program} {nt:Nat} {T:cM U} {X:List Nat} {w:World} {ρ:Nat→Rz} {n:Nat} {H:Hs U} {R e:En U} {ce:aG} {o:Oper}
abbrev Vw(U:bG)(X:List Nat)(w:World)(ρ:Nat→Rz)(n:Nat)(H:Hs U):Cx U→List Value→Prop:=bd U (af ρ H++X) (· =w) ρ n H
theorem Cy{x:bU U}{K:Hs U→bU U→Prop}(h:sy H x K)(M:bc U X (· =w) ρ n H): ∃H' y,K H' y∧bc U X (· =w) ρ n H'∧bM ρ n H w ρ n H' w∧ ∀vs,bI (Vw U X w ρ n H) [x] vs→bI (Vw U X w ρ n H') [y] vs:=by
 unfold sy at h;split at h
 ·rename_i i v;split at h
  ·rename_i v' s xs t hl;cases hb:Nat.beq v v' with
   |false=>rw[hb]at h;exact h.elim
   |true=>
    rw[hb]at h;simp only[cond_true]at h;have hvv:=Nat.eq_of_beq_eq_true hb;subst hvv;have hK:=c5 h;obtain⟨hm,cs,sp,hd,ho,hw⟩:=M.ent _ (ak hl);have hb0: ∀g,aq (ct ρ i (ρ i)) (i,(.frz v s xs:aJ U))=some g→aq ρ (i,(.row v s xs t:aJ U))=some g∨w.heap.size≤g:=fun g hg=>by cases hg
    have hr0: ∀v' l' m',bk (some (.frz v s xs:aJ U))=some (v',l',m')→ ∃v0 l m,bk (some (.row v s xs t:aJ U))=some (v0,l,m)∧v0≤v'∧(v0=v'→ρ i=ρ i∧l'=l∧m'=m):=fun v' l' m' hr=>⟨v',l',m',hr,Nat.le_refl _,fun _=>⟨rfl,rfl,rfl⟩⟩;have hf:Fr (aq ρ (i,(.row v s xs t:aJ U))).toList w w:=Fr.refl _ _;have st:=bM.upd (n:=n) M.xd M.nd hl hf (ρ i) hb0 hr0 (fun _=>rfl);rw[aY]at st;have hrd:sC (af ρ (dQ H i (.frz v s xs))++X) (· =w) (ρ i).A cs:=fun w2 h2 j u hj=>by
     subst h2;have hjl:j<cs.length:=(List.getElem?_eq_some_iff.1 hj).1;rcases ho.2 with⟨_,h0,_⟩|⟨g,hA,_⟩
     ·rw[ho.1,h0,Nat.zero_mul]at hjl;omega
     refine⟨g,0,hA,fun hg=>?_,?_⟩
     ·rcases List.mem_append.1 hg with hg|hg
      ·obtain⟨p,hp,hg⟩:=aL.1 hg;rcases iz M.nd ⟨_,hl⟩ p hp with rfl|⟨hp,hne⟩
       ·cases hg
       ·exact hne (M.inj (i,.row v s xs t) (ak hl) p hp g (show ah (ρ i).A=some g by rw[hA];rfl) hg)
      ·exact M.dj g (aL.2 ⟨(i,.row v s xs t),ak hl,show ah (ρ i).A=some g by rw[hA];rfl⟩) hg
     ·rw[cell_of_row w2 g (0+j) (cs++sp).toArray t (0,0) (hw g (by rw[hA];rfl) w2 rfl)];simp only[List.getElem?_toArray,Nat.zero_add];rw[List.getElem?_append_left hjl];exact hj
    have hlc:xs.length≤(ρ i).c∧(ρ i).c≤maxLen:=by
     rcases ho.2 with⟨_,h0,h1,_⟩|⟨g,_,_,h1,h2⟩
     ·rw[h0,h1];exact⟨Nat.le_refl _,Nat.zero_le _⟩
     ·exact⟨h1,h2⟩
    have hd':=aT.mv (st.mv (X:=X)) hd;have M':=M.upd hl hf (ρ i) hb0 hr0 (fun _=>rfl) (x:= .frz v s xs) (by
     rw[aY];exact⟨hm,cs,hd',hrd,hlc.1,hlc.2⟩)
    rw[aY]at M';refine⟨_,_,hK,M',st,fun vs hs=>?_⟩;obtain⟨⟨hi,A,l,c,e1,hn⟩,hlen⟩:=hs.one1;obtain⟨rfl,rfl,rfl⟩:=(hn _ _ _ (by rw[hl];rfl)).2 rfl;subst e1;exact⟨_,[],(List.append_nil _).symm,rfl,aC.sl s xs _ _ cs hd' hrd hlc.1 hlc.2,rfl⟩
  ·rename_i v' s xs hl;cases hb:Nat.beq v v' with
   |false=>rw[hb]at h;exact h.elim
   |true=>
    rw[hb]at h;have hvv:=Nat.eq_of_beq_eq_true hb;subst hvv;obtain⟨hm,cs,hd,hrd,h1,h2⟩:=M.ent _ (ak hl);refine⟨_,_,h,M,M.stp0,fun vs hs=>?_⟩;obtain⟨⟨hi,A,l,c,e1,hn⟩,hlen⟩:=hs.one1;obtain⟨rfl,rfl,rfl⟩:=(hn _ _ _ (by rw[hl];rfl)).2 rfl;subst e1;exact⟨_,[],(List.append_nil _).symm,rfl,aC.sl s xs _ _ cs hd hrd h1 h2,rfl⟩
  ·exact h.elim
 ·exact⟨_,_,h,M,M.stp0,fun _ hs=>hs⟩
omit [am]in
theorem bI.cons{V:Cx U→List Value→Prop}{x:bU U}{r:List (bU U)}{vs:List Value}(h:bI V (x::r) vs): ∃v1 v2,vs=v1++v2∧bI V [x] v1∧bI V r v2:=by
 obtain⟨k,c⟩:=x;obtain⟨v1,v2,e,hl,hx,hr⟩:=h;exact⟨v1,v2,e,⟨v1,[],(List.append_nil _).symm,hl,hx,rfl⟩,hr⟩
theorem fm: ∀{l:List (bU U)} {H:Hs U} {K:Hs U→List (bU U)→Prop},kU l H K→bc U X (· =w) ρ n H→ ∃H' l',K H' l'∧bc U X (· =w) ρ n H'∧bM ρ n H w ρ n H' w∧ ∀vs,bI (Vw U X w ρ n H) l vs→bI (Vw U X w ρ n H') l' vs
 | [],H,K,h,M=>⟨H,[],h,M,M.stp0,fun _ hs=>hs⟩
 |x::l,H,K,h,M=>by
  obtain⟨H1,y,h1,M1,s1,c1⟩:=Cy (show sy H x (fun H y=>kU l H fun H r=>K H (y::r))from h) M;obtain⟨H2,l2,h2,M2,s2,c2⟩:=fm (l:=l) h1 M1;refine⟨H2,_,h2,M2,s1.trans s2,fun vs hs=>?_⟩;obtain⟨v1,v2,rfl,ha,hb⟩:=hs.cons;have hy:bI (Vw U X w ρ n H2) [y] v1:=(c1 _ ha).imp fun _ _ h=>h.step s2;have hr:=c2 _ (hb.imp fun _ _ h=>h.step s1);exact bI.app (l:= [y]) hy hr
theorem oK{s:aZ}{x:Va U}{K:Hs U→TT U.ty s→Prop}(h:yg s H x K)(M:bc U X (· =w) ρ n H): ∃H' t,K H' t∧bc U X (· =w) ρ n H'∧bM ρ n H w ρ n H' w∧ ∀u,cC (Vw U X w ρ n H) x u→aC U (af ρ H'++X) (· =w) s t u.cells.toList:=by
 obtain⟨H',l',h1,M',s',c'⟩:=fm (show kU x.l H _ from h) M;obtain⟨t,h2,ht⟩:=bq h1;exact⟨H',t,h2,M',s',fun u hu=>ht _ _ _ _ _ _ (c' _ hu.cells)⟩
def l8(P:Program)(nt:Nat)(U:bG)(X:List Nat)(w:World)(ρ:Nat→Rz)(n:Nat)(H:Hs U)(ce:aG)(o:Oper)(K:AV U→Nat→Hs U→Prop):Prop:=
 bH P nt ce w o fun ce' w'=> ∃av n' H' ρ' cv,K av n' H'∧ce'=ce.dst o.dst cv∧nF (Vw U X w' ρ' n' H') av cv∧bc U X (· =w') ρ' n' H'∧bM ρ n H w ρ' n' H' w'
omit [am]in
theorem gg{A:Prop}(h:oB o.dst A)(hd:(o.dst.all (Nat.blt · nt))=true): ∃d,o.dst=some d∧Nat.blt d nt=true∧A:=by
 unfold oB at h;cases ho:o.dst with
 |none=>rw[ho]at h;exact h.elim
 |some d=>rw[ho]at h hd;exact⟨d,rfl,by simpa using hd,h⟩
omit [am]in
theorem uy{A:Prop}(h:Jm o.dst A):o.dst=none∧A:=by
 unfold Jm at h;cases ho:o.dst with
 |none=>rw[ho]at h;exact⟨rfl,h⟩
 |some d=>rw[ho]at h;exact h.elim
omit [am]in
theorem aG.dstS{d:Nat}(hd:o.dst=some d)(v:Value):((d,v)::ce)=ce.dst o.dst v:=by rw[hd];rfl
omit [am]in
theorem nS{α:Type}(n:Nat)(x:α)(l:List (Nat×α)):aD ((n,x)::l) n=some x:=by unfold aD;rw[Nat.beq_refl];rfl
omit [am]in
theorem xi{g:Nat}:ah (some ⟨g,0,none⟩)=some g:=rfl
omit [am]in
theorem oL{i:Nat}{r:Rz}{l:List (bU U)}{t g:Nat}(h:aq (ct ρ i r) (i,(.cells l t:aJ U))=some g):ah r.A=some g:=by
 unfold aq at h;simp only[aO]at h;exact h
omit [am]in
theorem jM{i:Nat}{r:Rz}{v:Nat}{s:aZ}{xs:List (TT U.ty s)}{t g:Nat}(h:aq (ct ρ i r) (i,(.row v s xs t:aJ U))=some g):ah r.A=some g:=by
 unfold aq at h;simp only[aO]at h;exact h
theorem yU{t:Nat}{K:AV U→Nat→Hs U→Prop}{ti:TI U}(hti:aU U P t ti)(hK:K (.v ⟨false,[(1,.ptr n 0)]⟩) (n+1) ((n,.cells ti.zero t)::H)){d:Nat}(ho:o.op= .alloc t)(hd:o.dst=some d)(hn:Nat.blt d nt=true)(M:bc U X (· =w) ρ n H):l8 P nt U X w ρ n H ce o K:=by
 obtain⟨zs,hz,hzl,hzs⟩:=hti.zero;refine ow ho hd hn hz (Hp.nil w) fun g w' hp hf hg=>?_;have hblk:w'.heap[g]? =some (Cl zs t):=hp.at (i:=0) rfl;have hb: ∀g',aq (ct ρ n ⟨some ⟨g,0,none⟩,0⟩) (n,(.cells ti.zero t:aJ U))=some g'→w.heap.size≤g':=fun g' h=>by
  have:=oL h;rw[xi]at this;injection this with this;subst this;exact hg
 refine⟨_,_,_,ct ρ n ⟨some ⟨g,0,none⟩,0⟩,_,hK,aG.dstS hd _,?_,M.push hf _ _ hb ⟨g,zs,by rw[aO],hzs _ _ _ _ _ _,fun w2 h2=>by subst h2;exact hblk⟩,bM.push M.xd M.lt hf _ _ hb⟩;exact gu ⟨Nat.lt_succ_self _,by rw[nS];rfl,g,by rw[aO],rfl⟩
theorem yV{t:Nat}{K:AV U→Nat→Hs U→Prop}{ti:TI U}{kd:KD U}(hti:aU U P t ti)(hm:ti.mp=some kd)(hpr:am.pr=P)(hK:K (.v ⟨false,[(1,.mp n)]⟩) (n+1) ((n,.map kd [])::H)){d:Nat}(ho:o.op= .makeMap t none)(hd:o.dst=some d)(hn:Nat.blt d nt=true)(M:bc U X (· =w) ρ n H):l8 P nt U X w ρ n H ce o K:=by
 obtain⟨hk,hu⟩:=hti.mp kd hm;refine DL ho hd hn (Hp.nil w) fun g w' hp hf hg=>?_;have hblk:w'.heap[g]? =some (.map #[] 0):=hp.at (i:=0) rfl;have hb: ∀g',aq (ct ρ n ⟨some ⟨g,0,none⟩,0⟩) (n,(.map kd []:aJ U))=some g'→w.heap.size≤g':=fun g' h=>by
  have h:ah (ct ρ n ⟨some ⟨g,0,none⟩,0⟩ n).A=some g':=h;rw[aO]at h;injection h with h;subst h;exact hg
 refine⟨_,_,_,ct ρ n ⟨some ⟨g,0,none⟩,0⟩,_,hK,aG.dstS hd _,?_,M.push hf _ _ hb ⟨(show B7 am.pr U kd by rw[hpr];exact hk),g, #[],0,[],by rw[aO],ny.empty,trivial,fun w2 h2=>by subst h2;exact hblk⟩,bM.push M.xd M.lt hf _ _ hb⟩;exact gu ⟨Nat.lt_succ_self _,by rw[nS];rfl,g,by rw[aO],rfl⟩
theorem G2{t:Nat}{x:Operand}{v:Va U}{u:Value}{K:AV U→Nat→Hs U→Prop}(hK:K (.v ⟨false,[(1,.ptr n 0)]⟩) (n+1) ((n,.cells v.l t)::H)){d:Nat}(ho:o.op= .box t x)(hd:o.dst=some d)(hn:Nat.blt d nt=true)(hx:ce.ev x=some u)(hv:cC (Vw U X w ρ n H) v u)(M:bc U X (· =w) ρ n H):l8 P nt U X w ρ n H ce o K:=by
 have key: ∀g w',w'.heap[g]? =some (Cl u.cells.toList t)→Fr [] w w'→w.heap.size≤g→ ∃av n' H' ρ' cv,K av n' H'∧((d,(.pointer (some ⟨g,0,none⟩):Value))::ce)=ce.dst o.dst cv∧nF (Vw U X w' ρ' n' H') av cv∧bc U X (· =w') ρ' n' H'∧bM ρ n H w ρ' n' H' w':=fun g w' hblk hf hg=>by
  have hb: ∀g',aq (ct ρ n ⟨some ⟨g,0,none⟩,0⟩) (n,(.cells v.l t:aJ U))=some g'→w.heap.size≤g':=fun g' h=>by
   have:=oL h;rw[xi]at this;injection this with this;subst this;exact hg
  have st:=bM.push (ρ:=ρ) M.xd M.lt hf ⟨some ⟨g,0,none⟩,0⟩ (.cells v.l t:aJ U) hb;refine⟨_,_,_,ct ρ n ⟨some ⟨g,0,none⟩,0⟩,_,hK,aG.dstS hd _,?_,M.push hf _ _ hb ⟨g,_,by rw[aO],hv.cells.imp fun _ _ h=>h.step st,fun w2 h2=>by subst h2;exact hblk⟩,st⟩;exact gu ⟨Nat.lt_succ_self _,by rw[nS];rfl,g,by rw[aO],rfl⟩
 by_cases ha: ∃us:List Value,u= .agg us.toArray
 ·obtain⟨us,rfl⟩:=ha;exact Ky ho hd hn hx (Hp.nil w) fun g w' hp hf hg=>key g w' (by simpa[Value.cells]using hp.at (i:=0) rfl) hf hg
 ·have hu:u.cells= #[u]:=by
   cases u with
   |agg cs=>exact absurd ⟨cs.toList,by simp⟩ ha
   |_=>rfl
  exact Ay ho hd hn hx hu (Hp.nil w) fun g w' hp hf hg=>key g w' (by rw[hu];exact hp.at (i:=0) rfl) hf hg
end
end Go.Proofs.YtmpeiadlohbikaaGreatDoor.V
end

section
set_option linter.unusedVariables false
set_option linter.unusedSectionVars false
set_option linter.unusedSimpArgs false
namespace Go.Proofs.YtmpeiadlohbikaaGreatDoor.V
open Go.RowKit
section
variable [bt] [am] {U:bG} {P:Program} {nt:Nat} {T:cM U} {X:List Nat} {w:World} {ρ:Nat→Rz} {n:Nat} {H:Hs U} {R e:En U} {ce:aG} {o:Oper}
def MT:aJ U→Bool
 | .row _ _ _ _=>false
 |_=>true
def CP(H H':Hs U):Prop:= ∀j x,MT x=true→aD H j=some x→aD H' j=some x
omit [am]in
theorem CP.refl(H:Hs U):CP H H:=fun _ _ _ h=>h
omit [am]in
theorem CP.trans{H1 H2:Hs U}(a:CP H H1)(b:CP H1 H2):CP H H2:=fun j l t h=>b j l t (a j l t h)
omit [am]in
theorem sw{i:Nat}{x:aJ U}: ∀{H:Hs U} {K K':Hs U→Prop},g9 H i x K→(∀H',H'=dQ H i x→K H'→K' H')→g9 H i x K'
 | [],_,_,h,_=>h.elim
 |y::r,K,K',h,hk=>by
  have h:(bif Nat.beq y.1 i then K ((i,x)::r)else g9 r i x fun r'=>K (y::r')):=h;show(bif Nat.beq y.1 i then K' ((i,x)::r)else g9 r i x fun r'=>K' (y::r'))
  cases hb:Nat.beq y.1 i with
  |true=>rw[hb]at h;exact hk _ (by unfold dQ;rw[hb];rfl) h
  |false=>rw[hb]at h;exact sw (H:=r) h fun H' e hK=>hk _ (by unfold dQ;rw[hb,e];rfl) hK
omit [am]in
theorem yf{x:bU U}{K K':Hs U→bU U→Prop}(h:sy H x K)(hk: ∀H' y,CP H H'→K H' y→K' H' y):sy H x K':=by
 unfold sy at h⊢;split at h
 ·rename_i i v;show(match aD H i with
   |some (.row v' e xs _)=>(bif Nat.beq v v' then g9 H i (.frz v e xs) fun H=>K' H (1,.d (.sl e) xs)else False)
   |some (.frz v' e xs)=>(bif Nat.beq v v' then K' H (1,.d (.sl e) xs)else False)
   |_=>False)
  split at h
  ·rename_i v' s xs t hl;rw[hl];simp only;cases hb:Nat.beq v v' with
   |false=>rw[hb]at h;exact h.elim
   |true=>
    rw[hb]at h;exact sw h fun H' e hK=>hk _ _ (fun j y hy hj=>by
     subst e;rw[fH ⟨_,hl⟩];split
     ·rename_i e;subst e;rw[hl]at hj;injection hj with hj;subst hj;cases hy
     ·exact hj) hK
  ·rename_i v' s xs hl;rw[hl];simp only;cases hb:Nat.beq v v' with
   |false=>rw[hb]at h;exact h.elim
   |true=>rw[hb]at h;exact hk _ _ (CP.refl _) h
  ·exact h.elim
 ·exact hk _ _ (CP.refl _) h
omit [am]in
theorem jH: ∀{l:List (bU U)} {H:Hs U} {K K':Hs U→List (bU U)→Prop},kU l H K→(∀H' r,CP H H'→K H' r→K' H' r)→kU l H K'
 | [],H,K,K',h,hk=>hk _ _ (CP.refl _) h
 |x::l,H,K,K',h,hk=>by
  have h:sy H x fun H y=>kU l H fun H r=>K H (y::r):=h;exact yf h fun H1 y c1 h1=>jH (l:=l) h1 fun H2 r c2 h2=>hk _ _ (c1.trans c2) h2
theorem qQ{x:Va U}{v:Value}(h:cC (Vw U X w ρ n H) x v):dv x.ag v v.cells.toList:=by
 unfold cC at h;unfold dv;cases hag:x.ag with
 |true=>simp only[hag]at h⊢;obtain⟨vs,rfl,_⟩:=h;simp[Value.cells]
 |false=>
  simp only[hag]at h⊢;have:=h.one v (by simp);cases v<;>first|rfl|(simp[Value.oneCell']at this)
theorem BJ{s:aZ}{x:Va U}{K:Hs U→TT U.ty s→Prop}(h:yg s H x K)(M:bc U X (· =w) ρ n H): ∃H' t,K H' t∧CP H H'∧bc U X (· =w) ρ n H'∧bM ρ n H w ρ n H' w∧ ∀u,cC (Vw U X w ρ n H) x u→aC U (af ρ H'++X) (· =w) s t u.cells.toList:=by
 have h:kU x.l H fun H l=>cl 20 s l fun t=>K H t:=h;obtain⟨H',l',⟨h1,cp⟩,M',s',c'⟩:=fm (jH h fun H' r cp h=>(⟨h,cp⟩:_∧CP H H')) M;obtain⟨t,h2,ht⟩:=bq h1;exact⟨H',t,h2,cp,M',s',fun u hu=>ht _ _ _ _ _ _ (c' _ hu.cells)⟩
omit [am]in
theorem bA{a b:Bool}(h:(a==b)=true):a=b:=by simpa using h
theorem uj{d:KD U}{kv:Va U}{k:TT U.ty d.k}{u:Value}(hk:B7 P U d)(hb:(kv.ag==dR d.k)=true)(hd: ∀vs,bI (Vw U X w ρ n H) kv.l vs→aC U (af ρ H++X) (· =w) d.k k vs)(hv:cC (Vw U X w ρ n H) kv u):u=d.enc k∧ ∃vs,dv (dR d.k) (d.enc k) vs∧aC U (af ρ H++X) (· =w) d.k k vs:=by
 obtain⟨vs,h1,h2⟩:=Qc hv hb;have e:=hk.2.1 _ _ _ _ _ (hd _ h2) h1;exact⟨e,vs,e▸h1,hd _ h2⟩
theorem vz{i g:Nat}{u:Value}(h:Vw U X w ρ n H (.mp i) [u])(hA:(ρ i).A=some ⟨g,0,none⟩):u= .map (some g):=by
 obtain⟨_,_,g',hA',e⟩:=h;rw[hA]at hA';injection hA' with hA';injection hA' with hA';subst hA';simpa using e
abbrev Je(P:Program)(nt:Nat)(U:bG) [am](X:List Nat)(w:World)(ρ:Nat→Rz)(n:Nat)(H:Hs U)(ce:aG)(o:Oper)(K:Hs U→Prop):Prop:=l8 P nt U X w ρ n H ce o fun _ n' H'=>n'=n∧K H'
theorem F8(hpr:am.pr=P){t:Nat}{m kx x:Operand}{c:Cx U}{kv xv:Va U}{u0 u1 u2:Value}{K:Hs U→Prop}(h:GA T t H c kv xv K)(ho:o.op= .mapUpdate t m kx x)(hd:o.dst=none)(hm:ce.ev m=some u0)(hkx:ce.ev kx=some u1)(hx:ce.ev x=some u2)
  (h0:Vw U X w ρ n H c [u0]) (h1:cC (Vw U X w ρ n H) kv u1) (h2:cC (Vw U X w ρ n H) xv u2) (hT:bg U P T) (M:bc U X (· =w) ρ n H):Je P nt U X w ρ n H ce o K:=by
 unfold GA at h;split at h
 ·rename_i i;split at h
  ·rename_i d l hl;cases hb:(wX T t d&&((kv.ag==dR d.k)&&(xv.ag==dR d.v)))with
   |false=>rw[hb]at h;exact h.elim
   |true=>
    rw[hb]at h;simp only[cond_true]at h;simp only[Bool.and_eq_true]at hb;have ht:=oI hb.1 hT;obtain⟨k,h,hkk⟩:=bq h;obtain⟨H',y,hK,cp,M',s',c'⟩:=BJ h M;have hK:=c5 hK;have hl':=cp _ _ rfl hl;obtain⟨hkd,g,es,clock,mv,hA,hM,hD,hw⟩:=M'.ent _ (ak hl');have hkd':=hkd;unfold vO at hkd';rw[hpr]at hkd';obtain⟨rfl,vs,hk1,hk2⟩:=uj hkd' hb.2.1 (fun vs hs=>hkk _ _ _ _ _ _ hs) h1;have e0:=vz h0 hA;subst e0;have hb': ∃vs,dv (dR d.v) u2 vs∧aC U (af ρ H'++X) (· =w) d.v y vs:=⟨_,(bA hb.2.2)▸qQ h2,c' u2 h2⟩;have hset:=aH.set (x:=k) ⟨vs,hk1,aC.mv (s'.mv (X:=X)) hk2⟩ hb' hD;refine @As _ P nt ce o w [(some g,.map es clock)] _ _ _ d.dec d.enc (fun v:Value=>v) t d.kt d.vt g 0 clock m kx x es mv k u2 ho hd hm hkx hx ht hkd'.1 (Hp.one1 (hw w rfl)) rfl hM fun es' clock' w' hM' hp hf=>?_;have hf':Fr (aq ρ (i,(.map d l:aJ U))).toList w w':=by
     have:aq ρ (i,(.map d l:aJ U))=some g:=by show ah (ρ i).A=some g;rw[hA];rfl
     rw[this];exact hf
    have hb0: ∀g',aq (ct ρ i (ρ i)) (i,(.map d (@bL _ _ d.dec l k y):aJ U))=some g'→aq ρ (i,(.map d l:aJ U))=some g'∨w.heap.size≤g':=fun g' h=> .inl (by rw[aY]at h;exact h);have hr0: ∀v' l' m',bk (some (.map d (@bL _ _ d.dec l k y):aJ U))=some (v',l',m')→ ∃v0 l0 m,bk (some (.map d l:aJ U))=some (v0,l0,m)∧v0≤v'∧(v0=v'→ρ i=ρ i∧l'=l0∧m'=m):=fun v' l' m' hr=>by cases hr
    have st:=bM.upd (n:=n) M'.xd M'.nd hl' hf' (ρ i) hb0 hr0 (fun _=>rfl);have M2:=M'.upd hl' hf' (ρ i) hb0 hr0 (fun _=>rfl) ⟨hkd,g,es',clock',_,by rw[aY];exact hA,hM',aH.mv (st.mv (X:=X)) hset,fun w2 h2=>by subst h2;exact hp.at (i:=0) rfl⟩;rw[aY]at st M2;exact⟨.un,n,_,ρ,undef,⟨rfl,hK⟩,by rw[hd];rfl,trivial,M2,s'.trans st⟩
  ·exact h.elim
 ·exact h.elim
theorem uk{i g:Nat}{x y:aJ U}{w':World}(M:bc U X (· =w) ρ n H)(hi:aD H i=some y)(hA:(ρ i).A=some ⟨g,0,none⟩)(hy:aq ρ (i,y)=ah (ρ i).A)(hx:aq ρ (i,x)=none∨aq ρ (i,x)=ah (ρ i).A)(hr:bk (some x)=none)(hf:Fr [g] w w')
  (he:bM ρ n H w ρ n (dQ H i x) w'→lX U (af ρ (dQ H i x)++X) (· =w') ρ n (dQ H i x) i x):bc U X (· =w') ρ n (dQ H i x)∧bM ρ n H w ρ n (dQ H i x) w':=by
 have hf':Fr (aq ρ (i,y)).toList w w':=by rw[hy,hA];exact hf
 have hb0: ∀g',aq (ct ρ i (ρ i)) (i,x)=some g'→aq ρ (i,y)=some g'∨w.heap.size≤g':=fun g' h=>by
  rw[aY]at h;rcases hx with hx|hx
  ·rw[hx]at h;cases h
  ·rw[hy,←hx];exact .inl h
 have hr0: ∀v' l' m',bk (some x)=some (v',l',m')→ ∃v0 l0 m,bk (some y)=some (v0,l0,m)∧v0≤v'∧(v0=v'→ρ i=ρ i∧l'=l0∧m'=m):=fun v' l' m' h=>by rw[hr]at h;cases h
 have st:=bM.upd (n:=n) M.xd M.nd hi hf' (ρ i) hb0 hr0 (fun _=>rfl);rw[aY]at st;have M2:=M.upd hi hf' (ρ i) hb0 hr0 (fun _=>rfl) (by rw[aY];exact he st);rw[aY]at M2;exact⟨M2,st⟩
theorem F9(hpr:am.pr=P){t t':Nat}{m kx:Operand}{c:Cx U}{kv:Va U}{u0 u1:Value}{K:Hs U→Prop}(h:GB T t H c kv K)(ho:o.op= .call {callee:= .builtin .delete,args:= #[m,kx],argTypes:= #[t,t']})(hd:o.dst=none)(hm:ce.ev m=some u0)(hkx:ce.ev kx=some u1)
  (h0:Vw U X w ρ n H c [u0]) (h1:cC (Vw U X w ρ n H) kv u1) (hT:bg U P T) (M:bc U X (· =w) ρ n H):Je P nt U X w ρ n H ce o K:=by
 unfold GB at h;split at h
 ·rename_i i;split at h
  ·rename_i d l hl;cases hb:(wX T t d&&(kv.ag==dR d.k))with
   |false=>rw[hb]at h;exact h.elim
   |true=>
    rw[hb]at h;simp only[cond_true]at h;simp only[Bool.and_eq_true]at hb;have ht:=oI hb.1 hT;obtain⟨k,h,hkk⟩:=bq h;have hK:=c5 h;obtain⟨hkd,g,es,clock,mv,hA,hM,hD,hw⟩:=M.ent _ (ak hl);have hkd':=hkd;unfold vO at hkd';rw[hpr]at hkd';obtain⟨rfl,vs,hk1,hk2⟩:=uj hkd' hb.2 (fun vs hs=>hkk _ _ _ _ _ _ hs) h1;have e0:=vz h0 hA;subst e0;refine @qF _ P nt ce o w _ _ _ d.enc (fun v:Value=>v) es mv d.dec t t' d.kt d.vt g clock m kx k ho hd hm hkx ht hkd'.1 (hw w rfl) hM fun es' w' hM' _ hp hf=>?_;obtain⟨M2,st⟩:=uk (x:= .map d (@fV _ _ d.dec l k)) M hl hA rfl (.inr rfl) rfl hf fun st=>⟨hkd,g,es',clock,_,hA,hM',aH.mv (st.mv (X:=X)) hD.del,fun w2 h2=>by subst h2;exact hp⟩;exact⟨.un,n,_,ρ,undef,⟨rfl,hK⟩,by rw[hd];rfl,trivial,M2,st⟩
  ·rename_i d l left cur gh hl;cases hb:(wX T t d&&(kv.ag==dR d.k))with
   |false=>rw[hb]at h;exact h.elim
   |true=>
    rw[hb]at h;simp only[cond_true]at h;simp only[Bool.and_eq_true]at hb;have ht:=oI hb.1 hT;obtain⟨k,h,hkk⟩:=bq h;have hK:=c5 h;obtain⟨hkd,g,es,clock,mv,lv,cv,hA,hM,hD,hL,hC,hw⟩:=M.ent _ (ak hl);have hkd':=hkd;unfold vO at hkd';rw[hpr]at hkd';obtain⟨rfl,vs,hk1,hk2⟩:=uj hkd' hb.2 (fun vs hs=>hkk _ _ _ _ _ _ hs) h1;have e0:=vz h0 hA;subst e0;refine @qF _ P nt ce o w _ _ _ d.enc (fun v:Value=>v) es mv d.dec t t' d.kt d.vt g clock m kx k ho hd hm hkx ht hkd'.1 (hw w rfl) hM.ok fun es' w' _ hR hp hf=>?_;obtain⟨M2,st⟩:=uk (x:= .mapr d (@fV _ _ d.dec l k) (@fV _ _ d.dec left k) [] gh) M hl hA rfl (.inr rfl) rfl hf fun st=>⟨hkd,g,es',clock,_,_,[],hA,hR _ _ _ hM,aH.mv (st.mv (X:=X)) hD.del,aH.mv (st.mv (X:=X)) hL.del,trivial,fun w2 h2=>by subst h2;exact hp⟩;exact⟨.un,n,_,ρ,undef,⟨rfl,hK⟩,by rw[hd];rfl,trivial,M2,st⟩
  ·exact h.elim
 ·exact h.elim
theorem Ga{t:Nat}{x:Operand}{c:Cx U}{u0:Value}{K:Hs U→Prop}(h:GC T t H n c K)(ho:o.op= .range t x){dd:Nat}(hd:o.dst=some dd)(hn:Nat.blt dd nt=true)(hx:ce.ev x=some u0)(h0:Vw U X w ρ n H c [u0])(hT:bg U P T)(M:bc U X (· =w) ρ n H):
  l8 P nt U X w ρ n H ce o fun av n' H'=>av= .v ⟨false,[(1,.ptr n 0)]⟩∧n'=n+1∧K H':=by
 unfold GC at h;split at h
 ·rename_i i;split at h
  ·rename_i d l hl;cases hb:wX T t d with
   |false=>rw[hb]at h;exact h.elim
   |true=>
    rw[hb]at h;simp only[cond_true]at h;have ht:=oI hb hT;obtain⟨hkd,g,es,clock,mv,hA,hM,hD,hw⟩:=M.ent _ (ak hl);have e0:=vz h0 hA;subst e0;refine Ae ho hd hn hx ht (hw w rfl) hM fun r w' gh hR hr hf hsz=>?_;have hK:=c5 (h gh);have hin:=M.lt _ (ak hl);have hni: ¬n=i:=by have:i<n:=hin;omega
    have hb0: ∀g',aq (ct ρ n ⟨some ⟨r,0,none⟩,0⟩) (n,(.it i gh:aJ U))=some g'→w.heap.size≤g':=fun g' h=>by
     have h:ah (ct ρ n ⟨some ⟨r,0,none⟩,0⟩ n).A=some g':=h;rw[aO]at h;injection h with h;subst h;exact hsz
    have st:=bM.push (ρ:=ρ) M.xd M.lt hf ⟨some ⟨r,0,none⟩,0⟩ (.it i gh:aJ U) hb0;have hl':aD ((n,(.it i gh:aJ U))::H) i=some (.map d l):=by unfold aD;rw[cg hni];exact hl
    have M1:=M.push hf _ _ hb0 ⟨r,g,by rw[aO],by rw[gc hni];exact hA,Nat.lt_succ_of_lt hin,by rw[hl'];rfl,fun w2 h2=>by subst h2;exact hr⟩;have hA':(ct ρ n ⟨some ⟨r,0,none⟩,0⟩ i).A=some ⟨g,0,none⟩:=by rw[gc hni];exact hA
    have hbk:w'.heap[g]? =some (.map es clock):=by rw[hf.block g (bZ (hw w rfl)) (by simp)];exact hw w rfl
    obtain⟨M2,st2⟩:=uk (x:= .mapr d l l [] gh) M1 hl' hA' rfl (.inr rfl) rfl ((Fr.refl [] w').mono (by simp)) fun st2=>⟨hkd,g,es,clock,mv,mv,[],hA',hR,aH.mv ((st.trans st2).mv (X:=X)) hD,aH.mv ((st.trans st2).mv (X:=X)) hD,trivial,fun w2 h2=>by subst h2;exact hbk⟩;have eH:dQ ((n,(.it i gh:aJ U))::H) i (.mapr d l l [] gh)=(n,.it i gh)::dQ H i (.mapr d l l [] gh):=by
     show(bif Nat.beq n i then _ else _)=_
     rw[cg hni];rfl
    rw[eH]at M2 st2;refine⟨_,n+1,_,_,_,⟨rfl,rfl,hK⟩,aG.dstS hd _,gu ⟨Nat.lt_succ_self _,by rw[nS];rfl,r,by rw[aO],rfl⟩,M2,st.trans st2⟩
  ·exact h.elim
 ·exact h.elim
theorem Gb{x:Operand}{c:Cx U}{u0:Value}{K:AV U→Hs U→Prop}(h:GD H c K)(ho:o.op= .next x false){dd:Nat}(hd:o.dst=some dd)(hn:Nat.blt dd nt=true)(hx:ce.ev x=some u0)(h0:Vw U X w ρ n H c [u0])(M:bc U X (· =w) ρ n H):
  l8 P nt U X w ρ n H ce o fun av n' H'=>n'=n∧K av H':=by
 unfold GD at h;split at h
 ·rename_i j;split at h
  ·rename_i i gh hj;split at h
   ·rename_i d l left cur gh' hi;obtain⟨rfl,h2,h3⟩:=h;obtain⟨r,g,hA,hA2,hk,hrk,hwr⟩:=M.ent _ (ak hj);obtain⟨hkd,g',es,clock,mv,lv,cv,hA3,hM,hD,hL,hC,hw⟩:=M.ent _ (ak hi);rw[hA2]at hA3;injection hA3 with hA3;injection hA3 with hA3;subst hA3;have e0:u0= .pointer (some ⟨r,0,none⟩):=by
     obtain⟨_,_,g',hA',e⟩:=h0;rw[hA]at hA';injection hA' with hA';injection hA' with hA';subst hA';simpa using e
    subst e0;have hij: ¬j=i:=by rintro rfl;rw[hj]at hi;cases hi
    have hrg:r≠g:=by
     rintro rfl;exact hij (M.inj (j,.it i gh) (ak hj) (i,.mapr d l left cur gh) (ak hi) r (show ah (ρ j).A=some r by rw[hA];rfl) (show ah (ρ i).A=some r by rw[hA2];rfl))
    have hup: ∀y:aJ U,aD (dQ H j y) i=some (.mapr d l left cur gh):=fun y=>by rw[fH ⟨_,hj⟩,if_neg hij];exact hi
    refine DD ho hd hn hx (hwr w rfl) (hw w rfl) hM (fun e=>?_) (fun a p b gh2 w' e hR hr2 hf=>?_)
    ·subst e;have el:left= []:=List.eq_nil_of_length_eq_zero (by rw[hL.len];rfl);have hK:=c5 (c5 (h2 el));obtain⟨M1,kV⟩:=uk (x:= .dead) M hj hA rfl (.inl rfl) rfl ((Fr.refl [] w).mono (by simp)) fun _=>trivial;obtain⟨M2,st2⟩:=uk (x:= .map d l) M1 (hup _) hA2 rfl (.inr rfl) rfl ((Fr.refl [] w).mono (by simp)) fun st2=>⟨hkd,g,es,clock,mv,hA2,hM.ok,aH.mv ((kV.trans st2).mv (X:=X)) hD,fun w2 h2=>by subst h2;exact hw _ rfl⟩;exact⟨_,n,_,ρ,_,⟨rfl,hK⟩,aG.dstS hd _,⟨[_],rfl,_,[],rfl,lM,rfl⟩,M2,kV.trans st2⟩
    ·subst e;obtain⟨a',p',b',e,e2,e5,e3,e4⟩:=hL.part;have hK:=c5 (c5 (h3 a' p' b' e gh2));have hbk:w'.heap[g]? =some (.map es clock):=by rw[hf.block g (bZ (hw w rfl)) (by simpa using Ne.symm hrg)];exact hw w rfl
     obtain⟨M1,kV⟩:=uk (x:= .it i gh2) M hj hA rfl (.inr rfl) rfl hf fun st=>⟨r,g,hA,hA2,hk,by rw[hup];rfl,fun w2 h2=>by subst h2;exact hr2⟩;obtain⟨ks,k1,k2⟩:=e5;obtain⟨vs,v1,v2⟩:=e3;obtain⟨M2,st2⟩:=uk (x:= .mapr d l (a'++b') [p'] gh2) M1 (hup _) hA2 rfl (.inr rfl) rfl ((Fr.refl [] w').mono (by simp)) fun st2=>⟨hkd,g,es,clock,mv,_,[p],hA2,hR,aH.mv ((kV.trans st2).mv (X:=X)) hD,aH.mv ((kV.trans st2).mv (X:=X)) e4,⟨e2,⟨ks,k1,aC.mv ((kV.trans st2).mv (X:=X)) k2⟩,⟨vs,v1,aC.mv ((kV.trans st2).mv (X:=X)) v2⟩,trivial⟩,fun w2 h2=>by subst h2;exact hbk⟩;have mm:=(kV.trans st2).mv (X:=X);refine⟨_,n,_,ρ,_,⟨rfl,hK⟩,aG.dstS hd _,⟨[_,_,_],rfl,_,_,rfl,lM,_,_,rfl,ko (e2▸k1) (aC.mv mm k2),_,_,rfl,ko v1 (aC.mv mm v2),rfl⟩,M2,kV.trans st2⟩
   ·exact h.elim
  ·exact h.elim
 ·exact h.elim
end
end Go.Proofs.YtmpeiadlohbikaaGreatDoor.V
end

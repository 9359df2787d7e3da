/- Maps are changed, and gone over. -/
import Derived.Test.YtiliglahlfkikaaGreatDoorYa6
section
set_option linter.unusedVariables false
set_option linter.unusedSimpArgs false
namespace Go.Proofs.YtiliglahlfkikaaGreatDoor.V
open Go.RowKit
section
variable [ao] {U:bH} {P:Program} {nt:Nat} {T:cZ U} {X:List Nat} {S:World→Prop} {ρ:Nat→Rz} {n:Nat} {H:Hs U} {R e:En U} {ce:aG} {p:cL} {o:Oper} {Y:List Nat} {g:Prop→Prop}
omit [ao]in
theorem Eo{k:IntKind}{a b:Int}(h:dy k a)(h':dy k b):dy k (max a b):=by rw[Int.max_def];split<;>assumption
omit [ao]in
theorem Ep{k:IntKind}{a b:Int}(h:dy k a)(h':dy k b):dy k (min a b):=by rw[Int.min_def];split<;>assumption
omit [ao]in
theorem CG{x y:Operand}{t u:Nat}{k:IntKind}{p q:Int}(ho:o.op= .call {callee:= .builtin .min,args:= #[x,y],argTypes:= #[t,u]})(hx:ce.ev x=some (.int k p))(hy:ce.ev y=some (.int k q)):ch P nt ce S o (.int k (min p q)):=fun a r w _=>by
 refine dD ho (r.eval hx) (r.eval hy) fun c=>?_;have e:(if q<p then q else p)=min p q:=by simp only[Int.min_def];split<;>split<;>omega
 simp[builtin,Builtin.min_,Builtin.min2,←e]
omit [ao]in
theorem bS.nth{V:Cx U→List Value→Prop}: ∀{l:List (Va U)} {us:List Value} {i:Nat} {x:Va U},bS V l us→df l i=some x→ ∃u,us[i]? =some u∧cx V x u
 | [],us,i,x,h,hi=>by cases i<;>cases hi
 |y::r,us,0,x,h,hi=>by
  obtain⟨v,us',rfl,h1,_⟩:=h;injection hi with hi;subst hi;exact⟨v,rfl,h1⟩
 |y::r,us,i+1,x,h,hi=>by
  obtain⟨v,us',rfl,_,h2⟩:=h;obtain⟨u,hu,hv⟩:=bS.nth h2 (i:=i) hi;exact⟨u,hu,hv⟩
omit [ao]in
theorem Aq{t:Nat}{x:Operand}{A:Addr}{u:Value}(ho:o.op= .load t x)(hx:ce.ev x=some (.pointer (some A)))(h: ∀w,S w→(loadVar t A).run P w= .ok u w):ch P nt ce S o u:=fun a r w hS=>by
 unfold execOp;simp[ho,r.eval hx,Instr.loadAt,Instr.sureAddr,h w hS]
omit [ao]in
theorem mO{α:Type}{a:Array α}{l:List α}(h:a.toList=l):a=l.toArray:=by rw[←h]
omit [ao]in
theorem kp{c:Call}{b:Builtin}{xs:List Operand}{ts:List TypeId}(h1:c.callee= .builtin b)(h2:c.args.toList=xs)(h3:c.argTypes.toList=ts):c={callee:= .builtin b,args:=xs.toArray,argTypes:=ts.toArray}:=by
 obtain⟨a,b',c'⟩:=c;simp only at h1 h2 h3;rw[h1,mO h2,mO h3]
theorem wU: ∀{l:List (Va U)} {K:List Nat→Prop},Jl l K→ ∃js,K js∧ ∀vs,bS (ba U Y S ρ n H) l vs→vs=js.map (fun j=>Value.pointer (ρ j).A)∧ ∀j∈js,j<n∧bf (aB H j)=none∧ ∃g,(ρ j).A=some ⟨g,0,none⟩
 | [],K,h=>⟨[],h,fun vs hv=>⟨hv,fun j hj=>by cases hj⟩⟩
 |x::l,K,h=>by
  have h:(match (generalizing:=false) x with
   |⟨false,(_,.ptr j 0):: []⟩=>Jl l fun r=>K (j::r)
   |_=>False):=h
  split at h
  ·rename_i k j _;obtain⟨js,h,hj⟩:=wU (l:=l) h;refine⟨_,h,fun vs hv=>?_⟩;obtain⟨v,us,rfl,h1,h2⟩:=hv;obtain⟨hi,hr,g,hA,e⟩:=(show bJ _ [(k,.ptr j 0)] [v]from h1).one1.1;injection e with e;obtain⟨e2,h3⟩:=hj us h2;refine⟨by rw[e2,e,List.map_cons,hA],fun i hi2=>?_⟩;rcases List.mem_cons.1 hi2 with rfl|hi2
   ·exact⟨hi,hr,g,hA⟩
   ·exact h3 i hi2
  ·exact h.elim
omit [ao]in
theorem MA{V:Cx U→List Value→Prop}{x:Va U}{u:Value}{b:Bool}(h:cx V x u)(hb:(x.ag==b)=true): ∃vs,dg b u vs∧bJ V x.l vs:=by
 have e:x.ag=b:=by simpa using hb
 subst e;unfold cx at h;unfold dg;cases hx:x.ag with
 |true=>rw[hx]at h;obtain⟨vs,e,hs⟩:=h;exact⟨vs,e,hs⟩
 |false=>rw[hx]at h;exact⟨[u],rfl,h⟩
theorem jr{s:aY}{y:TT U.ty s}{u:Value}{vs:List Value}(h:dg (dI s) u vs)(hd:aC U Y S s y vs):cx (ba U Y S ρ n H) (qz s y) u:=by
 unfold cx qz;unfold dg at h;have hs:bJ (ba U Y S ρ n H) [(aI U s,.d s y)] vs:=⟨vs,[],by simp,hd.length,hd,rfl⟩;cases hx:dI s with
 |true=>rw[hx]at h;exact⟨vs,h,hs⟩
 |false=>rw[hx]at h;simp only at h;subst h;exact hs
theorem wV(hpr:ao.pr=P){t:Nat}{m kx:Operand}{ok:Bool}{K:AV U→Prop}(ho:o.op= .lookup t m kx ok)(h:ic p R e m fun c=>ka p R e kx fun kv=>wq H c fun d l=>bif uX T t d&&(kv.ag==dI d.k)then cJ 20 d.k kv.l fun k=>Gq ok d (@cF _ _ d.dec l k) K else False)(hT:bm U P T)(M:bh U X S ρ n H)(he:aS (ba U (ak ρ H++X) S ρ n H) R e ce):
  match ok with
  |false=> ∃x,K (.v x)∧oa P nt ce S o (bg R e p) (ba U (ak ρ H++X) S ρ n H) x
  |true=> ∃l,K (.tup l)∧(bg R e p→ ∃us:List Value,ch P nt ce S o (.tuple us.toArray)∧bS (ba U (ak ρ H++X) S ρ n H) l us):=by
 obtain⟨c,h,hc⟩:=bB h he;obtain⟨kv,h,hk⟩:=cV h he;obtain⟨d,l,h,hkd,g,es,clock,mv,hM,hD,hw,hcv⟩:=tY h M;cases hb:(uX T t d&&(kv.ag==dI d.k))with
 |false=>rw[hb]at h;exact h.elim
 |true=>
  rw[hb]at h;simp only[cond_true]at h;simp only[Bool.and_eq_true]at hb;have ht:=mN hb.1 hT;obtain⟨k,h,hkk⟩:=bq h
  letI:=d.dec
  unfold sA at hkd;rw[hpr]at hkd;obtain⟨L,henc,z,hz,hz0⟩:=hkd;have key:bg R e p→ce.ev m=some (.map (some g))∧ce.ev kx=some (d.enc k):=fun hp=>by
   obtain⟨u,e1,h1⟩:=hc hp;obtain⟨q,e2,h2⟩:=hk hp;obtain⟨vs,h3,h4⟩:=MA h2 hb.2;have e3:=hcv u h1;have e4:=henc _ _ k vs q (hkk _ _ _ _ _ _ h4) h3;rw[e1,e2,e3,e4];exact⟨rfl,rfl⟩
  have val: ∃vs,dg (dI d.v) ((cF mv k).getD z) vs∧aC U (ak ρ H++X) S d.v ((cF l k).getD d.zero) vs:=by
   rcases hD.get k with⟨h1,h2⟩|⟨y,u,h1,h2,h3⟩
   ·rw[h1,h2];exact hz0 _ _
   ·rw[h1,h2];exact h3
  have som:(cF mv k).isSome=(cF l k).isSome:=by
   rcases hD.get k with⟨h1,h2⟩|⟨y,u,h1,h2,h3⟩
   ·rw[h1,h2];rfl
   ·rw[h1,h2];rfl
  obtain⟨vs,hv1,hv2⟩:=val;have wb: ∀w,S w→Hp w [(some g,.map es clock)]:=fun w hS=>Hp.one1 (hw w hS);cases ok with
  |false=>
   refine⟨_,h,fun hp=>?_⟩;obtain⟨e1,e2⟩:=key hp;exact⟨_,vU (ev:=fun v:Value=>v) ho e1 e2 ht L hz wb (i:=0) rfl hM,jr hv1 hv2⟩
  |true=>
   refine⟨_,h,fun hp=>?_⟩;obtain⟨e1,e2⟩:=key hp;refine⟨[_,_],rQ (ev:=fun v:Value=>v) ho e1 e2 ht L hz wb (i:=0) rfl hM,_,_,rfl,jr hv1 hv2,_,_,rfl,?_,rfl⟩;rw[som];exact ko
omit [ao]in
theorem Er{x:Operand}{K:AV U→Prop}(h:Jm p R e x K):ka p R e x (fun v=>K (.v v))∨ ∃t l,x= .tmp t∧aB R t=none∧aB e t=some (.tup l)∧K (.tup l):=by
 unfold Jm at h;split at h
 ·rename_i t;unfold ka;simp only;split at h
  ·rename_i q y hR;rw[hR];exact .inl h
  ·exact h.elim
  ·rename_i hR;split at h
   ·rename_i y hy;rw[hR,hy];exact .inl h
   ·rename_i l hy;exact .inr ⟨t,l,rfl,hR,hy,h⟩
   ·exact h.elim
 ·exact .inl h
def oz(o:Oper):Bool:=match o.op with
 | .move _=>true
 | .lookup _ _ _ true=>true
 | .entry _=>true
 |_=>false
theorem wW(hpr:ao.pr=P)(hlo:oz o=false)(hg: ∀A,g A→bg R e p→A){K:AV U→Prop}(h:jH g T p o R e H K)(hT:bm U P T)(M:bh U X S ρ n H)(he:aS (ba U (ak ρ H++X) S ρ n H) R e ce)(hS: ∃w,S w):
  ∃x,K (.v x)∧oa P nt ce S o (bg R e p) (ba U (ak ρ H++X) S ρ n H) x:=by
 unfold jH at h;split at h
 ·rename_i x ho;unfold oz at hlo;rw[ho]at hlo;cases hlo
 ·rename_i x ho;obtain⟨v,hK,hv⟩:=cV h he;exact⟨v,hK,fun hp=>by obtain⟨u,e1,h1⟩:=hv hp;exact⟨u,rT ho e1,h1⟩⟩
 ·rename_i c a b ho;exact Ac h he ho
 ·rename_i t x ho;obtain⟨c,hK,hc⟩:=bB h he;obtain⟨v,hK,hv⟩:=qK hK M hT;exact⟨v,hK,fun hp=>by
   obtain⟨u0,e1,h1⟩:=hc hp;obtain⟨A,u,rfl,h2,h3⟩:=hv u0 h1;exact⟨u,Aq ho e1 h3,h2⟩⟩
 ·rename_i x ho;obtain⟨c,hK,hc⟩:=bB h he;cases hb:Cz H c with
  |false=>rw[hb]at hK;exact hK.elim
  |true=>
   rw[hb]at hK;refine⟨_,hK,fun hp=>?_⟩;obtain⟨u0,e1,h1⟩:=hc hp;have: ∃A,u0= .pointer (some A):=by
    cases c with
    |ptr i f=>obtain⟨_,_,g,_,e2⟩:=h1;exact⟨_,by simpa using e2⟩
    |pd s a=>obtain⟨g,b,us,e2,_⟩:=h1;exact⟨_,by simpa using e2⟩
    |pax i f k s q f'=>obtain⟨_,_,_,_,g,_,e2⟩:=h1;exact⟨_,by simpa using e2⟩
    |pel i v q f=>exact tV h1 hb
    |_=>exact Bool.noConfusion (show false=true from hb)
   obtain⟨A,rfl⟩:=this;exact⟨_,HI ho e1,ga h1⟩
 ·rename_i op t x y u ho;obtain⟨v,hK,hv⟩:=cV h he;obtain⟨w,hK,hw⟩:=cV hK he;exact Ab hg hK ho hT M hS hv hw
 ·rename_i op t x ho;obtain⟨c,hK,hc⟩:=bB h he;split at hK
  ·rename_i b;refine⟨_,hK,fun hp=>?_⟩;obtain⟨u0,e1,h1⟩:=hc hp;have:=aC.boolE h1;subst this;exact⟨_,uO ho e1,ko⟩
  ·rename_i k q _;obtain⟨r,hK,hr⟩:=mK hg hK;refine⟨_,hK,fun hp=>?_⟩;obtain⟨u0,e1,h1⟩:=hc hp;obtain⟨rfl,h2⟩:=aC.intE h1;obtain⟨h3,h4⟩:=hr hp h2 h2;exact⟨_,HA ho e1 ((congrArg _ (Int.zero_sub _)).trans h3),nW h4⟩
  ·exact hK.elim
 ·rename_i t x f ho;obtain⟨c,hK,hc⟩:=bB h he;obtain⟨d,off,hK,hf,hd⟩:=zW (X:=X) (S:=S) (ρ:=ρ) (n:=n) hK hT;exact⟨_,hK,fun hp=>by
   obtain⟨u0,e1,h1⟩:=hc hp;obtain⟨gb,k,rfl,h2⟩:=hd u0 h1;exact⟨_,HJ ho e1 hf,ga h2⟩⟩
 ·rename_i t x f ho;obtain⟨v,hK,hv⟩:=cV h he;cases hag:v.ag with
  |false=>simp only[hag]at hK
  |true=>
   simp only[hag]at hK;exact Al hK ho hT fun hp=>by
    obtain⟨u,e1,h1⟩:=hv hp;exact⟨u,e1,by rw[←hag];exact h1⟩
 ·rename_i t x y ho;obtain⟨c,hK,hc⟩:=bB h he;obtain⟨d,hK,hd⟩:=bB hK he;split at hK
  ·have hy:=fun hp=>show ce.ev y=_ by obtain⟨u,e1,h1⟩:=hd hp;rw[e1,(aC.intE h1).1]
   split at hK
   ·rename_i hA;obtain⟨c',hK,hc'⟩:=Ao hg hK ho hA hT hc hy;exact⟨_,hK,hc'⟩
   ·obtain⟨c',hK,hc'⟩:=Ag hg hK ho hT M hS hc hy;exact⟨_,hK,hc'⟩
  ·exact hK.elim
 ·rename_i t x y ho;obtain⟨v,hK,hv⟩:=cV h he;obtain⟨d,hK,hd⟩:=bB hK he;split at hK
  ·have hy:=fun hp=>show ce.ev y=_ by obtain⟨u,e1,h1⟩:=hd hp;rw[e1,(aC.intE h1).1]
   cases hag:v.ag with
   |true=>
    simp only[hag]at hK;exact Ap hg hK ho hT (fun hp=>by obtain⟨u,e1,h1⟩:=hv hp;exact⟨u,e1,hag▸h1⟩) hy
   |false=>
    simp only[hag]at hK;obtain⟨c,hK,hc⟩:=El hK;exact Af hg hK ho hT (fun hp=>by obtain⟨u,e1,h1⟩:=hv hp;exact⟨u,e1,hc _ h1⟩) hy
  ·exact hK.elim
 ·rename_i t x lo hi ho;obtain⟨c,hK,hc⟩:=bB h he;obtain⟨c',hK,hc'⟩:=Ak hg hK ho hT he hS hc;exact⟨_,hK,hc'⟩
 ·rename_i t m kx ok ho;have hl:=wV (nt:=nt) hpr ho h hT M he;cases ok with
  |false=>exact hl
  |true=>unfold oz at hlo;rw[ho]at hlo;cases hlo
 ·rename_i x ho;unfold oz at hlo;rw[ho]at hlo;cases hlo
 ·rename_i x i ho;split at h
  ·rename_i t;split at h
   ·exact h.elim
   ·rename_i hn;split at h
    ·rename_i l hl;split at h
     ·rename_i v hv;refine⟨v,h,fun _=>?_⟩;obtain⟨us,e1,h1⟩:=he.t _ _ hn hl;obtain⟨u,hu,h2⟩:=h1.nth hv;exact⟨u,rU ho e1 (by simpa using hu),h2⟩
     ·exact h.elim
    ·exact h.elim
  ·exact h.elim
 ·rename_i t ps ho;split at h
  ·rename_i ti hti;split at h
   ·rename_i hkd;have htk:=hT _ _ hti;obtain⟨pls,wb,hp2⟩:=htk.pl hkd;obtain⟨zs,hz,_,hzs⟩:=htk.zero;obtain⟨l,hK,hl⟩:=pg hT hp2 he h;refine⟨_,hK,fun hp=>?_⟩;obtain⟨vs,cells,e1,e2,e3⟩:=hl hp zs (hzs _ _ _ _ _ _);exact⟨_,Bq (ps:=ps.toList) (by simpa using ho) e1 hz wb e2,cells,rfl,e3⟩
   ·rename_i k el hkd;split at h
    ·rename_i ei hei;have hu:P.underlying t=some (.array k el):=by have:=(hT _ _ hti).kd;rw[hkd]at this;exact this
     have hm:=(hT _ _ hei).size;obtain⟨zs,hz,_,hzs⟩:=(hT _ _ hti).zero;obtain⟨l,hK,hl⟩:=pg hT (pls:=(F5 ei.sz el k 0).map fun q=>(q.1,ei.sz)) (fun f off ft hf=>wS (k:=0) hm hf) he h;refine⟨_,hK,fun hp=>?_⟩;obtain⟨vs,cells,e1,e2,e3⟩:=hl hp zs (hzs _ _ _ _ _ _);refine⟨_,yt (ps:=ps.toList) (by simpa using ho) e1 hu hm hz (oy (fun i x hx=>?_) _ _ _ (eJ _ _ _ _ e2)),cells,rfl,e3⟩;have hx:=wT (show((F5 ei.sz el k 0).map fun q=>(q.1,ei.sz))[i]? =some x by simpa using hx);rw[hx,Nat.zero_add]
    ·exact h.elim
   ·exact h.elim
  ·exact h.elim
 ·rename_i f first caps ho
  split at h
  ·rename_i hfi;obtain⟨xs,h,hxs⟩:=ig h he;obtain⟨js,hK,hj⟩:=wU (Y:=ak ρ H++X) (S:=S) (ρ:=ρ) (n:=n) (H:=H) h;refine⟨_,hK,fun hp=>?_⟩;obtain⟨vs,e1,hv⟩:=hxs hp;obtain⟨e2,h3⟩:=hj vs hv;exact⟨_,E5 (fs:= []) (cs:=caps.toList) (vf:= []) (by rw[ho];congr 1;exact mO hfi) rfl e1,ga ⟨by rw[e2],h3⟩⟩
  ·exact h.elim
 ·rename_i s d x ho;obtain⟨c,hK,hc⟩:=bB h he;obtain⟨ks,hK,hks⟩:=ii hK hT;obtain⟨kd,hK,hkd⟩:=ii hK hT;split at hK
  ·rename_i k q k' _ _;have hr: ∃r,K (.v ⟨false,[(1,.d (.int k') r)]⟩)∧(bg R e p→dy k q→k'.wrap q=r∧dy k' r):=by
    rcases hK with⟨h1,h2⟩|h2
    ·exact⟨q,h2,fun hp hq=>by have:=hg _ h1 hp hq;exact⟨pf this,this⟩⟩
    ·exact⟨_,wH h2,fun _ _=>⟨rfl,jp _ _⟩⟩
   obtain⟨r,hK,hr⟩:=hr;refine⟨_,hK,fun hp=>?_⟩;obtain⟨u0,e1,h1⟩:=hc hp;obtain⟨rfl,h2⟩:=aC.intE h1;have hsrc: ∃ds,P.underlying s=some ds:=by cases ks<;>first|exact⟨_,hks⟩|(obtain⟨z,hz⟩:=hks;exact⟨_,hz⟩)
   obtain⟨ds,hds⟩:=hsrc;obtain⟨h3,h4⟩:=hr hp h2;exact⟨_,HS ho e1 hds hkd h3,nW h4⟩
  ·exact hK.elim
 ·rename_i c ho;split at h
  ·rename_i x t h1 h2 h3;obtain⟨a,hK,ha⟩:=bB h he;have hc:=kp h1 h2 h3;obtain⟨r,hK,hr⟩:=Ae hK (by rw[ho,hc]) hT M hS ha;exact⟨_,hK,hr⟩
  ·rename_i x y t u h1 h2 h3;obtain⟨a,hK,ha⟩:=bB h he;obtain⟨b,hK,hb⟩:=bB hK he;have hc:=kp h1 h2 h3;split at hK
   ·rename_i k a k' b _;cases hk:iS k k' with
    |false=>rw[hk]at hK;exact hK.elim
    |true=>
     rw[hk]at hK;have:=kf hk;subst this;refine⟨_,hK,fun hp=>?_⟩;obtain⟨u0,e1,h4⟩:=ha hp;obtain⟨u1,e2,h5⟩:=hb hp;obtain⟨rfl,h6⟩:=aC.intE h4;obtain⟨rfl,h7⟩:=aC.intE h5;exact⟨_,Hr (by rw[ho,hc]) e1 e2,nW (Eo h6 h7)⟩
   ·exact hK.elim
  ·rename_i x y t u h1 h2 h3;obtain⟨a,hK,ha⟩:=bB h he;obtain⟨b,hK,hb⟩:=bB hK he;have hc:=kp h1 h2 h3;split at hK
   ·rename_i k a k' b _;cases hk:iS k k' with
    |false=>rw[hk]at hK;exact hK.elim
    |true=>
     rw[hk]at hK;have:=kf hk;subst this;refine⟨_,hK,fun hp=>?_⟩;obtain⟨u0,e1,h4⟩:=ha hp;obtain⟨u1,e2,h5⟩:=hb hp;obtain⟨rfl,h6⟩:=aC.intE h4;obtain⟨rfl,h7⟩:=aC.intE h5;exact⟨_,CG (by rw[ho,hc]) e1 e2,nW (Ep h6 h7)⟩
   ·exact hK.elim
  ·exact h.elim
 ·exact h.elim
theorem qP(hpr:ao.pr=P)(hg: ∀A,g A→bg R e p→A){K:AV U→Prop}(h:jH g T p o R e H K)(hT:bm U P T)(M:bh U X S ρ n H)(he:aS (ba U (ak ρ H++X) S ρ n H) R e ce)(hS: ∃w,S w):
  ∃x,K x∧(bg R e p→ ∃u,ch P nt ce S o u∧n9 (ba U (ak ρ H++X) S ρ n H) x u):=by
 cases hl:oz o with
 |false=>
  obtain⟨x,a,b⟩:=wW (nt:=nt) hpr hl hg h hT M he hS;exact⟨.v x,a,b⟩
 |true=>
  unfold oz at hl;split at hl
  ·rename_i x ho;unfold jH at h;rw[ho]at h;rcases Er h with h|⟨t,l,rfl,hR,hl,hK⟩
   ·obtain⟨v,hK,hv⟩:=cV h he;exact⟨_,hK,fun hp=>by obtain⟨u,e1,h1⟩:=hv hp;exact⟨u,qg ho e1,h1⟩⟩
   ·refine⟨_,hK,fun hp=>?_⟩;obtain⟨us,e1,h1⟩:=he.t t l hR hl;exact⟨_,qg ho (show ce.ev (.tmp t)=some _ from e1),us,rfl,h1⟩
  ·rename_i t m kx ho;unfold jH at h;rw[ho]at h;obtain⟨l,a,b⟩:=wV (nt:=nt) (ok:=true) hpr ho h hT M he;exact⟨.tup l,a,fun hp=>by obtain⟨us,b1,b2⟩:=b hp;exact⟨_,b1,us,rfl,b2⟩⟩
  ·rename_i x ho;unfold jH at h;rw[ho]at h;obtain⟨c,h,hc⟩:=bB h he;split at h
   ·rename_i j;split at h
    ·rename_i i gh hj;split at h
     ·rename_i d l left q gh' hi;obtain⟨rfl,hK⟩:=h;obtain⟨r,g,hA,hA2,hk,hrk,hwr⟩:=M.ent _ (al hj);obtain⟨hkd,g',es,clock,mv,lv,cv,hA3,hM,hD,hL,hC,hw⟩:=M.ent _ (al hi);rw[hA2]at hA3;injection hA3 with hA3;injection hA3 with hA3;subst hA3;refine⟨_,hK,fun hp=>?_⟩;obtain⟨u0,e1,h1⟩:=hc hp;have e0:u0= .pointer (some ⟨r,0,none⟩):=by
       obtain⟨_,_,g',hA',e⟩:=h1;rw[hA]at hA';injection hA' with hA';injection hA' with hA';subst hA';simpa using e
      subst e0;match cv,hC,hM with
      |(k,u):: [],⟨e2,⟨ks,k1,k2⟩,⟨vs,v1,v2⟩,_⟩,hM=>
       exact⟨_,rJ (p:=(k,u)) ho e1 hwr hw hM,[_,_],rfl,_,_,rfl,jr (e2▸k1) k2,_,_,rfl,jr v1 v2,rfl⟩
     ·exact h.elim
    ·exact h.elim
   ·exact h.elim
  ·cases hl
end
end Go.Proofs.YtiliglahlfkikaaGreatDoor.V
end

section
set_option linter.unusedVariables false
set_option linter.unusedSimpArgs false
namespace Go.Proofs.YtiliglahlfkikaaGreatDoor.V
open Go.RowKit
section
variable [ao] {U:bH} {X:List Nat} {ρ ρ':Nat→Rz} {n n':Nat} {H H':Hs U} {w w':World}
structure co(ρ:Nat→Rz)(n:Nat)(H:Hs U)(w:World)(ρ':Nat→Rz)(n':Nat)(H':Hs U)(w':World):Prop where
 xd: ∀g∈ak ρ H,g∉ao.xf
 nn:n≤n'
 fr:Fr (ak ρ H) w w'
 nb: ∀g∈ak ρ' H',g∈ak ρ H∨w.heap.size≤g
 row: ∀i,i<n→ ∀v' l' m',bf (aB H' i)=some (v',l',m')→ ∃v l m,bf (aB H i)=some (v,l,m)∧v≤v'∧(v=v'→ρ' i=ρ i∧l'=l∧m'=m)
 cel: ∀i,i<n→bf (aB H i)=none→ρ' i=ρ i
theorem bh.xd{S:World→Prop}(M:bh U X S ρ n H): ∀g∈ak ρ H,g∉ao.xf:=fun g hg hx=>M.dj g hg (M.xs g hx)
theorem bh.gY{S:World→Prop}(M:bh U X S ρ n H): ∀z∈gB,z∈ak ρ H++X:=fun z hz=>List.mem_append_right _ (M.xs z (M.gv.1 z hz))
theorem bh.stp0(M:bh U X (· =w) ρ n H):co ρ n H w ρ n H w:=
 ⟨M.xd,Nat.le_refl _,Fr.refl _ _,fun _ h=> .inl h,fun i hi v' l' m' h=>⟨v',l',m',h,Nat.le_refl _,fun _=>⟨rfl,rfl,rfl⟩⟩,fun _ _ _=>rfl⟩
theorem co.trans{ρ2:Nat→Rz}{n2:Nat}{H2:Hs U}{w2:World}(a:co ρ n H w ρ' n' H' w')(b:co ρ' n' H' w' ρ2 n2 H2 w2):co ρ n H w ρ2 n2 H2 w2:=by
 refine⟨a.xd,Nat.le_trans a.nn b.nn,a.fr.step b.fr a.nb,fun g hg=>?_,fun i hi v2 l2 m2 h2=>?_,fun i hi h=>?_⟩
 ·rcases b.nb g hg with h|h
  ·exact a.nb g h
  ·exact .inr (Nat.le_trans a.fr.size h)
 ·obtain⟨v1,l1,m1,h1,hle,heq⟩:=b.row i (by have:=a.nn;omega) v2 l2 m2 h2;obtain⟨v0,l0,m0,h0,hle0,heq0⟩:=a.row i hi v1 l1 m1 h1;refine⟨v0,l0,m0,h0,Nat.le_trans hle0 hle,fun he=>?_⟩;obtain⟨a1,a2,a3⟩:=heq (by omega);obtain⟨b1,b2,b3⟩:=heq0 (by omega);exact⟨a1.trans b1,a2.trans b2,a3.trans b3⟩
 ·have h1:bf (aB H' i)=none:=by
   cases hr:bf (aB H' i)with
   |none=>rfl
   |some x=>obtain⟨v,l,m,h0,_⟩:=a.row i hi _ _ _ hr;rw[h]at h0;cases h0
  rw[b.cel i (by have:=a.nn;omega) h1,a.cel i hi h]
theorem co.mv(s:co ρ n H w ρ' n' H' w'):Mv (ak ρ H++X) (· =w) (ak ρ' H'++X) (· =w'):=fun w2 h2=>by
 subst h2;refine⟨w,_,rfl,s.fr,fun x hx=>⟨List.mem_append_left _ hx,s.xd x hx⟩,fun y hy=>?_⟩;rcases List.mem_append.1 hy with hy|hy
 ·rcases s.nb y hy with h|h
  ·exact .inl (List.mem_append_left _ h)
  ·exact .inr h
 ·exact .inl (List.mem_append_right _ hy)
theorem mF.step(s:co ρ n H w ρ' n' H' w'){i v:Nat}(hi:i<n){Q Q':Nat→Nat→Prop}(h:mF H i v Q)(hQ: ∀l m,ρ' i=ρ i→Q l m→Q' l m):mF H' i v Q':=fun v' l m hr=>by
 obtain⟨v0,l0,m0,h0,hle,heq⟩:=s.row i hi _ _ _ hr;obtain⟨h1,h2⟩:=h _ _ _ h0;refine⟨Nat.le_trans h1 hle,fun e=>?_⟩;obtain⟨a1,a2,a3⟩:=heq (by omega);subst a2;subst a3;exact hQ _ _ a1 (h2 (by omega))
theorem ba.step(s:co ρ n H w ρ' n' H' w'){x:Cx U}{vs:List Value}(h:ba U (ak ρ H++X) (· =w) ρ n H x vs):ba U (ak ρ' H'++X) (· =w') ρ' n' H' x vs:=by
 have m:=s.mv (X:=X);cases x with
 |d sh t=>exact aC.mv m h
 |own i v=>
  obtain⟨hi,A,l,c,e,hn⟩:=h;exact⟨Nat.lt_of_lt_of_le hi s.nn,A,l,c,e,hn.step s hi fun l m hr ⟨a,b,c⟩=>⟨by rw[hr];exact a,b,by rw[hr];exact c⟩⟩
 |ptr i off=>
  obtain⟨hi,hr,g,hA,e⟩:=h;refine⟨Nat.lt_of_lt_of_le hi s.nn,?_,g,by rw[s.cel i hi hr];exact hA,e⟩;cases hr':bf (aB H' i)with
  |none=>rfl
  |some y=>obtain⟨v,l,m,h0,_⟩:=s.row i hi _ _ _ hr';rw[hr]at h0;cases h0
 |pax i off k sh q o=>
  obtain⟨hi,hr,h0,h1,g,hA,e⟩:=h;refine⟨Nat.lt_of_lt_of_le hi s.nn,?_,h0,h1,g,by rw[s.cel i hi hr];exact hA,e⟩;cases hr':bf (aB H' i)with
  |none=>rfl
  |some y=>obtain⟨v,l,m,h0,_⟩:=s.row i hi _ _ _ hr';rw[hr]at h0;cases h0
 |pel i v q off=>
  obtain⟨hi,a,e,hn⟩:=h;exact⟨Nat.lt_of_lt_of_le hi s.nn,a,e,hn.step s hi fun l m hr ⟨g,hA,r⟩=>⟨g,by rw[hr];exact hA,r⟩⟩
 |pd sh t=>
  obtain⟨g,b,us,e,hd,hr⟩:=h;exact⟨g,b,us,e,aC.mv m hd,hr.mv m⟩
 |nilp=>exact h
 |nils=>exact h
 |nilf=>exact h
 |nilm=>exact h
 |fn f=>exact h
 |clo f js=>
  obtain⟨e,hj⟩:=h;refine⟨e.trans ?_,fun j hjm=>?_⟩
  ·rw[List.map_congr_left (g:=fun j=>Value.pointer (ρ' j).A) fun j hjm=>by rw[s.cel j (hj j hjm).1 (hj j hjm).2.1]]
  ·obtain⟨hi,hr,g,hA⟩:=hj j hjm;refine⟨Nat.lt_of_lt_of_le hi s.nn,?_,g,by rw[s.cel j hi hr];exact hA⟩;cases hr':bf (aB H' j)with
   |none=>rfl
   |some y=>obtain⟨v,l,m,h0,_⟩:=s.row j hi _ _ _ hr';rw[hr]at h0;cases h0
 |f1 a g=>obtain⟨u,e,hf⟩:=h;exact⟨u,e,hf.mv m⟩
 |f2 a b g=>obtain⟨u,e,hf⟩:=h;exact⟨u,e,hf.mv m⟩
 |mp i=>
  obtain⟨hi,hr,g,hA,e⟩:=h;refine⟨Nat.lt_of_lt_of_le hi s.nn,?_,g,by rw[s.cel i hi hr];exact hA,e⟩;cases hr':bf (aB H' i)with
  |none=>rfl
  |some y=>obtain⟨v,l,m,h0,_⟩:=s.row i hi _ _ _ hr';rw[hr]at h0;cases h0
 |un=>exact h
omit [ao]in
theorem bJ.imp{V V':Cx U→List Value→Prop}(h: ∀x vs,V x vs→V' x vs): ∀{l:List (bO U)} {vs:List Value},bJ V l vs→bJ V' l vs
 | [],vs,hs=>hs
 |(k,x)::r,vs,hs=>by obtain⟨v1,v2,e,hl,hx,hr⟩:=hs;exact⟨v1,v2,e,hl,h _ _ hx,bJ.imp h hr⟩
omit [ao]in
theorem cx.imp{V V':Cx U→List Value→Prop}(h: ∀x vs,V x vs→V' x vs){x:Va U}{v:Value}(hv:cx V x v):cx V' x v:=by
 unfold cx at*;split at hv
 ·obtain⟨vs,e,hs⟩:=hv;exact⟨vs,e,hs.imp h⟩
 ·exact hv.imp h
omit [ao]in
theorem bS.imp{V V':Cx U→List Value→Prop}(h: ∀x vs,V x vs→V' x vs): ∀{l:List (Va U)} {vs:List Value},bS V l vs→bS V' l vs
 | [],vs,hs=>hs
 |x::r,vs,hs=>by obtain⟨v,us,e,hx,hr⟩:=hs;exact⟨v,us,e,hx.imp h,bS.imp h hr⟩
omit [ao]in
theorem aS.imp{V V':Cx U→List Value→Prop}(h: ∀x vs,V x vs→V' x vs){R e:En U}{ce:aG}(he:aS V R e ce):aS V' R e ce:=
 ⟨fun k x h1 h2=>by obtain⟨u,a,b⟩:=he.v k x h1 h2;exact⟨u,a,b.imp h⟩,fun k l h1 h2=>by obtain⟨u,a,b⟩:=he.t k l h1 h2;exact⟨u,a,b.imp h⟩,
  fun k p x h1=>by obtain⟨u,a,b,c⟩:=he.g k p x h1;exact⟨u,a,fun hp=>(b hp).imp h,c⟩⟩
theorem aS.step(s:co ρ n H w ρ' n' H' w'){R e:En U}{ce:aG}(he:aS (ba U (ak ρ H++X) (· =w) ρ n H) R e ce):aS (ba U (ak ρ' H'++X) (· =w') ρ' n' H') R e ce:=he.imp fun _ _ h=>h.step s
theorem kj.step(s:co ρ n H w ρ' n' H' w'){i:Nat}{x:aJ U}(h:kj U (ak ρ H++X) (· =w) ρ n H i x)(hr:ρ' i=ρ i)(hb: ∀g,aq ρ (i,x)=some g→w'.heap[g]? =w.heap[g]?):kj U (ak ρ' H'++X) (· =w') ρ' n' H' i x:=by
 have m:=s.mv (X:=X);cases x with
 |cells l t=>
  obtain⟨g,vs,hA,hs,hw⟩:=h;refine⟨g,vs,by rw[hr];exact hA,hs.imp fun _ _ h=>h.step s,fun w2 h2=>?_⟩;subst h2;rw[hb g (show ah (ρ i).A=some g by rw[hA];rfl)];exact hw w rfl
 |row v e xs t=>
  obtain⟨hm,cs,sp,hd,ho,hw⟩:=h;refine⟨hm,cs,sp,aN.mv m hd,by rw[hr];exact ho,fun g hg w2 h2=>?_⟩;subst h2;rw[hr]at hg;rw[hb g hg];exact hw g hg w rfl
 |frz v e xs=>
  obtain⟨hm,cs,hd,hrd,h1,h2⟩:=h;exact⟨hm,cs,aN.mv m hd,by rw[hr];exact hrd.mv m,by rw[hr];exact h1,by rw[hr];exact h2⟩
 |map d l=>
  obtain⟨hk,g,es,clock,mv,hA,hm,hd,hw⟩:=h;refine⟨hk,g,es,clock,mv,by rw[hr];exact hA,hm,ax.mv m hd,fun w2 h2=>?_⟩;subst h2;rw[hb g (show ah (ρ i).A=some g by rw[hA];rfl)];exact hw w rfl
 |mapr d l left cur gh=>
  obtain⟨hk,g,es,clock,mv,lv,cv,hA,hm,hd,hl,hc,hw⟩:=h;refine⟨hk,g,es,clock,mv,lv,cv,by rw[hr];exact hA,hm,ax.mv m hd,ax.mv m hl,ax.mv m hc,fun w2 h2=>?_⟩;subst h2;rw[hb g (show ah (ρ i).A=some g by rw[hA];rfl)];exact hw w rfl
 |it k gh=>
  obtain⟨r,g,hA,hA2,hk,hrk,hw⟩:=h;refine⟨r,g,by rw[hr];exact hA,by rw[s.cel k hk hrk];exact hA2,Nat.lt_of_lt_of_le hk s.nn,?_,fun w2 h2=>?_⟩
  ·cases hr':bf (aB H' k)with
   |none=>rfl
   |some y=>obtain⟨v,l,m,h0,_⟩:=s.row k hk _ _ _ hr';rw[hrk]at h0;cases h0
  ·subst h2;rw[hb r (show ah (ρ i).A=some r by rw[hA];rfl)];exact hw w rfl
 |clo f l=>trivial
 |hid v l m=>trivial
 |dead=>trivial
omit [ao]in
theorem qQ{α:Type}: ∀{l:List (Nat×α)} {i:Nat},(∀p∈l,p.1≠i)→aB l i=none
 | [],i,h=>rfl
 |(j,y)::r,i,h=>by
  unfold aB;rw[cu (h (j,y) (by simp))];exact qQ fun p hp=>h p (List.mem_cons_of_mem _ hp)
omit [ao]in
theorem cO{α:Type}: ∀{l:List (Nat×α)} {i:Nat} {x:α},(l.map (·.1)).Nodup→(i,x)∈l→aB l i=some x
 |(j,y)::r,i,x,hn,h=>by
  unfold aB;rw[List.map_cons,List.nodup_cons]at hn;rcases List.mem_cons.1 h with h|h
  ·injection h with h1 h2;subst h1;subst h2;rw[Nat.beq_refl];rfl
  ·have: ¬j=i:=by rintro rfl;exact hn.1 (List.mem_map.2 ⟨_,h,rfl⟩)
   rw[cu this];exact cO hn.2 h
omit [ao]in
theorem aF{g:Nat}:g∈ak ρ H↔ ∃p∈H,aq ρ p=some g:=by unfold ak;rw[List.mem_filterMap]
def ci(ρ:Nat→Rz)(i:Nat)(r:Rz):Nat→Rz:=fun j=>bif Nat.beq i j then r else ρ j
omit [ao]in
theorem aD(ρ:Nat→Rz)(i:Nat)(r:Rz):ci ρ i r i=r:=by unfold ci;rw[Nat.beq_refl];rfl
omit [ao]in
theorem aT(ρ:Nat→Rz)(i:Nat):ci ρ i (ρ i)=ρ:=by
 funext j;unfold ci;cases hb:Nat.beq i j with
 |true=>rw[Nat.eq_of_beq_eq_true hb];rfl
 |false=>rfl
omit [ao]in
theorem fa{i j:Nat}(h: ¬i=j)(ρ:Nat→Rz)(r:Rz):ci ρ i r j=ρ j:=by unfold ci;rw[cu h];rfl
omit [ao]in
theorem dY{i:Nat}{r:Rz}{p:Nat×aJ U}(h: ¬i=p.1):aq (ci ρ i r) p=aq ρ p:=by
 obtain⟨j,x⟩:=p;unfold aq;cases x<;>simp only[fa h]
theorem co.push(xd: ∀g∈ak ρ H,g∉ao.xf)(hlt: ∀p∈H,p.1<n)(hf:Fr [] w w')(r:Rz)(x:aJ U)(hb: ∀g,aq (ci ρ n r) (n,x)=some g→w.heap.size≤g):co ρ n H w (ci ρ n r) (n+1) ((n,x)::H) w':=by
 refine⟨xd,Nat.le_succ _,hf.mono (by simp),fun g hg=>?_,fun i hi v' l' m' h=>?_,fun i hi _=>fa (by omega) ρ r⟩
 ·obtain⟨p,hp,hg⟩:=aF.1 hg;rcases List.mem_cons.1 hp with rfl|hp
  ·exact .inr (hb g hg)
  ·rw[dY (by have:=hlt p hp;omega)]at hg;exact .inl (aF.2 ⟨p,hp,hg⟩)
 ·unfold aB at h;rw[cu (by omega)]at h;exact⟨v',l',m',h,Nat.le_refl _,fun _=>⟨fa (by omega) ρ r,rfl,rfl⟩⟩
theorem dh(M:bh U X (· =w) ρ n H): ∀p∈H,∀g,aq ρ p=some g→g<w.heap.size:=fun p hp g hg=>by
 have h:=M.ent p hp;obtain⟨i,x⟩:=p;cases x with
 |cells l t=>
  obtain⟨g',vs,hA,hs,hw⟩:=h;unfold aq at hg;simp only[hA]at hg;injection hg with hg;subst hg;exact bd (hw w rfl)
 |row v e xs t=>
  obtain⟨hm,cs,sp,hd,ho,hw⟩:=h;exact bd (hw g hg w rfl)
 |map d l=>
  obtain⟨hk,g',es,clock,mv,hA,hm,hd,hw⟩:=h;unfold aq at hg;simp only[hA]at hg;injection hg with hg;subst hg;exact bd (hw w rfl)
 |mapr d l left cur gh=>
  obtain⟨hk,g',es,clock,mv,lv,cv,hA,hm,hd,hl,hc,hw⟩:=h;unfold aq at hg;simp only[hA]at hg;injection hg with hg;subst hg;exact bd (hw w rfl)
 |it k gh=>
  obtain⟨r,g',hA,hA2,hk,hrk,hw⟩:=h;unfold aq at hg;simp only[hA]at hg;injection hg with hg;subst hg;exact bd (hw w rfl)
 |_=>cases hg
theorem bh.push(M:bh U X (· =w) ρ n H)(hf:Fr [] w w')(r:Rz)(x:aJ U)(hb: ∀g,aq (ci ρ n r) (n,x)=some g→w.heap.size≤g)
  (he:kj U (ak (ci ρ n r) ((n,x)::H)++X) (· =w') (ci ρ n r) (n+1) ((n,x)::H) n x):bh U X (· =w') (ci ρ n r) (n+1) ((n,x)::H):=by
 have s:=co.push (ρ:=ρ) M.xd M.lt hf r x hb;have hX: ∀g∈X,g<w.heap.size:=M.lo w rfl;refine⟨?_,fun p hp=>?_,fun p hp=>?_,fun p hp q hq g h1 h2=>?_,fun g hg=>?_,fun w2 h2 x hx=>?_,M.xs,M.gv.fr hf (fun _ h=>by cases h)⟩
 ·rw[List.map_cons,List.nodup_cons];refine⟨fun h=>?_,M.nd⟩;obtain⟨p,hp,h⟩:=List.mem_map.1 h;have:=M.lt p hp;omega
 ·rcases List.mem_cons.1 hp with rfl|hp
  ·exact Nat.lt_succ_self _
  ·exact Nat.lt_succ_of_lt (M.lt p hp)
 ·rcases List.mem_cons.1 hp with rfl|hp
  ·exact he
  ·have hne: ¬n=p.1:=by have:=M.lt p hp;omega
   exact(M.ent p hp).step s (fa hne ρ r) fun g hg=>hf.block g (dh M p hp g hg) (by simp)
 ·have old: ∀q∈H,∀g,aq (ci ρ n r) q=some g→g<w.heap.size:=fun q hq g hg=>by
   rw[dY (by have:=M.lt q hq;omega)]at hg;exact dh M q hq g hg
  rcases List.mem_cons.1 hp with rfl|hp<;>rcases List.mem_cons.1 hq with rfl|hq
  ·rfl
  ·have a:=hb g h1;have b:=old q hq g h2;omega
  ·have a:=hb g h2;have b:=old p hp g h1;omega
  ·rw[dY (by have:=M.lt p hp;omega)]at h1;rw[dY (by have:=M.lt q hq;omega)]at h2;exact M.inj p hp q hq g h1 h2
 ·rcases s.nb g hg with h|h
  ·exact M.dj g h
  ·exact fun hx=>by have:=hX g hx;omega
 ·subst h2;exact Nat.lt_of_lt_of_le (hX x hx) hf.size
def dH:Hs U→Nat→aJ U→Hs U
 | [],_,_=> []
 |y::r,i,x=>bif Nat.beq y.1 i then(i,x)::r else y::dH r i x
omit [ao]in
theorem cT{i:Nat}{x:aJ U}: ∀{H:Hs U} {K:Hs U→Prop},fV H i x K→K (dH H i x)
 | [],K,h=>h.elim
 |y::r,K,h=>by
  have h:(bif Nat.beq y.1 i then K ((i,x)::r)else fV r i x fun r'=>K (y::r')):=h;unfold dH;cases hb:Nat.beq y.1 i with
  |true=>rw[hb]at h;exact h
  |false=>rw[hb]at h;exact cT (H:=r) h
omit [ao]in
theorem kq{i:Nat}{x:aJ U}: ∀{H:Hs U},(dH H i x).map (·.1)=H.map (·.1)
 | []=>rfl
 |y::r=>by
  unfold dH;cases hb:Nat.beq y.1 i with
  |true=>have:=Nat.eq_of_beq_eq_true hb;simp[this]
  |false=>simp[kq (H:=r)]
omit [ao]in
theorem eP{i j:Nat}{x:aJ U}: ∀{H:Hs U},(∃y,aB H i=some y)→aB (dH H i x) j=if i=j then some x else aB H j
 | [],h=>by obtain⟨y,h⟩:=h;cases h
 |y::r,h=>by
  unfold dH;cases hb:Nat.beq y.1 i with
  |true=>
   have hyi:=Nat.eq_of_beq_eq_true hb;simp only[cond_true];unfold aB;by_cases hij:i=j
   ·subst hij;rw[Nat.beq_refl,if_pos rfl];rfl
   ·rw[cu hij,if_neg hij];obtain⟨a,b⟩:=y;simp only at hyi;subst hyi;simp only[cu hij,cond_false]
  |false=>
   simp only[cond_false];obtain⟨a,b⟩:=y;unfold aB at h⊢;simp only at hb;rw[hb]at h;have ih:=eP (j:=j) (x:=x) (H:=r) h;cases hj:Nat.beq a j with
   |true=>
    have haj:=Nat.eq_of_beq_eq_true hj;have hij: ¬i=j:=by rintro rfl;rw[hj]at hb;cases hb
    rw[if_neg hij];rfl
   |false=>simp only[cond_false];exact ih
omit [ao]in
theorem gF{i:Nat}{x:aJ U}(hn:(H.map (·.1)).Nodup)(hi: ∃y,aB H i=some y): ∀p∈dH H i x,p=(i,x)∨(p∈H∧ ¬i=p.1):=fun p hp=>by
 have hn':((dH H i x).map (·.1)).Nodup:=by rw[kq];exact hn
 obtain⟨j,y⟩:=p;have h1:=cO hn' hp;rw[eP hi]at h1;by_cases hij:i=j
 ·subst hij;rw[if_pos rfl]at h1;injection h1 with h1;subst h1;exact .inl rfl
 ·rw[if_neg hij]at h1;exact .inr ⟨al h1,hij⟩
theorem co.upd(xd: ∀g∈ak ρ H,g∉ao.xf)(hn:(H.map (·.1)).Nodup){i:Nat}{x y:aJ U}(hi:aB H i=some y)(hf:Fr (aq ρ (i,y)).toList w w')(r:Rz)
  (hb: ∀g,aq (ci ρ i r) (i,x)=some g→aq ρ (i,y)=some g∨w.heap.size≤g)
  (hr: ∀v' l' m',bf (some x)=some (v',l',m')→ ∃v l m,bf (some y)=some (v,l,m)∧v≤v'∧(v=v'→r=ρ i∧l'=l∧m'=m)) (hc:bf (some y)=none→r=ρ i):co ρ n H w (ci ρ i r) n (dH H i x) w':=by
 have hi': ∃y,aB H i=some y:=⟨y,hi⟩;refine⟨xd,Nat.le_refl _,hf.mono fun g hg=>?_,fun g hg=>?_,fun j hj v' l' m' h=>?_,fun j hj h=>?_⟩
 ·refine aF.2 ⟨(i,y),al hi,by simpa using hg⟩
 ·obtain⟨p,hp,hg⟩:=aF.1 hg;rcases gF hn hi' p hp with rfl|⟨hp,hne⟩
  ·rcases hb g hg with h|h
   ·exact .inl (aF.2 ⟨_,al hi,h⟩)
   ·exact .inr h
  ·rw[dY hne]at hg;exact .inl (aF.2 ⟨p,hp,hg⟩)
 ·rw[eP hi']at h;by_cases hij:i=j
  ·subst hij;rw[if_pos rfl]at h;rw[hi,aD];exact hr _ _ _ h
  ·rw[if_neg hij]at h;exact⟨v',l',m',h,Nat.le_refl _,fun _=>⟨fa hij ρ r,rfl,rfl⟩⟩
 ·by_cases hij:i=j
  ·subst hij;rw[hi]at h;rw[aD];exact hc h
  ·exact fa hij ρ r
theorem bh.upd(M:bh U X (· =w) ρ n H){i:Nat}{x y:aJ U}(hi:aB H i=some y)(hf:Fr (aq ρ (i,y)).toList w w')(r:Rz)
  (hb: ∀g,aq (ci ρ i r) (i,x)=some g→aq ρ (i,y)=some g∨w.heap.size≤g)
  (hr: ∀v' l' m',bf (some x)=some (v',l',m')→ ∃v l m,bf (some y)=some (v,l,m)∧v≤v'∧(v=v'→r=ρ i∧l'=l∧m'=m)) (hc:bf (some y)=none→r=ρ i)
  (he:kj U (ak (ci ρ i r) (dH H i x)++X) (· =w') (ci ρ i r) n (dH H i x) i x):bh U X (· =w') (ci ρ i r) n (dH H i x):=by
 have hi': ∃y,aB H i=some y:=⟨y,hi⟩;have s:=co.upd (n:=n) M.xd M.nd hi hf r hb hr hc;have hX: ∀g∈X,g<w.heap.size:=M.lo w rfl;have hne: ∀p∈H,¬i=p.1→ ∀g,aq ρ p=some g→g∉(aq ρ (i,y)).toList:=fun p hp hn g hg hm=>hn (M.inj _ (al hi) p hp g (by simpa using hm) hg);refine⟨by rw[kq];exact M.nd,fun p hp=>?_,fun p hp=>?_,fun p hp q hq g h1 h2=>?_,fun g hg=>?_,fun w2 h2 x hx=>?_,M.xs,M.gv.fr s.fr M.xd⟩
 ·rcases gF M.nd hi' p hp with rfl|⟨hp,_⟩
  ·exact M.lt (i,y) (al hi)
  ·exact M.lt p hp
 ·rcases gF M.nd hi' p hp with rfl|⟨hp,hn⟩
  ·exact he
  ·exact(M.ent p hp).step s (fa hn ρ r) fun g hg=>hf.block g (dh M p hp g hg) (hne p hp hn g hg)
 ·rcases gF M.nd hi' p hp with rfl|⟨hp,hn⟩<;>rcases gF M.nd hi' q hq with rfl|⟨hq,hm⟩
  ·rfl
  ·rw[dY hm]at h2;rcases hb g h1 with h|h
   ·exact M.inj (i,y) (al hi) q hq g h h2
   ·have:=dh M q hq g h2;omega
  ·rw[dY hn]at h1;rcases hb g h2 with h|h
   ·exact M.inj p hp (i,y) (al hi) g h1 h
   ·have:=dh M p hp g h1;omega
  ·rw[dY hn]at h1;rw[dY hm]at h2;exact M.inj p hp q hq g h1 h2
 ·rcases s.nb g hg with h|h
  ·exact M.dj g h
  ·exact fun hx=>by have:=hX g hx;omega
 ·subst h2;exact Nat.lt_of_lt_of_le (hX x hx) hf.size
end
end Go.Proofs.YtiliglahlfkikaaGreatDoor.V
end

section
set_option linter.unusedVariables false
set_option linter.unusedSimpArgs false
namespace Go.Proofs.YtiliglahlfkikaaGreatDoor.V
open Go.RowKit
section
variable [ao] {U:bH} {P:Program} {nt:Nat} {T:cZ U} {X:List Nat} {w:World} {ρ:Nat→Rz} {n:Nat} {H:Hs U} {R e:En U} {ce:aG} {o:Oper}
abbrev Vw(U:bH)(X:List Nat)(w:World)(ρ:Nat→Rz)(n:Nat)(H:Hs U):Cx U→List Value→Prop:=ba U (ak ρ H++X) (· =w) ρ n H
theorem Ar{x:bO U}{K:Hs U→bO U→Prop}(h:qv H x K)(M:bh U X (· =w) ρ n H): ∃H' y,K H' y∧bh U X (· =w) ρ n H'∧co ρ n H w ρ n H' w∧ ∀vs,bJ (Vw U X w ρ n H) [x] vs→bJ (Vw U X w ρ n H') [y] vs:=by
 unfold qv at h;split at h
 ·rename_i i v;split at h
  ·rename_i v' s xs t hl;cases hb:Nat.beq v v' with
   |false=>rw[hb]at h;exact h.elim
   |true=>
    rw[hb]at h;simp only[cond_true]at h;have hvv:=Nat.eq_of_beq_eq_true hb;subst hvv;have hK:=cT h;obtain⟨hm,cs,sp,hd,ho,hw⟩:=M.ent _ (al hl);have hb0: ∀g,aq (ci ρ i (ρ i)) (i,(.frz v s xs:aJ U))=some g→aq ρ (i,(.row v s xs t:aJ U))=some g∨w.heap.size≤g:=fun g hg=>by cases hg
    have hr0: ∀v' l' m',bf (some (.frz v s xs:aJ U))=some (v',l',m')→ ∃v0 l m,bf (some (.row v s xs t:aJ U))=some (v0,l,m)∧v0≤v'∧(v0=v'→ρ i=ρ i∧l'=l∧m'=m):=fun v' l' m' hr=>⟨v',l',m',hr,Nat.le_refl _,fun _=>⟨rfl,rfl,rfl⟩⟩;have hf:Fr (aq ρ (i,(.row v s xs t:aJ U))).toList w w:=Fr.refl _ _;have st:=co.upd (n:=n) M.xd M.nd hl hf (ρ i) hb0 hr0 (fun _=>rfl);rw[aT]at st;have hrd:qA (ak ρ (dH H i (.frz v s xs))++X) (· =w) (ρ i).A cs:=fun w2 h2 j u hj=>by
     subst h2;have hjl:j<cs.length:=(List.getElem?_eq_some_iff.1 hj).1;rcases ho.2 with⟨_,h0,_⟩|⟨g,hA,_⟩
     ·rw[ho.1,h0,Nat.zero_mul]at hjl;omega
     refine⟨g,0,hA,fun hg=>?_,?_⟩
     ·rcases List.mem_append.1 hg with hg|hg
      ·obtain⟨p,hp,hg⟩:=aF.1 hg;rcases gF M.nd ⟨_,hl⟩ p hp with rfl|⟨hp,hne⟩
       ·cases hg
       ·exact hne (M.inj (i,.row v s xs t) (al hl) p hp g (show ah (ρ i).A=some g by rw[hA];rfl) hg)
      ·exact M.dj g (aF.2 ⟨(i,.row v s xs t),al hl,show ah (ρ i).A=some g by rw[hA];rfl⟩) hg
     ·rw[cell_of_row w2 g (0+j) (cs++sp).toArray t (0,0) (hw g (by rw[hA];rfl) w2 rfl)];simp only[List.getElem?_toArray,Nat.zero_add];rw[List.getElem?_append_left hjl];exact hj
    have hlc:xs.length≤(ρ i).c∧(ρ i).c≤maxLen:=by
     rcases ho.2 with⟨_,h0,h1,_⟩|⟨g,_,_,h1,h2⟩
     ·rw[h0,h1];exact⟨Nat.le_refl _,Nat.zero_le _⟩
     ·exact⟨h1,h2⟩
    have hd':=aN.mv (st.mv (X:=X)) hd;have M':=M.upd hl hf (ρ i) hb0 hr0 (fun _=>rfl) (x:= .frz v s xs) (by
     rw[aT];exact⟨hm,cs,hd',hrd,hlc.1,hlc.2⟩)
    rw[aT]at M';refine⟨_,_,hK,M',st,fun vs hs=>?_⟩;obtain⟨⟨hi,A,l,c,e1,hn⟩,hlen⟩:=hs.one1;obtain⟨rfl,rfl,rfl⟩:=(hn _ _ _ (by rw[hl];rfl)).2 rfl;subst e1;exact⟨_,[],(List.append_nil _).symm,rfl,aC.sl s xs _ _ cs hd' hrd hlc.1 hlc.2,rfl⟩
  ·rename_i v' s xs hl;cases hb:Nat.beq v v' with
   |false=>rw[hb]at h;exact h.elim
   |true=>
    rw[hb]at h;have hvv:=Nat.eq_of_beq_eq_true hb;subst hvv;obtain⟨hm,cs,hd,hrd,h1,h2⟩:=M.ent _ (al hl);refine⟨_,_,h,M,M.stp0,fun vs hs=>?_⟩;obtain⟨⟨hi,A,l,c,e1,hn⟩,hlen⟩:=hs.one1;obtain⟨rfl,rfl,rfl⟩:=(hn _ _ _ (by rw[hl];rfl)).2 rfl;subst e1;exact⟨_,[],(List.append_nil _).symm,rfl,aC.sl s xs _ _ cs hd hrd h1 h2,rfl⟩
  ·exact h.elim
 ·exact⟨_,_,h,M,M.stp0,fun _ hs=>hs⟩
omit [ao]in
theorem bJ.cons{V:Cx U→List Value→Prop}{x:bO U}{r:List (bO U)}{vs:List Value}(h:bJ V (x::r) vs): ∃v1 v2,vs=v1++v2∧bJ V [x] v1∧bJ V r v2:=by
 obtain⟨k,c⟩:=x;obtain⟨v1,v2,e,hl,hx,hr⟩:=h;exact⟨v1,v2,e,⟨v1,[],(List.append_nil _).symm,hl,hx,rfl⟩,hr⟩
theorem gc: ∀{l:List (bO U)} {H:Hs U} {K:Hs U→List (bO U)→Prop},jQ l H K→bh U X (· =w) ρ n H→ ∃H' l',K H' l'∧bh U X (· =w) ρ n H'∧co ρ n H w ρ n H' w∧ ∀vs,bJ (Vw U X w ρ n H) l vs→bJ (Vw U X w ρ n H') l' vs
 | [],H,K,h,M=>⟨H,[],h,M,M.stp0,fun _ hs=>hs⟩
 |x::l,H,K,h,M=>by
  obtain⟨H1,y,h1,M1,s1,c1⟩:=Ar (show qv H x (fun H y=>jQ l H fun H r=>K H (y::r))from h) M;obtain⟨H2,l2,h2,M2,s2,c2⟩:=gc (l:=l) h1 M1;refine⟨H2,_,h2,M2,s1.trans s2,fun vs hs=>?_⟩;obtain⟨v1,v2,rfl,ha,hb⟩:=hs.cons;have hy:bJ (Vw U X w ρ n H2) [y] v1:=(c1 _ ha).imp fun _ _ h=>h.step s2;have hr:=c2 _ (hb.imp fun _ _ h=>h.step s1);exact bJ.app (l:= [y]) hy hr
theorem mP{s:aY}{x:Va U}{K:Hs U→TT U.ty s→Prop}(h:wl s H x K)(M:bh U X (· =w) ρ n H): ∃H' t,K H' t∧bh U X (· =w) ρ n H'∧co ρ n H w ρ n H' w∧ ∀u,cx (Vw U X w ρ n H) x u→aC U (ak ρ H'++X) (· =w) s t u.cells.toList:=by
 obtain⟨H',l',h1,M',s',c'⟩:=gc (show jQ x.l H _ from h) M;obtain⟨t,h2,ht⟩:=bq h1;exact⟨H',t,h2,M',s',fun u hu=>ht _ _ _ _ _ _ (c' _ hu.cells)⟩
def ku(P:Program)(nt:Nat)(U:bH)(X:List Nat)(w:World)(ρ:Nat→Rz)(n:Nat)(H:Hs U)(ce:aG)(o:Oper)(K:AV U→Nat→Hs U→Prop):Prop:=
 bD P nt ce w o fun ce' w'=> ∃av n' H' ρ' cv,K av n' H'∧ce'=ce.dst o.dst cv∧n9 (Vw U X w' ρ' n' H') av cv∧bh U X (· =w') ρ' n' H'∧co ρ n H w ρ' n' H' w'
omit [ao]in
theorem fb{A:Prop}(h:mG o.dst A)(hd:(o.dst.all (Nat.blt · nt))=true): ∃d,o.dst=some d∧Nat.blt d nt=true∧A:=by
 unfold mG at h;cases ho:o.dst with
 |none=>rw[ho]at h;exact h.elim
 |some d=>rw[ho]at h hd;exact⟨d,rfl,by simpa using hd,h⟩
omit [ao]in
theorem sB{A:Prop}(h:Gx o.dst A):o.dst=none∧A:=by
 unfold Gx at h;cases ho:o.dst with
 |none=>rw[ho]at h;exact⟨rfl,h⟩
 |some d=>rw[ho]at h;exact h.elim
omit [ao]in
theorem aG.dstS{d:Nat}(hd:o.dst=some d)(v:Value):((d,v)::ce)=ce.dst o.dst v:=by rw[hd];rfl
omit [ao]in
theorem ph{α:Type}(n:Nat)(x:α)(l:List (Nat×α)):aB ((n,x)::l) n=some x:=by unfold aB;rw[Nat.beq_refl];rfl
omit [ao]in
theorem vh{g:Nat}:ah (some ⟨g,0,none⟩)=some g:=rfl
omit [ao]in
theorem mQ{i:Nat}{r:Rz}{l:List (bO U)}{t g:Nat}(h:aq (ci ρ i r) (i,(.cells l t:aJ U))=some g):ah r.A=some g:=by
 unfold aq at h;simp only[aD]at h;exact h
omit [ao]in
theorem iV{i:Nat}{r:Rz}{v:Nat}{s:aY}{xs:List (TT U.ty s)}{t g:Nat}(h:aq (ci ρ i r) (i,(.row v s xs t:aJ U))=some g):ah r.A=some g:=by
 unfold aq at h;simp only[aD]at h;exact h
theorem wX{t:Nat}{K:AV U→Nat→Hs U→Prop}{ti:TI U}(hti:aU U P t ti)(hK:K (.v ⟨false,[(1,.ptr n 0)]⟩) (n+1) ((n,.cells ti.zero t)::H)){d:Nat}(ho:o.op= .alloc t)(hd:o.dst=some d)(hn:Nat.blt d nt=true)(M:bh U X (· =w) ρ n H):ku P nt U X w ρ n H ce o K:=by
 obtain⟨zs,hz,hzl,hzs⟩:=hti.zero;refine mC ho hd hn hz (Hp.nil w) fun g w' hp hf hg=>?_;have hblk:w'.heap[g]? =some (Cl zs t):=hp.at (i:=0) rfl;have hb: ∀g',aq (ci ρ n ⟨some ⟨g,0,none⟩,0⟩) (n,(.cells ti.zero t:aJ U))=some g'→w.heap.size≤g':=fun g' h=>by
  have:=mQ h;rw[vh]at this;injection this with this;subst this;exact hg
 refine⟨_,_,_,ci ρ n ⟨some ⟨g,0,none⟩,0⟩,_,hK,aG.dstS hd _,?_,M.push hf _ _ hb ⟨g,zs,by rw[aD],hzs _ _ _ _ _ _,fun w2 h2=>by subst h2;exact hblk⟩,co.push M.xd M.lt hf _ _ hb⟩;exact ga ⟨Nat.lt_succ_self _,by rw[ph];rfl,g,by rw[aD],rfl⟩
theorem wY{t:Nat}{K:AV U→Nat→Hs U→Prop}{ti:TI U}{kd:KD U}(hti:aU U P t ti)(hm:ti.mp=some kd)(hpr:ao.pr=P)(hK:K (.v ⟨false,[(1,.mp n)]⟩) (n+1) ((n,.map kd [])::H)){d:Nat}(ho:o.op= .makeMap t none)(hd:o.dst=some d)(hn:Nat.blt d nt=true)(M:bh U X (· =w) ρ n H):ku P nt U X w ρ n H ce o K:=by
 obtain⟨hk,hu⟩:=hti.mp kd hm;refine BF ho hd hn (Hp.nil w) fun g w' hp hf hg=>?_;have hblk:w'.heap[g]? =some (.map #[] 0):=hp.at (i:=0) rfl;have hb: ∀g',aq (ci ρ n ⟨some ⟨g,0,none⟩,0⟩) (n,(.map kd []:aJ U))=some g'→w.heap.size≤g':=fun g' h=>by
  have h:ah (ci ρ n ⟨some ⟨g,0,none⟩,0⟩ n).A=some g':=h;rw[aD]at h;injection h with h;subst h;exact hg
 refine⟨_,_,_,ci ρ n ⟨some ⟨g,0,none⟩,0⟩,_,hK,aG.dstS hd _,?_,M.push hf _ _ hb ⟨(show CE ao.pr U kd by rw[hpr];exact hk),g, #[],0,[],by rw[aD],lm.empty,trivial,fun w2 h2=>by subst h2;exact hblk⟩,co.push M.xd M.lt hf _ _ hb⟩;exact ga ⟨Nat.lt_succ_self _,by rw[ph];rfl,g,by rw[aD],rfl⟩
theorem Es{t:Nat}{x:Operand}{v:Va U}{u:Value}{K:AV U→Nat→Hs U→Prop}(hK:K (.v ⟨false,[(1,.ptr n 0)]⟩) (n+1) ((n,.cells v.l t)::H)){d:Nat}(ho:o.op= .box t x)(hd:o.dst=some d)(hn:Nat.blt d nt=true)(hx:ce.ev x=some u)(hv:cx (Vw U X w ρ n H) v u)(M:bh U X (· =w) ρ n H):ku P nt U X w ρ n H ce o K:=by
 have key: ∀g w',w'.heap[g]? =some (Cl u.cells.toList t)→Fr [] w w'→w.heap.size≤g→ ∃av n' H' ρ' cv,K av n' H'∧((d,(.pointer (some ⟨g,0,none⟩):Value))::ce)=ce.dst o.dst cv∧n9 (Vw U X w' ρ' n' H') av cv∧bh U X (· =w') ρ' n' H'∧co ρ n H w ρ' n' H' w':=fun g w' hblk hf hg=>by
  have hb: ∀g',aq (ci ρ n ⟨some ⟨g,0,none⟩,0⟩) (n,(.cells v.l t:aJ U))=some g'→w.heap.size≤g':=fun g' h=>by
   have:=mQ h;rw[vh]at this;injection this with this;subst this;exact hg
  have st:=co.push (ρ:=ρ) M.xd M.lt hf ⟨some ⟨g,0,none⟩,0⟩ (.cells v.l t:aJ U) hb;refine⟨_,_,_,ci ρ n ⟨some ⟨g,0,none⟩,0⟩,_,hK,aG.dstS hd _,?_,M.push hf _ _ hb ⟨g,_,by rw[aD],hv.cells.imp fun _ _ h=>h.step st,fun w2 h2=>by subst h2;exact hblk⟩,st⟩;exact ga ⟨Nat.lt_succ_self _,by rw[ph];rfl,g,by rw[aD],rfl⟩
 by_cases ha: ∃us:List Value,u= .agg us.toArray
 ·obtain⟨us,rfl⟩:=ha;exact HV ho hd hn hx (Hp.nil w) fun g w' hp hf hg=>key g w' (by simpa[Value.cells]using hp.at (i:=0) rfl) hf hg
 ·have hu:u.cells= #[u]:=by
   cases u with
   |agg cs=>exact absurd ⟨cs.toList,by simp⟩ ha
   |_=>rfl
  exact yH ho hd hn hx hu (Hp.nil w) fun g w' hp hf hg=>key g w' (by rw[hu];exact hp.at (i:=0) rfl) hf hg
end
end Go.Proofs.YtiliglahlfkikaaGreatDoor.V
end

section
set_option linter.unusedVariables false
set_option linter.unusedSimpArgs false
namespace Go.Proofs.YtiliglahlfkikaaGreatDoor.V
open Go.RowKit
section
variable [ao] {U:bH} {P:Program} {nt:Nat} {T:cZ U} {X:List Nat} {w:World} {ρ:Nat→Rz} {n:Nat} {H:Hs U} {R e:En U} {ce:aG} {o:Oper}
def Jj:aJ U→Bool
 | .row _ _ _ _=>false
 |_=>true
def CP(H H':Hs U):Prop:= ∀j x,Jj x=true→aB H j=some x→aB H' j=some x
omit [ao]in
theorem CP.refl(H:Hs U):CP H H:=fun _ _ _ h=>h
omit [ao]in
theorem CP.trans{H1 H2:Hs U}(a:CP H H1)(b:CP H1 H2):CP H H2:=fun j l t h=>b j l t (a j l t h)
omit [ao]in
theorem qs{i:Nat}{x:aJ U}: ∀{H:Hs U} {K K':Hs U→Prop},fV H i x K→(∀H',H'=dH H i x→K H'→K' H')→fV H i x K'
 | [],_,_,h,_=>h.elim
 |y::r,K,K',h,hk=>by
  have h:(bif Nat.beq y.1 i then K ((i,x)::r)else fV r i x fun r'=>K (y::r')):=h;show(bif Nat.beq y.1 i then K' ((i,x)::r)else fV r i x fun r'=>K' (y::r'))
  cases hb:Nat.beq y.1 i with
  |true=>rw[hb]at h;exact hk _ (by unfold dH;rw[hb];rfl) h
  |false=>rw[hb]at h;exact qs (H:=r) h fun H' e hK=>hk _ (by unfold dH;rw[hb,e];rfl) hK
omit [ao]in
theorem wj{x:bO U}{K K':Hs U→bO U→Prop}(h:qv H x K)(hk: ∀H' y,CP H H'→K H' y→K' H' y):qv H x K':=by
 unfold qv at h⊢;split at h
 ·rename_i i v;show(match aB H i with
   |some (.row v' e xs _)=>(bif Nat.beq v v' then fV H i (.frz v e xs) fun H=>K' H (1,.d (.sl e) xs)else False)
   |some (.frz v' e xs)=>(bif Nat.beq v v' then K' H (1,.d (.sl e) xs)else False)
   |_=>False)
  split at h
  ·rename_i v' s xs t hl;rw[hl];simp only;cases hb:Nat.beq v v' with
   |false=>rw[hb]at h;exact h.elim
   |true=>
    rw[hb]at h;exact qs h fun H' e hK=>hk _ _ (fun j y hy hj=>by
     subst e;rw[eP ⟨_,hl⟩];split
     ·rename_i e;subst e;rw[hl]at hj;injection hj with hj;subst hj;cases hy
     ·exact hj) hK
  ·rename_i v' s xs hl;rw[hl];simp only;cases hb:Nat.beq v v' with
   |false=>rw[hb]at h;exact h.elim
   |true=>rw[hb]at h;exact hk _ _ (CP.refl _) h
  ·exact h.elim
 ·exact hk _ _ (CP.refl _) h
omit [ao]in
theorem iR: ∀{l:List (bO U)} {H:Hs U} {K K':Hs U→List (bO U)→Prop},jQ l H K→(∀H' r,CP H H'→K H' r→K' H' r)→jQ l H K'
 | [],H,K,K',h,hk=>hk _ _ (CP.refl _) h
 |x::l,H,K,K',h,hk=>by
  have h:qv H x fun H y=>jQ l H fun H r=>K H (y::r):=h;exact wj h fun H1 y c1 h1=>iR (l:=l) h1 fun H2 r c2 h2=>hk _ _ (c1.trans c2) h2
theorem oZ{x:Va U}{v:Value}(h:cx (Vw U X w ρ n H) x v):dg x.ag v v.cells.toList:=by
 unfold cx at h;unfold dg;cases hag:x.ag with
 |true=>simp only[hag]at h⊢;obtain⟨vs,rfl,_⟩:=h;simp[Value.cells]
 |false=>
  simp only[hag]at h⊢;have:=h.one v (by simp);cases v<;>first|rfl|(simp[Value.oneCell']at this)
theorem zq{s:aY}{x:Va U}{K:Hs U→TT U.ty s→Prop}(h:wl s H x K)(M:bh U X (· =w) ρ n H): ∃H' t,K H' t∧CP H H'∧bh U X (· =w) ρ n H'∧co ρ n H w ρ n H' w∧ ∀u,cx (Vw U X w ρ n H) x u→aC U (ak ρ H'++X) (· =w) s t u.cells.toList:=by
 have h:jQ x.l H fun H l=>cJ 20 s l fun t=>K H t:=h;obtain⟨H',l',⟨h1,cp⟩,M',s',c'⟩:=gc (iR h fun H' r cp h=>(⟨h,cp⟩:_∧CP H H')) M;obtain⟨t,h2,ht⟩:=bq h1;exact⟨H',t,h2,cp,M',s',fun u hu=>ht _ _ _ _ _ _ (c' _ hu.cells)⟩
omit [ao]in
theorem bA{a b:Bool}(h:(a==b)=true):a=b:=by simpa using h
theorem se{d:KD U}{kv:Va U}{k:TT U.ty d.k}{u:Value}(hk:CE P U d)(hb:(kv.ag==dI d.k)=true)(hd: ∀vs,bJ (Vw U X w ρ n H) kv.l vs→aC U (ak ρ H++X) (· =w) d.k k vs)(hv:cx (Vw U X w ρ n H) kv u):u=d.enc k∧ ∃vs,dg (dI d.k) (d.enc k) vs∧aC U (ak ρ H++X) (· =w) d.k k vs:=by
 obtain⟨vs,h1,h2⟩:=MA hv hb;have e:=hk.2.1 _ _ _ _ _ (hd _ h2) h1;exact⟨e,vs,e▸h1,hd _ h2⟩
theorem tH{i g:Nat}{u:Value}(h:Vw U X w ρ n H (.mp i) [u])(hA:(ρ i).A=some ⟨g,0,none⟩):u= .map (some g):=by
 obtain⟨_,_,g',hA',e⟩:=h;rw[hA]at hA';injection hA' with hA';injection hA' with hA';subst hA';simpa using e
abbrev Gn(P:Program)(nt:Nat)(U:bH) [ao](X:List Nat)(w:World)(ρ:Nat→Rz)(n:Nat)(H:Hs U)(ce:aG)(o:Oper)(K:Hs U→Prop):Prop:=ku P nt U X w ρ n H ce o fun _ n' H'=>n'=n∧K H'
theorem Dy(hpr:ao.pr=P){t:Nat}{m kx x:Operand}{c:Cx U}{kv xv:Va U}{u0 u1 u2:Value}{K:Hs U→Prop}(h:DZ T t H c kv xv K)(ho:o.op= .mapUpdate t m kx x)(hd:o.dst=none)(hm:ce.ev m=some u0)(hkx:ce.ev kx=some u1)(hx:ce.ev x=some u2)
  (h0:Vw U X w ρ n H c [u0]) (h1:cx (Vw U X w ρ n H) kv u1) (h2:cx (Vw U X w ρ n H) xv u2) (hT:bm U P T) (M:bh U X (· =w) ρ n H):Gn P nt U X w ρ n H ce o K:=by
 unfold DZ at h;split at h
 ·rename_i i;split at h
  ·rename_i d l hl;cases hb:(uX T t d&&((kv.ag==dI d.k)&&(xv.ag==dI d.v)))with
   |false=>rw[hb]at h;exact h.elim
   |true=>
    rw[hb]at h;simp only[cond_true]at h;simp only[Bool.and_eq_true]at hb;have ht:=mN hb.1 hT;obtain⟨k,h,hkk⟩:=bq h;obtain⟨H',y,hK,cp,M',s',c'⟩:=zq h M;have hK:=cT hK;have hl':=cp _ _ rfl hl;obtain⟨hkd,g,es,clock,mv,hA,hM,hD,hw⟩:=M'.ent _ (al hl');have hkd':=hkd;unfold sA at hkd';rw[hpr]at hkd';obtain⟨rfl,vs,hk1,hk2⟩:=se hkd' hb.2.1 (fun vs hs=>hkk _ _ _ _ _ _ hs) h1;have e0:=tH h0 hA;subst e0;have hb': ∃vs,dg (dI d.v) u2 vs∧aC U (ak ρ H'++X) (· =w) d.v y vs:=⟨_,(bA hb.2.2)▸oZ h2,c' u2 h2⟩;have hset:=ax.set (x:=k) ⟨vs,hk1,aC.mv (s'.mv (X:=X)) hk2⟩ hb' hD;refine @yC _ P nt ce o w [(some g,.map es clock)] _ _ _ d.dec d.enc (fun v:Value=>v) t d.kt d.vt g 0 clock m kx x es mv k u2 ho hd hm hkx hx ht hkd'.1 (Hp.one1 (hw w rfl)) rfl hM fun es' clock' w' hM' hp hf=>?_;have hf':Fr (aq ρ (i,(.map d l:aJ U))).toList w w':=by
     have:aq ρ (i,(.map d l:aJ U))=some g:=by show ah (ρ i).A=some g;rw[hA];rfl
     rw[this];exact hf
    have hb0: ∀g',aq (ci ρ i (ρ i)) (i,(.map d (@dW _ _ d.dec l k y):aJ U))=some g'→aq ρ (i,(.map d l:aJ U))=some g'∨w.heap.size≤g':=fun g' h=> .inl (by rw[aT]at h;exact h);have hr0: ∀v' l' m',bf (some (.map d (@dW _ _ d.dec l k y):aJ U))=some (v',l',m')→ ∃v0 l0 m,bf (some (.map d l:aJ U))=some (v0,l0,m)∧v0≤v'∧(v0=v'→ρ i=ρ i∧l'=l0∧m'=m):=fun v' l' m' hr=>by cases hr
    have st:=co.upd (n:=n) M'.xd M'.nd hl' hf' (ρ i) hb0 hr0 (fun _=>rfl);have M2:=M'.upd hl' hf' (ρ i) hb0 hr0 (fun _=>rfl) ⟨hkd,g,es',clock',_,by rw[aT];exact hA,hM',ax.mv (st.mv (X:=X)) hset,fun w2 h2=>by subst h2;exact hp.at (i:=0) rfl⟩;rw[aT]at st M2;exact⟨.un,n,_,ρ,undef,⟨rfl,hK⟩,by rw[hd];rfl,trivial,M2,s'.trans st⟩
  ·exact h.elim
 ·exact h.elim
theorem sf{i g:Nat}{x y:aJ U}{w':World}(M:bh U X (· =w) ρ n H)(hi:aB H i=some y)(hA:(ρ i).A=some ⟨g,0,none⟩)(hy:aq ρ (i,y)=ah (ρ i).A)(hx:aq ρ (i,x)=none∨aq ρ (i,x)=ah (ρ i).A)(hr:bf (some x)=none)(hf:Fr [g] w w')
  (he:co ρ n H w ρ n (dH H i x) w'→kj U (ak ρ (dH H i x)++X) (· =w') ρ n (dH H i x) i x):bh U X (· =w') ρ n (dH H i x)∧co ρ n H w ρ n (dH H i x) w':=by
 have hf':Fr (aq ρ (i,y)).toList w w':=by rw[hy,hA];exact hf
 have hb0: ∀g',aq (ci ρ i (ρ i)) (i,x)=some g'→aq ρ (i,y)=some g'∨w.heap.size≤g':=fun g' h=>by
  rw[aT]at h;rcases hx with hx|hx
  ·rw[hx]at h;cases h
  ·rw[hy,←hx];exact .inl h
 have hr0: ∀v' l' m',bf (some x)=some (v',l',m')→ ∃v0 l0 m,bf (some y)=some (v0,l0,m)∧v0≤v'∧(v0=v'→ρ i=ρ i∧l'=l0∧m'=m):=fun v' l' m' h=>by rw[hr]at h;cases h
 have st:=co.upd (n:=n) M.xd M.nd hi hf' (ρ i) hb0 hr0 (fun _=>rfl);rw[aT]at st;have M2:=M.upd hi hf' (ρ i) hb0 hr0 (fun _=>rfl) (by rw[aT];exact he st);rw[aT]at M2;exact⟨M2,st⟩
theorem Dz(hpr:ao.pr=P){t t':Nat}{m kx:Operand}{c:Cx U}{kv:Va U}{u0 u1:Value}{K:Hs U→Prop}(h:D3 T t H c kv K)(ho:o.op= .call {callee:= .builtin .delete,args:= #[m,kx],argTypes:= #[t,t']})(hd:o.dst=none)(hm:ce.ev m=some u0)(hkx:ce.ev kx=some u1)
  (h0:Vw U X w ρ n H c [u0]) (h1:cx (Vw U X w ρ n H) kv u1) (hT:bm U P T) (M:bh U X (· =w) ρ n H):Gn P nt U X w ρ n H ce o K:=by
 unfold D3 at h;split at h
 ·rename_i i;split at h
  ·rename_i d l hl;cases hb:(uX T t d&&(kv.ag==dI d.k))with
   |false=>rw[hb]at h;exact h.elim
   |true=>
    rw[hb]at h;simp only[cond_true]at h;simp only[Bool.and_eq_true]at hb;have ht:=mN hb.1 hT;obtain⟨k,h,hkk⟩:=bq h;have hK:=cT h;obtain⟨hkd,g,es,clock,mv,hA,hM,hD,hw⟩:=M.ent _ (al hl);have hkd':=hkd;unfold sA at hkd';rw[hpr]at hkd';obtain⟨rfl,vs,hk1,hk2⟩:=se hkd' hb.2 (fun vs hs=>hkk _ _ _ _ _ _ hs) h1;have e0:=tH h0 hA;subst e0;refine @oN _ P nt ce o w _ _ _ d.enc (fun v:Value=>v) es mv d.dec t t' d.kt d.vt g clock m kx k ho hd hm hkx ht hkd'.1 (hw w rfl) hM fun es' w' hM' _ hp hf=>?_;obtain⟨M2,st⟩:=sf (x:= .map d (@di _ _ d.dec l k)) M hl hA rfl (.inr rfl) rfl hf fun st=>⟨hkd,g,es',clock,_,hA,hM',ax.mv (st.mv (X:=X)) hD.del,fun w2 h2=>by subst h2;exact hp⟩;exact⟨.un,n,_,ρ,undef,⟨rfl,hK⟩,by rw[hd];rfl,trivial,M2,st⟩
  ·rename_i d l left cur gh hl;cases hb:(uX T t d&&(kv.ag==dI d.k))with
   |false=>rw[hb]at h;exact h.elim
   |true=>
    rw[hb]at h;simp only[cond_true]at h;simp only[Bool.and_eq_true]at hb;have ht:=mN hb.1 hT;obtain⟨k,h,hkk⟩:=bq h;have hK:=cT h;obtain⟨hkd,g,es,clock,mv,lv,cv,hA,hM,hD,hL,hC,hw⟩:=M.ent _ (al hl);have hkd':=hkd;unfold sA at hkd';rw[hpr]at hkd';obtain⟨rfl,vs,hk1,hk2⟩:=se hkd' hb.2 (fun vs hs=>hkk _ _ _ _ _ _ hs) h1;have e0:=tH h0 hA;subst e0;refine @oN _ P nt ce o w _ _ _ d.enc (fun v:Value=>v) es mv d.dec t t' d.kt d.vt g clock m kx k ho hd hm hkx ht hkd'.1 (hw w rfl) hM.ok fun es' w' _ hR hp hf=>?_;obtain⟨M2,st⟩:=sf (x:= .mapr d (@di _ _ d.dec l k) (@di _ _ d.dec left k) [] gh) M hl hA rfl (.inr rfl) rfl hf fun st=>⟨hkd,g,es',clock,_,_,[],hA,hR _ _ _ hM,ax.mv (st.mv (X:=X)) hD.del,ax.mv (st.mv (X:=X)) hL.del,trivial,fun w2 h2=>by subst h2;exact hp⟩;exact⟨.un,n,_,ρ,undef,⟨rfl,hK⟩,by rw[hd];rfl,trivial,M2,st⟩
  ·exact h.elim
 ·exact h.elim
theorem DA{t:Nat}{x:Operand}{c:Cx U}{u0:Value}{K:Hs U→Prop}(h:D4 T t H n c K)(ho:o.op= .range t x){dd:Nat}(hd:o.dst=some dd)(hn:Nat.blt dd nt=true)(hx:ce.ev x=some u0)(h0:Vw U X w ρ n H c [u0])(hT:bm U P T)(M:bh U X (· =w) ρ n H):
  ku P nt U X w ρ n H ce o fun av n' H'=>av= .v ⟨false,[(1,.ptr n 0)]⟩∧n'=n+1∧K H':=by
 unfold D4 at h;split at h
 ·rename_i i;split at h
  ·rename_i d l hl;cases hb:uX T t d with
   |false=>rw[hb]at h;exact h.elim
   |true=>
    rw[hb]at h;simp only[cond_true]at h;have ht:=mN hb hT;obtain⟨hkd,g,es,clock,mv,hA,hM,hD,hw⟩:=M.ent _ (al hl);have e0:=tH h0 hA;subst e0;refine rI ho hd hn hx ht (hw w rfl) hM fun r w' gh hR hr hf hsz=>?_;have hK:=cT (h gh);have hin:=M.lt _ (al hl);have hni: ¬n=i:=by have:i<n:=hin;omega
    have hb0: ∀g',aq (ci ρ n ⟨some ⟨r,0,none⟩,0⟩) (n,(.it i gh:aJ U))=some g'→w.heap.size≤g':=fun g' h=>by
     have h:ah (ci ρ n ⟨some ⟨r,0,none⟩,0⟩ n).A=some g':=h;rw[aD]at h;injection h with h;subst h;exact hsz
    have st:=co.push (ρ:=ρ) M.xd M.lt hf ⟨some ⟨r,0,none⟩,0⟩ (.it i gh:aJ U) hb0;have hl':aB ((n,(.it i gh:aJ U))::H) i=some (.map d l):=by unfold aB;rw[cu hni];exact hl
    have M1:=M.push hf _ _ hb0 ⟨r,g,by rw[aD],by rw[fa hni];exact hA,Nat.lt_succ_of_lt hin,by rw[hl'];rfl,fun w2 h2=>by subst h2;exact hr⟩;have hA':(ci ρ n ⟨some ⟨r,0,none⟩,0⟩ i).A=some ⟨g,0,none⟩:=by rw[fa hni];exact hA
    have hbk:w'.heap[g]? =some (.map es clock):=by rw[hf.block g (bd (hw w rfl)) (by simp)];exact hw w rfl
    obtain⟨M2,st2⟩:=sf (x:= .mapr d l l [] gh) M1 hl' hA' rfl (.inr rfl) rfl ((Fr.refl [] w').mono (by simp)) fun st2=>⟨hkd,g,es,clock,mv,mv,[],hA',hR,ax.mv ((st.trans st2).mv (X:=X)) hD,ax.mv ((st.trans st2).mv (X:=X)) hD,trivial,fun w2 h2=>by subst h2;exact hbk⟩;have eH:dH ((n,(.it i gh:aJ U))::H) i (.mapr d l l [] gh)=(n,.it i gh)::dH H i (.mapr d l l [] gh):=by
     show(bif Nat.beq n i then _ else _)=_
     rw[cu hni];rfl
    rw[eH]at M2 st2;refine⟨_,n+1,_,_,_,⟨rfl,rfl,hK⟩,aG.dstS hd _,ga ⟨Nat.lt_succ_self _,by rw[ph];rfl,r,by rw[aD],rfl⟩,M2,st.trans st2⟩
  ·exact h.elim
 ·exact h.elim
theorem DB{x:Operand}{c:Cx U}{u0:Value}{K:AV U→Hs U→Prop}(h:D5 H c K)(ho:o.op= .next x false){dd:Nat}(hd:o.dst=some dd)(hn:Nat.blt dd nt=true)(hx:ce.ev x=some u0)(h0:Vw U X w ρ n H c [u0])(M:bh U X (· =w) ρ n H):
  ku P nt U X w ρ n H ce o fun av n' H'=>n'=n∧K av H':=by
 unfold D5 at h;split at h
 ·rename_i j;split at h
  ·rename_i i gh hj;split at h
   ·rename_i d l left cur gh' hi;obtain⟨rfl,h2,h3⟩:=h;obtain⟨r,g,hA,hA2,hk,hrk,hwr⟩:=M.ent _ (al hj);obtain⟨hkd,g',es,clock,mv,lv,cv,hA3,hM,hD,hL,hC,hw⟩:=M.ent _ (al hi);rw[hA2]at hA3;injection hA3 with hA3;injection hA3 with hA3;subst hA3;have e0:u0= .pointer (some ⟨r,0,none⟩):=by
     obtain⟨_,_,g',hA',e⟩:=h0;rw[hA]at hA';injection hA' with hA';injection hA' with hA';subst hA';simpa using e
    subst e0;have hij: ¬j=i:=by rintro rfl;rw[hj]at hi;cases hi
    have hrg:r≠g:=by
     rintro rfl;exact hij (M.inj (j,.it i gh) (al hj) (i,.mapr d l left cur gh) (al hi) r (show ah (ρ j).A=some r by rw[hA];rfl) (show ah (ρ i).A=some r by rw[hA2];rfl))
    have hup: ∀y:aJ U,aB (dH H j y) i=some (.mapr d l left cur gh):=fun y=>by rw[eP ⟨_,hj⟩,if_neg hij];exact hi
    refine uI ho hd hn hx (hwr w rfl) (hw w rfl) hM (fun e=>?_) (fun a p b gh2 w' e hR hr2 hf=>?_)
    ·subst e;have el:left= []:=List.eq_nil_of_length_eq_zero (by rw[hL.len];rfl);have hK:=cT (cT (h2 el));obtain⟨M1,mY⟩:=sf (x:= .dead) M hj hA rfl (.inl rfl) rfl ((Fr.refl [] w).mono (by simp)) fun _=>trivial;obtain⟨M2,st2⟩:=sf (x:= .map d l) M1 (hup _) hA2 rfl (.inr rfl) rfl ((Fr.refl [] w).mono (by simp)) fun st2=>⟨hkd,g,es,clock,mv,hA2,hM.ok,ax.mv ((mY.trans st2).mv (X:=X)) hD,fun w2 h2=>by subst h2;exact hw _ rfl⟩;exact⟨_,n,_,ρ,_,⟨rfl,hK⟩,aG.dstS hd _,⟨[_],rfl,_,[],rfl,ko,rfl⟩,M2,mY.trans st2⟩
    ·subst e;obtain⟨a',p',b',e,e2,e5,e3,e4⟩:=hL.part;have hK:=cT (cT (h3 a' p' b' e gh2));have hbk:w'.heap[g]? =some (.map es clock):=by rw[hf.block g (bd (hw w rfl)) (by simpa using Ne.symm hrg)];exact hw w rfl
     obtain⟨M1,mY⟩:=sf (x:= .it i gh2) M hj hA rfl (.inr rfl) rfl hf fun st=>⟨r,g,hA,hA2,hk,by rw[hup];rfl,fun w2 h2=>by subst h2;exact hr2⟩;obtain⟨ks,k1,k2⟩:=e5;obtain⟨vs,v1,v2⟩:=e3;obtain⟨M2,st2⟩:=sf (x:= .mapr d l (a'++b') [p'] gh2) M1 (hup _) hA2 rfl (.inr rfl) rfl ((Fr.refl [] w').mono (by simp)) fun st2=>⟨hkd,g,es,clock,mv,_,[p],hA2,hR,ax.mv ((mY.trans st2).mv (X:=X)) hD,ax.mv ((mY.trans st2).mv (X:=X)) e4,⟨e2,⟨ks,k1,aC.mv ((mY.trans st2).mv (X:=X)) k2⟩,⟨vs,v1,aC.mv ((mY.trans st2).mv (X:=X)) v2⟩,trivial⟩,fun w2 h2=>by subst h2;exact hbk⟩;have mm:=(mY.trans st2).mv (X:=X);refine⟨_,n,_,ρ,_,⟨rfl,hK⟩,aG.dstS hd _,⟨[_,_,_],rfl,_,_,rfl,ko,_,_,rfl,jr (e2▸k1) (aC.mv mm k2),_,_,rfl,jr v1 (aC.mv mm v2),rfl⟩,M2,mY.trans st2⟩
   ·exact h.elim
  ·exact h.elim
 ·exact h.elim
end
end Go.Proofs.YtiliglahlfkikaaGreatDoor.V
end

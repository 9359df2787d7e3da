/- Plain: what the specification says of what a copy has: what the copy says. First: loops as folds. -/
import Derived.Test.YtmpeiadlohbikaaGreatDoorYs21
import Derived.Test.YtmpeiadlohbikaaGreatDoorYs3
import Derived.Test.YtmpeiadlohbikaaGreatDoorYs19
section
set_option linter.unusedVariables false
set_option linter.unusedSimpArgs false
namespace Go.Proofs.YtmpeiadlohbikaaGreatDoor.V
open Go.RowKit Go.Shelf Go.Lib Go.Sort
theorem pi{α:Type} [Inhabited α](l:List α)(i j:Int)(x:α)(hi:0≤i)(hj:0≤j)(hl:i<l.length):ix (l.set i.toNat x) j=if j=i then x else ix l j:=by
 unfold ix;rw[List.getElem?_set];by_cases e:j=i
 ·subst e;rw[if_pos rfl,if_pos rfl,if_pos (by omega)];rfl
 ·rw[if_neg (by omega),if_neg e]
def eY(v:List Int)(id:bF):Prop:=(0≤id.origin∧id.origin<8∧1≤id.seq∧id.seq≤1048576)∧id.seq≤ix v id.origin
def tI(a b:List Int):Prop:= ∀j:Int,0≤j→j<8→ix a j≤ix b j
theorem tI.refl(a:List Int):tI a a:=fun _ _ _=>Int.le_refl _
theorem tI.trans{a b c:List Int}(h:tI a b)(h':tI b c):tI a c:=fun j h0 h8=>Int.le_trans (h j h0 h8) (h' j h0 h8)
theorem tI.has{a b:List Int}(h:tI a b){id:bF}(hi:eY a id):eY b id:=⟨hi.1,Int.le_trans hi.2 (h _ hi.1.1 hi.1.2.1)⟩
def fF(b a:ah):Prop:=(a.id=b.id∧a.n<b.n)∨(a.id≠b.id∧eY b.deps a.id)
abbrev Pr:=ah×ax
theorem Ht{a b:bF}(h1:a.origin=b.origin)(h2:a.seq=b.seq):a=b:=by
 obtain⟨a1,a2⟩:=a;obtain⟨b1,b2⟩:=b;simp only at h1 h2;subst h1;subst h2;rfl
structure JD(k:Int)(key:List UInt8)(p:Pr):Prop where
 good:rR k p.2
 act:p.2.act=p.1.op.act
 name:p.2.name=p.1.op.name
 val:p.2.val=p.1.op.val
 tag:p.2.tag=am.mk p.1.id p.1.n
 at_:p.1.op.act=1∨p.1.op.act=5→p.2.at_=p.1.at_
 key:p.1.key=key
 dl:p.1.deps.length=8
 og:(0≤p.1.id.origin∧p.1.id.origin<3)∧1≤p.1.id.seq∧p.1.id.seq≤1048576
 okop:bv p.1.op=0∧cy p.1.op.act=k
structure GI(k:Int)(key:List UInt8)(G:List Pr):Prop where
 cor: ∀p∈G,JD k key p
 nd:(G.map (·.2.tag)).Nodup
 tg: ∀r∈G,(r.1.op.act=4∨r.1.op.act=6)→ ∀t,t∈r.2.tags↔ ∃p∈G,fF r.1 p.1∧p.1.op.act=r.1.op.act - 1∧p.1.op.name=r.1.op.name∧p.2.tag=t∧ ¬ ∃q∈G,fF r.1 q.1∧q.1.op.act=r.1.op.act∧t∈q.2.tags
def vv(i:Int)(v:List Int)(n:Int):List Int:=if 0<n then v.set i.toNat (ix v i+1)else v
structure RI(k:Int)(G:List Pr)(i:Int)(s:aG)(v:List Int)(n:Int)(hs:List Pr):Prop where
 vl:v.length=8
 n0:0≤n
 sub: ∀p∈hs,p∈G
 nd:(hs.map (·.2.tag)).Nodup
 mem: ∀p∈G,p∈hs↔eY (vv i v n) p.1.id
 cl: ∀p∈G,eY v p.1.id→tI p.1.deps v
 cu: ∀p∈G,p.1.id=⟨i,ix v i+1⟩→p.1.deps=v
 own: ∀p∈G,p.1.id.origin=i→p.1.id.seq≤ix v i∨(p.1.id.seq=ix v i+1∧0<n∧p.1.n<n)
 oth: ∀p∈G,ix p.1.deps i≤ix v i
 obj:gV k s (hs.map (·.2))
theorem rN{G:List Pr}(h:(G.map (·.2.tag)).Nodup){p q:Pr}(hp:p∈G)(hq:q∈G)(e:p.2.tag=q.2.tag):p=q:=qv h hp hq e
theorem pj{i:Int}{v:List Int}{n j:Int}(hi:0≤i∧i<3)(hv:v.length=8)(hj:0≤j):ix (vv i v n) j=if 0<n∧j=i then ix v i+1 else ix v j:=by
 unfold vv;by_cases h:0<n
 ·rw[if_pos h,pi _ _ _ _ hi.1 hj (by omega)];simp[h]
 ·rw[if_neg h,if_neg (fun q=>h q.1)]
theorem rO{i:Int}{v:List Int}{n:Int}(hi:0≤i∧i<3)(hv:v.length=8):tI v (vv i v n):=fun j h0 _=>by
 rw[pj hi hv h0];split
 ·rename_i h;rw[h.2];omega
 ·exact Int.le_refl _
section
variable {k:Int} {key:List UInt8} {G:List Pr} {i:Int} {s s':aG} {v:List Int} {n:Int} {hs:List Pr}
theorem RI.new_tag(hi:0≤i∧i<3)(R:RI k G i s v n hs)(g:GI k key G): ∀p∈G,p.2.tag≠am.mk ⟨i,ix v i+1⟩ n:=fun p hp e=>by
 rw[(g.cor p hp).tag]at e;injection e with e1 e2;rcases R.own p hp (by rw[e1])with h|h
 ·rw[e1]at h;simp only at h;omega
 ·omega
theorem iK(hi:0≤i∧i<3)(hv:v.length=8){id:bF}(ho:0≤id.origin∧id.origin<3)(hq:1≤id.seq∧id.seq≤1048576):eY (vv i v n) id↔eY v id∨(0<n∧id=⟨i,ix v i+1⟩):=by
 unfold eY;rw[pj hi hv ho.1];by_cases h:0<n∧id.origin=i
 ·rw[if_pos h];constructor
  ·rintro⟨h1,h2⟩;by_cases h3:id.seq≤ix v id.origin
   ·exact .inl ⟨h1,h3⟩
   ·exact .inr ⟨h.1,Ht h.2 (by rw[h.2]at h3;show id.seq=ix v i+1;omega)⟩
  ·rintro(⟨h1,h2⟩|⟨_,rfl⟩)
   ·exact⟨h1,by rw[h.2]at h2;omega⟩
   ·exact⟨⟨ho.1,by simp only at ho⊢;omega,hq.1,hq.2⟩,Int.le_refl _⟩
 ·rw[if_neg h];constructor
  ·exact fun q=> .inl q
  ·rintro(q|⟨h1,rfl⟩)
   ·exact q
   ·exact absurd ⟨h1,rfl⟩ h
theorem RI.sees(hi:0≤i∧i<3)(R:RI k G i s v n hs)(g:GI k key G){a:ah}(ha:a.id=⟨i,ix v i+1⟩)(hn:a.n=n)(hd:a.deps=v){p:Pr}(hp:p∈G):fF a p.1↔p∈hs:=by
 have c:=g.cor p hp;rw[R.mem p hp,iK hi R.vl c.og.1 c.og.2];unfold fF;rw[hd,ha,hn];by_cases e:p.1.id=⟨i,ix v i+1⟩
 ·constructor
  ·rintro(⟨_,h⟩|⟨h,_⟩)
   ·exact .inr ⟨by
     rcases R.own p hp (by rw[e])with q|q
     ·rw[e]at q;simp only at q;omega
     ·exact q.2.1,e⟩
   ·exact absurd e h
  ·rintro(h|_)
   ·unfold eY at h;rw[e]at h;simp only at h;omega
   ·rcases R.own p hp (by rw[e])with q|q
    ·rw[e]at q;simp only at q;omega
    ·exact .inl ⟨e,q.2.2⟩
 ·constructor
  ·rintro(⟨h,_⟩|⟨_,h⟩)
   ·exact absurd h e
   ·exact .inl h
  ·rintro(h|⟨_,h⟩)
   ·exact .inr ⟨e,h⟩
   ·exact absurd h e
theorem RI.unseen(hi:0≤i∧i<3)(R:RI k G i s v n hs){a:ah}(ha:a.id=⟨i,ix v i+1⟩)(hn:a.n=n): ∀r∈G,¬fF r.1 a:=fun r hr h=>by
 rcases h with⟨h1,h2⟩|⟨_,_,h2⟩
 ·rcases R.own r hr (by rw[←h1,ha])with q|q
  ·rw[←h1,ha]at q;simp only at q;omega
  ·omega
 ·have:=R.oth r hr;rw[ha]at h2;simp only at h2;omega
theorem xV(a:ah): ¬fF a a:=fun h=>by
 rcases h with⟨_,h⟩|⟨h,_⟩
 ·omega
 ·exact h rfl
theorem GI.add(g:GI k key G){p:Pr}(c:JD k key p)(hf: ∀q∈G,q.2.tag≠p.2.tag)(hus: ∀r∈G,¬fF r.1 p.1)(hse: ∀q∈G,fF p.1 q.1↔q∈hs)(hsub: ∀q∈hs,q∈G)
  (ht:p.1.op.act=4∨p.1.op.act=6→ ∀t,t∈p.2.tags↔ ∃q∈hs,q.1.op.act=p.1.op.act - 1∧q.1.op.name=p.1.op.name∧q.2.tag=t∧ ¬ ∃x∈hs,x.1.op.act=p.1.op.act∧t∈x.2.tags):GI k key (G++ [p]):=by
 refine⟨fun q hq=>?_,?_,fun r hr ha t=>?_⟩
 ·rcases List.mem_append.1 hq with hq|hq
  ·exact g.cor q hq
  ·rw[List.mem_singleton]at hq;subst hq;exact c
 ·rw[List.map_append,List.nodup_append];refine⟨g.nd,by simp,fun x hx y hy e=>?_⟩;obtain⟨q,hq,rfl⟩:=List.mem_map.1 hx;simp at hy;subst hy;exact hf q hq e
 ·have ex: ∀{P:Pr→Prop} {b:ah},(∀q∈G,fF b q.1→True)→(¬fF b p.1)→((∃q∈G++ [p],fF b q.1∧P q)↔ ∃q∈G,fF b q.1∧P q):=fun{P b} _ hb=>by
   constructor
   ·rintro⟨q,hq,h1,h2⟩;rcases List.mem_append.1 hq with hq|hq
    ·exact⟨q,hq,h1,h2⟩
    ·rw[List.mem_singleton]at hq;subst hq;exact absurd h1 hb
   ·rintro⟨q,hq,h1,h2⟩;exact⟨q,List.mem_append_left _ hq,h1,h2⟩
  rcases List.mem_append.1 hr with hr|hr
  ·have hb:=hus r hr;rw[ex (fun _ _ _=>trivial) hb,ex (fun _ _ _=>trivial) hb];exact g.tg r hr ha t
  ·rw[List.mem_singleton]at hr;subst hr;have hb:=xV r.1;rw[ex (fun _ _ _=>trivial) hb,ex (fun _ _ _=>trivial) hb,ht ha t];have sw: ∀{P:Pr→Prop},(∃q∈hs,P q)↔ ∃q∈G,fF r.1 q.1∧P q:=fun{P}=>by
    constructor
    ·rintro⟨q,hq,h⟩;exact⟨q,hsub q hq,(hse q (hsub q hq)).2 hq,h⟩
    ·rintro⟨q,hq,h1,h⟩;exact⟨q,(hse q hq).1 h1,h⟩
   rw[sw,sw]
theorem RI.add(hi:0≤i∧i<3)(R:RI k G i s v n hs)(g:GI k key G){p:Pr}(c:JD k key p)(ha:p.1.id=⟨i,ix v i+1⟩)(hn:p.1.n=n)(hd:p.1.deps=v)(ho:gV k s' ((hs++ [p]).map (·.2))):RI k (G++ [p]) i s' v (n+1) (hs++ [p]):=by
 have hf:=R.new_tag hi g;have hpt:p.2.tag=am.mk ⟨i,ix v i+1⟩ n:=by rw[c.tag,ha,hn]
 have hn0:=R.n0;refine⟨R.vl,by omega,fun q hq=>?_,?_,fun q hq=>?_,fun q hq h=>?_,fun q hq h=>?_,fun q hq h=>?_,fun q hq=>?_,ho⟩
 ·rcases List.mem_append.1 hq with hq|hq
  ·exact List.mem_append_left _ (R.sub q hq)
  ·exact List.mem_append_right _ hq
 ·rw[List.map_append,List.nodup_append];refine⟨R.nd,by simp,fun x hx y hy e=>?_⟩;obtain⟨q,hq,rfl⟩:=List.mem_map.1 hx;simp at hy;subst hy;exact hf q (R.sub q hq) (e.trans hpt)
 ·rcases List.mem_append.1 hq with hq|hq
  ·have cq:=g.cor q hq;have hne:q≠p:=fun e=>hf q hq (e▸hpt);rw[List.mem_append,List.mem_singleton,or_iff_left hne,R.mem q hq,iK hi R.vl cq.og.1 cq.og.2,iK hi R.vl cq.og.1 cq.og.2];constructor
   ·rintro(h|⟨_,h⟩)
    ·exact .inl h
    ·exact .inr ⟨by omega,h⟩
   ·rintro(h|⟨_,h⟩)
    ·exact .inl h
    ·rcases R.own q hq (by rw[h])with z|z
     ·rw[h]at z;simp only at z;omega
     ·exact .inr ⟨z.2.1,h⟩
  ·rw[List.mem_singleton]at hq;subst hq;rw[iK hi R.vl c.og.1 c.og.2];exact⟨fun _=> .inr ⟨by omega,ha⟩,fun _=>by simp⟩
 ·rcases List.mem_append.1 hq with hq|hq
  ·exact R.cl q hq h
  ·rw[List.mem_singleton]at hq;subst hq;rw[hd];exact tI.refl _
 ·rcases List.mem_append.1 hq with hq|hq
  ·exact R.cu q hq h
  ·rw[List.mem_singleton]at hq;subst hq;exact hd
 ·rcases List.mem_append.1 hq with hq|hq
  ·rcases R.own q hq h with z|z
   ·exact .inl z
   ·exact .inr ⟨z.1,by omega,by omega⟩
  ·rw[List.mem_singleton]at hq;subst hq;exact .inr ⟨by rw[ha],by omega,by omega⟩
 ·rcases List.mem_append.1 hq with hq|hq
  ·exact R.oth q hq
  ·rw[List.mem_singleton]at hq;subst hq;rw[hd];exact Int.le_refl _
theorem RI.other{i2:Int}{v2:List Int}{n2:Int}(hi:0≤i∧i<3)(hi2:0≤i2∧i2<3)(hne:i≠i2)(R:RI k G i s v n hs){p:Pr}(c:JD k key p)(ha:p.1.id=⟨i2,ix v2 i2+1⟩)(hd:p.1.deps=v2)(x1:ix v i2≤ix v2 i2)(x2:ix v2 i≤ix v i)(hf:p∉G):RI k (G++ [p]) i s v n hs:=by
 have nh: ¬eY (vv i v n) p.1.id:=fun h=>by
  have:=h.2;rw[ha]at this;simp only at this;rw[pj hi R.vl hi2.1,if_neg (fun q=>hne q.2.symm)]at this;omega
 refine⟨R.vl,R.n0,fun q hq=>List.mem_append_left _ (R.sub q hq),R.nd,fun q hq=>?_,fun q hq h=>?_,fun q hq h=>?_,fun q hq h=>?_,fun q hq=>?_,R.obj⟩
 ·rcases List.mem_append.1 hq with hq|hq
  ·exact R.mem q hq
  ·rw[List.mem_singleton]at hq;subst hq;exact⟨fun h=>absurd (R.sub _ h) hf,fun h=>absurd h nh⟩
 ·rcases List.mem_append.1 hq with hq|hq
  ·exact R.cl q hq h
  ·rw[List.mem_singleton]at hq;subst hq;exact absurd ((rO hi R.vl).has h) nh
 ·rcases List.mem_append.1 hq with hq|hq
  ·exact R.cu q hq h
  ·rw[List.mem_singleton]at hq;subst hq;rw[ha]at h;injection h with h;exact absurd h.symm hne
 ·rcases List.mem_append.1 hq with hq|hq
  ·exact R.own q hq h
  ·rw[List.mem_singleton]at hq;subst hq;rw[ha]at h;exact absurd h.symm hne
 ·rcases List.mem_append.1 hq with hq|hq
  ·exact R.oth q hq
  ·rw[List.mem_singleton]at hq;subst hq;rw[hd];exact x2
theorem RI.next(hi:0≤i∧i<3)(R:RI k G i s v n hs)(g:GI k key G):RI k G i s (v.set i.toNat (ix v i+1)) 0 hs:=by
 have hl:=R.vl;have ixs: ∀j:Int,0≤j→ix (v.set i.toNat (ix v i+1)) j=if j=i then ix v i+1 else ix v j:=fun j hj=>pi _ _ _ _ hi.1 hj (by omega);have hle:tI v (v.set i.toNat (ix v i+1)):=fun j h0 _=>by
  by_cases h:j=i
  ·rw[ixs j h0,if_pos h,h];omega
  ·rw[ixs j h0,if_neg h];exact Int.le_refl _
 have hv0:vv i (v.set i.toNat (ix v i+1)) 0=v.set i.toNat (ix v i+1):=by unfold vv;rw[if_neg (by omega)]
 have hm: ∀q∈G,eY (v.set i.toNat (ix v i+1)) q.1.id↔eY (vv i v n) q.1.id:=fun q hq=>by
  have cq:=g.cor q hq;have h1:v.set i.toNat (ix v i+1)=vv i v 1:=by unfold vv;rw[if_pos (by omega)]
  rw[h1,iK hi hl cq.og.1 cq.og.2,iK hi hl cq.og.1 cq.og.2];constructor
  ·rintro(h|⟨_,h⟩)
   ·exact .inl h
   ·rcases R.own q hq (by rw[h])with z|z
    ·rw[h]at z;simp only at z;omega
    ·exact .inr ⟨z.2.1,h⟩
  ·rintro(h|⟨_,h⟩)
   ·exact .inl h
   ·exact .inr ⟨by omega,h⟩
 refine⟨by simpa using hl,by omega,R.sub,R.nd,fun q hq=>?_,fun q hq h=>?_,fun q hq h=>?_,fun q hq h=>?_,fun q hq=>?_,R.obj⟩
 ·rw[hv0,hm q hq];exact R.mem q hq
 ·have cq:=g.cor q hq;rcases(iK hi hl cq.og.1 cq.og.2).1 ((hm q hq).1 h)with z|z
  ·exact(R.cl q hq z).trans hle
  ·rw[R.cu q hq z.2];exact hle
 ·rw[ixs i hi.1,if_pos rfl]at h;rcases R.own q hq (by rw[h])with z|z<;>(rw[h]at z;simp only at z;omega)
 ·rw[ixs i hi.1,if_pos rfl];rcases R.own q hq h with z|z
  ·exact .inl (by omega)
  ·exact .inl (by omega)
 ·have:=R.oth q hq;rw[ixs i hi.1,if_pos rfl];omega
theorem RI.take{i2:Int}{s2:aG}{v2 v3:List Int}{n2:Int}{hs2 hs3:List Pr}(hi:0≤i∧i<3)(hi2:0≤i2∧i2<3)(R:RI k G i s v 0 hs)(R2:RI k G i2 s2 v2 n2 hs2)(x2:ix v2 i≤ix v i)
  (hl3:v3.length=8) (h3: ∀j:Int,0≤j→j<8→ix v3 j=max (ix v j) (ix v2 j)) (hm: ∀q,q∈hs3↔q∈hs2∧eY v2 q.1.id∧ ¬eY v q.1.id) (hnd:(hs3.map (·.2.tag)).Nodup) (g:GI k key G) (ho:gV k s' ((hs++hs3).map (·.2))):RI k G i s' v3 0 (hs++hs3):=by
 have e0: ∀w,vv i w 0=w:=fun w=>by unfold vv;rw[if_neg (by omega)]
 have l1:tI v v3:=fun j a b=>by rw[h3 j a b];omega
 have l2:tI v2 v3:=fun j a b=>by rw[h3 j a b];omega
 have h8:i<8:=by omega
 have hii:ix v3 i=ix v i:=by rw[h3 i hi.1 h8];omega
 have hh: ∀id,eY v3 id→eY v id∨eY v2 id:=fun id h=>by
  have:=h.2;rw[h3 _ h.1.1 h.1.2.1]at this;by_cases q:id.seq≤ix v id.origin
  ·exact .inl ⟨h.1,q⟩
  ·exact .inr ⟨h.1,by omega⟩
 have zr: ∀q∈G,q∈hs↔eY v q.1.id:=fun q hq=>by rw[R.mem q hq,e0]
 refine⟨hl3,by omega,fun q hq=>?_,?_,fun q hq=>?_,fun q hq h=>?_,fun q hq h=>?_,fun q hq h=>?_,fun q hq=>?_,ho⟩
 ·rcases List.mem_append.1 hq with hq|hq
  ·exact R.sub q hq
  ·exact R2.sub q ((hm q).1 hq).1
 ·rw[List.map_append,List.nodup_append];refine⟨R.nd,hnd,fun x hx y hy e=>?_⟩;obtain⟨q,hq,rfl⟩:=List.mem_map.1 hx;obtain⟨z,hz,rfl⟩:=List.mem_map.1 hy;have hz':=(hm z).1 hz;have:q=z:=rN g.nd (R.sub q hq) (R2.sub z hz'.1) e;subst this;exact hz'.2.2 ((zr q (R.sub q hq)).1 hq)
 ·rw[e0,List.mem_append,hm,zr q hq];constructor
  ·rintro(h|h)
   ·exact l1.has h
   ·exact l2.has h.2.1
  ·intro h;by_cases q1:eY v q.1.id
   ·exact .inl q1
   ·have q2:=(hh _ h).resolve_left q1;exact .inr ⟨(R2.mem q hq).2 ((rO hi2 R2.vl).has q2),q2,q1⟩
 ·rcases hh _ h with z|z
  ·exact(R.cl q hq z).trans l1
  ·exact(R2.cl q hq z).trans l2
 ·rw[hii]at h;rcases R.own q hq (by rw[h])with z|z
  ·rw[h]at z;simp only at z;omega
  ·omega
 ·rw[hii];exact R.own q hq h
 ·rw[hii];exact R.oth q hq
theorem RI.closed(hi:0≤i∧i<3)(R:RI k G i s v n hs)(g:GI k key G): ∀p∈G,eY (vv i v n) p.1.id→tI p.1.deps (vv i v n):=fun p hp h=>by
 have c:=g.cor p hp;rcases(iK hi R.vl c.og.1 c.og.2).1 h with z|z
 ·exact(R.cl p hp z).trans (rO hi R.vl)
 ·rw[R.cu p hp z.2];exact rO hi R.vl
theorem RI.down(hi:0≤i∧i<3)(R:RI k G i s v n hs)(g:GI k key G){r q:Pr}(hr:r∈hs)(hq:q∈G)(h:fF r.1 q.1):q∈hs:=by
 have hr':=R.sub r hr;rw[R.mem q hq];have h1:=(R.mem r hr').1 hr;rcases h with⟨e,_⟩|⟨_,h⟩
 ·rw[e];exact h1
 ·exact(R.closed hi g r hr' h1).has h
theorem RI.undone(hi:0≤i∧i<3)(R:RI k G i s v n hs)(g:GI k key G){p:Pr}(hp:p∈hs)(hact:p.1.op.act=3∨p.1.op.act=5):
  (∃r∈hs,r.1.op.act=p.1.op.act+1∧r.1.op.name=p.1.op.name∧fF r.1 p.1)↔ ∃r∈hs,r.1.op.act=p.1.op.act+1∧p.2.tag∈r.2.tags:=by
 constructor
 ·rintro⟨r,hr,h1,h2,h3⟩;have ht:=g.tg r (R.sub r hr) (by omega);by_cases hm:p.2.tag∈r.2.tags
  ·exact⟨r,hr,h1,hm⟩
  ·have: ∃q∈G,fF r.1 q.1∧q.1.op.act=r.1.op.act∧p.2.tag∈q.2.tags:=Classical.byContradiction fun hn=>hm ((ht _).2 ⟨p,R.sub p hp,h3,by omega,h2.symm,rfl,hn⟩);obtain⟨q,hq,hs1,hs2,hs3⟩:=this;exact⟨q,R.down hi g hr hq hs1,by omega,hs3⟩
 ·rintro⟨r,hr,h1,h2⟩;obtain⟨q,hq,hs1,hs2,hs3,hs4,_⟩:=(g.tg r (R.sub r hr) (by omega) _).1 h2;have:q=p:=rN g.nd hq (R.sub p hp) hs4;subst this;exact⟨r,hr,h1,hs3.symm,hs1⟩
end
end Go.Proofs.YtmpeiadlohbikaaGreatDoor.V
end

section
set_option linter.unusedVariables false
namespace Go.Proofs.YtmpeiadlohbikaaGreatDoor
section
variable {α β:Type} [DecidableEq β] {c:α→Bool} {f:α→β} {lt:α→α→Bool} {xs:List α} {m:List (β×α)} {a:α}
structure jg(c:α→Bool)(f:α→β)(lt:α→α→Bool)(xs:List α)(m:List (β×α)):Prop where
 no: ∀k,bj m k=none→ ∀b∈xs,c b=true→f b≠k
 so: ∀k a,bj m k=some a→a∈xs∧c a=true∧f a=k∧ ∀b∈xs,c b=true→f b=k→lt a b=false
theorem jg.nil:jg c f lt [] []:=⟨fun _ _ _ h=>(by cases h),fun k a h=>(by simp[bj]at h)⟩
theorem jg.skip(h:jg c f lt xs m)(ha: ¬c a=true):jg c f lt (xs++ [a]) m:=by
 refine⟨fun k hk b hb hc=>?_,fun k x hk=>?_⟩
 ·rcases List.mem_append.1 hb with hb|hb
  ·exact h.no k hk b hb hc
  ·rw[List.mem_singleton]at hb;subst hb;exact absurd hc ha
 ·obtain⟨h1,h2,h3,h4⟩:=h.so k x hk;refine⟨List.mem_append_left _ h1,h2,h3,fun b hb hc hf=>?_⟩;rcases List.mem_append.1 hb with hb|hb
  ·exact h4 b hb hc hf
  ·rw[List.mem_singleton]at hb;subst hb;exact absurd hc ha
theorem jg.keep(h:jg c f lt xs m){b:α}(hb:bj m (f a)=some b)(hl:lt b a=false):jg c f lt (xs++ [a]) m:=by
 refine⟨fun k hk y hy hc=>?_,fun k x hk=>?_⟩
 ·rcases List.mem_append.1 hy with hy|hy
  ·exact h.no k hk y hy hc
  ·rw[List.mem_singleton]at hy;subst hy;intro e;rw[e,hk]at hb;cases hb
 ·obtain⟨h1,h2,h3,h4⟩:=h.so k x hk;refine⟨List.mem_append_left _ h1,h2,h3,fun y hy hc hf=>?_⟩;rcases List.mem_append.1 hy with hy|hy
  ·exact h4 y hy hc hf
  ·rw[List.mem_singleton]at hy;subst hy;rw[hf,hk]at hb;injection hb with hb;rw[hb];exact hl
theorem jg.set(h:jg c f lt xs m)(ha:c a=true)(irr:lt a a=false)(tr: ∀x y,lt x a=true→lt a y=true→lt x y=true)(hb: ∀b,bj m (f a)=some b→lt b a=true):jg c f lt (xs++ [a]) (cA m (f a) a):=by
 refine⟨fun k hk y hy hc=>?_,fun k x hk=>?_⟩
 ·rw[qM]at hk;split at hk
  ·cases hk
  rename_i hne;rcases List.mem_append.1 hy with hy|hy
  ·exact h.no k hk y hy hc
  ·rw[List.mem_singleton]at hy;subst hy;exact fun e=>hne e.symm
 ·rw[qM]at hk;split at hk
  ·rename_i e;injection hk with hk;subst hk;refine⟨by simp,ha,e.symm,fun y hy hc hf=>?_⟩;rcases List.mem_append.1 hy with hy|hy
   ·cases hm:bj m (f a)with
    |none=>exact absurd (hf.trans e) (h.no _ hm y hy hc)
    |some b=>
     obtain⟨h1,h2,h3,h4⟩:=h.so _ b hm;cases hl:lt a y with
     |false=>rfl
     |true=>
      have:=tr b y (hb b hm) hl;rw[h4 y hy hc (hf.trans e)]at this;cases this
   ·rw[List.mem_singleton]at hy;subst hy;exact irr
  ·rename_i hne;obtain⟨h1,h2,h3,h4⟩:=h.so k x hk;refine⟨List.mem_append_left _ h1,h2,h3,fun y hy hc hf=>?_⟩;rcases List.mem_append.1 hy with hy|hy
   ·exact h4 y hy hc hf
   ·rw[List.mem_singleton]at hy;subst hy;exact absurd hf.symm hne
end
theorem mz{α β:Type} [DecidableEq α]{m:List (α×β)}(nd:(m.map (·.1)).Nodup){k:α}{v:β}:bj m k=some v↔(k,v)∈m:=by
 constructor
 ·intro h;unfold bj at h;cases hf:m.find? (fun e=>decide (e.1=k))with
  |none=>rw[hf]at h;cases h
  |some p=>
   rw[hf]at h;have h1:=List.find?_some hf;have h2:=List.mem_of_find?_eq_some hf;injection h with h;obtain⟨p1,p2⟩:=p;simp only[decide_eq_true_eq]at h1 h;subst h1;subst h;exact h2
 ·intro h;obtain⟨j,hj⟩:=List.mem_iff_getElem?.1 h;exact xl m nd hj
end Go.Proofs.YtmpeiadlohbikaaGreatDoor
end

section
set_option linter.unusedVariables false
set_option linter.unusedSimpArgs false
set_option maxRecDepth 20000
set_option maxHeartbeats 4000000
namespace Go.Proofs.YtmpeiadlohbikaaGreatDoor.V
open Go.RowKit
def jy(b:ah)(a:ah):Bool:=
 if a.id=b.id then
  decide (a.n<b.n)
 else
  ii b.deps a.id
def QO:bG U:=⟨[.d (.st 3),.d (.st 3)],fun xs es K=> ∃(b:ah) (a:ah),xs= [(B1 b),(B1 a)]∧es= []∧K (.v (vb (jy b a))) []⟩
theorem L6:Fk 26 QO:=by
 refine fo Tryz.f26 [.d .bool] [] (aa Jz aq) fun xs es K=>?_;rintro⟨b,a,rfl,rfl,h⟩;refine⟨rfl,?_⟩;have hf0:=jy.eq_1 b a;refine wI hf0 (fun _ hf0=>e0) fun _ hf0=>?_;refine⟨_,_,rfl,rfl,?_⟩;exact e0
def fS(act:Int):Int:=
 if act=3 then
  4
 else
  if act=5 then
   6
  else
   0
def NC:bG U:=⟨[.d (.int .i64)],fun xs es K=> ∃(act:Int),xs= [(vi act)]∧es= []∧K (.v (vi (fS act))) []⟩
theorem ND:Fk 162 NC:=by
 refine fo Tryz.f162 [.d (.int .i64)] [] (aq) fun xs es K=>?_;rintro⟨act,rfl,rfl,h⟩;refine⟨rfl,?_⟩;have hf0:=fS.eq_1 act;exact wI hf0 (fun _ hf0=>e0) fun _ hf0=>wI hf0 (fun _ hf0=>e0) fun _ hf0=>e0
def jf(r:ah)(a:ah):Bool:=
 decide ¬fS a.op.act=0&&decide (r.op.act=fS a.op.act)&&decide (r.key=a.key)&&decide (r.op.name=a.op.name)&&jy r a
def NE:bG U:=⟨[.d (.st 3),.d (.st 3)],fun xs es K=> ∃(r:ah) (a:ah),xs= [(B1 r),(B1 a)]∧es= []∧K (.v (vb (jf r a))) []⟩
theorem NF:Fk 112 NE:=by
 refine fo Tryz.f112 [.d .bool] [] (aa L6 (aa ND aq)) fun xs es K=>?_;rintro⟨r,a,rfl,rfl,h⟩;refine⟨rfl,?_⟩;have hf0:=jf.eq_1 r a;refine⟨_,rfl,rfl,?_⟩;refine⟨_,fun _=>⟨_,_,rfl,rfl,rfl,rfl⟩,rfl,?_⟩;exact e0
def g6(r:ah)(v:List (Int))(a:ah):Bool:=
 ii v r.id&&jf r a
def NG:bG U:=⟨[.d (.st 3),.n,.n],fun xs es K=> ∃(r:ah) (v:List (Int)) (a:ah),xs= [(B1 r),⟨false,[(1,.pd (.arr 8 (.int .u32)) v)]⟩,⟨false,[(1,.pd (.st 3) a)]⟩]∧es= []∧K (.v (vb (g6 r v a))) []⟩
theorem NH:Fk 111 NG:=by
 refine fo Tryz.f111 [.d .bool] [] (aa Jz (aa NF aq)) fun xs es K=>?_;rintro⟨r,v,a,rfl,rfl,h⟩;refine⟨rfl,?_⟩;have hf0:=g6.eq_1 r v a;refine⟨_,_,rfl,rfl,?_⟩;refine⟨_,fun _=>⟨_,_,rfl,rfl,rfl,rfl⟩,rfl,?_⟩;exact e0
def fD(l:List ah)(f:ah→Bool):Bool:=
 decide (0≤m7 l f)
def QP:bG U:=⟨[.d (.sl (.st 3)),.f1 (.st 3)],fun xs es K=> ∃(l:List ah) (f:ah→Bool),xs= [(vO l),⟨false,[(1,.f1 (.st 3) f)]⟩]∧es= []∧K (.v (vb (fD l f))) []⟩
theorem O5:Fk 53 QP:=by
 refine fo Tryz.f53 [.d .bool] [] (aa N2 aq) fun xs es K=>?_;rintro⟨l,f,rfl,rfl,h⟩;refine⟨rfl,?_⟩;have hf0:=fD.eq_1 l f;refine⟨_,_,rfl,rfl,?_⟩;exact e0
def bQ(a:ah)(l:List ah)(v:List Int):Bool:=
 if ii v a.id=true then
  !fD l fun(t:ah)=>g6 t v a
 else
  false
def QQ:bG U:=⟨[.d (.st 3),.d (.sl (.st 3)),.d (.arr 8 (.int .u32))],fun xs es K=> ∃(a:ah) (l:List ah) (v:List Int),xs= [(B1 a),(vO l),(jN v)]∧es= []∧K (.v (vb (bQ a l v))) []⟩
theorem QR:Fk 44 QQ:=by
 refine fo Tryz.f44 [.d .bool] [] (aa O5 (aa Jz (aa NH aq))) fun xs es K=>?_;rintro⟨a,l,v,rfl,rfl,h⟩;refine⟨rfl,?_⟩;have hf0:=bQ.eq_1 a l v;refine⟨_,_,rfl,rfl,?_⟩;refine wN hf0 (fun _ hf0=>e0) fun _ hf0=>?_;refine⟨fun(t:ah)=>g6 t v a,fun t0=>⟨_,_,_,rfl,rfl,rfl,rfl⟩,?_⟩;refine⟨_,_,rfl,rfl,?_⟩;exact e0
def dn(a:ah)(b:ah):Int:=
 if bX a.at_ b.at_=0 then
  if a.op.act=1 then
   ls a.op.val b.op.val
  else
   ak (am.mk a.id a.n) (am.mk b.id b.n)
 else
  bX a.at_ b.at_
def QS:bG U:=⟨[.d (.st 3),.d (.st 3)],fun xs es K=> ∃(a:ah) (b:ah),xs= [(B1 a),(B1 b)]∧es= []∧K (.v (vi (dn a b))) []⟩
theorem QT:Fk 45 QS:=by
 refine fo Tryz.f45 [.d (.int .i64)] [] (aa Ai (aa Hl (aa Jw aq))) fun xs es K=>?_;rintro⟨a,b,rfl,rfl,h⟩;refine⟨rfl,?_⟩;have hf0:=dn.eq_1 a b;refine⟨_,_,rfl,rfl,?_⟩;refine wN hf0 (fun _ hf0=>e0) fun _ hf0=>?_;refine wI hf0 (fun _ hf0=>?_) fun _ hf0=>?_
 ·refine⟨_,_,rfl,rfl,?_⟩;exact e0
 ·refine⟨_,_,rfl,rfl,?_⟩;exact e0
def jz(a:ah)(key:List UInt8)(v:List (Int))(kind:Int):Bool:=
 decide ¬a.key=key||!ii v a.id||decide ¬bv a.op=0||decide ¬cy a.op.act=kind
def NI:bG U:=⟨[.d (.st 3),.n,.n,.n],fun xs es K=> ∃(a:ah) (key:List UInt8) (v:List (Int)) (kind:Int),xs= [(B1 a),⟨false,[(1,.pd .str key)]⟩,⟨false,[(1,.pd (.arr 8 (.int .u32)) v)]⟩,⟨false,[(1,.pd (.int .i64) kind)]⟩]∧es= []∧K (.v (vb (jz a key v kind))) []⟩
theorem NJ:Fk 110 NI:=by
 refine fo Tryz.f110 [.d .bool] [] (aa JA (aa IJ (aa Jz aq))) fun xs es K=>?_;rintro⟨a,key,v,kind,rfl,rfl,h⟩;refine⟨rfl,?_⟩;have hf0:=jz.eq_1 a key v kind;refine dp [(true,0),(true,1),(true,2),(true,3),(true,4),(true,5),(true,6),(true,7),(false,8),(true,9),(true,10),(true,11),(true,12),(true,13),(false,14),(true,15),(true,16),(true,17),(true,18),(true,19),(true,20),(true,22),(false,21),(true,23),(true,24),(true,25)] none (nw 1) ?_;refine⟨_,fun _=>⟨_,_,rfl,rfl,rfl,rfl⟩,rfl,?_⟩;refine⟨_,fun _=>⟨_,rfl,rfl,rfl,rfl⟩,rfl,?_⟩;refine⟨_,fun _=>⟨_,rfl,rfl,rfl,rfl⟩,rfl,?_⟩;exact e0
def aA(key:List UInt8)(kind:Int)(l:List ah)(v:List Int):List ah:=
 List.filter (fun(x:ah)=>!jz x key v kind) l
def QU:bG U:=⟨[.d .str,.d (.int .i64),.d (.sl (.st 3)),.d (.arr 8 (.int .u32))],fun xs es K=> ∃(key:List UInt8) (kind:Int) (l:List ah) (v:List Int),xs= [(vt key),(vi kind),(vO l),(jN v)]∧es= []∧(l.length≤1000000)∧K (.v (vO (aA key kind l v))) []⟩
theorem QV:Fk 43 QU:=by
 refine fo Tryz.f43 [.d (.sl (.st 3))] [] (aa N5 (aa NU (aa NJ aq))) fun xs es K=>?_;rintro⟨key,kind,l,v,rfl,rfl,hl,h⟩;refine⟨rfl,?_⟩;have hf0:=aA.eq_1 key kind l v;refine⟨_,rfl,rfl,(by assumption),?_⟩;refine⟨fun(t:ah)=>jz t key v kind,fun t0=>⟨_,_,_,_,rfl,rfl,rfl,rfl⟩,?_⟩;refine⟨_,_,rfl,rfl,?_⟩;exact e0
def eL(a:aF)(b:aF):Int:=
 nk a.field b.field
def QW:bG U:=⟨[.d (.st 6),.d (.st 6)],fun xs es K=> ∃(a:aF) (b:aF),xs= [(Me a),(Me b)]∧es= []∧K (.v (vi (eL a b))) []⟩
theorem QX:Fk 47 QW:=by
 refine fo Tryz.f47 [.d (.int .i64)] [] (aa OZ aq) fun xs es K=>?_;rintro⟨a,b,rfl,rfl,h⟩;refine⟨rfl,?_⟩;have hf0:=eL.eq_1 a b;refine⟨_,_,rfl,rfl,?_⟩;exact e0
def il(a:ah)(v:List (Int)):Bool:=
 ii v a.id&&!tw a.deps v
def QY:bG U:=⟨[.d (.st 3),.n],fun xs es K=> ∃(a:ah) (v:List (Int)),xs= [(B1 a),⟨false,[(1,.pd (.arr 8 (.int .u32)) v)]⟩]∧es= []∧K (.v (vb (il a v))) []⟩
theorem QZ:Fk 54 QY:=by
 refine fo Tryz.f54 [.d .bool] [] (aa Jz (aa P1 aq)) fun xs es K=>?_;rintro⟨a,v,rfl,rfl,h⟩;refine⟨rfl,?_⟩;have hf0:=il.eq_1 a v;refine⟨_,_,rfl,rfl,?_⟩;refine⟨_,fun _=>⟨_,_,rfl,rfl,rfl,rfl⟩,rfl,?_⟩;exact e0
def cn(l:List ah)(v:List Int):Bool:=
 !fD l fun(t:ah)=>il t v
def Q0:bG U:=⟨[.d (.sl (.st 3)),.d (.arr 8 (.int .u32))],fun xs es K=> ∃(l:List ah) (v:List Int),xs= [(vO l),(jN v)]∧es= []∧K (.v (vb (cn l v))) []⟩
theorem Dm:Fk 17 Q0:=by
 refine fo Tryz.f17 [.d .bool] [] (aa O5 (aa QZ aq)) fun xs es K=>?_;rintro⟨l,v,rfl,rfl,h⟩;refine⟨rfl,?_⟩;have hf0:=cn.eq_1 l v;refine⟨fun(t:ah)=>il t v,fun t0=>⟨_,_,rfl,rfl,rfl,rfl⟩,?_⟩;refine⟨_,_,rfl,rfl,?_⟩;exact e0
end Go.Proofs.YtmpeiadlohbikaaGreatDoor.V
end

section
set_option linter.unusedVariables false
set_option linter.unusedSimpArgs false
set_option maxRecDepth 20000
set_option maxHeartbeats 4000000
namespace Go.Proofs.YtmpeiadlohbikaaGreatDoor.V
open Go.RowKit
open Go.Shelf Go.Lib Go.Sort
theorem Al{α:Type} [Inhabited α](l:List α){j:Int}(h0:0≤j)(h1:j<l.length):ix l j∈l:=rL l h0 h1
def uX(p:List UInt8×ah):aF:=aF.mk p.1 p.2.op.val
def lA(kind val:Int)(m:List (List UInt8×ah)):be:=if kind=1 then be.mk kind (match m with| []=>val|p::_=>p.2.op.val) []else be.mk kind val (bl (fun(t t1:aF)=>eL t t1) (m.map uX))
def mu(kind:Int)(m:List (List UInt8×ah))(v0 v1:Int)(l:List aF)(left:List (List UInt8×ah)):Prop:=
 bL m∧(kind=1→(∀p∈m,p.1= [])∧l= []∧((left=m∧v1=v0)∨(left= []∧ ∃p,m= [p]∧v1=p.2.op.val)))∧(¬kind=1→v1=v0∧(l++left.map uX).Perm (m.map uX))
theorem xU{kind:Int}{m:List (List UInt8×ah)}{v0:Int}(h:bL m)(h1:kind=1→ ∀p∈m,p.1= []):mu kind m v0 v0 [] m:=⟨h,fun e=>⟨h1 e,rfl,.inl ⟨rfl,rfl⟩⟩,fun _=>⟨rfl,by simp⟩⟩
theorem Dn{kind:Int}{m:List (List UInt8×ah)}{v0 v1:Int}{l:List aF}{left a b:List (List UInt8×ah)}{p:List UInt8×ah}(h:mu kind m v0 v1 l left)(e:left=a++p::b)(hk:kind=1):mu kind m v0 p.2.op.val l (a++b):=by
 refine⟨h.1,fun _=>?_,fun q=>absurd hk q⟩;obtain⟨h1,h2,⟨rfl,h3⟩|⟨h3,_⟩⟩:=h.2.1 hk
 ·refine⟨h1,h2,.inr ?_⟩;have hn:=h.1;unfold bL at hn;subst e;have key: ∀(l:List (List UInt8×ah)),(∀p∈l,p.1= [])→(l.map (·.1)).Nodup→l.length≤1:=fun l hl hn=>by
   match l,hl,hn with
   | [],_,_=>simp
   | [x],_,_=>simp
   |x::y::r,hl,hn=>
    rw[List.map_cons,List.map_cons,List.nodup_cons]at hn;exact absurd (by rw[hl x (by simp),hl y (by simp)];simp) hn.1
  have:=key _ h1 hn;simp only[List.length_append,List.length_cons]at this;obtain rfl:a= []:=List.eq_nil_of_length_eq_zero (by omega);obtain rfl:b= []:=List.eq_nil_of_length_eq_zero (by omega);exact⟨rfl,p,rfl,rfl⟩
 ·subst h3;have:=congrArg List.length e;simp at this
theorem Am{kind:Int}{m:List (List UInt8×ah)}{v0 v1:Int}{l:List aF}{left a b:List (List UInt8×ah)}{p:List UInt8×ah}(h:mu kind m v0 v1 l left)(e:left=a++p::b)(hk: ¬kind=1):mu kind m v0 v1 (l++ [aF.mk p.1 p.2.op.val]) (a++b):=by
 refine⟨h.1,fun q=>absurd q hk,fun _=>⟨(h.2.2 hk).1,List.Perm.trans ?_ (h.2.2 hk).2⟩⟩;subst e;simp only[List.map_append,List.map_cons,List.append_assoc,List.singleton_append];exact List.Perm.append_left _ (List.perm_middle (a:=uX p)).symm
theorem wL{kind:Int}{m:List (List UInt8×ah)}{v0 v1:Int}{l:List aF}{left:List (List UInt8×ah)}(h:mu kind m v0 v1 l left):l.length≤m.length:=by
 by_cases hk:kind=1
 ·rw[(h.2.1 hk).2.1];simp
 ·have:=(h.2.2 hk).2.length_eq;simp at this;omega
theorem tA:eL=aP:=rfl
theorem wM{m:List (List UInt8×ah)}(h:bL m):((m.map uX).map (·.field)).Nodup:=by rw[List.map_map];exact h
theorem Hn{kind:Int}{m:List (List UInt8×ah)}{v0 v1:Int}{l:List aF}{left:List (List UInt8×ah)}(h:mu kind m v0 v1 l left)(e:left= []):fL l (fun(t t1:aF)=>eL t t1):=by
 show fL l eL
 rw[tA];by_cases hk:kind=1
 ·rw[(h.2.1 hk).2.1];exact gy List.nodup_nil
 ·have hp:=(h.2.2 hk).2;rw[e,List.map_nil,List.append_nil]at hp;exact(gy (wM h.1)).perm hp
theorem Do{kind:Int}{m:List (List UInt8×ah)}{v0 v1:Int}{l:List aF}{left:List (List UInt8×ah)}(h:mu kind m v0 v1 l left)(e:left= []):be.mk kind v1 (bl (fun(t t1:aF)=>eL t t1) l)=lA kind v0 m:=by
 unfold lA;by_cases hk:kind=1
 ·rw[if_pos hk];obtain⟨_,h2,h3⟩:=h.2.1 hk;rw[h2,show bl (fun(t t1:aF)=>eL t t1) ([]:List aF)= []from List.eq_nil_of_length_eq_zero (by rw[da];rfl)];rcases h3 with⟨h3,h4⟩|⟨_,p,h3,h4⟩
  ·rw[←h3,e,h4]
  ·rw[h3,h4]
 ·rw[if_neg hk];have hp:=(h.2.2 hk).2;rw[e,List.map_nil,List.append_nil]at hp;have:fL (m.map uX) (fun(t t1:aF)=>eL t t1):=by show fL _ eL;rw[tA];exact gy (wM h.1)
  rw[(h.2.2 hk).1,oU this hp]
theorem Dp{key:List UInt8}{kind:Int}{l:List ah}{v:List Int}{x:ah}(h:x∈aA key kind l v):x∈l∧x.key=key∧ii v x.id=true∧bv x.op=0∧cy x.op.act=kind:=by
 unfold aA at h;obtain⟨h1,h2⟩:=List.mem_filter.1 h;unfold jz at h2;simp at h2;exact⟨h1,h2.1.1.1,h2.1.1.2,h2.1.2,h2.2⟩
theorem pa{o:gG}(h:bv o=0)(hk:cy o.act=1):o.name= []:=by
 unfold bv at h;have ha:o.act=1:=by
  unfold cy at hk
  repeat' split at hk
  all_goals first|assumption|(exfalso;omega)
 have hf:(cz o.act).name=false:=by rw[ha];rfl
 split at h
 ·cases h
 split at h
 ·cases h
 split at h
 ·cases h
 rename_i h3;exact Classical.byContradiction fun q=>h3 ⟨by rw[hf];simp,q⟩
theorem rG{key:List UInt8}{kind:Int}{l:List ah}{v:List Int}{m:List (List UInt8×ah)}{x:ah}(h:kind=1→ ∀p∈m,p.1= [])(hx:x∈aA key kind l v):kind=1→ ∀p∈cA m x.op.name x,p.1= []:=fun hk p hp=>by
 have hs:=Dp hx;have hn:=pa hs.2.2.2.1 (hs.2.2.2.2.trans hk);have hm:p.1∈(cA m x.op.name x).map (·.1):=List.mem_map_of_mem hp;rw[nl]at hm;split at hm
 ·obtain⟨q,hq,e⟩:=List.mem_map.1 hm;rw[←e];exact h hk q hq
 ·rcases List.mem_append.1 hm with hm|hm
  ·obtain⟨q,hq,e⟩:=List.mem_map.1 hm;rw[←e];exact h hk q hq
  ·rw[List.mem_singleton.1 hm];exact hn
def cM(key:List UInt8)(l:List ah)(v:List Int):Nat→Int→Int→(List (List UInt8×ah))→(be×Int)⊕(Int×Int×(List (List UInt8×ah)))
 |0,s40,s10_1,s11=> .inr (s40,s10_1,s11)
 |n1+1,s40,s10_1,s11=>
  if s40<((aA key (ab key).fst l v).length:Int)then
   if(ix (aA key (ab key).fst l v) s40).op.act=2 then
    cM key l v n1 (s40+1) (IntKind.i64.wrap (s10_1+(ix (aA key (ab key).fst l v) s40).op.val)) s11
   else
    if(ix (aA key (ab key).fst l v) s40).op.act=1 then
     if(bQ (ix (aA key (ab key).fst l v) s40) l v=true)∧((¬((bj s11 (ix (aA key (ab key).fst l v) s40).op.name).isSome=true))∨(dn ((bj s11 (ix (aA key (ab key).fst l v) s40).op.name).getD pR.zero) (ix (aA key (ab key).fst l v) s40)<0))then
      cM key l v n1 (s40+1) s10_1 (cA s11 (ix (aA key (ab key).fst l v) s40).op.name (ix (aA key (ab key).fst l v) s40))
     else
      cM key l v n1 (s40+1) s10_1 s11
    else
     if(ix (aA key (ab key).fst l v) s40).op.act=3 then
      if(bQ (ix (aA key (ab key).fst l v) s40) l v=true)∧((¬((bj s11 (ix (aA key (ab key).fst l v) s40).op.name).isSome=true))∨(dn ((bj s11 (ix (aA key (ab key).fst l v) s40).op.name).getD pR.zero) (ix (aA key (ab key).fst l v) s40)<0))then
       cM key l v n1 (s40+1) s10_1 (cA s11 (ix (aA key (ab key).fst l v) s40).op.name (ix (aA key (ab key).fst l v) s40))
      else
       cM key l v n1 (s40+1) s10_1 s11
     else
      if(ix (aA key (ab key).fst l v) s40).op.act=5 then
       if(bQ (ix (aA key (ab key).fst l v) s40) l v=true)∧((¬((bj s11 (ix (aA key (ab key).fst l v) s40).op.name).isSome=true))∨(dn ((bj s11 (ix (aA key (ab key).fst l v) s40).op.name).getD pR.zero) (ix (aA key (ab key).fst l v) s40)<0))then
        cM key l v n1 (s40+1) s10_1 (cA s11 (ix (aA key (ab key).fst l v) s40).op.name (ix (aA key (ab key).fst l v) s40))
       else
        cM key l v n1 (s40+1) s10_1 s11
      else
       cM key l v n1 (s40+1) s10_1 s11
  else
   .inr (s40,s10_1,s11)
def bh(key:List UInt8)(l:List ah)(v:List Int):be×Int:=
 if(ab key).snd=0 then
  if 4096<(l.length:Int)then
   (be.mk 0 0 [],8)
  else
   match cM key l v ((((aA key (ab key).fst l v).length:Int)- 0).toNat+1) 0 0 ([]:List (List UInt8×ah))with
   | .inl r=>r
   | .inr (s40,s10_1,s11)=>
    (lA (ab key).fst s10_1 s11,0)
 else
  (be.mk 0 0 [],(ab key).snd)
def Q2:bG U:=⟨[.d .str,.d (.sl (.st 3)),.d (.arr 8 (.int .u32))],fun xs es K=> ∃(key:List UInt8) (l:List ah) (v:List Int),xs= [(vt key),(vO l),(jN v)]∧es= []∧(key.length≤1000000)∧K (.tup [(IQ ((bh key l v).1)),(vi ((bh key l v).2))]) []⟩
theorem yz:Fk 13 Q2:=by
 refine fo Tryz.f13 [.d (.st 7),.d (.int .i64)] [] (aa Qu (aa QV (aa QR (aa QT (aa Pb (aa QX aq)))))) fun xs es K=>?_;rintro⟨key,l,v,rfl,rfl,hk,h⟩;refine⟨rfl,?_⟩;have hf0:=bh.eq_1 key l v;refine⟨_,rfl,rfl,(by omega),?_⟩;refine vN hf0 iD (fun _ hf0=>?_) (fun _ hf0=>?_)
 ·rw[hf0]at h;exact h
 ·refine fun h1=>?_;have h1:(↑l.length:Int)≤(9223372036854775807:Int):=h1.2;refine vI hf0 iD (fun _ hf0=>?_) (fun _ hf0=>?_)
  ·rw[hf0]at h;exact h
  ·refine⟨_,_,_,_,rfl,rfl,(by omega),?_⟩;refine fun h3=>?_;have h3:(↑(aA key (ab key).fst l v).length:Int)≤(9223372036854775807:Int):=h3.2;refine⟨Int×Int×(List (List UInt8×ah)),4,fun(s40,s10_1,s11)=> [(1,.v ⟨false,[(1,.d (.sl (.st 3)) l)]⟩),(5,.v ⟨false,[(1,.ptr 0 0)]⟩),(6,.v ⟨false,[(1,.ptr 1 0)]⟩),(7,.v ⟨false,[(1,.d (.int .i64) (0:Int))]⟩),(8,.v ⟨false,[(1,.d (.int .i64) ((ab key).fst))]⟩),(10,.v ⟨false,[(1,.ptr 2 0)]⟩),(11,.v ⟨false,[(1,.mp 3)]⟩),(38,.v ⟨false,[(1,.d (.sl (.st 3)) (aA key (ab key).fst l v))]⟩),(39,.v ⟨false,[(1,.d (.int .i64) (↑(aA key (ab key).fst l v).length:Int))]⟩),(40,.v ⟨false,[(1,.d (.int .i64) s40)]⟩)],fun(s40,s10_1,s11)=> [(0,.cells [(8,.d (.arr 8 (.int .u32)) v)] 45),(1,.cells [(1,.d (.int .i64) (0:Int)),(1,.d (.int .i64) (0:Int)),(1,.nils)] 75),(2,.cells [(1,.d (.int .i64) ((ab key).fst)),(1,.d (.int .i64) s10_1),(1,.nils)] 75),(3,.map pR s11)],cY (fun(s40,s10_1,s11)=>((↑(aA key (ab key).fst l v).length:Int)- s40).toNat) (fun(s40,s10_1,s11)=>((0:Int)≤s40)∧(s40≤(↑(aA key (ab key).fst l v).length:Int))∧((s11.length:Int)≤s40)∧(bL s11)∧((s11.length:Int)≤s40)∧(((ab key).fst=1→ ∀p∈s11,p.1= []))∧True) (fun n1 (s40,s10_1,s11)=>cM key l v n1 s40 s10_1 s11) (cM key l v (((↑(aA key (ab key).fst l v).length:Int)-(0:Int)).toNat+1) (0:Int) (0:Int) ([]:List (List UInt8×ah))),fun(s40,s10_1,s11)=>((↑(aA key (ab key).fst l v).length:Int)- s40).toNat,⟨[],((0:Int),(0:Int),([]:List (List UInt8×ah))),cY.mk0 _ (Nat.lt_succ_self _) ⟨show(0:Int)≤(0:Int)from by omega,show(0:Int)≤(↑(aA key (ab key).fst l v).length:Int)from by omega,show(↑[].length:Int)≤(0:Int)from by(simp only[List.length_append,List.length_cons,List.length_nil];omega),show bL []from List.nodup_nil,show(↑[].length:Int)≤(0:Int)from by(simp only[List.length_append,List.length_cons,List.length_nil];omega),show(ab key).fst=(1:Int)→ ∀(p:List UInt8×ah),p∈ []→p.fst= []from by simp,trivial⟩ rfl,?_⟩,?_⟩
   ·repeat (first|exact trivial|refine And.intro rfl ?_)
   ·rintro⟨s40,s10_1,s11⟩ ⟨n1,hc1,⟨hi1_0,hi1_1,hi1_2,hi1_3,hi1_4,hi1_5,-⟩,hf1⟩;have hf1:=hf1.trans (cM.eq_2 key l v s40 s10_1 s11 n1);refine vI hf1 iD (fun _ hf1=>?_) (fun _ hf1=>?_)
    ·refine And.intro (show(0:Int)≤s40∧s40<(↑(aA key (ab key).fst l v).length:Int)from by omega) ?_;refine vI hf1 iD (fun _ hf1=>?_) (fun _ hf1=>?_)
     ·refine .inr ?_;refine .inl (And.intro (qU (p:=s40) (q:=(1:Int)) (r:=s40+(1:Int)) (by omega)) ?_);have hm1:((↑(aA key (ab key).fst l v).length:Int)-(s40+(1:Int))).toNat<((↑(aA key (ab key).fst l v).length:Int)- s40).toNat:=by omega
      refine⟨[],(s40+(1:Int),IntKind.i64.wrap (s10_1+(ix (aA key (ab key).fst l v) s40).op.val),s11),hm1,cY.next (s:=(s40,s10_1,s11)) hc1 hm1 ⟨show(0:Int)≤s40+(1:Int)from by omega,show s40+(1:Int)≤(↑(aA key (ab key).fst l v).length:Int)from by omega,show(↑s11.length:Int)≤s40+(1:Int)from by omega,show bL s11 from by omega,show(↑s11.length:Int)≤s40+(1:Int)from by omega,show(ab key).fst=(1:Int)→ ∀(p:List UInt8×ah),p∈s11→p.fst= []from by omega,trivial⟩ hf1,?_⟩;repeat (first|exact trivial|refine And.intro rfl ?_)
     ·refine vI hf1 iD (fun _ hf1=>?_) (fun _ hf1=>?_)
      ·refine vT iD (show(ix (aA key (ab key).fst l v) s40).op.act=(1:Int)from by omega) ?_;refine⟨_,_,_,rfl,rfl,?_⟩;refine⟨_,fun _ h8=>⟨_,_,rfl,rfl,rfl,rfl⟩,rfl,?_⟩;refine vI hf1 (iA iB (iO (iN iB) iD)) (fun _ hf1=>?_) (fun _ hf1=>?_)
       ·refine .inl (And.intro (qU (p:=s40) (q:=(1:Int)) (r:=s40+(1:Int)) (by omega)) ?_);have hm1:((↑(aA key (ab key).fst l v).length:Int)-(s40+(1:Int))).toNat<((↑(aA key (ab key).fst l v).length:Int)- s40).toNat:=by omega
        refine⟨[],(s40+(1:Int),s10_1,cA s11 (ix (aA key (ab key).fst l v) s40).op.name (ix (aA key (ab key).fst l v) s40)),hm1,cY.next (s:=(s40,s10_1,s11)) hc1 hm1 ⟨show(0:Int)≤s40+(1:Int)from by omega,show s40+(1:Int)≤(↑(aA key (ab key).fst l v).length:Int)from by omega,show(↑(cA s11 (ix (aA key (ab key).fst l v) s40).op.name (ix (aA key (ab key).fst l v) s40)).length:Int)≤s40+(1:Int)from by(have hm:=eC s11 (ix (aA key (ab key).fst l v) s40).op.name (ix (aA key (ab key).fst l v) s40);omega),show bL (cA s11 (ix (aA key (ab key).fst l v) s40).op.name (ix (aA key (ab key).fst l v) s40))from iI (by assumption) _ _,show(↑(cA s11 (ix (aA key (ab key).fst l v) s40).op.name (ix (aA key (ab key).fst l v) s40)).length:Int)≤s40+(1:Int)from by(have hm:=eC s11 (ix (aA key (ab key).fst l v) s40).op.name (ix (aA key (ab key).fst l v) s40);omega),show(ab key).fst=(1:Int)→ ∀(p:List UInt8×ah),p∈cA s11 (ix (aA key (ab key).fst l v) s40).op.name (ix (aA key (ab key).fst l v) s40)→p.fst= []from rG (by assumption) (Al _ (by omega) (by omega)),trivial⟩ hf1,?_⟩;repeat (first|exact trivial|refine And.intro rfl ?_)
       ·refine .inl (And.intro (qU (p:=s40) (q:=(1:Int)) (r:=s40+(1:Int)) (by omega)) ?_);have hm1:((↑(aA key (ab key).fst l v).length:Int)-(s40+(1:Int))).toNat<((↑(aA key (ab key).fst l v).length:Int)- s40).toNat:=by omega
        refine⟨[],(s40+(1:Int),s10_1,s11),hm1,cY.next (s:=(s40,s10_1,s11)) hc1 hm1 ⟨show(0:Int)≤s40+(1:Int)from by omega,show s40+(1:Int)≤(↑(aA key (ab key).fst l v).length:Int)from by omega,show(↑s11.length:Int)≤s40+(1:Int)from by omega,show bL s11 from by omega,show(↑s11.length:Int)≤s40+(1:Int)from by omega,show(ab key).fst=(1:Int)→ ∀(p:List UInt8×ah),p∈s11→p.fst= []from by omega,trivial⟩ hf1,?_⟩;repeat (first|exact trivial|refine And.intro rfl ?_)
      ·refine vI hf1 iD (fun _ hf1=>?_) (fun _ hf1=>?_)
       ·refine vT iD (show(ix (aA key (ab key).fst l v) s40).op.act=(3:Int)from by omega) ?_;refine⟨_,_,_,rfl,rfl,?_⟩;refine⟨_,fun _ h12=>⟨_,_,rfl,rfl,rfl,rfl⟩,rfl,?_⟩;refine vI hf1 (iA iB (iO (iN iB) iD)) (fun _ hf1=>?_) (fun _ hf1=>?_)
        ·refine .inl (And.intro (qU (p:=s40) (q:=(1:Int)) (r:=s40+(1:Int)) (by omega)) ?_);have hm1:((↑(aA key (ab key).fst l v).length:Int)-(s40+(1:Int))).toNat<((↑(aA key (ab key).fst l v).length:Int)- s40).toNat:=by omega
         refine⟨[],(s40+(1:Int),s10_1,cA s11 (ix (aA key (ab key).fst l v) s40).op.name (ix (aA key (ab key).fst l v) s40)),hm1,cY.next (s:=(s40,s10_1,s11)) hc1 hm1 ⟨show(0:Int)≤s40+(1:Int)from by omega,show s40+(1:Int)≤(↑(aA key (ab key).fst l v).length:Int)from by omega,show(↑(cA s11 (ix (aA key (ab key).fst l v) s40).op.name (ix (aA key (ab key).fst l v) s40)).length:Int)≤s40+(1:Int)from by(have hm:=eC s11 (ix (aA key (ab key).fst l v) s40).op.name (ix (aA key (ab key).fst l v) s40);omega),show bL (cA s11 (ix (aA key (ab key).fst l v) s40).op.name (ix (aA key (ab key).fst l v) s40))from iI (by assumption) _ _,show(↑(cA s11 (ix (aA key (ab key).fst l v) s40).op.name (ix (aA key (ab key).fst l v) s40)).length:Int)≤s40+(1:Int)from by(have hm:=eC s11 (ix (aA key (ab key).fst l v) s40).op.name (ix (aA key (ab key).fst l v) s40);omega),show(ab key).fst=(1:Int)→ ∀(p:List UInt8×ah),p∈cA s11 (ix (aA key (ab key).fst l v) s40).op.name (ix (aA key (ab key).fst l v) s40)→p.fst= []from rG (by assumption) (Al _ (by omega) (by omega)),trivial⟩ hf1,?_⟩;repeat (first|exact trivial|refine And.intro rfl ?_)
        ·refine .inl (And.intro (qU (p:=s40) (q:=(1:Int)) (r:=s40+(1:Int)) (by omega)) ?_);have hm1:((↑(aA key (ab key).fst l v).length:Int)-(s40+(1:Int))).toNat<((↑(aA key (ab key).fst l v).length:Int)- s40).toNat:=by omega
         refine⟨[],(s40+(1:Int),s10_1,s11),hm1,cY.next (s:=(s40,s10_1,s11)) hc1 hm1 ⟨show(0:Int)≤s40+(1:Int)from by omega,show s40+(1:Int)≤(↑(aA key (ab key).fst l v).length:Int)from by omega,show(↑s11.length:Int)≤s40+(1:Int)from by omega,show bL s11 from by omega,show(↑s11.length:Int)≤s40+(1:Int)from by omega,show(ab key).fst=(1:Int)→ ∀(p:List UInt8×ah),p∈s11→p.fst= []from by omega,trivial⟩ hf1,?_⟩;repeat (first|exact trivial|refine And.intro rfl ?_)
       ·refine vI hf1 iD (fun _ hf1=>?_) (fun _ hf1=>?_)
        ·refine⟨_,_,_,rfl,rfl,?_⟩;refine⟨_,fun _ h16=>⟨_,_,rfl,rfl,rfl,rfl⟩,rfl,?_⟩;refine vI hf1 (iA iB (iO (iN iB) iD)) (fun _ hf1=>?_) (fun _ hf1=>?_)
         ·refine .inl (And.intro (qU (p:=s40) (q:=(1:Int)) (r:=s40+(1:Int)) (by omega)) ?_);have hm1:((↑(aA key (ab key).fst l v).length:Int)-(s40+(1:Int))).toNat<((↑(aA key (ab key).fst l v).length:Int)- s40).toNat:=by omega
          refine⟨[],(s40+(1:Int),s10_1,cA s11 (ix (aA key (ab key).fst l v) s40).op.name (ix (aA key (ab key).fst l v) s40)),hm1,cY.next (s:=(s40,s10_1,s11)) hc1 hm1 ⟨show(0:Int)≤s40+(1:Int)from by omega,show s40+(1:Int)≤(↑(aA key (ab key).fst l v).length:Int)from by omega,show(↑(cA s11 (ix (aA key (ab key).fst l v) s40).op.name (ix (aA key (ab key).fst l v) s40)).length:Int)≤s40+(1:Int)from by(have hm:=eC s11 (ix (aA key (ab key).fst l v) s40).op.name (ix (aA key (ab key).fst l v) s40);omega),show bL (cA s11 (ix (aA key (ab key).fst l v) s40).op.name (ix (aA key (ab key).fst l v) s40))from iI (by assumption) _ _,show(↑(cA s11 (ix (aA key (ab key).fst l v) s40).op.name (ix (aA key (ab key).fst l v) s40)).length:Int)≤s40+(1:Int)from by(have hm:=eC s11 (ix (aA key (ab key).fst l v) s40).op.name (ix (aA key (ab key).fst l v) s40);omega),show(ab key).fst=(1:Int)→ ∀(p:List UInt8×ah),p∈cA s11 (ix (aA key (ab key).fst l v) s40).op.name (ix (aA key (ab key).fst l v) s40)→p.fst= []from rG (by assumption) (Al _ (by omega) (by omega)),trivial⟩ hf1,?_⟩;repeat (first|exact trivial|refine And.intro rfl ?_)
         ·refine .inl (And.intro (qU (p:=s40) (q:=(1:Int)) (r:=s40+(1:Int)) (by omega)) ?_);have hm1:((↑(aA key (ab key).fst l v).length:Int)-(s40+(1:Int))).toNat<((↑(aA key (ab key).fst l v).length:Int)- s40).toNat:=by omega
          refine⟨[],(s40+(1:Int),s10_1,s11),hm1,cY.next (s:=(s40,s10_1,s11)) hc1 hm1 ⟨show(0:Int)≤s40+(1:Int)from by omega,show s40+(1:Int)≤(↑(aA key (ab key).fst l v).length:Int)from by omega,show(↑s11.length:Int)≤s40+(1:Int)from by omega,show bL s11 from by omega,show(↑s11.length:Int)≤s40+(1:Int)from by omega,show(ab key).fst=(1:Int)→ ∀(p:List UInt8×ah),p∈s11→p.fst= []from by omega,trivial⟩ hf1,?_⟩;repeat (first|exact trivial|refine And.intro rfl ?_)
        ·refine .inl (And.intro (qU (p:=s40) (q:=(1:Int)) (r:=s40+(1:Int)) (by omega)) ?_);have hm1:((↑(aA key (ab key).fst l v).length:Int)-(s40+(1:Int))).toNat<((↑(aA key (ab key).fst l v).length:Int)- s40).toNat:=by omega
         refine⟨[],(s40+(1:Int),s10_1,s11),hm1,cY.next (s:=(s40,s10_1,s11)) hc1 hm1 ⟨show(0:Int)≤s40+(1:Int)from by omega,show s40+(1:Int)≤(↑(aA key (ab key).fst l v).length:Int)from by omega,show(↑s11.length:Int)≤s40+(1:Int)from by omega,show bL s11 from by omega,show(↑s11.length:Int)≤s40+(1:Int)from by omega,show(ab key).fst=(1:Int)→ ∀(p:List UInt8×ah),p∈s11→p.fst= []from by omega,trivial⟩ hf1,?_⟩;repeat (first|exact trivial|refine And.intro rfl ?_)
    ·rw[hf1]at hf0;refine fun b18=>?_;refine⟨Int×(List (List UInt8×ah))×(List (List UInt8×ah))×Gh×(List aF),6,fun(s10_1',e3l,e3c,e3g,e5)=> [(6,.v ⟨false,[(1,.ptr 1 0)]⟩),(7,.v ⟨false,[(1,.d (.int .i64) (0:Int))]⟩),(8,.v ⟨false,[(1,.d (.int .i64) ((ab key).fst))]⟩),(10,.v ⟨false,[(1,.ptr 2 0)]⟩),(89,.v ⟨false,[(1,.ptr 4 0)]⟩)],fun(s10_1',e3l,e3c,e3g,e5)=> [(1,.cells [(1,.d (.int .i64) (0:Int)),(1,.d (.int .i64) (0:Int)),(1,.nils)] 75),(2,.cells [(1,.d (.int .i64) ((ab key).fst)),(1,.d (.int .i64) s10_1'),(1,.own 5 0)] 75),(3,.mapr pR s11 e3l e3c e3g),(4,.it 3 e3g),(5,.row 0 (.st 6) e5 144)],fun(s10_1',e3l,e3c,e3g,e5)=>(mu (ab key).fst s11 s10_1 s10_1' e5 e3l)∧True,fun(s10_1',e3l,e3c,e3g,e5)=>e3l.length,⟨[],(s10_1,s11,([]:List (List UInt8×ah)),b18,([]:List aF)),⟨show mu (ab key).fst s11 s10_1 s10_1 [] s11 from xU (by assumption) (by assumption),trivial⟩,?_⟩,?_⟩
     ·repeat (first|exact trivial|refine And.intro rfl ?_)
     ·rintro⟨s10_1',e3l,e3c,e3g,e5⟩ ⟨hi2_0,-⟩;refine And.intro (show e3g=e3g from by simp) ?_;refine And.intro (fun _=>?_) (fun(a20:List (List UInt8×ah)) (p21:List UInt8×ah) (b22:List (List UInt8×ah)) (h23:e3l=a20++p21::b22)=>?_)
      ·refine vF iB (by simp) ?_;refine⟨fun(t t':aF)=>eL t t',fun t0 t1=>⟨_,_,rfl,rfl,rfl,rfl⟩,?_⟩;refine⟨_,_,rfl,rfl,(Hn (by assumption) (by assumption)),(show e5.length<(4611686018427387904:Nat)from by(have hl:=wL (show mu (ab key).fst s11 s10_1 s10_1' e5 e3l from by assumption);have hz:=List.length_filter_le (fun(x:ah)=>!jz x key v (ab key).fst) l;have hy:(aA key (ab key).fst l v).length≤l.length:=hz;omega)),?_⟩;have er0:(be.mk (ab key).fst s10_1' (bl (fun(t t':aF)=>eL t t') e5):be)=lA (ab key).fst s10_1 s11:=Do (by assumption) (by assumption);rw[hf0]at h;replace h:=h;dsimp only at h;rw[←er0]at h;exact h
      ·refine fun b24=>?_;refine vT iB rfl ?_;refine And.intro (show b24=b24 from by simp) ?_;refine vR iD (fun _=>?_) (fun _=>?_)
       ·have hm2:(a20++b22).length<e3l.length:=o6 (by assumption);refine⟨[],(p21.snd.op.val,a20++b22,[p21],b24,e5),hm2,⟨show mu (ab key).fst s11 s10_1 p21.snd.op.val e5 (a20++b22)from Dn (by assumption) (by assumption) (by assumption),trivial⟩,?_⟩;repeat (first|exact trivial|refine And.intro rfl ?_)
       ·refine And.intro (show(e5.length+ [aF.mk p21.fst p21.snd.op.val].length)*(24:Nat)≤(140737488355328:Nat)from by(have hl:=wL (show mu (ab key).fst s11 s10_1 s10_1' e5 e3l from by assumption);have hz:=List.length_filter_le (fun(x:ah)=>!jz x key v (ab key).fst) l;have hy:(aA key (ab key).fst l v).length≤l.length:=hz;simp only[List.length_append,List.length_cons,List.length_nil];omega)) ?_;have hm2:(a20++b22).length<e3l.length:=o6 (by assumption);refine⟨[],(s10_1',a20++b22,[p21],b24,e5++ [aF.mk p21.fst p21.snd.op.val]),hm2,⟨show mu (ab key).fst s11 s10_1 s10_1' (e5++ [aF.mk p21.fst p21.snd.op.val]) (a20++b22)from Am (by assumption) (by assumption) (by assumption),trivial⟩,?_⟩;repeat (first|exact trivial|refine And.intro rfl ?_)
end Go.Proofs.YtmpeiadlohbikaaGreatDoor.V
end

section
set_option linter.unusedVariables false
set_option linter.unusedSimpArgs false
namespace Go.Proofs.YtmpeiadlohbikaaGreatDoor.V
open Go.RowKit Go.Shelf Go.Lib Go.Sort
theorem fT{v:List Int}{id:bF}(h:0≤id.seq):ii v id=true↔eY v id:=by
 unfold ii gm eY;split
 ·simp;omega
 ·simp;omega
theorem jB{v:List Int}{id:bF}:aD v id=true↔eY v id:=by
 unfold aD fm eY;split
 ·simp;omega
 ·simp;omega
theorem nJ{b a:ah}(h:0≤a.id.seq):jy b a=true↔fF b a:=by
 unfold jy fF;by_cases e:a.id=b.id
 ·rw[if_pos e];simp[e]
 ·rw[if_neg e,fT h];simp[e]
theorem kY(l:List ah)(f:ah→Bool):fD l f=l.any f:=pf f l
def IK(m:List (List UInt8×ah))(a:ah):Bool:=match bj m a.op.name with
 |none=>true
 |some x=>decide (dn x a<0)
theorem wQ(m:List (List UInt8×ah))(a:ah)(z:ah):(¬((bj m a.op.name).isSome=true)∨dn ((bj m a.op.name).getD z) a<0)↔IK m a=true:=by
 unfold IK;cases bj m a.op.name<;>simp
def fU(l:List ah)(v:List Int)(b:Int×List (List UInt8×ah))(a:ah):Int×List (List UInt8×ah):=
 if a.op.act=2 then(IntKind.i64.wrap (b.1+a.op.val),b.2)
 else if(a.op.act=1∨a.op.act=3∨a.op.act=5)∧(bQ a l v=true∧IK b.2 a=true)then(b.1,cA b.2 a.op.name a)else b
theorem u9{key:List UInt8}{l:List ah}{v:List Int}(fuel:Nat)(b:Int×List (List UInt8×ah))(i:Int):cM key l v (fuel+1) i b.1 b.2=if i<((aA key (ab key).1 l v).length:Int)then cM key l v fuel (i+1) (fU l v b (ix (aA key (ab key).1 l v) i)).1 (fU l v b (ix (aA key (ab key).1 l v) i)).2 else .inr (i,b):=by
 rw[cM];by_cases hi:i<((aA key (ab key).1 l v).length:Int)
 ·rw[if_pos hi,if_pos hi];generalize ix (aA key (ab key).1 l v) i=a;have hh: ∀z:ah,(a.op.act=1∨a.op.act=3∨a.op.act=5)→ ¬a.op.act=2→(if bQ a l v=true∧(¬((bj b.2 a.op.name).isSome=true)∨dn ((bj b.2 a.op.name).getD z) a<0)then cM key l v fuel (i+1) b.1 (cA b.2 a.op.name a)else cM key l v fuel (i+1) b.1 b.2)=cM key l v fuel (i+1) (fU l v b a).1 (fU l v b a).2:=fun z ho h2=>by
   unfold fU;rw[if_neg h2];by_cases hq:bQ a l v=true∧(¬((bj b.2 a.op.name).isSome=true)∨dn ((bj b.2 a.op.name).getD z) a<0)
   ·rw[if_pos hq,if_pos ⟨ho,hq.1,(wQ _ _ z).1 hq.2⟩]
   ·rw[if_neg hq,if_neg (fun q=>hq ⟨q.2.1,(wQ _ _ z).2 q.2.2⟩)]
  by_cases h2:a.op.act=2
  ·rw[if_pos h2];unfold fU;rw[if_pos h2]
  rw[if_neg h2];by_cases h1:a.op.act=1
  ·rw[if_pos h1];exact hh _ (.inl h1) h2
  rw[if_neg h1];by_cases h3:a.op.act=3
  ·rw[if_pos h3];exact hh _ (.inr (.inl h3)) h2
  rw[if_neg h3];by_cases h5:a.op.act=5
  ·rw[if_pos h5];exact hh _ (.inr (.inr h5)) h2
  rw[if_neg h5];unfold fU;rw[if_neg h2,if_neg (fun q=>by omega)]
 ·rw[if_neg hi,if_neg hi]
theorem qA{key:List UInt8}{l:List ah}{v:List Int}(hk:(ab key).2=0)(hl:l.length≤4096):bh key l v=(lA (ab key).1 ((aA key (ab key).1 l v).foldl (fU l v) (0,[])).1 ((aA key (ab key).1 l v).foldl (fU l v) (0,[])).2,0):=by
 unfold bh;rw[if_pos hk,if_neg (by omega)];have:=fu (aA key (ab key).1 l v) (fU l v) (fun fuel i b=>cM key l v fuel i b.1 b.2) (fun fuel b i _=>u9 fuel b i) (0,[]);have e:cM key l v ((((aA key (ab key).1 l v).length:Int)- 0).toNat+1) 0 0 []=_:=this;rw[e]
theorem wS{l:List ah}{v:List Int}{lt:ah→ah→Bool}(irr: ∀a,lt a a=false)(tr: ∀a x y,lt x a=true→lt a y=true→lt x y=true):
  ∀(E xs:List ah) (b:Int×List (List UInt8×ah)),(∀x∈xs++E,∀y∈xs++E,(dn x y<0↔lt x y=true))→jg (fun a=>decide (a.op.act=1∨a.op.act=3∨a.op.act=5)&&bQ a l v) (·.op.name) lt xs b.2→bL b.2→
   jg (fun a=>decide (a.op.act=1∨a.op.act=3∨a.op.act=5)&&bQ a l v) (·.op.name) lt (xs++E) (E.foldl (fU l v) b).2∧bL (E.foldl (fU l v) b).2
 | [],xs,b,_,h,nd=>by rw[List.append_nil];exact⟨h,nd⟩
 |a::E,xs,b,hlt,h,nd=>by
  have e:xs++a::E=xs++ [a]++E:=by simp
  rw[e,List.foldl_cons];have step:jg (fun a=>decide (a.op.act=1∨a.op.act=3∨a.op.act=5)&&bQ a l v) (·.op.name) lt (xs++ [a]) (fU l v b a).2∧bL (fU l v b a).2:=by
   unfold fU;split
   ·rename_i h2;exact⟨h.skip (by simp;omega),nd⟩
   rename_i h2;by_cases hc:(decide (a.op.act=1∨a.op.act=3∨a.op.act=5)&&bQ a l v)=true
   ·have hc':=hc;simp only[Bool.and_eq_true,decide_eq_true_eq]at hc';cases hm:bj b.2 a.op.name with
    |none=>
     rw[if_pos ⟨hc'.1,hc'.2,by unfold IK;rw[hm]⟩];exact⟨h.set hc (irr a) (tr a) (fun x hx=>by rw[hm]at hx;cases hx),iI nd _ _⟩
    |some x=>
     have hx:=(h.so _ _ hm).1;have hl:=hlt x (List.mem_append_left _ hx) a (by simp);by_cases hlx:lt x a=true
     ·rw[if_pos ⟨hc'.1,hc'.2,by unfold IK;rw[hm];exact decide_eq_true (hl.2 hlx)⟩];exact⟨h.set hc (irr a) (tr a) (fun y hy=>by rw[hm]at hy;injection hy with hy;rw[←hy];exact hlx),iI nd _ _⟩
     ·rw[if_neg (by rintro⟨_,_,q⟩;unfold IK at q;rw[hm]at q;exact hlx (hl.1 (of_decide_eq_true q)))];exact⟨h.keep hm (by simpa using hlx),nd⟩
   ·rw[if_neg (fun q=>hc (by simp[q.1,q.2.1]))];exact⟨h.skip hc,nd⟩
  exact wS irr tr E (xs++ [a]) _ (by rw[←e];exact hlt) step.1 step.2
def xW:List ah→Int
 | []=>0
 |a::l=>(if a.op.act=2 then a.op.val else 0)+xW l
theorem rP{l:List ah}{v:List Int}: ∀(E:List ah) (b:Int×List (List UInt8×ah)),(∀a∈E,a.op.act=2→ -1073741824≤a.op.val∧a.op.val≤1073741824)→ -4611686018427387904≤b.1 - 1073741824*E.length→b.1+1073741824*E.length≤4611686018427387904→(E.foldl (fU l v) b).1=b.1+xW E
 | [],b,_,_,_=>by simp[xW]
 |a::E,b,h,h1,h2=>by
  rw[List.foldl_cons,xW];simp only[List.length_cons,Int.natCast_add,Int.natCast_one]at h1 h2;have hE: ∀x∈E,x.op.act=2→ -1073741824≤x.op.val∧x.op.val≤1073741824:=fun x hx=>h x (by simp[hx]);by_cases ha:a.op.act=2
  ·have hv:=h a (by simp) ha;have e:fU l v b a=(b.1+a.op.val,b.2):=by
    unfold fU;rw[if_pos ha,lU (k:= .i64) (show _∧_ from⟨by omega,by omega⟩)]
   rw[e,rP E _ hE (by simp only;omega) (by simp only;omega),if_pos ha];simp only;omega
  ·have e:(fU l v b a).1=b.1:=by
    unfold fU;rw[if_neg ha];split<;>rfl
   rw[rP E _ hE (by rw[e];omega) (by rw[e];omega),if_neg ha,e];omega
end Go.Proofs.YtmpeiadlohbikaaGreatDoor.V
end

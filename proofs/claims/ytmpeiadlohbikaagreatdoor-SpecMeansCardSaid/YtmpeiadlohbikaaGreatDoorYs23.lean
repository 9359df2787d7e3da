/- Plain: three copies: each step keeps what holds of them. -/
import Derived.Test.YtmpeiadlohbikaaGreatDoorYs22
section
set_option linter.unusedVariables false
set_option linter.unusedSimpArgs false
namespace Go.Proofs.YtmpeiadlohbikaaGreatDoor.V
open Go.RowKit Go.Shelf Go.Lib Go.Sort
theorem Dv{α:Type}: ∀{l m:List α},l.Nodup→m.Nodup→(∀x,x∈l↔x∈m)→l.Perm m:=by
 classical
 intro l;induction l with
 |nil=>
  intro m _ _ h;cases m with
  |nil=>exact List.Perm.refl _
  |cons x m=>exact absurd ((h x).2 (by simp)) (by simp)
 |cons x l ih=>
  intro m hl hm h;rw[List.nodup_cons]at hl;have hx:x∈m:=(h x).1 (by simp);refine(List.Perm.cons x (ih hl.2 (hm.erase x) fun y=>?_)).trans (List.perm_cons_erase hx).symm;rw[hm.mem_erase_iff];constructor
  ·intro hy;exact⟨fun e=>hl.1 (e▸hy),(h y).1 (List.mem_cons_of_mem _ hy)⟩
  ·rintro⟨h1,h2⟩;rcases List.mem_cons.1 ((h y).2 h2)with e|e
   ·exact absurd e h1
   ·exact e
theorem qD{α β:Type}(f:α→β){l:List α}(h:(l.map f).Nodup):l.Nodup:=by
 induction l with
 |nil=>exact List.nodup_nil
 |cons x l ih=>
  rw[List.map_cons,List.nodup_cons]at h;rw[List.nodup_cons];exact⟨fun hm=>h.1 (List.mem_map_of_mem hm),ih h.2⟩
def jT(a b:aj):Prop:=a.time<b.time∨(a.time=b.time∧a.origin<b.origin)
instance(a b:aj):Decidable (jT a b):=by unfold jT;infer_instance
instance(a b:bT):Decidable (qa a b):=by unfold qa;infer_instance
theorem pn(a b:aj):bX a b=if a.time<b.time then -1 else if b.time<a.time then 1 else if a.origin<b.origin then -1 else if b.origin<a.origin then 1 else 0:=by
 unfold bX;rw[ka,om,kD];split
 ·rfl
 ·split
  ·rfl
  ·rfl
theorem jD(a b:aj):bX a b<0↔jT a b:=by
 rw[pn];unfold jT
 repeat' split
 all_goals omega
theorem d8(a b:aj):bX a b=0↔(a.time=b.time∧a.origin=b.origin):=by
 rw[pn]
 repeat' split
 all_goals omega
def mC(a:ah):am:=am.mk a.id a.n
def uv(a b:ah):Bool:=decide (jT a.at_ b.at_∨((a.at_.time=b.at_.time∧a.at_.origin=b.at_.origin)∧bi (mC a) (mC b)=true))
def Dw(a b:ah):Bool:=decide (qa ⟨a.op.val,a.at_⟩ ⟨b.op.val,b.at_⟩)
theorem po{x y:ah}(h: ¬x.op.act=1):dn x y<0↔uv x y=true:=by
 unfold dn uv;rw[decide_eq_true_iff];by_cases e:bX x.at_ y.at_=0
 ·rw[if_pos e,if_neg h];have e':=(d8 _ _).1 e;rw[bM,dL];constructor
  ·intro q;exact .inr ⟨e',q⟩
  ·rintro(q|q)
   ·unfold jT at q;omega
   ·exact q.2
 ·rw[if_neg e,jD];constructor
  ·exact .inl
  ·rintro(q|q)
   ·exact q
   ·exact absurd ((d8 _ _).2 q.1) e
theorem AB{x y:ah}(h:x.op.act=1):dn x y<0↔Dw x y=true:=by
 unfold dn Dw;rw[decide_eq_true_iff];unfold qa;by_cases e:bX x.at_ y.at_=0
 ·rw[if_pos e,if_pos h,Az];have e':=(d8 _ _).1 e
  repeat' split
  all_goals simp only
  all_goals omega
 ·rw[if_neg e,jD];have e': ¬(x.at_.time=y.at_.time∧x.at_.origin=y.at_.origin):=fun q=>e ((d8 _ _).2 q);unfold jT;simp only;omega
theorem Dx(a:ah):Dw a a=false:=decide_eq_false (rQ _)
theorem HA(a x y:ah)(h1:Dw x a=true)(h2:Dw a y=true):Dw x y=true:=by
 unfold Dw at*;rw[decide_eq_true_iff]at*;unfold qa at*;simp only at*;omega
theorem rS(a:ah):uv a a=false:=by
 unfold uv;rw[decide_eq_false_iff_not];rintro(q|q)
 ·unfold jT at q;omega
 ·rw[cV]at q;cases q.2
theorem vm(a x y:ah)(h1:uv x a=true)(h2:uv a y=true):uv x y=true:=by
 unfold uv at*;rw[decide_eq_true_iff]at*;rcases h1 with q|⟨q,t1⟩
 ·rcases h2 with r|⟨r,_⟩
  ·left;unfold jT at*;omega
  ·left;unfold jT at*;omega
 ·rcases h2 with r|⟨r,t2⟩
  ·left;unfold jT at*;omega
  ·right;exact⟨by omega,dR _ _ _ t1 t2⟩
theorem Dy{a b:ah}(h1:uv a b=false)(h2:uv b a=false):mC a=mC b:=by
 unfold uv at*;rw[decide_eq_false_iff_not]at*;unfold jT at*;have e:a.at_.time=b.at_.time∧a.at_.origin=b.at_.origin:=by omega
 refine u6 _ _ ?_ ?_
 ·cases hq:bi (mC a) (mC b)with
  |false=>rfl
  |true=>exact absurd (.inr ⟨e,hq⟩) h1
 ·cases hq:bi (mC b) (mC a)with
  |false=>rfl
  |true=>exact absurd (.inr ⟨⟨e.1.symm,e.2.symm⟩,hq⟩) h2
section
variable {k:Int} {key:List UInt8} {G:List Pr} {i:Int} {s:aG} {v:List Int} {n:Int} {hs:List Pr}
def BY(v:List Int)(G:List Pr):List Pr:=G.filter (fun p=>ii v p.1.id)
theorem HB(g:GI k key G)(w:List Int):aA key k (G.map (·.1)) w=(BY w G).map (·.1):=by
 unfold aA BY;rw[List.filter_map];congr 1;apply List.filter_congr;intro p hp;have c:=g.cor p hp;show(!jz p.1 key w k)=_
 unfold jz;rw[c.key,c.okop.1,c.okop.2];simp
theorem jE(R:RI k G i s v n hs)(g:GI k key G)(p:Pr):p∈BY (vv i v n) G↔p∈hs:=by
 unfold BY;rw[List.mem_filter];constructor
 ·rintro⟨h1,h2⟩;exact(R.mem p h1).2 ((fT (by have:=(g.cor p h1).og;omega)).1 h2)
 ·intro h;have h1:=R.sub p h;exact⟨h1,(fT (by have:=(g.cor p h1).og;omega)).2 ((R.mem p h1).1 h)⟩
theorem mD(R:RI k G i s v n hs)(g:GI k key G):(BY (vv i v n) G).Perm hs:=
 Dv ((qD _ g.nd).sublist List.filter_sublist) (qD _ R.nd) (jE R g)
theorem qE(R:RI k G i s v n hs)(g:GI k key G){p:Pr}(hp:p∈hs):bQ p.1 (G.map (·.1)) (vv i v n)=true↔ ¬ ∃r∈hs,¬fS p.1.op.act=0∧r.1.op.act=fS p.1.op.act∧r.1.op.name=p.1.op.name∧fF r.1 p.1:=by
 have hpG:=R.sub p hp;have cp:=g.cor p hpG;unfold bQ;rw[if_pos ((fT (by have:=cp.og;omega)).2 ((R.mem p hpG).1 hp)),kY,Bool.not_eq_true'];rw[Bool.eq_false_iff,Ne,List.any_eq_true,not_congr];constructor
 ·rintro⟨x,hx,h⟩;obtain⟨r,hr,rfl⟩:=List.mem_map.1 hx;unfold g6 jf at h;simp only[Bool.and_eq_true,decide_eq_true_eq]at h;have cr:=g.cor r hr;exact⟨r,(R.mem r hr).2 ((fT (by have:=cr.og;omega)).1 h.1),h.2.1.1.1.1,h.2.1.1.1.2,h.2.1.2,(nJ (by have:=cp.og;omega)).1 h.2.2⟩
 ·rintro⟨r,hr,h1,h2,h3,h4⟩;have hrG:=R.sub r hr;have cr:=g.cor r hrG;refine⟨r.1,List.mem_map_of_mem hrG,?_⟩;unfold g6 jf;simp only[Bool.and_eq_true,decide_eq_true_eq];exact⟨(fT (by have:=cr.og;omega)).2 ((R.mem r hrG).1 hr),⟨⟨⟨h1,h2⟩,by rw[cr.key,cp.key]⟩,h3⟩,(nJ (by have:=cp.og;omega)).2 h4⟩
theorem xY{a:Int}(h:a=3∨a=5):fS a=a+1:=by
 rcases h with rfl|rfl<;>rfl
theorem kI(hi:0≤i∧i<3)(R:RI k G i s v n hs)(g:GI k key G){p:Pr}(hp:p∈hs)(ha:p.1.op.act=3∨p.1.op.act=5):bQ p.1 (G.map (·.1)) (vv i v n)=true↔ ¬ ∃e∈hs.map (·.2),e.act=p.1.op.act+1∧p.2.tag∈e.tags:=by
 rw[qE R g hp,not_congr];rw[xY ha];have:=R.undone hi g hp ha;constructor
 ·rintro⟨r,hr,_,h2,h3,h4⟩;obtain⟨r,hr,h5,h6⟩:=this.1 ⟨r,hr,h2,h3,h4⟩;exact⟨r.2,List.mem_map_of_mem hr,(g.cor r (R.sub r hr)).act.trans h5,h6⟩
 ·rintro⟨e,he,h1,h2⟩;obtain⟨r,hr,rfl⟩:=List.mem_map.1 he;obtain⟨r,hr,h3,h4,h5⟩:=this.2 ⟨r,hr,(g.cor r (R.sub r hr)).act.symm.trans h1,h2⟩;exact⟨r,hr,by omega,h3,h4,h5⟩
end
end Go.Proofs.YtmpeiadlohbikaaGreatDoor.V
end

section
set_option linter.unusedVariables false
set_option linter.unusedSimpArgs false
namespace Go.Proofs.YtmpeiadlohbikaaGreatDoor.V
open Go.RowKit Go.Shelf Go.Lib Go.Sort
theorem ke{l:List aF}(h:(l.map (·.field)).Nodup):(bl aP l).Pairwise (fun a b=>decide (a.field<b.field)=true)∧ ∀x,x∈bl aP l↔x∈l:=by
 have ho:=gy h;have tr: ∀a b c:aF,(!(ltOf aP) b a)=true→(!(ltOf aP) c b)=true→(!(ltOf aP) c a)=true:=fun a b c h1 h2=>by
  simp only[Bool.not_eq_true']at*;exact ho.1.3 c b a h2 h1
 have tot: ∀a b:aF,((!(ltOf aP) b a)||(!(ltOf aP) a b))=true:=fun a b=>by
  cases h1:ltOf aP b a with
  |false=>rfl
  |true=>
   cases h2:ltOf aP a b with
   |false=>rfl
   |true=>have:=ho.1.2 _ _ _ h1 h2;rw[ho.1.1]at this;cases this
 have hp:(bl aP l).Perm l:=List.mergeSort_perm _ _;have hs:=List.pairwise_mergeSort (le:=fun x y=>!(ltOf aP) y x) tr tot l;refine⟨?_,fun x=>hp.mem_iff⟩;have hn:((bl aP l).map (·.field)).Nodup:=(hp.map _).nodup_iff.2 h;unfold List.Nodup at hn;rw[List.pairwise_map]at hn;refine(hs.and hn).imp fun{a b} q=>?_;have q1:=q.1;rw[je]at q1;simp only[Bool.not_eq_true',decide_eq_false_iff_not,List.not_lt]at q1;rw[decide_eq_true_eq];exact Classical.byContradiction fun z=>q.2 (List.le_antisymm q1 (List.not_lt.1 z))
theorem tQ(a b:aF)(h:decide (a.field<b.field)=true):decide (b.field<a.field)=false:=by
 rw[decide_eq_true_eq]at h;rw[decide_eq_false_iff_not];exact fun q=>List.lt_irrefl _ (List.lt_trans h q)
theorem Dz{s:br}(h:jC s):aZ s=dd (gD (s.adds.map (·.elem))):=by
 unfold aZ;rw[if_pos (iL h),fu s.adds (fun acc x=>acc++ [x.elem]) (eK s) (fun fuel c i _=>by rw[eK])];show MB (gD (s.adds.foldl (fun acc x=>acc++ [x.elem]) []))=_
 rw[iW,List.nil_append];rfl
theorem tT{s:br}(h:jC s):(aZ s).Pairwise (fun a b=>decide (a<b)=true)∧ ∀x,x∈aZ s↔ ∃a∈s.adds,a.elem=x:=by
 rw[Dz h];have hp:(gD (s.adds.map (·.elem))).Perm (s.adds.map (·.elem)):=List.mergeSort_perm _ _;have hs:(gD (s.adds.map (·.elem))).Pairwise (fun a b=>decide (a≤b)=true):=List.pairwise_mergeSort (le:=fun x y=>decide (x≤y)) (fun a b c h1 h2=>by
  rw[decide_eq_true_eq]at*;exact List.le_trans h1 h2) (fun a b=>by
  rw[Bool.or_eq_true,decide_eq_true_eq,decide_eq_true_eq];exact List.le_total a b) _
 refine⟨qw (fun a b=>decide (a<b)) (fun a b h1 h2=>?_) (fun a b c h1 h2=>?_) _ (hs.imp fun{a b} q=>?_),fun x=>?_⟩
 ·rw[decide_eq_false_iff_not,List.not_lt]at h1 h2;exact List.le_antisymm h2 h1
 ·rw[decide_eq_true_eq]at*;exact List.lt_trans h1 h2
 ·rw[decide_eq_true_eq]at q;rw[decide_eq_false_iff_not,List.not_lt];exact q
 ·rw[uY,hp.mem_iff,List.mem_map]
theorem xZ(s:aG):eX s ((((aZ s.set).length:Int)- 0).toNat+1) 0 []= .inr (((aZ s.set).length:Int),(aZ s.set).map fun x=>aF.mk x 0):=by
 rw[fu (aZ s.set) (fun acc x=>acc++ [aF.mk x 0]) (eX s) (fun fuel c i _=>by rw[eX]),iW,List.nil_append]
theorem pq{β:Type}{m:List (List UInt8×β)}(nd:bL m)(f:β→Int)(x:aF):x∈m.map (fun p=>aF.mk p.1 (f p.2))↔(bj m x.field).map f=some x.val:=by
 rw[List.mem_map];constructor
 ·rintro⟨⟨a,b⟩,hp,rfl⟩;rw[(mz nd).2 hp];rfl
 ·intro h;cases hm:bj m x.field with
  |none=>rw[hm]at h;cases h
  |some b=>
   rw[hm]at h;injection h with h;exact⟨(x.field,b),(mz nd).1 hm,by simp only[h]⟩
theorem kf{β:Type}{m:List (List UInt8×β)}(nd:bL m)(f:β→Int):((m.map (fun p=>aF.mk p.1 (f p.2))).map (·.field)).Nodup:=by
 rw[List.map_map];exact nd
def vn(a b:bk):Bool:=decide (jT a.at_ b.at_∨((a.at_.time=b.at_.time∧a.at_.origin=b.at_.origin)∧bi a.tag b.tag=true))
theorem AC(x y:bk):gw x y<0↔vn x y=true:=by
 unfold gw vn;rw[decide_eq_true_iff,ka,bM];by_cases e:bX x.at_ y.at_=0
 ·rw[if_pos e,dL];have e':=(d8 _ _).1 e;constructor
  ·intro q;exact .inr ⟨e',q⟩
  ·rintro(q|q)
   ·unfold jT at q;omega
   ·exact q.2
 ·rw[if_neg e,jD];constructor
  ·exact .inl
  ·rintro(q|q)
   ·exact q
   ·exact absurd ((d8 _ _).2 q.1) e
theorem wW(a:bk):vn a a=false:=by
 unfold vn;rw[decide_eq_false_iff_not];rintro(q|q)
 ·unfold jT at q;omega
 ·rw[cV]at q;cases q.2
theorem AD(a x y:bk)(h1:vn x a=true)(h2:vn a y=true):vn x y=true:=by
 unfold vn at*;rw[decide_eq_true_iff]at*;rcases h1 with q|⟨q,t1⟩
 ·rcases h2 with r|⟨r,_⟩
  ·left;unfold jT at*;omega
  ·left;unfold jT at*;omega
 ·rcases h2 with r|⟨r,t2⟩
  ·left;unfold jT at*;omega
  ·right;exact⟨by omega,dR _ _ _ t1 t2⟩
def JF(m:List (List UInt8×bk))(a:bk):Bool:=match bj m a.field with
 |none=>true
 |some x=>decide (gw x a<0)
theorem wX(m:List (List UInt8×bk))(a z:bk):(¬((bj m a.field).isSome=true)∨gw ((bj m a.field).getD z) a<0)↔JF m a=true:=by
 unfold JF;cases bj m a.field<;>simp
def BZ(m:List (List UInt8×bk))(a:bk):List (List UInt8×bk):=if JF m a=true then cA m a.field a else m
theorem tU{s:bw}(fuel:Nat)(b:List (List UInt8×bk))(i:Int):cF s (fuel+1) i b=if i<(s.puts.length:Int)then cF s fuel (i+1) (BZ b (ix s.puts i))else .inr (i,b):=by
 rw[cF];by_cases hi:i<(s.puts.length:Int)
 ·rw[if_pos hi,if_pos hi];generalize ix s.puts i=a;have hh: ∀z:bk,(if(¬((bj b a.field).isSome=true)∨gw ((bj b a.field).getD z) a<0)then cF s fuel (i+1) (cA b a.field a)else cF s fuel (i+1) b)=cF s fuel (i+1) (BZ b a):=fun z=>by
   unfold BZ;by_cases hq:JF b a=true
   ·rw[if_pos hq,if_pos ((wX b a z).2 hq)]
   ·rw[if_neg hq,if_neg (fun q=>hq ((wX b a z).1 q))]
  exact hh _
 ·rw[if_neg hi,if_neg hi]
theorem qF: ∀(E xs:List bk) (b:List (List UInt8×bk)),jg (fun _=>true) (·.field) vn xs b→bL b→jg (fun _=>true) (·.field) vn (xs++E) (E.foldl BZ b)∧bL (E.foldl BZ b)
 | [],xs,b,h,nd=>by rw[List.append_nil];exact⟨h,nd⟩
 |a::E,xs,b,h,nd=>by
  rw[show xs++a::E=xs++ [a]++E by simp,List.foldl_cons];have step:jg (fun _=>true) (·.field) vn (xs++ [a]) (BZ b a)∧bL (BZ b a):=by
   unfold BZ JF;cases hm:bj b a.field with
   |none=>exact⟨h.set rfl (wW a) (AD a) (fun x hx=>by rw[hm]at hx;cases hx),iI nd _ _⟩
   |some x=>
    simp only[decide_eq_true_eq,AC];by_cases hl:vn x a=true
    ·rw[if_pos hl];exact⟨h.set rfl (wW a) (AD a) (fun y hy=>by rw[hm]at hy;injection hy with hy;rw[←hy];exact hl),iI nd _ _⟩
    ·rw[if_neg hl];exact⟨h.keep hm (by simpa using hl),nd⟩
  exact qF E (xs++ [a]) _ step.1 step.2
theorem DA{s:bw}(h:kH s): ∃m,eW s=bl aP (m.map o7)∧jg (fun _=>true) (·.field) vn s.puts m∧bL m:=by
 refine⟨s.puts.foldl BZ [],?_,?_⟩
 ·unfold eW;rw[if_pos (iQ h),fu s.puts BZ (cF s) (fun fuel b i _=>tU fuel b i) []]
 ·have:=qF s.puts [] [] jg.nil List.nodup_nil
  rwa [List.nil_append]at this
section
variable {k:Int} {key:List UInt8} {G:List Pr} {i:Int} {s:aG} {v:List Int} {n:Int} {hs:List Pr}
theorem DB{a k:Int}(h:cy a=k)(hk:1≤k):(k=1∧a=1)∨(k=2∧a=2)∨(k=3∧(a=3∨a=4))∨(k=4∧(a=5∨a=6)):=by
 unfold cy at h
 repeat' split at h
 all_goals omega
theorem AE{o:gG}(h:bv o=0)(ha:o.act=3):o.val=0:=by
 unfold bv at h;have hf:(cz o.act).val=false:=by rw[ha];rfl
 split at h
 ·cases h
 split at h
 ·cases h
 split at h
 ·cases h
 split at h
 ·cases h
 rename_i h4;exact Classical.byContradiction fun q=>h4 ⟨by rw[hf];simp,q⟩
structure gM(k:Int)(key:List UInt8)(G:List Pr)(i:Int)(s:aG)(v:List Int)(n:Int)(hs:List Pr):Prop where
 hk:1≤k∧k≤4
 ky:(ab key).1=k∧(ab key).2=0
 hi:0≤i∧i<3
 g:GI k key G
 R:RI k G i s v n hs
 len:G.length≤50
def dI(v:List Int)(G:List Pr):Int×List (List UInt8×ah):=((BY v G).map (·.1)).foldl (fU (G.map (·.1)) v) (0,[])
theorem gM.say(h:gM k key G i s v n hs):bh key (G.map (·.1)) (vv i v n)=(lA k (dI (vv i v n) G).1 (dI (vv i v n) G).2,0):=by
 rw[qA h.ky.2 (by have:=h.len;simp;omega),h.ky.1,HB h.g];rfl
theorem gM.len_hs(h:gM k key G i s v n hs):hs.length≤50:=by
 have:=(mD h.R h.g).length_eq;have h2:(BY (vv i v n) G).length≤G.length:=List.length_filter_le _ _;have:=h.len;omega
theorem gM.goods(h:gM k key G i s v n hs): ∀x∈hs.map (·.2),rR k x:=fun x hx=>by
 obtain⟨p,hp,rfl⟩:=List.mem_map.1 hx;exact(h.g.cor p (h.R.sub p hp)).good
theorem gM.act(h:gM k key G i s v n hs){p:Pr}(hp:p∈hs):(k=1∧p.1.op.act=1)∨(k=2∧p.1.op.act=2)∨(k=3∧(p.1.op.act=3∨p.1.op.act=4))∨(k=4∧(p.1.op.act=5∨p.1.op.act=6)):=DB (h.g.cor p (h.R.sub p hp)).okop.2 h.hk.1
theorem gM.win(h:gM k key G i s v n hs)(lt:ah→ah→Bool)(irr: ∀a,lt a a=false)(tr: ∀a x y,lt x a=true→lt a y=true→lt x y=true)(hl: ∀p∈hs,∀q∈hs,(dn p.1 q.1<0↔lt p.1 q.1=true)):
  (∀nm,bj (dI (vv i v n) G).2 nm=none→ ∀p∈hs,(p.1.op.act=1∨p.1.op.act=3∨p.1.op.act=5)→bQ p.1 (G.map (·.1)) (vv i v n)=true→p.1.op.name≠nm)∧
  (∀nm a,bj (dI (vv i v n) G).2 nm=some a→ ∃p∈hs,p.1=a∧(p.1.op.act=1∨p.1.op.act=3∨p.1.op.act=5)∧bQ p.1 (G.map (·.1)) (vv i v n)=true∧p.1.op.name=nm∧ ∀q∈hs,(q.1.op.act=1∨q.1.op.act=3∨q.1.op.act=5)→bQ q.1 (G.map (·.1)) (vv i v n)=true→q.1.op.name=nm→lt p.1 q.1=false)∧bL (dI (vv i v n) G).2:=by
 have W:=wS (l:=G.map (·.1)) (v:=vv i v n) irr tr ((BY (vv i v n) G).map (·.1)) [] (0,[]) (fun x hx y hy=>by
  rw[List.nil_append]at hx hy;obtain⟨p,hp,rfl⟩:=List.mem_map.1 hx;obtain⟨q,hq,rfl⟩:=List.mem_map.1 hy;exact hl p ((jE h.R h.g p).1 hp) q ((jE h.R h.g q).1 hq)) jg.nil List.nodup_nil
 rw[List.nil_append]at W;refine⟨fun nm hn p hp ha hh=>?_,fun nm a ha=>?_,W.2⟩
 ·exact W.1.no nm hn p.1 (List.mem_map_of_mem ((jE h.R h.g p).2 hp)) (by simp[ha,hh])
 ·obtain⟨h1,h2,h3,h4⟩:=W.1.so nm a ha;obtain⟨p,hp,rfl⟩:=List.mem_map.1 h1;simp only[Bool.and_eq_true,decide_eq_true_eq]at h2;exact⟨p,(jE h.R h.g p).1 hp,rfl,h2.1,h2.2,h3,fun q hq ha hh hn=>h4 q.1 (List.mem_map_of_mem ((jE h.R h.g q).2 hq)) (by simp[ha,hh]) hn⟩
theorem HC{β:Type}{m:List (List UInt8×β)}(nd:bL m)(h: ∀nm a,¬bj m nm=some a):m= []:=by
 cases m with
 |nil=>rfl
 |cons p m=>exact absurd ((mz nd).2 (show(p.1,p.2)∈p::m by simp)) (h p.1 p.2)
theorem x6:bl (fun(t t1:aF)=>eL t t1) ([]:List aF)= []:=List.eq_nil_of_length_eq_zero (by rw[da];rfl)
theorem gM.sum(h:gM k key G i s v n hs)(h2:k=2):(dI (vv i v n) G).1=s.num.plus - s.num.minus:=by
 have hp:=mD h.R h.g;have hv: ∀p∈hs,-1073741824≤p.1.op.val∧p.1.op.val≤1073741824:=fun p hp=>by
  have c:=h.g.cor p (h.R.sub p hp);have f:=eD c.good.c;have:=f.val (by have:=h.act hp;have:=c.act;omega);rw[c.val]at this;exact this
 have hl:=h.len_hs;have e: ∀l:List Pr,(∀p∈l,p.1.op.act=2∧p.2.act=2∧p.2.val=p.1.op.val)→xW (l.map (·.1))=sP (l.map (·.2))- sM (l.map (·.2)):=fun l=>by
  induction l with
  |nil=>intro _;rfl
  |cons p l ih=>
   intro hq;have hh:=hq p (by simp);simp only[List.map_cons,xW,sP,sM];rw[ih (fun x hx=>hq x (by simp[hx])),if_pos hh.1];by_cases hz:0≤p.2.val
   ·rw[if_pos ⟨hh.2.1,hz⟩,if_neg (by omega)];omega
   ·rw[if_neg (by omega),if_pos ⟨hh.2.1,by omega⟩];omega
 have hact: ∀p∈hs,p.1.op.act=2∧p.2.act=2∧p.2.val=p.1.op.val:=fun p hp=>by
  have c:=h.g.cor p (h.R.sub p hp);have:=h.act hp;have:=c.act;exact⟨by omega,by omega,c.val⟩
 unfold dI;rw[rP _ _ (fun a ha _=>by
  obtain⟨p,hp',rfl⟩:=List.mem_map.1 ha;exact hv p (hp.mem_iff.1 hp')) (by simp only[List.length_map];have:=hp.length_eq;omega) (by simp only[List.length_map];have:=hp.length_eq;omega),e _ (fun p hp'=>hact p (hp.mem_iff.1 hp'))]
 have o:=h.R.obj;rw[o.p,o.m,wU (hp.map (·.2)),wV (hp.map (·.2))];simp
end
end Go.Proofs.YtmpeiadlohbikaaGreatDoor.V
end

section
set_option linter.unusedVariables false
set_option linter.unusedSimpArgs false
namespace Go.Proofs.YtmpeiadlohbikaaGreatDoor.V
open Go.RowKit Go.Shelf Go.Lib Go.Sort
section
variable {k:Int} {key:List UInt8} {G:List Pr} {i:Int} {s:aG} {v:List Int} {n:Int} {hs:List Pr}
theorem pt{p:Pr}(R:RI k G i s v n hs)(g:GI k key G)(hp:p∈hs)(ha:p.1.op.act=1):bQ p.1 (G.map (·.1)) (vv i v n)=true:=by
 rw[qE R g hp];rintro⟨r,_,h,_⟩;exact h (by rw[ha];rfl)
theorem gM.say1(h:gM k key G i s v n hs)(h1:k=1):lA k (dI (vv i v n) G).1 (dI (vv i v n) G).2=bW s:=by
 have o:=h.R.obj;have hact: ∀p∈hs,p.1.op.act=1:=fun p hp=>by have:=h.act hp;omega
 obtain⟨w1,w2,w3⟩:=h.win Dw Dx HA (fun p hp q hq=>AB (hact p hp));unfold lA bW;rw[if_pos h1,if_pos (o.kd.trans h1),o.kd];have key:(match (dI (vv i v n) G).2 with| []=>(dI (vv i v n) G).1|p::_=>p.2.op.val)=s.reg.val:=by
  cases hm:(dI (vv i v n) G).2 with
  |nil=>
   have hn:hs= []:=by
    cases hh:hs with
    |nil=>rfl
    |cons p l=>
     have hp:p∈hs:=by rw[hh];simp
     exact absurd rfl (w1 p.1.op.name (by rw[hm];rfl) p hp (.inl (hact p hp)) (pt h.R h.g hp (hact p hp)))
   have e1:s.reg=zR:=by
    rcases o.r.i with q|⟨e,he,_⟩
    ·exact q
    ·rw[hn]at he;cases he
   have e2:BY (vv i v n) G= []:=by
    have:=(mD h.R h.g).length_eq;rw[hn]at this;exact List.eq_nil_of_length_eq_zero this
   unfold dI;rw[e2,e1];rfl
  |cons x l=>
   have hx:bj (dI (vv i v n) G).2 x.1=some x.2:=(mz w3).2 (by rw[hm];simp);obtain⟨p,hp,h2,h3,h4,h5,h6⟩:=w2 x.1 x.2 hx;have cp:=h.g.cor p (h.R.sub p hp);have fp:=eD cp.good.c;have ha:=hact p hp;have hea:p.2.act=1:=cp.act.trans ha;have hm1:=o.r.m p.2 (List.mem_map_of_mem hp) hea;rcases o.r.i with q|⟨e,he,hae,q⟩
   ·exfalso;have:=(fp.at_ (.inl hea)).2;apply hm1;rw[q];unfold qa zR Ay;simp only;omega
   ·obtain⟨p',hp',rfl⟩:=List.mem_map.1 he;have cp':=h.g.cor p' (h.R.sub p' hp');have ha':=hact p' hp';have hnm:p'.1.op.name=x.1:=by rw[pa cp'.okop.1 (cp'.okop.2.trans h1),←h5,pa cp.okop.1 (cp.okop.2.trans h1)]
    have hz:=h6 p' hp' (.inl ha') (pt h.R h.g hp' ha') hnm;unfold Dw at hz;rw[decide_eq_false_iff_not]at hz;have e1:Ay p.2=⟨p.1.op.val,p.1.at_⟩:=by unfold Ay;rw[cp.val,cp.at_ (.inl ha)]
    have e2:Ay p'.2=⟨p'.1.op.val,p'.1.at_⟩:=by unfold Ay;rw[cp'.val,cp'.at_ (.inl ha')]
    rw[q,e1,e2]at hm1;have:=wT hz hm1;injection this with t1 _;show x.2.op.val=s.reg.val
    rw[←h2,t1,q,e2]
 exact congrArg (fun z=>be.mk k z []) key
theorem gM.say2(h:gM k key G i s v n hs)(h2:k=2):lA k (dI (vv i v n) G).1 (dI (vv i v n) G).2=bW s:=by
 have o:=h.R.obj;have hact: ∀p∈hs,p.1.op.act=2:=fun p hp=>by have:=h.act hp;omega
 obtain⟨w1,w2,w3⟩:=h.win uv rS vm (fun p hp q hq=>po (by have:=hact p hp;omega));have e:(dI (vv i v n) G).2= []:=HC w3 fun nm a hm=>by
  obtain⟨p,hp,_,h3,_⟩:=w2 nm a hm;have:=hact p hp;omega
 have hn:=o.num0 h.goods (by simp only[List.length_map];exact h.len_hs);have hi:=qB hn.1;unfold lA bW;rw[if_neg (by omega),if_neg (by rw[o.kd];omega),if_pos (o.kd.trans h2),o.kd,e,h.sum h2];unfold j7;rw[if_pos hn.1,lU (k:= .i64) (show _∧_ from⟨by omega,by omega⟩)];show be.mk k _ (bl _ [])=_
 rw[x6]
theorem gM.sum0(h:gM k key G i s v n hs)(h2: ¬k=2):(dI (vv i v n) G).1=0:=by
 unfold dI;have: ∀(E:List ah) (b:Int×List (List UInt8×ah)),(∀a∈E,¬a.op.act=2)→(E.foldl (fU (G.map (·.1)) (vv i v n)) b).1=b.1:=fun E=>by
  induction E with
  |nil=>intro b _;rfl
  |cons a E ih=>
   intro b hE;rw[List.foldl_cons,ih _ (fun x hx=>hE x (by simp[hx]))];unfold fU;rw[if_neg (hE a (by simp))];split<;>rfl
 rw[this _ _ fun a ha=>by
  obtain⟨p,hp,rfl⟩:=List.mem_map.1 ha;have:=h.act ((jE h.R h.g p).1 hp);omega]
theorem gM.say3(h:gM k key G i s v n hs)(h3:k=3):lA k (dI (vv i v n) G).1 (dI (vv i v n) G).2=bW s:=by
 have o:=h.R.obj;have hl50:(hs.map (·.2)).length≤50:=by simp only[List.length_map];exact h.len_hs
 have hact: ∀p∈hs,p.1.op.act=3∨p.1.op.act=4:=fun p hp=>by have:=h.act hp;omega
 obtain⟨w1,w2,w3⟩:=h.win uv rS vm (fun p hp q hq=>po (by have:=hact p hp;omega));have hf:=o.set0 h.goods hl50;unfold lA bW;rw[if_neg (by omega),if_neg (by rw[o.kd];omega),if_neg (by rw[o.kd];omega),if_pos (o.kd.trans h3),o.kd,xZ,h.sum0 (by omega)];show be.mk k 0 (bl aP ((dI (vv i v n) G).2.map fun p=>aF.mk p.1 p.2.op.val))=be.mk k 0 _
 have hs1:=ke (kf w3 (fun a:ah=>a.op.val));have he:=tT hf;congr 1;refine im (fun a b:aF=>decide (a.field<b.field)) tQ hs1.1 (by rw[List.pairwise_map];exact he.1) fun x=>?_;refine((hs1.2 x).trans (pq w3 (fun a:ah=>a.op.val) x)).trans ?_;rw[List.mem_map];constructor
 ·intro hx;cases hm:bj (dI (vv i v n) G).2 x.field with
  |none=>rw[hm]at hx;cases hx
  |some a=>
   rw[hm]at hx;injection hx with hx;obtain⟨p,hp,h5,h6,h7,h8,_⟩:=w2 _ _ hm;have cp:=h.g.cor p (h.R.sub p hp);have ha:p.1.op.act=3:=by have:=hact p hp;omega
   refine⟨x.field,(he.2 _).2 ⟨IL p.2,?_,by rw[←h8,←cp.name];rfl⟩,?_⟩
   ·rw[o.st.ma];refine⟨⟨p.2,List.mem_map_of_mem hp,cp.act.trans ha,rfl⟩,fun hg=>?_⟩;rw[o.st.mg]at hg;obtain⟨e,hee,h9,h10⟩:=hg;exact(kI h.hi h.R h.g hp (.inl ha)).1 h7 ⟨e,hee,by omega,h10⟩
   ·obtain⟨xf,xv⟩:=x;simp only at hx⊢;rw[←hx,←h5,AE cp.okop.1 ha]
 ·rintro⟨y,hy,rfl⟩;obtain⟨a,ha,hae⟩:=(he.2 y).1 hy;obtain⟨⟨e,hee,h4,rfl⟩,hng⟩:=(o.st.ma a).1 ha;obtain⟨p,hp,rfl⟩:=List.mem_map.1 hee;have cp:=h.g.cor p (h.R.sub p hp);have hpa:p.1.op.act=3:=cp.act.symm.trans h4;have hh:bQ p.1 (G.map (·.1)) (vv i v n)=true:=(kI h.hi h.R h.g hp (.inl hpa)).2 fun⟨e,h1,h2,h3⟩=>hng ((o.st.mg _).2 ⟨e,h1,by omega,h3⟩);have hnm:p.1.op.name=y:=by rw[←cp.name];exact hae
  simp only;cases hm:bj (dI (vv i v n) G).2 y with
  |none=>exact absurd hnm (w1 y hm p hp (.inr (.inl hpa)) hh)
  |some b=>
   obtain⟨q,hq,h5,h6,_⟩:=w2 _ _ hm;have cq:=h.g.cor q (h.R.sub q hq);have hqa:q.1.op.act=3:=by have:=hact q hq;omega
   show some b.op.val=some 0
   rw[←h5,AE cq.okop.1 hqa]
theorem gM.say4(h:gM k key G i s v n hs)(h4:k=4):lA k (dI (vv i v n) G).1 (dI (vv i v n) G).2=bW s:=by
 have o:=h.R.obj;have hl50:(hs.map (·.2)).length≤50:=by simp only[List.length_map];exact h.len_hs
 have hact: ∀p∈hs,p.1.op.act=5∨p.1.op.act=6:=fun p hp=>by have:=h.act hp;omega
 obtain⟨w1,w2,w3⟩:=h.win uv rS vm (fun p hp q hq=>po (by have:=hact p hp;omega));have hf:=o.map0 h.goods hl50;obtain⟨m,e1,W,w4⟩:=DA hf;unfold lA bW;rw[if_neg (by omega),if_neg (by rw[o.kd];omega),if_neg (by rw[o.kd];omega),if_neg (by rw[o.kd];omega),if_pos (o.kd.trans h4),o.kd,h.sum0 (by omega),e1];show be.mk k 0 (bl aP ((dI (vv i v n) G).2.map fun p=>aF.mk p.1 p.2.op.val))=be.mk k 0 (bl aP (m.map fun p=>aF.mk p.1 p.2.val))
 have hs1:=ke (kf w3 (fun a:ah=>a.op.val));have hs2:=ke (kf w4 (fun a:bk=>a.val));congr 1;refine im (fun a b:aF=>decide (a.field<b.field)) tQ hs1.1 hs2.1 fun x=>?_;refine((hs1.2 x).trans (pq w3 (fun a:ah=>a.op.val) x)).trans (Iff.trans ?_ ((hs2.2 x).trans (pq w4 (fun a:bk=>a.val) x)).symm);have agree: ∀nm,(bj (dI (vv i v n) G).2 nm).map (fun a:ah=>a.op.val)=(bj m nm).map (fun a:bk=>a.val):=fun nm=>by
  have up: ∀q∈s.map.puts,∃p∈hs,p.1.op.act=5∧q=vk p.2∧bQ p.1 (G.map (·.1)) (vv i v n)=true:=fun q hq=>by
   obtain⟨⟨e,hee,h5,rfl⟩,hng⟩:=(o.mp.ma q).1 hq;obtain⟨p,hp,rfl⟩:=List.mem_map.1 hee;have cp:=h.g.cor p (h.R.sub p hp);have hpa:p.1.op.act=5:=cp.act.symm.trans h5;exact⟨p,hp,hpa,rfl,(kI h.hi h.R h.g hp (.inr hpa)).2 fun⟨e,h1,h2,h3⟩=>hng ((o.mp.mg _).2 ⟨e,h1,by omega,h3⟩)⟩
  have down: ∀p∈hs,p.1.op.act=5→bQ p.1 (G.map (·.1)) (vv i v n)=true→vk p.2∈s.map.puts:=fun p hp hpa hh=>by
   have cp:=h.g.cor p (h.R.sub p hp);rw[o.mp.ma];refine⟨⟨p.2,List.mem_map_of_mem hp,cp.act.trans hpa,rfl⟩,fun hg=>?_⟩;obtain⟨e,hee,h9,h10⟩:=(o.mp.mg _).1 hg;exact(kI h.hi h.R h.g hp (.inr hpa)).1 hh ⟨e,hee,by omega,h10⟩
  cases hm:bj (dI (vv i v n) G).2 nm with
  |none=>
   cases hm2:bj m nm with
   |none=>rfl
   |some q=>
    obtain⟨h5,_,h6,_⟩:=W.so nm q hm2;obtain⟨p,hp,hpa,rfl,hh⟩:=up q h5;have cp:=h.g.cor p (h.R.sub p hp);exact absurd (cp.name.symm.trans h6) (w1 nm hm p hp (.inr (.inr hpa)) hh)
  |some a=>
   obtain⟨p,hp,rfl,hpc,hh,hnm,hmax⟩:=w2 nm a hm;have cp:=h.g.cor p (h.R.sub p hp);have hpa:p.1.op.act=5:=by have:=hact p hp;omega
   have hin:=down p hp hpa hh;have hfd:(vk p.2).field=nm:=cp.name.trans hnm;cases hm2:bj m nm with
   |none=>exact absurd hfd (W.no nm hm2 _ hin rfl)
   |some q=>
    obtain⟨h5,_,h6,h7⟩:=W.so nm q hm2;obtain⟨p',hp',hpa',rfl,hh'⟩:=up q h5;have cp':=h.g.cor p' (h.R.sub p' hp');have l1:=hmax p' hp' (.inr (.inr hpa')) hh' (cp'.name.symm.trans h6);have l2:=h7 _ hin rfl hfd;have e2:vn (vk p'.2) (vk p.2)=uv p'.1 p.1:=by
     unfold vn uv mC vk;simp only[cp.tag,cp'.tag,cp.at_ (.inr hpa),cp'.at_ (.inr hpa')]
    rw[e2]at l2;have ht:=Dy l1 l2;have:p=p':=rN h.g.nd (h.R.sub p hp) (h.R.sub p' hp') (by rw[cp.tag,cp'.tag];exact ht);subst this;show some p.1.op.val=some (vk p.2).val
    rw[show(vk p.2).val=p.2.val from rfl,cp.val]
 rw[agree]
theorem gM.fin(h:gM k key G i s v n hs):bh key (G.map (·.1)) (vv i v n)=(bW s,0):=by
 rw[h.say];have hk:=h.hk;congr 1;rcases(show k=1∨k=2∨k=3∨k=4 by omega)with q|q|q|q
 ·exact h.say1 q
 ·exact h.say2 q
 ·exact h.say3 q
 ·exact h.say4 q
end
end Go.Proofs.YtmpeiadlohbikaaGreatDoor.V
end

section
set_option linter.unusedVariables false
set_option linter.unusedSimpArgs false
namespace Go.Proofs.YtmpeiadlohbikaaGreatDoor.V
open Go.RowKit Go.Shelf Go.Lib Go.Sort
theorem vr: ∀(N:Nat) (l:List Int),l.Nodup→(∀x∈l,0≤x∧x<N)→l.length≤N
 |0,[],_,_=>Nat.le_refl _
 |0,x::l,_,h=>by have:=h x (by simp);omega
 |N+1,l,nd,h=>by
  have ih:=vr N (l.erase (N:Int)) (nd.erase _) (fun x hx=>by
   have:=(nd.mem_erase_iff).1 hx;have h2:=h x this.2;have h1:=this.1;omega)
  rw[List.length_erase]at ih;split at ih<;>omega
theorem mE{α:Type} [Inhabited α](l:List α)(a:α){j:Int}(h0:0≤j)(h1:j<l.length):ix (l++ [a]) j=ix l j:=by
 unfold ix;rw[List.getElem?_append_left (by omega)]
theorem pu{α:Type} [Inhabited α](l:List α)(a:α):ix (l++ [a]) (l.length:Int)=a:=by
 unfold ix;rw[Int.toNat_natCast,List.getElem?_append_right (Nat.le_refl _)];simp
theorem tV(l:List ah)(v:List Int): ∀(E:List ah) (b:Int×List (List UInt8×ah)),(E.foldl (fU l v) b).2.length≤b.2.length+E.length
 | [],b=>Nat.le_refl _
 |a::E,b=>by
  rw[List.foldl_cons];have ih:=tV l v E (fU l v b a);have:(fU l v b a).2.length≤b.2.length+1:=by
   unfold fU;split
   ·exact Nat.le_succ _
   ·split
    ·exact eC _ _ _
    ·exact Nat.le_succ _
  simp only[List.length_cons];omega
theorem jh(key:List UInt8)(l:List ah)(v:List Int):(bh key l v).1.items.length≤1000000:=by
 by_cases hk:(ab key).2=0
 ·by_cases hl:l.length≤4096
  ·rw[qA hk hl];have h1:=tV l v (aA key (ab key).1 l v) (0,[]);have h2:(aA key (ab key).1 l v).length≤l.length:=List.length_filter_le _ _;unfold lA;split
   ·simp
   ·show(bl _ (List.map uX _)).length≤_
    rw[da,List.length_map];simp only[List.length_nil]at h1;omega
  ·unfold bh;rw[if_pos hk,if_pos (by omega)];simp
 ·unfold bh;rw[if_neg hk];simp
theorem vu(s:bw):(eW s).length≤s.puts.length:=by
 have key: ∀(n:Nat) (i:Int) (t:List (List UInt8×bk)),0≤i→(t.length:Int)≤i→i≤s.puts.length→ ∃j u,cF s n i t= .inr (j,u)∧u.length≤s.puts.length:=fun n=>by
  induction n with
  |zero=>intro i t h0 h1 h2;exact⟨i,t,rfl,by omega⟩
  |succ n ih=>
   intro i t h0 h1 h2;rw[cF];split
   ·split
    ·exact ih _ _ (by omega) (by have:=eC t (ix s.puts i).field (ix s.puts i);omega) (by omega)
    ·exact ih _ _ (by omega) (by omega) (by omega)
   ·exact⟨i,t,rfl,by omega⟩
 obtain⟨j,u,h,hu⟩:=key (((s.puts.length:Int)- 0).toNat+1) 0 [] (by omega) (by simp) (by omega);unfold eW;split
 ·rw[h];show(bl _ (List.map o7 u)).length≤_;rw[da,List.length_map];exact hu
 ·simp
theorem g7(s:aG)(h1:s.set.adds.length≤4097)(h2:s.map.puts.length≤4097):(bW s).items.length≤1000000:=by
 have key: ∀(n:Nat) (i:Int) (t:List aF),0≤i→(t.length:Int)≤i→i≤(aZ s.set).length→ ∃j u,eX s n i t= .inr (j,u)∧u.length≤(aZ s.set).length:=fun n=>by
  induction n with
  |zero=>intro i t h0 h1 h2;exact⟨i,t,rfl,by omega⟩
  |succ n ih=>
   intro i t h0 h1 h2;rw[eX];split
   ·exact ih _ _ (by omega) (by simp;omega) (by omega)
   ·exact⟨i,t,rfl,by omega⟩
 obtain⟨j,u,h,hu⟩:=key ((((aZ s.set).length:Int)- 0).toNat+1) 0 [] (by omega) (by simp) (by omega);have he:=lz s.set;have hm:=vu s.map;unfold bW;split
 ·simp
 ·split
  ·simp
  ·split
   ·rw[h];show u.length≤_;omega
   ·split
    ·show(eW s.map).length≤_;omega
    ·simp
theorem rT(k:Int):(bt k).1.set.adds.length≤4097:=by unfold bt;split<;>simp
theorem rU(k:Int):(bt k).1.set.gone.length≤4097:=by unfold bt;split<;>simp
theorem rV(k:Int):(bt k).1.map.puts.length≤4097:=by unfold bt;split<;>simp
theorem rW(k:Int):(bt k).1.map.gone.length≤4097:=by unfold bt;split<;>simp
theorem kJ(x:Int):(ix ([[(114:UInt8)],[(99:UInt8)],[(115:UInt8)],[(109:UInt8)]]:List (List UInt8)) x).length≤1000000:=by
 unfold ix;have:x.toNat=0∨x.toNat=1∨x.toNat=2∨x.toNat=3∨4≤x.toNat:=by omega
 rcases this with e|e|e|e|e
 ·rw[e];simp
 ·rw[e];simp
 ·rw[e];simp
 ·rw[e];simp
 ·rw[List.getElem?_eq_none (by simpa using e)];exact Nat.zero_le _
structure Lt(k:Int)(all:List ah)(v:List Int)(n:Int)(h:List Int)(B:Int):Prop where
 vl:v.length=8
 vb: ∀j:Int,0≤ix v j∧ix v j≤B
 nd:h.Nodup
 m: ∀x∈h,(0≤x∧x<all.length)∧eY (vv k v n) (ix all x).id
def L7:List Int:= [0,0,0,0,0,0,0,0]
theorem AF(j:Int):ix L7 j=0:=by
 unfold ix L7;rcases Nat.lt_or_ge j.toNat 8 with h|h
 ·have:j.toNat=0∨j.toNat=1∨j.toNat=2∨j.toNat=3∨j.toNat=4∨j.toNat=5∨j.toNat=6∨j.toNat=7:=by omega
  rcases this with e|e|e|e|e|e|e|e<;>rw[e]<;>rfl
 ·rw[List.getElem?_eq_none (by simpa using h)];rfl
theorem Lt.start(k:Int):Lt k [] [0,0,0,0,0,0,0,0] 0 [] 0:=⟨rfl,fun j=>by
 have:=AF j;unfold L7 at this;omega,List.nodup_nil,fun x hx=>by cases hx⟩
section
variable {k k':Int} {all:List ah} {v v2:List Int} {n n2:Int} {h h2:List Int} {B B':Int}
theorem Lt.mono(L:Lt k all v n h B)(hb:B≤B'):Lt k all v n h B':=⟨L.vl,fun j=>⟨(L.vb j).1,Int.le_trans (L.vb j).2 hb⟩,L.nd,L.m⟩
theorem Lt.rng(L:Lt k all v n h B){j:Int}(h0:0≤j)(h1:j<h.length):0≤ix h j∧ix h j<all.length:=(L.m _ (rL h h0 h1)).1
theorem Lt.len(L:Lt k all v n h B):h.length≤all.length:=vr _ _ L.nd fun x hx=>(L.m x hx).1
theorem Lt.push(L:Lt k all v n h B)(a:ah)(hb:B≤B'):Lt k (all++ [a]) v n h B':=by
 refine⟨L.vl,fun j=>⟨(L.vb j).1,Int.le_trans (L.vb j).2 hb⟩,L.nd,fun x hx=>?_⟩;have:=L.m x hx;refine⟨⟨this.1.1,by simp;omega⟩,?_⟩;rw[mE _ _ this.1.1 this.1.2];exact this.2
theorem rX{x:Int}(h:0≤x)(h2:x<4294967295):(x+1)%4294967296=x+1:=by omega
theorem Lt.op(L:Lt k all v n h B)(hk:0≤k∧k<3)(hn:0≤n){a:ah}(e1:a.id.origin=k)(e2:a.id.seq=(ix v a.id.origin+1)%4294967296)(hb:B+1≤B')(h50:B≤50):Lt k (all++ [a]) v (n+1) (h++ [(all.length:Int)]) B':=by
 have hv:=L.vb k;rw[e1,rX hv.1 (by omega)]at e2;have hle: ∀id,eY (vv k v n) id→eY (vv k v (n+1)) id:=fun id q=>by
  refine⟨q.1,Int.le_trans q.2 ?_⟩;rw[pj hk L.vl q.1.1,pj hk L.vl q.1.1];by_cases hz:id.origin=k
  ·rw[if_pos (show 0<n+1∧id.origin=k from⟨by omega,hz⟩)];split
   ·omega
   ·rw[hz];omega
  ·rw[if_neg (fun q=>hz q.2),if_neg (fun q=>hz q.2)];omega
 refine⟨L.vl,fun j=>⟨(L.vb j).1,by have:=(L.vb j).2;omega⟩,?_,fun x hx=>?_⟩
 ·rw[List.nodup_append];refine⟨L.nd,by simp,fun x hx y hy e=>?_⟩;rw[List.mem_singleton]at hy;have:=L.m x hx;omega
 ·rcases List.mem_append.1 hx with hx|hx
  ·have:=L.m x hx;refine⟨⟨this.1.1,by simp;omega⟩,?_⟩;rw[mE _ _ this.1.1 this.1.2];exact hle _ this.2
  ·rw[List.mem_singleton]at hx;subst hx;refine⟨⟨by omega,by simp;omega⟩,?_⟩;rw[pu];refine⟨⟨by omega,by omega,by omega,by omega⟩,?_⟩;rw[e1,pj hk L.vl hk.1,if_pos ⟨by omega,rfl⟩];omega
theorem Lt.next(L:Lt k all v n h B)(hk:0≤k∧k<3)(hkk:k'=k)(hb:B+1≤B')(h50:B≤50):Lt k all (v.set k'.toNat ((ix v k'+1)%4294967296)) 0 h B':=by
 subst hkk;have hv:=L.vb k';have hl:=L.vl;rw[rX hv.1 (by omega)];have ixs: ∀j:Int,0≤j→ix (v.set k'.toNat (ix v k'+1)) j=if j=k' then ix v k'+1 else ix v j:=fun j hj=>pi _ _ _ _ hk.1 hj (by omega);refine⟨by simpa using hl,fun j=>?_,L.nd,fun x hx=>?_⟩
 ·rcases Int.lt_or_le j 0 with hj|hj
  ·have:=L.vb j;have e:ix (v.set k'.toNat (ix v k'+1)) j=ix (v.set k'.toNat (ix v k'+1)) 0:=by unfold ix;rw[show j.toNat=(0:Int).toNat by omega]
   rw[e,ixs 0 (by omega)];have h0:=L.vb 0;split<;>omega
  ·rw[ixs j hj];have:=L.vb j;split<;>omega
 ·have:=L.m x hx;refine⟨this.1,this.2.1,Int.le_trans this.2.2 ?_⟩;have e0:vv k' (v.set k'.toNat (ix v k'+1)) 0=v.set k'.toNat (ix v k'+1):=by unfold vv;rw[if_neg (by omega)]
  rw[e0,pj hk hl this.2.1.1,ixs _ this.2.1.1];by_cases hz:(ix all x).id.origin=k'
  ·rw[if_pos hz];split
   ·omega
   ·rw[hz];omega
  ·rw[if_neg hz,if_neg (fun q=>hz q.2)];omega
def nu(all:List ah)(v v2:List Int)(x:Int):Bool:=!(aD v (ix all x).id||!aD v2 (ix all x).id)
def gA(all:List ah)(v v2:List Int)(h0 h2:List Int)(j:Int)(h:List Int):Prop:=h=h0++(h2.take j.toNat).filter (nu all v v2)
theorem gA.start(all:List ah)(v v2 h0 h2:List Int):gA all v v2 h0 h2 0 h0:=by unfold gA;simp
theorem qG{α:Type} [Inhabited α](l:List α){j:Int}(h0:0≤j)(h1:j<l.length):l.take (j+1).toNat=l.take j.toNat++ [ix l j]:=by
 rw[show(j+1).toNat=j.toNat+1 by omega,List.take_add_one];unfold ix;rw[List.getElem?_eq_getElem (by omega)];rfl
theorem gA.skip{h0 h:List Int}{j:Int}(T:gA all v v2 h0 h2 j h)(hj:0≤j)(hl:j<h2.length)(c:aD v (ix all (ix h2 j)).id=true∨ ¬aD v2 (ix all (ix h2 j)).id=true):gA all v v2 h0 h2 (j+1) h:=by
 unfold gA at*;rw[qG _ hj hl,List.filter_append,←List.append_assoc,←T];have:nu all v v2 (ix h2 j)=false:=by
  unfold nu;rcases c with c|c
  ·rw[c];rfl
  ·rw[Bool.not_eq_true]at c;rw[c];simp
 simp[this]
theorem gA.app{h0 h:List Int}{j:Int}(T:gA all v v2 h0 h2 j h)(hj:0≤j)(hl:j<h2.length)(c: ¬(aD v (ix all (ix h2 j)).id=true∨ ¬aD v2 (ix all (ix h2 j)).id=true)):gA all v v2 h0 h2 (j+1) (h++ [ix h2 j]):=by
 unfold gA at*;rw[qG _ hj hl,List.filter_append,←List.append_assoc,←T];have:nu all v v2 (ix h2 j)=true:=by
  rw[not_or,Classical.not_not]at c;unfold nu;rw[c.2,(Bool.not_eq_true _).mp c.1];rfl
 simp[this]
theorem gA.len{h0 h:List Int}{j:Int}(T:gA all v v2 h0 h2 j h):h.length≤h0.length+h2.length:=by
 unfold gA at T;rw[T,List.length_append];have:=List.length_filter_le (nu all v v2) (h2.take j.toNat);have h3:(h2.take j.toNat).length≤h2.length:=by rw[List.length_take];omega
 omega
theorem AG{v v2:List Int}(h1:v.length=8):(aY v v2).length=8∧ ∀j:Int,0≤j→ix (aY v v2) j=if j<8 then max (ix v j) (ix v2 j)else default:=by
 have key: ∀(fuel:Nat) (i:Int) (a:List Int),0≤i→i≤8→(8 - i).toNat<fuel→a.length=8→(∀j:Int,0≤j→ix a j=if j<i then max (ix v j) (ix v2 j)else ix v j)→ ∃z,fM v2 fuel i a= .inr (8,z)∧z.length=8∧ ∀j:Int,0≤j→ix z j=if j<8 then max (ix v j) (ix v2 j)else ix v j:=fun fuel=>by
  induction fuel with
  |zero=>intro i a _ _ h;omega
  |succ n ih=>
   intro i a h0 h8 hf hl ha;rw[fM];by_cases hi:i<8
   ·rw[if_pos hi];refine ih (i+1) _ (by omega) (by omega) (by omega) (by simpa using hl) fun j hj=>?_;rw[pi _ _ _ _ h0 hj (by omega)];by_cases e:j=i
    ·subst e;rw[if_pos rfl,ha j h0,if_neg (by omega),if_pos (by omega)]
    ·rw[if_neg e,ha j hj];by_cases hlt:j<i
     ·rw[if_pos hlt,if_pos (by omega)]
     ·rw[if_neg hlt,if_neg (by omega)]
   ·rw[if_neg hi];obtain rfl:i=8:=by omega
    exact⟨a,rfl,hl,ha⟩
 obtain⟨z,e,h2,h3⟩:=key (((8:Int)- 0).toNat+1) 0 v (by omega) (by omega) (by omega) h1 (fun j hj=>by rw[if_neg (by omega)]);unfold aY;rw[e];refine⟨h2,fun j hj=>?_⟩;rw[h3 j hj];split
 ·rfl
 ·unfold ix;rw[List.getElem?_eq_none (by omega)];rfl
theorem Lt.take{i2:Int}(L:Lt k all v n h B)(L2:Lt i2 all v2 n2 h2 B)(hn: ¬0<n){h3:List Int}{j:Int}(T:gA all v v2 h h2 j h3)(hb:B≤B'):Lt k all (aY v v2) n h3 B':=by
 have hj:=AG (v:=v) (v2:=v2) L.vl;have e0: ∀w,vv k w n=w:=fun w=>by unfold vv;rw[if_neg hn]
 unfold gA at T;refine⟨hj.1,fun x=>?_,?_,fun x hx=>?_⟩
 ·rcases Int.lt_or_le x 0 with hx|hx
  ·have e:ix (aY v v2) x=ix (aY v v2) 0:=by unfold ix;rw[show x.toNat=(0:Int).toNat by omega]
   rw[e,hj.2 0 (by omega),if_pos (by omega)];have:=L.vb 0;have:=L2.vb 0;omega
  ·rw[hj.2 x hx];have:=L.vb x;have:=L2.vb x;split
   ·omega
   ·show 0≤(0:Int)∧(0:Int)≤B';have:=L.vb 0;omega
 ·rw[T,List.nodup_append];refine⟨L.nd,((L2.nd.sublist (List.take_sublist _ _)).sublist List.filter_sublist),fun x hx y hy e=>?_⟩;subst e;have h1:=L.m x hx;have h4:=(List.mem_filter.1 hy).2;rw[e0]at h1;unfold nu at h4;rw[(jB).2 h1.2]at h4;simp at h4
 ·have mono: ∀w,(w=v∨w=v2)→ ∀id,eY w id→eY (aY v v2) id:=fun w hw id q=>by
   refine⟨q.1,Int.le_trans q.2 ?_⟩;rw[hj.2 _ q.1.1,if_pos q.1.2.1];rcases hw with rfl|rfl<;>omega
  rw[e0];rw[T]at hx;rcases List.mem_append.1 hx with hx|hx
  ·have:=L.m x hx;rw[e0]at this;exact⟨this.1,mono v (.inl rfl) _ this.2⟩
  ·have h4:=List.mem_filter.1 hx;have h5:=L2.m x (List.mem_of_mem_take h4.1);refine⟨h5.1,mono v2 (.inr rfl) _ ?_⟩;have h6:=h4.2;unfold nu at h6;rw[←jB];simp at h6;exact h6.2
end
end Go.Proofs.YtmpeiadlohbikaaGreatDoor.V
end

section
set_option linter.unusedVariables false
set_option linter.unusedSimpArgs false
namespace Go.Proofs.YtmpeiadlohbikaaGreatDoor.V
open Go.RowKit Go.Shelf Go.Lib Go.Sort
theorem DC{s:br}(h:jC s)(nm:List UInt8):jx s nm=(s.adds.filter (fun a=>decide (a.elem=nm))).map (·.tag):=by
 unfold jx;rw[if_pos (iL h),fu s.adds (fun acc x=>if decide (x.elem=nm)=true then acc++ [x.tag]else acc) (gx s nm) (fun fuel c i _=>by
  rw[gx];by_cases hi:i<(s.adds.length:Int)
  ·rw[if_pos hi,if_pos hi];by_cases e:(ix s.adds i).elem=nm
   ·rw[if_pos e,if_pos (decide_eq_true e)]
   ·rw[if_neg e,if_neg (by simpa using e)]
  ·rw[if_neg hi,if_neg hi])]
 show s.adds.foldl _ []=_
 rw[nr (fun x:bD=>decide (x.elem=nm)) (·.tag),List.nil_append]
theorem x7{s:bw}(h:kH s)(nm:List UInt8):g5 s nm=(s.puts.filter (fun a=>decide (a.field=nm))).map (·.tag):=by
 unfold g5 tx;rw[if_pos (iQ h),mw];congr 1;apply List.filter_congr;intro a _;unfold ly;by_cases e:a.field=nm<;>simp[e]
def qb(s:aG)(o:gG)(tag:am)(tm:aj):ax:=ax.mk o.act o.name o.val tag (if o.act=1∨o.act=5 then tm else⟨0,0⟩) (if o.act=4 then jx s.set o.name else if o.act=6 then g5 s.map o.name else [])
theorem wY{s:aG}{o:gG}{tag:am}{tm:aj}(h:(af s o tag tm).2=0):bv o=0∧cy o.act=s.kind∧aW tag=0∧d5 tm=true∧(af s o tag tm).1=qb s o tag tm:=by
 unfold af at*;by_cases h1:bv o=0
 ·rw[if_pos h1]at h⊢;by_cases h2:cy o.act=s.kind
  ·rw[if_pos h2]at h⊢;by_cases h3:ch tag=true
   ·rw[if_pos h3]at h;cases h
   ·rw[if_neg h3]at h⊢;by_cases h4:d5 tm=true
    ·rw[if_pos h4];refine⟨h1,h2,by unfold ch at h3;simpa using h3,h4,?_⟩;unfold qb;by_cases a1:o.act=1
     ·simp[a1]
     by_cases a5:o.act=5
     ·simp[a5]
     by_cases a4:o.act=4
     ·simp[a4]
     by_cases a6:o.act=6
     ·simp[a6]
     ·simp[a1,a5,a4,a6]
    ·rw[if_neg h4]at h;cases h
  ·rw[if_neg h2]at h;cases h
 ·rw[if_neg h1]at h;exact absurd h h1
theorem AH{e:ax}(h1:bv ⟨e.act,e.name,e.val⟩=0)(h2:aW e.tag=0)(h3: ∀t∈e.tags,aW t=0)(h4:e.tags.length≤4096)(h5:(e.act=1∨e.act=5)→d5 e.at_=true)(h6: ¬(e.act=1∨e.act=5)→e.at_=⟨0,0⟩)(h7: ¬(e.act=4∨e.act=6)→e.tags= [])(h8:cP e.tags):d6 e=0:=by
 have f1:(cz e.act).at_=true↔(e.act=1∨e.act=5):=by
  unfold cz
  repeat' split
  all_goals first|(simp;done)|(simp;omega)|(simp only[true_iff,Bool.false_eq_true,false_iff];omega)
 have f2:(cz e.act).tags=true↔(e.act=4∨e.act=6):=by
  unfold cz
  repeat' split
  all_goals first|(simp;done)|(simp;omega)|(simp only[true_iff,Bool.false_eq_true,false_iff];omega)
 unfold d6;rw[if_pos h1,if_neg (by
  rintro(q|q)
  ·unfold ch at q;rw[h2]at q;simp at q
  ·rw[dq,List.any_eq_true]at q;obtain⟨t,ht,q⟩:=q;unfold ch at q;rw[h3 t ht]at q;simp at q),if_neg (by omega),if_neg (by
  rw[f1,f2];rintro((⟨q1,q2⟩|⟨q1,q2⟩)|⟨q1,q2⟩)
  ·exact q2 (h5 q1)
  ·exact q2 (h6 q1)
  ·rw[h7 q1]at q2;simp at q2)]
 have:=jA e.tags (fun a b=>decide (ak a b<0)) 3 (fj e) (fun fuel i _=>by
  rw[fj];split
  ·by_cases q:ak (ix e.tags (i - 1)) (ix e.tags i)<0
   ·rw[if_neg (by omega),if_pos (decide_eq_true q)]
   ·rw[if_pos (by omega),if_neg (by simpa using q)]
  ·rfl) ((((e.tags.length:Int)- 1).toNat)+1) 1 (by omega) (by omega)
 rcases this with⟨⟨q,hq⟩,_⟩|⟨_,j,h1,h2,h3⟩
 ·rw[hq]
 ·exfalso;have hp:=(nq e.tags (fun a b=>decide (ak a b<0)) uZ).2 (by
   unfold cP at h8;exact h8.imp fun{a b} q=>by rw[decide_eq_true_eq,bM,dL];exact q) j h1 h2
  rw[hp]at h3;cases h3
structure RS where
 s:aG
 v:List Int
 n:Int
 h:List Int
 t:Int
def nv(all:List ah)(eff:List ax)(h:List Int):List Pr:=h.map fun j=>(ix all j,ix eff j)
def upd(r:Int→RS)(i:Int)(x:RS):Int→RS:=fun j=>if j=i then x else r j
theorem dJ(r:Int→RS)(i:Int)(x:RS):upd r i x i=x:=if_pos rfl
theorem ea(r:Int→RS){i j:Int}(x:RS)(h:j≠i):upd r i x j=r j:=if_neg h
structure ec(k:Int)(key:List UInt8)(all:List ah)(eff:List ax)(r:Int→RS)(B:Int):Prop where
 el:eff.length=all.length
 al:(all.length:Int)≤B
 g:GI k key (all.zip eff)
 rr: ∀i,0≤i∧i<3→RI k (all.zip eff) i (r i).s (r i).v (r i).n (nv all eff (r i).h)
 lt: ∀i,0≤i∧i<3→Lt i all (r i).v (r i).n (r i).h B
 cr: ∀i j,0≤i∧i<3→0≤j∧j<3→ix (r j).v i≤ix (r i).v i
 tm: ∀i,0≤i∧i<3→0≤(r i).t∧(r i).t≤B
theorem tW{α β:Type}: ∀(l:List α) (m:List β) (a:α) (b:β),l.length=m.length→(l++ [a]).zip (m++ [b])=l.zip m++ [(a,b)]
 | [],[],_,_,_=>rfl
 |x::l,y::m,a,b,h=>by simp only[List.cons_append,List.zip_cons_cons];rw[tW l m a b (by simpa using h)]
 | [],_::_,_,_,h=>by cases h
 |_::_,[],_,_,h=>by cases h
theorem tX{all:List ah}{eff:List ax}{h:List Int}(he:eff.length=all.length)(hr: ∀x∈h,0≤x∧x<all.length)(a:ah)(e:ax):nv (all++ [a]) (eff++ [e]) h=nv all eff h:=by
 unfold nv;refine List.map_congr_left fun x hx=>?_;have:=hr x hx;rw[mE _ _ this.1 this.2,mE _ _ this.1 (by omega)]
theorem wZ{all:List ah}{eff:List ax}(he:eff.length=all.length){x:Int}(h0:0≤x)(h1:x<all.length):(ix all x,ix eff x)∈all.zip eff:=by
 have e1:ix all x=all[x.toNat]'(by omega):=by unfold ix;rw[List.getElem?_eq_getElem (by omega)];rfl
 have e2:ix eff x=eff[x.toNat]'(by omega):=by unfold ix;rw[List.getElem?_eq_getElem (by omega)];rfl
 rw[e1,e2,List.mem_iff_getElem];exact⟨x.toNat,by rw[List.length_zip];omega,by rw[List.getElem_zip]⟩
end Go.Proofs.YtmpeiadlohbikaaGreatDoor.V
end

section
set_option linter.unusedVariables false
set_option linter.unusedSimpArgs false
namespace Go.Proofs.YtmpeiadlohbikaaGreatDoor.V
open Go.RowKit Go.Shelf Go.Lib Go.Sort
section
variable {k:Int} {key:List UInt8} {all:List ah} {eff:List ax} {r:Int→RS} {B B':Int} {i i2:Int}
theorem ec.mono(I:ec k key all eff r B)(h:B≤B'):ec k key all eff r B':=
 ⟨I.el,Int.le_trans I.al h,I.g,I.rr,fun i hi=>(I.lt i hi).mono h,I.cr,fun i hi=>⟨(I.tm i hi).1,Int.le_trans (I.tm i hi).2 h⟩⟩
theorem ec.zl(I:ec k key all eff r B):((all.zip eff).length:Int)=all.length:=by
 rw[List.length_zip];have:=I.el;omega
theorem ec.hist(I:ec k key all eff r B)(hk:1≤k∧k≤4)(hy:(ab key).1=k∧(ab key).2=0)(hi:0≤i∧i<3)(hB:B≤50):gM k key (all.zip eff) i (r i).s (r i).v (r i).n (nv all eff (r i).h):=
 ⟨hk,hy,hi,I.g,I.rr i hi,by have:=I.zl;have:=I.al;omega⟩
theorem mF: ∀{l:List ah} {m:List ax},m.length=l.length→(l.zip m).map (·.1)=l
 | [],[],_=>rfl
 |a::l,b::m,h=>by rw[List.zip_cons_cons,List.map_cons,mF (by simpa using h)]
 | [],_::_,h=>by cases h
 |_::_,[],h=>by cases h
theorem x8(I:ec k key all eff r B)(hk:1≤k∧k≤4)(hy:(ab key).1=k∧(ab key).2=0)(hi:0≤i∧i<3)(hB:B≤50){o:gG}{tm:aj}{tag:am}(ht:aW tag=0)(h:(af (r i).s o tag tm).2=0):
  rR k (qb (r i).s o tag tm)∧(o.act=4→ ∀t,t∈(qb (r i).s o tag tm).tags↔ ∃a∈(r i).s.set.adds,a.elem=o.name∧a.tag=t)∧(o.act=6→ ∀t,t∈(qb (r i).s o tag tm).tags↔ ∃a∈(r i).s.map.puts,a.field=o.name∧a.tag=t):=by
 have H:=I.hist hk hy hi hB;have ob:=H.R.obj;have hl:(List.map (·.2) (nv all eff (r i).h)).length≤50:=by simp only[List.length_map];exact H.len_hs
 have sf:=ob.set0 H.goods hl;have mf:=ob.map0 H.goods hl;obtain⟨h1,h2,h3,h4,h5⟩:=wY h;have e4:o.act=4→(qb (r i).s o tag tm).tags=((r i).s.set.adds.filter (fun a=>decide (a.elem=o.name))).map (·.tag):=fun q=>by
  show(if o.act=4 then _ else _)=_
  rw[if_pos q,DC sf]
 have e6:o.act=6→(qb (r i).s o tag tm).tags=((r i).s.map.puts.filter (fun a=>decide (a.field=o.name))).map (·.tag):=fun q=>by
  show(if o.act=4 then _ else if o.act=6 then _ else _)=_
  rw[if_neg (by omega),if_pos q,x7 mf]
 have e0: ¬(o.act=4∨o.act=6)→(qb (r i).s o tag tm).tags= []:=fun q=>by
  show(if o.act=4 then _ else if o.act=6 then _ else _)=_
  rw[if_neg (by omega),if_neg (by omega)]
 have hn:=ob.st.n;have hm:=ob.mp.n;have hle:(qb (r i).s o tag tm).tags.length≤50:=by
  by_cases q4:o.act=4
  ·rw[e4 q4,List.length_map];have:=List.length_filter_le (fun a=>decide (a.elem=o.name)) (r i).s.set.adds;omega
  ·by_cases q6:o.act=6
   ·rw[e6 q6,List.length_map];have:=List.length_filter_le (fun a=>decide (a.field=o.name)) (r i).s.map.puts;omega
   ·rw[e0 (by omega)];simp
 refine⟨⟨AH h1 ht (fun t htt=>?_) (by omega) (fun q=>?_) (fun q=>?_) e0 ?_,h2.trans ob.kd,hle⟩,fun q t=>?_,fun q t=>?_⟩
 ·by_cases q4:o.act=4
  ·rw[e4 q4]at htt;obtain⟨a,ha,rfl⟩:=List.mem_map.1 htt;exact sf.ta a (List.mem_filter.1 ha).1
  ·by_cases q6:o.act=6
   ·rw[e6 q6]at htt;obtain⟨a,ha,rfl⟩:=List.mem_map.1 htt;exact mf.ta a (List.mem_filter.1 ha).1
   ·rw[e0 (by omega)]at htt;cases htt
 ·show d5 (if o.act=1∨o.act=5 then tm else⟨0,0⟩)=true
  rw[if_pos (show o.act=1∨o.act=5 from q)];exact h4
 ·show(if o.act=1∨o.act=5 then tm else⟨0,0⟩)=_
  rw[if_neg (show ¬(o.act=1∨o.act=5)from q)]
 ·by_cases q4:o.act=4
  ·rw[e4 q4];exact List.Pairwise.sublist (List.filter_sublist.map _) sf.ra
  ·by_cases q6:o.act=6
   ·rw[e6 q6];exact List.Pairwise.sublist (List.filter_sublist.map _) mf.ra
   ·rw[e0 (by omega)];exact List.Pairwise.nil
 ·rw[e4 q];simp only[List.mem_map,List.mem_filter,decide_eq_true_eq];constructor
  ·rintro⟨a,⟨h1,h2⟩,h3⟩;exact⟨a,h1,h2,h3⟩
  ·rintro⟨a,h1,h2,h3⟩;exact⟨a,⟨h1,h2⟩,h3⟩
 ·rw[e6 q];simp only[List.mem_map,List.mem_filter,decide_eq_true_eq];constructor
  ·rintro⟨a,⟨h1,h2⟩,h3⟩;exact⟨a,h1,h2,h3⟩
  ·rintro⟨a,h1,h2,h3⟩;exact⟨a,⟨h1,h2⟩,h3⟩
theorem ec.op(I:ec k key all eff r B)(hk:1≤k∧k≤4)(hy:(ab key).1=k∧(ab key).2=0)(hi:0≤i∧i<3)(hB:B<50)(hn:0≤(r i).n∧(r i).n<16){o:gG}{tm:aj}{a:ah}(ha:a=ah.mk ⟨i,ix (r i).v i+1⟩ (r i).v (r i).n key o tm)
  (h:(af (r i).s o ⟨⟨i,ix (r i).v i+1⟩,(r i).n⟩ tm).2=0) {t':Int} (ht':0≤t'∧t'≤B+1): ∃s',ae (r i).s (af (r i).s o ⟨⟨i,ix (r i).v i+1⟩,(r i).n⟩ tm).1=(s',0)∧
   ec k key (all++ [a]) (eff++ [(af (r i).s o ⟨⟨i,ix (r i).v i+1⟩,(r i).n⟩ tm).1]) (upd r i ⟨s',(r i).v,(r i).n+1,(r i).h++ [(all.length:Int)],t'⟩) (B+1):=by
 have H:=I.hist hk hy hi (by omega);have L:=I.lt i hi;have hv:=L.vb i;obtain⟨h1,h2,h3,h4,h5⟩:=wY h;rw[h5];have htag:aW ⟨⟨i,ix (r i).v i+1⟩,(r i).n⟩=0:=h3;obtain⟨hg,t4,t6⟩:=x8 I hk hy hi (by omega) h3 h;generalize he:qb (r i).s o ⟨⟨i,ix (r i).v i+1⟩,(r i).n⟩ tm=e at*;have x1:e.tag=⟨⟨i,ix (r i).v i+1⟩,(r i).n⟩:=by rw[←he];rfl
 have x2:e.act=o.act:=by rw[←he];rfl
 have x3:e.name=o.name:=by rw[←he];rfl
 have x4:e.val=o.val:=by rw[←he];rfl
 have x5:o.act=1∨o.act=5→e.at_=tm:=fun q=>by rw[←he];exact if_pos q
 have hf:=H.R.new_tag hi I.g;have hin: ∀x∈(r i).h,0≤x∧x<all.length:=fun x hx=>(L.m x hx).1;have c:JD k key (a,e):=by
  subst ha;exact⟨hg,x2,x3,x4,x1,fun q=>x5 q,rfl,H.R.vl,⟨hi,by show 1≤ix (r i).v i+1;omega,by show ix (r i).v i+1≤1048576;omega⟩,h1,h2.trans H.R.obj.kd⟩
 have e1:a.id=⟨i,ix (r i).v i+1⟩:=by rw[ha]
 have e2:a.n=(r i).n:=by rw[ha]
 have e3:a.deps=(r i).v:=by rw[ha]
 have e4:a.op=o:=by rw[ha]
 obtain⟨s',hs1,hs2⟩:=nL hk.1 H.R.obj H.goods hg (fun hm=>by
  obtain⟨e',hm1,hm2⟩:=List.mem_map.1 hm;obtain⟨p,hp,rfl⟩:=List.mem_map.1 hm1;exact hf p (H.R.sub p hp) (hm2.trans x1)) (by
  have h1:=(mD H.R H.g).length_eq;have h2:(BY (vv i (r i).v (r i).n) (all.zip eff)).length≤(all.zip eff).length:=List.length_filter_le _ _;have:=I.zl;have:=I.al;simp only[List.length_map];omega)
 refine⟨s',hs1,?_⟩;have hz:(all++ [a]).zip (eff++ [e])=all.zip eff++ [(a,e)]:=tW _ _ _ _ I.el.symm;have hho:nv (all++ [a]) (eff++ [e]) ((r i).h++ [(all.length:Int)])=nv all eff (r i).h++ [(a,e)]:=by
  have:=tX I.el hin a e;unfold nv at*;rw[List.map_append,this,List.map_cons,List.map_nil,pu];rw[show(all.length:Int)=(eff.length:Int)by rw[I.el],pu]
 have hpn:(a,e)∉all.zip eff:=fun hm=>hf _ hm x1;have ob:=H.R.obj;have G':GI k key (all.zip eff++ [(a,e)]):=by
  refine I.g.add c (fun q hq e'=>hf q hq (e'.trans x1)) (H.R.unseen hi e1 e2) (fun q hq=>H.R.sees hi I.g e1 e2 e3 hq) H.R.sub fun hact t=>?_;rw[show(a,e).1.op.act=o.act by rw[←e4],show(a,e).1.op.name=o.name by rw[←e4]];have hact:o.act=4∨o.act=6:=by rw[←e4];exact hact
  rcases hact with q|q
  ·rw[show(a,e).2.tags=e.tags from rfl,t4 q];constructor
   ·rintro⟨x,hx,hx1,hx2⟩;obtain⟨⟨y,hy1,hy2,rfl⟩,hy3⟩:=(ob.st.ma x).1 hx;obtain⟨p,hp,rfl⟩:=List.mem_map.1 hy1;have cp:=I.g.cor p (H.R.sub p hp);refine⟨p,hp,by have:=cp.act;omega,cp.name.symm.trans hx1,hx2,?_⟩;rintro⟨z,hz1,hz2,hz3⟩;apply hy3;rw[ob.st.mg];exact⟨z.2,List.mem_map_of_mem hz1,by have:=(I.g.cor z (H.R.sub z hz1)).act;omega,hx2.symm▸hz3⟩
   ·rintro⟨p,hp,wm,hp2,hp3,hp4⟩;have cp:=I.g.cor p (H.R.sub p hp);refine⟨IL p.2,(ob.st.ma _).2 ⟨⟨p.2,List.mem_map_of_mem hp,by have:=cp.act;omega,rfl⟩,fun hgn=>?_⟩,cp.name.trans hp2,hp3⟩;obtain⟨y,hy1,hy2,hy3⟩:=(ob.st.mg _).1 hgn;obtain⟨z,hz1,rfl⟩:=List.mem_map.1 hy1;exact hp4 ⟨z,hz1,by have:=(I.g.cor z (H.R.sub z hz1)).act;omega,by rw[←hp3];exact hy3⟩
  ·rw[show(a,e).2.tags=e.tags from rfl,t6 q];constructor
   ·rintro⟨x,hx,hx1,hx2⟩;obtain⟨⟨y,hy1,hy2,rfl⟩,hy3⟩:=(ob.mp.ma x).1 hx;obtain⟨p,hp,rfl⟩:=List.mem_map.1 hy1;have cp:=I.g.cor p (H.R.sub p hp);refine⟨p,hp,by have:=cp.act;omega,cp.name.symm.trans hx1,hx2,?_⟩;rintro⟨z,hz1,hz2,hz3⟩;apply hy3;rw[ob.mp.mg];exact⟨z.2,List.mem_map_of_mem hz1,by have:=(I.g.cor z (H.R.sub z hz1)).act;omega,hx2.symm▸hz3⟩
   ·rintro⟨p,hp,wm,hp2,hp3,hp4⟩;have cp:=I.g.cor p (H.R.sub p hp);refine⟨vk p.2,(ob.mp.ma _).2 ⟨⟨p.2,List.mem_map_of_mem hp,by have:=cp.act;omega,rfl⟩,fun hgn=>?_⟩,cp.name.trans hp2,hp3⟩;obtain⟨y,hy1,hy2,hy3⟩:=(ob.mp.mg _).1 hgn;obtain⟨z,hz1,rfl⟩:=List.mem_map.1 hy1;exact hp4 ⟨z,hz1,by have:=(I.g.cor z (H.R.sub z hz1)).act;omega,by rw[←hp3];exact hy3⟩
 refine⟨by simp[I.el],by have:=I.al;simp;omega,by rw[hz];exact G',fun j hj=>?_,fun j hj=>?_,fun j l hj hl=>?_,fun j hj=>?_⟩
 ·rw[hz];by_cases hji:j=i
  ·subst hji;rw[dJ,hho];exact H.R.add hi I.g c e1 e2 e3 (by rw[List.map_append];exact hs2)
  ·rw[ea _ _ hji,tX I.el (fun x hx=>((I.lt j hj).m x hx).1)];exact(I.rr j hj).other (n2:=0) hj hi hji c e1 e3 (I.cr i j hi hj) (I.cr j i hj hi) hpn
 ·by_cases hji:j=i
  ·subst hji;rw[dJ];exact L.op hi hn.1 (by rw[e1]) (by rw[e1];show ix (r j).v j+1=_;rw[rX hv.1 (by omega)]) (by omega) (by omega)
  ·rw[ea _ _ hji];exact(I.lt j hj).push a (by omega)
 ·have vs: ∀x,(upd r i ⟨s',(r i).v,(r i).n+1,(r i).h++ [(all.length:Int)],t'⟩ x).v=(r x).v:=fun x=>by
   by_cases hx:x=i
   ·subst hx;rw[dJ]
   ·rw[ea _ _ hx]
  rw[vs,vs];exact I.cr j l hj hl
 ·by_cases hji:j=i
  ·subst hji;rw[dJ];exact ht'
  ·rw[ea _ _ hji];have:=I.tm j hj;omega
theorem ec.next(I:ec k key all eff r B)(hi:0≤i∧i<3)(hB:B≤50):ec k key all eff (upd r i ⟨(r i).s,(r i).v.set i.toNat ((ix (r i).v i+1)%4294967296),0,(r i).h,(r i).t⟩) (B+1):=by
 have L:=I.lt i hi;have hv:=L.vb i;have hl:=L.vl;have ixs: ∀j:Int,0≤j→ix ((r i).v.set i.toNat (ix (r i).v i+1)) j=if j=i then ix (r i).v i+1 else ix (r i).v j:=fun j hj=>pi _ _ _ _ hi.1 hj (by omega);have w:=rX hv.1 (by omega:ix (r i).v i<4294967295);refine⟨I.el,by have:=I.al;omega,I.g,fun j hj=>?_,fun j hj=>?_,fun j l hj hl=>?_,fun j hj=>?_⟩
 ·by_cases hji:j=i
  ·subst hji;rw[dJ,w];exact(I.rr j hj).next hj I.g
  ·rw[ea _ _ hji];exact I.rr j hj
 ·by_cases hji:j=i
  ·subst hji;rw[dJ];exact L.next hj rfl (by omega) (by omega)
  ·rw[ea _ _ hji];exact(I.lt j hj).mono (by omega)
 ·have:=I.cr j l hj hl;by_cases hji:j=i
  ·subst hji;by_cases hli:l=j
   ·subst hli;omega
   ·rw[dJ,ea _ _ hli,w];show _≤ix ((r j).v.set _ _) j
    rw[ixs j hj.1,if_pos rfl];omega
  ·by_cases hli:l=i
   ·subst hli;rw[dJ,ea _ _ hji,w];show ix ((r l).v.set _ _) j≤_
    rw[ixs j hj.1,if_neg hji];exact this
   ·rw[ea _ _ hji,ea _ _ hli];exact this
 ·by_cases hji:j=i
  ·subst hji;rw[dJ];have:=I.tm j hj;show 0≤(r j).t∧(r j).t≤B+1;omega
  ·rw[ea _ _ hji];have:=I.tm j hj;omega
end
end Go.Proofs.YtmpeiadlohbikaaGreatDoor.V
end

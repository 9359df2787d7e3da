/- Plain: the steps of each of the three copies. -/
import Derived.Test.YtmpeiadlohbikaaGreatDoorYs23
import Derived.Test.YtmpeiadlohbikaaGreatDoorYs22
import Derived.Test.YtmpeiadlohbikaaGreatDoorYs19
section
set_option linter.unusedVariables false
set_option linter.unusedSimpArgs false
namespace Go.Proofs.YtmpeiadlohbikaaGreatDoor.V
open Go.RowKit Go.Shelf Go.Lib Go.Sort
section
variable {k:Int} {key:List UInt8} {all:List ah} {eff:List ax} {r:Int→RS} {B B':Int} {i i2:Int}
theorem AI{all:List ah}{eff:List ax}(h:eff.length=all.length):(all.zip eff).map (·.2.tag)=eff.map (·.tag):=by
 induction all generalizing eff with
 |nil=>cases eff with
  |nil=>rfl
  |cons b m=>cases h
 |cons a l ih=>cases eff with
  |nil=>cases h
  |cons b m=>rw[List.zip_cons_cons,List.map_cons,List.map_cons,ih (by simpa using h)]
theorem HD(he:eff.length=all.length)(hn:((all.zip eff).map (·.2.tag)).Nodup){x y:Int}(hx:0≤x∧x<all.length)(hy:0≤y∧y<all.length)(e:(ix eff x).tag=(ix eff y).tag):x=y:=by
 rw[AI he]at hn;unfold ix at e;rw[List.getElem?_eq_getElem (by omega),List.getElem?_eq_getElem (by omega)]at e;have h1:x.toNat<(eff.map (·.tag)).length:=by rw[List.length_map];omega
 have h2:y.toNat<(eff.map (·.tag)).length:=by rw[List.length_map];omega
 have hp:=List.pairwise_iff_getElem.1 hn;rcases Int.lt_trichotomy x y with q|q|q
 ·exact absurd (by simpa using e) (hp x.toNat y.toNat h1 h2 (by omega))
 ·exact q
 ·exact absurd (by simpa using e.symm) (hp y.toNat x.toNat h2 h1 (by omega))
theorem AJ(he:eff.length=all.length)(hn:((all.zip eff).map (·.2.tag)).Nodup){h:List Int}(nd:h.Nodup)(hr: ∀x∈h,0≤x∧x<all.length):((nv all eff h).map (·.2.tag)).Nodup:=by
 unfold nv;rw[List.map_map];unfold List.Nodup at*;rw[List.pairwise_map];exact nd.imp_of_mem fun{a b} ha hb hab e=>hab (HD he hn (hr a ha) (hr b hb) e)
theorem JG{v v2:List Int}{n n2:Int}{h h2 h3:List Int}{j:Int}(L:Lt i all v n h B)(L2:Lt i2 all v2 n2 h2 B)(hn: ¬0<n)(T:gA all v v2 h h2 j h3):h3.Nodup∧ ∀x∈h3,0≤x∧x<all.length:=by
 have L3:=L.take L2 hn T (Int.le_refl B);exact⟨L3.nd,fun x hx=>(L3.m x hx).1⟩
theorem tY{v v2:List Int}{x:Int}:nu all v v2 x=true↔eY v2 (ix all x).id∧ ¬eY v (ix all x).id:=by
 unfold nu;rw[←jB,←jB];cases aD v (ix all x).id<;>cases aD v2 (ix all x).id<;>simp
theorem ec.take1(I:ec k key all eff r B)(hk:1≤k∧k≤4)(hi:0≤i∧i<3)(hi2:0≤i2∧i2<3)(hB:B≤50)(hn: ¬0<(r i).n){j:Int}{s:aG}{h3:List Int}(T:gA all (r i).v (r i2).v (r i).h (r i2).h j h3)(hj:0≤j)(hl:j<(r i2).h.length)
  (c: ¬(aD (r i).v (ix all (ix (r i2).h j)).id=true∨ ¬aD (r i2).v (ix all (ix (r i2).h j)).id=true)) (ho:gV k s ((nv all eff h3).map (·.2))):
  ∃s',ae s (ix eff (ix (r i2).h j))=(s',0)∧gV k s' ((nv all eff (h3++ [ix (r i2).h j])).map (·.2)):=by
 have L:=I.lt i hi;have L2:=I.lt i2 hi2;have T':=T.app hj hl c;have hnd:=JG L L2 hn T';have hx:=L2.rng hj hl;have hp:=wZ I.el hx.1 hx.2;have cp:=I.g.cor _ hp;have htg:=AJ I.el I.g.nd hnd.1 hnd.2;have e:nv all eff (h3++ [ix (r i2).h j])=nv all eff h3++ [(ix all (ix (r i2).h j),ix eff (ix (r i2).h j))]:=by unfold nv;simp
 rw[e]at htg⊢;rw[List.map_append,List.nodup_append]at htg;have hlen:=vr all.length _ hnd.1 hnd.2;rw[List.length_append,List.length_singleton]at hlen;obtain⟨s',h1,h2⟩:=nL hk.1 ho (fun x hx=>by
  obtain⟨p,hp,rfl⟩:=List.mem_map.1 hx;unfold nv at hp;obtain⟨y,hy,rfl⟩:=List.mem_map.1 hp;have:=hnd.2 y (List.mem_append_left _ hy);exact(I.g.cor _ (wZ I.el this.1 this.2)).good) cp.good (fun hm=>by
  rw[List.map_map]at hm;exact htg.2.2 _ hm _ (by simp) rfl) (by
  have:=I.al;unfold nv;simp only[List.length_map];omega)
 exact⟨s',h1,by rw[List.map_append];exact h2⟩
theorem ec.take(I:ec k key all eff r B)(hi:0≤i∧i<3)(hi2:0≤i2∧i2<3)(hn: ¬0<(r i).n){j:Int}{s:aG}{h3:List Int}{t':Int}(T:gA all (r i).v (r i2).v (r i).h (r i2).h j h3)(hj:(r i2).h.length≤j)(ho:gV k s ((nv all eff h3).map (·.2)))(ht:0≤t'∧t'≤B+1):
  ec k key all eff (upd r i ⟨s,aY (r i).v (r i2).v,(r i).n,h3,t'⟩) (B+1):=by
 have L:=I.lt i hi;have L2:=I.lt i2 hi2;have R:=I.rr i hi;have R2:=I.rr i2 hi2;have n0:(r i).n=0:=by have:=R.n0;omega
 have hjn:=AG (v:=(r i).v) (v2:=(r i2).v) L.vl;have hT:h3=(r i).h++(r i2).h.filter (nu all (r i).v (r i2).v):=by
  unfold gA at T;rw[List.take_of_length_le (by omega)]at T;exact T
 have hsub: ∀x∈(r i2).h.filter (nu all (r i).v (r i2).v),0≤x∧x<all.length:=fun x hx=>(L2.m x (List.mem_filter.1 hx).1).1;have e3:nv all eff h3=nv all eff (r i).h++nv all eff ((r i2).h.filter (nu all (r i).v (r i2).v)):=by rw[hT];unfold nv;rw[List.map_append]
 have gmono: ∀j:Int,0≤j→j<8→ix (aY (r i).v (r i2).v) j=max (ix (r i).v j) (ix (r i2).v j):=fun j h0 h8=>by rw[hjn.2 j h0,if_pos h8]
 refine⟨I.el,by have:=I.al;omega,I.g,fun l hl=>?_,fun l hl=>?_,fun l m hl hm=>?_,fun l hl=>?_⟩
 ·by_cases e:l=i
  ·subst e;rw[dJ];show RI k _ l s (aY (r l).v (r i2).v) (r l).n (nv all eff h3)
   rw[n0,e3];rw[n0]at R;refine R.take hl hi2 R2 (I.cr l i2 hl hi2) hjn.1 gmono (fun q=>?_) (AJ I.el I.g.nd (L2.nd.sublist List.filter_sublist) hsub) I.g (by rw[←e3];exact ho);unfold nv;simp only[List.mem_map,List.mem_filter];constructor
   ·rintro⟨x,⟨h1,h2⟩,rfl⟩;exact⟨⟨x,h1,rfl⟩,tY.1 h2⟩
   ·rintro⟨⟨x,h1,rfl⟩,h2⟩;exact⟨x,⟨h1,tY.2 h2⟩,rfl⟩
  ·rw[ea _ _ e];exact I.rr l hl
 ·by_cases e:l=i
  ·subst e;rw[dJ];exact L.take L2 hn T (by omega)
  ·rw[ea _ _ e];exact(I.lt l hl).mono (by omega)
 ·have h1:=I.cr l m hl hm;by_cases e:l=i
  ·subst e;by_cases e2:m=l
   ·subst e2;omega
   ·rw[dJ,ea _ _ e2];show _≤ix (aY (r l).v (r i2).v) l
    rw[gmono l hl.1 (by omega)];omega
  ·by_cases e2:m=i
   ·subst e2;rw[dJ,ea _ _ e];show ix (aY (r m).v (r i2).v) l≤_
    rw[gmono l hl.1 (by omega)];have:=I.cr l i2 hl hi2;omega
   ·rw[ea _ _ e,ea _ _ e2];exact h1
 ·by_cases e:l=i
  ·subst e;rw[dJ];exact ht
  ·rw[ea _ _ e];have:=I.tm l hl;omega
theorem ec.start{k:Int}{key:List UInt8}:ec k key [] [] (fun _=>⟨zO k,[0,0,0,0,0,0,0,0],0,[],0⟩) 0:=by
 have z:=AF;unfold L7 at z;refine⟨rfl,Int.le_refl _,⟨fun p hp=>(by cases hp),List.nodup_nil,fun p hp=>(by cases hp)⟩,fun i hi=>?_,fun i hi=>Lt.start i,fun i j _ _=>Int.le_refl _,fun i _=>⟨Int.le_refl _,Int.le_refl _⟩⟩;exact⟨rfl,Int.le_refl _,fun p hp=>(by cases hp),List.nodup_nil,fun p hp=>(by cases hp),fun p hp=>(by cases hp),fun p hp=>(by cases hp),fun p hp=>(by cases hp),fun p hp=>(by cases hp),Hz k⟩
theorem ec.fin(I:ec k key all eff r B)(hk:1≤k∧k≤4)(hy:(ab key).1=k∧(ab key).2=0)(hi:0≤i∧i<3)(hB:B≤50):bh key all (vv i (r i).v (r i).n)=(bW (r i).s,0)∧ ∀a∈all,eY (vv i (r i).v (r i).n) a.id→tI a.deps (vv i (r i).v (r i).n):=by
 have H:=I.hist hk hy hi hB;have h1:=H.fin;rw[mF I.el]at h1;refine⟨h1,fun a ha hh=>?_⟩;have:a∈(all.zip eff).map (·.1):=by rw[mF I.el];exact ha
 obtain⟨p,hp,rfl⟩:=List.mem_map.1 this;exact H.R.closed hi I.g p hp hh
end
end Go.Proofs.YtmpeiadlohbikaaGreatDoor.V
end

section
set_option linter.unusedVariables false
set_option linter.unusedSimpArgs false
namespace Go.Proofs.YtmpeiadlohbikaaGreatDoor.V
open Go.RowKit Go.Shelf Go.Lib Go.Sort
section
variable {k:Int} {key:List UInt8} {all:List ah} {eff:List ax} {r:Int→RS} {B:Int} {i i2:Int}
theorem qH{Lk:Nat→Int→aG→List Int→Bool⊕(Int×aG×List Int)}(I:ec k key all eff r B)(hk:1≤k∧k≤4)(hi:0≤i∧i<3)(hi2:0≤i2∧i2<3)(hB:B≤50)(hn: ¬0<(r i).n)
  (hL: ∀fuel j s h,Lk (fuel+1) j s h=if j<((r i2).h.length:Int)then(if aD (r i).v (ix all (ix (r i2).h j)).id=true∨ ¬aD (r i2).v (ix all (ix (r i2).h j)).id=true then Lk fuel (j+1) s h else if(ae s (ix eff (ix (r i2).h j))).2=0 then Lk fuel (j+1) (ae s (ix eff (ix (r i2).h j))).1 (h++ [ix (r i2).h j])else .inl false)else .inr (j,s,h)):
  ∀(fuel:Nat) (j:Int) (s:aG) (h3:List Int),gA all (r i).v (r i2).v (r i).h (r i2).h j h3→gV k s ((nv all eff h3).map (·.2))→0≤j→j≤(r i2).h.length→(((r i2).h.length:Int)- j).toNat<fuel→
   ∃s' h',Lk fuel j s h3= .inr (((r i2).h.length:Int),s',h')∧gA all (r i).v (r i2).v (r i).h (r i2).h (((r i2).h.length:Int)) h'∧gV k s' ((nv all eff h').map (·.2)):=fun fuel=>by
 induction fuel with
 |zero=>intro j s h3 _ _ _ _ h;omega
 |succ fuel ih=>
  intro j s h3 T ho h0 h1 hf;rw[hL];by_cases hj:j<((r i2).h.length:Int)
  ·rw[if_pos hj];by_cases c:aD (r i).v (ix all (ix (r i2).h j)).id=true∨ ¬aD (r i2).v (ix all (ix (r i2).h j)).id=true
   ·rw[if_pos c];exact ih (j+1) s h3 (T.skip h0 hj c) ho (by omega) (by omega) (by omega)
   ·rw[if_neg c];obtain⟨s',e,ho'⟩:=I.take1 hk hi hi2 hB hn T h0 hj c ho;rw[e,if_pos rfl];exact ih (j+1) s' _ (T.app h0 hj c) ho' (by omega) (by omega) (by omega)
  ·rw[if_neg hj];obtain rfl:j=((r i2).h.length:Int):=by omega
   exact⟨s,h3,rfl,T,ho⟩
theorem g8{Lk:Nat→Int→aG→List Int→Bool⊕(Int×aG×List Int)}(I:ec k key all eff r B)(hk:1≤k∧k≤4)(hi:0≤i∧i<3)(hi2:0≤i2∧i2<3)(hB:B≤50)(hn: ¬0<(r i).n){t':Int}(ht:0≤t'∧t'≤B+1)
  (hL: ∀fuel j s h,Lk (fuel+1) j s h=if j<((r i2).h.length:Int)then(if aD (r i).v (ix all (ix (r i2).h j)).id=true∨ ¬aD (r i2).v (ix all (ix (r i2).h j)).id=true then Lk fuel (j+1) s h else if(ae s (ix eff (ix (r i2).h j))).2=0 then Lk fuel (j+1) (ae s (ix eff (ix (r i2).h j))).1 (h++ [ix (r i2).h j])else .inl false)else .inr (j,s,h)):
  ∃s' h',Lk ((((r i2).h.length:Int)- 0).toNat+1) 0 (r i).s (r i).h= .inr (((r i2).h.length:Int),s',h')∧ec k key all eff (upd r i ⟨s',aY (r i).v (r i2).v,(r i).n,h',t'⟩) (B+1):=by
 obtain⟨s',h',e,T,ho⟩:=qH I hk hi hi2 hB hn hL ((((r i2).h.length:Int)- 0).toNat+1) 0 (r i).s (r i).h (gA.start _ _ _ _ _) (I.rr i hi).obj (by omega) (by omega) (by omega);exact⟨s',h',e,I.take hi hi2 hn T (Int.le_refl _) ho ht⟩
def g9(a b c:RS):Int→RS:=fun j=>if j=0 then a else if j=1 then b else if j=2 then c else⟨zO 0,[],0,[],0⟩
theorem w9(a b c x:RS):upd (g9 a b c) 0 x=g9 x b c:=by
 funext j;unfold upd g9;by_cases h:j=0<;>simp[h]
theorem xa(a b c x:RS):upd (g9 a b c) 1 x=g9 a x c:=by
 funext j;unfold upd g9;by_cases h:j=1
 ·subst h;simp
 ·simp[h]
theorem xb(a b c x:RS):upd (g9 a b c) 2 x=g9 a b x:=by
 funext j;unfold upd g9;by_cases h:j=2
 ·subst h;simp
 ·simp[h]
theorem ec.start3{k:Int}{key:List UInt8}:ec k key [] [] (g9 ⟨zO k,[0,0,0,0,0,0,0,0],0,[],0⟩ ⟨zO k,[0,0,0,0,0,0,0,0],0,[],0⟩ ⟨zO k,[0,0,0,0,0,0,0,0],0,[],0⟩) 0:=by
 have I:=ec.start (k:=k) (key:=key);have e: ∀i,0≤i∧i<3→g9 ⟨zO k,[0,0,0,0,0,0,0,0],0,[],0⟩ ⟨zO k,[0,0,0,0,0,0,0,0],0,[],0⟩ ⟨zO k,[0,0,0,0,0,0,0,0],0,[],0⟩ i=⟨zO k,[0,0,0,0,0,0,0,0],0,[],0⟩:=fun i hi=>by
  have:i=0∨i=1∨i=2:=by omega
  rcases this with rfl|rfl|rfl<;>rfl
 exact⟨I.el,I.al,I.g,fun i hi=>by rw[e i hi];exact I.rr i hi,fun i hi=>by rw[e i hi];exact I.lt i hi,fun i j hi hj=>by rw[e i hi,e j hj];exact Int.le_refl _,fun i hi=>by rw[e i hi];exact I.tm i hi⟩
end
end Go.Proofs.YtmpeiadlohbikaaGreatDoor.V
end

section
set_option linter.unusedVariables false
set_option linter.unusedSimpArgs false
set_option maxRecDepth 20000
set_option maxHeartbeats 4000000
namespace Go.Proofs.YtmpeiadlohbikaaGreatDoor.V
open Go.RowKit
def kE:Bool:=
 decide ((bh [(115:UInt8)] [ah.mk (bF.mk 1 1) [0,0,0,0,0,0,0,0] 0 [(115:UInt8)] (gG.mk 3 [(120:UInt8)] 0) (aj.mk 0 0),ah.mk (bF.mk 2 1) [0,0,0,0,0,0,0,0] 0 [(115:UInt8)] (gG.mk 4 [(120:UInt8)] 0) (aj.mk 0 0)] [0,1,1,0,0,0,0,0]).snd=0)&&decide (((bh [(115:UInt8)] [ah.mk (bF.mk 1 1) [0,0,0,0,0,0,0,0] 0 [(115:UInt8)] (gG.mk 3 [(120:UInt8)] 0) (aj.mk 0 0),ah.mk (bF.mk 2 1) [0,0,0,0,0,0,0,0] 0 [(115:UInt8)] (gG.mk 4 [(120:UInt8)] 0) (aj.mk 0 0)] [0,1,1,0,0,0,0,0]).fst.items.length:Int)=1)&&decide ((bh [(115:UInt8)] [ah.mk (bF.mk 1 1) [0,0,0,0,0,0,0,0] 0 [(115:UInt8)] (gG.mk 3 [(120:UInt8)] 0) (aj.mk 0 0),ah.mk (bF.mk 2 1) [0,1,0,0,0,0,0,0] 0 [(115:UInt8)] (gG.mk 4 [(120:UInt8)] 0) (aj.mk 0 0)] [0,1,1,0,0,0,0,0]).snd=0)&&decide (((bh [(115:UInt8)] [ah.mk (bF.mk 1 1) [0,0,0,0,0,0,0,0] 0 [(115:UInt8)] (gG.mk 3 [(120:UInt8)] 0) (aj.mk 0 0),ah.mk (bF.mk 2 1) [0,1,0,0,0,0,0,0] 0 [(115:UInt8)] (gG.mk 4 [(120:UInt8)] 0) (aj.mk 0 0)] [0,1,1,0,0,0,0,0]).fst.items.length:Int)=0)&&decide ((bh [(115:UInt8)] [ah.mk (bF.mk 1 1) [0,0,0,0,0,0,0,0] 0 [(115:UInt8)] (gG.mk 3 [(120:UInt8)] 0) (aj.mk 0 0),ah.mk (bF.mk 2 1) [0,1,0,0,0,0,0,0] 0 [(115:UInt8)] (gG.mk 4 [(120:UInt8)] 0) (aj.mk 0 0)] [0,1,0,0,0,0,0,0]).snd=0)&&decide (((bh [(115:UInt8)] [ah.mk (bF.mk 1 1) [0,0,0,0,0,0,0,0] 0 [(115:UInt8)] (gG.mk 3 [(120:UInt8)] 0) (aj.mk 0 0),ah.mk (bF.mk 2 1) [0,1,0,0,0,0,0,0] 0 [(115:UInt8)] (gG.mk 4 [(120:UInt8)] 0) (aj.mk 0 0)] [0,1,0,0,0,0,0,0]).fst.items.length:Int)=1)&&decide ((bh [(120:UInt8)] [] [0,1,1,0,0,0,0,0]).snd=5)&&jy (ah.mk (bF.mk 2 1) [0,1,0,0,0,0,0,0] 0 [(115:UInt8)] (gG.mk 4 [(120:UInt8)] 0) (aj.mk 0 0)) (ah.mk (bF.mk 1 1) [0,0,0,0,0,0,0,0] 0 [(115:UInt8)] (gG.mk 3 [(120:UInt8)] 0) (aj.mk 0 0))&&!jy (ah.mk (bF.mk 1 1) [0,0,0,0,0,0,0,0] 0 [(115:UInt8)] (gG.mk 3 [(120:UInt8)] 0) (aj.mk 0 0)) (ah.mk (bF.mk 2 1) [0,1,0,0,0,0,0,0] 0 [(115:UInt8)] (gG.mk 4 [(120:UInt8)] 0) (aj.mk 0 0))&&cn [ah.mk (bF.mk 1 1) [0,0,0,0,0,0,0,0] 0 [(115:UInt8)] (gG.mk 3 [(120:UInt8)] 0) (aj.mk 0 0),ah.mk (bF.mk 2 1) [0,1,0,0,0,0,0,0] 0 [(115:UInt8)] (gG.mk 4 [(120:UInt8)] 0) (aj.mk 0 0)] [0,1,1,0,0,0,0,0]&&!cn [ah.mk (bF.mk 2 1) [0,1,0,0,0,0,0,0] 0 [(115:UInt8)] (gG.mk 4 [(120:UInt8)] 0) (aj.mk 0 0)] [0,0,1,0,0,0,0,0]
def c6:bG U:=⟨[],fun xs es K=>xs= []∧es= []∧K (.v (vb kE)) []⟩
theorem k6:Fk 6 c6:=by
 refine fo Tryz.f6 [.d .bool] [] (aa yz (aa Dm (aa L6 aq))) fun xs es K=>?_;rintro⟨rfl,rfl,h⟩;refine⟨rfl,?_⟩;have hf0:=kE.eq_1;refine⟨_,_,_,rfl,rfl,(by(simp only[List.length_append,List.length_cons,List.length_nil];omega)),?_⟩;refine⟨_,_,_,rfl,rfl,(by(simp only[List.length_append,List.length_cons,List.length_nil];omega)),?_⟩;refine⟨_,_,_,rfl,rfl,(by(simp only[List.length_append,List.length_cons,List.length_nil];omega)),?_⟩;refine⟨_,_,_,rfl,rfl,(by(simp only[List.length_append,List.length_cons,List.length_nil];omega)),?_⟩;refine⟨_,fun _=>⟨_,_,rfl,rfl,rfl,rfl⟩,rfl,?_⟩;refine⟨_,fun _=>⟨_,_,rfl,rfl,rfl,rfl⟩,rfl,?_⟩;refine⟨_,fun _=>⟨_,_,rfl,rfl,rfl,rfl⟩,rfl,?_⟩;refine⟨_,fun _=>⟨_,_,rfl,rfl,rfl,rfl⟩,rfl,?_⟩;exact e0
end Go.Proofs.YtmpeiadlohbikaaGreatDoor.V
end

section
set_option linter.unusedVariables false
set_option linter.unusedSimpArgs false
namespace Go.Proofs.YtmpeiadlohbikaaGreatDoor.V
open Go.RowKit Go.Shelf Go.Lib Go.Sort
theorem JL:ab [(115:UInt8)]=(3,0):=by decide+kernel
theorem JM:ab [(114:UInt8)]=(1,0):=by decide+kernel
theorem JN:ab [(99:UInt8)]=(2,0):=by decide+kernel
theorem JO:ab [(109:UInt8)]=(4,0):=by decide+kernel
theorem vz:kE=true:=by decide+kernel
end Go.Proofs.YtmpeiadlohbikaaGreatDoor.V
end

section
set_option linter.unusedVariables false
set_option linter.unusedSimpArgs false
namespace Go.Proofs.YtmpeiadlohbikaaGreatDoor.V
open Go.RowKit Go.Shelf Go.Lib Go.Sort
theorem pv(a:List aF):gl a a=true:=by
 unfold gl;rw[if_pos rfl];obtain⟨q,h⟩:=kF a (fun _=>true) false (dV a a) (fun fuel i _=>by rw[dV];simp);rw[h];simp
theorem pw(a:be):bS a a=true:=by unfold bS;simp[pv]
theorem O6{l:List Int}(h:l.length=8): ∃a0 a1 a2 a3 a4 a5 a6 a7,l= [a0,a1,a2,a3,a4,a5,a6,a7]:=by
 match l,h with
 | [a0,a1,a2,a3,a4,a5,a6,a7],_=>exact⟨a0,a1,a2,a3,a4,a5,a6,a7,rfl⟩
theorem DE(a0 a1 a2 a3 a4 a5 a6 a7 b0 b1 b2 b3 b4 b5 b6 b7:Int):ol [a0,a1,a2,a3,a4,a5,a6,a7] [b0,b1,b2,b3,b4,b5,b6,b7]= [max a0 b0,max a1 b1,max a2 b2,max a3 b3,max a4 b4,max a5 b5,max a6 b6,max a7 b7]:=rfl
theorem HK{v w:List Int}(hv:v.length=8)(hw:w.length=8)(h:tI v w):tw v w=true:=by
 obtain⟨a0,a1,a2,a3,a4,a5,a6,a7,rfl⟩:=O6 hv;obtain⟨b0,b1,b2,b3,b4,b5,b6,b7,rfl⟩:=O6 hw;have q0:a0≤b0:=h 0 (by omega) (by omega);have q1:a1≤b1:=h 1 (by omega) (by omega);have q2:a2≤b2:=h 2 (by omega) (by omega);have q3:a3≤b3:=h 3 (by omega) (by omega);have q4:a4≤b4:=h 4 (by omega) (by omega);have q5:a5≤b5:=h 5 (by omega) (by omega);have q6:a6≤b6:=h 6 (by omega) (by omega);have q7:a7≤b7:=h 7 (by omega) (by omega);unfold tw;rw[DE,decide_eq_true_eq];simp only[List.cons.injEq,and_true];omega
section
variable {k:Int} {key:List UInt8} {all:List ah} {eff:List ax} {r:Int→RS} {B:Int} {i:Int}
theorem HL{i:Int}{v:List Int}{n:Int}(h:v.length=8):(vv i v n).length=8:=by unfold vv;split<;>simp[h]
theorem ec.closed(I:ec k key all eff r B)(hk:1≤k∧k≤4)(hy:(ab key).1=k∧(ab key).2=0)(hi:0≤i∧i<3)(hB:B≤50):cn all (vv i (r i).v (r i).n)=true:=by
 unfold cn;rw[kY,Bool.not_eq_true',List.any_eq_false];intro a ha h;unfold il at h;rw[Bool.and_eq_true,Bool.not_eq_true']at h;have:a∈(all.zip eff).map (·.1):=by rw[mF I.el];exact ha
 obtain⟨p,hp,rfl⟩:=List.mem_map.1 this;have c:=I.g.cor p hp;have h1:=(fT (by have:=c.og;omega)).1 h.1;have h2:=HK c.dl (HL (i:=i) (n:=(r i).n) (I.rr i hi).vl) ((I.fin hk hy hi hB).2 p.1 ha h1);rw[h2]at h;exact absurd h.2 (by simp)
theorem ec.pass(I:ec k key all eff r B)(hk:1≤k∧k≤4)(hy:(ab key).1=k∧(ab key).2=0)(hi:0≤i∧i<3)(hB:B≤50){v:List Int}(e:v=vv i (r i).v (r i).n):
  ¬(((¬(bh key all v).2=(0:Int))∨(¬(bS (aX (bh key all v).1) (aX (bW (r i).s))=true)))∨(¬(cn all v=true))):=by
 subst e;have h1:=(I.fin hk hy hi hB).1;have h2:=I.closed hk hy hi hB;rw[h1];simp only[h2,pw,not_true_eq_false,or_self,not_false_eq_true]
theorem vA{i:Int}{v:List Int}{n:Int}(h:0<n)(B: ∀j:Int,0≤ix v j∧ix v j≤50):v.set i.toNat ((ix v i+1)%4294967296)=vv i v n:=by
 unfold vv;rw[if_pos h,Int.emod_eq_of_lt (by have:=B i;omega) (by have:=B i;omega)]
theorem vB{i:Int}{v:List Int}{n:Int}(h: ¬0<n):v=vv i v n:=by
 unfold vv;rw[if_neg h]
end
theorem DF(x:Int):(ab (ix [[(114:UInt8)],[(99:UInt8)],[(115:UInt8)],[(109:UInt8)]] (1+x%4 - 1))).1=1+x%4∧(ab (ix [[(114:UInt8)],[(99:UInt8)],[(115:UInt8)],[(109:UInt8)]] (1+x%4 - 1))).2=0:=by
 have h:x%4=0∨x%4=1∨x%4=2∨x%4=3:=by omega
 rcases h with h|h|h|h<;>rw[h]
 ·show(ab [(114:UInt8)]).1=1∧(ab [(114:UInt8)]).2=0
  rw[JM];exact⟨rfl,rfl⟩
 ·show(ab [(99:UInt8)]).1=2∧(ab [(99:UInt8)]).2=0
  rw[JN];exact⟨rfl,rfl⟩
 ·show(ab [(115:UInt8)]).1=3∧(ab [(115:UInt8)]).2=0
  rw[JL];exact⟨rfl,rfl⟩
 ·show(ab [(109:UInt8)]).1=4∧(ab [(109:UInt8)]).2=0
  rw[JO];exact⟨rfl,rfl⟩
theorem rY(o:gG):az o=o:=rfl
end Go.Proofs.YtmpeiadlohbikaaGreatDoor.V
end

section
set_option linter.unusedVariables false
set_option linter.unusedSimpArgs false
namespace Go.Proofs.YtmpeiadlohbikaaGreatDoor.V
open Go.RowKit Go.Shelf Go.Lib Go.Sort
section
variable {k:Int} {key:List UInt8} {all:List ah} {eff:List ax} {a b c:RS} {B:Int}
theorem Q3(I:ec k key all eff (g9 a b c) B)(hk:1≤k∧k≤4)(hy:(ab key).1=k∧(ab key).2=0)(hB:B<50)(hn:a.n<16){o:gG}{tm:aj}(h:(af a.s o ⟨⟨0,ix a.v 0+1⟩,a.n⟩ tm).2=0){t':Int}(ht:0≤t'∧t'≤B+1):
  (ae a.s (af a.s o ⟨⟨0,ix a.v 0+1⟩,a.n⟩ tm).1).2=0∧ec k key (all++ [ah.mk ⟨0,ix a.v 0+1⟩ a.v a.n key o tm]) (eff++ [(af a.s o ⟨⟨0,ix a.v 0+1⟩,a.n⟩ tm).1]) (g9 ⟨(ae a.s (af a.s o ⟨⟨0,ix a.v 0+1⟩,a.n⟩ tm).1).1,a.v,a.n+1,a.h++ [(all.length:Int)],t'⟩ b c) (B+1):=by
 obtain⟨s',e,J⟩:=I.op (i:=0) hk hy (by omega) hB ⟨(I.rr 0 (by omega)).n0,hn⟩ rfl h ht;rw[w9]at J;have e:ae a.s (af a.s o ⟨⟨0,ix a.v 0+1⟩,a.n⟩ tm).1=(s',0):=e;rw[e];exact⟨rfl,J⟩
theorem JH(I:ec k key all eff (g9 a b c) B)(hB:B≤50):ec k key all eff (g9 ⟨a.s,a.v.set (Int.toNat 0) ((ix a.v 0+1)%4294967296),0,a.h,a.t⟩ b c) (B+1):=by
 have J:=I.next (i:=0) (by omega) hB;rw[w9]at J;exact J
theorem NK(I:ec k key all eff (g9 a b c) B)(hB:B≤50):(ix a.v 0+1)%4294967296=ix a.v 0+1:=by
 have h:=(I.lt 0 (by omega)).vb 0;have h:0≤ix a.v 0∧ix a.v 0≤B:=h;exact Int.emod_eq_of_lt (by omega) (by omega)
theorem NL(I:ec k key all eff (g9 a b c) B)(hB:B≤50):0≤(a.t+1)%4294967296∧(a.t+1)%4294967296≤B+1:=by
 have h:=I.tm 0 (by omega);have h:0≤a.t∧a.t≤B:=h;omega
theorem HE{Lk:Nat→Int→aG→List Int→Bool⊕(Int×aG×List Int)}(I:ec k key all eff (g9 a b c) B)(hk:1≤k∧k≤4)(hB:B≤50)(hn: ¬0<a.n)
  (hL: ∀fuel j s h,Lk (fuel+1) j s h=if j<(b.h.length:Int)then(if aD a.v (ix all (ix b.h j)).id=true∨ ¬aD b.v (ix all (ix b.h j)).id=true then Lk fuel (j+1) s h else if(ae s (ix eff (ix b.h j))).2=0 then Lk fuel (j+1) (ae s (ix eff (ix b.h j))).1 (h++ [ix b.h j])else .inl false)else .inr (j,s,h)):
  ∃s' h',Lk (((b.h.length:Int)- 0).toNat+1) 0 a.s a.h= .inr ((b.h.length:Int),s',h')∧ec k key all eff (g9 ⟨s',aY a.v b.v,a.n,h',max a.t b.t⟩ b c) (B+1):=by
 have h1:0≤a.t∧a.t≤B:=I.tm 0 (by omega);have h2:0≤b.t∧b.t≤B:=I.tm 1 (by omega);obtain⟨s',h',e,J⟩:=g8 (Lk:=Lk) (i:=0) (i2:=1) (t':=max a.t b.t) I hk (by omega) (by omega) hB hn (by omega) hL;rw[w9]at J;exact⟨s',h',e,J⟩
theorem HF{Lk:Nat→Int→aG→List Int→Bool⊕(Int×aG×List Int)}(I:ec k key all eff (g9 a b c) B)(hk:1≤k∧k≤4)(hB:B≤50)(hn: ¬0<a.n)
  (hL: ∀fuel j s h,Lk (fuel+1) j s h=if j<(c.h.length:Int)then(if aD a.v (ix all (ix c.h j)).id=true∨ ¬aD c.v (ix all (ix c.h j)).id=true then Lk fuel (j+1) s h else if(ae s (ix eff (ix c.h j))).2=0 then Lk fuel (j+1) (ae s (ix eff (ix c.h j))).1 (h++ [ix c.h j])else .inl false)else .inr (j,s,h)):
  ∃s' h',Lk (((c.h.length:Int)- 0).toNat+1) 0 a.s a.h= .inr ((c.h.length:Int),s',h')∧ec k key all eff (g9 ⟨s',aY a.v c.v,a.n,h',max a.t c.t⟩ b c) (B+1):=by
 have h1:0≤a.t∧a.t≤B:=I.tm 0 (by omega);have h2:0≤c.t∧c.t≤B:=I.tm 2 (by omega);obtain⟨s',h',e,J⟩:=g8 (Lk:=Lk) (i:=0) (i2:=2) (t':=max a.t c.t) I hk (by omega) (by omega) hB hn (by omega) hL;rw[w9]at J;exact⟨s',h',e,J⟩
theorem Q4(I:ec k key all eff (g9 a b c) B)(hk:1≤k∧k≤4)(hy:(ab key).1=k∧(ab key).2=0)(hB:B<50)(hn:b.n<16){o:gG}{tm:aj}(h:(af b.s o ⟨⟨1,ix b.v 1+1⟩,b.n⟩ tm).2=0){t':Int}(ht:0≤t'∧t'≤B+1):
  (ae b.s (af b.s o ⟨⟨1,ix b.v 1+1⟩,b.n⟩ tm).1).2=0∧ec k key (all++ [ah.mk ⟨1,ix b.v 1+1⟩ b.v b.n key o tm]) (eff++ [(af b.s o ⟨⟨1,ix b.v 1+1⟩,b.n⟩ tm).1]) (g9 a ⟨(ae b.s (af b.s o ⟨⟨1,ix b.v 1+1⟩,b.n⟩ tm).1).1,b.v,b.n+1,b.h++ [(all.length:Int)],t'⟩ c) (B+1):=by
 obtain⟨s',e,J⟩:=I.op (i:=1) hk hy (by omega) hB ⟨(I.rr 1 (by omega)).n0,hn⟩ rfl h ht;rw[xa]at J;have e:ae b.s (af b.s o ⟨⟨1,ix b.v 1+1⟩,b.n⟩ tm).1=(s',0):=e;rw[e];exact⟨rfl,J⟩
theorem JI(I:ec k key all eff (g9 a b c) B)(hB:B≤50):ec k key all eff (g9 a ⟨b.s,b.v.set (Int.toNat 1) ((ix b.v 1+1)%4294967296),0,b.h,b.t⟩ c) (B+1):=by
 have J:=I.next (i:=1) (by omega) hB;rw[xa]at J;exact J
theorem NM(I:ec k key all eff (g9 a b c) B)(hB:B≤50):(ix b.v 1+1)%4294967296=ix b.v 1+1:=by
 have h:=(I.lt 1 (by omega)).vb 1;have h:0≤ix b.v 1∧ix b.v 1≤B:=h;exact Int.emod_eq_of_lt (by omega) (by omega)
theorem NN(I:ec k key all eff (g9 a b c) B)(hB:B≤50):0≤(b.t+1)%4294967296∧(b.t+1)%4294967296≤B+1:=by
 have h:=I.tm 1 (by omega);have h:0≤b.t∧b.t≤B:=h;omega
theorem HG{Lk:Nat→Int→aG→List Int→Bool⊕(Int×aG×List Int)}(I:ec k key all eff (g9 a b c) B)(hk:1≤k∧k≤4)(hB:B≤50)(hn: ¬0<b.n)
  (hL: ∀fuel j s h,Lk (fuel+1) j s h=if j<(a.h.length:Int)then(if aD b.v (ix all (ix a.h j)).id=true∨ ¬aD a.v (ix all (ix a.h j)).id=true then Lk fuel (j+1) s h else if(ae s (ix eff (ix a.h j))).2=0 then Lk fuel (j+1) (ae s (ix eff (ix a.h j))).1 (h++ [ix a.h j])else .inl false)else .inr (j,s,h)):
  ∃s' h',Lk (((a.h.length:Int)- 0).toNat+1) 0 b.s b.h= .inr ((a.h.length:Int),s',h')∧ec k key all eff (g9 a ⟨s',aY b.v a.v,b.n,h',max b.t a.t⟩ c) (B+1):=by
 have h1:0≤b.t∧b.t≤B:=I.tm 1 (by omega);have h2:0≤a.t∧a.t≤B:=I.tm 0 (by omega);obtain⟨s',h',e,J⟩:=g8 (Lk:=Lk) (i:=1) (i2:=0) (t':=max b.t a.t) I hk (by omega) (by omega) hB hn (by omega) hL;rw[xa]at J;exact⟨s',h',e,J⟩
theorem HH{Lk:Nat→Int→aG→List Int→Bool⊕(Int×aG×List Int)}(I:ec k key all eff (g9 a b c) B)(hk:1≤k∧k≤4)(hB:B≤50)(hn: ¬0<b.n)
  (hL: ∀fuel j s h,Lk (fuel+1) j s h=if j<(c.h.length:Int)then(if aD b.v (ix all (ix c.h j)).id=true∨ ¬aD c.v (ix all (ix c.h j)).id=true then Lk fuel (j+1) s h else if(ae s (ix eff (ix c.h j))).2=0 then Lk fuel (j+1) (ae s (ix eff (ix c.h j))).1 (h++ [ix c.h j])else .inl false)else .inr (j,s,h)):
  ∃s' h',Lk (((c.h.length:Int)- 0).toNat+1) 0 b.s b.h= .inr ((c.h.length:Int),s',h')∧ec k key all eff (g9 a ⟨s',aY b.v c.v,b.n,h',max b.t c.t⟩ c) (B+1):=by
 have h1:0≤b.t∧b.t≤B:=I.tm 1 (by omega);have h2:0≤c.t∧c.t≤B:=I.tm 2 (by omega);obtain⟨s',h',e,J⟩:=g8 (Lk:=Lk) (i:=1) (i2:=2) (t':=max b.t c.t) I hk (by omega) (by omega) hB hn (by omega) hL;rw[xa]at J;exact⟨s',h',e,J⟩
theorem Q5(I:ec k key all eff (g9 a b c) B)(hk:1≤k∧k≤4)(hy:(ab key).1=k∧(ab key).2=0)(hB:B<50)(hn:c.n<16){o:gG}{tm:aj}(h:(af c.s o ⟨⟨2,ix c.v 2+1⟩,c.n⟩ tm).2=0){t':Int}(ht:0≤t'∧t'≤B+1):
  (ae c.s (af c.s o ⟨⟨2,ix c.v 2+1⟩,c.n⟩ tm).1).2=0∧ec k key (all++ [ah.mk ⟨2,ix c.v 2+1⟩ c.v c.n key o tm]) (eff++ [(af c.s o ⟨⟨2,ix c.v 2+1⟩,c.n⟩ tm).1]) (g9 a b ⟨(ae c.s (af c.s o ⟨⟨2,ix c.v 2+1⟩,c.n⟩ tm).1).1,c.v,c.n+1,c.h++ [(all.length:Int)],t'⟩) (B+1):=by
 obtain⟨s',e,J⟩:=I.op (i:=2) hk hy (by omega) hB ⟨(I.rr 2 (by omega)).n0,hn⟩ rfl h ht;rw[xb]at J;have e:ae c.s (af c.s o ⟨⟨2,ix c.v 2+1⟩,c.n⟩ tm).1=(s',0):=e;rw[e];exact⟨rfl,J⟩
theorem JJ(I:ec k key all eff (g9 a b c) B)(hB:B≤50):ec k key all eff (g9 a b ⟨c.s,c.v.set (Int.toNat 2) ((ix c.v 2+1)%4294967296),0,c.h,c.t⟩) (B+1):=by
 have J:=I.next (i:=2) (by omega) hB;rw[xb]at J;exact J
theorem NO(I:ec k key all eff (g9 a b c) B)(hB:B≤50):(ix c.v 2+1)%4294967296=ix c.v 2+1:=by
 have h:=(I.lt 2 (by omega)).vb 2;have h:0≤ix c.v 2∧ix c.v 2≤B:=h;exact Int.emod_eq_of_lt (by omega) (by omega)
theorem NP(I:ec k key all eff (g9 a b c) B)(hB:B≤50):0≤(c.t+1)%4294967296∧(c.t+1)%4294967296≤B+1:=by
 have h:=I.tm 2 (by omega);have h:0≤c.t∧c.t≤B:=h;omega
theorem HI{Lk:Nat→Int→aG→List Int→Bool⊕(Int×aG×List Int)}(I:ec k key all eff (g9 a b c) B)(hk:1≤k∧k≤4)(hB:B≤50)(hn: ¬0<c.n)
  (hL: ∀fuel j s h,Lk (fuel+1) j s h=if j<(a.h.length:Int)then(if aD c.v (ix all (ix a.h j)).id=true∨ ¬aD a.v (ix all (ix a.h j)).id=true then Lk fuel (j+1) s h else if(ae s (ix eff (ix a.h j))).2=0 then Lk fuel (j+1) (ae s (ix eff (ix a.h j))).1 (h++ [ix a.h j])else .inl false)else .inr (j,s,h)):
  ∃s' h',Lk (((a.h.length:Int)- 0).toNat+1) 0 c.s c.h= .inr ((a.h.length:Int),s',h')∧ec k key all eff (g9 a b ⟨s',aY c.v a.v,c.n,h',max c.t a.t⟩) (B+1):=by
 have h1:0≤c.t∧c.t≤B:=I.tm 2 (by omega);have h2:0≤a.t∧a.t≤B:=I.tm 0 (by omega);obtain⟨s',h',e,J⟩:=g8 (Lk:=Lk) (i:=2) (i2:=0) (t':=max c.t a.t) I hk (by omega) (by omega) hB hn (by omega) hL;rw[xb]at J;exact⟨s',h',e,J⟩
theorem HJ{Lk:Nat→Int→aG→List Int→Bool⊕(Int×aG×List Int)}(I:ec k key all eff (g9 a b c) B)(hk:1≤k∧k≤4)(hB:B≤50)(hn: ¬0<c.n)
  (hL: ∀fuel j s h,Lk (fuel+1) j s h=if j<(b.h.length:Int)then(if aD c.v (ix all (ix b.h j)).id=true∨ ¬aD b.v (ix all (ix b.h j)).id=true then Lk fuel (j+1) s h else if(ae s (ix eff (ix b.h j))).2=0 then Lk fuel (j+1) (ae s (ix eff (ix b.h j))).1 (h++ [ix b.h j])else .inl false)else .inr (j,s,h)):
  ∃s' h',Lk (((b.h.length:Int)- 0).toNat+1) 0 c.s c.h= .inr ((b.h.length:Int),s',h')∧ec k key all eff (g9 a b ⟨s',aY c.v b.v,c.n,h',max c.t b.t⟩) (B+1):=by
 have h1:0≤c.t∧c.t≤B:=I.tm 2 (by omega);have h2:0≤b.t∧b.t≤B:=I.tm 1 (by omega);obtain⟨s',h',e,J⟩:=g8 (Lk:=Lk) (i:=2) (i2:=1) (t':=max c.t b.t) I hk (by omega) (by omega) hB hn (by omega) hL;rw[xb]at J;exact⟨s',h',e,J⟩
end
end Go.Proofs.YtmpeiadlohbikaaGreatDoor.V
end

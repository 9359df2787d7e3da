/- A region that only looks at older memory: own rows are handed on as data for its length alone. -/
import Derived.Test.YtmpeiadlohbikaaGreatDoorAt23
import Derived.Test.YtmpeiadlohbikaaGreatDoorAt12
section
set_option linter.unusedVariables false
set_option linter.unusedSimpArgs false
namespace Go.Proofs.YtmpeiadlohbikaaGreatDoor.V
open Go.RowKit Go.Shelf Go.Lib Go.Sort
theorem pP(l:List al): ∀(n:Nat) (s:Int) (e:List (bC×Int)),(∀p∈e,(ix l p.2).id=p.1)→ ∃j r,dX l n s e= .inr (j,r)∧ ∀p∈r,(ix l p.2).id=p.1
 |0,s,e,h=>⟨s,e,rfl,h⟩
 |n+1,s,e,h=>by
  rw[dX];split
  ·split
   ·exact pP l n _ _ h
   ·refine pP l n _ _ fun p hp=>?_;rcases qo hp with hp|rfl
    ·exact h p hp
    ·rfl
  ·exact⟨_,_,rfl,h⟩
theorem Eo(l:List al): ∀p∈dI l,(ix l p.2).id=p.1:=by
 obtain⟨j,r,h,hr⟩:=pP l (((↑l.length:Int)-(0:Int)).toNat+1) 0 [] (fun p hp=>by cases hp);unfold dI;rw[h];exact hr
theorem pQ(l:List al): ∀(n:Nat) (s:Int),((l.length:Int)- s).toNat<n→(∃q,dE l n s= .inr q∧ ∀j:Int,s≤j→j<l.length→cQ l (dI l) j=0)∨ ∃r,dE l n s= .inl r∧ ¬r.2=0
 |0,s,h=>absurd h (Nat.not_lt_zero _)
 |n+1,s,h=>by
  rw[dE];split
  ·split
   ·rename_i h1 h2;rcases pQ l n (s+1) (by omega)with⟨q,h3,h4⟩|h3
    ·refine .inl ⟨q,h3,fun j hj hl=>?_⟩;by_cases e:s=j
     ·subst e;exact h2
     ·exact h4 j (by omega) hl
    ·exact .inr h3
   ·rename_i h1 h2;exact .inr ⟨_,rfl,h2⟩
  ·exact .inl ⟨_,rfl,fun j hj hl=>by omega⟩
theorem pR{l:List al}(h:(br l).2=0):l.length≤128∧ ∀j:Int,0≤j→j<l.length→cQ l (dI l) j=0:=by
 unfold br at h;split at h
 ·cases h
 ·refine⟨by omega,?_⟩;rcases pQ l (((↑l.length:Int)-(0:Int)).toNat+1) 0 (by omega)with⟨q,h1,h2⟩|⟨r,h1,h2⟩
  ·exact h2
  ·rw[h1]at h;exact absurd h h2
theorem pS(recs:List al)(pl:List (bC×Int))(x:al)(o:Int): ∀(n:Nat) (s:Int) (l:List al),1≤s→(ix x.deps o+1 - s).toNat<n→
  (∃q r,cC recs pl x o n s l= .inr (q,r)∧(∀y∈l,y∈r)∧ ∀k:Int,s≤k→k≤ix x.deps o→(bO pl (bC.mk o k)).isSome=true∧ix recs ((bO pl (bC.mk o k)).getD cS.zero)∈r)∨cC recs pl x o n s l= .inl (.inl 4)
 |0,s,l,_,h=>absurd h (Nat.not_lt_zero _)
 |n+1,s,l,h0,h=>by
  rw[cC];split
  ·split
   ·rename_i h1 h2;rcases pS recs pl x o n (s+1) (l++ [ix recs ((bO pl (bC.mk o s)).getD cS.zero)]) (by omega) (by omega)with⟨q,r,h3,h4,h5⟩|h3
    ·refine .inl ⟨q,r,h3,fun y hy=>h4 y (by simp[hy]),fun k hk hl=>?_⟩;by_cases e:s=k
     ·subst e;exact⟨h2,h4 _ (by simp)⟩
     ·exact h5 k (by omega) hl
    ·exact .inr h3
   ·exact .inr rfl
  ·exact .inl ⟨_,_,rfl,fun y hy=>hy,fun k hk hl=>by omega⟩
theorem pT(recs:List al)(pl:List (bC×Int))(x:al): ∀(n:Nat) (o:Int) (l:List al),0≤o→(8 - o).toNat<n→
  (∃q r,cF recs pl x n o l= .inr (q,r)∧(∀y∈l,y∈r)∧ ∀p:Int,o≤p→p<8→ ∀k:Int,1≤k→k≤ix x.deps p→(bO pl (bC.mk p k)).isSome=true∧ix recs ((bO pl (bC.mk p k)).getD cS.zero)∈r)∨cF recs pl x n o l= .inl (.inl 4)
 |0,o,l,_,h=>absurd h (Nat.not_lt_zero _)
 |n+1,o,l,h0,h=>by
  rw[cF];split
  ·split
   ·rcases pS recs pl x o ((ix x.deps o+(1:Int)-(1:Int)).toNat+1) 1 l (by omega) (by omega)with⟨q,r,h3,h4,h5⟩|h3
    ·rw[h3];dsimp only;rcases pT recs pl x n (o+1) r (by omega) (by omega)with⟨q',r',h6,h7,h8⟩|h6
     ·refine .inl ⟨q',r',h6,fun y hy=>h7 y (h4 y hy),fun p hp hl k hk hk2=>?_⟩;by_cases e:o=p
      ·subst e;exact⟨(h5 k hk hk2).1,h7 _ (h5 k hk hk2).2⟩
      ·exact h8 p (by omega) hl k hk hk2
     ·exact .inr h6
    ·rw[h3];exact .inr rfl
   ·exact .inr rfl
  ·exact .inl ⟨_,_,rfl,fun y hy=>hy,fun p hp hl=>by omega⟩
theorem ot(recs:List al)(pl:List (bC×Int))(x:al):(∃r,dR recs pl x= .inr r∧ ∀p:Int,0≤p→p<8→ ∀k:Int,1≤k→k≤ix x.deps p→(bO pl (bC.mk p k)).isSome=true∧ix recs ((bO pl (bC.mk p k)).getD cS.zero)∈r)∨dR recs pl x= .inl 4:=by
 unfold dR;rcases pT recs pl x (((8:Int)-(0:Int)).toNat+1) 0 [] (by omega) (by omega)with⟨q,r,h,_,h2⟩|h
 ·rw[h];exact .inl ⟨r,rfl,h2⟩
 ·rw[h];exact .inr rfl
theorem nZ(recs:List al)(pl:List (bC×Int))(a:Int)(r:List al): ∀(n:Nat) (s:Int),0≤s→((r.length:Int)- s).toNat<n→(∃q,dt recs pl a r n s= .inr q∧ ∀j:Int,s≤j→j<r.length→jZ (ix r j).deps (ix recs a).deps=true)∨dt recs pl a r n s= .inl 5
 |0,s,_,h=>absurd h (Nat.not_lt_zero _)
 |n+1,s,h0,h=>by
  rw[dt];split
  ·split
   ·rename_i h1 h2;rcases nZ recs pl a r n (s+1) (by omega) (by omega)with⟨q,h3,h4⟩|h3
    ·refine .inl ⟨q,h3,fun j hj hl=>?_⟩;by_cases e:s=j
     ·subst e;exact h2
     ·exact h4 j (by omega) hl
    ·exact .inr h3
   ·exact .inr rfl
  ·exact .inl ⟨_,rfl,fun j hj hl=>by omega⟩
theorem rt{α:Type} [Inhabited α]{l:List α}{y:α}(h:y∈l): ∃j:Int,0≤j∧j<l.length∧ix l j=y:=by
 obtain⟨i,hi,rfl⟩:=List.getElem_of_mem h;exact⟨(i:Int),by omega,by omega,by unfold ix;simp[List.getElem?_eq_getElem hi]⟩
theorem jo{recs:List al}{pl:List (bC×Int)}{a:Int}(h:cQ recs pl a=0):
  (dQ (ix recs a).id=0∧im (ix recs a).deps=0)∧(bO pl (ix recs a).id).getD cS.zero=a∧(ix (ix recs a).deps (ix recs a).id.origin+1)%4294967296=(ix recs a).id.seq∧
   ∀p:Int,0≤p→p<8→ ∀k:Int,1≤k→k≤ix (ix recs a).deps p→(bO pl (bC.mk p k)).isSome=true∧jZ (ix recs ((bO pl (bC.mk p k)).getD cS.zero)).deps (ix recs a).deps=true:=by
 unfold cQ at h;split at h
 ·rename_i h1;split at h
  ·rename_i h2;split at h
   ·rename_i h3;refine⟨?_,h2,h3,?_⟩
    ·rw[uX]at h1;split at h1
     ·exact⟨by assumption,h1⟩
     ·exact absurd h1 ‹_›
    rcases ot recs pl (ix recs a)with⟨r,h4,h5⟩|h4
    ·rw[h4]at h;dsimp only at h;rcases nZ recs pl a r (((↑r.length:Int)-(0:Int)).toNat+1) 0 (by omega) (by omega)with⟨q,h6,h7⟩|h6
     ·intro p hp hp2 k hk hk2;obtain⟨h8,h9⟩:=h5 p hp hp2 k hk hk2;obtain⟨j,j0,j1,j2⟩:=rt h9;refine⟨h8,?_⟩;have:=h7 j j0 j1
      rwa [j2]at this
     ·rw[h6]at h;cases h
    ·rw[h4]at h;cases h
   ·cases h
  ·cases h
 ·cases h
structure lS(l:List al):Prop where
 len:l.length≤128
 id: ∀x∈l,dQ x.id=0∧im x.deps=0
 nd:l.Pairwise fun x y=>x.id≠y.id
 ses: ∀x∈l,(ix x.deps x.id.origin+1)%4294967296=x.id.seq
 seen: ∀x∈l,∀o s:Int,0≤o→o<8→1≤s→s≤ix x.deps o→ ∃y∈l,y.id=bC.mk o s∧jZ y.deps x.deps=true
theorem mi{l:List al}(h:(br l).2=0):lS l:=by
 obtain⟨h1,h2⟩:=pR h;have key: ∀x∈l,∃j:Int,0≤j∧j<l.length∧ix l j=x∧cQ l (dI l) j=0:=fun x hx=>by
  obtain⟨j,a,b,c⟩:=rt hx;exact⟨j,a,b,c,h2 j a b⟩
 refine⟨h1,fun x hx=>?_,?_,fun x hx=>?_,fun x hx o s ho ho2 hs hs2=>?_⟩
 ·obtain⟨j,_,_,rfl,hr⟩:=key x hx;exact(jo hr).1
 ·rw[List.pairwise_iff_getElem];intro i j hi hj hij e;have a:=(jo (h2 (i:Int) (by omega) (by omega))).2.1;have b:=(jo (h2 (j:Int) (by omega) (by omega))).2.1;have ei:ix l (i:Int)=l[i]:=by unfold ix;simp[List.getElem?_eq_getElem hi]
  have ej:ix l (j:Int)=l[j]:=by unfold ix;simp[List.getElem?_eq_getElem hj]
  rw[ei]at a;rw[ej,←e]at b;omega
 ·obtain⟨j,_,_,rfl,hr⟩:=key x hx;exact(jo hr).2.2.1
 ·obtain⟨j,_,_,rfl,hr⟩:=key x hx;obtain⟨h3,h4⟩:=(jo hr).2.2.2 o ho ho2 s hs hs2;obtain⟨v,hv⟩:=Option.isSome_iff_exists.1 h3;have hm:=uW hv;rw[hv]at h4;have hin:=xS l _ hm;exact⟨ix l v,gI _ hin.1 hin.2,Eo l _ hm,h4⟩
theorem uz(a b:bC):eW a b<0↔(a.origin<b.origin∨(a.origin=b.origin∧a.seq<b.seq)):=by
 unfold eW;rw[vY,sL,xt]
 repeat' split
 all_goals omega
theorem kK(a b:al):ltOf (fun(t t1:al)=>b8 t t1) a b=decide (a.id.origin<b.id.origin∨(a.id.origin=b.id.origin∧a.id.seq<b.id.seq)):=by
 unfold ltOf b8;rw[decide_eq_decide];exact uz _ _
theorem v7{l:List al}(h:(br l).2=0):rk l (fun(t t1:al)=>b8 t t1):=by
 refine⟨⟨fun x=>?_,fun x y z h1 h2=>?_,fun x y z h1 h2=>?_⟩,(mi h).nd.imp fun{x y} hne=>?_⟩
 ·rw[kK];simp
 ·rw[kK,decide_eq_true_iff]at*;omega
 ·rw[kK,decide_eq_false_iff_not]at*;omega
 ·rw[kK,kK,decide_eq_true_iff,decide_eq_true_iff];have: ¬(x.id.origin=y.id.origin∧x.id.seq=y.id.seq):=fun⟨a,b⟩=>hne (by cases hx:x.id;cases hy:y.id;rw[hx,hy]at a b;simp at a b;rw[a,b]);omega
theorem yC{l:List al}(h:(br l).2=0): ∀y∈l,0≤y.id.origin∧y.id.origin<8:=fun y hy=>by
 have:=lm ((mi h).id y hy).1;omega
end Go.Proofs.YtmpeiadlohbikaaGreatDoor.V
end

section
set_option linter.unusedVariables false
set_option linter.unusedSimpArgs false
set_option maxRecDepth 20000
set_option maxHeartbeats 4000000
namespace Go.Proofs.YtmpeiadlohbikaaGreatDoor.V
open Go.RowKit
theorem xT{l:List al}(h:(br l).snd=0):l.length≤1000000:=Nat.le_trans (mi h).len (by decide)
theorem BH{l:List al}{g:al→al→Int}(h:(br l).snd=0): ∀y∈bk g l,0≤y.id.origin∧y.id.origin<8:=fun y hy=>yC h y (by unfold bk at hy;exact List.mem_mergeSort.1 hy)
theorem jV{α:Type}{l:List α}{g:α→Bool}(h: ¬cI l g<0):0≤cI l g∧cI l g<(l.length:Int):=by
 unfold cI at h⊢;cases hq:l.findIdx? g with
 |none=>rw[hq]at h;exact absurd (by decide) h
 |some k=>have:=(List.findIdx?_eq_some_iff_getElem.1 hq).1;dsimp only;omega
theorem yR{α:Type}{l:List α}{g:α→Bool}(h: ¬cI l g<0)(hl:l.length≤1000000):0≤cI l g∧cI l g<(l.length:Int)∧IntKind.i64.wrap (cI l g+1)=cI l g+1:=⟨(jV h).1,(jV h).2,bY (by have:=jV h;omega)⟩
theorem BI{l:List al}{g:al→Bool}(ho: ∀y∈l,0≤y.id.origin∧y.id.origin<8)(h: ¬cI l g<0):0≤(ix l (cI l g)).id.origin∧(ix l (cI l g)).id.origin<8:=ho _ (gI _ (jV h).1 (jV h).2)
theorem rI{α:Type}{l:List α}{g:α→Bool}(h: ¬cI l g<0):(l.eraseIdx (cI l g).toNat).length+1=l.length:=by
 have:=jV h;rw[List.length_eraseIdx,if_pos (by omega)];omega
theorem yS{l:List al}(ho: ∀y∈l,0≤y.id.origin∧y.id.origin<8)(n:Nat): ∀y∈l.eraseIdx n,0≤y.id.origin∧y.id.origin<8:=fun y hy=>ho y (List.mem_of_mem_eraseIdx hy)
def UZ:c6 U:= [(24,OF),(58,Sx),(59,Sy),(60,SC),(62,Sv),(63,SD),(64,Sw)]
theorem Jy:bi Tryz.prog U UZ:=aa MN (aa UE (aa UG (aa UT (aa UB (aa UV (aa UC (ah)))))))
def iG:Nat→(List al)→(List Int)→(List bC)→((List bC)×Int)⊕((List al)×(List Int)×(List bC))
 |0,s6,s8_0,s7=> .inr (s6,s8_0,s7)
 |n1+1,s6,s8_0,s7=>
  if(cI s6 fun(t:al)=>aS t s8_0)<(0:Int)then
   .inl (s7,(0:Int))
  else
   iG n1 (s6.eraseIdx (cI s6 fun(t:al)=>aS t s8_0).toNat) (s8_0.set (ix s6 (cI s6 fun(t:al)=>aS t s8_0)).id.origin.toNat (ix s6 (cI s6 fun(t:al)=>aS t s8_0)).id.seq) (s7++ [(ix s6 (cI s6 fun(t:al)=>aS t s8_0)).id])
def aO(l:List al):(List bC)×Int:=
 if(br l).snd=(0:Int)then
  match iG ((bk (fun(t t':al)=>b8 t t') l).length+1) (bk (fun(t t':al)=>b8 t t') l) ([(0:Int),(0:Int),(0:Int),(0:Int),(0:Int),(0:Int),(0:Int),(0:Int)]) ([]:List bC)with
  | .inl r=>r
  | .inr _=>default
 else
  ([],(3:Int))
def Rs:aW U:=⟨[.d (.sl (.st 9))],fun xs es K=> ∃(l:List al),xs= [⟨false,[(1,.d (.sl (.st 9)) l)]⟩]∧es= []∧(∀y∈l,iF y)∧K (.tup [⟨false,[(1,.d (.sl (.st 0)) ((aO l).1))]⟩,⟨false,[(1,.d (.int .i64) ((aO l).2))]⟩]) []⟩
theorem CN:bh Tryz.prog U 20 Rs:=by
 refine d8 (fn:=Tryz.f20) Jy bP (by kernel_rfl) Tryz.f20.ntmps [.d (.sl (.st 0)),.d (.int .i64)] [] (by kernel_rfl) (by kernel_rfl) rfl rfl (by kernel_rfl) (fun xs es K=>?_);rintro⟨l,rfl,rfl,ho,h⟩;refine⟨rfl,?_⟩;have hf0:=aO.eq_1 l;refine⟨_,rfl,rfl,(by assumption),?_⟩;refine vN hf0 iD (fun h0 hf0=>?_) (fun h0 hf0=>?_)
 ·rw[hf0]at h;exact h
 ·refine⟨_,rfl,rfl,?_⟩;refine⟨fun(t t':al)=>b8 t t',fun t0 t1=>⟨_,_,rfl,rfl,rfl,rfl⟩,?_⟩;refine⟨_,_,rfl,rfl,(xT (by first|assumption|exact Classical.not_not.1 (by assumption))),(v7 (by first|assumption|exact Classical.not_not.1 (by assumption))),?_⟩;refine⟨(List al)×(List Int)×(List bC),4,fun(s6,s8_0,s7)=> [(6,.v ⟨false,[(1,.own 1 0)]⟩),(7,.v ⟨false,[(1,.own 3 0)]⟩),(8,.v ⟨false,[(1,.ptr 2 0)]⟩)],fun(s6,s8_0,s7)=> [(1,.row 0 (.st 9) s6 110),(2,.cells [(8,.d (.arr 8 (.int .u32)) s8_0)] 45),(3,.row 0 (.st 0) s7 59)],aN (fun(s6,s8_0,s7)=>s6.length) (fun(s6,s8_0,s7)=>(∀y∈s6,0≤y.id.origin∧y.id.origin<8)∧(s7.length+s6.length≤1000000)∧True) (fun n1 (s6,s8_0,s7)=>iG n1 s6 s8_0 s7) (iG ((bk (fun(t t':al)=>b8 t t') l).length+1) (bk (fun(t t':al)=>b8 t t') l) ([(0:Int),(0:Int),(0:Int),(0:Int),(0:Int),(0:Int),(0:Int),(0:Int)]) ([]:List bC)),fun(s6,s8_0,s7)=>s6.length,⟨[],(bk (fun(t t':al)=>b8 t t') l,[(0:Int),(0:Int),(0:Int),(0:Int),(0:Int),(0:Int),(0:Int),(0:Int)],([]:List bC)),aN.mk0 _ (Nat.lt_succ_self _) ⟨show ∀(y:al),y∈bk (fun(t t':al)=>b8 t t') l→(0:Int)≤y.id.origin∧y.id.origin<(8:Int)from BH (by first|assumption|exact Classical.not_not.1 (by assumption)),show [].length+(bk (fun(t t':al)=>b8 t t') l).length≤(1000000:Nat)from by(have hl:=xT (by first|assumption|exact Classical.not_not.1 (by assumption));have h2:=dr (fun(t t1:al)=>b8 t t1) l;simp only[List.length_nil];omega),trivial⟩ rfl,?_⟩,?_⟩
  ·repeat (first|exact trivial|refine And.intro rfl ?_)
  ·rintro⟨s6,s8_0,s7⟩ ⟨n1,hc1,⟨hi1_0,hi1_1,-⟩,hf1⟩;have hf1:=hf1.trans (iG.eq_2 s6 s8_0 s7 n1);refine⟨fun(t:al)=>aS t s8_0,fun t0=>⟨_,_,rfl,rfl,rfl,rfl⟩,?_⟩;refine⟨_,_,rfl,rfl,?_⟩;refine vI hf1 iD (fun h1 hf1=>?_) (fun h1 hf1=>?_)
   ·rw[hf1]at hf0;rw[hf0]at h;exact h
   ·refine And.intro (show((0:Int)≤cI s6 fun(t:al)=>aS t s8_0)∧(cI s6 fun(t:al)=>aS t s8_0)<(↑s6.length:Int)from jV (by assumption)) ?_;refine And.intro (show(s7.length+ [(ix s6 (cI s6 fun(t:al)=>aS t s8_0)).id].length)*(16:Nat)≤(140737488355328:Nat)from by(simp only[List.length_append,List.length_cons,List.length_nil];omega)) ?_;refine .inl ?_;refine And.intro (show(0:Int)≤(ix s6 (cI s6 fun(t:al)=>aS t s8_0)).id.origin∧(ix s6 (cI s6 fun(t:al)=>aS t s8_0)).id.origin<(↑(8:Nat):Int)from BI (by assumption) (by assumption)) ?_;refine .inr ?_;refine⟨_,_,_,rfl,rfl,(show((0:Int)≤cI s6 fun(t:al)=>aS t s8_0)∧(cI s6 fun(t:al)=>aS t s8_0)<(↑s6.length:Int)∧IntKind.i64.wrap ((cI s6 fun(t:al)=>aS t s8_0)+(1:Int))=(cI s6 fun(t:al)=>aS t s8_0)+(1:Int)from yR (by assumption) (by omega)),?_⟩;have hm1:(s6.eraseIdx (cI s6 fun(t:al)=>aS t s8_0).toNat).length<s6.length:=by(have hl:=rI (by assumption);omega)
    refine⟨[],(s6.eraseIdx (cI s6 fun(t:al)=>aS t s8_0).toNat,s8_0.set (ix s6 (cI s6 fun(t:al)=>aS t s8_0)).id.origin.toNat (ix s6 (cI s6 fun(t:al)=>aS t s8_0)).id.seq,s7++ [(ix s6 (cI s6 fun(t:al)=>aS t s8_0)).id]),hm1,aN.next (s:=(s6,s8_0,s7)) hc1 hm1 ⟨show ∀(y:al),y∈s6.eraseIdx (cI s6 fun(t:al)=>aS t s8_0).toNat→(0:Int)≤y.id.origin∧y.id.origin<(8:Int)from yS (by assumption) _,show(s7++ [(ix s6 (cI s6 fun(t:al)=>aS t s8_0)).id]).length+(s6.eraseIdx (cI s6 fun(t:al)=>aS t s8_0).toNat).length≤(1000000:Nat)from by(have hl:=rI (show ¬cI s6 (fun(t:al)=>aS t s8_0)<0 by assumption);(try simp only[List.length_append,List.length_cons,List.length_nil]);omega),trivial⟩ hf1,?_⟩;repeat (first|exact trivial|refine And.intro rfl ?_)
end Go.Proofs.YtmpeiadlohbikaaGreatDoor.V
end

section
set_option linter.unusedVariables false
set_option linter.unusedSimpArgs false
set_option maxRecDepth 20000
set_option maxHeartbeats 4000000
namespace Go.Proofs.YtmpeiadlohbikaaGreatDoor.V
open Go.RowKit
def Rt:c6 U:= [(9,c9)]
theorem Ff:bi Tryz.prog U Rt:=aa k9 (ah)
def kQ(e:ak):ak:=
 ak.mk e.id e.deps e.n e.key (vZ e.op) e.at_
def MO:aW U:=⟨[.d (.st 3)],fun xs es K=> ∃(e:ak),xs= [⟨true,[(17,.d (.st 3) e)]⟩]∧es= []∧K (.v ⟨true,[(17,.d (.st 3) (kQ e))]⟩) []⟩
theorem Ru:bh Tryz.prog U 131 MO:=by
 refine d8 (fn:=Tryz.f131) Ff bP (by kernel_rfl) Tryz.f131.ntmps [.d (.st 3)] [] (by kernel_rfl) (by kernel_rfl) rfl rfl (by kernel_rfl) (fun xs es K=>?_);rintro⟨e,rfl,rfl,h⟩;refine⟨rfl,?_⟩;have hf0:=kQ.eq_1 e;refine .inl ⟨[(true,0),(true,1),(true,2),(true,3),(true,4),(true,5),(true,6),(true,7),(true,8),(true,9),(true,11),(true,12),(false,10),(true,13)],some 14,[2,3,4,5,6,7,8,9,10,11,12,13],by kernel_rfl,?_⟩;refine⟨_,rfl,rfl,?_⟩;rw[hf0]at h;exact h
def U0:c6 U:= [(131,MO)]
theorem Jz:bi Tryz.prog U U0:=aa Ru (ah)
def iH(l:List ak):Nat→Int→(List ak)→(List ak)⊕(Int×(List ak))
 |0,s4,s3=> .inr (s4,s3)
 |n1+1,s4,s3=>
  if s4<(↑l.length:Int)then
   iH l n1 (s4+(1:Int)) (s3++ [kQ (ix l s4)])
  else
   .inr (s4,s3)
def dO(l:List ak):List ak:=
 match iH l (((↑l.length:Int)-(0:Int)).toNat+1) (0:Int) ([]:List ak)with
 | .inl r=>r
 | .inr (s4,s3)=>
  s3
def SF:aW U:=⟨[.d (.sl (.st 3))],fun xs es K=> ∃(l:List ak),xs= [⟨false,[(1,.d (.sl (.st 3)) l)]⟩]∧es= []∧(l.length≤1000)∧K (.v ⟨false,[(1,.d (.sl (.st 3)) (dO l))]⟩) []⟩
theorem U1:bh Tryz.prog U 65 SF:=by
 refine d8 (fn:=Tryz.f65) Jz bP (by kernel_rfl) Tryz.f65.ntmps [.d (.sl (.st 3))] [] (by kernel_rfl) (by kernel_rfl) rfl rfl (by kernel_rfl) (fun xs es K=>?_);rintro⟨l,rfl,rfl,hl,h⟩;refine⟨rfl,?_⟩;have hf0:=dO.eq_1 l;refine⟨Int×(List ak),1,fun(s4,s3)=> [(0,.v ⟨false,[(1,.d (.sl (.st 3)) l)]⟩),(3,.v ⟨false,[(1,.own 0 0)]⟩),(4,.v ⟨false,[(1,.d (.int .i64) s4)]⟩)],fun(s4,s3)=> [(0,.row 0 (.st 3) s3 70)],aN (fun(s4,s3)=>((↑l.length:Int)- s4).toNat) (fun(s4,s3)=>((0:Int)≤s4)∧(s4≤(↑l.length:Int))∧((s3.length:Int)≤s4)∧True) (fun n1 (s4,s3)=>iH l n1 s4 s3) (iH l (((↑l.length:Int)-(0:Int)).toNat+1) (0:Int) ([]:List ak)),fun(s4,s3)=>((↑l.length:Int)- s4).toNat,⟨[],((0:Int),([]:List ak)),aN.mk0 _ (Nat.lt_succ_self _) ⟨show(0:Int)≤(0:Int)from by omega,show(0:Int)≤(↑l.length:Int)from by omega,show(↑[].length:Int)≤(0:Int)from by(simp only[List.length_append,List.length_cons,List.length_nil];omega),trivial⟩ rfl,?_⟩,?_⟩
 ·repeat (first|exact trivial|refine And.intro rfl ?_)
 ·rintro⟨s4,s3⟩ ⟨n1,hc1,⟨hi1_0,hi1_1,hi1_2,-⟩,hf1⟩;have hf1:=hf1.trans (iH.eq_2 l s4 s3 n1);refine fun h0=>?_;have h0:(↑l.length:Int)≤(9223372036854775807:Int):=h0.2;refine vI hf1 iD (fun h1 hf1=>?_) (fun h1 hf1=>?_)
  ·refine And.intro (show(0:Int)≤s4∧s4<(↑l.length:Int)from by omega) ?_;refine⟨_,rfl,rfl,?_⟩;refine And.intro (show(s3.length+ [kQ (ix l s4)].length)*(120:Nat)≤(140737488355328:Nat)from by(simp only[List.length_append,List.length_cons,List.length_nil];omega)) ?_;refine .inl (And.intro (jc (p:=s4) (q:=(1:Int)) (r:=s4+(1:Int)) (by omega)) ?_);have hm1:((↑l.length:Int)-(s4+(1:Int))).toNat<((↑l.length:Int)- s4).toNat:=by omega
   refine⟨[],(s4+(1:Int),s3++ [kQ (ix l s4)]),hm1,aN.next (s:=(s4,s3)) hc1 hm1 ⟨show(0:Int)≤s4+(1:Int)from by omega,show s4+(1:Int)≤(↑l.length:Int)from by omega,show(↑(s3++ [kQ (ix l s4)]).length:Int)≤s4+(1:Int)from by(simp only[List.length_append,List.length_cons,List.length_nil];omega),trivial⟩ hf1,?_⟩;repeat (first|exact trivial|refine And.intro rfl ?_)
  ·rw[hf1]at hf0;rw[hf0]at h;exact h
def U2:c6 U:= []
theorem JA:bi Tryz.prog U U2:=ah
def eX(l:List ak):Nat→Int→Bool⊕(Int)
 |0,s3=> .inr s3
 |n1+1,s3=>
  if s3<(↑l.length:Int)then
   if((100:Int)<(↑(ix l s3).key.length:Int))∨((100:Int)<(↑(ix l s3).op.name.length:Int))then
    .inl true
   else
    eX l n1 (s3+(1:Int))
  else
   .inr s3
def eI(l:List ak):Bool:=
 match eX l (((↑l.length:Int)-(0:Int)).toNat+1) (0:Int)with
 | .inl r=>r
 | .inr s3=>
  decide ((150:Int)<(↑l.length:Int))
def SG:aW U:=⟨[.d (.sl (.st 3))],fun xs es K=> ∃(l:List ak),xs= [⟨false,[(1,.d (.sl (.st 3)) l)]⟩]∧es= []∧K (.v ⟨false,[(1,.d .bool (eI l))]⟩) []⟩
theorem U3:bh Tryz.prog U 57 SG:=by
 refine d8 (fn:=Tryz.f57) JA bP (by kernel_rfl) Tryz.f57.ntmps [.d .bool] [] (by kernel_rfl) (by kernel_rfl) rfl rfl (by kernel_rfl) (fun xs es K=>?_);rintro⟨l,rfl,rfl,h⟩;refine⟨rfl,?_⟩;have hf0:=eI.eq_1 l;refine⟨Int,0,fun(s3:Int)=> [(0,.v ⟨false,[(1,.d (.sl (.st 3)) l)]⟩),(3,.v ⟨false,[(1,.d (.int .i64) s3)]⟩)],fun(s3:Int)=> [],aN (fun(s3:Int)=>((↑l.length:Int)- s3).toNat) (fun(s3:Int)=>((0:Int)≤s3)∧(s3≤(↑l.length:Int))∧True) (fun n1 (s3:Int)=>eX l n1 s3) (eX l (((↑l.length:Int)-(0:Int)).toNat+1) (0:Int)),fun(s3:Int)=>((↑l.length:Int)- s3).toNat,⟨[],(0:Int),aN.mk0 _ (Nat.lt_succ_self _) ⟨show(0:Int)≤(0:Int)from by omega,show(0:Int)≤(↑l.length:Int)from by omega,trivial⟩ rfl,?_⟩,?_⟩
 ·repeat (first|exact trivial|refine And.intro rfl ?_)
 ·rintro s3 ⟨n1,hc1,⟨hi1_0,hi1_1,-⟩,hf1⟩;have hf1:=hf1.trans (eX.eq_2 l s3 n1);refine fun h0=>?_;have h0:(↑l.length:Int)≤(9223372036854775807:Int):=h0.2;refine vI hf1 iD (fun h1 hf1=>?_) (fun h1 hf1=>?_)
  ·refine And.intro (show(0:Int)≤s3∧s3<(↑l.length:Int)from by omega) ?_;refine fun h2=>?_;have h2:(↑(ix l s3).key.length:Int)≤(9223372036854775807:Int):=h2.2;refine And.intro (show decide ((100:Int)<(↑(ix l s3).key.length:Int))=((17:Nat),false).snd→(0:Int)≤s3∧s3<(↑l.length:Int)from by omega) ?_;refine vI hf1 (iO iD iD) (fun h3 hf1=>?_) (fun h3 hf1=>?_)
   ·rw[hf1]at hf0;rw[hf0]at h;exact h
   ·refine .inl (And.intro (jc (p:=s3) (q:=(1:Int)) (r:=s3+(1:Int)) (by omega)) ?_);have hm1:((↑l.length:Int)-(s3+(1:Int))).toNat<((↑l.length:Int)- s3).toNat:=by omega
    refine⟨[],s3+(1:Int),hm1,aN.next (s:=s3) hc1 hm1 ⟨show(0:Int)≤s3+(1:Int)from by omega,show s3+(1:Int)≤(↑l.length:Int)from by omega,trivial⟩ hf1,?_⟩;repeat (first|exact trivial|refine And.intro rfl ?_)
  ·rw[hf1]at hf0;refine fun h4=>?_;have h4:(↑l.length:Int)≤(9223372036854775807:Int):=h4.2;rw[hf0]at h;exact h
def U4:c6 U:= []
theorem JB:bi Tryz.prog U U4:=ah
def eY(v:aB):Nat→Int→(List ar)→aB⊕(Int×(List ar))
 |0,s4,e3=> .inr (s4,e3)
 |n1+1,s4,e3=>
  if s4<(↑v.items.length:Int)then
   eY v n1 (s4+(1:Int)) (e3++ [ar.mk (ix v.items s4).field (ix v.items s4).val])
  else
   .inr (s4,e3)
def du(v:aB):aB:=
 match eY v (((↑v.items.length:Int)-(0:Int)).toNat+1) (0:Int) ([]:List ar)with
 | .inl r=>r
 | .inr (s4,e3)=>
  aB.mk v.kind v.val e3
def Rw:aW U:=⟨[.d (.st 7)],fun xs es K=> ∃(v:aB),xs= [⟨true,[(3,.d (.st 7) v)]⟩]∧es= []∧(v.items.length≤1000)∧K (.v ⟨true,[(3,.d (.st 7) (du v))]⟩) []⟩
theorem OG:bh Tryz.prog U 25 Rw:=by
 refine d8 (fn:=Tryz.f25) JB bP (by kernel_rfl) Tryz.f25.ntmps [.d (.st 7)] [] (by kernel_rfl) (by kernel_rfl) rfl rfl (by kernel_rfl) (fun xs es K=>?_);rintro⟨v,rfl,rfl,hv,h⟩;refine⟨rfl,?_⟩;have hf0:=du.eq_1 v;refine⟨Int×(List ar),4,fun(s4,e3)=> [(1,.v ⟨false,[(1,.ptr 0 0)]⟩),(2,.v ⟨false,[(1,.ptr 1 0)]⟩),(3,.v ⟨false,[(1,.ptr 2 0)]⟩),(4,.v ⟨false,[(1,.d (.int .i64) s4)]⟩)],fun(s4,e3)=> [(0,.cells [(3,.d (.st 7) v)] 81),(1,.cells [(1,.d (.int .i64) (0:Int)),(1,.d (.int .i64) (0:Int)),(1,.nils)] 75),(2,.cells [(1,.d (.int .i64) v.kind),(1,.d (.int .i64) v.val),(1,.own 3 0)] 75),(3,.row 0 (.st 6) e3 144)],aN (fun(s4,e3)=>((↑v.items.length:Int)- s4).toNat) (fun(s4,e3)=>((0:Int)≤s4)∧(s4≤(↑v.items.length:Int))∧((e3.length:Int)≤s4)∧True) (fun n1 (s4,e3)=>eY v n1 s4 e3) (eY v (((↑v.items.length:Int)-(0:Int)).toNat+1) (0:Int) ([]:List ar)),fun(s4,e3)=>((↑v.items.length:Int)- s4).toNat,⟨[],((0:Int),([]:List ar)),aN.mk0 _ (Nat.lt_succ_self _) ⟨show(0:Int)≤(0:Int)from by omega,show(0:Int)≤(↑v.items.length:Int)from by omega,show(↑[].length:Int)≤(0:Int)from by(simp only[List.length_append,List.length_cons,List.length_nil];omega),trivial⟩ rfl,?_⟩,?_⟩
 ·repeat (first|exact trivial|refine And.intro rfl ?_)
 ·rintro⟨s4,e3⟩ ⟨n1,hc1,⟨hi1_0,hi1_1,hi1_2,-⟩,hf1⟩;have hf1:=hf1.trans (eY.eq_2 v s4 e3 n1);refine fun h0=>?_;have h0:(↑v.items.length:Int)≤(9223372036854775807:Int):=h0.2;refine vI hf1 iD (fun h1 hf1=>?_) (fun h1 hf1=>?_)
  ·refine .inl ⟨[(true,0),(true,1),(true,2),(true,3),(true,4),(true,5),(true,6),(true,7),(true,8),(true,9),(true,10),(true,11),(true,12),(true,13),(true,14),(false,15),(false,16),(true,17)],some 18,[3,4,5,6,7,8,9,10,11,12,13,14,15],by kernel_rfl,?_⟩;refine And.intro (show(0:Int)≤s4∧s4<(↑v.items.length:Int)from by omega) ?_;refine And.intro (show(0:Int)≤s4∧s4<(↑v.items.length:Int)from by omega) ?_;refine And.intro (show(e3.length+ [ar.mk (ix v.items s4).field (ix v.items s4).val].length)*(24:Nat)≤(140737488355328:Nat)from by(simp only[List.length_append,List.length_cons,List.length_nil];omega)) ?_;refine .inl (And.intro (jc (p:=s4) (q:=(1:Int)) (r:=s4+(1:Int)) (by omega)) ?_);have hm1:((↑v.items.length:Int)-(s4+(1:Int))).toNat<((↑v.items.length:Int)- s4).toNat:=by omega
   refine⟨[],(s4+(1:Int),e3++ [ar.mk (ix v.items s4).field (ix v.items s4).val]),hm1,aN.next (s:=(s4,e3)) hc1 hm1 ⟨show(0:Int)≤s4+(1:Int)from by omega,show s4+(1:Int)≤(↑v.items.length:Int)from by omega,show(↑(e3++ [ar.mk (ix v.items s4).field (ix v.items s4).val]).length:Int)≤s4+(1:Int)from by(simp only[List.length_append,List.length_cons,List.length_nil];omega),trivial⟩ hf1,?_⟩;repeat (first|exact trivial|refine And.intro rfl ?_)
  ·rw[hf1]at hf0;rw[hf0]at h;exact h
def U5:c6 U:= [(57,SG)]
theorem JC:bi Tryz.prog U U5:=aa U3 (ah)
def eZ(l:List al)(s3:Int):Nat→Int→Bool⊕(Int)
 |0,s4=> .inr s4
 |n2+1,s4=>
  if s4<(↑(ix l s3).looks.length:Int)then
   if((100:Int)<(↑(ix (ix l s3).looks s4).key.length:Int))∨((100:Int)<(↑(ix (ix l s3).looks s4).v.items.length:Int))then
    .inl true
   else
    eZ l s3 n2 (s4+(1:Int))
  else
   .inr s4
def e8(l:List al):Nat→Int→Bool⊕(Int)
 |0,s3=> .inr s3
 |n1+1,s3=>
  if s3<(↑l.length:Int)then
   if((((20:Int)<(↑(ix l s3).ops.length:Int))∨((20:Int)<(↑(ix l s3).looks.length:Int)))∨(eI (ix l s3).ops=true))∨(((30:Int)<(↑l.length:Int))∧((0:Int)<(↑(ix l s3).ops.length:Int)))then
    .inl true
   else
    match eZ l s3 (((↑(ix l s3).looks.length:Int)-(0:Int)).toNat+1) (0:Int)with
    | .inl r=> .inl r
    | .inr s4=>
     e8 l n1 (s3+(1:Int))
  else
   .inr s3
def ff(l:List al):Bool:=
 if((30:Int)<(↑l.length:Int))∧(¬(↑l.length:Int)=(129:Int))then
  true
 else
  match e8 l (((↑l.length:Int)-(0:Int)).toNat+1) (0:Int)with
  | .inl r=>r
  | .inr s3=>
   false
def Rx:aW U:=⟨[.d (.sl (.st 9))],fun xs es K=> ∃(l:List al),xs= [⟨false,[(1,.d (.sl (.st 9)) l)]⟩]∧es= []∧K (.v ⟨false,[(1,.d .bool (ff l))]⟩) []⟩
theorem y8:bh Tryz.prog U 19 Rx:=by
 refine d8 (fn:=Tryz.f19) JC bP (by kernel_rfl) Tryz.f19.ntmps [.d .bool] [] (by kernel_rfl) (by kernel_rfl) rfl rfl (by kernel_rfl) (fun xs es K=>?_);rintro⟨l,rfl,rfl,h⟩;refine⟨rfl,?_⟩;have hf0:=ff.eq_1 l;refine fun h0=>?_;have h0:(↑l.length:Int)≤(9223372036854775807:Int):=h0.2;refine vI hf0 (iA iD iD) (fun h1 hf0=>?_) (fun h1 hf0=>?_)
 ·rw[hf0]at h;exact h
 ·refine⟨Int,0,fun(s3:Int)=> [(0,.v ⟨false,[(1,.d (.sl (.st 9)) l)]⟩),(3,.v ⟨false,[(1,.d (.int .i64) s3)]⟩)],fun(s3:Int)=> [],aN (fun(s3:Int)=>((↑l.length:Int)- s3).toNat) (fun(s3:Int)=>((0:Int)≤s3)∧(s3≤(↑l.length:Int))∧True) (fun n1 (s3:Int)=>e8 l n1 s3) (e8 l (((↑l.length:Int)-(0:Int)).toNat+1) (0:Int)),fun(s3:Int)=>((↑l.length:Int)- s3).toNat,⟨[],(0:Int),aN.mk0 _ (Nat.lt_succ_self _) ⟨show(0:Int)≤(0:Int)from by omega,show(0:Int)≤(↑l.length:Int)from by omega,trivial⟩ rfl,?_⟩,?_⟩
  ·repeat (first|exact trivial|refine And.intro rfl ?_)
  ·rintro s3 ⟨n1,hc1,⟨hi1_0,hi1_1,-⟩,hf1⟩;have hf1:=hf1.trans (e8.eq_2 l s3 n1);refine fun h2=>?_;have h2:(↑l.length:Int)≤(9223372036854775807:Int):=h2.2;refine vI hf1 iD (fun h3 hf1=>?_) (fun h3 hf1=>?_)
   ·refine And.intro (show(0:Int)≤s3∧s3<(↑l.length:Int)from by omega) ?_;refine fun h4=>?_;have h4:(↑(ix l s3).ops.length:Int)≤(9223372036854775807:Int):=h4.2;refine And.intro (show decide ((20:Int)<(↑(ix l s3).ops.length:Int))=((26:Nat),false).snd→(0:Int)≤s3∧s3<(↑l.length:Int)from by omega) ?_;refine And.intro (show(decide ((20:Int)<(↑(ix l s3).ops.length:Int))||decide ((20:Int)<(↑(ix l s3).looks.length:Int)))=((35:Nat),false).snd→(0:Int)≤s3∧s3<(↑l.length:Int)from by omega) ?_;refine⟨_,fun h5=>⟨_,rfl,rfl,rfl,rfl⟩,rfl,?_⟩;refine And.intro (show decide ((30:Int)<(↑l.length:Int))=((47:Nat),true).snd→(decide ((20:Int)<(↑(ix l s3).ops.length:Int))||decide ((20:Int)<(↑(ix l s3).looks.length:Int))||eI (ix l s3).ops)=((43:Nat),false).snd→(0:Int)≤s3∧s3<(↑l.length:Int)from by omega) ?_;refine vI hf1 (iO (iO (iO iD iD) iB) (iA iD iD)) (fun h6 hf1=>?_) (fun h6 hf1=>?_)
    ·rw[hf1]at hf0;rw[hf0]at h;exact h
    ·refine⟨Int,0,fun(s4:Int)=> [(0,.v ⟨false,[(1,.d (.sl (.st 9)) l)]⟩),(3,.v ⟨false,[(1,.d (.int .i64) s3)]⟩),(4,.v ⟨false,[(1,.d (.int .i64) s4)]⟩)],fun(s4:Int)=> [],aN (fun(s4:Int)=>((↑(ix l s3).looks.length:Int)- s4).toNat) (fun(s4:Int)=>((0:Int)≤s4)∧(s4≤(↑(ix l s3).looks.length:Int))∧True) (fun n2 (s4:Int)=>eZ l s3 n2 s4) (eZ l s3 (((↑(ix l s3).looks.length:Int)-(0:Int)).toNat+1) (0:Int)),fun(s4:Int)=>((↑(ix l s3).looks.length:Int)- s4).toNat,⟨[],(0:Int),aN.mk0 _ (Nat.lt_succ_self _) ⟨show(0:Int)≤(0:Int)from by omega,show(0:Int)≤(↑(ix l s3).looks.length:Int)from by omega,trivial⟩ rfl,?_⟩,?_⟩
     ·repeat (first|exact trivial|refine And.intro rfl ?_)
     ·rintro s4 ⟨n2,hc2,⟨hi2_0,hi2_1,-⟩,hf2⟩;have hf2:=hf2.trans (eZ.eq_2 l s3 s4 n2);refine And.intro (show(0:Int)≤s3∧s3<(↑l.length:Int)from by omega) ?_;refine fun h7=>?_;have h7:(↑(ix l s3).looks.length:Int)≤(9223372036854775807:Int):=h7.2;refine vI hf2 iD (fun h8 hf2=>?_) (fun h8 hf2=>?_)
      ·refine And.intro (show(0:Int)≤s3∧s3<(↑l.length:Int)from by omega) ?_;refine And.intro (show(0:Int)≤s4∧s4<(↑(ix l s3).looks.length:Int)from by omega) ?_;refine fun h9=>?_;have h9:(↑(ix (ix l s3).looks s4).key.length:Int)≤(9223372036854775807:Int):=h9.2;refine And.intro (show decide ((100:Int)<(↑(ix (ix l s3).looks s4).key.length:Int))=((78:Nat),false).snd→(0:Int)≤s3∧s3<(↑l.length:Int)from by omega) ?_;refine And.intro (show decide ((100:Int)<(↑(ix (ix l s3).looks s4).key.length:Int))=((78:Nat),false).snd→(0:Int)≤s4∧s4<(↑(ix l s3).looks.length:Int)from by omega) ?_;refine vI hf2 (iO iD iD) (fun h10 hf2=>?_) (fun h10 hf2=>?_)
       ·rw[hf2]at hf1;rw[hf1]at hf0;rw[hf0]at h;exact h
       ·refine .inl (And.intro (jc (p:=s4) (q:=(1:Int)) (r:=s4+(1:Int)) (by omega)) ?_);have hm2:((↑(ix l s3).looks.length:Int)-(s4+(1:Int))).toNat<((↑(ix l s3).looks.length:Int)- s4).toNat:=by omega
        refine⟨[],s4+(1:Int),hm2,aN.next (s:=s4) hc2 hm2 ⟨show(0:Int)≤s4+(1:Int)from by omega,show s4+(1:Int)≤(↑(ix l s3).looks.length:Int)from by omega,trivial⟩ hf2,?_⟩;repeat (first|exact trivial|refine And.intro rfl ?_)
      ·rw[hf2]at hf1;refine .inl (And.intro (jc (p:=s3) (q:=(1:Int)) (r:=s3+(1:Int)) (by omega)) ?_);have hm1:((↑l.length:Int)-(s3+(1:Int))).toNat<((↑l.length:Int)- s3).toNat:=by omega
       refine⟨[],s3+(1:Int),hm1,aN.next (s:=s3) hc1 hm1 ⟨show(0:Int)≤s3+(1:Int)from by omega,show s3+(1:Int)≤(↑l.length:Int)from by omega,trivial⟩ hf1,?_⟩;repeat (first|exact trivial|refine And.intro rfl ?_)
   ·rw[hf1]at hf0;rw[hf0]at h;exact h
def yT(h:List al):Prop:=h.length≤1000∧ ∀x∈h,x.ops.length≤1000∧x.looks.length≤1000∧ ∀k∈x.looks,k.v.items.length≤1000
theorem nq{h:List al}(g:yT h){j:Int}(h0:0≤j)(h1:j<h.length):(ix h j).ops.length≤1000:=(g.2 _ (gI _ h0 h1)).1
theorem qp{h:List al}(g:yT h){j:Int}(h0:0≤j)(h1:j<h.length):(ix h j).looks.length≤1000:=(g.2 _ (gI _ h0 h1)).2.1
theorem qr{h:List al}(g:yT h){j k:Int}(h0:0≤j)(h1:j<h.length)(h2:0≤k)(h3:k<(ix h j).looks.length):(ix (ix h j).looks k).v.items.length≤1000:=(g.2 _ (gI _ h0 h1)).2.2 _ (gI _ h2 h3)
def U6:c6 U:= [(25,Rw),(65,SF)]
theorem BJ:bi Tryz.prog U U6:=aa OG (aa U1 (ah))
def gl(l:List al)(s4:Int)(s3:List al):Nat→Int→(List bI)→(List al)⊕(Int×(List bI))
 |0,s6,e2=> .inr (s6,e2)
 |n2+1,s6,e2=>
  if s6<(↑(ix l s4).looks.length:Int)then
   gl l s4 s3 n2 (s6+(1:Int)) (e2++ [bI.mk (ix (ix l s4).looks s6).key (ix (ix l s4).looks s6).n (du (ix (ix l s4).looks s6).v)])
  else
   .inr (s6,e2)
def gm(l:List al):Nat→Int→(List al)→(List al)⊕(Int×(List al))
 |0,s4,s3=> .inr (s4,s3)
 |n1+1,s4,s3=>
  if s4<(↑l.length:Int)then
   match gl l s4 s3 (((↑(ix l s4).looks.length:Int)-(0:Int)).toNat+1) (0:Int) ([]:List bI)with
   | .inl r=> .inl r
   | .inr (s6,e2)=>
    gm l n1 (s4+(1:Int)) (s3++ [al.mk (ix l s4).id (ix l s4).deps (ix l s4).group (dO (ix l s4).ops) e2])
  else
   .inr (s4,s3)
def bt(l:List al):List al:=
 match gm l (((↑l.length:Int)-(0:Int)).toNat+1) (0:Int) ([]:List al)with
 | .inl r=>r
 | .inr (s4,s3)=>
  s3
def SH:aW U:=⟨[.d (.sl (.st 9))],fun xs es K=> ∃(l:List al),xs= [⟨false,[(1,.d (.sl (.st 9)) l)]⟩]∧es= []∧(yT l)∧K (.v ⟨false,[(1,.d (.sl (.st 9)) (bt l))]⟩) []⟩
theorem Fg:bh Tryz.prog U 21 SH:=by
 refine d8 (fn:=Tryz.f21) BJ bP (by kernel_rfl) Tryz.f21.ntmps [.d (.sl (.st 9))] [] (by kernel_rfl) (by kernel_rfl) rfl rfl (by kernel_rfl) (fun xs es K=>?_);rintro⟨l,rfl,rfl,hg,h⟩;refine⟨rfl,?_⟩;have hf0:=bt.eq_1 l;refine⟨Int×(List al),1,fun(s4,s3)=> [(0,.v ⟨false,[(1,.d (.sl (.st 9)) l)]⟩),(3,.v ⟨false,[(1,.own 0 0)]⟩),(4,.v ⟨false,[(1,.d (.int .i64) s4)]⟩)],fun(s4,s3)=> [(0,.row 0 (.st 9) s3 110)],aN (fun(s4,s3)=>((↑l.length:Int)- s4).toNat) (fun(s4,s3)=>((0:Int)≤s4)∧(s4≤(↑l.length:Int))∧((s3.length:Int)≤s4)∧True) (fun n1 (s4,s3)=>gm l n1 s4 s3) (gm l (((↑l.length:Int)-(0:Int)).toNat+1) (0:Int) ([]:List al)),fun(s4,s3)=>((↑l.length:Int)- s4).toNat,⟨[],((0:Int),([]:List al)),aN.mk0 _ (Nat.lt_succ_self _) ⟨show(0:Int)≤(0:Int)from by omega,show(0:Int)≤(↑l.length:Int)from by omega,show(↑[].length:Int)≤(0:Int)from by(simp only[List.length_append,List.length_cons,List.length_nil];omega),trivial⟩ rfl,?_⟩,?_⟩
 ·repeat (first|exact trivial|refine And.intro rfl ?_)
 ·rintro⟨s4,s3⟩ ⟨n1,hc1,⟨hi1_0,hi1_1,hi1_2,-⟩,hf1⟩;have hf1:=hf1.trans (gm.eq_2 l s4 s3 n1);refine fun h0=>?_;have h0:(↑l.length:Int)≤(9223372036854775807:Int):=h0.2;refine vI hf1 iD (fun h1 hf1=>?_) (fun h1 hf1=>?_)
  ·refine .inr ⟨(.look 0 (.look 1 (.look 2 (.look 3 (.look 4 (.look 5 (.look 6 (.look 7 (.look 8 (.look 9 (.look 10 (.look 11 (.look 12 (.look 13 (.look 14 (.look 15 (.look 16 (.look 17 (.look 18 (.look 19 (.turn 20 (.look 21 (.turn 22 .fin .nil)) (.turn 22 (.turn 20 (.look 21 .fin) .nil) .nil)))))))))))))))))))))),some 23,[],2,[(0,.v ⟨false,[(1,.d (.sl (.st 9)) l)]⟩),(3,.v ⟨false,[(1,.own 0 0)]⟩),(4,.v ⟨false,[(1,.d (.int .i64) s4)]⟩),(5,.v ⟨false,[(1,.ptr 1 0)]⟩)],[(0,.row 0 (.st 9) s3 110),(1,.cells [(2,.d (.st 0) ((ix l s4).id)),(8,.d (.arr 8 (.int .u32)) ((ix l s4).deps)),(1,.d (.int .i64) ((ix l s4).group)),(1,.d (.sl (.st 3)) (dO (ix l s4).ops)),(1,.nils)] 110)],True,by kernel_rfl,?_,?_⟩
   ·refine And.intro (show(0:Int)≤s4∧s4<(↑l.length:Int)from by omega) ?_;refine And.intro (show(0:Int)≤s4∧s4<(↑l.length:Int)from by omega) ?_;refine And.intro (show(0:Int)≤s4∧s4<(↑l.length:Int)from by omega) ?_;refine And.intro (show(0:Int)≤s4∧s4<(↑l.length:Int)from by omega) ?_;refine And.intro ?_ ?_
    ·refine⟨_,rfl,rfl,(nq hg (by omega) (by omega)),?_⟩;refine And.intro ?_ trivial;refine⟨trivial,[],?_⟩;repeat (first|exact trivial|refine And.intro rfl ?_)
    refine And.intro ?_ trivial;refine And.intro ?_ trivial;refine⟨_,rfl,rfl,(nq hg (by omega) (by omega)),?_⟩;refine⟨trivial,[],?_⟩;repeat (first|exact trivial|refine And.intro rfl ?_)
   refine fun _=>?_;refine⟨Int×(List bI),3,fun(s6,e2)=> [(0,.v ⟨false,[(1,.d (.sl (.st 9)) l)]⟩),(3,.v ⟨false,[(1,.own 0 0)]⟩),(4,.v ⟨false,[(1,.d (.int .i64) s4)]⟩),(5,.v ⟨false,[(1,.ptr 1 0)]⟩),(6,.v ⟨false,[(1,.d (.int .i64) s6)]⟩)],fun(s6,e2)=> [(0,.row 0 (.st 9) s3 110),(1,.cells [(2,.d (.st 0) ((ix l s4).id)),(8,.d (.arr 8 (.int .u32)) ((ix l s4).deps)),(1,.d (.int .i64) ((ix l s4).group)),(1,.d (.sl (.st 3)) (dO (ix l s4).ops)),(1,.own 2 0)] 110),(2,.row 0 (.st 8) e2 107)],aN (fun(s6,e2)=>((↑(ix l s4).looks.length:Int)- s6).toNat) (fun(s6,e2)=>((0:Int)≤s6)∧(s6≤(↑(ix l s4).looks.length:Int))∧((e2.length:Int)≤s6)∧True) (fun n2 (s6,e2)=>gl l s4 s3 n2 s6 e2) (gl l s4 s3 (((↑(ix l s4).looks.length:Int)-(0:Int)).toNat+1) (0:Int) ([]:List bI)),fun(s6,e2)=>((↑(ix l s4).looks.length:Int)- s6).toNat,⟨[],((0:Int),([]:List bI)),aN.mk0 _ (Nat.lt_succ_self _) ⟨show(0:Int)≤(0:Int)from by omega,show(0:Int)≤(↑(ix l s4).looks.length:Int)from by omega,show(↑[].length:Int)≤(0:Int)from by(simp only[List.length_append,List.length_cons,List.length_nil];omega),trivial⟩ rfl,?_⟩,?_⟩
   ·repeat (first|exact trivial|refine And.intro rfl ?_)
   ·rintro⟨s6,e2⟩ ⟨n2,hc2,⟨hi2_0,hi2_1,hi2_2,-⟩,hf2⟩;have hf2:=hf2.trans (gl.eq_2 l s4 s3 s6 e2 n2);refine And.intro (show(0:Int)≤s4∧s4<(↑l.length:Int)from by omega) ?_;refine fun h2=>?_;have h2:(↑(ix l s4).looks.length:Int)≤(9223372036854775807:Int):=h2.2;refine vI hf2 iD (fun h3 hf2=>?_) (fun h3 hf2=>?_)
    ·refine And.intro (show(0:Int)≤s4∧s4<(↑l.length:Int)from by omega) ?_;refine And.intro (show(0:Int)≤s6∧s6<(↑(ix l s4).looks.length:Int)from by omega) ?_;refine .inl ⟨[(true,0),(true,1),(true,2),(true,3),(true,4),(true,5),(true,6),(true,7),(false,8),(true,9),(false,10),(false,11),(true,12)],some 13,[2,4,5,6,7,8,9,10,11,12,13,14,15],by kernel_rfl,?_⟩;refine⟨_,rfl,rfl,(qr hg (by omega) (by omega) (by omega) (by omega)),?_⟩;refine And.intro (show(e2.length+ [bI.mk (ix (ix l s4).looks s6).key (ix (ix l s4).looks s6).n (du (ix (ix l s4).looks s6).v)].length)*(64:Nat)≤(140737488355328:Nat)from by(have hz:=qp hg (show 0≤s4 by omega) (by omega);(try simp only[List.length_append,List.length_cons,List.length_nil]);omega)) ?_;refine .inl (And.intro (jc (p:=s6) (q:=(1:Int)) (r:=s6+(1:Int)) (by omega)) ?_);have hm2:((↑(ix l s4).looks.length:Int)-(s6+(1:Int))).toNat<((↑(ix l s4).looks.length:Int)- s6).toNat:=by omega
     refine⟨[],(s6+(1:Int),e2++ [bI.mk (ix (ix l s4).looks s6).key (ix (ix l s4).looks s6).n (du (ix (ix l s4).looks s6).v)]),hm2,aN.next (s:=(s6,e2)) hc2 hm2 ⟨show(0:Int)≤s6+(1:Int)from by omega,show s6+(1:Int)≤(↑(ix l s4).looks.length:Int)from by omega,show(↑(e2++ [bI.mk (ix (ix l s4).looks s6).key (ix (ix l s4).looks s6).n (du (ix (ix l s4).looks s6).v)]).length:Int)≤s6+(1:Int)from by(simp only[List.length_append,List.length_cons,List.length_nil];omega),trivial⟩ hf2,?_⟩;repeat (first|exact trivial|refine And.intro rfl ?_)
    ·rw[hf2]at hf1;refine And.intro (show(s3.length+ [al.mk (ix l s4).id (ix l s4).deps (ix l s4).group (dO (ix l s4).ops) e2].length)*(104:Nat)≤(140737488355328:Nat)from by(have hq:=hg.1;(try simp only[List.length_append,List.length_cons,List.length_nil]);omega)) ?_;refine .inl (And.intro (jc (p:=s4) (q:=(1:Int)) (r:=s4+(1:Int)) (by omega)) ?_);have hm1:((↑l.length:Int)-(s4+(1:Int))).toNat<((↑l.length:Int)- s4).toNat:=by omega
     refine⟨[],(s4+(1:Int),s3++ [al.mk (ix l s4).id (ix l s4).deps (ix l s4).group (dO (ix l s4).ops) e2]),hm1,aN.next (s:=(s4,s3)) hc1 hm1 ⟨show(0:Int)≤s4+(1:Int)from by omega,show s4+(1:Int)≤(↑l.length:Int)from by omega,show(↑(s3++ [al.mk (ix l s4).id (ix l s4).deps (ix l s4).group (dO (ix l s4).ops) e2]).length:Int)≤s4+(1:Int)from by(simp only[List.length_append,List.length_cons,List.length_nil];omega),trivial⟩ hf1,?_⟩;repeat (first|exact trivial|refine And.intro rfl ?_)
  ·rw[hf1]at hf0;rw[hf0]at h;exact h
end Go.Proofs.YtmpeiadlohbikaaGreatDoor.V
end

section
set_option linter.unusedVariables false
set_option linter.unusedSectionVars false
set_option linter.unusedSimpArgs false
namespace Go.Proofs.YtmpeiadlohbikaaGreatDoor
open Go.RowKit
theorem ox{F:Fence}{n:Nat}{P:Program}{ops:Array Oper}{Q Q':Exit→Act→World→Prop}: ∀(l:List Oper) (a:Act) (w:World),
  (∀e a' w',Q e a' w'→(e= .normal→ ∀k,(∀o∈l,o.dst≠some k)→a'.tmps[k]? =a.tmps[k]?)→Q' e a' w')→wpListIn F n P ops Q l a w→wpListIn F n P ops Q' l a w
 | [],a,w,hq,h=>hq _ _ _ h fun _ _ _=>rfl
 |o::l,a,w,hq,h=>by
  have put: ∀(v:Value) (k:Nat),o.dst≠some k→(a.put o.dst v).tmps[k]? =a.tmps[k]? :=fun v k hk=>by
   cases hd:o.dst with
   |none=>rfl
   |some d=>
    have hne:d≠k:=fun e=>hk (by rw[hd,e]);simp[Act.put,Array.getElem?_setIfInBounds_ne hne]
  have go: ∀(v:Value) (a1:Act) (w1:World),a1.tmps=(a.put o.dst v).tmps→wpListIn F n P ops Q l a1 w1→wpListIn F n P ops Q' l a1 w1:=fun v a1 w1 ha h1=>
   ox l a1 w1 (fun e a' w' q hk=>hq e a' w' q fun he k hkk=>by
    rw[hk he k fun o' ho'=>hkk o' (by simp[ho']),ha];exact put v k (hkk o (by simp))) h1
  have out:LetsOut Q→LetsOut Q':=fun⟨a',w',q⟩=>⟨a',w',hq _ _ _ q fun he=>by cases he⟩;have pan: ∀c a' w',Q (.panic c) a' w'→Q' (.panic c) a' w':=fun c a' w' q=>hq _ _ _ q fun he=>by cases he
  unfold wpListIn at h⊢;by_cases hw:Region.wanted o (yielded ops a.tmps)
  ·simp only[hw,if_true]at h⊢;refine⟨h.1,?_⟩;have h2:=h.2;generalize (o.semAt F.round a.eval).run P w=r at h2⊢;unfold Oper.uponIn at h2⊢;split at h2
   ·exact go _ _ _ rfl h2
   ·exact go _ _ _ rfl h2
   ·refine go undef _ _ ?_ h2;cases hd:o.dst<;>rfl
   ·refine⟨h2.1,CallsIn.mono h2.2 fun e w' he=>?_⟩;cases e with
    |returned v=>exact go _ _ _ rfl he
    |panicked c=>exact pan _ _ _ he
    |outgrown=>exact out he
   ·exact⟨h2.1,RowsIn.mono h2.2 fun v w' he=>go _ _ _ rfl he⟩
   ·refine⟨h2.1,RoundIn.mono h2.2 fun e w' he=>?_⟩;cases e with
    |returned v=>exact go _ _ _ rfl he
    |panicked c=>exact pan _ _ _ he
    |outgrown=>exact out he
   ·exact pan _ _ _ h2
   ·exact h2.elim
  ·simp only[hw,if_false]at h⊢;exact⟨h.1,go _ _ _ rfl h.2⟩
namespace V
section
variable {U:bD}
def Gs(e:En U)(ks:List Nat):(List Nat→Prop)→Prop:=
 List.rec (motive:=fun _=>(List Nat→Prop)→Prop) (fun K=>K []) (fun k _ ih K=>gR [] [] e (.tmp k) fun c=>match c with
  | .ptr j 0=>ih fun r=>K (j::r)
  |_=>False) ks
def oG:List Nat→List (Va U)→En U
 |k::ks,x::xs=>(k,.v x)::oG ks xs
 |_,_=> []
def Qi(e:En U)(fs:List Nat):(En U→Prop)→Prop:=
 List.rec (motive:=fun _=>(En U→Prop)→Prop) (fun K=>K []) (fun k _ ih K=>j6 [] [] e (.tmp k) fun x=>match x with
  |⟨false,(1,.d (.int a) t):: []⟩=>ih fun r=>K ((k,.v ⟨false,[(1,.d (.int a) t)]⟩)::r)
  |⟨false,(1,.d .bool t):: []⟩=>ih fun r=>K ((k,.v ⟨false,[(1,.d .bool t)]⟩)::r)
  |_=>False) fs
def Qj(e:En U)(kp:List Nat):(En U→Prop)→Prop:=
 List.rec (motive:=fun _=>(En U→Prop)→Prop) (fun K=>K []) (fun k _ ih K=>j6 [] [] e (.tmp k) fun x=>ih fun r=>K ((k,.v x)::r)) kp
def LD(ops:List Oper):List Nat→Bool
 | []=>true
 |k::r=>(ops.all fun o=>o.dst.all fun d=>!Nat.beq d k)&&LD ops r
def xD(T:cW U)(G:c6 U)(ks fs kp:List Nat)(ops:List Oper)(e:En U)(n:Nat)(H:Hs U)(K:KS U):Prop:=
 bif LD ops kp then Gs e ks fun js=>zq T js H fun _ caps=> @nC U panNone T G ops ops (oG ks caps) 0 [] [] [] fun e1 _ _=>Qi e1 fs fun F=>Qj e kp fun E=>K (F++E) n H else False
def Qk(T:cW U)(G:c6 U)(b:Nat)(ks fs kp:List Nat)(m:Nat):Code→En U→Nat→Hs U→KO U→Prop:=
 Nat.rec (motive:=fun _=>Code→En U→Nat→Hs U→KO U→Prop) (fun c e n H K=>match c with
  | .seq (.region _ ops false) c=>xD T G ks fs kp ops.toList e n H fun e n H=>aw T G b c e n H K
  |_=>False) (fun _ ih c e n H K=>match c with
  | .seq a c=>aw T G b a e n H fun o e n H=>match o with
   | .n=>ih c e n H K
   |_=>False
  |_=>False) m
def LF(m:Nat)(ks fs kp:List Nat)(T:cW U)(G:c6 U)(fn:Func)(md:List Md)(em:List (Nat×List (Nat×Option aZ)))(e:En U)(b:Nat)(H:Hs U)(K:AV U→List (aH U)→Prop):Prop:=match fn.body with
 |some c=>Qk T G b ks fs kp m c e b H (rY T fn md em b K)
 |none=>False
def pX(V:Cx U→List Value→Prop):En U→aI→Prop
 | [],[]=>True
 |(k,.v x)::F,(k',u)::c=>k=k'∧cM V x u∧pX V F c
 |_,_=>False
theorem pX.env{V:Cx U→List Value→Prop}: ∀{F:En U} {c:aI},pX V F c→aJ V [] F c
 | [],[],_=>⟨fun k x _ h=>(by cases h),fun k x _ h=>(by cases h),fun k p x h=>(by cases h)⟩
 |(k,.v x)::F,(k',u)::c,⟨e,hv,h⟩=>by
  subst e;have ih:=pX.env h;refine⟨fun j y _ hj=>?_,fun j y _ hj=>?_,fun k p x h=>(by cases h)⟩
  ·by_cases hk:k=j
   ·subst hk;rw[nH]at hj;injection hj with hj;injection hj with hj;subst hj;exact⟨u,nM,hv⟩
   ·rw[dP hk]at hj;obtain⟨u',h1,h2⟩:=ih.v j y rfl hj;exact⟨u',by rw[jD hk];exact h1,h2⟩
  ·by_cases hk:k=j
   ·subst hk;rw[nH]at hj;injection hj with hj;cases hj
   ·rw[dP hk]at hj;obtain⟨u',h1,h2⟩:=ih.t j y rfl hj;exact⟨u',by rw[jD hk];exact h1,h2⟩
 |(_,.tup _)::_,_::_,h=>h.elim
 |(_,.pan _)::_,_::_,h=>h.elim
 |(_,.gd _ _)::_,_::_,h=>h.elim
 |(_,.un)::_,_::_,h=>h.elim
 | [],_::_,h=>h.elim
 |_::_,[],h=>by cases ‹Nat×AV U›with|mk k x=>cases x<;>exact h.elim
theorem pX.app{V:Cx U→List Value→Prop}: ∀{F F':En U} {c c':aI},pX V F c→pX V F' c'→pX V (F++F') (c++c')
 | [],_,[],_,_,h'=>h'
 |(k,.v x)::F,_,(k',u)::c,_,⟨e,hv,h⟩,h'=>⟨e,hv,h.app h'⟩
 |(_,.tup _)::_,_,_::_,_,h,_=>h.elim
 |(_,.pan _)::_,_,_::_,_,h,_=>h.elim
 |(_,.gd _ _)::_,_,_::_,_,h,_=>h.elim
 |(_,.un)::_,_,_::_,_,h,_=>h.elim
 | [],_,_::_,_,h,_=>h.elim
 |_::_,_,[],_,h,_=>by cases ‹Nat×AV U›with|mk k x=>cases x<;>exact h.elim
theorem xE: ∀{c:aI} {k:Nat} {v:Value},c.get k=some v→(k,v)∈c
 | [],_,_,h=>by cases h
 |(j,u)::c,k,v,h=>by
  unfold aI.get at h;cases hb:Nat.beq j k with
  |true=>rw[hb]at h;injection h with h;subst h;rw[Nat.eq_of_beq_eq_true hb];simp
  |false=>rw[hb]at h;exact List.mem_cons_of_mem _ (xE h)
variable [ao] {P:Program} {nt:Nat} {T:cW U} {G:c6 U} {X:List Nat} {w w' w0:World} {ρ ρ0:Nat→Rz} {n b:Nat} {H H' H0:Hs U} {e:En U} {ce:aI}
theorem uF(he:aJ (Vw U X w ρ n H) [] e ce): ∀{ks:List Nat} {K:List Nat→Prop},Gs e ks K→ ∃js:List Nat,K js∧js.length=ks.length∧ ∀(i:Nat) k,ks[i]? =some k→ ∃j,js[i]? =some j∧ce.get k=some (.pointer (ρ j).A)
 | [],K,h=>⟨[],h,rfl,fun i k hi=>(by cases hi)⟩
 |k::ks,K,h=>by
  obtain⟨c,h,hc⟩:=bj (show gR [] [] e (.tmp k) _ from h) he;split at h
  ·rename_i j;obtain⟨u,e1,hu⟩:=hc cA;obtain⟨_,_,g,hA,hp⟩:=hu;injection hp with hp;obtain⟨js,hK,hl,hjs⟩:=uF he (ks:=ks) h;refine⟨j::js,hK,by simp[hl],fun i k' hi=>?_⟩;cases i with
   |zero=>injection hi with hi;subst hi;subst hp;exact⟨j,rfl,by rw[hA];exact e1⟩
   |succ i=>exact hjs i k' hi
  ·exact h.elim
omit [ao]in
theorem xF{V:Cx U→List Value→Prop}: ∀{ks:List Nat} {caps:List (Va U)} {vals:List Value},bM V caps vals→(∀(i:Nat) k,ks[i]? =some k→ ∃u,vals[i]? =some u∧ce.get k=some u)→aJ V [] (oG ks caps) ce
 | [],caps,vals,hv,h=>⟨fun k x _ h=>(by cases h),fun k x _ h=>(by cases h),fun k p x h=>(by cases h)⟩
 |k::ks,[],vals,hv,h=>⟨fun k x _ h=>(by cases h),fun k x _ h=>(by cases h),fun k p x h=>(by cases h)⟩
 |k::ks,x::caps,vals,⟨u,us,e,hx,hv⟩,h=>by
  subst e;have ih:=xF (ks:=ks) hv fun i k' hi=>h (i+1) k' hi;obtain⟨u',h1,h2⟩:=h 0 k rfl;have h1:some u=some u':=h1;injection h1 with h1;subst h1;refine⟨fun j y _ hj=>?_,fun j y _ hj=>?_,fun k p x h=>(by cases h)⟩
  ·by_cases hk:k=j
   ·subst hk;rw[show oG (k::ks) (x::caps)=(k,.v x)::oG ks caps from rfl,nH]at hj;injection hj with hj;injection hj with hj;subst hj;exact⟨u,h2,hx⟩
   ·rw[show oG (k::ks) (x::caps)=(k,.v x)::oG ks caps from rfl,dP hk]at hj;exact ih.v j y rfl hj
  ·by_cases hk:k=j
   ·subst hk;rw[show oG (k::ks) (x::caps)=(k,.v x)::oG ks caps from rfl,nH]at hj;injection hj with hj;cases hj
   ·rw[show oG (k::ks) (x::caps)=(k,.v x)::oG ks caps from rfl,dP hk]at hj;exact ih.t j y rfl hj
theorem A5{Y:List Nat}(he:aJ (bd U Y (· =w) ρ n H) [] e ce): ∀{kp:List Nat} {K:En U→Prop},Qj e kp K→ ∃E c,K E∧pX (bd U Y (· =w) ρ n H) E c∧ ∀p∈c,p.1∈kp∧ce.get p.1=some p.2
 | [],K,h=>⟨[],[],h,trivial,fun p hp=>(by cases hp)⟩
 |k::kp,K,h=>by
  obtain⟨x,h,hx⟩:=cH (show j6 [] [] e (.tmp k) _ from h) he;obtain⟨u,e1,hu⟩:=hx cA;obtain⟨E,c,hK,hp,hc⟩:=A5 he (kp:=kp) h;refine⟨(k,.v x)::E,(k,u)::c,hK,⟨rfl,hu,hp⟩,fun p hp=>?_⟩;rcases List.mem_cons.1 hp with rfl|hp
  ·exact⟨by simp,e1⟩
  ·exact⟨by simp[(hc p hp).1],(hc p hp).2⟩
omit [ao]in
theorem wb [F0:ao]{Y:List Nat}{n0:Nat}{H0:Hs U}(he:aJ (bd U Y (· =w) ρ n0 H0) [] e ce): ∀{fs:List Nat} {K:En U→Prop},Qi e fs K→ ∃E c,K E∧(∀(F1:ao) Y1 w1 ρ1 n1 (H1:Hs U),pX (@bd F1 U Y1 (· =w1) ρ1 n1 H1) E c)∧ ∀p∈c,p.1∈fs∧ce.get p.1=some p.2
 | [],K,h=>⟨[],[],h,fun _ _ _ _ _ _=>trivial,fun p hp=>(by cases hp)⟩
 |k::fs,K,h=>by
  obtain⟨x,h,hx⟩:=cH (show j6 [] [] e (.tmp k) _ from h) he;obtain⟨u,e1,hu⟩:=hx cA;split at h
  ·rename_i a t;obtain⟨E,c,hK,hp,hc⟩:=wb he (fs:=fs) h;obtain⟨e2,hr⟩:=aC.inv (show aC U _ _ (.int a) t [u]from(bJ.one1 hu).1);injection e2 with e2;subst e2;refine⟨_,(k,.int a t)::c,hK,fun F1 Y1 w1 ρ1 n1 H1=>⟨rfl,gz (aC.int a _ hr),hp F1 Y1 w1 ρ1 n1 H1⟩,fun p hp=>?_⟩;rcases List.mem_cons.1 hp with rfl|hp
   ·exact⟨by simp,e1⟩
   ·exact⟨by simp[(hc p hp).1],(hc p hp).2⟩
  ·rename_i t;obtain⟨E,c,hK,hp,hc⟩:=wb he (fs:=fs) h;have e2:=aC.inv (show aC U _ _ .bool t [u]from(bJ.one1 hu).1);injection e2 with e2;subst e2;refine⟨_,(k,.bool t)::c,hK,fun F1 Y1 w1 ρ1 n1 H1=>⟨rfl,gz (aC.bool t),hp F1 Y1 w1 ρ1 n1 H1⟩,fun p hp=>?_⟩;rcases List.mem_cons.1 hp with rfl|hp
   ·exact⟨by simp,e1⟩
   ·exact⟨by simp[(hc p hp).1],(hc p hp).2⟩
  ·exact h.elim
omit [ao]in
theorem A6{ops:List Oper}: ∀{kp:List Nat},LD ops kp=true→ ∀k∈kp,∀o∈ops,o.dst≠some k
 |k::r,h,k',hk,o,ho=>by
  have h:((ops.all fun o=>o.dst.all fun d=>!Nat.beq d k)&&LD ops r)=true:=h;rw[Bool.and_eq_true]at h;rcases List.mem_cons.1 hk with rfl|hk
  ·intro hd;have:=List.all_eq_true.1 h.1 o ho;rw[hd]at this;simp at this
  ·exact A6 h.2 k' hk o ho
theorem EA(hG:dF P U G)(hT:bf U P T){K:KS U}{Q:EQ}{id:Nat}{ops:List Oper}{ks fs kp:List Nat}(hd: ∀o∈ops,(o.dst.all (Nat.blt · nt))=true)(hnd:ops.all qD=true)(h:xD T G ks fs kp ops e n H K)(M:aX U X (· =w) ρ n H)(he:aJ (Vw U X w ρ n H) [] e ce)
  (hQ: ∀e' ce' w',K e' n H→aX U X (· =w') ρ n H→aJ (Vw U X w' ρ n H) [] e' ce'→bQ ρ n H w ρ n H w'→Q .normal ce' w'): @Wp dfs0 P nt (.region id ops.toArray false) Q ce w:=by
 unfold xD at h;cases hno:LD ops kp with
 |false=>rw[hno]at h;exact h.elim
 |true=>
  rw[hno]at h;simp only[cond_true]at h;obtain⟨js,h,hl,hjs⟩:=uF he h;obtain⟨H5,caps,h,M5,st5,_,_,hcap⟩:=oN h M;have hv:=hcap w [] (Fr.refl _ _) (fun _ h=>by cases h) (fun _ _ _ _ h=>by cases h) ⟨gB,ao.pr⟩ ρ;have gB1:=M.gv.1;have gB2:=M.gv.2;have lo0: ∀x∈gB,x<w.heap.size:=fun x hx=>M.lo w rfl x (M.xs x (gB1 x hx));have M0: @aX ⟨gB,ao.pr⟩ U gB (· =w) ρ 0 []:=by
   letI F0:ao:=⟨gB,ao.pr⟩
   exact @aX.mk F0 U gB (· =w) ρ 0 [] List.nodup_nil (fun p hp=>(by cases hp)) (fun p hp=>(by cases hp)) (fun p hp=>(by cases hp)) (fun g hg=>(by cases hg)) (fun w2 h2 x hx=>by subst h2;exact lo0 x hx) (fun x hx=>hx) (And.intro (fun z hz=>hz) gB2)
  have he0:aJ (@bd ⟨gB,ao.pr⟩ U gB (· =w) ρ 0 []) [] (oG ks caps) ce:=xF hv fun i k hi=>by
   obtain⟨j,h1,h2⟩:=hjs i k hi;exact⟨_,by rw[List.getElem?_map,h1];rfl,h2⟩
  have hL:= @rP dfs0 pes0 ⟨gB,ao.pr⟩ U panNone (fun _=> .nilIface) P nt T G gB w ρ 0 [] hG hT
   (fun x ce1 w1=>x= .normal∧ ∃e1 n1 H1 ρ1,(Qi e1 fs fun F=>Qj e kp fun E=>K (F++E) n H)∧aJ (@bd ⟨gB,ao.pr⟩ U (aj ρ1 H1++gB) (· =w1) ρ1 n1 H1) [] e1 ce1∧ @bQ ⟨gB,ao.pr⟩ U ρ 0 [] w ρ1 n1 H1 w1) ops _
   (fun e1 n1 H1 ρ1 ce1 w1 hk _ he1 lG=>⟨rfl,e1,n1,H1,ρ1,hk,he1,lG⟩) (@vh.mk dfs0 pes0 ⟨gB,ao.pr⟩ P nt U panNone _ gB ρ 0 [] w _ (fun f c h=>(by cases h)) (fun o f h=>(by cases h)) (fun z e n H ρ ce w h=>h.elim)) ops _ _ _ _ _ ρ ce w hd h M0 he0 ⟨fun k hk=>absurd rfl hk,fun k av hk=>(by cases hk),fun k hk=>absurd rfl hk⟩ (@aX.stp0 ⟨gB,ao.pr⟩ U gB ρ 0 [] w M0)
  intro a r;refine wpIn_region_lit (ox ops a w (fun x a' w' hq hk=>?_) (hL hnd a r));obtain⟨env',r',rfl,e1,n1,H1,ρ1,h,he1,lG⟩:=hq;obtain⟨F,c,h,hF,hc⟩:=wb (F0:=⟨gB,ao.pr⟩) he1 h;obtain⟨E,c',h,hE,hc'⟩:=A5 he h;have hf:Fr [] w w':=by letI F0:ao:=⟨gB,ao.pr⟩;exact lG.fr
  obtain⟨M',s'⟩:=M.keep0 hf;have hE':pX (Vw U X w' ρ n H) E c':=by
   clear h hc';induction E generalizing c' with
   |nil=>cases c' with
    |nil=>trivial
    |cons p c'=>exact hE.elim
   |cons q E ih=>
    obtain⟨k,x⟩:=q;cases c' with
    |nil=>cases x<;>exact hE.elim
    |cons p c'=>
     obtain⟨k',u⟩:=p;cases x with
     |v x=>exact⟨hE.1,cM.imp (fun _ _ h=>h.step s') hE.2.1,ih c' hE.2.2⟩
     |_=>exact hE.elim
  refine⟨c++c',⟨r'.size,r'.defers,fun k v hg=>?_⟩,hQ _ _ _ h M' ((hF _ _ _ _ _ _).app hE').env s'⟩;rcases List.mem_append.1 (xE hg)with hm|hm
  ·exact r'.get k v (hc _ hm).2
  ·rw[hk rfl k fun o ho=>A6 hno k (hc' _ hm).1 o ho];exact r.get k v (hc' _ hm).2
theorem A7(hG:dF P U G)(hT:bf U P T)(hmo:P.follows .mixedOrders=true){ks fs kp:List Nat}: ∀(m:Nat) (c:Code) (e:En U) (n:Nat) (H:Hs U) (K:KO U) (ρ:Nat→Rz) (ce:aI) (w:World),Qk T G b ks fs kp m c e n H K→qB nt c=true→aX U X (· =w) ρ n H→aJ (Vw U X w ρ n H) [] e ce→bQ ρ0 b H0 w0 ρ n H w→
  @Wp dfs0 P nt c (@QK pes0 _ U panNone (fun _=> .nilIface) X ρ0 b H0 w0 K) ce w
 |0,c,e,n,H,K,ρ,ce,w,h,hc,M,he,st=>by
  cases c with
  |seq a c=>cases a with
   |region id ops d=>cases d with
    |false=>
     obtain⟨ops⟩:=ops;have h:xD T G ks fs kp ops e n H fun e n H=>aw T G b c e n H K:=h;have hc:(((ops.all fun o=>o.dst.all (Nat.blt · nt))&&ops.all qD)&&qB nt c)=true:=hc;rw[Bool.and_eq_true,Bool.and_eq_true]at hc;refine @qf dfs0 _ _ _ _ _ _ _ fun K' hK'=>?_;exact EA hG hT (fun o ho=>List.all_eq_true.1 hc.1.1 o ho) hc.1.2 h M he fun e' ce' w' hk M' he' s'=>
      hK' _ _ (@pz dfs0 pes0 _ U panNone (fun _=> .nilIface) P nt T G X w0 ρ0 b H0 (fun f c h=>(by cases h)) (fun o f h=>(by cases h)) (fun z e n H ρ ce w h=>h.elim) hG hT hmo c _ _ _ _ _ _ _ hk hc.2 (Kw c) M' he' (st.trans s'))
    |true=>exact h.elim
   |_=>exact h.elim
  |_=>exact h.elim
 |m+1,c,e,n,H,K,ρ,ce,w,h,hc,M,he,st=>by
  cases c with
  |seq x y=>
   have h:aw T G b x e n H fun o e n H=>match o with
    | .n=>Qk T G b ks fs kp m y e n H K
    |_=>False:=h
   have hc:(qB nt x&&qB nt y)=true:=hc;rw[Bool.and_eq_true]at hc;refine @qf dfs0 _ _ _ _ _ _ _ fun K' hK'=>?_;refine @g8 dfs0 _ _ _ _ _ _ _ (@pz dfs0 pes0 _ U panNone (fun _=> .nilIface) P nt T G X w0 ρ0 b H0 (fun f c h=>(by cases h)) (fun o f h=>(by cases h)) (fun z e n H ρ ce w h=>h.elim) hG hT hmo x _ _ _ _ _ _ _ h hc.1 (Kw x) M he st) ?_;intro ex ce' w' hq;by_cases hpx: ∃c,ex= .panic c
   ·obtain⟨c,rfl⟩:=hpx;obtain⟨_,_,_,_,_,_,_,_,hk,_⟩:=hq;exact hk.elim
   obtain⟨o,e',n',H',ρ',hK,ho,M',he',st'⟩:=km hpx hq;cases o with
   |n=>
    cases ex<;>first|exact ho.elim|skip
    exact hK' _ _ (A7 hG hT hmo m y _ _ _ _ _ _ _ hK hc.2 M' he' st')
   |r=>exact hK.elim
   |x i=>exact hK.elim
  |_=>exact h.elim
omit [ao]in
theorem I4{f:FuncId}{fn:Func}{c:aW U}{code:Code}(hG:bi P U G)(hT:bf U P T)(hmo:P.follows .mixedOrders=true)(nt m:Nat)(ks fs kp:List Nat)(md:List Md)(em:List (Nat×List (Nat×Option aZ)))(hen:aF P f=true)(hf:P.funcs[f]? =some fn)(hb:fn.body=some code)(hn:fn.ntmps=nt)(hcd:qB nt code=true)
  (h: ∀xs es K,c.run xs es K→Nat.ble xs.length nt=true∧LF m ks fs kp T G fn md em (l8 0 xs) es.length (au 0 es) K):bh P U f c:=fun [F:ao] hpr X w ρ es xs vs K M hv hrun=>by
 obtain⟨hlen,hfun⟩:=h xs es K hrun;unfold LF at hfun
 rw[hb]at hfun
 have he:aJ (Vw U X w ρ es.length (au 0 es)) [] (l8 0 xs) (bS 0 vs):=by
  refine⟨fun k x _ hk=>?_,fun k l _ hk=>?_,fun k p x hk=>by cases hk⟩
  ·obtain⟨y,u,h1,h2,h3⟩:=fp hv k _ hk;injection h1 with h1;subst h1;exact⟨u,h2,h3⟩
  ·obtain⟨y,u,h1,_⟩:=fp hv k _ hk;cases h1
 have hw:=A7 (b:=es.length) (ρ0:=ρ) (H0:=au 0 es) (w0:=w) ⟨hpr,hG⟩ hT hmo m code _ _ _ _ ρ _ w hfun hcd M he M.stp0;refine iE nt hen hf hb hn (by rw[hv.length];exact hlen) (g8 hw ?_);intro ex ce' w' hq;by_cases hpx: ∃c,ex= .panic c
 ·obtain⟨c,rfl⟩:=hpx;obtain⟨_,_,_,_,_,_,_,_,hk,_⟩:=hq;exact hk.elim
 obtain⟨o,e',n',H',ρ',hK,ho,M',he',st'⟩:=km hpx hq;obtain⟨v,hres,r,es',ρ2,_,h1,h2,h3,h4⟩:=jE (nt:=nt) hT hK M' he' st';cases ex with
 |normal=>exact fE hres ⟨r,es',ρ2,h1,h2,h3,h4⟩
 |ret=>exact fR hres ⟨r,es',ρ2,h1,h2,h3,h4⟩
 |exit j=>cases o<;>first|exact ho.elim|exact hK.elim
 |_=>cases o<;>exact ho.elim
end
end V
end Go.Proofs.YtmpeiadlohbikaaGreatDoor
end

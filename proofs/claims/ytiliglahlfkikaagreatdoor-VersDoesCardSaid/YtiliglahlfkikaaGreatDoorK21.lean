/- Functions walked: printed by the walker. -/
import Derived.Test.YtiliglahlfkikaaGreatDoorK3
import Derived.Test.YtiliglahlfkikaaGreatDoorK20
import Derived.Test.YtiliglahlfkikaaGreatDoorK19
import Derived.Test.YtiliglahlfkikaaGreatDoorK14
section
set_option linter.unusedVariables false
set_option linter.unusedSimpArgs false
namespace Go.Proofs.YtiliglahlfkikaaGreatDoor.V
open Go.RowKit Go.Shelf Go.Lib Go.Sort
theorem Jl{α R:Type} [Inhabited α](x:List α)(p:α→Bool)(c:α→Int)(hc: ∀a,c a<0↔p a=true)(L:Nat→Int→Int→R⊕(Int×Int))(hL: ∀fuel i j,L (fuel+1) i j=if i<j then(if c (ix x ((i+j)/2))<0 then L fuel ((i+j)/2+1) j else L fuel i ((i+j)/2))else .inr (i,j))
  (mono:x.Pairwise (fun a b=>p b=true→p a=true)):L (((x.length:Int)-(0:Int)).toNat+1) 0 x.length= .inr (((x.takeWhile p).length:Int),((x.takeWhile p).length:Int)):=by
 obtain⟨q,h,h0,h1,h2,h3⟩:=oU x c L hL (fun a b ha hab hb hcb=>by
  rw[hc]at*;have:=List.pairwise_iff_getElem.1 mono a.toNat b.toNat (by omega) (by omega) (by omega);rw[←ed x (by omega),←ed x (by omega),show((a.toNat:Nat):Int)=a by omega,show((b.toNat:Nat):Int)=b by omega]at this;exact this hcb) (((x.length:Int)-(0:Int)).toNat+1) 0 x.length (by omega) (by omega) (by omega) (by omega) (fun _ _ _=>by omega) (fun _ _ _=>by omega)
 have:=ER p x q.toNat (fun k hk hkl=>by
  have:=(hc _).1 (h2 k (by omega) (by omega));rw[ed x hkl]at this;exact this) (fun k hk hkl=>by
  have:=h3 k (by omega) (by omega);rw[hc,ed x hkl]at this;simpa using this) (by omega)
 rw[h,this];congr 1;have:((q.toNat:Nat):Int)=q:=by omega
 rw[this]
structure Jm(s:aC):Prop where
 la:s.adds.length≤4096
 lg:s.gone.length≤4096
 ra:bJ (s.adds.map (·.tag))
 rg:bJ s.gone
 dj: ∀a∈s.adds,a.tag∉s.gone
theorem um{s:aC}(h:dF s=0):Jm s:=by
 unfold dF at h;split at h
 ·cases h
 rename_i c1;split at h
 ·cases h
 split at h
 ·cases h
 rename_i c4;have c3:d9 s.adds fC=true∧cS s.gone ab=true:=Classical.byContradiction fun q=>c4 (.inl q);have rg:=(dy s.gone).1 c3.2;refine⟨by omega,by omega,(jY s.adds).1 c3.1,rg,fun a ha hm=>?_⟩;refine absurd (.inr ?_) c4;rw[fq,List.any_eq_true];refine⟨a,ha,?_⟩;show(!iS a.elem||(cY s.gone a.tag ab).2)=true
 rw[pH rg];simp[hm]
theorem vV{α:Type}(f:α→ae){l:List α}(h:bJ (l.map f))(t:ae):l.Pairwise (fun a b=>aM (f b) t=true→aM (f a) t=true):=by
 unfold bJ at h;rw[List.pairwise_map]at h;exact h.imp fun{a b} hab hb=>dx _ _ _ hab hb
theorem qB{l:List aT}(h:bJ (l.map (·.tag)))(t:ae):fB l t dN=(((l.takeWhile (fun a=>aM a.tag t)).length:Int),decide (t∈l.map (·.tag))):=by
 unfold fB;rw[Jl l (fun a=>aM a.tag t) (fun a=>dN a t) (fun a=>by unfold dN;rw[bM];exact bW _ _) (iu l t dN) (fun _ _ _=>rfl) (vV (fun a:aT=>a.tag) h t)];simp only;have e:=List.takeWhile_append_dropWhile (p:=fun a:aT=>aM a.tag t) (l:=l);have hd:=oS (fun a:aT=>aM a.tag t) l;by_cases hlt:(((l.takeWhile (fun a=>aM a.tag t)).length:Int))<(l.length:Int)
 ·have hlt':(l.takeWhile (fun a=>aM a.tag t)).length<l.length:=by omega
  congr 1;rw[decide_eq_true hlt,Bool.true_and,ed l hlt',Bool.eq_iff_iff,decide_eq_true_eq,decide_eq_true_eq];unfold dN;rw[bM,gz];have hdc:=List.drop_eq_getElem_cons hlt';rw[hd]at hdc;constructor
  ·intro he;rw[←he];exact List.mem_map_of_mem (List.getElem_mem _)
  ·intro hm;obtain⟨a,ha,rfl⟩:=List.mem_map.1 hm;rw[←e]at ha;rcases List.mem_append.1 ha with h1|h1
   ·have:=List.all_eq_true.1 (List.all_takeWhile (p:=fun x:aT=>aM x.tag a.tag) (l:=l)) a h1;rw[cu]at this;cases this
   ·rw[hdc]at h1;rcases List.mem_cons.1 h1 with h2|h2
    ·rw[←h2]
    ·exfalso;have hr:bJ ((l.dropWhile (fun x=>aM x.tag a.tag)).map (·.tag)):=by
      unfold bJ at h⊢;exact h.sublist ((List.dropWhile_sublist _).map _)
     rw[hdc]at hr;unfold bJ at hr;rw[List.map_cons,List.pairwise_cons]at hr;have h3:=hr.1 a.tag (List.mem_map_of_mem h2);have h4:aM (l[(l.takeWhile (fun x=>aM x.tag a.tag)).length]).tag a.tag=false:=by
      have:=List.head?_dropWhile_not (fun x:aT=>aM x.tag a.tag) l;rw[hdc,List.head?_cons]at this;exact this
     rw[h3]at h4;cases h4
 ·congr 1;rw[decide_eq_false hlt,Bool.false_and];symm;rw[decide_eq_false_iff_not];intro hm;obtain⟨a,ha,rfl⟩:=List.mem_map.1 hm;have hlen:=congrArg List.length e;rw[List.length_append]at hlen;have:l.dropWhile (fun x=>aM x.tag a.tag)= []:=List.eq_nil_of_length_eq_zero (by omega);rw[this,List.append_nil]at e;rw[←e]at ha;have:=List.all_eq_true.1 (List.all_takeWhile (p:=fun x:aT=>aM x.tag a.tag) (l:=l)) a ha;rw[cu]at this;cases this
theorem mz{t:ae}(h:fM t):br t=true↔ ¬ay t=0:=by unfold br;rw[jO h];simp
theorem De{s:aC}(hs:iC s){a:aT}(ha:fM a.tag):iH s a=fX s a:=by
 unfold iH fX;rw[j8 hs,ez];by_cases c1:cK s=0
 ·rw[if_pos c1,if_pos c1];have ok:=um (s:=s) (by rw[j8 hs];exact c1);by_cases c2:ay a.tag=0
  ·rw[if_pos c2,if_neg (by rw[mz ha];simp[c2])];by_cases c3:cy a.elem=true
   ·rw[if_pos c3,if_pos c3];have hb:(fB s.adds a.tag fun(t:aT) (t':ae)=>dN t t')=_:=qB ok.ra a.tag;rw[hb];have hg:(kC s a.tag=true)↔a.tag∈s.gone:=by
     show((cY s.gone a.tag ab).2=true)↔_
     rw[pH ok.rg,decide_eq_true_eq]
    have hc:(aX s.gone a.tag=true∨aX (ck s.adds) a.tag=true)↔(a.tag∈s.gone∨a.tag∈s.adds.map (·.tag)):=by rw[fH,fH,kL,decide_eq_true_eq,decide_eq_true_eq]
    by_cases c4:a.tag∈s.gone∨a.tag∈s.adds.map (·.tag)
    ·rw[if_pos (hc.2 c4),if_pos (c4.elim (fun h=> .inr (hg.2 h)) (fun h=> .inl (decide_eq_true h)))]
    ·rw[if_neg (fun h=>c4 (hc.1 h)),if_neg (fun h=>c4 (h.elim (fun h=> .inr (of_decide_eq_true h)) (fun h=> .inl (hg.1 h))))];split
     ·rfl
     ·have hl:=lJ s.adds (fun x=>aM x.tag a.tag) (gV s a) (fun fuel i h0=>by
       rw[gV];have:(i<(s.adds.length:Int)∧aG (ix s.adds i).tag a.tag<0)↔(i<(s.adds.length:Int)∧aM (ix s.adds i).tag a.tag=true):=by
        by_cases hi:i<(s.adds.length:Int)
        ·rw[bE (hs.adds _ (cG _ h0 hi)).seq ha.seq,bW]
        ·simp[hi]
       simp only[this])
      rw[hl];unfold gQ;simp only[Int.toNat_natCast]
   ·rw[if_neg c3,if_neg c3]
  ·rw[if_neg c2,if_pos ((mz ha).2 c2)]
 ·rw[if_neg c1,if_neg c1]
theorem vW{l:List ae}(hl: ∀x∈l,eQ x){t:ae}(ht:eQ t):bR l t=if t∈l then l else yj aM l t:=by
 unfold bR;rw[fH];simp only[decide_eq_true_eq];split
 ·rfl
 ·have h:=lJ l (fun x=>aM x t) (gm l t) (fun fuel i h0=>by
   rw[gm];have:(i<(l.length:Int)∧aG (ix l i) t<0)↔(i<(l.length:Int)∧aM (ix l i) t=true):=by
    by_cases hi:i<(l.length:Int)
    ·rw[bE (hl _ (cG _ h0 hi)) ht,bW]
    ·simp[hi]
   simp only[this])
  rw[h];simp only[Int.toNat_natCast,List.nil_append,sB,oS];rfl
theorem vX(a b:ae)(h1:aM a b=false)(h2:aM b a=false):a=b:=by
 rcases jc a b with h|h|h
 ·rw[h]at h1;cases h1
 ·exact h
 ·rw[h]at h2;cases h2
theorem nu: ∀(l g:List ae),(∀x∈l,eQ x)→(∀x∈g,eQ x)→bJ g→bJ (l.foldl bR g)∧(∀x,x∈l.foldl bR g↔x∈g∨x∈l)
 | [],g,_,_,hr=>⟨hr,fun x=>by simp⟩
 |t::l,g,hl,hg,hr=>by
  have ht:eQ t:=hl t (by simp);have e:=vW hg ht;have hm: ∀x,x∈bR g t↔x=t∨x∈g:=fun x=>by
   rw[e];split
   ·rename_i h;constructor
    ·exact .inr
    ·rintro(rfl|h2)
     ·exact h
     ·exact h2
   ·exact At aM g t x
  have hr2:bJ (bR g t):=by
   rw[e];split
   ·exact hr
   ·rename_i h;exact oy aM vX dx hr (fun x hx q=>h (q▸hx))
  have ih:=nu l (bR g t) (fun x hx=>hl x (by simp[hx])) (fun x hx=>by
   rcases(hm x).1 hx with rfl|h
   ·exact ht
   ·exact hg x h) hr2
  rw[List.foldl_cons];refine⟨ih.1,fun x=>?_⟩;rw[ih.2 x,hm x,List.mem_cons];constructor
  ·rintro((h|h)|h)
   ·exact .inr (.inl h)
   ·exact .inl h
   ·exact .inr (.inr h)
  ·rintro(h|h|h)
   ·exact .inl (.inr h)
   ·exact .inl (.inl h)
   ·exact .inr h
theorem ma(l:List ae):bJ (dd (bu ab l))∧(∀x,x∈dd (bu ab l)↔x∈l):=by
 have e: ∀a b,ltOf ab a b=aM a b:=fun a b=>by
  unfold ltOf;rw[bM,Bool.eq_iff_iff,decide_eq_true_iff];exact bW a b
 have hp:(bu ab l).Perm l:=List.mergeSort_perm _ _;have hs:(bu ab l).Pairwise (fun a b=>aM b a=false):=by
  have:=List.pairwise_mergeSort (le:=fun x y=>!(ltOf ab) y x) (fun a b c h1 h2=>by
   simp only[e,Bool.not_eq_true']at*;rcases jc c a with h|h|h
   ·rcases jc b a with g|g|g
    ·rw[g]at h1;cases h1
    ·subst g;rw[h]at h2;cases h2
    ·have:=dx c a b h g;rw[this]at h2;cases h2
   ·subst h;exact cu c
   ·exact eb h) (fun a b=>by
   simp only[e,Bool.or_eq_true,Bool.not_eq_true'];rcases jc a b with h|h|h
   ·exact .inl (eb h)
   ·subst h;exact .inl (cu a)
   ·exact .inr (eb h)) l
  exact this.imp fun{a b} h=>by simpa only[e,Bool.not_eq_true']using h
 refine⟨yi aM vX dx _ hs,fun x=>by rw[G7];exact hp.mem_iff⟩
theorem qX{g l:List ae}(hg: ∀x∈g,eQ x)(hl: ∀x∈l,eQ x)(hr:bJ g):dd (bu ab (g++l))=l.foldl bR g:=by
 have h1:=ma (g++l);have h2:=nu l g hl hg hr;refine pL aM (fun a b h=>eb h) h1.1 h2.1 fun x=>?_;rw[h1.2 x,h2.2 x,List.mem_append]
theorem uo{s:aC}(hs:iC s){l:List ae}(hl: ∀t∈l,fM t):fF s l=cz s l:=by
 have hct:(ba l fun(t:ae)=>br t)=!aQ l:=by rw[cT];exact hU hl br (fun _=>rfl)
 unfold fF cz;rw[j8 hs,hct];by_cases c1:cK s=0
 ·rw[if_pos c1,if_pos c1];have ok:=um (s:=s) (by rw[j8 hs];exact c1);split
  ·rfl
  ·by_cases c2:aQ l=true
   ·rw[if_neg (by simp[c2]),if_pos c2];rw[cF l (fun acc x=>bR acc x) (gW s l) (fun _ _ _ _=>rfl)];have hd:dd (bu (fun(t t':ae)=>ab t t') (s.gone++l))=l.foldl bR s.gone:=qX (fun x hx=>(hs.gone x hx).seq) (fun x hx=>(hl x hx).seq) ok.rg;have hgf:=nu l s.gone (fun x hx=>(hl x hx).seq) (fun x hx=>(hs.gone x hx).seq) ok.rg;rw[hd];dsimp only;split
    ·rfl
    ·rw[cF s.adds (fun acc x=>if(!aX l x.tag)=true then acc++ [x]else acc) (fe s l (l.foldl bR s.gone)) (fun fuel b i _=>by
      rw[fe];by_cases h:aX l (ix s.adds i).tag=true<;>simp[h])]
     simp only[dA (fun x:aT=>!aX l x.tag) (fun x:aT=>x),List.nil_append,List.map_id'];refine congrArg (fun x=>((⟨x,l.foldl bR s.gone⟩:aC),(0:Int))) ?_;apply List.filter_congr;intro a ha;congr 1;show(cY (l.foldl bR s.gone) a.tag ab).2=_
     rw[pH hgf.1,fH];apply decide_eq_decide.2;rw[hgf.2];constructor
     ·rintro(h|h)
      ·exact absurd h (ok.dj a ha)
      ·exact h
     ·exact .inr
   ·rw[if_pos (by simp[c2]),if_neg c2]
 ·rw[if_neg c1,if_neg c1]
structure Jn(s:aD):Prop where
 lp:s.puts.length≤4096
 lg:s.gone.length≤4096
 rt:s.gone.any br=false
 rp:bJ (s.puts.map (·.tag))
 rg:bJ s.gone
 dj: ∀a∈s.puts,a.tag∉s.gone
theorem uq{s:aD}(h:d7 s=0):Jn s:=by
 unfold d7 at h;split at h
 ·cases h
 rename_i c1;split at h
 ·cases h
 rename_i c2;split at h
 ·cases h
 rename_i c3;rw[cT,cT]at c2;rw[nr,nq,nq,dy,dy]at c3;have r1:bJ (s.puts.map (·.tag)):=Classical.byContradiction fun q=>c3 (.inl q);have r2:bJ s.gone:=Classical.byContradiction fun q=>c3 (.inr q);obtain⟨q5,l5⟩:=cN s.puts (fun p=>gI p&&!decide (p.tag∈s.gone)) 3 (fG s) (fun fuel i _=>by
  rw[fG,sy r2];split
  ·by_cases x1:gI (ix s.puts i)=true<;>by_cases x2:(ix s.puts i).tag∈s.gone<;>simp[x1,x2]
  ·rfl)
 rw[l5]at h;refine⟨by omega,by omega,?_,r1,r2,fun a ha hm=>?_⟩
 ·have: ¬s.gone.any bG=true:=fun q=>c2 (.inr q);have e:bG=br:=rfl;rw[e]at this;simpa using this
 ·by_cases q:s.puts.all (fun p=>gI p&&!decide (p.tag∈s.gone))=true
  ·have:=List.all_eq_true.1 q a ha;simp[hm]at this
  ·rw[if_neg q]at h;cases h
theorem vY{l:List ae}(h:bJ l)(t:ae):cY l t ab=(((l.takeWhile (fun a=>aM a t)).length:Int),decide (t∈l)):=by
 obtain⟨q,e,h0,h1,h2,h3⟩:=ns h t;rw[e];congr 1;have:=ER (fun a=>aM a t) l q.toNat (fun k hk hkl=>by
  have:=h2 k (by omega) (by omega);rw[ed l hkl]at this;exact this) (fun k hk hkl=>by
  have:=h3 k (by omega) (by omega);rw[ed l hkl]at this;exact this) (by omega)
 rw[this];omega
theorem G6{α β:Type}(f:α→β)(p:β→Bool)(l:List α):((l.map f).takeWhile p).length=(l.takeWhile (fun x=>p (f x))).length:=by
 rw[List.takeWhile_map,List.length_map];rfl
theorem qY(s:aD)(p:bI)(hw: ∀a∈s.puts,eQ a.tag)(hp:eQ p.tag): ∀(fuel:Nat) (acc:List bI) (i:Int),0≤i→i≤s.puts.length→(∀x∈s.puts.drop i.toNat,¬x.tag=p.tag)→((s.puts.length:Int)- i).toNat<fuel→
  du s p fuel true i acc= .inr (true,(s.puts.length:Int),acc++s.puts.drop i.toNat)
 |0,acc,i,_,_,_,h=>by omega
 |fuel+1,acc,i,h0,h1,hn,h=>by
  rw[du];split
  ·rename_i hlt;have hm:=cG s.puts h0 hlt;rw[iU s.puts h0 hlt]at hn⊢;have hne: ¬(ix s.puts i).tag=p.tag:=hn _ (by simp);rw[if_neg (by rw[bE (hw _ hm) hp,gz];exact hne),if_neg (by simp)];rw[qY s p hw hp fuel _ (i+1) (by omega) (by omega) (fun x hx=>hn x (by simp[hx])) (by omega)];simp
  ·have:i=s.puts.length:=by omega
   subst this;rw[List.drop_of_length_le (by omega)];simp
theorem pJ(s:aD)(p:bI)(hw: ∀a∈s.puts,eQ a.tag)(hp:eQ p.tag)(hr:bJ (s.puts.map (·.tag))): ∀(fuel:Nat) (acc:List bI) (i:Int),0≤i→i≤s.puts.length→((s.puts.length:Int)- i).toNat<fuel→
  du s p fuel false i acc=if p.tag∈(s.puts.drop i.toNat).map (·.tag)then .inl (s,0)else if(s.puts.drop i.toNat).dropWhile (fun x=>aM x.tag p.tag)= []then .inr (false,(s.puts.length:Int),acc++s.puts.drop i.toNat)else .inr (true,(s.puts.length:Int),acc++((s.puts.drop i.toNat).takeWhile (fun x=>aM x.tag p.tag)++ [p]++(s.puts.drop i.toNat).dropWhile (fun x=>aM x.tag p.tag)))
 |0,acc,i,_,_,h=>by omega
 |fuel+1,acc,i,h0,h1,h=>by
  rw[du];split
  ·rename_i hlt;have hm:=cG s.puts h0 hlt;have hr2:bJ ((s.puts.drop i.toNat).map (·.tag)):=by
    unfold bJ at hr⊢;exact hr.sublist ((List.drop_sublist _ _).map _)
   rw[iU s.puts h0 hlt]at hr2⊢;unfold bJ at hr2;rw[List.map_cons,List.pairwise_cons]at hr2;rw[bE (hw _ hm) hp];have hc1:((0:Int)<jx (ix s.puts i).tag p.tag∧ ¬(false=true))↔aM p.tag (ix s.puts i).tag=true:=by
    have h3:=bW (ix s.puts i).tag p.tag;have h4:=gz (ix s.puts i).tag p.tag;rcases jc (ix s.puts i).tag p.tag with g|g|g
    ·have:=h3.2 g;rw[eb g];simp;omega
    ·have:=h4.2 g;rw[g,cu]at*;simp;omega
    ·have g1: ¬jx (ix s.puts i).tag p.tag<0:=fun q=>by have:=h3.1 q;rw[eb g]at this;cases this
     have g2: ¬jx (ix s.puts i).tag p.tag=0:=fun q=>by have:=h4.1 q;rw[this,cu]at g;cases g
     simp[g];omega
   by_cases e1:(ix s.puts i).tag=p.tag
   ·rw[if_pos ((gz _ _).2 e1),if_pos (by simp[e1])]
   ·rw[if_neg (fun q=>e1 ((gz _ _).1 q))];by_cases e2:aM p.tag (ix s.puts i).tag=true
    ·rw[if_pos (hc1.2 e2)];have hrest: ∀x∈s.puts.drop (i+1).toNat,¬x.tag=p.tag:=fun x hx q=>by
      have h5:=hr2.1 x.tag (List.mem_map_of_mem hx);rw[q]at h5;have:=dx _ _ _ e2 h5;rw[cu]at this;cases this
     have e3:aM (ix s.puts i).tag p.tag=false:=eb e2;rw[qY s p hw hp fuel _ (i+1) (by omega) (by omega) hrest (by omega)];rw[if_neg (by
      rw[List.map_cons,List.mem_cons];rintro(q|q)
      ·exact e1 q.symm
      ·obtain⟨x,hx,hxe⟩:=List.mem_map.1 q;exact hrest x hx hxe)]
     rw[List.dropWhile_cons,List.takeWhile_cons,e3];simp
    ·rw[if_neg (fun q=>e2 (hc1.1 q))];have e3:aM (ix s.puts i).tag p.tag=true:=by
      rcases jc (ix s.puts i).tag p.tag with g|g|g
      ·exact g
      ·exact absurd g e1
      ·exact absurd g e2
     rw[pJ s p hw hp hr fuel _ (i+1) (by omega) (by omega) (by omega)];rw[List.dropWhile_cons,List.takeWhile_cons,if_pos e3,if_pos e3,List.map_cons];have:(p.tag∈(ix s.puts i).tag::(s.puts.drop (i+1).toNat).map (·.tag))↔(p.tag∈(s.puts.drop (i+1).toNat).map (·.tag)):=by
      rw[List.mem_cons];exact⟨fun q=>q.elim (fun q=>absurd q.symm e1) id,.inr⟩
     simp only[this];simp
  ·have:i=s.puts.length:=by omega
   subst this;rw[List.drop_of_length_le (by omega)];simp
theorem yd{s:aD}(hs:iE s){p:bI}(ha:fM p.tag):eI s p=dU s p:=by
 have hmo:fP s=(s.puts,s.gone):=rfl;have hnt:bG p.tag=true↔ ¬ay p.tag=0:=mz ha;unfold eI dU;rw[j9 hs,qW,hmo];by_cases c1:cM s=0
 ·rw[if_pos c1,if_pos c1];have ok:=uq (s:=s) (by rw[j9 hs];exact c1);by_cases c2:ay p.tag=0
  ·rw[if_pos c2,if_neg (by rw[hnt];simp[c2])];by_cases c3:cL p=true
   ·have hb:(cY (ep s.puts) p.tag fun(t t':ae)=>ab t t')=(((s.puts.takeWhile (fun x=>aM x.tag p.tag)).length:Int),decide (p.tag∈s.puts.map (·.tag))):=by
     rw[nr];have:=vY ok.rp p.tag;rw[G6]at this;exact this
    rw[if_pos c3,if_pos c3,hb,fH,sy ok.rg];simp only[decide_eq_true_eq];have hl:=pJ s p (fun a h=>(hs.puts a h).seq) ha.seq ok.rp (((s.puts.length:Int)-(0:Int)).toNat+1) [] 0 (by omega) (by omega) (by omega);simp only[Int.toNat_zero,List.drop_zero,List.nil_append]at hl;rw[hl];by_cases c5:p.tag∈s.gone
    ·rw[if_pos (.inr c5),if_pos c5]
    ·rw[if_neg c5];by_cases c4:p.tag∈s.puts.map (·.tag)
     ·rw[if_pos (.inl c4),if_pos c4]
     ·rw[if_neg (fun h=>h.elim c4 c5),if_neg c4];have e:=List.takeWhile_append_dropWhile (p:=fun x:bI=>aM x.tag p.tag) (l:=s.puts);have hlen:=congrArg List.length e;rw[List.length_append]at hlen;have hins:gQ s.puts ((s.puts.takeWhile (fun x=>aM x.tag p.tag)).length:Int) [p]=s.puts.takeWhile (fun x=>aM x.tag p.tag)++ [p]++s.puts.dropWhile (fun x=>aM x.tag p.tag):=by
       unfold gQ;rw[Int.toNat_natCast,sB,oS]
      simp only[hins];have hlp:=ok.lp;by_cases c6:s.puts.dropWhile (fun x=>aM x.tag p.tag)= []
      ·rw[if_pos c6,c6];rw[c6,List.append_nil]at e;simp only[Bool.false_eq_true,if_false,List.append_nil,e,List.length_append,List.length_singleton];by_cases c7:(s.puts.length:Int)=4096
       ·rw[if_pos c7,if_pos (by omega)]
       ·rw[if_neg c7,if_neg (by omega)]
      ·rw[if_neg c6];simp only[if_true,List.length_append,List.length_singleton];by_cases c7:(s.puts.length:Int)=4096
       ·rw[if_pos c7,if_pos (by omega)]
       ·rw[if_neg c7,if_neg (by omega)]
   ·rw[if_neg c3,if_neg c3]
  ·rw[if_neg c2,if_pos (hnt.2 c2)]
 ·rw[if_neg c1,if_neg c1]
theorem Ap{s:aD}(hs:iE s){l:List ae}(hl: ∀t∈l,fM t):gc s l=eJ s l:=by
 unfold gc eJ;rw[j9 hs];by_cases c1:cM s=0
 ·rw[if_pos c1,if_pos c1];have ok:=uq (s:=s) (by rw[j9 hs];exact c1);have hz:dF ⟨[],s.gone⟩=0:=by
   have hlg:=ok.lg;unfold dF;rw[if_neg (by simp;omega),if_neg (by rw[fq,cT];rintro(h|h);(· cases h);(· have:=ok.rt;rw[show s.gone.any (fun t=>br t)=s.gone.any br from rfl,this]at h;cases h)),if_neg (by
    rintro(h|h)
    ·exact h ⟨(jY []).2 List.Pairwise.nil,(dy s.gone).2 ok.rg⟩
    ·rw[fq]at h;cases h)]
  rw[←uo (s:=⟨[],s.gone⟩) ⟨by simp,hs.gone⟩ hl];have hd:dd (bu (fun(t t':ae)=>ab t t') (s.gone++l))=l.foldl bR s.gone:=qX (fun x hx=>(hs.gone x hx).seq) (fun x hx=>(hl x hx).seq) ok.rg;have hgf:=nu l s.gone (fun x hx=>(hl x hx).seq) (fun x hx=>(hs.gone x hx).seq) ok.rg;unfold fF;rw[if_pos hz];have en:(ba l fun(t:ae)=>bG t)=(ba l fun(t:ae)=>br t):=rfl;rw[en];by_cases c2:4096<(l.length:Int)
  ·simp only[c2,if_true];simp
  ·simp only[c2,if_false];by_cases c3:(ba l fun(t:ae)=>br t)=true
   ·simp only[c3,if_true];simp
   ·simp only[c3,if_false];by_cases c4:4096<((dd (bu (fun(t t':ae)=>ab t t') (s.gone++l))).length:Int)
    ·simp only[c4,if_true];simp
    ·simp only[c4,if_false,if_true];rw[cF s.puts (fun acc x=>if(!aX l x.tag)=true then acc++ [x]else acc) (ff s l) (fun fuel b i _=>by
      rw[ff];by_cases h:aX l (ix s.puts i).tag=true<;>simp[h])]
     simp only[dA (fun x:bI=>!aX l x.tag) (fun x:bI=>x),List.nil_append,List.map_id'];refine congrArg (fun x=>((⟨x,dd (bu (fun(t t':ae)=>ab t t') (s.gone++l))⟩:aD),(0:Int))) ?_;apply List.filter_congr;intro a ha;congr 1;show mu (dd (bu (fun(t t':ae)=>ab t t') (s.gone++l))) a.tag=_
     rw[hd,sy hgf.1,fH];apply decide_eq_decide.2;rw[hgf.2];constructor
     ·rintro(h|h)
      ·exact absurd h (ok.dj a ha)
      ·exact h
     ·exact .inr
 ·rw[if_neg c1,if_neg c1]
theorem nv(vv:List Int){id:kW}(h:0≤id.seq):dG vv id=cc vv id:=by
 unfold dG cc;have:fV id=0↔d6 id=0:=by
  rw[qV];unfold fV;simp only[or_assoc];by_cases c:(id.origin<0)∨(7<id.origin)∨(id.seq<1)∨(1048576<id.seq)
  ·rw[if_pos c,if_pos (by omega)]
  ·rw[if_neg c,if_neg (by omega)]
 simp only[this]
theorem ur{s:aC}(hs:iC s)(vv:List Int):db s vv=cP s vv:=by
 unfold db cP;rw[j8 hs];split
 ·rw[cF s.gone (fun acc x=>if(!cc vv x.id)=true then acc++ [x]else acc) (dt s vv) (fun fuel b i _=>by
   rw[dt];by_cases h:cc vv (ix s.gone i).id=true<;>simp[h])]
  simp only[dA (fun x:ae=>!cc vv x.id) (fun x:ae=>x),List.nil_append,List.map_id'];refine congrArg (fun x=>((⟨s.adds,x⟩:aC),(0:Int))) ?_;apply List.filter_congr;intro a ha;congr 1;exact nv vv (hs.gone a ha).1
 ·rfl
theorem ut{s:aD}(hs:iE s)(vv:List Int):de s vv=cQ s vv:=by
 unfold de cQ;rw[j9 hs];split
 ·rw[cF s.gone (fun acc x=>if(!cc vv x.id)=true then acc++ [x]else acc) (dv s vv) (fun fuel b i _=>by
   rw[dv];by_cases h:cc vv (ix s.gone i).id=true<;>simp[h])]
  simp only[dA (fun x:ae=>!cc vv x.id) (fun x:ae=>x),List.nil_append,List.map_id'];refine congrArg (fun x=>((⟨s.puts,x⟩:aD),(0:Int))) ?_;show List.filter _ s.gone=_
  apply List.filter_congr;intro a ha;congr 1;exact nv vv (hs.gone a ha).1
 ·rfl
theorem ye{a b:au}(h1:a.time=b.time)(h2:a.origin=b.origin):a=b:=by
 obtain⟨a1,a2⟩:=a;obtain⟨b1,b2⟩:=b;simp only at h1 h2;subst h1;subst h2;rfl
theorem uu(a b:au):jm a b=ea a b:=by
 unfold jm ea;rw[n7,sx,nc];by_cases h1:a.time<b.time
 ·simp[h1]
 ·by_cases h2:b.time<a.time
  ·have hne: ¬a=b:=fun e=>by subst e;omega
   have: ¬a.time=b.time:=by omega
   simp[h1,h2,hne,this]
  ·have e1:a.time=b.time:=by omega
   by_cases h3:a.origin<b.origin
   ·simp[h1,h2,h3,e1]
   ·by_cases h4:b.origin<a.origin
    ·have hne: ¬a=b:=fun e=>by subst e;omega
     simp[h1,h2,h3,h4,e1,hne]
    ·have e:a=b:=ye e1 (by omega);subst e;simp
theorem Df(x y:Int):pC x y=if x<y then -1 else if y<x then 1 else 0:=by unfold pC nY;simp
theorem yf(a b:bi):lD a b=jn a b:=by
 unfold lD jn;rw[n7,uu,Df];by_cases h0:ea a.at_ b.at_=0
 ·rw[if_pos h0];by_cases h1:a.val<b.val
  ·simp[h0,h1];try (intro;omega)
  ·by_cases h2:b.val<a.val
   ·simp[h0,h1,h2]<;>omega
   ·simp[h0,h1,h2]<;>omega
 ·rw[if_neg h0];by_cases h1:ea a.at_ b.at_<0
  ·rw[if_pos h1,if_neg (by simp[h0];omega)]
  ·rw[if_neg h1,if_pos (by simp[h0];omega)]
theorem pK(s:au):cx s=0∨cx s=2:=by unfold cx;split<;>simp
theorem Dg(a b:Int):j4 [a,b]=if a=0 then b else a:=by
 unfold j4;rw[show(((([a,b]:List Int).length:Int)-(0:Int)).toNat+1)=3 from rfl];simp only[i6,ix,List.length_cons,List.length_nil];by_cases ha:a=0<;>by_cases hb:b=0<;>simp[ha,hb]
theorem yg(s:bi)(x:Int)(at_:au):iv s x at_=fb s x at_:=by
 unfold iv fb;rw[Dg,lU,lU,yf];rcases pK s.at_ with h1|h1
 ·rcases pK at_ with h2|h2
  ·by_cases h3:at_.time=0
   ·simp[h1,h2,h3]
   ·simp[h1,h2,h3]
  ·simp[h1,h2]
 ·simp[h1]
theorem jy(s:be):da s=if 0≤s.plus∧s.plus≤1125899906842624∧0≤s.minus∧s.minus≤1125899906842624 then 0 else 2:=by
 unfold da;by_cases h:0≤s.plus∧s.plus≤1125899906842624∧0≤s.minus∧s.minus≤1125899906842624
 ·rw[if_pos h,if_neg (by omega)]
 ·rw[if_neg h,if_pos (by omega)]
theorem Aq(s:be):jp s=if 0≤s.plus∧s.plus≤1125899906842624∧0≤s.minus∧s.minus≤1125899906842624 then 0 else 2:=by
 unfold jp;obtain⟨q,h⟩:=cN [s.plus,s.minus] (fun x=>decide (0≤x∧x≤1125899906842624)) 2 (gZ s) (fun fuel i _=>by
  rw[gZ];show(if i<2 then _ else _)=(if i<2 then _ else _)
  split
  ·by_cases x:ix [s.plus,s.minus] i<0∨1125899906842624<ix [s.plus,s.minus] i
   ·rw[if_pos x,if_neg (by simp;omega)]
   ·rw[if_neg x,if_pos (by simp;omega)]
  ·rfl)
 rw[show(((2:Int)-(0:Int)).toNat+1)=((([s.plus,s.minus].length:Int))-(0:Int)).toNat+1 from rfl,h];by_cases hb:0≤s.plus∧s.plus≤1125899906842624∧0≤s.minus∧s.minus≤1125899906842624
 ·rw[if_pos hb,if_pos (by simp;omega)]
 ·rw[if_neg hb,if_neg (by simp;omega)]
theorem Ar(s:be):jp s=da s:=by rw[Aq,jy]
theorem qZ(lo hi:Int)(l:List Int):ja lo hi l=l.all (fun x=>decide (lo≤x∧x≤hi)):=by
 unfold ja;obtain⟨q,h⟩:=cN l (fun x=>decide (lo≤x∧x≤hi)) false (go lo hi l) (fun fuel i _=>by
  rw[go];split
  ·by_cases x:ix l i<lo∨hi<ix l i
   ·rw[if_pos x,if_neg (by simp;omega)]
   ·rw[if_neg x,if_pos (by simp;omega)]
  ·rfl)
 rw[h];by_cases e:l.all (fun x=>decide (lo≤x∧x≤hi))=true
 ·rw[if_pos e,e]
 ·rw[if_neg e];simp only;symm;simpa using e
theorem xn{a b:Int}(h: -1125899906842624≤a∧a≤1125899906842624∧ -1125899906842624≤b∧b≤1125899906842624):gH a b=if -1125899906842624≤a+b∧a+b≤1125899906842624 then(a+b,0)else(0,12):=by
 unfold gH;rw[qZ,qZ,df (by omega),if_pos (by simp;omega)];by_cases e: -1125899906842624≤a+b∧a+b≤1125899906842624
 ·rw[if_pos e,if_pos (by simp;omega)]
 ·rw[if_neg e,if_neg (by simp;omega)]
theorem yh(s:be)(d:Int):iw s d=fc s d:=by
 unfold iw fc;rw[Ar];by_cases c0:da s=0
 ·rw[if_pos c0];have hz:=c0;rw[jy]at hz;have hb:0≤s.plus∧s.plus≤1125899906842624∧0≤s.minus∧s.minus≤1125899906842624:=by
   by_cases h:0≤s.plus∧s.plus≤1125899906842624∧0≤s.minus∧s.minus≤1125899906842624
   ·exact h
   ·rw[if_neg h]at hz;cases hz
  by_cases c1:d<(-1073741824)∨1073741824<d
  ·rw[if_pos c1,if_pos (show(¬da s=0∨d< -1073741824)∨1073741824<d by omega)]
  ·rw[if_neg c1,if_neg (show ¬((¬da s=0∨d< -1073741824)∨1073741824<d)by omega),df (by omega),df (by omega)];by_cases c3:d<0
   ·rw[if_pos c3,if_neg (show ¬(0:Int)≤d by omega),xn (by omega),jy,show s.minus+ -d=s.minus - d by omega];simp only;by_cases c4:s.minus - d≤1125899906842624
    ·rw[if_pos (show(-1125899906842624:Int)≤s.minus - d∧s.minus - d≤1125899906842624 by omega),if_pos (show 0≤s.plus∧s.plus≤1125899906842624∧0≤s.minus - d∧s.minus - d≤1125899906842624 by omega)];simp
    ·rw[if_neg (show ¬((-1125899906842624:Int)≤s.minus - d∧s.minus - d≤1125899906842624)by omega),if_neg (show ¬(0≤s.plus∧s.plus≤1125899906842624∧0≤s.minus - d∧s.minus - d≤1125899906842624)by omega)];simp
   ·rw[if_neg c3,if_pos (show(0:Int)≤d by omega),xn (by omega),jy];simp only;by_cases c4:s.plus+d≤1125899906842624
    ·rw[if_pos (show(-1125899906842624:Int)≤s.plus+d∧s.plus+d≤1125899906842624 by omega),if_pos (show 0≤s.plus+d∧s.plus+d≤1125899906842624∧0≤s.minus∧s.minus≤1125899906842624 by omega)];simp
    ·rw[if_neg (show ¬((-1125899906842624:Int)≤s.plus+d∧s.plus+d≤1125899906842624)by omega),if_neg (show ¬(0≤s.plus+d∧s.plus+d≤1125899906842624∧0≤s.minus∧s.minus≤1125899906842624)by omega)];simp
 ·rw[if_neg c0,if_pos (.inl (.inl c0))];have:da s=2:=by rw[jy]at*;split at c0<;>simp_all
  rw[this]
end Go.Proofs.YtiliglahlfkikaaGreatDoor.V
end

section
set_option linter.unusedVariables false
set_option linter.unusedSimpArgs false
set_option maxRecDepth 20000
set_option maxHeartbeats 4000000
namespace Go.Proofs.YtiliglahlfkikaaGreatDoor.V
open Go.RowKit
def ni(s:bi):bi:=
 bi.mk s.val s.at_
def QE:bf U:=⟨[.d (.st 5)],fun xs es K=> ∃(s:bi),xs= [(yO s)]∧es= []∧K (.v (yO (ni s))) []⟩
theorem QF:Fk 52 QE:=by
 refine fo Tryz.f52 [.d (.st 5)] [] (ah) fun xs es K=>?_;rintro⟨s,rfl,rfl,h⟩;refine⟨rfl,?_⟩;have hf0:=ni.eq_1 s;exact e0
def nj(s:be):be:=
 be.mk s.plus s.minus
def QG:bf U:=⟨[.d (.st 6)],fun xs es K=> ∃(s:be),xs= [(FB s)]∧es= []∧K (.v (FB (nj s))) []⟩
theorem QH:Fk 53 QG:=by
 refine fo Tryz.f53 [.d (.st 6)] [] (ah) fun xs es K=>?_;rintro⟨s,rfl,rfl,h⟩;refine⟨rfl,?_⟩;have hf0:=nj.eq_1 s;exact e0
def g7(s:aC):Nat→Int→(List aT)→aC⊕(Int×(List aT))
 |0,s4,e3=> .inr (s4,e3)
 |n1+1,s4,e3=>
  if s4<(s.adds.length:Int)then
   g7 s n1 (s4+1) (e3++ [aT.mk (ix s.adds s4).tag (ix s.adds s4).elem])
  else
   .inr (s4,e3)
def lF(s:aC):aC:=
 match g7 s (((s.adds.length:Int)- 0).toNat+1) 0 ([]:List aT)with
 | .inl r=>r
 | .inr (s4,e3)=>
  aC.mk e3 s.gone
def QI:bf U:=⟨[.d (.st 8)],fun xs es K=> ∃(s:aC),xs= [(rx s)]∧es= []∧(s.adds.length≤1000000)∧(s.gone.length≤1000000)∧K (.v (rx (lF s))) []⟩
theorem QJ:Fk 54 QI:=by
 refine fo Tryz.f54 [.d (.st 8)] [] (ah) fun xs es K=>?_;rintro⟨s,rfl,rfl,h1,h2,h⟩;refine⟨rfl,?_⟩;have hf0:=lF.eq_1 s;refine lI (σ:=Int×(List aT)) 4 (fun(s4,e3)=> [(1,.v (vp 0)),(2,.v (vp 1)),(3,.v (vp 2)),(4,.v (vi s4))]) (fun(s4,e3)=> [(0,.cells [(2,.d (.st 8) s)] 56),(1,.cells [(1,.nils),(1,.nils)] 70),(2,.cells [(1,.own 3 0),(1,.nils)] 70),(3,.row 0 (.st 7) e3 178)]) (fun(s4,e3)=>((s.adds.length:Int)- s4).toNat) (fun(s4,e3)=>(0≤s4)∧(s4≤(s.adds.length:Int))∧((e3.length:Int)≤s4)∧True) (fun n1 (s4,e3)=>g7 s n1 s4 e3) (g7 s (((s.adds.length:Int)- 0).toNat+1) 0 ([]:List aT)) [] ((0:Int),([]:List aT)) ?_;rintro⟨s4,e3⟩ ⟨n1,hc1,⟨hi1_0,hi1_1,hi1_2,-⟩,hf1⟩;have hf1:=hf1.trans (g7.eq_2 s s4 e3 n1);refine fl (x:=s.adds.length) fun _=>?_;refine wI hf1 (fun h1 hf1=>?_) fun h1 hf1=>?_
 ·refine dp [(true,0),(true,1),(true,2),(true,3),(true,4),(true,5),(true,6),(true,7),(true,8),(true,9),(true,10),(true,11),(true,12),(true,13),(true,14),(false,15),(false,16),(true,17)] (some 18) (nw 3) ?_;refine vx s4 s.adds ?_;refine vx s4 s.adds ?_;refine vs (P:=(e3.length+ [aT.mk (ix s.adds s4).tag (ix s.adds s4).elem].length)*(40:Nat)≤(140737488355328:Nat)) ?_;refine bY ?_;exact nx (s:=(s4,e3)) [] (s4+1,e3++ [aT.mk (ix s.adds s4).tag (ix s.adds s4).elem]) hc1 hf1
 ·rw[hf1]at hf0;refine vs (P:=s.gone.length*(24:Nat)≤(140737488355328:Nat)) ?_;exact e0
def g8(s:aD):Nat→Int→(List bI)→aD⊕(Int×(List bI))
 |0,s4,e3=> .inr (s4,e3)
 |n1+1,s4,e3=>
  if s4<(s.puts.length:Int)then
   g8 s n1 (s4+1) (e3++ [bI.mk (ix s.puts s4).tag (ix s.puts s4).field (ix s.puts s4).val (ix s.puts s4).at_])
  else
   .inr (s4,e3)
def lG(s:aD):aD:=
 match g8 s (((s.puts.length:Int)- 0).toNat+1) 0 ([]:List bI)with
 | .inl r=>r
 | .inr (s4,e3)=>
  aD.mk e3 s.gone
def QL:bf U:=⟨[.d (.st 9)],fun xs es K=> ∃(s:aD),xs= [(ry s)]∧es= []∧(s.puts.length≤1000000)∧(s.gone.length≤1000000)∧K (.v (ry (lG s))) []⟩
theorem QM:Fk 55 QL:=by
 refine fo Tryz.f55 [.d (.st 9)] [] (ah) fun xs es K=>?_;rintro⟨s,rfl,rfl,h1,h2,h⟩;refine⟨rfl,?_⟩;have hf0:=lG.eq_1 s;refine lI (σ:=Int×(List bI)) 4 (fun(s4,e3)=> [(1,.v (vp 0)),(2,.v (vp 1)),(3,.v (vp 2)),(4,.v (vi s4))]) (fun(s4,e3)=> [(0,.cells [(2,.d (.st 9) s)] 59),(1,.cells [(1,.nils),(1,.nils)] 73),(2,.cells [(1,.own 3 0),(1,.nils)] 73),(3,.row 0 (.st 4) e3 182)]) (fun(s4,e3)=>((s.puts.length:Int)- s4).toNat) (fun(s4,e3)=>(0≤s4)∧(s4≤(s.puts.length:Int))∧((e3.length:Int)≤s4)∧True) (fun n1 (s4,e3)=>g8 s n1 s4 e3) (g8 s (((s.puts.length:Int)- 0).toNat+1) 0 ([]:List bI)) [] ((0:Int),([]:List bI)) ?_;rintro⟨s4,e3⟩ ⟨n1,hc1,⟨hi1_0,hi1_1,hi1_2,-⟩,hf1⟩;have hf1:=hf1.trans (g8.eq_2 s s4 e3 n1);refine fl (x:=s.puts.length) fun _=>?_;refine wI hf1 (fun h1 hf1=>?_) fun h1 hf1=>?_
 ·refine vx s4 s.puts ?_;refine vs (P:=(e3.length+ [bI.mk (ix s.puts s4).tag (ix s.puts s4).field (ix s.puts s4).val (ix s.puts s4).at_].length)*(64:Nat)≤(140737488355328:Nat)) ?_;refine bY ?_;exact nx (s:=(s4,e3)) [] (s4+1,e3++ [bI.mk (ix s.puts s4).tag (ix s.puts s4).field (ix s.puts s4).val (ix s.puts s4).at_]) hc1 hf1
 ·rw[hf1]at hf0;refine vs (P:=s.gone.length*(24:Nat)≤(140737488355328:Nat)) ?_;exact e0
def n8(s:aC):Bool:=
 decide (200<(s.adds.length:Int))||decide (200<(s.gone.length:Int))
def QN:bf U:=⟨[.d (.st 8)],fun xs es K=> ∃(s:aC),xs= [(rx s)]∧es= []∧K (.v (vb (n8 s))) []⟩
theorem QO:Fk 60 QN:=by
 refine fo Tryz.f60 [.d .bool] [] (ah) fun xs es K=>?_;rintro⟨s,rfl,rfl,h⟩;refine⟨rfl,?_⟩;have hf0:=n8.eq_1 s;refine fl (x:=s.adds.length) fun _=>?_;exact e0
def n9(s:aD):Bool:=
 decide (100<(s.puts.length:Int))||decide (200<(s.gone.length:Int))
def QP:bf U:=⟨[.d (.st 9)],fun xs es K=> ∃(s:aD),xs= [(ry s)]∧es= []∧K (.v (vb (n9 s))) []⟩
theorem QQ:Fk 61 QP:=by
 refine fo Tryz.f61 [.d .bool] [] (ah) fun xs es K=>?_;rintro⟨s,rfl,rfl,h⟩;refine⟨rfl,?_⟩;have hf0:=n9.eq_1 s;refine fl (x:=s.puts.length) fun _=>?_;exact e0
def ao(e:af):af:=
 af.mk e.act e.name e.val e.tag e.at_ e.tags
def QR:bf U:=⟨[.d (.st 3)],fun xs es K=> ∃(e:af),xs= [(BG e)]∧es= []∧(e.tags.length≤1000000)∧K (.v (BG (ao e))) []⟩
theorem xm:Fk 10 QR:=by
 refine fo Tryz.f10 [.d (.st 3)] [] (ah) fun xs es K=>?_;rintro⟨e,rfl,rfl,h1,h⟩;refine⟨rfl,?_⟩;have hf0:=ao.eq_1 e;refine dp [(true,0),(true,1),(true,2),(true,3),(true,4),(true,5),(true,6),(true,7),(true,8),(true,9),(true,11),(true,12),(false,10),(false,13),(true,14)] (some 15) (nw 2) ?_;refine vs (P:=((0:Nat)+e.tags.length)*(24:Nat)≤(140737488355328:Nat)) ?_;exact e0
def gK(v:iJ):Nat→Int→(List d8)→iJ⊕(Int×(List d8))
 |0,s4,e3=> .inr (s4,e3)
 |n1+1,s4,e3=>
  if s4<(v.items.length:Int)then
   gK v n1 (s4+1) (e3++ [d8.mk (ix v.items s4).field (ix v.items s4).val])
  else
   .inr (s4,e3)
def ow(v:iJ):iJ:=
 match gK v (((v.items.length:Int)- 0).toNat+1) 0 ([]:List d8)with
 | .inl r=>r
 | .inr (s4,e3)=>
  iJ.mk v.kind v.val e3
def QS:bf U:=⟨[.d (.st 13)],fun xs es K=> ∃(v:iJ),xs= [(Ey v)]∧es= []∧(v.items.length≤1000000)∧K (.v (Ey (ow v))) []⟩
theorem O1:Fk 29 QS:=by
 refine fo Tryz.f29 [.d (.st 13)] [] (ah) fun xs es K=>?_;rintro⟨v,rfl,rfl,h1,h⟩;refine⟨rfl,?_⟩;have hf0:=ow.eq_1 v;refine⟨Int×(List d8),4,fun(s4,e3)=> [(1,.v ⟨false,[(1,.ptr 0 0)]⟩),(2,.v ⟨false,[(1,.ptr 1 0)]⟩),(3,.v ⟨false,[(1,.ptr 2 0)]⟩),(4,.v ⟨false,[(1,.d (.int .i64) s4)]⟩)],fun(s4,e3)=> [(0,.cells [(3,.d (.st 13) v)] 100),(1,.cells [(1,.d (.int .i64) (0:Int)),(1,.d (.int .i64) (0:Int)),(1,.nils)] 96),(2,.cells [(1,.d (.int .i64) v.kind),(1,.d (.int .i64) v.val),(1,.own 3 0)] 96),(3,.row 0 (.st 12) e3 135)],d5 (fun(s4,e3)=>((↑v.items.length:Int)- s4).toNat) (fun(s4,e3)=>((0:Int)≤s4)∧(s4≤(↑v.items.length:Int))∧((e3.length:Int)≤s4)∧True) (fun n1 (s4,e3)=>gK v n1 s4 e3) (gK v (((↑v.items.length:Int)-(0:Int)).toNat+1) (0:Int) ([]:List d8)),fun(s4,e3)=>((↑v.items.length:Int)- s4).toNat,⟨[],((0:Int),([]:List d8)),d5.mk0 _ (Nat.lt_succ_self _) ⟨show(0:Int)≤(0:Int)from by omega,show(0:Int)≤(↑v.items.length:Int)from by omega,show(↑[].length:Int)≤(0:Int)from by(simp only[List.length_append,List.length_cons,List.length_nil];omega),trivial⟩ rfl,?_⟩,?_⟩
 ·repeat (first|exact trivial|refine And.intro rfl ?_)
 ·rintro⟨s4,e3⟩ ⟨n1,hc1,⟨hi1_0,hi1_1,hi1_2,-⟩,hf1⟩;have hf1:=hf1.trans (gK.eq_2 v s4 e3 n1);refine fun h0=>?_;have h0:(↑v.items.length:Int)≤(9223372036854775807:Int):=h0.2;refine vI hf1 iD (fun h1 hf1=>?_) (fun h1 hf1=>?_)
  ·refine .inl ⟨[(true,0),(true,1),(true,2),(true,3),(true,4),(true,5),(true,6),(true,7),(true,8),(true,9),(true,10),(true,11),(true,12),(true,13),(true,14),(false,15),(false,16),(true,17)],some 18,[3,4,5,6,7,8,9,10,11,12,13,14],by kernel_rfl,?_⟩;refine And.intro (show(0:Int)≤s4∧s4<(↑v.items.length:Int)from by omega) ?_;refine And.intro (show(0:Int)≤s4∧s4<(↑v.items.length:Int)from by omega) ?_;refine And.intro (show(e3.length+ [d8.mk (ix v.items s4).field (ix v.items s4).val].length)*(24:Nat)≤(140737488355328:Nat)from by(simp only[List.length_append,List.length_cons,List.length_nil];omega)) ?_;refine .inl (And.intro (rD (p:=s4) (q:=(1:Int)) (r:=s4+(1:Int)) (by omega)) ?_);have hm1:((↑v.items.length:Int)-(s4+(1:Int))).toNat<((↑v.items.length:Int)- s4).toNat:=by omega
   refine⟨[],(s4+(1:Int),e3++ [d8.mk (ix v.items s4).field (ix v.items s4).val]),hm1,d5.next (s:=(s4,e3)) hc1 hm1 ⟨show(0:Int)≤s4+(1:Int)from by omega,show s4+(1:Int)≤(↑v.items.length:Int)from by omega,show(↑(e3++ [d8.mk (ix v.items s4).field (ix v.items s4).val]).length:Int)≤s4+(1:Int)from by(simp only[List.length_append,List.length_cons,List.length_nil];omega),trivial⟩ hf1,?_⟩;repeat (first|exact trivial|refine And.intro rfl ?_)
  ·rw[hf1]at hf0;rw[hf0]at h;exact h
def fY(s:az):az:=
 az.mk s.kind (ni s.reg) (nj s.num) (lF s.set) (lG s.map)
def QT:bf U:=⟨[.d (.st 10)],fun xs es K=> ∃(s:az),xs= [(ki s)]∧es= []∧(s.set.adds.length≤1000000)∧(s.set.gone.length≤1000000)∧(s.map.puts.length≤1000000)∧(s.map.gone.length≤1000000)∧K (.v (ki (fY s))) []⟩
theorem G2:Fk 16 QT:=by
 refine fo Tryz.f16 [.d (.st 10)] [] (aa QF (aa QH (aa QJ (aa QM ah)))) fun xs es K=>?_;rintro⟨s,rfl,rfl,h1,h2,h3,h4,h⟩;refine⟨rfl,?_⟩;have hf0:=fY.eq_1 s;refine dp [(true,0),(true,1),(true,2),(true,3),(true,5),(true,6),(true,8),(true,9),(true,11),(true,12),(false,4),(false,7),(false,10),(false,13),(true,14)] (some 15) (nw 2) ?_;refine⟨_,rfl,rfl,?_⟩;refine⟨_,rfl,rfl,?_⟩;refine⟨_,rfl,rfl,(by omega),(by omega),?_⟩;refine⟨_,rfl,rfl,(by omega),(by omega),?_⟩;exact e0
def eK(s:az)(e:af):Bool:=
 n8 s.set||n9 s.map||decide (100<(e.tags.length:Int))||decide (1000<(e.name.length:Int))
def QU:bf U:=⟨[.d (.st 10),.d (.st 3)],fun xs es K=> ∃(s:az) (e:af),xs= [(ki s),(BG e)]∧es= []∧K (.v (vb (eK s e))) []⟩
theorem NJ:Fk 25 QU:=by
 refine fo Tryz.f25 [.d .bool] [] (aa QO (aa QQ ah)) fun xs es K=>?_;rintro⟨s,e,rfl,rfl,h⟩;refine⟨rfl,?_⟩;have hf0:=eK.eq_1 s e;refine⟨_,rfl,rfl,?_⟩;refine⟨_,fun _=>⟨_,rfl,rfl,rfl,rfl⟩,rfl,?_⟩;exact e0
def ju(e:af):af:=
 af.mk e.act e.name e.val e.tag e.at_ e.tags
def QV:bf U:=⟨[.d (.st 3)],fun xs es K=> ∃(e:af),xs= [(BG e)]∧es= []∧(e.tags.length≤1000000)∧K (.v (BG (ju e))) []⟩
theorem QW:Fk 38 QV:=by
 refine fo Tryz.f38 [.d (.st 3)] [] (aa Is ah) fun xs es K=>?_;rintro⟨e,rfl,rfl,h1,h⟩;refine⟨rfl,?_⟩;have hf0:=ju.eq_1 e;refine⟨_,rfl,rfl,(by assumption),?_⟩;exact e0
def jv(s:az):az:=
 az.mk s.kind s.reg s.num (aC.mk s.set.adds s.set.gone) (aD.mk s.map.puts s.map.gone)
def QX:bf U:=⟨[.d (.st 10)],fun xs es K=> ∃(s:az),xs= [(ki s)]∧es= []∧(s.set.adds.length≤1000000)∧(s.set.gone.length≤1000000)∧(s.map.puts.length≤1000000)∧(s.map.gone.length≤1000000)∧K (.v (ki (jv s))) []⟩
theorem O2:Fk 47 QX:=by
 refine fo Tryz.f47 [.d (.st 10)] [] (aa Is (aa AC (aa Dl ah))) fun xs es K=>?_;rintro⟨s,rfl,rfl,h1,h2,h3,h4,h⟩;refine⟨rfl,?_⟩;have hf0:=jv.eq_1 s;refine .inr ⟨(.look 0 (.look 1 (.look 4 (.look 5 (.turn 2 (.turn 3 (.turn 6 (.look 8 (.look 9 (.turn 7 (.turn 10 (.look 11 (.look 12 .fin)) .nil) .nil))) .nil) (.turn 6 (.turn 3 (.look 8 (.look 9 (.turn 7 (.turn 10 (.look 11 (.look 12 .fin)) .nil) .nil))) .nil) .nil)) (.turn 6 (.turn 2 (.turn 3 (.look 8 (.look 9 (.turn 7 (.turn 10 (.look 11 (.look 12 .fin)) .nil) .nil))) .nil) .nil) .nil)))))),some 13,[1,0],4,[(1,.v ⟨false,[(1,.ptr 0 0)]⟩),(2,.v ⟨false,[(1,.ptr 1 0)]⟩)],[(0,.cells [(1,.d (.int .i64) s.kind),(3,.d (.st 5) s.reg),(2,.d (.st 6) s.num),(1,.own 2 0),(1,.own 3 0),(2,.d (.st 9) s.map)] 61),(1,.cells [(1,.d (.int .i64) (0:Int)),(1,.d (.int .i64) (0:Int)),(1,.d (.int .u32) (0:Int)),(1,.d (.int .i64) (0:Int)),(1,.d (.int .i64) (0:Int)),(1,.d (.int .i64) (0:Int)),(1,.nils),(1,.nils),(1,.nils),(1,.nils)] 61),(2,.row 0 (.st 7) s.set.adds 159),(3,.row 0 (.st 1) s.set.gone 34)],True,by kernel_rfl,?_,?_⟩
 ·refine And.intro ?_ ?_
  ·refine And.intro ?_ ?_
   ·refine⟨_,rfl,rfl,(by assumption),?_⟩;refine And.intro ?_ trivial;refine And.intro ?_ trivial;refine⟨_,rfl,rfl,(by assumption),?_⟩;refine And.intro ?_ trivial;refine⟨trivial,[],?_⟩;repeat (first|exact trivial|refine And.intro rfl ?_)
   refine And.intro ?_ trivial;refine And.intro ?_ trivial;refine⟨_,rfl,rfl,(by assumption),?_⟩;refine And.intro ?_ trivial;refine⟨_,rfl,rfl,(by assumption),?_⟩;refine And.intro ?_ trivial;refine⟨trivial,[],?_⟩;repeat (first|exact trivial|refine And.intro rfl ?_)
  refine And.intro ?_ trivial;refine And.intro ?_ trivial;refine And.intro ?_ trivial;refine⟨_,rfl,rfl,(by assumption),?_⟩;refine And.intro ?_ trivial;refine⟨_,rfl,rfl,(by assumption),?_⟩;refine And.intro ?_ trivial;refine⟨trivial,[],?_⟩;repeat (first|exact trivial|refine And.intro rfl ?_)
 refine fun _=>?_;refine .inr ⟨(.look 0 (.look 1 (.look 4 (.look 5 (.turn 2 (.turn 3 (.turn 6 (.look 8 (.look 9 (.turn 7 (.turn 10 (.look 11 (.look 12 .fin)) .nil) .nil))) .nil) (.turn 6 (.turn 3 (.look 8 (.look 9 (.turn 7 (.turn 10 (.look 11 (.look 12 .fin)) .nil) .nil))) .nil) .nil)) (.turn 6 (.turn 2 (.turn 3 (.look 8 (.look 9 (.turn 7 (.turn 10 (.look 11 (.look 12 .fin)) .nil) .nil))) .nil) .nil) .nil)))))),some 13,[0,2,3],6,[(1,.v ⟨false,[(1,.ptr 0 0)]⟩),(2,.v ⟨false,[(1,.ptr 1 0)]⟩)],[(0,.cells [(1,.d (.int .i64) s.kind),(3,.d (.st 5) s.reg),(2,.d (.st 6) s.num),(1,.own 2 0),(1,.own 3 0),(1,.own 4 0),(1,.own 5 0)] 61),(1,.cells [(1,.d (.int .i64) (0:Int)),(1,.d (.int .i64) (0:Int)),(1,.d (.int .u32) (0:Int)),(1,.d (.int .i64) (0:Int)),(1,.d (.int .i64) (0:Int)),(1,.d (.int .i64) (0:Int)),(1,.nils),(1,.nils),(1,.nils),(1,.nils)] 61),(2,.row 0 (.st 7) s.set.adds 159),(3,.row 0 (.st 1) s.set.gone 34),(4,.row 0 (.st 4) s.map.puts 164),(5,.row 0 (.st 1) s.map.gone 34)],True,by kernel_rfl,?_,?_⟩
 ·refine And.intro ?_ ?_
  ·refine And.intro ?_ ?_
   ·refine⟨_,rfl,rfl,(by assumption),?_⟩;refine And.intro ?_ trivial;refine And.intro ?_ trivial;refine⟨_,rfl,rfl,(by assumption),?_⟩;refine And.intro ?_ trivial;refine⟨trivial,[],?_⟩;repeat (first|exact trivial|refine And.intro rfl ?_)
   refine And.intro ?_ trivial;refine And.intro ?_ trivial;refine⟨_,rfl,rfl,(by assumption),?_⟩;refine And.intro ?_ trivial;refine⟨_,rfl,rfl,(by assumption),?_⟩;refine And.intro ?_ trivial;refine⟨trivial,[],?_⟩;repeat (first|exact trivial|refine And.intro rfl ?_)
  refine And.intro ?_ trivial;refine And.intro ?_ trivial;refine And.intro ?_ trivial;refine⟨_,rfl,rfl,(by assumption),?_⟩;refine And.intro ?_ trivial;refine⟨_,rfl,rfl,(by assumption),?_⟩;refine And.intro ?_ trivial;refine⟨trivial,[],?_⟩;repeat (first|exact trivial|refine And.intro rfl ?_)
 refine fun _=>?_;exact e0
def bk(s:az)(v:List Int):az×Int:=
 if s.kind=1 then
  (s,0)
 else
  if s.kind=2 then
   (s,0)
  else
   if s.kind=3 then
    if(cP s.set v).snd=0 then
     (az.mk s.kind s.reg s.num (cP s.set v).fst s.map,0)
    else
     (az.mk 0 (bi.mk 0 (au.mk 0 0)) (be.mk 0 0) (aC.mk [] []) (aD.mk [] []),(cP s.set v).snd)
   else
    if s.kind=4 then
     if(cQ s.map v).snd=0 then
      (az.mk s.kind s.reg s.num s.set (cQ s.map v).fst,0)
     else
      (az.mk 0 (bi.mk 0 (au.mk 0 0)) (be.mk 0 0) (aC.mk [] []) (aD.mk [] []),(cQ s.map v).snd)
    else
     (az.mk 0 (bi.mk 0 (au.mk 0 0)) (be.mk 0 0) (aC.mk [] []) (aD.mk [] []),5)
def QY:bf U:=⟨[.d (.st 10),.d (.arr 8 (.int .u32))],fun xs es K=> ∃(s:az) (v:List Int),xs= [(ki s),(ic v)]∧es= []∧(s.set.adds.length≤4097)∧(s.set.gone.length≤4097)∧(s.map.puts.length≤4097)∧(s.map.gone.length≤4097)∧((fun(r0:az) (r1:Int)=>r0.set.adds.length≤4097∧r0.set.gone.length≤4097∧r0.map.puts.length≤4097∧r0.map.gone.length≤4097) ((bk s v).1) ((bk s v).2)→K (.tup [(ki ((bk s v).1)),(vi ((bk s v).2))]) [])⟩
theorem QZ:Fk 57 QY:=by
 refine fo Tryz.f57 [.d (.st 10),.d (.int .i64)] [] (aa Nd (aa NB ah)) fun xs es K=>?_;rintro⟨s,v,rfl,rfl,h1,h2,h3,h4,h⟩;refine⟨rfl,?_⟩;have hf0:=bk.eq_1 s v;refine wI hf0 (fun _ hf0=>?_) fun _ hf0=>?_
 ·refine vT iD (by omega) ?_;refine vF iB (by simp) ?_;rw[hf0]at h;exact h (show((fun(r0:az) (r1:Int)=>r0.set.adds.length≤4097∧r0.set.gone.length≤4097∧r0.map.puts.length≤4097∧r0.map.gone.length≤4097) s (0:Int):Prop)from by omega)
 ·refine wI hf0 (fun h1 hf0=>?_) fun h1 hf0=>?_
  ·refine vF iB (by simp) ?_;rw[hf0]at h;exact h (show((fun(r0:az) (r1:Int)=>r0.set.adds.length≤4097∧r0.set.gone.length≤4097∧r0.map.puts.length≤4097∧r0.map.gone.length≤4097) s (0:Int):Prop)from by omega)
  ·refine wI hf0 (fun h2 hf0=>?_) fun h2 hf0=>?_
   ·refine⟨_,_,rfl,rfl,(by omega),(by omega),?_⟩;refine fun h3=>?_;refine wN hf0 (fun h4 hf0=>?_) fun h4 hf0=>?_
    ·rw[hf0]at h;exact h (by simp)
    ·rw[hf0]at h;exact h (by(dsimp only;omega))
   ·refine wI hf0 (fun _ hf0=>?_) fun _ hf0=>?_
    ·refine⟨_,_,rfl,rfl,(by omega),?_⟩;refine fun _=>?_;refine wN hf0 (fun _ hf0=>?_) fun _ hf0=>?_
     ·rw[hf0]at h;exact h (by simp)
     ·rw[hf0]at h;exact h (by(dsimp only;omega))
    ·refine vT iB rfl ?_;rw[hf0]at h;exact h (by simp)
def ox(a:iJ)(b:iJ):Bool:=
 decide (a.kind=b.kind)&&decide (a.val=b.val)&&lE a.items b.items
def Q0:bf U:=⟨[.d (.st 13),.d (.st 13)],fun xs es K=> ∃(a:iJ) (b:iJ),xs= [(Ey a),(Ey b)]∧es= []∧K (.v (vb (ox a b))) []⟩
theorem O3:Fk 28 Q0:=by
 refine fo Tryz.f28 [.d .bool] [] (aa Qu ah) fun xs es K=>?_;rintro⟨a,b,rfl,rfl,h⟩;refine⟨rfl,?_⟩;have hf0:=ox.eq_1 a b;refine⟨_,fun _=>⟨_,_,rfl,rfl,rfl,rfl⟩,rfl,?_⟩;exact e0
def ar(s:az)(e:af):az×Int:=
 if dV e=0 then
  if cX e.act=s.kind then
   if e.act=1 then
    if(fb s.reg e.val e.at_).snd=0 then
     (az.mk s.kind (fb s.reg e.val e.at_).fst s.num s.set s.map,0)
    else
     (az.mk 0 (bi.mk 0 (au.mk 0 0)) (be.mk 0 0) (aC.mk [] []) (aD.mk [] []),(fb s.reg e.val e.at_).snd)
   else
    if e.act=2 then
     if(fc s.num e.val).snd=0 then
      (az.mk s.kind s.reg (fc s.num e.val).fst s.set s.map,0)
     else
      (az.mk 0 (bi.mk 0 (au.mk 0 0)) (be.mk 0 0) (aC.mk [] []) (aD.mk [] []),(fc s.num e.val).snd)
    else
     if e.act=3 then
      if(fX s.set (aT.mk e.tag e.name)).snd=0 then
       (az.mk s.kind s.reg s.num (fX s.set (aT.mk e.tag e.name)).fst s.map,0)
      else
       (az.mk 0 (bi.mk 0 (au.mk 0 0)) (be.mk 0 0) (aC.mk [] []) (aD.mk [] []),(fX s.set (aT.mk e.tag e.name)).snd)
     else
      if e.act=4 then
       if(cz s.set e.tags).snd=0 then
        (az.mk s.kind s.reg s.num (cz s.set e.tags).fst s.map,0)
       else
        (az.mk 0 (bi.mk 0 (au.mk 0 0)) (be.mk 0 0) (aC.mk [] []) (aD.mk [] []),(cz s.set e.tags).snd)
      else
       if e.act=5 then
        if(dU s.map (bI.mk e.tag e.name e.val e.at_)).snd=0 then
         (az.mk s.kind s.reg s.num s.set (dU s.map (bI.mk e.tag e.name e.val e.at_)).fst,0)
        else
         (az.mk 0 (bi.mk 0 (au.mk 0 0)) (be.mk 0 0) (aC.mk [] []) (aD.mk [] []),(dU s.map (bI.mk e.tag e.name e.val e.at_)).snd)
       else
        if e.act=6 then
         if(eJ s.map e.tags).snd=0 then
          (az.mk s.kind s.reg s.num s.set (eJ s.map e.tags).fst,0)
         else
          (az.mk 0 (bi.mk 0 (au.mk 0 0)) (be.mk 0 0) (aC.mk [] []) (aD.mk [] []),(eJ s.map e.tags).snd)
        else
         (s,0)
  else
   (az.mk 0 (bi.mk 0 (au.mk 0 0)) (be.mk 0 0) (aC.mk [] []) (aD.mk [] []),5)
 else
  (az.mk 0 (bi.mk 0 (au.mk 0 0)) (be.mk 0 0) (aC.mk [] []) (aD.mk [] []),dV e)
def Q2:bf U:=⟨[.d (.st 10),.d (.st 3)],fun xs es K=> ∃(s:az) (e:af),xs= [(ki s),(BG e)]∧es= []∧(s.set.adds.length≤4097)∧(s.set.gone.length≤4097)∧(s.map.puts.length≤4097)∧(s.map.gone.length≤4097)∧((fun(r0:az) (r1:Int)=>r0.set.adds.length≤4097∧r0.set.gone.length≤4097∧r0.map.puts.length≤4097∧r0.map.gone.length≤4097) ((ar s e).1) ((ar s e).2)→K (.tup [(ki ((ar s e).1)),(vi ((ar s e).2))]) [])⟩
theorem O4:Fk 41 Q2:=by
 refine fo Tryz.f41 [.d (.st 10),.d (.int .i64)] [] (aa O0 (aa Me (aa PU (aa PW (aa PY (aa OW (aa Qp (aa Qr ah)))))))) fun xs es K=>?_;rintro⟨s,e,rfl,rfl,h1,h2,h3,h4,h⟩;refine⟨rfl,?_⟩;have hf0:=ar.eq_1 s e;refine⟨_,rfl,rfl,?_⟩;refine wN hf0 (fun _ hf0=>?_) fun _ hf0=>?_
 ·rw[hf0]at h;exact h (by simp)
 ·refine dp [(true,0),(true,1),(true,3),(true,4),(false,2),(true,5),(true,6)] none (nw 3) ?_;refine⟨_,rfl,rfl,?_⟩;refine wN hf0 (fun h1 hf0=>?_) fun h1 hf0=>?_
  ·rw[hf0]at h;exact h (by simp)
  ·refine wI hf0 (fun h2 hf0=>?_) fun h2 hf0=>?_
   ·refine⟨_,_,_,rfl,rfl,?_⟩;refine wN hf0 (fun h3 hf0=>?_) fun h3 hf0=>?_
    ·rw[hf0]at h;exact h (by simp)
    ·rw[hf0]at h;exact h (by(dsimp only;omega))
   ·refine wI hf0 (fun h4 hf0=>?_) fun h4 hf0=>?_
    ·refine⟨_,_,rfl,rfl,?_⟩;refine wN hf0 (fun _ hf0=>?_) fun _ hf0=>?_
     ·rw[hf0]at h;exact h (by simp)
     ·rw[hf0]at h;exact h (by(dsimp only;omega))
    ·refine wI hf0 (fun _ hf0=>?_) fun _ hf0=>?_
     ·refine⟨_,_,rfl,rfl,(by omega),(by omega),?_⟩;refine fun _=>?_;refine wN hf0 (fun _ hf0=>?_) fun _ hf0=>?_
      ·rw[hf0]at h;exact h (by simp)
      ·rw[hf0]at h;exact h (by(dsimp only;omega))
     ·refine wI hf0 (fun _ hf0=>?_) fun _ hf0=>?_
      ·refine⟨_,_,rfl,rfl,(by omega),(by omega),?_⟩;refine fun _=>?_;refine wN hf0 (fun _ hf0=>?_) fun _ hf0=>?_
       ·rw[hf0]at h;exact h (by simp)
       ·rw[hf0]at h;exact h (by(dsimp only;omega))
      ·refine wI hf0 (fun _ hf0=>?_) fun _ hf0=>?_
       ·refine⟨_,_,rfl,rfl,(by omega),?_⟩;refine fun _=>?_;refine wN hf0 (fun _ hf0=>?_) fun _ hf0=>?_
        ·rw[hf0]at h;exact h (by simp)
        ·rw[hf0]at h;exact h (by(dsimp only;omega))
       ·refine wI hf0 (fun _ hf0=>?_) fun _ hf0=>?_
        ·refine⟨_,_,rfl,rfl,(by omega),(by omega),?_⟩;refine fun _=>?_;refine wN hf0 (fun _ hf0=>?_) fun _ hf0=>?_
         ·rw[hf0]at h;exact h (by simp)
         ·rw[hf0]at h;exact h (by(dsimp only;omega))
        ·refine vF iD (by omega) ?_;rw[hf0]at h;exact h (show((fun(r0:az) (r1:Int)=>r0.set.adds.length≤4097∧r0.set.gone.length≤4097∧r0.map.puts.length≤4097∧r0.map.gone.length≤4097) s (0:Int):Prop)from by omega)
def gu(o:gL):Nat→Int→Bool⊕(Int)
 |0,s3=> .inr s3
 |n1+1,s3=>
  if s3<(o.more.length:Int)then
   if eK (az.mk 0 (bi.mk 0 (au.mk 0 0)) (be.mk 0 0) (aC.mk [] []) (aD.mk [] [])) (ix o.more s3)=true then
    .inl true
   else
    gu o n1 (s3+1)
  else
   .inr s3
def cA(o:gL):Bool:=
 if(eK (az.mk 0 (bi.mk 0 (au.mk 0 0)) (be.mk 0 0) (aC.mk [] []) (aD.mk [] [])) o.e=true)∨(10<(o.more.length:Int))then
  true
 else
  match gu o (((o.more.length:Int)- 0).toNat+1) 0 with
  | .inl r=>r
  | .inr s3=>
   false
def c8:bf U:=⟨[.d (.st 14)],fun xs es K=> ∃(o:gL),xs= [⟨true,[(19,.d (.st 14) o)]⟩]∧es= []∧K (.v (vb (cA o))) []⟩
theorem k8:Fk 8 c8:=by
 refine fo Tryz.f8 [.d .bool] [] (aa NJ ah) fun xs es K=>?_;rintro⟨o,rfl,rfl,h⟩;refine⟨rfl,?_⟩;have hf0:=cA.eq_1 o;refine⟨_,_,rfl,rfl,?_⟩;refine wI hf0 (fun _ hf0=>e0) fun _ hf0=>?_;refine lI 1 (fun(s3:Int)=> [(1,.v (vp 0)),(2,.v (vb false)),(3,.v (vi s3))]) (fun(s3:Int)=> [(0,.cells [(19,.d (.st 14) o)] 44)]) (fun(s3:Int)=>((o.more.length:Int)- s3).toNat) (fun(s3:Int)=>(0≤s3)∧(s3≤(o.more.length:Int))∧True) (fun n1 (s3:Int)=>gu o n1 s3) (gu o (((o.more.length:Int)- 0).toNat+1) 0) [] (0:Int) ?_;rintro s3 ⟨n1,hc1,⟨hi1_0,hi1_1,-⟩,hf1⟩;have hf1:=hf1.trans (gu.eq_2 o s3 n1);refine fl (x:=o.more.length) fun _=>?_;refine wI hf1 (fun _ hf1=>?_) fun _ hf1=>e1;refine vx s3 o.more ?_;refine⟨_,_,rfl,rfl,?_⟩;refine wI hf1 (fun _ hf1=>e1) fun _ hf1=>?_;refine bY ?_;exact nx [] (s3+1) hc1 hf1
theorem bt(s:az):aB s=s:=rfl
def a8(s:az)(e:af):az×Int:=
 if fD e=0 then
  if j6 e.act=s.kind then
   if e.act=1 then
    if(iv (aB s).reg e.val e.at_).snd=0 then
     (az.mk (aB s).kind (iv (aB s).reg e.val e.at_).fst (aB s).num (aB s).set (aB s).map,0)
    else
     (az.mk 0 (bi.mk 0 (au.mk 0 0)) (be.mk 0 0) (aC.mk [] []) (aD.mk [] []),(iv (aB s).reg e.val e.at_).snd)
   else
    if e.act=2 then
     if(iw (aB s).num e.val).snd=0 then
      (az.mk (aB s).kind (aB s).reg (iw (aB s).num e.val).fst (aB s).set (aB s).map,0)
     else
      (az.mk 0 (bi.mk 0 (au.mk 0 0)) (be.mk 0 0) (aC.mk [] []) (aD.mk [] []),(iw (aB s).num e.val).snd)
    else
     if e.act=3 then
      if(iH (aB s).set (aT.mk e.tag e.name)).snd=0 then
       (az.mk (aB s).kind (aB s).reg (aB s).num (iH (aB s).set (aT.mk e.tag e.name)).fst (aB s).map,0)
      else
       (az.mk 0 (bi.mk 0 (au.mk 0 0)) (be.mk 0 0) (aC.mk [] []) (aD.mk [] []),(iH (aB s).set (aT.mk e.tag e.name)).snd)
     else
      if e.act=4 then
       if(fF (aB s).set e.tags).snd=0 then
        (az.mk (aB s).kind (aB s).reg (aB s).num (fF (aB s).set e.tags).fst (aB s).map,0)
       else
        (az.mk 0 (bi.mk 0 (au.mk 0 0)) (be.mk 0 0) (aC.mk [] []) (aD.mk [] []),(fF (aB s).set e.tags).snd)
      else
       if e.act=5 then
        if(eI (aB s).map (bI.mk e.tag e.name e.val e.at_)).snd=0 then
         (az.mk (aB s).kind (aB s).reg (aB s).num (aB s).set (eI (aB s).map (bI.mk e.tag e.name e.val e.at_)).fst,0)
        else
         (az.mk 0 (bi.mk 0 (au.mk 0 0)) (be.mk 0 0) (aC.mk [] []) (aD.mk [] []),(eI (aB s).map (bI.mk e.tag e.name e.val e.at_)).snd)
       else
        if e.act=6 then
         if(gc (aB s).map e.tags).snd=0 then
          (az.mk (aB s).kind (aB s).reg (aB s).num (aB s).set (gc (aB s).map e.tags).fst,0)
         else
          (az.mk 0 (bi.mk 0 (au.mk 0 0)) (be.mk 0 0) (aC.mk [] []) (aD.mk [] []),(gc (aB s).map e.tags).snd)
        else
         (aB s,0)
  else
   (az.mk 0 (bi.mk 0 (au.mk 0 0)) (be.mk 0 0) (aC.mk [] []) (aD.mk [] []),5)
 else
  (az.mk 0 (bi.mk 0 (au.mk 0 0)) (be.mk 0 0) (aC.mk [] []) (aD.mk [] []),fD e)
def Q3:bf U:=⟨[.d (.st 10),.d (.st 3)],fun xs es K=> ∃(s:az) (e:af),xs= [(ki s),(BG e)]∧es= []∧(s.set.adds.length≤4097)∧(s.set.gone.length≤4097)∧(s.map.puts.length≤4097)∧(s.map.gone.length≤4097)∧((fun(r0:az) (r1:Int)=>r0.set.adds.length≤4097∧r0.set.gone.length≤4097∧r0.map.puts.length≤4097∧r0.map.gone.length≤4097) ((a8 s e).1) ((a8 s e).2)→K (.tup [(ki ((a8 s e).1)),(vi ((a8 s e).2))]) [])⟩
theorem O5:Fk 37 Q3:=by
 refine fo Tryz.f37 [.d (.st 10),.d (.int .i64)] [] (aa OZ (aa Nr (aa OY (aa P8 (aa Qa (aa PM (aa Qz (aa QB (aa QD ah))))))))) fun xs es K=>?_;rintro⟨s,e,rfl,rfl,h1,h2,h3,h4,h⟩;refine⟨rfl,?_⟩;have hf0:=a8.eq_1 s e;refine⟨_,rfl,rfl,?_⟩;refine fun _=>?_;refine wN hf0 (fun h1 hf0=>?_) fun h1 hf0=>?_
 ·rw[hf0]at h;exact h (by simp)
 ·refine dp [(true,0),(true,1),(true,3),(true,4),(false,2),(true,5)] none (nw 3) ?_;refine⟨_,rfl,rfl,?_⟩;refine wN hf0 (fun h2 hf0=>?_) fun h2 hf0=>?_
  ·rw[hf0]at h;exact h (by simp)
  ·refine⟨_,rfl,rfl,(by omega),(by omega),(by omega),(by omega),?_⟩;refine wI hf0 (fun h3 hf0=>?_) fun h3 hf0=>?_
   ·refine⟨_,_,_,rfl,rfl,?_⟩;refine wN hf0 (fun h4 hf0=>?_) fun h4 hf0=>?_
    ·rw[hf0]at h;exact h (by simp)
    ·rw[hf0]at h;exact h (by(simp only[bt]at*;omega))
   ·refine wI hf0 (fun _ hf0=>?_) fun _ hf0=>?_
    ·refine⟨_,_,rfl,rfl,?_⟩;refine wN hf0 (fun _ hf0=>?_) fun _ hf0=>?_
     ·rw[hf0]at h;exact h (by simp)
     ·rw[hf0]at h;exact h (by(simp only[bt]at*;omega))
    ·refine wI hf0 (fun _ hf0=>?_) fun _ hf0=>?_
     ·refine⟨_,_,rfl,rfl,(by(rw[bt s];omega)),(by(rw[bt s];omega)),?_⟩;refine fun _=>?_;refine wN hf0 (fun _ hf0=>?_) fun _ hf0=>?_
      ·rw[hf0]at h;exact h (by simp)
      ·rw[hf0]at h;exact h (by(simp only[bt]at*;omega))
     ·refine wI hf0 (fun _ hf0=>?_) fun _ hf0=>?_
      ·refine⟨_,_,rfl,rfl,(by(rw[bt s];omega)),(by(rw[bt s];omega)),?_⟩;refine fun _=>?_;refine wN hf0 (fun _ hf0=>?_) fun _ hf0=>?_
       ·rw[hf0]at h;exact h (by simp)
       ·rw[hf0]at h;exact h (by(simp only[bt]at*;omega))
      ·refine wI hf0 (fun _ hf0=>?_) fun _ hf0=>?_
       ·refine⟨_,_,rfl,rfl,(by(rw[bt s];omega)),(by(rw[bt s];omega)),?_⟩;refine fun _=>?_;refine wN hf0 (fun _ hf0=>?_) fun _ hf0=>?_
        ·rw[hf0]at h;exact h (by simp)
        ·rw[hf0]at h;exact h (by(simp only[bt]at*;omega))
       ·refine wI hf0 (fun _ hf0=>?_) fun _ hf0=>?_
        ·refine⟨_,_,rfl,rfl,(by(rw[bt s];omega)),(by(rw[bt s];omega)),?_⟩;refine fun _=>?_;refine wN hf0 (fun _ hf0=>?_) fun _ hf0=>?_
         ·rw[hf0]at h;exact h (by simp)
         ·rw[hf0]at h;exact h (by(simp only[bt]at*;omega))
        ·refine vF iD (by omega) ?_;rw[hf0]at h;exact h (show((fun(r0:az) (r1:Int)=>r0.set.adds.length≤4097∧r0.set.gone.length≤4097∧r0.map.puts.length≤4097∧r0.map.gone.length≤4097) (aB s) (0:Int):Prop)from by(rw[bt s];omega))
def bw(s:az)(v:List Int):az×Int:=
 if(aB s).kind=1 then
  (aB s,0)
 else
  if(aB s).kind=2 then
   (aB s,0)
  else
   if(aB s).kind=3 then
    if(db (aB s).set v).snd=0 then
     (az.mk (aB s).kind (aB s).reg (aB s).num (db (aB s).set v).fst (aB s).map,0)
    else
     (az.mk 0 (bi.mk 0 (au.mk 0 0)) (be.mk 0 0) (aC.mk [] []) (aD.mk [] []),(db (aB s).set v).snd)
   else
    if(aB s).kind=4 then
     if(de (aB s).map v).snd=0 then
      (az.mk (aB s).kind (aB s).reg (aB s).num (aB s).set (de (aB s).map v).fst,0)
     else
      (az.mk 0 (bi.mk 0 (au.mk 0 0)) (be.mk 0 0) (aC.mk [] []) (aD.mk [] []),(de (aB s).map v).snd)
    else
     (az.mk 0 (bi.mk 0 (au.mk 0 0)) (be.mk 0 0) (aC.mk [] []) (aD.mk [] []),5)
def Q4:bf U:=⟨[.d (.st 10),.d (.arr 8 (.int .u32))],fun xs es K=> ∃(s:az) (v:List Int),xs= [(ki s),(ic v)]∧es= []∧(s.set.adds.length≤4097)∧(s.set.gone.length≤4097)∧(s.map.puts.length≤4097)∧(s.map.gone.length≤4097)∧((fun(r0:az) (r1:Int)=>r0.set.adds.length≤4097∧r0.set.gone.length≤4097∧r0.map.puts.length≤4097∧r0.map.gone.length≤4097) ((bw s v).1) ((bw s v).2)→K (.tup [(ki ((bw s v).1)),(vi ((bw s v).2))]) [])⟩
theorem Q5:Fk 56 Q4:=by
 refine fo Tryz.f56 [.d (.st 10),.d (.int .i64)] [] (aa OY (aa ND (aa NI ah))) fun xs es K=>?_;rintro⟨s,v,rfl,rfl,h1,h2,h3,h4,h⟩;refine⟨rfl,?_⟩;have hf0:=bw.eq_1 s v;refine⟨_,rfl,rfl,(by omega),(by omega),(by omega),(by omega),?_⟩;refine wI hf0 (fun _ hf0=>?_) fun _ hf0=>?_
 ·refine vT iD (by omega) ?_;refine vF iB (by simp) ?_;rw[hf0]at h;exact h (show((fun(r0:az) (r1:Int)=>r0.set.adds.length≤4097∧r0.set.gone.length≤4097∧r0.map.puts.length≤4097∧r0.map.gone.length≤4097) (aB s) (0:Int):Prop)from by(rw[bt s];omega))
 ·refine wI hf0 (fun h1 hf0=>?_) fun h1 hf0=>?_
  ·refine vF iB (by simp) ?_;rw[hf0]at h;exact h (show((fun(r0:az) (r1:Int)=>r0.set.adds.length≤4097∧r0.set.gone.length≤4097∧r0.map.puts.length≤4097∧r0.map.gone.length≤4097) (aB s) (0:Int):Prop)from by(rw[bt s];omega))
  ·refine wI hf0 (fun h2 hf0=>?_) fun h2 hf0=>?_
   ·refine⟨_,_,rfl,rfl,(by(rw[bt s];omega)),(by(rw[bt s];omega)),?_⟩;refine fun h3=>?_;refine wN hf0 (fun h4 hf0=>?_) fun h4 hf0=>?_
    ·rw[hf0]at h;exact h (by simp)
    ·rw[hf0]at h;exact h (by(simp only[bt]at*;omega))
   ·refine wI hf0 (fun _ hf0=>?_) fun _ hf0=>?_
    ·refine⟨_,_,rfl,rfl,(by(rw[bt s];omega)),(by(rw[bt s];omega)),?_⟩;refine fun _=>?_;refine wN hf0 (fun _ hf0=>?_) fun _ hf0=>?_
     ·rw[hf0]at h;exact h (by simp)
     ·rw[hf0]at h;exact h (by(simp only[bt]at*;omega))
    ·refine vT iB rfl ?_;rw[hf0]at h;exact h (by simp)
end Go.Proofs.YtiliglahlfkikaaGreatDoor.V
end

/- Calls: what is handed on, and back. -/
import Derived.Test.YtiliglahlfkikaaGreatDoorYt7
section
set_option linter.unusedVariables false
set_option linter.unusedSimpArgs false
namespace Go.Proofs.YtiliglahlfkikaaGreatDoor.V
open Go.RowKit
theorem xM{w:World}{g:Nat}{o:Obj}(h:w.heap[g]? =some o):Hp w [(some g,o)]:=by
 refine⟨fun i g' o' hi=>?_,fun i j g' o1 o2 hi hj=>?_⟩
 ·cases i with
  |zero=>simp at hi;rw[←hi.1,←hi.2];exact h
  |succ i=>simp at hi
 ·cases i with
  |zero=>cases j with
   |zero=>rfl
   |succ j=>simp at hj
  |succ i=>simp at hi
theorem A5{w:World}(o:Obj):Hp w [(none,o)]:=by
 refine⟨fun i g' o' hi=>?_,fun i j g' o1 o2 hi hj=>?_⟩
 ·cases i<;>simp at hi
 ·cases i<;>simp at hi
theorem kH{α:Type}{cs sp us:List α}{a m off:Nat}(h1:a+m≤cs.length)(h2:off+us.length≤m):
  (cs++sp).take (a+off)++us++(cs++sp).drop (a+off+us.length)=(cs.take a++(((cs.drop a).take m).take off++us++((cs.drop a).take m).drop (off+us.length))++cs.drop (a+m))++sp:=by
 have e1:(cs++sp).take (a+off)=cs.take a++((cs.drop a).take m).take off:=by
  rw[List.take_append_of_le_length (by omega),List.take_take,Nat.min_eq_left (by omega),←List.take_add]
 have e2:(cs++sp).drop (a+off+us.length)=((cs.drop a).take m).drop (off+us.length)++cs.drop (a+m)++sp:=by
  rw[List.drop_append_of_le_length (by omega)];have h3:cs.drop (a+off+us.length)=((cs.drop a).take m).drop (off+us.length)++cs.drop (a+m):=by
   rw[List.drop_take,List.drop_drop,←Nat.add_assoc];have:cs.drop (a+m)=(cs.drop (a+off+us.length)).drop (m -(off+us.length)):=by rw[List.drop_drop];congr 1;omega
   rw[this,List.take_append_drop]
  rw[h3]
 rw[e1,e2];simp only[List.append_assoc]
section
variable [ao] {U:bQ} {P:Program} {nt:Nat} {T:dL U} {X:List Nat} {w:World} {ρ:Nat→Rz} {n:Nat} {H:Hs U} {R e:En U} {ce:aI} {o:Oper}
theorem yC{t:Nat}{xo yo:Operand}{x:Cx U}{y:Va U}{u0 u:Value}{K:Hs U→Prop}(h:t8 T t H x y K)(ho:o.op= .store t xo yo)(hd:o.dst=none)(hx:ce.ev xo=some u0)(hy:ce.ev yo=some u)(hu0:Vw U X w ρ n H x [u0])(hu:cP (Vw U X w ρ n H) y u)(hT:bD U P T)(M:bu U X (· =w) ρ n H):
  lE P nt U X w ρ n H ce o fun _ n' H'=>n'=n∧K H':=by
 unfold t8 at h;split at h
 ·rename_i ti hti;have hsz:=(hT _ _ hti).size;split at h
  ·rename_i i off;split at h
   ·rename_i l ty hl;cases hb:Nat.beq (jI y.l) ti.sz with
    |false=>rw[hb]at h;exact h.elim
    |true=>
     rw[hb]at h;simp only[cond_true]at h;have hb:=Nat.eq_of_beq_eq_true hb;obtain⟨l',hK,hs'⟩:=jf h;have hK:=dv hK;obtain⟨g,vs,hA,hs,hw⟩:=M.ent _ (al hl);have hc:=hu.cells;have hcl:=hc.len;obtain⟨a1,a2⟩:=hs' _ _ _ _ _ _ _ hs hc (by omega);obtain⟨hi,hr,g',hA',e1⟩:=hu0;rw[hA]at hA';injection hA' with hA';injection hA' with hA';subst hA';injection e1 with e1;subst e1;refine fG (vs:=u.cells.toList) (i:=0) ho hd hx hy rfl (by rw[hcl,hb];exact hsz) hc.one (xM (hw w rfl)) rfl a2 fun w' hp hf _=>?_;have hblk:w'.heap[g]? =some (Cl (vs.take off++u.cells.toList++vs.drop (off+u.cells.toList.length)) ty):=hp.at (i:=0) rfl;have hf':Fr (aq ρ (i,(.cells l ty:aM U))).toList w w':=by
      unfold aq;simp only[hA];exact hf
     have hb0: ∀g',aq (cz ρ i (ρ i)) (i,(.cells l' ty:aM U))=some g'→aq ρ (i,(.cells l ty:aM U))=some g'∨w.heap.size≤g':=fun g' h=>by rw[aX]at h;exact .inl h
     have st:=cH.upd (n:=n) M.xd M.nd hl hf' (ρ i) hb0 (fun v' l' m' hr=>by cases hr) (fun _=>rfl);rw[aX]at st;have M':=M.upd hl hf' (ρ i) hb0 (fun v' l' m' hr=>by cases hr) (fun _=>rfl) (by
      rw[aX];exact⟨g,_,hA,a1.imp fun _ _ h=>h.step st,fun w2 h2=>by subst h2;exact hblk⟩)
     rw[aX]at M';exact⟨.un,n,_,ρ,undef,⟨rfl,hK⟩,by rw[hd];rfl,trivial,M',st⟩
   ·exact h.elim
  ·rename_i i v q off;obtain⟨H1,yl,h,M1,s1,c1⟩:=ib h M;split at h
   ·rename_i v' s xs ty hl;cases hb:(Nat.beq v v'&&Nat.beq (jI yl) ti.sz)with
    |false=>rw[hb]at h;exact h.elim
    |true=>
     rw[hb]at h;simp only[Bool.and_eq_true]at hb;simp only[cond_true]at h;have hvv:=Nat.eq_of_beq_eq_true hb.1;have hb2:=Nat.eq_of_beq_eq_true hb.2;subst hvv;obtain⟨x0,h,hix⟩:=iz h;obtain⟨l',h,hs'⟩:=jf h;obtain⟨z,h,hz⟩:=bE h;have hK:=dv h;obtain⟨hm,cs,sp,hd1,how,hw⟩:=M1.ent _ (al hl);have hc:=c1 _ hu.cells;have hcl:=hc.len;obtain⟨hi,a,e1,hn⟩:=bi.step s1 hu0;obtain⟨g,hA,ha,hq0,hq1⟩:=(hn _ _ _ (by rw[hl];rfl)).2 rfl;injection e1 with e1;subst e1;subst ha;have hql:q.toNat<xs.length:=by omega
     have hxq:=hix _ (List.getElem?_eq_getElem hql);have hat:=hd1.at q.toNat _ (List.getElem?_eq_getElem hql);rw[←hxq]at hat;have hatl:=hat.length;obtain⟨a1,a2⟩:=hs' (ak ρ H1++X) (· =w) ρ n H1 _ _ ⟨_,[],(List.append_nil _).symm,hatl,hat,rfl⟩ hc (by omega);rw[hatl]at a2;have hdz:=hz _ _ _ _ _ _ a1;have hmul:=nF (m:=aL U s) hql;have hcsl:=hd1.length;have hdzl:=hdz.length;have hset:=hd1.set q.toNat z _ hdz hql;have sp0:=kH (cs:=cs) (sp:= []) (us:=u.cells.toList) (a:=q.toNat*aL U s) (m:=aL U s) (off:=off) (by omega) a2;simp only[List.append_nil]at sp0;rw[hdzl,←sp0]at hset;refine fG (vs:=u.cells.toList) (i:=0) ho hd hx hy rfl (by rw[hcl,hb2];exact hsz) hc.one (xM (hw g (by rw[hA];rfl) w rfl)) rfl (by rw[List.length_append];omega) fun w' hp hf _=>?_;have hblk:w'.heap[g]? =some (Cl ((cs++sp).take (q.toNat*aL U s+off)++u.cells.toList++(cs++sp).drop (q.toNat*aL U s+off+u.cells.toList.length)) ty):=hp.at (i:=0) rfl;have esp:(cs++sp).take (q.toNat*aL U s+off)++u.cells.toList++(cs++sp).drop (q.toNat*aL U s+off+u.cells.toList.length)=(cs.take (q.toNat*aL U s+off)++u.cells.toList++cs.drop (q.toNat*aL U s+off+u.cells.toList.length))++sp:=by
      rw[List.take_append_of_le_length (by omega),List.drop_append_of_le_length (by omega)];simp only[List.append_assoc]
     rw[esp]at hblk;have hf':Fr (aq ρ (i,(.row v s xs ty:aM U))).toList w w':=by
      unfold aq;simp only[hA];exact hf
     have hb0: ∀g',aq (cz ρ i (ρ i)) (i,(.row v s (xs.set q.toNat z) ty:aM U))=some g'→aq ρ (i,(.row v s xs ty:aM U))=some g'∨w.heap.size≤g':=fun g' h=>by rw[aX]at h;exact .inl h
     have hr0: ∀v' l' m',bq (some (.row v s (xs.set q.toNat z) ty:aM U))=some (v',l',m')→ ∃v0 l m,bq (some (.row v s xs ty:aM U))=some (v0,l,m)∧v0≤v'∧(v0=v'→ρ i=ρ i∧l'=l∧m'=m):=fun v' l' m' hr=>⟨v',l',m',by rw[←hr];simp only[bq,List.length_set],Nat.le_refl _,fun _=>⟨rfl,rfl,rfl⟩⟩;have st:=cH.upd (n:=n) M1.xd M1.nd hl hf' (ρ i) hb0 hr0 (fun _=>rfl);rw[aX]at st;have hsl:(cs.take (q.toNat*aL U s+off)++u.cells.toList++cs.drop (q.toNat*aL U s+off+u.cells.toList.length)).length=cs.length:=by
      rw[List.length_append,List.length_append,List.length_take,List.length_drop];omega
     have M':=M1.upd hl hf' (ρ i) hb0 hr0 (fun _=>rfl) (by
      rw[aX];refine⟨hm,_,sp,aQ.mv (st.mv (X:=X)) hset,⟨?_,?_⟩,fun g' hg' w2 h2=>?_⟩
      ·rw[hsl,List.length_set];exact how.1
      ·rcases how.2 with⟨h0,_⟩|⟨g1,h3,h4,h5⟩
       ·rw[hA]at h0;cases h0
       ·refine .inr ⟨g1,h3,?_,by rw[List.length_set];exact h5⟩;rw[List.length_append,hsl,←List.length_append];exact h4
      ·subst h2;rw[hA]at hg';injection hg' with hg';subst hg';exact hblk)
     rw[aX]at M';exact⟨.un,n,_,ρ,undef,⟨rfl,hK⟩,by rw[hd];rfl,trivial,M',s1.trans st⟩
   ·exact h.elim
  ·rename_i i off k s q o';obtain⟨H1,yl,h,M1,s1,c1⟩:=ib h M;split at h
   ·rename_i l ty hl;cases hb:Nat.beq (jI yl) ti.sz with
    |false=>rw[hb]at h;exact h.elim
    |true=>
     rw[hb]at h;simp only[cond_true]at h;have hb2:=Nat.eq_of_beq_eq_true hb;obtain⟨la,h,hla⟩:=fQ h;obtain⟨(xs:List (TT U.ty s)),h,hxs⟩:=bE h;obtain⟨x0,h,hix⟩:=iz h;obtain⟨l1,h,hs1⟩:=jf h;obtain⟨z,h,hz⟩:=bE h;obtain⟨l',h,hs2⟩:=jf h;have hK:=dv h;obtain⟨g,vs,hA,hs,hw⟩:=M1.ent _ (al hl);have hc:=c1 _ hu.cells;have hcl:=hc.len;obtain⟨hi,hr,hq0,hq1,g',hA',e1⟩:=bi.step s1 hu0;rw[hA]at hA';injection hA' with hA';injection hA' with hA';subst hA';injection e1 with e1;subst e1;obtain⟨b1,b2⟩:=hla _ _ _ _ _ _ hs;obtain⟨hd1,hd2⟩:=aD.inv (hxs _ _ _ _ _ _ b1);have hd2:xs.length=k:=hd2;have hql:q.toNat<xs.length:=by omega
     have hxq:=hix _ (List.getElem?_eq_getElem hql);have hat:=hd1.at q.toNat _ (List.getElem?_eq_getElem hql);rw[←hxq]at hat;have hatl:=hat.length;obtain⟨a1,a2⟩:=hs1 (ak ρ H1++X) (· =w) ρ n H1 _ _ ⟨_,[],(List.append_nil _).symm,hatl,hat,rfl⟩ hc (by omega);rw[hatl]at a2;have hdz:=hz _ _ _ _ _ _ a1;have hmul:=nF (m:=aL U s) hql;have hcsl:=hd1.length;rw[hd2]at hcsl hmul;have hdzl:=hdz.length;have hset:=hd1.set q.toNat z _ hdz hql;have sp0:=kH (cs:=(vs.drop off).take (k*aL U s)) (sp:= []) (us:=u.cells.toList) (a:=q.toNat*aL U s) (m:=aL U s) (off:=o') (by omega) a2;simp only[List.append_nil]at sp0;rw[hdzl,←sp0]at hset;have hden:=aD.arr (U:=U) k s (xs.set q.toNat z) _ hset (by rw[List.length_set];exact hd2);have hdl:_=k*aL U s:=hden.length;obtain⟨d1,d2⟩:=hs2 (ak ρ H1++X) (· =w) ρ n H1 _ _ hs ⟨_,[],(List.append_nil _).symm,hdl,hden,rfl⟩ hdl;have e5:=kH (cs:=vs) (sp:= []) (us:=u.cells.toList) (a:=off) (m:=k*aL U s) (off:=q.toNat*aL U s+o') b2 (by omega);simp only[List.append_nil,←Nat.add_assoc]at e5;rw[hdl,←e5]at d1;refine fG (vs:=u.cells.toList) (i:=0) ho hd hx hy rfl (by rw[hcl,hb2];exact hsz) hc.one (xM (hw w rfl)) rfl (by omega) fun w' hp hf _=>?_;have hblk:w'.heap[g]? =some (Cl (vs.take (off+q.toNat*aL U s+o')++u.cells.toList++vs.drop (off+q.toNat*aL U s+o'+u.cells.toList.length)) ty):=hp.at (i:=0) rfl;have hf':Fr (aq ρ (i,(.cells l ty:aM U))).toList w w':=by
      unfold aq;simp only[hA];exact hf
     have hb0: ∀g',aq (cz ρ i (ρ i)) (i,(.cells l' ty:aM U))=some g'→aq ρ (i,(.cells l ty:aM U))=some g'∨w.heap.size≤g':=fun g' h=>by rw[aX]at h;exact .inl h
     have st:=cH.upd (n:=n) M1.xd M1.nd hl hf' (ρ i) hb0 (fun v' l' m' hr=>by cases hr) (fun _=>rfl);rw[aX]at st;have M':=M1.upd hl hf' (ρ i) hb0 (fun v' l' m' hr=>by cases hr) (fun _=>rfl) (by
      rw[aX];exact⟨g,_,hA,d1.imp fun _ _ h=>h.step st,fun w2 h2=>by subst h2;exact hblk⟩)
     rw[aX]at M';exact⟨.un,n,_,ρ,undef,⟨rfl,hK⟩,by rw[hd];rfl,trivial,M',s1.trans st⟩
   ·exact h.elim
  ·exact h.elim
 ·exact h.elim
end
end Go.Proofs.YtiliglahlfkikaaGreatDoor.V
end

section
set_option linter.unusedVariables false
set_option linter.unusedSimpArgs false
namespace Go.Proofs.YtiliglahlfkikaaGreatDoor.V
open Go.RowKit
theorem pS{m:Nat}{pls:List (Nat×Nat)}: ∀(us:List Value) (j:Nat) (pre rest:List Value),(∀i,j≤i→i<j+us.length→pls[i]? =some (i*m,m))→(∀v∈us,v.cells.toList.length=m)→pre.length=j*m→rest.length=us.length*m→
  kE pls (pre++rest) ((List.range' j us.length).zip us)=some (pre++us.flatMap (·.cells.toList))
 | [],j,pre,rest,_,_,_,hr=>by
  have:rest= []:=List.eq_nil_of_length_eq_zero (by simpa using hr);subst this;simp[kE]
 |v::us,j,pre,rest,hp,hm,hpre,hr=>by
  simp only[List.length_cons,List.range'_succ,List.zip_cons_cons,kE];rw[hp j (Nat.le_refl _) (by simp)];have hv:=hm v (by simp);have hrl:rest.length=us.length*m+m:=by rw[hr,List.length_cons,Nat.add_mul,Nat.one_mul]
  have b1:Nat.beq v.cells.toList.length m=true:=by rw[hv];exact Nat.beq_refl m
  have b2:Nat.ble (j*m+m) (pre++rest).length=true:=Nat.ble_eq_true_of_le (by rw[List.length_append];omega);simp only[b1,b2,Bool.and_self,cond_true];have e:(pre++rest).take (j*m)++(v.cells.toList++(pre++rest).drop (j*m+m))=(pre++v.cells.toList)++rest.drop m:=by
   rw[←hpre,List.take_left,List.drop_append,List.drop_of_length_le (by omega),List.nil_append,Nat.add_sub_cancel_left,List.append_assoc]
  rw[e,pS us (j+1) (pre++v.cells.toList) (rest.drop m) (fun i h1 h2=>hp i (by omega) (by simp only[List.length_cons];omega)) (fun u hu=>hm u (by simp[hu])) (by rw[List.length_append,hpre,hv,Nat.add_mul,Nat.one_mul]) (by rw[List.length_drop];omega)];simp
section
variable [ao] {U:bQ} {P:Program} {nt:Nat} {T:dL U} {X:List Nat} {w:World} {ρ:Nat→Rz} {n:Nat} {H:Hs U} {R e:En U} {ce:aI} {o:Oper} {K:aI→World→Prop}
omit [ao]in
theorem Ga{t el m k:Nat}{ps:List (Nat×Operand)}{vs z:List Value}(ho:o.op= .buildSlice t k ps.toArray){d:Nat}(hd:o.dst=some d)(hn:Nat.blt d nt=true)(hx:ce.evs (ps.map (·.2))=some vs)(hp:ps.map (·.1)=List.range' 0 vs.length)(hk:k=vs.length)(ht:ax P t=some (el,m))(hz:zeroCells P el=some z)
  (hlen:k*m≤1000) (h1: ∀v∈vs,v.cells.toList.length=m)
  (hK: ∀g w',w'.heap[g]? =some (Cl (vs.flatMap (·.cells.toList)) el)→Fr [] w w'→w.heap.size≤g→K ((d,(.slice (some ⟨g,0,none⟩) k k))::ce) w'):bL P nt ce w o K:=by
 obtain⟨hu,hs⟩:=bK ht;unfold zeroCells at hz;cases hq:P.info? el with
 |none=>simp[hq]at hz
 |some inf=>
  cases hzz:inf.zero with
  |none=>simp[hq,hzz]at hz
  |some z0=>
   refine fq hd hn (v:= .slice (some ⟨w.heap.size,0,none⟩) k k) (w':=w.alloc (.cells (vs.flatMap (·.cells.toList)).toArray el)) (fun a r=>?_) (hK _ _ (heap_alloc_new w _) (Fr.alloc w _) (Nat.le_refl _));have hparts:(ps.toArray.map fun(i,x)=>(i,a.eval x)).toList=(List.range' 0 vs.length).zip vs:=by
    rw[←hp,←r.evals hx];simp only[List.map_toArray,List.map_map];clear ho hx hp h1 hK hk;induction ps with
    |nil=>rfl
    |cons p ps ih=>obtain⟨i,x⟩:=p;simpa using ih
   have hfill: ∀zs:Array Value,zs.size=k*m→Instr.fill (fun i=>some (i*m,m)) zs ((List.range' 0 vs.length).zip vs)=some (vs.flatMap (·.cells.toList)).toArray:=fun zs hzs=>by
    have hpl: ∀i,0≤i→i<0+vs.length→((List.range vs.length).map fun i=>(i*m,m))[i]? =some (i*m,m):=fun i _ hi=>by
     rw[List.getElem?_map,List.getElem?_range (by omega)];rfl
    have hL:=pS (m:=m) vs 0 [] zs.toList hpl h1 (by simp) (by simp[hzs,hk]);simp only[List.nil_append]at hL;have hF:=fL _ _ _ _ hL;rw[Array.toArray_toList]at hF;rw[←hF];refine oY _ _ _ _ fun q hq=>?_;have:q.1<vs.length:=by
     have:=(List.of_mem_zip hq).1;rw[List.mem_range'_1]at this;omega
    have h2:=hpl q.1 (Nat.zero_le _) (by omega);simp only[List.getElem?_toArray];rw[h2]
   have hrun:=rA (P:=P) (w:=w) (t:=t) (e:=el) (len:=k) (ps.toArray.map fun(i,x)=>(i,a.eval x)) hu hs (by omega) z0 (by simp[zeroValue,typeInfo,hq,hzz]) _ (by rw[hparts];exact hfill _ (by simp));unfold execOp;simp only[ho,Sem.run_bind,hrun,Result.andThen_ok];rfl
theorem vD{s:bg}{k:Nat}: ∀{ps:List (Nat×Operand)} {j:Nat} {H:Hs U} {K:Hs U→List (TT U.ty s)→Prop},Bl [] R e s k ps j H K→bu U X (· =w) ρ n H→aU (Vw U X w ρ n H) R e ce→
  ∃H' xs,K H' xs∧bu U X (· =w) ρ n H'∧cH ρ n H w ρ n H' w∧ ∃vs,ce.evs (ps.map (·.2))=some vs∧ps.map (·.1)=List.range' j vs.length∧k=j+vs.length∧xs.length=vs.length∧aQ U (ak ρ H'++X) (· =w) s xs (vs.flatMap (·.cells.toList))∧ ∀v∈vs,v.cells.toList.length=aL U s
 | [],j,H,K,h,M,he=>by
  have h:(bif Nat.beq j k then K H []else False):=h;cases hb:Nat.beq j k with
  |false=>rw[hb]at h;exact h.elim
  |true=>
   rw[hb]at h;have:=Nat.eq_of_beq_eq_true hb;exact⟨H,[],h,M,M.stp0,[],rfl,rfl,by simp[this],rfl,.nil s,by simp⟩
 |(i,x)::ps,j,H,K,h,M,he=>by
  have h:(bif Nat.beq i j then ln [] R e x fun y=>xW s H y fun H a=>Bl [] R e s k ps (j+1) H fun H r=>K H (a::r)else False):=h;cases hb:Nat.beq i j with
  |false=>rw[hb]at h;exact h.elim
  |true=>
   rw[hb]at h;simp only[cond_true]at h;have hij:=Nat.eq_of_beq_eq_true hb;subst hij;obtain⟨y,h,hy⟩:=dF h he;obtain⟨v,e1,hv⟩:=hy (fun x hx=>by cases hx);obtain⟨H1,t,h,M1,s1,hd⟩:=n9 h M;obtain⟨H2,xs,h,M2,s2,vs,e2,e3,e4,e5,e6,e7⟩:=vD (ps:=ps) h M1 (he.step s1);have hd1:=aD.mv (s2.mv (X:=X)) (hd v hv);refine⟨H2,t::xs,h,M2,s1.trans s2,v::vs,?_,?_,?_,?_,?_,?_⟩
   ·simp only[List.map_cons,aI.evs,e1,e2]
   ·simp only[List.map_cons,e3,List.length_cons,List.range'_succ]
   ·rw[List.length_cons];omega
   ·rw[List.length_cons,List.length_cons,e5]
   ·rw[List.flatMap_cons];exact .cons s t xs _ _ hd1 hd1.length e6
   ·intro u hu;rcases List.mem_cons.1 hu with rfl|hu
    ·exact hd1.length
    ·exact e7 u hu
theorem qF{s:bg}{xs:List (TT U.ty s)}{el:Nat}{A:Option Addr}{c:Nat}{cs sp:List Value}{w':World}{Ka:AV U→Nat→Hs U→Prop}(hK:Ka (.v ⟨false,[(1,.own n 0)]⟩) (n+1) ((n,.row 0 s xs el)::H)){d:Nat}(hd:o.dst=some d)(M:bu U X (· =w) ρ n H)(hf:Fr [] w w')
  (hm:0<aL U s) (hden:aQ U (ak ρ H++X) (· =w) s xs cs) (how:Ow A xs.length c (aL U s) cs sp) (hblk: ∀g,ah A=some g→w'.heap[g]? =some (Cl (cs++sp) el)) (hg: ∀g,ah A=some g→w.heap.size≤g):
  ∃av n' H' ρ' cv,Ka av n' H'∧((d,(.slice A xs.length c:Value))::ce)=ce.dst o.dst cv∧pu (Vw U X w' ρ' n' H') av cv∧bu U X (· =w') ρ' n' H'∧cH ρ n H w ρ' n' H' w':=by
 have hb: ∀g',aq (cz ρ n ⟨A,c⟩) (n,(.row 0 s xs el:aM U))=some g'→w.heap.size≤g':=fun g' h=>hg g' (jK h);have st:=cH.push (ρ:=ρ) M.xd M.lt hf ⟨A,c⟩ (.row 0 s xs el:aM U) hb;refine⟨_,_,_,cz ρ n ⟨A,c⟩,_,hK,aI.dstS hd _,?_,M.push hf _ _ hb ⟨hm,cs,sp,aQ.mv (st.mv (X:=X)) hden,by rw[aG];exact how,fun g h w2 h2=>by subst h2;rw[aG]at h;exact hblk g h⟩,st⟩;refine ia ⟨Nat.lt_succ_self _,_,_,_,rfl,fun v' l m hr=>?_⟩;rw[qE]at hr;injection hr with hr;injection hr with h1 hr;injection hr with h2 h3;subst h1;subst h2;subst h3;exact⟨Nat.le_refl _,fun _=>⟨by rw[aG],rfl,by rw[aG]⟩⟩
theorem Gb{s:bg}{t k el:Nat}{ei:TI U}{ps:List (Nat×Operand)}{Ka:AV U→Nat→Hs U→Prop}(h:Bl [] R e s k ps 0 H fun H l=>Ka (.v ⟨false,[(1,.own n 0)]⟩) (n+1) ((n,.row 0 s l el)::H)){d:Nat}(ho:o.op= .buildSlice t k ps.toArray)(hd:o.dst=some d)(hn:Nat.blt d nt=true)
  (hes:ax P t=some (el,ei.sz)) (hei:aZ U P el ei) (hsz:ei.sz=aL U s) (hm:0<aL U s) (hbig:k*aL U s≤1000) (M:bu U X (· =w) ρ n H) (he:aU (Vw U X w ρ n H) R e ce):lE P nt U X w ρ n H ce o Ka:=by
 obtain⟨H1,xs,hK,M1,s1,vs,e1,e2,e3,e4,e5,e6⟩:=vD h M he;obtain⟨zs,hz,_,_⟩:=hei.zero;have e3:k=vs.length:=by omega
 refine Ga ho hd hn e1 e2 e3 (by rw[←hsz];exact hes) hz hbig e6 fun g w' hblk hf hg=>?_;have hkx:k=xs.length:=by omega
 rw[hkx];have:=qF (ce:=ce) (o:=o) (A:=some ⟨g,0,none⟩) (c:=xs.length) (sp:= []) hK hd M1 hf hm e5 ⟨e5.length,.inr ⟨g,rfl,by rw[List.append_nil];exact e5.length,Nat.le_refl _,by
  have:xs.length*1≤xs.length*aL U s:=Nat.mul_le_mul_left _ hm;rw[hkx]at hbig;unfold maxLen;omega⟩⟩ (fun g' h=>by rw[wV]at h;injection h with h;subst h;rw[List.append_nil];exact hblk) (fun g' h=>by rw[wV]at h;injection h with h;subst h;exact hg)
 obtain⟨av,n',H',ρ',cv,a1,a2,a3,a4,a5⟩:=this;exact⟨av,n',H',ρ',cv,a1,a2,a3,a4,s1.trans a5⟩
omit [ao]in
theorem qG{Y:List Nat}{S:World→Prop}{s:bg}{z:TT U.ty s}{zs:List Value}(hz:aD U Y S s z zs): ∀k:Nat,aQ U Y S s (List.replicate k z) (List.replicate k zs).flatten
 |0=> .nil s
 |k+1=>by rw[List.replicate_succ,List.replicate_succ,List.flatten_cons];exact .cons s z _ zs _ hz hz.length (qG hz k)
omit [ao]in
theorem yD{s:bg}{ei:TI U}(h:HR U s ei=true):ei.sz=aL U s∧0<aL U s∧0<ei.by_:=by
 unfold HR at h;simp only[Bool.and_eq_true,Nat.blt_eq]at h;exact⟨Nat.eq_of_beq_eq_true h.1.1,h.1.2,h.2⟩
theorem Gc{t:Nat}{q r:Int}{xo yo:Operand}{k1 k2:IntKind}{Ka:AV U→Nat→Hs U→Prop}(h:Ii T t H n q r Ka){d:Nat}(ho:o.op= .makeSlice t xo yo)(hd:o.dst=some d)(hn:Nat.blt d nt=true)(hx:ce.ev xo=some (.int k1 q))(hy:ce.ev yo=some (.int k2 r))(hT:bD U P T)(M:bu U X (· =w) ρ n H):lE P nt U X w ρ n H ce o Ka:=by
 obtain⟨el,ei,h,hu,hes,hei⟩:=nY h hT;split at h
 ·rename_i s hsh;cases hb:HR U s ei with
  |false=>rw[hb]at h;exact h.elim
  |true=>
   rw[hb]at h;simp only[cond_true]at h;obtain⟨h1,h2,h3⟩:=yD hb;obtain⟨z,h,hz⟩:=bE h;obtain⟨⟨q0,q1,q2,q3⟩,hK⟩:=h;obtain⟨zs,hzc,hzl,hzs⟩:=hei.zero;have hdz:=hz _ _ _ _ _ _ (hzs _ (ak ρ H++X) (· =w) ρ n H);obtain⟨a,rfl⟩:=Int.eq_ofNat_of_zero_le q0;obtain⟨b,rfl⟩:=Int.eq_ofNat_of_zero_le (show 0≤r by omega);simp only[Int.toNat_natCast]at hK q3;refine GT (l:=a) (c:=b) ho hd hn hx hy hes hzc hzl hei.by_ (by omega) (by omega) (by omega) (Hp.nil w) fun g w' hp hf hg=>?_;have hblk:w'.heap[g]? =some (Cl (List.replicate b zs).flatten el):=hp.at (i:=0) rfl;have hd1:=qG hdz a;have hl1:=hd1.length;have hl2:=(qG hdz b).length;have esp:(List.replicate b zs).flatten=(List.replicate a zs).flatten++(List.replicate (b - a) zs).flatten:=by
    rw[←List.flatten_append,List.replicate_append_replicate,show a+(b - a)=b by omega]
   rw[esp]at hblk;have:=qF (ce:=ce) (o:=o) (A:=some ⟨g,0,none⟩) (c:=b) (sp:=(List.replicate (b - a) zs).flatten) hK hd M hf h2 hd1 ⟨hl1,.inr ⟨g,rfl,by rw[←esp,hl2,List.length_replicate],by rw[List.length_replicate];omega,by unfold maxLen;omega⟩⟩ (fun g' h=>by rw[wV]at h;injection h with h;subst h;exact hblk) (fun g' h=>by rw[wV]at h;injection h with h;subst h;exact hg);rw[List.length_replicate]at this;exact this
 ·exact h.elim
theorem B1{s:bg}{y:Cx U}{K:List (TT U.ty s)→Prop}(h:FJ s H y K)(M:bu U X (· =w) ρ n H): ∃ys,K ys∧ ∀u,Vw U X w ρ n H y [u]→ ∃B c cs,u= .slice B ys.length c∧aQ U (ak ρ H++X) (· =w) s ys cs∧(∀ad,B=some ad→ ∀j u,cs[j]? =some u→w.cell? (ad.add j)=some u)∧(B=none→ys.length=0):=by
 unfold FJ at h;split at h
 ·refine⟨[],h,fun u hu=>?_⟩;have e: [u]= [Value.slice none 0 0]:=hu;injection e with e;subst e;exact⟨none,0,[],rfl,.nil s,fun ad h=>by(cases h),fun _=>rfl⟩
 ·obtain⟨s',ys,hK,hv⟩:=qA h M ⟨w,rfl⟩;split at hK
  ·rename_i ys' hc;obtain⟨g1,g2⟩:=dM _ _ _ _ _ hc;subst g1;have g2:ys=ys':=eq_of_heq g2;subst g2;refine⟨ys,hK,fun u hu=>?_⟩;obtain⟨A,c,cs,e,hd,hr⟩:=hv _ hu;injection e with e;exact⟨A,c,cs,e,hd,fun ad hA j u hj=>hr.src w rfl ad hA j u hj,hr.none_⟩
  ·exact hK.elim
theorem Gd{t:Nat}{x y:Cx U}{xo yo:Operand}{u0 u1:Value}{Ka:AV U→Nat→Hs U→Prop}(h:Ih T t H n x y Ka){d:Nat}(ho:o.op= .call {callee:= .builtin .append,args:= #[xo,yo],argTypes:= #[t,t]})(hd:o.dst=some d)(hn:Nat.blt d nt=true)(hx:ce.ev xo=some u0)(hy:ce.ev yo=some u1)(hu0:Vw U X w ρ n H x [u0])(hu1:Vw U X w ρ n H y [u1])(hT:bD U P T)(M:bu U X (· =w) ρ n H):lE P nt U X w ρ n H ce o Ka:=by
 obtain⟨el,ei,h,hu,hes,hei⟩:=nY h hT;split at h
 ·rename_i s hsh;cases hb:HR U s ei with
  |false=>rw[hb]at h;exact h.elim
  |true=>
   rw[hb]at h;simp only[cond_true]at h;obtain⟨h1,h2,h3⟩:=yD hb;obtain⟨ys,kk,hys⟩:=B1 h M;clear h;obtain⟨B,cB,ds,rfl,hdy,hsrc,hB⟩:=hys u1 hu1;obtain⟨zs,hzc,hzl,_⟩:=hei.zero;have hdyl:=hdy.length;split at kk
   ·obtain⟨hP,hK⟩:=kk;have e0: [u0]= [Value.slice none 0 0]:=hu0;injection e0 with e0;subst e0;have hbig:ys.length≤140737488355328:=Nat.le_trans (Nat.le_mul_of_pos_right _ h3) hP;refine mi (i:=0) (xs:= []) (sp:= []) (news:=ds) ho rfl hd hn hx hy hes hzc hzl hei.by_ (by omega) (Ow.nil _) (A5 _) rfl (by rw[h1];exact hdyl) hsrc hB hdy.one (by unfold maxLen;omega) (by rw[Nat.zero_add];exact hP) fun A' c' sp' w' how hp hf hg=>?_;rw[Nat.zero_add]at how⊢;rw[List.nil_append]at how hp;rw[h1]at how;exact qF hK hd M (by simpa[ah]using hf) h2 hdy how (fun g hg=>hp.at (i:=0) (by rw[hg];rfl)) (fun g hg'=>by rcases hg g hg' with h|h;(· cases h);exact h)
   ·rename_i i v;split at kk
    ·rename_i v' s' xs u hl;cases hbb:(Nat.beq v v'&&Nat.beq u el)with
     |false=>rw[hbb]at kk;exact kk.elim
     |true=>
      rw[hbb]at kk;simp only[cond_true]at kk;simp only[Bool.and_eq_true]at hbb;have hvv:=Nat.eq_of_beq_eq_true hbb.1;have huel:=Nat.eq_of_beq_eq_true hbb.2;subst hvv;subst huel;cases hc:eY U.ty List s' s xs with
      |none=>rw[hc]at kk;exact kk.elim
      |some xs'=>
       rw[hc]at kk;obtain⟨g1,g2⟩:=dM _ _ _ _ _ hc;have g1:=g1.symm;subst g1;have g2:xs=xs':=eq_of_heq g2;subst g2;obtain⟨hP,kk⟩:=kk;have hK:=dv kk;obtain⟨hm,cs,sp,hdx,how0,hw⟩:=M.ent _ (al hl);obtain⟨hi,A,l,c,e1,hnow⟩:=hu0;injection e1 with e1;subst e1;obtain⟨rfl,rfl,rfl⟩:=(hnow _ _ _ (by rw[hl];rfl)).2 rfl;have hbig:xs.length+ys.length≤140737488355328:=Nat.le_trans (Nat.le_mul_of_pos_right _ h3) hP;have hHp:Hp w [(ah (ρ i).A,Cl (cs++sp) u)]:=by
        cases hA:ah (ρ i).A with
        |none=>exact A5 _
        |some g=>exact xM (hw g hA w rfl)
       refine mi (i:=0) (xs:=cs) (sp:=sp) (news:=ds) ho rfl hd hn hx hy hes hzc hzl hei.by_ (by omega) (by rw[h1];exact how0) hHp rfl (by rw[h1];exact hdyl) hsrc hB hdy.one (by unfold maxLen;omega) hP fun A' c' sp' w' how hp hf hg=>?_;have hb0: ∀g',aq (cz ρ i ⟨A',c'⟩) (i,(.row (v+1) s (xs++ys) u:aM U))=some g'→aq ρ (i,(.row v s xs u:aM U))=some g'∨w.heap.size≤g':=fun g' h=>hg g' (jK h);have hr0: ∀v' l' m',bq (some (.row (v+1) s (xs++ys) u:aM U))=some (v',l',m')→ ∃v0 l m,bq (some (.row v s xs u:aM U))=some (v0,l,m)∧v0≤v'∧(v0=v'→(⟨A',c'⟩:Rz)=ρ i∧l'=l∧m'=m):=fun v' l' m' hr=>by
        injection hr with hr;injection hr with g1 hr;subst g1;exact⟨v,_,_,rfl,Nat.le_succ _,fun h=>by omega⟩
       have st:=cH.upd (n:=n) M.xd M.nd hl hf ⟨A',c'⟩ hb0 hr0 (fun h=>by cases h);have hden:=hdx.app hdy;have M':=M.upd hl hf ⟨A',c'⟩ hb0 hr0 (fun h=>by cases h) (by
        refine⟨hm,_,sp',aQ.mv (st.mv (X:=X)) hden,?_,fun g hg' w2 h2=>?_⟩
        ·rw[aG,List.length_append,←h1];exact how
        ·subst h2;rw[aG]at hg';exact hp.at (i:=0) (by rw[hg'];rfl))
       refine⟨_,_,_,_,_,hK,aI.dstS hd _,?_,M',st⟩;refine ia ⟨hi,_,_,_,rfl,fun v' l m hr=>?_⟩;rw[fS ⟨_,hl⟩,if_pos rfl]at hr;injection hr with hr;injection hr with g1 hr;injection hr with g2 g3;subst g1;subst g2;subst g3;exact⟨Nat.le_refl _,fun _=>⟨by rw[aG],by rw[List.length_append],by rw[aG]⟩⟩
    ·exact kk.elim
   ·exact kk.elim
 ·exact h.elim
end
end Go.Proofs.YtiliglahlfkikaaGreatDoor.V
end

section
set_option linter.unusedVariables false
set_option linter.unusedSimpArgs false
namespace Go.Proofs.YtiliglahlfkikaaGreatDoor.V
open Go.RowKit
def aJ{U:bQ}:Nat→List (aM U)→Hs U
 |_,[]=> []
 |j,x::r=>(j,x)::aJ (j+1) r
section
variable [F:ao] {U:bQ} {P:Program} {nt:Nat} {T:dL U} {X:List Nat} {w w':World} {ρ:Nat→Rz} {n:Nat} {H:Hs U} {R e:En U} {ce:aI} {o:Oper} {L:List Nat} {z:Bool} {Yc:List Nat}
omit [ao]in
theorem vE: ∀{es:List (aM U)} {j0 j:Nat},j0≤j→aF (aJ j0 es) j=es[j - j0]?
 | [],j0,j,h=>by simp[aJ,aF]
 |x::r,j0,j,h=>by
  unfold aJ aF;by_cases e:j0=j
  ·subst e;rw[Nat.beq_refl,Nat.sub_self];rfl
  ·rw[cM e,show j - j0=(j -(j0+1))+1 by omega];simp only[cond_false,List.getElem?_cons_succ];exact vE (by omega)
omit [ao]in
theorem eP{es:List (aM U)}{j:Nat}:aF (aJ 0 es) j=es[j]? :=by have:=vE (es:=es) (Nat.zero_le j);rwa [Nat.sub_zero]at this
omit [ao]in
theorem oc: ∀{es:List (aM U)} {j0:Nat},(aJ j0 es).map (·.1)=List.range' j0 es.length
 | [],j0=>rfl
 |x::r,j0=>by simp[aJ,oc (es:=r),List.range'_succ]
omit [ao]in
theorem dY{es:List (aM U)}{p:Nat×aM U}:p∈aJ 0 es↔es[p.1]? =some p.2:=by
 have nd:((aJ 0 es).map (·.1)).Nodup:=by rw[oc];exact List.nodup_range'
 constructor
 ·intro h;rw[←eP];exact dm nd h
 ·intro h;rw[←eP]at h;exact al h
def fT(ρ:Nat→Rz)(L:List Nat):Nat→Rz:=fun j=>match L[j]? with
 |some i=>ρ i
 |none=>⟨none,0⟩
omit [ao]in
theorem cI{j i:Nat}(h:L[j]? =some i):fT ρ L j=ρ i:=by unfold fT;rw[h]
def zv(z:Bool)(v:Nat):Nat:=bif z then 0 else v
omit [ao]in
theorem yE{v:Nat}{K:Nat→Prop}(h:zV z v K):K (zv z v):=by cases z<;>exact h
structure jL(z:Bool)(H:Hs U)(L:List Nat)(es:List (aM U)):Prop where
 len:es.length=L.length
 at_: ∀(j i:Nat),L[j]? =some i→ ∃x y,aF H i=some x∧es[j]? =some y∧(∀v' l m,bq (some y)=some (v',l,m)→ ∃v,bq (some x)=some (v,l,m)∧v'=zv z v)∧(bq (some x)=none→bq (some y)=none)
abbrev Vc(U:bQ)(Yc:List Nat)(w:World)(ρ:Nat→Rz)(L:List Nat)(es:List (aM U)):Cx U→List Value→Prop:=bi U Yc (· =w) (fT ρ L) es.length (aJ 0 es)
omit [ao]in
theorem j3{i:Nat}: ∀{L:List Nat} {c:Nat} {K:Nat→Prop},r8 L i c K→ ∃j,K (c+j)∧L[j]? =some i
 | [],c,K,h=>h.elim
 |a::L,c,K,h=>by
  have h:(bif Nat.beq a i then K c else r8 L i (c+1) K):=h;cases hb:Nat.beq a i with
  |true=>rw[hb]at h;exact⟨0,h,by rw[Nat.eq_of_beq_eq_true hb];rfl⟩
  |false=>
   rw[hb]at h;obtain⟨j,h1,h2⟩:=j3 (L:=L) h;exact⟨j+1,by rw[show c+(j+1)=c+1+j by omega];exact h1,by simpa using h2⟩
omit [ao]in
theorem bP{α:Type}{l:List α}{j:Nat}{x:α}(h:l[j]? =some x):j<l.length:=(List.getElem?_eq_some_iff.1 h).1
omit [ao]in
structure ui(U:bQ)(F0:ao)(X:List Nat)(w:World)(ρ:Nat→Rz)(n:Nat)(H:Hs U):Prop where
 nd:(H.map (·.1)).Nodup
 lt: ∀p∈H,p.1<n
 ent: ∀p∈H, @lz F0 U (ak ρ H++X) (· =w) ρ n H p.1 p.2
 inj: ∀p∈H,∀q∈H,∀g,aq ρ p=some g→aq ρ q=some g→p.1=q.1
 dj: ∀g∈ak ρ H,g∉X
 lo: ∀x∈X,x<w.heap.size
 xs: ∀x∈F0.xf,x∈X
 gv: @sg F0 (· =w)
 olt: ∀p∈H,∀g,aq ρ p=some g→g<w.heap.size
omit [ao]in
structure Ld{U:bQ}(ρ:Nat→Rz)(n:Nat)(H:Hs U)(w:World)(ρ':Nat→Rz)(n':Nat)(H':Hs U)(w':World):Prop where
 nn:n≤n'
 fr:Fr (ak ρ H) w w'
 nb: ∀g∈ak ρ' H',g∈ak ρ H∨w.heap.size≤g
 row: ∀i,i<n→ ∀v' l' m',bq (aF H' i)=some (v',l',m')→ ∃v l m,bq (aF H i)=some (v,l,m)∧v≤v'∧(v=v'→ρ' i=ρ i∧l'=l∧m'=m)
 cel: ∀i,i<n→bq (aF H i)=none→ρ' i=ρ i
omit [ao]in
theorem cH.i{F0:ao}{ρ':Nat→Rz}{n':Nat}{H':Hs U}(s: @cH F0 U ρ n H w ρ' n' H' w'):Ld ρ n H w ρ' n' H' w':=⟨s.nn,s.fr,s.nb,s.row,s.cel⟩
omit [ao]in
theorem bu.i{F0:ao}(M: @bu F0 U X (· =w) ρ n H):ui U F0 X w ρ n H:=⟨M.nd,M.lt,M.ent,M.inj,M.dj,M.lo w rfl,M.xs,M.gv,dT M⟩
omit [ao]in
theorem B3{x:Cx U}{K:Cx U→Prop}(h:ua z H L x K){F0:ao} [F:ao](M:ui U F0 X w ρ n H): ∃y,K y∧ ∀es Yc,(∀y∈Yc,y∈ak ρ H++X)→jL z H L es→ ∀vs,Vw U X w ρ n H x vs→Vc U Yc w ρ L es y vs:=by
 have mvY: ∀Yc:List Nat,(∀y∈Yc,y∈ak ρ H++X)→Mv (ak ρ H++X) (· =w) Yc (· =w):=fun Yc hY w2 h2=>⟨w2,[],h2,Fr.refl _ _,fun _ h=>(by cases h),fun y hy=> .inl (hY y hy)⟩;cases x with
 |own i v=>
  unfold ua at h;simp only at h;split at h
  ·rename_i v' s xs t hl;cases hb:Nat.beq v v' with
   |false=>
    rw[hb]at h;exact⟨.un,h,fun es Yc hY _ vs hv=>by obtain⟨_,A,l,c,e,_⟩:=hv;exact⟨_,e,rfl⟩⟩
   |true=>
    rw[hb]at h;have hvv:=Nat.eq_of_beq_eq_true hb;subst hvv;obtain⟨j,h,hj⟩:=j3 h;have h:=yE h;rw[Nat.zero_add]at h;refine⟨_,h,fun es Yc hY he vs hv=>?_⟩;obtain⟨hi,A,l,c,e,hn⟩:=hv;obtain⟨x',y',hx',hy',hr1,hr2⟩:=he.at_ j i hj;refine⟨bP hy',A,l,c,e,fun v' l' m' hr=>?_⟩;rw[eP,hy']at hr;obtain⟨v0,h1,h2⟩:=hr1 _ _ _ hr;rw[←hx']at h1;obtain⟨a1,a2⟩:=hn _ _ _ h1;rw[hl]at h1;injection h1 with h1;injection h1 with h1 _;subst h1;rw[h2,cI hj];exact⟨Nat.le_refl _,fun _=>a2 rfl⟩
  ·rename_i v' s xs hl;cases hb:Nat.beq v v' with
   |false=>
    rw[hb]at h;exact⟨.un,h,fun es Yc hY _ vs hv=>by obtain⟨_,A,l,c,e,_⟩:=hv;exact⟨_,e,rfl⟩⟩
   |true=>
    rw[hb]at h;have hvv:=Nat.eq_of_beq_eq_true hb;subst hvv;refine⟨_,h,fun es Yc hY he vs hv=>?_⟩;obtain⟨hi,A,l,c,e,hn⟩:=hv;obtain⟨rfl,rfl,rfl⟩:=(hn _ _ _ (by rw[hl];rfl)).2 rfl;obtain⟨hm,cs,hd,hrd,h1,h2⟩:=M.ent _ (al hl);subst e;exact aD.mv (mvY Yc hY) (aD.sl s xs _ _ cs hd hrd h1 h2)
  ·exact⟨.un,h,fun es Yc hY _ vs hv=>by obtain⟨_,A,l,c,e,_⟩:=hv;exact⟨_,e,rfl⟩⟩
 |ptr i off=>
  unfold ua at h;simp only at h;obtain⟨j,h,hj⟩:=j3 h;rw[Nat.zero_add]at h;refine⟨_,h,fun es Yc hY he vs hv=>?_⟩;obtain⟨hi,hr,g,hA,e⟩:=hv;obtain⟨x',y',hx',hy',hr1,hr2⟩:=he.at_ j i hj;exact⟨bP hy',by rw[eP,hy'];exact hr2 (by rw[←hx'];exact hr),g,by rw[cI hj];exact hA,e⟩
 |pel i v q off=>
  unfold ua at h;simp only at h;split at h
  ·rename_i v' s xs t hl;cases hb:Nat.beq v v' with
   |false=>
    rw[hb]at h;exact⟨.un,h,fun es Yc hY _ vs hv=>by obtain⟨_,a,e,_⟩:=hv;exact⟨_,e,rfl⟩⟩
   |true=>
    rw[hb]at h;have hvv:=Nat.eq_of_beq_eq_true hb;subst hvv;obtain⟨j,h,hj⟩:=j3 h;have h:=yE h;rw[Nat.zero_add]at h;refine⟨_,h,fun es Yc hY he vs hv=>?_⟩;obtain⟨hi,a,e,hn⟩:=hv;obtain⟨x',y',hx',hy',hr1,hr2⟩:=he.at_ j i hj;refine⟨bP hy',a,e,fun v' l' m' hr=>?_⟩;rw[eP,hy']at hr;obtain⟨v0,h1,h2⟩:=hr1 _ _ _ hr;rw[←hx']at h1;obtain⟨a1,a2⟩:=hn _ _ _ h1;rw[hl]at h1;injection h1 with h1;injection h1 with h1 _;subst h1;rw[h2,cI hj];exact⟨Nat.le_refl _,fun _=>a2 rfl⟩
  ·exact⟨.un,h,fun es Yc hY _ vs hv=>by obtain⟨_,a,e,_⟩:=hv;exact⟨_,e,rfl⟩⟩
 |pax i off k s q o=>exact⟨.un,h,fun es Yc hY _ vs hv=>by obtain⟨_,_,_,_,g,_,e⟩:=hv;exact⟨_,e,rfl⟩⟩
 |clo f js=>
  match js,h with
  | [],h=>exact⟨.un,h,fun es Yc hY _ vs hv=>⟨_,hv.1,rfl⟩⟩
  |_::_::_,h=>exact⟨.un,h,fun es Yc hY _ vs hv=>⟨_,hv.1,rfl⟩⟩
  |i:: [],h=>
   have h:r8 L i 0 fun j=>K (.clo f [j]):=h;obtain⟨j,h,hj⟩:=j3 h;rw[Nat.zero_add]at h;refine⟨_,h,fun es Yc hY he vs hv=>?_⟩;obtain⟨e,hall⟩:=hv;obtain⟨hi,hr,g,hA⟩:=hall i (by simp);obtain⟨x',y',hx',hy',hr1,hr2⟩:=he.at_ j i hj;exact⟨by rw[e];simp[cI hj],fun k hk=>by
    have hk:=List.mem_singleton.1 hk;subst hk;exact⟨bP hy',by rw[eP,hy'];exact hr2 (by rw[←hx'];exact hr),g,by rw[cI hj];exact hA⟩⟩
 |f1 a g=>exact⟨_,h,fun es Yc hY _ vs hv=>by obtain⟨u,e,hf⟩:=hv;exact⟨u,e,hf.mv (mvY Yc hY)⟩⟩
 |f2 a b g=>exact⟨_,h,fun es Yc hY _ vs hv=>by obtain⟨u,e,hf⟩:=hv;exact⟨u,e,hf.mv (mvY Yc hY)⟩⟩
 |mp i=>
  unfold ua at h;simp only at h;obtain⟨j,h,hj⟩:=j3 h;rw[Nat.zero_add]at h;refine⟨_,h,fun es Yc hY he vs hv=>?_⟩;obtain⟨hi,hr,g,hA,e⟩:=hv;obtain⟨x',y',hx',hy',hr1,hr2⟩:=he.at_ j i hj;exact⟨bP hy',by rw[eP,hy'];exact hr2 (by rw[←hx'];exact hr),g,by rw[cI hj];exact hA,e⟩
 |d s t=>exact⟨_,h,fun es Yc hY _ vs hv=>aD.mv (mvY Yc hY) hv⟩
 |pd s t=>exact⟨_,h,fun es Yc hY _ vs hv=>by obtain⟨g,b,us,e,hd,hr⟩:=hv;exact⟨g,b,us,e,aD.mv (mvY Yc hY) hd,hr.mv (mvY Yc hY)⟩⟩
 |nilp=>exact⟨_,h,fun es Yc hY _ vs hv=>hv⟩
 |nils=>exact⟨_,h,fun es Yc hY _ vs hv=>hv⟩
 |nilf=>exact⟨_,h,fun es Yc hY _ vs hv=>hv⟩
 |nilm=>exact⟨_,h,fun es Yc hY _ vs hv=>hv⟩
 |fn f=>exact⟨_,h,fun es Yc hY _ vs hv=>hv⟩
 |un=>exact⟨_,h,fun es Yc hY _ vs hv=>hv⟩
omit [ao]in
theorem lF{F0:ao} [F:ao](M:ui U F0 X w ρ n H): ∀{l:List (bW U)} {K:List (bW U)→Prop},pq z H L l K→ ∃l',K l'∧ ∀es Yc,(∀y∈Yc,y∈ak ρ H++X)→jL z H L es→ ∀vs,bR (Vw U X w ρ n H) l vs→bR (Vc U Yc w ρ L es) l' vs
 | [],K,h=>⟨[],h,fun _ _ _ _ _ hs=>hs⟩
 |(k,x)::l,K,h=>by
  have h:ua z H L x fun y=>pq z H L l fun r=>K ((k,y)::r):=h;obtain⟨y,h,hy⟩:=B3 h M;obtain⟨l',h,hl⟩:=lF M (l:=l) h;refine⟨_,h,fun es Yc hY he vs hs=>?_⟩;obtain⟨v1,v2,e,hk,hx,hr⟩:=hs;exact⟨v1,v2,e,hk,hy es Yc hY he _ hx,hl es Yc hY he _ hr⟩
omit [ao]in
theorem od{F0:ao} [F:ao](M:ui U F0 X w ρ n H): ∀{l:List (Va U)} {K:List (Va U)→Prop},sd z H L l K→ ∃l',K l'∧ ∀es Yc,(∀y∈Yc,y∈ak ρ H++X)→jL z H L es→ ∀vs,ch (Vw U X w ρ n H) l vs→ch (Vc U Yc w ρ L es) l' vs
 | [],K,h=>⟨[],h,fun _ _ _ _ _ hs=>hs⟩
 |x::l,K,h=>by
  have h:pq z H L x.l fun l1=>sd z H L l fun r=>K (⟨x.ag,l1⟩::r):=h;obtain⟨l1,h,h1⟩:=lF M h;obtain⟨l',h,hl⟩:=od M (l:=l) h;refine⟨_,h,fun es Yc hY he vs hs=>?_⟩;obtain⟨v,us,e,hx,hr⟩:=hs;refine⟨v,us,e,?_,hl es Yc hY he _ hr⟩;unfold cP at hx⊢;cases hag:x.ag with
  |true=>simp only[hag]at hx⊢;obtain⟨vs',e',hs'⟩:=hx;exact⟨vs',e',h1 es Yc hY he _ hs'⟩
  |false=>simp only[hag]at hx⊢;exact h1 es Yc hY he _ hx
def oe(U:bQ)(X:List Nat)(w:World)(ρ:Nat→Rz)(n:Nat)(H:Hs U)(z:Bool)(L:List Nat)(x y:aM U):Prop:=match x with
 | .cells l t=> ∃l',y= .cells l' t∧ ∀es Yc,(∀y∈Yc,y∈ak ρ H++X)→jL z H L es→ ∀vs,bR (Vw U X w ρ n H) l vs→bR (Vc U Yc w ρ L es) l' vs
 | .row v s xs t=>y= .row (zv z v) s xs t
 | .map d l=>y= .map d l
 | .mapr d l _ _ _=>y= .map d l
 |_=>y= .dead
omit [ao]in
theorem B4{F0:ao} [F:ao](M:ui U F0 X w ρ n H){x:aM U}{K:aM U→Prop}(h:FG z H L x K): ∃y,K y∧oe U X w ρ n H z L x y:=by
 cases x with
 |cells l t=>
  obtain⟨l',h,hl⟩:=lF M (show pq z H L l _ from h);exact⟨_,h,l',rfl,hl⟩
 |row v s xs t=>
  have h:zV z v fun v=>K (.row v s xs t):=h;exact⟨_,yE h,rfl⟩
 |frz v s xs=>exact⟨_,h,rfl⟩
 |map d l=>exact⟨_,h,rfl⟩
 |mapr d l r q g=>exact⟨_,h,rfl⟩
 |it i g=>exact⟨_,h,rfl⟩
 |clo f l=>exact⟨_,h,rfl⟩
 |hid v l m=>exact⟨_,h,rfl⟩
 |dead=>exact⟨_,h,rfl⟩
theorem oe.row{x y:aM U}(h:oe U X w ρ n H z L x y):(∀v' l m,bq (some y)=some (v',l,m)→ ∃v,bq (some x)=some (v,l,m)∧v'=zv z v)∧(bq (some x)=none→bq (some y)=none):=by
 cases x with
 |cells l t=>obtain⟨l',rfl,_⟩:=h;exact⟨fun _ _ _ h=>(by cases h),fun _=>rfl⟩
 |row v s xs t=>
  rw[show y=_ from h];refine⟨fun v' l m hr=>?_,fun hr=>by cases hr⟩;injection hr with hr;injection hr with h1 hr;exact⟨v,by rw[←hr];rfl,h1.symm⟩
 |_=>rw[show y=_ from h];exact⟨fun _ _ _ h=>(by cases h),fun _=>rfl⟩
omit [ao]in
theorem og{F0:ao} [F:ao](M:ui U F0 X w ρ n H): ∀{Q:List Nat} {K:List (aM U)→Prop},r9 z H L Q K→ ∃es,K es∧es.length=Q.length∧ ∀(j i:Nat),Q[j]? =some i→ ∃x y,aF H i=some x∧es[j]? =some y∧oe U X w ρ n H z L x y
 | [],K,h=>⟨[],h,rfl,fun j i hj=>by simp at hj⟩
 |i::Q,K,h=>by
  have h:(match aF H i with
   |some x=>FG z H L x fun y=>r9 z H L Q fun r=>K (y::r)
   |none=>False):=h
  split at h
  ·rename_i x hx;obtain⟨y,h,hy⟩:=B4 M h;obtain⟨es,h,hl,hes⟩:=og M (Q:=Q) h;refine⟨_,h,by simp[hl],fun j k hj=>?_⟩;cases j with
   |zero=>simp at hj;subst hj;exact⟨x,y,hx,rfl,hy⟩
   |succ j=>simp at hj;simpa using hes j k hj
  ·exact h.elim
theorem jL.of{es:List (aM U)}(hl:es.length=L.length)(h: ∀(j i:Nat),L[j]? =some i→ ∃x y,aF H i=some x∧es[j]? =some y∧oe U X w ρ n H z L x y):jL z H L es:=
 ⟨hl,fun j i hj=>by obtain⟨x,y,h1,h2,h3⟩:=h j i hj;exact⟨x,y,h1,h2,h3.row⟩⟩
omit [ao]in
theorem gK{i:Nat}: ∀{L:List Nat},iJ i L=false→i∉L
 | [],_=>by simp
 |j::L,h=>by
  have h:(Nat.beq j i||iJ i L)=false:=h;rw[Bool.or_eq_false_iff]at h;intro hm;rcases List.mem_cons.1 hm with rfl|hm
  ·rw[Nat.beq_refl]at h;cases h.1
  ·exact gK h.2 hm
omit [ao]in
theorem lG: ∀{L:List Nat},nu L=true→L.Nodup
 | [],_=>List.nodup_nil
 |i::L,h=>by
  have h:(bif iJ i L then false else nu L)=true:=h;cases hb:iJ i L with
  |true=>rw[hb]at h;cases h
  |false=>rw[hb]at h;exact List.nodup_cons.2 ⟨gK hb,lG h⟩
omit [ao]in
theorem qH: ∀{L:List Nat} {K:List Nat→Prop},Bp L K→K L
 | [],K,h=>h
 |x::L,K,h=>qH (L:=L) (K:=fun r=>K (x::r)) h
def Xo(ρ:Nat→Rz)(H:Hs U)(X:List Nat)(ρc:Nat→Rz)(Hc:Hs U):List Nat:=(ak ρ H++X).filter fun g=>decide (g∉ak ρc Hc)
theorem Ge{x y:aM U}{i j g:Nat}(hj:L[j]? =some i)(h:oe U X w ρ n H z L x y)(hg:aq (fT ρ L) (j,y)=some g):aq ρ (i,x)=some g:=by
 cases x with
 |cells l t=>obtain⟨l',rfl,_⟩:=h;unfold aq at hg⊢;simp only[cI hj]at hg;exact hg
 |row v s xs t=>rw[show y=_ from h]at hg;unfold aq at hg⊢;simp only[cI hj]at hg;exact hg
 |map d l=>rw[show y=_ from h]at hg;unfold aq at hg⊢;simp only[cI hj]at hg;exact hg
 |mapr d l r q gh=>rw[show y=_ from h]at hg;unfold aq at hg⊢;simp only[cI hj]at hg;exact hg
 |_=>rw[show y=_ from h]at hg;cases hg
end
end Go.Proofs.YtiliglahlfkikaaGreatDoor.V
end

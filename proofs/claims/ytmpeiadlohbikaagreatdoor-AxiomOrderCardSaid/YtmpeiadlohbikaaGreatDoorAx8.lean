/- Calls that may panic. -/
import Derived.Test.YtmpeiadlohbikaaGreatDoorAx7
import Derived.Test.YtmpeiadlohbikaaGreatDoorAx0
section
set_option linter.unusedVariables false
set_option linter.unusedSectionVars false
set_option linter.unusedSimpArgs false
namespace Go.Proofs.YtmpeiadlohbikaaGreatDoor.V
open Go.RowKit
theorem x4{w:World}{g:Nat}{o:Obj}(h:w.heap[g]? =some o):Hp w [(some g,o)]:=by
 refine⟨fun i g' o' hi=>?_,fun i j g' o1 o2 hi hj=>?_⟩
 ·cases i with
  |zero=>simp at hi;rw[←hi.1,←hi.2];exact h
  |succ i=>simp at hi
 ·cases i with
  |zero=>cases j with
   |zero=>rfl
   |succ j=>simp at hj
  |succ i=>simp at hi
theorem Cz{w:World}(o:Obj):Hp w [(none,o)]:=by
 refine⟨fun i g' o' hi=>?_,fun i j g' o1 o2 hi hj=>?_⟩
 ·cases i<;>simp at hi
 ·cases i<;>simp at hi
theorem lw{α:Type}{cs sp us:List α}{a m off:Nat}(h1:a+m≤cs.length)(h2:off+us.length≤m):
  (cs++sp).take (a+off)++us++(cs++sp).drop (a+off+us.length)=(cs.take a++(((cs.drop a).take m).take off++us++((cs.drop a).take m).drop (off+us.length))++cs.drop (a+m))++sp:=by
 have e1:(cs++sp).take (a+off)=cs.take a++((cs.drop a).take m).take off:=by
  rw[List.take_append_of_le_length (by omega),List.take_take,Nat.min_eq_left (by omega),←List.take_add]
 have e2:(cs++sp).drop (a+off+us.length)=((cs.drop a).take m).drop (off+us.length)++cs.drop (a+m)++sp:=by
  rw[List.drop_append_of_le_length (by omega)];have h3:cs.drop (a+off+us.length)=((cs.drop a).take m).drop (off+us.length)++cs.drop (a+m):=by
   rw[List.drop_take,List.drop_drop,←Nat.add_assoc];have:cs.drop (a+m)=(cs.drop (a+off+us.length)).drop (m -(off+us.length)):=by rw[List.drop_drop];congr 1;omega
   rw[this,List.take_append_drop]
  rw[h3]
 rw[e1,e2];simp only[List.append_assoc]
section
variable [bt] [am] {U:bG} {P:Program} {nt:Nat} {T:cM U} {X:List Nat} {w:World} {ρ:Nat→Rz} {n:Nat} {H:Hs U} {R e:En U} {ce:aG} {o:Oper}
theorem sS{t:Nat}{xo yo:Operand}{x:Cx U}{y:Va U}{u0 u:Value}{K:Hs U→Prop}(h:mT T t H x y K)(ho:o.op= .store t xo yo)(hd:o.dst=none)(hx:ce.ev xo=some u0)(hy:ce.ev yo=some u)(hu0:Vw U X w ρ n H x [u0])(hu:cC (Vw U X w ρ n H) y u)(hT:bg U P T)(M:bc U X (· =w) ρ n H):
  l8 P nt U X w ρ n H ce o fun _ n' H'=>n'=n∧K H':=by
 unfold mT at h;split at h
 ·rename_i ti hti;have hsz:=(hT _ _ hti).size;split at h
  ·rename_i i off;split at h
   ·rename_i l ty hl;cases hb:Nat.beq (jK y.l) ti.sz with
    |false=>rw[hb]at h;exact h.elim
    |true=>
     rw[hb]at h;simp only[cond_true]at h;have hb:=Nat.eq_of_beq_eq_true hb;obtain⟨l',hK,hs'⟩:=i7 h;have hK:=c5 hK;obtain⟨g,vs,hA,hs,hw⟩:=M.ent _ (ak hl);have hc:=hu.cells;have hcl:=hc.len;obtain⟨a1,a2⟩:=hs' _ _ _ _ _ _ _ hs hc (by omega);obtain⟨hi,hr,g',hA',e1⟩:=hu0;rw[hA]at hA';injection hA' with hA';injection hA' with hA';subst hA';injection e1 with e1;subst e1;refine ff (vs:=u.cells.toList) (i:=0) ho hd hx hy rfl (by rw[hcl,hb];exact hsz) hc.one (x4 (hw w rfl)) rfl a2 fun w' hp hf _=>?_;have hblk:w'.heap[g]? =some (Cl (vs.take off++u.cells.toList++vs.drop (off+u.cells.toList.length)) ty):=hp.at (i:=0) rfl;have hf':Fr (aq ρ (i,(.cells l ty:aJ U))).toList w w':=by
      unfold aq;simp only[hA];exact hf
     have hb0: ∀g',aq (ct ρ i (ρ i)) (i,(.cells l' ty:aJ U))=some g'→aq ρ (i,(.cells l ty:aJ U))=some g'∨w.heap.size≤g':=fun g' h=>by rw[aY]at h;exact .inl h
     have st:=bM.upd (n:=n) M.xd M.nd hl hf' (ρ i) hb0 (fun v' l' m' hr=>by cases hr) (fun _=>rfl);rw[aY]at st;have M':=M.upd hl hf' (ρ i) hb0 (fun v' l' m' hr=>by cases hr) (fun _=>rfl) (by
      rw[aY];exact⟨g,_,hA,a1.imp fun _ _ h=>h.step st,fun w2 h2=>by subst h2;exact hblk⟩)
     rw[aY]at M';exact⟨.un,n,_,ρ,undef,⟨rfl,hK⟩,by rw[hd];rfl,trivial,M',st⟩
   ·exact h.elim
  ·rename_i i v q off;obtain⟨H1,yl,h,M1,s1,c1⟩:=fm h M;split at h
   ·rename_i v' s xs ty hl;cases hb:(Nat.beq v v'&&Nat.beq (jK yl) ti.sz)with
    |false=>rw[hb]at h;exact h.elim
    |true=>
     rw[hb]at h;simp only[Bool.and_eq_true]at hb;simp only[cond_true]at h;have hvv:=Nat.eq_of_beq_eq_true hb.1;have hb2:=Nat.eq_of_beq_eq_true hb.2;subst hvv;obtain⟨x0,h,hix⟩:=iv h;obtain⟨l',h,hs'⟩:=i7 h;obtain⟨z,h,hz⟩:=bq h;have hK:=c5 h;obtain⟨hm,cs,sp,hd1,how,hw⟩:=M1.ent _ (ak hl);have hc:=c1 _ hu.cells;have hcl:=hc.len;obtain⟨hi,a,e1,hn⟩:=bd.step s1 hu0;obtain⟨g,hA,ha,hq0,hq1⟩:=(hn _ _ _ (by rw[hl];rfl)).2 rfl;injection e1 with e1;subst e1;subst ha;have hql:q.toNat<xs.length:=by omega
     have hxq:=hix _ (List.getElem?_eq_getElem hql);have hat:=hd1.at q.toNat _ (List.getElem?_eq_getElem hql);rw[←hxq]at hat;have hatl:=hat.length;obtain⟨a1,a2⟩:=hs' (af ρ H1++X) (· =w) ρ n H1 _ _ ⟨_,[],(List.append_nil _).symm,hatl,hat,rfl⟩ hc (by omega);rw[hatl]at a2;have hdz:=hz _ _ _ _ _ _ a1;have hmul:=n5 (m:=aM U s) hql;have hcsl:=hd1.length;have hdzl:=hdz.length;have hset:=hd1.set q.toNat z _ hdz hql;have sp0:=lw (cs:=cs) (sp:= []) (us:=u.cells.toList) (a:=q.toNat*aM U s) (m:=aM U s) (off:=off) (by omega) a2;simp only[List.append_nil]at sp0;rw[hdzl,←sp0]at hset;refine ff (vs:=u.cells.toList) (i:=0) ho hd hx hy rfl (by rw[hcl,hb2];exact hsz) hc.one (x4 (hw g (by rw[hA];rfl) w rfl)) rfl (by rw[List.length_append];omega) fun w' hp hf _=>?_;have hblk:w'.heap[g]? =some (Cl ((cs++sp).take (q.toNat*aM U s+off)++u.cells.toList++(cs++sp).drop (q.toNat*aM U s+off+u.cells.toList.length)) ty):=hp.at (i:=0) rfl;have esp:(cs++sp).take (q.toNat*aM U s+off)++u.cells.toList++(cs++sp).drop (q.toNat*aM U s+off+u.cells.toList.length)=(cs.take (q.toNat*aM U s+off)++u.cells.toList++cs.drop (q.toNat*aM U s+off+u.cells.toList.length))++sp:=by
      rw[List.take_append_of_le_length (by omega),List.drop_append_of_le_length (by omega)];simp only[List.append_assoc]
     rw[esp]at hblk;have hf':Fr (aq ρ (i,(.row v s xs ty:aJ U))).toList w w':=by
      unfold aq;simp only[hA];exact hf
     have hb0: ∀g',aq (ct ρ i (ρ i)) (i,(.row v s (xs.set q.toNat z) ty:aJ U))=some g'→aq ρ (i,(.row v s xs ty:aJ U))=some g'∨w.heap.size≤g':=fun g' h=>by rw[aY]at h;exact .inl h
     have hr0: ∀v' l' m',bk (some (.row v s (xs.set q.toNat z) ty:aJ U))=some (v',l',m')→ ∃v0 l m,bk (some (.row v s xs ty:aJ U))=some (v0,l,m)∧v0≤v'∧(v0=v'→ρ i=ρ i∧l'=l∧m'=m):=fun v' l' m' hr=>⟨v',l',m',by rw[←hr];simp only[bk,List.length_set],Nat.le_refl _,fun _=>⟨rfl,rfl,rfl⟩⟩;have st:=bM.upd (n:=n) M1.xd M1.nd hl hf' (ρ i) hb0 hr0 (fun _=>rfl);rw[aY]at st;have hsl:(cs.take (q.toNat*aM U s+off)++u.cells.toList++cs.drop (q.toNat*aM U s+off+u.cells.toList.length)).length=cs.length:=by
      rw[List.length_append,List.length_append,List.length_take,List.length_drop];omega
     have M':=M1.upd hl hf' (ρ i) hb0 hr0 (fun _=>rfl) (by
      rw[aY];refine⟨hm,_,sp,aT.mv (st.mv (X:=X)) hset,⟨?_,?_⟩,fun g' hg' w2 h2=>?_⟩
      ·rw[hsl,List.length_set];exact how.1
      ·rcases how.2 with⟨h0,_⟩|⟨g1,h3,h4,h5⟩
       ·rw[hA]at h0;cases h0
       ·refine .inr ⟨g1,h3,?_,by rw[List.length_set];exact h5⟩;rw[List.length_append,hsl,←List.length_append];exact h4
      ·subst h2;rw[hA]at hg';injection hg' with hg';subst hg';exact hblk)
     rw[aY]at M';exact⟨.un,n,_,ρ,undef,⟨rfl,hK⟩,by rw[hd];rfl,trivial,M',s1.trans st⟩
   ·exact h.elim
  ·rename_i i off k s q o';obtain⟨H1,yl,h,M1,s1,c1⟩:=fm h M;split at h
   ·rename_i l ty hl;cases hb:Nat.beq (jK yl) ti.sz with
    |false=>rw[hb]at h;exact h.elim
    |true=>
     rw[hb]at h;simp only[cond_true]at h;have hb2:=Nat.eq_of_beq_eq_true hb;obtain⟨la,h,hla⟩:=fG h;obtain⟨(xs:List (TT U.ty s)),h,hxs⟩:=bq h;obtain⟨x0,h,hix⟩:=iv h;obtain⟨l1,h,hs1⟩:=i7 h;obtain⟨z,h,hz⟩:=bq h;obtain⟨l',h,hs2⟩:=i7 h;have hK:=c5 h;obtain⟨g,vs,hA,hs,hw⟩:=M1.ent _ (ak hl);have hc:=c1 _ hu.cells;have hcl:=hc.len;obtain⟨hi,hr,hq0,hq1,g',hA',e1⟩:=bd.step s1 hu0;rw[hA]at hA';injection hA' with hA';injection hA' with hA';subst hA';injection e1 with e1;subst e1;obtain⟨b1,b2⟩:=hla _ _ _ _ _ _ hs;obtain⟨hd1,hd2⟩:=aC.inv (hxs _ _ _ _ _ _ b1);have hd2:xs.length=k:=hd2;have hql:q.toNat<xs.length:=by omega
     have hxq:=hix _ (List.getElem?_eq_getElem hql);have hat:=hd1.at q.toNat _ (List.getElem?_eq_getElem hql);rw[←hxq]at hat;have hatl:=hat.length;obtain⟨a1,a2⟩:=hs1 (af ρ H1++X) (· =w) ρ n H1 _ _ ⟨_,[],(List.append_nil _).symm,hatl,hat,rfl⟩ hc (by omega);rw[hatl]at a2;have hdz:=hz _ _ _ _ _ _ a1;have hmul:=n5 (m:=aM U s) hql;have hcsl:=hd1.length;rw[hd2]at hcsl hmul;have hdzl:=hdz.length;have hset:=hd1.set q.toNat z _ hdz hql;have sp0:=lw (cs:=(vs.drop off).take (k*aM U s)) (sp:= []) (us:=u.cells.toList) (a:=q.toNat*aM U s) (m:=aM U s) (off:=o') (by omega) a2;simp only[List.append_nil]at sp0;rw[hdzl,←sp0]at hset;have hden:=aC.arr (U:=U) k s (xs.set q.toNat z) _ hset (by rw[List.length_set];exact hd2);have hdl:_=k*aM U s:=hden.length;obtain⟨d1,d2⟩:=hs2 (af ρ H1++X) (· =w) ρ n H1 _ _ hs ⟨_,[],(List.append_nil _).symm,hdl,hden,rfl⟩ hdl;have e5:=lw (cs:=vs) (sp:= []) (us:=u.cells.toList) (a:=off) (m:=k*aM U s) (off:=q.toNat*aM U s+o') b2 (by omega);simp only[List.append_nil,←Nat.add_assoc]at e5;rw[hdl,←e5]at d1;refine ff (vs:=u.cells.toList) (i:=0) ho hd hx hy rfl (by rw[hcl,hb2];exact hsz) hc.one (x4 (hw w rfl)) rfl (by omega) fun w' hp hf _=>?_;have hblk:w'.heap[g]? =some (Cl (vs.take (off+q.toNat*aM U s+o')++u.cells.toList++vs.drop (off+q.toNat*aM U s+o'+u.cells.toList.length)) ty):=hp.at (i:=0) rfl;have hf':Fr (aq ρ (i,(.cells l ty:aJ U))).toList w w':=by
      unfold aq;simp only[hA];exact hf
     have hb0: ∀g',aq (ct ρ i (ρ i)) (i,(.cells l' ty:aJ U))=some g'→aq ρ (i,(.cells l ty:aJ U))=some g'∨w.heap.size≤g':=fun g' h=>by rw[aY]at h;exact .inl h
     have st:=bM.upd (n:=n) M1.xd M1.nd hl hf' (ρ i) hb0 (fun v' l' m' hr=>by cases hr) (fun _=>rfl);rw[aY]at st;have M':=M1.upd hl hf' (ρ i) hb0 (fun v' l' m' hr=>by cases hr) (fun _=>rfl) (by
      rw[aY];exact⟨g,_,hA,d1.imp fun _ _ h=>h.step st,fun w2 h2=>by subst h2;exact hblk⟩)
     rw[aY]at M';exact⟨.un,n,_,ρ,undef,⟨rfl,hK⟩,by rw[hd];rfl,trivial,M',s1.trans st⟩
   ·exact h.elim
  ·exact h.elim
 ·exact h.elim
end
end Go.Proofs.YtmpeiadlohbikaaGreatDoor.V
end

section
set_option linter.unusedVariables false
set_option linter.unusedSectionVars false
set_option linter.unusedSimpArgs false
namespace Go.Proofs.YtmpeiadlohbikaaGreatDoor.V
open Go.RowKit
theorem ql{m:Nat}{pls:List (Nat×Nat)}: ∀(us:List Value) (j:Nat) (pre rest:List Value),(∀i,j≤i→i<j+us.length→pls[i]? =some (i*m,m))→(∀v∈us,v.cells.toList.length=m)→pre.length=j*m→rest.length=us.length*m→
  lq pls (pre++rest) ((List.range' j us.length).zip us)=some (pre++us.flatMap (·.cells.toList))
 | [],j,pre,rest,_,_,_,hr=>by
  have:rest= []:=List.eq_nil_of_length_eq_zero (by simpa using hr);subst this;simp[lq]
 |v::us,j,pre,rest,hp,hm,hpre,hr=>by
  simp only[List.length_cons,List.range'_succ,List.zip_cons_cons,lq];rw[hp j (Nat.le_refl _) (by simp)];have hv:=hm v (by simp);have hrl:rest.length=us.length*m+m:=by rw[hr,List.length_cons,Nat.add_mul,Nat.one_mul]
  have b1:Nat.beq v.cells.toList.length m=true:=by rw[hv];exact Nat.beq_refl m
  have b2:Nat.ble (j*m+m) (pre++rest).length=true:=Nat.ble_eq_true_of_le (by rw[List.length_append];omega);simp only[b1,b2,Bool.and_self,cond_true];have e:(pre++rest).take (j*m)++(v.cells.toList++(pre++rest).drop (j*m+m))=(pre++v.cells.toList)++rest.drop m:=by
   rw[←hpre,List.take_left,List.drop_append,List.drop_of_length_le (by omega),List.nil_append,Nat.add_sub_cancel_left,List.append_assoc]
  rw[e,ql us (j+1) (pre++v.cells.toList) (rest.drop m) (fun i h1 h2=>hp i (by omega) (by simp only[List.length_cons];omega)) (fun u hu=>hm u (by simp[hu])) (by rw[List.length_append,hpre,hv,Nat.add_mul,Nat.one_mul]) (by rw[List.length_drop];omega)];simp
section
variable [bt] [am] {U:bG} {P:Program} {nt:Nat} {T:cM U} {X:List Nat} {w:World} {ρ:Nat→Rz} {n:Nat} {H:Hs U} {R e:En U} {ce:aG} {o:Oper} {K:aG→World→Prop}
omit [am]in
theorem yW{t el m k:Nat}{ps:List (Nat×Operand)}{vs z:List Value}(ho:o.op= .buildSlice t k ps.toArray){d:Nat}(hd:o.dst=some d)(hn:Nat.blt d nt=true)(hx:ce.evs (ps.map (·.2))=some vs)(hp:ps.map (·.1)=List.range' 0 vs.length)(hk:k=vs.length)(ht:ar P t=some (el,m))(hz:zeroCells P el=some z)
  (hlen:k*m≤1000) (h1: ∀v∈vs,v.cells.toList.length=m)
  (hK: ∀g w',w'.heap[g]? =some (Cl (vs.flatMap (·.cells.toList)) el)→Fr [] w w'→w.heap.size≤g→K ((d,(.slice (some ⟨g,0,none⟩) k k))::ce) w'):bH P nt ce w o K:=by
 obtain⟨hu,hs⟩:=bm ht;unfold zeroCells at hz;cases hq:P.info? el with
 |none=>simp[hq]at hz
 |some inf=>
  cases hzz:inf.zero with
  |none=>simp[hq,hzz]at hz
  |some z0=>
   refine eR hd hn (v:= .slice (some ⟨w.heap.size,0,none⟩) k k) (w':=w.alloc (.cells (vs.flatMap (·.cells.toList)).toArray el)) (fun a r=>?_) (hK _ _ (heap_alloc_new w _) (Fr.alloc w _) (Nat.le_refl _));have hparts:(ps.toArray.map fun(i,x)=>(i,a.eval x)).toList=(List.range' 0 vs.length).zip vs:=by
    rw[←hp,←r.evals hx];simp only[List.map_toArray,List.map_map];clear ho hx hp h1 hK hk;induction ps with
    |nil=>rfl
    |cons p ps ih=>obtain⟨i,x⟩:=p;simpa using ih
   have hfill: ∀zs:Array Value,zs.size=k*m→Instr.fill (fun i=>some (i*m,m)) zs ((List.range' 0 vs.length).zip vs)=some (vs.flatMap (·.cells.toList)).toArray:=fun zs hzs=>by
    have hpl: ∀i,0≤i→i<0+vs.length→((List.range vs.length).map fun i=>(i*m,m))[i]? =some (i*m,m):=fun i _ hi=>by
     rw[List.getElem?_map,List.getElem?_range (by omega)];rfl
    have hL:=ql (m:=m) vs 0 [] zs.toList hpl h1 (by simp) (by simp[hzs,hk]);simp only[List.nil_append]at hL;have hF:=fw _ _ _ _ hL;rw[Array.toArray_toList]at hF;rw[←hF];refine pw _ _ _ _ fun q hq=>?_;have:q.1<vs.length:=by
     have:=(List.of_mem_zip hq).1;rw[List.mem_range'_1]at this;omega
    have h2:=hpl q.1 (Nat.zero_le _) (by omega);simp only[List.getElem?_toArray];rw[h2]
   have hrun:=rY (P:=P) (w:=w) (t:=t) (e:=el) (len:=k) (ps.toArray.map fun(i,x)=>(i,a.eval x)) hu hs (by omega) z0 (by simp[zeroValue,typeInfo,hq,hzz]) _ (by rw[hparts];exact hfill _ (by simp));unfold execOp;simp only[ho,Sem.run_bind,hrun,Result.andThen_ok];rfl
theorem vY{s:aZ}{k:Nat}: ∀{ps:List (Nat×Operand)} {j:Nat} {H:Hs U} {K:Hs U→List (TT U.ty s)→Prop},BR [] R e s k ps j H K→bc U X (· =w) ρ n H→aI (Vw U X w ρ n H) R e ce→
  ∃H' xs,K H' xs∧bc U X (· =w) ρ n H'∧bM ρ n H w ρ n H' w∧ ∃vs,ce.evs (ps.map (·.2))=some vs∧ps.map (·.1)=List.range' j vs.length∧k=j+vs.length∧xs.length=vs.length∧aT U (af ρ H'++X) (· =w) s xs (vs.flatMap (·.cells.toList))∧ ∀v∈vs,v.cells.toList.length=aM U s
 | [],j,H,K,h,M,he=>by
  have h:(bif Nat.beq j k then K H []else False):=h;cases hb:Nat.beq j k with
  |false=>rw[hb]at h;exact h.elim
  |true=>
   rw[hb]at h;have:=Nat.eq_of_beq_eq_true hb;exact⟨H,[],h,M,M.stp0,[],rfl,rfl,by simp[this],rfl,.nil s,by simp⟩
 |(i,x)::ps,j,H,K,h,M,he=>by
  have h:(bif Nat.beq i j then kT [] R e x fun y=>yg s H y fun H a=>BR [] R e s k ps (j+1) H fun H r=>K H (a::r)else False):=h;cases hb:Nat.beq i j with
  |false=>rw[hb]at h;exact h.elim
  |true=>
   rw[hb]at h;simp only[cond_true]at h;have hij:=Nat.eq_of_beq_eq_true hb;subst hij;obtain⟨y,h,hy⟩:=cV h he;obtain⟨v,e1,hv⟩:=hy (fun x hx=>by cases hx);obtain⟨H1,t,h,M1,s1,hd⟩:=oK h M;obtain⟨H2,xs,h,M2,s2,vs,e2,e3,e4,e5,e6,e7⟩:=vY (ps:=ps) h M1 (he.step s1);have hd1:=aC.mv (s2.mv (X:=X)) (hd v hv);refine⟨H2,t::xs,h,M2,s1.trans s2,v::vs,?_,?_,?_,?_,?_,?_⟩
   ·simp only[List.map_cons,aG.evs,e1,e2]
   ·simp only[List.map_cons,e3,List.length_cons,List.range'_succ]
   ·rw[List.length_cons];omega
   ·rw[List.length_cons,List.length_cons,e5]
   ·rw[List.flatMap_cons];exact .cons s t xs _ _ hd1 hd1.length e6
   ·intro u hu;rcases List.mem_cons.1 hu with rfl|hu
    ·exact hd1.length
    ·exact e7 u hu
theorem q9{s:aZ}{xs:List (TT U.ty s)}{el:Nat}{A:Option Addr}{c:Nat}{cs sp:List Value}{w':World}{Ka:AV U→Nat→Hs U→Prop}(hK:Ka (.v ⟨false,[(1,.own n 0)]⟩) (n+1) ((n,.row 0 s xs el)::H)){d:Nat}(hd:o.dst=some d)(M:bc U X (· =w) ρ n H)(hf:Fr [] w w')
  (hm:0<aM U s) (hden:aT U (af ρ H++X) (· =w) s xs cs) (how:Ow A xs.length c (aM U s) cs sp) (hblk: ∀g,ah A=some g→w'.heap[g]? =some (Cl (cs++sp) el)) (hg: ∀g,ah A=some g→w.heap.size≤g):
  ∃av n' H' ρ' cv,Ka av n' H'∧((d,(.slice A xs.length c:Value))::ce)=ce.dst o.dst cv∧nF (Vw U X w' ρ' n' H') av cv∧bc U X (· =w') ρ' n' H'∧bM ρ n H w ρ' n' H' w':=by
 have hb: ∀g',aq (ct ρ n ⟨A,c⟩) (n,(.row 0 s xs el:aJ U))=some g'→w.heap.size≤g':=fun g' h=>hg g' (jM h);have st:=bM.push (ρ:=ρ) M.xd M.lt hf ⟨A,c⟩ (.row 0 s xs el:aJ U) hb;refine⟨_,_,_,ct ρ n ⟨A,c⟩,_,hK,aG.dstS hd _,?_,M.push hf _ _ hb ⟨hm,cs,sp,aT.mv (st.mv (X:=X)) hden,by rw[aO];exact how,fun g h w2 h2=>by subst h2;rw[aO]at h;exact hblk g h⟩,st⟩;refine gu ⟨Nat.lt_succ_self _,_,_,_,rfl,fun v' l m hr=>?_⟩;rw[nS]at hr;injection hr with hr;injection hr with h1 hr;injection hr with h2 h3;subst h1;subst h2;subst h3;exact⟨Nat.le_refl _,fun _=>⟨by rw[aO],rfl,by rw[aO]⟩⟩
theorem G3{s:aZ}{t k el:Nat}{ei:TI U}{ps:List (Nat×Operand)}{Ka:AV U→Nat→Hs U→Prop}(h:BR [] R e s k ps 0 H fun H l=>Ka (.v ⟨false,[(1,.own n 0)]⟩) (n+1) ((n,.row 0 s l el)::H)){d:Nat}(ho:o.op= .buildSlice t k ps.toArray)(hd:o.dst=some d)(hn:Nat.blt d nt=true)
  (hes:ar P t=some (el,ei.sz)) (hei:aU U P el ei) (hsz:ei.sz=aM U s) (hm:0<aM U s) (hbig:k*aM U s≤1000) (M:bc U X (· =w) ρ n H) (he:aI (Vw U X w ρ n H) R e ce):l8 P nt U X w ρ n H ce o Ka:=by
 obtain⟨H1,xs,hK,M1,s1,vs,e1,e2,e3,e4,e5,e6⟩:=vY h M he;obtain⟨zs,hz,_,_⟩:=hei.zero;have e3:k=vs.length:=by omega
 refine yW ho hd hn e1 e2 e3 (by rw[←hsz];exact hes) hz hbig e6 fun g w' hblk hf hg=>?_;have hkx:k=xs.length:=by omega
 rw[hkx];have:=q9 (ce:=ce) (o:=o) (A:=some ⟨g,0,none⟩) (c:=xs.length) (sp:= []) hK hd M1 hf hm e5 ⟨e5.length,.inr ⟨g,rfl,by rw[List.append_nil];exact e5.length,Nat.le_refl _,by
  have:xs.length*1≤xs.length*aM U s:=Nat.mul_le_mul_left _ hm;rw[hkx]at hbig;unfold maxLen;omega⟩⟩ (fun g' h=>by rw[xi]at h;injection h with h;subst h;rw[List.append_nil];exact hblk) (fun g' h=>by rw[xi]at h;injection h with h;subst h;exact hg)
 obtain⟨av,n',H',ρ',cv,a1,a2,a3,a4,a5⟩:=this;exact⟨av,n',H',ρ',cv,a1,a2,a3,a4,s1.trans a5⟩
omit [am]in
theorem rb{Y:List Nat}{S:World→Prop}{s:aZ}{z:TT U.ty s}{zs:List Value}(hz:aC U Y S s z zs): ∀k:Nat,aT U Y S s (List.replicate k z) (List.replicate k zs).flatten
 |0=> .nil s
 |k+1=>by rw[List.replicate_succ,List.replicate_succ,List.flatten_cons];exact .cons s z _ zs _ hz hz.length (rb hz k)
omit [am]in
theorem yX{s:aZ}{ei:TI U}(h:IY U s ei=true):ei.sz=aM U s∧0<aM U s∧0<ei.by_:=by
 unfold IY at h;simp only[Bool.and_eq_true,Nat.blt_eq]at h;exact⟨Nat.eq_of_beq_eq_true h.1.1,h.1.2,h.2⟩
theorem G4{t:Nat}{q r:Int}{xo yo:Operand}{k1 k2:IntKind}{Ka:AV U→Nat→Hs U→Prop}(h:Jk T t H n q r Ka){d:Nat}(ho:o.op= .makeSlice t xo yo)(hd:o.dst=some d)(hn:Nat.blt d nt=true)(hx:ce.ev xo=some (.int k1 q))(hy:ce.ev yo=some (.int k2 r))(hT:bg U P T)(M:bc U X (· =w) ρ n H):l8 P nt U X w ρ n H ce o Ka:=by
 obtain⟨el,ei,h,hu,hes,hei⟩:=m4 h hT;split at h
 ·rename_i s hsh;cases hb:IY U s ei with
  |false=>rw[hb]at h;exact h.elim
  |true=>
   rw[hb]at h;simp only[cond_true]at h;obtain⟨h1,h2,h3⟩:=yX hb;obtain⟨z,h,hz⟩:=bq h;obtain⟨⟨q0,q1,q2,q3⟩,hK⟩:=h;obtain⟨zs,hzc,hzl,hzs⟩:=hei.zero;have hdz:=hz _ _ _ _ _ _ (hzs _ (af ρ H++X) (· =w) ρ n H);obtain⟨a,rfl⟩:=Int.eq_ofNat_of_zero_le q0;obtain⟨b,rfl⟩:=Int.eq_ofNat_of_zero_le (show 0≤r by omega);simp only[Int.toNat_natCast]at hK q3;refine HT (l:=a) (c:=b) ho hd hn hx hy hes hzc hzl hei.by_ (by omega) (by omega) (by omega) (Hp.nil w) fun g w' hp hf hg=>?_;have hblk:w'.heap[g]? =some (Cl (List.replicate b zs).flatten el):=hp.at (i:=0) rfl;have hd1:=rb hdz a;have hl1:=hd1.length;have hl2:=(rb hdz b).length;have esp:(List.replicate b zs).flatten=(List.replicate a zs).flatten++(List.replicate (b - a) zs).flatten:=by
    rw[←List.flatten_append,List.replicate_append_replicate,show a+(b - a)=b by omega]
   rw[esp]at hblk;have:=q9 (ce:=ce) (o:=o) (A:=some ⟨g,0,none⟩) (c:=b) (sp:=(List.replicate (b - a) zs).flatten) hK hd M hf h2 hd1 ⟨hl1,.inr ⟨g,rfl,by rw[←esp,hl2,List.length_replicate],by rw[List.length_replicate];omega,by unfold maxLen;omega⟩⟩ (fun g' h=>by rw[xi]at h;injection h with h;subst h;exact hblk) (fun g' h=>by rw[xi]at h;injection h with h;subst h;exact hg);rw[List.length_replicate]at this;exact this
 ·exact h.elim
theorem CA{s:aZ}{y:Cx U}{K:List (TT U.ty s)→Prop}(h:Gz s H y K)(M:bc U X (· =w) ρ n H): ∃ys,K ys∧ ∀u,Vw U X w ρ n H y [u]→ ∃B c cs,u= .slice B ys.length c∧aT U (af ρ H++X) (· =w) s ys cs∧(∀ad,B=some ad→ ∀j u,cs[j]? =some u→w.cell? (ad.add j)=some u)∧(B=none→ys.length=0):=by
 unfold Gz at h;split at h
 ·refine⟨[],h,fun u hu=>?_⟩;have e: [u]= [Value.slice none 0 0]:=hu;injection e with e;subst e;exact⟨none,0,[],rfl,.nil s,fun ad h=>by(cases h),fun _=>rfl⟩
 ·obtain⟨s',ys,hK,hv⟩:=qX h M ⟨w,rfl⟩;split at hK
  ·rename_i ys' hc;obtain⟨g1,g2⟩:=di _ _ _ _ _ hc;subst g1;have g2:ys=ys':=eq_of_heq g2;subst g2;refine⟨ys,hK,fun u hu=>?_⟩;obtain⟨A,c,cs,e,hd,hr⟩:=hv _ hu;injection e with e;exact⟨A,c,cs,e,hd,fun ad hA j u hj=>hr.src w rfl ad hA j u hj,hr.none_⟩
  ·exact hK.elim
theorem G5{t:Nat}{x y:Cx U}{xo yo:Operand}{u0 u1:Value}{Ka:AV U→Nat→Hs U→Prop}(h:Jj T t H n x y Ka){d:Nat}(ho:o.op= .call {callee:= .builtin .append,args:= #[xo,yo],argTypes:= #[t,t]})(hd:o.dst=some d)(hn:Nat.blt d nt=true)(hx:ce.ev xo=some u0)(hy:ce.ev yo=some u1)(hu0:Vw U X w ρ n H x [u0])(hu1:Vw U X w ρ n H y [u1])(hT:bg U P T)(M:bc U X (· =w) ρ n H):l8 P nt U X w ρ n H ce o Ka:=by
 obtain⟨el,ei,h,hu,hes,hei⟩:=m4 h hT;split at h
 ·rename_i s hsh;cases hb:IY U s ei with
  |false=>rw[hb]at h;exact h.elim
  |true=>
   rw[hb]at h;simp only[cond_true]at h;obtain⟨h1,h2,h3⟩:=yX hb;obtain⟨ys,kk,hys⟩:=CA h M;clear h;obtain⟨B,cB,ds,rfl,hdy,hsrc,hB⟩:=hys u1 hu1;obtain⟨zs,hzc,hzl,_⟩:=hei.zero;have hdyl:=hdy.length;split at kk
   ·obtain⟨hP,hK⟩:=kk;have e0: [u0]= [Value.slice none 0 0]:=hu0;injection e0 with e0;subst e0;have hbig:ys.length≤140737488355328:=Nat.le_trans (Nat.le_mul_of_pos_right _ h3) hP;refine mI (i:=0) (xs:= []) (sp:= []) (news:=ds) ho rfl hd hn hx hy hes hzc hzl hei.by_ (by omega) (Ow.nil _) (Cz _) rfl (by rw[h1];exact hdyl) hsrc hB hdy.one (by unfold maxLen;omega) (by rw[Nat.zero_add];exact hP) fun A' c' sp' w' how hp hf hg=>?_;rw[Nat.zero_add]at how⊢;rw[List.nil_append]at how hp;rw[h1]at how;exact q9 hK hd M (by simpa[ah]using hf) h2 hdy how (fun g hg=>hp.at (i:=0) (by rw[hg];rfl)) (fun g hg'=>by rcases hg g hg' with h|h;(· cases h);exact h)
   ·rename_i i v;split at kk
    ·rename_i v' s' xs u hl;cases hbb:(Nat.beq v v'&&Nat.beq u el)with
     |false=>rw[hbb]at kk;exact kk.elim
     |true=>
      rw[hbb]at kk;simp only[cond_true]at kk;simp only[Bool.and_eq_true]at hbb;have hvv:=Nat.eq_of_beq_eq_true hbb.1;have huel:=Nat.eq_of_beq_eq_true hbb.2;subst hvv;subst huel;cases hc:ew U.ty List s' s xs with
      |none=>rw[hc]at kk;exact kk.elim
      |some xs'=>
       rw[hc]at kk;obtain⟨g1,g2⟩:=di _ _ _ _ _ hc;have g1:=g1.symm;subst g1;have g2:xs=xs':=eq_of_heq g2;subst g2;obtain⟨hP,kk⟩:=kk;have hK:=c5 kk;obtain⟨hm,cs,sp,hdx,how0,hw⟩:=M.ent _ (ak hl);obtain⟨hi,A,l,c,e1,hnow⟩:=hu0;injection e1 with e1;subst e1;obtain⟨rfl,rfl,rfl⟩:=(hnow _ _ _ (by rw[hl];rfl)).2 rfl;have hbig:xs.length+ys.length≤140737488355328:=Nat.le_trans (Nat.le_mul_of_pos_right _ h3) hP;have hHp:Hp w [(ah (ρ i).A,Cl (cs++sp) u)]:=by
        cases hA:ah (ρ i).A with
        |none=>exact Cz _
        |some g=>exact x4 (hw g hA w rfl)
       refine mI (i:=0) (xs:=cs) (sp:=sp) (news:=ds) ho rfl hd hn hx hy hes hzc hzl hei.by_ (by omega) (by rw[h1];exact how0) hHp rfl (by rw[h1];exact hdyl) hsrc hB hdy.one (by unfold maxLen;omega) hP fun A' c' sp' w' how hp hf hg=>?_;have hb0: ∀g',aq (ct ρ i ⟨A',c'⟩) (i,(.row (v+1) s (xs++ys) u:aJ U))=some g'→aq ρ (i,(.row v s xs u:aJ U))=some g'∨w.heap.size≤g':=fun g' h=>hg g' (jM h);have hr0: ∀v' l' m',bk (some (.row (v+1) s (xs++ys) u:aJ U))=some (v',l',m')→ ∃v0 l m,bk (some (.row v s xs u:aJ U))=some (v0,l,m)∧v0≤v'∧(v0=v'→(⟨A',c'⟩:Rz)=ρ i∧l'=l∧m'=m):=fun v' l' m' hr=>by
        injection hr with hr;injection hr with g1 hr;subst g1;exact⟨v,_,_,rfl,Nat.le_succ _,fun h=>by omega⟩
       have st:=bM.upd (n:=n) M.xd M.nd hl hf ⟨A',c'⟩ hb0 hr0 (fun h=>by cases h);have hden:=hdx.app hdy;have M':=M.upd hl hf ⟨A',c'⟩ hb0 hr0 (fun h=>by cases h) (by
        refine⟨hm,_,sp',aT.mv (st.mv (X:=X)) hden,?_,fun g hg' w2 h2=>?_⟩
        ·rw[aO,List.length_append,←h1];exact how
        ·subst h2;rw[aO]at hg';exact hp.at (i:=0) (by rw[hg'];rfl))
       refine⟨_,_,_,_,_,hK,aG.dstS hd _,?_,M',st⟩;refine gu ⟨hi,_,_,_,rfl,fun v' l m hr=>?_⟩;rw[fH ⟨_,hl⟩,if_pos rfl]at hr;injection hr with hr;injection hr with g1 hr;injection hr with g2 g3;subst g1;subst g2;subst g3;exact⟨Nat.le_refl _,fun _=>⟨by rw[aO],by rw[List.length_append],by rw[aO]⟩⟩
    ·exact kk.elim
   ·exact kk.elim
 ·exact h.elim
end
end Go.Proofs.YtmpeiadlohbikaaGreatDoor.V
end

section
set_option linter.unusedVariables false
set_option linter.unusedSimpArgs false
namespace Go.Proofs.YtmpeiadlohbikaaGreatDoor.V
open Go.RowKit
def ax{U:bG}:Nat→List (aJ U)→Hs U
 |_,[]=> []
 |j,x::r=>(j,x)::ax (j+1) r
section
variable [F:am] {U:bG} {P:Program} {nt:Nat} {T:cM U} {X:List Nat} {w w':World} {ρ:Nat→Rz} {n:Nat} {H:Hs U} {R e:En U} {ce:aG} {o:Oper} {L:List Nat} {z:Bool} {Yc:List Nat}
omit [am]in
theorem vZ: ∀{es:List (aJ U)} {j0 j:Nat},j0≤j→aD (ax j0 es) j=es[j - j0]?
 | [],j0,j,h=>by simp[ax,aD]
 |x::r,j0,j,h=>by
  unfold ax aD;by_cases e:j0=j
  ·subst e;rw[Nat.beq_refl,Nat.sub_self];rfl
  ·rw[cg e,show j - j0=(j -(j0+1))+1 by omega];simp only[cond_false,List.getElem?_cons_succ];exact vZ (by omega)
omit [am]in
theorem dZ{es:List (aJ U)}{j:Nat}:aD (ax 0 es) j=es[j]? :=by have:=vZ (es:=es) (Nat.zero_le j);rwa [Nat.sub_zero]at this
omit [am]in
theorem oM: ∀{es:List (aJ U)} {j0:Nat},(ax j0 es).map (·.1)=List.range' j0 es.length
 | [],j0=>rfl
 |x::r,j0=>by simp[ax,oM (es:=r),List.range'_succ]
omit [am]in
theorem dw{es:List (aJ U)}{p:Nat×aJ U}:p∈ax 0 es↔es[p.1]? =some p.2:=by
 have nd:((ax 0 es).map (·.1)).Nodup:=by rw[oM];exact List.nodup_range'
 constructor
 ·intro h;rw[←dZ];exact cW nd h
 ·intro h;rw[←dZ]at h;exact ak h
def fI(ρ:Nat→Rz)(L:List Nat):Nat→Rz:=fun j=>match L[j]? with
 |some i=>ρ i
 |none=>⟨none,0⟩
omit [am]in
theorem cu{j i:Nat}(h:L[j]? =some i):fI ρ L j=ρ i:=by unfold fI;rw[h]
def zv(z:Bool)(v:Nat):Nat:=bif z then 0 else v
omit [am]in
theorem yY{v:Nat}{K:Nat→Prop}(h:zV z v K):K (zv z v):=by cases z<;>exact h
structure jz(z:Bool)(H:Hs U)(L:List Nat)(es:List (aJ U)):Prop where
 len:es.length=L.length
 at_: ∀(j i:Nat),L[j]? =some i→ ∃x y,aD H i=some x∧es[j]? =some y∧(∀v' l m,bk (some y)=some (v',l,m)→ ∃v,bk (some x)=some (v,l,m)∧v'=zv z v)∧(bk (some x)=none→bk (some y)=none)
abbrev Vc(U:bG)(Yc:List Nat)(w:World)(ρ:Nat→Rz)(L:List Nat)(es:List (aJ U)):Cx U→List Value→Prop:=bd U Yc (· =w) (fI ρ L) es.length (ax 0 es)
omit [am]in
theorem ku{i:Nat}: ∀{L:List Nat} {c:Nat} {K:Nat→Prop},sG L i c K→ ∃j,K (c+j)∧L[j]? =some i
 | [],c,K,h=>h.elim
 |a::L,c,K,h=>by
  have h:(bif Nat.beq a i then K c else sG L i (c+1) K):=h;cases hb:Nat.beq a i with
  |true=>rw[hb]at h;exact⟨0,h,by rw[Nat.eq_of_beq_eq_true hb];rfl⟩
  |false=>
   rw[hb]at h;obtain⟨j,h1,h2⟩:=ku (L:=L) h;exact⟨j+1,by rw[show c+(j+1)=c+1+j by omega];exact h1,by simpa using h2⟩
omit [am]in
theorem bJ{α:Type}{l:List α}{j:Nat}{x:α}(h:l[j]? =some x):j<l.length:=(List.getElem?_eq_some_iff.1 h).1
omit [am]in
structure uz(U:bG)(F0:am)(X:List Nat)(w:World)(ρ:Nat→Rz)(n:Nat)(H:Hs U):Prop where
 nd:(H.map (·.1)).Nodup
 lt: ∀p∈H,p.1<n
 ent: ∀p∈H, @lX F0 U (af ρ H++X) (· =w) ρ n H p.1 p.2
 inj: ∀p∈H,∀q∈H,∀g,aq ρ p=some g→aq ρ q=some g→p.1=q.1
 dj: ∀g∈af ρ H,g∉X
 lo: ∀x∈X,x<w.heap.size
 xs: ∀x∈F0.xf,x∈X
 gv: @sK F0 (· =w)
 olt: ∀p∈H,∀g,aq ρ p=some g→g<w.heap.size
omit [am]in
structure M9{U:bG}(ρ:Nat→Rz)(n:Nat)(H:Hs U)(w:World)(ρ':Nat→Rz)(n':Nat)(H':Hs U)(w':World):Prop where
 nn:n≤n'
 fr:Fr (af ρ H) w w'
 nb: ∀g∈af ρ' H',g∈af ρ H∨w.heap.size≤g
 row: ∀i,i<n→ ∀v' l' m',bk (aD H' i)=some (v',l',m')→ ∃v l m,bk (aD H i)=some (v,l,m)∧v≤v'∧(v=v'→ρ' i=ρ i∧l'=l∧m'=m)
 cel: ∀i,i<n→bk (aD H i)=none→ρ' i=ρ i
omit [am]in
theorem bM.i{F0:am}{ρ':Nat→Rz}{n':Nat}{H':Hs U}(s: @bM F0 U ρ n H w ρ' n' H' w'):M9 ρ n H w ρ' n' H' w':=⟨s.nn,s.fr,s.nb,s.row,s.cel⟩
omit [am]in
theorem bc.i{F0:am}(M: @bc F0 U X (· =w) ρ n H):uz U F0 X w ρ n H:=⟨M.nd,M.lt,M.ent,M.inj,M.dj,M.lo w rfl,M.xs,M.gv,de M⟩
omit [am]in
theorem CB{x:Cx U}{K:Cx U→Prop}(h:uq z H L x K){F0:am} [F:am](M:uz U F0 X w ρ n H): ∃y,K y∧ ∀es Yc,(∀y∈Yc,y∈af ρ H++X)→jz z H L es→ ∀vs,Vw U X w ρ n H x vs→Vc U Yc w ρ L es y vs:=by
 have mvY: ∀Yc:List Nat,(∀y∈Yc,y∈af ρ H++X)→Mv (af ρ H++X) (· =w) Yc (· =w):=fun Yc hY w2 h2=>⟨w2,[],h2,Fr.refl _ _,fun _ h=>(by cases h),fun y hy=> .inl (hY y hy)⟩;cases x with
 |own i v=>
  unfold uq at h;simp only at h;split at h
  ·rename_i v' s xs t hl;cases hb:Nat.beq v v' with
   |false=>
    rw[hb]at h;exact⟨.un,h,fun es Yc hY _ vs hv=>by obtain⟨_,A,l,c,e,_⟩:=hv;exact⟨_,e,rfl⟩⟩
   |true=>
    rw[hb]at h;have hvv:=Nat.eq_of_beq_eq_true hb;subst hvv;obtain⟨j,h,hj⟩:=ku h;have h:=yY h;rw[Nat.zero_add]at h;refine⟨_,h,fun es Yc hY he vs hv=>?_⟩;obtain⟨hi,A,l,c,e,hn⟩:=hv;obtain⟨x',y',hx',hy',hr1,hr2⟩:=he.at_ j i hj;refine⟨bJ hy',A,l,c,e,fun v' l' m' hr=>?_⟩;rw[dZ,hy']at hr;obtain⟨v0,h1,h2⟩:=hr1 _ _ _ hr;rw[←hx']at h1;obtain⟨a1,a2⟩:=hn _ _ _ h1;rw[hl]at h1;injection h1 with h1;injection h1 with h1 _;subst h1;rw[h2,cu hj];exact⟨Nat.le_refl _,fun _=>a2 rfl⟩
  ·rename_i v' s xs hl;cases hb:Nat.beq v v' with
   |false=>
    rw[hb]at h;exact⟨.un,h,fun es Yc hY _ vs hv=>by obtain⟨_,A,l,c,e,_⟩:=hv;exact⟨_,e,rfl⟩⟩
   |true=>
    rw[hb]at h;have hvv:=Nat.eq_of_beq_eq_true hb;subst hvv;refine⟨_,h,fun es Yc hY he vs hv=>?_⟩;obtain⟨hi,A,l,c,e,hn⟩:=hv;obtain⟨rfl,rfl,rfl⟩:=(hn _ _ _ (by rw[hl];rfl)).2 rfl;obtain⟨hm,cs,hd,hrd,h1,h2⟩:=M.ent _ (ak hl);subst e;exact aC.mv (mvY Yc hY) (aC.sl s xs _ _ cs hd hrd h1 h2)
  ·exact⟨.un,h,fun es Yc hY _ vs hv=>by obtain⟨_,A,l,c,e,_⟩:=hv;exact⟨_,e,rfl⟩⟩
 |ptr i off=>
  unfold uq at h;simp only at h;obtain⟨j,h,hj⟩:=ku h;rw[Nat.zero_add]at h;refine⟨_,h,fun es Yc hY he vs hv=>?_⟩;obtain⟨hi,hr,g,hA,e⟩:=hv;obtain⟨x',y',hx',hy',hr1,hr2⟩:=he.at_ j i hj;exact⟨bJ hy',by rw[dZ,hy'];exact hr2 (by rw[←hx'];exact hr),g,by rw[cu hj];exact hA,e⟩
 |pel i v q off=>
  unfold uq at h;simp only at h;split at h
  ·rename_i v' s xs t hl;cases hb:Nat.beq v v' with
   |false=>
    rw[hb]at h;exact⟨.un,h,fun es Yc hY _ vs hv=>by obtain⟨_,a,e,_⟩:=hv;exact⟨_,e,rfl⟩⟩
   |true=>
    rw[hb]at h;have hvv:=Nat.eq_of_beq_eq_true hb;subst hvv;obtain⟨j,h,hj⟩:=ku h;have h:=yY h;rw[Nat.zero_add]at h;refine⟨_,h,fun es Yc hY he vs hv=>?_⟩;obtain⟨hi,a,e,hn⟩:=hv;obtain⟨x',y',hx',hy',hr1,hr2⟩:=he.at_ j i hj;refine⟨bJ hy',a,e,fun v' l' m' hr=>?_⟩;rw[dZ,hy']at hr;obtain⟨v0,h1,h2⟩:=hr1 _ _ _ hr;rw[←hx']at h1;obtain⟨a1,a2⟩:=hn _ _ _ h1;rw[hl]at h1;injection h1 with h1;injection h1 with h1 _;subst h1;rw[h2,cu hj];exact⟨Nat.le_refl _,fun _=>a2 rfl⟩
  ·exact⟨.un,h,fun es Yc hY _ vs hv=>by obtain⟨_,a,e,_⟩:=hv;exact⟨_,e,rfl⟩⟩
 |pax i off k s q o=>exact⟨.un,h,fun es Yc hY _ vs hv=>by obtain⟨_,_,_,_,g,_,e⟩:=hv;exact⟨_,e,rfl⟩⟩
 |clo f js=>
  match js,h with
  | [],h=>exact⟨.un,h,fun es Yc hY _ vs hv=>⟨_,hv.1,rfl⟩⟩
  |_::_::_,h=>exact⟨.un,h,fun es Yc hY _ vs hv=>⟨_,hv.1,rfl⟩⟩
  |i:: [],h=>
   have h:sG L i 0 fun j=>K (.clo f [j]):=h;obtain⟨j,h,hj⟩:=ku h;rw[Nat.zero_add]at h;refine⟨_,h,fun es Yc hY he vs hv=>?_⟩;obtain⟨e,hall⟩:=hv;obtain⟨hi,hr,g,hA⟩:=hall i (by simp);obtain⟨x',y',hx',hy',hr1,hr2⟩:=he.at_ j i hj;exact⟨by rw[e];simp[cu hj],fun k hk=>by
    have hk:=List.mem_singleton.1 hk;subst hk;exact⟨bJ hy',by rw[dZ,hy'];exact hr2 (by rw[←hx'];exact hr),g,by rw[cu hj];exact hA⟩⟩
 |f1 a g=>exact⟨_,h,fun es Yc hY _ vs hv=>by obtain⟨u,e,hf⟩:=hv;exact⟨u,e,hf.mv (mvY Yc hY)⟩⟩
 |f2 a b g=>exact⟨_,h,fun es Yc hY _ vs hv=>by obtain⟨u,e,hf⟩:=hv;exact⟨u,e,hf.mv (mvY Yc hY)⟩⟩
 |mp i=>
  unfold uq at h;simp only at h;obtain⟨j,h,hj⟩:=ku h;rw[Nat.zero_add]at h;refine⟨_,h,fun es Yc hY he vs hv=>?_⟩;obtain⟨hi,hr,g,hA,e⟩:=hv;obtain⟨x',y',hx',hy',hr1,hr2⟩:=he.at_ j i hj;exact⟨bJ hy',by rw[dZ,hy'];exact hr2 (by rw[←hx'];exact hr),g,by rw[cu hj];exact hA,e⟩
 |d s t=>exact⟨_,h,fun es Yc hY _ vs hv=>aC.mv (mvY Yc hY) hv⟩
 |pd s t=>exact⟨_,h,fun es Yc hY _ vs hv=>by obtain⟨g,b,us,e,hd,hr⟩:=hv;exact⟨g,b,us,e,aC.mv (mvY Yc hY) hd,hr.mv (mvY Yc hY)⟩⟩
 |nilp=>exact⟨_,h,fun es Yc hY _ vs hv=>hv⟩
 |nils=>exact⟨_,h,fun es Yc hY _ vs hv=>hv⟩
 |nilf=>exact⟨_,h,fun es Yc hY _ vs hv=>hv⟩
 |nilm=>exact⟨_,h,fun es Yc hY _ vs hv=>hv⟩
 |fn f=>exact⟨_,h,fun es Yc hY _ vs hv=>hv⟩
 |un=>exact⟨_,h,fun es Yc hY _ vs hv=>hv⟩
omit [am]in
theorem kw{F0:am} [F:am](M:uz U F0 X w ρ n H): ∀{l:List (bU U)} {K:List (bU U)→Prop},nR z H L l K→ ∃l',K l'∧ ∀es Yc,(∀y∈Yc,y∈af ρ H++X)→jz z H L es→ ∀vs,bI (Vw U X w ρ n H) l vs→bI (Vc U Yc w ρ L es) l' vs
 | [],K,h=>⟨[],h,fun _ _ _ _ _ hs=>hs⟩
 |(k,x)::l,K,h=>by
  have h:uq z H L x fun y=>nR z H L l fun r=>K ((k,y)::r):=h;obtain⟨y,h,hy⟩:=CB h M;obtain⟨l',h,hl⟩:=kw M (l:=l) h;refine⟨_,h,fun es Yc hY he vs hs=>?_⟩;obtain⟨v1,v2,e,hk,hx,hr⟩:=hs;exact⟨v1,v2,e,hk,hy es Yc hY he _ hx,hl es Yc hY he _ hr⟩
omit [am]in
theorem oN{F0:am} [F:am](M:uz U F0 X w ρ n H): ∀{l:List (Va U)} {K:List (Va U)→Prop},sH z H L l K→ ∃l',K l'∧ ∀es Yc,(∀y∈Yc,y∈af ρ H++X)→jz z H L es→ ∀vs,bK (Vw U X w ρ n H) l vs→bK (Vc U Yc w ρ L es) l' vs
 | [],K,h=>⟨[],h,fun _ _ _ _ _ hs=>hs⟩
 |x::l,K,h=>by
  have h:nR z H L x.l fun l1=>sH z H L l fun r=>K (⟨x.ag,l1⟩::r):=h;obtain⟨l1,h,h1⟩:=kw M h;obtain⟨l',h,hl⟩:=oN M (l:=l) h;refine⟨_,h,fun es Yc hY he vs hs=>?_⟩;obtain⟨v,us,e,hx,hr⟩:=hs;refine⟨v,us,e,?_,hl es Yc hY he _ hr⟩;unfold cC at hx⊢;cases hag:x.ag with
  |true=>simp only[hag]at hx⊢;obtain⟨vs',e',hs'⟩:=hx;exact⟨vs',e',h1 es Yc hY he _ hs'⟩
  |false=>simp only[hag]at hx⊢;exact h1 es Yc hY he _ hx
def oO(U:bG)(X:List Nat)(w:World)(ρ:Nat→Rz)(n:Nat)(H:Hs U)(z:Bool)(L:List Nat)(x y:aJ U):Prop:=match x with
 | .cells l t=> ∃l',y= .cells l' t∧ ∀es Yc,(∀y∈Yc,y∈af ρ H++X)→jz z H L es→ ∀vs,bI (Vw U X w ρ n H) l vs→bI (Vc U Yc w ρ L es) l' vs
 | .row v s xs t=>y= .row (zv z v) s xs t
 | .map d l=>y= .map d l
 | .mapr d l _ _ _=>y= .map d l
 |_=>y= .dead
omit [am]in
theorem CC{F0:am} [F:am](M:uz U F0 X w ρ n H){x:aJ U}{K:aJ U→Prop}(h:Gx z H L x K): ∃y,K y∧oO U X w ρ n H z L x y:=by
 cases x with
 |cells l t=>
  obtain⟨l',h,hl⟩:=kw M (show nR z H L l _ from h);exact⟨_,h,l',rfl,hl⟩
 |row v s xs t=>
  have h:zV z v fun v=>K (.row v s xs t):=h;exact⟨_,yY h,rfl⟩
 |frz v s xs=>exact⟨_,h,rfl⟩
 |map d l=>exact⟨_,h,rfl⟩
 |mapr d l r q g=>exact⟨_,h,rfl⟩
 |it i g=>exact⟨_,h,rfl⟩
 |clo f l=>exact⟨_,h,rfl⟩
 |hid v l m=>exact⟨_,h,rfl⟩
 |dead=>exact⟨_,h,rfl⟩
theorem oO.row{x y:aJ U}(h:oO U X w ρ n H z L x y):(∀v' l m,bk (some y)=some (v',l,m)→ ∃v,bk (some x)=some (v,l,m)∧v'=zv z v)∧(bk (some x)=none→bk (some y)=none):=by
 cases x with
 |cells l t=>obtain⟨l',rfl,_⟩:=h;exact⟨fun _ _ _ h=>(by cases h),fun _=>rfl⟩
 |row v s xs t=>
  rw[show y=_ from h];refine⟨fun v' l m hr=>?_,fun hr=>by cases hr⟩;injection hr with hr;injection hr with h1 hr;exact⟨v,by rw[←hr];rfl,h1.symm⟩
 |_=>rw[show y=_ from h];exact⟨fun _ _ _ h=>(by cases h),fun _=>rfl⟩
omit [am]in
theorem oP{F0:am} [F:am](M:uz U F0 X w ρ n H): ∀{Q:List Nat} {K:List (aJ U)→Prop},qf z H L Q K→ ∃es,K es∧es.length=Q.length∧ ∀(j i:Nat),Q[j]? =some i→ ∃x y,aD H i=some x∧es[j]? =some y∧oO U X w ρ n H z L x y
 | [],K,h=>⟨[],h,rfl,fun j i hj=>by simp at hj⟩
 |i::Q,K,h=>by
  have h:(match aD H i with
   |some x=>Gx z H L x fun y=>qf z H L Q fun r=>K (y::r)
   |none=>False):=h
  split at h
  ·rename_i x hx;obtain⟨y,h,hy⟩:=CC M h;obtain⟨es,h,hl,hes⟩:=oP M (Q:=Q) h;refine⟨_,h,by simp[hl],fun j k hj=>?_⟩;cases j with
   |zero=>simp at hj;subst hj;exact⟨x,y,hx,rfl,hy⟩
   |succ j=>simp at hj;simpa using hes j k hj
  ·exact h.elim
theorem jz.of{es:List (aJ U)}(hl:es.length=L.length)(h: ∀(j i:Nat),L[j]? =some i→ ∃x y,aD H i=some x∧es[j]? =some y∧oO U X w ρ n H z L x y):jz z H L es:=
 ⟨hl,fun j i hj=>by obtain⟨x,y,h1,h2,h3⟩:=h j i hj;exact⟨x,y,h1,h2,h3.row⟩⟩
omit [am]in
theorem eC{i:Nat}: ∀{L:List Nat},gG i L=false→i∉L
 | [],_=>by simp
 |j::L,h=>by
  have h:(Nat.beq j i||gG i L)=false:=h;rw[Bool.or_eq_false_iff]at h;intro hm;rcases List.mem_cons.1 hm with rfl|hm
  ·rw[Nat.beq_refl]at h;cases h.1
  ·exact eC h.2 hm
omit [am]in
theorem l9: ∀{L:List Nat},mU L=true→L.Nodup
 | [],_=>List.nodup_nil
 |i::L,h=>by
  have h:(bif gG i L then false else mU L)=true:=h;cases hb:gG i L with
  |true=>rw[hb]at h;cases h
  |false=>rw[hb]at h;exact List.nodup_cons.2 ⟨eC hb,l9 h⟩
omit [am]in
theorem re: ∀{L:List Nat} {K:List Nat→Prop},yp L K→K L
 | [],K,h=>h
 |x::L,K,h=>re (L:=L) (K:=fun r=>K (x::r)) h
def Xo(ρ:Nat→Rz)(H:Hs U)(X:List Nat)(ρc:Nat→Rz)(Hc:Hs U):List Nat:=(af ρ H++X).filter fun g=>decide (g∉af ρc Hc)
theorem G6{x y:aJ U}{i j g:Nat}(hj:L[j]? =some i)(h:oO U X w ρ n H z L x y)(hg:aq (fI ρ L) (j,y)=some g):aq ρ (i,x)=some g:=by
 cases x with
 |cells l t=>obtain⟨l',rfl,_⟩:=h;unfold aq at hg⊢;simp only[cu hj]at hg;exact hg
 |row v s xs t=>rw[show y=_ from h]at hg;unfold aq at hg⊢;simp only[cu hj]at hg;exact hg
 |map d l=>rw[show y=_ from h]at hg;unfold aq at hg⊢;simp only[cu hj]at hg;exact hg
 |mapr d l r q gh=>rw[show y=_ from h]at hg;unfold aq at hg⊢;simp only[cu hj]at hg;exact hg
 |_=>rw[show y=_ from h]at hg;cases hg
end
end Go.Proofs.YtmpeiadlohbikaaGreatDoor.V
end

section
set_option linter.unusedVariables false
namespace Go.Proofs.YtmpeiadlohbikaaGreatDoor
open Go.RowKit
def wz(P:Program)(f:FuncId)(args:List Value)(w:World)(Post PP:Value→World→Prop):Prop:=aA P f=true∧Calls P f args.toArray w fun e w'=>(∃v,e= .returned v∧Post v w')∨ ∃v,e= .panicked [{v:=v,recovered:=false}]∧PP v w'
theorem Fn.p{P:Program}{f:FuncId}{args:List Value}{w:World}{Post PP:Value→World→Prop}(h:Fn P f args w Post):wz P f args w Post PP:=⟨h.1,Calls.mono h.2 fun _ _ h=> .inl h⟩
theorem wz.mono{P:Program}{f:FuncId}{args:List Value}{w:World}{Post Post' PP PP':Value→World→Prop}(h:wz P f args w Post PP)(hp: ∀v w',Post v w'→Post' v w')(hq: ∀v w',PP v w'→PP' v w'):wz P f args w Post' PP':=
 ⟨h.1,Calls.mono h.2 fun _ _ h=>h.imp (fun⟨v,he,hv⟩=>⟨v,he,hp _ _ hv⟩) (fun⟨v,he,hv⟩=>⟨v,he,hq _ _ hv⟩)⟩
theorem qC{P:Program}{o:Oper}{n:Nat} [bt]{env:aG}{a:Act}{w:World}{f:FuncId}{xs:List Operand}{ts:Array TypeId}{vs:List Value}(h1:aA P f=true)(ho:o.op= .call {callee:= .value (.func f),args:=xs.toArray,argTypes:=ts})(hx:env.evs xs=some vs)(r:gm n env a):(execOp a.eval o).run P w= .ok (.enter f vs.toArray) w:=by
 have e:(xs.toArray.map a.eval)=vs.toArray:=by rw[List.map_toArray,r.evals hx]
 unfold aA at h1;cases hq:P.funcs[f]? with
 |none=>simp[hq]at h1
 |some fn=>
  simp only[hq,Bool.and_eq_true,Bool.not_eq_true',beq_eq_false_iff_ne]at h1;obtain⟨h2,h3⟩:=h1;have h4: ¬fn.body=none:=by intro hbb;simp[hbb]at h3
  unfold execOp;simp only[ho,resolve,e,Act.eval,Deferred.ofValue,Sem.run_bind,Sem.run_pure,Result.andThen_ok,invoke];simp[callFunc,hq,h2,h4]
class om where
 pe:aG
instance(priority:=100) pes0:om:=⟨[]⟩
def SF [bt](P:Program)(n:Nat)(fn:Func)(Post PP:Value→World→Prop):EQ
 | .normal,env,w| .ret,env,w=> ∃v,vd P n fn env w v∧Post v w
 | .panic c,_,w=> ∃v,c= [{v:=v,recovered:=false}]∧PP v w
 |_,_,_=>False
theorem zT{P:Program}{f:FuncId}{fn:Func}{c:Code}{args:List Value}{w:World}{Post PP:Value→World→Prop}(n:Nat)
  (he:aA P f=true) (hf:P.funcs[f]? =some fn) (hb:fn.body=some c) (hn:fn.ntmps=n) (hle:Nat.ble args.length n=true) (h:Wp P n c (SF P n fn Post PP) (bQ 0 args) w):wz P f args w Post PP:=by
 refine⟨he,?_⟩;have h1:=h {tmps:=args.toArray++Array.replicate (fn.ntmps - args.toArray.size) undef,defers:= []} ⟨?_,rfl,fun k v hk=>?_⟩
 ·have h2:=(wpIn_wide (n:=0)).1 h1;refine calls_of_wp hf hb (Code.wp_mono (fun e a' w' hq=>?_) h2);obtain⟨env',r',q⟩:=hq;cases e with
  |panic c=>
   obtain⟨v,rfl,hv⟩:=q;exact⟨r'.defers,.inr ⟨v,rfl,hv⟩⟩
  |normal=>
   obtain⟨v,hv,hR⟩:=q;exact⟨r'.defers,v,hv a' r',.inl ⟨v,rfl,hR⟩⟩
  |ret=>
   obtain⟨v,hv,hR⟩:=q;exact⟨r'.defers,v,hv a' r',.inl ⟨v,rfl,hR⟩⟩
  |_=>exact q.elim
 ·have:args.length≤n:=by simpa[Nat.ble_eq]using hle
  simp[hn];omega
 ·obtain⟨_,h2⟩:=gU args 0 k v hk;simp only[Nat.sub_zero]at h2;have hlt:k<args.length:=(List.getElem?_eq_some_iff.1 h2).1;have h3:args[k]=v:=(List.getElem?_eq_some_iff.1 h2).2;simp[Array.getElem?_append,hlt,h3]
section
variable [bt] {P:Program} {n:Nat} {Q:EQ} {env:aG} {w:World} {ops:Array Oper} {o:Oper} {rest:List Oper}
theorem Ox{f:FuncId}{xs:List Operand}{ts:Array TypeId}{vs:List Value}{Post PP:Value→World→Prop}(hw:lr n env ops o true)(ho:o.op= .call {callee:= .value (.func f),args:=xs.toArray,argTypes:=ts})(hd:(o.dst.all (Nat.blt · n))=true)
  (hx:env.evs xs=some vs) (hc:wz P f vs w Post PP) (hk: ∀v w',Post v w'→Ls P n ops Q rest (env.dst o.dst v) w') (hp: ∀v w',PP v w'→ ∃env',aG.Le env' env∧Q (.panic [{v:=v,recovered:=false}]) env' w'):Ls P n ops Q (o::rest) env w:=fun hnd a r=>
 wpListIn_step fun K hK=>by
  rw[if_pos (hw a r)];refine mN (tZ hnd) ?_;unfold Oper.wp;rw[qC hc.1 ho hx r];refine Calls.mono hc.2 fun e w' he=>?_;rcases he with⟨v,rfl,hv⟩|⟨v,rfl,hv⟩
  ·exact hK _ _ (hk v w' hv (pF hnd) _ (r.dst hd v))
  ·obtain⟨env',h1,h2⟩:=hp v w' hv;exact⟨env',r.weak h1,h2⟩
theorem zU{x:Operand}{t:TypeId}{v:Value}(hw:lr n env ops o true)(ho:o.op= .panic x)(hx:env.ev x=some (.iface t v))(hp:Q (.panic [{v:= .iface t v,recovered:=false}]) env w):Ls P n ops Q (o::rest) env w:=fun hnd a r=>
 wpListIn_step fun K hK=>by
  rw[if_pos (hw a r)];refine mN (tZ hnd) ?_;unfold Oper.wp;have e:(execOp a.eval o).run P w= .halt (.panic (.iface t v)) w:=by
   unfold execOp;simp only[ho,r.eval hx];rfl
  rw[e];exact⟨env,r,hp⟩
end
end Go.Proofs.YtmpeiadlohbikaaGreatDoor
end

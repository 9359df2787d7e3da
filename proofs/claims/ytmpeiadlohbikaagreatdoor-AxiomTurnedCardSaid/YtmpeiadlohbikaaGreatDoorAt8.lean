/- Calls that may panic. -/
import Derived.Test.YtmpeiadlohbikaaGreatDoorAt7
import Derived.Test.YtmpeiadlohbikaaGreatDoorAt0
section
set_option linter.unusedVariables false
set_option linter.unusedSectionVars false
set_option linter.unusedSimpArgs false
namespace Go.Proofs.YtmpeiadlohbikaaGreatDoor.V
open Go.RowKit
theorem yh{w:World}{g:Nat}{o:Obj}(h:w.heap[g]? =some o):Hp w [(some g,o)]:=by
 refine⟨fun i g' o' hi=>?_,fun i j g' o1 o2 hi hj=>?_⟩
 ·cases i with
  |zero=>simp at hi;rw[←hi.1,←hi.2];exact h
  |succ i=>simp at hi
 ·cases i with
  |zero=>cases j with
   |zero=>rfl
   |succ j=>simp at hj
  |succ i=>simp at hi
theorem CK{w:World}(o:Obj):Hp w [(none,o)]:=by
 refine⟨fun i g' o' hi=>?_,fun i j g' o1 o2 hi hj=>?_⟩
 ·cases i<;>simp at hi
 ·cases i<;>simp at hi
theorem lZ{α:Type}{cs sp us:List α}{a m off:Nat}(h1:a+m≤cs.length)(h2:off+us.length≤m):
  (cs++sp).take (a+off)++us++(cs++sp).drop (a+off+us.length)=(cs.take a++(((cs.drop a).take m).take off++us++((cs.drop a).take m).drop (off+us.length))++cs.drop (a+m))++sp:=by
 have e1:(cs++sp).take (a+off)=cs.take a++((cs.drop a).take m).take off:=by
  rw[List.take_append_of_le_length (by omega),List.take_take,Nat.min_eq_left (by omega),←List.take_add]
 have e2:(cs++sp).drop (a+off+us.length)=((cs.drop a).take m).drop (off+us.length)++cs.drop (a+m)++sp:=by
  rw[List.drop_append_of_le_length (by omega)];have h3:cs.drop (a+off+us.length)=((cs.drop a).take m).drop (off+us.length)++cs.drop (a+m):=by
   rw[List.drop_take,List.drop_drop,←Nat.add_assoc];have:cs.drop (a+m)=(cs.drop (a+off+us.length)).drop (m -(off+us.length)):=by rw[List.drop_drop];congr 1;omega
   rw[this,List.take_append_drop]
  rw[h3]
 rw[e1,e2];simp only[List.append_assoc]
section
variable [bB] [ao] {U:bD} {P:Program} {nt:Nat} {T:cW U} {X:List Nat} {w:World} {ρ:Nat→Rz} {n:Nat} {H:Hs U} {R e:En U} {ce:aI} {o:Oper}
theorem t6{t:Nat}{xo yo:Operand}{x:Cx U}{y:Va U}{u0 u:Value}{K:Hs U→Prop}(h:nA T t H x y K)(ho:o.op= .store t xo yo)(hd:o.dst=none)(hx:ce.ev xo=some u0)(hy:ce.ev yo=some u)(hu0:Vw U X w ρ n H x [u0])(hu:cM (Vw U X w ρ n H) y u)(hT:bf U P T)(M:aX U X (· =w) ρ n H):
  jA P nt U X w ρ n H ce o fun _ n' H'=>n'=n∧K H':=by
 unfold nA at h;split at h
 ·rename_i ti hti;have hsz:=(hT _ _ hti).size;split at h
  ·rename_i i off;split at h
   ·rename_i l ty hl;cases hb:Nat.beq (ke y.l) ti.sz with
    |false=>rw[hb]at h;exact h.elim
    |true=>
     rw[hb]at h;simp only[cond_true]at h;have hb:=Nat.eq_of_beq_eq_true hb;obtain⟨l',hK,hs'⟩:=jx h;have hK:=bU hK;obtain⟨g,vs,hA,hs,hw⟩:=M.ent _ (af hl);have hc:=hu.cells;have hcl:=hc.len;obtain⟨a1,a2⟩:=hs' _ _ _ _ _ _ _ hs hc (by omega);obtain⟨hi,hr,g',hA',e1⟩:=hu0;rw[hA]at hA';injection hA' with hA';injection hA' with hA';subst hA';injection e1 with e1;subst e1;refine fX (vs:=u.cells.toList) (i:=0) ho hd hx hy rfl (by rw[hcl,hb];exact hsz) hc.one (yh (hw w rfl)) rfl a2 fun w' hp hf _=>?_;have hblk:w'.heap[g]? =some (Cl (vs.take off++u.cells.toList++vs.drop (off+u.cells.toList.length)) ty):=hp.at (i:=0) rfl;have hf':Fr (gy ρ (i,(.cells l ty:aH U))) w w':=by
      unfold gy;simp only[hA];exact hf
     have hb0: ∀g',Lv (bR ρ i (ρ i)) (i,(.cells l' ty:aH U)) g'→Lv ρ (i,(.cells l ty:aH U)) g'∨w.heap.size≤g':=fun g' h=>by rw[aU]at h;exact .inl h
     have st:=bQ.upd (n:=n) M.xd M.nd hl hf' (ρ i) hb0 (fun v' l' m' hr=>by cases hr) (fun _=>rfl);rw[aU]at st;have M':=M.upd hl hf' (ρ i) hb0 (fun v' l' m' hr=>by cases hr) (fun _=>rfl) (by
      rw[aU];exact⟨g,_,hA,a1.imp fun _ _ h=>h.step st,fun w2 h2=>by subst h2;exact hblk⟩)
     rw[aU]at M';exact⟨.un,n,_,ρ,undef,⟨rfl,hK⟩,by rw[hd];rfl,trivial,M',st⟩
   ·exact h.elim
  ·rename_i i v q off;obtain⟨H1,yl,h,M1,s1,c1⟩:=fZ h M;split at h
   ·rename_i v' s xs ty hl;cases hb:(Nat.beq v v'&&Nat.beq (ke yl) ti.sz)with
    |false=>rw[hb]at h;exact h.elim
    |true=>
     rw[hb]at h;simp only[Bool.and_eq_true]at hb;simp only[cond_true]at h;have hvv:=Nat.eq_of_beq_eq_true hb.1;have hb2:=Nat.eq_of_beq_eq_true hb.2;subst hvv;obtain⟨x0,h,hix⟩:=gL h;obtain⟨l',h,hs'⟩:=jx h;obtain⟨z,h,hz⟩:=bu h;have hK:=bU h;obtain⟨hm,cs,sp,hd1,how,hw⟩:=M1.ent _ (af hl);have hc:=c1 _ hu.cells;have hcl:=hc.len;obtain⟨hi,a,e1,hn⟩:=bd.step s1 hu0;obtain⟨g,hA,ha,hq0,hq1⟩:=(hn _ _ _ (by rw[hl];rfl)).2 rfl;injection e1 with e1;subst e1;subst ha;have hql:q.toNat<xs.length:=by omega
     have hxq:=hix _ (List.getElem?_eq_getElem hql);have hat:=hd1.at q.toNat _ (List.getElem?_eq_getElem hql);rw[←hxq]at hat;have hatl:=hat.length;obtain⟨a1,a2⟩:=hs' (aj ρ H1++X) (· =w) ρ n H1 _ _ ⟨_,[],(List.append_nil _).symm,hatl,hat,rfl⟩ hc (by omega);rw[hatl]at a2;have hdz:=hz _ _ _ _ _ _ a1;have hmul:=kW (m:=aG U s) hql;have hcsl:=hd1.length;have hdzl:=hdz.length;have hset:=hd1.set q.toNat z _ hdz hql;have sp0:=lZ (cs:=cs) (sp:= []) (us:=u.cells.toList) (a:=q.toNat*aG U s) (m:=aG U s) (off:=off) (by omega) a2;simp only[List.append_nil]at sp0;rw[hdzl,←sp0]at hset;refine fX (vs:=u.cells.toList) (i:=0) ho hd hx hy rfl (by rw[hcl,hb2];exact hsz) hc.one (yh (hw g (by rw[hA];rfl) w rfl)) rfl (by rw[List.length_append];omega) fun w' hp hf _=>?_;have hblk:w'.heap[g]? =some (Cl ((cs++sp).take (q.toNat*aG U s+off)++u.cells.toList++(cs++sp).drop (q.toNat*aG U s+off+u.cells.toList.length)) ty):=hp.at (i:=0) rfl;have esp:(cs++sp).take (q.toNat*aG U s+off)++u.cells.toList++(cs++sp).drop (q.toNat*aG U s+off+u.cells.toList.length)=(cs.take (q.toNat*aG U s+off)++u.cells.toList++cs.drop (q.toNat*aG U s+off+u.cells.toList.length))++sp:=by
      rw[List.take_append_of_le_length (by omega),List.drop_append_of_le_length (by omega)];simp only[List.append_assoc]
     rw[esp]at hblk;have hf':Fr (gy ρ (i,(.row v s xs ty:aH U))) w w':=by
      unfold gy;simp only[hA];exact hf
     have hb0: ∀g',Lv (bR ρ i (ρ i)) (i,(.row v s (xs.set q.toNat z) ty:aH U)) g'→Lv ρ (i,(.row v s xs ty:aH U)) g'∨w.heap.size≤g':=fun g' h=>by rw[aU]at h;exact .inl h
     have hr0: ∀v' l' m',bg (some (.row v s (xs.set q.toNat z) ty:aH U))=some (v',l',m')→ ∃v0 l m,bg (some (.row v s xs ty:aH U))=some (v0,l,m)∧v0≤v'∧(v0=v'→ρ i=ρ i∧l'=l∧m'=m):=fun v' l' m' hr=>⟨v',l',m',by rw[←hr];simp only[bg,List.length_set],Nat.le_refl _,fun _=>⟨rfl,rfl,rfl⟩⟩;have st:=bQ.upd (n:=n) M1.xd M1.nd hl hf' (ρ i) hb0 hr0 (fun _=>rfl);rw[aU]at st;have hsl:(cs.take (q.toNat*aG U s+off)++u.cells.toList++cs.drop (q.toNat*aG U s+off+u.cells.toList.length)).length=cs.length:=by
      rw[List.length_append,List.length_append,List.length_take,List.length_drop];omega
     have M':=M1.upd hl hf' (ρ i) hb0 hr0 (fun _=>rfl) (by
      rw[aU];refine⟨hm,_,sp,aR.mv (st.mv (X:=X)) hset,⟨?_,?_⟩,fun g' hg' w2 h2=>?_⟩
      ·rw[hsl,List.length_set];exact how.1
      ·rcases how.2 with⟨h0,_⟩|⟨g1,h3,h4,h5⟩
       ·rw[hA]at h0;cases h0
       ·refine .inr ⟨g1,h3,?_,by rw[List.length_set];exact h5⟩;rw[List.length_append,hsl,←List.length_append];exact h4
      ·subst h2;rw[hA]at hg';injection hg' with hg';subst hg';exact hblk)
     rw[aU]at M';exact⟨.un,n,_,ρ,undef,⟨rfl,hK⟩,by rw[hd];rfl,trivial,M',s1.trans st⟩
   ·exact h.elim
  ·rename_i i off k s q o';obtain⟨H1,yl,h,M1,s1,c1⟩:=fZ h M;split at h
   ·rename_i l ty hl;cases hb:Nat.beq (ke yl) ti.sz with
    |false=>rw[hb]at h;exact h.elim
    |true=>
     rw[hb]at h;simp only[cond_true]at h;have hb2:=Nat.eq_of_beq_eq_true hb;obtain⟨la,h,hla⟩:=gw h;obtain⟨(xs:List (TT U.ty s)),h,hxs⟩:=bu h;obtain⟨x0,h,hix⟩:=gL h;obtain⟨l1,h,hs1⟩:=jx h;obtain⟨z,h,hz⟩:=bu h;obtain⟨l',h,hs2⟩:=jx h;have hK:=bU h;obtain⟨g,vs,hA,hs,hw⟩:=M1.ent _ (af hl);have hc:=c1 _ hu.cells;have hcl:=hc.len;obtain⟨hi,hr,hq0,hq1,g',hA',e1⟩:=bd.step s1 hu0;rw[hA]at hA';injection hA' with hA';injection hA' with hA';subst hA';injection e1 with e1;subst e1;obtain⟨b1,b2⟩:=hla _ _ _ _ _ _ hs;obtain⟨hd1,hd2⟩:=aC.inv (hxs _ _ _ _ _ _ b1);have hd2:xs.length=k:=hd2;have hql:q.toNat<xs.length:=by omega
     have hxq:=hix _ (List.getElem?_eq_getElem hql);have hat:=hd1.at q.toNat _ (List.getElem?_eq_getElem hql);rw[←hxq]at hat;have hatl:=hat.length;obtain⟨a1,a2⟩:=hs1 (aj ρ H1++X) (· =w) ρ n H1 _ _ ⟨_,[],(List.append_nil _).symm,hatl,hat,rfl⟩ hc (by omega);rw[hatl]at a2;have hdz:=hz _ _ _ _ _ _ a1;have hmul:=kW (m:=aG U s) hql;have hcsl:=hd1.length;rw[hd2]at hcsl hmul;have hdzl:=hdz.length;have hset:=hd1.set q.toNat z _ hdz hql;have sp0:=lZ (cs:=(vs.drop off).take (k*aG U s)) (sp:= []) (us:=u.cells.toList) (a:=q.toNat*aG U s) (m:=aG U s) (off:=o') (by omega) a2;simp only[List.append_nil]at sp0;rw[hdzl,←sp0]at hset;have hden:=aC.arr (U:=U) k s (xs.set q.toNat z) _ hset (by rw[List.length_set];exact hd2);have hdl:_=k*aG U s:=hden.length;obtain⟨d1,d2⟩:=hs2 (aj ρ H1++X) (· =w) ρ n H1 _ _ hs ⟨_,[],(List.append_nil _).symm,hdl,hden,rfl⟩ hdl;have e5:=lZ (cs:=vs) (sp:= []) (us:=u.cells.toList) (a:=off) (m:=k*aG U s) (off:=q.toNat*aG U s+o') b2 (by omega);simp only[List.append_nil,←Nat.add_assoc]at e5;rw[hdl,←e5]at d1;refine fX (vs:=u.cells.toList) (i:=0) ho hd hx hy rfl (by rw[hcl,hb2];exact hsz) hc.one (yh (hw w rfl)) rfl (by omega) fun w' hp hf _=>?_;have hblk:w'.heap[g]? =some (Cl (vs.take (off+q.toNat*aG U s+o')++u.cells.toList++vs.drop (off+q.toNat*aG U s+o'+u.cells.toList.length)) ty):=hp.at (i:=0) rfl;have hf':Fr (gy ρ (i,(.cells l ty:aH U))) w w':=by
      unfold gy;simp only[hA];exact hf
     have hb0: ∀g',Lv (bR ρ i (ρ i)) (i,(.cells l' ty:aH U)) g'→Lv ρ (i,(.cells l ty:aH U)) g'∨w.heap.size≤g':=fun g' h=>by rw[aU]at h;exact .inl h
     have st:=bQ.upd (n:=n) M1.xd M1.nd hl hf' (ρ i) hb0 (fun v' l' m' hr=>by cases hr) (fun _=>rfl);rw[aU]at st;have M':=M1.upd hl hf' (ρ i) hb0 (fun v' l' m' hr=>by cases hr) (fun _=>rfl) (by
      rw[aU];exact⟨g,_,hA,d1.imp fun _ _ h=>h.step st,fun w2 h2=>by subst h2;exact hblk⟩)
     rw[aU]at M';exact⟨.un,n,_,ρ,undef,⟨rfl,hK⟩,by rw[hd];rfl,trivial,M',s1.trans st⟩
   ·exact h.elim
  ·exact h.elim
 ·exact h.elim
end
end Go.Proofs.YtmpeiadlohbikaaGreatDoor.V
end

section
set_option linter.unusedVariables false
set_option linter.unusedSectionVars false
set_option linter.unusedSimpArgs false
namespace Go.Proofs.YtmpeiadlohbikaaGreatDoor.V
open Go.RowKit
theorem rb{m:Nat}{pls:List (Nat×Nat)}: ∀(us:List Value) (j:Nat) (pre rest:List Value),(∀i,j≤i→i<j+us.length→pls[i]? =some (i*m,m))→(∀v∈us,v.cells.toList.length=m)→pre.length=j*m→rest.length=us.length*m→
  lT pls (pre++rest) ((List.range' j us.length).zip us)=some (pre++us.flatMap (·.cells.toList))
 | [],j,pre,rest,_,_,_,hr=>by
  have:rest= []:=List.eq_nil_of_length_eq_zero (by simpa using hr);subst this;simp[lT]
 |v::us,j,pre,rest,hp,hm,hpre,hr=>by
  simp only[List.length_cons,List.range'_succ,List.zip_cons_cons,lT];rw[hp j (Nat.le_refl _) (by simp)];have hv:=hm v (by simp);have hrl:rest.length=us.length*m+m:=by rw[hr,List.length_cons,Nat.add_mul,Nat.one_mul]
  have b1:Nat.beq v.cells.toList.length m=true:=by rw[hv];exact Nat.beq_refl m
  have b2:Nat.ble (j*m+m) (pre++rest).length=true:=Nat.ble_eq_true_of_le (by rw[List.length_append];omega);simp only[b1,b2,Bool.and_self,cond_true];have e:(pre++rest).take (j*m)++(v.cells.toList++(pre++rest).drop (j*m+m))=(pre++v.cells.toList)++rest.drop m:=by
   rw[←hpre,List.take_left,List.drop_append,List.drop_of_length_le (by omega),List.nil_append,Nat.add_sub_cancel_left,List.append_assoc]
  rw[e,rb us (j+1) (pre++v.cells.toList) (rest.drop m) (fun i h1 h2=>hp i (by omega) (by simp only[List.length_cons];omega)) (fun u hu=>hm u (by simp[hu])) (by rw[List.length_append,hpre,hv,Nat.add_mul,Nat.one_mul]) (by rw[List.length_drop];omega)];simp
section
variable [bB] [ao] {U:bD} {P:Program} {nt:Nat} {T:cW U} {X:List Nat} {w:World} {ρ:Nat→Rz} {n:Nat} {H:Hs U} {R e:En U} {ce:aI} {o:Oper} {K:aI→World→Prop}
omit [ao]in
theorem vE{t el m k:Nat}{ps:List (Nat×Operand)}{vs z:List Value}(ho:o.op= .buildSlice t k ps.toArray){d:Nat}(hd:o.dst=some d)(hn:Nat.blt d nt=true)(hx:ce.evs (ps.map (·.2))=some vs)(hp:ps.map (·.1)=List.range' 0 vs.length)(hk:k=vs.length)(ht:aq P t=some (el,m))(hz:zeroCells P el=some z)
  (hlen:k*m≤1000) (h1: ∀v∈vs,v.cells.toList.length=m)
  (hK: ∀g w',w'.heap[g]? =some (Cl (vs.flatMap (·.cells.toList)) el)→Fr [] w w'→w.heap.size≤g→K ((d,(.slice (some ⟨g,0,none⟩) k k))::ce) w'):bH P nt ce w o K:=by
 obtain⟨hu,hs⟩:=bq ht;unfold zeroCells at hz;cases hq:P.info? el with
 |none=>simp[hq]at hz
 |some inf=>
  cases hzz:inf.zero with
  |none=>simp[hq,hzz]at hz
  |some z0=>
   refine fI hd hn (v:= .slice (some ⟨w.heap.size,0,none⟩) k k) (w':=w.alloc (.cells (vs.flatMap (·.cells.toList)).toArray el)) (fun a r=>?_) (hK _ _ (heap_alloc_new w _) (Fr.alloc w _) (Nat.le_refl _));have hparts:(ps.toArray.map fun(i,x)=>(i,a.eval x)).toList=(List.range' 0 vs.length).zip vs:=by
    rw[←hp,←r.evals hx];simp only[List.map_toArray,List.map_map];clear ho hx hp h1 hK hk;induction ps with
    |nil=>rfl
    |cons p ps ih=>obtain⟨i,x⟩:=p;simpa using ih
   have hfill: ∀zs:Array Value,zs.size=k*m→Instr.fill (fun i=>some (i*m,m)) zs ((List.range' 0 vs.length).zip vs)=some (vs.flatMap (·.cells.toList)).toArray:=fun zs hzs=>by
    have hpl: ∀i,0≤i→i<0+vs.length→((List.range vs.length).map fun i=>(i*m,m))[i]? =some (i*m,m):=fun i _ hi=>by
     rw[List.getElem?_map,List.getElem?_range (by omega)];rfl
    have hL:=rb (m:=m) vs 0 [] zs.toList hpl h1 (by simp) (by simp[hzs,hk]);simp only[List.nil_append]at hL;have hF:=gi _ _ _ _ hL;rw[Array.toArray_toList]at hF;rw[←hF];refine p8 _ _ _ _ fun q hq=>?_;have:q.1<vs.length:=by
     have:=(List.of_mem_zip hq).1;rw[List.mem_range'_1]at this;omega
    have h2:=hpl q.1 (Nat.zero_le _) (by omega);simp only[List.getElem?_toArray];rw[h2]
   have hrun:=tc (P:=P) (w:=w) (t:=t) (e:=el) (len:=k) (ps.toArray.map fun(i,x)=>(i,a.eval x)) hu hs (by omega) z0 (by simp[zeroValue,typeInfo,hq,hzz]) _ (by rw[hparts];exact hfill _ (by simp));unfold execOp;simp only[ho,Sem.run_bind,hrun,Result.andThen_ok];rfl
theorem wV{s:aZ}{k:Nat}: ∀{ps:List (Nat×Operand)} {j:Nat} {H:Hs U} {K:Hs U→List (TT U.ty s)→Prop},C0 [] R e s k ps j H K→aX U X (· =w) ρ n H→aJ (Vw U X w ρ n H) R e ce→
  ∃H' xs,K H' xs∧aX U X (· =w) ρ n H'∧bQ ρ n H w ρ n H' w∧ ∃vs,ce.evs (ps.map (·.2))=some vs∧ps.map (·.1)=List.range' j vs.length∧k=j+vs.length∧xs.length=vs.length∧aR U (aj ρ H'++X) (· =w) s xs (vs.flatMap (·.cells.toList))∧ ∀v∈vs,v.cells.toList.length=aG U s
 | [],j,H,K,h,M,he=>by
  have h:(bif Nat.beq j k then K H []else False):=h;cases hb:Nat.beq j k with
  |false=>rw[hb]at h;exact h.elim
  |true=>
   rw[hb]at h;have:=Nat.eq_of_beq_eq_true hb;exact⟨H,[],h,M,M.stp0,[],rfl,rfl,by simp[this],rfl,.nil s,by simp⟩
 |(i,x)::ps,j,H,K,h,M,he=>by
  have h:(bif Nat.beq i j then j6 [] R e x fun y=>zj s H y fun H a=>C0 [] R e s k ps (j+1) H fun H r=>K H (a::r)else False):=h;cases hb:Nat.beq i j with
  |false=>rw[hb]at h;exact h.elim
  |true=>
   rw[hb]at h;simp only[cond_true]at h;have hij:=Nat.eq_of_beq_eq_true hb;subst hij;obtain⟨y,h,hy⟩:=cH h he;obtain⟨v,e1,hv⟩:=hy (fun x hx=>by cases hx);obtain⟨H1,t,h,M1,s1,hd⟩:=pm h M;obtain⟨H2,xs,h,M2,s2,vs,e2,e3,e4,e5,e6,e7⟩:=wV (ps:=ps) h M1 (he.step s1);have hd1:=aC.mv (s2.mv (X:=X)) (hd v hv);refine⟨H2,t::xs,h,M2,s1.trans s2,v::vs,?_,?_,?_,?_,?_,?_⟩
   ·simp only[List.map_cons,aI.evs,e1,e2]
   ·simp only[List.map_cons,e3,List.length_cons,List.range'_succ]
   ·rw[List.length_cons];omega
   ·rw[List.length_cons,List.length_cons,e5]
   ·rw[List.flatMap_cons];exact .cons s t xs _ _ hd1 hd1.length e6
   ·intro u hu;rcases List.mem_cons.1 hu with rfl|hu
    ·exact hd1.length
    ·exact e7 u hu
theorem r9{s:aZ}{xs:List (TT U.ty s)}{el:Nat}{A:Option Addr}{c:Nat}{cs sp:List Value}{w':World}{Ka:AV U→Nat→Hs U→Prop}(hK:Ka (.v ⟨false,[(1,.own n 0)]⟩) (n+1) ((n,.row 0 s xs el)::H)){d:Nat}(hd:o.dst=some d)(M:aX U X (· =w) ρ n H)(hf:Fr [] w w')
  (hm:0<aG U s) (hden:aR U (aj ρ H++X) (· =w) s xs cs) (how:Ow A xs.length c (aG U s) cs sp) (hblk: ∀g,ab A=some g→w'.heap[g]? =some (Cl (cs++sp) el)) (hg: ∀g,ab A=some g→w.heap.size≤g):
  ∃av n' H' ρ' cv,Ka av n' H'∧((d,(.slice A xs.length c:Value))::ce)=ce.dst o.dst cv∧nv (Vw U X w' ρ' n' H') av cv∧aX U X (· =w') ρ' n' H'∧bQ ρ n H w ρ' n' H' w':=by
 have hb: ∀g',Lv (bR ρ n (rz A c)) (n,(.row 0 s xs el:aH U)) g'→w.heap.size≤g':=fun g' h=>hg g' (kh h);have st:=bQ.push (ρ:=ρ) M.xd M.lt hf (rz A c) (.row 0 s xs el:aH U) hb;refine⟨_,_,_,bR ρ n (rz A c),_,hK,aI.dstS hd _,?_,M.push hf _ _ hb ⟨hm,cs,sp,aR.mv (st.mv (X:=X)) hden,by rw[ax];exact how,fun g h w2 h2=>by subst h2;rw[ax]at h;exact hblk g h⟩,st⟩;refine gz ⟨Nat.lt_succ_self _,_,_,_,rfl,fun v' l m hr=>?_⟩;rw[nH]at hr;injection hr with hr;injection hr with h1 hr;injection hr with h2 h3;subst h1;subst h2;subst h3;exact⟨Nat.le_refl _,fun _=>⟨by rw[ax],rfl,by rw[ax]⟩⟩
theorem Ix{s:aZ}{t k el:Nat}{ei:TI U}{ps:List (Nat×Operand)}{Ka:AV U→Nat→Hs U→Prop}(h:C0 [] R e s k ps 0 H fun H l=>Ka (.v ⟨false,[(1,.own n 0)]⟩) (n+1) ((n,.row 0 s l el)::H)){d:Nat}(ho:o.op= .buildSlice t k ps.toArray)(hd:o.dst=some d)(hn:Nat.blt d nt=true)
  (hes:aq P t=some (el,ei.sz)) (hei:aT U P el ei) (hsz:ei.sz=aG U s) (hm:0<aG U s) (hbig:k*aG U s≤1000) (M:aX U X (· =w) ρ n H) (he:aJ (Vw U X w ρ n H) R e ce):jA P nt U X w ρ n H ce o Ka:=by
 obtain⟨H1,xs,hK,M1,s1,vs,e1,e2,e3,e4,e5,e6⟩:=wV h M he;obtain⟨zs,hz,_,_⟩:=hei.zero;have e3:k=vs.length:=by omega
 refine vE ho hd hn e1 e2 e3 (by rw[←hsz];exact hes) hz hbig e6 fun g w' hblk hf hg=>?_;have hkx:k=xs.length:=by omega
 rw[hkx];have:=r9 (ce:=ce) (o:=o) (A:=some ⟨g,0,none⟩) (c:=xs.length) (sp:= []) hK hd M1 hf hm e5 ⟨e5.length,.inr ⟨g,rfl,by rw[List.append_nil];exact e5.length,Nat.le_refl _,by
  have:xs.length*1≤xs.length*aG U s:=Nat.mul_le_mul_left _ hm;rw[hkx]at hbig;unfold maxLen;omega⟩⟩ (fun g' h=>by rw[yg]at h;injection h with h;subst h;rw[List.append_nil];exact hblk) (fun g' h=>by rw[yg]at h;injection h with h;subst h;exact hg)
 obtain⟨av,n',H',ρ',cv,a1,a2,a3,a4,a5⟩:=this;exact⟨av,n',H',ρ',cv,a1,a2,a3,a4,s1.trans a5⟩
omit [ao]in
theorem sd{Y:List Nat}{S:World→Prop}{s:aZ}{z:TT U.ty s}{zs:List Value}(hz:aC U Y S s z zs): ∀k:Nat,aR U Y S s (List.replicate k z) (List.replicate k zs).flatten
 |0=> .nil s
 |k+1=>by rw[List.replicate_succ,List.replicate_succ,List.flatten_cons];exact .cons s z _ zs _ hz hz.length (sd hz k)
omit [ao]in
theorem zY{s:aZ}{ei:TI U}(h:Ks U s ei=true):ei.sz=aG U s∧0<aG U s∧0<ei.by_:=by
 unfold Ks at h;simp only[Bool.and_eq_true,Nat.blt_eq]at h;exact⟨Nat.eq_of_beq_eq_true h.1.1,h.1.2,h.2⟩
theorem Iy{t:Nat}{q r:Int}{xo yo:Operand}{k1 k2:IntKind}{Ka:AV U→Nat→Hs U→Prop}(h:KV T t H n q r Ka){d:Nat}(ho:o.op= .makeSlice t xo yo)(hd:o.dst=some d)(hn:Nat.blt d nt=true)(hx:ce.ev xo=some (.int k1 q))(hy:ce.ev yo=some (.int k2 r))(hT:bf U P T)(M:aX U X (· =w) ρ n H):jA P nt U X w ρ n H ce o Ka:=by
 obtain⟨el,ei,h,hu,hes,hei⟩:=kg h hT;split at h
 ·rename_i s hsh;cases hb:Ks U s ei with
  |false=>rw[hb]at h;exact h.elim
  |true=>
   rw[hb]at h;simp only[cond_true]at h;obtain⟨h1,h2,h3⟩:=zY hb;obtain⟨z,h,hz⟩:=bu h;obtain⟨⟨q0,q1,q2,q3⟩,hK⟩:=h;obtain⟨zs,hzc,hzl,hzs⟩:=hei.zero;have hdz:=hz _ _ _ _ _ _ (hzs _ (aj ρ H++X) (· =w) ρ n H);obtain⟨a,rfl⟩:=Int.eq_ofNat_of_zero_le q0;obtain⟨b,rfl⟩:=Int.eq_ofNat_of_zero_le (show 0≤r by omega);simp only[Int.toNat_natCast]at hK q3;refine Jf (l:=a) (c:=b) ho hd hn hx hy hes hzc hzl hei.by_ (by omega) (by omega) (by omega) (Hp.nil w) fun g w' hp hf hg=>?_;have hblk:w'.heap[g]? =some (Cl (List.replicate b zs).flatten el):=hp.at (i:=0) rfl;have hd1:=sd hdz a;have hl1:=hd1.length;have hl2:=(sd hdz b).length;have esp:(List.replicate b zs).flatten=(List.replicate a zs).flatten++(List.replicate (b - a) zs).flatten:=by
    rw[←List.flatten_append,List.replicate_append_replicate,show a+(b - a)=b by omega]
   rw[esp]at hblk;have:=r9 (ce:=ce) (o:=o) (A:=some ⟨g,0,none⟩) (c:=b) (sp:=(List.replicate (b - a) zs).flatten) hK hd M hf h2 hd1 ⟨hl1,.inr ⟨g,rfl,by rw[←esp,hl2,List.length_replicate],by rw[List.length_replicate];omega,by unfold maxLen;omega⟩⟩ (fun g' h=>by rw[yg]at h;injection h with h;subst h;exact hblk) (fun g' h=>by rw[yg]at h;injection h with h;subst h;exact hg);rw[List.length_replicate]at this;exact this
 ·exact h.elim
theorem DI{s:aZ}{y:Cx U}{K:List (TT U.ty s)→Prop}(h:HV s H y K)(M:aX U X (· =w) ρ n H): ∃ys,K ys∧ ∀u,Vw U X w ρ n H y [u]→ ∃B c cs,u= .slice B ys.length c∧aR U (aj ρ H++X) (· =w) s ys cs∧(∀ad,B=some ad→ ∀j u,cs[j]? =some u→w.cell? (ad.add j)=some u)∧(B=none→ys.length=0):=by
 unfold HV at h;split at h
 ·refine⟨[],h,fun u hu=>?_⟩;have e: [u]= [Value.slice none 0 0]:=hu;injection e with e;subst e;exact⟨none,0,[],rfl,.nil s,fun ad h=>by(cases h),fun _=>rfl⟩
 ·obtain⟨s',ys,hK,hv⟩:=rZ h M ⟨w,rfl⟩;split at hK
  ·rename_i ys' hc;obtain⟨g1,g2⟩:=dv _ _ _ _ _ hc;subst g1;have g2:ys=ys':=eq_of_heq g2;subst g2;refine⟨ys,hK,fun u hu=>?_⟩;obtain⟨A,c,cs,e,hd,hr⟩:=hv _ hu;injection e with e;exact⟨A,c,cs,e,hd,fun ad hA j u hj=>hr.src w rfl ad hA j u hj,hr.none_⟩
  ·exact hK.elim
theorem Iz{t:Nat}{x y:Cx U}{xo yo:Operand}{u0 u1:Value}{Ka:AV U→Nat→Hs U→Prop}(h:KU T t H n x y Ka){d:Nat}(ho:o.op= .call {callee:= .builtin .append,args:= #[xo,yo],argTypes:= #[t,t]})(hd:o.dst=some d)(hn:Nat.blt d nt=true)(hx:ce.ev xo=some u0)(hy:ce.ev yo=some u1)(hu0:Vw U X w ρ n H x [u0])(hu1:Vw U X w ρ n H y [u1])(hT:bf U P T)(M:aX U X (· =w) ρ n H):jA P nt U X w ρ n H ce o Ka:=by
 obtain⟨el,ei,h,hu,hes,hei⟩:=kg h hT;split at h
 ·rename_i s hsh;cases hb:Ks U s ei with
  |false=>rw[hb]at h;exact h.elim
  |true=>
   rw[hb]at h;simp only[cond_true]at h;obtain⟨h1,h2,h3⟩:=zY hb;obtain⟨ys,kk,hys⟩:=DI h M;clear h;obtain⟨B,cB,ds,rfl,hdy,hsrc,hB⟩:=hys u1 hu1;obtain⟨zs,hzc,hzl,_⟩:=hei.zero;have hdyl:=hdy.length;split at kk
   ·obtain⟨hP,hK⟩:=kk;have e0: [u0]= [Value.slice none 0 0]:=hu0;injection e0 with e0;subst e0;have hbig:ys.length≤140737488355328:=Nat.le_trans (Nat.le_mul_of_pos_right _ h3) hP;refine kN (i:=0) (xs:= []) (sp:= []) (news:=ds) ho rfl hd hn hx hy hes hzc hzl hei.by_ (by omega) (Ow.nil _) (CK _) rfl (by rw[h1];exact hdyl) hsrc hB hdy.one (by unfold maxLen;omega) (by rw[Nat.zero_add];exact hP) fun A' c' sp' w' how hp hf hg=>?_;rw[Nat.zero_add]at how⊢;rw[List.nil_append]at how hp;rw[h1]at how;exact r9 hK hd M (by simpa[ab]using hf) h2 hdy how (fun g hg=>hp.at (i:=0) (by rw[hg];rfl)) (fun g hg'=>by rcases hg g hg' with h|h;(· cases h);exact h)
   ·rename_i i v;split at kk
    ·rename_i v' s' xs u hl;cases hbb:(Nat.beq v v'&&Nat.beq u el)with
     |false=>rw[hbb]at kk;exact kk.elim
     |true=>
      rw[hbb]at kk;simp only[cond_true]at kk;simp only[Bool.and_eq_true]at hbb;have hvv:=Nat.eq_of_beq_eq_true hbb.1;have huel:=Nat.eq_of_beq_eq_true hbb.2;subst hvv;subst huel;cases hc:dZ U.ty List s' s xs with
      |none=>rw[hc]at kk;exact kk.elim
      |some xs'=>
       rw[hc]at kk;obtain⟨g1,g2⟩:=dv _ _ _ _ _ hc;have g1:=g1.symm;subst g1;have g2:xs=xs':=eq_of_heq g2;subst g2;obtain⟨hP,kk⟩:=kk;have hK:=bU kk;obtain⟨hm,cs,sp,hdx,how0,hw⟩:=M.ent _ (af hl);obtain⟨hi,A,l,c,e1,hnow⟩:=hu0;injection e1 with e1;subst e1;obtain⟨rfl,rfl,rfl⟩:=(hnow _ _ _ (by rw[hl];rfl)).2 rfl;have hbig:xs.length+ys.length≤140737488355328:=Nat.le_trans (Nat.le_mul_of_pos_right _ h3) hP;have hHp:Hp w [(ab (ρ i).A,Cl (cs++sp) u)]:=by
        cases hA:ab (ρ i).A with
        |none=>exact CK _
        |some g=>exact yh (hw g hA w rfl)
       refine kN (i:=0) (xs:=cs) (sp:=sp) (news:=ds) ho rfl hd hn hx hy hes hzc hzl hei.by_ (by omega) (by rw[h1];exact how0) hHp rfl (by rw[h1];exact hdyl) hsrc hB hdy.one (by unfold maxLen;omega) hP fun A' c' sp' w' how hp hf hg=>?_;have hb0: ∀g',Lv (bR ρ i (rz A' c')) (i,(.row (v+1) s (xs++ys) u:aH U)) g'→Lv ρ (i,(.row v s xs u:aH U)) g'∨w.heap.size≤g':=fun g' h=>hg g' (kh h);have hr0: ∀v' l' m',bg (some (.row (v+1) s (xs++ys) u:aH U))=some (v',l',m')→ ∃v0 l m,bg (some (.row v s xs u:aH U))=some (v0,l,m)∧v0≤v'∧(v0=v'→(rz A' c')=ρ i∧l'=l∧m'=m):=fun v' l' m' hr=>by
        injection hr with hr;injection hr with g1 hr;subst g1;exact⟨v,_,_,rfl,Nat.le_succ _,fun h=>by omega⟩
       have st:=bQ.upd (n:=n) M.xd M.nd hl hf (rz A' c') hb0 hr0 (fun h=>by cases h);have hden:=hdx.app hdy;have M':=M.upd hl hf (rz A' c') hb0 hr0 (fun h=>by cases h) (by
        refine⟨hm,_,sp',aR.mv (st.mv (X:=X)) hden,?_,fun g hg' w2 h2=>?_⟩
        ·rw[ax,List.length_append,←h1];exact how
        ·subst h2;rw[ax]at hg';exact hp.at (i:=0) (by rw[hg'];rfl))
       refine⟨_,_,_,_,_,hK,aI.dstS hd _,?_,M',st⟩;refine gz ⟨hi,_,_,_,rfl,fun v' l m hr=>?_⟩;rw[bV ⟨_,hl⟩,if_pos rfl]at hr;injection hr with hr;injection hr with g1 hr;injection hr with g2 g3;subst g1;subst g2;subst g3;exact⟨Nat.le_refl _,fun _=>⟨by rw[ax],by rw[List.length_append],by rw[ax]⟩⟩
    ·exact kk.elim
   ·exact kk.elim
 ·exact h.elim
end
end Go.Proofs.YtmpeiadlohbikaaGreatDoor.V
end

section
set_option linter.unusedVariables false
set_option linter.unusedSimpArgs false
namespace Go.Proofs.YtmpeiadlohbikaaGreatDoor.V
open Go.RowKit
def au{U:bD}:Nat→List (aH U)→Hs U
 |_,[]=> []
 |j,x::r=>(j,x)::au (j+1) r
section
variable [F:ao] {U:bD} {P:Program} {nt:Nat} {T:cW U} {X:List Nat} {w w':World} {ρ:Nat→Rz} {n:Nat} {H:Hs U} {R e:En U} {ce:aI} {o:Oper} {L:List Nat} {z:Bool} {Yc:List Nat}
omit [ao]in
theorem wW: ∀{es:List (aH U)} {j0 j:Nat},j0≤j→aD (au j0 es) j=es[j - j0]?
 | [],j0,j,h=>by simp[au,aD]
 |x::r,j0,j,h=>by
  unfold au aD;by_cases e:j0=j
  ·subst e;rw[Nat.beq_refl,Nat.sub_self];rfl
  ·rw[cu e,show j - j0=(j -(j0+1))+1 by omega];simp only[cond_false,List.getElem?_cons_succ];exact wW (by omega)
omit [ao]in
theorem eJ{es:List (aH U)}{j:Nat}:aD (au 0 es) j=es[j]? :=by have:=wW (es:=es) (Nat.zero_le j);rwa [Nat.sub_zero]at this
omit [ao]in
theorem po: ∀{es:List (aH U)} {j0:Nat},(au j0 es).map (·.1)=List.range' j0 es.length
 | [],j0=>rfl
 |x::r,j0=>by simp[au,po (es:=r),List.range'_succ]
omit [ao]in
theorem d5{es:List (aH U)}{p:Nat×aH U}:p∈au 0 es↔es[p.1]? =some p.2:=by
 have nd:((au 0 es).map (·.1)).Nodup:=by rw[po];exact List.nodup_range'
 constructor
 ·intro h;rw[←eJ];exact dC nd h
 ·intro h;rw[←eJ]at h;exact af h
def gA(ρ:Nat→Rz)(L:List Nat):Nat→Rz:=fun j=>match L[j]? with
 |some i=>ρ i
 |none=>(rz none 0)
omit [ao]in
theorem bW{j i:Nat}(h:L[j]? =some i):gA ρ L j=ρ i:=by unfold gA;rw[h]
def zv(z:Bool)(v:Nat):Nat:=bif z then 0 else v
omit [ao]in
theorem t7{v:Nat}{K:Nat→Prop}(h:zV z v K):K (zv z v):=by cases z<;>exact h
structure jW(z:Bool)(H:Hs U)(L:List Nat)(es:List (aH U)):Prop where
 len:es.length=L.length
 at_: ∀(j i:Nat),L[j]? =some i→ ∃x y,aD H i=some x∧es[j]? =some y∧(∀v' l m,bg (some y)=some (v',l,m)→ ∃v,bg (some x)=some (v,l,m)∧v'=zv z v)∧(bg (some x)=none→bg (some y)=none)
abbrev Vc(U:bD)(Yc:List Nat)(w:World)(ρ:Nat→Rz)(L:List Nat)(es:List (aH U)):Cx U→List Value→Prop:=bd U Yc (· =w) (gA ρ L) es.length (au 0 es)
omit [ao]in
theorem jB{i:Nat}: ∀{L:List Nat} {c:Nat} {K:Nat→Prop},rU L i c K→ ∃j,K (c+j)∧L[j]? =some i
 | [],c,K,h=>h.elim
 |a::L,c,K,h=>by
  have h:(bif Nat.beq a i then K c else rU L i (c+1) K):=h;cases hb:Nat.beq a i with
  |true=>rw[hb]at h;exact⟨0,h,by rw[Nat.eq_of_beq_eq_true hb];rfl⟩
  |false=>
   rw[hb]at h;obtain⟨j,h1,h2⟩:=jB (L:=L) h;exact⟨j+1,by rw[show c+(j+1)=c+1+j by omega];exact h1,by simpa using h2⟩
omit [ao]in
theorem bL{α:Type}{l:List α}{j:Nat}{x:α}(h:l[j]? =some x):j<l.length:=(List.getElem?_eq_some_iff.1 h).1
omit [ao]in
structure vG(U:bD)(F0:ao)(X:List Nat)(w:World)(ρ:Nat→Rz)(n:Nat)(H:Hs U):Prop where
 nd:(H.map (·.1)).Nodup
 lt: ∀p∈H,p.1<n
 ent: ∀p∈H, @lQ F0 U (aj ρ H++X) (· =w) ρ n H p.1 p.2
 inj: ∀p∈H,∀q∈H,∀g,Lv ρ p g→Lv ρ q g→p.1=q.1
 dj: ∀g∈aj ρ H,g∉X
 lo: ∀x∈X,x<w.heap.size
 xs: ∀x∈F0.xf,x∈X
 gv: @tQ F0 (· =w)
 olt: ∀p∈H,∀g,Lv ρ p g→g<w.heap.size
omit [ao]in
structure OV{U:bD}(ρ:Nat→Rz)(n:Nat)(H:Hs U)(w:World)(ρ':Nat→Rz)(n':Nat)(H':Hs U)(w':World):Prop where
 nn:n≤n'
 fr:Fr (aj ρ H) w w'
 nb: ∀g∈aj ρ' H',g∈aj ρ H∨w.heap.size≤g
 row: ∀i,i<n→ ∀v' l' m',bg (aD H' i)=some (v',l',m')→ ∃v l m,bg (aD H i)=some (v,l,m)∧v≤v'∧(v=v'→ρ' i=ρ i∧l'=l∧m'=m)
 cel: ∀i,i<n→bg (aD H i)=none→ρ' i=ρ i
omit [ao]in
theorem bQ.i{F0:ao}{ρ':Nat→Rz}{n':Nat}{H':Hs U}(s: @bQ F0 U ρ n H w ρ' n' H' w'):OV ρ n H w ρ' n' H' w':=⟨s.nn,s.fr,s.nb,s.row,s.cel⟩
omit [ao]in
theorem aX.i{F0:ao}(M: @aX F0 U X (· =w) ρ n H):vG U F0 X w ρ n H:=⟨M.nd,M.lt,M.ent,M.inj,M.dj,M.lo w rfl,M.xs,M.gv,cl M⟩
omit [ao]in
theorem DJ{x:Cx U}{K:Cx U→Prop}(h:vr z H L x K){F0:ao} [F:ao](M:vG U F0 X w ρ n H): ∃y,K y∧ ∀es Yc,(∀y∈Yc,y∈aj ρ H++X)→jW z H L es→ ∀vs,Vw U X w ρ n H x vs→Vc U Yc w ρ L es y vs:=by
 have mvY: ∀Yc:List Nat,(∀y∈Yc,y∈aj ρ H++X)→Mv (aj ρ H++X) (· =w) Yc (· =w):=fun Yc hY w2 h2=>⟨w2,[],h2,Fr.refl _ _,fun _ h=>(by cases h),fun y hy=> .inl (hY y hy)⟩;cases x with
 |own i v=>
  unfold vr at h;simp only at h;split at h
  ·rename_i v' s xs t hl;cases hb:Nat.beq v v' with
   |false=>
    rw[hb]at h;exact⟨.un,h,fun es Yc hY _ vs hv=>by obtain⟨_,A,l,c,e,_⟩:=hv;exact⟨_,e,rfl⟩⟩
   |true=>
    rw[hb]at h;have hvv:=Nat.eq_of_beq_eq_true hb;subst hvv;obtain⟨j,h,hj⟩:=jB h;have h:=t7 h;rw[Nat.zero_add]at h;refine⟨_,h,fun es Yc hY he vs hv=>?_⟩;obtain⟨hi,A,l,c,e,hn⟩:=hv;obtain⟨x',y',hx',hy',hr1,hr2⟩:=he.at_ j i hj;refine⟨bL hy',A,l,c,e,fun v' l' m' hr=>?_⟩;rw[eJ,hy']at hr;obtain⟨v0,h1,h2⟩:=hr1 _ _ _ hr;rw[←hx']at h1;obtain⟨a1,a2⟩:=hn _ _ _ h1;rw[hl]at h1;injection h1 with h1;injection h1 with h1 _;subst h1;rw[h2,bW hj];exact⟨Nat.le_refl _,fun _=>a2 rfl⟩
  ·rename_i v' s xs hl;cases hb:Nat.beq v v' with
   |false=>
    rw[hb]at h;exact⟨.un,h,fun es Yc hY _ vs hv=>by obtain⟨_,A,l,c,e,_⟩:=hv;exact⟨_,e,rfl⟩⟩
   |true=>
    rw[hb]at h;have hvv:=Nat.eq_of_beq_eq_true hb;subst hvv;refine⟨_,h,fun es Yc hY he vs hv=>?_⟩;obtain⟨hi,A,l,c,e,hn⟩:=hv;obtain⟨rfl,rfl,rfl⟩:=(hn _ _ _ (by rw[hl];rfl)).2 rfl;obtain⟨hm,cs,hd,hrd,h1,h2⟩:=M.ent _ (af hl);subst e;exact aC.mv (mvY Yc hY) (aC.sl s xs _ _ cs hd hrd h1 h2)
  ·rename_i v' d xs hl;cases hb:Nat.beq v v' with
   |false=>
    rw[hb]at h;exact⟨.un,h,fun es Yc hY _ vs hv=>by obtain⟨_,A,l,c,e,_⟩:=hv;exact⟨_,e,rfl⟩⟩
   |true=>
    rw[hb]at h;have hvv:=Nat.eq_of_beq_eq_true hb;subst hvv;obtain⟨j,h,hj⟩:=jB h;have h:=t7 h;rw[Nat.zero_add]at h;refine⟨_,h,fun es Yc hY he vs hv=>?_⟩;obtain⟨hi,A,l,c,e,hn⟩:=hv;obtain⟨x',y',hx',hy',hr1,hr2⟩:=he.at_ j i hj;refine⟨bL hy',A,l,c,e,fun v' l' m' hr=>?_⟩;rw[eJ,hy']at hr;obtain⟨v0,h1,h2⟩:=hr1 _ _ _ hr;rw[←hx']at h1;obtain⟨a1,a2⟩:=hn _ _ _ h1;rw[hl]at h1;injection h1 with h1;injection h1 with h1 _;subst h1;rw[h2,bW hj];exact⟨Nat.le_refl _,fun _=>a2 rfl⟩
  ·exact⟨.un,h,fun es Yc hY _ vs hv=>by obtain⟨_,A,l,c,e,_⟩:=hv;exact⟨_,e,rfl⟩⟩
 |ptr i off=>
  unfold vr at h;simp only at h;obtain⟨j,h,hj⟩:=jB h;rw[Nat.zero_add]at h;refine⟨_,h,fun es Yc hY he vs hv=>?_⟩;obtain⟨hi,hr,g,hA,e⟩:=hv;obtain⟨x',y',hx',hy',hr1,hr2⟩:=he.at_ j i hj;exact⟨bL hy',by rw[eJ,hy'];exact hr2 (by rw[←hx'];exact hr),g,by rw[bW hj];exact hA,e⟩
 |pel i v q off=>
  unfold vr at h;simp only at h;split at h
  ·rename_i v' s xs t hl;cases hb:Nat.beq v v' with
   |false=>
    rw[hb]at h;exact⟨.un,h,fun es Yc hY _ vs hv=>by obtain⟨_,a,e,_⟩:=hv;exact⟨_,e,rfl⟩⟩
   |true=>
    rw[hb]at h;have hvv:=Nat.eq_of_beq_eq_true hb;subst hvv;obtain⟨j,h,hj⟩:=jB h;have h:=t7 h;rw[Nat.zero_add]at h;refine⟨_,h,fun es Yc hY he vs hv=>?_⟩;obtain⟨hi,a,e,hn⟩:=hv;obtain⟨x',y',hx',hy',hr1,hr2⟩:=he.at_ j i hj;refine⟨bL hy',a,e,fun v' l' m' hr=>?_⟩;rw[eJ,hy']at hr;obtain⟨v0,h1,h2⟩:=hr1 _ _ _ hr;rw[←hx']at h1;obtain⟨a1,a2⟩:=hn _ _ _ h1;rw[hl]at h1;injection h1 with h1;injection h1 with h1 _;subst h1;rw[h2,bW hj];exact⟨Nat.le_refl _,fun _=>a2 rfl⟩
  ·exact⟨.un,h,fun es Yc hY _ vs hv=>by obtain⟨_,a,e,_⟩:=hv;exact⟨_,e,rfl⟩⟩
 |pax i off k s q o=>exact⟨.un,h,fun es Yc hY _ vs hv=>by obtain⟨_,_,_,_,g,_,e⟩:=hv;exact⟨_,e,rfl⟩⟩
 |clo f js=>
  match js,h with
  | [],h=>exact⟨.un,h,fun es Yc hY _ vs hv=>⟨_,hv.1,rfl⟩⟩
  |_::_::_,h=>exact⟨.un,h,fun es Yc hY _ vs hv=>⟨_,hv.1,rfl⟩⟩
  |i:: [],h=>
   have h:rU L i 0 fun j=>K (.clo f [j]):=h;obtain⟨j,h,hj⟩:=jB h;rw[Nat.zero_add]at h;refine⟨_,h,fun es Yc hY he vs hv=>?_⟩;obtain⟨e,hall⟩:=hv;obtain⟨hi,hr,g,hA⟩:=hall i (by simp);obtain⟨x',y',hx',hy',hr1,hr2⟩:=he.at_ j i hj;exact⟨by rw[e];simp[bW hj],fun k hk=>by
    have hk:=List.mem_singleton.1 hk;subst hk;exact⟨bL hy',by rw[eJ,hy'];exact hr2 (by rw[←hx'];exact hr),g,by rw[bW hj];exact hA⟩⟩
 |f1 a g=>exact⟨_,h,fun es Yc hY _ vs hv=>by obtain⟨u,e,hf⟩:=hv;exact⟨u,e,hf.mv (mvY Yc hY)⟩⟩
 |f2 a b g=>exact⟨_,h,fun es Yc hY _ vs hv=>by obtain⟨u,e,hf⟩:=hv;exact⟨u,e,hf.mv (mvY Yc hY)⟩⟩
 |mp i=>
  unfold vr at h;simp only at h;obtain⟨j,h,hj⟩:=jB h;rw[Nat.zero_add]at h;refine⟨_,h,fun es Yc hY he vs hv=>?_⟩;obtain⟨hi,hr,g,hA,e⟩:=hv;obtain⟨x',y',hx',hy',hr1,hr2⟩:=he.at_ j i hj;exact⟨bL hy',by rw[eJ,hy'];exact hr2 (by rw[←hx'];exact hr),g,by rw[bW hj];exact hA,e⟩
 |d s t=>exact⟨_,h,fun es Yc hY _ vs hv=>aC.mv (mvY Yc hY) hv⟩
 |pd s t=>exact⟨_,h,fun es Yc hY _ vs hv=>by obtain⟨g,b,us,e,hd,hr⟩:=hv;exact⟨g,b,us,e,aC.mv (mvY Yc hY) hd,hr.mv (mvY Yc hY)⟩⟩
 |nilp=>exact⟨_,h,fun es Yc hY _ vs hv=>hv⟩
 |nils=>exact⟨_,h,fun es Yc hY _ vs hv=>hv⟩
 |nilf=>exact⟨_,h,fun es Yc hY _ vs hv=>hv⟩
 |nilm=>exact⟨_,h,fun es Yc hY _ vs hv=>hv⟩
 |fn f=>exact⟨_,h,fun es Yc hY _ vs hv=>hv⟩
 |un=>exact⟨_,h,fun es Yc hY _ vs hv=>hv⟩
omit [ao]in
theorem ld{F0:ao} [F:ao](M:vG U F0 X w ρ n H): ∀{l:List (cd U)} {K:List (cd U)→Prop},oE z H L l K→ ∃l',K l'∧ ∀es Yc,(∀y∈Yc,y∈aj ρ H++X)→jW z H L es→ ∀vs,bJ (Vw U X w ρ n H) l vs→bJ (Vc U Yc w ρ L es) l' vs
 | [],K,h=>⟨[],h,fun _ _ _ _ _ hs=>hs⟩
 |(k,x)::l,K,h=>by
  have h:vr z H L x fun y=>oE z H L l fun r=>K ((k,y)::r):=h;obtain⟨y,h,hy⟩:=DJ h M;obtain⟨l',h,hl⟩:=ld M (l:=l) h;refine⟨_,h,fun es Yc hY he vs hs=>?_⟩;obtain⟨v1,v2,e,hk,hx,hr⟩:=hs;exact⟨v1,v2,e,hk,hy es Yc hY he _ hx,hl es Yc hY he _ hr⟩
omit [ao]in
theorem pq{F0:ao} [F:ao](M:vG U F0 X w ρ n H): ∀{l:List (Va U)} {K:List (Va U)→Prop},tO z H L l K→ ∃l',K l'∧ ∀es Yc,(∀y∈Yc,y∈aj ρ H++X)→jW z H L es→ ∀vs,bM (Vw U X w ρ n H) l vs→bM (Vc U Yc w ρ L es) l' vs
 | [],K,h=>⟨[],h,fun _ _ _ _ _ hs=>hs⟩
 |x::l,K,h=>by
  have h:oE z H L x.l fun l1=>tO z H L l fun r=>K (⟨x.ag,l1⟩::r):=h;obtain⟨l1,h,h1⟩:=ld M h;obtain⟨l',h,hl⟩:=pq M (l:=l) h;refine⟨_,h,fun es Yc hY he vs hs=>?_⟩;obtain⟨v,us,e,hx,hr⟩:=hs;refine⟨v,us,e,?_,hl es Yc hY he _ hr⟩;unfold cM at hx⊢;cases hag:x.ag with
  |true=>simp only[hag]at hx⊢;obtain⟨vs',e',hs'⟩:=hx;exact⟨vs',e',h1 es Yc hY he _ hs'⟩
  |false=>simp only[hag]at hx⊢;exact h1 es Yc hY he _ hx
def pt(U:bD)(X:List Nat)(w:World)(ρ:Nat→Rz)(n:Nat)(H:Hs U)(z:Bool)(L:List Nat)(x y:aH U):Prop:=match x with
 | .cells l t=> ∃l',y= .cells l' t∧ ∀es Yc,(∀y∈Yc,y∈aj ρ H++X)→jW z H L es→ ∀vs,bJ (Vw U X w ρ n H) l vs→bJ (Vc U Yc w ρ L es) l' vs
 | .row v s xs t=>y= .row (zv z v) s xs t
 | .map d l=>y= .map d l
 | .mapr d l _ _ _=>y= .map d l
 | .ext v d xs none=>y= .ext (zv z v) d xs none
 |_=>y= .dead
omit [ao]in
theorem DK{F0:ao} [F:ao](M:vG U F0 X w ρ n H){x:aH U}{K:aH U→Prop}(h:HT z H L x K): ∃y,K y∧pt U X w ρ n H z L x y:=by
 cases x with
 |cells l t=>
  obtain⟨l',h,hl⟩:=ld M (show oE z H L l _ from h);exact⟨_,h,l',rfl,hl⟩
 |row v s xs t=>
  have h:zV z v fun v=>K (.row v s xs t):=h;exact⟨_,t7 h,rfl⟩
 |frz v s xs=>exact⟨_,h,rfl⟩
 |map d l=>exact⟨_,h,rfl⟩
 |mapr d l r q g=>exact⟨_,h,rfl⟩
 |it i g=>exact⟨_,h,rfl⟩
 |ext v d xs op=>cases op with
  |none=>
   have h:zV z v fun v=>K (.ext v d xs none):=h;exact⟨_,t7 h,rfl⟩
  |some o=>exact⟨_,h,rfl⟩
 |clo f l=>exact⟨_,h,rfl⟩
 |hid v l m=>exact⟨_,h,rfl⟩
 |dead=>exact⟨_,h,rfl⟩
theorem pt.row{x y:aH U}(h:pt U X w ρ n H z L x y):(∀v' l m,bg (some y)=some (v',l,m)→ ∃v,bg (some x)=some (v,l,m)∧v'=zv z v)∧(bg (some x)=none→bg (some y)=none):=by
 cases x with
 |cells l t=>obtain⟨l',rfl,_⟩:=h;exact⟨fun _ _ _ h=>(by cases h),fun _=>rfl⟩
 |row v s xs t=>
  rw[show y=_ from h];refine⟨fun v' l m hr=>?_,fun hr=>by cases hr⟩;injection hr with hr;injection hr with h1 hr;exact⟨v,by rw[←hr];rfl,h1.symm⟩
 |ext v d xs op=>cases op with
  |none=>
   rw[show y=_ from h];refine⟨fun v' l m hr=>?_,fun hr=>by cases hr⟩;injection hr with hr;injection hr with h1 hr;exact⟨v,by rw[←hr];rfl,h1.symm⟩
  |some o=>rw[show y=_ from h];exact⟨fun _ _ _ h=>(by cases h),fun _=>rfl⟩
 |_=>rw[show y=_ from h];exact⟨fun _ _ _ h=>(by cases h),fun _=>rfl⟩
omit [ao]in
theorem pu{F0:ao} [F:ao](M:vG U F0 X w ρ n H): ∀{Q:List Nat} {K:List (aH U)→Prop},qV z H L Q K→ ∃es,K es∧es.length=Q.length∧ ∀(j i:Nat),Q[j]? =some i→ ∃x y,aD H i=some x∧es[j]? =some y∧pt U X w ρ n H z L x y
 | [],K,h=>⟨[],h,rfl,fun j i hj=>by simp at hj⟩
 |i::Q,K,h=>by
  have h:(match aD H i with
   |some x=>HT z H L x fun y=>qV z H L Q fun r=>K (y::r)
   |none=>False):=h
  split at h
  ·rename_i x hx;obtain⟨y,h,hy⟩:=DK M h;obtain⟨es,h,hl,hes⟩:=pu M (Q:=Q) h;refine⟨_,h,by simp[hl],fun j k hj=>?_⟩;cases j with
   |zero=>simp at hj;subst hj;exact⟨x,y,hx,rfl,hy⟩
   |succ j=>simp at hj;simpa using hes j k hj
  ·exact h.elim
theorem jW.of{es:List (aH U)}(hl:es.length=L.length)(h: ∀(j i:Nat),L[j]? =some i→ ∃x y,aD H i=some x∧es[j]? =some y∧pt U X w ρ n H z L x y):jW z H L es:=
 ⟨hl,fun j i hj=>by obtain⟨x,y,h1,h2,h3⟩:=h j i hj;exact⟨x,y,h1,h2,h3.row⟩⟩
omit [ao]in
theorem d6{i:Nat}: ∀{L:List Nat},gx i L=false→i∉L
 | [],_=>by simp
 |j::L,h=>by
  have h:(Nat.beq j i||gx i L)=false:=h;rw[Bool.or_eq_false_iff]at h;intro hm;rcases List.mem_cons.1 hm with rfl|hm
  ·rw[Nat.beq_refl]at h;cases h.1
  ·exact d6 h.2 hm
omit [ao]in
theorem mL: ∀{L:List Nat},nB L=true→L.Nodup
 | [],_=>List.nodup_nil
 |i::L,h=>by
  have h:(bif gx i L then false else nB L)=true:=h;cases hb:gx i L with
  |true=>rw[hb]at h;cases h
  |false=>rw[hb]at h;exact List.nodup_cons.2 ⟨d6 hb,mL h⟩
omit [ao]in
theorem se: ∀{L:List Nat} {K:List Nat→Prop},zp L K→K L
 | [],K,h=>h
 |x::L,K,h=>se (L:=L) (K:=fun r=>K (x::r)) h
def Xo(ρ:Nat→Rz)(H:Hs U)(X:List Nat)(ρc:Nat→Rz)(Hc:Hs U):List Nat:=(aj ρ H++X).filter fun g=>decide (g∉aj ρc Hc)
theorem IA{x y:aH U}{i j g:Nat}(hj:L[j]? =some i)(h:pt U X w ρ n H z L x y)(hg:Lv (gA ρ L) (j,y) g):Lv ρ (i,x) g:=by
 cases x with
 |cells l t=>obtain⟨l',rfl,_⟩:=h;unfold Lv at hg⊢;simp only[bW hj]at hg;exact hg
 |row v s xs t=>rw[show y=_ from h]at hg;unfold Lv at hg⊢;simp only[bW hj]at hg;exact hg
 |map d l=>rw[show y=_ from h]at hg;unfold Lv at hg⊢;simp only[bW hj]at hg;exact hg
 |mapr d l r q gh=>rw[show y=_ from h]at hg;unfold Lv at hg⊢;simp only[bW hj]at hg;exact hg
 |ext v d xs op=>cases op with
  |none=>rw[show y=_ from h]at hg;unfold Lv at hg⊢;simp only[bW hj]at hg;exact hg
  |some o=>rw[show y=_ from h]at hg;cases hg
 |_=>rw[show y=_ from h]at hg;cases hg
end
end Go.Proofs.YtmpeiadlohbikaaGreatDoor.V
end

section
set_option linter.unusedVariables false
namespace Go.Proofs.YtmpeiadlohbikaaGreatDoor
open Go.RowKit
def xC(P:Program)(f:FuncId)(args:List Value)(w:World)(Post PP:Value→World→Prop):Prop:=aF P f=true∧Calls P f args.toArray w fun e w'=>(∃v,e= .returned v∧Post v w')∨ ∃v,e= .panicked [{v:=v,recovered:=false}]∧PP v w'
theorem Fn.p{P:Program}{f:FuncId}{args:List Value}{w:World}{Post PP:Value→World→Prop}(h:Fn P f args w Post):xC P f args w Post PP:=⟨h.1,Calls.mono h.2 fun _ _ h=> .inl h⟩
theorem xC.mono{P:Program}{f:FuncId}{args:List Value}{w:World}{Post Post' PP PP':Value→World→Prop}(h:xC P f args w Post PP)(hp: ∀v w',Post v w'→Post' v w')(hq: ∀v w',PP v w'→PP' v w'):xC P f args w Post' PP':=
 ⟨h.1,Calls.mono h.2 fun _ _ h=>h.imp (fun⟨v,he,hv⟩=>⟨v,he,hp _ _ hv⟩) (fun⟨v,he,hv⟩=>⟨v,he,hq _ _ hv⟩)⟩
theorem rx{P:Program}{o:Oper}{n:Nat} [bB]{env:aI}{a:Act}{w:World}{f:FuncId}{xs:List Operand}{ts:Array TypeId}{vs:List Value}(h1:aF P f=true)(ho:o.op= .call {callee:= .value (.func f),args:=xs.toArray,argTypes:=ts})(hx:env.evs xs=some vs)(r:g7 n env a):(execOp a.eval o).run P w= .ok (.enter f vs.toArray) w:=by
 have e:(xs.toArray.map a.eval)=vs.toArray:=by rw[List.map_toArray,r.evals hx]
 unfold aF at h1;cases hq:P.funcs[f]? with
 |none=>simp[hq]at h1
 |some fn=>
  simp only[hq,Bool.and_eq_true,Bool.not_eq_true',beq_eq_false_iff_ne]at h1;obtain⟨h2,h3⟩:=h1;have h4: ¬fn.body=none:=by intro hbb;simp[hbb]at h3
  unfold execOp;simp only[ho,resolve,e,Act.eval,Deferred.ofValue,Sem.run_bind,Sem.run_pure,Result.andThen_ok,invoke];simp[callFunc,hq,h2,h4]
class oW where
 pe:aI
instance(priority:=100) pes0:oW:=⟨[]⟩
def Uo [bB](P:Program)(n:Nat)(fn:Func)(Post PP:Value→World→Prop):EQ
 | .normal,env,w| .ret,env,w=> ∃v,wk P n fn env w v∧Post v w
 | .panic c,_,w=> ∃v,c= [{v:=v,recovered:=false}]∧PP v w
 |_,_,_=>False
theorem A3{P:Program}{f:FuncId}{fn:Func}{c:Code}{args:List Value}{w:World}{Post PP:Value→World→Prop}(n:Nat)
  (he:aF P f=true) (hf:P.funcs[f]? =some fn) (hb:fn.body=some c) (hn:fn.ntmps=n) (hle:Nat.ble args.length n=true) (h:Wp P n c (Uo P n fn Post PP) (bS 0 args) w):xC P f args w Post PP:=by
 refine⟨he,?_⟩;have h1:=h {tmps:=args.toArray++Array.replicate (fn.ntmps - args.toArray.size) undef,defers:= []} ⟨?_,rfl,fun k v hk=>?_⟩
 ·have h2:=(wpIn_wide (n:=0)).1 h1;refine calls_of_wp hf hb (Code.wp_mono (fun e a' w' hq=>?_) h2);obtain⟨env',r',q⟩:=hq;cases e with
  |panic c=>
   obtain⟨v,rfl,hv⟩:=q;exact⟨r'.defers,.inr ⟨v,rfl,hv⟩⟩
  |normal=>
   obtain⟨v,hv,hR⟩:=q;exact⟨r'.defers,v,hv a' r',.inl ⟨v,rfl,hR⟩⟩
  |ret=>
   obtain⟨v,hv,hR⟩:=q;exact⟨r'.defers,v,hv a' r',.inl ⟨v,rfl,hR⟩⟩
  |_=>exact q.elim
 ·have:args.length≤n:=by simpa[Nat.ble_eq]using hle
  simp[hn];omega
 ·obtain⟨_,h2⟩:=iz args 0 k v hk;simp only[Nat.sub_zero]at h2;have hlt:k<args.length:=(List.getElem?_eq_some_iff.1 h2).1;have h3:args[k]=v:=(List.getElem?_eq_some_iff.1 h2).2;simp[Array.getElem?_append,hlt,h3]
section
variable [bB] {P:Program} {n:Nat} {Q:EQ} {env:aI} {w:World} {ops:Array Oper} {o:Oper} {rest:List Oper}
theorem Qh{f:FuncId}{xs:List Operand}{ts:Array TypeId}{vs:List Value}{Post PP:Value→World→Prop}(hw:lU n env ops o true)(ho:o.op= .call {callee:= .value (.func f),args:=xs.toArray,argTypes:=ts})(hd:(o.dst.all (Nat.blt · n))=true)
  (hx:env.evs xs=some vs) (hc:xC P f vs w Post PP) (hk: ∀v w',Post v w'→Ls P n ops Q rest (env.dst o.dst v) w') (hp: ∀v w',PP v w'→ ∃env',aI.Le env' env∧Q (.panic [{v:=v,recovered:=false}]) env' w'):Ls P n ops Q (o::rest) env w:=fun hnd a r=>
 wpListIn_step fun K hK=>by
  rw[if_pos (hw a r)];refine nj (uU hnd) ?_;unfold Oper.wp;rw[rx hc.1 ho hx r];refine Calls.mono hc.2 fun e w' he=>?_;rcases he with⟨v,rfl,hv⟩|⟨v,rfl,hv⟩
  ·exact hK _ _ (hk v w' hv (qg hnd) _ (r.dst hd v))
  ·obtain⟨env',h1,h2⟩:=hp v w' hv;exact⟨env',r.weak h1,h2⟩
theorem A4{x:Operand}{t:TypeId}{v:Value}(hw:lU n env ops o true)(ho:o.op= .panic x)(hx:env.ev x=some (.iface t v))(hp:Q (.panic [{v:= .iface t v,recovered:=false}]) env w):Ls P n ops Q (o::rest) env w:=fun hnd a r=>
 wpListIn_step fun K hK=>by
  rw[if_pos (hw a r)];refine nj (uU hnd) ?_;unfold Oper.wp;have e:(execOp a.eval o).run P w= .halt (.panic (.iface t v)) w:=by
   unfold execOp;simp only[ho,r.eval hx];rfl
  rw[e];exact⟨env,r,hp⟩
end
end Go.Proofs.YtmpeiadlohbikaaGreatDoor
end

/- What printed walks use: splits, sums, loops. -/
import Derived.Test.YtmpeiadlohbikaaGreatDoorAx11
section
set_option linter.unusedVariables false
set_option linter.unusedSectionVars false
set_option linter.unusedSimpArgs false
namespace Go.Proofs.YtmpeiadlohbikaaGreatDoor.V
open Go.RowKit
section
variable [bt] [om] [am] {U:bG} [hJ U] {bx:Int→Value} {P:Program} {nt:Nat} {T:cM U} {G:cR U} {X Y:List Nat} {w w' w0:World} {W:World→Prop} {ρ ρ' ρ0:Nat→Rz} {n n' n0 b:Nat} {H H' H0 L:Hs U} {R e e':En U} {ce:aG} {o:Oper} {S:List Nat} {p:Nat→Bool}
omit [am]in
theorem aI.noR {V : Cx U → List Value → Prop} (he : aI V R e ce) (hr : dx R e S) : aI V [] e ce :=
  ⟨fun k x _ hk => he.v k x (Classical.byContradiction fun hn => by rw [hr.ne k hn] at hk; cases hk) hk,
   fun k l _ hk => he.t k l (Classical.byContradiction fun hn => by rw [hr.ne k hn] at hk; cases hk) hk, fun k p x hk => by cases hk⟩
omit [am]in
theorem nF.imp{V V':Cx U→List Value→Prop}(h: ∀x vs,V x vs→V' x vs): ∀{av:AV U} {v:Value},nF V av v→nF V' av v
 | .v x,v,hx=>cC.imp h hx
 | .tup l,v,hx=>by obtain⟨us,h1,h2⟩:=hx;exact⟨us,h1,bK.imp h h2⟩
 | .pan z,v,hx=>hx
 | .gd p x,v,hx=>hx
 | .un,v,hx=>hx
omit [am]in
theorem lN{l:List Oper}{i:Nat}{o:Oper}(h:dn l i=some o):l.toArray[i]? =some o∧o∈l:=by
 rw[cF]at h;exact⟨by simpa using h,List.mem_of_getElem? h⟩
omit [am]in
theorem x9{ops:Array Oper}{listed:Array Bool}{i:Nat}(h:i∈Region.ready .any ops listed):i<ops.size:=by
 obtain⟨_,o,ho,_⟩:=mem_ready.1 h;exact(Array.getElem?_eq_some_iff.1 ho).1
def pV(f:Option Nat):Nat:=match f with|some _=>1|none=>0
def IV(f:Option Nat)(i:Nat):Bool:=match f with|some f=>i !=f|none=>true
omit [am]in
theorem vr{ops:Array Oper}{listed:Array Bool}{i:Nat}{f:Option Nat}(h:i∈Region.ready .any ops listed)(hf:IV f i=true):i≠f.getD ops.size:=by
 have:=x9 h;cases f with
 |none=>show i≠ops.size;omega
 |some f=>exact(by simpa[IV]using hf: ¬i=f)
structure ui(P:Program)(U:bG) [hJ U](bx:Int→Value)(X:List Nat)(ρ0:Nat→Rz)(b:Nat)(H0:Hs U)(w0:World)(Q:EQ):Prop where
 ok:m5 P U bx (hJ.g (U:=U))
 q: ∀z e n H ρ ce w,hJ.kp z e n H→bc U X (· =w) ρ n H→aI (Vw U X w ρ n H) [] e ce→bM ρ0 b H0 w0 ρ n H w→aG.Le om.pe ce∧Q (.panic [{v:=bx z,recovered:=false}]) om.pe w
theorem sj(hG:db P U G){bx:Int→Value}(hP:m5 P U bx (hJ.g (U:=U))){K:AV U→Nat→Hs U→Prop}(h:GF T G o R e n H K)(M:bc U X (· =w) ρ n H)(he:aI (Vw U X w ρ n H) R e ce):
  ∃f xs ts vs,o.op= .call {callee:= .value (.func f),args:=List.toArray xs,argTypes:=ts}∧ce.evs xs=some vs∧wz P f vs w (fun v w'=> ∃av n' H' ρ',(∀z,av≠ .pan z)∧K av n' H'∧nF (Vw U X w' ρ' n' H') av v∧bc U X (· =w') ρ' n' H'∧bM ρ n H w ρ' n' H' w')
   fun v w'=> ∃z,v=bx z∧ ∃n' H' ρ',hJ.kp z e n' H'∧bc U X (· =w') ρ' n' H'∧bM ρ n H w ρ' n' H' w':=by
 unfold GF at h;split at h
 ·rename_i c ho;split at h
  ·rename_i f hcal;split at h
   ·rename_i k hk;obtain⟨xs,h,hxs⟩:=f5 h he;obtain⟨vs,e1,hv⟩:=hxs cZ;refine⟨f,c.args.toList,c.argTypes,vs,by rw[ho];exact congrArg Op.call (mj hcal),e1,wz.mono (CG hG (hP f k hk) h M hv) (fun v w'=>?_) fun v w' h=>h⟩;rintro⟨av,n',H',ρ',hn,hK,q⟩;refine⟨av,n',H',ρ',hn,?_,q⟩;cases av with
    |pan z=>exact absurd rfl (hn z)
    |_=>exact hK
   ·exact h.elim
  ·exact h.elim
 ·exact h.elim
theorem sm(hG:db P U G)(hT:bg U P T){Q:EQ}{l:List Oper}{K:KS U}{D:List Nat}{listed:Array Bool}{fuel:Nat}{f:Option Nat}
  (hQ: ∀e n H ρ ce w,K e n H→bc U X (· =w) ρ n H→aI (Vw U X w ρ n H) [] e ce→bM ρ0 b H0 w0 ρ n H w→Q .normal ce w) (PH:ui P U bx X ρ0 b H0 w0 Q) (hd: ∀o∈l,(o.dst.all (Nat.blt · nt))=true) (hpd: ∀o∈l,uh o.dst=true)
  (hc:nE l.toArray f [] listed=true) (hl:pV f≤fuel) (h:li T G l f e n H R S K) (M:bc U X (· =w) ρ n H) (he:aI (Vw U X w ρ n H) R e ce) (hr:dx R e S) (st:bM ρ0 b H0 w0 ρ n H w):
  Pg P nt l.toArray (f.getD l.toArray.size) D Q fuel listed ce w:=by
 cases f with
 |none=>exact CQ hc (hQ _ _ _ _ _ _ h M (he.noR hr) st)
 |some f=>
  have hc:(Region.ready .any l.toArray listed== [f]&&(Region.ready .any l.toArray (listed.setIfInBounds f true)).isEmpty)=true:=hc;rw[Bool.and_eq_true]at hc;obtain⟨k,rfl⟩: ∃k,fuel=k+1:=⟨fuel - 1,by unfold pV at hl;simp only at hl;omega⟩;have h:(match (generalizing:=false) dn l f with
   |some o=>nD T G l o (fun e n H _ _ K=>K e n H)
   |none=>fun _ _ _ _ _ _=>False) e n H R S K:=h
  cases ho:dn l f with
  |none=>rw[ho]at h;exact h.elim
  |some o=>
   rw[ho]at h;obtain⟨ha,hin⟩:=lN ho;have h:nD T G l o (fun e n H _ _ K=>K e n H) e n H R S K:=h;unfold nD at h;cases hpb:GE (U:=U) o with
   |false=>
    rw[hpb]at h;have h:gH T G l o (fun e n H _ _ K=>K e n H) e n H R S K:=h;rcases mS hG hT h M he hr (hd o hin)with⟨hw,hact⟩|⟨hw,e',R',S',hK,he',hr'⟩
    ·refine Hg (by simpa using hc.1) hc.2 ha hw (bH.mono hact ?_);rintro ce' w' ⟨e',n',H',R',S',ρ',hK,M',s',he',hr',_⟩;exact hQ _ _ _ _ _ _ hK M' (he'.noR hr') (st.trans s')
    ·exact CO (by simpa using hc.1) hc.2 ha hw (hd o hin) (hQ _ _ _ _ _ _ hK M (he'.noR hr') st)
   |true=>
    rw[hpb]at h;simp only[cond_true]at h;cases hg:o.guard with
    |some g=>rw[hg]at h;exact h.elim
    |none=>
     rw[hg]at h;obtain⟨g,xs,ts,vs,hcl,hx,hc2⟩:=sj hG PH.ok h M he;refine CN (by simpa using hc.1) hc.2 ha (fP hg) hcl (hd o hin) hx hc2 (fun v w' hv=>?_) (fun v w' hv=>?_)
     ·obtain⟨av,n',H',ρ',_,hK,hav,M',s'⟩:=hv;unfold oC at hK;cases hdst:o.dst with
      |none=>
       rw[hdst]at hK;exact hQ _ _ _ _ _ _ hK M' ((he.step s').noR hr) (st.trans s')
      |some d=>
       rw[hdst]at hK;simp only at hK;cases hm:gG d S with
       |true=>rw[hm]at hK;exact hK.elim
       |false=>
        rw[hm]at hK;obtain⟨he',hr'⟩:=(he.step s').putV hr (eC hm) hav;exact hQ _ _ _ _ _ _ hK M' (he'.noR hr') (st.trans s')
     ·obtain⟨z,rfl,n',H',ρ',hK,M',s'⟩:=hv;exact PH.q _ _ _ _ _ _ _ hK M' ((he.step s').noR hr) (st.trans s')
theorem so(hG:db P U G)(hT:bg U P T){Q:EQ}{l:List Oper}{K:KS U}{fl k i:Nat}{listed:Array Bool}{rest:KR U}
  (hs:Region.noSelect l.toArray=true) (hfin:mn l.toArray fl) (ha:l.toArray[i]? =some o) (hdo:(o.dst.all (Nat.blt · nt))=true) (hpo:uh o.dst=true) (c1:(Region.ready .any l.toArray listed).contains i=true) (c2:Region.free .any l.toArray listed i=true) (hne:i≠fl)
  (ih: ∀(e:En U) (n:Nat) (H:Hs U) (R:En U) (S:List Nat) (ρ:Nat→Rz) (ce:aG) (w:World),rest e n H R S K→bc U X (· =w) ρ n H→aI (Vw U X w ρ n H) R e ce→dx R e S→bM ρ0 b H0 w0 ρ n H w→Pg P nt l.toArray fl (af ρ (bB (np p) H)) Q k (listed.setIfInBounds i true) ce w)
  (h:lh T G l p true o rest e n H R S K) (M:bc U X (· =w) ρ n H) (he:aI (Vw U X w ρ n H) R e ce) (hr:dx R e S) (st:bM ρ0 b H0 w0 ρ n H w):Pg P nt l.toArray fl (af ρ (bB (np p) H)) Q (k+1) listed ce w:=by
 unfold lh at h;cases hna:lW o with
 |true=>rw[hna]at h;exact h.elim
 |false=>
  rw[hna]at h;have h:xb p H fun Hu=>gH T G l o (fun e _ _ R S K=>rest e n H R S K) e n Hu R S K:=h;have h:=nY h;obtain⟨Mh,mv1,mv2⟩:=oy (p:=p) M;obtain⟨e',R',S',hK,hh⟩:=qc (nt:=nt) hG.1 hna hT h Mh (he.imp fun _ _ hx=>hx.cong mv1 fun i=>du) hr ⟨w,Fr.refl _ _⟩ hdo;rcases hh with⟨v,hw,hy,he',hr'⟩|⟨hw,he',hr'⟩
  ·exact Nd hfin hs ha c1 c2 hne hw hdo hpo hy (ih _ _ _ _ _ _ _ _ hK M (he'.imp fun _ _ hx=>hx.cong mv2 fun i=>du.symm) hr' st)
  ·exact Nf hfin hs ha c1 c2 hne hw hdo hpo (ih _ _ _ _ _ _ _ _ hK M (he'.imp fun _ _ hx=>hx.cong mv2 fun i=>du.symm) hr' st)
theorem vu(hG:db P U G){q:cK}{K:Va U→Prop}(h:qh T G p q o R e n H K)(M:bc U X (· =w) ρ n H)(he:aI (Vw U X w ρ n H) R e ce):
  ∃x,K x∧(bj R e q→ ∃fx fv xs ts vs,o.op= .call {callee:= .value fx,args:=List.toArray xs,argTypes:=ts}∧ce.ev fx=some fv∧ce.evs xs=some vs∧po P fv vs w fun v w'=>
   ∃ρ',cC (Vw U X w' ρ' n H) x v∧bc U X (· =w') ρ' n H∧bM ρ n H w ρ' n H w'∧Fr (af ρ (bB (np p) H)) w w'∧ ∀y∈af ρ' (bB (np p) H),y∈af ρ (bB (np p) H)∨w.heap.size≤y):=by
 unfold qh at h;split at h
 ·rename_i c ho;split at h
  ·rename_i f hcal;split at h
   ·rename_i k hk;obtain⟨xs,h,hxs⟩:=f5 h he;have h:=nY h;obtain⟨x,h,hK⟩:=h;refine⟨x,hK,fun hp=>?_⟩;obtain⟨vs,e1,hv⟩:=hxs hp;have h:=lY h hp;refine⟨.func f,_,c.args.toList,c.argTypes,vs,by rw[ho];exact congrArg Op.call (mj hcal),rfl,e1,po.of ?_⟩;obtain⟨Mh,mv1,_⟩:=oy (p:=np p) M;have h1: ∀w',w'=w→Fr (af ρ (bB (np (np p)) H)) w w':=fun w' hw'=>by subst hw';exact Fr.refl _ _
    have Mk:=Mh.sub h1;have mvk:=fun w' hw'=>mv1 w' (h1 w' hw');have hv:bK (Vw U (af ρ (bB (np (np p)) H)++X) w ρ n (bB (np p) H)) xs vs:=bK.imp (fun _ _ hx=>hx.cong mvk fun i=>du) hv;refine Fn.mono (y6 hG (hG.2 f k hk) h Mk hv) fun v w'=>?_;rintro⟨av,n',H',ρ',⟨e2,e3,hK2⟩,hav,M',s'⟩;subst e2;subst e3;obtain⟨L,hL0,hm,hL⟩:=qO hK2;subst hL0;obtain⟨M2,s2,hrow,mv,hD⟩:=si M M' s' hm hL;have hav:nF (Vw U X w' ρ' _ _) (.v x) v:=nF.imp (fun _ _ hx=>hx.cong mv hrow) hav;exact⟨ρ',hav,M2,s2,s'.fr,hD⟩
   ·exact h.elim
  ·exact h.elim
 ·exact h.elim
theorem ya(hG:db P U G){Q:EQ}{l:List Oper}{K:KS U}{fl k i:Nat}{listed:Array Bool}{rest:KR U}(hdo:(o.dst.all (Nat.blt · nt))=true)
  (ih: ∀(e:En U) (n:Nat) (H:Hs U) (R:En U) (S:List Nat) (ρ:Nat→Rz) (ce:aG) (w:World),rest e n H R S K→bc U X (· =w) ρ n H→aI (Vw U X w ρ n H) R e ce→dx R e S→bM ρ0 b H0 w0 ρ n H w→Pg P nt l.toArray fl (af ρ (bB (np p) H)) Q k (listed.setIfInBounds i true) ce w)
  (h:jL T G l p o rest e n H R S K) (M:bc U X (· =w) ρ n H) (he:aI (Vw U X w ρ n H) R e ce) (hr:dx R e S) (st:bM ρ0 b H0 w0 ρ n H w):ly P nt l.toArray fl (af ρ (bB (np p) H)) Q k listed ce w i o:=by
 unfold jL at h;split at h
 ·exact h.elim
 ·rename_i j bb hg;split at h
  ·rename_i oj hj;split at h
   ·rename_i s hs;have key: ∀(q:cK) (kk:Nat) (c:Bool),(aD R s=some (.gd q ⟨false,[(kk,.d .bool c)]⟩)∨(aD R s=none∧aD e s=some (.v ⟨false,[(kk,.d .bool c)]⟩)∧q= []))→qh T G p ((s,bb)::q) o R e n H (fun v=>putG rest s o.dst ((s,bb)::q) v e n H R S K)→ly P nt l.toArray fl (af ρ (bB (np p) H)) Q k listed ce w i o:=fun q kk c hc h=>by
     obtain⟨hps,hw⟩:=ml (nt:=nt) sZ he hr hg hj hs hc;obtain⟨x,hK,hx⟩:=vu hG h M he;obtain⟨d,hdst,hn,hK,h1,h2,h3⟩:=nZ hdo hK;rcases hw with⟨hp,hw⟩|⟨hp,hw⟩
     ·obtain⟨fx,fv,xs,ts,vs,ho,hfx,hvs,hfn⟩:=hx hp;refine .inl ⟨hw,mE ho hdst hn hfx hvs hfn fun v w' hvw=>?_⟩;obtain⟨ρ',hv,M',s',hf,hD⟩:=hvw;obtain⟨he',hr'⟩:=(he.step s').putG hr h1 h2 h3 hps (x:=x) (cv:=v) (fun _=>hv) (fun hn=>absurd hp hn);exact⟨_,hf,hD,ih _ _ _ _ _ _ _ _ hK M' he' hr' (st.trans s')⟩
     ·obtain⟨he',hr'⟩:=he.putG hr h1 h2 h3 hps (x:=x) (cv:=undef) (fun h=>absurd h hp) (fun _=>rfl);exact .inr ⟨hw,hdo,by rw[hdst];exact ih _ _ _ _ _ _ _ _ hK M he' hr' st⟩
    split at h
    ·rename_i q kk c hc;exact key q kk c (.inl hc) h
    ·exact h.elim
    ·rename_i hR;split at h
     ·rename_i kk c hc;exact key [] kk c (.inr ⟨hR,hc,rfl⟩) h
     ·exact h.elim
   ·exact h.elim
  ·exact h.elim
theorem sr(hG:db P U G)(hT:bg U P T){Q:EQ}{l:List Oper}{K:KS U}{fl k i:Nat}{listed:Array Bool}{rest:KR U}(hdo:(o.dst.all (Nat.blt · nt))=true)
  (ih: ∀(e:En U) (n:Nat) (H:Hs U) (R:En U) (S:List Nat) (ρ:Nat→Rz) (ce:aG) (w:World),rest e n H R S K→bc U X (· =w) ρ n H→aI (Vw U X w ρ n H) R e ce→dx R e S→bM ρ0 b H0 w0 ρ n H w→Pg P nt l.toArray fl (af ρ (bB (np p) H)) Q k (listed.setIfInBounds i true) ce w)
  (h:lh T G l p false o rest e n H R S K) (M:bc U X (· =w) ρ n H) (he:aI (Vw U X w ρ n H) R e ce) (hr:dx R e S) (st:bM ρ0 b H0 w0 ρ n H w):ly P nt l.toArray fl (af ρ (bB (np p) H)) Q k listed ce w i o:=by
 unfold lh at h;have turn:(lW o=false∨o.guard≠none)→gH T G l o rest e n H R S K→ly P nt l.toArray fl (af ρ (bB (np p) H)) Q k listed ce w i o:=fun hor h=>by
  rcases mS hG hT h M he hr hdo with⟨hw,hact⟩|⟨hw,e',R',S',hK,he',hr'⟩
  ·refine .inl ⟨hw,bH.mono hact ?_⟩;rintro ce' w' ⟨e',n',H',R',S',ρ',hK,M',s',he',hr',hx⟩;obtain⟨hf,en,eh,er⟩:=hx hor;subst en;subst eh;subst er;exact⟨_,hf.mono (by simp),fun y hy=> .inl hy,ih _ _ _ _ _ _ _ _ hK M' he' hr' (st.trans s')⟩
  ·exact .inr ⟨hw,hdo,ih _ _ _ _ _ _ _ _ hK M he' hr' st⟩
 cases hna:lW o with
 |false=>
  rw[hna]at h;exact turn (.inl hna) h
 |true=>
  rw[hna]at h;cases hg:o.guard with
  |some g=>
   simp only[hg]at h;cases hpc:xc G o with
   |true=>
    rw[hpc]at h;exact ya hG hdo ih h M he hr st
   |false=>
    rw[hpc]at h;exact turn (.inr (by rw[hg];exact Option.some_ne_none _)) h
  |none=>
   simp only[hg]at h;have h:=nY h;obtain⟨Mh,mv1,_⟩:=oy (p:=np p) M;have h1: ∀w',w'=w→Fr (af ρ (bB (np (np p)) H)) w w':=fun w' hw'=>by subst hw';exact Fr.refl _ _
   have Mk:=Mh.sub h1;have mvk:=fun w' hw'=>mv1 w' (h1 w' hw');have hA:l8 P nt U _ w ρ n (bB (np p) H) ce o _:=we hG hT hdo h Mk (he.imp fun _ _ hx=>hx.cong mvk fun i=>du);refine .inl ⟨fP hg,bH.mono hA ?_⟩;rintro ce' w' ⟨av,n',H',ρ',cv,hK,rfl,hav,M',s'⟩;obtain⟨L,hK,hm,hL⟩:=qO hK;obtain⟨M2,s2,hrow,mv,hD⟩:=si M M' s' hm hL;refine⟨af ρ' (bB (np p) L),s'.fr,hD,?_⟩;have hav:nF (Vw U X w' ρ' n' L) av cv:=nF.imp (fun _ _ hx=>hx.cong mv hrow) hav;unfold oC at hK;cases hdst:o.dst with
   |none=>
    rw[hdst]at hK;exact ih _ _ _ _ _ _ _ _ hK M2 (he.step s2) hr (st.trans s2)
   |some d=>
    rw[hdst]at hK;simp only at hK;cases hm:gG d S with
    |true=>rw[hm]at hK;exact hK.elim
    |false=>
     rw[hm]at hK;obtain⟨he',hr'⟩:=(he.step s2).putV hr (eC hm) hav;exact ih _ _ _ _ _ _ _ _ hK M2 he' hr' (st.trans s2)
theorem su(hG:db P U G)(hT:bg U P T){Q:EQ}{l:List Oper}{K:KS U}{mk:List Nat}{f:Option Nat}
  (hQ: ∀e n H ρ ce w,K e n H→bc U X (· =w) ρ n H→aI (Vw U X w ρ n H) [] e ce→bM ρ0 b H0 w0 ρ n H w→Q .normal ce w) (PH:ui P U bx X ρ0 b H0 w0 Q) (hd: ∀o∈l,(o.dst.all (Nat.blt · nt))=true) (hpd: ∀o∈l,uh o.dst=true)
  (hs:Region.noSelect l.toArray=true) (hfin:mn l.toArray (f.getD l.toArray.size)):
  ∀(pl:List (Bool×Nat)) (listed:Array Bool) (fuel:Nat) (e:En U) (n:Nat) (H:Hs U) (R:En U) (S:List Nat) (ρ:Nat→Rz) (ce:aG) (w:World),nE l.toArray f pl listed=true→pl.length+pV f≤fuel→
   vK T G l mk (li T G l f) pl e n H R S K→bc U X (· =w) ρ n H→aI (Vw U X w ρ n H) R e ce→dx R e S→bM ρ0 b H0 w0 ρ n H w→
   Pg P nt l.toArray (f.getD l.toArray.size) (af ρ (bB (np fun i=>gG i mk) H)) Q fuel listed ce w
 | [],listed,fuel,e,n,H,R,S,ρ,ce,w,hc,hl,h,M,he,hr,st=>sm hG hT hQ PH hd hpd hc (by simpa using hl) h M he hr st
 |(how,i)::pl,listed,fuel,e,n,H,R,S,ρ,ce,w,hc,hl,h,M,he,hr,st=>by
  obtain⟨k,rfl⟩: ∃k,fuel=k+1:=⟨fuel - 1,by simp only[List.length_cons]at hl;omega⟩;have hl2:pl.length+pV f≤k:=by simp only[List.length_cons]at hl;omega
  have ih:=fun c4 e n H R S ρ ce w=>su (mk:=mk) hG hT hQ PH hd hpd hs hfin pl (listed.setIfInBounds i true) k e n H R S ρ ce w c4 hl2;replace h:(match (generalizing:=false) dn l i with
   |some o=>lh T G l (fun i=>gG i mk) how o (vK T G l mk (li T G l f) pl)
   |none=>fun _ _ _ _ _ _=>False) e n H R S K:=h
  cases ho:dn l i with
  |none=>rw[ho]at h;exact h.elim
  |some o=>
   rw[ho]at h;obtain⟨ha,hin⟩:=lN ho;have hdo:=hd o hin;cases how with
   |true=>
    have hc:((Region.ready .any l.toArray listed).contains i&&Region.free .any l.toArray listed i&&IV f i&&nE l.toArray f pl (listed.setIfInBounds i true))=true:=hc;simp only[Bool.and_eq_true]at hc;obtain⟨⟨⟨c1,c2⟩,c3⟩,c4⟩:=hc;exact so hG hT hs hfin ha hdo (hpd o hin) c1 c2 (vr (by simpa using c1) c3) (ih c4) h M he hr st
   |false=>
    have hc:(Region.ready .any l.toArray listed== [i]&&IV f i&&nE l.toArray f pl (listed.setIfInBounds i true))=true:=hc;simp only[Bool.and_eq_true]at hc;obtain⟨⟨c1,c3⟩,c4⟩:=hc;have c1:Region.ready .any l.toArray listed= [i]:=by simpa using c1
    refine JE (by rw[c1];exact List.cons_ne_nil _ _) fun j hj=>?_;rw[c1]at hj;obtain rfl:j=i:=by simpa using hj
    exact⟨o,ha,sr hG hT hdo (ih c4) h M he hr st⟩
theorem lO(hG:db P U G)(hT:bg U P T){Q:EQ}{l:List Oper}{K:KS U}{f:Option Nat}
  (hQ: ∀e n H ρ ce w,K e n H→bc U X (· =w) ρ n H→aI (Vw U X w ρ n H) [] e ce→bM ρ0 b H0 w0 ρ n H w→Q .normal ce w) (PH:ui P U bx X ρ0 b H0 w0 Q) (hd: ∀o∈l,(o.dst.all (Nat.blt · nt))=true) (hpd: ∀o∈l,uh o.dst=true)
  (hs:Region.noSelect l.toArray=true) (hfin:mn l.toArray (f.getD l.toArray.size)):
  ∀(t:Ot) (listed:Array Bool) (fuel:Nat) (e:En U) (n:Nat) (H:Hs U) (R:En U) (S:List Nat) (ρ:Nat→Rz) (ce:aG) (w:World),
   sI T G l p (li T G l f) t e n H R S K→bc U X (· =w) ρ n H→aI (Vw U X w ρ n H) R e ce→dx R e S→bM ρ0 b H0 w0 ρ n H w→
   (gI l.toArray f t listed none=true→t.h+pV f≤fuel→Pg P nt l.toArray (f.getD l.toArray.size) (af ρ (bB (np p) H)) Q fuel listed ce w)∧
   (∀L,gI l.toArray f t listed (some L)=true→t.h+pV f≤fuel+1→ ∀i∈L,∃o,l.toArray[i]? =some o∧ly P nt l.toArray (f.getD l.toArray.size) (af ρ (bB (np p) H)) Q fuel listed ce w i o)
 | .fin,listed,fuel,e,n,H,R,S,ρ,ce,w,h,M,he,hr,st=>⟨fun hc hl=>sm hG hT hQ PH hd hpd hc (by simpa[Ot.h]using hl) h M he hr st,fun L hc=>by cases hc⟩
 | .nil,listed,fuel,e,n,H,R,S,ρ,ce,w,h,M,he,hr,st=>⟨fun hc=>(by cases hc),fun L hc _ i hi=>by
   have hc:L.isEmpty=true:=hc;rw[List.isEmpty_iff]at hc;subst hc;cases hi⟩
 | .look i r,listed,fuel,e,n,H,R,S,ρ,ce,w,h,M,he,hr,st=>⟨fun hc hl=>by
   obtain⟨k,rfl⟩: ∃k,fuel=k+1:=⟨fuel - 1,by simp only[Ot.h]at hl;omega⟩;have hl2:r.h+pV f≤k:=by simp only[Ot.h]at hl;omega
   have hc:((Region.ready .any l.toArray listed).contains i&&Region.free .any l.toArray listed i&&IV f i&&gI l.toArray f r (listed.setIfInBounds i true) none)=true:=hc;simp only[Bool.and_eq_true]at hc;obtain⟨⟨⟨c1,c2⟩,c3⟩,c4⟩:=hc;have h:(match (generalizing:=false) dn l i with
    |some o=>lh T G l p true o (sI T G l p (li T G l f) r)
    |none=>fun _ _ _ _ _ _=>False) e n H R S K:=h
   cases ho:dn l i with
   |none=>rw[ho]at h;exact h.elim
   |some o=>
    rw[ho]at h;obtain⟨ha,hin⟩:=lN ho;exact so hG hT hs hfin ha (hd o hin) (hpd o hin) c1 c2 (vr (by simpa using c1) c3) (fun e n H R S ρ ce w h M he hr st=>(lO hG hT hQ PH hd hpd hs hfin r _ k e n H R S ρ ce w h M he hr st).1 c4 hl2) h M he hr st,fun L hc=>by cases hc⟩
 | .turn i a t,listed,fuel,e,n,H,R,S,ρ,ce,w,h,M,he,hr,st=>by
  have h:(match (generalizing:=false) dn l i with
    |some o=>lh T G l p false o (sI T G l p (li T G l f) a)
    |none=>fun _ _ _ _ _ _=>False) e n H R S K∧sI T G l p (li T G l f) t e n H R S K:=h
  obtain⟨h,h2⟩:=h;have key: ∀L k,Jo i L=true→gI l.toArray f a (listed.setIfInBounds i true) none=true→gI l.toArray f t listed (some L.tail)=true→(Ot.turn i a t).h+pV f≤k+1→ ∀j∈L,∃o,l.toArray[j]? =some o∧ly P nt l.toArray (f.getD l.toArray.size) (af ρ (bB (np p) H)) Q k listed ce w j o:=fun L k c1 c2 c3 hl j hj=>by
   have hl2:a.h+pV f≤k:=by simp only[Ot.h]at hl;omega
   have hl3:t.h+pV f≤k+1:=by simp only[Ot.h]at hl;omega
   cases L with
   |nil=>cases hj
   |cons x L=>
    have c1:x=i:=Nat.eq_of_beq_eq_true c1;subst c1;rcases List.mem_cons.1 hj with rfl|hj
    ·cases ho:dn l j with
     |none=>rw[ho]at h;exact h.elim
     |some o=>
      rw[ho]at h;obtain⟨ha,hin⟩:=lN ho;exact⟨o,ha,sr hG hT (hd o hin) (fun e n H R S ρ ce w h M he hr st=>(lO hG hT hQ PH hd hpd hs hfin a _ k e n H R S ρ ce w h M he hr st).1 c2 hl2) h M he hr st⟩
    ·exact(lO hG hT hQ PH hd hpd hs hfin t listed k e n H R S ρ ce w h2 M he hr st).2 L c3 hl3 j hj
  refine⟨fun hc hl=>?_,fun L hc hl=>?_⟩
  ·obtain⟨k,rfl⟩: ∃k,fuel=k+1:=⟨fuel - 1,by simp only[Ot.h]at hl;omega⟩;have hc:(Jo i (Region.ready .any l.toArray listed)&&gI l.toArray f a (listed.setIfInBounds i true) none&&gI l.toArray f t listed (some (Region.ready .any l.toArray listed).tail))=true:=hc;simp only[Bool.and_eq_true]at hc;obtain⟨⟨c1,c2⟩,c3⟩:=hc;exact JE (fun h0=>by rw[h0]at c1;cases c1) (key _ k c1 c2 c3 hl)
  ·have hc:(Jo i L&&gI l.toArray f a (listed.setIfInBounds i true) none&&gI l.toArray f t listed (some L.tail))=true:=hc;simp only[Bool.and_eq_true]at hc;obtain⟨⟨c1,c2⟩,c3⟩:=hc;exact key _ fuel c1 c2 c3 hl
theorem yb(hG:db P U G)(hT:bg U P T)(hmo:P.follows .mixedOrders=true){Q:EQ}{l:List Oper}{K:KS U}{id:Nat}(hQ: ∀e n H ρ ce w,K e n H→bc U X (· =w) ρ n H→aI (Vw U X w ρ n H) [] e ce→bM ρ0 b H0 w0 ρ n H w→Q .normal ce w)(PH:ui P U bx X ρ0 b H0 w0 Q)(hd: ∀o∈l,(o.dst.all (Nat.blt · nt))=true)(hpd: ∀o∈l,uh o.dst=true)(hnd:l.all pU=true)
  (h:vM T G b l.toArray e n H K) (M:bc U X (· =w) ρ n H) (he:aI (Vw U X w ρ n H) [] e ce) (st:bM ρ0 b H0 w0 ρ n H w):Wp P nt (.region id l.toArray true) Q ce w:=by
 obtain⟨M',s'⟩:=M.keep0 (Fr.drew w);have fin: ∀f:Option Nat,(match f with|some f=>Dv .any l.toArray f|none=>true)=true→mn l.toArray (f.getD l.toArray.size):=fun f hf=>by
  cases f with
  |none=>exact uG (Nat.le_refl _)
  |some f=>exact zg hf
 have r0:dx ([]:En U) e []:=⟨fun k hk=>absurd rfl hk,fun k av hk=>(by cases hk),fun k hk=>absurd rfl hk⟩;rcases h with⟨pl,f,mk,hp,h⟩|⟨t,f,mk,N,E,L,A,hp,h,hK⟩
 ·unfold uu at hp;simp only[Bool.and_eq_true]at hp;obtain⟨⟨⟨hs,hf⟩,hc⟩,hl⟩:=hp;exact E3 _ hmo hnd (su hG hT hQ PH hd hpd hs (fin f hf) pl _ _ _ _ _ _ _ _ _ _ hc (Nat.le_of_ble_eq_true hl) h M' (he.step s') r0 (st.trans s'))
 ·unfold yA at hp;simp only[Bool.and_eq_true]at hp;obtain⟨⟨⟨hs,hf⟩,hc⟩,hl⟩:=hp;refine E3 _ hmo hnd ((lO hG hT (K:=fun e' n' H'=>A∧ ∃φ,Js b N φ n' e' H' E L) ?_ PH hd hpd hs (fin f hf) t _ _ _ _ _ _ _ _ _ _ h M' (he.step s') r0 (st.trans s')).1 hc (Nat.le_of_ble_eq_true hl));rintro e' n' H' ρ' ce' w' ⟨hA,φ,hle⟩ M2 he2 st2;obtain⟨ρ3,M3,he3,st3⟩:=uE M2 he2 hle st2;exact hQ _ _ _ _ _ _ (hK hA) M3 he3 st3
omit [am]in
theorem I8{n:Nat}{env:aG}{w:World}{Q:EQ}{ops:Array Oper}{rest:List Oper}{o:Oper}(hw:lr n env ops o false)(hd:(o.dst.all (Nat.blt · n))=true)(h:Ls P n ops Q rest (env.dst o.dst undef) w):Ls P n ops Q (o::rest) env w:=by
 cases hdst:o.dst with
 |none=>rw[hdst]at h;exact Ki hw hdst h
 |some d=>rw[hdst]at h hd;exact Kh hw hdst (by simpa using hd) h
theorem qP(hG:db P U G)(hT:bg U P T){Q:EQ}{all:List Oper}{K:KS U}(hQ: ∀e n H ρ ce w,K e n H→bc U X (· =w) ρ n H→aI (Vw U X w ρ n H) [] e ce→bM ρ0 b H0 w0 ρ n H w→Q .normal ce w)(PH:ui P U bx X ρ0 b H0 w0 Q):
  ∀(l:List Oper) (e:En U) (n:Nat) (H:Hs U) (R:En U) (S:List Nat) (ρ:Nat→Rz) (ce:aG) (w:World),(∀o∈l,(o.dst.all (Nat.blt · nt))=true)→mV T G all l e n H R S K→bc U X (· =w) ρ n H→aI (Vw U X w ρ n H) R e ce→dx R e S→bM ρ0 b H0 w0 ρ n H w→
   Ls P nt all.toArray Q l ce w
 | [],e,n,H,R,S,ρ,ce,w,hd,h,M,he,hr,st=>ch (hQ e n H ρ ce w h M (he.noR hr) st)
 |o::l,e,n,H,R,S,ρ,ce,w,hd,h,M,he,hr,st=>by
  have ih:=qP (all:=all) hG hT hQ PH l;have hdo:=hd o (by simp);have hdl: ∀o∈l,(o.dst.all (Nat.blt · nt))=true:=fun o ho=>hd o (by simp[ho]);have h:(match o.guard with
   |none=>nD T G all o (mV T G all l)
   |some _=>bif xc G o then jL T G all (fun _=>true) o (mV T G all l)else gH T G all o (mV T G all l)) e n H R S K:=h
  have key:gH T G all o (mV T G all l) e n H R S K→Ls P nt all.toArray Q (o::l) ce w:=fun h=>by
   rcases mS hG hT h M he hr hdo with⟨hw,hact⟩|⟨hw,e',R',S',hK,he',hr'⟩
   ·refine DO hw (bH.mono hact ?_);rintro ce' w' ⟨e',n',H',R',S',ρ',hK,M',s',he',hr',_⟩;exact ih _ _ _ _ _ _ _ _ hdl hK M' he' hr' (st.trans s')
   ·exact I8 hw hdo (ih _ _ _ _ _ _ _ _ hdl hK M he' hr' st)
  cases hg0:o.guard with
  |none=>
   rw[hg0]at h;have h:nD T G all o (mV T G all l) e n H R S K:=h;unfold nD at h;cases hpb:GE (U:=U) o with
   |false=>rw[hpb]at h;exact key h
   |true=>
    rw[hpb]at h;simp only[cond_true,hg0]at h;obtain⟨g,xs,ts,vs,hcl,hx,hc2⟩:=sj hG PH.ok h M he;refine Ox (fP hg0) hcl hdo hx hc2 (fun v w' hv=>?_) (fun v w' hv=>?_)
    ·obtain⟨av,n',H',ρ',_,hK,hav,M',s'⟩:=hv;unfold oC at hK;cases hdst:o.dst with
     |none=>
      rw[hdst]at hK;exact ih _ _ _ _ _ _ _ _ hdl hK M' (he.step s') hr (st.trans s')
     |some d=>
      rw[hdst]at hK;simp only at hK;cases hm:gG d S with
      |true=>rw[hm]at hK;exact hK.elim
      |false=>
       rw[hm]at hK;obtain⟨he',hr'⟩:=(he.step s').putV hr (eC hm) hav;exact ih _ _ _ _ _ _ _ _ hdl hK M' he' hr' (st.trans s')
    ·obtain⟨z,rfl,n',H',ρ',hK,M',s'⟩:=hv;exact⟨_,PH.q _ _ _ _ _ _ _ hK M' ((he.step s').noR hr) (st.trans s')⟩
  |some jb=>
   rw[hg0]at h;have h:(bif xc G o then jL T G all (fun _=>true) o (mV T G all l)else gH T G all o (mV T G all l)) e n H R S K:=h;cases hp:xc G o with
   |false=>rw[hp]at h;exact key h
   |true=>
    rw[hp]at h;have h:jL T G all (fun _=>true) o (mV T G all l) e n H R S K:=h;unfold jL at h;split at h
    ·exact h.elim
    ·rename_i j bb hg;split at h
     ·rename_i oj hj;split at h
      ·rename_i s hs;have key: ∀(q:cK) (kk:Nat) (c:Bool),(aD R s=some (.gd q ⟨false,[(kk,.d .bool c)]⟩)∨(aD R s=none∧aD e s=some (.v ⟨false,[(kk,.d .bool c)]⟩)∧q= []))→qh T G (fun _=>true) ((s,bb)::q) o R e n H (fun v=>putG (mV T G all l) s o.dst ((s,bb)::q) v e n H R S K)→Ls P nt all.toArray Q (o::l) ce w:=fun q kk c hc h=>by
        obtain⟨hps,hw⟩:=ml (nt:=nt) sZ he hr hg hj hs hc;obtain⟨x,hK,hx⟩:=vu hG h M he;obtain⟨d,hdst,hn,hK,h1,h2,h3⟩:=nZ hdo hK;rcases hw with⟨hp,hw⟩|⟨hp,hw⟩
        ·obtain⟨fx,fv,xs,ts,vs,ho,hfx,hvs,hfn⟩:=hx hp;refine DO hw (mE ho hdst hn hfx hvs hfn fun v w' hvw=>?_);obtain⟨ρ',hv,M',s',hf,hD⟩:=hvw;obtain⟨he',hr'⟩:=(he.step s').putG hr h1 h2 h3 hps (x:=x) (cv:=v) (fun _=>hv) (fun hn=>absurd hp hn);exact ih _ _ _ _ _ _ _ _ hdl hK M' he' hr' (st.trans s')
        ·obtain⟨he',hr'⟩:=he.putG hr h1 h2 h3 hps (x:=x) (cv:=undef) (fun h=>absurd h hp) (fun _=>rfl);exact Kh hw hdst hn (ih _ _ _ _ _ _ _ _ hdl hK M he' hr' st)
       split at h
       ·rename_i q kk c hc;exact key q kk c (.inl hc) h
       ·exact h.elim
       ·rename_i hR;split at h
        ·rename_i kk c hc;exact key [] kk c (.inr ⟨hR,hc,rfl⟩) h
        ·exact h.elim
      ·exact h.elim
     ·exact h.elim
end
end Go.Proofs.YtmpeiadlohbikaaGreatDoor.V
end

section
set_option linter.unusedVariables false
set_option linter.unusedSectionVars false
set_option linter.unusedSimpArgs false
namespace Go.Proofs.YtmpeiadlohbikaaGreatDoor.V
open Go.RowKit
def p3(nt:Nat):Code→Bool
 | .region _ ops _=>(ops.toList.all fun o=>o.dst.all (Nat.blt · nt))&&ops.toList.all pU
 | .seq a b=>p3 nt a&&p3 nt b
 | .cond _ a b=>p3 nt a&&p3 nt b
 | .block _ a=>p3 nt a
 | .loop a=>p3 nt a
 |_=>true
def p4 [om]:Code→Bool
 | .region _ ops _=>ops.toList.all fun o=>uh o.dst
 | .seq a b=>p4 a&&p4 b
 | .cond _ a b=>p4 a&&p4 b
 | .block _ a=>p4 a
 | .loop a=>p4 a
 |_=>true
section
variable [bt] [om] [am] {U:bG} [hJ U] {bx:Int→Value} {P:Program} {nt:Nat} {T:cM U} {G:cR U} {X:List Nat} {w w' w0:World} {ρ ρ0:Nat→Rz} {n n0 b:Nat} {H H' H0:Hs U} {R e e':En U} {ce:aG} {o:Oper} {S:List Nat}
def E2:I0→Exit→Prop
 | .n,.normal=>True
 | .r,.ret=>True
 | .x i,.exit j=>i=j
 |_,_=>False
def QK(U:bG) [hJ U](bx:Int→Value)(X:List Nat)(ρ0:Nat→Rz)(b:Nat)(H0:Hs U)(w0:World)(K:KO U):EQ:=fun x ce w=>match x with
 | .panic c=> ∃z e n H ρ ce',c= [{v:=bx z,recovered:=false}]∧ce=om.pe∧hJ.kp z e n H∧bc U X (· =w) ρ n H∧aI (Vw U X w ρ n H) [] e ce'∧bM ρ0 b H0 w0 ρ n H w
 |x=> ∃o e n H ρ,K o e n H∧E2 o x∧bc U X (· =w) ρ n H∧aI (Vw U X w ρ n H) [] e ce∧bM ρ0 b H0 w0 ρ n H w
theorem lj{K:KO U}{ex:Exit}(hp: ¬ ∃c,ex= .panic c)(h:QK U bx X ρ0 b H0 w0 K ex ce w): ∃o e n H ρ,K o e n H∧E2 o ex∧bc U X (· =w) ρ n H∧aI (Vw U X w ρ n H) [] e ce∧bM ρ0 b H0 w0 ρ n H w:=by
 cases ex with
 |panic c=>exact absurd ⟨c,rfl⟩ hp
 |_=>exact h
theorem qn(hP:m5 P U bx (hJ.g (U:=U)))(hle: ∀z e n H ρ ce w,hJ.kp z e n H→bc U X (· =w) ρ n H→aI (Vw U X w ρ n H) [] e ce→bM ρ0 b H0 w0 ρ n H w→aG.Le om.pe ce)(hG:db P U G)(hT:bg U P T)(hmo:P.follows .mixedOrders=true): ∀(c:Code) (e:En U) (n:Nat) (H:Hs U) (K:KO U) (ρ:Nat→Rz) (ce:aG) (w:World),aw T G b c e n H K→p3 nt c=true→p4 c=true→bc U X (· =w) ρ n H→aI (Vw U X w ρ n H) [] e ce→bM ρ0 b H0 w0 ρ n H w→Wp P nt c (QK U bx X ρ0 b H0 w0 K) ce w:=by
 have PH: ∀K:KO U,ui P U bx X ρ0 b H0 w0 (QK U bx X ρ0 b H0 w0 K):=fun K=>⟨hP,fun z e n H ρ ce w hk M he st=>⟨hle z e n H ρ ce w hk M he st,z,e,n,H,ρ,ce,rfl,rfl,hk,M,he,st⟩⟩;intro c;induction c with
 |skip=>exact fun e n H K ρ ce w h _ _ M he st=>dt ⟨.n,e,n,H,ρ,h,trivial,M,he,st⟩
 |region id ops d=>
  intro e n H K ρ ce w h hc hpd M he st;have h:(bif d then vM T G b ops e n H (K .n)else mV T G ops.toList ops.toList e n H [] [] (K .n)):=h;cases d with
  |true=>
   obtain⟨l⟩:=ops;have hc:((l.all fun o=>o.dst.all (Nat.blt · nt))&&l.all pU)=true:=hc;rw[Bool.and_eq_true]at hc;exact yb (P:=P) (nt:=nt) (Q:=QK U bx X ρ0 b H0 w0 K) hG hT hmo (K:=K .n) (fun e n H ρ ce w hK M he st=>⟨.n,e,n,H,ρ,hK,trivial,M,he,st⟩) (PH K) (fun o ho=>List.all_eq_true.1 hc.1 o ho) (fun o ho=>List.all_eq_true.1 (show(l.all fun o=>uh o.dst)=true from hpd) o ho) hc.2 h M he st
  |false=>
   have hc:((ops.toList.all fun o=>o.dst.all (Nat.blt · nt))&&ops.toList.all pU)=true:=hc;rw[Bool.and_eq_true]at hc;have hL:=qP (P:=P) (nt:=nt) (Q:=QK U bx X ρ0 b H0 w0 K) (all:=ops.toList) hG hT (K:=K .n) (fun e n H ρ ce w hK M he st=>⟨.n,e,n,H,ρ,hK,trivial,M,he,st⟩) (PH K) ops.toList e n H [] [] ρ ce w (fun o ho=>List.all_eq_true.1 hc.1 o ho) h M he ⟨fun k hk=>absurd rfl hk,fun k av hk=>(by cases hk),fun k hk=>absurd rfl hk⟩ st;have:=qK (P:=P) (n:=nt) (id:=id) hL hc.2;simpa using this
 |seq x y ihx ihy=>
  intro e n H K ρ ce w h hc hpd M he st;have hc:(p3 nt x&&p3 nt y)=true:=hc;rw[Bool.and_eq_true]at hc;have hpd:(p4 x&&p4 y)=true:=hpd;rw[Bool.and_eq_true]at hpd;refine pE fun K' hK'=>?_;refine im (ihx e n H (Jp (aw T G b y) K) ρ ce w h hc.1 hpd.1 M he st) ?_;intro ex ce' w' hq;by_cases hpx: ∃c,ex= .panic c
  ·obtain⟨c,rfl⟩:=hpx;exact hq
  obtain⟨o,e',n',H',ρ',hK,ho,M',he',st'⟩:=lj hpx hq;cases o with
  |n=>
   cases ex<;>first|exact ho.elim|skip
   exact hK' _ _ (ihy e' n' H' K ρ' ce' w' hK hc.2 hpd.2 M' he' st')
  |r=>
   cases ex<;>first|exact ho.elim|skip
   exact⟨.r,e',n',H',ρ',hK,trivial,M',he',st'⟩
  |x i=>
   cases ex<;>first|exact ho.elim|skip
   exact⟨.x i,e',n',H',ρ',hK,ho,M',he',st'⟩
 |cond c x y ihx ihy=>
  intro e n H K ρ ce w h hc hpd M he st;have hc:(p3 nt x&&p3 nt y)=true:=hc;rw[Bool.and_eq_true]at hc;have hpd:(p4 x&&p4 y)=true:=hpd;rw[Bool.and_eq_true]at hpd;obtain⟨d,h,hd⟩:=br (show g8 [] [] e c (GG (aw T G b x) (aw T G b y) e n H K)from h) he;unfold GG at h;split at h
  ·rename_i t;obtain⟨u,e1,h1⟩:=hd cZ;have:=aC.boolE h1;subst this;exact fy e1 (fun ht=>ihx e n H K ρ ce w (h.1 ht) hc.1 hpd.1 M he st) (fun ht=>ihy e n H K ρ ce w (h.2 ht) hc.2 hpd.2 M he st)
  ·exact h.elim
 |block i x ih=>
  intro e n H K ρ ce w h hc hpd M he st;refine bn (im (ih e n H (Jq i K) ρ ce w h hc hpd M he st) ?_);intro ex ce' w' hq;by_cases hpx: ∃c,ex= .panic c
  ·obtain⟨c,rfl⟩:=hpx;exact hq
  obtain⟨o,e',n',H',ρ',hK,ho,M',he',st'⟩:=lj hpx hq;cases o with
  |n=>
   cases ex<;>first|exact ho.elim|skip
   exact⟨.n,e',n',H',ρ',hK,trivial,M',he',st'⟩
  |r=>
   cases ex<;>first|exact ho.elim|skip
   exact⟨.r,e',n',H',ρ',hK,trivial,M',he',st'⟩
  |x j=>
   cases ex<;>first|exact ho.elim|skip
   rename_i j';have ho:j=j':=ho;subst ho;have hK:(bif Nat.beq i j then K .n e' n' H' else K (.x j) e' n' H'):=hK;by_cases hij:i=j
   ·subst hij;rw[Nat.beq_refl]at hK;exact gT ⟨.n,e',n',H',ρ',hK,trivial,M',he',st'⟩
   ·rw[cg hij]at hK;exact DB (cg fun h=>hij h.symm) ⟨.x j,e',n',H',ρ',hK,rfl,M',he',st'⟩
 |loop x ih=>
  intro e n H K ρ ce w h hc hpd M he st;obtain⟨σ,N,E,Mh,I,μ,⟨φ,s,hI,hle⟩,hb⟩:=(show yC b (aw T G b x) e n H K from h);obtain⟨H5,l5,hle,M5,s5,-⟩:=fm hle M;obtain⟨ρ1,M1,he1,kV⟩:=uE M5 (he.step s5) hle (st.trans s5);refine wO (fun m ce w=> ∃s ρ',I s∧μ s=m∧bc U X (· =w) ρ' N (Mh s)∧aI (Vw U X w ρ' N (Mh s)) [] (E s) ce∧bM ρ0 b H0 w0 ρ' N (Mh s) w) (μ s) ⟨s,ρ1,hI,rfl,M1,he1,kV⟩ ?_;rintro m ce w ⟨s,ρ',hI,rfl,M',he',st'⟩;refine im (ih _ _ _ _ ρ' ce w (hb s hI) hc hpd M' he' st') ?_;intro ex ce' w' hq;by_cases hpx: ∃c,ex= .panic c
  ·obtain⟨c,rfl⟩:=hpx;exact hq
  obtain⟨o,e2,n2,H2,ρ2,hK,ho,M2,he2,st2⟩:=lj hpx hq;cases o with
  |n=>
   cases ex<;>first|exact ho.elim|skip
   obtain⟨φ,s',hlt,hI',hle⟩:=hK;obtain⟨H6,l6,hle,M6,s6,-⟩:=fm hle M2;obtain⟨ρ3,M3,he3,st3⟩:=uE M6 (he2.step s6) hle (st2.trans s6);exact⟨μ s',hlt,s',ρ3,hI',rfl,M3,he3,st3⟩
  |r=>
   cases ex<;>first|exact ho.elim|skip
   exact⟨.r,e2,n2,H2,ρ2,hK,trivial,M2,he2,st2⟩
  |x i=>
   cases ex<;>first|exact ho.elim|skip
   exact⟨.x i,e2,n2,H2,ρ2,hK,ho,M2,he2,st2⟩
 |rangeFunc f ps a x _ _=>exact fun e n H K ρ ce w h=>h.elim
 |exit i=>exact fun e n H K ρ ce w h _ _ M he st=>eQ ⟨.x i,e,n,H,ρ,h,rfl,M,he,st⟩
 |scope x _=>exact fun e n H K ρ ce w h=>h.elim
 |label i=>exact fun e n H K ρ ce w h _ _ M he st=>Av ⟨.n,e,n,H,ρ,h,trivial,M,he,st⟩
 |goto i=>exact fun e n H K ρ ce w h=>h.elim
 |ret=>exact fun e n H K ρ ce w h _ _ M he st=>wR ⟨.r,e,n,H,ρ,h,trivial,M,he,st⟩
 |refuse s=>exact fun e n H K ρ ce w h=>h.elim
end
end Go.Proofs.YtmpeiadlohbikaaGreatDoor.V
end

section
set_option linter.unusedVariables false
set_option linter.unusedSectionVars false
set_option linter.unusedSimpArgs false
namespace Go.Proofs.YtmpeiadlohbikaaGreatDoor.V
open Go.RowKit
section
variable [bt] [am] {U:bG} {P:Program} {nt:Nat} {T:cM U} {G:cR U} {X:List Nat} {w w' w0:World} {ρ ρ0:Nat→Rz} {n n0 b:Nat} {H H' H0:Hs U} {R e e':En U} {ce:aG} {o:Oper} {S:List Nat} {L:List Nat} {es:List (aJ U)} {fn:Func}
def Nc(P:Program)(ce:aG)(w:World):List ResultVar→List Value→Prop
 | [],[]=>True
 |r::l,v::vs=>Rv P ce w r v∧Nc P ce w l vs
 |_,_=>False
theorem rt(hT:bg U P T)(M:bc U X (· =w) ρ n H)(he:aI (Vw U X w ρ n H) [] e ce): ∀{l:List ResultVar} {K:List (Va U)→Prop},yD T l e H K→ ∃xs,K xs∧ ∃vs,Nc P ce w l vs∧bK (Vw U X w ρ n H) xs vs
 | [],K,h=>⟨[],h,[],trivial,rfl⟩
 | .tmp t::l,K,h=>by
  have h:kT [] [] e (.tmp t) fun v=>yD T l e H fun l=>K (v::l):=h;obtain⟨x,h,hx⟩:=cV h he;obtain⟨u,e1,h1⟩:=hx cZ;obtain⟨xs,h,vs,h2,h3⟩:=rt hT M he h;exact⟨_,h,u::vs,⟨e1,h2⟩,u,vs,rfl,h1,h3⟩
 | .cell p t::l,K,h=>by
  have h:g8 [] [] e (.tmp p) fun c=>sA T t H c fun v=>yD T l e H fun l=>K (v::l):=h;obtain⟨c,h,hc⟩:=br h he;obtain⟨x,h,hx⟩:=sL (P:=P) h M hT;obtain⟨u0,e1,h1⟩:=hc cZ;obtain⟨A,u,rfl,h4,h5⟩:=hx u0 h1;obtain⟨xs,h,vs,h2,h3⟩:=rt hT M he h;exact⟨_,h,u::vs,⟨⟨A,e1,h5 w rfl⟩,h2⟩,u,vs,rfl,h4,h3⟩
def JA:List Value→Value
 | [v]=>v
 |vs=> .tuple vs.toArray
omit [am]in
theorem He(hl:Nat.ble fn.results.toList.length 3=true){vs:List Value}(h:Nc P ce w fn.results.toList vs):vd P nt fn ce w (JA vs):=by
 have hle:=Nat.le_of_ble_eq_true hl;have hr:fn.results=fn.results.toList.toArray:=by simp
 generalize fn.results.toList=l at*;match l,vs,h,hle with
 | [],[],_,_=>exact Ic hr
 | [r],[v],⟨h1,_⟩,_=>exact J0 hr h1
 | [r,s],[v,u],⟨h1,h2,_⟩,_=>exact J1 hr h1 h2
 | [r,s,t],[v,u,x],⟨h1,h2,h3,_⟩,_=>exact J2 hr h1 h2 h3
 |_::_::_::_::_,_,_,h=>simp at h
 | [],_::_,h,_=>exact h.elim
 | [_],[],h,_=>exact h.elim
 | [_],_::_::_,h,_=>exact h.2.elim
 | [_,_],[],h,_=>exact h.elim
 | [_,_],[_],h,_=>exact h.2.elim
 | [_,_],_::_::_::_,h,_=>exact h.2.2.elim
 | [_,_,_],[],h,_=>exact h.elim
 | [_,_,_],[_],h,_=>exact h.2.elim
 | [_,_,_],[_,_],h,_=>exact h.2.2.elim
 | [_,_,_],_::_::_::_::_,h,_=>exact h.2.2.2.elim
omit [am]in
theorem CL{V:Cx U→List Value→Prop}{xs:List (Va U)}{vs:List Value}{K:AV U→Prop}(h:GL xs K)(hv:bK V xs vs): ∃r,K r∧nF V r (JA vs)∧ ∀z,r≠ .pan z:=by
 match xs,vs,hv with
 | [],vs,hv=>rw[show vs= []from hv];exact⟨_,h,⟨[],rfl,rfl⟩,fun _ q=>nomatch q⟩
 | [x],vs,hv=>
  obtain⟨v,us,rfl,h1,h2⟩:=hv;rw[show us= []from h2];exact⟨_,h,h1,fun _ q=>nomatch q⟩
 |x::y::r,vs,hv=>
  obtain⟨v,us,rfl,h1,h2⟩:=hv;obtain⟨u,us',rfl,h3,h4⟩:=h2;exact⟨_,h,⟨v::u::us',rfl,v,_,rfl,h1,u,_,rfl,h3,h4⟩,fun _ q=>nomatch q⟩
omit [am]in
theorem wi: ∀{k j:Nat} {L:List Nat},ux j k L=true→ ∀i,i<k→L[i]? =some (j+i)
 |0,j,L,h,i,hi=>absurd hi (Nat.not_lt_zero _)
 |k+1,j,[],h,i,hi=>by cases h
 |k+1,j,a::r,h,i,hi=>by
  have h:(bif Nat.beq a j then ux (j+1) k r else false)=true:=h;cases hb:Nat.beq a j with
  |false=>rw[hb]at h;cases h
  |true=>
   rw[hb]at h;cases i with
   |zero=>rw[Nat.eq_of_beq_eq_true hb];rfl
   |succ i=>
    have:=wi h i (by omega);rw[List.getElem?_cons_succ,this];congr 1;omega
theorem bd.subY{Y Y':List Nat}(hY: ∀y∈Y',y∈Y){x:Cx U}{vs:List Value}(h:bd U Y (· =w) ρ n H x vs):bd U Y' (· =w) ρ n H x vs:=by
 have mv:Mv Y (· =w) Y' (· =w):=fun w2 h2=>⟨w2,[],h2,Fr.refl _ _,fun _ h=>(by cases h),fun y hy=> .inl (hY y hy)⟩;cases x with
 |d s t=>exact aC.mv mv h
 |pd s t=>obtain⟨g,b,us,e,hd,hr⟩:=h;exact⟨g,b,us,e,aC.mv mv hd,hr.mv mv⟩
 |f1 a g=>obtain⟨u,e,hf⟩:=h;exact⟨u,e,hf.mv mv⟩
 |f2 a b g=>obtain⟨u,e,hf⟩:=h;exact⟨u,e,hf.mv mv⟩
 |_=>exact h
theorem bc.subX{X':List Nat}(M:bc U X (· =w) ρ n H)(hX: ∀x∈X',x∈X)(hx: ∀z∈am.xf,z∈X'):bc U X' (· =w) ρ n H:=by
 have hY: ∀y∈af ρ H++X',y∈af ρ H++X:=fun y hy=>by
  rcases List.mem_append.1 hy with h|h
  ·exact List.mem_append_left _ h
  ·exact List.mem_append_right _ (hX y h)
 have mv:Mv (af ρ H++X) (· =w) (af ρ H++X') (· =w):=fun w2 h2=>⟨w2,[],h2,Fr.refl _ _,fun _ h=>(by cases h),fun y hy=> .inl (hY y hy)⟩;refine⟨M.nd,M.lt,fun p hp=>?_,M.inj,fun g hg hx=>M.dj g hg (hX g hx),fun w2 h2 x hx=>M.lo w2 h2 x (hX x hx),hx,M.gv⟩;have h:=M.ent p hp;obtain⟨i,x⟩:=p;cases x with
 |cells l t=>obtain⟨g,vs,hA,hs,hw⟩:=h;exact⟨g,vs,hA,hs.imp fun _ _ h=>bd.subY hY h,hw⟩
 |row v s xs t=>obtain⟨hm,cs,sp,hd,ho,hw⟩:=h;exact⟨hm,cs,sp,aT.mv mv hd,ho,hw⟩
 |map d l=>obtain⟨hk,g,es,clock,m,hA,hm,hd,hw⟩:=h;exact⟨hk,g,es,clock,m,hA,hm,aH.mv mv hd,hw⟩
 |mapr d l r q0 q=>obtain⟨hk,g,es,clock,m,lv,cv,hA,hm,hd,hl,hc,hw⟩:=h;exact⟨hk,g,es,clock,m,lv,cv,hA,hm,aH.mv mv hd,aH.mv mv hl,aH.mv mv hc,hw⟩
 |it k q=>obtain⟨r,g,hA,hA2,hk,hrk,hw⟩:=h;exact⟨r,g,hA,hA2,hk,hrk,hw⟩
 |frz v s xs=>obtain⟨hm,cs,hd,hr,h1,h2⟩:=h;exact⟨hm,cs,aT.mv mv hd,hr.mv mv,h1,h2⟩
 |clo f l=>trivial
 |hid v l m=>trivial
 |dead=>trivial
theorem kz(hT:bg U P T){md:List Md}{em:List (Nat×List (Nat×Option aZ))}{K:AV U→List (aJ U)→Prop}{ou:I0}(h:sJ T fn md em b K ou e n H)(M:bc U X (· =w) ρ n H)(he:aI (Vw U X w ρ n H) [] e ce)(st:bM ρ0 b H0 w0 ρ n H w):
  ∃v,vd P nt fn ce w v∧ ∃r es' ρ',(∀z,r≠ .pan z)∧K r es'∧nF (Vw U X w ρ' es'.length (ax 0 es')) r v∧bc U X (· =w) ρ' es'.length (ax 0 es')∧bM ρ0 b H0 w0 ρ' es'.length (ax 0 es') w:=by
 have h:bif Nat.ble fn.results.toList.length 3 then yD T fn.results.toList e H fun l=>IX md l H fun H=>Mx em H fun H=>EW md l H fun H l=>yp (uo H 30 0 (wY H l (List.range b))) fun L=>bif mU L&&ux 0 b L then sH false H L l fun l=>qf false H L L fun es=>GL l fun r=>K r es else False else False:=by
  cases ou<;>first|exact h|exact h.elim
 cases hb3:Nat.ble fn.results.toList.length 3 with
 |false=>rw[hb3]at h;exact h.elim
 |true=>
  rw[hb3]at h;simp only[cond_true]at h;obtain⟨xs,h,vs,hrv,hvs⟩:=rt hT M he h;obtain⟨Ha,h,Ma,sa⟩:=jN h M;obtain⟨Hb,h,Mb,sb⟩:=y0 h Ma;obtain⟨H1,xs1,h,M1,s2,c1⟩:=m7 h Mb;have s1:=(sa.trans sb).trans s2;have hvs:bK (Vw U X w ρ n Hb) xs vs:=bK.imp (fun _ _ h=>h.step (sa.trans sb)) hvs;have h:=re h;generalize hLe:uo H1 30 0 (wY H1 xs1 (List.range b))=L at h;clear hLe;cases hb:(mU L&&ux 0 b L)with
  |false=>rw[hb]at h;exact h.elim
  |true=>
   rw[hb]at h;simp only[cond_true]at h;rw[Bool.and_eq_true]at hb;have hL:=l9 hb.1;have hpre: ∀i,i<b→L[i]? =some i:=fun i hi=>by have:=wi hb.2 i hi;rwa [Nat.zero_add]at this
   obtain⟨ys,h,hys⟩:=oN M1.i h;obtain⟨es,h,hl,hes⟩:=oP M1.i h;have rel:=jz.of hl hes;have hY:=uA (X:=X) hl hes;have Mc:=v6 M1.i (fun z hz=>hz) rfl (fun z hz=>List.mem_filter.2 ⟨List.mem_append_right _ (M1.xs z hz),by simpa using fun h=>M1.dj z (eD hl hes z h) (M1.xs z hz)⟩) hL hl hes;have XinXo: ∀g∈X,g∈Xo ρ H1 X (fI ρ L) (ax 0 es):=fun g hg=>List.mem_filter.2 ⟨List.mem_append_right _ hg,by simpa using fun h=>M1.dj g (eD hl hes g h) hg⟩;have hv:=hys es (af (fI ρ L) (ax 0 es)++X) (fun y hy=>by
    rcases List.mem_append.1 hy with h|h
    ·exact List.mem_append_left _ (eD hl hes y h)
    ·exact List.mem_append_right _ h) rel _ (c1 _ hvs)
   obtain⟨r,hK,hr,hnp⟩:=CL h hv;have kV:=st.trans s1;refine⟨_,He hb3 hrv,r,es,fI ρ L,hnp,hK,hr,Mc.subX XinXo M.xs,?_⟩;refine⟨kV.xd,?_,kV.fr,fun g hg=>kV.nb g (eD hl hes g hg),fun i hi v' l' m' hrow=>?_,fun i hi hrow=>?_⟩
   ·rcases Nat.eq_zero_or_pos b with h0|h0
    ·omega
    ·have:=bJ (hpre (b - 1) (by omega));omega
   ·rw[dZ]at hrow;obtain⟨x,y,a1,a2,a3⟩:=hes i i (hpre i hi);rw[a2]at hrow;obtain⟨v,b1,b2⟩:=a3.row.1 _ _ _ hrow;obtain⟨v0,l0,m0,d1,d2,d3⟩:=kV.row i hi v l' m' (by rw[a1];exact b1);have hvv:v'=v:=b2;subst hvv;refine⟨v0,l0,m0,d1,d2,fun h=>?_⟩;obtain⟨f1,f2⟩:=d3 h;exact⟨by rw[cu (hpre i hi)];exact f1,f2⟩
   ·rw[cu (hpre i hi)];exact kV.cel i hi hrow
def m9:Nat→List (Va U)→En U
 |_,[]=> []
 |i,x::r=>(i,.v x)::m9 (i+1) r
omit [am]in
theorem gi{V:Cx U→List Value→Prop}: ∀{xs:List (Va U)} {vs:List Value} {i:Nat},bK V xs vs→ ∀k av,aD (m9 i xs) k=some av→ ∃x u,av= .v x∧(bQ i vs).get k=some u∧cC V x u
 | [],vs,i,h,k,av,hk=>by cases hk
 |x::r,vs,i,h,k,av,hk=>by
  obtain⟨v,us,rfl,h1,h2⟩:=h;by_cases e1:i=k
  ·subst e1;have hk:aD ((i,AV.v x)::m9 (i+1) r) i=some av:=hk;rw[nS]at hk;injection hk with hk;exact⟨x,v,hk.symm,m8,h1⟩
  ·have hk:aD ((i,AV.v x)::m9 (i+1) r) k=some av:=hk;rw[dy e1]at hk;obtain⟨y,u,a,b,c⟩:=gi h2 k av hk;refine⟨y,u,a,?_,c⟩;show aG.get ((i,v)::bQ (i+1) us) k=some u
   rw[je e1];exact b
omit [am]in
theorem bK.length{V:Cx U→List Value→Prop}: ∀{xs:List (Va U)} {vs:List Value},bK V xs vs→vs.length=xs.length
 | [],vs,h=>by rw[show vs= []from h];rfl
 |x::r,vs,h=>by obtain⟨v,us,rfl,_,h2⟩:=h;simp[bK.length h2]
theorem JB(c:Code): @p4 pes0 c=true:=by
 induction c with
 |region _ ops _=>
  show(ops.toList.all fun o=> @uh pes0 o.dst)=true
  rw[List.all_eq_true];intro o _;unfold uh;cases o.dst<;>rfl
 |seq a b iha ihb=>show(@p4 pes0 a&& @p4 pes0 b)=true;rw[iha,ihb];rfl
 |cond _ a b iha ihb=>show(@p4 pes0 a&& @p4 pes0 b)=true;rw[iha,ihb];rfl
 |block _ a ih=>exact ih
 |loop a ih=>exact ih
 |_=>rfl
theorem CM(hT:bg U P T){K:AV U→List (aJ U)→Prop}{z:Int}(h:B6 b K z n H)(M:bc U X (· =w) ρ n H)(st:bM ρ0 b H0 w0 ρ n H w):
  ∃es' ρ',K (.pan z) es'∧bc U X (· =w) ρ' es'.length (ax 0 es')∧bM ρ0 b H0 w0 ρ' es'.length (ax 0 es') w:=by
 have h:sJ T {(default:Func)with results:= #[]} [] [] b (fun _ es=>K (.pan z) es) .r ([]:En U) n H:=h;obtain⟨v,_,r,es',ρ',_,h1,_,h2,h3⟩:=kz (P:=P) (nt:=0) (ce:= []) hT h M ⟨fun k x _ hk=>(by cases hk),fun k l _ hk=>(by cases hk),fun k p x hk=>(by cases hk)⟩ st;exact⟨es',ρ',h1,h2,h3⟩
omit [bt] [am]in
theorem dz{f:FuncId}{c:aW U}{code:Code}(hG:bl P U G)(hT:bg U P T)(hmo:P.follows .mixedOrders=true)(nt:Nat)(md:List Md)(em:List (Nat×List (Nat×Option aZ)))(hen:aA P f=true)(hf:P.funcs[f]? =some fn)(hb:fn.body=some code)(hn:fn.ntmps=nt)(hcd:p3 nt code=true)
  (h: ∀xs es K,c.run xs es K→Nat.ble xs.length nt=true∧GM T G fn md em (m9 0 xs) es.length (ax 0 es) K):bi P U f c:=fun [F:am] hpr X w ρ es xs vs K M hv hrun=>by
 obtain⟨hlen,hfun⟩:=h xs es K hrun;unfold GM at hfun
 rw[hb]at hfun
 have he:aI (Vw U X w ρ es.length (ax 0 es)) [] (m9 0 xs) (bQ 0 vs):=by
  refine⟨fun k x _ hk=>?_,fun k l _ hk=>?_,fun k p x hk=>by cases hk⟩
  ·obtain⟨y,u,h1,h2,h3⟩:=gi hv k _ hk;injection h1 with h1;subst h1;exact⟨u,h2,h3⟩
  ·obtain⟨y,u,h1,_⟩:=gi hv k _ hk;cases h1
 have hw:= @qn dfs0 pes0 F U panNone (fun _=> .nilIface) P nt T G X w ρ es.length (ax 0 es) (fun f c h=>(by cases h)) (fun z e n H ρ ce w h=>h.elim) ⟨hpr,hG⟩ hT hmo code _ _ _ _ ρ _ w hfun hcd (JB code) M he M.stp0;refine io nt hen hf hb hn (by rw[hv.length];exact hlen) (im hw ?_);intro ex ce' w' hq;by_cases hpx: ∃c,ex= .panic c
 ·obtain⟨c,rfl⟩:=hpx;obtain⟨_,_,_,_,_,_,_,_,hk,_⟩:=hq;exact hk.elim
 obtain⟨o,e',n',H',ρ',hK,ho,M',he',st'⟩:=lj hpx hq;obtain⟨v,hres,r,es',ρ2,_,h1,h2,h3,h4⟩:=kz (nt:=nt) hT hK M' he' st';cases ex with
 |normal=>exact fE hres ⟨r,es',ρ2,h1,h2,h3,h4⟩
 |ret=>exact fR hres ⟨r,es',ρ2,h1,h2,h3,h4⟩
 |exit j=>cases o<;>first|exact ho.elim|exact hK.elim
 |_=>cases o<;>exact ho.elim
omit [bt] [am]in
theorem ru{f:FuncId}{c:aW U}{code:Code}{GP:cR U}{bx:Int→Value}(hGP:m5 P U bx GP)(hG:bl P U G)(hT:bg U P T)(hmo:P.follows .mixedOrders=true)(nt:Nat)(md:List Md)(em:List (Nat×List (Nat×Option aZ)))(hen:aA P f=true)(hf:P.funcs[f]? =some fn)(hb:fn.body=some code)(hn:fn.ntmps=nt)(hcd:p3 nt code=true)
  (h: ∀xs es K,c.run xs es K→Nat.ble xs.length nt=true∧Jt GP T G fn md em (m9 0 xs) es.length (ax 0 es) K):mc P U bx f c:=fun [F:am] hpr X w ρ es xs vs K M hv hrun=>by
 obtain⟨hlen,hfun⟩:=h xs es K hrun;unfold Jt at hfun
 rw[hb]at hfun
 have he:aI (Vw U X w ρ es.length (ax 0 es)) [] (m9 0 xs) (bQ 0 vs):=by
  refine⟨fun k x _ hk=>?_,fun k l _ hk=>?_,fun k p x hk=>by cases hk⟩
  ·obtain⟨y,u,h1,h2,h3⟩:=gi hv k _ hk;injection h1 with h1;subst h1;exact⟨u,h2,h3⟩
  ·obtain⟨y,u,h1,_⟩:=gi hv k _ hk;cases h1
 have hw:= @qn dfs0 pes0 F U ⟨GP,fun z _ n H=>B6 es.length K z n H⟩ bx P nt T G X w ρ es.length (ax 0 es) hGP (fun z e n H ρ ce w h _ _ _=>trivial) ⟨hpr,hG⟩ hT hmo code _ _ _ _ ρ _ w hfun hcd (JB code) M he M.stp0;refine zT nt hen hf hb hn (by rw[hv.length];exact hlen) (im hw ?_);intro ex ce' w' hq;by_cases hpx: ∃c,ex= .panic c
 ·obtain⟨c,rfl⟩:=hpx;obtain⟨z,e',n',H',ρ',ce2,rfl,_,hk,M',_,st'⟩:=hq;obtain⟨es',ρ2,h1,h2,h3⟩:=CM hT hk M' st';exact⟨_,rfl,z,rfl,es',ρ2,h1,h2,h3⟩
 obtain⟨o,e',n',H',ρ',hK,ho,M',he',st'⟩:= @lj dfs0 pes0 F U ⟨GP,fun z _ n H=>B6 es.length K z n H⟩ bx X _ w ρ es.length (ax 0 es) ce' _ ex hpx hq;obtain⟨v,hres,r,es',ρ2,h0,h1,h2,h3,h4⟩:=kz (nt:=nt) hT hK M' he' st';cases ex with
 |normal=>exact⟨v,hres,r,es',ρ2,h0,h1,h2,h3,h4⟩
 |ret=>exact⟨v,hres,r,es',ρ2,h0,h1,h2,h3,h4⟩
 |exit j=>cases o<;>first|exact ho.elim|exact hK.elim
 |_=>cases o<;>exact ho.elim
end
end Go.Proofs.YtmpeiadlohbikaaGreatDoor.V
end

section
set_option linter.unusedVariables false
set_option linter.unusedSimpArgs false
namespace Go.Proofs.YtmpeiadlohbikaaGreatDoor.V
open Go.RowKit
section
variable [am] {U:bG} {P:Program} {t:Nat} {ti:TI U}
inductive Zc where
 |i (k:IntKind)|b|s|l|p|f|m
def I9:Zc→bU U
 | .i k=>(1,.d (.int k) (0:Int))
 | .b=>(1,.d .bool false)
 | .s=>(1,.d .str ([]:List UInt8))
 | .l=>(1,.nils)
 | .p=>(1,.nilp)
 | .f=>(1,.nilf)
 | .m=>(1,.nilm)
def BH:Zc→Value
 | .i k=> .int k 0
 | .b=> .bool false
 | .s=>sv []
 | .l=> .slice none 0 0
 | .p=> .pointer none
 | .f=> .nilFunc
 | .m=> .map none
theorem Ja{Y:List Nat}{S:World→Prop}{ρ:Nat→Rz}{n:Nat}{H:Hs U}: ∀l:List Zc,bI (bd U Y S ρ n H) (l.map I9) (l.map BH)
 | []=>rfl
 |z::r=>by
  refine⟨[BH z],r.map BH,rfl,by cases z<;>rfl,?_,Ja r⟩;cases z with
  |i k=>exact aC.int k 0 (by cases k<;>(unfold dq;omega))
  |b=>exact aC.bool false
  |s=>exact aC.str [] (by decide)
  |_=>rfl
def Jb(P:Program)(t f:Nat):Option Nat:=match P.underlying t with|some (.struct fs)=>(fs[f]?).map (·.type)|_=>none
def Jc(P:Program)(t:Nat):Nat→List (Nat×Nat)→Bool
 |_,[]=>true
 |f,(off,ft)::r=>decide (dV P t f=some off)&&decide (Jb P t f=some ft)&&Jc P t (f+1) r
omit [am]in
theorem yc: ∀{l:List (Nat×Nat)} {b f off ft:Nat},Jc P t b l=true→dn l f=some (off,ft)→dV P t (b+f)=some off∧Jb P t (b+f)=some ft
 | [],b,f,off,ft,h,hn=>by rw[cF]at hn;simp at hn
 |(o,g)::r,b,0,off,ft,h,hn=>by
  simp only[Jc,Bool.and_eq_true,decide_eq_true_eq]at h;rw[cF]at hn;simp only[List.getElem?_cons_zero,Option.some.injEq,Prod.mk.injEq]at hn;rw[←hn.1,←hn.2];exact h.1
 |(o,g)::r,b,f+1,off,ft,h,hn=>by
  simp only[Jc,Bool.and_eq_true,decide_eq_true_eq]at h;rw[cF,List.getElem?_cons_succ,←cF]at hn;have:=yc h.2 hn;rw[show b+(f+1)=b+1+f by omega];exact this
def Jd(P:Program)(pls:List (Nat×Nat)):Nat→List (Nat×Nat)→Bool
 |_,[]=>true
 |f,(off,ft)::r=>(match pls[f]? with
  |some (o,k)=>decide (o=off)&&decide ((P.info? ft).map (·.size)=some k)
  |none=>false)&&Jd P pls (f+1) r
omit [am]in
theorem yd{pls:List (Nat×Nat)}: ∀{l:List (Nat×Nat)} {b f off ft:Nat},Jd P pls b l=true→dn l f=some (off,ft)→ ∃k,pls[b+f]? =some (off,k)∧(P.info? ft).map (·.size)=some k
 | [],b,f,off,ft,h,hn=>by rw[cF]at hn;simp at hn
 |(o,g)::r,b,0,off,ft,h,hn=>by
  simp only[Jd,Bool.and_eq_true]at h;rw[cF]at hn;simp only[List.getElem?_cons_zero,Option.some.injEq,Prod.mk.injEq]at hn;obtain⟨h,_⟩:=h;split at h
  ·rename_i o' k hk;simp only[Bool.and_eq_true,decide_eq_true_eq]at h;refine⟨k,?_,?_⟩
   ·rw[Nat.add_zero,hk,h.1,hn.1]
   ·rw[←hn.2];exact h.2
  ·cases h
 |(o,g)::r,b,f+1,off,ft,h,hn=>by
  simp only[Jd,Bool.and_eq_true]at h;rw[cF,List.getElem?_cons_succ,←cF]at hn;have:=yd h.2 hn;rw[show b+(f+1)=b+1+f by omega];exact this
def P7(P:Program)(t:Nat)(k:Kd)(fs:List (Nat×Nat)):Bool:=match k with
 | .st=>(match mG P t with
  |some pls=>Jd P pls 0 fs
  |none=>false)
 |_=>true
omit [am]in
theorem aK(l:List Zc)(hz:ti.zero=l.map I9)(hzz:zeroCells P t=some (l.map BH))(hl:l.length=ti.sz)(hsz:(P.info? t).map (·.size)=some ti.sz)(hby:(P.info? t).map (·.bytes)=some ti.by_)(hkd:xe P t ti.kd)(h1:(ug ti.kd||c6 P t)=true)
  (hfs:Jc P t 0 ti.fs=true) (hpl:P7 P t ti.kd ti.fs=true) (heq: ∀s,ti.sh=some s→ti.cmp=true→ug ti.kd=true∧ja U P t s) (hmp: ∀d,ti.mp=some d→B7 P U d∧P.underlying t=some (.map d.kt d.vt)):aU U P t ti:=
 ⟨hsz,hkd,fun h=>by rw[h]at h1;exact h1,hby,fun f off ft hn=>by have:=yc hfs hn;rw[Nat.zero_add]at this;exact this,fun hk=>(by
  rw[hk]at hpl;unfold P7 at hpl;simp only at hpl;split at hpl
  ·rename_i pls hp;exact⟨pls,hp,fun f off ft hn=>by have:=yd hpl hn;rwa [Nat.zero_add]at this⟩
  ·exact absurd hpl (by decide)),heq,hmp,⟨_,hzz,by rw[List.length_map];exact hl,fun F Y S ρ n H=>by rw[hz];exact Ja l⟩⟩
def P8(P:Program)(t:Nat)(ag:Bool):Bool:=match il P t with
 |some (.agg _)=>ag
 |some _=>!ag
 |none=>false
omit [am]in
theorem n3{t:Nat}{s:aZ}{z:TT U.ty s}(h:aU U P t ti)(hz:cl 20 s ti.zero fun x=>x=z)(hb:P8 P t (dR s)=true): ∃v,il P t=some v∧ ∀Y S,∃vs,dv (dR s) v vs∧aC U Y S s z vs:=by
 obtain⟨zs,h1,_,h3⟩:=h.zero;have F:am:=⟨[],P⟩;obtain⟨x,rfl,hx⟩:=bq hz;have hd: ∀Y S,aC U Y S s x zs:=fun Y S=>hx _ _ _ _ _ _ (h3 F Y S (fun _=>⟨none,0⟩) 0 []);unfold P8 at hb;unfold zeroCells at h1;unfold il at hb⊢;cases hi:P.info? t with
 |none=>rw[hi]at h1;cases h1
 |some inf=>
  rw[hi]at h1 hb;simp only[Option.bind_some]at h1 hb⊢;cases hv:inf.zero with
  |none=>rw[hv]at h1;cases h1
  |some v=>
   rw[hv]at h1 hb;simp only[Option.map_some,Option.some.injEq]at h1;refine⟨v,rfl,fun Y S=>⟨zs,?_,hd Y S⟩⟩;unfold dv;cases v with
   |agg cs=>
    have hb:dR s=true:=hb;rw[hb];rw[←h1];simp[Value.cells]
   |_=>
    have hb:(!dR s)=true:=hb;have hb:dR s=false:=by simpa using hb
    rw[hb];rw[←h1];rfl
omit [am]in
theorem ye{α:Type} [DecidableEq α]{kt:TypeId}{enc:α→List Value}(hu: ∃fs,P.underlying kt=some (.struct fs))(hv:(bf P kt).isSome=true)(heq: ∀x y,∃r,aX P 8 kt (enc x) (enc y)=some r∧(r=true↔x=y))
  (hchk: ∀em x w,(Instr.checkKey em 10000 kt (.agg (enc x).toArray)).run P w= .ok () w) (hfl: ∀x,(enc x).all tV=true):eV P kt (fun x=> .agg (enc x).toArray):=by
 obtain⟨fs,hu⟩:=hu;refine eV.agg hu (fun _ _=>rfl) (by intro h;rw[h]at hv;cases hv) (fun x y=>?_) hchk fun x v hv=>List.all_eq_true.1 (hfl x) v hv;obtain⟨r,h1,h2⟩:=heq x y;rw[h1];congr 1;rw[Bool.eq_iff_iff,h2];simp
omit [am]in
theorem gD{Y:List Nat}{S:World→Prop}{k:IntKind}: ∀{xs:List Int} {vs:List Value},aT U Y S (.int k) xs vs→vs=xs.map (Value.int k)
 | [],vs,h=>by cases h;rfl
 |x::xs,vs,h=>by
  cases h with
  |cons _ _ _ v1 v2 hd _ hl=>rw[(aC.inv hd).1,gD hl];rfl
omit [am]in
theorem BI:bg U P []:=fun t ti h=>by cases h
omit [am]in
theorem al{T:cM U}{t:Nat}{ti:TI U}(h:aU U P t ti)(hT:bg U P T):bg U P ((t,ti)::T):=fun t' ti' h'=>by
 by_cases e:t=t'
 ·subst e;rw[nS]at h';injection h' with h';subst h';exact h
 ·rw[dy e]at h';exact hT t' ti' h'
omit [am]in
theorem ae:bl P U []:=fun f k h=>by cases h
omit [am]in
theorem aa{G:cR U}{f:Nat}{c:aW U}(h:bi P U f c)(hG:bl P U G):bl P U ((f,c)::G):=fun f' c' h'=>by
 by_cases e:f=f'
 ·subst e;rw[nS]at h';injection h' with h';subst h';exact h
 ·rw[dy e]at h';exact hG f' c' h'
omit [am]in
theorem jG{bx:Int→Value}:m5 P U bx []:=fun f k h=>by cases h
omit [am]in
theorem dE{bx:Int→Value}{G:cR U}{f:Nat}{c:aW U}(h:mc P U bx f c)(hG:m5 P U bx G):m5 P U bx ((f,c)::G):=fun f' c' h'=>by
 by_cases e:f=f'
 ·subst e;rw[nS]at h';injection h' with h';subst h';exact h
 ·rw[dy e]at h';exact hG f' c' h'
end
end Go.Proofs.YtmpeiadlohbikaaGreatDoor.V
end

section
set_option linter.unusedVariables false
namespace Go.Proofs.YtmpeiadlohbikaaGreatDoor.V
open Go.RowKit
theorem iD{p:Prop}{d:Decidable p}: @decide p d=true↔p:=decide_eq_true_iff
theorem iB{b:Bool}:b=true↔b=true:=Iff.rfl
theorem iA{a b:Bool}{P Q:Prop}(h1:a=true↔P)(h2:b=true↔Q):(a&&b)=true↔P∧Q:=by rw[Bool.and_eq_true,h1,h2]
theorem iO{a b:Bool}{P Q:Prop}(h1:a=true↔P)(h2:b=true↔Q):(a||b)=true↔P∨Q:=by rw[Bool.or_eq_true,h1,h2]
theorem iN{a:Bool}{P:Prop}(h1:a=true↔P):(!a)=true↔ ¬P:=by rw[←h1];simp
theorem iP{c a b:Bool}{C P Q:Prop} [Decidable C](h0:c=true↔C)(h1:a=true↔P)(h2:b=true↔Q):(bif c then a else b)=true↔(if C then P else Q):=by
 cases c with
 |true=>rw[if_pos (h0.1 rfl)];exact h1
 |false=>rw[if_neg (fun h=>by have:=h0.2 h;cases this)];exact h2
def V2(A B:Prop):Prop:=A∧B
theorem vI{α:Type}{f x y:α}{b:Bool}{P:Prop} [Decidable P]{A B:Prop}(hf:f=if P then x else y)(hb:b=true↔P)(h1:P→f=x→A)(h2: ¬P→f=y→B):xY b A B:=
 ⟨fun h=>h1 (hb.1 h) (hf.trans (if_pos (hb.1 h))),fun h=>have hn: ¬P:=fun hp=>by(rw[hb.2 hp]at h;cases h)
  h2 hn (hf.trans (if_neg hn))⟩
theorem vN{α:Type}{f x y:α}{b:Bool}{P:Prop} [Decidable P]{A B:Prop}(hf:f=if P then x else y)(hb:b=true↔ ¬P)(h1: ¬P→f=y→A)(h2:P→f=x→B):xY b A B:=
 ⟨fun h=>h1 (hb.1 h) (hf.trans (if_neg (hb.1 h))),fun h=>have hn:P:=Classical.byContradiction fun hp=>by(rw[hb.2 hp]at h;cases h)
  h2 hn (hf.trans (if_pos hn))⟩
theorem vT{b:Bool}{P A B:Prop}(hb:b=true↔P)(h:P)(k:A):xY b A B:=⟨fun _=>k,fun h'=>by rw[hb.2 h]at h';cases h'⟩
theorem vF{b:Bool}{P A B:Prop}(hb:b=true↔P)(h: ¬P)(k:B):xY b A B:=⟨fun h'=>absurd (hb.1 h') h,fun _=>k⟩
theorem vR{b:Bool}{P A B:Prop}(hb:b=true↔P)(h1:P→A)(h2: ¬P→B):xY b A B:=⟨fun h=>h1 (hb.1 h),fun h=>h2 (fun hp=>by rw[hb.2 hp]at h;cases h)⟩
theorem a8{p q r:Int}(h:0≤p→p≤255→0≤q→q≤255→0≤r∧r≤255):dq .u8 p→dq .u8 q→dq .u8 r:=fun h1 h2=>h h1.1 h1.2 h2.1 h2.2
theorem Q2{p q r:Int}(h:0≤p→p≤4294967295→0≤q→q≤4294967295→0≤r∧r≤4294967295):dq .u32 p→dq .u32 q→dq .u32 r:=fun h1 h2=>h h1.1 h1.2 h2.1 h2.2
theorem i6{p q r:Int}(h: -9223372036854775808≤p→p≤9223372036854775807→ -9223372036854775808≤q→q≤9223372036854775807→ -9223372036854775808≤r∧r≤9223372036854775807):dq .i64 p→dq .i64 q→dq .i64 r:=fun h1 h2=>h h1.1 h1.2 h2.1 h2.2
def aS{σ β:Type}(μ:σ→Nat)(inv:σ→Prop)(L:Nat→σ→β)(X:β)(s:σ):Prop:= ∃c,μ s<c+1∧inv s∧X=L (c+1) s
theorem aS.mk0{σ β:Type}{μ:σ→Nat}{inv:σ→Prop}{L:Nat→σ→β}{X:β}{s:σ}(c:Nat)(h:μ s<c+1)(hi:inv s)(hX:X=L (c+1) s):aS μ inv L X s:=⟨c,h,hi,hX⟩
theorem aS.next{σ β:Type}{μ:σ→Nat}{inv:σ→Prop}{L:Nat→σ→β}{X:β}{s s':σ}{c:Nat}(h:μ s<c+1)(h':μ s'<μ s)(hi:inv s')(hX:X=L c s'):aS μ inv L X s':=by
 cases c with
 |zero=>omega
 |succ c=>exact⟨c,by omega,hi,hX⟩
end Go.Proofs.YtmpeiadlohbikaaGreatDoor.V
end

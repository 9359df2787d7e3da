/- What printed walks use: splits, sums, loops. -/
import Derived.Test.YtmpeiadlohbikaaGreatDoorAt11
section
set_option linter.unusedVariables false
set_option linter.unusedSectionVars false
set_option linter.unusedSimpArgs false
namespace Go.Proofs.YtmpeiadlohbikaaGreatDoor.V
open Go.RowKit
section
variable [bB] [oW] [ao] {U:bD} [fL U] {bx:Int→Value} {P:Program} {nt:Nat} {T:cW U} {G:c6 U} {X Y:List Nat} {w w' w0:World} {W:World→Prop} {ρ ρ' ρ0:Nat→Rz} {n n' n0 b:Nat} {H H' H0 L:Hs U} {R e e':En U} {ce:aI} {o:Oper} {S:List Nat} {p:Nat→Bool}
omit [ao]in
theorem aJ.noR {V : Cx U → List Value → Prop} (he : aJ V R e ce) (hr : d7 R e S) : aJ V [] e ce :=
  ⟨fun k x _ hk => he.v k x (Classical.byContradiction fun hn => by rw [hr.ne k hn] at hk; cases hk) hk,
   fun k l _ hk => he.t k l (Classical.byContradiction fun hn => by rw [hr.ne k hn] at hk; cases hk) hk, fun k p x hk => by cases hk⟩
omit [ao]in
theorem nv.imp{V V':Cx U→List Value→Prop}(h: ∀x vs,V x vs→V' x vs): ∀{av:AV U} {v:Value},nv V av v→nv V' av v
 | .v x,v,hx=>cM.imp h hx
 | .tup l,v,hx=>by obtain⟨us,h1,h2⟩:=hx;exact⟨us,h1,bM.imp h h2⟩
 | .pan z,v,hx=>hx
 | .gd p x,v,hx=>hx
 | .un,v,hx=>hx
omit [ao]in
theorem mu{l:List Oper}{i:Nat}{o:Oper}(h:dT l i=some o):l.toArray[i]? =some o∧o∈l:=by
 rw[da]at h;exact⟨by simpa using h,List.mem_of_getElem? h⟩
omit [ao]in
theorem zb{ops:Array Oper}{listed:Array Bool}{i:Nat}(h:i∈Region.ready .any ops listed):i<ops.size:=by
 obtain⟨_,o,ho,_⟩:=mem_ready.1 h;exact(Array.getElem?_eq_some_iff.1 ho).1
def qE(f:Option Nat):Nat:=match f with|some _=>1|none=>0
def Kp(f:Option Nat)(i:Nat):Bool:=match f with|some f=>i !=f|none=>true
omit [ao]in
theorem wu{ops:Array Oper}{listed:Array Bool}{i:Nat}{f:Option Nat}(h:i∈Region.ready .any ops listed)(hf:Kp f i=true):i≠f.getD ops.size:=by
 have:=zb h;cases f with
 |none=>show i≠ops.size;omega
 |some f=>exact(by simpa[Kp]using hf: ¬i=f)
def Hv(P:Program)(nt:Nat)(U:bD) [fL U]:Prop:= ∀o f,fL.ua (U:=U) o=some f→ao.pr=P→ ∀X w ρ n (H:Hs U) R e ce K,f R e n H K→(o.dst.all (Nat.blt · nt))=true→aX U X (· =w) ρ n H→aJ (Vw U X w ρ n H) R e ce→jA P nt U X w ρ n H ce o K
structure vh(P:Program)(nt:Nat)(U:bD) [fL U](bx:Int→Value)(X:List Nat)(ρ0:Nat→Rz)(b:Nat)(H0:Hs U)(w0:World)(Q:EQ):Prop where
 ok:nI P U bx (fL.g (U:=U))
 ua:Hv P nt U
 q: ∀z e n H ρ ce w,fL.kp z e n H→aX U X (· =w) ρ n H→aJ (Vw U X w ρ n H) [] e ce→bQ ρ0 b H0 w0 ρ n H w→aI.Le oW.pe ce∧Q (.panic [{v:=bx z,recovered:=false}]) oW.pe w
theorem tA(hG:dF P U G){bx:Int→Value}(hP:nI P U bx (fL.g (U:=U))){K:AV U→Nat→Hs U→Prop}(h:H7 T G o R e n H K)(M:aX U X (· =w) ρ n H)(he:aJ (Vw U X w ρ n H) R e ce):
  ∃f xs ts vs,o.op= .call {callee:= .value (.func f),args:=List.toArray xs,argTypes:=ts}∧ce.evs xs=some vs∧xC P f vs w (fun v w'=> ∃av n' H' ρ',(∀z,av≠ .pan z)∧K av n' H'∧nv (Vw U X w' ρ' n' H') av v∧aX U X (· =w') ρ' n' H'∧bQ ρ n H w ρ' n' H' w')
   fun v w'=> ∃z,v=bx z∧ ∃n' H' ρ',fL.kp z e n' H'∧aX U X (· =w') ρ' n' H'∧bQ ρ n H w ρ' n' H' w':=by
 unfold H7 at h;split at h
 ·rename_i c ho;split at h
  ·rename_i f hcal;split at h
   ·rename_i k hk;obtain⟨xs,h,hxs⟩:=gU h he;obtain⟨vs,e1,hv⟩:=hxs cA;refine⟨f,c.args.toList,c.argTypes,vs,by rw[ho];exact congrArg Op.call (kj hcal),e1,xC.mono (DO hG (hP f k hk) h M hv) (fun v w'=>?_) fun v w' h=>h⟩;rintro⟨av,n',H',ρ',hn,hK,q⟩;refine⟨av,n',H',ρ',hn,?_,q⟩;cases av with
    |pan z=>exact absurd rfl (hn z)
    |_=>exact hK
   ·exact h.elim
  ·exact h.elim
 ·exact h.elim
theorem tB(hG:dF P U G)(hT:bf U P T){Q:EQ}{l:List Oper}{K:KS U}{D:List Nat}{listed:Array Bool}{fuel:Nat}{f:Option Nat}
  (hQ: ∀e n H ρ ce w,K e n H→aX U X (· =w) ρ n H→aJ (Vw U X w ρ n H) [] e ce→bQ ρ0 b H0 w0 ρ n H w→Q .normal ce w) (PH:vh P nt U bx X ρ0 b H0 w0 Q) (hd: ∀o∈l,(o.dst.all (Nat.blt · nt))=true) (hpd: ∀o∈l,vg o.dst=true)
  (hc:ol l.toArray f [] listed=true) (hl:qE f≤fuel) (h:lP T G l f e n H R S K) (M:aX U X (· =w) ρ n H) (he:aJ (Vw U X w ρ n H) R e ce) (hr:d7 R e S) (st:bQ ρ0 b H0 w0 ρ n H w):
  Pg P nt l.toArray (f.getD l.toArray.size) D Q fuel listed ce w:=by
 cases f with
 |none=>exact DX hc (hQ _ _ _ _ _ _ h M (he.noR hr) st)
 |some f=>
  have hc:(Region.ready .any l.toArray listed== [f]&&(Region.ready .any l.toArray (listed.setIfInBounds f true)).isEmpty)=true:=hc;rw[Bool.and_eq_true]at hc;obtain⟨k,rfl⟩: ∃k,fuel=k+1:=⟨fuel - 1,by unfold qE at hl;simp only at hl;omega⟩;have h:(match (generalizing:=false) dT l f with
   |some o=>oh T G l o (fun e n H _ _ K=>K e n H)
   |none=>fun _ _ _ _ _ _=>False) e n H R S K:=h
  cases ho:dT l f with
  |none=>rw[ho]at h;exact h.elim
  |some o=>
   rw[ho]at h;obtain⟨ha,hin⟩:=mu ho;have h:oh T G l o (fun e n H _ _ K=>K e n H) e n H R S K:=h;unfold oh at h;cases hpb:H4 (U:=U) o with
   |false=>
    rw[hpb]at h;simp only[cond_false]at h;cases hua:fL.ua (U:=U) o with
    |some uf=>
     rw[hua]at h;simp only at h;cases hg:o.guard with
     |some g=>rw[hg]at h;exact h.elim
     |none=>
      rw[hg]at h;refine Ar (by simpa using hc.1) hc.2 ha (fN hg) (bH.mono (PH.ua o uf hua hG.1 _ _ _ _ _ _ _ _ _ h (hd o hin) M he) ?_);rintro ce' w' ⟨av,n',H',ρ',cv,hK,rfl,hav,M',s'⟩;unfold mI at hK;cases hdst:o.dst with
      |none=>
       rw[hdst]at hK;exact hQ _ _ _ _ _ _ hK M' ((he.step s').noR hr) (st.trans s')
      |some d=>
       rw[hdst]at hK;simp only at hK;cases hm:gx d S with
       |true=>rw[hm]at hK;exact hK.elim
       |false=>
        rw[hm]at hK;obtain⟨he',hr'⟩:=(he.step s').putV hr (d6 hm) hav;exact hQ _ _ _ _ _ _ hK M' (he'.noR hr') (st.trans s')
    |none=>
    rw[hua]at h;have h:ig T G l o (fun e n H _ _ K=>K e n H) e n H R S K:=h;rcases nz hG hT h M he hr (hd o hin)with⟨hw,hact⟩|⟨hw,e',R',S',hK,he',hr'⟩
    ·refine Ar (by simpa using hc.1) hc.2 ha hw (bH.mono hact ?_);rintro ce' w' ⟨e',n',H',R',S',ρ',hK,M',s',he',hr',_⟩;exact hQ _ _ _ _ _ _ hK M' (he'.noR hr') (st.trans s')
    ·exact DW (by simpa using hc.1) hc.2 ha hw (hd o hin) (hQ _ _ _ _ _ _ hK M (he'.noR hr') st)
   |true=>
    rw[hpb]at h;simp only[cond_true]at h;cases hg:o.guard with
    |some g=>rw[hg]at h;exact h.elim
    |none=>
     rw[hg]at h;obtain⟨g,xs,ts,vs,hcl,hx,hc2⟩:=tA hG PH.ok h M he;refine DV (by simpa using hc.1) hc.2 ha (fN hg) hcl (hd o hin) hx hc2 (fun v w' hv=>?_) (fun v w' hv=>?_)
     ·obtain⟨av,n',H',ρ',_,hK,hav,M',s'⟩:=hv;unfold mI at hK;cases hdst:o.dst with
      |none=>
       rw[hdst]at hK;exact hQ _ _ _ _ _ _ hK M' ((he.step s').noR hr) (st.trans s')
      |some d=>
       rw[hdst]at hK;simp only at hK;cases hm:gx d S with
       |true=>rw[hm]at hK;exact hK.elim
       |false=>
        rw[hm]at hK;obtain⟨he',hr'⟩:=(he.step s').putV hr (d6 hm) hav;exact hQ _ _ _ _ _ _ hK M' (he'.noR hr') (st.trans s')
     ·obtain⟨z,rfl,n',H',ρ',hK,M',s'⟩:=hv;exact PH.q _ _ _ _ _ _ _ hK M' ((he.step s').noR hr) (st.trans s')
theorem tC(hG:dF P U G)(hT:bf U P T){Q:EQ}{l:List Oper}{K:KS U}{fl k i:Nat}{listed:Array Bool}{rest:KR U}
  (hs:Region.noSelect l.toArray=true) (hfin:mT l.toArray fl) (ha:l.toArray[i]? =some o) (hdo:(o.dst.all (Nat.blt · nt))=true) (hpo:vg o.dst=true) (c1:(Region.ready .any l.toArray listed).contains i=true) (c2:Region.free .any l.toArray listed i=true) (hne:i≠fl)
  (ih: ∀(e:En U) (n:Nat) (H:Hs U) (R:En U) (S:List Nat) (ρ:Nat→Rz) (ce:aI) (w:World),rest e n H R S K→aX U X (· =w) ρ n H→aJ (Vw U X w ρ n H) R e ce→d7 R e S→bQ ρ0 b H0 w0 ρ n H w→Pg P nt l.toArray fl (aj ρ (bG (np p) H)) Q k (listed.setIfInBounds i true) ce w)
  (h:lO T G l p true o rest e n H R S K) (M:aX U X (· =w) ρ n H) (he:aJ (Vw U X w ρ n H) R e ce) (hr:d7 R e S) (st:bQ ρ0 b H0 w0 ρ n H w):Pg P nt l.toArray fl (aj ρ (bG (np p) H)) Q (k+1) listed ce w:=by
 unfold lO at h;cases hna:mH o with
 |true=>rw[hna]at h;exact h.elim
 |false=>
  rw[hna]at h;have h:yb p H fun Hu=>ig T G l o (fun e _ _ R S K=>rest e n H R S K) e n Hu R S K:=h;have h:=oJ h;obtain⟨Mh,mv1,mv2⟩:=o7 (p:=p) M;obtain⟨e',R',S',hK,hh⟩:=qS (nt:=nt) hG.1 hna hT h Mh (he.imp fun _ _ hx=>hx.cong mv1 fun i=>dY) hr ⟨w,Fr.refl _ _⟩ hdo;rcases hh with⟨v,hw,hy,he',hr'⟩|⟨hw,he',hr'⟩
  ·exact OZ hfin hs ha c1 c2 hne hw hdo hpo hy (ih _ _ _ _ _ _ _ _ hK M (he'.imp fun _ _ hx=>hx.cong mv2 fun i=>dY.symm) hr' st)
  ·exact O0 hfin hs ha c1 c2 hne hw hdo hpo (ih _ _ _ _ _ _ _ _ hK M (he'.imp fun _ _ hx=>hx.cong mv2 fun i=>dY.symm) hr' st)
theorem wv(hG:dF P U G){q:di}{K:Va U→Prop}(h:qX T G p q o R e n H K)(M:aX U X (· =w) ρ n H)(he:aJ (Vw U X w ρ n H) R e ce):
  ∃x,K x∧(bn R e q→ ∃fx fv xs ts vs,o.op= .call {callee:= .value fx,args:=List.toArray xs,argTypes:=ts}∧ce.ev fx=some fv∧ce.evs xs=some vs∧pZ P fv vs w fun v w'=>
   ∃ρ',cM (Vw U X w' ρ' n H) x v∧aX U X (· =w') ρ' n H∧bQ ρ n H w ρ' n H w'∧Fr (aj ρ (bG (np p) H)) w w'∧ ∀y∈aj ρ' (bG (np p) H),y∈aj ρ (bG (np p) H)∨w.heap.size≤y):=by
 unfold qX at h;split at h
 ·rename_i c ho;split at h
  ·rename_i f hcal;split at h
   ·rename_i k hk;obtain⟨xs,h,hxs⟩:=gU h he;have h:=oJ h;obtain⟨x,h,hK⟩:=h;refine⟨x,hK,fun hp=>?_⟩;obtain⟨vs,e1,hv⟩:=hxs hp;have h:=mJ h hp;refine⟨.func f,_,c.args.toList,c.argTypes,vs,by rw[ho];exact congrArg Op.call (kj hcal),rfl,e1,pZ.of ?_⟩;obtain⟨Mh,mv1,_⟩:=o7 (p:=np p) M;have h1: ∀w',w'=w→Fr (aj ρ (bG (np (np p)) H)) w w':=fun w' hw'=>by subst hw';exact Fr.refl _ _
    have Mk:=Mh.sub h1;have mvk:=fun w' hw'=>mv1 w' (h1 w' hw');have hv:bM (Vw U (aj ρ (bG (np (np p)) H)++X) w ρ n (bG (np p) H)) xs vs:=bM.imp (fun _ _ hx=>hx.cong mvk fun i=>dY) hv;refine Fn.mono (Ae hG (hG.2 f k hk) h Mk hv) fun v w'=>?_;rintro⟨av,n',H',ρ',⟨e2,e3,hK2⟩,hav,M',s'⟩;subst e2;subst e3;obtain⟨L,hL0,hm,hL⟩:=rO hK2;subst hL0;obtain⟨M2,s2,hrow,mv,hD⟩:=tz M M' s' hm hL;have hav:nv (Vw U X w' ρ' _ _) (.v x) v:=nv.imp (fun _ _ hx=>hx.cong mv hrow) hav;exact⟨ρ',hav,M2,s2,s'.fr,hD⟩
   ·exact h.elim
  ·exact h.elim
 ·exact h.elim
theorem zd(hG:dF P U G){Q:EQ}{l:List Oper}{K:KS U}{fl k i:Nat}{listed:Array Bool}{rest:KR U}(hdo:(o.dst.all (Nat.blt · nt))=true)
  (ih: ∀(e:En U) (n:Nat) (H:Hs U) (R:En U) (S:List Nat) (ρ:Nat→Rz) (ce:aI) (w:World),rest e n H R S K→aX U X (· =w) ρ n H→aJ (Vw U X w ρ n H) R e ce→d7 R e S→bQ ρ0 b H0 w0 ρ n H w→Pg P nt l.toArray fl (aj ρ (bG (np p) H)) Q k (listed.setIfInBounds i true) ce w)
  (h:kf T G l p o rest e n H R S K) (M:aX U X (· =w) ρ n H) (he:aJ (Vw U X w ρ n H) R e ce) (hr:d7 R e S) (st:bQ ρ0 b H0 w0 ρ n H w):l9 P nt l.toArray fl (aj ρ (bG (np p) H)) Q k listed ce w i o:=by
 unfold kf at h;split at h
 ·exact h.elim
 ·rename_i j bb hg;split at h
  ·rename_i oj hj;split at h
   ·rename_i s hs;have key: ∀(q:di) (kk:Nat) (c:Bool),(aD R s=some (.gd q ⟨false,[(kk,.d .bool c)]⟩)∨(aD R s=none∧aD e s=some (.v ⟨false,[(kk,.d .bool c)]⟩)∧q= []))→qX T G p ((s,bb)::q) o R e n H (fun v=>putG rest s o.dst ((s,bb)::q) v e n H R S K)→l9 P nt l.toArray fl (aj ρ (bG (np p) H)) Q k listed ce w i o:=fun q kk c hc h=>by
     obtain⟨hps,hw⟩:=mS (nt:=nt) ug he hr hg hj hs hc;obtain⟨x,hK,hx⟩:=wv hG h M he;obtain⟨d,hdst,hn,hK,h1,h2,h3⟩:=oK hdo hK;rcases hw with⟨hp,hw⟩|⟨hp,hw⟩
     ·obtain⟨fx,fv,xs,ts,vs,ho,hfx,hvs,hfn⟩:=hx hp;refine .inl ⟨hw,m7 ho hdst hn hfx hvs hfn fun v w' hvw=>?_⟩;obtain⟨ρ',hv,M',s',hf,hD⟩:=hvw;obtain⟨he',hr'⟩:=(he.step s').putG hr h1 h2 h3 hps (x:=x) (cv:=v) (fun _=>hv) (fun hn=>absurd hp hn);exact⟨_,hf,hD,ih _ _ _ _ _ _ _ _ hK M' he' hr' (st.trans s')⟩
     ·obtain⟨he',hr'⟩:=he.putG hr h1 h2 h3 hps (x:=x) (cv:=undef) (fun h=>absurd h hp) (fun _=>rfl);exact .inr ⟨hw,hdo,by rw[hdst];exact ih _ _ _ _ _ _ _ _ hK M he' hr' st⟩
    split at h
    ·rename_i q kk c hc;exact key q kk c (.inl hc) h
    ·exact h.elim
    ·rename_i hR;split at h
     ·rename_i kk c hc;exact key [] kk c (.inr ⟨hR,hc,rfl⟩) h
     ·exact h.elim
   ·exact h.elim
  ·exact h.elim
theorem tD(hG:dF P U G)(hT:bf U P T){Q:EQ}{l:List Oper}{K:KS U}{fl k i:Nat}{listed:Array Bool}{rest:KR U}(hdo:(o.dst.all (Nat.blt · nt))=true)
  (ih: ∀(e:En U) (n:Nat) (H:Hs U) (R:En U) (S:List Nat) (ρ:Nat→Rz) (ce:aI) (w:World),rest e n H R S K→aX U X (· =w) ρ n H→aJ (Vw U X w ρ n H) R e ce→d7 R e S→bQ ρ0 b H0 w0 ρ n H w→Pg P nt l.toArray fl (aj ρ (bG (np p) H)) Q k (listed.setIfInBounds i true) ce w)
  (h:lO T G l p false o rest e n H R S K) (M:aX U X (· =w) ρ n H) (he:aJ (Vw U X w ρ n H) R e ce) (hr:d7 R e S) (st:bQ ρ0 b H0 w0 ρ n H w):l9 P nt l.toArray fl (aj ρ (bG (np p) H)) Q k listed ce w i o:=by
 unfold lO at h;have turn:(mH o=false∨o.guard≠none)→ig T G l o rest e n H R S K→l9 P nt l.toArray fl (aj ρ (bG (np p) H)) Q k listed ce w i o:=fun hor h=>by
  rcases nz hG hT h M he hr hdo with⟨hw,hact⟩|⟨hw,e',R',S',hK,he',hr'⟩
  ·refine .inl ⟨hw,bH.mono hact ?_⟩;rintro ce' w' ⟨e',n',H',R',S',ρ',hK,M',s',he',hr',hx⟩;obtain⟨hf,en,eh,er⟩:=hx hor;subst en;subst eh;subst er;exact⟨_,hf.mono (by simp),fun y hy=> .inl hy,ih _ _ _ _ _ _ _ _ hK M' he' hr' (st.trans s')⟩
  ·exact .inr ⟨hw,hdo,ih _ _ _ _ _ _ _ _ hK M he' hr' st⟩
 cases hna:mH o with
 |false=>
  rw[hna]at h;exact turn (.inl hna) h
 |true=>
  rw[hna]at h;cases hg:o.guard with
  |some g=>
   simp only[hg]at h;cases hpc:yc G o with
   |true=>
    rw[hpc]at h;exact zd hG hdo ih h M he hr st
   |false=>
    rw[hpc]at h;exact turn (.inr (by rw[hg];exact Option.some_ne_none _)) h
  |none=>
   simp only[hg]at h;have h:=oJ h;obtain⟨Mh,mv1,_⟩:=o7 (p:=np p) M;have h1: ∀w',w'=w→Fr (aj ρ (bG (np (np p)) H)) w w':=fun w' hw'=>by subst hw';exact Fr.refl _ _
   have Mk:=Mh.sub h1;have mvk:=fun w' hw'=>mv1 w' (h1 w' hw');have hA:jA P nt U _ w ρ n (bG (np p) H) ce o _:=xe hG hT hdo h Mk (he.imp fun _ _ hx=>hx.cong mvk fun i=>dY);refine .inl ⟨fN hg,bH.mono hA ?_⟩;rintro ce' w' ⟨av,n',H',ρ',cv,hK,rfl,hav,M',s'⟩;obtain⟨L,hK,hm,hL⟩:=rO hK;obtain⟨M2,s2,hrow,mv,hD⟩:=tz M M' s' hm hL;refine⟨aj ρ' (bG (np p) L),s'.fr,hD,?_⟩;have hav:nv (Vw U X w' ρ' n' L) av cv:=nv.imp (fun _ _ hx=>hx.cong mv hrow) hav;unfold mI at hK;cases hdst:o.dst with
   |none=>
    rw[hdst]at hK;exact ih _ _ _ _ _ _ _ _ hK M2 (he.step s2) hr (st.trans s2)
   |some d=>
    rw[hdst]at hK;simp only at hK;cases hm:gx d S with
    |true=>rw[hm]at hK;exact hK.elim
    |false=>
     rw[hm]at hK;obtain⟨he',hr'⟩:=(he.step s2).putV hr (d6 hm) hav;exact ih _ _ _ _ _ _ _ _ hK M2 he' hr' (st.trans s2)
theorem tF(hG:dF P U G)(hT:bf U P T){Q:EQ}{l:List Oper}{K:KS U}{mk:List Nat}{f:Option Nat}
  (hQ: ∀e n H ρ ce w,K e n H→aX U X (· =w) ρ n H→aJ (Vw U X w ρ n H) [] e ce→bQ ρ0 b H0 w0 ρ n H w→Q .normal ce w) (PH:vh P nt U bx X ρ0 b H0 w0 Q) (hd: ∀o∈l,(o.dst.all (Nat.blt · nt))=true) (hpd: ∀o∈l,vg o.dst=true)
  (hs:Region.noSelect l.toArray=true) (hfin:mT l.toArray (f.getD l.toArray.size)):
  ∀(pl:List (Bool×Nat)) (listed:Array Bool) (fuel:Nat) (e:En U) (n:Nat) (H:Hs U) (R:En U) (S:List Nat) (ρ:Nat→Rz) (ce:aI) (w:World),ol l.toArray f pl listed=true→pl.length+qE f≤fuel→
   wG T G l mk (lP T G l f) pl e n H R S K→aX U X (· =w) ρ n H→aJ (Vw U X w ρ n H) R e ce→d7 R e S→bQ ρ0 b H0 w0 ρ n H w→
   Pg P nt l.toArray (f.getD l.toArray.size) (aj ρ (bG (np fun i=>gx i mk) H)) Q fuel listed ce w
 | [],listed,fuel,e,n,H,R,S,ρ,ce,w,hc,hl,h,M,he,hr,st=>tB hG hT hQ PH hd hpd hc (by simpa using hl) h M he hr st
 |(how,i)::pl,listed,fuel,e,n,H,R,S,ρ,ce,w,hc,hl,h,M,he,hr,st=>by
  obtain⟨k,rfl⟩: ∃k,fuel=k+1:=⟨fuel - 1,by simp only[List.length_cons]at hl;omega⟩;have hl2:pl.length+qE f≤k:=by simp only[List.length_cons]at hl;omega
  have ih:=fun c4 e n H R S ρ ce w=>tF (mk:=mk) hG hT hQ PH hd hpd hs hfin pl (listed.setIfInBounds i true) k e n H R S ρ ce w c4 hl2;replace h:(match (generalizing:=false) dT l i with
   |some o=>lO T G l (fun i=>gx i mk) how o (wG T G l mk (lP T G l f) pl)
   |none=>fun _ _ _ _ _ _=>False) e n H R S K:=h
  cases ho:dT l i with
  |none=>rw[ho]at h;exact h.elim
  |some o=>
   rw[ho]at h;obtain⟨ha,hin⟩:=mu ho;have hdo:=hd o hin;cases how with
   |true=>
    have hc:((Region.ready .any l.toArray listed).contains i&&Region.free .any l.toArray listed i&&Kp f i&&ol l.toArray f pl (listed.setIfInBounds i true))=true:=hc;simp only[Bool.and_eq_true]at hc;obtain⟨⟨⟨c1,c2⟩,c3⟩,c4⟩:=hc;exact tC hG hT hs hfin ha hdo (hpd o hin) c1 c2 (wu (by simpa using c1) c3) (ih c4) h M he hr st
   |false=>
    have hc:(Region.ready .any l.toArray listed== [i]&&Kp f i&&ol l.toArray f pl (listed.setIfInBounds i true))=true:=hc;simp only[Bool.and_eq_true]at hc;obtain⟨⟨c1,c3⟩,c4⟩:=hc;have c1:Region.ready .any l.toArray listed= [i]:=by simpa using c1
    refine Lj (by rw[c1];exact List.cons_ne_nil _ _) fun j hj=>?_;rw[c1]at hj;obtain rfl:j=i:=by simpa using hj
    exact⟨o,ha,tD hG hT hdo (ih c4) h M he hr st⟩
theorem mw(hG:dF P U G)(hT:bf U P T){Q:EQ}{l:List Oper}{K:KS U}{f:Option Nat}
  (hQ: ∀e n H ρ ce w,K e n H→aX U X (· =w) ρ n H→aJ (Vw U X w ρ n H) [] e ce→bQ ρ0 b H0 w0 ρ n H w→Q .normal ce w) (PH:vh P nt U bx X ρ0 b H0 w0 Q) (hd: ∀o∈l,(o.dst.all (Nat.blt · nt))=true) (hpd: ∀o∈l,vg o.dst=true)
  (hs:Region.noSelect l.toArray=true) (hfin:mT l.toArray (f.getD l.toArray.size)):
  ∀(t:Ot) (listed:Array Bool) (fuel:Nat) (e:En U) (n:Nat) (H:Hs U) (R:En U) (S:List Nat) (ρ:Nat→Rz) (ce:aI) (w:World),
   tP T G l p (lP T G l f) t e n H R S K→aX U X (· =w) ρ n H→aJ (Vw U X w ρ n H) R e ce→d7 R e S→bQ ρ0 b H0 w0 ρ n H w→
   (ii l.toArray f t listed none=true→t.h+qE f≤fuel→Pg P nt l.toArray (f.getD l.toArray.size) (aj ρ (bG (np p) H)) Q fuel listed ce w)∧
   (∀L,ii l.toArray f t listed (some L)=true→t.h+qE f≤fuel+1→ ∀i∈L,∃o,l.toArray[i]? =some o∧l9 P nt l.toArray (f.getD l.toArray.size) (aj ρ (bG (np p) H)) Q fuel listed ce w i o)
 | .fin,listed,fuel,e,n,H,R,S,ρ,ce,w,h,M,he,hr,st=>⟨fun hc hl=>tB hG hT hQ PH hd hpd hc (by simpa[Ot.h]using hl) h M he hr st,fun L hc=>by cases hc⟩
 | .nil,listed,fuel,e,n,H,R,S,ρ,ce,w,h,M,he,hr,st=>⟨fun hc=>(by cases hc),fun L hc _ i hi=>by
   have hc:L.isEmpty=true:=hc;rw[List.isEmpty_iff]at hc;subst hc;cases hi⟩
 | .look i r,listed,fuel,e,n,H,R,S,ρ,ce,w,h,M,he,hr,st=>⟨fun hc hl=>by
   obtain⟨k,rfl⟩: ∃k,fuel=k+1:=⟨fuel - 1,by simp only[Ot.h]at hl;omega⟩;have hl2:r.h+qE f≤k:=by simp only[Ot.h]at hl;omega
   have hc:((Region.ready .any l.toArray listed).contains i&&Region.free .any l.toArray listed i&&Kp f i&&ii l.toArray f r (listed.setIfInBounds i true) none)=true:=hc;simp only[Bool.and_eq_true]at hc;obtain⟨⟨⟨c1,c2⟩,c3⟩,c4⟩:=hc;have h:(match (generalizing:=false) dT l i with
    |some o=>lO T G l p true o (tP T G l p (lP T G l f) r)
    |none=>fun _ _ _ _ _ _=>False) e n H R S K:=h
   cases ho:dT l i with
   |none=>rw[ho]at h;exact h.elim
   |some o=>
    rw[ho]at h;obtain⟨ha,hin⟩:=mu ho;exact tC hG hT hs hfin ha (hd o hin) (hpd o hin) c1 c2 (wu (by simpa using c1) c3) (fun e n H R S ρ ce w h M he hr st=>(mw hG hT hQ PH hd hpd hs hfin r _ k e n H R S ρ ce w h M he hr st).1 c4 hl2) h M he hr st,fun L hc=>by cases hc⟩
 | .turn i a t,listed,fuel,e,n,H,R,S,ρ,ce,w,h,M,he,hr,st=>by
  have h:(match (generalizing:=false) dT l i with
    |some o=>lO T G l p false o (tP T G l p (lP T G l f) a)
    |none=>fun _ _ _ _ _ _=>False) e n H R S K∧tP T G l p (lP T G l f) t e n H R S K:=h
  obtain⟨h,h2⟩:=h;have key: ∀L k,KZ i L=true→ii l.toArray f a (listed.setIfInBounds i true) none=true→ii l.toArray f t listed (some L.tail)=true→(Ot.turn i a t).h+qE f≤k+1→ ∀j∈L,∃o,l.toArray[j]? =some o∧l9 P nt l.toArray (f.getD l.toArray.size) (aj ρ (bG (np p) H)) Q k listed ce w j o:=fun L k c1 c2 c3 hl j hj=>by
   have hl2:a.h+qE f≤k:=by simp only[Ot.h]at hl;omega
   have hl3:t.h+qE f≤k+1:=by simp only[Ot.h]at hl;omega
   cases L with
   |nil=>cases hj
   |cons x L=>
    have c1:x=i:=Nat.eq_of_beq_eq_true c1;subst c1;rcases List.mem_cons.1 hj with rfl|hj
    ·cases ho:dT l j with
     |none=>rw[ho]at h;exact h.elim
     |some o=>
      rw[ho]at h;obtain⟨ha,hin⟩:=mu ho;exact⟨o,ha,tD hG hT (hd o hin) (fun e n H R S ρ ce w h M he hr st=>(mw hG hT hQ PH hd hpd hs hfin a _ k e n H R S ρ ce w h M he hr st).1 c2 hl2) h M he hr st⟩
    ·exact(mw hG hT hQ PH hd hpd hs hfin t listed k e n H R S ρ ce w h2 M he hr st).2 L c3 hl3 j hj
  refine⟨fun hc hl=>?_,fun L hc hl=>?_⟩
  ·obtain⟨k,rfl⟩: ∃k,fuel=k+1:=⟨fuel - 1,by simp only[Ot.h]at hl;omega⟩;have hc:(KZ i (Region.ready .any l.toArray listed)&&ii l.toArray f a (listed.setIfInBounds i true) none&&ii l.toArray f t listed (some (Region.ready .any l.toArray listed).tail))=true:=hc;simp only[Bool.and_eq_true]at hc;obtain⟨⟨c1,c2⟩,c3⟩:=hc;exact Lj (fun h0=>by rw[h0]at c1;cases c1) (key _ k c1 c2 c3 hl)
  ·have hc:(KZ i L&&ii l.toArray f a (listed.setIfInBounds i true) none&&ii l.toArray f t listed (some L.tail))=true:=hc;simp only[Bool.and_eq_true]at hc;obtain⟨⟨c1,c2⟩,c3⟩:=hc;exact key _ fuel c1 c2 c3 hl
theorem ze(hG:dF P U G)(hT:bf U P T)(hmo:P.follows .mixedOrders=true){Q:EQ}{l:List Oper}{K:KS U}{id:Nat}(hQ: ∀e n H ρ ce w,K e n H→aX U X (· =w) ρ n H→aJ (Vw U X w ρ n H) [] e ce→bQ ρ0 b H0 w0 ρ n H w→Q .normal ce w)(PH:vh P nt U bx X ρ0 b H0 w0 Q)(hd: ∀o∈l,(o.dst.all (Nat.blt · nt))=true)(hpd: ∀o∈l,vg o.dst=true)(hnd:l.all qD=true)
  (h:wH T G b l.toArray e n H K) (M:aX U X (· =w) ρ n H) (he:aJ (Vw U X w ρ n H) [] e ce) (st:bQ ρ0 b H0 w0 ρ n H w):Wp P nt (.region id l.toArray true) Q ce w:=by
 obtain⟨M',s'⟩:=M.keep0 (Fr.drew w);have fin: ∀f:Option Nat,(match f with|some f=>EG .any l.toArray f|none=>true)=true→mT l.toArray (f.getD l.toArray.size):=fun f hf=>by
  cases f with
  |none=>exact vO (Nat.le_refl _)
  |some f=>exact Ao hf
 have r0:d7 ([]:En U) e []:=⟨fun k hk=>absurd rfl hk,fun k av hk=>(by cases hk),fun k hk=>absurd rfl hk⟩;rcases h with⟨pl,f,mk,hp,h⟩|⟨t,f,mk,N,E,L,A,hp,h,hK⟩
 ·unfold vz at hp;simp only[Bool.and_eq_true]at hp;obtain⟨⟨⟨hs,hf⟩,hc⟩,hl⟩:=hp;exact Gl _ hmo hnd (tF hG hT hQ PH hd hpd hs (fin f hf) pl _ _ _ _ _ _ _ _ _ _ hc (Nat.le_of_ble_eq_true hl) h M' (he.step s') r0 (st.trans s'))
 ·unfold zA at hp;simp only[Bool.and_eq_true]at hp;obtain⟨⟨⟨hs,hf⟩,hc⟩,hl⟩:=hp;refine Gl _ hmo hnd ((mw hG hT (K:=fun e' n' H'=>A∧ ∃φ,K6 b N φ n' e' H' E L) ?_ PH hd hpd hs (fin f hf) t _ _ _ _ _ _ _ _ _ _ h M' (he.step s') r0 (st.trans s')).1 hc (Nat.le_of_ble_eq_true hl));rintro e' n' H' ρ' ce' w' ⟨hA,φ,hle⟩ M2 he2 st2;obtain⟨ρ3,M3,he3,st3⟩:=vL M2 he2 hle st2;exact hQ _ _ _ _ _ _ (hK hA) M3 he3 st3
omit [ao]in
theorem KG{n:Nat}{env:aI}{w:World}{Q:EQ}{ops:Array Oper}{rest:List Oper}{o:Oper}(hw:lU n env ops o false)(hd:(o.dst.all (Nat.blt · n))=true)(h:Ls P n ops Q rest (env.dst o.dst undef) w):Ls P n ops Q (o::rest) env w:=by
 cases hdst:o.dst with
 |none=>rw[hdst]at h;exact L5 hw hdst h
 |some d=>rw[hdst]at h hd;exact L4 hw hdst (by simpa using hd) h
theorem rP(hG:dF P U G)(hT:bf U P T){Q:EQ}{all:List Oper}{K:KS U}(hQ: ∀e n H ρ ce w,K e n H→aX U X (· =w) ρ n H→aJ (Vw U X w ρ n H) [] e ce→bQ ρ0 b H0 w0 ρ n H w→Q .normal ce w)(PH:vh P nt U bx X ρ0 b H0 w0 Q):
  ∀(l:List Oper) (e:En U) (n:Nat) (H:Hs U) (R:En U) (S:List Nat) (ρ:Nat→Rz) (ce:aI) (w:World),(∀o∈l,(o.dst.all (Nat.blt · nt))=true)→nC T G all l e n H R S K→aX U X (· =w) ρ n H→aJ (Vw U X w ρ n H) R e ce→d7 R e S→bQ ρ0 b H0 w0 ρ n H w→
   Ls P nt all.toArray Q l ce w
 | [],e,n,H,R,S,ρ,ce,w,hd,h,M,he,hr,st=>cw (hQ e n H ρ ce w h M (he.noR hr) st)
 |o::l,e,n,H,R,S,ρ,ce,w,hd,h,M,he,hr,st=>by
  have ih:=rP (all:=all) hG hT hQ PH l;have hdo:=hd o (by simp);have hdl: ∀o∈l,(o.dst.all (Nat.blt · nt))=true:=fun o ho=>hd o (by simp[ho]);have h:(match o.guard with
   |none=>oh T G all o (nC T G all l)
   |some _=>bif yc G o then kf T G all (fun _=>true) o (nC T G all l)else ig T G all o (nC T G all l)) e n H R S K:=h
  have key:ig T G all o (nC T G all l) e n H R S K→Ls P nt all.toArray Q (o::l) ce w:=fun h=>by
   rcases nz hG hT h M he hr hdo with⟨hw,hact⟩|⟨hw,e',R',S',hK,he',hr'⟩
   ·refine Bw hw (bH.mono hact ?_);rintro ce' w' ⟨e',n',H',R',S',ρ',hK,M',s',he',hr',_⟩;exact ih _ _ _ _ _ _ _ _ hdl hK M' he' hr' (st.trans s')
   ·exact KG hw hdo (ih _ _ _ _ _ _ _ _ hdl hK M he' hr' st)
  cases hg0:o.guard with
  |none=>
   rw[hg0]at h;have h:oh T G all o (nC T G all l) e n H R S K:=h;unfold oh at h;cases hpb:H4 (U:=U) o with
   |false=>
    rw[hpb]at h;simp only[cond_false]at h;cases hua:fL.ua (U:=U) o with
    |none=>rw[hua]at h;exact key h
    |some uf=>
     rw[hua]at h;simp only[hg0]at h;refine Bw (fN hg0) (bH.mono (PH.ua o uf hua hG.1 _ _ _ _ _ _ _ _ _ h hdo M he) ?_);rintro ce' w' ⟨av,n',H',ρ',cv,hK,rfl,hav,M',s'⟩;unfold mI at hK;cases hdst:o.dst with
     |none=>
      rw[hdst]at hK;exact ih _ _ _ _ _ _ _ _ hdl hK M' (he.step s') hr (st.trans s')
     |some d=>
      rw[hdst]at hK;simp only at hK;cases hm:gx d S with
      |true=>rw[hm]at hK;exact hK.elim
      |false=>
       rw[hm]at hK;obtain⟨he',hr'⟩:=(he.step s').putV hr (d6 hm) hav;exact ih _ _ _ _ _ _ _ _ hdl hK M' he' hr' (st.trans s')
   |true=>
    rw[hpb]at h;simp only[cond_true,hg0]at h;obtain⟨g,xs,ts,vs,hcl,hx,hc2⟩:=tA hG PH.ok h M he;refine Qh (fN hg0) hcl hdo hx hc2 (fun v w' hv=>?_) (fun v w' hv=>?_)
    ·obtain⟨av,n',H',ρ',_,hK,hav,M',s'⟩:=hv;unfold mI at hK;cases hdst:o.dst with
     |none=>
      rw[hdst]at hK;exact ih _ _ _ _ _ _ _ _ hdl hK M' (he.step s') hr (st.trans s')
     |some d=>
      rw[hdst]at hK;simp only at hK;cases hm:gx d S with
      |true=>rw[hm]at hK;exact hK.elim
      |false=>
       rw[hm]at hK;obtain⟨he',hr'⟩:=(he.step s').putV hr (d6 hm) hav;exact ih _ _ _ _ _ _ _ _ hdl hK M' he' hr' (st.trans s')
    ·obtain⟨z,rfl,n',H',ρ',hK,M',s'⟩:=hv;exact⟨_,PH.q _ _ _ _ _ _ _ hK M' ((he.step s').noR hr) (st.trans s')⟩
  |some jb=>
   rw[hg0]at h;have h:(bif yc G o then kf T G all (fun _=>true) o (nC T G all l)else ig T G all o (nC T G all l)) e n H R S K:=h;cases hp:yc G o with
   |false=>rw[hp]at h;exact key h
   |true=>
    rw[hp]at h;have h:kf T G all (fun _=>true) o (nC T G all l) e n H R S K:=h;unfold kf at h;split at h
    ·exact h.elim
    ·rename_i j bb hg;split at h
     ·rename_i oj hj;split at h
      ·rename_i s hs;have key: ∀(q:di) (kk:Nat) (c:Bool),(aD R s=some (.gd q ⟨false,[(kk,.d .bool c)]⟩)∨(aD R s=none∧aD e s=some (.v ⟨false,[(kk,.d .bool c)]⟩)∧q= []))→qX T G (fun _=>true) ((s,bb)::q) o R e n H (fun v=>putG (nC T G all l) s o.dst ((s,bb)::q) v e n H R S K)→Ls P nt all.toArray Q (o::l) ce w:=fun q kk c hc h=>by
        obtain⟨hps,hw⟩:=mS (nt:=nt) ug he hr hg hj hs hc;obtain⟨x,hK,hx⟩:=wv hG h M he;obtain⟨d,hdst,hn,hK,h1,h2,h3⟩:=oK hdo hK;rcases hw with⟨hp,hw⟩|⟨hp,hw⟩
        ·obtain⟨fx,fv,xs,ts,vs,ho,hfx,hvs,hfn⟩:=hx hp;refine Bw hw (m7 ho hdst hn hfx hvs hfn fun v w' hvw=>?_);obtain⟨ρ',hv,M',s',hf,hD⟩:=hvw;obtain⟨he',hr'⟩:=(he.step s').putG hr h1 h2 h3 hps (x:=x) (cv:=v) (fun _=>hv) (fun hn=>absurd hp hn);exact ih _ _ _ _ _ _ _ _ hdl hK M' he' hr' (st.trans s')
        ·obtain⟨he',hr'⟩:=he.putG hr h1 h2 h3 hps (x:=x) (cv:=undef) (fun h=>absurd h hp) (fun _=>rfl);exact L4 hw hdst hn (ih _ _ _ _ _ _ _ _ hdl hK M he' hr' st)
       split at h
       ·rename_i q kk c hc;exact key q kk c (.inl hc) h
       ·exact h.elim
       ·rename_i hR;split at h
        ·rename_i kk c hc;exact key [] kk c (.inr ⟨hR,hc,rfl⟩) h
        ·exact h.elim
      ·exact h.elim
     ·exact h.elim
end
end Go.Proofs.YtmpeiadlohbikaaGreatDoor.V
end

section
set_option linter.unusedVariables false
set_option linter.unusedSectionVars false
set_option linter.unusedSimpArgs false
namespace Go.Proofs.YtmpeiadlohbikaaGreatDoor.V
open Go.RowKit
def qB(nt:Nat):Code→Bool
 | .region _ ops _=>(ops.toList.all fun o=>o.dst.all (Nat.blt · nt))&&ops.toList.all qD
 | .seq a b=>qB nt a&&qB nt b
 | .cond _ a b=>qB nt a&&qB nt b
 | .block _ a=>qB nt a
 | .loop a=>qB nt a
 |_=>true
def qL [oW]:Code→Bool
 | .region _ ops _=>ops.toList.all fun o=>vg o.dst
 | .seq a b=>qL a&&qL b
 | .cond _ a b=>qL a&&qL b
 | .block _ a=>qL a
 | .loop a=>qL a
 |_=>true
section
variable [bB] [oW] [ao] {U:bD} [fL U] {bx:Int→Value} {P:Program} {nt:Nat} {T:cW U} {G:c6 U} {X:List Nat} {w w' w0:World} {ρ ρ0:Nat→Rz} {n n0 b:Nat} {H H' H0:Hs U} {R e e':En U} {ce:aI} {o:Oper} {S:List Nat}
def Gk:Ku→Exit→Prop
 | .n,.normal=>True
 | .r,.ret=>True
 | .x i,.exit j=>i=j
 |_,_=>False
def QK(U:bD) [fL U](bx:Int→Value)(X:List Nat)(ρ0:Nat→Rz)(b:Nat)(H0:Hs U)(w0:World)(K:KO U):EQ:=fun x ce w=>match x with
 | .panic c=> ∃z e n H ρ ce',c= [{v:=bx z,recovered:=false}]∧ce=oW.pe∧fL.kp z e n H∧aX U X (· =w) ρ n H∧aJ (Vw U X w ρ n H) [] e ce'∧bQ ρ0 b H0 w0 ρ n H w
 |x=> ∃o e n H ρ,K o e n H∧Gk o x∧aX U X (· =w) ρ n H∧aJ (Vw U X w ρ n H) [] e ce∧bQ ρ0 b H0 w0 ρ n H w
theorem km{K:KO U}{ex:Exit}(hp: ¬ ∃c,ex= .panic c)(h:QK U bx X ρ0 b H0 w0 K ex ce w): ∃o e n H ρ,K o e n H∧Gk o ex∧aX U X (· =w) ρ n H∧aJ (Vw U X w ρ n H) [] e ce∧bQ ρ0 b H0 w0 ρ n H w:=by
 cases ex with
 |panic c=>exact absurd ⟨c,rfl⟩ hp
 |_=>exact h
theorem pz(hP:nI P U bx (fL.g (U:=U)))(hU:Hv P nt U)(hle: ∀z e n H ρ ce w,fL.kp z e n H→aX U X (· =w) ρ n H→aJ (Vw U X w ρ n H) [] e ce→bQ ρ0 b H0 w0 ρ n H w→aI.Le oW.pe ce)(hG:dF P U G)(hT:bf U P T)(hmo:P.follows .mixedOrders=true): ∀(c:Code) (e:En U) (n:Nat) (H:Hs U) (K:KO U) (ρ:Nat→Rz) (ce:aI) (w:World),aw T G b c e n H K→qB nt c=true→qL c=true→aX U X (· =w) ρ n H→aJ (Vw U X w ρ n H) [] e ce→bQ ρ0 b H0 w0 ρ n H w→Wp P nt c (QK U bx X ρ0 b H0 w0 K) ce w:=by
 have PH: ∀K:KO U,vh P nt U bx X ρ0 b H0 w0 (QK U bx X ρ0 b H0 w0 K):=fun K=>⟨hP,hU,fun z e n H ρ ce w hk M he st=>⟨hle z e n H ρ ce w hk M he st,z,e,n,H,ρ,ce,rfl,rfl,hk,M,he,st⟩⟩;intro c;induction c with
 |skip=>exact fun e n H K ρ ce w h _ _ M he st=>dW ⟨.n,e,n,H,ρ,h,trivial,M,he,st⟩
 |region id ops d=>
  intro e n H K ρ ce w h hc hpd M he st;have h:(bif d then wH T G b ops e n H (K .n)else nC T G ops.toList ops.toList e n H [] [] (K .n)):=h;cases d with
  |true=>
   obtain⟨l⟩:=ops;have hc:((l.all fun o=>o.dst.all (Nat.blt · nt))&&l.all qD)=true:=hc;rw[Bool.and_eq_true]at hc;exact ze (P:=P) (nt:=nt) (Q:=QK U bx X ρ0 b H0 w0 K) hG hT hmo (K:=K .n) (fun e n H ρ ce w hK M he st=>⟨.n,e,n,H,ρ,hK,trivial,M,he,st⟩) (PH K) (fun o ho=>List.all_eq_true.1 hc.1 o ho) (fun o ho=>List.all_eq_true.1 (show(l.all fun o=>vg o.dst)=true from hpd) o ho) hc.2 h M he st
  |false=>
   have hc:((ops.toList.all fun o=>o.dst.all (Nat.blt · nt))&&ops.toList.all qD)=true:=hc;rw[Bool.and_eq_true]at hc;have hL:=rP (P:=P) (nt:=nt) (Q:=QK U bx X ρ0 b H0 w0 K) (all:=ops.toList) hG hT (K:=K .n) (fun e n H ρ ce w hK M he st=>⟨.n,e,n,H,ρ,hK,trivial,M,he,st⟩) (PH K) ops.toList e n H [] [] ρ ce w (fun o ho=>List.all_eq_true.1 hc.1 o ho) h M he ⟨fun k hk=>absurd rfl hk,fun k av hk=>(by cases hk),fun k hk=>absurd rfl hk⟩ st;have:=rF (P:=P) (n:=nt) (id:=id) hL hc.2;simpa using this
 |seq x y ihx ihy=>
  intro e n H K ρ ce w h hc hpd M he st;have hc:(qB nt x&&qB nt y)=true:=hc;rw[Bool.and_eq_true]at hc;have hpd:(qL x&&qL y)=true:=hpd;rw[Bool.and_eq_true]at hpd;refine qf fun K' hK'=>?_;refine g8 (ihx e n H (K0 (aw T G b y) K) ρ ce w h hc.1 hpd.1 M he st) ?_;intro ex ce' w' hq;by_cases hpx: ∃c,ex= .panic c
  ·obtain⟨c,rfl⟩:=hpx;exact hq
  obtain⟨o,e',n',H',ρ',hK,ho,M',he',st'⟩:=km hpx hq;cases o with
  |n=>
   cases ex<;>first|exact ho.elim|skip
   exact hK' _ _ (ihy e' n' H' K ρ' ce' w' hK hc.2 hpd.2 M' he' st')
  |r=>
   cases ex<;>first|exact ho.elim|skip
   exact⟨.r,e',n',H',ρ',hK,trivial,M',he',st'⟩
  |x i=>
   cases ex<;>first|exact ho.elim|skip
   exact⟨.x i,e',n',H',ρ',hK,ho,M',he',st'⟩
 |cond c x y ihx ihy=>
  intro e n H K ρ ce w h hc hpd M he st;have hc:(qB nt x&&qB nt y)=true:=hc;rw[Bool.and_eq_true]at hc;have hpd:(qL x&&qL y)=true:=hpd;rw[Bool.and_eq_true]at hpd;obtain⟨d,h,hd⟩:=bj (show gR [] [] e c (H8 (aw T G b x) (aw T G b y) e n H K)from h) he;unfold H8 at h;split at h
  ·rename_i t;obtain⟨u,e1,h1⟩:=hd cA;have:=aC.boolE h1;subst this;exact gj e1 (fun ht=>ihx e n H K ρ ce w (h.1 ht) hc.1 hpd.1 M he st) (fun ht=>ihy e n H K ρ ce w (h.2 ht) hc.2 hpd.2 M he st)
  ·exact h.elim
 |block i x ih=>
  intro e n H K ρ ce w h hc hpd M he st;refine bv (g8 (ih e n H (K4 i K) ρ ce w h hc hpd M he st) ?_);intro ex ce' w' hq;by_cases hpx: ∃c,ex= .panic c
  ·obtain⟨c,rfl⟩:=hpx;exact hq
  obtain⟨o,e',n',H',ρ',hK,ho,M',he',st'⟩:=km hpx hq;cases o with
  |n=>
   cases ex<;>first|exact ho.elim|skip
   exact⟨.n,e',n',H',ρ',hK,trivial,M',he',st'⟩
  |r=>
   cases ex<;>first|exact ho.elim|skip
   exact⟨.r,e',n',H',ρ',hK,trivial,M',he',st'⟩
  |x j=>
   cases ex<;>first|exact ho.elim|skip
   rename_i j';have ho:j=j':=ho;subst ho;have hK:(bif Nat.beq i j then K .n e' n' H' else K (.x j) e' n' H'):=hK;by_cases hij:i=j
   ·subst hij;rw[Nat.beq_refl]at hK;exact iy ⟨.n,e',n',H',ρ',hK,trivial,M',he',st'⟩
   ·rw[cu hij]at hK;exact EM (cu fun h=>hij h.symm) ⟨.x j,e',n',H',ρ',hK,rfl,M',he',st'⟩
 |loop x ih=>
  intro e n H K ρ ce w h hc hpd M he st;obtain⟨σ,N,E,Mh,I,μ,⟨φ,s,hI,hle⟩,hb⟩:=(show zC b (aw T G b x) e n H K from h);obtain⟨H5,l5,hle,M5,s5,-⟩:=fZ hle M;obtain⟨ρ1,M1,he1,lG⟩:=vL M5 (he.step s5) hle (st.trans s5);refine xO (fun m ce w=> ∃s ρ',I s∧μ s=m∧aX U X (· =w) ρ' N (Mh s)∧aJ (Vw U X w ρ' N (Mh s)) [] (E s) ce∧bQ ρ0 b H0 w0 ρ' N (Mh s) w) (μ s) ⟨s,ρ1,hI,rfl,M1,he1,lG⟩ ?_;rintro m ce w ⟨s,ρ',hI,rfl,M',he',st'⟩;refine g8 (ih _ _ _ _ ρ' ce w (hb s hI) hc hpd M' he' st') ?_;intro ex ce' w' hq;by_cases hpx: ∃c,ex= .panic c
  ·obtain⟨c,rfl⟩:=hpx;exact hq
  obtain⟨o,e2,n2,H2,ρ2,hK,ho,M2,he2,st2⟩:=km hpx hq;cases o with
  |n=>
   cases ex<;>first|exact ho.elim|skip
   obtain⟨φ,s',hlt,hI',hle⟩:=hK;obtain⟨H6,l6,hle,M6,s6,-⟩:=fZ hle M2;obtain⟨ρ3,M3,he3,st3⟩:=vL M6 (he2.step s6) hle (st2.trans s6);exact⟨μ s',hlt,s',ρ3,hI',rfl,M3,he3,st3⟩
  |r=>
   cases ex<;>first|exact ho.elim|skip
   exact⟨.r,e2,n2,H2,ρ2,hK,trivial,M2,he2,st2⟩
  |x i=>
   cases ex<;>first|exact ho.elim|skip
   exact⟨.x i,e2,n2,H2,ρ2,hK,ho,M2,he2,st2⟩
 |rangeFunc f ps a x _ _=>exact fun e n H K ρ ce w h=>h.elim
 |exit i=>exact fun e n H K ρ ce w h _ _ M he st=>fH ⟨.x i,e,n,H,ρ,h,rfl,M,he,st⟩
 |scope x _=>exact fun e n H K ρ ce w h=>h.elim
 |label i=>exact fun e n H K ρ ce w h _ _ M he st=>Bv ⟨.n,e,n,H,ρ,h,trivial,M,he,st⟩
 |goto i=>exact fun e n H K ρ ce w h=>h.elim
 |ret=>exact fun e n H K ρ ce w h _ _ M he st=>wR ⟨.r,e,n,H,ρ,h,trivial,M,he,st⟩
 |refuse s=>exact fun e n H K ρ ce w h=>h.elim
end
end Go.Proofs.YtmpeiadlohbikaaGreatDoor.V
end

section
set_option linter.unusedVariables false
set_option linter.unusedSectionVars false
set_option linter.unusedSimpArgs false
namespace Go.Proofs.YtmpeiadlohbikaaGreatDoor.V
open Go.RowKit
section
variable [bB] [ao] {U:bD} {P:Program} {nt:Nat} {T:cW U} {G:c6 U} {X:List Nat} {w w' w0:World} {ρ ρ0:Nat→Rz} {n n0 b:Nat} {H H' H0:Hs U} {R e e':En U} {ce:aI} {o:Oper} {S:List Nat} {L:List Nat} {es:List (aH U)} {fn:Func}
def OY(P:Program)(ce:aI)(w:World):List ResultVar→List Value→Prop
 | [],[]=>True
 |r::l,v::vs=>Rv P ce w r v∧OY P ce w l vs
 |_,_=>False
theorem sy(hT:bf U P T)(M:aX U X (· =w) ρ n H)(he:aJ (Vw U X w ρ n H) [] e ce): ∀{l:List ResultVar} {K:List (Va U)→Prop},zD T l e H K→ ∃xs,K xs∧ ∃vs,OY P ce w l vs∧bM (Vw U X w ρ n H) xs vs
 | [],K,h=>⟨[],h,[],trivial,rfl⟩
 | .tmp t::l,K,h=>by
  have h:j6 [] [] e (.tmp t) fun v=>zD T l e H fun l=>K (v::l):=h;obtain⟨x,h,hx⟩:=cH h he;obtain⟨u,e1,h1⟩:=hx cA;obtain⟨xs,h,vs,h2,h3⟩:=sy hT M he h;exact⟨_,h,u::vs,⟨e1,h2⟩,u,vs,rfl,h1,h3⟩
 | .cell p t::l,K,h=>by
  have h:gR [] [] e (.tmp p) fun c=>tI T t H c fun v=>zD T l e H fun l=>K (v::l):=h;obtain⟨c,h,hc⟩:=bj h he;obtain⟨x,h,hx⟩:=tT (P:=P) h M hT;obtain⟨u0,e1,h1⟩:=hc cA;obtain⟨A,u,rfl,h4,h5⟩:=hx u0 h1;obtain⟨xs,h,vs,h2,h3⟩:=sy hT M he h;exact⟨_,h,u::vs,⟨⟨A,e1,h5 w rfl⟩,h2⟩,u,vs,rfl,h4,h3⟩
def Lg:List Value→Value
 | [v]=>v
 |vs=> .tuple vs.toArray
omit [ao]in
theorem IF(hl:Nat.ble fn.results.toList.length 3=true){vs:List Value}(h:OY P ce w fn.results.toList vs):wk P nt fn ce w (Lg vs):=by
 have hle:=Nat.le_of_ble_eq_true hl;have hr:fn.results=fn.results.toList.toArray:=by simp
 generalize fn.results.toList=l at*;match l,vs,h,hle with
 | [],[],_,_=>exact Jr hr
 | [r],[v],⟨h1,_⟩,_=>exact LO hr h1
 | [r,s],[v,u],⟨h1,h2,_⟩,_=>exact LP hr h1 h2
 | [r,s,t],[v,u,x],⟨h1,h2,h3,_⟩,_=>exact LQ hr h1 h2 h3
 |_::_::_::_::_,_,_,h=>simp at h
 | [],_::_,h,_=>exact h.elim
 | [_],[],h,_=>exact h.elim
 | [_],_::_::_,h,_=>exact h.2.elim
 | [_,_],[],h,_=>exact h.elim
 | [_,_],[_],h,_=>exact h.2.elim
 | [_,_],_::_::_::_,h,_=>exact h.2.2.elim
 | [_,_,_],[],h,_=>exact h.elim
 | [_,_,_],[_],h,_=>exact h.2.elim
 | [_,_,_],[_,_],h,_=>exact h.2.2.elim
 | [_,_,_],_::_::_::_::_,h,_=>exact h.2.2.2.elim
omit [ao]in
theorem DT{V:Cx U→List Value→Prop}{xs:List (Va U)}{vs:List Value}{K:AV U→Prop}(h:Ie xs K)(hv:bM V xs vs): ∃r,K r∧nv V r (Lg vs)∧ ∀z,r≠ .pan z:=by
 match xs,vs,hv with
 | [],vs,hv=>rw[show vs= []from hv];exact⟨_,h,⟨[],rfl,rfl⟩,fun _ q=>nomatch q⟩
 | [x],vs,hv=>
  obtain⟨v,us,rfl,h1,h2⟩:=hv;rw[show us= []from h2];exact⟨_,h,h1,fun _ q=>nomatch q⟩
 |x::y::r,vs,hv=>
  obtain⟨v,us,rfl,h1,h2⟩:=hv;obtain⟨u,us',rfl,h3,h4⟩:=h2;exact⟨_,h,⟨v::u::us',rfl,v,_,rfl,h1,u,_,rfl,h3,h4⟩,fun _ q=>nomatch q⟩
omit [ao]in
theorem xj: ∀{k j:Nat} {L:List Nat},vC j k L=true→ ∀i,i<k→L[i]? =some (j+i)
 |0,j,L,h,i,hi=>absurd hi (Nat.not_lt_zero _)
 |k+1,j,[],h,i,hi=>by cases h
 |k+1,j,a::r,h,i,hi=>by
  have h:(bif Nat.beq a j then vC (j+1) k r else false)=true:=h;cases hb:Nat.beq a j with
  |false=>rw[hb]at h;cases h
  |true=>
   rw[hb]at h;cases i with
   |zero=>rw[Nat.eq_of_beq_eq_true hb];rfl
   |succ i=>
    have:=xj h i (by omega);rw[List.getElem?_cons_succ,this];congr 1;omega
theorem bd.subY{Y Y':List Nat}(hY: ∀y∈Y',y∈Y){x:Cx U}{vs:List Value}(h:bd U Y (· =w) ρ n H x vs):bd U Y' (· =w) ρ n H x vs:=by
 have mv:Mv Y (· =w) Y' (· =w):=fun w2 h2=>⟨w2,[],h2,Fr.refl _ _,fun _ h=>(by cases h),fun y hy=> .inl (hY y hy)⟩;cases x with
 |d s t=>exact aC.mv mv h
 |pd s t=>obtain⟨g,b,us,e,hd,hr⟩:=h;exact⟨g,b,us,e,aC.mv mv hd,hr.mv mv⟩
 |f1 a g=>obtain⟨u,e,hf⟩:=h;exact⟨u,e,hf.mv mv⟩
 |f2 a b g=>obtain⟨u,e,hf⟩:=h;exact⟨u,e,hf.mv mv⟩
 |_=>exact h
theorem aX.subX{X':List Nat}(M:aX U X (· =w) ρ n H)(hX: ∀x∈X',x∈X)(hx: ∀z∈ao.xf,z∈X'):aX U X' (· =w) ρ n H:=by
 have hY: ∀y∈aj ρ H++X',y∈aj ρ H++X:=fun y hy=>by
  rcases List.mem_append.1 hy with h|h
  ·exact List.mem_append_left _ h
  ·exact List.mem_append_right _ (hX y h)
 have mv:Mv (aj ρ H++X) (· =w) (aj ρ H++X') (· =w):=fun w2 h2=>⟨w2,[],h2,Fr.refl _ _,fun _ h=>(by cases h),fun y hy=> .inl (hY y hy)⟩;refine⟨M.nd,M.lt,fun p hp=>?_,M.inj,fun g hg hx=>M.dj g hg (hX g hx),fun w2 h2 x hx=>M.lo w2 h2 x (hX x hx),hx,M.gv⟩;have h:=M.ent p hp;obtain⟨i,x⟩:=p;cases x with
 |cells l t=>obtain⟨g,vs,hA,hs,hw⟩:=h;exact⟨g,vs,hA,hs.imp fun _ _ h=>bd.subY hY h,hw⟩
 |row v s xs t=>obtain⟨hm,cs,sp,hd,ho,hw⟩:=h;exact⟨hm,cs,sp,aR.mv mv hd,ho,hw⟩
 |map d l=>obtain⟨hk,g,es,clock,m,hA,hm,hd,hw⟩:=h;exact⟨hk,g,es,clock,m,hA,hm,aK.mv mv hd,hw⟩
 |mapr d l r q0 q=>obtain⟨hk,g,es,clock,m,lv,cv,hA,hm,hd,hl,hc,hw⟩:=h;exact⟨hk,g,es,clock,m,lv,cv,hA,hm,aK.mv mv hd,aK.mv mv hl,aK.mv mv hc,hw⟩
 |it k q=>obtain⟨r,g,hA,hA2,hk,hrk,hw⟩:=h;exact⟨r,g,hA,hA2,hk,hrk,hw⟩
 |frz v s xs=>obtain⟨hm,cs,hd,hr,h1,h2⟩:=h;exact⟨hm,cs,aR.mv mv hd,hr.mv mv,h1,h2⟩
 |ext v d xs op=>obtain⟨C,hd,hw,ho⟩:=h;exact⟨C,d.mv mv.fr hd,hw,ho.imp fun _ _ h=>bd.subY hY h⟩
 |clo f l=>trivial
 |hid v l m=>trivial
 |dead=>trivial
theorem jE(hT:bf U P T){md:List Md}{em:List (Nat×List (Nat×Option aZ))}{K:AV U→List (aH U)→Prop}{ou:Ku}(h:rY T fn md em b K ou e n H)(M:aX U X (· =w) ρ n H)(he:aJ (Vw U X w ρ n H) [] e ce)(st:bQ ρ0 b H0 w0 ρ n H w):
  ∃v,wk P nt fn ce w v∧ ∃r es' ρ',(∀z,r≠ .pan z)∧K r es'∧nv (Vw U X w ρ' es'.length (au 0 es')) r v∧aX U X (· =w) ρ' es'.length (au 0 es')∧bQ ρ0 b H0 w0 ρ' es'.length (au 0 es') w:=by
 have h:bif Nat.ble fn.results.toList.length 3 then zD T fn.results.toList e H fun l=>Kr md l H fun H=>Oh em H fun H=>Gb md l H fun H l=>zp (vq H 30 0 (x7 H l (List.range b))) fun L=>bif nB L&&vC 0 b L then tO false H L l fun l=>qV false H L L fun es=>Ie l fun r=>K r es else False else False:=by
  cases ou<;>first|exact h|exact h.elim
 cases hb3:Nat.ble fn.results.toList.length 3 with
 |false=>rw[hb3]at h;exact h.elim
 |true=>
  rw[hb3]at h;simp only[cond_true]at h;obtain⟨xs,h,vs,hrv,hvs⟩:=sy hT M he h;obtain⟨Ha,h,Ma,sa⟩:=ki h M;obtain⟨Hb,h,Mb,sb⟩:=z7 h Ma;obtain⟨H1,xs1,h,M1,s2,c1⟩:=nL h Mb;have s1:=(sa.trans sb).trans s2;have hvs:bM (Vw U X w ρ n Hb) xs vs:=bM.imp (fun _ _ h=>h.step (sa.trans sb)) hvs;have h:=se h;generalize hLe:vq H1 30 0 (x7 H1 xs1 (List.range b))=L at h;clear hLe;cases hb:(nB L&&vC 0 b L)with
  |false=>rw[hb]at h;exact h.elim
  |true=>
   rw[hb]at h;simp only[cond_true]at h;rw[Bool.and_eq_true]at hb;have hL:=mL hb.1;have hpre: ∀i,i<b→L[i]? =some i:=fun i hi=>by have:=xj hb.2 i hi;rwa [Nat.zero_add]at this
   obtain⟨ys,h,hys⟩:=pq M1.i h;obtain⟨es,h,hl,hes⟩:=pu M1.i h;have rel:=jW.of hl hes;have hY:=vH (X:=X) hl hes;have Mc:=wX M1.i (fun z hz=>hz) rfl (fun z hz=>List.mem_filter.2 ⟨List.mem_append_right _ (M1.xs z hz),by simpa using fun h=>M1.dj z (fm hl hes z h) (M1.xs z hz)⟩) hL hl hes;have XinXo: ∀g∈X,g∈Xo ρ H1 X (gA ρ L) (au 0 es):=fun g hg=>List.mem_filter.2 ⟨List.mem_append_right _ hg,by simpa using fun h=>M1.dj g (fm hl hes g h) hg⟩;have hv:=hys es (aj (gA ρ L) (au 0 es)++X) (fun y hy=>by
    rcases List.mem_append.1 hy with h|h
    ·exact List.mem_append_left _ (fm hl hes y h)
    ·exact List.mem_append_right _ h) rel _ (c1 _ hvs)
   obtain⟨r,hK,hr,hnp⟩:=DT h hv;have lG:=st.trans s1;refine⟨_,IF hb3 hrv,r,es,gA ρ L,hnp,hK,hr,Mc.subX XinXo M.xs,?_⟩;refine⟨lG.xd,?_,lG.fr,fun g hg=>lG.nb g (fm hl hes g hg),fun i hi v' l' m' hrow=>?_,fun i hi hrow=>?_⟩
   ·rcases Nat.eq_zero_or_pos b with h0|h0
    ·omega
    ·have:=bL (hpre (b - 1) (by omega));omega
   ·rw[eJ]at hrow;obtain⟨x,y,a1,a2,a3⟩:=hes i i (hpre i hi);rw[a2]at hrow;obtain⟨v,b1,b2⟩:=a3.row.1 _ _ _ hrow;obtain⟨v0,l0,m0,d1,d2,d3⟩:=lG.row i hi v l' m' (by rw[a1];exact b1);have hvv:v'=v:=b2;subst hvv;refine⟨v0,l0,m0,d1,d2,fun h=>?_⟩;obtain⟨f1,f2⟩:=d3 h;exact⟨by rw[bW (hpre i hi)];exact f1,f2⟩
   ·rw[bW (hpre i hi)];exact lG.cel i hi hrow
def l8:Nat→List (Va U)→En U
 |_,[]=> []
 |i,x::r=>(i,.v x)::l8 (i+1) r
omit [ao]in
theorem fp{V:Cx U→List Value→Prop}: ∀{xs:List (Va U)} {vs:List Value} {i:Nat},bM V xs vs→ ∀k av,aD (l8 i xs) k=some av→ ∃x u,av= .v x∧(bS i vs).get k=some u∧cM V x u
 | [],vs,i,h,k,av,hk=>by cases hk
 |x::r,vs,i,h,k,av,hk=>by
  obtain⟨v,us,rfl,h1,h2⟩:=h;by_cases e1:i=k
  ·subst e1;have hk:aD ((i,AV.v x)::l8 (i+1) r) i=some av:=hk;rw[nH]at hk;injection hk with hk;exact⟨x,v,hk.symm,nM,h1⟩
  ·have hk:aD ((i,AV.v x)::l8 (i+1) r) k=some av:=hk;rw[dP e1]at hk;obtain⟨y,u,a,b,c⟩:=fp h2 k av hk;refine⟨y,u,a,?_,c⟩;show aI.get ((i,v)::bS (i+1) us) k=some u
   rw[jD e1];exact b
omit [ao]in
theorem bM.length{V:Cx U→List Value→Prop}: ∀{xs:List (Va U)} {vs:List Value},bM V xs vs→vs.length=xs.length
 | [],vs,h=>by rw[show vs= []from h];rfl
 |x::r,vs,h=>by obtain⟨v,us,rfl,_,h2⟩:=h;simp[bM.length h2]
theorem Kw(c:Code): @qL pes0 c=true:=by
 induction c with
 |region _ ops _=>
  show(ops.toList.all fun o=> @vg pes0 o.dst)=true
  rw[List.all_eq_true];intro o _;unfold vg;cases o.dst<;>rfl
 |seq a b iha ihb=>show(@qL pes0 a&& @qL pes0 b)=true;rw[iha,ihb];rfl
 |cond _ a b iha ihb=>show(@qL pes0 a&& @qL pes0 b)=true;rw[iha,ihb];rfl
 |block _ a ih=>exact ih
 |loop a ih=>exact ih
 |_=>rfl
theorem DU(hT:bf U P T){K:AV U→List (aH U)→Prop}{z:Int}(h:Dh b K z n H)(M:aX U X (· =w) ρ n H)(st:bQ ρ0 b H0 w0 ρ n H w):
  ∃es' ρ',K (.pan z) es'∧aX U X (· =w) ρ' es'.length (au 0 es')∧bQ ρ0 b H0 w0 ρ' es'.length (au 0 es') w:=by
 have h:rY T {(default:Func)with results:= #[]} [] [] b (fun _ es=>K (.pan z) es) .r ([]:En U) n H:=h;obtain⟨v,_,r,es',ρ',_,h1,_,h2,h3⟩:=jE (P:=P) (nt:=0) (ce:= []) hT h M ⟨fun k x _ hk=>(by cases hk),fun k l _ hk=>(by cases hk),fun k p x hk=>(by cases hk)⟩ st;exact⟨es',ρ',h1,h2,h3⟩
omit [bB] [ao]in
theorem d8{f:FuncId}{c:aW U}{code:Code}(hG:bi P U G)(hT:bf U P T)(hmo:P.follows .mixedOrders=true)(nt:Nat)(md:List Md)(em:List (Nat×List (Nat×Option aZ)))(hen:aF P f=true)(hf:P.funcs[f]? =some fn)(hb:fn.body=some code)(hn:fn.ntmps=nt)(hcd:qB nt code=true)
  (h: ∀xs es K,c.run xs es K→Nat.ble xs.length nt=true∧If T G fn md em (l8 0 xs) es.length (au 0 es) K):bh P U f c:=fun [F:ao] hpr X w ρ es xs vs K M hv hrun=>by
 obtain⟨hlen,hfun⟩:=h xs es K hrun;unfold If at hfun
 rw[hb]at hfun
 have he:aJ (Vw U X w ρ es.length (au 0 es)) [] (l8 0 xs) (bS 0 vs):=by
  refine⟨fun k x _ hk=>?_,fun k l _ hk=>?_,fun k p x hk=>by cases hk⟩
  ·obtain⟨y,u,h1,h2,h3⟩:=fp hv k _ hk;injection h1 with h1;subst h1;exact⟨u,h2,h3⟩
  ·obtain⟨y,u,h1,_⟩:=fp hv k _ hk;cases h1
 have hw:= @pz dfs0 pes0 F U panNone (fun _=> .nilIface) P nt T G X w ρ es.length (au 0 es) (fun f c h=>(by cases h)) (fun o f h=>(by cases h)) (fun z e n H ρ ce w h=>h.elim) ⟨hpr,hG⟩ hT hmo code _ _ _ _ ρ _ w hfun hcd (Kw code) M he M.stp0;refine iE nt hen hf hb hn (by rw[hv.length];exact hlen) (g8 hw ?_);intro ex ce' w' hq;by_cases hpx: ∃c,ex= .panic c
 ·obtain⟨c,rfl⟩:=hpx;obtain⟨_,_,_,_,_,_,_,_,hk,_⟩:=hq;exact hk.elim
 obtain⟨o,e',n',H',ρ',hK,ho,M',he',st'⟩:=km hpx hq;obtain⟨v,hres,r,es',ρ2,_,h1,h2,h3,h4⟩:=jE (nt:=nt) hT hK M' he' st';cases ex with
 |normal=>exact fE hres ⟨r,es',ρ2,h1,h2,h3,h4⟩
 |ret=>exact fR hres ⟨r,es',ρ2,h1,h2,h3,h4⟩
 |exit j=>cases o<;>first|exact ho.elim|exact hK.elim
 |_=>cases o<;>exact ho.elim
omit [bB] [ao]in
theorem sA{f:FuncId}{c:aW U}{code:Code}{GP:c6 U}{bx:Int→Value}(hGP:nI P U bx GP)(hG:bi P U G)(hT:bf U P T)(hmo:P.follows .mixedOrders=true)(nt:Nat)(md:List Md)(em:List (Nat×List (Nat×Option aZ)))(hen:aF P f=true)(hf:P.funcs[f]? =some fn)(hb:fn.body=some code)(hn:fn.ntmps=nt)(hcd:qB nt code=true)
  (h: ∀xs es K,c.run xs es K→Nat.ble xs.length nt=true∧K7 GP T G fn md em (l8 0 xs) es.length (au 0 es) K):mN P U bx f c:=fun [F:ao] hpr X w ρ es xs vs K M hv hrun=>by
 obtain⟨hlen,hfun⟩:=h xs es K hrun;unfold K7 at hfun
 rw[hb]at hfun
 have he:aJ (Vw U X w ρ es.length (au 0 es)) [] (l8 0 xs) (bS 0 vs):=by
  refine⟨fun k x _ hk=>?_,fun k l _ hk=>?_,fun k p x hk=>by cases hk⟩
  ·obtain⟨y,u,h1,h2,h3⟩:=fp hv k _ hk;injection h1 with h1;subst h1;exact⟨u,h2,h3⟩
  ·obtain⟨y,u,h1,_⟩:=fp hv k _ hk;cases h1
 have hw:= @pz dfs0 pes0 F U ⟨GP,fun z _ n H=>Dh es.length K z n H,fun _=>none⟩ bx P nt T G X w ρ es.length (au 0 es) hGP (fun o f h=>(by cases h)) (fun z e n H ρ ce w h _ _ _=>trivial) ⟨hpr,hG⟩ hT hmo code _ _ _ _ ρ _ w hfun hcd (Kw code) M he M.stp0;refine A3 nt hen hf hb hn (by rw[hv.length];exact hlen) (g8 hw ?_);intro ex ce' w' hq;by_cases hpx: ∃c,ex= .panic c
 ·obtain⟨c,rfl⟩:=hpx;obtain⟨z,e',n',H',ρ',ce2,rfl,_,hk,M',_,st'⟩:=hq;obtain⟨es',ρ2,h1,h2,h3⟩:=DU hT hk M' st';exact⟨_,rfl,z,rfl,es',ρ2,h1,h2,h3⟩
 obtain⟨o,e',n',H',ρ',hK,ho,M',he',st'⟩:= @km dfs0 pes0 F U ⟨GP,fun z _ n H=>Dh es.length K z n H,fun _=>none⟩ bx X _ w ρ es.length (au 0 es) ce' _ ex hpx hq;obtain⟨v,hres,r,es',ρ2,h0,h1,h2,h3,h4⟩:=jE (nt:=nt) hT hK M' he' st';cases ex with
 |normal=>exact⟨v,hres,r,es',ρ2,h0,h1,h2,h3,h4⟩
 |ret=>exact⟨v,hres,r,es',ρ2,h0,h1,h2,h3,h4⟩
 |exit j=>cases o<;>first|exact ho.elim|exact hK.elim
 |_=>cases o<;>exact ho.elim
end
end Go.Proofs.YtmpeiadlohbikaaGreatDoor.V
end

section
set_option linter.unusedVariables false
set_option linter.unusedSimpArgs false
namespace Go.Proofs.YtmpeiadlohbikaaGreatDoor.V
open Go.RowKit
section
variable [ao] {U:bD} {P:Program} {t:Nat} {ti:TI U}
inductive Zc where
 |i (k:IntKind)|b|s|l|p|f|m
def KH:Zc→cd U
 | .i k=>(1,.d (.int k) (0:Int))
 | .b=>(1,.d .bool false)
 | .s=>(1,.d .str ([]:List UInt8))
 | .l=>(1,.nils)
 | .p=>(1,.nilp)
 | .f=>(1,.nilf)
 | .m=>(1,.nilm)
def CO:Zc→Value
 | .i k=> .int k 0
 | .b=> .bool false
 | .s=>sv []
 | .l=> .slice none 0 0
 | .p=> .pointer none
 | .f=> .nilFunc
 | .m=> .map none
theorem KI{Y:List Nat}{S:World→Prop}{ρ:Nat→Rz}{n:Nat}{H:Hs U}: ∀l:List Zc,bJ (bd U Y S ρ n H) (l.map KH) (l.map CO)
 | []=>rfl
 |z::r=>by
  refine⟨[CO z],r.map CO,rfl,by cases z<;>rfl,?_,KI r⟩;cases z with
  |i k=>exact aC.int k 0 (by cases k<;>(unfold dS;omega))
  |b=>exact aC.bool false
  |s=>exact aC.str [] (by decide)
  |_=>rfl
def KJ(P:Program)(t f:Nat):Option Nat:=match P.underlying t with|some (.struct fs)=>(fs[f]?).map (·.type)|_=>none
def KK(P:Program)(t:Nat):Nat→List (Nat×Nat)→Bool
 |_,[]=>true
 |f,(off,ft)::r=>decide (eP P t f=some off)&&decide (KJ P t f=some ft)&&KK P t (f+1) r
omit [ao]in
theorem zf: ∀{l:List (Nat×Nat)} {b f off ft:Nat},KK P t b l=true→dT l f=some (off,ft)→eP P t (b+f)=some off∧KJ P t (b+f)=some ft
 | [],b,f,off,ft,h,hn=>by rw[da]at hn;simp at hn
 |(o,g)::r,b,0,off,ft,h,hn=>by
  simp only[KK,Bool.and_eq_true,decide_eq_true_eq]at h;rw[da]at hn;simp only[List.getElem?_cons_zero,Option.some.injEq,Prod.mk.injEq]at hn;rw[←hn.1,←hn.2];exact h.1
 |(o,g)::r,b,f+1,off,ft,h,hn=>by
  simp only[KK,Bool.and_eq_true,decide_eq_true_eq]at h;rw[da,List.getElem?_cons_succ,←da]at hn;have:=zf h.2 hn;rw[show b+(f+1)=b+1+f by omega];exact this
def KL(P:Program)(pls:List (Nat×Nat)):Nat→List (Nat×Nat)→Bool
 |_,[]=>true
 |f,(off,ft)::r=>(match pls[f]? with
  |some (o,k)=>decide (o=off)&&decide ((P.info? ft).map (·.size)=some k)
  |none=>false)&&KL P pls (f+1) r
omit [ao]in
theorem zg{pls:List (Nat×Nat)}: ∀{l:List (Nat×Nat)} {b f off ft:Nat},KL P pls b l=true→dT l f=some (off,ft)→ ∃k,pls[b+f]? =some (off,k)∧(P.info? ft).map (·.size)=some k
 | [],b,f,off,ft,h,hn=>by rw[da]at hn;simp at hn
 |(o,g)::r,b,0,off,ft,h,hn=>by
  simp only[KL,Bool.and_eq_true]at h;rw[da]at hn;simp only[List.getElem?_cons_zero,Option.some.injEq,Prod.mk.injEq]at hn;obtain⟨h,_⟩:=h;split at h
  ·rename_i o' k hk;simp only[Bool.and_eq_true,decide_eq_true_eq]at h;refine⟨k,?_,?_⟩
   ·rw[Nat.add_zero,hk,h.1,hn.1]
   ·rw[←hn.2];exact h.2
  ·cases h
 |(o,g)::r,b,f+1,off,ft,h,hn=>by
  simp only[KL,Bool.and_eq_true]at h;rw[da,List.getElem?_cons_succ,←da]at hn;have:=zg h.2 hn;rw[show b+(f+1)=b+1+f by omega];exact this
def RW(P:Program)(t:Nat)(k:Kd)(fs:List (Nat×Nat)):Bool:=match k with
 | .st=>(match m9 P t with
  |some pls=>KL P pls 0 fs
  |none=>false)
 |_=>true
omit [ao]in
theorem aL(l:List Zc)(hz:ti.zero=l.map KH)(hzz:zeroCells P t=some (l.map CO))(hl:l.length=ti.sz)(hsz:(P.info? t).map (·.size)=some ti.sz)(hby:(P.info? t).map (·.bytes)=some ti.by_)(hkd:yd P t ti.kd)(h1:(ve ti.kd||dG P t)=true)
  (hfs:KK P t 0 ti.fs=true) (hpl:RW P t ti.kd ti.fs=true) (heq: ∀s,ti.sh=some s→ti.cmp=true→ve ti.kd=true∧jy U P t s) (hmp: ∀d,ti.mp=some d→Di P U d∧P.underlying t=some (.map d.kt d.vt)):aT U P t ti:=
 ⟨hsz,hkd,fun h=>by rw[h]at h1;exact h1,hby,fun f off ft hn=>by have:=zf hfs hn;rw[Nat.zero_add]at this;exact this,fun hk=>(by
  rw[hk]at hpl;unfold RW at hpl;simp only at hpl;split at hpl
  ·rename_i pls hp;exact⟨pls,hp,fun f off ft hn=>by have:=zg hpl hn;rwa [Nat.zero_add]at this⟩
  ·exact absurd hpl (by decide)),heq,hmp,⟨_,hzz,by rw[List.length_map];exact hl,fun F Y S ρ n H=>by rw[hz];exact KI l⟩⟩
def RX(P:Program)(t:Nat)(ag:Bool):Bool:=match iY P t with
 |some (.agg _)=>ag
 |some _=>!ag
 |none=>false
omit [ao]in
theorem oL{t:Nat}{s:aZ}{z:TT U.ty s}(h:aT U P t ti)(hz:cG 20 s ti.zero fun x=>x=z)(hb:RX P t (eK s)=true): ∃v,iY P t=some v∧ ∀Y S,∃vs,d4 (eK s) v vs∧aC U Y S s z vs:=by
 obtain⟨zs,h1,_,h3⟩:=h.zero;have F:ao:=⟨[],P⟩;obtain⟨x,rfl,hx⟩:=bu hz;have hd: ∀Y S,aC U Y S s x zs:=fun Y S=>hx _ _ _ _ _ _ (h3 F Y S (fun _=>(rz none 0)) 0 []);unfold RX at hb;unfold zeroCells at h1;unfold iY at hb⊢;cases hi:P.info? t with
 |none=>rw[hi]at h1;cases h1
 |some inf=>
  rw[hi]at h1 hb;simp only[Option.bind_some]at h1 hb⊢;cases hv:inf.zero with
  |none=>rw[hv]at h1;cases h1
  |some v=>
   rw[hv]at h1 hb;simp only[Option.map_some,Option.some.injEq]at h1;refine⟨v,rfl,fun Y S=>⟨zs,?_,hd Y S⟩⟩;unfold d4;cases v with
   |agg cs=>
    have hb:eK s=true:=hb;rw[hb];rw[←h1];simp[Value.cells]
   |_=>
    have hb:(!eK s)=true:=hb;have hb:eK s=false:=by simpa using hb
    rw[hb];rw[←h1];rfl
omit [ao]in
theorem zh{α:Type} [DecidableEq α]{kt:TypeId}{enc:α→List Value}(hu: ∃fs,P.underlying kt=some (.struct fs))(hv:(ba P kt).isSome=true)(heq: ∀x y,∃r,aY P 8 kt (enc x) (enc y)=some r∧(r=true↔x=y))
  (hchk: ∀em x w,(Instr.checkKey em 10000 kt (.agg (enc x).toArray)).run P w= .ok () w) (hfl: ∀x,(enc x).all uQ=true):fM P kt (fun x=> .agg (enc x).toArray):=by
 obtain⟨fs,hu⟩:=hu;refine fM.agg hu (fun _ _=>rfl) (by intro h;rw[h]at hv;cases hv) (fun x y=>?_) hchk fun x v hv=>List.all_eq_true.1 (hfl x) v hv;obtain⟨r,h1,h2⟩:=heq x y;rw[h1];congr 1;rw[Bool.eq_iff_iff,h2];simp
omit [ao]in
theorem ie{Y:List Nat}{S:World→Prop}{k:IntKind}: ∀{xs:List Int} {vs:List Value},aR U Y S (.int k) xs vs→vs=xs.map (Value.int k)
 | [],vs,h=>by cases h;rfl
 |x::xs,vs,h=>by
  cases h with
  |cons _ _ _ v1 v2 hd _ hl=>rw[(aC.inv hd).1,ie hl];rfl
omit [ao]in
theorem CQ:bf U P []:=fun t ti h=>by cases h
omit [ao]in
theorem am{T:cW U}{t:Nat}{ti:TI U}(h:aT U P t ti)(hT:bf U P T):bf U P ((t,ti)::T):=fun t' ti' h'=>by
 by_cases e:t=t'
 ·subst e;rw[nH]at h';injection h' with h';subst h';exact h
 ·rw[dP e]at h';exact hT t' ti' h'
omit [ao]in
theorem ah:bi P U []:=fun f k h=>by cases h
omit [ao]in
theorem aa{G:c6 U}{f:Nat}{c:aW U}(h:bh P U f c)(hG:bi P U G):bi P U ((f,c)::G):=fun f' c' h'=>by
 by_cases e:f=f'
 ·subst e;rw[nH]at h';injection h' with h';subst h';exact h
 ·rw[dP e]at h';exact hG f' c' h'
omit [ao]in
theorem j8{bx:Int→Value}:nI P U bx []:=fun f k h=>by cases h
omit [ao]in
theorem ed{bx:Int→Value}{G:c6 U}{f:Nat}{c:aW U}(h:mN P U bx f c)(hG:nI P U bx G):nI P U bx ((f,c)::G):=fun f' c' h'=>by
 by_cases e:f=f'
 ·subst e;rw[nH]at h';injection h' with h';subst h';exact h
 ·rw[dP e]at h';exact hG f' c' h'
end
end Go.Proofs.YtmpeiadlohbikaaGreatDoor.V
end

section
set_option linter.unusedVariables false
namespace Go.Proofs.YtmpeiadlohbikaaGreatDoor.V
open Go.RowKit
theorem iD{p:Prop}{d:Decidable p}: @decide p d=true↔p:=decide_eq_true_iff
theorem iB{b:Bool}:b=true↔b=true:=Iff.rfl
theorem iA{a b:Bool}{P Q:Prop}(h1:a=true↔P)(h2:b=true↔Q):(a&&b)=true↔P∧Q:=by rw[Bool.and_eq_true,h1,h2]
theorem iO{a b:Bool}{P Q:Prop}(h1:a=true↔P)(h2:b=true↔Q):(a||b)=true↔P∨Q:=by rw[Bool.or_eq_true,h1,h2]
theorem iN{a:Bool}{P:Prop}(h1:a=true↔P):(!a)=true↔ ¬P:=by rw[←h1];simp
theorem iP{c a b:Bool}{C P Q:Prop} [Decidable C](h0:c=true↔C)(h1:a=true↔P)(h2:b=true↔Q):(bif c then a else b)=true↔(if C then P else Q):=by
 cases c with
 |true=>rw[if_pos (h0.1 rfl)];exact h1
 |false=>rw[if_neg (fun h=>by have:=h0.2 h;cases this)];exact h2
def V2(A B:Prop):Prop:=A∧B
theorem vI{α:Type}{f x y:α}{b:Bool}{P:Prop} [Decidable P]{A B:Prop}(hf:f=if P then x else y)(hb:b=true↔P)(h1:P→f=x→A)(h2: ¬P→f=y→B):y2 b A B:=
 ⟨fun h=>h1 (hb.1 h) (hf.trans (if_pos (hb.1 h))),fun h=>have hn: ¬P:=fun hp=>by(rw[hb.2 hp]at h;cases h)
  h2 hn (hf.trans (if_neg hn))⟩
theorem vN{α:Type}{f x y:α}{b:Bool}{P:Prop} [Decidable P]{A B:Prop}(hf:f=if P then x else y)(hb:b=true↔ ¬P)(h1: ¬P→f=y→A)(h2:P→f=x→B):y2 b A B:=
 ⟨fun h=>h1 (hb.1 h) (hf.trans (if_neg (hb.1 h))),fun h=>have hn:P:=Classical.byContradiction fun hp=>by(rw[hb.2 hp]at h;cases h)
  h2 hn (hf.trans (if_pos hn))⟩
theorem vT{b:Bool}{P A B:Prop}(hb:b=true↔P)(h:P)(k:A):y2 b A B:=⟨fun _=>k,fun h'=>by rw[hb.2 h]at h';cases h'⟩
theorem vF{b:Bool}{P A B:Prop}(hb:b=true↔P)(h: ¬P)(k:B):y2 b A B:=⟨fun h'=>absurd (hb.1 h') h,fun _=>k⟩
theorem vR{b:Bool}{P A B:Prop}(hb:b=true↔P)(h1:P→A)(h2: ¬P→B):y2 b A B:=⟨fun h=>h1 (hb.1 h),fun h=>h2 (fun hp=>by rw[hb.2 hp]at h;cases h)⟩
theorem a8{p q r:Int}(h:0≤p→p≤255→0≤q→q≤255→0≤r∧r≤255):dS .u8 p→dS .u8 q→dS .u8 r:=fun h1 h2=>h h1.1 h1.2 h2.1 h2.2
theorem SP{p q r:Int}(h:0≤p→p≤4294967295→0≤q→q≤4294967295→0≤r∧r≤4294967295):dS .u32 p→dS .u32 q→dS .u32 r:=fun h1 h2=>h h1.1 h1.2 h2.1 h2.2
theorem jc{p q r:Int}(h: -9223372036854775808≤p→p≤9223372036854775807→ -9223372036854775808≤q→q≤9223372036854775807→ -9223372036854775808≤r∧r≤9223372036854775807):dS .i64 p→dS .i64 q→dS .i64 r:=fun h1 h2=>h h1.1 h1.2 h2.1 h2.2
def aN{σ β:Type}(μ:σ→Nat)(inv:σ→Prop)(L:Nat→σ→β)(X:β)(s:σ):Prop:= ∃c,μ s<c+1∧inv s∧X=L (c+1) s
theorem aN.mk0{σ β:Type}{μ:σ→Nat}{inv:σ→Prop}{L:Nat→σ→β}{X:β}{s:σ}(c:Nat)(h:μ s<c+1)(hi:inv s)(hX:X=L (c+1) s):aN μ inv L X s:=⟨c,h,hi,hX⟩
theorem aN.next{σ β:Type}{μ:σ→Nat}{inv:σ→Prop}{L:Nat→σ→β}{X:β}{s s':σ}{c:Nat}(h:μ s<c+1)(h':μ s'<μ s)(hi:inv s')(hX:X=L c s'):aN μ inv L X s':=by
 cases c with
 |zero=>omega
 |succ c=>exact⟨c,by omega,hi,hX⟩
end Go.Proofs.YtmpeiadlohbikaaGreatDoor.V
end

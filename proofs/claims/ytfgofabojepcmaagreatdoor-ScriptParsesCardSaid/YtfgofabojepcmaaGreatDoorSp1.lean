/- What a walk knows of memory: own blocks (H), and facts that last as long as nobody but the owners of H and X writes (K). -/
import Derived.Test.YtfgofabojepcmaaGreatDoorSp0
import Derived.IntWalk
import Derived.Laws.StructEq
import Derived.ArgAppend
section
namespace Go.Proofs.YtfgofabojepcmaaGreatDoor
open Go.RowKit
theorem ez{P:Program}{o:Oper}{v:Value}{b:Builtin}{x y:Operand}{t t':Nat}{u u':Value}{a:Act}{w w':World}(ho:o.op= .call {callee:= .builtin b,args:= #[x,y],argTypes:= #[t,t']})(hx:a.eval x=u)(hy:a.eval y=u')
  (h: ∀cs,(builtin b #[t,t'] o.type cs #[u,u']).run P w= .ok (.value v) w'):(execOp a.eval o).run P w= .ok (.value v) w':=by
 unfold execOp;simp only[ho,resolve,List.map_toArray,List.map_cons,List.map_nil,hx,hy,Sem.run_bind,Sem.run_pure,Result.andThen_ok,invoke,h]
section
variable [bF] {P:Program} {n:Nat} {env:aK} {w:World} {o:Oper} {K:aK→World→Prop} {H:bX}
omit [bF]in
theorem kD (z : List Value) (c m : Nat) (hz : z.length = m) : madeCells z.toArray (c * m) = ((List.replicate c z).flatten).toArray := by
  apply Array.ext'
  unfold madeCells
  simp only [Array.toList_map, Array.toList_range, List.size_toArray]
  apply List.ext_getElem?
  intro j
  have hL : (List.replicate c z).flatten.length = c * m := by simp [hz]
  rcases Nat.lt_or_ge j (c * m) with hj | hj
  · have hm : 0 < m := by rcases Nat.eq_zero_or_pos m with h | h; · subst h; omega
                          · exact h
    rw [List.getElem?_map, List.getElem?_range hj]
    have key : ∀ (c j : Nat), j < c * m → (List.replicate c z).flatten[j]? = z[j % m]? := by
      intro c
      induction c with
      | zero => intro j hj; omega
      | succ c ih =>
        intro j hj
        rw [List.replicate_succ, List.flatten_cons]
        rcases Nat.lt_or_ge j m with h | h
        · rw [List.getElem?_append_left (by omega), Nat.mod_eq_of_lt h]
        · rw [List.getElem?_append_right (by omega), hz, ih (j - m) (by rw [Nat.succ_mul] at hj; omega)]
          congr 1
          rw [Nat.mod_eq_sub_mod h]
    rw [key c j hj, hz]
    have hlt : j % m < z.length := by rw [hz]; exact Nat.mod_lt _ hm
    simp [hlt]
  · rw [List.getElem?_eq_none (by simp; omega), List.getElem?_eq_none (by omega)]
theorem Eo{t e m l c by':Nat}{x y:Operand}{kl kc:IntKind}{z:List Value}(ho:o.op= .makeSlice t x y){d:Nat}(hd:o.dst=some d)(hn:Nat.blt d n=true)(hx:env.ev x=some (.int kl (l:Int)))(hy:env.ev y=some (.int kc (c:Int)))
  (ht:bn P t=some (e,m)) (hz:zeroCells P e=some z) (hzl:z.length=m) (hby:(P.info? e).map (·.bytes)=some by') (hlc:l≤c) (hbytes:by'*c≤281474976710656) (h63:c≤9223372036854775807) (h:Hp w H)
  (hK: ∀g w',Hp w' (H++ [(some g,Cl (List.replicate c z).flatten e)])→Fr [] w w'→w.heap.size≤g→K ((d,(.slice (some ⟨g,0,none⟩) l c))::env) w'):cd P n env w o K:=by
 obtain⟨hu,hs⟩:=cP ht;unfold zeroCells at hz;cases hq:P.info? e with
 |none=>simp[hq]at hz
 |some inf=>
  cases hzz:inf.zero with
  |none=>simp[hq,hzz]at hz
  |some zv=>
   have hz':zv.cells=z.toArray:=by simp[hq,hzz]at hz;rw[←hz]
   have hm:inf.size=m:=by simpa[hq]using hs
   have hb:inf.bytes=by':=by simpa[hq]using hby
   have hbi:(inf.bytes:Int)*(c:Int)≤281474976710656:=by
    rw[hb,←Int.natCast_mul];omega
   have hr:=run_make (P:=P) w t e inf zv hu hq hzz kl kc l c (by omega) (by omega) hbi (by omega);simp only[Int.toNat_natCast,hm,hz',kD z c m hzl]at hr;refine fX hd hn (v:= .slice (some ⟨w.heap.size,0,none⟩) l c) (w':=w.alloc (.cells (List.replicate c z).flatten.toArray e)) (fun a r=>?_) (hK _ _ (h.alloc _) (Fr.alloc w _) (Nat.le_refl _));unfold execOp;simp only[ho,r.eval hx,r.eval hy,Sem.run_bind,hr,Result.andThen_ok];rfl
end
theorem mX (f g : Nat → Option (Nat × Nat)) : ∀ (parts : List (Nat × Value)) (cs : Array Value), (∀ p ∈ parts, f p.1 = g p.1) → Instr.fill f cs parts = Instr.fill g cs parts
  | [], _, _ => rfl
  | (i, v) :: r, cs, h => by
    unfold Instr.fill
    have h0 : f i = g i := h (i, v) (by simp)
    rw [h0]
    cases g i with
    | none => rfl
    | some p => simp only; split
                · rfl
                · exact mX f g r _ fun p hp => h p (by simp [hp])
theorem sV{P:Program}{w:World}{t e len m:Nat}(pp:Array (Nat×Value))(hu:P.underlying t=some (.slice e))(hs:(P.info? e).map (·.size)=some m)(hbig:len*m≤2^24)(z0:Value)(hz:(zeroValue e).run P w= .ok z0 w)(cells:Array Value)
  (hf:Instr.fill (fun i=>some (i*m,m)) ((Array.range (len*m)).map ((if len*m=0 then(#[]:Array Value)else z0.cells)[· %(if len*m=0 then(#[]:Array Value)else z0.cells).size]!)) pp.toList=some cells):
  (Instr.buildSlice t len pp).run P w= .ok (.slice (some ⟨w.heap.size,0,none⟩) len len) (w.alloc (.cells cells e)):=by
 unfold Instr.buildSlice;simp only[Sem.run_bind,run_underlying hu,Result.andThen_ok,dA hs];rw[if_neg (by omega)];by_cases h0:len*m=0
 ·simp only[h0,if_true]at hf⊢;simp only[Sem.run_bind,Sem.run_pure,Result.andThen_ok];rw[hf];simp[newRow]
 ·simp only[h0,if_false]at hf⊢;simp only[Sem.run_bind,hz,Sem.run_pure,Result.andThen_ok];rw[hf];simp[newRow]
section
variable [bF] {P:Program} {n:Nat} {env:aK} {w:World} {o:Oper} {K:aK→World→Prop} {H:bX}
theorem GY{t e len:Nat}{ps:List (Nat×Operand)}{vs z:List Value}(ho:o.op= .buildSlice t len ps.toArray){d:Nat}(hd:o.dst=some d)(hn:Nat.blt d n=true)(hx:env.evs (ps.map (·.2))=some vs)(hp:ps.map (·.1)=List.range len)(ht:bn P t=some (e,1))(hz:zeroCells P e=some z)(hzl:z.length=1)
  (hlen:len≤1000) (h1: ∀v∈vs,v.cells= #[v]) (h:Hp w H)
  (hK: ∀g w',Hp w' (H++ [(some g,Cl vs e)])→Fr [] w w'→w.heap.size≤g→K ((d,(.slice (some ⟨g,0,none⟩) len len))::env) w'):cd P n env w o K:=by
 obtain⟨hu,hs⟩:=cP ht;have hvl:vs.length=len:=by
  have h1: ∀(xs:List Operand) (us:List Value),env.evs xs=some us→us.length=xs.length:=by
   intro xs;induction xs with
   |nil=>intro us hu;simp[aK.evs]at hu;subst hu;rfl
   |cons a b ih=>
    intro us hu;simp only[aK.evs]at hu;split at hu
    ·rename_i v us' _ h2;simp only[Option.some.injEq]at hu;subst hu;simp[ih us' h2]
    ·cases hu
  have h2:=h1 _ _ hx;have h3:(ps.map (·.1)).length=len:=by rw[hp];simp
  simp at h2 h3;omega
 obtain⟨zv,rfl⟩: ∃zv,z= [zv]:=by
  match z,hzl with
  | [zv],_=>exact⟨zv,rfl⟩
 have key: ∀(us:List Value) (j:Nat) (pre:List Value),(∀v∈us,v.cells= #[v])→pre.length=j→
   Instr.fill (fun i=>some (i*1,1)) (pre++List.replicate us.length zv).toArray ((List.range' j us.length).zip us)=some (pre++us).toArray:=by
  intro us;induction us with
  |nil=>intro j pre _ _;simp[Instr.fill]
  |cons v us ih=>
   intro j pre hone hpre;simp only[List.length_cons,List.range'_succ,List.zip_cons_cons];unfold Instr.fill;have hv:=hone v (by simp);simp only[hv];rw[if_neg (by simp;omega)];have e:(#[v].zipIdx.foldl (fun cs x=>match x with|(c,k)=>cs.setIfInBounds (j*1+k) c) (pre++List.replicate (us.length+1) zv).toArray)=((pre++ [v])++List.replicate us.length zv).toArray:=by
    subst hpre;simp[List.replicate_succ,Array.zipIdx]
   rw[e,ih (j+1) (pre++ [v]) (fun u hu=>hone u (by simp[hu])) (by simp[hpre])];simp
 have hk:=key vs 0 [] h1 rfl;rw[hvl]at hk;have hparts: ∀a,gj n env a→(ps.toArray.map fun(i,x)=>(i,a.eval x)).toList=(List.range' 0 len).zip vs:=fun a r=>by
  rw[←List.range_eq_range',←hp,←r.evals hx];simp only[List.map_toArray,List.map_map];clear ho hx hp hk hvl;induction ps with
  |nil=>rfl
  |cons p ps ih=>obtain⟨i,x⟩:=p;simpa using ih
 have hzero: ∀w:World,(zeroValue e).run P w= .ok zv w∧zv.cells= #[zv]∨True:=fun _=> .inr trivial;clear hzero;unfold zeroCells at hz;cases hq:P.info? e with
 |none=>simp[hq]at hz
 |some inf=>
  cases hzz:inf.zero with
  |none=>simp[hq,hzz]at hz
  |some z0=>
   have hz':z0.cells= #[zv]:=by
    have:z0.cells.toList= [zv]:=by simpa[hq,hzz]using hz
    rw[←this]
   have hm:inf.size=1:=by simpa[hq]using hs
   refine fX hd hn (v:= .slice (some ⟨w.heap.size,0,none⟩) len len) (w':=w.alloc (.cells vs.toArray e)) (fun a r=>?_) (hK _ _ (h.alloc _) (Fr.alloc w _) (Nat.le_refl _));have hrep: ∀zz:Array Value,(0<len→zz= #[zv])→((Array.range (len*1)).map (zz[· %zz.size]!))=(List.replicate len zv).toArray:=fun zz hzz'=>by
    apply Array.ext';rw[Array.toList_map,Array.toList_range];apply List.ext_getElem
    ·simp
    ·intro j h1 h2;have:0<len:=by simp at h1;omega
     have e:=hzz' this;subst e;simp[Nat.mod_one]
   have hrun:(Instr.buildSlice t len (ps.toArray.map fun(i,x)=>(i,a.eval x))).run P w= .ok (.slice (some ⟨w.heap.size,0,none⟩) len len) (w.alloc (.cells vs.toArray e)):=by
    have hp2:=hparts a r;generalize (ps.toArray.map fun(i,x)=>(i,a.eval x))=pp at hp2⊢;refine sV pp hu hs (by omega) z0 (by simp[zeroValue,typeInfo,hq,hzz]) vs.toArray ?_;rw[hp2,hrep _ (fun h0=>by rw[if_neg (by omega)];exact hz')];simpa using hk
   unfold execOp;simp only[ho,Sem.run_bind,hrun,Result.andThen_ok];rfl
end
section
variable [bF] {P:Program} {n:Nat} {env:aK} {S:World→Prop} {o:Oper}
end
def Ow(A:Option Addr)(l c m:Nat)(xs sp:List Value):Prop:=
 xs.length=l*m∧((A=none∧l=0∧c=0∧sp= [])∨(∃g,A=some ⟨g,0,none⟩∧(xs++sp).length=c*m∧l≤c∧c≤maxLen))
def ao(A:Option Addr):Option Nat:=A.map (·.block)
theorem Ow.nil(m:Nat):Ow none 0 0 m [] []:=⟨by simp,.inl ⟨rfl,rfl,rfl,rfl⟩⟩
theorem Ow.some_{A:Option Addr}{l c m:Nat}{xs sp:List Value}(h:Ow A l c m xs sp)(hl:0<l): ∃g,A=some ⟨g,0,none⟩:=by
 rcases h.2 with⟨_,h0,_⟩|⟨g,h1,_⟩
 ·omega
 ·exact⟨g,h1⟩
theorem Ow.own{w:World}{H:bX}{A:Option Addr}{l c m i e:Nat}{xs sp:List Value}(h:Hp w H)(hi:H[i]? =some (ao A,Cl (xs++sp) e))(ho:Ow A l c m xs sp):w.ownsRow 0 e m (.slice A l c) l xs:=by
 obtain⟨h1,h2⟩:=ho;refine⟨h1,?_⟩;rcases h2 with⟨rfl,rfl,rfl,_⟩|⟨g,rfl,h3,h4,h5⟩
 ·exact .inl ⟨rfl,rfl⟩
 ·exact .inr ⟨g,c,(xs++sp).toArray,rfl,Nat.zero_le _,h.at hi,h4,h5,by simpa using h3,by simp[←h1]⟩
theorem Ep{w:World}{g b:Nat}{news:List Value}(h:w.rangeAt g b news): ∀ad,some (⟨g,b,none⟩:Addr)=some ad→ ∀j u,news[j]? =some u→w.cell? (ad.add j)=some u:=fun ad e j u hj=>by
 injection e with e;subst e;rw[Addr.add_mid];exact h j u hj
theorem xe{w:World}{news:List Value}: ∀ad:Addr,(none:Option Addr)=some ad→ ∀j u,news[j]? =some u→w.cell? (ad.add j)=some u:=fun _ e=>by cases e
section
variable [bF] {P:Program} {n:Nat} {env:aK} {w:World} {o:Oper} {K:aK→World→Prop} {H:bX}
theorem kE{t ty' e m by' l c i sl sc:Nat}{x y:Operand}{A B:Option Addr}{xs sp news z:List Value}(ho:o.op= .call {callee:= .builtin .append,args:= #[x,y],argTypes:= #[t,ty']})(hty:ty'=t){d:Nat}(hd:o.dst=some d)(hn:Nat.blt d n=true)
  (hx:env.ev x=some (.slice A l c)) (hy:env.ev y=some (.slice B sl sc)) (ht:bn P t=some (e,m)) (hz:zeroCells P e=some z) (hzl:z.length=m) (hby:(P.info? e).map (·.bytes)=some by') (hm:0<m)
  (how:Ow A l c m xs sp) (h:Hp w H) (hi:H[i]? =some (ao A,Cl (xs++sp) e)) (hnl:news.length=sl*m) (hsrc: ∀ad,B=some ad→ ∀j u,news[j]? =some u→w.cell? (ad.add j)=some u) (hB:B=none→sl=0) (h1: ∀v∈news,v.oneCell'=true)
  (h63:l+sl≤maxLen) (hbytes:(l+sl)*by'≤140737488355328)
  (hK: ∀A' c' sp' w',Ow A' (l+sl) c' m (xs++news) sp'→Hp w' (H.set i (ao A',Cl ((xs++news)++sp') e))→Fr (ao A).toList w w'→(∀g,ao A'=some g→ao A=some g∨w.heap.size≤g)→K ((d,(.slice A' (l+sl) c'))::env) w'):cd P n env w o K:=by
 subst hty;obtain⟨hu,hs⟩:=cP ht;have hown:=Ow.own h hi how;unfold zeroCells at hz;cases hq:P.info? e with
 |none=>simp[hq]at hz
 |some inf=>
  cases hzz:inf.zero with
  |none=>simp[hq,hzz]at hz
  |some z0=>
   have hz':z0.cells=z.toArray:=by simp[hq,hzz]at hz;rw[←hz]
   have hms:inf.size=m:=by simpa[hq]using hs
   have hb:inf.bytes=by':=by simpa[hq]using hby
   have main: ∃v' w',(Builtin.append_ #[ty',ty'] o.type #[.slice A l c,.slice B sl sc]).run P w= .ok v' w'∧w'.ownsRow 0 e m v' (l+sl) (xs++news)∧w.grownBy w' (Value.slice A l c).ownBlock∧
     (v'.ownBlock=(Value.slice A l c).ownBlock∨v'.ownBlock=some w.heap.size):=by
    cases B with
    |some ad=>
     obtain⟨v',w',hr,ho1,hgr,_,hat⟩:=run_append_own_at (P:=P) w 0 ty' o.type e inf z0 m by' hu hq hzz hms hb (by rw[hz'];simpa using hzl) hm (.slice A l c) l xs hown ad sl sc news hnl (hsrc ad rfl) h1 h63 hbytes (Nat.zero_le _);exact⟨v',w',hr,ho1,hgr,hat⟩
    |none=>
     have hsl:=hB rfl;subst hsl;have hn:news= []:=List.eq_nil_of_length_eq_zero (by simpa using hnl);subst hn;refine⟨.slice A l c,w,?_,by simpa using hown,World.grownBy.refl w _,.inl rfl⟩;rcases hown.2 with⟨hv,_⟩|⟨g,cap,cur,hv,_,_,hnc,_⟩
     ·rw[hv];simp[Builtin.append_,run_underlying hu,sizeOf,typeInfo,hq,Builtin.lenOf,Builtin.firstCells]
     ·rw[hv];simp[Builtin.append_,run_underlying hu,sizeOf,typeInfo,hq,Builtin.lenOf,Builtin.firstCells,hnc,storeCells]
   obtain⟨v',w',hrun,hown',hgr,hat⟩:=main;have hform: ∃A' c' sp',v'= .slice A' (l+sl) c'∧Ow A' (l+sl) c' m (xs++news) sp'∧(∀g,ao A'=some g→w'.heap[g]? =some (Cl ((xs++news)++sp') e))∧ao A'=v'.ownBlock:=by
    obtain⟨h2,h3⟩:=hown';rcases h3 with⟨rfl,hl0⟩|⟨g,cap,cur,rfl,_,hg,hnc,hcm,hsz,htk⟩
    ·have hxe:xs++news= []:=List.eq_nil_of_length_eq_zero (by rw[h2,hl0];simp);exact⟨none,0,[],by rw[hl0],⟨h2,.inl ⟨rfl,hl0,rfl,rfl⟩⟩,fun g e=>by simp[ao]at e,rfl⟩
    ·refine⟨some ⟨g,0,none⟩,cap,cur.toList.drop ((l+sl)*m),rfl,⟨h2,.inr ⟨g,rfl,?_,hnc,hcm⟩⟩,fun g' e'=>?_,rfl⟩
     ·rw[←htk,List.take_append_drop];simpa using hsz
     ·simp[ao]at e';subst e';rw[←htk,List.take_append_drop];simpa using hg
   obtain⟨A',c',sp',rfl,how',hblk,hob⟩:=hform;have hob0:(Value.slice A l c).ownBlock=ao A:=by cases A<;>rfl
   have hob1:(Value.slice A' (l+sl) c').ownBlock=ao A':=by cases A'<;>rfl
   have hfr:Fr (ao A).toList w w':=⟨hgr.os,hgr.tape,hgr.output,hgr.size,fun k hk hn=>hgr.block k hk (by
    rw[hob0];intro e2;exact hn (by rw[←e2];simp))⟩
   have hnew: ∀g,ao A'=some g→ao A=some g∨w.heap.size≤g:=fun g' hg'=>by
    rw[hob1,hob0]at hat;rcases hat with e1|e1
    ·exact .inl (by rw[←e1];exact hg')
    ·rw[hg']at e1;injection e1 with e1;exact .inr (by omega)
   refine fX hd hn (v:= .slice A' (l+sl) c') (w':=w') (fun a r=>?_) (hK A' c' sp' w' how' (h.setAny hi (fun x hx=>by simpa using hx) hfr fun g' hg'=>⟨hblk g' hg',hnew g' hg'⟩) hfr hnew);refine ez ho (r.eval hx) (r.eval hy) fun cs=>?_;simp only[builtin,Sem.run_bind,hrun,Result.andThen_ok];rfl
end
end Go.Proofs.YtfgofabojepcmaaGreatDoor
end

section
namespace Go.Proofs.YtfgofabojepcmaaGreatDoor
open Go.RowKit
theorem pc{p:Int}(h: -9223372036854775808≤p∧p≤9223372036854775807):IntKind.i64.wrap p=p:=by rw[IntKind.wrap_i64];omega
section
variable [bF] {P:Program} {n:Nat} {Q:EQ} {env:aK} {w:World} {ops:Array Oper}
omit [bF]in
theorem qp{env:aK}{s:Nat}{u:Value}(hs:env.get s=some u): ∀k v,aK.get ((s,u)::env) k=some v→env.get k=some v:=fun k v h=>by
 unfold aK.get at h;by_cases e:s=k
 ·subst e;simp at h;rw[hs,h]
 ·rw[cn e]at h;exact h
theorem sW{l:List Oper}{b:Bool}(s:Nat)(hs:env.get s=some (.bool b))(h1:b=true→Ls P n ops Q l ((s,.bool true)::env) w)(h2:b=false→Ls P n ops Q l ((s,.bool false)::env) w):Ls P n ops Q l env w:=fun hnd a r=>by
 cases b
 ·exact h2 rfl hnd a ⟨r.size,r.defers,fun k v hk=>r.get k v (qp hs k v hk)⟩
 ·exact h1 rfl hnd a ⟨r.size,r.defers,fun k v hk=>r.get k v (qp hs k v hk)⟩
theorem xg{c:Code}(e':aK)(hl: ∀k v,e'.get k=some v→env.get k=some v)(h:Wp P n c Q e' w):Wp P n c Q env w:=fun a r=>h a ⟨r.size,r.defers,fun k v hk=>r.get k v (hl k v hk)⟩
def KF(P:Program)(n:Nat)(c:Code)(Q:EQ)(N:Nat)(env:aK)(w:World):Prop:= ∀a,gj n env a→Code.roundsIn (Fw bF.ro) 0 P c (Lf n Q) N a w
theorem iV{c:Code}(N:Nat)(h:KF P n c Q N env w):Wp P n (.loop c) Q env w:=fun a r=>wpIn_loop_rounds N (h a r)
theorem eA{c:Code}{N:Nat}(h:Wp P n c (Th (KF P n c Q N) Q) env w):KF P n c Q (N+1) env w:=fun a r=>by
 rw[roundsIn_succ];refine Code.wpIn_mono (fun e a' w' hq=>?_) (h a r);obtain⟨env',r',q⟩:=hq;cases e with
 |normal=>exact q a' r'
 |_=>exact⟨env',r',q⟩
theorem xh{c:Code}(I:Nat→aK→World→Prop)(m0:Nat)(e0:aK)(hle:aK.Le e0 env)(h0:I m0 e0 w)
  (h: ∀m e w,I m e w→Wp P n c (Th (fun env' w'=> ∃m' e',m'<m∧aK.Le e' env'∧I m' e' w') Q) e w):Wp P n (.loop c) Q env w:=
 A9 e0 hle (td (fun m e w=> ∃e':aK,(∀k v,e'.get k=some v→e.get k=some v)∧I m e' w) m0 ⟨e0,fun _ _ h=>h,h0⟩ fun m e w ⟨e',hl,hi⟩=>
  xg e' hl (kI (h m e' w hi) fun x v u hq=>by
   cases x<;>first|exact hq|(obtain⟨m',e2,h1,h2,h3⟩:=hq;exact⟨m',h1,e2,fun k v hk=>h2.get k v hk,h3⟩)))
end
section
variable [bF] {P:Program} {n:Nat} {env:aK} {S:World→Prop} {o:Oper}
theorem Er{x y:Operand}{t u:Nat}{k:IntKind}{p q c:Int}(ho:o.op= .binOp .quo t x y u)(hx:env.ev x=some (.int k p))(hy:env.ev y=some (.int k q))(hp:0≤p)(h0:0<q)(hw:k.wrap (p/q)=c):cb P n env S o (.int k c):=
 Ho ho hx hy (by omega) (by rw[Int.tdiv_eq_ediv_of_nonneg hp];exact hw)
theorem Es{x y:Operand}{t u:Nat}{k:IntKind}{p q:Int}(ho:o.op= .binOp .rem t x y u)(hx:env.ev x=some (.int k p))(hy:env.ev y=some (.int k q))(hp:0≤p)(h0:0<q):cb P n env S o (.int k (p%q)):=
 Hq ho hx hy (by omega) (Int.tmod_eq_emod_of_nonneg hp)
end
section
variable {Q:EQ} {K:aK→World→Prop} {env:aK} {w:World}
theorem cg(h:K env w):Th K Q .normal env w:=h
theorem iE(h:Q .ret env w):Th K Q .ret env w:=h
theorem ui{i:Nat}(h:Q (.exit i) env w):Th K Q (.exit i) env w:=h
theorem rG{id:Nat}(h:Q .normal env w):Ib id Q .normal env w:=h
theorem qr{id:Nat}(h:Q .ret env w):Ib id Q .ret env w:=h
theorem pf{id:Nat}(h:Q .normal env w):Ib id Q (.exit id) env w:=by simpa[Ib]using h
theorem AR{i id:Nat}(hb:Nat.beq i id=false)(h:Q (.exit i) env w):Ib id Q (.exit i) env w:=by simpa[Ib,hb]using h
end
theorem KG [bF]{n:Nat}{env:aK}{ops:Array Oper}{o:Oper}{j s:Nat}{b:Bool}(hg:o.guard=some (j,b))(hj:(ops[j]?).bind (·.dst)=some s)(hs:env.get s=some undef):lH n env ops o false:=fun a r=>by
 have:=r.get s _ hs;simp[Region.wanted,hg,yielded,hj,this,undef]
def Rv(P:Program)(env:aK)(w:World):ResultVar→Value→Prop
 | .tmp t,v=>env.get t=some v
 | .cell p ty,v=> ∃ad,env.get p=some (.pointer (some ad))∧(loadVar ty ad).run P w= .ok v w
section
variable [bF] {P:Program} {n:Nat} {env:aK} {w:World} {fn:Func}
theorem qs{r:ResultVar}{v:Value}(h:fn.results= #[r])(hr:Rv P env w r v):uz P n fn env w v:=fun a ra=>by
 cases r with
 |tmp p=>
  have e0:=ra.get p _ hr;simp[results,h,e0]
 |cell p ty=>
  obtain⟨ad,f0,g0⟩:=hr;have e0:=ra.get p _ f0;simp[results,h,e0,g0,asAddr]
theorem GZ{r s:ResultVar}{v u:Value}(h:fn.results= #[r,s])(hr:Rv P env w r v)(hs:Rv P env w s u):uz P n fn env w (.tuple #[v,u]):=fun a ra=>by
 cases r with
 |tmp p=>
  have e0:=ra.get p _ hr;cases s with
  |tmp p=>
   have e1:=ra.get p _ hs;simp[results,h,e0,e1]
  |cell p ty=>
   obtain⟨ad,f1,g1⟩:=hs;have e1:=ra.get p _ f1;simp[results,h,e0,e1,g1,asAddr]
 |cell p ty=>
  obtain⟨ad,f0,g0⟩:=hr;have e0:=ra.get p _ f0;cases s with
  |tmp p=>
   have e1:=ra.get p _ hs;simp[results,h,e0,g0,asAddr,e1]
  |cell p ty=>
   obtain⟨ad,f1,g1⟩:=hs;have e1:=ra.get p _ f1;simp[results,h,e0,g0,e1,g1,asAddr]
theorem G0{r s t:ResultVar}{v u x:Value}(h:fn.results= #[r,s,t])(hr:Rv P env w r v)(hs:Rv P env w s u)(ht:Rv P env w t x):uz P n fn env w (.tuple #[v,u,x]):=fun a ra=>by
 cases r with
 |tmp p=>
  have e0:=ra.get p _ hr;cases s with
  |tmp p=>
   have e1:=ra.get p _ hs;cases t with
   |tmp p=>
    have e2:=ra.get p _ ht;simp[results,h,e0,e1,e2]
   |cell p ty=>
    obtain⟨ad,f2,g2⟩:=ht;have e2:=ra.get p _ f2;simp[results,h,e0,e1,e2,g2,asAddr]
  |cell p ty=>
   obtain⟨ad,f1,g1⟩:=hs;have e1:=ra.get p _ f1;cases t with
   |tmp p=>
    have e2:=ra.get p _ ht;simp[results,h,e0,e1,g1,asAddr,e2]
   |cell p ty=>
    obtain⟨ad,f2,g2⟩:=ht;have e2:=ra.get p _ f2;simp[results,h,e0,e1,g1,e2,g2,asAddr]
 |cell p ty=>
  obtain⟨ad,f0,g0⟩:=hr;have e0:=ra.get p _ f0;cases s with
  |tmp p=>
   have e1:=ra.get p _ hs;cases t with
   |tmp p=>
    have e2:=ra.get p _ ht;simp[results,h,e0,g0,asAddr,e1,e2]
   |cell p ty=>
    obtain⟨ad,f2,g2⟩:=ht;have e2:=ra.get p _ f2;simp[results,h,e0,g0,e1,e2,g2,asAddr]
  |cell p ty=>
   obtain⟨ad,f1,g1⟩:=hs;have e1:=ra.get p _ f1;cases t with
   |tmp p=>
    have e2:=ra.get p _ ht;simp[results,h,e0,g0,e1,g1,asAddr,e2]
   |cell p ty=>
    obtain⟨ad,f2,g2⟩:=ht;have e2:=ra.get p _ f2;simp[results,h,e0,g0,e1,g1,e2,g2,asAddr]
omit [bF]in
theorem Iz{H:bX}{p t g m i ty:Nat}{cs:List Value}(hx:env.get p=some (.pointer (some ⟨g,0,none⟩)))(ht:cS P t=some m)(h:Hp w H)(hi:H[i]? =some (some g,Cl cs ty))(hl:cs.length=m):Rv P env w (.cell p t) (.agg cs.toArray):=
 ⟨_,hx,g7 ht hl (n6 h hi)⟩
end
section
variable [bF] {P:Program} {n:Nat} {env:aK} {S:World→Prop} {o:Oper}
theorem G1{x y:Operand}{t u:Nat}{k:IntKind}{p q:Int}(ho:o.op= .call {callee:= .builtin .max,args:= #[x,y],argTypes:= #[t,u]})(hx:env.ev x=some (.int k p))(hy:env.ev y=some (.int k q)):cb P n env S o (.int k (max p q)):=fun a r w _=>by
 refine ez ho (r.eval hx) (r.eval hy) fun c=>?_;have e:(if q>p then q else p)=max p q:=by simp only[Int.max_def];split<;>split<;>omega
 simp[builtin,Builtin.max_,Builtin.max2,←e]
end
end Go.Proofs.YtfgofabojepcmaaGreatDoor
end

section
namespace Go.Proofs.YtfgofabojepcmaaGreatDoor
open Go.RowKit
section
variable [bF] {P:Program} {n:Nat} {Q:EQ} {env:aK} {w:World} {ops:Array Oper} {S:World→Prop} {fuel:Nat} {listed:Array Bool}
end
end Go.Proofs.YtfgofabojepcmaaGreatDoor
end

section
namespace Go.Proofs.YtfgofabojepcmaaGreatDoor
open Go.RowKit
section
variable [bF] {P:Program} {n:Nat} {env:aK} {S:World→Prop} {o:Oper}
end
section
variable [bF] {P:Program} {n:Nat} {env:aK} {S:World→Prop} {o:Oper}
theorem Eu{x y:Operand}{t u e l c l' c':Nat}{A:Option Addr}(ho:o.op= .binOp .eql t x y u)(hx:env.ev x=some (.slice A l c))(hy:env.ev y=some (.slice none l' c'))(ht:P.underlying t=some (.slice e)):cb P n env S o (.bool A.isNone):=fun a ra w _=>by
 have h: ∀d:Nat,(Op.equalIn (d+1) t (.slice A l c) (.slice none l' c')).run P w= .ok A.isNone w:=fun d=>by
  unfold Op.equalIn;cases A<;>simp[run_underlying ht]
 unfold execOp;simp only[ho,ra.eval hx,ra.eval hy,eqGuard,binOp];simp[Op.equal,Op.maxDepth,h 9999]
theorem xk{x y:Operand}{t u e:Nat}{A:Option Addr}(ho:o.op= .binOp .eql t x y u)(hx:env.ev x=some (.pointer A))(hy:env.ev y=some (.pointer none))(ht:P.underlying t=some (.pointer e)):cb P n env S o (.bool A.isNone):=fun a ra w _=>by
 have h: ∀d:Nat,(Op.equalIn (d+1) t (.pointer A) (.pointer none)).run P w= .ok A.isNone w:=fun d=>by
  unfold Op.equalIn;cases A<;>simp[run_underlying ht]
 unfold execOp;simp only[ho,ra.eval hx,ra.eval hy,eqGuard,binOp];simp[Op.equal,Op.maxDepth,h 9999]
theorem vi{x y:Operand}{t u e:Nat}{A:Option Addr}(ho:o.op= .binOp .neq t x y u)(hx:env.ev x=some (.pointer A))(hy:env.ev y=some (.pointer none))(ht:P.underlying t=some (.pointer e)):cb P n env S o (.bool A.isSome):=fun a ra w _=>by
 have h: ∀d:Nat,(Op.equalIn (d+1) t (.pointer A) (.pointer none)).run P w= .ok A.isNone w:=fun d=>by
  unfold Op.equalIn;cases A<;>simp[run_underlying ht]
 unfold execOp;simp only[ho,ra.eval hx,ra.eval hy,eqGuard,binOp];simp[Op.equal,Op.maxDepth,h 9999]
end
structure E2(w w':World)(H1:bX):Prop where
 fr:Fr [] w w'
 hp:Hp w' H1
 nw: ∀k∈bG H1,w.heap.size≤k
structure LR(w w':World)(Hx H1:bX):Prop where
 fr:Fr (bG Hx) w w'
 hp:Hp w' H1
 nw: ∀k∈bG H1,k∈bG Hx∨w.heap.size≤k
theorem Hp.add{w w':World}{H H1:bX}(h:Hp w H)(m:E2 w w' H1):Hp w' (H++H1):=
 Hp.after (Hx:= []) (X:= []) (by simpa using h) (by simp) m.fr m.hp fun k hk=> .inr (m.nw k hk)
theorem gV(H:bX): ∀(a b:List Nat),dq H (a++b)=dq H a++dq H b
 | [],b=>rfl
 |i::a,b=>by
  simp only[List.cons_append,dq,gV H a b];cases H[i]? <;>rfl
theorem Hp.call{w w':World}{H H1 Hx:bX}(h:Hp w H)(others idx:List Nat)(hn:(others++idx).Nodup)(hx:dq H idx=Hx)(m:LR w w' Hx H1):Hp w' (dq H others++H1):=by
 have h1:=h.pk (others++idx) hn;rw[gV,hx]at h1;exact Hp.after h1 (fun _ h=>h) m.fr m.hp m.nw
theorem Hp.addNone{w:World}{H:bX}(h:Hp w H)(o:Obj):Hp w (H++ [(none,o)]):=Hp.after (Hx:= []) (X:= []) (by simpa using h) (by simp) (Fr.refl _ _) (⟨fun i g o' hi=>by
  match i,hi with
  |0,hi=>simp at hi
  |i+1,hi=>simp at hi,fun i j g o' o'' hi=>by
  match i,hi with
  |0,hi=>simp at hi
  |i+1,hi=>simp at hi⟩:Hp w [(none,o)]) (by simp[bG])
theorem E2.refl(w:World):E2 w w []:=⟨Fr.refl _ _,Hp.nil w,by simp[bG]⟩
theorem E2.drew{w w':World}{H1:bX}(h:E2 w w' H1):E2 w w'.drew H1:=⟨h.fr.step0 (Fr.drew _),h.hp.drew,h.nw⟩
end Go.Proofs.YtfgofabojepcmaaGreatDoor
end

section
namespace Go.Proofs.YtfgofabojepcmaaGreatDoor
section
variable [bF] {P:Program} {n:Nat} {env:aK} {w:World} {o:Oper} {K:aK→World→Prop} {H:bX}
theorem xb{v:Value}{w':World}(hd:o.dst=none)(hr: ∀a,gj n env a→(execOp a.eval o).run P w= .ok (.value v) w')(hk:K env w'):cd P n env w o K:=fun a r=>by
 unfold Oper.wp;simp only[hr a r,Oper.upon];exact⟨env,by rw[hd];exact r,hk⟩
end
section
variable [bF] {P:Program} {n:Nat} {env:aK} {w:World} {o:Oper} {K:aK→World→Prop} {H:bX}
end
section
variable [bF] {P:Program} {n:Nat} {env:aK} {S:World→Prop} {o:Oper}
end
end Go.Proofs.YtfgofabojepcmaaGreatDoor
end

section
namespace Go.Proofs.YtfgofabojepcmaaGreatDoor
def gS(P:Program)(md:Region.Mode)(ops:Array Oper)(Q:Exit→Act→World→Prop)(S:World→Prop)(f:Nat):Nat→Array Bool→Act→World→Prop
 |0,listed,a,w=>Region.ready md ops listed= []∧Q .normal a w
 |fuel+1,listed,a,w=>(Region.ready md ops listed= []→Q .normal a w)∧
  ∀i∈Region.ready md ops listed,wpOp P ops Q i (fun a' w'=>(i≠f→S w')∧gS P md ops Q S f fuel (listed.setIfInBounds i true) a' w') a w
def gT(md:Region.Mode)(ops:Array Oper)(listed:Array Bool):Prop:= ∀k o,ops[k]? =some o→listed.getD k false=true→ ∀e∈o.after,Region.binds md e=true→listed.getD e.on false=true
section
variable [bF] {P:Program} {ops:Array Oper} {Q:Exit→Act→World→Prop} {md:Region.Mode} {S:World→Prop} {f:Nat}
omit [bF]in
theorem fV{listed:Array Bool}{i:Nat}(h:gT md ops listed)(hi:i∈Region.ready md ops listed):gT md ops (listed.setIfInBounds i true):=fun k o ho hk e he hb=>by
 apply getD_set_true;by_cases hik:i=k
 ·subst hik;obtain⟨_,o',ho',hall⟩:=mem_ready.1 hi;rw[ho]at ho';cases ho';exact hall e he hb
 ·rw[getD_set_ne false hik]at hk;exact h k o ho hk e he hb
omit [bF]in
theorem qo(n:Nat):gT md ops (Array.replicate n false):=fun k o _ hk=>by
 exfalso;rw[Array.getD_eq_getD_getElem?]at hk;by_cases h:k<n
 ·simp[h]at hk
 ·simp[h]at hk
def o7(md:Region.Mode)(ops:Array Oper):List Nat→List Nat→Bool
 | [],_=>true
 |k::ks,m=>m.contains k&&o7 md ops ks (match ops[k]? with|some o=>(o.after.toList.filter (Region.binds md)).map (·.on)++m|none=>m)
omit [bF]in
theorem mV{listed:Array Bool}(hc:gT md ops listed)(hf:f∈Region.ready md ops listed): ∀(ks m:List Nat),o7 md ops ks m=true→(∀x∈m,x=f∨listed.getD x false=true)→ ∀k∈ks,k=f∨listed.getD k false=true
 | [],_,_,_,_,hk=>by cases hk
 |k::ks,m,h,hm,x,hx=>by
  simp only[o7,Bool.and_eq_true,List.contains_iff_mem]at h;have hk:=hm k h.1;rcases List.mem_cons.1 hx with rfl|hx
  ·exact hk
  refine mV hc hf ks _ h.2 (fun y hy=>?_) x hx;cases ho:ops[k]? with
  |none=>rw[ho]at hy;exact hm y hy
  |some o=>
   rw[ho]at hy;simp only[List.mem_append,List.mem_map,List.mem_filter]at hy;rcases hy with⟨e,⟨he,hb⟩,rfl⟩|hy
   ·right;rcases hk with rfl|hk
    ·obtain⟨_,o',ho',hall⟩:=mem_ready.1 hf;rw[ho]at ho';cases ho';exact hall e (by simpa using he) hb
    ·exact hc k o ho hk e (by simpa using he) hb
   ·exact hm y hy
def AP(md:Region.Mode)(ops:Array Oper)(f:Nat):Bool:=o7 md ops (List.range ops.size).reverse [f]
omit [bF]in
theorem mW: ∀(fuel:Nat) (listed:Array Bool) (a:Act) (w:World),gS P md ops Q S f fuel listed a w→wpAny P md ops Q fuel listed a w
 |0,_,_,_,h=>h
 |fuel+1,_,_,_,h=>⟨h.1,fun i hi=>wpOp_mono (fun a' w' h'=>mW fuel _ a' w' h'.2) (h.2 i hi)⟩
end
section
variable [bF] {P:Program} {n:Nat} {Q:EQ} {env:aK} {w:World} {ops:Array Oper} {S:World→Prop} {f:Nat}
end
end Go.Proofs.YtfgofabojepcmaaGreatDoor
end

section
namespace Go.Proofs.YtfgofabojepcmaaGreatDoor
theorem lF{P:Program}{ops:Array Oper}{Q:Exit→Act→World→Prop}{S S':World→Prop}{f:Nat}(hS: ∀w,S' w→S w): ∀(fuel:Nat) (listed:Array Bool) (a:Act) (w:World),gS P .any ops Q S' f fuel listed a w→gS P .any ops Q S f fuel listed a w
 |0,_,_,_,h=>h
 |fuel+1,_,_,_,h=>⟨h.1,fun i hi=>wpOp_mono (fun a' w' h'=>⟨fun hf=>hS _ (h'.1 hf),lF hS fuel _ a' w' h'.2⟩) (h.2 i hi)⟩
section
variable [bF] {P:Program} {n:Nat} {Q:EQ} {env:aK} {w:World} {ops:Array Oper} {S:World→Prop} {fuel f:Nat} {listed:Array Bool}
end
end Go.Proofs.YtfgofabojepcmaaGreatDoor
end

section
set_option linter.unusedVariables false
set_option linter.unusedSimpArgs false
namespace Go.Proofs.YtfgofabojepcmaaGreatDoor
open Go.RowKit
def kK(X:List Nat)(w:World)(A:Option Addr)(cs:List Value):Prop:=
 ∀(j:Nat) v,cs[j]? =some v→ ∃g b,A=some ⟨g,b,none⟩∧g∉X∧w.cell? ⟨g,b+j,none⟩=some v
theorem qu{w:World}{a:Addr}{v:Value}(h:w.cell? a=some v):a.block<w.heap.size:=by
 unfold World.cell? at h;split at h
 ·rename_i c t x hb;exact bR hb
 ·cases h
theorem kK.stable{X Y:List Nat}{w w':World}{A:Option Addr}{cs:List Value}(h:kK X w A cs)(hf:Fr X w w')(hY: ∀y∈Y,y∈X∨w.heap.size≤y):kK Y w' A cs:=fun j v hj=>by
 obtain⟨g,b,rfl,hX,hc⟩:=h j v hj;have hlt:=qu hc;refine⟨g,b,rfl,fun hy=>?_,?_⟩
 ·rcases hY g hy with h1|h1
  ·exact hX h1
  ·simp only at hlt;omega
 ·rw[hf.cell hlt hX];exact hc
theorem kK.sub{X Y:List Nat}{w:World}{A:Option Addr}{cs:List Value}(h:kK X w A cs)(hY: ∀y∈Y,y∈X):kK Y w A cs:=fun j v hj=>by
 obtain⟨g,b,e,hX,hc⟩:=h j v hj;exact⟨g,b,e,fun hy=>hX (hY g hy),hc⟩
theorem kK.nil{X:List Nat}{w:World}{A:Option Addr}:kK X w A []:=fun j v hj=>by simp at hj
theorem kK.take{X:List Nat}{w:World}{A:Option Addr}{cs:List Value}(h:kK X w A cs)(k:Nat):kK X w A (cs.take k):=fun j v hj=>by
 rw[List.getElem?_take]at hj;split at hj
 ·exact h j v hj
 ·cases hj
theorem kK.addr{X:List Nat}{w:World}{A:Option Addr}{cs:List Value}(h:kK X w A cs)(hl:0<cs.length): ∃g b,A=some ⟨g,b,none⟩:=by
 obtain⟨g,b,e,_⟩:=h 0 cs[0] (List.getElem?_eq_getElem hl);exact⟨g,b,e⟩
theorem kK.range{X:List Nat}{w:World}{g b:Nat}{cs:List Value}(h:kK X w (some ⟨g,b,none⟩) cs)(k m:Nat):w.rangeAt g (b+k) ((cs.drop k).take m):=fun j v hj=>by
 rw[List.getElem?_take]at hj;split at hj
 ·rw[List.getElem?_drop]at hj;obtain⟨g',b',e,_,hc⟩:=h _ v hj;injection e with e;injection e with e1 e2;subst e1;subst e2;rw[Nat.add_assoc];exact hc
 ·cases hj
theorem kK.src{X:List Nat}{w:World}{A:Option Addr}{cs:List Value}(h:kK X w A cs): ∀ad,A=some ad→ ∀j u,cs[j]? =some u→w.cell? (ad.add j)=some u:=fun ad hA j u hj=>by
 obtain⟨g,b,e,_,hc⟩:=h j u hj;rw[hA]at e;injection e with e;subst e;rw[Addr.add_mid];exact hc
theorem kK.drop{X:List Nat}{w:World}{g b:Nat}{cs:List Value}(h:kK X w (some ⟨g,b,none⟩) cs)(k:Nat):kK X w (some ⟨g,b+k,none⟩) (cs.drop k):=fun j v hj=>by
 rw[List.getElem?_drop]at hj;obtain⟨g',b',e,hX,hc⟩:=h _ v hj;injection e with e;injection e with e1 e2;subst e1;subst e2;exact⟨g,b+k,rfl,hX,by rw[Nat.add_assoc];exact hc⟩
structure Kf where
 p:List Nat→World→Prop
 st: ∀{X Y:List Nat} {w w':World},p X w→Fr X w w'→(∀y∈Y,y∈X∨w.heap.size≤y)→p Y w'
structure jA(X:List Nat)(w:World)(A:Option Addr)(l c m:Nat)(cs:List Value):Prop where
 rd:kK X w A cs
 len:cs.length=l*m
 lc:l≤c
 cm:c≤maxLen
theorem jA.stable{X Y:List Nat}{w w':World}{A:Option Addr}{l c m:Nat}{cs:List Value}(h:jA X w A l c m cs)(hf:Fr X w w')(hY: ∀y∈Y,y∈X∨w.heap.size≤y):jA Y w' A l c m cs:=⟨h.rd.stable hf hY,h.len,h.lc,h.cm⟩
theorem jA.le{X:List Nat}{w:World}{A:Option Addr}{l c m:Nat}{cs:List Value}(h:jA X w A l c m cs):l≤9223372036854775807:=by have h1:=h.lc;have h2:=h.cm;unfold maxLen at h2;omega
theorem Ow.le{A:Option Addr}{l c m:Nat}{xs sp:List Value}(h:Ow A l c m xs sp):l≤9223372036854775807:=by
 rcases h.2 with⟨_,h0,_⟩|⟨g,_,_,h1,h2⟩
 ·omega
 ·unfold maxLen at h2;omega
def kS(A:Option Addr)(l c m:Nat)(cs:List Value):Kf:=⟨fun X w=>jA X w A l c m cs,fun h hf hY=>h.stable hf hY⟩
structure St(X:List Nat)(w:World)(H:bX)(K:List Kf):Prop where
 hp:Hp w H
 kr: ∀k∈K,k.p (bG H++X) w
 lo: ∀x∈X,x<w.heap.size
 dj: ∀x∈X,x∉bG H
def Lo(X:List Nat)(w:World):Prop:= ∀x∈X,x<w.heap.size
section
variable {X:List Nat} {w w':World} {H H':bX} {K:List Kf} {g i:Nat} {o o':Obj}
theorem St.nil(hX:Lo X w):St X w [] []:=⟨Hp.nil w,by simp,hX,by simp[bG]⟩
theorem St.drew(h:St X w H K):St X w.drew H K:=⟨h.hp.drew,fun k hk=>k.st (h.kr k hk) ((Fr.refl _ _).step0 (Fr.drew w)) (fun _ hy=> .inl hy),h.lo,h.dj⟩
theorem St.Lo(h:St X w H K):Lo (bG H++X) w:=fun x hx=>by
 rcases List.mem_append.1 hx with hx|hx
 ·exact h.hp.keys_lt x hx
 ·exact h.lo x hx
theorem Fr.weak0{X:List Nat}{w w':World}(h:Fr [] w w'):Fr X w w':=h.mono (by simp)
theorem St.keep0(h:St X w H K)(hf:Fr [] w w'):St X w' H K:=⟨h.hp.keep0 hf,fun k hk=>k.st (h.kr k hk) hf.weak0 (fun _ hy=> .inl hy),fun x hx=>Nat.lt_of_lt_of_le (h.lo x hx) hf.size,h.dj⟩
theorem fy(a b:bX):bG (a++b)=bG a++bG b:=by unfold bG;rw[List.filterMap_append]
theorem St.step{Y:List Nat}(h:St X w H K)(hp:Hp w' H')(hf:Fr Y w w')(hY: ∀y∈Y,y∈bG H)(hk: ∀k∈bG H',k∈bG H∨w.heap.size≤k):St X w' H' K:=
 ⟨hp,fun k hk'=>k.st (h.kr k hk') (hf.mono fun y hy=>List.mem_append_left _ (hY y hy)) (fun y hy=>by
  rcases List.mem_append.1 hy with hy|hy
  ·rcases hk y hy with h1|h1
   ·exact .inl (List.mem_append_left _ h1)
   ·exact .inr h1
  ·exact .inl (List.mem_append_right _ hy)),fun x hx=>Nat.lt_of_lt_of_le (h.lo x hx) hf.size,fun x hx hk'=>by
  rcases hk x hk' with h1|h1
  ·exact h.dj x hx h1
  ·have:=h.lo x hx;omega⟩
theorem St.push{o:Obj}(h:St X w H K)(hp:Hp w' (H++ [(some g,o)]))(hf:Fr [] w w')(hg:w.heap.size≤g):St X w' (H++ [(some g,o)]) K:=
 h.step hp hf (by simp) fun k hk=>by
  rw[fy]at hk;rcases List.mem_append.1 hk with hk|hk
  ·exact .inl hk
  ·simp[bG]at hk;subst hk;exact .inr hg
theorem qv{k' k:Option Nat}(hi:H[i]? =some (k,o)){x:Nat}(hx:x∈bG (H.set i (k',o'))):x∈bG H∨k'=some x:=by
 obtain⟨j,b,hj⟩:=cX.1 hx;rw[List.getElem?_set]at hj;split at hj
 ·split at hj
  ·simp at hj;exact .inr hj.1
  ·cases hj
 ·exact .inl (cX.2 ⟨j,b,hj⟩)
theorem St.set(h:St X w H K)(hi:H[i]? =some (some g,o))(hp:Hp w' (H.set i (some g,o')))(hf:Fr [g] w w'):St X w' (H.set i (some g,o')) K:=
 h.step hp hf (fun y hy=>by simp at hy;subst hy;exact cX.2 ⟨i,o,hi⟩) fun k hk=>by
  rcases qv hi hk with h1|h1
  ·exact .inl h1
  ·injection h1 with h1;subst h1;exact .inl (cX.2 ⟨i,o,hi⟩)
theorem St.setAny{k k':Option Nat}(h:St X w H K)(hi:H[i]? =some (k,o))(hp:Hp w' (H.set i (k',o')))(hf:Fr k.toList w w')(hk': ∀g',k'=some g'→k=some g'∨w.heap.size≤g'):St X w' (H.set i (k',o')) K:=
 h.step hp hf (fun y hy=>by cases k with
  |none=>simp at hy
  |some g=>simp at hy;subst hy;exact cX.2 ⟨i,o,hi⟩) fun x hx=>by
  rcases qv hi hx with h1|h1
  ·exact .inl h1
  ·rcases hk' x h1 with h2|h2
   ·subst h2;exact .inl (cX.2 ⟨i,o,hi⟩)
   ·exact .inr h2
theorem St.addK(h:St X w H K)(k:Kf)(hk:k.p (bG H++X) w):St X w H (K++ [k]):=⟨h.hp,fun j hj=>by
 rcases List.mem_append.1 hj with hj|hj
 ·exact h.kr j hj
 ·simp at hj;subst hj;exact hk,h.lo,h.dj⟩
theorem St.addN(h:St X w H K)(o:Obj):St X w (H++ [(none,o)]) K:=⟨h.hp.addNone o,fun k hk=>by
 have:bG (H++ [(none,o)])=bG H:=by rw[fy];simp[bG]
 rw[this];exact h.kr k hk,h.lo,fun x hx=>by rw[fy];simpa[bG]using h.dj x hx⟩
theorem St.k{A:Option Addr}{l c m:Nat}{cs:List Value}(h:St X w H K)(hi:K[i]? =some (kS A l c m cs)):jA (bG H++X) w A l c m cs:=h.kr _ (List.mem_of_getElem? hi)
def ME{X:List Nat}{w:World}{H:bX}{K:List Kf}(_:St X w H K):bX:=H
theorem fM{idx:List Nat}{x:Nat}(h:x∈bG (dq H idx)):x∈bG H:=by
 induction idx with
 |nil=>simp[dq,bG]at h
 |cons a r ih=>
  unfold dq at h;cases ha:H[a]? with
  |none=>rw[ha]at h;exact ih h
  |some e=>
   rw[ha]at h;obtain⟨k,ob⟩:=e;unfold bG at h;rw[List.filterMap_cons]at h;cases k with
   |none=>exact ih h
   |some g=>
    simp only[List.mem_cons]at h;rcases h with rfl|h
    ·exact cX.2 ⟨a,ob,ha⟩
    ·exact ih h
theorem Kf.sub(k:Kf){X Y:List Nat}{w:World}(h:k.p X w)(hY: ∀y∈Y,y∈X):k.p Y w:=k.st h (Fr.refl _ _) (fun y hy=> .inl (hY y hy))
theorem St.pk(h:St X w H K)(idx:List Nat)(hn:idx.Nodup):St X w (dq H idx) K:=⟨h.hp.pk idx hn,fun k hk=>k.sub (h.kr k hk) (fun y hy=>by
 rcases List.mem_append.1 hy with hy|hy
 ·exact List.mem_append_left _ (fM hy)
 ·exact List.mem_append_right _ hy),h.lo,fun x hx hk=>h.dj x hx (fM hk)⟩
theorem St.out{k:Kf}(h:St X w H K)(hi:K[i]? =some k):k.p X w:=k.sub (h.kr k (List.mem_of_getElem? hi)) (fun y hy=>List.mem_append_right _ hy)
def pickK(K:List Kf):List Nat→List Kf
 | []=> []
 |i::r=>match K[i]? with
  |some e=>e::pickK K r
  |none=>pickK K r
theorem nX{idx:List Nat}{k:Kf}(h:k∈pickK K idx):k∈K:=by
 induction idx with
 |nil=>simp[pickK]at h
 |cons a r ih=>
  unfold pickK at h;cases ha:K[a]? with
  |none=>rw[ha]at h;exact ih h
  |some e=>
   rw[ha]at h;simp only[List.mem_cons]at h;rcases h with rfl|h
   ·exact List.mem_of_getElem? ha
   ·exact ih h
theorem St.sub(h:St X w H K)(others idx kidx:List Nat)(hn:(others++idx).Nodup):St (bG (dq H others)++X) w (dq H idx) (pickK K kidx):=by
 have h1:=h.hp.pk (others++idx) hn;rw[gV]at h1;refine⟨h.hp.pk idx (List.nodup_append.1 hn).2.1,fun k hk=>k.sub (h.kr k (nX hk)) (fun y hy=>?_),fun x hx=>?_,fun x hx hk=>?_⟩
 ·rcases List.mem_append.1 hy with hy|hy
  ·exact List.mem_append_left _ (fM hy)
  ·rcases List.mem_append.1 hy with hy|hy
   ·exact List.mem_append_left _ (fM hy)
   ·exact List.mem_append_right _ hy
 ·rcases List.mem_append.1 hx with hx|hx
  ·exact h.hp.keys_lt x (fM hx)
  ·exact h.lo x hx
 ·rcases List.mem_append.1 hx with hx|hx
  ·obtain⟨a,o1,ha⟩:=cX.1 hx;obtain⟨b,o2,hb⟩:=cX.1 hk;have la:a<(dq H others).length:=(List.getElem?_eq_some_iff.1 ha).1;have:=h1.inj a ((dq H others).length+b) x o1 o2 (by rw[List.getElem?_append_left la];exact ha) (by rw[List.getElem?_append_right (by omega)];simpa using hb);omega
  ·exact h.dj x hx (fM hk)
end
theorem Ev{P:Nat→Prop}: ∀k∈bG [],P k:=fun k hk=>by simp[bG]at hk
theorem KH{P:Nat→Prop}{g:Nat}{o:Obj}{H:bX}(h:P g)(hr: ∀k∈bG H,P k): ∀k∈bG ((some g,o)::H),P k:=fun k hk=>by
 simp only[bG,List.filterMap_cons,List.mem_cons]at hk;rcases hk with rfl|hk
 ·exact h
 ·exact hr k hk
theorem Ew{P:Nat→Prop}{k0:Option Nat}{o:Obj}{H:bX}(h: ∀g,k0=some g→P g)(hr: ∀k∈bG H,P k): ∀k∈bG ((k0,o)::H),P k:=fun k hk=>by
 cases k0 with
 |none=>exact hr k (by simpa[bG]using hk)
 |some g=>exact KH (h g rfl) hr k hk
theorem jA.own{w:World}{H:bX}{A:Option Addr}{l c m i e:Nat}{xs sp:List Value}(h:Hp w H)(hi:H[i]? =some (ao A,Cl (xs++sp) e))(ho:Ow A l c m xs sp)(hm:0<m):jA [] w A l c m xs:=by
 have hlc:l≤c∧c≤maxLen:=by
  rcases ho.2 with⟨_,rfl,rfl,_⟩|⟨g,_,_,h1,h2⟩
  ·exact⟨Nat.le_refl _,Nat.zero_le _⟩
  ·exact⟨h1,h2⟩
 refine⟨fun j v hj=>?_,ho.1,hlc.1,hlc.2⟩;have hjl:j<xs.length:=(List.getElem?_eq_some_iff.1 hj).1;obtain⟨g,rfl⟩:=ho.some_ (by rw[ho.1]at hjl;exact Nat.pos_of_ne_zero (by rintro rfl;omega));exact⟨g,0,rfl,by simp,by rw[Nat.zero_add];exact pm h hi (by rw[List.getElem?_append_left hjl];exact hj)⟩
def ix{α:Type} [Inhabited α](l:List α)(q:Int):α:=(l[q.toNat]?).getD default
theorem dW{α:Type}{enc:α→List Value}{m:Nat}(hm: ∀x,(enc x).length=m)(l:List α):(l.flatMap enc).length=l.length*m:=by
 induction l with
 |nil=>simp
 |cons a l ih=>rw[List.flatMap_cons,List.length_append,ih,hm,List.length_cons,Nat.add_mul,Nat.one_mul,Nat.add_comm]
theorem sY{α:Type}{enc:α→List Value}{m:Nat}(hm: ∀x,(enc x).length=m)(l:List α)(k:Nat):(l.flatMap enc).drop (k*m)=(l.drop k).flatMap enc:=by
 induction l generalizing k with
 |nil=>simp
 |cons a l ih=>
  cases k with
  |zero=>simp
  |succ k=>
   rw[List.flatMap_cons,List.drop_succ_cons,←ih k,show(k+1)*m=(enc a).length+k*m by rw[hm,Nat.add_mul,Nat.one_mul,Nat.add_comm],List.drop_length_add_append]
theorem AY{α:Type}{enc:α→List Value}{m:Nat}(hm: ∀x,(enc x).length=m)(l:List α)(k:Nat):(l.flatMap enc).take (k*m)=(l.take k).flatMap enc:=by
 induction l generalizing k with
 |nil=>simp
 |cons a l ih=>
  cases k with
  |zero=>simp
  |succ k=>
   rw[List.flatMap_cons,List.take_succ_cons,List.flatMap_cons,←ih k,show(k+1)*m=(enc a).length+k*m by rw[hm,Nat.add_mul,Nat.one_mul,Nat.add_comm],List.take_length_add_append]
theorem AZ{α:Type} [Inhabited α]{enc:α→List Value}{m:Nat}(hm: ∀x,(enc x).length=m)(l:List α){q:Int}(h1:q.toNat<l.length):((l.flatMap enc).drop (q.toNat*m)).take m=enc (ix l q):=by
 rw[sY hm,List.drop_eq_getElem_cons h1,List.flatMap_cons,List.take_left' (hm _)];unfold ix;rw[List.getElem?_eq_getElem h1];rfl
theorem jA.elem{α:Type} [Inhabited α]{enc:α→List Value}{m:Nat}{X:List Nat}{w:World}{g b l' c:Nat}{l:List α}(h:jA X w (some ⟨g,b,none⟩) l' c m (l.flatMap enc))(hm: ∀x,(enc x).length=m){q:Int}(h0:0≤q)(h1:q<l.length):w.rangeAt g (b+q.toNat*m) (enc (ix l q)):=by
 rw[←AZ hm l (by omega)];exact h.rd.range _ _
theorem jA.addr{α:Type}{enc:α→List Value}{m:Nat}{X:List Nat}{w:World}{A:Option Addr}{l' c:Nat}{l:List α}(h:jA X w A l' c m (l.flatMap enc))(hm: ∀x,(enc x).length=m)(hm0:0<m){q:Int}(h0:0≤q)(h1:q<l.length): ∃g b,A=some ⟨g,b,none⟩:=
 h.rd.addr (by rw[dW hm];exact Nat.mul_pos (by omega) hm0)
section
variable [bF] {P:Program} {n:Nat} {env:aK} {S:World→Prop} {o:Oper}
theorem mZ{α:Type} [Inhabited α]{enc:α→List Value}{X:List Nat}{t g b m l' c:Nat}(off:Nat){x:Operand}{l:List α}{q:Int}{v:Value}(ho:o.op= .load t x)(hx:env.ev x=some (.pointer (some ⟨g,b+q.toNat*m+off,none⟩)))(ht:cA P t=true)
  (hS: ∀w,S w→jA X w (some ⟨g,b,none⟩) l' c m (l.flatMap enc)) (hm: ∀x,(enc x).length=m) (h0:0≤q) (h1:q<l.length) (hv:(enc (ix l q))[off]? =some v):cb P n env S o v:=
 bO ho hx ht fun w hw=>(hS w hw).elem hm h0 h1 off v hv
end
section
variable {X:List Nat} {w w':World} {H H':bX} {K:List Kf}
theorem St.tK(h:St X w H K)(n:Nat):St X w H (K.take n):=⟨h.hp,fun k hk=>h.kr k (List.mem_of_mem_take hk),h.lo,h.dj⟩
theorem St.pickK(h:St X w H K)(idx:List Nat):St X w H (Proofs.YtfgofabojepcmaaGreatDoor.pickK K idx):=⟨h.hp,fun k hk=>h.kr k (nX hk),h.lo,h.dj⟩
theorem lX{A:Option Addr}{cs:List Value}{l m:Nat}(h:kK X w A cs)(hA:A=none)(hl:cs.length=l*m)(hm:0<m):l=0:=by
 rcases Nat.eq_zero_or_pos l with h0|h0
 ·exact h0
 ·obtain⟨g,b,e⟩:=h.addr (by rw[hl];exact Nat.mul_pos h0 hm);rw[hA]at e;cases e
theorem xm{A:Option Addr}{l c m:Nat}{xs sp:List Value}(ho:Ow A l c m xs sp)(h:A=none):l=0:=by
 rcases ho.2 with⟨_,h0,_⟩|⟨g,e1,_⟩
 ·exact h0
 ·rw[h]at e1;cases e1
end
section
variable [bF] {P:Program} {n:Nat} {env:aK} {w:World} {o:Oper} {K:aK→World→Prop} {H:bX}
theorem Ex{α:Type}{enc:α→List Value}{xs ys:List α}{t ty' e m by' c i sc:Nat}{x y:Operand}{A B:Option Addr}{sp z:List Value}(ho:o.op= .call {callee:= .builtin .append,args:= #[x,y],argTypes:= #[t,ty']})(hty:ty'=t){d:Nat}(hd:o.dst=some d)(hn:Nat.blt d n=true)
  (hx:env.ev x=some (.slice A xs.length c)) (hy:env.ev y=some (.slice B ys.length sc)) (ht:bn P t=some (e,m)) (hz:zeroCells P e=some z) (hzl:z.length=m) (hby:(P.info? e).map (·.bytes)=some by') (hm:0<m) (hlen: ∀x,(enc x).length=m)
  (how:Ow A xs.length c m (xs.flatMap enc) sp) (h:Hp w H) (hi:H[i]? =some (ao A,Cl (xs.flatMap enc++sp) e)) (hsrc: ∀ad,B=some ad→ ∀j u,(ys.flatMap enc)[j]? =some u→w.cell? (ad.add j)=some u) (hB:B=none→ys.length=0) (h1: ∀x,∀v∈enc x,v.oneCell'=true)
  (h63:xs.length+ys.length≤maxLen) (hbytes:(xs.length+ys.length)*by'≤140737488355328)
  (hK: ∀A' c' sp' w',Ow A' (xs++ys).length c' m ((xs++ys).flatMap enc) sp'→Hp w' (H.set i (ao A',Cl ((xs++ys).flatMap enc++sp') e))→Fr (ao A).toList w w'→(∀g,ao A'=some g→ao A=some g∨w.heap.size≤g)→K ((d,(.slice A' (xs++ys).length c'))::env) w'):cd P n env w o K:=
 kE ho hty hd hn hx hy ht hz hzl hby hm how h hi (dW hlen ys) hsrc hB (fun v hv=>by obtain⟨x,_,hx⟩:=List.mem_flatMap.1 hv;exact h1 x v hx) h63 hbytes fun A' c' sp' w' a b c d=>by
  rw[←List.flatMap_append]at a b;rw[←List.length_append]at a⊢;exact hK A' c' sp' w' a b c d
end
theorem St.conv{X:List Nat}{w:World}{H:bX}{K:List Kf}{i ty:Nat}{k:Option Nat}{cs cs':List Value}(h:St X w H K)(hi:H[i]? =some (k,Cl cs ty))(he:cs=cs'):St X w (H.set i (k,Cl cs' ty)) K:=by
 subst he;have:H.set i (k,Cl cs ty)=H:=by
  apply List.ext_getElem?;intro j;rw[List.getElem?_set];by_cases e:i=j
  ·subst e;obtain⟨hl,hi'⟩:=List.getElem?_eq_some_iff.1 hi;simp[hl,hi']
  ·simp[e]
 rw[this];exact h
theorem St.callN{X:List Nat}{w w':World}{H H1:bX}{K K1:List Kf}(h:St X w H K)(hs:St (bG H++X) w' H1 K1)(hf:Fr [] w w')(hk: ∀k∈bG H1,w.heap.size≤k):St X w' (H++H1) (K++K1):=by
 have h1:=h.step (h.hp.add ⟨hf,hs.hp,hk⟩) hf (by simp) fun k hk'=>by
  rw[fy]at hk';rcases List.mem_append.1 hk' with h2|h2
  ·exact .inl h2
  ·exact .inr (hk k h2)
 refine⟨h1.hp,fun k hk'=>?_,h1.lo,h1.dj⟩;rcases List.mem_append.1 hk' with hk'|hk'
 ·exact h1.kr k hk'
 ·refine k.sub (hs.kr k hk') fun y hy=>?_;rw[fy]at hy;simp only[List.mem_append]at hy⊢;rcases hy with(hy|hy)|hy
  ·exact .inr (.inl hy)
  ·exact .inl hy
  ·exact .inr (.inr hy)
section
variable [bF] {P:Program} {n:Nat} {env:aK} {w:World} {o:Oper} {K:aK→World→Prop} {H:bX}
omit [bF]in
theorem xn{α:Type}{enc:α→List Value}(u:α)(k:Nat):(List.replicate k u).flatMap enc=(List.replicate k (enc u)).flatten:=by
 induction k with
 |zero=>rfl
 |succ k ih=>rw[List.replicate_succ,List.replicate_succ,List.flatMap_cons,List.flatten_cons,ih]
end
section
variable [bF] {P:Program} {n:Nat} {env:aK} {S:World→Prop} {o:Oper}
theorem Ey{t:Nat}{x i:Operand}{p:List UInt8}{k:IntKind}{q:Int}(ho:o.op= .index t x i)(hx:env.ev x=some (sv p))(hi:env.ev i=some (.int k q))(ht:P.underlying t=some .string)(h0:0≤q)(h1:q<p.length):cb P n env S o (.int .u8 ((ix p q).toNat:Int)):=by
 have hl:q.toNat<p.length:=by omega
 have:=GX (P:=P) (n:=n) (S:=S) ho hx hi ht h0 (List.getElem?_eq_getElem hl);have e:ix p q=p[q.toNat]:=by unfold ix;rw[List.getElem?_eq_getElem hl];rfl
 rw[e];exact this
theorem yr{α:Type}{enc:α→List Value}{m:Nat}{X:List Nat}{w:World}{A:Option Addr}{c:Nat}{l:List α}{p q:Int}(hm: ∀x,(enc x).length=m)(hm0:0<m)(h:jA X w A l.length c m (l.flatMap enc))(h0:0≤p)(h1:p≤q)(h2:q≤l.length):
  ∃A' c',jA X w A' ((l.take q.toNat).drop p.toNat).length c' m (((l.take q.toNat).drop p.toNat).flatMap enc)∧
   ∀{P:Program} {n:Nat} {env:aK} {S:World→Prop} {o:Oper} {t e:Nat} {x:Operand} {lo hi:Option Operand},o.op= .slice t x lo hi none→env.ev x=some (.slice A l.length c)→bn P t=some (e,m)→iz env lo=some p→kC env l.length hi=some q→
    cb P n env S o (.slice A' ((l.take q.toNat).drop p.toNat).length c'):=by
 have hlen:((l.take q.toNat).drop p.toNat).length=q.toNat - p.toNat:=by
  rw[List.length_drop,List.length_take];omega
 refine⟨if c=p.toNat then A else A.map (·.add (p.toNat*m)),c - p.toNat,⟨?_,dW hm _,by rw[hlen];have:=h.lc;omega,Nat.le_trans (Nat.sub_le _ _) h.cm⟩,?_⟩
 ·rcases Nat.eq_zero_or_pos ((l.take q.toNat).drop p.toNat).length with e0|e0
  ·rw[List.eq_nil_of_length_eq_zero e0];exact kK.nil
  ·rw[hlen]at e0;have hlc:=h.lc;rw[if_neg (by omega)];obtain⟨g,b,rfl⟩:=h.rd.addr (by rw[dW hm];exact Nat.mul_pos (by omega) hm0);have hr:=(h.rd.drop (p.toNat*m)).take ((q.toNat - p.toNat)*m);rw[sY hm,AY hm]at hr;have e1:(l.take q.toNat).drop p.toNat=(l.drop p.toNat).take (q.toNat - p.toNat):=List.drop_take ..;rw[e1];simpa[Addr.add_mid]using hr
 ·intro P n env S o t e x lo hi ho hx ht hlo hhi;rw[hlen];exact pa ho hx ht hlo hhi h0 h1 (by have:=h.lc;omega) h.lc
theorem xp{t f ft off k:Nat}{x:Operand}{us ds:List Value}(ho:o.op= .field t x f)(hx:env.ev x=some (.agg us.toArray))(hf:dh P t f=some off)(hft:(match P.underlying t with|some (.struct fs)=>(fs[f]?).map (·.type)|_=>none)=some ft)(hp:cS P ft=some k)(hv:(us.drop off).take k=ds)(hl:ds.length=k):cb P n env S o (.agg ds.toArray):=fun a r w _=>by
 unfold dh at hf;split at hf<;>try (cases hf;done)
 rename_i fs hu;simp only[hu]at hft;split at hf<;>try (cases hf;done)
 rename_i fd hfd;simp only[hfd,Option.map_some,Option.some.injEq]at hft;split at hf<;>try (cases hf;done)
 rename_i i hi;split at hf
 ·cases hf
 ·injection hf with hf;subst hf;subst hft;have hA:(isAgg fd.type).run P w= .ok true w:=by
   unfold cS at hp;cases hu':P.underlying fd.type with
   |none=>simp[hu']at hp
   |some d=>
    unfold isAgg;simp only[Sem.run_bind,run_underlying hu',Result.andThen_ok];cases d<;>simp[hu']at hp<;>rfl
  have hs:(P.info? fd.type).map (·.size)=some k:=by
   unfold cS at hp;split at hp<;>first|exact hp|(cases hp;done)
  have hz:(sizeOf fd.type).run P w= .ok k w:=dA hs w;unfold execOp;simp[ho,r.eval hx,Instr.field,run_underlying hu,hfd,asAgg,part,hA,hz];rw[←hv]
end
end Go.Proofs.YtfgofabojepcmaaGreatDoor
end

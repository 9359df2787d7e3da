/- Regions that draw their order, step by step, whose last operation changes what the others looked at; two or three acting operations may come in any order. -/
import Derived.Test.YtmpeiadlohbikaaGreatDoorAt0
import Derived.Maps.AppendAt
import Derived.Laws.MakeOwn
import Derived.Laws.BytesArg
import Derived.IntWalk
import Derived.Laws.StructEq
import Derived.ArgAppend
section
namespace Go.Proofs.YtmpeiadlohbikaaGreatDoor
open Go.RowKit
def aq(P:Program)(t:Nat):Option (Nat×Nat):=match P.underlying t with
 |some (.slice e)=>(P.info? e).map fun i=>(e,i.size)
 |_=>none
def ly(P:Program)(t:Nat):Option (Nat×Nat):=match P.underlying t with
 |some (.array m e)=>(P.info? e).map fun i=>(m,i.size)
 |_=>none
theorem bq{P:Program}{t e m:Nat}(h:aq P t=some (e,m)):P.underlying t=some (.slice e)∧(P.info? e).map (·.size)=some m:=by
 unfold aq at h;split at h
 ·rename_i e' hu;cases hq:P.info? e' with
  |none=>simp[hq]at h
  |some i=>
   simp[hq]at h;obtain⟨rfl,rfl⟩:=h;exact⟨hu,by simp[hq]⟩
 ·cases h
theorem bX{P:Program}{e m:Nat}(h:(P.info? e).map (·.size)=some m)(w:World):(sizeOf e).run P w= .ok m w:=by
 cases hq:P.info? e with
 |none=>simp[hq]at h
 |some i=>simp[hq]at h;simp[sizeOf,typeInfo,hq,h]
theorem ta{P:Program}{t k m:Nat}(h:ly P t=some (k,m)): ∃e,P.underlying t=some (.array k e)∧(P.info? e).map (·.size)=some m:=by
 unfold ly at h;split at h
 ·rename_i k' e' hu;cases hq:P.info? e' with
  |none=>simp[hq]at h
  |some i=>
   simp[hq]at h;obtain⟨rfl,rfl⟩:=h;exact⟨e',hu,by simp[hq]⟩
 ·cases h
section
variable [bB] {P:Program} {n:Nat} {env:aI} {S:World→Prop} {o:Oper}
theorem LN{t:Nat}{x ix:Operand}{p:List UInt8}{k:IntKind}{q:Int}{b:UInt8}(ho:o.op= .index t x ix)(hx:env.ev x=some (sv p))(hi:env.ev ix=some (.int k q))(ht:P.underlying t=some .string)(h0:0≤q)(hb:p[q.toNat]? =some b):ci P n env S o (.int .u8 b.toNat):=fun a r w _=>by
 have hg:(⟨p.toArray⟩:ByteArray)[q.toNat]? =some b:=by
  have hl:q.toNat<p.length:=(List.getElem?_eq_some_iff.1 hb).1;have hl':q.toNat<(⟨p.toArray⟩:ByteArray).size:=by simpa[ByteArray.size]using hl
  rw[getElem?_pos (⟨p.toArray⟩:ByteArray) q.toNat hl'];have:=(List.getElem?_eq_some_iff.1 hb).2;simp[←this];rfl
 unfold execOp;simp[ho,r.eval hx,r.eval hi,Instr.index,asIntOf,run_underlying ht,h0,hg]
theorem fG{t e m g b l c:Nat}{x ix:Operand}{k:IntKind}{q:Int}(ho:o.op= .indexAddr t x ix)(hx:env.ev x=some (.slice (some ⟨g,b,none⟩) l c))(hi:env.ev ix=some (.int k q))(ht:aq P t=some (e,m))(h0:0≤q)(h1:q<l):
  ci P n env S o (.pointer (some ⟨g,b+q.toNat*m,none⟩)):=fun a r w _=>by
 obtain⟨hu,hs⟩:=bq ht;unfold execOp;simp[ho,r.eval hx,r.eval hi,Instr.indexAt,asIntOf,run_underlying hu,h0,h1,bX hs,Addr.add_mid]
theorem xI{t m g b l:Nat}{x ix:Operand}{k:IntKind}{q:Int}(ho:o.op= .indexAddr t x ix)(hx:env.ev x=some (.pointer (some ⟨g,b,none⟩)))(hi:env.ev ix=some (.int k q))(ht:ly P t=some (l,m))(h0:0≤q)(h1:q<l):
  ci P n env S o (.pointer (some ⟨g,b+q.toNat*m,none⟩)):=fun a r w _=>by
 obtain⟨e,hu,hs⟩:=ta ht;unfold execOp;simp[ho,r.eval hx,r.eval hi,Instr.indexAt,asIntOf,run_underlying hu,h0,h1,bX hs,Addr.add_mid,Instr.sureAddr]
theorem Jd{t m g b l j:Nat}{x ix:Operand}{k:IntKind}(ho:o.op= .indexAddr t x ix)(hx:env.ev x=some (.pointer (some ⟨g,b,none⟩)))(hi:env.ev ix=some (.int k (j:Int)))(ht:ly P t=some (l,m))(h1:j<l):
  ci P n env S o (.pointer (some ⟨g,b+j*m,none⟩)):=by
 have:=xI (P:=P) (n:=n) (S:=S) ho hx hi ht (by omega) (by omega);simpa using this
def iW(env:aI):Option Operand→Option Int
 |none=>some 0
 |some x=>match env.ev x with
  |some (.int _ q)=>some q
  |_=>none
def iX(env:aI)(l:Nat):Option Operand→Option Int
 |none=>some l
 |some x=>match env.ev x with
  |some (.int _ q)=>some q
  |_=>none
theorem j4{isS:Bool}{l c:Nat}{lo hi:Option Operand}{p q:Int}{a:Act}(r:g7 n env a)(hlo:iW env lo=some p)(hhi:iX env l hi=some q)(h0:0≤p)(h1:p≤q)(h2:q≤c)(hlc:hi=none→l≤c)(w:World):
  (Instr.sliceBounds isS l c (lo.map a.eval) (hi.map a.eval) none).run P w= .ok (p.toNat,q.toNat,c) w:=by
 have hq0:0≤q:=by omega
 cases hi with
 |none=>
  simp only[iX,Option.some.injEq]at hhi;subst hhi;cases lo with
  |none=>
   simp only[iW,Option.some.injEq]at hlo;subst hlo;simp[Instr.sliceBounds]
  |some x=>
   unfold iW at hlo;split at hlo
   ·rename_i heq;cases heq
   ·rename_i y heq;injection heq with heq;subst heq;split at hlo
    ·rename_i kk qq he;injection hlo with hlo;subst hlo;simp[Instr.sliceBounds,Instr.sliceBound,r.eval he,asIntOf,h0,h1]
    ·cases hlo
 |some z=>
  unfold iX at hhi;split at hhi
  ·rename_i heq;cases heq
  ·rename_i y heq;injection heq with heq;subst heq;split at hhi
   ·rename_i kk qq he;injection hhi with hhi;subst hhi;have h1n:p≤(qq.toNat:Int):=by omega
    cases lo with
    |none=>
     simp only[iW,Option.some.injEq]at hlo;subst hlo;simp[Instr.sliceBounds,Instr.sliceBound,r.eval he,asIntOf,hq0,h2]
    |some x=>
     unfold iW at hlo;split at hlo
     ·rename_i heq';cases heq'
     ·rename_i y' heq';injection heq' with heq';subst heq';split at hlo
      ·rename_i k2 q2 he2;injection hlo with hlo;subst hlo;simp[Instr.sliceBounds,Instr.sliceBound,r.eval he,r.eval he2,asIntOf,hq0,h2,h0];omega
      ·cases hlo
   ·cases hhi
theorem Je{t:Nat}{x:Operand}{lo hi:Option Operand}{s:List UInt8}{p q:Int}(ho:o.op= .slice t x lo hi none)(hx:env.ev x=some (sv s))(ht:P.underlying t=some .string)(hlo:iW env lo=some p)(hhi:iX env s.length hi=some q)
  (h0:0≤p) (h1:p≤q) (h2:q≤s.length):ci P n env S o (sv ((s.take q.toNat).drop p.toNat)):=fun a r w _=>by
 have hb:=j4 (P:=P) (isS:=false) r hlo hhi h0 h1 h2 (fun _=>Nat.le_refl _) w;have hsz:(⟨s.toArray⟩:ByteArray).size=s.length:=by simp[ByteArray.size]
 have e:(⟨s.toArray⟩:ByteArray).extract p.toNat q.toNat=⟨((s.take q.toNat).drop p.toNat).toArray⟩:=by
  apply ByteArray.ext;rw[ByteArray.data_extract];simp[List.extract_toArray,List.drop_take]
 unfold execOp;simp[ho,r.eval hx,Instr.sliceAt,run_underlying ht,Instr.slice,hsz,hb,e]
theorem ml{t e m l c:Nat}{A:Option Addr}{x:Operand}{lo hi:Option Operand}{p q:Int}(ho:o.op= .slice t x lo hi none)(hx:env.ev x=some (.slice A l c))(ht:aq P t=some (e,m))(hlo:iW env lo=some p)(hhi:iX env l hi=some q)
  (h0:0≤p) (h1:p≤q) (h2:q≤c) (hlc:l≤c):ci P n env S o (.slice (if c=p.toNat then A else A.map (·.add (p.toNat*m))) (q.toNat - p.toNat) (c - p.toNat)):=fun a r w _=>by
 obtain⟨hu,hs⟩:=bq ht;have hb:=j4 (P:=P) (isS:=true) r hlo hhi h0 h1 h2 (fun _=>hlc) w;unfold execOp;simp[ho,r.eval hx,Instr.sliceAt,Instr.slice,run_underlying hu,hb,bX hs]
theorem EI{t e m l c:Nat}{A:Option Addr}{x:Operand}{hi:Option Operand}{q:Int}(ho:o.op= .slice t x none hi none)(hx:env.ev x=some (.slice A l c))(ht:aq P t=some (e,m))(hhi:iX env l hi=some q)
  (h1:0≤q) (h2:q≤c) (hlc:l≤c):ci P n env S o (.slice A q.toNat c):=by
 have:=ml (P:=P) (n:=n) (S:=S) ho hx ht (p:=0) rfl hhi (by omega) h1 h2 hlc;have e1:(if c=(0:Int).toNat then A else A.map (·.add ((0:Int).toNat*m)))=A:=by
  split
  ·rfl
  ·cases A<;>simp[Addr.add]
 rw[e1]at this;simpa using this
end
section
variable [bB] {P:Program} {n:Nat} {env:aI} {S:World→Prop} {o:Oper}
end
def lT(pls:List (Nat×Nat)):List Value→List (Nat×Value)→Option (List Value)
 |cs,[]=>some cs
 |cs,(i,v)::r=>match pls[i]? with
  |some (off,sz)=>bif Nat.beq v.cells.toList.length sz&&Nat.ble (off+sz) cs.length then lT pls (cs.take off++(v.cells.toList++cs.drop (off+sz))) r else none
  |none=>none
def m9(P:Program)(t:Nat):Option (List (Nat×Nat)):=match P.underlying t with
 |some (.struct fields)=>fields.toList.mapM fun f=>(P.info? f.type).map fun i=>(f.offset,i.size)
 |_=>none
theorem jp: ∀(u:List Value) (off j:Nat) (cs:Array Value),off+j+u.length≤cs.size→
  (u.zipIdx j).foldl (fun cs (cj:Value×Nat)=>cs.setIfInBounds (off+cj.2) cj.1) cs=(cs.toList.take (off+j)++(u++cs.toList.drop (off+j+u.length))).toArray
 | [],off,j,cs,_=>by simp
 |v::u,off,j,cs,h=>by
  simp only[List.length_cons]at h;rw[List.zipIdx_cons,List.foldl_cons,jp u off (j+1) _ (by simp;omega)];have e:=list_seg_step cs.toList (off+j) v u (by simp;omega);simp only[Array.toList_setIfInBounds,List.length_cons,←Nat.add_assoc];simpa[Nat.add_assoc]using e
theorem gi(pls:List (Nat×Nat)): ∀(parts:List (Nat×Value)) (cs out:List Value),lT pls cs parts=some out→Instr.fill (pls.toArray[·]?) cs.toArray parts=some out.toArray
 | [],cs,out,h=>by simp[lT]at h;simp[Instr.fill,h]
 |(i,v)::r,cs,out,h=>by
  unfold lT at h;split at h
  ·rename_i off sz hp;cases hb:(Nat.beq v.cells.toList.length sz&&Nat.ble (off+sz) cs.length)with
   |false=>rw[hb]at h;cases h
   |true=>
    rw[hb]at h;simp only[cond_true]at h;simp only[Bool.and_eq_true,Nat.ble_eq]at hb;have h1:v.cells.toList.length=sz:=Nat.eq_of_beq_eq_true hb.1;have hsz:v.cells.size=sz:=by rw[←h1];simp
    have key:=jp v.cells.toList off 0 cs.toArray (by simp;omega);simp only[Nat.add_zero]at key;unfold Instr.fill;have hp':pls.toArray[i]? =some (off,sz):=by simpa using hp
    simp only[hp'];rw[if_neg (by simp[hsz];omega)];have key2:(v.cells.zipIdx.foldl (fun cs (cj:Value×Nat)=>cs.setIfInBounds (off+cj.2) cj.1) cs.toArray)=(cs.take off++(v.cells.toList++cs.drop (off+sz))).toArray:=by
     rw[←Array.foldl_toList,Array.toList_zipIdx,key];simp[hsz]
    have key3:v.cells.zipIdx.foldl (fun cs x=>match x with|(c,j)=>cs.setIfInBounds (off+j) c) cs.toArray=(cs.take off++(v.cells.toList++cs.drop (off+sz))).toArray:=key2;rw[key3];exact gi pls r _ out h
  ·cases h
section
variable [bB] {P:Program} {n:Nat} {env:aI} {S:World→Prop} {o:Oper}
theorem EJ{t:Nat}{ps:List (Nat×Operand)}{vs zs cells:List Value}{pls:List (Nat×Nat)}(ho:o.op= .build t ps.toArray)(hx:env.evs (ps.map (·.2))=some vs)(hz:zeroCells P t=some zs)(hp:m9 P t=some pls)
  (hf:lT pls zs ((ps.map (·.1)).zip vs)=some cells):ci P n env S o (.agg cells.toArray):=fun a r w _=>by
 have e:(ps.toArray.map fun(i,x)=>(i,a.eval x)).toList=(ps.map (·.1)).zip vs:=by
  rw[←r.evals hx];simp only[List.map_toArray,List.map_map];clear ho hx hf;induction ps with
  |nil=>rfl
  |cons p ps ih=>obtain⟨i,x⟩:=p;simpa using ih
 unfold m9 at hp;split at hp
 ·rename_i fields hu;unfold zeroCells at hz;cases hq:P.info? t with
  |none=>simp[hq]at hz
  |some it=>
   cases hzz:it.zero with
   |none=>simp[hq,hzz]at hz
   |some z=>
    have hz':z.cells=zs.toArray:=by simp[hq,hzz]at hz;rw[←hz]
    have hb:P.built t ((ps.map (·.1)).zip vs)=some cells.toArray:=by
     unfold Program.built;simp only[hq,hu,hzz,hp,hz'];exact gi pls _ zs cells hf
    have:=run_build (P:=P) w t (ps.toArray.map fun(i,x)=>(i,a.eval x)) cells.toArray (by rw[e];exact hb);unfold execOp;simp only[ho];simp only[Sem.run_bind,this,Result.andThen_ok];rfl
 ·cases hp
theorem EK{t f ft off:Nat}{x:Operand}{us:List Value}{v:Value}(ho:o.op= .field t x f)(hx:env.ev x=some (.agg us.toArray))(hf:eP P t f=some off)(hft:(match P.underlying t with|some (.struct fs)=>(fs[f]?).map (·.type)|_=>none)=some ft)(hp:dG P ft=true)(hv:us[off]? =some v):ci P n env S o v:=fun a r w _=>by
 unfold eP at hf;split at hf<;>try (cases hf;done)
 rename_i fs hu;simp only[hu]at hft;split at hf<;>try (cases hf;done)
 rename_i fd hfd;simp only[hfd,Option.map_some,Option.some.injEq]at hft;split at hf<;>try (cases hf;done)
 rename_i i hi;split at hf
 ·cases hf
 ·injection hf with hf;subst hf;subst hft;have hA:(isAgg fd.type).run P w= .ok false w:=by
   unfold dG at hp;cases hu':P.underlying fd.type with
   |none=>simp[hu']at hp
   |some d=>
    unfold isAgg;simp only[Sem.run_bind,run_underlying hu',Result.andThen_ok];cases d<;>simp[hu']at hp<;>rfl
  unfold execOp;simp[ho,r.eval hx,Instr.field,run_underlying hu,hfd,asAgg,part,hA,hv]
end
end Go.Proofs.YtmpeiadlohbikaaGreatDoor
end

section
namespace Go.Proofs.YtmpeiadlohbikaaGreatDoor
open Go.RowKit
theorem dN{P:Program}{o:Oper}{v:Value}{b:Builtin}{x y:Operand}{t t':Nat}{u u':Value}{a:Act}{w w':World}(ho:o.op= .call {callee:= .builtin b,args:= #[x,y],argTypes:= #[t,t']})(hx:a.eval x=u)(hy:a.eval y=u')
  (h: ∀cs,(builtin b #[t,t'] o.type cs #[u,u']).run P w= .ok (.value v) w'):(execOp a.eval o).run P w= .ok (.value v) w':=by
 unfold execOp;simp only[ho,resolve,List.map_toArray,List.map_cons,List.map_nil,hx,hy,Sem.run_bind,Sem.run_pure,Result.andThen_ok,invoke,h]
theorem lH{P:Program}{w:World}{g k:Nat}{vs:List Value}(h:w.rangeAt g k vs):(loadCells ⟨g,k,none⟩ vs.length).run P w= .ok vs.toArray w:=
 run_loadCells_list w _ vs fun j v hj=>by rw[Addr.add_mid];exact h j v hj
section
variable [bB] {P:Program} {n:Nat} {env:aI} {w:World} {o:Oper} {K:aI→World→Prop} {H:bZ}
theorem wf{t t' e m g b dl dc g2 b2 sl sc i ty k:Nat}{x y:Operand}{cs vs:List Value}(ho:o.op= .call {callee:= .builtin .copy,args:= #[x,y],argTypes:= #[t,t']}){d:Nat}(hd:o.dst=some d)(hn:Nat.blt d n=true)
  (hx:env.ev x=some (.slice (some ⟨g,b,none⟩) dl dc)) (hy:env.ev y=some (.slice (some ⟨g2,b2,none⟩) sl sc)) (ht:aq P t=some (e,m)) (hk:Nat.min sl dl=k)
  (hvs:w.rangeAt g2 b2 vs) (hl:vs.length=k*m) (h1: ∀v∈vs,v.oneCell'=true) (h:Hp w H) (hi:H[i]? =some (some g,Cl cs ty)) (hfit:b+vs.length≤cs.length)
  (hK: ∀w',Hp w' (H.set i (some g,Cl (cs.take b++vs++cs.drop (b+vs.length)) ty))→Fr [g] w w'→w'.heap.size=w.heap.size→K ((d,(.int .i64 k))::env) w'):bH P n env w o K:=by
 obtain⟨hu,hs⟩:=bq ht;have hg:=h.at hi;have hst:=run_storeCells_at P g b ty vs 0 cs.toArray w hg (by simpa using hfit) h1;simp only[Nat.add_zero]at hst;have hld:=lH (P:=P) hvs;rw[hl]at hld;refine fI hd hn (v:= .int .i64 k) (w':=w.setRow g (cs.take b++vs++cs.drop (b+vs.length)).toArray) (fun a r=>?_) (hK _ (h.setAt hi (Fr.setRow w g _) (setRow_heap w g _ _ ty (0,0) hg)) (Fr.setRow w g _) (by simp));refine dN ho (r.eval hx) (r.eval hy) fun c=>?_;have hc:(Builtin.copy_ #[t,t'] o.type #[.slice (some ⟨g,b,none⟩) dl dc,.slice (some ⟨g2,b2,none⟩) sl sc]).run P w= .ok (goInt k) (w.setRow g (cs.take b++vs++cs.drop (b+vs.length)).toArray):=by
  simp[Builtin.copy_,run_underlying hu,Builtin.lenOf,Builtin.firstCells,bX hs,hk,hld];simp at hst;rw[hst];simp
 simp only[builtin,Sem.run_bind,hc,Result.andThen_ok];rfl
omit [bB]in
theorem na (z : List Value) (c m : Nat) (hz : z.length = m) : madeCells z.toArray (c * m) = ((List.replicate c z).flatten).toArray := by
  apply Array.ext'
  unfold madeCells
  simp only [Array.toList_map, Array.toList_range, List.size_toArray]
  apply List.ext_getElem?
  intro j
  have hL : (List.replicate c z).flatten.length = c * m := by simp [hz]
  rcases Nat.lt_or_ge j (c * m) with hj | hj
  · have hm : 0 < m := by rcases Nat.eq_zero_or_pos m with h | h; · subst h; omega
                          · exact h
    rw [List.getElem?_map, List.getElem?_range hj]
    have key : ∀ (c j : Nat), j < c * m → (List.replicate c z).flatten[j]? = z[j % m]? := by
      intro c
      induction c with
      | zero => intro j hj; omega
      | succ c ih =>
        intro j hj
        rw [List.replicate_succ, List.flatten_cons]
        rcases Nat.lt_or_ge j m with h | h
        · rw [List.getElem?_append_left (by omega), Nat.mod_eq_of_lt h]
        · rw [List.getElem?_append_right (by omega), hz, ih (j - m) (by rw [Nat.succ_mul] at hj; omega)]
          congr 1
          rw [Nat.mod_eq_sub_mod h]
    rw [key c j hj, hz]
    have hlt : j % m < z.length := by rw [hz]; exact Nat.mod_lt _ hm
    simp [hlt]
  · rw [List.getElem?_eq_none (by simp; omega), List.getElem?_eq_none (by omega)]
theorem Jf{t e m l c by':Nat}{x y:Operand}{kl kc:IntKind}{z:List Value}(ho:o.op= .makeSlice t x y){d:Nat}(hd:o.dst=some d)(hn:Nat.blt d n=true)(hx:env.ev x=some (.int kl (l:Int)))(hy:env.ev y=some (.int kc (c:Int)))
  (ht:aq P t=some (e,m)) (hz:zeroCells P e=some z) (hzl:z.length=m) (hby:(P.info? e).map (·.bytes)=some by') (hlc:l≤c) (hbytes:by'*c≤281474976710656) (h63:c≤9223372036854775807) (h:Hp w H)
  (hK: ∀g w',Hp w' (H++ [(some g,Cl (List.replicate c z).flatten e)])→Fr [] w w'→w.heap.size≤g→K ((d,(.slice (some ⟨g,0,none⟩) l c))::env) w'):bH P n env w o K:=by
 obtain⟨hu,hs⟩:=bq ht;unfold zeroCells at hz;cases hq:P.info? e with
 |none=>simp[hq]at hz
 |some inf=>
  cases hzz:inf.zero with
  |none=>simp[hq,hzz]at hz
  |some zv=>
   have hz':zv.cells=z.toArray:=by simp[hq,hzz]at hz;rw[←hz]
   have hm:inf.size=m:=by simpa[hq]using hs
   have hb:inf.bytes=by':=by simpa[hq]using hby
   have hbi:(inf.bytes:Int)*(c:Int)≤281474976710656:=by
    rw[hb,←Int.natCast_mul];omega
   have hr:=run_make (P:=P) w t e inf zv hu hq hzz kl kc l c (by omega) (by omega) hbi (by omega);simp only[Int.toNat_natCast,hm,hz',na z c m hzl]at hr;refine fI hd hn (v:= .slice (some ⟨w.heap.size,0,none⟩) l c) (w':=w.alloc (.cells (List.replicate c z).flatten.toArray e)) (fun a r=>?_) (hK _ _ (h.alloc _) (Fr.alloc w _) (Nat.le_refl _));unfold execOp;simp only[ho,r.eval hx,r.eval hy,Sem.run_bind,hr,Result.andThen_ok];rfl
end
theorem p8 (f g : Nat → Option (Nat × Nat)) : ∀ (parts : List (Nat × Value)) (cs : Array Value), (∀ p ∈ parts, f p.1 = g p.1) → Instr.fill f cs parts = Instr.fill g cs parts
  | [], _, _ => rfl
  | (i, v) :: r, cs, h => by
    unfold Instr.fill
    have h0 : f i = g i := h (i, v) (by simp)
    rw [h0]
    cases g i with
    | none => rfl
    | some p => simp only; split
                · rfl
                · exact p8 f g r _ fun p hp => h p (by simp [hp])
theorem tc{P:Program}{w:World}{t e len m:Nat}(pp:Array (Nat×Value))(hu:P.underlying t=some (.slice e))(hs:(P.info? e).map (·.size)=some m)(hbig:len*m≤2^24)(z0:Value)(hz:(zeroValue e).run P w= .ok z0 w)(cells:Array Value)
  (hf:Instr.fill (fun i=>some (i*m,m)) ((Array.range (len*m)).map ((if len*m=0 then(#[]:Array Value)else z0.cells)[· %(if len*m=0 then(#[]:Array Value)else z0.cells).size]!)) pp.toList=some cells):
  (Instr.buildSlice t len pp).run P w= .ok (.slice (some ⟨w.heap.size,0,none⟩) len len) (w.alloc (.cells cells e)):=by
 unfold Instr.buildSlice;simp only[Sem.run_bind,run_underlying hu,Result.andThen_ok,bX hs];rw[if_neg (by omega)];by_cases h0:len*m=0
 ·simp only[h0,if_true]at hf⊢;simp only[Sem.run_bind,Sem.run_pure,Result.andThen_ok];rw[hf];simp[newRow]
 ·simp only[h0,if_false]at hf⊢;simp only[Sem.run_bind,hz,Sem.run_pure,Result.andThen_ok];rw[hf];simp[newRow]
section
variable [bB] {P:Program} {n:Nat} {env:aI} {w:World} {o:Oper} {K:aI→World→Prop} {H:bZ}
theorem Jg{t e m:Nat}{z:List Value}{d:Nat}(ho:o.op= .buildSlice t 0 #[])(hd:o.dst=some d)(hn:Nat.blt d n=true)(ht:aq P t=some (e,m))(hz:zeroCells P e=some z)(h:Hp w H)
  (hK: ∀g w',Hp w' (H++ [(some g,Cl [] e)])→Fr [] w w'→w.heap.size≤g→K ((d,.slice (some ⟨g,0,none⟩) 0 0)::env) w'):bH P n env w o K:=by
 obtain⟨hu,hs⟩:=bq ht;unfold zeroCells at hz;cases hq:P.info? e with
 |none=>simp[hq]at hz
 |some inf=>
  cases hzz:inf.zero with
  |none=>simp[hq,hzz]at hz
  |some z0=>
   refine fI hd hn (v:= .slice (some ⟨w.heap.size,0,none⟩) 0 0) (w':=w.alloc (.cells #[] e)) (fun a r=>?_) (hK _ _ (h.alloc _) (Fr.alloc w _) (Nat.le_refl _));have hrun:=tc (P:=P) (w:=w) (len:=0) (#[]:Array (Nat×Value)) hu hs (by omega) z0 (by simp[zeroValue,typeInfo,hq,hzz]) #[] (by simp[Instr.fill]);unfold execOp;simp only[ho,List.map_toArray,List.map_nil,Sem.run_bind,hrun,Result.andThen_ok];rfl
end
section
variable [bB] {P:Program} {n:Nat} {env:aI} {S:World→Prop} {o:Oper}
end
def Ow(A:Option Addr)(l c m:Nat)(xs sp:List Value):Prop:=
 xs.length=l*m∧((A=none∧l=0∧c=0∧sp= [])∨(∃g,A=some ⟨g,0,none⟩∧(xs++sp).length=c*m∧l≤c∧c≤maxLen))
def ab(A:Option Addr):Option Nat:=A.map (·.block)
theorem Ow.nil(m:Nat):Ow none 0 0 m [] []:=⟨by simp,.inl ⟨rfl,rfl,rfl,rfl⟩⟩
theorem Ow.some_{A:Option Addr}{l c m:Nat}{xs sp:List Value}(h:Ow A l c m xs sp)(hl:0<l): ∃g,A=some ⟨g,0,none⟩:=by
 rcases h.2 with⟨_,h0,_⟩|⟨g,h1,_⟩
 ·omega
 ·exact⟨g,h1⟩
theorem Ow.own{w:World}{H:bZ}{A:Option Addr}{l c m i e:Nat}{xs sp:List Value}(h:Hp w H)(hi:H[i]? =some (ab A,Cl (xs++sp) e))(ho:Ow A l c m xs sp):w.ownsRow 0 e m (.slice A l c) l xs:=by
 obtain⟨h1,h2⟩:=ho;refine⟨h1,?_⟩;rcases h2 with⟨rfl,rfl,rfl,_⟩|⟨g,rfl,h3,h4,h5⟩
 ·exact .inl ⟨rfl,rfl⟩
 ·exact .inr ⟨g,c,(xs++sp).toArray,rfl,Nat.zero_le _,h.at hi,h4,h5,by simpa using h3,by simp[←h1]⟩
theorem Jh{w:World}{g b:Nat}{news:List Value}(h:w.rangeAt g b news): ∀ad,some (⟨g,b,none⟩:Addr)=some ad→ ∀j u,news[j]? =some u→w.cell? (ad.add j)=some u:=fun ad e j u hj=>by
 injection e with e;subst e;rw[Addr.add_mid];exact h j u hj
theorem Bc{w:World}{news:List Value}: ∀ad:Addr,(none:Option Addr)=some ad→ ∀j u,news[j]? =some u→w.cell? (ad.add j)=some u:=fun _ e=>by cases e
section
variable [bB] {P:Program} {n:Nat} {env:aI} {w:World} {o:Oper} {K:aI→World→Prop} {H:bZ}
theorem kN{t ty' e m by' l c i sl sc:Nat}{x y:Operand}{A B:Option Addr}{xs sp news z:List Value}(ho:o.op= .call {callee:= .builtin .append,args:= #[x,y],argTypes:= #[t,ty']})(hty:ty'=t){d:Nat}(hd:o.dst=some d)(hn:Nat.blt d n=true)
  (hx:env.ev x=some (.slice A l c)) (hy:env.ev y=some (.slice B sl sc)) (ht:aq P t=some (e,m)) (hz:zeroCells P e=some z) (hzl:z.length=m) (hby:(P.info? e).map (·.bytes)=some by') (hm:0<m)
  (how:Ow A l c m xs sp) (h:Hp w H) (hi:H[i]? =some (ab A,Cl (xs++sp) e)) (hnl:news.length=sl*m) (hsrc: ∀ad,B=some ad→ ∀j u,news[j]? =some u→w.cell? (ad.add j)=some u) (hB:B=none→sl=0) (h1: ∀v∈news,v.oneCell'=true)
  (h63:l+sl≤maxLen) (hbytes:(l+sl)*by'≤140737488355328)
  (hK: ∀A' c' sp' w',Ow A' (l+sl) c' m (xs++news) sp'→Hp w' (H.set i (ab A',Cl ((xs++news)++sp') e))→Fr (ab A).toList w w'→(∀g,ab A'=some g→ab A=some g∨w.heap.size≤g)→K ((d,(.slice A' (l+sl) c'))::env) w'):bH P n env w o K:=by
 subst hty;obtain⟨hu,hs⟩:=bq ht;have hown:=Ow.own h hi how;unfold zeroCells at hz;cases hq:P.info? e with
 |none=>simp[hq]at hz
 |some inf=>
  cases hzz:inf.zero with
  |none=>simp[hq,hzz]at hz
  |some z0=>
   have hz':z0.cells=z.toArray:=by simp[hq,hzz]at hz;rw[←hz]
   have hms:inf.size=m:=by simpa[hq]using hs
   have hb:inf.bytes=by':=by simpa[hq]using hby
   have main: ∃v' w',(Builtin.append_ #[ty',ty'] o.type #[.slice A l c,.slice B sl sc]).run P w= .ok v' w'∧w'.ownsRow 0 e m v' (l+sl) (xs++news)∧w.grownBy w' (Value.slice A l c).ownBlock∧
     (v'.ownBlock=(Value.slice A l c).ownBlock∨v'.ownBlock=some w.heap.size):=by
    cases B with
    |some ad=>
     obtain⟨v',w',hr,ho1,hgr,_,hat⟩:=run_append_own_at (P:=P) w 0 ty' o.type e inf z0 m by' hu hq hzz hms hb (by rw[hz'];simpa using hzl) hm (.slice A l c) l xs hown ad sl sc news hnl (hsrc ad rfl) h1 h63 hbytes (Nat.zero_le _);exact⟨v',w',hr,ho1,hgr,hat⟩
    |none=>
     have hsl:=hB rfl;subst hsl;have hn:news= []:=List.eq_nil_of_length_eq_zero (by simpa using hnl);subst hn;refine⟨.slice A l c,w,?_,by simpa using hown,World.grownBy.refl w _,.inl rfl⟩;rcases hown.2 with⟨hv,_⟩|⟨g,cap,cur,hv,_,_,hnc,_⟩
     ·rw[hv];simp[Builtin.append_,run_underlying hu,sizeOf,typeInfo,hq,Builtin.lenOf,Builtin.firstCells]
     ·rw[hv];simp[Builtin.append_,run_underlying hu,sizeOf,typeInfo,hq,Builtin.lenOf,Builtin.firstCells,hnc,storeCells]
   obtain⟨v',w',hrun,hown',hgr,hat⟩:=main;have hform: ∃A' c' sp',v'= .slice A' (l+sl) c'∧Ow A' (l+sl) c' m (xs++news) sp'∧(∀g,ab A'=some g→w'.heap[g]? =some (Cl ((xs++news)++sp') e))∧ab A'=v'.ownBlock:=by
    obtain⟨h2,h3⟩:=hown';rcases h3 with⟨rfl,hl0⟩|⟨g,cap,cur,rfl,_,hg,hnc,hcm,hsz,htk⟩
    ·have hxe:xs++news= []:=List.eq_nil_of_length_eq_zero (by rw[h2,hl0];simp);exact⟨none,0,[],by rw[hl0],⟨h2,.inl ⟨rfl,hl0,rfl,rfl⟩⟩,fun g e=>by simp[ab]at e,rfl⟩
    ·refine⟨some ⟨g,0,none⟩,cap,cur.toList.drop ((l+sl)*m),rfl,⟨h2,.inr ⟨g,rfl,?_,hnc,hcm⟩⟩,fun g' e'=>?_,rfl⟩
     ·rw[←htk,List.take_append_drop];simpa using hsz
     ·simp[ab]at e';subst e';rw[←htk,List.take_append_drop];simpa using hg
   obtain⟨A',c',sp',rfl,how',hblk,hob⟩:=hform;have hob0:(Value.slice A l c).ownBlock=ab A:=by cases A<;>rfl
   have hob1:(Value.slice A' (l+sl) c').ownBlock=ab A':=by cases A'<;>rfl
   have hfr:Fr (ab A).toList w w':=⟨hgr.os,hgr.tape,hgr.output,hgr.size,fun k hk hn=>hgr.block k hk (by
    rw[hob0];intro e2;exact hn (by rw[←e2];simp)),yQ _ _ _ _ hrun⟩
   have hnew: ∀g,ab A'=some g→ab A=some g∨w.heap.size≤g:=fun g' hg'=>by
    rw[hob1,hob0]at hat;rcases hat with e1|e1
    ·exact .inl (by rw[←e1];exact hg')
    ·rw[hg']at e1;injection e1 with e1;exact .inr (by omega)
   refine fI hd hn (v:= .slice A' (l+sl) c') (w':=w') (fun a r=>?_) (hK A' c' sp' w' how' (h.setAny hi (fun x hx=>by simpa using hx) hfr fun g' hg'=>⟨hblk g' hg',hnew g' hg'⟩) hfr hnew);refine dN ho (r.eval hx) (r.eval hy) fun cs=>?_;simp only[builtin,Sem.run_bind,hrun,Result.andThen_ok];rfl
end
end Go.Proofs.YtmpeiadlohbikaaGreatDoor
end

section
namespace Go.Proofs.YtmpeiadlohbikaaGreatDoor
open Go.RowKit
theorem bY{p:Int}(h: -9223372036854775808≤p∧p≤9223372036854775807):IntKind.i64.wrap p=p:=by rw[IntKind.wrap_i64];omega
section
variable [bB] {P:Program} {n:Nat} {Q:EQ} {env:aI} {w:World} {ops:Array Oper}
omit [bB]in
theorem uJ{env:aI}{s:Nat}{u:Value}(hs:env.get s=some u): ∀k v,aI.get ((s,u)::env) k=some v→env.get k=some v:=fun k v h=>by
 unfold aI.get at h;by_cases e:s=k
 ·subst e;simp at h;rw[hs,h]
 ·rw[cu e]at h;exact h
theorem EL{l:List Oper}{b:Bool}(s:Nat)(hs:env.get s=some (.bool b))(h1:b=true→Ls P n ops Q l ((s,.bool true)::env) w)(h2:b=false→Ls P n ops Q l ((s,.bool false)::env) w):Ls P n ops Q l env w:=fun hnd a r=>by
 cases b
 ·exact h2 rfl hnd a ⟨r.size,r.defers,fun k v hk=>r.get k v (uJ hs k v hk)⟩
 ·exact h1 rfl hnd a ⟨r.size,r.defers,fun k v hk=>r.get k v (uJ hs k v hk)⟩
theorem Bd{c:Code}(e':aI)(hl: ∀k v,e'.get k=some v→env.get k=some v)(h:Wp P n c Q e' w):Wp P n c Q env w:=fun a r=>h a ⟨r.size,r.defers,fun k v hk=>r.get k v (hl k v hk)⟩
def QW(P:Program)(n:Nat)(c:Code)(Q:EQ)(N:Nat)(env:aI)(w:World):Prop:= ∀a,g7 n env a→Code.roundsIn (Fw bB.ro) 0 P c (Lf n Q) N a w
theorem rA{c:Code}(N:Nat)(h:QW P n c Q N env w):Wp P n (.loop c) Q env w:=fun a r=>wpIn_loop_rounds N (h a r)
theorem jr{c:Code}{N:Nat}(h:Wp P n c (Th (QW P n c Q N) Q) env w):QW P n c Q (N+1) env w:=fun a r=>by
 rw[roundsIn_succ];refine Code.wpIn_mono (fun e a' w' hq=>?_) (h a r);obtain⟨env',r',q⟩:=hq;cases e with
 |normal=>exact q a' r'
 |_=>exact⟨env',r',q⟩
theorem uK{c:Code}(I:Nat→aI→World→Prop)(m0:Nat)(e0:aI)(hle:aI.Le e0 env)(h0:I m0 e0 w)
  (h: ∀m e w,I m e w→Wp P n c (Th (fun env' w'=> ∃m' e',m'<m∧aI.Le e' env'∧I m' e' w') Q) e w):Wp P n (.loop c) Q env w:=
 xN e0 hle (xO (fun m e w=> ∃e':aI,(∀k v,e'.get k=some v→e.get k=some v)∧I m e' w) m0 ⟨e0,fun _ _ h=>h,h0⟩ fun m e w ⟨e',hl,hi⟩=>
  Bd e' hl (g8 (h m e' w hi) fun x v u hq=>by
   cases x<;>first|exact hq|(obtain⟨m',e2,h1,h2,h3⟩:=hq;exact⟨m',h1,e2,fun k v hk=>h2.get k v hk,h3⟩)))
end
section
variable [bB] {P:Program} {n:Nat} {env:aI} {S:World→Prop} {o:Oper}
theorem Ji{x y:Operand}{t u:Nat}{k:IntKind}{p q c:Int}(ho:o.op= .binOp .quo t x y u)(hx:env.ev x=some (.int k p))(hy:env.ev y=some (.int k q))(hp:0≤p)(h0:0<q)(hw:k.wrap (p/q)=c):ci P n env S o (.int k c):=
 Mi ho hx hy (by omega) (by rw[Int.tdiv_eq_ediv_of_nonneg hp];exact hw)
theorem Jj{x y:Operand}{t u:Nat}{k:IntKind}{p q:Int}(ho:o.op= .binOp .rem t x y u)(hx:env.ev x=some (.int k p))(hy:env.ev y=some (.int k q))(hp:0≤p)(h0:0<q):ci P n env S o (.int k (p%q)):=
 Mj ho hx hy (by omega) (Int.tmod_eq_emod_of_nonneg hp)
end
section
variable {Q:EQ} {K:aI→World→Prop} {env:aI} {w:World}
theorem cz(h:K env w):Th K Q .normal env w:=h
theorem jN(h:Q .ret env w):Th K Q .ret env w:=h
theorem jt{i:Nat}(h:Q (.exit i) env w):Th K Q (.exit i) env w:=h
theorem lJ{id:Nat}(h:Q .normal env w):Ib id Q .normal env w:=h
theorem uL{id:Nat}(h:Q .ret env w):Ib id Q .ret env w:=h
theorem iy{id:Nat}(h:Q .normal env w):Ib id Q (.exit id) env w:=by simpa[Ib]using h
theorem EM{i id:Nat}(hb:Nat.beq i id=false)(h:Q (.exit i) env w):Ib id Q (.exit i) env w:=by simpa[Ib,hb]using h
end
theorem QX [bB]{n:Nat}{env:aI}{ops:Array Oper}{o:Oper}{j s:Nat}{b:Bool}(hg:o.guard=some (j,b))(hj:(ops[j]?).bind (·.dst)=some s)(hs:env.get s=some undef):lU n env ops o false:=fun a r=>by
 have:=r.get s _ hs;simp[Region.wanted,hg,yielded,hj,this,undef]
def Rv(P:Program)(env:aI)(w:World):ResultVar→Value→Prop
 | .tmp t,v=>env.get t=some v
 | .cell p ty,v=> ∃ad,env.get p=some (.pointer (some ad))∧(loadVar ty ad).run P w= .ok v w
section
variable [bB] {P:Program} {n:Nat} {env:aI} {w:World} {fn:Func}
theorem LO{r:ResultVar}{v:Value}(h:fn.results= #[r])(hr:Rv P env w r v):wk P n fn env w v:=fun a ra=>by
 cases r with
 |tmp p=>
  have e0:=ra.get p _ hr;simp[results,h,e0]
 |cell p ty=>
  obtain⟨ad,f0,g0⟩:=hr;have e0:=ra.get p _ f0;simp[results,h,e0,g0,asAddr]
theorem LP{r s:ResultVar}{v u:Value}(h:fn.results= #[r,s])(hr:Rv P env w r v)(hs:Rv P env w s u):wk P n fn env w (.tuple #[v,u]):=fun a ra=>by
 cases r with
 |tmp p=>
  have e0:=ra.get p _ hr;cases s with
  |tmp p=>
   have e1:=ra.get p _ hs;simp[results,h,e0,e1]
  |cell p ty=>
   obtain⟨ad,f1,g1⟩:=hs;have e1:=ra.get p _ f1;simp[results,h,e0,e1,g1,asAddr]
 |cell p ty=>
  obtain⟨ad,f0,g0⟩:=hr;have e0:=ra.get p _ f0;cases s with
  |tmp p=>
   have e1:=ra.get p _ hs;simp[results,h,e0,g0,asAddr,e1]
  |cell p ty=>
   obtain⟨ad,f1,g1⟩:=hs;have e1:=ra.get p _ f1;simp[results,h,e0,g0,e1,g1,asAddr]
theorem LQ{r s t:ResultVar}{v u x:Value}(h:fn.results= #[r,s,t])(hr:Rv P env w r v)(hs:Rv P env w s u)(ht:Rv P env w t x):wk P n fn env w (.tuple #[v,u,x]):=fun a ra=>by
 cases r with
 |tmp p=>
  have e0:=ra.get p _ hr;cases s with
  |tmp p=>
   have e1:=ra.get p _ hs;cases t with
   |tmp p=>
    have e2:=ra.get p _ ht;simp[results,h,e0,e1,e2]
   |cell p ty=>
    obtain⟨ad,f2,g2⟩:=ht;have e2:=ra.get p _ f2;simp[results,h,e0,e1,e2,g2,asAddr]
  |cell p ty=>
   obtain⟨ad,f1,g1⟩:=hs;have e1:=ra.get p _ f1;cases t with
   |tmp p=>
    have e2:=ra.get p _ ht;simp[results,h,e0,e1,g1,asAddr,e2]
   |cell p ty=>
    obtain⟨ad,f2,g2⟩:=ht;have e2:=ra.get p _ f2;simp[results,h,e0,e1,g1,e2,g2,asAddr]
 |cell p ty=>
  obtain⟨ad,f0,g0⟩:=hr;have e0:=ra.get p _ f0;cases s with
  |tmp p=>
   have e1:=ra.get p _ hs;cases t with
   |tmp p=>
    have e2:=ra.get p _ ht;simp[results,h,e0,g0,asAddr,e1,e2]
   |cell p ty=>
    obtain⟨ad,f2,g2⟩:=ht;have e2:=ra.get p _ f2;simp[results,h,e0,g0,e1,e2,g2,asAddr]
  |cell p ty=>
   obtain⟨ad,f1,g1⟩:=hs;have e1:=ra.get p _ f1;cases t with
   |tmp p=>
    have e2:=ra.get p _ ht;simp[results,h,e0,g0,e1,g1,asAddr,e2]
   |cell p ty=>
    obtain⟨ad,f2,g2⟩:=ht;have e2:=ra.get p _ f2;simp[results,h,e0,g0,e1,g1,e2,g2,asAddr]
end
section
variable [bB] {P:Program} {n:Nat} {env:aI} {S:World→Prop} {o:Oper}
theorem LR{x y:Operand}{t u:Nat}{k:IntKind}{p q:Int}(ho:o.op= .call {callee:= .builtin .max,args:= #[x,y],argTypes:= #[t,u]})(hx:env.ev x=some (.int k p))(hy:env.ev y=some (.int k q)):ci P n env S o (.int k (max p q)):=fun a r w _=>by
 refine dN ho (r.eval hx) (r.eval hy) fun c=>?_;have e:(if q>p then q else p)=max p q:=by simp only[Int.max_def];split<;>split<;>omega
 simp[builtin,Builtin.max_,Builtin.max2,←e]
end
end Go.Proofs.YtmpeiadlohbikaaGreatDoor
end

section
namespace Go.Proofs.YtmpeiadlohbikaaGreatDoor
open Go.RowKit
section
variable [bB] {P:Program} {n:Nat} {Q:EQ} {env:aI} {w:World} {ops:Array Oper} {S:World→Prop} {fuel:Nat} {listed:Array Bool}
end
end Go.Proofs.YtmpeiadlohbikaaGreatDoor
end

section
namespace Go.Proofs.YtmpeiadlohbikaaGreatDoor
open Go.RowKit
section
variable [bB] {P:Program} {n:Nat} {env:aI} {S:World→Prop} {o:Oper}
end
section
variable [bB] {P:Program} {n:Nat} {env:aI} {S:World→Prop} {o:Oper}
theorem Bg{x y:Operand}{t u e l c l' c':Nat}{A:Option Addr}(ho:o.op= .binOp .eql t x y u)(hx:env.ev x=some (.slice A l c))(hy:env.ev y=some (.slice none l' c'))(ht:P.underlying t=some (.slice e)):ci P n env S o (.bool A.isNone):=fun a ra w _=>by
 have h: ∀d:Nat,(Op.equalIn (d+1) t (.slice A l c) (.slice none l' c')).run P w= .ok A.isNone w:=fun d=>by
  unfold Op.equalIn;cases A<;>simp[run_underlying ht]
 unfold execOp;simp only[ho,ra.eval hx,ra.eval hy,eqGuard,binOp];simp[Op.equal,Op.maxDepth,h 9999]
theorem Jl{x y:Operand}{t u e:Nat}{A:Option Addr}(ho:o.op= .binOp .eql t x y u)(hx:env.ev x=some (.pointer A))(hy:env.ev y=some (.pointer none))(ht:P.underlying t=some (.pointer e)):ci P n env S o (.bool A.isNone):=fun a ra w _=>by
 have h: ∀d:Nat,(Op.equalIn (d+1) t (.pointer A) (.pointer none)).run P w= .ok A.isNone w:=fun d=>by
  unfold Op.equalIn;cases A<;>simp[run_underlying ht]
 unfold execOp;simp only[ho,ra.eval hx,ra.eval hy,eqGuard,binOp];simp[Op.equal,Op.maxDepth,h 9999]
theorem zL{x y:Operand}{t u e:Nat}{A:Option Addr}(ho:o.op= .binOp .neq t x y u)(hx:env.ev x=some (.pointer A))(hy:env.ev y=some (.pointer none))(ht:P.underlying t=some (.pointer e)):ci P n env S o (.bool A.isSome):=fun a ra w _=>by
 have h: ∀d:Nat,(Op.equalIn (d+1) t (.pointer A) (.pointer none)).run P w= .ok A.isNone w:=fun d=>by
  unfold Op.equalIn;cases A<;>simp[run_underlying ht]
 unfold execOp;simp only[ho,ra.eval hx,ra.eval hy,eqGuard,binOp];simp[Op.equal,Op.maxDepth,h 9999]
end
structure Ky(w w':World)(H1:bZ):Prop where
 fr:Fr [] w w'
 hp:Hp w' H1
 nw: ∀k∈aQ H1,w.heap.size≤k
structure UP(w w':World)(Hx H1:bZ):Prop where
 fr:Fr (aQ Hx) w w'
 hp:Hp w' H1
 nw: ∀k∈aQ H1,k∈aQ Hx∨w.heap.size≤k
theorem Hp.add{w w':World}{H H1:bZ}(h:Hp w H)(m:Ky w w' H1):Hp w' (H++H1):=
 Hp.after (Hx:= []) (X:= []) (by simpa using h) (by simp) m.fr m.hp fun k hk=> .inr (m.nw k hk)
theorem jO(H:bZ): ∀(a b:List Nat),cx H (a++b)=cx H a++cx H b
 | [],b=>rfl
 |i::a,b=>by
  simp only[List.cons_append,cx,jO H a b];cases H[i]? <;>rfl
theorem Hp.call{w w':World}{H H1 Hx:bZ}(h:Hp w H)(others idx:List Nat)(hn:(others++idx).Nodup)(hx:cx H idx=Hx)(m:UP w w' Hx H1):Hp w' (cx H others++H1):=by
 have h1:=h.pk (others++idx) hn;rw[jO,hx]at h1;exact Hp.after h1 (fun _ h=>h) m.fr m.hp m.nw
theorem Hp.addNone{w:World}{H:bZ}(h:Hp w H)(o:Obj):Hp w (H++ [(none,o)]):=Hp.after (Hx:= []) (X:= []) (by simpa using h) (by simp) (Fr.refl _ _) (⟨fun i g o' hi=>by
  match i,hi with
  |0,hi=>simp at hi
  |i+1,hi=>simp at hi,fun i j g o' o'' hi=>by
  match i,hi with
  |0,hi=>simp at hi
  |i+1,hi=>simp at hi⟩:Hp w [(none,o)]) (by simp[aQ])
theorem Ky.refl(w:World):Ky w w []:=⟨Fr.refl _ _,Hp.nil w,by simp[aQ]⟩
theorem Ky.drew{w w':World}{H1:bZ}(h:Ky w w' H1):Ky w w'.drew H1:=⟨h.fr.step0 (Fr.drew _),h.hp.drew,h.nw⟩
end Go.Proofs.YtmpeiadlohbikaaGreatDoor
end

section
namespace Go.Proofs.YtmpeiadlohbikaaGreatDoor
section
variable [bB] {P:Program} {n:Nat} {env:aI} {w:World} {o:Oper} {K:aI→World→Prop} {H:bZ}
theorem uH{t ty' e m l c i sl sc g b ty:Nat}{x y:Operand}{ad:Addr}{cs news:List Value}(ho:o.op= .call {callee:= .builtin .append,args:= #[x,y],argTypes:= #[t,ty']})(hty:ty'=t){d:Nat}(hd:o.dst=some d)(hn:Nat.blt d n=true)
  (hx:env.ev x=some (.slice (some ⟨g,b,none⟩) l c)) (hy:env.ev y=some (.slice (some ad) sl sc)) (ht:aq P t=some (e,m))
  (h:Hp w H) (hi:H[i]? =some (some g,Cl cs ty)) (hnl:news.length=sl*m) (hsrc: ∀j u,news[j]? =some u→w.cell? (ad.add j)=some u) (h1: ∀v∈news,v.oneCell'=true)
  (hroom:l+sl≤c) (hfit:b+l*m+news.length≤cs.length)
  (hK: ∀w',Hp w' (H.set i (some g,Cl (cs.take (b+l*m)++news++cs.drop (b+l*m+news.length)) ty))→Fr [g] w w'→K ((d,(.slice (some ⟨g,b,none⟩) (l+sl) c))::env) w'):bH P n env w o K:=by
 subst hty;obtain⟨hu,hs⟩:=bq ht;have hg:=h.at hi;have hst:=run_storeCells_at P g (b+l*m) ty news 0 cs.toArray w hg (by simpa using hfit) h1;simp only[Nat.add_zero]at hst;have hfc:=run_firstCells_some (P:=P) w m sl ad sl sc news hnl hsrc;refine fI hd hn (v:= .slice (some ⟨g,b,none⟩) (l+sl) c) (w':=w.setRow g (cs.take (b+l*m)++news++cs.drop (b+l*m+news.length)).toArray) (fun a r=>?_) (hK _ (h.setAt hi (Fr.setRow w g _) (setRow_heap w g _ _ ty (0,0) hg)) (Fr.setRow w g _));refine dN ho (r.eval hx) (r.eval hy) fun q=>?_;have hc:(Builtin.append_ #[ty',ty'] o.type #[.slice (some ⟨g,b,none⟩) l c,.slice (some ad) sl sc]).run P w= .ok (.slice (some ⟨g,b,none⟩) (l+sl) c) (w.setRow g (cs.take (b+l*m)++news++cs.drop (b+l*m+news.length)).toArray):=by
  simp at hst;simp[Builtin.append_,run_underlying hu,bX hs,Builtin.lenOf,hfc,hroom,Addr.add_mid,hst]
 simp only[builtin,Sem.run_bind,hc,Result.andThen_ok];rfl
omit [bB]in
theorem qQ(z:List Value)(k:Nat):(Builtin.zeroCells z.toArray k).toList=(List.replicate k z).flatten:=by
 unfold Builtin.zeroCells;rw[Array.toList_map,Array.toList_range];induction k with
 |zero=>simp
 |succ k ih=>
  rw[List.replicate_succ',List.flatten_append,←ih,List.flatten_cons,List.flatten_nil,List.append_nil];simp only[List.size_toArray,Nat.add_mul,Nat.one_mul,List.range_add,List.map_append,List.map_map];congr 1;apply List.ext_getElem
  ·simp
  ·intro j h1 h2;have hj:j<z.length:=by simpa using h2
   have hm:(k*z.length+j)%z.length=j:=by rw[Nat.add_comm,Nat.add_mul_mod_self_right,Nat.mod_eq_of_lt hj]
   simp[hm,hj]
theorem sY{v:Value}{w':World}(hd:o.dst=none)(hr: ∀a,g7 n env a→(execOp a.eval o).run P w= .ok (.value v) w')(hk:K env w'):bH P n env w o K:=fun a r=>by
 unfold Oper.wp;simp only[hr a r,Oper.upon];exact⟨env,by rw[hd];exact r,hk⟩
theorem xG{t e m l c i g b ty:Nat}{x:Operand}{cs z:List Value}(ho:o.op= .call {callee:= .builtin .clear,args:= #[x],argTypes:= #[t]})(hd:o.dst=none)
  (hx:env.ev x=some (.slice (some ⟨g,b,none⟩) l c)) (ht:aq P t=some (e,m)) (hz:zeroCells P e=some z) (hzl:z.length=m) (hz1: ∀v∈z,v.oneCell'=true)
  (h:Hp w H) (hi:H[i]? =some (some g,Cl cs ty)) (hfit:b+l*m≤cs.length)
  (hK: ∀w',Hp w' (H.set i (some g,Cl (cs.take b++(List.replicate l z).flatten++cs.drop (b+l*m)) ty))→Fr [g] w w'→K env w'):bH P n env w o K:=by
 obtain⟨hu,hs⟩:=bq ht;have hg:=h.at hi;cases l with
 |zero=>
  refine sY hd (v:= .tuple #[]) (w':=w) (fun a r=>?_) (hK w (h.conv hi (by simp)) (Fr.refl _ _));refine eF ho (r.eval hx) fun q=>?_;have hc:(Builtin.clear_ #[t] o.type #[.slice (some ⟨g,b,none⟩) 0 c]).run P w= .ok (.tuple #[]) w:=by simp[Builtin.clear_,run_underlying hu]
  simp only[builtin,Sem.run_bind,hc,Result.andThen_ok];rfl
 |succ l=>
 have hlen:(List.replicate (l+1) z).flatten.length=(l+1)*m:=by simp[hzl]
 have hst:=run_storeCells_at P g b ty (List.replicate (l+1) z).flatten 0 cs.toArray w hg (by rw[hlen];simpa using hfit) (fun v hv=>by
  obtain⟨r,hr,hv⟩:=List.mem_flatten.1 hv;rw[List.eq_of_mem_replicate hr]at hv;exact hz1 v hv)
 rw[hlen]at hst;simp only[Nat.add_zero]at hst;unfold Proofs.YtmpeiadlohbikaaGreatDoor.zeroCells at hz;cases hq:P.info? e with
 |none=>simp[hq]at hz
 |some inf=>
  cases hzz:inf.zero with
  |none=>simp[hq,hzz]at hz
  |some z0=>
   have hz':z0.cells=z.toArray:=by simp[hq,hzz]at hz;rw[←hz]
   refine sY hd (v:= .tuple #[]) (w':=w.setRow g (cs.take b++(List.replicate (l+1) z).flatten++cs.drop (b+(l+1)*m)).toArray) (fun a r=>?_) (hK _ (h.setAt hi (Fr.setRow w g _) (setRow_heap w g _ _ ty (0,0) hg)) (Fr.setRow w g _));refine eF ho (r.eval hx) fun q=>?_;have hc:(Builtin.clear_ #[t] o.type #[.slice (some ⟨g,b,none⟩) (l+1) c]).run P w= .ok (.tuple #[]) (w.setRow g (cs.take b++(List.replicate (l+1) z).flatten++cs.drop (b+(l+1)*m)).toArray):=by
    simp only[Builtin.clear_];simp[run_underlying hu,zeroValue,typeInfo,hq,hzz,hz',qQ,hst]
   simp only[builtin,Sem.run_bind,hc,Result.andThen_ok];rfl
end
theorem uI(b:Nat): ∀(us pre rest:List Value) (s:Nat),pre.length=b+s→rest.length=us.length→
  (us.zipIdx s).foldl (fun cs (x:Value×Nat)=>cs.setIfInBounds (b+x.2) x.1) (pre++rest).toArray=(pre++us).toArray
 | [],pre,rest,s,_,hr=>by
  obtain rfl:rest= []:=List.eq_nil_of_length_eq_zero (by simpa using hr);rfl
 |u::us,pre,[],s,_,hr=>by simp at hr
 |u::us,pre,r::rest,s,hp,hr=>by
  have ih:=uI b us (pre++ [u]) rest (s+1) (by simp;omega) (by simpa using hr);simp only[List.zipIdx_cons,List.foldl_cons];have e:(pre++r::rest).toArray.setIfInBounds (b+s) u=(pre++ [u]++rest).toArray:=by
   rw[←hp];simp
  rw[e,ih];simp
section
variable [bB] {P:Program} {n:Nat} {env:aI} {w:World} {o:Oper} {K:aI→World→Prop} {H:bZ}
theorem I9{t e m:Nat}{x:Operand}{us z:List Value}(ho:o.op= .buildSlice t 1 #[(0,x)]){d:Nat}(hd:o.dst=some d)(hn:Nat.blt d n=true)(hx:env.ev x=some (.agg us.toArray))(ht:aq P t=some (e,m))(hz:zeroCells P e=some z)(hul:us.length=m)
  (hm2:m≤1000) (h:Hp w H)
  (hK: ∀g w',Hp w' (H++ [(some g,Cl us e)])→Fr [] w w'→w.heap.size≤g→K ((d,(.slice (some ⟨g,0,none⟩) 1 1))::env) w'):bH P n env w o K:=by
 obtain⟨hu,hs⟩:=bq ht;unfold Proofs.YtmpeiadlohbikaaGreatDoor.zeroCells at hz;cases hq:P.info? e with
 |none=>simp[hq]at hz
 |some inf=>
  cases hzz:inf.zero with
  |none=>simp[hq,hzz]at hz
  |some z0=>
   refine fI hd hn (v:= .slice (some ⟨w.heap.size,0,none⟩) 1 1) (w':=w.alloc (.cells us.toArray e)) (fun a r=>?_) (hK _ _ (h.alloc _) (Fr.alloc w _) (Nat.le_refl _));have hrun:(Instr.buildSlice t 1 #[(0,Value.agg us.toArray)]).run P w= .ok (.slice (some ⟨w.heap.size,0,none⟩) 1 1) (w.alloc (.cells us.toArray e)):=by
    refine tc _ hu hs (by omega) z0 (by simp[zeroValue,typeInfo,hq,hzz]) us.toArray ?_;have key: ∀zs:Array Value,zs.size=m→Instr.fill (fun i=>some (i*m,m)) zs [(0,Value.agg us.toArray)]=some us.toArray:=fun zs hzs=>by
     simp only[Instr.fill];have hc:(Value.agg us.toArray).cells=us.toArray:=rfl;rw[hc,if_neg (by simp[hul,hzs])];have hf:=uI (0*m) us [] zs.toList 0 (by simp) (by simp[hzs,hul]);simp only[List.nil_append,Array.toArray_toList]at hf;refine congrArg some (Eq.trans ?_ hf);simp
    exact key _ (by simp)
   unfold execOp;simp only[ho,List.map_toArray,List.map_cons,List.map_nil,r.eval hx,Sem.run_bind,hrun,Result.andThen_ok];rfl
end
def p6(a:Addr)(c p m:Nat):Addr:=if c=p then a else a.add (p*m)
theorem m8{g b c p m:Nat}(h:p<c):p6 ⟨g,b,none⟩ c p m=⟨g,b+p*m,none⟩:=by
 unfold p6;rw[if_neg (by omega),Addr.add_mid]
section
variable [bB] {P:Program} {n:Nat} {env:aI} {S:World→Prop} {o:Oper}
theorem oX{t e m l c:Nat}{ad:Addr}{x:Operand}{lo hi:Option Operand}{p q:Int}(ho:o.op= .slice t x lo hi none)(hx:env.ev x=some (.slice (some ad) l c))(ht:aq P t=some (e,m))(hlo:iW env lo=some p)(hhi:iX env l hi=some q)
  (h0:0≤p) (h1:p≤q) (h2:q≤c) (hlc:l≤c):ci P n env S o (.slice (some (p6 ad c p.toNat m)) (q.toNat - p.toNat) (c - p.toNat)):=by
 have:=ml (P:=P) (n:=n) (S:=S) ho hx ht hlo hhi h0 h1 h2 hlc;have e1:(if c=p.toNat then some ad else(some ad).map (·.add (p.toNat*m)))=some (p6 ad c p.toNat m):=by unfold p6;split<;>rfl
 rw[e1]at this;exact this
theorem Ja{t e m l c:Nat}{A:Option Addr}{x lo hi mx:Operand}{p q r:Int}{kp kq kr:IntKind}(ho:o.op= .slice t x (some lo) (some hi) (some mx))(hx:env.ev x=some (.slice A l c))(ht:aq P t=some (e,m))(hlo:env.ev lo=some (.int kp p))(hhi:env.ev hi=some (.int kq q))(hmx:env.ev mx=some (.int kr r))
  (h0:0≤p) (h1:p≤q) (h2:q≤r) (h3:r≤c):ci P n env S o (.slice (if r.toNat=p.toNat then A else A.map (·.add (p.toNat*m))) (q.toNat - p.toNat) (r.toNat - p.toNat)):=fun a rp w _=>by
 obtain⟨hu,hs⟩:=bq ht;have hb:(Instr.sliceBounds true l c (some (a.eval lo)) (some (a.eval hi)) (some (a.eval mx))).run P w= .ok (p.toNat,q.toNat,r.toNat) w:=by
  have e1:0≤q∧q≤(r.toNat:Int):=by omega
  have e2:0≤p∧p≤(q.toNat:Int):=by omega
  have e3:0≤r∧r≤(c:Int):=by omega
  simp[Instr.sliceBounds,Instr.sliceBound,rp.eval hlo,rp.eval hhi,rp.eval hmx,asIntOf,e1,e2,e3];rw[if_pos (by omega),if_pos (by omega)]
 unfold execOp;simp[ho,rp.eval hx,Instr.sliceAt,Instr.slice,run_underlying hu,hb,bX hs]
end
end Go.Proofs.YtmpeiadlohbikaaGreatDoor
end

section
namespace Go.Proofs.YtmpeiadlohbikaaGreatDoor
def jK(P:Program)(md:Region.Mode)(ops:Array Oper)(Q:Exit→Act→World→Prop)(S:World→Prop)(f:Nat):Nat→Array Bool→Act→World→Prop
 |0,listed,a,w=>Region.ready md ops listed= []∧Q .normal a w
 |fuel+1,listed,a,w=>(Region.ready md ops listed= []→Q .normal a w)∧
  ∀i∈Region.ready md ops listed,wpOp P ops Q i (fun a' w'=>(i≠f→S w')∧jK P md ops Q S f fuel (listed.setIfInBounds i true) a' w') a w
def jL(md:Region.Mode)(ops:Array Oper)(listed:Array Bool):Prop:= ∀k o,ops[k]? =some o→listed.getD k false=true→ ∀e∈o.after,Region.binds md e=true→listed.getD e.on false=true
section
variable [bB] {P:Program} {ops:Array Oper} {Q:Exit→Act→World→Prop} {md:Region.Mode} {S:World→Prop} {f:Nat}
omit [bB]in
theorem iw{listed:Array Bool}{i:Nat}(h:jL md ops listed)(hi:i∈Region.ready md ops listed):jL md ops (listed.setIfInBounds i true):=fun k o ho hk e he hb=>by
 apply getD_set_true;by_cases hik:i=k
 ·subst hik;obtain⟨_,o',ho',hall⟩:=mem_ready.1 hi;rw[ho]at ho';cases ho';exact hall e he hb
 ·rw[getD_set_ne false hik]at hk;exact h k o ho hk e he hb
omit [bB]in
theorem uG(n:Nat):jL md ops (Array.replicate n false):=fun k o _ hk=>by
 exfalso;rw[Array.getD_eq_getD_getElem?]at hk;by_cases h:k<n
 ·simp[h]at hk
 ·simp[h]at hk
def sX(md:Region.Mode)(ops:Array Oper):List Nat→List Nat→Bool
 | [],_=>true
 |k::ks,m=>m.contains k&&sX md ops ks (match ops[k]? with|some o=>(o.after.toList.filter (Region.binds md)).map (·.on)++m|none=>m)
omit [bB]in
theorem p4{listed:Array Bool}(hc:jL md ops listed)(hf:f∈Region.ready md ops listed): ∀(ks m:List Nat),sX md ops ks m=true→(∀x∈m,x=f∨listed.getD x false=true)→ ∀k∈ks,k=f∨listed.getD k false=true
 | [],_,_,_,_,hk=>by cases hk
 |k::ks,m,h,hm,x,hx=>by
  simp only[sX,Bool.and_eq_true,List.contains_iff_mem]at h;have hk:=hm k h.1;rcases List.mem_cons.1 hx with rfl|hx
  ·exact hk
  refine p4 hc hf ks _ h.2 (fun y hy=>?_) x hx;cases ho:ops[k]? with
  |none=>rw[ho]at hy;exact hm y hy
  |some o=>
   rw[ho]at hy;simp only[List.mem_append,List.mem_map,List.mem_filter]at hy;rcases hy with⟨e,⟨he,hb⟩,rfl⟩|hy
   ·right;rcases hk with rfl|hk
    ·obtain⟨_,o',ho',hall⟩:=mem_ready.1 hf;rw[ho]at ho';cases ho';exact hall e (by simpa using he) hb
    ·exact hc k o ho hk e (by simpa using he) hb
   ·exact hm y hy
def EG(md:Region.Mode)(ops:Array Oper)(f:Nat):Bool:=sX md ops (List.range ops.size).reverse [f]
omit [bB]in
theorem p5: ∀(fuel:Nat) (listed:Array Bool) (a:Act) (w:World),jK P md ops Q S f fuel listed a w→wpAny P md ops Q fuel listed a w
 |0,_,_,_,h=>h
 |fuel+1,_,_,_,h=>⟨h.1,fun i hi=>wpOp_mono (fun a' w' h'=>p5 fuel _ a' w' h'.2) (h.2 i hi)⟩
end
section
variable [bB] {P:Program} {n:Nat} {Q:EQ} {env:aI} {w:World} {ops:Array Oper} {S:World→Prop} {f:Nat}
end
end Go.Proofs.YtmpeiadlohbikaaGreatDoor
end

section
namespace Go.Proofs.YtmpeiadlohbikaaGreatDoor
theorem oy{P:Program}{ops:Array Oper}{Q:Exit→Act→World→Prop}{S S':World→Prop}{f:Nat}(hS: ∀w,S' w→S w): ∀(fuel:Nat) (listed:Array Bool) (a:Act) (w:World),jK P .any ops Q S' f fuel listed a w→jK P .any ops Q S f fuel listed a w
 |0,_,_,_,h=>h
 |fuel+1,_,_,_,h=>⟨h.1,fun i hi=>wpOp_mono (fun a' w' h'=>⟨fun hf=>hS _ (h'.1 hf),oy hS fuel _ a' w' h'.2⟩) (h.2 i hi)⟩
section
variable [bB] {P:Program} {n:Nat} {Q:EQ} {env:aI} {w:World} {ops:Array Oper} {S:World→Prop} {fuel f:Nat} {listed:Array Bool}
end
end Go.Proofs.YtmpeiadlohbikaaGreatDoor
end

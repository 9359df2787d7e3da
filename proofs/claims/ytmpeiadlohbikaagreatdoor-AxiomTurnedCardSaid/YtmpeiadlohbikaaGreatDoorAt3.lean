/- The interpreter: operations and code. -/
import Derived.Test.YtmpeiadlohbikaaGreatDoorAt2
import Derived.Maps.RangeRun
import Derived.Test.YtmpeiadlohbikaaGreatDoorAt1
section
set_option linter.unusedVariables false
set_option linter.unusedSimpArgs false
namespace Go.Proofs.YtmpeiadlohbikaaGreatDoor
open Go.RowKit
theorem St.other{X Y:List Nat}{w w':World}{H:bZ}{K:List Kf}(h:St X w H K)(hf:Fr Y w w')(hY: ∀y∈Y,y∈X):St X w' H K:=
 ⟨h.hp.keep hf (fun k hk hy=>h.dj k (hY k hy) hk),fun k hk=>k.st (h.kr k hk) (hf.mono fun y hy=>List.mem_append_right _ (hY y hy)) (fun _ hy=> .inl hy),fun x hx=>Nat.lt_of_lt_of_le (h.lo x hx) hf.size,h.dj⟩
theorem Ow.cut{α:Type}{enc:α→List Value}{A:Option Addr}{c m l:Nat}{xs:List α}{sp:List Value}(hm: ∀x,(enc x).length=m)(h:Ow A l c m (xs.flatMap enc) sp)(hl:l=xs.length)(k:Nat):
  Ow A (xs.take k).length c m ((xs.take k).flatMap enc) ((xs.drop k).flatMap enc++sp):=by
 subst hl;refine⟨bc hm _,?_⟩;rcases h.2 with⟨h1,h2,h3,h4⟩|⟨g,h1,h2,h3,h4⟩
 ·have:xs= []:=List.eq_nil_of_length_eq_zero h2;subst this;exact .inl ⟨h1,by simp,h3,by simp[h4]⟩
 ·refine .inr ⟨g,h1,?_,?_,h4⟩
  ·rw[←List.append_assoc,←List.flatMap_append,List.take_append_drop];exact h2
  ·rw[List.length_take];omega
theorem lA{α:Type}{enc:α→List Value}{xs:List α}{sp:List Value}(k:Nat):xs.flatMap enc++sp=(xs.take k).flatMap enc++((xs.drop k).flatMap enc++sp):=by
 rw[←List.append_assoc,←List.flatMap_append,List.take_append_drop]
theorem xJ: ∀(x y:List UInt8),Op.bytesLess x y=decide (x<y)
 |_,[]=>by simp[Op.bytesLess]
 | [],_::_=>by simp[Op.bytesLess]
 |a::x,b::y=>by
  rw[Op.bytesLess,xJ x y];simp only[List.cons_lt_cons_iff,Bool.decide_or,Bool.decide_and];rfl
theorem Gx(x y:List UInt8):(Op.bytesLess x y||x==y)=decide (x≤y):=by
 rw[xJ];by_cases h:x<y
 ·simp[h,List.le_of_lt h]
 ·by_cases e:x=y
  ·subst e;simp
  ·have: ¬x≤y:=fun hle=>by rcases List.le_iff_lt_or_eq.mp hle with h'|h'<;>contradiction
   simp[h,e,this]
section
variable [bB] {P:Program} {n:Nat} {env:aI} {S:World→Prop} {o:Oper} {w:World} {H:bZ} {K:aI→World→Prop} {α:Type} {enc:α→List Value}
theorem oY{t e m c l:Nat}{A:Option Addr}{xs:List α}{x:Operand}{lo hi:Option Operand}{q:Int}{sp:List Value}(ho:o.op= .slice t x lo hi none)(hx:env.ev x=some (.slice A l c))(hl:l=xs.length)(ht:aq P t=some (e,m))(hlo:iW env lo=some 0)(hhi:iX env l hi=some q)
  (h1:0≤q) (h2:q≤xs.length) (how:Ow A l c m (xs.flatMap enc) sp):ci P n env S o (.slice A (xs.take q.toNat).length c):=by
 subst hl;have hlc:xs.length≤c:=by rcases how.2 with⟨_,h,h',_⟩|⟨g,_,_,h,_⟩<;>omega
 have:=ml (P:=P) (n:=n) (S:=S) ho hx ht hlo hhi (by omega) h1 (by omega) hlc;have e1:(if c=(0:Int).toNat then A else A.map (·.add ((0:Int).toNat*m)))=A:=by
  split
  ·rfl
  ·cases A with
   |none=>rfl
   |some a=>simp[Addr.add]
 rw[e1]at this;have e2:(xs.take q.toNat).length=q.toNat -(0:Int).toNat:=by rw[List.length_take];omega
 rw[e2];exact this
theorem ng{t e m c g l:Nat}{xs:List α}{x:Operand}{lo hi:Option Operand}{p:Int}{sp:List Value}(ho:o.op= .slice t x lo hi none)(hx:env.ev x=some (.slice (some ⟨g,0,none⟩) l c))(hl:l=xs.length)(ht:aq P t=some (e,m))(hlo:iW env lo=some p)(hhi:iX env l hi=some (l:Int))
  (h0:0≤p) (h1:p<xs.length) (how:Ow (some ⟨g,0,none⟩) l c m (xs.flatMap enc) sp):ci P n env S o (.slice (some ⟨g,0+p.toNat*m,none⟩) (l - p.toNat) (c - p.toNat)):=by
 subst hl;have hlc:xs.length≤c:=by rcases how.2 with⟨_,h,h',_⟩|⟨g,_,_,h,_⟩<;>omega
 have:=oX (P:=P) (n:=n) (S:=S) ho hx ht hlo hhi h0 (by omega) (by omega) hlc;rw[m8 (by omega)]at this;simpa using this
theorem qa{t e m c c' i g l:Nat}{x:Operand}{xs:List α}{sp z:List Value}{u:α}{p:Int}(ho:o.op= .call {callee:= .builtin .clear,args:= #[x],argTypes:= #[t]})(hd:o.dst=none)
  (hx:env.ev x=some (.slice (some ⟨g,0+p.toNat*m,none⟩) (l - p.toNat) c')) (hl:l=xs.length) (ht:aq P t=some (e,m)) (hz:zeroCells P e=some z) (hzu:z=enc u) (hm: ∀x,(enc x).length=m) (h1: ∀v∈enc u,v.oneCell'=true)
  (how:Ow (some ⟨g,0,none⟩) l c m (xs.flatMap enc) sp) (h0:0≤p) (hp:p≤xs.length) (h:Hp w H) (hi:H[i]? =some (ab (some ⟨g,0,none⟩),Cl (xs.flatMap enc++sp) e))
  (hK: ∀w',Ow (some ⟨g,0,none⟩) l c m ((xs.take p.toNat++List.replicate (xs.length - p.toNat) u).flatMap enc) sp→Hp w' (H.set i (ab (some ⟨g,0,none⟩),Cl ((xs.take p.toNat++List.replicate (xs.length - p.toNat) u).flatMap enc++sp) e))→Fr [g] w w'→K env w'):bH P n env w o K:=by
 subst hzu;subst hl;have hlen:=bc hm xs;have hpl:p.toNat≤xs.length:=by omega
 have hle:p.toNat*m≤xs.length*m:=Nat.mul_le_mul_right m hpl;have hs:(xs.length - p.toNat)*m=xs.length*m - p.toNat*m:=Nat.sub_mul ..;refine xG ho hd hx ht hz (hm u) h1 h hi (by rw[List.length_append,hlen];omega) fun w' hp' hf=>?_;have e1:(xs.flatMap enc++sp).take (0+p.toNat*m)++(List.replicate (xs.length - p.toNat) (enc u)).flatten++(xs.flatMap enc++sp).drop (0+p.toNat*m+(xs.length - p.toNat)*m)=(xs.take p.toNat++List.replicate (xs.length - p.toNat) u).flatMap enc++sp:=by
  rw[Nat.zero_add,List.take_append_of_le_length (by omega),lC hm,List.drop_append,List.drop_of_length_le (by omega),hlen,show p.toNat*m+(xs.length - p.toNat)*m - xs.length*m=0 by omega,List.flatMap_append,uP];simp
 rw[e1]at hp';refine hK w' ⟨?_,?_⟩ hp' hf
 ·rw[bc hm,List.length_append,List.length_take,List.length_replicate,show min p.toNat xs.length+(xs.length - p.toNat)=xs.length by omega]
 ·rcases how.2 with⟨h2,_⟩|⟨g',e2,h3,h4,h5⟩
  ·cases h2
  ·refine .inr ⟨g',e2,?_,h4,h5⟩;rw[←h3,List.length_append,List.length_append,bc hm,hlen,List.length_append,List.length_take,List.length_replicate,show min p.toNat xs.length+(xs.length - p.toNat)=xs.length by omega]
theorem LS{x y:Operand}{t u:Nat}{p q:List UInt8}(ho:o.op= .binOp .lss t x y u)(hx:env.ev x=some (sv p))(hy:env.ev y=some (sv q)):ci P n env S o (.bool (decide (p<q))):=fun a r w _=>by
 unfold execOp;simp[ho,r.eval hx,r.eval hy,eqGuard,binOp,Op.stringOp,xJ]
theorem LT{x y:Operand}{t u:Nat}{p q:List UInt8}(ho:o.op= .binOp .leq t x y u)(hx:env.ev x=some (sv p))(hy:env.ev y=some (sv q)):ci P n env S o (.bool (decide (p≤q))):=fun a r w _=>by
 unfold execOp;simp[ho,r.eval hx,r.eval hy,eqGuard,binOp,Op.stringOp,Gx]
theorem LU{x y:Operand}{t u:Nat}{p q:List UInt8}(ho:o.op= .binOp .gtr t x y u)(hx:env.ev x=some (sv p))(hy:env.ev y=some (sv q)):ci P n env S o (.bool (decide (q<p))):=fun a r w _=>by
 have e:(!decide (p≤q))=decide (q<p):=by rw[←decide_not];exact decide_eq_decide.mpr List.not_le
 unfold execOp;simp[ho,r.eval hx,r.eval hy,eqGuard,binOp,Op.stringOp,Gx,←e]
theorem LV{x y:Operand}{t u:Nat}{p q:List UInt8}(ho:o.op= .binOp .geq t x y u)(hx:env.ev x=some (sv p))(hy:env.ev y=some (sv q)):ci P n env S o (.bool (decide (q≤p))):=fun a r w _=>by
 have e:(!decide (p<q))=decide (q≤p):=by rw[←decide_not];exact decide_eq_decide.mpr List.not_lt
 unfold execOp;simp[ho,r.eval hx,r.eval hy,eqGuard,binOp,Op.stringOp,xJ,←e]
theorem LW{t l e:Nat}{x ix:Operand}{k:IntKind}{q:Int}{us:List Value}{v:Value}(ho:o.op= .index t x ix)(hx:env.ev x=some (.agg us.toArray))(hi:env.ev ix=some (.int k q))(ht:P.underlying t=some (.array l e))(hs:(P.info? e).map (·.size)=some 1)(hp:dG P e=true)(h0:0≤q)(h1:q<l)(hv:us[q.toNat]? =some v):ci P n env S o v:=fun a r w _=>by
 have hA:(isAgg e).run P w= .ok false w:=by
  unfold dG at hp;cases hu':P.underlying e with
  |none=>simp[hu']at hp
  |some d=>
   unfold isAgg;simp only[Sem.run_bind,run_underlying hu',Result.andThen_ok];cases d<;>simp[hu']at hp<;>rfl
 cases hq:P.info? e with
 |none=>simp[hq]at hs
 |some i=>
  have hs:i.size=1:=by simpa[hq]using hs
  unfold execOp;simp[ho,r.eval hx,r.eval hi,Instr.index,asIntOf,run_underlying ht,h0,h1,sizeOf,typeInfo,hq,hs,part,hA,hv]
theorem Bh{t l e m:Nat}{ps:List (Nat×Operand)}{vs zs cells:List Value}(ho:o.op= .build t ps.toArray)(hx:env.evs (ps.map (·.2))=some vs)(ht:P.underlying t=some (.array l e))(hs:(P.info? e).map (·.size)=some m)(hz:zeroCells P t=some zs)
  (hf:Instr.fill (fun i=>some (i*m,m)) zs.toArray ((ps.map (·.1)).zip vs)=some cells.toArray):ci P n env S o (.agg cells.toArray):=fun a r w _=>by
 have e':(ps.toArray.map fun(i,x)=>(i,a.eval x)).toList=(ps.map (·.1)).zip vs:=by
  rw[←r.evals hx];simp only[List.map_toArray,List.map_map];clear ho hx hf;induction ps with
  |nil=>rfl
  |cons p ps ih=>obtain⟨i,x⟩:=p;simpa using ih
 unfold zeroCells at hz;cases hq:P.info? t with
 |none=>simp[hq]at hz
 |some it=>
  cases hzz:it.zero with
  |none=>simp[hq,hzz]at hz
  |some z=>
   have hz':z.cells=zs.toArray:=by simp[hq,hzz]at hz;rw[←hz]
   cases hqe:P.info? e with
   |none=>simp[hqe]at hs
   |some i=>
    have hs:i.size=m:=by simpa[hqe]using hs
    have hb:(Instr.build t (ps.toArray.map fun(i,x)=>(i,a.eval x))).run P w= .ok (.agg cells.toArray) w:=by
     unfold Instr.build;simp only[e'];simp[zeroValue,typeInfo,hq,hzz,run_underlying ht,sizeOf,hqe,hs,hz',hf]
    unfold execOp;simp only[ho];simp only[Sem.run_bind,hb,Result.andThen_ok];rfl
theorem LY{x:Operand}{t:Nat}{k:IntKind}{p c:Int}(ho:o.op= .unOp .neg t x)(hx:env.ev x=some (.int k p))(hw:k.wrap (0 - p)=c):ci P n env S o (.int k c):=fun a r w _=>by
 unfold execOp;simp only[Int.zero_sub]at hw;simp[ho,r.eval hx,Op.unary,Op.intArith,hw]
theorem n8{t e m g l c:Nat}{x ix:Operand}{k:IntKind}{p q:Int}(ho:o.op= .indexAddr t x ix)(hx:env.ev x=some (.slice (some ⟨g,0+p.toNat*m,none⟩) l c))(hi:env.ev ix=some (.int k q))(ht:aq P t=some (e,m))(hp:0≤p)(h0:0≤q)(h1:q<l):
  ci P n env S o (.pointer (some ⟨g,0+(p+q).toNat*m,none⟩)):=by
 have h:=fG (P:=P) (n:=n) (S:=S) ho hx hi ht h0 h1;rw[show 0+(p+q).toNat*m=0+p.toNat*m+q.toNat*m by rw[Int.toNat_add hp h0,Nat.add_mul];omega];exact h
end
end Go.Proofs.YtmpeiadlohbikaaGreatDoor
end

section
set_option linter.unusedVariables false
set_option linter.unusedSimpArgs false
namespace Go.Proofs.YtmpeiadlohbikaaGreatDoor
open Go.RowKit Go.MapKept
open Go.ChangeMaps (setBlock)
structure Gh where
 since:Nat
 c0:Nat
 seen:Array Nat
structure qC{α β:Type}(enc:α→Value)(ev:β→Value)(es:Array MapEntry)(clock:Nat)(m left cur:List (α×β))(gh:Gh):Prop where
 ok:oa enc ev es clock m
 old: ∀x∈es.toList,x.born<gh.since
 sc:gh.since≤gh.c0
 sk:gh.since≤clock
 cr: ∀p,cur= [p]→gh.c0=clock∧ ∃(e:MapEntry) (s:Array Nat),gh.seen=s.push e.born∧e∈es.toList∧e.key=enc p.1∧e.val=ev p.2
 lf:((leftOf es gh.seen).toList.map fun e=>(e.key,e.val)).Perm (left.map fun p=>(enc p.1,ev p.2))
theorem Hp.one1{w:World}{g:Nat}{o:Obj}(h:w.heap[g]? =some o):Hp w [(some g,o)]:=by
 refine⟨fun i g' o' hi=>?_,fun i j g' o1 o2 hi hj=>?_⟩
 ·cases i with
  |zero=>simp at hi;rw[←hi.1,←hi.2];exact h
  |succ i=>simp at hi
 ·cases i with
  |zero=>cases j with
   |zero=>rfl
   |succ j=>simp at hj
  |succ i=>simp at hi
theorem Fr.setB(w:World)(g:Nat)(o:Obj):Fr [g] w (setBlock w g o):=⟨rfl,rfl,rfl,by simp[Go.ChangeMaps.setBlock],fun k _ hk=>by
 show(w.heap.setIfInBounds g o)[k]? =_
 rw[Array.getElem?_setIfInBounds_ne (fun e=>hk (by simp[e]))],Nat.le_refl _⟩
theorem EN{w:World}{g:Nat}{o:Obj}(h:g<w.heap.size):(setBlock w g o).heap[g]? =some o:=by
 show(w.heap.setIfInBounds g o)[g]? =_
 rw[Array.getElem?_setIfInBounds_self_of_lt h]
theorem fV(es:Array MapEntry)(seen:Array Nat):(leftOf es seen).toList=es.toList.filter fun e=>!seen.contains e.born:=by unfold leftOf;rw[←Array.toList_filter]
theorem yI{es:Array MapEntry}{seen:Array Nat}{e:MapEntry}{r r':List MapEntry}(hn:(es.toList.map (·.born)).Nodup)(h:(leftOf es seen).toList=r++e::r'):(leftOf es (seen.push e.born)).toList=r++r':=by
 have e1:(leftOf es (seen.push e.born)).toList=(leftOf es seen).toList.filter fun x=>!(x.born==e.born):=by
  rw[fV,fV,List.filter_filter];congr 1;funext x;rw[contains_push];cases seen.contains x.born<;>cases x.born==e.born<;>rfl
 have hn':((r++e::r').map (·.born)).Nodup:=by
  rw[←h,fV];exact List.Nodup.sublist ((List.filter_sublist).map _) hn
 rw[e1,h,List.filter_append,List.filter_cons];simp only[BEq.rfl,Bool.not_true,Bool.false_eq_true,if_false];rw[List.map_append,List.map_cons,List.nodup_append]at hn';obtain⟨h1,h2,h3⟩:=hn';rw[List.nodup_cons]at h2;congr 1
 ·refine List.filter_eq_self.2 fun x hx=>?_;have:=h3 x.born (List.mem_map_of_mem hx) e.born (by simp);simpa using this
 ·refine List.filter_eq_self.2 fun x hx=>?_;have:x.born≠e.born:=fun q=>h2.1 (by rw[←q];exact List.mem_map_of_mem hx);simpa using this
section
variable {α β:Type} {enc:α→Value} {ev:β→Value} {es:Array MapEntry} {clock:Nat} {m left cur:List (α×β)} {gh:Gh}
theorem qC.start(h:oa enc ev es clock m):qC enc ev es clock m m [] ⟨clock,clock, #[]⟩:=by
 refine⟨h,h.st.1,Nat.le_refl _,Nat.le_refl _,fun p e=>(by cases e),?_⟩;have e:(leftOf es #[]).toList=es.toList:=by rw[fV];exact List.filter_eq_self.2 fun x _=>by simp
 simp only[e,h.eq];exact List.Perm.refl _
theorem qC.next(h:qC enc ev es clock m left cur gh){e:MapEntry}(he:e∈(leftOf es gh.seen).toList): ∃r p r',left=r++p::r'∧e.key=enc p.1∧e.val=ev p.2∧qC enc ev es clock m (r++r') [p] ⟨gh.since,clock,gh.seen.push e.born⟩:=by
 obtain⟨a,b,hab⟩:=List.append_of_mem he;have h1:(e.key,e.val)∈left.map fun p=>(enc p.1,ev p.2):=h.lf.mem_iff.1 (List.mem_map.2 ⟨e,he,rfl⟩);obtain⟨p,hp,hpe⟩:=List.mem_map.1 h1;obtain⟨r,r',hr⟩:=List.append_of_mem hp;injection hpe with h2 h3;refine⟨r,p,r',hr,h2.symm,h3.symm,h.ok,h.old,h.sk,h.sk,fun q eq=>⟨rfl,e,gh.seen,rfl,(mem_left he).1,?_⟩,?_⟩
 ·injection eq with eq;subst eq;exact⟨h2.symm,h3.symm⟩
 simp only[yI h.ok.st.2.1 hab];have h4:=h.lf;rw[hab,hr,List.map_append,List.map_cons,List.map_append,List.map_cons,←h2,←h3]at h4;have h5:=(List.perm_middle.symm.trans h4).trans List.perm_middle;rw[List.map_append,List.map_append];exact h5.cons_inv
theorem qC.stop(h:qC enc ev es clock m left cur gh)(h0:(leftOf es gh.seen).size=0):left= []:=by
 have e:(leftOf es gh.seen).toList= []:=by rw[Array.eq_empty_of_size_eq_zero h0]
 have:=h.lf.length_eq;rw[e]at this;simpa using this.symm
variable [DecidableEq α]
theorem oz: ∀(m:List (α×β)),(m.map (·.1)).Nodup→ ∀k,gP m k=m.filter fun p=>decide (p.1≠k)
 | [],_,_=>rfl
 |a::r,hn,k=>by
  rw[List.map_cons,List.nodup_cons]at hn;unfold gP;by_cases e:a.1=k
  ·rw[if_pos e,List.filter_cons,if_neg (by simpa using e)];refine(List.filter_eq_self.2 fun x hx=>?_).symm;have:x.1≠k:=fun q=>hn.1 (by rw[e,←q];exact List.mem_map_of_mem hx);simpa using this
  ·rw[if_neg e,List.filter_cons,if_pos (by simpa using e),oz r hn.2]
omit [DecidableEq α]in
theorem n7{γ δ:Type}(f:γ→δ): ∀(l:List γ) (j:Nat),(l.eraseIdx j).map f=(l.map f).eraseIdx j
 | [],_=>rfl
 |_::_,0=>rfl
 |a::r,j+1=>by rw[List.eraseIdx_cons_succ,List.map_cons,List.map_cons,List.eraseIdx_cons_succ,n7 f r j]
theorem oa.del{P:Program}{kt:TypeId}(L:fM P kt enc)(h:oa enc ev es clock m){j:Nat}{e:MapEntry}{k:α}(h2:es.toList[j]? =some e)(h3:(m.map (·.1))[j]? =some k):oa enc ev (es.eraseIdxIfInBounds j) clock (gP m k):=by
 refine⟨stamped_erase h.st j,?_⟩;have hlt:j<es.size:=(List.getElem?_eq_some_iff.1 h2).1;rw[Bq m (h.nd L) h3];unfold Array.eraseIdxIfInBounds;rw[dif_pos hlt,Array.toList_eraseIdx];rw[n7,n7,h.eq]
theorem qC.nd{P:Program}{kt:TypeId}(L:fM P kt enc)(h:qC enc ev es clock m left cur gh):(left.map (·.1)).Nodup:=by
 have h1:((leftOf es gh.seen).toList.map (·.key)).Nodup:=by
  rw[fV];exact List.Nodup.sublist ((List.filter_sublist).map _) h.ok.st.2.2
 have h2:=(h.lf.map Prod.fst);rw[List.map_map,List.map_map]at h2;have h3:(left.map fun p=>enc p.1).Nodup:=(h2.nodup_iff).1 h1;have h4:((left.map (·.1)).map enc).Nodup:=by rw[List.map_map];exact h3
 exact List.Pairwise.of_map enc (fun a b hab e=>hab (by rw[e])) h4
omit [DecidableEq α]in
theorem nc: ∀{l:List MapEntry} {j:Nat} {e:MapEntry},l[j]? =some e→(l.map (·.key)).Nodup→ ∀q:MapEntry→Bool,(∀x∈l,q x=true↔x.key≠e.key)→l.eraseIdx j=l.filter q
 | [],j,e,h,_,q,_=>by simp at h
 |a::r,0,e,h,hn,q,hq=>by
  simp at h;subst h;rw[List.map_cons,List.nodup_cons]at hn;have ha: ¬q a=true:=fun c=>(hq a (by simp)).1 c rfl;rw[List.filter_cons,if_neg ha,List.eraseIdx_cons_zero];refine(List.filter_eq_self.2 fun x hx=>(hq x (by simp[hx])).2 fun c=>hn.1 ?_).symm;rw[←c];exact List.mem_map_of_mem hx
 |a::r,j+1,e,h,hn,q,hq=>by
  simp only[List.getElem?_cons_succ]at h;rw[List.map_cons,List.nodup_cons]at hn;have ha:q a=true:=(hq a (by simp)).2 fun c=>hn.1 (by rw[c];exact List.mem_map_of_mem (List.mem_of_getElem? h));rw[List.filter_cons,if_pos ha,List.eraseIdx_cons_succ,nc h hn.2 q fun x hx=>hq x (by simp[hx])]
theorem qC.del{P:Program}{kt:TypeId}(L:fM P kt enc)(h:qC enc ev es clock m left cur gh){j:Nat}{e:MapEntry}{k:α}(h2:es.toList[j]? =some e)(h3:(m.map (·.1))[j]? =some k):qC enc ev (es.eraseIdxIfInBounds j) clock (gP m k) (gP left k) [] gh:=by
 have hsub:(es.eraseIdxIfInBounds j).toList.Sublist es.toList:=by
  unfold Array.eraseIdxIfInBounds;split
  ·simp only[Array.toList_eraseIdx];exact List.eraseIdx_sublist _ _
  ·exact List.Sublist.refl _
 refine⟨h.ok.del L h2 h3,fun x hx=>h.old x (hsub.subset hx),h.sc,h.sk,fun p e=>(by cases e),?_⟩;have hlt:j<es.size:=(List.getElem?_eq_some_iff.1 h2).1;obtain⟨p,hp,hpk,hpv⟩:=h.ok.at (x:=k) h2;have hpx:p.1=k:=by rw[List.getElem?_map,hp]at h3;simpa using h3
 have hek:e.key=enc k:=by rw[hpk,hpx]
 have hkey: ∀x∈es.toList,∃a,x.key=enc a:=fun x hx=>by
  have:x.key∈(m.map (·.1)).map enc:=by rw[←h.ok.ks];exact List.mem_map_of_mem hx
  obtain⟨a,_,ha⟩:=List.mem_map.1 this;exact⟨a,ha.symm⟩
 let q:Value×Value→Bool:=fun v=> @decide (v.1≠enc k) (Classical.propDecidable _)
 have hq: ∀v,q v=true↔v.1≠enc k:=fun v=>by simp[q]
 have e1:(es.eraseIdxIfInBounds j).toList=es.toList.filter fun x=>q (x.key,x.val):=by
  unfold Array.eraseIdxIfInBounds;rw[dif_pos hlt,Array.toList_eraseIdx];exact nc h2 h.ok.st.2.2 _ fun x hx=>by rw[hq,hek]
 have e2:(leftOf (es.eraseIdxIfInBounds j) gh.seen).toList.map (fun e=>(e.key,e.val))=((leftOf es gh.seen).toList.map fun e=>(e.key,e.val)).filter q:=by
  rw[fV,fV,e1,List.filter_map,List.filter_filter,List.filter_filter];congr 2;funext x;simp only[Function.comp];exact Bool.and_comm _ _
 have e3:(gP left k).map (fun p=>(enc p.1,ev p.2))=(left.map fun p=>(enc p.1,ev p.2)).filter q:=by
  rw[oz left (h.nd L) k,List.filter_map];congr 2;funext x;rw[Bool.eq_iff_iff];simp only[Function.comp,hq,decide_eq_true_eq];exact not_congr ⟨fun c=>by rw[c],fun c=>L.inj _ _ c⟩
 rw[e2,e3];exact h.lf.filter q
theorem qC.del0(h:qC enc ev es clock m left cur gh){k:α}(hk: ∀x∈m.map (·.1),x≠k){P:Program}{kt:TypeId}(L:fM P kt enc):gP left k=left:=by
 refine qe left fun x hx e=>?_;obtain⟨p,hp,hpx⟩:=List.mem_map.1 hx;have h1:(enc p.1,ev p.2)∈(leftOf es gh.seen).toList.map fun e=>(e.key,e.val):=h.lf.mem_iff.2 (List.mem_map.2 ⟨p,hp,rfl⟩);obtain⟨y,hy,hy2⟩:=List.mem_map.1 h1;injection hy2 with hy2 _;have hyes:=(mem_left hy).1;have:y.key∈(m.map (·.1)).map enc:=by rw[←h.ok.ks];exact List.mem_map_of_mem hyes
 obtain⟨a,ha,ha2⟩:=List.mem_map.1 this;have:a=p.1:=L.inj _ _ (ha2.trans hy2);exact hk a ha (by rw[this,hpx,e])
end
section
variable [bB] {P:Program} {n:Nat} {env:aI} {S:World→Prop} {o:Oper} {w:World} {H:bZ} {K:aI→World→Prop} {α β:Type} {enc:α→Value} {ev:β→Value} {es:Array MapEntry} {ms left cur:List (α×β)} {gh:Gh}
theorem Jk{t kt et g clock:Nat}{x:Operand}(ho:o.op= .call {callee:= .builtin .len,args:= #[x],argTypes:= #[t]})(hx:env.ev x=some (.map (some g)))(ht:P.underlying t=some (.map kt et))(h: ∀w,S w→w.heap[g]? =some (.map es clock))(hM:oa enc ev es clock ms):ci P n env S o (.int .i64 ms.length):=fun a r w hS=>
 eF ho (r.eval hx) fun cs=>by
  have h:(Builtin.len_ #[t] o.type #[.map (some g)]).run P w= .ok (goInt es.size) w:=by simp[Builtin.len_,run_underlying ht,MapKept.run_getObj_map (h w hS)]
  simp only[builtin,Sem.run_bind,h,Result.andThen_ok];rw[hM.len];rfl
theorem Be{t kt et g d clock:Nat}{x:Operand}(ho:o.op= .range t x)(hd:o.dst=some d)(hn:Nat.blt d n=true)(hx:env.ev x=some (.map (some g)))(ht:P.underlying t=some (.map kt et))(hb:w.heap[g]? =some (.map es clock))(hM:oa enc ev es clock ms)
  (hK: ∀r w' gh,qC enc ev es clock ms ms [] gh→w'.heap[r]? =some (.mapIter (some g) gh.since gh.seen gh.c0)→Fr [] w w'→w.heap.size≤r→K ((d,.pointer (some ⟨r,0,none⟩))::env) w'):bH P n env w o K:=by
 refine fI hd hn (fun a r=>?_) (hK w.heap.size (w.alloc (.mapIter (some g) clock #[] clock)) ⟨clock,clock, #[]⟩ (qC.start hM) (MapKept.heap_alloc w _).1 (Fr.alloc w _) (Nat.le_refl _));unfold execOp;have:=run_range_map (P:=P) w t kt et g es clock ht hb;simp only[ho,r.eval hx,Sem.run_bind,this,Result.andThen_ok];rfl
theorem EO{r g d clock:Nat}{x:Operand}(ho:o.op= .next x false)(hd:o.dst=some d)(hn:Nat.blt d n=true)(hx:env.ev x=some (.pointer (some ⟨r,0,none⟩)))(hr:w.heap[r]? =some (.mapIter (some g) gh.since gh.seen gh.c0))(hb:w.heap[g]? =some (.map es clock))(hR:qC enc ev es clock ms left cur gh)
  (h0:left= []→K ((d,.tuple #[.bool false])::env) w)
  (h1: ∀a p b gh' w',left=a++p::b→qC enc ev es clock ms (a++b) [p] gh'→w'.heap[r]? =some (.mapIter (some g) gh'.since gh'.seen gh'.c0)→Fr [r] w w'→K ((d,.tuple #[.bool true,enc p.1,ev p.2])::env) w'):bH P n env w o K:=by
 rcases run_next_at (P:=P) w o.type r g gh.since gh.c0 gh.seen es clock hr hb hR.old hR.sc with⟨h2,hrun⟩|⟨e,he,w1,hal,hrun⟩
 ·refine fI hd hn (fun a q=>?_) (h0 (hR.stop h2));unfold execOp;simp only[ho,q.eval hx,Sem.run_bind,hrun,Result.andThen_ok];rfl
 ·obtain⟨a,p,b,e1,e2,e3,hR'⟩:=hR.next he;have hf1:Fr [] w w1:=by
   rcases hal with rfl|rfl
   ·exact Fr.refl _ _
   ·exact Fr.drew w
  have hlt:r<w1.heap.size:=Nat.lt_of_lt_of_le (Array.getElem?_eq_some_iff.1 hr).1 hf1.size;refine fI hd hn (fun a q=>?_) (h1 a p b _ (setBlock w1 r (.mapIter (some g) gh.since (gh.seen.push e.born) clock)) e1 hR' (EN hlt) ((hf1.mono (by simp)).step (Fr.setB w1 r _) (fun y hy=> .inl hy)));unfold execOp;simp only[ho,q.eval hx,Sem.run_bind,hrun,Result.andThen_ok,e2,e3];rfl
theorem Bf{r g clock:Nat}{x:Operand}{p:α×β}(ho:o.op= .entry x)(hx:env.ev x=some (.pointer (some ⟨r,0,none⟩)))(hr: ∀w,S w→w.heap[r]? =some (.mapIter (some g) gh.since gh.seen gh.c0))(hb: ∀w,S w→w.heap[g]? =some (.map es clock))(hR:qC enc ev es clock ms left [p] gh):ci P n env S o (.tuple #[enc p.1,ev p.2]):=fun a q w hS=>by
 obtain⟨e1,e,s,e2,h1,h2,h3⟩:=hR.cr p rfl;have hr:=hr w hS;rw[e1,e2]at hr;have hrun:=run_entry_at (P:=P) w r g gh.since s es clock e hr (hb w hS) h1 hR.ok.st.2.1;unfold execOp;simp only[ho,q.eval hx,Sem.run_bind,hrun,Result.andThen_ok,h2,h3];rfl
variable [DecidableEq α]
theorem rB{t t' kt et g clock:Nat}{m kx:Operand}{k:α}(ho:o.op= .call {callee:= .builtin .delete,args:= #[m,kx],argTypes:= #[t,t']})(hd:o.dst=none)
  (hm:env.ev m=some (.map (some g))) (hkx:env.ev kx=some (enc k)) (ht:P.underlying t=some (.map kt et)) (L:fM P kt enc)
  (hb:w.heap[g]? =some (.map es clock)) (hM:oa enc ev es clock ms)
  (hK: ∀es' w',oa enc ev es' clock (gP ms k)→(∀left cur gh,qC enc ev es clock ms left cur gh→qC enc ev es' clock (gP ms k) (gP left k) [] gh)→w'.heap[g]? =some (.map es' clock)→Fr [g] w w'→K env w'):bH P n env w o K:=by
 rcases L.fnd k (ms.map (·.1)) es.toList hM.ks w with⟨h1,h2⟩|⟨j,e,h1,h2,h3⟩
 ·refine sY hd (v:= .tuple #[]) (w':={w with heap:=w.heap.setIfInBounds g (.map es clock)}) (fun a r=>?_)
   (hK es _ (by rw[qe ms h2];exact hM) (fun left cur gh hR=>by rw[qe ms h2,hR.del0 h2 L];exact⟨hR.ok,hR.old,hR.sc,hR.sk,fun p e=>(by cases e),hR.lf⟩) (MapKept.heap_set hb).1 (Fr.setObj hb))
  unfold execOp;simp[ho,resolve,invoke,builtin,Builtin.delete_,r.eval hm,r.eval hkx,run_underlying ht,MapKept.run_getObj_map hb,L.chk,h1,MapKept.run_setObj_map _ hb]
 ·refine sY hd (v:= .tuple #[]) (w':={w with heap:=w.heap.setIfInBounds g (.map (es.eraseIdxIfInBounds j) clock)}) (fun a r=>?_)
   (hK _ _ (hM.del L h2 h3) (fun left cur gh hR=>hR.del L h2 h3) (MapKept.heap_set hb).1 (Fr.setObj hb))
  unfold execOp;simp[ho,resolve,invoke,builtin,Builtin.delete_,r.eval hm,r.eval hkx,run_underlying ht,MapKept.run_getObj_map hb,L.chk,h1,MapKept.run_setObj_map _ hb]
end
end Go.Proofs.YtmpeiadlohbikaaGreatDoor
end

section
set_option linter.unusedVariables false
namespace Go.Proofs.YtmpeiadlohbikaaGreatDoor.V
open Go.RowKit
inductive aZ where
 |int (k:IntKind)|bool|str|st (i:Nat)|arr (n:Nat) (e:aZ)|sl (e:aZ)
def eK:aZ→Bool
 | .st _| .arr _ _=>true
 |_=>false
def TT(ty:Nat→Type):aZ→Type
 | .int _=>Int| .bool=>Bool| .str=>List UInt8| .st i=>ty i| .arr _ e=>List (TT ty e)| .sl e=>List (TT ty e)
def vd(ty:Nat→Type):List (Nat×aZ)→Type
 | []=>Unit
 |x::r=>TT ty x.2×vd ty r
structure RD(ty:Nat→Type)(S:Type) where
 sz:Nat
 fs:List (Nat×aZ)
 to:S→vd ty fs
 toK:S→(vd ty fs→Prop)→Prop
 ofK:vd ty fs→(S→Prop)→Prop
 ixK:List S→Int→(S→Prop)→Prop
 eqK:S→S→(Bool→Prop)→Prop
 sz_ok:(fs.map (·.1)).sum=sz
 toK_ok: ∀x K,toK x K→K (to x)
 ofK_ok: ∀a K,ofK a K→ ∃x,K x∧to x=a
 ixK_ok: ∀l q K,ixK l q K→ ∃x,K x∧ ∀y,l[q.toNat]? =some y→x=y
 eqK_ok: ∀a b K,eqK a b K→ ∃t:Bool,K t∧(t=true↔a=b)
structure bD where
 ty:Nat→Type
 rd:(i:Nat)→RD ty (ty i)
def aG(U:bD):aZ→Nat
 | .st i=>(U.rd i).sz
 | .arr n e=>n*aG U e
 |_=>1
def dS:IntKind→Int→Prop
 | .i8,p=> -128≤p∧p≤127
 | .i16,p=> -32768≤p∧p≤32767
 | .i32,p=> -2147483648≤p∧p≤2147483647
 | .i64,p=> -9223372036854775808≤p∧p≤9223372036854775807
 | .u8,p=>0≤p∧p≤255
 | .u16,p=>0≤p∧p≤65535
 | .u32,p=>0≤p∧p≤4294967295
 | .u64,p=>0≤p∧p≤18446744073709551615
def rS(Y:List Nat)(S:World→Prop)(A:Option Addr)(cs:List Value):Prop:= ∀w,S w→mo Y w A cs
mutual
inductive aC(U:bD)(Y:List Nat)(S:World→Prop):(s:aZ)→TT U.ty s→List Value→Prop
 |int (k:IntKind) (p:Int) (h:dS k p):aC U Y S (.int k) p [.int k p]
 |bool (b:Bool):aC U Y S .bool b [.bool b]
 |str (s:List UInt8) (h:s.length≤9223372036854775807):aC U Y S .str s [sv s]
 |st (i:Nat) (t:U.ty i) (vs:List Value) (h:bE U Y S (U.rd i).fs ((U.rd i).to t) vs) (hl:vs.length=(U.rd i).sz):aC U Y S (.st i) t vs
 |arr (n:Nat) (e:aZ) (xs:List (TT U.ty e)) (vs:List Value) (h:aR U Y S e xs vs) (hn:xs.length=n):aC U Y S (.arr n e) xs vs
 |sl (e:aZ) (xs:List (TT U.ty e)) (A:Option Addr) (c:Nat) (cs:List Value) (h:aR U Y S e xs cs) (hr:rS Y S A cs) (hc:xs.length≤c) (hm:c≤maxLen):aC U Y S (.sl e) xs [.slice A xs.length c]
inductive bE(U:bD)(Y:List Nat)(S:World→Prop):(fs:List (Nat×aZ))→vd U.ty fs→List Value→Prop
 |nil:bE U Y S [] () []
 |cons (k:Nat) (s:aZ) (r:List (Nat×aZ)) (a:TT U.ty s) (b:vd U.ty r) (vs us:List Value) (h:aC U Y S s a vs) (hl:vs.length=k) (hr:bE U Y S r b us):bE U Y S ((k,s)::r) (a,b) (vs++us)
inductive aR(U:bD)(Y:List Nat)(S:World→Prop):(e:aZ)→List (TT U.ty e)→List Value→Prop
 |nil (e:aZ):aR U Y S e [] []
 |cons (e:aZ) (x:TT U.ty e) (xs:List (TT U.ty e)) (vs us:List Value) (h:aC U Y S e x vs) (hl:vs.length=aG U e) (hr:aR U Y S e xs us):aR U Y S e (x::xs) (vs++us)
end
structure Rz where
 A:Option Addr
 c:Nat
 bs:List (List Nat):= []
abbrev rz(A:Option Addr)(c:Nat):Rz:={A:=A,c:=c}
def Rz.own(R:Rz):Option (Int×Nat×Nat×Nat)→List Nat
 |none=>R.bs.flatten
 |some (q,_)=>(R.bs.eraseIdx (q.toNat+1)).flatten
def Oe(Y:List Nat)(S:World→Prop)(Y':List Nat)(S':World→Prop):Prop:= ∀w',S' w'→ ∃w,S w∧Fr Y w w'∧ ∀y∈Y',y∈Y∨w.heap.size≤y
structure XD(U:bD) where
 e:aZ
 ok:Option Int→List (TT U.ty e)→List Nat→(World→Prop)→Rz→(Nat→Obj)→Prop
 sz:0<aG U e
 mv: ∀{q:Option Int} {xs:List (TT U.ty e)} {Y Y':List Nat} {S S':World→Prop} {R:Rz} {C:Nat→Obj},Oe Y S Y' S'→ok q xs Y S R C→ok q xs Y' S' R C
 frz: ∀{xs:List (TT U.ty e)} {Y:List Nat} {S:World→Prop} {R:Rz} {C:Nat→Obj},ok none xs Y S R C→(∀g∈R.own none,g∉Y∧ ∀w,S w→w.heap[g]? =some (C g))→ ∃cs,aR U Y S e xs cs∧rS Y S R.A cs∧xs.length≤R.c∧R.c≤maxLen
 adr: ∀{q:Option Int} {xs:List (TT U.ty e)} {Y:List Nat} {S:World→Prop} {R:Rz} {C:Nat→Obj},ok q xs Y S R C→0<xs.length→ ∃g,R.A=some ⟨g,0,none⟩
 nil: ∀{Y:List Nat} {S:World→Prop} {C:Nat→Obj},ok none [] Y S ⟨none,0,[]⟩ C
inductive Cx(U:bD) where
 |d (s:aZ) (t:TT U.ty s)
 |own (i v:Nat)
 |ptr (i off:Nat)
 |pel (i v:Nat) (q:Int) (off:Nat)
 |pax (i off n:Nat) (e:aZ) (q:Int) (o:Nat)-- into an array's element
 |pd (s:aZ) (t:TT U.ty s)
 |nilp|nils|nilf|nilm
 |fn (f:FuncId)
 |clo (f:FuncId) (js:List Nat)-- a closure over variables of our own
 |f1 (a:aZ) (g:TT U.ty a→Bool)-- a function value that computes g
 |f2 (a b:aZ) (g:TT U.ty a→TT U.ty b→Int)
 |mp (i:Nat)
 |un
abbrev cd(U:bD):=Nat×Cx U
structure Va(U:bD) where
 ag:Bool
 l:List (cd U)
inductive AV(U:bD) where
 |v (x:Va U)
 |tup (l:List (Va U))
 |pan (z:Int)
 |gd (p:List (Nat×Bool)) (x:Va U)
 |un
structure KD(U:bD) where
 kt:TypeId
 vt:TypeId
 k:aZ
 v:aZ
 dec:DecidableEq (TT U.ty k)
 enc:TT U.ty k→Value
 zero:TT U.ty v
inductive aH(U:bD) where
 |cells (l:List (cd U)) (t:TypeId)
 |row (v:Nat) (e:aZ) (xs:List (TT U.ty e)) (t:TypeId)
 |frz (v:Nat) (e:aZ) (xs:List (TT U.ty e))
 |clo (f:FuncId) (l:List (cd U))
 |map (d:KD U) (l:List (TT U.ty d.k×TT U.ty d.v))
 |mapr (d:KD U) (l left cur:List (TT U.ty d.k×TT U.ty d.v)) (gh:Gh)-- a loop goes over it
 |it (i:Nat) (gh:Gh)-- an iterator
 |ext (v:Nat) (d:XD U) (xs:List (TT U.ty d.e)) (op:Option (Int×Nat×Nat×Nat))-- of which an element's own row may be told by an entry of its own:the element,the place,the entry,its version
 |hid (v l m:Nat)-- a row of which only the header is known
 |dead
abbrev En(U:bD):=List (Nat×AV U)
abbrev Hs(U:bD):=List (Nat×aH U)
def aD{α:Type}:List (Nat×α)→Nat→Option α
 | [],_=>none
 |(j,v)::r,k=>bif Nat.beq j k then some v else aD r k
def dT{α:Type}:List α→Nat→Option α
 | [],_=>none
 |a::_,0=>some a
 |_::r,n+1=>dT r n
inductive Kd where
 |int (k:IntKind)|bool|str|sl (e:Nat)|ptr (e:Nat)|st|arr (n e:Nat)|mp (k v:Nat)|fn|ifc
def ve:Kd→Bool
 | .st| .arr _ _=>true
 |_=>false
structure TI(U:bD) where
 sz:Nat
 kd:Kd
 by_:Nat
 fs:List (Nat×Nat)-- fields:where they begin,their types
 sh:Option aZ
 cmp:Bool -- a record's type whose values are compared
 zero:List (cd U)
 mp:Option (KD U):=none -- a map's type
abbrev cW(U:bD):=List (Nat×TI U)
def oe:(ty:Nat→Type)→(F:Type→Type)→(i j:Nat)→F (ty i)→Option (F (ty j))
 |_,_,0,0,t=>some t
 |ty,F,i+1,j+1,t=>oe (fun n=>ty (n+1)) F i j t
 |_,_,_,_,_=>none
def kb:IntKind→IntKind→Bool
 | .i8,.i8| .i16,.i16| .i32,.i32| .i64,.i64| .u8,.u8| .u16,.u16| .u32,.u32| .u64,.u64=>true
 |_,_=>false
def dZ(ty:Nat→Type):(F:Type→Type)→(s s':aZ)→F (TT ty s)→Option (F (TT ty s'))
 |_,.int k,.int k',t=>bif kb k k' then some t else none
 |_,.bool,.bool,t=>some t
 |_,.str,.str,t=>some t
 |F,.st i,.st j,t=>oe ty F i j t
 |F,.arr n e,.arr m e',t=>bif Nat.beq n m then dZ ty (fun x=>F (List x)) e e' t else none
 |F,.sl e,.sl e',t=>dZ ty (fun x=>F (List x)) e e' t
 |_,_,_,_=>none
section
variable {U:bD}
def HB:(fs:List (Nat×aZ))→vd U.ty fs→(List (cd U)→Prop)→Prop
 | [],_,K=>K []
 |(k,s)::r,(a,b),K=>HB r b fun l=>K ((k,.d s a)::l)
def wz(U:bD)(s:aZ):(l:List (TT U.ty s))→Int→(TT U.ty s→Prop)→Prop:=match s with
 | .int _=>fun l q K=>K (ix (α:=Int) l q)
 | .bool=>fun l q K=>K (ix (α:=Bool) l q)
 | .str=>fun l q K=>K (ix (α:=List UInt8) l q)
 | .st i=>fun l q K=>(U.rd i).ixK l q K
 | .arr _ e=>fun l q K=>K (ix (α:=List (TT U.ty e)) l q)
 | .sl e=>fun l q K=>K (ix (α:=List (TT U.ty e)) l q)
def KN(e:aZ)(m:Nat)(xs:List (TT U.ty e))(n:Nat):Nat→(List (cd U)→Prop)→Prop:=
 Nat.rec (motive:=fun _=>Nat→(List (cd U)→Prop)→Prop) (fun _ K=>K []) (fun _ ih j K=>wz U e xs (j:Int) fun x=>ih (j+1) fun l=>K ((m,.d e x)::l)) n
def my(x:Cx U)(K:List (cd U)→Prop):Prop:=match x with
 | .d (.st i) t=>(U.rd i).toK t fun a=>HB (U.rd i).fs a K
 | .d (.arr n e) xs=>KN e (aG U e) xs n 0 K
 |_=>False
def qF(l l':List (cd U))(K:List (cd U)→Prop):Prop:=
 List.rec (motive:=fun _=>(List (cd U)→Prop)→Prop) (fun K=>K l') (fun x _ ih K=>ih fun r=>K (x::r)) l K
def gQ:Nat→List (cd U)→Nat→(List (cd U)→Prop)→Prop:=
 Nat.rec (motive:=fun _=>List (cd U)→Nat→(List (cd U)→Prop)→Prop) (fun _ _ _=>False) fun _ ih l k K=>match k with
  |0=>K l
  |k+1=>match l with
   | []=>False
   |(m,x)::r=>bif Nat.ble m (k+1)then ih r (k+1 - m) K else my x fun l'=>qF l' r fun l''=>ih l'' (k+1) K
def tK:Nat→List (cd U)→Nat→(List (cd U)→Prop)→Prop:=
 Nat.rec (motive:=fun _=>List (cd U)→Nat→(List (cd U)→Prop)→Prop) (fun _ _ _=>False) fun _ ih l k K=>match k with
  |0=>K []
  |k+1=>match l with
   | []=>False
   |(m,x)::r=>bif Nat.ble m (k+1)then ih r (k+1 - m) fun r'=>K ((m,x)::r')else my x fun l'=>ih l' (k+1) K
def rT:Nat→List (cd U)→Nat→Nat→List (cd U)→(List (cd U)→Prop)→Prop:=
 Nat.rec (motive:=fun _=>List (cd U)→Nat→Nat→List (cd U)→(List (cd U)→Prop)→Prop) (fun _ _ _ _ _=>False) fun _ ih l off k new K=>match off with
  |0=>gQ 40 l k fun r=>qF new r K
  |off+1=>match l with
   | []=>False
   |(m,x)::r=>bif Nat.ble m (off+1)then ih r (off+1 - m) k new fun r'=>K ((m,x)::r')else my x fun l'=>qF l' r fun l''=>ih l'' (off+1) k new K
def mA(l:List (cd U))(off k:Nat)(K:List (cd U)→Prop):Prop:=gQ 40 l off fun r=>tK 40 r k K
def d1(s:aZ)(l:List (cd U))(K:TT U.ty s→Prop):Prop:=match l with
 |(_,.d s' t):: []=>(match dZ U.ty (fun x=>x) s' s t with|some u=>K u|none=>False)
 |_=>False
def wA(h:(s:aZ)→List (cd U)→(TT U.ty s→Prop)→Prop):(fs:List (Nat×aZ))→List (cd U)→(vd U.ty fs→Prop)→Prop
 | [],_,K=>K ()
 |(k,s)::r,l,K=>tK 40 l k fun l1=>h s l1 fun a=>gQ 40 l k fun l2=>wA h r l2 fun b=>K (a,b)
def wB{α:Type}(h:List (cd U)→(α→Prop)→Prop)(m:Nat)(n:Nat):List (cd U)→(List α→Prop)→Prop:=
 Nat.rec (motive:=fun _=>List (cd U)→(List α→Prop)→Prop) (fun _ K=>K []) (fun _ ih l K=>tK 40 l m fun l1=>h l1 fun a=>gQ 40 l m fun l2=>ih l2 fun b=>K (a::b)) n
def ke:List (cd U)→Nat
 | []=>0
 |(k,_)::r=>k+ke r
def cG:Nat→(s:aZ)→List (cd U)→(TT U.ty s→Prop)→Prop:=
 Nat.rec (motive:=fun _=>(s:aZ)→List (cd U)→(TT U.ty s→Prop)→Prop) (fun _ _ _=>False) fun _ ih s=>match s with
  | .st i=>fun l K=>match l with
   |(_,.d (.st j) t):: []=>d1 (.st i) l K
   |_=>bif Nat.beq (ke l) (U.rd i).sz then wA ih (U.rd i).fs l fun a=>(U.rd i).ofK a K else False
  | .sl e=>fun l K=>match l with
   |(_,.nils):: []=>K ([]:List (TT U.ty e))
   |_=>d1 (.sl e) l K
  | .arr n e=>fun l K=>match l with
   |(_,.d (.arr _ _) _):: []=>d1 (.arr n e) l K
   |_=>bif Nat.beq (ke l) (n*aG U e)then wB (ih e) (aG U e) n l K else False
  |s=>fun l K=>d1 s l K
def CX(k:IntKind)(p:Int):Bool:=match k,p with
 | .i8,.ofNat n=>Nat.ble n 127| .i8,.negSucc n=>Nat.ble n 127
 | .i16,.ofNat n=>Nat.ble n 32767| .i16,.negSucc n=>Nat.ble n 32767
 | .i32,.ofNat n=>Nat.ble n 2147483647| .i32,.negSucc n=>Nat.ble n 2147483647
 | .i64,.ofNat n=>Nat.ble n 9223372036854775807| .i64,.negSucc n=>Nat.ble n 9223372036854775807
 | .u8,.ofNat n=>Nat.ble n 255
 | .u16,.ofNat n=>Nat.ble n 65535
 | .u32,.ofNat n=>Nat.ble n 4294967295
 | .u64,.ofNat n=>Nat.ble n 18446744073709551615
 |_,_=>false
def vm(v:Value)(K:Va U→Prop):Prop:=match v with
 | .int k p=>bif CX k p then K ⟨false,[(1,.d (.int k) p)]⟩else False
 | .bool b=>K ⟨false,[(1,.d .bool b)]⟩
 | .string ⟨⟨l⟩⟩=>bif Nat.ble l.length 9223372036854775807 then K ⟨false,[(1,.d .str l)]⟩else False
 | .slice none 0 0=>K ⟨false,[(1,.nils)]⟩
 | .pointer none=>K ⟨false,[(1,.nilp)]⟩
 | .nilFunc=>K ⟨false,[(1,.nilf)]⟩
 | .map none=>K ⟨false,[(1,.nilm)]⟩
 |_=>False
abbrev di:=List (Nat×Bool)
def fO:di→di→Bool
 | [],[]=>true
 |(s,true)::p,(t,true)::q=>bif Nat.beq s t then fO p q else false
 |(s,false)::p,(t,false)::q=>bif Nat.beq s t then fO p q else false
 |_,_=>false
def iK(q:di):di→Bool
 | []=>fO q []
 |x::p=>fO q (x::p)||iK q p
def j6(p:di)(R e:En U)(o:Operand)(K:Va U→Prop):Prop:=match o with
 | .tmp t=>(match aD R t with
  |some (.gd q x)=>bif iK q p then K x else False
  |some _=>False
  |none=>(match aD e t with
   |some (.v x)=>K x
   |_=>False))
 | .const v=>vm v K
 | .func f=>K ⟨false,[(1,.fn f)]⟩
 | .global _=>False
def qG(p:di)(R e:En U)(l:List Operand):(List (Va U)→Prop)→Prop:=
 List.rec (motive:=fun _=>(List (Va U)→Prop)→Prop) (fun K=>K []) (fun x _ ih K=>j6 p R e x fun v=>ih fun r=>K (v::r)) l
def wC(R e:En U)(s:Nat)(K:Bool→Prop)(N:Prop):Prop:=match aD R s with
 |some (.gd _ ⟨false,(_,.d .bool c):: []⟩)=>K c
 |some _=>N
 |none=>(match aD e s with
  |some (.v ⟨false,(_,.d .bool c):: []⟩)=>K c
  |_=>N)
def qT(R e:En U)(p:di)(A:Prop):Prop:=
 List.rec (motive:=fun _=>Prop) A (fun x _ ih=>wC R e x.1 (fun c=>c=x.2→ih) False) p
def OM(k:IntKind)(r:Int)(K:Int→Prop):Prop:=match k with
 | .u8=>K (r%256)| .u16=>K (r%65536)| .u32=>K (r%4294967296)| .u64=>K (r%18446744073709551616)
 |k=>K (k.wrap r)
def y2(b:Bool)(A B:Prop):Prop:=(b=true→A)∧(b=false→B)
def VS(P A:Prop):Prop:=P∧A
def SQ(A B:Prop):Prop:=A∨B
def Og(P:Prop)(A B:Prop):Prop:=P∧A∨B
def F9(g:Prop→Prop)(k:IntKind)(p q r:Int)(K:Int→Prop):Prop:=Og (g (dS k p→dS k q→dS k r)) (K r) (OM k r K)
def c1(x:Cx U):Va U:=⟨false,[(1,x)]⟩
def HC:BinOp→Bool
 | .shl| .shr=>true
 |_=>false
def HD(g:Prop→Prop)(op:BinOp)(k:IntKind)(p:Int)(k':IntKind)(q:Int)(K:Va U→Prop):Prop:=bif kb k k'||HC op then(match op with
 | .add=>F9 g k p q (p+q) fun r=>K ⟨false,[(1,.d (.int k) r)]⟩
 | .sub=>F9 g k p q (p - q) fun r=>K ⟨false,[(1,.d (.int k) r)]⟩
 | .mul=>F9 g k p q (p*q) fun r=>K ⟨false,[(1,.d (.int k) r)]⟩
 | .quo=>VS (g (dS k p→dS k q→0≤p∧0<q)) (K ⟨false,[(1,.d (.int k) (p/q))]⟩)
 | .rem=>VS (g (dS k p→dS k q→0≤p∧0<q)) (K ⟨false,[(1,.d (.int k) (p%q))]⟩)
 | .shl=>VS (g (dS k' q→0≤q)) (F9 g k p p (p*2^(min q.toNat k.bits)) fun r=>K ⟨false,[(1,.d (.int k) r)]⟩)
 | .shr=>VS (g (dS k' q→0≤q)) (K ⟨false,[(1,.d (.int k) (p/2^(min q.toNat k.bits)))]⟩)
 | .eql=>K ⟨false,[(1,.d .bool (decide (p=q)))]⟩
 | .neq=>K ⟨false,[(1,.d .bool (decide (¬p=q)))]⟩
 | .lss=>K ⟨false,[(1,.d .bool (decide (p<q)))]⟩
 | .leq=>K ⟨false,[(1,.d .bool (decide (p≤q)))]⟩
 | .gtr=>K ⟨false,[(1,.d .bool (decide (q<p)))]⟩
 | .geq=>K ⟨false,[(1,.d .bool (decide (q≤p)))]⟩
 | .and=>K ⟨false,[(1,.d (.int k) (bits .and k p q))]⟩
 | .or=>K ⟨false,[(1,.d (.int k) (bits .or k p q))]⟩
 | .xor=>K ⟨false,[(1,.d (.int k) (bits .xor k p q))]⟩
 | .andNot=>K ⟨false,[(1,.d (.int k) (bits .andNot k p q))]⟩)else False
def HE(g:Prop→Prop)(op:BinOp)(p q:List UInt8)(K:Va U→Prop):Prop:=match op with
 | .add=>VS (g (p.length+q.length≤9223372036854775807)) (K ⟨false,[(1,.d .str (p++q))]⟩)
 | .eql=>K ⟨false,[(1,.d .bool (decide (p=q)))]⟩
 | .neq=>K ⟨false,[(1,.d .bool (decide (¬p=q)))]⟩
 | .lss=>K ⟨false,[(1,.d .bool (decide (p<q)))]⟩
 | .leq=>K ⟨false,[(1,.d .bool (decide (p≤q)))]⟩
 | .gtr=>K ⟨false,[(1,.d .bool (decide (q<p)))]⟩
 | .geq=>K ⟨false,[(1,.d .bool (decide (q≤p)))]⟩
 |_=>False
def HF(op:BinOp)(p q:Bool)(K:Va U→Prop):Prop:=match op with
 | .eql=>K ⟨false,[(1,.d .bool (decide (p=q)))]⟩
 | .neq=>K ⟨false,[(1,.d .bool (decide (¬p=q)))]⟩
 |_=>False
end
end Go.Proofs.YtmpeiadlohbikaaGreatDoor.V
end

section
set_option linter.unusedVariables false
namespace Go.Proofs.YtmpeiadlohbikaaGreatDoor.V
open Go.RowKit
inductive Md where
 |n|d (s:aZ)|f1 (a:aZ)|f2 (a b:aZ)
 |p (fs:List (Nat×Option aZ))-- a pointer to our own cells,of which some become data
structure aW(U:bD) where
 md:List Md
 run:List (Va U)→List (aH U)→(AV U→List (aH U)→Prop)→Prop
abbrev c6(U:bD):=List (Nat×aW U)
section
variable {U:bD}
def HG(v:Va U)(K:Cx U→Prop):Prop:=match v with
 |⟨false,(_,c):: []⟩=>K c
 |_=>False
def gR(p:di)(R e:En U)(o:Operand)(K:Cx U→Prop):Prop:=j6 p R e o fun v=>HG v K
def fh(H:Hs U)(i:Nat)(x:aH U):(Hs U→Prop)→Prop:=
 List.rec (motive:=fun _=>(Hs U→Prop)→Prop) (fun _=>False) (fun y r ih K=>bif Nat.beq y.1 i then K ((i,x)::r)else ih fun r'=>K (y::r')) H
def vn(H:Hs U)(x:Cx U)(K:(e:aZ)→List (TT U.ty e)→Prop):Prop:=match x with
 | .d (.sl e) xs=>bif Nat.blt 0 (aG U e)then K e xs else False
 | .own i v=>(match aD H i with
  |some (.row v' e xs _)=>bif Nat.beq v v' then K e xs else False
  |some (.frz v' e xs)=>bif Nat.beq v v' then K e xs else False
  |_=>False)
 |_=>False
def tH(H:Hs U)(x:cd U)(K:Hs U→cd U→Prop):Prop:=match x with
 |(1,.own i v)=>(match aD H i with
  |some (.row v' e xs _)=>bif Nat.beq v v' then fh H i (.frz v e xs) fun H=>K H (1,.d (.sl e) xs)else False
  |some (.frz v' e xs)=>bif Nat.beq v v' then K H (1,.d (.sl e) xs)else False
  |some (.ext v' d xs none)=>bif Nat.beq v v' then fh H i (.frz v d.e xs) fun H=>K H (1,.d (.sl d.e) xs)else False
  |_=>False)
 |x=>K H x
def lF(l:List (cd U)):Hs U→(Hs U→List (cd U)→Prop)→Prop:=
 List.rec (motive:=fun _=>Hs U→(Hs U→List (cd U)→Prop)→Prop) (fun H K=>K H []) (fun x _ ih H K=>tH H x fun H y=>ih H fun H r=>K H (y::r)) l
def zj(s:aZ)(H:Hs U)(x:Va U)(K:Hs U→TT U.ty s→Prop):Prop:=lF x.l H fun H l=>cG 20 s l fun t=>K H t
def CY(T:cW U)(t:Nat)(l:List (cd U))(K:Va U→Prop):Prop:=match aD T t with
 |some ti=>(match ve ti.kd with
  |false=>(match l with
   |(_,.d (.st i) x):: []=>my (.d (.st i) x) fun l=>K ⟨false,l⟩
   |l=>K ⟨false,l⟩)
  |true=>K ⟨true,l⟩)
 |none=>False
def tI(T:cW U)(t:Nat)(H:Hs U)(x:Cx U)(K:Va U→Prop):Prop:=match aD T t with
 |some ti=>(match x with
  | .ptr i off=>(match aD H i with
   |some (.cells l _)=>mA l off ti.sz fun l=>CY T t l K
   |_=>False)
  | .pel i v q off=>(match aD H i with
   |some (.row v' e xs _)=>bif Nat.beq v v' then wz U e xs q fun x=>mA [(aG U e,.d e x)] off ti.sz fun l=>CY T t l K else False
   |some (.frz v' e xs)=>bif Nat.beq v v' then wz U e xs q fun x=>mA [(aG U e,.d e x)] off ti.sz fun l=>CY T t l K else False
   |some (.ext v' d _ (some (q0,o0,k,u)))=>bif Nat.beq v v'&&(Nat.beq off o0&&Nat.beq ti.sz 1)then VS (q=q0) (CY T t [(1,.own k u)] K)else False
   |_=>False)
  | .pax i off n e q o=>(match aD H i with
   |some (.cells l _)=>mA l off (n*aG U e) fun l=>cG 20 (.arr n e) l fun xs=>wz U e xs q fun x=>mA [(aG U e,.d e x)] o ti.sz fun l=>CY T t l K
   |_=>False)
  | .pd s x=>bif Nat.beq ti.sz (aG U s)then CY T t [(aG U s,.d s x)] K else False
  |_=>False)
 |none=>False
def nA(T:cW U)(t:Nat)(H:Hs U)(x:Cx U)(y:Va U)(K:Hs U→Prop):Prop:=match aD T t with
 |some ti=>(match x with
  | .ptr i off=>(match aD H i with
   |some (.cells l u)=>bif Nat.beq (ke y.l) ti.sz then rT 40 l off ti.sz y.l fun l=>fh H i (.cells l u) K else False
   |_=>False)
  | .pel i v q off=>lF y.l H fun H yl=>(match aD H i with
   |some (.row v' e xs u)=>bif Nat.beq v v'&&Nat.beq (ke yl) ti.sz then wz U e xs q fun x=>rT 40 [(aG U e,.d e x)] off ti.sz yl fun l=>cG 20 e l fun z=>fh H i (.row v e (xs.set q.toNat z) u) K else False
   |_=>False)
  | .pax i off n e q o=>lF y.l H fun H yl=>(match aD H i with
   |some (.cells l u)=>bif Nat.beq (ke yl) ti.sz then mA l off (n*aG U e) fun la=>cG 20 (.arr n e) la fun xs=>wz U e xs q fun x=>rT 40 [(aG U e,.d e x)] o ti.sz yl fun l'=>cG 20 e l' fun z=>rT 40 l off (n*aG U e) [(n*aG U e,.d (.arr n e) (List.set (α:=TT U.ty e) xs q.toNat z))] fun l=>fh H i (.cells l u) K else False
   |_=>False)
  |_=>False)
 |none=>False
def qH(H:Hs U)(i v:Nat):Bool:=match aD H i with
 |some (.row v' _ _ _)=>Nat.beq v v'
 |some (.frz v' _ _)=>Nat.beq v v'
 |some (.ext v' _ _ _)=>Nat.beq v v'
 |_=>false
def HH(T:cW U)(t f:Nat)(H:Hs U)(x:Cx U)(K:Cx U→Prop):Prop:=match aD T t with
 |some ti=>(match dT ti.fs f with
  |some (off,ft)=>(match x with
   | .ptr i o=>K (.ptr i (o+off))
   | .pel i v q o=>bif qH H i v then K (.pel i v q (o+off))else False
   | .pax i o n e q o'=>K (.pax i o n e q (o'+off))
   | .pd s y=>(match aD T ft with
    |some fi=>mA [(aG U s,.d s y)] off fi.sz fun l=>(match l with
     |(_,.d s' y'):: []=>bif Nat.beq ti.sz (aG U s)then K (.pd s' y')else False
     |_=>False)
    |none=>False)
   |_=>False)
  |none=>False)
 |none=>False
def HI(T:cW U)(t f:Nat)(l:List (cd U))(K:Va U→Prop):Prop:=match aD T t with
 |some ti=>(match dT ti.fs f with
  |some (off,ft)=>(match aD T ft with
   |some fi=>mA l off fi.sz fun l=>CY T ft l K
   |none=>False)
  |none=>False)
 |none=>False
def CZ(T:cW U)(p:di)(R e:En U)(fs:List (Nat×Nat))(ps:List (Nat×Operand)):List (cd U)→(List (cd U)→Prop)→Prop:=
 List.rec (motive:=fun _=>List (cd U)→(List (cd U)→Prop)→Prop) (fun l K=>K l) (fun x _ ih l K=>match dT fs x.1 with
  |some (off,ft)=>(match aD T ft with
   |some fi=>j6 p R e x.2 fun y=>bif Nat.beq (ke y.l) fi.sz then rT 40 l off fi.sz y.l fun l=>ih l K else False
   |none=>False)
  |none=>False) ps
def Kq(m el:Nat)(k:Nat):Nat→List (Nat×Nat):=
 Nat.rec (motive:=fun _=>Nat→List (Nat×Nat)) (fun _=> []) (fun _ ih off=>(off,el)::ih (off+m)) k
def C0(p:di)(R e:En U)(s:aZ)(k:Nat)(ps:List (Nat×Operand)):Nat→Hs U→(Hs U→List (TT U.ty s)→Prop)→Prop:=
 List.rec (motive:=fun _=>Nat→Hs U→(Hs U→List (TT U.ty s)→Prop)→Prop) (fun j H K=>bif Nat.beq j k then K H []else False) (fun x _ ih j H K=>bif Nat.beq x.1 j then j6 p R e x.2 fun y=>zj s H y fun H a=>ih (j+1) H fun H r=>K H (a::r)else False) ps
def pickK(b:Bool)(x y:Va U)(K:Va U→Prop):Prop:=match x,y with
 |⟨a,(k,.d s u):: []⟩,⟨a',(_,.d s' w):: []⟩=>bif a==a'&&Nat.beq k (aG U s)then(match dZ U.ty (fun x=>x) s' s w with
  |some w=>K ⟨a,[(k,.d s (bif b then u else w))]⟩
  |none=>False)else False
 |_,_=>False
def HJ(p:di)(R e:En U)(c a b:Operand)(K:Va U→Prop):Prop:=match c with
 | .tmp s=>gR p R e (.tmp s) fun v=>(match v with
  | .d .bool t=>(match a with
   | .const (.bool true)=>gR ((s,false)::p) R e b fun y=>(match y with
    | .d .bool u=>K ⟨false,[(1,.d .bool (t||u))]⟩
    |_=>False)
   |_=>(match b with
    | .const (.bool false)=>gR ((s,true)::p) R e a fun y=>(match y with
     | .d .bool u=>K ⟨false,[(1,.d .bool (t&&u))]⟩
     |_=>False)
    |_=>j6 ((s,true)::p) R e a fun x=>j6 ((s,false)::p) R e b fun y=>pickK t x y K))
  |_=>False)
 |_=>False
def zk(T:cW U)(t:Nat)(K:Kd→Prop):Prop:=match aD T t with
 |some ti=>K ti.kd
 |none=>False
def zl:Kd→Bool| .sl _=>true|_=>false
def pa:Kd→Bool| .str=>true|_=>false
def CJ(T:cW U)(t:Nat)(K:Nat→TI U→Prop):Prop:=match aD T t with
 |some ti=>(match ti.kd with
  | .sl e=>(match aD T e with|some ei=>K e ei|none=>False)
  |_=>False)
 |none=>False
def nK(neg b:Bool)(K:Va U→Prop):Prop:=match neg with
 |true=>K ⟨false,[(1,.d .bool (!b))]⟩
 |false=>K ⟨false,[(1,.d .bool b)]⟩
def HK(neg:Bool)(H:Hs U)(x:Cx U)(K:Va U→Prop):Prop:=match x with
 | .nilp| .nils=>K ⟨false,[(1,.d .bool (!neg))]⟩
 | .ptr _ _| .pd _ _| .pax _ _ _ _ _ _=>K ⟨false,[(1,.d .bool neg)]⟩
 | .pel i v _ _=>bif qH H i v then K ⟨false,[(1,.d .bool neg)]⟩else False
 |x=>vn H x fun e xs=> ∀b:Bool,(b=true→xs= [])→nK neg b K
def zm(T:cW U)(t:Nat)(x y:Cx U):Bool:=match x,y with
 | .nilp,.nilp| .ptr _ _,.nilp| .pd _ _,.nilp| .pel _ _ _ _,.nilp| .pax _ _ _ _ _ _,.nilp=>(match aD T t with|some ti=>(match ti.kd with| .ptr _=>true|_=>false)|none=>false)
 | .nils,.nils| .own _ _,.nils| .d (.sl _) _,.nils=>(match aD T t with|some ti=>(match ti.kd with| .sl _=>true|_=>false)|none=>false)
 |_,_=>false
def ON(T:cW U)(t:Nat):Bool:=match aD T t with
 |some ti=>(match ti.kd with
  | .ptr e=>(match aD T e with
   |some ei=>Nat.blt 0 ei.sz
   |none=>false)
  |_=>false)
 |none=>false
def HL(g:Prop→Prop)(T:cW U)(op:BinOp)(t:Nat)(H:Hs U)(x y:Cx U)(K:Va U→Prop):Prop:=match x,y with
 | .d (.int k) p,.d (.int k') q=>HD g op k p k' q K
 | .d .str p,.d .str q=>HE g op p q K
 | .d .bool p,.d .bool q=>zk T t fun k=>(match k with| .bool=>HF op p q K|_=>False)
 | .ptr i a,.ptr j b=>bif Nat.beq i j&&ON T t then(match op with
  | .eql=>nK false (Nat.beq a b) K
  | .neq=>nK true (Nat.beq a b) K
  |_=>False)else False
 |x,y=>bif zm T t x y then(match op with
  | .eql=>HK false H x K
  | .neq=>HK true H x K
  |_=>False)else False
def RY(U:bD)(s:aZ):TT U.ty s→TT U.ty s→(Bool→Prop)→Prop:=match s with
 | .st i=>fun a b K=>(U.rd i).eqK a b K
 | .arr _ (.int _)=>fun(a b:List Int) K=>K (decide (a=b))
 | .arr _ .bool=>fun(a b:List Bool) K=>K (decide (a=b))
 | .arr _ .str=>fun(a b:List (List UInt8)) K=>K (decide (a=b))
 |_=>fun _ _ _=>False
def HM(g:Prop→Prop)(T:cW U)(op:BinOp)(t:Nat)(H:Hs U)(x y:Va U)(K:Va U→Prop):Prop:=match x,y with
 |⟨false,(_,a):: []⟩,⟨false,(_,b):: []⟩=>HL g T op t H a b K
 |⟨true,l⟩,⟨true,l'⟩=>(match aD T t with
  |some ti=>(match ti.sh,ti.cmp with
   |some s,true=>cG 20 s l fun a=>cG 20 s l' fun b=>RY U s a b fun r=>(match op with
    | .eql=>K ⟨false,[(1,.d .bool r)]⟩
    | .neq=>K ⟨false,[(1,.d .bool (!r))]⟩
    |_=>False)
   |_,_=>False)
  |none=>False)
 |_,_=>False
def HN:Kd→Bool| .mp _ _=>true|_=>false
def zn(H:Hs U)(x:Cx U)(K:(d:KD U)→List (TT U.ty d.k×TT U.ty d.v)→Prop):Prop:=match x with
 | .mp i=>(match aD H i with
  |some (.map d l)=>K d l
  |some (.mapr d l _ _ _)=>K d l
  |_=>False)
 |_=>False
def x6(T:cW U)(t:Nat)(d:KD U):Bool:=match aD T t with
 |some ti=>(match ti.kd with
  | .mp k v=>Nat.beq k d.kt&&Nat.beq v d.vt
  |_=>false)
 |none=>false
def tJ(s:aZ)(x:TT U.ty s):Va U:=⟨eK s,[(aG U s,.d s x)]⟩
def KP(ok:Bool)(d:KD U)(r:Option (TT U.ty d.v))(K:AV U→Prop):Prop:=match ok with
 |true=>K (.tup [tJ d.v (r.getD d.zero),⟨false,[(1,.d .bool r.isSome)]⟩])
 |false=>K (.v (tJ d.v (r.getD d.zero)))
def HO(T:cW U)(t:Nat)(H:Hs U)(x:Cx U)(K:Int→Prop):Prop:=match x with
 | .d .str s=>zk T t fun k=>bif pa k then K (s.length:Int)else False
 | .nils=>zk T t fun k=>bif zl k then K 0 else False
 | .mp i=>zk T t fun k=>bif HN k then zn H (.mp i) fun _ l=>VS ((l.length:Int)≤9223372036854775807) (K (l.length:Int))else False
 |x=>zk T t fun k=>bif zl k then vn H x fun _ xs=>K (xs.length:Int)else False
def HP(g:Prop→Prop)(T:cW U)(t:Nat)(x:Cx U)(q:Int)(K:Va U→Prop):Prop:=match x with
 | .d .str s=>zk T t fun k=>bif pa k then VS (g (0≤q∧q<s.length)) (K ⟨false,[(1,.d (.int .u8) ((ix s q).toNat:Int))]⟩)else False
 |_=>False
def KQ(g:Prop→Prop)(T:cW U)(t:Nat)(H:Hs U)(x:Cx U)(q:Int)(K:Cx U→Prop):Prop:=CJ T t fun _ ei=>match x with
 | .d (.sl e) xs=>bif Nat.beq ei.sz (aG U e)&&Nat.blt 0 (aG U e)then VS (g (0≤q∧q<xs.length)) (wz U e xs q fun y=>K (.pd e y))else False
 | .own i v=>(match aD H i with
  |some (.row v' e xs _)=>bif Nat.beq v v'&&Nat.beq ei.sz (aG U e)then VS (g (0≤q∧q<xs.length)) (K (.pel i v q 0))else False
  |some (.frz v' e xs)=>bif Nat.beq v v'&&Nat.beq ei.sz (aG U e)then VS (g (0≤q∧q<xs.length)) (wz U e xs q fun y=>K (.pd e y))else False
  |some (.ext v' d xs _)=>bif Nat.beq v v'&&Nat.beq ei.sz (aG U d.e)then VS (g (0≤q∧q<xs.length)) (K (.pel i v q 0))else False
  |_=>False)
 |_=>False
def HQ(g:Prop→Prop)(T:cW U)(t:Nat)(l:List (cd U))(q:Int)(K:Va U→Prop):Prop:=match aD T t with
 |some ti=>(match ti.kd,ti.sh with
  | .arr n e,some (.arr m s)=>(match aD T e with
   |some ei=>bif Nat.beq n m&&Nat.beq ei.sz 1&&Nat.beq (aG U s) 1&&!ve ei.kd then cG 20 (.arr m s) l fun xs=>VS (g (0≤q∧q<n)) (wz U s xs q fun x=>K ⟨false,[(1,.d s x)]⟩)else False
   |none=>False)
  |_,_=>False)
 |none=>False
def OO(K:Cx U→Prop)(i off sz:Nat)(q:Int)(n:Nat):Prop:=match n with
 |2=>y2 (decide (q=0)) (K (.ptr i off)) (K (.ptr i (off+sz)))
 |3=>y2 (decide (q=0)) (K (.ptr i off)) (y2 (decide (q=1)) (K (.ptr i (off+sz))) (K (.ptr i (off+2*sz))))
 |_=>False
def HR(g:Prop→Prop)(T:cW U)(n e:Nat)(x:Cx U)(y:Operand)(q:Int)(K:Cx U→Prop):Prop:=match aD T e with
 |some ei=>(match ei.sh with
  |some s=>bif Nat.beq ei.sz (aG U s)then(match x with
   | .ptr i off=>(match y with
    | .const (.int _ (.ofNat c))=>bif Nat.blt c n then K (.ptr i (off+c*aG U s))else False
    |_=>SQ (VS (g (0≤q∧q<n)) (K (.pax i off n s q 0))) (VS (g (0≤q∧q<n)) (OO K i off (aG U s) q n)))
   | .pd (.arr m s') xs=>bif Nat.beq n m&&Nat.beq (aG U s') (aG U s)then VS (g (0≤q∧q<n)) (wz U s' xs q fun x=>K (.pd s' x))else False
   |_=>False)else False
  |none=>False)
 |none=>False
def C3(T:cW U)(t:Nat):Option (Nat×Nat):=match aD T t with
 |some ti=>(match ti.kd with
  | .arr n e=>some (n,e)
  |_=>none)
 |none=>none
def qI(p:di)(R e:En U)(o:Option Operand)(d:Int)(K:Int→Prop):Prop:=match o with
 |none=>K d
 |some o=>gR p R e o fun v=>(match v with
  | .d (.int _) q=>K q
  |_=>False)
def C4(g:Prop→Prop)(T:cW U)(t:Nat)(p:di)(R e:En U)(x:Cx U)(lo hi:Option Operand)(K:Cx U→Prop):Prop:=match x with
 | .d .str s=>zk T t fun k=>bif pa k then qI p R e lo 0 fun a=>qI p R e hi (s.length:Int) fun b=>VS (g (0≤a∧a≤b∧b≤s.length)) (match lo,hi with
  |none,_=>K (.d .str (s.take b.toNat))
  |_,none=>K (.d .str (s.drop a.toNat))
  |_,_=>K (.d .str ((s.take b.toNat).drop a.toNat)))else False
 | .d (.sl s) xs=>CJ T t fun _ ei=>bif Nat.beq ei.sz (aG U s)then qI p R e lo 0 fun a=>qI p R e hi (xs.length:Int) fun b=>VS (g (0≤a∧a≤b∧b≤xs.length)) (match lo,hi with
  |none,_=>K (.d (.sl s) (xs.take b.toNat))
  |_,none=>K (.d (.sl s) (xs.drop a.toNat))
  |_,_=>K (.d (.sl s) ((xs.take b.toNat).drop a.toNat)))else False
 |_=>False
def Ga(H:Hs U):Cx U→Bool
 | .ptr _ _| .pd _ _| .pax _ _ _ _ _ _=>true
 | .pel i v _ _=>qH H i v
 |_=>false
def OP(l:List (Va U)):(List Nat→Prop)→Prop:=
 List.rec (motive:=fun _=>(List Nat→Prop)→Prop) (fun K=>K []) (fun x _ ih K=>match x with
  |⟨false,(_,.ptr j 0):: []⟩=>ih fun r=>K (j::r)
  |_=>False) l
def OQ(p:di)(R e:En U)(x:Operand)(K:AV U→Prop):Prop:=match x with
 | .tmp t=>(match aD R t with
  |some (.gd q y)=>bif iK q p then K (.v y)else False
  |some _=>False
  |none=>(match aD e t with
   |some (.v y)=>K (.v y)
   |some (.tup l)=>K (.tup l)
   |_=>False))
 |x=>j6 p R e x fun v=>K (.v v)
def lN(g:Prop→Prop)(T:cW U)(p:di)(o:Oper)(R e:En U)(H:Hs U)(K:AV U→Prop):Prop:=match o.op with
 | .move x=>OQ p R e x K
 | .assign x=>j6 p R e x fun v=>K (.v v)
 | .pick c a b=>HJ p R e c a b fun v=>K (.v v)
 | .load t x=>gR p R e x fun c=>tI T t H c fun v=>K (.v v)
 | .nilCheck x=>gR p R e x fun c=>bif Ga H c then K (.v ⟨false,[(1,c)]⟩)else False
 | .binOp op t x y _=>j6 p R e x fun v=>j6 p R e y fun w=>HM g T op t H v w fun v=>K (.v v)
 | .unOp op _ x=>gR p R e x fun c=>(match op,c with
  | .not,.d .bool b=>K (.v ⟨false,[(1,.d .bool (!b))]⟩)
  | .neg,.d (.int k) q=>F9 g k q q (Neg.neg (α:=Int) q) fun r=>K (.v ⟨false,[(1,.d (.int k) r)]⟩)
  |_,_=>False)
 | .fieldAddr t x f=>gR p R e x fun c=>HH T t f H c fun c=>K (.v ⟨false,[(1,c)]⟩)
 | .field t x f=>j6 p R e x fun v=>(match v.ag with
  |true=>HI T t f v.l fun v=>K (.v v)
  |false=>False)
 | .indexAddr t x y=>gR p R e x fun c=>gR p R e y fun d=>(match d with
  | .d (.int _) q=>(match C3 T t with
   |some (n,el)=>HR g T n el c y q fun c=>K (.v ⟨false,[(1,c)]⟩)
   |none=>KQ g T t H c q fun c=>K (.v ⟨false,[(1,c)]⟩))
  |_=>False)
 | .index t x y=>j6 p R e x fun v=>gR p R e y fun d=>(match d with
  | .d (.int _) q=>(match v.ag with
   |true=>HQ g T t v.l q fun v=>K (.v v)
   |false=>HG v fun c=>HP g T t c q fun v=>K (.v v))
  |_=>False)
 | .slice t x lo hi none=>gR p R e x fun c=>C4 g T t p R e c lo hi fun c=>K (.v ⟨false,[(1,c)]⟩)
 | .lookup t m kx ok=>gR p R e m fun c=>j6 p R e kx fun kv=>zn H c fun d l=>bif x6 T t d&&(kv.ag==eK d.k)then cG 20 d.k kv.l fun k=>KP ok d (@bO _ _ d.dec l k) K else False
 | .entry x=>gR p R e x fun c=>(match c with
  | .ptr j 0=>(match aD H j with
   |some (.it i gh)=>(match aD H i with
    |some (.mapr d l left (q:: []) gh')=>VS (gh=gh') (K (.tup [tJ d.k q.1,tJ d.v q.2]))
    |_=>False)
   |_=>False)
  |_=>False)
 | .extract x i=>(match x with
  | .tmp t=>(match aD R t with
   |some _=>False
   |none=>(match aD e t with
    |some (.tup l)=>(match dT l i with|some v=>K (.v v)|none=>False)
    |_=>False))
  |_=>False)
 | .build t ps=>(match aD T t with
  |some ti=>(match ti.kd with
   | .st=>CZ T p R e ti.fs ps.toList ti.zero fun l=>K (.v ⟨true,l⟩)
   | .arr k el=>(match aD T el with
    |some ei=>CZ T p R e (Kq ei.sz el k 0) ps.toList ti.zero fun l=>K (.v ⟨true,l⟩)
    |none=>False)
   |_=>False)
  |none=>False)
 | .makeFunc (.func f) first caps=>(match first.toList with
  | []=>qG p R e caps.toList fun xs=>OP xs fun js=>K (.v ⟨false,[(1,.clo f js)]⟩)
  |_=>False)
 | .convert s d x=>gR p R e x fun c=>zk T s fun _=>zk T d fun kd=>(match c,kd with
  | .d (.int k) q,.int k'=>Og (g (dS k q→dS k' q)) (K (.v ⟨false,[(1,.d (.int k') q)]⟩)) (OM k' q fun r=>K (.v ⟨false,[(1,.d (.int k') r)]⟩))
  |_,_=>False)
 | .call c=>(match c.callee,c.args.toList,c.argTypes.toList with
  | .builtin .len,x:: [],t:: []=>gR p R e x fun a=>HO T t H a fun r=>K (.v ⟨false,[(1,.d (.int .i64) r)]⟩)
  | .builtin .max,x::y:: [],_::_:: []=>gR p R e x fun a=>gR p R e y fun b=>(match a,b with
   | .d (.int k) a,.d (.int k') b=>bif kb k k' then K (.v ⟨false,[(1,.d (.int k) (max (α:=Int) a b))]⟩)else False
   |_,_=>False)
  | .builtin .min,x::y:: [],_::_:: []=>gR p R e x fun a=>gR p R e y fun b=>(match a,b with
   | .d (.int k) a,.d (.int k') b=>bif kb k k' then K (.v ⟨false,[(1,.d (.int k) (min (α:=Int) a b))]⟩)else False
   |_,_=>False)
  |_,_,_=>False)
 |_=>False
end
end Go.Proofs.YtmpeiadlohbikaaGreatDoor.V
end

/- The rules of the walks once more, with their closed conditions as one equation: the printed walks are shorter. -/
import Derived.Test.YtmpeiadlohbikaaGreatDoorAt12
import Derived.Test.YtmpeiadlohbikaaGreatDoorAt3
import Derived.Lib.AppendZerosOnto
import Derived.Lib.Overlaps
import Derived.Test.YtmpeiadlohbikaaGreatDoorAt2
section
set_option linter.unusedVariables false
set_option linter.unusedSimpArgs false
namespace Go.Proofs.YtmpeiadlohbikaaGreatDoor.V
open Go.RowKit
def IG(ρf:Nat→Nat):Operand→Operand
 | .func f=> .func (ρf f)
 |x=>x
def DY(ρf ρt:Nat→Nat)(c:Go.Call):Go.Call:={c with callee:=(match c.callee with| .value x=> .value (IG ρf x)|x=>x),args:=(c.args.toList.map (IG ρf)).toArray,argTypes:=(c.argTypes.toList.map ρt).toArray}
def Lk(ρf ρt:Nat→Nat):Op→Op
 | .alloc t=> .alloc (ρt t)
 | .box t x=> .box (ρt t) x
 | .buildSlice t k ps=> .buildSlice (ρt t) k ps
 | .load t x=> .load (ρt t) x
 | .store t x y=> .store (ρt t) x y
 | .binOp b t x y u=> .binOp b (ρt t) x y (ρt u)
 | .unOp b t x=> .unOp b (ρt t) x
 | .convert t u x=> .convert (ρt t) (ρt u) x
 | .makeSlice t x y=> .makeSlice (ρt t) x y
 | .slice t x l h m=> .slice (ρt t) x l h m
 | .indexAddr t x y=> .indexAddr (ρt t) x y
 | .index t x y=> .index (ρt t) x y
 | .call c=> .call (DY ρf ρt c)
 | .range t x=> .range (ρt t) x
 |o=>o
def O1(ρf ρt:Nat→Nat)(o:Oper):Oper:={o with op:=Lk ρf ρt o.op,type:=ρt o.type}
def eM(ρf ρt:Nat→Nat):Code→Code
 | .region i ops d=> .region i (ops.toList.map (O1 ρf ρt)).toArray d
 | .seq a b=> .seq (eM ρf ρt a) (eM ρf ρt b)
 | .cond c a b=> .cond c (eM ρf ρt a) (eM ρf ρt b)
 | .block i a=> .block i (eM ρf ρt a)
 | .loop a=> .loop (eM ρf ρt a)
 | .rangeFunc g ps a b=> .rangeFunc (IG ρf g) ps (eM ρf ρt a) (eM ρf ρt b)
 |c=>c
def cU(fn:Go.Func):Code:=match fn.body with|some c=>c|none=> .skip
structure Em(U:bD)(Y:List Nat)(w:World)(s:aZ) where
 x:TT U.ty s
 c:List Value
 den:aC U Y (· =w) s x c
section
variable {U:bD} {Y:List Nat} {w:World} {s:aZ}
theorem Em.hl(e:Em U Y w s):e.c.length=aG U s:=e.den.length
theorem Em.h1(e:Em U Y w s): ∀v∈e.c,v.oneCell'=true:=e.den.one
theorem xl: ∀{xs:List (TT U.ty s)} {cs:List Value},aR U Y (· =w) s xs cs→ ∃l:List (Em U Y w s),l.map (·.x)=xs∧l.flatMap (·.c)=cs
 | [],cs,h=>⟨[],rfl,(h.nil_inv).symm⟩
 |x::xs,cs,h=>by
  obtain⟨v1,v2,rfl,h1,hl,hr⟩:=h.cons_inv;obtain⟨l,e1,e2⟩:=xl hr;exact⟨⟨x,v1,h1⟩::l,by simp[e1],by simp[e2]⟩
theorem i7: ∀(l:List (Em U Y w s)),aR U Y (· =w) s (l.map (·.x)) (l.flatMap (·.c))
 | []=> .nil s
 |e::l=> .cons s e.x _ e.c _ e.den e.den.length (i7 l)
end
end Go.Proofs.YtmpeiadlohbikaaGreatDoor.V
end

section
set_option linter.unusedVariables false
set_option linter.unusedSimpArgs false
namespace Go.Proofs.YtmpeiadlohbikaaGreatDoor
open Go.RowKit
section
variable [bB] {P:Program} {n:Nat} {env:aI} {S:World→Prop} {o:Oper}
theorem wc{x:Operand}{t e:Nat}{b:Option Addr}{l c:Nat}(ho:o.op= .call {callee:= .builtin .cap,args:= #[x],argTypes:= #[t]})(hx:env.ev x=some (.slice b l c))(ht:P.underlying t=some (.slice e)):ci P n env S o (.int .i64 c):=fun a r w _=>
 eF ho (r.eval hx) fun cs=>by
  have h:(Builtin.cap_ #[t] o.type #[.slice b l c]).run P w= .ok (goInt c) w:=by simp[Builtin.cap_,run_underlying ht]
  simp only[builtin,Sem.run_bind,h,Result.andThen_ok];rfl
end
theorem kM{α:Type}{enc:α→List Value}{m:Nat}(u:α)(hm:(enc u).length=m)(k:Nat):Builtin.zeroCells (enc u).toArray k=((List.replicate k u).flatMap enc).toArray:=by
 rw[uP,←na (enc u) k m hm];unfold Builtin.zeroCells madeCells;simp[hm]
section
variable [bB] {P:Program} {n:Nat} {env:aI} {w:World} {o:Oper} {K:aI→World→Prop} {H:bZ}
theorem Ba{α:Type}{enc:α→List Value}{t tn e m by' c l:Nat}{x y:Operand}{A:Option Addr}{xs:List α}{u:α}{z:List Value}{k kn:IntKind}{q:Int}(ho:o.op= .call {callee:= .builtin .append,args:= #[x,y],argTypes:= #[t,tn]}){d:Nat}(hd:o.dst=some d)(hn:Nat.blt d n=true)
  (hx:env.ev x=some (.slice A l c)) (hy:env.ev y=some (.int k q)) (hl:l=xs.length) (ht:aq P t=some (e,m)) (htn:P.underlying tn=some (.int kn)) (hz:zeroCells P e=some z) (hzu:z=enc u) (hby:(P.info? e).map (·.bytes)=some by') (hm: ∀x,(enc x).length=m) (hm0:0<m)
  (hsrc: ∀ad,A=some ad→ ∀j v,(xs.flatMap enc)[j]? =some v→w.cell? (ad.add j)=some v) (hA:A=none→xs.length=0) (h0:0<q) (hg:(c:Int)<l+q) (h63:l+q≤9223372036854775807) (hbytes:(xs.length+q.toNat)*by'≤140737488355328) (h:Hp w H)
  (hK: ∀g c' sp' w',Ow (some ⟨g,0,none⟩) (xs++List.replicate q.toNat u).length c' m ((xs++List.replicate q.toNat u).flatMap enc) sp'→Hp w' (H++ [(some g,Cl ((xs++List.replicate q.toNat u).flatMap enc++sp') e)])→Fr [] w w'→w.heap.size≤g→K ((d,.slice (some ⟨g,0,none⟩) (xs++List.replicate q.toNat u).length c')::env) w'):bH P n env w o K:=by
 subst hl;obtain⟨j,rfl⟩:=Int.eq_ofNat_of_zero_le (Int.le_of_lt h0);simp only[Int.toNat_natCast]at hK hbytes;obtain⟨hu,hs⟩:=bq ht;unfold zeroCells at hz;cases hq:P.info? e with
 |none=>simp[hq]at hz
 |some inf=>
  cases hzz:inf.zero with
  |none=>simp[hq,hzz]at hz
  |some z0=>
   have hz':z0.cells=(enc u).toArray:=by simp[hq,hzz]at hz;rw[←hzu,←hz]
   have hms:inf.size=m:=by simpa[hq]using hs
   have hb:inf.bytes=by':=by simpa[hq]using hby
   have hold:(Builtin.firstCells inf.size xs.length (.slice A xs.length c)).run P w.drew= .ok (xs.flatMap enc).toArray w.drew:=by
    cases A with
    |none=>
     have hx0:xs= []:=List.eq_nil_of_length_eq_zero (hA rfl);subst hx0;simp[Builtin.firstCells]
    |some ad=>exact run_firstCells_some (P:=P) w.drew inf.size xs.length ad xs.length c (xs.flatMap enc) (by rw[bc hm,hms]) (by simpa using hsrc ad rfl)
   have h63':((xs.length+j:Nat):Int)≤9223372036854775807:=by omega
   have hjb:j*inf.bytes≤281474976710656:=by
    rw[hb];have:=Nat.mul_le_mul_right by' (show j≤xs.length+j by omega);omega
   have hrun:=Lib.run_append_grow_zeros (P:=P) w t tn o.type e inf z0 k kn hu htn hq hzz A xs.length c (xs.flatMap enc) hold j (by omega) (by omega) (by omega) h63' hjb (growslice_fits (by omega) (by rw[hb];exact hbytes));rw[hz',kM u (hm u),kM u (hm u)]at hrun;have hge:=grownCap_ge w (xs.length+j) c e;have hcm:=grownCap_le_maxLen w (xs.length+j) c e (by unfold maxLen;omega);have e1:((xs.flatMap enc).toArray++((List.replicate j u).flatMap enc).toArray++((List.replicate (grownCap w (xs.length+j) c e -(xs.length+j)) u).flatMap enc).toArray)=((xs++List.replicate j u).flatMap enc++(List.replicate (grownCap w (xs.length+j) c e -(xs.length+j)) u).flatMap enc).toArray:=by simp
   rw[e1]at hrun;have hL:(xs++List.replicate j u).length=xs.length+j:=by simp
   have:=hK w.heap.size (grownCap w (xs.length+j) c e) ((List.replicate (grownCap w (xs.length+j) c e -(xs.length+j)) u).flatMap enc) _ ⟨by rw[bc hm],.inr ⟨_,rfl,by rw[←List.flatMap_append,bc hm,List.length_append,hL,List.length_replicate];congr 1;omega,by rw[hL];exact hge,hcm⟩⟩ (h.drew.alloc _) ((Fr.drew w).step0 (Fr.alloc w.drew _)) (Nat.le_refl _);rw[hL]at this;refine fI hd hn (fun a r=>?_) this;refine dN ho (r.eval hx) (r.eval hy) fun cs=>?_;simp only[builtin,Sem.run_bind,hrun,Result.andThen_ok];rfl
omit [bB]in
theorem yH{α:Type}{enc:α→List Value}{m:Nat}(hm: ∀x,(enc x).length=m)(xs ys:List α)(sp:List Value)(p:Nat)(h:p+ys.length≤xs.length):
  (xs.flatMap enc++sp).take (0+p*m)++ys.flatMap enc++(xs.flatMap enc++sp).drop (0+p*m+(ys.flatMap enc).length)=(xs.take p++ys++xs.drop (p+ys.length)).flatMap enc++sp:=by
 have hlen:=bc hm xs;have h1:p*m≤xs.length*m:=Nat.mul_le_mul_right m (by omega);have h2:(p+ys.length)*m≤xs.length*m:=Nat.mul_le_mul_right m h;rw[Nat.zero_add,bc hm ys,←Nat.add_mul,List.take_append_of_le_length (by rw[hlen];exact h1),List.drop_append_of_le_length (by rw[hlen];exact h2),lC hm,lB hm];simp
theorem xH{α:Type}{enc:α→List Value}{t t' e m g dc g2 b2 sl sc i l c dl k:Nat}{x y:Operand}{xs ys:List α}{sp:List Value}{p:Int}(ho:o.op= .call {callee:= .builtin .copy,args:= #[x,y],argTypes:= #[t,t']}){d:Nat}(hd:o.dst=some d)(hn:Nat.blt d n=true)
  (hx:env.ev x=some (.slice (some ⟨g,0+p.toNat*m,none⟩) dl dc)) (hy:env.ev y=some (.slice (some ⟨g2,b2,none⟩) sl sc)) (ht:aq P t=some (e,m)) (hm: ∀x,(enc x).length=m) (hm0:0<m) (h1: ∀x,∀v∈enc x,v.oneCell'=true) (hk:Nat.min sl dl=ys.length)
  (hvs:w.rangeAt g2 b2 (ys.flatMap enc)) (how:Ow (some ⟨g,0,none⟩) l c m (xs.flatMap enc) sp) (hl:l=xs.length) (h:Hp w H) (hi:H[i]? =some (ab (some ⟨g,0,none⟩),Cl (xs.flatMap enc++sp) k)) (hfit:p.toNat+ys.length≤xs.length)
  (hK: ∀w',Ow (some ⟨g,0,none⟩) l c m ((xs.take p.toNat++ys++xs.drop (p.toNat+ys.length)).flatMap enc) sp→Hp w' (H.set i (ab (some ⟨g,0,none⟩),Cl ((xs.take p.toNat++ys++xs.drop (p.toNat+ys.length)).flatMap enc++sp) k))→Fr [g] w w'→K ((d,(.int .i64 ys.length))::env) w'):bH P n env w o K:=by
 subst hl;have hlen:=bc hm xs;have hys:=bc hm ys;have h2:(p.toNat+ys.length)*m≤xs.length*m:=Nat.mul_le_mul_right m hfit;rw[Nat.add_mul]at h2;refine wf ho hd hn hx hy ht hk hvs hys (fun v hv=>by obtain⟨x,_,hx⟩:=List.mem_flatMap.1 hv;exact h1 x v hx) h hi (by rw[List.length_append,hlen,hys];omega) fun w' hp hf _=>?_;rw[yH hm xs ys sp p.toNat hfit]at hp;have hL:(xs.take p.toNat++ys++xs.drop (p.toNat+ys.length)).length=xs.length:=by simp;omega
 refine hK w' ⟨by rw[bc hm,hL],?_⟩ hp hf;rcases how.2 with⟨h3,_⟩|⟨g',e2,h3,h4,h5⟩
 ·cases h3
 ·exact .inr ⟨g',e2,by rw[←h3,List.length_append,List.length_append,bc hm,hL,hlen],h4,h5⟩
theorem wd{f t tR e m g b g2 b2 la ca lb cb i j ti tj:Nat}{fn:Func}{xs:List Operand}{ts:Array TypeId}{cs cs2:List Value}(ho:o.op= .call {callee:= .value (.func f),args:=xs.toArray,argTypes:=ts}){d:Nat}(hd:o.dst=some d)(hn:Nat.blt d n=true)
  (hf:P.funcs[f]? =some fn) (hname:(fn.name== "runtime.NumGoroutine")=false) (hb:fn.body.isNone=true) (hnx:Extern.findNext fn=none) (hx:Extern.find fn=some (Extern.SlicesOverlaps.overlaps #[t,t] #[tR])) (ht:aq P t=some (e,m))
  (hxs:env.evs xs=some [.slice (some ⟨g,b,none⟩) la ca,.slice (some ⟨g2,b2,none⟩) lb cb]) (h:Hp w H) (hi:H[i]? =some (some g,Cl cs ti)) (hj:H[j]? =some (some g2,Cl cs2 tj)) (hij:i≠j) (hc:cs2.length≠0)
  (hK:K ((d,.bool false)::env) w):bH P n env w o K:=by
 obtain⟨hu,hs⟩:=bq ht;have hg:=h.at hi;have hg2:=h.at hj;have hne:=h.ne hi hj hij;have hov:=Lib.run_overlaps_apart (P:=P) w t tR e hu m (fun w=>bX hs w) ⟨g,b,none⟩ ⟨g2,b2,none⟩ la ca lb cb hne ti tj cs.length cs2.length (by simp[World.shape?,hg]) (by simp[World.shape?,hg2]) hc (by simp[World.frozen?,hg]) (by simp[World.frozen?,hg]);refine fI hd hn (v:= .bool false) (w':=w) (fun a r=>?_) hK;have e':(xs.toArray.map a.eval)= #[.slice (some ⟨g,b,none⟩) la ca,.slice (some ⟨g2,b2,none⟩) lb cb]:=by rw[List.map_toArray,r.evals hxs]
 unfold execOp;simp only[ho,resolve,e',Act.eval,Deferred.ofValue,Sem.run_bind,Sem.run_pure,Result.andThen_ok,invoke];simp[run_callFunc_extern hf hname hb hnx hx,hov]
theorem EH{α:Type}{enc:α→List Value}{t t' e m g dc sl sc j dl ty mm:Nat}{x y:Operand}{xs:List α}{sp:List Value}{p i:Int}(ho:o.op= .call {callee:= .builtin .copy,args:= #[x,y],argTypes:= #[t,t']}){d:Nat}(hd:o.dst=some d)(hn:Nat.blt d n=true)
  (hx:env.ev x=some (.slice (some ⟨g,0+p.toNat*m,none⟩) dl dc)) (hy:env.ev y=some (.slice (some ⟨g,0+i.toNat*m,none⟩) sl sc)) (ht:aq P t=some (e,m)) (hm: ∀x,(enc x).length=m) (h1: ∀x,∀v∈enc x,v.oneCell'=true) (h0:0≤i) (hp:p.toNat=i.toNat+mm) (hin:i≤xs.length) (hk:Nat.min sl dl=xs.length - i.toNat)
  (h:Hp w H) (hi:H[j]? =some (some g,Cl (xs.flatMap enc++sp) ty)) (hsp:mm*m≤sp.length)
  (hK: ∀hole w',hole.length=mm*m→Hp w' (H.set j (some g,Cl ((xs.take i.toNat).flatMap enc++hole++((xs.drop i.toNat).flatMap enc++sp.drop (mm*m))) ty))→Fr [g] w w'→K ((d,(.int .i64 ((xs.length - i.toNat:Nat):Int)))::env) w'):bH P n env w o K:=by
 have hil:i.toNat≤xs.length:=by omega
 have hlen:=bc hm xs;have hle:i.toNat*m≤xs.length*m:=Nat.mul_le_mul_right m hil;have hA:=lC hm (l:=xs) (k:=i.toNat);have hB:=lB hm (l:=xs) (k:=i.toNat);have hAl:((xs.take i.toNat).flatMap enc).length=i.toNat*m:=by rw[bc hm,List.length_take];congr 1;omega
 have hBl:((xs.drop i.toNat).flatMap enc).length=(xs.length - i.toNat)*m:=by rw[bc hm,List.length_drop]
 have hsplit:xs.flatMap enc=(xs.take i.toNat).flatMap enc++(xs.drop i.toNat).flatMap enc:=by rw[←List.flatMap_append,List.take_append_drop]
 have hvs:w.rangeAt g (0+i.toNat*m) ((xs.drop i.toNat).flatMap enc):=by
  have:=qm (k:=0+i.toNat*m) (m:=((xs.drop i.toNat).flatMap enc).length) h hi;rw[hsplit,Nat.zero_add,List.append_assoc,←hAl,List.drop_left,List.take_left]at this;rw[Nat.zero_add,←hAl];exact this
 have hs:(xs.length - i.toNat)*m=xs.length*m - i.toNat*m:=Nat.sub_mul ..;refine wf (vs:=(xs.drop i.toNat).flatMap enc) ho hd hn hx hy ht hk hvs hBl (fun v hv=>by obtain⟨x,_,hx⟩:=List.mem_flatMap.1 hv;exact h1 x v hx) h hi (by rw[List.length_append,hlen,hBl,hp,Nat.add_mul];omega) fun w' hp' hf _=>?_;refine hK (((xs.drop i.toNat).flatMap enc++sp).take (mm*m)) w' (by rw[List.length_take,List.length_append];omega) ?_ hf;have e1:(xs.flatMap enc++sp).take (0+p.toNat*m)=(xs.take i.toNat).flatMap enc++((xs.drop i.toNat).flatMap enc++sp).take (mm*m):=by
  rw[Nat.zero_add,hp,Nat.add_mul,hsplit,List.append_assoc,List.take_append,hAl,Nat.add_sub_cancel_left,List.take_of_length_le (by rw[hAl];omega)]
 have e2:(xs.flatMap enc++sp).drop (0+p.toNat*m+((xs.drop i.toNat).flatMap enc).length)=sp.drop (mm*m):=by
  rw[Nat.zero_add,hp,Nat.add_mul,hBl,List.drop_append,List.drop_of_length_le (by omega),List.nil_append,hlen];congr 1;omega
 rw[e1,e2]at hp';simpa only[List.append_assoc]using hp'
theorem Jb{α:Type}{enc:α→List Value}{t t' e m g dc g2 b2 sl sc j dl ty:Nat}{x y:Operand}{ys:List α}{us hole bs:List Value}{i:Int}(ho:o.op= .call {callee:= .builtin .copy,args:= #[x,y],argTypes:= #[t,t']}){d:Nat}(hd:o.dst=some d)(hn:Nat.blt d n=true)
  (hx:env.ev x=some (.slice (some ⟨g,0+i.toNat*m,none⟩) dl dc)) (hy:env.ev y=some (.slice (some ⟨g2,b2,none⟩) sl sc)) (ht:aq P t=some (e,m)) (hm: ∀x,(enc x).length=m) (h1: ∀x,∀v∈enc x,v.oneCell'=true) (hk:Nat.min sl dl=ys.length)
  (hvs:w.rangeAt g2 b2 (ys.flatMap enc)) (h:Hp w H) (hi:H[j]? =some (some g,Cl (us++hole++bs) ty)) (ha:us.length=i.toNat*m) (hh:hole.length=ys.length*m)
  (hK: ∀w',Hp w' (H.set j (some g,Cl (us++ys.flatMap enc++bs) ty))→Fr [g] w w'→K ((d,(.int .i64 (ys.length:Int)))::env) w'):bH P n env w o K:=by
 have hys:=bc hm ys;refine wf (vs:=ys.flatMap enc) ho hd hn hx hy ht hk hvs hys (fun v hv=>by obtain⟨x,_,hx⟩:=List.mem_flatMap.1 hv;exact h1 x v hx) h hi (by rw[List.length_append,List.length_append,ha,hys,hh];omega) fun w' hp hf _=>hK w' ?_ hf;have e1:(us++hole++bs).take (0+i.toNat*m)=us:=by rw[Nat.zero_add,←ha,List.append_assoc,List.take_left]
 have e2:(us++hole++bs).drop (0+i.toNat*m+(ys.flatMap enc).length)=bs:=by
  rw[Nat.zero_add,hys,←hh,←ha,←List.length_append,List.drop_left]
 rw[e1,e2]at hp;exact hp
end
section
variable [bB] {P:Program} {n:Nat} {env:aI} {S:World→Prop} {o:Oper}
theorem jM{t e m l c g:Nat}{x:Operand}{lo hi:Option Operand}{p q:Int}(ho:o.op= .slice t x lo hi none)(hx:env.ev x=some (.slice (some ⟨g,0,none⟩) l c))(ht:aq P t=some (e,m))(hlo:iW env lo=some p)(hhi:iX env l hi=some q)
  (h0:0≤p) (h1:p≤q) (h2:q≤c) (hlc:l≤c) (hpc:p<c):ci P n env S o (.slice (some ⟨g,0+p.toNat*m,none⟩) (q.toNat - p.toNat) (c - p.toNat)):=by
 have:=oX (P:=P) (n:=n) (S:=S) ho hx ht hlo hhi h0 h1 h2 hlc;rw[m8 (by omega)]at this;exact this
theorem Jc{t e m l c g:Nat}{x:Operand}{hi:Option Operand}{q:Int}(ho:o.op= .slice t x none hi none)(hx:env.ev x=some (.slice (some ⟨g,0,none⟩) l c))(ht:aq P t=some (e,m))(hhi:iX env l hi=some q)
  (h1:0≤q) (h2:q≤c) (hlc:l≤c) (hpc:0<c):ci P n env S o (.slice (some ⟨g,0,none⟩) q.toNat c):=by
 have:=jM (P:=P) (n:=n) (S:=S) ho hx ht (p:=0) rfl hhi (by omega) h1 h2 hlc (by omega);simpa using this
end
section
variable {w:World} {H:bZ} {α:Type} {enc:α→List Value} {m i e g:Nat} {xs:List α} {sp:List Value}
theorem ry{us:List Value}(h:Hp w H)(hi:H[i]? =some (some g,Cl (us++sp) e)):w.rangeAt g 0 us:=by
 have:=qm (k:=0) (m:=us.length) h hi;rw[List.drop_zero,List.take_left]at this;exact this
theorem we(hm: ∀x,(enc x).length=m)(h:Hp w H)(hi:H[i]? =some (some g,Cl (xs.flatMap enc++sp) e))(p:Nat):w.rangeAt g (0+p*m) ((xs.drop p).flatMap enc):=by
 rcases Nat.le_total p xs.length with hp|hp
 ·have:=qm (k:=0+p*m) (m:=((xs.drop p).flatMap enc).length) h hi;have hA:((xs.take p).flatMap enc).length=p*m:=by rw[bc hm,List.length_take];congr 1;omega
  have hs:xs.flatMap enc=(xs.take p).flatMap enc++(xs.drop p).flatMap enc:=by rw[←List.flatMap_append,List.take_append_drop]
  rw[hs,Nat.zero_add,List.append_assoc,←hA,List.drop_left,List.take_left]at this;rw[Nat.zero_add,←hA];exact this
 ·rw[List.drop_of_length_le hp];intro j v hj;simp at hj
theorem Bb(hm: ∀x,(enc x).length=m)(h:Hp w H)(hi:H[i]? =some (some g,Cl (xs.flatMap enc++sp) e))(p:Nat): ∀ad,some (⟨g,0+(0:Int).toNat*m,none⟩:Addr)=some ad→ ∀j v,((xs.take p).flatMap enc)[j]? =some v→w.cell? (ad.add j)=some v:=fun ad e j v hj=>by
 injection e with e;subst e;have h0:(xs.flatMap enc++sp)[j]? =some v:=by
  have hs:xs.flatMap enc=(xs.take p).flatMap enc++(xs.drop p).flatMap enc:=by rw[←List.flatMap_append,List.take_append_drop]
  rw[hs,List.append_assoc,List.getElem?_append_left (List.getElem?_eq_some_iff.1 hj).1];exact hj
 rw[Addr.add_mid];have:=i6 h hi h0;simpa using this
end
theorem Ow.lc{A:Option Addr}{l c m:Nat}{xs sp:List Value}(h:Ow A l c m xs sp):l≤c∧c≤9223372036854775807:=by
 rcases h.2 with⟨_,h0,h1,_⟩|⟨g,_,_,h1,h2⟩
 ·omega
 ·unfold maxLen at h2;omega
theorem Ow.room{A:Option Addr}{l c m k:Nat}{xs sp:List Value}(h:Ow A l c m xs sp)(hl:l+k≤c):k*m≤sp.length:=by
 have h0:=h.1;rcases h.2 with⟨_,h2,h3,h4⟩|⟨g,_,h2,h3,h4⟩
 ·have:k=0:=by omega
  subst this;simp
 ·rw[List.length_append,h0]at h2;have:=Nat.mul_le_mul_right m hl;rw[Nat.add_mul]at this;omega
theorem sZ{α:Type}(s v:List α){i:Int}(h:i=s.length):s.take i.toNat++v++s.drop i.toNat=s++v:=by
 subst h;simp
theorem p7{α:Type}(s v:List α)(z:α){i q k:Nat}(hi:i≤s.length)(hq:q=i+v.length)(hk:k=s.length+v.length - i):
  s.take i++v++s.drop i=((((s.take i++List.replicate k z).take i++v++(s.take i++List.replicate k z).drop (i+v.length)).take q)++s.drop i++((s.take i++List.replicate k z).take i++v++(s.take i++List.replicate k z).drop (i+v.length)).drop (q+(s.drop i).length)):=by
 subst hq hk;have h1:(s.take i).length=i:=by rw[List.length_take];omega
 have e1:(s.take i++List.replicate (s.length+v.length - i) z).take i=s.take i:=by
  rw[List.take_append_of_le_length (by omega),List.take_of_length_le (by omega)]
 rw[e1];have h3:((s.take i++List.replicate (s.length+v.length - i) z).drop (i+v.length)).length=(s.drop i).length:=by
  rw[List.length_drop,List.length_append,h1,List.length_replicate,List.length_drop];omega
 revert h3;generalize (s.take i++List.replicate (s.length+v.length - i) z).drop (i+v.length)=R;intro h3;have e2:(s.take i++v).length=i+v.length:=by rw[List.length_append,h1]
 generalize s.take i++v=T at e2⊢;generalize s.drop i=D at h3⊢;rw[←e2,List.take_left,List.drop_of_length_le (by rw[List.length_append];omega),List.append_nil]
theorem Ow.ins{α:Type}{enc:α→List Value}{m l c g:Nat}{s v:List α}{sp:List Value}{i:Nat}(hm: ∀x,(enc x).length=m)(h:Ow (some ⟨g,0,none⟩) l c m (s.flatMap enc) sp)(hl:l=s.length)(hi:i≤s.length)(hc:l+v.length≤c):Ow (some ⟨g,0,none⟩) (s.take i++v++s.drop i).length c m ((s.take i++v++s.drop i).flatMap enc) (sp.drop (v.length*m)):=by
 subst hl;have hroom:=h.room hc;have hL:(s.take i++v++s.drop i).length=s.length+v.length:=by simp;omega
 refine⟨bc hm _,?_⟩;rcases h.2 with⟨h0,_⟩|⟨g',h1,h2,h3,h4⟩
 ·cases h0
 ·refine .inr ⟨g',h1,?_,by omega,h4⟩;rw[List.length_append,bc hm]at h2;rw[List.length_append,bc hm,hL,List.length_drop,Nat.add_mul];omega
end Go.Proofs.YtmpeiadlohbikaaGreatDoor
end

section
set_option linter.unusedVariables false
set_option linter.unusedSimpArgs false
namespace Go.Proofs.YtmpeiadlohbikaaGreatDoor
open Go.RowKit
section
variable [bB] {P:Program} {n d:Nat} {Q:EQ} {env:aI} {w:World} {o:Oper} {ops:Array Oper} {l:List Oper} {v:Value} {x y:Operand} {K:aI→World→Prop} {c:Code}
theorem sq{x y:Code}(h: ∀K:aI→World→Prop,(∀e v,Wp P n y Q e v→K e v)→Wp P n x (Th K Q) env w):Wp P n (.seq x y) Q env w:=qf h
theorem rg{id:Nat}{l:List Oper}(h:Ls P n l.toArray Q l env w)(hnd:l.all qD=true:=by rfl):Wp P n (.region id l.toArray false) Q env w:=rF h hnd
theorem Ln(hK: ∀e v,Wp P n c Q e v→K e v)(h:Wp P n c Q env w):Ls P n ops (Th K Q) [] env w:=cw (cz (hK _ _ h))
theorem sk(hK: ∀e v,Wp P n c Q e v→K e v)(h:Wp P n c Q env w):Wp P n .skip (Th K Q) env w:=dW (cz (hK _ _ h))
theorem Ly(h:(o.guard,o.dst,Nat.blt d n)=(none,some d,true))(hy:ci P n env (· =w) o v)(hk:Ls P n ops Q l ((d,v)::env) w):Ls P n ops Q (o::l) env w:=by
 simp only[Prod.mk.injEq]at h;exact EZ (fN h.1) h.2.1 h.2.2 hy hk
theorem La(h:o.guard=none)(hk:bH P n env w o (fun env' w'=>Ls P n ops Q l env' w')):Ls P n ops Q (o::l) env w:=Bw (fN h) hk
theorem Lm(h:(o.guard,o.dst,Nat.blt d n,o.op,env.ev x)=(none,some d,true,.move x,some v))(hk:Ls P n ops Q l ((d,v)::env) w):Ls P n ops Q (o::l) env w:=by
 simp only[Prod.mk.injEq]at h;exact UL h.1 h.2.1 h.2.2.1 h.2.2.2.1 h.2.2.2.2 hk
theorem dV(h:(o.guard,o.dst,Nat.blt d n,o.op,env.ev x)=(none,some d,true,.assign x,some v))(hk:Ls P n ops Q l ((d,v)::env) w):Ls P n ops Q (o::l) env w:=by
 simp only[Prod.mk.injEq]at h;exact UM h.1 h.2.1 h.2.2.1 h.2.2.2.1 h.2.2.2.2 hk
theorem Lx{i:Nat}{vs:Array Value}(h:(o.guard,o.dst,Nat.blt d n,o.op,env.ev x,vs[i]?)=(none,some d,true,.extract x i,some (.tuple vs),some v))(hk:Ls P n ops Q l ((d,v)::env) w):Ls P n ops Q (o::l) env w:=by
 simp only[Prod.mk.injEq]at h;exact UN h.1 h.2.1 h.2.2.1 h.2.2.2.1 h.2.2.2.2.1 h.2.2.2.2.2 hk
section
variable {b:Operand} {c1 c2:Code} {t:Bool} {p:Prop} [Decidable p]
theorem cB(hb:env.ev b=some (.bool t))(h1:t=true→Wp P n c1 Q env w)(h2: ¬t=true→Wp P n c2 Q env w):Wp P n (.cond b c1 c2) Q env w:=gj hb h1 fun h=>h2 (by simp[h])
theorem cD(hb:env.ev b=some (.bool (decide p)))(h1:p→Wp P n c1 Q env w)(h2: ¬p→Wp P n c2 Q env w):Wp P n (.cond b c1 c2) Q env w:=gj hb (fun h=>h1 (of_decide_eq_true h)) fun h=>h2 (of_decide_eq_false h)
theorem cE{α:Type} [BEq α] [LawfulBEq α]{p q:α}(hb:env.ev b=some (.bool (p==q)))(h1:p=q→Wp P n c1 Q env w)(h2: ¬p=q→Wp P n c2 Q env w):Wp P n (.cond b c1 c2) Q env w:=gj hb (fun h=>h1 (by simpa using h)) fun h=>h2 (by simpa using h)
theorem cN{α:Type} [BEq α] [LawfulBEq α]{p q:α}(hb:env.ev b=some (.bool (p !=q)))(h1: ¬p=q→Wp P n c1 Q env w)(h2:p=q→Wp P n c2 Q env w):Wp P n (.cond b c1 c2) Q env w:=gj hb (fun h=>h1 (by simpa using h)) fun h=>h2 (by simpa using h)
theorem QP(hb:env.ev b=some (.bool (!t)))(h1: ¬t=true→Wp P n c1 Q env w)(h2:t=true→Wp P n c2 Q env w):Wp P n (.cond b c1 c2) Q env w:=gj hb (fun h=>h1 (by simpa using h)) fun h=>h2 (by simpa using h)
variable {s:Nat}
theorem bN{α:Type} [BEq α] [LawfulBEq α]{p q:α}(hb:env.get s=some (.bool (p !=q)))(h1: ¬p=q→Ls P n ops Q l ((s,.bool true)::env) w)(h2:p=q→Ls P n ops Q l ((s,.bool false)::env) w):Ls P n ops Q l env w:=EL s hb (fun h=>h1 (by simpa using h)) fun h=>h2 (by simpa using h)
end
end
section
variable [bB] {P:Program} {n:Nat} {env:aI} {S:World→Prop} {o:Oper} {v:Value} {x y:Operand} {t u:Nat} {k:IntKind} {p q:Int}
theorem yn{b:Bool}(h:(o.op,env.ev x)=(.unOp .not t x,some (.bool b))):ci P n env S o (.bool !b):=by simp only[Prod.mk.injEq]at h;exact Bz h.1 h.2
theorem QQ(h:(o.op,env.ev x,env.ev y)=(.binOp .eql t x y u,some (.int k p),some (.int k q))):ci P n env S o (.bool (p==q)):=by simp only[Prod.mk.injEq]at h;exact L8 h.1 h.2.1 h.2.2
theorem y7(h:(o.op,env.ev x,env.ev y)=(.binOp .lss t x y u,some (.int k p),some (.int k q))):ci P n env S o (.bool (decide (p<q))):=by simp only[Prod.mk.injEq]at h;exact Me h.1 h.2.1 h.2.2
theorem Sz(h:(o.op,env.ev x,env.ev y)=(.binOp .gtr t x y u,some (.int k p),some (.int k q))):ci P n env S o (.bool (decide (q<p))):=by simp only[Prod.mk.injEq]at h;exact Mf h.1 h.2.1 h.2.2
theorem tx{e:Nat}{b:Option Addr}{l c:Nat}(h:(o.op,env.ev x)=(.call {callee:= .builtin .len,args:= #[x],argTypes:= #[t]},some (.slice b l c)))(ht:P.underlying t=some (.slice e)):ci P n env S o (.int .i64 l):=by simp only[Prod.mk.injEq]at h;exact qk h.1 h.2 ht
end
section
variable [bB] {P:Program} {n d:Nat} {env:aI} {o:Oper} {v u:Value} {x y:Operand} {t:Nat} {X X0:List Nat} {w w0:World} {H:bZ} {K:List Kf} {cs ds us:List Value} {g k m ty:Nat} {Kk:aI→World→Prop}
theorem yl(i:Nat)(ht:dG P t=true)(st:St X w H K)(h:(o.op,env.ev x,H[i]?,cs[k]?)=(.load t x,some (.pointer (some ⟨g,k,none⟩)),some (some g,Cl cs ty),some v)):ci P n env (· =w) o v:=by
 simp only[Prod.mk.injEq]at h;exact th h.1 h.2.1 ht (fun _ e=>e▸st.hp) h.2.2.1 h.2.2.2
theorem yw(i:Nat)(ht:ba P t=some m)(st:St X w H K)(h:(o.op,env.ev x,H[i]?,cs.length)=(.load t x,some (.pointer (some ⟨g,0,none⟩)),some (some g,Cl cs ty),m)):ci P n env (· =w) o (.agg cs.toArray):=by
 simp only[Prod.mk.injEq]at h;exact tl h.1 h.2.1 ht (fun _ e=>e▸st.hp) h.2.2.1 h.2.2.2
theorem UH(hz:zeroCells P t=some cs)(st:St X w H K)(hF:Fr X0 w0 w)(h:(o.op,o.dst,Nat.blt d n)=(.alloc t,some d,true))(hk: ∀g w',St X w' (H++ [(some g,Cl cs t)]) K→Fr X0 w0 w'→w0.heap.size≤g→Kk ((d,.pointer (some ⟨g,0,none⟩))::env) w'):bH P n env w o Kk:=by
 simp only[Prod.mk.injEq]at h;exact o5 h.1 h.2.1 h.2.2 hz st.hp fun g w' hp hf hg=>hk g w' (st.push hp hf hg) (hF.step0 hf) (Nat.le_trans hF.size hg)
omit [bB]in
theorem UI{g:Nat}{w':World}(hF:Fr X0 w0 w)(hf:Fr [g] w w')(hg:g∈X0∨w0.heap.size≤g):Fr X0 w0 w':=hF.step hf fun y hy=>by simp only[List.mem_singleton]at hy;subst hy;exact hg
omit [bB]in
theorem EE(h:us.all Value.oneCell'=true): ∀v∈us,v.oneCell'=true:=fun v hv=>List.all_eq_true.1 h v hv
theorem UJ(i:Nat)(ht:(P.info? t).map (·.size)=some m)(st:St X w H K)(hF:Fr X0 w0 w)(hg:g∈X0∨w0.heap.size≤g)(h:(o.op,o.dst,env.ev x,env.ev y,us.length,us.all Value.oneCell',H[i]?,cs.length)=(.store t x y,none,some (.pointer (some ⟨g,0,none⟩)),some (.agg us.toArray),m,true,some (some g,Cl cs ty),us.length))(hk: ∀w',St X w' (H.set i (some g,Cl us ty)) K→Fr X0 w0 w'→Kk env w'):bH P n env w o Kk:=by
 simp only[Prod.mk.injEq]at h;obtain⟨h1,h2,h3,h4,h5,h6,h7,h8⟩:=h;exact qn (i:=i) h1 h2 h3 h4 ht h5 (EE h6) st.hp h7 h8 fun w' hp hf _=>hk w' (st.set h7 hp hf) (UI hF hf hg)
theorem SA{f:FuncId}{xs:List Operand}{ts:Array TypeId}{vs:List Value}(st:St X w H K)(hF:Fr X0 w0 w)(h:(o.op,o.dst,Nat.blt d n,env.evs xs)=(.call {callee:= .value (.func f),args:=xs.toArray,argTypes:=ts},some d,true,some vs))(hc:Fn P f vs w (fun v' w'=>v'=v∧Fr [] w w'))(hk: ∀w',St X w' H K→Fr X0 w0 w'→Kk ((d,v)::env) w'):bH P n env w o Kk:=by
 simp only[Prod.mk.injEq]at h;exact wl h.1 h.2.1 h.2.2.1 h.2.2.2 hc fun v' w' ⟨hv,hf⟩=>by subst hv;exact hk w' (st.keep0 hf) (hF.step0 hf)
theorem QR{f:Operand}{fv:Value}{xs:List Operand}{ts:Array TypeId}{vs:List Value}(st:St X w H K)(hF:Fr X0 w0 w)(h:(o.op,o.dst,Nat.blt d n,env.ev f,env.evs xs)=(.call {callee:= .value f,args:=xs.toArray,argTypes:=ts},some d,true,some fv,some vs))(hc:pZ P fv vs w (fun v' w'=>v'=v∧Fr [] w w'))(hk: ∀w',St X w' H K→Fr X0 w0 w'→Kk ((d,v)::env) w'):bH P n env w o Kk:=by
 simp only[Prod.mk.injEq]at h;exact m7 h.1 h.2.1 h.2.2.1 h.2.2.2.1 h.2.2.2.2 hc fun v' w' ⟨hv,hf⟩=>by subst hv;exact hk w' (st.keep0 hf) (hF.step0 hf)
omit [bB]in
theorem St.q{A:Option Addr}{l c m:Nat}{cs:List Value}(h:St X w H K)(i:Nat)(hi:K[i]? =some (kS A l c m cs)):hZ (aQ H++X) w A l c m cs:=h.k hi
end
theorem QS{X0:List Nat}{w0:World}{g:Nat}(h:w0.heap.size≤g): ∀g',ab (some (⟨g,0,none⟩:Addr))=some g'→g'∈X0∨w0.heap.size≤g':=fun g' hg=>by simp[ab]at hg;subst hg;exact .inr h
theorem QT{X0:List Nat}{w0:World}: ∀g',ab none=some g'→g'∈X0∨w0.heap.size≤g':=fun g' hg=>by cases hg
section
variable [bB] {α:Type} {enc:α→List Value} {P:Program} {n d:Nat} {env:aI} {o:Oper} {x y:Operand} {t e m by' c sc:Nat} {X X0:List Nat} {w w0:World} {H:bZ} {K:List Kf} {A B:Option Addr} {sp z:List Value} {xs ys:List α} {Kk:aI→World→Prop}
theorem OE(xs ys:List α)(i:Nat)(ht:aq P t=some (e,m))(hz:zeroCells P e=some z)(hby:(P.info? e).map (·.bytes)=some by')(hm: ∀x,(enc x).length=m)(h1: ∀x,∀v∈enc x,v.oneCell'=true)(how:Ow A xs.length c m (xs.flatMap enc) sp)(hn: ∀g,ab A=some g→g∈X0∨w0.heap.size≤g)(st:St X w H K)(hF:Fr X0 w0 w)
  (hsrc: ∀ad,B=some ad→ ∀j u,(ys.flatMap enc)[j]? =some u→w.cell? (ad.add j)=some u) (hB:B=none→ys.length=0)
  (h:(o.op,o.dst,Nat.blt d n,env.ev x,env.ev y,z.length,Nat.blt 0 m,H[i]?)=(.call {callee:= .builtin .append,args:= #[x,y],argTypes:= #[t,t]},some d,true,some (.slice A xs.length c),some (.slice B ys.length sc),m,true,some (ab A,Cl (xs.flatMap enc++sp) e))) (h63:xs.length+ys.length≤9223372036854775807) (hbytes:(xs.length+ys.length)*by'≤140737488355328)
  (hk: ∀A' c' sp' w',Ow A' (xs++ys).length c' m ((xs++ys).flatMap enc) sp'→(∀g,ab A'=some g→g∈X0∨w0.heap.size≤g)→St X w' (H.set i (ab A',Cl ((xs++ys).flatMap enc++sp') e)) K→Fr X0 w0 w'→Kk ((d,(.slice A' (xs++ys).length c'))::env) w'):bH P n env w o Kk:=by
 simp only[Prod.mk.injEq]at h;obtain⟨h2,h3,h4,h5,h6,h7,h8,h9⟩:=h;exact Jn (i:=i) h2 rfl h3 h4 h5 h6 ht hz h7 hby (by simpa using h8) hm how st.hp h9 hsrc hB h1 (by unfold maxLen;omega) hbytes fun A' c' sp' w' how' hp hf hnw=>hk A' c' sp' w' how' (fun g hg=>(hnw g hg).elim (hn g) (fun h=> .inr (Nat.le_trans hF.size h))) (st.setAny h9 hp hf hnw) (hF.step hf fun y hy=>hn y (by simpa using hy))
theorem UK(ht:aq P t=some (e,m))(hz:zeroCells P e=some z)(st:St X w H K)(hF:Fr X0 w0 w)(h:(o.op,o.dst,Nat.blt d n)=(.buildSlice t 0 #[],some d,true))
  (hk: ∀g w',Ow (some ⟨g,0,none⟩) ([]:List α).length 0 m (([]:List α).flatMap enc) []→(∀g',ab (some ⟨g,0,none⟩)=some g'→g'∈X0∨w0.heap.size≤g')→St X w' (H++ [(ab (some ⟨g,0,none⟩),Cl (([]:List α).flatMap enc++ []) e)]) K→Fr X0 w0 w'→Kk ((d,.slice (some ⟨g,0,none⟩) ([]:List α).length 0)::env) w'):bH P n env w o Kk:=by
 simp only[Prod.mk.injEq]at h;refine Jg h.1 h.2.1 h.2.2 ht hz st.hp fun g w' hp hf hg=>?_;exact hk g w' ⟨by simp,.inr ⟨g,rfl,by simp,Nat.le_refl _,by unfold maxLen;decide⟩⟩ (QS (Nat.le_trans hF.size hg)) (st.push hp hf hg) (hF.step0 hf)
omit [bB]in
theorem St.rowN(enc:α→List Value)(st:St X w H K)(hF:Fr X0 w0 w)(m ty:Nat):St X w (H++ [(ab none,Cl (([]:List α).flatMap enc++ []) ty)]) K∧Ow none ([]:List α).length 0 m (([]:List α).flatMap enc) []∧(∀g',ab none=some g'→g'∈X0∨w0.heap.size≤g'):=⟨st.addN _,Ow.nil m,QT⟩
end
section
variable [bB] {P:Program} {n:Nat} {env:aI} {w:World} {c y:Code} {Q Q1:EQ} {K:aI→World→Prop}
theorem lp(J:Option Nat→aI→World→Prop)(m0:Nat)(e0:aI)(hle:aI.Le e0 env)(h0:J (some m0) e0 w)(hK: ∀e v,Wp P n y Q e v→K e v)(hM: ∀e w,J none e w→Wp P n y Q e w)
  (h:(∀e' e w,aI.Le e e'→J none e w→K e' w)→ ∀m e w,J (some m) e w→Wp P n c (Th (fun env' w'=> ∃m' e',m'<m∧aI.Le e' env'∧J (some m') e' w') Q1) e w):Wp P n (.loop c) Q1 env w:=
 ES hK (J none) hM fun ho=>uK (fun m=>J (some m)) m0 e0 hle h0 (h ho)
def jq(q:Option Nat)(f:Nat→Prop)(p:Prop):Prop:=match q with|some m=>f m|none=>p
end
section
variable [bB] {P:Program} {n d i:Nat} {env:aI} {S:World→Prop} {Q:EQ} {w:World} {o:Oper} {ops:Array Oper} {pl:List (Bool×Nat)} {v:Value} {x:Operand}
theorem Py(h:(ops[i]?,o.guard,o.dst,Nat.blt d n)=(some o,none,some d,true))(hy:ci P n env S o v)(hk:Pl P n ops S Q pl ((d,v)::env) w):Pl P n ops S Q ((true,i)::pl) env w:=by
 simp only[Prod.mk.injEq]at h;exact te h.1 (fN h.2.1) h.2.2.1 h.2.2.2 hy hk
theorem Pm(h:(ops[i]?,o.guard,o.dst,Nat.blt d n,o.op,env.ev x)=(some o,none,some d,true,.move x,some v))(hk:Pl P n ops S Q pl ((d,v)::env) w):Pl P n ops S Q ((true,i)::pl) env w:=by
 simp only[Prod.mk.injEq]at h;exact UO h.1 h.2.1 h.2.2.1 h.2.2.2.1 h.2.2.2.2.1 h.2.2.2.2.2 hk
end
theorem EF{X:List Nat}{w:World}(hX:Lo X w):St X w [] []:=St.nil hX
theorem I7{X:List Nat}{w:World}{A0:Option Addr}{l0 c0 m0:Nat}{s0:List Value}(hX:Lo X w)(h0:hZ X w A0 l0 c0 m0 s0):St X w [] [kS A0 l0 c0 m0 s0]:=(EF hX).addK (kS A0 l0 c0 m0 s0) h0
theorem QU{X:List Nat}{w:World}{A0:Option Addr}{l0 c0 m0:Nat}{s0:List Value}{A1:Option Addr}{l1 c1 m1:Nat}{s1:List Value}(hX:Lo X w)(h0:hZ X w A0 l0 c0 m0 s0)(h1:hZ X w A1 l1 c1 m1 s1):St X w [] [kS A0 l0 c0 m0 s0,kS A1 l1 c1 m1 s1]:=(I7 hX h0).addK (kS A1 l1 c1 m1 s1) h1
theorem QV{X:List Nat}{w:World}{A0:Option Addr}{l0 c0 m0:Nat}{s0:List Value}{A1:Option Addr}{l1 c1 m1:Nat}{s1:List Value}{A2:Option Addr}{l2 c2 m2:Nat}{s2:List Value}(hX:Lo X w)(h0:hZ X w A0 l0 c0 m0 s0)(h1:hZ X w A1 l1 c1 m1 s1)(h2:hZ X w A2 l2 c2 m2 s2):St X w [] [kS A0 l0 c0 m0 s0,kS A1 l1 c1 m1 s1,kS A2 l2 c2 m2 s2]:=(QU hX h0 h1).addK (kS A2 l2 c2 m2 s2) h2
end Go.Proofs.YtmpeiadlohbikaaGreatDoor
end

/- From a contract to a law's walk; the shapes of what is handed in (seat of round rs). -/
import Derived.Test.YtmpeiadlohbikaaGreatDoorYs24
import Derived.Test.YtmpeiadlohbikaaGreatDoorYs25
import Derived.Test.YtmpeiadlohbikaaGreatDoorYs1
import Derived.Test.YtmpeiadlohbikaaGreatDoorRows
import Derived.ProofKit
import Derived.OpenShut
import Derived.Carry
import Derived.Lib.SmallJoins
import Derived.Test.YtmpeiadlohbikaaGreatDoorYs2
import Derived.Test.YtmpeiadlohbikaaGreatDoorYs13
import Derived.Test.YtmpeiadlohbikaaGreatDoorYs5
import Derived.Test.YtmpeiadlohbikaaGreatDoorCards
import Derived.Test.YtmpeiadlohbikaaGreatDoorTie
import Derived.HandedShaped
import Derived.Lay
import Derived.MakeChecks
import Derived.LaidMore
import Derived.SevenTiedAt
import Derived.Test.YtmpeiadlohbikaaGreatDoorYs14
import Derived.Test.YtmpeiadlohbikaaGreatDoorYs18
section
set_option linter.unusedVariables false
set_option linter.unusedSimpArgs false
namespace Go.Proofs.YtmpeiadlohbikaaGreatDoor.V
open Go.RowKit Go.Shelf Go.Lib Go.Sort
def NQ(k:Int)(key:List UInt8)(x:Bool⊕(Int×aG×Int×Int×List Int×aG×Int×Int×List Int×aG×Int×Int×List Int×List ah×List ax×List Int×List Int×List Int)):Prop:=
 x= .inl true∨ ∃(i:Int) (a b c:RS) (all:List ah) (eff:List ax),x= .inr (i,a.s,a.n,a.t,a.v,b.s,b.n,b.t,b.v,c.s,c.n,c.t,c.v,all,eff,a.h,b.h,c.h)∧ec k key all eff (g9 a b c) i∧i≤50
theorem JP(kind:Int)(l:List e8){k:Int}{key:List UInt8}(hk:1≤k∧k≤4)(hy:(ab key).1=k∧(ab key).2=0)(hkey:ix [[(114:UInt8)],[(99:UInt8)],[(115:UInt8)],[(109:UInt8)]] ((1:Int)+kind%(18446744073709551616:Int)%(4:Int)-(1:Int))=key):
  ∀(fuel:Nat) (i:Int) (a b c:RS) (all:List ah) (eff:List ax),ec k key all eff (g9 a b c) i→i≤50→NQ k key (aB kind l fuel i a.s a.n a.t a.v b.s b.n b.t b.v c.s c.n c.t c.v all eff a.h b.h c.h):=fun fuel=>by
 induction fuel with
 |zero=>intro i a b c all eff I hi;exact .inr ⟨i,a,b,c,all,eff,rfl,I,hi⟩
 |succ n ih=>
  intro i a b c all eff I hi;rw[aB];by_cases h1:(i<(l.length:Int))∧(i<(50:Int));rotate_left
  ·rw[if_neg h1];exact .inr ⟨i,a,b,c,all,eff,rfl,I,hi⟩
  rw[if_pos h1];have skip:=ih (i+1) a b c all eff (I.mono (by omega)) (by omega);by_cases h2:(100:Int)<((ix l i).op.name.length:Int)
  ·rw[if_pos h2];exact .inl rfl
  rw[if_neg h2];generalize hw:(ix l i).who%(18446744073709551616:Int)%(3:Int)=w;generalize hf:(ix l i).from_%(18446744073709551616:Int)%(3:Int)=f;by_cases w0:w=(0:Int)
  ·subst w0;rw[if_pos rfl];by_cases k0:(ix l i).kind=(0:Int)
   ·rw[if_pos k0];by_cases n16:(16:Int)≤a.n
    ·rw[if_pos n16];exact skip
    rw[if_neg n16,rY,NK I (by omega)];by_cases p0:(af a.s (ix l i).op ⟨⟨0,ix a.v 0+1⟩,a.n⟩ ⟨(a.t+1)%4294967296,0⟩).2=0
    ·obtain⟨e,J⟩:=Q3 I hk hy (by omega) (by omega) p0 (NL I (by omega));rw[if_pos p0,if_pos e,hkey];exact ih _ ⟨_,_,_,_,_⟩ b c _ _ J (by omega)
    ·rw[if_neg p0];exact skip
   rw[if_neg k0];by_cases k1:(ix l i).kind=(1:Int)
   ·rw[if_pos k1];exact ih (i+1) ⟨a.s,_,0,a.h,a.t⟩ b c all eff (JH I (by omega)) (by omega)
   rw[if_neg k1];by_cases f0:f=(0:Int)
   ·rw[if_pos f0];exact skip
   rw[if_neg f0];by_cases f1:f=(1:Int)
   ·rw[if_pos f1];by_cases q:(0:Int)<a.n
    ·rw[if_pos (.inr q)];exact skip
    rw[if_neg (by rintro(z|z);exact absurd z (by decide);exact q z)];obtain⟨s',h',e,J⟩:=HE (Lk:=dC kind l i a.n a.t a.v b.s b.n b.t b.v c.s c.n c.t c.v all eff b.h c.h) I hk (by omega) q (fun fuel j s h=>by rw[dC]);rw[e];exact ih (i+1) ⟨s',_,a.n,h',max a.t b.t⟩ b c all eff J (by omega)
   rw[if_neg f1];by_cases q:(0:Int)<a.n
   ·rw[if_pos (.inr q)];exact skip
   rw[if_neg (by rintro(z|z);exact absurd z (by decide);exact q z)];obtain⟨s',h',e,J⟩:=HF (Lk:=dD kind l i a.n a.t a.v b.s b.n b.t b.v c.s c.n c.t c.v all eff b.h c.h) I hk (by omega) q (fun fuel j s h=>by rw[dD]);rw[e];exact ih (i+1) ⟨s',_,a.n,h',max a.t c.t⟩ b c all eff J (by omega)
  rw[if_neg w0];by_cases w1:w=(1:Int)
  ·subst w1;rw[if_pos rfl];by_cases k0:(ix l i).kind=(0:Int)
   ·rw[if_pos k0];by_cases n16:(16:Int)≤b.n
    ·rw[if_pos n16];exact skip
    rw[if_neg n16,rY,NM I (by omega)];by_cases p0:(af b.s (ix l i).op ⟨⟨1,ix b.v 1+1⟩,b.n⟩ ⟨(b.t+1)%4294967296,1⟩).2=0
    ·obtain⟨e,J⟩:=Q4 I hk hy (by omega) (by omega) p0 (NN I (by omega));rw[if_pos p0,if_pos e,hkey];exact ih _ a ⟨_,_,_,_,_⟩ c _ _ J (by omega)
    ·rw[if_neg p0];exact skip
   rw[if_neg k0];by_cases k1:(ix l i).kind=(1:Int)
   ·rw[if_pos k1];exact ih (i+1) a ⟨b.s,_,0,b.h,b.t⟩ c all eff (JI I (by omega)) (by omega)
   rw[if_neg k1];by_cases f0:f=(0:Int)
   ·rw[if_pos f0];by_cases q:(0:Int)<b.n
    ·rw[if_pos (.inr q)];exact skip
    rw[if_neg (by rintro(z|z);exact absurd z (by decide);exact q z)];obtain⟨s',h',e,J⟩:=HG (Lk:=dE kind l i a.s a.n a.t a.v b.n b.t b.v c.s c.n c.t c.v all eff a.h c.h) I hk (by omega) q (fun fuel j s h=>by rw[dE]);rw[e];exact ih (i+1) a ⟨s',_,b.n,h',max b.t a.t⟩ c all eff J (by omega)
   rw[if_neg f0];by_cases f1:f=(1:Int)
   ·rw[if_pos f1];exact skip
   rw[if_neg f1];by_cases q:(0:Int)<b.n
   ·rw[if_pos (.inr q)];exact skip
   rw[if_neg (by rintro(z|z);exact absurd z (by decide);exact q z)];obtain⟨s',h',e,J⟩:=HH (Lk:=dF kind l i a.s a.n a.t a.v b.n b.t b.v c.s c.n c.t c.v all eff a.h c.h) I hk (by omega) q (fun fuel j s h=>by rw[dF]);rw[e];exact ih (i+1) a ⟨s',_,b.n,h',max b.t c.t⟩ c all eff J (by omega)
  rw[if_neg w1];obtain rfl:w=2:=by omega
  by_cases k0:(ix l i).kind=(0:Int)
  ·rw[if_pos k0];by_cases n16:(16:Int)≤c.n
   ·rw[if_pos n16];exact skip
   rw[if_neg n16,rY,NO I (by omega)];by_cases p0:(af c.s (ix l i).op ⟨⟨2,ix c.v 2+1⟩,c.n⟩ ⟨(c.t+1)%4294967296,2⟩).2=0
   ·obtain⟨e,J⟩:=Q5 I hk hy (by omega) (by omega) p0 (NP I (by omega));rw[if_pos p0,if_pos e,hkey];exact ih _ a b ⟨_,_,_,_,_⟩ _ _ J (by omega)
   ·rw[if_neg p0];exact skip
  rw[if_neg k0];by_cases k1:(ix l i).kind=(1:Int)
  ·rw[if_pos k1];exact ih (i+1) a b ⟨c.s,_,0,c.h,c.t⟩ all eff (JJ I (by omega)) (by omega)
  rw[if_neg k1];by_cases f0:f=(0:Int)
  ·rw[if_pos f0];by_cases q:(0:Int)<c.n
   ·rw[if_pos (.inr q)];exact skip
   rw[if_neg (by rintro(z|z);exact absurd z (by decide);exact q z)];obtain⟨s',h',e,J⟩:=HI (Lk:=dG kind l i a.s a.n a.t a.v b.s b.n b.t b.v c.n c.t c.v all eff a.h b.h) I hk (by omega) q (fun fuel j s h=>by rw[dG]);rw[e];exact ih (i+1) a b ⟨s',_,c.n,h',max c.t a.t⟩ all eff J (by omega)
  rw[if_neg f0];by_cases f1:f=(1:Int)
  ·rw[if_pos f1];by_cases q:(0:Int)<c.n
   ·rw[if_pos (.inr q)];exact skip
   rw[if_neg (by rintro(z|z);exact absurd z (by decide);exact q z)];obtain⟨s',h',e,J⟩:=HJ (Lk:=dH kind l i a.s a.n a.t a.v b.s b.n b.t b.v c.n c.t c.v all eff a.h b.h) I hk (by omega) q (fun fuel j s h=>by rw[dH]);rw[e];exact ih (i+1) a b ⟨s',_,c.n,h',max c.t b.t⟩ all eff J (by omega)
  rw[if_neg f1];exact skip
theorem E6{k:Int}{key:List UInt8}{B:Int}{a b c:RS}{all:List ah}{eff:List ax}(I:ec k key all eff (g9 a b c) B)(hk:1≤k∧k≤4)(hy:(ab key).1=k∧(ab key).2=0)(hB:B≤50){v:List Int}(e:v=vv 0 a.v a.n):
  ¬(((¬(bh key all v).2=(0:Int))∨(¬(bS (aX (bh key all v).1) (aX (bW a.s))=true)))∨(¬(cn all v=true))):=ec.pass (i:=0) I hk hy (by omega) hB e
theorem E7{k:Int}{key:List UInt8}{B:Int}{a b c:RS}{all:List ah}{eff:List ax}(I:ec k key all eff (g9 a b c) B)(hk:1≤k∧k≤4)(hy:(ab key).1=k∧(ab key).2=0)(hB:B≤50){v:List Int}(e:v=vv 1 b.v b.n):
  ¬(((¬(bh key all v).2=(0:Int))∨(¬(bS (aX (bh key all v).1) (aX (bW b.s))=true)))∨(¬(cn all v=true))):=ec.pass (i:=1) I hk hy (by omega) hB e
theorem E8{k:Int}{key:List UInt8}{B:Int}{a b c:RS}{all:List ah}{eff:List ax}(I:ec k key all eff (g9 a b c) B)(hk:1≤k∧k≤4)(hy:(ab key).1=k∧(ab key).2=0)(hB:B≤50){v:List Int}(e:v=vv 2 c.v c.n):
  ¬(((¬(bh key all v).2=(0:Int))∨(¬(bS (aX (bh key all v).1) (aX (bW c.s))=true)))∨(¬(cn all v=true))):=ec.pass (i:=2) I hk hy (by omega) hB e
theorem JQ(kind:Int){k:Int}{key:List UInt8}(hk:1≤k∧k≤4)(hy:(ab key).1=k∧(ab key).2=0)(hkey:ix [[(114:UInt8)],[(99:UInt8)],[(115:UInt8)],[(109:UInt8)]] ((1:Int)+kind%(18446744073709551616:Int)%(4:Int)-(1:Int))=key){B:Int}{a b c:RS}{all:List ah}{eff:List ax}(I:ec k key all eff (g9 a b c) B)(hB:B≤50):
  ∀(fuel:Nat) (i:Int),0≤i→ ∃j,bO kind a.s a.n a.t a.v b.s b.n b.t b.v c.s c.n c.t c.v all a.h b.h c.h fuel i= .inr j:=fun fuel=>by
 induction fuel with
 |zero=>intro i h;exact⟨i,rfl⟩
 |succ n ih=>
  intro i h0;rw[bO];by_cases h1:i<(3:Int);rotate_left
  ·rw[if_neg h1];exact⟨i,rfl⟩
  rw[if_pos h1,hkey];have go:=ih (i+1) (by omega);by_cases i0:i=(0:Int)
  ·subst i0;rw[if_pos rfl];by_cases q:(0:Int)<a.n
   ·rw[if_pos q,if_neg (E6 I hk hy hB (vA (i:=0) (v:=a.v) q fun j=>⟨((I.lt 0 (by omega)).vb j).1,Int.le_trans ((I.lt 0 (by omega)).vb j).2 hB⟩))];exact go
   ·rw[if_neg q,if_neg (E6 I hk hy hB (vB (i:=0) (v:=a.v) q))];exact go
  rw[if_neg i0];by_cases i1:i=(1:Int)
  ·subst i1;rw[if_pos rfl];by_cases q:(0:Int)<b.n
   ·rw[if_pos q,if_neg (E7 I hk hy hB (vA (i:=1) (v:=b.v) q fun j=>⟨((I.lt 1 (by omega)).vb j).1,Int.le_trans ((I.lt 1 (by omega)).vb j).2 hB⟩))];exact go
   ·rw[if_neg q,if_neg (E7 I hk hy hB (vB (i:=1) (v:=b.v) q))];exact go
  rw[if_neg i1];obtain rfl:i=2:=by omega
  by_cases q:(0:Int)<c.n
  ·rw[if_pos q,if_neg (E8 I hk hy hB (vA (i:=2) (v:=c.v) q fun j=>⟨((I.lt 2 (by omega)).vb j).1,Int.le_trans ((I.lt 2 (by omega)).vb j).2 hB⟩))];exact go
  ·rw[if_neg q,if_neg (E8 I hk hy hB (vB (i:=2) (v:=c.v) q))];exact go
theorem JR(kind:Int)(l:List e8)(h:1≤(1:Int)+kind%(18446744073709551616:Int)%(4:Int)∧(1:Int)+kind%(18446744073709551616:Int)%(4:Int)≤4)(x y z:aG): ∃j,bP kind l (((3:Int)-(0:Int)).toNat+1) 0 x y z= .inr (j,zO ((1:Int)+kind%(18446744073709551616:Int)%(4:Int)),zO ((1:Int)+kind%(18446744073709551616:Int)%(4:Int)),zO ((1:Int)+kind%(18446744073709551616:Int)%(4:Int))):=by
 have e:=Hy h.1 h.2;show ∃j,bP kind l 4 0 x y z=_
 rw[bP,e,if_pos (by decide),if_pos rfl,if_pos rfl,bP,e,if_pos (by decide),if_pos rfl,if_neg (by decide),if_pos (by decide),bP,e,if_pos (by decide),if_pos rfl,if_neg (by decide),if_neg (by decide),bP,if_neg (by decide)];exact⟨_,rfl⟩
theorem qc(kind:Int)(l:List e8):iJ kind l=true:=by
 have hk:1≤(1:Int)+kind%(18446744073709551616:Int)%(4:Int)∧(1:Int)+kind%(18446744073709551616:Int)%(4:Int)≤4:=by omega
 have hy:=DF (kind%(18446744073709551616:Int));unfold iJ;rw[if_pos vz];obtain⟨j,e⟩:=JR kind l hk (aG.mk (0:Int) (bT.mk (0:Int) (aj.mk (0:Int) (0:Int))) (ci.mk (0:Int) (0:Int)) (br.mk [] []) (bw.mk [] [])) (aG.mk (0:Int) (bT.mk (0:Int) (aj.mk (0:Int) (0:Int))) (ci.mk (0:Int) (0:Int)) (br.mk [] []) (bw.mk [] [])) (aG.mk (0:Int) (bT.mk (0:Int) (aj.mk (0:Int) (0:Int))) (ci.mk (0:Int) (0:Int)) (br.mk [] []) (bw.mk [] []));rw[e];dsimp only;have z:ec ((1:Int)+kind%(18446744073709551616:Int)%(4:Int)) (ix [[(114:UInt8)],[(99:UInt8)],[(115:UInt8)],[(109:UInt8)]] ((1:Int)+kind%(18446744073709551616:Int)%(4:Int)-(1:Int))) [] [] (g9 ⟨zO ((1:Int)+kind%(18446744073709551616:Int)%(4:Int)),[0,0,0,0,0,0,0,0],0,[],0⟩ ⟨zO ((1:Int)+kind%(18446744073709551616:Int)%(4:Int)),[0,0,0,0,0,0,0,0],0,[],0⟩ ⟨zO ((1:Int)+kind%(18446744073709551616:Int)%(4:Int)),[0,0,0,0,0,0,0,0],0,[],0⟩) 0:=ec.start3;rcases JP kind l hk hy rfl (((50:Int)-(0:Int)).toNat+1) 0 _ _ _ [] [] z (by omega)with h|⟨i,a,b,c,all,eff,h,I,hi⟩
 ·have h:aB kind l (((50:Int)-(0:Int)).toNat+1) (0:Int) _ _ _ _ _ _ _ _ _ _ _ _ _ _ _ _ _=_:=h;first|rw[h]|(simp only[h])
 ·obtain⟨j9,h9⟩:=JQ kind hk hy rfl I hi (((3:Int)-(0:Int)).toNat+1) 0 (by omega);have h:aB kind l (((50:Int)-(0:Int)).toNat+1) (0:Int) _ _ _ _ _ _ _ _ _ _ _ _ _ _ _ _ _=_:=h;rw[h];show(match bO kind a.s a.n a.t a.v b.s b.n b.t b.v c.s c.n c.t c.v all a.h b.h c.h (((3:Int)-(0:Int)).toNat+1) 0 with
   | .inl r=>r
   | .inr s25=>true)=true
  rw[h9]
end Go.Proofs.YtmpeiadlohbikaaGreatDoor.V
end

section
namespace Go.Proofs.YtmpeiadlohbikaaGreatDoor
open Go.ChangeShapes Go.WideShapes Go.ChangeAt Go.RowKit Go.Joins
theorem Tryz.own':ownKnob Tryz.prog.godebug=none:=by kernel_rfl
theorem Tryz.laidOut':laidOutB Tryz.prog=true:=by kernel_rfl
def oX(P:Program)(ts:List TypeId):Bool:=ts.all fun t=>P.readableRec t&&decide (t<P.types.size)
theorem kX{H:Type}{enc:TypeId×Value→H}{P:Program}(hl:laidOutB P=true){W W':World}(hb:Below W.heap.size W W'):
  ∀(ts:List TypeId) (vs:List Value) (ds:List (DataW H)) (ps:List MemPlace),oX P ts=true→DataW.TrodAll enc P W 0 (fun _=>true) true ts vs ds ps→(∀x∈ps,x.block<W.heap.size)→
   DataW.TrodAll enc P W' 0 (fun b=>decide (b<W.heap.size)) true ts vs ds ps
 | [],_,_,_,_,h,_=>by
  obtain⟨rfl,rfl,rfl⟩:=trodAll_nil h;exact trodAll_mk0
 |t::ts,_,_,_,hr,h,hlt=>by
  obtain⟨v,vs,d,ds,p,q,rfl,rfl,rfl,h0,h1⟩:=trodAll_cons h;simp only[oX,List.all_cons,Bool.and_eq_true,decide_eq_true_eq]at hr;exact trodAll_cons_mk (Below.trod hl hr.1.1 hr.1.2 h0 hb fun x hx=>hlt x (List.mem_append_left _ hx))
   (kX hl hb ts vs ds q (by unfold oX;simpa using hr.2) h1 fun x hx=>hlt x (List.mem_append_right _ hx))
theorem Ac{H:Type}{enc:TypeId×Value→H}{f:Func}{s:ChangeSpec}{W W':World}{args:Array Value}{ds gs:List (DataW H)}{before:List MemPlace}{tb:TypeId}
  (hv:s.vars= []) (hW:DataW.Whole enc Tryz.prog f.params.toList s.vars false W args.toList ds gs before) (hfn:s.fn H ds={results:= [.lit (.bool true)],args:=ds})
  (hr:f.resultTypes= #[tb]) (htb:Tryz.prog.underlying tb=some .bool) (hread:oX Tryz.prog f.params.toList=true) (hb:Below W.heap.size W W'):
  s.post enc Tryz.prog f false true false false W args (.bool true) W':=by
 have hlt: ∀x∈before,x.block<W.heap.size:=fun x hx=>hW.lt x hx;obtain⟨p,q,hA,hV,hps,hfz,hnd⟩:=id hW;rw[hv]at hV;obtain⟨rfl,rfl⟩:=trodVars_none hV;rw[List.append_nil]at hps;subst hps;refine⟨ds,[],before,[],before,[],hW,?_,?_,?_,?_,fun h=>by cases h⟩
 ·rw[List.append_nil,hfn,hr];exact trodAll_mk1 (shut_bool htb true)
 ·rw[List.append_nil,hfn];exact kX Tryz.laidOut' hb _ _ _ _ hread hA hlt
 ·rw[List.append_nil,hfn,hv];rfl
 ·exact World.keptBut_mono (fun x hx=>hx.elim) (hb.frame (fun _=>False))
def Ad(f:Func)(W:World)(args:Array Value):Prop:= ∃(H:Type) (enc:TypeId×Value→H) (base:Nat) (ds:List (DataW H)) (p:List MemPlace),
 (∀(j:Nat) t v,f.params[j]? =some t→args[j]? =some v→Value.okWide Tryz.prog W .any base t v)∧DataW.TrodAll enc Tryz.prog W 0 (fun _=>true) true f.params.toList args.toList ds p∧ ∀x∈p,x.block<W.heap.size
theorem Ae(s:ByteArray): ∃l:List UInt8,s=⟨l.toArray⟩:=⟨s.data.toList,by cases s;simp⟩
end Go.Proofs.YtmpeiadlohbikaaGreatDoor
end

section
set_option linter.unusedVariables false
set_option linter.unusedSimpArgs false
namespace Go.Proofs.YtmpeiadlohbikaaGreatDoor
open Go.ChangeShapes Go.WideShapes Go.ChangeAt Go.RowKit Go.Joins
theorem Ao{f:Nat→List Value}{m:Nat}: ∀(len j:Nat) (v:Value),(∀i,i<len→(f i).length=m)→((List.range len).flatMap f)[j]? =some v→ ∃i r,i<len∧r<m∧j=i*m+r∧(f i)[r]? =some v
 |0,j,v,_,h=>by simp at h
 |len+1,j,v,hl,h=>by
  rw[List.range_succ,List.flatMap_append,List.getElem?_append]at h;have hlen:((List.range len).flatMap f).length=len*m:=by
   clear h;have: ∀n,n≤len→((List.range n).flatMap f).length=n*m:=by
    intro n;induction n with
    |zero=>intro _;simp
    |succ n ih=>intro hn;rw[List.range_succ,List.flatMap_append,List.length_append,ih (by omega)];simp[hl n (by omega),Nat.add_mul]
   exact this len (Nat.le_refl _)
  split at h
  ·obtain⟨i,r,hi,hr,e,hv⟩:=Ao len j v (fun i hi=>hl i (by omega)) h;exact⟨i,r,by omega,hr,e,hv⟩
  ·rename_i hge;rw[hlen]at h hge;simp only[List.flatMap_cons,List.flatMap_nil,List.append_nil]at h;refine⟨len,j - len*m,by omega,?_,by omega,h⟩;have:=(List.getElem?_eq_some_iff.1 h).1;rw[hl len (by omega)]at this;exact this
theorem Ap{w:World}{a:Addr}{v:Value}(h:w.cell? a=some v):a.block<w.heap.size∧a.spot=none:=by
 unfold World.cell? at h;split at h
 ·rename_i c t x hb;refine⟨cO hb,?_⟩;split at h
  ·cases h
  ·rename_i hs;simpa using hs
 ·cases h
theorem lE.of_cells{w:World}{a:Addr}{len m:Nat}{f:Nat→List Value}(hm:0<m)(h: ∀i,i<len→w.cells? 0 (a.add (i*m)) m=some (f i)):lE [] w (some a) ((List.range len).flatMap f):=fun j v hj=>by
 obtain⟨i,r,hi,hr,rfl,hv⟩:=Ao len j v (fun i hi=>(World.cells?_some (h i hi)).2.1) hj;have hc:=(World.cells?_some (h i hi)).2.2 r hr;rw[hv,Deep.add_add]at hc;have h0:=(World.cells?_some (h 0 (by omega))).2;have hs:a.spot=Option.none:=by
  have h1:=h0.2 0 hm;rw[List.getElem?_eq_getElem (by omega),Nat.zero_mul]at h1;have:=(Ap h1).2;simpa[Addr.add]using this
 obtain⟨g,b,sp⟩:=a;simp only at hs;subst hs;rw[Addr.add_mid]at hc;exact⟨g,b,rfl,by simp,hc⟩
theorem Ho{P:Program}{w:World}{base t e:Nat}{v:Value}{A:Option Addr}{l c:Nat}(ht:P.underlying t=some (.slice e))(hv:Value.okWide P w .any base t v)(h:v.cells.toList= [.slice A l c]):v= .slice A l c:=by
 unfold Value.okWide at hv;rw[ht]at hv;cases v<;>first|(simp[Value.cells]at h;done)|(simpa[Value.cells]using h)|(simp[Cell.okWide,ht,Cell.ok]at hv;done)
theorem Dq{P:Program}{w:World}{base t:Nat}{k:IntKind}{v:Value}{q:Int}(ht:P.underlying t=some (.int k))(hv:Value.okWide P w .any base t v)(h:v.cells.toList= [.int k q]):v= .int k q:=by
 unfold Value.okWide at hv;rw[ht]at hv;cases v<;>first|(simp[Value.cells]at h;done)|(simpa[Value.cells]using h)|(simp[Cell.okWide,ht,Cell.ok]at hv;done)
theorem Dr{l:Nat}(h:l≤maxLen):l≤9223372036854775807:=by unfold maxLen at h;omega
section
variable {H:Type} {enc:TypeId×Value→H} {W:World}
end
end Go.Proofs.YtmpeiadlohbikaaGreatDoor
end

section
set_option linter.unusedVariables false
set_option linter.unusedSimpArgs false
namespace Go.Proofs.YtmpeiadlohbikaaGreatDoor.V
open Go.ChangeShapes Go.WideShapes Go.ChangeAt Go.RowKit Go.Joins
def Bs(W:World):Prop:= ∀g∈gB,∀j v,W.cell? ⟨g,j,none⟩=some v→j=0
def yr(P:Program)(U:cw)(W:World)(t:Nat)(s:bq):Prop:= ∀(H:Type) (enc:TypeId×Value→H) (fuel:Nat) (cs:List Value) (x:DataW H×List MemPlace),DataW.trod enc P W 0 (fun _=>true) true fuel t cs=some x→ ∃m:TT U.ty s,aK U gB (· =W) s m cs
section
variable {P:Program} {U:cw} {W:World}
theorem vX{t:Nat}(hu:P.underlying t=some (.int .i64)):yr P U W t (.int .i64):=fun H enc fuel cs x h=>by
 obtain⟨q,e,_,w0⟩:=DataW.trod_int hu h;have:=bounds_i64 w0;subst e;exact⟨q,aK.int .i64 q (by unfold eF;omega)⟩
theorem B6{t:Nat}(hu:P.underlying t=some .string):yr P U W t .str:=fun H enc fuel cs x h=>by
 obtain⟨s0,e,_,hs⟩:=DataW.trod_string hu h;obtain⟨l,rfl⟩:=Ae s0;subst e;exact⟨l,aK.str l (Dr (by simpa[ByteArray.size]using hs))⟩
inductive sB(P:Program)(U:cw)(W:World):List Field→List (Nat×bq)→Nat→Prop
 |nil (o:Nat):sB P U W [] [] o
 |cons (f:Field) (r:List Field) (k:Nat) (s:bq) (q:List (Nat×bq)) (o:Nat) (ho:f.offset=o) (hk:P.cellsOf f.type=k) (hs:yr P U W f.type s) (hr:sB P U W r q (o+k)):sB P U W (f::r) ((k,s)::q) o
theorem B7{H:Type}{enc:TypeId×Value→H}{cs:List Value}{fl:List Field}{sh:List (Nat×bq)}{o:Nat}(h:sB P U W fl sh o)
  (hall: ∀f∈fl,∃n y,DataW.trod enc P W 0 (fun _=>true) true n f.type ((cs.drop f.offset).take (P.cellsOf f.type))=some y) (hl:cs.length=o+(sh.map (·.1)).sum): ∃T:ut U.ty sh,bY U gB (· =W) sh T (cs.drop o):=by
 induction h with
 |nil o=>exact⟨(),by rw[List.drop_of_length_le (by simp at hl;omega)];exact bY.nil⟩
 |cons f r k s q o ho hk hs hr ih=>
  obtain⟨T,hT⟩:=ih (fun g hg=>hall g (by simp[hg])) (by simp at hl⊢;omega);obtain⟨n,y,hy⟩:=hall f (by simp);rw[ho,hk]at hy;obtain⟨m,hm⟩:=hs _ _ _ _ _ hy;refine⟨(m,T),?_⟩;have e:cs.drop o=(cs.drop o).take k++cs.drop (o+k):=by rw[←List.drop_drop,List.take_append_drop]
  rw[e];exact bY.cons k s q m T _ _ hm (by simp at hl⊢;omega) hT
theorem yI{t i:Nat}{fs:Array Field}(hu:P.underlying t=some (.struct fs))(hz:P.cellsOf t=(U.rd i).sz)(hf:sB P U W fs.toList (U.rd i).fs 0)(hof: ∀T,(U.rd i).ofK T fun _=>True):yr P U W t (.st i):=fun H enc fuel cs x h=>by
 obtain⟨xs,n,_,_,hlen,hl,hall⟩:=DataW.trod_struct hu h;have hall2: ∀f∈fs.toList,∃n y,DataW.trod enc P W 0 (fun _=>true) true n f.type ((cs.drop f.offset).take (P.cellsOf f.type))=some y:=fun f hf=>by
  obtain⟨j,hj⟩:=List.getElem?_of_mem hf;have hj':fs[j]? =some f:=by rw[←Array.getElem?_toList];exact hj
  have:=hall j f hj';have hjl:j<xs.length:=by
   rw[hl];rcases Nat.lt_or_ge j fs.size with h|h
   ·exact h
   ·rw[Array.getElem?_eq_none h]at hj';cases hj'
  rw[List.getElem?_eq_getElem hjl]at this;exact⟨n,_,this⟩
 obtain⟨T,hT⟩:=B7 hf hall2 (by rw[hlen,hz,(U.rd i).sz_ok];omega);rw[List.drop_zero]at hT;obtain⟨m,hm,hto⟩:=(U.rd i).ofK_ok T _ (hof T);exact⟨m,aK.st i m cs (hto▸hT) (by rw[hlen,hz])⟩
theorem B8{s:bq}{z:Nat}(hz:aQ U s=z){f:Nat→List Value}{q:Nat→TT U.ty s}: ∀(n:Nat),(∀i,i<n→aK U gB (· =W) s (q i) (f i))→ba U gB (· =W) s ((List.range n).map q) ((List.range n).flatMap f):=by
 have key: ∀(l:List Nat),(∀i∈l,aK U gB (· =W) s (q i) (f i))→ba U gB (· =W) s (l.map q) (l.flatMap f):=by
  intro l;induction l with
  |nil=>intro _;exact ba.nil s
  |cons i r ih=>
   intro h;exact ba.cons s (q i) (r.map q) (f i) _ (h i (by simp)) (h i (by simp)).length (ih fun j hj=>h j (by simp[hj]))
 exact fun n h=>key _ fun i hi=>h i (List.mem_range.1 hi)
theorem Gb{t e z:Nat}{s:bq}(hB:Bs W)(hu:P.underlying t=some (.slice e))(hz:aQ U s=z)(he:P.cellsOf e=z)(h2:2≤z)(ho:yr P U W e s):yr P U W t (.sl s):=fun H enc fuel cs x h=>by
 rcases Deep.open_slice hu h with⟨rfl,_⟩|⟨a,len,cap,mm,n,D,Pl,rfl,_,hlc,hcm,hmm,_,hall⟩
 ·exact⟨([]:List (TT U.ty s)),aK.sl s [] none 0 [] (ba.nil s) (fun w _ j v hj=>by simp at hj) (Nat.le_refl _) (Nat.zero_le _)⟩
 ·simp only[if_true]at hmm;subst hmm;rw[he]at hall;have hq: ∀i,i<len→ ∃o:List Value×TT U.ty s,W.cells? 0 (a.add (i*z)) z=some o.1∧aK U gB (· =W) s o.2 o.1:=fun i hi=>by
   obtain⟨cs',h1,h2⟩:=hall i (by omega);obtain⟨o,ho⟩:=ho _ _ _ _ _ h2;exact⟨(cs',o),h1,ho⟩
  rcases Nat.eq_zero_or_pos len with h0|h0
  ·subst h0;exact⟨([]:List (TT U.ty s)),aK.sl s [] (some a) mm [] (ba.nil s) (fun w _ j v hj=>by simp at hj) (Nat.zero_le _) hcm⟩
  haveI:Inhabited (List Value×TT U.ty s):=⟨(hq 0 h0).choose⟩
  obtain⟨q,hq⟩:=Deep.choose_lt hq;have hrd:=lE.of_cells (f:=fun i=>(q i).1) (by omega) (fun i hi=>(hq i hi).1);have hd:=B8 (W:=W) hz len (f:=fun i=>(q i).1) (q:=fun i=>(q i).2) (fun i hi=>(hq i hi).2);refine⟨(List.range len).map fun i=>(q i).2,?_⟩;have hl:((List.range len).map fun i=>(q i).2).length=len:=by simp
  have:=aK.sl (Y:=gB) (S:=(· =W)) s ((List.range len).map fun i=>(q i).2) (some a) mm _ hd (fun w hw=>?_) (by rw[hl];simpa using hlc) hcm
  ·rw[hl]at this;exact this
  ·subst hw;intro j v hj;obtain⟨g,b,e,_,hc⟩:=hrd j v hj;refine⟨g,b,e,fun hg=>?_,hc⟩;have hc1:=(World.cells?_some (hq 0 h0).1).2;have hlen1:=hc1.1;have hv:=hc1.2 1 (by omega);rw[List.getElem?_eq_getElem (by omega),Nat.zero_mul]at hv;injection e with e;subst e;have:=hB g hg _ _ hv;simp[Addr.add]at this
end
end Go.Proofs.YtmpeiadlohbikaaGreatDoor.V
end

section
namespace Go.Proofs.YtmpeiadlohbikaaGreatDoor
open Go.ChangeShapes Go.WideShapes Go.ChangeAt Go.RowKit Go.Joins
set_option maxRecDepth 100000 in
theorem xT{f:FuncId}{fn:Func}{s:ChangeSpec}{tb:TypeId}{laid:List (String×DataW Unit)}(hfn:Tryz.prog.funcs[f]? =some fn)(hinit:Tryz.prog.inits.idxOf? f=none)(hv:s.vars= [])(hr:fn.resultTypes= #[tb])(htb:Tryz.prog.underlying tb=some .bool)(hread:oX Tryz.prog fn.params.toList=true)
  (hspec: ∀(H:Type) (ds:List (DataW H)),ds.length=fn.params.toList.length→s.fn H ds={results:= [.lit (.bool true)],args:=ds})
  (walk: ∀(W:World) (args:Array Value),Ad fn W args→W.ShapedOpen Tryz.prog→laidMetH Tryz.prog laid W→Fn Tryz.prog f args.toList W fun v w'=>v= .bool true∧Fr [] W w')
  (os:Os) (started:os.Started) (H:Type) (enc:TypeId×Value→H)
  (witness: ∃(w:World) (tape:Tape) (i:Input),w.os=os∧(w.forCall tape i).Shaped Tryz.checked.prog∧i.vars= []∧Input.okWide Tryz.checked.prog (w.forCall tape i) .any w.heap.size f i∧
   ((s.pre enc Tryz.checked.prog fn [] false (w.forCall tape i).memory i.args∧laidMetH Tryz.prog laid (w.forCall tape i).memory)∧sizedMet enc Tryz.checked.prog fn (OpenSpec.ofChange s) false (w.forCall tape i).memory i.args)∧({}:Assume).holds Tryz.checked.prog (lone (Frame.enter Tryz.checked.prog f i.args .normal) [] (w.forCall tape i))):
  ReturnsInHanded {} Tryz.checked os f .any (fun w args=>(s.pre enc Tryz.prog fn [] false w args∧laidMetH Tryz.prog laid w)∧sizedMet enc Tryz.prog fn (OpenSpec.ofChange s) false w args) (s.post enc Tryz.prog fn false true false false):=by
 refine returnsInHanded_of_calls Tryz.own' started hinit witness ?_;intro w tape i _ hsh _ hok hpre hholds;obtain⟨_,_,_,fn',hfn',_,_,_,_,hval⟩:=hok;have e:fn'=fn:=Option.some.inj (hfn'.symm.trans hfn);subst e;obtain⟨⟨⟨ds,gs,before,hw,hc⟩,hx⟩,hz⟩:=hpre;have hw':=DataW.Whole.of_heap (w':=w.forCall tape i) (by rfl) hw;have hX:laidMetH Tryz.prog laid (w.forCall tape i):=hx.of_heap (by rfl);have hW':DataW.Whole enc Tryz.prog fn'.params.toList s.vars false (w.forCall tape i) i.args.toList ds gs before:=hw';have hlt: ∀x∈before,x.block<(w.forCall tape i).heap.size:=fun x hx=>hW'.lt x hx;obtain⟨p,q,hA,hV,hps,_,_⟩:=id hW';have hlen:ds.length=fn'.params.toList.length:=by
  have key: ∀(W:World) (ts:List TypeId) (vs:List Value) (ds:List (DataW H)) (ps:List MemPlace),DataW.TrodAll enc Tryz.prog W 0 (fun _=>true) true ts vs ds ps→ds.length=ts.length:=by
   intro W ts;induction ts with
   |nil=>intro vs ds ps h;obtain⟨_,rfl,_⟩:=trodAll_nil h;rfl
   |cons t ts ih=>intro vs ds ps h;obtain⟨v,vs,d,ds,p,q,rfl,rfl,rfl,_,h1⟩:=trodAll_cons h;simp[ih _ _ _ h1]
  exact key _ _ _ _ _ hA
 have hcl:=(walk (w.forCall tape i) i.args ⟨H,enc,w.heap.size,ds,p,hval,hA,fun x hx=>hlt x (by rw[hps];exact List.mem_append_left _ hx)⟩ hsh hX).2;rw[Array.toArray_toList]at hcl;refine Calls.mono hcl fun e W' ⟨v,he,hv',hF⟩=>?_;subst he;subst hv';exact ChangeSpec.post_blind (Ac hv hW' (hspec H ds hlen) hr htb hread hF.below)
end Go.Proofs.YtmpeiadlohbikaaGreatDoor
end

section
set_option linter.unusedVariables false
set_option linter.unusedSimpArgs false
namespace Go.Proofs.YtmpeiadlohbikaaGreatDoor.V
open Go.ChangeShapes Go.WideShapes Go.ChangeAt Go.RowKit Go.Joins
theorem DD{f:FuncId}{c:bG U}{xs:List (Va U)}{vs:List Value}{W:World}(hk:dz Tryz.prog U f c)(hg:Gv W)(hv: ∀(F:ay) (ρ:Nat→Rz),cx (@Vw F U gB W ρ 0 []) xs vs)
  (hr:c.run xs [] fun r es=>r= .v ⟨false,[(1,.d .bool true)]⟩∧es= []):Fn Tryz.prog f vs W fun v w'=>v= .bool true∧Fr [] W w':=by
 obtain⟨b,bx,bp⟩: ∃b:Bx,b.f.xf=gB∧b.f.pr=Tryz.prog:=⟨⟨⟨gB,Tryz.prog⟩⟩,rfl,rfl⟩;have M:=Jl (F0:=b.f) (U:=U) (X:=gB) (w:=W) (ρ0:=fun _=>⟨none,0⟩) (fun x hx=>hg.lt x hx) (fun z hz=>bx▸hz) ⟨fun z hz=>bx▸hz,fun w hw=>hw▸hg⟩;refine Fn.mono (@hk b.f bp gB W _ [] xs vs _ M (hv b.f _) hr) fun v w'=>?_;rintro⟨r,es',ρ',⟨rfl,rfl⟩,hav,M',st⟩;have st:=cW.i (F0:=b.f) st;exact⟨@wB b.f _ _ _ _ _ _ 1 true v hav,st.fr⟩
theorem JK{W:World}(h:W.ShapedOpen Tryz.prog):Bs W:=fun g hg j v hc=>by
 have e:g=0:=by simpa[gB]using hg
 subst e;obtain⟨cs,hh,hs,_⟩:=h.1 0 #[.int .i64 0] 3 (of_decide_eq_true (by kernel_rfl)) (by kernel_rfl);have hs:cs.size=1:=hs;have h1:cs[j]? =some v:=by simpa[World.cell?,hh]using hc
 have:=(Array.getElem?_eq_some_iff.1 h1).1;omega
section
variable {W:World}
set_option maxRecDepth 20000
theorem o3:yr Tryz.prog U W 3 (.int .i64):=vX Tryz.underlying3
theorem o2:yr Tryz.prog U W 2 (.int .i64):=vX Tryz.underlying2
theorem o9:yr Tryz.prog U W 9 .str:=B6 Tryz.underlying9
theorem Q6:yr Tryz.prog U W 54 (.st 1):=yI Tryz.underlying54 (by kernel_rfl) (.cons _ _ _ _ _ _ rfl (by kernel_rfl) o3 (.cons _ _ _ _ _ _ rfl (by kernel_rfl) o9 (.cons _ _ _ _ _ _ rfl (by kernel_rfl) o2 (.nil _)))) (fun _=>trivial)
theorem Q7:yr Tryz.prog U W 56 (.st 19):=yI Tryz.underlying56 (by kernel_rfl) (.cons _ _ _ _ _ _ rfl (by kernel_rfl) o3 (.cons _ _ _ _ _ _ rfl (by kernel_rfl) o3 (.cons _ _ _ _ _ _ rfl (by kernel_rfl) o3 (.cons _ _ _ _ _ _ rfl (by kernel_rfl) Q6 (.nil _))))) (fun _=>trivial)
theorem Q8(hB:Bs W):yr Tryz.prog U W 22 (.sl (.st 19)):=Gb (z:=6) hB Tryz.underlying22 rfl (by kernel_rfl) (by decide) Q7
end
end Go.Proofs.YtmpeiadlohbikaaGreatDoor.V
end

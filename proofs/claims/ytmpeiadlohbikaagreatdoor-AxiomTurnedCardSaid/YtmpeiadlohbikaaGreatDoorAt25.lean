/- Rows whose elements each own a row: an element's own row is told for a while by an entry of its own. -/
import Derived.Test.YtmpeiadlohbikaaGreatDoorAt24
section
set_option linter.unusedVariables false
set_option linter.unusedSimpArgs false
set_option maxRecDepth 20000
set_option maxHeartbeats 4000000
namespace Go.Proofs.YtmpeiadlohbikaaGreatDoor.V
open Go.RowKit
def BK(x:al):Bool:=decide (x.ops.length≤1000)&&x.ops.all (fun p=>decide (p.key.length≤1000000))&&x.looks.all (fun p=>decide (p.key.length≤1000000))
theorem o6{l:List al}(h:l.all BK=true): ∀y∈l,iF y:=fun y hy=>by
 have:=List.all_eq_true.1 h y hy;unfold BK at this;simp only[Bool.and_eq_true,decide_eq_true_eq,List.all_eq_true]at this;exact⟨this.1.1,this.1.2,this.2⟩
def U7:c6 U:= [(20,Rs),(24,OF)]
theorem JD:bi Tryz.prog U U7:=aa CN (aa MN (ah))
def jw:Bool:=
 decide ((br [al.mk (bC.mk (1:Int) (1:Int)) [(0:Int),(0:Int),(1:Int),(0:Int),(0:Int),(0:Int),(0:Int),(0:Int)] (0:Int) [] [],al.mk (bC.mk (2:Int) (1:Int)) [(0:Int),(1:Int),(0:Int),(0:Int),(0:Int),(0:Int),(0:Int),(0:Int)] (0:Int) [] []]).fst=(0:Int))&&decide ((br [al.mk (bC.mk (1:Int) (1:Int)) [(0:Int),(0:Int),(1:Int),(0:Int),(0:Int),(0:Int),(0:Int),(0:Int)] (0:Int) [] [],al.mk (bC.mk (2:Int) (1:Int)) [(0:Int),(1:Int),(0:Int),(0:Int),(0:Int),(0:Int),(0:Int),(0:Int)] (0:Int) [] []]).snd=(5:Int))&&decide ((br [al.mk (bC.mk (1:Int) (1:Int)) [(0:Int),(0:Int),(0:Int),(0:Int),(0:Int),(0:Int),(0:Int),(0:Int)] (0:Int) [ak.mk (bC.mk (1:Int) (1:Int)) [(0:Int),(0:Int),(0:Int),(0:Int),(0:Int),(0:Int),(0:Int),(0:Int)] (0:Int) [(99:UInt8)] (lM.mk (2:Int) [] (5:Int)) (aV.mk (0:Int) (0:Int))] [bI.mk [(99:UInt8)] (1:Int) (aB.mk (2:Int) (5:Int) [])],al.mk (bC.mk (2:Int) (1:Int)) [(0:Int),(1:Int),(0:Int),(0:Int),(0:Int),(0:Int),(0:Int),(0:Int)] (0:Int) [] []]).fst=(-1:Int))&&decide ((br [al.mk (bC.mk (1:Int) (1:Int)) [(0:Int),(0:Int),(0:Int),(0:Int),(0:Int),(0:Int),(0:Int),(0:Int)] (0:Int) [ak.mk (bC.mk (1:Int) (1:Int)) [(0:Int),(0:Int),(0:Int),(0:Int),(0:Int),(0:Int),(0:Int),(0:Int)] (0:Int) [(99:UInt8)] (lM.mk (2:Int) [] (5:Int)) (aV.mk (0:Int) (0:Int))] [bI.mk [(99:UInt8)] (1:Int) (aB.mk (2:Int) (5:Int) [])],al.mk (bC.mk (2:Int) (1:Int)) [(0:Int),(1:Int),(0:Int),(0:Int),(0:Int),(0:Int),(0:Int),(0:Int)] (0:Int) [] []]).snd=(0:Int))&&decide ((br [al.mk (bC.mk (2:Int) (1:Int)) [(0:Int),(1:Int),(0:Int),(0:Int),(0:Int),(0:Int),(0:Int),(0:Int)] (0:Int) [] [],al.mk (bC.mk (1:Int) (1:Int)) [(0:Int),(0:Int),(0:Int),(0:Int),(0:Int),(0:Int),(0:Int),(0:Int)] (0:Int) [ak.mk (bC.mk (1:Int) (1:Int)) [(0:Int),(0:Int),(0:Int),(0:Int),(0:Int),(0:Int),(0:Int),(0:Int)] (0:Int) [(99:UInt8)] (lM.mk (2:Int) [] (5:Int)) (aV.mk (0:Int) (0:Int))] ([bI.mk [(99:UInt8)] (1:Int) (aB.mk (2:Int) (5:Int) [])].set (Int.toNat (0:Int)) (bI.mk (ix [bI.mk [(99:UInt8)] (1:Int) (aB.mk (2:Int) (5:Int) [])] (0:Int)).key (ix [bI.mk [(99:UInt8)] (1:Int) (aB.mk (2:Int) (5:Int) [])] (0:Int)).n (aB.mk (ix [bI.mk [(99:UInt8)] (1:Int) (aB.mk (2:Int) (5:Int) [])] (0:Int)).v.kind (4:Int) (ix [bI.mk [(99:UInt8)] (1:Int) (aB.mk (2:Int) (5:Int) [])] (0:Int)).v.items)))]).fst=(1:Int))&&decide ((br [al.mk (bC.mk (2:Int) (1:Int)) [(0:Int),(1:Int),(0:Int),(0:Int),(0:Int),(0:Int),(0:Int),(0:Int)] (0:Int) [] [],al.mk (bC.mk (1:Int) (1:Int)) [(0:Int),(0:Int),(0:Int),(0:Int),(0:Int),(0:Int),(0:Int),(0:Int)] (0:Int) [ak.mk (bC.mk (1:Int) (1:Int)) [(0:Int),(0:Int),(0:Int),(0:Int),(0:Int),(0:Int),(0:Int),(0:Int)] (0:Int) [(99:UInt8)] (lM.mk (2:Int) [] (5:Int)) (aV.mk (0:Int) (0:Int))] ([bI.mk [(99:UInt8)] (1:Int) (aB.mk (2:Int) (5:Int) [])].set (Int.toNat (0:Int)) (bI.mk (ix [bI.mk [(99:UInt8)] (1:Int) (aB.mk (2:Int) (5:Int) [])] (0:Int)).key (ix [bI.mk [(99:UInt8)] (1:Int) (aB.mk (2:Int) (5:Int) [])] (0:Int)).n (aB.mk (ix [bI.mk [(99:UInt8)] (1:Int) (aB.mk (2:Int) (5:Int) [])] (0:Int)).v.kind (4:Int) (ix [bI.mk [(99:UInt8)] (1:Int) (aB.mk (2:Int) (5:Int) [])] (0:Int)).v.items)))]).snd=(7:Int))&&decide ((aO [al.mk (bC.mk (1:Int) (1:Int)) [(0:Int),(0:Int),(0:Int),(0:Int),(0:Int),(0:Int),(0:Int),(0:Int)] (0:Int) [] []]).snd=(0:Int))&&decide ((↑(aO [al.mk (bC.mk (1:Int) (1:Int)) [(0:Int),(0:Int),(0:Int),(0:Int),(0:Int),(0:Int),(0:Int),(0:Int)] (0:Int) [] []]).fst.length:Int)=(1:Int))
def Ry:aW U:=⟨[],fun xs es K=>xs= []∧es= []∧K (.v ⟨false,[(1,.d .bool jw)]⟩) []⟩
theorem Fh:bh Tryz.prog U 18 Ry:=by
 refine I4 (fn:=Tryz.f18) JD bP (by kernel_rfl) Tryz.f18.ntmps 6 [7,4] [8,9] [1,4,7,5,6] [.d .bool] [] (by kernel_rfl) (by kernel_rfl) rfl rfl (by kernel_rfl) (fun xs es K=>?_);rintro⟨rfl,rfl,h⟩;refine⟨rfl,?_⟩;have hf0:=jw.eq_1;refine⟨_,rfl,rfl,(o6 (by decide)),?_⟩;refine⟨_,rfl,rfl,(o6 (by decide)),?_⟩;refine And.intro (show(0:Int)≤(0:Int)∧(0:Int)<(↑[bI.mk [(99:UInt8)] (1:Int) (aB.mk (2:Int) (5:Int) [])].length:Int)from by(simp only[List.length_append,List.length_cons,List.length_nil];omega)) ?_;refine⟨_,rfl,rfl,(o6 (by decide)),?_⟩;refine⟨_,rfl,rfl,(o6 (by decide)),?_⟩;rw[hf0]at h;exact h
end Go.Proofs.YtmpeiadlohbikaaGreatDoor.V
end

section
set_option linter.unusedVariables false
set_option linter.unusedSimpArgs false
namespace Go.Proofs.YtmpeiadlohbikaaGreatDoor.V
open Go.RowKit Go.Shelf Go.Lib Go.Sort
theorem xz{α:Type}{f:α→α}(h: ∀x,f x=x)(l:List α):l.map f=l:=by
 induction l with
 |nil=>rfl
 |cons a l ih=>rw[List.map_cons,h,ih]
theorem IZ(e:ak):kQ e=e:=rfl
theorem Ep(l:List ak):dO l=l:=by
 unfold dO;rw[iV l (fun b x=>b++ [kQ x]) (iH l) (fun fuel b i _=>by rw[iH]) []];dsimp only;rw[gg,List.nil_append];exact xz IZ l
theorem ru(v:aB):du v=v:=by
 unfold du;rw[iV v.items (fun b x=>b++ [ar.mk x.field x.val]) (eY v) (fun fuel b i _=>by rw[eY]) []];dsimp only;rw[gg,List.nil_append,xz (fun _=>rfl)]
theorem kL(l:List al):bt l=l:=by
 unfold bt;rw[iV l (fun b x=>b++ [x]) (gm l) (fun fuel b i _=>by
  rw[gm];split
  ·rw[iV (ix l i).looks (fun b x=>b++ [bI.mk x.key x.n (du x.v)]) (gl l i b) (fun fuel b i _=>by rw[gl]) []];dsimp only;rw[gg,List.nil_append,xz (fun k=>by rw[ru]),Ep]
  ·rfl) []]
 dsimp only;rw[show(fun(b:List al) x=>b++ [x])=fun b x=>b++ [id x]from rfl,gg,List.nil_append];exact xz (fun _=>rfl) l
theorem yD(l:List ak)(h: ¬eI l=true): ∀p∈l,p.key.length≤100:=by
 unfold eI at h;obtain⟨q,hq⟩:=n5 l (fun p=>decide (¬(((100:Int)<(p.key.length:Int))∨((100:Int)<(p.op.name.length:Int))))) true (eX l) (fun fuel i _=>by
  rw[eX];split
  ·simp only[decide_eq_true_eq,ite_not]
  ·rfl)
 rw[hq]at h;by_cases ha:l.all (fun p:ak=>decide (¬(((100:Int)<(p.key.length:Int))∨((100:Int)<(p.op.name.length:Int)))))=true
 ·intro p hp;have:=List.all_eq_true.1 ha p hp;simp only[decide_eq_true_eq]at this;omega
 ·rw[if_neg ha]at h;exact absurd rfl h
def uA(k:bI):Bool:=decide (¬(((100:Int)<(k.key.length:Int))∨((100:Int)<(k.v.items.length:Int))))
theorem rv(l:List al)(h: ¬ff l=true):l.length≤129∧ ∀x∈l,(x.ops.length≤20∧x.looks.length≤20∧ ¬eI x.ops=true)∧x.looks.all uA=true:=by
 unfold ff at h;split at h
 ·exact absurd rfl h
 ·refine⟨by omega,?_⟩;obtain⟨q,hq⟩:=n5 l (fun x=>decide (¬(((((20:Int)<(x.ops.length:Int))∨((20:Int)<(x.looks.length:Int)))∨(eI x.ops=true))∨(((30:Int)<(l.length:Int))∧((0:Int)<(x.ops.length:Int)))))&&x.looks.all uA) true (e8 l) (fun fuel i _=>by
   rw[e8];split
   ·obtain⟨q,hq⟩:=n5 (ix l i).looks uA true (eZ l i) (fun fuel i _=>by
     rw[eZ];split
     ·unfold uA;simp only[decide_eq_true_eq,ite_not]
     ·rfl)
    rw[hq];split
    ·rename_i hc;rw[if_neg (by simp only[Bool.and_eq_true,decide_eq_true_eq,not_and];exact fun q=>absurd hc q)]
    ·rename_i hc;cases ha:(ix l i).looks.all uA with
     |true=>rw[if_pos rfl,if_pos (by simp only[Bool.and_true,decide_eq_true_eq];exact hc)]
     |false=>rw[if_neg (by simp),if_neg (by simp)]
   ·rfl)
  rw[hq]at h;by_cases ha:l.all (fun x:al=>decide (¬(((((20:Int)<(x.ops.length:Int))∨((20:Int)<(x.looks.length:Int)))∨(eI x.ops=true))∨(((30:Int)<(l.length:Int))∧((0:Int)<(x.ops.length:Int)))))&&x.looks.all uA)=true
  ·intro x hx;have:=List.all_eq_true.1 ha x hx;rw[Bool.and_eq_true,decide_eq_true_eq]at this;exact⟨⟨by omega,by omega,fun q=>this.1 (.inl (.inr q))⟩,this.2⟩
  ·rw[if_neg ha]at h;exact absurd rfl h
theorem Gq{l:List bI}(h:l.all uA=true): ∀k∈l,k.key.length≤100∧k.v.items.length≤100:=fun k hk=>by
 have:=List.all_eq_true.1 h k hk;unfold uA at this;rw[decide_eq_true_eq]at this;omega
theorem uB{l:List al}(h: ¬ff l=true):yT l:=by
 obtain⟨h1,h2⟩:=rv l h;exact⟨by omega,fun x hx=>⟨by have:=(h2 x hx).1.1;omega,by have:=(h2 x hx).1.2.1;omega,fun k hk=>by have:=Gq (h2 x hx).2 k hk;omega⟩⟩
theorem n4{l:List al}(h: ¬ff l=true): ∀y∈bt l,iF y:=by
 rw[kL];obtain⟨h1,h2⟩:=rv l h;exact fun x hx=>⟨by have:=(h2 x hx).1.1;omega,fun p hp=>by have:=yD _ (h2 x hx).1.2.2 p hp;omega,fun k hk=>by have:=Gq (h2 x hx).2 k hk;omega⟩
end Go.Proofs.YtmpeiadlohbikaaGreatDoor.V
end

section
set_option linter.unusedVariables false
set_option linter.unusedSectionVars false
set_option linter.unusedSimpArgs false
namespace Go.Proofs.YtmpeiadlohbikaaGreatDoor.V
open Go.RowKit
structure DD(U:bD) where
 e:aZ
 e2:aZ
 t2:TypeId
 of_:Nat
 nest:TT U.ty e→List (TT U.ty e2)
 repl:TT U.ty e→List (TT U.ty e2)→TT U.ty e
 sz:0<aG U e
 sz2:0<aG U e2
 off:of_<aG U e
 put: ∀{Y:List Nat} {S:World→Prop} {x:TT U.ty e} {v1 v2:List Value} {ys:List (TT U.ty e2)} {h:Value},aC U Y S e x (v1++ [Value.slice none 0 0]++v2)→v1.length=of_→aC U Y S (.sl e2) ys [h]→aC U Y S e (repl x ys) (v1++ [h]++v2)
 nil: ∀{Y:List Nat} {S:World→Prop} {x:TT U.ty e} {v1 v2:List Value},aC U Y S e x (v1++ [Value.slice none 0 0]++v2)→v1.length=of_→nest x= []
 nr: ∀x ys,nest (repl x ys)=ys
 rr: ∀x ys zs,repl (repl x ys) zs=repl x zs
 rn: ∀x,repl x (nest x)=x
section
variable {U:bD}
theorem CH{Y Y':List Nat}{S S':World→Prop}(m:Oe Y S Y' S'): @Mv ⟨[],default⟩ Y S Y' S':=fun w' h'=>by
 obtain⟨w,h1,h2,h3⟩:=m w' h';exact⟨w,Y,h1,h2,fun y hy=>⟨hy,fun h=>(by cases h)⟩,h3⟩
def RU:Option Nat→Option Nat
 |some (n+1)=>some n
 |_=>none
def Vl:Option Nat→Bool
 |some 0=>true
 |_=>false
variable (D:DD U) (Y:List Nat) (S:World→Prop) (C:Nat→Obj)
def KE(hole:Bool)(x:TT U.ty D.e)(cs:List Value)(b:List Nat):Prop:=
 ∃v1 v2 A l c,cs=v1++ [Value.slice A l c]++v2∧v1.length=D.of_∧cs.length=aG U D.e∧aC U Y S D.e (D.repl x []) (v1++ [Value.slice none 0 0]++v2)∧b=(ab A).toList∧
  (hole=false→l=(D.nest x).length∧ ∃n1 s1,aR U Y S D.e2 (D.nest x) n1∧Ow A l c (aG U D.e2) n1 s1∧ ∀g,ab A=some g→C g=Cl (n1++s1) D.t2)
def NL:Option Nat→List (TT U.ty D.e)→List Value→List (List Nat)→Prop
 |_,[],cs,bl=>cs= []∧bl= []
 |q,x::xs,cs,bl=> ∃c1 c2 b bl',cs=c1++c2∧bl=b::bl'∧KE D Y S C (Vl q) x c1 b∧NL (RU q) xs c2 bl'
variable {D} {Y} {S} {C}
theorem NL.len: ∀{xs:List (TT U.ty D.e)} {q:Option Nat} {cs:List Value} {bl:List (List Nat)},NL D Y S C q xs cs bl→cs.length=xs.length*aG U D.e∧bl.length=xs.length
 | [],q,cs,bl,h=>by obtain⟨rfl,rfl⟩:=h;simp
 |x::xs,q,cs,bl,h=>by
  obtain⟨c1,c2,b,bl',rfl,rfl,⟨v1,v2,A,l,c,_,_,h1,_⟩,h2⟩:=h;obtain⟨a,b⟩:=NL.len h2;exact⟨by rw[List.length_append,h1,a,List.length_cons,Nat.add_mul,Nat.one_mul,Nat.add_comm],by rw[List.length_cons,b,List.length_cons]⟩
theorem KE.mv{Y':List Nat}{S':World→Prop}(m:Oe Y S Y' S'){hole:Bool}{x:TT U.ty D.e}{cs:List Value}{b:List Nat}(h:KE D Y S C hole x cs b):KE D Y' S' C hole x cs b:=by
 obtain⟨v1,v2,A,l,c,h1,h2,h3,h4,h5,h6⟩:=h;refine⟨v1,v2,A,l,c,h1,h2,h3, @aC.mv ⟨[],default⟩ _ _ _ _ _ (CH m) _ _ _ h4,h5,fun hh=>?_⟩;obtain⟨e1,n1,s1,g1,g2,g3⟩:=h6 hh;exact⟨e1,n1,s1, @aR.mv ⟨[],default⟩ _ _ _ _ _ (CH m) _ _ _ g1,g2,g3⟩
theorem NL.mv{Y':List Nat}{S':World→Prop}(m:Oe Y S Y' S'): ∀{xs:List (TT U.ty D.e)} {q:Option Nat} {cs:List Value} {bl:List (List Nat)},NL D Y S C q xs cs bl→NL D Y' S' C q xs cs bl
 | [],q,cs,bl,h=>h
 |x::xs,q,cs,bl,h=>by
  obtain⟨c1,c2,b,bl',e1,e2,h1,h2⟩:=h;exact⟨c1,c2,b,bl',e1,e2,h1.mv m,NL.mv m h2⟩
theorem NL.cong{C':Nat→Obj}: ∀{xs:List (TT U.ty D.e)} {q:Option Nat} {cs:List Value} {bl:List (List Nat)},(∀i b,bl[i]? =some b→q≠some i→ ∀g∈b,C g=C' g)→NL D Y S C q xs cs bl→NL D Y S C' q xs cs bl
 | [],q,cs,bl,_,h=>h
 |x::xs,q,cs,bl,hc,h=>by
  obtain⟨c1,c2,b,bl',e1,e2,⟨v1,v2,A,l,c,h1,h2,h3,h4,h5,h6⟩,h7⟩:=h;subst e2;refine⟨c1,c2,b,bl',e1,rfl,⟨v1,v2,A,l,c,h1,h2,h3,h4,h5,fun hh=>?_⟩,NL.cong (fun i b' hb hq=>hc (i+1) b' hb fun e=>hq (by rw[e];rfl)) h7⟩;obtain⟨e1,n1,s1,g1,g2,g3⟩:=h6 hh;refine⟨e1,n1,s1,g1,g2,fun g hg=>?_⟩;rw[←hc 0 b rfl (fun e=>by rw[e]at hh;cases hh) g (by rw[h5,hg];simp)];exact g3 g hg
theorem NL.app: ∀{xs ys:List (TT U.ty D.e)} {cs ds:List Value} {bl bm:List (List Nat)},NL D Y S C none xs cs bl→NL D Y S C none ys ds bm→NL D Y S C none (xs++ys) (cs++ds) (bl++bm)
 | [],ys,cs,ds,bl,bm,h,h'=>by obtain⟨rfl,rfl⟩:=h;exact h'
 |x::xs,ys,cs,ds,bl,bm,h,h'=>by
  obtain⟨c1,c2,b,bl',rfl,rfl,h1,h2⟩:=h;exact⟨c1,c2++ds,b,bl'++bm,by rw[List.append_assoc],rfl,h1,NL.app h2 h'⟩
theorem NL.one: ∀{xs:List (TT U.ty D.e)} {q:Option Nat} {cs:List Value} {bl:List (List Nat)},NL D Y S C q xs cs bl→ ∀v∈cs,v.oneCell'=true
 | [],q,cs,bl,h=>by obtain⟨rfl,rfl⟩:=h;simp
 |x::xs,q,cs,bl,h=>by
  obtain⟨c1,c2,b,bl',rfl,rfl,⟨v1,v2,A,l,c,rfl,h2,h3,h4,h5,h6⟩,h7⟩:=h;intro v hv;have h8:=h4.one;simp only[List.mem_append,List.mem_singleton]at hv h8;rcases hv with((hv|rfl)|hv)|hv
  ·exact h8 v (.inl (.inl hv))
  ·rfl
  ·exact h8 v (.inr hv)
  ·exact NL.one h7 v hv
theorem wr{A:Option Addr}{l c m:Nat}{cs sp:List Value}{t:TypeId}(how:Ow A l c m cs sp)(hC: ∀g,ab A=some g→g∉Y∧ ∀w,S w→w.heap[g]? =some (Cl (cs++sp) t)):rS Y S A cs∧l≤c∧c≤maxLen:=by
 refine⟨fun w2 h2 j u hj=>?_,?_⟩
 ·have hjl:j<cs.length:=(List.getElem?_eq_some_iff.1 hj).1;rcases how.2 with⟨_,h0,_⟩|⟨g,hA,_⟩
  ·rw[how.1,h0,Nat.zero_mul]at hjl;omega
  refine⟨g,0,hA,(hC g (by rw[hA];rfl)).1,?_⟩;rw[cell_of_row w2 g (0+j) (cs++sp).toArray t (0,0) ((hC g (by rw[hA];rfl)).2 w2 h2)];simp only[List.getElem?_toArray,Nat.zero_add];rw[List.getElem?_append_left hjl];exact hj
 ·rcases how.2 with⟨_,h0,h1,_⟩|⟨g,_,_,h1,h2⟩
  ·rw[h0,h1];exact⟨Nat.le_refl _,Nat.zero_le _⟩
  ·exact⟨h1,h2⟩
theorem KE.den{x:TT U.ty D.e}{cs:List Value}{b:List Nat}(h:KE D Y S C false x cs b)(hC: ∀g∈b,g∉Y∧ ∀w,S w→w.heap[g]? =some (C g)):aC U Y S D.e x cs:=by
 obtain⟨v1,v2,A,l,c,rfl,h2,h3,h4,h5,h6⟩:=h;obtain⟨rfl,n1,s1,g1,g2,g3⟩:=h6 rfl;obtain⟨r1,r2,r3⟩:=wr (Y:=Y) (S:=S) (t:=D.t2) g2 fun g hg=>⟨(hC g (by rw[h5,hg];simp)).1,fun w hw=>by rw[(hC g (by rw[h5,hg];simp)).2 w hw,g3 g hg]⟩;have:=D.put h4 h2 (aC.sl D.e2 (D.nest x) A c n1 g1 r1 r2 r3);rw[D.rr,D.rn]at this;exact this
theorem NL.frz: ∀{xs:List (TT U.ty D.e)} {cs:List Value} {bl:List (List Nat)},NL D Y S C none xs cs bl→(∀g∈bl.flatten,g∉Y∧ ∀w,S w→w.heap[g]? =some (C g))→aR U Y S D.e xs cs
 | [],cs,bl,h,_=>by obtain⟨rfl,rfl⟩:=h;exact .nil _
 |x::xs,cs,bl,h,hC=>by
  obtain⟨c1,c2,b,bl',rfl,rfl,h1,h2⟩:=h;have hd:=h1.den fun g hg=>hC g (by simp[hg]);exact .cons D.e x xs c1 c2 hd hd.length (NL.frz h2 fun g hg=>hC g (by rw[List.flatten_cons];exact List.mem_append_right _ hg))
def J9(D:DD U)(t:TypeId)(q:Option Int)(xs:List (TT U.ty D.e))(Y:List Nat)(S:World→Prop)(R:Rz)(C:Nat→Obj):Prop:=
 ∃cs sp bl,Ow R.A xs.length R.c (aG U D.e) cs sp∧(∀g,ab R.A=some g→C g=Cl (cs++sp) t)∧(R.bs=(ab R.A).toList::bl∨(R.bs= []∧R.A=none∧bl= []))∧R.bs.flatten.Nodup∧NL D Y S C (q.map Int.toNat) xs cs bl
theorem tu{R:Rz}{bl:List (List Nat)}(h:R.bs=(ab R.A).toList::bl∨(R.bs= []∧R.A=none∧bl= [])):R.bs.flatten=(ab R.A).toList++bl.flatten:=by
 rcases h with h|⟨h1,h2,h3⟩
 ·rw[h];rfl
 ·rw[h1,h2,h3];rfl
@[reducible] def dB (D : DD U) (t : TypeId) : XD U where
 e:=D.e
 ok:=J9 D t
 sz:=D.sz
 mv:=fun m ⟨cs,sp,bl,h1,h2,h3,h4,h5⟩=>⟨cs,sp,bl,h1,h2,h3,h4,h5.mv m⟩
 frz:=fun{xs Y S R C} ⟨cs,sp,bl,h1,h2,h3,h4,h5⟩ hC=>by
  have hC: ∀g∈R.bs.flatten,g∉Y∧ ∀w,S w→w.heap[g]? =some (C g):=hC;rw[tu h3]at hC;obtain⟨r1,r2,r3⟩:=wr (Y:=Y) (S:=S) (t:=t) h1 fun g hg=>⟨(hC g (by rw[hg];simp)).1,fun w hw=>by rw[(hC g (by rw[hg];simp)).2 w hw,h2 g hg]⟩;exact⟨cs,h5.frz fun g hg=>hC g (List.mem_append_right _ hg),r1,r2,r3⟩
 adr:=fun⟨cs,sp,bl,h1,h2,h3,h4,h5⟩ hl=>h1.some_ hl
 nil:=⟨[],[],[],Ow.nil _,fun g hg=>(by cases hg),.inr ⟨rfl,rfl,rfl⟩,List.nodup_nil,rfl,rfl⟩
end
end Go.Proofs.YtmpeiadlohbikaaGreatDoor.V
end

section
set_option linter.unusedVariables false
set_option linter.unusedSectionVars false
set_option linter.unusedSimpArgs false
namespace Go.Proofs.YtmpeiadlohbikaaGreatDoor.V
open Go.RowKit
section
variable {U:bD} [ao] {X:List Nat} {w w':World} {ρ ρ':Nat→Rz} {n n':Nat} {H H':Hs U} {O:List Nat}
theorem aX.many(M:aX U X (· =w) ρ n H)(con:Nat→Prop)(sp:Nat×aH U→Prop)(hn:n≤n')(hnd:(H'.map (·.1)).Nodup)(hlt: ∀p∈H',p.1<n')
  (hH: ∀p∈H',sp p∨p.2= .dead∨(p∈H∧ρ' p.1=ρ p.1∧ ¬con p.1)) (hf:Fr O w w') (hO: ∀g∈O,∃q∈H,con q.1∧Lv ρ q g)
  (hb: ∀p∈H',sp p→ ∀g,Lv ρ' p g→w.heap.size≤g∨ ∃q∈H,con q.1∧Lv ρ q g)
  (hi: ∀p∈H',sp p→ ∀q∈H',sp q→ ∀g,Lv ρ' p g→Lv ρ' q g→p.1=q.1)
  (hrow: ∀i<n,∀v l m,bg (aD H' i)=some (v,l,m)→ ∃v0 l0 m0,bg (aD H i)=some (v0,l0,m0)∧v0≤v∧(v0=v→ρ' i=ρ i∧l=l0∧m=m0))
  (hcel: ∀i<n,bg (aD H i)=none→ρ' i=ρ i)
  (he:bQ ρ n H w ρ' n' H' w'→ ∀p∈H',sp p→lQ U (aj ρ' H'++X) (· =w') ρ' n' H' p.1 p.2):
  aX U X (· =w') ρ' n' H'∧bQ ρ n H w ρ' n' H' w':=by
 have lv: ∀p:Nat×aH U,ρ' p.1=ρ p.1→Lv ρ' p=Lv ρ p:=fun p h=>by obtain⟨i,x⟩:=p;funext g;cases x<;>simp only[Lv,h]
 have dd: ∀p:Nat×aH U,p.2= .dead→ ∀g,¬Lv ρ' p g:=fun p h g hg=>by obtain⟨i,x⟩:=p;simp only at h;subst h;exact hg
 have hOo: ∀g∈O,g∈aj ρ H:=fun g hg=>by obtain⟨q,hq,_,h⟩:=hO g hg;exact aA.2 ⟨q,hq,h⟩
 have st:bQ ρ n H w ρ' n' H' w':=by
  refine⟨M.xd,hn,hf.mono hOo,fun g hg=>?_,fun i hi v' l' m' h=>?_,hcel⟩
  ·obtain⟨p,hp,hg⟩:=aA.1 hg;rcases hH p hp with h|h|⟨h1,h2,h3⟩
   ·rcases hb p hp h g hg with h|⟨q,hq,_,h⟩
    ·exact .inr h
    ·exact .inl (aA.2 ⟨q,hq,h⟩)
   ·exact absurd hg (dd p h g)
   ·rw[lv p h2]at hg;exact .inl (aA.2 ⟨p,h1,hg⟩)
  ·obtain⟨v0,l0,m0,a,b,c⟩:=hrow i hi v' l' m' h;exact⟨v0,l0,m0,a,b,fun e=>(c e)⟩
 have kept: ∀p∈H,¬con p.1→ ∀g,Lv ρ p g→g∉O:=fun p hp hc g hg ho=>by
  obtain⟨q,hq,hcq,h⟩:=hO g ho;have:=M.inj p hp q hq g hg h;rw[this]at hc;exact hc hcq
 refine⟨⟨hnd,hlt,fun p hp=>?_,fun p hp q hq g h1 h2=>?_,fun g hg=>?_,fun w2 h2 x hx=>by subst h2;exact Nat.lt_of_lt_of_le (M.lo w rfl x hx) hf.size,M.xs,M.gv.fr st.fr M.xd⟩,st⟩
 ·rcases hH p hp with h|h|⟨h1,h2,h3⟩
  ·exact he st p hp h
  ·obtain⟨i,x⟩:=p;simp only at h;subst h;trivial
  ·exact(M.ent p h1).step st h2 fun g hg=>hf.block g (cl M p h1 g hg) (kept p h1 h3 g hg)
 ·rcases hH p hp with h|h|⟨a1,a2,a3⟩
  ·rcases hH q hq with h'|h'|⟨b1,b2,b3⟩
   ·exact hi p hp h q hq h' g h1 h2
   ·exact absurd h2 (dd q h' g)
   ·rw[lv q b2]at h2;rcases hb p hp h g h1 with c|⟨z,hz,hcz,c⟩
    ·have:=cl M q b1 g h2;omega
    ·have:=M.inj q b1 z hz g h2 c;rw[this]at b3;exact absurd hcz b3
  ·exact absurd h1 (dd p h g)
  ·rw[lv p a2]at h1;rcases hH q hq with h'|h'|⟨b1,b2,b3⟩
   ·rcases hb q hq h' g h2 with c|⟨z,hz,hcz,c⟩
    ·have:=cl M p a1 g h1;omega
    ·have:=M.inj p a1 z hz g h1 c;rw[this]at a3;exact absurd hcz a3
   ·exact absurd h2 (dd q h' g)
   ·rw[lv q b2]at h2;exact M.inj p a1 q b1 g h1 h2
 ·rcases st.nb g hg with h|h
  ·exact M.dj g h
  ·exact fun hx=>by have:=M.lo w rfl g hx;omega
variable [bB] {P:Program} {nt:Nat} {T:cW U} {R e:En U} {ce:aI} {o:Oper}
theorem tv{i v:Nat}{x:aH U}{l m:Nat}(hl:aD H i=some x)(hr:bg (some x)=some (v,l,m))(hi:i<n){A:Option Addr}{c:Nat}(hA:A=(ρ i).A)(hc:c=(ρ i).c){Y:List Nat}{S:World→Prop}:bd U Y S ρ n H (.own i v) [.slice A l c]:=by
 refine⟨hi,A,l,c,rfl,fun v' l' m' h=>?_⟩;rw[hl,hr]at h;injection h with h;injection h with h1 h;injection h with h2 h3;subst h1;subst h2;exact⟨Nat.le_refl _,fun _=>⟨hA,rfl,hc⟩⟩
theorem F5{A:Option Addr}{l c m:Nat}{cs sp:List Value}{t:TypeId}(how:Ow A l c m cs sp)(hw: ∀g,ab A=some g→w.heap[g]? =some (Cl (cs++sp) t)):(∀ad,A=some ad→ ∀j u,cs[j]? =some u→w.cell? (ad.add j)=some u)∧(A=none→l=0):=by
 refine⟨fun ad hA j u hj=>?_,fun hA=>?_⟩
 ·obtain⟨g,b,h1,_,h2⟩:=(wr (Y:= []) (S:=(· =w)) (t:=t) how fun g hg=>⟨by simp,fun w2 h2=>by subst h2;exact hw g hg⟩).1 w rfl j u hj;rw[hA]at h1;injection h1 with h1;subst h1;unfold Addr.add;split
  ·rename_i e;subst e;exact h2
  ·exact h2
 ·rcases how.2 with⟨_,h0,_⟩|⟨g,h0,_⟩
  ·exact h0
  ·rw[hA]at h0;cases h0
def N6(D:DD U)(T:cW U)(t:Nat)(n:Nat)(H:Hs U)(v:Va U)(K:AV U→Nat→Hs U→Prop):Prop:=CJ T t fun el ei=>bif Nat.beq ei.sz (aG U D.e)&&Nat.ble (aG U D.e) 1000 then tK 40 v.l D.of_ fun l1=>gQ 40 v.l D.of_ fun r=>(match r with
 |(1,.own j u)::l2=>(match aD H j with
  |some (.row u' e2 ys t2)=>bif Nat.beq u u'&&Nat.beq t2 D.t2 then(match dZ U.ty List e2 D.e2 ys with
   |some ys=>qF l1 ((1,.nils)::l2) fun l=>cG 20 D.e l fun x=>fh H j .dead fun H=>K (.v ⟨false,[(1,.own n 0)]⟩) (n+1) ((n,.ext 0 (dB D el) [D.repl x ys] none)::H)
   |none=>False)else False
  |_=>False)
 |_=>False)else False
theorem Kb{D:DD U}{t:Nat}{v:Va U}{xo:Operand}{u0:Value}{K:AV U→Nat→Hs U→Prop}(h:N6 D T t n H v K){d:Nat}(ho:o.op= .buildSlice t 1 [(0,xo)].toArray)(hd:o.dst=some d)(hn:Nat.blt d nt=true)(hx:ce.ev xo=some u0)(hv:cM (Vw U X w ρ n H) v u0)(hT:bf U P T)(M:aX U X (· =w) ρ n H):jA P nt U X w ρ n H ce o K:=by
 obtain⟨el,ei,h,hu,hes,hei⟩:=kg h hT;cases hb:(Nat.beq ei.sz (aG U D.e)&&Nat.ble (aG U D.e) 1000)with
 |false=>rw[hb]at h;exact h.elim
 |true=>
  rw[hb,cond_true]at h;rw[Bool.and_eq_true]at hb;have hsz:=Nat.eq_of_beq_eq_true hb.1;have hbig:=Nat.le_of_ble_eq_true hb.2;obtain⟨l1,h,h1⟩:=gu h;obtain⟨r,h,h2⟩:=fj h;split at h
  ·rename_i j u l2;split at h
   ·rename_i u' e2 ys t2 hl;cases hbb:(Nat.beq u u'&&Nat.beq t2 D.t2)with
    |false=>rw[hbb]at h;exact h.elim
    |true=>
     rw[hbb,cond_true]at h;rw[Bool.and_eq_true]at hbb;have e1:=Nat.eq_of_beq_eq_true hbb.1;have e2':=Nat.eq_of_beq_eq_true hbb.2;subst e1;subst e2';cases hc:dZ U.ty List e2 D.e2 ys with
     |none=>rw[hc]at h;exact h.elim
     |some ys'=>
      rw[hc]at h;obtain⟨g1,g2⟩:=dv _ _ _ _ _ hc;subst g1;have g2:ys=ys':=eq_of_heq g2;subst g2;simp only at h;have h:=mG h;obtain⟨x,h,hx0⟩:=bu h;have hK:=bU h;have hs:=hv.cells;generalize hvs:u0.cells.toList=vs at hs;obtain⟨a1,a2⟩:=h1 _ _ _ _ _ _ hs;obtain⟨⟨c1,c2,ec,hc1,hown,hl2⟩,_⟩:=h2 _ _ _ _ _ _ hs;obtain⟨hj,A,l,c,rfl,hnow⟩:=hown;obtain⟨rfl,rfl,rfl⟩:=(hnow _ _ _ (by rw[hl];rfl)).2 rfl;have hden:=hx0 _ _ _ _ _ _ (bJ.app a1 (l':=(1,.nils)::l2) ⟨[.slice none 0 0],c2,rfl,rfl,rfl,hl2⟩);rw[←List.append_assoc]at hden;have hvl:(vs.take D.of_).length=D.of_:=by rw[List.length_take];omega
      have hnx:=D.nil hden hvl;have evs:vs=vs.take D.of_++ [Value.slice (ρ j).A ys.length (ρ j).c]++c2:=by
       rw[List.append_assoc,←ec,List.take_append_drop]
      have hlen:vs.length=aG U D.e:=by
       have:=hden.length;rw[evs];simp only[List.length_append,List.length_cons,List.length_nil]at this⊢;exact this
      obtain⟨hm,ns,sp,hdn,how,hw⟩:=M.ent _ (af hl);simp only at hdn how hw;obtain⟨zs,hz,_,_⟩:=hei.zero;refine vE (vs:= [u0]) (m:=aG U D.e) ho hd hn (by simp only[List.map_cons,List.map_nil,aI.evs,hx]) rfl rfl (by rw[←hsz];exact hes) hz (by rw[Nat.one_mul];exact hbig) (fun v hv=>by rw[List.mem_singleton.1 hv,hvs];exact hlen) fun g w' hblk hf hg=>?_;rw[List.flatMap_cons,List.flatMap_nil,List.append_nil,hvs]at hblk;have hjb: ∀g',ab (ρ j).A=some g'→g'<w.heap.size:=fun g' h'=>cl M _ (af hl) g' h';have hjn:j<n:=hj;have lkn: ∀z,z<n→aD ((n,(.ext 0 (dB D el) [D.repl x ys] none:aH U))::cO H j .dead) z=if j=z then some .dead else aD H z:=fun z hz=>by
       rw[dP (by omega),bV ⟨_,hl⟩]
      obtain⟨M',st⟩:=aX.many (ρ':=bR ρ n ⟨some ⟨g,0,none⟩,1,[[g],(ab (ρ j).A).toList]⟩) (n':=n+1) (H':=(n,(.ext 0 (dB D el) [D.repl x ys] none:aH U))::cO H j .dead) (O:= []) M (· =j) (·.1=n) (Nat.le_succ _) (by
        rw[List.map_cons,List.nodup_cons,eL];refine⟨fun h=>?_,M.nd⟩;obtain⟨p,hp,h⟩:=List.mem_map.1 h;have:=M.lt p hp;omega) (fun p hp=>by
        rcases List.mem_cons.1 hp with rfl|hp
        ·exact Nat.lt_succ_self _
        ·rcases bw M.nd ⟨_,hl⟩ p hp with rfl|⟨hp,_⟩
         ·exact Nat.lt_succ_of_lt hjn
         ·exact Nat.lt_succ_of_lt (M.lt p hp)) (fun p hp=>by
        rcases List.mem_cons.1 hp with rfl|hp
        ·exact .inl rfl
        ·rcases bw M.nd ⟨_,hl⟩ p hp with rfl|⟨hp,hne⟩
         ·exact .inr (.inl rfl)
         ·exact .inr (.inr ⟨hp,ck (by have:=M.lt p hp;omega) _ _,fun h=>hne h.symm⟩)) hf (fun g hg=>(by cases hg)) (fun p hp hs g' hg'=>by
        rcases List.mem_cons.1 hp with rfl|hp
        ·have hg':g'∈(bR ρ n ⟨some ⟨g,0,none⟩,1,[[g],(ab (ρ j).A).toList]⟩ n).own none:=hg';rw[ax]at hg';simp only[Rz.own,List.flatten_cons,List.flatten_nil,List.mem_append,List.mem_singleton,List.not_mem_nil,or_false,Option.mem_toList,Option.mem_def]at hg';rcases hg' with rfl|hg'
         ·exact .inl hg
         ·exact .inr ⟨_,af hl,rfl,hg'⟩
        ·rcases bw M.nd ⟨_,hl⟩ p hp with rfl|⟨hp,hne⟩
         ·exact hg'.elim
         ·have:=M.lt p hp;have hs:p.1=n:=hs;omega) (fun p _ hs q _ hs' _ _ _=>(show p.1=n from hs).trans (show q.1=n from hs').symm) (fun z hz v l m hr=>by
        rw[lkn z hz]at hr;split at hr
        ·cases hr
        ·exact⟨v,l,m,hr,Nat.le_refl _,fun _=>⟨ck (by omega) _ _,rfl,rfl⟩⟩) (fun z hz _=>ck (by omega) _ _) (fun st p hp hs=>by
        rcases List.mem_cons.1 hp with rfl|hp;case inr=>
         rcases bw M.nd ⟨_,hl⟩ p hp with rfl|⟨hp,hne⟩
         ·trivial
         ·have:=M.lt p hp;have hs:p.1=n:=hs;omega
        have mv:=(st.mv (X:=X)).fr;refine⟨fun g'=>if g'=g then Cl vs el else Cl (ns++sp) D.t2,?_,fun g' hg' w2 h2=>?_,trivial⟩
        ·simp only[ax];refine⟨vs,[],[(ab (ρ j).A).toList],⟨by rw[hlen];simp,.inr ⟨g,rfl,by rw[List.append_nil,hlen];simp,Nat.le_refl _,(show 1≤maxLen by unfold maxLen;omega)⟩⟩,fun g' hg'=>?_,.inl rfl,?_,vs,[],_,[],(List.append_nil _).symm,rfl,⟨vs.take D.of_,c2,_,_,_,evs,hvl,hlen,?_,rfl,fun _=>⟨by rw[D.nr],ns,sp,?_,how,fun g' hg'=>?_⟩⟩,rfl,rfl⟩
         ·have:g=g':=by injection hg'
          subst this;rw[List.append_nil];exact if_pos rfl
         ·show([g]++((ab (ρ j).A).toList++ [])).Nodup
          cases hbk:ab (ρ j).A with
          |none=>exact List.nodup_cons.2 ⟨fun h=>(by cases h),List.nodup_nil⟩
          |some b0=>
           have h3:=hjb b0 hbk;refine List.nodup_cons.2 ⟨fun h=>?_,List.nodup_cons.2 ⟨fun h=>(by cases h),List.nodup_nil⟩⟩;rcases List.mem_cons.1 h with h|h
           ·omega
           ·cases h
         ·rw[D.rr,←hnx,D.rn];exact @aC.mv ⟨[],default⟩ _ _ _ _ _ (CH mv) _ _ _ hden
         ·rw[D.nr];exact @aR.mv ⟨[],default⟩ _ _ _ _ _ (CH mv) _ _ _ hdn
         ·have h3:=hjb g' hg';exact if_neg (show ¬g'=g by omega)
        ·subst h2;simp only[ax,Rz.own,List.flatten_cons,List.flatten_nil,List.mem_append,List.mem_singleton,List.not_mem_nil,or_false,Option.mem_toList,Option.mem_def]at hg';rcases hg' with rfl|hg'
         ·exact hblk.trans (congrArg some (if_pos rfl).symm)
         ·have h3:=hjb g' hg';rw[hf.block g' h3 (by simp)];exact(hw g' hg' w rfl).trans (congrArg some (if_neg (show ¬g'=g by omega)).symm))
      exact⟨_,_,_,_,_,hK,aI.dstS hd _,gz (tv (nH _ _ _) rfl (Nat.lt_succ_self _) (by rw[ax]) (by rw[ax])),M',st⟩
   ·exact h.elim
  ·exact h.elim
def N7(D:DD U)(T:cW U)(t:Nat)(n:Nat)(H:Hs U)(x y:Cx U)(K:AV U→Nat→Hs U→Prop):Prop:=CJ T t fun el ei=>bif Nat.beq ei.sz (aG U D.e)&&Nat.blt 0 ei.by_ then(match x,y with
 | .own i v,.own k u=>(match aD H i,aD H k with
  |some (.ext v' d xs none),some (.ext u' d2 ys none)=>bif (Nat.beq v v'&&Nat.beq u u')&&!Nat.beq i k then ∃xs' ys',(⟨d,xs⟩:(d:XD U)×List (TT U.ty d.e))=⟨dB D el,xs'⟩∧(⟨d2,ys⟩:(d:XD U)×List (TT U.ty d.e))=⟨dB D el,ys'⟩∧
    VS ((xs'.length+ys'.length)*ei.by_≤140737488355328) (fh H k .dead fun H=>fh H i (.ext (v+1) (dB D el) (xs'++ys') none) fun H=>K (.v ⟨false,[(1,.own i (v+1))]⟩) n H)else False
  |_,_=>False)
 |_,_=>False)else False
theorem Ke{D:DD U}{t:Nat}{x y:Cx U}{xo yo:Operand}{u0 u1:Value}{K:AV U→Nat→Hs U→Prop}(h:N7 D T t n H x y K){d:Nat}(ho:o.op= .call {callee:= .builtin .append,args:= #[xo,yo],argTypes:= #[t,t]})(hd:o.dst=some d)(hn:Nat.blt d nt=true)(hx:ce.ev xo=some u0)(hy:ce.ev yo=some u1)(hu0:Vw U X w ρ n H x [u0])(hu1:Vw U X w ρ n H y [u1])(hT:bf U P T)(M:aX U X (· =w) ρ n H):jA P nt U X w ρ n H ce o K:=by
 obtain⟨el,ei,h,hu,hes,hei⟩:=kg h hT;cases hb:(Nat.beq ei.sz (aG U D.e)&&Nat.blt 0 ei.by_)with
 |false=>rw[hb]at h;exact h.elim
 |true=>
  rw[hb,cond_true]at h;rw[Bool.and_eq_true]at hb;have hsz:=Nat.eq_of_beq_eq_true hb.1;have hby:0<ei.by_:=by simpa[Nat.blt_eq]using hb.2
  split at h
  ·rename_i i v k u _;split at h
   ·rename_i v' dx xs u' dy ys hli hlk;cases hbb:((Nat.beq v v'&&Nat.beq u u')&&!Nat.beq i k)with
    |false=>rw[hbb]at h;exact h.elim
    |true=>
     rw[hbb,cond_true]at h;simp only[Bool.and_eq_true,Bool.not_eq_true']at hbb;obtain rfl:=Nat.eq_of_beq_eq_true hbb.1.1;obtain rfl:=Nat.eq_of_beq_eq_true hbb.1.2;have hik: ¬i=k:=fun e=>by have h2:=hbb.2;rw[e,Nat.beq_refl]at h2;cases h2
     obtain⟨xs',ys',ex,ey,hP,h⟩:=h;injection ex with e1 e2;subst e1;have e2:=eq_of_heq e2;subst e2;injection ey with e1 e2;subst e1;have e2:=eq_of_heq e2;subst e2;have hK:=bU (bU h);obtain⟨zs,hzc,hzl,_⟩:=hei.zero;obtain⟨C1,⟨cs,sp,bl,how1,hc1,hbs1,hnd1,hnl1⟩,hw1,_⟩:=M.ent _ (af hli);obtain⟨C2,⟨ds,sq,bm,how2,hc2,hbs2,hnd2,hnl2⟩,hw2,_⟩:=M.ent _ (af hlk);simp only at how1 hc1 hbs1 hnd1 hw1 how2 hc2 hbs2 hnd2 hw2;have hw1: ∀g∈(ρ i).bs.flatten,w.heap[g]? =some (C1 g):=fun g hg=>hw1 g hg w rfl;have hw2: ∀g∈(ρ k).bs.flatten,w.heap[g]? =some (C2 g):=fun g hg=>hw2 g hg w rfl;have hil: ∀g,g∈(ρ i).bs.flatten→Lv ρ (i,(.ext v (dB D el) xs none:aH U)) g:=fun g hg=>hg;have hkl: ∀g,g∈(ρ k).bs.flatten→Lv ρ (k,(.ext u (dB D el) ys none:aH U)) g:=fun g hg=>hg;rw[tu hbs1]at hw1 hil hnd1;rw[tu hbs2]at hw2 hkl hnd2;have hik': ∀g,g∈(ab (ρ i).A).toList++bl.flatten→g∈(ab (ρ k).A).toList++bm.flatten→False:=fun g a b=>hik (M.inj _ (af hli) _ (af hlk) g (hil g a) (hkl g b));have hsi: ∀g,g∈(ab (ρ i).A).toList++bl.flatten→g<w.heap.size:=fun g hg=>cl M _ (af hli) g (hil g hg);have hsk: ∀g,g∈(ab (ρ k).A).toList++bm.flatten→g<w.heap.size:=fun g hg=>cl M _ (af hlk) g (hkl g hg);have hA1: ∀g,ab (ρ i).A=some g→w.heap[g]? =some (Cl (cs++sp) el):=fun g hg=>by rw[hw1 g (List.mem_append_left _ (by rw[hg];simp)),hc1 g hg]
     have hA2: ∀g,ab (ρ k).A=some g→w.heap[g]? =some (Cl (ds++sq) el):=fun g hg=>by rw[hw2 g (List.mem_append_left _ (by rw[hg];simp)),hc2 g hg]
     obtain⟨hi,A,l,c,e1,hnow⟩:=hu0;injection e1 with e1;subst e1;obtain⟨rfl,rfl,rfl⟩:=(hnow _ _ _ (by rw[hli];rfl)).2 rfl;obtain⟨hk,A,l,c,e1,hnow⟩:=hu1;injection e1 with e1;subst e1;obtain⟨rfl,rfl,rfl⟩:=(hnow _ _ _ (by rw[hlk];rfl)).2 rfl;have hbig:xs.length+ys.length≤140737488355328:=Nat.le_trans (Nat.le_mul_of_pos_right _ hby) hP;obtain⟨hsrc,hB⟩:=F5 how2 hA2;have hHp:Hp w [(ab (ρ i).A,Cl (cs++sp) el)]:=by
      cases hA:ab (ρ i).A with
      |none=>exact CK _
      |some g=>exact yh (hA1 g hA)
     refine kN (i:=0) (xs:=cs) (sp:=sp) (news:=ds) ho rfl hd hn hx hy hes hzc hzl hei.by_ (by rw[hsz];exact D.sz) (by rw[hsz];exact how1) hHp rfl (by rw[hsz];exact hnl2.len.1) hsrc hB hnl2.one (by unfold maxLen;omega) hP fun A' c' sp' w' how hp hf hg=>?_;rw[hsz]at how;have hA': ∀g,ab A'=some g→w'.heap[g]? =some (Cl ((cs++ds)++sp') el):=fun g hg=>hp.at (i:=0) (by rw[hg];rfl);have stay: ∀g,g<w.heap.size→ab (ρ i).A≠some g→w'.heap[g]? =w.heap[g]? :=fun g h1 h2=>hf.block g h1 fun h=>h2 (by simpa using h);have hbl: ∀g∈bl.flatten,ab (ρ i).A≠some g:=fun g hg e=>by
      rw[e]at hnd1;exact(List.nodup_cons.1 hnd1).1 hg
     have hbm: ∀g∈bm.flatten,ab (ρ i).A≠some g:=fun g hg e=>hik' g (List.mem_append_left _ (by rw[e];simp)) (List.mem_append_right _ hg);have c1: ∀g∈bl.flatten,w'.heap[g]? =some (C1 g):=fun g hg=>by rw[stay g (hsi g (List.mem_append_right _ hg)) (hbl g hg),hw1 g (List.mem_append_right _ hg)]
     have c2: ∀g∈bm.flatten,w'.heap[g]? =some (C2 g):=fun g hg=>by rw[stay g (hsk g (List.mem_append_right _ hg)) (hbm g hg),hw2 g (List.mem_append_right _ hg)]
     have lkz: ∀z,aD (cO (cO H k .dead) i (.ext (v+1) (dB D el) (xs++ys) none)) z=if i=z then some (.ext (v+1) (dB D el) (xs++ys) none)else if k=z then some .dead else aD H z:=fun z=>by
      rw[bV ⟨_,by rw[bV ⟨_,hlk⟩,if_neg (fun e=>hik e.symm)];exact hli⟩,bV ⟨_,hlk⟩]
     have nd':((cO H k (.dead:aH U)).map (·.1)).Nodup:=by rw[eL];exact M.nd
     have mem': ∀p∈cO (cO H k .dead) i (.ext (v+1) (dB D el) (xs++ys) none),p=(i,.ext (v+1) (dB D el) (xs++ys) none)∨p=(k,.dead)∨(p∈H∧ ¬i=p.1∧ ¬k=p.1):=fun p hp=>by
      rcases bw nd' ⟨_,by rw[bV ⟨_,hlk⟩,if_neg (fun e=>hik e.symm)];exact hli⟩ p hp with h|⟨h,h1⟩
      ·exact .inl h
      ·rcases bw M.nd ⟨_,hlk⟩ p h with h|⟨h,h2⟩
       ·exact .inr (.inl h)
       ·exact .inr (.inr ⟨h,h1,h2⟩)
     obtain⟨M',st⟩:=aX.many (ρ':=bR ρ i ⟨A',c',(ab A').toList::(bl++bm)⟩) (n':=n) (H':=cO (cO H k .dead) i (.ext (v+1) (dB D el) (xs++ys) none)) M (fun z=>z=i∨z=k) (·.1=i) (Nat.le_refl _) (by rw[eL];exact nd') (fun p hp=>by
       rcases mem' p hp with rfl|rfl|⟨h,_⟩
       ·exact hi
       ·exact hk
       ·exact M.lt p h) (fun p hp=>by
       rcases mem' p hp with rfl|rfl|⟨h,h1,h2⟩
       ·exact .inl rfl
       ·exact .inr (.inl rfl)
       ·exact .inr (.inr ⟨h,ck h1 _ _,fun h=>h.elim (fun e=>h1 e.symm) (fun e=>h2 e.symm)⟩)) hf (fun g hg=>⟨_,af hli,.inl rfl,hil g (List.mem_append_left _ hg)⟩) (fun p hp hs g hg'=>by
       rcases mem' p hp with rfl|rfl|⟨h,h1,h2⟩
       ·have hg':g∈(bR ρ i ⟨A',c',(ab A').toList::(bl++bm)⟩ i).own none:=hg';rw[ax]at hg';have hg':g∈(ab A').toList++(bl++bm).flatten:=hg';rw[List.flatten_append]at hg';rcases List.mem_append.1 hg' with h|h
        ·rcases hg g (by simpa using h)with h|h
         ·exact .inr ⟨_,af hli,.inl rfl,hil g (List.mem_append_left _ (by rw[h];simp))⟩
         ·exact .inl h
        ·rcases List.mem_append.1 h with h|h
         ·exact .inr ⟨_,af hli,.inl rfl,hil g (List.mem_append_right _ h)⟩
         ·exact .inr ⟨_,af hlk,.inr rfl,hkl g (List.mem_append_right _ h)⟩
       ·exact hg'.elim
       ·exact absurd hs.symm h1) (fun p _ hs q _ hs' _ _ _=>(show p.1=i from hs).trans (show q.1=i from hs').symm) (fun z hz v1 l1 m1 hr=>by
       rw[lkz z]at hr;split at hr
       ·rename_i e;subst e;injection hr with hr;injection hr with h1 hr;exact⟨v,_,_,by rw[hli];rfl,by omega,fun h=>by omega⟩
       ·rename_i e;split at hr
        ·cases hr
        ·exact⟨v1,l1,m1,hr,Nat.le_refl _,fun _=>⟨ck e _ _,rfl,rfl⟩⟩) (fun z hz hr=>ck (fun e=>by rw[←e,hli]at hr;cases hr) _ _) (fun st p hp hs=>by
       rcases mem' p hp with rfl|rfl|⟨h,h1,h2⟩;case inr.inl=>trivial
       case inr.inr=>exact absurd (show p.1=i from hs).symm h1
       have mv:=(st.mv (X:=X)).fr;have gd: ∀(g:Nat) (b:Obj),w'.heap[g]? =some b→(fun g=>(w'.heap[g]?).getD (Cl [] 0)) g=b:=fun g b h=>by show(w'.heap[g]?).getD (Cl [] 0)=b;rw[h];rfl
       refine⟨fun g=>(w'.heap[g]?).getD (Cl [] 0),?_,fun g hg' w2 hw=>?_,trivial⟩
       ·simp only[ax];refine⟨cs++ds,sp',bl++bm,by rw[List.length_append];exact how,fun g hg'=>gd _ _ (hA' g hg'),.inl rfl,?_,?_⟩
        ·show((ab A').toList++(bl++bm).flatten).Nodup
         rw[List.flatten_append];have n1:=(List.nodup_append.1 hnd1).2.1;have n2:=(List.nodup_append.1 hnd2).2.1;have n3:(bl.flatten++bm.flatten).Nodup:=List.nodup_append.2 ⟨n1,n2,fun a ha b hb e=>by subst e;exact hik' a (List.mem_append_right _ ha) (List.mem_append_right _ hb)⟩;cases hbA:ab A' with
         |none=>exact n3
         |some b0=>
          refine List.nodup_cons.2 ⟨fun h=>?_,n3⟩;rcases hg b0 hbA with h3|h3
          ·rcases List.mem_append.1 (show b0∈bl.flatten++bm.flatten from h)with h|h
           ·exact hbl b0 h h3
           ·exact hbm b0 h h3
          ·rcases List.mem_append.1 (show b0∈bl.flatten++bm.flatten from h)with h|h
           ·have:=hsi b0 (List.mem_append_right _ h);omega
           ·have:=hsk b0 (List.mem_append_right _ h);omega
        ·exact NL.mv mv (NL.app (hnl1.cong fun z b hb _ g hgb=>(gd _ _ (c1 g (List.mem_flatten.2 ⟨b,List.mem_of_getElem? hb,hgb⟩))).symm) (hnl2.cong fun z b hb _ g hgb=>(gd _ _ (c2 g (List.mem_flatten.2 ⟨b,List.mem_of_getElem? hb,hgb⟩))).symm))
       ·subst hw;simp only[ax]at hg';have hg':g∈(ab A').toList++(bl++bm).flatten:=hg';rw[List.flatten_append]at hg';rcases List.mem_append.1 hg' with h|h
        ·have h9:=hA' g (by simpa using h);exact h9.trans (congrArg some (gd _ _ h9).symm)
        ·rcases List.mem_append.1 h with h|h
         ·exact(c1 g h).trans (congrArg some (gd _ _ (c1 g h)).symm)
         ·exact(c2 g h).trans (congrArg some (gd _ _ (c2 g h)).symm))
     refine⟨_,_,_,_,_,hK,aI.dstS hd _,gz (tv (by rw[lkz,if_pos rfl]) (by rw[←List.length_append];rfl) hi (by rw[ax]) (by rw[ax])),M',st⟩
   ·exact h.elim
  ·exact h.elim
end
end Go.Proofs.YtmpeiadlohbikaaGreatDoor.V
end

section
set_option linter.unusedVariables false
set_option linter.unusedSectionVars false
set_option linter.unusedSimpArgs false
namespace Go.Proofs.YtmpeiadlohbikaaGreatDoor.V
open Go.RowKit
theorem xZ{g:Nat}{b:List Nat}: ∀{l:List (List Nat)} {k:Nat},l.flatten.Nodup→l[k]? =some b→g∈b→g∈(l.eraseIdx k).flatten→False
 | [],k,_,h,_,_=>by cases h
 |a::l,0,hn,h,hb,hg=>by
  injection h with h;subst h;exact(List.nodup_append.1 hn).2.2 g hb g hg rfl
 |a::l,k+1,hn,h,hb,hg=>by
  have h:l[k]? =some b:=h;rcases List.mem_append.1 (show g∈a++(l.eraseIdx k).flatten from hg)with hg|hg
  ·exact(List.nodup_append.1 hn).2.2 g hg g (List.mem_flatten.2 ⟨b,List.mem_of_getElem? h,hb⟩) rfl
  ·exact xZ (List.nodup_append.1 hn).2.1 h hb hg
theorem qz{g:Nat}: ∀{l:List (List Nat)} {k:Nat},g∈(l.eraseIdx k).flatten→g∈l.flatten
 | [],k,h=>h
 |a::l,0,h=>List.mem_append_right _ h
 |a::l,k+1,h=>by
  rcases List.mem_append.1 (show g∈a++(l.eraseIdx k).flatten from h)with h|h
  ·exact List.mem_append_left _ h
  ·exact List.mem_append_right _ (qz h)
theorem x3{g:Nat}{b:List Nat}: ∀{l:List (List Nat)} {k:Nat},g∈l.flatten→l[k]? =some b→g∈b∨g∈(l.eraseIdx k).flatten
 | [],k,h,_=>by cases h
 |a::l,0,h,hk=>by
  injection hk with hk;subst hk;exact List.mem_append.1 h
 |a::l,k+1,h,hk=>by
  rcases List.mem_append.1 (show g∈a++l.flatten from h)with h|h
  ·exact .inr (List.mem_append_left _ h)
  ·rcases x3 h (show l[k]? =some b from hk)with h|h
   ·exact .inl h
   ·exact .inr (List.mem_append_right _ h)
section
variable {U:bD} {D:DD U} {Y:List Nat} {S:World→Prop} {C:Nat→Obj}
theorem Ht{v1 v2 c2:List Value}{h:Value}:((v1++ [h]++v2)++c2)[v1.length]? =some h:=by
 rw[List.append_assoc,List.append_assoc,List.getElem?_append_right (Nat.le_refl _),Nat.sub_self];rfl
theorem NL.at_: ∀{xs:List (TT U.ty D.e)} {cs:List Value} {bl:List (List Nat)} {i:Nat} {x:TT U.ty D.e},NL D Y S C none xs cs bl→xs[i]? =some x→
  NL D Y S C (some i) xs cs bl∧ ∃A c n1 s1,cs[i*aG U D.e+D.of_]? =some (.slice A (D.nest x).length c)∧bl[i]? =some (ab A).toList∧aR U Y S D.e2 (D.nest x) n1∧Ow A (D.nest x).length c (aG U D.e2) n1 s1∧ ∀g,ab A=some g→C g=Cl (n1++s1) D.t2
 | [],cs,bl,i,x,h,hi=>by simp at hi
 |y::xs,cs,bl,0,x,h,hi=>by
  injection hi with hi;subst hi;obtain⟨c1,c2,b,bl',rfl,rfl,⟨v1,v2,A,l,c,h1,h2,h3,h4,h5,h6⟩,h7⟩:=h;obtain⟨rfl,n1,s1,g1,g2,g3⟩:=h6 rfl;refine⟨⟨c1,c2,b,bl',rfl,rfl,⟨v1,v2,A,_,c,h1,h2,h3,h4,h5,fun h=>by cases h⟩,h7⟩,A,c,n1,s1,?_,by rw[h5];rfl,g1,g2,g3⟩;rw[Nat.zero_mul,Nat.zero_add,h1,←h2];exact Ht
 |y::xs,cs,bl,i+1,x,h,hi=>by
  obtain⟨c1,c2,b,bl',rfl,rfl,h1,h2⟩:=h;obtain⟨k1,A,c,n1,s1,k2,k3⟩:=NL.at_ h2 (show xs[i]? =some x from hi);have hc1:c1.length=aG U D.e:=by obtain⟨v1,v2,A,l,c,_,_,h3,_⟩:=h1;exact h3
  refine⟨⟨c1,c2,b,bl',rfl,rfl,h1,k1⟩,A,c,n1,s1,?_,k3⟩;rw[Nat.add_mul,Nat.one_mul,List.getElem?_append_right (by omega),hc1,show i*aG U D.e+aG U D.e+D.of_ - aG U D.e=i*aG U D.e+D.of_ by omega];exact k2
theorem NL.close: ∀{xs:List (TT U.ty D.e)} {cs:List Value} {bl:List (List Nat)} {i:Nat} {x:TT U.ty D.e} {A:Option Addr} {c:Nat} {ys:List (TT U.ty D.e2)} {n1 s1:List Value},NL D Y S C (some i) xs cs bl→xs[i]? =some x→
  cs[i*aG U D.e+D.of_]? =some (.slice A ys.length c)→aR U Y S D.e2 ys n1→Ow A ys.length c (aG U D.e2) n1 s1→(∀g,ab A=some g→C g=Cl (n1++s1) D.t2)→NL D Y S C none (xs.set i (D.repl x ys)) cs bl∧bl[i]? =some (ab A).toList
 | [],cs,bl,i,x,A,c,ys,n1,s1,h,hi,_,_,_,_=>by simp at hi
 |y::xs,cs,bl,0,x,A,c,ys,n1,s1,h,hi,hc,hd,how,hC=>by
  injection hi with hi;subst hi;obtain⟨c1,c2,b,bl',rfl,rfl,⟨v1,v2,A',l,c',h1,h2,h3,h4,h5,h6⟩,h7⟩:=h;rw[Nat.zero_mul,Nat.zero_add,h1,←h2,Ht]at hc;injection hc with hc;injection hc with a1 a2 a3;subst a1;subst a2;subst a3;refine⟨⟨c1,c2,b,bl',rfl,rfl,⟨v1,v2,A',_,c',h1,h2,h3,by rw[D.rr];exact h4,h5,fun _=>⟨by rw[D.nr],n1,s1,by rw[D.nr];exact hd,how,hC⟩⟩,h7⟩,by rw[h5];rfl⟩
 |y::xs,cs,bl,i+1,x,A,c,ys,n1,s1,h,hi,hc,hd,how,hC=>by
  obtain⟨c1,c2,b,bl',rfl,rfl,h1,h2⟩:=h;have hc1:c1.length=aG U D.e:=by obtain⟨v1,v2,A,l,c,_,_,h3,_⟩:=h1;exact h3
  rw[Nat.add_mul,Nat.one_mul,List.getElem?_append_right (by omega),hc1,show i*aG U D.e+aG U D.e+D.of_ - aG U D.e=i*aG U D.e+D.of_ by omega]at hc;obtain⟨k1,k2⟩:=NL.close h2 (show xs[i]? =some x from hi) hc hd how hC;exact⟨⟨c1,c2,b,bl',rfl,rfl,h1,k1⟩,k2⟩
end
section
variable {U:bD} [ao] {X:List Nat} {w w':World} {ρ ρ':Nat→Rz} {n n':Nat} {H H':Hs U}
theorem x4{R:Rz}{bl:List (List Nat)}(h:R.bs=(ab R.A).toList::bl∨(R.bs= []∧R.A=none∧bl= []))(hl:0<bl.length):R.bs=(ab R.A).toList::bl:=by
 rcases h with h|⟨_,_,h⟩
 ·exact h
 ·rw[h]at hl;cases hl
def N8(D:DD U)(n:Nat)(H:Hs U)(i v:Nat)(q:Int)(K:Nat→Hs U→Prop):Prop:=match aD H i with
 |some (.ext v' d xs none)=>bif Nat.beq v v' then ∃t xs',(⟨d,xs⟩:(d:XD U)×List (TT U.ty d.e))=⟨dB D t,xs'⟩∧VS (0≤q∧q<xs'.length) (wz U D.e xs' q fun y=>fh H i (.ext v (dB D t) xs' (some (q,D.of_,n,0))) fun H=>K (n+1) ((n,.row 0 D.e2 (D.nest y) D.t2)::H))else False
 |_=>False
def Kg(D:DD U)(n:Nat)(H:Hs U)(x z:Cx U)(K:Nat→Hs U→Prop):Prop:=match x,z with
 | .own i v,.d (.int _) q=>N8 D n H i v q K
 |_,_=>False
theorem Kh{D:DD U}{x z:Cx U}{K:Nat→Hs U→Prop}(h:Kg D n H x z K)(M:aX U X (· =w) ρ n H): ∃n1 H1 ρ1,K n1 H1∧aX U X (· =w) ρ1 n1 H1∧bQ ρ n H w ρ1 n1 H1 w:=by
 unfold Kg at h;split at h
 ·rename_i i v ik q;unfold N8 at h;split at h
  ·rename_i v' d xs hl;cases hb:Nat.beq v v' with
   |false=>rw[hb]at h;exact h.elim
   |true=>
    rw[hb,cond_true]at h;obtain rfl:=Nat.eq_of_beq_eq_true hb;obtain⟨t,xs',ex,⟨q0,q1⟩,h⟩:=h;injection ex with e1 e2;subst e1;have e2:=eq_of_heq e2;subst e2;obtain⟨y,h,hy⟩:=gL h;have hK:=bU h;have hq:q.toNat<xs.length:=by omega
    have hxq:xs[q.toNat]? =some y:=by
     rw[List.getElem?_eq_getElem hq];exact congrArg some (hy _ (List.getElem?_eq_getElem hq)).symm
    obtain⟨C,⟨cs,sp,bl,how,hc,hbs,hnd,hnl⟩,hw,_⟩:=M.ent _ (af hl);simp only at how hc hbs hnd hw;have hw: ∀g∈(ρ i).bs.flatten,w.heap[g]? =some (C g):=fun g hg=>hw g hg w rfl;have hil: ∀g,g∈(ρ i).bs.flatten→Lv ρ (i,(.ext v (dB D t) xs none:aH U)) g:=fun g hg=>hg;obtain⟨hnl',A,c,n1,s1,hcell,hbq,hd1,how1,hC1⟩:=NL.at_ (show NL D _ _ C none xs cs bl from hnl) hxq;obtain⟨hcl,hbll⟩:=hnl.len;have hbs:=x4 hbs (by rw[hbll];omega);have hbq':(ρ i).bs[q.toNat+1]? =some (ab A).toList:=by rw[hbs];exact hbq
    obtain⟨g0,hA0⟩:=how.some_ (show 0<xs.length by omega);have hin:i<n:=M.lt _ (af hl);have hAg: ∀g,ab A=some g→g∈(ρ i).bs.flatten:=fun g hg=>List.mem_flatten.2 ⟨_,List.mem_of_getElem? hbq',by rw[hg];simp⟩;obtain⟨M',st⟩:=aX.many (ρ':=bR ρ n (rz A c)) (n':=n+1) (H':=(n,(.row 0 D.e2 (D.nest y) D.t2:aH U))::cO H i (.ext v (dB D t) xs (some (q,D.of_,n,0)))) (O:= []) (w':=w) M (· =i) (fun p=>p.1=i∨p.1=n) (Nat.le_succ _) (by
      rw[List.map_cons,List.nodup_cons,eL];refine⟨fun h=>?_,M.nd⟩;obtain⟨p,hp,h⟩:=List.mem_map.1 h;have:=M.lt p hp;omega) (fun p hp=>by
      rcases List.mem_cons.1 hp with rfl|hp
      ·exact Nat.lt_succ_self _
      ·rcases bw M.nd ⟨_,hl⟩ p hp with rfl|⟨hp,_⟩
       ·exact Nat.lt_succ_of_lt hin
       ·exact Nat.lt_succ_of_lt (M.lt p hp)) (fun p hp=>by
      rcases List.mem_cons.1 hp with rfl|hp
      ·exact .inl (.inr rfl)
      ·rcases bw M.nd ⟨_,hl⟩ p hp with rfl|⟨hp,hne⟩
       ·exact .inl (.inl rfl)
       ·exact .inr (.inr ⟨hp,ck (by have:=M.lt p hp;omega) _ _,fun h=>hne h.symm⟩)) (Fr.refl _ _) (fun g hg=>(by cases hg)) (fun p hp hs g hg=>by
      rcases List.mem_cons.1 hp with rfl|hp
      ·have hg:ab (bR ρ n (rz A c) n).A=some g:=hg;rw[ax]at hg;exact .inr ⟨_,af hl,rfl,hil g (hAg g hg)⟩
      ·rcases bw M.nd ⟨_,hl⟩ p hp with rfl|⟨hp,hne⟩
       ·have hg:g∈(bR ρ n (rz A c) i).own (some (q,D.of_,n,0)):=hg;rw[ck (by omega)]at hg;exact .inr ⟨_,af hl,rfl,hil g (qz hg)⟩
       ·have:=M.lt p hp;rcases hs with hs|hs
        ·exact absurd hs.symm hne
        ·omega) (fun p hp hs p2 hp2 hs2 g hg hg2=>by
      have key: ∀g,Lv (bR ρ n (rz A c)) (n,(.row 0 D.e2 (D.nest y) D.t2:aH U)) g→Lv (bR ρ n (rz A c)) (i,(.ext v (dB D t) xs (some (q,D.of_,n,0)):aH U)) g→False:=fun g h1 h2=>by
       have h1:ab (bR ρ n (rz A c) n).A=some g:=h1;have h2:g∈(bR ρ n (rz A c) i).own (some (q,D.of_,n,0)):=h2;rw[ax]at h1;rw[ck (by omega)]at h2;have h1:ab A=some g:=h1;exact xZ hnd hbq' (by rw[h1];simp) h2
      rcases List.mem_cons.1 hp with rfl|hp<;>rcases List.mem_cons.1 hp2 with rfl|hp2
      ·rfl
      ·rcases bw M.nd ⟨_,hl⟩ p2 hp2 with rfl|⟨hp2,hne⟩
       ·exact(key g hg hg2).elim
       ·have:=M.lt p2 hp2;rcases hs2 with hs2|hs2
        ·exact absurd hs2.symm hne
        ·omega
      ·rcases bw M.nd ⟨_,hl⟩ p hp with rfl|⟨hp,hne⟩
       ·exact(key g hg2 hg).elim
       ·have:=M.lt p hp;rcases hs with hs|hs
        ·exact absurd hs.symm hne
        ·omega
      ·rcases bw M.nd ⟨_,hl⟩ p hp with rfl|⟨hp,hne⟩<;>rcases bw M.nd ⟨_,hl⟩ p2 hp2 with rfl|⟨hp2,hne2⟩
       ·rfl
       ·have:=M.lt p2 hp2;rcases hs2 with hs2|hs2
        ·exact absurd hs2.symm hne2
        ·omega
       ·have:=M.lt p hp;rcases hs with hs|hs
        ·exact absurd hs.symm hne
        ·omega
       ·have:=M.lt p hp;rcases hs with hs|hs
        ·exact absurd hs.symm hne
        ·omega) (fun z hz v1 l1 m1 hr=>by
      rw[dP (by omega),bV ⟨_,hl⟩]at hr;refine⟨v1,l1,m1,?_,Nat.le_refl _,fun _=>⟨ck (by omega) _ _,rfl,rfl⟩⟩;split at hr
      ·rename_i e;subst e;rw[hl];exact hr
      ·exact hr) (fun z hz _=>ck (by omega) _ _) (fun st p hp hs=>by
      have mv:=(st.mv (X:=X)).fr;rcases List.mem_cons.1 hp with rfl|hp
      ·refine⟨D.sz2,n1,s1, @aR.mv ⟨[],default⟩ _ _ _ _ _ (CH mv) _ _ _ hd1,by simp only[ax];exact how1,fun g hg w2 h2=>?_⟩;subst h2;simp only[ax]at hg;rw[hw g (hAg g hg),hC1 g hg]
      ·rcases bw M.nd ⟨_,hl⟩ p hp with rfl|⟨hp,hne⟩;case inr=>
        have:=M.lt p hp;rcases hs with hs|hs
        ·exact absurd hs.symm hne
        ·omega
       have hρ:bR ρ n (rz A c) i=ρ i:=ck (by omega) _ _;refine⟨C,?_,fun g hg w2 h2=>?_,?_⟩
       ·simp only[hρ];exact⟨cs,sp,bl,how,hc,.inl hbs,hnd,NL.mv mv hnl'⟩
       ·subst h2;simp only[hρ]at hg;exact hw g (qz hg)
       ·simp only[hρ];refine⟨q0,q1,D.off,g0,cs++sp,t,_,hA0,?_,hc g0 (by rw[hA0];rfl),?_,tv (nH _ _ _) rfl (Nat.lt_succ_self _) (by rw[ax]) (by rw[ax])⟩
        ·show g0∈((ρ i).bs.eraseIdx (q.toNat+1)).flatten
         rw[hbs,hA0];exact List.mem_append_left _ (List.mem_singleton.2 rfl)
        ·rw[List.getElem?_append_left (by rw[hcl];have:=kW (m:=aG U D.e) hq;have:=D.off;show q.toNat*aG U D.e+D.of_<_;omega)];exact hcell)
    exact⟨_,_,_,hK,M',st⟩
  ·exact h.elim
 ·exact h.elim
def Ki(D:DD U)(H:Hs U)(x:Cx U)(K:Hs U→Prop):Prop:=match x with
 | .own i v=>(match aD H i with
  |some (.ext v' d xs (some (q,o,k,u)))=>(match aD H k with
   |some (.row u' e2 ys t2)=>bif (Nat.beq v v'&&Nat.beq t2 D.t2)&&(Nat.beq o D.of_&&Nat.beq u u')then(match dZ U.ty List e2 D.e2 ys with
    |some ys=> ∃t xs',(⟨d,xs⟩:(d:XD U)×List (TT U.ty d.e))=⟨dB D t,xs'⟩∧wz U D.e xs' q fun y=>fh H k .dead fun H=>fh H i (.ext v (dB D t) (xs'.set q.toNat (D.repl y ys)) none) K
    |none=>False)else False
   |_=>False)
  |_=>False)
 |_=>False
theorem Kj{D:DD U}{x:Cx U}{K:Hs U→Prop}(h:Ki D H x K)(M:aX U X (· =w) ρ n H): ∃H1,K H1∧aX U X (· =w) ρ n H1∧bQ ρ n H w ρ n H1 w:=by
 unfold Ki at h;split at h
 ·rename_i i v;split at h
  ·rename_i v' d xs q o k u hli;split at h
   ·rename_i u' e2 ys t2 hlk;cases hb:((Nat.beq v v'&&Nat.beq t2 D.t2)&&(Nat.beq o D.of_&&Nat.beq u u'))with
    |false=>rw[hb]at h;exact h.elim
    |true=>
     rw[hb,cond_true]at h;simp only[Bool.and_eq_true]at hb;obtain rfl:=Nat.eq_of_beq_eq_true hb.1.1;have et2:=Nat.eq_of_beq_eq_true hb.1.2;have eo:=Nat.eq_of_beq_eq_true hb.2.1;obtain rfl:=Nat.eq_of_beq_eq_true hb.2.2;subst et2;subst eo;cases hc0:dZ U.ty List e2 D.e2 ys with
     |none=>rw[hc0]at h;exact h.elim
     |some ys'=>
      rw[hc0]at h;obtain⟨g1,g2⟩:=dv _ _ _ _ _ hc0;subst g1;have g2:ys=ys':=eq_of_heq g2;subst g2;obtain⟨t,xs',ex,h⟩:=(show ∃t xs',_∧_ from h);injection ex with e1 e2;subst e1;have e2:=eq_of_heq e2;subst e2;obtain⟨y,h,hy⟩:=gL h;have hK:=bU (bU h);have hik: ¬i=k:=fun e=>by rw[e,hlk]at hli;cases hli
      obtain⟨C,⟨cs,sp,bl,how,hc,hbs,hnd,hnl⟩,hw,q0,q1,_,g0,cs',t0,cell,hA0,hg0,hC0,hcell,hown⟩:=M.ent _ (af hli);simp only at how hc hbs hnd hw hA0 hg0;obtain⟨_,n1,s1,hd1,how1,hw1⟩:=M.ent _ (af hlk);simp only at how1 hw1;have hq:q.toNat<xs.length:=by omega
      have hxq:xs[q.toNat]? =some y:=by
       rw[List.getElem?_eq_getElem hq];exact congrArg some (hy _ (List.getElem?_eq_getElem hq)).symm
      obtain⟨hcl,hbll⟩:=hnl.len;have hbs:=x4 hbs (by rw[hbll];omega);have hCg:=hc g0 (by rw[hA0];rfl);rw[hC0]at hCg;have ecs:cs'=cs++sp:=by
       injection hCg with hCg;exact List.toArray_inj hCg
      rw[ecs,List.getElem?_append_left (by rw[hcl];have:=kW (m:=aG U D.e) hq;have:=D.off;show q.toNat*aG U D.e+D.of_<_;omega)]at hcell;obtain⟨hkn,A,l,c,e1,hnow⟩:=hown;injection e1 with e1;subst e1;obtain⟨rfl,rfl,rfl⟩:=(hnow _ _ _ (by rw[hlk];rfl)).2 rfl;have hin:i<n:=M.lt _ (af hli);have how1':Ow (ρ k).A ys.length (ρ k).c (aG U D.e2) n1 s1:=how1;have hown2: ∀g,g∈((ρ i).bs.eraseIdx (q.toNat+1)).flatten→w.heap[g]? =some (C g):=fun g hg=>hw g hg w rfl;have gd: ∀(g:Nat) (b:Obj),w.heap[g]? =some b→(fun g=>(w.heap[g]?).getD (Cl [] 0)) g=b:=fun g b h=>by show(w.heap[g]?).getD (Cl [] 0)=b;rw[h];rfl
      have hbi: ∀(j:Nat) (b:List Nat),bl[j]? =some b→some q.toNat≠some j→ ∀g∈b,g∈((ρ i).bs.eraseIdx (q.toNat+1)).flatten:=fun j b hb hne g hg=>by
       rw[hbs];refine List.mem_flatten.2 ⟨b,List.mem_of_getElem? (i:=if j<q.toNat then j+1 else j) ?_,hg⟩;rw[List.getElem?_eraseIdx];have hjq:j≠q.toNat:=fun e=>hne (by rw[e]);by_cases hj:j<q.toNat
       ·rw[if_pos hj,if_pos (by omega)];exact hb
       ·rw[if_neg hj,if_neg (by omega)];exact hb
      have hg0o:g0∈((ρ i).bs.eraseIdx (q.toNat+1)).flatten:=hg0;obtain⟨hnl2,hbq⟩:=NL.close (C:=fun g=>(w.heap[g]?).getD (Cl [] 0)) (ys:=ys) (hnl.cong fun j b hb hne g hg=>(gd g _ (hown2 g (hbi j b hb (by simpa using hne) g hg))).symm) hxq hcell hd1 how1' (fun g hg=>gd g _ (hw1 g hg w rfl));have hbq':(ρ i).bs[q.toNat+1]? =some (ab (ρ k).A).toList:=by rw[hbs];exact hbq
      have hall: ∀g,g∈(ρ i).bs.flatten→(ab (ρ k).A=some g)∨g∈((ρ i).bs.eraseIdx (q.toNat+1)).flatten:=fun g hg=>by
       rcases x3 hg hbq' with h|h
       ·exact .inl (by simpa using h)
       ·exact .inr h
      have lkz: ∀z,aD (cO (cO H k .dead) i (.ext v (dB D t) (xs.set q.toNat (D.repl y ys)) none)) z=if i=z then some (.ext v (dB D t) (xs.set q.toNat (D.repl y ys)) none)else if k=z then some .dead else aD H z:=fun z=>by
       rw[bV ⟨_,by rw[bV ⟨_,hlk⟩,if_neg (fun e=>hik e.symm)];exact hli⟩,bV ⟨_,hlk⟩]
      have nd':((cO H k (.dead:aH U)).map (·.1)).Nodup:=by rw[eL];exact M.nd
      have mem': ∀p∈cO (cO H k .dead) i (.ext v (dB D t) (xs.set q.toNat (D.repl y ys)) none),p=(i,.ext v (dB D t) (xs.set q.toNat (D.repl y ys)) none)∨p=(k,.dead)∨(p∈H∧ ¬i=p.1∧ ¬k=p.1):=fun p hp=>by
       rcases bw nd' ⟨_,by rw[bV ⟨_,hlk⟩,if_neg (fun e=>hik e.symm)];exact hli⟩ p hp with h|⟨h,h1⟩
       ·exact .inl h
       ·rcases bw M.nd ⟨_,hlk⟩ p h with h|⟨h,h2⟩
        ·exact .inr (.inl h)
        ·exact .inr (.inr ⟨h,h1,h2⟩)
      obtain⟨M',st⟩:=aX.many (ρ':=ρ) (n':=n) (H':=cO (cO H k .dead) i (.ext v (dB D t) (xs.set q.toNat (D.repl y ys)) none)) (O:= []) (w':=w) M (fun z=>z=i∨z=k) (·.1=i) (Nat.le_refl _) (by rw[eL];exact nd') (fun p hp=>by
        rcases mem' p hp with rfl|rfl|⟨h,_⟩
        ·exact hin
        ·exact hkn
        ·exact M.lt p h) (fun p hp=>by
        rcases mem' p hp with rfl|rfl|⟨h,h1,h2⟩
        ·exact .inl rfl
        ·exact .inr (.inl rfl)
        ·exact .inr (.inr ⟨h,rfl,fun h=>h.elim (fun e=>h1 e.symm) (fun e=>h2 e.symm)⟩)) (Fr.refl _ _) (fun g hg=>(by cases hg)) (fun p hp hs g hg=>by
        rcases mem' p hp with rfl|rfl|⟨h,h1,h2⟩
        ·rcases hall g hg with h|h
         ·exact .inr ⟨_,af hlk,.inr rfl,h⟩
         ·exact .inr ⟨_,af hli,.inl rfl,h⟩
        ·exact hg.elim
        ·exact absurd (show p.1=i from hs).symm h1) (fun p _ hs p2 _ hs' _ _ _=>(show p.1=i from hs).trans (show p2.1=i from hs').symm) (fun z hz v1 l1 m1 hr=>by
        rw[lkz z]at hr;split at hr
        ·rename_i e;subst e;injection hr with hr;injection hr with h1 hr;injection hr with h2 h3;exact⟨v,_,_,by rw[hli];rfl,by omega,fun _=>⟨rfl,by rw[←h2,List.length_set],h3.symm⟩⟩
        ·split at hr
         ·cases hr
         ·exact⟨v1,l1,m1,hr,Nat.le_refl _,fun _=>⟨rfl,rfl,rfl⟩⟩) (fun z hz hr=>rfl) (fun st p hp hs=>by
        rcases mem' p hp with rfl|rfl|⟨h,h1,h2⟩;case inr.inl=>trivial
        case inr.inr=>exact absurd (show p.1=i from hs).symm h1
        have mv:=(st.mv (X:=X)).fr;refine⟨fun g=>(w.heap[g]?).getD (Cl [] 0),⟨cs,sp,bl,by rw[List.length_set];exact how,fun g hg=>?_,.inl hbs,hnd,NL.mv mv hnl2⟩,fun g hg w2 h2=>?_,trivial⟩
        ·have e3:g=g0:=by
          have hg:ab (ρ i).A=some g:=hg;rw[hA0]at hg;injection hg with hg;exact hg.symm
         subst e3;refine gd g _ ?_;rw[hown2 g hg0o,hc g hg]
        ·subst h2;rcases hall g hg with h|h
         ·have h9:=hw1 g h w2 rfl;exact h9.trans (congrArg some (gd _ _ h9).symm)
         ·exact(hown2 g h).trans (congrArg some (gd _ _ (hown2 g h)).symm))
      exact⟨_,hK,M',st⟩
   ·exact h.elim
  ·exact h.elim
 ·exact h.elim
end
end Go.Proofs.YtmpeiadlohbikaaGreatDoor.V
end

/- Functions walked: printed by the walker. -/
import Derived.Test.YtmpeiadlohbikaaGreatDoorYs14
import Derived.Test.YtmpeiadlohbikaaGreatDoorYs18
import Derived.Test.YtmpeiadlohbikaaGreatDoorYs13
section
set_option linter.unusedVariables false
set_option maxRecDepth 20000
namespace Go.Proofs.YtmpeiadlohbikaaGreatDoor.V
open Go.RowKit Go.Shelf Go.Sort
def Q9:bG U:=oQ U (.st 4) 61
theorem NR:dz Tryz.prog U 79 Q9:=oe (s:=(.st 4)) (fn:=Tryz.f79) (ρf:=fun n=>n) (ρt:=fun n=>n) (by kernel_rfl) Tryz.func79 (by kernel_rfl) rfl rfl (by kernel_rfl) Tryz.underlying3 (by kernel_rfl) (by kernel_rfl) kO ⟨_,rfl⟩ (by decide) (by decide) (by decide)
def Ra:bG U:=oQ U (.st 10) 128
theorem NS:dz Tryz.prog U 78 Ra:=oe (s:=(.st 10)) (fn:=Tryz.f78) (ρf:=fun n=>n) (ρt:=fun|36=>35|n=>n) (by kernel_rfl) Tryz.func78 (by kernel_rfl) rfl rfl (by kernel_rfl) Tryz.underlying3 (by kernel_rfl) (by kernel_rfl) kj ⟨_,rfl⟩ (by decide) (by decide) (by decide)
def Rb:bG U:=oQ U (.st 5) 133
theorem L8:dz Tryz.prog U 80 Rb:=oe (s:=(.st 5)) (fn:=Tryz.f80) (ρf:=fun n=>n) (ρt:=fun|36=>39|n=>n) (by kernel_rfl) Tryz.func80 (by kernel_rfl) rfl rfl (by kernel_rfl) Tryz.underlying3 (by kernel_rfl) (by kernel_rfl) km ⟨_,rfl⟩ (by decide) (by decide) (by decide)
def NT:bG U:=oQ U (.st 3) 70
theorem NU:dz Tryz.prog U 109 NT:=oe (s:=(.st 3)) (fn:=Tryz.f109) (ρf:=fun n=>n) (ρt:=fun|36=>26|n=>n) (by kernel_rfl) Tryz.func109 (by kernel_rfl) rfl rfl (by kernel_rfl) Tryz.underlying3 (by kernel_rfl) (by kernel_rfl) mS ⟨_,rfl⟩ (by decide) (by decide) (by decide)
def Rc:bG U:=wG U (.st 4) 61
theorem O7:dz Tryz.prog U 90 Rc:=zW (fg:=Tryz.f153) (s:=(.st 4)) (fn:=Tryz.f90) (ρf:=fun n=>n) (ρt:=fun n=>n) (by kernel_rfl) Tryz.func90 (by kernel_rfl) rfl rfl (by kernel_rfl) Tryz.func153 (by kernel_rfl) rfl rfl (by kernel_rfl) Tryz.underlying3 (by kernel_rfl) (by kernel_rfl) (by kernel_rfl) (by kernel_rfl) (by kernel_rfl) kO ⟨_,rfl⟩ (by decide) (by decide) (by decide)
def Rd:bG U:=rD U (.st 10) 128
theorem Re:dz Tryz.prog U 89 Rd:=tl (fo:=Tryz.f151) (s:=(.st 10)) (fn:=Tryz.f89) (ρf:=fun n=>n) (ρt:=fun n=>n) (by kernel_rfl) Tryz.func89 (by kernel_rfl) rfl rfl (by kernel_rfl) Tryz.underlying3 (by kernel_rfl) (by kernel_rfl) Tryz.func151 (by kernel_rfl) (by kernel_rfl) (by kernel_rfl) (by kernel_rfl) kj ⟨_,rfl⟩ (by decide) (by decide) (by decide)
def NV:bG U:=rD U (.st 5) 133
theorem NW:dz Tryz.prog U 101 NV:=tl (fo:=Tryz.f157) (s:=(.st 5)) (fn:=Tryz.f101) (ρf:=fun|151=>157|152=>158|n=>n) (ρt:=fun|35=>39|n=>n) (by kernel_rfl) Tryz.func101 (by kernel_rfl) rfl rfl (by kernel_rfl) Tryz.underlying3 (by kernel_rfl) (by kernel_rfl) Tryz.func157 (by kernel_rfl) (by kernel_rfl) (by kernel_rfl) (by kernel_rfl) km ⟨_,rfl⟩ (by decide) (by decide) (by decide)
def NX:bG U:=rB U (.st 4)
theorem NY:dz Tryz.prog U 149 NX:=rC (s:=(.st 4)) (fn:=Tryz.f149) (ρf:=fun n=>n) (ρt:=fun|35=>36|198=>115|128=>61|n=>n) (by kernel_rfl) Tryz.func149 (by kernel_rfl) rfl rfl (by kernel_rfl) Tryz.underlying3 rfl (by kernel_rfl) (by kernel_rfl) rfl (by kernel_rfl) (by kernel_rfl) kO ⟨_,rfl⟩ (by decide) (by decide) (by decide)
def NZ:bG U:=rB U (.st 10)
theorem N0:dz Tryz.prog U 155 NZ:=rC (s:=(.st 10)) (fn:=Tryz.f155) (ρf:=fun n=>n) (ρt:=fun n=>n) (by kernel_rfl) Tryz.func155 (by kernel_rfl) rfl rfl (by kernel_rfl) Tryz.underlying3 rfl (by kernel_rfl) (by kernel_rfl) rfl (by kernel_rfl) (by kernel_rfl) kj ⟨_,rfl⟩ (by decide) (by decide) (by decide)
def N1:bG U:=rB U (.st 3)
theorem N2:dz Tryz.prog U 122 N1:=rC (s:=(.st 3)) (fn:=Tryz.f122) (ρf:=fun n=>n) (ρt:=fun|35=>26|198=>154|128=>70|n=>n) (by kernel_rfl) Tryz.func122 (by kernel_rfl) rfl rfl (by kernel_rfl) Tryz.underlying3 rfl (by kernel_rfl) (by kernel_rfl) rfl (by kernel_rfl) (by kernel_rfl) mS ⟨_,rfl⟩ (by decide) (by decide) (by decide)
def Rf:bG U:=oh U (.st 10) 128
theorem Rg:dz Tryz.prog U 93 Rf:=oS (fx:=Tryz.f155) (s:=(.st 10)) (fn:=Tryz.f93) (ρf:=fun n=>n) (ρt:=fun n=>n) (by kernel_rfl) Tryz.func93 (by kernel_rfl) rfl rfl (by kernel_rfl) Tryz.func155 (by kernel_rfl) rfl rfl (by kernel_rfl) Tryz.underlying3 rfl (by kernel_rfl) (by kernel_rfl) rfl (by kernel_rfl) (by kernel_rfl) kj ⟨_,rfl⟩ (by decide) (by decide) (by decide)
def N3:bG U:=oh U (.st 5) 133
theorem JS:dz Tryz.prog U 102 N3:=oS (fx:=Tryz.f159) (s:=(.st 5)) (fn:=Tryz.f102) (ρf:=fun|155=>159|n=>n) (ρt:=fun|35=>39|198=>205|128=>133|n=>n) (by kernel_rfl) Tryz.func102 (by kernel_rfl) rfl rfl (by kernel_rfl) Tryz.func159 (by kernel_rfl) rfl rfl (by kernel_rfl) Tryz.underlying3 rfl (by kernel_rfl) (by kernel_rfl) rfl (by kernel_rfl) (by kernel_rfl) km ⟨_,rfl⟩ (by decide) (by decide) (by decide)
def N4:bG U:=oh U (.st 3) 70
theorem N5:dz Tryz.prog U 108 N4:=oS (fx:=Tryz.f122) (s:=(.st 3)) (fn:=Tryz.f108) (ρf:=fun|155=>122|n=>n) (ρt:=fun|35=>26|198=>154|128=>70|n=>n) (by kernel_rfl) Tryz.func108 (by kernel_rfl) rfl rfl (by kernel_rfl) Tryz.func122 (by kernel_rfl) rfl rfl (by kernel_rfl) Tryz.underlying3 rfl (by kernel_rfl) (by kernel_rfl) rfl (by kernel_rfl) (by kernel_rfl) mS ⟨_,rfl⟩ (by decide) (by decide) (by decide)
def O8:DecidableEq (TT U.ty (.st 4)):=inferInstanceAs (DecidableEq am)
def Rh:bG U:=tp U (.st 4) 61 O8
theorem O9:dz Tryz.prog U 92 Rh:=xP (s:=(.st 4)) (fn:=Tryz.f92) (ρf:=fun n=>n) (ρt:=fun n=>n) O8 (by kernel_rfl) Tryz.func92 (by kernel_rfl) rfl rfl (by kernel_rfl) Tryz.underlying3 (by kernel_rfl) (by kernel_rfl) rfl (by kernel_rfl) (by kernel_rfl) Kw kO ⟨_,rfl⟩ (by decide) (by decide) (by decide)
def N6:bG U:=qp U 9
theorem N7:dz Tryz.prog U 119 N6:=uU (fn:=Tryz.f119) (ρf:=fun n=>n) (ρt:=fun|36=>25|61=>9|n=>n) (by kernel_rfl) Tryz.func119 (by kernel_rfl) rfl rfl (by kernel_rfl) Tryz.underlying3 rfl (by kernel_rfl) (by kernel_rfl) (by kernel_rfl) (by kernel_rfl) (by kernel_rfl)
def Ri:bG U:=zY U (.st 4) 61
theorem Pa:dz Tryz.prog U 91 Ri:=z7 (s:=(.st 4)) (ρs:=Tryz.laysSortTag_ren) Tryz.laysSortTag (by kernel_rfl) rfl (by kernel_rfl) (by kernel_rfl) kO ⟨_,rfl⟩ (by decide) (fun _ _ _ _ _ h h'=>(yp h).trans (yp h').symm)
def Rj:bG U:=zY U (.st 6) 144
theorem Pb:dz Tryz.prog U 46 Rj:=z7 (s:=(.st 6)) (ρs:=Tryz.laysSortItem_ren) Tryz.laysSortItem (by kernel_rfl) rfl (by kernel_rfl) (by kernel_rfl) uo ⟨_,rfl⟩ (by decide) (fun _ _ _ _ _ h h'=>(yq h).trans (yq h').symm)
def N8:bG U:=z8 U 9
theorem N9:dz Tryz.prog U 118 N8:=Dh (by kernel_rfl) (fun blk cap ss w h1 h2 h3=>Tryz.slices_Sort_string blk 0 cap ss w h1 h2 h3) Tryz.slices_Sort_string_none
def Oa:bG U:=Aa U
theorem Ob:dz Tryz.prog U 104 Oa:=Di (by kernel_rfl) Tryz.strings_Split
def Oc:bG U:=wJ U
theorem Od:dz Tryz.prog U 105 Oc:=Ab
end Go.Proofs.YtmpeiadlohbikaaGreatDoor.V
end

section
set_option linter.unusedVariables false
namespace Go.Proofs.YtmpeiadlohbikaaGreatDoor.V
open Go.RowKit
section
variable {U:cw}
theorem wI{α:Type}{f x y:α}{b:Bool}{P:Prop} [Decidable P]{A B:Prop}(hf:f=if P then x else y)(h1:P→f=x→A)(h2: ¬P→f=y→B)(hb:b=true↔P:=by repeat (first|exact iD|exact iB|apply iA|apply iO|apply iN|apply iP)):yJ b A B:=vI hf hb h1 h2
theorem wN{α:Type}{f x y:α}{b:Bool}{P:Prop} [Decidable P]{A B:Prop}(hf:f=if P then x else y)(h1: ¬P→f=y→A)(h2:P→f=x→B)(hb:b=true↔ ¬P:=by repeat (first|exact iD|exact iB|apply iN|apply iA|apply iO|apply iP)):yJ b A B:=vN hf hb h1 h2
theorem vs{P A:Prop}(a:A)(p:P:=by first|omega|(simp only[List.length_append,List.length_cons,List.length_nil];omega)):VS P A:=⟨p,a⟩
theorem vx{α:Type}(i:Int)(l:List α){A:Prop}(a:A)(p:0≤i∧i<(l.length:Int):=by omega):VS (0≤i∧i<(l.length:Int)) A:=⟨p,a⟩
theorem bE{p q r:Int}{A B:Prop}(a:A)(h: -9223372036854775808≤p→p≤9223372036854775807→ -9223372036854775808≤q→q≤9223372036854775807→ -9223372036854775808≤r∧r≤9223372036854775807:=by first|omega|(simp only[List.length_append,List.length_cons,List.length_nil];omega)):LQ (eF .i64 p→eF .i64 q→eF .i64 r) A B:= .inl ⟨qU h,a⟩
theorem fl{k:IntKind}{x:Int}{A:Prop}(h:x≤9223372036854775807→A)(hk:k= .i64:=by rfl):eF k x→A:=fun q=>h (by subst hk;exact q.2)
theorem lI{σ β:Type}{b n:Nat}{a:En U→Nat→Hs U→KO U→Prop}{e:En U}{H:Hs U}{K:KO U}(N:Nat)(E:σ→En U)(M:σ→Hs U)(μ:σ→Nat)(inv:σ→Prop)(L:Nat→σ→β)(X:β)(φ:List (Nat×Nat))(s0:σ)
  (k: ∀s,cY μ inv L X s→a (E s) N (M s) fun o e' n' H'=>match o with
   | .n=> ∃φ s',μ s'<μ s∧cY μ inv L X s'∧LV b N φ n' e' H' (E s') (M s')
   |o=>K o e' n' H')
  (hi:inv s0:=by((try dsimp only);repeat' apply And.intro)<;>first|trivial|omega|assumption|(simp only[List.length_append,List.length_cons,List.length_nil];omega)|(simp;omega)|(intro h;simp at h;omega)|simp)
  (hX:X=L (μ s0+1) s0:=by rfl) (hle:LV b N φ n e H (E s0) (M s0):=by repeat (first|exact trivial|refine And.intro rfl ?_)):yZ b a e n H K:=
 ⟨σ,N,E,M,cY μ inv L X,μ,⟨φ,s0,cY.mk0 _ (Nat.lt_succ_self _) hi hX,hle⟩,k⟩
theorem nx{σ β:Type}{μ:σ→Nat}{inv:σ→Prop}{L:Nat→σ→β}{X:β}{s:σ}{c:Nat}{LE:List (Nat×Nat)→σ→Prop}(φ:List (Nat×Nat))(s':σ)(hc:μ s<c+1)(hX:X=L c s')
  (hm:μ s'<μ s:=by(try dsimp only);omega)
  (hi:inv s':=by((try dsimp only);repeat' apply And.intro)<;>first|trivial|omega|assumption|(simp only[List.length_append,List.length_cons,List.length_nil];omega)|(simp;omega)|(intro h;simp at h;omega)|simp)
  (hle:LE φ s':=by repeat (first|exact trivial|refine And.intro rfl ?_)): ∃φ s',μ s'<μ s∧cY μ inv L X s'∧LE φ s':=⟨φ,s',hm,cY.next hc hm hi hX,hle⟩
theorem dp{T:dO U}{G:jm U}{b n:Nat}{ops:Array Oper}{e:En U}{H:Hs U}{K:KS U}(pl:List (Bool×Nat))(f:Option Nat)(mk:List Nat)(k:wb T G ops.toList mk (kW T G ops.toList f) pl e n H [] [] K)(h:uE ops f pl=true:=by kernel_rfl):wd T G b ops e n H K:= .inl ⟨pl,f,mk,h,k⟩
def up(n:Nat):List (Bool×Nat):=Nat.rec (motive:=fun _=>Nat→List (Bool×Nat)) (fun _=> []) (fun _ ih i=>(true,i)::ih (i+1)) n 0
def nw(i:Nat):List Nat:= [i,i+1,i+2,i+3,i+4,i+5,i+6,i+7,i+8,i+9,i+10,i+11]
theorem e0{A:Prop}(a:A:=by rw[hf0]at h;exact h):A:=a
theorem e1{A:Prop}(a:A:=by rw[hf1]at hf0;rw[hf0]at h;exact h):A:=a
theorem e2{A:Prop}(a:A:=by rw[hf2]at hf1;rw[hf1]at hf0;rw[hf0]at h;exact h):A:=a
theorem dz.mono{P:Program}{f:FuncId}{c c':bG U}(h:dz P U f c)(hm: ∀xs es K,c'.run xs es K→c.run xs es K):dz P U f c':=fun [F:ay] hpr X w ρ es xs vs K M hv hr=>h hpr X w ρ es xs vs K M hv (hm _ _ _ hr)
abbrev vi(x:Int):Va U:=⟨false,[(1,.d (.int .i64) x)]⟩
abbrev vb(x:Bool):Va U:=⟨false,[(1,.d .bool x)]⟩
abbrev vt(x:List UInt8):Va U:=⟨false,[(1,.d .str x)]⟩
abbrev vp(i:Nat):Va U:=⟨false,[(1,.ptr i 0)]⟩
abbrev vo(i:Nat):Va U:=⟨false,[(1,.own i 0)]⟩
end
end Go.Proofs.YtmpeiadlohbikaaGreatDoor.V
end

section
set_option linter.unusedVariables false
namespace Go.Proofs.YtmpeiadlohbikaaGreatDoor.V
open Go.RowKit
theorem fo{f:FuncId}{c:bG U}{G:jm U}(fn:Func)(md:List Md)(em:List (Nat×List (Nat×Option bq)))(hG:lj Tryz.prog U G)(h: ∀xs es K,c.run xs es K→Nat.ble xs.length fn.ntmps=true∧GM Pn G fn md em (uQ 0 xs) es.length (aV 0 es) K)
  (h1:(bu Tryz.prog f&&match fn.body with|some c=>xL fn.ntmps c|none=>false)=true:=by kernel_rfl) (h2:Tryz.prog.funcs[f]? =some fn:=by kernel_rfl):dz Tryz.prog U f c:=by
 rw[Bool.and_eq_true]at h1;cases hb:fn.body with
 |none=>rw[hb]at h1;cases h1.2
 |some c=>exact Jp (fn:=fn) hG IA (by kernel_rfl) fn.ntmps md em h1.1 h2 hb rfl (by have:=h1.2;rw[hb]at this;exact this) h
abbrev Fk(f:FuncId)(c:bG U):Prop:=dz Tryz.prog U f c
abbrev cC(x:TT U.ty (.sl (.st 19))):Va U:=⟨false,[(1,.d (.sl (.st 19)) x)]⟩
abbrev vq(x:TT U.ty (.int .u64)):Va U:=⟨false,[(1,.d (.int .u64) x)]⟩
abbrev vM(x:TT U.ty (.st 15)):Va U:=⟨true,[(10,.d (.st 15) x)]⟩
abbrev jN(x:TT U.ty (.arr 8 (.int .u32))):Va U:=⟨true,[(8,.d (.arr 8 (.int .u32)) x)]⟩
abbrev vw(x:TT U.ty (.int .u32)):Va U:=⟨false,[(1,.d (.int .u32) x)]⟩
abbrev IB(x:TT U.ty (.st 16)):Va U:=⟨true,[(9,.d (.st 16) x)]⟩
abbrev LO(x:TT U.ty (.st 1)):Va U:=⟨true,[(3,.d (.st 1) x)]⟩
abbrev B1(x:TT U.ty (.st 3)):Va U:=⟨true,[(17,.d (.st 3) x)]⟩
abbrev F6(x:TT U.ty (.st 0)):Va U:=⟨true,[(2,.d (.st 0) x)]⟩
abbrev nV(x:TT U.ty (.sl (.st 4))):Va U:=⟨false,[(1,.d (.sl (.st 4)) x)]⟩
abbrev yA(x:TT U.ty (.st 4)):Va U:=⟨true,[(3,.d (.st 4) x)]⟩
abbrev sg(x:TT U.ty (.st 12)):Va U:=⟨true,[(2,.d (.st 12) x)]⟩
abbrev vO(x:TT U.ty (.sl (.st 3))):Va U:=⟨false,[(1,.d (.sl (.st 3)) x)]⟩
abbrev ur(x:TT U.ty (.st 11)):Va U:=⟨true,[(2,.d (.st 11) x)]⟩
abbrev vP(x:TT U.ty (.st 10)):Va U:=⟨true,[(4,.d (.st 10) x)]⟩
abbrev qR(x:TT U.ty (.sl (.st 10))):Va U:=⟨false,[(1,.d (.sl (.st 10)) x)]⟩
abbrev IQ(x:TT U.ty (.st 7)):Va U:=⟨true,[(3,.d (.st 7) x)]⟩
abbrev IR(x:TT U.ty (.sl (.int .i64))):Va U:=⟨false,[(1,.d (.sl (.int .i64)) x)]⟩
abbrev IS(x:TT U.ty (.st 2)):Va U:=⟨true,[(2,.d (.st 2) x)]⟩
abbrev IT(x:TT U.ty (.st 5)):Va U:=⟨true,[(7,.d (.st 5) x)]⟩
abbrev BW(x:TT U.ty (.sl (.st 6))):Va U:=⟨false,[(1,.d (.sl (.st 6)) x)]⟩
abbrev BX(x:TT U.ty (.st 13)):Va U:=⟨true,[(3,.d (.st 13) x)]⟩
abbrev EL(x:TT U.ty (.sl (.st 5))):Va U:=⟨false,[(1,.d (.sl (.st 5)) x)]⟩
abbrev EM(x:TT U.ty (.st 14)):Va U:=⟨true,[(2,.d (.st 14) x)]⟩
abbrev Me(x:TT U.ty (.st 6)):Va U:=⟨true,[(2,.d (.st 6) x)]⟩
abbrev IC(x:TT U.ty (.sl .str)):Va U:=⟨false,[(1,.d (.sl .str) x)]⟩
end Go.Proofs.YtmpeiadlohbikaaGreatDoor.V
end

section
set_option linter.unusedVariables false
set_option linter.unusedSimpArgs false
set_option maxRecDepth 20000
set_option maxHeartbeats 4000000
namespace Go.Proofs.YtmpeiadlohbikaaGreatDoor.V
open Go.RowKit
def fm(id:bF):Int:=
 if(((id.origin<0)∨(7<id.origin))∨(id.seq<1))∨(1048576<id.seq)then
  2
 else
  0
def Pu:bG U:=⟨[.d (.st 0)],fun xs es K=> ∃(id:bF),xs= [(F6 id)]∧es= []∧K (.v (vi (fm id))) []⟩
theorem OW:Fk 41 Pu:=by
 refine fo Tryz.f41 [.d (.int .i64)] [] (aq) fun xs es K=>?_;rintro⟨id,rfl,rfl,h⟩;refine⟨rfl,?_⟩;have hf0:=fm.eq_1 id;exact wI hf0 (fun _ hf0=>e0) fun _ hf0=>e0
theorem jw{id:bF}(h:fm id=0):0≤id.origin∧id.origin≤7∧1≤id.seq∧id.seq≤1048576:=by
 unfold fm at h;split at h
 ·cases h
 ·omega
def ig(v:List Int):Nat→Int→Int⊕(Int)
 |0,s3=> .inr s3
 |n1+1,s3=>
  if s3<8 then
   if 1048576<ix v s3 then
    .inl 2
   else
    ig v n1 (s3+1)
  else
   .inr s3
def m9(v:List Int):Int:=
 match ig v (((8:Int)-(0:Int)).toNat+1) (0:Int)with
 | .inl r=>r
 | .inr s3=>
  0
def Pv:bG U:=⟨[.d (.arr 8 (.int .u32))],fun xs es K=> ∃(v:List Int),xs= [(jN v)]∧es= []∧K (.v (vi (m9 v))) []⟩
theorem Pw:Fk 66 Pv:=by
 refine fo Tryz.f66 [.d (.int .i64)] [] (aq) fun xs es K=>?_;rintro⟨v,rfl,rfl,h⟩;refine⟨rfl,?_⟩;have hf0:=m9.eq_1 v;refine lI 1 (fun(s3:Int)=> [(1,.v (vp 0)),(2,.v (vi 0)),(3,.v (vi s3))]) (fun(s3:Int)=> [(0,.cells [(8,.d (.arr 8 (.int .u32)) v)] 45)]) (fun(s3:Int)=>(8 - s3).toNat) (fun(s3:Int)=>(0≤s3)∧(s3≤8)∧True) (fun n1 (s3:Int)=>ig v n1 s3) (ig v (((8:Int)-(0:Int)).toNat+1) (0:Int)) [] (0:Int) ?_;rintro s3 ⟨n1,hc1,⟨hi1_0,hi1_1,-⟩,hf1⟩;have hf1:=hf1.trans (ig.eq_2 v s3 n1);refine wI hf1 (fun _ hf1=>?_) fun _ hf1=>e1;refine .inl ?_;refine vs (P:=0≤s3∧s3<((8:Nat):Int)) ?_;refine wI hf1 (fun _ hf1=>e1) fun _ hf1=>?_;refine bE ?_;exact nx [] (s3+1) hc1 hf1
def ml(a:List Int)(b:List Int):Nat→Int→Bool⊕(Int)
 |0,s5=> .inr s5
 |n1+1,s5=>
  if s5<8 then
   if ix b s5<ix a s5 then
    .inl false
   else
    ml a b n1 (s5+1)
  else
   .inr s5
def Af(a:List Int)(b:List Int):Bool:=
 match ml a b (((8:Int)-(0:Int)).toNat+1) (0:Int)with
 | .inl r=>r
 | .inr s5=>
  true
def Px:bG U:=⟨[.d (.arr 8 (.int .u32)),.d (.arr 8 (.int .u32))],fun xs es K=> ∃(a:List Int) (b:List Int),xs= [(jN a),(jN b)]∧es= []∧K (.v (vb (Af a b))) []⟩
theorem OX:Fk 22 Px:=by
 refine fo Tryz.f22 [.d .bool] [] (aq) fun xs es K=>?_;rintro⟨a,b,rfl,rfl,h⟩;refine⟨rfl,?_⟩;have hf0:=Af.eq_1 a b;refine lI 2 (fun(s5:Int)=> [(2,.v (vp 0)),(3,.v (vp 1)),(4,.v (vb false)),(5,.v (vi s5))]) (fun(s5:Int)=> [(0,.cells [(8,.d (.arr 8 (.int .u32)) a)] 45),(1,.cells [(8,.d (.arr 8 (.int .u32)) b)] 45)]) (fun(s5:Int)=>(8 - s5).toNat) (fun(s5:Int)=>(0≤s5)∧(s5≤8)∧True) (fun n1 (s5:Int)=>ml a b n1 s5) (ml a b (((8:Int)-(0:Int)).toNat+1) (0:Int)) [] (0:Int) ?_;rintro s5 ⟨n1,hc1,⟨hi1_0,hi1_1,-⟩,hf1⟩;have hf1:=hf1.trans (ml.eq_2 a b s5 n1);refine wI hf1 (fun _ hf1=>?_) fun _ hf1=>e1;refine dp (up 7) none (nw 2) ?_;refine .inl ?_;refine vs (P:=0≤s5∧s5<((8:Nat):Int)) ?_;refine .inl ?_;refine vs (P:=0≤s5∧s5<((8:Nat):Int)) ?_;refine wI hf1 (fun _ hf1=>e1) fun _ hf1=>?_;refine bE ?_;exact nx [] (s5+1) hc1 hf1
def fM(b:List Int):Nat→Int→(List Int)→(List Int)⊕(Int×(List Int))
 |0,s5,s2_0=> .inr (s5,s2_0)
 |n1+1,s5,s2_0=>
  if s5<8 then
   fM b n1 (s5+1) (s2_0.set s5.toNat (max (ix s2_0 s5) (ix b s5)))
  else
   .inr (s5,s2_0)
def aY(a:List Int)(b:List Int):List Int:=
 match fM b (((8:Int)-(0:Int)).toNat+1) (0:Int) a with
 | .inl r=>r
 | .inr (s5,s2_0)=>
  s2_0
def Pz:bG U:=⟨[.d (.arr 8 (.int .u32)),.d (.arr 8 (.int .u32))],fun xs es K=> ∃(a:List Int) (b:List Int),xs= [(jN a),(jN b)]∧es= []∧K (.v (jN (aY a b))) []⟩
theorem yx:Fk 12 Pz:=by
 refine fo Tryz.f12 [.d (.arr 8 (.int .u32))] [] (aq) fun xs es K=>?_;rintro⟨a,b,rfl,rfl,h⟩;refine⟨rfl,?_⟩;have hf0:=aY.eq_1 a b;refine⟨Int×(List Int),3,fun(s5,s2_0)=> [(2,.v ⟨false,[(1,.ptr 0 0)]⟩),(3,.v ⟨false,[(1,.ptr 1 0)]⟩),(4,.v ⟨false,[(1,.ptr 2 0)]⟩),(5,.v ⟨false,[(1,.d (.int .i64) s5)]⟩)],fun(s5,s2_0)=> [(0,.cells [(8,.d (.arr 8 (.int .u32)) s2_0)] 45),(1,.cells [(8,.d (.arr 8 (.int .u32)) b)] 45),(2,.cells [(1,.d (.int .u32) (0:Int)),(1,.d (.int .u32) (0:Int)),(1,.d (.int .u32) (0:Int)),(1,.d (.int .u32) (0:Int)),(1,.d (.int .u32) (0:Int)),(1,.d (.int .u32) (0:Int)),(1,.d (.int .u32) (0:Int)),(1,.d (.int .u32) (0:Int))] 45)],cY (fun(s5,s2_0)=>((8:Int)- s5).toNat) (fun(s5,s2_0)=>((0:Int)≤s5)∧(s5≤(8:Int))∧True) (fun n1 (s5,s2_0)=>fM b n1 s5 s2_0) (fM b (((8:Int)-(0:Int)).toNat+1) (0:Int) a),fun(s5,s2_0)=>((8:Int)- s5).toNat,⟨[],((0:Int),a),cY.mk0 _ (Nat.lt_succ_self _) ⟨show(0:Int)≤(0:Int)from by omega,show(0:Int)≤(8:Int)from by omega,trivial⟩ rfl,?_⟩,?_⟩
 ·repeat (first|exact trivial|refine And.intro rfl ?_)
 ·rintro⟨s5,s2_0⟩ ⟨n1,hc1,⟨hi1_0,hi1_1,-⟩,hf1⟩;have hf1:=hf1.trans (fM.eq_2 b s5 s2_0 n1);refine vI hf1 iD (fun _ hf1=>?_) (fun _ hf1=>?_)
  ·refine .inl ⟨[(true,0),(true,1),(true,2),(true,3),(true,4),(true,5),(true,6),(true,7),(true,8)],some 9,[3,4,5,6,7,8,9,10,11,12,13,14],by kernel_rfl,?_⟩;refine .inl ?_;refine And.intro (show(0:Int)≤s5∧s5<(↑(8:Nat):Int)from by omega) ?_;refine .inl ?_;refine And.intro (show(0:Int)≤s5∧s5<(↑(8:Nat):Int)from by omega) ?_;refine .inl ?_;refine And.intro (show(0:Int)≤s5∧s5<(↑(8:Nat):Int)from by omega) ?_;refine .inl (And.intro (qU (p:=s5) (q:=(1:Int)) (r:=s5+(1:Int)) (by omega)) ?_);have hm1:((8:Int)-(s5+(1:Int))).toNat<((8:Int)- s5).toNat:=by omega
   refine⟨[],(s5+(1:Int),s2_0.set s5.toNat (max (ix s2_0 s5) (ix b s5))),hm1,cY.next (s:=(s5,s2_0)) hc1 hm1 ⟨show(0:Int)≤s5+(1:Int)from by omega,show s5+(1:Int)≤(8:Int)from by omega,trivial⟩ hf1,?_⟩;repeat (first|exact trivial|refine And.intro rfl ?_)
  ·rw[hf1]at hf0;rw[hf0]at h;exact h
def aD(v:List Int)(id:bF):Bool:=
 decide (fm id=0)&&decide (id.seq≤ix v id.origin)
def PA:bG U:=⟨[.d (.arr 8 (.int .u32)),.d (.st 0)],fun xs es K=> ∃(v:List Int) (id:bF),xs= [(jN v),(F6 id)]∧es= []∧K (.v (vb (aD v id))) []⟩
theorem yy:Fk 11 PA:=by
 refine fo Tryz.f11 [.d .bool] [] (aa OW aq) fun xs es K=>?_;rintro⟨v,id,rfl,rfl,h⟩;refine⟨rfl,?_⟩;have hf0:=aD.eq_1 v id;refine dp [(true,0),(false,1),(true,2),(true,3),(true,4),(true,5),(true,6),(true,7),(true,8),(true,9),(true,10),(true,11),(true,12)] none (nw 2) ?_;refine⟨_,rfl,rfl,?_⟩;refine .inl ?_;refine And.intro (show decide (fm id=(0:Int))=((8:Nat),true).snd→(0:Int)≤id.origin∧id.origin<(↑(8:Nat):Int)from(fun h=>⟨(jw (of_decide_eq_true h)).1,by have:=(jw (of_decide_eq_true h)).2.1;simp;omega⟩)) ?_;exact e0
def oY(v:List Int)(id:bF):(List Int)×Int:=
 if(¬m9 v=0)∨(¬fm id=0)then
  ([0,0,0,0,0,0,0,0],2)
 else
  if aD v id=true then
   ([0,0,0,0,0,0,0,0],11)
  else
   if(id.seq - 1)%4294967296=ix v id.origin then
    (v.set id.origin.toNat id.seq,0)
   else
    ([0,0,0,0,0,0,0,0],17)
def PB:bG U:=⟨[.d (.arr 8 (.int .u32)),.d (.st 0)],fun xs es K=> ∃(v:List Int) (id:bF),xs= [(jN v),(F6 id)]∧es= []∧K (.tup [(jN ((oY v id).1)),(vi ((oY v id).2))]) []⟩
theorem OY:Fk 23 PB:=by
 refine fo Tryz.f23 [.d (.arr 8 (.int .u32)),.d (.int .i64)] [] (aa yy (aa OW (aa Pw aq))) fun xs es K=>?_;rintro⟨v,id,rfl,rfl,h⟩;refine⟨rfl,?_⟩;have hf0:=oY.eq_1 v id;refine⟨_,rfl,rfl,?_⟩;refine⟨_,fun _=>⟨_,rfl,rfl,rfl,rfl⟩,rfl,?_⟩;refine wI hf0 (fun _ hf0=>e0) fun _ hf0=>?_;refine⟨_,_,rfl,rfl,?_⟩;refine wI hf0 (fun _ hf0=>e0) fun _ hf0=>?_;refine dp (up 9) none (nw 3) ?_;refine .inr ?_;refine .inl ?_;refine vs (P:=0≤id.origin∧id.origin<((8:Nat):Int)) ?_ (by(have hq:=jw (id:=id) (by omega);omega));refine wN hf0 (fun _ hf0=>e0) fun _ hf0=>?_;refine .inl ?_;refine vs (P:=0≤id.origin∧id.origin<((8:Nat):Int)) ?_ (by(have hq:=jw (id:=id) (by omega);omega));exact e0
def dV(a:List aF)(b:List aF):Nat→Int→Bool⊕(Int)
 |0,s5=> .inr s5
 |n1+1,s5=>
  if s5<(a.length:Int)then
   if ix a s5=ix b s5 then
    dV a b n1 (s5+1)
   else
    .inl false
  else
   .inr s5
def gl(a:List aF)(b:List aF):Bool:=
 if(a.length:Int)=(b.length:Int)then
  match dV a b (((a.length:Int)- 0).toNat+1) 0 with
  | .inl r=>r
  | .inr s5=>
   true
 else
  false
def PC:bG U:=⟨[.d (.sl (.st 6)),.d (.sl (.st 6))],fun xs es K=> ∃(a:List aF) (b:List aF),xs= [(BW a),(BW b)]∧es= []∧K (.v (vb (gl a b))) []⟩
theorem PD:Fk 49 PC:=by
 refine fo Tryz.f49 [.d .bool] [] (aq) fun xs es K=>?_;rintro⟨a,b,rfl,rfl,h⟩;refine⟨rfl,?_⟩;have hf0:=gl.eq_1 a b;refine fl (x:=a.length) fun _=>?_;refine fl (x:=b.length) fun _=>?_;refine wN hf0 (fun _ hf0=>e0) fun _ hf0=>?_;refine lI 0 (fun(s5:Int)=> [(0,.v (BW a)),(1,.v (BW b)),(4,.v (vb false)),(5,.v (vi s5))]) (fun(s5:Int)=> []) (fun(s5:Int)=>((a.length:Int)- s5).toNat) (fun(s5:Int)=>(0≤s5)∧(s5≤(a.length:Int))∧True) (fun n1 (s5:Int)=>dV a b n1 s5) (dV a b (((a.length:Int)- 0).toNat+1) 0) [] (0:Int) ?_;rintro s5 ⟨n1,hc1,⟨hi1_0,hi1_1,-⟩,hf1⟩;have hf1:=hf1.trans (dV.eq_2 a b s5 n1);refine fl (x:=a.length) fun _=>?_;refine wI hf1 (fun _ hf1=>?_) fun _ hf1=>e1;refine dp (up 9) none (nw 0) ?_;refine vx s5 a ?_;refine vx s5 b ?_;refine wN hf1 (fun _ hf1=>e1) fun _ hf1=>?_;refine bE ?_;exact nx [] (s5+1) hc1 hf1
def bS(a:be)(b:be):Bool:=
 decide (a.kind=b.kind)&&decide (a.val=b.val)&&gl a.items b.items
def PE:bG U:=⟨[.d (.st 7),.d (.st 7)],fun xs es K=> ∃(a:be) (b:be),xs= [(IQ a),(IQ b)]∧es= []∧K (.v (vb (bS a b))) []⟩
theorem Ag:Fk 14 PE:=by
 refine fo Tryz.f14 [.d .bool] [] (aa PD aq) fun xs es K=>?_;rintro⟨a,b,rfl,rfl,h⟩;refine⟨rfl,?_⟩;have hf0:=bS.eq_1 a b;refine⟨_,fun _=>⟨_,_,rfl,rfl,rfl,rfl⟩,rfl,?_⟩;exact e0
def na(x:Int):Bool:=
 decide ¬x=x
def MC:bG U:=⟨[.d (.int .i64)],fun xs es K=> ∃(x:Int),xs= [(vi x)]∧es= []∧K (.v (vb (na x))) []⟩
theorem MD:Fk 177 MC:=by
 refine fo Tryz.f177 [.d .bool] [] (aq) fun xs es K=>?_;rintro⟨x,rfl,rfl,h⟩;refine⟨rfl,?_⟩;have hf0:=na.eq_1 x;exact e0
def nc(x:Int):Bool:=
 decide ¬x=x
def ME:bG U:=⟨[.d (.int .u32)],fun xs es K=> ∃(x:Int),xs= [(vw x)]∧es= []∧K (.v (vb (nc x))) []⟩
theorem MF:Fk 178 ME:=by
 refine fo Tryz.f178 [.d .bool] [] (aq) fun xs es K=>?_;rintro⟨x,rfl,rfl,h⟩;refine⟨rfl,?_⟩;have hf0:=nc.eq_1 x;exact e0
def ng(x:Int):Bool:=
 decide ¬x=x
def MG:bG U:=⟨[.d (.int .i64)],fun xs es K=> ∃(x:Int),xs= [(vi x)]∧es= []∧K (.v (vb (ng x))) []⟩
theorem MH:Fk 163 MG:=by
 refine fo Tryz.f163 [.d .bool] [] (aq) fun xs es K=>?_;rintro⟨x,rfl,rfl,h⟩;refine⟨rfl,?_⟩;have hf0:=ng.eq_1 x;exact e0
def ni(x:List UInt8):Bool:=
 decide ¬x=x
def MI:bG U:=⟨[.d .str],fun xs es K=> ∃(x:List UInt8),xs= [(vt x)]∧es= []∧K (.v (vb (ni x))) []⟩
theorem MJ:Fk 117 MI:=by
 refine fo Tryz.f117 [.d .bool] [] (aq) fun xs es K=>?_;rintro⟨x,rfl,rfl,h⟩;refine⟨rfl,?_⟩;have hf0:=ni.eq_1 x;exact e0
def lr(x:Int)(y:Int):Int:=
 if na x=true then
  if na y=true then
   0
  else
   (-1)
 else
  if na y=true then
   1
  else
   if x<y then
    (-1)
   else
    if y<x then
     1
    else
     0
def MK:bG U:=⟨[.d (.int .i64),.d (.int .i64)],fun xs es K=> ∃(x:Int) (y:Int),xs= [(vi x),(vi y)]∧es= []∧K (.v (vi (lr x y))) []⟩
theorem Hj:Fk 129 MK:=by
 refine fo Tryz.f129 [.d (.int .i64)] [] (aa MD aq) fun xs es K=>?_;rintro⟨x,y,rfl,rfl,h⟩;refine⟨rfl,?_⟩;have hf0:=lr.eq_1 x y;refine⟨_,rfl,rfl,?_⟩;refine⟨_,rfl,rfl,?_⟩;exact wI hf0 (fun _ hf0=>wI hf0 (fun _ hf0=>e0) fun _ hf0=>e0) fun _ hf0=>wI hf0 (fun _ hf0=>e0) fun _ hf0=>wI hf0 (fun _ hf0=>e0) fun _ hf0=>wI hf0 (fun _ hf0=>e0) fun _ hf0=>e0
def nj(x:Int)(y:Int):Int:=
 if nc x=true then
  if nc y=true then
   0
  else
   (-1)
 else
  if nc y=true then
   1
  else
   if x<y then
    (-1)
   else
    if y<x then
     1
    else
     0
def ML:bG U:=⟨[.d (.int .u32),.d (.int .u32)],fun xs es K=> ∃(x:Int) (y:Int),xs= [(vw x),(vw y)]∧es= []∧K (.v (vi (nj x y))) []⟩
theorem Jv:Fk 130 ML:=by
 refine fo Tryz.f130 [.d (.int .i64)] [] (aa MF aq) fun xs es K=>?_;rintro⟨x,y,rfl,rfl,h⟩;refine⟨rfl,?_⟩;have hf0:=nj.eq_1 x y;refine⟨_,rfl,rfl,?_⟩;refine⟨_,rfl,rfl,?_⟩;exact wI hf0 (fun _ hf0=>wI hf0 (fun _ hf0=>e0) fun _ hf0=>e0) fun _ hf0=>wI hf0 (fun _ hf0=>e0) fun _ hf0=>wI hf0 (fun _ hf0=>e0) fun _ hf0=>wI hf0 (fun _ hf0=>e0) fun _ hf0=>e0
def ls(x:Int)(y:Int):Int:=
 if ng x=true then
  if ng y=true then
   0
  else
   (-1)
 else
  if ng y=true then
   1
  else
   if x<y then
    (-1)
   else
    if y<x then
     1
    else
     0
def MM:bG U:=⟨[.d (.int .i64),.d (.int .i64)],fun xs es K=> ∃(x:Int) (y:Int),xs= [(vi x),(vi y)]∧es= []∧K (.v (vi (ls x y))) []⟩
theorem Jw:Fk 114 MM:=by
 refine fo Tryz.f114 [.d (.int .i64)] [] (aa MH aq) fun xs es K=>?_;rintro⟨x,y,rfl,rfl,h⟩;refine⟨rfl,?_⟩;have hf0:=ls.eq_1 x y;refine⟨_,rfl,rfl,?_⟩;refine⟨_,rfl,rfl,?_⟩;exact wI hf0 (fun _ hf0=>wI hf0 (fun _ hf0=>e0) fun _ hf0=>e0) fun _ hf0=>wI hf0 (fun _ hf0=>e0) fun _ hf0=>wI hf0 (fun _ hf0=>e0) fun _ hf0=>wI hf0 (fun _ hf0=>e0) fun _ hf0=>e0
def nk(x:List UInt8)(y:List UInt8):Int:=
 if ni x=true then
  if ni y=true then
   0
  else
   (-1)
 else
  if ni y=true then
   1
  else
   if x<y then
    (-1)
   else
    if y<x then
     1
    else
     0
def PF:bG U:=⟨[.d .str,.d .str],fun xs es K=> ∃(x:List UInt8) (y:List UInt8),xs= [(vt x),(vt y)]∧es= []∧K (.v (vi (nk x y))) []⟩
theorem OZ:Fk 48 PF:=by
 refine fo Tryz.f48 [.d (.int .i64)] [] (aa MJ aq) fun xs es K=>?_;rintro⟨x,y,rfl,rfl,h⟩;refine⟨rfl,?_⟩;have hf0:=nk.eq_1 x y;refine⟨_,rfl,rfl,?_⟩;refine⟨_,rfl,rfl,?_⟩;exact wI hf0 (fun _ hf0=>wI hf0 (fun _ hf0=>e0) fun _ hf0=>e0) fun _ hf0=>wI hf0 (fun _ hf0=>e0) fun _ hf0=>wI hf0 (fun _ hf0=>e0) fun _ hf0=>wI hf0 (fun _ hf0=>e0) fun _ hf0=>e0
def fA(l:List Int):Nat→Int→Int⊕(Int)
 |0,s8=> .inr s8
 |n1+1,s8=>
  if s8<(l.length:Int)then
   if ix l s8=0 then
    fA l n1 (s8+1)
   else
    .inl (ix l s8)
  else
   .inr s8
def fY(l:List Int):Int:=
 match fA l (((l.length:Int)- 0).toNat+1) 0 with
 | .inl r=>r
 | .inr s8=>
  0
def MN:bG U:=⟨[.d (.sl (.int .i64))],fun xs es K=> ∃(l:List Int),xs= [(IR l)]∧es= []∧K (.v (vi (fY l))) []⟩
theorem Ah:Fk 128 MN:=by
 refine fo Tryz.f128 [.d (.int .i64)] [] (aq) fun xs es K=>?_;rintro⟨l,rfl,rfl,h⟩;refine⟨rfl,?_⟩;have hf0:=fY.eq_1 l;refine fl (x:=l.length) fun _=>?_;refine lI 0 (fun(s8:Int)=> [(2,.v (vi 0)),(3,.v (vi 0)),(6,.v (IR l)),(7,.v (vi (l.length:Int))),(8,.v (vi s8))]) (fun(s8:Int)=> []) (fun(s8:Int)=>((l.length:Int)- s8).toNat) (fun(s8:Int)=>(0≤s8)∧(s8≤(l.length:Int))∧True) (fun n1 (s8:Int)=>fA l n1 s8) (fA l (((l.length:Int)- 0).toNat+1) 0) [] (0:Int) ?_;rintro s8 ⟨n1,hc1,⟨hi1_0,hi1_1,-⟩,hf1⟩;have hf1:=hf1.trans (fA.eq_2 l s8 n1);refine wI hf1 (fun _ hf1=>?_) fun _ hf1=>e1;refine vx s8 l ?_;refine wN hf1 (fun _ hf1=>e1) fun _ hf1=>?_;refine bE ?_;exact nx [] (s8+1) hc1 hf1
def gX(l:List Int):Nat→Int→Int⊕(Int)
 |0,s8=> .inr s8
 |n1+1,s8=>
  if s8<(l.length:Int)then
   if ix l s8=0 then
    gX l n1 (s8+1)
   else
    .inl (ix l s8)
  else
   .inr s8
def jd(l:List Int):Int:=
 match gX l (((l.length:Int)- 0).toNat+1) 0 with
 | .inl r=>r
 | .inr s8=>
  0
def PG:bG U:=⟨[.d (.sl (.int .i64))],fun xs es K=> ∃(l:List Int),xs= [(IR l)]∧es= []∧K (.v (vi (jd l))) []⟩
theorem PH:Fk 81 PG:=by
 refine fo Tryz.f81 [.d (.int .i64)] [] (aq) fun xs es K=>?_;rintro⟨l,rfl,rfl,h⟩;refine⟨rfl,?_⟩;have hf0:=jd.eq_1 l;refine fl (x:=l.length) fun _=>?_;refine lI 0 (fun(s8:Int)=> [(2,.v (vi 0)),(3,.v (vi 0)),(6,.v (IR l)),(7,.v (vi (l.length:Int))),(8,.v (vi s8))]) (fun(s8:Int)=> []) (fun(s8:Int)=>((l.length:Int)- s8).toNat) (fun(s8:Int)=>(0≤s8)∧(s8≤(l.length:Int))∧True) (fun n1 (s8:Int)=>gX l n1 s8) (gX l (((l.length:Int)- 0).toNat+1) 0) [] (0:Int) ?_;rintro s8 ⟨n1,hc1,⟨hi1_0,hi1_1,-⟩,hf1⟩;have hf1:=hf1.trans (gX.eq_2 l s8 n1);refine wI hf1 (fun _ hf1=>?_) fun _ hf1=>e1;refine vx s8 l ?_;refine wN hf1 (fun _ hf1=>e1) fun _ hf1=>?_;refine bE ?_;exact nx [] (s8+1) hc1 hf1
def gm(id:bF):Int:=
 if(((id.origin<0)∨(8≤id.origin))∨(id.seq=0))∨(1048576<id.seq)then
  2
 else
  0
def MO:bG U:=⟨[.d (.st 0)],fun xs es K=> ∃(id:bF),xs= [(F6 id)]∧es= []∧K (.v (vi (gm id))) []⟩
theorem Jx:Fk 123 MO:=by
 refine fo Tryz.f123 [.d (.int .i64)] [] (aq) fun xs es K=>?_;rintro⟨id,rfl,rfl,h⟩;refine⟨rfl,?_⟩;have hf0:=gm.eq_1 id;exact wI hf0 (fun _ hf0=>e0) fun _ hf0=>e0
def aW(t:am):Int:=
 if(t.n<0)∨(16≤t.n)then
  2
 else
  gm t.id
def PI:bG U:=⟨[.d (.st 4)],fun xs es K=> ∃(t:am),xs= [(yA t)]∧es= []∧K (.v (vi (aW t))) []⟩
theorem MP:Fk 71 PI:=by
 refine fo Tryz.f71 [.d (.int .i64)] [] (aa Jx aq) fun xs es K=>?_;rintro⟨t,rfl,rfl,h⟩;refine⟨rfl,?_⟩;have hf0:=aW.eq_1 t;refine wI hf0 (fun _ hf0=>e0) fun _ hf0=>?_;refine⟨_,rfl,rfl,?_⟩;exact e0
def fN(a:bF)(b:bF):Int:=
 fY [lr a.origin b.origin,nj a.seq b.seq]
def PJ:bG U:=⟨[.d (.st 0),.d (.st 0)],fun xs es K=> ∃(a:bF) (b:bF),xs= [(F6 a),(F6 b)]∧es= []∧K (.v (vi (fN a b))) []⟩
theorem PK:Fk 61 PJ:=by
 refine fo Tryz.f61 [.d (.int .i64)] [] (aa Ah (aa Hj (aa Jv aq))) fun xs es K=>?_;rintro⟨a,b,rfl,rfl,h⟩;refine⟨rfl,?_⟩;have hf0:=fN.eq_1 a b;refine dp [(true,0),(true,1),(true,2),(true,3),(true,5),(true,6),(true,7),(true,8),(false,4),(false,9),(false,10),(false,11),(true,12)] none (nw 2) ?_;refine⟨_,_,rfl,rfl,?_⟩;refine⟨_,_,rfl,rfl,?_⟩;refine⟨_,rfl,rfl,?_⟩;exact e0
def ak(a:am)(b:am):Int:=
 fY [fN a.id b.id,lr a.n b.n]
def PL:bG U:=⟨[.d (.st 4),.d (.st 4)],fun xs es K=> ∃(a:am) (b:am),xs= [(yA a),(yA b)]∧es= []∧K (.v (vi (ak a b))) []⟩
theorem Ai:Fk 77 PL:=by
 refine fo Tryz.f77 [.d (.int .i64)] [] (aa PK (aa Ah (aa Hj aq))) fun xs es K=>?_;rintro⟨a,b,rfl,rfl,h⟩;refine⟨rfl,?_⟩;have hf0:=ak.eq_1 a b;refine dp [(true,0),(true,1),(true,2),(true,3),(true,5),(true,6),(true,7),(true,8),(false,4),(false,9),(false,10),(false,11),(true,12)] none (nw 2) ?_;refine⟨_,_,rfl,rfl,?_⟩;refine⟨_,_,rfl,rfl,?_⟩;refine⟨_,rfl,rfl,?_⟩;exact e0
def oZ(origin:Int):Bool:=
 decide (0≤origin)&&decide (origin<8)
def MQ:bG U:=⟨[.d (.int .i64)],fun xs es K=> ∃(origin:Int),xs= [(vi origin)]∧es= []∧K (.v (vb (oZ origin))) []⟩
theorem MR:Fk 141 MQ:=by
 refine fo Tryz.f141 [.d .bool] [] (aq) fun xs es K=>?_;rintro⟨origin,rfl,rfl,h⟩;refine⟨rfl,?_⟩;have hf0:=oZ.eq_1 origin;exact e0
def dA(s:aj):Int:=
 if(1048576<s.time)∨(¬(oZ s.origin=true))then
  2
 else
  0
def PM:bG U:=⟨[.d (.st 2)],fun xs es K=> ∃(s:aj),xs= [(IS s)]∧es= []∧K (.v (vi (dA s))) []⟩
theorem MS:Fk 72 PM:=by
 refine fo Tryz.f72 [.d (.int .i64)] [] (aa MR aq) fun xs es K=>?_;rintro⟨s,rfl,rfl,h⟩;refine⟨rfl,?_⟩;have hf0:=dA.eq_1 s;refine⟨_,fun _=>⟨_,rfl,rfl,rfl,rfl⟩,rfl,?_⟩;exact wI hf0 (fun _ hf0=>e0) fun _ hf0=>e0
def bX(a:aj)(b:aj):Int:=
 fY [nj a.time b.time,lr a.origin b.origin]
def MT:bG U:=⟨[.d (.st 2),.d (.st 2)],fun xs es K=> ∃(a:aj) (b:aj),xs= [(IS a),(IS b)]∧es= []∧K (.v (vi (bX a b))) []⟩
theorem Hl:Fk 113 MT:=by
 refine fo Tryz.f113 [.d (.int .i64)] [] (aa Ah (aa Hj (aa Jv aq))) fun xs es K=>?_;rintro⟨a,b,rfl,rfl,h⟩;refine⟨rfl,?_⟩;have hf0:=bX.eq_1 a b;refine dp [(true,0),(true,1),(true,2),(true,3),(true,5),(true,6),(true,7),(true,8),(false,4),(false,9),(false,10),(false,11),(true,12)] none (nw 2) ?_;refine⟨_,_,rfl,rfl,?_⟩;refine⟨_,_,rfl,rfl,?_⟩;refine⟨_,rfl,rfl,?_⟩;exact e0
def fB(s:List UInt8):Bool:=
 decide ¬s= []&&decide ((s.length:Int)≤12)
def PN:bG U:=⟨[.d .str],fun xs es K=> ∃(s:List UInt8),xs= [(vt s)]∧es= []∧K (.v (vb (fB s))) []⟩
theorem MU:Fk 70 PN:=by
 refine fo Tryz.f70 [.d .bool] [] (aq) fun xs es K=>?_;rintro⟨s,rfl,rfl,h⟩;refine⟨rfl,?_⟩;have hf0:=fB.eq_1 s;exact e0
def cZ(t:am):Bool:=
 decide ¬aW t=0
def PO:bG U:=⟨[.d (.st 4)],fun xs es K=> ∃(t:am),xs= [(yA t)]∧es= []∧K (.v (vb (cZ t))) []⟩
theorem LY:Fk 85 PO:=by
 refine fo Tryz.f85 [.d .bool] [] (aa MP aq) fun xs es K=>?_;rintro⟨t,rfl,rfl,h⟩;refine⟨rfl,?_⟩;have hf0:=cZ.eq_1 t;refine⟨_,rfl,rfl,?_⟩;exact e0
def dB(a:bD)(t:am):Int:=
 ak a.tag t
def PP:bG U:=⟨[.d (.st 10),.d (.st 4)],fun xs es K=> ∃(a:bD) (t:am),xs= [(vP a),(yA t)]∧es= []∧K (.v (vi (dB a t))) []⟩
theorem O0:Fk 87 PP:=by
 refine fo Tryz.f87 [.d (.int .i64)] [] (aa Ai aq) fun xs es K=>?_;rintro⟨a,t,rfl,rfl,h⟩;refine⟨rfl,?_⟩;have hf0:=dB.eq_1 a t;refine⟨_,_,rfl,rfl,?_⟩;exact e0
def cc(l:List am)(f:am→Bool):Bool:=
 decide (0≤m7 l f)
def PQ:bG U:=⟨[.d (.sl (.st 4)),.f1 (.st 4)],fun xs es K=> ∃(l:List am) (f:am→Bool),xs= [(nV l),⟨false,[(1,.f1 (.st 4) f)]⟩]∧es= []∧K (.v (vb (cc l f))) []⟩
theorem Jy:Fk 76 PQ:=by
 refine fo Tryz.f76 [.d .bool] [] (aa NY aq) fun xs es K=>?_;rintro⟨l,f,rfl,rfl,h⟩;refine⟨rfl,?_⟩;have hf0:=cc.eq_1 l f;refine⟨_,_,rfl,rfl,?_⟩;exact e0
def eR(l:List bD)(f:bD→Bool):Bool:=
 decide (0≤m7 l f)
def MV:bG U:=⟨[.d (.sl (.st 10)),.f1 (.st 10)],fun xs es K=> ∃(l:List bD) (f:bD→Bool),xs= [(qR l),⟨false,[(1,.f1 (.st 10) f)]⟩]∧es= []∧K (.v (vb (eR l f))) []⟩
theorem MW:Fk 142 MV:=by
 refine fo Tryz.f142 [.d .bool] [] (aa N0 aq) fun xs es K=>?_;rintro⟨l,f,rfl,rfl,h⟩;refine⟨rfl,?_⟩;have hf0:=eR.eq_1 l f;refine⟨_,_,rfl,rfl,?_⟩;exact e0
def gp(x:List am)(target:am)(c:am→am→Int):Nat→Int→Int→(Int×Bool)⊕(Int×Int)
 |0,s9,s10=> .inr (s9,s10)
 |n1+1,s9,s10=>
  if s9<s10 then
   if c (ix x ((s9+s10)/2)) target<0 then
    gp x target c n1 ((s9+s10)/(2:Int)+(1:Int)) s10
   else
    gp x target c n1 s9 ((s9+s10)/2)
  else
   .inr (s9,s10)
def cT(x:List am)(target:am)(c:am→am→Int):Int×Bool:=
 match gp x target c (((x.length:Int)- 0).toNat+1) 0 (x.length:Int)with
 | .inl r=>r
 | .inr (s9,s10)=>
  (s9,decide (s9<(x.length:Int))&&decide (c (ix x s9) target=0))
def PR:bG U:=⟨[.d (.sl (.st 4)),.d (.st 4),.f2 (.st 4) (.st 4)],fun xs es K=> ∃(x:List am) (target:am) (c:am→am→Int),xs= [(nV x),(yA target),⟨false,[(1,.f2 (.st 4) (.st 4) c)]⟩]∧es= []∧(x.length≤1000000)∧K (.tup [(vi ((cT x target c).1)),(vb ((cT x target c).2))]) []⟩
theorem MX:Fk 98 PR:=by
 refine fo Tryz.f98 [.d (.int .i64),.d .bool] [] (aq) fun xs es K=>?_;rintro⟨x,target,c,rfl,rfl,hx,h⟩;refine⟨rfl,?_⟩;have hf0:=cT.eq_1 x target c;refine fun h0=>?_;have h0:(↑x.length:Int)≤(9223372036854775807:Int):=h0.2;refine⟨Int×Int,1,fun(s9,s10)=> [(0,.v ⟨false,[(1,.d (.sl (.st 4)) x)]⟩),(2,.v ⟨false,[(1,Cx.f2 (bq.st (4:Nat)) (bq.st (4:Nat)) c)]⟩),(4,.v ⟨false,[(1,.ptr 0 0)]⟩),(6,.v ⟨false,[(1,.d (.int .i64) (0:Int))]⟩),(7,.v ⟨false,[(1,.d .bool false)]⟩),(8,.v ⟨false,[(1,.d (.int .i64) (↑x.length:Int))]⟩),(9,.v ⟨false,[(1,.d (.int .i64) s9)]⟩),(10,.v ⟨false,[(1,.d (.int .i64) s10)]⟩)],fun(s9,s10)=> [(0,.cells [(3,.d (.st 4) target)] 61)],cY (fun(s9,s10)=>(s10 - s9).toNat) (fun(s9,s10)=>(0≤s9)∧(s9≤s10)∧(s10≤(x.length:Int))∧True) (fun n1 (s9,s10)=>gp x target c n1 s9 s10) (gp x target c (((↑x.length:Int)-(0:Int)).toNat+1) (0:Int) (↑x.length:Int)),fun(s9,s10)=>(s10 - s9).toNat,⟨[],((0:Int),(↑x.length:Int)),cY.mk0 _ (Nat.lt_succ_self _) ⟨show(0:Int)≤(0:Int)from by omega,show(0:Int)≤(↑x.length:Int)from by omega,show(↑x.length:Int)≤(↑x.length:Int)from by omega,trivial⟩ rfl,?_⟩,?_⟩
 ·repeat (first|exact trivial|refine And.intro rfl ?_)
 ·rintro⟨s9,s10⟩ ⟨n1,hc1,⟨hi1_0,hi1_1,hi1_2,-⟩,hf1⟩;have hf1:=hf1.trans (gp.eq_2 x target c s9 s10 n1);refine vI hf1 iD (fun _ hf1=>?_) (fun _ hf1=>?_)
  ·refine .inl (And.intro (qU (p:=s9) (q:=s10) (r:=s9+s10) (by omega)) ?_);refine .inl (And.intro (fun(h2:(-9223372036854775808:Int)≤s9+s10∧s9+s10≤(9223372036854775807:Int))=>(show(0:Int)≤s9+s10∧s9+s10≤(18446744073709551615:Int)from by omega)) ?_);refine And.intro (show(0:Int)≤(1:Int)∧(1:Int)≤(18446744073709551615:Int)→(0:Int)≤(1:Int)from by omega) ?_;refine .inl (And.intro (fun(h3:(0:Int)≤(s9+s10)/(2:Int)∧(s9+s10)/(2:Int)≤(18446744073709551615:Int))=>(show(-9223372036854775808:Int)≤(s9+s10)/(2:Int)∧(s9+s10)/(2:Int)≤(9223372036854775807:Int)from by omega)) ?_);refine .inl ⟨[(true,0),(true,1),(true,2),(true,3),(true,4),(true,5),(false,6),(true,7)],none,[1,2,3,4,5,6,7,8,9,10,11,12],by kernel_rfl,?_⟩;refine And.intro (show(0:Int)≤(s9+s10)/(2:Int)∧(s9+s10)/(2:Int)<(↑x.length:Int)from by omega) ?_;refine vI hf1 iD (fun _ hf1=>?_) (fun _ hf1=>?_)
   ·refine .inl (And.intro (qU (p:=(s9+s10)/(2:Int)) (q:=(1:Int)) (r:=(s9+s10)/(2:Int)+(1:Int)) (by omega)) ?_);have hm1:(s10 -((s9+s10)/(2:Int)+(1:Int))).toNat<(s10 - s9).toNat:=by omega
    refine⟨[],((s9+s10)/(2:Int)+(1:Int),s10),hm1,cY.next (s:=(s9,s10)) hc1 hm1 ⟨show(0:Int)≤(s9+s10)/(2:Int)+(1:Int)from by omega,show(s9+s10)/(2:Int)+(1:Int)≤s10 from by omega,show s10≤(↑x.length:Int)from by omega,trivial⟩ hf1,?_⟩;repeat (first|exact trivial|refine And.intro rfl ?_)
   ·have hm1:((s9+s10)/(2:Int)- s9).toNat<(s10 - s9).toNat:=by omega
    refine⟨[],(s9,(s9+s10)/(2:Int)),hm1,cY.next (s:=(s9,s10)) hc1 hm1 ⟨show(0:Int)≤s9 from by omega,show s9≤(s9+s10)/(2:Int)from by omega,show(s9+s10)/(2:Int)≤(↑x.length:Int)from by omega,trivial⟩ hf1,?_⟩;repeat (first|exact trivial|refine And.intro rfl ?_)
  ·rw[hf1]at hf0;refine .inl ⟨[(true,0),(true,1),(true,2),(true,3),(true,4),(true,5),(true,6),(true,7),(true,8),(true,9),(true,10),(false,11),(true,12),(true,13),(true,14),(true,15)],none,[1,2,3,4,5,6,7,8,9,10,11,12],by kernel_rfl,?_⟩;refine And.intro (show decide (s9<(↑x.length:Int))=((39:Nat),true).snd→(0:Int)≤s9∧s9<(↑x.length:Int)from by(intro h;simp at h;omega)) ?_;rw[hf0]at h;exact h
def gq(x:List bD)(target:am)(c:bD→am→Int):Nat→Int→Int→(Int×Bool)⊕(Int×Int)
 |0,s9,s10=> .inr (s9,s10)
 |n1+1,s9,s10=>
  if s9<s10 then
   if c (ix x ((s9+s10)/2)) target<0 then
    gq x target c n1 ((s9+s10)/(2:Int)+(1:Int)) s10
   else
    gq x target c n1 s9 ((s9+s10)/2)
  else
   .inr (s9,s10)
def eJ(x:List bD)(target:am)(c:bD→am→Int):Int×Bool:=
 match gq x target c (((x.length:Int)- 0).toNat+1) 0 (x.length:Int)with
 | .inl r=>r
 | .inr (s9,s10)=>
  (s9,decide (s9<(x.length:Int))&&decide (c (ix x s9) target=0))
def PS:bG U:=⟨[.d (.sl (.st 10)),.d (.st 4),.f2 (.st 10) (.st 4)],fun xs es K=> ∃(x:List bD) (target:am) (c:bD→am→Int),xs= [(qR x),(yA target),⟨false,[(1,.f2 (.st 10) (.st 4) c)]⟩]∧es= []∧(x.length≤1000000)∧K (.tup [(vi ((eJ x target c).1)),(vb ((eJ x target c).2))]) []⟩
theorem PT:Fk 86 PS:=by
 refine fo Tryz.f86 [.d (.int .i64),.d .bool] [] (aq) fun xs es K=>?_;rintro⟨x,target,c,rfl,rfl,hx,h⟩;refine⟨rfl,?_⟩;have hf0:=eJ.eq_1 x target c;refine fun h0=>?_;have h0:(↑x.length:Int)≤(9223372036854775807:Int):=h0.2;refine⟨Int×Int,1,fun(s9,s10)=> [(0,.v ⟨false,[(1,.d (.sl (.st 10)) x)]⟩),(2,.v ⟨false,[(1,Cx.f2 (bq.st (10:Nat)) (bq.st (4:Nat)) c)]⟩),(4,.v ⟨false,[(1,.ptr 0 0)]⟩),(6,.v ⟨false,[(1,.d (.int .i64) (0:Int))]⟩),(7,.v ⟨false,[(1,.d .bool false)]⟩),(8,.v ⟨false,[(1,.d (.int .i64) (↑x.length:Int))]⟩),(9,.v ⟨false,[(1,.d (.int .i64) s9)]⟩),(10,.v ⟨false,[(1,.d (.int .i64) s10)]⟩)],fun(s9,s10)=> [(0,.cells [(3,.d (.st 4) target)] 61)],cY (fun(s9,s10)=>(s10 - s9).toNat) (fun(s9,s10)=>(0≤s9)∧(s9≤s10)∧(s10≤(x.length:Int))∧True) (fun n1 (s9,s10)=>gq x target c n1 s9 s10) (gq x target c (((↑x.length:Int)-(0:Int)).toNat+1) (0:Int) (↑x.length:Int)),fun(s9,s10)=>(s10 - s9).toNat,⟨[],((0:Int),(↑x.length:Int)),cY.mk0 _ (Nat.lt_succ_self _) ⟨show(0:Int)≤(0:Int)from by omega,show(0:Int)≤(↑x.length:Int)from by omega,show(↑x.length:Int)≤(↑x.length:Int)from by omega,trivial⟩ rfl,?_⟩,?_⟩
 ·repeat (first|exact trivial|refine And.intro rfl ?_)
 ·rintro⟨s9,s10⟩ ⟨n1,hc1,⟨hi1_0,hi1_1,hi1_2,-⟩,hf1⟩;have hf1:=hf1.trans (gq.eq_2 x target c s9 s10 n1);refine vI hf1 iD (fun _ hf1=>?_) (fun _ hf1=>?_)
  ·refine .inl (And.intro (qU (p:=s9) (q:=s10) (r:=s9+s10) (by omega)) ?_);refine .inl (And.intro (fun(h2:(-9223372036854775808:Int)≤s9+s10∧s9+s10≤(9223372036854775807:Int))=>(show(0:Int)≤s9+s10∧s9+s10≤(18446744073709551615:Int)from by omega)) ?_);refine And.intro (show(0:Int)≤(1:Int)∧(1:Int)≤(18446744073709551615:Int)→(0:Int)≤(1:Int)from by omega) ?_;refine .inl (And.intro (fun(h3:(0:Int)≤(s9+s10)/(2:Int)∧(s9+s10)/(2:Int)≤(18446744073709551615:Int))=>(show(-9223372036854775808:Int)≤(s9+s10)/(2:Int)∧(s9+s10)/(2:Int)≤(9223372036854775807:Int)from by omega)) ?_);refine .inl ⟨[(true,0),(true,1),(true,2),(true,3),(true,4),(true,5),(false,6),(true,7)],none,[1,2,3,4,5,6,7,8,9,10,11,12],by kernel_rfl,?_⟩;refine And.intro (show(0:Int)≤(s9+s10)/(2:Int)∧(s9+s10)/(2:Int)<(↑x.length:Int)from by omega) ?_;refine vI hf1 iD (fun _ hf1=>?_) (fun _ hf1=>?_)
   ·refine .inl (And.intro (qU (p:=(s9+s10)/(2:Int)) (q:=(1:Int)) (r:=(s9+s10)/(2:Int)+(1:Int)) (by omega)) ?_);have hm1:(s10 -((s9+s10)/(2:Int)+(1:Int))).toNat<(s10 - s9).toNat:=by omega
    refine⟨[],((s9+s10)/(2:Int)+(1:Int),s10),hm1,cY.next (s:=(s9,s10)) hc1 hm1 ⟨show(0:Int)≤(s9+s10)/(2:Int)+(1:Int)from by omega,show(s9+s10)/(2:Int)+(1:Int)≤s10 from by omega,show s10≤(↑x.length:Int)from by omega,trivial⟩ hf1,?_⟩;repeat (first|exact trivial|refine And.intro rfl ?_)
   ·have hm1:((s9+s10)/(2:Int)- s9).toNat<(s10 - s9).toNat:=by omega
    refine⟨[],(s9,(s9+s10)/(2:Int)),hm1,cY.next (s:=(s9,s10)) hc1 hm1 ⟨show(0:Int)≤s9 from by omega,show s9≤(s9+s10)/(2:Int)from by omega,show(s9+s10)/(2:Int)≤(↑x.length:Int)from by omega,trivial⟩ hf1,?_⟩;repeat (first|exact trivial|refine And.intro rfl ?_)
  ·rw[hf1]at hf0;refine .inl ⟨[(true,0),(true,1),(true,2),(true,3),(true,4),(true,5),(true,6),(true,7),(true,8),(true,9),(true,10),(false,11),(true,12),(true,13),(true,14),(true,15)],none,[1,2,3,4,5,6,7,8,9,10,11,12],by kernel_rfl,?_⟩;refine And.intro (show decide (s9<(↑x.length:Int))=((39:Nat),true).snd→(0:Int)≤s9∧s9<(↑x.length:Int)from by(intro h;simp at h;omega)) ?_;rw[hf0]at h;exact h
def dW(l:List bD)(c:bD→bD→Int):Nat→Int→Bool⊕(Int)
 |0,s5=> .inr s5
 |n1+1,s5=>
  if s5<(l.length:Int)then
   if 0≤c (ix l (s5 - 1)) (ix l s5)then
    .inl false
   else
    dW l c n1 (s5+1)
  else
   .inr s5
def fq(l:List bD)(c:bD→bD→Int):Bool:=
 match dW l c (((l.length:Int)- 1).toNat+1) 1 with
 | .inl r=>r
 | .inr s5=>
  true
def MY:bG U:=⟨[.d (.sl (.st 10)),.f2 (.st 10) (.st 10)],fun xs es K=> ∃(l:List bD) (c:bD→bD→Int),xs= [(qR l),⟨false,[(1,.f2 (.st 10) (.st 10) c)]⟩]∧es= []∧K (.v (vb (fq l c))) []⟩
theorem MZ:Fk 144 MY:=by
 refine fo Tryz.f144 [.d .bool] [] (aq) fun xs es K=>?_;rintro⟨l,c,rfl,rfl,h⟩;refine⟨rfl,?_⟩;have hf0:=fq.eq_1 l c;refine lI 0 (fun(s5:Int)=> [(0,.v (qR l)),(1,.v ⟨false,[(1,Cx.f2 (bq.st (10:Nat)) (bq.st (10:Nat)) c)]⟩),(4,.v (vb false)),(5,.v (vi s5))]) (fun(s5:Int)=> []) (fun(s5:Int)=>((l.length:Int)- s5).toNat) (fun(s5:Int)=>(1≤s5)∧True) (fun n1 (s5:Int)=>dW l c n1 s5) (dW l c (((l.length:Int)- 1).toNat+1) 1) [] (1:Int) ?_;rintro s5 ⟨n1,hc1,⟨hi1_0,-⟩,hf1⟩;have hf1:=hf1.trans (dW.eq_2 l c s5 n1);refine fl (x:=l.length) fun _=>?_;refine wI hf1 (fun _ hf1=>?_) fun _ hf1=>e1;refine dp [(true,0),(true,1),(true,2),(true,3),(true,4),(true,5),(true,6),(true,7),(true,8),(true,9),(false,10),(true,11)] none (nw 0) ?_;refine bE ?_;refine vx (s5 - 1) l ?_;refine vx s5 l ?_;refine wI hf1 (fun _ hf1=>e1) fun _ hf1=>?_;refine bE ?_;exact nx [] (s5+1) hc1 hf1
def cU(l:List am)(c:am→am→Int):Nat→Int→Bool⊕(Int)
 |0,s5=> .inr s5
 |n1+1,s5=>
  if s5<(l.length:Int)then
   if 0≤c (ix l (s5 - 1)) (ix l s5)then
    .inl false
   else
    cU l c n1 (s5+1)
  else
   .inr s5
def dP(l:List am)(c:am→am→Int):Bool:=
 match cU l c (((l.length:Int)- 1).toNat+1) 1 with
 | .inl r=>r
 | .inr s5=>
  true
def M4:bG U:=⟨[.d (.sl (.st 4)),.f2 (.st 4) (.st 4)],fun xs es K=> ∃(l:List am) (c:am→am→Int),xs= [(nV l),⟨false,[(1,.f2 (.st 4) (.st 4) c)]⟩]∧es= []∧K (.v (vb (dP l c))) []⟩
theorem M7:Fk 146 M4:=by
 refine fo Tryz.f146 [.d .bool] [] (aq) fun xs es K=>?_;rintro⟨l,c,rfl,rfl,h⟩;refine⟨rfl,?_⟩;have hf0:=dP.eq_1 l c;refine lI 0 (fun(s5:Int)=> [(0,.v (nV l)),(1,.v ⟨false,[(1,Cx.f2 (bq.st (4:Nat)) (bq.st (4:Nat)) c)]⟩),(4,.v (vb false)),(5,.v (vi s5))]) (fun(s5:Int)=> []) (fun(s5:Int)=>((l.length:Int)- s5).toNat) (fun(s5:Int)=>(1≤s5)∧True) (fun n1 (s5:Int)=>cU l c n1 s5) (cU l c (((l.length:Int)- 1).toNat+1) 1) [] (1:Int) ?_;rintro s5 ⟨n1,hc1,⟨hi1_0,-⟩,hf1⟩;have hf1:=hf1.trans (cU.eq_2 l c s5 n1);refine fl (x:=l.length) fun _=>?_;refine wI hf1 (fun _ hf1=>?_) fun _ hf1=>e1;refine dp [(true,0),(true,1),(true,2),(true,3),(true,4),(true,5),(true,6),(true,7),(true,8),(true,9),(false,10),(true,11)] none (nw 0) ?_;refine bE ?_;refine vx (s5 - 1) l ?_;refine vx s5 l ?_;refine wI hf1 (fun _ hf1=>e1) fun _ hf1=>?_;refine bE ?_;exact nx [] (s5+1) hc1 hf1
end Go.Proofs.YtmpeiadlohbikaaGreatDoor.V
end

section
set_option linter.unusedVariables false
set_option linter.unusedSimpArgs false
set_option maxRecDepth 20000
set_option maxHeartbeats 4000000
namespace Go.Proofs.YtmpeiadlohbikaaGreatDoor.V
open Go.RowKit
theorem tt{α:Type}(s:List α)(i:Int)(vs:List α):(gT s i vs).length=s.length+vs.length:=by
 unfold gT;simp only[List.length_append,List.length_take,List.length_drop];omega
theorem wK{α R:Type} [Inhabited α](x:List α)(c:α→Int)(L:Nat→Int→Int→R⊕(Int×Int))(h0: ∀i j,L 0 i j= .inr (i,j))(hL: ∀fuel i j,L (fuel+1) i j=if i<j then(if c (ix x ((i+j)/2))<0 then L fuel ((i+j)/2+1) j else L fuel i ((i+j)/2))else .inr (i,j)):
  ∀(fuel:Nat) (i j:Int),0≤i→i≤j→j≤x.length→ ∃q r:Int,L fuel i j= .inr (q,r)∧0≤q∧q≤x.length
 |0,i,j,h1,h2,h3=>⟨i,j,h0 i j,h1,by omega⟩
 |fuel+1,i,j,h1,h2,h3=>by
  rw[hL];split
  ·split
   ·exact wK x c L h0 hL fuel _ _ (by omega) (by omega) h3
   ·exact wK x c L h0 hL fuel _ _ h1 (by omega) (by omega)
  ·exact⟨i,j,rfl,h1,by omega⟩
theorem tu(x:List am)(t:am)(c:am→am→Int):0≤(cT x t c).1∧(cT x t c).1≤x.length:=by
 obtain⟨q,r,h,h1,h2⟩:=wK x (fun a=>c a t) (gp x t c) (fun _ _=>rfl) (fun _ _ _=>rfl) (((x.length:Int)-(0:Int)).toNat+1) 0 x.length (by omega) (by omega) (by omega);unfold cT;rw[h];exact⟨h1,h2⟩
theorem tv(x:List bD)(t:am)(c:bD→am→Int):0≤(eJ x t c).1∧(eJ x t c).1≤x.length:=by
 obtain⟨q,r,h,h1,h2⟩:=wK x (fun a=>c a t) (gq x t c) (fun _ _=>rfl) (fun _ _ _=>rfl) (((x.length:Int)-(0:Int)).toNat+1) 0 x.length (by omega) (by omega) (by omega);unfold eJ;rw[h];exact⟨h1,h2⟩
def kz(s:br)(t:am):Bool:=
 (cT s.gone t fun(t t':am)=>ak t t').snd
def PU:bG U:=⟨[.d (.st 11),.d (.st 4)],fun xs es K=> ∃(s:br) (t:am),xs= [(ur s),(yA t)]∧es= []∧(s.gone.length≤1000000)∧K (.v (vb (kz s t))) []⟩
theorem M8:Fk 88 PU:=by
 refine fo Tryz.f88 [.d .bool] [] (aa Ai (aa MX aq)) fun xs es K=>?_;rintro⟨s,t,rfl,rfl,h2,h⟩;refine⟨rfl,?_⟩;have hf0:=kz.eq_1 s t;refine⟨fun(t t':am)=>ak t t',fun t0 t1=>⟨_,_,rfl,rfl,rfl,rfl⟩,?_⟩;refine⟨_,_,_,rfl,rfl,(by omega),?_⟩;exact e0
def kA(a:bD):Bool:=
 cZ a.tag
def M9:bG U:=⟨[.d (.st 10)],fun xs es K=> ∃(a:bD),xs= [(vP a)]∧es= []∧K (.v (vb (kA a))) []⟩
theorem Na:Fk 143 M9:=by
 refine fo Tryz.f143 [.d .bool] [] (aa LY aq) fun xs es K=>?_;rintro⟨a,rfl,rfl,h⟩;refine⟨rfl,?_⟩;have hf0:=kA.eq_1 a;refine⟨_,rfl,rfl,?_⟩;exact e0
def fO(a:bD)(b:bD):Int:=
 dB a b.tag
def Nb:bG U:=⟨[.d (.st 10),.d (.st 10)],fun xs es K=> ∃(a:bD) (b:bD),xs= [(vP a),(vP b)]∧es= []∧K (.v (vi (fO a b))) []⟩
theorem Nc:Fk 145 Nb:=by
 refine fo Tryz.f145 [.d (.int .i64)] [] (aa O0 aq) fun xs es K=>?_;rintro⟨a,b,rfl,rfl,h⟩;refine⟨rfl,?_⟩;have hf0:=fO.eq_1 a b;refine⟨_,_,rfl,rfl,?_⟩;exact e0
def kB(a:bD)(s:br):Bool:=
 !fB a.elem||kz s a.tag
def Nd:bG U:=⟨[.d (.st 10),.n],fun xs es K=> ∃(a:bD) (s:br),xs= [(vP a),⟨false,[(1,.pd (.st 11) s)]⟩]∧es= []∧(s.gone.length≤1000000)∧K (.v (vb (kB a s))) []⟩
theorem Nf:Fk 147 Nd:=by
 refine fo Tryz.f147 [.d .bool] [] (aa MU (aa M8 aq)) fun xs es K=>?_;rintro⟨a,s,rfl,rfl,h2,h⟩;refine⟨rfl,?_⟩;have hf0:=kB.eq_1 a s;refine⟨_,rfl,rfl,?_⟩;refine⟨_,fun _=>⟨_,_,rfl,rfl,(by omega),rfl,rfl⟩,rfl,?_⟩;exact e0
def ew(s:br):Int:=
 if(4096<(s.adds.length:Int))∨(4096<(s.gone.length:Int))then
  8
 else
  if((eR s.adds fun(t:bD)=>kA t)=true)∨((cc s.gone fun(t:am)=>cZ t)=true)then
   2
  else
   if(¬(((fq s.adds fun(t t':bD)=>fO t t')=true)∧((dP s.gone fun(t t':am)=>ak t t')=true)))∨((eR s.adds fun(t:bD)=>kB t s)=true)then
    3
   else
    0
def PV:bG U:=⟨[.d (.st 11)],fun xs es K=> ∃(s:br),xs= [(ur s)]∧es= []∧(s.gone.length≤1000000)∧((fun(r0:Int)=>r0=0→s.adds.length≤4096∧s.gone.length≤4096) (ew s)→K (.v (vi (ew s))) [])⟩
theorem LZ:Fk 73 PV:=by
 refine fo Tryz.f73 [.d (.int .i64)] [] (aa Jy (aa Ai (aa LY (aa MW (aa Na (aa MZ (aa Nc (aa M7 (aa Nf aq))))))))) fun xs es K=>?_;rintro⟨s,rfl,rfl,h2,h⟩;refine⟨rfl,?_⟩;have hf0:=ew.eq_1 s;refine fl (x:=s.adds.length) fun _=>?_;refine wI hf0 (fun _ hf0=>?_) fun _ hf0=>?_
 ·rw[hf0]at h;exact h (by omega)
 ·refine⟨fun(t:bD)=>kA t,fun t0=>⟨_,rfl,rfl,rfl,rfl⟩,?_⟩;refine⟨_,_,rfl,rfl,?_⟩;refine⟨_,fun h2=>⟨fun(t:am)=>cZ t,fun t0=>⟨_,rfl,rfl,rfl,rfl⟩,_,_,rfl,rfl,rfl,rfl⟩,rfl,?_⟩;refine wI hf0 (fun _ hf0=>?_) fun _ hf0=>?_
  ·rw[hf0]at h;exact h (by omega)
  ·refine⟨fun(t t':bD)=>fO t t',fun t0 t1=>⟨_,_,rfl,rfl,rfl,rfl⟩,?_⟩;refine⟨_,_,rfl,rfl,?_⟩;refine⟨_,fun _=>⟨fun(t t':am)=>ak t t',fun t0 t1=>⟨_,_,rfl,rfl,rfl,rfl⟩,_,_,rfl,rfl,rfl,rfl⟩,rfl,?_⟩;refine⟨_,fun _=>⟨fun(t:bD)=>kB t s,fun t0=>⟨_,_,rfl,rfl,(by omega),rfl,rfl⟩,_,_,rfl,rfl,rfl,rfl⟩,rfl,?_⟩;refine wI hf0 (fun _ hf0=>?_) fun _ hf0=>?_
   ·rw[hf0]at h;exact h (by omega)
   ·rw[hf0]at h;exact h (by omega)
def gJ(s:br)(a:bD):br×Int:=
 if ew s=0 then
  if cZ a.tag=true then
   (br.mk [] [],2)
  else
   if fB a.elem=true then
    if(((eJ s.adds a.tag fun(t:bD) (t':am)=>dB t t').snd)=true)∨(kz s a.tag=true)then
     (br.mk s.adds s.gone,0)
    else
     if(s.adds.length:Int)=4096 then
      (br.mk [] [],4)
     else
      (br.mk (gT s.adds (eJ s.adds a.tag fun(t:bD) (t':am)=>dB t t').fst [a]) s.gone,0)
   else
    (br.mk [] [],3)
 else
  (br.mk [] [],ew s)
def PW:bG U:=⟨[.d (.st 11),.d (.st 10)],fun xs es K=> ∃(s:br) (a:bD),xs= [(ur s),(vP a)]∧es= []∧(s.adds.length≤1000000)∧(s.gone.length≤1000000)∧((fun(r0:br) (r1:Int)=>r0.adds.length≤4097∧r0.gone.length≤4097) ((gJ s a).1) ((gJ s a).2)→K (.tup [(ur ((gJ s a).1)),(vi ((gJ s a).2))]) [])⟩
theorem PX:Fk 37 PW:=by
 refine fo Tryz.f37 [.d (.st 11),.d (.int .i64)] [] (aa MU (aa LZ (aa NS (aa NR (aa LY (aa PT (aa O0 (aa M8 (aa Re aq))))))))) fun xs es K=>?_;rintro⟨s,a,rfl,rfl,h1,h2,h⟩;refine⟨rfl,?_⟩;have hf0:=gJ.eq_1 s a;refine⟨_,rfl,rfl,(by omega),?_⟩;refine fun _=>?_;refine wN hf0 (fun h1 hf0=>?_) fun h1 hf0=>?_
 ·rw[hf0]at h;exact h (by simp)
 ·refine⟨_,rfl,rfl,?_⟩;refine wI hf0 (fun h2 hf0=>?_) fun h2 hf0=>?_
  ·rw[hf0]at h;exact h (by simp)
  ·refine⟨_,rfl,rfl,?_⟩;refine wN hf0 (fun _ hf0=>?_) fun _ hf0=>?_
   ·rw[hf0]at h;exact h (by simp)
   ·refine⟨fun(t:bD) (t':am)=>dB t t',fun t0 t1=>⟨_,_,rfl,rfl,rfl,rfl⟩,?_⟩;refine⟨_,_,_,rfl,rfl,(by omega),?_⟩;refine .inr ⟨(.look 0 (.look 1 (.look 3 (.look 4 (.turn 2 (.turn 5 (.look 6 (.turn 7 .fin .nil)) (.turn 7 (.turn 5 (.look 6 .fin) .nil) .nil)) (.turn 7 (.turn 2 (.turn 5 (.look 6 .fin) .nil) .nil) .nil)))))),some 8,[],6,[(2,.v ⟨false,[(1,.ptr 0 0)]⟩),(3,.v ⟨false,[(1,.ptr 1 0)]⟩),(4,.v ⟨false,[(1,.ptr 2 0)]⟩),(5,.v ⟨false,[(1,.d (.int .i64) (0:Int))]⟩),(7,.v ⟨false,[(1,.d (.int .i64) ((eJ s.adds a.tag fun(t:bD) (t':am)=>dB t t').fst))]⟩),(8,.v ⟨false,[(1,.d .bool ((eJ s.adds a.tag fun(t:bD) (t':am)=>dB t t').snd))]⟩),(9,.v ⟨false,[(1,.ptr 5 0)]⟩)],[(0,.cells [(2,.d (.st 11) s)] 38),(1,.cells [(4,.d (.st 10) a)] 128),(2,.cells [(1,.nils),(1,.nils)] 38),(3,.row 0 (.st 10) s.adds 128),(4,.row 0 (.st 4) s.gone 61),(5,.cells [(1,.own 3 0),(1,.own 4 0)] 38)],True,by kernel_rfl,?_,?_⟩
    ·refine And.intro ?_ ?_
     ·refine⟨_,rfl,rfl,(by assumption),?_⟩;refine And.intro ?_ ?_
      ·refine⟨_,rfl,rfl,(by assumption),?_⟩;refine And.intro ?_ trivial;refine⟨trivial,[],?_⟩;repeat (first|exact trivial|refine And.intro rfl ?_)
      refine And.intro ?_ trivial;refine And.intro ?_ trivial;refine⟨_,rfl,rfl,(by assumption),?_⟩;refine⟨trivial,[(5,4),(4,5)],?_⟩;repeat (first|exact trivial|refine And.intro rfl ?_)
     refine And.intro ?_ trivial;refine And.intro ?_ trivial;refine⟨_,rfl,rfl,(by assumption),?_⟩;refine And.intro ?_ trivial;refine⟨_,rfl,rfl,(by assumption),?_⟩;refine⟨trivial,[(5,3),(3,4),(4,5)],?_⟩;repeat (first|exact trivial|refine And.intro rfl ?_)
    refine fun _=>?_;refine⟨_,fun _=>⟨_,_,rfl,rfl,(by omega),rfl,rfl⟩,rfl,?_⟩;refine wI hf0 (fun _ hf0=>?_) fun _ hf0=>?_
    ·rw[hf0]at h;exact h (by(dsimp only;omega))
    ·refine fl (x:=s.adds.length) fun _=>?_;refine wI hf0 (fun _ hf0=>?_) fun _ hf0=>?_
     ·rw[hf0]at h;exact h (by simp)
     ·refine⟨_,_,_,rfl,rfl,((tv _ _ _).1),((tv _ _ _).2),(by assumption),?_⟩;rw[hf0]at h;exact h (by(dsimp only;rw[tt];simp only[List.length_cons,List.length_nil];omega))
def mn(a:bD)(out:br):Bool:=
 kz out a.tag
def PY:bG U:=⟨[.d (.st 10),.n],fun xs es K=> ∃(a:bD) (out:br),xs= [(vP a),⟨false,[(1,.pd (.st 11) out)]⟩]∧es= []∧(out.gone.length≤1000000)∧K (.v (vb (mn a out))) []⟩
theorem PZ:Fk 94 PY:=by
 refine fo Tryz.f94 [.d .bool] [] (aa M8 aq) fun xs es K=>?_;rintro⟨a,out,rfl,rfl,h2,h⟩;refine⟨rfl,?_⟩;have hf0:=mn.eq_1 a out;refine⟨_,_,rfl,rfl,(by omega),?_⟩;exact e0
end Go.Proofs.YtmpeiadlohbikaaGreatDoor.V
end

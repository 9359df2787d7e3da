/- The rules of the walks once more, with their closed conditions as one equation: the printed walks are shorter. -/
import Derived.Test.YtiliglahlfkikaaGreatDoorK13
import Derived.Test.YtiliglahlfkikaaGreatDoorK12
import Derived.Test.YtiliglahlfkikaaGreatDoorK3
import Derived.Lib.AppendZerosOnto
import Derived.Lib.Overlaps
import Derived.Test.YtiliglahlfkikaaGreatDoorK2
section
set_option linter.unusedVariables false
namespace Go.Proofs.YtiliglahlfkikaaGreatDoor.V
open Go.RowKit
theorem fo{f:FuncId}{c:bf U}{G:jZ U}(fn:Func)(md:List Md)(em:List (Nat×List (Nat×Option bm)))(hG:ku Tryz.prog U G)(h: ∀xs es K,c.run xs es K→Nat.ble xs.length fn.ntmps=true∧Gg Pj G fn md em (vL 0 xs) es.length (aS 0 es) K)
  (h1:(bg Tryz.prog f&&match fn.body with|some c=>xW fn.ntmps c|none=>false)=true:=by kernel_rfl) (h2:Tryz.prog.funcs[f]? =some fn:=by kernel_rfl):dY Tryz.prog U f c:=by
 rw[Bool.and_eq_true]at h1;cases hb:fn.body with
 |none=>rw[hb]at h1;cases h1.2
 |some c=>exact zO (fn:=fn) hG wr (by kernel_rfl) fn.ntmps md em h1.1 h2 hb rfl (by have:=h1.2;rw[hb]at this;exact this) h
abbrev Fk(f:FuncId)(c:bf U):Prop:=dY Tryz.prog U f c
abbrev gM(x:TT U.ty (.sl (.st 1))):Va U:=⟨false,[(1,.d (.sl (.st 1)) x)]⟩
abbrev ic(x:TT U.ty (.arr 8 (.int .u32))):Va U:=⟨true,[(8,.d (.arr 8 (.int .u32)) x)]⟩
abbrev rx(x:TT U.ty (.st 8)):Va U:=⟨true,[(2,.d (.st 8) x)]⟩
abbrev qF(x:TT U.ty (.st 1)):Va U:=⟨true,[(3,.d (.st 1) x)]⟩
abbrev ry(x:TT U.ty (.st 9)):Va U:=⟨true,[(2,.d (.st 9) x)]⟩
abbrev ki(x:TT U.ty (.st 10)):Va U:=⟨true,[(10,.d (.st 10) x)]⟩
abbrev yO(x:TT U.ty (.st 5)):Va U:=⟨true,[(3,.d (.st 5) x)]⟩
abbrev BG(x:TT U.ty (.st 3)):Va U:=⟨true,[(9,.d (.st 3) x)]⟩
abbrev Ex(x:TT U.ty (.st 2)):Va U:=⟨true,[(2,.d (.st 2) x)]⟩
abbrev FB(x:TT U.ty (.st 6)):Va U:=⟨true,[(2,.d (.st 6) x)]⟩
abbrev BH(x:TT U.ty (.st 0)):Va U:=⟨true,[(2,.d (.st 0) x)]⟩
abbrev yH(x:TT U.ty (.sl (.st 7))):Va U:=⟨false,[(1,.d (.sl (.st 7)) x)]⟩
abbrev FC(x:TT U.ty (.st 7)):Va U:=⟨true,[(4,.d (.st 7) x)]⟩
abbrev Lj(x:TT U.ty (.st 4)):Va U:=⟨true,[(7,.d (.st 4) x)]⟩
abbrev Iw(x:TT U.ty (.sl (.int .i64))):Va U:=⟨false,[(1,.d (.sl (.int .i64)) x)]⟩
abbrev xK(x:TT U.ty (.sl (.st 12))):Va U:=⟨false,[(1,.d (.sl (.st 12)) x)]⟩
abbrev Ey(x:TT U.ty (.st 13)):Va U:=⟨true,[(3,.d (.st 13) x)]⟩
abbrev yI(x:TT U.ty (.sl (.st 3))):Va U:=⟨false,[(1,.d (.sl (.st 3)) x)]⟩
abbrev vw(x:TT U.ty (.int .u32)):Va U:=⟨false,[(1,.d (.int .u32) x)]⟩
abbrev Ii(x:TT U.ty (.sl (.st 4))):Va U:=⟨false,[(1,.d (.sl (.st 4)) x)]⟩
abbrev Lk(x:TT U.ty (.sl .str)):Va U:=⟨false,[(1,.d (.sl .str) x)]⟩
abbrev Ll(x:TT U.ty (.st 16)):Va U:=⟨true,[(3,.d (.st 16) x)]⟩
abbrev vc(x:TT U.ty (.int .u8)):Va U:=⟨false,[(1,.d (.int .u8) x)]⟩
end Go.Proofs.YtiliglahlfkikaaGreatDoor.V
end

section
set_option linter.unusedVariables false
set_option linter.unusedSimpArgs false
set_option maxRecDepth 20000
set_option maxHeartbeats 4000000
namespace Go.Proofs.YtiliglahlfkikaaGreatDoor.V
open Go.RowKit
def d6(id:kW):Int:=
 if(((id.origin<0)∨(7<id.origin))∨(id.seq<1))∨(1048576<id.seq)then
  2
 else
  0
def Pq:bf U:=⟨[.d (.st 0)],fun xs es K=> ∃(id:kW),xs= [(BH id)]∧es= []∧K (.v (vi (d6 id))) []⟩
theorem OS:Fk 62 Pq:=by
 refine fo Tryz.f62 [.d (.int .i64)] [] (ah) fun xs es K=>?_;rintro⟨id,rfl,rfl,h⟩;refine⟨rfl,?_⟩;have hf0:=d6.eq_1 id;exact wI hf0 (fun _ hf0=>e0) fun _ hf0=>e0
theorem pB{id:kW}(h:d6 id=0):0≤id.origin∧id.origin≤7∧1≤id.seq∧id.seq≤1048576:=by
 unfold d6 at h;split at h
 ·cases h
 ·omega
def iZ(a:Int)(b:Int):Int:=
 if a<b then
  (-1)
 else
  if b<a then
   1
  else
   0
def Pr:bf U:=⟨[.d (.int .i64),.d (.int .i64)],fun xs es K=> ∃(a:Int) (b:Int),xs= [(vi a),(vi b)]∧es= []∧K (.v (vi (iZ a b))) []⟩
theorem OT:Fk 98 Pr:=by
 refine fo Tryz.f98 [.d (.int .i64)] [] (ah) fun xs es K=>?_;rintro⟨a,b,rfl,rfl,h⟩;refine⟨rfl,?_⟩;have hf0:=iZ.eq_1 a b;exact wI hf0 (fun _ hf0=>e0) fun _ hf0=>wI hf0 (fun _ hf0=>e0) fun _ hf0=>e0
def jJ(a:kW)(b:kW):Int:=
 if a.origin=b.origin then
  iZ a.seq b.seq
 else
  iZ a.origin b.origin
def Ps:bf U:=⟨[.d (.st 0),.d (.st 0)],fun xs es K=> ∃(a:kW) (b:kW),xs= [(BH a),(BH b)]∧es= []∧K (.v (vi (jJ a b))) []⟩
theorem Pt:Fk 97 Ps:=by
 refine fo Tryz.f97 [.d (.int .i64)] [] (aa OT ah) fun xs es K=>?_;rintro⟨a,b,rfl,rfl,h⟩;refine⟨rfl,?_⟩;have hf0:=jJ.eq_1 a b;refine wN hf0 (fun _ hf0=>?_) fun _ hf0=>?_
 ·refine⟨_,_,rfl,rfl,?_⟩;exact e0
 ·refine ID ?_;refine ID ?_;refine⟨_,_,rfl,rfl,?_⟩;exact e0
def ay(t:ae):Int:=
 if((¬d6 t.id=0)∨(t.n<0))∨(15<t.n)then
  2
 else
  0
def Pu:bf U:=⟨[.d (.st 1)],fun xs es K=> ∃(t:ae),xs= [(qF t)]∧es= []∧K (.v (vi (ay t))) []⟩
theorem I8:Fk 87 Pu:=by
 refine fo Tryz.f87 [.d (.int .i64)] [] (aa OS ah) fun xs es K=>?_;rintro⟨t,rfl,rfl,h⟩;refine⟨rfl,?_⟩;have hf0:=ay.eq_1 t;refine⟨_,rfl,rfl,?_⟩;exact wI hf0 (fun _ hf0=>e0) fun _ hf0=>e0
def aG(a:ae)(b:ae):Int:=
 if a.id=b.id then
  iZ a.n b.n
 else
  jJ a.id b.id
def Pv:bf U:=⟨[.d (.st 1),.d (.st 1)],fun xs es K=> ∃(a:ae) (b:ae),xs= [(qF a),(qF b)]∧es= []∧K (.v (vi (aG a b))) []⟩
theorem GO:Fk 42 Pv:=by
 refine fo Tryz.f42 [.d (.int .i64)] [] (aa Pt (aa OT ah)) fun xs es K=>?_;rintro⟨a,b,rfl,rfl,h⟩;refine⟨rfl,?_⟩;have hf0:=aG.eq_1 a b;refine wN hf0 (fun _ hf0=>?_) fun _ hf0=>?_
 ·refine⟨_,_,rfl,rfl,?_⟩;exact e0
 ·refine⟨_,_,rfl,rfl,?_⟩;exact e0
def cx(s:au):Int:=
 if((1048576<s.time)∨(s.origin<0))∨(7<s.origin)then
  2
 else
  0
def Pw:bf U:=⟨[.d (.st 2)],fun xs es K=> ∃(s:au),xs= [(Ex s)]∧es= []∧K (.v (vi (cx s))) []⟩
theorem LW:Fk 89 Pw:=by
 refine fo Tryz.f89 [.d (.int .i64)] [] (ah) fun xs es K=>?_;rintro⟨s,rfl,rfl,h⟩;refine⟨rfl,?_⟩;have hf0:=cx.eq_1 s;exact wI hf0 (fun _ hf0=>e0) fun _ hf0=>e0
def cy(s:List UInt8):Bool:=
 decide (1≤(s.length:Int))&&decide ((s.length:Int)≤12)
def LY:bf U:=⟨[.d .str],fun xs es K=> ∃(s:List UInt8),xs= [(vt s)]∧es= []∧K (.v (vb (cy s))) []⟩
theorem C3:Fk 151 LY:=by
 refine fo Tryz.f151 [.d .bool] [] (ah) fun xs es K=>?_;rintro⟨s,rfl,rfl,h⟩;refine⟨rfl,?_⟩;have hf0:=cy.eq_1 s;refine fl (x:=s.length) fun _=>?_;exact e0
def dn(l:List ae)(t:ae):Nat→Int→Bool⊕(Int)
 |0,s5=> .inr s5
 |n1+1,s5=>
  if s5<(l.length:Int)then
   if ix l s5=t then
    .inl true
   else
    dn l t n1 (s5+1)
  else
   .inr s5
def aX(l:List ae)(t:ae):Bool:=
 match dn l t (((l.length:Int)- 0).toNat+1) 0 with
 | .inl r=>r
 | .inr s5=>
  false
def LZ:bf U:=⟨[.d (.sl (.st 1)),.d (.st 1)],fun xs es K=> ∃(l:List ae) (t:ae),xs= [(gM l),(qF t)]∧es= []∧K (.v (vb (aX l t))) []⟩
theorem vQ:Fk 155 LZ:=by
 refine fo Tryz.f155 [.d .bool] [] (ah) fun xs es K=>?_;rintro⟨l,t,rfl,rfl,h⟩;refine⟨rfl,?_⟩;have hf0:=aX.eq_1 l t;refine lI 1 (fun(s5:Int)=> [(0,.v (gM l)),(3,.v (vp 0)),(4,.v (vb false)),(5,.v (vi s5))]) (fun(s5:Int)=> [(0,.cells [(3,.d (.st 1) t)] 34)]) (fun(s5:Int)=>((l.length:Int)- s5).toNat) (fun(s5:Int)=>(0≤s5)∧(s5≤(l.length:Int))∧True) (fun n1 (s5:Int)=>dn l t n1 s5) (dn l t (((l.length:Int)- 0).toNat+1) 0) [] (0:Int) ?_;rintro s5 ⟨n1,hc1,⟨hi1_0,hi1_1,-⟩,hf1⟩;have hf1:=hf1.trans (dn.eq_2 l t s5 n1);refine fl (x:=l.length) fun _=>?_;refine wI hf1 (fun _ hf1=>?_) fun _ hf1=>e1;refine dp (up 6) none (nw 1) ?_;refine vx s5 l ?_;refine wI hf1 (fun _ hf1=>e1) fun _ hf1=>?_;refine bY ?_;exact nx [] (s5+1) hc1 hf1
def gR(l:List aT):Nat→Int→(List ae)→(List ae)⊕(Int×(List ae))
 |0,s4,s3=> .inr (s4,s3)
 |n1+1,s4,s3=>
  if s4<(l.length:Int)then
   gR l n1 (s4+1) (s3++ [(ix l s4).tag])
  else
   .inr (s4,s3)
def ck(l:List aT):List ae:=
 match gR l (((l.length:Int)- 0).toNat+1) 0 ([]:List ae)with
 | .inl r=>r
 | .inr (s4,s3)=>
  s3
def L0:bf U:=⟨[.d (.sl (.st 7))],fun xs es K=> ∃(l:List aT),xs= [(yH l)]∧es= []∧(l.length≤1000000)∧K (.v (gM (ck l))) []⟩
theorem I9:Fk 156 L0:=by
 refine fo Tryz.f156 [.d (.sl (.st 1))] [] (ah) fun xs es K=>?_;rintro⟨l,rfl,rfl,hl,h⟩;refine⟨rfl,?_⟩;have hf0:=ck.eq_1 l;refine lI (σ:=Int×(List ae)) 1 (fun(s4,s3)=> [(0,.v (yH l)),(2,.v ⟨false,[(1,.nils)]⟩),(3,.v (vo 0)),(4,.v (vi s4))]) (fun(s4,s3)=> [(0,.row 0 (.st 1) s3 34)]) (fun(s4,s3)=>((l.length:Int)- s4).toNat) (fun(s4,s3)=>(0≤s4)∧(s4≤(l.length:Int))∧((s3.length:Int)≤s4)∧True) (fun n1 (s4,s3)=>gR l n1 s4 s3) (gR l (((l.length:Int)- 0).toNat+1) 0 ([]:List ae)) [] ((0:Int),([]:List ae)) ?_;rintro⟨s4,s3⟩ ⟨n1,hc1,⟨hi1_0,hi1_1,hi1_2,-⟩,hf1⟩;have hf1:=hf1.trans (gR.eq_2 l s4 s3 n1);refine fl (x:=l.length) fun _=>?_;refine wI hf1 (fun _ hf1=>?_) fun _ hf1=>e1;refine vx s4 l ?_;refine vs (P:=(s3.length+ [(ix l s4).tag].length)*(24:Nat)≤(140737488355328:Nat)) ?_;refine bY ?_;exact nx (s:=(s4,s3)) [] (s4+1,s3++ [(ix l s4).tag]) hc1 hf1
def eV(l:List ae):Nat→Int→Bool⊕(Int)
 |0,s3=> .inr s3
 |n1+1,s3=>
  if s3<(l.length:Int)then
   if ay (ix l s3)=0 then
    eV l n1 (s3+1)
   else
    .inl false
  else
   .inr s3
def aQ(l:List ae):Bool:=
 match eV l (((l.length:Int)- 0).toNat+1) 0 with
 | .inl r=>r
 | .inr s3=>
  true
def L3:bf U:=⟨[.d (.sl (.st 1))],fun xs es K=> ∃(l:List ae),xs= [(gM l)]∧es= []∧K (.v (vb (aQ l))) []⟩
theorem Ja:Fk 157 L3:=by
 refine fo Tryz.f157 [.d .bool] [] (aa I8 ah) fun xs es K=>?_;rintro⟨l,rfl,rfl,h⟩;refine⟨rfl,?_⟩;have hf0:=aQ.eq_1 l;refine lI 0 (fun(s3:Int)=> [(0,.v (gM l)),(2,.v (vb false)),(3,.v (vi s3))]) (fun(s3:Int)=> []) (fun(s3:Int)=>((l.length:Int)- s3).toNat) (fun(s3:Int)=>(0≤s3)∧(s3≤(l.length:Int))∧True) (fun n1 (s3:Int)=>eV l n1 s3) (eV l (((l.length:Int)- 0).toNat+1) 0) [] (0:Int) ?_;rintro s3 ⟨n1,hc1,⟨hi1_0,hi1_1,-⟩,hf1⟩;have hf1:=hf1.trans (eV.eq_2 l s3 n1);refine fl (x:=l.length) fun _=>?_;refine wI hf1 (fun _ hf1=>?_) fun _ hf1=>e1;refine vx s3 l ?_;refine⟨_,rfl,rfl,?_⟩;refine wN hf1 (fun _ hf1=>e1) fun _ hf1=>?_;refine bY ?_;exact nx [] (s3+1) hc1 hf1
def eW(l:List ae):Nat→Int→Bool⊕(Int)
 |0,s3=> .inr s3
 |n1+1,s3=>
  if s3<(l.length:Int)then
   if 0≤aG (ix l (s3 - 1)) (ix l s3)then
    .inl false
   else
    eW l n1 (s3+1)
  else
   .inr s3
def cq(l:List ae):Bool:=
 match eW l (((l.length:Int)- 1).toNat+1) 1 with
 | .inl r=>r
 | .inr s3=>
  true
def L4:bf U:=⟨[.d (.sl (.st 1))],fun xs es K=> ∃(l:List ae),xs= [(gM l)]∧es= []∧K (.v (vb (cq l))) []⟩
theorem L5:Fk 195 L4:=by
 refine fo Tryz.f195 [.d .bool] [] (aa GO ah) fun xs es K=>?_;rintro⟨l,rfl,rfl,h⟩;refine⟨rfl,?_⟩;have hf0:=cq.eq_1 l;refine lI 0 (fun(s3:Int)=> [(0,.v (gM l)),(2,.v (vb false)),(3,.v (vi s3))]) (fun(s3:Int)=> []) (fun(s3:Int)=>((l.length:Int)- s3).toNat) (fun(s3:Int)=>(1≤s3)∧True) (fun n1 (s3:Int)=>eW l n1 s3) (eW l (((l.length:Int)- 1).toNat+1) 1) [] (1:Int) ?_;rintro s3 ⟨n1,hc1,⟨hi1_0,-⟩,hf1⟩;have hf1:=hf1.trans (eW.eq_2 l s3 n1);refine fl (x:=l.length) fun _=>?_;refine wI hf1 (fun _ hf1=>?_) fun _ hf1=>e1;refine dp [(true,0),(true,1),(true,2),(true,3),(true,4),(true,5),(true,6),(true,7),(true,8),(false,9),(true,10)] none (nw 0) ?_;refine bY ?_;refine vx (s3 - 1) l ?_;refine vx s3 l ?_;refine⟨_,_,rfl,rfl,?_⟩;refine wI hf1 (fun _ hf1=>e1) fun _ hf1=>?_;refine bY ?_;exact nx [] (s3+1) hc1 hf1
def eX(s:aC):Nat→Int→Int⊕(Int)
 |0,s4=> .inr s4
 |n1+1,s4=>
  if s4<(s.adds.length:Int)then
   if(¬(cy (ix s.adds s4).elem=true))∨(aX s.gone (ix s.adds s4).tag=true)then
    .inl 3
   else
    eX s n1 (s4+1)
  else
   .inr s4
def cK(s:aC):Int:=
 if(4096<(s.adds.length:Int))∨(4096<(s.gone.length:Int))then
  8
 else
  if(¬(aQ (ck s.adds)=true))∨(¬(aQ s.gone=true))then
   2
  else
   if(¬(cq (ck s.adds)=true))∨(¬(cq s.gone=true))then
    3
   else
    match eX s (((s.adds.length:Int)- 0).toNat+1) 0 with
    | .inl r=>r
    | .inr s4=>
     0
def L6:bf U:=⟨[.d (.st 8)],fun xs es K=> ∃(s:aC),xs= [(rx s)]∧es= []∧(s.adds.length≤1000000)∧((fun(r0:Int)=>r0=0→s.adds.length≤4096∧s.gone.length≤4096) (cK s)→K (.v (vi (cK s))) [])⟩
theorem GP:Fk 154 L6:=by
 refine fo Tryz.f154 [.d (.int .i64)] [] (aa C3 (aa vQ (aa I9 (aa Ja (aa L5 ah))))) fun xs es K=>?_;rintro⟨s,rfl,rfl,h1,h⟩;refine⟨rfl,?_⟩;have hf0:=cK.eq_1 s;refine⟨_,rfl,rfl,(by omega),?_⟩;refine fl (x:=s.adds.length) fun _=>?_;refine wI hf0 (fun h1 hf0=>?_) fun h1 hf0=>?_
 ·rw[hf0]at h;exact h (by omega)
 ·refine⟨_,rfl,rfl,?_⟩;refine⟨_,fun _=>⟨_,rfl,rfl,rfl,rfl⟩,rfl,?_⟩;refine wI hf0 (fun _ hf0=>?_) fun _ hf0=>?_
  ·rw[hf0]at h;exact h (by omega)
  ·refine⟨_,rfl,rfl,?_⟩;refine⟨_,fun _=>⟨_,rfl,rfl,rfl,rfl⟩,rfl,?_⟩;refine wI hf0 (fun _ hf0=>?_) fun _ hf0=>?_
   ·rw[hf0]at h;exact h (by omega)
   ·refine lI 1 (fun(s4:Int)=> [(1,.v (vp 0)),(2,.v (vi 0)),(4,.v (vi s4))]) (fun(s4:Int)=> [(0,.cells [(2,.d (.st 8) s)] 70)]) (fun(s4:Int)=>((s.adds.length:Int)- s4).toNat) (fun(s4:Int)=>(0≤s4)∧(s4≤(s.adds.length:Int))∧True) (fun n1 (s4:Int)=>eX s n1 s4) (eX s (((s.adds.length:Int)- 0).toNat+1) 0) [] (0:Int) ?_;rintro s4 ⟨n1,hc1,⟨hi1_0,hi1_1,-⟩,hf1⟩;have hf1:=hf1.trans (eX.eq_2 s s4 n1);refine fl (x:=s.adds.length) fun _=>?_;refine wI hf1 (fun _ hf1=>?_) fun _ hf1=>?_
    ·refine dp [(true,0),(true,1),(true,2),(true,3),(true,4),(true,5),(false,6),(true,7),(true,8),(true,9),(true,10),(true,11),(true,12),(true,13),(true,14),(true,15),(true,16),(false,17),(true,18)] none (nw 1) ?_;refine vx s4 s.adds ?_;refine⟨_,rfl,rfl,?_⟩;refine vs (P:=(!cy (ix s.adds s4).elem)=((54:Nat),false).snd→0≤s4∧s4<(s.adds.length:Int)) ?_;refine⟨_,fun _=>⟨_,_,rfl,rfl,rfl,rfl⟩,rfl,?_⟩;refine wI hf1 (fun _ hf1=>?_) fun _ hf1=>?_
     ·rw[hf1]at hf0;rw[hf0]at h;exact h (by omega)
     ·refine bY ?_;exact nx [] (s4+1) hc1 hf1
    ·rw[hf1]at hf0;rw[hf0]at h;exact h (by omega)
def eY(a:List ae)(b:List ae):Nat→Int→Bool⊕(Int)
 |0,s5=> .inr s5
 |n1+1,s5=>
  if s5<(a.length:Int)then
   if ix a s5=ix b s5 then
    eY a b n1 (s5+1)
   else
    .inl false
  else
   .inr s5
def gS(a:List ae)(b:List ae):Bool:=
 if(a.length:Int)=(b.length:Int)then
  match eY a b (((a.length:Int)- 0).toNat+1) 0 with
  | .inl r=>r
  | .inr s5=>
   true
 else
  false
def L7:bf U:=⟨[.d (.sl (.st 1)),.d (.sl (.st 1))],fun xs es K=> ∃(a:List ae) (b:List ae),xs= [(gM a),(gM b)]∧es= []∧K (.v (vb (gS a b))) []⟩
theorem Jb:Fk 105 L7:=by
 refine fo Tryz.f105 [.d .bool] [] (ah) fun xs es K=>?_;rintro⟨a,b,rfl,rfl,h⟩;refine⟨rfl,?_⟩;have hf0:=gS.eq_1 a b;refine fl (x:=a.length) fun _=>?_;refine fl (x:=b.length) fun _=>?_;refine wN hf0 (fun _ hf0=>e0) fun _ hf0=>?_;refine lI 0 (fun(s5:Int)=> [(0,.v (gM a)),(1,.v (gM b)),(4,.v (vb false)),(5,.v (vi s5))]) (fun(s5:Int)=> []) (fun(s5:Int)=>((a.length:Int)- s5).toNat) (fun(s5:Int)=>(0≤s5)∧(s5≤(a.length:Int))∧True) (fun n1 (s5:Int)=>eY a b n1 s5) (eY a b (((a.length:Int)- 0).toNat+1) 0) [] (0:Int) ?_;rintro s5 ⟨n1,hc1,⟨hi1_0,hi1_1,-⟩,hf1⟩;have hf1:=hf1.trans (eY.eq_2 a b s5 n1);refine fl (x:=a.length) fun _=>?_;refine wI hf1 (fun _ hf1=>?_) fun _ hf1=>e1;refine dp (up 9) none (nw 0) ?_;refine vx s5 a ?_;refine vx s5 b ?_;refine wN hf1 (fun _ hf1=>e1) fun _ hf1=>?_;refine bY ?_;exact nx [] (s5+1) hc1 hf1
def gj(a:aC)(b:aC):Nat→Int→Bool⊕(Int)
 |0,s5=> .inr s5
 |n1+1,s5=>
  if s5<(a.adds.length:Int)then
   if ix a.adds s5=ix b.adds s5 then
    gj a b n1 (s5+1)
   else
    .inl false
  else
   .inr s5
def j2(a:aC)(b:aC):Bool:=
 if(¬(a.adds.length:Int)=(b.adds.length:Int))∨(¬(gS a.gone b.gone=true))then
  false
 else
  match gj a b (((a.adds.length:Int)- 0).toNat+1) 0 with
  | .inl r=>r
  | .inr s5=>
   true
def Px:bf U:=⟨[.d (.st 8),.d (.st 8)],fun xs es K=> ∃(a:aC) (b:aC),xs= [(rx a),(rx b)]∧es= []∧K (.v (vb (j2 a b))) []⟩
theorem Pz:Fk 50 Px:=by
 refine fo Tryz.f50 [.d .bool] [] (aa Jb ah) fun xs es K=>?_;rintro⟨a,b,rfl,rfl,h⟩;refine⟨rfl,?_⟩;have hf0:=j2.eq_1 a b;refine fl (x:=a.adds.length) fun _=>?_;refine fl (x:=b.adds.length) fun _=>?_;refine⟨_,fun _=>⟨_,_,rfl,rfl,rfl,rfl⟩,rfl,?_⟩;refine wI hf0 (fun _ hf0=>e0) fun _ hf0=>?_;refine lI 2 (fun(s5:Int)=> [(2,.v (vp 0)),(3,.v (vp 1)),(4,.v (vb false)),(5,.v (vi s5))]) (fun(s5:Int)=> [(0,.cells [(2,.d (.st 8) a)] 70),(1,.cells [(2,.d (.st 8) b)] 70)]) (fun(s5:Int)=>((a.adds.length:Int)- s5).toNat) (fun(s5:Int)=>(0≤s5)∧(s5≤(a.adds.length:Int))∧True) (fun n1 (s5:Int)=>gj a b n1 s5) (gj a b (((a.adds.length:Int)- 0).toNat+1) 0) [] (0:Int) ?_;rintro s5 ⟨n1,hc1,⟨hi1_0,hi1_1,-⟩,hf1⟩;have hf1:=hf1.trans (gj.eq_2 a b s5 n1);refine fl (x:=a.adds.length) fun _=>?_;refine wI hf1 (fun _ hf1=>?_) fun _ hf1=>e1;refine dp (up 11) none (nw 2) ?_;refine vx s5 a.adds ?_;refine vx s5 b.adds ?_;refine wN hf1 (fun _ hf1=>e1) fun _ hf1=>?_;refine bY ?_;exact nx [] (s5+1) hc1 hf1
def cL(p:bI):Bool:=
 cy p.field&&decide (cx p.at_=0)&&decide (0<p.at_.time)
def L8:bf U:=⟨[.d (.st 4)],fun xs es K=> ∃(p:bI),xs= [(Lj p)]∧es= []∧K (.v (vb (cL p))) []⟩
theorem Jc:Fk 160 L8:=by
 refine fo Tryz.f160 [.d .bool] [] (aa LW (aa C3 ah)) fun xs es K=>?_;rintro⟨p,rfl,rfl,h⟩;refine⟨rfl,?_⟩;have hf0:=cL.eq_1 p;refine⟨_,rfl,rfl,?_⟩;refine⟨_,fun _=>⟨_,rfl,rfl,rfl,rfl⟩,rfl,?_⟩;exact e0
def eZ(s:aD):Nat→Int→Int⊕(Int)
 |0,s7=> .inr s7
 |n4+1,s7=>
  if s7<(s.gone.length:Int)then
   if 0≤aG (ix s.gone (s7 - 1)) (ix s.gone s7)then
    .inl 3
   else
    eZ s n4 (s7+1)
  else
   .inr s7
def e8(s:aD):Nat→Int→Int⊕(Int)
 |0,s5=> .inr s5
 |n3+1,s5=>
  if s5<(s.puts.length:Int)then
   if((¬(cL (ix s.puts s5)=true))∨(aX s.gone (ix s.puts s5).tag=true))∨((0<s5)∧(0≤aG (ix s.puts (s5 - 1)).tag (ix s.puts s5).tag))then
    .inl 3
   else
    e8 s n3 (s5+1)
  else
   .inr s5
def e9(s:aD):Nat→Int→Int⊕(Int)
 |0,s4=> .inr s4
 |n2+1,s4=>
  if s4<(s.gone.length:Int)then
   if ay (ix s.gone s4)=0 then
    e9 s n2 (s4+1)
   else
    .inl 2
  else
   .inr s4
def fa(s:aD):Nat→Int→Int⊕(Int)
 |0,s3=> .inr s3
 |n1+1,s3=>
  if s3<(s.puts.length:Int)then
   if ay (ix s.puts s3).tag=0 then
    fa s n1 (s3+1)
   else
    .inl 2
  else
   .inr s3
def cM(s:aD):Int:=
 if(4096<(s.puts.length:Int))∨(4096<(s.gone.length:Int))then
  8
 else
  match fa s (((s.puts.length:Int)- 0).toNat+1) 0 with
  | .inl r=>r
  | .inr s3=>
   match e9 s (((s.gone.length:Int)- 0).toNat+1) 0 with
   | .inl r=>r
   | .inr s4=>
    match e8 s (((s.puts.length:Int)- 0).toNat+1) 0 with
    | .inl r=>r
    | .inr s5=>
     match eZ s (((s.gone.length:Int)- 1).toNat+1) 1 with
     | .inl r=>r
     | .inr s7=>
      0
def L9:bf U:=⟨[.d (.st 9)],fun xs es K=> ∃(s:aD),xs= [(ry s)]∧es= []∧((fun(r0:Int)=>r0=0→s.puts.length≤4096∧s.gone.length≤4096) (cM s)→K (.v (vi (cM s))) [])⟩
theorem GQ:Fk 159 L9:=by
 refine fo Tryz.f159 [.d (.int .i64)] [] (aa GO (aa I8 (aa vQ (aa Jc ah)))) fun xs es K=>?_;rintro⟨s,rfl,rfl,h⟩;refine⟨rfl,?_⟩;have hf0:=cM.eq_1 s;refine fl (x:=s.puts.length) fun _=>?_;refine wI hf0 (fun _ hf0=>?_) fun _ hf0=>?_
 ·rw[hf0]at h;exact h (by omega)
 ·refine lI 1 (fun(s3:Int)=> [(1,.v (vp 0)),(2,.v (vi 0)),(3,.v (vi s3))]) (fun(s3:Int)=> [(0,.cells [(2,.d (.st 9) s)] 73)]) (fun(s3:Int)=>((s.puts.length:Int)- s3).toNat) (fun(s3:Int)=>(0≤s3)∧(s3≤(s.puts.length:Int))∧True) (fun n1 (s3:Int)=>fa s n1 s3) (fa s (((s.puts.length:Int)- 0).toNat+1) 0) [] (0:Int) ?_;rintro s3 ⟨n1,hc1,⟨hi1_0,hi1_1,-⟩,hf1⟩;have hf1:=hf1.trans (fa.eq_2 s s3 n1);refine fl (x:=s.puts.length) fun _=>?_;refine wI hf1 (fun _ hf1=>?_) fun _ hf1=>?_
  ·refine vx s3 s.puts ?_;refine⟨_,rfl,rfl,?_⟩;refine wN hf1 (fun _ hf1=>?_) fun _ hf1=>?_
   ·rw[hf1]at hf0;rw[hf0]at h;exact h (by omega)
   ·refine bY ?_;exact nx [] (s3+1) hc1 hf1
  ·rw[hf1]at hf0;refine lI 1 (fun(s4:Int)=> [(1,.v (vp 0)),(2,.v (vi 0)),(4,.v (vi s4))]) (fun(s4:Int)=> [(0,.cells [(2,.d (.st 9) s)] 73)]) (fun(s4:Int)=>((s.gone.length:Int)- s4).toNat) (fun(s4:Int)=>(0≤s4)∧(s4≤(s.gone.length:Int))∧True) (fun n2 (s4:Int)=>e9 s n2 s4) (e9 s (((s.gone.length:Int)- 0).toNat+1) 0) [] (0:Int) ?_;rintro s4 ⟨n2,hc2,⟨hi2_0,hi2_1,-⟩,hf1⟩;have hf1:=hf1.trans (e9.eq_2 s s4 n2);refine fl (x:=s.gone.length) fun _=>?_;refine wI hf1 (fun _ hf1=>?_) fun _ hf1=>?_
   ·refine vx s4 s.gone ?_;refine⟨_,rfl,rfl,?_⟩;refine wN hf1 (fun _ hf1=>?_) fun _ hf1=>?_
    ·rw[hf1]at hf0;rw[hf0]at h;exact h (by omega)
    ·refine bY ?_;exact nx [] (s4+1) hc2 hf1
   ·rw[hf1]at hf0;refine lI 1 (fun(s5:Int)=> [(1,.v (vp 0)),(2,.v (vi 0)),(5,.v (vi s5))]) (fun(s5:Int)=> [(0,.cells [(2,.d (.st 9) s)] 73)]) (fun(s5:Int)=>((s.puts.length:Int)- s5).toNat) (fun(s5:Int)=>(0≤s5)∧(s5≤(s.puts.length:Int))∧True) (fun n3 (s5:Int)=>e8 s n3 s5) (e8 s (((s.puts.length:Int)- 0).toNat+1) 0) [] (0:Int) ?_;rintro s5 ⟨n3,hc3,⟨hi3_0,hi3_1,-⟩,hf1⟩;have hf1:=hf1.trans (e8.eq_2 s s5 n3);refine fl (x:=s.puts.length) fun _=>?_;refine wI hf1 (fun _ hf1=>?_) fun _ hf1=>?_
    ·refine vx s5 s.puts ?_;refine dp [(true,0),(false,1),(true,2),(true,3),(true,4),(true,5),(true,6),(true,7),(false,8),(true,9),(true,10),(true,11),(true,12),(true,13),(true,14),(true,15),(true,16),(true,17),(true,18),(true,19),(true,20),(true,21),(true,22),(false,23),(true,24),(true,25),(true,26)] none (nw 2) ?_;refine⟨_,rfl,rfl,?_⟩;refine⟨_,fun _=>⟨_,_,rfl,rfl,rfl,rfl⟩,rfl,?_⟩;refine .inl (And.intro (fun(h11:decide ((0:Int)<s5)=((72:Nat),true).snd)=>fun(h12:(!cL (ix s.puts s5)||aX s.gone (ix s.puts s5).tag)=((69:Nat),false).snd)=>rD (p:=s5) (q:=(1:Int)) (r:=s5 -(1:Int)) (by omega)) ?_);refine vs (P:=decide (0<s5)=((72:Nat),true).snd→(!cL (ix s.puts s5)||aX s.gone (ix s.puts s5).tag)=((69:Nat),false).snd→0≤s5 - 1∧s5 - 1<(s.puts.length:Int)) ?_ (by(intro h;simp at h;omega));refine⟨_,fun _ h14=>⟨_,_,rfl,rfl,rfl,rfl⟩,rfl,?_⟩;refine wI hf1 (fun _ hf1=>?_) fun _ hf1=>?_
     ·rw[hf1]at hf0;rw[hf0]at h;exact h (by omega)
     ·refine bY ?_;exact nx [] (s5+1) hc3 hf1
    ·rw[hf1]at hf0;refine lI 1 (fun(s7:Int)=> [(1,.v (vp 0)),(2,.v (vi 0)),(7,.v (vi s7))]) (fun(s7:Int)=> [(0,.cells [(2,.d (.st 9) s)] 73)]) (fun(s7:Int)=>((s.gone.length:Int)- s7).toNat) (fun(s7:Int)=>(1≤s7)∧True) (fun n4 (s7:Int)=>eZ s n4 s7) (eZ s (((s.gone.length:Int)- 1).toNat+1) 1) [] (1:Int) ?_;rintro s7 ⟨n4,hc4,⟨hi4_0,-⟩,hf1⟩;have hf1:=hf1.trans (eZ.eq_2 s s7 n4);refine fl (x:=s.gone.length) fun _=>?_;refine wI hf1 (fun _ hf1=>?_) fun _ hf1=>?_
     ·refine dp [(true,0),(true,1),(true,2),(true,3),(true,4),(true,5),(true,6),(true,7),(true,8),(true,9),(true,10),(false,11),(true,12)] none (nw 1) ?_;refine bY ?_;refine vx (s7 - 1) s.gone ?_;refine vx s7 s.gone ?_;refine⟨_,_,rfl,rfl,?_⟩;refine wI hf1 (fun _ hf1=>?_) fun _ hf1=>?_
      ·rw[hf1]at hf0;rw[hf0]at h;exact h (by omega)
      ·refine bY ?_;exact nx [] (s7+1) hc4 hf1
     ·rw[hf1]at hf0;rw[hf0]at h;exact h (by omega)
def gk(a:aD)(b:aD):Nat→Int→Bool⊕(Int)
 |0,s5=> .inr s5
 |n1+1,s5=>
  if s5<(a.puts.length:Int)then
   if ix a.puts s5=ix b.puts s5 then
    gk a b n1 (s5+1)
   else
    .inl false
  else
   .inr s5
def j3(a:aD)(b:aD):Bool:=
 if(¬(a.puts.length:Int)=(b.puts.length:Int))∨(¬(gS a.gone b.gone=true))then
  false
 else
  match gk a b (((a.puts.length:Int)- 0).toNat+1) 0 with
  | .inl r=>r
  | .inr s5=>
   true
def PA:bf U:=⟨[.d (.st 9),.d (.st 9)],fun xs es K=> ∃(a:aD) (b:aD),xs= [(ry a),(ry b)]∧es= []∧K (.v (vb (j3 a b))) []⟩
theorem PB:Fk 51 PA:=by
 refine fo Tryz.f51 [.d .bool] [] (aa Jb ah) fun xs es K=>?_;rintro⟨a,b,rfl,rfl,h⟩;refine⟨rfl,?_⟩;have hf0:=j3.eq_1 a b;refine fl (x:=a.puts.length) fun _=>?_;refine fl (x:=b.puts.length) fun _=>?_;refine⟨_,fun _=>⟨_,_,rfl,rfl,rfl,rfl⟩,rfl,?_⟩;refine wI hf0 (fun _ hf0=>e0) fun _ hf0=>?_;refine lI 2 (fun(s5:Int)=> [(2,.v (vp 0)),(3,.v (vp 1)),(4,.v (vb false)),(5,.v (vi s5))]) (fun(s5:Int)=> [(0,.cells [(2,.d (.st 9) a)] 73),(1,.cells [(2,.d (.st 9) b)] 73)]) (fun(s5:Int)=>((a.puts.length:Int)- s5).toNat) (fun(s5:Int)=>(0≤s5)∧(s5≤(a.puts.length:Int))∧True) (fun n1 (s5:Int)=>gk a b n1 s5) (gk a b (((a.puts.length:Int)- 0).toNat+1) 0) [] (0:Int) ?_;rintro s5 ⟨n1,hc1,⟨hi1_0,hi1_1,-⟩,hf1⟩;have hf1:=hf1.trans (gk.eq_2 a b s5 n1);refine fl (x:=a.puts.length) fun _=>?_;refine wI hf1 (fun _ hf1=>?_) fun _ hf1=>e1;refine dp (up 11) none (nw 2) ?_;refine vx s5 a.puts ?_;refine vx s5 b.puts ?_;refine wN hf1 (fun _ hf1=>e1) fun _ hf1=>?_;refine bY ?_;exact nx [] (s5+1) hc1 hf1
def cX(act:Int):Int:=
 if act=1 then
  1
 else
  if act=2 then
   2
  else
   if act=3 then
    3
   else
    if act=4 then
     3
    else
     if act=5 then
      4
     else
      if act=6 then
       4
      else
       0
def PC:bf U:=⟨[.d (.int .i64)],fun xs es K=> ∃(act:Int),xs= [(vi act)]∧es= []∧K (.v (vi (cX act))) []⟩
theorem Me:Fk 40 PC:=by
 refine fo Tryz.f40 [.d (.int .i64)] [] (ah) fun xs es K=>?_;rintro⟨act,rfl,rfl,h⟩;refine⟨rfl,?_⟩;have hf0:=cX.eq_1 act;refine wI hf0 (fun _ hf0=>e0) fun _ hf0=>?_;refine wI hf0 (fun _ hf0=>e0) fun _ hf0=>?_;refine wI hf0 (fun _ hf0=>?_) fun _ hf0=>?_
 ·refine vT iD (by omega) ?_;exact e0
 ·refine wI hf0 (fun _ hf0=>e0) fun _ hf0=>?_;refine wI hf0 (fun _ hf0=>?_) fun _ hf0=>wI hf0 (fun _ hf0=>e0) fun _ hf0=>e0;refine vT iD (by omega) ?_;exact e0
def dE(act:Int):Bool:=
 decide (act=1)||decide (act=5)
def PD:bf U:=⟨[.d (.int .i64)],fun xs es K=> ∃(act:Int),xs= [(vi act)]∧es= []∧K (.v (vb (dE act))) []⟩
theorem PE:Fk 88 PD:=by
 refine fo Tryz.f88 [.d .bool] [] (ah) fun xs es K=>?_;rintro⟨act,rfl,rfl,h⟩;refine⟨rfl,?_⟩;have hf0:=dE.eq_1 act;exact e0
def fz(o:sZ):Int:=
 if cX o.act=0 then
  5
 else
  if((3≤o.act)∧(¬(cy o.name=true)))∨((o.act<3)∧(¬o.name= []))then
   3
  else
   if(¬o.val=0)∧(((o.act=3)∨(o.act=4))∨(o.act=6))then
    3
   else
    if(o.act=2)∧((o.val<(-1073741824))∨(1073741824<o.val))then
     2
    else
     0
def PF:bf U:=⟨[.d (.st 16)],fun xs es K=> ∃(o:sZ),xs= [(Ll o)]∧es= []∧K (.v (vi (fz o))) []⟩
theorem PG:Fk 86 PF:=by
 refine fo Tryz.f86 [.d (.int .i64)] [] (aa Me (aa C3 ah)) fun xs es K=>?_;rintro⟨o,rfl,rfl,h⟩;refine⟨rfl,?_⟩;have hf0:=fz.eq_1 o;refine⟨_,rfl,rfl,?_⟩;refine wI hf0 (fun _ hf0=>e0) fun _ hf0=>?_;refine⟨_,fun _=>⟨_,rfl,rfl,rfl,rfl⟩,rfl,?_⟩;exact wI hf0 (fun _ hf0=>e0) fun _ hf0=>wI hf0 (fun _ hf0=>e0) fun _ hf0=>wI hf0 (fun _ hf0=>e0) fun _ hf0=>e0
def fA(a:az)(b:az):Bool:=
 decide (a.kind=b.kind)&&decide (a.reg=b.reg)&&decide (a.num=b.num)&&j2 a.set b.set&&j3 a.map b.map
def PH:bf U:=⟨[.d (.st 10),.d (.st 10)],fun xs es K=> ∃(a:az) (b:az),xs= [(ki a),(ki b)]∧es= []∧K (.v (vb (fA a b))) []⟩
theorem C4:Fk 15 PH:=by
 refine fo Tryz.f15 [.d .bool] [] (aa Pz (aa PB ah)) fun xs es K=>?_;rintro⟨a,b,rfl,rfl,h⟩;refine⟨rfl,?_⟩;have hf0:=fA.eq_1 a b;refine⟨_,fun _=>⟨_,_,rfl,rfl,rfl,rfl⟩,rfl,?_⟩;refine⟨_,fun _=>⟨_,_,rfl,rfl,rfl,rfl⟩,rfl,?_⟩;exact e0
end Go.Proofs.YtiliglahlfkikaaGreatDoor.V
end

section
set_option linter.unusedVariables false
set_option linter.unusedSimpArgs false
namespace Go.Proofs.YtiliglahlfkikaaGreatDoor.V
open Go.RowKit
def GJ(ρf:Nat→Nat):Operand→Operand
 | .func f=> .func (ρf f)
 |x=>x
def CS(ρf ρt:Nat→Nat)(c:Go.Call):Go.Call:={c with callee:=(match c.callee with| .value x=> .value (GJ ρf x)|x=>x),args:=(c.args.toList.map (GJ ρf)).toArray,argTypes:=(c.argTypes.toList.map ρt).toArray}
def I6(ρf ρt:Nat→Nat):Op→Op
 | .alloc t=> .alloc (ρt t)
 | .box t x=> .box (ρt t) x
 | .buildSlice t k ps=> .buildSlice (ρt t) k ps
 | .load t x=> .load (ρt t) x
 | .store t x y=> .store (ρt t) x y
 | .binOp b t x y u=> .binOp b (ρt t) x y (ρt u)
 | .unOp b t x=> .unOp b (ρt t) x
 | .convert t u x=> .convert (ρt t) (ρt u) x
 | .makeSlice t x y=> .makeSlice (ρt t) x y
 | .slice t x l h m=> .slice (ρt t) x l h m
 | .indexAddr t x y=> .indexAddr (ρt t) x y
 | .index t x y=> .index (ρt t) x y
 | .call c=> .call (CS ρf ρt c)
 | .range t x=> .range (ρt t) x
 |o=>o
def LT(ρf ρt:Nat→Nat)(o:Oper):Oper:={o with op:=I6 ρf ρt o.op,type:=ρt o.type}
def gP(ρf ρt:Nat→Nat):Code→Code
 | .region i ops d=> .region i (ops.toList.map (LT ρf ρt)).toArray d
 | .seq a b=> .seq (gP ρf ρt a) (gP ρf ρt b)
 | .cond c a b=> .cond c (gP ρf ρt a) (gP ρf ρt b)
 | .block i a=> .block i (gP ρf ρt a)
 | .loop a=> .loop (gP ρf ρt a)
 | .rangeFunc g ps a b=> .rangeFunc (GJ ρf g) ps (gP ρf ρt a) (gP ρf ρt b)
 |c=>c
def ej(fn:Go.Func):Code:=match fn.body with|some c=>c|none=> .skip
structure Em(U:cn)(Y:List Nat)(w:World)(s:bm) where
 x:TT U.ty s
 c:List Value
 den:aK U Y (· =w) s x c
section
variable {U:cn} {Y:List Nat} {w:World} {s:bm}
theorem Em.hl(e:Em U Y w s):e.c.length=aU U s:=e.den.length
theorem Em.h1(e:Em U Y w s): ∀v∈e.c,v.oneCell'=true:=e.den.one
theorem xc: ∀{xs:List (TT U.ty s)} {cs:List Value},aZ U Y (· =w) s xs cs→ ∃l:List (Em U Y w s),l.map (·.x)=xs∧l.flatMap (·.c)=cs
 | [],cs,h=>⟨[],rfl,(h.nil_inv).symm⟩
 |x::xs,cs,h=>by
  obtain⟨v1,v2,rfl,h1,hl,hr⟩:=h.cons_inv;obtain⟨l,e1,e2⟩:=xc hr;exact⟨⟨x,v1,h1⟩::l,by simp[e1],by simp[e2]⟩
theorem mn: ∀(l:List (Em U Y w s)),aZ U Y (· =w) s (l.map (·.x)) (l.flatMap (·.c))
 | []=> .nil s
 |e::l=> .cons s e.x _ e.c _ e.den e.den.length (mn l)
end
end Go.Proofs.YtiliglahlfkikaaGreatDoor.V
end

section
set_option linter.unusedVariables false
set_option linter.unusedSimpArgs false
namespace Go.Proofs.YtiliglahlfkikaaGreatDoor
open Go.RowKit
section
variable [cO] {P:Program} {n:Nat} {env:aR} {S:World→Prop} {o:Oper}
theorem wc{x:Operand}{t e:Nat}{b:Option Addr}{l c:Nat}(ho:o.op= .call {callee:= .builtin .cap,args:= #[x],argTypes:= #[t]})(hx:env.ev x=some (.slice b l c))(ht:P.underlying t=some (.slice e)):cU P n env S o (.int .i64 c):=fun a r w _=>
 fL ho (r.eval hx) fun cs=>by
  have h:(Builtin.cap_ #[t] o.type #[.slice b l c]).run P w= .ok (goInt c) w:=by simp[Builtin.cap_,run_underlying ht]
  simp only[builtin,Sem.run_bind,h,Result.andThen_ok];rfl
end
theorem lL{α:Type}{enc:α→List Value}{m:Nat}(u:α)(hm:(enc u).length=m)(k:Nat):Builtin.zeroCells (enc u).toArray k=((List.replicate k u).flatMap enc).toArray:=by
 rw[uR,←nB (enc u) k m hm];unfold Builtin.zeroCells madeCells;simp[hm]
section
variable [cO] {P:Program} {n:Nat} {env:aR} {w:World} {o:Oper} {K:aR→World→Prop} {H:cw}
theorem AG{α:Type}{enc:α→List Value}{t tn e m by' c l:Nat}{x y:Operand}{A:Option Addr}{xs:List α}{u:α}{z:List Value}{k kn:IntKind}{q:Int}(ho:o.op= .call {callee:= .builtin .append,args:= #[x,y],argTypes:= #[t,tn]}){d:Nat}(hd:o.dst=some d)(hn:Nat.blt d n=true)
  (hx:env.ev x=some (.slice A l c)) (hy:env.ev y=some (.int k q)) (hl:l=xs.length) (ht:aF P t=some (e,m)) (htn:P.underlying tn=some (.int kn)) (hz:zeroCells P e=some z) (hzu:z=enc u) (hby:(P.info? e).map (·.bytes)=some by') (hm: ∀x,(enc x).length=m) (hm0:0<m)
  (hsrc: ∀ad,A=some ad→ ∀j v,(xs.flatMap enc)[j]? =some v→w.cell? (ad.add j)=some v) (hA:A=none→xs.length=0) (h0:0<q) (hg:(c:Int)<l+q) (h63:l+q≤9223372036854775807) (hbytes:(xs.length+q.toNat)*by'≤140737488355328) (h:Hp w H)
  (hK: ∀g c' sp' w',Ow (some ⟨g,0,none⟩) (xs++List.replicate q.toNat u).length c' m ((xs++List.replicate q.toNat u).flatMap enc) sp'→Hp w' (H++ [(some g,Cl ((xs++List.replicate q.toNat u).flatMap enc++sp') e)])→Fr [] w w'→w.heap.size≤g→K ((d,.slice (some ⟨g,0,none⟩) (xs++List.replicate q.toNat u).length c')::env) w'):ch P n env w o K:=by
 subst hl;obtain⟨j,rfl⟩:=Int.eq_ofNat_of_zero_le (Int.le_of_lt h0);simp only[Int.toNat_natCast]at hK hbytes;obtain⟨hu,hs⟩:=b9 ht;unfold zeroCells at hz;cases hq:P.info? e with
 |none=>simp[hq]at hz
 |some inf=>
  cases hzz:inf.zero with
  |none=>simp[hq,hzz]at hz
  |some z0=>
   have hz':z0.cells=(enc u).toArray:=by simp[hq,hzz]at hz;rw[←hzu,←hz]
   have hms:inf.size=m:=by simpa[hq]using hs
   have hb:inf.bytes=by':=by simpa[hq]using hby
   have hold:(Builtin.firstCells inf.size xs.length (.slice A xs.length c)).run P w.drew= .ok (xs.flatMap enc).toArray w.drew:=by
    cases A with
    |none=>
     have hx0:xs= []:=List.eq_nil_of_length_eq_zero (hA rfl);subst hx0;simp[Builtin.firstCells]
    |some ad=>exact run_firstCells_some (P:=P) w.drew inf.size xs.length ad xs.length c (xs.flatMap enc) (by rw[bv hm,hms]) (by simpa using hsrc ad rfl)
   have h63':((xs.length+j:Nat):Int)≤9223372036854775807:=by omega
   have hjb:j*inf.bytes≤281474976710656:=by
    rw[hb];have:=Nat.mul_le_mul_right by' (show j≤xs.length+j by omega);omega
   have hrun:=Lib.run_append_grow_zeros (P:=P) w t tn o.type e inf z0 k kn hu htn hq hzz A xs.length c (xs.flatMap enc) hold j (by omega) (by omega) (by omega) h63' hjb (growslice_fits (by omega) (by rw[hb];exact hbytes));rw[hz',lL u (hm u),lL u (hm u)]at hrun;have hge:=grownCap_ge w (xs.length+j) c e;have hcm:=grownCap_le_maxLen w (xs.length+j) c e (by unfold maxLen;omega);have e1:((xs.flatMap enc).toArray++((List.replicate j u).flatMap enc).toArray++((List.replicate (grownCap w (xs.length+j) c e -(xs.length+j)) u).flatMap enc).toArray)=((xs++List.replicate j u).flatMap enc++(List.replicate (grownCap w (xs.length+j) c e -(xs.length+j)) u).flatMap enc).toArray:=by simp
   rw[e1]at hrun;have hL:(xs++List.replicate j u).length=xs.length+j:=by simp
   have:=hK w.heap.size (grownCap w (xs.length+j) c e) ((List.replicate (grownCap w (xs.length+j) c e -(xs.length+j)) u).flatMap enc) _ ⟨by rw[bv hm],.inr ⟨_,rfl,by rw[←List.flatMap_append,bv hm,List.length_append,hL,List.length_replicate];congr 1;omega,by rw[hL];exact hge,hcm⟩⟩ (h.drew.alloc _) ((Fr.drew w).step0 (Fr.alloc w.drew _)) (Nat.le_refl _);rw[hL]at this;refine gN hd hn (fun a r=>?_) this;refine fI ho (r.eval hx) (r.eval hy) fun cs=>?_;simp only[builtin,Sem.run_bind,hrun,Result.andThen_ok];rfl
omit [cO]in
theorem yz{α:Type}{enc:α→List Value}{m:Nat}(hm: ∀x,(enc x).length=m)(xs ys:List α)(sp:List Value)(p:Nat)(h:p+ys.length≤xs.length):
  (xs.flatMap enc++sp).take (0+p*m)++ys.flatMap enc++(xs.flatMap enc++sp).drop (0+p*m+(ys.flatMap enc).length)=(xs.take p++ys++xs.drop (p+ys.length)).flatMap enc++sp:=by
 have hlen:=bv hm xs;have h1:p*m≤xs.length*m:=Nat.mul_le_mul_right m (by omega);have h2:(p+ys.length)*m≤xs.length*m:=Nat.mul_le_mul_right m h;rw[Nat.zero_add,bv hm ys,←Nat.add_mul,List.take_append_of_le_length (by rw[hlen];exact h1),List.drop_append_of_le_length (by rw[hlen];exact h2),nG hm,nF hm];simp
theorem xx{α:Type}{enc:α→List Value}{t t' e m g dc g2 b2 sl sc i l c dl k:Nat}{x y:Operand}{xs ys:List α}{sp:List Value}{p:Int}(ho:o.op= .call {callee:= .builtin .copy,args:= #[x,y],argTypes:= #[t,t']}){d:Nat}(hd:o.dst=some d)(hn:Nat.blt d n=true)
  (hx:env.ev x=some (.slice (some ⟨g,0+p.toNat*m,none⟩) dl dc)) (hy:env.ev y=some (.slice (some ⟨g2,b2,none⟩) sl sc)) (ht:aF P t=some (e,m)) (hm: ∀x,(enc x).length=m) (hm0:0<m) (h1: ∀x,∀v∈enc x,v.oneCell'=true) (hk:Nat.min sl dl=ys.length)
  (hvs:w.rangeAt g2 b2 (ys.flatMap enc)) (how:Ow (some ⟨g,0,none⟩) l c m (xs.flatMap enc) sp) (hl:l=xs.length) (h:Hp w H) (hi:H[i]? =some (ak (some ⟨g,0,none⟩),Cl (xs.flatMap enc++sp) k)) (hfit:p.toNat+ys.length≤xs.length)
  (hK: ∀w',Ow (some ⟨g,0,none⟩) l c m ((xs.take p.toNat++ys++xs.drop (p.toNat+ys.length)).flatMap enc) sp→Hp w' (H.set i (ak (some ⟨g,0,none⟩),Cl ((xs.take p.toNat++ys++xs.drop (p.toNat+ys.length)).flatMap enc++sp) k))→Fr [g] w w'→K ((d,(.int .i64 ys.length))::env) w'):ch P n env w o K:=by
 subst hl;have hlen:=bv hm xs;have hys:=bv hm ys;have h2:(p.toNat+ys.length)*m≤xs.length*m:=Nat.mul_le_mul_right m hfit;rw[Nat.add_mul]at h2;refine wg ho hd hn hx hy ht hk hvs hys (fun v hv=>by obtain⟨x,_,hx⟩:=List.mem_flatMap.1 hv;exact h1 x v hx) h hi (by rw[List.length_append,hlen,hys];omega) fun w' hp hf _=>?_;rw[yz hm xs ys sp p.toNat hfit]at hp;have hL:(xs.take p.toNat++ys++xs.drop (p.toNat+ys.length)).length=xs.length:=by simp;omega
 refine hK w' ⟨by rw[bv hm,hL],?_⟩ hp hf;rcases how.2 with⟨h3,_⟩|⟨g',e2,h3,h4,h5⟩
 ·cases h3
 ·exact .inr ⟨g',e2,by rw[←h3,List.length_append,List.length_append,bv hm,hL,hlen],h4,h5⟩
theorem wd{f t tR e m g b g2 b2 la ca lb cb i j ti tj:Nat}{fn:Func}{xs:List Operand}{ts:Array TypeId}{cs cs2:List Value}(ho:o.op= .call {callee:= .value (.func f),args:=xs.toArray,argTypes:=ts}){d:Nat}(hd:o.dst=some d)(hn:Nat.blt d n=true)
  (hf:P.funcs[f]? =some fn) (hname:(fn.name== "runtime.NumGoroutine")=false) (hb:fn.body.isNone=true) (hnx:Extern.findNext fn=none) (hx:Extern.find fn=some (Extern.SlicesOverlaps.overlaps #[t,t] #[tR])) (ht:aF P t=some (e,m))
  (hxs:env.evs xs=some [.slice (some ⟨g,b,none⟩) la ca,.slice (some ⟨g2,b2,none⟩) lb cb]) (h:Hp w H) (hi:H[i]? =some (some g,Cl cs ti)) (hj:H[j]? =some (some g2,Cl cs2 tj)) (hij:i≠j) (hc:cs2.length≠0)
  (hK:K ((d,.bool false)::env) w):ch P n env w o K:=by
 obtain⟨hu,hs⟩:=b9 ht;have hg:=h.at hi;have hg2:=h.at hj;have hne:=h.ne hi hj hij;have hov:=Lib.run_overlaps_apart (P:=P) w t tR e hu m (fun w=>eC hs w) ⟨g,b,none⟩ ⟨g2,b2,none⟩ la ca lb cb hne ti tj cs.length cs2.length (by simp[World.shape?,hg]) (by simp[World.shape?,hg2]) hc (by simp[World.frozen?,hg]) (by simp[World.frozen?,hg]);refine gN hd hn (v:= .bool false) (w':=w) (fun a r=>?_) hK;have e':(xs.toArray.map a.eval)= #[.slice (some ⟨g,b,none⟩) la ca,.slice (some ⟨g2,b2,none⟩) lb cb]:=by rw[List.map_toArray,r.evals hxs]
 unfold execOp;simp only[ho,resolve,e',Act.eval,Deferred.ofValue,Sem.run_bind,Sem.run_pure,Result.andThen_ok,invoke];simp[run_callFunc_extern hf hname hb hnx hx,hov]
theorem Du{α:Type}{enc:α→List Value}{t t' e m g dc sl sc j dl ty mm:Nat}{x y:Operand}{xs:List α}{sp:List Value}{p i:Int}(ho:o.op= .call {callee:= .builtin .copy,args:= #[x,y],argTypes:= #[t,t']}){d:Nat}(hd:o.dst=some d)(hn:Nat.blt d n=true)
  (hx:env.ev x=some (.slice (some ⟨g,0+p.toNat*m,none⟩) dl dc)) (hy:env.ev y=some (.slice (some ⟨g,0+i.toNat*m,none⟩) sl sc)) (ht:aF P t=some (e,m)) (hm: ∀x,(enc x).length=m) (h1: ∀x,∀v∈enc x,v.oneCell'=true) (h0:0≤i) (hp:p.toNat=i.toNat+mm) (hin:i≤xs.length) (hk:Nat.min sl dl=xs.length - i.toNat)
  (h:Hp w H) (hi:H[j]? =some (some g,Cl (xs.flatMap enc++sp) ty)) (hsp:mm*m≤sp.length)
  (hK: ∀hole w',hole.length=mm*m→Hp w' (H.set j (some g,Cl ((xs.take i.toNat).flatMap enc++hole++((xs.drop i.toNat).flatMap enc++sp.drop (mm*m))) ty))→Fr [g] w w'→K ((d,(.int .i64 ((xs.length - i.toNat:Nat):Int)))::env) w'):ch P n env w o K:=by
 have hil:i.toNat≤xs.length:=by omega
 have hlen:=bv hm xs;have hle:i.toNat*m≤xs.length*m:=Nat.mul_le_mul_right m hil;have hA:=nG hm (l:=xs) (k:=i.toNat);have hB:=nF hm (l:=xs) (k:=i.toNat);have hAl:((xs.take i.toNat).flatMap enc).length=i.toNat*m:=by rw[bv hm,List.length_take];congr 1;omega
 have hBl:((xs.drop i.toNat).flatMap enc).length=(xs.length - i.toNat)*m:=by rw[bv hm,List.length_drop]
 have hsplit:xs.flatMap enc=(xs.take i.toNat).flatMap enc++(xs.drop i.toNat).flatMap enc:=by rw[←List.flatMap_append,List.take_append_drop]
 have hvs:w.rangeAt g (0+i.toNat*m) ((xs.drop i.toNat).flatMap enc):=by
  have:=qg (k:=0+i.toNat*m) (m:=((xs.drop i.toNat).flatMap enc).length) h hi;rw[hsplit,Nat.zero_add,List.append_assoc,←hAl,List.drop_left,List.take_left]at this;rw[Nat.zero_add,←hAl];exact this
 have hs:(xs.length - i.toNat)*m=xs.length*m - i.toNat*m:=Nat.sub_mul ..;refine wg (vs:=(xs.drop i.toNat).flatMap enc) ho hd hn hx hy ht hk hvs hBl (fun v hv=>by obtain⟨x,_,hx⟩:=List.mem_flatMap.1 hv;exact h1 x v hx) h hi (by rw[List.length_append,hlen,hBl,hp,Nat.add_mul];omega) fun w' hp' hf _=>?_;refine hK (((xs.drop i.toNat).flatMap enc++sp).take (mm*m)) w' (by rw[List.length_take,List.length_append];omega) ?_ hf;have e1:(xs.flatMap enc++sp).take (0+p.toNat*m)=(xs.take i.toNat).flatMap enc++((xs.drop i.toNat).flatMap enc++sp).take (mm*m):=by
  rw[Nat.zero_add,hp,Nat.add_mul,hsplit,List.append_assoc,List.take_append,hAl,Nat.add_sub_cancel_left,List.take_of_length_le (by rw[hAl];omega)]
 have e2:(xs.flatMap enc++sp).drop (0+p.toNat*m+((xs.drop i.toNat).flatMap enc).length)=sp.drop (mm*m):=by
  rw[Nat.zero_add,hp,Nat.add_mul,hBl,List.drop_append,List.drop_of_length_le (by omega),List.nil_append,hlen];congr 1;omega
 rw[e1,e2]at hp';simpa only[List.append_assoc]using hp'
theorem Hn{α:Type}{enc:α→List Value}{t t' e m g dc g2 b2 sl sc j dl ty:Nat}{x y:Operand}{ys:List α}{us hole bs:List Value}{i:Int}(ho:o.op= .call {callee:= .builtin .copy,args:= #[x,y],argTypes:= #[t,t']}){d:Nat}(hd:o.dst=some d)(hn:Nat.blt d n=true)
  (hx:env.ev x=some (.slice (some ⟨g,0+i.toNat*m,none⟩) dl dc)) (hy:env.ev y=some (.slice (some ⟨g2,b2,none⟩) sl sc)) (ht:aF P t=some (e,m)) (hm: ∀x,(enc x).length=m) (h1: ∀x,∀v∈enc x,v.oneCell'=true) (hk:Nat.min sl dl=ys.length)
  (hvs:w.rangeAt g2 b2 (ys.flatMap enc)) (h:Hp w H) (hi:H[j]? =some (some g,Cl (us++hole++bs) ty)) (ha:us.length=i.toNat*m) (hh:hole.length=ys.length*m)
  (hK: ∀w',Hp w' (H.set j (some g,Cl (us++ys.flatMap enc++bs) ty))→Fr [g] w w'→K ((d,(.int .i64 (ys.length:Int)))::env) w'):ch P n env w o K:=by
 have hys:=bv hm ys;refine wg (vs:=ys.flatMap enc) ho hd hn hx hy ht hk hvs hys (fun v hv=>by obtain⟨x,_,hx⟩:=List.mem_flatMap.1 hv;exact h1 x v hx) h hi (by rw[List.length_append,List.length_append,ha,hys,hh];omega) fun w' hp hf _=>hK w' ?_ hf;have e1:(us++hole++bs).take (0+i.toNat*m)=us:=by rw[Nat.zero_add,←ha,List.append_assoc,List.take_left]
 have e2:(us++hole++bs).drop (0+i.toNat*m+(ys.flatMap enc).length)=bs:=by
  rw[Nat.zero_add,hys,←hh,←ha,←List.length_append,List.drop_left]
 rw[e1,e2]at hp;exact hp
end
section
variable [cO] {P:Program} {n:Nat} {env:aR} {S:World→Prop} {o:Oper}
theorem kP{t e m l c g:Nat}{x:Operand}{lo hi:Option Operand}{p q:Int}(ho:o.op= .slice t x lo hi none)(hx:env.ev x=some (.slice (some ⟨g,0,none⟩) l c))(ht:aF P t=some (e,m))(hlo:jR env lo=some p)(hhi:kb env l hi=some q)
  (h0:0≤p) (h1:p≤q) (h2:q≤c) (hlc:l≤c) (hpc:p<c):cU P n env S o (.slice (some ⟨g,0+p.toNat*m,none⟩) (q.toNat - p.toNat) (c - p.toNat)):=by
 have:=xw (P:=P) (n:=n) (S:=S) ho hx ht hlo hhi h0 h1 h2 hlc;rw[uG (by omega)]at this;exact this
theorem Ho{t e m l c g:Nat}{x:Operand}{hi:Option Operand}{q:Int}(ho:o.op= .slice t x none hi none)(hx:env.ev x=some (.slice (some ⟨g,0,none⟩) l c))(ht:aF P t=some (e,m))(hhi:kb env l hi=some q)
  (h1:0≤q) (h2:q≤c) (hlc:l≤c) (hpc:0<c):cU P n env S o (.slice (some ⟨g,0,none⟩) q.toNat c):=by
 have:=kP (P:=P) (n:=n) (S:=S) ho hx ht (p:=0) rfl hhi (by omega) h1 h2 hlc (by omega);simpa using this
end
section
variable {w:World} {H:cw} {α:Type} {enc:α→List Value} {m i e g:Nat} {xs:List α} {sp:List Value}
theorem re{us:List Value}(h:Hp w H)(hi:H[i]? =some (some g,Cl (us++sp) e)):w.rangeAt g 0 us:=by
 have:=qg (k:=0) (m:=us.length) h hi;rw[List.drop_zero,List.take_left]at this;exact this
theorem we(hm: ∀x,(enc x).length=m)(h:Hp w H)(hi:H[i]? =some (some g,Cl (xs.flatMap enc++sp) e))(p:Nat):w.rangeAt g (0+p*m) ((xs.drop p).flatMap enc):=by
 rcases Nat.le_total p xs.length with hp|hp
 ·have:=qg (k:=0+p*m) (m:=((xs.drop p).flatMap enc).length) h hi;have hA:((xs.take p).flatMap enc).length=p*m:=by rw[bv hm,List.length_take];congr 1;omega
  have hs:xs.flatMap enc=(xs.take p).flatMap enc++(xs.drop p).flatMap enc:=by rw[←List.flatMap_append,List.take_append_drop]
  rw[hs,Nat.zero_add,List.append_assoc,←hA,List.drop_left,List.take_left]at this;rw[Nat.zero_add,←hA];exact this
 ·rw[List.drop_of_length_le hp];intro j v hj;simp at hj
theorem AH(hm: ∀x,(enc x).length=m)(h:Hp w H)(hi:H[i]? =some (some g,Cl (xs.flatMap enc++sp) e))(p:Nat): ∀ad,some (⟨g,0+(0:Int).toNat*m,none⟩:Addr)=some ad→ ∀j v,((xs.take p).flatMap enc)[j]? =some v→w.cell? (ad.add j)=some v:=fun ad e j v hj=>by
 injection e with e;subst e;have h0:(xs.flatMap enc++sp)[j]? =some v:=by
  have hs:xs.flatMap enc=(xs.take p).flatMap enc++(xs.drop p).flatMap enc:=by rw[←List.flatMap_append,List.take_append_drop]
  rw[hs,List.append_assoc,List.getElem?_append_left (List.getElem?_eq_some_iff.1 hj).1];exact hj
 rw[Addr.add_mid];have:=kV h hi h0;simpa using this
end
theorem Ow.lc{A:Option Addr}{l c m:Nat}{xs sp:List Value}(h:Ow A l c m xs sp):l≤c∧c≤9223372036854775807:=by
 rcases h.2 with⟨_,h0,h1,_⟩|⟨g,_,_,h1,h2⟩
 ·omega
 ·unfold maxLen at h2;omega
theorem Ow.room{A:Option Addr}{l c m k:Nat}{xs sp:List Value}(h:Ow A l c m xs sp)(hl:l+k≤c):k*m≤sp.length:=by
 have h0:=h.1;rcases h.2 with⟨_,h2,h3,h4⟩|⟨g,_,h2,h3,h4⟩
 ·have:k=0:=by omega
  subst this;simp
 ·rw[List.length_append,h0]at h2;have:=Nat.mul_le_mul_right m hl;rw[Nat.add_mul]at this;omega
theorem sM{α:Type}(s v:List α){i:Int}(h:i=s.length):s.take i.toNat++v++s.drop i.toNat=s++v:=by
 subst h;simp
theorem pZ{α:Type}(s v:List α)(z:α){i q k:Nat}(hi:i≤s.length)(hq:q=i+v.length)(hk:k=s.length+v.length - i):
  s.take i++v++s.drop i=((((s.take i++List.replicate k z).take i++v++(s.take i++List.replicate k z).drop (i+v.length)).take q)++s.drop i++((s.take i++List.replicate k z).take i++v++(s.take i++List.replicate k z).drop (i+v.length)).drop (q+(s.drop i).length)):=by
 subst hq hk;have h1:(s.take i).length=i:=by rw[List.length_take];omega
 have e1:(s.take i++List.replicate (s.length+v.length - i) z).take i=s.take i:=by
  rw[List.take_append_of_le_length (by omega),List.take_of_length_le (by omega)]
 rw[e1];have h3:((s.take i++List.replicate (s.length+v.length - i) z).drop (i+v.length)).length=(s.drop i).length:=by
  rw[List.length_drop,List.length_append,h1,List.length_replicate,List.length_drop];omega
 revert h3;generalize (s.take i++List.replicate (s.length+v.length - i) z).drop (i+v.length)=R;intro h3;have e2:(s.take i++v).length=i+v.length:=by rw[List.length_append,h1]
 generalize s.take i++v=T at e2⊢;generalize s.drop i=D at h3⊢;rw[←e2,List.take_left,List.drop_of_length_le (by rw[List.length_append];omega),List.append_nil]
theorem Ow.ins{α:Type}{enc:α→List Value}{m l c g:Nat}{s v:List α}{sp:List Value}{i:Nat}(hm: ∀x,(enc x).length=m)(h:Ow (some ⟨g,0,none⟩) l c m (s.flatMap enc) sp)(hl:l=s.length)(hi:i≤s.length)(hc:l+v.length≤c):Ow (some ⟨g,0,none⟩) (s.take i++v++s.drop i).length c m ((s.take i++v++s.drop i).flatMap enc) (sp.drop (v.length*m)):=by
 subst hl;have hroom:=h.room hc;have hL:(s.take i++v++s.drop i).length=s.length+v.length:=by simp;omega
 refine⟨bv hm _,?_⟩;rcases h.2 with⟨h0,_⟩|⟨g',h1,h2,h3,h4⟩
 ·cases h0
 ·refine .inr ⟨g',h1,?_,by omega,h4⟩;rw[List.length_append,bv hm]at h2;rw[List.length_append,bv hm,hL,List.length_drop,Nat.add_mul];omega
end Go.Proofs.YtiliglahlfkikaaGreatDoor
end

section
set_option linter.unusedVariables false
set_option linter.unusedSimpArgs false
namespace Go.Proofs.YtiliglahlfkikaaGreatDoor
open Go.RowKit
section
variable [cO] {P:Program} {n d:Nat} {Q:EQ} {env:aR} {w:World} {o:Oper} {ops:Array Oper} {l:List Oper} {v:Value} {x y:Operand} {K:aR→World→Prop} {c:Code}
theorem sq{x y:Code}(h: ∀K:aR→World→Prop,(∀e v,Wp P n y Q e v→K e v)→Wp P n x (Th K Q) env w):Wp P n (.seq x y) Q env w:=wn h
theorem rg{id:Nat}{l:List Oper}(h:Ls P n l.toArray Q l env w)(hnd:l.all rm=true:=by rfl):Wp P n (.region id l.toArray false) Q env w:=rq h hnd
theorem Ln(hK: ∀e v,Wp P n c Q e v→K e v)(h:Wp P n c Q env w):Ls P n ops (Th K Q) [] env w:=dW (eD (hK _ _ h))
theorem sk(hK: ∀e v,Wp P n c Q e v→K e v)(h:Wp P n c Q env w):Wp P n .skip (Th K Q) env w:=ii (eD (hK _ _ h))
theorem Ly(h:(o.guard,o.dst,Nat.blt d n)=(none,some d,true))(hy:cU P n env (· =w) o v)(hk:Ls P n ops Q l ((d,v)::env) w):Ls P n ops Q (o::l) env w:=by
 simp only[Prod.mk.injEq]at h;exact yD (lh h.1) h.2.1 h.2.2 hy hk
theorem La(h:o.guard=none)(hk:ch P n env w o (fun env' w'=>Ls P n ops Q l env' w')):Ls P n ops Q (o::l) env w:=DM (lh h) hk
theorem Lm(h:(o.guard,o.dst,Nat.blt d n,o.op,env.ev x)=(none,some d,true,.move x,some v))(hk:Ls P n ops Q l ((d,v)::env) w):Ls P n ops Q (o::l) env w:=by
 simp only[Prod.mk.injEq]at h;exact RO h.1 h.2.1 h.2.2.1 h.2.2.2.1 h.2.2.2.2 hk
theorem gA(h:(o.guard,o.dst,Nat.blt d n,o.op,env.ev x)=(none,some d,true,.assign x,some v))(hk:Ls P n ops Q l ((d,v)::env) w):Ls P n ops Q (o::l) env w:=by
 simp only[Prod.mk.injEq]at h;exact RP h.1 h.2.1 h.2.2.1 h.2.2.2.1 h.2.2.2.2 hk
theorem Lx{i:Nat}{vs:Array Value}(h:(o.guard,o.dst,Nat.blt d n,o.op,env.ev x,vs[i]?)=(none,some d,true,.extract x i,some (.tuple vs),some v))(hk:Ls P n ops Q l ((d,v)::env) w):Ls P n ops Q (o::l) env w:=by
 simp only[Prod.mk.injEq]at h;exact RQ h.1 h.2.1 h.2.2.1 h.2.2.2.1 h.2.2.2.2.1 h.2.2.2.2.2 hk
section
variable {b:Operand} {c1 c2:Code} {t:Bool} {p:Prop} [Decidable p]
theorem cB(hb:env.ev b=some (.bool t))(h1:t=true→Wp P n c1 Q env w)(h2: ¬t=true→Wp P n c2 Q env w):Wp P n (.cond b c1 c2) Q env w:=iY hb h1 fun h=>h2 (by simp[h])
theorem cD(hb:env.ev b=some (.bool (decide p)))(h1:p→Wp P n c1 Q env w)(h2: ¬p→Wp P n c2 Q env w):Wp P n (.cond b c1 c2) Q env w:=iY hb (fun h=>h1 (of_decide_eq_true h)) fun h=>h2 (of_decide_eq_false h)
theorem cE{α:Type} [BEq α] [LawfulBEq α]{p q:α}(hb:env.ev b=some (.bool (p==q)))(h1:p=q→Wp P n c1 Q env w)(h2: ¬p=q→Wp P n c2 Q env w):Wp P n (.cond b c1 c2) Q env w:=iY hb (fun h=>h1 (by simpa using h)) fun h=>h2 (by simpa using h)
theorem Pa(hb:env.ev b=some (.bool (!t)))(h1: ¬t=true→Wp P n c1 Q env w)(h2:t=true→Wp P n c2 Q env w):Wp P n (.cond b c1 c2) Q env w:=iY hb (fun h=>h1 (by simpa using h)) fun h=>h2 (by simpa using h)
variable {s:Nat}
theorem bN{α:Type} [BEq α] [LawfulBEq α]{p q:α}(hb:env.get s=some (.bool (p !=q)))(h1: ¬p=q→Ls P n ops Q l ((s,.bool true)::env) w)(h2:p=q→Ls P n ops Q l ((s,.bool false)::env) w):Ls P n ops Q l env w:=Dx s hb (fun h=>h1 (by simpa using h)) fun h=>h2 (by simpa using h)
end
end
section
variable [cO] {P:Program} {n:Nat} {env:aR} {S:World→Prop} {o:Oper} {v:Value} {x y:Operand} {t u:Nat} {k:IntKind} {p q:Int}
theorem yn{b:Bool}(h:(o.op,env.ev x)=(.unOp .not t x,some (.bool b))):cU P n env S o (.bool !b):=by simp only[Prod.mk.injEq]at h;exact xE h.1 h.2
theorem Od(h:(o.op,env.ev x,env.ev y)=(.binOp .eql t x y u,some (.int k p),some (.int k q))):cU P n env S o (.bool (p==q)):=by simp only[Prod.mk.injEq]at h;exact JR h.1 h.2.1 h.2.2
theorem ES(h:(o.op,env.ev x,env.ev y)=(.binOp .lss t x y u,some (.int k p),some (.int k q))):cU P n env S o (.bool (decide (p<q))):=by simp only[Prod.mk.injEq]at h;exact JS h.1 h.2.1 h.2.2
theorem Pb(h:(o.op,env.ev x,env.ev y)=(.binOp .gtr t x y u,some (.int k p),some (.int k q))):cU P n env S o (.bool (decide (q<p))):=by simp only[Prod.mk.injEq]at h;exact JT h.1 h.2.1 h.2.2
theorem AE{e:Nat}{b:Option Addr}{l c:Nat}(h:(o.op,env.ev x)=(.call {callee:= .builtin .len,args:= #[x],argTypes:= #[t]},some (.slice b l c)))(ht:P.underlying t=some (.slice e)):cU P n env S o (.int .i64 l):=by simp only[Prod.mk.injEq]at h;exact qe h.1 h.2 ht
end
section
variable [cO] {P:Program} {n d:Nat} {env:aR} {o:Oper} {v u:Value} {x y:Operand} {t:Nat} {X X0:List Nat} {w w0:World} {H:cw} {K:List Kf} {cs ds us:List Value} {g k m ty:Nat} {Kk:aR→World→Prop}
theorem yl(i:Nat)(ht:eE P t=true)(st:St X w H K)(h:(o.op,env.ev x,H[i]?,cs[k]?)=(.load t x,some (.pointer (some ⟨g,k,none⟩)),some (some g,Cl cs ty),some v)):cU P n env (· =w) o v:=by
 simp only[Prod.mk.injEq]at h;exact sX h.1 h.2.1 ht (fun _ e=>e▸st.hp) h.2.2.1 h.2.2.2
theorem yw(i:Nat)(ht:bB P t=some m)(st:St X w H K)(h:(o.op,env.ev x,H[i]?,cs.length)=(.load t x,some (.pointer (some ⟨g,0,none⟩)),some (some g,Cl cs ty),m)):cU P n env (· =w) o (.agg cs.toArray):=by
 simp only[Prod.mk.injEq]at h;exact sY h.1 h.2.1 ht (fun _ e=>e▸st.hp) h.2.2.1 h.2.2.2
theorem RK(hz:zeroCells P t=some cs)(st:St X w H K)(hF:Fr X0 w0 w)(h:(o.op,o.dst,Nat.blt d n)=(.alloc t,some d,true))(hk: ∀g w',St X w' (H++ [(some g,Cl cs t)]) K→Fr X0 w0 w'→w0.heap.size≤g→Kk ((d,.pointer (some ⟨g,0,none⟩))::env) w'):ch P n env w o Kk:=by
 simp only[Prod.mk.injEq]at h;exact oZ h.1 h.2.1 h.2.2 hz st.hp fun g w' hp hf hg=>hk g w' (st.push hp hf hg) (hF.step0 hf) (Nat.le_trans hF.size hg)
omit [cO]in
theorem RL{g:Nat}{w':World}(hF:Fr X0 w0 w)(hf:Fr [g] w w')(hg:g∈X0∨w0.heap.size≤g):Fr X0 w0 w':=hF.step hf fun y hy=>by simp only[List.mem_singleton]at hy;subst hy;exact hg
omit [cO]in
theorem Dq(h:us.all Value.oneCell'=true): ∀v∈us,v.oneCell'=true:=fun v hv=>List.all_eq_true.1 h v hv
theorem RM(i:Nat)(ht:(P.info? t).map (·.size)=some m)(st:St X w H K)(hF:Fr X0 w0 w)(hg:g∈X0∨w0.heap.size≤g)(h:(o.op,o.dst,env.ev x,env.ev y,us.length,us.all Value.oneCell',H[i]?,cs.length)=(.store t x y,none,some (.pointer (some ⟨g,0,none⟩)),some (.agg us.toArray),m,true,some (some g,Cl cs ty),us.length))(hk: ∀w',St X w' (H.set i (some g,Cl us ty)) K→Fr X0 w0 w'→Kk env w'):ch P n env w o Kk:=by
 simp only[Prod.mk.injEq]at h;obtain⟨h1,h2,h3,h4,h5,h6,h7,h8⟩:=h;exact qh (i:=i) h1 h2 h3 h4 ht h5 (Dq h6) st.hp h7 h8 fun w' hp hf _=>hk w' (st.set h7 hp hf) (RL hF hf hg)
theorem Pc{f:FuncId}{xs:List Operand}{ts:Array TypeId}{vs:List Value}(st:St X w H K)(hF:Fr X0 w0 w)(h:(o.op,o.dst,Nat.blt d n,env.evs xs)=(.call {callee:= .value (.func f),args:=xs.toArray,argTypes:=ts},some d,true,some vs))(hc:Fn P f vs w (fun v' w'=>v'=v∧Fr [] w w'))(hk: ∀w',St X w' H K→Fr X0 w0 w'→Kk ((d,v)::env) w'):ch P n env w o Kk:=by
 simp only[Prod.mk.injEq]at h;exact wo h.1 h.2.1 h.2.2.1 h.2.2.2 hc fun v' w' ⟨hv,hf⟩=>by subst hv;exact hk w' (st.keep0 hf) (hF.step0 hf)
theorem Oe{f:Operand}{fv:Value}{xs:List Operand}{ts:Array TypeId}{vs:List Value}(st:St X w H K)(hF:Fr X0 w0 w)(h:(o.op,o.dst,Nat.blt d n,env.ev f,env.evs xs)=(.call {callee:= .value f,args:=xs.toArray,argTypes:=ts},some d,true,some fv,some vs))(hc:pW P fv vs w (fun v' w'=>v'=v∧Fr [] w w'))(hk: ∀w',St X w' H K→Fr X0 w0 w'→Kk ((d,v)::env) w'):ch P n env w o Kk:=by
 simp only[Prod.mk.injEq]at h;exact nz h.1 h.2.1 h.2.2.1 h.2.2.2.1 h.2.2.2.2 hc fun v' w' ⟨hv,hf⟩=>by subst hv;exact hk w' (st.keep0 hf) (hF.step0 hf)
omit [cO]in
theorem St.q{A:Option Addr}{l c m:Nat}{cs:List Value}(h:St X w H K)(i:Nat)(hi:K[i]? =some (kS A l c m cs)):kg (keys H++X) w A l c m cs:=h.k hi
end
theorem Of{X0:List Nat}{w0:World}{g:Nat}(h:w0.heap.size≤g): ∀g',ak (some (⟨g,0,none⟩:Addr))=some g'→g'∈X0∨w0.heap.size≤g':=fun g' hg=>by simp[ak]at hg;subst hg;exact .inr h
theorem Og{X0:List Nat}{w0:World}: ∀g',ak none=some g'→g'∈X0∨w0.heap.size≤g':=fun g' hg=>by cases hg
section
variable [cO] {α:Type} {enc:α→List Value} {P:Program} {n d:Nat} {env:aR} {o:Oper} {x y:Operand} {t e m by' c sc:Nat} {X X0:List Nat} {w w0:World} {H:cw} {K:List Kf} {A B:Option Addr} {sp z:List Value} {xs ys:List α} {Kk:aR→World→Prop}
theorem LB(xs ys:List α)(i:Nat)(ht:aF P t=some (e,m))(hz:zeroCells P e=some z)(hby:(P.info? e).map (·.bytes)=some by')(hm: ∀x,(enc x).length=m)(h1: ∀x,∀v∈enc x,v.oneCell'=true)(how:Ow A xs.length c m (xs.flatMap enc) sp)(hn: ∀g,ak A=some g→g∈X0∨w0.heap.size≤g)(st:St X w H K)(hF:Fr X0 w0 w)
  (hsrc: ∀ad,B=some ad→ ∀j u,(ys.flatMap enc)[j]? =some u→w.cell? (ad.add j)=some u) (hB:B=none→ys.length=0)
  (h:(o.op,o.dst,Nat.blt d n,env.ev x,env.ev y,z.length,Nat.blt 0 m,H[i]?)=(.call {callee:= .builtin .append,args:= #[x,y],argTypes:= #[t,t]},some d,true,some (.slice A xs.length c),some (.slice B ys.length sc),m,true,some (ak A,Cl (xs.flatMap enc++sp) e))) (h63:xs.length+ys.length≤9223372036854775807) (hbytes:(xs.length+ys.length)*by'≤140737488355328)
  (hk: ∀A' c' sp' w',Ow A' (xs++ys).length c' m ((xs++ys).flatMap enc) sp'→(∀g,ak A'=some g→g∈X0∨w0.heap.size≤g)→St X w' (H.set i (ak A',Cl ((xs++ys).flatMap enc++sp') e)) K→Fr X0 w0 w'→Kk ((d,(.slice A' (xs++ys).length c'))::env) w'):ch P n env w o Kk:=by
 simp only[Prod.mk.injEq]at h;obtain⟨h2,h3,h4,h5,h6,h7,h8,h9⟩:=h;exact HE (i:=i) h2 rfl h3 h4 h5 h6 ht hz h7 hby (by simpa using h8) hm how st.hp h9 hsrc hB h1 (by unfold maxLen;omega) hbytes fun A' c' sp' w' how' hp hf hnw=>hk A' c' sp' w' how' (fun g hg=>(hnw g hg).elim (hn g) (fun h=> .inr (Nat.le_trans hF.size h))) (st.setAny h9 hp hf hnw) (hF.step hf fun y hy=>hn y (by simpa using hy))
theorem RN(ht:aF P t=some (e,m))(hz:zeroCells P e=some z)(st:St X w H K)(hF:Fr X0 w0 w)(h:(o.op,o.dst,Nat.blt d n)=(.buildSlice t 0 #[],some d,true))
  (hk: ∀g w',Ow (some ⟨g,0,none⟩) ([]:List α).length 0 m (([]:List α).flatMap enc) []→(∀g',ak (some ⟨g,0,none⟩)=some g'→g'∈X0∨w0.heap.size≤g')→St X w' (H++ [(ak (some ⟨g,0,none⟩),Cl (([]:List α).flatMap enc++ []) e)]) K→Fr X0 w0 w'→Kk ((d,.slice (some ⟨g,0,none⟩) ([]:List α).length 0)::env) w'):ch P n env w o Kk:=by
 simp only[Prod.mk.injEq]at h;refine Hv h.1 h.2.1 h.2.2 ht hz st.hp fun g w' hp hf hg=>?_;exact hk g w' ⟨by simp,.inr ⟨g,rfl,by simp,Nat.le_refl _,by unfold maxLen;decide⟩⟩ (Of (Nat.le_trans hF.size hg)) (st.push hp hf hg) (hF.step0 hf)
omit [cO]in
theorem St.rowN(enc:α→List Value)(st:St X w H K)(hF:Fr X0 w0 w)(m ty:Nat):St X w (H++ [(ak none,Cl (([]:List α).flatMap enc++ []) ty)]) K∧Ow none ([]:List α).length 0 m (([]:List α).flatMap enc) []∧(∀g',ak none=some g'→g'∈X0∨w0.heap.size≤g'):=⟨st.addN _,Ow.nil m,Og⟩
end
section
variable [cO] {P:Program} {n:Nat} {env:aR} {w:World} {c y:Code} {Q Q1:EQ} {K:aR→World→Prop}
theorem lp(J:Option Nat→aR→World→Prop)(m0:Nat)(e0:aR)(hle:aR.Le e0 env)(h0:J (some m0) e0 w)(hK: ∀e v,Wp P n y Q e v→K e v)(hM: ∀e w,J none e w→Wp P n y Q e w)
  (h:(∀e' e w,aR.Le e e'→J none e w→K e' w)→ ∀m e w,J (some m) e w→Wp P n c (Th (fun env' w'=> ∃m' e',m'<m∧aR.Le e' env'∧J (some m') e' w') Q1) e w):Wp P n (.loop c) Q1 env w:=
 DF hK (J none) hM fun ho=>uI (fun m=>J (some m)) m0 e0 hle h0 (h ho)
def jq(q:Option Nat)(f:Nat→Prop)(p:Prop):Prop:=match q with|some m=>f m|none=>p
end
section
variable [cO] {P:Program} {n d i:Nat} {env:aR} {S:World→Prop} {Q:EQ} {w:World} {o:Oper} {ops:Array Oper} {pl:List (Bool×Nat)} {v:Value} {x:Operand}
theorem Py(h:(ops[i]?,o.guard,o.dst,Nat.blt d n)=(some o,none,some d,true))(hy:cU P n env S o v)(hk:Pl P n ops S Q pl ((d,v)::env) w):Pl P n ops S Q ((true,i)::pl) env w:=by
 simp only[Prod.mk.injEq]at h;exact JN h.1 (lh h.2.1) h.2.2.1 h.2.2.2 hy hk
theorem Pm(h:(ops[i]?,o.guard,o.dst,Nat.blt d n,o.op,env.ev x)=(some o,none,some d,true,.move x,some v))(hk:Pl P n ops S Q pl ((d,v)::env) w):Pl P n ops S Q ((true,i)::pl) env w:=by
 simp only[Prod.mk.injEq]at h;exact RR h.1 h.2.1 h.2.2.1 h.2.2.2.1 h.2.2.2.2.1 h.2.2.2.2.2 hk
end
theorem Dr{X:List Nat}{w:World}(hX:Lo X w):St X w [] []:=St.nil hX
theorem Hj{X:List Nat}{w:World}{A0:Option Addr}{l0 c0 m0:Nat}{s0:List Value}(hX:Lo X w)(h0:kg X w A0 l0 c0 m0 s0):St X w [] [kS A0 l0 c0 m0 s0]:=(Dr hX).addK (kS A0 l0 c0 m0 s0) h0
theorem Oh{X:List Nat}{w:World}{A0:Option Addr}{l0 c0 m0:Nat}{s0:List Value}{A1:Option Addr}{l1 c1 m1:Nat}{s1:List Value}(hX:Lo X w)(h0:kg X w A0 l0 c0 m0 s0)(h1:kg X w A1 l1 c1 m1 s1):St X w [] [kS A0 l0 c0 m0 s0,kS A1 l1 c1 m1 s1]:=(Hj hX h0).addK (kS A1 l1 c1 m1 s1) h1
theorem Oi{X:List Nat}{w:World}{A0:Option Addr}{l0 c0 m0:Nat}{s0:List Value}{A1:Option Addr}{l1 c1 m1:Nat}{s1:List Value}{A2:Option Addr}{l2 c2 m2:Nat}{s2:List Value}(hX:Lo X w)(h0:kg X w A0 l0 c0 m0 s0)(h1:kg X w A1 l1 c1 m1 s1)(h2:kg X w A2 l2 c2 m2 s2):St X w [] [kS A0 l0 c0 m0 s0,kS A1 l1 c1 m1 s1,kS A2 l2 c2 m2 s2]:=(Oh hX h0 h1).addK (kS A2 l2 c2 m2 s2) h2
end Go.Proofs.YtiliglahlfkikaaGreatDoor
end

/- Short forms for printed walks: side conditions are proved where nothing else is said. -/
import Derived.Test.YtiliglahlfkikaaGreatDoorYt12
import Derived.Test.YtiliglahlfkikaaGreatDoorProg
section
set_option linter.unusedVariables false
set_option linter.unusedSimpArgs false
set_option maxRecDepth 20000
namespace Go.Proofs.YtiliglahlfkikaaGreatDoor.V
open Go.RowKit
structure gi where
 origin:Int
 seq:Int
deriving DecidableEq,Inhabited
structure af where
 id:gi
 n:Int
deriving DecidableEq,Inhabited
structure aA where
 time:Int
 origin:Int
deriving DecidableEq,Inhabited
structure ab where
 act:Int
 name:List UInt8
 val:Int
 tag:af
 at_:aA
 tags:List (af)
deriving DecidableEq,Inhabited
structure bt where
 tag:af
 field:List UInt8
 val:Int
 at_:aA
deriving DecidableEq,Inhabited
structure bM where
 val:Int
 at_:aA
deriving DecidableEq,Inhabited
structure bY where
 plus:Int
 minus:Int
deriving DecidableEq,Inhabited
structure ba where
 tag:af
 elem:List UInt8
deriving DecidableEq,Inhabited
structure aY where
 adds:List (ba)
 gone:List (af)
deriving DecidableEq,Inhabited
structure be where
 puts:List (bt)
 gone:List (af)
deriving DecidableEq,Inhabited
structure az where
 kind:Int
 reg:bM
 num:bY
 set:aY
 map:be
deriving DecidableEq,Inhabited
structure EH where
 s:az
 b:List (Int)
 l:List (ab)
 seen:List (af)
deriving DecidableEq,Inhabited
structure aP where
 field:List UInt8
 val:Int
deriving DecidableEq,Inhabited
structure bO where
 kind:Int
 val:Int
 items:List (aP)
deriving DecidableEq,Inhabited
structure xH where
 kind:Int
 e:ab
 v:List (Int)
 more:List (ab)
deriving DecidableEq,Inhabited
structure gX where
 name:Bool
 val:Bool
 at_:Bool
 tags:Bool
deriving DecidableEq,Inhabited
structure wB where
 act:Int
 name:List UInt8
 val:Int
deriving DecidableEq,Inhabited
def ty:Nat→Type|0=>gi|1=>af|2=>aA|3=>ab|4=>bt|5=>bM|6=>bY|7=>ba|8=>aY|9=>be|10=>az|11=>EH|12=>aP|13=>bO|14=>xH|15=>gX|16=>wB|_=>Unit
def QR:RD ty gi where
 sz:=2
 fs:= [(1,.int .i64),(1,.int .u32)]
 to x:=(x.origin,x.seq,())
 toK x K:=K (x.origin,x.seq,())
 ofK:=fun(a0,a1,_) K=>K ⟨a0,a1⟩
 ixK l q K:=K (ix l q)
 eqK a b K:=K (decide (a=b))
 sz_ok:=rfl
 toK_ok _ _ h:=h
 ofK_ok:=fun(a0,a1,_) K h=>⟨_,h,rfl⟩
 ixK_ok l q K h:=⟨_,h,fun y hy=>by unfold ix;rw[hy];rfl⟩
 eqK_ok a b K h:=⟨_,h,by simp⟩
def QS:RD ty af where
 sz:=3
 fs:= [(2,.st 0),(1,.int .i64)]
 to x:=(x.id,x.n,())
 toK x K:=K (x.id,x.n,())
 ofK:=fun(a0,a1,_) K=>K ⟨a0,a1⟩
 ixK l q K:=K (ix l q)
 eqK a b K:=K (decide (a=b))
 sz_ok:=rfl
 toK_ok _ _ h:=h
 ofK_ok:=fun(a0,a1,_) K h=>⟨_,h,rfl⟩
 ixK_ok l q K h:=⟨_,h,fun y hy=>by unfold ix;rw[hy];rfl⟩
 eqK_ok a b K h:=⟨_,h,by simp⟩
def QT:RD ty aA where
 sz:=2
 fs:= [(1,.int .u32),(1,.int .i64)]
 to x:=(x.time,x.origin,())
 toK x K:=K (x.time,x.origin,())
 ofK:=fun(a0,a1,_) K=>K ⟨a0,a1⟩
 ixK l q K:=K (ix l q)
 eqK a b K:=K (decide (a=b))
 sz_ok:=rfl
 toK_ok _ _ h:=h
 ofK_ok:=fun(a0,a1,_) K h=>⟨_,h,rfl⟩
 ixK_ok l q K h:=⟨_,h,fun y hy=>by unfold ix;rw[hy];rfl⟩
 eqK_ok a b K h:=⟨_,h,by simp⟩
def QU:RD ty ab where
 sz:=9
 fs:= [(1,.int .i64),(1,.str),(1,.int .i64),(3,.st 1),(2,.st 2),(1,.sl (.st 1))]
 to x:=(x.act,x.name,x.val,x.tag,x.at_,x.tags,())
 toK x K:=K (x.act,x.name,x.val,x.tag,x.at_,x.tags,())
 ofK:=fun(a0,a1,a2,a3,a4,a5,_) K=>K ⟨a0,a1,a2,a3,a4,a5⟩
 ixK l q K:=K (ix l q)
 eqK a b K:=K (decide (a=b))
 sz_ok:=rfl
 toK_ok _ _ h:=h
 ofK_ok:=fun(a0,a1,a2,a3,a4,a5,_) K h=>⟨_,h,rfl⟩
 ixK_ok l q K h:=⟨_,h,fun y hy=>by unfold ix;rw[hy];rfl⟩
 eqK_ok a b K h:=⟨_,h,by simp⟩
def QV:RD ty bt where
 sz:=7
 fs:= [(3,.st 1),(1,.str),(1,.int .i64),(2,.st 2)]
 to x:=(x.tag,x.field,x.val,x.at_,())
 toK x K:=K (x.tag,x.field,x.val,x.at_,())
 ofK:=fun(a0,a1,a2,a3,_) K=>K ⟨a0,a1,a2,a3⟩
 ixK l q K:=K (ix l q)
 eqK a b K:=K (decide (a=b))
 sz_ok:=rfl
 toK_ok _ _ h:=h
 ofK_ok:=fun(a0,a1,a2,a3,_) K h=>⟨_,h,rfl⟩
 ixK_ok l q K h:=⟨_,h,fun y hy=>by unfold ix;rw[hy];rfl⟩
 eqK_ok a b K h:=⟨_,h,by simp⟩
def QW:RD ty bM where
 sz:=3
 fs:= [(1,.int .i64),(2,.st 2)]
 to x:=(x.val,x.at_,())
 toK x K:=K (x.val,x.at_,())
 ofK:=fun(a0,a1,_) K=>K ⟨a0,a1⟩
 ixK l q K:=K (ix l q)
 eqK a b K:=K (decide (a=b))
 sz_ok:=rfl
 toK_ok _ _ h:=h
 ofK_ok:=fun(a0,a1,_) K h=>⟨_,h,rfl⟩
 ixK_ok l q K h:=⟨_,h,fun y hy=>by unfold ix;rw[hy];rfl⟩
 eqK_ok a b K h:=⟨_,h,by simp⟩
def QX:RD ty bY where
 sz:=2
 fs:= [(1,.int .i64),(1,.int .i64)]
 to x:=(x.plus,x.minus,())
 toK x K:=K (x.plus,x.minus,())
 ofK:=fun(a0,a1,_) K=>K ⟨a0,a1⟩
 ixK l q K:=K (ix l q)
 eqK a b K:=K (decide (a=b))
 sz_ok:=rfl
 toK_ok _ _ h:=h
 ofK_ok:=fun(a0,a1,_) K h=>⟨_,h,rfl⟩
 ixK_ok l q K h:=⟨_,h,fun y hy=>by unfold ix;rw[hy];rfl⟩
 eqK_ok a b K h:=⟨_,h,by simp⟩
def QY:RD ty ba where
 sz:=4
 fs:= [(3,.st 1),(1,.str)]
 to x:=(x.tag,x.elem,())
 toK x K:=K (x.tag,x.elem,())
 ofK:=fun(a0,a1,_) K=>K ⟨a0,a1⟩
 ixK l q K:=K (ix l q)
 eqK a b K:=K (decide (a=b))
 sz_ok:=rfl
 toK_ok _ _ h:=h
 ofK_ok:=fun(a0,a1,_) K h=>⟨_,h,rfl⟩
 ixK_ok l q K h:=⟨_,h,fun y hy=>by unfold ix;rw[hy];rfl⟩
 eqK_ok a b K h:=⟨_,h,by simp⟩
def QZ:RD ty aY where
 sz:=2
 fs:= [(1,.sl (.st 7)),(1,.sl (.st 1))]
 to x:=(x.adds,x.gone,())
 toK x K:=K (x.adds,x.gone,())
 ofK:=fun(a0,a1,_) K=>K ⟨a0,a1⟩
 ixK l q K:=K (ix l q)
 eqK a b K:=K (decide (a=b))
 sz_ok:=rfl
 toK_ok _ _ h:=h
 ofK_ok:=fun(a0,a1,_) K h=>⟨_,h,rfl⟩
 ixK_ok l q K h:=⟨_,h,fun y hy=>by unfold ix;rw[hy];rfl⟩
 eqK_ok a b K h:=⟨_,h,by simp⟩
def Q0:RD ty be where
 sz:=2
 fs:= [(1,.sl (.st 4)),(1,.sl (.st 1))]
 to x:=(x.puts,x.gone,())
 toK x K:=K (x.puts,x.gone,())
 ofK:=fun(a0,a1,_) K=>K ⟨a0,a1⟩
 ixK l q K:=K (ix l q)
 eqK a b K:=K (decide (a=b))
 sz_ok:=rfl
 toK_ok _ _ h:=h
 ofK_ok:=fun(a0,a1,_) K h=>⟨_,h,rfl⟩
 ixK_ok l q K h:=⟨_,h,fun y hy=>by unfold ix;rw[hy];rfl⟩
 eqK_ok a b K h:=⟨_,h,by simp⟩
def NW:RD ty az where
 sz:=10
 fs:= [(1,.int .i64),(3,.st 5),(2,.st 6),(2,.st 8),(2,.st 9)]
 to x:=(x.kind,x.reg,x.num,x.set,x.map,())
 toK x K:=K (x.kind,x.reg,x.num,x.set,x.map,())
 ofK:=fun(a0,a1,a2,a3,a4,_) K=>K ⟨a0,a1,a2,a3,a4⟩
 ixK l q K:=K (ix l q)
 eqK a b K:=K (decide (a=b))
 sz_ok:=rfl
 toK_ok _ _ h:=h
 ofK_ok:=fun(a0,a1,a2,a3,a4,_) K h=>⟨_,h,rfl⟩
 ixK_ok l q K h:=⟨_,h,fun y hy=>by unfold ix;rw[hy];rfl⟩
 eqK_ok a b K h:=⟨_,h,by simp⟩
def NX:RD ty EH where
 sz:=20
 fs:= [(10,.st 10),(8,.arr 8 (.int .u32)),(1,.sl (.st 3)),(1,.sl (.st 1))]
 to x:=(x.s,x.b,x.l,x.seen,())
 toK x K:=K (x.s,x.b,x.l,x.seen,())
 ofK:=fun(a0,a1,a2,a3,_) K=>K ⟨a0,a1,a2,a3⟩
 ixK l q K:=K (ix l q)
 eqK a b K:=K (decide (a=b))
 sz_ok:=rfl
 toK_ok _ _ h:=h
 ofK_ok:=fun(a0,a1,a2,a3,_) K h=>⟨_,h,rfl⟩
 ixK_ok l q K h:=⟨_,h,fun y hy=>by unfold ix;rw[hy];rfl⟩
 eqK_ok a b K h:=⟨_,h,by simp⟩
def NY:RD ty aP where
 sz:=2
 fs:= [(1,.str),(1,.int .i64)]
 to x:=(x.field,x.val,())
 toK x K:=K (x.field,x.val,())
 ofK:=fun(a0,a1,_) K=>K ⟨a0,a1⟩
 ixK l q K:=K (ix l q)
 eqK a b K:=K (decide (a=b))
 sz_ok:=rfl
 toK_ok _ _ h:=h
 ofK_ok:=fun(a0,a1,_) K h=>⟨_,h,rfl⟩
 ixK_ok l q K h:=⟨_,h,fun y hy=>by unfold ix;rw[hy];rfl⟩
 eqK_ok a b K h:=⟨_,h,by simp⟩
def NZ:RD ty bO where
 sz:=3
 fs:= [(1,.int .i64),(1,.int .i64),(1,.sl (.st 12))]
 to x:=(x.kind,x.val,x.items,())
 toK x K:=K (x.kind,x.val,x.items,())
 ofK:=fun(a0,a1,a2,_) K=>K ⟨a0,a1,a2⟩
 ixK l q K:=K (ix l q)
 eqK a b K:=K (decide (a=b))
 sz_ok:=rfl
 toK_ok _ _ h:=h
 ofK_ok:=fun(a0,a1,a2,_) K h=>⟨_,h,rfl⟩
 ixK_ok l q K h:=⟨_,h,fun y hy=>by unfold ix;rw[hy];rfl⟩
 eqK_ok a b K h:=⟨_,h,by simp⟩
def N0:RD ty xH where
 sz:=19
 fs:= [(1,.int .i64),(9,.st 3),(8,.arr 8 (.int .u32)),(1,.sl (.st 3))]
 to x:=(x.kind,x.e,x.v,x.more,())
 toK x K:=K (x.kind,x.e,x.v,x.more,())
 ofK:=fun(a0,a1,a2,a3,_) K=>K ⟨a0,a1,a2,a3⟩
 ixK l q K:=K (ix l q)
 eqK a b K:=K (decide (a=b))
 sz_ok:=rfl
 toK_ok _ _ h:=h
 ofK_ok:=fun(a0,a1,a2,a3,_) K h=>⟨_,h,rfl⟩
 ixK_ok l q K h:=⟨_,h,fun y hy=>by unfold ix;rw[hy];rfl⟩
 eqK_ok a b K h:=⟨_,h,by simp⟩
def N1:RD ty gX where
 sz:=4
 fs:= [(1,.bool),(1,.bool),(1,.bool),(1,.bool)]
 to x:=(x.name,x.val,x.at_,x.tags,())
 toK x K:=K (x.name,x.val,x.at_,x.tags,())
 ofK:=fun(a0,a1,a2,a3,_) K=>K ⟨a0,a1,a2,a3⟩
 ixK l q K:=K (ix l q)
 eqK a b K:=K (decide (a=b))
 sz_ok:=rfl
 toK_ok _ _ h:=h
 ofK_ok:=fun(a0,a1,a2,a3,_) K h=>⟨_,h,rfl⟩
 ixK_ok l q K h:=⟨_,h,fun y hy=>by unfold ix;rw[hy];rfl⟩
 eqK_ok a b K h:=⟨_,h,by simp⟩
def N2:RD ty wB where
 sz:=3
 fs:= [(1,.int .i64),(1,.str),(1,.int .i64)]
 to x:=(x.act,x.name,x.val,())
 toK x K:=K (x.act,x.name,x.val,())
 ofK:=fun(a0,a1,a2,_) K=>K ⟨a0,a1,a2⟩
 ixK l q K:=K (ix l q)
 eqK a b K:=K (decide (a=b))
 sz_ok:=rfl
 toK_ok _ _ h:=h
 ofK_ok:=fun(a0,a1,a2,_) K h=>⟨_,h,rfl⟩
 ixK_ok l q K h:=⟨_,h,fun y hy=>by unfold ix;rw[hy];rfl⟩
 eqK_ok a b K h:=⟨_,h,by simp⟩
def Q2:RD ty Unit where
 sz:=0
 fs:= []
 to x:=()
 toK x K:=False
 ofK:=fun _ _=>False
 ixK _ _ _:=False
 eqK _ _ _:=False
 sz_ok:=rfl
 toK_ok _ _ h:=h.elim
 ofK_ok _ _ h:=h.elim
 ixK_ok _ _ _ h:=h.elim
 eqK_ok _ _ _ h:=h.elim
def U:bQ where
 ty:=ty
 rd:=fun|0=>QR|1=>QS|2=>QT|3=>QU|4=>QV|5=>QW|6=>QX|7=>QY|8=>QZ|9=>Q0|10=>NW|11=>NX|12=>NY|13=>NZ|14=>N0|15=>N1|16=>N2|_+17=>Q2
def G7(a:gi):List Value:= [.int .i64 a.origin,.int .u32 a.seq]
theorem G8{Y:List Nat}{S:World→Prop}{a:gi}{vs:List Value}(h:aD U Y S (.st 0) a vs):vs=G7 a:=by
 obtain⟨h0,_⟩:=aD.inv h;obtain⟨v0,u0,e0,d0,_,h1⟩:=bH.inv h0;obtain⟨g0,_⟩:=aD.inv d0;obtain⟨v1,u1,e1,d1,_,h2⟩:=bH.inv h1;obtain⟨g1,_⟩:=aD.inv d1;have hz:u1= []:=bH.inv h2;rw[e0,e1,g0,g1,hz];rfl
def Ap(a:af):List Value:= [.int .i64 a.id.origin,.int .u32 a.id.seq,.int .i64 a.n]
theorem tO{Y:List Nat}{S:World→Prop}{a:af}{vs:List Value}(h:aD U Y S (.st 1) a vs):vs=Ap a:=by
 obtain⟨h0,_⟩:=aD.inv h;obtain⟨v0,u0,e0,d0,_,h1⟩:=bH.inv h0;have g0:=G8 d0;obtain⟨v1,u1,e1,d1,_,h2⟩:=bH.inv h1;obtain⟨g1,_⟩:=aD.inv d1;have hz:u1= []:=bH.inv h2;rw[e0,e1,g0,g1,hz];rfl
def G9(a:aA):List Value:= [.int .u32 a.time,.int .i64 a.origin]
theorem Do{Y:List Nat}{S:World→Prop}{a:aA}{vs:List Value}(h:aD U Y S (.st 2) a vs):vs=G9 a:=by
 obtain⟨h0,_⟩:=aD.inv h;obtain⟨v0,u0,e0,d0,_,h1⟩:=bH.inv h0;obtain⟨g0,_⟩:=aD.inv d0;obtain⟨v1,u1,e1,d1,_,h2⟩:=bH.inv h1;obtain⟨g1,_⟩:=aD.inv d1;have hz:u1= []:=bH.inv h2;rw[e0,e1,g0,g1,hz];rfl
def Aq(a:bt):List Value:= [.int .i64 a.tag.id.origin,.int .u32 a.tag.id.seq,.int .i64 a.tag.n,sv a.field,.int .i64 a.val,.int .u32 a.at_.time,.int .i64 a.at_.origin]
theorem Dp{Y:List Nat}{S:World→Prop}{a:bt}{vs:List Value}(h:aD U Y S (.st 4) a vs):vs=Aq a:=by
 obtain⟨h0,_⟩:=aD.inv h;obtain⟨v0,u0,e0,d0,_,h1⟩:=bH.inv h0;have g0:=tO d0;obtain⟨v1,u1,e1,d1,_,h2⟩:=bH.inv h1;obtain⟨g1,_⟩:=aD.inv d1;obtain⟨v2,u2,e2,d2,_,h3⟩:=bH.inv h2;obtain⟨g2,_⟩:=aD.inv d2;obtain⟨v3,u3,e3,d3,_,h4⟩:=bH.inv h3;have g3:=Do d3;have hz:u3= []:=bH.inv h4;rw[e0,e1,e2,e3,g0,g1,g2,g3,hz];rfl
def Ar(a:bM):List Value:= [.int .i64 a.val,.int .u32 a.at_.time,.int .i64 a.at_.origin]
theorem Dq{Y:List Nat}{S:World→Prop}{a:bM}{vs:List Value}(h:aD U Y S (.st 5) a vs):vs=Ar a:=by
 obtain⟨h0,_⟩:=aD.inv h;obtain⟨v0,u0,e0,d0,_,h1⟩:=bH.inv h0;obtain⟨g0,_⟩:=aD.inv d0;obtain⟨v1,u1,e1,d1,_,h2⟩:=bH.inv h1;have g1:=Do d1;have hz:u1= []:=bH.inv h2;rw[e0,e1,g0,g1,hz];rfl
def As(a:bY):List Value:= [.int .i64 a.plus,.int .i64 a.minus]
theorem Dr{Y:List Nat}{S:World→Prop}{a:bY}{vs:List Value}(h:aD U Y S (.st 6) a vs):vs=As a:=by
 obtain⟨h0,_⟩:=aD.inv h;obtain⟨v0,u0,e0,d0,_,h1⟩:=bH.inv h0;obtain⟨g0,_⟩:=aD.inv d0;obtain⟨v1,u1,e1,d1,_,h2⟩:=bH.inv h1;obtain⟨g1,_⟩:=aD.inv d1;have hz:u1= []:=bH.inv h2;rw[e0,e1,g0,g1,hz];rfl
def At(a:ba):List Value:= [.int .i64 a.tag.id.origin,.int .u32 a.tag.id.seq,.int .i64 a.tag.n,sv a.elem]
theorem Ds{Y:List Nat}{S:World→Prop}{a:ba}{vs:List Value}(h:aD U Y S (.st 7) a vs):vs=At a:=by
 obtain⟨h0,_⟩:=aD.inv h;obtain⟨v0,u0,e0,d0,_,h1⟩:=bH.inv h0;have g0:=tO d0;obtain⟨v1,u1,e1,d1,_,h2⟩:=bH.inv h1;obtain⟨g1,_⟩:=aD.inv d1;have hz:u1= []:=bH.inv h2;rw[e0,e1,g0,g1,hz];rfl
def tP(a:aP):List Value:= [sv a.field,.int .i64 a.val]
theorem qn{Y:List Nat}{S:World→Prop}{a:aP}{vs:List Value}(h:aD U Y S (.st 12) a vs):vs=tP a:=by
 obtain⟨h0,_⟩:=aD.inv h;obtain⟨v0,u0,e0,d0,_,h1⟩:=bH.inv h0;obtain⟨g0,_⟩:=aD.inv d0;obtain⟨v1,u1,e1,d1,_,h2⟩:=bH.inv h1;obtain⟨g1,_⟩:=aD.inv d1;have hz:u1= []:=bH.inv h2;rw[e0,e1,g0,g1,hz];rfl
def Au(a:gX):List Value:= [.bool a.name,.bool a.val,.bool a.at_,.bool a.tags]
theorem EI{Y:List Nat}{S:World→Prop}{a:gX}{vs:List Value}(h:aD U Y S (.st 15) a vs):vs=Au a:=by
 obtain⟨h0,_⟩:=aD.inv h;obtain⟨v0,u0,e0,d0,_,h1⟩:=bH.inv h0;have g0:=aD.inv d0;obtain⟨v1,u1,e1,d1,_,h2⟩:=bH.inv h1;have g1:=aD.inv d1;obtain⟨v2,u2,e2,d2,_,h3⟩:=bH.inv h2;have g2:=aD.inv d2;obtain⟨v3,u3,e3,d3,_,h4⟩:=bH.inv h3;have g3:=aD.inv d3;have hz:u3= []:=bH.inv h4;rw[e0,e1,e2,e3,g0,g1,g2,g3,hz];rfl
def tQ(a:wB):List Value:= [.int .i64 a.act,sv a.name,.int .i64 a.val]
theorem wC{Y:List Nat}{S:World→Prop}{a:wB}{vs:List Value}(h:aD U Y S (.st 16) a vs):vs=tQ a:=by
 obtain⟨h0,_⟩:=aD.inv h;obtain⟨v0,u0,e0,d0,_,h1⟩:=bH.inv h0;obtain⟨g0,_⟩:=aD.inv d0;obtain⟨v1,u1,e1,d1,_,h2⟩:=bH.inv h1;obtain⟨g1,_⟩:=aD.inv d1;obtain⟨v2,u2,e2,d2,_,h3⟩:=bH.inv h2;obtain⟨g2,_⟩:=aD.inv d2;have hz:u2= []:=bH.inv h3;rw[e0,e1,e2,g0,g1,g2,hz];rfl
theorem JG(a0:Int)(a1:Int)(a2:Int)(b0:Int)(b1:Int)(b2:Int):aT Tryz.prog 8 34 [.int .i64 a0,.int .u32 a1,.int .i64 a2] [.int .i64 b0,.int .u32 b1,.int .i64 b2]=some ((((a0==b0)&&((a1==b1)&&true))&&((a2==b2)&&true))):=by kernel_rfl
theorem Av(a b:af): ∃r,aT Tryz.prog 8 34 (Ap a) (Ap b)=some r∧(r=true↔a=b):=by
 obtain⟨⟨a0,a1⟩,a2⟩:=a;obtain⟨⟨b0,b1⟩,b2⟩:=b;refine⟨_,JG _ _ _ _ _ _,?_⟩;show _↔(af.mk (gi.mk a0 a1) a2)=(af.mk (gi.mk b0 b1) b2)
 simp
theorem JH:iC U Tryz.prog 34 (.st 1):=⟨by kernel_rfl,fun Y S a b vs us h1 h2=>by rw[tO h1,tO h2];exact Av a b⟩
theorem JI(a0:Int)(a1:Int)(b0:Int)(b1:Int):aT Tryz.prog 8 32 [.int .i64 a0,.int .u32 a1] [.int .i64 b0,.int .u32 b1]=some (((a0==b0)&&((a1==b1)&&true))):=by kernel_rfl
theorem JJ(a b:gi): ∃r,aT Tryz.prog 8 32 (G7 a) (G7 b)=some r∧(r=true↔a=b):=by
 obtain⟨a0,a1⟩:=a;obtain⟨b0,b1⟩:=b;refine⟨_,JI _ _ _ _,?_⟩;show _↔(gi.mk a0 a1)=(gi.mk b0 b1)
 simp
theorem N3:iC U Tryz.prog 32 (.st 0):=⟨by kernel_rfl,fun Y S a b vs us h1 h2=>by rw[G8 h1,G8 h2];exact JJ a b⟩
theorem JK(a0:Int)(a1:Int)(a2:Int)(a3:Int)(a4:Int)(a5:Int)(a6:Int)(a7:Int)(b0:Int)(b1:Int)(b2:Int)(b3:Int)(b4:Int)(b5:Int)(b6:Int)(b7:Int):aT Tryz.prog 8 41 [.int .u32 a0,.int .u32 a1,.int .u32 a2,.int .u32 a3,.int .u32 a4,.int .u32 a5,.int .u32 a6,.int .u32 a7] [.int .u32 b0,.int .u32 b1,.int .u32 b2,.int .u32 b3,.int .u32 b4,.int .u32 b5,.int .u32 b6,.int .u32 b7]=some (((a0==b0)&&((a1==b1)&&((a2==b2)&&((a3==b3)&&((a4==b4)&&((a5==b5)&&((a6==b6)&&((a7==b7)&&true))))))))):=by kernel_rfl
theorem JL: ∀a b:List Int,a.length=8→b.length=8→ ∃r,aT Tryz.prog 8 41 (a.map (Value.int .u32)) (b.map (Value.int .u32))=some r∧(r=true↔a=b)
 | [a0,a1,a2,a3,a4,a5,a6,a7],[b0,b1,b2,b3,b4,b5,b6,b7],_,_=>⟨_,JK _ _ _ _ _ _ _ _ _ _ _ _ _ _ _ _,by simp⟩
theorem N4:iC U Tryz.prog 41 (.arr 8 (.int .u32)):=⟨by kernel_rfl,fun Y S a b vs us h1 h2=>by
 obtain⟨h1,l1⟩:=aD.inv h1;obtain⟨h2,l2⟩:=aD.inv h2;rw[jF h1,jF h2];exact JL a b l1 l2⟩
theorem JM(a0:Int)(a1:Int)(a2:Int)(b0:Int)(b1:Int)(b2:Int):aT Tryz.prog 8 51 [.int .i64 a0,.int .u32 a1,.int .i64 a2] [.int .i64 b0,.int .u32 b1,.int .i64 b2]=some (((a0==b0)&&(((a1==b1)&&((a2==b2)&&true))&&true))):=by kernel_rfl
theorem JN(a b:bM): ∃r,aT Tryz.prog 8 51 (Ar a) (Ar b)=some r∧(r=true↔a=b):=by
 obtain⟨a0,⟨a1,a2⟩⟩:=a;obtain⟨b0,⟨b1,b2⟩⟩:=b;refine⟨_,JM _ _ _ _ _ _,?_⟩;show _↔(bM.mk a0 (aA.mk a1 a2))=(bM.mk b0 (aA.mk b1 b2))
 simp
theorem N5:iC U Tryz.prog 51 (.st 5):=⟨by kernel_rfl,fun Y S a b vs us h1 h2=>by rw[Dq h1,Dq h2];exact JN a b⟩
theorem JO(a0:Int)(a1:Int)(b0:Int)(b1:Int):aT Tryz.prog 8 36 [.int .u32 a0,.int .i64 a1] [.int .u32 b0,.int .i64 b1]=some (((a0==b0)&&((a1==b1)&&true))):=by kernel_rfl
theorem JP(a b:aA): ∃r,aT Tryz.prog 8 36 (G9 a) (G9 b)=some r∧(r=true↔a=b):=by
 obtain⟨a0,a1⟩:=a;obtain⟨b0,b1⟩:=b;refine⟨_,JO _ _ _ _,?_⟩;show _↔(aA.mk a0 a1)=(aA.mk b0 b1)
 simp
theorem N6:iC U Tryz.prog 36 (.st 2):=⟨by kernel_rfl,fun Y S a b vs us h1 h2=>by rw[Do h1,Do h2];exact JP a b⟩
theorem JQ(a0:Int)(a1:Int)(b0:Int)(b1:Int):aT Tryz.prog 8 53 [.int .i64 a0,.int .i64 a1] [.int .i64 b0,.int .i64 b1]=some (((a0==b0)&&((a1==b1)&&true))):=by kernel_rfl
theorem JR(a b:bY): ∃r,aT Tryz.prog 8 53 (As a) (As b)=some r∧(r=true↔a=b):=by
 obtain⟨a0,a1⟩:=a;obtain⟨b0,b1⟩:=b;refine⟨_,JQ _ _ _ _,?_⟩;show _↔(bY.mk a0 a1)=(bY.mk b0 b1)
 simp
theorem N7:iC U Tryz.prog 53 (.st 6):=⟨by kernel_rfl,fun Y S a b vs us h1 h2=>by rw[Dr h1,Dr h2];exact JR a b⟩
theorem Hd(a0:Int)(a1:Int)(a2:Int)(a3:List UInt8)(b0:Int)(b1:Int)(b2:Int)(b3:List UInt8):aT Tryz.prog 8 159 [.int .i64 a0,.int .u32 a1,.int .i64 a2,sv a3] [.int .i64 b0,.int .u32 b1,.int .i64 b2,sv b3]=some (((((a0==b0)&&((a1==b1)&&true))&&((a2==b2)&&true))&&((a3==b3)&&true))):=by kernel_rfl
theorem He(a b:ba): ∃r,aT Tryz.prog 8 159 (At a) (At b)=some r∧(r=true↔a=b):=by
 obtain⟨⟨⟨a0,a1⟩,a2⟩,a3⟩:=a;obtain⟨⟨⟨b0,b1⟩,b2⟩,b3⟩:=b;refine⟨_,Hd _ _ _ _ _ _ _ _,?_⟩;show _↔(ba.mk (af.mk (gi.mk a0 a1) a2) a3)=(ba.mk (af.mk (gi.mk b0 b1) b2) b3)
 simp
theorem JS:iC U Tryz.prog 159 (.st 7):=⟨by kernel_rfl,fun Y S a b vs us h1 h2=>by rw[Ds h1,Ds h2];exact He a b⟩
theorem Hg(a0:Int)(a1:Int)(a2:Int)(a3:List UInt8)(a4:Int)(a5:Int)(a6:Int)(b0:Int)(b1:Int)(b2:Int)(b3:List UInt8)(b4:Int)(b5:Int)(b6:Int):aT Tryz.prog 8 164 [.int .i64 a0,.int .u32 a1,.int .i64 a2,sv a3,.int .i64 a4,.int .u32 a5,.int .i64 a6] [.int .i64 b0,.int .u32 b1,.int .i64 b2,sv b3,.int .i64 b4,.int .u32 b5,.int .i64 b6]=some (((((a0==b0)&&((a1==b1)&&true))&&((a2==b2)&&true))&&((a3==b3)&&((a4==b4)&&(((a5==b5)&&((a6==b6)&&true))&&true))))):=by kernel_rfl
theorem Hh(a b:bt): ∃r,aT Tryz.prog 8 164 (Aq a) (Aq b)=some r∧(r=true↔a=b):=by
 obtain⟨⟨⟨a0,a1⟩,a2⟩,a3,a4,⟨a5,a6⟩⟩:=a;obtain⟨⟨⟨b0,b1⟩,b2⟩,b3,b4,⟨b5,b6⟩⟩:=b;refine⟨_,Hg _ _ _ _ _ _ _ _ _ _ _ _ _ _,?_⟩;show _↔(bt.mk (af.mk (gi.mk a0 a1) a2) a3 a4 (aA.mk a5 a6))=(bt.mk (af.mk (gi.mk b0 b1) b2) b3 b4 (aA.mk b5 b6))
 simp
theorem JT:iC U Tryz.prog 164 (.st 4):=⟨by kernel_rfl,fun Y S a b vs us h1 h2=>by rw[Dp h1,Dp h2];exact Hh a b⟩
theorem Hi(a0:Int)(a1:Int)(a2:Int)(a3:List UInt8)(b0:Int)(b1:Int)(b2:Int)(b3:List UInt8):aT Tryz.prog 8 178 [.int .i64 a0,.int .u32 a1,.int .i64 a2,sv a3] [.int .i64 b0,.int .u32 b1,.int .i64 b2,sv b3]=some (((((a0==b0)&&((a1==b1)&&true))&&((a2==b2)&&true))&&((a3==b3)&&true))):=by kernel_rfl
theorem Hj(a b:ba): ∃r,aT Tryz.prog 8 178 (At a) (At b)=some r∧(r=true↔a=b):=by
 obtain⟨⟨⟨a0,a1⟩,a2⟩,a3⟩:=a;obtain⟨⟨⟨b0,b1⟩,b2⟩,b3⟩:=b;refine⟨_,Hi _ _ _ _ _ _ _ _,?_⟩;show _↔(ba.mk (af.mk (gi.mk a0 a1) a2) a3)=(ba.mk (af.mk (gi.mk b0 b1) b2) b3)
 simp
theorem JU:iC U Tryz.prog 178 (.st 7):=⟨by kernel_rfl,fun Y S a b vs us h1 h2=>by rw[Ds h1,Ds h2];exact Hj a b⟩
theorem Hl(a0:Int)(a1:Int)(a2:Int)(a3:List UInt8)(a4:Int)(a5:Int)(a6:Int)(b0:Int)(b1:Int)(b2:Int)(b3:List UInt8)(b4:Int)(b5:Int)(b6:Int):aT Tryz.prog 8 182 [.int .i64 a0,.int .u32 a1,.int .i64 a2,sv a3,.int .i64 a4,.int .u32 a5,.int .i64 a6] [.int .i64 b0,.int .u32 b1,.int .i64 b2,sv b3,.int .i64 b4,.int .u32 b5,.int .i64 b6]=some (((((a0==b0)&&((a1==b1)&&true))&&((a2==b2)&&true))&&((a3==b3)&&((a4==b4)&&(((a5==b5)&&((a6==b6)&&true))&&true))))):=by kernel_rfl
theorem Hm(a b:bt): ∃r,aT Tryz.prog 8 182 (Aq a) (Aq b)=some r∧(r=true↔a=b):=by
 obtain⟨⟨⟨a0,a1⟩,a2⟩,a3,a4,⟨a5,a6⟩⟩:=a;obtain⟨⟨⟨b0,b1⟩,b2⟩,b3,b4,⟨b5,b6⟩⟩:=b;refine⟨_,Hl _ _ _ _ _ _ _ _ _ _ _ _ _ _,?_⟩;show _↔(bt.mk (af.mk (gi.mk a0 a1) a2) a3 a4 (aA.mk a5 a6))=(bt.mk (af.mk (gi.mk b0 b1) b2) b3 b4 (aA.mk b5 b6))
 simp
theorem JV:iC U Tryz.prog 182 (.st 4):=⟨by kernel_rfl,fun Y S a b vs us h1 h2=>by rw[Dp h1,Dp h2];exact Hm a b⟩
theorem JW(a0:Int)(a1:Int)(a2:Int)(b0:Int)(b1:Int)(b2:Int):aT Tryz.prog 8 66 [.int .i64 a0,.int .u32 a1,.int .i64 a2] [.int .i64 b0,.int .u32 b1,.int .i64 b2]=some (((a0==b0)&&(((a1==b1)&&((a2==b2)&&true))&&true))):=by kernel_rfl
theorem JX(a b:bM): ∃r,aT Tryz.prog 8 66 (Ar a) (Ar b)=some r∧(r=true↔a=b):=by
 obtain⟨a0,⟨a1,a2⟩⟩:=a;obtain⟨b0,⟨b1,b2⟩⟩:=b;refine⟨_,JW _ _ _ _ _ _,?_⟩;show _↔(bM.mk a0 (aA.mk a1 a2))=(bM.mk b0 (aA.mk b1 b2))
 simp
theorem N8:iC U Tryz.prog 66 (.st 5):=⟨by kernel_rfl,fun Y S a b vs us h1 h2=>by rw[Dq h1,Dq h2];exact JX a b⟩
theorem JY(a0:Int)(a1:Int)(b0:Int)(b1:Int):aT Tryz.prog 8 67 [.int .i64 a0,.int .i64 a1] [.int .i64 b0,.int .i64 b1]=some (((a0==b0)&&((a1==b1)&&true))):=by kernel_rfl
theorem JZ(a b:bY): ∃r,aT Tryz.prog 8 67 (As a) (As b)=some r∧(r=true↔a=b):=by
 obtain⟨a0,a1⟩:=a;obtain⟨b0,b1⟩:=b;refine⟨_,JY _ _ _ _,?_⟩;show _↔(bY.mk a0 a1)=(bY.mk b0 b1)
 simp
theorem N9:iC U Tryz.prog 67 (.st 6):=⟨by kernel_rfl,fun Y S a b vs us h1 h2=>by rw[Dr h1,Dr h2];exact JZ a b⟩
theorem Hn(a0:List UInt8)(a1:Int)(b0:List UInt8)(b1:Int):aT Tryz.prog 8 134 [sv a0,.int .i64 a1] [sv b0,.int .i64 b1]=some (((a0==b0)&&((a1==b1)&&true))):=by kernel_rfl
theorem Ho(a b:aP): ∃r,aT Tryz.prog 8 134 (tP a) (tP b)=some r∧(r=true↔a=b):=by
 obtain⟨a0,a1⟩:=a;obtain⟨b0,b1⟩:=b;refine⟨_,Hn _ _ _ _,?_⟩;show _↔(aP.mk a0 a1)=(aP.mk b0 b1)
 simp
theorem J0:iC U Tryz.prog 134 (.st 12):=⟨by kernel_rfl,fun Y S a b vs us h1 h2=>by rw[qn h1,qn h2];exact Ho a b⟩
theorem Hq(a0:Bool)(a1:Bool)(a2:Bool)(a3:Bool)(b0:Bool)(b1:Bool)(b2:Bool)(b3:Bool):aT Tryz.prog 8 149 [.bool a0,.bool a1,.bool a2,.bool a3] [.bool b0,.bool b1,.bool b2,.bool b3]=some (((a0==b0)&&((a1==b1)&&((a2==b2)&&((a3==b3)&&true))))):=by kernel_rfl
theorem Hr(a b:gX): ∃r,aT Tryz.prog 8 149 (Au a) (Au b)=some r∧(r=true↔a=b):=by
 obtain⟨a0,a1,a2,a3⟩:=a;obtain⟨b0,b1,b2,b3⟩:=b;refine⟨_,Hq _ _ _ _ _ _ _ _,?_⟩;show _↔(gX.mk a0 a1 a2 a3)=(gX.mk b0 b1 b2 b3)
 simp
theorem J1:iC U Tryz.prog 149 (.st 15):=⟨by kernel_rfl,fun Y S a b vs us h1 h2=>by rw[EI h1,EI h2];exact Hr a b⟩
theorem Ht(a0:List UInt8)(a1:Int)(b0:List UInt8)(b1:Int):aT Tryz.prog 8 135 [sv a0,.int .i64 a1] [sv b0,.int .i64 b1]=some (((a0==b0)&&((a1==b1)&&true))):=by kernel_rfl
theorem Hv(a b:aP): ∃r,aT Tryz.prog 8 135 (tP a) (tP b)=some r∧(r=true↔a=b):=by
 obtain⟨a0,a1⟩:=a;obtain⟨b0,b1⟩:=b;refine⟨_,Ht _ _ _ _,?_⟩;show _↔(aP.mk a0 a1)=(aP.mk b0 b1)
 simp
theorem J2:iC U Tryz.prog 135 (.st 12):=⟨by kernel_rfl,fun Y S a b vs us h1 h2=>by rw[qn h1,qn h2];exact Hv a b⟩
theorem Hw(a0:Int)(a1:List UInt8)(a2:Int)(b0:Int)(b1:List UInt8)(b2:Int):aT Tryz.prog 8 168 [.int .i64 a0,sv a1,.int .i64 a2] [.int .i64 b0,sv b1,.int .i64 b2]=some (((a0==b0)&&((a1==b1)&&((a2==b2)&&true)))):=by kernel_rfl
theorem Hy(a b:wB): ∃r,aT Tryz.prog 8 168 (tQ a) (tQ b)=some r∧(r=true↔a=b):=by
 obtain⟨a0,a1,a2⟩:=a;obtain⟨b0,b1,b2⟩:=b;refine⟨_,Hw _ _ _ _ _ _,?_⟩;show _↔(wB.mk a0 a1 a2)=(wB.mk b0 b1 b2)
 simp
theorem J3:iC U Tryz.prog 168 (.st 16):=⟨by kernel_rfl,fun Y S a b vs us h1 h2=>by rw[wC h1,wC h2];exact Hy a b⟩
theorem Hz(a0:Int)(a1:List UInt8)(a2:Int)(b0:Int)(b1:List UInt8)(b2:Int):aT Tryz.prog 8 146 [.int .i64 a0,sv a1,.int .i64 a2] [.int .i64 b0,sv b1,.int .i64 b2]=some (((a0==b0)&&((a1==b1)&&((a2==b2)&&true)))):=by kernel_rfl
theorem HA(a b:wB): ∃r,aT Tryz.prog 8 146 (tQ a) (tQ b)=some r∧(r=true↔a=b):=by
 obtain⟨a0,a1,a2⟩:=a;obtain⟨b0,b1,b2⟩:=b;refine⟨_,Hz _ _ _ _ _ _,?_⟩;show _↔(wB.mk a0 a1 a2)=(wB.mk b0 b1 b2)
 simp
theorem J4:iC U Tryz.prog 146 (.st 16):=⟨by kernel_rfl,fun Y S a b vs us h1 h2=>by rw[wC h1,wC h2];exact HA a b⟩
theorem HB(a0:Int)(a1:Int)(b0:Int)(b1:Int):aT Tryz.prog 8 246 [.int .i64 a0,.int .i64 a1] [.int .i64 b0,.int .i64 b1]=some (((a0==b0)&&((a1==b1)&&true))):=by kernel_rfl
theorem HC: ∀a b:List Int,a.length=2→b.length=2→ ∃r,aT Tryz.prog 8 246 (a.map (Value.int .i64)) (b.map (Value.int .i64))=some r∧(r=true↔a=b)
 | [a0,a1],[b0,b1],_,_=>⟨_,HB _ _ _ _,by simp⟩
theorem J5:iC U Tryz.prog 246 (.arr 2 (.int .i64)):=⟨by kernel_rfl,fun Y S a b vs us h1 h2=>by
 obtain⟨h1,l1⟩:=aD.inv h1;obtain⟨h2,l2⟩:=aD.inv h2;rw[jF h1,jF h2];exact HC a b l1 l2⟩
def OH:TI U:=⟨1,.int .i64,8,[],some (.int .i64),false,[(1,.d (.int .i64) (0:Int))],none⟩
theorem HD:aZ U Tryz.prog 3 OH:=aR [.i .i64] rfl (by kernel_rfl) rfl (by kernel_rfl) (by kernel_rfl) (show Tryz.prog.underlying 3=some (.int .i64)by kernel_rfl) (by kernel_rfl) (by kernel_rfl) (by kernel_rfl) (fun i h1 h2=>by cases h2) (fun d h=>by cases h)
def J6:TI U:=⟨1,.sl 34,24,[],some (.sl (.st 1)),false,[(1,.nils)],none⟩
theorem Dt:aZ U Tryz.prog 37 J6:=aR [.l] rfl (by kernel_rfl) rfl (by kernel_rfl) (by kernel_rfl) (show Tryz.prog.underlying 37=some (.slice 34)by kernel_rfl) (by kernel_rfl) (by kernel_rfl) (by kernel_rfl) (fun i h1 h2=>by cases h2) (fun d h=>by cases h)
def J7:TI U:=⟨3,.st,24,[(0,32),(2,3)],some (.st 1),true,[(1,.d (.int .i64) (0:Int)),(1,.d (.int .u32) (0:Int)),(1,.d (.int .i64) (0:Int))],none⟩
theorem iy:aZ U Tryz.prog 34 J7:=aR [.i .i64,.i .u32,.i .i64] rfl (by kernel_rfl) rfl (by kernel_rfl) (by kernel_rfl) ⟨_,rfl⟩ rfl (by kernel_rfl) (by kernel_rfl) (fun i h1 h2=>⟨rfl,by injection h1 with h1;subst h1;exact JH⟩) (fun d h=>by cases h)
def J8:TI U:=⟨2,.st,16,[(0,3),(1,30)],some (.st 0),true,[(1,.d (.int .i64) (0:Int)),(1,.d (.int .u32) (0:Int))],none⟩
theorem Du:aZ U Tryz.prog 32 J8:=aR [.i .i64,.i .u32] rfl (by kernel_rfl) rfl (by kernel_rfl) (by kernel_rfl) ⟨_,rfl⟩ rfl (by kernel_rfl) (by kernel_rfl) (fun i h1 h2=>⟨rfl,by injection h1 with h1;subst h1;exact N3⟩) (fun d h=>by cases h)
def J9:TI U:=⟨1,.int .u32,4,[],some (.int .u32),false,[(1,.d (.int .u32) (0:Int))],none⟩
theorem Dv:aZ U Tryz.prog 30 J9:=aR [.i .u32] rfl (by kernel_rfl) rfl (by kernel_rfl) (by kernel_rfl) (show Tryz.prog.underlying 30=some (.int .u32)by kernel_rfl) (by kernel_rfl) (by kernel_rfl) (by kernel_rfl) (fun i h1 h2=>by cases h2) (fun d h=>by cases h)
def Kb:TI U:=⟨8,.arr 8 30,32,[],some (.arr 8 (.int .u32)),true,[(1,.d (.int .u32) (0:Int)),(1,.d (.int .u32) (0:Int)),(1,.d (.int .u32) (0:Int)),(1,.d (.int .u32) (0:Int)),(1,.d (.int .u32) (0:Int)),(1,.d (.int .u32) (0:Int)),(1,.d (.int .u32) (0:Int)),(1,.d (.int .u32) (0:Int))],none⟩
theorem Dw:aZ U Tryz.prog 41 Kb:=aR [.i .u32,.i .u32,.i .u32,.i .u32,.i .u32,.i .u32,.i .u32,.i .u32] rfl (by kernel_rfl) rfl (by kernel_rfl) (by kernel_rfl) (show Tryz.prog.underlying 41=some (.array 8 30)by kernel_rfl) (by kernel_rfl) (by kernel_rfl) (by kernel_rfl) (fun i h1 h2=>⟨rfl,by injection h1 with h1;subst h1;exact N4⟩) (fun d h=>by cases h)
def Kc:TI U:=⟨10,.st,144,[(0,3),(1,51),(4,53),(6,56),(8,59)],some (.st 10),false,[(1,.d (.int .i64) (0:Int)),(1,.d (.int .i64) (0:Int)),(1,.d (.int .u32) (0:Int)),(1,.d (.int .i64) (0:Int)),(1,.d (.int .i64) (0:Int)),(1,.d (.int .i64) (0:Int)),(1,.nils),(1,.nils),(1,.nils),(1,.nils)],none⟩
theorem Dx:aZ U Tryz.prog 61 Kc:=aR [.i .i64,.i .i64,.i .u32,.i .i64,.i .i64,.i .i64,.l,.l,.l,.l] rfl (by kernel_rfl) rfl (by kernel_rfl) (by kernel_rfl) ⟨_,rfl⟩ rfl (by kernel_rfl) (by kernel_rfl) (fun i h1 h2=>by cases h2) (fun d h=>by cases h)
def Ke:TI U:=⟨3,.st,24,[(0,2),(1,36)],some (.st 5),true,[(1,.d (.int .i64) (0:Int)),(1,.d (.int .u32) (0:Int)),(1,.d (.int .i64) (0:Int))],none⟩
theorem Dy:aZ U Tryz.prog 51 Ke:=aR [.i .i64,.i .u32,.i .i64] rfl (by kernel_rfl) rfl (by kernel_rfl) (by kernel_rfl) ⟨_,rfl⟩ rfl (by kernel_rfl) (by kernel_rfl) (fun i h1 h2=>⟨rfl,by injection h1 with h1;subst h1;exact N5⟩) (fun d h=>by cases h)
def OI:TI U:=⟨1,.int .i64,8,[],some (.int .i64),false,[(1,.d (.int .i64) (0:Int))],none⟩
theorem HE:aZ U Tryz.prog 2 OI:=aR [.i .i64] rfl (by kernel_rfl) rfl (by kernel_rfl) (by kernel_rfl) (show Tryz.prog.underlying 2=some (.int .i64)by kernel_rfl) (by kernel_rfl) (by kernel_rfl) (by kernel_rfl) (fun i h1 h2=>by cases h2) (fun d h=>by cases h)
def Kg:TI U:=⟨2,.st,16,[(0,30),(1,3)],some (.st 2),true,[(1,.d (.int .u32) (0:Int)),(1,.d (.int .i64) (0:Int))],none⟩
theorem Dz:aZ U Tryz.prog 36 Kg:=aR [.i .u32,.i .i64] rfl (by kernel_rfl) rfl (by kernel_rfl) (by kernel_rfl) ⟨_,rfl⟩ rfl (by kernel_rfl) (by kernel_rfl) (fun i h1 h2=>⟨rfl,by injection h1 with h1;subst h1;exact N6⟩) (fun d h=>by cases h)
def Kh:TI U:=⟨2,.st,16,[(0,2),(1,2)],some (.st 6),true,[(1,.d (.int .i64) (0:Int)),(1,.d (.int .i64) (0:Int))],none⟩
theorem DA:aZ U Tryz.prog 53 Kh:=aR [.i .i64,.i .i64] rfl (by kernel_rfl) rfl (by kernel_rfl) (by kernel_rfl) ⟨_,rfl⟩ rfl (by kernel_rfl) (by kernel_rfl) (fun i h1 h2=>⟨rfl,by injection h1 with h1;subst h1;exact N7⟩) (fun d h=>by cases h)
def Ki:TI U:=⟨2,.st,48,[(0,54),(1,37)],some (.st 8),false,[(1,.nils),(1,.nils)],none⟩
theorem DB:aZ U Tryz.prog 56 Ki:=aR [.l,.l] rfl (by kernel_rfl) rfl (by kernel_rfl) (by kernel_rfl) ⟨_,rfl⟩ rfl (by kernel_rfl) (by kernel_rfl) (fun i h1 h2=>by cases h2) (fun d h=>by cases h)
def Kj:TI U:=⟨1,.sl 159,24,[],some (.sl (.st 7)),false,[(1,.nils)],none⟩
theorem DC:aZ U Tryz.prog 54 Kj:=aR [.l] rfl (by kernel_rfl) rfl (by kernel_rfl) (by kernel_rfl) (show Tryz.prog.underlying 54=some (.slice 159)by kernel_rfl) (by kernel_rfl) (by kernel_rfl) (by kernel_rfl) (fun i h1 h2=>by cases h2) (fun d h=>by cases h)
def EJ:TI U:=⟨4,.st,40,[(0,34),(3,9)],some (.st 7),true,[(1,.d (.int .i64) (0:Int)),(1,.d (.int .u32) (0:Int)),(1,.d (.int .i64) (0:Int)),(1,.d .str ([]:List UInt8))],none⟩
theorem jX:aZ U Tryz.prog 159 EJ:=aR [.i .i64,.i .u32,.i .i64,.s] rfl (by kernel_rfl) rfl (by kernel_rfl) (by kernel_rfl) ⟨_,rfl⟩ rfl (by kernel_rfl) (by kernel_rfl) (fun i h1 h2=>⟨rfl,by injection h1 with h1;subst h1;exact JS⟩) (fun d h=>by cases h)
def OJ:TI U:=⟨1,.str,16,[],some (.str),false,[(1,.d .str ([]:List UInt8))],none⟩
theorem HF:aZ U Tryz.prog 9 OJ:=aR [.s] rfl (by kernel_rfl) rfl (by kernel_rfl) (by kernel_rfl) (show Tryz.prog.underlying 9=some .string by kernel_rfl) (by kernel_rfl) (by kernel_rfl) (by kernel_rfl) (fun i h1 h2=>by cases h2) (fun d h=>by cases h)
def Kl:TI U:=⟨2,.st,48,[(0,57),(1,37)],some (.st 9),false,[(1,.nils),(1,.nils)],none⟩
theorem DD:aZ U Tryz.prog 59 Kl:=aR [.l,.l] rfl (by kernel_rfl) rfl (by kernel_rfl) (by kernel_rfl) ⟨_,rfl⟩ rfl (by kernel_rfl) (by kernel_rfl) (fun i h1 h2=>by cases h2) (fun d h=>by cases h)
def Km:TI U:=⟨1,.sl 164,24,[],some (.sl (.st 4)),false,[(1,.nils)],none⟩
theorem DE:aZ U Tryz.prog 57 Km:=aR [.l] rfl (by kernel_rfl) rfl (by kernel_rfl) (by kernel_rfl) (show Tryz.prog.underlying 57=some (.slice 164)by kernel_rfl) (by kernel_rfl) (by kernel_rfl) (by kernel_rfl) (fun i h1 h2=>by cases h2) (fun d h=>by cases h)
def EK:TI U:=⟨7,.st,64,[(0,34),(3,9),(4,2),(5,36)],some (.st 4),true,[(1,.d (.int .i64) (0:Int)),(1,.d (.int .u32) (0:Int)),(1,.d (.int .i64) (0:Int)),(1,.d .str ([]:List UInt8)),(1,.d (.int .i64) (0:Int)),(1,.d (.int .u32) (0:Int)),(1,.d (.int .i64) (0:Int))],none⟩
theorem jY:aZ U Tryz.prog 164 EK:=aR [.i .i64,.i .u32,.i .i64,.s,.i .i64,.i .u32,.i .i64] rfl (by kernel_rfl) rfl (by kernel_rfl) (by kernel_rfl) ⟨_,rfl⟩ rfl (by kernel_rfl) (by kernel_rfl) (fun i h1 h2=>⟨rfl,by injection h1 with h1;subst h1;exact JT⟩) (fun d h=>by cases h)
def Kn:TI U:=⟨2,.st,48,[(0,68),(1,37)],some (.st 8),false,[(1,.nils),(1,.nils)],none⟩
theorem DF:aZ U Tryz.prog 70 Kn:=aR [.l,.l] rfl (by kernel_rfl) rfl (by kernel_rfl) (by kernel_rfl) ⟨_,rfl⟩ rfl (by kernel_rfl) (by kernel_rfl) (fun i h1 h2=>by cases h2) (fun d h=>by cases h)
def Ko:TI U:=⟨1,.sl 178,24,[],some (.sl (.st 7)),false,[(1,.nils)],none⟩
theorem DG:aZ U Tryz.prog 68 Ko:=aR [.l] rfl (by kernel_rfl) rfl (by kernel_rfl) (by kernel_rfl) (show Tryz.prog.underlying 68=some (.slice 178)by kernel_rfl) (by kernel_rfl) (by kernel_rfl) (by kernel_rfl) (fun i h1 h2=>by cases h2) (fun d h=>by cases h)
def EL:TI U:=⟨4,.st,40,[(0,34),(3,9)],some (.st 7),true,[(1,.d (.int .i64) (0:Int)),(1,.d (.int .u32) (0:Int)),(1,.d (.int .i64) (0:Int)),(1,.d .str ([]:List UInt8))],none⟩
theorem Aw:aZ U Tryz.prog 178 EL:=aR [.i .i64,.i .u32,.i .i64,.s] rfl (by kernel_rfl) rfl (by kernel_rfl) (by kernel_rfl) ⟨_,rfl⟩ rfl (by kernel_rfl) (by kernel_rfl) (fun i h1 h2=>⟨rfl,by injection h1 with h1;subst h1;exact JU⟩) (fun d h=>by cases h)
def Kp:TI U:=⟨2,.st,48,[(0,71),(1,37)],some (.st 9),false,[(1,.nils),(1,.nils)],none⟩
theorem DH:aZ U Tryz.prog 73 Kp:=aR [.l,.l] rfl (by kernel_rfl) rfl (by kernel_rfl) (by kernel_rfl) ⟨_,rfl⟩ rfl (by kernel_rfl) (by kernel_rfl) (fun i h1 h2=>by cases h2) (fun d h=>by cases h)
def Kq:TI U:=⟨1,.sl 182,24,[],some (.sl (.st 4)),false,[(1,.nils)],none⟩
theorem DI:aZ U Tryz.prog 71 Kq:=aR [.l] rfl (by kernel_rfl) rfl (by kernel_rfl) (by kernel_rfl) (show Tryz.prog.underlying 71=some (.slice 182)by kernel_rfl) (by kernel_rfl) (by kernel_rfl) (by kernel_rfl) (fun i h1 h2=>by cases h2) (fun d h=>by cases h)
def EM:TI U:=⟨7,.st,64,[(0,34),(3,9),(4,2),(5,36)],some (.st 4),true,[(1,.d (.int .i64) (0:Int)),(1,.d (.int .u32) (0:Int)),(1,.d (.int .i64) (0:Int)),(1,.d .str ([]:List UInt8)),(1,.d (.int .i64) (0:Int)),(1,.d (.int .u32) (0:Int)),(1,.d (.int .i64) (0:Int))],none⟩
theorem Ax:aZ U Tryz.prog 182 EM:=aR [.i .i64,.i .u32,.i .i64,.s,.i .i64,.i .u32,.i .i64] rfl (by kernel_rfl) rfl (by kernel_rfl) (by kernel_rfl) ⟨_,rfl⟩ rfl (by kernel_rfl) (by kernel_rfl) (fun i h1 h2=>⟨rfl,by injection h1 with h1;subst h1;exact JV⟩) (fun d h=>by cases h)
def Kr:TI U:=⟨10,.st,144,[(0,3),(1,66),(4,67),(6,70),(8,73)],some (.st 10),false,[(1,.d (.int .i64) (0:Int)),(1,.d (.int .i64) (0:Int)),(1,.d (.int .u32) (0:Int)),(1,.d (.int .i64) (0:Int)),(1,.d (.int .i64) (0:Int)),(1,.d (.int .i64) (0:Int)),(1,.nils),(1,.nils),(1,.nils),(1,.nils)],none⟩
theorem DJ:aZ U Tryz.prog 75 Kr:=aR [.i .i64,.i .i64,.i .u32,.i .i64,.i .i64,.i .i64,.l,.l,.l,.l] rfl (by kernel_rfl) rfl (by kernel_rfl) (by kernel_rfl) ⟨_,rfl⟩ rfl (by kernel_rfl) (by kernel_rfl) (fun i h1 h2=>by cases h2) (fun d h=>by cases h)
def Ks:TI U:=⟨3,.st,24,[(0,2),(1,36)],some (.st 5),true,[(1,.d (.int .i64) (0:Int)),(1,.d (.int .u32) (0:Int)),(1,.d (.int .i64) (0:Int))],none⟩
theorem DK:aZ U Tryz.prog 66 Ks:=aR [.i .i64,.i .u32,.i .i64] rfl (by kernel_rfl) rfl (by kernel_rfl) (by kernel_rfl) ⟨_,rfl⟩ rfl (by kernel_rfl) (by kernel_rfl) (fun i h1 h2=>⟨rfl,by injection h1 with h1;subst h1;exact N8⟩) (fun d h=>by cases h)
def Kt:TI U:=⟨2,.st,16,[(0,2),(1,2)],some (.st 6),true,[(1,.d (.int .i64) (0:Int)),(1,.d (.int .i64) (0:Int))],none⟩
theorem DL:aZ U Tryz.prog 67 Kt:=aR [.i .i64,.i .i64] rfl (by kernel_rfl) rfl (by kernel_rfl) (by kernel_rfl) ⟨_,rfl⟩ rfl (by kernel_rfl) (by kernel_rfl) (fun i h1 h2=>⟨rfl,by injection h1 with h1;subst h1;exact N9⟩) (fun d h=>by cases h)
def Ku:TI U:=⟨1,.int .i64,8,[],some (.int .i64),false,[(1,.d (.int .i64) (0:Int))],none⟩
theorem DM:aZ U Tryz.prog 24 Ku:=aR [.i .i64] rfl (by kernel_rfl) rfl (by kernel_rfl) (by kernel_rfl) (show Tryz.prog.underlying 24=some (.int .i64)by kernel_rfl) (by kernel_rfl) (by kernel_rfl) (by kernel_rfl) (fun i h1 h2=>by cases h2) (fun d h=>by cases h)
def Kv:TI U:=⟨9,.st,96,[(0,3),(1,9),(2,2),(3,34),(6,36),(8,37)],some (.st 3),false,[(1,.d (.int .i64) (0:Int)),(1,.d .str ([]:List UInt8)),(1,.d (.int .i64) (0:Int)),(1,.d (.int .i64) (0:Int)),(1,.d (.int .u32) (0:Int)),(1,.d (.int .i64) (0:Int)),(1,.d (.int .u32) (0:Int)),(1,.d (.int .i64) (0:Int)),(1,.nils)],none⟩
theorem DN:aZ U Tryz.prog 39 Kv:=aR [.i .i64,.s,.i .i64,.i .i64,.i .u32,.i .i64,.i .u32,.i .i64,.l] rfl (by kernel_rfl) rfl (by kernel_rfl) (by kernel_rfl) ⟨_,rfl⟩ rfl (by kernel_rfl) (by kernel_rfl) (fun i h1 h2=>by cases h2) (fun d h=>by cases h)
def Kw:TI U:=⟨9,.st,96,[(0,3),(1,9),(2,2),(3,34),(6,36),(8,37)],some (.st 3),false,[(1,.d (.int .i64) (0:Int)),(1,.d .str ([]:List UInt8)),(1,.d (.int .i64) (0:Int)),(1,.d (.int .i64) (0:Int)),(1,.d (.int .u32) (0:Int)),(1,.d (.int .i64) (0:Int)),(1,.d (.int .u32) (0:Int)),(1,.d (.int .i64) (0:Int)),(1,.nils)],none⟩
theorem rI:aZ U Tryz.prog 47 Kw:=aR [.i .i64,.s,.i .i64,.i .i64,.i .u32,.i .i64,.i .u32,.i .i64,.l] rfl (by kernel_rfl) rfl (by kernel_rfl) (by kernel_rfl) ⟨_,rfl⟩ rfl (by kernel_rfl) (by kernel_rfl) (fun i h1 h2=>by cases h2) (fun d h=>by cases h)
def OK:TI U:=⟨1,.bool,1,[],some (.bool),false,[(1,.d .bool false)],none⟩
theorem Ay:aZ U Tryz.prog 4 OK:=aR [.b] rfl (by kernel_rfl) rfl (by kernel_rfl) (by kernel_rfl) (show Tryz.prog.underlying 4=some .bool by kernel_rfl) (by kernel_rfl) (by kernel_rfl) (by kernel_rfl) (fun i h1 h2=>by cases h2) (fun d h=>by cases h)
def Kx:TI U:=⟨1,.sl 39,24,[],some (.sl (.st 3)),false,[(1,.nils)],none⟩
theorem DO:aZ U Tryz.prog 42 Kx:=aR [.l] rfl (by kernel_rfl) rfl (by kernel_rfl) (by kernel_rfl) (show Tryz.prog.underlying 42=some (.slice 39)by kernel_rfl) (by kernel_rfl) (by kernel_rfl) (by kernel_rfl) (fun i h1 h2=>by cases h2) (fun d h=>by cases h)
def Ky:TI U:=⟨1,.sl 47,24,[],some (.sl (.st 3)),false,[(1,.nils)],none⟩
theorem DP:aZ U Tryz.prog 64 Ky:=aR [.l] rfl (by kernel_rfl) rfl (by kernel_rfl) (by kernel_rfl) (show Tryz.prog.underlying 64=some (.slice 47)by kernel_rfl) (by kernel_rfl) (by kernel_rfl) (by kernel_rfl) (fun i h1 h2=>by cases h2) (fun d h=>by cases h)
def Kz:TI U:=⟨1,.ptr 109,8,[],none,false,[(1,.nilp)],none⟩
theorem DQ:aZ U Tryz.prog 23 Kz:=aR [.p] rfl (by kernel_rfl) rfl (by kernel_rfl) (by kernel_rfl) (show Tryz.prog.underlying 23=some (.pointer 109)by kernel_rfl) (by kernel_rfl) (by kernel_rfl) (by kernel_rfl) (fun i h1 h2=>by cases h2) (fun d h=>by cases h)
def EN:TI U:=⟨20,.st,192,[(0,61),(10,41),(18,106),(19,107)],none,false,[(1,.d (.int .i64) (0:Int)),(1,.d (.int .i64) (0:Int)),(1,.d (.int .u32) (0:Int)),(1,.d (.int .i64) (0:Int)),(1,.d (.int .i64) (0:Int)),(1,.d (.int .i64) (0:Int)),(1,.nils),(1,.nils),(1,.nils),(1,.nils),(1,.d (.int .u32) (0:Int)),(1,.d (.int .u32) (0:Int)),(1,.d (.int .u32) (0:Int)),(1,.d (.int .u32) (0:Int)),(1,.d (.int .u32) (0:Int)),(1,.d (.int .u32) (0:Int)),(1,.d (.int .u32) (0:Int)),(1,.d (.int .u32) (0:Int)),(1,.nilm),(1,.nilm)],none⟩
theorem Az:aZ U Tryz.prog 109 EN:=aR [.i .i64,.i .i64,.i .u32,.i .i64,.i .i64,.i .i64,.l,.l,.l,.l,.i .u32,.i .u32,.i .u32,.i .u32,.i .u32,.i .u32,.i .u32,.i .u32,.m,.m] rfl (by kernel_rfl) rfl (by kernel_rfl) (by kernel_rfl) ⟨_,rfl⟩ rfl (by kernel_rfl) (by kernel_rfl) (fun i h1 h2=>by cases h2) (fun d h=>by cases h)
def KA:TI U:=⟨20,.st,224,[(0,75),(10,41),(18,42),(19,37)],some (.st 11),false,[(1,.d (.int .i64) (0:Int)),(1,.d (.int .i64) (0:Int)),(1,.d (.int .u32) (0:Int)),(1,.d (.int .i64) (0:Int)),(1,.d (.int .i64) (0:Int)),(1,.d (.int .i64) (0:Int)),(1,.nils),(1,.nils),(1,.nils),(1,.nils),(1,.d (.int .u32) (0:Int)),(1,.d (.int .u32) (0:Int)),(1,.d (.int .u32) (0:Int)),(1,.d (.int .u32) (0:Int)),(1,.d (.int .u32) (0:Int)),(1,.d (.int .u32) (0:Int)),(1,.d (.int .u32) (0:Int)),(1,.d (.int .u32) (0:Int)),(1,.nils),(1,.nils)],none⟩
theorem DR:aZ U Tryz.prog 84 KA:=aR [.i .i64,.i .i64,.i .u32,.i .i64,.i .i64,.i .i64,.l,.l,.l,.l,.i .u32,.i .u32,.i .u32,.i .u32,.i .u32,.i .u32,.i .u32,.i .u32,.l,.l] rfl (by kernel_rfl) rfl (by kernel_rfl) (by kernel_rfl) ⟨_,rfl⟩ rfl (by kernel_rfl) (by kernel_rfl) (fun i h1 h2=>by cases h2) (fun d h=>by cases h)
def EO:TI U:=⟨1,.sl 9,24,[],some (.sl (.str)),false,[(1,.nils)],none⟩
theorem AA:aZ U Tryz.prog 137 EO:=aR [.l] rfl (by kernel_rfl) rfl (by kernel_rfl) (by kernel_rfl) (show Tryz.prog.underlying 137=some (.slice 9)by kernel_rfl) (by kernel_rfl) (by kernel_rfl) (by kernel_rfl) (fun i h1 h2=>by cases h2) (fun d h=>by cases h)
def EP:TI U:=⟨3,.st,40,[(0,3),(1,2),(2,98)],some (.st 13),false,[(1,.d (.int .i64) (0:Int)),(1,.d (.int .i64) (0:Int)),(1,.nils)],none⟩
theorem AB:aZ U Tryz.prog 100 EP:=aR [.i .i64,.i .i64,.l] rfl (by kernel_rfl) rfl (by kernel_rfl) (by kernel_rfl) ⟨_,rfl⟩ rfl (by kernel_rfl) (by kernel_rfl) (fun i h1 h2=>by cases h2) (fun d h=>by cases h)
def KB:TI U:=⟨1,.sl 134,24,[],some (.sl (.st 12)),false,[(1,.nils)],none⟩
theorem DS:aZ U Tryz.prog 98 KB:=aR [.l] rfl (by kernel_rfl) rfl (by kernel_rfl) (by kernel_rfl) (show Tryz.prog.underlying 98=some (.slice 134)by kernel_rfl) (by kernel_rfl) (by kernel_rfl) (by kernel_rfl) (fun i h1 h2=>by cases h2) (fun d h=>by cases h)
def ER:TI U:=⟨2,.st,24,[(0,9),(1,2)],some (.st 12),true,[(1,.d .str ([]:List UInt8)),(1,.d (.int .i64) (0:Int))],none⟩
theorem tT:aZ U Tryz.prog 134 ER:=aR [.s,.i .i64] rfl (by kernel_rfl) rfl (by kernel_rfl) (by kernel_rfl) ⟨_,rfl⟩ rfl (by kernel_rfl) (by kernel_rfl) (fun i h1 h2=>⟨rfl,by injection h1 with h1;subst h1;exact J0⟩) (fun d h=>by cases h)
def KC:TI U:=⟨19,.st,160,[(0,3),(1,39),(10,41),(18,42)],some (.st 14),false,[(1,.d (.int .i64) (0:Int)),(1,.d (.int .i64) (0:Int)),(1,.d .str ([]:List UInt8)),(1,.d (.int .i64) (0:Int)),(1,.d (.int .i64) (0:Int)),(1,.d (.int .u32) (0:Int)),(1,.d (.int .i64) (0:Int)),(1,.d (.int .u32) (0:Int)),(1,.d (.int .i64) (0:Int)),(1,.nils),(1,.d (.int .u32) (0:Int)),(1,.d (.int .u32) (0:Int)),(1,.d (.int .u32) (0:Int)),(1,.d (.int .u32) (0:Int)),(1,.d (.int .u32) (0:Int)),(1,.d (.int .u32) (0:Int)),(1,.d (.int .u32) (0:Int)),(1,.d (.int .u32) (0:Int)),(1,.nils)],none⟩
theorem DT:aZ U Tryz.prog 44 KC:=aR [.i .i64,.i .i64,.s,.i .i64,.i .i64,.i .u32,.i .i64,.i .u32,.i .i64,.l,.i .u32,.i .u32,.i .u32,.i .u32,.i .u32,.i .u32,.i .u32,.i .u32,.l] rfl (by kernel_rfl) rfl (by kernel_rfl) (by kernel_rfl) ⟨_,rfl⟩ rfl (by kernel_rfl) (by kernel_rfl) (fun i h1 h2=>by cases h2) (fun d h=>by cases h)
def OL:TI U:=⟨1,.int .u8,1,[],some (.int .u8),false,[(1,.d (.int .u8) (0:Int))],none⟩
theorem HG:aZ U Tryz.prog 5 OL:=aR [.i .u8] rfl (by kernel_rfl) rfl (by kernel_rfl) (by kernel_rfl) (show Tryz.prog.underlying 5=some (.int .u8)by kernel_rfl) (by kernel_rfl) (by kernel_rfl) (by kernel_rfl) (fun i h1 h2=>by cases h2) (fun d h=>by cases h)
def ES:TI U:=⟨4,.st,4,[(0,4),(1,4),(2,4),(3,4)],some (.st 15),true,[(1,.d .bool false),(1,.d .bool false),(1,.d .bool false),(1,.d .bool false)],none⟩
theorem AC:aZ U Tryz.prog 149 ES:=aR [.b,.b,.b,.b] rfl (by kernel_rfl) rfl (by kernel_rfl) (by kernel_rfl) ⟨_,rfl⟩ rfl (by kernel_rfl) (by kernel_rfl) (fun i h1 h2=>⟨rfl,by injection h1 with h1;subst h1;exact J1⟩) (fun d h=>by cases h)
def KE:TI U:=⟨3,.st,40,[(0,3),(1,2),(2,94)],some (.st 13),false,[(1,.d (.int .i64) (0:Int)),(1,.d (.int .i64) (0:Int)),(1,.nils)],none⟩
theorem DU:aZ U Tryz.prog 96 KE:=aR [.i .i64,.i .i64,.l] rfl (by kernel_rfl) rfl (by kernel_rfl) (by kernel_rfl) ⟨_,rfl⟩ rfl (by kernel_rfl) (by kernel_rfl) (fun i h1 h2=>by cases h2) (fun d h=>by cases h)
def KF:TI U:=⟨1,.sl 135,24,[],some (.sl (.st 12)),false,[(1,.nils)],none⟩
theorem DV:aZ U Tryz.prog 94 KF:=aR [.l] rfl (by kernel_rfl) rfl (by kernel_rfl) (by kernel_rfl) (show Tryz.prog.underlying 94=some (.slice 135)by kernel_rfl) (by kernel_rfl) (by kernel_rfl) (by kernel_rfl) (fun i h1 h2=>by cases h2) (fun d h=>by cases h)
def ET:TI U:=⟨2,.st,24,[(0,9),(1,2)],some (.st 12),true,[(1,.d .str ([]:List UInt8)),(1,.d (.int .i64) (0:Int))],none⟩
theorem AD:aZ U Tryz.prog 135 ET:=aR [.s,.i .i64] rfl (by kernel_rfl) rfl (by kernel_rfl) (by kernel_rfl) ⟨_,rfl⟩ rfl (by kernel_rfl) (by kernel_rfl) (fun i h1 h2=>⟨rfl,by injection h1 with h1;subst h1;exact J2⟩) (fun d h=>by cases h)
def EU:TI U:=⟨3,.st,32,[(0,3),(1,9),(2,2)],some (.st 16),true,[(1,.d (.int .i64) (0:Int)),(1,.d .str ([]:List UInt8)),(1,.d (.int .i64) (0:Int))],none⟩
theorem AE:aZ U Tryz.prog 168 EU:=aR [.i .i64,.s,.i .i64] rfl (by kernel_rfl) rfl (by kernel_rfl) (by kernel_rfl) ⟨_,rfl⟩ rfl (by kernel_rfl) (by kernel_rfl) (fun i h1 h2=>⟨rfl,by injection h1 with h1;subst h1;exact J3⟩) (fun d h=>by cases h)
def EV:TI U:=⟨1,.int .u64,8,[],some (.int .u64),false,[(1,.d (.int .u64) (0:Int))],none⟩
theorem AF:aZ U Tryz.prog 253 EV:=aR [.i .u64] rfl (by kernel_rfl) rfl (by kernel_rfl) (by kernel_rfl) (show Tryz.prog.underlying 253=some (.int .u64)by kernel_rfl) (by kernel_rfl) (by kernel_rfl) (by kernel_rfl) (fun i h1 h2=>by cases h2) (fun d h=>by cases h)
def EW:TI U:=⟨3,.st,32,[(0,3),(1,9),(2,2)],some (.st 16),true,[(1,.d (.int .i64) (0:Int)),(1,.d .str ([]:List UInt8)),(1,.d (.int .i64) (0:Int))],none⟩
theorem AG:aZ U Tryz.prog 146 EW:=aR [.i .i64,.s,.i .i64] rfl (by kernel_rfl) rfl (by kernel_rfl) (by kernel_rfl) ⟨_,rfl⟩ rfl (by kernel_rfl) (by kernel_rfl) (fun i h1 h2=>⟨rfl,by injection h1 with h1;subst h1;exact J4⟩) (fun d h=>by cases h)
def KG:TI U:=⟨1,.fn,8,[],none,false,[(1,.nilf)],none⟩
theorem DW:aZ U Tryz.prog 86 KG:=aR [.f] rfl (by kernel_rfl) rfl (by kernel_rfl) (by kernel_rfl) ⟨_,rfl⟩ (by kernel_rfl) (by kernel_rfl) (by kernel_rfl) (fun i h1 h2=>by cases h2) (fun d h=>by cases h)
def EX:TI U:=⟨1,.sl 3,24,[],some (.sl (.int .i64)),false,[(1,.nils)],none⟩
theorem AH:aZ U Tryz.prog 257 EX:=aR [.l] rfl (by kernel_rfl) rfl (by kernel_rfl) (by kernel_rfl) (show Tryz.prog.underlying 257=some (.slice 3)by kernel_rfl) (by kernel_rfl) (by kernel_rfl) (by kernel_rfl) (fun i h1 h2=>by cases h2) (fun d h=>by cases h)
def EY:TI U:=⟨1,.fn,8,[],none,false,[(1,.nilf)],none⟩
theorem AI:aZ U Tryz.prog 114 EY:=aR [.f] rfl (by kernel_rfl) rfl (by kernel_rfl) (by kernel_rfl) ⟨_,rfl⟩ (by kernel_rfl) (by kernel_rfl) (by kernel_rfl) (fun i h1 h2=>by cases h2) (fun d h=>by cases h)
def EZ:TI U:=⟨1,.sl 37,24,[],some (.sl (.sl (.st 1))),false,[(1,.nils)],none⟩
theorem AJ:aZ U Tryz.prog 264 EZ:=aR [.l] rfl (by kernel_rfl) rfl (by kernel_rfl) (by kernel_rfl) (show Tryz.prog.underlying 264=some (.slice 37)by kernel_rfl) (by kernel_rfl) (by kernel_rfl) (by kernel_rfl) (fun i h1 h2=>by cases h2) (fun d h=>by cases h)
def KH:TI U:=⟨1,.ptr 84,8,[],none,false,[(1,.nilp)],none⟩
theorem DX:aZ U Tryz.prog 27 KH:=aR [.p] rfl (by kernel_rfl) rfl (by kernel_rfl) (by kernel_rfl) (show Tryz.prog.underlying 27=some (.pointer 84)by kernel_rfl) (by kernel_rfl) (by kernel_rfl) (by kernel_rfl) (fun i h1 h2=>by cases h2) (fun d h=>by cases h)
def E0:TI U:=⟨1,.sl 64,24,[],some (.sl (.sl (.st 3))),false,[(1,.nils)],none⟩
theorem AK:aZ U Tryz.prog 186 E0:=aR [.l] rfl (by kernel_rfl) rfl (by kernel_rfl) (by kernel_rfl) (show Tryz.prog.underlying 186=some (.slice 64)by kernel_rfl) (by kernel_rfl) (by kernel_rfl) (by kernel_rfl) (fun i h1 h2=>by cases h2) (fun d h=>by cases h)
def E1:TI U:=⟨1,.fn,8,[],none,false,[(1,.nilf)],none⟩
theorem AL:aZ U Tryz.prog 228 E1:=aR [.f] rfl (by kernel_rfl) rfl (by kernel_rfl) (by kernel_rfl) ⟨_,rfl⟩ (by kernel_rfl) (by kernel_rfl) (by kernel_rfl) (fun i h1 h2=>by cases h2) (fun d h=>by cases h)
def E2:TI U:=⟨1,.sl 24,24,[],some (.sl (.int .i64)),false,[(1,.nils)],none⟩
theorem AM:aZ U Tryz.prog 259 E2:=aR [.l] rfl (by kernel_rfl) rfl (by kernel_rfl) (by kernel_rfl) (show Tryz.prog.underlying 259=some (.slice 24)by kernel_rfl) (by kernel_rfl) (by kernel_rfl) (by kernel_rfl) (fun i h1 h2=>by cases h2) (fun d h=>by cases h)
def E3:TI U:=⟨1,.sl 2,24,[],some (.sl (.int .i64)),false,[(1,.nils)],none⟩
theorem AN:aZ U Tryz.prog 294 E3:=aR [.l] rfl (by kernel_rfl) rfl (by kernel_rfl) (by kernel_rfl) (show Tryz.prog.underlying 294=some (.slice 2)by kernel_rfl) (by kernel_rfl) (by kernel_rfl) (by kernel_rfl) (fun i h1 h2=>by cases h2) (fun d h=>by cases h)
def E4:TI U:=⟨1,.fn,8,[],none,false,[(1,.nilf)],none⟩
theorem AO:aZ U Tryz.prog 190 E4:=aR [.f] rfl (by kernel_rfl) rfl (by kernel_rfl) (by kernel_rfl) ⟨_,rfl⟩ (by kernel_rfl) (by kernel_rfl) (by kernel_rfl) (fun i h1 h2=>by cases h2) (fun d h=>by cases h)
def KI:TI U:=⟨1,.int .i32,4,[],some (.int .i32),false,[(1,.d (.int .i32) (0:Int))],none⟩
theorem DY:aZ U Tryz.prog 21 KI:=aR [.i .i32] rfl (by kernel_rfl) rfl (by kernel_rfl) (by kernel_rfl) (show Tryz.prog.underlying 21=some (.int .i32)by kernel_rfl) (by kernel_rfl) (by kernel_rfl) (by kernel_rfl) (fun i h1 h2=>by cases h2) (fun d h=>by cases h)
def KJ:TI U:=⟨1,.sl 44,24,[],some (.sl (.st 14)),false,[(1,.nils)],none⟩
theorem DZ:aZ U Tryz.prog 22 KJ:=aR [.l] rfl (by kernel_rfl) rfl (by kernel_rfl) (by kernel_rfl) (show Tryz.prog.underlying 22=some (.slice 44)by kernel_rfl) (by kernel_rfl) (by kernel_rfl) (by kernel_rfl) (fun i h1 h2=>by cases h2) (fun d h=>by cases h)
def E5:TI U:=⟨1,.fn,8,[],none,false,[(1,.nilf)],none⟩
theorem AP:aZ U Tryz.prog 143 E5:=aR [.f] rfl (by kernel_rfl) rfl (by kernel_rfl) (by kernel_rfl) ⟨_,rfl⟩ (by kernel_rfl) (by kernel_rfl) (by kernel_rfl) (fun i h1 h2=>by cases h2) (fun d h=>by cases h)
def E6:TI U:=⟨1,.fn,8,[],none,false,[(1,.nilf)],none⟩
theorem AQ:aZ U Tryz.prog 210 E6:=aR [.f] rfl (by kernel_rfl) rfl (by kernel_rfl) (by kernel_rfl) ⟨_,rfl⟩ (by kernel_rfl) (by kernel_rfl) (by kernel_rfl) (fun i h1 h2=>by cases h2) (fun d h=>by cases h)
def E7:TI U:=⟨1,.fn,8,[],none,false,[(1,.nilf)],none⟩
theorem AR:aZ U Tryz.prog 235 E7:=aR [.f] rfl (by kernel_rfl) rfl (by kernel_rfl) (by kernel_rfl) ⟨_,rfl⟩ (by kernel_rfl) (by kernel_rfl) (by kernel_rfl) (fun i h1 h2=>by cases h2) (fun d h=>by cases h)
def E8:TI U:=⟨2,.arr 2 2,16,[],some (.arr 2 (.int .i64)),true,[(1,.d (.int .i64) (0:Int)),(1,.d (.int .i64) (0:Int))],none⟩
theorem AS:aZ U Tryz.prog 246 E8:=aR [.i .i64,.i .i64] rfl (by kernel_rfl) rfl (by kernel_rfl) (by kernel_rfl) (show Tryz.prog.underlying 246=some (.array 2 2)by kernel_rfl) (by kernel_rfl) (by kernel_rfl) (by kernel_rfl) (fun i h1 h2=>⟨rfl,by injection h1 with h1;subst h1;exact J5⟩) (fun d h=>by cases h)
def E9:TI U:=⟨1,.fn,8,[],none,false,[(1,.nilf)],none⟩
theorem AU:aZ U Tryz.prog 223 E9:=aR [.f] rfl (by kernel_rfl) rfl (by kernel_rfl) (by kernel_rfl) ⟨_,rfl⟩ (by kernel_rfl) (by kernel_rfl) (by kernel_rfl) (fun i h1 h2=>by cases h2) (fun d h=>by cases h)
def Fa:TI U:=⟨1,.fn,8,[],none,false,[(1,.nilf)],none⟩
theorem AW:aZ U Tryz.prog 249 Fa:=aR [.f] rfl (by kernel_rfl) rfl (by kernel_rfl) (by kernel_rfl) ⟨_,rfl⟩ (by kernel_rfl) (by kernel_rfl) (by kernel_rfl) (fun i h1 h2=>by cases h2) (fun d h=>by cases h)
def bw:KD U:=⟨34,47,.st 1,.st 3,(inferInstance:DecidableEq af),(fun x:af=>Value.agg (Ap x).toArray),(⟨0,[],0,⟨⟨0,0⟩,0⟩,⟨0,0⟩,[]⟩:ab)⟩
theorem HH:Eh Tryz.prog U bw:=⟨xT (α:=af) ⟨_,rfl⟩ (by kernel_rfl) (Av) (fun em x w=>by kernel_rfl) (fun x=>rfl),fun Y S x vs v hd ha=>by rw[tO hd]at ha;exact ha,qp rI (Eq.refl _) (by kernel_rfl)⟩
def Fb:TI U:=⟨1,.mp 34 47,8,[],none,false,[(1,.nilm)],some bw⟩
theorem AX:aZ U Tryz.prog 106 Fb:=aR [.m] rfl (by kernel_rfl) rfl (by kernel_rfl) (by kernel_rfl) (show Tryz.prog.underlying 106=some (.map 34 47)by kernel_rfl) (by kernel_rfl) (by kernel_rfl) (by kernel_rfl) (fun i h1 h2=>by cases h2) (fun d h=>by injection h with h;subst h;exact⟨HH,by kernel_rfl⟩)
def ck:KD U:=⟨34,4,.st 1,.bool,(inferInstance:DecidableEq af),(fun x:af=>Value.agg (Ap x).toArray),(false:Bool)⟩
theorem HI:Eh Tryz.prog U ck:=⟨xT (α:=af) ⟨_,rfl⟩ (by kernel_rfl) (Av) (fun em x w=>by kernel_rfl) (fun x=>rfl),fun Y S x vs v hd ha=>by rw[tO hd]at ha;exact ha,qp Ay (Eq.refl _) (by kernel_rfl)⟩
def Fc:TI U:=⟨1,.mp 34 4,8,[],none,false,[(1,.nilm)],some ck⟩
theorem AY:aZ U Tryz.prog 107 Fc:=aR [.m] rfl (by kernel_rfl) rfl (by kernel_rfl) (by kernel_rfl) (show Tryz.prog.underlying 107=some (.map 34 4)by kernel_rfl) (by kernel_rfl) (by kernel_rfl) (by kernel_rfl) (fun i h1 h2=>by cases h2) (fun d h=>by injection h with h;subst h;exact⟨HI,by kernel_rfl⟩)
def tU:KD U:=⟨9,164,.str,.st 4,(inferInstance:DecidableEq (List UInt8)),(fun x:List UInt8=>sv x),(⟨⟨⟨0,0⟩,0⟩,[],0,⟨0,0⟩⟩:bt)⟩
theorem HJ:Eh Tryz.prog U tU:=⟨fF.str (by kernel_rfl),fun Y S x vs v hd ha=>by have e:=(aD.inv hd).1;rw[e]at ha;exact(List.cons.inj ha).1.symm,qp jY (Eq.refl _) (by kernel_rfl)⟩
def Fd:TI U:=⟨1,.mp 9 164,8,[],none,false,[(1,.nilm)],some tU⟩
theorem AZ:aZ U Tryz.prog 205 Fd:=aR [.m] rfl (by kernel_rfl) rfl (by kernel_rfl) (by kernel_rfl) (show Tryz.prog.underlying 205=some (.map 9 164)by kernel_rfl) (by kernel_rfl) (by kernel_rfl) (by kernel_rfl) (fun i h1 h2=>by cases h2) (fun d h=>by injection h with h;subst h;exact⟨HJ,by kernel_rfl⟩)
def OM:dL U:= [(3,OH),(37,J6),(34,J7),(32,J8),(30,J9),(41,Kb),(61,Kc),(51,Ke),(2,OI),(36,Kg),(53,Kh),(56,Ki),(54,Kj),(159,EJ),(9,OJ),(59,Kl),(57,Km),(164,EK),(70,Kn),(68,Ko),(178,EL),(73,Kp),(71,Kq),(182,EM),(75,Kr),(66,Ks),(67,Kt),(24,Ku),(39,Kv),(47,Kw),(4,OK),(42,Kx),(64,Ky),(23,Kz),(109,EN),(106,Fb),(107,Fc),(84,KA),(137,EO),(100,EP),(98,KB),(134,ER),(44,KC),(5,OL),(149,ES),(96,KE),(94,KF),(135,ET),(168,EU),(253,EV),(146,EW),(86,KG),(257,EX),(114,EY),(264,EZ),(27,KH),(186,E0),(228,E1),(205,Fd),(259,E2),(294,E3),(190,E4),(21,KI),(22,KJ),(143,E5),(210,E6),(235,E7),(246,E8),(223,E9),(249,Fa)]
theorem uZ:bD U Tryz.prog OM:=am HD (am Dt (am iy (am Du (am Dv (am Dw (am Dx (am Dy (am HE (am Dz (am DA (am DB (am DC (am jX (am HF (am DD (am DE (am jY (am DF (am DG (am Aw (am DH (am DI (am Ax (am DJ (am DK (am DL (am DM (am DN (am rI (am Ay (am DO (am DP (am DQ (am Az (am AX (am AY (am DR (am AA (am AB (am DS (am tT (am DT (am HG (am AC (am DU (am DV (am AD (am AE (am AF (am AG (am DW (am AH (am AI (am AJ (am DX (am AK (am AL (am AZ (am AM (am AN (am AO (am DY (am DZ (am AP (am AQ (am AR (am AS (am AU (am AW (Bc))))))))))))))))))))))))))))))))))))))))))))))))))))))))))))))))))))))
end Go.Proofs.YtiliglahlfkikaaGreatDoor.V
end

section
set_option linter.unusedVariables false
namespace Go.Proofs.YtiliglahlfkikaaGreatDoor.V
open Go.RowKit
section
variable {U:bQ}
theorem wI{α:Type}{f x y:α}{b:Bool}{P:Prop} [Decidable P]{A B:Prop}(hf:f=if P then x else y)(h1:P→f=x→A)(h2: ¬P→f=y→B)(hb:b=true↔P:=by repeat (first|exact iD|exact iB|apply iA|apply iO|apply iN|apply iP)):D9 b A B:=vI hf hb h1 h2
theorem wN{α:Type}{f x y:α}{b:Bool}{P:Prop} [Decidable P]{A B:Prop}(hf:f=if P then x else y)(h1: ¬P→f=y→A)(h2:P→f=x→B)(hb:b=true↔ ¬P:=by repeat (first|exact iD|exact iB|apply iN|apply iA|apply iO|apply iP)):D9 b A B:=vN hf hb h1 h2
theorem vs{P A:Prop}(a:A)(p:P:=by first|omega|(simp only[List.length_append,List.length_cons,List.length_nil];omega)):VS P A:=⟨p,a⟩
theorem vx{α:Type}(i:Int)(l:List α){A:Prop}(a:A)(p:0≤i∧i<(l.length:Int):=by omega):VS (0≤i∧i<(l.length:Int)) A:=⟨p,a⟩
theorem ez{p q r:Int}{A B:Prop}(a:A)(h: -9223372036854775808≤p→p≤9223372036854775807→ -9223372036854775808≤q→q≤9223372036854775807→ -9223372036854775808≤r∧r≤9223372036854775807:=by first|omega|(simp only[List.length_append,List.length_cons,List.length_nil];omega)):KN (d9 .i64 p→d9 .i64 q→d9 .i64 r) A B:= .inl ⟨xI h,a⟩
theorem fl{k:IntKind}{x:Int}{A:Prop}(h:x≤9223372036854775807→A)(hk:k= .i64:=by rfl):d9 k x→A:=fun q=>h (by subst hk;exact q.2)
theorem lI{σ β:Type}{b n:Nat}{a:En U→Nat→Hs U→KO U→Prop}{e:En U}{H:Hs U}{K:KO U}(N:Nat)(E:σ→En U)(M:σ→Hs U)(μ:σ→Nat)(inv:σ→Prop)(L:Nat→σ→β)(X:β)(φ:List (Nat×Nat))(s0:σ)
  (k: ∀s,dQ μ inv L X s→a (E s) N (M s) fun o e' n' H'=>match o with
   | .n=> ∃φ s',μ s'<μ s∧dQ μ inv L X s'∧Eg b N φ n' e' H' (E s') (M s')
   |o=>K o e' n' H')
  (hi:inv s0:=by((try dsimp only);repeat' apply And.intro)<;>first|trivial|omega|assumption|(simp only[List.length_append,List.length_cons,List.length_nil];omega)|(simp;omega)|(intro h;simp at h;omega)|simp)
  (hX:X=L (μ s0+1) s0:=by rfl) (hle:Eg b N φ n e H (E s0) (M s0):=by repeat (first|exact trivial|refine And.intro rfl ?_)):yd b a e n H K:=
 ⟨σ,N,E,M,dQ μ inv L X,μ,⟨φ,s0,dQ.mk0 _ (Nat.lt_succ_self _) hi hX,hle⟩,k⟩
theorem nx{σ β:Type}{μ:σ→Nat}{inv:σ→Prop}{L:Nat→σ→β}{X:β}{s:σ}{c:Nat}{LE:List (Nat×Nat)→σ→Prop}(φ:List (Nat×Nat))(s':σ)(hc:μ s<c+1)(hX:X=L c s')
  (hm:μ s'<μ s:=by(try dsimp only);omega)
  (hi:inv s':=by((try dsimp only);repeat' apply And.intro)<;>first|trivial|omega|assumption|(simp only[List.length_append,List.length_cons,List.length_nil];omega)|(simp;omega)|(intro h;simp at h;omega)|simp)
  (hle:LE φ s':=by repeat (first|exact trivial|refine And.intro rfl ?_)): ∃φ s',μ s'<μ s∧dQ μ inv L X s'∧LE φ s':=⟨φ,s',hm,dQ.next hc hm hi hX,hle⟩
theorem dp{T:dL U}{G:iI U}{b n:Nat}{ops:Array Oper}{e:En U}{H:Hs U}{K:KS U}(pl:List (Bool×Nat))(f:Option Nat)(mk:List Nat)(k:vn T G ops.toList mk (kA T G ops.toList f) pl e n H [] [] K)(h:uc ops f pl=true:=by kernel_rfl):vq T G b ops e n H K:= .inl ⟨pl,f,mk,h,k⟩
def up(n:Nat):List (Bool×Nat):=Nat.rec (motive:=fun _=>Nat→List (Bool×Nat)) (fun _=> []) (fun _ ih i=>(true,i)::ih (i+1)) n 0
def nw(i:Nat):List Nat:= [i,i+1,i+2,i+3,i+4,i+5,i+6,i+7,i+8,i+9,i+10,i+11]
theorem e0{A:Prop}(a:A:=by rw[hf0]at h;exact h):A:=a
theorem e1{A:Prop}(a:A:=by rw[hf1]at hf0;rw[hf0]at h;exact h):A:=a
theorem e2{A:Prop}(a:A:=by rw[hf2]at hf1;rw[hf1]at hf0;rw[hf0]at h;exact h):A:=a
theorem cc.mono{P:Program}{f:FuncId}{c c':bh U}(h:cc P U f c)(hm: ∀xs es K,c'.run xs es K→c.run xs es K):cc P U f c':=fun [F:ao] hpr X w ρ es xs vs K M hv hr=>h hpr X w ρ es xs vs K M hv (hm _ _ _ hr)
abbrev vi(x:Int):Va U:=⟨false,[(1,.d (.int .i64) x)]⟩
abbrev vb(x:Bool):Va U:=⟨false,[(1,.d .bool x)]⟩
abbrev vt(x:List UInt8):Va U:=⟨false,[(1,.d .str x)]⟩
abbrev vp(i:Nat):Va U:=⟨false,[(1,.ptr i 0)]⟩
abbrev vo(i:Nat):Va U:=⟨false,[(1,.own i 0)]⟩
end
end Go.Proofs.YtiliglahlfkikaaGreatDoor.V
end

/- Short forms for printed walks: side conditions are proved where nothing else is said. -/
import Derived.Test.YtiliglahlfkikaaGreatDoorK12
import Derived.Test.YtiliglahlfkikaaGreatDoorProg
section
set_option linter.unusedVariables false
set_option linter.unusedSimpArgs false
set_option maxRecDepth 20000
namespace Go.Proofs.YtiliglahlfkikaaGreatDoor.V
open Go.RowKit
structure kW where
 origin:Int
 seq:Int
deriving DecidableEq,Inhabited
structure ae where
 id:kW
 n:Int
deriving DecidableEq,Inhabited
structure au where
 time:Int
 origin:Int
deriving DecidableEq,Inhabited
structure af where
 act:Int
 name:List UInt8
 val:Int
 tag:ae
 at_:au
 tags:List (ae)
deriving DecidableEq,Inhabited
structure bI where
 tag:ae
 field:List UInt8
 val:Int
 at_:au
deriving DecidableEq,Inhabited
structure bi where
 val:Int
 at_:au
deriving DecidableEq,Inhabited
structure be where
 plus:Int
 minus:Int
deriving DecidableEq,Inhabited
structure aT where
 tag:ae
 elem:List UInt8
deriving DecidableEq,Inhabited
structure aC where
 adds:List (aT)
 gone:List (ae)
deriving DecidableEq,Inhabited
structure aD where
 puts:List (bI)
 gone:List (ae)
deriving DecidableEq,Inhabited
structure az where
 kind:Int
 reg:bi
 num:be
 set:aC
 map:aD
deriving DecidableEq,Inhabited
structure bS where
 s:az
 b:List (Int)
 l:List (af)
 seen:List (ae)
deriving DecidableEq,Inhabited
structure d8 where
 field:List UInt8
 val:Int
deriving DecidableEq,Inhabited
structure iJ where
 kind:Int
 val:Int
 items:List (d8)
deriving DecidableEq,Inhabited
structure gL where
 kind:Int
 e:af
 v:List (Int)
 more:List (af)
deriving DecidableEq,Inhabited
structure jB where
 name:Bool
 val:Bool
 at_:Bool
 tags:Bool
deriving DecidableEq,Inhabited
structure sZ where
 act:Int
 name:List UInt8
 val:Int
deriving DecidableEq,Inhabited
def ty:Nat→Type|0=>kW|1=>ae|2=>au|3=>af|4=>bI|5=>bi|6=>be|7=>aT|8=>aC|9=>aD|10=>az|11=>bS|12=>d8|13=>iJ|14=>gL|15=>jB|16=>sZ|_=>Unit
def RT:RD ty kW where
 sz:=2
 fs:= [(1,.int .i64),(1,.int .u32)]
 to x:=(x.origin,x.seq,())
 toK x K:=K (x.origin,x.seq,())
 ofK:=fun(a0,a1,_) K=>K ⟨a0,a1⟩
 ixK l q K:=K (ix l q)
 eqK a b K:=K (decide (a=b))
 sz_ok:=rfl
 toK_ok _ _ h:=h
 ofK_ok:=fun(a0,a1,_) K h=>⟨_,h,rfl⟩
 ixK_ok l q K h:=⟨_,h,fun y hy=>by unfold ix;rw[hy];rfl⟩
 eqK_ok a b K h:=⟨_,h,by simp⟩
def RU:RD ty ae where
 sz:=3
 fs:= [(2,.st 0),(1,.int .i64)]
 to x:=(x.id,x.n,())
 toK x K:=K (x.id,x.n,())
 ofK:=fun(a0,a1,_) K=>K ⟨a0,a1⟩
 ixK l q K:=K (ix l q)
 eqK a b K:=K (decide (a=b))
 sz_ok:=rfl
 toK_ok _ _ h:=h
 ofK_ok:=fun(a0,a1,_) K h=>⟨_,h,rfl⟩
 ixK_ok l q K h:=⟨_,h,fun y hy=>by unfold ix;rw[hy];rfl⟩
 eqK_ok a b K h:=⟨_,h,by simp⟩
def RV:RD ty au where
 sz:=2
 fs:= [(1,.int .u32),(1,.int .i64)]
 to x:=(x.time,x.origin,())
 toK x K:=K (x.time,x.origin,())
 ofK:=fun(a0,a1,_) K=>K ⟨a0,a1⟩
 ixK l q K:=K (ix l q)
 eqK a b K:=K (decide (a=b))
 sz_ok:=rfl
 toK_ok _ _ h:=h
 ofK_ok:=fun(a0,a1,_) K h=>⟨_,h,rfl⟩
 ixK_ok l q K h:=⟨_,h,fun y hy=>by unfold ix;rw[hy];rfl⟩
 eqK_ok a b K h:=⟨_,h,by simp⟩
def RW:RD ty af where
 sz:=9
 fs:= [(1,.int .i64),(1,.str),(1,.int .i64),(3,.st 1),(2,.st 2),(1,.sl (.st 1))]
 to x:=(x.act,x.name,x.val,x.tag,x.at_,x.tags,())
 toK x K:=K (x.act,x.name,x.val,x.tag,x.at_,x.tags,())
 ofK:=fun(a0,a1,a2,a3,a4,a5,_) K=>K ⟨a0,a1,a2,a3,a4,a5⟩
 ixK l q K:=K (ix l q)
 eqK a b K:=K (decide (a=b))
 sz_ok:=rfl
 toK_ok _ _ h:=h
 ofK_ok:=fun(a0,a1,a2,a3,a4,a5,_) K h=>⟨_,h,rfl⟩
 ixK_ok l q K h:=⟨_,h,fun y hy=>by unfold ix;rw[hy];rfl⟩
 eqK_ok a b K h:=⟨_,h,by simp⟩
def RX:RD ty bI where
 sz:=7
 fs:= [(3,.st 1),(1,.str),(1,.int .i64),(2,.st 2)]
 to x:=(x.tag,x.field,x.val,x.at_,())
 toK x K:=K (x.tag,x.field,x.val,x.at_,())
 ofK:=fun(a0,a1,a2,a3,_) K=>K ⟨a0,a1,a2,a3⟩
 ixK l q K:=K (ix l q)
 eqK a b K:=K (decide (a=b))
 sz_ok:=rfl
 toK_ok _ _ h:=h
 ofK_ok:=fun(a0,a1,a2,a3,_) K h=>⟨_,h,rfl⟩
 ixK_ok l q K h:=⟨_,h,fun y hy=>by unfold ix;rw[hy];rfl⟩
 eqK_ok a b K h:=⟨_,h,by simp⟩
def RY:RD ty bi where
 sz:=3
 fs:= [(1,.int .i64),(2,.st 2)]
 to x:=(x.val,x.at_,())
 toK x K:=K (x.val,x.at_,())
 ofK:=fun(a0,a1,_) K=>K ⟨a0,a1⟩
 ixK l q K:=K (ix l q)
 eqK a b K:=K (decide (a=b))
 sz_ok:=rfl
 toK_ok _ _ h:=h
 ofK_ok:=fun(a0,a1,_) K h=>⟨_,h,rfl⟩
 ixK_ok l q K h:=⟨_,h,fun y hy=>by unfold ix;rw[hy];rfl⟩
 eqK_ok a b K h:=⟨_,h,by simp⟩
def RZ:RD ty be where
 sz:=2
 fs:= [(1,.int .i64),(1,.int .i64)]
 to x:=(x.plus,x.minus,())
 toK x K:=K (x.plus,x.minus,())
 ofK:=fun(a0,a1,_) K=>K ⟨a0,a1⟩
 ixK l q K:=K (ix l q)
 eqK a b K:=K (decide (a=b))
 sz_ok:=rfl
 toK_ok _ _ h:=h
 ofK_ok:=fun(a0,a1,_) K h=>⟨_,h,rfl⟩
 ixK_ok l q K h:=⟨_,h,fun y hy=>by unfold ix;rw[hy];rfl⟩
 eqK_ok a b K h:=⟨_,h,by simp⟩
def R0:RD ty aT where
 sz:=4
 fs:= [(3,.st 1),(1,.str)]
 to x:=(x.tag,x.elem,())
 toK x K:=K (x.tag,x.elem,())
 ofK:=fun(a0,a1,_) K=>K ⟨a0,a1⟩
 ixK l q K:=K (ix l q)
 eqK a b K:=K (decide (a=b))
 sz_ok:=rfl
 toK_ok _ _ h:=h
 ofK_ok:=fun(a0,a1,_) K h=>⟨_,h,rfl⟩
 ixK_ok l q K h:=⟨_,h,fun y hy=>by unfold ix;rw[hy];rfl⟩
 eqK_ok a b K h:=⟨_,h,by simp⟩
def R1:RD ty aC where
 sz:=2
 fs:= [(1,.sl (.st 7)),(1,.sl (.st 1))]
 to x:=(x.adds,x.gone,())
 toK x K:=K (x.adds,x.gone,())
 ofK:=fun(a0,a1,_) K=>K ⟨a0,a1⟩
 ixK l q K:=K (ix l q)
 eqK a b K:=K (decide (a=b))
 sz_ok:=rfl
 toK_ok _ _ h:=h
 ofK_ok:=fun(a0,a1,_) K h=>⟨_,h,rfl⟩
 ixK_ok l q K h:=⟨_,h,fun y hy=>by unfold ix;rw[hy];rfl⟩
 eqK_ok a b K h:=⟨_,h,by simp⟩
def R2:RD ty aD where
 sz:=2
 fs:= [(1,.sl (.st 4)),(1,.sl (.st 1))]
 to x:=(x.puts,x.gone,())
 toK x K:=K (x.puts,x.gone,())
 ofK:=fun(a0,a1,_) K=>K ⟨a0,a1⟩
 ixK l q K:=K (ix l q)
 eqK a b K:=K (decide (a=b))
 sz_ok:=rfl
 toK_ok _ _ h:=h
 ofK_ok:=fun(a0,a1,_) K h=>⟨_,h,rfl⟩
 ixK_ok l q K h:=⟨_,h,fun y hy=>by unfold ix;rw[hy];rfl⟩
 eqK_ok a b K h:=⟨_,h,by simp⟩
def Oy:RD ty az where
 sz:=10
 fs:= [(1,.int .i64),(3,.st 5),(2,.st 6),(2,.st 8),(2,.st 9)]
 to x:=(x.kind,x.reg,x.num,x.set,x.map,())
 toK x K:=K (x.kind,x.reg,x.num,x.set,x.map,())
 ofK:=fun(a0,a1,a2,a3,a4,_) K=>K ⟨a0,a1,a2,a3,a4⟩
 ixK l q K:=K (ix l q)
 eqK a b K:=K (decide (a=b))
 sz_ok:=rfl
 toK_ok _ _ h:=h
 ofK_ok:=fun(a0,a1,a2,a3,a4,_) K h=>⟨_,h,rfl⟩
 ixK_ok l q K h:=⟨_,h,fun y hy=>by unfold ix;rw[hy];rfl⟩
 eqK_ok a b K h:=⟨_,h,by simp⟩
def Oz:RD ty bS where
 sz:=20
 fs:= [(10,.st 10),(8,.arr 8 (.int .u32)),(1,.sl (.st 3)),(1,.sl (.st 1))]
 to x:=(x.s,x.b,x.l,x.seen,())
 toK x K:=K (x.s,x.b,x.l,x.seen,())
 ofK:=fun(a0,a1,a2,a3,_) K=>K ⟨a0,a1,a2,a3⟩
 ixK l q K:=K (ix l q)
 eqK a b K:=K (decide (a=b))
 sz_ok:=rfl
 toK_ok _ _ h:=h
 ofK_ok:=fun(a0,a1,a2,a3,_) K h=>⟨_,h,rfl⟩
 ixK_ok l q K h:=⟨_,h,fun y hy=>by unfold ix;rw[hy];rfl⟩
 eqK_ok a b K h:=⟨_,h,by simp⟩
def OA:RD ty d8 where
 sz:=2
 fs:= [(1,.str),(1,.int .i64)]
 to x:=(x.field,x.val,())
 toK x K:=K (x.field,x.val,())
 ofK:=fun(a0,a1,_) K=>K ⟨a0,a1⟩
 ixK l q K:=K (ix l q)
 eqK a b K:=K (decide (a=b))
 sz_ok:=rfl
 toK_ok _ _ h:=h
 ofK_ok:=fun(a0,a1,_) K h=>⟨_,h,rfl⟩
 ixK_ok l q K h:=⟨_,h,fun y hy=>by unfold ix;rw[hy];rfl⟩
 eqK_ok a b K h:=⟨_,h,by simp⟩
def OB:RD ty iJ where
 sz:=3
 fs:= [(1,.int .i64),(1,.int .i64),(1,.sl (.st 12))]
 to x:=(x.kind,x.val,x.items,())
 toK x K:=K (x.kind,x.val,x.items,())
 ofK:=fun(a0,a1,a2,_) K=>K ⟨a0,a1,a2⟩
 ixK l q K:=K (ix l q)
 eqK a b K:=K (decide (a=b))
 sz_ok:=rfl
 toK_ok _ _ h:=h
 ofK_ok:=fun(a0,a1,a2,_) K h=>⟨_,h,rfl⟩
 ixK_ok l q K h:=⟨_,h,fun y hy=>by unfold ix;rw[hy];rfl⟩
 eqK_ok a b K h:=⟨_,h,by simp⟩
def OC:RD ty gL where
 sz:=19
 fs:= [(1,.int .i64),(9,.st 3),(8,.arr 8 (.int .u32)),(1,.sl (.st 3))]
 to x:=(x.kind,x.e,x.v,x.more,())
 toK x K:=K (x.kind,x.e,x.v,x.more,())
 ofK:=fun(a0,a1,a2,a3,_) K=>K ⟨a0,a1,a2,a3⟩
 ixK l q K:=K (ix l q)
 eqK a b K:=K (decide (a=b))
 sz_ok:=rfl
 toK_ok _ _ h:=h
 ofK_ok:=fun(a0,a1,a2,a3,_) K h=>⟨_,h,rfl⟩
 ixK_ok l q K h:=⟨_,h,fun y hy=>by unfold ix;rw[hy];rfl⟩
 eqK_ok a b K h:=⟨_,h,by simp⟩
def OD:RD ty jB where
 sz:=4
 fs:= [(1,.bool),(1,.bool),(1,.bool),(1,.bool)]
 to x:=(x.name,x.val,x.at_,x.tags,())
 toK x K:=K (x.name,x.val,x.at_,x.tags,())
 ofK:=fun(a0,a1,a2,a3,_) K=>K ⟨a0,a1,a2,a3⟩
 ixK l q K:=K (ix l q)
 eqK a b K:=K (decide (a=b))
 sz_ok:=rfl
 toK_ok _ _ h:=h
 ofK_ok:=fun(a0,a1,a2,a3,_) K h=>⟨_,h,rfl⟩
 ixK_ok l q K h:=⟨_,h,fun y hy=>by unfold ix;rw[hy];rfl⟩
 eqK_ok a b K h:=⟨_,h,by simp⟩
def OE:RD ty sZ where
 sz:=3
 fs:= [(1,.int .i64),(1,.str),(1,.int .i64)]
 to x:=(x.act,x.name,x.val,())
 toK x K:=K (x.act,x.name,x.val,())
 ofK:=fun(a0,a1,a2,_) K=>K ⟨a0,a1,a2⟩
 ixK l q K:=K (ix l q)
 eqK a b K:=K (decide (a=b))
 sz_ok:=rfl
 toK_ok _ _ h:=h
 ofK_ok:=fun(a0,a1,a2,_) K h=>⟨_,h,rfl⟩
 ixK_ok l q K h:=⟨_,h,fun y hy=>by unfold ix;rw[hy];rfl⟩
 eqK_ok a b K h:=⟨_,h,by simp⟩
def R3:RD ty Unit where
 sz:=0
 fs:= []
 to x:=()
 toK x K:=False
 ofK:=fun _ _=>False
 ixK _ _ _:=False
 eqK _ _ _:=False
 sz_ok:=rfl
 toK_ok _ _ h:=h.elim
 ofK_ok _ _ h:=h.elim
 ixK_ok _ _ _ h:=h.elim
 eqK_ok _ _ _ h:=h.elim
def U:cn where
 ty:=ty
 rd:=fun|0=>RT|1=>RU|2=>RV|3=>RW|4=>RX|5=>RY|6=>RZ|7=>R0|8=>R1|9=>R2|10=>Oy|11=>Oz|12=>OA|13=>OB|14=>OC|15=>OD|16=>OE|_+17=>R3
def HJ(a:kW):List Value:= [.int .i64 a.origin,.int .u32 a.seq]
theorem HK{Y:List Nat}{S:World→Prop}{a:kW}{vs:List Value}(h:aK U Y S (.st 0) a vs):vs=HJ a:=by
 obtain⟨h0,_⟩:=aK.inv h;obtain⟨v0,u0,e0,d0,_,h1⟩:=bK.inv h0;obtain⟨g0,_⟩:=aK.inv d0;obtain⟨v1,u1,e1,d1,_,h2⟩:=bK.inv h1;obtain⟨g1,_⟩:=aK.inv d1;have hz:u1= []:=bK.inv h2;rw[e0,e1,g0,g1,hz];rfl
def A4(a:ae):List Value:= [.int .i64 a.id.origin,.int .u32 a.id.seq,.int .i64 a.n]
theorem uZ{Y:List Nat}{S:World→Prop}{a:ae}{vs:List Value}(h:aK U Y S (.st 1) a vs):vs=A4 a:=by
 obtain⟨h0,_⟩:=aK.inv h;obtain⟨v0,u0,e0,d0,_,h1⟩:=bK.inv h0;have g0:=HK d0;obtain⟨v1,u1,e1,d1,_,h2⟩:=bK.inv h1;obtain⟨g1,_⟩:=aK.inv d1;have hz:u1= []:=bK.inv h2;rw[e0,e1,g0,g1,hz];rfl
def HL(a:au):List Value:= [.int .u32 a.time,.int .i64 a.origin]
theorem DQ{Y:List Nat}{S:World→Prop}{a:au}{vs:List Value}(h:aK U Y S (.st 2) a vs):vs=HL a:=by
 obtain⟨h0,_⟩:=aK.inv h;obtain⟨v0,u0,e0,d0,_,h1⟩:=bK.inv h0;obtain⟨g0,_⟩:=aK.inv d0;obtain⟨v1,u1,e1,d1,_,h2⟩:=bK.inv h1;obtain⟨g1,_⟩:=aK.inv d1;have hz:u1= []:=bK.inv h2;rw[e0,e1,g0,g1,hz];rfl
def A5(a:bI):List Value:= [.int .i64 a.tag.id.origin,.int .u32 a.tag.id.seq,.int .i64 a.tag.n,sv a.field,.int .i64 a.val,.int .u32 a.at_.time,.int .i64 a.at_.origin]
theorem DR{Y:List Nat}{S:World→Prop}{a:bI}{vs:List Value}(h:aK U Y S (.st 4) a vs):vs=A5 a:=by
 obtain⟨h0,_⟩:=aK.inv h;obtain⟨v0,u0,e0,d0,_,h1⟩:=bK.inv h0;have g0:=uZ d0;obtain⟨v1,u1,e1,d1,_,h2⟩:=bK.inv h1;obtain⟨g1,_⟩:=aK.inv d1;obtain⟨v2,u2,e2,d2,_,h3⟩:=bK.inv h2;obtain⟨g2,_⟩:=aK.inv d2;obtain⟨v3,u3,e3,d3,_,h4⟩:=bK.inv h3;have g3:=DQ d3;have hz:u3= []:=bK.inv h4;rw[e0,e1,e2,e3,g0,g1,g2,g3,hz];rfl
def A6(a:bi):List Value:= [.int .i64 a.val,.int .u32 a.at_.time,.int .i64 a.at_.origin]
theorem DS{Y:List Nat}{S:World→Prop}{a:bi}{vs:List Value}(h:aK U Y S (.st 5) a vs):vs=A6 a:=by
 obtain⟨h0,_⟩:=aK.inv h;obtain⟨v0,u0,e0,d0,_,h1⟩:=bK.inv h0;obtain⟨g0,_⟩:=aK.inv d0;obtain⟨v1,u1,e1,d1,_,h2⟩:=bK.inv h1;have g1:=DQ d1;have hz:u1= []:=bK.inv h2;rw[e0,e1,g0,g1,hz];rfl
def A7(a:be):List Value:= [.int .i64 a.plus,.int .i64 a.minus]
theorem DT{Y:List Nat}{S:World→Prop}{a:be}{vs:List Value}(h:aK U Y S (.st 6) a vs):vs=A7 a:=by
 obtain⟨h0,_⟩:=aK.inv h;obtain⟨v0,u0,e0,d0,_,h1⟩:=bK.inv h0;obtain⟨g0,_⟩:=aK.inv d0;obtain⟨v1,u1,e1,d1,_,h2⟩:=bK.inv h1;obtain⟨g1,_⟩:=aK.inv d1;have hz:u1= []:=bK.inv h2;rw[e0,e1,g0,g1,hz];rfl
def A8(a:aT):List Value:= [.int .i64 a.tag.id.origin,.int .u32 a.tag.id.seq,.int .i64 a.tag.n,sv a.elem]
theorem DU{Y:List Nat}{S:World→Prop}{a:aT}{vs:List Value}(h:aK U Y S (.st 7) a vs):vs=A8 a:=by
 obtain⟨h0,_⟩:=aK.inv h;obtain⟨v0,u0,e0,d0,_,h1⟩:=bK.inv h0;have g0:=uZ d0;obtain⟨v1,u1,e1,d1,_,h2⟩:=bK.inv h1;obtain⟨g1,_⟩:=aK.inv d1;have hz:u1= []:=bK.inv h2;rw[e0,e1,g0,g1,hz];rfl
def u4(a:d8):List Value:= [sv a.field,.int .i64 a.val]
theorem xI{Y:List Nat}{S:World→Prop}{a:d8}{vs:List Value}(h:aK U Y S (.st 12) a vs):vs=u4 a:=by
 obtain⟨h0,_⟩:=aK.inv h;obtain⟨v0,u0,e0,d0,_,h1⟩:=bK.inv h0;obtain⟨g0,_⟩:=aK.inv d0;obtain⟨v1,u1,e1,d1,_,h2⟩:=bK.inv h1;obtain⟨g1,_⟩:=aK.inv d1;have hz:u1= []:=bK.inv h2;rw[e0,e1,g0,g1,hz];rfl
def A9(a:jB):List Value:= [.bool a.name,.bool a.val,.bool a.at_,.bool a.tags]
theorem E0{Y:List Nat}{S:World→Prop}{a:jB}{vs:List Value}(h:aK U Y S (.st 15) a vs):vs=A9 a:=by
 obtain⟨h0,_⟩:=aK.inv h;obtain⟨v0,u0,e0,d0,_,h1⟩:=bK.inv h0;have g0:=aK.inv d0;obtain⟨v1,u1,e1,d1,_,h2⟩:=bK.inv h1;have g1:=aK.inv d1;obtain⟨v2,u2,e2,d2,_,h3⟩:=bK.inv h2;have g2:=aK.inv d2;obtain⟨v3,u3,e3,d3,_,h4⟩:=bK.inv h3;have g3:=aK.inv d3;have hz:u3= []:=bK.inv h4;rw[e0,e1,e2,e3,g0,g1,g2,g3,hz];rfl
def u5(a:sZ):List Value:= [.int .i64 a.act,sv a.name,.int .i64 a.val]
theorem xJ{Y:List Nat}{S:World→Prop}{a:sZ}{vs:List Value}(h:aK U Y S (.st 16) a vs):vs=u5 a:=by
 obtain⟨h0,_⟩:=aK.inv h;obtain⟨v0,u0,e0,d0,_,h1⟩:=bK.inv h0;obtain⟨g0,_⟩:=aK.inv d0;obtain⟨v1,u1,e1,d1,_,h2⟩:=bK.inv h1;obtain⟨g1,_⟩:=aK.inv d1;obtain⟨v2,u2,e2,d2,_,h3⟩:=bK.inv h2;obtain⟨g2,_⟩:=aK.inv d2;have hz:u2= []:=bK.inv h3;rw[e0,e1,e2,g0,g1,g2,hz];rfl
theorem J5(a0:Int)(a1:Int)(a2:Int)(b0:Int)(b1:Int)(b2:Int):bc Tryz.prog 8 34 [.int .i64 a0,.int .u32 a1,.int .i64 a2] [.int .i64 b0,.int .u32 b1,.int .i64 b2]=some ((((a0==b0)&&((a1==b1)&&true))&&((a2==b2)&&true))):=by kernel_rfl
theorem Ba(a b:ae): ∃r,bc Tryz.prog 8 34 (A4 a) (A4 b)=some r∧(r=true↔a=b):=by
 obtain⟨⟨a0,a1⟩,a2⟩:=a;obtain⟨⟨b0,b1⟩,b2⟩:=b;refine⟨_,J5 _ _ _ _ _ _,?_⟩;show _↔(ae.mk (kW.mk a0 a1) a2)=(ae.mk (kW.mk b0 b1) b2)
 simp
theorem J6:jX U Tryz.prog 34 (.st 1):=⟨by kernel_rfl,fun Y S a b vs us h1 h2=>by rw[uZ h1,uZ h2];exact Ba a b⟩
theorem J7(a0:Int)(a1:Int)(b0:Int)(b1:Int):bc Tryz.prog 8 32 [.int .i64 a0,.int .u32 a1] [.int .i64 b0,.int .u32 b1]=some (((a0==b0)&&((a1==b1)&&true))):=by kernel_rfl
theorem J8(a b:kW): ∃r,bc Tryz.prog 8 32 (HJ a) (HJ b)=some r∧(r=true↔a=b):=by
 obtain⟨a0,a1⟩:=a;obtain⟨b0,b1⟩:=b;refine⟨_,J7 _ _ _ _,?_⟩;show _↔(kW.mk a0 a1)=(kW.mk b0 b1)
 simp
theorem OF:jX U Tryz.prog 32 (.st 0):=⟨by kernel_rfl,fun Y S a b vs us h1 h2=>by rw[HK h1,HK h2];exact J8 a b⟩
theorem J9(a0:Int)(a1:Int)(a2:Int)(a3:Int)(a4:Int)(a5:Int)(a6:Int)(a7:Int)(b0:Int)(b1:Int)(b2:Int)(b3:Int)(b4:Int)(b5:Int)(b6:Int)(b7:Int):bc Tryz.prog 8 41 [.int .u32 a0,.int .u32 a1,.int .u32 a2,.int .u32 a3,.int .u32 a4,.int .u32 a5,.int .u32 a6,.int .u32 a7] [.int .u32 b0,.int .u32 b1,.int .u32 b2,.int .u32 b3,.int .u32 b4,.int .u32 b5,.int .u32 b6,.int .u32 b7]=some (((a0==b0)&&((a1==b1)&&((a2==b2)&&((a3==b3)&&((a4==b4)&&((a5==b5)&&((a6==b6)&&((a7==b7)&&true))))))))):=by kernel_rfl
theorem Kb: ∀a b:List Int,a.length=8→b.length=8→ ∃r,bc Tryz.prog 8 41 (a.map (Value.int .u32)) (b.map (Value.int .u32))=some r∧(r=true↔a=b)
 | [a0,a1,a2,a3,a4,a5,a6,a7],[b0,b1,b2,b3,b4,b5,b6,b7],_,_=>⟨_,J9 _ _ _ _ _ _ _ _ _ _ _ _ _ _ _ _,by simp⟩
theorem OG:jX U Tryz.prog 41 (.arr 8 (.int .u32)):=⟨by kernel_rfl,fun Y S a b vs us h1 h2=>by
 obtain⟨h1,l1⟩:=aK.inv h1;obtain⟨h2,l2⟩:=aK.inv h2;rw[lj h1,lj h2];exact Kb a b l1 l2⟩
theorem Kc(a0:Int)(a1:Int)(a2:Int)(b0:Int)(b1:Int)(b2:Int):bc Tryz.prog 8 51 [.int .i64 a0,.int .u32 a1,.int .i64 a2] [.int .i64 b0,.int .u32 b1,.int .i64 b2]=some (((a0==b0)&&(((a1==b1)&&((a2==b2)&&true))&&true))):=by kernel_rfl
theorem Ke(a b:bi): ∃r,bc Tryz.prog 8 51 (A6 a) (A6 b)=some r∧(r=true↔a=b):=by
 obtain⟨a0,⟨a1,a2⟩⟩:=a;obtain⟨b0,⟨b1,b2⟩⟩:=b;refine⟨_,Kc _ _ _ _ _ _,?_⟩;show _↔(bi.mk a0 (au.mk a1 a2))=(bi.mk b0 (au.mk b1 b2))
 simp
theorem OH:jX U Tryz.prog 51 (.st 5):=⟨by kernel_rfl,fun Y S a b vs us h1 h2=>by rw[DS h1,DS h2];exact Ke a b⟩
theorem Kg(a0:Int)(a1:Int)(b0:Int)(b1:Int):bc Tryz.prog 8 36 [.int .u32 a0,.int .i64 a1] [.int .u32 b0,.int .i64 b1]=some (((a0==b0)&&((a1==b1)&&true))):=by kernel_rfl
theorem Kh(a b:au): ∃r,bc Tryz.prog 8 36 (HL a) (HL b)=some r∧(r=true↔a=b):=by
 obtain⟨a0,a1⟩:=a;obtain⟨b0,b1⟩:=b;refine⟨_,Kg _ _ _ _,?_⟩;show _↔(au.mk a0 a1)=(au.mk b0 b1)
 simp
theorem OI:jX U Tryz.prog 36 (.st 2):=⟨by kernel_rfl,fun Y S a b vs us h1 h2=>by rw[DQ h1,DQ h2];exact Kh a b⟩
theorem Ki(a0:Int)(a1:Int)(b0:Int)(b1:Int):bc Tryz.prog 8 53 [.int .i64 a0,.int .i64 a1] [.int .i64 b0,.int .i64 b1]=some (((a0==b0)&&((a1==b1)&&true))):=by kernel_rfl
theorem Kj(a b:be): ∃r,bc Tryz.prog 8 53 (A7 a) (A7 b)=some r∧(r=true↔a=b):=by
 obtain⟨a0,a1⟩:=a;obtain⟨b0,b1⟩:=b;refine⟨_,Ki _ _ _ _,?_⟩;show _↔(be.mk a0 a1)=(be.mk b0 b1)
 simp
theorem OJ:jX U Tryz.prog 53 (.st 6):=⟨by kernel_rfl,fun Y S a b vs us h1 h2=>by rw[DT h1,DT h2];exact Kj a b⟩
theorem HM(a0:Int)(a1:Int)(a2:Int)(a3:List UInt8)(b0:Int)(b1:Int)(b2:Int)(b3:List UInt8):bc Tryz.prog 8 159 [.int .i64 a0,.int .u32 a1,.int .i64 a2,sv a3] [.int .i64 b0,.int .u32 b1,.int .i64 b2,sv b3]=some (((((a0==b0)&&((a1==b1)&&true))&&((a2==b2)&&true))&&((a3==b3)&&true))):=by kernel_rfl
theorem HN(a b:aT): ∃r,bc Tryz.prog 8 159 (A8 a) (A8 b)=some r∧(r=true↔a=b):=by
 obtain⟨⟨⟨a0,a1⟩,a2⟩,a3⟩:=a;obtain⟨⟨⟨b0,b1⟩,b2⟩,b3⟩:=b;refine⟨_,HM _ _ _ _ _ _ _ _,?_⟩;show _↔(aT.mk (ae.mk (kW.mk a0 a1) a2) a3)=(aT.mk (ae.mk (kW.mk b0 b1) b2) b3)
 simp
theorem Kl:jX U Tryz.prog 159 (.st 7):=⟨by kernel_rfl,fun Y S a b vs us h1 h2=>by rw[DU h1,DU h2];exact HN a b⟩
theorem HO(a0:Int)(a1:Int)(a2:Int)(a3:List UInt8)(a4:Int)(a5:Int)(a6:Int)(b0:Int)(b1:Int)(b2:Int)(b3:List UInt8)(b4:Int)(b5:Int)(b6:Int):bc Tryz.prog 8 164 [.int .i64 a0,.int .u32 a1,.int .i64 a2,sv a3,.int .i64 a4,.int .u32 a5,.int .i64 a6] [.int .i64 b0,.int .u32 b1,.int .i64 b2,sv b3,.int .i64 b4,.int .u32 b5,.int .i64 b6]=some (((((a0==b0)&&((a1==b1)&&true))&&((a2==b2)&&true))&&((a3==b3)&&((a4==b4)&&(((a5==b5)&&((a6==b6)&&true))&&true))))):=by kernel_rfl
theorem HP(a b:bI): ∃r,bc Tryz.prog 8 164 (A5 a) (A5 b)=some r∧(r=true↔a=b):=by
 obtain⟨⟨⟨a0,a1⟩,a2⟩,a3,a4,⟨a5,a6⟩⟩:=a;obtain⟨⟨⟨b0,b1⟩,b2⟩,b3,b4,⟨b5,b6⟩⟩:=b;refine⟨_,HO _ _ _ _ _ _ _ _ _ _ _ _ _ _,?_⟩;show _↔(bI.mk (ae.mk (kW.mk a0 a1) a2) a3 a4 (au.mk a5 a6))=(bI.mk (ae.mk (kW.mk b0 b1) b2) b3 b4 (au.mk b5 b6))
 simp
theorem Km:jX U Tryz.prog 164 (.st 4):=⟨by kernel_rfl,fun Y S a b vs us h1 h2=>by rw[DR h1,DR h2];exact HP a b⟩
theorem HQ(a0:Int)(a1:Int)(a2:Int)(a3:List UInt8)(b0:Int)(b1:Int)(b2:Int)(b3:List UInt8):bc Tryz.prog 8 178 [.int .i64 a0,.int .u32 a1,.int .i64 a2,sv a3] [.int .i64 b0,.int .u32 b1,.int .i64 b2,sv b3]=some (((((a0==b0)&&((a1==b1)&&true))&&((a2==b2)&&true))&&((a3==b3)&&true))):=by kernel_rfl
theorem HR(a b:aT): ∃r,bc Tryz.prog 8 178 (A8 a) (A8 b)=some r∧(r=true↔a=b):=by
 obtain⟨⟨⟨a0,a1⟩,a2⟩,a3⟩:=a;obtain⟨⟨⟨b0,b1⟩,b2⟩,b3⟩:=b;refine⟨_,HQ _ _ _ _ _ _ _ _,?_⟩;show _↔(aT.mk (ae.mk (kW.mk a0 a1) a2) a3)=(aT.mk (ae.mk (kW.mk b0 b1) b2) b3)
 simp
theorem Kn:jX U Tryz.prog 178 (.st 7):=⟨by kernel_rfl,fun Y S a b vs us h1 h2=>by rw[DU h1,DU h2];exact HR a b⟩
theorem HS(a0:Int)(a1:Int)(a2:Int)(a3:List UInt8)(a4:Int)(a5:Int)(a6:Int)(b0:Int)(b1:Int)(b2:Int)(b3:List UInt8)(b4:Int)(b5:Int)(b6:Int):bc Tryz.prog 8 182 [.int .i64 a0,.int .u32 a1,.int .i64 a2,sv a3,.int .i64 a4,.int .u32 a5,.int .i64 a6] [.int .i64 b0,.int .u32 b1,.int .i64 b2,sv b3,.int .i64 b4,.int .u32 b5,.int .i64 b6]=some (((((a0==b0)&&((a1==b1)&&true))&&((a2==b2)&&true))&&((a3==b3)&&((a4==b4)&&(((a5==b5)&&((a6==b6)&&true))&&true))))):=by kernel_rfl
theorem HT(a b:bI): ∃r,bc Tryz.prog 8 182 (A5 a) (A5 b)=some r∧(r=true↔a=b):=by
 obtain⟨⟨⟨a0,a1⟩,a2⟩,a3,a4,⟨a5,a6⟩⟩:=a;obtain⟨⟨⟨b0,b1⟩,b2⟩,b3,b4,⟨b5,b6⟩⟩:=b;refine⟨_,HS _ _ _ _ _ _ _ _ _ _ _ _ _ _,?_⟩;show _↔(bI.mk (ae.mk (kW.mk a0 a1) a2) a3 a4 (au.mk a5 a6))=(bI.mk (ae.mk (kW.mk b0 b1) b2) b3 b4 (au.mk b5 b6))
 simp
theorem Ko:jX U Tryz.prog 182 (.st 4):=⟨by kernel_rfl,fun Y S a b vs us h1 h2=>by rw[DR h1,DR h2];exact HT a b⟩
theorem Kp(a0:Int)(a1:Int)(a2:Int)(b0:Int)(b1:Int)(b2:Int):bc Tryz.prog 8 66 [.int .i64 a0,.int .u32 a1,.int .i64 a2] [.int .i64 b0,.int .u32 b1,.int .i64 b2]=some (((a0==b0)&&(((a1==b1)&&((a2==b2)&&true))&&true))):=by kernel_rfl
theorem Kq(a b:bi): ∃r,bc Tryz.prog 8 66 (A6 a) (A6 b)=some r∧(r=true↔a=b):=by
 obtain⟨a0,⟨a1,a2⟩⟩:=a;obtain⟨b0,⟨b1,b2⟩⟩:=b;refine⟨_,Kp _ _ _ _ _ _,?_⟩;show _↔(bi.mk a0 (au.mk a1 a2))=(bi.mk b0 (au.mk b1 b2))
 simp
theorem OK:jX U Tryz.prog 66 (.st 5):=⟨by kernel_rfl,fun Y S a b vs us h1 h2=>by rw[DS h1,DS h2];exact Kq a b⟩
theorem Kr(a0:Int)(a1:Int)(b0:Int)(b1:Int):bc Tryz.prog 8 67 [.int .i64 a0,.int .i64 a1] [.int .i64 b0,.int .i64 b1]=some (((a0==b0)&&((a1==b1)&&true))):=by kernel_rfl
theorem Ks(a b:be): ∃r,bc Tryz.prog 8 67 (A7 a) (A7 b)=some r∧(r=true↔a=b):=by
 obtain⟨a0,a1⟩:=a;obtain⟨b0,b1⟩:=b;refine⟨_,Kr _ _ _ _,?_⟩;show _↔(be.mk a0 a1)=(be.mk b0 b1)
 simp
theorem OL:jX U Tryz.prog 67 (.st 6):=⟨by kernel_rfl,fun Y S a b vs us h1 h2=>by rw[DT h1,DT h2];exact Ks a b⟩
theorem HU(a0:List UInt8)(a1:Int)(b0:List UInt8)(b1:Int):bc Tryz.prog 8 134 [sv a0,.int .i64 a1] [sv b0,.int .i64 b1]=some (((a0==b0)&&((a1==b1)&&true))):=by kernel_rfl
theorem HV(a b:d8): ∃r,bc Tryz.prog 8 134 (u4 a) (u4 b)=some r∧(r=true↔a=b):=by
 obtain⟨a0,a1⟩:=a;obtain⟨b0,b1⟩:=b;refine⟨_,HU _ _ _ _,?_⟩;show _↔(d8.mk a0 a1)=(d8.mk b0 b1)
 simp
theorem Kt:jX U Tryz.prog 134 (.st 12):=⟨by kernel_rfl,fun Y S a b vs us h1 h2=>by rw[xI h1,xI h2];exact HV a b⟩
theorem HW(a0:Bool)(a1:Bool)(a2:Bool)(a3:Bool)(b0:Bool)(b1:Bool)(b2:Bool)(b3:Bool):bc Tryz.prog 8 149 [.bool a0,.bool a1,.bool a2,.bool a3] [.bool b0,.bool b1,.bool b2,.bool b3]=some (((a0==b0)&&((a1==b1)&&((a2==b2)&&((a3==b3)&&true))))):=by kernel_rfl
theorem HX(a b:jB): ∃r,bc Tryz.prog 8 149 (A9 a) (A9 b)=some r∧(r=true↔a=b):=by
 obtain⟨a0,a1,a2,a3⟩:=a;obtain⟨b0,b1,b2,b3⟩:=b;refine⟨_,HW _ _ _ _ _ _ _ _,?_⟩;show _↔(jB.mk a0 a1 a2 a3)=(jB.mk b0 b1 b2 b3)
 simp
theorem Ku:jX U Tryz.prog 149 (.st 15):=⟨by kernel_rfl,fun Y S a b vs us h1 h2=>by rw[E0 h1,E0 h2];exact HX a b⟩
theorem HY(a0:List UInt8)(a1:Int)(b0:List UInt8)(b1:Int):bc Tryz.prog 8 135 [sv a0,.int .i64 a1] [sv b0,.int .i64 b1]=some (((a0==b0)&&((a1==b1)&&true))):=by kernel_rfl
theorem HZ(a b:d8): ∃r,bc Tryz.prog 8 135 (u4 a) (u4 b)=some r∧(r=true↔a=b):=by
 obtain⟨a0,a1⟩:=a;obtain⟨b0,b1⟩:=b;refine⟨_,HY _ _ _ _,?_⟩;show _↔(d8.mk a0 a1)=(d8.mk b0 b1)
 simp
theorem Kv:jX U Tryz.prog 135 (.st 12):=⟨by kernel_rfl,fun Y S a b vs us h1 h2=>by rw[xI h1,xI h2];exact HZ a b⟩
theorem H3(a0:Int)(a1:List UInt8)(a2:Int)(b0:Int)(b1:List UInt8)(b2:Int):bc Tryz.prog 8 168 [.int .i64 a0,sv a1,.int .i64 a2] [.int .i64 b0,sv b1,.int .i64 b2]=some (((a0==b0)&&((a1==b1)&&((a2==b2)&&true)))):=by kernel_rfl
theorem H4(a b:sZ): ∃r,bc Tryz.prog 8 168 (u5 a) (u5 b)=some r∧(r=true↔a=b):=by
 obtain⟨a0,a1,a2⟩:=a;obtain⟨b0,b1,b2⟩:=b;refine⟨_,H3 _ _ _ _ _ _,?_⟩;show _↔(sZ.mk a0 a1 a2)=(sZ.mk b0 b1 b2)
 simp
theorem Kw:jX U Tryz.prog 168 (.st 16):=⟨by kernel_rfl,fun Y S a b vs us h1 h2=>by rw[xJ h1,xJ h2];exact H4 a b⟩
theorem H5(a0:Int)(a1:List UInt8)(a2:Int)(b0:Int)(b1:List UInt8)(b2:Int):bc Tryz.prog 8 146 [.int .i64 a0,sv a1,.int .i64 a2] [.int .i64 b0,sv b1,.int .i64 b2]=some (((a0==b0)&&((a1==b1)&&((a2==b2)&&true)))):=by kernel_rfl
theorem H6(a b:sZ): ∃r,bc Tryz.prog 8 146 (u5 a) (u5 b)=some r∧(r=true↔a=b):=by
 obtain⟨a0,a1,a2⟩:=a;obtain⟨b0,b1,b2⟩:=b;refine⟨_,H5 _ _ _ _ _ _,?_⟩;show _↔(sZ.mk a0 a1 a2)=(sZ.mk b0 b1 b2)
 simp
theorem Kx:jX U Tryz.prog 146 (.st 16):=⟨by kernel_rfl,fun Y S a b vs us h1 h2=>by rw[xJ h1,xJ h2];exact H6 a b⟩
theorem H7(a0:Int)(a1:Int)(b0:Int)(b1:Int):bc Tryz.prog 8 246 [.int .i64 a0,.int .i64 a1] [.int .i64 b0,.int .i64 b1]=some (((a0==b0)&&((a1==b1)&&true))):=by kernel_rfl
theorem H8: ∀a b:List Int,a.length=2→b.length=2→ ∃r,bc Tryz.prog 8 246 (a.map (Value.int .i64)) (b.map (Value.int .i64))=some r∧(r=true↔a=b)
 | [a0,a1],[b0,b1],_,_=>⟨_,H7 _ _ _ _,by simp⟩
theorem Ky:jX U Tryz.prog 246 (.arr 2 (.int .i64)):=⟨by kernel_rfl,fun Y S a b vs us h1 h2=>by
 obtain⟨h1,l1⟩:=aK.inv h1;obtain⟨h2,l2⟩:=aK.inv h2;rw[lj h1,lj h2];exact H8 a b l1 l2⟩
def Pd:TI U:=⟨1,.int .i64,8,[],some (.int .i64),false,[(1,.d (.int .i64) (0:Int))],none⟩
theorem H9:bj U Tryz.prog 3 Pd:=aY [.i .i64] rfl (by kernel_rfl) rfl (by kernel_rfl) (by kernel_rfl) (show Tryz.prog.underlying 3=some (.int .i64)by kernel_rfl) (by kernel_rfl) (by kernel_rfl) (by kernel_rfl) (fun i h1 h2=>by cases h2) (fun d h=>by cases h)
def Kz:TI U:=⟨1,.sl 34,24,[],some (.sl (.st 1)),false,[(1,.nils)],none⟩
theorem DV:bj U Tryz.prog 37 Kz:=aY [.l] rfl (by kernel_rfl) rfl (by kernel_rfl) (by kernel_rfl) (show Tryz.prog.underlying 37=some (.slice 34)by kernel_rfl) (by kernel_rfl) (by kernel_rfl) (by kernel_rfl) (fun i h1 h2=>by cases h2) (fun d h=>by cases h)
def KA:TI U:=⟨3,.st,24,[(0,32),(2,3)],some (.st 1),true,[(1,.d (.int .i64) (0:Int)),(1,.d (.int .u32) (0:Int)),(1,.d (.int .i64) (0:Int))],none⟩
theorem jV:bj U Tryz.prog 34 KA:=aY [.i .i64,.i .u32,.i .i64] rfl (by kernel_rfl) rfl (by kernel_rfl) (by kernel_rfl) ⟨_,rfl⟩ rfl (by kernel_rfl) (by kernel_rfl) (fun i h1 h2=>⟨rfl,by injection h1 with h1;subst h1;exact J6⟩) (fun d h=>by cases h)
def KB:TI U:=⟨2,.st,16,[(0,3),(1,30)],some (.st 0),true,[(1,.d (.int .i64) (0:Int)),(1,.d (.int .u32) (0:Int))],none⟩
theorem DW:bj U Tryz.prog 32 KB:=aY [.i .i64,.i .u32] rfl (by kernel_rfl) rfl (by kernel_rfl) (by kernel_rfl) ⟨_,rfl⟩ rfl (by kernel_rfl) (by kernel_rfl) (fun i h1 h2=>⟨rfl,by injection h1 with h1;subst h1;exact OF⟩) (fun d h=>by cases h)
def KC:TI U:=⟨1,.int .u32,4,[],some (.int .u32),false,[(1,.d (.int .u32) (0:Int))],none⟩
theorem DX:bj U Tryz.prog 30 KC:=aY [.i .u32] rfl (by kernel_rfl) rfl (by kernel_rfl) (by kernel_rfl) (show Tryz.prog.underlying 30=some (.int .u32)by kernel_rfl) (by kernel_rfl) (by kernel_rfl) (by kernel_rfl) (fun i h1 h2=>by cases h2) (fun d h=>by cases h)
def KE:TI U:=⟨8,.arr 8 30,32,[],some (.arr 8 (.int .u32)),true,[(1,.d (.int .u32) (0:Int)),(1,.d (.int .u32) (0:Int)),(1,.d (.int .u32) (0:Int)),(1,.d (.int .u32) (0:Int)),(1,.d (.int .u32) (0:Int)),(1,.d (.int .u32) (0:Int)),(1,.d (.int .u32) (0:Int)),(1,.d (.int .u32) (0:Int))],none⟩
theorem DY:bj U Tryz.prog 41 KE:=aY [.i .u32,.i .u32,.i .u32,.i .u32,.i .u32,.i .u32,.i .u32,.i .u32] rfl (by kernel_rfl) rfl (by kernel_rfl) (by kernel_rfl) (show Tryz.prog.underlying 41=some (.array 8 30)by kernel_rfl) (by kernel_rfl) (by kernel_rfl) (by kernel_rfl) (fun i h1 h2=>⟨rfl,by injection h1 with h1;subst h1;exact OG⟩) (fun d h=>by cases h)
def KF:TI U:=⟨10,.st,144,[(0,3),(1,51),(4,53),(6,56),(8,59)],some (.st 10),false,[(1,.d (.int .i64) (0:Int)),(1,.d (.int .i64) (0:Int)),(1,.d (.int .u32) (0:Int)),(1,.d (.int .i64) (0:Int)),(1,.d (.int .i64) (0:Int)),(1,.d (.int .i64) (0:Int)),(1,.nils),(1,.nils),(1,.nils),(1,.nils)],none⟩
theorem DZ:bj U Tryz.prog 61 KF:=aY [.i .i64,.i .i64,.i .u32,.i .i64,.i .i64,.i .i64,.l,.l,.l,.l] rfl (by kernel_rfl) rfl (by kernel_rfl) (by kernel_rfl) ⟨_,rfl⟩ rfl (by kernel_rfl) (by kernel_rfl) (fun i h1 h2=>by cases h2) (fun d h=>by cases h)
def KG:TI U:=⟨3,.st,24,[(0,2),(1,36)],some (.st 5),true,[(1,.d (.int .i64) (0:Int)),(1,.d (.int .u32) (0:Int)),(1,.d (.int .i64) (0:Int))],none⟩
theorem D2:bj U Tryz.prog 51 KG:=aY [.i .i64,.i .u32,.i .i64] rfl (by kernel_rfl) rfl (by kernel_rfl) (by kernel_rfl) ⟨_,rfl⟩ rfl (by kernel_rfl) (by kernel_rfl) (fun i h1 h2=>⟨rfl,by injection h1 with h1;subst h1;exact OH⟩) (fun d h=>by cases h)
def Pe:TI U:=⟨1,.int .i64,8,[],some (.int .i64),false,[(1,.d (.int .i64) (0:Int))],none⟩
theorem Ia:bj U Tryz.prog 2 Pe:=aY [.i .i64] rfl (by kernel_rfl) rfl (by kernel_rfl) (by kernel_rfl) (show Tryz.prog.underlying 2=some (.int .i64)by kernel_rfl) (by kernel_rfl) (by kernel_rfl) (by kernel_rfl) (fun i h1 h2=>by cases h2) (fun d h=>by cases h)
def KH:TI U:=⟨2,.st,16,[(0,30),(1,3)],some (.st 2),true,[(1,.d (.int .u32) (0:Int)),(1,.d (.int .i64) (0:Int))],none⟩
theorem D3:bj U Tryz.prog 36 KH:=aY [.i .u32,.i .i64] rfl (by kernel_rfl) rfl (by kernel_rfl) (by kernel_rfl) ⟨_,rfl⟩ rfl (by kernel_rfl) (by kernel_rfl) (fun i h1 h2=>⟨rfl,by injection h1 with h1;subst h1;exact OI⟩) (fun d h=>by cases h)
def KI:TI U:=⟨2,.st,16,[(0,2),(1,2)],some (.st 6),true,[(1,.d (.int .i64) (0:Int)),(1,.d (.int .i64) (0:Int))],none⟩
theorem D4:bj U Tryz.prog 53 KI:=aY [.i .i64,.i .i64] rfl (by kernel_rfl) rfl (by kernel_rfl) (by kernel_rfl) ⟨_,rfl⟩ rfl (by kernel_rfl) (by kernel_rfl) (fun i h1 h2=>⟨rfl,by injection h1 with h1;subst h1;exact OJ⟩) (fun d h=>by cases h)
def KJ:TI U:=⟨2,.st,48,[(0,54),(1,37)],some (.st 8),false,[(1,.nils),(1,.nils)],none⟩
theorem D5:bj U Tryz.prog 56 KJ:=aY [.l,.l] rfl (by kernel_rfl) rfl (by kernel_rfl) (by kernel_rfl) ⟨_,rfl⟩ rfl (by kernel_rfl) (by kernel_rfl) (fun i h1 h2=>by cases h2) (fun d h=>by cases h)
def KK:TI U:=⟨1,.sl 159,24,[],some (.sl (.st 7)),false,[(1,.nils)],none⟩
theorem D6:bj U Tryz.prog 54 KK:=aY [.l] rfl (by kernel_rfl) rfl (by kernel_rfl) (by kernel_rfl) (show Tryz.prog.underlying 54=some (.slice 159)by kernel_rfl) (by kernel_rfl) (by kernel_rfl) (by kernel_rfl) (fun i h1 h2=>by cases h2) (fun d h=>by cases h)
def E1:TI U:=⟨4,.st,40,[(0,34),(3,9)],some (.st 7),true,[(1,.d (.int .i64) (0:Int)),(1,.d (.int .u32) (0:Int)),(1,.d (.int .i64) (0:Int)),(1,.d .str ([]:List UInt8))],none⟩
theorem lO:bj U Tryz.prog 159 E1:=aY [.i .i64,.i .u32,.i .i64,.s] rfl (by kernel_rfl) rfl (by kernel_rfl) (by kernel_rfl) ⟨_,rfl⟩ rfl (by kernel_rfl) (by kernel_rfl) (fun i h1 h2=>⟨rfl,by injection h1 with h1;subst h1;exact Kl⟩) (fun d h=>by cases h)
def Pf:TI U:=⟨1,.str,16,[],some (.str),false,[(1,.d .str ([]:List UInt8))],none⟩
theorem Ic:bj U Tryz.prog 9 Pf:=aY [.s] rfl (by kernel_rfl) rfl (by kernel_rfl) (by kernel_rfl) (show Tryz.prog.underlying 9=some .string by kernel_rfl) (by kernel_rfl) (by kernel_rfl) (by kernel_rfl) (fun i h1 h2=>by cases h2) (fun d h=>by cases h)
def KL:TI U:=⟨2,.st,48,[(0,57),(1,37)],some (.st 9),false,[(1,.nils),(1,.nils)],none⟩
theorem D7:bj U Tryz.prog 59 KL:=aY [.l,.l] rfl (by kernel_rfl) rfl (by kernel_rfl) (by kernel_rfl) ⟨_,rfl⟩ rfl (by kernel_rfl) (by kernel_rfl) (fun i h1 h2=>by cases h2) (fun d h=>by cases h)
def KM:TI U:=⟨1,.sl 164,24,[],some (.sl (.st 4)),false,[(1,.nils)],none⟩
theorem D8:bj U Tryz.prog 57 KM:=aY [.l] rfl (by kernel_rfl) rfl (by kernel_rfl) (by kernel_rfl) (show Tryz.prog.underlying 57=some (.slice 164)by kernel_rfl) (by kernel_rfl) (by kernel_rfl) (by kernel_rfl) (fun i h1 h2=>by cases h2) (fun d h=>by cases h)
def E2:TI U:=⟨7,.st,64,[(0,34),(3,9),(4,2),(5,36)],some (.st 4),true,[(1,.d (.int .i64) (0:Int)),(1,.d (.int .u32) (0:Int)),(1,.d (.int .i64) (0:Int)),(1,.d .str ([]:List UInt8)),(1,.d (.int .i64) (0:Int)),(1,.d (.int .u32) (0:Int)),(1,.d (.int .i64) (0:Int))],none⟩
theorem lP:bj U Tryz.prog 164 E2:=aY [.i .i64,.i .u32,.i .i64,.s,.i .i64,.i .u32,.i .i64] rfl (by kernel_rfl) rfl (by kernel_rfl) (by kernel_rfl) ⟨_,rfl⟩ rfl (by kernel_rfl) (by kernel_rfl) (fun i h1 h2=>⟨rfl,by injection h1 with h1;subst h1;exact Km⟩) (fun d h=>by cases h)
def KN:TI U:=⟨2,.st,48,[(0,68),(1,37)],some (.st 8),false,[(1,.nils),(1,.nils)],none⟩
theorem D9:bj U Tryz.prog 70 KN:=aY [.l,.l] rfl (by kernel_rfl) rfl (by kernel_rfl) (by kernel_rfl) ⟨_,rfl⟩ rfl (by kernel_rfl) (by kernel_rfl) (fun i h1 h2=>by cases h2) (fun d h=>by cases h)
def KP:TI U:=⟨1,.sl 178,24,[],some (.sl (.st 7)),false,[(1,.nils)],none⟩
theorem Ea:bj U Tryz.prog 68 KP:=aY [.l] rfl (by kernel_rfl) rfl (by kernel_rfl) (by kernel_rfl) (show Tryz.prog.underlying 68=some (.slice 178)by kernel_rfl) (by kernel_rfl) (by kernel_rfl) (by kernel_rfl) (fun i h1 h2=>by cases h2) (fun d h=>by cases h)
def E3:TI U:=⟨4,.st,40,[(0,34),(3,9)],some (.st 7),true,[(1,.d (.int .i64) (0:Int)),(1,.d (.int .u32) (0:Int)),(1,.d (.int .i64) (0:Int)),(1,.d .str ([]:List UInt8))],none⟩
theorem Bb:bj U Tryz.prog 178 E3:=aY [.i .i64,.i .u32,.i .i64,.s] rfl (by kernel_rfl) rfl (by kernel_rfl) (by kernel_rfl) ⟨_,rfl⟩ rfl (by kernel_rfl) (by kernel_rfl) (fun i h1 h2=>⟨rfl,by injection h1 with h1;subst h1;exact Kn⟩) (fun d h=>by cases h)
def KQ:TI U:=⟨2,.st,48,[(0,71),(1,37)],some (.st 9),false,[(1,.nils),(1,.nils)],none⟩
theorem Eb:bj U Tryz.prog 73 KQ:=aY [.l,.l] rfl (by kernel_rfl) rfl (by kernel_rfl) (by kernel_rfl) ⟨_,rfl⟩ rfl (by kernel_rfl) (by kernel_rfl) (fun i h1 h2=>by cases h2) (fun d h=>by cases h)
def KT:TI U:=⟨1,.sl 182,24,[],some (.sl (.st 4)),false,[(1,.nils)],none⟩
theorem Ec:bj U Tryz.prog 71 KT:=aY [.l] rfl (by kernel_rfl) rfl (by kernel_rfl) (by kernel_rfl) (show Tryz.prog.underlying 71=some (.slice 182)by kernel_rfl) (by kernel_rfl) (by kernel_rfl) (by kernel_rfl) (fun i h1 h2=>by cases h2) (fun d h=>by cases h)
def E4:TI U:=⟨7,.st,64,[(0,34),(3,9),(4,2),(5,36)],some (.st 4),true,[(1,.d (.int .i64) (0:Int)),(1,.d (.int .u32) (0:Int)),(1,.d (.int .i64) (0:Int)),(1,.d .str ([]:List UInt8)),(1,.d (.int .i64) (0:Int)),(1,.d (.int .u32) (0:Int)),(1,.d (.int .i64) (0:Int))],none⟩
theorem Bc:bj U Tryz.prog 182 E4:=aY [.i .i64,.i .u32,.i .i64,.s,.i .i64,.i .u32,.i .i64] rfl (by kernel_rfl) rfl (by kernel_rfl) (by kernel_rfl) ⟨_,rfl⟩ rfl (by kernel_rfl) (by kernel_rfl) (fun i h1 h2=>⟨rfl,by injection h1 with h1;subst h1;exact Ko⟩) (fun d h=>by cases h)
def KU:TI U:=⟨10,.st,144,[(0,3),(1,66),(4,67),(6,70),(8,73)],some (.st 10),false,[(1,.d (.int .i64) (0:Int)),(1,.d (.int .i64) (0:Int)),(1,.d (.int .u32) (0:Int)),(1,.d (.int .i64) (0:Int)),(1,.d (.int .i64) (0:Int)),(1,.d (.int .i64) (0:Int)),(1,.nils),(1,.nils),(1,.nils),(1,.nils)],none⟩
theorem Ed:bj U Tryz.prog 75 KU:=aY [.i .i64,.i .i64,.i .u32,.i .i64,.i .i64,.i .i64,.l,.l,.l,.l] rfl (by kernel_rfl) rfl (by kernel_rfl) (by kernel_rfl) ⟨_,rfl⟩ rfl (by kernel_rfl) (by kernel_rfl) (fun i h1 h2=>by cases h2) (fun d h=>by cases h)
def KV:TI U:=⟨3,.st,24,[(0,2),(1,36)],some (.st 5),true,[(1,.d (.int .i64) (0:Int)),(1,.d (.int .u32) (0:Int)),(1,.d (.int .i64) (0:Int))],none⟩
theorem Ee:bj U Tryz.prog 66 KV:=aY [.i .i64,.i .u32,.i .i64] rfl (by kernel_rfl) rfl (by kernel_rfl) (by kernel_rfl) ⟨_,rfl⟩ rfl (by kernel_rfl) (by kernel_rfl) (fun i h1 h2=>⟨rfl,by injection h1 with h1;subst h1;exact OK⟩) (fun d h=>by cases h)
def KW:TI U:=⟨2,.st,16,[(0,2),(1,2)],some (.st 6),true,[(1,.d (.int .i64) (0:Int)),(1,.d (.int .i64) (0:Int))],none⟩
theorem Ef:bj U Tryz.prog 67 KW:=aY [.i .i64,.i .i64] rfl (by kernel_rfl) rfl (by kernel_rfl) (by kernel_rfl) ⟨_,rfl⟩ rfl (by kernel_rfl) (by kernel_rfl) (fun i h1 h2=>⟨rfl,by injection h1 with h1;subst h1;exact OL⟩) (fun d h=>by cases h)
def KX:TI U:=⟨1,.int .i64,8,[],some (.int .i64),false,[(1,.d (.int .i64) (0:Int))],none⟩
theorem Eg:bj U Tryz.prog 24 KX:=aY [.i .i64] rfl (by kernel_rfl) rfl (by kernel_rfl) (by kernel_rfl) (show Tryz.prog.underlying 24=some (.int .i64)by kernel_rfl) (by kernel_rfl) (by kernel_rfl) (by kernel_rfl) (fun i h1 h2=>by cases h2) (fun d h=>by cases h)
def KY:TI U:=⟨9,.st,96,[(0,3),(1,9),(2,2),(3,34),(6,36),(8,37)],some (.st 3),false,[(1,.d (.int .i64) (0:Int)),(1,.d .str ([]:List UInt8)),(1,.d (.int .i64) (0:Int)),(1,.d (.int .i64) (0:Int)),(1,.d (.int .u32) (0:Int)),(1,.d (.int .i64) (0:Int)),(1,.d (.int .u32) (0:Int)),(1,.d (.int .i64) (0:Int)),(1,.nils)],none⟩
theorem Eh:bj U Tryz.prog 39 KY:=aY [.i .i64,.s,.i .i64,.i .i64,.i .u32,.i .i64,.i .u32,.i .i64,.l] rfl (by kernel_rfl) rfl (by kernel_rfl) (by kernel_rfl) ⟨_,rfl⟩ rfl (by kernel_rfl) (by kernel_rfl) (fun i h1 h2=>by cases h2) (fun d h=>by cases h)
def KZ:TI U:=⟨9,.st,96,[(0,3),(1,9),(2,2),(3,34),(6,36),(8,37)],some (.st 3),false,[(1,.d (.int .i64) (0:Int)),(1,.d .str ([]:List UInt8)),(1,.d (.int .i64) (0:Int)),(1,.d (.int .i64) (0:Int)),(1,.d (.int .u32) (0:Int)),(1,.d (.int .i64) (0:Int)),(1,.d (.int .u32) (0:Int)),(1,.d (.int .i64) (0:Int)),(1,.nils)],none⟩
theorem ta:bj U Tryz.prog 47 KZ:=aY [.i .i64,.s,.i .i64,.i .i64,.i .u32,.i .i64,.i .u32,.i .i64,.l] rfl (by kernel_rfl) rfl (by kernel_rfl) (by kernel_rfl) ⟨_,rfl⟩ rfl (by kernel_rfl) (by kernel_rfl) (fun i h1 h2=>by cases h2) (fun d h=>by cases h)
def Ph:TI U:=⟨1,.bool,1,[],some (.bool),false,[(1,.d .bool false)],none⟩
theorem Bd:bj U Tryz.prog 4 Ph:=aY [.b] rfl (by kernel_rfl) rfl (by kernel_rfl) (by kernel_rfl) (show Tryz.prog.underlying 4=some .bool by kernel_rfl) (by kernel_rfl) (by kernel_rfl) (by kernel_rfl) (fun i h1 h2=>by cases h2) (fun d h=>by cases h)
def K0:TI U:=⟨1,.sl 39,24,[],some (.sl (.st 3)),false,[(1,.nils)],none⟩
theorem Ei:bj U Tryz.prog 42 K0:=aY [.l] rfl (by kernel_rfl) rfl (by kernel_rfl) (by kernel_rfl) (show Tryz.prog.underlying 42=some (.slice 39)by kernel_rfl) (by kernel_rfl) (by kernel_rfl) (by kernel_rfl) (fun i h1 h2=>by cases h2) (fun d h=>by cases h)
def K4:TI U:=⟨1,.sl 47,24,[],some (.sl (.st 3)),false,[(1,.nils)],none⟩
theorem Ej:bj U Tryz.prog 64 K4:=aY [.l] rfl (by kernel_rfl) rfl (by kernel_rfl) (by kernel_rfl) (show Tryz.prog.underlying 64=some (.slice 47)by kernel_rfl) (by kernel_rfl) (by kernel_rfl) (by kernel_rfl) (fun i h1 h2=>by cases h2) (fun d h=>by cases h)
def K5:TI U:=⟨1,.ptr 109,8,[],none,false,[(1,.nilp)],none⟩
theorem Ek:bj U Tryz.prog 23 K5:=aY [.p] rfl (by kernel_rfl) rfl (by kernel_rfl) (by kernel_rfl) (show Tryz.prog.underlying 23=some (.pointer 109)by kernel_rfl) (by kernel_rfl) (by kernel_rfl) (by kernel_rfl) (fun i h1 h2=>by cases h2) (fun d h=>by cases h)
def E5:TI U:=⟨20,.st,192,[(0,61),(10,41),(18,106),(19,107)],none,false,[(1,.d (.int .i64) (0:Int)),(1,.d (.int .i64) (0:Int)),(1,.d (.int .u32) (0:Int)),(1,.d (.int .i64) (0:Int)),(1,.d (.int .i64) (0:Int)),(1,.d (.int .i64) (0:Int)),(1,.nils),(1,.nils),(1,.nils),(1,.nils),(1,.d (.int .u32) (0:Int)),(1,.d (.int .u32) (0:Int)),(1,.d (.int .u32) (0:Int)),(1,.d (.int .u32) (0:Int)),(1,.d (.int .u32) (0:Int)),(1,.d (.int .u32) (0:Int)),(1,.d (.int .u32) (0:Int)),(1,.d (.int .u32) (0:Int)),(1,.nilm),(1,.nilm)],none⟩
theorem Be:bj U Tryz.prog 109 E5:=aY [.i .i64,.i .i64,.i .u32,.i .i64,.i .i64,.i .i64,.l,.l,.l,.l,.i .u32,.i .u32,.i .u32,.i .u32,.i .u32,.i .u32,.i .u32,.i .u32,.m,.m] rfl (by kernel_rfl) rfl (by kernel_rfl) (by kernel_rfl) ⟨_,rfl⟩ rfl (by kernel_rfl) (by kernel_rfl) (fun i h1 h2=>by cases h2) (fun d h=>by cases h)
def K6:TI U:=⟨20,.st,224,[(0,75),(10,41),(18,42),(19,37)],some (.st 11),false,[(1,.d (.int .i64) (0:Int)),(1,.d (.int .i64) (0:Int)),(1,.d (.int .u32) (0:Int)),(1,.d (.int .i64) (0:Int)),(1,.d (.int .i64) (0:Int)),(1,.d (.int .i64) (0:Int)),(1,.nils),(1,.nils),(1,.nils),(1,.nils),(1,.d (.int .u32) (0:Int)),(1,.d (.int .u32) (0:Int)),(1,.d (.int .u32) (0:Int)),(1,.d (.int .u32) (0:Int)),(1,.d (.int .u32) (0:Int)),(1,.d (.int .u32) (0:Int)),(1,.d (.int .u32) (0:Int)),(1,.d (.int .u32) (0:Int)),(1,.nils),(1,.nils)],none⟩
theorem El:bj U Tryz.prog 84 K6:=aY [.i .i64,.i .i64,.i .u32,.i .i64,.i .i64,.i .i64,.l,.l,.l,.l,.i .u32,.i .u32,.i .u32,.i .u32,.i .u32,.i .u32,.i .u32,.i .u32,.l,.l] rfl (by kernel_rfl) rfl (by kernel_rfl) (by kernel_rfl) ⟨_,rfl⟩ rfl (by kernel_rfl) (by kernel_rfl) (fun i h1 h2=>by cases h2) (fun d h=>by cases h)
def E6:TI U:=⟨1,.sl 9,24,[],some (.sl (.str)),false,[(1,.nils)],none⟩
theorem Bf:bj U Tryz.prog 137 E6:=aY [.l] rfl (by kernel_rfl) rfl (by kernel_rfl) (by kernel_rfl) (show Tryz.prog.underlying 137=some (.slice 9)by kernel_rfl) (by kernel_rfl) (by kernel_rfl) (by kernel_rfl) (fun i h1 h2=>by cases h2) (fun d h=>by cases h)
def E7:TI U:=⟨3,.st,40,[(0,3),(1,2),(2,98)],some (.st 13),false,[(1,.d (.int .i64) (0:Int)),(1,.d (.int .i64) (0:Int)),(1,.nils)],none⟩
theorem Bg:bj U Tryz.prog 100 E7:=aY [.i .i64,.i .i64,.l] rfl (by kernel_rfl) rfl (by kernel_rfl) (by kernel_rfl) ⟨_,rfl⟩ rfl (by kernel_rfl) (by kernel_rfl) (fun i h1 h2=>by cases h2) (fun d h=>by cases h)
def K7:TI U:=⟨1,.sl 134,24,[],some (.sl (.st 12)),false,[(1,.nils)],none⟩
theorem Eo:bj U Tryz.prog 98 K7:=aY [.l] rfl (by kernel_rfl) rfl (by kernel_rfl) (by kernel_rfl) (show Tryz.prog.underlying 98=some (.slice 134)by kernel_rfl) (by kernel_rfl) (by kernel_rfl) (by kernel_rfl) (fun i h1 h2=>by cases h2) (fun d h=>by cases h)
def E8:TI U:=⟨2,.st,24,[(0,9),(1,2)],some (.st 12),true,[(1,.d .str ([]:List UInt8)),(1,.d (.int .i64) (0:Int))],none⟩
theorem Bh:bj U Tryz.prog 134 E8:=aY [.s,.i .i64] rfl (by kernel_rfl) rfl (by kernel_rfl) (by kernel_rfl) ⟨_,rfl⟩ rfl (by kernel_rfl) (by kernel_rfl) (fun i h1 h2=>⟨rfl,by injection h1 with h1;subst h1;exact Kt⟩) (fun d h=>by cases h)
def K8:TI U:=⟨19,.st,160,[(0,3),(1,39),(10,41),(18,42)],some (.st 14),false,[(1,.d (.int .i64) (0:Int)),(1,.d (.int .i64) (0:Int)),(1,.d .str ([]:List UInt8)),(1,.d (.int .i64) (0:Int)),(1,.d (.int .i64) (0:Int)),(1,.d (.int .u32) (0:Int)),(1,.d (.int .i64) (0:Int)),(1,.d (.int .u32) (0:Int)),(1,.d (.int .i64) (0:Int)),(1,.nils),(1,.d (.int .u32) (0:Int)),(1,.d (.int .u32) (0:Int)),(1,.d (.int .u32) (0:Int)),(1,.d (.int .u32) (0:Int)),(1,.d (.int .u32) (0:Int)),(1,.d (.int .u32) (0:Int)),(1,.d (.int .u32) (0:Int)),(1,.d (.int .u32) (0:Int)),(1,.nils)],none⟩
theorem Ep:bj U Tryz.prog 44 K8:=aY [.i .i64,.i .i64,.s,.i .i64,.i .i64,.i .u32,.i .i64,.i .u32,.i .i64,.l,.i .u32,.i .u32,.i .u32,.i .u32,.i .u32,.i .u32,.i .u32,.i .u32,.l] rfl (by kernel_rfl) rfl (by kernel_rfl) (by kernel_rfl) ⟨_,rfl⟩ rfl (by kernel_rfl) (by kernel_rfl) (fun i h1 h2=>by cases h2) (fun d h=>by cases h)
def Pi:TI U:=⟨1,.int .u8,1,[],some (.int .u8),false,[(1,.d (.int .u8) (0:Int))],none⟩
theorem Ie:bj U Tryz.prog 5 Pi:=aY [.i .u8] rfl (by kernel_rfl) rfl (by kernel_rfl) (by kernel_rfl) (show Tryz.prog.underlying 5=some (.int .u8)by kernel_rfl) (by kernel_rfl) (by kernel_rfl) (by kernel_rfl) (fun i h1 h2=>by cases h2) (fun d h=>by cases h)
def E9:TI U:=⟨4,.st,4,[(0,4),(1,4),(2,4),(3,4)],some (.st 15),true,[(1,.d .bool false),(1,.d .bool false),(1,.d .bool false),(1,.d .bool false)],none⟩
theorem Bi:bj U Tryz.prog 149 E9:=aY [.b,.b,.b,.b] rfl (by kernel_rfl) rfl (by kernel_rfl) (by kernel_rfl) ⟨_,rfl⟩ rfl (by kernel_rfl) (by kernel_rfl) (fun i h1 h2=>⟨rfl,by injection h1 with h1;subst h1;exact Ku⟩) (fun d h=>by cases h)
def K9:TI U:=⟨3,.st,40,[(0,3),(1,2),(2,94)],some (.st 13),false,[(1,.d (.int .i64) (0:Int)),(1,.d (.int .i64) (0:Int)),(1,.nils)],none⟩
theorem Er:bj U Tryz.prog 96 K9:=aY [.i .i64,.i .i64,.l] rfl (by kernel_rfl) rfl (by kernel_rfl) (by kernel_rfl) ⟨_,rfl⟩ rfl (by kernel_rfl) (by kernel_rfl) (fun i h1 h2=>by cases h2) (fun d h=>by cases h)
def Lb:TI U:=⟨1,.sl 135,24,[],some (.sl (.st 12)),false,[(1,.nils)],none⟩
theorem Es:bj U Tryz.prog 94 Lb:=aY [.l] rfl (by kernel_rfl) rfl (by kernel_rfl) (by kernel_rfl) (show Tryz.prog.underlying 94=some (.slice 135)by kernel_rfl) (by kernel_rfl) (by kernel_rfl) (by kernel_rfl) (fun i h1 h2=>by cases h2) (fun d h=>by cases h)
def Fa:TI U:=⟨2,.st,24,[(0,9),(1,2)],some (.st 12),true,[(1,.d .str ([]:List UInt8)),(1,.d (.int .i64) (0:Int))],none⟩
theorem Bj:bj U Tryz.prog 135 Fa:=aY [.s,.i .i64] rfl (by kernel_rfl) rfl (by kernel_rfl) (by kernel_rfl) ⟨_,rfl⟩ rfl (by kernel_rfl) (by kernel_rfl) (fun i h1 h2=>⟨rfl,by injection h1 with h1;subst h1;exact Kv⟩) (fun d h=>by cases h)
def Fb:TI U:=⟨3,.st,32,[(0,3),(1,9),(2,2)],some (.st 16),true,[(1,.d (.int .i64) (0:Int)),(1,.d .str ([]:List UInt8)),(1,.d (.int .i64) (0:Int))],none⟩
theorem Bk:bj U Tryz.prog 168 Fb:=aY [.i .i64,.s,.i .i64] rfl (by kernel_rfl) rfl (by kernel_rfl) (by kernel_rfl) ⟨_,rfl⟩ rfl (by kernel_rfl) (by kernel_rfl) (fun i h1 h2=>⟨rfl,by injection h1 with h1;subst h1;exact Kw⟩) (fun d h=>by cases h)
def Fc:TI U:=⟨1,.int .u64,8,[],some (.int .u64),false,[(1,.d (.int .u64) (0:Int))],none⟩
theorem Bl:bj U Tryz.prog 253 Fc:=aY [.i .u64] rfl (by kernel_rfl) rfl (by kernel_rfl) (by kernel_rfl) (show Tryz.prog.underlying 253=some (.int .u64)by kernel_rfl) (by kernel_rfl) (by kernel_rfl) (by kernel_rfl) (fun i h1 h2=>by cases h2) (fun d h=>by cases h)
def Fd:TI U:=⟨3,.st,32,[(0,3),(1,9),(2,2)],some (.st 16),true,[(1,.d (.int .i64) (0:Int)),(1,.d .str ([]:List UInt8)),(1,.d (.int .i64) (0:Int))],none⟩
theorem Bm:bj U Tryz.prog 146 Fd:=aY [.i .i64,.s,.i .i64] rfl (by kernel_rfl) rfl (by kernel_rfl) (by kernel_rfl) ⟨_,rfl⟩ rfl (by kernel_rfl) (by kernel_rfl) (fun i h1 h2=>⟨rfl,by injection h1 with h1;subst h1;exact Kx⟩) (fun d h=>by cases h)
def Ld:TI U:=⟨1,.fn,8,[],none,false,[(1,.nilf)],none⟩
theorem Et:bj U Tryz.prog 86 Ld:=aY [.f] rfl (by kernel_rfl) rfl (by kernel_rfl) (by kernel_rfl) ⟨_,rfl⟩ (by kernel_rfl) (by kernel_rfl) (by kernel_rfl) (fun i h1 h2=>by cases h2) (fun d h=>by cases h)
def Fe:TI U:=⟨1,.sl 3,24,[],some (.sl (.int .i64)),false,[(1,.nils)],none⟩
theorem Bn:bj U Tryz.prog 257 Fe:=aY [.l] rfl (by kernel_rfl) rfl (by kernel_rfl) (by kernel_rfl) (show Tryz.prog.underlying 257=some (.slice 3)by kernel_rfl) (by kernel_rfl) (by kernel_rfl) (by kernel_rfl) (fun i h1 h2=>by cases h2) (fun d h=>by cases h)
def Ff:TI U:=⟨1,.fn,8,[],none,false,[(1,.nilf)],none⟩
theorem Bo:bj U Tryz.prog 114 Ff:=aY [.f] rfl (by kernel_rfl) rfl (by kernel_rfl) (by kernel_rfl) ⟨_,rfl⟩ (by kernel_rfl) (by kernel_rfl) (by kernel_rfl) (fun i h1 h2=>by cases h2) (fun d h=>by cases h)
def Fg:TI U:=⟨1,.sl 37,24,[],some (.sl (.sl (.st 1))),false,[(1,.nils)],none⟩
theorem Bp:bj U Tryz.prog 264 Fg:=aY [.l] rfl (by kernel_rfl) rfl (by kernel_rfl) (by kernel_rfl) (show Tryz.prog.underlying 264=some (.slice 37)by kernel_rfl) (by kernel_rfl) (by kernel_rfl) (by kernel_rfl) (fun i h1 h2=>by cases h2) (fun d h=>by cases h)
def Lg:TI U:=⟨1,.ptr 84,8,[],none,false,[(1,.nilp)],none⟩
theorem Eu:bj U Tryz.prog 27 Lg:=aY [.p] rfl (by kernel_rfl) rfl (by kernel_rfl) (by kernel_rfl) (show Tryz.prog.underlying 27=some (.pointer 84)by kernel_rfl) (by kernel_rfl) (by kernel_rfl) (by kernel_rfl) (fun i h1 h2=>by cases h2) (fun d h=>by cases h)
def Fh:TI U:=⟨1,.sl 64,24,[],some (.sl (.sl (.st 3))),false,[(1,.nils)],none⟩
theorem Bq:bj U Tryz.prog 186 Fh:=aY [.l] rfl (by kernel_rfl) rfl (by kernel_rfl) (by kernel_rfl) (show Tryz.prog.underlying 186=some (.slice 64)by kernel_rfl) (by kernel_rfl) (by kernel_rfl) (by kernel_rfl) (fun i h1 h2=>by cases h2) (fun d h=>by cases h)
def Fi:TI U:=⟨1,.fn,8,[],none,false,[(1,.nilf)],none⟩
theorem Br:bj U Tryz.prog 228 Fi:=aY [.f] rfl (by kernel_rfl) rfl (by kernel_rfl) (by kernel_rfl) ⟨_,rfl⟩ (by kernel_rfl) (by kernel_rfl) (by kernel_rfl) (fun i h1 h2=>by cases h2) (fun d h=>by cases h)
def Fj:TI U:=⟨1,.sl 24,24,[],some (.sl (.int .i64)),false,[(1,.nils)],none⟩
theorem Bt:bj U Tryz.prog 259 Fj:=aY [.l] rfl (by kernel_rfl) rfl (by kernel_rfl) (by kernel_rfl) (show Tryz.prog.underlying 259=some (.slice 24)by kernel_rfl) (by kernel_rfl) (by kernel_rfl) (by kernel_rfl) (fun i h1 h2=>by cases h2) (fun d h=>by cases h)
def Fl:TI U:=⟨1,.sl 2,24,[],some (.sl (.int .i64)),false,[(1,.nils)],none⟩
theorem Bu:bj U Tryz.prog 294 Fl:=aY [.l] rfl (by kernel_rfl) rfl (by kernel_rfl) (by kernel_rfl) (show Tryz.prog.underlying 294=some (.slice 2)by kernel_rfl) (by kernel_rfl) (by kernel_rfl) (by kernel_rfl) (fun i h1 h2=>by cases h2) (fun d h=>by cases h)
def Fm:TI U:=⟨1,.fn,8,[],none,false,[(1,.nilf)],none⟩
theorem Bv:bj U Tryz.prog 190 Fm:=aY [.f] rfl (by kernel_rfl) rfl (by kernel_rfl) (by kernel_rfl) ⟨_,rfl⟩ (by kernel_rfl) (by kernel_rfl) (by kernel_rfl) (fun i h1 h2=>by cases h2) (fun d h=>by cases h)
def Lh:TI U:=⟨1,.int .i32,4,[],some (.int .i32),false,[(1,.d (.int .i32) (0:Int))],none⟩
theorem Ev:bj U Tryz.prog 21 Lh:=aY [.i .i32] rfl (by kernel_rfl) rfl (by kernel_rfl) (by kernel_rfl) (show Tryz.prog.underlying 21=some (.int .i32)by kernel_rfl) (by kernel_rfl) (by kernel_rfl) (by kernel_rfl) (fun i h1 h2=>by cases h2) (fun d h=>by cases h)
def Li:TI U:=⟨1,.sl 44,24,[],some (.sl (.st 14)),false,[(1,.nils)],none⟩
theorem Ew:bj U Tryz.prog 22 Li:=aY [.l] rfl (by kernel_rfl) rfl (by kernel_rfl) (by kernel_rfl) (show Tryz.prog.underlying 22=some (.slice 44)by kernel_rfl) (by kernel_rfl) (by kernel_rfl) (by kernel_rfl) (fun i h1 h2=>by cases h2) (fun d h=>by cases h)
def Fo:TI U:=⟨1,.fn,8,[],none,false,[(1,.nilf)],none⟩
theorem Bw:bj U Tryz.prog 143 Fo:=aY [.f] rfl (by kernel_rfl) rfl (by kernel_rfl) (by kernel_rfl) ⟨_,rfl⟩ (by kernel_rfl) (by kernel_rfl) (by kernel_rfl) (fun i h1 h2=>by cases h2) (fun d h=>by cases h)
def Fp:TI U:=⟨1,.fn,8,[],none,false,[(1,.nilf)],none⟩
theorem By:bj U Tryz.prog 210 Fp:=aY [.f] rfl (by kernel_rfl) rfl (by kernel_rfl) (by kernel_rfl) ⟨_,rfl⟩ (by kernel_rfl) (by kernel_rfl) (by kernel_rfl) (fun i h1 h2=>by cases h2) (fun d h=>by cases h)
def Fs:TI U:=⟨1,.fn,8,[],none,false,[(1,.nilf)],none⟩
theorem Bz:bj U Tryz.prog 235 Fs:=aY [.f] rfl (by kernel_rfl) rfl (by kernel_rfl) (by kernel_rfl) ⟨_,rfl⟩ (by kernel_rfl) (by kernel_rfl) (by kernel_rfl) (fun i h1 h2=>by cases h2) (fun d h=>by cases h)
def Ft:TI U:=⟨2,.arr 2 2,16,[],some (.arr 2 (.int .i64)),true,[(1,.d (.int .i64) (0:Int)),(1,.d (.int .i64) (0:Int))],none⟩
theorem BA:bj U Tryz.prog 246 Ft:=aY [.i .i64,.i .i64] rfl (by kernel_rfl) rfl (by kernel_rfl) (by kernel_rfl) (show Tryz.prog.underlying 246=some (.array 2 2)by kernel_rfl) (by kernel_rfl) (by kernel_rfl) (by kernel_rfl) (fun i h1 h2=>⟨rfl,by injection h1 with h1;subst h1;exact Ky⟩) (fun d h=>by cases h)
def Fu:TI U:=⟨1,.fn,8,[],none,false,[(1,.nilf)],none⟩
theorem BB:bj U Tryz.prog 223 Fu:=aY [.f] rfl (by kernel_rfl) rfl (by kernel_rfl) (by kernel_rfl) ⟨_,rfl⟩ (by kernel_rfl) (by kernel_rfl) (by kernel_rfl) (fun i h1 h2=>by cases h2) (fun d h=>by cases h)
def Fv:TI U:=⟨1,.fn,8,[],none,false,[(1,.nilf)],none⟩
theorem BC:bj U Tryz.prog 249 Fv:=aY [.f] rfl (by kernel_rfl) rfl (by kernel_rfl) (by kernel_rfl) ⟨_,rfl⟩ (by kernel_rfl) (by kernel_rfl) (by kernel_rfl) (fun i h1 h2=>by cases h2) (fun d h=>by cases h)
def bT:KD U:=⟨34,47,.st 1,.st 3,(inferInstance:DecidableEq ae),(fun x:ae=>Value.agg (A4 x).toArray),(⟨0,[],0,⟨⟨0,0⟩,0⟩,⟨0,0⟩,[]⟩:af)⟩
theorem If:EJ Tryz.prog U bT:=⟨yU (α:=ae) ⟨_,rfl⟩ (by kernel_rfl) (Ba) (fun em x w=>by kernel_rfl) (fun x=>rfl),fun Y S x vs v hd ha=>by rw[uZ hd]at ha;exact ha,rB ta (Eq.refl _) (by kernel_rfl)⟩
def Fx:TI U:=⟨1,.mp 34 47,8,[],none,false,[(1,.nilm)],some bT⟩
theorem BD:bj U Tryz.prog 106 Fx:=aY [.m] rfl (by kernel_rfl) rfl (by kernel_rfl) (by kernel_rfl) (show Tryz.prog.underlying 106=some (.map 34 47)by kernel_rfl) (by kernel_rfl) (by kernel_rfl) (by kernel_rfl) (fun i h1 h2=>by cases h2) (fun d h=>by injection h with h;subst h;exact⟨If,by kernel_rfl⟩)
def cZ:KD U:=⟨34,4,.st 1,.bool,(inferInstance:DecidableEq ae),(fun x:ae=>Value.agg (A4 x).toArray),(false:Bool)⟩
theorem Ig:EJ Tryz.prog U cZ:=⟨yU (α:=ae) ⟨_,rfl⟩ (by kernel_rfl) (Ba) (fun em x w=>by kernel_rfl) (fun x=>rfl),fun Y S x vs v hd ha=>by rw[uZ hd]at ha;exact ha,rB Bd (Eq.refl _) (by kernel_rfl)⟩
def Fy:TI U:=⟨1,.mp 34 4,8,[],none,false,[(1,.nilm)],some cZ⟩
theorem BE:bj U Tryz.prog 107 Fy:=aY [.m] rfl (by kernel_rfl) rfl (by kernel_rfl) (by kernel_rfl) (show Tryz.prog.underlying 107=some (.map 34 4)by kernel_rfl) (by kernel_rfl) (by kernel_rfl) (by kernel_rfl) (fun i h1 h2=>by cases h2) (fun d h=>by injection h with h;subst h;exact⟨Ig,by kernel_rfl⟩)
def Fz:KD U:=⟨9,164,.str,.st 4,(inferInstance:DecidableEq (List UInt8)),(fun x:List UInt8=>sv x),(⟨⟨⟨0,0⟩,0⟩,[],0,⟨0,0⟩⟩:bI)⟩
theorem Ih:EJ Tryz.prog U Fz:=⟨ia.str (by kernel_rfl),fun Y S x vs v hd ha=>by have e:=(aK.inv hd).1;rw[e]at ha;exact(List.cons.inj ha).1.symm,rB lP (Eq.refl _) (by kernel_rfl)⟩
def FA:TI U:=⟨1,.mp 9 164,8,[],none,false,[(1,.nilm)],some Fz⟩
theorem BF:bj U Tryz.prog 205 FA:=aY [.m] rfl (by kernel_rfl) rfl (by kernel_rfl) (by kernel_rfl) (show Tryz.prog.underlying 205=some (.map 9 164)by kernel_rfl) (by kernel_rfl) (by kernel_rfl) (by kernel_rfl) (fun i h1 h2=>by cases h2) (fun d h=>by injection h with h;subst h;exact⟨Ih,by kernel_rfl⟩)
def Pj:eF U:= [(3,Pd),(37,Kz),(34,KA),(32,KB),(30,KC),(41,KE),(61,KF),(51,KG),(2,Pe),(36,KH),(53,KI),(56,KJ),(54,KK),(159,E1),(9,Pf),(59,KL),(57,KM),(164,E2),(70,KN),(68,KP),(178,E3),(73,KQ),(71,KT),(182,E4),(75,KU),(66,KV),(67,KW),(24,KX),(39,KY),(47,KZ),(4,Ph),(42,K0),(64,K4),(23,K5),(109,E5),(106,Fx),(107,Fy),(84,K6),(137,E6),(100,E7),(98,K7),(134,E8),(44,K8),(5,Pi),(149,E9),(96,K9),(94,Lb),(135,Fa),(168,Fb),(253,Fc),(146,Fd),(86,Ld),(257,Fe),(114,Ff),(264,Fg),(27,Lg),(186,Fh),(228,Fi),(205,FA),(259,Fj),(294,Fl),(190,Fm),(21,Lh),(22,Li),(143,Fo),(210,Fp),(235,Fs),(246,Ft),(223,Fu),(249,Fv)]
theorem wr:bO U Tryz.prog Pj:=aq H9 (aq DV (aq jV (aq DW (aq DX (aq DY (aq DZ (aq D2 (aq Ia (aq D3 (aq D4 (aq D5 (aq D6 (aq lO (aq Ic (aq D7 (aq D8 (aq lP (aq D9 (aq Ea (aq Bb (aq Eb (aq Ec (aq Bc (aq Ed (aq Ee (aq Ef (aq Eg (aq Eh (aq ta (aq Bd (aq Ei (aq Ej (aq Ek (aq Be (aq BD (aq BE (aq El (aq Bf (aq Bg (aq Eo (aq Bh (aq Ep (aq Ie (aq Bi (aq Er (aq Es (aq Bj (aq Bk (aq Bl (aq Bm (aq Et (aq Bn (aq Bo (aq Bp (aq Eu (aq Bq (aq Br (aq BF (aq Bt (aq Bu (aq Bv (aq Ev (aq Ew (aq Bw (aq By (aq Bz (aq BA (aq BB (aq BC (BO))))))))))))))))))))))))))))))))))))))))))))))))))))))))))))))))))))))
end Go.Proofs.YtiliglahlfkikaaGreatDoor.V
end

section
set_option linter.unusedVariables false
namespace Go.Proofs.YtiliglahlfkikaaGreatDoor.V
open Go.RowKit
section
variable {U:cn}
theorem wI{α:Type}{f x y:α}{b:Bool}{P:Prop} [Decidable P]{A B:Prop}(hf:f=if P then x else y)(h1:P→f=x→A)(h2: ¬P→f=y→B)(hb:b=true↔P:=by repeat (first|exact iD|exact iB|apply iA|apply iO|apply iN|apply iP)):EB b A B:=vI hf hb h1 h2
theorem wN{α:Type}{f x y:α}{b:Bool}{P:Prop} [Decidable P]{A B:Prop}(hf:f=if P then x else y)(h1: ¬P→f=y→A)(h2:P→f=x→B)(hb:b=true↔ ¬P:=by repeat (first|exact iD|exact iB|apply iN|apply iA|apply iO|apply iP)):EB b A B:=vN hf hb h1 h2
theorem vs{P A:Prop}(a:A)(p:P:=by first|omega|(simp only[List.length_append,List.length_cons,List.length_nil];omega)):VS P A:=⟨p,a⟩
theorem vx{α:Type}(i:Int)(l:List α){A:Prop}(a:A)(p:0≤i∧i<(l.length:Int):=by omega):VS (0≤i∧i<(l.length:Int)) A:=⟨p,a⟩
theorem bY{p q r:Int}{A B:Prop}(a:A)(h: -9223372036854775808≤p→p≤9223372036854775807→ -9223372036854775808≤q→q≤9223372036854775807→ -9223372036854775808≤r∧r≤9223372036854775807:=by first|omega|(simp only[List.length_append,List.length_cons,List.length_nil];omega)):IF (fu .i64 p→fu .i64 q→fu .i64 r) A B:= .inl ⟨rD h,a⟩
theorem ID{k:IntKind}{p:Int}{A B:Prop}(a:A)(hk:(match k with| .u64=>false|_=>true)=true:=by rfl):IF (fu k p→fu .i64 p) A B:= .inl ⟨fun h=>(by cases k<;>simp only[fu]at* <;>first|omega|cases hk),a⟩
theorem fl{k:IntKind}{x:Int}{A:Prop}(h:x≤9223372036854775807→A)(hk:k= .i64:=by rfl):fu k x→A:=fun q=>h (by subst hk;exact q.2)
theorem lI{σ β:Type}{b n:Nat}{a:En U→Nat→Hs U→KO U→Prop}{e:En U}{H:Hs U}{K:KO U}(N:Nat)(E:σ→En U)(M:σ→Hs U)(μ:σ→Nat)(inv:σ→Prop)(L:Nat→σ→β)(X:β)(φ:List (Nat×Nat))(s0:σ)
  (k: ∀s,d5 μ inv L X s→a (E s) N (M s) fun o e' n' H'=>match o with
   | .n=> ∃φ s',μ s'<μ s∧d5 μ inv L X s'∧EI b N φ n' e' H' (E s') (M s')
   |o=>K o e' n' H')
  (hi:inv s0:=by((try dsimp only);repeat' apply And.intro)<;>first|trivial|omega|assumption|(simp only[List.length_append,List.length_cons,List.length_nil];omega)|(simp;omega)|(intro h;simp at h;omega)|simp)
  (hX:X=L (μ s0+1) s0:=by rfl) (hle:EI b N φ n e H (E s0) (M s0):=by repeat (first|exact trivial|refine And.intro rfl ?_)):zb b a e n H K:=
 ⟨σ,N,E,M,d5 μ inv L X,μ,⟨φ,s0,d5.mk0 _ (Nat.lt_succ_self _) hi hX,hle⟩,k⟩
theorem nx{σ β:Type}{μ:σ→Nat}{inv:σ→Prop}{L:Nat→σ→β}{X:β}{s:σ}{c:Nat}{LE:List (Nat×Nat)→σ→Prop}(φ:List (Nat×Nat))(s':σ)(hc:μ s<c+1)(hX:X=L c s')
  (hm:μ s'<μ s:=by(try dsimp only);omega)
  (hi:inv s':=by((try dsimp only);repeat' apply And.intro)<;>first|trivial|omega|assumption|(simp only[List.length_append,List.length_cons,List.length_nil];omega)|(simp;omega)|(intro h;simp at h;omega)|simp)
  (hle:LE φ s':=by repeat (first|exact trivial|refine And.intro rfl ?_)): ∃φ s',μ s'<μ s∧d5 μ inv L X s'∧LE φ s':=⟨φ,s',hm,d5.next hc hm hi hX,hle⟩
theorem dp{T:eF U}{G:jZ U}{b n:Nat}{ops:Array Oper}{e:En U}{H:Hs U}{K:KS U}(pl:List (Bool×Nat))(f:Option Nat)(mk:List Nat)(k:wD T G ops.toList mk (l7 T G ops.toList f) pl e n H [] [] K)(h:vq ops f pl=true:=by kernel_rfl):wE T G b ops e n H K:= .inl ⟨pl,f,mk,h,k⟩
def up(n:Nat):List (Bool×Nat):=Nat.rec (motive:=fun _=>Nat→List (Bool×Nat)) (fun _=> []) (fun _ ih i=>(true,i)::ih (i+1)) n 0
def nw(i:Nat):List Nat:= [i,i+1,i+2,i+3,i+4,i+5,i+6,i+7,i+8,i+9,i+10,i+11]
theorem e0{A:Prop}(a:A:=by rw[hf0]at h;exact h):A:=a
theorem e1{A:Prop}(a:A:=by rw[hf1]at hf0;rw[hf0]at h;exact h):A:=a
theorem e2{A:Prop}(a:A:=by rw[hf2]at hf1;rw[hf1]at hf0;rw[hf0]at h;exact h):A:=a
abbrev vi(x:Int):Va U:=⟨false,[(1,.d (.int .i64) x)]⟩
abbrev vb(x:Bool):Va U:=⟨false,[(1,.d .bool x)]⟩
abbrev vt(x:List UInt8):Va U:=⟨false,[(1,.d .str x)]⟩
abbrev vp(i:Nat):Va U:=⟨false,[(1,.ptr i 0)]⟩
abbrev vo(i:Nat):Va U:=⟨false,[(1,.own i 0)]⟩
end
end Go.Proofs.YtiliglahlfkikaaGreatDoor.V
end

/- Types of this seat as data: printed by ai.py. -/
import Derived.Test.YtmpeiadlohbikaaGreatDoorAt12
import Derived.Test.YtmpeiadlohbikaaGreatDoorProg
set_option linter.unusedVariables false
set_option linter.unusedSimpArgs false
set_option maxRecDepth 20000
namespace Go.Proofs.YtmpeiadlohbikaaGreatDoor.V
open Go.RowKit
structure bC where
 origin:Int
 seq:Int
deriving DecidableEq,Inhabited
structure lM where
 act:Int
 name:List UInt8
 val:Int
deriving DecidableEq,Inhabited
structure aV where
 time:Int
 origin:Int
deriving DecidableEq,Inhabited
structure ak where
 id:bC
 deps:List (Int)
 n:Int
 key:List UInt8
 op:lM
 at_:aV
deriving DecidableEq,Inhabited
structure az where
 id:bC
 n:Int
deriving DecidableEq,Inhabited
structure bK where
 tag:az
 field:List UInt8
 val:Int
 at_:aV
deriving DecidableEq,Inhabited
structure ar where
 field:List UInt8
 val:Int
deriving DecidableEq,Inhabited
structure aB where
 kind:Int
 val:Int
 items:List (ar)
deriving DecidableEq,Inhabited
structure bI where
 key:List UInt8
 n:Int
 v:aB
deriving DecidableEq,Inhabited
structure al where
 id:bC
 deps:List (Int)
 group:Int
 ops:List (ak)
 looks:List (bI)
deriving DecidableEq,Inhabited
structure b9 where
 tag:az
 elem:List UInt8
deriving DecidableEq,Inhabited
structure cR where
 adds:List (b9)
 gone:List (az)
deriving DecidableEq,Inhabited
structure dm where
 puts:List (bK)
 gone:List (az)
deriving DecidableEq,Inhabited
structure fK where
 val:Int
 at_:aV
deriving DecidableEq,Inhabited
structure eT where
 plus:Int
 minus:Int
deriving DecidableEq,Inhabited
structure eb where
 kind:Int
 reg:fK
 num:eT
 set:cR
 map:dm
deriving DecidableEq,Inhabited
structure dA where
 act:Int
 name:List UInt8
 val:Int
 tag:az
 at_:aV
 tags:List (az)
deriving DecidableEq,Inhabited
structure uY where
 s:eb
 v:List (Int)
 n:Int
 has:List (Int)
 time:Int
deriving DecidableEq,Inhabited
structure iI where
 name:Bool
 val:Bool
 at_:Bool
 tags:Bool
deriving DecidableEq,Inhabited
structure qs where
 kind:Int
 who:Int
 from_:Int
 op:lM
deriving DecidableEq,Inhabited
def ty:Nat→Type|0=>bC|1=>lM|2=>aV|3=>ak|4=>az|5=>bK|6=>ar|7=>aB|8=>bI|9=>al|10=>b9|11=>cR|12=>dm|13=>fK|14=>eT|15=>eb|16=>dA|17=>uY|18=>iI|19=>qs|_=>Unit
def U8:RD ty bC where
 sz:=2
 fs:= [(1,.int .i64),(1,.int .u32)]
 to x:=(x.origin,x.seq,())
 toK x K:=K (x.origin,x.seq,())
 ofK:=fun(a0,a1,_) K=>K ⟨a0,a1⟩
 ixK l q K:=K (ix l q)
 eqK a b K:=K (decide (a=b))
 sz_ok:=rfl
 toK_ok _ _ h:=h
 ofK_ok:=fun(a0,a1,_) K h=>⟨_,h,rfl⟩
 ixK_ok l q K h:=⟨_,h,fun y hy=>by unfold ix;rw[hy];rfl⟩
 eqK_ok a b K h:=⟨_,h,by simp⟩
def U9:RD ty lM where
 sz:=3
 fs:= [(1,.int .i64),(1,.str),(1,.int .i64)]
 to x:=(x.act,x.name,x.val,())
 toK x K:=K (x.act,x.name,x.val,())
 ofK:=fun(a0,a1,a2,_) K=>K ⟨a0,a1,a2⟩
 ixK l q K:=K (ix l q)
 eqK a b K:=K (decide (a=b))
 sz_ok:=rfl
 toK_ok _ _ h:=h
 ofK_ok:=fun(a0,a1,a2,_) K h=>⟨_,h,rfl⟩
 ixK_ok l q K h:=⟨_,h,fun y hy=>by unfold ix;rw[hy];rfl⟩
 eqK_ok a b K h:=⟨_,h,by simp⟩
def Vb:RD ty aV where
 sz:=2
 fs:= [(1,.int .u32),(1,.int .i64)]
 to x:=(x.time,x.origin,())
 toK x K:=K (x.time,x.origin,())
 ofK:=fun(a0,a1,_) K=>K ⟨a0,a1⟩
 ixK l q K:=K (ix l q)
 eqK a b K:=K (decide (a=b))
 sz_ok:=rfl
 toK_ok _ _ h:=h
 ofK_ok:=fun(a0,a1,_) K h=>⟨_,h,rfl⟩
 ixK_ok l q K h:=⟨_,h,fun y hy=>by unfold ix;rw[hy];rfl⟩
 eqK_ok a b K h:=⟨_,h,by simp⟩
def Vd:RD ty ak where
 sz:=17
 fs:= [(2,.st 0),(8,.arr 8 (.int .u32)),(1,.int .i64),(1,.str),(3,.st 1),(2,.st 2)]
 to x:=(x.id,x.deps,x.n,x.key,x.op,x.at_,())
 toK x K:=K (x.id,x.deps,x.n,x.key,x.op,x.at_,())
 ofK:=fun(a0,a1,a2,a3,a4,a5,_) K=>K ⟨a0,a1,a2,a3,a4,a5⟩
 ixK l q K:=K (ix l q)
 eqK a b K:=K (decide (a=b))
 sz_ok:=rfl
 toK_ok _ _ h:=h
 ofK_ok:=fun(a0,a1,a2,a3,a4,a5,_) K h=>⟨_,h,rfl⟩
 ixK_ok l q K h:=⟨_,h,fun y hy=>by unfold ix;rw[hy];rfl⟩
 eqK_ok a b K h:=⟨_,h,by simp⟩
def Ve:RD ty az where
 sz:=3
 fs:= [(2,.st 0),(1,.int .i64)]
 to x:=(x.id,x.n,())
 toK x K:=K (x.id,x.n,())
 ofK:=fun(a0,a1,_) K=>K ⟨a0,a1⟩
 ixK l q K:=K (ix l q)
 eqK a b K:=K (decide (a=b))
 sz_ok:=rfl
 toK_ok _ _ h:=h
 ofK_ok:=fun(a0,a1,_) K h=>⟨_,h,rfl⟩
 ixK_ok l q K h:=⟨_,h,fun y hy=>by unfold ix;rw[hy];rfl⟩
 eqK_ok a b K h:=⟨_,h,by simp⟩
def Vf:RD ty bK where
 sz:=7
 fs:= [(3,.st 4),(1,.str),(1,.int .i64),(2,.st 2)]
 to x:=(x.tag,x.field,x.val,x.at_,())
 toK x K:=K (x.tag,x.field,x.val,x.at_,())
 ofK:=fun(a0,a1,a2,a3,_) K=>K ⟨a0,a1,a2,a3⟩
 ixK l q K:=K (ix l q)
 eqK a b K:=K (decide (a=b))
 sz_ok:=rfl
 toK_ok _ _ h:=h
 ofK_ok:=fun(a0,a1,a2,a3,_) K h=>⟨_,h,rfl⟩
 ixK_ok l q K h:=⟨_,h,fun y hy=>by unfold ix;rw[hy];rfl⟩
 eqK_ok a b K h:=⟨_,h,by simp⟩
def Vg:RD ty ar where
 sz:=2
 fs:= [(1,.str),(1,.int .i64)]
 to x:=(x.field,x.val,())
 toK x K:=K (x.field,x.val,())
 ofK:=fun(a0,a1,_) K=>K ⟨a0,a1⟩
 ixK l q K:=K (ix l q)
 eqK a b K:=K (decide (a=b))
 sz_ok:=rfl
 toK_ok _ _ h:=h
 ofK_ok:=fun(a0,a1,_) K h=>⟨_,h,rfl⟩
 ixK_ok l q K h:=⟨_,h,fun y hy=>by unfold ix;rw[hy];rfl⟩
 eqK_ok a b K h:=⟨_,h,by simp⟩
def Vh:RD ty aB where
 sz:=3
 fs:= [(1,.int .i64),(1,.int .i64),(1,.sl (.st 6))]
 to x:=(x.kind,x.val,x.items,())
 toK x K:=K (x.kind,x.val,x.items,())
 ofK:=fun(a0,a1,a2,_) K=>K ⟨a0,a1,a2⟩
 ixK l q K:=K (ix l q)
 eqK a b K:=K (decide (a=b))
 sz_ok:=rfl
 toK_ok _ _ h:=h
 ofK_ok:=fun(a0,a1,a2,_) K h=>⟨_,h,rfl⟩
 ixK_ok l q K h:=⟨_,h,fun y hy=>by unfold ix;rw[hy];rfl⟩
 eqK_ok a b K h:=⟨_,h,by simp⟩
def Vi:RD ty bI where
 sz:=5
 fs:= [(1,.str),(1,.int .i64),(3,.st 7)]
 to x:=(x.key,x.n,x.v,())
 toK x K:=K (x.key,x.n,x.v,())
 ofK:=fun(a0,a1,a2,_) K=>K ⟨a0,a1,a2⟩
 ixK l q K:=K (ix l q)
 eqK a b K:=K (decide (a=b))
 sz_ok:=rfl
 toK_ok _ _ h:=h
 ofK_ok:=fun(a0,a1,a2,_) K h=>⟨_,h,rfl⟩
 ixK_ok l q K h:=⟨_,h,fun y hy=>by unfold ix;rw[hy];rfl⟩
 eqK_ok a b K h:=⟨_,h,by simp⟩
def Vj:RD ty al where
 sz:=13
 fs:= [(2,.st 0),(8,.arr 8 (.int .u32)),(1,.int .i64),(1,.sl (.st 3)),(1,.sl (.st 8))]
 to x:=(x.id,x.deps,x.group,x.ops,x.looks,())
 toK x K:=K (x.id,x.deps,x.group,x.ops,x.looks,())
 ofK:=fun(a0,a1,a2,a3,a4,_) K=>K ⟨a0,a1,a2,a3,a4⟩
 ixK l q K:=K (ix l q)
 eqK a b K:=K (decide (a=b))
 sz_ok:=rfl
 toK_ok _ _ h:=h
 ofK_ok:=fun(a0,a1,a2,a3,a4,_) K h=>⟨_,h,rfl⟩
 ixK_ok l q K h:=⟨_,h,fun y hy=>by unfold ix;rw[hy];rfl⟩
 eqK_ok a b K h:=⟨_,h,by simp⟩
def RA:RD ty b9 where
 sz:=4
 fs:= [(3,.st 4),(1,.str)]
 to x:=(x.tag,x.elem,())
 toK x K:=K (x.tag,x.elem,())
 ofK:=fun(a0,a1,_) K=>K ⟨a0,a1⟩
 ixK l q K:=K (ix l q)
 eqK a b K:=K (decide (a=b))
 sz_ok:=rfl
 toK_ok _ _ h:=h
 ofK_ok:=fun(a0,a1,_) K h=>⟨_,h,rfl⟩
 ixK_ok l q K h:=⟨_,h,fun y hy=>by unfold ix;rw[hy];rfl⟩
 eqK_ok a b K h:=⟨_,h,by simp⟩
def RB:RD ty cR where
 sz:=2
 fs:= [(1,.sl (.st 10)),(1,.sl (.st 4))]
 to x:=(x.adds,x.gone,())
 toK x K:=K (x.adds,x.gone,())
 ofK:=fun(a0,a1,_) K=>K ⟨a0,a1⟩
 ixK l q K:=K (ix l q)
 eqK a b K:=K (decide (a=b))
 sz_ok:=rfl
 toK_ok _ _ h:=h
 ofK_ok:=fun(a0,a1,_) K h=>⟨_,h,rfl⟩
 ixK_ok l q K h:=⟨_,h,fun y hy=>by unfold ix;rw[hy];rfl⟩
 eqK_ok a b K h:=⟨_,h,by simp⟩
def RC:RD ty dm where
 sz:=2
 fs:= [(1,.sl (.st 5)),(1,.sl (.st 4))]
 to x:=(x.puts,x.gone,())
 toK x K:=K (x.puts,x.gone,())
 ofK:=fun(a0,a1,_) K=>K ⟨a0,a1⟩
 ixK l q K:=K (ix l q)
 eqK a b K:=K (decide (a=b))
 sz_ok:=rfl
 toK_ok _ _ h:=h
 ofK_ok:=fun(a0,a1,_) K h=>⟨_,h,rfl⟩
 ixK_ok l q K h:=⟨_,h,fun y hy=>by unfold ix;rw[hy];rfl⟩
 eqK_ok a b K h:=⟨_,h,by simp⟩
def RE:RD ty fK where
 sz:=3
 fs:= [(1,.int .i64),(2,.st 2)]
 to x:=(x.val,x.at_,())
 toK x K:=K (x.val,x.at_,())
 ofK:=fun(a0,a1,_) K=>K ⟨a0,a1⟩
 ixK l q K:=K (ix l q)
 eqK a b K:=K (decide (a=b))
 sz_ok:=rfl
 toK_ok _ _ h:=h
 ofK_ok:=fun(a0,a1,_) K h=>⟨_,h,rfl⟩
 ixK_ok l q K h:=⟨_,h,fun y hy=>by unfold ix;rw[hy];rfl⟩
 eqK_ok a b K h:=⟨_,h,by simp⟩
def RF:RD ty eT where
 sz:=2
 fs:= [(1,.int .i64),(1,.int .i64)]
 to x:=(x.plus,x.minus,())
 toK x K:=K (x.plus,x.minus,())
 ofK:=fun(a0,a1,_) K=>K ⟨a0,a1⟩
 ixK l q K:=K (ix l q)
 eqK a b K:=K (decide (a=b))
 sz_ok:=rfl
 toK_ok _ _ h:=h
 ofK_ok:=fun(a0,a1,_) K h=>⟨_,h,rfl⟩
 ixK_ok l q K h:=⟨_,h,fun y hy=>by unfold ix;rw[hy];rfl⟩
 eqK_ok a b K h:=⟨_,h,by simp⟩
def RG:RD ty eb where
 sz:=10
 fs:= [(1,.int .i64),(3,.st 13),(2,.st 14),(2,.st 11),(2,.st 12)]
 to x:=(x.kind,x.reg,x.num,x.set,x.map,())
 toK x K:=K (x.kind,x.reg,x.num,x.set,x.map,())
 ofK:=fun(a0,a1,a2,a3,a4,_) K=>K ⟨a0,a1,a2,a3,a4⟩
 ixK l q K:=K (ix l q)
 eqK a b K:=K (decide (a=b))
 sz_ok:=rfl
 toK_ok _ _ h:=h
 ofK_ok:=fun(a0,a1,a2,a3,a4,_) K h=>⟨_,h,rfl⟩
 ixK_ok l q K h:=⟨_,h,fun y hy=>by unfold ix;rw[hy];rfl⟩
 eqK_ok a b K h:=⟨_,h,by simp⟩
def RH:RD ty dA where
 sz:=9
 fs:= [(1,.int .i64),(1,.str),(1,.int .i64),(3,.st 4),(2,.st 2),(1,.sl (.st 4))]
 to x:=(x.act,x.name,x.val,x.tag,x.at_,x.tags,())
 toK x K:=K (x.act,x.name,x.val,x.tag,x.at_,x.tags,())
 ofK:=fun(a0,a1,a2,a3,a4,a5,_) K=>K ⟨a0,a1,a2,a3,a4,a5⟩
 ixK l q K:=K (ix l q)
 eqK a b K:=K (decide (a=b))
 sz_ok:=rfl
 toK_ok _ _ h:=h
 ofK_ok:=fun(a0,a1,a2,a3,a4,a5,_) K h=>⟨_,h,rfl⟩
 ixK_ok l q K h:=⟨_,h,fun y hy=>by unfold ix;rw[hy];rfl⟩
 eqK_ok a b K h:=⟨_,h,by simp⟩
def RI:RD ty uY where
 sz:=21
 fs:= [(10,.st 15),(8,.arr 8 (.int .u32)),(1,.int .i64),(1,.sl (.int .i64)),(1,.int .u32)]
 to x:=(x.s,x.v,x.n,x.has,x.time,())
 toK x K:=K (x.s,x.v,x.n,x.has,x.time,())
 ofK:=fun(a0,a1,a2,a3,a4,_) K=>K ⟨a0,a1,a2,a3,a4⟩
 ixK l q K:=K (ix l q)
 eqK a b K:=K (decide (a=b))
 sz_ok:=rfl
 toK_ok _ _ h:=h
 ofK_ok:=fun(a0,a1,a2,a3,a4,_) K h=>⟨_,h,rfl⟩
 ixK_ok l q K h:=⟨_,h,fun y hy=>by unfold ix;rw[hy];rfl⟩
 eqK_ok a b K h:=⟨_,h,by simp⟩
def RJ:RD ty iI where
 sz:=4
 fs:= [(1,.bool),(1,.bool),(1,.bool),(1,.bool)]
 to x:=(x.name,x.val,x.at_,x.tags,())
 toK x K:=K (x.name,x.val,x.at_,x.tags,())
 ofK:=fun(a0,a1,a2,a3,_) K=>K ⟨a0,a1,a2,a3⟩
 ixK l q K:=K (ix l q)
 eqK a b K:=K (decide (a=b))
 sz_ok:=rfl
 toK_ok _ _ h:=h
 ofK_ok:=fun(a0,a1,a2,a3,_) K h=>⟨_,h,rfl⟩
 ixK_ok l q K h:=⟨_,h,fun y hy=>by unfold ix;rw[hy];rfl⟩
 eqK_ok a b K h:=⟨_,h,by simp⟩
def RK:RD ty qs where
 sz:=6
 fs:= [(1,.int .i64),(1,.int .i64),(1,.int .i64),(3,.st 1)]
 to x:=(x.kind,x.who,x.from_,x.op,())
 toK x K:=K (x.kind,x.who,x.from_,x.op,())
 ofK:=fun(a0,a1,a2,a3,_) K=>K ⟨a0,a1,a2,a3⟩
 ixK l q K:=K (ix l q)
 eqK a b K:=K (decide (a=b))
 sz_ok:=rfl
 toK_ok _ _ h:=h
 ofK_ok:=fun(a0,a1,a2,a3,_) K h=>⟨_,h,rfl⟩
 ixK_ok l q K h:=⟨_,h,fun y hy=>by unfold ix;rw[hy];rfl⟩
 eqK_ok a b K h:=⟨_,h,by simp⟩
def Vk:RD ty Unit where
 sz:=0
 fs:= []
 to x:=()
 toK x K:=False
 ofK:=fun _ _=>False
 ixK _ _ _:=False
 eqK _ _ _:=False
 sz_ok:=rfl
 toK_ok _ _ h:=h.elim
 ofK_ok _ _ h:=h.elim
 ixK_ok _ _ _ h:=h.elim
 eqK_ok _ _ _ h:=h.elim
def U:bD where
 ty:=ty
 rd:=fun|0=>U8|1=>U9|2=>Vb|3=>Vd|4=>Ve|5=>Vf|6=>Vg|7=>Vh|8=>Vi|9=>Vj|10=>RA|11=>RB|12=>RC|13=>RE|14=>RF|15=>RG|16=>RH|17=>RI|18=>RJ|19=>RK|_+20=>Vk
def BL(a:bC):List Value:= [.int .i64 a.origin,.int .u32 a.seq]
theorem BM{Y:List Nat}{S:World→Prop}{a:bC}{vs:List Value}(h:aC U Y S (.st 0) a vs):vs=BL a:=by
 obtain⟨h0,_⟩:=aC.inv h;obtain⟨v0,u0,e0,d0,_,h1⟩:=bE.inv h0;obtain⟨g0,_⟩:=aC.inv d0;obtain⟨v1,u1,e1,d1,_,h2⟩:=bE.inv h1;obtain⟨g1,_⟩:=aC.inv d1;have hz:u1= []:=bE.inv h2;rw[e0,e1,g0,g1,hz];rfl
def BN(a:lM):List Value:= [.int .i64 a.act,sv a.name,.int .i64 a.val]
theorem BO{Y:List Nat}{S:World→Prop}{a:lM}{vs:List Value}(h:aC U Y S (.st 1) a vs):vs=BN a:=by
 obtain⟨h0,_⟩:=aC.inv h;obtain⟨v0,u0,e0,d0,_,h1⟩:=bE.inv h0;obtain⟨g0,_⟩:=aC.inv d0;obtain⟨v1,u1,e1,d1,_,h2⟩:=bE.inv h1;obtain⟨g1,_⟩:=aC.inv d1;obtain⟨v2,u2,e2,d2,_,h3⟩:=bE.inv h2;obtain⟨g2,_⟩:=aC.inv d2;have hz:u2= []:=bE.inv h3;rw[e0,e1,e2,g0,g1,g2,hz];rfl
def JE(a:aV):List Value:= [.int .u32 a.time,.int .i64 a.origin]
theorem Fi{Y:List Nat}{S:World→Prop}{a:aV}{vs:List Value}(h:aC U Y S (.st 2) a vs):vs=JE a:=by
 obtain⟨h0,_⟩:=aC.inv h;obtain⟨v0,u0,e0,d0,_,h1⟩:=bE.inv h0;obtain⟨g0,_⟩:=aC.inv d0;obtain⟨v1,u1,e1,d1,_,h2⟩:=bE.inv h1;obtain⟨g1,_⟩:=aC.inv d1;have hz:u1= []:=bE.inv h2;rw[e0,e1,g0,g1,hz];rfl
def JF(a:az):List Value:= [.int .i64 a.id.origin,.int .u32 a.id.seq,.int .i64 a.n]
theorem yU{Y:List Nat}{S:World→Prop}{a:az}{vs:List Value}(h:aC U Y S (.st 4) a vs):vs=JF a:=by
 obtain⟨h0,_⟩:=aC.inv h;obtain⟨v0,u0,e0,d0,_,h1⟩:=bE.inv h0;have g0:=BM d0;obtain⟨v1,u1,e1,d1,_,h2⟩:=bE.inv h1;obtain⟨g1,_⟩:=aC.inv d1;have hz:u1= []:=bE.inv h2;rw[e0,e1,g0,g1,hz];rfl
def JG(a:bK):List Value:= [.int .i64 a.tag.id.origin,.int .u32 a.tag.id.seq,.int .i64 a.tag.n,sv a.field,.int .i64 a.val,.int .u32 a.at_.time,.int .i64 a.at_.origin]
theorem MQ{Y:List Nat}{S:World→Prop}{a:bK}{vs:List Value}(h:aC U Y S (.st 5) a vs):vs=JG a:=by
 obtain⟨h0,_⟩:=aC.inv h;obtain⟨v0,u0,e0,d0,_,h1⟩:=bE.inv h0;have g0:=yU d0;obtain⟨v1,u1,e1,d1,_,h2⟩:=bE.inv h1;obtain⟨g1,_⟩:=aC.inv d1;obtain⟨v2,u2,e2,d2,_,h3⟩:=bE.inv h2;obtain⟨g2,_⟩:=aC.inv d2;obtain⟨v3,u3,e3,d3,_,h4⟩:=bE.inv h3;have g3:=Fi d3;have hz:u3= []:=bE.inv h4;rw[e0,e1,e2,e3,g0,g1,g2,g3,hz];rfl
def BP(a:ar):List Value:= [sv a.field,.int .i64 a.val]
theorem yV{Y:List Nat}{S:World→Prop}{a:ar}{vs:List Value}(h:aC U Y S (.st 6) a vs):vs=BP a:=by
 obtain⟨h0,_⟩:=aC.inv h;obtain⟨v0,u0,e0,d0,_,h1⟩:=bE.inv h0;obtain⟨g0,_⟩:=aC.inv d0;obtain⟨v1,u1,e1,d1,_,h2⟩:=bE.inv h1;obtain⟨g1,_⟩:=aC.inv d1;have hz:u1= []:=bE.inv h2;rw[e0,e1,g0,g1,hz];rfl
def BQ(a:b9):List Value:= [.int .i64 a.tag.id.origin,.int .u32 a.tag.id.seq,.int .i64 a.tag.n,sv a.elem]
theorem GG{Y:List Nat}{S:World→Prop}{a:b9}{vs:List Value}(h:aC U Y S (.st 10) a vs):vs=BQ a:=by
 obtain⟨h0,_⟩:=aC.inv h;obtain⟨v0,u0,e0,d0,_,h1⟩:=bE.inv h0;have g0:=yU d0;obtain⟨v1,u1,e1,d1,_,h2⟩:=bE.inv h1;obtain⟨g1,_⟩:=aC.inv d1;have hz:u1= []:=bE.inv h2;rw[e0,e1,g0,g1,hz];rfl
def BR(a:fK):List Value:= [.int .i64 a.val,.int .u32 a.at_.time,.int .i64 a.at_.origin]
theorem GH{Y:List Nat}{S:World→Prop}{a:fK}{vs:List Value}(h:aC U Y S (.st 13) a vs):vs=BR a:=by
 obtain⟨h0,_⟩:=aC.inv h;obtain⟨v0,u0,e0,d0,_,h1⟩:=bE.inv h0;obtain⟨g0,_⟩:=aC.inv d0;obtain⟨v1,u1,e1,d1,_,h2⟩:=bE.inv h1;have g1:=Fi d1;have hz:u1= []:=bE.inv h2;rw[e0,e1,g0,g1,hz];rfl
def BS(a:eT):List Value:= [.int .i64 a.plus,.int .i64 a.minus]
theorem GI{Y:List Nat}{S:World→Prop}{a:eT}{vs:List Value}(h:aC U Y S (.st 14) a vs):vs=BS a:=by
 obtain⟨h0,_⟩:=aC.inv h;obtain⟨v0,u0,e0,d0,_,h1⟩:=bE.inv h0;obtain⟨g0,_⟩:=aC.inv d0;obtain⟨v1,u1,e1,d1,_,h2⟩:=bE.inv h1;obtain⟨g1,_⟩:=aC.inv d1;have hz:u1= []:=bE.inv h2;rw[e0,e1,g0,g1,hz];rfl
def BT(a:iI):List Value:= [.bool a.name,.bool a.val,.bool a.at_,.bool a.tags]
theorem GJ{Y:List Nat}{S:World→Prop}{a:iI}{vs:List Value}(h:aC U Y S (.st 18) a vs):vs=BT a:=by
 obtain⟨h0,_⟩:=aC.inv h;obtain⟨v0,u0,e0,d0,_,h1⟩:=bE.inv h0;have g0:=aC.inv d0;obtain⟨v1,u1,e1,d1,_,h2⟩:=bE.inv h1;have g1:=aC.inv d1;obtain⟨v2,u2,e2,d2,_,h3⟩:=bE.inv h2;have g2:=aC.inv d2;obtain⟨v3,u3,e3,d3,_,h4⟩:=bE.inv h3;have g3:=aC.inv d3;have hz:u3= []:=bE.inv h4;rw[e0,e1,e2,e3,g0,g1,g2,g3,hz];rfl
def BU(a:qs):List Value:= [.int .i64 a.kind,.int .i64 a.who,.int .i64 a.from_,.int .i64 a.op.act,sv a.op.name,.int .i64 a.op.val]
theorem GK{Y:List Nat}{S:World→Prop}{a:qs}{vs:List Value}(h:aC U Y S (.st 19) a vs):vs=BU a:=by
 obtain⟨h0,_⟩:=aC.inv h;obtain⟨v0,u0,e0,d0,_,h1⟩:=bE.inv h0;obtain⟨g0,_⟩:=aC.inv d0;obtain⟨v1,u1,e1,d1,_,h2⟩:=bE.inv h1;obtain⟨g1,_⟩:=aC.inv d1;obtain⟨v2,u2,e2,d2,_,h3⟩:=bE.inv h2;obtain⟨g2,_⟩:=aC.inv d2;obtain⟨v3,u3,e3,d3,_,h4⟩:=bE.inv h3;have g3:=BO d3;have hz:u3= []:=bE.inv h4;rw[e0,e1,e2,e3,g0,g1,g2,g3,hz];rfl
theorem MR(a0:Int)(a1:Int)(b0:Int)(b1:Int):aY Tryz.prog 8 59 [.int .i64 a0,.int .u32 a1] [.int .i64 b0,.int .u32 b1]=some (((a0==b0)&&((a1==b1)&&true))):=by kernel_rfl
theorem BV(a b:bC): ∃r,aY Tryz.prog 8 59 (BL a) (BL b)=some r∧(r=true↔a=b):=by
 obtain⟨a0,a1⟩:=a;obtain⟨b0,b1⟩:=b;refine⟨_,MR _ _ _ _,?_⟩;show _↔(bC.mk a0 a1)=(bC.mk b0 b1)
 simp
theorem RL:jy U Tryz.prog 59 (.st 0):=⟨by kernel_rfl,fun Y S a b vs us h1 h2=>by rw[BM h1,BM h2];exact BV a b⟩
theorem MS(a0:Int)(a1:Int)(a2:Int)(a3:Int)(a4:Int)(a5:Int)(a6:Int)(a7:Int)(b0:Int)(b1:Int)(b2:Int)(b3:Int)(b4:Int)(b5:Int)(b6:Int)(b7:Int):aY Tryz.prog 8 45 [.int .u32 a0,.int .u32 a1,.int .u32 a2,.int .u32 a3,.int .u32 a4,.int .u32 a5,.int .u32 a6,.int .u32 a7] [.int .u32 b0,.int .u32 b1,.int .u32 b2,.int .u32 b3,.int .u32 b4,.int .u32 b5,.int .u32 b6,.int .u32 b7]=some (((a0==b0)&&((a1==b1)&&((a2==b2)&&((a3==b3)&&((a4==b4)&&((a5==b5)&&((a6==b6)&&((a7==b7)&&true))))))))):=by kernel_rfl
theorem MT: ∀a b:List Int,a.length=8→b.length=8→ ∃r,aY Tryz.prog 8 45 (a.map (Value.int .u32)) (b.map (Value.int .u32))=some r∧(r=true↔a=b)
 | [a0,a1,a2,a3,a4,a5,a6,a7],[b0,b1,b2,b3,b4,b5,b6,b7],_,_=>⟨_,MS _ _ _ _ _ _ _ _ _ _ _ _ _ _ _ _,by simp⟩
theorem RM:jy U Tryz.prog 45 (.arr 8 (.int .u32)):=⟨by kernel_rfl,fun Y S a b vs us h1 h2=>by
 obtain⟨h1,l1⟩:=aC.inv h1;obtain⟨h2,l2⟩:=aC.inv h2;rw[ie h1,ie h2];exact MT a b l1 l2⟩
theorem MU(a0:Int)(a1:List UInt8)(a2:Int)(b0:Int)(b1:List UInt8)(b2:Int):aY Tryz.prog 8 66 [.int .i64 a0,sv a1,.int .i64 a2] [.int .i64 b0,sv b1,.int .i64 b2]=some (((a0==b0)&&((a1==b1)&&((a2==b2)&&true)))):=by kernel_rfl
theorem MV(a b:lM): ∃r,aY Tryz.prog 8 66 (BN a) (BN b)=some r∧(r=true↔a=b):=by
 obtain⟨a0,a1,a2⟩:=a;obtain⟨b0,b1,b2⟩:=b;refine⟨_,MU _ _ _ _ _ _,?_⟩;show _↔(lM.mk a0 a1 a2)=(lM.mk b0 b1 b2)
 simp
theorem RN:jy U Tryz.prog 66 (.st 1):=⟨by kernel_rfl,fun Y S a b vs us h1 h2=>by rw[BO h1,BO h2];exact MV a b⟩
theorem MW(a0:Int)(a1:Int)(b0:Int)(b1:Int):aY Tryz.prog 8 30 [.int .u32 a0,.int .i64 a1] [.int .u32 b0,.int .i64 b1]=some (((a0==b0)&&((a1==b1)&&true))):=by kernel_rfl
theorem MX(a b:aV): ∃r,aY Tryz.prog 8 30 (JE a) (JE b)=some r∧(r=true↔a=b):=by
 obtain⟨a0,a1⟩:=a;obtain⟨b0,b1⟩:=b;refine⟨_,MW _ _ _ _,?_⟩;show _↔(aV.mk a0 a1)=(aV.mk b0 b1)
 simp
theorem RO:jy U Tryz.prog 30 (.st 2):=⟨by kernel_rfl,fun Y S a b vs us h1 h2=>by rw[Fi h1,Fi h2];exact MX a b⟩
theorem JH(a0:List UInt8)(a1:Int)(b0:List UInt8)(b1:Int):aY Tryz.prog 8 144 [sv a0,.int .i64 a1] [sv b0,.int .i64 b1]=some (((a0==b0)&&((a1==b1)&&true))):=by kernel_rfl
theorem JI(a b:ar): ∃r,aY Tryz.prog 8 144 (BP a) (BP b)=some r∧(r=true↔a=b):=by
 obtain⟨a0,a1⟩:=a;obtain⟨b0,b1⟩:=b;refine⟨_,JH _ _ _ _,?_⟩;show _↔(ar.mk a0 a1)=(ar.mk b0 b1)
 simp
theorem MY:jy U Tryz.prog 144 (.st 6):=⟨by kernel_rfl,fun Y S a b vs us h1 h2=>by rw[yV h1,yV h2];exact JI a b⟩
theorem MZ(a0:Int)(a1:Int)(a2:Int)(b0:Int)(b1:Int)(b2:Int):aY Tryz.prog 8 61 [.int .i64 a0,.int .u32 a1,.int .i64 a2] [.int .i64 b0,.int .u32 b1,.int .i64 b2]=some ((((a0==b0)&&((a1==b1)&&true))&&((a2==b2)&&true))):=by kernel_rfl
theorem M4(a b:az): ∃r,aY Tryz.prog 8 61 (JF a) (JF b)=some r∧(r=true↔a=b):=by
 obtain⟨⟨a0,a1⟩,a2⟩:=a;obtain⟨⟨b0,b1⟩,b2⟩:=b;refine⟨_,MZ _ _ _ _ _ _,?_⟩;show _↔(az.mk (bC.mk a0 a1) a2)=(az.mk (bC.mk b0 b1) b2)
 simp
theorem M7:jy U Tryz.prog 61 (.st 4):=⟨by kernel_rfl,fun Y S a b vs us h1 h2=>by rw[yU h1,yU h2];exact M4 a b⟩
theorem JJ(a0:Int)(a1:Int)(a2:Int)(a3:List UInt8)(b0:Int)(b1:Int)(b2:Int)(b3:List UInt8):aY Tryz.prog 8 128 [.int .i64 a0,.int .u32 a1,.int .i64 a2,sv a3] [.int .i64 b0,.int .u32 b1,.int .i64 b2,sv b3]=some (((((a0==b0)&&((a1==b1)&&true))&&((a2==b2)&&true))&&((a3==b3)&&true))):=by kernel_rfl
theorem JK(a b:b9): ∃r,aY Tryz.prog 8 128 (BQ a) (BQ b)=some r∧(r=true↔a=b):=by
 obtain⟨⟨⟨a0,a1⟩,a2⟩,a3⟩:=a;obtain⟨⟨⟨b0,b1⟩,b2⟩,b3⟩:=b;refine⟨_,JJ _ _ _ _ _ _ _ _,?_⟩;show _↔(b9.mk (az.mk (bC.mk a0 a1) a2) a3)=(b9.mk (az.mk (bC.mk b0 b1) b2) b3)
 simp
theorem M8:jy U Tryz.prog 128 (.st 10):=⟨by kernel_rfl,fun Y S a b vs us h1 h2=>by rw[GG h1,GG h2];exact JK a b⟩
theorem JL(a0:Int)(a1:Int)(a2:Int)(a3:List UInt8)(a4:Int)(a5:Int)(a6:Int)(b0:Int)(b1:Int)(b2:Int)(b3:List UInt8)(b4:Int)(b5:Int)(b6:Int):aY Tryz.prog 8 133 [.int .i64 a0,.int .u32 a1,.int .i64 a2,sv a3,.int .i64 a4,.int .u32 a5,.int .i64 a6] [.int .i64 b0,.int .u32 b1,.int .i64 b2,sv b3,.int .i64 b4,.int .u32 b5,.int .i64 b6]=some (((((a0==b0)&&((a1==b1)&&true))&&((a2==b2)&&true))&&((a3==b3)&&((a4==b4)&&(((a5==b5)&&((a6==b6)&&true))&&true))))):=by kernel_rfl
theorem JM(a b:bK): ∃r,aY Tryz.prog 8 133 (JG a) (JG b)=some r∧(r=true↔a=b):=by
 obtain⟨⟨⟨a0,a1⟩,a2⟩,a3,a4,⟨a5,a6⟩⟩:=a;obtain⟨⟨⟨b0,b1⟩,b2⟩,b3,b4,⟨b5,b6⟩⟩:=b;refine⟨_,JL _ _ _ _ _ _ _ _ _ _ _ _ _ _,?_⟩;show _↔(bK.mk (az.mk (bC.mk a0 a1) a2) a3 a4 (aV.mk a5 a6))=(bK.mk (az.mk (bC.mk b0 b1) b2) b3 b4 (aV.mk b5 b6))
 simp
theorem M9:jy U Tryz.prog 133 (.st 5):=⟨by kernel_rfl,fun Y S a b vs us h1 h2=>by rw[MQ h1,MQ h2];exact JM a b⟩
theorem Na(a0:Int)(a1:Int)(a2:Int)(b0:Int)(b1:Int)(b2:Int):aY Tryz.prog 8 32 [.int .i64 a0,.int .u32 a1,.int .i64 a2] [.int .i64 b0,.int .u32 b1,.int .i64 b2]=some (((a0==b0)&&(((a1==b1)&&((a2==b2)&&true))&&true))):=by kernel_rfl
theorem Nb(a b:fK): ∃r,aY Tryz.prog 8 32 (BR a) (BR b)=some r∧(r=true↔a=b):=by
 obtain⟨a0,⟨a1,a2⟩⟩:=a;obtain⟨b0,⟨b1,b2⟩⟩:=b;refine⟨_,Na _ _ _ _ _ _,?_⟩;show _↔(fK.mk a0 (aV.mk a1 a2))=(fK.mk b0 (aV.mk b1 b2))
 simp
theorem RP:jy U Tryz.prog 32 (.st 13):=⟨by kernel_rfl,fun Y S a b vs us h1 h2=>by rw[GH h1,GH h2];exact Nb a b⟩
theorem Nc(a0:Int)(a1:Int)(b0:Int)(b1:Int):aY Tryz.prog 8 34 [.int .i64 a0,.int .i64 a1] [.int .i64 b0,.int .i64 b1]=some (((a0==b0)&&((a1==b1)&&true))):=by kernel_rfl
theorem Nd(a b:eT): ∃r,aY Tryz.prog 8 34 (BS a) (BS b)=some r∧(r=true↔a=b):=by
 obtain⟨a0,a1⟩:=a;obtain⟨b0,b1⟩:=b;refine⟨_,Nc _ _ _ _,?_⟩;show _↔(eT.mk a0 a1)=(eT.mk b0 b1)
 simp
theorem RQ:jy U Tryz.prog 34 (.st 14):=⟨by kernel_rfl,fun Y S a b vs us h1 h2=>by rw[GI h1,GI h2];exact Nd a b⟩
theorem JN(a0:List UInt8)(a1:Int)(b0:List UInt8)(b1:Int):aY Tryz.prog 8 149 [sv a0,.int .i64 a1] [sv b0,.int .i64 b1]=some (((a0==b0)&&((a1==b1)&&true))):=by kernel_rfl
theorem JO(a b:ar): ∃r,aY Tryz.prog 8 149 (BP a) (BP b)=some r∧(r=true↔a=b):=by
 obtain⟨a0,a1⟩:=a;obtain⟨b0,b1⟩:=b;refine⟨_,JN _ _ _ _,?_⟩;show _↔(ar.mk a0 a1)=(ar.mk b0 b1)
 simp
theorem Nf:jy U Tryz.prog 149 (.st 6):=⟨by kernel_rfl,fun Y S a b vs us h1 h2=>by rw[yV h1,yV h2];exact JO a b⟩
theorem Ng(a0:Int)(a1:List UInt8)(a2:Int)(b0:Int)(b1:List UInt8)(b2:Int):aY Tryz.prog 8 54 [.int .i64 a0,sv a1,.int .i64 a2] [.int .i64 b0,sv b1,.int .i64 b2]=some (((a0==b0)&&((a1==b1)&&((a2==b2)&&true)))):=by kernel_rfl
theorem Nh(a b:lM): ∃r,aY Tryz.prog 8 54 (BN a) (BN b)=some r∧(r=true↔a=b):=by
 obtain⟨a0,a1,a2⟩:=a;obtain⟨b0,b1,b2⟩:=b;refine⟨_,Ng _ _ _ _ _ _,?_⟩;show _↔(lM.mk a0 a1 a2)=(lM.mk b0 b1 b2)
 simp
theorem RR:jy U Tryz.prog 54 (.st 1):=⟨by kernel_rfl,fun Y S a b vs us h1 h2=>by rw[BO h1,BO h2];exact Nh a b⟩
theorem JP(a0:Bool)(a1:Bool)(a2:Bool)(a3:Bool)(b0:Bool)(b1:Bool)(b2:Bool)(b3:Bool):aY Tryz.prog 8 172 [.bool a0,.bool a1,.bool a2,.bool a3] [.bool b0,.bool b1,.bool b2,.bool b3]=some (((a0==b0)&&((a1==b1)&&((a2==b2)&&((a3==b3)&&true))))):=by kernel_rfl
theorem JQ(a b:iI): ∃r,aY Tryz.prog 8 172 (BT a) (BT b)=some r∧(r=true↔a=b):=by
 obtain⟨a0,a1,a2,a3⟩:=a;obtain⟨b0,b1,b2,b3⟩:=b;refine⟨_,JP _ _ _ _ _ _ _ _,?_⟩;show _↔(iI.mk a0 a1 a2 a3)=(iI.mk b0 b1 b2 b3)
 simp
theorem Ni:jy U Tryz.prog 172 (.st 18):=⟨by kernel_rfl,fun Y S a b vs us h1 h2=>by rw[GJ h1,GJ h2];exact JQ a b⟩
theorem JR(a0:Int)(a1:Int)(b0:Int)(b1:Int):aY Tryz.prog 8 303 [.int .i64 a0,.int .i64 a1] [.int .i64 b0,.int .i64 b1]=some (((a0==b0)&&((a1==b1)&&true))):=by kernel_rfl
theorem JS: ∀a b:List Int,a.length=2→b.length=2→ ∃r,aY Tryz.prog 8 303 (a.map (Value.int .i64)) (b.map (Value.int .i64))=some r∧(r=true↔a=b)
 | [a0,a1],[b0,b1],_,_=>⟨_,JR _ _ _ _,by simp⟩
theorem Nj:jy U Tryz.prog 303 (.arr 2 (.int .i64)):=⟨by kernel_rfl,fun Y S a b vs us h1 h2=>by
 obtain⟨h1,l1⟩:=aC.inv h1;obtain⟨h2,l2⟩:=aC.inv h2;rw[ie h1,ie h2];exact JS a b l1 l2⟩
theorem Nk(a0:Int)(a1:Int)(a2:Int)(a3:Int)(a4:List UInt8)(a5:Int)(b0:Int)(b1:Int)(b2:Int)(b3:Int)(b4:List UInt8)(b5:Int):aY Tryz.prog 8 56 [.int .i64 a0,.int .i64 a1,.int .i64 a2,.int .i64 a3,sv a4,.int .i64 a5] [.int .i64 b0,.int .i64 b1,.int .i64 b2,.int .i64 b3,sv b4,.int .i64 b5]=some (((a0==b0)&&((a1==b1)&&((a2==b2)&&(((a3==b3)&&((a4==b4)&&((a5==b5)&&true)))&&true))))):=by kernel_rfl
theorem Nl(a b:qs): ∃r,aY Tryz.prog 8 56 (BU a) (BU b)=some r∧(r=true↔a=b):=by
 obtain⟨a0,a1,a2,⟨a3,a4,a5⟩⟩:=a;obtain⟨b0,b1,b2,⟨b3,b4,b5⟩⟩:=b;refine⟨_,Nk _ _ _ _ _ _ _ _ _ _ _ _,?_⟩;show _↔(qs.mk a0 a1 a2 (lM.mk a3 a4 a5))=(qs.mk b0 b1 b2 (lM.mk b3 b4 b5))
 simp
theorem RS:jy U Tryz.prog 56 (.st 19):=⟨by kernel_rfl,fun Y S a b vs us h1 h2=>by rw[GK h1,GK h2];exact Nl a b⟩
theorem JT(a0:Int)(a1:Int)(b0:Int)(b1:Int):aY Tryz.prog 8 245 [.int .i64 a0,.int .i64 a1] [.int .i64 b0,.int .i64 b1]=some (((a0==b0)&&((a1==b1)&&true))):=by kernel_rfl
theorem JU: ∀a b:List Int,a.length=2→b.length=2→ ∃r,aY Tryz.prog 8 245 (a.map (Value.int .i64)) (b.map (Value.int .i64))=some r∧(r=true↔a=b)
 | [a0,a1],[b0,b1],_,_=>⟨_,JT _ _ _ _,by simp⟩
theorem Nm:jy U Tryz.prog 245 (.arr 2 (.int .i64)):=⟨by kernel_rfl,fun Y S a b vs us h1 h2=>by
 obtain⟨h1,l1⟩:=aC.inv h1;obtain⟨h2,l2⟩:=aC.inv h2;rw[ie h1,ie h2];exact JU a b l1 l2⟩
def SI:TI U:=⟨1,.int .i64,8,[],some (.int .i64),false,[(1,.d (.int .i64) (0:Int))],none⟩
theorem BW:aT U Tryz.prog 3 SI:=aL [.i .i64] rfl (by kernel_rfl) rfl (by kernel_rfl) (by kernel_rfl) (show Tryz.prog.underlying 3=some (.int .i64)by kernel_rfl) (by kernel_rfl) (by kernel_rfl) (by kernel_rfl) (fun i h1 h2=>by cases h2) (fun d h=>by cases h)
def SJ:TI U:=⟨1,.str,16,[],some (.str),false,[(1,.d .str ([]:List UInt8))],none⟩
theorem JV:aT U Tryz.prog 9 SJ:=aL [.s] rfl (by kernel_rfl) rfl (by kernel_rfl) (by kernel_rfl) (show Tryz.prog.underlying 9=some .string by kernel_rfl) (by kernel_rfl) (by kernel_rfl) (by kernel_rfl) (fun i h1 h2=>by cases h2) (fun d h=>by cases h)
def GL:TI U:=⟨13,.st,104,[(0,59),(2,45),(10,3),(11,26),(12,108)],some (.st 9),false,[(1,.d (.int .i64) (0:Int)),(1,.d (.int .u32) (0:Int)),(1,.d (.int .u32) (0:Int)),(1,.d (.int .u32) (0:Int)),(1,.d (.int .u32) (0:Int)),(1,.d (.int .u32) (0:Int)),(1,.d (.int .u32) (0:Int)),(1,.d (.int .u32) (0:Int)),(1,.d (.int .u32) (0:Int)),(1,.d (.int .u32) (0:Int)),(1,.d (.int .i64) (0:Int)),(1,.nils),(1,.nils)],none⟩
theorem kR:aT U Tryz.prog 110 GL:=aL [.i .i64,.i .u32,.i .u32,.i .u32,.i .u32,.i .u32,.i .u32,.i .u32,.i .u32,.i .u32,.i .i64,.l,.l] rfl (by kernel_rfl) rfl (by kernel_rfl) (by kernel_rfl) ⟨_,rfl⟩ rfl (by kernel_rfl) (by kernel_rfl) (fun i h1 h2=>by cases h2) (fun d h=>by cases h)
def Nn:TI U:=⟨2,.st,16,[(0,3),(1,28)],some (.st 0),true,[(1,.d (.int .i64) (0:Int)),(1,.d (.int .u32) (0:Int))],none⟩
theorem Fj:aT U Tryz.prog 59 Nn:=aL [.i .i64,.i .u32] rfl (by kernel_rfl) rfl (by kernel_rfl) (by kernel_rfl) ⟨_,rfl⟩ rfl (by kernel_rfl) (by kernel_rfl) (fun i h1 h2=>⟨rfl,by injection h1 with h1;subst h1;exact RL⟩) (fun d h=>by cases h)
def No:TI U:=⟨1,.int .u32,4,[],some (.int .u32),false,[(1,.d (.int .u32) (0:Int))],none⟩
theorem Fl:aT U Tryz.prog 28 No:=aL [.i .u32] rfl (by kernel_rfl) rfl (by kernel_rfl) (by kernel_rfl) (show Tryz.prog.underlying 28=some (.int .u32)by kernel_rfl) (by kernel_rfl) (by kernel_rfl) (by kernel_rfl) (fun i h1 h2=>by cases h2) (fun d h=>by cases h)
def Np:TI U:=⟨8,.arr 8 28,32,[],some (.arr 8 (.int .u32)),true,[(1,.d (.int .u32) (0:Int)),(1,.d (.int .u32) (0:Int)),(1,.d (.int .u32) (0:Int)),(1,.d (.int .u32) (0:Int)),(1,.d (.int .u32) (0:Int)),(1,.d (.int .u32) (0:Int)),(1,.d (.int .u32) (0:Int)),(1,.d (.int .u32) (0:Int))],none⟩
theorem xU:aT U Tryz.prog 45 Np:=aL [.i .u32,.i .u32,.i .u32,.i .u32,.i .u32,.i .u32,.i .u32,.i .u32] rfl (by kernel_rfl) rfl (by kernel_rfl) (by kernel_rfl) (show Tryz.prog.underlying 45=some (.array 8 28)by kernel_rfl) (by kernel_rfl) (by kernel_rfl) (by kernel_rfl) (fun i h1 h2=>⟨rfl,by injection h1 with h1;subst h1;exact RM⟩) (fun d h=>by cases h)
def Nq:TI U:=⟨1,.sl 70,24,[],some (.sl (.st 3)),false,[(1,.nils)],none⟩
theorem Fm:aT U Tryz.prog 26 Nq:=aL [.l] rfl (by kernel_rfl) rfl (by kernel_rfl) (by kernel_rfl) (show Tryz.prog.underlying 26=some (.slice 70)by kernel_rfl) (by kernel_rfl) (by kernel_rfl) (by kernel_rfl) (fun i h1 h2=>by cases h2) (fun d h=>by cases h)
def Nr:TI U:=⟨17,.st,120,[(0,59),(2,45),(10,3),(11,9),(12,66),(15,30)],some (.st 3),false,[(1,.d (.int .i64) (0:Int)),(1,.d (.int .u32) (0:Int)),(1,.d (.int .u32) (0:Int)),(1,.d (.int .u32) (0:Int)),(1,.d (.int .u32) (0:Int)),(1,.d (.int .u32) (0:Int)),(1,.d (.int .u32) (0:Int)),(1,.d (.int .u32) (0:Int)),(1,.d (.int .u32) (0:Int)),(1,.d (.int .u32) (0:Int)),(1,.d (.int .i64) (0:Int)),(1,.d .str ([]:List UInt8)),(1,.d (.int .i64) (0:Int)),(1,.d .str ([]:List UInt8)),(1,.d (.int .i64) (0:Int)),(1,.d (.int .u32) (0:Int)),(1,.d (.int .i64) (0:Int))],none⟩
theorem lD:aT U Tryz.prog 70 Nr:=aL [.i .i64,.i .u32,.i .u32,.i .u32,.i .u32,.i .u32,.i .u32,.i .u32,.i .u32,.i .u32,.i .i64,.s,.i .i64,.s,.i .i64,.i .u32,.i .i64] rfl (by kernel_rfl) rfl (by kernel_rfl) (by kernel_rfl) ⟨_,rfl⟩ rfl (by kernel_rfl) (by kernel_rfl) (fun i h1 h2=>by cases h2) (fun d h=>by cases h)
def Ns:TI U:=⟨3,.st,32,[(0,3),(1,9),(2,2)],some (.st 1),true,[(1,.d (.int .i64) (0:Int)),(1,.d .str ([]:List UInt8)),(1,.d (.int .i64) (0:Int))],none⟩
theorem Fo:aT U Tryz.prog 66 Ns:=aL [.i .i64,.s,.i .i64] rfl (by kernel_rfl) rfl (by kernel_rfl) (by kernel_rfl) ⟨_,rfl⟩ rfl (by kernel_rfl) (by kernel_rfl) (fun i h1 h2=>⟨rfl,by injection h1 with h1;subst h1;exact RN⟩) (fun d h=>by cases h)
def SK:TI U:=⟨1,.int .i64,8,[],some (.int .i64),false,[(1,.d (.int .i64) (0:Int))],none⟩
theorem JW:aT U Tryz.prog 2 SK:=aL [.i .i64] rfl (by kernel_rfl) rfl (by kernel_rfl) (by kernel_rfl) (show Tryz.prog.underlying 2=some (.int .i64)by kernel_rfl) (by kernel_rfl) (by kernel_rfl) (by kernel_rfl) (fun i h1 h2=>by cases h2) (fun d h=>by cases h)
def Nt:TI U:=⟨2,.st,16,[(0,28),(1,3)],some (.st 2),true,[(1,.d (.int .u32) (0:Int)),(1,.d (.int .i64) (0:Int))],none⟩
theorem Fp:aT U Tryz.prog 30 Nt:=aL [.i .u32,.i .i64] rfl (by kernel_rfl) rfl (by kernel_rfl) (by kernel_rfl) ⟨_,rfl⟩ rfl (by kernel_rfl) (by kernel_rfl) (fun i h1 h2=>⟨rfl,by injection h1 with h1;subst h1;exact RO⟩) (fun d h=>by cases h)
def GM:TI U:=⟨1,.sl 107,24,[],some (.sl (.st 8)),false,[(1,.nils)],none⟩
theorem BX:aT U Tryz.prog 108 GM:=aL [.l] rfl (by kernel_rfl) rfl (by kernel_rfl) (by kernel_rfl) (show Tryz.prog.underlying 108=some (.slice 107)by kernel_rfl) (by kernel_rfl) (by kernel_rfl) (by kernel_rfl) (fun i h1 h2=>by cases h2) (fun d h=>by cases h)
def GN:TI U:=⟨5,.st,64,[(0,9),(1,3),(2,75)],some (.st 8),false,[(1,.d .str ([]:List UInt8)),(1,.d (.int .i64) (0:Int)),(1,.d (.int .i64) (0:Int)),(1,.d (.int .i64) (0:Int)),(1,.nils)],none⟩
theorem BY:aT U Tryz.prog 107 GN:=aL [.s,.i .i64,.i .i64,.i .i64,.l] rfl (by kernel_rfl) rfl (by kernel_rfl) (by kernel_rfl) ⟨_,rfl⟩ rfl (by kernel_rfl) (by kernel_rfl) (fun i h1 h2=>by cases h2) (fun d h=>by cases h)
def Nu:TI U:=⟨3,.st,40,[(0,3),(1,2),(2,73)],some (.st 7),false,[(1,.d (.int .i64) (0:Int)),(1,.d (.int .i64) (0:Int)),(1,.nils)],none⟩
theorem Fs:aT U Tryz.prog 75 Nu:=aL [.i .i64,.i .i64,.l] rfl (by kernel_rfl) rfl (by kernel_rfl) (by kernel_rfl) ⟨_,rfl⟩ rfl (by kernel_rfl) (by kernel_rfl) (fun i h1 h2=>by cases h2) (fun d h=>by cases h)
def Nv:TI U:=⟨1,.sl 144,24,[],some (.sl (.st 6)),false,[(1,.nils)],none⟩
theorem Ft:aT U Tryz.prog 73 Nv:=aL [.l] rfl (by kernel_rfl) rfl (by kernel_rfl) (by kernel_rfl) (show Tryz.prog.underlying 73=some (.slice 144)by kernel_rfl) (by kernel_rfl) (by kernel_rfl) (by kernel_rfl) (fun i h1 h2=>by cases h2) (fun d h=>by cases h)
def GO:TI U:=⟨2,.st,24,[(0,9),(1,2)],some (.st 6),true,[(1,.d .str ([]:List UInt8)),(1,.d (.int .i64) (0:Int))],none⟩
theorem uZ:aT U Tryz.prog 144 GO:=aL [.s,.i .i64] rfl (by kernel_rfl) rfl (by kernel_rfl) (by kernel_rfl) ⟨_,rfl⟩ rfl (by kernel_rfl) (by kernel_rfl) (fun i h1 h2=>⟨rfl,by injection h1 with h1;subst h1;exact MY⟩) (fun d h=>by cases h)
def Nw:TI U:=⟨1,.sl 61,24,[],some (.sl (.st 4)),false,[(1,.nils)],none⟩
theorem Fu:aT U Tryz.prog 36 Nw:=aL [.l] rfl (by kernel_rfl) rfl (by kernel_rfl) (by kernel_rfl) (show Tryz.prog.underlying 36=some (.slice 61)by kernel_rfl) (by kernel_rfl) (by kernel_rfl) (by kernel_rfl) (fun i h1 h2=>by cases h2) (fun d h=>by cases h)
def Nx:TI U:=⟨3,.st,24,[(0,59),(2,3)],some (.st 4),true,[(1,.d (.int .i64) (0:Int)),(1,.d (.int .u32) (0:Int)),(1,.d (.int .i64) (0:Int))],none⟩
theorem lE:aT U Tryz.prog 61 Nx:=aL [.i .i64,.i .u32,.i .i64] rfl (by kernel_rfl) rfl (by kernel_rfl) (by kernel_rfl) ⟨_,rfl⟩ rfl (by kernel_rfl) (by kernel_rfl) (fun i h1 h2=>⟨rfl,by injection h1 with h1;subst h1;exact M7⟩) (fun d h=>by cases h)
def Ny:TI U:=⟨1,.sl 110,24,[],some (.sl (.st 9)),false,[(1,.nils)],none⟩
theorem Fv:aT U Tryz.prog 91 Ny:=aL [.l] rfl (by kernel_rfl) rfl (by kernel_rfl) (by kernel_rfl) (show Tryz.prog.underlying 91=some (.slice 110)by kernel_rfl) (by kernel_rfl) (by kernel_rfl) (by kernel_rfl) (fun i h1 h2=>by cases h2) (fun d h=>by cases h)
def Nz:TI U:=⟨1,.sl 9,24,[],some (.sl (.str)),false,[(1,.nils)],none⟩
theorem Fx:aT U Tryz.prog 25 Nz:=aL [.l] rfl (by kernel_rfl) rfl (by kernel_rfl) (by kernel_rfl) (show Tryz.prog.underlying 25=some (.slice 9)by kernel_rfl) (by kernel_rfl) (by kernel_rfl) (by kernel_rfl) (fun i h1 h2=>by cases h2) (fun d h=>by cases h)
def SL:TI U:=⟨1,.bool,1,[],some (.bool),false,[(1,.d .bool false)],none⟩
theorem JX:aT U Tryz.prog 4 SL:=aL [.b] rfl (by kernel_rfl) rfl (by kernel_rfl) (by kernel_rfl) (show Tryz.prog.underlying 4=some .bool by kernel_rfl) (by kernel_rfl) (by kernel_rfl) (by kernel_rfl) (fun i h1 h2=>by cases h2) (fun d h=>by cases h)
def NA:TI U:=⟨1,.sl 128,24,[],some (.sl (.st 10)),false,[(1,.nils)],none⟩
theorem Fy:aT U Tryz.prog 35 NA:=aL [.l] rfl (by kernel_rfl) rfl (by kernel_rfl) (by kernel_rfl) (show Tryz.prog.underlying 35=some (.slice 128)by kernel_rfl) (by kernel_rfl) (by kernel_rfl) (by kernel_rfl) (fun i h1 h2=>by cases h2) (fun d h=>by cases h)
def GQ:TI U:=⟨4,.st,40,[(0,61),(3,9)],some (.st 10),true,[(1,.d (.int .i64) (0:Int)),(1,.d (.int .u32) (0:Int)),(1,.d (.int .i64) (0:Int)),(1,.d .str ([]:List UInt8))],none⟩
theorem kT:aT U Tryz.prog 128 GQ:=aL [.i .i64,.i .u32,.i .i64,.s] rfl (by kernel_rfl) rfl (by kernel_rfl) (by kernel_rfl) ⟨_,rfl⟩ rfl (by kernel_rfl) (by kernel_rfl) (fun i h1 h2=>⟨rfl,by injection h1 with h1;subst h1;exact M8⟩) (fun d h=>by cases h)
def NB:TI U:=⟨2,.st,48,[(0,35),(1,36)],some (.st 11),false,[(1,.nils),(1,.nils)],none⟩
theorem Fz:aT U Tryz.prog 38 NB:=aL [.l,.l] rfl (by kernel_rfl) rfl (by kernel_rfl) (by kernel_rfl) ⟨_,rfl⟩ rfl (by kernel_rfl) (by kernel_rfl) (fun i h1 h2=>by cases h2) (fun d h=>by cases h)
def NC:TI U:=⟨1,.sl 133,24,[],some (.sl (.st 5)),false,[(1,.nils)],none⟩
theorem FA:aT U Tryz.prog 39 NC:=aL [.l] rfl (by kernel_rfl) rfl (by kernel_rfl) (by kernel_rfl) (show Tryz.prog.underlying 39=some (.slice 133)by kernel_rfl) (by kernel_rfl) (by kernel_rfl) (by kernel_rfl) (fun i h1 h2=>by cases h2) (fun d h=>by cases h)
def GR:TI U:=⟨7,.st,64,[(0,61),(3,9),(4,2),(5,30)],some (.st 5),true,[(1,.d (.int .i64) (0:Int)),(1,.d (.int .u32) (0:Int)),(1,.d (.int .i64) (0:Int)),(1,.d .str ([]:List UInt8)),(1,.d (.int .i64) (0:Int)),(1,.d (.int .u32) (0:Int)),(1,.d (.int .i64) (0:Int))],none⟩
theorem kU:aT U Tryz.prog 133 GR:=aL [.i .i64,.i .u32,.i .i64,.s,.i .i64,.i .u32,.i .i64] rfl (by kernel_rfl) rfl (by kernel_rfl) (by kernel_rfl) ⟨_,rfl⟩ rfl (by kernel_rfl) (by kernel_rfl) (fun i h1 h2=>⟨rfl,by injection h1 with h1;subst h1;exact M9⟩) (fun d h=>by cases h)
def ND:TI U:=⟨2,.st,48,[(0,39),(1,36)],some (.st 12),false,[(1,.nils),(1,.nils)],none⟩
theorem FB:aT U Tryz.prog 41 ND:=aL [.l,.l] rfl (by kernel_rfl) rfl (by kernel_rfl) (by kernel_rfl) ⟨_,rfl⟩ rfl (by kernel_rfl) (by kernel_rfl) (fun i h1 h2=>by cases h2) (fun d h=>by cases h)
def NE:TI U:=⟨10,.st,144,[(0,3),(1,32),(4,34),(6,38),(8,41)],some (.st 15),false,[(1,.d (.int .i64) (0:Int)),(1,.d (.int .i64) (0:Int)),(1,.d (.int .u32) (0:Int)),(1,.d (.int .i64) (0:Int)),(1,.d (.int .i64) (0:Int)),(1,.d (.int .i64) (0:Int)),(1,.nils),(1,.nils),(1,.nils),(1,.nils)],none⟩
theorem FC:aT U Tryz.prog 43 NE:=aL [.i .i64,.i .i64,.i .u32,.i .i64,.i .i64,.i .i64,.l,.l,.l,.l] rfl (by kernel_rfl) rfl (by kernel_rfl) (by kernel_rfl) ⟨_,rfl⟩ rfl (by kernel_rfl) (by kernel_rfl) (fun i h1 h2=>by cases h2) (fun d h=>by cases h)
def NF:TI U:=⟨3,.st,24,[(0,2),(1,30)],some (.st 13),true,[(1,.d (.int .i64) (0:Int)),(1,.d (.int .u32) (0:Int)),(1,.d (.int .i64) (0:Int))],none⟩
theorem FD:aT U Tryz.prog 32 NF:=aL [.i .i64,.i .u32,.i .i64] rfl (by kernel_rfl) rfl (by kernel_rfl) (by kernel_rfl) ⟨_,rfl⟩ rfl (by kernel_rfl) (by kernel_rfl) (fun i h1 h2=>⟨rfl,by injection h1 with h1;subst h1;exact RP⟩) (fun d h=>by cases h)
def NG:TI U:=⟨2,.st,16,[(0,2),(1,2)],some (.st 14),true,[(1,.d (.int .i64) (0:Int)),(1,.d (.int .i64) (0:Int))],none⟩
theorem FE:aT U Tryz.prog 34 NG:=aL [.i .i64,.i .i64] rfl (by kernel_rfl) rfl (by kernel_rfl) (by kernel_rfl) ⟨_,rfl⟩ rfl (by kernel_rfl) (by kernel_rfl) (fun i h1 h2=>⟨rfl,by injection h1 with h1;subst h1;exact RQ⟩) (fun d h=>by cases h)
def NH:TI U:=⟨9,.st,96,[(0,3),(1,9),(2,2),(3,61),(6,30),(8,36)],some (.st 16),false,[(1,.d (.int .i64) (0:Int)),(1,.d .str ([]:List UInt8)),(1,.d (.int .i64) (0:Int)),(1,.d (.int .i64) (0:Int)),(1,.d (.int .u32) (0:Int)),(1,.d (.int .i64) (0:Int)),(1,.d (.int .u32) (0:Int)),(1,.d (.int .i64) (0:Int)),(1,.nils)],none⟩
theorem FF:aT U Tryz.prog 63 NH:=aL [.i .i64,.s,.i .i64,.i .i64,.i .u32,.i .i64,.i .u32,.i .i64,.l] rfl (by kernel_rfl) rfl (by kernel_rfl) (by kernel_rfl) ⟨_,rfl⟩ rfl (by kernel_rfl) (by kernel_rfl) (fun i h1 h2=>by cases h2) (fun d h=>by cases h)
def NI:TI U:=⟨1,.int .i64,8,[],some (.int .i64),false,[(1,.d (.int .i64) (0:Int))],none⟩
theorem FG:aT U Tryz.prog 50 NI:=aL [.i .i64] rfl (by kernel_rfl) rfl (by kernel_rfl) (by kernel_rfl) (show Tryz.prog.underlying 50=some (.int .i64)by kernel_rfl) (by kernel_rfl) (by kernel_rfl) (by kernel_rfl) (fun i h1 h2=>by cases h2) (fun d h=>by cases h)
def NJ:TI U:=⟨21,.st,216,[(0,43),(10,45),(18,3),(19,46),(20,28)],some (.st 17),false,[(1,.d (.int .i64) (0:Int)),(1,.d (.int .i64) (0:Int)),(1,.d (.int .u32) (0:Int)),(1,.d (.int .i64) (0:Int)),(1,.d (.int .i64) (0:Int)),(1,.d (.int .i64) (0:Int)),(1,.nils),(1,.nils),(1,.nils),(1,.nils),(1,.d (.int .u32) (0:Int)),(1,.d (.int .u32) (0:Int)),(1,.d (.int .u32) (0:Int)),(1,.d (.int .u32) (0:Int)),(1,.d (.int .u32) (0:Int)),(1,.d (.int .u32) (0:Int)),(1,.d (.int .u32) (0:Int)),(1,.d (.int .u32) (0:Int)),(1,.d (.int .i64) (0:Int)),(1,.nils),(1,.d (.int .u32) (0:Int))],none⟩
theorem FH:aT U Tryz.prog 48 NJ:=aL [.i .i64,.i .i64,.i .u32,.i .i64,.i .i64,.i .i64,.l,.l,.l,.l,.i .u32,.i .u32,.i .u32,.i .u32,.i .u32,.i .u32,.i .u32,.i .u32,.i .i64,.l,.i .u32] rfl (by kernel_rfl) rfl (by kernel_rfl) (by kernel_rfl) ⟨_,rfl⟩ rfl (by kernel_rfl) (by kernel_rfl) (fun i h1 h2=>by cases h2) (fun d h=>by cases h)
def NK:TI U:=⟨1,.sl 3,24,[],some (.sl (.int .i64)),false,[(1,.nils)],none⟩
theorem FI:aT U Tryz.prog 46 NK:=aL [.l] rfl (by kernel_rfl) rfl (by kernel_rfl) (by kernel_rfl) (show Tryz.prog.underlying 46=some (.slice 3)by kernel_rfl) (by kernel_rfl) (by kernel_rfl) (by kernel_rfl) (fun i h1 h2=>by cases h2) (fun d h=>by cases h)
def NM:TI U:=⟨3,.st,40,[(0,3),(1,2),(2,79)],some (.st 7),false,[(1,.d (.int .i64) (0:Int)),(1,.d (.int .i64) (0:Int)),(1,.nils)],none⟩
theorem FJ:aT U Tryz.prog 81 NM:=aL [.i .i64,.i .i64,.l] rfl (by kernel_rfl) rfl (by kernel_rfl) (by kernel_rfl) ⟨_,rfl⟩ rfl (by kernel_rfl) (by kernel_rfl) (fun i h1 h2=>by cases h2) (fun d h=>by cases h)
def NN:TI U:=⟨1,.sl 149,24,[],some (.sl (.st 6)),false,[(1,.nils)],none⟩
theorem FK:aT U Tryz.prog 79 NN:=aL [.l] rfl (by kernel_rfl) rfl (by kernel_rfl) (by kernel_rfl) (show Tryz.prog.underlying 79=some (.slice 149)by kernel_rfl) (by kernel_rfl) (by kernel_rfl) (by kernel_rfl) (fun i h1 h2=>by cases h2) (fun d h=>by cases h)
def GS:TI U:=⟨2,.st,24,[(0,9),(1,2)],some (.st 6),true,[(1,.d .str ([]:List UInt8)),(1,.d (.int .i64) (0:Int))],none⟩
theorem BZ:aT U Tryz.prog 149 GS:=aL [.s,.i .i64] rfl (by kernel_rfl) rfl (by kernel_rfl) (by kernel_rfl) ⟨_,rfl⟩ rfl (by kernel_rfl) (by kernel_rfl) (fun i h1 h2=>⟨rfl,by injection h1 with h1;subst h1;exact Nf⟩) (fun d h=>by cases h)
def GT:TI U:=⟨1,.int .u64,8,[],some (.int .u64),false,[(1,.d (.int .u64) (0:Int))],none⟩
theorem B0:aT U Tryz.prog 283 GT:=aL [.i .u64] rfl (by kernel_rfl) rfl (by kernel_rfl) (by kernel_rfl) (show Tryz.prog.underlying 283=some (.int .u64)by kernel_rfl) (by kernel_rfl) (by kernel_rfl) (by kernel_rfl) (fun i h1 h2=>by cases h2) (fun d h=>by cases h)
def NO:TI U:=⟨1,.sl 97,24,[],some (.sl (.st 9)),false,[(1,.nils)],none⟩
theorem FL:aT U Tryz.prog 86 NO:=aL [.l] rfl (by kernel_rfl) rfl (by kernel_rfl) (by kernel_rfl) (show Tryz.prog.underlying 86=some (.slice 97)by kernel_rfl) (by kernel_rfl) (by kernel_rfl) (by kernel_rfl) (fun i h1 h2=>by cases h2) (fun d h=>by cases h)
def NP:TI U:=⟨13,.st,104,[(0,59),(2,45),(10,3),(11,94),(12,95)],some (.st 9),false,[(1,.d (.int .i64) (0:Int)),(1,.d (.int .u32) (0:Int)),(1,.d (.int .u32) (0:Int)),(1,.d (.int .u32) (0:Int)),(1,.d (.int .u32) (0:Int)),(1,.d (.int .u32) (0:Int)),(1,.d (.int .u32) (0:Int)),(1,.d (.int .u32) (0:Int)),(1,.d (.int .u32) (0:Int)),(1,.d (.int .u32) (0:Int)),(1,.d (.int .i64) (0:Int)),(1,.nils),(1,.nils)],none⟩
theorem FM:aT U Tryz.prog 97 NP:=aL [.i .i64,.i .u32,.i .u32,.i .u32,.i .u32,.i .u32,.i .u32,.i .u32,.i .u32,.i .u32,.i .i64,.l,.l] rfl (by kernel_rfl) rfl (by kernel_rfl) (by kernel_rfl) ⟨_,rfl⟩ rfl (by kernel_rfl) (by kernel_rfl) (fun i h1 h2=>by cases h2) (fun d h=>by cases h)
def NQ:TI U:=⟨1,.sl 224,24,[],some (.sl (.st 3)),false,[(1,.nils)],none⟩
theorem FN:aT U Tryz.prog 94 NQ:=aL [.l] rfl (by kernel_rfl) rfl (by kernel_rfl) (by kernel_rfl) (show Tryz.prog.underlying 94=some (.slice 224)by kernel_rfl) (by kernel_rfl) (by kernel_rfl) (by kernel_rfl) (fun i h1 h2=>by cases h2) (fun d h=>by cases h)
def GU:TI U:=⟨17,.st,120,[(0,59),(2,45),(10,3),(11,9),(12,54),(15,30)],some (.st 3),false,[(1,.d (.int .i64) (0:Int)),(1,.d (.int .u32) (0:Int)),(1,.d (.int .u32) (0:Int)),(1,.d (.int .u32) (0:Int)),(1,.d (.int .u32) (0:Int)),(1,.d (.int .u32) (0:Int)),(1,.d (.int .u32) (0:Int)),(1,.d (.int .u32) (0:Int)),(1,.d (.int .u32) (0:Int)),(1,.d (.int .u32) (0:Int)),(1,.d (.int .i64) (0:Int)),(1,.d .str ([]:List UInt8)),(1,.d (.int .i64) (0:Int)),(1,.d .str ([]:List UInt8)),(1,.d (.int .i64) (0:Int)),(1,.d (.int .u32) (0:Int)),(1,.d (.int .i64) (0:Int))],none⟩
theorem B1:aT U Tryz.prog 224 GU:=aL [.i .i64,.i .u32,.i .u32,.i .u32,.i .u32,.i .u32,.i .u32,.i .u32,.i .u32,.i .u32,.i .i64,.s,.i .i64,.s,.i .i64,.i .u32,.i .i64] rfl (by kernel_rfl) rfl (by kernel_rfl) (by kernel_rfl) ⟨_,rfl⟩ rfl (by kernel_rfl) (by kernel_rfl) (fun i h1 h2=>by cases h2) (fun d h=>by cases h)
def NR:TI U:=⟨3,.st,32,[(0,3),(1,9),(2,2)],some (.st 1),true,[(1,.d (.int .i64) (0:Int)),(1,.d .str ([]:List UInt8)),(1,.d (.int .i64) (0:Int))],none⟩
theorem FO:aT U Tryz.prog 54 NR:=aL [.i .i64,.s,.i .i64] rfl (by kernel_rfl) rfl (by kernel_rfl) (by kernel_rfl) ⟨_,rfl⟩ rfl (by kernel_rfl) (by kernel_rfl) (fun i h1 h2=>⟨rfl,by injection h1 with h1;subst h1;exact RR⟩) (fun d h=>by cases h)
def NS:TI U:=⟨1,.sl 104,24,[],some (.sl (.st 8)),false,[(1,.nils)],none⟩
theorem FP:aT U Tryz.prog 95 NS:=aL [.l] rfl (by kernel_rfl) rfl (by kernel_rfl) (by kernel_rfl) (show Tryz.prog.underlying 95=some (.slice 104)by kernel_rfl) (by kernel_rfl) (by kernel_rfl) (by kernel_rfl) (fun i h1 h2=>by cases h2) (fun d h=>by cases h)
def GV:TI U:=⟨5,.st,64,[(0,9),(1,3),(2,81)],some (.st 8),false,[(1,.d .str ([]:List UInt8)),(1,.d (.int .i64) (0:Int)),(1,.d (.int .i64) (0:Int)),(1,.d (.int .i64) (0:Int)),(1,.nils)],none⟩
theorem B2:aT U Tryz.prog 104 GV:=aL [.s,.i .i64,.i .i64,.i .i64,.l] rfl (by kernel_rfl) rfl (by kernel_rfl) (by kernel_rfl) ⟨_,rfl⟩ rfl (by kernel_rfl) (by kernel_rfl) (fun i h1 h2=>by cases h2) (fun d h=>by cases h)
def GW:TI U:=⟨1,.int .u64,8,[],some (.int .u64),false,[(1,.d (.int .u64) (0:Int))],none⟩
theorem B3:aT U Tryz.prog 216 GW:=aL [.i .u64] rfl (by kernel_rfl) rfl (by kernel_rfl) (by kernel_rfl) (show Tryz.prog.underlying 216=some (.int .u64)by kernel_rfl) (by kernel_rfl) (by kernel_rfl) (by kernel_rfl) (fun i h1 h2=>by cases h2) (fun d h=>by cases h)
def GX:TI U:=⟨2,.st,32,[(0,91),(1,167)],none,false,[(1,.nils),(1,.nilm)],none⟩
theorem B4:aT U Tryz.prog 169 GX:=aL [.l,.m] rfl (by kernel_rfl) rfl (by kernel_rfl) (by kernel_rfl) ⟨_,rfl⟩ rfl (by kernel_rfl) (by kernel_rfl) (fun i h1 h2=>by cases h2) (fun d h=>by cases h)
def NT:TI U:=⟨1,.int .u64,8,[],some (.int .u64),false,[(1,.d (.int .u64) (0:Int))],none⟩
theorem FQ:aT U Tryz.prog 24 NT:=aL [.i .u64] rfl (by kernel_rfl) rfl (by kernel_rfl) (by kernel_rfl) (show Tryz.prog.underlying 24=some (.int .u64)by kernel_rfl) (by kernel_rfl) (by kernel_rfl) (by kernel_rfl) (fun i h1 h2=>by cases h2) (fun d h=>by cases h)
def GY:TI U:=⟨1,.fn,8,[],none,false,[(1,.nilf)],none⟩
theorem B5:aT U Tryz.prog 147 GY:=aL [.f] rfl (by kernel_rfl) rfl (by kernel_rfl) (by kernel_rfl) ⟨_,rfl⟩ (by kernel_rfl) (by kernel_rfl) (by kernel_rfl) (fun i h1 h2=>by cases h2) (fun d h=>by cases h)
def GZ:TI U:=⟨1,.fn,8,[],none,false,[(1,.nilf)],none⟩
theorem B6:aT U Tryz.prog 181 GZ:=aL [.f] rfl (by kernel_rfl) rfl (by kernel_rfl) (by kernel_rfl) ⟨_,rfl⟩ (by kernel_rfl) (by kernel_rfl) (by kernel_rfl) (fun i h1 h2=>by cases h2) (fun d h=>by cases h)
def G0:TI U:=⟨1,.ptr 3,8,[],none,false,[(1,.nilp)],none⟩
theorem B7:aT U Tryz.prog 287 G0:=aL [.p] rfl (by kernel_rfl) rfl (by kernel_rfl) (by kernel_rfl) (show Tryz.prog.underlying 287=some (.pointer 3)by kernel_rfl) (by kernel_rfl) (by kernel_rfl) (by kernel_rfl) (fun i h1 h2=>by cases h2) (fun d h=>by cases h)
def G1:TI U:=⟨1,.fn,8,[],none,false,[(1,.nilf)],none⟩
theorem B8:aT U Tryz.prog 161 G1:=aL [.f] rfl (by kernel_rfl) rfl (by kernel_rfl) (by kernel_rfl) ⟨_,rfl⟩ (by kernel_rfl) (by kernel_rfl) (by kernel_rfl) (fun i h1 h2=>by cases h2) (fun d h=>by cases h)
def G2:TI U:=⟨4,.st,4,[(0,4),(1,4),(2,4),(3,4)],some (.st 18),true,[(1,.d .bool false),(1,.d .bool false),(1,.d .bool false),(1,.d .bool false)],none⟩
theorem B9:aT U Tryz.prog 172 G2:=aL [.b,.b,.b,.b] rfl (by kernel_rfl) rfl (by kernel_rfl) (by kernel_rfl) ⟨_,rfl⟩ rfl (by kernel_rfl) (by kernel_rfl) (fun i h1 h2=>⟨rfl,by injection h1 with h1;subst h1;exact Ni⟩) (fun d h=>by cases h)
def SM:TI U:=⟨1,.int .u8,1,[],some (.int .u8),false,[(1,.d (.int .u8) (0:Int))],none⟩
theorem JY:aT U Tryz.prog 5 SM:=aL [.i .u8] rfl (by kernel_rfl) rfl (by kernel_rfl) (by kernel_rfl) (show Tryz.prog.underlying 5=some (.int .u8)by kernel_rfl) (by kernel_rfl) (by kernel_rfl) (by kernel_rfl) (fun i h1 h2=>by cases h2) (fun d h=>by cases h)
def NU:TI U:=⟨1,.sl 59,24,[],some (.sl (.st 0)),false,[(1,.nils)],none⟩
theorem FR:aT U Tryz.prog 88 NU:=aL [.l] rfl (by kernel_rfl) rfl (by kernel_rfl) (by kernel_rfl) (show Tryz.prog.underlying 88=some (.slice 59)by kernel_rfl) (by kernel_rfl) (by kernel_rfl) (by kernel_rfl) (fun i h1 h2=>by cases h2) (fun d h=>by cases h)
def G3:TI U:=⟨2,.arr 2 3,16,[],some (.arr 2 (.int .i64)),true,[(1,.d (.int .i64) (0:Int)),(1,.d (.int .i64) (0:Int))],none⟩
theorem Ca:aT U Tryz.prog 303 G3:=aL [.i .i64,.i .i64] rfl (by kernel_rfl) rfl (by kernel_rfl) (by kernel_rfl) (show Tryz.prog.underlying 303=some (.array 2 3)by kernel_rfl) (by kernel_rfl) (by kernel_rfl) (by kernel_rfl) (fun i h1 h2=>⟨rfl,by injection h1 with h1;subst h1;exact Nj⟩) (fun d h=>by cases h)
def G4:TI U:=⟨1,.sl 50,24,[],some (.sl (.int .i64)),false,[(1,.nils)],none⟩
theorem Cb:aT U Tryz.prog 244 G4:=aL [.l] rfl (by kernel_rfl) rfl (by kernel_rfl) (by kernel_rfl) (show Tryz.prog.underlying 244=some (.slice 50)by kernel_rfl) (by kernel_rfl) (by kernel_rfl) (by kernel_rfl) (fun i h1 h2=>by cases h2) (fun d h=>by cases h)
def G5:TI U:=⟨1,.sl 36,24,[],some (.sl (.sl (.st 4))),false,[(1,.nils)],none⟩
theorem Cc:aT U Tryz.prog 249 G5:=aL [.l] rfl (by kernel_rfl) rfl (by kernel_rfl) (by kernel_rfl) (show Tryz.prog.underlying 249=some (.slice 36)by kernel_rfl) (by kernel_rfl) (by kernel_rfl) (by kernel_rfl) (fun i h1 h2=>by cases h2) (fun d h=>by cases h)
def G6:TI U:=⟨1,.int .i64,8,[],some (.int .i64),false,[(1,.d (.int .i64) (0:Int))],none⟩
theorem Cd:aT U Tryz.prog 261 G6:=aL [.i .i64] rfl (by kernel_rfl) rfl (by kernel_rfl) (by kernel_rfl) (show Tryz.prog.underlying 261=some (.int .i64)by kernel_rfl) (by kernel_rfl) (by kernel_rfl) (by kernel_rfl) (fun i h1 h2=>by cases h2) (fun d h=>by cases h)
def NV:TI U:=⟨63,.arr 3 48,648,[],some (.arr 3 (.st 17)),false,[(1,.d (.int .i64) (0:Int)),(1,.d (.int .i64) (0:Int)),(1,.d (.int .u32) (0:Int)),(1,.d (.int .i64) (0:Int)),(1,.d (.int .i64) (0:Int)),(1,.d (.int .i64) (0:Int)),(1,.nils),(1,.nils),(1,.nils),(1,.nils),(1,.d (.int .u32) (0:Int)),(1,.d (.int .u32) (0:Int)),(1,.d (.int .u32) (0:Int)),(1,.d (.int .u32) (0:Int)),(1,.d (.int .u32) (0:Int)),(1,.d (.int .u32) (0:Int)),(1,.d (.int .u32) (0:Int)),(1,.d (.int .u32) (0:Int)),(1,.d (.int .i64) (0:Int)),(1,.nils),(1,.d (.int .u32) (0:Int)),(1,.d (.int .i64) (0:Int)),(1,.d (.int .i64) (0:Int)),(1,.d (.int .u32) (0:Int)),(1,.d (.int .i64) (0:Int)),(1,.d (.int .i64) (0:Int)),(1,.d (.int .i64) (0:Int)),(1,.nils),(1,.nils),(1,.nils),(1,.nils),(1,.d (.int .u32) (0:Int)),(1,.d (.int .u32) (0:Int)),(1,.d (.int .u32) (0:Int)),(1,.d (.int .u32) (0:Int)),(1,.d (.int .u32) (0:Int)),(1,.d (.int .u32) (0:Int)),(1,.d (.int .u32) (0:Int)),(1,.d (.int .u32) (0:Int)),(1,.d (.int .i64) (0:Int)),(1,.nils),(1,.d (.int .u32) (0:Int)),(1,.d (.int .i64) (0:Int)),(1,.d (.int .i64) (0:Int)),(1,.d (.int .u32) (0:Int)),(1,.d (.int .i64) (0:Int)),(1,.d (.int .i64) (0:Int)),(1,.d (.int .i64) (0:Int)),(1,.nils),(1,.nils),(1,.nils),(1,.nils),(1,.d (.int .u32) (0:Int)),(1,.d (.int .u32) (0:Int)),(1,.d (.int .u32) (0:Int)),(1,.d (.int .u32) (0:Int)),(1,.d (.int .u32) (0:Int)),(1,.d (.int .u32) (0:Int)),(1,.d (.int .u32) (0:Int)),(1,.d (.int .u32) (0:Int)),(1,.d (.int .i64) (0:Int)),(1,.nils),(1,.d (.int .u32) (0:Int))],none⟩
theorem FS:aT U Tryz.prog 49 NV:=aL [.i .i64,.i .i64,.i .u32,.i .i64,.i .i64,.i .i64,.l,.l,.l,.l,.i .u32,.i .u32,.i .u32,.i .u32,.i .u32,.i .u32,.i .u32,.i .u32,.i .i64,.l,.i .u32,.i .i64,.i .i64,.i .u32,.i .i64,.i .i64,.i .i64,.l,.l,.l,.l,.i .u32,.i .u32,.i .u32,.i .u32,.i .u32,.i .u32,.i .u32,.i .u32,.i .i64,.l,.i .u32,.i .i64,.i .i64,.i .u32,.i .i64,.i .i64,.i .i64,.l,.l,.l,.l,.i .u32,.i .u32,.i .u32,.i .u32,.i .u32,.i .u32,.i .u32,.i .u32,.i .i64,.l,.i .u32] rfl (by kernel_rfl) rfl (by kernel_rfl) (by kernel_rfl) (show Tryz.prog.underlying 49=some (.array 3 48)by kernel_rfl) (by kernel_rfl) (by kernel_rfl) (by kernel_rfl) (fun i h1 h2=>by cases h2) (fun d h=>by cases h)
def NW:TI U:=⟨1,.sl 56,24,[],some (.sl (.st 19)),false,[(1,.nils)],none⟩
theorem FT:aT U Tryz.prog 22 NW:=aL [.l] rfl (by kernel_rfl) rfl (by kernel_rfl) (by kernel_rfl) (show Tryz.prog.underlying 22=some (.slice 56)by kernel_rfl) (by kernel_rfl) (by kernel_rfl) (by kernel_rfl) (fun i h1 h2=>by cases h2) (fun d h=>by cases h)
def NX:TI U:=⟨6,.st,56,[(0,3),(1,3),(2,3),(3,54)],some (.st 19),true,[(1,.d (.int .i64) (0:Int)),(1,.d (.int .i64) (0:Int)),(1,.d (.int .i64) (0:Int)),(1,.d (.int .i64) (0:Int)),(1,.d .str ([]:List UInt8)),(1,.d (.int .i64) (0:Int))],none⟩
theorem FU:aT U Tryz.prog 56 NX:=aL [.i .i64,.i .i64,.i .i64,.i .i64,.s,.i .i64] rfl (by kernel_rfl) rfl (by kernel_rfl) (by kernel_rfl) ⟨_,rfl⟩ rfl (by kernel_rfl) (by kernel_rfl) (fun i h1 h2=>⟨rfl,by injection h1 with h1;subst h1;exact RS⟩) (fun d h=>by cases h)
def G7:TI U:=⟨1,.fn,8,[],none,false,[(1,.nilf)],none⟩
theorem Ce:aT U Tryz.prog 154 G7:=aL [.f] rfl (by kernel_rfl) rfl (by kernel_rfl) (by kernel_rfl) ⟨_,rfl⟩ (by kernel_rfl) (by kernel_rfl) (by kernel_rfl) (fun i h1 h2=>by cases h2) (fun d h=>by cases h)
def G8:TI U:=⟨1,.fn,8,[],none,false,[(1,.nilf)],none⟩
theorem Cf:aT U Tryz.prog 115 G8:=aL [.f] rfl (by kernel_rfl) rfl (by kernel_rfl) (by kernel_rfl) ⟨_,rfl⟩ (by kernel_rfl) (by kernel_rfl) (by kernel_rfl) (fun i h1 h2=>by cases h2) (fun d h=>by cases h)
def G9:TI U:=⟨1,.sl 2,24,[],some (.sl (.int .i64)),false,[(1,.nils)],none⟩
theorem Cg:aT U Tryz.prog 276 G9:=aL [.l] rfl (by kernel_rfl) rfl (by kernel_rfl) (by kernel_rfl) (show Tryz.prog.underlying 276=some (.slice 2)by kernel_rfl) (by kernel_rfl) (by kernel_rfl) (by kernel_rfl) (fun i h1 h2=>by cases h2) (fun d h=>by cases h)
def Hd:TI U:=⟨1,.sl 26,24,[],some (.sl (.sl (.st 3))),false,[(1,.nils)],none⟩
theorem Ch:aT U Tryz.prog 300 Hd:=aL [.l] rfl (by kernel_rfl) rfl (by kernel_rfl) (by kernel_rfl) (show Tryz.prog.underlying 300=some (.slice 26)by kernel_rfl) (by kernel_rfl) (by kernel_rfl) (by kernel_rfl) (fun i h1 h2=>by cases h2) (fun d h=>by cases h)
def He:TI U:=⟨1,.fn,8,[],none,false,[(1,.nilf)],none⟩
theorem Ci:aT U Tryz.prog 198 He:=aL [.f] rfl (by kernel_rfl) rfl (by kernel_rfl) (by kernel_rfl) ⟨_,rfl⟩ (by kernel_rfl) (by kernel_rfl) (by kernel_rfl) (fun i h1 h2=>by cases h2) (fun d h=>by cases h)
def NY:TI U:=⟨1,.sl 63,24,[],some (.sl (.st 16)),false,[(1,.nils)],none⟩
theorem FV:aT U Tryz.prog 27 NY:=aL [.l] rfl (by kernel_rfl) rfl (by kernel_rfl) (by kernel_rfl) (show Tryz.prog.underlying 27=some (.slice 63)by kernel_rfl) (by kernel_rfl) (by kernel_rfl) (by kernel_rfl) (fun i h1 h2=>by cases h2) (fun d h=>by cases h)
def Hg:TI U:=⟨1,.fn,8,[],none,false,[(1,.nilf)],none⟩
theorem Cj:aT U Tryz.prog 158 Hg:=aL [.f] rfl (by kernel_rfl) rfl (by kernel_rfl) (by kernel_rfl) ⟨_,rfl⟩ (by kernel_rfl) (by kernel_rfl) (by kernel_rfl) (fun i h1 h2=>by cases h2) (fun d h=>by cases h)
def Hh:TI U:=⟨1,.fn,8,[],none,false,[(1,.nilf)],none⟩
theorem Ck:aT U Tryz.prog 205 Hh:=aL [.f] rfl (by kernel_rfl) rfl (by kernel_rfl) (by kernel_rfl) ⟨_,rfl⟩ (by kernel_rfl) (by kernel_rfl) (by kernel_rfl) (fun i h1 h2=>by cases h2) (fun d h=>by cases h)
def NZ:TI U:=⟨1,.int .i32,4,[],some (.int .i32),false,[(1,.d (.int .i32) (0:Int))],none⟩
theorem FW:aT U Tryz.prog 21 NZ:=aL [.i .i32] rfl (by kernel_rfl) rfl (by kernel_rfl) (by kernel_rfl) (show Tryz.prog.underlying 21=some (.int .i32)by kernel_rfl) (by kernel_rfl) (by kernel_rfl) (by kernel_rfl) (fun i h1 h2=>by cases h2) (fun d h=>by cases h)
def Hi:TI U:=⟨1,.fn,8,[],none,false,[(1,.nilf)],none⟩
theorem Cm:aT U Tryz.prog 209 Hi:=aL [.f] rfl (by kernel_rfl) rfl (by kernel_rfl) (by kernel_rfl) ⟨_,rfl⟩ (by kernel_rfl) (by kernel_rfl) (by kernel_rfl) (fun i h1 h2=>by cases h2) (fun d h=>by cases h)
def Hj:TI U:=⟨2,.arr 2 2,16,[],some (.arr 2 (.int .i64)),true,[(1,.d (.int .i64) (0:Int)),(1,.d (.int .i64) (0:Int))],none⟩
theorem Cn:aT U Tryz.prog 245 Hj:=aL [.i .i64,.i .i64] rfl (by kernel_rfl) rfl (by kernel_rfl) (by kernel_rfl) (show Tryz.prog.underlying 245=some (.array 2 2)by kernel_rfl) (by kernel_rfl) (by kernel_rfl) (by kernel_rfl) (fun i h1 h2=>⟨rfl,by injection h1 with h1;subst h1;exact Nm⟩) (fun d h=>by cases h)
def N0:TI U:=⟨1,.ptr 48,8,[],none,false,[(1,.nilp)],none⟩
theorem FX:aT U Tryz.prog 57 N0:=aL [.p] rfl (by kernel_rfl) rfl (by kernel_rfl) (by kernel_rfl) (show Tryz.prog.underlying 57=some (.pointer 48)by kernel_rfl) (by kernel_rfl) (by kernel_rfl) (by kernel_rfl) (fun i h1 h2=>by cases h2) (fun d h=>by cases h)
def Hl:TI U:=⟨1,.fn,8,[],none,false,[(1,.nilf)],none⟩
theorem Co:aT U Tryz.prog 163 Hl:=aL [.f] rfl (by kernel_rfl) rfl (by kernel_rfl) (by kernel_rfl) ⟨_,rfl⟩ (by kernel_rfl) (by kernel_rfl) (by kernel_rfl) (fun i h1 h2=>by cases h2) (fun d h=>by cases h)
def Hm:TI U:=⟨1,.fn,8,[],none,false,[(1,.nilf)],none⟩
theorem Cp:aT U Tryz.prog 193 Hm:=aL [.f] rfl (by kernel_rfl) rfl (by kernel_rfl) (by kernel_rfl) ⟨_,rfl⟩ (by kernel_rfl) (by kernel_rfl) (by kernel_rfl) (fun i h1 h2=>by cases h2) (fun d h=>by cases h)
def Hn:TI U:=⟨1,.fn,8,[],none,false,[(1,.nilf)],none⟩
theorem Cq:aT U Tryz.prog 241 Hn:=aL [.f] rfl (by kernel_rfl) rfl (by kernel_rfl) (by kernel_rfl) ⟨_,rfl⟩ (by kernel_rfl) (by kernel_rfl) (by kernel_rfl) (fun i h1 h2=>by cases h2) (fun d h=>by cases h)
def cS:KD U:=⟨59,3,.st 0,.int .i64,(inferInstance:DecidableEq bC),(fun x:bC=>Value.agg (BL x).toArray),(0:Int)⟩
theorem JZ:Di Tryz.prog U cS:=⟨zh (α:=bC) ⟨_,rfl⟩ (by kernel_rfl) (BV) (fun em x w=>by kernel_rfl) (fun x=>rfl),fun Y S x vs v hd ha=>by rw[BM hd]at ha;exact ha,oL BW (Eq.refl _) (by kernel_rfl)⟩
def Ho:TI U:=⟨1,.mp 59 3,8,[],none,false,[(1,.nilm)],some cS⟩
theorem Cr:aT U Tryz.prog 167 Ho:=aL [.m] rfl (by kernel_rfl) rfl (by kernel_rfl) (by kernel_rfl) (show Tryz.prog.underlying 167=some (.map 59 3)by kernel_rfl) (by kernel_rfl) (by kernel_rfl) (by kernel_rfl) (fun i h1 h2=>by cases h2) (fun d h=>by injection h with h;subst h;exact⟨JZ,by kernel_rfl⟩)
def qt:KD U:=⟨9,70,.str,.st 3,(inferInstance:DecidableEq (List UInt8)),(fun x:List UInt8=>sv x),(⟨⟨0,0⟩,[0,0,0,0,0,0,0,0],0,[],⟨0,[],0⟩,⟨0,0⟩⟩:ak)⟩
theorem J0:Di Tryz.prog U qt:=⟨fM.str (by kernel_rfl),fun Y S x vs v hd ha=>by have e:=(aC.inv hd).1;rw[e]at ha;exact(List.cons.inj ha).1.symm,oL lD (Eq.refl _) (by kernel_rfl)⟩
def Hq:TI U:=⟨1,.mp 9 70,8,[],none,false,[(1,.nilm)],some qt⟩
theorem Ct:aT U Tryz.prog 138 Hq:=aL [.m] rfl (by kernel_rfl) rfl (by kernel_rfl) (by kernel_rfl) (show Tryz.prog.underlying 138=some (.map 9 70)by kernel_rfl) (by kernel_rfl) (by kernel_rfl) (by kernel_rfl) (fun i h1 h2=>by cases h2) (fun d h=>by injection h with h;subst h;exact⟨J0,by kernel_rfl⟩)
def u4:KD U:=⟨9,133,.str,.st 5,(inferInstance:DecidableEq (List UInt8)),(fun x:List UInt8=>sv x),(⟨⟨⟨0,0⟩,0⟩,[],0,⟨0,0⟩⟩:bK)⟩
theorem J1:Di Tryz.prog U u4:=⟨fM.str (by kernel_rfl),fun Y S x vs v hd ha=>by have e:=(aC.inv hd).1;rw[e]at ha;exact(List.cons.inj ha).1.symm,oL kU (Eq.refl _) (by kernel_rfl)⟩
def Hr:TI U:=⟨1,.mp 9 133,8,[],none,false,[(1,.nilm)],some u4⟩
theorem Cu:aT U Tryz.prog 219 Hr:=aL [.m] rfl (by kernel_rfl) rfl (by kernel_rfl) (by kernel_rfl) (show Tryz.prog.underlying 219=some (.map 9 133)by kernel_rfl) (by kernel_rfl) (by kernel_rfl) (by kernel_rfl) (fun i h1 h2=>by cases h2) (fun d h=>by injection h with h;subst h;exact⟨J1,by kernel_rfl⟩)
def yW:KD U:=⟨59,45,.st 0,.arr 8 (.int .u32),(inferInstance:DecidableEq bC),(fun x:bC=>Value.agg (BL x).toArray),([0,0,0,0,0,0,0,0]:List (Int))⟩
theorem N1:Di Tryz.prog U yW:=⟨zh (α:=bC) ⟨_,rfl⟩ (by kernel_rfl) (BV) (fun em x w=>by kernel_rfl) (fun x=>rfl),fun Y S x vs v hd ha=>by rw[BM hd]at ha;exact ha,oL xU (Eq.refl _) (by kernel_rfl)⟩
def N2:TI U:=⟨1,.mp 59 45,8,[],none,false,[(1,.nilm)],some yW⟩
theorem FY:aT U Tryz.prog 93 N2:=aL [.m] rfl (by kernel_rfl) rfl (by kernel_rfl) (by kernel_rfl) (show Tryz.prog.underlying 93=some (.map 59 45)by kernel_rfl) (by kernel_rfl) (by kernel_rfl) (by kernel_rfl) (fun i h1 h2=>by cases h2) (fun d h=>by injection h with h;subst h;exact⟨N1,by kernel_rfl⟩)
def SN:cW U:= [(3,SI),(9,SJ),(110,GL),(59,Nn),(28,No),(45,Np),(26,Nq),(70,Nr),(66,Ns),(2,SK),(30,Nt),(108,GM),(107,GN),(75,Nu),(73,Nv),(144,GO),(36,Nw),(61,Nx),(91,Ny),(25,Nz),(4,SL),(35,NA),(128,GQ),(38,NB),(39,NC),(133,GR),(41,ND),(43,NE),(32,NF),(34,NG),(63,NH),(50,NI),(48,NJ),(46,NK),(81,NM),(79,NN),(149,GS),(283,GT),(86,NO),(97,NP),(94,NQ),(224,GU),(54,NR),(95,NS),(104,GV),(216,GW),(169,GX),(167,Ho),(24,NT),(147,GY),(181,GZ),(287,G0),(161,G1),(172,G2),(5,SM),(88,NU),(303,G3),(244,G4),(249,G5),(261,G6),(49,NV),(22,NW),(56,NX),(154,G7),(115,G8),(276,G9),(300,Hd),(198,He),(27,NY),(138,Hq),(219,Hr),(93,N2),(158,Hg),(205,Hh),(21,NZ),(209,Hi),(245,Hj),(57,N0),(163,Hl),(193,Hm),(241,Hn)]
theorem bP:bf U Tryz.prog SN:=am BW (am JV (am kR (am Fj (am Fl (am xU (am Fm (am lD (am Fo (am JW (am Fp (am BX (am BY (am Fs (am Ft (am uZ (am Fu (am lE (am Fv (am Fx (am JX (am Fy (am kT (am Fz (am FA (am kU (am FB (am FC (am FD (am FE (am FF (am FG (am FH (am FI (am FJ (am FK (am BZ (am B0 (am FL (am FM (am FN (am B1 (am FO (am FP (am B2 (am B3 (am B4 (am Cr (am FQ (am B5 (am B6 (am B7 (am B8 (am B9 (am JY (am FR (am Ca (am Cb (am Cc (am Cd (am FS (am FT (am FU (am Ce (am Cf (am Cg (am Ch (am Ci (am FV (am Ct (am Cu (am FY (am Cj (am Ck (am FW (am Cm (am Cn (am FX (am Co (am Cp (am Cq (CQ)))))))))))))))))))))))))))))))))))))))))))))))))))))))))))))))))))))))))))))))))
end Go.Proofs.YtmpeiadlohbikaaGreatDoor.V

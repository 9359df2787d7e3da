/- Types of this seat as data: printed by ai.py. -/
import Derived.Test.YtmpeiadlohbikaaGreatDoorAx12
import Derived.Test.YtmpeiadlohbikaaGreatDoorProg
set_option linter.unusedVariables false
set_option linter.unusedSimpArgs false
set_option maxRecDepth 20000
namespace Go.Proofs.YtmpeiadlohbikaaGreatDoor.V
open Go.RowKit
structure bD where
 origin:Int
 seq:Int
deriving DecidableEq,Inhabited
structure ld where
 act:Int
 name:List UInt8
 val:Int
deriving DecidableEq,Inhabited
structure aV where
 time:Int
 origin:Int
deriving DecidableEq,Inhabited
structure aj where
 id:bD
 deps:List (Int)
 n:Int
 key:List UInt8
 op:ld
 at_:aV
deriving DecidableEq,Inhabited
structure az where
 id:bD
 n:Int
deriving DecidableEq,Inhabited
structure bF where
 tag:az
 field:List UInt8
 val:Int
 at_:aV
deriving DecidableEq,Inhabited
structure au where
 field:List UInt8
 val:Int
deriving DecidableEq,Inhabited
structure aF where
 kind:Int
 val:Int
 items:List (au)
deriving DecidableEq,Inhabited
structure cA where
 key:List UInt8
 n:Int
 v:aF
deriving DecidableEq,Inhabited
structure ao where
 id:bD
 deps:List (Int)
 group:Int
 ops:List (aj)
 looks:List (cA)
deriving DecidableEq,Inhabited
structure bS where
 tag:az
 elem:List UInt8
deriving DecidableEq,Inhabited
structure co where
 adds:List (bS)
 gone:List (az)
deriving DecidableEq,Inhabited
structure cL where
 puts:List (bF)
 gone:List (az)
deriving DecidableEq,Inhabited
structure eU where
 val:Int
 at_:aV
deriving DecidableEq,Inhabited
structure dW where
 plus:Int
 minus:Int
deriving DecidableEq,Inhabited
structure dD where
 kind:Int
 reg:eU
 num:dW
 set:co
 map:cL
deriving DecidableEq,Inhabited
structure cU where
 act:Int
 name:List UInt8
 val:Int
 tag:az
 at_:aV
 tags:List (az)
deriving DecidableEq,Inhabited
structure ub where
 s:dD
 v:List (Int)
 n:Int
 has:List (Int)
 time:Int
deriving DecidableEq,Inhabited
structure g7 where
 name:Bool
 val:Bool
 at_:Bool
 tags:Bool
deriving DecidableEq,Inhabited
structure pQ where
 kind:Int
 who:Int
 from_:Int
 op:ld
deriving DecidableEq,Inhabited
def ty:Nat→Type|0=>bD|1=>ld|2=>aV|3=>aj|4=>az|5=>bF|6=>au|7=>aF|8=>cA|9=>ao|10=>bS|11=>co|12=>cL|13=>eU|14=>dW|15=>dD|16=>cU|17=>ub|18=>g7|19=>pQ|_=>Unit
def Tr:RD ty bD where
 sz:=2
 fs:= [(1,.int .i64),(1,.int .u32)]
 to x:=(x.origin,x.seq,())
 toK x K:=K (x.origin,x.seq,())
 ofK:=fun(a0,a1,_) K=>K ⟨a0,a1⟩
 ixK l q K:=K (ix l q)
 eqK a b K:=K (decide (a=b))
 sz_ok:=rfl
 toK_ok _ _ h:=h
 ofK_ok:=fun(a0,a1,_) K h=>⟨_,h,rfl⟩
 ixK_ok l q K h:=⟨_,h,fun y hy=>by unfold ix;rw[hy];rfl⟩
 eqK_ok a b K h:=⟨_,h,by simp⟩
def Ts:RD ty ld where
 sz:=3
 fs:= [(1,.int .i64),(1,.str),(1,.int .i64)]
 to x:=(x.act,x.name,x.val,())
 toK x K:=K (x.act,x.name,x.val,())
 ofK:=fun(a0,a1,a2,_) K=>K ⟨a0,a1,a2⟩
 ixK l q K:=K (ix l q)
 eqK a b K:=K (decide (a=b))
 sz_ok:=rfl
 toK_ok _ _ h:=h
 ofK_ok:=fun(a0,a1,a2,_) K h=>⟨_,h,rfl⟩
 ixK_ok l q K h:=⟨_,h,fun y hy=>by unfold ix;rw[hy];rfl⟩
 eqK_ok a b K h:=⟨_,h,by simp⟩
def Tt:RD ty aV where
 sz:=2
 fs:= [(1,.int .u32),(1,.int .i64)]
 to x:=(x.time,x.origin,())
 toK x K:=K (x.time,x.origin,())
 ofK:=fun(a0,a1,_) K=>K ⟨a0,a1⟩
 ixK l q K:=K (ix l q)
 eqK a b K:=K (decide (a=b))
 sz_ok:=rfl
 toK_ok _ _ h:=h
 ofK_ok:=fun(a0,a1,_) K h=>⟨_,h,rfl⟩
 ixK_ok l q K h:=⟨_,h,fun y hy=>by unfold ix;rw[hy];rfl⟩
 eqK_ok a b K h:=⟨_,h,by simp⟩
def Tu:RD ty aj where
 sz:=17
 fs:= [(2,.st 0),(8,.arr 8 (.int .u32)),(1,.int .i64),(1,.str),(3,.st 1),(2,.st 2)]
 to x:=(x.id,x.deps,x.n,x.key,x.op,x.at_,())
 toK x K:=K (x.id,x.deps,x.n,x.key,x.op,x.at_,())
 ofK:=fun(a0,a1,a2,a3,a4,a5,_) K=>K ⟨a0,a1,a2,a3,a4,a5⟩
 ixK l q K:=K (ix l q)
 eqK a b K:=K (decide (a=b))
 sz_ok:=rfl
 toK_ok _ _ h:=h
 ofK_ok:=fun(a0,a1,a2,a3,a4,a5,_) K h=>⟨_,h,rfl⟩
 ixK_ok l q K h:=⟨_,h,fun y hy=>by unfold ix;rw[hy];rfl⟩
 eqK_ok a b K h:=⟨_,h,by simp⟩
def Tv:RD ty az where
 sz:=3
 fs:= [(2,.st 0),(1,.int .i64)]
 to x:=(x.id,x.n,())
 toK x K:=K (x.id,x.n,())
 ofK:=fun(a0,a1,_) K=>K ⟨a0,a1⟩
 ixK l q K:=K (ix l q)
 eqK a b K:=K (decide (a=b))
 sz_ok:=rfl
 toK_ok _ _ h:=h
 ofK_ok:=fun(a0,a1,_) K h=>⟨_,h,rfl⟩
 ixK_ok l q K h:=⟨_,h,fun y hy=>by unfold ix;rw[hy];rfl⟩
 eqK_ok a b K h:=⟨_,h,by simp⟩
def Tw:RD ty bF where
 sz:=7
 fs:= [(3,.st 4),(1,.str),(1,.int .i64),(2,.st 2)]
 to x:=(x.tag,x.field,x.val,x.at_,())
 toK x K:=K (x.tag,x.field,x.val,x.at_,())
 ofK:=fun(a0,a1,a2,a3,_) K=>K ⟨a0,a1,a2,a3⟩
 ixK l q K:=K (ix l q)
 eqK a b K:=K (decide (a=b))
 sz_ok:=rfl
 toK_ok _ _ h:=h
 ofK_ok:=fun(a0,a1,a2,a3,_) K h=>⟨_,h,rfl⟩
 ixK_ok l q K h:=⟨_,h,fun y hy=>by unfold ix;rw[hy];rfl⟩
 eqK_ok a b K h:=⟨_,h,by simp⟩
def Tx:RD ty au where
 sz:=2
 fs:= [(1,.str),(1,.int .i64)]
 to x:=(x.field,x.val,())
 toK x K:=K (x.field,x.val,())
 ofK:=fun(a0,a1,_) K=>K ⟨a0,a1⟩
 ixK l q K:=K (ix l q)
 eqK a b K:=K (decide (a=b))
 sz_ok:=rfl
 toK_ok _ _ h:=h
 ofK_ok:=fun(a0,a1,_) K h=>⟨_,h,rfl⟩
 ixK_ok l q K h:=⟨_,h,fun y hy=>by unfold ix;rw[hy];rfl⟩
 eqK_ok a b K h:=⟨_,h,by simp⟩
def Ty:RD ty aF where
 sz:=3
 fs:= [(1,.int .i64),(1,.int .i64),(1,.sl (.st 6))]
 to x:=(x.kind,x.val,x.items,())
 toK x K:=K (x.kind,x.val,x.items,())
 ofK:=fun(a0,a1,a2,_) K=>K ⟨a0,a1,a2⟩
 ixK l q K:=K (ix l q)
 eqK a b K:=K (decide (a=b))
 sz_ok:=rfl
 toK_ok _ _ h:=h
 ofK_ok:=fun(a0,a1,a2,_) K h=>⟨_,h,rfl⟩
 ixK_ok l q K h:=⟨_,h,fun y hy=>by unfold ix;rw[hy];rfl⟩
 eqK_ok a b K h:=⟨_,h,by simp⟩
def Tz:RD ty cA where
 sz:=5
 fs:= [(1,.str),(1,.int .i64),(3,.st 7)]
 to x:=(x.key,x.n,x.v,())
 toK x K:=K (x.key,x.n,x.v,())
 ofK:=fun(a0,a1,a2,_) K=>K ⟨a0,a1,a2⟩
 ixK l q K:=K (ix l q)
 eqK a b K:=K (decide (a=b))
 sz_ok:=rfl
 toK_ok _ _ h:=h
 ofK_ok:=fun(a0,a1,a2,_) K h=>⟨_,h,rfl⟩
 ixK_ok l q K h:=⟨_,h,fun y hy=>by unfold ix;rw[hy];rfl⟩
 eqK_ok a b K h:=⟨_,h,by simp⟩
def TA:RD ty ao where
 sz:=13
 fs:= [(2,.st 0),(8,.arr 8 (.int .u32)),(1,.int .i64),(1,.sl (.st 3)),(1,.sl (.st 8))]
 to x:=(x.id,x.deps,x.group,x.ops,x.looks,())
 toK x K:=K (x.id,x.deps,x.group,x.ops,x.looks,())
 ofK:=fun(a0,a1,a2,a3,a4,_) K=>K ⟨a0,a1,a2,a3,a4⟩
 ixK l q K:=K (ix l q)
 eqK a b K:=K (decide (a=b))
 sz_ok:=rfl
 toK_ok _ _ h:=h
 ofK_ok:=fun(a0,a1,a2,a3,a4,_) K h=>⟨_,h,rfl⟩
 ixK_ok l q K h:=⟨_,h,fun y hy=>by unfold ix;rw[hy];rfl⟩
 eqK_ok a b K h:=⟨_,h,by simp⟩
def PO:RD ty bS where
 sz:=4
 fs:= [(3,.st 4),(1,.str)]
 to x:=(x.tag,x.elem,())
 toK x K:=K (x.tag,x.elem,())
 ofK:=fun(a0,a1,_) K=>K ⟨a0,a1⟩
 ixK l q K:=K (ix l q)
 eqK a b K:=K (decide (a=b))
 sz_ok:=rfl
 toK_ok _ _ h:=h
 ofK_ok:=fun(a0,a1,_) K h=>⟨_,h,rfl⟩
 ixK_ok l q K h:=⟨_,h,fun y hy=>by unfold ix;rw[hy];rfl⟩
 eqK_ok a b K h:=⟨_,h,by simp⟩
def PQ:RD ty co where
 sz:=2
 fs:= [(1,.sl (.st 10)),(1,.sl (.st 4))]
 to x:=(x.adds,x.gone,())
 toK x K:=K (x.adds,x.gone,())
 ofK:=fun(a0,a1,_) K=>K ⟨a0,a1⟩
 ixK l q K:=K (ix l q)
 eqK a b K:=K (decide (a=b))
 sz_ok:=rfl
 toK_ok _ _ h:=h
 ofK_ok:=fun(a0,a1,_) K h=>⟨_,h,rfl⟩
 ixK_ok l q K h:=⟨_,h,fun y hy=>by unfold ix;rw[hy];rfl⟩
 eqK_ok a b K h:=⟨_,h,by simp⟩
def PR:RD ty cL where
 sz:=2
 fs:= [(1,.sl (.st 5)),(1,.sl (.st 4))]
 to x:=(x.puts,x.gone,())
 toK x K:=K (x.puts,x.gone,())
 ofK:=fun(a0,a1,_) K=>K ⟨a0,a1⟩
 ixK l q K:=K (ix l q)
 eqK a b K:=K (decide (a=b))
 sz_ok:=rfl
 toK_ok _ _ h:=h
 ofK_ok:=fun(a0,a1,_) K h=>⟨_,h,rfl⟩
 ixK_ok l q K h:=⟨_,h,fun y hy=>by unfold ix;rw[hy];rfl⟩
 eqK_ok a b K h:=⟨_,h,by simp⟩
def PS:RD ty eU where
 sz:=3
 fs:= [(1,.int .i64),(2,.st 2)]
 to x:=(x.val,x.at_,())
 toK x K:=K (x.val,x.at_,())
 ofK:=fun(a0,a1,_) K=>K ⟨a0,a1⟩
 ixK l q K:=K (ix l q)
 eqK a b K:=K (decide (a=b))
 sz_ok:=rfl
 toK_ok _ _ h:=h
 ofK_ok:=fun(a0,a1,_) K h=>⟨_,h,rfl⟩
 ixK_ok l q K h:=⟨_,h,fun y hy=>by unfold ix;rw[hy];rfl⟩
 eqK_ok a b K h:=⟨_,h,by simp⟩
def PT:RD ty dW where
 sz:=2
 fs:= [(1,.int .i64),(1,.int .i64)]
 to x:=(x.plus,x.minus,())
 toK x K:=K (x.plus,x.minus,())
 ofK:=fun(a0,a1,_) K=>K ⟨a0,a1⟩
 ixK l q K:=K (ix l q)
 eqK a b K:=K (decide (a=b))
 sz_ok:=rfl
 toK_ok _ _ h:=h
 ofK_ok:=fun(a0,a1,_) K h=>⟨_,h,rfl⟩
 ixK_ok l q K h:=⟨_,h,fun y hy=>by unfold ix;rw[hy];rfl⟩
 eqK_ok a b K h:=⟨_,h,by simp⟩
def PU:RD ty dD where
 sz:=10
 fs:= [(1,.int .i64),(3,.st 13),(2,.st 14),(2,.st 11),(2,.st 12)]
 to x:=(x.kind,x.reg,x.num,x.set,x.map,())
 toK x K:=K (x.kind,x.reg,x.num,x.set,x.map,())
 ofK:=fun(a0,a1,a2,a3,a4,_) K=>K ⟨a0,a1,a2,a3,a4⟩
 ixK l q K:=K (ix l q)
 eqK a b K:=K (decide (a=b))
 sz_ok:=rfl
 toK_ok _ _ h:=h
 ofK_ok:=fun(a0,a1,a2,a3,a4,_) K h=>⟨_,h,rfl⟩
 ixK_ok l q K h:=⟨_,h,fun y hy=>by unfold ix;rw[hy];rfl⟩
 eqK_ok a b K h:=⟨_,h,by simp⟩
def PV:RD ty cU where
 sz:=9
 fs:= [(1,.int .i64),(1,.str),(1,.int .i64),(3,.st 4),(2,.st 2),(1,.sl (.st 4))]
 to x:=(x.act,x.name,x.val,x.tag,x.at_,x.tags,())
 toK x K:=K (x.act,x.name,x.val,x.tag,x.at_,x.tags,())
 ofK:=fun(a0,a1,a2,a3,a4,a5,_) K=>K ⟨a0,a1,a2,a3,a4,a5⟩
 ixK l q K:=K (ix l q)
 eqK a b K:=K (decide (a=b))
 sz_ok:=rfl
 toK_ok _ _ h:=h
 ofK_ok:=fun(a0,a1,a2,a3,a4,a5,_) K h=>⟨_,h,rfl⟩
 ixK_ok l q K h:=⟨_,h,fun y hy=>by unfold ix;rw[hy];rfl⟩
 eqK_ok a b K h:=⟨_,h,by simp⟩
def PW:RD ty ub where
 sz:=21
 fs:= [(10,.st 15),(8,.arr 8 (.int .u32)),(1,.int .i64),(1,.sl (.int .i64)),(1,.int .u32)]
 to x:=(x.s,x.v,x.n,x.has,x.time,())
 toK x K:=K (x.s,x.v,x.n,x.has,x.time,())
 ofK:=fun(a0,a1,a2,a3,a4,_) K=>K ⟨a0,a1,a2,a3,a4⟩
 ixK l q K:=K (ix l q)
 eqK a b K:=K (decide (a=b))
 sz_ok:=rfl
 toK_ok _ _ h:=h
 ofK_ok:=fun(a0,a1,a2,a3,a4,_) K h=>⟨_,h,rfl⟩
 ixK_ok l q K h:=⟨_,h,fun y hy=>by unfold ix;rw[hy];rfl⟩
 eqK_ok a b K h:=⟨_,h,by simp⟩
def PX:RD ty g7 where
 sz:=4
 fs:= [(1,.bool),(1,.bool),(1,.bool),(1,.bool)]
 to x:=(x.name,x.val,x.at_,x.tags,())
 toK x K:=K (x.name,x.val,x.at_,x.tags,())
 ofK:=fun(a0,a1,a2,a3,_) K=>K ⟨a0,a1,a2,a3⟩
 ixK l q K:=K (ix l q)
 eqK a b K:=K (decide (a=b))
 sz_ok:=rfl
 toK_ok _ _ h:=h
 ofK_ok:=fun(a0,a1,a2,a3,_) K h=>⟨_,h,rfl⟩
 ixK_ok l q K h:=⟨_,h,fun y hy=>by unfold ix;rw[hy];rfl⟩
 eqK_ok a b K h:=⟨_,h,by simp⟩
def PY:RD ty pQ where
 sz:=6
 fs:= [(1,.int .i64),(1,.int .i64),(1,.int .i64),(3,.st 1)]
 to x:=(x.kind,x.who,x.from_,x.op,())
 toK x K:=K (x.kind,x.who,x.from_,x.op,())
 ofK:=fun(a0,a1,a2,a3,_) K=>K ⟨a0,a1,a2,a3⟩
 ixK l q K:=K (ix l q)
 eqK a b K:=K (decide (a=b))
 sz_ok:=rfl
 toK_ok _ _ h:=h
 ofK_ok:=fun(a0,a1,a2,a3,_) K h=>⟨_,h,rfl⟩
 ixK_ok l q K h:=⟨_,h,fun y hy=>by unfold ix;rw[hy];rfl⟩
 eqK_ok a b K h:=⟨_,h,by simp⟩
def TB:RD ty Unit where
 sz:=0
 fs:= []
 to x:=()
 toK x K:=False
 ofK:=fun _ _=>False
 ixK _ _ _:=False
 eqK _ _ _:=False
 sz_ok:=rfl
 toK_ok _ _ h:=h.elim
 ofK_ok _ _ h:=h.elim
 ixK_ok _ _ _ h:=h.elim
 eqK_ok _ _ _ h:=h.elim
def U:bG where
 ty:=ty
 rd:=fun|0=>Tr|1=>Ts|2=>Tt|3=>Tu|4=>Tv|5=>Tw|6=>Tx|7=>Ty|8=>Tz|9=>TA|10=>PO|11=>PQ|12=>PR|13=>PS|14=>PT|15=>PU|16=>PV|17=>PW|18=>PX|19=>PY|_+20=>TB
def AK(a:bD):List Value:= [.int .i64 a.origin,.int .u32 a.seq]
theorem AL{Y:List Nat}{S:World→Prop}{a:bD}{vs:List Value}(h:aC U Y S (.st 0) a vs):vs=AK a:=by
 obtain⟨h0,_⟩:=aC.inv h;obtain⟨v0,u0,e0,d0,_,h1⟩:=bE.inv h0;obtain⟨g0,_⟩:=aC.inv d0;obtain⟨v1,u1,e1,d1,_,h2⟩:=bE.inv h1;obtain⟨g1,_⟩:=aC.inv d1;have hz:u1= []:=bE.inv h2;rw[e0,e1,g0,g1,hz];rfl
def AM(a:ld):List Value:= [.int .i64 a.act,sv a.name,.int .i64 a.val]
theorem AN{Y:List Nat}{S:World→Prop}{a:ld}{vs:List Value}(h:aC U Y S (.st 1) a vs):vs=AM a:=by
 obtain⟨h0,_⟩:=aC.inv h;obtain⟨v0,u0,e0,d0,_,h1⟩:=bE.inv h0;obtain⟨g0,_⟩:=aC.inv d0;obtain⟨v1,u1,e1,d1,_,h2⟩:=bE.inv h1;obtain⟨g1,_⟩:=aC.inv d1;obtain⟨v2,u2,e2,d2,_,h3⟩:=bE.inv h2;obtain⟨g2,_⟩:=aC.inv d2;have hz:u2= []:=bE.inv h3;rw[e0,e1,e2,g0,g1,g2,hz];rfl
def Is(a:aV):List Value:= [.int .u32 a.time,.int .i64 a.origin]
theorem D7{Y:List Nat}{S:World→Prop}{a:aV}{vs:List Value}(h:aC U Y S (.st 2) a vs):vs=Is a:=by
 obtain⟨h0,_⟩:=aC.inv h;obtain⟨v0,u0,e0,d0,_,h1⟩:=bE.inv h0;obtain⟨g0,_⟩:=aC.inv d0;obtain⟨v1,u1,e1,d1,_,h2⟩:=bE.inv h1;obtain⟨g1,_⟩:=aC.inv d1;have hz:u1= []:=bE.inv h2;rw[e0,e1,g0,g1,hz];rfl
def Iu(a:az):List Value:= [.int .i64 a.id.origin,.int .u32 a.id.seq,.int .i64 a.n]
theorem xU{Y:List Nat}{S:World→Prop}{a:az}{vs:List Value}(h:aC U Y S (.st 4) a vs):vs=Iu a:=by
 obtain⟨h0,_⟩:=aC.inv h;obtain⟨v0,u0,e0,d0,_,h1⟩:=bE.inv h0;have g0:=AL d0;obtain⟨v1,u1,e1,d1,_,h2⟩:=bE.inv h1;obtain⟨g1,_⟩:=aC.inv d1;have hz:u1= []:=bE.inv h2;rw[e0,e1,g0,g1,hz];rfl
def Iv(a:bF):List Value:= [.int .i64 a.tag.id.origin,.int .u32 a.tag.id.seq,.int .i64 a.tag.n,sv a.field,.int .i64 a.val,.int .u32 a.at_.time,.int .i64 a.at_.origin]
theorem KZ{Y:List Nat}{S:World→Prop}{a:bF}{vs:List Value}(h:aC U Y S (.st 5) a vs):vs=Iv a:=by
 obtain⟨h0,_⟩:=aC.inv h;obtain⟨v0,u0,e0,d0,_,h1⟩:=bE.inv h0;have g0:=xU d0;obtain⟨v1,u1,e1,d1,_,h2⟩:=bE.inv h1;obtain⟨g1,_⟩:=aC.inv d1;obtain⟨v2,u2,e2,d2,_,h3⟩:=bE.inv h2;obtain⟨g2,_⟩:=aC.inv d2;obtain⟨v3,u3,e3,d3,_,h4⟩:=bE.inv h3;have g3:=D7 d3;have hz:u3= []:=bE.inv h4;rw[e0,e1,e2,e3,g0,g1,g2,g3,hz];rfl
def AO(a:au):List Value:= [sv a.field,.int .i64 a.val]
theorem xV{Y:List Nat}{S:World→Prop}{a:au}{vs:List Value}(h:aC U Y S (.st 6) a vs):vs=AO a:=by
 obtain⟨h0,_⟩:=aC.inv h;obtain⟨v0,u0,e0,d0,_,h1⟩:=bE.inv h0;obtain⟨g0,_⟩:=aC.inv d0;obtain⟨v1,u1,e1,d1,_,h2⟩:=bE.inv h1;obtain⟨g1,_⟩:=aC.inv d1;have hz:u1= []:=bE.inv h2;rw[e0,e1,g0,g1,hz];rfl
def AP(a:bS):List Value:= [.int .i64 a.tag.id.origin,.int .u32 a.tag.id.seq,.int .i64 a.tag.n,sv a.elem]
theorem Fo{Y:List Nat}{S:World→Prop}{a:bS}{vs:List Value}(h:aC U Y S (.st 10) a vs):vs=AP a:=by
 obtain⟨h0,_⟩:=aC.inv h;obtain⟨v0,u0,e0,d0,_,h1⟩:=bE.inv h0;have g0:=xU d0;obtain⟨v1,u1,e1,d1,_,h2⟩:=bE.inv h1;obtain⟨g1,_⟩:=aC.inv d1;have hz:u1= []:=bE.inv h2;rw[e0,e1,g0,g1,hz];rfl
def AQ(a:eU):List Value:= [.int .i64 a.val,.int .u32 a.at_.time,.int .i64 a.at_.origin]
theorem Fp{Y:List Nat}{S:World→Prop}{a:eU}{vs:List Value}(h:aC U Y S (.st 13) a vs):vs=AQ a:=by
 obtain⟨h0,_⟩:=aC.inv h;obtain⟨v0,u0,e0,d0,_,h1⟩:=bE.inv h0;obtain⟨g0,_⟩:=aC.inv d0;obtain⟨v1,u1,e1,d1,_,h2⟩:=bE.inv h1;have g1:=D7 d1;have hz:u1= []:=bE.inv h2;rw[e0,e1,g0,g1,hz];rfl
def AR(a:dW):List Value:= [.int .i64 a.plus,.int .i64 a.minus]
theorem Fs{Y:List Nat}{S:World→Prop}{a:dW}{vs:List Value}(h:aC U Y S (.st 14) a vs):vs=AR a:=by
 obtain⟨h0,_⟩:=aC.inv h;obtain⟨v0,u0,e0,d0,_,h1⟩:=bE.inv h0;obtain⟨g0,_⟩:=aC.inv d0;obtain⟨v1,u1,e1,d1,_,h2⟩:=bE.inv h1;obtain⟨g1,_⟩:=aC.inv d1;have hz:u1= []:=bE.inv h2;rw[e0,e1,g0,g1,hz];rfl
def AS(a:g7):List Value:= [.bool a.name,.bool a.val,.bool a.at_,.bool a.tags]
theorem Ft{Y:List Nat}{S:World→Prop}{a:g7}{vs:List Value}(h:aC U Y S (.st 18) a vs):vs=AS a:=by
 obtain⟨h0,_⟩:=aC.inv h;obtain⟨v0,u0,e0,d0,_,h1⟩:=bE.inv h0;have g0:=aC.inv d0;obtain⟨v1,u1,e1,d1,_,h2⟩:=bE.inv h1;have g1:=aC.inv d1;obtain⟨v2,u2,e2,d2,_,h3⟩:=bE.inv h2;have g2:=aC.inv d2;obtain⟨v3,u3,e3,d3,_,h4⟩:=bE.inv h3;have g3:=aC.inv d3;have hz:u3= []:=bE.inv h4;rw[e0,e1,e2,e3,g0,g1,g2,g3,hz];rfl
def AU(a:pQ):List Value:= [.int .i64 a.kind,.int .i64 a.who,.int .i64 a.from_,.int .i64 a.op.act,sv a.op.name,.int .i64 a.op.val]
theorem Fu{Y:List Nat}{S:World→Prop}{a:pQ}{vs:List Value}(h:aC U Y S (.st 19) a vs):vs=AU a:=by
 obtain⟨h0,_⟩:=aC.inv h;obtain⟨v0,u0,e0,d0,_,h1⟩:=bE.inv h0;obtain⟨g0,_⟩:=aC.inv d0;obtain⟨v1,u1,e1,d1,_,h2⟩:=bE.inv h1;obtain⟨g1,_⟩:=aC.inv d1;obtain⟨v2,u2,e2,d2,_,h3⟩:=bE.inv h2;obtain⟨g2,_⟩:=aC.inv d2;obtain⟨v3,u3,e3,d3,_,h4⟩:=bE.inv h3;have g3:=AN d3;have hz:u3= []:=bE.inv h4;rw[e0,e1,e2,e3,g0,g1,g2,g3,hz];rfl
theorem K0(a0:Int)(a1:Int)(b0:Int)(b1:Int):aX Tryz.prog 8 59 [.int .i64 a0,.int .u32 a1] [.int .i64 b0,.int .u32 b1]=some (((a0==b0)&&((a1==b1)&&true))):=by kernel_rfl
theorem AW(a b:bD): ∃r,aX Tryz.prog 8 59 (AK a) (AK b)=some r∧(r=true↔a=b):=by
 obtain⟨a0,a1⟩:=a;obtain⟨b0,b1⟩:=b;refine⟨_,K0 _ _ _ _,?_⟩;show _↔(bD.mk a0 a1)=(bD.mk b0 b1)
 simp
theorem PZ:ja U Tryz.prog 59 (.st 0):=⟨by kernel_rfl,fun Y S a b vs us h1 h2=>by rw[AL h1,AL h2];exact AW a b⟩
theorem K4(a0:Int)(a1:Int)(a2:Int)(a3:Int)(a4:Int)(a5:Int)(a6:Int)(a7:Int)(b0:Int)(b1:Int)(b2:Int)(b3:Int)(b4:Int)(b5:Int)(b6:Int)(b7:Int):aX Tryz.prog 8 45 [.int .u32 a0,.int .u32 a1,.int .u32 a2,.int .u32 a3,.int .u32 a4,.int .u32 a5,.int .u32 a6,.int .u32 a7] [.int .u32 b0,.int .u32 b1,.int .u32 b2,.int .u32 b3,.int .u32 b4,.int .u32 b5,.int .u32 b6,.int .u32 b7]=some (((a0==b0)&&((a1==b1)&&((a2==b2)&&((a3==b3)&&((a4==b4)&&((a5==b5)&&((a6==b6)&&((a7==b7)&&true))))))))):=by kernel_rfl
theorem K5: ∀a b:List Int,a.length=8→b.length=8→ ∃r,aX Tryz.prog 8 45 (a.map (Value.int .u32)) (b.map (Value.int .u32))=some r∧(r=true↔a=b)
 | [a0,a1,a2,a3,a4,a5,a6,a7],[b0,b1,b2,b3,b4,b5,b6,b7],_,_=>⟨_,K4 _ _ _ _ _ _ _ _ _ _ _ _ _ _ _ _,by simp⟩
theorem P0:ja U Tryz.prog 45 (.arr 8 (.int .u32)):=⟨by kernel_rfl,fun Y S a b vs us h1 h2=>by
 obtain⟨h1,l1⟩:=aC.inv h1;obtain⟨h2,l2⟩:=aC.inv h2;rw[gD h1,gD h2];exact K5 a b l1 l2⟩
theorem K6(a0:Int)(a1:List UInt8)(a2:Int)(b0:Int)(b1:List UInt8)(b2:Int):aX Tryz.prog 8 66 [.int .i64 a0,sv a1,.int .i64 a2] [.int .i64 b0,sv b1,.int .i64 b2]=some (((a0==b0)&&((a1==b1)&&((a2==b2)&&true)))):=by kernel_rfl
theorem K7(a b:ld): ∃r,aX Tryz.prog 8 66 (AM a) (AM b)=some r∧(r=true↔a=b):=by
 obtain⟨a0,a1,a2⟩:=a;obtain⟨b0,b1,b2⟩:=b;refine⟨_,K6 _ _ _ _ _ _,?_⟩;show _↔(ld.mk a0 a1 a2)=(ld.mk b0 b1 b2)
 simp
theorem P1:ja U Tryz.prog 66 (.st 1):=⟨by kernel_rfl,fun Y S a b vs us h1 h2=>by rw[AN h1,AN h2];exact K7 a b⟩
theorem K8(a0:Int)(a1:Int)(b0:Int)(b1:Int):aX Tryz.prog 8 30 [.int .u32 a0,.int .i64 a1] [.int .u32 b0,.int .i64 b1]=some (((a0==b0)&&((a1==b1)&&true))):=by kernel_rfl
theorem K9(a b:aV): ∃r,aX Tryz.prog 8 30 (Is a) (Is b)=some r∧(r=true↔a=b):=by
 obtain⟨a0,a1⟩:=a;obtain⟨b0,b1⟩:=b;refine⟨_,K8 _ _ _ _,?_⟩;show _↔(aV.mk a0 a1)=(aV.mk b0 b1)
 simp
theorem P2:ja U Tryz.prog 30 (.st 2):=⟨by kernel_rfl,fun Y S a b vs us h1 h2=>by rw[D7 h1,D7 h2];exact K9 a b⟩
theorem Iw(a0:List UInt8)(a1:Int)(b0:List UInt8)(b1:Int):aX Tryz.prog 8 144 [sv a0,.int .i64 a1] [sv b0,.int .i64 b1]=some (((a0==b0)&&((a1==b1)&&true))):=by kernel_rfl
theorem Ix(a b:au): ∃r,aX Tryz.prog 8 144 (AO a) (AO b)=some r∧(r=true↔a=b):=by
 obtain⟨a0,a1⟩:=a;obtain⟨b0,b1⟩:=b;refine⟨_,Iw _ _ _ _,?_⟩;show _↔(au.mk a0 a1)=(au.mk b0 b1)
 simp
theorem Lb:ja U Tryz.prog 144 (.st 6):=⟨by kernel_rfl,fun Y S a b vs us h1 h2=>by rw[xV h1,xV h2];exact Ix a b⟩
theorem Ld(a0:Int)(a1:Int)(a2:Int)(b0:Int)(b1:Int)(b2:Int):aX Tryz.prog 8 61 [.int .i64 a0,.int .u32 a1,.int .i64 a2] [.int .i64 b0,.int .u32 b1,.int .i64 b2]=some ((((a0==b0)&&((a1==b1)&&true))&&((a2==b2)&&true))):=by kernel_rfl
theorem Lg(a b:az): ∃r,aX Tryz.prog 8 61 (Iu a) (Iu b)=some r∧(r=true↔a=b):=by
 obtain⟨⟨a0,a1⟩,a2⟩:=a;obtain⟨⟨b0,b1⟩,b2⟩:=b;refine⟨_,Ld _ _ _ _ _ _,?_⟩;show _↔(az.mk (bD.mk a0 a1) a2)=(az.mk (bD.mk b0 b1) b2)
 simp
theorem Lh:ja U Tryz.prog 61 (.st 4):=⟨by kernel_rfl,fun Y S a b vs us h1 h2=>by rw[xU h1,xU h2];exact Lg a b⟩
theorem Iy(a0:Int)(a1:Int)(a2:Int)(a3:List UInt8)(b0:Int)(b1:Int)(b2:Int)(b3:List UInt8):aX Tryz.prog 8 128 [.int .i64 a0,.int .u32 a1,.int .i64 a2,sv a3] [.int .i64 b0,.int .u32 b1,.int .i64 b2,sv b3]=some (((((a0==b0)&&((a1==b1)&&true))&&((a2==b2)&&true))&&((a3==b3)&&true))):=by kernel_rfl
theorem Iz(a b:bS): ∃r,aX Tryz.prog 8 128 (AP a) (AP b)=some r∧(r=true↔a=b):=by
 obtain⟨⟨⟨a0,a1⟩,a2⟩,a3⟩:=a;obtain⟨⟨⟨b0,b1⟩,b2⟩,b3⟩:=b;refine⟨_,Iy _ _ _ _ _ _ _ _,?_⟩;show _↔(bS.mk (az.mk (bD.mk a0 a1) a2) a3)=(bS.mk (az.mk (bD.mk b0 b1) b2) b3)
 simp
theorem Li:ja U Tryz.prog 128 (.st 10):=⟨by kernel_rfl,fun Y S a b vs us h1 h2=>by rw[Fo h1,Fo h2];exact Iz a b⟩
theorem IA(a0:Int)(a1:Int)(a2:Int)(a3:List UInt8)(a4:Int)(a5:Int)(a6:Int)(b0:Int)(b1:Int)(b2:Int)(b3:List UInt8)(b4:Int)(b5:Int)(b6:Int):aX Tryz.prog 8 133 [.int .i64 a0,.int .u32 a1,.int .i64 a2,sv a3,.int .i64 a4,.int .u32 a5,.int .i64 a6] [.int .i64 b0,.int .u32 b1,.int .i64 b2,sv b3,.int .i64 b4,.int .u32 b5,.int .i64 b6]=some (((((a0==b0)&&((a1==b1)&&true))&&((a2==b2)&&true))&&((a3==b3)&&((a4==b4)&&(((a5==b5)&&((a6==b6)&&true))&&true))))):=by kernel_rfl
theorem IB(a b:bF): ∃r,aX Tryz.prog 8 133 (Iv a) (Iv b)=some r∧(r=true↔a=b):=by
 obtain⟨⟨⟨a0,a1⟩,a2⟩,a3,a4,⟨a5,a6⟩⟩:=a;obtain⟨⟨⟨b0,b1⟩,b2⟩,b3,b4,⟨b5,b6⟩⟩:=b;refine⟨_,IA _ _ _ _ _ _ _ _ _ _ _ _ _ _,?_⟩;show _↔(bF.mk (az.mk (bD.mk a0 a1) a2) a3 a4 (aV.mk a5 a6))=(bF.mk (az.mk (bD.mk b0 b1) b2) b3 b4 (aV.mk b5 b6))
 simp
theorem Lj:ja U Tryz.prog 133 (.st 5):=⟨by kernel_rfl,fun Y S a b vs us h1 h2=>by rw[KZ h1,KZ h2];exact IB a b⟩
theorem Lk(a0:Int)(a1:Int)(a2:Int)(b0:Int)(b1:Int)(b2:Int):aX Tryz.prog 8 32 [.int .i64 a0,.int .u32 a1,.int .i64 a2] [.int .i64 b0,.int .u32 b1,.int .i64 b2]=some (((a0==b0)&&(((a1==b1)&&((a2==b2)&&true))&&true))):=by kernel_rfl
theorem Ll(a b:eU): ∃r,aX Tryz.prog 8 32 (AQ a) (AQ b)=some r∧(r=true↔a=b):=by
 obtain⟨a0,⟨a1,a2⟩⟩:=a;obtain⟨b0,⟨b1,b2⟩⟩:=b;refine⟨_,Lk _ _ _ _ _ _,?_⟩;show _↔(eU.mk a0 (aV.mk a1 a2))=(eU.mk b0 (aV.mk b1 b2))
 simp
theorem P3:ja U Tryz.prog 32 (.st 13):=⟨by kernel_rfl,fun Y S a b vs us h1 h2=>by rw[Fp h1,Fp h2];exact Ll a b⟩
theorem Lp(a0:Int)(a1:Int)(b0:Int)(b1:Int):aX Tryz.prog 8 34 [.int .i64 a0,.int .i64 a1] [.int .i64 b0,.int .i64 b1]=some (((a0==b0)&&((a1==b1)&&true))):=by kernel_rfl
theorem Lq(a b:dW): ∃r,aX Tryz.prog 8 34 (AR a) (AR b)=some r∧(r=true↔a=b):=by
 obtain⟨a0,a1⟩:=a;obtain⟨b0,b1⟩:=b;refine⟨_,Lp _ _ _ _,?_⟩;show _↔(dW.mk a0 a1)=(dW.mk b0 b1)
 simp
theorem P4:ja U Tryz.prog 34 (.st 14):=⟨by kernel_rfl,fun Y S a b vs us h1 h2=>by rw[Fs h1,Fs h2];exact Lq a b⟩
theorem IC(a0:List UInt8)(a1:Int)(b0:List UInt8)(b1:Int):aX Tryz.prog 8 149 [sv a0,.int .i64 a1] [sv b0,.int .i64 b1]=some (((a0==b0)&&((a1==b1)&&true))):=by kernel_rfl
theorem ID(a b:au): ∃r,aX Tryz.prog 8 149 (AO a) (AO b)=some r∧(r=true↔a=b):=by
 obtain⟨a0,a1⟩:=a;obtain⟨b0,b1⟩:=b;refine⟨_,IC _ _ _ _,?_⟩;show _↔(au.mk a0 a1)=(au.mk b0 b1)
 simp
theorem Lt:ja U Tryz.prog 149 (.st 6):=⟨by kernel_rfl,fun Y S a b vs us h1 h2=>by rw[xV h1,xV h2];exact ID a b⟩
theorem Lu(a0:Int)(a1:List UInt8)(a2:Int)(b0:Int)(b1:List UInt8)(b2:Int):aX Tryz.prog 8 54 [.int .i64 a0,sv a1,.int .i64 a2] [.int .i64 b0,sv b1,.int .i64 b2]=some (((a0==b0)&&((a1==b1)&&((a2==b2)&&true)))):=by kernel_rfl
theorem Lv(a b:ld): ∃r,aX Tryz.prog 8 54 (AM a) (AM b)=some r∧(r=true↔a=b):=by
 obtain⟨a0,a1,a2⟩:=a;obtain⟨b0,b1,b2⟩:=b;refine⟨_,Lu _ _ _ _ _ _,?_⟩;show _↔(ld.mk a0 a1 a2)=(ld.mk b0 b1 b2)
 simp
theorem P5:ja U Tryz.prog 54 (.st 1):=⟨by kernel_rfl,fun Y S a b vs us h1 h2=>by rw[AN h1,AN h2];exact Lv a b⟩
theorem IE(a0:Bool)(a1:Bool)(a2:Bool)(a3:Bool)(b0:Bool)(b1:Bool)(b2:Bool)(b3:Bool):aX Tryz.prog 8 172 [.bool a0,.bool a1,.bool a2,.bool a3] [.bool b0,.bool b1,.bool b2,.bool b3]=some (((a0==b0)&&((a1==b1)&&((a2==b2)&&((a3==b3)&&true))))):=by kernel_rfl
theorem IF(a b:g7): ∃r,aX Tryz.prog 8 172 (AS a) (AS b)=some r∧(r=true↔a=b):=by
 obtain⟨a0,a1,a2,a3⟩:=a;obtain⟨b0,b1,b2,b3⟩:=b;refine⟨_,IE _ _ _ _ _ _ _ _,?_⟩;show _↔(g7.mk a0 a1 a2 a3)=(g7.mk b0 b1 b2 b3)
 simp
theorem Lw:ja U Tryz.prog 172 (.st 18):=⟨by kernel_rfl,fun Y S a b vs us h1 h2=>by rw[Ft h1,Ft h2];exact IF a b⟩
theorem IG(a0:Int)(a1:Int)(b0:Int)(b1:Int):aX Tryz.prog 8 303 [.int .i64 a0,.int .i64 a1] [.int .i64 b0,.int .i64 b1]=some (((a0==b0)&&((a1==b1)&&true))):=by kernel_rfl
theorem IH: ∀a b:List Int,a.length=2→b.length=2→ ∃r,aX Tryz.prog 8 303 (a.map (Value.int .i64)) (b.map (Value.int .i64))=some r∧(r=true↔a=b)
 | [a0,a1],[b0,b1],_,_=>⟨_,IG _ _ _ _,by simp⟩
theorem Lz:ja U Tryz.prog 303 (.arr 2 (.int .i64)):=⟨by kernel_rfl,fun Y S a b vs us h1 h2=>by
 obtain⟨h1,l1⟩:=aC.inv h1;obtain⟨h2,l2⟩:=aC.inv h2;rw[gD h1,gD h2];exact IH a b l1 l2⟩
theorem LA(a0:Int)(a1:Int)(a2:Int)(a3:Int)(a4:List UInt8)(a5:Int)(b0:Int)(b1:Int)(b2:Int)(b3:Int)(b4:List UInt8)(b5:Int):aX Tryz.prog 8 56 [.int .i64 a0,.int .i64 a1,.int .i64 a2,.int .i64 a3,sv a4,.int .i64 a5] [.int .i64 b0,.int .i64 b1,.int .i64 b2,.int .i64 b3,sv b4,.int .i64 b5]=some (((a0==b0)&&((a1==b1)&&((a2==b2)&&(((a3==b3)&&((a4==b4)&&((a5==b5)&&true)))&&true))))):=by kernel_rfl
theorem LB(a b:pQ): ∃r,aX Tryz.prog 8 56 (AU a) (AU b)=some r∧(r=true↔a=b):=by
 obtain⟨a0,a1,a2,⟨a3,a4,a5⟩⟩:=a;obtain⟨b0,b1,b2,⟨b3,b4,b5⟩⟩:=b;refine⟨_,LA _ _ _ _ _ _ _ _ _ _ _ _,?_⟩;show _↔(pQ.mk a0 a1 a2 (ld.mk a3 a4 a5))=(pQ.mk b0 b1 b2 (ld.mk b3 b4 b5))
 simp
theorem P6:ja U Tryz.prog 56 (.st 19):=⟨by kernel_rfl,fun Y S a b vs us h1 h2=>by rw[Fu h1,Fu h2];exact LB a b⟩
theorem II(a0:Int)(a1:Int)(b0:Int)(b1:Int):aX Tryz.prog 8 245 [.int .i64 a0,.int .i64 a1] [.int .i64 b0,.int .i64 b1]=some (((a0==b0)&&((a1==b1)&&true))):=by kernel_rfl
theorem IJ: ∀a b:List Int,a.length=2→b.length=2→ ∃r,aX Tryz.prog 8 245 (a.map (Value.int .i64)) (b.map (Value.int .i64))=some r∧(r=true↔a=b)
 | [a0,a1],[b0,b1],_,_=>⟨_,II _ _ _ _,by simp⟩
theorem LC:ja U Tryz.prog 245 (.arr 2 (.int .i64)):=⟨by kernel_rfl,fun Y S a b vs us h1 h2=>by
 obtain⟨h1,l1⟩:=aC.inv h1;obtain⟨h2,l2⟩:=aC.inv h2;rw[gD h1,gD h2];exact IJ a b l1 l2⟩
def QU:TI U:=⟨1,.int .i64,8,[],some (.int .i64),false,[(1,.d (.int .i64) (0:Int))],none⟩
theorem AX:aU U Tryz.prog 3 QU:=aK [.i .i64] rfl (by kernel_rfl) rfl (by kernel_rfl) (by kernel_rfl) (show Tryz.prog.underlying 3=some (.int .i64)by kernel_rfl) (by kernel_rfl) (by kernel_rfl) (by kernel_rfl) (fun i h1 h2=>by cases h2) (fun d h=>by cases h)
def QV:TI U:=⟨1,.str,16,[],some (.str),false,[(1,.d .str ([]:List UInt8))],none⟩
theorem IK:aU U Tryz.prog 9 QV:=aK [.s] rfl (by kernel_rfl) rfl (by kernel_rfl) (by kernel_rfl) (show Tryz.prog.underlying 9=some .string by kernel_rfl) (by kernel_rfl) (by kernel_rfl) (by kernel_rfl) (fun i h1 h2=>by cases h2) (fun d h=>by cases h)
def Fv:TI U:=⟨13,.st,104,[(0,59),(2,45),(10,3),(11,26),(12,108)],some (.st 9),false,[(1,.d (.int .i64) (0:Int)),(1,.d (.int .u32) (0:Int)),(1,.d (.int .u32) (0:Int)),(1,.d (.int .u32) (0:Int)),(1,.d (.int .u32) (0:Int)),(1,.d (.int .u32) (0:Int)),(1,.d (.int .u32) (0:Int)),(1,.d (.int .u32) (0:Int)),(1,.d (.int .u32) (0:Int)),(1,.d (.int .u32) (0:Int)),(1,.d (.int .i64) (0:Int)),(1,.nils),(1,.nils)],none⟩
theorem kg:aU U Tryz.prog 110 Fv:=aK [.i .i64,.i .u32,.i .u32,.i .u32,.i .u32,.i .u32,.i .u32,.i .u32,.i .u32,.i .u32,.i .i64,.l,.l] rfl (by kernel_rfl) rfl (by kernel_rfl) (by kernel_rfl) ⟨_,rfl⟩ rfl (by kernel_rfl) (by kernel_rfl) (fun i h1 h2=>by cases h2) (fun d h=>by cases h)
def LD:TI U:=⟨2,.st,16,[(0,3),(1,28)],some (.st 0),true,[(1,.d (.int .i64) (0:Int)),(1,.d (.int .u32) (0:Int))],none⟩
theorem D8:aU U Tryz.prog 59 LD:=aK [.i .i64,.i .u32] rfl (by kernel_rfl) rfl (by kernel_rfl) (by kernel_rfl) ⟨_,rfl⟩ rfl (by kernel_rfl) (by kernel_rfl) (fun i h1 h2=>⟨rfl,by injection h1 with h1;subst h1;exact PZ⟩) (fun d h=>by cases h)
def LF:TI U:=⟨1,.int .u32,4,[],some (.int .u32),false,[(1,.d (.int .u32) (0:Int))],none⟩
theorem D9:aU U Tryz.prog 28 LF:=aK [.i .u32] rfl (by kernel_rfl) rfl (by kernel_rfl) (by kernel_rfl) (show Tryz.prog.underlying 28=some (.int .u32)by kernel_rfl) (by kernel_rfl) (by kernel_rfl) (by kernel_rfl) (fun i h1 h2=>by cases h2) (fun d h=>by cases h)
def LG:TI U:=⟨8,.arr 8 28,32,[],some (.arr 8 (.int .u32)),true,[(1,.d (.int .u32) (0:Int)),(1,.d (.int .u32) (0:Int)),(1,.d (.int .u32) (0:Int)),(1,.d (.int .u32) (0:Int)),(1,.d (.int .u32) (0:Int)),(1,.d (.int .u32) (0:Int)),(1,.d (.int .u32) (0:Int)),(1,.d (.int .u32) (0:Int))],none⟩
theorem wV:aU U Tryz.prog 45 LG:=aK [.i .u32,.i .u32,.i .u32,.i .u32,.i .u32,.i .u32,.i .u32,.i .u32] rfl (by kernel_rfl) rfl (by kernel_rfl) (by kernel_rfl) (show Tryz.prog.underlying 45=some (.array 8 28)by kernel_rfl) (by kernel_rfl) (by kernel_rfl) (by kernel_rfl) (fun i h1 h2=>⟨rfl,by injection h1 with h1;subst h1;exact P0⟩) (fun d h=>by cases h)
def LH:TI U:=⟨1,.sl 70,24,[],some (.sl (.st 3)),false,[(1,.nils)],none⟩
theorem Ea:aU U Tryz.prog 26 LH:=aK [.l] rfl (by kernel_rfl) rfl (by kernel_rfl) (by kernel_rfl) (show Tryz.prog.underlying 26=some (.slice 70)by kernel_rfl) (by kernel_rfl) (by kernel_rfl) (by kernel_rfl) (fun i h1 h2=>by cases h2) (fun d h=>by cases h)
def LI:TI U:=⟨17,.st,120,[(0,59),(2,45),(10,3),(11,9),(12,66),(15,30)],some (.st 3),false,[(1,.d (.int .i64) (0:Int)),(1,.d (.int .u32) (0:Int)),(1,.d (.int .u32) (0:Int)),(1,.d (.int .u32) (0:Int)),(1,.d (.int .u32) (0:Int)),(1,.d (.int .u32) (0:Int)),(1,.d (.int .u32) (0:Int)),(1,.d (.int .u32) (0:Int)),(1,.d (.int .u32) (0:Int)),(1,.d (.int .u32) (0:Int)),(1,.d (.int .i64) (0:Int)),(1,.d .str ([]:List UInt8)),(1,.d (.int .i64) (0:Int)),(1,.d .str ([]:List UInt8)),(1,.d (.int .i64) (0:Int)),(1,.d (.int .u32) (0:Int)),(1,.d (.int .i64) (0:Int))],none⟩
theorem kQ:aU U Tryz.prog 70 LI:=aK [.i .i64,.i .u32,.i .u32,.i .u32,.i .u32,.i .u32,.i .u32,.i .u32,.i .u32,.i .u32,.i .i64,.s,.i .i64,.s,.i .i64,.i .u32,.i .i64] rfl (by kernel_rfl) rfl (by kernel_rfl) (by kernel_rfl) ⟨_,rfl⟩ rfl (by kernel_rfl) (by kernel_rfl) (fun i h1 h2=>by cases h2) (fun d h=>by cases h)
def LJ:TI U:=⟨3,.st,32,[(0,3),(1,9),(2,2)],some (.st 1),true,[(1,.d (.int .i64) (0:Int)),(1,.d .str ([]:List UInt8)),(1,.d (.int .i64) (0:Int))],none⟩
theorem Eb:aU U Tryz.prog 66 LJ:=aK [.i .i64,.s,.i .i64] rfl (by kernel_rfl) rfl (by kernel_rfl) (by kernel_rfl) ⟨_,rfl⟩ rfl (by kernel_rfl) (by kernel_rfl) (fun i h1 h2=>⟨rfl,by injection h1 with h1;subst h1;exact P1⟩) (fun d h=>by cases h)
def QW:TI U:=⟨1,.int .i64,8,[],some (.int .i64),false,[(1,.d (.int .i64) (0:Int))],none⟩
theorem IL:aU U Tryz.prog 2 QW:=aK [.i .i64] rfl (by kernel_rfl) rfl (by kernel_rfl) (by kernel_rfl) (show Tryz.prog.underlying 2=some (.int .i64)by kernel_rfl) (by kernel_rfl) (by kernel_rfl) (by kernel_rfl) (fun i h1 h2=>by cases h2) (fun d h=>by cases h)
def LK:TI U:=⟨2,.st,16,[(0,28),(1,3)],some (.st 2),true,[(1,.d (.int .u32) (0:Int)),(1,.d (.int .i64) (0:Int))],none⟩
theorem Ec:aU U Tryz.prog 30 LK:=aK [.i .u32,.i .i64] rfl (by kernel_rfl) rfl (by kernel_rfl) (by kernel_rfl) ⟨_,rfl⟩ rfl (by kernel_rfl) (by kernel_rfl) (fun i h1 h2=>⟨rfl,by injection h1 with h1;subst h1;exact P2⟩) (fun d h=>by cases h)
def Fx:TI U:=⟨1,.sl 107,24,[],some (.sl (.st 8)),false,[(1,.nils)],none⟩
theorem AY:aU U Tryz.prog 108 Fx:=aK [.l] rfl (by kernel_rfl) rfl (by kernel_rfl) (by kernel_rfl) (show Tryz.prog.underlying 108=some (.slice 107)by kernel_rfl) (by kernel_rfl) (by kernel_rfl) (by kernel_rfl) (fun i h1 h2=>by cases h2) (fun d h=>by cases h)
def Fy:TI U:=⟨5,.st,64,[(0,9),(1,3),(2,75)],some (.st 8),false,[(1,.d .str ([]:List UInt8)),(1,.d (.int .i64) (0:Int)),(1,.d (.int .i64) (0:Int)),(1,.d (.int .i64) (0:Int)),(1,.nils)],none⟩
theorem AZ:aU U Tryz.prog 107 Fy:=aK [.s,.i .i64,.i .i64,.i .i64,.l] rfl (by kernel_rfl) rfl (by kernel_rfl) (by kernel_rfl) ⟨_,rfl⟩ rfl (by kernel_rfl) (by kernel_rfl) (fun i h1 h2=>by cases h2) (fun d h=>by cases h)
def LM:TI U:=⟨3,.st,40,[(0,3),(1,2),(2,73)],some (.st 7),false,[(1,.d (.int .i64) (0:Int)),(1,.d (.int .i64) (0:Int)),(1,.nils)],none⟩
theorem Ed:aU U Tryz.prog 75 LM:=aK [.i .i64,.i .i64,.l] rfl (by kernel_rfl) rfl (by kernel_rfl) (by kernel_rfl) ⟨_,rfl⟩ rfl (by kernel_rfl) (by kernel_rfl) (fun i h1 h2=>by cases h2) (fun d h=>by cases h)
def LN:TI U:=⟨1,.sl 144,24,[],some (.sl (.st 6)),false,[(1,.nils)],none⟩
theorem Ee:aU U Tryz.prog 73 LN:=aK [.l] rfl (by kernel_rfl) rfl (by kernel_rfl) (by kernel_rfl) (show Tryz.prog.underlying 73=some (.slice 144)by kernel_rfl) (by kernel_rfl) (by kernel_rfl) (by kernel_rfl) (fun i h1 h2=>by cases h2) (fun d h=>by cases h)
def Fz:TI U:=⟨2,.st,24,[(0,9),(1,2)],some (.st 6),true,[(1,.d .str ([]:List UInt8)),(1,.d (.int .i64) (0:Int))],none⟩
theorem uc:aU U Tryz.prog 144 Fz:=aK [.s,.i .i64] rfl (by kernel_rfl) rfl (by kernel_rfl) (by kernel_rfl) ⟨_,rfl⟩ rfl (by kernel_rfl) (by kernel_rfl) (fun i h1 h2=>⟨rfl,by injection h1 with h1;subst h1;exact Lb⟩) (fun d h=>by cases h)
def LO:TI U:=⟨1,.sl 61,24,[],some (.sl (.st 4)),false,[(1,.nils)],none⟩
theorem Ef:aU U Tryz.prog 36 LO:=aK [.l] rfl (by kernel_rfl) rfl (by kernel_rfl) (by kernel_rfl) (show Tryz.prog.underlying 36=some (.slice 61)by kernel_rfl) (by kernel_rfl) (by kernel_rfl) (by kernel_rfl) (fun i h1 h2=>by cases h2) (fun d h=>by cases h)
def LP:TI U:=⟨3,.st,24,[(0,59),(2,3)],some (.st 4),true,[(1,.d (.int .i64) (0:Int)),(1,.d (.int .u32) (0:Int)),(1,.d (.int .i64) (0:Int))],none⟩
theorem kR:aU U Tryz.prog 61 LP:=aK [.i .i64,.i .u32,.i .i64] rfl (by kernel_rfl) rfl (by kernel_rfl) (by kernel_rfl) ⟨_,rfl⟩ rfl (by kernel_rfl) (by kernel_rfl) (fun i h1 h2=>⟨rfl,by injection h1 with h1;subst h1;exact Lh⟩) (fun d h=>by cases h)
def LQ:TI U:=⟨1,.sl 110,24,[],some (.sl (.st 9)),false,[(1,.nils)],none⟩
theorem Eg:aU U Tryz.prog 91 LQ:=aK [.l] rfl (by kernel_rfl) rfl (by kernel_rfl) (by kernel_rfl) (show Tryz.prog.underlying 91=some (.slice 110)by kernel_rfl) (by kernel_rfl) (by kernel_rfl) (by kernel_rfl) (fun i h1 h2=>by cases h2) (fun d h=>by cases h)
def LR:TI U:=⟨1,.sl 9,24,[],some (.sl (.str)),false,[(1,.nils)],none⟩
theorem Eh:aU U Tryz.prog 25 LR:=aK [.l] rfl (by kernel_rfl) rfl (by kernel_rfl) (by kernel_rfl) (show Tryz.prog.underlying 25=some (.slice 9)by kernel_rfl) (by kernel_rfl) (by kernel_rfl) (by kernel_rfl) (fun i h1 h2=>by cases h2) (fun d h=>by cases h)
def QX:TI U:=⟨1,.bool,1,[],some (.bool),false,[(1,.d .bool false)],none⟩
theorem IM:aU U Tryz.prog 4 QX:=aK [.b] rfl (by kernel_rfl) rfl (by kernel_rfl) (by kernel_rfl) (show Tryz.prog.underlying 4=some .bool by kernel_rfl) (by kernel_rfl) (by kernel_rfl) (by kernel_rfl) (fun i h1 h2=>by cases h2) (fun d h=>by cases h)
def LS:TI U:=⟨1,.sl 128,24,[],some (.sl (.st 10)),false,[(1,.nils)],none⟩
theorem Ei:aU U Tryz.prog 35 LS:=aK [.l] rfl (by kernel_rfl) rfl (by kernel_rfl) (by kernel_rfl) (show Tryz.prog.underlying 35=some (.slice 128)by kernel_rfl) (by kernel_rfl) (by kernel_rfl) (by kernel_rfl) (fun i h1 h2=>by cases h2) (fun d h=>by cases h)
def FA:TI U:=⟨4,.st,40,[(0,61),(3,9)],some (.st 10),true,[(1,.d (.int .i64) (0:Int)),(1,.d (.int .u32) (0:Int)),(1,.d (.int .i64) (0:Int)),(1,.d .str ([]:List UInt8))],none⟩
theorem kh:aU U Tryz.prog 128 FA:=aK [.i .i64,.i .u32,.i .i64,.s] rfl (by kernel_rfl) rfl (by kernel_rfl) (by kernel_rfl) ⟨_,rfl⟩ rfl (by kernel_rfl) (by kernel_rfl) (fun i h1 h2=>⟨rfl,by injection h1 with h1;subst h1;exact Li⟩) (fun d h=>by cases h)
def LT:TI U:=⟨2,.st,48,[(0,35),(1,36)],some (.st 11),false,[(1,.nils),(1,.nils)],none⟩
theorem Ej:aU U Tryz.prog 38 LT:=aK [.l,.l] rfl (by kernel_rfl) rfl (by kernel_rfl) (by kernel_rfl) ⟨_,rfl⟩ rfl (by kernel_rfl) (by kernel_rfl) (fun i h1 h2=>by cases h2) (fun d h=>by cases h)
def LU:TI U:=⟨1,.sl 133,24,[],some (.sl (.st 5)),false,[(1,.nils)],none⟩
theorem Ek:aU U Tryz.prog 39 LU:=aK [.l] rfl (by kernel_rfl) rfl (by kernel_rfl) (by kernel_rfl) (show Tryz.prog.underlying 39=some (.slice 133)by kernel_rfl) (by kernel_rfl) (by kernel_rfl) (by kernel_rfl) (fun i h1 h2=>by cases h2) (fun d h=>by cases h)
def FB:TI U:=⟨7,.st,64,[(0,61),(3,9),(4,2),(5,30)],some (.st 5),true,[(1,.d (.int .i64) (0:Int)),(1,.d (.int .u32) (0:Int)),(1,.d (.int .i64) (0:Int)),(1,.d .str ([]:List UInt8)),(1,.d (.int .i64) (0:Int)),(1,.d (.int .u32) (0:Int)),(1,.d (.int .i64) (0:Int))],none⟩
theorem ki:aU U Tryz.prog 133 FB:=aK [.i .i64,.i .u32,.i .i64,.s,.i .i64,.i .u32,.i .i64] rfl (by kernel_rfl) rfl (by kernel_rfl) (by kernel_rfl) ⟨_,rfl⟩ rfl (by kernel_rfl) (by kernel_rfl) (fun i h1 h2=>⟨rfl,by injection h1 with h1;subst h1;exact Lj⟩) (fun d h=>by cases h)
def LV:TI U:=⟨2,.st,48,[(0,39),(1,36)],some (.st 12),false,[(1,.nils),(1,.nils)],none⟩
theorem El:aU U Tryz.prog 41 LV:=aK [.l,.l] rfl (by kernel_rfl) rfl (by kernel_rfl) (by kernel_rfl) ⟨_,rfl⟩ rfl (by kernel_rfl) (by kernel_rfl) (fun i h1 h2=>by cases h2) (fun d h=>by cases h)
def LW:TI U:=⟨10,.st,144,[(0,3),(1,32),(4,34),(6,38),(8,41)],some (.st 15),false,[(1,.d (.int .i64) (0:Int)),(1,.d (.int .i64) (0:Int)),(1,.d (.int .u32) (0:Int)),(1,.d (.int .i64) (0:Int)),(1,.d (.int .i64) (0:Int)),(1,.d (.int .i64) (0:Int)),(1,.nils),(1,.nils),(1,.nils),(1,.nils)],none⟩
theorem Eo:aU U Tryz.prog 43 LW:=aK [.i .i64,.i .i64,.i .u32,.i .i64,.i .i64,.i .i64,.l,.l,.l,.l] rfl (by kernel_rfl) rfl (by kernel_rfl) (by kernel_rfl) ⟨_,rfl⟩ rfl (by kernel_rfl) (by kernel_rfl) (fun i h1 h2=>by cases h2) (fun d h=>by cases h)
def LY:TI U:=⟨3,.st,24,[(0,2),(1,30)],some (.st 13),true,[(1,.d (.int .i64) (0:Int)),(1,.d (.int .u32) (0:Int)),(1,.d (.int .i64) (0:Int))],none⟩
theorem Ep:aU U Tryz.prog 32 LY:=aK [.i .i64,.i .u32,.i .i64] rfl (by kernel_rfl) rfl (by kernel_rfl) (by kernel_rfl) ⟨_,rfl⟩ rfl (by kernel_rfl) (by kernel_rfl) (fun i h1 h2=>⟨rfl,by injection h1 with h1;subst h1;exact P3⟩) (fun d h=>by cases h)
def LZ:TI U:=⟨2,.st,16,[(0,2),(1,2)],some (.st 14),true,[(1,.d (.int .i64) (0:Int)),(1,.d (.int .i64) (0:Int))],none⟩
theorem Er:aU U Tryz.prog 34 LZ:=aK [.i .i64,.i .i64] rfl (by kernel_rfl) rfl (by kernel_rfl) (by kernel_rfl) ⟨_,rfl⟩ rfl (by kernel_rfl) (by kernel_rfl) (fun i h1 h2=>⟨rfl,by injection h1 with h1;subst h1;exact P4⟩) (fun d h=>by cases h)
def L0:TI U:=⟨9,.st,96,[(0,3),(1,9),(2,2),(3,61),(6,30),(8,36)],some (.st 16),false,[(1,.d (.int .i64) (0:Int)),(1,.d .str ([]:List UInt8)),(1,.d (.int .i64) (0:Int)),(1,.d (.int .i64) (0:Int)),(1,.d (.int .u32) (0:Int)),(1,.d (.int .i64) (0:Int)),(1,.d (.int .u32) (0:Int)),(1,.d (.int .i64) (0:Int)),(1,.nils)],none⟩
theorem Es:aU U Tryz.prog 63 L0:=aK [.i .i64,.s,.i .i64,.i .i64,.i .u32,.i .i64,.i .u32,.i .i64,.l] rfl (by kernel_rfl) rfl (by kernel_rfl) (by kernel_rfl) ⟨_,rfl⟩ rfl (by kernel_rfl) (by kernel_rfl) (fun i h1 h2=>by cases h2) (fun d h=>by cases h)
def L3:TI U:=⟨1,.int .i64,8,[],some (.int .i64),false,[(1,.d (.int .i64) (0:Int))],none⟩
theorem Et:aU U Tryz.prog 50 L3:=aK [.i .i64] rfl (by kernel_rfl) rfl (by kernel_rfl) (by kernel_rfl) (show Tryz.prog.underlying 50=some (.int .i64)by kernel_rfl) (by kernel_rfl) (by kernel_rfl) (by kernel_rfl) (fun i h1 h2=>by cases h2) (fun d h=>by cases h)
def L4:TI U:=⟨21,.st,216,[(0,43),(10,45),(18,3),(19,46),(20,28)],some (.st 17),false,[(1,.d (.int .i64) (0:Int)),(1,.d (.int .i64) (0:Int)),(1,.d (.int .u32) (0:Int)),(1,.d (.int .i64) (0:Int)),(1,.d (.int .i64) (0:Int)),(1,.d (.int .i64) (0:Int)),(1,.nils),(1,.nils),(1,.nils),(1,.nils),(1,.d (.int .u32) (0:Int)),(1,.d (.int .u32) (0:Int)),(1,.d (.int .u32) (0:Int)),(1,.d (.int .u32) (0:Int)),(1,.d (.int .u32) (0:Int)),(1,.d (.int .u32) (0:Int)),(1,.d (.int .u32) (0:Int)),(1,.d (.int .u32) (0:Int)),(1,.d (.int .i64) (0:Int)),(1,.nils),(1,.d (.int .u32) (0:Int))],none⟩
theorem Eu:aU U Tryz.prog 48 L4:=aK [.i .i64,.i .i64,.i .u32,.i .i64,.i .i64,.i .i64,.l,.l,.l,.l,.i .u32,.i .u32,.i .u32,.i .u32,.i .u32,.i .u32,.i .u32,.i .u32,.i .i64,.l,.i .u32] rfl (by kernel_rfl) rfl (by kernel_rfl) (by kernel_rfl) ⟨_,rfl⟩ rfl (by kernel_rfl) (by kernel_rfl) (fun i h1 h2=>by cases h2) (fun d h=>by cases h)
def L5:TI U:=⟨1,.sl 3,24,[],some (.sl (.int .i64)),false,[(1,.nils)],none⟩
theorem Ev:aU U Tryz.prog 46 L5:=aK [.l] rfl (by kernel_rfl) rfl (by kernel_rfl) (by kernel_rfl) (show Tryz.prog.underlying 46=some (.slice 3)by kernel_rfl) (by kernel_rfl) (by kernel_rfl) (by kernel_rfl) (fun i h1 h2=>by cases h2) (fun d h=>by cases h)
def L6:TI U:=⟨3,.st,40,[(0,3),(1,2),(2,79)],some (.st 7),false,[(1,.d (.int .i64) (0:Int)),(1,.d (.int .i64) (0:Int)),(1,.nils)],none⟩
theorem Ew:aU U Tryz.prog 81 L6:=aK [.i .i64,.i .i64,.l] rfl (by kernel_rfl) rfl (by kernel_rfl) (by kernel_rfl) ⟨_,rfl⟩ rfl (by kernel_rfl) (by kernel_rfl) (fun i h1 h2=>by cases h2) (fun d h=>by cases h)
def L7:TI U:=⟨1,.sl 149,24,[],some (.sl (.st 6)),false,[(1,.nils)],none⟩
theorem Ex:aU U Tryz.prog 79 L7:=aK [.l] rfl (by kernel_rfl) rfl (by kernel_rfl) (by kernel_rfl) (show Tryz.prog.underlying 79=some (.slice 149)by kernel_rfl) (by kernel_rfl) (by kernel_rfl) (by kernel_rfl) (fun i h1 h2=>by cases h2) (fun d h=>by cases h)
def FC:TI U:=⟨2,.st,24,[(0,9),(1,2)],some (.st 6),true,[(1,.d .str ([]:List UInt8)),(1,.d (.int .i64) (0:Int))],none⟩
theorem A3:aU U Tryz.prog 149 FC:=aK [.s,.i .i64] rfl (by kernel_rfl) rfl (by kernel_rfl) (by kernel_rfl) ⟨_,rfl⟩ rfl (by kernel_rfl) (by kernel_rfl) (fun i h1 h2=>⟨rfl,by injection h1 with h1;subst h1;exact Lt⟩) (fun d h=>by cases h)
def FD:TI U:=⟨1,.int .u64,8,[],some (.int .u64),false,[(1,.d (.int .u64) (0:Int))],none⟩
theorem A4:aU U Tryz.prog 283 FD:=aK [.i .u64] rfl (by kernel_rfl) rfl (by kernel_rfl) (by kernel_rfl) (show Tryz.prog.underlying 283=some (.int .u64)by kernel_rfl) (by kernel_rfl) (by kernel_rfl) (by kernel_rfl) (fun i h1 h2=>by cases h2) (fun d h=>by cases h)
def L8:TI U:=⟨1,.sl 97,24,[],some (.sl (.st 9)),false,[(1,.nils)],none⟩
theorem Ey:aU U Tryz.prog 86 L8:=aK [.l] rfl (by kernel_rfl) rfl (by kernel_rfl) (by kernel_rfl) (show Tryz.prog.underlying 86=some (.slice 97)by kernel_rfl) (by kernel_rfl) (by kernel_rfl) (by kernel_rfl) (fun i h1 h2=>by cases h2) (fun d h=>by cases h)
def L9:TI U:=⟨13,.st,104,[(0,59),(2,45),(10,3),(11,94),(12,95)],some (.st 9),false,[(1,.d (.int .i64) (0:Int)),(1,.d (.int .u32) (0:Int)),(1,.d (.int .u32) (0:Int)),(1,.d (.int .u32) (0:Int)),(1,.d (.int .u32) (0:Int)),(1,.d (.int .u32) (0:Int)),(1,.d (.int .u32) (0:Int)),(1,.d (.int .u32) (0:Int)),(1,.d (.int .u32) (0:Int)),(1,.d (.int .u32) (0:Int)),(1,.d (.int .i64) (0:Int)),(1,.nils),(1,.nils)],none⟩
theorem Ez:aU U Tryz.prog 97 L9:=aK [.i .i64,.i .u32,.i .u32,.i .u32,.i .u32,.i .u32,.i .u32,.i .u32,.i .u32,.i .u32,.i .i64,.l,.l] rfl (by kernel_rfl) rfl (by kernel_rfl) (by kernel_rfl) ⟨_,rfl⟩ rfl (by kernel_rfl) (by kernel_rfl) (fun i h1 h2=>by cases h2) (fun d h=>by cases h)
def Me:TI U:=⟨1,.sl 224,24,[],some (.sl (.st 3)),false,[(1,.nils)],none⟩
theorem EA:aU U Tryz.prog 94 Me:=aK [.l] rfl (by kernel_rfl) rfl (by kernel_rfl) (by kernel_rfl) (show Tryz.prog.underlying 94=some (.slice 224)by kernel_rfl) (by kernel_rfl) (by kernel_rfl) (by kernel_rfl) (fun i h1 h2=>by cases h2) (fun d h=>by cases h)
def FE:TI U:=⟨17,.st,120,[(0,59),(2,45),(10,3),(11,9),(12,54),(15,30)],some (.st 3),false,[(1,.d (.int .i64) (0:Int)),(1,.d (.int .u32) (0:Int)),(1,.d (.int .u32) (0:Int)),(1,.d (.int .u32) (0:Int)),(1,.d (.int .u32) (0:Int)),(1,.d (.int .u32) (0:Int)),(1,.d (.int .u32) (0:Int)),(1,.d (.int .u32) (0:Int)),(1,.d (.int .u32) (0:Int)),(1,.d (.int .u32) (0:Int)),(1,.d (.int .i64) (0:Int)),(1,.d .str ([]:List UInt8)),(1,.d (.int .i64) (0:Int)),(1,.d .str ([]:List UInt8)),(1,.d (.int .i64) (0:Int)),(1,.d (.int .u32) (0:Int)),(1,.d (.int .i64) (0:Int))],none⟩
theorem A5:aU U Tryz.prog 224 FE:=aK [.i .i64,.i .u32,.i .u32,.i .u32,.i .u32,.i .u32,.i .u32,.i .u32,.i .u32,.i .u32,.i .i64,.s,.i .i64,.s,.i .i64,.i .u32,.i .i64] rfl (by kernel_rfl) rfl (by kernel_rfl) (by kernel_rfl) ⟨_,rfl⟩ rfl (by kernel_rfl) (by kernel_rfl) (fun i h1 h2=>by cases h2) (fun d h=>by cases h)
def Mf:TI U:=⟨3,.st,32,[(0,3),(1,9),(2,2)],some (.st 1),true,[(1,.d (.int .i64) (0:Int)),(1,.d .str ([]:List UInt8)),(1,.d (.int .i64) (0:Int))],none⟩
theorem EB:aU U Tryz.prog 54 Mf:=aK [.i .i64,.s,.i .i64] rfl (by kernel_rfl) rfl (by kernel_rfl) (by kernel_rfl) ⟨_,rfl⟩ rfl (by kernel_rfl) (by kernel_rfl) (fun i h1 h2=>⟨rfl,by injection h1 with h1;subst h1;exact P5⟩) (fun d h=>by cases h)
def Mg:TI U:=⟨1,.sl 104,24,[],some (.sl (.st 8)),false,[(1,.nils)],none⟩
theorem EC:aU U Tryz.prog 95 Mg:=aK [.l] rfl (by kernel_rfl) rfl (by kernel_rfl) (by kernel_rfl) (show Tryz.prog.underlying 95=some (.slice 104)by kernel_rfl) (by kernel_rfl) (by kernel_rfl) (by kernel_rfl) (fun i h1 h2=>by cases h2) (fun d h=>by cases h)
def FF:TI U:=⟨5,.st,64,[(0,9),(1,3),(2,81)],some (.st 8),false,[(1,.d .str ([]:List UInt8)),(1,.d (.int .i64) (0:Int)),(1,.d (.int .i64) (0:Int)),(1,.d (.int .i64) (0:Int)),(1,.nils)],none⟩
theorem A6:aU U Tryz.prog 104 FF:=aK [.s,.i .i64,.i .i64,.i .i64,.l] rfl (by kernel_rfl) rfl (by kernel_rfl) (by kernel_rfl) ⟨_,rfl⟩ rfl (by kernel_rfl) (by kernel_rfl) (fun i h1 h2=>by cases h2) (fun d h=>by cases h)
def FG:TI U:=⟨1,.int .u64,8,[],some (.int .u64),false,[(1,.d (.int .u64) (0:Int))],none⟩
theorem A7:aU U Tryz.prog 216 FG:=aK [.i .u64] rfl (by kernel_rfl) rfl (by kernel_rfl) (by kernel_rfl) (show Tryz.prog.underlying 216=some (.int .u64)by kernel_rfl) (by kernel_rfl) (by kernel_rfl) (by kernel_rfl) (fun i h1 h2=>by cases h2) (fun d h=>by cases h)
def FH:TI U:=⟨2,.st,32,[(0,91),(1,167)],none,false,[(1,.nils),(1,.nilm)],none⟩
theorem A8:aU U Tryz.prog 169 FH:=aK [.l,.m] rfl (by kernel_rfl) rfl (by kernel_rfl) (by kernel_rfl) ⟨_,rfl⟩ rfl (by kernel_rfl) (by kernel_rfl) (fun i h1 h2=>by cases h2) (fun d h=>by cases h)
def Mi:TI U:=⟨1,.int .u64,8,[],some (.int .u64),false,[(1,.d (.int .u64) (0:Int))],none⟩
theorem ED:aU U Tryz.prog 24 Mi:=aK [.i .u64] rfl (by kernel_rfl) rfl (by kernel_rfl) (by kernel_rfl) (show Tryz.prog.underlying 24=some (.int .u64)by kernel_rfl) (by kernel_rfl) (by kernel_rfl) (by kernel_rfl) (fun i h1 h2=>by cases h2) (fun d h=>by cases h)
def FI:TI U:=⟨1,.fn,8,[],none,false,[(1,.nilf)],none⟩
theorem A9:aU U Tryz.prog 147 FI:=aK [.f] rfl (by kernel_rfl) rfl (by kernel_rfl) (by kernel_rfl) ⟨_,rfl⟩ (by kernel_rfl) (by kernel_rfl) (by kernel_rfl) (fun i h1 h2=>by cases h2) (fun d h=>by cases h)
def FJ:TI U:=⟨1,.fn,8,[],none,false,[(1,.nilf)],none⟩
theorem Ba:aU U Tryz.prog 181 FJ:=aK [.f] rfl (by kernel_rfl) rfl (by kernel_rfl) (by kernel_rfl) ⟨_,rfl⟩ (by kernel_rfl) (by kernel_rfl) (by kernel_rfl) (fun i h1 h2=>by cases h2) (fun d h=>by cases h)
def FK:TI U:=⟨1,.ptr 3,8,[],none,false,[(1,.nilp)],none⟩
theorem Bb:aU U Tryz.prog 287 FK:=aK [.p] rfl (by kernel_rfl) rfl (by kernel_rfl) (by kernel_rfl) (show Tryz.prog.underlying 287=some (.pointer 3)by kernel_rfl) (by kernel_rfl) (by kernel_rfl) (by kernel_rfl) (fun i h1 h2=>by cases h2) (fun d h=>by cases h)
def FL:TI U:=⟨1,.fn,8,[],none,false,[(1,.nilf)],none⟩
theorem Bc:aU U Tryz.prog 161 FL:=aK [.f] rfl (by kernel_rfl) rfl (by kernel_rfl) (by kernel_rfl) ⟨_,rfl⟩ (by kernel_rfl) (by kernel_rfl) (by kernel_rfl) (fun i h1 h2=>by cases h2) (fun d h=>by cases h)
def FM:TI U:=⟨4,.st,4,[(0,4),(1,4),(2,4),(3,4)],some (.st 18),true,[(1,.d .bool false),(1,.d .bool false),(1,.d .bool false),(1,.d .bool false)],none⟩
theorem Bd:aU U Tryz.prog 172 FM:=aK [.b,.b,.b,.b] rfl (by kernel_rfl) rfl (by kernel_rfl) (by kernel_rfl) ⟨_,rfl⟩ rfl (by kernel_rfl) (by kernel_rfl) (fun i h1 h2=>⟨rfl,by injection h1 with h1;subst h1;exact Lw⟩) (fun d h=>by cases h)
def QY:TI U:=⟨1,.int .u8,1,[],some (.int .u8),false,[(1,.d (.int .u8) (0:Int))],none⟩
theorem IP:aU U Tryz.prog 5 QY:=aK [.i .u8] rfl (by kernel_rfl) rfl (by kernel_rfl) (by kernel_rfl) (show Tryz.prog.underlying 5=some (.int .u8)by kernel_rfl) (by kernel_rfl) (by kernel_rfl) (by kernel_rfl) (fun i h1 h2=>by cases h2) (fun d h=>by cases h)
def Mj:TI U:=⟨1,.sl 59,24,[],some (.sl (.st 0)),false,[(1,.nils)],none⟩
theorem EE:aU U Tryz.prog 88 Mj:=aK [.l] rfl (by kernel_rfl) rfl (by kernel_rfl) (by kernel_rfl) (show Tryz.prog.underlying 88=some (.slice 59)by kernel_rfl) (by kernel_rfl) (by kernel_rfl) (by kernel_rfl) (fun i h1 h2=>by cases h2) (fun d h=>by cases h)
def FN:TI U:=⟨2,.arr 2 3,16,[],some (.arr 2 (.int .i64)),true,[(1,.d (.int .i64) (0:Int)),(1,.d (.int .i64) (0:Int))],none⟩
theorem Be:aU U Tryz.prog 303 FN:=aK [.i .i64,.i .i64] rfl (by kernel_rfl) rfl (by kernel_rfl) (by kernel_rfl) (show Tryz.prog.underlying 303=some (.array 2 3)by kernel_rfl) (by kernel_rfl) (by kernel_rfl) (by kernel_rfl) (fun i h1 h2=>⟨rfl,by injection h1 with h1;subst h1;exact Lz⟩) (fun d h=>by cases h)
def FO:TI U:=⟨1,.sl 50,24,[],some (.sl (.int .i64)),false,[(1,.nils)],none⟩
theorem Bf:aU U Tryz.prog 244 FO:=aK [.l] rfl (by kernel_rfl) rfl (by kernel_rfl) (by kernel_rfl) (show Tryz.prog.underlying 244=some (.slice 50)by kernel_rfl) (by kernel_rfl) (by kernel_rfl) (by kernel_rfl) (fun i h1 h2=>by cases h2) (fun d h=>by cases h)
def FP:TI U:=⟨1,.sl 36,24,[],some (.sl (.sl (.st 4))),false,[(1,.nils)],none⟩
theorem Bg:aU U Tryz.prog 249 FP:=aK [.l] rfl (by kernel_rfl) rfl (by kernel_rfl) (by kernel_rfl) (show Tryz.prog.underlying 249=some (.slice 36)by kernel_rfl) (by kernel_rfl) (by kernel_rfl) (by kernel_rfl) (fun i h1 h2=>by cases h2) (fun d h=>by cases h)
def FQ:TI U:=⟨1,.int .i64,8,[],some (.int .i64),false,[(1,.d (.int .i64) (0:Int))],none⟩
theorem Bh:aU U Tryz.prog 261 FQ:=aK [.i .i64] rfl (by kernel_rfl) rfl (by kernel_rfl) (by kernel_rfl) (show Tryz.prog.underlying 261=some (.int .i64)by kernel_rfl) (by kernel_rfl) (by kernel_rfl) (by kernel_rfl) (fun i h1 h2=>by cases h2) (fun d h=>by cases h)
def Ml:TI U:=⟨63,.arr 3 48,648,[],some (.arr 3 (.st 17)),false,[(1,.d (.int .i64) (0:Int)),(1,.d (.int .i64) (0:Int)),(1,.d (.int .u32) (0:Int)),(1,.d (.int .i64) (0:Int)),(1,.d (.int .i64) (0:Int)),(1,.d (.int .i64) (0:Int)),(1,.nils),(1,.nils),(1,.nils),(1,.nils),(1,.d (.int .u32) (0:Int)),(1,.d (.int .u32) (0:Int)),(1,.d (.int .u32) (0:Int)),(1,.d (.int .u32) (0:Int)),(1,.d (.int .u32) (0:Int)),(1,.d (.int .u32) (0:Int)),(1,.d (.int .u32) (0:Int)),(1,.d (.int .u32) (0:Int)),(1,.d (.int .i64) (0:Int)),(1,.nils),(1,.d (.int .u32) (0:Int)),(1,.d (.int .i64) (0:Int)),(1,.d (.int .i64) (0:Int)),(1,.d (.int .u32) (0:Int)),(1,.d (.int .i64) (0:Int)),(1,.d (.int .i64) (0:Int)),(1,.d (.int .i64) (0:Int)),(1,.nils),(1,.nils),(1,.nils),(1,.nils),(1,.d (.int .u32) (0:Int)),(1,.d (.int .u32) (0:Int)),(1,.d (.int .u32) (0:Int)),(1,.d (.int .u32) (0:Int)),(1,.d (.int .u32) (0:Int)),(1,.d (.int .u32) (0:Int)),(1,.d (.int .u32) (0:Int)),(1,.d (.int .u32) (0:Int)),(1,.d (.int .i64) (0:Int)),(1,.nils),(1,.d (.int .u32) (0:Int)),(1,.d (.int .i64) (0:Int)),(1,.d (.int .i64) (0:Int)),(1,.d (.int .u32) (0:Int)),(1,.d (.int .i64) (0:Int)),(1,.d (.int .i64) (0:Int)),(1,.d (.int .i64) (0:Int)),(1,.nils),(1,.nils),(1,.nils),(1,.nils),(1,.d (.int .u32) (0:Int)),(1,.d (.int .u32) (0:Int)),(1,.d (.int .u32) (0:Int)),(1,.d (.int .u32) (0:Int)),(1,.d (.int .u32) (0:Int)),(1,.d (.int .u32) (0:Int)),(1,.d (.int .u32) (0:Int)),(1,.d (.int .u32) (0:Int)),(1,.d (.int .i64) (0:Int)),(1,.nils),(1,.d (.int .u32) (0:Int))],none⟩
theorem EF:aU U Tryz.prog 49 Ml:=aK [.i .i64,.i .i64,.i .u32,.i .i64,.i .i64,.i .i64,.l,.l,.l,.l,.i .u32,.i .u32,.i .u32,.i .u32,.i .u32,.i .u32,.i .u32,.i .u32,.i .i64,.l,.i .u32,.i .i64,.i .i64,.i .u32,.i .i64,.i .i64,.i .i64,.l,.l,.l,.l,.i .u32,.i .u32,.i .u32,.i .u32,.i .u32,.i .u32,.i .u32,.i .u32,.i .i64,.l,.i .u32,.i .i64,.i .i64,.i .u32,.i .i64,.i .i64,.i .i64,.l,.l,.l,.l,.i .u32,.i .u32,.i .u32,.i .u32,.i .u32,.i .u32,.i .u32,.i .u32,.i .i64,.l,.i .u32] rfl (by kernel_rfl) rfl (by kernel_rfl) (by kernel_rfl) (show Tryz.prog.underlying 49=some (.array 3 48)by kernel_rfl) (by kernel_rfl) (by kernel_rfl) (by kernel_rfl) (fun i h1 h2=>by cases h2) (fun d h=>by cases h)
def Mm:TI U:=⟨1,.sl 56,24,[],some (.sl (.st 19)),false,[(1,.nils)],none⟩
theorem EG:aU U Tryz.prog 22 Mm:=aK [.l] rfl (by kernel_rfl) rfl (by kernel_rfl) (by kernel_rfl) (show Tryz.prog.underlying 22=some (.slice 56)by kernel_rfl) (by kernel_rfl) (by kernel_rfl) (by kernel_rfl) (fun i h1 h2=>by cases h2) (fun d h=>by cases h)
def Mn:TI U:=⟨6,.st,56,[(0,3),(1,3),(2,3),(3,54)],some (.st 19),true,[(1,.d (.int .i64) (0:Int)),(1,.d (.int .i64) (0:Int)),(1,.d (.int .i64) (0:Int)),(1,.d (.int .i64) (0:Int)),(1,.d .str ([]:List UInt8)),(1,.d (.int .i64) (0:Int))],none⟩
theorem EH:aU U Tryz.prog 56 Mn:=aK [.i .i64,.i .i64,.i .i64,.i .i64,.s,.i .i64] rfl (by kernel_rfl) rfl (by kernel_rfl) (by kernel_rfl) ⟨_,rfl⟩ rfl (by kernel_rfl) (by kernel_rfl) (fun i h1 h2=>⟨rfl,by injection h1 with h1;subst h1;exact P6⟩) (fun d h=>by cases h)
def FR:TI U:=⟨1,.fn,8,[],none,false,[(1,.nilf)],none⟩
theorem Bi:aU U Tryz.prog 154 FR:=aK [.f] rfl (by kernel_rfl) rfl (by kernel_rfl) (by kernel_rfl) ⟨_,rfl⟩ (by kernel_rfl) (by kernel_rfl) (by kernel_rfl) (fun i h1 h2=>by cases h2) (fun d h=>by cases h)
def FS:TI U:=⟨1,.fn,8,[],none,false,[(1,.nilf)],none⟩
theorem Bj:aU U Tryz.prog 115 FS:=aK [.f] rfl (by kernel_rfl) rfl (by kernel_rfl) (by kernel_rfl) ⟨_,rfl⟩ (by kernel_rfl) (by kernel_rfl) (by kernel_rfl) (fun i h1 h2=>by cases h2) (fun d h=>by cases h)
def FT:TI U:=⟨1,.sl 2,24,[],some (.sl (.int .i64)),false,[(1,.nils)],none⟩
theorem Bk:aU U Tryz.prog 276 FT:=aK [.l] rfl (by kernel_rfl) rfl (by kernel_rfl) (by kernel_rfl) (show Tryz.prog.underlying 276=some (.slice 2)by kernel_rfl) (by kernel_rfl) (by kernel_rfl) (by kernel_rfl) (fun i h1 h2=>by cases h2) (fun d h=>by cases h)
def FU:TI U:=⟨1,.sl 26,24,[],some (.sl (.sl (.st 3))),false,[(1,.nils)],none⟩
theorem Bl:aU U Tryz.prog 300 FU:=aK [.l] rfl (by kernel_rfl) rfl (by kernel_rfl) (by kernel_rfl) (show Tryz.prog.underlying 300=some (.slice 26)by kernel_rfl) (by kernel_rfl) (by kernel_rfl) (by kernel_rfl) (fun i h1 h2=>by cases h2) (fun d h=>by cases h)
def FV:TI U:=⟨1,.fn,8,[],none,false,[(1,.nilf)],none⟩
theorem Bm:aU U Tryz.prog 198 FV:=aK [.f] rfl (by kernel_rfl) rfl (by kernel_rfl) (by kernel_rfl) ⟨_,rfl⟩ (by kernel_rfl) (by kernel_rfl) (by kernel_rfl) (fun i h1 h2=>by cases h2) (fun d h=>by cases h)
def Mo:TI U:=⟨1,.sl 63,24,[],some (.sl (.st 16)),false,[(1,.nils)],none⟩
theorem EI:aU U Tryz.prog 27 Mo:=aK [.l] rfl (by kernel_rfl) rfl (by kernel_rfl) (by kernel_rfl) (show Tryz.prog.underlying 27=some (.slice 63)by kernel_rfl) (by kernel_rfl) (by kernel_rfl) (by kernel_rfl) (fun i h1 h2=>by cases h2) (fun d h=>by cases h)
def FW:TI U:=⟨1,.fn,8,[],none,false,[(1,.nilf)],none⟩
theorem Bn:aU U Tryz.prog 158 FW:=aK [.f] rfl (by kernel_rfl) rfl (by kernel_rfl) (by kernel_rfl) ⟨_,rfl⟩ (by kernel_rfl) (by kernel_rfl) (by kernel_rfl) (fun i h1 h2=>by cases h2) (fun d h=>by cases h)
def FX:TI U:=⟨1,.fn,8,[],none,false,[(1,.nilf)],none⟩
theorem Bo:aU U Tryz.prog 205 FX:=aK [.f] rfl (by kernel_rfl) rfl (by kernel_rfl) (by kernel_rfl) ⟨_,rfl⟩ (by kernel_rfl) (by kernel_rfl) (by kernel_rfl) (fun i h1 h2=>by cases h2) (fun d h=>by cases h)
def Mq:TI U:=⟨1,.int .i32,4,[],some (.int .i32),false,[(1,.d (.int .i32) (0:Int))],none⟩
theorem EJ:aU U Tryz.prog 21 Mq:=aK [.i .i32] rfl (by kernel_rfl) rfl (by kernel_rfl) (by kernel_rfl) (show Tryz.prog.underlying 21=some (.int .i32)by kernel_rfl) (by kernel_rfl) (by kernel_rfl) (by kernel_rfl) (fun i h1 h2=>by cases h2) (fun d h=>by cases h)
def FY:TI U:=⟨1,.fn,8,[],none,false,[(1,.nilf)],none⟩
theorem Bp:aU U Tryz.prog 209 FY:=aK [.f] rfl (by kernel_rfl) rfl (by kernel_rfl) (by kernel_rfl) ⟨_,rfl⟩ (by kernel_rfl) (by kernel_rfl) (by kernel_rfl) (fun i h1 h2=>by cases h2) (fun d h=>by cases h)
def FZ:TI U:=⟨2,.arr 2 2,16,[],some (.arr 2 (.int .i64)),true,[(1,.d (.int .i64) (0:Int)),(1,.d (.int .i64) (0:Int))],none⟩
theorem Bq:aU U Tryz.prog 245 FZ:=aK [.i .i64,.i .i64] rfl (by kernel_rfl) rfl (by kernel_rfl) (by kernel_rfl) (show Tryz.prog.underlying 245=some (.array 2 2)by kernel_rfl) (by kernel_rfl) (by kernel_rfl) (by kernel_rfl) (fun i h1 h2=>⟨rfl,by injection h1 with h1;subst h1;exact LC⟩) (fun d h=>by cases h)
def Mr:TI U:=⟨1,.ptr 48,8,[],none,false,[(1,.nilp)],none⟩
theorem EK:aU U Tryz.prog 57 Mr:=aK [.p] rfl (by kernel_rfl) rfl (by kernel_rfl) (by kernel_rfl) (show Tryz.prog.underlying 57=some (.pointer 48)by kernel_rfl) (by kernel_rfl) (by kernel_rfl) (by kernel_rfl) (fun i h1 h2=>by cases h2) (fun d h=>by cases h)
def F2:TI U:=⟨1,.fn,8,[],none,false,[(1,.nilf)],none⟩
theorem Br:aU U Tryz.prog 163 F2:=aK [.f] rfl (by kernel_rfl) rfl (by kernel_rfl) (by kernel_rfl) ⟨_,rfl⟩ (by kernel_rfl) (by kernel_rfl) (by kernel_rfl) (fun i h1 h2=>by cases h2) (fun d h=>by cases h)
def F3:TI U:=⟨1,.fn,8,[],none,false,[(1,.nilf)],none⟩
theorem Bt:aU U Tryz.prog 193 F3:=aK [.f] rfl (by kernel_rfl) rfl (by kernel_rfl) (by kernel_rfl) ⟨_,rfl⟩ (by kernel_rfl) (by kernel_rfl) (by kernel_rfl) (fun i h1 h2=>by cases h2) (fun d h=>by cases h)
def F4:TI U:=⟨1,.fn,8,[],none,false,[(1,.nilf)],none⟩
theorem Bu:aU U Tryz.prog 241 F4:=aK [.f] rfl (by kernel_rfl) rfl (by kernel_rfl) (by kernel_rfl) ⟨_,rfl⟩ (by kernel_rfl) (by kernel_rfl) (by kernel_rfl) (fun i h1 h2=>by cases h2) (fun d h=>by cases h)
def cq:KD U:=⟨59,3,.st 0,.int .i64,(inferInstance:DecidableEq bD),(fun x:bD=>Value.agg (AK x).toArray),(0:Int)⟩
theorem IQ:B7 Tryz.prog U cq:=⟨ye (α:=bD) ⟨_,rfl⟩ (by kernel_rfl) (AW) (fun em x w=>by kernel_rfl) (fun x=>rfl),fun Y S x vs v hd ha=>by rw[AL hd]at ha;exact ha,n3 AX (Eq.refl _) (by kernel_rfl)⟩
def F5:TI U:=⟨1,.mp 59 3,8,[],none,false,[(1,.nilm)],some cq⟩
theorem Bv:aU U Tryz.prog 167 F5:=aK [.m] rfl (by kernel_rfl) rfl (by kernel_rfl) (by kernel_rfl) (show Tryz.prog.underlying 167=some (.map 59 3)by kernel_rfl) (by kernel_rfl) (by kernel_rfl) (by kernel_rfl) (fun i h1 h2=>by cases h2) (fun d h=>by injection h with h;subst h;exact⟨IQ,by kernel_rfl⟩)
def pR:KD U:=⟨9,70,.str,.st 3,(inferInstance:DecidableEq (List UInt8)),(fun x:List UInt8=>sv x),(⟨⟨0,0⟩,[0,0,0,0,0,0,0,0],0,[],⟨0,[],0⟩,⟨0,0⟩⟩:aj)⟩
theorem IR:B7 Tryz.prog U pR:=⟨eV.str (by kernel_rfl),fun Y S x vs v hd ha=>by have e:=(aC.inv hd).1;rw[e]at ha;exact(List.cons.inj ha).1.symm,n3 kQ (Eq.refl _) (by kernel_rfl)⟩
def F6:TI U:=⟨1,.mp 9 70,8,[],none,false,[(1,.nilm)],some pR⟩
theorem Bw:aU U Tryz.prog 138 F6:=aK [.m] rfl (by kernel_rfl) rfl (by kernel_rfl) (by kernel_rfl) (show Tryz.prog.underlying 138=some (.map 9 70)by kernel_rfl) (by kernel_rfl) (by kernel_rfl) (by kernel_rfl) (fun i h1 h2=>by cases h2) (fun d h=>by injection h with h;subst h;exact⟨IR,by kernel_rfl⟩)
def ud:KD U:=⟨9,133,.str,.st 5,(inferInstance:DecidableEq (List UInt8)),(fun x:List UInt8=>sv x),(⟨⟨⟨0,0⟩,0⟩,[],0,⟨0,0⟩⟩:bF)⟩
theorem IS:B7 Tryz.prog U ud:=⟨eV.str (by kernel_rfl),fun Y S x vs v hd ha=>by have e:=(aC.inv hd).1;rw[e]at ha;exact(List.cons.inj ha).1.symm,n3 ki (Eq.refl _) (by kernel_rfl)⟩
def F7:TI U:=⟨1,.mp 9 133,8,[],none,false,[(1,.nilm)],some ud⟩
theorem By:aU U Tryz.prog 219 F7:=aK [.m] rfl (by kernel_rfl) rfl (by kernel_rfl) (by kernel_rfl) (show Tryz.prog.underlying 219=some (.map 9 133)by kernel_rfl) (by kernel_rfl) (by kernel_rfl) (by kernel_rfl) (fun i h1 h2=>by cases h2) (fun d h=>by injection h with h;subst h;exact⟨IS,by kernel_rfl⟩)
def vk:KD U:=⟨59,45,.st 0,.arr 8 (.int .u32),(inferInstance:DecidableEq bD),(fun x:bD=>Value.agg (AK x).toArray),([0,0,0,0,0,0,0,0]:List (Int))⟩
theorem Ms:B7 Tryz.prog U vk:=⟨ye (α:=bD) ⟨_,rfl⟩ (by kernel_rfl) (AW) (fun em x w=>by kernel_rfl) (fun x=>rfl),fun Y S x vs v hd ha=>by rw[AL hd]at ha;exact ha,n3 wV (Eq.refl _) (by kernel_rfl)⟩
def Mt:TI U:=⟨1,.mp 59 45,8,[],none,false,[(1,.nilm)],some vk⟩
theorem EL:aU U Tryz.prog 93 Mt:=aK [.m] rfl (by kernel_rfl) rfl (by kernel_rfl) (by kernel_rfl) (show Tryz.prog.underlying 93=some (.map 59 45)by kernel_rfl) (by kernel_rfl) (by kernel_rfl) (by kernel_rfl) (fun i h1 h2=>by cases h2) (fun d h=>by injection h with h;subst h;exact⟨Ms,by kernel_rfl⟩)
def QZ:cM U:= [(3,QU),(9,QV),(110,Fv),(59,LD),(28,LF),(45,LG),(26,LH),(70,LI),(66,LJ),(2,QW),(30,LK),(108,Fx),(107,Fy),(75,LM),(73,LN),(144,Fz),(36,LO),(61,LP),(91,LQ),(25,LR),(4,QX),(35,LS),(128,FA),(38,LT),(39,LU),(133,FB),(41,LV),(43,LW),(32,LY),(34,LZ),(63,L0),(50,L3),(48,L4),(46,L5),(81,L6),(79,L7),(149,FC),(283,FD),(86,L8),(97,L9),(94,Me),(224,FE),(54,Mf),(95,Mg),(104,FF),(216,FG),(169,FH),(167,F5),(24,Mi),(147,FI),(181,FJ),(287,FK),(161,FL),(172,FM),(5,QY),(88,Mj),(303,FN),(244,FO),(249,FP),(261,FQ),(49,Ml),(22,Mm),(56,Mn),(154,FR),(115,FS),(276,FT),(300,FU),(198,FV),(27,Mo),(138,F6),(219,F7),(93,Mt),(158,FW),(205,FX),(21,Mq),(209,FY),(245,FZ),(57,Mr),(163,F2),(193,F3),(241,F4)]
theorem bT:bg U Tryz.prog QZ:=al AX (al IK (al kg (al D8 (al D9 (al wV (al Ea (al kQ (al Eb (al IL (al Ec (al AY (al AZ (al Ed (al Ee (al uc (al Ef (al kR (al Eg (al Eh (al IM (al Ei (al kh (al Ej (al Ek (al ki (al El (al Eo (al Ep (al Er (al Es (al Et (al Eu (al Ev (al Ew (al Ex (al A3 (al A4 (al Ey (al Ez (al EA (al A5 (al EB (al EC (al A6 (al A7 (al A8 (al Bv (al ED (al A9 (al Ba (al Bb (al Bc (al Bd (al IP (al EE (al Be (al Bf (al Bg (al Bh (al EF (al EG (al EH (al Bi (al Bj (al Bk (al Bl (al Bm (al EI (al Bw (al By (al EL (al Bn (al Bo (al EJ (al Bp (al Bq (al EK (al Br (al Bt (al Bu (BI)))))))))))))))))))))))))))))))))))))))))))))))))))))))))))))))))))))))))))))))))
end Go.Proofs.YtmpeiadlohbikaaGreatDoor.V

/- Types of this seat as data: printed by ai.py. -/
import Derived.Test.YtmpeiadlohbikaaGreatDoorYs13
import Derived.Test.YtmpeiadlohbikaaGreatDoorProg
set_option linter.unusedVariables false
set_option linter.unusedSimpArgs false
set_option maxRecDepth 20000
namespace Go.Proofs.YtmpeiadlohbikaaGreatDoor.V
open Go.RowKit
structure bF where
 origin:Int
 seq:Int
deriving DecidableEq,Inhabited
structure gG where
 act:Int
 name:List UInt8
 val:Int
deriving DecidableEq,Inhabited
structure aj where
 time:Int
 origin:Int
deriving DecidableEq,Inhabited
structure ah where
 id:bF
 deps:List (Int)
 n:Int
 key:List UInt8
 op:gG
 at_:aj
deriving DecidableEq,Inhabited
structure am where
 id:bF
 n:Int
deriving DecidableEq,Inhabited
structure bk where
 tag:am
 field:List UInt8
 val:Int
 at_:aj
deriving DecidableEq,Inhabited
structure aF where
 field:List UInt8
 val:Int
deriving DecidableEq,Inhabited
structure be where
 kind:Int
 val:Int
 items:List (aF)
deriving DecidableEq,Inhabited
structure Bd where
 key:List UInt8
 n:Int
 v:be
deriving DecidableEq,Inhabited
structure Kq where
 id:bF
 deps:List (Int)
 group:Int
 ops:List (ah)
 looks:List (Bd)
deriving DecidableEq,Inhabited
structure bD where
 tag:am
 elem:List UInt8
deriving DecidableEq,Inhabited
structure br where
 adds:List (bD)
 gone:List (am)
deriving DecidableEq,Inhabited
structure bw where
 puts:List (bk)
 gone:List (am)
deriving DecidableEq,Inhabited
structure bT where
 val:Int
 at_:aj
deriving DecidableEq,Inhabited
structure ci where
 plus:Int
 minus:Int
deriving DecidableEq,Inhabited
structure aG where
 kind:Int
 reg:bT
 num:ci
 set:br
 map:bw
deriving DecidableEq,Inhabited
structure ax where
 act:Int
 name:List UInt8
 val:Int
 tag:am
 at_:aj
 tags:List (am)
deriving DecidableEq,Inhabited
structure um where
 s:aG
 v:List (Int)
 n:Int
 has:List (Int)
 time:Int
deriving DecidableEq,Inhabited
structure iv where
 name:Bool
 val:Bool
 at_:Bool
 tags:Bool
deriving DecidableEq,Inhabited
structure e8 where
 kind:Int
 who:Int
 from_:Int
 op:gG
deriving DecidableEq,Inhabited
def ty:Nat→Type|0=>bF|1=>gG|2=>aj|3=>ah|4=>am|5=>bk|6=>aF|7=>be|8=>Bd|9=>Kq|10=>bD|11=>br|12=>bw|13=>bT|14=>ci|15=>aG|16=>ax|17=>um|18=>iv|19=>e8|_=>Unit
def Rt:RD ty bF where
 sz:=2
 fs:= [(1,.int .i64),(1,.int .u32)]
 to x:=(x.origin,x.seq,())
 toK x K:=K (x.origin,x.seq,())
 ofK:=fun(a0,a1,_) K=>K ⟨a0,a1⟩
 ixK l q K:=K (ix l q)
 eqK a b K:=K (decide (a=b))
 sz_ok:=rfl
 toK_ok _ _ h:=h
 ofK_ok:=fun(a0,a1,_) K h=>⟨_,h,rfl⟩
 ixK_ok l q K h:=⟨_,h,fun y hy=>by unfold ix;rw[hy];rfl⟩
 eqK_ok a b K h:=⟨_,h,by simp⟩
def Ru:RD ty gG where
 sz:=3
 fs:= [(1,.int .i64),(1,.str),(1,.int .i64)]
 to x:=(x.act,x.name,x.val,())
 toK x K:=K (x.act,x.name,x.val,())
 ofK:=fun(a0,a1,a2,_) K=>K ⟨a0,a1,a2⟩
 ixK l q K:=K (ix l q)
 eqK a b K:=K (decide (a=b))
 sz_ok:=rfl
 toK_ok _ _ h:=h
 ofK_ok:=fun(a0,a1,a2,_) K h=>⟨_,h,rfl⟩
 ixK_ok l q K h:=⟨_,h,fun y hy=>by unfold ix;rw[hy];rfl⟩
 eqK_ok a b K h:=⟨_,h,by simp⟩
def Rw:RD ty aj where
 sz:=2
 fs:= [(1,.int .u32),(1,.int .i64)]
 to x:=(x.time,x.origin,())
 toK x K:=K (x.time,x.origin,())
 ofK:=fun(a0,a1,_) K=>K ⟨a0,a1⟩
 ixK l q K:=K (ix l q)
 eqK a b K:=K (decide (a=b))
 sz_ok:=rfl
 toK_ok _ _ h:=h
 ofK_ok:=fun(a0,a1,_) K h=>⟨_,h,rfl⟩
 ixK_ok l q K h:=⟨_,h,fun y hy=>by unfold ix;rw[hy];rfl⟩
 eqK_ok a b K h:=⟨_,h,by simp⟩
def Rx:RD ty ah where
 sz:=17
 fs:= [(2,.st 0),(8,.arr 8 (.int .u32)),(1,.int .i64),(1,.str),(3,.st 1),(2,.st 2)]
 to x:=(x.id,x.deps,x.n,x.key,x.op,x.at_,())
 toK x K:=K (x.id,x.deps,x.n,x.key,x.op,x.at_,())
 ofK:=fun(a0,a1,a2,a3,a4,a5,_) K=>K ⟨a0,a1,a2,a3,a4,a5⟩
 ixK l q K:=K (ix l q)
 eqK a b K:=K (decide (a=b))
 sz_ok:=rfl
 toK_ok _ _ h:=h
 ofK_ok:=fun(a0,a1,a2,a3,a4,a5,_) K h=>⟨_,h,rfl⟩
 ixK_ok l q K h:=⟨_,h,fun y hy=>by unfold ix;rw[hy];rfl⟩
 eqK_ok a b K h:=⟨_,h,by simp⟩
def Ry:RD ty am where
 sz:=3
 fs:= [(2,.st 0),(1,.int .i64)]
 to x:=(x.id,x.n,())
 toK x K:=K (x.id,x.n,())
 ofK:=fun(a0,a1,_) K=>K ⟨a0,a1⟩
 ixK l q K:=K (ix l q)
 eqK a b K:=K (decide (a=b))
 sz_ok:=rfl
 toK_ok _ _ h:=h
 ofK_ok:=fun(a0,a1,_) K h=>⟨_,h,rfl⟩
 ixK_ok l q K h:=⟨_,h,fun y hy=>by unfold ix;rw[hy];rfl⟩
 eqK_ok a b K h:=⟨_,h,by simp⟩
def RA:RD ty bk where
 sz:=7
 fs:= [(3,.st 4),(1,.str),(1,.int .i64),(2,.st 2)]
 to x:=(x.tag,x.field,x.val,x.at_,())
 toK x K:=K (x.tag,x.field,x.val,x.at_,())
 ofK:=fun(a0,a1,a2,a3,_) K=>K ⟨a0,a1,a2,a3⟩
 ixK l q K:=K (ix l q)
 eqK a b K:=K (decide (a=b))
 sz_ok:=rfl
 toK_ok _ _ h:=h
 ofK_ok:=fun(a0,a1,a2,a3,_) K h=>⟨_,h,rfl⟩
 ixK_ok l q K h:=⟨_,h,fun y hy=>by unfold ix;rw[hy];rfl⟩
 eqK_ok a b K h:=⟨_,h,by simp⟩
def RB:RD ty aF where
 sz:=2
 fs:= [(1,.str),(1,.int .i64)]
 to x:=(x.field,x.val,())
 toK x K:=K (x.field,x.val,())
 ofK:=fun(a0,a1,_) K=>K ⟨a0,a1⟩
 ixK l q K:=K (ix l q)
 eqK a b K:=K (decide (a=b))
 sz_ok:=rfl
 toK_ok _ _ h:=h
 ofK_ok:=fun(a0,a1,_) K h=>⟨_,h,rfl⟩
 ixK_ok l q K h:=⟨_,h,fun y hy=>by unfold ix;rw[hy];rfl⟩
 eqK_ok a b K h:=⟨_,h,by simp⟩
def RC:RD ty be where
 sz:=3
 fs:= [(1,.int .i64),(1,.int .i64),(1,.sl (.st 6))]
 to x:=(x.kind,x.val,x.items,())
 toK x K:=K (x.kind,x.val,x.items,())
 ofK:=fun(a0,a1,a2,_) K=>K ⟨a0,a1,a2⟩
 ixK l q K:=K (ix l q)
 eqK a b K:=K (decide (a=b))
 sz_ok:=rfl
 toK_ok _ _ h:=h
 ofK_ok:=fun(a0,a1,a2,_) K h=>⟨_,h,rfl⟩
 ixK_ok l q K h:=⟨_,h,fun y hy=>by unfold ix;rw[hy];rfl⟩
 eqK_ok a b K h:=⟨_,h,by simp⟩
def RE:RD ty Bd where
 sz:=5
 fs:= [(1,.str),(1,.int .i64),(3,.st 7)]
 to x:=(x.key,x.n,x.v,())
 toK x K:=K (x.key,x.n,x.v,())
 ofK:=fun(a0,a1,a2,_) K=>K ⟨a0,a1,a2⟩
 ixK l q K:=K (ix l q)
 eqK a b K:=K (decide (a=b))
 sz_ok:=rfl
 toK_ok _ _ h:=h
 ofK_ok:=fun(a0,a1,a2,_) K h=>⟨_,h,rfl⟩
 ixK_ok l q K h:=⟨_,h,fun y hy=>by unfold ix;rw[hy];rfl⟩
 eqK_ok a b K h:=⟨_,h,by simp⟩
def RF:RD ty Kq where
 sz:=13
 fs:= [(2,.st 0),(8,.arr 8 (.int .u32)),(1,.int .i64),(1,.sl (.st 3)),(1,.sl (.st 8))]
 to x:=(x.id,x.deps,x.group,x.ops,x.looks,())
 toK x K:=K (x.id,x.deps,x.group,x.ops,x.looks,())
 ofK:=fun(a0,a1,a2,a3,a4,_) K=>K ⟨a0,a1,a2,a3,a4⟩
 ixK l q K:=K (ix l q)
 eqK a b K:=K (decide (a=b))
 sz_ok:=rfl
 toK_ok _ _ h:=h
 ofK_ok:=fun(a0,a1,a2,a3,a4,_) K h=>⟨_,h,rfl⟩
 ixK_ok l q K h:=⟨_,h,fun y hy=>by unfold ix;rw[hy];rfl⟩
 eqK_ok a b K h:=⟨_,h,by simp⟩
def Oy:RD ty bD where
 sz:=4
 fs:= [(3,.st 4),(1,.str)]
 to x:=(x.tag,x.elem,())
 toK x K:=K (x.tag,x.elem,())
 ofK:=fun(a0,a1,_) K=>K ⟨a0,a1⟩
 ixK l q K:=K (ix l q)
 eqK a b K:=K (decide (a=b))
 sz_ok:=rfl
 toK_ok _ _ h:=h
 ofK_ok:=fun(a0,a1,_) K h=>⟨_,h,rfl⟩
 ixK_ok l q K h:=⟨_,h,fun y hy=>by unfold ix;rw[hy];rfl⟩
 eqK_ok a b K h:=⟨_,h,by simp⟩
def Oz:RD ty br where
 sz:=2
 fs:= [(1,.sl (.st 10)),(1,.sl (.st 4))]
 to x:=(x.adds,x.gone,())
 toK x K:=K (x.adds,x.gone,())
 ofK:=fun(a0,a1,_) K=>K ⟨a0,a1⟩
 ixK l q K:=K (ix l q)
 eqK a b K:=K (decide (a=b))
 sz_ok:=rfl
 toK_ok _ _ h:=h
 ofK_ok:=fun(a0,a1,_) K h=>⟨_,h,rfl⟩
 ixK_ok l q K h:=⟨_,h,fun y hy=>by unfold ix;rw[hy];rfl⟩
 eqK_ok a b K h:=⟨_,h,by simp⟩
def OA:RD ty bw where
 sz:=2
 fs:= [(1,.sl (.st 5)),(1,.sl (.st 4))]
 to x:=(x.puts,x.gone,())
 toK x K:=K (x.puts,x.gone,())
 ofK:=fun(a0,a1,_) K=>K ⟨a0,a1⟩
 ixK l q K:=K (ix l q)
 eqK a b K:=K (decide (a=b))
 sz_ok:=rfl
 toK_ok _ _ h:=h
 ofK_ok:=fun(a0,a1,_) K h=>⟨_,h,rfl⟩
 ixK_ok l q K h:=⟨_,h,fun y hy=>by unfold ix;rw[hy];rfl⟩
 eqK_ok a b K h:=⟨_,h,by simp⟩
def OB:RD ty bT where
 sz:=3
 fs:= [(1,.int .i64),(2,.st 2)]
 to x:=(x.val,x.at_,())
 toK x K:=K (x.val,x.at_,())
 ofK:=fun(a0,a1,_) K=>K ⟨a0,a1⟩
 ixK l q K:=K (ix l q)
 eqK a b K:=K (decide (a=b))
 sz_ok:=rfl
 toK_ok _ _ h:=h
 ofK_ok:=fun(a0,a1,_) K h=>⟨_,h,rfl⟩
 ixK_ok l q K h:=⟨_,h,fun y hy=>by unfold ix;rw[hy];rfl⟩
 eqK_ok a b K h:=⟨_,h,by simp⟩
def OC:RD ty ci where
 sz:=2
 fs:= [(1,.int .i64),(1,.int .i64)]
 to x:=(x.plus,x.minus,())
 toK x K:=K (x.plus,x.minus,())
 ofK:=fun(a0,a1,_) K=>K ⟨a0,a1⟩
 ixK l q K:=K (ix l q)
 eqK a b K:=K (decide (a=b))
 sz_ok:=rfl
 toK_ok _ _ h:=h
 ofK_ok:=fun(a0,a1,_) K h=>⟨_,h,rfl⟩
 ixK_ok l q K h:=⟨_,h,fun y hy=>by unfold ix;rw[hy];rfl⟩
 eqK_ok a b K h:=⟨_,h,by simp⟩
def OD:RD ty aG where
 sz:=10
 fs:= [(1,.int .i64),(3,.st 13),(2,.st 14),(2,.st 11),(2,.st 12)]
 to x:=(x.kind,x.reg,x.num,x.set,x.map,())
 toK x K:=K (x.kind,x.reg,x.num,x.set,x.map,())
 ofK:=fun(a0,a1,a2,a3,a4,_) K=>K ⟨a0,a1,a2,a3,a4⟩
 ixK l q K:=K (ix l q)
 eqK a b K:=K (decide (a=b))
 sz_ok:=rfl
 toK_ok _ _ h:=h
 ofK_ok:=fun(a0,a1,a2,a3,a4,_) K h=>⟨_,h,rfl⟩
 ixK_ok l q K h:=⟨_,h,fun y hy=>by unfold ix;rw[hy];rfl⟩
 eqK_ok a b K h:=⟨_,h,by simp⟩
def OE:RD ty ax where
 sz:=9
 fs:= [(1,.int .i64),(1,.str),(1,.int .i64),(3,.st 4),(2,.st 2),(1,.sl (.st 4))]
 to x:=(x.act,x.name,x.val,x.tag,x.at_,x.tags,())
 toK x K:=K (x.act,x.name,x.val,x.tag,x.at_,x.tags,())
 ofK:=fun(a0,a1,a2,a3,a4,a5,_) K=>K ⟨a0,a1,a2,a3,a4,a5⟩
 ixK l q K:=K (ix l q)
 eqK a b K:=K (decide (a=b))
 sz_ok:=rfl
 toK_ok _ _ h:=h
 ofK_ok:=fun(a0,a1,a2,a3,a4,a5,_) K h=>⟨_,h,rfl⟩
 ixK_ok l q K h:=⟨_,h,fun y hy=>by unfold ix;rw[hy];rfl⟩
 eqK_ok a b K h:=⟨_,h,by simp⟩
def OF:RD ty um where
 sz:=21
 fs:= [(10,.st 15),(8,.arr 8 (.int .u32)),(1,.int .i64),(1,.sl (.int .i64)),(1,.int .u32)]
 to x:=(x.s,x.v,x.n,x.has,x.time,())
 toK x K:=K (x.s,x.v,x.n,x.has,x.time,())
 ofK:=fun(a0,a1,a2,a3,a4,_) K=>K ⟨a0,a1,a2,a3,a4⟩
 ixK l q K:=K (ix l q)
 eqK a b K:=K (decide (a=b))
 sz_ok:=rfl
 toK_ok _ _ h:=h
 ofK_ok:=fun(a0,a1,a2,a3,a4,_) K h=>⟨_,h,rfl⟩
 ixK_ok l q K h:=⟨_,h,fun y hy=>by unfold ix;rw[hy];rfl⟩
 eqK_ok a b K h:=⟨_,h,by simp⟩
def OG:RD ty iv where
 sz:=4
 fs:= [(1,.bool),(1,.bool),(1,.bool),(1,.bool)]
 to x:=(x.name,x.val,x.at_,x.tags,())
 toK x K:=K (x.name,x.val,x.at_,x.tags,())
 ofK:=fun(a0,a1,a2,a3,_) K=>K ⟨a0,a1,a2,a3⟩
 ixK l q K:=K (ix l q)
 eqK a b K:=K (decide (a=b))
 sz_ok:=rfl
 toK_ok _ _ h:=h
 ofK_ok:=fun(a0,a1,a2,a3,_) K h=>⟨_,h,rfl⟩
 ixK_ok l q K h:=⟨_,h,fun y hy=>by unfold ix;rw[hy];rfl⟩
 eqK_ok a b K h:=⟨_,h,by simp⟩
def OH:RD ty e8 where
 sz:=6
 fs:= [(1,.int .i64),(1,.int .i64),(1,.int .i64),(3,.st 1)]
 to x:=(x.kind,x.who,x.from_,x.op,())
 toK x K:=K (x.kind,x.who,x.from_,x.op,())
 ofK:=fun(a0,a1,a2,a3,_) K=>K ⟨a0,a1,a2,a3⟩
 ixK l q K:=K (ix l q)
 eqK a b K:=K (decide (a=b))
 sz_ok:=rfl
 toK_ok _ _ h:=h
 ofK_ok:=fun(a0,a1,a2,a3,_) K h=>⟨_,h,rfl⟩
 ixK_ok l q K h:=⟨_,h,fun y hy=>by unfold ix;rw[hy];rfl⟩
 eqK_ok a b K h:=⟨_,h,by simp⟩
def RG:RD ty Unit where
 sz:=0
 fs:= []
 to x:=()
 toK x K:=False
 ofK:=fun _ _=>False
 ixK _ _ _:=False
 eqK _ _ _:=False
 sz_ok:=rfl
 toK_ok _ _ h:=h.elim
 ofK_ok _ _ h:=h.elim
 ixK_ok _ _ _ h:=h.elim
 eqK_ok _ _ _ h:=h.elim
def U:cw where
 ty:=ty
 rd:=fun|0=>Rt|1=>Ru|2=>Rw|3=>Rx|4=>Ry|5=>RA|6=>RB|7=>RC|8=>RE|9=>RF|10=>Oy|11=>Oz|12=>OA|13=>OB|14=>OC|15=>OD|16=>OE|17=>OF|18=>OG|19=>OH|_+20=>RG
def Be(a:bF):List Value:= [.int .i64 a.origin,.int .u32 a.seq]
theorem Bf{Y:List Nat}{S:World→Prop}{a:bF}{vs:List Value}(h:aK U Y S (.st 0) a vs):vs=Be a:=by
 obtain⟨h0,_⟩:=aK.inv h;obtain⟨v0,u0,e0,d0,_,h1⟩:=bY.inv h0;obtain⟨g0,_⟩:=aK.inv d0;obtain⟨v1,u1,e1,d1,_,h2⟩:=bY.inv h1;obtain⟨g1,_⟩:=aK.inv d1;have hz:u1= []:=bY.inv h2;rw[e0,e1,g0,g1,hz];rfl
def Bg(a:gG):List Value:= [.int .i64 a.act,sv a.name,.int .i64 a.val]
theorem Bh{Y:List Nat}{S:World→Prop}{a:gG}{vs:List Value}(h:aK U Y S (.st 1) a vs):vs=Bg a:=by
 obtain⟨h0,_⟩:=aK.inv h;obtain⟨v0,u0,e0,d0,_,h1⟩:=bY.inv h0;obtain⟨g0,_⟩:=aK.inv d0;obtain⟨v1,u1,e1,d1,_,h2⟩:=bY.inv h1;obtain⟨g1,_⟩:=aK.inv d1;obtain⟨v2,u2,e2,d2,_,h3⟩:=bY.inv h2;obtain⟨g2,_⟩:=aK.inv d2;have hz:u2= []:=bY.inv h3;rw[e0,e1,e2,g0,g1,g2,hz];rfl
def Ia(a:aj):List Value:= [.int .u32 a.time,.int .i64 a.origin]
theorem D6{Y:List Nat}{S:World→Prop}{a:aj}{vs:List Value}(h:aK U Y S (.st 2) a vs):vs=Ia a:=by
 obtain⟨h0,_⟩:=aK.inv h;obtain⟨v0,u0,e0,d0,_,h1⟩:=bY.inv h0;obtain⟨g0,_⟩:=aK.inv d0;obtain⟨v1,u1,e1,d1,_,h2⟩:=bY.inv h1;obtain⟨g1,_⟩:=aK.inv d1;have hz:u1= []:=bY.inv h2;rw[e0,e1,g0,g1,hz];rfl
def Ic(a:am):List Value:= [.int .i64 a.id.origin,.int .u32 a.id.seq,.int .i64 a.n]
theorem yp{Y:List Nat}{S:World→Prop}{a:am}{vs:List Value}(h:aK U Y S (.st 4) a vs):vs=Ic a:=by
 obtain⟨h0,_⟩:=aK.inv h;obtain⟨v0,u0,e0,d0,_,h1⟩:=bY.inv h0;have g0:=Bf d0;obtain⟨v1,u1,e1,d1,_,h2⟩:=bY.inv h1;obtain⟨g1,_⟩:=aK.inv d1;have hz:u1= []:=bY.inv h2;rw[e0,e1,g0,g1,hz];rfl
def Ie(a:bk):List Value:= [.int .i64 a.tag.id.origin,.int .u32 a.tag.id.seq,.int .i64 a.tag.n,sv a.field,.int .i64 a.val,.int .u32 a.at_.time,.int .i64 a.at_.origin]
theorem Kr{Y:List Nat}{S:World→Prop}{a:bk}{vs:List Value}(h:aK U Y S (.st 5) a vs):vs=Ie a:=by
 obtain⟨h0,_⟩:=aK.inv h;obtain⟨v0,u0,e0,d0,_,h1⟩:=bY.inv h0;have g0:=yp d0;obtain⟨v1,u1,e1,d1,_,h2⟩:=bY.inv h1;obtain⟨g1,_⟩:=aK.inv d1;obtain⟨v2,u2,e2,d2,_,h3⟩:=bY.inv h2;obtain⟨g2,_⟩:=aK.inv d2;obtain⟨v3,u3,e3,d3,_,h4⟩:=bY.inv h3;have g3:=D6 d3;have hz:u3= []:=bY.inv h4;rw[e0,e1,e2,e3,g0,g1,g2,g3,hz];rfl
def Bi(a:aF):List Value:= [sv a.field,.int .i64 a.val]
theorem yq{Y:List Nat}{S:World→Prop}{a:aF}{vs:List Value}(h:aK U Y S (.st 6) a vs):vs=Bi a:=by
 obtain⟨h0,_⟩:=aK.inv h;obtain⟨v0,u0,e0,d0,_,h1⟩:=bY.inv h0;obtain⟨g0,_⟩:=aK.inv d0;obtain⟨v1,u1,e1,d1,_,h2⟩:=bY.inv h1;obtain⟨g1,_⟩:=aK.inv d1;have hz:u1= []:=bY.inv h2;rw[e0,e1,g0,g1,hz];rfl
def Bj(a:bD):List Value:= [.int .i64 a.tag.id.origin,.int .u32 a.tag.id.seq,.int .i64 a.tag.n,sv a.elem]
theorem Fo{Y:List Nat}{S:World→Prop}{a:bD}{vs:List Value}(h:aK U Y S (.st 10) a vs):vs=Bj a:=by
 obtain⟨h0,_⟩:=aK.inv h;obtain⟨v0,u0,e0,d0,_,h1⟩:=bY.inv h0;have g0:=yp d0;obtain⟨v1,u1,e1,d1,_,h2⟩:=bY.inv h1;obtain⟨g1,_⟩:=aK.inv d1;have hz:u1= []:=bY.inv h2;rw[e0,e1,g0,g1,hz];rfl
def Bk(a:bT):List Value:= [.int .i64 a.val,.int .u32 a.at_.time,.int .i64 a.at_.origin]
theorem Fp{Y:List Nat}{S:World→Prop}{a:bT}{vs:List Value}(h:aK U Y S (.st 13) a vs):vs=Bk a:=by
 obtain⟨h0,_⟩:=aK.inv h;obtain⟨v0,u0,e0,d0,_,h1⟩:=bY.inv h0;obtain⟨g0,_⟩:=aK.inv d0;obtain⟨v1,u1,e1,d1,_,h2⟩:=bY.inv h1;have g1:=D6 d1;have hz:u1= []:=bY.inv h2;rw[e0,e1,g0,g1,hz];rfl
def Bl(a:ci):List Value:= [.int .i64 a.plus,.int .i64 a.minus]
theorem Fs{Y:List Nat}{S:World→Prop}{a:ci}{vs:List Value}(h:aK U Y S (.st 14) a vs):vs=Bl a:=by
 obtain⟨h0,_⟩:=aK.inv h;obtain⟨v0,u0,e0,d0,_,h1⟩:=bY.inv h0;obtain⟨g0,_⟩:=aK.inv d0;obtain⟨v1,u1,e1,d1,_,h2⟩:=bY.inv h1;obtain⟨g1,_⟩:=aK.inv d1;have hz:u1= []:=bY.inv h2;rw[e0,e1,g0,g1,hz];rfl
def Bm(a:iv):List Value:= [.bool a.name,.bool a.val,.bool a.at_,.bool a.tags]
theorem Ft{Y:List Nat}{S:World→Prop}{a:iv}{vs:List Value}(h:aK U Y S (.st 18) a vs):vs=Bm a:=by
 obtain⟨h0,_⟩:=aK.inv h;obtain⟨v0,u0,e0,d0,_,h1⟩:=bY.inv h0;have g0:=aK.inv d0;obtain⟨v1,u1,e1,d1,_,h2⟩:=bY.inv h1;have g1:=aK.inv d1;obtain⟨v2,u2,e2,d2,_,h3⟩:=bY.inv h2;have g2:=aK.inv d2;obtain⟨v3,u3,e3,d3,_,h4⟩:=bY.inv h3;have g3:=aK.inv d3;have hz:u3= []:=bY.inv h4;rw[e0,e1,e2,e3,g0,g1,g2,g3,hz];rfl
def Bn(a:e8):List Value:= [.int .i64 a.kind,.int .i64 a.who,.int .i64 a.from_,.int .i64 a.op.act,sv a.op.name,.int .i64 a.op.val]
theorem Fu{Y:List Nat}{S:World→Prop}{a:e8}{vs:List Value}(h:aK U Y S (.st 19) a vs):vs=Bn a:=by
 obtain⟨h0,_⟩:=aK.inv h;obtain⟨v0,u0,e0,d0,_,h1⟩:=bY.inv h0;obtain⟨g0,_⟩:=aK.inv d0;obtain⟨v1,u1,e1,d1,_,h2⟩:=bY.inv h1;obtain⟨g1,_⟩:=aK.inv d1;obtain⟨v2,u2,e2,d2,_,h3⟩:=bY.inv h2;obtain⟨g2,_⟩:=aK.inv d2;obtain⟨v3,u3,e3,d3,_,h4⟩:=bY.inv h3;have g3:=Bh d3;have hz:u3= []:=bY.inv h4;rw[e0,e1,e2,e3,g0,g1,g2,g3,hz];rfl
theorem Ks(a0:Int)(a1:Int)(a2:Int)(a3:Int)(a4:Int)(a5:Int)(a6:Int)(a7:Int)(b0:Int)(b1:Int)(b2:Int)(b3:Int)(b4:Int)(b5:Int)(b6:Int)(b7:Int):bg Tryz.prog 8 45 [.int .u32 a0,.int .u32 a1,.int .u32 a2,.int .u32 a3,.int .u32 a4,.int .u32 a5,.int .u32 a6,.int .u32 a7] [.int .u32 b0,.int .u32 b1,.int .u32 b2,.int .u32 b3,.int .u32 b4,.int .u32 b5,.int .u32 b6,.int .u32 b7]=some (((a0==b0)&&((a1==b1)&&((a2==b2)&&((a3==b3)&&((a4==b4)&&((a5==b5)&&((a6==b6)&&((a7==b7)&&true))))))))):=by kernel_rfl
theorem Kt: ∀a b:List Int,a.length=8→b.length=8→ ∃r,bg Tryz.prog 8 45 (a.map (Value.int .u32)) (b.map (Value.int .u32))=some r∧(r=true↔a=b)
 | [a0,a1,a2,a3,a4,a5,a6,a7],[b0,b1,b2,b3,b4,b5,b6,b7],_,_=>⟨_,Ks _ _ _ _ _ _ _ _ _ _ _ _ _ _ _ _,by simp⟩
theorem OI:jS U Tryz.prog 45 (.arr 8 (.int .u32)):=⟨by kernel_rfl,fun Y S a b vs us h1 h2=>by
 obtain⟨h1,l1⟩:=aK.inv h1;obtain⟨h2,l2⟩:=aK.inv h2;rw[jX h1,jX h2];exact Kt a b l1 l2⟩
theorem Ku(a0:Int)(a1:Int)(a2:Int)(b0:Int)(b1:Int)(b2:Int):bg Tryz.prog 8 61 [.int .i64 a0,.int .u32 a1,.int .i64 a2] [.int .i64 b0,.int .u32 b1,.int .i64 b2]=some ((((a0==b0)&&((a1==b1)&&true))&&((a2==b2)&&true))):=by kernel_rfl
theorem Kv(a b:am): ∃r,bg Tryz.prog 8 61 (Ic a) (Ic b)=some r∧(r=true↔a=b):=by
 obtain⟨⟨a0,a1⟩,a2⟩:=a;obtain⟨⟨b0,b1⟩,b2⟩:=b;refine⟨_,Ku _ _ _ _ _ _,?_⟩;show _↔(am.mk (bF.mk a0 a1) a2)=(am.mk (bF.mk b0 b1) b2)
 simp
theorem Kw:jS U Tryz.prog 61 (.st 4):=⟨by kernel_rfl,fun Y S a b vs us h1 h2=>by rw[yp h1,yp h2];exact Kv a b⟩
theorem Kx(a0:Int)(a1:Int)(b0:Int)(b1:Int):bg Tryz.prog 8 59 [.int .i64 a0,.int .u32 a1] [.int .i64 b0,.int .u32 b1]=some (((a0==b0)&&((a1==b1)&&true))):=by kernel_rfl
theorem Bo(a b:bF): ∃r,bg Tryz.prog 8 59 (Be a) (Be b)=some r∧(r=true↔a=b):=by
 obtain⟨a0,a1⟩:=a;obtain⟨b0,b1⟩:=b;refine⟨_,Kx _ _ _ _,?_⟩;show _↔(bF.mk a0 a1)=(bF.mk b0 b1)
 simp
theorem OJ:jS U Tryz.prog 59 (.st 0):=⟨by kernel_rfl,fun Y S a b vs us h1 h2=>by rw[Bf h1,Bf h2];exact Bo a b⟩
theorem Ky(a0:Int)(a1:List UInt8)(a2:Int)(b0:Int)(b1:List UInt8)(b2:Int):bg Tryz.prog 8 66 [.int .i64 a0,sv a1,.int .i64 a2] [.int .i64 b0,sv b1,.int .i64 b2]=some (((a0==b0)&&((a1==b1)&&((a2==b2)&&true)))):=by kernel_rfl
theorem Kz(a b:gG): ∃r,bg Tryz.prog 8 66 (Bg a) (Bg b)=some r∧(r=true↔a=b):=by
 obtain⟨a0,a1,a2⟩:=a;obtain⟨b0,b1,b2⟩:=b;refine⟨_,Ky _ _ _ _ _ _,?_⟩;show _↔(gG.mk a0 a1 a2)=(gG.mk b0 b1 b2)
 simp
theorem OK:jS U Tryz.prog 66 (.st 1):=⟨by kernel_rfl,fun Y S a b vs us h1 h2=>by rw[Bh h1,Bh h2];exact Kz a b⟩
theorem KA(a0:Int)(a1:Int)(b0:Int)(b1:Int):bg Tryz.prog 8 30 [.int .u32 a0,.int .i64 a1] [.int .u32 b0,.int .i64 b1]=some (((a0==b0)&&((a1==b1)&&true))):=by kernel_rfl
theorem KB(a b:aj): ∃r,bg Tryz.prog 8 30 (Ia a) (Ia b)=some r∧(r=true↔a=b):=by
 obtain⟨a0,a1⟩:=a;obtain⟨b0,b1⟩:=b;refine⟨_,KA _ _ _ _,?_⟩;show _↔(aj.mk a0 a1)=(aj.mk b0 b1)
 simp
theorem OL:jS U Tryz.prog 30 (.st 2):=⟨by kernel_rfl,fun Y S a b vs us h1 h2=>by rw[D6 h1,D6 h2];exact KB a b⟩
theorem If(a0:List UInt8)(a1:Int)(b0:List UInt8)(b1:Int):bg Tryz.prog 8 144 [sv a0,.int .i64 a1] [sv b0,.int .i64 b1]=some (((a0==b0)&&((a1==b1)&&true))):=by kernel_rfl
theorem Ig(a b:aF): ∃r,bg Tryz.prog 8 144 (Bi a) (Bi b)=some r∧(r=true↔a=b):=by
 obtain⟨a0,a1⟩:=a;obtain⟨b0,b1⟩:=b;refine⟨_,If _ _ _ _,?_⟩;show _↔(aF.mk a0 a1)=(aF.mk b0 b1)
 simp
theorem KC:jS U Tryz.prog 144 (.st 6):=⟨by kernel_rfl,fun Y S a b vs us h1 h2=>by rw[yq h1,yq h2];exact Ig a b⟩
theorem Ih(a0:Int)(a1:Int)(a2:Int)(a3:List UInt8)(b0:Int)(b1:Int)(b2:Int)(b3:List UInt8):bg Tryz.prog 8 128 [.int .i64 a0,.int .u32 a1,.int .i64 a2,sv a3] [.int .i64 b0,.int .u32 b1,.int .i64 b2,sv b3]=some (((((a0==b0)&&((a1==b1)&&true))&&((a2==b2)&&true))&&((a3==b3)&&true))):=by kernel_rfl
theorem Ii(a b:bD): ∃r,bg Tryz.prog 8 128 (Bj a) (Bj b)=some r∧(r=true↔a=b):=by
 obtain⟨⟨⟨a0,a1⟩,a2⟩,a3⟩:=a;obtain⟨⟨⟨b0,b1⟩,b2⟩,b3⟩:=b;refine⟨_,Ih _ _ _ _ _ _ _ _,?_⟩;show _↔(bD.mk (am.mk (bF.mk a0 a1) a2) a3)=(bD.mk (am.mk (bF.mk b0 b1) b2) b3)
 simp
theorem KE:jS U Tryz.prog 128 (.st 10):=⟨by kernel_rfl,fun Y S a b vs us h1 h2=>by rw[Fo h1,Fo h2];exact Ii a b⟩
theorem Ij(a0:Int)(a1:Int)(a2:Int)(a3:List UInt8)(a4:Int)(a5:Int)(a6:Int)(b0:Int)(b1:Int)(b2:Int)(b3:List UInt8)(b4:Int)(b5:Int)(b6:Int):bg Tryz.prog 8 133 [.int .i64 a0,.int .u32 a1,.int .i64 a2,sv a3,.int .i64 a4,.int .u32 a5,.int .i64 a6] [.int .i64 b0,.int .u32 b1,.int .i64 b2,sv b3,.int .i64 b4,.int .u32 b5,.int .i64 b6]=some (((((a0==b0)&&((a1==b1)&&true))&&((a2==b2)&&true))&&((a3==b3)&&((a4==b4)&&(((a5==b5)&&((a6==b6)&&true))&&true))))):=by kernel_rfl
theorem Ik(a b:bk): ∃r,bg Tryz.prog 8 133 (Ie a) (Ie b)=some r∧(r=true↔a=b):=by
 obtain⟨⟨⟨a0,a1⟩,a2⟩,a3,a4,⟨a5,a6⟩⟩:=a;obtain⟨⟨⟨b0,b1⟩,b2⟩,b3,b4,⟨b5,b6⟩⟩:=b;refine⟨_,Ij _ _ _ _ _ _ _ _ _ _ _ _ _ _,?_⟩;show _↔(bk.mk (am.mk (bF.mk a0 a1) a2) a3 a4 (aj.mk a5 a6))=(bk.mk (am.mk (bF.mk b0 b1) b2) b3 b4 (aj.mk b5 b6))
 simp
theorem KF:jS U Tryz.prog 133 (.st 5):=⟨by kernel_rfl,fun Y S a b vs us h1 h2=>by rw[Kr h1,Kr h2];exact Ik a b⟩
theorem KG(a0:Int)(a1:Int)(a2:Int)(b0:Int)(b1:Int)(b2:Int):bg Tryz.prog 8 32 [.int .i64 a0,.int .u32 a1,.int .i64 a2] [.int .i64 b0,.int .u32 b1,.int .i64 b2]=some (((a0==b0)&&(((a1==b1)&&((a2==b2)&&true))&&true))):=by kernel_rfl
theorem KH(a b:bT): ∃r,bg Tryz.prog 8 32 (Bk a) (Bk b)=some r∧(r=true↔a=b):=by
 obtain⟨a0,⟨a1,a2⟩⟩:=a;obtain⟨b0,⟨b1,b2⟩⟩:=b;refine⟨_,KG _ _ _ _ _ _,?_⟩;show _↔(bT.mk a0 (aj.mk a1 a2))=(bT.mk b0 (aj.mk b1 b2))
 simp
theorem OM:jS U Tryz.prog 32 (.st 13):=⟨by kernel_rfl,fun Y S a b vs us h1 h2=>by rw[Fp h1,Fp h2];exact KH a b⟩
theorem KI(a0:Int)(a1:Int)(b0:Int)(b1:Int):bg Tryz.prog 8 34 [.int .i64 a0,.int .i64 a1] [.int .i64 b0,.int .i64 b1]=some (((a0==b0)&&((a1==b1)&&true))):=by kernel_rfl
theorem KJ(a b:ci): ∃r,bg Tryz.prog 8 34 (Bl a) (Bl b)=some r∧(r=true↔a=b):=by
 obtain⟨a0,a1⟩:=a;obtain⟨b0,b1⟩:=b;refine⟨_,KI _ _ _ _,?_⟩;show _↔(ci.mk a0 a1)=(ci.mk b0 b1)
 simp
theorem ON:jS U Tryz.prog 34 (.st 14):=⟨by kernel_rfl,fun Y S a b vs us h1 h2=>by rw[Fs h1,Fs h2];exact KJ a b⟩
theorem Il(a0:List UInt8)(a1:Int)(b0:List UInt8)(b1:Int):bg Tryz.prog 8 149 [sv a0,.int .i64 a1] [sv b0,.int .i64 b1]=some (((a0==b0)&&((a1==b1)&&true))):=by kernel_rfl
theorem Im(a b:aF): ∃r,bg Tryz.prog 8 149 (Bi a) (Bi b)=some r∧(r=true↔a=b):=by
 obtain⟨a0,a1⟩:=a;obtain⟨b0,b1⟩:=b;refine⟨_,Il _ _ _ _,?_⟩;show _↔(aF.mk a0 a1)=(aF.mk b0 b1)
 simp
theorem KK:jS U Tryz.prog 149 (.st 6):=⟨by kernel_rfl,fun Y S a b vs us h1 h2=>by rw[yq h1,yq h2];exact Im a b⟩
theorem KL(a0:Int)(a1:List UInt8)(a2:Int)(b0:Int)(b1:List UInt8)(b2:Int):bg Tryz.prog 8 54 [.int .i64 a0,sv a1,.int .i64 a2] [.int .i64 b0,sv b1,.int .i64 b2]=some (((a0==b0)&&((a1==b1)&&((a2==b2)&&true)))):=by kernel_rfl
theorem KM(a b:gG): ∃r,bg Tryz.prog 8 54 (Bg a) (Bg b)=some r∧(r=true↔a=b):=by
 obtain⟨a0,a1,a2⟩:=a;obtain⟨b0,b1,b2⟩:=b;refine⟨_,KL _ _ _ _ _ _,?_⟩;show _↔(gG.mk a0 a1 a2)=(gG.mk b0 b1 b2)
 simp
theorem OO:jS U Tryz.prog 54 (.st 1):=⟨by kernel_rfl,fun Y S a b vs us h1 h2=>by rw[Bh h1,Bh h2];exact KM a b⟩
theorem Io(a0:Bool)(a1:Bool)(a2:Bool)(a3:Bool)(b0:Bool)(b1:Bool)(b2:Bool)(b3:Bool):bg Tryz.prog 8 172 [.bool a0,.bool a1,.bool a2,.bool a3] [.bool b0,.bool b1,.bool b2,.bool b3]=some (((a0==b0)&&((a1==b1)&&((a2==b2)&&((a3==b3)&&true))))):=by kernel_rfl
theorem Ip(a b:iv): ∃r,bg Tryz.prog 8 172 (Bm a) (Bm b)=some r∧(r=true↔a=b):=by
 obtain⟨a0,a1,a2,a3⟩:=a;obtain⟨b0,b1,b2,b3⟩:=b;refine⟨_,Io _ _ _ _ _ _ _ _,?_⟩;show _↔(iv.mk a0 a1 a2 a3)=(iv.mk b0 b1 b2 b3)
 simp
theorem KN:jS U Tryz.prog 172 (.st 18):=⟨by kernel_rfl,fun Y S a b vs us h1 h2=>by rw[Ft h1,Ft h2];exact Ip a b⟩
theorem KP(a0:Int)(a1:Int)(a2:Int)(a3:Int)(a4:List UInt8)(a5:Int)(b0:Int)(b1:Int)(b2:Int)(b3:Int)(b4:List UInt8)(b5:Int):bg Tryz.prog 8 56 [.int .i64 a0,.int .i64 a1,.int .i64 a2,.int .i64 a3,sv a4,.int .i64 a5] [.int .i64 b0,.int .i64 b1,.int .i64 b2,.int .i64 b3,sv b4,.int .i64 b5]=some (((a0==b0)&&((a1==b1)&&((a2==b2)&&(((a3==b3)&&((a4==b4)&&((a5==b5)&&true)))&&true))))):=by kernel_rfl
theorem KQ(a b:e8): ∃r,bg Tryz.prog 8 56 (Bn a) (Bn b)=some r∧(r=true↔a=b):=by
 obtain⟨a0,a1,a2,⟨a3,a4,a5⟩⟩:=a;obtain⟨b0,b1,b2,⟨b3,b4,b5⟩⟩:=b;refine⟨_,KP _ _ _ _ _ _ _ _ _ _ _ _,?_⟩;show _↔(e8.mk a0 a1 a2 (gG.mk a3 a4 a5))=(e8.mk b0 b1 b2 (gG.mk b3 b4 b5))
 simp
theorem OP:jS U Tryz.prog 56 (.st 19):=⟨by kernel_rfl,fun Y S a b vs us h1 h2=>by rw[Fu h1,Fu h2];exact KQ a b⟩
theorem Iq(a0:Int)(a1:Int)(b0:Int)(b1:Int):bg Tryz.prog 8 245 [.int .i64 a0,.int .i64 a1] [.int .i64 b0,.int .i64 b1]=some (((a0==b0)&&((a1==b1)&&true))):=by kernel_rfl
theorem Ir: ∀a b:List Int,a.length=2→b.length=2→ ∃r,bg Tryz.prog 8 245 (a.map (Value.int .i64)) (b.map (Value.int .i64))=some r∧(r=true↔a=b)
 | [a0,a1],[b0,b1],_,_=>⟨_,Iq _ _ _ _,by simp⟩
theorem KT:jS U Tryz.prog 245 (.arr 2 (.int .i64)):=⟨by kernel_rfl,fun Y S a b vs us h1 h2=>by
 obtain⟨h1,l1⟩:=aK.inv h1;obtain⟨h2,l2⟩:=aK.inv h2;rw[jX h1,jX h2];exact Ir a b l1 l2⟩
def Pf:TI U:=⟨1,.int .i64,8,[],some (.int .i64),false,[(1,.d (.int .i64) (0:Int))],none⟩
theorem Bp:bd U Tryz.prog 3 Pf:=aN [.i .i64] rfl (by kernel_rfl) rfl (by kernel_rfl) (by kernel_rfl) (show Tryz.prog.underlying 3=some (.int .i64)by kernel_rfl) (by kernel_rfl) (by kernel_rfl) (by kernel_rfl) (fun i h1 h2=>by cases h2) (fun d h=>by cases h)
def KU:TI U:=⟨8,.arr 8 28,32,[],some (.arr 8 (.int .u32)),true,[(1,.d (.int .u32) (0:Int)),(1,.d (.int .u32) (0:Int)),(1,.d (.int .u32) (0:Int)),(1,.d (.int .u32) (0:Int)),(1,.d (.int .u32) (0:Int)),(1,.d (.int .u32) (0:Int)),(1,.d (.int .u32) (0:Int)),(1,.d (.int .u32) (0:Int))],none⟩
theorem xx:bd U Tryz.prog 45 KU:=aN [.i .u32,.i .u32,.i .u32,.i .u32,.i .u32,.i .u32,.i .u32,.i .u32] rfl (by kernel_rfl) rfl (by kernel_rfl) (by kernel_rfl) (show Tryz.prog.underlying 45=some (.array 8 28)by kernel_rfl) (by kernel_rfl) (by kernel_rfl) (by kernel_rfl) (fun i h1 h2=>⟨rfl,by injection h1 with h1;subst h1;exact OI⟩) (fun d h=>by cases h)
def KV:TI U:=⟨1,.int .u32,4,[],some (.int .u32),false,[(1,.d (.int .u32) (0:Int))],none⟩
theorem D7:bd U Tryz.prog 28 KV:=aN [.i .u32] rfl (by kernel_rfl) rfl (by kernel_rfl) (by kernel_rfl) (show Tryz.prog.underlying 28=some (.int .u32)by kernel_rfl) (by kernel_rfl) (by kernel_rfl) (by kernel_rfl) (fun i h1 h2=>by cases h2) (fun d h=>by cases h)
def KW:TI U:=⟨1,.sl 61,24,[],some (.sl (.st 4)),false,[(1,.nils)],none⟩
theorem D8:bd U Tryz.prog 36 KW:=aN [.l] rfl (by kernel_rfl) rfl (by kernel_rfl) (by kernel_rfl) (show Tryz.prog.underlying 36=some (.slice 61)by kernel_rfl) (by kernel_rfl) (by kernel_rfl) (by kernel_rfl) (fun i h1 h2=>by cases h2) (fun d h=>by cases h)
def KX:TI U:=⟨3,.st,24,[(0,59),(2,3)],some (.st 4),true,[(1,.d (.int .i64) (0:Int)),(1,.d (.int .u32) (0:Int)),(1,.d (.int .i64) (0:Int))],none⟩
theorem kO:bd U Tryz.prog 61 KX:=aN [.i .i64,.i .u32,.i .i64] rfl (by kernel_rfl) rfl (by kernel_rfl) (by kernel_rfl) ⟨_,rfl⟩ rfl (by kernel_rfl) (by kernel_rfl) (fun i h1 h2=>⟨rfl,by injection h1 with h1;subst h1;exact Kw⟩) (fun d h=>by cases h)
def KY:TI U:=⟨2,.st,16,[(0,3),(1,28)],some (.st 0),true,[(1,.d (.int .i64) (0:Int)),(1,.d (.int .u32) (0:Int))],none⟩
theorem D9:bd U Tryz.prog 59 KY:=aN [.i .i64,.i .u32] rfl (by kernel_rfl) rfl (by kernel_rfl) (by kernel_rfl) ⟨_,rfl⟩ rfl (by kernel_rfl) (by kernel_rfl) (fun i h1 h2=>⟨rfl,by injection h1 with h1;subst h1;exact OJ⟩) (fun d h=>by cases h)
def KZ:TI U:=⟨17,.st,120,[(0,59),(2,45),(10,3),(11,9),(12,66),(15,30)],some (.st 3),false,[(1,.d (.int .i64) (0:Int)),(1,.d (.int .u32) (0:Int)),(1,.d (.int .u32) (0:Int)),(1,.d (.int .u32) (0:Int)),(1,.d (.int .u32) (0:Int)),(1,.d (.int .u32) (0:Int)),(1,.d (.int .u32) (0:Int)),(1,.d (.int .u32) (0:Int)),(1,.d (.int .u32) (0:Int)),(1,.d (.int .u32) (0:Int)),(1,.d (.int .i64) (0:Int)),(1,.d .str ([]:List UInt8)),(1,.d (.int .i64) (0:Int)),(1,.d .str ([]:List UInt8)),(1,.d (.int .i64) (0:Int)),(1,.d (.int .u32) (0:Int)),(1,.d (.int .i64) (0:Int))],none⟩
theorem mS:bd U Tryz.prog 70 KZ:=aN [.i .i64,.i .u32,.i .u32,.i .u32,.i .u32,.i .u32,.i .u32,.i .u32,.i .u32,.i .u32,.i .i64,.s,.i .i64,.s,.i .i64,.i .u32,.i .i64] rfl (by kernel_rfl) rfl (by kernel_rfl) (by kernel_rfl) ⟨_,rfl⟩ rfl (by kernel_rfl) (by kernel_rfl) (fun i h1 h2=>by cases h2) (fun d h=>by cases h)
def Ph:TI U:=⟨1,.str,16,[],some (.str),false,[(1,.d .str ([]:List UInt8))],none⟩
theorem Is:bd U Tryz.prog 9 Ph:=aN [.s] rfl (by kernel_rfl) rfl (by kernel_rfl) (by kernel_rfl) (show Tryz.prog.underlying 9=some .string by kernel_rfl) (by kernel_rfl) (by kernel_rfl) (by kernel_rfl) (fun i h1 h2=>by cases h2) (fun d h=>by cases h)
def K0:TI U:=⟨3,.st,32,[(0,3),(1,9),(2,2)],some (.st 1),true,[(1,.d (.int .i64) (0:Int)),(1,.d .str ([]:List UInt8)),(1,.d (.int .i64) (0:Int))],none⟩
theorem Ea:bd U Tryz.prog 66 K0:=aN [.i .i64,.s,.i .i64] rfl (by kernel_rfl) rfl (by kernel_rfl) (by kernel_rfl) ⟨_,rfl⟩ rfl (by kernel_rfl) (by kernel_rfl) (fun i h1 h2=>⟨rfl,by injection h1 with h1;subst h1;exact OK⟩) (fun d h=>by cases h)
def Pi:TI U:=⟨1,.int .i64,8,[],some (.int .i64),false,[(1,.d (.int .i64) (0:Int))],none⟩
theorem Iu:bd U Tryz.prog 2 Pi:=aN [.i .i64] rfl (by kernel_rfl) rfl (by kernel_rfl) (by kernel_rfl) (show Tryz.prog.underlying 2=some (.int .i64)by kernel_rfl) (by kernel_rfl) (by kernel_rfl) (by kernel_rfl) (fun i h1 h2=>by cases h2) (fun d h=>by cases h)
def K2:TI U:=⟨2,.st,16,[(0,28),(1,3)],some (.st 2),true,[(1,.d (.int .u32) (0:Int)),(1,.d (.int .i64) (0:Int))],none⟩
theorem Eb:bd U Tryz.prog 30 K2:=aN [.i .u32,.i .i64] rfl (by kernel_rfl) rfl (by kernel_rfl) (by kernel_rfl) ⟨_,rfl⟩ rfl (by kernel_rfl) (by kernel_rfl) (fun i h1 h2=>⟨rfl,by injection h1 with h1;subst h1;exact OL⟩) (fun d h=>by cases h)
def Fv:TI U:=⟨13,.st,104,[(0,59),(2,45),(10,3),(11,26),(12,108)],some (.st 9),false,[(1,.d (.int .i64) (0:Int)),(1,.d (.int .u32) (0:Int)),(1,.d (.int .u32) (0:Int)),(1,.d (.int .u32) (0:Int)),(1,.d (.int .u32) (0:Int)),(1,.d (.int .u32) (0:Int)),(1,.d (.int .u32) (0:Int)),(1,.d (.int .u32) (0:Int)),(1,.d (.int .u32) (0:Int)),(1,.d (.int .u32) (0:Int)),(1,.d (.int .i64) (0:Int)),(1,.nils),(1,.nils)],none⟩
theorem Bq:bd U Tryz.prog 110 Fv:=aN [.i .i64,.i .u32,.i .u32,.i .u32,.i .u32,.i .u32,.i .u32,.i .u32,.i .u32,.i .u32,.i .i64,.l,.l] rfl (by kernel_rfl) rfl (by kernel_rfl) (by kernel_rfl) ⟨_,rfl⟩ rfl (by kernel_rfl) (by kernel_rfl) (fun i h1 h2=>by cases h2) (fun d h=>by cases h)
def K3:TI U:=⟨1,.sl 70,24,[],some (.sl (.st 3)),false,[(1,.nils)],none⟩
theorem Ec:bd U Tryz.prog 26 K3:=aN [.l] rfl (by kernel_rfl) rfl (by kernel_rfl) (by kernel_rfl) (show Tryz.prog.underlying 26=some (.slice 70)by kernel_rfl) (by kernel_rfl) (by kernel_rfl) (by kernel_rfl) (fun i h1 h2=>by cases h2) (fun d h=>by cases h)
def Fx:TI U:=⟨1,.sl 107,24,[],some (.sl (.st 8)),false,[(1,.nils)],none⟩
theorem Br:bd U Tryz.prog 108 Fx:=aN [.l] rfl (by kernel_rfl) rfl (by kernel_rfl) (by kernel_rfl) (show Tryz.prog.underlying 108=some (.slice 107)by kernel_rfl) (by kernel_rfl) (by kernel_rfl) (by kernel_rfl) (fun i h1 h2=>by cases h2) (fun d h=>by cases h)
def Fy:TI U:=⟨5,.st,64,[(0,9),(1,3),(2,75)],some (.st 8),false,[(1,.d .str ([]:List UInt8)),(1,.d (.int .i64) (0:Int)),(1,.d (.int .i64) (0:Int)),(1,.d (.int .i64) (0:Int)),(1,.nils)],none⟩
theorem Bt:bd U Tryz.prog 107 Fy:=aN [.s,.i .i64,.i .i64,.i .i64,.l] rfl (by kernel_rfl) rfl (by kernel_rfl) (by kernel_rfl) ⟨_,rfl⟩ rfl (by kernel_rfl) (by kernel_rfl) (fun i h1 h2=>by cases h2) (fun d h=>by cases h)
def K4:TI U:=⟨3,.st,40,[(0,3),(1,2),(2,73)],some (.st 7),false,[(1,.d (.int .i64) (0:Int)),(1,.d (.int .i64) (0:Int)),(1,.nils)],none⟩
theorem Ed:bd U Tryz.prog 75 K4:=aN [.i .i64,.i .i64,.l] rfl (by kernel_rfl) rfl (by kernel_rfl) (by kernel_rfl) ⟨_,rfl⟩ rfl (by kernel_rfl) (by kernel_rfl) (fun i h1 h2=>by cases h2) (fun d h=>by cases h)
def K5:TI U:=⟨1,.sl 144,24,[],some (.sl (.st 6)),false,[(1,.nils)],none⟩
theorem Ee:bd U Tryz.prog 73 K5:=aN [.l] rfl (by kernel_rfl) rfl (by kernel_rfl) (by kernel_rfl) (show Tryz.prog.underlying 73=some (.slice 144)by kernel_rfl) (by kernel_rfl) (by kernel_rfl) (by kernel_rfl) (fun i h1 h2=>by cases h2) (fun d h=>by cases h)
def Fz:TI U:=⟨2,.st,24,[(0,9),(1,2)],some (.st 6),true,[(1,.d .str ([]:List UInt8)),(1,.d (.int .i64) (0:Int))],none⟩
theorem uo:bd U Tryz.prog 144 Fz:=aN [.s,.i .i64] rfl (by kernel_rfl) rfl (by kernel_rfl) (by kernel_rfl) ⟨_,rfl⟩ rfl (by kernel_rfl) (by kernel_rfl) (fun i h1 h2=>⟨rfl,by injection h1 with h1;subst h1;exact KC⟩) (fun d h=>by cases h)
def K6:TI U:=⟨2,.st,48,[(0,35),(1,36)],some (.st 11),false,[(1,.nils),(1,.nils)],none⟩
theorem Ef:bd U Tryz.prog 38 K6:=aN [.l,.l] rfl (by kernel_rfl) rfl (by kernel_rfl) (by kernel_rfl) ⟨_,rfl⟩ rfl (by kernel_rfl) (by kernel_rfl) (fun i h1 h2=>by cases h2) (fun d h=>by cases h)
def K7:TI U:=⟨1,.sl 128,24,[],some (.sl (.st 10)),false,[(1,.nils)],none⟩
theorem Eg:bd U Tryz.prog 35 K7:=aN [.l] rfl (by kernel_rfl) rfl (by kernel_rfl) (by kernel_rfl) (show Tryz.prog.underlying 35=some (.slice 128)by kernel_rfl) (by kernel_rfl) (by kernel_rfl) (by kernel_rfl) (fun i h1 h2=>by cases h2) (fun d h=>by cases h)
def FA:TI U:=⟨4,.st,40,[(0,61),(3,9)],some (.st 10),true,[(1,.d (.int .i64) (0:Int)),(1,.d (.int .u32) (0:Int)),(1,.d (.int .i64) (0:Int)),(1,.d .str ([]:List UInt8))],none⟩
theorem kj:bd U Tryz.prog 128 FA:=aN [.i .i64,.i .u32,.i .i64,.s] rfl (by kernel_rfl) rfl (by kernel_rfl) (by kernel_rfl) ⟨_,rfl⟩ rfl (by kernel_rfl) (by kernel_rfl) (fun i h1 h2=>⟨rfl,by injection h1 with h1;subst h1;exact KE⟩) (fun d h=>by cases h)
def K8:TI U:=⟨2,.st,48,[(0,39),(1,36)],some (.st 12),false,[(1,.nils),(1,.nils)],none⟩
theorem Eh:bd U Tryz.prog 41 K8:=aN [.l,.l] rfl (by kernel_rfl) rfl (by kernel_rfl) (by kernel_rfl) ⟨_,rfl⟩ rfl (by kernel_rfl) (by kernel_rfl) (fun i h1 h2=>by cases h2) (fun d h=>by cases h)
def K9:TI U:=⟨1,.sl 133,24,[],some (.sl (.st 5)),false,[(1,.nils)],none⟩
theorem Ei:bd U Tryz.prog 39 K9:=aN [.l] rfl (by kernel_rfl) rfl (by kernel_rfl) (by kernel_rfl) (show Tryz.prog.underlying 39=some (.slice 133)by kernel_rfl) (by kernel_rfl) (by kernel_rfl) (by kernel_rfl) (fun i h1 h2=>by cases h2) (fun d h=>by cases h)
def FB:TI U:=⟨7,.st,64,[(0,61),(3,9),(4,2),(5,30)],some (.st 5),true,[(1,.d (.int .i64) (0:Int)),(1,.d (.int .u32) (0:Int)),(1,.d (.int .i64) (0:Int)),(1,.d .str ([]:List UInt8)),(1,.d (.int .i64) (0:Int)),(1,.d (.int .u32) (0:Int)),(1,.d (.int .i64) (0:Int))],none⟩
theorem km:bd U Tryz.prog 133 FB:=aN [.i .i64,.i .u32,.i .i64,.s,.i .i64,.i .u32,.i .i64] rfl (by kernel_rfl) rfl (by kernel_rfl) (by kernel_rfl) ⟨_,rfl⟩ rfl (by kernel_rfl) (by kernel_rfl) (fun i h1 h2=>⟨rfl,by injection h1 with h1;subst h1;exact KF⟩) (fun d h=>by cases h)
def Pj:TI U:=⟨1,.bool,1,[],some (.bool),false,[(1,.d .bool false)],none⟩
theorem Iv:bd U Tryz.prog 4 Pj:=aN [.b] rfl (by kernel_rfl) rfl (by kernel_rfl) (by kernel_rfl) (show Tryz.prog.underlying 4=some .bool by kernel_rfl) (by kernel_rfl) (by kernel_rfl) (by kernel_rfl) (fun i h1 h2=>by cases h2) (fun d h=>by cases h)
def Lb:TI U:=⟨10,.st,144,[(0,3),(1,32),(4,34),(6,38),(8,41)],some (.st 15),false,[(1,.d (.int .i64) (0:Int)),(1,.d (.int .i64) (0:Int)),(1,.d (.int .u32) (0:Int)),(1,.d (.int .i64) (0:Int)),(1,.d (.int .i64) (0:Int)),(1,.d (.int .i64) (0:Int)),(1,.nils),(1,.nils),(1,.nils),(1,.nils)],none⟩
theorem Ej:bd U Tryz.prog 43 Lb:=aN [.i .i64,.i .i64,.i .u32,.i .i64,.i .i64,.i .i64,.l,.l,.l,.l] rfl (by kernel_rfl) rfl (by kernel_rfl) (by kernel_rfl) ⟨_,rfl⟩ rfl (by kernel_rfl) (by kernel_rfl) (fun i h1 h2=>by cases h2) (fun d h=>by cases h)
def Lc:TI U:=⟨3,.st,24,[(0,2),(1,30)],some (.st 13),true,[(1,.d (.int .i64) (0:Int)),(1,.d (.int .u32) (0:Int)),(1,.d (.int .i64) (0:Int))],none⟩
theorem Ek:bd U Tryz.prog 32 Lc:=aN [.i .i64,.i .u32,.i .i64] rfl (by kernel_rfl) rfl (by kernel_rfl) (by kernel_rfl) ⟨_,rfl⟩ rfl (by kernel_rfl) (by kernel_rfl) (fun i h1 h2=>⟨rfl,by injection h1 with h1;subst h1;exact OM⟩) (fun d h=>by cases h)
def Ld:TI U:=⟨2,.st,16,[(0,2),(1,2)],some (.st 14),true,[(1,.d (.int .i64) (0:Int)),(1,.d (.int .i64) (0:Int))],none⟩
theorem El:bd U Tryz.prog 34 Ld:=aN [.i .i64,.i .i64] rfl (by kernel_rfl) rfl (by kernel_rfl) (by kernel_rfl) ⟨_,rfl⟩ rfl (by kernel_rfl) (by kernel_rfl) (fun i h1 h2=>⟨rfl,by injection h1 with h1;subst h1;exact ON⟩) (fun d h=>by cases h)
def Lg:TI U:=⟨1,.sl 110,24,[],some (.sl (.st 9)),false,[(1,.nils)],none⟩
theorem Eo:bd U Tryz.prog 91 Lg:=aN [.l] rfl (by kernel_rfl) rfl (by kernel_rfl) (by kernel_rfl) (show Tryz.prog.underlying 91=some (.slice 110)by kernel_rfl) (by kernel_rfl) (by kernel_rfl) (by kernel_rfl) (fun i h1 h2=>by cases h2) (fun d h=>by cases h)
def Lh:TI U:=⟨9,.st,96,[(0,3),(1,9),(2,2),(3,61),(6,30),(8,36)],some (.st 16),false,[(1,.d (.int .i64) (0:Int)),(1,.d .str ([]:List UInt8)),(1,.d (.int .i64) (0:Int)),(1,.d (.int .i64) (0:Int)),(1,.d (.int .u32) (0:Int)),(1,.d (.int .i64) (0:Int)),(1,.d (.int .u32) (0:Int)),(1,.d (.int .i64) (0:Int)),(1,.nils)],none⟩
theorem Ep:bd U Tryz.prog 63 Lh:=aN [.i .i64,.s,.i .i64,.i .i64,.i .u32,.i .i64,.i .u32,.i .i64,.l] rfl (by kernel_rfl) rfl (by kernel_rfl) (by kernel_rfl) ⟨_,rfl⟩ rfl (by kernel_rfl) (by kernel_rfl) (fun i h1 h2=>by cases h2) (fun d h=>by cases h)
def Li:TI U:=⟨1,.int .i64,8,[],some (.int .i64),false,[(1,.d (.int .i64) (0:Int))],none⟩
theorem Er:bd U Tryz.prog 50 Li:=aN [.i .i64] rfl (by kernel_rfl) rfl (by kernel_rfl) (by kernel_rfl) (show Tryz.prog.underlying 50=some (.int .i64)by kernel_rfl) (by kernel_rfl) (by kernel_rfl) (by kernel_rfl) (fun i h1 h2=>by cases h2) (fun d h=>by cases h)
def Lj:TI U:=⟨21,.st,216,[(0,43),(10,45),(18,3),(19,46),(20,28)],some (.st 17),false,[(1,.d (.int .i64) (0:Int)),(1,.d (.int .i64) (0:Int)),(1,.d (.int .u32) (0:Int)),(1,.d (.int .i64) (0:Int)),(1,.d (.int .i64) (0:Int)),(1,.d (.int .i64) (0:Int)),(1,.nils),(1,.nils),(1,.nils),(1,.nils),(1,.d (.int .u32) (0:Int)),(1,.d (.int .u32) (0:Int)),(1,.d (.int .u32) (0:Int)),(1,.d (.int .u32) (0:Int)),(1,.d (.int .u32) (0:Int)),(1,.d (.int .u32) (0:Int)),(1,.d (.int .u32) (0:Int)),(1,.d (.int .u32) (0:Int)),(1,.d (.int .i64) (0:Int)),(1,.nils),(1,.d (.int .u32) (0:Int))],none⟩
theorem Es:bd U Tryz.prog 48 Lj:=aN [.i .i64,.i .i64,.i .u32,.i .i64,.i .i64,.i .i64,.l,.l,.l,.l,.i .u32,.i .u32,.i .u32,.i .u32,.i .u32,.i .u32,.i .u32,.i .u32,.i .i64,.l,.i .u32] rfl (by kernel_rfl) rfl (by kernel_rfl) (by kernel_rfl) ⟨_,rfl⟩ rfl (by kernel_rfl) (by kernel_rfl) (fun i h1 h2=>by cases h2) (fun d h=>by cases h)
def Ll:TI U:=⟨1,.sl 3,24,[],some (.sl (.int .i64)),false,[(1,.nils)],none⟩
theorem Et:bd U Tryz.prog 46 Ll:=aN [.l] rfl (by kernel_rfl) rfl (by kernel_rfl) (by kernel_rfl) (show Tryz.prog.underlying 46=some (.slice 3)by kernel_rfl) (by kernel_rfl) (by kernel_rfl) (by kernel_rfl) (fun i h1 h2=>by cases h2) (fun d h=>by cases h)
def Lp:TI U:=⟨3,.st,40,[(0,3),(1,2),(2,79)],some (.st 7),false,[(1,.d (.int .i64) (0:Int)),(1,.d (.int .i64) (0:Int)),(1,.nils)],none⟩
theorem Eu:bd U Tryz.prog 81 Lp:=aN [.i .i64,.i .i64,.l] rfl (by kernel_rfl) rfl (by kernel_rfl) (by kernel_rfl) ⟨_,rfl⟩ rfl (by kernel_rfl) (by kernel_rfl) (fun i h1 h2=>by cases h2) (fun d h=>by cases h)
def Lq:TI U:=⟨1,.sl 149,24,[],some (.sl (.st 6)),false,[(1,.nils)],none⟩
theorem Ev:bd U Tryz.prog 79 Lq:=aN [.l] rfl (by kernel_rfl) rfl (by kernel_rfl) (by kernel_rfl) (show Tryz.prog.underlying 79=some (.slice 149)by kernel_rfl) (by kernel_rfl) (by kernel_rfl) (by kernel_rfl) (fun i h1 h2=>by cases h2) (fun d h=>by cases h)
def FC:TI U:=⟨2,.st,24,[(0,9),(1,2)],some (.st 6),true,[(1,.d .str ([]:List UInt8)),(1,.d (.int .i64) (0:Int))],none⟩
theorem Bu:bd U Tryz.prog 149 FC:=aN [.s,.i .i64] rfl (by kernel_rfl) rfl (by kernel_rfl) (by kernel_rfl) ⟨_,rfl⟩ rfl (by kernel_rfl) (by kernel_rfl) (fun i h1 h2=>⟨rfl,by injection h1 with h1;subst h1;exact KK⟩) (fun d h=>by cases h)
def Lr:TI U:=⟨1,.sl 9,24,[],some (.sl (.str)),false,[(1,.nils)],none⟩
theorem Ew:bd U Tryz.prog 25 Lr:=aN [.l] rfl (by kernel_rfl) rfl (by kernel_rfl) (by kernel_rfl) (show Tryz.prog.underlying 25=some (.slice 9)by kernel_rfl) (by kernel_rfl) (by kernel_rfl) (by kernel_rfl) (fun i h1 h2=>by cases h2) (fun d h=>by cases h)
def Lu:TI U:=⟨1,.sl 97,24,[],some (.sl (.st 9)),false,[(1,.nils)],none⟩
theorem Ex:bd U Tryz.prog 86 Lu:=aN [.l] rfl (by kernel_rfl) rfl (by kernel_rfl) (by kernel_rfl) (show Tryz.prog.underlying 86=some (.slice 97)by kernel_rfl) (by kernel_rfl) (by kernel_rfl) (by kernel_rfl) (fun i h1 h2=>by cases h2) (fun d h=>by cases h)
def Lv:TI U:=⟨13,.st,104,[(0,59),(2,45),(10,3),(11,94),(12,95)],some (.st 9),false,[(1,.d (.int .i64) (0:Int)),(1,.d (.int .u32) (0:Int)),(1,.d (.int .u32) (0:Int)),(1,.d (.int .u32) (0:Int)),(1,.d (.int .u32) (0:Int)),(1,.d (.int .u32) (0:Int)),(1,.d (.int .u32) (0:Int)),(1,.d (.int .u32) (0:Int)),(1,.d (.int .u32) (0:Int)),(1,.d (.int .u32) (0:Int)),(1,.d (.int .i64) (0:Int)),(1,.nils),(1,.nils)],none⟩
theorem Ey:bd U Tryz.prog 97 Lv:=aN [.i .i64,.i .u32,.i .u32,.i .u32,.i .u32,.i .u32,.i .u32,.i .u32,.i .u32,.i .u32,.i .i64,.l,.l] rfl (by kernel_rfl) rfl (by kernel_rfl) (by kernel_rfl) ⟨_,rfl⟩ rfl (by kernel_rfl) (by kernel_rfl) (fun i h1 h2=>by cases h2) (fun d h=>by cases h)
def Lw:TI U:=⟨1,.sl 224,24,[],some (.sl (.st 3)),false,[(1,.nils)],none⟩
theorem Ez:bd U Tryz.prog 94 Lw:=aN [.l] rfl (by kernel_rfl) rfl (by kernel_rfl) (by kernel_rfl) (show Tryz.prog.underlying 94=some (.slice 224)by kernel_rfl) (by kernel_rfl) (by kernel_rfl) (by kernel_rfl) (fun i h1 h2=>by cases h2) (fun d h=>by cases h)
def FD:TI U:=⟨17,.st,120,[(0,59),(2,45),(10,3),(11,9),(12,54),(15,30)],some (.st 3),false,[(1,.d (.int .i64) (0:Int)),(1,.d (.int .u32) (0:Int)),(1,.d (.int .u32) (0:Int)),(1,.d (.int .u32) (0:Int)),(1,.d (.int .u32) (0:Int)),(1,.d (.int .u32) (0:Int)),(1,.d (.int .u32) (0:Int)),(1,.d (.int .u32) (0:Int)),(1,.d (.int .u32) (0:Int)),(1,.d (.int .u32) (0:Int)),(1,.d (.int .i64) (0:Int)),(1,.d .str ([]:List UInt8)),(1,.d (.int .i64) (0:Int)),(1,.d .str ([]:List UInt8)),(1,.d (.int .i64) (0:Int)),(1,.d (.int .u32) (0:Int)),(1,.d (.int .i64) (0:Int))],none⟩
theorem Bv:bd U Tryz.prog 224 FD:=aN [.i .i64,.i .u32,.i .u32,.i .u32,.i .u32,.i .u32,.i .u32,.i .u32,.i .u32,.i .u32,.i .i64,.s,.i .i64,.s,.i .i64,.i .u32,.i .i64] rfl (by kernel_rfl) rfl (by kernel_rfl) (by kernel_rfl) ⟨_,rfl⟩ rfl (by kernel_rfl) (by kernel_rfl) (fun i h1 h2=>by cases h2) (fun d h=>by cases h)
def Lz:TI U:=⟨3,.st,32,[(0,3),(1,9),(2,2)],some (.st 1),true,[(1,.d (.int .i64) (0:Int)),(1,.d .str ([]:List UInt8)),(1,.d (.int .i64) (0:Int))],none⟩
theorem EA:bd U Tryz.prog 54 Lz:=aN [.i .i64,.s,.i .i64] rfl (by kernel_rfl) rfl (by kernel_rfl) (by kernel_rfl) ⟨_,rfl⟩ rfl (by kernel_rfl) (by kernel_rfl) (fun i h1 h2=>⟨rfl,by injection h1 with h1;subst h1;exact OO⟩) (fun d h=>by cases h)
def LA:TI U:=⟨1,.sl 104,24,[],some (.sl (.st 8)),false,[(1,.nils)],none⟩
theorem EB:bd U Tryz.prog 95 LA:=aN [.l] rfl (by kernel_rfl) rfl (by kernel_rfl) (by kernel_rfl) (show Tryz.prog.underlying 95=some (.slice 104)by kernel_rfl) (by kernel_rfl) (by kernel_rfl) (by kernel_rfl) (fun i h1 h2=>by cases h2) (fun d h=>by cases h)
def FE:TI U:=⟨5,.st,64,[(0,9),(1,3),(2,81)],some (.st 8),false,[(1,.d .str ([]:List UInt8)),(1,.d (.int .i64) (0:Int)),(1,.d (.int .i64) (0:Int)),(1,.d (.int .i64) (0:Int)),(1,.nils)],none⟩
theorem Bw:bd U Tryz.prog 104 FE:=aN [.s,.i .i64,.i .i64,.i .i64,.l] rfl (by kernel_rfl) rfl (by kernel_rfl) (by kernel_rfl) ⟨_,rfl⟩ rfl (by kernel_rfl) (by kernel_rfl) (fun i h1 h2=>by cases h2) (fun d h=>by cases h)
def FF:TI U:=⟨2,.st,32,[(0,91),(1,167)],none,false,[(1,.nils),(1,.nilm)],none⟩
theorem By:bd U Tryz.prog 169 FF:=aN [.l,.m] rfl (by kernel_rfl) rfl (by kernel_rfl) (by kernel_rfl) ⟨_,rfl⟩ rfl (by kernel_rfl) (by kernel_rfl) (fun i h1 h2=>by cases h2) (fun d h=>by cases h)
def FG:TI U:=⟨4,.st,4,[(0,4),(1,4),(2,4),(3,4)],some (.st 18),true,[(1,.d .bool false),(1,.d .bool false),(1,.d .bool false),(1,.d .bool false)],none⟩
theorem Bz:bd U Tryz.prog 172 FG:=aN [.b,.b,.b,.b] rfl (by kernel_rfl) rfl (by kernel_rfl) (by kernel_rfl) ⟨_,rfl⟩ rfl (by kernel_rfl) (by kernel_rfl) (fun i h1 h2=>⟨rfl,by injection h1 with h1;subst h1;exact KN⟩) (fun d h=>by cases h)
def LB:TI U:=⟨1,.int .u64,8,[],some (.int .u64),false,[(1,.d (.int .u64) (0:Int))],none⟩
theorem EC:bd U Tryz.prog 24 LB:=aN [.i .u64] rfl (by kernel_rfl) rfl (by kernel_rfl) (by kernel_rfl) (show Tryz.prog.underlying 24=some (.int .u64)by kernel_rfl) (by kernel_rfl) (by kernel_rfl) (by kernel_rfl) (fun i h1 h2=>by cases h2) (fun d h=>by cases h)
def FH:TI U:=⟨1,.fn,8,[],none,false,[(1,.nilf)],none⟩
theorem BA:bd U Tryz.prog 181 FH:=aN [.f] rfl (by kernel_rfl) rfl (by kernel_rfl) (by kernel_rfl) ⟨_,rfl⟩ (by kernel_rfl) (by kernel_rfl) (by kernel_rfl) (fun i h1 h2=>by cases h2) (fun d h=>by cases h)
def FI:TI U:=⟨1,.int .u64,8,[],some (.int .u64),false,[(1,.d (.int .u64) (0:Int))],none⟩
theorem BB:bd U Tryz.prog 216 FI:=aN [.i .u64] rfl (by kernel_rfl) rfl (by kernel_rfl) (by kernel_rfl) (show Tryz.prog.underlying 216=some (.int .u64)by kernel_rfl) (by kernel_rfl) (by kernel_rfl) (by kernel_rfl) (fun i h1 h2=>by cases h2) (fun d h=>by cases h)
def FJ:TI U:=⟨1,.fn,8,[],none,false,[(1,.nilf)],none⟩
theorem BC:bd U Tryz.prog 147 FJ:=aN [.f] rfl (by kernel_rfl) rfl (by kernel_rfl) (by kernel_rfl) ⟨_,rfl⟩ (by kernel_rfl) (by kernel_rfl) (by kernel_rfl) (fun i h1 h2=>by cases h2) (fun d h=>by cases h)
def Pk:TI U:=⟨1,.int .u8,1,[],some (.int .u8),false,[(1,.d (.int .u8) (0:Int))],none⟩
theorem Iw:bd U Tryz.prog 5 Pk:=aN [.i .u8] rfl (by kernel_rfl) rfl (by kernel_rfl) (by kernel_rfl) (show Tryz.prog.underlying 5=some (.int .u8)by kernel_rfl) (by kernel_rfl) (by kernel_rfl) (by kernel_rfl) (fun i h1 h2=>by cases h2) (fun d h=>by cases h)
def LC:TI U:=⟨1,.sl 59,24,[],some (.sl (.st 0)),false,[(1,.nils)],none⟩
theorem ED:bd U Tryz.prog 88 LC:=aN [.l] rfl (by kernel_rfl) rfl (by kernel_rfl) (by kernel_rfl) (show Tryz.prog.underlying 88=some (.slice 59)by kernel_rfl) (by kernel_rfl) (by kernel_rfl) (by kernel_rfl) (fun i h1 h2=>by cases h2) (fun d h=>by cases h)
def FK:TI U:=⟨1,.sl 50,24,[],some (.sl (.int .i64)),false,[(1,.nils)],none⟩
theorem BD:bd U Tryz.prog 244 FK:=aN [.l] rfl (by kernel_rfl) rfl (by kernel_rfl) (by kernel_rfl) (show Tryz.prog.underlying 244=some (.slice 50)by kernel_rfl) (by kernel_rfl) (by kernel_rfl) (by kernel_rfl) (fun i h1 h2=>by cases h2) (fun d h=>by cases h)
def FL:TI U:=⟨1,.sl 36,24,[],some (.sl (.sl (.st 4))),false,[(1,.nils)],none⟩
theorem BE:bd U Tryz.prog 249 FL:=aN [.l] rfl (by kernel_rfl) rfl (by kernel_rfl) (by kernel_rfl) (show Tryz.prog.underlying 249=some (.slice 36)by kernel_rfl) (by kernel_rfl) (by kernel_rfl) (by kernel_rfl) (fun i h1 h2=>by cases h2) (fun d h=>by cases h)
def LD:TI U:=⟨63,.arr 3 48,648,[],some (.arr 3 (.st 17)),false,[(1,.d (.int .i64) (0:Int)),(1,.d (.int .i64) (0:Int)),(1,.d (.int .u32) (0:Int)),(1,.d (.int .i64) (0:Int)),(1,.d (.int .i64) (0:Int)),(1,.d (.int .i64) (0:Int)),(1,.nils),(1,.nils),(1,.nils),(1,.nils),(1,.d (.int .u32) (0:Int)),(1,.d (.int .u32) (0:Int)),(1,.d (.int .u32) (0:Int)),(1,.d (.int .u32) (0:Int)),(1,.d (.int .u32) (0:Int)),(1,.d (.int .u32) (0:Int)),(1,.d (.int .u32) (0:Int)),(1,.d (.int .u32) (0:Int)),(1,.d (.int .i64) (0:Int)),(1,.nils),(1,.d (.int .u32) (0:Int)),(1,.d (.int .i64) (0:Int)),(1,.d (.int .i64) (0:Int)),(1,.d (.int .u32) (0:Int)),(1,.d (.int .i64) (0:Int)),(1,.d (.int .i64) (0:Int)),(1,.d (.int .i64) (0:Int)),(1,.nils),(1,.nils),(1,.nils),(1,.nils),(1,.d (.int .u32) (0:Int)),(1,.d (.int .u32) (0:Int)),(1,.d (.int .u32) (0:Int)),(1,.d (.int .u32) (0:Int)),(1,.d (.int .u32) (0:Int)),(1,.d (.int .u32) (0:Int)),(1,.d (.int .u32) (0:Int)),(1,.d (.int .u32) (0:Int)),(1,.d (.int .i64) (0:Int)),(1,.nils),(1,.d (.int .u32) (0:Int)),(1,.d (.int .i64) (0:Int)),(1,.d (.int .i64) (0:Int)),(1,.d (.int .u32) (0:Int)),(1,.d (.int .i64) (0:Int)),(1,.d (.int .i64) (0:Int)),(1,.d (.int .i64) (0:Int)),(1,.nils),(1,.nils),(1,.nils),(1,.nils),(1,.d (.int .u32) (0:Int)),(1,.d (.int .u32) (0:Int)),(1,.d (.int .u32) (0:Int)),(1,.d (.int .u32) (0:Int)),(1,.d (.int .u32) (0:Int)),(1,.d (.int .u32) (0:Int)),(1,.d (.int .u32) (0:Int)),(1,.d (.int .u32) (0:Int)),(1,.d (.int .i64) (0:Int)),(1,.nils),(1,.d (.int .u32) (0:Int))],none⟩
theorem EE:bd U Tryz.prog 49 LD:=aN [.i .i64,.i .i64,.i .u32,.i .i64,.i .i64,.i .i64,.l,.l,.l,.l,.i .u32,.i .u32,.i .u32,.i .u32,.i .u32,.i .u32,.i .u32,.i .u32,.i .i64,.l,.i .u32,.i .i64,.i .i64,.i .u32,.i .i64,.i .i64,.i .i64,.l,.l,.l,.l,.i .u32,.i .u32,.i .u32,.i .u32,.i .u32,.i .u32,.i .u32,.i .u32,.i .i64,.l,.i .u32,.i .i64,.i .i64,.i .u32,.i .i64,.i .i64,.i .i64,.l,.l,.l,.l,.i .u32,.i .u32,.i .u32,.i .u32,.i .u32,.i .u32,.i .u32,.i .u32,.i .i64,.l,.i .u32] rfl (by kernel_rfl) rfl (by kernel_rfl) (by kernel_rfl) (show Tryz.prog.underlying 49=some (.array 3 48)by kernel_rfl) (by kernel_rfl) (by kernel_rfl) (by kernel_rfl) (fun i h1 h2=>by cases h2) (fun d h=>by cases h)
def LF:TI U:=⟨1,.sl 56,24,[],some (.sl (.st 19)),false,[(1,.nils)],none⟩
theorem EF:bd U Tryz.prog 22 LF:=aN [.l] rfl (by kernel_rfl) rfl (by kernel_rfl) (by kernel_rfl) (show Tryz.prog.underlying 22=some (.slice 56)by kernel_rfl) (by kernel_rfl) (by kernel_rfl) (by kernel_rfl) (fun i h1 h2=>by cases h2) (fun d h=>by cases h)
def LG:TI U:=⟨6,.st,56,[(0,3),(1,3),(2,3),(3,54)],some (.st 19),true,[(1,.d (.int .i64) (0:Int)),(1,.d (.int .i64) (0:Int)),(1,.d (.int .i64) (0:Int)),(1,.d (.int .i64) (0:Int)),(1,.d .str ([]:List UInt8)),(1,.d (.int .i64) (0:Int))],none⟩
theorem EG:bd U Tryz.prog 56 LG:=aN [.i .i64,.i .i64,.i .i64,.i .i64,.s,.i .i64] rfl (by kernel_rfl) rfl (by kernel_rfl) (by kernel_rfl) ⟨_,rfl⟩ rfl (by kernel_rfl) (by kernel_rfl) (fun i h1 h2=>⟨rfl,by injection h1 with h1;subst h1;exact OP⟩) (fun d h=>by cases h)
def FM:TI U:=⟨1,.fn,8,[],none,false,[(1,.nilf)],none⟩
theorem BF:bd U Tryz.prog 115 FM:=aN [.f] rfl (by kernel_rfl) rfl (by kernel_rfl) (by kernel_rfl) ⟨_,rfl⟩ (by kernel_rfl) (by kernel_rfl) (by kernel_rfl) (fun i h1 h2=>by cases h2) (fun d h=>by cases h)
def FN:TI U:=⟨1,.fn,8,[],none,false,[(1,.nilf)],none⟩
theorem BG:bd U Tryz.prog 154 FN:=aN [.f] rfl (by kernel_rfl) rfl (by kernel_rfl) (by kernel_rfl) ⟨_,rfl⟩ (by kernel_rfl) (by kernel_rfl) (by kernel_rfl) (fun i h1 h2=>by cases h2) (fun d h=>by cases h)
def FO:TI U:=⟨1,.sl 2,24,[],some (.sl (.int .i64)),false,[(1,.nils)],none⟩
theorem BH:bd U Tryz.prog 276 FO:=aN [.l] rfl (by kernel_rfl) rfl (by kernel_rfl) (by kernel_rfl) (show Tryz.prog.underlying 276=some (.slice 2)by kernel_rfl) (by kernel_rfl) (by kernel_rfl) (by kernel_rfl) (fun i h1 h2=>by cases h2) (fun d h=>by cases h)
def FP:TI U:=⟨1,.fn,8,[],none,false,[(1,.nilf)],none⟩
theorem BI:bd U Tryz.prog 198 FP:=aN [.f] rfl (by kernel_rfl) rfl (by kernel_rfl) (by kernel_rfl) ⟨_,rfl⟩ (by kernel_rfl) (by kernel_rfl) (by kernel_rfl) (fun i h1 h2=>by cases h2) (fun d h=>by cases h)
def LH:TI U:=⟨1,.sl 63,24,[],some (.sl (.st 16)),false,[(1,.nils)],none⟩
theorem EH:bd U Tryz.prog 27 LH:=aN [.l] rfl (by kernel_rfl) rfl (by kernel_rfl) (by kernel_rfl) (show Tryz.prog.underlying 27=some (.slice 63)by kernel_rfl) (by kernel_rfl) (by kernel_rfl) (by kernel_rfl) (fun i h1 h2=>by cases h2) (fun d h=>by cases h)
def FQ:TI U:=⟨1,.int .i64,8,[],some (.int .i64),false,[(1,.d (.int .i64) (0:Int))],none⟩
theorem BJ:bd U Tryz.prog 261 FQ:=aN [.i .i64] rfl (by kernel_rfl) rfl (by kernel_rfl) (by kernel_rfl) (show Tryz.prog.underlying 261=some (.int .i64)by kernel_rfl) (by kernel_rfl) (by kernel_rfl) (by kernel_rfl) (fun i h1 h2=>by cases h2) (fun d h=>by cases h)
def FR:TI U:=⟨1,.fn,8,[],none,false,[(1,.nilf)],none⟩
theorem BK:bd U Tryz.prog 158 FR:=aN [.f] rfl (by kernel_rfl) rfl (by kernel_rfl) (by kernel_rfl) ⟨_,rfl⟩ (by kernel_rfl) (by kernel_rfl) (by kernel_rfl) (fun i h1 h2=>by cases h2) (fun d h=>by cases h)
def FS:TI U:=⟨1,.fn,8,[],none,false,[(1,.nilf)],none⟩
theorem BL:bd U Tryz.prog 161 FS:=aN [.f] rfl (by kernel_rfl) rfl (by kernel_rfl) (by kernel_rfl) ⟨_,rfl⟩ (by kernel_rfl) (by kernel_rfl) (by kernel_rfl) (fun i h1 h2=>by cases h2) (fun d h=>by cases h)
def FT:TI U:=⟨1,.fn,8,[],none,false,[(1,.nilf)],none⟩
theorem BM:bd U Tryz.prog 205 FT:=aN [.f] rfl (by kernel_rfl) rfl (by kernel_rfl) (by kernel_rfl) ⟨_,rfl⟩ (by kernel_rfl) (by kernel_rfl) (by kernel_rfl) (fun i h1 h2=>by cases h2) (fun d h=>by cases h)
def LI:TI U:=⟨1,.int .i32,4,[],some (.int .i32),false,[(1,.d (.int .i32) (0:Int))],none⟩
theorem EI:bd U Tryz.prog 21 LI:=aN [.i .i32] rfl (by kernel_rfl) rfl (by kernel_rfl) (by kernel_rfl) (show Tryz.prog.underlying 21=some (.int .i32)by kernel_rfl) (by kernel_rfl) (by kernel_rfl) (by kernel_rfl) (fun i h1 h2=>by cases h2) (fun d h=>by cases h)
def FU:TI U:=⟨1,.fn,8,[],none,false,[(1,.nilf)],none⟩
theorem BN:bd U Tryz.prog 209 FU:=aN [.f] rfl (by kernel_rfl) rfl (by kernel_rfl) (by kernel_rfl) ⟨_,rfl⟩ (by kernel_rfl) (by kernel_rfl) (by kernel_rfl) (fun i h1 h2=>by cases h2) (fun d h=>by cases h)
def FV:TI U:=⟨2,.arr 2 2,16,[],some (.arr 2 (.int .i64)),true,[(1,.d (.int .i64) (0:Int)),(1,.d (.int .i64) (0:Int))],none⟩
theorem BO:bd U Tryz.prog 245 FV:=aN [.i .i64,.i .i64] rfl (by kernel_rfl) rfl (by kernel_rfl) (by kernel_rfl) (show Tryz.prog.underlying 245=some (.array 2 2)by kernel_rfl) (by kernel_rfl) (by kernel_rfl) (by kernel_rfl) (fun i h1 h2=>⟨rfl,by injection h1 with h1;subst h1;exact KT⟩) (fun d h=>by cases h)
def FW:TI U:=⟨1,.sl 26,24,[],some (.sl (.sl (.st 3))),false,[(1,.nils)],none⟩
theorem BP:bd U Tryz.prog 300 FW:=aN [.l] rfl (by kernel_rfl) rfl (by kernel_rfl) (by kernel_rfl) (show Tryz.prog.underlying 300=some (.slice 26)by kernel_rfl) (by kernel_rfl) (by kernel_rfl) (by kernel_rfl) (fun i h1 h2=>by cases h2) (fun d h=>by cases h)
def LJ:TI U:=⟨1,.ptr 48,8,[],none,false,[(1,.nilp)],none⟩
theorem EJ:bd U Tryz.prog 57 LJ:=aN [.p] rfl (by kernel_rfl) rfl (by kernel_rfl) (by kernel_rfl) (show Tryz.prog.underlying 57=some (.pointer 48)by kernel_rfl) (by kernel_rfl) (by kernel_rfl) (by kernel_rfl) (fun i h1 h2=>by cases h2) (fun d h=>by cases h)
def FX:TI U:=⟨1,.fn,8,[],none,false,[(1,.nilf)],none⟩
theorem BQ:bd U Tryz.prog 163 FX:=aN [.f] rfl (by kernel_rfl) rfl (by kernel_rfl) (by kernel_rfl) ⟨_,rfl⟩ (by kernel_rfl) (by kernel_rfl) (by kernel_rfl) (fun i h1 h2=>by cases h2) (fun d h=>by cases h)
def FY:TI U:=⟨1,.fn,8,[],none,false,[(1,.nilf)],none⟩
theorem BR:bd U Tryz.prog 193 FY:=aN [.f] rfl (by kernel_rfl) rfl (by kernel_rfl) (by kernel_rfl) ⟨_,rfl⟩ (by kernel_rfl) (by kernel_rfl) (by kernel_rfl) (fun i h1 h2=>by cases h2) (fun d h=>by cases h)
def FZ:TI U:=⟨1,.fn,8,[],none,false,[(1,.nilf)],none⟩
theorem BS:bd U Tryz.prog 241 FZ:=aN [.f] rfl (by kernel_rfl) rfl (by kernel_rfl) (by kernel_rfl) ⟨_,rfl⟩ (by kernel_rfl) (by kernel_rfl) (by kernel_rfl) (fun i h1 h2=>by cases h2) (fun d h=>by cases h)
def F2:KD U:=⟨59,3,.st 0,.int .i64,(inferInstance:DecidableEq bF),(fun x:bF=>Value.agg (Be x).toArray),(0:Int)⟩
theorem Ix:Cu Tryz.prog U F2:=⟨yG (α:=bF) ⟨_,rfl⟩ (by kernel_rfl) (Bo) (fun em x w=>by kernel_rfl) (fun x=>rfl),fun Y S x vs v hd ha=>by rw[Bf hd]at ha;exact ha,nY Bp (Eq.refl _) (by kernel_rfl)⟩
def F3:TI U:=⟨1,.mp 59 3,8,[],none,false,[(1,.nilm)],some F2⟩
theorem BT:bd U Tryz.prog 167 F3:=aN [.m] rfl (by kernel_rfl) rfl (by kernel_rfl) (by kernel_rfl) (show Tryz.prog.underlying 167=some (.map 59 3)by kernel_rfl) (by kernel_rfl) (by kernel_rfl) (by kernel_rfl) (fun i h1 h2=>by cases h2) (fun d h=>by injection h with h;subst h;exact⟨Ix,by kernel_rfl⟩)
def pR:KD U:=⟨9,70,.str,.st 3,(inferInstance:DecidableEq (List UInt8)),(fun x:List UInt8=>sv x),(⟨⟨0,0⟩,[0,0,0,0,0,0,0,0],0,[],⟨0,[],0⟩,⟨0,0⟩⟩:ah)⟩
theorem Iy:Cu Tryz.prog U pR:=⟨fI.str (by kernel_rfl),fun Y S x vs v hd ha=>by have e:=(aK.inv hd).1;rw[e]at ha;exact(List.cons.inj ha).1.symm,nY mS (Eq.refl _) (by kernel_rfl)⟩
def F4:TI U:=⟨1,.mp 9 70,8,[],none,false,[(1,.nilm)],some pR⟩
theorem BU:bd U Tryz.prog 138 F4:=aN [.m] rfl (by kernel_rfl) rfl (by kernel_rfl) (by kernel_rfl) (show Tryz.prog.underlying 138=some (.map 9 70)by kernel_rfl) (by kernel_rfl) (by kernel_rfl) (by kernel_rfl) (fun i h1 h2=>by cases h2) (fun d h=>by injection h with h;subst h;exact⟨Iy,by kernel_rfl⟩)
def uq:KD U:=⟨9,133,.str,.st 5,(inferInstance:DecidableEq (List UInt8)),(fun x:List UInt8=>sv x),(⟨⟨⟨0,0⟩,0⟩,[],0,⟨0,0⟩⟩:bk)⟩
theorem Iz:Cu Tryz.prog U uq:=⟨fI.str (by kernel_rfl),fun Y S x vs v hd ha=>by have e:=(aK.inv hd).1;rw[e]at ha;exact(List.cons.inj ha).1.symm,nY km (Eq.refl _) (by kernel_rfl)⟩
def F5:TI U:=⟨1,.mp 9 133,8,[],none,false,[(1,.nilm)],some uq⟩
theorem BV:bd U Tryz.prog 219 F5:=aN [.m] rfl (by kernel_rfl) rfl (by kernel_rfl) (by kernel_rfl) (show Tryz.prog.underlying 219=some (.map 9 133)by kernel_rfl) (by kernel_rfl) (by kernel_rfl) (by kernel_rfl) (fun i h1 h2=>by cases h2) (fun d h=>by injection h with h;subst h;exact⟨Iz,by kernel_rfl⟩)
def LK:KD U:=⟨59,45,.st 0,.arr 8 (.int .u32),(inferInstance:DecidableEq bF),(fun x:bF=>Value.agg (Be x).toArray),([0,0,0,0,0,0,0,0]:List (Int))⟩
theorem LM:Cu Tryz.prog U LK:=⟨yG (α:=bF) ⟨_,rfl⟩ (by kernel_rfl) (Bo) (fun em x w=>by kernel_rfl) (fun x=>rfl),fun Y S x vs v hd ha=>by rw[Bf hd]at ha;exact ha,nY xx (Eq.refl _) (by kernel_rfl)⟩
def LN:TI U:=⟨1,.mp 59 45,8,[],none,false,[(1,.nilm)],some LK⟩
theorem EK:bd U Tryz.prog 93 LN:=aN [.m] rfl (by kernel_rfl) rfl (by kernel_rfl) (by kernel_rfl) (show Tryz.prog.underlying 93=some (.map 59 45)by kernel_rfl) (by kernel_rfl) (by kernel_rfl) (by kernel_rfl) (fun i h1 h2=>by cases h2) (fun d h=>by injection h with h;subst h;exact⟨LM,by kernel_rfl⟩)
def Pn:dO U:= [(3,Pf),(45,KU),(28,KV),(36,KW),(61,KX),(59,KY),(70,KZ),(9,Ph),(66,K0),(2,Pi),(30,K2),(110,Fv),(26,K3),(108,Fx),(107,Fy),(75,K4),(73,K5),(144,Fz),(38,K6),(35,K7),(128,FA),(41,K8),(39,K9),(133,FB),(4,Pj),(43,Lb),(32,Lc),(34,Ld),(91,Lg),(63,Lh),(50,Li),(48,Lj),(46,Ll),(81,Lp),(79,Lq),(149,FC),(25,Lr),(86,Lu),(97,Lv),(94,Lw),(224,FD),(54,Lz),(95,LA),(104,FE),(169,FF),(167,F3),(172,FG),(24,LB),(181,FH),(216,FI),(147,FJ),(5,Pk),(88,LC),(244,FK),(249,FL),(49,LD),(22,LF),(56,LG),(115,FM),(154,FN),(276,FO),(198,FP),(27,LH),(138,F4),(219,F5),(261,FQ),(93,LN),(158,FR),(161,FS),(205,FT),(21,LI),(209,FU),(245,FV),(300,FW),(57,LJ),(163,FX),(193,FY),(241,FZ)]
theorem IA:bK U Tryz.prog Pn:=au Bp (au xx (au D7 (au D8 (au kO (au D9 (au mS (au Is (au Ea (au Iu (au Eb (au Bq (au Ec (au Br (au Bt (au Ed (au Ee (au uo (au Ef (au Eg (au kj (au Eh (au Ei (au km (au Iv (au Ej (au Ek (au El (au Eo (au Ep (au Er (au Es (au Et (au Eu (au Ev (au Bu (au Ew (au Ex (au Ey (au Ez (au Bv (au EA (au EB (au Bw (au By (au BT (au Bz (au EC (au BA (au BB (au BC (au Iw (au ED (au BD (au BE (au EE (au EF (au EG (au BF (au BG (au BH (au BI (au EH (au BU (au BV (au BJ (au EK (au BK (au BL (au BM (au EI (au BN (au BO (au BP (au EJ (au BQ (au BR (au BS (B4))))))))))))))))))))))))))))))))))))))))))))))))))))))))))))))))))))))))))))))
end Go.Proofs.YtmpeiadlohbikaaGreatDoor.V

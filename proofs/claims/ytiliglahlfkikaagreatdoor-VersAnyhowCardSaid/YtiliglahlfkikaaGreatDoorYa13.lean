/- Short forms for printed walks: side conditions are proved where nothing else is said. -/
import Derived.Test.YtiliglahlfkikaaGreatDoorYa12
import Derived.Test.YtiliglahlfkikaaGreatDoorProg
section
set_option linter.unusedVariables false
set_option linter.unusedSimpArgs false
set_option maxRecDepth 20000
namespace Go.Proofs.YtiliglahlfkikaaGreatDoor.V
open Go.RowKit
structure fm where
 origin:Int
 seq:Int
deriving DecidableEq,Inhabited
structure ae where
 id:fm
 n:Int
deriving DecidableEq,Inhabited
structure az where
 time:Int
 origin:Int
deriving DecidableEq,Inhabited
structure ab where
 act:Int
 name:List UInt8
 val:Int
 tag:ae
 at_:az
 tags:List (ae)
deriving DecidableEq,Inhabited
structure bl where
 tag:ae
 field:List UInt8
 val:Int
 at_:az
deriving DecidableEq,Inhabited
structure bK where
 val:Int
 at_:az
deriving DecidableEq,Inhabited
structure cg where
 plus:Int
 minus:Int
deriving DecidableEq,Inhabited
structure bj where
 tag:ae
 elem:List UInt8
deriving DecidableEq,Inhabited
structure aX where
 adds:List (bj)
 gone:List (ae)
deriving DecidableEq,Inhabited
structure bc where
 puts:List (bl)
 gone:List (ae)
deriving DecidableEq,Inhabited
structure aA where
 kind:Int
 reg:bK
 num:cg
 set:aX
 map:bc
deriving DecidableEq,Inhabited
structure CY where
 s:aA
 b:List (Int)
 l:List (ab)
 seen:List (ae)
deriving DecidableEq,Inhabited
structure aM where
 field:List UInt8
 val:Int
deriving DecidableEq,Inhabited
structure bI where
 kind:Int
 val:Int
 items:List (aM)
deriving DecidableEq,Inhabited
structure vZ where
 kind:Int
 e:ab
 v:List (Int)
 more:List (ab)
deriving DecidableEq,Inhabited
structure fT where
 name:Bool
 val:Bool
 at_:Bool
 tags:Bool
deriving DecidableEq,Inhabited
structure uS where
 act:Int
 name:List UInt8
 val:Int
deriving DecidableEq,Inhabited
def ty:Nat→Type|0=>fm|1=>ae|2=>az|3=>ab|4=>bl|5=>bK|6=>cg|7=>bj|8=>aX|9=>bc|10=>aA|11=>CY|12=>aM|13=>bI|14=>vZ|15=>fT|16=>uS|_=>Unit
def Pb:RD ty fm where
 sz:=2
 fs:= [(1,.int .i64),(1,.int .u32)]
 to x:=(x.origin,x.seq,())
 toK x K:=K (x.origin,x.seq,())
 ofK:=fun(a0,a1,_) K=>K ⟨a0,a1⟩
 ixK l q K:=K (ix l q)
 eqK a b K:=K (decide (a=b))
 sz_ok:=rfl
 toK_ok _ _ h:=h
 ofK_ok:=fun(a0,a1,_) K h=>⟨_,h,rfl⟩
 ixK_ok l q K h:=⟨_,h,fun y hy=>by unfold ix;rw[hy];rfl⟩
 eqK_ok a b K h:=⟨_,h,by simp⟩
def Pc:RD ty ae where
 sz:=3
 fs:= [(2,.st 0),(1,.int .i64)]
 to x:=(x.id,x.n,())
 toK x K:=K (x.id,x.n,())
 ofK:=fun(a0,a1,_) K=>K ⟨a0,a1⟩
 ixK l q K:=K (ix l q)
 eqK a b K:=K (decide (a=b))
 sz_ok:=rfl
 toK_ok _ _ h:=h
 ofK_ok:=fun(a0,a1,_) K h=>⟨_,h,rfl⟩
 ixK_ok l q K h:=⟨_,h,fun y hy=>by unfold ix;rw[hy];rfl⟩
 eqK_ok a b K h:=⟨_,h,by simp⟩
def Pd:RD ty az where
 sz:=2
 fs:= [(1,.int .u32),(1,.int .i64)]
 to x:=(x.time,x.origin,())
 toK x K:=K (x.time,x.origin,())
 ofK:=fun(a0,a1,_) K=>K ⟨a0,a1⟩
 ixK l q K:=K (ix l q)
 eqK a b K:=K (decide (a=b))
 sz_ok:=rfl
 toK_ok _ _ h:=h
 ofK_ok:=fun(a0,a1,_) K h=>⟨_,h,rfl⟩
 ixK_ok l q K h:=⟨_,h,fun y hy=>by unfold ix;rw[hy];rfl⟩
 eqK_ok a b K h:=⟨_,h,by simp⟩
def Pe:RD ty ab where
 sz:=9
 fs:= [(1,.int .i64),(1,.str),(1,.int .i64),(3,.st 1),(2,.st 2),(1,.sl (.st 1))]
 to x:=(x.act,x.name,x.val,x.tag,x.at_,x.tags,())
 toK x K:=K (x.act,x.name,x.val,x.tag,x.at_,x.tags,())
 ofK:=fun(a0,a1,a2,a3,a4,a5,_) K=>K ⟨a0,a1,a2,a3,a4,a5⟩
 ixK l q K:=K (ix l q)
 eqK a b K:=K (decide (a=b))
 sz_ok:=rfl
 toK_ok _ _ h:=h
 ofK_ok:=fun(a0,a1,a2,a3,a4,a5,_) K h=>⟨_,h,rfl⟩
 ixK_ok l q K h:=⟨_,h,fun y hy=>by unfold ix;rw[hy];rfl⟩
 eqK_ok a b K h:=⟨_,h,by simp⟩
def Pf:RD ty bl where
 sz:=7
 fs:= [(3,.st 1),(1,.str),(1,.int .i64),(2,.st 2)]
 to x:=(x.tag,x.field,x.val,x.at_,())
 toK x K:=K (x.tag,x.field,x.val,x.at_,())
 ofK:=fun(a0,a1,a2,a3,_) K=>K ⟨a0,a1,a2,a3⟩
 ixK l q K:=K (ix l q)
 eqK a b K:=K (decide (a=b))
 sz_ok:=rfl
 toK_ok _ _ h:=h
 ofK_ok:=fun(a0,a1,a2,a3,_) K h=>⟨_,h,rfl⟩
 ixK_ok l q K h:=⟨_,h,fun y hy=>by unfold ix;rw[hy];rfl⟩
 eqK_ok a b K h:=⟨_,h,by simp⟩
def Ph:RD ty bK where
 sz:=3
 fs:= [(1,.int .i64),(2,.st 2)]
 to x:=(x.val,x.at_,())
 toK x K:=K (x.val,x.at_,())
 ofK:=fun(a0,a1,_) K=>K ⟨a0,a1⟩
 ixK l q K:=K (ix l q)
 eqK a b K:=K (decide (a=b))
 sz_ok:=rfl
 toK_ok _ _ h:=h
 ofK_ok:=fun(a0,a1,_) K h=>⟨_,h,rfl⟩
 ixK_ok l q K h:=⟨_,h,fun y hy=>by unfold ix;rw[hy];rfl⟩
 eqK_ok a b K h:=⟨_,h,by simp⟩
def Pi:RD ty cg where
 sz:=2
 fs:= [(1,.int .i64),(1,.int .i64)]
 to x:=(x.plus,x.minus,())
 toK x K:=K (x.plus,x.minus,())
 ofK:=fun(a0,a1,_) K=>K ⟨a0,a1⟩
 ixK l q K:=K (ix l q)
 eqK a b K:=K (decide (a=b))
 sz_ok:=rfl
 toK_ok _ _ h:=h
 ofK_ok:=fun(a0,a1,_) K h=>⟨_,h,rfl⟩
 ixK_ok l q K h:=⟨_,h,fun y hy=>by unfold ix;rw[hy];rfl⟩
 eqK_ok a b K h:=⟨_,h,by simp⟩
def Pj:RD ty bj where
 sz:=4
 fs:= [(3,.st 1),(1,.str)]
 to x:=(x.tag,x.elem,())
 toK x K:=K (x.tag,x.elem,())
 ofK:=fun(a0,a1,_) K=>K ⟨a0,a1⟩
 ixK l q K:=K (ix l q)
 eqK a b K:=K (decide (a=b))
 sz_ok:=rfl
 toK_ok _ _ h:=h
 ofK_ok:=fun(a0,a1,_) K h=>⟨_,h,rfl⟩
 ixK_ok l q K h:=⟨_,h,fun y hy=>by unfold ix;rw[hy];rfl⟩
 eqK_ok a b K h:=⟨_,h,by simp⟩
def Pk:RD ty aX where
 sz:=2
 fs:= [(1,.sl (.st 7)),(1,.sl (.st 1))]
 to x:=(x.adds,x.gone,())
 toK x K:=K (x.adds,x.gone,())
 ofK:=fun(a0,a1,_) K=>K ⟨a0,a1⟩
 ixK l q K:=K (ix l q)
 eqK a b K:=K (decide (a=b))
 sz_ok:=rfl
 toK_ok _ _ h:=h
 ofK_ok:=fun(a0,a1,_) K h=>⟨_,h,rfl⟩
 ixK_ok l q K h:=⟨_,h,fun y hy=>by unfold ix;rw[hy];rfl⟩
 eqK_ok a b K h:=⟨_,h,by simp⟩
def Pn:RD ty bc where
 sz:=2
 fs:= [(1,.sl (.st 4)),(1,.sl (.st 1))]
 to x:=(x.puts,x.gone,())
 toK x K:=K (x.puts,x.gone,())
 ofK:=fun(a0,a1,_) K=>K ⟨a0,a1⟩
 ixK l q K:=K (ix l q)
 eqK a b K:=K (decide (a=b))
 sz_ok:=rfl
 toK_ok _ _ h:=h
 ofK_ok:=fun(a0,a1,_) K h=>⟨_,h,rfl⟩
 ixK_ok l q K h:=⟨_,h,fun y hy=>by unfold ix;rw[hy];rfl⟩
 eqK_ok a b K h:=⟨_,h,by simp⟩
def L8:RD ty aA where
 sz:=10
 fs:= [(1,.int .i64),(3,.st 5),(2,.st 6),(2,.st 8),(2,.st 9)]
 to x:=(x.kind,x.reg,x.num,x.set,x.map,())
 toK x K:=K (x.kind,x.reg,x.num,x.set,x.map,())
 ofK:=fun(a0,a1,a2,a3,a4,_) K=>K ⟨a0,a1,a2,a3,a4⟩
 ixK l q K:=K (ix l q)
 eqK a b K:=K (decide (a=b))
 sz_ok:=rfl
 toK_ok _ _ h:=h
 ofK_ok:=fun(a0,a1,a2,a3,a4,_) K h=>⟨_,h,rfl⟩
 ixK_ok l q K h:=⟨_,h,fun y hy=>by unfold ix;rw[hy];rfl⟩
 eqK_ok a b K h:=⟨_,h,by simp⟩
def L9:RD ty CY where
 sz:=20
 fs:= [(10,.st 10),(8,.arr 8 (.int .u32)),(1,.sl (.st 3)),(1,.sl (.st 1))]
 to x:=(x.s,x.b,x.l,x.seen,())
 toK x K:=K (x.s,x.b,x.l,x.seen,())
 ofK:=fun(a0,a1,a2,a3,_) K=>K ⟨a0,a1,a2,a3⟩
 ixK l q K:=K (ix l q)
 eqK a b K:=K (decide (a=b))
 sz_ok:=rfl
 toK_ok _ _ h:=h
 ofK_ok:=fun(a0,a1,a2,a3,_) K h=>⟨_,h,rfl⟩
 ixK_ok l q K h:=⟨_,h,fun y hy=>by unfold ix;rw[hy];rfl⟩
 eqK_ok a b K h:=⟨_,h,by simp⟩
def Me:RD ty aM where
 sz:=2
 fs:= [(1,.str),(1,.int .i64)]
 to x:=(x.field,x.val,())
 toK x K:=K (x.field,x.val,())
 ofK:=fun(a0,a1,_) K=>K ⟨a0,a1⟩
 ixK l q K:=K (ix l q)
 eqK a b K:=K (decide (a=b))
 sz_ok:=rfl
 toK_ok _ _ h:=h
 ofK_ok:=fun(a0,a1,_) K h=>⟨_,h,rfl⟩
 ixK_ok l q K h:=⟨_,h,fun y hy=>by unfold ix;rw[hy];rfl⟩
 eqK_ok a b K h:=⟨_,h,by simp⟩
def Mf:RD ty bI where
 sz:=3
 fs:= [(1,.int .i64),(1,.int .i64),(1,.sl (.st 12))]
 to x:=(x.kind,x.val,x.items,())
 toK x K:=K (x.kind,x.val,x.items,())
 ofK:=fun(a0,a1,a2,_) K=>K ⟨a0,a1,a2⟩
 ixK l q K:=K (ix l q)
 eqK a b K:=K (decide (a=b))
 sz_ok:=rfl
 toK_ok _ _ h:=h
 ofK_ok:=fun(a0,a1,a2,_) K h=>⟨_,h,rfl⟩
 ixK_ok l q K h:=⟨_,h,fun y hy=>by unfold ix;rw[hy];rfl⟩
 eqK_ok a b K h:=⟨_,h,by simp⟩
def Mg:RD ty vZ where
 sz:=19
 fs:= [(1,.int .i64),(9,.st 3),(8,.arr 8 (.int .u32)),(1,.sl (.st 3))]
 to x:=(x.kind,x.e,x.v,x.more,())
 toK x K:=K (x.kind,x.e,x.v,x.more,())
 ofK:=fun(a0,a1,a2,a3,_) K=>K ⟨a0,a1,a2,a3⟩
 ixK l q K:=K (ix l q)
 eqK a b K:=K (decide (a=b))
 sz_ok:=rfl
 toK_ok _ _ h:=h
 ofK_ok:=fun(a0,a1,a2,a3,_) K h=>⟨_,h,rfl⟩
 ixK_ok l q K h:=⟨_,h,fun y hy=>by unfold ix;rw[hy];rfl⟩
 eqK_ok a b K h:=⟨_,h,by simp⟩
def Mi:RD ty fT where
 sz:=4
 fs:= [(1,.bool),(1,.bool),(1,.bool),(1,.bool)]
 to x:=(x.name,x.val,x.at_,x.tags,())
 toK x K:=K (x.name,x.val,x.at_,x.tags,())
 ofK:=fun(a0,a1,a2,a3,_) K=>K ⟨a0,a1,a2,a3⟩
 ixK l q K:=K (ix l q)
 eqK a b K:=K (decide (a=b))
 sz_ok:=rfl
 toK_ok _ _ h:=h
 ofK_ok:=fun(a0,a1,a2,a3,_) K h=>⟨_,h,rfl⟩
 ixK_ok l q K h:=⟨_,h,fun y hy=>by unfold ix;rw[hy];rfl⟩
 eqK_ok a b K h:=⟨_,h,by simp⟩
def Mj:RD ty uS where
 sz:=3
 fs:= [(1,.int .i64),(1,.str),(1,.int .i64)]
 to x:=(x.act,x.name,x.val,())
 toK x K:=K (x.act,x.name,x.val,())
 ofK:=fun(a0,a1,a2,_) K=>K ⟨a0,a1,a2⟩
 ixK l q K:=K (ix l q)
 eqK a b K:=K (decide (a=b))
 sz_ok:=rfl
 toK_ok _ _ h:=h
 ofK_ok:=fun(a0,a1,a2,_) K h=>⟨_,h,rfl⟩
 ixK_ok l q K h:=⟨_,h,fun y hy=>by unfold ix;rw[hy];rfl⟩
 eqK_ok a b K h:=⟨_,h,by simp⟩
def Po:RD ty Unit where
 sz:=0
 fs:= []
 to x:=()
 toK x K:=False
 ofK:=fun _ _=>False
 ixK _ _ _:=False
 eqK _ _ _:=False
 sz_ok:=rfl
 toK_ok _ _ h:=h.elim
 ofK_ok _ _ h:=h.elim
 ixK_ok _ _ _ h:=h.elim
 eqK_ok _ _ _ h:=h.elim
def U:bH where
 ty:=ty
 rd:=fun|0=>Pb|1=>Pc|2=>Pd|3=>Pe|4=>Pf|5=>Ph|6=>Pi|7=>Pj|8=>Pk|9=>Pn|10=>L8|11=>L9|12=>Me|13=>Mf|14=>Mg|15=>Mi|16=>Mj|_+17=>Po
def Ft(a:fm):List Value:= [.int .i64 a.origin,.int .u32 a.seq]
theorem Fu{Y:List Nat}{S:World→Prop}{a:fm}{vs:List Value}(h:aC U Y S (.st 0) a vs):vs=Ft a:=by
 obtain⟨h0,_⟩:=aC.inv h;obtain⟨v0,u0,e0,d0,_,h1⟩:=bw.inv h0;obtain⟨g0,_⟩:=aC.inv d0;obtain⟨v1,u1,e1,d1,_,h2⟩:=bw.inv h1;obtain⟨g1,_⟩:=aC.inv d1;have hz:u1= []:=bw.inv h2;rw[e0,e1,g0,g1,hz];rfl
def yI(a:ae):List Value:= [.int .i64 a.id.origin,.int .u32 a.id.seq,.int .i64 a.n]
theorem rV{Y:List Nat}{S:World→Prop}{a:ae}{vs:List Value}(h:aC U Y S (.st 1) a vs):vs=yI a:=by
 obtain⟨h0,_⟩:=aC.inv h;obtain⟨v0,u0,e0,d0,_,h1⟩:=bw.inv h0;have g0:=Fu d0;obtain⟨v1,u1,e1,d1,_,h2⟩:=bw.inv h1;obtain⟨g1,_⟩:=aC.inv d1;have hz:u1= []:=bw.inv h2;rw[e0,e1,g0,g1,hz];rfl
def Fv(a:az):List Value:= [.int .u32 a.time,.int .i64 a.origin]
theorem BM{Y:List Nat}{S:World→Prop}{a:az}{vs:List Value}(h:aC U Y S (.st 2) a vs):vs=Fv a:=by
 obtain⟨h0,_⟩:=aC.inv h;obtain⟨v0,u0,e0,d0,_,h1⟩:=bw.inv h0;obtain⟨g0,_⟩:=aC.inv d0;obtain⟨v1,u1,e1,d1,_,h2⟩:=bw.inv h1;obtain⟨g1,_⟩:=aC.inv d1;have hz:u1= []:=bw.inv h2;rw[e0,e1,g0,g1,hz];rfl
def yJ(a:bl):List Value:= [.int .i64 a.tag.id.origin,.int .u32 a.tag.id.seq,.int .i64 a.tag.n,sv a.field,.int .i64 a.val,.int .u32 a.at_.time,.int .i64 a.at_.origin]
theorem BN{Y:List Nat}{S:World→Prop}{a:bl}{vs:List Value}(h:aC U Y S (.st 4) a vs):vs=yJ a:=by
 obtain⟨h0,_⟩:=aC.inv h;obtain⟨v0,u0,e0,d0,_,h1⟩:=bw.inv h0;have g0:=rV d0;obtain⟨v1,u1,e1,d1,_,h2⟩:=bw.inv h1;obtain⟨g1,_⟩:=aC.inv d1;obtain⟨v2,u2,e2,d2,_,h3⟩:=bw.inv h2;obtain⟨g2,_⟩:=aC.inv d2;obtain⟨v3,u3,e3,d3,_,h4⟩:=bw.inv h3;have g3:=BM d3;have hz:u3= []:=bw.inv h4;rw[e0,e1,e2,e3,g0,g1,g2,g3,hz];rfl
def yK(a:bK):List Value:= [.int .i64 a.val,.int .u32 a.at_.time,.int .i64 a.at_.origin]
theorem BO{Y:List Nat}{S:World→Prop}{a:bK}{vs:List Value}(h:aC U Y S (.st 5) a vs):vs=yK a:=by
 obtain⟨h0,_⟩:=aC.inv h;obtain⟨v0,u0,e0,d0,_,h1⟩:=bw.inv h0;obtain⟨g0,_⟩:=aC.inv d0;obtain⟨v1,u1,e1,d1,_,h2⟩:=bw.inv h1;have g1:=BM d1;have hz:u1= []:=bw.inv h2;rw[e0,e1,g0,g1,hz];rfl
def yL(a:cg):List Value:= [.int .i64 a.plus,.int .i64 a.minus]
theorem BP{Y:List Nat}{S:World→Prop}{a:cg}{vs:List Value}(h:aC U Y S (.st 6) a vs):vs=yL a:=by
 obtain⟨h0,_⟩:=aC.inv h;obtain⟨v0,u0,e0,d0,_,h1⟩:=bw.inv h0;obtain⟨g0,_⟩:=aC.inv d0;obtain⟨v1,u1,e1,d1,_,h2⟩:=bw.inv h1;obtain⟨g1,_⟩:=aC.inv d1;have hz:u1= []:=bw.inv h2;rw[e0,e1,g0,g1,hz];rfl
def yM(a:bj):List Value:= [.int .i64 a.tag.id.origin,.int .u32 a.tag.id.seq,.int .i64 a.tag.n,sv a.elem]
theorem BQ{Y:List Nat}{S:World→Prop}{a:bj}{vs:List Value}(h:aC U Y S (.st 7) a vs):vs=yM a:=by
 obtain⟨h0,_⟩:=aC.inv h;obtain⟨v0,u0,e0,d0,_,h1⟩:=bw.inv h0;have g0:=rV d0;obtain⟨v1,u1,e1,d1,_,h2⟩:=bw.inv h1;obtain⟨g1,_⟩:=aC.inv d1;have hz:u1= []:=bw.inv h2;rw[e0,e1,g0,g1,hz];rfl
def rW(a:aM):List Value:= [sv a.field,.int .i64 a.val]
theorem oW{Y:List Nat}{S:World→Prop}{a:aM}{vs:List Value}(h:aC U Y S (.st 12) a vs):vs=rW a:=by
 obtain⟨h0,_⟩:=aC.inv h;obtain⟨v0,u0,e0,d0,_,h1⟩:=bw.inv h0;obtain⟨g0,_⟩:=aC.inv d0;obtain⟨v1,u1,e1,d1,_,h2⟩:=bw.inv h1;obtain⟨g1,_⟩:=aC.inv d1;have hz:u1= []:=bw.inv h2;rw[e0,e1,g0,g1,hz];rfl
def yN(a:fT):List Value:= [.bool a.name,.bool a.val,.bool a.at_,.bool a.tags]
theorem CZ{Y:List Nat}{S:World→Prop}{a:fT}{vs:List Value}(h:aC U Y S (.st 15) a vs):vs=yN a:=by
 obtain⟨h0,_⟩:=aC.inv h;obtain⟨v0,u0,e0,d0,_,h1⟩:=bw.inv h0;have g0:=aC.inv d0;obtain⟨v1,u1,e1,d1,_,h2⟩:=bw.inv h1;have g1:=aC.inv d1;obtain⟨v2,u2,e2,d2,_,h3⟩:=bw.inv h2;have g2:=aC.inv d2;obtain⟨v3,u3,e3,d3,_,h4⟩:=bw.inv h3;have g3:=aC.inv d3;have hz:u3= []:=bw.inv h4;rw[e0,e1,e2,e3,g0,g1,g2,g3,hz];rfl
def rX(a:uS):List Value:= [.int .i64 a.act,sv a.name,.int .i64 a.val]
theorem uT{Y:List Nat}{S:World→Prop}{a:uS}{vs:List Value}(h:aC U Y S (.st 16) a vs):vs=rX a:=by
 obtain⟨h0,_⟩:=aC.inv h;obtain⟨v0,u0,e0,d0,_,h1⟩:=bw.inv h0;obtain⟨g0,_⟩:=aC.inv d0;obtain⟨v1,u1,e1,d1,_,h2⟩:=bw.inv h1;obtain⟨g1,_⟩:=aC.inv d1;obtain⟨v2,u2,e2,d2,_,h3⟩:=bw.inv h2;obtain⟨g2,_⟩:=aC.inv d2;have hz:u2= []:=bw.inv h3;rw[e0,e1,e2,g0,g1,g2,hz];rfl
theorem HW(a0:Int)(a1:Int)(a2:Int)(b0:Int)(b1:Int)(b2:Int):aP Tryz.prog 8 34 [.int .i64 a0,.int .u32 a1,.int .i64 a2] [.int .i64 b0,.int .u32 b1,.int .i64 b2]=some ((((a0==b0)&&((a1==b1)&&true))&&((a2==b2)&&true))):=by kernel_rfl
theorem yO(a b:ae): ∃r,aP Tryz.prog 8 34 (yI a) (yI b)=some r∧(r=true↔a=b):=by
 obtain⟨⟨a0,a1⟩,a2⟩:=a;obtain⟨⟨b0,b1⟩,b2⟩:=b;refine⟨_,HW _ _ _ _ _ _,?_⟩;show _↔(ae.mk (fm.mk a0 a1) a2)=(ae.mk (fm.mk b0 b1) b2)
 simp
theorem HX:gA U Tryz.prog 34 (.st 1):=⟨by kernel_rfl,fun Y S a b vs us h1 h2=>by rw[rV h1,rV h2];exact yO a b⟩
theorem HY(a0:Int)(a1:Int)(b0:Int)(b1:Int):aP Tryz.prog 8 32 [.int .i64 a0,.int .u32 a1] [.int .i64 b0,.int .u32 b1]=some (((a0==b0)&&((a1==b1)&&true))):=by kernel_rfl
theorem HZ(a b:fm): ∃r,aP Tryz.prog 8 32 (Ft a) (Ft b)=some r∧(r=true↔a=b):=by
 obtain⟨a0,a1⟩:=a;obtain⟨b0,b1⟩:=b;refine⟨_,HY _ _ _ _,?_⟩;show _↔(fm.mk a0 a1)=(fm.mk b0 b1)
 simp
theorem Ml:gA U Tryz.prog 32 (.st 0):=⟨by kernel_rfl,fun Y S a b vs us h1 h2=>by rw[Fu h1,Fu h2];exact HZ a b⟩
theorem H3(a0:Int)(a1:Int)(a2:Int)(a3:Int)(a4:Int)(a5:Int)(a6:Int)(a7:Int)(b0:Int)(b1:Int)(b2:Int)(b3:Int)(b4:Int)(b5:Int)(b6:Int)(b7:Int):aP Tryz.prog 8 41 [.int .u32 a0,.int .u32 a1,.int .u32 a2,.int .u32 a3,.int .u32 a4,.int .u32 a5,.int .u32 a6,.int .u32 a7] [.int .u32 b0,.int .u32 b1,.int .u32 b2,.int .u32 b3,.int .u32 b4,.int .u32 b5,.int .u32 b6,.int .u32 b7]=some (((a0==b0)&&((a1==b1)&&((a2==b2)&&((a3==b3)&&((a4==b4)&&((a5==b5)&&((a6==b6)&&((a7==b7)&&true))))))))):=by kernel_rfl
theorem H4: ∀a b:List Int,a.length=8→b.length=8→ ∃r,aP Tryz.prog 8 41 (a.map (Value.int .u32)) (b.map (Value.int .u32))=some r∧(r=true↔a=b)
 | [a0,a1,a2,a3,a4,a5,a6,a7],[b0,b1,b2,b3,b4,b5,b6,b7],_,_=>⟨_,H3 _ _ _ _ _ _ _ _ _ _ _ _ _ _ _ _,by simp⟩
theorem Mm:gA U Tryz.prog 41 (.arr 8 (.int .u32)):=⟨by kernel_rfl,fun Y S a b vs us h1 h2=>by
 obtain⟨h1,l1⟩:=aC.inv h1;obtain⟨h2,l2⟩:=aC.inv h2;rw[iQ h1,iQ h2];exact H4 a b l1 l2⟩
theorem H5(a0:Int)(a1:Int)(a2:Int)(b0:Int)(b1:Int)(b2:Int):aP Tryz.prog 8 51 [.int .i64 a0,.int .u32 a1,.int .i64 a2] [.int .i64 b0,.int .u32 b1,.int .i64 b2]=some (((a0==b0)&&(((a1==b1)&&((a2==b2)&&true))&&true))):=by kernel_rfl
theorem H6(a b:bK): ∃r,aP Tryz.prog 8 51 (yK a) (yK b)=some r∧(r=true↔a=b):=by
 obtain⟨a0,⟨a1,a2⟩⟩:=a;obtain⟨b0,⟨b1,b2⟩⟩:=b;refine⟨_,H5 _ _ _ _ _ _,?_⟩;show _↔(bK.mk a0 (az.mk a1 a2))=(bK.mk b0 (az.mk b1 b2))
 simp
theorem Mn:gA U Tryz.prog 51 (.st 5):=⟨by kernel_rfl,fun Y S a b vs us h1 h2=>by rw[BO h1,BO h2];exact H6 a b⟩
theorem H7(a0:Int)(a1:Int)(b0:Int)(b1:Int):aP Tryz.prog 8 36 [.int .u32 a0,.int .i64 a1] [.int .u32 b0,.int .i64 b1]=some (((a0==b0)&&((a1==b1)&&true))):=by kernel_rfl
theorem H8(a b:az): ∃r,aP Tryz.prog 8 36 (Fv a) (Fv b)=some r∧(r=true↔a=b):=by
 obtain⟨a0,a1⟩:=a;obtain⟨b0,b1⟩:=b;refine⟨_,H7 _ _ _ _,?_⟩;show _↔(az.mk a0 a1)=(az.mk b0 b1)
 simp
theorem Mo:gA U Tryz.prog 36 (.st 2):=⟨by kernel_rfl,fun Y S a b vs us h1 h2=>by rw[BM h1,BM h2];exact H8 a b⟩
theorem H9(a0:Int)(a1:Int)(b0:Int)(b1:Int):aP Tryz.prog 8 53 [.int .i64 a0,.int .i64 a1] [.int .i64 b0,.int .i64 b1]=some (((a0==b0)&&((a1==b1)&&true))):=by kernel_rfl
theorem Ia(a b:cg): ∃r,aP Tryz.prog 8 53 (yL a) (yL b)=some r∧(r=true↔a=b):=by
 obtain⟨a0,a1⟩:=a;obtain⟨b0,b1⟩:=b;refine⟨_,H9 _ _ _ _,?_⟩;show _↔(cg.mk a0 a1)=(cg.mk b0 b1)
 simp
theorem Mq:gA U Tryz.prog 53 (.st 6):=⟨by kernel_rfl,fun Y S a b vs us h1 h2=>by rw[BP h1,BP h2];exact Ia a b⟩
theorem Fx(a0:Int)(a1:Int)(a2:Int)(a3:List UInt8)(b0:Int)(b1:Int)(b2:Int)(b3:List UInt8):aP Tryz.prog 8 159 [.int .i64 a0,.int .u32 a1,.int .i64 a2,sv a3] [.int .i64 b0,.int .u32 b1,.int .i64 b2,sv b3]=some (((((a0==b0)&&((a1==b1)&&true))&&((a2==b2)&&true))&&((a3==b3)&&true))):=by kernel_rfl
theorem Fy(a b:bj): ∃r,aP Tryz.prog 8 159 (yM a) (yM b)=some r∧(r=true↔a=b):=by
 obtain⟨⟨⟨a0,a1⟩,a2⟩,a3⟩:=a;obtain⟨⟨⟨b0,b1⟩,b2⟩,b3⟩:=b;refine⟨_,Fx _ _ _ _ _ _ _ _,?_⟩;show _↔(bj.mk (ae.mk (fm.mk a0 a1) a2) a3)=(bj.mk (ae.mk (fm.mk b0 b1) b2) b3)
 simp
theorem Ic:gA U Tryz.prog 159 (.st 7):=⟨by kernel_rfl,fun Y S a b vs us h1 h2=>by rw[BQ h1,BQ h2];exact Fy a b⟩
theorem Fz(a0:Int)(a1:Int)(a2:Int)(a3:List UInt8)(a4:Int)(a5:Int)(a6:Int)(b0:Int)(b1:Int)(b2:Int)(b3:List UInt8)(b4:Int)(b5:Int)(b6:Int):aP Tryz.prog 8 164 [.int .i64 a0,.int .u32 a1,.int .i64 a2,sv a3,.int .i64 a4,.int .u32 a5,.int .i64 a6] [.int .i64 b0,.int .u32 b1,.int .i64 b2,sv b3,.int .i64 b4,.int .u32 b5,.int .i64 b6]=some (((((a0==b0)&&((a1==b1)&&true))&&((a2==b2)&&true))&&((a3==b3)&&((a4==b4)&&(((a5==b5)&&((a6==b6)&&true))&&true))))):=by kernel_rfl
theorem FA(a b:bl): ∃r,aP Tryz.prog 8 164 (yJ a) (yJ b)=some r∧(r=true↔a=b):=by
 obtain⟨⟨⟨a0,a1⟩,a2⟩,a3,a4,⟨a5,a6⟩⟩:=a;obtain⟨⟨⟨b0,b1⟩,b2⟩,b3,b4,⟨b5,b6⟩⟩:=b;refine⟨_,Fz _ _ _ _ _ _ _ _ _ _ _ _ _ _,?_⟩;show _↔(bl.mk (ae.mk (fm.mk a0 a1) a2) a3 a4 (az.mk a5 a6))=(bl.mk (ae.mk (fm.mk b0 b1) b2) b3 b4 (az.mk b5 b6))
 simp
theorem Ie:gA U Tryz.prog 164 (.st 4):=⟨by kernel_rfl,fun Y S a b vs us h1 h2=>by rw[BN h1,BN h2];exact FA a b⟩
theorem FB(a0:Int)(a1:Int)(a2:Int)(a3:List UInt8)(b0:Int)(b1:Int)(b2:Int)(b3:List UInt8):aP Tryz.prog 8 178 [.int .i64 a0,.int .u32 a1,.int .i64 a2,sv a3] [.int .i64 b0,.int .u32 b1,.int .i64 b2,sv b3]=some (((((a0==b0)&&((a1==b1)&&true))&&((a2==b2)&&true))&&((a3==b3)&&true))):=by kernel_rfl
theorem FC(a b:bj): ∃r,aP Tryz.prog 8 178 (yM a) (yM b)=some r∧(r=true↔a=b):=by
 obtain⟨⟨⟨a0,a1⟩,a2⟩,a3⟩:=a;obtain⟨⟨⟨b0,b1⟩,b2⟩,b3⟩:=b;refine⟨_,FB _ _ _ _ _ _ _ _,?_⟩;show _↔(bj.mk (ae.mk (fm.mk a0 a1) a2) a3)=(bj.mk (ae.mk (fm.mk b0 b1) b2) b3)
 simp
theorem If:gA U Tryz.prog 178 (.st 7):=⟨by kernel_rfl,fun Y S a b vs us h1 h2=>by rw[BQ h1,BQ h2];exact FC a b⟩
theorem FD(a0:Int)(a1:Int)(a2:Int)(a3:List UInt8)(a4:Int)(a5:Int)(a6:Int)(b0:Int)(b1:Int)(b2:Int)(b3:List UInt8)(b4:Int)(b5:Int)(b6:Int):aP Tryz.prog 8 182 [.int .i64 a0,.int .u32 a1,.int .i64 a2,sv a3,.int .i64 a4,.int .u32 a5,.int .i64 a6] [.int .i64 b0,.int .u32 b1,.int .i64 b2,sv b3,.int .i64 b4,.int .u32 b5,.int .i64 b6]=some (((((a0==b0)&&((a1==b1)&&true))&&((a2==b2)&&true))&&((a3==b3)&&((a4==b4)&&(((a5==b5)&&((a6==b6)&&true))&&true))))):=by kernel_rfl
theorem FE(a b:bl): ∃r,aP Tryz.prog 8 182 (yJ a) (yJ b)=some r∧(r=true↔a=b):=by
 obtain⟨⟨⟨a0,a1⟩,a2⟩,a3,a4,⟨a5,a6⟩⟩:=a;obtain⟨⟨⟨b0,b1⟩,b2⟩,b3,b4,⟨b5,b6⟩⟩:=b;refine⟨_,FD _ _ _ _ _ _ _ _ _ _ _ _ _ _,?_⟩;show _↔(bl.mk (ae.mk (fm.mk a0 a1) a2) a3 a4 (az.mk a5 a6))=(bl.mk (ae.mk (fm.mk b0 b1) b2) b3 b4 (az.mk b5 b6))
 simp
theorem Ig:gA U Tryz.prog 182 (.st 4):=⟨by kernel_rfl,fun Y S a b vs us h1 h2=>by rw[BN h1,BN h2];exact FE a b⟩
theorem Ih(a0:Int)(a1:Int)(a2:Int)(b0:Int)(b1:Int)(b2:Int):aP Tryz.prog 8 66 [.int .i64 a0,.int .u32 a1,.int .i64 a2] [.int .i64 b0,.int .u32 b1,.int .i64 b2]=some (((a0==b0)&&(((a1==b1)&&((a2==b2)&&true))&&true))):=by kernel_rfl
theorem Ii(a b:bK): ∃r,aP Tryz.prog 8 66 (yK a) (yK b)=some r∧(r=true↔a=b):=by
 obtain⟨a0,⟨a1,a2⟩⟩:=a;obtain⟨b0,⟨b1,b2⟩⟩:=b;refine⟨_,Ih _ _ _ _ _ _,?_⟩;show _↔(bK.mk a0 (az.mk a1 a2))=(bK.mk b0 (az.mk b1 b2))
 simp
theorem Mr:gA U Tryz.prog 66 (.st 5):=⟨by kernel_rfl,fun Y S a b vs us h1 h2=>by rw[BO h1,BO h2];exact Ii a b⟩
theorem Ij(a0:Int)(a1:Int)(b0:Int)(b1:Int):aP Tryz.prog 8 67 [.int .i64 a0,.int .i64 a1] [.int .i64 b0,.int .i64 b1]=some (((a0==b0)&&((a1==b1)&&true))):=by kernel_rfl
theorem Ik(a b:cg): ∃r,aP Tryz.prog 8 67 (yL a) (yL b)=some r∧(r=true↔a=b):=by
 obtain⟨a0,a1⟩:=a;obtain⟨b0,b1⟩:=b;refine⟨_,Ij _ _ _ _,?_⟩;show _↔(cg.mk a0 a1)=(cg.mk b0 b1)
 simp
theorem Ms:gA U Tryz.prog 67 (.st 6):=⟨by kernel_rfl,fun Y S a b vs us h1 h2=>by rw[BP h1,BP h2];exact Ik a b⟩
theorem FF(a0:List UInt8)(a1:Int)(b0:List UInt8)(b1:Int):aP Tryz.prog 8 134 [sv a0,.int .i64 a1] [sv b0,.int .i64 b1]=some (((a0==b0)&&((a1==b1)&&true))):=by kernel_rfl
theorem FG(a b:aM): ∃r,aP Tryz.prog 8 134 (rW a) (rW b)=some r∧(r=true↔a=b):=by
 obtain⟨a0,a1⟩:=a;obtain⟨b0,b1⟩:=b;refine⟨_,FF _ _ _ _,?_⟩;show _↔(aM.mk a0 a1)=(aM.mk b0 b1)
 simp
theorem Il:gA U Tryz.prog 134 (.st 12):=⟨by kernel_rfl,fun Y S a b vs us h1 h2=>by rw[oW h1,oW h2];exact FG a b⟩
theorem FH(a0:Bool)(a1:Bool)(a2:Bool)(a3:Bool)(b0:Bool)(b1:Bool)(b2:Bool)(b3:Bool):aP Tryz.prog 8 149 [.bool a0,.bool a1,.bool a2,.bool a3] [.bool b0,.bool b1,.bool b2,.bool b3]=some (((a0==b0)&&((a1==b1)&&((a2==b2)&&((a3==b3)&&true))))):=by kernel_rfl
theorem FI(a b:fT): ∃r,aP Tryz.prog 8 149 (yN a) (yN b)=some r∧(r=true↔a=b):=by
 obtain⟨a0,a1,a2,a3⟩:=a;obtain⟨b0,b1,b2,b3⟩:=b;refine⟨_,FH _ _ _ _ _ _ _ _,?_⟩;show _↔(fT.mk a0 a1 a2 a3)=(fT.mk b0 b1 b2 b3)
 simp
theorem Im:gA U Tryz.prog 149 (.st 15):=⟨by kernel_rfl,fun Y S a b vs us h1 h2=>by rw[CZ h1,CZ h2];exact FI a b⟩
theorem FJ(a0:List UInt8)(a1:Int)(b0:List UInt8)(b1:Int):aP Tryz.prog 8 135 [sv a0,.int .i64 a1] [sv b0,.int .i64 b1]=some (((a0==b0)&&((a1==b1)&&true))):=by kernel_rfl
theorem FK(a b:aM): ∃r,aP Tryz.prog 8 135 (rW a) (rW b)=some r∧(r=true↔a=b):=by
 obtain⟨a0,a1⟩:=a;obtain⟨b0,b1⟩:=b;refine⟨_,FJ _ _ _ _,?_⟩;show _↔(aM.mk a0 a1)=(aM.mk b0 b1)
 simp
theorem Io:gA U Tryz.prog 135 (.st 12):=⟨by kernel_rfl,fun Y S a b vs us h1 h2=>by rw[oW h1,oW h2];exact FK a b⟩
theorem FL(a0:Int)(a1:List UInt8)(a2:Int)(b0:Int)(b1:List UInt8)(b2:Int):aP Tryz.prog 8 168 [.int .i64 a0,sv a1,.int .i64 a2] [.int .i64 b0,sv b1,.int .i64 b2]=some (((a0==b0)&&((a1==b1)&&((a2==b2)&&true)))):=by kernel_rfl
theorem FM(a b:uS): ∃r,aP Tryz.prog 8 168 (rX a) (rX b)=some r∧(r=true↔a=b):=by
 obtain⟨a0,a1,a2⟩:=a;obtain⟨b0,b1,b2⟩:=b;refine⟨_,FL _ _ _ _ _ _,?_⟩;show _↔(uS.mk a0 a1 a2)=(uS.mk b0 b1 b2)
 simp
theorem Ip:gA U Tryz.prog 168 (.st 16):=⟨by kernel_rfl,fun Y S a b vs us h1 h2=>by rw[uT h1,uT h2];exact FM a b⟩
theorem FN(a0:Int)(a1:List UInt8)(a2:Int)(b0:Int)(b1:List UInt8)(b2:Int):aP Tryz.prog 8 146 [.int .i64 a0,sv a1,.int .i64 a2] [.int .i64 b0,sv b1,.int .i64 b2]=some (((a0==b0)&&((a1==b1)&&((a2==b2)&&true)))):=by kernel_rfl
theorem FO(a b:uS): ∃r,aP Tryz.prog 8 146 (rX a) (rX b)=some r∧(r=true↔a=b):=by
 obtain⟨a0,a1,a2⟩:=a;obtain⟨b0,b1,b2⟩:=b;refine⟨_,FN _ _ _ _ _ _,?_⟩;show _↔(uS.mk a0 a1 a2)=(uS.mk b0 b1 b2)
 simp
theorem Iq:gA U Tryz.prog 146 (.st 16):=⟨by kernel_rfl,fun Y S a b vs us h1 h2=>by rw[uT h1,uT h2];exact FO a b⟩
theorem FP(a0:Int)(a1:Int)(b0:Int)(b1:Int):aP Tryz.prog 8 246 [.int .i64 a0,.int .i64 a1] [.int .i64 b0,.int .i64 b1]=some (((a0==b0)&&((a1==b1)&&true))):=by kernel_rfl
theorem FQ: ∀a b:List Int,a.length=2→b.length=2→ ∃r,aP Tryz.prog 8 246 (a.map (Value.int .i64)) (b.map (Value.int .i64))=some r∧(r=true↔a=b)
 | [a0,a1],[b0,b1],_,_=>⟨_,FP _ _ _ _,by simp⟩
theorem Ir:gA U Tryz.prog 246 (.arr 2 (.int .i64)):=⟨by kernel_rfl,fun Y S a b vs us h1 h2=>by
 obtain⟨h1,l1⟩:=aC.inv h1;obtain⟨h2,l2⟩:=aC.inv h2;rw[iQ h1,iQ h2];exact FQ a b l1 l2⟩
def MW:TI U:=⟨1,.int .i64,8,[],some (.int .i64),false,[(1,.d (.int .i64) (0:Int))],none⟩
theorem FR:aU U Tryz.prog 3 MW:=aL [.i .i64] rfl (by kernel_rfl) rfl (by kernel_rfl) (by kernel_rfl) (show Tryz.prog.underlying 3=some (.int .i64)by kernel_rfl) (by kernel_rfl) (by kernel_rfl) (by kernel_rfl) (fun i h1 h2=>by cases h2) (fun d h=>by cases h)
def Is:TI U:=⟨1,.sl 34,24,[],some (.sl (.st 1)),false,[(1,.nils)],none⟩
theorem BR:aU U Tryz.prog 37 Is:=aL [.l] rfl (by kernel_rfl) rfl (by kernel_rfl) (by kernel_rfl) (show Tryz.prog.underlying 37=some (.slice 34)by kernel_rfl) (by kernel_rfl) (by kernel_rfl) (by kernel_rfl) (fun i h1 h2=>by cases h2) (fun d h=>by cases h)
def Iu:TI U:=⟨3,.st,24,[(0,32),(2,3)],some (.st 1),true,[(1,.d (.int .i64) (0:Int)),(1,.d (.int .u32) (0:Int)),(1,.d (.int .i64) (0:Int))],none⟩
theorem gy:aU U Tryz.prog 34 Iu:=aL [.i .i64,.i .u32,.i .i64] rfl (by kernel_rfl) rfl (by kernel_rfl) (by kernel_rfl) ⟨_,rfl⟩ rfl (by kernel_rfl) (by kernel_rfl) (fun i h1 h2=>⟨rfl,by injection h1 with h1;subst h1;exact HX⟩) (fun d h=>by cases h)
def Iv:TI U:=⟨2,.st,16,[(0,3),(1,30)],some (.st 0),true,[(1,.d (.int .i64) (0:Int)),(1,.d (.int .u32) (0:Int))],none⟩
theorem BS:aU U Tryz.prog 32 Iv:=aL [.i .i64,.i .u32] rfl (by kernel_rfl) rfl (by kernel_rfl) (by kernel_rfl) ⟨_,rfl⟩ rfl (by kernel_rfl) (by kernel_rfl) (fun i h1 h2=>⟨rfl,by injection h1 with h1;subst h1;exact Ml⟩) (fun d h=>by cases h)
def Iw:TI U:=⟨1,.int .u32,4,[],some (.int .u32),false,[(1,.d (.int .u32) (0:Int))],none⟩
theorem BT:aU U Tryz.prog 30 Iw:=aL [.i .u32] rfl (by kernel_rfl) rfl (by kernel_rfl) (by kernel_rfl) (show Tryz.prog.underlying 30=some (.int .u32)by kernel_rfl) (by kernel_rfl) (by kernel_rfl) (by kernel_rfl) (fun i h1 h2=>by cases h2) (fun d h=>by cases h)
def Ix:TI U:=⟨8,.arr 8 30,32,[],some (.arr 8 (.int .u32)),true,[(1,.d (.int .u32) (0:Int)),(1,.d (.int .u32) (0:Int)),(1,.d (.int .u32) (0:Int)),(1,.d (.int .u32) (0:Int)),(1,.d (.int .u32) (0:Int)),(1,.d (.int .u32) (0:Int)),(1,.d (.int .u32) (0:Int)),(1,.d (.int .u32) (0:Int))],none⟩
theorem BU:aU U Tryz.prog 41 Ix:=aL [.i .u32,.i .u32,.i .u32,.i .u32,.i .u32,.i .u32,.i .u32,.i .u32] rfl (by kernel_rfl) rfl (by kernel_rfl) (by kernel_rfl) (show Tryz.prog.underlying 41=some (.array 8 30)by kernel_rfl) (by kernel_rfl) (by kernel_rfl) (by kernel_rfl) (fun i h1 h2=>⟨rfl,by injection h1 with h1;subst h1;exact Mm⟩) (fun d h=>by cases h)
def Iy:TI U:=⟨10,.st,144,[(0,3),(1,51),(4,53),(6,56),(8,59)],some (.st 10),false,[(1,.d (.int .i64) (0:Int)),(1,.d (.int .i64) (0:Int)),(1,.d (.int .u32) (0:Int)),(1,.d (.int .i64) (0:Int)),(1,.d (.int .i64) (0:Int)),(1,.d (.int .i64) (0:Int)),(1,.nils),(1,.nils),(1,.nils),(1,.nils)],none⟩
theorem BV:aU U Tryz.prog 61 Iy:=aL [.i .i64,.i .i64,.i .u32,.i .i64,.i .i64,.i .i64,.l,.l,.l,.l] rfl (by kernel_rfl) rfl (by kernel_rfl) (by kernel_rfl) ⟨_,rfl⟩ rfl (by kernel_rfl) (by kernel_rfl) (fun i h1 h2=>by cases h2) (fun d h=>by cases h)
def Iz:TI U:=⟨3,.st,24,[(0,2),(1,36)],some (.st 5),true,[(1,.d (.int .i64) (0:Int)),(1,.d (.int .u32) (0:Int)),(1,.d (.int .i64) (0:Int))],none⟩
theorem BW:aU U Tryz.prog 51 Iz:=aL [.i .i64,.i .u32,.i .i64] rfl (by kernel_rfl) rfl (by kernel_rfl) (by kernel_rfl) ⟨_,rfl⟩ rfl (by kernel_rfl) (by kernel_rfl) (fun i h1 h2=>⟨rfl,by injection h1 with h1;subst h1;exact Mn⟩) (fun d h=>by cases h)
def MX:TI U:=⟨1,.int .i64,8,[],some (.int .i64),false,[(1,.d (.int .i64) (0:Int))],none⟩
theorem FS:aU U Tryz.prog 2 MX:=aL [.i .i64] rfl (by kernel_rfl) rfl (by kernel_rfl) (by kernel_rfl) (show Tryz.prog.underlying 2=some (.int .i64)by kernel_rfl) (by kernel_rfl) (by kernel_rfl) (by kernel_rfl) (fun i h1 h2=>by cases h2) (fun d h=>by cases h)
def IA:TI U:=⟨2,.st,16,[(0,30),(1,3)],some (.st 2),true,[(1,.d (.int .u32) (0:Int)),(1,.d (.int .i64) (0:Int))],none⟩
theorem BX:aU U Tryz.prog 36 IA:=aL [.i .u32,.i .i64] rfl (by kernel_rfl) rfl (by kernel_rfl) (by kernel_rfl) ⟨_,rfl⟩ rfl (by kernel_rfl) (by kernel_rfl) (fun i h1 h2=>⟨rfl,by injection h1 with h1;subst h1;exact Mo⟩) (fun d h=>by cases h)
def IB:TI U:=⟨2,.st,16,[(0,2),(1,2)],some (.st 6),true,[(1,.d (.int .i64) (0:Int)),(1,.d (.int .i64) (0:Int))],none⟩
theorem BY:aU U Tryz.prog 53 IB:=aL [.i .i64,.i .i64] rfl (by kernel_rfl) rfl (by kernel_rfl) (by kernel_rfl) ⟨_,rfl⟩ rfl (by kernel_rfl) (by kernel_rfl) (fun i h1 h2=>⟨rfl,by injection h1 with h1;subst h1;exact Mq⟩) (fun d h=>by cases h)
def IC:TI U:=⟨2,.st,48,[(0,54),(1,37)],some (.st 8),false,[(1,.nils),(1,.nils)],none⟩
theorem BZ:aU U Tryz.prog 56 IC:=aL [.l,.l] rfl (by kernel_rfl) rfl (by kernel_rfl) (by kernel_rfl) ⟨_,rfl⟩ rfl (by kernel_rfl) (by kernel_rfl) (fun i h1 h2=>by cases h2) (fun d h=>by cases h)
def ID:TI U:=⟨1,.sl 159,24,[],some (.sl (.st 7)),false,[(1,.nils)],none⟩
theorem B0:aU U Tryz.prog 54 ID:=aL [.l] rfl (by kernel_rfl) rfl (by kernel_rfl) (by kernel_rfl) (show Tryz.prog.underlying 54=some (.slice 159)by kernel_rfl) (by kernel_rfl) (by kernel_rfl) (by kernel_rfl) (fun i h1 h2=>by cases h2) (fun d h=>by cases h)
def C0:TI U:=⟨4,.st,40,[(0,34),(3,9)],some (.st 7),true,[(1,.d (.int .i64) (0:Int)),(1,.d (.int .u32) (0:Int)),(1,.d (.int .i64) (0:Int)),(1,.d .str ([]:List UInt8))],none⟩
theorem jm:aU U Tryz.prog 159 C0:=aL [.i .i64,.i .u32,.i .i64,.s] rfl (by kernel_rfl) rfl (by kernel_rfl) (by kernel_rfl) ⟨_,rfl⟩ rfl (by kernel_rfl) (by kernel_rfl) (fun i h1 h2=>⟨rfl,by injection h1 with h1;subst h1;exact Ic⟩) (fun d h=>by cases h)
def MY:TI U:=⟨1,.str,16,[],some (.str),false,[(1,.d .str ([]:List UInt8))],none⟩
theorem FT:aU U Tryz.prog 9 MY:=aL [.s] rfl (by kernel_rfl) rfl (by kernel_rfl) (by kernel_rfl) (show Tryz.prog.underlying 9=some .string by kernel_rfl) (by kernel_rfl) (by kernel_rfl) (by kernel_rfl) (fun i h1 h2=>by cases h2) (fun d h=>by cases h)
def IE:TI U:=⟨2,.st,48,[(0,57),(1,37)],some (.st 9),false,[(1,.nils),(1,.nils)],none⟩
theorem B1:aU U Tryz.prog 59 IE:=aL [.l,.l] rfl (by kernel_rfl) rfl (by kernel_rfl) (by kernel_rfl) ⟨_,rfl⟩ rfl (by kernel_rfl) (by kernel_rfl) (fun i h1 h2=>by cases h2) (fun d h=>by cases h)
def IF:TI U:=⟨1,.sl 164,24,[],some (.sl (.st 4)),false,[(1,.nils)],none⟩
theorem B2:aU U Tryz.prog 57 IF:=aL [.l] rfl (by kernel_rfl) rfl (by kernel_rfl) (by kernel_rfl) (show Tryz.prog.underlying 57=some (.slice 164)by kernel_rfl) (by kernel_rfl) (by kernel_rfl) (by kernel_rfl) (fun i h1 h2=>by cases h2) (fun d h=>by cases h)
def C3:TI U:=⟨7,.st,64,[(0,34),(3,9),(4,2),(5,36)],some (.st 4),true,[(1,.d (.int .i64) (0:Int)),(1,.d (.int .u32) (0:Int)),(1,.d (.int .i64) (0:Int)),(1,.d .str ([]:List UInt8)),(1,.d (.int .i64) (0:Int)),(1,.d (.int .u32) (0:Int)),(1,.d (.int .i64) (0:Int))],none⟩
theorem jn:aU U Tryz.prog 164 C3:=aL [.i .i64,.i .u32,.i .i64,.s,.i .i64,.i .u32,.i .i64] rfl (by kernel_rfl) rfl (by kernel_rfl) (by kernel_rfl) ⟨_,rfl⟩ rfl (by kernel_rfl) (by kernel_rfl) (fun i h1 h2=>⟨rfl,by injection h1 with h1;subst h1;exact Ie⟩) (fun d h=>by cases h)
def IG:TI U:=⟨2,.st,48,[(0,68),(1,37)],some (.st 8),false,[(1,.nils),(1,.nils)],none⟩
theorem B3:aU U Tryz.prog 70 IG:=aL [.l,.l] rfl (by kernel_rfl) rfl (by kernel_rfl) (by kernel_rfl) ⟨_,rfl⟩ rfl (by kernel_rfl) (by kernel_rfl) (fun i h1 h2=>by cases h2) (fun d h=>by cases h)
def IH:TI U:=⟨1,.sl 178,24,[],some (.sl (.st 7)),false,[(1,.nils)],none⟩
theorem B4:aU U Tryz.prog 68 IH:=aL [.l] rfl (by kernel_rfl) rfl (by kernel_rfl) (by kernel_rfl) (show Tryz.prog.underlying 68=some (.slice 178)by kernel_rfl) (by kernel_rfl) (by kernel_rfl) (by kernel_rfl) (fun i h1 h2=>by cases h2) (fun d h=>by cases h)
def C4:TI U:=⟨4,.st,40,[(0,34),(3,9)],some (.st 7),true,[(1,.d (.int .i64) (0:Int)),(1,.d (.int .u32) (0:Int)),(1,.d (.int .i64) (0:Int)),(1,.d .str ([]:List UInt8))],none⟩
theorem yP:aU U Tryz.prog 178 C4:=aL [.i .i64,.i .u32,.i .i64,.s] rfl (by kernel_rfl) rfl (by kernel_rfl) (by kernel_rfl) ⟨_,rfl⟩ rfl (by kernel_rfl) (by kernel_rfl) (fun i h1 h2=>⟨rfl,by injection h1 with h1;subst h1;exact If⟩) (fun d h=>by cases h)
def II:TI U:=⟨2,.st,48,[(0,71),(1,37)],some (.st 9),false,[(1,.nils),(1,.nils)],none⟩
theorem B5:aU U Tryz.prog 73 II:=aL [.l,.l] rfl (by kernel_rfl) rfl (by kernel_rfl) (by kernel_rfl) ⟨_,rfl⟩ rfl (by kernel_rfl) (by kernel_rfl) (fun i h1 h2=>by cases h2) (fun d h=>by cases h)
def IJ:TI U:=⟨1,.sl 182,24,[],some (.sl (.st 4)),false,[(1,.nils)],none⟩
theorem B6:aU U Tryz.prog 71 IJ:=aL [.l] rfl (by kernel_rfl) rfl (by kernel_rfl) (by kernel_rfl) (show Tryz.prog.underlying 71=some (.slice 182)by kernel_rfl) (by kernel_rfl) (by kernel_rfl) (by kernel_rfl) (fun i h1 h2=>by cases h2) (fun d h=>by cases h)
def C5:TI U:=⟨7,.st,64,[(0,34),(3,9),(4,2),(5,36)],some (.st 4),true,[(1,.d (.int .i64) (0:Int)),(1,.d (.int .u32) (0:Int)),(1,.d (.int .i64) (0:Int)),(1,.d .str ([]:List UInt8)),(1,.d (.int .i64) (0:Int)),(1,.d (.int .u32) (0:Int)),(1,.d (.int .i64) (0:Int))],none⟩
theorem yQ:aU U Tryz.prog 182 C5:=aL [.i .i64,.i .u32,.i .i64,.s,.i .i64,.i .u32,.i .i64] rfl (by kernel_rfl) rfl (by kernel_rfl) (by kernel_rfl) ⟨_,rfl⟩ rfl (by kernel_rfl) (by kernel_rfl) (fun i h1 h2=>⟨rfl,by injection h1 with h1;subst h1;exact Ig⟩) (fun d h=>by cases h)
def IK:TI U:=⟨10,.st,144,[(0,3),(1,66),(4,67),(6,70),(8,73)],some (.st 10),false,[(1,.d (.int .i64) (0:Int)),(1,.d (.int .i64) (0:Int)),(1,.d (.int .u32) (0:Int)),(1,.d (.int .i64) (0:Int)),(1,.d (.int .i64) (0:Int)),(1,.d (.int .i64) (0:Int)),(1,.nils),(1,.nils),(1,.nils),(1,.nils)],none⟩
theorem B7:aU U Tryz.prog 75 IK:=aL [.i .i64,.i .i64,.i .u32,.i .i64,.i .i64,.i .i64,.l,.l,.l,.l] rfl (by kernel_rfl) rfl (by kernel_rfl) (by kernel_rfl) ⟨_,rfl⟩ rfl (by kernel_rfl) (by kernel_rfl) (fun i h1 h2=>by cases h2) (fun d h=>by cases h)
def IL:TI U:=⟨3,.st,24,[(0,2),(1,36)],some (.st 5),true,[(1,.d (.int .i64) (0:Int)),(1,.d (.int .u32) (0:Int)),(1,.d (.int .i64) (0:Int))],none⟩
theorem B8:aU U Tryz.prog 66 IL:=aL [.i .i64,.i .u32,.i .i64] rfl (by kernel_rfl) rfl (by kernel_rfl) (by kernel_rfl) ⟨_,rfl⟩ rfl (by kernel_rfl) (by kernel_rfl) (fun i h1 h2=>⟨rfl,by injection h1 with h1;subst h1;exact Mr⟩) (fun d h=>by cases h)
def IM:TI U:=⟨2,.st,16,[(0,2),(1,2)],some (.st 6),true,[(1,.d (.int .i64) (0:Int)),(1,.d (.int .i64) (0:Int))],none⟩
theorem B9:aU U Tryz.prog 67 IM:=aL [.i .i64,.i .i64] rfl (by kernel_rfl) rfl (by kernel_rfl) (by kernel_rfl) ⟨_,rfl⟩ rfl (by kernel_rfl) (by kernel_rfl) (fun i h1 h2=>⟨rfl,by injection h1 with h1;subst h1;exact Ms⟩) (fun d h=>by cases h)
def IP:TI U:=⟨1,.int .i64,8,[],some (.int .i64),false,[(1,.d (.int .i64) (0:Int))],none⟩
theorem Ca:aU U Tryz.prog 24 IP:=aL [.i .i64] rfl (by kernel_rfl) rfl (by kernel_rfl) (by kernel_rfl) (show Tryz.prog.underlying 24=some (.int .i64)by kernel_rfl) (by kernel_rfl) (by kernel_rfl) (by kernel_rfl) (fun i h1 h2=>by cases h2) (fun d h=>by cases h)
def IQ:TI U:=⟨9,.st,96,[(0,3),(1,9),(2,2),(3,34),(6,36),(8,37)],some (.st 3),false,[(1,.d (.int .i64) (0:Int)),(1,.d .str ([]:List UInt8)),(1,.d (.int .i64) (0:Int)),(1,.d (.int .i64) (0:Int)),(1,.d (.int .u32) (0:Int)),(1,.d (.int .i64) (0:Int)),(1,.d (.int .u32) (0:Int)),(1,.d (.int .i64) (0:Int)),(1,.nils)],none⟩
theorem Cb:aU U Tryz.prog 39 IQ:=aL [.i .i64,.s,.i .i64,.i .i64,.i .u32,.i .i64,.i .u32,.i .i64,.l] rfl (by kernel_rfl) rfl (by kernel_rfl) (by kernel_rfl) ⟨_,rfl⟩ rfl (by kernel_rfl) (by kernel_rfl) (fun i h1 h2=>by cases h2) (fun d h=>by cases h)
def IR:TI U:=⟨9,.st,96,[(0,3),(1,9),(2,2),(3,34),(6,36),(8,37)],some (.st 3),false,[(1,.d (.int .i64) (0:Int)),(1,.d .str ([]:List UInt8)),(1,.d (.int .i64) (0:Int)),(1,.d (.int .i64) (0:Int)),(1,.d (.int .u32) (0:Int)),(1,.d (.int .i64) (0:Int)),(1,.d (.int .u32) (0:Int)),(1,.d (.int .i64) (0:Int)),(1,.nils)],none⟩
theorem ql:aU U Tryz.prog 47 IR:=aL [.i .i64,.s,.i .i64,.i .i64,.i .u32,.i .i64,.i .u32,.i .i64,.l] rfl (by kernel_rfl) rfl (by kernel_rfl) (by kernel_rfl) ⟨_,rfl⟩ rfl (by kernel_rfl) (by kernel_rfl) (fun i h1 h2=>by cases h2) (fun d h=>by cases h)
def MZ:TI U:=⟨1,.bool,1,[],some (.bool),false,[(1,.d .bool false)],none⟩
theorem yR:aU U Tryz.prog 4 MZ:=aL [.b] rfl (by kernel_rfl) rfl (by kernel_rfl) (by kernel_rfl) (show Tryz.prog.underlying 4=some .bool by kernel_rfl) (by kernel_rfl) (by kernel_rfl) (by kernel_rfl) (fun i h1 h2=>by cases h2) (fun d h=>by cases h)
def IS:TI U:=⟨1,.sl 39,24,[],some (.sl (.st 3)),false,[(1,.nils)],none⟩
theorem Cc:aU U Tryz.prog 42 IS:=aL [.l] rfl (by kernel_rfl) rfl (by kernel_rfl) (by kernel_rfl) (show Tryz.prog.underlying 42=some (.slice 39)by kernel_rfl) (by kernel_rfl) (by kernel_rfl) (by kernel_rfl) (fun i h1 h2=>by cases h2) (fun d h=>by cases h)
def IT:TI U:=⟨1,.sl 47,24,[],some (.sl (.st 3)),false,[(1,.nils)],none⟩
theorem Cd:aU U Tryz.prog 64 IT:=aL [.l] rfl (by kernel_rfl) rfl (by kernel_rfl) (by kernel_rfl) (show Tryz.prog.underlying 64=some (.slice 47)by kernel_rfl) (by kernel_rfl) (by kernel_rfl) (by kernel_rfl) (fun i h1 h2=>by cases h2) (fun d h=>by cases h)
def IU:TI U:=⟨1,.ptr 109,8,[],none,false,[(1,.nilp)],none⟩
theorem Ce:aU U Tryz.prog 23 IU:=aL [.p] rfl (by kernel_rfl) rfl (by kernel_rfl) (by kernel_rfl) (show Tryz.prog.underlying 23=some (.pointer 109)by kernel_rfl) (by kernel_rfl) (by kernel_rfl) (by kernel_rfl) (fun i h1 h2=>by cases h2) (fun d h=>by cases h)
def C6:TI U:=⟨20,.st,192,[(0,61),(10,41),(18,106),(19,107)],none,false,[(1,.d (.int .i64) (0:Int)),(1,.d (.int .i64) (0:Int)),(1,.d (.int .u32) (0:Int)),(1,.d (.int .i64) (0:Int)),(1,.d (.int .i64) (0:Int)),(1,.d (.int .i64) (0:Int)),(1,.nils),(1,.nils),(1,.nils),(1,.nils),(1,.d (.int .u32) (0:Int)),(1,.d (.int .u32) (0:Int)),(1,.d (.int .u32) (0:Int)),(1,.d (.int .u32) (0:Int)),(1,.d (.int .u32) (0:Int)),(1,.d (.int .u32) (0:Int)),(1,.d (.int .u32) (0:Int)),(1,.d (.int .u32) (0:Int)),(1,.nilm),(1,.nilm)],none⟩
theorem yS:aU U Tryz.prog 109 C6:=aL [.i .i64,.i .i64,.i .u32,.i .i64,.i .i64,.i .i64,.l,.l,.l,.l,.i .u32,.i .u32,.i .u32,.i .u32,.i .u32,.i .u32,.i .u32,.i .u32,.m,.m] rfl (by kernel_rfl) rfl (by kernel_rfl) (by kernel_rfl) ⟨_,rfl⟩ rfl (by kernel_rfl) (by kernel_rfl) (fun i h1 h2=>by cases h2) (fun d h=>by cases h)
def IV:TI U:=⟨20,.st,224,[(0,75),(10,41),(18,42),(19,37)],some (.st 11),false,[(1,.d (.int .i64) (0:Int)),(1,.d (.int .i64) (0:Int)),(1,.d (.int .u32) (0:Int)),(1,.d (.int .i64) (0:Int)),(1,.d (.int .i64) (0:Int)),(1,.d (.int .i64) (0:Int)),(1,.nils),(1,.nils),(1,.nils),(1,.nils),(1,.d (.int .u32) (0:Int)),(1,.d (.int .u32) (0:Int)),(1,.d (.int .u32) (0:Int)),(1,.d (.int .u32) (0:Int)),(1,.d (.int .u32) (0:Int)),(1,.d (.int .u32) (0:Int)),(1,.d (.int .u32) (0:Int)),(1,.d (.int .u32) (0:Int)),(1,.nils),(1,.nils)],none⟩
theorem Cf:aU U Tryz.prog 84 IV:=aL [.i .i64,.i .i64,.i .u32,.i .i64,.i .i64,.i .i64,.l,.l,.l,.l,.i .u32,.i .u32,.i .u32,.i .u32,.i .u32,.i .u32,.i .u32,.i .u32,.l,.l] rfl (by kernel_rfl) rfl (by kernel_rfl) (by kernel_rfl) ⟨_,rfl⟩ rfl (by kernel_rfl) (by kernel_rfl) (fun i h1 h2=>by cases h2) (fun d h=>by cases h)
def C7:TI U:=⟨1,.sl 9,24,[],some (.sl (.str)),false,[(1,.nils)],none⟩
theorem yT:aU U Tryz.prog 137 C7:=aL [.l] rfl (by kernel_rfl) rfl (by kernel_rfl) (by kernel_rfl) (show Tryz.prog.underlying 137=some (.slice 9)by kernel_rfl) (by kernel_rfl) (by kernel_rfl) (by kernel_rfl) (fun i h1 h2=>by cases h2) (fun d h=>by cases h)
def C8:TI U:=⟨3,.st,40,[(0,3),(1,2),(2,98)],some (.st 13),false,[(1,.d (.int .i64) (0:Int)),(1,.d (.int .i64) (0:Int)),(1,.nils)],none⟩
theorem yU:aU U Tryz.prog 100 C8:=aL [.i .i64,.i .i64,.l] rfl (by kernel_rfl) rfl (by kernel_rfl) (by kernel_rfl) ⟨_,rfl⟩ rfl (by kernel_rfl) (by kernel_rfl) (fun i h1 h2=>by cases h2) (fun d h=>by cases h)
def IW:TI U:=⟨1,.sl 134,24,[],some (.sl (.st 12)),false,[(1,.nils)],none⟩
theorem Cg:aU U Tryz.prog 98 IW:=aL [.l] rfl (by kernel_rfl) rfl (by kernel_rfl) (by kernel_rfl) (show Tryz.prog.underlying 98=some (.slice 134)by kernel_rfl) (by kernel_rfl) (by kernel_rfl) (by kernel_rfl) (fun i h1 h2=>by cases h2) (fun d h=>by cases h)
def C9:TI U:=⟨2,.st,24,[(0,9),(1,2)],some (.st 12),true,[(1,.d .str ([]:List UInt8)),(1,.d (.int .i64) (0:Int))],none⟩
theorem rY:aU U Tryz.prog 134 C9:=aL [.s,.i .i64] rfl (by kernel_rfl) rfl (by kernel_rfl) (by kernel_rfl) ⟨_,rfl⟩ rfl (by kernel_rfl) (by kernel_rfl) (fun i h1 h2=>⟨rfl,by injection h1 with h1;subst h1;exact Il⟩) (fun d h=>by cases h)
def IX:TI U:=⟨19,.st,160,[(0,3),(1,39),(10,41),(18,42)],some (.st 14),false,[(1,.d (.int .i64) (0:Int)),(1,.d (.int .i64) (0:Int)),(1,.d .str ([]:List UInt8)),(1,.d (.int .i64) (0:Int)),(1,.d (.int .i64) (0:Int)),(1,.d (.int .u32) (0:Int)),(1,.d (.int .i64) (0:Int)),(1,.d (.int .u32) (0:Int)),(1,.d (.int .i64) (0:Int)),(1,.nils),(1,.d (.int .u32) (0:Int)),(1,.d (.int .u32) (0:Int)),(1,.d (.int .u32) (0:Int)),(1,.d (.int .u32) (0:Int)),(1,.d (.int .u32) (0:Int)),(1,.d (.int .u32) (0:Int)),(1,.d (.int .u32) (0:Int)),(1,.d (.int .u32) (0:Int)),(1,.nils)],none⟩
theorem Ch:aU U Tryz.prog 44 IX:=aL [.i .i64,.i .i64,.s,.i .i64,.i .i64,.i .u32,.i .i64,.i .u32,.i .i64,.l,.i .u32,.i .u32,.i .u32,.i .u32,.i .u32,.i .u32,.i .u32,.i .u32,.l] rfl (by kernel_rfl) rfl (by kernel_rfl) (by kernel_rfl) ⟨_,rfl⟩ rfl (by kernel_rfl) (by kernel_rfl) (fun i h1 h2=>by cases h2) (fun d h=>by cases h)
def M4:TI U:=⟨1,.int .u8,1,[],some (.int .u8),false,[(1,.d (.int .u8) (0:Int))],none⟩
theorem FU:aU U Tryz.prog 5 M4:=aL [.i .u8] rfl (by kernel_rfl) rfl (by kernel_rfl) (by kernel_rfl) (show Tryz.prog.underlying 5=some (.int .u8)by kernel_rfl) (by kernel_rfl) (by kernel_rfl) (by kernel_rfl) (fun i h1 h2=>by cases h2) (fun d h=>by cases h)
def Da:TI U:=⟨4,.st,4,[(0,4),(1,4),(2,4),(3,4)],some (.st 15),true,[(1,.d .bool false),(1,.d .bool false),(1,.d .bool false),(1,.d .bool false)],none⟩
theorem yV:aU U Tryz.prog 149 Da:=aL [.b,.b,.b,.b] rfl (by kernel_rfl) rfl (by kernel_rfl) (by kernel_rfl) ⟨_,rfl⟩ rfl (by kernel_rfl) (by kernel_rfl) (fun i h1 h2=>⟨rfl,by injection h1 with h1;subst h1;exact Im⟩) (fun d h=>by cases h)
def IY:TI U:=⟨3,.st,40,[(0,3),(1,2),(2,94)],some (.st 13),false,[(1,.d (.int .i64) (0:Int)),(1,.d (.int .i64) (0:Int)),(1,.nils)],none⟩
theorem Ci:aU U Tryz.prog 96 IY:=aL [.i .i64,.i .i64,.l] rfl (by kernel_rfl) rfl (by kernel_rfl) (by kernel_rfl) ⟨_,rfl⟩ rfl (by kernel_rfl) (by kernel_rfl) (fun i h1 h2=>by cases h2) (fun d h=>by cases h)
def IZ:TI U:=⟨1,.sl 135,24,[],some (.sl (.st 12)),false,[(1,.nils)],none⟩
theorem Cj:aU U Tryz.prog 94 IZ:=aL [.l] rfl (by kernel_rfl) rfl (by kernel_rfl) (by kernel_rfl) (show Tryz.prog.underlying 94=some (.slice 135)by kernel_rfl) (by kernel_rfl) (by kernel_rfl) (by kernel_rfl) (fun i h1 h2=>by cases h2) (fun d h=>by cases h)
def Db:TI U:=⟨2,.st,24,[(0,9),(1,2)],some (.st 12),true,[(1,.d .str ([]:List UInt8)),(1,.d (.int .i64) (0:Int))],none⟩
theorem yW:aU U Tryz.prog 135 Db:=aL [.s,.i .i64] rfl (by kernel_rfl) rfl (by kernel_rfl) (by kernel_rfl) ⟨_,rfl⟩ rfl (by kernel_rfl) (by kernel_rfl) (fun i h1 h2=>⟨rfl,by injection h1 with h1;subst h1;exact Io⟩) (fun d h=>by cases h)
def Dc:TI U:=⟨3,.st,32,[(0,3),(1,9),(2,2)],some (.st 16),true,[(1,.d (.int .i64) (0:Int)),(1,.d .str ([]:List UInt8)),(1,.d (.int .i64) (0:Int))],none⟩
theorem yX:aU U Tryz.prog 168 Dc:=aL [.i .i64,.s,.i .i64] rfl (by kernel_rfl) rfl (by kernel_rfl) (by kernel_rfl) ⟨_,rfl⟩ rfl (by kernel_rfl) (by kernel_rfl) (fun i h1 h2=>⟨rfl,by injection h1 with h1;subst h1;exact Ip⟩) (fun d h=>by cases h)
def Dd:TI U:=⟨1,.int .u64,8,[],some (.int .u64),false,[(1,.d (.int .u64) (0:Int))],none⟩
theorem yY:aU U Tryz.prog 253 Dd:=aL [.i .u64] rfl (by kernel_rfl) rfl (by kernel_rfl) (by kernel_rfl) (show Tryz.prog.underlying 253=some (.int .u64)by kernel_rfl) (by kernel_rfl) (by kernel_rfl) (by kernel_rfl) (fun i h1 h2=>by cases h2) (fun d h=>by cases h)
def De:TI U:=⟨3,.st,32,[(0,3),(1,9),(2,2)],some (.st 16),true,[(1,.d (.int .i64) (0:Int)),(1,.d .str ([]:List UInt8)),(1,.d (.int .i64) (0:Int))],none⟩
theorem yZ:aU U Tryz.prog 146 De:=aL [.i .i64,.s,.i .i64] rfl (by kernel_rfl) rfl (by kernel_rfl) (by kernel_rfl) ⟨_,rfl⟩ rfl (by kernel_rfl) (by kernel_rfl) (fun i h1 h2=>⟨rfl,by injection h1 with h1;subst h1;exact Iq⟩) (fun d h=>by cases h)
def I0:TI U:=⟨1,.fn,8,[],none,false,[(1,.nilf)],none⟩
theorem Ck:aU U Tryz.prog 86 I0:=aL [.f] rfl (by kernel_rfl) rfl (by kernel_rfl) (by kernel_rfl) ⟨_,rfl⟩ (by kernel_rfl) (by kernel_rfl) (by kernel_rfl) (fun i h1 h2=>by cases h2) (fun d h=>by cases h)
def Df:TI U:=⟨1,.sl 3,24,[],some (.sl (.int .i64)),false,[(1,.nils)],none⟩
theorem y0:aU U Tryz.prog 257 Df:=aL [.l] rfl (by kernel_rfl) rfl (by kernel_rfl) (by kernel_rfl) (show Tryz.prog.underlying 257=some (.slice 3)by kernel_rfl) (by kernel_rfl) (by kernel_rfl) (by kernel_rfl) (fun i h1 h2=>by cases h2) (fun d h=>by cases h)
def Dg:TI U:=⟨1,.fn,8,[],none,false,[(1,.nilf)],none⟩
theorem y2:aU U Tryz.prog 114 Dg:=aL [.f] rfl (by kernel_rfl) rfl (by kernel_rfl) (by kernel_rfl) ⟨_,rfl⟩ (by kernel_rfl) (by kernel_rfl) (by kernel_rfl) (fun i h1 h2=>by cases h2) (fun d h=>by cases h)
def Dh:TI U:=⟨1,.sl 37,24,[],some (.sl (.sl (.st 1))),false,[(1,.nils)],none⟩
theorem y3:aU U Tryz.prog 264 Dh:=aL [.l] rfl (by kernel_rfl) rfl (by kernel_rfl) (by kernel_rfl) (show Tryz.prog.underlying 264=some (.slice 37)by kernel_rfl) (by kernel_rfl) (by kernel_rfl) (by kernel_rfl) (fun i h1 h2=>by cases h2) (fun d h=>by cases h)
def I1:TI U:=⟨1,.ptr 84,8,[],none,false,[(1,.nilp)],none⟩
theorem Cm:aU U Tryz.prog 27 I1:=aL [.p] rfl (by kernel_rfl) rfl (by kernel_rfl) (by kernel_rfl) (show Tryz.prog.underlying 27=some (.pointer 84)by kernel_rfl) (by kernel_rfl) (by kernel_rfl) (by kernel_rfl) (fun i h1 h2=>by cases h2) (fun d h=>by cases h)
def Di:TI U:=⟨1,.sl 64,24,[],some (.sl (.sl (.st 3))),false,[(1,.nils)],none⟩
theorem y4:aU U Tryz.prog 186 Di:=aL [.l] rfl (by kernel_rfl) rfl (by kernel_rfl) (by kernel_rfl) (show Tryz.prog.underlying 186=some (.slice 64)by kernel_rfl) (by kernel_rfl) (by kernel_rfl) (by kernel_rfl) (fun i h1 h2=>by cases h2) (fun d h=>by cases h)
def Dj:TI U:=⟨1,.fn,8,[],none,false,[(1,.nilf)],none⟩
theorem y5:aU U Tryz.prog 228 Dj:=aL [.f] rfl (by kernel_rfl) rfl (by kernel_rfl) (by kernel_rfl) ⟨_,rfl⟩ (by kernel_rfl) (by kernel_rfl) (by kernel_rfl) (fun i h1 h2=>by cases h2) (fun d h=>by cases h)
def Dk:TI U:=⟨1,.sl 24,24,[],some (.sl (.int .i64)),false,[(1,.nils)],none⟩
theorem y6:aU U Tryz.prog 259 Dk:=aL [.l] rfl (by kernel_rfl) rfl (by kernel_rfl) (by kernel_rfl) (show Tryz.prog.underlying 259=some (.slice 24)by kernel_rfl) (by kernel_rfl) (by kernel_rfl) (by kernel_rfl) (fun i h1 h2=>by cases h2) (fun d h=>by cases h)
def Dl:TI U:=⟨1,.sl 2,24,[],some (.sl (.int .i64)),false,[(1,.nils)],none⟩
theorem y7:aU U Tryz.prog 294 Dl:=aL [.l] rfl (by kernel_rfl) rfl (by kernel_rfl) (by kernel_rfl) (show Tryz.prog.underlying 294=some (.slice 2)by kernel_rfl) (by kernel_rfl) (by kernel_rfl) (by kernel_rfl) (fun i h1 h2=>by cases h2) (fun d h=>by cases h)
def Dn:TI U:=⟨1,.fn,8,[],none,false,[(1,.nilf)],none⟩
theorem y8:aU U Tryz.prog 190 Dn:=aL [.f] rfl (by kernel_rfl) rfl (by kernel_rfl) (by kernel_rfl) ⟨_,rfl⟩ (by kernel_rfl) (by kernel_rfl) (by kernel_rfl) (fun i h1 h2=>by cases h2) (fun d h=>by cases h)
def I2:TI U:=⟨1,.int .i32,4,[],some (.int .i32),false,[(1,.d (.int .i32) (0:Int))],none⟩
theorem Cn:aU U Tryz.prog 21 I2:=aL [.i .i32] rfl (by kernel_rfl) rfl (by kernel_rfl) (by kernel_rfl) (show Tryz.prog.underlying 21=some (.int .i32)by kernel_rfl) (by kernel_rfl) (by kernel_rfl) (by kernel_rfl) (fun i h1 h2=>by cases h2) (fun d h=>by cases h)
def I3:TI U:=⟨1,.sl 44,24,[],some (.sl (.st 14)),false,[(1,.nils)],none⟩
theorem Co:aU U Tryz.prog 22 I3:=aL [.l] rfl (by kernel_rfl) rfl (by kernel_rfl) (by kernel_rfl) (show Tryz.prog.underlying 22=some (.slice 44)by kernel_rfl) (by kernel_rfl) (by kernel_rfl) (by kernel_rfl) (fun i h1 h2=>by cases h2) (fun d h=>by cases h)
def Do:TI U:=⟨1,.fn,8,[],none,false,[(1,.nilf)],none⟩
theorem y9:aU U Tryz.prog 143 Do:=aL [.f] rfl (by kernel_rfl) rfl (by kernel_rfl) (by kernel_rfl) ⟨_,rfl⟩ (by kernel_rfl) (by kernel_rfl) (by kernel_rfl) (fun i h1 h2=>by cases h2) (fun d h=>by cases h)
def Dp:TI U:=⟨1,.fn,8,[],none,false,[(1,.nilf)],none⟩
theorem za:aU U Tryz.prog 210 Dp:=aL [.f] rfl (by kernel_rfl) rfl (by kernel_rfl) (by kernel_rfl) ⟨_,rfl⟩ (by kernel_rfl) (by kernel_rfl) (by kernel_rfl) (fun i h1 h2=>by cases h2) (fun d h=>by cases h)
def Dq:TI U:=⟨1,.fn,8,[],none,false,[(1,.nilf)],none⟩
theorem zb:aU U Tryz.prog 235 Dq:=aL [.f] rfl (by kernel_rfl) rfl (by kernel_rfl) (by kernel_rfl) ⟨_,rfl⟩ (by kernel_rfl) (by kernel_rfl) (by kernel_rfl) (fun i h1 h2=>by cases h2) (fun d h=>by cases h)
def Dr:TI U:=⟨2,.arr 2 2,16,[],some (.arr 2 (.int .i64)),true,[(1,.d (.int .i64) (0:Int)),(1,.d (.int .i64) (0:Int))],none⟩
theorem zd:aU U Tryz.prog 246 Dr:=aL [.i .i64,.i .i64] rfl (by kernel_rfl) rfl (by kernel_rfl) (by kernel_rfl) (show Tryz.prog.underlying 246=some (.array 2 2)by kernel_rfl) (by kernel_rfl) (by kernel_rfl) (by kernel_rfl) (fun i h1 h2=>⟨rfl,by injection h1 with h1;subst h1;exact Ir⟩) (fun d h=>by cases h)
def Ds:TI U:=⟨1,.fn,8,[],none,false,[(1,.nilf)],none⟩
theorem ze:aU U Tryz.prog 223 Ds:=aL [.f] rfl (by kernel_rfl) rfl (by kernel_rfl) (by kernel_rfl) ⟨_,rfl⟩ (by kernel_rfl) (by kernel_rfl) (by kernel_rfl) (fun i h1 h2=>by cases h2) (fun d h=>by cases h)
def Dt:TI U:=⟨1,.fn,8,[],none,false,[(1,.nilf)],none⟩
theorem zf:aU U Tryz.prog 249 Dt:=aL [.f] rfl (by kernel_rfl) rfl (by kernel_rfl) (by kernel_rfl) ⟨_,rfl⟩ (by kernel_rfl) (by kernel_rfl) (by kernel_rfl) (fun i h1 h2=>by cases h2) (fun d h=>by cases h)
def bn:KD U:=⟨34,47,.st 1,.st 3,(inferInstance:DecidableEq ae),(fun x:ae=>Value.agg (yI x).toArray),(⟨0,[],0,⟨⟨0,0⟩,0⟩,⟨0,0⟩,[]⟩:ab)⟩
theorem FV:CE Tryz.prog U bn:=⟨wi (α:=ae) ⟨_,rfl⟩ (by kernel_rfl) (yO) (fun em x w=>by kernel_rfl) (fun x=>rfl),fun Y S x vs v hd ha=>by rw[rV hd]at ha;exact ha,oY ql (Eq.refl _) (by kernel_rfl)⟩
def Du:TI U:=⟨1,.mp 34 47,8,[],none,false,[(1,.nilm)],some bn⟩
theorem zg:aU U Tryz.prog 106 Du:=aL [.m] rfl (by kernel_rfl) rfl (by kernel_rfl) (by kernel_rfl) (show Tryz.prog.underlying 106=some (.map 34 47)by kernel_rfl) (by kernel_rfl) (by kernel_rfl) (by kernel_rfl) (fun i h1 h2=>by cases h2) (fun d h=>by injection h with h;subst h;exact⟨FV,by kernel_rfl⟩)
def bP:KD U:=⟨34,4,.st 1,.bool,(inferInstance:DecidableEq ae),(fun x:ae=>Value.agg (yI x).toArray),(false:Bool)⟩
theorem FW:CE Tryz.prog U bP:=⟨wi (α:=ae) ⟨_,rfl⟩ (by kernel_rfl) (yO) (fun em x w=>by kernel_rfl) (fun x=>rfl),fun Y S x vs v hd ha=>by rw[rV hd]at ha;exact ha,oY yR (Eq.refl _) (by kernel_rfl)⟩
def Dv:TI U:=⟨1,.mp 34 4,8,[],none,false,[(1,.nilm)],some bP⟩
theorem zh:aU U Tryz.prog 107 Dv:=aL [.m] rfl (by kernel_rfl) rfl (by kernel_rfl) (by kernel_rfl) (show Tryz.prog.underlying 107=some (.map 34 4)by kernel_rfl) (by kernel_rfl) (by kernel_rfl) (by kernel_rfl) (fun i h1 h2=>by cases h2) (fun d h=>by injection h with h;subst h;exact⟨FW,by kernel_rfl⟩)
def rZ:KD U:=⟨9,164,.str,.st 4,(inferInstance:DecidableEq (List UInt8)),(fun x:List UInt8=>sv x),(⟨⟨⟨0,0⟩,0⟩,[],0,⟨0,0⟩⟩:bl)⟩
theorem FX:CE Tryz.prog U rZ:=⟨eC.str (by kernel_rfl),fun Y S x vs v hd ha=>by have e:=(aC.inv hd).1;rw[e]at ha;exact(List.cons.inj ha).1.symm,oY jn (Eq.refl _) (by kernel_rfl)⟩
def Dw:TI U:=⟨1,.mp 9 164,8,[],none,false,[(1,.nilm)],some rZ⟩
theorem zi:aU U Tryz.prog 205 Dw:=aL [.m] rfl (by kernel_rfl) rfl (by kernel_rfl) (by kernel_rfl) (show Tryz.prog.underlying 205=some (.map 9 164)by kernel_rfl) (by kernel_rfl) (by kernel_rfl) (by kernel_rfl) (fun i h1 h2=>by cases h2) (fun d h=>by injection h with h;subst h;exact⟨FX,by kernel_rfl⟩)
def M5:cZ U:= [(3,MW),(37,Is),(34,Iu),(32,Iv),(30,Iw),(41,Ix),(61,Iy),(51,Iz),(2,MX),(36,IA),(53,IB),(56,IC),(54,ID),(159,C0),(9,MY),(59,IE),(57,IF),(164,C3),(70,IG),(68,IH),(178,C4),(73,II),(71,IJ),(182,C5),(75,IK),(66,IL),(67,IM),(24,IP),(39,IQ),(47,IR),(4,MZ),(42,IS),(64,IT),(23,IU),(109,C6),(106,Du),(107,Dv),(84,IV),(137,C7),(100,C8),(98,IW),(134,C9),(44,IX),(5,M4),(149,Da),(96,IY),(94,IZ),(135,Db),(168,Dc),(253,Dd),(146,De),(86,I0),(257,Df),(114,Dg),(264,Dh),(27,I1),(186,Di),(228,Dj),(205,Dw),(259,Dk),(294,Dl),(190,Dn),(21,I2),(22,I3),(143,Do),(210,Dp),(235,Dq),(246,Dr),(223,Ds),(249,Dt)]
theorem tA:bm U Tryz.prog M5:=am FR (am BR (am gy (am BS (am BT (am BU (am BV (am BW (am FS (am BX (am BY (am BZ (am B0 (am jm (am FT (am B1 (am B2 (am jn (am B3 (am B4 (am yP (am B5 (am B6 (am yQ (am B7 (am B8 (am B9 (am Ca (am Cb (am ql (am yR (am Cc (am Cd (am Ce (am yS (am zg (am zh (am Cf (am yT (am yU (am Cg (am rY (am Ch (am FU (am yV (am Ci (am Cj (am yW (am yX (am yY (am yZ (am Ck (am y0 (am y2 (am y3 (am Cm (am y4 (am y5 (am zi (am y6 (am y7 (am y8 (am Cn (am Co (am y9 (am za (am zb (am zd (am ze (am zf (zp))))))))))))))))))))))))))))))))))))))))))))))))))))))))))))))))))))))
end Go.Proofs.YtiliglahlfkikaaGreatDoor.V
end

section
set_option linter.unusedVariables false
namespace Go.Proofs.YtiliglahlfkikaaGreatDoor.V
open Go.RowKit
section
variable {U:bH}
theorem wI{α:Type}{f x y:α}{b:Bool}{P:Prop} [Decidable P]{A B:Prop}(hf:f=if P then x else y)(h1:P→f=x→A)(h2: ¬P→f=y→B)(hb:b=true↔P:=by repeat (first|exact iD|exact iB|apply iA|apply iO|apply iN|apply iP)):Cu b A B:=vI hf hb h1 h2
theorem wN{α:Type}{f x y:α}{b:Bool}{P:Prop} [Decidable P]{A B:Prop}(hf:f=if P then x else y)(h1: ¬P→f=y→A)(h2:P→f=x→B)(hb:b=true↔ ¬P:=by repeat (first|exact iD|exact iB|apply iN|apply iA|apply iO|apply iP)):Cu b A B:=vN hf hb h1 h2
theorem vs{P A:Prop}(a:A)(p:P:=by first|omega|(simp only[List.length_append,List.length_cons,List.length_nil];omega)):VS P A:=⟨p,a⟩
theorem vx{α:Type}(i:Int)(l:List α){A:Prop}(a:A)(p:0≤i∧i<(l.length:Int):=by omega):VS (0≤i∧i<(l.length:Int)) A:=⟨p,a⟩
theorem dJ{p q r:Int}{A B:Prop}(a:A)(h: -9223372036854775808≤p→p≤9223372036854775807→ -9223372036854775808≤q→q≤9223372036854775807→ -9223372036854775808≤r∧r≤9223372036854775807:=by first|omega|(simp only[List.length_append,List.length_cons,List.length_nil];omega)):I7 (dy .i64 p→dy .i64 q→dy .i64 r) A B:= .inl ⟨v6 h,a⟩
theorem fl{k:IntKind}{x:Int}{A:Prop}(h:x≤9223372036854775807→A)(hk:k= .i64:=by rfl):dy k x→A:=fun q=>h (by subst hk;exact q.2)
theorem lI{σ β:Type}{b n:Nat}{a:En U→Nat→Hs U→KO U→Prop}{e:En U}{H:Hs U}{K:KO U}(N:Nat)(E:σ→En U)(M:σ→Hs U)(μ:σ→Nat)(inv:σ→Prop)(L:Nat→σ→β)(X:β)(φ:List (Nat×Nat))(s0:σ)
  (k: ∀s,de μ inv L X s→a (E s) N (M s) fun o e' n' H'=>match o with
   | .n=> ∃φ s',μ s'<μ s∧de μ inv L X s'∧CD b N φ n' e' H' (E s') (M s')
   |o=>K o e' n' H')
  (hi:inv s0:=by((try dsimp only);repeat' apply And.intro)<;>first|trivial|omega|assumption|(simp only[List.length_append,List.length_cons,List.length_nil];omega)|(simp;omega)|(intro h;simp at h;omega)|simp)
  (hX:X=L (μ s0+1) s0:=by rfl) (hle:CD b N φ n e H (E s0) (M s0):=by repeat (first|exact trivial|refine And.intro rfl ?_)):wB b a e n H K:=
 ⟨σ,N,E,M,de μ inv L X,μ,⟨φ,s0,de.mk0 _ (Nat.lt_succ_self _) hi hX,hle⟩,k⟩
theorem nx{σ β:Type}{μ:σ→Nat}{inv:σ→Prop}{L:Nat→σ→β}{X:β}{s:σ}{c:Nat}{LE:List (Nat×Nat)→σ→Prop}(φ:List (Nat×Nat))(s':σ)(hc:μ s<c+1)(hX:X=L c s')
  (hm:μ s'<μ s:=by(try dsimp only);omega)
  (hi:inv s':=by((try dsimp only);repeat' apply And.intro)<;>first|trivial|omega|assumption|(simp only[List.length_append,List.length_cons,List.length_nil];omega)|(simp;omega)|(intro h;simp at h;omega)|simp)
  (hle:LE φ s':=by repeat (first|exact trivial|refine And.intro rfl ?_)): ∃φ s',μ s'<μ s∧de μ inv L X s'∧LE φ s':=⟨φ,s',hm,de.next hc hm hi hX,hle⟩
theorem dp{T:cZ U}{G:gD U}{b n:Nat}{ops:Array Oper}{e:En U}{H:Hs U}{K:KS U}(pl:List (Bool×Nat))(f:Option Nat)(mk:List Nat)(k:tQ T G ops.toList mk (jJ T G ops.toList f) pl e n H [] [] K)(h:su ops f pl=true:=by kernel_rfl):tT T G b ops e n H K:= .inl ⟨pl,f,mk,h,k⟩
def up(n:Nat):List (Bool×Nat):=Nat.rec (motive:=fun _=>Nat→List (Bool×Nat)) (fun _=> []) (fun _ ih i=>(true,i)::ih (i+1)) n 0
def nw(i:Nat):List Nat:= [i,i+1,i+2,i+3,i+4,i+5,i+6,i+7,i+8,i+9,i+10,i+11]
theorem e0{A:Prop}(a:A:=by rw[hf0]at h;exact h):A:=a
theorem e1{A:Prop}(a:A:=by rw[hf1]at hf0;rw[hf0]at h;exact h):A:=a
theorem e2{A:Prop}(a:A:=by rw[hf2]at hf1;rw[hf1]at hf0;rw[hf0]at h;exact h):A:=a
theorem bR.mono{P:Program}{f:FuncId}{c c':aZ U}(h:bR P U f c)(hm: ∀xs es K,c'.run xs es K→c.run xs es K):bR P U f c':=fun [F:ao] hpr X w ρ es xs vs K M hv hr=>h hpr X w ρ es xs vs K M hv (hm _ _ _ hr)
abbrev vi(x:Int):Va U:=⟨false,[(1,.d (.int .i64) x)]⟩
abbrev vb(x:Bool):Va U:=⟨false,[(1,.d .bool x)]⟩
abbrev vt(x:List UInt8):Va U:=⟨false,[(1,.d .str x)]⟩
abbrev vp(i:Nat):Va U:=⟨false,[(1,.ptr i 0)]⟩
abbrev vo(i:Nat):Va U:=⟨false,[(1,.own i 0)]⟩
end
end Go.Proofs.YtiliglahlfkikaaGreatDoor.V
end

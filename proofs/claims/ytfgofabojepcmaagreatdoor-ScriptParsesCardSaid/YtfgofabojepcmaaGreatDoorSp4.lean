/- What abstract values mean in memory; the interpreter's looks at pieces are right. -/
import Derived.Test.YtfgofabojepcmaaGreatDoorSp3
import Derived.Test.YtfgofabojepcmaaGreatDoorSp0
import Derived.Lib.ItoaNum
section
set_option linter.unusedVariables false
namespace Go.Proofs.YtfgofabojepcmaaGreatDoor.V
open Go.RowKit
section
variable {U:bJ}
def fh(i:Nat):List Nat→Bool
 | []=>false
 |j::r=>Nat.beq j i||fh i r
def IP(i:Nat)(L:List Nat):List Nat:=bif fh i L then L else L++ [i]
def L9(H:Hs U)(x:Cx U):Option Nat:=match x with
 | .own i _=>(match aB H i with|some (.row _ _ _ _)=>some i|some (.ext _ _ _ none)=>some i|_=>none)
 | .ptr i _=>some i
 | .pel i _ _ _=>some i
 | .pax i _ _ _ _ _=>some i
 | .mp i=>some i
 | .clo _ (j:: [])=>some j
 |_=>none
def uN(H:Hs U):List (bH U)→List Nat→List Nat
 | [],L=>L
 |(_,x)::r,L=>match L9 H x with
  |some i=>uN H r (IP i L)
  |none=>uN H r L
def IQ(H:Hs U)(i:Nat)(L:List Nat):List Nat:=match aB H i with
 |some (.cells l _)=>uN H l L
 |some (.clo _ l)=>uN H l L
 |_=>L
def tp(H:Hs U):Nat→Nat→List Nat→List Nat
 |0,_,L=>L
 |n+1,j,L=>match cL L j with
  |some i=>tp H n (j+1) (IQ H i L)
  |none=>L
def tq(H:Hs U):List (Va U)→List Nat→List Nat
 | [],L=>L
 |x::r,L=>tq H r (uN H x.l L)
def oh(L:List Nat)(i:Nat):Nat→(Nat→Prop)→Prop:=
 List.rec (motive:=fun _=>Nat→(Nat→Prop)→Prop) (fun _ _=>False) (fun j _ ih c K=>bif Nat.beq j i then K c else ih (c+1) K) L
def yu(L:List Nat):(List Nat→Prop)→Prop:=
 List.rec (motive:=fun _=>(List Nat→Prop)→Prop) (fun K=>K []) (fun x _ ih K=>ih fun r=>K (x::r)) L
def zV(z:Bool)(v:Nat)(K:Nat→Prop):Prop:=match z with
 |true=>K 0
 |false=>K v
def qN(z:Bool)(H:Hs U)(L:List Nat)(x:Cx U)(K:Cx U→Prop):Prop:=match x with
 | .own i v=>(match aB H i with
  |some (.row v' _ _ _)=>bif Nat.beq v v' then oh L i 0 fun j=>zV z v fun v=>K (.own j v)else K .un
  |some (.frz v' e xs)=>bif Nat.beq v v' then K (.d (.sl e) xs)else K .un
  |some (.ext v' _ _ none)=>bif Nat.beq v v' then oh L i 0 fun j=>zV z v fun v=>K (.own j v)else K .un
  |_=>K .un)
 | .ptr i o=>oh L i 0 fun j=>K (.ptr j o)
 | .pel i v q o=>(match aB H i with
  |some (.row v' _ _ _)=>bif Nat.beq v v' then oh L i 0 fun j=>zV z v fun v=>K (.pel j v q o)else K .un
  |_=>K .un)
 | .pax _ _ _ _ _ _=>K .un
 | .clo f (i:: [])=>oh L i 0 fun j=>K (.clo f [j])
 | .clo _ _=>K .un
 | .mp i=>oh L i 0 fun j=>K (.mp j)
 | .ifp _=>K .un
 |x=>K x
def lI(z:Bool)(H:Hs U)(L:List Nat)(l:List (bH U)):(List (bH U)→Prop)→Prop:=
 List.rec (motive:=fun _=>(List (bH U)→Prop)→Prop) (fun K=>K []) (fun x _ ih K=>qN z H L x.2 fun y=>ih fun r=>K ((x.1,y)::r)) l
def C3(z:Bool)(H:Hs U)(L:List Nat)(x:aN U)(K:aN U→Prop):Prop:=match x with
 | .cells l t=>lI z H L l fun l=>K (.cells l t)
 | .row v e xs t=>zV z v fun v=>K (.row v e xs t)
 | .frz _ _ _=>K .dead
 | .clo _ _=>K .dead
 | .map d l=>K (.map d l)
 | .mapr d l _ _ _=>K (.map d l)
 | .it _ _=>K .dead
 | .its _ _=>K .dead
 | .ext v d xs op=>(match op with
  |none=>zV z v fun v=>K (.ext v d xs none)
  |some _=>K .dead)
 | .hid _ _ _=>K .dead
 | .dead=>K .dead
def pG(z:Bool)(H:Hs U)(L:List Nat)(M:List Nat):(List (aN U)→Prop)→Prop:=
 List.rec (motive:=fun _=>(List (aN U)→Prop)→Prop) (fun K=>K []) (fun i _ ih K=>match aB H i with
  |some x=>C3 z H L x fun y=>ih fun r=>K (y::r)
  |none=>False) M
def pH(z:Bool)(H:Hs U)(L:List Nat)(l:List (Va U)):(List (Va U)→Prop)→Prop:=
 List.rec (motive:=fun _=>(List (Va U)→Prop)→Prop) (fun K=>K []) (fun x _ ih K=>lI z H L x.l fun l=>ih fun r=>K (⟨x.ag,l⟩::r)) l
def yv(fs:List (Nat×Option bj)):Hs U→List (bH U)→(Hs U→List (bH U)→Prop)→Prop:=
 List.rec (motive:=fun _=>Hs U→List (bH U)→(Hs U→List (bH U)→Prop)→Prop) (fun H l K=>K H l) (fun x _ ih H l K=>tK 40 l x.1 fun l1=>fO 40 l x.1 fun l2=>match x.2 with
  |some s=>bif Nat.beq x.1 (aS U s)then tk l1 H fun H l1=>i6 l1 H fun H l1=>cQ 20 s l1 fun u=>ih H l2 fun H r=>K H ((x.1,.d s u)::r)else False
  |none=>ih H l2 fun H r=>oe l1 r fun r=>K H r) fs
def tt(fs:List (Nat×Option bj))(j:Nat)(H:Hs U)(K:Hs U→Prop):Prop:=match aB H j with
 |some (.cells l t)=>yv fs H l fun H l=>(match aB H j with
  |some (.cells _ _)=>eG H j (.cells l t) K
  |_=>False)
 |_=>False
def Ir(em:List (Nat×List (Nat×Option bj))):Hs U→(Hs U→Prop)→Prop:=
 List.rec (motive:=fun _=>Hs U→(Hs U→Prop)→Prop) (fun H K=>K H) (fun x _ ih H K=>tt x.2 x.1 H fun H=>ih H K) em
def EW(md:List Md):List (Va U)→Hs U→(Hs U→Prop)→Prop:=
 List.rec (motive:=fun _=>List (Va U)→Hs U→(Hs U→Prop)→Prop) (fun _ H K=>K H) (fun m _ ih l H K=>match l with
  | []=>K H
  |x::r=>(match m with
   | .p fs=>(match x with
    |⟨false,(_,.ptr j 0):: []⟩=>tt fs j H fun H=>ih r H K
    |⟨false,(_,.nilp):: []⟩=>ih r H K
    |_=>False)
   |_=>ih r H K)) md
def BR(md:List Md):List (Va U)→Hs U→(Hs U→List (Va U)→Prop)→Prop:=
 List.rec (motive:=fun _=>List (Va U)→Hs U→(Hs U→List (Va U)→Prop)→Prop) (fun l H K=>K H l) (fun m _ ih l H K=>match l with
  | []=>K H []
  |x::r=>(match m with
   | .d s=>tk x.l H fun H l=>uJ s H ⟨x.ag,l⟩ fun H t=>ih r H fun H r=>K H (⟨x.ag,[(aS U s,.d s t)]⟩::r)
   |_=>ih r H fun H r=>K H (x::r))) md
def yw(T:cH U)(js:List Nat):Hs U→(Hs U→List (Va U)→Prop)→Prop:=
 List.rec (motive:=fun _=>Hs U→(Hs U→List (Va U)→Prop)→Prop) (fun H K=>K H []) (fun j _ ih H K=>match aB H j with
  |some (.cells l t)=>(match aB T t with
   |some ti=>(match ti.sh with
    |some s=>i6 l H fun H l=>cQ 20 s l fun x=>ih H fun H r=>K H (⟨false,[(1,.pd s x)]⟩::r)
    |none=>False)
   |none=>False)
  |_=>False) js
def Fh{ty:Nat→Type}:(a:bj)→TT ty a→Prop→Prop
 | .str,t,K=>List.length (α:=UInt8) t≤1000000→K
 |_,_,K=>K
def Fi{ty:Nat→Type}:(a:bj)→TT ty a→Prop→Prop
 | .str,t,K=>VS (List.length (α:=UInt8) t≤1000000) K
 |_,_,K=>K
def C4:bj→Bool| .str=>false|_=>true
theorem yx{ty:Nat→Type}{a:bj}{t:TT ty a}{K:Prop}(h:Fh a t K)(hd:uI a t):K:=by cases a<;>first|exact h hd|exact h
theorem yy{ty:Nat→Type}{a:bj}{t:TT ty a}{K:Prop}(h:Fi a t K):uI a t∧K:=by cases a<;>first|exact h|exact⟨trivial,h⟩
theorem yz{ty:Nat→Type}{a:bj}{t:TT ty a}(h:C4 a=true):uI a t:=by cases a<;>first|(cases h;done)|exact trivial
def uO(c:bZ U)(caps:List (Va U))(a:bj)(g:TT U.ty a→Bool):Prop:= ∀t:TT U.ty a,Fh a t (c.run (⟨e8 a,[(aS U a,.d a t)]⟩::caps) [] fun r es=>r= .v ⟨false,[(1,.d .bool (g t))]⟩∧es= [])
def uP(c:bZ U)(caps:List (Va U))(a b:bj)(g:TT U.ty a→TT U.ty b→Int):Prop:= ∀(t:TT U.ty a) (t':TT U.ty b),c.run (⟨e8 a,[(aS U a,.d a t)]⟩::⟨e8 b,[(aS U b,.d b t')]⟩::caps) [] fun r es=>r= .v ⟨false,[(1,.d (.int .i64) (g t t'))]⟩∧es= []
def nr(G:bS U)(f:FuncId)(K:bZ U→Prop):Prop:=match aB G f with
 |some c=>K c
 |none=>False
def yA(T:cH U)(G:bS U)(a:bj)(x:Va U)(H:Hs U)(K:Hs U→(TT U.ty a→Bool)→List Nat→Prop):Prop:=match x with
 |⟨false,(_,.fn f):: []⟩=>nr G f fun c=> ∃g,uO c [] a g∧K H g []
 |⟨false,(_,.clo f js):: []⟩=>yw T js H fun H caps=>nr G f fun c=> ∃g,uO c caps a g∧K H g js
 |⟨false,(_,.f1 a' g):: []⟩=>(match ed U.ty (fun x=>x→Bool) a' a g with
  |some g=>K H g []
  |none=>False)
 |_=>False
def yB(T:cH U)(G:bS U)(a b:bj)(x:Va U)(H:Hs U)(K:Hs U→(TT U.ty a→TT U.ty b→Int)→List Nat→Prop):Prop:=match x with
 |⟨false,(_,.fn f):: []⟩=>nr G f fun c=> ∃g,uP c [] a b g∧K H g []
 |⟨false,(_,.clo f js):: []⟩=>yw T js H fun H caps=>nr G f fun c=> ∃g,uP c caps a b g∧K H g js
 |⟨false,(_,.f2 a' b' g):: []⟩=>(match ed U.ty (fun x=>x→TT U.ty b'→Int) a' a g with
  |some g=>(match ed U.ty (fun y=>TT U.ty a→y→Int) b' b g with
   |some g=>K H g []
   |none=>False)
  |none=>False)
 |_=>False
def C5(T:cH U)(G:bS U)(md:List Md):List (Va U)→Hs U→(Hs U→List (Va U)→List Nat→Prop)→Prop:=
 List.rec (motive:=fun _=>List (Va U)→Hs U→(Hs U→List (Va U)→List Nat→Prop)→Prop) (fun l H K=>K H l []) (fun m _ ih l H K=>match l with
  | []=>K H [] []
  |x::r=>(match m with
   | .d s=>uJ s H x fun H t=>ih r H fun H r Z=>K H (⟨x.ag,[(aS U s,.d s t)]⟩::r) Z
   | .f1 a=>yA T G a x H fun H g js=>ih r H fun H r Z=>K H (⟨false,[(1,.f1 a g)]⟩::r) (js++Z)
   | .f2 a b=>yB T G a b x H fun H g js=>ih r H fun H r Z=>K H (⟨false,[(1,.f2 a b g)]⟩::r) (js++Z)
   |_=>ih r H fun H r Z=>K H (x::r) Z)) md
def uQ(L:List Nat):List Nat→Bool
 | []=>true
 |z::Z=>bif fh z L then false else uQ L Z
def yC(es:List (aN U)):List Nat→Nat→(List Nat→Nat→Prop)→Prop:=
 List.rec (motive:=fun _=>List Nat→Nat→(List Nat→Nat→Prop)→Prop) (fun _ n K=>K [] n) (fun _ _ ih L n K=>match L with
  |i::L=>ih L n fun l n=>K (i::l) n
  | []=>ih [] (n+1) fun l n'=>K (n::l) n') es
def ol(H:Hs U)(i v:Nat)(K:Nat→Prop):Prop:=match aB H i with
 |some (.row v0 _ _ _)=>K (v0+v)
 |some (.ext v0 _ _ _)=>K (v0+v)
 |_=>K v
def nH(H:Hs U)(L:List Nat)(x:Cx U)(K:Cx U→Prop):Prop:=match x with
 | .own j v=>(match cL L j with
  |some i=>ol H i v fun v=>K (.own i v)
  |none=>K .un)
 | .ptr j o=>(match cL L j with
  |some i=>K (.ptr i o)
  |none=>K .un)
 | .pel j v q o=>K .un
 | .pax _ _ _ _ _ _=>K .un
 | .clo f (j:: [])=>(match cL L j with
  |some i=>K (.clo f [i])
  |none=>K .un)
 | .clo _ _=>K .un
 | .f1 _ _=>K .un
 | .f2 _ _ _=>K .un
 | .ifp _=>K .un
 | .mp j=>(match cL L j with
  |some i=>K (.mp i)
  |none=>K .un)
 |x=>K x
def ln(H:Hs U)(L:List Nat)(l:List (bH U)):(List (bH U)→Prop)→Prop:=
 List.rec (motive:=fun _=>(List (bH U)→Prop)→Prop) (fun K=>K []) (fun x _ ih K=>nH H L x.2 fun y=>ih fun r=>K ((x.1,y)::r)) l
def uR(H:Hs U)(L:List Nat)(i:Nat)(x:aN U)(K:aN U→Prop):Prop:=match x with
 | .cells l t=>ln H L l fun l=>K (.cells l t)
 | .row v e xs t=>ol H i v fun v=>K (.row v e xs t)
 | .frz v e xs=>ol H i v fun v=>K (.frz v e xs)
 | .clo _ _=>K .dead
 | .map d l=>K (.map d l)
 | .mapr _ _ _ _ _=>K .dead
 | .it _ _=>K .dead
 | .its _ _=>K .dead
 | .ext v d xs op=>(match op with
  |none=>ol H i v fun v=>K (.ext v d xs none)
  |some _=>K .dead)
 | .hid _ _ _=>K .dead
 | .dead=>K .dead
def om(H:Hs U)(L:List Nat)(l:List (Va U)):(List (Va U)→Prop)→Prop:=
 List.rec (motive:=fun _=>(List (Va U)→Prop)→Prop) (fun K=>K []) (fun x _ ih K=>ln H L x.l fun l=>ih fun r=>K (⟨x.ag,l⟩::r)) l
def BS(H:Hs U)(L:List Nat)(x:AV U)(K:AV U→Prop):Prop:=match x with
 | .v x=>ln H L x.l fun l=>K (.v ⟨x.ag,l⟩)
 | .tup l=>om H L l fun l=>K (.tup l)
 | .pan z=>K (.pan z)
 |_=>K .un
def yD(H:Hs U)(i:Nat)(x:aN U)(K:Hs U→Prop):Prop:=match aB H i with
 |some _=>eG H i x K
 |none=>K ((i,x)::H)
def uS(H0:Hs U)(L:List Nat)(M:List Nat):List (aN U)→Hs U→(Hs U→Prop)→Prop:=
 List.rec (motive:=fun _=>List (aN U)→Hs U→(Hs U→Prop)→Prop) (fun _ H K=>K H) (fun i _ ih es H K=>match es with
  |x::r=>uR H0 L i x fun y=>yD H i y fun H=>ih r H K
  | []=>False) M
def lJ:List Nat→Bool
 | []=>true
 |i::r=>bif fh i r then false else lJ r
def tu(T:cH U)(G:bS U)(c:bZ U)(xs:List (Va U))(n:Nat)(H:Hs U)(K:AV U→Nat→Hs U→Prop):Prop:=
 EW c.md xs H fun H=>C5 T G c.md xs H fun H xs Z=>yu (tp H 30 0 (tq H xs [])) fun L=>bif lJ L&&uQ L Z then pH true H L xs fun ys=>pG true H L L fun es=>c.run ys es fun r es=>yC es L n fun L2 n2=>BS H L2 r fun r=>uS H L2 L2 es H fun H=>K r n2 H else False
def je(T:cH U)(G:bS U)(f:FuncId)(xs:List (Va U))(n:Nat)(H:Hs U)(K:AV U→Nat→Hs U→Prop):Prop:=match aB G f with
 |some c=>tu T G c xs n H K
 |none=>False
def C6(s:bj)(H:Hs U)(y:Cx U)(K:List (TT U.ty s)→Prop):Prop:=match y with
 | .nils=>K []
 |y=>qL H y fun e ys=>(match ed U.ty List e s ys with
  |some ys=>K ys
  |none=>False)
def EX(U:bJ)(s:bj)(ei:TI U):Bool:=Nat.beq ei.sz (aS U s)&&Nat.blt 0 (aS U s)&&Nat.blt 0 ei.by_
def Fj(T:cH U)(t:Nat)(H:Hs U)(n:Nat)(x y:Cx U)(K:AV U→Nat→Hs U→Prop):Prop:=BO T t fun el ei=>match ei.sh with
 |some s=>bif EX U s ei then C6 s H y fun ys=>(match x with
  | .nils=>VS (ys.length*ei.by_≤140737488355328) (K (.v ⟨false,[(1,.own n 0)]⟩) (n+1) ((n,.row 0 s ys el)::H))
  | .own i v=>(match aB H i with
   |some (.row v' e' xs u)=>bif Nat.beq v v'&&Nat.beq u el then(match ed U.ty List e' s xs with
    |some xs=>VS ((xs.length+ys.length)*ei.by_≤140737488355328) (eG H i (.row (v+1) s (xs++ys) u) fun H=>K (.v ⟨false,[(1,.own i (v+1))]⟩) n H)
    |none=>False)else False
   |_=>False)
  |_=>False)else False
 |none=>False
def Fk(T:cH U)(t:Nat)(H:Hs U)(n:Nat)(q r:Int)(K:AV U→Nat→Hs U→Prop):Prop:=BO T t fun el ei=>match ei.sh with
 |some s=>bif EX U s ei then cQ 20 s ei.zero fun z=>VS (0≤q∧q≤r∧r≤281474976710656∧ei.by_*r.toNat≤281474976710656) (K (.v ⟨false,[(1,.own n 0)]⟩) (n+1) ((n,.row 0 s (List.replicate q.toNat z) el)::H))else False
 |none=>False
def IR(c:Cx U)(xs:List (Va U))(H:Hs U)(K:AV U→Hs U→Prop):Prop:=match c,xs with
 | .f1 a g,x:: []=>bif x.ag==e8 a then uJ a H x fun H t=>Fi a t (K (.v ⟨false,[(1,.d .bool (g t))]⟩) H)else False
 | .f2 a b g,x::y:: []=>bif (x.ag==e8 a)&&(y.ag==e8 b)then uJ a H x fun H t=>uJ b H y fun H t'=>K (.v ⟨false,[(1,.d (.int .i64) (g t t'))]⟩) H else False
 |_,_=>False
def LA(c:Cx U)(xs:List (Va U))(K:Va U→Prop):Prop:=match c,xs with
 | .f1 a g,x:: []=>bif (x.ag==e8 a)&&C4 a then cQ 20 a x.l fun t=>K ⟨false,[(1,.d .bool (g t))]⟩else False
 | .f2 a b g,x::y:: []=>bif (x.ag==e8 a)&&(y.ag==e8 b)then cQ 20 a x.l fun t=>cQ 20 b y.l fun t'=>K ⟨false,[(1,.d (.int .i64) (g t t'))]⟩else False
 |_,_=>False
def C7(T:cH U)(t:Nat)(H:Hs U)(c:Cx U)(kv xv:Va U)(K:Hs U→Prop):Prop:=match c with
 | .mp i=>(match aB H i with
  |some (.map d l)=>bif tl T t d&&((kv.ag==e8 d.k)&&(xv.ag==e8 d.v))then cQ 20 d.k kv.l fun k=>uJ d.v H xv fun H y=>eG H i (.map d (@lh _ _ d.dec l k y)) K else False
  |_=>False)
 |_=>False
def C8(T:cH U)(t:Nat)(H:Hs U)(c:Cx U)(kv:Va U)(K:Hs U→Prop):Prop:=match c with
 | .mp i=>(match aB H i with
  |some (.map d l)=>bif tl T t d&&(kv.ag==e8 d.k)then cQ 20 d.k kv.l fun k=>eG H i (.map d (@fz _ _ d.dec l k)) K else False
  |some (.mapr d l left _ gh)=>bif tl T t d&&(kv.ag==e8 d.k)then cQ 20 d.k kv.l fun k=>eG H i (.mapr d (@fz _ _ d.dec l k) (@fz _ _ d.dec left k) [] gh) K else False
  |_=>False)
 |_=>False
def C9(T:cH U)(t:Nat)(H:Hs U)(n:Nat)(c:Cx U)(K:Hs U→Prop):Prop:=match c with
 | .mp i=>(match aB H i with
  |some (.map d l)=>bif tl T t d then ∀gh,eG H i (.mapr d l l [] gh) fun H=>K ((n,.it i gh)::H)else False
  |_=>False)
 | .d .str s=>pA T t fun k=>bif jI k then K ((n,.its s 0)::H)else False
 |_=>False
def Fl{α:Type}(left:List α)(A:Prop)(B:List α→α→List α→Prop):Prop:=(left= []→A)∧ ∀a p b,left=a++p::b→B a p b
def Da(H:Hs U)(c:Cx U)(K:AV U→Hs U→Prop):Prop:=match c with
 | .ptr j 0=>(match aB H j with
  |some (.it i gh)=>(match aB H i with
   |some (.mapr d l left _ gh')=>VS (gh=gh') (Fl left (eG H j .dead fun H=>eG H i (.map d l) fun H=>K (.tup [⟨false,[(1,.d .bool false)]⟩]) H)
     fun a p b=> ∀gh2,eG H j (.it i gh2) fun H=>eG H i (.mapr d l (a++b) [p] gh2) fun H=>K (.tup [⟨false,[(1,.d .bool true)]⟩,pB d.k p.1,pB d.v p.2]) H)
   |_=>False)
  |_=>False)
 |_=>False
def Db(H:Hs U)(c:Cx U)(K:AV U→Hs U→Prop):Prop:=match c with
 | .ptr j 0=>(match aB H j with
  |some (.its s p)=>x8 (decide (p<(s.length:Int))) (eG H j (.its s (p+eC s p)) fun H=>K (.tup [⟨false,[(1,.d .bool true)]⟩,⟨false,[(1,.d (.int .i64) p)]⟩,⟨false,[(1,.d (.int .i32) (jd s p))]⟩]) H) (eG H j .dead fun H=>K (.tup [⟨false,[(1,.d .bool false)]⟩]) H)
  |_=>False)
 |_=>False
def Dc:List Nat→List (Va U)
 | []=> []
 |j::js=>⟨false,[(1,.ptr j 0)]⟩::Dc js
def kN(d:Option Nat)(A:Prop):Prop:=match d with
 |some _=>A
 |none=>False
def Fm(d:Option Nat)(A:Prop):Prop:=match d with
 |some _=>False
 |none=>A
def uT(T:cH U)(G:bS U)(o:Oper)(R e:En U)(n:Nat)(H:Hs U)(K:AV U→Nat→Hs U→Prop):Prop:=match o.op with
 | .alloc t=>kN o.dst (match aB T t with
  |some ti=>K (.v ⟨false,[(1,.ptr n 0)]⟩) (n+1) ((n,.cells ti.zero t)::H)
  |none=>False)
 | .box t x=>kN o.dst (jH [] R e x fun v=>K (.v ⟨false,[(1,.ptr n 0)]⟩) (n+1) ((n,.cells v.l t)::H))
 | .makeMap t none=>kN o.dst (match aB T t with
  |some ti=>(match ti.mp with
   |some d=>K (.v ⟨false,[(1,.mp n)]⟩) (n+1) ((n,.map d [])::H)
   |none=>False)
  |none=>False)
 | .mapUpdate t m kx x=>Fm o.dst (f8 [] R e m fun c=>jH [] R e kx fun kv=>jH [] R e x fun xv=>C7 T t H c kv xv fun H=>K .un n H)
 | .range t x=>kN o.dst (f8 [] R e x fun c=>C9 T t H n c fun H=>K (.v ⟨false,[(1,.ptr n 0)]⟩) (n+1) H)
 | .next x false=>kN o.dst (f8 [] R e x fun c=>Da H c fun v H=>K v n H)
 | .next x true=>kN o.dst (f8 [] R e x fun c=>Db H c fun v H=>K v n H)
 | .store t x y=>Fm o.dst (f8 [] R e x fun c=>jH [] R e y fun w=>qM T t H c w fun H=>K .un n H)
 | .buildSlice t k ps=>kN o.dst (BO T t fun el ei=>match ei.sh with
  |some s=>bif Nat.beq ei.sz (aS U s)&&Nat.blt 0 (aS U s)&&Nat.ble (k*aS U s) 1000 then yp [] R e s k ps.toList 0 H fun H l=>K (.v ⟨false,[(1,.own n 0)]⟩) (n+1) ((n,.row 0 s l el)::H)else False
  |none=>False)
 | .makeSlice t x y=>kN o.dst (f8 [] R e x fun c=>f8 [] R e y fun d=>match c,d with
  | .d (.int _) q,.d (.int _) r=>Fk T t H n q r K
  |_,_=>False)
 | .call c=>(match c.callee with
  | .builtin .append=>(match c.args.toList,c.argTypes.toList with
   |x::y:: [],t::t':: []=>kN o.dst (bif Nat.beq t t' then f8 [] R e x fun a=>f8 [] R e y fun b=>Fj T t H n a b K else False)
   |_,_=>False)
  | .builtin .delete=>(match c.args.toList,c.argTypes.toList with
   |m::kx:: [],t::_:: []=>Fm o.dst (f8 [] R e m fun c=>jH [] R e kx fun kv=>C8 T t H c kv fun H=>K .un n H)
   |_,_=>False)
  | .value (.func f)=>mc [] R e c.args.toList fun xs=>je T G f xs n H K
  | .value (.tmp s)=>kN o.dst (f8 [] R e (.tmp s) fun x=>mc [] R e c.args.toList fun xs=>match x with
   | .fn f=>je T G f xs n H K
   | .clo f js=>je T G f (xs++Dc js) n H K
   | .bnd f s t=>je T G f (⟨false,[(1,.d s t)]⟩::xs) n H K
   |x=>IR x xs H fun v H=>K v n H)
  |_=>False)
 |_=>False
def jN(o:Oper):Bool:=match o.op with
 | .alloc _| .box _ _| .store _ _ _| .buildSlice _ _ _| .makeSlice _ _ _| .makeMap _ _| .mapUpdate _ _ _ _| .range _ _| .next _ _=>true
 | .call c=>(match c.callee with
  | .builtin .append| .builtin .copy| .builtin .clear| .builtin .delete=>true
  | .builtin _=>false
  |_=>true)
 |_=>false
abbrev KS(U:bJ):=En U→Nat→Hs U→Prop
def yE(T:cH U)(H:Hs U)(js:List Nat):(List (Va U)→Prop)→Prop:=
 List.rec (motive:=fun _=>(List (Va U)→Prop)→Prop) (fun K=>K []) (fun j _ ih K=>match aB H j with
  |some (.cells l t)=>(match aB T t with
   |some ti=>(match ti.sh with
    |some s=>cQ 20 s l fun x=>ih fun r=>K (⟨false,[(1,.pd s x)]⟩::r)
    |none=>False)
   |none=>False)
  |_=>False) js
def yF(T:cH U)(G:bS U)(H:Hs U)(a:bj)(x:Va U)(K:(TT U.ty a→Bool)→Prop):Prop:=match x with
 |⟨false,(_,.fn f):: []⟩=>nr G f fun c=> ∃g,uO c [] a g∧K g
 |⟨false,(_,.clo f js):: []⟩=>yE T H js fun caps=>nr G f fun c=> ∃g,uO c caps a g∧K g
 |_=>False
def yG(T:cH U)(G:bS U)(H:Hs U)(a b:bj)(x:Va U)(K:(TT U.ty a→TT U.ty b→Int)→Prop):Prop:=match x with
 |⟨false,(_,.fn f):: []⟩=>nr G f fun c=> ∃g,uP c [] a b g∧K g
 |⟨false,(_,.clo f js):: []⟩=>yE T H js fun caps=>nr G f fun c=> ∃g,uP c caps a b g∧K g
 |_=>False
def EY(T:cH U)(G:bS U)(H:Hs U)(md:List Md):List (Va U)→(List (Va U)→Prop)→Prop:=
 List.rec (motive:=fun _=>List (Va U)→(List (Va U)→Prop)→Prop) (fun l K=>match l with| []=>K []|_=>False) (fun m _ ih l K=>match l with
  | []=>K []
  |x::r=>(match m with
   | .d s=>lI true H [] x.l fun l=>cQ 20 s l fun t=>ih r fun r=>K (⟨x.ag,[(aS U s,.d s t)]⟩::r)
   | .f1 a=>yF T G H a x fun g=>ih r fun r=>K (⟨false,[(1,.f1 a g)]⟩::r)
   | .f2 a b=>yG T G H a b x fun g=>ih r fun r=>K (⟨false,[(1,.f2 a b g)]⟩::r)
   | .p _=>False
   | .n=>lI true H [] x.l fun l=>ih r fun r=>K (⟨x.ag,l⟩::r))) md
def yH:List (bH U)→Bool
 | []=>true
 |(_,x)::r=>match x with
  | .f1 _ _=>false
  | .f2 _ _ _=>false
  |_=>yH r
def qO(T:cH U)(G:bS U)(p:b8)(o:Oper)(R e:En U)(n:Nat)(H:Hs U)(K:Va U→Prop):Prop:=match o.op with
 | .call c=>(match c.callee with
  | .value (.func f)=>(match aB G f with
   |some k=>mc p R e c.args.toList fun xs=> ∃x:Va U,me R e p (EY T G H k.md xs fun xs=>k.run xs [] fun r es=>r= .v x∧es= [])∧yH x.l=true∧K x
   |none=>False)
  | .value (.tmp s)=>f8 p R e (.tmp s) fun x=>mc p R e c.args.toList fun xs=>LA x xs K
  |_=>False)
 |_=>False
def uU:List (Nat×Operand)→Nat→Nat→Bool
 | [],j,k=>Nat.beq j k
 |(i,_)::r,j,k=>Nat.beq i j&&uU r (j+1) k
def IS(s:bj)(H:Hs U)(l:List (Va U)):(List (TT U.ty s)→Prop)→Prop:=
 List.rec (motive:=fun _=>(List (TT U.ty s)→Prop)→Prop) (fun K=>K []) (fun x _ ih K=>lI true H [] x.l fun l=>cQ 20 s l fun a=>ih fun r=>K (a::r)) l
def rX(T:cH U)(G:bS U)(p:b8)(o:Oper)(R e:En U)(n:Nat)(H:Hs U)(K:Va U→Prop):Prop:=match o.op with
 | .buildSlice t k ps=>BO T t fun _ ei=>match ei.sh with
  |some s=>bif Nat.beq ei.sz (aS U s)&&Nat.blt 0 (aS U s)&&Nat.ble (k*aS U s) 1000&&uU ps.toList 0 k then mc p R e (ps.toList.map (·.2)) fun xs=>IS s H xs fun l=>K ⟨false,[(1,.d (.sl s) l)]⟩else False
  |none=>False
 |_=>qO T G p o R e n H K
abbrev KR(U:bJ):=En U→Nat→Hs U→En U→List Nat→KS U→Prop
def jO(rest:KR U)(d:Option Nat)(v:AV U)(e:En U)(n:Nat)(H:Hs U)(R:En U)(S:List Nat)(K:KS U):Prop:=match d with
 |some d=>bif fh d S then False else rest ((d,v)::e) n H R S K
 |none=>rest e n H R S K
def putG(rest:KR U)(s:Nat)(d:Option Nat)(p:b8)(x:Va U)(e:En U)(n:Nat)(H:Hs U)(R:En U)(S:List Nat)(K:KS U):Prop:=match d with
 |some d=>(match aB e d with
  |none=>bif fh d S||Nat.beq d s then False else rest e n H ((d,.gd p x)::R) (d::s::S) K
  |some _=>False)
 |none=>False
def tv(T:cH U)(G:bS U)(o:Oper)(rest:KR U)(s:Nat)(p:b8)(e:En U)(n:Nat)(H:Hs U)(R:En U)(S:List Nat)(K:KS U):Prop:=match jN o with
 |true=>rX T G p o R e n H fun v=>putG rest s o.dst p v e n H R S K
 |false=>ii (me R e p) T p o R e H fun v=>(match v with
  | .v v=>putG rest s o.dst p v e n H R S K
  |_=>False)
def yI(o:Oper)(v:AV U)(A:Prop):Prop:=match o.op with
 | .call c=>(match c.callee with
  | .builtin .len=>(match v with
   | .v ⟨false,(_,.d (.int k) q):: []⟩=>cZ k q→A
   |_=>A)
  |_=>A)
 |_=>A
def fA(T:cH U)(G:bS U)(all:List Oper)(o:Oper)(rest:KR U)(e:En U)(n:Nat)(H:Hs U)(R:En U)(S:List Nat)(K:KS U):Prop:=match o.guard with
 |none=>(match jN o with
  |true=>uT T G o R e n H fun v n H=>jO rest o.dst v e n H R S K
  |false=>ii (fun P=>P) T [] o R e H fun v=>yI o v (jO rest o.dst v e n H R S K))
 |some (j,b)=>(match cL all j with
  |some oj=>(match oj.dst with
   |some s=>(match aB R s with
    |some (.gd p ⟨false,(_,.d .bool _):: []⟩)=>tv T G o rest s ((s,b)::p) e n H R S K
    |some _=>False
    |none=>(match aB e s with
     |some (.v ⟨false,(_,.d .bool _):: []⟩)=>tv T G o rest s [(s,b)] e n H R S K
     |_=>False))
   |none=>False)
  |none=>False)
def qP(p:Nat→Bool)(H:Hs U):(Hs U→Prop)→Prop:=
 List.rec (motive:=fun _=>(Hs U→Prop)→Prop) (fun K=>K []) (fun x _ ih K=>ih fun r=>match p x.1,x.2 with
  |true,.row v e xs _=>K ((x.1,.hid v xs.length (aS U e))::r)
  |true,.cells _ _=>K ((x.1,.dead)::r)
  |true,.map _ _=>K ((x.1,.dead)::r)
  |true,.mapr _ _ _ _ _=>K ((x.1,.dead)::r)
  |true,.it _ _=>K ((x.1,.dead)::r)
  |true,.its _ _=>K ((x.1,.dead)::r)
  |true,.ext v d xs _=>K ((x.1,.hid v xs.length (aS U d.e))::r)
  |_,y=>K ((x.1,y)::r)) H
def uV(p:Nat→Bool)(H:Hs U)(H':Hs U):(Hs U→Prop)→Prop:=
 List.rec (motive:=fun _=>(Hs U→Prop)→Prop) (fun K=>K []) (fun x _ ih K=>ih fun r=>match p x.1,aB H x.1,x.2 with
  |true,some (.row v e xs t),.hid v' _ _=>bif Nat.beq v v' then K ((x.1,.row v e xs t)::r)else False
  |true,some (.cells l t),.dead=>K ((x.1,.cells l t)::r)
  |true,some (.map d l),.dead=>K ((x.1,.map d l)::r)
  |true,some (.mapr d l l' q g),.dead=>K ((x.1,.mapr d l l' q g)::r)
  |true,some (.it i g),.dead=>K ((x.1,.it i g)::r)
  |true,some (.its s q),.dead=>K ((x.1,.its s q)::r)
  |true,some (.ext v d xs op),.hid v' _ _=>bif Nat.beq v v' then K ((x.1,.ext v d xs op)::r)else False
  |_,_,y=>K ((x.1,y)::r)) H'
def Fo:List Md→Bool
 | []=>false
 |m::r=>match m with
  | .p _=>true
  |_=>Fo r
def qQ(G:bS U)(o:Oper):Bool:=match o.op with
 | .call c=>(match c.callee with
  | .value (.func f)=>(match aB G f with
   |some k=>Fo k.md
   |none=>false)
  |_=>false)
 |_=>false
def nI(T:cH U)(G:bS U)(p:Nat→Bool)(q:b8)(o:Oper)(R e:En U)(n:Nat)(H:Hs U)(K:Va U→Prop):Prop:=match o.op with
 | .call c=>(match c.callee with
  | .value (.func f)=>(match aB G f with
   |some k=>mc q R e c.args.toList fun xs=>qP (fun i=>!p i) H fun Hk=> ∃x:Va U,me R e q (tu T G k xs n Hk fun r n' H'=>r= .v x∧n'=n∧uV (fun i=>!p i) H H' fun L=>L=H)∧K x
   |none=>False)
  |_=>False)
 |_=>False
def gK(T:cH U)(G:bS U)(all:List Oper)(p:Nat→Bool)(o:Oper)(rest:KR U)(e:En U)(n:Nat)(H:Hs U)(R:En U)(S:List Nat)(K:KS U):Prop:=match o.guard with
 |none=>False
 |some (j,b)=>(match cL all j with
  |some oj=>(match oj.dst with
   |some s=>(match aB R s with
    |some (.gd q ⟨false,(_,.d .bool _):: []⟩)=>nI T G p ((s,b)::q) o R e n H fun v=>putG rest s o.dst ((s,b)::q) v e n H R S K
    |some _=>False
    |none=>(match aB e s with
     |some (.v ⟨false,(_,.d .bool _):: []⟩)=>nI T G p [(s,b)] o R e n H fun v=>putG rest s o.dst [(s,b)] v e n H R S K
     |_=>False))
   |none=>False)
  |none=>False)
def uW(R e:En U)(p:b8)(A:Prop):Prop:=
 List.rec (motive:=fun _=>Prop) True (fun x _ ih=>lm R e x.1 (fun c=>((c=x.2→False)→A)∧ih) A) p
def tw(T:cH U)(G:bS U)(p:b8)(o:Oper)(R e:En U)(n:Nat)(H:Hs U)(yes:Va U→Nat→Hs U→Prop)(no:Prop):Prop:=kN o.dst (match o.op with
 | .call c=>(match c.callee with
  | .value (.tmp s)=>f8 p R e (.tmp s) fun x=>mc p R e c.args.toList fun xs=>(match x with
   | .fn f=>me R e p (je T G f xs n H fun r n H=>(match r with
    | .v x=>yes x n H
    |_=>False))∧uW R e p no
   |_=>False)
  |_=>False)
 |_=>False)
def tx(G:bS U)(o:Oper):Bool:=match o.op with
 | .call c=>(match c.callee with
  | .value (.tmp _)=>(match aB G 999999 with
   |some _=>true
   |none=>false)
  |_=>false)
 |_=>false
def mh(T:cH U)(G:bS U)(all:List Oper)(o:Oper)(rest:KR U)(e:En U)(n:Nat)(H:Hs U)(R:En U)(S:List Nat)(K:KS U):Prop:=match o.guard with
 |none=>False
 |some (j,b)=>(match cL all j with
  |some oj=>(match oj.dst with
   |some s=>(match aB R s with
    |some (.gd q ⟨false,(_,.d .bool _):: []⟩)=>tw T G ((s,b)::q) o R e n H (fun v n H=>putG rest s o.dst ((s,b)::q) v e n H R S K) (putG rest s o.dst ((s,b)::q) ⟨false,[(1,.un)]⟩ e n H R S K)
    |some _=>False
    |none=>(match aB e s with
     |some (.v ⟨false,(_,.d .bool _):: []⟩)=>tw T G [(s,b)] o R e n H (fun v n H=>putG rest s o.dst [(s,b)] v e n H R S K) (putG rest s o.dst [(s,b)] ⟨false,[(1,.un)]⟩ e n H R S K)
     |_=>False))
   |none=>False)
  |none=>False)
class eI(U:bJ) where
 g:bS U
 kp:Int→En U→Nat→Hs U→Prop
 ua:Oper→Option (En U→En U→Nat→Hs U→(AV U→Nat→Hs U→Prop)→Prop)-- operations with rules of their own
instance(priority:=50) panNone:eI U:=⟨[],fun _ _ _ _=>False,fun _=>none⟩
def Dd [eI U](o:Oper):Bool:=match o.op with
 | .call c=>(match c.callee with
  | .value (.func f)=>(match aB (eI.g (U:=U)) f with
   |some _=>true
   |none=>false)
  |_=>false)
 |_=>false
def De [eI U](T:cH U)(G:bS U)(o:Oper)(R e:En U)(n:Nat)(H:Hs U)(K:AV U→Nat→Hs U→Prop):Prop:=match o.op with
 | .call c=>(match c.callee with
  | .value (.func f)=>(match aB (eI.g (U:=U)) f with
   |some k=>mc [] R e c.args.toList fun xs=>tu T G k xs n H fun v n H=>(match v with
    | .pan z=>eI.kp z e n H
    |v=>K v n H)
   |none=>False)
  |_=>False)
 |_=>False
def lp [eI U](T:cH U)(G:bS U)(all:List Oper)(o:Oper)(rest:KR U):KR U:=bif Dd (U:=U) o then(fun e n H R S K=>match o.guard with
  |none=>De T G o R e n H fun v n H=>jO rest o.dst v e n H R S K
  |some _=>False)else(match eI.ua (U:=U) o with
 |some f=>(fun e n H R S K=>match o.guard with
  |none=>f R e n H fun v n H=>jO rest o.dst v e n H R S K
  |some _=>False)
 |none=>fA T G all o rest)
def gL [eI U](T:cH U)(G:bS U)(all l:List Oper):KR U:=
 List.rec (motive:=fun _=>KR U) (fun e n H _ _ K=>K e n H) (fun o _ ih=>match o.guard with
  |none=>lp T G all o ih
  |some _=>bif tx G o then mh T G all o ih else bif qQ G o then gK T G all (fun _=>true) o ih else fA T G all o ih) l
def Df(T:cH U)(G:bS U)(p:Nat→Bool)(q:b8)(o:Oper)(R e:En U)(n:Nat)(H:Hs U)(yes:Va U→Nat→Hs U→Prop)(no:Prop):Prop:=
 qP (fun i=>!p i) H fun Hk=>tw T G q o R e n Hk (fun x n' Hk=>uV (fun i=>!p i) H Hk fun L=>yes x n' L) no
def qR(T:cH U)(G:bS U)(all:List Oper)(p:Nat→Bool)(o:Oper)(rest:KR U)(e:En U)(n:Nat)(H:Hs U)(R:En U)(S:List Nat)(K:KS U):Prop:=match o.guard with
 |none=>False
 |some (j,b)=>(match cL all j with
  |some oj=>(match oj.dst with
   |some s=>(match aB R s with
    |some (.gd q ⟨false,(_,.d .bool _):: []⟩)=>Df T G p ((s,b)::q) o R e n H (fun v n H=>putG rest s o.dst ((s,b)::q) v e n H R S K) (putG rest s o.dst ((s,b)::q) ⟨false,[(1,.un)]⟩ e n H R S K)
    |some _=>False
    |none=>(match aB e s with
     |some (.v ⟨false,(_,.d .bool _):: []⟩)=>Df T G p [(s,b)] o R e n H (fun v n H=>putG rest s o.dst [(s,b)] v e n H R S K) (putG rest s o.dst [(s,b)] ⟨false,[(1,.un)]⟩ e n H R S K)
     |_=>False))
   |none=>False)
  |none=>False)
def jf(T:cH U)(G:bS U)(all:List Oper)(p:Nat→Bool)(how:Bool)(o:Oper)(rest:KR U)(e:En U)(n:Nat)(H:Hs U)(R:En U)(S:List Nat)(K:KS U):Prop:=match jN o,how with
 |true,true=>False
 |false,true=>qP p H fun Hu=>fA T G all o (fun e _ _ R S K=>rest e n H R S K) e n Hu R S K
 |false,false=>fA T G all o rest e n H R S K
 |true,false=>(match o.guard with
  |none=>qP (fun i=>!p i) H fun Hk=>uT T G o R e n Hk fun v n Hk=>uV (fun i=>!p i) H Hk fun H=>jO rest o.dst v e n H R S K
  |some _=>bif tx G o then qR T G all p o rest e n H R S K else bif qQ G o then gK T G all p o rest e n H R S K else fA T G all o rest e n H R S K)
def uX(T:cH U)(G:bS U)(all:List Oper)(mk:List Nat)(last:KR U)(pl:List (Bool×Nat)):KR U:=
 List.rec (motive:=fun _=>KR U) last (fun x _ ih=>match cL all x.2 with
  |some o=>jf T G all (fun i=>fh i mk) x.1 o ih
  |none=>fun _ _ _ _ _ _=>False) pl
def jP [eI U](T:cH U)(G:bS U)(all:List Oper)(f:Option Nat):KR U:=match f with
 |none=>fun e n H _ _ K=>K e n H
 |some f=>(match cL all f with
  |some o=>lp T G all o (fun e n H _ _ K=>K e n H)
  |none=>fun _ _ _ _ _ _=>False)
def lq(ops:Array Oper)(f:Option Nat):List (Bool×Nat)→Array Bool→Bool
 | [],listed=>(match f with
  |none=>(Region.ready .any ops listed).isEmpty
  |some f=>Region.ready .any ops listed== [f]&&(Region.ready .any ops (listed.setIfInBounds f true)).isEmpty)
 |(true,i)::r,listed=>(Region.ready .any ops listed).contains i&&Region.free .any ops listed i&&(match f with|some f=>i !=f|none=>true)&&lq ops f r (listed.setIfInBounds i true)
 |(false,i)::r,listed=>Region.ready .any ops listed== [i]&&(match f with|some f=>i !=f|none=>true)&&lq ops f r (listed.setIfInBounds i true)
def uY(ops:Array Oper)(f:Option Nat)(pl:List (Bool×Nat)):Bool:=Region.noSelect ops&&(match f with|some f=>AP .any ops f|none=>true)&&lq ops f pl (Array.replicate ops.size false)&&Nat.ble (pl.length+(match f with|some _=>1|none=>0)) ops.size
inductive Ot where
 |fin|nil|look (i:Nat) (r:Ot)|turn (i:Nat) (here more:Ot)
def pI(T:cH U)(G:bS U)(all:List Oper)(p:Nat→Bool)(last:KR U)(t:Ot):KR U:=
 Ot.rec (motive:=fun _=>KR U) last (fun _ _ _ _ _ _=>True)
  (fun i _ ih=>match cL all i with
   |some o=>jf T G all p true o ih
   |none=>fun _ _ _ _ _ _=>False)
  (fun i _ _ ih ih2 e n H R S K=>(match cL all i with
   |some o=>jf T G all p false o ih
   |none=>fun _ _ _ _ _ _=>False) e n H R S K∧ih2 e n H R S K) t
def Fp(i:Nat):List Nat→Bool
 |j::_=>Nat.beq j i
 | []=>false
def fQ(ops:Array Oper)(f:Option Nat):Ot→Array Bool→Option (List Nat)→Bool
 | .fin,listed,none=>lq ops f [] listed
 | .nil,_,some L=>L.isEmpty
 | .look i r,listed,none=>(Region.ready .any ops listed).contains i&&Region.free .any ops listed i&&(match f with|some f=>i !=f|none=>true)&&fQ ops f r (listed.setIfInBounds i true) none
 | .turn i a b,listed,none=>Fp i (Region.ready .any ops listed)&&fQ ops f a (listed.setIfInBounds i true) none&&fQ ops f b listed (some (Region.ready .any ops listed).tail)
 | .turn i a b,listed,some L=>Fp i L&&fQ ops f a (listed.setIfInBounds i true) none&&fQ ops f b listed (some L.tail)
 |_,_,_=>false
def Ot.h:Ot→Nat
 | .fin=>0
 | .nil=>0
 | .look _ r=>r.h+1
 | .turn _ a b=>max (a.h+1) b.h
def uZ(ops:Array Oper)(f:Option Nat)(t:Ot):Bool:=Region.noSelect ops&&(match f with|some f=>AP .any ops f|none=>true)&&fQ ops f t (Array.replicate ops.size false) none&&Nat.ble (t.h+(match f with|some _=>1|none=>0)) ops.size
inductive EZ where
 |n|r|x (i:Nat)
abbrev KO(U:bJ):=EZ→En U→Nat→Hs U→Prop
def Fs(b:En U→Nat→Hs U→KO U→Prop)(K:KO U)(o:EZ)(e:En U)(n:Nat)(H:Hs U):Prop:=match o with
 | .n=>b e n H K
 |o=>K o e n H
def Ft(i:Nat)(K:KO U)(o:EZ)(e:En U)(n:Nat)(H:Hs U):Prop:=match o with
 | .x j=>(bif Nat.beq i j then K .n e n H else K (.x j) e n H)
 |o=>K o e n H
def Dg(a b:En U→Nat→Hs U→KO U→Prop)(e:En U)(n:Nat)(H:Hs U)(K:KO U)(v:Cx U):Prop:=match v with
 | .d .bool t=>x8 t (a e n H K) (b e n H K)
 |_=>False
def ch(φ:List (Nat×Nat))(k:Nat):Nat:=match aB φ k with
 |some i=>i
 |none=>k
def ns(H:Hs U)(i v:Nat):Bool:=match aB H i with
 |some (.row v' _ _ _)=>Nat.beq v v'
 |some (.ext v' _ _ none)=>Nat.beq v v'
 |_=>false
def qS(H:Hs U)(i:Nat):Bool:=match aB H i with
 |some (.map _ _)=>true
 |some (.mapr _ _ _ _ _)=>true
 |_=>false
def qT(H:Hs U)(i:Nat):Bool:=match aB H i with
 |some (.cells _ _)=>true
 |some (.it _ _)=>true
 |some (.its _ _)=>true
 |_=>false
def Is(s:bj)(t:TT U.ty s)(s':bj)(t':TT U.ty s')(A:Prop):Prop:=match ed U.ty (fun x=>x) s s' t with
 |some u=>u=t'∧A
 |none=>False
def Dh(a:bj)(g:TT U.ty a→Bool)(a':bj)(g':TT U.ty a'→Bool)(A:Prop):Prop:=match ed U.ty (fun x=>x→Bool) a a' g with
 |some u=>u=g'∧A
 |none=>False
def Di(a b:bj)(g:TT U.ty a→TT U.ty b→Int)(a' b':bj)(g':TT U.ty a'→TT U.ty b'→Int)(A:Prop):Prop:=match ed U.ty (fun x=>x→TT U.ty b→Int) a a' g with
 |some u=>(match ed U.ty (fun y=>TT U.ty a'→y→Int) b b' u with
  |some u=>u=g'∧A
  |none=>False)
 |none=>False
def Fu(φ:List (Nat×Nat))(H':Hs U):List Nat→List Nat→Bool
 | [],[]=>true
 |k::ks,j::js=>Nat.beq (ch φ k) j&&qT H' k&&Fu φ H' ks js
 |_,_=>false
def Dj(φ:List (Nat×Nat))(n:Nat)(H H':Hs U)(x y:Cx U)(A:Prop):Prop:=match x,y with
 | .nils,.own k w=>bif Nat.ble n (ch φ k)&&ns H' k w then A else False
 | .own i v,.own k w=>bif Nat.beq (ch φ k) i&&ns H i v&&ns H' k w then A else False
 | .own i v,.d s t'=>(match aB H i with
  |some (.frz v' e xs)=>bif Nat.beq v v' then Is (.sl e) xs s t' A else False
  |_=>False)
 | .ptr i o,.ptr k p=>bif Nat.beq (ch φ k) i&&Nat.beq o p&&qT H' k then A else False
 | .d s t,.d s' t'=>Is s t s' t' A
 | .nilp,.nilp=>A
 | .nils,.nils=>A
 | .nils,.d (.sl e) xs=>([]:List (TT U.ty e))=xs∧A
 | .nilf,.nilf=>A
 | .nilm,.nilm=>A
 | .mp i,.mp k=>bif Nat.beq (ch φ k) i&&qS H' k then A else False
 | .fn f,.fn g=>bif Nat.beq f g then A else False
 | .clo f js,.clo g ks=>bif Nat.beq f g&&Fu φ H' ks js then A else False
 | .f1 a g,.f1 a' g'=>Dh a g a' g' A
 | .f2 a b g,.f2 a' b' g'=>Di a b g a' b' g' A
 |_,_=>False
def u3(φ:List (Nat×Nat))(n:Nat)(H H':Hs U)(l:List (bH U))(l':List (bH U))(A:Prop):Prop:=match l' with
 | []=>(match l with
  | []=>A
  |_=>False)
 |(m,.d (.st i) t)::l'=>tK 40 l m fun l1=>cQ 20 (.st i) l1 fun u=>u=t∧fO 40 l m fun l2=>u3 φ n H H' l2 l' A
 |(m,.d (.arr k e) t)::l'=>tK 40 l m fun l1=>cQ 20 (.arr k e) l1 fun u=>u=t∧fO 40 l m fun l2=>u3 φ n H H' l2 l' A
 |(m,y)::l'=>(match l with
  |(k,x)::l=>bif Nat.beq k m then Dj φ n H H' x y (u3 φ n H H' l l' A)else False
  | []=>False)
termination_by structural l'
def Iu(φ:List (Nat×Nat))(n:Nat)(e:En U)(H H':Hs U):En U→Prop→Prop
 | [],A=>A
 |(k,.v y)::r,A=>(match aB e k with
  |some (.v x)=>bif x.ag==y.ag then u3 φ n H H' x.l y.l (Iu φ n e H H' r A)else False
  |_=>False)
 |_,_=>False
def Iv(φ:List (Nat×Nat))(b n:Nat)(H H':Hs U)(k:Nat)(x y:aN U)(A:Prop):Prop:=match x,y with
 |_,.dead=>A
 | .cells l t,.cells l' t'=>bif Nat.beq t t' then u3 φ n H H' l l' A else False
 | .row v e xs t,.row v' e' xs' t'=>bif Nat.beq t t'&&(Nat.ble b k||Nat.beq v v')then(match ed U.ty List e e' xs with
  |some u=>u=xs'∧A
  |none=>False)else False
 | .map d l,.map d' l'=>(⟨d,l⟩:(d:KD U)×List (TT U.ty d.k×TT U.ty d.v))=⟨d',l'⟩∧A
 | .mapr d l r q g,.mapr d' l' r' q' g'=>(⟨d,(l,r,q)⟩:(d:KD U)×(List (TT U.ty d.k×TT U.ty d.v)×List (TT U.ty d.k×TT U.ty d.v)×List (TT U.ty d.k×TT U.ty d.v)))=⟨d',(l',r',q')⟩∧g=g'∧A
 | .it i g,.it k' g'=>bif Nat.beq (ch φ k') i&&qS H' k' then g=g'∧A else False
 | .its s q,.its s' q'=>s=s'∧q=q'∧A
 | .ext v d xs none,.ext v' d' xs' none=>bif Nat.ble b k||Nat.beq v v' then(⟨d,xs⟩:(d:XD U)×List (TT U.ty d.e))=⟨d',xs'⟩∧A else False
 |_,_=>False
def LB(b n:Nat)(φ:List (Nat×Nat))(k:Nat)(y:aN U)(A:Prop):Prop:=match y with
 | .row _ e xs _=>bif Nat.ble n (ch φ k)&&Nat.ble b k&&Nat.blt 0 (aS U e)then xs= []∧A else False
 | .ext _ d xs none=>bif Nat.ble n (ch φ k)&&Nat.ble b k then xs= []∧A else False
 |_=>False
def BT(φ:List (Nat×Nat))(b n:Nat)(H H':Hs U):Hs U→Prop→Prop
 | [],A=>A
 |(k,y)::r,A=>(match aB H (ch φ k)with
  |some x=>Iv φ b n H H' k x y (BT φ b n H H' r A)
  |none=>LB b n φ k y (BT φ b n H H' r A))
def qU(p:Nat→Bool):List Nat→Bool
 | []=>true
 |i::r=>bif p i then qU p r else false
def Fv(b N:Nat)(φ:List (Nat×Nat))(n:Nat)(e:En U)(H:Hs U)(e':En U)(H':Hs U):Prop:=
 bif Nat.ble b N&&lJ (H'.map (·.1))&&lJ (H'.map fun p=>ch φ p.1)&&qU (fun i=>Nat.blt i N) (H'.map (·.1))&&qU (fun i=>Nat.ble b i) (φ.map (·.1))then BT φ b n H H' H' (Iu φ n e H H' e' True)else False
def nJ(φ:List (Nat×Nat))(H':Hs U):Hs U→List (bH U)
 | []=> []
 |(i,.row v _ _ _)::r=>bif fh i (H'.map fun p=>ch φ p.1)then nJ φ H' r else(1,.own i v)::nJ φ H' r
 |(i,.ext v _ _ none)::r=>bif fh i (H'.map fun p=>ch φ p.1)then nJ φ H' r else(1,.own i v)::nJ φ H' r
 |_::r=>nJ φ H' r
def LC(b N:Nat)(φ:List (Nat×Nat))(n:Nat)(e:En U)(H:Hs U)(e':En U)(H':Hs U):Prop:=i6 (nJ φ H' H) H fun H _=>Fv b N φ n e H e' H'
def u4 [eI U](T:cH U)(G:bS U)(b:Nat)(ops:Array Oper)(e:En U)(n:Nat)(H:Hs U)(K:KS U):Prop:=
 (∃(pl:List (Bool×Nat)) (f:Option Nat) (mk:List Nat),uY ops f pl=true∧uX T G ops.toList mk (jP T G ops.toList f) pl e n H [] [] K)∨
 (∃(t:Ot) (f:Option Nat) (mk:List Nat) (N:Nat) (E:En U) (M:Hs U) (A:Prop),uZ ops f t=true∧pI T G ops.toList (fun i=>fh i mk||Nat.ble n i) (jP T G ops.toList f) t e n H [] [] (fun e' n' H'=>A∧ ∃φ,Fv b N φ n' e' H' E M)∧(A→K E N M))
def BU(b:Nat)(a:En U→Nat→Hs U→KO U→Prop)(e:En U)(n:Nat)(H:Hs U)(K:KO U):Prop:=
 ∃(σ:Type) (N:Nat) (E:σ→En U) (M:σ→Hs U) (I:σ→Prop) (μ:σ→Nat),(∃φ s,I s∧LC b N φ n e H (E s) (M s))∧
  ∀s,I s→a (E s) N (M s) fun o e' n' H'=>match o with
   | .n=> ∃φ s',μ s'<μ s∧I s'∧LC b N φ n' e' H' (E s') (M s')
   |o=>K o e' n' H'
def aw [eI U](T:cH U)(G:bS U)(b:Nat)(c:Code):En U→Nat→Hs U→KO U→Prop:=
 Code.rec (motive:=fun _=>En U→Nat→Hs U→KO U→Prop)
  (fun e n H K=>K .n e n H)
  (fun _ ops d e n H K=>bif d then u4 T G b ops e n H (K .n)else gL T G ops.toList ops.toList e n H [] [] (K .n))
  (fun _ _ a b e n H K=>a e n H (Fs b K))
  (fun c _ _ a b e n H K=>f8 [] [] e c (Dg a b e n H K))
  (fun i _ a e n H K=>a e n H (Ft i K))
  (fun _ a e n H K=>BU b a e n H K)
  (fun _ _ _ _ _ _ _ _ _ _=>False)
  (fun i e n H K=>K (.x i) e n H)
  (fun _ _ _ _ _ _=>False)
  (fun _ e n H K=>K .n e n H)
  (fun _ _ _ _ _=>False)
  (fun e n H K=>K .r e n H)
  (fun _ _ _ _ _=>False)
  c
def u5(T:cH U)(l:List ResultVar)(e:En U)(H:Hs U):(List (Va U)→Prop)→Prop:=
 List.rec (motive:=fun _=>(List (Va U)→Prop)→Prop) (fun K=>K []) (fun r _ ih K=>match r with
  | .tmp t=>jH [] [] e (.tmp t) fun v=>ih fun l=>K (v::l)
  | .cell p t=>f8 [] [] e (.tmp p) fun c=>pz T t H c fun v=>ih fun l=>K (v::l)) l
def Dk(l:List (Va U))(K:AV U→Prop):Prop:=match l with
 |x:: []=>K (.v x)
 |l=>K (.tup l)
def tz:Nat→Nat→List Nat→Bool
 |_,0,_=>true
 |j,k+1,a::r=>bif Nat.beq a j then tz (j+1) k r else false
 |_,_+1,[]=>false
def Fx(T:cH U)(fn:Func)(md:List Md)(em:List (Nat×List (Nat×Option bj)))(b:Nat)(K:AV U→List (aN U)→Prop)(o:EZ)(e:En U)(n:Nat)(H:Hs U):Prop:=match o with
 | .x _=>False
 |_=>bif Nat.ble fn.results.toList.length 3 then u5 T fn.results.toList e H fun l=>EW md l H fun H=>Ir em H fun H=>BR md l H fun H l=>yu (tp H 30 0 (tq H l (List.range b))) fun L=>bif lJ L&&tz 0 b L then pH false H L l fun l=>pG false H L L fun es=>Dk l fun r=>K r es else False else False
def Dl(T:cH U)(G:bS U)(fn:Func)(md:List Md)(em:List (Nat×List (Nat×Option bj)))(e:En U)(b:Nat)(H:Hs U)(K:AV U→List (aN U)→Prop):Prop:=match fn.body with
 |some c=>aw T G b c e b H (Fx T fn md em b K)
 |none=>False
end
end Go.Proofs.YtfgofabojepcmaaGreatDoor.V
end

section
namespace Go.Proofs.YtfgofabojepcmaaGreatDoor.V
open Go.RowKit
def gB:List Nat:= [0,1,4,5,6]
structure Gv(w:World):Prop where
 et:w.cell? ⟨0,0,none⟩=some (.iface 349 (.agg #[.pointer (some ⟨9,64,none⟩)]))
 mx: ∃mx,w.cell? ⟨1,0,none⟩=some (.int .i64 mx)
 e4: ∃t v,w.cell? ⟨4,0,none⟩=some (.iface t v)
 e5: ∃t v,w.cell? ⟨5,0,none⟩=some (.iface t v)
 p10: ∃t o,w.heap[6]? =some (.cells (Lib.pow10Tab.map (Value.int .u64)).toArray t o)
theorem j6{w:World}{g:Nat}{v:Value}(h:w.cell? ⟨g,0,none⟩=some v):g<w.heap.size:=by
 unfold World.cell? at h;split at h
 ·rename_i c t x hb;exact bR hb
 ·cases h
theorem Gv.fr{w w':World}{O:List Nat}(h:Gv w)(hf:Fr O w w')(hO: ∀o∈O,o∉gB):Gv w':=by
 have k: ∀g v,g∈gB→w.cell? ⟨g,0,none⟩=some v→w'.cell? ⟨g,0,none⟩=some v:=fun g v hg hc=>by
  rw[hf.cell (p:=⟨g,0,none⟩) (j6 hc) (fun h0=>hO g h0 hg)];exact hc
 refine⟨k _ _ (by simp[gB]) h.et,?_,?_,?_,?_⟩
 ·obtain⟨mx,h⟩:=h.mx;exact⟨mx,k _ _ (by simp[gB]) h⟩
 ·obtain⟨t,v,h⟩:=h.e4;exact⟨t,v,k _ _ (by simp[gB]) h⟩
 ·obtain⟨t,v,h⟩:=h.e5;exact⟨t,v,k _ _ (by simp[gB]) h⟩
 ·obtain⟨t,o,h⟩:=h.p10;exact⟨t,o,by rw[hf.block 6 (bR h) (fun h0=>hO 6 h0 (by simp[gB]))];exact h⟩
theorem Gv.lt{w:World}(h:Gv w): ∀g∈gB,g<w.heap.size:=fun g hg=>by
 simp only[gB,List.mem_cons,List.not_mem_nil,or_false]at hg;rcases hg with rfl|rfl|rfl|rfl|rfl
 ·exact j6 h.et
 ·obtain⟨_,h⟩:=h.mx;exact j6 h
 ·obtain⟨_,_,h⟩:=h.e4;exact j6 h
 ·obtain⟨_,_,h⟩:=h.e5;exact j6 h
 ·obtain⟨_,_,h⟩:=h.p10;exact bR h
end Go.Proofs.YtfgofabojepcmaaGreatDoor.V
end

section
set_option linter.unusedVariables false
set_option linter.unusedSimpArgs false
namespace Go.Proofs.YtfgofabojepcmaaGreatDoor.V
open Go.RowKit
class al where
 xf:List Nat
 pr:Program
section
variable {U:bJ} {Y:List Nat} {S:World→Prop}
def C0(U:bJ)(Y:List Nat)(S:World→Prop):(s:bj)→TT U.ty s→List Value→Prop
 | .int k=>fun p vs=>vs= [.int k p]∧cZ k p
 | .bool=>fun b vs=>vs= [.bool b]
 | .str=>fun s vs=>vs= [sv s]∧List.length (α:=UInt8) s≤9223372036854775807
 | .st i=>fun t vs=>ec U Y S (U.rd i).fs ((U.rd i).to t) vs∧vs.length=(U.rd i).sz
 | .arr n e=>fun xs vs=>ba U Y S e xs vs∧List.length (α:=TT U.ty e) xs=n
 | .err=>fun x vs=>match x with
  |dr.nil=>vs= [.nilIface]
  |dr.num e=>vs= [.iface U.eN (.int .i64 e)]∧cZ .i64 e
  |dr.flt a e=> ∃g v,vs= [.iface U.eF (.pointer (some ⟨g,0,none⟩))]∧cZ .i64 a∧aG U Y S .err e [v]∧nk Y S (some ⟨g,0,none⟩) [.int .i64 a,v]
  |dr.oth=> ∃t v,vs= [.iface t v]∧t≠U.eN∧t≠U.eF
 | .sl e=>fun xs vs=> ∃A c cs,vs= [.slice A (List.length (α:=TT U.ty e) xs) c]∧ba U Y S e xs cs∧nk Y S A cs∧List.length (α:=TT U.ty e) xs≤c∧c≤maxLen
theorem aG.inv{s:bj}{t:TT U.ty s}{vs:List Value}(h:aG U Y S s t vs):C0 U Y S s t vs:=by
 cases h with
 |int k p h=>exact⟨rfl,h⟩
 |bool b=>exact rfl
 |str s h=>exact⟨rfl,h⟩
 |st i t vs h hl=>exact⟨h,hl⟩
 |arr n e xs vs h hn=>exact⟨h,hn⟩
 |sl e xs A c cs h hr hc hm=>exact⟨A,c,cs,rfl,h,hr,hc,hm⟩
 |enil=>exact rfl
 |enum e h=>exact⟨rfl,h⟩
 |eflt a e g v ha h hr=>exact⟨g,v,rfl,ha,h,hr⟩
 |eoth t v h1 h2=>exact⟨t,v,rfl,h1,h2⟩
def yt(U:bJ)(Y:List Nat)(S:World→Prop):(fs:List (Nat×bj))→qJ U.ty fs→List Value→Prop
 | [],_,vs=>vs= []
 |(k,s)::r,t,vs=> ∃v1 v2,vs=v1++v2∧aG U Y S s t.1 v1∧v1.length=k∧ec U Y S r t.2 v2
theorem ec.inv{fs:List (Nat×bj)}{t:qJ U.ty fs}{vs:List Value}(h:ec U Y S fs t vs):yt U Y S fs t vs:=by
 cases h with
 |nil=>exact rfl
 |cons k s r a b vs us h hl hr=>exact⟨vs,us,rfl,h,hl,hr⟩
theorem ba.nil_inv{e:bj}{vs:List Value}(h:ba U Y S e [] vs):vs= []:=by cases h;rfl
theorem ba.cons_inv{e:bj}{x:TT U.ty e}{xs:List (TT U.ty e)}{vs:List Value}(h:ba U Y S e (x::xs) vs): ∃v1 v2,vs=v1++v2∧aG U Y S e x v1∧v1.length=aS U e∧ba U Y S e xs v2:=by
 cases h with
 |cons e x xs vs us h hl hr=>exact⟨vs,us,rfl,h,hl,hr⟩
theorem ba.length{e:bj}: ∀{xs:List (TT U.ty e)} {vs:List Value},ba U Y S e xs vs→vs.length=xs.length*aS U e
 | [],vs,h=>by rw[h.nil_inv];simp
 |x::xs,vs,h=>by
  obtain⟨v1,v2,rfl,_,hl,hr⟩:=h.cons_inv;rw[List.length_append,hl,ba.length hr,List.length_cons,Nat.add_mul,Nat.one_mul,Nat.add_comm]
theorem aG.length: ∀{s:bj} {t:TT U.ty s} {vs:List Value},aG U Y S s t vs→vs.length=aS U s
 | .int k,t,vs,h=>by rw[h.inv.1];rfl
 | .bool,t,vs,h=>by have e:=h.inv;rw[show vs=_ from e];rfl
 | .str,t,vs,h=>by rw[h.inv.1];rfl
 | .st i,t,vs,h=>h.inv.2
 | .arr n e,t,vs,h=>by
  obtain⟨h1,h2⟩:=h.inv;have:=ba.length h1;rw[this,h2];rfl
 | .sl e,t,vs,h=>by obtain⟨A,c,cs,e,_⟩:=h.inv;rw[e];rfl
 | .err,t,vs,h=>by cases h<;>rfl
theorem ba.app{e:bj}: ∀{xs ys:List (TT U.ty e)} {vs us:List Value},ba U Y S e xs vs→ba U Y S e ys us→ba U Y S e (xs++ys) (vs++us)
 | [],ys,vs,us,h,h'=>by rw[h.nil_inv];exact h'
 |x::xs,ys,vs,us,h,h'=>by
  obtain⟨v1,v2,rfl,h1,hl,hr⟩:=h.cons_inv;rw[List.append_assoc];exact .cons e x (xs++ys) v1 (v2++us) h1 hl (ba.app hr h')
theorem ba.at{e:bj}: ∀{xs:List (TT U.ty e)} {vs:List Value},ba U Y S e xs vs→ ∀(q:Nat) (x:TT U.ty e),xs[q]? =some x→aG U Y S e x ((vs.drop (q*aS U e)).take (aS U e))
 | [],vs,h,q,x,hq=>by simp at hq
 |y::xs,vs,h,q,x,hq=>by
  obtain⟨v1,v2,rfl,h1,hl,hr⟩:=h.cons_inv;cases q with
  |zero=>
   simp only[List.getElem?_cons_zero,Option.some.injEq]at hq;subst hq;rw[Nat.zero_mul,List.drop_zero,List.take_append_of_le_length (by omega),List.take_of_length_le (by omega)];exact h1
  |succ q=>
   simp only[List.getElem?_cons_succ]at hq;have:=ba.at hr q x hq;rw[show(q+1)*aS U e=v1.length+q*aS U e by rw[Nat.add_mul,Nat.one_mul,hl,Nat.add_comm],List.drop_append,List.drop_of_length_le (by omega),List.nil_append,Nat.add_sub_cancel_left];exact this
theorem ba.set{e:bj}: ∀{xs:List (TT U.ty e)} {vs:List Value},ba U Y S e xs vs→ ∀(q:Nat) (x:TT U.ty e) (us:List Value),aG U Y S e x us→q<xs.length→ba U Y S e (xs.set q x) (vs.take (q*aS U e)++us++vs.drop (q*aS U e+us.length))
 | [],vs,h,q,x,us,hx,hq=>by simp at hq
 |y::xs,vs,h,q,x,us,hx,hq=>by
  obtain⟨v1,v2,rfl,h1,hl,hr⟩:=h.cons_inv;have hul:=hx.length;cases q with
  |zero=>
   rw[Nat.zero_mul,List.take_zero,List.nil_append,Nat.zero_add,List.drop_append_of_le_length (by omega),List.drop_of_length_le (by omega),List.nil_append];exact .cons e x xs us v2 hx hul hr
  |succ q=>
   have ih:=ba.set hr q x us hx (by simpa using hq);have e1:(q+1)*aS U e=v1.length+q*aS U e:=by rw[Nat.add_mul,Nat.one_mul,hl,Nat.add_comm]
   rw[e1,List.take_length_add_append,Nat.add_assoc,List.drop_append,List.drop_of_length_le (by omega:v1.length≤v1.length+(q*aS U e+us.length)),List.nil_append,Nat.add_sub_cancel_left,List.append_assoc,List.append_assoc];refine .cons e y _ v1 _ h1 hl ?_;rw[←List.append_assoc];exact ih
def d9(ag:Bool)(v:Value)(vs:List Value):Prop:=match ag with
 |true=>v= .agg vs.toArray
 |false=>vs= [v]
def jJ [al](Y:List Nat)(w w2:World):Prop:= ∃O,Fr O w w2∧ ∀o∈O,o∉al.xf∧(o∈Y∨w.heap.size≤o)
def Fg(u:Value):Prop:= ∃(f:FuncId) (ca:List Value),u= .func (.func f) #[] ca.toArray
def x9 [al](U:bJ)(Y:List Nat)(S:World→Prop)(u:Value)(a:bj)(g:TT U.ty a→Bool):Prop:=Fg u∧ ∀w,S w→ ∀w2,jJ Y w w2→ ∀t vs v,aG U gB (· =w2) a t vs→d9 (e8 a) v vs→uI a t→nE al.pr u [v] w2 fun r w3=>r= .bool (g t)∧Fr [] w2 w3
def ya [al](U:bJ)(Y:List Nat)(S:World→Prop)(u:Value)(a b:bj)(g:TT U.ty a→TT U.ty b→Int):Prop:=Fg u∧ ∀w,S w→ ∀w2,jJ Y w w2→ ∀t vs v t' vs' v',aG U gB (· =w2) a t vs→d9 (e8 a) v vs→aG U gB (· =w2) b t' vs'→d9 (e8 b) v' vs'→nE al.pr u [v,v'] w2 fun r w3=>r= .int .i64 (g t t')∧cZ .i64 (g t t')∧Fr [] w2 w3
def Mv [al](Y:List Nat)(S:World→Prop)(Y':List Nat)(S':World→Prop):Prop:= ∀w',S' w'→ ∃w O,S w∧Fr O w w'∧(∀y∈O,y∈Y∧y∉al.xf)∧ ∀y∈Y',y∈Y∨w.heap.size≤y
theorem Mv.sub [al]{Y':List Nat}(h: ∀y∈Y',y∈Y):Mv Y S Y' S:=fun w' h'=>⟨w',[],h',Fr.refl _ _,fun _ hy=>(by cases hy),fun y hy=> .inl (h y hy)⟩
theorem Mv.fr [al]{Y':List Nat}{S':World→Prop}(m:Mv Y S Y' S'): ∀w',S' w'→ ∃w,S w∧Fr Y w w'∧ ∀y∈Y',y∈Y∨w.heap.size≤y:=fun w' h'=>by
 obtain⟨w,O,h1,h2,h3,h4⟩:=m w' h';exact⟨w,h1,h2.mono fun y hy=>(h3 y hy).1,h4⟩
theorem Mv.later [al]{Y':List Nat}{S':World→Prop}(m:Mv Y S Y' S'){w' w2:World}(h':S' w')(h:jJ Y' w' w2): ∃w,S w∧jJ Y w w2:=by
 obtain⟨w,O,h1,h2,h3,h4⟩:=m w' h';obtain⟨O',h5,h6⟩:=h;refine⟨w,h1,O++O',(h2.mono fun x hx=>List.mem_append_left _ hx).step h5 (fun y hy=> .inl (List.mem_append_right _ hy)),fun o ho=>?_⟩;rcases List.mem_append.1 ho with ho|ho
 ·exact⟨(h3 o ho).2,.inl (h3 o ho).1⟩
 ·refine⟨(h6 o ho).1,?_⟩;rcases(h6 o ho).2 with h|h
  ·exact h4 o h
  ·exact .inr (Nat.le_trans h2.size h)
theorem x9.mv [al]{Y':List Nat}{S':World→Prop}(m:Mv Y S Y' S'){u:Value}{a:bj}{g:TT U.ty a→Bool}(h:x9 U Y S u a g):x9 U Y' S' u a g:=⟨h.1,fun w' hw' w2 h2=>by
 obtain⟨w,h3,h4⟩:=m.later hw' h2;exact h.2 w h3 w2 h4⟩
theorem ya.mv [al]{Y':List Nat}{S':World→Prop}(m:Mv Y S Y' S'){u:Value}{a b:bj}{g:TT U.ty a→TT U.ty b→Int}(h:ya U Y S u a b g):ya U Y' S' u a b g:=⟨h.1,fun w' hw' w2 h2=>by
 obtain⟨w,h3,h4⟩:=m.later hw' h2;exact h.2 w h3 w2 h4⟩
theorem nk.mv [al]{Y':List Nat}{S':World→Prop}{A:Option Addr}{cs:List Value}(h:nk Y S A cs)(m:Mv Y S Y' S'):nk Y' S' A cs:=fun w' hw'=>by
 obtain⟨w,hw,hf,hY⟩:=m.fr w' hw';exact(h w hw).stable hf hY
end
mutual
theorem aG.mv [al]{U:bJ}{Y Y':List Nat}{S S':World→Prop}(m:Mv Y S Y' S'){s:bj}{t:TT U.ty s}{vs:List Value}:aG U Y S s t vs→aG U Y' S' s t vs
 | .int k p h=> .int k p h
 | .bool b=> .bool b
 | .str s h=> .str s h
 | .st i t vs h hl=> .st i t vs (ec.mv m h) hl
 | .arr n e xs vs h hn=> .arr n e xs vs (ba.mv m h) hn
 | .sl e xs A c cs h hr hc hm=> .sl e xs A c cs (ba.mv m h) (hr.mv m) hc hm
 | .enil=> .enil
 | .enum e h=> .enum e h
 | .eflt a e g v ha h hr=> .eflt a e g v ha (aG.mv m h) (hr.mv m)
 | .eoth t v h1 h2=> .eoth t v h1 h2
theorem ec.mv [al]{U:bJ}{Y Y':List Nat}{S S':World→Prop}(m:Mv Y S Y' S'){fs:List (Nat×bj)}{t:qJ U.ty fs}{vs:List Value}:ec U Y S fs t vs→ec U Y' S' fs t vs
 | .nil=> .nil
 | .cons k s r a b vs us h hl hr=> .cons k s r a b vs us (aG.mv m h) hl (ec.mv m hr)
theorem ba.mv [al]{U:bJ}{Y Y':List Nat}{S S':World→Prop}(m:Mv Y S Y' S'){e:bj}{xs:List (TT U.ty e)}{vs:List Value}:ba U Y S e xs vs→ba U Y' S' e xs vs
 | .nil e=> .nil e
 | .cons e x xs vs us h hl hr=> .cons e x xs vs us (aG.mv m h) hl (ba.mv m hr)
end
end Go.Proofs.YtfgofabojepcmaaGreatDoor.V
end

/- Package variables that the program only reads: what they hold. -/
import Derived.Test.YtiliglahlfkikaaGreatDoorYa3
import Derived.Test.YtiliglahlfkikaaGreatDoorYa0
section
set_option linter.unusedVariables false
namespace Go.Proofs.YtiliglahlfkikaaGreatDoor.V
open Go.RowKit
inductive Md where
 |n|d (s:aY)|f1 (a:aY)|f2 (a b:aY)
 |p (fs:List (Nat×Option aY))-- a pointer to our own cells,of which some become data
structure aZ(U:bH) where
 md:List Md
 run:List (Va U)→List (aJ U)→(AV U→List (aJ U)→Prop)→Prop
abbrev gD(U:bH):=List (Nat×aZ U)
section
variable {U:bH}
def DH(v:Va U)(K:Cx U→Prop):Prop:=match v with
 |⟨false,(_,c):: []⟩=>K c
 |_=>False
def ic(p:cL)(R e:En U)(o:Operand)(K:Cx U→Prop):Prop:=ka p R e o fun v=>DH v K
def fV(H:Hs U)(i:Nat)(x:aJ U):(Hs U→Prop)→Prop:=
 List.rec (motive:=fun _=>(Hs U→Prop)→Prop) (fun _=>False) (fun y r ih K=>bif Nat.beq y.1 i then K ((i,x)::r)else ih fun r'=>K (y::r')) H
def si(H:Hs U)(x:Cx U)(K:(e:aY)→List (TT U.ty e)→Prop):Prop:=match x with
 | .d (.sl e) xs=>bif Nat.blt 0 (aI U e)then K e xs else False
 | .own i v=>(match aB H i with
  |some (.row v' e xs _)=>bif Nat.beq v v' then K e xs else False
  |some (.frz v' e xs)=>bif Nat.beq v v' then K e xs else False
  |_=>False)
 |_=>False
def qv(H:Hs U)(x:bO U)(K:Hs U→bO U→Prop):Prop:=match x with
 |(1,.own i v)=>(match aB H i with
  |some (.row v' e xs _)=>bif Nat.beq v v' then fV H i (.frz v e xs) fun H=>K H (1,.d (.sl e) xs)else False
  |some (.frz v' e xs)=>bif Nat.beq v v' then K H (1,.d (.sl e) xs)else False
  |_=>False)
 |x=>K H x
def jQ(l:List (bO U)):Hs U→(Hs U→List (bO U)→Prop)→Prop:=
 List.rec (motive:=fun _=>Hs U→(Hs U→List (bO U)→Prop)→Prop) (fun H K=>K H []) (fun x _ ih H K=>qv H x fun H y=>ih H fun H r=>K H (y::r)) l
def wl(s:aY)(H:Hs U)(x:Va U)(K:Hs U→TT U.ty s→Prop):Prop:=jQ x.l H fun H l=>cJ 20 s l fun t=>K H t
def Cy(T:cZ U)(t:Nat)(l:List (bO U))(K:Va U→Prop):Prop:=match aB T t with
 |some ti=>(match sd ti.kd with
  |false=>(match l with
   |(_,.d (.st i) x):: []=>j8 (.d (.st i) x) fun l=>K ⟨false,l⟩
   |l=>K ⟨false,l⟩)
  |true=>K ⟨true,l⟩)
 |none=>False
def qw(T:cZ U)(t:Nat)(H:Hs U)(x:Cx U)(K:Va U→Prop):Prop:=match aB T t with
 |some ti=>(match x with
  | .ptr i off=>(match aB H i with
   |some (.cells l _)=>j9 l off ti.sz fun l=>Cy T t l K
   |_=>False)
  | .pel i v q off=>(match aB H i with
   |some (.row v' e xs _)=>bif Nat.beq v v' then v7 U e xs q fun x=>j9 [(aI U e,.d e x)] off ti.sz fun l=>Cy T t l K else False
   |some (.frz v' e xs)=>bif Nat.beq v v' then v7 U e xs q fun x=>j9 [(aI U e,.d e x)] off ti.sz fun l=>Cy T t l K else False
   |_=>False)
  | .pax i off n e q o=>(match aB H i with
   |some (.cells l _)=>j9 l off (n*aI U e) fun l=>cJ 20 (.arr n e) l fun xs=>v7 U e xs q fun x=>j9 [(aI U e,.d e x)] o ti.sz fun l=>Cy T t l K
   |_=>False)
  | .pd s x=>bif Nat.beq ti.sz (aI U s)then Cy T t [(aI U s,.d s x)] K else False
  |_=>False)
 |none=>False
def sj(T:cZ U)(t:Nat)(H:Hs U)(x:Cx U)(y:Va U)(K:Hs U→Prop):Prop:=match aB T t with
 |some ti=>(match x with
  | .ptr i off=>(match aB H i with
   |some (.cells l u)=>bif Nat.beq (iT y.l) ti.sz then o6 40 l off ti.sz y.l fun l=>fV H i (.cells l u) K else False
   |_=>False)
  | .pel i v q off=>jQ y.l H fun H yl=>(match aB H i with
   |some (.row v' e xs u)=>bif Nat.beq v v'&&Nat.beq (iT yl) ti.sz then v7 U e xs q fun x=>o6 40 [(aI U e,.d e x)] off ti.sz yl fun l=>cJ 20 e l fun z=>fV H i (.row v e (xs.set q.toNat z) u) K else False
   |_=>False)
  | .pax i off n e q o=>jQ y.l H fun H yl=>(match aB H i with
   |some (.cells l u)=>bif Nat.beq (iT yl) ti.sz then j9 l off (n*aI U e) fun la=>cJ 20 (.arr n e) la fun xs=>v7 U e xs q fun x=>o6 40 [(aI U e,.d e x)] o ti.sz yl fun l'=>cJ 20 e l' fun z=>o6 40 l off (n*aI U e) [(n*aI U e,.d (.arr n e) (List.set (α:=TT U.ty e) xs q.toNat z))] fun l=>fV H i (.cells l u) K else False
   |_=>False)
  |_=>False)
 |none=>False
def nY(H:Hs U)(i v:Nat):Bool:=match aB H i with
 |some (.row v' _ _ _)=>Nat.beq v v'
 |some (.frz v' _ _)=>Nat.beq v v'
 |_=>false
def DI(T:cZ U)(t f:Nat)(H:Hs U)(x:Cx U)(K:Cx U→Prop):Prop:=match aB T t with
 |some ti=>(match df ti.fs f with
  |some (off,ft)=>(match x with
   | .ptr i o=>K (.ptr i (o+off))
   | .pel i v q o=>bif nY H i v then K (.pel i v q (o+off))else False
   | .pax i o n e q o'=>K (.pax i o n e q (o'+off))
   | .pd s y=>(match aB T ft with
    |some fi=>j9 [(aI U s,.d s y)] off fi.sz fun l=>(match l with
     |(_,.d s' y'):: []=>bif Nat.beq ti.sz (aI U s)then K (.pd s' y')else False
     |_=>False)
    |none=>False)
   |_=>False)
  |none=>False)
 |none=>False
def DJ(T:cZ U)(t f:Nat)(l:List (bO U))(K:Va U→Prop):Prop:=match aB T t with
 |some ti=>(match df ti.fs f with
  |some (off,ft)=>(match aB T ft with
   |some fi=>j9 l off fi.sz fun l=>Cy T ft l K
   |none=>False)
  |none=>False)
 |none=>False
def zz(T:cZ U)(p:cL)(R e:En U)(fs:List (Nat×Nat))(ps:List (Nat×Operand)):List (bO U)→(List (bO U)→Prop)→Prop:=
 List.rec (motive:=fun _=>List (bO U)→(List (bO U)→Prop)→Prop) (fun l K=>K l) (fun x _ ih l K=>match df fs x.1 with
  |some (off,ft)=>(match aB T ft with
   |some fi=>ka p R e x.2 fun y=>bif Nat.beq (iT y.l) fi.sz then o6 40 l off fi.sz y.l fun l=>ih l K else False
   |none=>False)
  |none=>False) ps
def F5(m el:Nat)(k:Nat):Nat→List (Nat×Nat):=
 Nat.rec (motive:=fun _=>Nat→List (Nat×Nat)) (fun _=> []) (fun _ ih off=>(off,el)::ih (off+m)) k
def zA(p:cL)(R e:En U)(s:aY)(k:Nat)(ps:List (Nat×Operand)):Nat→Hs U→(Hs U→List (TT U.ty s)→Prop)→Prop:=
 List.rec (motive:=fun _=>Nat→Hs U→(Hs U→List (TT U.ty s)→Prop)→Prop) (fun j H K=>bif Nat.beq j k then K H []else False) (fun x _ ih j H K=>bif Nat.beq x.1 j then ka p R e x.2 fun y=>wl s H y fun H a=>ih (j+1) H fun H r=>K H (a::r)else False) ps
def pickK(b:Bool)(x y:Va U)(K:Va U→Prop):Prop:=match x,y with
 |⟨a,(k,.d s u):: []⟩,⟨a',(_,.d s' w):: []⟩=>bif a==a'&&Nat.beq k (aI U s)then(match dX U.ty (fun x=>x) s' s w with
  |some w=>K ⟨a,[(k,.d s (bif b then u else w))]⟩
  |none=>False)else False
 |_,_=>False
def DK(p:cL)(R e:En U)(c a b:Operand)(K:Va U→Prop):Prop:=match c with
 | .tmp s=>ic p R e (.tmp s) fun v=>(match v with
  | .d .bool t=>(match a with
   | .const (.bool true)=>ic ((s,false)::p) R e b fun y=>(match y with
    | .d .bool u=>K ⟨false,[(1,.d .bool (t||u))]⟩
    |_=>False)
   |_=>(match b with
    | .const (.bool false)=>ic ((s,true)::p) R e a fun y=>(match y with
     | .d .bool u=>K ⟨false,[(1,.d .bool (t&&u))]⟩
     |_=>False)
    |_=>ka ((s,true)::p) R e a fun x=>ka ((s,false)::p) R e b fun y=>pickK t x y K))
  |_=>False)
 |_=>False
def wm(T:cZ U)(t:Nat)(K:Kd→Prop):Prop:=match aB T t with
 |some ti=>K ti.kd
 |none=>False
def wn:Kd→Bool| .sl _=>true|_=>false
def mE:Kd→Bool| .str=>true|_=>false
def DL(T:cZ U)(t:Nat)(K:Nat→TI U→Prop):Prop:=match aB T t with
 |some ti=>(match ti.kd with
  | .sl e=>(match aB T e with|some ei=>K e ei|none=>False)
  |_=>False)
 |none=>False
def nK(neg b:Bool)(K:Va U→Prop):Prop:=match neg with
 |true=>K ⟨false,[(1,.d .bool (!b))]⟩
 |false=>K ⟨false,[(1,.d .bool b)]⟩
def DM(neg:Bool)(H:Hs U)(x:Cx U)(K:Va U→Prop):Prop:=match x with
 | .nilp| .nils=>K ⟨false,[(1,.d .bool (!neg))]⟩
 | .ptr _ _| .pd _ _| .pax _ _ _ _ _ _=>K ⟨false,[(1,.d .bool neg)]⟩
 | .pel i v _ _=>bif nY H i v then K ⟨false,[(1,.d .bool neg)]⟩else False
 |x=>si H x fun e xs=> ∀b:Bool,(b=true→xs= [])→nK neg b K
def wo(T:cZ U)(t:Nat)(x y:Cx U):Bool:=match x,y with
 | .nilp,.nilp| .ptr _ _,.nilp| .pd _ _,.nilp| .pel _ _ _ _,.nilp| .pax _ _ _ _ _ _,.nilp=>(match aB T t with|some ti=>(match ti.kd with| .ptr _=>true|_=>false)|none=>false)
 | .nils,.nils| .own _ _,.nils| .d (.sl _) _,.nils=>(match aB T t with|some ti=>(match ti.kd with| .sl _=>true|_=>false)|none=>false)
 |_,_=>false
def DN(g:Prop→Prop)(T:cZ U)(op:BinOp)(t:Nat)(H:Hs U)(x y:Cx U)(K:Va U→Prop):Prop:=match x,y with
 | .d (.int k) p,.d (.int k') q=>DE g op k p k' q K
 | .d .str p,.d .str q=>DF g op p q K
 | .d .bool p,.d .bool q=>wm T t fun k=>(match k with| .bool=>DG op p q K|_=>False)
 |x,y=>bif wo T t x y then(match op with
  | .eql=>DM false H x K
  | .neq=>DM true H x K
  |_=>False)else False
def Mx(U:bH)(s:aY):TT U.ty s→TT U.ty s→(Bool→Prop)→Prop:=match s with
 | .st i=>fun a b K=>(U.rd i).eqK a b K
 | .arr _ (.int _)=>fun(a b:List Int) K=>K (decide (a=b))
 | .arr _ .bool=>fun(a b:List Bool) K=>K (decide (a=b))
 | .arr _ .str=>fun(a b:List (List UInt8)) K=>K (decide (a=b))
 |_=>fun _ _ _=>False
def DO(g:Prop→Prop)(T:cZ U)(op:BinOp)(t:Nat)(H:Hs U)(x y:Va U)(K:Va U→Prop):Prop:=match x,y with
 |⟨false,(_,a):: []⟩,⟨false,(_,b):: []⟩=>DN g T op t H a b K
 |⟨true,l⟩,⟨true,l'⟩=>(match aB T t with
  |some ti=>(match ti.sh,ti.cmp with
   |some s,true=>cJ 20 s l fun a=>cJ 20 s l' fun b=>Mx U s a b fun r=>(match op with
    | .eql=>K ⟨false,[(1,.d .bool r)]⟩
    | .neq=>K ⟨false,[(1,.d .bool (!r))]⟩
    |_=>False)
   |_,_=>False)
  |none=>False)
 |_,_=>False
def DP:Kd→Bool| .mp _ _=>true|_=>false
def wq(H:Hs U)(x:Cx U)(K:(d:KD U)→List (TT U.ty d.k×TT U.ty d.v)→Prop):Prop:=match x with
 | .mp i=>(match aB H i with
  |some (.map d l)=>K d l
  |some (.mapr d l _ _ _)=>K d l
  |_=>False)
 |_=>False
def uX(T:cZ U)(t:Nat)(d:KD U):Bool:=match aB T t with
 |some ti=>(match ti.kd with
  | .mp k v=>Nat.beq k d.kt&&Nat.beq v d.vt
  |_=>false)
 |none=>false
def qz(s:aY)(x:TT U.ty s):Va U:=⟨dI s,[(aI U s,.d s x)]⟩
def Gq(ok:Bool)(d:KD U)(r:Option (TT U.ty d.v))(K:AV U→Prop):Prop:=match ok with
 |true=>K (.tup [qz d.v (r.getD d.zero),⟨false,[(1,.d .bool r.isSome)]⟩])
 |false=>K (.v (qz d.v (r.getD d.zero)))
def DQ(T:cZ U)(t:Nat)(H:Hs U)(x:Cx U)(K:Int→Prop):Prop:=match x with
 | .d .str s=>wm T t fun k=>bif mE k then K (s.length:Int)else False
 | .nils=>wm T t fun k=>bif wn k then K 0 else False
 | .mp i=>wm T t fun k=>bif DP k then wq H (.mp i) fun _ l=>VS ((l.length:Int)≤9223372036854775807) (K (l.length:Int))else False
 |x=>wm T t fun k=>bif wn k then si H x fun _ xs=>K (xs.length:Int)else False
def DR(g:Prop→Prop)(T:cZ U)(t:Nat)(x:Cx U)(q:Int)(K:Va U→Prop):Prop:=match x with
 | .d .str s=>wm T t fun k=>bif mE k then VS (g (0≤q∧q<s.length)) (K ⟨false,[(1,.d (.int .u8) ((ix s q).toNat:Int))]⟩)else False
 |_=>False
def Gr(g:Prop→Prop)(T:cZ U)(t:Nat)(H:Hs U)(x:Cx U)(q:Int)(K:Cx U→Prop):Prop:=DL T t fun _ ei=>match x with
 | .d (.sl e) xs=>bif Nat.beq ei.sz (aI U e)&&Nat.blt 0 (aI U e)then VS (g (0≤q∧q<xs.length)) (v7 U e xs q fun y=>K (.pd e y))else False
 | .own i v=>(match aB H i with
  |some (.row v' e xs _)=>bif Nat.beq v v'&&Nat.beq ei.sz (aI U e)then VS (g (0≤q∧q<xs.length)) (K (.pel i v q 0))else False
  |some (.frz v' e xs)=>bif Nat.beq v v'&&Nat.beq ei.sz (aI U e)then VS (g (0≤q∧q<xs.length)) (v7 U e xs q fun y=>K (.pd e y))else False
  |_=>False)
 |_=>False
def DS(g:Prop→Prop)(T:cZ U)(t:Nat)(l:List (bO U))(q:Int)(K:Va U→Prop):Prop:=match aB T t with
 |some ti=>(match ti.kd,ti.sh with
  | .arr n e,some (.arr m s)=>(match aB T e with
   |some ei=>bif Nat.beq n m&&Nat.beq ei.sz 1&&Nat.beq (aI U s) 1&&!sd ei.kd then cJ 20 (.arr m s) l fun xs=>VS (g (0≤q∧q<n)) (v7 U s xs q fun x=>K ⟨false,[(1,.d s x)]⟩)else False
   |none=>False)
  |_,_=>False)
 |none=>False
def DT(g:Prop→Prop)(T:cZ U)(n e:Nat)(x:Cx U)(y:Operand)(q:Int)(K:Cx U→Prop):Prop:=match aB T e with
 |some ei=>(match ei.sh with
  |some s=>bif Nat.beq ei.sz (aI U s)then(match x with
   | .ptr i off=>(match y with
    | .const (.int _ (.ofNat c))=>bif Nat.blt c n then K (.ptr i (off+c*aI U s))else False
    |_=>VS (g (0≤q∧q<n)) (K (.pax i off n s q 0)))
   | .pd (.arr m s') xs=>bif Nat.beq n m&&Nat.beq (aI U s') (aI U s)then VS (g (0≤q∧q<n)) (v7 U s' xs q fun x=>K (.pd s' x))else False
   |_=>False)else False
  |none=>False)
 |none=>False
def zB(T:cZ U)(t:Nat):Option (Nat×Nat):=match aB T t with
 |some ti=>(match ti.kd with
  | .arr n e=>some (n,e)
  |_=>none)
 |none=>none
def nZ(p:cL)(R e:En U)(o:Option Operand)(d:Int)(K:Int→Prop):Prop:=match o with
 |none=>K d
 |some o=>ic p R e o fun v=>(match v with
  | .d (.int _) q=>K q
  |_=>False)
def zC(g:Prop→Prop)(T:cZ U)(t:Nat)(p:cL)(R e:En U)(x:Cx U)(lo hi:Option Operand)(K:Cx U→Prop):Prop:=match x with
 | .d .str s=>wm T t fun k=>bif mE k then nZ p R e lo 0 fun a=>nZ p R e hi (s.length:Int) fun b=>VS (g (0≤a∧a≤b∧b≤s.length)) (match lo,hi with
  |none,_=>K (.d .str (s.take b.toNat))
  |_,none=>K (.d .str (s.drop a.toNat))
  |_,_=>K (.d .str ((s.take b.toNat).drop a.toNat)))else False
 | .d (.sl s) xs=>DL T t fun _ ei=>bif Nat.beq ei.sz (aI U s)then nZ p R e lo 0 fun a=>nZ p R e hi (xs.length:Int) fun b=>VS (g (0≤a∧a≤b∧b≤xs.length)) (match lo,hi with
  |none,_=>K (.d (.sl s) (xs.take b.toNat))
  |_,none=>K (.d (.sl s) (xs.drop a.toNat))
  |_,_=>K (.d (.sl s) ((xs.take b.toNat).drop a.toNat)))else False
 |_=>False
def Cz(H:Hs U):Cx U→Bool
 | .ptr _ _| .pd _ _| .pax _ _ _ _ _ _=>true
 | .pel i v _ _=>nY H i v
 |_=>false
def Jl(l:List (Va U)):(List Nat→Prop)→Prop:=
 List.rec (motive:=fun _=>(List Nat→Prop)→Prop) (fun K=>K []) (fun x _ ih K=>match x with
  |⟨false,(_,.ptr j 0):: []⟩=>ih fun r=>K (j::r)
  |_=>False) l
def Jm(p:cL)(R e:En U)(x:Operand)(K:AV U→Prop):Prop:=match x with
 | .tmp t=>(match aB R t with
  |some (.gd q y)=>bif fY q p then K (.v y)else False
  |some _=>False
  |none=>(match aB e t with
   |some (.v y)=>K (.v y)
   |some (.tup l)=>K (.tup l)
   |_=>False))
 |x=>ka p R e x fun v=>K (.v v)
def jH(g:Prop→Prop)(T:cZ U)(p:cL)(o:Oper)(R e:En U)(H:Hs U)(K:AV U→Prop):Prop:=match o.op with
 | .move x=>Jm p R e x K
 | .assign x=>ka p R e x fun v=>K (.v v)
 | .pick c a b=>DK p R e c a b fun v=>K (.v v)
 | .load t x=>ic p R e x fun c=>qw T t H c fun v=>K (.v v)
 | .nilCheck x=>ic p R e x fun c=>bif Cz H c then K (.v ⟨false,[(1,c)]⟩)else False
 | .binOp op t x y _=>ka p R e x fun v=>ka p R e y fun w=>DO g T op t H v w fun v=>K (.v v)
 | .unOp op _ x=>ic p R e x fun c=>(match op,c with
  | .not,.d .bool b=>K (.v ⟨false,[(1,.d .bool (!b))]⟩)
  | .neg,.d (.int k) q=>Cw g k q q (Neg.neg (α:=Int) q) fun r=>K (.v ⟨false,[(1,.d (.int k) r)]⟩)
  |_,_=>False)
 | .fieldAddr t x f=>ic p R e x fun c=>DI T t f H c fun c=>K (.v ⟨false,[(1,c)]⟩)
 | .field t x f=>ka p R e x fun v=>(match v.ag with
  |true=>DJ T t f v.l fun v=>K (.v v)
  |false=>False)
 | .indexAddr t x y=>ic p R e x fun c=>ic p R e y fun d=>(match d with
  | .d (.int _) q=>(match zB T t with
   |some (n,el)=>DT g T n el c y q fun c=>K (.v ⟨false,[(1,c)]⟩)
   |none=>Gr g T t H c q fun c=>K (.v ⟨false,[(1,c)]⟩))
  |_=>False)
 | .index t x y=>ka p R e x fun v=>ic p R e y fun d=>(match d with
  | .d (.int _) q=>(match v.ag with
   |true=>DS g T t v.l q fun v=>K (.v v)
   |false=>DH v fun c=>DR g T t c q fun v=>K (.v v))
  |_=>False)
 | .slice t x lo hi none=>ic p R e x fun c=>zC g T t p R e c lo hi fun c=>K (.v ⟨false,[(1,c)]⟩)
 | .lookup t m kx ok=>ic p R e m fun c=>ka p R e kx fun kv=>wq H c fun d l=>bif uX T t d&&(kv.ag==dI d.k)then cJ 20 d.k kv.l fun k=>Gq ok d (@cF _ _ d.dec l k) K else False
 | .entry x=>ic p R e x fun c=>(match c with
  | .ptr j 0=>(match aB H j with
   |some (.it i gh)=>(match aB H i with
    |some (.mapr d l left (q:: []) gh')=>VS (gh=gh') (K (.tup [qz d.k q.1,qz d.v q.2]))
    |_=>False)
   |_=>False)
  |_=>False)
 | .extract x i=>(match x with
  | .tmp t=>(match aB R t with
   |some _=>False
   |none=>(match aB e t with
    |some (.tup l)=>(match df l i with|some v=>K (.v v)|none=>False)
    |_=>False))
  |_=>False)
 | .build t ps=>(match aB T t with
  |some ti=>(match ti.kd with
   | .st=>zz T p R e ti.fs ps.toList ti.zero fun l=>K (.v ⟨true,l⟩)
   | .arr k el=>(match aB T el with
    |some ei=>zz T p R e (F5 ei.sz el k 0) ps.toList ti.zero fun l=>K (.v ⟨true,l⟩)
    |none=>False)
   |_=>False)
  |none=>False)
 | .makeFunc (.func f) first caps=>(match first.toList with
  | []=>qu p R e caps.toList fun xs=>Jl xs fun js=>K (.v ⟨false,[(1,.clo f js)]⟩)
  |_=>False)
 | .convert s d x=>ic p R e x fun c=>wm T s fun _=>wm T d fun kd=>(match c,kd with
  | .d (.int k) q,.int k'=>I7 (g (dy k q→dy k' q)) (K (.v ⟨false,[(1,.d (.int k') q)]⟩)) (Jk k' q fun r=>K (.v ⟨false,[(1,.d (.int k') r)]⟩))
  |_,_=>False)
 | .call c=>(match c.callee,c.args.toList,c.argTypes.toList with
  | .builtin .len,x:: [],t:: []=>ic p R e x fun a=>DQ T t H a fun r=>K (.v ⟨false,[(1,.d (.int .i64) r)]⟩)
  | .builtin .max,x::y:: [],_::_:: []=>ic p R e x fun a=>ic p R e y fun b=>(match a,b with
   | .d (.int k) a,.d (.int k') b=>bif iS k k' then K (.v ⟨false,[(1,.d (.int k) (max (α:=Int) a b))]⟩)else False
   |_,_=>False)
  | .builtin .min,x::y:: [],_::_:: []=>ic p R e x fun a=>ic p R e y fun b=>(match a,b with
   | .d (.int k) a,.d (.int k') b=>bif iS k k' then K (.v ⟨false,[(1,.d (.int k) (min (α:=Int) a b))]⟩)else False
   |_,_=>False)
  |_,_,_=>False)
 |_=>False
end
end Go.Proofs.YtiliglahlfkikaaGreatDoor.V
end

section
set_option linter.unusedVariables false
namespace Go.Proofs.YtiliglahlfkikaaGreatDoor.V
open Go.RowKit
section
variable {U:bH}
def gE(i:Nat):List Nat→Bool
 | []=>false
 |j::r=>Nat.beq j i||gE i r
def Jn(i:Nat)(L:List Nat):List Nat:=bif gE i L then L else L++ [i]
def M6(H:Hs U)(x:Cx U):Option Nat:=match x with
 | .own i _=>(match aB H i with|some (.row _ _ _ _)=>some i|_=>none)
 | .ptr i _=>some i
 | .pel i _ _ _=>some i
 | .pax i _ _ _ _ _=>some i
 | .mp i=>some i
 | .clo _ (j:: [])=>some j
 |_=>none
def wr(H:Hs U):List (bO U)→List Nat→List Nat
 | [],L=>L
 |(_,x)::r,L=>match M6 H x with
  |some i=>wr H r (Jn i L)
  |none=>wr H r L
def Jo(H:Hs U)(i:Nat)(L:List Nat):List Nat:=match aB H i with
 |some (.cells l _)=>wr H l L
 |some (.clo _ l)=>wr H l L
 |_=>L
def uY(H:Hs U):Nat→Nat→List Nat→List Nat
 |0,_,L=>L
 |n+1,j,L=>match df L j with
  |some i=>uY H n (j+1) (Jo H i L)
  |none=>L
def uZ(H:Hs U):List (Va U)→List Nat→List Nat
 | [],L=>L
 |x::r,L=>uZ H r (wr H x.l L)
def qE(L:List Nat)(i:Nat):Nat→(Nat→Prop)→Prop:=
 List.rec (motive:=fun _=>Nat→(Nat→Prop)→Prop) (fun _ _=>False) (fun j _ ih c K=>bif Nat.beq j i then K c else ih (c+1) K) L
def zF(L:List Nat):(List Nat→Prop)→Prop:=
 List.rec (motive:=fun _=>(List Nat→Prop)→Prop) (fun K=>K []) (fun x _ ih K=>ih fun r=>K (x::r)) L
def zV(z:Bool)(v:Nat)(K:Nat→Prop):Prop:=match z with
 |true=>K 0
 |false=>K v
def sm(z:Bool)(H:Hs U)(L:List Nat)(x:Cx U)(K:Cx U→Prop):Prop:=match x with
 | .own i v=>(match aB H i with
  |some (.row v' _ _ _)=>bif Nat.beq v v' then qE L i 0 fun j=>zV z v fun v=>K (.own j v)else K .un
  |some (.frz v' e xs)=>bif Nat.beq v v' then K (.d (.sl e) xs)else K .un
  |_=>K .un)
 | .ptr i o=>qE L i 0 fun j=>K (.ptr j o)
 | .pel i v q o=>(match aB H i with
  |some (.row v' _ _ _)=>bif Nat.beq v v' then qE L i 0 fun j=>zV z v fun v=>K (.pel j v q o)else K .un
  |_=>K .un)
 | .pax _ _ _ _ _ _=>K .un
 | .clo f (i:: [])=>qE L i 0 fun j=>K (.clo f [j])
 | .clo _ _=>K .un
 | .mp i=>qE L i 0 fun j=>K (.mp j)
 |x=>K x
def n7(z:Bool)(H:Hs U)(L:List Nat)(l:List (bO U)):(List (bO U)→Prop)→Prop:=
 List.rec (motive:=fun _=>(List (bO U)→Prop)→Prop) (fun K=>K []) (fun x _ ih K=>sm z H L x.2 fun y=>ih fun r=>K ((x.1,y)::r)) l
def DV(z:Bool)(H:Hs U)(L:List Nat)(x:aJ U)(K:aJ U→Prop):Prop:=match x with
 | .cells l t=>n7 z H L l fun l=>K (.cells l t)
 | .row v e xs t=>zV z v fun v=>K (.row v e xs t)
 | .frz _ _ _=>K .dead
 | .clo _ _=>K .dead
 | .map d l=>K (.map d l)
 | .mapr d l _ _ _=>K (.map d l)
 | .it _ _=>K .dead
 | .hid _ _ _=>K .dead
 | .dead=>K .dead
def qF(z:Bool)(H:Hs U)(L:List Nat)(M:List Nat):(List (aJ U)→Prop)→Prop:=
 List.rec (motive:=fun _=>(List (aJ U)→Prop)→Prop) (fun K=>K []) (fun i _ ih K=>match aB H i with
  |some x=>DV z H L x fun y=>ih fun r=>K (y::r)
  |none=>False) M
def qG(z:Bool)(H:Hs U)(L:List Nat)(l:List (Va U)):(List (Va U)→Prop)→Prop:=
 List.rec (motive:=fun _=>(List (Va U)→Prop)→Prop) (fun K=>K []) (fun x _ ih K=>n7 z H L x.l fun l=>ih fun r=>K (⟨x.ag,l⟩::r)) l
def zG(fs:List (Nat×Option aY)):Hs U→List (bO U)→(Hs U→List (bO U)→Prop)→Prop:=
 List.rec (motive:=fun _=>Hs U→List (bO U)→(Hs U→List (bO U)→Prop)→Prop) (fun H l K=>K H l) (fun x _ ih H l K=>tK 40 l x.1 fun l1=>fA 40 l x.1 fun l2=>match x.2 with
  |some s=>bif Nat.beq x.1 (aI U s)then jQ l1 H fun H l1=>cJ 20 s l1 fun u=>ih H l2 fun H r=>K H ((x.1,.d s u)::r)else False
  |none=>ih H l2 fun H r=>o5 l1 r fun r=>K H r) fs
def u4(fs:List (Nat×Option aY))(j:Nat)(H:Hs U)(K:Hs U→Prop):Prop:=match aB H j with
 |some (.cells l t)=>zG fs H l fun H l=>fV H j (.cells l t) K
 |_=>False
def I8(em:List (Nat×List (Nat×Option aY))):Hs U→(Hs U→Prop)→Prop:=
 List.rec (motive:=fun _=>Hs U→(Hs U→Prop)→Prop) (fun H K=>K H) (fun x _ ih H K=>u4 x.2 x.1 H fun H=>ih H K) em
def F6(md:List Md):List (Va U)→Hs U→(Hs U→Prop)→Prop:=
 List.rec (motive:=fun _=>List (Va U)→Hs U→(Hs U→Prop)→Prop) (fun _ H K=>K H) (fun m _ ih l H K=>match l with
  | []=>K H
  |x::r=>(match m with
   | .p fs=>(match x with
    |⟨false,(_,.ptr j 0):: []⟩=>u4 fs j H fun H=>ih r H K
    |⟨false,(_,.nilp):: []⟩=>ih r H K
    |_=>False)
   |_=>ih r H K)) md
def CA(md:List Md):List (Va U)→Hs U→(Hs U→List (Va U)→Prop)→Prop:=
 List.rec (motive:=fun _=>List (Va U)→Hs U→(Hs U→List (Va U)→Prop)→Prop) (fun l H K=>K H l) (fun m _ ih l H K=>match l with
  | []=>K H []
  |x::r=>(match m with
   | .d s=>wl s H x fun H t=>ih r H fun H r=>K H (⟨x.ag,[(aI U s,.d s t)]⟩::r)
   |_=>ih r H fun H r=>K H (x::r))) md
def zH(T:cZ U)(js:List Nat):Hs U→(Hs U→List (Va U)→Prop)→Prop:=
 List.rec (motive:=fun _=>Hs U→(Hs U→List (Va U)→Prop)→Prop) (fun H K=>K H []) (fun j _ ih H K=>match aB H j with
  |some (.cells l t)=>(match aB T t with
   |some ti=>(match ti.sh with
    |some s=>jQ l H fun H l=>cJ 20 s l fun x=>ih H fun H r=>K H (⟨false,[(1,.pd s x)]⟩::r)
    |none=>False)
   |none=>False)
  |_=>False) js
def wt(c:aZ U)(caps:List (Va U))(a:aY)(g:TT U.ty a→Bool):Prop:= ∀t:TT U.ty a,c.run (⟨dI a,[(aI U a,.d a t)]⟩::caps) [] fun r es=>r= .v ⟨false,[(1,.d .bool (g t))]⟩∧es= []
def wu(c:aZ U)(caps:List (Va U))(a b:aY)(g:TT U.ty a→TT U.ty b→Int):Prop:= ∀(t:TT U.ty a) (t':TT U.ty b),c.run (⟨dI a,[(aI U a,.d a t)]⟩::⟨dI b,[(aI U b,.d b t')]⟩::caps) [] fun r es=>r= .v ⟨false,[(1,.d (.int .i64) (g t t'))]⟩∧es= []
def n8(G:gD U)(f:FuncId)(K:aZ U→Prop):Prop:=match aB G f with
 |some c=>K c
 |none=>False
def zI(T:cZ U)(G:gD U)(a:aY)(x:Va U)(H:Hs U)(K:Hs U→(TT U.ty a→Bool)→List Nat→Prop):Prop:=match x with
 |⟨false,(_,.fn f):: []⟩=>n8 G f fun c=> ∃g,wt c [] a g∧K H g []
 |⟨false,(_,.clo f js):: []⟩=>zH T js H fun H caps=>n8 G f fun c=> ∃g,wt c caps a g∧K H g js
 |⟨false,(_,.f1 a' g):: []⟩=>(match dX U.ty (fun x=>x→Bool) a' a g with
  |some g=>K H g []
  |none=>False)
 |_=>False
def zJ(T:cZ U)(G:gD U)(a b:aY)(x:Va U)(H:Hs U)(K:Hs U→(TT U.ty a→TT U.ty b→Int)→List Nat→Prop):Prop:=match x with
 |⟨false,(_,.fn f):: []⟩=>n8 G f fun c=> ∃g,wu c [] a b g∧K H g []
 |⟨false,(_,.clo f js):: []⟩=>zH T js H fun H caps=>n8 G f fun c=> ∃g,wu c caps a b g∧K H g js
 |⟨false,(_,.f2 a' b' g):: []⟩=>(match dX U.ty (fun x=>x→TT U.ty b'→Int) a' a g with
  |some g=>(match dX U.ty (fun y=>TT U.ty a→y→Int) b' b g with
   |some g=>K H g []
   |none=>False)
  |none=>False)
 |_=>False
def DW(T:cZ U)(G:gD U)(md:List Md):List (Va U)→Hs U→(Hs U→List (Va U)→List Nat→Prop)→Prop:=
 List.rec (motive:=fun _=>List (Va U)→Hs U→(Hs U→List (Va U)→List Nat→Prop)→Prop) (fun l H K=>K H l []) (fun m _ ih l H K=>match l with
  | []=>K H [] []
  |x::r=>(match m with
   | .d s=>wl s H x fun H t=>ih r H fun H r Z=>K H (⟨x.ag,[(aI U s,.d s t)]⟩::r) Z
   | .f1 a=>zI T G a x H fun H g js=>ih r H fun H r Z=>K H (⟨false,[(1,.f1 a g)]⟩::r) (js++Z)
   | .f2 a b=>zJ T G a b x H fun H g js=>ih r H fun H r Z=>K H (⟨false,[(1,.f2 a b g)]⟩::r) (js++Z)
   |_=>ih r H fun H r Z=>K H (x::r) Z)) md
def wv(L:List Nat):List Nat→Bool
 | []=>true
 |z::Z=>bif gE z L then false else wv L Z
def zK(es:List (aJ U)):List Nat→Nat→(List Nat→Nat→Prop)→Prop:=
 List.rec (motive:=fun _=>List Nat→Nat→(List Nat→Nat→Prop)→Prop) (fun _ n K=>K [] n) (fun _ _ ih L n K=>match L with
  |i::L=>ih L n fun l n=>K (i::l) n
  | []=>ih [] (n+1) fun l n'=>K (n::l) n') es
def sr(H:Hs U)(i v:Nat)(K:Nat→Prop):Prop:=match aB H i with
 |some (.row v0 _ _ _)=>K (v0+v)
 |_=>K v
def ov(H:Hs U)(L:List Nat)(x:Cx U)(K:Cx U→Prop):Prop:=match x with
 | .own j v=>(match df L j with
  |some i=>sr H i v fun v=>K (.own i v)
  |none=>K .un)
 | .ptr j o=>(match df L j with
  |some i=>K (.ptr i o)
  |none=>K .un)
 | .pel j v q o=>K .un
 | .pax _ _ _ _ _ _=>K .un
 | .clo f (j:: [])=>(match df L j with
  |some i=>K (.clo f [i])
  |none=>K .un)
 | .clo _ _=>K .un
 | .f1 _ _=>K .un
 | .f2 _ _ _=>K .un
 | .mp j=>(match df L j with
  |some i=>K (.mp i)
  |none=>K .un)
 |x=>K x
def lV(H:Hs U)(L:List Nat)(l:List (bO U)):(List (bO U)→Prop)→Prop:=
 List.rec (motive:=fun _=>(List (bO U)→Prop)→Prop) (fun K=>K []) (fun x _ ih K=>ov H L x.2 fun y=>ih fun r=>K ((x.1,y)::r)) l
def ww(H:Hs U)(L:List Nat)(i:Nat)(x:aJ U)(K:aJ U→Prop):Prop:=match x with
 | .cells l t=>lV H L l fun l=>K (.cells l t)
 | .row v e xs t=>sr H i v fun v=>K (.row v e xs t)
 | .frz v e xs=>sr H i v fun v=>K (.frz v e xs)
 | .clo _ _=>K .dead
 | .map d l=>K (.map d l)
 | .mapr _ _ _ _ _=>K .dead
 | .it _ _=>K .dead
 | .hid _ _ _=>K .dead
 | .dead=>K .dead
def o7(H:Hs U)(L:List Nat)(l:List (Va U)):(List (Va U)→Prop)→Prop:=
 List.rec (motive:=fun _=>(List (Va U)→Prop)→Prop) (fun K=>K []) (fun x _ ih K=>lV H L x.l fun l=>ih fun r=>K (⟨x.ag,l⟩::r)) l
def CB(H:Hs U)(L:List Nat)(x:AV U)(K:AV U→Prop):Prop:=match x with
 | .v x=>lV H L x.l fun l=>K (.v ⟨x.ag,l⟩)
 | .tup l=>o7 H L l fun l=>K (.tup l)
 |_=>K .un
def zL(H:Hs U)(i:Nat)(x:aJ U)(K:Hs U→Prop):Prop:=match aB H i with
 |some _=>fV H i x K
 |none=>K ((i,x)::H)
def wx(H0:Hs U)(L:List Nat)(M:List Nat):List (aJ U)→Hs U→(Hs U→Prop)→Prop:=
 List.rec (motive:=fun _=>List (aJ U)→Hs U→(Hs U→Prop)→Prop) (fun _ H K=>K H) (fun i _ ih es H K=>match es with
  |x::r=>ww H0 L i x fun y=>zL H i y fun H=>ih r H K
  | []=>False) M
def l8:List Nat→Bool
 | []=>true
 |i::r=>bif gE i r then false else l8 r
def DX(T:cZ U)(G:gD U)(c:aZ U)(xs:List (Va U))(n:Nat)(H:Hs U)(K:AV U→Nat→Hs U→Prop):Prop:=
 F6 c.md xs H fun H=>DW T G c.md xs H fun H xs Z=>zF (uY H 30 0 (uZ H xs [])) fun L=>bif l8 L&&wv L Z then qG true H L xs fun ys=>qF true H L L fun es=>c.run ys es fun r es=>zK es L n fun L2 n2=>CB H L2 r fun r=>wx H L2 L2 es H fun H=>K r n2 H else False
def CC(T:cZ U)(G:gD U)(f:FuncId)(xs:List (Va U))(n:Nat)(H:Hs U)(K:AV U→Nat→Hs U→Prop):Prop:=match aB G f with
 |some c=>DX T G c xs n H K
 |none=>False
def DY(s:aY)(H:Hs U)(y:Cx U)(K:List (TT U.ty s)→Prop):Prop:=match y with
 | .nils=>K []
 |y=>si H y fun e ys=>(match dX U.ty List e s ys with
  |some ys=>K ys
  |none=>False)
def F7(U:bH)(s:aY)(ei:TI U):Bool:=Nat.beq ei.sz (aI U s)&&Nat.blt 0 (aI U s)&&Nat.blt 0 ei.by_
def Gt(T:cZ U)(t:Nat)(H:Hs U)(n:Nat)(x y:Cx U)(K:AV U→Nat→Hs U→Prop):Prop:=DL T t fun el ei=>match ei.sh with
 |some s=>bif F7 U s ei then DY s H y fun ys=>(match x with
  | .nils=>VS (ys.length*ei.by_≤140737488355328) (K (.v ⟨false,[(1,.own n 0)]⟩) (n+1) ((n,.row 0 s ys el)::H))
  | .own i v=>(match aB H i with
   |some (.row v' e' xs u)=>bif Nat.beq v v'&&Nat.beq u el then(match dX U.ty List e' s xs with
    |some xs=>VS ((xs.length+ys.length)*ei.by_≤140737488355328) (fV H i (.row (v+1) s (xs++ys) u) fun H=>K (.v ⟨false,[(1,.own i (v+1))]⟩) n H)
    |none=>False)else False
   |_=>False)
  |_=>False)else False
 |none=>False
def Gu(T:cZ U)(t:Nat)(H:Hs U)(n:Nat)(q r:Int)(K:AV U→Nat→Hs U→Prop):Prop:=DL T t fun el ei=>match ei.sh with
 |some s=>bif F7 U s ei then cJ 20 s ei.zero fun z=>VS (0≤q∧q≤r∧r≤281474976710656∧ei.by_*r.toNat≤281474976710656) (K (.v ⟨false,[(1,.own n 0)]⟩) (n+1) ((n,.row 0 s (List.replicate q.toNat z) el)::H))else False
 |none=>False
def Jp(c:Cx U)(xs:List (Va U))(H:Hs U)(K:AV U→Hs U→Prop):Prop:=match c,xs with
 | .f1 a g,x:: []=>bif x.ag==dI a then wl a H x fun H t=>K (.v ⟨false,[(1,.d .bool (g t))]⟩) H else False
 | .f2 a b g,x::y:: []=>bif (x.ag==dI a)&&(y.ag==dI b)then wl a H x fun H t=>wl b H y fun H t'=>K (.v ⟨false,[(1,.d (.int .i64) (g t t'))]⟩) H else False
 |_,_=>False
def My(c:Cx U)(xs:List (Va U))(K:Va U→Prop):Prop:=match c,xs with
 | .f1 a g,x:: []=>bif x.ag==dI a then cJ 20 a x.l fun t=>K ⟨false,[(1,.d .bool (g t))]⟩else False
 | .f2 a b g,x::y:: []=>bif (x.ag==dI a)&&(y.ag==dI b)then cJ 20 a x.l fun t=>cJ 20 b y.l fun t'=>K ⟨false,[(1,.d (.int .i64) (g t t'))]⟩else False
 |_,_=>False
def DZ(T:cZ U)(t:Nat)(H:Hs U)(c:Cx U)(kv xv:Va U)(K:Hs U→Prop):Prop:=match c with
 | .mp i=>(match aB H i with
  |some (.map d l)=>bif uX T t d&&((kv.ag==dI d.k)&&(xv.ag==dI d.v))then cJ 20 d.k kv.l fun k=>wl d.v H xv fun H y=>fV H i (.map d (@dW _ _ d.dec l k y)) K else False
  |_=>False)
 |_=>False
def D3(T:cZ U)(t:Nat)(H:Hs U)(c:Cx U)(kv:Va U)(K:Hs U→Prop):Prop:=match c with
 | .mp i=>(match aB H i with
  |some (.map d l)=>bif uX T t d&&(kv.ag==dI d.k)then cJ 20 d.k kv.l fun k=>fV H i (.map d (@di _ _ d.dec l k)) K else False
  |some (.mapr d l left _ gh)=>bif uX T t d&&(kv.ag==dI d.k)then cJ 20 d.k kv.l fun k=>fV H i (.mapr d (@di _ _ d.dec l k) (@di _ _ d.dec left k) [] gh) K else False
  |_=>False)
 |_=>False
def D4(T:cZ U)(t:Nat)(H:Hs U)(n:Nat)(c:Cx U)(K:Hs U→Prop):Prop:=match c with
 | .mp i=>(match aB H i with
  |some (.map d l)=>bif uX T t d then ∀gh,fV H i (.mapr d l l [] gh) fun H=>K ((n,.it i gh)::H)else False
  |_=>False)
 |_=>False
def Gw{α:Type}(left:List α)(A:Prop)(B:List α→α→List α→Prop):Prop:=(left= []→A)∧ ∀a p b,left=a++p::b→B a p b
def D5(H:Hs U)(c:Cx U)(K:AV U→Hs U→Prop):Prop:=match c with
 | .ptr j 0=>(match aB H j with
  |some (.it i gh)=>(match aB H i with
   |some (.mapr d l left _ gh')=>VS (gh=gh') (Gw left (fV H j .dead fun H=>fV H i (.map d l) fun H=>K (.tup [⟨false,[(1,.d .bool false)]⟩]) H)
     fun a p b=> ∀gh2,fV H j (.it i gh2) fun H=>fV H i (.mapr d l (a++b) [p] gh2) fun H=>K (.tup [⟨false,[(1,.d .bool true)]⟩,qz d.k p.1,qz d.v p.2]) H)
   |_=>False)
  |_=>False)
 |_=>False
def mG(d:Option Nat)(A:Prop):Prop:=match d with
 |some _=>A
 |none=>False
def Gx(d:Option Nat)(A:Prop):Prop:=match d with
 |some _=>False
 |none=>A
def wy(T:cZ U)(G:gD U)(o:Oper)(R e:En U)(n:Nat)(H:Hs U)(K:AV U→Nat→Hs U→Prop):Prop:=match o.op with
 | .alloc t=>mG o.dst (match aB T t with
  |some ti=>K (.v ⟨false,[(1,.ptr n 0)]⟩) (n+1) ((n,.cells ti.zero t)::H)
  |none=>False)
 | .box t x=>mG o.dst (ka [] R e x fun v=>K (.v ⟨false,[(1,.ptr n 0)]⟩) (n+1) ((n,.cells v.l t)::H))
 | .makeMap t none=>mG o.dst (match aB T t with
  |some ti=>(match ti.mp with
   |some d=>K (.v ⟨false,[(1,.mp n)]⟩) (n+1) ((n,.map d [])::H)
   |none=>False)
  |none=>False)
 | .mapUpdate t m kx x=>Gx o.dst (ic [] R e m fun c=>ka [] R e kx fun kv=>ka [] R e x fun xv=>DZ T t H c kv xv fun H=>K .un n H)
 | .range t x=>mG o.dst (ic [] R e x fun c=>D4 T t H n c fun H=>K (.v ⟨false,[(1,.ptr n 0)]⟩) (n+1) H)
 | .next x false=>mG o.dst (ic [] R e x fun c=>D5 H c fun v H=>K v n H)
 | .store t x y=>Gx o.dst (ic [] R e x fun c=>ka [] R e y fun w=>sj T t H c w fun H=>K .un n H)
 | .buildSlice t k ps=>mG o.dst (DL T t fun el ei=>match ei.sh with
  |some s=>bif Nat.beq ei.sz (aI U s)&&Nat.blt 0 (aI U s)&&Nat.ble (k*aI U s) 1000 then zA [] R e s k ps.toList 0 H fun H l=>K (.v ⟨false,[(1,.own n 0)]⟩) (n+1) ((n,.row 0 s l el)::H)else False
  |none=>False)
 | .makeSlice t x y=>mG o.dst (ic [] R e x fun c=>ic [] R e y fun d=>match c,d with
  | .d (.int _) q,.d (.int _) r=>Gu T t H n q r K
  |_,_=>False)
 | .call c=>(match c.callee with
  | .builtin .append=>(match c.args.toList,c.argTypes.toList with
   |x::y:: [],t::t':: []=>mG o.dst (bif Nat.beq t t' then ic [] R e x fun a=>ic [] R e y fun b=>Gt T t H n a b K else False)
   |_,_=>False)
  | .builtin .delete=>(match c.args.toList,c.argTypes.toList with
   |m::kx:: [],t::_:: []=>Gx o.dst (ic [] R e m fun c=>ka [] R e kx fun kv=>D3 T t H c kv fun H=>K .un n H)
   |_,_=>False)
  | .value (.func f)=>qu [] R e c.args.toList fun xs=>CC T G f xs n H K
  | .value (.tmp s)=>mG o.dst (ic [] R e (.tmp s) fun x=>qu [] R e c.args.toList fun xs=>Jp x xs H fun v H=>K v n H)
  |_=>False)
 |_=>False
def ki(o:Oper):Bool:=match o.op with
 | .alloc _| .box _ _| .store _ _ _| .buildSlice _ _ _| .makeSlice _ _ _| .makeMap _ _| .mapUpdate _ _ _ _| .range _ _| .next _ _=>true
 | .call c=>(match c.callee with
  | .builtin .append| .builtin .copy| .builtin .clear| .builtin .delete=>true
  | .builtin _=>false
  |_=>true)
 |_=>false
abbrev KS(U:bH):=En U→Nat→Hs U→Prop
def zM(T:cZ U)(H:Hs U)(js:List Nat):(List (Va U)→Prop)→Prop:=
 List.rec (motive:=fun _=>(List (Va U)→Prop)→Prop) (fun K=>K []) (fun j _ ih K=>match aB H j with
  |some (.cells l t)=>(match aB T t with
   |some ti=>(match ti.sh with
    |some s=>cJ 20 s l fun x=>ih fun r=>K (⟨false,[(1,.pd s x)]⟩::r)
    |none=>False)
   |none=>False)
  |_=>False) js
def zN(T:cZ U)(G:gD U)(H:Hs U)(a:aY)(x:Va U)(K:(TT U.ty a→Bool)→Prop):Prop:=match x with
 |⟨false,(_,.fn f):: []⟩=>n8 G f fun c=> ∃g,wt c [] a g∧K g
 |⟨false,(_,.clo f js):: []⟩=>zM T H js fun caps=>n8 G f fun c=> ∃g,wt c caps a g∧K g
 |_=>False
def zP(T:cZ U)(G:gD U)(H:Hs U)(a b:aY)(x:Va U)(K:(TT U.ty a→TT U.ty b→Int)→Prop):Prop:=match x with
 |⟨false,(_,.fn f):: []⟩=>n8 G f fun c=> ∃g,wu c [] a b g∧K g
 |⟨false,(_,.clo f js):: []⟩=>zM T H js fun caps=>n8 G f fun c=> ∃g,wu c caps a b g∧K g
 |_=>False
def F8(T:cZ U)(G:gD U)(H:Hs U)(md:List Md):List (Va U)→(List (Va U)→Prop)→Prop:=
 List.rec (motive:=fun _=>List (Va U)→(List (Va U)→Prop)→Prop) (fun l K=>match l with| []=>K []|_=>False) (fun m _ ih l K=>match l with
  | []=>K []
  |x::r=>(match m with
   | .d s=>n7 true H [] x.l fun l=>cJ 20 s l fun t=>ih r fun r=>K (⟨x.ag,[(aI U s,.d s t)]⟩::r)
   | .f1 a=>zN T G H a x fun g=>ih r fun r=>K (⟨false,[(1,.f1 a g)]⟩::r)
   | .f2 a b=>zP T G H a b x fun g=>ih r fun r=>K (⟨false,[(1,.f2 a b g)]⟩::r)
   | .p _=>False
   | .n=>n7 true H [] x.l fun l=>ih r fun r=>K (⟨x.ag,l⟩::r))) md
def zQ:List (bO U)→Bool
 | []=>true
 |(_,x)::r=>match x with
  | .f1 _ _=>false
  | .f2 _ _ _=>false
  |_=>zQ r
def o8(T:cZ U)(G:gD U)(p:cL)(o:Oper)(R e:En U)(n:Nat)(H:Hs U)(K:Va U→Prop):Prop:=match o.op with
 | .call c=>(match c.callee with
  | .value (.func f)=>(match aB G f with
   |some k=>qu p R e c.args.toList fun xs=> ∃x:Va U,oq R e p (F8 T G H k.md xs fun xs=>k.run xs [] fun r es=>r= .v x∧es= [])∧zQ x.l=true∧K x
   |none=>False)
  | .value (.tmp s)=>ic p R e (.tmp s) fun x=>qu p R e c.args.toList fun xs=>My x xs K
  |_=>False)
 |_=>False
abbrev KR(U:bH):=En U→Nat→Hs U→En U→List Nat→KS U→Prop
def qH(rest:KR U)(d:Option Nat)(v:AV U)(e:En U)(n:Nat)(H:Hs U)(R:En U)(S:List Nat)(K:KS U):Prop:=match d with
 |some d=>bif gE d S then False else rest ((d,v)::e) n H R S K
 |none=>rest e n H R S K
def putG(rest:KR U)(s:Nat)(d:Option Nat)(p:cL)(x:Va U)(e:En U)(n:Nat)(H:Hs U)(R:En U)(S:List Nat)(K:KS U):Prop:=match d with
 |some d=>(match aB e d with
  |none=>bif gE d S||Nat.beq d s then False else rest e n H ((d,.gd p x)::R) (d::s::S) K
  |some _=>False)
 |none=>False
def u5(T:cZ U)(G:gD U)(o:Oper)(rest:KR U)(s:Nat)(p:cL)(e:En U)(n:Nat)(H:Hs U)(R:En U)(S:List Nat)(K:KS U):Prop:=match ki o with
 |true=>o8 T G p o R e n H fun v=>putG rest s o.dst p v e n H R S K
 |false=>jH (oq R e p) T p o R e H fun v=>(match v with
  | .v v=>putG rest s o.dst p v e n H R S K
  |_=>False)
def zS(o:Oper)(v:AV U)(A:Prop):Prop:=match o.op with
 | .call c=>(match c.callee with
  | .builtin .len=>(match v with
   | .v ⟨false,(_,.d (.int k) q):: []⟩=>dy k q→A
   |_=>A)
  |_=>A)
 |_=>A
def ed(T:cZ U)(G:gD U)(all:List Oper)(o:Oper)(rest:KR U)(e:En U)(n:Nat)(H:Hs U)(R:En U)(S:List Nat)(K:KS U):Prop:=match o.guard with
 |none=>(match ki o with
  |true=>wy T G o R e n H fun v n H=>qH rest o.dst v e n H R S K
  |false=>jH (fun P=>P) T [] o R e H fun v=>zS o v (qH rest o.dst v e n H R S K))
 |some (j,b)=>(match df all j with
  |some oj=>(match oj.dst with
   |some s=>(match aB R s with
    |some (.gd p ⟨false,(_,.d .bool _):: []⟩)=>u5 T G o rest s ((s,b)::p) e n H R S K
    |some _=>False
    |none=>(match aB e s with
     |some (.v ⟨false,(_,.d .bool _):: []⟩)=>u5 T G o rest s [(s,b)] e n H R S K
     |_=>False))
   |none=>False)
  |none=>False)
def u6(p:Nat→Bool)(H:Hs U):(Hs U→Prop)→Prop:=
 List.rec (motive:=fun _=>(Hs U→Prop)→Prop) (fun K=>K []) (fun x _ ih K=>ih fun r=>match p x.1,x.2 with
  |true,.row v e xs _=>K ((x.1,.hid v xs.length (aI U e))::r)
  |true,.cells _ _=>K ((x.1,.dead)::r)
  |true,.map _ _=>K ((x.1,.dead)::r)
  |true,.mapr _ _ _ _ _=>K ((x.1,.dead)::r)
  |true,.it _ _=>K ((x.1,.dead)::r)
  |_,y=>K ((x.1,y)::r)) H
def zT(p:Nat→Bool)(H:Hs U)(H':Hs U):(Hs U→Prop)→Prop:=
 List.rec (motive:=fun _=>(Hs U→Prop)→Prop) (fun K=>K []) (fun x _ ih K=>ih fun r=>match p x.1,aB H x.1,x.2 with
  |true,some (.row v e xs t),.hid v' _ _=>bif Nat.beq v v' then K ((x.1,.row v e xs t)::r)else False
  |true,some (.cells l t),.dead=>K ((x.1,.cells l t)::r)
  |true,some (.map d l),.dead=>K ((x.1,.map d l)::r)
  |true,some (.mapr d l l' q g),.dead=>K ((x.1,.mapr d l l' q g)::r)
  |true,some (.it i g),.dead=>K ((x.1,.it i g)::r)
  |_,_,y=>K ((x.1,y)::r)) H'
def Gy:List Md→Bool
 | []=>false
 |m::r=>match m with
  | .p _=>true
  |_=>Gy r
def u7(G:gD U)(o:Oper):Bool:=match o.op with
 | .call c=>(match c.callee with
  | .value (.func f)=>(match aB G f with
   |some k=>Gy k.md
   |none=>false)
  |_=>false)
 |_=>false
def ow(T:cZ U)(G:gD U)(p:Nat→Bool)(q:cL)(o:Oper)(R e:En U)(n:Nat)(H:Hs U)(K:Va U→Prop):Prop:=match o.op with
 | .call c=>(match c.callee with
  | .value (.func f)=>(match aB G f with
   |some k=>qu q R e c.args.toList fun xs=>u6 (fun i=>!p i) H fun Hk=> ∃x:Va U,oq R e q (DX T G k xs n Hk fun r n' H'=>r= .v x∧n'=n∧zT (fun i=>!p i) H H' fun L=>L=H)∧K x
   |none=>False)
  |_=>False)
 |_=>False
def iU(T:cZ U)(G:gD U)(all:List Oper)(p:Nat→Bool)(o:Oper)(rest:KR U)(e:En U)(n:Nat)(H:Hs U)(R:En U)(S:List Nat)(K:KS U):Prop:=match o.guard with
 |none=>False
 |some (j,b)=>(match df all j with
  |some oj=>(match oj.dst with
   |some s=>(match aB R s with
    |some (.gd q ⟨false,(_,.d .bool _):: []⟩)=>ow T G p ((s,b)::q) o R e n H fun v=>putG rest s o.dst ((s,b)::q) v e n H R S K
    |some _=>False
    |none=>(match aB e s with
     |some (.v ⟨false,(_,.d .bool _):: []⟩)=>ow T G p [(s,b)] o R e n H fun v=>putG rest s o.dst [(s,b)] v e n H R S K
     |_=>False))
   |none=>False)
  |none=>False)
def mH(T:cZ U)(G:gD U)(all l:List Oper):KR U:=
 List.rec (motive:=fun _=>KR U) (fun e n H _ _ K=>K e n H) (fun o _ ih=>match o.guard with
  |none=>ed T G all o ih
  |some _=>bif u7 G o then iU T G all (fun _=>true) o ih else ed T G all o ih) l
def jI(T:cZ U)(G:gD U)(all:List Oper)(p:Nat→Bool)(how:Bool)(o:Oper)(rest:KR U)(e:En U)(n:Nat)(H:Hs U)(R:En U)(S:List Nat)(K:KS U):Prop:=match ki o,how with
 |true,true=>False
 |false,true=>u6 p H fun Hu=>ed T G all o (fun e _ _ R S K=>rest e n H R S K) e n Hu R S K
 |false,false=>ed T G all o rest e n H R S K
 |true,false=>(match o.guard with
  |none=>u6 (fun i=>!p i) H fun Hk=>wy T G o R e n Hk fun v n Hk=>zT (fun i=>!p i) H Hk fun H=>qH rest o.dst v e n H R S K
  |some _=>bif u7 G o then iU T G all p o rest e n H R S K else ed T G all o rest e n H R S K)
def tQ(T:cZ U)(G:gD U)(all:List Oper)(mk:List Nat)(last:KR U)(pl:List (Bool×Nat)):KR U:=
 List.rec (motive:=fun _=>KR U) last (fun x _ ih=>match df all x.2 with
  |some o=>jI T G all (fun i=>gE i mk) x.1 o ih
  |none=>fun _ _ _ _ _ _=>False) pl
def jJ(T:cZ U)(G:gD U)(all:List Oper)(f:Option Nat):KR U:=match f with
 |none=>fun e n H _ _ K=>K e n H
 |some f=>(match df all f with
  |some o=>ed T G all o (fun e n H _ _ K=>K e n H)
  |none=>fun _ _ _ _ _ _=>False)
def lW(ops:Array Oper)(f:Option Nat):List (Bool×Nat)→Array Bool→Bool
 | [],listed=>(match f with
  |none=>(Region.ready .any ops listed).isEmpty
  |some f=>Region.ready .any ops listed== [f]&&(Region.ready .any ops (listed.setIfInBounds f true)).isEmpty)
 |(true,i)::r,listed=>(Region.ready .any ops listed).contains i&&Region.free .any ops listed i&&(match f with|some f=>i !=f|none=>true)&&lW ops f r (listed.setIfInBounds i true)
 |(false,i)::r,listed=>Region.ready .any ops listed== [i]&&(match f with|some f=>i !=f|none=>true)&&lW ops f r (listed.setIfInBounds i true)
def su(ops:Array Oper)(f:Option Nat)(pl:List (Bool×Nat)):Bool:=Region.noSelect ops&&(match f with|some f=>Bn .any ops f|none=>true)&&lW ops f pl (Array.replicate ops.size false)&&Nat.ble (pl.length+(match f with|some _=>1|none=>0)) ops.size
inductive Ot where
 |fin|nil|look (i:Nat) (r:Ot)|turn (i:Nat) (here more:Ot)
def qI(T:cZ U)(G:gD U)(all:List Oper)(p:Nat→Bool)(last:KR U)(t:Ot):KR U:=
 Ot.rec (motive:=fun _=>KR U) last (fun _ _ _ _ _ _=>True)
  (fun i _ ih=>match df all i with
   |some o=>jI T G all p true o ih
   |none=>fun _ _ _ _ _ _=>False)
  (fun i _ _ ih ih2 e n H R S K=>(match df all i with
   |some o=>jI T G all p false o ih
   |none=>fun _ _ _ _ _ _=>False) e n H R S K∧ih2 e n H R S K) t
def Gz(i:Nat):List Nat→Bool
 |j::_=>Nat.beq j i
 | []=>false
def fC(ops:Array Oper)(f:Option Nat):Ot→Array Bool→Option (List Nat)→Bool
 | .fin,listed,none=>lW ops f [] listed
 | .nil,_,some L=>L.isEmpty
 | .look i r,listed,none=>(Region.ready .any ops listed).contains i&&Region.free .any ops listed i&&(match f with|some f=>i !=f|none=>true)&&fC ops f r (listed.setIfInBounds i true) none
 | .turn i a b,listed,none=>Gz i (Region.ready .any ops listed)&&fC ops f a (listed.setIfInBounds i true) none&&fC ops f b listed (some (Region.ready .any ops listed).tail)
 | .turn i a b,listed,some L=>Gz i L&&fC ops f a (listed.setIfInBounds i true) none&&fC ops f b listed (some L.tail)
 |_,_,_=>false
def Ot.h:Ot→Nat
 | .fin=>0
 | .nil=>0
 | .look _ r=>r.h+1
 | .turn _ a b=>max (a.h+1) b.h
def wz(ops:Array Oper)(f:Option Nat)(t:Ot):Bool:=Region.noSelect ops&&(match f with|some f=>Bn .any ops f|none=>true)&&fC ops f t (Array.replicate ops.size false) none&&Nat.ble (t.h+(match f with|some _=>1|none=>0)) ops.size
inductive F9 where
 |n|r|x (i:Nat)
abbrev KO(U:bH):=F9→En U→Nat→Hs U→Prop
def GA(b:En U→Nat→Hs U→KO U→Prop)(K:KO U)(o:F9)(e:En U)(n:Nat)(H:Hs U):Prop:=match o with
 | .n=>b e n H K
 |o=>K o e n H
def GB(i:Nat)(K:KO U)(o:F9)(e:En U)(n:Nat)(H:Hs U):Prop:=match o with
 | .x j=>(bif Nat.beq i j then K .n e n H else K (.x j) e n H)
 |o=>K o e n H
def D6(a b:En U→Nat→Hs U→KO U→Prop)(e:En U)(n:Nat)(H:Hs U)(K:KO U)(v:Cx U):Prop:=match v with
 | .d .bool t=>Cu t (a e n H K) (b e n H K)
 |_=>False
def cM(φ:List (Nat×Nat))(k:Nat):Nat:=match aB φ k with
 |some i=>i
 |none=>k
def pa(H:Hs U)(i v:Nat):Bool:=match aB H i with
 |some (.row v' _ _ _)=>Nat.beq v v'
 |_=>false
def sw(H:Hs U)(i:Nat):Bool:=match aB H i with
 |some (.map _ _)=>true
 |some (.mapr _ _ _ _ _)=>true
 |_=>false
def sx(H:Hs U)(i:Nat):Bool:=match aB H i with
 |some (.cells _ _)=>true
 |some (.it _ _)=>true
 |_=>false
def I9(s:aY)(t:TT U.ty s)(s':aY)(t':TT U.ty s')(A:Prop):Prop:=match dX U.ty (fun x=>x) s s' t with
 |some u=>u=t'∧A
 |none=>False
def D7(a:aY)(g:TT U.ty a→Bool)(a':aY)(g':TT U.ty a'→Bool)(A:Prop):Prop:=match dX U.ty (fun x=>x→Bool) a a' g with
 |some u=>u=g'∧A
 |none=>False
def D8(a b:aY)(g:TT U.ty a→TT U.ty b→Int)(a' b':aY)(g':TT U.ty a'→TT U.ty b'→Int)(A:Prop):Prop:=match dX U.ty (fun x=>x→TT U.ty b→Int) a a' g with
 |some u=>(match dX U.ty (fun y=>TT U.ty a'→y→Int) b b' u with
  |some u=>u=g'∧A
  |none=>False)
 |none=>False
def GC(φ:List (Nat×Nat))(H':Hs U):List Nat→List Nat→Bool
 | [],[]=>true
 |k::ks,j::js=>Nat.beq (cM φ k) j&&sx H' k&&GC φ H' ks js
 |_,_=>false
def D9(φ:List (Nat×Nat))(n:Nat)(H H':Hs U)(x y:Cx U)(A:Prop):Prop:=match x,y with
 | .nils,.own k w=>bif Nat.ble n (cM φ k)&&pa H' k w then A else False
 | .own i v,.own k w=>bif Nat.beq (cM φ k) i&&pa H i v&&pa H' k w then A else False
 | .own i v,.d s t'=>(match aB H i with
  |some (.frz v' e xs)=>bif Nat.beq v v' then I9 (.sl e) xs s t' A else False
  |_=>False)
 | .ptr i o,.ptr k p=>bif Nat.beq (cM φ k) i&&Nat.beq o p&&sx H' k then A else False
 | .d s t,.d s' t'=>I9 s t s' t' A
 | .nilp,.nilp=>A
 | .nils,.nils=>A
 | .nils,.d (.sl e) xs=>([]:List (TT U.ty e))=xs∧A
 | .nilf,.nilf=>A
 | .nilm,.nilm=>A
 | .mp i,.mp k=>bif Nat.beq (cM φ k) i&&sw H' k then A else False
 | .fn f,.fn g=>bif Nat.beq f g then A else False
 | .clo f js,.clo g ks=>bif Nat.beq f g&&GC φ H' ks js then A else False
 | .f1 a g,.f1 a' g'=>D7 a g a' g' A
 | .f2 a b g,.f2 a' b' g'=>D8 a b g a' b' g' A
 |_,_=>False
def wA(φ:List (Nat×Nat))(n:Nat)(H H':Hs U)(l:List (bO U))(l':List (bO U))(A:Prop):Prop:=match l' with
 | []=>(match l with
  | []=>A
  |_=>False)
 |(m,.d (.st i) t)::l'=>tK 40 l m fun l1=>cJ 20 (.st i) l1 fun u=>u=t∧fA 40 l m fun l2=>wA φ n H H' l2 l' A
 |(m,.d (.arr k e) t)::l'=>tK 40 l m fun l1=>cJ 20 (.arr k e) l1 fun u=>u=t∧fA 40 l m fun l2=>wA φ n H H' l2 l' A
 |(m,y)::l'=>(match l with
  |(k,x)::l=>bif Nat.beq k m then D9 φ n H H' x y (wA φ n H H' l l' A)else False
  | []=>False)
termination_by structural l'
def Ja(φ:List (Nat×Nat))(n:Nat)(e:En U)(H H':Hs U):En U→Prop→Prop
 | [],A=>A
 |(k,.v y)::r,A=>(match aB e k with
  |some (.v x)=>bif x.ag==y.ag then wA φ n H H' x.l y.l (Ja φ n e H H' r A)else False
  |_=>False)
 |_,_=>False
def Jb(φ:List (Nat×Nat))(b n:Nat)(H H':Hs U)(k:Nat)(x y:aJ U)(A:Prop):Prop:=match x,y with
 |_,.dead=>A
 | .cells l t,.cells l' t'=>bif Nat.beq t t' then wA φ n H H' l l' A else False
 | .row v e xs t,.row v' e' xs' t'=>bif Nat.beq t t'&&(Nat.ble b k||Nat.beq v v')then(match dX U.ty List e e' xs with
  |some u=>u=xs'∧A
  |none=>False)else False
 | .map d l,.map d' l'=>(⟨d,l⟩:(d:KD U)×List (TT U.ty d.k×TT U.ty d.v))=⟨d',l'⟩∧A
 | .mapr d l r q g,.mapr d' l' r' q' g'=>(⟨d,(l,r,q)⟩:(d:KD U)×(List (TT U.ty d.k×TT U.ty d.v)×List (TT U.ty d.k×TT U.ty d.v)×List (TT U.ty d.k×TT U.ty d.v)))=⟨d',(l',r',q')⟩∧g=g'∧A
 | .it i g,.it k' g'=>bif Nat.beq (cM φ k') i&&sw H' k' then g=g'∧A else False
 |_,_=>False
def Mz(b n:Nat)(φ:List (Nat×Nat))(k:Nat)(y:aJ U)(A:Prop):Prop:=match y with
 | .row _ e xs _=>bif Nat.ble n (cM φ k)&&Nat.ble b k&&Nat.blt 0 (aI U e)then xs= []∧A else False
 |_=>False
def Ea(φ:List (Nat×Nat))(b n:Nat)(H H':Hs U):Hs U→Prop→Prop
 | [],A=>A
 |(k,y)::r,A=>(match aB H (cM φ k)with
  |some x=>Jb φ b n H H' k x y (Ea φ b n H H' r A)
  |none=>Mz b n φ k y (Ea φ b n H H' r A))
def sy(p:Nat→Bool):List Nat→Bool
 | []=>true
 |i::r=>bif p i then sy p r else false
def CD(b N:Nat)(φ:List (Nat×Nat))(n:Nat)(e:En U)(H:Hs U)(e':En U)(H':Hs U):Prop:=
 bif Nat.ble b N&&l8 (H'.map (·.1))&&l8 (H'.map fun p=>cM φ p.1)&&sy (fun i=>Nat.blt i N) (H'.map (·.1))&&sy (fun i=>Nat.ble b i) (φ.map (·.1))then Ea φ b n H H' H' (Ja φ n e H H' e' True)else False
def tT(T:cZ U)(G:gD U)(b:Nat)(ops:Array Oper)(e:En U)(n:Nat)(H:Hs U)(K:KS U):Prop:=
 (∃(pl:List (Bool×Nat)) (f:Option Nat) (mk:List Nat),su ops f pl=true∧tQ T G ops.toList mk (jJ T G ops.toList f) pl e n H [] [] K)∨
 (∃(t:Ot) (f:Option Nat) (mk:List Nat) (N:Nat) (E:En U) (M:Hs U) (A:Prop),wz ops f t=true∧qI T G ops.toList (fun i=>gE i mk||Nat.ble n i) (jJ T G ops.toList f) t e n H [] [] (fun e' n' H'=>A∧ ∃φ,CD b N φ n' e' H' E M)∧(A→K E N M))
def wB(b:Nat)(a:En U→Nat→Hs U→KO U→Prop)(e:En U)(n:Nat)(H:Hs U)(K:KO U):Prop:=
 ∃(σ:Type) (N:Nat) (E:σ→En U) (M:σ→Hs U) (I:σ→Prop) (μ:σ→Nat),(∃φ s,I s∧CD b N φ n e H (E s) (M s))∧
  ∀s,I s→a (E s) N (M s) fun o e' n' H'=>match o with
   | .n=> ∃φ s',μ s'<μ s∧I s'∧CD b N φ n' e' H' (E s') (M s')
   |o=>K o e' n' H'
def aw(T:cZ U)(G:gD U)(b:Nat)(c:Code):En U→Nat→Hs U→KO U→Prop:=
 Code.rec (motive:=fun _=>En U→Nat→Hs U→KO U→Prop)
  (fun e n H K=>K .n e n H)
  (fun _ ops d e n H K=>bif d then tT T G b ops e n H (K .n)else mH T G ops.toList ops.toList e n H [] [] (K .n))
  (fun _ _ a b e n H K=>a e n H (GA b K))
  (fun c _ _ a b e n H K=>ic [] [] e c (D6 a b e n H K))
  (fun i _ a e n H K=>a e n H (GB i K))
  (fun _ a e n H K=>wB b a e n H K)
  (fun _ _ _ _ _ _ _ _ _ _=>False)
  (fun i e n H K=>K (.x i) e n H)
  (fun _ _ _ _ _ _=>False)
  (fun _ e n H K=>K .n e n H)
  (fun _ _ _ _ _=>False)
  (fun e n H K=>K .r e n H)
  (fun _ _ _ _ _=>False)
  c
def wC(T:cZ U)(l:List ResultVar)(e:En U)(H:Hs U):(List (Va U)→Prop)→Prop:=
 List.rec (motive:=fun _=>(List (Va U)→Prop)→Prop) (fun K=>K []) (fun r _ ih K=>match r with
  | .tmp t=>ka [] [] e (.tmp t) fun v=>ih fun l=>K (v::l)
  | .cell p t=>ic [] [] e (.tmp p) fun c=>qw T t H c fun v=>ih fun l=>K (v::l)) l
def Eb(l:List (Va U))(K:AV U→Prop):Prop:=match l with
 |x:: []=>K (.v x)
 |l=>K (.tup l)
def u9:Nat→Nat→List Nat→Bool
 |_,0,_=>true
 |j,k+1,a::r=>bif Nat.beq a j then u9 (j+1) k r else false
 |_,_+1,[]=>false
def GD(T:cZ U)(fn:Func)(md:List Md)(em:List (Nat×List (Nat×Option aY)))(b:Nat)(K:AV U→List (aJ U)→Prop)(o:F9)(e:En U)(n:Nat)(H:Hs U):Prop:=match o with
 | .x _=>False
 |_=>bif Nat.ble fn.results.toList.length 3 then wC T fn.results.toList e H fun l=>F6 md l H fun H=>I8 em H fun H=>CA md l H fun H l=>zF (uY H 30 0 (uZ H l (List.range b))) fun L=>bif l8 L&&u9 0 b L then qG false H L l fun l=>qF false H L L fun es=>Eb l fun r=>K r es else False else False
def Ec(T:cZ U)(G:gD U)(fn:Func)(md:List Md)(em:List (Nat×List (Nat×Option aY)))(e:En U)(b:Nat)(H:Hs U)(K:AV U→List (aJ U)→Prop):Prop:=match fn.body with
 |some c=>aw T G b c e b H (GD T fn md em b K)
 |none=>False
end
end Go.Proofs.YtiliglahlfkikaaGreatDoor.V
end

section
namespace Go.Proofs.YtiliglahlfkikaaGreatDoor.V
open Go.RowKit
def gB:List Nat:= [0]
def Gv(w:World):Prop:= ∃mx,w.cell? ⟨0,0,none⟩=some (.int .i64 mx)
theorem Gv.fr{w w':World}{O:List Nat}(h:Gv w)(hf:Fr O w w')(hO: ∀o∈O,o∉gB):Gv w':=by
 obtain⟨mx,h⟩:=h;refine⟨mx,?_⟩;have hl:(0:Nat)<w.heap.size:=by
  unfold World.cell? at h;split at h
  ·rename_i c t x hb;exact bd hb
  ·cases h
 rw[hf.cell (p:=⟨0,0,none⟩) hl (fun h0=>hO 0 h0 (by simp[gB]))];exact h
theorem Gv.lt{w:World}(h:Gv w): ∀g∈gB,g<w.heap.size:=fun g hg=>by
 obtain⟨mx,h⟩:=h;have e:g=0:=by simpa[gB]using hg
 subst e;unfold World.cell? at h;split at h
 ·rename_i c t x hb;exact bd hb
 ·cases h
end Go.Proofs.YtiliglahlfkikaaGreatDoor.V
end

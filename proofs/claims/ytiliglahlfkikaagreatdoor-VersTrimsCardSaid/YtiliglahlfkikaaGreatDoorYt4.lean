/- Package variables that the program only reads: what they hold. -/
import Derived.Test.YtiliglahlfkikaaGreatDoorYt3
import Derived.Test.YtiliglahlfkikaaGreatDoorYt0
section
set_option linter.unusedVariables false
namespace Go.Proofs.YtiliglahlfkikaaGreatDoor.V
open Go.RowKit
inductive Md where
 |n|d (s:bg)|f1 (a:bg)|f2 (a b:bg)
 |p (fs:List (Nat×Option bg))-- a pointer to our own cells,of which some become data
structure bh(U:bQ) where
 md:List Md
 run:List (Va U)→List (aM U)→(AV U→List (aM U)→Prop)→Prop
abbrev iI(U:bQ):=List (Nat×bh U)
section
variable {U:bQ}
def Fp(v:Va U)(K:Cx U→Prop):Prop:=match v with
 |⟨false,(_,c):: []⟩=>K c
 |_=>False
def je(p:dh)(R e:En U)(o:Operand)(K:Cx U→Prop):Prop:=ln p R e o fun v=>Fp v K
def g7(H:Hs U)(i:Nat)(x:aM U):(Hs U→Prop)→Prop:=
 List.rec (motive:=fun _=>(Hs U→Prop)→Prop) (fun _=>False) (fun y r ih K=>bif Nat.beq y.1 i then K ((i,x)::r)else ih fun r'=>K (y::r')) H
def t7(H:Hs U)(x:Cx U)(K:(e:bg)→List (TT U.ty e)→Prop):Prop:=match x with
 | .d (.sl e) xs=>bif Nat.blt 0 (aL U e)then K e xs else False
 | .own i v=>(match aF H i with
  |some (.row v' e xs _)=>bif Nat.beq v v' then K e xs else False
  |some (.frz v' e xs)=>bif Nat.beq v v' then K e xs else False
  |_=>False)
 |_=>False
def rT(H:Hs U)(x:bW U)(K:Hs U→bW U→Prop):Prop:=match x with
 |(1,.own i v)=>(match aF H i with
  |some (.row v' e xs _)=>bif Nat.beq v v' then g7 H i (.frz v e xs) fun H=>K H (1,.d (.sl e) xs)else False
  |some (.frz v' e xs)=>bif Nat.beq v v' then K H (1,.d (.sl e) xs)else False
  |_=>False)
 |x=>K H x
def kG(l:List (bW U)):Hs U→(Hs U→List (bW U)→Prop)→Prop:=
 List.rec (motive:=fun _=>Hs U→(Hs U→List (bW U)→Prop)→Prop) (fun H K=>K H []) (fun x _ ih H K=>rT H x fun H y=>ih H fun H r=>K H (y::r)) l
def xW(s:bg)(H:Hs U)(x:Va U)(K:Hs U→TT U.ty s→Prop):Prop:=kG x.l H fun H l=>da 20 s l fun t=>K H t
def Eb(T:dL U)(t:Nat)(l:List (bW U))(K:Va U→Prop):Prop:=match aF T t with
 |some ti=>(match tX ti.kd with
  |false=>(match l with
   |(_,.d (.st i) x):: []=>ll (.d (.st i) x) fun l=>K ⟨false,l⟩
   |l=>K ⟨false,l⟩)
  |true=>K ⟨true,l⟩)
 |none=>False
def rU(T:dL U)(t:Nat)(H:Hs U)(x:Cx U)(K:Va U→Prop):Prop:=match aF T t with
 |some ti=>(match x with
  | .ptr i off=>(match aF H i with
   |some (.cells l _)=>lm l off ti.sz fun l=>Eb T t l K
   |_=>False)
  | .pel i v q off=>(match aF H i with
   |some (.row v' e xs _)=>bif Nat.beq v v' then xJ U e xs q fun x=>lm [(aL U e,.d e x)] off ti.sz fun l=>Eb T t l K else False
   |some (.frz v' e xs)=>bif Nat.beq v v' then xJ U e xs q fun x=>lm [(aL U e,.d e x)] off ti.sz fun l=>Eb T t l K else False
   |_=>False)
  | .pax i off n e q o=>(match aF H i with
   |some (.cells l _)=>lm l off (n*aL U e) fun l=>da 20 (.arr n e) l fun xs=>xJ U e xs q fun x=>lm [(aL U e,.d e x)] o ti.sz fun l=>Eb T t l K
   |_=>False)
  | .pd s x=>bif Nat.beq ti.sz (aL U s)then Eb T t [(aL U s,.d s x)] K else False
  |_=>False)
 |none=>False
def t8(T:dL U)(t:Nat)(H:Hs U)(x:Cx U)(y:Va U)(K:Hs U→Prop):Prop:=match aF T t with
 |some ti=>(match x with
  | .ptr i off=>(match aF H i with
   |some (.cells l u)=>bif Nat.beq (jI y.l) ti.sz then qu 40 l off ti.sz y.l fun l=>g7 H i (.cells l u) K else False
   |_=>False)
  | .pel i v q off=>kG y.l H fun H yl=>(match aF H i with
   |some (.row v' e xs u)=>bif Nat.beq v v'&&Nat.beq (jI yl) ti.sz then xJ U e xs q fun x=>qu 40 [(aL U e,.d e x)] off ti.sz yl fun l=>da 20 e l fun z=>g7 H i (.row v e (xs.set q.toNat z) u) K else False
   |_=>False)
  | .pax i off n e q o=>kG y.l H fun H yl=>(match aF H i with
   |some (.cells l u)=>bif Nat.beq (jI yl) ti.sz then lm l off (n*aL U e) fun la=>da 20 (.arr n e) la fun xs=>xJ U e xs q fun x=>qu 40 [(aL U e,.d e x)] o ti.sz yl fun l'=>da 20 e l' fun z=>qu 40 l off (n*aL U e) [(n*aL U e,.d (.arr n e) (List.set (α:=TT U.ty e) xs q.toNat z))] fun l=>g7 H i (.cells l u) K else False
   |_=>False)
  |_=>False)
 |none=>False
def pn(H:Hs U)(i v:Nat):Bool:=match aF H i with
 |some (.row v' _ _ _)=>Nat.beq v v'
 |some (.frz v' _ _)=>Nat.beq v v'
 |_=>false
def Fs(T:dL U)(t f:Nat)(H:Hs U)(x:Cx U)(K:Cx U→Prop):Prop:=match aF T t with
 |some ti=>(match dR ti.fs f with
  |some (off,ft)=>(match x with
   | .ptr i o=>K (.ptr i (o+off))
   | .pel i v q o=>bif pn H i v then K (.pel i v q (o+off))else False
   | .pax i o n e q o'=>K (.pax i o n e q (o'+off))
   | .pd s y=>(match aF T ft with
    |some fi=>lm [(aL U s,.d s y)] off fi.sz fun l=>(match l with
     |(_,.d s' y'):: []=>bif Nat.beq ti.sz (aL U s)then K (.pd s' y')else False
     |_=>False)
    |none=>False)
   |_=>False)
  |none=>False)
 |none=>False
def Ft(T:dL U)(t f:Nat)(l:List (bW U))(K:Va U→Prop):Prop:=match aF T t with
 |some ti=>(match dR ti.fs f with
  |some (off,ft)=>(match aF T ft with
   |some fi=>lm l off fi.sz fun l=>Eb T ft l K
   |none=>False)
  |none=>False)
 |none=>False
def Bk(T:dL U)(p:dh)(R e:En U)(fs:List (Nat×Nat))(ps:List (Nat×Operand)):List (bW U)→(List (bW U)→Prop)→Prop:=
 List.rec (motive:=fun _=>List (bW U)→(List (bW U)→Prop)→Prop) (fun l K=>K l) (fun x _ ih l K=>match dR fs x.1 with
  |some (off,ft)=>(match aF T ft with
   |some fi=>ln p R e x.2 fun y=>bif Nat.beq (jI y.l) fi.sz then qu 40 l off fi.sz y.l fun l=>ih l K else False
   |none=>False)
  |none=>False) ps
def HP(m el:Nat)(k:Nat):Nat→List (Nat×Nat):=
 Nat.rec (motive:=fun _=>Nat→List (Nat×Nat)) (fun _=> []) (fun _ ih off=>(off,el)::ih (off+m)) k
def Bl(p:dh)(R e:En U)(s:bg)(k:Nat)(ps:List (Nat×Operand)):Nat→Hs U→(Hs U→List (TT U.ty s)→Prop)→Prop:=
 List.rec (motive:=fun _=>Nat→Hs U→(Hs U→List (TT U.ty s)→Prop)→Prop) (fun j H K=>bif Nat.beq j k then K H []else False) (fun x _ ih j H K=>bif Nat.beq x.1 j then ln p R e x.2 fun y=>xW s H y fun H a=>ih (j+1) H fun H r=>K H (a::r)else False) ps
def pickK(b:Bool)(x y:Va U)(K:Va U→Prop):Prop:=match x,y with
 |⟨a,(k,.d s u):: []⟩,⟨a',(_,.d s' w):: []⟩=>bif a==a'&&Nat.beq k (aL U s)then(match eY U.ty (fun x=>x) s' s w with
  |some w=>K ⟨a,[(k,.d s (bif b then u else w))]⟩
  |none=>False)else False
 |_,_=>False
def Fu(p:dh)(R e:En U)(c a b:Operand)(K:Va U→Prop):Prop:=match c with
 | .tmp s=>je p R e (.tmp s) fun v=>(match v with
  | .d .bool t=>(match a with
   | .const (.bool true)=>je ((s,false)::p) R e b fun y=>(match y with
    | .d .bool u=>K ⟨false,[(1,.d .bool (t||u))]⟩
    |_=>False)
   |_=>(match b with
    | .const (.bool false)=>je ((s,true)::p) R e a fun y=>(match y with
     | .d .bool u=>K ⟨false,[(1,.d .bool (t&&u))]⟩
     |_=>False)
    |_=>ln ((s,true)::p) R e a fun x=>ln ((s,false)::p) R e b fun y=>pickK t x y K))
  |_=>False)
 |_=>False
def xX(T:dL U)(t:Nat)(K:Kd→Prop):Prop:=match aF T t with
 |some ti=>K ti.kd
 |none=>False
def xY:Kd→Bool| .sl _=>true|_=>false
def nR:Kd→Bool| .str=>true|_=>false
def Fv(T:dL U)(t:Nat)(K:Nat→TI U→Prop):Prop:=match aF T t with
 |some ti=>(match ti.kd with
  | .sl e=>(match aF T e with|some ei=>K e ei|none=>False)
  |_=>False)
 |none=>False
def nK(neg b:Bool)(K:Va U→Prop):Prop:=match neg with
 |true=>K ⟨false,[(1,.d .bool (!b))]⟩
 |false=>K ⟨false,[(1,.d .bool b)]⟩
def Fx(neg:Bool)(H:Hs U)(x:Cx U)(K:Va U→Prop):Prop:=match x with
 | .nilp| .nils=>K ⟨false,[(1,.d .bool (!neg))]⟩
 | .ptr _ _| .pd _ _| .pax _ _ _ _ _ _=>K ⟨false,[(1,.d .bool neg)]⟩
 | .pel i v _ _=>bif pn H i v then K ⟨false,[(1,.d .bool neg)]⟩else False
 |x=>t7 H x fun e xs=> ∀b:Bool,(b=true→xs= [])→nK neg b K
def xZ(T:dL U)(t:Nat)(x y:Cx U):Bool:=match x,y with
 | .nilp,.nilp| .ptr _ _,.nilp| .pd _ _,.nilp| .pel _ _ _ _,.nilp| .pax _ _ _ _ _ _,.nilp=>(match aF T t with|some ti=>(match ti.kd with| .ptr _=>true|_=>false)|none=>false)
 | .nils,.nils| .own _ _,.nils| .d (.sl _) _,.nils=>(match aF T t with|some ti=>(match ti.kd with| .sl _=>true|_=>false)|none=>false)
 |_,_=>false
def Fy(g:Prop→Prop)(T:dL U)(op:BinOp)(t:Nat)(H:Hs U)(x y:Cx U)(K:Va U→Prop):Prop:=match x,y with
 | .d (.int k) p,.d (.int k') q=>Fl g op k p k' q K
 | .d .str p,.d .str q=>Fm g op p q K
 | .d .bool p,.d .bool q=>xX T t fun k=>(match k with| .bool=>Fo op p q K|_=>False)
 |x,y=>bif xZ T t x y then(match op with
  | .eql=>Fx false H x K
  | .neq=>Fx true H x K
  |_=>False)else False
def Od(U:bQ)(s:bg):TT U.ty s→TT U.ty s→(Bool→Prop)→Prop:=match s with
 | .st i=>fun a b K=>(U.rd i).eqK a b K
 | .arr _ (.int _)=>fun(a b:List Int) K=>K (decide (a=b))
 | .arr _ .bool=>fun(a b:List Bool) K=>K (decide (a=b))
 | .arr _ .str=>fun(a b:List (List UInt8)) K=>K (decide (a=b))
 |_=>fun _ _ _=>False
def Fz(g:Prop→Prop)(T:dL U)(op:BinOp)(t:Nat)(H:Hs U)(x y:Va U)(K:Va U→Prop):Prop:=match x,y with
 |⟨false,(_,a):: []⟩,⟨false,(_,b):: []⟩=>Fy g T op t H a b K
 |⟨true,l⟩,⟨true,l'⟩=>(match aF T t with
  |some ti=>(match ti.sh,ti.cmp with
   |some s,true=>da 20 s l fun a=>da 20 s l' fun b=>Od U s a b fun r=>(match op with
    | .eql=>K ⟨false,[(1,.d .bool r)]⟩
    | .neq=>K ⟨false,[(1,.d .bool (!r))]⟩
    |_=>False)
   |_,_=>False)
  |none=>False)
 |_,_=>False
def FA:Kd→Bool| .mp _ _=>true|_=>false
def x3(H:Hs U)(x:Cx U)(K:(d:KD U)→List (TT U.ty d.k×TT U.ty d.v)→Prop):Prop:=match x with
 | .mp i=>(match aF H i with
  |some (.map d l)=>K d l
  |some (.mapr d l _ _ _)=>K d l
  |_=>False)
 |_=>False
def wG(T:dL U)(t:Nat)(d:KD U):Bool:=match aF T t with
 |some ti=>(match ti.kd with
  | .mp k v=>Nat.beq k d.kt&&Nat.beq v d.vt
  |_=>false)
 |none=>false
def rV(s:bg)(x:TT U.ty s):Va U:=⟨eE s,[(aL U s,.d s x)]⟩
def Ie(ok:Bool)(d:KD U)(r:Option (TT U.ty d.v))(K:AV U→Prop):Prop:=match ok with
 |true=>K (.tup [rV d.v (r.getD d.zero),⟨false,[(1,.d .bool r.isSome)]⟩])
 |false=>K (.v (rV d.v (r.getD d.zero)))
def FB(T:dL U)(t:Nat)(H:Hs U)(x:Cx U)(K:Int→Prop):Prop:=match x with
 | .d .str s=>xX T t fun k=>bif nR k then K (s.length:Int)else False
 | .nils=>xX T t fun k=>bif xY k then K 0 else False
 | .mp i=>xX T t fun k=>bif FA k then x3 H (.mp i) fun _ l=>VS ((l.length:Int)≤9223372036854775807) (K (l.length:Int))else False
 |x=>xX T t fun k=>bif xY k then t7 H x fun _ xs=>K (xs.length:Int)else False
def FC(g:Prop→Prop)(T:dL U)(t:Nat)(x:Cx U)(q:Int)(K:Va U→Prop):Prop:=match x with
 | .d .str s=>xX T t fun k=>bif nR k then VS (g (0≤q∧q<s.length)) (K ⟨false,[(1,.d (.int .u8) ((ix s q).toNat:Int))]⟩)else False
 |_=>False
def If(g:Prop→Prop)(T:dL U)(t:Nat)(H:Hs U)(x:Cx U)(q:Int)(K:Cx U→Prop):Prop:=Fv T t fun _ ei=>match x with
 | .d (.sl e) xs=>bif Nat.beq ei.sz (aL U e)&&Nat.blt 0 (aL U e)then VS (g (0≤q∧q<xs.length)) (xJ U e xs q fun y=>K (.pd e y))else False
 | .own i v=>(match aF H i with
  |some (.row v' e xs _)=>bif Nat.beq v v'&&Nat.beq ei.sz (aL U e)then VS (g (0≤q∧q<xs.length)) (K (.pel i v q 0))else False
  |some (.frz v' e xs)=>bif Nat.beq v v'&&Nat.beq ei.sz (aL U e)then VS (g (0≤q∧q<xs.length)) (xJ U e xs q fun y=>K (.pd e y))else False
  |_=>False)
 |_=>False
def FD(g:Prop→Prop)(T:dL U)(t:Nat)(l:List (bW U))(q:Int)(K:Va U→Prop):Prop:=match aF T t with
 |some ti=>(match ti.kd,ti.sh with
  | .arr n e,some (.arr m s)=>(match aF T e with
   |some ei=>bif Nat.beq n m&&Nat.beq ei.sz 1&&Nat.beq (aL U s) 1&&!tX ei.kd then da 20 (.arr m s) l fun xs=>VS (g (0≤q∧q<n)) (xJ U s xs q fun x=>K ⟨false,[(1,.d s x)]⟩)else False
   |none=>False)
  |_,_=>False)
 |none=>False
def FE(g:Prop→Prop)(T:dL U)(n e:Nat)(x:Cx U)(y:Operand)(q:Int)(K:Cx U→Prop):Prop:=match aF T e with
 |some ei=>(match ei.sh with
  |some s=>bif Nat.beq ei.sz (aL U s)then(match x with
   | .ptr i off=>(match y with
    | .const (.int _ (.ofNat c))=>bif Nat.blt c n then K (.ptr i (off+c*aL U s))else False
    |_=>VS (g (0≤q∧q<n)) (K (.pax i off n s q 0)))
   | .pd (.arr m s') xs=>bif Nat.beq n m&&Nat.beq (aL U s') (aL U s)then VS (g (0≤q∧q<n)) (xJ U s' xs q fun x=>K (.pd s' x))else False
   |_=>False)else False
  |none=>False)
 |none=>False
def Bm(T:dL U)(t:Nat):Option (Nat×Nat):=match aF T t with
 |some ti=>(match ti.kd with
  | .arr n e=>some (n,e)
  |_=>none)
 |none=>none
def po(p:dh)(R e:En U)(o:Option Operand)(d:Int)(K:Int→Prop):Prop:=match o with
 |none=>K d
 |some o=>je p R e o fun v=>(match v with
  | .d (.int _) q=>K q
  |_=>False)
def Bn(g:Prop→Prop)(T:dL U)(t:Nat)(p:dh)(R e:En U)(x:Cx U)(lo hi:Option Operand)(K:Cx U→Prop):Prop:=match x with
 | .d .str s=>xX T t fun k=>bif nR k then po p R e lo 0 fun a=>po p R e hi (s.length:Int) fun b=>VS (g (0≤a∧a≤b∧b≤s.length)) (match lo,hi with
  |none,_=>K (.d .str (s.take b.toNat))
  |_,none=>K (.d .str (s.drop a.toNat))
  |_,_=>K (.d .str ((s.take b.toNat).drop a.toNat)))else False
 | .d (.sl s) xs=>Fv T t fun _ ei=>bif Nat.beq ei.sz (aL U s)then po p R e lo 0 fun a=>po p R e hi (xs.length:Int) fun b=>VS (g (0≤a∧a≤b∧b≤xs.length)) (match lo,hi with
  |none,_=>K (.d (.sl s) (xs.take b.toNat))
  |_,none=>K (.d (.sl s) (xs.drop a.toNat))
  |_,_=>K (.d (.sl s) ((xs.take b.toNat).drop a.toNat)))else False
 |_=>False
def Ec(H:Hs U):Cx U→Bool
 | .ptr _ _| .pd _ _| .pax _ _ _ _ _ _=>true
 | .pel i v _ _=>pn H i v
 |_=>false
def K6(l:List (Va U)):(List Nat→Prop)→Prop:=
 List.rec (motive:=fun _=>(List Nat→Prop)→Prop) (fun K=>K []) (fun x _ ih K=>match x with
  |⟨false,(_,.ptr j 0):: []⟩=>ih fun r=>K (j::r)
  |_=>False) l
def K7(p:dh)(R e:En U)(x:Operand)(K:AV U→Prop):Prop:=match x with
 | .tmp t=>(match aF R t with
  |some (.gd q y)=>bif hU q p then K (.v y)else False
  |some _=>False
  |none=>(match aF e t with
   |some (.v y)=>K (.v y)
   |some (.tup l)=>K (.tup l)
   |_=>False))
 |x=>ln p R e x fun v=>K (.v v)
def kw(g:Prop→Prop)(T:dL U)(p:dh)(o:Oper)(R e:En U)(H:Hs U)(K:AV U→Prop):Prop:=match o.op with
 | .move x=>K7 p R e x K
 | .assign x=>ln p R e x fun v=>K (.v v)
 | .pick c a b=>Fu p R e c a b fun v=>K (.v v)
 | .load t x=>je p R e x fun c=>rU T t H c fun v=>K (.v v)
 | .nilCheck x=>je p R e x fun c=>bif Ec H c then K (.v ⟨false,[(1,c)]⟩)else False
 | .binOp op t x y _=>ln p R e x fun v=>ln p R e y fun w=>Fz g T op t H v w fun v=>K (.v v)
 | .unOp op _ x=>je p R e x fun c=>(match op,c with
  | .not,.d .bool b=>K (.v ⟨false,[(1,.d .bool (!b))]⟩)
  | .neg,.d (.int k) q=>Ea g k q q (Neg.neg (α:=Int) q) fun r=>K (.v ⟨false,[(1,.d (.int k) r)]⟩)
  |_,_=>False)
 | .fieldAddr t x f=>je p R e x fun c=>Fs T t f H c fun c=>K (.v ⟨false,[(1,c)]⟩)
 | .field t x f=>ln p R e x fun v=>(match v.ag with
  |true=>Ft T t f v.l fun v=>K (.v v)
  |false=>False)
 | .indexAddr t x y=>je p R e x fun c=>je p R e y fun d=>(match d with
  | .d (.int _) q=>(match Bm T t with
   |some (n,el)=>FE g T n el c y q fun c=>K (.v ⟨false,[(1,c)]⟩)
   |none=>If g T t H c q fun c=>K (.v ⟨false,[(1,c)]⟩))
  |_=>False)
 | .index t x y=>ln p R e x fun v=>je p R e y fun d=>(match d with
  | .d (.int _) q=>(match v.ag with
   |true=>FD g T t v.l q fun v=>K (.v v)
   |false=>Fp v fun c=>FC g T t c q fun v=>K (.v v))
  |_=>False)
 | .slice t x lo hi none=>je p R e x fun c=>Bn g T t p R e c lo hi fun c=>K (.v ⟨false,[(1,c)]⟩)
 | .lookup t m kx ok=>je p R e m fun c=>ln p R e kx fun kv=>x3 H c fun d l=>bif wG T t d&&(kv.ag==eE d.k)then da 20 d.k kv.l fun k=>Ie ok d (@cF _ _ d.dec l k) K else False
 | .entry x=>je p R e x fun c=>(match c with
  | .ptr j 0=>(match aF H j with
   |some (.it i gh)=>(match aF H i with
    |some (.mapr d l left (q:: []) gh')=>VS (gh=gh') (K (.tup [rV d.k q.1,rV d.v q.2]))
    |_=>False)
   |_=>False)
  |_=>False)
 | .extract x i=>(match x with
  | .tmp t=>(match aF R t with
   |some _=>False
   |none=>(match aF e t with
    |some (.tup l)=>(match dR l i with|some v=>K (.v v)|none=>False)
    |_=>False))
  |_=>False)
 | .build t ps=>(match aF T t with
  |some ti=>(match ti.kd with
   | .st=>Bk T p R e ti.fs ps.toList ti.zero fun l=>K (.v ⟨true,l⟩)
   | .arr k el=>(match aF T el with
    |some ei=>Bk T p R e (HP ei.sz el k 0) ps.toList ti.zero fun l=>K (.v ⟨true,l⟩)
    |none=>False)
   |_=>False)
  |none=>False)
 | .makeFunc (.func f) first caps=>(match first.toList with
  | []=>rS p R e caps.toList fun xs=>K6 xs fun js=>K (.v ⟨false,[(1,.clo f js)]⟩)
  |_=>False)
 | .convert s d x=>je p R e x fun c=>xX T s fun _=>xX T d fun kd=>(match c,kd with
  | .d (.int k) q,.int k'=>KN (g (d9 k q→d9 k' q)) (K (.v ⟨false,[(1,.d (.int k') q)]⟩)) (K5 k' q fun r=>K (.v ⟨false,[(1,.d (.int k') r)]⟩))
  |_,_=>False)
 | .call c=>(match c.callee,c.args.toList,c.argTypes.toList with
  | .builtin .len,x:: [],t:: []=>je p R e x fun a=>FB T t H a fun r=>K (.v ⟨false,[(1,.d (.int .i64) r)]⟩)
  | .builtin .max,x::y:: [],_::_:: []=>je p R e x fun a=>je p R e y fun b=>(match a,b with
   | .d (.int k) a,.d (.int k') b=>bif jH k k' then K (.v ⟨false,[(1,.d (.int k) (max (α:=Int) a b))]⟩)else False
   |_,_=>False)
  | .builtin .min,x::y:: [],_::_:: []=>je p R e x fun a=>je p R e y fun b=>(match a,b with
   | .d (.int k) a,.d (.int k') b=>bif jH k k' then K (.v ⟨false,[(1,.d (.int k) (min (α:=Int) a b))]⟩)else False
   |_,_=>False)
  |_,_,_=>False)
 |_=>False
end
end Go.Proofs.YtiliglahlfkikaaGreatDoor.V
end

section
set_option linter.unusedVariables false
namespace Go.Proofs.YtiliglahlfkikaaGreatDoor.V
open Go.RowKit
section
variable {U:bQ}
def iJ(i:Nat):List Nat→Bool
 | []=>false
 |j::r=>Nat.beq j i||iJ i r
def K8(i:Nat)(L:List Nat):List Nat:=bif iJ i L then L else L++ [i]
def ON(H:Hs U)(x:Cx U):Option Nat:=match x with
 | .own i _=>(match aF H i with|some (.row _ _ _ _)=>some i|_=>none)
 | .ptr i _=>some i
 | .pel i _ _ _=>some i
 | .pax i _ _ _ _ _=>some i
 | .mp i=>some i
 | .clo _ (j:: [])=>some j
 |_=>none
def x4(H:Hs U):List (bW U)→List Nat→List Nat
 | [],L=>L
 |(_,x)::r,L=>match ON H x with
  |some i=>x4 H r (K8 i L)
  |none=>x4 H r L
def K9(H:Hs U)(i:Nat)(L:List Nat):List Nat:=match aF H i with
 |some (.cells l _)=>x4 H l L
 |some (.clo _ l)=>x4 H l L
 |_=>L
def wH(H:Hs U):Nat→Nat→List Nat→List Nat
 |0,_,L=>L
 |n+1,j,L=>match dR L j with
  |some i=>wH H n (j+1) (K9 H i L)
  |none=>L
def wJ(H:Hs U):List (Va U)→List Nat→List Nat
 | [],L=>L
 |x::r,L=>wJ H r (x4 H x.l L)
def r8(L:List Nat)(i:Nat):Nat→(Nat→Prop)→Prop:=
 List.rec (motive:=fun _=>Nat→(Nat→Prop)→Prop) (fun _ _=>False) (fun j _ ih c K=>bif Nat.beq j i then K c else ih (c+1) K) L
def Bp(L:List Nat):(List Nat→Prop)→Prop:=
 List.rec (motive:=fun _=>(List Nat→Prop)→Prop) (fun K=>K []) (fun x _ ih K=>ih fun r=>K (x::r)) L
def zV(z:Bool)(v:Nat)(K:Nat→Prop):Prop:=match z with
 |true=>K 0
 |false=>K v
def ua(z:Bool)(H:Hs U)(L:List Nat)(x:Cx U)(K:Cx U→Prop):Prop:=match x with
 | .own i v=>(match aF H i with
  |some (.row v' _ _ _)=>bif Nat.beq v v' then r8 L i 0 fun j=>zV z v fun v=>K (.own j v)else K .un
  |some (.frz v' e xs)=>bif Nat.beq v v' then K (.d (.sl e) xs)else K .un
  |_=>K .un)
 | .ptr i o=>r8 L i 0 fun j=>K (.ptr j o)
 | .pel i v q o=>(match aF H i with
  |some (.row v' _ _ _)=>bif Nat.beq v v' then r8 L i 0 fun j=>zV z v fun v=>K (.pel j v q o)else K .un
  |_=>K .un)
 | .pax _ _ _ _ _ _=>K .un
 | .clo f (i:: [])=>r8 L i 0 fun j=>K (.clo f [j])
 | .clo _ _=>K .un
 | .mp i=>r8 L i 0 fun j=>K (.mp j)
 |x=>K x
def pq(z:Bool)(H:Hs U)(L:List Nat)(l:List (bW U)):(List (bW U)→Prop)→Prop:=
 List.rec (motive:=fun _=>(List (bW U)→Prop)→Prop) (fun K=>K []) (fun x _ ih K=>ua z H L x.2 fun y=>ih fun r=>K ((x.1,y)::r)) l
def FG(z:Bool)(H:Hs U)(L:List Nat)(x:aM U)(K:aM U→Prop):Prop:=match x with
 | .cells l t=>pq z H L l fun l=>K (.cells l t)
 | .row v e xs t=>zV z v fun v=>K (.row v e xs t)
 | .frz _ _ _=>K .dead
 | .clo _ _=>K .dead
 | .map d l=>K (.map d l)
 | .mapr d l _ _ _=>K (.map d l)
 | .it _ _=>K .dead
 | .hid _ _ _=>K .dead
 | .dead=>K .dead
def r9(z:Bool)(H:Hs U)(L:List Nat)(M:List Nat):(List (aM U)→Prop)→Prop:=
 List.rec (motive:=fun _=>(List (aM U)→Prop)→Prop) (fun K=>K []) (fun i _ ih K=>match aF H i with
  |some x=>FG z H L x fun y=>ih fun r=>K (y::r)
  |none=>False) M
def sd(z:Bool)(H:Hs U)(L:List Nat)(l:List (Va U)):(List (Va U)→Prop)→Prop:=
 List.rec (motive:=fun _=>(List (Va U)→Prop)→Prop) (fun K=>K []) (fun x _ ih K=>pq z H L x.l fun l=>ih fun r=>K (⟨x.ag,l⟩::r)) l
def Bq(fs:List (Nat×Option bg)):Hs U→List (bW U)→(Hs U→List (bW U)→Prop)→Prop:=
 List.rec (motive:=fun _=>Hs U→List (bW U)→(Hs U→List (bW U)→Prop)→Prop) (fun H l K=>K H l) (fun x _ ih H l K=>tK 40 l x.1 fun l1=>gH 40 l x.1 fun l2=>match x.2 with
  |some s=>bif Nat.beq x.1 (aL U s)then kG l1 H fun H l1=>da 20 s l1 fun u=>ih H l2 fun H r=>K H ((x.1,.d s u)::r)else False
  |none=>ih H l2 fun H r=>qt l1 r fun r=>K H r) fs
def wK(fs:List (Nat×Option bg))(j:Nat)(H:Hs U)(K:Hs U→Prop):Prop:=match aF H j with
 |some (.cells l t)=>Bq fs H l fun H l=>g7 H j (.cells l t) K
 |_=>False
def KP(em:List (Nat×List (Nat×Option bg))):Hs U→(Hs U→Prop)→Prop:=
 List.rec (motive:=fun _=>Hs U→(Hs U→Prop)→Prop) (fun H K=>K H) (fun x _ ih H K=>wK x.2 x.1 H fun H=>ih H K) em
def HQ(md:List Md):List (Va U)→Hs U→(Hs U→Prop)→Prop:=
 List.rec (motive:=fun _=>List (Va U)→Hs U→(Hs U→Prop)→Prop) (fun _ H K=>K H) (fun m _ ih l H K=>match l with
  | []=>K H
  |x::r=>(match m with
   | .p fs=>(match x with
    |⟨false,(_,.ptr j 0):: []⟩=>wK fs j H fun H=>ih r H K
    |⟨false,(_,.nilp):: []⟩=>ih r H K
    |_=>False)
   |_=>ih r H K)) md
def Ed(md:List Md):List (Va U)→Hs U→(Hs U→List (Va U)→Prop)→Prop:=
 List.rec (motive:=fun _=>List (Va U)→Hs U→(Hs U→List (Va U)→Prop)→Prop) (fun l H K=>K H l) (fun m _ ih l H K=>match l with
  | []=>K H []
  |x::r=>(match m with
   | .d s=>xW s H x fun H t=>ih r H fun H r=>K H (⟨x.ag,[(aL U s,.d s t)]⟩::r)
   |_=>ih r H fun H r=>K H (x::r))) md
def Br(T:dL U)(js:List Nat):Hs U→(Hs U→List (Va U)→Prop)→Prop:=
 List.rec (motive:=fun _=>Hs U→(Hs U→List (Va U)→Prop)→Prop) (fun H K=>K H []) (fun j _ ih H K=>match aF H j with
  |some (.cells l t)=>(match aF T t with
   |some ti=>(match ti.sh with
    |some s=>kG l H fun H l=>da 20 s l fun x=>ih H fun H r=>K H (⟨false,[(1,.pd s x)]⟩::r)
    |none=>False)
   |none=>False)
  |_=>False) js
def x5(c:bh U)(caps:List (Va U))(a:bg)(g:TT U.ty a→Bool):Prop:= ∀t:TT U.ty a,c.run (⟨eE a,[(aL U a,.d a t)]⟩::caps) [] fun r es=>r= .v ⟨false,[(1,.d .bool (g t))]⟩∧es= []
def x6(c:bh U)(caps:List (Va U))(a b:bg)(g:TT U.ty a→TT U.ty b→Int):Prop:= ∀(t:TT U.ty a) (t':TT U.ty b),c.run (⟨eE a,[(aL U a,.d a t)]⟩::⟨eE b,[(aL U b,.d b t')]⟩::caps) [] fun r es=>r= .v ⟨false,[(1,.d (.int .i64) (g t t'))]⟩∧es= []
def pt(G:iI U)(f:FuncId)(K:bh U→Prop):Prop:=match aF G f with
 |some c=>K c
 |none=>False
def Bt(T:dL U)(G:iI U)(a:bg)(x:Va U)(H:Hs U)(K:Hs U→(TT U.ty a→Bool)→List Nat→Prop):Prop:=match x with
 |⟨false,(_,.fn f):: []⟩=>pt G f fun c=> ∃g,x5 c [] a g∧K H g []
 |⟨false,(_,.clo f js):: []⟩=>Br T js H fun H caps=>pt G f fun c=> ∃g,x5 c caps a g∧K H g js
 |⟨false,(_,.f1 a' g):: []⟩=>(match eY U.ty (fun x=>x→Bool) a' a g with
  |some g=>K H g []
  |none=>False)
 |_=>False
def Bu(T:dL U)(G:iI U)(a b:bg)(x:Va U)(H:Hs U)(K:Hs U→(TT U.ty a→TT U.ty b→Int)→List Nat→Prop):Prop:=match x with
 |⟨false,(_,.fn f):: []⟩=>pt G f fun c=> ∃g,x6 c [] a b g∧K H g []
 |⟨false,(_,.clo f js):: []⟩=>Br T js H fun H caps=>pt G f fun c=> ∃g,x6 c caps a b g∧K H g js
 |⟨false,(_,.f2 a' b' g):: []⟩=>(match eY U.ty (fun x=>x→TT U.ty b'→Int) a' a g with
  |some g=>(match eY U.ty (fun y=>TT U.ty a→y→Int) b' b g with
   |some g=>K H g []
   |none=>False)
  |none=>False)
 |_=>False
def FH(T:dL U)(G:iI U)(md:List Md):List (Va U)→Hs U→(Hs U→List (Va U)→List Nat→Prop)→Prop:=
 List.rec (motive:=fun _=>List (Va U)→Hs U→(Hs U→List (Va U)→List Nat→Prop)→Prop) (fun l H K=>K H l []) (fun m _ ih l H K=>match l with
  | []=>K H [] []
  |x::r=>(match m with
   | .d s=>xW s H x fun H t=>ih r H fun H r Z=>K H (⟨x.ag,[(aL U s,.d s t)]⟩::r) Z
   | .f1 a=>Bt T G a x H fun H g js=>ih r H fun H r Z=>K H (⟨false,[(1,.f1 a g)]⟩::r) (js++Z)
   | .f2 a b=>Bu T G a b x H fun H g js=>ih r H fun H r Z=>K H (⟨false,[(1,.f2 a b g)]⟩::r) (js++Z)
   |_=>ih r H fun H r Z=>K H (x::r) Z)) md
def x7(L:List Nat):List Nat→Bool
 | []=>true
 |z::Z=>bif iJ z L then false else x7 L Z
def Bv(es:List (aM U)):List Nat→Nat→(List Nat→Nat→Prop)→Prop:=
 List.rec (motive:=fun _=>List Nat→Nat→(List Nat→Nat→Prop)→Prop) (fun _ n K=>K [] n) (fun _ _ ih L n K=>match L with
  |i::L=>ih L n fun l n=>K (i::l) n
  | []=>ih [] (n+1) fun l n'=>K (n::l) n') es
def ub(H:Hs U)(i v:Nat)(K:Nat→Prop):Prop:=match aF H i with
 |some (.row v0 _ _ _)=>K (v0+v)
 |_=>K v
def pN(H:Hs U)(L:List Nat)(x:Cx U)(K:Cx U→Prop):Prop:=match x with
 | .own j v=>(match dR L j with
  |some i=>ub H i v fun v=>K (.own i v)
  |none=>K .un)
 | .ptr j o=>(match dR L j with
  |some i=>K (.ptr i o)
  |none=>K .un)
 | .pel j v q o=>K .un
 | .pax _ _ _ _ _ _=>K .un
 | .clo f (j:: [])=>(match dR L j with
  |some i=>K (.clo f [i])
  |none=>K .un)
 | .clo _ _=>K .un
 | .f1 _ _=>K .un
 | .f2 _ _ _=>K .un
 | .mp j=>(match dR L j with
  |some i=>K (.mp i)
  |none=>K .un)
 |x=>K x
def m8(H:Hs U)(L:List Nat)(l:List (bW U)):(List (bW U)→Prop)→Prop:=
 List.rec (motive:=fun _=>(List (bW U)→Prop)→Prop) (fun K=>K []) (fun x _ ih K=>pN H L x.2 fun y=>ih fun r=>K ((x.1,y)::r)) l
def x8(H:Hs U)(L:List Nat)(i:Nat)(x:aM U)(K:aM U→Prop):Prop:=match x with
 | .cells l t=>m8 H L l fun l=>K (.cells l t)
 | .row v e xs t=>ub H i v fun v=>K (.row v e xs t)
 | .frz v e xs=>ub H i v fun v=>K (.frz v e xs)
 | .clo _ _=>K .dead
 | .map d l=>K (.map d l)
 | .mapr _ _ _ _ _=>K .dead
 | .it _ _=>K .dead
 | .hid _ _ _=>K .dead
 | .dead=>K .dead
def qv(H:Hs U)(L:List Nat)(l:List (Va U)):(List (Va U)→Prop)→Prop:=
 List.rec (motive:=fun _=>(List (Va U)→Prop)→Prop) (fun K=>K []) (fun x _ ih K=>m8 H L x.l fun l=>ih fun r=>K (⟨x.ag,l⟩::r)) l
def Ee(H:Hs U)(L:List Nat)(x:AV U)(K:AV U→Prop):Prop:=match x with
 | .v x=>m8 H L x.l fun l=>K (.v ⟨x.ag,l⟩)
 | .tup l=>qv H L l fun l=>K (.tup l)
 |_=>K .un
def Bw(H:Hs U)(i:Nat)(x:aM U)(K:Hs U→Prop):Prop:=match aF H i with
 |some _=>g7 H i x K
 |none=>K ((i,x)::H)
def x9(H0:Hs U)(L:List Nat)(M:List Nat):List (aM U)→Hs U→(Hs U→Prop)→Prop:=
 List.rec (motive:=fun _=>List (aM U)→Hs U→(Hs U→Prop)→Prop) (fun _ H K=>K H) (fun i _ ih es H K=>match es with
  |x::r=>x8 H0 L i x fun y=>Bw H i y fun H=>ih r H K
  | []=>False) M
def nu:List Nat→Bool
 | []=>true
 |i::r=>bif iJ i r then false else nu r
def FI(T:dL U)(G:iI U)(c:bh U)(xs:List (Va U))(n:Nat)(H:Hs U)(K:AV U→Nat→Hs U→Prop):Prop:=
 HQ c.md xs H fun H=>FH T G c.md xs H fun H xs Z=>Bp (wH H 30 0 (wJ H xs [])) fun L=>bif nu L&&x7 L Z then sd true H L xs fun ys=>r9 true H L L fun es=>c.run ys es fun r es=>Bv es L n fun L2 n2=>Ee H L2 r fun r=>x9 H L2 L2 es H fun H=>K r n2 H else False
def Ef(T:dL U)(G:iI U)(f:FuncId)(xs:List (Va U))(n:Nat)(H:Hs U)(K:AV U→Nat→Hs U→Prop):Prop:=match aF G f with
 |some c=>FI T G c xs n H K
 |none=>False
def FJ(s:bg)(H:Hs U)(y:Cx U)(K:List (TT U.ty s)→Prop):Prop:=match y with
 | .nils=>K []
 |y=>t7 H y fun e ys=>(match eY U.ty List e s ys with
  |some ys=>K ys
  |none=>False)
def HR(U:bQ)(s:bg)(ei:TI U):Bool:=Nat.beq ei.sz (aL U s)&&Nat.blt 0 (aL U s)&&Nat.blt 0 ei.by_
def Ih(T:dL U)(t:Nat)(H:Hs U)(n:Nat)(x y:Cx U)(K:AV U→Nat→Hs U→Prop):Prop:=Fv T t fun el ei=>match ei.sh with
 |some s=>bif HR U s ei then FJ s H y fun ys=>(match x with
  | .nils=>VS (ys.length*ei.by_≤140737488355328) (K (.v ⟨false,[(1,.own n 0)]⟩) (n+1) ((n,.row 0 s ys el)::H))
  | .own i v=>(match aF H i with
   |some (.row v' e' xs u)=>bif Nat.beq v v'&&Nat.beq u el then(match eY U.ty List e' s xs with
    |some xs=>VS ((xs.length+ys.length)*ei.by_≤140737488355328) (g7 H i (.row (v+1) s (xs++ys) u) fun H=>K (.v ⟨false,[(1,.own i (v+1))]⟩) n H)
    |none=>False)else False
   |_=>False)
  |_=>False)else False
 |none=>False
def Ii(T:dL U)(t:Nat)(H:Hs U)(n:Nat)(q r:Int)(K:AV U→Nat→Hs U→Prop):Prop:=Fv T t fun el ei=>match ei.sh with
 |some s=>bif HR U s ei then da 20 s ei.zero fun z=>VS (0≤q∧q≤r∧r≤281474976710656∧ei.by_*r.toNat≤281474976710656) (K (.v ⟨false,[(1,.own n 0)]⟩) (n+1) ((n,.row 0 s (List.replicate q.toNat z) el)::H))else False
 |none=>False
def Lb(c:Cx U)(xs:List (Va U))(H:Hs U)(K:AV U→Hs U→Prop):Prop:=match c,xs with
 | .f1 a g,x:: []=>bif x.ag==eE a then xW a H x fun H t=>K (.v ⟨false,[(1,.d .bool (g t))]⟩) H else False
 | .f2 a b g,x::y:: []=>bif (x.ag==eE a)&&(y.ag==eE b)then xW a H x fun H t=>xW b H y fun H t'=>K (.v ⟨false,[(1,.d (.int .i64) (g t t'))]⟩) H else False
 |_,_=>False
def Oe(c:Cx U)(xs:List (Va U))(K:Va U→Prop):Prop:=match c,xs with
 | .f1 a g,x:: []=>bif x.ag==eE a then da 20 a x.l fun t=>K ⟨false,[(1,.d .bool (g t))]⟩else False
 | .f2 a b g,x::y:: []=>bif (x.ag==eE a)&&(y.ag==eE b)then da 20 a x.l fun t=>da 20 b y.l fun t'=>K ⟨false,[(1,.d (.int .i64) (g t t'))]⟩else False
 |_,_=>False
def FK(T:dL U)(t:Nat)(H:Hs U)(c:Cx U)(kv xv:Va U)(K:Hs U→Prop):Prop:=match c with
 | .mp i=>(match aF H i with
  |some (.map d l)=>bif wG T t d&&((kv.ag==eE d.k)&&(xv.ag==eE d.v))then da 20 d.k kv.l fun k=>xW d.v H xv fun H y=>g7 H i (.map d (@eX _ _ d.dec l k y)) K else False
  |_=>False)
 |_=>False
def FL(T:dL U)(t:Nat)(H:Hs U)(c:Cx U)(kv:Va U)(K:Hs U→Prop):Prop:=match c with
 | .mp i=>(match aF H i with
  |some (.map d l)=>bif wG T t d&&(kv.ag==eE d.k)then da 20 d.k kv.l fun k=>g7 H i (.map d (@dU _ _ d.dec l k)) K else False
  |some (.mapr d l left _ gh)=>bif wG T t d&&(kv.ag==eE d.k)then da 20 d.k kv.l fun k=>g7 H i (.mapr d (@dU _ _ d.dec l k) (@dU _ _ d.dec left k) [] gh) K else False
  |_=>False)
 |_=>False
def FM(T:dL U)(t:Nat)(H:Hs U)(n:Nat)(c:Cx U)(K:Hs U→Prop):Prop:=match c with
 | .mp i=>(match aF H i with
  |some (.map d l)=>bif wG T t d then ∀gh,g7 H i (.mapr d l l [] gh) fun H=>K ((n,.it i gh)::H)else False
  |_=>False)
 |_=>False
def Ij{α:Type}(left:List α)(A:Prop)(B:List α→α→List α→Prop):Prop:=(left= []→A)∧ ∀a p b,left=a++p::b→B a p b
def FN(H:Hs U)(c:Cx U)(K:AV U→Hs U→Prop):Prop:=match c with
 | .ptr j 0=>(match aF H j with
  |some (.it i gh)=>(match aF H i with
   |some (.mapr d l left _ gh')=>VS (gh=gh') (Ij left (g7 H j .dead fun H=>g7 H i (.map d l) fun H=>K (.tup [⟨false,[(1,.d .bool false)]⟩]) H)
     fun a p b=> ∀gh2,g7 H j (.it i gh2) fun H=>g7 H i (.mapr d l (a++b) [p] gh2) fun H=>K (.tup [⟨false,[(1,.d .bool true)]⟩,rV d.k p.1,rV d.v p.2]) H)
   |_=>False)
  |_=>False)
 |_=>False
def nT(d:Option Nat)(A:Prop):Prop:=match d with
 |some _=>A
 |none=>False
def Ik(d:Option Nat)(A:Prop):Prop:=match d with
 |some _=>False
 |none=>A
def ya(T:dL U)(G:iI U)(o:Oper)(R e:En U)(n:Nat)(H:Hs U)(K:AV U→Nat→Hs U→Prop):Prop:=match o.op with
 | .alloc t=>nT o.dst (match aF T t with
  |some ti=>K (.v ⟨false,[(1,.ptr n 0)]⟩) (n+1) ((n,.cells ti.zero t)::H)
  |none=>False)
 | .box t x=>nT o.dst (ln [] R e x fun v=>K (.v ⟨false,[(1,.ptr n 0)]⟩) (n+1) ((n,.cells v.l t)::H))
 | .makeMap t none=>nT o.dst (match aF T t with
  |some ti=>(match ti.mp with
   |some d=>K (.v ⟨false,[(1,.mp n)]⟩) (n+1) ((n,.map d [])::H)
   |none=>False)
  |none=>False)
 | .mapUpdate t m kx x=>Ik o.dst (je [] R e m fun c=>ln [] R e kx fun kv=>ln [] R e x fun xv=>FK T t H c kv xv fun H=>K .un n H)
 | .range t x=>nT o.dst (je [] R e x fun c=>FM T t H n c fun H=>K (.v ⟨false,[(1,.ptr n 0)]⟩) (n+1) H)
 | .next x false=>nT o.dst (je [] R e x fun c=>FN H c fun v H=>K v n H)
 | .store t x y=>Ik o.dst (je [] R e x fun c=>ln [] R e y fun w=>t8 T t H c w fun H=>K .un n H)
 | .buildSlice t k ps=>nT o.dst (Fv T t fun el ei=>match ei.sh with
  |some s=>bif Nat.beq ei.sz (aL U s)&&Nat.blt 0 (aL U s)&&Nat.ble (k*aL U s) 1000 then Bl [] R e s k ps.toList 0 H fun H l=>K (.v ⟨false,[(1,.own n 0)]⟩) (n+1) ((n,.row 0 s l el)::H)else False
  |none=>False)
 | .makeSlice t x y=>nT o.dst (je [] R e x fun c=>je [] R e y fun d=>match c,d with
  | .d (.int _) q,.d (.int _) r=>Ii T t H n q r K
  |_,_=>False)
 | .call c=>(match c.callee with
  | .builtin .append=>(match c.args.toList,c.argTypes.toList with
   |x::y:: [],t::t':: []=>nT o.dst (bif Nat.beq t t' then je [] R e x fun a=>je [] R e y fun b=>Ih T t H n a b K else False)
   |_,_=>False)
  | .builtin .delete=>(match c.args.toList,c.argTypes.toList with
   |m::kx:: [],t::_:: []=>Ik o.dst (je [] R e m fun c=>ln [] R e kx fun kv=>FL T t H c kv fun H=>K .un n H)
   |_,_=>False)
  | .value (.func f)=>rS [] R e c.args.toList fun xs=>Ef T G f xs n H K
  | .value (.tmp s)=>nT o.dst (je [] R e (.tmp s) fun x=>rS [] R e c.args.toList fun xs=>Lb x xs H fun v H=>K v n H)
  |_=>False)
 |_=>False
def ly(o:Oper):Bool:=match o.op with
 | .alloc _| .box _ _| .store _ _ _| .buildSlice _ _ _| .makeSlice _ _ _| .makeMap _ _| .mapUpdate _ _ _ _| .range _ _| .next _ _=>true
 | .call c=>(match c.callee with
  | .builtin .append| .builtin .copy| .builtin .clear| .builtin .delete=>true
  | .builtin _=>false
  |_=>true)
 |_=>false
abbrev KS(U:bQ):=En U→Nat→Hs U→Prop
def By(T:dL U)(H:Hs U)(js:List Nat):(List (Va U)→Prop)→Prop:=
 List.rec (motive:=fun _=>(List (Va U)→Prop)→Prop) (fun K=>K []) (fun j _ ih K=>match aF H j with
  |some (.cells l t)=>(match aF T t with
   |some ti=>(match ti.sh with
    |some s=>da 20 s l fun x=>ih fun r=>K (⟨false,[(1,.pd s x)]⟩::r)
    |none=>False)
   |none=>False)
  |_=>False) js
def Bz(T:dL U)(G:iI U)(H:Hs U)(a:bg)(x:Va U)(K:(TT U.ty a→Bool)→Prop):Prop:=match x with
 |⟨false,(_,.fn f):: []⟩=>pt G f fun c=> ∃g,x5 c [] a g∧K g
 |⟨false,(_,.clo f js):: []⟩=>By T H js fun caps=>pt G f fun c=> ∃g,x5 c caps a g∧K g
 |_=>False
def BA(T:dL U)(G:iI U)(H:Hs U)(a b:bg)(x:Va U)(K:(TT U.ty a→TT U.ty b→Int)→Prop):Prop:=match x with
 |⟨false,(_,.fn f):: []⟩=>pt G f fun c=> ∃g,x6 c [] a b g∧K g
 |⟨false,(_,.clo f js):: []⟩=>By T H js fun caps=>pt G f fun c=> ∃g,x6 c caps a b g∧K g
 |_=>False
def HS(T:dL U)(G:iI U)(H:Hs U)(md:List Md):List (Va U)→(List (Va U)→Prop)→Prop:=
 List.rec (motive:=fun _=>List (Va U)→(List (Va U)→Prop)→Prop) (fun l K=>match l with| []=>K []|_=>False) (fun m _ ih l K=>match l with
  | []=>K []
  |x::r=>(match m with
   | .d s=>pq true H [] x.l fun l=>da 20 s l fun t=>ih r fun r=>K (⟨x.ag,[(aL U s,.d s t)]⟩::r)
   | .f1 a=>Bz T G H a x fun g=>ih r fun r=>K (⟨false,[(1,.f1 a g)]⟩::r)
   | .f2 a b=>BA T G H a b x fun g=>ih r fun r=>K (⟨false,[(1,.f2 a b g)]⟩::r)
   | .p _=>False
   | .n=>pq true H [] x.l fun l=>ih r fun r=>K (⟨x.ag,l⟩::r))) md
def BB:List (bW U)→Bool
 | []=>true
 |(_,x)::r=>match x with
  | .f1 _ _=>false
  | .f2 _ _ _=>false
  |_=>BB r
def qw(T:dL U)(G:iI U)(p:dh)(o:Oper)(R e:En U)(n:Nat)(H:Hs U)(K:Va U→Prop):Prop:=match o.op with
 | .call c=>(match c.callee with
  | .value (.func f)=>(match aF G f with
   |some k=>rS p R e c.args.toList fun xs=> ∃x:Va U,pL R e p (HS T G H k.md xs fun xs=>k.run xs [] fun r es=>r= .v x∧es= [])∧BB x.l=true∧K x
   |none=>False)
  | .value (.tmp s)=>je p R e (.tmp s) fun x=>rS p R e c.args.toList fun xs=>Oe x xs K
  |_=>False)
 |_=>False
abbrev KR(U:bQ):=En U→Nat→Hs U→En U→List Nat→KS U→Prop
def se(rest:KR U)(d:Option Nat)(v:AV U)(e:En U)(n:Nat)(H:Hs U)(R:En U)(S:List Nat)(K:KS U):Prop:=match d with
 |some d=>bif iJ d S then False else rest ((d,v)::e) n H R S K
 |none=>rest e n H R S K
def putG(rest:KR U)(s:Nat)(d:Option Nat)(p:dh)(x:Va U)(e:En U)(n:Nat)(H:Hs U)(R:En U)(S:List Nat)(K:KS U):Prop:=match d with
 |some d=>(match aF e d with
  |none=>bif iJ d S||Nat.beq d s then False else rest e n H ((d,.gd p x)::R) (d::s::S) K
  |some _=>False)
 |none=>False
def wM(T:dL U)(G:iI U)(o:Oper)(rest:KR U)(s:Nat)(p:dh)(e:En U)(n:Nat)(H:Hs U)(R:En U)(S:List Nat)(K:KS U):Prop:=match ly o with
 |true=>qw T G p o R e n H fun v=>putG rest s o.dst p v e n H R S K
 |false=>kw (pL R e p) T p o R e H fun v=>(match v with
  | .v v=>putG rest s o.dst p v e n H R S K
  |_=>False)
def BC(o:Oper)(v:AV U)(A:Prop):Prop:=match o.op with
 | .call c=>(match c.callee with
  | .builtin .len=>(match v with
   | .v ⟨false,(_,.d (.int k) q):: []⟩=>d9 k q→A
   |_=>A)
  |_=>A)
 |_=>A
def fp(T:dL U)(G:iI U)(all:List Oper)(o:Oper)(rest:KR U)(e:En U)(n:Nat)(H:Hs U)(R:En U)(S:List Nat)(K:KS U):Prop:=match o.guard with
 |none=>(match ly o with
  |true=>ya T G o R e n H fun v n H=>se rest o.dst v e n H R S K
  |false=>kw (fun P=>P) T [] o R e H fun v=>BC o v (se rest o.dst v e n H R S K))
 |some (j,b)=>(match dR all j with
  |some oj=>(match oj.dst with
   |some s=>(match aF R s with
    |some (.gd p ⟨false,(_,.d .bool _):: []⟩)=>wM T G o rest s ((s,b)::p) e n H R S K
    |some _=>False
    |none=>(match aF e s with
     |some (.v ⟨false,(_,.d .bool _):: []⟩)=>wM T G o rest s [(s,b)] e n H R S K
     |_=>False))
   |none=>False)
  |none=>False)
def wO(p:Nat→Bool)(H:Hs U):(Hs U→Prop)→Prop:=
 List.rec (motive:=fun _=>(Hs U→Prop)→Prop) (fun K=>K []) (fun x _ ih K=>ih fun r=>match p x.1,x.2 with
  |true,.row v e xs _=>K ((x.1,.hid v xs.length (aL U e))::r)
  |true,.cells _ _=>K ((x.1,.dead)::r)
  |true,.map _ _=>K ((x.1,.dead)::r)
  |true,.mapr _ _ _ _ _=>K ((x.1,.dead)::r)
  |true,.it _ _=>K ((x.1,.dead)::r)
  |_,y=>K ((x.1,y)::r)) H
def BD(p:Nat→Bool)(H:Hs U)(H':Hs U):(Hs U→Prop)→Prop:=
 List.rec (motive:=fun _=>(Hs U→Prop)→Prop) (fun K=>K []) (fun x _ ih K=>ih fun r=>match p x.1,aF H x.1,x.2 with
  |true,some (.row v e xs t),.hid v' _ _=>bif Nat.beq v v' then K ((x.1,.row v e xs t)::r)else False
  |true,some (.cells l t),.dead=>K ((x.1,.cells l t)::r)
  |true,some (.map d l),.dead=>K ((x.1,.map d l)::r)
  |true,some (.mapr d l l' q g),.dead=>K ((x.1,.mapr d l l' q g)::r)
  |true,some (.it i g),.dead=>K ((x.1,.it i g)::r)
  |_,_,y=>K ((x.1,y)::r)) H'
def Il:List Md→Bool
 | []=>false
 |m::r=>match m with
  | .p _=>true
  |_=>Il r
def wP(G:iI U)(o:Oper):Bool:=match o.op with
 | .call c=>(match c.callee with
  | .value (.func f)=>(match aF G f with
   |some k=>Il k.md
   |none=>false)
  |_=>false)
 |_=>false
def pO(T:dL U)(G:iI U)(p:Nat→Bool)(q:dh)(o:Oper)(R e:En U)(n:Nat)(H:Hs U)(K:Va U→Prop):Prop:=match o.op with
 | .call c=>(match c.callee with
  | .value (.func f)=>(match aF G f with
   |some k=>rS q R e c.args.toList fun xs=>wO (fun i=>!p i) H fun Hk=> ∃x:Va U,pL R e q (FI T G k xs n Hk fun r n' H'=>r= .v x∧n'=n∧BD (fun i=>!p i) H H' fun L=>L=H)∧K x
   |none=>False)
  |_=>False)
 |_=>False
def jJ(T:dL U)(G:iI U)(all:List Oper)(p:Nat→Bool)(o:Oper)(rest:KR U)(e:En U)(n:Nat)(H:Hs U)(R:En U)(S:List Nat)(K:KS U):Prop:=match o.guard with
 |none=>False
 |some (j,b)=>(match dR all j with
  |some oj=>(match oj.dst with
   |some s=>(match aF R s with
    |some (.gd q ⟨false,(_,.d .bool _):: []⟩)=>pO T G p ((s,b)::q) o R e n H fun v=>putG rest s o.dst ((s,b)::q) v e n H R S K
    |some _=>False
    |none=>(match aF e s with
     |some (.v ⟨false,(_,.d .bool _):: []⟩)=>pO T G p [(s,b)] o R e n H fun v=>putG rest s o.dst [(s,b)] v e n H R S K
     |_=>False))
   |none=>False)
  |none=>False)
def nU(T:dL U)(G:iI U)(all l:List Oper):KR U:=
 List.rec (motive:=fun _=>KR U) (fun e n H _ _ K=>K e n H) (fun o _ ih=>match o.guard with
  |none=>fp T G all o ih
  |some _=>bif wP G o then jJ T G all (fun _=>true) o ih else fp T G all o ih) l
def kz(T:dL U)(G:iI U)(all:List Oper)(p:Nat→Bool)(how:Bool)(o:Oper)(rest:KR U)(e:En U)(n:Nat)(H:Hs U)(R:En U)(S:List Nat)(K:KS U):Prop:=match ly o,how with
 |true,true=>False
 |false,true=>wO p H fun Hu=>fp T G all o (fun e _ _ R S K=>rest e n H R S K) e n Hu R S K
 |false,false=>fp T G all o rest e n H R S K
 |true,false=>(match o.guard with
  |none=>wO (fun i=>!p i) H fun Hk=>ya T G o R e n Hk fun v n Hk=>BD (fun i=>!p i) H Hk fun H=>se rest o.dst v e n H R S K
  |some _=>bif wP G o then jJ T G all p o rest e n H R S K else fp T G all o rest e n H R S K)
def vn(T:dL U)(G:iI U)(all:List Oper)(mk:List Nat)(last:KR U)(pl:List (Bool×Nat)):KR U:=
 List.rec (motive:=fun _=>KR U) last (fun x _ ih=>match dR all x.2 with
  |some o=>kz T G all (fun i=>iJ i mk) x.1 o ih
  |none=>fun _ _ _ _ _ _=>False) pl
def kA(T:dL U)(G:iI U)(all:List Oper)(f:Option Nat):KR U:=match f with
 |none=>fun e n H _ _ K=>K e n H
 |some f=>(match dR all f with
  |some o=>fp T G all o (fun e n H _ _ K=>K e n H)
  |none=>fun _ _ _ _ _ _=>False)
def m9(ops:Array Oper)(f:Option Nat):List (Bool×Nat)→Array Bool→Bool
 | [],listed=>(match f with
  |none=>(Region.ready .any ops listed).isEmpty
  |some f=>Region.ready .any ops listed== [f]&&(Region.ready .any ops (listed.setIfInBounds f true)).isEmpty)
 |(true,i)::r,listed=>(Region.ready .any ops listed).contains i&&Region.free .any ops listed i&&(match f with|some f=>i !=f|none=>true)&&m9 ops f r (listed.setIfInBounds i true)
 |(false,i)::r,listed=>Region.ready .any ops listed== [i]&&(match f with|some f=>i !=f|none=>true)&&m9 ops f r (listed.setIfInBounds i true)
def uc(ops:Array Oper)(f:Option Nat)(pl:List (Bool×Nat)):Bool:=Region.noSelect ops&&(match f with|some f=>CY .any ops f|none=>true)&&m9 ops f pl (Array.replicate ops.size false)&&Nat.ble (pl.length+(match f with|some _=>1|none=>0)) ops.size
inductive Ot where
 |fin|nil|look (i:Nat) (r:Ot)|turn (i:Nat) (here more:Ot)
def sf(T:dL U)(G:iI U)(all:List Oper)(p:Nat→Bool)(last:KR U)(t:Ot):KR U:=
 Ot.rec (motive:=fun _=>KR U) last (fun _ _ _ _ _ _=>True)
  (fun i _ ih=>match dR all i with
   |some o=>kz T G all p true o ih
   |none=>fun _ _ _ _ _ _=>False)
  (fun i _ _ ih ih2 e n H R S K=>(match dR all i with
   |some o=>kz T G all p false o ih
   |none=>fun _ _ _ _ _ _=>False) e n H R S K∧ih2 e n H R S K) t
def Im(i:Nat):List Nat→Bool
 |j::_=>Nat.beq j i
 | []=>false
def gJ(ops:Array Oper)(f:Option Nat):Ot→Array Bool→Option (List Nat)→Bool
 | .fin,listed,none=>m9 ops f [] listed
 | .nil,_,some L=>L.isEmpty
 | .look i r,listed,none=>(Region.ready .any ops listed).contains i&&Region.free .any ops listed i&&(match f with|some f=>i !=f|none=>true)&&gJ ops f r (listed.setIfInBounds i true) none
 | .turn i a b,listed,none=>Im i (Region.ready .any ops listed)&&gJ ops f a (listed.setIfInBounds i true) none&&gJ ops f b listed (some (Region.ready .any ops listed).tail)
 | .turn i a b,listed,some L=>Im i L&&gJ ops f a (listed.setIfInBounds i true) none&&gJ ops f b listed (some L.tail)
 |_,_,_=>false
def Ot.h:Ot→Nat
 | .fin=>0
 | .nil=>0
 | .look _ r=>r.h+1
 | .turn _ a b=>max (a.h+1) b.h
def yb(ops:Array Oper)(f:Option Nat)(t:Ot):Bool:=Region.noSelect ops&&(match f with|some f=>CY .any ops f|none=>true)&&gJ ops f t (Array.replicate ops.size false) none&&Nat.ble (t.h+(match f with|some _=>1|none=>0)) ops.size
inductive HT where
 |n|r|x (i:Nat)
abbrev KO(U:bQ):=HT→En U→Nat→Hs U→Prop
def Io(b:En U→Nat→Hs U→KO U→Prop)(K:KO U)(o:HT)(e:En U)(n:Nat)(H:Hs U):Prop:=match o with
 | .n=>b e n H K
 |o=>K o e n H
def Ip(i:Nat)(K:KO U)(o:HT)(e:En U)(n:Nat)(H:Hs U):Prop:=match o with
 | .x j=>(bif Nat.beq i j then K .n e n H else K (.x j) e n H)
 |o=>K o e n H
def FO(a b:En U→Nat→Hs U→KO U→Prop)(e:En U)(n:Nat)(H:Hs U)(K:KO U)(v:Cx U):Prop:=match v with
 | .d .bool t=>D9 t (a e n H K) (b e n H K)
 |_=>False
def di(φ:List (Nat×Nat))(k:Nat):Nat:=match aF φ k with
 |some i=>i
 |none=>k
def qz(H:Hs U)(i v:Nat):Bool:=match aF H i with
 |some (.row v' _ _ _)=>Nat.beq v v'
 |_=>false
def ud(H:Hs U)(i:Nat):Bool:=match aF H i with
 |some (.map _ _)=>true
 |some (.mapr _ _ _ _ _)=>true
 |_=>false
def ue(H:Hs U)(i:Nat):Bool:=match aF H i with
 |some (.cells _ _)=>true
 |some (.it _ _)=>true
 |_=>false
def KQ(s:bg)(t:TT U.ty s)(s':bg)(t':TT U.ty s')(A:Prop):Prop:=match eY U.ty (fun x=>x) s s' t with
 |some u=>u=t'∧A
 |none=>False
def FP(a:bg)(g:TT U.ty a→Bool)(a':bg)(g':TT U.ty a'→Bool)(A:Prop):Prop:=match eY U.ty (fun x=>x→Bool) a a' g with
 |some u=>u=g'∧A
 |none=>False
def FQ(a b:bg)(g:TT U.ty a→TT U.ty b→Int)(a' b':bg)(g':TT U.ty a'→TT U.ty b'→Int)(A:Prop):Prop:=match eY U.ty (fun x=>x→TT U.ty b→Int) a a' g with
 |some u=>(match eY U.ty (fun y=>TT U.ty a'→y→Int) b b' u with
  |some u=>u=g'∧A
  |none=>False)
 |none=>False
def Iq(φ:List (Nat×Nat))(H':Hs U):List Nat→List Nat→Bool
 | [],[]=>true
 |k::ks,j::js=>Nat.beq (di φ k) j&&ue H' k&&Iq φ H' ks js
 |_,_=>false
def FR(φ:List (Nat×Nat))(n:Nat)(H H':Hs U)(x y:Cx U)(A:Prop):Prop:=match x,y with
 | .nils,.own k w=>bif Nat.ble n (di φ k)&&qz H' k w then A else False
 | .own i v,.own k w=>bif Nat.beq (di φ k) i&&qz H i v&&qz H' k w then A else False
 | .own i v,.d s t'=>(match aF H i with
  |some (.frz v' e xs)=>bif Nat.beq v v' then KQ (.sl e) xs s t' A else False
  |_=>False)
 | .ptr i o,.ptr k p=>bif Nat.beq (di φ k) i&&Nat.beq o p&&ue H' k then A else False
 | .d s t,.d s' t'=>KQ s t s' t' A
 | .nilp,.nilp=>A
 | .nils,.nils=>A
 | .nils,.d (.sl e) xs=>([]:List (TT U.ty e))=xs∧A
 | .nilf,.nilf=>A
 | .nilm,.nilm=>A
 | .mp i,.mp k=>bif Nat.beq (di φ k) i&&ud H' k then A else False
 | .fn f,.fn g=>bif Nat.beq f g then A else False
 | .clo f js,.clo g ks=>bif Nat.beq f g&&Iq φ H' ks js then A else False
 | .f1 a g,.f1 a' g'=>FP a g a' g' A
 | .f2 a b g,.f2 a' b' g'=>FQ a b g a' b' g' A
 |_,_=>False
def yc(φ:List (Nat×Nat))(n:Nat)(H H':Hs U)(l:List (bW U))(l':List (bW U))(A:Prop):Prop:=match l' with
 | []=>(match l with
  | []=>A
  |_=>False)
 |(m,.d (.st i) t)::l'=>tK 40 l m fun l1=>da 20 (.st i) l1 fun u=>u=t∧gH 40 l m fun l2=>yc φ n H H' l2 l' A
 |(m,.d (.arr k e) t)::l'=>tK 40 l m fun l1=>da 20 (.arr k e) l1 fun u=>u=t∧gH 40 l m fun l2=>yc φ n H H' l2 l' A
 |(m,y)::l'=>(match l with
  |(k,x)::l=>bif Nat.beq k m then FR φ n H H' x y (yc φ n H H' l l' A)else False
  | []=>False)
termination_by structural l'
def KT(φ:List (Nat×Nat))(n:Nat)(e:En U)(H H':Hs U):En U→Prop→Prop
 | [],A=>A
 |(k,.v y)::r,A=>(match aF e k with
  |some (.v x)=>bif x.ag==y.ag then yc φ n H H' x.l y.l (KT φ n e H H' r A)else False
  |_=>False)
 |_,_=>False
def KU(φ:List (Nat×Nat))(b n:Nat)(H H':Hs U)(k:Nat)(x y:aM U)(A:Prop):Prop:=match x,y with
 |_,.dead=>A
 | .cells l t,.cells l' t'=>bif Nat.beq t t' then yc φ n H H' l l' A else False
 | .row v e xs t,.row v' e' xs' t'=>bif Nat.beq t t'&&(Nat.ble b k||Nat.beq v v')then(match eY U.ty List e e' xs with
  |some u=>u=xs'∧A
  |none=>False)else False
 | .map d l,.map d' l'=>(⟨d,l⟩:(d:KD U)×List (TT U.ty d.k×TT U.ty d.v))=⟨d',l'⟩∧A
 | .mapr d l r q g,.mapr d' l' r' q' g'=>(⟨d,(l,r,q)⟩:(d:KD U)×(List (TT U.ty d.k×TT U.ty d.v)×List (TT U.ty d.k×TT U.ty d.v)×List (TT U.ty d.k×TT U.ty d.v)))=⟨d',(l',r',q')⟩∧g=g'∧A
 | .it i g,.it k' g'=>bif Nat.beq (di φ k') i&&ud H' k' then g=g'∧A else False
 |_,_=>False
def Of(b n:Nat)(φ:List (Nat×Nat))(k:Nat)(y:aM U)(A:Prop):Prop:=match y with
 | .row _ e xs _=>bif Nat.ble n (di φ k)&&Nat.ble b k&&Nat.blt 0 (aL U e)then xs= []∧A else False
 |_=>False
def FS(φ:List (Nat×Nat))(b n:Nat)(H H':Hs U):Hs U→Prop→Prop
 | [],A=>A
 |(k,y)::r,A=>(match aF H (di φ k)with
  |some x=>KU φ b n H H' k x y (FS φ b n H H' r A)
  |none=>Of b n φ k y (FS φ b n H H' r A))
def uf(p:Nat→Bool):List Nat→Bool
 | []=>true
 |i::r=>bif p i then uf p r else false
def Eg(b N:Nat)(φ:List (Nat×Nat))(n:Nat)(e:En U)(H:Hs U)(e':En U)(H':Hs U):Prop:=
 bif Nat.ble b N&&nu (H'.map (·.1))&&nu (H'.map fun p=>di φ p.1)&&uf (fun i=>Nat.blt i N) (H'.map (·.1))&&uf (fun i=>Nat.ble b i) (φ.map (·.1))then FS φ b n H H' H' (KT φ n e H H' e' True)else False
def vq(T:dL U)(G:iI U)(b:Nat)(ops:Array Oper)(e:En U)(n:Nat)(H:Hs U)(K:KS U):Prop:=
 (∃(pl:List (Bool×Nat)) (f:Option Nat) (mk:List Nat),uc ops f pl=true∧vn T G ops.toList mk (kA T G ops.toList f) pl e n H [] [] K)∨
 (∃(t:Ot) (f:Option Nat) (mk:List Nat) (N:Nat) (E:En U) (M:Hs U) (A:Prop),yb ops f t=true∧sf T G ops.toList (fun i=>iJ i mk||Nat.ble n i) (kA T G ops.toList f) t e n H [] [] (fun e' n' H'=>A∧ ∃φ,Eg b N φ n' e' H' E M)∧(A→K E N M))
def yd(b:Nat)(a:En U→Nat→Hs U→KO U→Prop)(e:En U)(n:Nat)(H:Hs U)(K:KO U):Prop:=
 ∃(σ:Type) (N:Nat) (E:σ→En U) (M:σ→Hs U) (I:σ→Prop) (μ:σ→Nat),(∃φ s,I s∧Eg b N φ n e H (E s) (M s))∧
  ∀s,I s→a (E s) N (M s) fun o e' n' H'=>match o with
   | .n=> ∃φ s',μ s'<μ s∧I s'∧Eg b N φ n' e' H' (E s') (M s')
   |o=>K o e' n' H'
def aw(T:dL U)(G:iI U)(b:Nat)(c:Code):En U→Nat→Hs U→KO U→Prop:=
 Code.rec (motive:=fun _=>En U→Nat→Hs U→KO U→Prop)
  (fun e n H K=>K .n e n H)
  (fun _ ops d e n H K=>bif d then vq T G b ops e n H (K .n)else nU T G ops.toList ops.toList e n H [] [] (K .n))
  (fun _ _ a b e n H K=>a e n H (Io b K))
  (fun c _ _ a b e n H K=>je [] [] e c (FO a b e n H K))
  (fun i _ a e n H K=>a e n H (Ip i K))
  (fun _ a e n H K=>yd b a e n H K)
  (fun _ _ _ _ _ _ _ _ _ _=>False)
  (fun i e n H K=>K (.x i) e n H)
  (fun _ _ _ _ _ _=>False)
  (fun _ e n H K=>K .n e n H)
  (fun _ _ _ _ _=>False)
  (fun e n H K=>K .r e n H)
  (fun _ _ _ _ _=>False)
  c
def ye(T:dL U)(l:List ResultVar)(e:En U)(H:Hs U):(List (Va U)→Prop)→Prop:=
 List.rec (motive:=fun _=>(List (Va U)→Prop)→Prop) (fun K=>K []) (fun r _ ih K=>match r with
  | .tmp t=>ln [] [] e (.tmp t) fun v=>ih fun l=>K (v::l)
  | .cell p t=>je [] [] e (.tmp p) fun c=>rU T t H c fun v=>ih fun l=>K (v::l)) l
def FT(l:List (Va U))(K:AV U→Prop):Prop:=match l with
 |x:: []=>K (.v x)
 |l=>K (.tup l)
def wQ:Nat→Nat→List Nat→Bool
 |_,0,_=>true
 |j,k+1,a::r=>bif Nat.beq a j then wQ (j+1) k r else false
 |_,_+1,[]=>false
def Ir(T:dL U)(fn:Func)(md:List Md)(em:List (Nat×List (Nat×Option bg)))(b:Nat)(K:AV U→List (aM U)→Prop)(o:HT)(e:En U)(n:Nat)(H:Hs U):Prop:=match o with
 | .x _=>False
 |_=>bif Nat.ble fn.results.toList.length 3 then ye T fn.results.toList e H fun l=>HQ md l H fun H=>KP em H fun H=>Ed md l H fun H l=>Bp (wH H 30 0 (wJ H l (List.range b))) fun L=>bif nu L&&wQ 0 b L then sd false H L l fun l=>r9 false H L L fun es=>FT l fun r=>K r es else False else False
def FU(T:dL U)(G:iI U)(fn:Func)(md:List Md)(em:List (Nat×List (Nat×Option bg)))(e:En U)(b:Nat)(H:Hs U)(K:AV U→List (aM U)→Prop):Prop:=match fn.body with
 |some c=>aw T G b c e b H (Ir T fn md em b K)
 |none=>False
end
end Go.Proofs.YtiliglahlfkikaaGreatDoor.V
end

section
namespace Go.Proofs.YtiliglahlfkikaaGreatDoor.V
open Go.RowKit
def gB:List Nat:= [0]
def Gv(w:World):Prop:= ∃mx,w.cell? ⟨0,0,none⟩=some (.int .i64 mx)
theorem Gv.fr{w w':World}{O:List Nat}(h:Gv w)(hf:Fr O w w')(hO: ∀o∈O,o∉gB):Gv w':=by
 obtain⟨mx,h⟩:=h;refine⟨mx,?_⟩;have hl:(0:Nat)<w.heap.size:=by
  unfold World.cell? at h;split at h
  ·rename_i c t x hb;exact bn hb
  ·cases h
 rw[hf.cell (p:=⟨0,0,none⟩) hl (fun h0=>hO 0 h0 (by simp[gB]))];exact h
theorem Gv.lt{w:World}(h:Gv w): ∀g∈gB,g<w.heap.size:=fun g hg=>by
 obtain⟨mx,h⟩:=h;have e:g=0:=by simpa[gB]using hg
 subst e;unfold World.cell? at h;split at h
 ·rename_i c t x hb;exact bn hb
 ·cases h
end Go.Proofs.YtiliglahlfkikaaGreatDoor.V
end

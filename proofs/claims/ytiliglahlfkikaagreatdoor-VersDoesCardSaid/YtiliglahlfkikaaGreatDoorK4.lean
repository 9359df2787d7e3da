/- Package variables that the program only reads: what they hold. -/
import Derived.Test.YtiliglahlfkikaaGreatDoorK3
import Derived.Test.YtiliglahlfkikaaGreatDoorK0
section
set_option linter.unusedVariables false
namespace Go.Proofs.YtiliglahlfkikaaGreatDoor.V
open Go.RowKit
inductive Md where
 |n|d (s:bm)|f1 (a:bm)|f2 (a b:bm)
 |p (fs:List (Nat×Option bm))-- a pointer to our own cells,of which some become data
structure bf(U:cn) where
 md:List Md
 run:List (Va U)→List (aW U)→(AV U→List (aW U)→Prop)→Prop
abbrev jZ(U:cn):=List (Nat×bf U)
section
variable {U:cn}
def FM(v:Va U)(K:Cx U→Prop):Prop:=match v with
 |⟨false,(_,c):: []⟩=>K c
 |_=>False
def km(p:dQ)(R e:En U)(o:Operand)(K:Cx U→Prop):Prop:=mJ p R e o fun v=>FM v K
def jC(H:Hs U)(i:Nat)(x:aW U):(Hs U→Prop)→Prop:=
 List.rec (motive:=fun _=>(Hs U→Prop)→Prop) (fun _=>False) (fun y r ih K=>bif Nat.beq y.1 i then K ((i,x)::r)else ih fun r'=>K (y::r')) H
def vh(H:Hs U)(x:Cx U)(K:(e:bm)→List (TT U.ty e)→Prop):Prop:=match x with
 | .d (.sl e) xs=>bif Nat.blt 0 (aU U e)then K e xs else False
 | .own i v=>(match aL H i with
  |some (.row v' e xs _)=>bif Nat.beq v v' then K e xs else False
  |some (.frz v' e xs)=>bif Nat.beq v v' then K e xs else False
  |_=>False)
 |_=>False
def tp(H:Hs U)(x:cC U)(K:Hs U→cC U→Prop):Prop:=match x with
 |(1,.own i v)=>(match aL H i with
  |some (.row v' e xs _)=>bif Nat.beq v v' then jC H i (.frz v e xs) fun H=>K H (1,.d (.sl e) xs)else False
  |some (.frz v' e xs)=>bif Nat.beq v v' then K H (1,.d (.sl e) xs)else False
  |_=>False)
 |x=>K H x
def mh(l:List (cC U)):Hs U→(Hs U→List (cC U)→Prop)→Prop:=
 List.rec (motive:=fun _=>Hs U→(Hs U→List (cC U)→Prop)→Prop) (fun H K=>K H []) (fun x _ ih H K=>tp H x fun H y=>ih H fun H r=>K H (y::r)) l
def yW(s:bm)(H:Hs U)(x:Va U)(K:Hs U→TT U.ty s→Prop):Prop:=mh x.l H fun H l=>dL 20 s l fun t=>K H t
def ED(T:eF U)(t:Nat)(l:List (cC U))(K:Va U→Prop):Prop:=match aL T t with
 |some ti=>(match u7 ti.kd with
  |false=>(match l with
   |(_,.d (.st i) x):: []=>mH (.d (.st i) x) fun l=>K ⟨false,l⟩
   |l=>K ⟨false,l⟩)
  |true=>K ⟨true,l⟩)
 |none=>False
def tq(T:eF U)(t:Nat)(H:Hs U)(x:Cx U)(K:Va U→Prop):Prop:=match aL T t with
 |some ti=>(match x with
  | .ptr i off=>(match aL H i with
   |some (.cells l _)=>mI l off ti.sz fun l=>ED T t l K
   |_=>False)
  | .pel i v q off=>(match aL H i with
   |some (.row v' e xs _)=>bif Nat.beq v v' then yJ U e xs q fun x=>mI [(aU U e,.d e x)] off ti.sz fun l=>ED T t l K else False
   |some (.frz v' e xs)=>bif Nat.beq v v' then yJ U e xs q fun x=>mI [(aU U e,.d e x)] off ti.sz fun l=>ED T t l K else False
   |_=>False)
  | .pax i off n e q o=>(match aL H i with
   |some (.cells l _)=>mI l off (n*aU U e) fun l=>dL 20 (.arr n e) l fun xs=>yJ U e xs q fun x=>mI [(aU U e,.d e x)] o ti.sz fun l=>ED T t l K
   |_=>False)
  | .pd s x=>bif Nat.beq ti.sz (aU U s)then ED T t [(aU U s,.d s x)] K else False
  |_=>False)
 |none=>False
def vj(T:eF U)(t:Nat)(H:Hs U)(x:Cx U)(y:Va U)(K:Hs U→Prop):Prop:=match aL T t with
 |some ti=>(match x with
  | .ptr i off=>(match aL H i with
   |some (.cells l u)=>bif Nat.beq (ln y.l) ti.sz then rF 40 l off ti.sz y.l fun l=>jC H i (.cells l u) K else False
   |_=>False)
  | .pel i v q off=>mh y.l H fun H yl=>(match aL H i with
   |some (.row v' e xs u)=>bif Nat.beq v v'&&Nat.beq (ln yl) ti.sz then yJ U e xs q fun x=>rF 40 [(aU U e,.d e x)] off ti.sz yl fun l=>dL 20 e l fun z=>jC H i (.row v e (xs.set q.toNat z) u) K else False
   |_=>False)
  | .pax i off n e q o=>mh y.l H fun H yl=>(match aL H i with
   |some (.cells l u)=>bif Nat.beq (ln yl) ti.sz then mI l off (n*aU U e) fun la=>dL 20 (.arr n e) la fun xs=>yJ U e xs q fun x=>rF 40 [(aU U e,.d e x)] o ti.sz yl fun l'=>dL 20 e l' fun z=>rF 40 l off (n*aU U e) [(n*aU U e,.d (.arr n e) (List.set (α:=TT U.ty e) xs q.toNat z))] fun l=>jC H i (.cells l u) K else False
   |_=>False)
  |_=>False)
 |none=>False
def ql(H:Hs U)(i v:Nat):Bool:=match aL H i with
 |some (.row v' _ _ _)=>Nat.beq v v'
 |some (.frz v' _ _)=>Nat.beq v v'
 |_=>false
def FN(T:eF U)(t f:Nat)(H:Hs U)(x:Cx U)(K:Cx U→Prop):Prop:=match aL T t with
 |some ti=>(match eM ti.fs f with
  |some (off,ft)=>(match x with
   | .ptr i o=>K (.ptr i (o+off))
   | .pel i v q o=>bif ql H i v then K (.pel i v q (o+off))else False
   | .pax i o n e q o'=>K (.pax i o n e q (o'+off))
   | .pd s y=>(match aL T ft with
    |some fi=>mI [(aU U s,.d s y)] off fi.sz fun l=>(match l with
     |(_,.d s' y'):: []=>bif Nat.beq ti.sz (aU U s)then K (.pd s' y')else False
     |_=>False)
    |none=>False)
   |_=>False)
  |none=>False)
 |none=>False
def FO(T:eF U)(t f:Nat)(l:List (cC U))(K:Va U→Prop):Prop:=match aL T t with
 |some ti=>(match eM ti.fs f with
  |some (off,ft)=>(match aL T ft with
   |some fi=>mI l off fi.sz fun l=>ED T ft l K
   |none=>False)
  |none=>False)
 |none=>False
def BW(T:eF U)(p:dQ)(R e:En U)(fs:List (Nat×Nat))(ps:List (Nat×Operand)):List (cC U)→(List (cC U)→Prop)→Prop:=
 List.rec (motive:=fun _=>List (cC U)→(List (cC U)→Prop)→Prop) (fun l K=>K l) (fun x _ ih l K=>match eM fs x.1 with
  |some (off,ft)=>(match aL T ft with
   |some fi=>mJ p R e x.2 fun y=>bif Nat.beq (ln y.l) fi.sz then rF 40 l off fi.sz y.l fun l=>ih l K else False
   |none=>False)
  |none=>False) ps
def Ik(m el:Nat)(k:Nat):Nat→List (Nat×Nat):=
 Nat.rec (motive:=fun _=>Nat→List (Nat×Nat)) (fun _=> []) (fun _ ih off=>(off,el)::ih (off+m)) k
def BX(p:dQ)(R e:En U)(s:bm)(k:Nat)(ps:List (Nat×Operand)):Nat→Hs U→(Hs U→List (TT U.ty s)→Prop)→Prop:=
 List.rec (motive:=fun _=>Nat→Hs U→(Hs U→List (TT U.ty s)→Prop)→Prop) (fun j H K=>bif Nat.beq j k then K H []else False) (fun x _ ih j H K=>bif Nat.beq x.1 j then mJ p R e x.2 fun y=>yW s H y fun H a=>ih (j+1) H fun H r=>K H (a::r)else False) ps
def pickK(b:Bool)(x y:Va U)(K:Va U→Prop):Prop:=match x,y with
 |⟨a,(k,.d s u):: []⟩,⟨a',(_,.d s' w):: []⟩=>bif a==a'&&Nat.beq k (aU U s)then(match gC U.ty (fun x=>x) s' s w with
  |some w=>K ⟨a,[(k,.d s (bif b then u else w))]⟩
  |none=>False)else False
 |_,_=>False
def FP(p:dQ)(R e:En U)(c a b:Operand)(K:Va U→Prop):Prop:=match c with
 | .tmp s=>km p R e (.tmp s) fun v=>(match v with
  | .d .bool t=>(match a with
   | .const (.bool true)=>km ((s,false)::p) R e b fun y=>(match y with
    | .d .bool u=>K ⟨false,[(1,.d .bool (t||u))]⟩
    |_=>False)
   |_=>(match b with
    | .const (.bool false)=>km ((s,true)::p) R e a fun y=>(match y with
     | .d .bool u=>K ⟨false,[(1,.d .bool (t&&u))]⟩
     |_=>False)
    |_=>mJ ((s,true)::p) R e a fun x=>mJ ((s,false)::p) R e b fun y=>pickK t x y K))
  |_=>False)
 |_=>False
def yX(T:eF U)(t:Nat)(K:Kd→Prop):Prop:=match aL T t with
 |some ti=>K ti.kd
 |none=>False
def yY:Kd→Bool| .sl _=>true|_=>false
def o5:Kd→Bool| .str=>true|_=>false
def FQ(T:eF U)(t:Nat)(K:Nat→TI U→Prop):Prop:=match aL T t with
 |some ti=>(match ti.kd with
  | .sl e=>(match aL T e with|some ei=>K e ei|none=>False)
  |_=>False)
 |none=>False
def nK(neg b:Bool)(K:Va U→Prop):Prop:=match neg with
 |true=>K ⟨false,[(1,.d .bool (!b))]⟩
 |false=>K ⟨false,[(1,.d .bool b)]⟩
def FR(neg:Bool)(H:Hs U)(x:Cx U)(K:Va U→Prop):Prop:=match x with
 | .nilp| .nils=>K ⟨false,[(1,.d .bool (!neg))]⟩
 | .ptr _ _| .pd _ _| .pax _ _ _ _ _ _=>K ⟨false,[(1,.d .bool neg)]⟩
 | .pel i v _ _=>bif ql H i v then K ⟨false,[(1,.d .bool neg)]⟩else False
 |x=>vh H x fun e xs=> ∀b:Bool,(b=true→xs= [])→nK neg b K
def yZ(T:eF U)(t:Nat)(x y:Cx U):Bool:=match x,y with
 | .nilp,.nilp| .ptr _ _,.nilp| .pd _ _,.nilp| .pel _ _ _ _,.nilp| .pax _ _ _ _ _ _,.nilp=>(match aL T t with|some ti=>(match ti.kd with| .ptr _=>true|_=>false)|none=>false)
 | .nils,.nils| .own _ _,.nils| .d (.sl _) _,.nils=>(match aL T t with|some ti=>(match ti.kd with| .sl _=>true|_=>false)|none=>false)
 |_,_=>false
def FS(g:Prop→Prop)(T:eF U)(op:BinOp)(t:Nat)(H:Hs U)(x y:Cx U)(K:Va U→Prop):Prop:=match x,y with
 | .d (.int k) p,.d (.int k') q=>FJ g op k p k' q K
 | .d .str p,.d .str q=>FK g op p q K
 | .d .bool p,.d .bool q=>yX T t fun k=>(match k with| .bool=>FL op p q K|_=>False)
 |x,y=>bif yZ T t x y then(match op with
  | .eql=>FR false H x K
  | .neq=>FR true H x K
  |_=>False)else False
def OO(U:cn)(s:bm):TT U.ty s→TT U.ty s→(Bool→Prop)→Prop:=match s with
 | .st i=>fun a b K=>(U.rd i).eqK a b K
 | .arr _ (.int _)=>fun(a b:List Int) K=>K (decide (a=b))
 | .arr _ .bool=>fun(a b:List Bool) K=>K (decide (a=b))
 | .arr _ .str=>fun(a b:List (List UInt8)) K=>K (decide (a=b))
 |_=>fun _ _ _=>False
def FT(g:Prop→Prop)(T:eF U)(op:BinOp)(t:Nat)(H:Hs U)(x y:Va U)(K:Va U→Prop):Prop:=match x,y with
 |⟨false,(_,a):: []⟩,⟨false,(_,b):: []⟩=>FS g T op t H a b K
 |⟨true,l⟩,⟨true,l'⟩=>(match aL T t with
  |some ti=>(match ti.sh,ti.cmp with
   |some s,true=>dL 20 s l fun a=>dL 20 s l' fun b=>OO U s a b fun r=>(match op with
    | .eql=>K ⟨false,[(1,.d .bool r)]⟩
    | .neq=>K ⟨false,[(1,.d .bool (!r))]⟩
    |_=>False)
   |_,_=>False)
  |none=>False)
 |_,_=>False
def FU:Kd→Bool| .mp _ _=>true|_=>false
def y0(H:Hs U)(x:Cx U)(K:(d:KD U)→List (TT U.ty d.k×TT U.ty d.v)→Prop):Prop:=match x with
 | .mp i=>(match aL H i with
  |some (.map d l)=>K d l
  |some (.mapr d l _ _ _)=>K d l
  |_=>False)
 |_=>False
def xM(T:eF U)(t:Nat)(d:KD U):Bool:=match aL T t with
 |some ti=>(match ti.kd with
  | .mp k v=>Nat.beq k d.kt&&Nat.beq v d.vt
  |_=>false)
 |none=>false
def tt(s:bm)(x:TT U.ty s):Va U:=⟨fS s,[(aU U s,.d s x)]⟩
def IG(ok:Bool)(d:KD U)(r:Option (TT U.ty d.v))(K:AV U→Prop):Prop:=match ok with
 |true=>K (.tup [tt d.v (r.getD d.zero),⟨false,[(1,.d .bool r.isSome)]⟩])
 |false=>K (.v (tt d.v (r.getD d.zero)))
def FV(T:eF U)(t:Nat)(H:Hs U)(x:Cx U)(K:Int→Prop):Prop:=match x with
 | .d .str s=>yX T t fun k=>bif o5 k then K (s.length:Int)else False
 | .nils=>yX T t fun k=>bif yY k then K 0 else False
 | .mp i=>yX T t fun k=>bif FU k then y0 H (.mp i) fun _ l=>VS ((l.length:Int)≤9223372036854775807) (K (l.length:Int))else False
 |x=>yX T t fun k=>bif yY k then vh H x fun _ xs=>K (xs.length:Int)else False
def FW(g:Prop→Prop)(T:eF U)(t:Nat)(x:Cx U)(q:Int)(K:Va U→Prop):Prop:=match x with
 | .d .str s=>yX T t fun k=>bif o5 k then VS (g (0≤q∧q<s.length)) (K ⟨false,[(1,.d (.int .u8) ((ix s q).toNat:Int))]⟩)else False
 |_=>False
def IH(g:Prop→Prop)(T:eF U)(t:Nat)(H:Hs U)(x:Cx U)(q:Int)(K:Cx U→Prop):Prop:=FQ T t fun _ ei=>match x with
 | .d (.sl e) xs=>bif Nat.beq ei.sz (aU U e)&&Nat.blt 0 (aU U e)then VS (g (0≤q∧q<xs.length)) (yJ U e xs q fun y=>K (.pd e y))else False
 | .own i v=>(match aL H i with
  |some (.row v' e xs _)=>bif Nat.beq v v'&&Nat.beq ei.sz (aU U e)then VS (g (0≤q∧q<xs.length)) (K (.pel i v q 0))else False
  |some (.frz v' e xs)=>bif Nat.beq v v'&&Nat.beq ei.sz (aU U e)then VS (g (0≤q∧q<xs.length)) (yJ U e xs q fun y=>K (.pd e y))else False
  |_=>False)
 |_=>False
def FX(g:Prop→Prop)(T:eF U)(t:Nat)(l:List (cC U))(q:Int)(K:Va U→Prop):Prop:=match aL T t with
 |some ti=>(match ti.kd,ti.sh with
  | .arr n e,some (.arr m s)=>(match aL T e with
   |some ei=>bif Nat.beq n m&&Nat.beq ei.sz 1&&Nat.beq (aU U s) 1&&!u7 ei.kd then dL 20 (.arr m s) l fun xs=>VS (g (0≤q∧q<n)) (yJ U s xs q fun x=>K ⟨false,[(1,.d s x)]⟩)else False
   |none=>False)
  |_,_=>False)
 |none=>False
def FY(g:Prop→Prop)(T:eF U)(n e:Nat)(x:Cx U)(y:Operand)(q:Int)(K:Cx U→Prop):Prop:=match aL T e with
 |some ei=>(match ei.sh with
  |some s=>bif Nat.beq ei.sz (aU U s)then(match x with
   | .ptr i off=>(match y with
    | .const (.int _ (.ofNat c))=>bif Nat.blt c n then K (.ptr i (off+c*aU U s))else False
    |_=>VS (g (0≤q∧q<n)) (K (.pax i off n s q 0)))
   | .pd (.arr m s') xs=>bif Nat.beq n m&&Nat.beq (aU U s') (aU U s)then VS (g (0≤q∧q<n)) (yJ U s' xs q fun x=>K (.pd s' x))else False
   |_=>False)else False
  |none=>False)
 |none=>False
def BY(T:eF U)(t:Nat):Option (Nat×Nat):=match aL T t with
 |some ti=>(match ti.kd with
  | .arr n e=>some (n,e)
  |_=>none)
 |none=>none
def qm(p:dQ)(R e:En U)(o:Option Operand)(d:Int)(K:Int→Prop):Prop:=match o with
 |none=>K d
 |some o=>km p R e o fun v=>(match v with
  | .d (.int _) q=>K q
  |_=>False)
def BZ(g:Prop→Prop)(T:eF U)(t:Nat)(p:dQ)(R e:En U)(x:Cx U)(lo hi:Option Operand)(K:Cx U→Prop):Prop:=match x with
 | .d .str s=>yX T t fun k=>bif o5 k then qm p R e lo 0 fun a=>qm p R e hi (s.length:Int) fun b=>VS (g (0≤a∧a≤b∧b≤s.length)) (match lo,hi with
  |none,_=>K (.d .str (s.take b.toNat))
  |_,none=>K (.d .str (s.drop a.toNat))
  |_,_=>K (.d .str ((s.take b.toNat).drop a.toNat)))else False
 | .d (.sl s) xs=>FQ T t fun _ ei=>bif Nat.beq ei.sz (aU U s)then qm p R e lo 0 fun a=>qm p R e hi (xs.length:Int) fun b=>VS (g (0≤a∧a≤b∧b≤xs.length)) (match lo,hi with
  |none,_=>K (.d (.sl s) (xs.take b.toNat))
  |_,none=>K (.d (.sl s) (xs.drop a.toNat))
  |_,_=>K (.d (.sl s) ((xs.take b.toNat).drop a.toNat)))else False
 |_=>False
def EE(H:Hs U):Cx U→Bool
 | .ptr _ _| .pd _ _| .pax _ _ _ _ _ _=>true
 | .pel i v _ _=>ql H i v
 |_=>false
def LH(l:List (Va U)):(List Nat→Prop)→Prop:=
 List.rec (motive:=fun _=>(List Nat→Prop)→Prop) (fun K=>K []) (fun x _ ih K=>match x with
  |⟨false,(_,.ptr j 0):: []⟩=>ih fun r=>K (j::r)
  |_=>False) l
def LI(p:dQ)(R e:En U)(x:Operand)(K:AV U→Prop):Prop:=match x with
 | .tmp t=>(match aL R t with
  |some (.gd q y)=>bif jD q p then K (.v y)else False
  |some _=>False
  |none=>(match aL e t with
   |some (.v y)=>K (.v y)
   |some (.tup l)=>K (.tup l)
   |_=>False))
 |x=>mJ p R e x fun v=>K (.v v)
def l4(g:Prop→Prop)(T:eF U)(p:dQ)(o:Oper)(R e:En U)(H:Hs U)(K:AV U→Prop):Prop:=match o.op with
 | .move x=>LI p R e x K
 | .assign x=>mJ p R e x fun v=>K (.v v)
 | .pick c a b=>FP p R e c a b fun v=>K (.v v)
 | .load t x=>km p R e x fun c=>tq T t H c fun v=>K (.v v)
 | .nilCheck x=>km p R e x fun c=>bif EE H c then K (.v ⟨false,[(1,c)]⟩)else False
 | .binOp op t x y _=>mJ p R e x fun v=>mJ p R e y fun w=>FT g T op t H v w fun v=>K (.v v)
 | .unOp op _ x=>km p R e x fun c=>(match op,c with
  | .not,.d .bool b=>K (.v ⟨false,[(1,.d .bool (!b))]⟩)
  | .neg,.d (.int k) q=>EC g k q q (Neg.neg (α:=Int) q) fun r=>K (.v ⟨false,[(1,.d (.int k) r)]⟩)
  |_,_=>False)
 | .fieldAddr t x f=>km p R e x fun c=>FN T t f H c fun c=>K (.v ⟨false,[(1,c)]⟩)
 | .field t x f=>mJ p R e x fun v=>(match v.ag with
  |true=>FO T t f v.l fun v=>K (.v v)
  |false=>False)
 | .indexAddr t x y=>km p R e x fun c=>km p R e y fun d=>(match d with
  | .d (.int _) q=>(match BY T t with
   |some (n,el)=>FY g T n el c y q fun c=>K (.v ⟨false,[(1,c)]⟩)
   |none=>IH g T t H c q fun c=>K (.v ⟨false,[(1,c)]⟩))
  |_=>False)
 | .index t x y=>mJ p R e x fun v=>km p R e y fun d=>(match d with
  | .d (.int _) q=>(match v.ag with
   |true=>FX g T t v.l q fun v=>K (.v v)
   |false=>FM v fun c=>FW g T t c q fun v=>K (.v v))
  |_=>False)
 | .slice t x lo hi none=>km p R e x fun c=>BZ g T t p R e c lo hi fun c=>K (.v ⟨false,[(1,c)]⟩)
 | .lookup t m kx ok=>km p R e m fun c=>mJ p R e kx fun kv=>y0 H c fun d l=>bif xM T t d&&(kv.ag==fS d.k)then dL 20 d.k kv.l fun k=>IG ok d (@dP _ _ d.dec l k) K else False
 | .entry x=>km p R e x fun c=>(match c with
  | .ptr j 0=>(match aL H j with
   |some (.it i gh)=>(match aL H i with
    |some (.mapr d l left (q:: []) gh')=>VS (gh=gh') (K (.tup [tt d.k q.1,tt d.v q.2]))
    |_=>False)
   |_=>False)
  |_=>False)
 | .extract x i=>(match x with
  | .tmp t=>(match aL R t with
   |some _=>False
   |none=>(match aL e t with
    |some (.tup l)=>(match eM l i with|some v=>K (.v v)|none=>False)
    |_=>False))
  |_=>False)
 | .build t ps=>(match aL T t with
  |some ti=>(match ti.kd with
   | .st=>BW T p R e ti.fs ps.toList ti.zero fun l=>K (.v ⟨true,l⟩)
   | .arr k el=>(match aL T el with
    |some ei=>BW T p R e (Ik ei.sz el k 0) ps.toList ti.zero fun l=>K (.v ⟨true,l⟩)
    |none=>False)
   |_=>False)
  |none=>False)
 | .makeFunc (.func f) first caps=>(match first.toList with
  | []=>tl p R e caps.toList fun xs=>LH xs fun js=>K (.v ⟨false,[(1,.clo f js)]⟩)
  |_=>False)
 | .convert s d x=>km p R e x fun c=>yX T s fun _=>yX T d fun kd=>(match c,kd with
  | .d (.int k) q,.int k'=>IF (g (fu k q→fu k' q)) (K (.v ⟨false,[(1,.d (.int k') q)]⟩)) (LG k' q fun r=>K (.v ⟨false,[(1,.d (.int k') r)]⟩))
  |_,_=>False)
 | .call c=>(match c.callee,c.args.toList,c.argTypes.toList with
  | .builtin .len,x:: [],t:: []=>km p R e x fun a=>FV T t H a fun r=>K (.v ⟨false,[(1,.d (.int .i64) r)]⟩)
  | .builtin .max,x::y:: [],_::_:: []=>km p R e x fun a=>km p R e y fun b=>(match a,b with
   | .d (.int k) a,.d (.int k') b=>bif lm k k' then K (.v ⟨false,[(1,.d (.int k) (max (α:=Int) a b))]⟩)else False
   |_,_=>False)
  | .builtin .min,x::y:: [],_::_:: []=>km p R e x fun a=>km p R e y fun b=>(match a,b with
   | .d (.int k) a,.d (.int k') b=>bif lm k k' then K (.v ⟨false,[(1,.d (.int k) (min (α:=Int) a b))]⟩)else False
   |_,_=>False)
  |_,_,_=>False)
 |_=>False
end
end Go.Proofs.YtiliglahlfkikaaGreatDoor.V
end

section
set_option linter.unusedVariables false
namespace Go.Proofs.YtiliglahlfkikaaGreatDoor.V
open Go.RowKit
section
variable {U:cn}
def ji(i:Nat):List Nat→Bool
 | []=>false
 |j::r=>Nat.beq j i||ji i r
def LJ(i:Nat)(L:List Nat):List Nat:=bif ji i L then L else L++ [i]
def Pk(H:Hs U)(x:Cx U):Option Nat:=match x with
 | .own i _=>(match aL H i with|some (.row _ _ _ _)=>some i|_=>none)
 | .ptr i _=>some i
 | .pel i _ _ _=>some i
 | .pax i _ _ _ _ _=>some i
 | .mp i=>some i
 | .clo _ (j:: [])=>some j
 |_=>none
def y2(H:Hs U):List (cC U)→List Nat→List Nat
 | [],L=>L
 |(_,x)::r,L=>match Pk H x with
  |some i=>y2 H r (LJ i L)
  |none=>y2 H r L
def LK(H:Hs U)(i:Nat)(L:List Nat):List Nat:=match aL H i with
 |some (.cells l _)=>y2 H l L
 |some (.clo _ l)=>y2 H l L
 |_=>L
def xN(H:Hs U):Nat→Nat→List Nat→List Nat
 |0,_,L=>L
 |n+1,j,L=>match eM L j with
  |some i=>xN H n (j+1) (LK H i L)
  |none=>L
def xO(H:Hs U):List (Va U)→List Nat→List Nat
 | [],L=>L
 |x::r,L=>xO H r (y2 H x.l L)
def tz(L:List Nat)(i:Nat):Nat→(Nat→Prop)→Prop:=
 List.rec (motive:=fun _=>Nat→(Nat→Prop)→Prop) (fun _ _=>False) (fun j _ ih c K=>bif Nat.beq j i then K c else ih (c+1) K) L
def B1(L:List Nat):(List Nat→Prop)→Prop:=
 List.rec (motive:=fun _=>(List Nat→Prop)→Prop) (fun K=>K []) (fun x _ ih K=>ih fun r=>K (x::r)) L
def zV(z:Bool)(v:Nat)(K:Nat→Prop):Prop:=match z with
 |true=>K 0
 |false=>K v
def vk(z:Bool)(H:Hs U)(L:List Nat)(x:Cx U)(K:Cx U→Prop):Prop:=match x with
 | .own i v=>(match aL H i with
  |some (.row v' _ _ _)=>bif Nat.beq v v' then tz L i 0 fun j=>zV z v fun v=>K (.own j v)else K .un
  |some (.frz v' e xs)=>bif Nat.beq v v' then K (.d (.sl e) xs)else K .un
  |_=>K .un)
 | .ptr i o=>tz L i 0 fun j=>K (.ptr j o)
 | .pel i v q o=>(match aL H i with
  |some (.row v' _ _ _)=>bif Nat.beq v v' then tz L i 0 fun j=>zV z v fun v=>K (.pel j v q o)else K .un
  |_=>K .un)
 | .pax _ _ _ _ _ _=>K .un
 | .clo f (i:: [])=>tz L i 0 fun j=>K (.clo f [j])
 | .clo _ _=>K .un
 | .mp i=>tz L i 0 fun j=>K (.mp j)
 |x=>K x
def qn(z:Bool)(H:Hs U)(L:List Nat)(l:List (cC U)):(List (cC U)→Prop)→Prop:=
 List.rec (motive:=fun _=>(List (cC U)→Prop)→Prop) (fun K=>K []) (fun x _ ih K=>vk z H L x.2 fun y=>ih fun r=>K ((x.1,y)::r)) l
def F2(z:Bool)(H:Hs U)(L:List Nat)(x:aW U)(K:aW U→Prop):Prop:=match x with
 | .cells l t=>qn z H L l fun l=>K (.cells l t)
 | .row v e xs t=>zV z v fun v=>K (.row v e xs t)
 | .frz _ _ _=>K .dead
 | .clo _ _=>K .dead
 | .map d l=>K (.map d l)
 | .mapr d l _ _ _=>K (.map d l)
 | .it _ _=>K .dead
 | .hid _ _ _=>K .dead
 | .dead=>K .dead
def tA(z:Bool)(H:Hs U)(L:List Nat)(M:List Nat):(List (aW U)→Prop)→Prop:=
 List.rec (motive:=fun _=>(List (aW U)→Prop)→Prop) (fun K=>K []) (fun i _ ih K=>match aL H i with
  |some x=>F2 z H L x fun y=>ih fun r=>K (y::r)
  |none=>False) M
def tB(z:Bool)(H:Hs U)(L:List Nat)(l:List (Va U)):(List (Va U)→Prop)→Prop:=
 List.rec (motive:=fun _=>(List (Va U)→Prop)→Prop) (fun K=>K []) (fun x _ ih K=>qn z H L x.l fun l=>ih fun r=>K (⟨x.ag,l⟩::r)) l
def B2(fs:List (Nat×Option bm)):Hs U→List (cC U)→(Hs U→List (cC U)→Prop)→Prop:=
 List.rec (motive:=fun _=>Hs U→List (cC U)→(Hs U→List (cC U)→Prop)→Prop) (fun H l K=>K H l) (fun x _ ih H l K=>tK 40 l x.1 fun l1=>jg 40 l x.1 fun l2=>match x.2 with
  |some s=>bif Nat.beq x.1 (aU U s)then mh l1 H fun H l1=>dL 20 s l1 fun u=>ih H l2 fun H r=>K H ((x.1,.d s u)::r)else False
  |none=>ih H l2 fun H r=>rE l1 r fun r=>K H r) fs
def xP(fs:List (Nat×Option bm))(j:Nat)(H:Hs U)(K:Hs U→Prop):Prop:=match aL H j with
 |some (.cells l t)=>B2 fs H l fun H l=>jC H j (.cells l t) K
 |_=>False
def Lq(em:List (Nat×List (Nat×Option bm))):Hs U→(Hs U→Prop)→Prop:=
 List.rec (motive:=fun _=>Hs U→(Hs U→Prop)→Prop) (fun H K=>K H) (fun x _ ih H K=>xP x.2 x.1 H fun H=>ih H K) em
def Il(md:List Md):List (Va U)→Hs U→(Hs U→Prop)→Prop:=
 List.rec (motive:=fun _=>List (Va U)→Hs U→(Hs U→Prop)→Prop) (fun _ H K=>K H) (fun m _ ih l H K=>match l with
  | []=>K H
  |x::r=>(match m with
   | .p fs=>(match x with
    |⟨false,(_,.ptr j 0):: []⟩=>xP fs j H fun H=>ih r H K
    |⟨false,(_,.nilp):: []⟩=>ih r H K
    |_=>False)
   |_=>ih r H K)) md
def EF(md:List Md):List (Va U)→Hs U→(Hs U→List (Va U)→Prop)→Prop:=
 List.rec (motive:=fun _=>List (Va U)→Hs U→(Hs U→List (Va U)→Prop)→Prop) (fun l H K=>K H l) (fun m _ ih l H K=>match l with
  | []=>K H []
  |x::r=>(match m with
   | .d s=>yW s H x fun H t=>ih r H fun H r=>K H (⟨x.ag,[(aU U s,.d s t)]⟩::r)
   |_=>ih r H fun H r=>K H (x::r))) md
def B3(T:eF U)(js:List Nat):Hs U→(Hs U→List (Va U)→Prop)→Prop:=
 List.rec (motive:=fun _=>Hs U→(Hs U→List (Va U)→Prop)→Prop) (fun H K=>K H []) (fun j _ ih H K=>match aL H j with
  |some (.cells l t)=>(match aL T t with
   |some ti=>(match ti.sh with
    |some s=>mh l H fun H l=>dL 20 s l fun x=>ih H fun H r=>K H (⟨false,[(1,.pd s x)]⟩::r)
    |none=>False)
   |none=>False)
  |_=>False) js
def y3(c:bf U)(caps:List (Va U))(a:bm)(g:TT U.ty a→Bool):Prop:= ∀t:TT U.ty a,c.run (⟨fS a,[(aU U a,.d a t)]⟩::caps) [] fun r es=>r= .v ⟨false,[(1,.d .bool (g t))]⟩∧es= []
def y4(c:bf U)(caps:List (Va U))(a b:bm)(g:TT U.ty a→TT U.ty b→Int):Prop:= ∀(t:TT U.ty a) (t':TT U.ty b),c.run (⟨fS a,[(aU U a,.d a t)]⟩::⟨fS b,[(aU U b,.d b t')]⟩::caps) [] fun r es=>r= .v ⟨false,[(1,.d (.int .i64) (g t t'))]⟩∧es= []
def qo(G:jZ U)(f:FuncId)(K:bf U→Prop):Prop:=match aL G f with
 |some c=>K c
 |none=>False
def B4(T:eF U)(G:jZ U)(a:bm)(x:Va U)(H:Hs U)(K:Hs U→(TT U.ty a→Bool)→List Nat→Prop):Prop:=match x with
 |⟨false,(_,.fn f):: []⟩=>qo G f fun c=> ∃g,y3 c [] a g∧K H g []
 |⟨false,(_,.clo f js):: []⟩=>B3 T js H fun H caps=>qo G f fun c=> ∃g,y3 c caps a g∧K H g js
 |⟨false,(_,.f1 a' g):: []⟩=>(match gC U.ty (fun x=>x→Bool) a' a g with
  |some g=>K H g []
  |none=>False)
 |_=>False
def B5(T:eF U)(G:jZ U)(a b:bm)(x:Va U)(H:Hs U)(K:Hs U→(TT U.ty a→TT U.ty b→Int)→List Nat→Prop):Prop:=match x with
 |⟨false,(_,.fn f):: []⟩=>qo G f fun c=> ∃g,y4 c [] a b g∧K H g []
 |⟨false,(_,.clo f js):: []⟩=>B3 T js H fun H caps=>qo G f fun c=> ∃g,y4 c caps a b g∧K H g js
 |⟨false,(_,.f2 a' b' g):: []⟩=>(match gC U.ty (fun x=>x→TT U.ty b'→Int) a' a g with
  |some g=>(match gC U.ty (fun y=>TT U.ty a→y→Int) b' b g with
   |some g=>K H g []
   |none=>False)
  |none=>False)
 |_=>False
def F3(T:eF U)(G:jZ U)(md:List Md):List (Va U)→Hs U→(Hs U→List (Va U)→List Nat→Prop)→Prop:=
 List.rec (motive:=fun _=>List (Va U)→Hs U→(Hs U→List (Va U)→List Nat→Prop)→Prop) (fun l H K=>K H l []) (fun m _ ih l H K=>match l with
  | []=>K H [] []
  |x::r=>(match m with
   | .d s=>yW s H x fun H t=>ih r H fun H r Z=>K H (⟨x.ag,[(aU U s,.d s t)]⟩::r) Z
   | .f1 a=>B4 T G a x H fun H g js=>ih r H fun H r Z=>K H (⟨false,[(1,.f1 a g)]⟩::r) (js++Z)
   | .f2 a b=>B5 T G a b x H fun H g js=>ih r H fun H r Z=>K H (⟨false,[(1,.f2 a b g)]⟩::r) (js++Z)
   |_=>ih r H fun H r Z=>K H (x::r) Z)) md
def y5(L:List Nat):List Nat→Bool
 | []=>true
 |z::Z=>bif ji z L then false else y5 L Z
def B6(es:List (aW U)):List Nat→Nat→(List Nat→Nat→Prop)→Prop:=
 List.rec (motive:=fun _=>List Nat→Nat→(List Nat→Nat→Prop)→Prop) (fun _ n K=>K [] n) (fun _ _ ih L n K=>match L with
  |i::L=>ih L n fun l n=>K (i::l) n
  | []=>ih [] (n+1) fun l n'=>K (n::l) n') es
def vl(H:Hs U)(i v:Nat)(K:Nat→Prop):Prop:=match aL H i with
 |some (.row v0 _ _ _)=>K (v0+v)
 |_=>K v
def qK(H:Hs U)(L:List Nat)(x:Cx U)(K:Cx U→Prop):Prop:=match x with
 | .own j v=>(match eM L j with
  |some i=>vl H i v fun v=>K (.own i v)
  |none=>K .un)
 | .ptr j o=>(match eM L j with
  |some i=>K (.ptr i o)
  |none=>K .un)
 | .pel j v q o=>K .un
 | .pax _ _ _ _ _ _=>K .un
 | .clo f (j:: [])=>(match eM L j with
  |some i=>K (.clo f [i])
  |none=>K .un)
 | .clo _ _=>K .un
 | .f1 _ _=>K .un
 | .f2 _ _ _=>K .un
 | .mp j=>(match eM L j with
  |some i=>K (.mp i)
  |none=>K .un)
 |x=>K x
def oq(H:Hs U)(L:List Nat)(l:List (cC U)):(List (cC U)→Prop)→Prop:=
 List.rec (motive:=fun _=>(List (cC U)→Prop)→Prop) (fun K=>K []) (fun x _ ih K=>qK H L x.2 fun y=>ih fun r=>K ((x.1,y)::r)) l
def y6(H:Hs U)(L:List Nat)(i:Nat)(x:aW U)(K:aW U→Prop):Prop:=match x with
 | .cells l t=>oq H L l fun l=>K (.cells l t)
 | .row v e xs t=>vl H i v fun v=>K (.row v e xs t)
 | .frz v e xs=>vl H i v fun v=>K (.frz v e xs)
 | .clo _ _=>K .dead
 | .map d l=>K (.map d l)
 | .mapr _ _ _ _ _=>K .dead
 | .it _ _=>K .dead
 | .hid _ _ _=>K .dead
 | .dead=>K .dead
def rG(H:Hs U)(L:List Nat)(l:List (Va U)):(List (Va U)→Prop)→Prop:=
 List.rec (motive:=fun _=>(List (Va U)→Prop)→Prop) (fun K=>K []) (fun x _ ih K=>oq H L x.l fun l=>ih fun r=>K (⟨x.ag,l⟩::r)) l
def EG(H:Hs U)(L:List Nat)(x:AV U)(K:AV U→Prop):Prop:=match x with
 | .v x=>oq H L x.l fun l=>K (.v ⟨x.ag,l⟩)
 | .tup l=>rG H L l fun l=>K (.tup l)
 |_=>K .un
def B7(H:Hs U)(i:Nat)(x:aW U)(K:Hs U→Prop):Prop:=match aL H i with
 |some _=>jC H i x K
 |none=>K ((i,x)::H)
def y7(H0:Hs U)(L:List Nat)(M:List Nat):List (aW U)→Hs U→(Hs U→Prop)→Prop:=
 List.rec (motive:=fun _=>List (aW U)→Hs U→(Hs U→Prop)→Prop) (fun _ H K=>K H) (fun i _ ih es H K=>match es with
  |x::r=>y6 H0 L i x fun y=>B7 H i y fun H=>ih r H K
  | []=>False) M
def oE:List Nat→Bool
 | []=>true
 |i::r=>bif ji i r then false else oE r
def F4(T:eF U)(G:jZ U)(c:bf U)(xs:List (Va U))(n:Nat)(H:Hs U)(K:AV U→Nat→Hs U→Prop):Prop:=
 Il c.md xs H fun H=>F3 T G c.md xs H fun H xs Z=>B1 (xN H 30 0 (xO H xs [])) fun L=>bif oE L&&y5 L Z then tB true H L xs fun ys=>tA true H L L fun es=>c.run ys es fun r es=>B6 es L n fun L2 n2=>EG H L2 r fun r=>y7 H L2 L2 es H fun H=>K r n2 H else False
def EH(T:eF U)(G:jZ U)(f:FuncId)(xs:List (Va U))(n:Nat)(H:Hs U)(K:AV U→Nat→Hs U→Prop):Prop:=match aL G f with
 |some c=>F4 T G c xs n H K
 |none=>False
def F5(s:bm)(H:Hs U)(y:Cx U)(K:List (TT U.ty s)→Prop):Prop:=match y with
 | .nils=>K []
 |y=>vh H y fun e ys=>(match gC U.ty List e s ys with
  |some ys=>K ys
  |none=>False)
def Im(U:cn)(s:bm)(ei:TI U):Bool:=Nat.beq ei.sz (aU U s)&&Nat.blt 0 (aU U s)&&Nat.blt 0 ei.by_
def IJ(T:eF U)(t:Nat)(H:Hs U)(n:Nat)(x y:Cx U)(K:AV U→Nat→Hs U→Prop):Prop:=FQ T t fun el ei=>match ei.sh with
 |some s=>bif Im U s ei then F5 s H y fun ys=>(match x with
  | .nils=>VS (ys.length*ei.by_≤140737488355328) (K (.v ⟨false,[(1,.own n 0)]⟩) (n+1) ((n,.row 0 s ys el)::H))
  | .own i v=>(match aL H i with
   |some (.row v' e' xs u)=>bif Nat.beq v v'&&Nat.beq u el then(match gC U.ty List e' s xs with
    |some xs=>VS ((xs.length+ys.length)*ei.by_≤140737488355328) (jC H i (.row (v+1) s (xs++ys) u) fun H=>K (.v ⟨false,[(1,.own i (v+1))]⟩) n H)
    |none=>False)else False
   |_=>False)
  |_=>False)else False
 |none=>False
def IK(T:eF U)(t:Nat)(H:Hs U)(n:Nat)(q r:Int)(K:AV U→Nat→Hs U→Prop):Prop:=FQ T t fun el ei=>match ei.sh with
 |some s=>bif Im U s ei then dL 20 s ei.zero fun z=>VS (0≤q∧q≤r∧r≤281474976710656∧ei.by_*r.toNat≤281474976710656) (K (.v ⟨false,[(1,.own n 0)]⟩) (n+1) ((n,.row 0 s (List.replicate q.toNat z) el)::H))else False
 |none=>False
def LM(c:Cx U)(xs:List (Va U))(H:Hs U)(K:AV U→Hs U→Prop):Prop:=match c,xs with
 | .f1 a g,x:: []=>bif x.ag==fS a then yW a H x fun H t=>K (.v ⟨false,[(1,.d .bool (g t))]⟩) H else False
 | .f2 a b g,x::y:: []=>bif (x.ag==fS a)&&(y.ag==fS b)then yW a H x fun H t=>yW b H y fun H t'=>K (.v ⟨false,[(1,.d (.int .i64) (g t t'))]⟩) H else False
 |_,_=>False
def OP(c:Cx U)(xs:List (Va U))(K:Va U→Prop):Prop:=match c,xs with
 | .f1 a g,x:: []=>bif x.ag==fS a then dL 20 a x.l fun t=>K ⟨false,[(1,.d .bool (g t))]⟩else False
 | .f2 a b g,x::y:: []=>bif (x.ag==fS a)&&(y.ag==fS b)then dL 20 a x.l fun t=>dL 20 b y.l fun t'=>K ⟨false,[(1,.d (.int .i64) (g t t'))]⟩else False
 |_,_=>False
def F6(T:eF U)(t:Nat)(H:Hs U)(c:Cx U)(kv xv:Va U)(K:Hs U→Prop):Prop:=match c with
 | .mp i=>(match aL H i with
  |some (.map d l)=>bif xM T t d&&((kv.ag==fS d.k)&&(xv.ag==fS d.v))then dL 20 d.k kv.l fun k=>yW d.v H xv fun H y=>jC H i (.map d (@iI _ _ d.dec l k y)) K else False
  |_=>False)
 |_=>False
def F7(T:eF U)(t:Nat)(H:Hs U)(c:Cx U)(kv:Va U)(K:Hs U→Prop):Prop:=match c with
 | .mp i=>(match aL H i with
  |some (.map d l)=>bif xM T t d&&(kv.ag==fS d.k)then dL 20 d.k kv.l fun k=>jC H i (.map d (@eP _ _ d.dec l k)) K else False
  |some (.mapr d l left _ gh)=>bif xM T t d&&(kv.ag==fS d.k)then dL 20 d.k kv.l fun k=>jC H i (.mapr d (@eP _ _ d.dec l k) (@eP _ _ d.dec left k) [] gh) K else False
  |_=>False)
 |_=>False
def F8(T:eF U)(t:Nat)(H:Hs U)(n:Nat)(c:Cx U)(K:Hs U→Prop):Prop:=match c with
 | .mp i=>(match aL H i with
  |some (.map d l)=>bif xM T t d then ∀gh,jC H i (.mapr d l l [] gh) fun H=>K ((n,.it i gh)::H)else False
  |_=>False)
 |_=>False
def IL{α:Type}(left:List α)(A:Prop)(B:List α→α→List α→Prop):Prop:=(left= []→A)∧ ∀a p b,left=a++p::b→B a p b
def F9(H:Hs U)(c:Cx U)(K:AV U→Hs U→Prop):Prop:=match c with
 | .ptr j 0=>(match aL H j with
  |some (.it i gh)=>(match aL H i with
   |some (.mapr d l left _ gh')=>VS (gh=gh') (IL left (jC H j .dead fun H=>jC H i (.map d l) fun H=>K (.tup [⟨false,[(1,.d .bool false)]⟩]) H)
     fun a p b=> ∀gh2,jC H j (.it i gh2) fun H=>jC H i (.mapr d l (a++b) [p] gh2) fun H=>K (.tup [⟨false,[(1,.d .bool true)]⟩,tt d.k p.1,tt d.v p.2]) H)
   |_=>False)
  |_=>False)
 |_=>False
def o7(d:Option Nat)(A:Prop):Prop:=match d with
 |some _=>A
 |none=>False
def IM(d:Option Nat)(A:Prop):Prop:=match d with
 |some _=>False
 |none=>A
def y8(T:eF U)(G:jZ U)(o:Oper)(R e:En U)(n:Nat)(H:Hs U)(K:AV U→Nat→Hs U→Prop):Prop:=match o.op with
 | .alloc t=>o7 o.dst (match aL T t with
  |some ti=>K (.v ⟨false,[(1,.ptr n 0)]⟩) (n+1) ((n,.cells ti.zero t)::H)
  |none=>False)
 | .box t x=>o7 o.dst (mJ [] R e x fun v=>K (.v ⟨false,[(1,.ptr n 0)]⟩) (n+1) ((n,.cells v.l t)::H))
 | .makeMap t none=>o7 o.dst (match aL T t with
  |some ti=>(match ti.mp with
   |some d=>K (.v ⟨false,[(1,.mp n)]⟩) (n+1) ((n,.map d [])::H)
   |none=>False)
  |none=>False)
 | .mapUpdate t m kx x=>IM o.dst (km [] R e m fun c=>mJ [] R e kx fun kv=>mJ [] R e x fun xv=>F6 T t H c kv xv fun H=>K .un n H)
 | .range t x=>o7 o.dst (km [] R e x fun c=>F8 T t H n c fun H=>K (.v ⟨false,[(1,.ptr n 0)]⟩) (n+1) H)
 | .next x false=>o7 o.dst (km [] R e x fun c=>F9 H c fun v H=>K v n H)
 | .store t x y=>IM o.dst (km [] R e x fun c=>mJ [] R e y fun w=>vj T t H c w fun H=>K .un n H)
 | .buildSlice t k ps=>o7 o.dst (FQ T t fun el ei=>match ei.sh with
  |some s=>bif Nat.beq ei.sz (aU U s)&&Nat.blt 0 (aU U s)&&Nat.ble (k*aU U s) 1000 then BX [] R e s k ps.toList 0 H fun H l=>K (.v ⟨false,[(1,.own n 0)]⟩) (n+1) ((n,.row 0 s l el)::H)else False
  |none=>False)
 | .makeSlice t x y=>o7 o.dst (km [] R e x fun c=>km [] R e y fun d=>match c,d with
  | .d (.int _) q,.d (.int _) r=>IK T t H n q r K
  |_,_=>False)
 | .call c=>(match c.callee with
  | .builtin .append=>(match c.args.toList,c.argTypes.toList with
   |x::y:: [],t::t':: []=>o7 o.dst (bif Nat.beq t t' then km [] R e x fun a=>km [] R e y fun b=>IJ T t H n a b K else False)
   |_,_=>False)
  | .builtin .delete=>(match c.args.toList,c.argTypes.toList with
   |m::kx:: [],t::_:: []=>IM o.dst (km [] R e m fun c=>mJ [] R e kx fun kv=>F7 T t H c kv fun H=>K .un n H)
   |_,_=>False)
  | .value (.func f)=>tl [] R e c.args.toList fun xs=>EH T G f xs n H K
  | .value (.tmp s)=>o7 o.dst (km [] R e (.tmp s) fun x=>tl [] R e c.args.toList fun xs=>LM x xs H fun v H=>K v n H)
  |_=>False)
 |_=>False
def mP(o:Oper):Bool:=match o.op with
 | .alloc _| .box _ _| .store _ _ _| .buildSlice _ _ _| .makeSlice _ _ _| .makeMap _ _| .mapUpdate _ _ _ _| .range _ _| .next _ _=>true
 | .call c=>(match c.callee with
  | .builtin .append| .builtin .copy| .builtin .clear| .builtin .delete=>true
  | .builtin _=>false
  |_=>true)
 |_=>false
abbrev KS(U:cn):=En U→Nat→Hs U→Prop
def B8(T:eF U)(H:Hs U)(js:List Nat):(List (Va U)→Prop)→Prop:=
 List.rec (motive:=fun _=>(List (Va U)→Prop)→Prop) (fun K=>K []) (fun j _ ih K=>match aL H j with
  |some (.cells l t)=>(match aL T t with
   |some ti=>(match ti.sh with
    |some s=>dL 20 s l fun x=>ih fun r=>K (⟨false,[(1,.pd s x)]⟩::r)
    |none=>False)
   |none=>False)
  |_=>False) js
def B9(T:eF U)(G:jZ U)(H:Hs U)(a:bm)(x:Va U)(K:(TT U.ty a→Bool)→Prop):Prop:=match x with
 |⟨false,(_,.fn f):: []⟩=>qo G f fun c=> ∃g,y3 c [] a g∧K g
 |⟨false,(_,.clo f js):: []⟩=>B8 T H js fun caps=>qo G f fun c=> ∃g,y3 c caps a g∧K g
 |_=>False
def Ca(T:eF U)(G:jZ U)(H:Hs U)(a b:bm)(x:Va U)(K:(TT U.ty a→TT U.ty b→Int)→Prop):Prop:=match x with
 |⟨false,(_,.fn f):: []⟩=>qo G f fun c=> ∃g,y4 c [] a b g∧K g
 |⟨false,(_,.clo f js):: []⟩=>B8 T H js fun caps=>qo G f fun c=> ∃g,y4 c caps a b g∧K g
 |_=>False
def Io(T:eF U)(G:jZ U)(H:Hs U)(md:List Md):List (Va U)→(List (Va U)→Prop)→Prop:=
 List.rec (motive:=fun _=>List (Va U)→(List (Va U)→Prop)→Prop) (fun l K=>match l with| []=>K []|_=>False) (fun m _ ih l K=>match l with
  | []=>K []
  |x::r=>(match m with
   | .d s=>qn true H [] x.l fun l=>dL 20 s l fun t=>ih r fun r=>K (⟨x.ag,[(aU U s,.d s t)]⟩::r)
   | .f1 a=>B9 T G H a x fun g=>ih r fun r=>K (⟨false,[(1,.f1 a g)]⟩::r)
   | .f2 a b=>Ca T G H a b x fun g=>ih r fun r=>K (⟨false,[(1,.f2 a b g)]⟩::r)
   | .p _=>False
   | .n=>qn true H [] x.l fun l=>ih r fun r=>K (⟨x.ag,l⟩::r))) md
def Cb:List (cC U)→Bool
 | []=>true
 |(_,x)::r=>match x with
  | .f1 _ _=>false
  | .f2 _ _ _=>false
  |_=>Cb r
def rH(T:eF U)(G:jZ U)(p:dQ)(o:Oper)(R e:En U)(n:Nat)(H:Hs U)(K:Va U→Prop):Prop:=match o.op with
 | .call c=>(match c.callee with
  | .value (.func f)=>(match aL G f with
   |some k=>tl p R e c.args.toList fun xs=> ∃x:Va U,qI R e p (Io T G H k.md xs fun xs=>k.run xs [] fun r es=>r= .v x∧es= [])∧Cb x.l=true∧K x
   |none=>False)
  | .value (.tmp s)=>km p R e (.tmp s) fun x=>tl p R e c.args.toList fun xs=>OP x xs K
  |_=>False)
 |_=>False
abbrev KR(U:cn):=En U→Nat→Hs U→En U→List Nat→KS U→Prop
def qp(rest:KR U)(d:Option Nat)(v:AV U)(e:En U)(n:Nat)(H:Hs U)(R:En U)(S:List Nat)(K:KS U):Prop:=match d with
 |some d=>bif ji d S then False else rest ((d,v)::e) n H R S K
 |none=>rest e n H R S K
def putG(rest:KR U)(s:Nat)(d:Option Nat)(p:dQ)(x:Va U)(e:En U)(n:Nat)(H:Hs U)(R:En U)(S:List Nat)(K:KS U):Prop:=match d with
 |some d=>(match aL e d with
  |none=>bif ji d S||Nat.beq d s then False else rest e n H ((d,.gd p x)::R) (d::s::S) K
  |some _=>False)
 |none=>False
def tC(T:eF U)(G:jZ U)(o:Oper)(rest:KR U)(s:Nat)(p:dQ)(e:En U)(n:Nat)(H:Hs U)(R:En U)(S:List Nat)(K:KS U):Prop:=match mP o with
 |true=>rH T G p o R e n H fun v=>putG rest s o.dst p v e n H R S K
 |false=>l4 (qI R e p) T p o R e H fun v=>(match v with
  | .v v=>putG rest s o.dst p v e n H R S K
  |_=>False)
def Cc(o:Oper)(v:AV U)(A:Prop):Prop:=match o.op with
 | .call c=>(match c.callee with
  | .builtin .len=>(match v with
   | .v ⟨false,(_,.d (.int k) q):: []⟩=>fu k q→A
   |_=>A)
  |_=>A)
 |_=>A
def jj(T:eF U)(G:jZ U)(all:List Oper)(o:Oper)(rest:KR U)(e:En U)(n:Nat)(H:Hs U)(R:En U)(S:List Nat)(K:KS U):Prop:=match o.guard with
 |none=>(match mP o with
  |true=>y8 T G o R e n H fun v n H=>qp rest o.dst v e n H R S K
  |false=>l4 (fun P=>P) T [] o R e H fun v=>Cc o v (qp rest o.dst v e n H R S K))
 |some (j,b)=>(match eM all j with
  |some oj=>(match oj.dst with
   |some s=>(match aL R s with
    |some (.gd p ⟨false,(_,.d .bool _):: []⟩)=>tC T G o rest s ((s,b)::p) e n H R S K
    |some _=>False
    |none=>(match aL e s with
     |some (.v ⟨false,(_,.d .bool _):: []⟩)=>tC T G o rest s [(s,b)] e n H R S K
     |_=>False))
   |none=>False)
  |none=>False)
def vm(T:eF U)(G:jZ U)(all l:List Oper):KR U:=
 List.rec (motive:=fun _=>KR U) (fun e n H _ _ K=>K e n H) (fun o _ ih=>jj T G all o ih) l
def xQ(p:Nat→Bool)(H:Hs U):(Hs U→Prop)→Prop:=
 List.rec (motive:=fun _=>(Hs U→Prop)→Prop) (fun K=>K []) (fun x _ ih K=>ih fun r=>match p x.1,x.2 with
  |true,.row v e xs _=>K ((x.1,.hid v xs.length (aU U e))::r)
  |true,.cells _ _=>K ((x.1,.dead)::r)
  |true,.map _ _=>K ((x.1,.dead)::r)
  |true,.mapr _ _ _ _ _=>K ((x.1,.dead)::r)
  |true,.it _ _=>K ((x.1,.dead)::r)
  |_,y=>K ((x.1,y)::r)) H
def Cd(p:Nat→Bool)(H:Hs U)(H':Hs U):(Hs U→Prop)→Prop:=
 List.rec (motive:=fun _=>(Hs U→Prop)→Prop) (fun K=>K []) (fun x _ ih K=>ih fun r=>match p x.1,aL H x.1,x.2 with
  |true,some (.row v e xs t),.hid v' _ _=>bif Nat.beq v v' then K ((x.1,.row v e xs t)::r)else False
  |true,some (.cells l t),.dead=>K ((x.1,.cells l t)::r)
  |true,some (.map d l),.dead=>K ((x.1,.map d l)::r)
  |true,some (.mapr d l l' q g),.dead=>K ((x.1,.mapr d l l' q g)::r)
  |true,some (.it i g),.dead=>K ((x.1,.it i g)::r)
  |_,_,y=>K ((x.1,y)::r)) H'
def IP:List Md→Bool
 | []=>false
 |m::r=>match m with
  | .p _=>true
  |_=>IP r
def IQ(G:jZ U)(o:Oper):Bool:=match o.op with
 | .call c=>(match c.callee with
  | .value (.func f)=>(match aL G f with
   |some k=>IP k.md
   |none=>false)
  |_=>false)
 |_=>false
def tD(T:eF U)(G:jZ U)(p:Nat→Bool)(q:dQ)(o:Oper)(R e:En U)(n:Nat)(H:Hs U)(K:Va U→Prop):Prop:=match o.op with
 | .call c=>(match c.callee with
  | .value (.func f)=>(match aL G f with
   |some k=>tl q R e c.args.toList fun xs=>xQ (fun i=>!p i) H fun Hk=> ∃x:Va U,qI R e q (F4 T G k xs n Hk fun r n' H'=>r= .v x∧n'=n∧Cd (fun i=>!p i) H H' fun L=>L=H)∧K x
   |none=>False)
  |_=>False)
 |_=>False
def vn(T:eF U)(G:jZ U)(all:List Oper)(p:Nat→Bool)(o:Oper)(rest:KR U)(e:En U)(n:Nat)(H:Hs U)(R:En U)(S:List Nat)(K:KS U):Prop:=match o.guard with
 |none=>False
 |some (j,b)=>(match eM all j with
  |some oj=>(match oj.dst with
   |some s=>(match aL R s with
    |some (.gd q ⟨false,(_,.d .bool _):: []⟩)=>tD T G p ((s,b)::q) o R e n H fun v=>putG rest s o.dst ((s,b)::q) v e n H R S K
    |some _=>False
    |none=>(match aL e s with
     |some (.v ⟨false,(_,.d .bool _):: []⟩)=>tD T G p [(s,b)] o R e n H fun v=>putG rest s o.dst [(s,b)] v e n H R S K
     |_=>False))
   |none=>False)
  |none=>False)
def l6(T:eF U)(G:jZ U)(all:List Oper)(p:Nat→Bool)(how:Bool)(o:Oper)(rest:KR U)(e:En U)(n:Nat)(H:Hs U)(R:En U)(S:List Nat)(K:KS U):Prop:=match mP o,how with
 |true,true=>False
 |false,true=>xQ p H fun Hu=>jj T G all o (fun e _ _ R S K=>rest e n H R S K) e n Hu R S K
 |false,false=>jj T G all o rest e n H R S K
 |true,false=>(match o.guard with
  |none=>xQ (fun i=>!p i) H fun Hk=>y8 T G o R e n Hk fun v n Hk=>Cd (fun i=>!p i) H Hk fun H=>qp rest o.dst v e n H R S K
  |some _=>bif IQ G o then vn T G all p o rest e n H R S K else jj T G all o rest e n H R S K)
def wD(T:eF U)(G:jZ U)(all:List Oper)(mk:List Nat)(last:KR U)(pl:List (Bool×Nat)):KR U:=
 List.rec (motive:=fun _=>KR U) last (fun x _ ih=>match eM all x.2 with
  |some o=>l6 T G all (fun i=>ji i mk) x.1 o ih
  |none=>fun _ _ _ _ _ _=>False) pl
def l7(T:eF U)(G:jZ U)(all:List Oper)(f:Option Nat):KR U:=match f with
 |none=>fun e n H _ _ K=>K e n H
 |some f=>(match eM all f with
  |some o=>jj T G all o (fun e n H _ _ K=>K e n H)
  |none=>fun _ _ _ _ _ _=>False)
def ot(ops:Array Oper)(f:Option Nat):List (Bool×Nat)→Array Bool→Bool
 | [],listed=>(match f with
  |none=>(Region.ready .any ops listed).isEmpty
  |some f=>Region.ready .any ops listed== [f]&&(Region.ready .any ops (listed.setIfInBounds f true)).isEmpty)
 |(true,i)::r,listed=>(Region.ready .any ops listed).contains i&&Region.free .any ops listed i&&(match f with|some f=>i !=f|none=>true)&&ot ops f r (listed.setIfInBounds i true)
 |(false,i)::r,listed=>Region.ready .any ops listed== [i]&&(match f with|some f=>i !=f|none=>true)&&ot ops f r (listed.setIfInBounds i true)
def vq(ops:Array Oper)(f:Option Nat)(pl:List (Bool×Nat)):Bool:=Region.noSelect ops&&(match f with|some f=>Ds .any ops f|none=>true)&&ot ops f pl (Array.replicate ops.size false)&&Nat.ble (pl.length+(match f with|some _=>1|none=>0)) ops.size
inductive Ot where
 |fin|nil|look (i:Nat) (r:Ot)|turn (i:Nat) (here more:Ot)
def tF(T:eF U)(G:jZ U)(all:List Oper)(p:Nat→Bool)(last:KR U)(t:Ot):KR U:=
 Ot.rec (motive:=fun _=>KR U) last (fun _ _ _ _ _ _=>True)
  (fun i _ ih=>match eM all i with
   |some o=>l6 T G all p true o ih
   |none=>fun _ _ _ _ _ _=>False)
  (fun i _ _ ih ih2 e n H R S K=>(match eM all i with
   |some o=>l6 T G all p false o ih
   |none=>fun _ _ _ _ _ _=>False) e n H R S K∧ih2 e n H R S K) t
def IR(i:Nat):List Nat→Bool
 |j::_=>Nat.beq j i
 | []=>false
def jk(ops:Array Oper)(f:Option Nat):Ot→Array Bool→Option (List Nat)→Bool
 | .fin,listed,none=>ot ops f [] listed
 | .nil,_,some L=>L.isEmpty
 | .look i r,listed,none=>(Region.ready .any ops listed).contains i&&Region.free .any ops listed i&&(match f with|some f=>i !=f|none=>true)&&jk ops f r (listed.setIfInBounds i true) none
 | .turn i a b,listed,none=>IR i (Region.ready .any ops listed)&&jk ops f a (listed.setIfInBounds i true) none&&jk ops f b listed (some (Region.ready .any ops listed).tail)
 | .turn i a b,listed,some L=>IR i L&&jk ops f a (listed.setIfInBounds i true) none&&jk ops f b listed (some L.tail)
 |_,_,_=>false
def Ot.h:Ot→Nat
 | .fin=>0
 | .nil=>0
 | .look _ r=>r.h+1
 | .turn _ a b=>max (a.h+1) b.h
def y9(ops:Array Oper)(f:Option Nat)(t:Ot):Bool:=Region.noSelect ops&&(match f with|some f=>Ds .any ops f|none=>true)&&jk ops f t (Array.replicate ops.size false) none&&Nat.ble (t.h+(match f with|some _=>1|none=>0)) ops.size
inductive Ip where
 |n|r|x (i:Nat)
abbrev KO(U:cn):=Ip→En U→Nat→Hs U→Prop
def IS(b:En U→Nat→Hs U→KO U→Prop)(K:KO U)(o:Ip)(e:En U)(n:Nat)(H:Hs U):Prop:=match o with
 | .n=>b e n H K
 |o=>K o e n H
def IT(i:Nat)(K:KO U)(o:Ip)(e:En U)(n:Nat)(H:Hs U):Prop:=match o with
 | .x j=>(bif Nat.beq i j then K .n e n H else K (.x j) e n H)
 |o=>K o e n H
def Ga(a b:En U→Nat→Hs U→KO U→Prop)(e:En U)(n:Nat)(H:Hs U)(K:KO U)(v:Cx U):Prop:=match v with
 | .d .bool t=>EB t (a e n H K) (b e n H K)
 |_=>False
def dR(φ:List (Nat×Nat))(k:Nat):Nat:=match aL φ k with
 |some i=>i
 |none=>k
def rI(H:Hs U)(i v:Nat):Bool:=match aL H i with
 |some (.row v' _ _ _)=>Nat.beq v v'
 |_=>false
def vr(H:Hs U)(i:Nat):Bool:=match aL H i with
 |some (.map _ _)=>true
 |some (.mapr _ _ _ _ _)=>true
 |_=>false
def vu(H:Hs U)(i:Nat):Bool:=match aL H i with
 |some (.cells _ _)=>true
 |some (.it _ _)=>true
 |_=>false
def Lt(s:bm)(t:TT U.ty s)(s':bm)(t':TT U.ty s')(A:Prop):Prop:=match gC U.ty (fun x=>x) s s' t with
 |some u=>u=t'∧A
 |none=>False
def Gb(a:bm)(g:TT U.ty a→Bool)(a':bm)(g':TT U.ty a'→Bool)(A:Prop):Prop:=match gC U.ty (fun x=>x→Bool) a a' g with
 |some u=>u=g'∧A
 |none=>False
def Gc(a b:bm)(g:TT U.ty a→TT U.ty b→Int)(a' b':bm)(g':TT U.ty a'→TT U.ty b'→Int)(A:Prop):Prop:=match gC U.ty (fun x=>x→TT U.ty b→Int) a a' g with
 |some u=>(match gC U.ty (fun y=>TT U.ty a'→y→Int) b b' u with
  |some u=>u=g'∧A
  |none=>False)
 |none=>False
def IU(φ:List (Nat×Nat))(H':Hs U):List Nat→List Nat→Bool
 | [],[]=>true
 |k::ks,j::js=>Nat.beq (dR φ k) j&&vu H' k&&IU φ H' ks js
 |_,_=>false
def Gd(φ:List (Nat×Nat))(n:Nat)(H H':Hs U)(x y:Cx U)(A:Prop):Prop:=match x,y with
 | .nils,.own k w=>bif Nat.ble n (dR φ k)&&rI H' k w then A else False
 | .own i v,.own k w=>bif Nat.beq (dR φ k) i&&rI H i v&&rI H' k w then A else False
 | .own i v,.d s t'=>(match aL H i with
  |some (.frz v' e xs)=>bif Nat.beq v v' then Lt (.sl e) xs s t' A else False
  |_=>False)
 | .ptr i o,.ptr k p=>bif Nat.beq (dR φ k) i&&Nat.beq o p&&vu H' k then A else False
 | .d s t,.d s' t'=>Lt s t s' t' A
 | .nilp,.nilp=>A
 | .nils,.nils=>A
 | .nils,.d (.sl e) xs=>([]:List (TT U.ty e))=xs∧A
 | .nilf,.nilf=>A
 | .nilm,.nilm=>A
 | .mp i,.mp k=>bif Nat.beq (dR φ k) i&&vr H' k then A else False
 | .fn f,.fn g=>bif Nat.beq f g then A else False
 | .clo f js,.clo g ks=>bif Nat.beq f g&&IU φ H' ks js then A else False
 | .f1 a g,.f1 a' g'=>Gb a g a' g' A
 | .f2 a b g,.f2 a' b' g'=>Gc a b g a' b' g' A
 |_,_=>False
def za(φ:List (Nat×Nat))(n:Nat)(H H':Hs U)(l:List (cC U))(l':List (cC U))(A:Prop):Prop:=match l' with
 | []=>(match l with
  | []=>A
  |_=>False)
 |(m,.d (.st i) t)::l'=>tK 40 l m fun l1=>dL 20 (.st i) l1 fun u=>u=t∧jg 40 l m fun l2=>za φ n H H' l2 l' A
 |(m,.d (.arr k e) t)::l'=>tK 40 l m fun l1=>dL 20 (.arr k e) l1 fun u=>u=t∧jg 40 l m fun l2=>za φ n H H' l2 l' A
 |(m,y)::l'=>(match l with
  |(k,x)::l=>bif Nat.beq k m then Gd φ n H H' x y (za φ n H H' l l' A)else False
  | []=>False)
termination_by structural l'
def Lu(φ:List (Nat×Nat))(n:Nat)(e:En U)(H H':Hs U):En U→Prop→Prop
 | [],A=>A
 |(k,.v y)::r,A=>(match aL e k with
  |some (.v x)=>bif x.ag==y.ag then za φ n H H' x.l y.l (Lu φ n e H H' r A)else False
  |_=>False)
 |_,_=>False
def Lv(φ:List (Nat×Nat))(b n:Nat)(H H':Hs U)(k:Nat)(x y:aW U)(A:Prop):Prop:=match x,y with
 |_,.dead=>A
 | .cells l t,.cells l' t'=>bif Nat.beq t t' then za φ n H H' l l' A else False
 | .row v e xs t,.row v' e' xs' t'=>bif Nat.beq t t'&&(Nat.ble b k||Nat.beq v v')then(match gC U.ty List e e' xs with
  |some u=>u=xs'∧A
  |none=>False)else False
 | .map d l,.map d' l'=>(⟨d,l⟩:(d:KD U)×List (TT U.ty d.k×TT U.ty d.v))=⟨d',l'⟩∧A
 | .mapr d l r q g,.mapr d' l' r' q' g'=>(⟨d,(l,r,q)⟩:(d:KD U)×(List (TT U.ty d.k×TT U.ty d.v)×List (TT U.ty d.k×TT U.ty d.v)×List (TT U.ty d.k×TT U.ty d.v)))=⟨d',(l',r',q')⟩∧g=g'∧A
 | .it i g,.it k' g'=>bif Nat.beq (dR φ k') i&&vr H' k' then g=g'∧A else False
 |_,_=>False
def OQ(b n:Nat)(φ:List (Nat×Nat))(k:Nat)(y:aW U)(A:Prop):Prop:=match y with
 | .row _ e xs _=>bif Nat.ble n (dR φ k)&&Nat.ble b k&&Nat.blt 0 (aU U e)then xs= []∧A else False
 |_=>False
def Ge(φ:List (Nat×Nat))(b n:Nat)(H H':Hs U):Hs U→Prop→Prop
 | [],A=>A
 |(k,y)::r,A=>(match aL H (dR φ k)with
  |some x=>Lv φ b n H H' k x y (Ge φ b n H H' r A)
  |none=>OQ b n φ k y (Ge φ b n H H' r A))
def vz(p:Nat→Bool):List Nat→Bool
 | []=>true
 |i::r=>bif p i then vz p r else false
def EI(b N:Nat)(φ:List (Nat×Nat))(n:Nat)(e:En U)(H:Hs U)(e':En U)(H':Hs U):Prop:=
 bif Nat.ble b N&&oE (H'.map (·.1))&&oE (H'.map fun p=>dR φ p.1)&&vz (fun i=>Nat.blt i N) (H'.map (·.1))&&vz (fun i=>Nat.ble b i) (φ.map (·.1))then Ge φ b n H H' H' (Lu φ n e H H' e' True)else False
def wE(T:eF U)(G:jZ U)(b:Nat)(ops:Array Oper)(e:En U)(n:Nat)(H:Hs U)(K:KS U):Prop:=
 (∃(pl:List (Bool×Nat)) (f:Option Nat) (mk:List Nat),vq ops f pl=true∧wD T G ops.toList mk (l7 T G ops.toList f) pl e n H [] [] K)∨
 (∃(t:Ot) (f:Option Nat) (mk:List Nat) (N:Nat) (E:En U) (M:Hs U) (A:Prop),y9 ops f t=true∧tF T G ops.toList (fun i=>ji i mk||Nat.ble n i) (l7 T G ops.toList f) t e n H [] [] (fun e' n' H'=>A∧ ∃φ,EI b N φ n' e' H' E M)∧(A→K E N M))
def zb(b:Nat)(a:En U→Nat→Hs U→KO U→Prop)(e:En U)(n:Nat)(H:Hs U)(K:KO U):Prop:=
 ∃(σ:Type) (N:Nat) (E:σ→En U) (M:σ→Hs U) (I:σ→Prop) (μ:σ→Nat),(∃φ s,I s∧EI b N φ n e H (E s) (M s))∧
  ∀s,I s→a (E s) N (M s) fun o e' n' H'=>match o with
   | .n=> ∃φ s',μ s'<μ s∧I s'∧EI b N φ n' e' H' (E s') (M s')
   |o=>K o e' n' H'
def aw(T:eF U)(G:jZ U)(b:Nat)(c:Code):En U→Nat→Hs U→KO U→Prop:=
 Code.rec (motive:=fun _=>En U→Nat→Hs U→KO U→Prop)
  (fun e n H K=>K .n e n H)
  (fun _ ops d e n H K=>bif d then wE T G b ops e n H (K .n)else vm T G ops.toList ops.toList e n H [] [] (K .n))
  (fun _ _ a b e n H K=>a e n H (IS b K))
  (fun c _ _ a b e n H K=>km [] [] e c (Ga a b e n H K))
  (fun i _ a e n H K=>a e n H (IT i K))
  (fun _ a e n H K=>zb b a e n H K)
  (fun _ _ _ _ _ _ _ _ _ _=>False)
  (fun i e n H K=>K (.x i) e n H)
  (fun _ _ _ _ _ _=>False)
  (fun _ e n H K=>K .n e n H)
  (fun _ _ _ _ _=>False)
  (fun e n H K=>K .r e n H)
  (fun _ _ _ _ _=>False)
  c
def zd(T:eF U)(l:List ResultVar)(e:En U)(H:Hs U):(List (Va U)→Prop)→Prop:=
 List.rec (motive:=fun _=>(List (Va U)→Prop)→Prop) (fun K=>K []) (fun r _ ih K=>match r with
  | .tmp t=>mJ [] [] e (.tmp t) fun v=>ih fun l=>K (v::l)
  | .cell p t=>km [] [] e (.tmp p) fun c=>tq T t H c fun v=>ih fun l=>K (v::l)) l
def Gf(l:List (Va U))(K:AV U→Prop):Prop:=match l with
 |x:: []=>K (.v x)
 |l=>K (.tup l)
def xR:Nat→Nat→List Nat→Bool
 |_,0,_=>true
 |j,k+1,a::r=>bif Nat.beq a j then xR (j+1) k r else false
 |_,_+1,[]=>false
def IV(T:eF U)(fn:Func)(md:List Md)(em:List (Nat×List (Nat×Option bm)))(b:Nat)(K:AV U→List (aW U)→Prop)(o:Ip)(e:En U)(n:Nat)(H:Hs U):Prop:=match o with
 | .x _=>False
 |_=>bif Nat.ble fn.results.toList.length 3 then zd T fn.results.toList e H fun l=>Il md l H fun H=>Lq em H fun H=>EF md l H fun H l=>B1 (xN H 30 0 (xO H l (List.range b))) fun L=>bif oE L&&xR 0 b L then tB false H L l fun l=>tA false H L L fun es=>Gf l fun r=>K r es else False else False
def Gg(T:eF U)(G:jZ U)(fn:Func)(md:List Md)(em:List (Nat×List (Nat×Option bm)))(e:En U)(b:Nat)(H:Hs U)(K:AV U→List (aW U)→Prop):Prop:=match fn.body with
 |some c=>aw T G b c e b H (IV T fn md em b K)
 |none=>False
end
end Go.Proofs.YtiliglahlfkikaaGreatDoor.V
end

section
namespace Go.Proofs.YtiliglahlfkikaaGreatDoor.V
open Go.RowKit
def gB:List Nat:= [0]
def Gv(w:World):Prop:= ∃mx,w.cell? ⟨0,0,none⟩=some (.int .i64 mx)
theorem Gv.fr{w w':World}{O:List Nat}(h:Gv w)(hf:Fr O w w')(hO: ∀o∈O,o∉gB):Gv w':=by
 obtain⟨mx,h⟩:=h;refine⟨mx,?_⟩;have hl:(0:Nat)<w.heap.size:=by
  unfold World.cell? at h;split at h
  ·rename_i c t x hb;exact bF hb
  ·cases h
 rw[hf.cell (p:=⟨0,0,none⟩) hl (fun h0=>hO 0 h0 (by simp[gB]))];exact h
theorem Gv.lt{w:World}(h:Gv w): ∀g∈gB,g<w.heap.size:=fun g hg=>by
 obtain⟨mx,h⟩:=h;have e:g=0:=by simpa[gB]using hg
 subst e;unfold World.cell? at h;split at h
 ·rename_i c t x hb;exact bF hb
 ·cases h
end Go.Proofs.YtiliglahlfkikaaGreatDoor.V
end

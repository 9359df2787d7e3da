/- Package variables that the program only reads: what they hold. -/
import Derived.Test.YtmpeiadlohbikaaGreatDoorAx3
import Derived.Test.YtmpeiadlohbikaaGreatDoorAx0
section
set_option linter.unusedVariables false
namespace Go.Proofs.YtmpeiadlohbikaaGreatDoor.V
open Go.RowKit
inductive Md where
 |n|d (s:aZ)|f1 (a:aZ)|f2 (a b:aZ)
 |p (fs:List (Nat×Option aZ))-- a pointer to our own cells,of which some become data
structure aW(U:bG) where
 md:List Md
 run:List (Va U)→List (aJ U)→(AV U→List (aJ U)→Prop)→Prop
abbrev cR(U:bG):=List (Nat×aW U)
section
variable {U:bG}
def Gi(v:Va U)(K:Cx U→Prop):Prop:=match v with
 |⟨false,(_,c):: []⟩=>K c
 |_=>False
def g8(p:cK)(R e:En U)(o:Operand)(K:Cx U→Prop):Prop:=kT p R e o fun v=>Gi v K
def g9(H:Hs U)(i:Nat)(x:aJ U):(Hs U→Prop)→Prop:=
 List.rec (motive:=fun _=>(Hs U→Prop)→Prop) (fun _=>False) (fun y r ih K=>bif Nat.beq y.1 i then K ((i,x)::r)else ih fun r'=>K (y::r')) H
def um(H:Hs U)(x:Cx U)(K:(e:aZ)→List (TT U.ty e)→Prop):Prop:=match x with
 | .d (.sl e) xs=>bif Nat.blt 0 (aM U e)then K e xs else False
 | .own i v=>(match aD H i with
  |some (.row v' e xs _)=>bif Nat.beq v v' then K e xs else False
  |some (.frz v' e xs)=>bif Nat.beq v v' then K e xs else False
  |_=>False)
 |_=>False
def sy(H:Hs U)(x:bU U)(K:Hs U→bU U→Prop):Prop:=match x with
 |(1,.own i v)=>(match aD H i with
  |some (.row v' e xs _)=>bif Nat.beq v v' then g9 H i (.frz v e xs) fun H=>K H (1,.d (.sl e) xs)else False
  |some (.frz v' e xs)=>bif Nat.beq v v' then K H (1,.d (.sl e) xs)else False
  |_=>False)
 |x=>K H x
def kU(l:List (bU U)):Hs U→(Hs U→List (bU U)→Prop)→Prop:=
 List.rec (motive:=fun _=>Hs U→(Hs U→List (bU U)→Prop)→Prop) (fun H K=>K H []) (fun x _ ih H K=>sy H x fun H y=>ih H fun H r=>K H (y::r)) l
def yg(s:aZ)(H:Hs U)(x:Va U)(K:Hs U→TT U.ty s→Prop):Prop:=kU x.l H fun H l=>cl 20 s l fun t=>K H t
def ET(T:cM U)(t:Nat)(l:List (bU U))(K:Va U→Prop):Prop:=match aD T t with
 |some ti=>(match ug ti.kd with
  |false=>(match l with
   |(_,.d (.st i) x):: []=>lP (.d (.st i) x) fun l=>K ⟨false,l⟩
   |l=>K ⟨false,l⟩)
  |true=>K ⟨true,l⟩)
 |none=>False
def sA(T:cM U)(t:Nat)(H:Hs U)(x:Cx U)(K:Va U→Prop):Prop:=match aD T t with
 |some ti=>(match x with
  | .ptr i off=>(match aD H i with
   |some (.cells l _)=>lQ l off ti.sz fun l=>ET T t l K
   |_=>False)
  | .pel i v q off=>(match aD H i with
   |some (.row v' e xs _)=>bif Nat.beq v v' then xX U e xs q fun x=>lQ [(aM U e,.d e x)] off ti.sz fun l=>ET T t l K else False
   |some (.frz v' e xs)=>bif Nat.beq v v' then xX U e xs q fun x=>lQ [(aM U e,.d e x)] off ti.sz fun l=>ET T t l K else False
   |_=>False)
  | .pax i off n e q o=>(match aD H i with
   |some (.cells l _)=>lQ l off (n*aM U e) fun l=>cl 20 (.arr n e) l fun xs=>xX U e xs q fun x=>lQ [(aM U e,.d e x)] o ti.sz fun l=>ET T t l K
   |_=>False)
  | .pd s x=>bif Nat.beq ti.sz (aM U s)then ET T t [(aM U s,.d s x)] K else False
  |_=>False)
 |none=>False
def mT(T:cM U)(t:Nat)(H:Hs U)(x:Cx U)(y:Va U)(K:Hs U→Prop):Prop:=match aD T t with
 |some ti=>(match x with
  | .ptr i off=>(match aD H i with
   |some (.cells l u)=>bif Nat.beq (jK y.l) ti.sz then qT 40 l off ti.sz y.l fun l=>g9 H i (.cells l u) K else False
   |_=>False)
  | .pel i v q off=>kU y.l H fun H yl=>(match aD H i with
   |some (.row v' e xs u)=>bif Nat.beq v v'&&Nat.beq (jK yl) ti.sz then xX U e xs q fun x=>qT 40 [(aM U e,.d e x)] off ti.sz yl fun l=>cl 20 e l fun z=>g9 H i (.row v e (xs.set q.toNat z) u) K else False
   |_=>False)
  | .pax i off n e q o=>kU y.l H fun H yl=>(match aD H i with
   |some (.cells l u)=>bif Nat.beq (jK yl) ti.sz then lQ l off (n*aM U e) fun la=>cl 20 (.arr n e) la fun xs=>xX U e xs q fun x=>qT 40 [(aM U e,.d e x)] o ti.sz yl fun l'=>cl 20 e l' fun z=>qT 40 l off (n*aM U e) [(n*aM U e,.d (.arr n e) (List.set (α:=TT U.ty e) xs q.toNat z))] fun l=>g9 H i (.cells l u) K else False
   |_=>False)
  |_=>False)
 |none=>False
def pX(H:Hs U)(i v:Nat):Bool:=match aD H i with
 |some (.row v' _ _ _)=>Nat.beq v v'
 |some (.frz v' _ _)=>Nat.beq v v'
 |_=>false
def Gj(T:cM U)(t f:Nat)(H:Hs U)(x:Cx U)(K:Cx U→Prop):Prop:=match aD T t with
 |some ti=>(match dn ti.fs f with
  |some (off,ft)=>(match x with
   | .ptr i o=>K (.ptr i (o+off))
   | .pel i v q o=>bif pX H i v then K (.pel i v q (o+off))else False
   | .pax i o n e q o'=>K (.pax i o n e q (o'+off))
   | .pd s y=>(match aD T ft with
    |some fi=>lQ [(aM U s,.d s y)] off fi.sz fun l=>(match l with
     |(_,.d s' y'):: []=>bif Nat.beq ti.sz (aM U s)then K (.pd s' y')else False
     |_=>False)
    |none=>False)
   |_=>False)
  |none=>False)
 |none=>False
def Gk(T:cM U)(t f:Nat)(l:List (bU U))(K:Va U→Prop):Prop:=match aD T t with
 |some ti=>(match dn ti.fs f with
  |some (off,ft)=>(match aD T ft with
   |some fi=>lQ l off fi.sz fun l=>ET T ft l K
   |none=>False)
  |none=>False)
 |none=>False
def BQ(T:cM U)(p:cK)(R e:En U)(fs:List (Nat×Nat))(ps:List (Nat×Operand)):List (bU U)→(List (bU U)→Prop)→Prop:=
 List.rec (motive:=fun _=>List (bU U)→(List (bU U)→Prop)→Prop) (fun l K=>K l) (fun x _ ih l K=>match dn fs x.1 with
  |some (off,ft)=>(match aD T ft with
   |some fi=>kT p R e x.2 fun y=>bif Nat.beq (jK y.l) fi.sz then qT 40 l off fi.sz y.l fun l=>ih l K else False
   |none=>False)
  |none=>False) ps
def IW(m el:Nat)(k:Nat):Nat→List (Nat×Nat):=
 Nat.rec (motive:=fun _=>Nat→List (Nat×Nat)) (fun _=> []) (fun _ ih off=>(off,el)::ih (off+m)) k
def BR(p:cK)(R e:En U)(s:aZ)(k:Nat)(ps:List (Nat×Operand)):Nat→Hs U→(Hs U→List (TT U.ty s)→Prop)→Prop:=
 List.rec (motive:=fun _=>Nat→Hs U→(Hs U→List (TT U.ty s)→Prop)→Prop) (fun j H K=>bif Nat.beq j k then K H []else False) (fun x _ ih j H K=>bif Nat.beq x.1 j then kT p R e x.2 fun y=>yg s H y fun H a=>ih (j+1) H fun H r=>K H (a::r)else False) ps
def pickK(b:Bool)(x y:Va U)(K:Va U→Prop):Prop:=match x,y with
 |⟨a,(k,.d s u):: []⟩,⟨a',(_,.d s' w):: []⟩=>bif a==a'&&Nat.beq k (aM U s)then(match ew U.ty (fun x=>x) s' s w with
  |some w=>K ⟨a,[(k,.d s (bif b then u else w))]⟩
  |none=>False)else False
 |_,_=>False
def Gl(p:cK)(R e:En U)(c a b:Operand)(K:Va U→Prop):Prop:=match c with
 | .tmp s=>g8 p R e (.tmp s) fun v=>(match v with
  | .d .bool t=>(match a with
   | .const (.bool true)=>g8 ((s,false)::p) R e b fun y=>(match y with
    | .d .bool u=>K ⟨false,[(1,.d .bool (t||u))]⟩
    |_=>False)
   |_=>(match b with
    | .const (.bool false)=>g8 ((s,true)::p) R e a fun y=>(match y with
     | .d .bool u=>K ⟨false,[(1,.d .bool (t&&u))]⟩
     |_=>False)
    |_=>kT ((s,true)::p) R e a fun x=>kT ((s,false)::p) R e b fun y=>pickK t x y K))
  |_=>False)
 |_=>False
def yh(T:cM U)(t:Nat)(K:Kd→Prop):Prop:=match aD T t with
 |some ti=>K ti.kd
 |none=>False
def yi:Kd→Bool| .sl _=>true|_=>false
def oz:Kd→Bool| .str=>true|_=>false
def EU(T:cM U)(t:Nat)(K:Nat→TI U→Prop):Prop:=match aD T t with
 |some ti=>(match ti.kd with
  | .sl e=>(match aD T e with|some ei=>K e ei|none=>False)
  |_=>False)
 |none=>False
def nK(neg b:Bool)(K:Va U→Prop):Prop:=match neg with
 |true=>K ⟨false,[(1,.d .bool (!b))]⟩
 |false=>K ⟨false,[(1,.d .bool b)]⟩
def Gm(neg:Bool)(H:Hs U)(x:Cx U)(K:Va U→Prop):Prop:=match x with
 | .nilp| .nils=>K ⟨false,[(1,.d .bool (!neg))]⟩
 | .ptr _ _| .pd _ _| .pax _ _ _ _ _ _=>K ⟨false,[(1,.d .bool neg)]⟩
 | .pel i v _ _=>bif pX H i v then K ⟨false,[(1,.d .bool neg)]⟩else False
 |x=>um H x fun e xs=> ∀b:Bool,(b=true→xs= [])→nK neg b K
def yj(T:cM U)(t:Nat)(x y:Cx U):Bool:=match x,y with
 | .nilp,.nilp| .ptr _ _,.nilp| .pd _ _,.nilp| .pel _ _ _ _,.nilp| .pax _ _ _ _ _ _,.nilp=>(match aD T t with|some ti=>(match ti.kd with| .ptr _=>true|_=>false)|none=>false)
 | .nils,.nils| .own _ _,.nils| .d (.sl _) _,.nils=>(match aD T t with|some ti=>(match ti.kd with| .sl _=>true|_=>false)|none=>false)
 |_,_=>false
def MV(T:cM U)(t:Nat):Bool:=match aD T t with
 |some ti=>(match ti.kd with
  | .ptr e=>(match aD T e with
   |some ei=>Nat.blt 0 ei.sz
   |none=>false)
  |_=>false)
 |none=>false
def Gn(g:Prop→Prop)(T:cM U)(op:BinOp)(t:Nat)(H:Hs U)(x y:Cx U)(K:Va U→Prop):Prop:=match x,y with
 | .d (.int k) p,.d (.int k') q=>Ge g op k p k' q K
 | .d .str p,.d .str q=>Gf g op p q K
 | .d .bool p,.d .bool q=>yh T t fun k=>(match k with| .bool=>Gg op p q K|_=>False)
 | .ptr i a,.ptr j b=>bif Nat.beq i j&&MV T t then(match op with
  | .eql=>nK false (Nat.beq a b) K
  | .neq=>nK true (Nat.beq a b) K
  |_=>False)else False
 |x,y=>bif yj T t x y then(match op with
  | .eql=>Gm false H x K
  | .neq=>Gm true H x K
  |_=>False)else False
def P9(U:bG)(s:aZ):TT U.ty s→TT U.ty s→(Bool→Prop)→Prop:=match s with
 | .st i=>fun a b K=>(U.rd i).eqK a b K
 | .arr _ (.int _)=>fun(a b:List Int) K=>K (decide (a=b))
 | .arr _ .bool=>fun(a b:List Bool) K=>K (decide (a=b))
 | .arr _ .str=>fun(a b:List (List UInt8)) K=>K (decide (a=b))
 |_=>fun _ _ _=>False
def Gp(g:Prop→Prop)(T:cM U)(op:BinOp)(t:Nat)(H:Hs U)(x y:Va U)(K:Va U→Prop):Prop:=match x,y with
 |⟨false,(_,a):: []⟩,⟨false,(_,b):: []⟩=>Gn g T op t H a b K
 |⟨true,l⟩,⟨true,l'⟩=>(match aD T t with
  |some ti=>(match ti.sh,ti.cmp with
   |some s,true=>cl 20 s l fun a=>cl 20 s l' fun b=>P9 U s a b fun r=>(match op with
    | .eql=>K ⟨false,[(1,.d .bool r)]⟩
    | .neq=>K ⟨false,[(1,.d .bool (!r))]⟩
    |_=>False)
   |_,_=>False)
  |none=>False)
 |_,_=>False
def Gq:Kd→Bool| .mp _ _=>true|_=>false
def yk(H:Hs U)(x:Cx U)(K:(d:KD U)→List (TT U.ty d.k×TT U.ty d.v)→Prop):Prop:=match x with
 | .mp i=>(match aD H i with
  |some (.map d l)=>K d l
  |some (.mapr d l _ _ _)=>K d l
  |_=>False)
 |_=>False
def wX(T:cM U)(t:Nat)(d:KD U):Bool:=match aD T t with
 |some ti=>(match ti.kd with
  | .mp k v=>Nat.beq k d.kt&&Nat.beq v d.vt
  |_=>false)
 |none=>false
def sB(s:aZ)(x:TT U.ty s):Va U:=⟨dR s,[(aM U s,.d s x)]⟩
def Jg(ok:Bool)(d:KD U)(r:Option (TT U.ty d.v))(K:AV U→Prop):Prop:=match ok with
 |true=>K (.tup [sB d.v (r.getD d.zero),⟨false,[(1,.d .bool r.isSome)]⟩])
 |false=>K (.v (sB d.v (r.getD d.zero)))
def Gr(T:cM U)(t:Nat)(H:Hs U)(x:Cx U)(K:Int→Prop):Prop:=match x with
 | .d .str s=>yh T t fun k=>bif oz k then K (s.length:Int)else False
 | .nils=>yh T t fun k=>bif yi k then K 0 else False
 | .mp i=>yh T t fun k=>bif Gq k then yk H (.mp i) fun _ l=>VS ((l.length:Int)≤9223372036854775807) (K (l.length:Int))else False
 |x=>yh T t fun k=>bif yi k then um H x fun _ xs=>K (xs.length:Int)else False
def Gs(g:Prop→Prop)(T:cM U)(t:Nat)(x:Cx U)(q:Int)(K:Va U→Prop):Prop:=match x with
 | .d .str s=>yh T t fun k=>bif oz k then VS (g (0≤q∧q<s.length)) (K ⟨false,[(1,.d (.int .u8) ((ix s q).toNat:Int))]⟩)else False
 |_=>False
def Jh(g:Prop→Prop)(T:cM U)(t:Nat)(H:Hs U)(x:Cx U)(q:Int)(K:Cx U→Prop):Prop:=EU T t fun _ ei=>match x with
 | .d (.sl e) xs=>bif Nat.beq ei.sz (aM U e)&&Nat.blt 0 (aM U e)then VS (g (0≤q∧q<xs.length)) (xX U e xs q fun y=>K (.pd e y))else False
 | .own i v=>(match aD H i with
  |some (.row v' e xs _)=>bif Nat.beq v v'&&Nat.beq ei.sz (aM U e)then VS (g (0≤q∧q<xs.length)) (K (.pel i v q 0))else False
  |some (.frz v' e xs)=>bif Nat.beq v v'&&Nat.beq ei.sz (aM U e)then VS (g (0≤q∧q<xs.length)) (xX U e xs q fun y=>K (.pd e y))else False
  |_=>False)
 |_=>False
def Gt(g:Prop→Prop)(T:cM U)(t:Nat)(l:List (bU U))(q:Int)(K:Va U→Prop):Prop:=match aD T t with
 |some ti=>(match ti.kd,ti.sh with
  | .arr n e,some (.arr m s)=>(match aD T e with
   |some ei=>bif Nat.beq n m&&Nat.beq ei.sz 1&&Nat.beq (aM U s) 1&&!ug ei.kd then cl 20 (.arr m s) l fun xs=>VS (g (0≤q∧q<n)) (xX U s xs q fun x=>K ⟨false,[(1,.d s x)]⟩)else False
   |none=>False)
  |_,_=>False)
 |none=>False
def MW(K:Cx U→Prop)(i off sz:Nat)(q:Int)(n:Nat):Prop:=match n with
 |2=>xY (decide (q=0)) (K (.ptr i off)) (K (.ptr i (off+sz)))
 |3=>xY (decide (q=0)) (K (.ptr i off)) (xY (decide (q=1)) (K (.ptr i (off+sz))) (K (.ptr i (off+2*sz))))
 |_=>False
def Gu(g:Prop→Prop)(T:cM U)(n e:Nat)(x:Cx U)(y:Operand)(q:Int)(K:Cx U→Prop):Prop:=match aD T e with
 |some ei=>(match ei.sh with
  |some s=>bif Nat.beq ei.sz (aM U s)then(match x with
   | .ptr i off=>(match y with
    | .const (.int _ (.ofNat c))=>bif Nat.blt c n then K (.ptr i (off+c*aM U s))else False
    |_=>Q3 (VS (g (0≤q∧q<n)) (K (.pax i off n s q 0))) (VS (g (0≤q∧q<n)) (MW K i off (aM U s) q n)))
   | .pd (.arr m s') xs=>bif Nat.beq n m&&Nat.beq (aM U s') (aM U s)then VS (g (0≤q∧q<n)) (xX U s' xs q fun x=>K (.pd s' x))else False
   |_=>False)else False
  |none=>False)
 |none=>False
def BS(T:cM U)(t:Nat):Option (Nat×Nat):=match aD T t with
 |some ti=>(match ti.kd with
  | .arr n e=>some (n,e)
  |_=>none)
 |none=>none
def pY(p:cK)(R e:En U)(o:Option Operand)(d:Int)(K:Int→Prop):Prop:=match o with
 |none=>K d
 |some o=>g8 p R e o fun v=>(match v with
  | .d (.int _) q=>K q
  |_=>False)
def BT(g:Prop→Prop)(T:cM U)(t:Nat)(p:cK)(R e:En U)(x:Cx U)(lo hi:Option Operand)(K:Cx U→Prop):Prop:=match x with
 | .d .str s=>yh T t fun k=>bif oz k then pY p R e lo 0 fun a=>pY p R e hi (s.length:Int) fun b=>VS (g (0≤a∧a≤b∧b≤s.length)) (match lo,hi with
  |none,_=>K (.d .str (s.take b.toNat))
  |_,none=>K (.d .str (s.drop a.toNat))
  |_,_=>K (.d .str ((s.take b.toNat).drop a.toNat)))else False
 | .d (.sl s) xs=>EU T t fun _ ei=>bif Nat.beq ei.sz (aM U s)then pY p R e lo 0 fun a=>pY p R e hi (xs.length:Int) fun b=>VS (g (0≤a∧a≤b∧b≤xs.length)) (match lo,hi with
  |none,_=>K (.d (.sl s) (xs.take b.toNat))
  |_,none=>K (.d (.sl s) (xs.drop a.toNat))
  |_,_=>K (.d (.sl s) ((xs.take b.toNat).drop a.toNat)))else False
 |_=>False
def EV(H:Hs U):Cx U→Bool
 | .ptr _ _| .pd _ _| .pax _ _ _ _ _ _=>true
 | .pel i v _ _=>pX H i v
 |_=>false
def MX(l:List (Va U)):(List Nat→Prop)→Prop:=
 List.rec (motive:=fun _=>(List Nat→Prop)→Prop) (fun K=>K []) (fun x _ ih K=>match x with
  |⟨false,(_,.ptr j 0):: []⟩=>ih fun r=>K (j::r)
  |_=>False) l
def MY(p:cK)(R e:En U)(x:Operand)(K:AV U→Prop):Prop:=match x with
 | .tmp t=>(match aD R t with
  |some (.gd q y)=>bif hZ q p then K (.v y)else False
  |some _=>False
  |none=>(match aD e t with
   |some (.v y)=>K (.v y)
   |some (.tup l)=>K (.tup l)
   |_=>False))
 |x=>kT p R e x fun v=>K (.v v)
def lg(g:Prop→Prop)(T:cM U)(p:cK)(o:Oper)(R e:En U)(H:Hs U)(K:AV U→Prop):Prop:=match o.op with
 | .move x=>MY p R e x K
 | .assign x=>kT p R e x fun v=>K (.v v)
 | .pick c a b=>Gl p R e c a b fun v=>K (.v v)
 | .load t x=>g8 p R e x fun c=>sA T t H c fun v=>K (.v v)
 | .nilCheck x=>g8 p R e x fun c=>bif EV H c then K (.v ⟨false,[(1,c)]⟩)else False
 | .binOp op t x y _=>kT p R e x fun v=>kT p R e y fun w=>Gp g T op t H v w fun v=>K (.v v)
 | .unOp op _ x=>g8 p R e x fun c=>(match op,c with
  | .not,.d .bool b=>K (.v ⟨false,[(1,.d .bool (!b))]⟩)
  | .neg,.d (.int k) q=>ES g k q q (Neg.neg (α:=Int) q) fun r=>K (.v ⟨false,[(1,.d (.int k) r)]⟩)
  |_,_=>False)
 | .fieldAddr t x f=>g8 p R e x fun c=>Gj T t f H c fun c=>K (.v ⟨false,[(1,c)]⟩)
 | .field t x f=>kT p R e x fun v=>(match v.ag with
  |true=>Gk T t f v.l fun v=>K (.v v)
  |false=>False)
 | .indexAddr t x y=>g8 p R e x fun c=>g8 p R e y fun d=>(match d with
  | .d (.int _) q=>(match BS T t with
   |some (n,el)=>Gu g T n el c y q fun c=>K (.v ⟨false,[(1,c)]⟩)
   |none=>Jh g T t H c q fun c=>K (.v ⟨false,[(1,c)]⟩))
  |_=>False)
 | .index t x y=>kT p R e x fun v=>g8 p R e y fun d=>(match d with
  | .d (.int _) q=>(match v.ag with
   |true=>Gt g T t v.l q fun v=>K (.v v)
   |false=>Gi v fun c=>Gs g T t c q fun v=>K (.v v))
  |_=>False)
 | .slice t x lo hi none=>g8 p R e x fun c=>BT g T t p R e c lo hi fun c=>K (.v ⟨false,[(1,c)]⟩)
 | .lookup t m kx ok=>g8 p R e m fun c=>kT p R e kx fun kv=>yk H c fun d l=>bif wX T t d&&(kv.ag==dR d.k)then cl 20 d.k kv.l fun k=>Jg ok d (@bh _ _ d.dec l k) K else False
 | .entry x=>g8 p R e x fun c=>(match c with
  | .ptr j 0=>(match aD H j with
   |some (.it i gh)=>(match aD H i with
    |some (.mapr d l left (q:: []) gh')=>VS (gh=gh') (K (.tup [sB d.k q.1,sB d.v q.2]))
    |_=>False)
   |_=>False)
  |_=>False)
 | .extract x i=>(match x with
  | .tmp t=>(match aD R t with
   |some _=>False
   |none=>(match aD e t with
    |some (.tup l)=>(match dn l i with|some v=>K (.v v)|none=>False)
    |_=>False))
  |_=>False)
 | .build t ps=>(match aD T t with
  |some ti=>(match ti.kd with
   | .st=>BQ T p R e ti.fs ps.toList ti.zero fun l=>K (.v ⟨true,l⟩)
   | .arr k el=>(match aD T el with
    |some ei=>BQ T p R e (IW ei.sz el k 0) ps.toList ti.zero fun l=>K (.v ⟨true,l⟩)
    |none=>False)
   |_=>False)
  |none=>False)
 | .makeFunc (.func f) first caps=>(match first.toList with
  | []=>pW p R e caps.toList fun xs=>MX xs fun js=>K (.v ⟨false,[(1,.clo f js)]⟩)
  |_=>False)
 | .convert s d x=>g8 p R e x fun c=>yh T s fun _=>yh T d fun kd=>(match c,kd with
  | .d (.int k) q,.int k'=>Mw (g (dq k q→dq k' q)) (K (.v ⟨false,[(1,.d (.int k') q)]⟩)) (MU k' q fun r=>K (.v ⟨false,[(1,.d (.int k') r)]⟩))
  |_,_=>False)
 | .call c=>(match c.callee,c.args.toList,c.argTypes.toList with
  | .builtin .len,x:: [],t:: []=>g8 p R e x fun a=>Gr T t H a fun r=>K (.v ⟨false,[(1,.d (.int .i64) r)]⟩)
  | .builtin .max,x::y:: [],_::_:: []=>g8 p R e x fun a=>g8 p R e y fun b=>(match a,b with
   | .d (.int k) a,.d (.int k') b=>bif jJ k k' then K (.v ⟨false,[(1,.d (.int k) (max (α:=Int) a b))]⟩)else False
   |_,_=>False)
  | .builtin .min,x::y:: [],_::_:: []=>g8 p R e x fun a=>g8 p R e y fun b=>(match a,b with
   | .d (.int k) a,.d (.int k') b=>bif jJ k k' then K (.v ⟨false,[(1,.d (.int k) (min (α:=Int) a b))]⟩)else False
   |_,_=>False)
  |_,_,_=>False)
 |_=>False
end
end Go.Proofs.YtmpeiadlohbikaaGreatDoor.V
end

section
set_option linter.unusedVariables false
namespace Go.Proofs.YtmpeiadlohbikaaGreatDoor.V
open Go.RowKit
section
variable {U:bG}
def gG(i:Nat):List Nat→Bool
 | []=>false
 |j::r=>Nat.beq j i||gG i r
def MZ(i:Nat)(L:List Nat):List Nat:=bif gG i L then L else L++ [i]
def Q4(H:Hs U)(x:Cx U):Option Nat:=match x with
 | .own i _=>(match aD H i with|some (.row _ _ _ _)=>some i|_=>none)
 | .ptr i _=>some i
 | .pel i _ _ _=>some i
 | .pax i _ _ _ _ _=>some i
 | .mp i=>some i
 | .clo _ (j:: [])=>some j
 |_=>none
def ym(H:Hs U):List (bU U)→List Nat→List Nat
 | [],L=>L
 |(_,x)::r,L=>match Q4 H x with
  |some i=>ym H r (MZ i L)
  |none=>ym H r L
def M4(H:Hs U)(i:Nat)(L:List Nat):List Nat:=match aD H i with
 |some (.cells l _)=>ym H l L
 |some (.clo _ l)=>ym H l L
 |_=>L
def uo(H:Hs U):Nat→Nat→List Nat→List Nat
 |0,_,L=>L
 |n+1,j,L=>match dn L j with
  |some i=>uo H n (j+1) (M4 H i L)
  |none=>L
def wY(H:Hs U):List (Va U)→List Nat→List Nat
 | [],L=>L
 |x::r,L=>wY H r (ym H x.l L)
def sG(L:List Nat)(i:Nat):Nat→(Nat→Prop)→Prop:=
 List.rec (motive:=fun _=>Nat→(Nat→Prop)→Prop) (fun _ _=>False) (fun j _ ih c K=>bif Nat.beq j i then K c else ih (c+1) K) L
def yp(L:List Nat):(List Nat→Prop)→Prop:=
 List.rec (motive:=fun _=>(List Nat→Prop)→Prop) (fun K=>K []) (fun x _ ih K=>ih fun r=>K (x::r)) L
def zV(z:Bool)(v:Nat)(K:Nat→Prop):Prop:=match z with
 |true=>K 0
 |false=>K v
def uq(z:Bool)(H:Hs U)(L:List Nat)(x:Cx U)(K:Cx U→Prop):Prop:=match x with
 | .own i v=>(match aD H i with
  |some (.row v' _ _ _)=>bif Nat.beq v v' then sG L i 0 fun j=>zV z v fun v=>K (.own j v)else K .un
  |some (.frz v' e xs)=>bif Nat.beq v v' then K (.d (.sl e) xs)else K .un
  |_=>K .un)
 | .ptr i o=>sG L i 0 fun j=>K (.ptr j o)
 | .pel i v q o=>(match aD H i with
  |some (.row v' _ _ _)=>bif Nat.beq v v' then sG L i 0 fun j=>zV z v fun v=>K (.pel j v q o)else K .un
  |_=>K .un)
 | .pax _ _ _ _ _ _=>K .un
 | .clo f (i:: [])=>sG L i 0 fun j=>K (.clo f [j])
 | .clo _ _=>K .un
 | .mp i=>sG L i 0 fun j=>K (.mp j)
 |x=>K x
def nR(z:Bool)(H:Hs U)(L:List Nat)(l:List (bU U)):(List (bU U)→Prop)→Prop:=
 List.rec (motive:=fun _=>(List (bU U)→Prop)→Prop) (fun K=>K []) (fun x _ ih K=>uq z H L x.2 fun y=>ih fun r=>K ((x.1,y)::r)) l
def Gx(z:Bool)(H:Hs U)(L:List Nat)(x:aJ U)(K:aJ U→Prop):Prop:=match x with
 | .cells l t=>nR z H L l fun l=>K (.cells l t)
 | .row v e xs t=>zV z v fun v=>K (.row v e xs t)
 | .frz _ _ _=>K .dead
 | .clo _ _=>K .dead
 | .map d l=>K (.map d l)
 | .mapr d l _ _ _=>K (.map d l)
 | .it _ _=>K .dead
 | .hid _ _ _=>K .dead
 | .dead=>K .dead
def qf(z:Bool)(H:Hs U)(L:List Nat)(M:List Nat):(List (aJ U)→Prop)→Prop:=
 List.rec (motive:=fun _=>(List (aJ U)→Prop)→Prop) (fun K=>K []) (fun i _ ih K=>match aD H i with
  |some x=>Gx z H L x fun y=>ih fun r=>K (y::r)
  |none=>False) M
def sH(z:Bool)(H:Hs U)(L:List Nat)(l:List (Va U)):(List (Va U)→Prop)→Prop:=
 List.rec (motive:=fun _=>(List (Va U)→Prop)→Prop) (fun K=>K []) (fun x _ ih K=>nR z H L x.l fun l=>ih fun r=>K (⟨x.ag,l⟩::r)) l
def BV(fs:List (Nat×Option aZ)):Hs U→List (bU U)→(Hs U→List (bU U)→Prop)→Prop:=
 List.rec (motive:=fun _=>Hs U→List (bU U)→(Hs U→List (bU U)→Prop)→Prop) (fun H l K=>K H l) (fun x _ ih H l K=>tK 40 l x.1 fun l1=>gE 40 l x.1 fun l2=>match x.2 with
  |some s=>bif Nat.beq x.1 (aM U s)then kU l1 H fun H l1=>cl 20 s l1 fun u=>ih H l2 fun H r=>K H ((x.1,.d s u)::r)else False
  |none=>ih H l2 fun H r=>qS l1 r fun r=>K H r) fs
def wZ(fs:List (Nat×Option aZ))(j:Nat)(H:Hs U)(K:Hs U→Prop):Prop:=match aD H j with
 |some (.cells l t)=>BV fs H l fun H l=>g9 H j (.cells l t) K
 |_=>False
def Mx(em:List (Nat×List (Nat×Option aZ))):Hs U→(Hs U→Prop)→Prop:=
 List.rec (motive:=fun _=>Hs U→(Hs U→Prop)→Prop) (fun H K=>K H) (fun x _ ih H K=>wZ x.2 x.1 H fun H=>ih H K) em
def IX(md:List Md):List (Va U)→Hs U→(Hs U→Prop)→Prop:=
 List.rec (motive:=fun _=>List (Va U)→Hs U→(Hs U→Prop)→Prop) (fun _ H K=>K H) (fun m _ ih l H K=>match l with
  | []=>K H
  |x::r=>(match m with
   | .p fs=>(match x with
    |⟨false,(_,.ptr j 0):: []⟩=>wZ fs j H fun H=>ih r H K
    |⟨false,(_,.nilp):: []⟩=>ih r H K
    |_=>False)
   |_=>ih r H K)) md
def EW(md:List Md):List (Va U)→Hs U→(Hs U→List (Va U)→Prop)→Prop:=
 List.rec (motive:=fun _=>List (Va U)→Hs U→(Hs U→List (Va U)→Prop)→Prop) (fun l H K=>K H l) (fun m _ ih l H K=>match l with
  | []=>K H []
  |x::r=>(match m with
   | .d s=>yg s H x fun H t=>ih r H fun H r=>K H (⟨x.ag,[(aM U s,.d s t)]⟩::r)
   |_=>ih r H fun H r=>K H (x::r))) md
def yq(T:cM U)(js:List Nat):Hs U→(Hs U→List (Va U)→Prop)→Prop:=
 List.rec (motive:=fun _=>Hs U→(Hs U→List (Va U)→Prop)→Prop) (fun H K=>K H []) (fun j _ ih H K=>match aD H j with
  |some (.cells l t)=>(match aD T t with
   |some ti=>(match ti.sh with
    |some s=>kU l H fun H l=>cl 20 s l fun x=>ih H fun H r=>K H (⟨false,[(1,.pd s x)]⟩::r)
    |none=>False)
   |none=>False)
  |_=>False) js
def yr(c:aW U)(caps:List (Va U))(a:aZ)(g:TT U.ty a→Bool):Prop:= ∀t:TT U.ty a,c.run (⟨dR a,[(aM U a,.d a t)]⟩::caps) [] fun r es=>r= .v ⟨false,[(1,.d .bool (g t))]⟩∧es= []
def yt(c:aW U)(caps:List (Va U))(a b:aZ)(g:TT U.ty a→TT U.ty b→Int):Prop:= ∀(t:TT U.ty a) (t':TT U.ty b),c.run (⟨dR a,[(aM U a,.d a t)]⟩::⟨dR b,[(aM U b,.d b t')]⟩::caps) [] fun r es=>r= .v ⟨false,[(1,.d (.int .i64) (g t t'))]⟩∧es= []
def pZ(G:cR U)(f:FuncId)(K:aW U→Prop):Prop:=match aD G f with
 |some c=>K c
 |none=>False
def BW(T:cM U)(G:cR U)(a:aZ)(x:Va U)(H:Hs U)(K:Hs U→(TT U.ty a→Bool)→List Nat→Prop):Prop:=match x with
 |⟨false,(_,.fn f):: []⟩=>pZ G f fun c=> ∃g,yr c [] a g∧K H g []
 |⟨false,(_,.clo f js):: []⟩=>yq T js H fun H caps=>pZ G f fun c=> ∃g,yr c caps a g∧K H g js
 |⟨false,(_,.f1 a' g):: []⟩=>(match ew U.ty (fun x=>x→Bool) a' a g with
  |some g=>K H g []
  |none=>False)
 |_=>False
def BX(T:cM U)(G:cR U)(a b:aZ)(x:Va U)(H:Hs U)(K:Hs U→(TT U.ty a→TT U.ty b→Int)→List Nat→Prop):Prop:=match x with
 |⟨false,(_,.fn f):: []⟩=>pZ G f fun c=> ∃g,yt c [] a b g∧K H g []
 |⟨false,(_,.clo f js):: []⟩=>yq T js H fun H caps=>pZ G f fun c=> ∃g,yt c caps a b g∧K H g js
 |⟨false,(_,.f2 a' b' g):: []⟩=>(match ew U.ty (fun x=>x→TT U.ty b'→Int) a' a g with
  |some g=>(match ew U.ty (fun y=>TT U.ty a→y→Int) b' b g with
   |some g=>K H g []
   |none=>False)
  |none=>False)
 |_=>False
def Gy(T:cM U)(G:cR U)(md:List Md):List (Va U)→Hs U→(Hs U→List (Va U)→List Nat→Prop)→Prop:=
 List.rec (motive:=fun _=>List (Va U)→Hs U→(Hs U→List (Va U)→List Nat→Prop)→Prop) (fun l H K=>K H l []) (fun m _ ih l H K=>match l with
  | []=>K H [] []
  |x::r=>(match m with
   | .d s=>yg s H x fun H t=>ih r H fun H r Z=>K H (⟨x.ag,[(aM U s,.d s t)]⟩::r) Z
   | .f1 a=>BW T G a x H fun H g js=>ih r H fun H r Z=>K H (⟨false,[(1,.f1 a g)]⟩::r) (js++Z)
   | .f2 a b=>BX T G a b x H fun H g js=>ih r H fun H r Z=>K H (⟨false,[(1,.f2 a b g)]⟩::r) (js++Z)
   |_=>ih r H fun H r Z=>K H (x::r) Z)) md
def yu(L:List Nat):List Nat→Bool
 | []=>true
 |z::Z=>bif gG z L then false else yu L Z
def BY(es:List (aJ U)):List Nat→Nat→(List Nat→Nat→Prop)→Prop:=
 List.rec (motive:=fun _=>List Nat→Nat→(List Nat→Nat→Prop)→Prop) (fun _ n K=>K [] n) (fun _ _ ih L n K=>match L with
  |i::L=>ih L n fun l n=>K (i::l) n
  | []=>ih [] (n+1) fun l n'=>K (n::l) n') es
def ur(H:Hs U)(i v:Nat)(K:Nat→Prop):Prop:=match aD H i with
 |some (.row v0 _ _ _)=>K (v0+v)
 |_=>K v
def qg(H:Hs U)(L:List Nat)(x:Cx U)(K:Cx U→Prop):Prop:=match x with
 | .own j v=>(match dn L j with
  |some i=>ur H i v fun v=>K (.own i v)
  |none=>K .un)
 | .ptr j o=>(match dn L j with
  |some i=>K (.ptr i o)
  |none=>K .un)
 | .pel j v q o=>K .un
 | .pax _ _ _ _ _ _=>K .un
 | .clo f (j:: [])=>(match dn L j with
  |some i=>K (.clo f [i])
  |none=>K .un)
 | .clo _ _=>K .un
 | .f1 _ _=>K .un
 | .f2 _ _ _=>K .un
 | .mp j=>(match dn L j with
  |some i=>K (.mp i)
  |none=>K .un)
 |x=>K x
def nC(H:Hs U)(L:List Nat)(l:List (bU U)):(List (bU U)→Prop)→Prop:=
 List.rec (motive:=fun _=>(List (bU U)→Prop)→Prop) (fun K=>K []) (fun x _ ih K=>qg H L x.2 fun y=>ih fun r=>K ((x.1,y)::r)) l
def yv(H:Hs U)(L:List Nat)(i:Nat)(x:aJ U)(K:aJ U→Prop):Prop:=match x with
 | .cells l t=>nC H L l fun l=>K (.cells l t)
 | .row v e xs t=>ur H i v fun v=>K (.row v e xs t)
 | .frz v e xs=>ur H i v fun v=>K (.frz v e xs)
 | .clo _ _=>K .dead
 | .map d l=>K (.map d l)
 | .mapr _ _ _ _ _=>K .dead
 | .it _ _=>K .dead
 | .hid _ _ _=>K .dead
 | .dead=>K .dead
def qU(H:Hs U)(L:List Nat)(l:List (Va U)):(List (Va U)→Prop)→Prop:=
 List.rec (motive:=fun _=>(List (Va U)→Prop)→Prop) (fun K=>K []) (fun x _ ih K=>nC H L x.l fun l=>ih fun r=>K (⟨x.ag,l⟩::r)) l
def EX(H:Hs U)(L:List Nat)(x:AV U)(K:AV U→Prop):Prop:=match x with
 | .v x=>nC H L x.l fun l=>K (.v ⟨x.ag,l⟩)
 | .tup l=>qU H L l fun l=>K (.tup l)
 | .pan z=>K (.pan z)
 |_=>K .un
def BZ(H:Hs U)(i:Nat)(x:aJ U)(K:Hs U→Prop):Prop:=match aD H i with
 |some _=>g9 H i x K
 |none=>K ((i,x)::H)
def yx(H0:Hs U)(L:List Nat)(M:List Nat):List (aJ U)→Hs U→(Hs U→Prop)→Prop:=
 List.rec (motive:=fun _=>List (aJ U)→Hs U→(Hs U→Prop)→Prop) (fun _ H K=>K H) (fun i _ ih es H K=>match es with
  |x::r=>yv H0 L i x fun y=>BZ H i y fun H=>ih r H K
  | []=>False) M
def mU:List Nat→Bool
 | []=>true
 |i::r=>bif gG i r then false else mU r
def w9(T:cM U)(G:cR U)(c:aW U)(xs:List (Va U))(n:Nat)(H:Hs U)(K:AV U→Nat→Hs U→Prop):Prop:=
 IX c.md xs H fun H=>Gy T G c.md xs H fun H xs Z=>yp (uo H 30 0 (wY H xs [])) fun L=>bif mU L&&yu L Z then sH true H L xs fun ys=>qf true H L L fun es=>c.run ys es fun r es=>BY es L n fun L2 n2=>EX H L2 r fun r=>yx H L2 L2 es H fun H=>K r n2 H else False
def EY(T:cM U)(G:cR U)(f:FuncId)(xs:List (Va U))(n:Nat)(H:Hs U)(K:AV U→Nat→Hs U→Prop):Prop:=match aD G f with
 |some c=>w9 T G c xs n H K
 |none=>False
def Gz(s:aZ)(H:Hs U)(y:Cx U)(K:List (TT U.ty s)→Prop):Prop:=match y with
 | .nils=>K []
 |y=>um H y fun e ys=>(match ew U.ty List e s ys with
  |some ys=>K ys
  |none=>False)
def IY(U:bG)(s:aZ)(ei:TI U):Bool:=Nat.beq ei.sz (aM U s)&&Nat.blt 0 (aM U s)&&Nat.blt 0 ei.by_
def Jj(T:cM U)(t:Nat)(H:Hs U)(n:Nat)(x y:Cx U)(K:AV U→Nat→Hs U→Prop):Prop:=EU T t fun el ei=>match ei.sh with
 |some s=>bif IY U s ei then Gz s H y fun ys=>(match x with
  | .nils=>VS (ys.length*ei.by_≤140737488355328) (K (.v ⟨false,[(1,.own n 0)]⟩) (n+1) ((n,.row 0 s ys el)::H))
  | .own i v=>(match aD H i with
   |some (.row v' e' xs u)=>bif Nat.beq v v'&&Nat.beq u el then(match ew U.ty List e' s xs with
    |some xs=>VS ((xs.length+ys.length)*ei.by_≤140737488355328) (g9 H i (.row (v+1) s (xs++ys) u) fun H=>K (.v ⟨false,[(1,.own i (v+1))]⟩) n H)
    |none=>False)else False
   |_=>False)
  |_=>False)else False
 |none=>False
def Jk(T:cM U)(t:Nat)(H:Hs U)(n:Nat)(q r:Int)(K:AV U→Nat→Hs U→Prop):Prop:=EU T t fun el ei=>match ei.sh with
 |some s=>bif IY U s ei then cl 20 s ei.zero fun z=>VS (0≤q∧q≤r∧r≤281474976710656∧ei.by_*r.toNat≤281474976710656) (K (.v ⟨false,[(1,.own n 0)]⟩) (n+1) ((n,.row 0 s (List.replicate q.toNat z) el)::H))else False
 |none=>False
def M7(c:Cx U)(xs:List (Va U))(H:Hs U)(K:AV U→Hs U→Prop):Prop:=match c,xs with
 | .f1 a g,x:: []=>bif x.ag==dR a then yg a H x fun H t=>K (.v ⟨false,[(1,.d .bool (g t))]⟩) H else False
 | .f2 a b g,x::y:: []=>bif (x.ag==dR a)&&(y.ag==dR b)then yg a H x fun H t=>yg b H y fun H t'=>K (.v ⟨false,[(1,.d (.int .i64) (g t t'))]⟩) H else False
 |_,_=>False
def Qa(c:Cx U)(xs:List (Va U))(K:Va U→Prop):Prop:=match c,xs with
 | .f1 a g,x:: []=>bif x.ag==dR a then cl 20 a x.l fun t=>K ⟨false,[(1,.d .bool (g t))]⟩else False
 | .f2 a b g,x::y:: []=>bif (x.ag==dR a)&&(y.ag==dR b)then cl 20 a x.l fun t=>cl 20 b y.l fun t'=>K ⟨false,[(1,.d (.int .i64) (g t t'))]⟩else False
 |_,_=>False
def GA(T:cM U)(t:Nat)(H:Hs U)(c:Cx U)(kv xv:Va U)(K:Hs U→Prop):Prop:=match c with
 | .mp i=>(match aD H i with
  |some (.map d l)=>bif wX T t d&&((kv.ag==dR d.k)&&(xv.ag==dR d.v))then cl 20 d.k kv.l fun k=>yg d.v H xv fun H y=>g9 H i (.map d (@bL _ _ d.dec l k y)) K else False
  |_=>False)
 |_=>False
def GB(T:cM U)(t:Nat)(H:Hs U)(c:Cx U)(kv:Va U)(K:Hs U→Prop):Prop:=match c with
 | .mp i=>(match aD H i with
  |some (.map d l)=>bif wX T t d&&(kv.ag==dR d.k)then cl 20 d.k kv.l fun k=>g9 H i (.map d (@fV _ _ d.dec l k)) K else False
  |some (.mapr d l left _ gh)=>bif wX T t d&&(kv.ag==dR d.k)then cl 20 d.k kv.l fun k=>g9 H i (.mapr d (@fV _ _ d.dec l k) (@fV _ _ d.dec left k) [] gh) K else False
  |_=>False)
 |_=>False
def GC(T:cM U)(t:Nat)(H:Hs U)(n:Nat)(c:Cx U)(K:Hs U→Prop):Prop:=match c with
 | .mp i=>(match aD H i with
  |some (.map d l)=>bif wX T t d then ∀gh,g9 H i (.mapr d l l [] gh) fun H=>K ((n,.it i gh)::H)else False
  |_=>False)
 |_=>False
def Jl{α:Type}(left:List α)(A:Prop)(B:List α→α→List α→Prop):Prop:=(left= []→A)∧ ∀a p b,left=a++p::b→B a p b
def GD(H:Hs U)(c:Cx U)(K:AV U→Hs U→Prop):Prop:=match c with
 | .ptr j 0=>(match aD H j with
  |some (.it i gh)=>(match aD H i with
   |some (.mapr d l left _ gh')=>VS (gh=gh') (Jl left (g9 H j .dead fun H=>g9 H i (.map d l) fun H=>K (.tup [⟨false,[(1,.d .bool false)]⟩]) H)
     fun a p b=> ∀gh2,g9 H j (.it i gh2) fun H=>g9 H i (.mapr d l (a++b) [p] gh2) fun H=>K (.tup [⟨false,[(1,.d .bool true)]⟩,sB d.k p.1,sB d.v p.2]) H)
   |_=>False)
  |_=>False)
 |_=>False
def oB(d:Option Nat)(A:Prop):Prop:=match d with
 |some _=>A
 |none=>False
def Jm(d:Option Nat)(A:Prop):Prop:=match d with
 |some _=>False
 |none=>A
def yy(T:cM U)(G:cR U)(o:Oper)(R e:En U)(n:Nat)(H:Hs U)(K:AV U→Nat→Hs U→Prop):Prop:=match o.op with
 | .alloc t=>oB o.dst (match aD T t with
  |some ti=>K (.v ⟨false,[(1,.ptr n 0)]⟩) (n+1) ((n,.cells ti.zero t)::H)
  |none=>False)
 | .box t x=>oB o.dst (kT [] R e x fun v=>K (.v ⟨false,[(1,.ptr n 0)]⟩) (n+1) ((n,.cells v.l t)::H))
 | .makeMap t none=>oB o.dst (match aD T t with
  |some ti=>(match ti.mp with
   |some d=>K (.v ⟨false,[(1,.mp n)]⟩) (n+1) ((n,.map d [])::H)
   |none=>False)
  |none=>False)
 | .mapUpdate t m kx x=>Jm o.dst (g8 [] R e m fun c=>kT [] R e kx fun kv=>kT [] R e x fun xv=>GA T t H c kv xv fun H=>K .un n H)
 | .range t x=>oB o.dst (g8 [] R e x fun c=>GC T t H n c fun H=>K (.v ⟨false,[(1,.ptr n 0)]⟩) (n+1) H)
 | .next x false=>oB o.dst (g8 [] R e x fun c=>GD H c fun v H=>K v n H)
 | .store t x y=>Jm o.dst (g8 [] R e x fun c=>kT [] R e y fun w=>mT T t H c w fun H=>K .un n H)
 | .buildSlice t k ps=>oB o.dst (EU T t fun el ei=>match ei.sh with
  |some s=>bif Nat.beq ei.sz (aM U s)&&Nat.blt 0 (aM U s)&&Nat.ble (k*aM U s) 1000 then BR [] R e s k ps.toList 0 H fun H l=>K (.v ⟨false,[(1,.own n 0)]⟩) (n+1) ((n,.row 0 s l el)::H)else False
  |none=>False)
 | .makeSlice t x y=>oB o.dst (g8 [] R e x fun c=>g8 [] R e y fun d=>match c,d with
  | .d (.int _) q,.d (.int _) r=>Jk T t H n q r K
  |_,_=>False)
 | .call c=>(match c.callee with
  | .builtin .append=>(match c.args.toList,c.argTypes.toList with
   |x::y:: [],t::t':: []=>oB o.dst (bif Nat.beq t t' then g8 [] R e x fun a=>g8 [] R e y fun b=>Jj T t H n a b K else False)
   |_,_=>False)
  | .builtin .delete=>(match c.args.toList,c.argTypes.toList with
   |m::kx:: [],t::_:: []=>Jm o.dst (g8 [] R e m fun c=>kT [] R e kx fun kv=>GB T t H c kv fun H=>K .un n H)
   |_,_=>False)
  | .value (.func f)=>pW [] R e c.args.toList fun xs=>EY T G f xs n H K
  | .value (.tmp s)=>oB o.dst (g8 [] R e (.tmp s) fun x=>pW [] R e c.args.toList fun xs=>M7 x xs H fun v H=>K v n H)
  |_=>False)
 |_=>False
def lW(o:Oper):Bool:=match o.op with
 | .alloc _| .box _ _| .store _ _ _| .buildSlice _ _ _| .makeSlice _ _ _| .makeMap _ _| .mapUpdate _ _ _ _| .range _ _| .next _ _=>true
 | .call c=>(match c.callee with
  | .builtin .append| .builtin .copy| .builtin .clear| .builtin .delete=>true
  | .builtin _=>false
  |_=>true)
 |_=>false
abbrev KS(U:bG):=En U→Nat→Hs U→Prop
def B0(T:cM U)(H:Hs U)(js:List Nat):(List (Va U)→Prop)→Prop:=
 List.rec (motive:=fun _=>(List (Va U)→Prop)→Prop) (fun K=>K []) (fun j _ ih K=>match aD H j with
  |some (.cells l t)=>(match aD T t with
   |some ti=>(match ti.sh with
    |some s=>cl 20 s l fun x=>ih fun r=>K (⟨false,[(1,.pd s x)]⟩::r)
    |none=>False)
   |none=>False)
  |_=>False) js
def B1(T:cM U)(G:cR U)(H:Hs U)(a:aZ)(x:Va U)(K:(TT U.ty a→Bool)→Prop):Prop:=match x with
 |⟨false,(_,.fn f):: []⟩=>pZ G f fun c=> ∃g,yr c [] a g∧K g
 |⟨false,(_,.clo f js):: []⟩=>B0 T H js fun caps=>pZ G f fun c=> ∃g,yr c caps a g∧K g
 |_=>False
def B2(T:cM U)(G:cR U)(H:Hs U)(a b:aZ)(x:Va U)(K:(TT U.ty a→TT U.ty b→Int)→Prop):Prop:=match x with
 |⟨false,(_,.fn f):: []⟩=>pZ G f fun c=> ∃g,yt c [] a b g∧K g
 |⟨false,(_,.clo f js):: []⟩=>B0 T H js fun caps=>pZ G f fun c=> ∃g,yt c caps a b g∧K g
 |_=>False
def IZ(T:cM U)(G:cR U)(H:Hs U)(md:List Md):List (Va U)→(List (Va U)→Prop)→Prop:=
 List.rec (motive:=fun _=>List (Va U)→(List (Va U)→Prop)→Prop) (fun l K=>match l with| []=>K []|_=>False) (fun m _ ih l K=>match l with
  | []=>K []
  |x::r=>(match m with
   | .d s=>nR true H [] x.l fun l=>cl 20 s l fun t=>ih r fun r=>K (⟨x.ag,[(aM U s,.d s t)]⟩::r)
   | .f1 a=>B1 T G H a x fun g=>ih r fun r=>K (⟨false,[(1,.f1 a g)]⟩::r)
   | .f2 a b=>B2 T G H a b x fun g=>ih r fun r=>K (⟨false,[(1,.f2 a b g)]⟩::r)
   | .p _=>False
   | .n=>nR true H [] x.l fun l=>ih r fun r=>K (⟨x.ag,l⟩::r))) md
def B3:List (bU U)→Bool
 | []=>true
 |(_,x)::r=>match x with
  | .f1 _ _=>false
  | .f2 _ _ _=>false
  |_=>B3 r
def ut(T:cM U)(G:cR U)(p:cK)(o:Oper)(R e:En U)(n:Nat)(H:Hs U)(K:Va U→Prop):Prop:=match o.op with
 | .call c=>(match c.callee with
  | .value (.func f)=>(match aD G f with
   |some k=>pW p R e c.args.toList fun xs=> ∃x:Va U,qd R e p (IZ T G H k.md xs fun xs=>k.run xs [] fun r es=>r= .v x∧es= [])∧B3 x.l=true∧K x
   |none=>False)
  | .value (.tmp s)=>g8 p R e (.tmp s) fun x=>pW p R e c.args.toList fun xs=>Qa x xs K
  |_=>False)
 |_=>False
def yz:List (Nat×Operand)→Nat→Nat→Bool
 | [],j,k=>Nat.beq j k
 |(i,_)::r,j,k=>Nat.beq i j&&yz r (j+1) k
def M8(s:aZ)(H:Hs U)(l:List (Va U)):(List (TT U.ty s)→Prop)→Prop:=
 List.rec (motive:=fun _=>(List (TT U.ty s)→Prop)→Prop) (fun K=>K []) (fun x _ ih K=>nR true H [] x.l fun l=>cl 20 s l fun a=>ih fun r=>K (a::r)) l
def vJ(T:cM U)(G:cR U)(p:cK)(o:Oper)(R e:En U)(n:Nat)(H:Hs U)(K:Va U→Prop):Prop:=match o.op with
 | .buildSlice t k ps=>EU T t fun _ ei=>match ei.sh with
  |some s=>bif Nat.beq ei.sz (aM U s)&&Nat.blt 0 (aM U s)&&Nat.ble (k*aM U s) 1000&&yz ps.toList 0 k then pW p R e (ps.toList.map (·.2)) fun xs=>M8 s H xs fun l=>K ⟨false,[(1,.d (.sl s) l)]⟩else False
  |none=>False
 |_=>ut T G p o R e n H K
abbrev KR(U:bG):=En U→Nat→Hs U→En U→List Nat→KS U→Prop
def oC(rest:KR U)(d:Option Nat)(v:AV U)(e:En U)(n:Nat)(H:Hs U)(R:En U)(S:List Nat)(K:KS U):Prop:=match d with
 |some d=>bif gG d S then False else rest ((d,v)::e) n H R S K
 |none=>rest e n H R S K
def putG(rest:KR U)(s:Nat)(d:Option Nat)(p:cK)(x:Va U)(e:En U)(n:Nat)(H:Hs U)(R:En U)(S:List Nat)(K:KS U):Prop:=match d with
 |some d=>(match aD e d with
  |none=>bif gG d S||Nat.beq d s then False else rest e n H ((d,.gd p x)::R) (d::s::S) K
  |some _=>False)
 |none=>False
def xa(T:cM U)(G:cR U)(o:Oper)(rest:KR U)(s:Nat)(p:cK)(e:En U)(n:Nat)(H:Hs U)(R:En U)(S:List Nat)(K:KS U):Prop:=match lW o with
 |true=>vJ T G p o R e n H fun v=>putG rest s o.dst p v e n H R S K
 |false=>lg (qd R e p) T p o R e H fun v=>(match v with
  | .v v=>putG rest s o.dst p v e n H R S K
  |_=>False)
def B4(o:Oper)(v:AV U)(A:Prop):Prop:=match o.op with
 | .call c=>(match c.callee with
  | .builtin .len=>(match v with
   | .v ⟨false,(_,.d (.int k) q):: []⟩=>dq k q→A
   |_=>A)
  |_=>A)
 |_=>A
def gH(T:cM U)(G:cR U)(all:List Oper)(o:Oper)(rest:KR U)(e:En U)(n:Nat)(H:Hs U)(R:En U)(S:List Nat)(K:KS U):Prop:=match o.guard with
 |none=>(match lW o with
  |true=>yy T G o R e n H fun v n H=>oC rest o.dst v e n H R S K
  |false=>lg (fun P=>P) T [] o R e H fun v=>B4 o v (oC rest o.dst v e n H R S K))
 |some (j,b)=>(match dn all j with
  |some oj=>(match oj.dst with
   |some s=>(match aD R s with
    |some (.gd p ⟨false,(_,.d .bool _):: []⟩)=>xa T G o rest s ((s,b)::p) e n H R S K
    |some _=>False
    |none=>(match aD e s with
     |some (.v ⟨false,(_,.d .bool _):: []⟩)=>xa T G o rest s [(s,b)] e n H R S K
     |_=>False))
   |none=>False)
  |none=>False)
def xb(p:Nat→Bool)(H:Hs U):(Hs U→Prop)→Prop:=
 List.rec (motive:=fun _=>(Hs U→Prop)→Prop) (fun K=>K []) (fun x _ ih K=>ih fun r=>match p x.1,x.2 with
  |true,.row v e xs _=>K ((x.1,.hid v xs.length (aM U e))::r)
  |true,.cells _ _=>K ((x.1,.dead)::r)
  |true,.map _ _=>K ((x.1,.dead)::r)
  |true,.mapr _ _ _ _ _=>K ((x.1,.dead)::r)
  |true,.it _ _=>K ((x.1,.dead)::r)
  |_,y=>K ((x.1,y)::r)) H
def B5(p:Nat→Bool)(H:Hs U)(H':Hs U):(Hs U→Prop)→Prop:=
 List.rec (motive:=fun _=>(Hs U→Prop)→Prop) (fun K=>K []) (fun x _ ih K=>ih fun r=>match p x.1,aD H x.1,x.2 with
  |true,some (.row v e xs t),.hid v' _ _=>bif Nat.beq v v' then K ((x.1,.row v e xs t)::r)else False
  |true,some (.cells l t),.dead=>K ((x.1,.cells l t)::r)
  |true,some (.map d l),.dead=>K ((x.1,.map d l)::r)
  |true,some (.mapr d l l' q g),.dead=>K ((x.1,.mapr d l l' q g)::r)
  |true,some (.it i g),.dead=>K ((x.1,.it i g)::r)
  |_,_,y=>K ((x.1,y)::r)) H'
def Jn:List Md→Bool
 | []=>false
 |m::r=>match m with
  | .p _=>true
  |_=>Jn r
def xc(G:cR U)(o:Oper):Bool:=match o.op with
 | .call c=>(match c.callee with
  | .value (.func f)=>(match aD G f with
   |some k=>Jn k.md
   |none=>false)
  |_=>false)
 |_=>false
def qh(T:cM U)(G:cR U)(p:Nat→Bool)(q:cK)(o:Oper)(R e:En U)(n:Nat)(H:Hs U)(K:Va U→Prop):Prop:=match o.op with
 | .call c=>(match c.callee with
  | .value (.func f)=>(match aD G f with
   |some k=>pW q R e c.args.toList fun xs=>xb (fun i=>!p i) H fun Hk=> ∃x:Va U,qd R e q (w9 T G k xs n Hk fun r n' H'=>r= .v x∧n'=n∧B5 (fun i=>!p i) H H' fun L=>L=H)∧K x
   |none=>False)
  |_=>False)
 |_=>False
def jL(T:cM U)(G:cR U)(all:List Oper)(p:Nat→Bool)(o:Oper)(rest:KR U)(e:En U)(n:Nat)(H:Hs U)(R:En U)(S:List Nat)(K:KS U):Prop:=match o.guard with
 |none=>False
 |some (j,b)=>(match dn all j with
  |some oj=>(match oj.dst with
   |some s=>(match aD R s with
    |some (.gd q ⟨false,(_,.d .bool _):: []⟩)=>qh T G p ((s,b)::q) o R e n H fun v=>putG rest s o.dst ((s,b)::q) v e n H R S K
    |some _=>False
    |none=>(match aD e s with
     |some (.v ⟨false,(_,.d .bool _):: []⟩)=>qh T G p [(s,b)] o R e n H fun v=>putG rest s o.dst [(s,b)] v e n H R S K
     |_=>False))
   |none=>False)
  |none=>False)
class hJ(U:bG) where
 g:cR U
 kp:Int→En U→Nat→Hs U→Prop
instance(priority:=50) panNone:hJ U:=⟨[],fun _ _ _ _=>False⟩
def GE [hJ U](o:Oper):Bool:=match o.op with
 | .call c=>(match c.callee with
  | .value (.func f)=>(match aD (hJ.g (U:=U)) f with
   |some _=>true
   |none=>false)
  |_=>false)
 |_=>false
def GF [hJ U](T:cM U)(G:cR U)(o:Oper)(R e:En U)(n:Nat)(H:Hs U)(K:AV U→Nat→Hs U→Prop):Prop:=match o.op with
 | .call c=>(match c.callee with
  | .value (.func f)=>(match aD (hJ.g (U:=U)) f with
   |some k=>pW [] R e c.args.toList fun xs=>w9 T G k xs n H fun v n H=>(match v with
    | .pan z=>hJ.kp z e n H
    |v=>K v n H)
   |none=>False)
  |_=>False)
 |_=>False
def nD [hJ U](T:cM U)(G:cR U)(all:List Oper)(o:Oper)(rest:KR U):KR U:=bif GE (U:=U) o then(fun e n H R S K=>match o.guard with
  |none=>GF T G o R e n H fun v n H=>oC rest o.dst v e n H R S K
  |some _=>False)else gH T G all o rest
def mV [hJ U](T:cM U)(G:cR U)(all l:List Oper):KR U:=
 List.rec (motive:=fun _=>KR U) (fun e n H _ _ K=>K e n H) (fun o _ ih=>match o.guard with
  |none=>nD T G all o ih
  |some _=>bif xc G o then jL T G all (fun _=>true) o ih else gH T G all o ih) l
def lh(T:cM U)(G:cR U)(all:List Oper)(p:Nat→Bool)(how:Bool)(o:Oper)(rest:KR U)(e:En U)(n:Nat)(H:Hs U)(R:En U)(S:List Nat)(K:KS U):Prop:=match lW o,how with
 |true,true=>False
 |false,true=>xb p H fun Hu=>gH T G all o (fun e _ _ R S K=>rest e n H R S K) e n Hu R S K
 |false,false=>gH T G all o rest e n H R S K
 |true,false=>(match o.guard with
  |none=>xb (fun i=>!p i) H fun Hk=>yy T G o R e n Hk fun v n Hk=>B5 (fun i=>!p i) H Hk fun H=>oC rest o.dst v e n H R S K
  |some _=>bif xc G o then jL T G all p o rest e n H R S K else gH T G all o rest e n H R S K)
def vK(T:cM U)(G:cR U)(all:List Oper)(mk:List Nat)(last:KR U)(pl:List (Bool×Nat)):KR U:=
 List.rec (motive:=fun _=>KR U) last (fun x _ ih=>match dn all x.2 with
  |some o=>lh T G all (fun i=>gG i mk) x.1 o ih
  |none=>fun _ _ _ _ _ _=>False) pl
def li [hJ U](T:cM U)(G:cR U)(all:List Oper)(f:Option Nat):KR U:=match f with
 |none=>fun e n H _ _ K=>K e n H
 |some f=>(match dn all f with
  |some o=>nD T G all o (fun e n H _ _ K=>K e n H)
  |none=>fun _ _ _ _ _ _=>False)
def nE(ops:Array Oper)(f:Option Nat):List (Bool×Nat)→Array Bool→Bool
 | [],listed=>(match f with
  |none=>(Region.ready .any ops listed).isEmpty
  |some f=>Region.ready .any ops listed== [f]&&(Region.ready .any ops (listed.setIfInBounds f true)).isEmpty)
 |(true,i)::r,listed=>(Region.ready .any ops listed).contains i&&Region.free .any ops listed i&&(match f with|some f=>i !=f|none=>true)&&nE ops f r (listed.setIfInBounds i true)
 |(false,i)::r,listed=>Region.ready .any ops listed== [i]&&(match f with|some f=>i !=f|none=>true)&&nE ops f r (listed.setIfInBounds i true)
def uu(ops:Array Oper)(f:Option Nat)(pl:List (Bool×Nat)):Bool:=Region.noSelect ops&&(match f with|some f=>Dv .any ops f|none=>true)&&nE ops f pl (Array.replicate ops.size false)&&Nat.ble (pl.length+(match f with|some _=>1|none=>0)) ops.size
inductive Ot where
 |fin|nil|look (i:Nat) (r:Ot)|turn (i:Nat) (here more:Ot)
def sI(T:cM U)(G:cR U)(all:List Oper)(p:Nat→Bool)(last:KR U)(t:Ot):KR U:=
 Ot.rec (motive:=fun _=>KR U) last (fun _ _ _ _ _ _=>True)
  (fun i _ ih=>match dn all i with
   |some o=>lh T G all p true o ih
   |none=>fun _ _ _ _ _ _=>False)
  (fun i _ _ ih ih2 e n H R S K=>(match dn all i with
   |some o=>lh T G all p false o ih
   |none=>fun _ _ _ _ _ _=>False) e n H R S K∧ih2 e n H R S K) t
def Jo(i:Nat):List Nat→Bool
 |j::_=>Nat.beq j i
 | []=>false
def gI(ops:Array Oper)(f:Option Nat):Ot→Array Bool→Option (List Nat)→Bool
 | .fin,listed,none=>nE ops f [] listed
 | .nil,_,some L=>L.isEmpty
 | .look i r,listed,none=>(Region.ready .any ops listed).contains i&&Region.free .any ops listed i&&(match f with|some f=>i !=f|none=>true)&&gI ops f r (listed.setIfInBounds i true) none
 | .turn i a b,listed,none=>Jo i (Region.ready .any ops listed)&&gI ops f a (listed.setIfInBounds i true) none&&gI ops f b listed (some (Region.ready .any ops listed).tail)
 | .turn i a b,listed,some L=>Jo i L&&gI ops f a (listed.setIfInBounds i true) none&&gI ops f b listed (some L.tail)
 |_,_,_=>false
def Ot.h:Ot→Nat
 | .fin=>0
 | .nil=>0
 | .look _ r=>r.h+1
 | .turn _ a b=>max (a.h+1) b.h
def yA(ops:Array Oper)(f:Option Nat)(t:Ot):Bool:=Region.noSelect ops&&(match f with|some f=>Dv .any ops f|none=>true)&&gI ops f t (Array.replicate ops.size false) none&&Nat.ble (t.h+(match f with|some _=>1|none=>0)) ops.size
inductive I0 where
 |n|r|x (i:Nat)
abbrev KO(U:bG):=I0→En U→Nat→Hs U→Prop
def Jp(b:En U→Nat→Hs U→KO U→Prop)(K:KO U)(o:I0)(e:En U)(n:Nat)(H:Hs U):Prop:=match o with
 | .n=>b e n H K
 |o=>K o e n H
def Jq(i:Nat)(K:KO U)(o:I0)(e:En U)(n:Nat)(H:Hs U):Prop:=match o with
 | .x j=>(bif Nat.beq i j then K .n e n H else K (.x j) e n H)
 |o=>K o e n H
def GG(a b:En U→Nat→Hs U→KO U→Prop)(e:En U)(n:Nat)(H:Hs U)(K:KO U)(v:Cx U):Prop:=match v with
 | .d .bool t=>xY t (a e n H K) (b e n H K)
 |_=>False
def cS(φ:List (Nat×Nat))(k:Nat):Nat:=match aD φ k with
 |some i=>i
 |none=>k
def qV(H:Hs U)(i v:Nat):Bool:=match aD H i with
 |some (.row v' _ _ _)=>Nat.beq v v'
 |_=>false
def uv(H:Hs U)(i:Nat):Bool:=match aD H i with
 |some (.map _ _)=>true
 |some (.mapr _ _ _ _ _)=>true
 |_=>false
def qW(H:Hs U)(i:Nat):Bool:=match aD H i with
 |some (.cells _ _)=>true
 |some (.it _ _)=>true
 |_=>false
def My(s:aZ)(t:TT U.ty s)(s':aZ)(t':TT U.ty s')(A:Prop):Prop:=match ew U.ty (fun x=>x) s s' t with
 |some u=>u=t'∧A
 |none=>False
def GH(a:aZ)(g:TT U.ty a→Bool)(a':aZ)(g':TT U.ty a'→Bool)(A:Prop):Prop:=match ew U.ty (fun x=>x→Bool) a a' g with
 |some u=>u=g'∧A
 |none=>False
def GI(a b:aZ)(g:TT U.ty a→TT U.ty b→Int)(a' b':aZ)(g':TT U.ty a'→TT U.ty b'→Int)(A:Prop):Prop:=match ew U.ty (fun x=>x→TT U.ty b→Int) a a' g with
 |some u=>(match ew U.ty (fun y=>TT U.ty a'→y→Int) b b' u with
  |some u=>u=g'∧A
  |none=>False)
 |none=>False
def Jr(φ:List (Nat×Nat))(H':Hs U):List Nat→List Nat→Bool
 | [],[]=>true
 |k::ks,j::js=>Nat.beq (cS φ k) j&&qW H' k&&Jr φ H' ks js
 |_,_=>false
def GJ(φ:List (Nat×Nat))(n:Nat)(H H':Hs U)(x y:Cx U)(A:Prop):Prop:=match x,y with
 | .nils,.own k w=>bif Nat.ble n (cS φ k)&&qV H' k w then A else False
 | .own i v,.own k w=>bif Nat.beq (cS φ k) i&&qV H i v&&qV H' k w then A else False
 | .own i v,.d s t'=>(match aD H i with
  |some (.frz v' e xs)=>bif Nat.beq v v' then My (.sl e) xs s t' A else False
  |_=>False)
 | .ptr i o,.ptr k p=>bif Nat.beq (cS φ k) i&&Nat.beq o p&&qW H' k then A else False
 | .d s t,.d s' t'=>My s t s' t' A
 | .nilp,.nilp=>A
 | .nils,.nils=>A
 | .nils,.d (.sl e) xs=>([]:List (TT U.ty e))=xs∧A
 | .nilf,.nilf=>A
 | .nilm,.nilm=>A
 | .mp i,.mp k=>bif Nat.beq (cS φ k) i&&uv H' k then A else False
 | .fn f,.fn g=>bif Nat.beq f g then A else False
 | .clo f js,.clo g ks=>bif Nat.beq f g&&Jr φ H' ks js then A else False
 | .f1 a g,.f1 a' g'=>GH a g a' g' A
 | .f2 a b g,.f2 a' b' g'=>GI a b g a' b' g' A
 |_,_=>False
def yB(φ:List (Nat×Nat))(n:Nat)(H H':Hs U)(l:List (bU U))(l':List (bU U))(A:Prop):Prop:=match l' with
 | []=>(match l with
  | []=>A
  |_=>False)
 |(m,.d (.st i) t)::l'=>tK 40 l m fun l1=>cl 20 (.st i) l1 fun u=>u=t∧gE 40 l m fun l2=>yB φ n H H' l2 l' A
 |(m,.d (.arr k e) t)::l'=>tK 40 l m fun l1=>cl 20 (.arr k e) l1 fun u=>u=t∧gE 40 l m fun l2=>yB φ n H H' l2 l' A
 |(m,y)::l'=>(match l with
  |(k,x)::l=>bif Nat.beq k m then GJ φ n H H' x y (yB φ n H H' l l' A)else False
  | []=>False)
termination_by structural l'
def Mz(φ:List (Nat×Nat))(n:Nat)(e:En U)(H H':Hs U):En U→Prop→Prop
 | [],A=>A
 |(k,.v y)::r,A=>(match aD e k with
  |some (.v x)=>bif x.ag==y.ag then yB φ n H H' x.l y.l (Mz φ n e H H' r A)else False
  |_=>False)
 |_,_=>False
def MA(φ:List (Nat×Nat))(b n:Nat)(H H':Hs U)(k:Nat)(x y:aJ U)(A:Prop):Prop:=match x,y with
 |_,.dead=>A
 | .cells l t,.cells l' t'=>bif Nat.beq t t' then yB φ n H H' l l' A else False
 | .row v e xs t,.row v' e' xs' t'=>bif Nat.beq t t'&&(Nat.ble b k||Nat.beq v v')then(match ew U.ty List e e' xs with
  |some u=>u=xs'∧A
  |none=>False)else False
 | .map d l,.map d' l'=>(⟨d,l⟩:(d:KD U)×List (TT U.ty d.k×TT U.ty d.v))=⟨d',l'⟩∧A
 | .mapr d l r q g,.mapr d' l' r' q' g'=>(⟨d,(l,r,q)⟩:(d:KD U)×(List (TT U.ty d.k×TT U.ty d.v)×List (TT U.ty d.k×TT U.ty d.v)×List (TT U.ty d.k×TT U.ty d.v)))=⟨d',(l',r',q')⟩∧g=g'∧A
 | .it i g,.it k' g'=>bif Nat.beq (cS φ k') i&&uv H' k' then g=g'∧A else False
 |_,_=>False
def Qb(b n:Nat)(φ:List (Nat×Nat))(k:Nat)(y:aJ U)(A:Prop):Prop:=match y with
 | .row _ e xs _=>bif Nat.ble n (cS φ k)&&Nat.ble b k&&Nat.blt 0 (aM U e)then xs= []∧A else False
 |_=>False
def GK(φ:List (Nat×Nat))(b n:Nat)(H H':Hs U):Hs U→Prop→Prop
 | [],A=>A
 |(k,y)::r,A=>(match aD H (cS φ k)with
  |some x=>MA φ b n H H' k x y (GK φ b n H H' r A)
  |none=>Qb b n φ k y (GK φ b n H H' r A))
def uw(p:Nat→Bool):List Nat→Bool
 | []=>true
 |i::r=>bif p i then uw p r else false
def Js(b N:Nat)(φ:List (Nat×Nat))(n:Nat)(e:En U)(H:Hs U)(e':En U)(H':Hs U):Prop:=
 bif Nat.ble b N&&mU (H'.map (·.1))&&mU (H'.map fun p=>cS φ p.1)&&uw (fun i=>Nat.blt i N) (H'.map (·.1))&&uw (fun i=>Nat.ble b i) (φ.map (·.1))then GK φ b n H H' H' (Mz φ n e H H' e' True)else False
def vL(φ:List (Nat×Nat))(H':Hs U):Hs U→List (bU U)
 | []=> []
 |(i,.row v _ _ _)::r=>bif gG i (H'.map fun p=>cS φ p.1)then vL φ H' r else(1,.own i v)::vL φ H' r
 |_::r=>vL φ H' r
def MB(b N:Nat)(φ:List (Nat×Nat))(n:Nat)(e:En U)(H:Hs U)(e':En U)(H':Hs U):Prop:=kU (vL φ H' H) H fun H _=>Js b N φ n e H e' H'
def vM [hJ U](T:cM U)(G:cR U)(b:Nat)(ops:Array Oper)(e:En U)(n:Nat)(H:Hs U)(K:KS U):Prop:=
 (∃(pl:List (Bool×Nat)) (f:Option Nat) (mk:List Nat),uu ops f pl=true∧vK T G ops.toList mk (li T G ops.toList f) pl e n H [] [] K)∨
 (∃(t:Ot) (f:Option Nat) (mk:List Nat) (N:Nat) (E:En U) (M:Hs U) (A:Prop),yA ops f t=true∧sI T G ops.toList (fun i=>gG i mk||Nat.ble n i) (li T G ops.toList f) t e n H [] [] (fun e' n' H'=>A∧ ∃φ,Js b N φ n' e' H' E M)∧(A→K E N M))
def yC(b:Nat)(a:En U→Nat→Hs U→KO U→Prop)(e:En U)(n:Nat)(H:Hs U)(K:KO U):Prop:=
 ∃(σ:Type) (N:Nat) (E:σ→En U) (M:σ→Hs U) (I:σ→Prop) (μ:σ→Nat),(∃φ s,I s∧MB b N φ n e H (E s) (M s))∧
  ∀s,I s→a (E s) N (M s) fun o e' n' H'=>match o with
   | .n=> ∃φ s',μ s'<μ s∧I s'∧MB b N φ n' e' H' (E s') (M s')
   |o=>K o e' n' H'
def aw [hJ U](T:cM U)(G:cR U)(b:Nat)(c:Code):En U→Nat→Hs U→KO U→Prop:=
 Code.rec (motive:=fun _=>En U→Nat→Hs U→KO U→Prop)
  (fun e n H K=>K .n e n H)
  (fun _ ops d e n H K=>bif d then vM T G b ops e n H (K .n)else mV T G ops.toList ops.toList e n H [] [] (K .n))
  (fun _ _ a b e n H K=>a e n H (Jp b K))
  (fun c _ _ a b e n H K=>g8 [] [] e c (GG a b e n H K))
  (fun i _ a e n H K=>a e n H (Jq i K))
  (fun _ a e n H K=>yC b a e n H K)
  (fun _ _ _ _ _ _ _ _ _ _=>False)
  (fun i e n H K=>K (.x i) e n H)
  (fun _ _ _ _ _ _=>False)
  (fun _ e n H K=>K .n e n H)
  (fun _ _ _ _ _=>False)
  (fun e n H K=>K .r e n H)
  (fun _ _ _ _ _=>False)
  c
def yD(T:cM U)(l:List ResultVar)(e:En U)(H:Hs U):(List (Va U)→Prop)→Prop:=
 List.rec (motive:=fun _=>(List (Va U)→Prop)→Prop) (fun K=>K []) (fun r _ ih K=>match r with
  | .tmp t=>kT [] [] e (.tmp t) fun v=>ih fun l=>K (v::l)
  | .cell p t=>g8 [] [] e (.tmp p) fun c=>sA T t H c fun v=>ih fun l=>K (v::l)) l
def GL(l:List (Va U))(K:AV U→Prop):Prop:=match l with
 |x:: []=>K (.v x)
 |l=>K (.tup l)
def ux:Nat→Nat→List Nat→Bool
 |_,0,_=>true
 |j,k+1,a::r=>bif Nat.beq a j then ux (j+1) k r else false
 |_,_+1,[]=>false
def sJ(T:cM U)(fn:Func)(md:List Md)(em:List (Nat×List (Nat×Option aZ)))(b:Nat)(K:AV U→List (aJ U)→Prop)(o:I0)(e:En U)(n:Nat)(H:Hs U):Prop:=match o with
 | .x _=>False
 |_=>bif Nat.ble fn.results.toList.length 3 then yD T fn.results.toList e H fun l=>IX md l H fun H=>Mx em H fun H=>EW md l H fun H l=>yp (uo H 30 0 (wY H l (List.range b))) fun L=>bif mU L&&ux 0 b L then sH false H L l fun l=>qf false H L L fun es=>GL l fun r=>K r es else False else False
def B6(b:Nat)(K:AV U→List (aJ U)→Prop)(z:Int)(n:Nat)(H:Hs U):Prop:=yp (uo H 30 0 (List.range b)) fun L=>bif mU L&&ux 0 b L then qf false H L L fun es=>K (.pan z) es else False
def Jt(GP:cR U)(T:cM U)(G:cR U)(fn:Func)(md:List Md)(em:List (Nat×List (Nat×Option aZ)))(e:En U)(b:Nat)(H:Hs U)(K:AV U→List (aJ U)→Prop):Prop:=match fn.body with
 |some c=> @aw U ⟨GP,fun z _ n H=>B6 b K z n H⟩ T G b c e b H (sJ T fn md em b K)
 |none=>False
def GM(T:cM U)(G:cR U)(fn:Func)(md:List Md)(em:List (Nat×List (Nat×Option aZ)))(e:En U)(b:Nat)(H:Hs U)(K:AV U→List (aJ U)→Prop):Prop:=match fn.body with
 |some c=>aw T G b c e b H (sJ T fn md em b K)
 |none=>False
end
end Go.Proofs.YtmpeiadlohbikaaGreatDoor.V
end

section
namespace Go.Proofs.YtmpeiadlohbikaaGreatDoor.V
open Go.RowKit
def gB:List Nat:= [0]
def Gv(w:World):Prop:= ∃mx,w.cell? ⟨0,0,none⟩=some (.int .i64 mx)
theorem Gv.fr{w w':World}{O:List Nat}(h:Gv w)(hf:Fr O w w')(hO: ∀o∈O,o∉gB):Gv w':=by
 obtain⟨mx,h⟩:=h;refine⟨mx,?_⟩;have hl:(0:Nat)<w.heap.size:=by
  unfold World.cell? at h;split at h
  ·rename_i c t x hb;exact bZ hb
  ·cases h
 rw[hf.cell (p:=⟨0,0,none⟩) hl (fun h0=>hO 0 h0 (by simp[gB]))];exact h
theorem Gv.lt{w:World}(h:Gv w): ∀g∈gB,g<w.heap.size:=fun g hg=>by
 obtain⟨mx,h⟩:=h;have e:g=0:=by simpa[gB]using hg
 subst e;unfold World.cell? at h;split at h
 ·rename_i c t x hb;exact bZ hb
 ·cases h
end Go.Proofs.YtmpeiadlohbikaaGreatDoor.V
end

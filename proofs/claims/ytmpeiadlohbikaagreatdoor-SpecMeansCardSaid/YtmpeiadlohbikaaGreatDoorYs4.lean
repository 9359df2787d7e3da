/- The interpreter: operations and code. -/
import Derived.Test.YtmpeiadlohbikaaGreatDoorYs3
import Derived.Test.YtmpeiadlohbikaaGreatDoorYs2
import Derived.Test.YtmpeiadlohbikaaGreatDoorYs1
section
set_option linter.unusedVariables false
namespace Go.Proofs.YtmpeiadlohbikaaGreatDoor.V
open Go.RowKit
inductive bq where
 |int (k:IntKind)|bool|str|st (i:Nat)|arr (n:Nat) (e:bq)|sl (e:bq)
def e9:bq→Bool
 | .st _| .arr _ _=>true
 |_=>false
def TT(ty:Nat→Type):bq→Type
 | .int _=>Int| .bool=>Bool| .str=>List UInt8| .st i=>ty i| .arr _ e=>List (TT ty e)| .sl e=>List (TT ty e)
def ut(ty:Nat→Type):List (Nat×bq)→Type
 | []=>Unit
 |x::r=>TT ty x.2×ut ty r
structure RD(ty:Nat→Type)(S:Type) where
 sz:Nat
 fs:List (Nat×bq)
 to:S→ut ty fs
 toK:S→(ut ty fs→Prop)→Prop
 ofK:ut ty fs→(S→Prop)→Prop
 ixK:List S→Int→(S→Prop)→Prop
 eqK:S→S→(Bool→Prop)→Prop
 sz_ok:(fs.map (·.1)).sum=sz
 toK_ok: ∀x K,toK x K→K (to x)
 ofK_ok: ∀a K,ofK a K→ ∃x,K x∧to x=a
 ixK_ok: ∀l q K,ixK l q K→ ∃x,K x∧ ∀y,l[q.toNat]? =some y→x=y
 eqK_ok: ∀a b K,eqK a b K→ ∃t:Bool,K t∧(t=true↔a=b)
structure cw where
 ty:Nat→Type
 rd:(i:Nat)→RD ty (ty i)
inductive Cx(U:cw) where
 |d (s:bq) (t:TT U.ty s)
 |own (i v:Nat)
 |ptr (i off:Nat)
 |pel (i v:Nat) (q:Int) (off:Nat)
 |pax (i off n:Nat) (e:bq) (q:Int) (o:Nat)-- into an array's element
 |pd (s:bq) (t:TT U.ty s)
 |nilp|nils|nilf|nilm
 |fn (f:FuncId)
 |clo (f:FuncId) (js:List Nat)-- a closure over variables of our own
 |f1 (a:bq) (g:TT U.ty a→Bool)-- a function value that computes g
 |f2 (a b:bq) (g:TT U.ty a→TT U.ty b→Int)
 |mp (i:Nat)
 |un
abbrev ck(U:cw):=Nat×Cx U
structure Va(U:cw) where
 ag:Bool
 l:List (ck U)
inductive AV(U:cw) where
 |v (x:Va U)
 |tup (l:List (Va U))
 |gd (p:List (Nat×Bool)) (x:Va U)
 |un
structure KD(U:cw) where
 kt:TypeId
 vt:TypeId
 k:bq
 v:bq
 dec:DecidableEq (TT U.ty k)
 enc:TT U.ty k→Value
 zero:TT U.ty v
inductive aU(U:cw) where
 |cells (l:List (ck U)) (t:TypeId)
 |row (v:Nat) (e:bq) (xs:List (TT U.ty e)) (t:TypeId)
 |frz (v:Nat) (e:bq) (xs:List (TT U.ty e))
 |clo (f:FuncId) (l:List (ck U))
 |map (d:KD U) (l:List (TT U.ty d.k×TT U.ty d.v))
 |mapr (d:KD U) (l left cur:List (TT U.ty d.k×TT U.ty d.v)) (gh:Gh)-- a loop goes over it
 |it (i:Nat) (gh:Gh)-- an iterator
 |hid (v l m:Nat)-- a row of which only the header is known
 |dead
abbrev En(U:cw):=List (Nat×AV U)
abbrev Hs(U:cw):=List (Nat×aU U)
def aI{α:Type}:List (Nat×α)→Nat→Option α
 | [],_=>none
 |(j,v)::r,k=>bif Nat.beq j k then some v else aI r k
def d9{α:Type}:List α→Nat→Option α
 | [],_=>none
 |a::_,0=>some a
 |_::r,n+1=>d9 r n
inductive Kd where
 |int (k:IntKind)|bool|str|sl (e:Nat)|ptr (e:Nat)|st|arr (n e:Nat)|mp (k v:Nat)|fn|ifc
def uu:Kd→Bool
 | .st| .arr _ _=>true
 |_=>false
structure TI(U:cw) where
 sz:Nat
 kd:Kd
 by_:Nat
 fs:List (Nat×Nat)-- fields:where they begin,their types
 sh:Option bq
 cmp:Bool -- a record's type whose values are compared
 zero:List (ck U)
 mp:Option (KD U):=none -- a map's type
abbrev dO(U:cw):=List (Nat×TI U)
def nD:(ty:Nat→Type)→(F:Type→Type)→(i j:Nat)→F (ty i)→Option (F (ty j))
 |_,_,0,0,t=>some t
 |ty,F,i+1,j+1,t=>nD (fun n=>ty (n+1)) F i j t
 |_,_,_,_,_=>none
def jZ:IntKind→IntKind→Bool
 | .i8,.i8| .i16,.i16| .i32,.i32| .i64,.i64| .u8,.u8| .u16,.u16| .u32,.u32| .u64,.u64=>true
 |_,_=>false
def fw(ty:Nat→Type):(F:Type→Type)→(s s':bq)→F (TT ty s)→Option (F (TT ty s'))
 |_,.int k,.int k',t=>bif jZ k k' then some t else none
 |_,.bool,.bool,t=>some t
 |_,.str,.str,t=>some t
 |F,.st i,.st j,t=>nD ty F i j t
 |F,.arr n e,.arr m e',t=>bif Nat.beq n m then fw ty (fun x=>F (List x)) e e' t else none
 |F,.sl e,.sl e',t=>fw ty (fun x=>F (List x)) e e' t
 |_,_,_,_=>none
section
variable {U:cw}
def Gc:(fs:List (Nat×bq))→ut U.ty fs→(List (ck U)→Prop)→Prop
 | [],_,K=>K []
 |(k,s)::r,(a,b),K=>Gc r b fun l=>K ((k,.d s a)::l)
def aQ(U:cw):bq→Nat
 | .st i=>(U.rd i).sz
 | .arr n e=>n*aQ U e
 |_=>1
def yt(U:cw)(s:bq):(l:List (TT U.ty s))→Int→(TT U.ty s→Prop)→Prop:=match s with
 | .int _=>fun l q K=>K (ix (α:=Int) l q)
 | .bool=>fun l q K=>K (ix (α:=Bool) l q)
 | .str=>fun l q K=>K (ix (α:=List UInt8) l q)
 | .st i=>fun l q K=>(U.rd i).ixK l q K
 | .arr _ e=>fun l q K=>K (ix (α:=List (TT U.ty e)) l q)
 | .sl e=>fun l q K=>K (ix (α:=List (TT U.ty e)) l q)
def I1(e:bq)(m:Nat)(xs:List (TT U.ty e))(n:Nat):Nat→(List (ck U)→Prop)→Prop:=
 Nat.rec (motive:=fun _=>Nat→(List (ck U)→Prop)→Prop) (fun _ K=>K []) (fun _ ih j K=>yt U e xs (j:Int) fun x=>ih (j+1) fun l=>K ((m,.d e x)::l)) n
def lJ(x:Cx U)(K:List (ck U)→Prop):Prop:=match x with
 | .d (.st i) t=>(U.rd i).toK t fun a=>Gc (U.rd i).fs a K
 | .d (.arr n e) xs=>I1 e (aQ U e) xs n 0 K
 |_=>False
def qV(l l':List (ck U))(K:List (ck U)→Prop):Prop:=
 List.rec (motive:=fun _=>(List (ck U)→Prop)→Prop) (fun K=>K l') (fun x _ ih K=>ih fun r=>K (x::r)) l K
def ia:Nat→List (ck U)→Nat→(List (ck U)→Prop)→Prop:=
 Nat.rec (motive:=fun _=>List (ck U)→Nat→(List (ck U)→Prop)→Prop) (fun _ _ _=>False) fun _ ih l k K=>match k with
  |0=>K l
  |k+1=>match l with
   | []=>False
   |(m,x)::r=>bif Nat.ble m (k+1)then ih r (k+1 - m) K else lJ x fun l'=>qV l' r fun l''=>ih l'' (k+1) K
def tK:Nat→List (ck U)→Nat→(List (ck U)→Prop)→Prop:=
 Nat.rec (motive:=fun _=>List (ck U)→Nat→(List (ck U)→Prop)→Prop) (fun _ _ _=>False) fun _ ih l k K=>match k with
  |0=>K []
  |k+1=>match l with
   | []=>False
   |(m,x)::r=>bif Nat.ble m (k+1)then ih r (k+1 - m) fun r'=>K ((m,x)::r')else lJ x fun l'=>ih l' (k+1) K
def qW:Nat→List (ck U)→Nat→Nat→List (ck U)→(List (ck U)→Prop)→Prop:=
 Nat.rec (motive:=fun _=>List (ck U)→Nat→Nat→List (ck U)→(List (ck U)→Prop)→Prop) (fun _ _ _ _ _=>False) fun _ ih l off k new K=>match off with
  |0=>ia 40 l k fun r=>qV new r K
  |off+1=>match l with
   | []=>False
   |(m,x)::r=>bif Nat.ble m (off+1)then ih r (off+1 - m) k new fun r'=>K ((m,x)::r')else lJ x fun l'=>qV l' r fun l''=>ih l'' (off+1) k new K
def lK(l:List (ck U))(off k:Nat)(K:List (ck U)→Prop):Prop:=ia 40 l off fun r=>tK 40 r k K
def d1(s:bq)(l:List (ck U))(K:TT U.ty s→Prop):Prop:=match l with
 |(_,.d s' t):: []=>(match fw U.ty (fun x=>x) s' s t with|some u=>K u|none=>False)
 |_=>False
def vY(h:(s:bq)→List (ck U)→(TT U.ty s→Prop)→Prop):(fs:List (Nat×bq))→List (ck U)→(ut U.ty fs→Prop)→Prop
 | [],_,K=>K ()
 |(k,s)::r,l,K=>tK 40 l k fun l1=>h s l1 fun a=>ia 40 l k fun l2=>vY h r l2 fun b=>K (a,b)
def vZ{α:Type}(h:List (ck U)→(α→Prop)→Prop)(m:Nat)(n:Nat):List (ck U)→(List α→Prop)→Prop:=
 Nat.rec (motive:=fun _=>List (ck U)→(List α→Prop)→Prop) (fun _ K=>K []) (fun _ ih l K=>tK 40 l m fun l1=>h l1 fun a=>ia 40 l m fun l2=>ih l2 fun b=>K (a::b)) n
def j1:List (ck U)→Nat
 | []=>0
 |(k,_)::r=>k+j1 r
def du:Nat→(s:bq)→List (ck U)→(TT U.ty s→Prop)→Prop:=
 Nat.rec (motive:=fun _=>(s:bq)→List (ck U)→(TT U.ty s→Prop)→Prop) (fun _ _ _=>False) fun _ ih s=>match s with
  | .st i=>fun l K=>match l with
   |(_,.d (.st j) t):: []=>d1 (.st i) l K
   |_=>bif Nat.beq (j1 l) (U.rd i).sz then vY ih (U.rd i).fs l fun a=>(U.rd i).ofK a K else False
  | .sl e=>fun l K=>match l with
   |(_,.nils):: []=>K ([]:List (TT U.ty e))
   |_=>d1 (.sl e) l K
  | .arr n e=>fun l K=>match l with
   |(_,.d (.arr _ _) _):: []=>d1 (.arr n e) l K
   |_=>bif Nat.beq (j1 l) (n*aQ U e)then vZ (ih e) (aQ U e) n l K else False
  |s=>fun l K=>d1 s l K
def B9(k:IntKind)(p:Int):Bool:=match k,p with
 | .i8,.ofNat n=>Nat.ble n 127| .i8,.negSucc n=>Nat.ble n 127
 | .i16,.ofNat n=>Nat.ble n 32767| .i16,.negSucc n=>Nat.ble n 32767
 | .i32,.ofNat n=>Nat.ble n 2147483647| .i32,.negSucc n=>Nat.ble n 2147483647
 | .i64,.ofNat n=>Nat.ble n 9223372036854775807| .i64,.negSucc n=>Nat.ble n 9223372036854775807
 | .u8,.ofNat n=>Nat.ble n 255
 | .u16,.ofNat n=>Nat.ble n 65535
 | .u32,.ofNat n=>Nat.ble n 4294967295
 | .u64,.ofNat n=>Nat.ble n 18446744073709551615
 |_,_=>false
def uy(v:Value)(K:Va U→Prop):Prop:=match v with
 | .int k p=>bif B9 k p then K ⟨false,[(1,.d (.int k) p)]⟩else False
 | .bool b=>K ⟨false,[(1,.d .bool b)]⟩
 | .string ⟨⟨l⟩⟩=>bif Nat.ble l.length 9223372036854775807 then K ⟨false,[(1,.d .str l)]⟩else False
 | .slice none 0 0=>K ⟨false,[(1,.nils)]⟩
 | .pointer none=>K ⟨false,[(1,.nilp)]⟩
 | .nilFunc=>K ⟨false,[(1,.nilf)]⟩
 | .map none=>K ⟨false,[(1,.nilm)]⟩
 |_=>False
abbrev dv:=List (Nat×Bool)
def fK:dv→dv→Bool
 | [],[]=>true
 |(s,true)::p,(t,true)::q=>bif Nat.beq s t then fK p q else false
 |(s,false)::p,(t,false)::q=>bif Nat.beq s t then fK p q else false
 |_,_=>false
def iE(q:dv):dv→Bool
 | []=>fK q []
 |x::p=>fK q (x::p)||iE q p
def lL(p:dv)(R e:En U)(o:Operand)(K:Va U→Prop):Prop:=match o with
 | .tmp t=>(match aI R t with
  |some (.gd q x)=>bif iE q p then K x else False
  |some _=>False
  |none=>(match aI e t with
   |some (.v x)=>K x
   |_=>False))
 | .const v=>uy v K
 | .func f=>K ⟨false,[(1,.fn f)]⟩
 | .global _=>False
def qX(p:dv)(R e:En U)(l:List Operand):(List (Va U)→Prop)→Prop:=
 List.rec (motive:=fun _=>(List (Va U)→Prop)→Prop) (fun K=>K []) (fun x _ ih K=>lL p R e x fun v=>ih fun r=>K (v::r)) l
def v6(R e:En U)(s:Nat)(K:Bool→Prop)(N:Prop):Prop:=match aI R s with
 |some (.gd _ ⟨false,(_,.d .bool c):: []⟩)=>K c
 |some _=>N
 |none=>(match aI e s with
  |some (.v ⟨false,(_,.d .bool c):: []⟩)=>K c
  |_=>N)
def qf(R e:En U)(p:dv)(A:Prop):Prop:=
 List.rec (motive:=fun _=>Prop) A (fun x _ ih=>v6 R e x.1 (fun c=>c=x.2→ih) False) p
def eF:IntKind→Int→Prop
 | .i8,p=> -128≤p∧p≤127
 | .i16,p=> -32768≤p∧p≤32767
 | .i32,p=> -2147483648≤p∧p≤2147483647
 | .i64,p=> -9223372036854775808≤p∧p≤9223372036854775807
 | .u8,p=>0≤p∧p≤255
 | .u16,p=>0≤p∧p≤65535
 | .u32,p=>0≤p∧p≤4294967295
 | .u64,p=>0≤p∧p≤18446744073709551615
def Mi(k:IntKind)(r:Int)(K:Int→Prop):Prop:=match k with
 | .u8=>K (r%256)| .u16=>K (r%65536)| .u32=>K (r%4294967296)| .u64=>K (r%18446744073709551616)
 |k=>K (k.wrap r)
def yJ(b:Bool)(A B:Prop):Prop:=(b=true→A)∧(b=false→B)
def VS(P A:Prop):Prop:=P∧A
def Po(A B:Prop):Prop:=A∨B
def LQ(P:Prop)(A B:Prop):Prop:=P∧A∨B
def EP(g:Prop→Prop)(k:IntKind)(p q r:Int)(K:Int→Prop):Prop:=LQ (g (eF k p→eF k q→eF k r)) (K r) (Mi k r K)
def c1(x:Cx U):Va U:=⟨false,[(1,x)]⟩
def Gd:BinOp→Bool
 | .shl| .shr=>true
 |_=>false
def Ge(g:Prop→Prop)(op:BinOp)(k:IntKind)(p:Int)(k':IntKind)(q:Int)(K:Va U→Prop):Prop:=bif jZ k k'||Gd op then(match op with
 | .add=>EP g k p q (p+q) fun r=>K ⟨false,[(1,.d (.int k) r)]⟩
 | .sub=>EP g k p q (p - q) fun r=>K ⟨false,[(1,.d (.int k) r)]⟩
 | .mul=>EP g k p q (p*q) fun r=>K ⟨false,[(1,.d (.int k) r)]⟩
 | .quo=>VS (g (eF k p→eF k q→0≤p∧0<q)) (K ⟨false,[(1,.d (.int k) (p/q))]⟩)
 | .rem=>VS (g (eF k p→eF k q→0≤p∧0<q)) (K ⟨false,[(1,.d (.int k) (p%q))]⟩)
 | .shl=>VS (g (eF k' q→0≤q)) (EP g k p p (p*2^(min q.toNat k.bits)) fun r=>K ⟨false,[(1,.d (.int k) r)]⟩)
 | .shr=>VS (g (eF k' q→0≤q)) (K ⟨false,[(1,.d (.int k) (p/2^(min q.toNat k.bits)))]⟩)
 | .eql=>K ⟨false,[(1,.d .bool (decide (p=q)))]⟩
 | .neq=>K ⟨false,[(1,.d .bool (decide (¬p=q)))]⟩
 | .lss=>K ⟨false,[(1,.d .bool (decide (p<q)))]⟩
 | .leq=>K ⟨false,[(1,.d .bool (decide (p≤q)))]⟩
 | .gtr=>K ⟨false,[(1,.d .bool (decide (q<p)))]⟩
 | .geq=>K ⟨false,[(1,.d .bool (decide (q≤p)))]⟩
 | .and=>K ⟨false,[(1,.d (.int k) (bits .and k p q))]⟩
 | .or=>K ⟨false,[(1,.d (.int k) (bits .or k p q))]⟩
 | .xor=>K ⟨false,[(1,.d (.int k) (bits .xor k p q))]⟩
 | .andNot=>K ⟨false,[(1,.d (.int k) (bits .andNot k p q))]⟩)else False
def Gf(g:Prop→Prop)(op:BinOp)(p q:List UInt8)(K:Va U→Prop):Prop:=match op with
 | .add=>VS (g (p.length+q.length≤9223372036854775807)) (K ⟨false,[(1,.d .str (p++q))]⟩)
 | .eql=>K ⟨false,[(1,.d .bool (decide (p=q)))]⟩
 | .neq=>K ⟨false,[(1,.d .bool (decide (¬p=q)))]⟩
 | .lss=>K ⟨false,[(1,.d .bool (decide (p<q)))]⟩
 | .leq=>K ⟨false,[(1,.d .bool (decide (p≤q)))]⟩
 | .gtr=>K ⟨false,[(1,.d .bool (decide (q<p)))]⟩
 | .geq=>K ⟨false,[(1,.d .bool (decide (q≤p)))]⟩
 |_=>False
def Gg(op:BinOp)(p q:Bool)(K:Va U→Prop):Prop:=match op with
 | .eql=>K ⟨false,[(1,.d .bool (decide (p=q)))]⟩
 | .neq=>K ⟨false,[(1,.d .bool (decide (¬p=q)))]⟩
 |_=>False
end
end Go.Proofs.YtmpeiadlohbikaaGreatDoor.V
end

section
set_option linter.unusedVariables false
namespace Go.Proofs.YtmpeiadlohbikaaGreatDoor.V
open Go.RowKit
inductive Md where
 |n|d (s:bq)|f1 (a:bq)|f2 (a b:bq)
 |p (fs:List (Nat×Option bq))-- a pointer to our own cells,of which some become data
structure bG(U:cw) where
 md:List Md
 run:List (Va U)→List (aU U)→(AV U→List (aU U)→Prop)→Prop
abbrev jm(U:cw):=List (Nat×bG U)
section
variable {U:cw}
def Gi(v:Va U)(K:Cx U→Prop):Prop:=match v with
 |⟨false,(_,c):: []⟩=>K c
 |_=>False
def jn(p:dv)(R e:En U)(o:Operand)(K:Cx U→Prop):Prop:=lL p R e o fun v=>Gi v K
def iy(H:Hs U)(i:Nat)(x:aU U):(Hs U→Prop)→Prop:=
 List.rec (motive:=fun _=>(Hs U→Prop)→Prop) (fun _=>False) (fun y r ih K=>bif Nat.beq y.1 i then K ((i,x)::r)else ih fun r'=>K (y::r')) H
def uz(H:Hs U)(x:Cx U)(K:(e:bq)→List (TT U.ty e)→Prop):Prop:=match x with
 | .d (.sl e) xs=>bif Nat.blt 0 (aQ U e)then K e xs else False
 | .own i v=>(match aI H i with
  |some (.row v' e xs _)=>bif Nat.beq v v' then K e xs else False
  |some (.frz v' e xs)=>bif Nat.beq v v' then K e xs else False
  |_=>False)
 |_=>False
def sC(H:Hs U)(x:ck U)(K:Hs U→ck U→Prop):Prop:=match x with
 |(1,.own i v)=>(match aI H i with
  |some (.row v' e xs _)=>bif Nat.beq v v' then iy H i (.frz v e xs) fun H=>K H (1,.d (.sl e) xs)else False
  |some (.frz v' e xs)=>bif Nat.beq v v' then K H (1,.d (.sl e) xs)else False
  |_=>False)
 |x=>K H x
def kP(l:List (ck U)):Hs U→(Hs U→List (ck U)→Prop)→Prop:=
 List.rec (motive:=fun _=>Hs U→(Hs U→List (ck U)→Prop)→Prop) (fun H K=>K H []) (fun x _ ih H K=>sC H x fun H y=>ih H fun H r=>K H (y::r)) l
def yK(s:bq)(H:Hs U)(x:Va U)(K:Hs U→TT U.ty s→Prop):Prop:=kP x.l H fun H l=>du 20 s l fun t=>K H t
def ER(T:dO U)(t:Nat)(l:List (ck U))(K:Va U→Prop):Prop:=match aI T t with
 |some ti=>(match uu ti.kd with
  |false=>(match l with
   |(_,.d (.st i) x):: []=>lJ (.d (.st i) x) fun l=>K ⟨false,l⟩
   |l=>K ⟨false,l⟩)
  |true=>K ⟨true,l⟩)
 |none=>False
def sD(T:dO U)(t:Nat)(H:Hs U)(x:Cx U)(K:Va U→Prop):Prop:=match aI T t with
 |some ti=>(match x with
  | .ptr i off=>(match aI H i with
   |some (.cells l _)=>lK l off ti.sz fun l=>ER T t l K
   |_=>False)
  | .pel i v q off=>(match aI H i with
   |some (.row v' e xs _)=>bif Nat.beq v v' then yt U e xs q fun x=>lK [(aQ U e,.d e x)] off ti.sz fun l=>ER T t l K else False
   |some (.frz v' e xs)=>bif Nat.beq v v' then yt U e xs q fun x=>lK [(aQ U e,.d e x)] off ti.sz fun l=>ER T t l K else False
   |_=>False)
  | .pax i off n e q o=>(match aI H i with
   |some (.cells l _)=>lK l off (n*aQ U e) fun l=>du 20 (.arr n e) l fun xs=>yt U e xs q fun x=>lK [(aQ U e,.d e x)] o ti.sz fun l=>ER T t l K
   |_=>False)
  | .pd s x=>bif Nat.beq ti.sz (aQ U s)then ER T t [(aQ U s,.d s x)] K else False
  |_=>False)
 |none=>False
def uA(T:dO U)(t:Nat)(H:Hs U)(x:Cx U)(y:Va U)(K:Hs U→Prop):Prop:=match aI T t with
 |some ti=>(match x with
  | .ptr i off=>(match aI H i with
   |some (.cells l u)=>bif Nat.beq (j1 y.l) ti.sz then qW 40 l off ti.sz y.l fun l=>iy H i (.cells l u) K else False
   |_=>False)
  | .pel i v q off=>kP y.l H fun H yl=>(match aI H i with
   |some (.row v' e xs u)=>bif Nat.beq v v'&&Nat.beq (j1 yl) ti.sz then yt U e xs q fun x=>qW 40 [(aQ U e,.d e x)] off ti.sz yl fun l=>du 20 e l fun z=>iy H i (.row v e (xs.set q.toNat z) u) K else False
   |_=>False)
  | .pax i off n e q o=>kP y.l H fun H yl=>(match aI H i with
   |some (.cells l u)=>bif Nat.beq (j1 yl) ti.sz then lK l off (n*aQ U e) fun la=>du 20 (.arr n e) la fun xs=>yt U e xs q fun x=>qW 40 [(aQ U e,.d e x)] o ti.sz yl fun l'=>du 20 e l' fun z=>qW 40 l off (n*aQ U e) [(n*aQ U e,.d (.arr n e) (List.set (α:=TT U.ty e) xs q.toNat z))] fun l=>iy H i (.cells l u) K else False
   |_=>False)
  |_=>False)
 |none=>False
def pW(H:Hs U)(i v:Nat):Bool:=match aI H i with
 |some (.row v' _ _ _)=>Nat.beq v v'
 |some (.frz v' _ _)=>Nat.beq v v'
 |_=>false
def Gj(T:dO U)(t f:Nat)(H:Hs U)(x:Cx U)(K:Cx U→Prop):Prop:=match aI T t with
 |some ti=>(match d9 ti.fs f with
  |some (off,ft)=>(match x with
   | .ptr i o=>K (.ptr i (o+off))
   | .pel i v q o=>bif pW H i v then K (.pel i v q (o+off))else False
   | .pax i o n e q o'=>K (.pax i o n e q (o'+off))
   | .pd s y=>(match aI T ft with
    |some fi=>lK [(aQ U s,.d s y)] off fi.sz fun l=>(match l with
     |(_,.d s' y'):: []=>bif Nat.beq ti.sz (aQ U s)then K (.pd s' y')else False
     |_=>False)
    |none=>False)
   |_=>False)
  |none=>False)
 |none=>False
def Gk(T:dO U)(t f:Nat)(l:List (ck U))(K:Va U→Prop):Prop:=match aI T t with
 |some ti=>(match d9 ti.fs f with
  |some (off,ft)=>(match aI T ft with
   |some fi=>lK l off fi.sz fun l=>ER T ft l K
   |none=>False)
  |none=>False)
 |none=>False
def Ca(T:dO U)(p:dv)(R e:En U)(fs:List (Nat×Nat))(ps:List (Nat×Operand)):List (ck U)→(List (ck U)→Prop)→Prop:=
 List.rec (motive:=fun _=>List (ck U)→(List (ck U)→Prop)→Prop) (fun l K=>K l) (fun x _ ih l K=>match d9 fs x.1 with
  |some (off,ft)=>(match aI T ft with
   |some fi=>lL p R e x.2 fun y=>bif Nat.beq (j1 y.l) fi.sz then qW 40 l off fi.sz y.l fun l=>ih l K else False
   |none=>False)
  |none=>False) ps
def IE(m el:Nat)(k:Nat):Nat→List (Nat×Nat):=
 Nat.rec (motive:=fun _=>Nat→List (Nat×Nat)) (fun _=> []) (fun _ ih off=>(off,el)::ih (off+m)) k
def Cb(p:dv)(R e:En U)(s:bq)(k:Nat)(ps:List (Nat×Operand)):Nat→Hs U→(Hs U→List (TT U.ty s)→Prop)→Prop:=
 List.rec (motive:=fun _=>Nat→Hs U→(Hs U→List (TT U.ty s)→Prop)→Prop) (fun j H K=>bif Nat.beq j k then K H []else False) (fun x _ ih j H K=>bif Nat.beq x.1 j then lL p R e x.2 fun y=>yK s H y fun H a=>ih (j+1) H fun H r=>K H (a::r)else False) ps
def pickK(b:Bool)(x y:Va U)(K:Va U→Prop):Prop:=match x,y with
 |⟨a,(k,.d s u):: []⟩,⟨a',(_,.d s' w):: []⟩=>bif a==a'&&Nat.beq k (aQ U s)then(match fw U.ty (fun x=>x) s' s w with
  |some w=>K ⟨a,[(k,.d s (bif b then u else w))]⟩
  |none=>False)else False
 |_,_=>False
def Gl(p:dv)(R e:En U)(c a b:Operand)(K:Va U→Prop):Prop:=match c with
 | .tmp s=>jn p R e (.tmp s) fun v=>(match v with
  | .d .bool t=>(match a with
   | .const (.bool true)=>jn ((s,false)::p) R e b fun y=>(match y with
    | .d .bool u=>K ⟨false,[(1,.d .bool (t||u))]⟩
    |_=>False)
   |_=>(match b with
    | .const (.bool false)=>jn ((s,true)::p) R e a fun y=>(match y with
     | .d .bool u=>K ⟨false,[(1,.d .bool (t&&u))]⟩
     |_=>False)
    |_=>lL ((s,true)::p) R e a fun x=>lL ((s,false)::p) R e b fun y=>pickK t x y K))
  |_=>False)
 |_=>False
def yL(T:dO U)(t:Nat)(K:Kd→Prop):Prop:=match aI T t with
 |some ti=>K ti.kd
 |none=>False
def yM:Kd→Bool| .sl _=>true|_=>false
def ox:Kd→Bool| .str=>true|_=>false
def ES(T:dO U)(t:Nat)(K:Nat→TI U→Prop):Prop:=match aI T t with
 |some ti=>(match ti.kd with
  | .sl e=>(match aI T e with|some ei=>K e ei|none=>False)
  |_=>False)
 |none=>False
def nK(neg b:Bool)(K:Va U→Prop):Prop:=match neg with
 |true=>K ⟨false,[(1,.d .bool (!b))]⟩
 |false=>K ⟨false,[(1,.d .bool b)]⟩
def Gm(neg:Bool)(H:Hs U)(x:Cx U)(K:Va U→Prop):Prop:=match x with
 | .nilp| .nils=>K ⟨false,[(1,.d .bool (!neg))]⟩
 | .ptr _ _| .pd _ _| .pax _ _ _ _ _ _=>K ⟨false,[(1,.d .bool neg)]⟩
 | .pel i v _ _=>bif pW H i v then K ⟨false,[(1,.d .bool neg)]⟩else False
 |x=>uz H x fun e xs=> ∀b:Bool,(b=true→xs= [])→nK neg b K
def yN(T:dO U)(t:Nat)(x y:Cx U):Bool:=match x,y with
 | .nilp,.nilp| .ptr _ _,.nilp| .pd _ _,.nilp| .pel _ _ _ _,.nilp| .pax _ _ _ _ _ _,.nilp=>(match aI T t with|some ti=>(match ti.kd with| .ptr _=>true|_=>false)|none=>false)
 | .nils,.nils| .own _ _,.nils| .d (.sl _) _,.nils=>(match aI T t with|some ti=>(match ti.kd with| .sl _=>true|_=>false)|none=>false)
 |_,_=>false
def Mj(T:dO U)(t:Nat):Bool:=match aI T t with
 |some ti=>(match ti.kd with
  | .ptr e=>(match aI T e with
   |some ei=>Nat.blt 0 ei.sz
   |none=>false)
  |_=>false)
 |none=>false
def Gn(g:Prop→Prop)(T:dO U)(op:BinOp)(t:Nat)(H:Hs U)(x y:Cx U)(K:Va U→Prop):Prop:=match x,y with
 | .d (.int k) p,.d (.int k') q=>Ge g op k p k' q K
 | .d .str p,.d .str q=>Gf g op p q K
 | .d .bool p,.d .bool q=>yL T t fun k=>(match k with| .bool=>Gg op p q K|_=>False)
 | .ptr i a,.ptr j b=>bif Nat.beq i j&&Mj T t then(match op with
  | .eql=>nK false (Nat.beq a b) K
  | .neq=>nK true (Nat.beq a b) K
  |_=>False)else False
 |x,y=>bif yN T t x y then(match op with
  | .eql=>Gm false H x K
  | .neq=>Gm true H x K
  |_=>False)else False
def OS(U:cw)(s:bq):TT U.ty s→TT U.ty s→(Bool→Prop)→Prop:=match s with
 | .st i=>fun a b K=>(U.rd i).eqK a b K
 | .arr _ (.int _)=>fun(a b:List Int) K=>K (decide (a=b))
 | .arr _ .bool=>fun(a b:List Bool) K=>K (decide (a=b))
 | .arr _ .str=>fun(a b:List (List UInt8)) K=>K (decide (a=b))
 |_=>fun _ _ _=>False
def Gp(g:Prop→Prop)(T:dO U)(op:BinOp)(t:Nat)(H:Hs U)(x y:Va U)(K:Va U→Prop):Prop:=match x,y with
 |⟨false,(_,a):: []⟩,⟨false,(_,b):: []⟩=>Gn g T op t H a b K
 |⟨true,l⟩,⟨true,l'⟩=>(match aI T t with
  |some ti=>(match ti.sh,ti.cmp with
   |some s,true=>du 20 s l fun a=>du 20 s l' fun b=>OS U s a b fun r=>(match op with
    | .eql=>K ⟨false,[(1,.d .bool r)]⟩
    | .neq=>K ⟨false,[(1,.d .bool (!r))]⟩
    |_=>False)
   |_,_=>False)
  |none=>False)
 |_,_=>False
def Gq:Kd→Bool| .mp _ _=>true|_=>false
def yO(H:Hs U)(x:Cx U)(K:(d:KD U)→List (TT U.ty d.k×TT U.ty d.v)→Prop):Prop:=match x with
 | .mp i=>(match aI H i with
  |some (.map d l)=>K d l
  |some (.mapr d l _ _ _)=>K d l
  |_=>False)
 |_=>False
def xz(T:dO U)(t:Nat)(d:KD U):Bool:=match aI T t with
 |some ti=>(match ti.kd with
  | .mp k v=>Nat.beq k d.kt&&Nat.beq v d.vt
  |_=>false)
 |none=>false
def sE(s:bq)(x:TT U.ty s):Va U:=⟨e9 s,[(aQ U s,.d s x)]⟩
def I2(ok:Bool)(d:KD U)(r:Option (TT U.ty d.v))(K:AV U→Prop):Prop:=match ok with
 |true=>K (.tup [sE d.v (r.getD d.zero),⟨false,[(1,.d .bool r.isSome)]⟩])
 |false=>K (.v (sE d.v (r.getD d.zero)))
def Gr(T:dO U)(t:Nat)(H:Hs U)(x:Cx U)(K:Int→Prop):Prop:=match x with
 | .d .str s=>yL T t fun k=>bif ox k then K (s.length:Int)else False
 | .nils=>yL T t fun k=>bif yM k then K 0 else False
 | .mp i=>yL T t fun k=>bif Gq k then yO H (.mp i) fun _ l=>VS ((l.length:Int)≤9223372036854775807) (K (l.length:Int))else False
 |x=>yL T t fun k=>bif yM k then uz H x fun _ xs=>K (xs.length:Int)else False
def Gs(g:Prop→Prop)(T:dO U)(t:Nat)(x:Cx U)(q:Int)(K:Va U→Prop):Prop:=match x with
 | .d .str s=>yL T t fun k=>bif ox k then VS (g (0≤q∧q<s.length)) (K ⟨false,[(1,.d (.int .u8) ((ix s q).toNat:Int))]⟩)else False
 |_=>False
def I3(g:Prop→Prop)(T:dO U)(t:Nat)(H:Hs U)(x:Cx U)(q:Int)(K:Cx U→Prop):Prop:=ES T t fun _ ei=>match x with
 | .d (.sl e) xs=>bif Nat.beq ei.sz (aQ U e)&&Nat.blt 0 (aQ U e)then VS (g (0≤q∧q<xs.length)) (yt U e xs q fun y=>K (.pd e y))else False
 | .own i v=>(match aI H i with
  |some (.row v' e xs _)=>bif Nat.beq v v'&&Nat.beq ei.sz (aQ U e)then VS (g (0≤q∧q<xs.length)) (K (.pel i v q 0))else False
  |some (.frz v' e xs)=>bif Nat.beq v v'&&Nat.beq ei.sz (aQ U e)then VS (g (0≤q∧q<xs.length)) (yt U e xs q fun y=>K (.pd e y))else False
  |_=>False)
 |_=>False
def Gt(g:Prop→Prop)(T:dO U)(t:Nat)(l:List (ck U))(q:Int)(K:Va U→Prop):Prop:=match aI T t with
 |some ti=>(match ti.kd,ti.sh with
  | .arr n e,some (.arr m s)=>(match aI T e with
   |some ei=>bif Nat.beq n m&&Nat.beq ei.sz 1&&Nat.beq (aQ U s) 1&&!uu ei.kd then du 20 (.arr m s) l fun xs=>VS (g (0≤q∧q<n)) (yt U s xs q fun x=>K ⟨false,[(1,.d s x)]⟩)else False
   |none=>False)
  |_,_=>False)
 |none=>False
def Ml(K:Cx U→Prop)(i off sz:Nat)(q:Int)(n:Nat):Prop:=match n with
 |2=>yJ (decide (q=0)) (K (.ptr i off)) (K (.ptr i (off+sz)))
 |3=>yJ (decide (q=0)) (K (.ptr i off)) (yJ (decide (q=1)) (K (.ptr i (off+sz))) (K (.ptr i (off+2*sz))))
 |_=>False
def Gu(g:Prop→Prop)(T:dO U)(n e:Nat)(x:Cx U)(y:Operand)(q:Int)(K:Cx U→Prop):Prop:=match aI T e with
 |some ei=>(match ei.sh with
  |some s=>bif Nat.beq ei.sz (aQ U s)then(match x with
   | .ptr i off=>(match y with
    | .const (.int _ (.ofNat c))=>bif Nat.blt c n then K (.ptr i (off+c*aQ U s))else False
    |_=>Po (VS (g (0≤q∧q<n)) (K (.pax i off n s q 0))) (VS (g (0≤q∧q<n)) (Ml K i off (aQ U s) q n)))
   | .pd (.arr m s') xs=>bif Nat.beq n m&&Nat.beq (aQ U s') (aQ U s)then VS (g (0≤q∧q<n)) (yt U s' xs q fun x=>K (.pd s' x))else False
   |_=>False)else False
  |none=>False)
 |none=>False
def Cc(T:dO U)(t:Nat):Option (Nat×Nat):=match aI T t with
 |some ti=>(match ti.kd with
  | .arr n e=>some (n,e)
  |_=>none)
 |none=>none
def pX(p:dv)(R e:En U)(o:Option Operand)(d:Int)(K:Int→Prop):Prop:=match o with
 |none=>K d
 |some o=>jn p R e o fun v=>(match v with
  | .d (.int _) q=>K q
  |_=>False)
def Cd(g:Prop→Prop)(T:dO U)(t:Nat)(p:dv)(R e:En U)(x:Cx U)(lo hi:Option Operand)(K:Cx U→Prop):Prop:=match x with
 | .d .str s=>yL T t fun k=>bif ox k then pX p R e lo 0 fun a=>pX p R e hi (s.length:Int) fun b=>VS (g (0≤a∧a≤b∧b≤s.length)) (match lo,hi with
  |none,_=>K (.d .str (s.take b.toNat))
  |_,none=>K (.d .str (s.drop a.toNat))
  |_,_=>K (.d .str ((s.take b.toNat).drop a.toNat)))else False
 | .d (.sl s) xs=>ES T t fun _ ei=>bif Nat.beq ei.sz (aQ U s)then pX p R e lo 0 fun a=>pX p R e hi (xs.length:Int) fun b=>VS (g (0≤a∧a≤b∧b≤xs.length)) (match lo,hi with
  |none,_=>K (.d (.sl s) (xs.take b.toNat))
  |_,none=>K (.d (.sl s) (xs.drop a.toNat))
  |_,_=>K (.d (.sl s) ((xs.take b.toNat).drop a.toNat)))else False
 |_=>False
def ET(H:Hs U):Cx U→Bool
 | .ptr _ _| .pd _ _| .pax _ _ _ _ _ _=>true
 | .pel i v _ _=>pW H i v
 |_=>false
def Mm(l:List (Va U)):(List Nat→Prop)→Prop:=
 List.rec (motive:=fun _=>(List Nat→Prop)→Prop) (fun K=>K []) (fun x _ ih K=>match x with
  |⟨false,(_,.ptr j 0):: []⟩=>ih fun r=>K (j::r)
  |_=>False) l
def Mn(p:dv)(R e:En U)(x:Operand)(K:AV U→Prop):Prop:=match x with
 | .tmp t=>(match aI R t with
  |some (.gd q y)=>bif iE q p then K (.v y)else False
  |some _=>False
  |none=>(match aI e t with
   |some (.v y)=>K (.v y)
   |some (.tup l)=>K (.tup l)
   |_=>False))
 |x=>lL p R e x fun v=>K (.v v)
def kU(g:Prop→Prop)(T:dO U)(p:dv)(o:Oper)(R e:En U)(H:Hs U)(K:AV U→Prop):Prop:=match o.op with
 | .move x=>Mn p R e x K
 | .assign x=>lL p R e x fun v=>K (.v v)
 | .pick c a b=>Gl p R e c a b fun v=>K (.v v)
 | .load t x=>jn p R e x fun c=>sD T t H c fun v=>K (.v v)
 | .nilCheck x=>jn p R e x fun c=>bif ET H c then K (.v ⟨false,[(1,c)]⟩)else False
 | .binOp op t x y _=>lL p R e x fun v=>lL p R e y fun w=>Gp g T op t H v w fun v=>K (.v v)
 | .unOp op _ x=>jn p R e x fun c=>(match op,c with
  | .not,.d .bool b=>K (.v ⟨false,[(1,.d .bool (!b))]⟩)
  | .neg,.d (.int k) q=>EP g k q q (Neg.neg (α:=Int) q) fun r=>K (.v ⟨false,[(1,.d (.int k) r)]⟩)
  |_,_=>False)
 | .fieldAddr t x f=>jn p R e x fun c=>Gj T t f H c fun c=>K (.v ⟨false,[(1,c)]⟩)
 | .field t x f=>lL p R e x fun v=>(match v.ag with
  |true=>Gk T t f v.l fun v=>K (.v v)
  |false=>False)
 | .indexAddr t x y=>jn p R e x fun c=>jn p R e y fun d=>(match d with
  | .d (.int _) q=>(match Cc T t with
   |some (n,el)=>Gu g T n el c y q fun c=>K (.v ⟨false,[(1,c)]⟩)
   |none=>I3 g T t H c q fun c=>K (.v ⟨false,[(1,c)]⟩))
  |_=>False)
 | .index t x y=>lL p R e x fun v=>jn p R e y fun d=>(match d with
  | .d (.int _) q=>(match v.ag with
   |true=>Gt g T t v.l q fun v=>K (.v v)
   |false=>Gi v fun c=>Gs g T t c q fun v=>K (.v v))
  |_=>False)
 | .slice t x lo hi none=>jn p R e x fun c=>Cd g T t p R e c lo hi fun c=>K (.v ⟨false,[(1,c)]⟩)
 | .lookup t m kx ok=>jn p R e m fun c=>lL p R e kx fun kv=>yO H c fun d l=>bif xz T t d&&(kv.ag==e9 d.k)then du 20 d.k kv.l fun k=>I2 ok d (@bj _ _ d.dec l k) K else False
 | .entry x=>jn p R e x fun c=>(match c with
  | .ptr j 0=>(match aI H j with
   |some (.it i gh)=>(match aI H i with
    |some (.mapr d l left (q:: []) gh')=>VS (gh=gh') (K (.tup [sE d.k q.1,sE d.v q.2]))
    |_=>False)
   |_=>False)
  |_=>False)
 | .extract x i=>(match x with
  | .tmp t=>(match aI R t with
   |some _=>False
   |none=>(match aI e t with
    |some (.tup l)=>(match d9 l i with|some v=>K (.v v)|none=>False)
    |_=>False))
  |_=>False)
 | .build t ps=>(match aI T t with
  |some ti=>(match ti.kd with
   | .st=>Ca T p R e ti.fs ps.toList ti.zero fun l=>K (.v ⟨true,l⟩)
   | .arr k el=>(match aI T el with
    |some ei=>Ca T p R e (IE ei.sz el k 0) ps.toList ti.zero fun l=>K (.v ⟨true,l⟩)
    |none=>False)
   |_=>False)
  |none=>False)
 | .makeFunc (.func f) first caps=>(match first.toList with
  | []=>qX p R e caps.toList fun xs=>Mm xs fun js=>K (.v ⟨false,[(1,.clo f js)]⟩)
  |_=>False)
 | .convert s d x=>jn p R e x fun c=>yL T s fun _=>yL T d fun kd=>(match c,kd with
  | .d (.int k) q,.int k'=>LQ (g (eF k q→eF k' q)) (K (.v ⟨false,[(1,.d (.int k') q)]⟩)) (Mi k' q fun r=>K (.v ⟨false,[(1,.d (.int k') r)]⟩))
  |_,_=>False)
 | .call c=>(match c.callee,c.args.toList,c.argTypes.toList with
  | .builtin .len,x:: [],t:: []=>jn p R e x fun a=>Gr T t H a fun r=>K (.v ⟨false,[(1,.d (.int .i64) r)]⟩)
  | .builtin .max,x::y:: [],_::_:: []=>jn p R e x fun a=>jn p R e y fun b=>(match a,b with
   | .d (.int k) a,.d (.int k') b=>bif jZ k k' then K (.v ⟨false,[(1,.d (.int k) (max (α:=Int) a b))]⟩)else False
   |_,_=>False)
  | .builtin .min,x::y:: [],_::_:: []=>jn p R e x fun a=>jn p R e y fun b=>(match a,b with
   | .d (.int k) a,.d (.int k') b=>bif jZ k k' then K (.v ⟨false,[(1,.d (.int k) (min (α:=Int) a b))]⟩)else False
   |_,_=>False)
  |_,_,_=>False)
 |_=>False
end
end Go.Proofs.YtmpeiadlohbikaaGreatDoor.V
end

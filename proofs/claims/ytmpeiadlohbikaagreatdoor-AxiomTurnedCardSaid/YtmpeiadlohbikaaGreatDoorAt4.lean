/- What abstract values mean in memory; the interpreter's looks at pieces are right. -/
import Derived.Test.YtmpeiadlohbikaaGreatDoorAt3
import Derived.Test.YtmpeiadlohbikaaGreatDoorAt0
section
set_option linter.unusedVariables false
namespace Go.Proofs.YtmpeiadlohbikaaGreatDoor.V
open Go.RowKit
section
variable {U:bD}
def gx(i:Nat):List Nat→Bool
 | []=>false
 |j::r=>Nat.beq j i||gx i r
def OR(i:Nat)(L:List Nat):List Nat:=bif gx i L then L else L++ [i]
def SR(H:Hs U)(x:Cx U):Option Nat:=match x with
 | .own i _=>(match aD H i with|some (.row _ _ _ _)=>some i|some (.ext _ _ _ none)=>some i|_=>none)
 | .ptr i _=>some i
 | .pel i _ _ _=>some i
 | .pax i _ _ _ _ _=>some i
 | .mp i=>some i
 | .clo _ (j:: [])=>some j
 |_=>none
def zo(H:Hs U):List (cd U)→List Nat→List Nat
 | [],L=>L
 |(_,x)::r,L=>match SR H x with
  |some i=>zo H r (OR i L)
  |none=>zo H r L
def OS(H:Hs U)(i:Nat)(L:List Nat):List Nat:=match aD H i with
 |some (.cells l _)=>zo H l L
 |some (.clo _ l)=>zo H l L
 |_=>L
def vq(H:Hs U):Nat→Nat→List Nat→List Nat
 |0,_,L=>L
 |n+1,j,L=>match dT L j with
  |some i=>vq H n (j+1) (OS H i L)
  |none=>L
def x7(H:Hs U):List (Va U)→List Nat→List Nat
 | [],L=>L
 |x::r,L=>x7 H r (zo H x.l L)
def rU(L:List Nat)(i:Nat):Nat→(Nat→Prop)→Prop:=
 List.rec (motive:=fun _=>Nat→(Nat→Prop)→Prop) (fun _ _=>False) (fun j _ ih c K=>bif Nat.beq j i then K c else ih (c+1) K) L
def zp(L:List Nat):(List Nat→Prop)→Prop:=
 List.rec (motive:=fun _=>(List Nat→Prop)→Prop) (fun K=>K []) (fun x _ ih K=>ih fun r=>K (x::r)) L
def zV(z:Bool)(v:Nat)(K:Nat→Prop):Prop:=match z with
 |true=>K 0
 |false=>K v
def vr(z:Bool)(H:Hs U)(L:List Nat)(x:Cx U)(K:Cx U→Prop):Prop:=match x with
 | .own i v=>(match aD H i with
  |some (.row v' _ _ _)=>bif Nat.beq v v' then rU L i 0 fun j=>zV z v fun v=>K (.own j v)else K .un
  |some (.frz v' e xs)=>bif Nat.beq v v' then K (.d (.sl e) xs)else K .un
  |some (.ext v' _ _ none)=>bif Nat.beq v v' then rU L i 0 fun j=>zV z v fun v=>K (.own j v)else K .un
  |_=>K .un)
 | .ptr i o=>rU L i 0 fun j=>K (.ptr j o)
 | .pel i v q o=>(match aD H i with
  |some (.row v' _ _ _)=>bif Nat.beq v v' then rU L i 0 fun j=>zV z v fun v=>K (.pel j v q o)else K .un
  |_=>K .un)
 | .pax _ _ _ _ _ _=>K .un
 | .clo f (i:: [])=>rU L i 0 fun j=>K (.clo f [j])
 | .clo _ _=>K .un
 | .mp i=>rU L i 0 fun j=>K (.mp j)
 |x=>K x
def oE(z:Bool)(H:Hs U)(L:List Nat)(l:List (cd U)):(List (cd U)→Prop)→Prop:=
 List.rec (motive:=fun _=>(List (cd U)→Prop)→Prop) (fun K=>K []) (fun x _ ih K=>vr z H L x.2 fun y=>ih fun r=>K ((x.1,y)::r)) l
def HT(z:Bool)(H:Hs U)(L:List Nat)(x:aH U)(K:aH U→Prop):Prop:=match x with
 | .cells l t=>oE z H L l fun l=>K (.cells l t)
 | .row v e xs t=>zV z v fun v=>K (.row v e xs t)
 | .frz _ _ _=>K .dead
 | .clo _ _=>K .dead
 | .map d l=>K (.map d l)
 | .mapr d l _ _ _=>K (.map d l)
 | .it _ _=>K .dead
 | .ext v d xs op=>(match op with
  |none=>zV z v fun v=>K (.ext v d xs none)
  |some _=>K .dead)
 | .hid _ _ _=>K .dead
 | .dead=>K .dead
def qV(z:Bool)(H:Hs U)(L:List Nat)(M:List Nat):(List (aH U)→Prop)→Prop:=
 List.rec (motive:=fun _=>(List (aH U)→Prop)→Prop) (fun K=>K []) (fun i _ ih K=>match aD H i with
  |some x=>HT z H L x fun y=>ih fun r=>K (y::r)
  |none=>False) M
def tO(z:Bool)(H:Hs U)(L:List Nat)(l:List (Va U)):(List (Va U)→Prop)→Prop:=
 List.rec (motive:=fun _=>(List (Va U)→Prop)→Prop) (fun K=>K []) (fun x _ ih K=>oE z H L x.l fun l=>ih fun r=>K (⟨x.ag,l⟩::r)) l
def C6(fs:List (Nat×Option aZ)):Hs U→List (cd U)→(Hs U→List (cd U)→Prop)→Prop:=
 List.rec (motive:=fun _=>Hs U→List (cd U)→(Hs U→List (cd U)→Prop)→Prop) (fun H l K=>K H l) (fun x _ ih H l K=>tK 40 l x.1 fun l1=>gQ 40 l x.1 fun l2=>match x.2 with
  |some s=>bif Nat.beq x.1 (aG U s)then lF l1 H fun H l1=>cG 20 s l1 fun u=>ih H l2 fun H r=>K H ((x.1,.d s u)::r)else False
  |none=>ih H l2 fun H r=>qF l1 r fun r=>K H r) fs
def x8(fs:List (Nat×Option aZ))(j:Nat)(H:Hs U)(K:Hs U→Prop):Prop:=match aD H j with
 |some (.cells l t)=>C6 fs H l fun H l=>fh H j (.cells l t) K
 |_=>False
def Oh(em:List (Nat×List (Nat×Option aZ))):Hs U→(Hs U→Prop)→Prop:=
 List.rec (motive:=fun _=>Hs U→(Hs U→Prop)→Prop) (fun H K=>K H) (fun x _ ih H K=>x8 x.2 x.1 H fun H=>ih H K) em
def Kr(md:List Md):List (Va U)→Hs U→(Hs U→Prop)→Prop:=
 List.rec (motive:=fun _=>List (Va U)→Hs U→(Hs U→Prop)→Prop) (fun _ H K=>K H) (fun m _ ih l H K=>match l with
  | []=>K H
  |x::r=>(match m with
   | .p fs=>(match x with
    |⟨false,(_,.ptr j 0):: []⟩=>x8 fs j H fun H=>ih r H K
    |⟨false,(_,.nilp):: []⟩=>ih r H K
    |_=>False)
   |_=>ih r H K)) md
def Gb(md:List Md):List (Va U)→Hs U→(Hs U→List (Va U)→Prop)→Prop:=
 List.rec (motive:=fun _=>List (Va U)→Hs U→(Hs U→List (Va U)→Prop)→Prop) (fun l H K=>K H l) (fun m _ ih l H K=>match l with
  | []=>K H []
  |x::r=>(match m with
   | .d s=>zj s H x fun H t=>ih r H fun H r=>K H (⟨x.ag,[(aG U s,.d s t)]⟩::r)
   |_=>ih r H fun H r=>K H (x::r))) md
def zq(T:cW U)(js:List Nat):Hs U→(Hs U→List (Va U)→Prop)→Prop:=
 List.rec (motive:=fun _=>Hs U→(Hs U→List (Va U)→Prop)→Prop) (fun H K=>K H []) (fun j _ ih H K=>match aD H j with
  |some (.cells l t)=>(match aD T t with
   |some ti=>(match ti.sh with
    |some s=>lF l H fun H l=>cG 20 s l fun x=>ih H fun H r=>K H (⟨false,[(1,.pd s x)]⟩::r)
    |none=>False)
   |none=>False)
  |_=>False) js
def zr(c:aW U)(caps:List (Va U))(a:aZ)(g:TT U.ty a→Bool):Prop:= ∀t:TT U.ty a,c.run (⟨eK a,[(aG U a,.d a t)]⟩::caps) [] fun r es=>r= .v ⟨false,[(1,.d .bool (g t))]⟩∧es= []
def zt(c:aW U)(caps:List (Va U))(a b:aZ)(g:TT U.ty a→TT U.ty b→Int):Prop:= ∀(t:TT U.ty a) (t':TT U.ty b),c.run (⟨eK a,[(aG U a,.d a t)]⟩::⟨eK b,[(aG U b,.d b t')]⟩::caps) [] fun r es=>r= .v ⟨false,[(1,.d (.int .i64) (g t t'))]⟩∧es= []
def oF(G:c6 U)(f:FuncId)(K:aW U→Prop):Prop:=match aD G f with
 |some c=>K c
 |none=>False
def C7(T:cW U)(G:c6 U)(a:aZ)(x:Va U)(H:Hs U)(K:Hs U→(TT U.ty a→Bool)→List Nat→Prop):Prop:=match x with
 |⟨false,(_,.fn f):: []⟩=>oF G f fun c=> ∃g,zr c [] a g∧K H g []
 |⟨false,(_,.clo f js):: []⟩=>zq T js H fun H caps=>oF G f fun c=> ∃g,zr c caps a g∧K H g js
 |⟨false,(_,.f1 a' g):: []⟩=>(match dZ U.ty (fun x=>x→Bool) a' a g with
  |some g=>K H g []
  |none=>False)
 |_=>False
def C8(T:cW U)(G:c6 U)(a b:aZ)(x:Va U)(H:Hs U)(K:Hs U→(TT U.ty a→TT U.ty b→Int)→List Nat→Prop):Prop:=match x with
 |⟨false,(_,.fn f):: []⟩=>oF G f fun c=> ∃g,zt c [] a b g∧K H g []
 |⟨false,(_,.clo f js):: []⟩=>zq T js H fun H caps=>oF G f fun c=> ∃g,zt c caps a b g∧K H g js
 |⟨false,(_,.f2 a' b' g):: []⟩=>(match dZ U.ty (fun x=>x→TT U.ty b'→Int) a' a g with
  |some g=>(match dZ U.ty (fun y=>TT U.ty a→y→Int) b' b g with
   |some g=>K H g []
   |none=>False)
  |none=>False)
 |_=>False
def HU(T:cW U)(G:c6 U)(md:List Md):List (Va U)→Hs U→(Hs U→List (Va U)→List Nat→Prop)→Prop:=
 List.rec (motive:=fun _=>List (Va U)→Hs U→(Hs U→List (Va U)→List Nat→Prop)→Prop) (fun l H K=>K H l []) (fun m _ ih l H K=>match l with
  | []=>K H [] []
  |x::r=>(match m with
   | .d s=>zj s H x fun H t=>ih r H fun H r Z=>K H (⟨x.ag,[(aG U s,.d s t)]⟩::r) Z
   | .f1 a=>C7 T G a x H fun H g js=>ih r H fun H r Z=>K H (⟨false,[(1,.f1 a g)]⟩::r) (js++Z)
   | .f2 a b=>C8 T G a b x H fun H g js=>ih r H fun H r Z=>K H (⟨false,[(1,.f2 a b g)]⟩::r) (js++Z)
   |_=>ih r H fun H r Z=>K H (x::r) Z)) md
def zu(L:List Nat):List Nat→Bool
 | []=>true
 |z::Z=>bif gx z L then false else zu L Z
def C9(es:List (aH U)):List Nat→Nat→(List Nat→Nat→Prop)→Prop:=
 List.rec (motive:=fun _=>List Nat→Nat→(List Nat→Nat→Prop)→Prop) (fun _ n K=>K [] n) (fun _ _ ih L n K=>match L with
  |i::L=>ih L n fun l n=>K (i::l) n
  | []=>ih [] (n+1) fun l n'=>K (n::l) n') es
def rV(H:Hs U)(i v:Nat)(K:Nat→Prop):Prop:=match aD H i with
 |some (.row v0 _ _ _)=>K (v0+v)
 |some (.ext v0 _ _ _)=>K (v0+v)
 |_=>K v
def qW(H:Hs U)(L:List Nat)(x:Cx U)(K:Cx U→Prop):Prop:=match x with
 | .own j v=>(match dT L j with
  |some i=>rV H i v fun v=>K (.own i v)
  |none=>K .un)
 | .ptr j o=>(match dT L j with
  |some i=>K (.ptr i o)
  |none=>K .un)
 | .pel j v q o=>K .un
 | .pax _ _ _ _ _ _=>K .un
 | .clo f (j:: [])=>(match dT L j with
  |some i=>K (.clo f [i])
  |none=>K .un)
 | .clo _ _=>K .un
 | .f1 _ _=>K .un
 | .f2 _ _ _=>K .un
 | .mp j=>(match dT L j with
  |some i=>K (.mp i)
  |none=>K .un)
 |x=>K x
def og(H:Hs U)(L:List Nat)(l:List (cd U)):(List (cd U)→Prop)→Prop:=
 List.rec (motive:=fun _=>(List (cd U)→Prop)→Prop) (fun K=>K []) (fun x _ ih K=>qW H L x.2 fun y=>ih fun r=>K ((x.1,y)::r)) l
def zw(H:Hs U)(L:List Nat)(i:Nat)(x:aH U)(K:aH U→Prop):Prop:=match x with
 | .cells l t=>og H L l fun l=>K (.cells l t)
 | .row v e xs t=>rV H i v fun v=>K (.row v e xs t)
 | .frz v e xs=>rV H i v fun v=>K (.frz v e xs)
 | .clo _ _=>K .dead
 | .map d l=>K (.map d l)
 | .mapr _ _ _ _ _=>K .dead
 | .it _ _=>K .dead
 | .ext v d xs op=>(match op with
  |none=>rV H i v fun v=>K (.ext v d xs none)
  |some _=>K .dead)
 | .hid _ _ _=>K .dead
 | .dead=>K .dead
def rW(H:Hs U)(L:List Nat)(l:List (Va U)):(List (Va U)→Prop)→Prop:=
 List.rec (motive:=fun _=>(List (Va U)→Prop)→Prop) (fun K=>K []) (fun x _ ih K=>og H L x.l fun l=>ih fun r=>K (⟨x.ag,l⟩::r)) l
def Gc(H:Hs U)(L:List Nat)(x:AV U)(K:AV U→Prop):Prop:=match x with
 | .v x=>og H L x.l fun l=>K (.v ⟨x.ag,l⟩)
 | .tup l=>rW H L l fun l=>K (.tup l)
 | .pan z=>K (.pan z)
 |_=>K .un
def Da(H:Hs U)(i:Nat)(x:aH U)(K:Hs U→Prop):Prop:=match aD H i with
 |some _=>fh H i x K
 |none=>K ((i,x)::H)
def zx(H0:Hs U)(L:List Nat)(M:List Nat):List (aH U)→Hs U→(Hs U→Prop)→Prop:=
 List.rec (motive:=fun _=>List (aH U)→Hs U→(Hs U→Prop)→Prop) (fun _ H K=>K H) (fun i _ ih es H K=>match es with
  |x::r=>zw H0 L i x fun y=>Da H i y fun H=>ih r H K
  | []=>False) M
def nB:List Nat→Bool
 | []=>true
 |i::r=>bif gx i r then false else nB r
def x9(T:cW U)(G:c6 U)(c:aW U)(xs:List (Va U))(n:Nat)(H:Hs U)(K:AV U→Nat→Hs U→Prop):Prop:=
 Kr c.md xs H fun H=>HU T G c.md xs H fun H xs Z=>zp (vq H 30 0 (x7 H xs [])) fun L=>bif nB L&&zu L Z then tO true H L xs fun ys=>qV true H L L fun es=>c.run ys es fun r es=>C9 es L n fun L2 n2=>Gc H L2 r fun r=>zx H L2 L2 es H fun H=>K r n2 H else False
def Gd(T:cW U)(G:c6 U)(f:FuncId)(xs:List (Va U))(n:Nat)(H:Hs U)(K:AV U→Nat→Hs U→Prop):Prop:=match aD G f with
 |some c=>x9 T G c xs n H K
 |none=>False
def HV(s:aZ)(H:Hs U)(y:Cx U)(K:List (TT U.ty s)→Prop):Prop:=match y with
 | .nils=>K []
 |y=>vn H y fun e ys=>(match dZ U.ty List e s ys with
  |some ys=>K ys
  |none=>False)
def Ks(U:bD)(s:aZ)(ei:TI U):Bool:=Nat.beq ei.sz (aG U s)&&Nat.blt 0 (aG U s)&&Nat.blt 0 ei.by_
def KU(T:cW U)(t:Nat)(H:Hs U)(n:Nat)(x y:Cx U)(K:AV U→Nat→Hs U→Prop):Prop:=CJ T t fun el ei=>match ei.sh with
 |some s=>bif Ks U s ei then HV s H y fun ys=>(match x with
  | .nils=>VS (ys.length*ei.by_≤140737488355328) (K (.v ⟨false,[(1,.own n 0)]⟩) (n+1) ((n,.row 0 s ys el)::H))
  | .own i v=>(match aD H i with
   |some (.row v' e' xs u)=>bif Nat.beq v v'&&Nat.beq u el then(match dZ U.ty List e' s xs with
    |some xs=>VS ((xs.length+ys.length)*ei.by_≤140737488355328) (fh H i (.row (v+1) s (xs++ys) u) fun H=>K (.v ⟨false,[(1,.own i (v+1))]⟩) n H)
    |none=>False)else False
   |_=>False)
  |_=>False)else False
 |none=>False
def KV(T:cW U)(t:Nat)(H:Hs U)(n:Nat)(q r:Int)(K:AV U→Nat→Hs U→Prop):Prop:=CJ T t fun el ei=>match ei.sh with
 |some s=>bif Ks U s ei then cG 20 s ei.zero fun z=>VS (0≤q∧q≤r∧r≤281474976710656∧ei.by_*r.toNat≤281474976710656) (K (.v ⟨false,[(1,.own n 0)]⟩) (n+1) ((n,.row 0 s (List.replicate q.toNat z) el)::H))else False
 |none=>False
def OT(c:Cx U)(xs:List (Va U))(H:Hs U)(K:AV U→Hs U→Prop):Prop:=match c,xs with
 | .f1 a g,x:: []=>bif x.ag==eK a then zj a H x fun H t=>K (.v ⟨false,[(1,.d .bool (g t))]⟩) H else False
 | .f2 a b g,x::y:: []=>bif (x.ag==eK a)&&(y.ag==eK b)then zj a H x fun H t=>zj b H y fun H t'=>K (.v ⟨false,[(1,.d (.int .i64) (g t t'))]⟩) H else False
 |_,_=>False
def RZ(c:Cx U)(xs:List (Va U))(K:Va U→Prop):Prop:=match c,xs with
 | .f1 a g,x:: []=>bif x.ag==eK a then cG 20 a x.l fun t=>K ⟨false,[(1,.d .bool (g t))]⟩else False
 | .f2 a b g,x::y:: []=>bif (x.ag==eK a)&&(y.ag==eK b)then cG 20 a x.l fun t=>cG 20 b y.l fun t'=>K ⟨false,[(1,.d (.int .i64) (g t t'))]⟩else False
 |_,_=>False
def HW(T:cW U)(t:Nat)(H:Hs U)(c:Cx U)(kv xv:Va U)(K:Hs U→Prop):Prop:=match c with
 | .mp i=>(match aD H i with
  |some (.map d l)=>bif x6 T t d&&((kv.ag==eK d.k)&&(xv.ag==eK d.v))then cG 20 d.k kv.l fun k=>zj d.v H xv fun H y=>fh H i (.map d (@cJ _ _ d.dec l k y)) K else False
  |_=>False)
 |_=>False
def HX(T:cW U)(t:Nat)(H:Hs U)(c:Cx U)(kv:Va U)(K:Hs U→Prop):Prop:=match c with
 | .mp i=>(match aD H i with
  |some (.map d l)=>bif x6 T t d&&(kv.ag==eK d.k)then cG 20 d.k kv.l fun k=>fh H i (.map d (@gP _ _ d.dec l k)) K else False
  |some (.mapr d l left _ gh)=>bif x6 T t d&&(kv.ag==eK d.k)then cG 20 d.k kv.l fun k=>fh H i (.mapr d (@gP _ _ d.dec l k) (@gP _ _ d.dec left k) [] gh) K else False
  |_=>False)
 |_=>False
def HY(T:cW U)(t:Nat)(H:Hs U)(n:Nat)(c:Cx U)(K:Hs U→Prop):Prop:=match c with
 | .mp i=>(match aD H i with
  |some (.map d l)=>bif x6 T t d then ∀gh,fh H i (.mapr d l l [] gh) fun H=>K ((n,.it i gh)::H)else False
  |_=>False)
 |_=>False
def KW{α:Type}(left:List α)(A:Prop)(B:List α→α→List α→Prop):Prop:=(left= []→A)∧ ∀a p b,left=a++p::b→B a p b
def HZ(H:Hs U)(c:Cx U)(K:AV U→Hs U→Prop):Prop:=match c with
 | .ptr j 0=>(match aD H j with
  |some (.it i gh)=>(match aD H i with
   |some (.mapr d l left _ gh')=>VS (gh=gh') (KW left (fh H j .dead fun H=>fh H i (.map d l) fun H=>K (.tup [⟨false,[(1,.d .bool false)]⟩]) H)
     fun a p b=> ∀gh2,fh H j (.it i gh2) fun H=>fh H i (.mapr d l (a++b) [p] gh2) fun H=>K (.tup [⟨false,[(1,.d .bool true)]⟩,tJ d.k p.1,tJ d.v p.2]) H)
   |_=>False)
  |_=>False)
 |_=>False
def lX(d:Option Nat)(A:Prop):Prop:=match d with
 |some _=>A
 |none=>False
def KX(d:Option Nat)(A:Prop):Prop:=match d with
 |some _=>False
 |none=>A
def zy(T:cW U)(G:c6 U)(o:Oper)(R e:En U)(n:Nat)(H:Hs U)(K:AV U→Nat→Hs U→Prop):Prop:=match o.op with
 | .alloc t=>lX o.dst (match aD T t with
  |some ti=>K (.v ⟨false,[(1,.ptr n 0)]⟩) (n+1) ((n,.cells ti.zero t)::H)
  |none=>False)
 | .box t x=>lX o.dst (j6 [] R e x fun v=>K (.v ⟨false,[(1,.ptr n 0)]⟩) (n+1) ((n,.cells v.l t)::H))
 | .makeMap t none=>lX o.dst (match aD T t with
  |some ti=>(match ti.mp with
   |some d=>K (.v ⟨false,[(1,.mp n)]⟩) (n+1) ((n,.map d [])::H)
   |none=>False)
  |none=>False)
 | .mapUpdate t m kx x=>KX o.dst (gR [] R e m fun c=>j6 [] R e kx fun kv=>j6 [] R e x fun xv=>HW T t H c kv xv fun H=>K .un n H)
 | .range t x=>lX o.dst (gR [] R e x fun c=>HY T t H n c fun H=>K (.v ⟨false,[(1,.ptr n 0)]⟩) (n+1) H)
 | .next x false=>lX o.dst (gR [] R e x fun c=>HZ H c fun v H=>K v n H)
 | .store t x y=>KX o.dst (gR [] R e x fun c=>j6 [] R e y fun w=>nA T t H c w fun H=>K .un n H)
 | .buildSlice t k ps=>lX o.dst (CJ T t fun el ei=>match ei.sh with
  |some s=>bif Nat.beq ei.sz (aG U s)&&Nat.blt 0 (aG U s)&&Nat.ble (k*aG U s) 1000 then C0 [] R e s k ps.toList 0 H fun H l=>K (.v ⟨false,[(1,.own n 0)]⟩) (n+1) ((n,.row 0 s l el)::H)else False
  |none=>False)
 | .makeSlice t x y=>lX o.dst (gR [] R e x fun c=>gR [] R e y fun d=>match c,d with
  | .d (.int _) q,.d (.int _) r=>KV T t H n q r K
  |_,_=>False)
 | .call c=>(match c.callee with
  | .builtin .append=>(match c.args.toList,c.argTypes.toList with
   |x::y:: [],t::t':: []=>lX o.dst (bif Nat.beq t t' then gR [] R e x fun a=>gR [] R e y fun b=>KU T t H n a b K else False)
   |_,_=>False)
  | .builtin .delete=>(match c.args.toList,c.argTypes.toList with
   |m::kx:: [],t::_:: []=>KX o.dst (gR [] R e m fun c=>j6 [] R e kx fun kv=>HX T t H c kv fun H=>K .un n H)
   |_,_=>False)
  | .value (.func f)=>qG [] R e c.args.toList fun xs=>Gd T G f xs n H K
  | .value (.tmp s)=>lX o.dst (gR [] R e (.tmp s) fun x=>qG [] R e c.args.toList fun xs=>OT x xs H fun v H=>K v n H)
  |_=>False)
 |_=>False
def mH(o:Oper):Bool:=match o.op with
 | .alloc _| .box _ _| .store _ _ _| .buildSlice _ _ _| .makeSlice _ _ _| .makeMap _ _| .mapUpdate _ _ _ _| .range _ _| .next _ _=>true
 | .call c=>(match c.callee with
  | .builtin .append| .builtin .copy| .builtin .clear| .builtin .delete=>true
  | .builtin _=>false
  |_=>true)
 |_=>false
abbrev KS(U:bD):=En U→Nat→Hs U→Prop
def Db(T:cW U)(H:Hs U)(js:List Nat):(List (Va U)→Prop)→Prop:=
 List.rec (motive:=fun _=>(List (Va U)→Prop)→Prop) (fun K=>K []) (fun j _ ih K=>match aD H j with
  |some (.cells l t)=>(match aD T t with
   |some ti=>(match ti.sh with
    |some s=>cG 20 s l fun x=>ih fun r=>K (⟨false,[(1,.pd s x)]⟩::r)
    |none=>False)
   |none=>False)
  |_=>False) js
def Dc(T:cW U)(G:c6 U)(H:Hs U)(a:aZ)(x:Va U)(K:(TT U.ty a→Bool)→Prop):Prop:=match x with
 |⟨false,(_,.fn f):: []⟩=>oF G f fun c=> ∃g,zr c [] a g∧K g
 |⟨false,(_,.clo f js):: []⟩=>Db T H js fun caps=>oF G f fun c=> ∃g,zr c caps a g∧K g
 |_=>False
def Dd(T:cW U)(G:c6 U)(H:Hs U)(a b:aZ)(x:Va U)(K:(TT U.ty a→TT U.ty b→Int)→Prop):Prop:=match x with
 |⟨false,(_,.fn f):: []⟩=>oF G f fun c=> ∃g,zt c [] a b g∧K g
 |⟨false,(_,.clo f js):: []⟩=>Db T H js fun caps=>oF G f fun c=> ∃g,zt c caps a b g∧K g
 |_=>False
def Kt(T:cW U)(G:c6 U)(H:Hs U)(md:List Md):List (Va U)→(List (Va U)→Prop)→Prop:=
 List.rec (motive:=fun _=>List (Va U)→(List (Va U)→Prop)→Prop) (fun l K=>match l with| []=>K []|_=>False) (fun m _ ih l K=>match l with
  | []=>K []
  |x::r=>(match m with
   | .d s=>oE true H [] x.l fun l=>cG 20 s l fun t=>ih r fun r=>K (⟨x.ag,[(aG U s,.d s t)]⟩::r)
   | .f1 a=>Dc T G H a x fun g=>ih r fun r=>K (⟨false,[(1,.f1 a g)]⟩::r)
   | .f2 a b=>Dd T G H a b x fun g=>ih r fun r=>K (⟨false,[(1,.f2 a b g)]⟩::r)
   | .p _=>False
   | .n=>oE true H [] x.l fun l=>ih r fun r=>K (⟨x.ag,l⟩::r))) md
def De:List (cd U)→Bool
 | []=>true
 |(_,x)::r=>match x with
  | .f1 _ _=>false
  | .f2 _ _ _=>false
  |_=>De r
def vu(T:cW U)(G:c6 U)(p:di)(o:Oper)(R e:En U)(n:Nat)(H:Hs U)(K:Va U→Prop):Prop:=match o.op with
 | .call c=>(match c.callee with
  | .value (.func f)=>(match aD G f with
   |some k=>qG p R e c.args.toList fun xs=> ∃x:Va U,qT R e p (Kt T G H k.md xs fun xs=>k.run xs [] fun r es=>r= .v x∧es= [])∧De x.l=true∧K x
   |none=>False)
  | .value (.tmp s)=>gR p R e (.tmp s) fun x=>qG p R e c.args.toList fun xs=>RZ x xs K
  |_=>False)
 |_=>False
def zz:List (Nat×Operand)→Nat→Nat→Bool
 | [],j,k=>Nat.beq j k
 |(i,_)::r,j,k=>Nat.beq i j&&zz r (j+1) k
def OU(s:aZ)(H:Hs U)(l:List (Va U)):(List (TT U.ty s)→Prop)→Prop:=
 List.rec (motive:=fun _=>(List (TT U.ty s)→Prop)→Prop) (fun K=>K []) (fun x _ ih K=>oE true H [] x.l fun l=>cG 20 s l fun a=>ih fun r=>K (a::r)) l
def wF(T:cW U)(G:c6 U)(p:di)(o:Oper)(R e:En U)(n:Nat)(H:Hs U)(K:Va U→Prop):Prop:=match o.op with
 | .buildSlice t k ps=>CJ T t fun _ ei=>match ei.sh with
  |some s=>bif Nat.beq ei.sz (aG U s)&&Nat.blt 0 (aG U s)&&Nat.ble (k*aG U s) 1000&&zz ps.toList 0 k then qG p R e (ps.toList.map (·.2)) fun xs=>OU s H xs fun l=>K ⟨false,[(1,.d (.sl s) l)]⟩else False
  |none=>False
 |_=>vu T G p o R e n H K
abbrev KR(U:bD):=En U→Nat→Hs U→En U→List Nat→KS U→Prop
def mI(rest:KR U)(d:Option Nat)(v:AV U)(e:En U)(n:Nat)(H:Hs U)(R:En U)(S:List Nat)(K:KS U):Prop:=match d with
 |some d=>bif gx d S then False else rest ((d,v)::e) n H R S K
 |none=>rest e n H R S K
def putG(rest:KR U)(s:Nat)(d:Option Nat)(p:di)(x:Va U)(e:En U)(n:Nat)(H:Hs U)(R:En U)(S:List Nat)(K:KS U):Prop:=match d with
 |some d=>(match aD e d with
  |none=>bif gx d S||Nat.beq d s then False else rest e n H ((d,.gd p x)::R) (d::s::S) K
  |some _=>False)
 |none=>False
def ya(T:cW U)(G:c6 U)(o:Oper)(rest:KR U)(s:Nat)(p:di)(e:En U)(n:Nat)(H:Hs U)(R:En U)(S:List Nat)(K:KS U):Prop:=match mH o with
 |true=>wF T G p o R e n H fun v=>putG rest s o.dst p v e n H R S K
 |false=>lN (qT R e p) T p o R e H fun v=>(match v with
  | .v v=>putG rest s o.dst p v e n H R S K
  |_=>False)
def Df(o:Oper)(v:AV U)(A:Prop):Prop:=match o.op with
 | .call c=>(match c.callee with
  | .builtin .len=>(match v with
   | .v ⟨false,(_,.d (.int k) q):: []⟩=>dS k q→A
   |_=>A)
  |_=>A)
 |_=>A
def ig(T:cW U)(G:c6 U)(all:List Oper)(o:Oper)(rest:KR U)(e:En U)(n:Nat)(H:Hs U)(R:En U)(S:List Nat)(K:KS U):Prop:=match o.guard with
 |none=>(match mH o with
  |true=>zy T G o R e n H fun v n H=>mI rest o.dst v e n H R S K
  |false=>lN (fun P=>P) T [] o R e H fun v=>Df o v (mI rest o.dst v e n H R S K))
 |some (j,b)=>(match dT all j with
  |some oj=>(match oj.dst with
   |some s=>(match aD R s with
    |some (.gd p ⟨false,(_,.d .bool _):: []⟩)=>ya T G o rest s ((s,b)::p) e n H R S K
    |some _=>False
    |none=>(match aD e s with
     |some (.v ⟨false,(_,.d .bool _):: []⟩)=>ya T G o rest s [(s,b)] e n H R S K
     |_=>False))
   |none=>False)
  |none=>False)
def yb(p:Nat→Bool)(H:Hs U):(Hs U→Prop)→Prop:=
 List.rec (motive:=fun _=>(Hs U→Prop)→Prop) (fun K=>K []) (fun x _ ih K=>ih fun r=>match p x.1,x.2 with
  |true,.row v e xs _=>K ((x.1,.hid v xs.length (aG U e))::r)
  |true,.cells _ _=>K ((x.1,.dead)::r)
  |true,.map _ _=>K ((x.1,.dead)::r)
  |true,.mapr _ _ _ _ _=>K ((x.1,.dead)::r)
  |true,.it _ _=>K ((x.1,.dead)::r)
  |true,.ext v d xs _=>K ((x.1,.hid v xs.length (aG U d.e))::r)
  |_,y=>K ((x.1,y)::r)) H
def Dg(p:Nat→Bool)(H:Hs U)(H':Hs U):(Hs U→Prop)→Prop:=
 List.rec (motive:=fun _=>(Hs U→Prop)→Prop) (fun K=>K []) (fun x _ ih K=>ih fun r=>match p x.1,aD H x.1,x.2 with
  |true,some (.row v e xs t),.hid v' _ _=>bif Nat.beq v v' then K ((x.1,.row v e xs t)::r)else False
  |true,some (.cells l t),.dead=>K ((x.1,.cells l t)::r)
  |true,some (.map d l),.dead=>K ((x.1,.map d l)::r)
  |true,some (.mapr d l l' q g),.dead=>K ((x.1,.mapr d l l' q g)::r)
  |true,some (.it i g),.dead=>K ((x.1,.it i g)::r)
  |true,some (.ext v d xs op),.hid v' _ _=>bif Nat.beq v v' then K ((x.1,.ext v d xs op)::r)else False
  |_,_,y=>K ((x.1,y)::r)) H'
def KY:List Md→Bool
 | []=>false
 |m::r=>match m with
  | .p _=>true
  |_=>KY r
def yc(G:c6 U)(o:Oper):Bool:=match o.op with
 | .call c=>(match c.callee with
  | .value (.func f)=>(match aD G f with
   |some k=>KY k.md
   |none=>false)
  |_=>false)
 |_=>false
def qX(T:cW U)(G:c6 U)(p:Nat→Bool)(q:di)(o:Oper)(R e:En U)(n:Nat)(H:Hs U)(K:Va U→Prop):Prop:=match o.op with
 | .call c=>(match c.callee with
  | .value (.func f)=>(match aD G f with
   |some k=>qG q R e c.args.toList fun xs=>yb (fun i=>!p i) H fun Hk=> ∃x:Va U,qT R e q (x9 T G k xs n Hk fun r n' H'=>r= .v x∧n'=n∧Dg (fun i=>!p i) H H' fun L=>L=H)∧K x
   |none=>False)
  |_=>False)
 |_=>False
def kf(T:cW U)(G:c6 U)(all:List Oper)(p:Nat→Bool)(o:Oper)(rest:KR U)(e:En U)(n:Nat)(H:Hs U)(R:En U)(S:List Nat)(K:KS U):Prop:=match o.guard with
 |none=>False
 |some (j,b)=>(match dT all j with
  |some oj=>(match oj.dst with
   |some s=>(match aD R s with
    |some (.gd q ⟨false,(_,.d .bool _):: []⟩)=>qX T G p ((s,b)::q) o R e n H fun v=>putG rest s o.dst ((s,b)::q) v e n H R S K
    |some _=>False
    |none=>(match aD e s with
     |some (.v ⟨false,(_,.d .bool _):: []⟩)=>qX T G p [(s,b)] o R e n H fun v=>putG rest s o.dst [(s,b)] v e n H R S K
     |_=>False))
   |none=>False)
  |none=>False)
class fL(U:bD) where
 g:c6 U
 kp:Int→En U→Nat→Hs U→Prop
 ua:Oper→Option (En U→En U→Nat→Hs U→(AV U→Nat→Hs U→Prop)→Prop)-- operations with rules of their own
instance(priority:=50) panNone:fL U:=⟨[],fun _ _ _ _=>False,fun _=>none⟩
def H4 [fL U](o:Oper):Bool:=match o.op with
 | .call c=>(match c.callee with
  | .value (.func f)=>(match aD (fL.g (U:=U)) f with
   |some _=>true
   |none=>false)
  |_=>false)
 |_=>false
def H7 [fL U](T:cW U)(G:c6 U)(o:Oper)(R e:En U)(n:Nat)(H:Hs U)(K:AV U→Nat→Hs U→Prop):Prop:=match o.op with
 | .call c=>(match c.callee with
  | .value (.func f)=>(match aD (fL.g (U:=U)) f with
   |some k=>qG [] R e c.args.toList fun xs=>x9 T G k xs n H fun v n H=>(match v with
    | .pan z=>fL.kp z e n H
    |v=>K v n H)
   |none=>False)
  |_=>False)
 |_=>False
def oh [fL U](T:cW U)(G:c6 U)(all:List Oper)(o:Oper)(rest:KR U):KR U:=bif H4 (U:=U) o then(fun e n H R S K=>match o.guard with
  |none=>H7 T G o R e n H fun v n H=>mI rest o.dst v e n H R S K
  |some _=>False)else(match fL.ua (U:=U) o with
 |some f=>(fun e n H R S K=>match o.guard with
  |none=>f R e n H fun v n H=>mI rest o.dst v e n H R S K
  |some _=>False)
 |none=>ig T G all o rest)
def nC [fL U](T:cW U)(G:c6 U)(all l:List Oper):KR U:=
 List.rec (motive:=fun _=>KR U) (fun e n H _ _ K=>K e n H) (fun o _ ih=>match o.guard with
  |none=>oh T G all o ih
  |some _=>bif yc G o then kf T G all (fun _=>true) o ih else ig T G all o ih) l
def lO(T:cW U)(G:c6 U)(all:List Oper)(p:Nat→Bool)(how:Bool)(o:Oper)(rest:KR U)(e:En U)(n:Nat)(H:Hs U)(R:En U)(S:List Nat)(K:KS U):Prop:=match mH o,how with
 |true,true=>False
 |false,true=>yb p H fun Hu=>ig T G all o (fun e _ _ R S K=>rest e n H R S K) e n Hu R S K
 |false,false=>ig T G all o rest e n H R S K
 |true,false=>(match o.guard with
  |none=>yb (fun i=>!p i) H fun Hk=>zy T G o R e n Hk fun v n Hk=>Dg (fun i=>!p i) H Hk fun H=>mI rest o.dst v e n H R S K
  |some _=>bif yc G o then kf T G all p o rest e n H R S K else ig T G all o rest e n H R S K)
def wG(T:cW U)(G:c6 U)(all:List Oper)(mk:List Nat)(last:KR U)(pl:List (Bool×Nat)):KR U:=
 List.rec (motive:=fun _=>KR U) last (fun x _ ih=>match dT all x.2 with
  |some o=>lO T G all (fun i=>gx i mk) x.1 o ih
  |none=>fun _ _ _ _ _ _=>False) pl
def lP [fL U](T:cW U)(G:c6 U)(all:List Oper)(f:Option Nat):KR U:=match f with
 |none=>fun e n H _ _ K=>K e n H
 |some f=>(match dT all f with
  |some o=>oh T G all o (fun e n H _ _ K=>K e n H)
  |none=>fun _ _ _ _ _ _=>False)
def ol(ops:Array Oper)(f:Option Nat):List (Bool×Nat)→Array Bool→Bool
 | [],listed=>(match f with
  |none=>(Region.ready .any ops listed).isEmpty
  |some f=>Region.ready .any ops listed== [f]&&(Region.ready .any ops (listed.setIfInBounds f true)).isEmpty)
 |(true,i)::r,listed=>(Region.ready .any ops listed).contains i&&Region.free .any ops listed i&&(match f with|some f=>i !=f|none=>true)&&ol ops f r (listed.setIfInBounds i true)
 |(false,i)::r,listed=>Region.ready .any ops listed== [i]&&(match f with|some f=>i !=f|none=>true)&&ol ops f r (listed.setIfInBounds i true)
def vz(ops:Array Oper)(f:Option Nat)(pl:List (Bool×Nat)):Bool:=Region.noSelect ops&&(match f with|some f=>EG .any ops f|none=>true)&&ol ops f pl (Array.replicate ops.size false)&&Nat.ble (pl.length+(match f with|some _=>1|none=>0)) ops.size
inductive Ot where
 |fin|nil|look (i:Nat) (r:Ot)|turn (i:Nat) (here more:Ot)
def tP(T:cW U)(G:c6 U)(all:List Oper)(p:Nat→Bool)(last:KR U)(t:Ot):KR U:=
 Ot.rec (motive:=fun _=>KR U) last (fun _ _ _ _ _ _=>True)
  (fun i _ ih=>match dT all i with
   |some o=>lO T G all p true o ih
   |none=>fun _ _ _ _ _ _=>False)
  (fun i _ _ ih ih2 e n H R S K=>(match dT all i with
   |some o=>lO T G all p false o ih
   |none=>fun _ _ _ _ _ _=>False) e n H R S K∧ih2 e n H R S K) t
def KZ(i:Nat):List Nat→Bool
 |j::_=>Nat.beq j i
 | []=>false
def ii(ops:Array Oper)(f:Option Nat):Ot→Array Bool→Option (List Nat)→Bool
 | .fin,listed,none=>ol ops f [] listed
 | .nil,_,some L=>L.isEmpty
 | .look i r,listed,none=>(Region.ready .any ops listed).contains i&&Region.free .any ops listed i&&(match f with|some f=>i !=f|none=>true)&&ii ops f r (listed.setIfInBounds i true) none
 | .turn i a b,listed,none=>KZ i (Region.ready .any ops listed)&&ii ops f a (listed.setIfInBounds i true) none&&ii ops f b listed (some (Region.ready .any ops listed).tail)
 | .turn i a b,listed,some L=>KZ i L&&ii ops f a (listed.setIfInBounds i true) none&&ii ops f b listed (some L.tail)
 |_,_,_=>false
def Ot.h:Ot→Nat
 | .fin=>0
 | .nil=>0
 | .look _ r=>r.h+1
 | .turn _ a b=>max (a.h+1) b.h
def zA(ops:Array Oper)(f:Option Nat)(t:Ot):Bool:=Region.noSelect ops&&(match f with|some f=>EG .any ops f|none=>true)&&ii ops f t (Array.replicate ops.size false) none&&Nat.ble (t.h+(match f with|some _=>1|none=>0)) ops.size
inductive Ku where
 |n|r|x (i:Nat)
abbrev KO(U:bD):=Ku→En U→Nat→Hs U→Prop
def K0(b:En U→Nat→Hs U→KO U→Prop)(K:KO U)(o:Ku)(e:En U)(n:Nat)(H:Hs U):Prop:=match o with
 | .n=>b e n H K
 |o=>K o e n H
def K4(i:Nat)(K:KO U)(o:Ku)(e:En U)(n:Nat)(H:Hs U):Prop:=match o with
 | .x j=>(bif Nat.beq i j then K .n e n H else K (.x j) e n H)
 |o=>K o e n H
def H8(a b:En U→Nat→Hs U→KO U→Prop)(e:En U)(n:Nat)(H:Hs U)(K:KO U)(v:Cx U):Prop:=match v with
 | .d .bool t=>y2 t (a e n H K) (b e n H K)
 |_=>False
def cT(φ:List (Nat×Nat))(k:Nat):Nat:=match aD φ k with
 |some i=>i
 |none=>k
def qJ(H:Hs U)(i v:Nat):Bool:=match aD H i with
 |some (.row v' _ _ _)=>Nat.beq v v'
 |some (.ext v' _ _ none)=>Nat.beq v v'
 |_=>false
def vA(H:Hs U)(i:Nat):Bool:=match aD H i with
 |some (.map _ _)=>true
 |some (.mapr _ _ _ _ _)=>true
 |_=>false
def rX(H:Hs U)(i:Nat):Bool:=match aD H i with
 |some (.cells _ _)=>true
 |some (.it _ _)=>true
 |_=>false
def Oi(s:aZ)(t:TT U.ty s)(s':aZ)(t':TT U.ty s')(A:Prop):Prop:=match dZ U.ty (fun x=>x) s s' t with
 |some u=>u=t'∧A
 |none=>False
def H9(a:aZ)(g:TT U.ty a→Bool)(a':aZ)(g':TT U.ty a'→Bool)(A:Prop):Prop:=match dZ U.ty (fun x=>x→Bool) a a' g with
 |some u=>u=g'∧A
 |none=>False
def Ia(a b:aZ)(g:TT U.ty a→TT U.ty b→Int)(a' b':aZ)(g':TT U.ty a'→TT U.ty b'→Int)(A:Prop):Prop:=match dZ U.ty (fun x=>x→TT U.ty b→Int) a a' g with
 |some u=>(match dZ U.ty (fun y=>TT U.ty a'→y→Int) b b' u with
  |some u=>u=g'∧A
  |none=>False)
 |none=>False
def K5(φ:List (Nat×Nat))(H':Hs U):List Nat→List Nat→Bool
 | [],[]=>true
 |k::ks,j::js=>Nat.beq (cT φ k) j&&rX H' k&&K5 φ H' ks js
 |_,_=>false
def Ic(φ:List (Nat×Nat))(n:Nat)(H H':Hs U)(x y:Cx U)(A:Prop):Prop:=match x,y with
 | .nils,.own k w=>bif Nat.ble n (cT φ k)&&qJ H' k w then A else False
 | .own i v,.own k w=>bif Nat.beq (cT φ k) i&&qJ H i v&&qJ H' k w then A else False
 | .own i v,.d s t'=>(match aD H i with
  |some (.frz v' e xs)=>bif Nat.beq v v' then Oi (.sl e) xs s t' A else False
  |_=>False)
 | .ptr i o,.ptr k p=>bif Nat.beq (cT φ k) i&&Nat.beq o p&&rX H' k then A else False
 | .d s t,.d s' t'=>Oi s t s' t' A
 | .nilp,.nilp=>A
 | .nils,.nils=>A
 | .nils,.d (.sl e) xs=>([]:List (TT U.ty e))=xs∧A
 | .nilf,.nilf=>A
 | .nilm,.nilm=>A
 | .mp i,.mp k=>bif Nat.beq (cT φ k) i&&vA H' k then A else False
 | .fn f,.fn g=>bif Nat.beq f g then A else False
 | .clo f js,.clo g ks=>bif Nat.beq f g&&K5 φ H' ks js then A else False
 | .f1 a g,.f1 a' g'=>H9 a g a' g' A
 | .f2 a b g,.f2 a' b' g'=>Ia a b g a' b' g' A
 |_,_=>False
def zB(φ:List (Nat×Nat))(n:Nat)(H H':Hs U)(l:List (cd U))(l':List (cd U))(A:Prop):Prop:=match l' with
 | []=>(match l with
  | []=>A
  |_=>False)
 |(m,.d (.st i) t)::l'=>tK 40 l m fun l1=>cG 20 (.st i) l1 fun u=>u=t∧gQ 40 l m fun l2=>zB φ n H H' l2 l' A
 |(m,.d (.arr k e) t)::l'=>tK 40 l m fun l1=>cG 20 (.arr k e) l1 fun u=>u=t∧gQ 40 l m fun l2=>zB φ n H H' l2 l' A
 |(m,y)::l'=>(match l with
  |(k,x)::l=>bif Nat.beq k m then Ic φ n H H' x y (zB φ n H H' l l' A)else False
  | []=>False)
termination_by structural l'
def Oj(φ:List (Nat×Nat))(n:Nat)(e:En U)(H H':Hs U):En U→Prop→Prop
 | [],A=>A
 |(k,.v y)::r,A=>(match aD e k with
  |some (.v x)=>bif x.ag==y.ag then zB φ n H H' x.l y.l (Oj φ n e H H' r A)else False
  |_=>False)
 |_,_=>False
def Ol(φ:List (Nat×Nat))(b n:Nat)(H H':Hs U)(k:Nat)(x y:aH U)(A:Prop):Prop:=match x,y with
 |_,.dead=>A
 | .cells l t,.cells l' t'=>bif Nat.beq t t' then zB φ n H H' l l' A else False
 | .row v e xs t,.row v' e' xs' t'=>bif Nat.beq t t'&&(Nat.ble b k||Nat.beq v v')then(match dZ U.ty List e e' xs with
  |some u=>u=xs'∧A
  |none=>False)else False
 | .map d l,.map d' l'=>(⟨d,l⟩:(d:KD U)×List (TT U.ty d.k×TT U.ty d.v))=⟨d',l'⟩∧A
 | .mapr d l r q g,.mapr d' l' r' q' g'=>(⟨d,(l,r,q)⟩:(d:KD U)×(List (TT U.ty d.k×TT U.ty d.v)×List (TT U.ty d.k×TT U.ty d.v)×List (TT U.ty d.k×TT U.ty d.v)))=⟨d',(l',r',q')⟩∧g=g'∧A
 | .it i g,.it k' g'=>bif Nat.beq (cT φ k') i&&vA H' k' then g=g'∧A else False
 | .ext v d xs none,.ext v' d' xs' none=>bif Nat.ble b k||Nat.beq v v' then(⟨d,xs⟩:(d:XD U)×List (TT U.ty d.e))=⟨d',xs'⟩∧A else False
 |_,_=>False
def R1(b n:Nat)(φ:List (Nat×Nat))(k:Nat)(y:aH U)(A:Prop):Prop:=match y with
 | .row _ e xs _=>bif Nat.ble n (cT φ k)&&Nat.ble b k&&Nat.blt 0 (aG U e)then xs= []∧A else False
 | .ext _ d xs none=>bif Nat.ble n (cT φ k)&&Nat.ble b k then xs= []∧A else False
 |_=>False
def Ge(φ:List (Nat×Nat))(b n:Nat)(H H':Hs U):Hs U→Prop→Prop
 | [],A=>A
 |(k,y)::r,A=>(match aD H (cT φ k)with
  |some x=>Ol φ b n H H' k x y (Ge φ b n H H' r A)
  |none=>R1 b n φ k y (Ge φ b n H H' r A))
def vB(p:Nat→Bool):List Nat→Bool
 | []=>true
 |i::r=>bif p i then vB p r else false
def K6(b N:Nat)(φ:List (Nat×Nat))(n:Nat)(e:En U)(H:Hs U)(e':En U)(H':Hs U):Prop:=
 bif Nat.ble b N&&nB (H'.map (·.1))&&nB (H'.map fun p=>cT φ p.1)&&vB (fun i=>Nat.blt i N) (H'.map (·.1))&&vB (fun i=>Nat.ble b i) (φ.map (·.1))then Ge φ b n H H' H' (Oj φ n e H H' e' True)else False
def qY(φ:List (Nat×Nat))(H':Hs U):Hs U→List (cd U)
 | []=> []
 |(i,.row v _ _ _)::r=>bif gx i (H'.map fun p=>cT φ p.1)then qY φ H' r else(1,.own i v)::qY φ H' r
 |(i,.ext v _ _ none)::r=>bif gx i (H'.map fun p=>cT φ p.1)then qY φ H' r else(1,.own i v)::qY φ H' r
 |_::r=>qY φ H' r
def Om(b N:Nat)(φ:List (Nat×Nat))(n:Nat)(e:En U)(H:Hs U)(e':En U)(H':Hs U):Prop:=lF (qY φ H' H) H fun H _=>K6 b N φ n e H e' H'
def wH [fL U](T:cW U)(G:c6 U)(b:Nat)(ops:Array Oper)(e:En U)(n:Nat)(H:Hs U)(K:KS U):Prop:=
 (∃(pl:List (Bool×Nat)) (f:Option Nat) (mk:List Nat),vz ops f pl=true∧wG T G ops.toList mk (lP T G ops.toList f) pl e n H [] [] K)∨
 (∃(t:Ot) (f:Option Nat) (mk:List Nat) (N:Nat) (E:En U) (M:Hs U) (A:Prop),zA ops f t=true∧tP T G ops.toList (fun i=>gx i mk||Nat.ble n i) (lP T G ops.toList f) t e n H [] [] (fun e' n' H'=>A∧ ∃φ,K6 b N φ n' e' H' E M)∧(A→K E N M))
def zC(b:Nat)(a:En U→Nat→Hs U→KO U→Prop)(e:En U)(n:Nat)(H:Hs U)(K:KO U):Prop:=
 ∃(σ:Type) (N:Nat) (E:σ→En U) (M:σ→Hs U) (I:σ→Prop) (μ:σ→Nat),(∃φ s,I s∧Om b N φ n e H (E s) (M s))∧
  ∀s,I s→a (E s) N (M s) fun o e' n' H'=>match o with
   | .n=> ∃φ s',μ s'<μ s∧I s'∧Om b N φ n' e' H' (E s') (M s')
   |o=>K o e' n' H'
def aw [fL U](T:cW U)(G:c6 U)(b:Nat)(c:Code):En U→Nat→Hs U→KO U→Prop:=
 Code.rec (motive:=fun _=>En U→Nat→Hs U→KO U→Prop)
  (fun e n H K=>K .n e n H)
  (fun _ ops d e n H K=>bif d then wH T G b ops e n H (K .n)else nC T G ops.toList ops.toList e n H [] [] (K .n))
  (fun _ _ a b e n H K=>a e n H (K0 b K))
  (fun c _ _ a b e n H K=>gR [] [] e c (H8 a b e n H K))
  (fun i _ a e n H K=>a e n H (K4 i K))
  (fun _ a e n H K=>zC b a e n H K)
  (fun _ _ _ _ _ _ _ _ _ _=>False)
  (fun i e n H K=>K (.x i) e n H)
  (fun _ _ _ _ _ _=>False)
  (fun _ e n H K=>K .n e n H)
  (fun _ _ _ _ _=>False)
  (fun e n H K=>K .r e n H)
  (fun _ _ _ _ _=>False)
  c
def zD(T:cW U)(l:List ResultVar)(e:En U)(H:Hs U):(List (Va U)→Prop)→Prop:=
 List.rec (motive:=fun _=>(List (Va U)→Prop)→Prop) (fun K=>K []) (fun r _ ih K=>match r with
  | .tmp t=>j6 [] [] e (.tmp t) fun v=>ih fun l=>K (v::l)
  | .cell p t=>gR [] [] e (.tmp p) fun c=>tI T t H c fun v=>ih fun l=>K (v::l)) l
def Ie(l:List (Va U))(K:AV U→Prop):Prop:=match l with
 |x:: []=>K (.v x)
 |l=>K (.tup l)
def vC:Nat→Nat→List Nat→Bool
 |_,0,_=>true
 |j,k+1,a::r=>bif Nat.beq a j then vC (j+1) k r else false
 |_,_+1,[]=>false
def rY(T:cW U)(fn:Func)(md:List Md)(em:List (Nat×List (Nat×Option aZ)))(b:Nat)(K:AV U→List (aH U)→Prop)(o:Ku)(e:En U)(n:Nat)(H:Hs U):Prop:=match o with
 | .x _=>False
 |_=>bif Nat.ble fn.results.toList.length 3 then zD T fn.results.toList e H fun l=>Kr md l H fun H=>Oh em H fun H=>Gb md l H fun H l=>zp (vq H 30 0 (x7 H l (List.range b))) fun L=>bif nB L&&vC 0 b L then tO false H L l fun l=>qV false H L L fun es=>Ie l fun r=>K r es else False else False
def Dh(b:Nat)(K:AV U→List (aH U)→Prop)(z:Int)(n:Nat)(H:Hs U):Prop:=zp (vq H 30 0 (List.range b)) fun L=>bif nB L&&vC 0 b L then qV false H L L fun es=>K (.pan z) es else False
def K7(GP:c6 U)(T:cW U)(G:c6 U)(fn:Func)(md:List Md)(em:List (Nat×List (Nat×Option aZ)))(e:En U)(b:Nat)(H:Hs U)(K:AV U→List (aH U)→Prop):Prop:=match fn.body with
 |some c=> @aw U ⟨GP,fun z _ n H=>Dh b K z n H,fun _=>none⟩ T G b c e b H (rY T fn md em b K)
 |none=>False
def If(T:cW U)(G:c6 U)(fn:Func)(md:List Md)(em:List (Nat×List (Nat×Option aZ)))(e:En U)(b:Nat)(H:Hs U)(K:AV U→List (aH U)→Prop):Prop:=match fn.body with
 |some c=>aw T G b c e b H (rY T fn md em b K)
 |none=>False
end
end Go.Proofs.YtmpeiadlohbikaaGreatDoor.V
end

section
namespace Go.Proofs.YtmpeiadlohbikaaGreatDoor.V
open Go.RowKit
def gB:List Nat:= [0]
def Gv(w:World):Prop:= ∃mx,w.cell? ⟨0,0,none⟩=some (.int .i64 mx)
theorem Gv.fr{w w':World}{O:List Nat}(h:Gv w)(hf:Fr O w w')(hO: ∀o∈O,o∉gB):Gv w':=by
 obtain⟨mx,h⟩:=h;refine⟨mx,?_⟩;have hl:(0:Nat)<w.heap.size:=by
  unfold World.cell? at h;split at h
  ·rename_i c t x hb;exact cg hb
  ·cases h
 rw[hf.cell (p:=⟨0,0,none⟩) hl (fun h0=>hO 0 h0 (by simp[gB]))];exact h
theorem Gv.lt{w:World}(h:Gv w): ∀g∈gB,g<w.heap.size:=fun g hg=>by
 obtain⟨mx,h⟩:=h;have e:g=0:=by simpa[gB]using hg
 subst e;unfold World.cell? at h;split at h
 ·rename_i c t x hb;exact cg hb
 ·cases h
end Go.Proofs.YtmpeiadlohbikaaGreatDoor.V
end

section
set_option linter.unusedVariables false
set_option linter.unusedSimpArgs false
namespace Go.Proofs.YtmpeiadlohbikaaGreatDoor.V
open Go.RowKit
class ao where
 xf:List Nat
 pr:Program
section
variable {U:bD} {Y:List Nat} {S:World→Prop}
def HS(U:bD)(Y:List Nat)(S:World→Prop):(s:aZ)→TT U.ty s→List Value→Prop
 | .int k=>fun p vs=>vs= [.int k p]∧dS k p
 | .bool=>fun b vs=>vs= [.bool b]
 | .str=>fun s vs=>vs= [sv s]∧List.length (α:=UInt8) s≤9223372036854775807
 | .st i=>fun t vs=>bE U Y S (U.rd i).fs ((U.rd i).to t) vs∧vs.length=(U.rd i).sz
 | .arr n e=>fun xs vs=>aR U Y S e xs vs∧List.length (α:=TT U.ty e) xs=n
 | .sl e=>fun xs vs=> ∃A c cs,vs= [.slice A (List.length (α:=TT U.ty e) xs) c]∧aR U Y S e xs cs∧rS Y S A cs∧List.length (α:=TT U.ty e) xs≤c∧c≤maxLen
theorem aC.inv{s:aZ}{t:TT U.ty s}{vs:List Value}(h:aC U Y S s t vs):HS U Y S s t vs:=by
 cases h with
 |int k p h=>exact⟨rfl,h⟩
 |bool b=>exact rfl
 |str s h=>exact⟨rfl,h⟩
 |st i t vs h hl=>exact⟨h,hl⟩
 |arr n e xs vs h hn=>exact⟨h,hn⟩
 |sl e xs A c cs h hr hc hm=>exact⟨A,c,cs,rfl,h,hr,hc,hm⟩
def C5(U:bD)(Y:List Nat)(S:World→Prop):(fs:List (Nat×aZ))→vd U.ty fs→List Value→Prop
 | [],_,vs=>vs= []
 |(k,s)::r,t,vs=> ∃v1 v2,vs=v1++v2∧aC U Y S s t.1 v1∧v1.length=k∧bE U Y S r t.2 v2
theorem bE.inv{fs:List (Nat×aZ)}{t:vd U.ty fs}{vs:List Value}(h:bE U Y S fs t vs):C5 U Y S fs t vs:=by
 cases h with
 |nil=>exact rfl
 |cons k s r a b vs us h hl hr=>exact⟨vs,us,rfl,h,hl,hr⟩
theorem aR.nil_inv{e:aZ}{vs:List Value}(h:aR U Y S e [] vs):vs= []:=by cases h;rfl
theorem aR.cons_inv{e:aZ}{x:TT U.ty e}{xs:List (TT U.ty e)}{vs:List Value}(h:aR U Y S e (x::xs) vs): ∃v1 v2,vs=v1++v2∧aC U Y S e x v1∧v1.length=aG U e∧aR U Y S e xs v2:=by
 cases h with
 |cons e x xs vs us h hl hr=>exact⟨vs,us,rfl,h,hl,hr⟩
theorem aR.length{e:aZ}: ∀{xs:List (TT U.ty e)} {vs:List Value},aR U Y S e xs vs→vs.length=xs.length*aG U e
 | [],vs,h=>by rw[h.nil_inv];simp
 |x::xs,vs,h=>by
  obtain⟨v1,v2,rfl,_,hl,hr⟩:=h.cons_inv;rw[List.length_append,hl,aR.length hr,List.length_cons,Nat.add_mul,Nat.one_mul,Nat.add_comm]
theorem aC.length: ∀{s:aZ} {t:TT U.ty s} {vs:List Value},aC U Y S s t vs→vs.length=aG U s
 | .int k,t,vs,h=>by rw[h.inv.1];rfl
 | .bool,t,vs,h=>by have e:=h.inv;rw[show vs=_ from e];rfl
 | .str,t,vs,h=>by rw[h.inv.1];rfl
 | .st i,t,vs,h=>h.inv.2
 | .arr n e,t,vs,h=>by
  obtain⟨h1,h2⟩:=h.inv;have:=aR.length h1;rw[this,h2];rfl
 | .sl e,t,vs,h=>by obtain⟨A,c,cs,e,_⟩:=h.inv;rw[e];rfl
theorem aR.app{e:aZ}: ∀{xs ys:List (TT U.ty e)} {vs us:List Value},aR U Y S e xs vs→aR U Y S e ys us→aR U Y S e (xs++ys) (vs++us)
 | [],ys,vs,us,h,h'=>by rw[h.nil_inv];exact h'
 |x::xs,ys,vs,us,h,h'=>by
  obtain⟨v1,v2,rfl,h1,hl,hr⟩:=h.cons_inv;rw[List.append_assoc];exact .cons e x (xs++ys) v1 (v2++us) h1 hl (aR.app hr h')
theorem aR.at{e:aZ}: ∀{xs:List (TT U.ty e)} {vs:List Value},aR U Y S e xs vs→ ∀(q:Nat) (x:TT U.ty e),xs[q]? =some x→aC U Y S e x ((vs.drop (q*aG U e)).take (aG U e))
 | [],vs,h,q,x,hq=>by simp at hq
 |y::xs,vs,h,q,x,hq=>by
  obtain⟨v1,v2,rfl,h1,hl,hr⟩:=h.cons_inv;cases q with
  |zero=>
   simp only[List.getElem?_cons_zero,Option.some.injEq]at hq;subst hq;rw[Nat.zero_mul,List.drop_zero,List.take_append_of_le_length (by omega),List.take_of_length_le (by omega)];exact h1
  |succ q=>
   simp only[List.getElem?_cons_succ]at hq;have:=aR.at hr q x hq;rw[show(q+1)*aG U e=v1.length+q*aG U e by rw[Nat.add_mul,Nat.one_mul,hl,Nat.add_comm],List.drop_append,List.drop_of_length_le (by omega),List.nil_append,Nat.add_sub_cancel_left];exact this
theorem aR.set{e:aZ}: ∀{xs:List (TT U.ty e)} {vs:List Value},aR U Y S e xs vs→ ∀(q:Nat) (x:TT U.ty e) (us:List Value),aC U Y S e x us→q<xs.length→aR U Y S e (xs.set q x) (vs.take (q*aG U e)++us++vs.drop (q*aG U e+us.length))
 | [],vs,h,q,x,us,hx,hq=>by simp at hq
 |y::xs,vs,h,q,x,us,hx,hq=>by
  obtain⟨v1,v2,rfl,h1,hl,hr⟩:=h.cons_inv;have hul:=hx.length;cases q with
  |zero=>
   rw[Nat.zero_mul,List.take_zero,List.nil_append,Nat.zero_add,List.drop_append_of_le_length (by omega),List.drop_of_length_le (by omega),List.nil_append];exact .cons e x xs us v2 hx hul hr
  |succ q=>
   have ih:=aR.set hr q x us hx (by simpa using hq);have e1:(q+1)*aG U e=v1.length+q*aG U e:=by rw[Nat.add_mul,Nat.one_mul,hl,Nat.add_comm]
   rw[e1,List.take_length_add_append,Nat.add_assoc,List.drop_append,List.drop_of_length_le (by omega:v1.length≤v1.length+(q*aG U e+us.length)),List.nil_append,Nat.add_sub_cancel_left,List.append_assoc,List.append_assoc];refine .cons e y _ v1 _ h1 hl ?_;rw[←List.append_assoc];exact ih
def d4(ag:Bool)(v:Value)(vs:List Value):Prop:=match ag with
 |true=>v= .agg vs.toArray
 |false=>vs= [v]
def mB [ao](Y:List Nat)(w w2:World):Prop:= ∃O,Fr O w w2∧ ∀o∈O,o∉ao.xf∧(o∈Y∨w.heap.size≤o)
def KT(u:Value):Prop:= ∃(f:FuncId) (ca:List Value),u= .func (.func f) #[] ca.toArray
def y3 [ao](U:bD)(Y:List Nat)(S:World→Prop)(u:Value)(a:aZ)(g:TT U.ty a→Bool):Prop:=KT u∧ ∀w,S w→ ∀w2,mB Y w w2→ ∀t vs v,aC U gB (· =w2) a t vs→d4 (eK a) v vs→pZ ao.pr u [v] w2 fun r w3=>r= .bool (g t)∧Fr [] w2 w3
def y4 [ao](U:bD)(Y:List Nat)(S:World→Prop)(u:Value)(a b:aZ)(g:TT U.ty a→TT U.ty b→Int):Prop:=KT u∧ ∀w,S w→ ∀w2,mB Y w w2→ ∀t vs v t' vs' v',aC U gB (· =w2) a t vs→d4 (eK a) v vs→aC U gB (· =w2) b t' vs'→d4 (eK b) v' vs'→pZ ao.pr u [v,v'] w2 fun r w3=>r= .int .i64 (g t t')∧dS .i64 (g t t')∧Fr [] w2 w3
def Mv [ao](Y:List Nat)(S:World→Prop)(Y':List Nat)(S':World→Prop):Prop:= ∀w',S' w'→ ∃w O,S w∧Fr O w w'∧(∀y∈O,y∈Y∧y∉ao.xf)∧ ∀y∈Y',y∈Y∨w.heap.size≤y
theorem Mv.sub [ao]{Y':List Nat}(h: ∀y∈Y',y∈Y):Mv Y S Y' S:=fun w' h'=>⟨w',[],h',Fr.refl _ _,fun _ hy=>(by cases hy),fun y hy=> .inl (h y hy)⟩
theorem Mv.fr [ao]{Y':List Nat}{S':World→Prop}(m:Mv Y S Y' S'): ∀w',S' w'→ ∃w,S w∧Fr Y w w'∧ ∀y∈Y',y∈Y∨w.heap.size≤y:=fun w' h'=>by
 obtain⟨w,O,h1,h2,h3,h4⟩:=m w' h';exact⟨w,h1,h2.mono fun y hy=>(h3 y hy).1,h4⟩
theorem Mv.later [ao]{Y':List Nat}{S':World→Prop}(m:Mv Y S Y' S'){w' w2:World}(h':S' w')(h:mB Y' w' w2): ∃w,S w∧mB Y w w2:=by
 obtain⟨w,O,h1,h2,h3,h4⟩:=m w' h';obtain⟨O',h5,h6⟩:=h;refine⟨w,h1,O++O',(h2.mono fun x hx=>List.mem_append_left _ hx).step h5 (fun y hy=> .inl (List.mem_append_right _ hy)),fun o ho=>?_⟩;rcases List.mem_append.1 ho with ho|ho
 ·exact⟨(h3 o ho).2,.inl (h3 o ho).1⟩
 ·refine⟨(h6 o ho).1,?_⟩;rcases(h6 o ho).2 with h|h
  ·exact h4 o h
  ·exact .inr (Nat.le_trans h2.size h)
theorem y3.mv [ao]{Y':List Nat}{S':World→Prop}(m:Mv Y S Y' S'){u:Value}{a:aZ}{g:TT U.ty a→Bool}(h:y3 U Y S u a g):y3 U Y' S' u a g:=⟨h.1,fun w' hw' w2 h2=>by
 obtain⟨w,h3,h4⟩:=m.later hw' h2;exact h.2 w h3 w2 h4⟩
theorem y4.mv [ao]{Y':List Nat}{S':World→Prop}(m:Mv Y S Y' S'){u:Value}{a b:aZ}{g:TT U.ty a→TT U.ty b→Int}(h:y4 U Y S u a b g):y4 U Y' S' u a b g:=⟨h.1,fun w' hw' w2 h2=>by
 obtain⟨w,h3,h4⟩:=m.later hw' h2;exact h.2 w h3 w2 h4⟩
theorem rS.mv [ao]{Y':List Nat}{S':World→Prop}{A:Option Addr}{cs:List Value}(h:rS Y S A cs)(m:Mv Y S Y' S'):rS Y' S' A cs:=fun w' hw'=>by
 obtain⟨w,hw,hf,hY⟩:=m.fr w' hw';exact(h w hw).stable hf hY
end
mutual
theorem aC.mv [ao]{U:bD}{Y Y':List Nat}{S S':World→Prop}(m:Mv Y S Y' S'){s:aZ}{t:TT U.ty s}{vs:List Value}:aC U Y S s t vs→aC U Y' S' s t vs
 | .int k p h=> .int k p h
 | .bool b=> .bool b
 | .str s h=> .str s h
 | .st i t vs h hl=> .st i t vs (bE.mv m h) hl
 | .arr n e xs vs h hn=> .arr n e xs vs (aR.mv m h) hn
 | .sl e xs A c cs h hr hc hm=> .sl e xs A c cs (aR.mv m h) (hr.mv m) hc hm
theorem bE.mv [ao]{U:bD}{Y Y':List Nat}{S S':World→Prop}(m:Mv Y S Y' S'){fs:List (Nat×aZ)}{t:vd U.ty fs}{vs:List Value}:bE U Y S fs t vs→bE U Y' S' fs t vs
 | .nil=> .nil
 | .cons k s r a b vs us h hl hr=> .cons k s r a b vs us (aC.mv m h) hl (bE.mv m hr)
theorem aR.mv [ao]{U:bD}{Y Y':List Nat}{S S':World→Prop}(m:Mv Y S Y' S'){e:aZ}{xs:List (TT U.ty e)}{vs:List Value}:aR U Y S e xs vs→aR U Y' S' e xs vs
 | .nil e=> .nil e
 | .cons e x xs vs us h hl hr=> .cons e x xs vs us (aC.mv m h) hl (aR.mv m hr)
end
end Go.Proofs.YtmpeiadlohbikaaGreatDoor.V
end

/- What abstract values mean in memory; the interpreter's looks at pieces are right. -/
import Derived.Test.YtmpeiadlohbikaaGreatDoorYs4
import Derived.Test.YtmpeiadlohbikaaGreatDoorYs0
section
set_option linter.unusedVariables false
namespace Go.Proofs.YtmpeiadlohbikaaGreatDoor.V
open Go.RowKit
section
variable {U:cw}
def iV(i:Nat):List Nat→Bool
 | []=>false
 |j::r=>Nat.beq j i||iV i r
def Mo(i:Nat)(L:List Nat):List Nat:=bif iV i L then L else L++ [i]
def Pp(H:Hs U)(x:Cx U):Option Nat:=match x with
 | .own i _=>(match aI H i with|some (.row _ _ _ _)=>some i|_=>none)
 | .ptr i _=>some i
 | .pel i _ _ _=>some i
 | .pax i _ _ _ _ _=>some i
 | .mp i=>some i
 | .clo _ (j:: [])=>some j
 |_=>none
def yP(H:Hs U):List (ck U)→List Nat→List Nat
 | [],L=>L
 |(_,x)::r,L=>match Pp H x with
  |some i=>yP H r (Mo i L)
  |none=>yP H r L
def Mq(H:Hs U)(i:Nat)(L:List Nat):List Nat:=match aI H i with
 |some (.cells l _)=>yP H l L
 |some (.clo _ l)=>yP H l L
 |_=>L
def xA(H:Hs U):Nat→Nat→List Nat→List Nat
 |0,_,L=>L
 |n+1,j,L=>match d9 L j with
  |some i=>xA H n (j+1) (Mq H i L)
  |none=>L
def xB(H:Hs U):List (Va U)→List Nat→List Nat
 | [],L=>L
 |x::r,L=>xB H r (yP H x.l L)
def sJ(L:List Nat)(i:Nat):Nat→(Nat→Prop)→Prop:=
 List.rec (motive:=fun _=>Nat→(Nat→Prop)→Prop) (fun _ _=>False) (fun j _ ih c K=>bif Nat.beq j i then K c else ih (c+1) K) L
def Cf(L:List Nat):(List Nat→Prop)→Prop:=
 List.rec (motive:=fun _=>(List Nat→Prop)→Prop) (fun K=>K []) (fun x _ ih K=>ih fun r=>K (x::r)) L
def zV(z:Bool)(v:Nat)(K:Nat→Prop):Prop:=match z with
 |true=>K 0
 |false=>K v
def uB(z:Bool)(H:Hs U)(L:List Nat)(x:Cx U)(K:Cx U→Prop):Prop:=match x with
 | .own i v=>(match aI H i with
  |some (.row v' _ _ _)=>bif Nat.beq v v' then sJ L i 0 fun j=>zV z v fun v=>K (.own j v)else K .un
  |some (.frz v' e xs)=>bif Nat.beq v v' then K (.d (.sl e) xs)else K .un
  |_=>K .un)
 | .ptr i o=>sJ L i 0 fun j=>K (.ptr j o)
 | .pel i v q o=>(match aI H i with
  |some (.row v' _ _ _)=>bif Nat.beq v v' then sJ L i 0 fun j=>zV z v fun v=>K (.pel j v q o)else K .un
  |_=>K .un)
 | .pax _ _ _ _ _ _=>K .un
 | .clo f (i:: [])=>sJ L i 0 fun j=>K (.clo f [j])
 | .clo _ _=>K .un
 | .mp i=>sJ L i 0 fun j=>K (.mp j)
 |x=>K x
def nQ(z:Bool)(H:Hs U)(L:List Nat)(l:List (ck U)):(List (ck U)→Prop)→Prop:=
 List.rec (motive:=fun _=>(List (ck U)→Prop)→Prop) (fun K=>K []) (fun x _ ih K=>uB z H L x.2 fun y=>ih fun r=>K ((x.1,y)::r)) l
def Gx(z:Bool)(H:Hs U)(L:List Nat)(x:aU U)(K:aU U→Prop):Prop:=match x with
 | .cells l t=>nQ z H L l fun l=>K (.cells l t)
 | .row v e xs t=>zV z v fun v=>K (.row v e xs t)
 | .frz _ _ _=>K .dead
 | .clo _ _=>K .dead
 | .map d l=>K (.map d l)
 | .mapr d l _ _ _=>K (.map d l)
 | .it _ _=>K .dead
 | .hid _ _ _=>K .dead
 | .dead=>K .dead
def sK(z:Bool)(H:Hs U)(L:List Nat)(M:List Nat):(List (aU U)→Prop)→Prop:=
 List.rec (motive:=fun _=>(List (aU U)→Prop)→Prop) (fun K=>K []) (fun i _ ih K=>match aI H i with
  |some x=>Gx z H L x fun y=>ih fun r=>K (y::r)
  |none=>False) M
def sL(z:Bool)(H:Hs U)(L:List Nat)(l:List (Va U)):(List (Va U)→Prop)→Prop:=
 List.rec (motive:=fun _=>(List (Va U)→Prop)→Prop) (fun K=>K []) (fun x _ ih K=>nQ z H L x.l fun l=>ih fun r=>K (⟨x.ag,l⟩::r)) l
def Cg(fs:List (Nat×Option bq)):Hs U→List (ck U)→(Hs U→List (ck U)→Prop)→Prop:=
 List.rec (motive:=fun _=>Hs U→List (ck U)→(Hs U→List (ck U)→Prop)→Prop) (fun H l K=>K H l) (fun x _ ih H l K=>tK 40 l x.1 fun l1=>ia 40 l x.1 fun l2=>match x.2 with
  |some s=>bif Nat.beq x.1 (aQ U s)then kP l1 H fun H l1=>du 20 s l1 fun u=>ih H l2 fun H r=>K H ((x.1,.d s u)::r)else False
  |none=>ih H l2 fun H r=>qV l1 r fun r=>K H r) fs
def xC(fs:List (Nat×Option bq))(j:Nat)(H:Hs U)(K:Hs U→Prop):Prop:=match aI H j with
 |some (.cells l t)=>Cg fs H l fun H l=>iy H j (.cells l t) K
 |_=>False
def LR(em:List (Nat×List (Nat×Option bq))):Hs U→(Hs U→Prop)→Prop:=
 List.rec (motive:=fun _=>Hs U→(Hs U→Prop)→Prop) (fun H K=>K H) (fun x _ ih H K=>xC x.2 x.1 H fun H=>ih H K) em
def IF(md:List Md):List (Va U)→Hs U→(Hs U→Prop)→Prop:=
 List.rec (motive:=fun _=>List (Va U)→Hs U→(Hs U→Prop)→Prop) (fun _ H K=>K H) (fun m _ ih l H K=>match l with
  | []=>K H
  |x::r=>(match m with
   | .p fs=>(match x with
    |⟨false,(_,.ptr j 0):: []⟩=>xC fs j H fun H=>ih r H K
    |⟨false,(_,.nilp):: []⟩=>ih r H K
    |_=>False)
   |_=>ih r H K)) md
def EU(md:List Md):List (Va U)→Hs U→(Hs U→List (Va U)→Prop)→Prop:=
 List.rec (motive:=fun _=>List (Va U)→Hs U→(Hs U→List (Va U)→Prop)→Prop) (fun l H K=>K H l) (fun m _ ih l H K=>match l with
  | []=>K H []
  |x::r=>(match m with
   | .d s=>yK s H x fun H t=>ih r H fun H r=>K H (⟨x.ag,[(aQ U s,.d s t)]⟩::r)
   |_=>ih r H fun H r=>K H (x::r))) md
def Ch(T:dO U)(js:List Nat):Hs U→(Hs U→List (Va U)→Prop)→Prop:=
 List.rec (motive:=fun _=>Hs U→(Hs U→List (Va U)→Prop)→Prop) (fun H K=>K H []) (fun j _ ih H K=>match aI H j with
  |some (.cells l t)=>(match aI T t with
   |some ti=>(match ti.sh with
    |some s=>kP l H fun H l=>du 20 s l fun x=>ih H fun H r=>K H (⟨false,[(1,.pd s x)]⟩::r)
    |none=>False)
   |none=>False)
  |_=>False) js
def yQ(c:bG U)(caps:List (Va U))(a:bq)(g:TT U.ty a→Bool):Prop:= ∀t:TT U.ty a,c.run (⟨e9 a,[(aQ U a,.d a t)]⟩::caps) [] fun r es=>r= .v ⟨false,[(1,.d .bool (g t))]⟩∧es= []
def yR(c:bG U)(caps:List (Va U))(a b:bq)(g:TT U.ty a→TT U.ty b→Int):Prop:= ∀(t:TT U.ty a) (t':TT U.ty b),c.run (⟨e9 a,[(aQ U a,.d a t)]⟩::⟨e9 b,[(aQ U b,.d b t')]⟩::caps) [] fun r es=>r= .v ⟨false,[(1,.d (.int .i64) (g t t'))]⟩∧es= []
def pY(G:jm U)(f:FuncId)(K:bG U→Prop):Prop:=match aI G f with
 |some c=>K c
 |none=>False
def Ci(T:dO U)(G:jm U)(a:bq)(x:Va U)(H:Hs U)(K:Hs U→(TT U.ty a→Bool)→List Nat→Prop):Prop:=match x with
 |⟨false,(_,.fn f):: []⟩=>pY G f fun c=> ∃g,yQ c [] a g∧K H g []
 |⟨false,(_,.clo f js):: []⟩=>Ch T js H fun H caps=>pY G f fun c=> ∃g,yQ c caps a g∧K H g js
 |⟨false,(_,.f1 a' g):: []⟩=>(match fw U.ty (fun x=>x→Bool) a' a g with
  |some g=>K H g []
  |none=>False)
 |_=>False
def Cj(T:dO U)(G:jm U)(a b:bq)(x:Va U)(H:Hs U)(K:Hs U→(TT U.ty a→TT U.ty b→Int)→List Nat→Prop):Prop:=match x with
 |⟨false,(_,.fn f):: []⟩=>pY G f fun c=> ∃g,yR c [] a b g∧K H g []
 |⟨false,(_,.clo f js):: []⟩=>Ch T js H fun H caps=>pY G f fun c=> ∃g,yR c caps a b g∧K H g js
 |⟨false,(_,.f2 a' b' g):: []⟩=>(match fw U.ty (fun x=>x→TT U.ty b'→Int) a' a g with
  |some g=>(match fw U.ty (fun y=>TT U.ty a→y→Int) b' b g with
   |some g=>K H g []
   |none=>False)
  |none=>False)
 |_=>False
def Gy(T:dO U)(G:jm U)(md:List Md):List (Va U)→Hs U→(Hs U→List (Va U)→List Nat→Prop)→Prop:=
 List.rec (motive:=fun _=>List (Va U)→Hs U→(Hs U→List (Va U)→List Nat→Prop)→Prop) (fun l H K=>K H l []) (fun m _ ih l H K=>match l with
  | []=>K H [] []
  |x::r=>(match m with
   | .d s=>yK s H x fun H t=>ih r H fun H r Z=>K H (⟨x.ag,[(aQ U s,.d s t)]⟩::r) Z
   | .f1 a=>Ci T G a x H fun H g js=>ih r H fun H r Z=>K H (⟨false,[(1,.f1 a g)]⟩::r) (js++Z)
   | .f2 a b=>Cj T G a b x H fun H g js=>ih r H fun H r Z=>K H (⟨false,[(1,.f2 a b g)]⟩::r) (js++Z)
   |_=>ih r H fun H r Z=>K H (x::r) Z)) md
def yS(L:List Nat):List Nat→Bool
 | []=>true
 |z::Z=>bif iV z L then false else yS L Z
def Ck(es:List (aU U)):List Nat→Nat→(List Nat→Nat→Prop)→Prop:=
 List.rec (motive:=fun _=>List Nat→Nat→(List Nat→Nat→Prop)→Prop) (fun _ n K=>K [] n) (fun _ _ ih L n K=>match L with
  |i::L=>ih L n fun l n=>K (i::l) n
  | []=>ih [] (n+1) fun l n'=>K (n::l) n') es
def uC(H:Hs U)(i v:Nat)(K:Nat→Prop):Prop:=match aI H i with
 |some (.row v0 _ _ _)=>K (v0+v)
 |_=>K v
def qh(H:Hs U)(L:List Nat)(x:Cx U)(K:Cx U→Prop):Prop:=match x with
 | .own j v=>(match d9 L j with
  |some i=>uC H i v fun v=>K (.own i v)
  |none=>K .un)
 | .ptr j o=>(match d9 L j with
  |some i=>K (.ptr i o)
  |none=>K .un)
 | .pel j v q o=>K .un
 | .pax _ _ _ _ _ _=>K .un
 | .clo f (j:: [])=>(match d9 L j with
  |some i=>K (.clo f [i])
  |none=>K .un)
 | .clo _ _=>K .un
 | .f1 _ _=>K .un
 | .f2 _ _ _=>K .un
 | .mp j=>(match d9 L j with
  |some i=>K (.mp i)
  |none=>K .un)
 |x=>K x
def nE(H:Hs U)(L:List Nat)(l:List (ck U)):(List (ck U)→Prop)→Prop:=
 List.rec (motive:=fun _=>(List (ck U)→Prop)→Prop) (fun K=>K []) (fun x _ ih K=>qh H L x.2 fun y=>ih fun r=>K ((x.1,y)::r)) l
def yT(H:Hs U)(L:List Nat)(i:Nat)(x:aU U)(K:aU U→Prop):Prop:=match x with
 | .cells l t=>nE H L l fun l=>K (.cells l t)
 | .row v e xs t=>uC H i v fun v=>K (.row v e xs t)
 | .frz v e xs=>uC H i v fun v=>K (.frz v e xs)
 | .clo _ _=>K .dead
 | .map d l=>K (.map d l)
 | .mapr _ _ _ _ _=>K .dead
 | .it _ _=>K .dead
 | .hid _ _ _=>K .dead
 | .dead=>K .dead
def qY(H:Hs U)(L:List Nat)(l:List (Va U)):(List (Va U)→Prop)→Prop:=
 List.rec (motive:=fun _=>(List (Va U)→Prop)→Prop) (fun K=>K []) (fun x _ ih K=>nE H L x.l fun l=>ih fun r=>K (⟨x.ag,l⟩::r)) l
def EV(H:Hs U)(L:List Nat)(x:AV U)(K:AV U→Prop):Prop:=match x with
 | .v x=>nE H L x.l fun l=>K (.v ⟨x.ag,l⟩)
 | .tup l=>qY H L l fun l=>K (.tup l)
 |_=>K .un
def Cm(H:Hs U)(i:Nat)(x:aU U)(K:Hs U→Prop):Prop:=match aI H i with
 |some _=>iy H i x K
 |none=>K ((i,x)::H)
def yU(H0:Hs U)(L:List Nat)(M:List Nat):List (aU U)→Hs U→(Hs U→Prop)→Prop:=
 List.rec (motive:=fun _=>List (aU U)→Hs U→(Hs U→Prop)→Prop) (fun _ H K=>K H) (fun i _ ih es H K=>match es with
  |x::r=>yT H0 L i x fun y=>Cm H i y fun H=>ih r H K
  | []=>False) M
def nR:List Nat→Bool
 | []=>true
 |i::r=>bif iV i r then false else nR r
def Gz(T:dO U)(G:jm U)(c:bG U)(xs:List (Va U))(n:Nat)(H:Hs U)(K:AV U→Nat→Hs U→Prop):Prop:=
 IF c.md xs H fun H=>Gy T G c.md xs H fun H xs Z=>Cf (xA H 30 0 (xB H xs [])) fun L=>bif nR L&&yS L Z then sL true H L xs fun ys=>sK true H L L fun es=>c.run ys es fun r es=>Ck es L n fun L2 n2=>EV H L2 r fun r=>yU H L2 L2 es H fun H=>K r n2 H else False
def EW(T:dO U)(G:jm U)(f:FuncId)(xs:List (Va U))(n:Nat)(H:Hs U)(K:AV U→Nat→Hs U→Prop):Prop:=match aI G f with
 |some c=>Gz T G c xs n H K
 |none=>False
def GA(s:bq)(H:Hs U)(y:Cx U)(K:List (TT U.ty s)→Prop):Prop:=match y with
 | .nils=>K []
 |y=>uz H y fun e ys=>(match fw U.ty List e s ys with
  |some ys=>K ys
  |none=>False)
def IG(U:cw)(s:bq)(ei:TI U):Bool:=Nat.beq ei.sz (aQ U s)&&Nat.blt 0 (aQ U s)&&Nat.blt 0 ei.by_
def I5(T:dO U)(t:Nat)(H:Hs U)(n:Nat)(x y:Cx U)(K:AV U→Nat→Hs U→Prop):Prop:=ES T t fun el ei=>match ei.sh with
 |some s=>bif IG U s ei then GA s H y fun ys=>(match x with
  | .nils=>VS (ys.length*ei.by_≤140737488355328) (K (.v ⟨false,[(1,.own n 0)]⟩) (n+1) ((n,.row 0 s ys el)::H))
  | .own i v=>(match aI H i with
   |some (.row v' e' xs u)=>bif Nat.beq v v'&&Nat.beq u el then(match fw U.ty List e' s xs with
    |some xs=>VS ((xs.length+ys.length)*ei.by_≤140737488355328) (iy H i (.row (v+1) s (xs++ys) u) fun H=>K (.v ⟨false,[(1,.own i (v+1))]⟩) n H)
    |none=>False)else False
   |_=>False)
  |_=>False)else False
 |none=>False
def I6(T:dO U)(t:Nat)(H:Hs U)(n:Nat)(q r:Int)(K:AV U→Nat→Hs U→Prop):Prop:=ES T t fun el ei=>match ei.sh with
 |some s=>bif IG U s ei then du 20 s ei.zero fun z=>VS (0≤q∧q≤r∧r≤281474976710656∧ei.by_*r.toNat≤281474976710656) (K (.v ⟨false,[(1,.own n 0)]⟩) (n+1) ((n,.row 0 s (List.replicate q.toNat z) el)::H))else False
 |none=>False
def Mr(c:Cx U)(xs:List (Va U))(H:Hs U)(K:AV U→Hs U→Prop):Prop:=match c,xs with
 | .f1 a g,x:: []=>bif x.ag==e9 a then yK a H x fun H t=>K (.v ⟨false,[(1,.d .bool (g t))]⟩) H else False
 | .f2 a b g,x::y:: []=>bif (x.ag==e9 a)&&(y.ag==e9 b)then yK a H x fun H t=>yK b H y fun H t'=>K (.v ⟨false,[(1,.d (.int .i64) (g t t'))]⟩) H else False
 |_,_=>False
def OT(c:Cx U)(xs:List (Va U))(K:Va U→Prop):Prop:=match c,xs with
 | .f1 a g,x:: []=>bif x.ag==e9 a then du 20 a x.l fun t=>K ⟨false,[(1,.d .bool (g t))]⟩else False
 | .f2 a b g,x::y:: []=>bif (x.ag==e9 a)&&(y.ag==e9 b)then du 20 a x.l fun t=>du 20 b y.l fun t'=>K ⟨false,[(1,.d (.int .i64) (g t t'))]⟩else False
 |_,_=>False
def GB(T:dO U)(t:Nat)(H:Hs U)(c:Cx U)(kv xv:Va U)(K:Hs U→Prop):Prop:=match c with
 | .mp i=>(match aI H i with
  |some (.map d l)=>bif xz T t d&&((kv.ag==e9 d.k)&&(xv.ag==e9 d.v))then du 20 d.k kv.l fun k=>yK d.v H xv fun H y=>iy H i (.map d (@cA _ _ d.dec l k y)) K else False
  |_=>False)
 |_=>False
def GC(T:dO U)(t:Nat)(H:Hs U)(c:Cx U)(kv:Va U)(K:Hs U→Prop):Prop:=match c with
 | .mp i=>(match aI H i with
  |some (.map d l)=>bif xz T t d&&(kv.ag==e9 d.k)then du 20 d.k kv.l fun k=>iy H i (.map d (@gN _ _ d.dec l k)) K else False
  |some (.mapr d l left _ gh)=>bif xz T t d&&(kv.ag==e9 d.k)then du 20 d.k kv.l fun k=>iy H i (.mapr d (@gN _ _ d.dec l k) (@gN _ _ d.dec left k) [] gh) K else False
  |_=>False)
 |_=>False
def GD(T:dO U)(t:Nat)(H:Hs U)(n:Nat)(c:Cx U)(K:Hs U→Prop):Prop:=match c with
 | .mp i=>(match aI H i with
  |some (.map d l)=>bif xz T t d then ∀gh,iy H i (.mapr d l l [] gh) fun H=>K ((n,.it i gh)::H)else False
  |_=>False)
 |_=>False
def I7{α:Type}(left:List α)(A:Prop)(B:List α→α→List α→Prop):Prop:=(left= []→A)∧ ∀a p b,left=a++p::b→B a p b
def GE(H:Hs U)(c:Cx U)(K:AV U→Hs U→Prop):Prop:=match c with
 | .ptr j 0=>(match aI H j with
  |some (.it i gh)=>(match aI H i with
   |some (.mapr d l left _ gh')=>VS (gh=gh') (I7 left (iy H j .dead fun H=>iy H i (.map d l) fun H=>K (.tup [⟨false,[(1,.d .bool false)]⟩]) H)
     fun a p b=> ∀gh2,iy H j (.it i gh2) fun H=>iy H i (.mapr d l (a++b) [p] gh2) fun H=>K (.tup [⟨false,[(1,.d .bool true)]⟩,sE d.k p.1,sE d.v p.2]) H)
   |_=>False)
  |_=>False)
 |_=>False
def oz(d:Option Nat)(A:Prop):Prop:=match d with
 |some _=>A
 |none=>False
def I8(d:Option Nat)(A:Prop):Prop:=match d with
 |some _=>False
 |none=>A
def yV(T:dO U)(G:jm U)(o:Oper)(R e:En U)(n:Nat)(H:Hs U)(K:AV U→Nat→Hs U→Prop):Prop:=match o.op with
 | .alloc t=>oz o.dst (match aI T t with
  |some ti=>K (.v ⟨false,[(1,.ptr n 0)]⟩) (n+1) ((n,.cells ti.zero t)::H)
  |none=>False)
 | .box t x=>oz o.dst (lL [] R e x fun v=>K (.v ⟨false,[(1,.ptr n 0)]⟩) (n+1) ((n,.cells v.l t)::H))
 | .makeMap t none=>oz o.dst (match aI T t with
  |some ti=>(match ti.mp with
   |some d=>K (.v ⟨false,[(1,.mp n)]⟩) (n+1) ((n,.map d [])::H)
   |none=>False)
  |none=>False)
 | .mapUpdate t m kx x=>I8 o.dst (jn [] R e m fun c=>lL [] R e kx fun kv=>lL [] R e x fun xv=>GB T t H c kv xv fun H=>K .un n H)
 | .range t x=>oz o.dst (jn [] R e x fun c=>GD T t H n c fun H=>K (.v ⟨false,[(1,.ptr n 0)]⟩) (n+1) H)
 | .next x false=>oz o.dst (jn [] R e x fun c=>GE H c fun v H=>K v n H)
 | .store t x y=>I8 o.dst (jn [] R e x fun c=>lL [] R e y fun w=>uA T t H c w fun H=>K .un n H)
 | .buildSlice t k ps=>oz o.dst (ES T t fun el ei=>match ei.sh with
  |some s=>bif Nat.beq ei.sz (aQ U s)&&Nat.blt 0 (aQ U s)&&Nat.ble (k*aQ U s) 1000 then Cb [] R e s k ps.toList 0 H fun H l=>K (.v ⟨false,[(1,.own n 0)]⟩) (n+1) ((n,.row 0 s l el)::H)else False
  |none=>False)
 | .makeSlice t x y=>oz o.dst (jn [] R e x fun c=>jn [] R e y fun d=>match c,d with
  | .d (.int _) q,.d (.int _) r=>I6 T t H n q r K
  |_,_=>False)
 | .call c=>(match c.callee with
  | .builtin .append=>(match c.args.toList,c.argTypes.toList with
   |x::y:: [],t::t':: []=>oz o.dst (bif Nat.beq t t' then jn [] R e x fun a=>jn [] R e y fun b=>I5 T t H n a b K else False)
   |_,_=>False)
  | .builtin .delete=>(match c.args.toList,c.argTypes.toList with
   |m::kx:: [],t::_:: []=>I8 o.dst (jn [] R e m fun c=>lL [] R e kx fun kv=>GC T t H c kv fun H=>K .un n H)
   |_,_=>False)
  | .value (.func f)=>qX [] R e c.args.toList fun xs=>EW T G f xs n H K
  | .value (.tmp s)=>oz o.dst (jn [] R e (.tmp s) fun x=>qX [] R e c.args.toList fun xs=>Mr x xs H fun v H=>K v n H)
  |_=>False)
 |_=>False
def lR(o:Oper):Bool:=match o.op with
 | .alloc _| .box _ _| .store _ _ _| .buildSlice _ _ _| .makeSlice _ _ _| .makeMap _ _| .mapUpdate _ _ _ _| .range _ _| .next _ _=>true
 | .call c=>(match c.callee with
  | .builtin .append| .builtin .copy| .builtin .clear| .builtin .delete=>true
  | .builtin _=>false
  |_=>true)
 |_=>false
abbrev KS(U:cw):=En U→Nat→Hs U→Prop
def Cn(T:dO U)(H:Hs U)(js:List Nat):(List (Va U)→Prop)→Prop:=
 List.rec (motive:=fun _=>(List (Va U)→Prop)→Prop) (fun K=>K []) (fun j _ ih K=>match aI H j with
  |some (.cells l t)=>(match aI T t with
   |some ti=>(match ti.sh with
    |some s=>du 20 s l fun x=>ih fun r=>K (⟨false,[(1,.pd s x)]⟩::r)
    |none=>False)
   |none=>False)
  |_=>False) js
def Co(T:dO U)(G:jm U)(H:Hs U)(a:bq)(x:Va U)(K:(TT U.ty a→Bool)→Prop):Prop:=match x with
 |⟨false,(_,.fn f):: []⟩=>pY G f fun c=> ∃g,yQ c [] a g∧K g
 |⟨false,(_,.clo f js):: []⟩=>Cn T H js fun caps=>pY G f fun c=> ∃g,yQ c caps a g∧K g
 |_=>False
def Cp(T:dO U)(G:jm U)(H:Hs U)(a b:bq)(x:Va U)(K:(TT U.ty a→TT U.ty b→Int)→Prop):Prop:=match x with
 |⟨false,(_,.fn f):: []⟩=>pY G f fun c=> ∃g,yR c [] a b g∧K g
 |⟨false,(_,.clo f js):: []⟩=>Cn T H js fun caps=>pY G f fun c=> ∃g,yR c caps a b g∧K g
 |_=>False
def IH(T:dO U)(G:jm U)(H:Hs U)(md:List Md):List (Va U)→(List (Va U)→Prop)→Prop:=
 List.rec (motive:=fun _=>List (Va U)→(List (Va U)→Prop)→Prop) (fun l K=>match l with| []=>K []|_=>False) (fun m _ ih l K=>match l with
  | []=>K []
  |x::r=>(match m with
   | .d s=>nQ true H [] x.l fun l=>du 20 s l fun t=>ih r fun r=>K (⟨x.ag,[(aQ U s,.d s t)]⟩::r)
   | .f1 a=>Co T G H a x fun g=>ih r fun r=>K (⟨false,[(1,.f1 a g)]⟩::r)
   | .f2 a b=>Cp T G H a b x fun g=>ih r fun r=>K (⟨false,[(1,.f2 a b g)]⟩::r)
   | .p _=>False
   | .n=>nQ true H [] x.l fun l=>ih r fun r=>K (⟨x.ag,l⟩::r))) md
def Cq:List (ck U)→Bool
 | []=>true
 |(_,x)::r=>match x with
  | .f1 _ _=>false
  | .f2 _ _ _=>false
  |_=>Cq r
def uD(T:dO U)(G:jm U)(p:dv)(o:Oper)(R e:En U)(n:Nat)(H:Hs U)(K:Va U→Prop):Prop:=match o.op with
 | .call c=>(match c.callee with
  | .value (.func f)=>(match aI G f with
   |some k=>qX p R e c.args.toList fun xs=> ∃x:Va U,qf R e p (IH T G H k.md xs fun xs=>k.run xs [] fun r es=>r= .v x∧es= [])∧Cq x.l=true∧K x
   |none=>False)
  | .value (.tmp s)=>jn p R e (.tmp s) fun x=>qX p R e c.args.toList fun xs=>OT x xs K
  |_=>False)
 |_=>False
def yW:List (Nat×Operand)→Nat→Nat→Bool
 | [],j,k=>Nat.beq j k
 |(i,_)::r,j,k=>Nat.beq i j&&yW r (j+1) k
def Ms(s:bq)(H:Hs U)(l:List (Va U)):(List (TT U.ty s)→Prop)→Prop:=
 List.rec (motive:=fun _=>(List (TT U.ty s)→Prop)→Prop) (fun K=>K []) (fun x _ ih K=>nQ true H [] x.l fun l=>du 20 s l fun a=>ih fun r=>K (a::r)) l
def wa(T:dO U)(G:jm U)(p:dv)(o:Oper)(R e:En U)(n:Nat)(H:Hs U)(K:Va U→Prop):Prop:=match o.op with
 | .buildSlice t k ps=>ES T t fun _ ei=>match ei.sh with
  |some s=>bif Nat.beq ei.sz (aQ U s)&&Nat.blt 0 (aQ U s)&&Nat.ble (k*aQ U s) 1000&&yW ps.toList 0 k then qX p R e (ps.toList.map (·.2)) fun xs=>Ms s H xs fun l=>K ⟨false,[(1,.d (.sl s) l)]⟩else False
  |none=>False
 |_=>uD T G p o R e n H K
abbrev KR(U:cw):=En U→Nat→Hs U→En U→List Nat→KS U→Prop
def sN(rest:KR U)(d:Option Nat)(v:AV U)(e:En U)(n:Nat)(H:Hs U)(R:En U)(S:List Nat)(K:KS U):Prop:=match d with
 |some d=>bif iV d S then False else rest ((d,v)::e) n H R S K
 |none=>rest e n H R S K
def putG(rest:KR U)(s:Nat)(d:Option Nat)(p:dv)(x:Va U)(e:En U)(n:Nat)(H:Hs U)(R:En U)(S:List Nat)(K:KS U):Prop:=match d with
 |some d=>(match aI e d with
  |none=>bif iV d S||Nat.beq d s then False else rest e n H ((d,.gd p x)::R) (d::s::S) K
  |some _=>False)
 |none=>False
def xD(T:dO U)(G:jm U)(o:Oper)(rest:KR U)(s:Nat)(p:dv)(e:En U)(n:Nat)(H:Hs U)(R:En U)(S:List Nat)(K:KS U):Prop:=match lR o with
 |true=>wa T G p o R e n H fun v=>putG rest s o.dst p v e n H R S K
 |false=>kU (qf R e p) T p o R e H fun v=>(match v with
  | .v v=>putG rest s o.dst p v e n H R S K
  |_=>False)
def Cr(o:Oper)(v:AV U)(A:Prop):Prop:=match o.op with
 | .call c=>(match c.callee with
  | .builtin .len=>(match v with
   | .v ⟨false,(_,.d (.int k) q):: []⟩=>eF k q→A
   |_=>A)
  |_=>A)
 |_=>A
def fJ(T:dO U)(G:jm U)(all:List Oper)(o:Oper)(rest:KR U)(e:En U)(n:Nat)(H:Hs U)(R:En U)(S:List Nat)(K:KS U):Prop:=match o.guard with
 |none=>(match lR o with
  |true=>yV T G o R e n H fun v n H=>sN rest o.dst v e n H R S K
  |false=>kU (fun P=>P) T [] o R e H fun v=>Cr o v (sN rest o.dst v e n H R S K))
 |some (j,b)=>(match d9 all j with
  |some oj=>(match oj.dst with
   |some s=>(match aI R s with
    |some (.gd p ⟨false,(_,.d .bool _):: []⟩)=>xD T G o rest s ((s,b)::p) e n H R S K
    |some _=>False
    |none=>(match aI e s with
     |some (.v ⟨false,(_,.d .bool _):: []⟩)=>xD T G o rest s [(s,b)] e n H R S K
     |_=>False))
   |none=>False)
  |none=>False)
def xE(p:Nat→Bool)(H:Hs U):(Hs U→Prop)→Prop:=
 List.rec (motive:=fun _=>(Hs U→Prop)→Prop) (fun K=>K []) (fun x _ ih K=>ih fun r=>match p x.1,x.2 with
  |true,.row v e xs _=>K ((x.1,.hid v xs.length (aQ U e))::r)
  |true,.cells _ _=>K ((x.1,.dead)::r)
  |true,.map _ _=>K ((x.1,.dead)::r)
  |true,.mapr _ _ _ _ _=>K ((x.1,.dead)::r)
  |true,.it _ _=>K ((x.1,.dead)::r)
  |_,y=>K ((x.1,y)::r)) H
def Ct(p:Nat→Bool)(H:Hs U)(H':Hs U):(Hs U→Prop)→Prop:=
 List.rec (motive:=fun _=>(Hs U→Prop)→Prop) (fun K=>K []) (fun x _ ih K=>ih fun r=>match p x.1,aI H x.1,x.2 with
  |true,some (.row v e xs t),.hid v' _ _=>bif Nat.beq v v' then K ((x.1,.row v e xs t)::r)else False
  |true,some (.cells l t),.dead=>K ((x.1,.cells l t)::r)
  |true,some (.map d l),.dead=>K ((x.1,.map d l)::r)
  |true,some (.mapr d l l' q g),.dead=>K ((x.1,.mapr d l l' q g)::r)
  |true,some (.it i g),.dead=>K ((x.1,.it i g)::r)
  |_,_,y=>K ((x.1,y)::r)) H'
def I9:List Md→Bool
 | []=>false
 |m::r=>match m with
  | .p _=>true
  |_=>I9 r
def xF(G:jm U)(o:Oper):Bool:=match o.op with
 | .call c=>(match c.callee with
  | .value (.func f)=>(match aI G f with
   |some k=>I9 k.md
   |none=>false)
  |_=>false)
 |_=>false
def qi(T:dO U)(G:jm U)(p:Nat→Bool)(q:dv)(o:Oper)(R e:En U)(n:Nat)(H:Hs U)(K:Va U→Prop):Prop:=match o.op with
 | .call c=>(match c.callee with
  | .value (.func f)=>(match aI G f with
   |some k=>qX q R e c.args.toList fun xs=>xE (fun i=>!p i) H fun Hk=> ∃x:Va U,qf R e q (Gz T G k xs n Hk fun r n' H'=>r= .v x∧n'=n∧Ct (fun i=>!p i) H H' fun L=>L=H)∧K x
   |none=>False)
  |_=>False)
 |_=>False
def j2(T:dO U)(G:jm U)(all:List Oper)(p:Nat→Bool)(o:Oper)(rest:KR U)(e:En U)(n:Nat)(H:Hs U)(R:En U)(S:List Nat)(K:KS U):Prop:=match o.guard with
 |none=>False
 |some (j,b)=>(match d9 all j with
  |some oj=>(match oj.dst with
   |some s=>(match aI R s with
    |some (.gd q ⟨false,(_,.d .bool _):: []⟩)=>qi T G p ((s,b)::q) o R e n H fun v=>putG rest s o.dst ((s,b)::q) v e n H R S K
    |some _=>False
    |none=>(match aI e s with
     |some (.v ⟨false,(_,.d .bool _):: []⟩)=>qi T G p [(s,b)] o R e n H fun v=>putG rest s o.dst [(s,b)] v e n H R S K
     |_=>False))
   |none=>False)
  |none=>False)
def oA(T:dO U)(G:jm U)(all l:List Oper):KR U:=
 List.rec (motive:=fun _=>KR U) (fun e n H _ _ K=>K e n H) (fun o _ ih=>match o.guard with
  |none=>fJ T G all o ih
  |some _=>bif xF G o then j2 T G all (fun _=>true) o ih else fJ T G all o ih) l
def kV(T:dO U)(G:jm U)(all:List Oper)(p:Nat→Bool)(how:Bool)(o:Oper)(rest:KR U)(e:En U)(n:Nat)(H:Hs U)(R:En U)(S:List Nat)(K:KS U):Prop:=match lR o,how with
 |true,true=>False
 |false,true=>xE p H fun Hu=>fJ T G all o (fun e _ _ R S K=>rest e n H R S K) e n Hu R S K
 |false,false=>fJ T G all o rest e n H R S K
 |true,false=>(match o.guard with
  |none=>xE (fun i=>!p i) H fun Hk=>yV T G o R e n Hk fun v n Hk=>Ct (fun i=>!p i) H Hk fun H=>sN rest o.dst v e n H R S K
  |some _=>bif xF G o then j2 T G all p o rest e n H R S K else fJ T G all o rest e n H R S K)
def wb(T:dO U)(G:jm U)(all:List Oper)(mk:List Nat)(last:KR U)(pl:List (Bool×Nat)):KR U:=
 List.rec (motive:=fun _=>KR U) last (fun x _ ih=>match d9 all x.2 with
  |some o=>kV T G all (fun i=>iV i mk) x.1 o ih
  |none=>fun _ _ _ _ _ _=>False) pl
def kW(T:dO U)(G:jm U)(all:List Oper)(f:Option Nat):KR U:=match f with
 |none=>fun e n H _ _ K=>K e n H
 |some f=>(match d9 all f with
  |some o=>fJ T G all o (fun e n H _ _ K=>K e n H)
  |none=>fun _ _ _ _ _ _=>False)
def nF(ops:Array Oper)(f:Option Nat):List (Bool×Nat)→Array Bool→Bool
 | [],listed=>(match f with
  |none=>(Region.ready .any ops listed).isEmpty
  |some f=>Region.ready .any ops listed== [f]&&(Region.ready .any ops (listed.setIfInBounds f true)).isEmpty)
 |(true,i)::r,listed=>(Region.ready .any ops listed).contains i&&Region.free .any ops listed i&&(match f with|some f=>i !=f|none=>true)&&nF ops f r (listed.setIfInBounds i true)
 |(false,i)::r,listed=>Region.ready .any ops listed== [i]&&(match f with|some f=>i !=f|none=>true)&&nF ops f r (listed.setIfInBounds i true)
def uE(ops:Array Oper)(f:Option Nat)(pl:List (Bool×Nat)):Bool:=Region.noSelect ops&&(match f with|some f=>DJ .any ops f|none=>true)&&nF ops f pl (Array.replicate ops.size false)&&Nat.ble (pl.length+(match f with|some _=>1|none=>0)) ops.size
inductive Ot where
 |fin|nil|look (i:Nat) (r:Ot)|turn (i:Nat) (here more:Ot)
def sO(T:dO U)(G:jm U)(all:List Oper)(p:Nat→Bool)(last:KR U)(t:Ot):KR U:=
 Ot.rec (motive:=fun _=>KR U) last (fun _ _ _ _ _ _=>True)
  (fun i _ ih=>match d9 all i with
   |some o=>kV T G all p true o ih
   |none=>fun _ _ _ _ _ _=>False)
  (fun i _ _ ih ih2 e n H R S K=>(match d9 all i with
   |some o=>kV T G all p false o ih
   |none=>fun _ _ _ _ _ _=>False) e n H R S K∧ih2 e n H R S K) t
def Ja(i:Nat):List Nat→Bool
 |j::_=>Nat.beq j i
 | []=>false
def ic(ops:Array Oper)(f:Option Nat):Ot→Array Bool→Option (List Nat)→Bool
 | .fin,listed,none=>nF ops f [] listed
 | .nil,_,some L=>L.isEmpty
 | .look i r,listed,none=>(Region.ready .any ops listed).contains i&&Region.free .any ops listed i&&(match f with|some f=>i !=f|none=>true)&&ic ops f r (listed.setIfInBounds i true) none
 | .turn i a b,listed,none=>Ja i (Region.ready .any ops listed)&&ic ops f a (listed.setIfInBounds i true) none&&ic ops f b listed (some (Region.ready .any ops listed).tail)
 | .turn i a b,listed,some L=>Ja i L&&ic ops f a (listed.setIfInBounds i true) none&&ic ops f b listed (some L.tail)
 |_,_,_=>false
def Ot.h:Ot→Nat
 | .fin=>0
 | .nil=>0
 | .look _ r=>r.h+1
 | .turn _ a b=>max (a.h+1) b.h
def yX(ops:Array Oper)(f:Option Nat)(t:Ot):Bool:=Region.noSelect ops&&(match f with|some f=>DJ .any ops f|none=>true)&&ic ops f t (Array.replicate ops.size false) none&&Nat.ble (t.h+(match f with|some _=>1|none=>0)) ops.size
inductive II where
 |n|r|x (i:Nat)
abbrev KO(U:cw):=II→En U→Nat→Hs U→Prop
def Jb(b:En U→Nat→Hs U→KO U→Prop)(K:KO U)(o:II)(e:En U)(n:Nat)(H:Hs U):Prop:=match o with
 | .n=>b e n H K
 |o=>K o e n H
def Jc(i:Nat)(K:KO U)(o:II)(e:En U)(n:Nat)(H:Hs U):Prop:=match o with
 | .x j=>(bif Nat.beq i j then K .n e n H else K (.x j) e n H)
 |o=>K o e n H
def GF(a b:En U→Nat→Hs U→KO U→Prop)(e:En U)(n:Nat)(H:Hs U)(K:KO U)(v:Cx U):Prop:=match v with
 | .d .bool t=>yJ t (a e n H K) (b e n H K)
 |_=>False
def dy(φ:List (Nat×Nat))(k:Nat):Nat:=match aI φ k with
 |some i=>i
 |none=>k
def qZ(H:Hs U)(i v:Nat):Bool:=match aI H i with
 |some (.row v' _ _ _)=>Nat.beq v v'
 |_=>false
def uF(H:Hs U)(i:Nat):Bool:=match aI H i with
 |some (.map _ _)=>true
 |some (.mapr _ _ _ _ _)=>true
 |_=>false
def uG(H:Hs U)(i:Nat):Bool:=match aI H i with
 |some (.cells _ _)=>true
 |some (.it _ _)=>true
 |_=>false
def LS(s:bq)(t:TT U.ty s)(s':bq)(t':TT U.ty s')(A:Prop):Prop:=match fw U.ty (fun x=>x) s s' t with
 |some u=>u=t'∧A
 |none=>False
def GG(a:bq)(g:TT U.ty a→Bool)(a':bq)(g':TT U.ty a'→Bool)(A:Prop):Prop:=match fw U.ty (fun x=>x→Bool) a a' g with
 |some u=>u=g'∧A
 |none=>False
def GH(a b:bq)(g:TT U.ty a→TT U.ty b→Int)(a' b':bq)(g':TT U.ty a'→TT U.ty b'→Int)(A:Prop):Prop:=match fw U.ty (fun x=>x→TT U.ty b→Int) a a' g with
 |some u=>(match fw U.ty (fun y=>TT U.ty a'→y→Int) b b' u with
  |some u=>u=g'∧A
  |none=>False)
 |none=>False
def Jd(φ:List (Nat×Nat))(H':Hs U):List Nat→List Nat→Bool
 | [],[]=>true
 |k::ks,j::js=>Nat.beq (dy φ k) j&&uG H' k&&Jd φ H' ks js
 |_,_=>false
def GJ(φ:List (Nat×Nat))(n:Nat)(H H':Hs U)(x y:Cx U)(A:Prop):Prop:=match x,y with
 | .nils,.own k w=>bif Nat.ble n (dy φ k)&&qZ H' k w then A else False
 | .own i v,.own k w=>bif Nat.beq (dy φ k) i&&qZ H i v&&qZ H' k w then A else False
 | .own i v,.d s t'=>(match aI H i with
  |some (.frz v' e xs)=>bif Nat.beq v v' then LS (.sl e) xs s t' A else False
  |_=>False)
 | .ptr i o,.ptr k p=>bif Nat.beq (dy φ k) i&&Nat.beq o p&&uG H' k then A else False
 | .d s t,.d s' t'=>LS s t s' t' A
 | .nilp,.nilp=>A
 | .nils,.nils=>A
 | .nils,.d (.sl e) xs=>([]:List (TT U.ty e))=xs∧A
 | .nilf,.nilf=>A
 | .nilm,.nilm=>A
 | .mp i,.mp k=>bif Nat.beq (dy φ k) i&&uF H' k then A else False
 | .fn f,.fn g=>bif Nat.beq f g then A else False
 | .clo f js,.clo g ks=>bif Nat.beq f g&&Jd φ H' ks js then A else False
 | .f1 a g,.f1 a' g'=>GG a g a' g' A
 | .f2 a b g,.f2 a' b' g'=>GH a b g a' b' g' A
 |_,_=>False
def yY(φ:List (Nat×Nat))(n:Nat)(H H':Hs U)(l:List (ck U))(l':List (ck U))(A:Prop):Prop:=match l' with
 | []=>(match l with
  | []=>A
  |_=>False)
 |(m,.d (.st i) t)::l'=>tK 40 l m fun l1=>du 20 (.st i) l1 fun u=>u=t∧ia 40 l m fun l2=>yY φ n H H' l2 l' A
 |(m,.d (.arr k e) t)::l'=>tK 40 l m fun l1=>du 20 (.arr k e) l1 fun u=>u=t∧ia 40 l m fun l2=>yY φ n H H' l2 l' A
 |(m,y)::l'=>(match l with
  |(k,x)::l=>bif Nat.beq k m then GJ φ n H H' x y (yY φ n H H' l l' A)else False
  | []=>False)
termination_by structural l'
def LT(φ:List (Nat×Nat))(n:Nat)(e:En U)(H H':Hs U):En U→Prop→Prop
 | [],A=>A
 |(k,.v y)::r,A=>(match aI e k with
  |some (.v x)=>bif x.ag==y.ag then yY φ n H H' x.l y.l (LT φ n e H H' r A)else False
  |_=>False)
 |_,_=>False
def LU(φ:List (Nat×Nat))(b n:Nat)(H H':Hs U)(k:Nat)(x y:aU U)(A:Prop):Prop:=match x,y with
 |_,.dead=>A
 | .cells l t,.cells l' t'=>bif Nat.beq t t' then yY φ n H H' l l' A else False
 | .row v e xs t,.row v' e' xs' t'=>bif Nat.beq t t'&&(Nat.ble b k||Nat.beq v v')then(match fw U.ty List e e' xs with
  |some u=>u=xs'∧A
  |none=>False)else False
 | .map d l,.map d' l'=>(⟨d,l⟩:(d:KD U)×List (TT U.ty d.k×TT U.ty d.v))=⟨d',l'⟩∧A
 | .mapr d l r q g,.mapr d' l' r' q' g'=>(⟨d,(l,r,q)⟩:(d:KD U)×(List (TT U.ty d.k×TT U.ty d.v)×List (TT U.ty d.k×TT U.ty d.v)×List (TT U.ty d.k×TT U.ty d.v)))=⟨d',(l',r',q')⟩∧g=g'∧A
 | .it i g,.it k' g'=>bif Nat.beq (dy φ k') i&&uF H' k' then g=g'∧A else False
 |_,_=>False
def OU(b n:Nat)(φ:List (Nat×Nat))(k:Nat)(y:aU U)(A:Prop):Prop:=match y with
 | .row _ e xs _=>bif Nat.ble n (dy φ k)&&Nat.ble b k&&Nat.blt 0 (aQ U e)then xs= []∧A else False
 |_=>False
def GK(φ:List (Nat×Nat))(b n:Nat)(H H':Hs U):Hs U→Prop→Prop
 | [],A=>A
 |(k,y)::r,A=>(match aI H (dy φ k)with
  |some x=>LU φ b n H H' k x y (GK φ b n H H' r A)
  |none=>OU b n φ k y (GK φ b n H H' r A))
def uH(p:Nat→Bool):List Nat→Bool
 | []=>true
 |i::r=>bif p i then uH p r else false
def Je(b N:Nat)(φ:List (Nat×Nat))(n:Nat)(e:En U)(H:Hs U)(e':En U)(H':Hs U):Prop:=
 bif Nat.ble b N&&nR (H'.map (·.1))&&nR (H'.map fun p=>dy φ p.1)&&uH (fun i=>Nat.blt i N) (H'.map (·.1))&&uH (fun i=>Nat.ble b i) (φ.map (·.1))then GK φ b n H H' H' (LT φ n e H H' e' True)else False
def wc(φ:List (Nat×Nat))(H':Hs U):Hs U→List (ck U)
 | []=> []
 |(i,.row v _ _ _)::r=>bif iV i (H'.map fun p=>dy φ p.1)then wc φ H' r else(1,.own i v)::wc φ H' r
 |_::r=>wc φ H' r
def LV(b N:Nat)(φ:List (Nat×Nat))(n:Nat)(e:En U)(H:Hs U)(e':En U)(H':Hs U):Prop:=kP (wc φ H' H) H fun H _=>Je b N φ n e H e' H'
def wd(T:dO U)(G:jm U)(b:Nat)(ops:Array Oper)(e:En U)(n:Nat)(H:Hs U)(K:KS U):Prop:=
 (∃(pl:List (Bool×Nat)) (f:Option Nat) (mk:List Nat),uE ops f pl=true∧wb T G ops.toList mk (kW T G ops.toList f) pl e n H [] [] K)∨
 (∃(t:Ot) (f:Option Nat) (mk:List Nat) (N:Nat) (E:En U) (M:Hs U) (A:Prop),yX ops f t=true∧sO T G ops.toList (fun i=>iV i mk||Nat.ble n i) (kW T G ops.toList f) t e n H [] [] (fun e' n' H'=>A∧ ∃φ,Je b N φ n' e' H' E M)∧(A→K E N M))
def yZ(b:Nat)(a:En U→Nat→Hs U→KO U→Prop)(e:En U)(n:Nat)(H:Hs U)(K:KO U):Prop:=
 ∃(σ:Type) (N:Nat) (E:σ→En U) (M:σ→Hs U) (I:σ→Prop) (μ:σ→Nat),(∃φ s,I s∧LV b N φ n e H (E s) (M s))∧
  ∀s,I s→a (E s) N (M s) fun o e' n' H'=>match o with
   | .n=> ∃φ s',μ s'<μ s∧I s'∧LV b N φ n' e' H' (E s') (M s')
   |o=>K o e' n' H'
def aw(T:dO U)(G:jm U)(b:Nat)(c:Code):En U→Nat→Hs U→KO U→Prop:=
 Code.rec (motive:=fun _=>En U→Nat→Hs U→KO U→Prop)
  (fun e n H K=>K .n e n H)
  (fun _ ops d e n H K=>bif d then wd T G b ops e n H (K .n)else oA T G ops.toList ops.toList e n H [] [] (K .n))
  (fun _ _ a b e n H K=>a e n H (Jb b K))
  (fun c _ _ a b e n H K=>jn [] [] e c (GF a b e n H K))
  (fun i _ a e n H K=>a e n H (Jc i K))
  (fun _ a e n H K=>yZ b a e n H K)
  (fun _ _ _ _ _ _ _ _ _ _=>False)
  (fun i e n H K=>K (.x i) e n H)
  (fun _ _ _ _ _ _=>False)
  (fun _ e n H K=>K .n e n H)
  (fun _ _ _ _ _=>False)
  (fun e n H K=>K .r e n H)
  (fun _ _ _ _ _=>False)
  c
def y0(T:dO U)(l:List ResultVar)(e:En U)(H:Hs U):(List (Va U)→Prop)→Prop:=
 List.rec (motive:=fun _=>(List (Va U)→Prop)→Prop) (fun K=>K []) (fun r _ ih K=>match r with
  | .tmp t=>lL [] [] e (.tmp t) fun v=>ih fun l=>K (v::l)
  | .cell p t=>jn [] [] e (.tmp p) fun c=>sD T t H c fun v=>ih fun l=>K (v::l)) l
def GL(l:List (Va U))(K:AV U→Prop):Prop:=match l with
 |x:: []=>K (.v x)
 |l=>K (.tup l)
def xG:Nat→Nat→List Nat→Bool
 |_,0,_=>true
 |j,k+1,a::r=>bif Nat.beq a j then xG (j+1) k r else false
 |_,_+1,[]=>false
def Jf(T:dO U)(fn:Func)(md:List Md)(em:List (Nat×List (Nat×Option bq)))(b:Nat)(K:AV U→List (aU U)→Prop)(o:II)(e:En U)(n:Nat)(H:Hs U):Prop:=match o with
 | .x _=>False
 |_=>bif Nat.ble fn.results.toList.length 3 then y0 T fn.results.toList e H fun l=>IF md l H fun H=>LR em H fun H=>EU md l H fun H l=>Cf (xA H 30 0 (xB H l (List.range b))) fun L=>bif nR L&&xG 0 b L then sL false H L l fun l=>sK false H L L fun es=>GL l fun r=>K r es else False else False
def GM(T:dO U)(G:jm U)(fn:Func)(md:List Md)(em:List (Nat×List (Nat×Option bq)))(e:En U)(b:Nat)(H:Hs U)(K:AV U→List (aU U)→Prop):Prop:=match fn.body with
 |some c=>aw T G b c e b H (Jf T fn md em b K)
 |none=>False
end
end Go.Proofs.YtmpeiadlohbikaaGreatDoor.V
end

section
namespace Go.Proofs.YtmpeiadlohbikaaGreatDoor.V
open Go.RowKit
def gB:List Nat:= [0]
def Gv(w:World):Prop:= ∃mx,w.cell? ⟨0,0,none⟩=some (.int .i64 mx)
theorem Gv.fr{w w':World}{O:List Nat}(h:Gv w)(hf:Fr O w w')(hO: ∀o∈O,o∉gB):Gv w':=by
 obtain⟨mx,h⟩:=h;refine⟨mx,?_⟩;have hl:(0:Nat)<w.heap.size:=by
  unfold World.cell? at h;split at h
  ·rename_i c t x hb;exact cO hb
  ·cases h
 rw[hf.cell (p:=⟨0,0,none⟩) hl (fun h0=>hO 0 h0 (by simp[gB]))];exact h
theorem Gv.lt{w:World}(h:Gv w): ∀g∈gB,g<w.heap.size:=fun g hg=>by
 obtain⟨mx,h⟩:=h;have e:g=0:=by simpa[gB]using hg
 subst e;unfold World.cell? at h;split at h
 ·rename_i c t x hb;exact cO hb
 ·cases h
end Go.Proofs.YtmpeiadlohbikaaGreatDoor.V
end

section
set_option linter.unusedVariables false
set_option linter.unusedSimpArgs false
namespace Go.Proofs.YtmpeiadlohbikaaGreatDoor.V
open Go.RowKit
class ay where
 xf:List Nat
 pr:Program
def sF(Y:List Nat)(S:World→Prop)(A:Option Addr)(cs:List Value):Prop:= ∀w,S w→lE Y w A cs
mutual
inductive aK(U:cw)(Y:List Nat)(S:World→Prop):(s:bq)→TT U.ty s→List Value→Prop
 |int (k:IntKind) (p:Int) (h:eF k p):aK U Y S (.int k) p [.int k p]
 |bool (b:Bool):aK U Y S .bool b [.bool b]
 |str (s:List UInt8) (h:s.length≤9223372036854775807):aK U Y S .str s [sv s]
 |st (i:Nat) (t:U.ty i) (vs:List Value) (h:bY U Y S (U.rd i).fs ((U.rd i).to t) vs) (hl:vs.length=(U.rd i).sz):aK U Y S (.st i) t vs
 |arr (n:Nat) (e:bq) (xs:List (TT U.ty e)) (vs:List Value) (h:ba U Y S e xs vs) (hn:xs.length=n):aK U Y S (.arr n e) xs vs
 |sl (e:bq) (xs:List (TT U.ty e)) (A:Option Addr) (c:Nat) (cs:List Value) (h:ba U Y S e xs cs) (hr:sF Y S A cs) (hc:xs.length≤c) (hm:c≤maxLen):aK U Y S (.sl e) xs [.slice A xs.length c]
inductive bY(U:cw)(Y:List Nat)(S:World→Prop):(fs:List (Nat×bq))→ut U.ty fs→List Value→Prop
 |nil:bY U Y S [] () []
 |cons (k:Nat) (s:bq) (r:List (Nat×bq)) (a:TT U.ty s) (b:ut U.ty r) (vs us:List Value) (h:aK U Y S s a vs) (hl:vs.length=k) (hr:bY U Y S r b us):bY U Y S ((k,s)::r) (a,b) (vs++us)
inductive ba(U:cw)(Y:List Nat)(S:World→Prop):(e:bq)→List (TT U.ty e)→List Value→Prop
 |nil (e:bq):ba U Y S e [] []
 |cons (e:bq) (x:TT U.ty e) (xs:List (TT U.ty e)) (vs us:List Value) (h:aK U Y S e x vs) (hl:vs.length=aQ U e) (hr:ba U Y S e xs us):ba U Y S e (x::xs) (vs++us)
end
section
variable {U:cw} {Y:List Nat} {S:World→Prop}
def Gw(U:cw)(Y:List Nat)(S:World→Prop):(s:bq)→TT U.ty s→List Value→Prop
 | .int k=>fun p vs=>vs= [.int k p]∧eF k p
 | .bool=>fun b vs=>vs= [.bool b]
 | .str=>fun s vs=>vs= [sv s]∧List.length (α:=UInt8) s≤9223372036854775807
 | .st i=>fun t vs=>bY U Y S (U.rd i).fs ((U.rd i).to t) vs∧vs.length=(U.rd i).sz
 | .arr n e=>fun xs vs=>ba U Y S e xs vs∧List.length (α:=TT U.ty e) xs=n
 | .sl e=>fun xs vs=> ∃A c cs,vs= [.slice A (List.length (α:=TT U.ty e) xs) c]∧ba U Y S e xs cs∧sF Y S A cs∧List.length (α:=TT U.ty e) xs≤c∧c≤maxLen
theorem aK.inv{s:bq}{t:TT U.ty s}{vs:List Value}(h:aK U Y S s t vs):Gw U Y S s t vs:=by
 cases h with
 |int k p h=>exact⟨rfl,h⟩
 |bool b=>exact rfl
 |str s h=>exact⟨rfl,h⟩
 |st i t vs h hl=>exact⟨h,hl⟩
 |arr n e xs vs h hn=>exact⟨h,hn⟩
 |sl e xs A c cs h hr hc hm=>exact⟨A,c,cs,rfl,h,hr,hc,hm⟩
def Ce(U:cw)(Y:List Nat)(S:World→Prop):(fs:List (Nat×bq))→ut U.ty fs→List Value→Prop
 | [],_,vs=>vs= []
 |(k,s)::r,t,vs=> ∃v1 v2,vs=v1++v2∧aK U Y S s t.1 v1∧v1.length=k∧bY U Y S r t.2 v2
theorem bY.inv{fs:List (Nat×bq)}{t:ut U.ty fs}{vs:List Value}(h:bY U Y S fs t vs):Ce U Y S fs t vs:=by
 cases h with
 |nil=>exact rfl
 |cons k s r a b vs us h hl hr=>exact⟨vs,us,rfl,h,hl,hr⟩
theorem ba.nil_inv{e:bq}{vs:List Value}(h:ba U Y S e [] vs):vs= []:=by cases h;rfl
theorem ba.cons_inv{e:bq}{x:TT U.ty e}{xs:List (TT U.ty e)}{vs:List Value}(h:ba U Y S e (x::xs) vs): ∃v1 v2,vs=v1++v2∧aK U Y S e x v1∧v1.length=aQ U e∧ba U Y S e xs v2:=by
 cases h with
 |cons e x xs vs us h hl hr=>exact⟨vs,us,rfl,h,hl,hr⟩
theorem ba.length{e:bq}: ∀{xs:List (TT U.ty e)} {vs:List Value},ba U Y S e xs vs→vs.length=xs.length*aQ U e
 | [],vs,h=>by rw[h.nil_inv];simp
 |x::xs,vs,h=>by
  obtain⟨v1,v2,rfl,_,hl,hr⟩:=h.cons_inv;rw[List.length_append,hl,ba.length hr,List.length_cons,Nat.add_mul,Nat.one_mul,Nat.add_comm]
theorem aK.length: ∀{s:bq} {t:TT U.ty s} {vs:List Value},aK U Y S s t vs→vs.length=aQ U s
 | .int k,t,vs,h=>by rw[h.inv.1];rfl
 | .bool,t,vs,h=>by have e:=h.inv;rw[show vs=_ from e];rfl
 | .str,t,vs,h=>by rw[h.inv.1];rfl
 | .st i,t,vs,h=>h.inv.2
 | .arr n e,t,vs,h=>by
  obtain⟨h1,h2⟩:=h.inv;have:=ba.length h1;rw[this,h2];rfl
 | .sl e,t,vs,h=>by obtain⟨A,c,cs,e,_⟩:=h.inv;rw[e];rfl
theorem ba.app{e:bq}: ∀{xs ys:List (TT U.ty e)} {vs us:List Value},ba U Y S e xs vs→ba U Y S e ys us→ba U Y S e (xs++ys) (vs++us)
 | [],ys,vs,us,h,h'=>by rw[h.nil_inv];exact h'
 |x::xs,ys,vs,us,h,h'=>by
  obtain⟨v1,v2,rfl,h1,hl,hr⟩:=h.cons_inv;rw[List.append_assoc];exact .cons e x (xs++ys) v1 (v2++us) h1 hl (ba.app hr h')
theorem ba.at{e:bq}: ∀{xs:List (TT U.ty e)} {vs:List Value},ba U Y S e xs vs→ ∀(q:Nat) (x:TT U.ty e),xs[q]? =some x→aK U Y S e x ((vs.drop (q*aQ U e)).take (aQ U e))
 | [],vs,h,q,x,hq=>by simp at hq
 |y::xs,vs,h,q,x,hq=>by
  obtain⟨v1,v2,rfl,h1,hl,hr⟩:=h.cons_inv;cases q with
  |zero=>
   simp only[List.getElem?_cons_zero,Option.some.injEq]at hq;subst hq;rw[Nat.zero_mul,List.drop_zero,List.take_append_of_le_length (by omega),List.take_of_length_le (by omega)];exact h1
  |succ q=>
   simp only[List.getElem?_cons_succ]at hq;have:=ba.at hr q x hq;rw[show(q+1)*aQ U e=v1.length+q*aQ U e by rw[Nat.add_mul,Nat.one_mul,hl,Nat.add_comm],List.drop_append,List.drop_of_length_le (by omega),List.nil_append,Nat.add_sub_cancel_left];exact this
theorem ba.set{e:bq}: ∀{xs:List (TT U.ty e)} {vs:List Value},ba U Y S e xs vs→ ∀(q:Nat) (x:TT U.ty e) (us:List Value),aK U Y S e x us→q<xs.length→ba U Y S e (xs.set q x) (vs.take (q*aQ U e)++us++vs.drop (q*aQ U e+us.length))
 | [],vs,h,q,x,us,hx,hq=>by simp at hq
 |y::xs,vs,h,q,x,us,hx,hq=>by
  obtain⟨v1,v2,rfl,h1,hl,hr⟩:=h.cons_inv;have hul:=hx.length;cases q with
  |zero=>
   rw[Nat.zero_mul,List.take_zero,List.nil_append,Nat.zero_add,List.drop_append_of_le_length (by omega),List.drop_of_length_le (by omega),List.nil_append];exact .cons e x xs us v2 hx hul hr
  |succ q=>
   have ih:=ba.set hr q x us hx (by simpa using hq);have e1:(q+1)*aQ U e=v1.length+q*aQ U e:=by rw[Nat.add_mul,Nat.one_mul,hl,Nat.add_comm]
   rw[e1,List.take_length_add_append,Nat.add_assoc,List.drop_append,List.drop_of_length_le (by omega:v1.length≤v1.length+(q*aQ U e+us.length)),List.nil_append,Nat.add_sub_cancel_left,List.append_assoc,List.append_assoc];refine .cons e y _ v1 _ h1 hl ?_;rw[←List.append_assoc];exact ih
def ef(ag:Bool)(v:Value)(vs:List Value):Prop:=match ag with
 |true=>v= .agg vs.toArray
 |false=>vs= [v]
def lM [ay](Y:List Nat)(w w2:World):Prop:= ∃O,Fr O w w2∧ ∀o∈O,o∉ay.xf∧(o∈Y∨w.heap.size≤o)
def I4(u:Value):Prop:= ∃(f:FuncId) (ca:List Value),u= .func (.func f) #[] ca.toArray
def yu [ay](U:cw)(Y:List Nat)(S:World→Prop)(u:Value)(a:bq)(g:TT U.ty a→Bool):Prop:=I4 u∧ ∀w,S w→ ∀w2,lM Y w w2→ ∀t vs v,aK U gB (· =w2) a t vs→ef (e9 a) v vs→pA ay.pr u [v] w2 fun r w3=>r= .bool (g t)∧Fr [] w2 w3
def yv [ay](U:cw)(Y:List Nat)(S:World→Prop)(u:Value)(a b:bq)(g:TT U.ty a→TT U.ty b→Int):Prop:=I4 u∧ ∀w,S w→ ∀w2,lM Y w w2→ ∀t vs v t' vs' v',aK U gB (· =w2) a t vs→ef (e9 a) v vs→aK U gB (· =w2) b t' vs'→ef (e9 b) v' vs'→pA ay.pr u [v,v'] w2 fun r w3=>r= .int .i64 (g t t')∧eF .i64 (g t t')∧Fr [] w2 w3
def Mv [ay](Y:List Nat)(S:World→Prop)(Y':List Nat)(S':World→Prop):Prop:= ∀w',S' w'→ ∃w O,S w∧Fr O w w'∧(∀y∈O,y∈Y∧y∉ay.xf)∧ ∀y∈Y',y∈Y∨w.heap.size≤y
theorem Mv.sub [ay]{Y':List Nat}(h: ∀y∈Y',y∈Y):Mv Y S Y' S:=fun w' h'=>⟨w',[],h',Fr.refl _ _,fun _ hy=>(by cases hy),fun y hy=> .inl (h y hy)⟩
theorem Mv.fr [ay]{Y':List Nat}{S':World→Prop}(m:Mv Y S Y' S'): ∀w',S' w'→ ∃w,S w∧Fr Y w w'∧ ∀y∈Y',y∈Y∨w.heap.size≤y:=fun w' h'=>by
 obtain⟨w,O,h1,h2,h3,h4⟩:=m w' h';exact⟨w,h1,h2.mono fun y hy=>(h3 y hy).1,h4⟩
theorem Mv.later [ay]{Y':List Nat}{S':World→Prop}(m:Mv Y S Y' S'){w' w2:World}(h':S' w')(h:lM Y' w' w2): ∃w,S w∧lM Y w w2:=by
 obtain⟨w,O,h1,h2,h3,h4⟩:=m w' h';obtain⟨O',h5,h6⟩:=h;refine⟨w,h1,O++O',(h2.mono fun x hx=>List.mem_append_left _ hx).step h5 (fun y hy=> .inl (List.mem_append_right _ hy)),fun o ho=>?_⟩;rcases List.mem_append.1 ho with ho|ho
 ·exact⟨(h3 o ho).2,.inl (h3 o ho).1⟩
 ·refine⟨(h6 o ho).1,?_⟩;rcases(h6 o ho).2 with h|h
  ·exact h4 o h
  ·exact .inr (Nat.le_trans h2.size h)
theorem yu.mv [ay]{Y':List Nat}{S':World→Prop}(m:Mv Y S Y' S'){u:Value}{a:bq}{g:TT U.ty a→Bool}(h:yu U Y S u a g):yu U Y' S' u a g:=⟨h.1,fun w' hw' w2 h2=>by
 obtain⟨w,h3,h4⟩:=m.later hw' h2;exact h.2 w h3 w2 h4⟩
theorem yv.mv [ay]{Y':List Nat}{S':World→Prop}(m:Mv Y S Y' S'){u:Value}{a b:bq}{g:TT U.ty a→TT U.ty b→Int}(h:yv U Y S u a b g):yv U Y' S' u a b g:=⟨h.1,fun w' hw' w2 h2=>by
 obtain⟨w,h3,h4⟩:=m.later hw' h2;exact h.2 w h3 w2 h4⟩
theorem sF.mv [ay]{Y':List Nat}{S':World→Prop}{A:Option Addr}{cs:List Value}(h:sF Y S A cs)(m:Mv Y S Y' S'):sF Y' S' A cs:=fun w' hw'=>by
 obtain⟨w,hw,hf,hY⟩:=m.fr w' hw';exact(h w hw).stable hf hY
end
mutual
theorem aK.mv [ay]{U:cw}{Y Y':List Nat}{S S':World→Prop}(m:Mv Y S Y' S'){s:bq}{t:TT U.ty s}{vs:List Value}:aK U Y S s t vs→aK U Y' S' s t vs
 | .int k p h=> .int k p h
 | .bool b=> .bool b
 | .str s h=> .str s h
 | .st i t vs h hl=> .st i t vs (bY.mv m h) hl
 | .arr n e xs vs h hn=> .arr n e xs vs (ba.mv m h) hn
 | .sl e xs A c cs h hr hc hm=> .sl e xs A c cs (ba.mv m h) (hr.mv m) hc hm
theorem bY.mv [ay]{U:cw}{Y Y':List Nat}{S S':World→Prop}(m:Mv Y S Y' S'){fs:List (Nat×bq)}{t:ut U.ty fs}{vs:List Value}:bY U Y S fs t vs→bY U Y' S' fs t vs
 | .nil=> .nil
 | .cons k s r a b vs us h hl hr=> .cons k s r a b vs us (aK.mv m h) hl (bY.mv m hr)
theorem ba.mv [ay]{U:cw}{Y Y':List Nat}{S S':World→Prop}(m:Mv Y S Y' S'){e:bq}{xs:List (TT U.ty e)}{vs:List Value}:ba U Y S e xs vs→ba U Y' S' e xs vs
 | .nil e=> .nil e
 | .cons e x xs vs us h hl hr=> .cons e x xs vs us (aK.mv m h) hl (ba.mv m hr)
end
end Go.Proofs.YtmpeiadlohbikaaGreatDoor.V
end

/- The interpreter: operations and code. -/
import Derived.Test.YtfgofabojepcmaaGreatDoorSp2
import Derived.Laws.Build
import Derived.Stop.Asserts
import Derived.Test.YtfgofabojepcmaaGreatDoorSp1
section
set_option linter.unusedVariables false
set_option linter.unusedSimpArgs false
namespace Go.Proofs.YtfgofabojepcmaaGreatDoor
open Go.RowKit
section
variable [bF] {P:Program} {n d:Nat} {Q:EQ} {env:aK} {w:World} {o:Oper} {ops:Array Oper} {l:List Oper} {v:Value} {x y:Operand} {K:aK→World→Prop} {c:Code}
theorem sq{x y:Code}(h: ∀K:aK→World→Prop,(∀e v,Wp P n y Q e v→K e v)→Wp P n x (Th K Q) env w):Wp P n (.seq x y) Q env w:=bi h
theorem rg{id:Nat}{l:List Oper}(h:Ls P n l.toArray Q l env w)(hnd:l.all pi=true:=by rfl):Wp P n (.region id l.toArray false) Q env w:=aW h hnd
theorem Ln(hK: ∀e v,Wp P n c Q e v→K e v)(h:Wp P n c Q env w):Ls P n ops (Th K Q) [] env w:=bq (cg (hK _ _ h))
theorem sk(hK: ∀e v,Wp P n c Q e v→K e v)(h:Wp P n c Q env w):Wp P n .skip (Th K Q) env w:=dH (cg (hK _ _ h))
theorem Ly(h:(o.guard,o.dst,Nat.blt d n)=(none,some d,true))(hy:cb P n env (· =w) o v)(hk:Ls P n ops Q l ((d,v)::env) w):Ls P n ops Q (o::l) env w:=by
 simp only[Prod.mk.injEq]at h;exact aI (aR h.1) h.2.1 h.2.2 hy hk
theorem La(h:o.guard=none)(hk:cd P n env w o (fun env' w'=>Ls P n ops Q l env' w')):Ls P n ops Q (o::l) env w:=m6 (aR h) hk
theorem Lm(h:(o.guard,o.dst,Nat.blt d n,o.op,env.ev x)=(none,some d,true,.move x,some v))(hk:Ls P n ops Q l ((d,v)::env) w):Ls P n ops Q (o::l) env w:=by
 simp only[Prod.mk.injEq]at h;exact MC h.1 h.2.1 h.2.2.1 h.2.2.2.1 h.2.2.2.2 hk
theorem nD(h:(o.guard,o.dst,Nat.blt d n,o.op,env.ev x)=(none,some d,true,.assign x,some v))(hk:Ls P n ops Q l ((d,v)::env) w):Ls P n ops Q (o::l) env w:=by
 simp only[Prod.mk.injEq]at h;exact MD h.1 h.2.1 h.2.2.1 h.2.2.2.1 h.2.2.2.2 hk
section
variable {b:Operand} {c1 c2:Code} {t:Bool} {p:Prop} [Decidable p]
theorem cB(hb:env.ev b=some (.bool t))(h1:t=true→Wp P n c1 Q env w)(h2: ¬t=true→Wp P n c2 Q env w):Wp P n (.cond b c1 c2) Q env w:=iW hb h1 fun h=>h2 (by simp[h])
theorem cD(hb:env.ev b=some (.bool (decide p)))(h1:p→Wp P n c1 Q env w)(h2: ¬p→Wp P n c2 Q env w):Wp P n (.cond b c1 c2) Q env w:=iW hb (fun h=>h1 (of_decide_eq_true h)) fun h=>h2 (of_decide_eq_false h)
variable {s:Nat}
theorem bN{α:Type} [BEq α] [LawfulBEq α]{p q:α}(hb:env.get s=some (.bool (p !=q)))(h1: ¬p=q→Ls P n ops Q l ((s,.bool true)::env) w)(h2:p=q→Ls P n ops Q l ((s,.bool false)::env) w):Ls P n ops Q l env w:=sW s hb (fun h=>h1 (by simpa using h)) fun h=>h2 (by simpa using h)
end
end
section
variable [bF] {P:Program} {n:Nat} {env:aK} {S:World→Prop} {o:Oper} {v:Value} {x y:Operand} {t u:Nat} {k:IntKind} {p q:Int}
theorem Iy(h:(o.op,env.ev x,env.ev y)=(.binOp .lss t x y u,some (.int k p),some (.int k q))):cb P n env S o (.bool (decide (p<q))):=by simp only[Prod.mk.injEq]at h;exact Hj h.1 h.2.1 h.2.2
theorem MB(h:(o.op,env.ev x,env.ev y)=(.binOp .gtr t x y u,some (.int k p),some (.int k q))):cb P n env S o (.bool (decide (q<p))):=by simp only[Prod.mk.injEq]at h;exact Hl h.1 h.2.1 h.2.2
theorem GT{e:Nat}{b:Option Addr}{l c:Nat}(h:(o.op,env.ev x)=(.call {callee:= .builtin .len,args:= #[x],argTypes:= #[t]},some (.slice b l c)))(ht:P.underlying t=some (.slice e)):cb P n env S o (.int .i64 l):=by simp only[Prod.mk.injEq]at h;exact m9 h.1 h.2 ht
end
section
variable [bF] {P:Program} {n d:Nat} {env:aK} {o:Oper} {v u:Value} {x y:Operand} {t:Nat} {X X0:List Nat} {w w0:World} {H:bX} {K:List Kf} {cs ds us:List Value} {g k m ty:Nat} {Kk:aK→World→Prop}
theorem yl(i:Nat)(ht:cA P t=true)(st:St X w H K)(h:(o.op,env.ev x,H[i]?,cs[k]?)=(.load t x,some (.pointer (some ⟨g,k,none⟩)),some (some g,Cl cs ty),some v)):cb P n env (· =w) o v:=by
 simp only[Prod.mk.injEq]at h;exact br h.1 h.2.1 ht (fun _ e=>e▸st.hp) h.2.2.1 h.2.2.2
omit [bF]in
theorem St.q{A:Option Addr}{l c m:Nat}{cs:List Value}(h:St X w H K)(i:Nat)(hi:K[i]? =some (kS A l c m cs)):jA (bG H++X) w A l c m cs:=h.k hi
end
theorem KA{X0:List Nat}{w0:World}: ∀g',ao none=some g'→g'∈X0∨w0.heap.size≤g':=fun g' hg=>by cases hg
section
variable [bF] {α:Type} {enc:α→List Value} {P:Program} {n d:Nat} {env:aK} {o:Oper} {x y:Operand} {t e m by' c sc:Nat} {X X0:List Nat} {w w0:World} {H:bX} {K:List Kf} {A B:Option Addr} {sp z:List Value} {xs ys:List α} {Kk:aK→World→Prop}
theorem LQ(xs ys:List α)(i:Nat)(ht:bn P t=some (e,m))(hz:zeroCells P e=some z)(hby:(P.info? e).map (·.bytes)=some by')(hm: ∀x,(enc x).length=m)(h1: ∀x,∀v∈enc x,v.oneCell'=true)(how:Ow A xs.length c m (xs.flatMap enc) sp)(hn: ∀g,ao A=some g→g∈X0∨w0.heap.size≤g)(st:St X w H K)(hF:Fr X0 w0 w)
  (hsrc: ∀ad,B=some ad→ ∀j u,(ys.flatMap enc)[j]? =some u→w.cell? (ad.add j)=some u) (hB:B=none→ys.length=0)
  (h:(o.op,o.dst,Nat.blt d n,env.ev x,env.ev y,z.length,Nat.blt 0 m,H[i]?)=(.call {callee:= .builtin .append,args:= #[x,y],argTypes:= #[t,t]},some d,true,some (.slice A xs.length c),some (.slice B ys.length sc),m,true,some (ao A,Cl (xs.flatMap enc++sp) e))) (h63:xs.length+ys.length≤9223372036854775807) (hbytes:(xs.length+ys.length)*by'≤140737488355328)
  (hk: ∀A' c' sp' w',Ow A' (xs++ys).length c' m ((xs++ys).flatMap enc) sp'→(∀g,ao A'=some g→g∈X0∨w0.heap.size≤g)→St X w' (H.set i (ao A',Cl ((xs++ys).flatMap enc++sp') e)) K→Fr X0 w0 w'→Kk ((d,(.slice A' (xs++ys).length c'))::env) w'):cd P n env w o Kk:=by
 simp only[Prod.mk.injEq]at h;obtain⟨h2,h3,h4,h5,h6,h7,h8,h9⟩:=h;exact Ex (i:=i) h2 rfl h3 h4 h5 h6 ht hz h7 hby (by simpa using h8) hm how st.hp h9 hsrc hB h1 (by unfold maxLen;omega) hbytes fun A' c' sp' w' how' hp hf hnw=>hk A' c' sp' w' how' (fun g hg=>(hnw g hg).elim (hn g) (fun h=> .inr (Nat.le_trans hF.size h))) (st.setAny h9 hp hf hnw) (hF.step hf fun y hy=>hn y (by simpa using hy))
omit [bF]in
theorem St.rowN(enc:α→List Value)(st:St X w H K)(hF:Fr X0 w0 w)(m ty:Nat):St X w (H++ [(ao none,Cl (([]:List α).flatMap enc++ []) ty)]) K∧Ow none ([]:List α).length 0 m (([]:List α).flatMap enc) []∧(∀g',ao none=some g'→g'∈X0∨w0.heap.size≤g'):=⟨st.addN _,Ow.nil m,KA⟩
end
section
variable [bF] {P:Program} {n:Nat} {env:aK} {w:World} {c y:Code} {Q Q1:EQ} {K:aK→World→Prop}
end
section
variable [bF] {P:Program} {n d i:Nat} {env:aK} {S:World→Prop} {Q:EQ} {w:World} {o:Oper} {ops:Array Oper} {pl:List (Bool×Nat)} {v:Value} {x:Operand}
end
theorem GU{X:List Nat}{w:World}(hX:Lo X w):St X w [] []:=St.nil hX
theorem KB{X:List Nat}{w:World}{A0:Option Addr}{l0 c0 m0:Nat}{s0:List Value}(hX:Lo X w)(h0:jA X w A0 l0 c0 m0 s0):St X w [] [kS A0 l0 c0 m0 s0]:=(GU hX).addK (kS A0 l0 c0 m0 s0) h0
theorem KC{X:List Nat}{w:World}{A0:Option Addr}{l0 c0 m0:Nat}{s0:List Value}{A1:Option Addr}{l1 c1 m1:Nat}{s1:List Value}(hX:Lo X w)(h0:jA X w A0 l0 c0 m0 s0)(h1:jA X w A1 l1 c1 m1 s1):St X w [] [kS A0 l0 c0 m0 s0,kS A1 l1 c1 m1 s1]:=(KB hX h0).addK (kS A1 l1 c1 m1 s1) h1
theorem KE{X:List Nat}{w:World}{A0:Option Addr}{l0 c0 m0:Nat}{s0:List Value}{A1:Option Addr}{l1 c1 m1:Nat}{s1:List Value}{A2:Option Addr}{l2 c2 m2:Nat}{s2:List Value}(hX:Lo X w)(h0:jA X w A0 l0 c0 m0 s0)(h1:jA X w A1 l1 c1 m1 s1)(h2:jA X w A2 l2 c2 m2 s2):St X w [] [kS A0 l0 c0 m0 s0,kS A1 l1 c1 m1 s1,kS A2 l2 c2 m2 s2]:=(KC hX h0 h1).addK (kS A2 l2 c2 m2 s2) h2
end Go.Proofs.YtfgofabojepcmaaGreatDoor
end

section
set_option linter.unusedVariables false
set_option linter.unusedSimpArgs false
namespace Go.Proofs.YtfgofabojepcmaaGreatDoor
open Go.RowKit
theorem gU{P:Program}{t:Nat}{ms:Array (String×TypeId)}(ht:P.underlying t=some (.interface ms))(d:Nat)(w:World):(Op.equalIn (d+1) t .nilIface .nilIface).run P w= .ok true w:=by
 simp[Op.equalIn,run_underlying ht]
theorem fw{P:Program}{t u:Nat}{v:Value}{ms:Array (String×TypeId)}(ht:P.underlying t=some (.interface ms))(d:Nat)(w:World):(Op.equalIn (d+1) t (.iface u v) .nilIface).run P w= .ok false w:=by
 simp[Op.equalIn,run_underlying ht]
section
variable [bF] {P:Program} {n:Nat} {env:aK} {S:World→Prop} {o:Oper}
theorem Ca{t:Nat}{x:Operand}{v:Value}(ho:o.op= .makeInterface t x)(hx:env.ev x=some v)(ht:P.concrete t=true):cb P n env S o (.iface t v):=fun a r w _=>by
 have h:=run_makeInterface (P:=P) w t v ht;unfold execOp;simp only[ho,r.eval hx,Sem.run_bind,h,Result.andThen_ok];rfl
theorem iT{x:Operand}{t u:Nat}{ms:Array (String×TypeId)}{b:Bool}{v:Value}(ho:o.op= .binOp .eql t x (.const .nilIface) u)(hx:env.ev x=some v)(ht:P.underlying t=some (.interface ms))(hv: ∀d w,(Op.equalIn (d+1) t v .nilIface).run P w= .ok b w)(hv0: ∀w y,(eqGuard .eql t y (.const .nilIface) v .nilIface).run P w= .ok () w):cb P n env S o (.bool b):=fun a r w _=>by
 have h:=hv 9999 w;have hg:=hv0 w x;unfold execOp;have ey:a.eval (.const .nilIface)= .nilIface:=rfl;simp only[ho,r.eval hx,ey,Sem.run_bind,hg,Result.andThen_ok,binOp];simp only[Op.equal,Op.maxDepth,h,Result.andThen_ok];rfl
theorem sT{x:Operand}{t u:Nat}{ms:Array (String×TypeId)}{b:Bool}{v:Value}(ho:o.op= .binOp .neq t x (.const .nilIface) u)(hx:env.ev x=some v)(ht:P.underlying t=some (.interface ms))(hv: ∀d w,(Op.equalIn (d+1) t v .nilIface).run P w= .ok b w)(hv0: ∀w y,(eqGuard .neq t y (.const .nilIface) v .nilIface).run P w= .ok () w):cb P n env S o (.bool (!b)):=fun a r w _=>by
 have h:=hv 9999 w;have hg:=hv0 w x;unfold execOp;have ey:a.eval (.const .nilIface)= .nilIface:=rfl;simp only[ho,r.eval hx,ey,Sem.run_bind,hg,Result.andThen_ok,binOp];simp only[Op.equal,Op.maxDepth,h,Result.andThen_ok];rfl
end
end Go.Proofs.YtfgofabojepcmaaGreatDoor
end

section
set_option linter.unusedVariables false
namespace Go.Proofs.YtfgofabojepcmaaGreatDoor.V
open Go.RowKit
inductive dr where
 |nil|num (e:Int)|flt (at_:Int) (e:dr)|oth deriving DecidableEq
instance:Inhabited dr:=⟨.nil⟩
inductive bj where
 |int (k:IntKind)|bool|str|st (i:Nat)|arr (n:Nat) (e:bj)|sl (e:bj)|err
def e8:bj→Bool
 | .st _| .arr _ _=>true
 |_=>false
def TT(ty:Nat→Type):bj→Type
 | .int _=>Int| .bool=>Bool| .str=>List UInt8| .st i=>ty i| .arr _ e=>List (TT ty e)| .sl e=>List (TT ty e)| .err=>dr
def qJ(ty:Nat→Type):List (Nat×bj)→Type
 | []=>Unit
 |x::r=>TT ty x.2×qJ ty r
structure RD(ty:Nat→Type)(S:Type) where
 sz:Nat
 fs:List (Nat×bj)
 to:S→qJ ty fs
 toK:S→(qJ ty fs→Prop)→Prop
 ofK:qJ ty fs→(S→Prop)→Prop
 ixK:List S→Int→(S→Prop)→Prop
 eqK:S→S→(Bool→Prop)→Prop
 sz_ok:(fs.map (·.1)).sum=sz
 toK_ok: ∀x K,toK x K→K (to x)
 ofK_ok: ∀a K,ofK a K→ ∃x,K x∧to x=a
 ixK_ok: ∀l q K,ixK l q K→ ∃x,K x∧ ∀y,l[q.toNat]? =some y→x=y
 eqK_ok: ∀a b K,eqK a b K→ ∃t:Bool,K t∧(t=true↔a=b)
structure bJ where
 ty:Nat→Type
 rd:(i:Nat)→RD ty (ty i)
 eN:TypeId:=0 -- the type of errors' numbers
 eF:TypeId:=0 -- the type of pointers to faults
def aS(U:bJ):bj→Nat
 | .st i=>(U.rd i).sz
 | .arr n e=>n*aS U e
 |_=>1
def cZ:IntKind→Int→Prop
 | .i8,p=> -128≤p∧p≤127
 | .i16,p=> -32768≤p∧p≤32767
 | .i32,p=> -2147483648≤p∧p≤2147483647
 | .i64,p=> -9223372036854775808≤p∧p≤9223372036854775807
 | .u8,p=>0≤p∧p≤255
 | .u16,p=>0≤p∧p≤65535
 | .u32,p=>0≤p∧p≤4294967295
 | .u64,p=>0≤p∧p≤18446744073709551615
def nk(Y:List Nat)(S:World→Prop)(A:Option Addr)(cs:List Value):Prop:= ∀w,S w→kK Y w A cs
mutual
inductive aG(U:bJ)(Y:List Nat)(S:World→Prop):(s:bj)→TT U.ty s→List Value→Prop
 |int (k:IntKind) (p:Int) (h:cZ k p):aG U Y S (.int k) p [.int k p]
 |bool (b:Bool):aG U Y S .bool b [.bool b]
 |str (s:List UInt8) (h:s.length≤9223372036854775807):aG U Y S .str s [sv s]
 |st (i:Nat) (t:U.ty i) (vs:List Value) (h:ec U Y S (U.rd i).fs ((U.rd i).to t) vs) (hl:vs.length=(U.rd i).sz):aG U Y S (.st i) t vs
 |arr (n:Nat) (e:bj) (xs:List (TT U.ty e)) (vs:List Value) (h:ba U Y S e xs vs) (hn:xs.length=n):aG U Y S (.arr n e) xs vs
 |sl (e:bj) (xs:List (TT U.ty e)) (A:Option Addr) (c:Nat) (cs:List Value) (h:ba U Y S e xs cs) (hr:nk Y S A cs) (hc:xs.length≤c) (hm:c≤maxLen):aG U Y S (.sl e) xs [.slice A xs.length c]
 |enil:aG U Y S .err .nil [.nilIface]
 |enum (e:Int) (h:cZ .i64 e):aG U Y S .err (.num e) [.iface U.eN (.int .i64 e)]
 |eflt (a:Int) (e:dr) (g:Nat) (v:Value) (ha:cZ .i64 a) (h:aG U Y S .err e [v]) (hr:nk Y S (some ⟨g,0,none⟩) [.int .i64 a,v]):aG U Y S .err (.flt a e) [.iface U.eF (.pointer (some ⟨g,0,none⟩))]
 |eoth (t:TypeId) (v:Value) (h1:t≠U.eN) (h2:t≠U.eF):aG U Y S .err .oth [.iface t v]
inductive ec(U:bJ)(Y:List Nat)(S:World→Prop):(fs:List (Nat×bj))→qJ U.ty fs→List Value→Prop
 |nil:ec U Y S [] () []
 |cons (k:Nat) (s:bj) (r:List (Nat×bj)) (a:TT U.ty s) (b:qJ U.ty r) (vs us:List Value) (h:aG U Y S s a vs) (hl:vs.length=k) (hr:ec U Y S r b us):ec U Y S ((k,s)::r) (a,b) (vs++us)
inductive ba(U:bJ)(Y:List Nat)(S:World→Prop):(e:bj)→List (TT U.ty e)→List Value→Prop
 |nil (e:bj):ba U Y S e [] []
 |cons (e:bj) (x:TT U.ty e) (xs:List (TT U.ty e)) (vs us:List Value) (h:aG U Y S e x vs) (hl:vs.length=aS U e) (hr:ba U Y S e xs us):ba U Y S e (x::xs) (vs++us)
end
structure Rz where
 A:Option Addr
 c:Nat
 bs:List (List Nat):= []
abbrev rz(A:Option Addr)(c:Nat):Rz:={A:=A,c:=c}
def Rz.own(R:Rz):Option (Int×Nat×Nat×Nat)→List Nat
 |none=>R.bs.flatten
 |some (q,_)=>(R.bs.eraseIdx (q.toNat+1)).flatten
def L7(Y:List Nat)(S:World→Prop)(Y':List Nat)(S':World→Prop):Prop:= ∀w',S' w'→ ∃w,S w∧Fr Y w w'∧ ∀y∈Y',y∈Y∨w.heap.size≤y
structure XD(U:bJ) where
 e:bj
 ok:Option Int→List (TT U.ty e)→List Nat→(World→Prop)→Rz→(Nat→Obj)→Prop
 sz:0<aS U e
 mv: ∀{q:Option Int} {xs:List (TT U.ty e)} {Y Y':List Nat} {S S':World→Prop} {R:Rz} {C:Nat→Obj},L7 Y S Y' S'→ok q xs Y S R C→ok q xs Y' S' R C
 frz: ∀{xs:List (TT U.ty e)} {Y:List Nat} {S:World→Prop} {R:Rz} {C:Nat→Obj},ok none xs Y S R C→(∀g∈R.own none,g∉Y∧ ∀w,S w→w.heap[g]? =some (C g))→ ∃cs,ba U Y S e xs cs∧nk Y S R.A cs∧xs.length≤R.c∧R.c≤maxLen
 adr: ∀{q:Option Int} {xs:List (TT U.ty e)} {Y:List Nat} {S:World→Prop} {R:Rz} {C:Nat→Obj},ok q xs Y S R C→0<xs.length→ ∃g,R.A=some ⟨g,0,none⟩
 nil: ∀{Y:List Nat} {S:World→Prop} {C:Nat→Obj},ok none [] Y S ⟨none,0,[]⟩ C
inductive Cx(U:bJ) where
 |d (s:bj) (t:TT U.ty s)
 |own (i v:Nat)
 |ptr (i off:Nat)
 |pel (i v:Nat) (q:Int) (off:Nat)
 |pax (i off n:Nat) (e:bj) (q:Int) (o:Nat)-- into an array's element
 |pd (s:bj) (t:TT U.ty s)
 |nilp|nils|nilf|nilm
 |fn (f:FuncId)
 |clo (f:FuncId) (js:List Nat)-- a closure over variables of our own
 |f1 (a:bj) (g:TT U.ty a→Bool)-- a function value that computes g
 |f2 (a b:bj) (g:TT U.ty a→TT U.ty b→Int)
 |mp (i:Nat)
 |ifp (i:Nat)-- an error:a pointer to a fault of our own
 |bnd (f:FuncId) (s:bj) (t:TT U.ty s)-- a function with a first argument
 |un
abbrev bH(U:bJ):=Nat×Cx U
structure Va(U:bJ) where
 ag:Bool
 l:List (bH U)
inductive AV(U:bJ) where
 |v (x:Va U)
 |tup (l:List (Va U))
 |pan (z:Int)
 |gd (p:List (Nat×Bool)) (x:Va U)
 |un
structure KD(U:bJ) where
 kt:TypeId
 vt:TypeId
 k:bj
 v:bj
 dec:DecidableEq (TT U.ty k)
 enc:TT U.ty k→Value
 zero:TT U.ty v
inductive aN(U:bJ) where
 |cells (l:List (bH U)) (t:TypeId)
 |row (v:Nat) (e:bj) (xs:List (TT U.ty e)) (t:TypeId)
 |frz (v:Nat) (e:bj) (xs:List (TT U.ty e))
 |clo (f:FuncId) (l:List (bH U))
 |map (d:KD U) (l:List (TT U.ty d.k×TT U.ty d.v))
 |mapr (d:KD U) (l left cur:List (TT U.ty d.k×TT U.ty d.v)) (gh:Gh)-- a loop goes over it
 |it (i:Nat) (gh:Gh)-- an iterator
 |its (s:List UInt8) (p:Int)-- one over a string,at a place
 |ext (v:Nat) (d:XD U) (xs:List (TT U.ty d.e)) (op:Option (Int×Nat×Nat×Nat))-- of which an element's own row may be told by an entry of its own:the element,the place,the entry,its version
 |hid (v l m:Nat)-- a row of which only the header is known
 |dead
abbrev En(U:bJ):=List (Nat×AV U)
abbrev Hs(U:bJ):=List (Nat×aN U)
def aB{α:Type}:List (Nat×α)→Nat→Option α
 | [],_=>none
 |(j,v)::r,k=>bif Nat.beq j k then some v else aB r k
def cL{α:Type}:List α→Nat→Option α
 | [],_=>none
 |a::_,0=>some a
 |_::r,n+1=>cL r n
inductive Kd where
 |int (k:IntKind)|bool|str|sl (e:Nat)|ptr (e:Nat)|st|arr (n e:Nat)|mp (k v:Nat)|fn|ifc
def qF:Kd→Bool
 | .st| .arr _ _=>true
 |_=>false
structure TI(U:bJ) where
 sz:Nat
 kd:Kd
 by_:Nat
 fs:List (Nat×Nat)-- fields:where they begin,their types
 sh:Option bj
 cmp:Bool -- a record's type whose values are compared
 zero:List (bH U)
 mp:Option (KD U):=none -- a map's type
abbrev cH(U:bJ):=List (Nat×TI U)
def lj:(ty:Nat→Type)→(F:Type→Type)→(i j:Nat)→F (ty i)→Option (F (ty j))
 |_,_,0,0,t=>some t
 |ty,F,i+1,j+1,t=>lj (fun n=>ty (n+1)) F i j t
 |_,_,_,_,_=>none
def ie:IntKind→IntKind→Bool
 | .i8,.i8| .i16,.i16| .i32,.i32| .i64,.i64| .u8,.u8| .u16,.u16| .u32,.u32| .u64,.u64=>true
 |_,_=>false
def ed(ty:Nat→Type):(F:Type→Type)→(s s':bj)→F (TT ty s)→Option (F (TT ty s'))
 |_,.int k,.int k',t=>bif ie k k' then some t else none
 |_,.bool,.bool,t=>some t
 |_,.str,.str,t=>some t
 |_,.err,.err,t=>some t
 |F,.st i,.st j,t=>lj ty F i j t
 |F,.arr n e,.arr m e',t=>bif Nat.beq n m then ed ty (fun x=>F (List x)) e e' t else none
 |F,.sl e,.sl e',t=>ed ty (fun x=>F (List x)) e e' t
 |_,_,_,_=>none
section
variable {U:bJ}
def CG:(fs:List (Nat×bj))→qJ U.ty fs→(List (bH U)→Prop)→Prop
 | [],_,K=>K []
 |(k,s)::r,(a,b),K=>CG r b fun l=>K ((k,.d s a)::l)
def uv(U:bJ)(s:bj):(l:List (TT U.ty s))→Int→(TT U.ty s→Prop)→Prop:=match s with
 | .int _=>fun l q K=>K (ix (α:=Int) l q)
 | .bool=>fun l q K=>K (ix (α:=Bool) l q)
 | .str=>fun l q K=>K (ix (α:=List UInt8) l q)
 | .err=>fun l q K=>K (ix (α:=dr) l q)
 | .st i=>fun l q K=>(U.rd i).ixK l q K
 | .arr _ e=>fun l q K=>K (ix (α:=List (TT U.ty e)) l q)
 | .sl e=>fun l q K=>K (ix (α:=List (TT U.ty e)) l q)
def Fb(e:bj)(m:Nat)(xs:List (TT U.ty e))(n:Nat):Nat→(List (bH U)→Prop)→Prop:=
 Nat.rec (motive:=fun _=>Nat→(List (bH U)→Prop)→Prop) (fun _ K=>K []) (fun _ ih j K=>uv U e xs (j:Int) fun x=>ih (j+1) fun l=>K ((m,.d e x)::l)) n
def jG(x:Cx U)(K:List (bH U)→Prop):Prop:=match x with
 | .d (.st i) t=>(U.rd i).toK t fun a=>CG (U.rd i).fs a K
 | .d (.arr n e) xs=>Fb e (aS U e) xs n 0 K
 |_=>False
def oe(l l':List (bH U))(K:List (bH U)→Prop):Prop:=
 List.rec (motive:=fun _=>(List (bH U)→Prop)→Prop) (fun K=>K l') (fun x _ ih K=>ih fun r=>K (x::r)) l K
def fO:Nat→List (bH U)→Nat→(List (bH U)→Prop)→Prop:=
 Nat.rec (motive:=fun _=>List (bH U)→Nat→(List (bH U)→Prop)→Prop) (fun _ _ _=>False) fun _ ih l k K=>match k with
  |0=>K l
  |k+1=>match l with
   | []=>False
   |(m,x)::r=>bif Nat.ble m (k+1)then ih r (k+1 - m) K else jG x fun l'=>oe l' r fun l''=>ih l'' (k+1) K
def tK:Nat→List (bH U)→Nat→(List (bH U)→Prop)→Prop:=
 Nat.rec (motive:=fun _=>List (bH U)→Nat→(List (bH U)→Prop)→Prop) (fun _ _ _=>False) fun _ ih l k K=>match k with
  |0=>K []
  |k+1=>match l with
   | []=>False
   |(m,x)::r=>bif Nat.ble m (k+1)then ih r (k+1 - m) fun r'=>K ((m,x)::r')else jG x fun l'=>ih l' (k+1) K
def og:Nat→List (bH U)→Nat→Nat→List (bH U)→(List (bH U)→Prop)→Prop:=
 Nat.rec (motive:=fun _=>List (bH U)→Nat→Nat→List (bH U)→(List (bH U)→Prop)→Prop) (fun _ _ _ _ _=>False) fun _ ih l off k new K=>match off with
  |0=>fO 40 l k fun r=>oe new r K
  |off+1=>match l with
   | []=>False
   |(m,x)::r=>bif Nat.ble m (off+1)then ih r (off+1 - m) k new fun r'=>K ((m,x)::r')else jG x fun l'=>oe l' r fun l''=>ih l'' (off+1) k new K
def ig(l:List (bH U))(off k:Nat)(K:List (bH U)→Prop):Prop:=fO 40 l off fun r=>tK 40 r k K
def d1(s:bj)(l:List (bH U))(K:TT U.ty s→Prop):Prop:=match l with
 |(_,.d s' t):: []=>(match ed U.ty (fun x=>x) s' s t with|some u=>K u|none=>False)
 |_=>False
def rT(h:(s:bj)→List (bH U)→(TT U.ty s→Prop)→Prop):(fs:List (Nat×bj))→List (bH U)→(qJ U.ty fs→Prop)→Prop
 | [],_,K=>K ()
 |(k,s)::r,l,K=>tK 40 l k fun l1=>h s l1 fun a=>fO 40 l k fun l2=>rT h r l2 fun b=>K (a,b)
def rU{α:Type}(h:List (bH U)→(α→Prop)→Prop)(m:Nat)(n:Nat):List (bH U)→(List α→Prop)→Prop:=
 Nat.rec (motive:=fun _=>List (bH U)→(List α→Prop)→Prop) (fun _ K=>K []) (fun _ ih l K=>tK 40 l m fun l1=>h l1 fun a=>fO 40 l m fun l2=>ih l2 fun b=>K (a::b)) n
def gI:List (bH U)→Nat
 | []=>0
 |(k,_)::r=>k+gI r
def cQ:Nat→(s:bj)→List (bH U)→(TT U.ty s→Prop)→Prop:=
 Nat.rec (motive:=fun _=>(s:bj)→List (bH U)→(TT U.ty s→Prop)→Prop) (fun _ _ _=>False) fun _ ih s=>match s with
  | .st i=>fun l K=>match l with
   |(_,.d (.st j) t):: []=>d1 (.st i) l K
   |_=>bif Nat.beq (gI l) (U.rd i).sz then rT ih (U.rd i).fs l fun a=>(U.rd i).ofK a K else False
  | .sl e=>fun l K=>match l with
   |(_,.nils):: []=>K ([]:List (TT U.ty e))
   |_=>d1 (.sl e) l K
  | .arr n e=>fun l K=>match l with
   |(_,.d (.arr _ _) _):: []=>d1 (.arr n e) l K
   |_=>bif Nat.beq (gI l) (n*aS U e)then rU (ih e) (aS U e) n l K else False
  |s=>fun l K=>d1 s l K
def yj(k:IntKind)(p:Int):Bool:=match k,p with
 | .i8,.ofNat n=>Nat.ble n 127| .i8,.negSucc n=>Nat.ble n 127
 | .i16,.ofNat n=>Nat.ble n 32767| .i16,.negSucc n=>Nat.ble n 32767
 | .i32,.ofNat n=>Nat.ble n 2147483647| .i32,.negSucc n=>Nat.ble n 2147483647
 | .i64,.ofNat n=>Nat.ble n 9223372036854775807| .i64,.negSucc n=>Nat.ble n 9223372036854775807
 | .u8,.ofNat n=>Nat.ble n 255
 | .u16,.ofNat n=>Nat.ble n 65535
 | .u32,.ofNat n=>Nat.ble n 4294967295
 | .u64,.ofNat n=>Nat.ble n 18446744073709551615
 |_,_=>false
def qK(v:Value)(K:Va U→Prop):Prop:=match v with
 | .int k p=>bif yj k p then K ⟨false,[(1,.d (.int k) p)]⟩else False
 | .bool b=>K ⟨false,[(1,.d .bool b)]⟩
 | .string ⟨⟨l⟩⟩=>bif Nat.ble l.length 9223372036854775807 then K ⟨false,[(1,.d .str l)]⟩else False
 | .slice none 0 0=>K ⟨false,[(1,.nils)]⟩
 | .pointer none=>K ⟨false,[(1,.nilp)]⟩
 | .nilFunc=>K ⟨false,[(1,.nilf)]⟩
 | .nilIface=>K ⟨false,[(1,.d .err .nil)]⟩
 | .map none=>K ⟨false,[(1,.nilm)]⟩
 |_=>False
abbrev b8:=List (Nat×Bool)
def eE:b8→b8→Bool
 | [],[]=>true
 |(s,true)::p,(t,true)::q=>bif Nat.beq s t then eE p q else false
 |(s,false)::p,(t,false)::q=>bif Nat.beq s t then eE p q else false
 |_,_=>false
def ga(q:b8):b8→Bool
 | []=>eE q []
 |x::p=>eE q (x::p)||ga q p
def jH(p:b8)(R e:En U)(o:Operand)(K:Va U→Prop):Prop:=match o with
 | .tmp t=>(match aB R t with
  |some (.gd q x)=>bif ga q p then K x else False
  |some _=>False
  |none=>(match aB e t with
   |some (.v x)=>K x
   |_=>False))
 | .const v=>qK v K
 | .func f=>K ⟨false,[(1,.fn f)]⟩
 | .global _=>False
def mc(p:b8)(R e:En U)(l:List Operand):(List (Va U)→Prop)→Prop:=
 List.rec (motive:=fun _=>(List (Va U)→Prop)→Prop) (fun K=>K []) (fun x _ ih K=>jH p R e x fun v=>ih fun r=>K (v::r)) l
def lm(R e:En U)(s:Nat)(K:Bool→Prop)(N:Prop):Prop:=match aB R s with
 |some (.gd _ ⟨false,(_,.d .bool c):: []⟩)=>K c
 |some _=>N
 |none=>(match aB e s with
  |some (.v ⟨false,(_,.d .bool c):: []⟩)=>K c
  |_=>N)
def me(R e:En U)(p:b8)(A:Prop):Prop:=
 List.rec (motive:=fun _=>Prop) A (fun x _ ih=>lm R e x.1 (fun c=>c=x.2→ih) False) p
def IE(k:IntKind)(r:Int)(K:Int→Prop):Prop:=match k with
 | .u8=>K (r%256)| .u16=>K (r%65536)| .u32=>K (r%4294967296)| .u64=>K (r%18446744073709551616)
 |k=>K (k.wrap r)
def x8(b:Bool)(A B:Prop):Prop:=(b=true→A)∧(b=false→B)
def VS(P A:Prop):Prop:=P∧A
def uI{ty:Nat→Type}:(a:bj)→TT ty a→Prop
 | .str,t=>List.length (α:=UInt8) t≤1000000
 |_,_=>True
def L8(A B:Prop):Prop:=A∨B
def IF(P:Prop)(A B:Prop):Prop:=P∧A∨B
def BN(g:Prop→Prop)(k:IntKind)(p q r:Int)(K:Int→Prop):Prop:=IF (g (cZ k p→cZ k q→cZ k r)) (K r) (IE k r K)
def c1(x:Cx U):Va U:=⟨false,[(1,x)]⟩
def CH:BinOp→Bool
 | .shl| .shr=>true
 |_=>false
def CI(g:Prop→Prop)(op:BinOp)(k:IntKind)(p:Int)(k':IntKind)(q:Int)(K:Va U→Prop):Prop:=bif ie k k'||CH op then(match op with
 | .add=>BN g k p q (p+q) fun r=>K ⟨false,[(1,.d (.int k) r)]⟩
 | .sub=>BN g k p q (p - q) fun r=>K ⟨false,[(1,.d (.int k) r)]⟩
 | .mul=>BN g k p q (p*q) fun r=>K ⟨false,[(1,.d (.int k) r)]⟩
 | .quo=>VS (g (cZ k p→cZ k q→0≤p∧0<q)) (K ⟨false,[(1,.d (.int k) (p/q))]⟩)
 | .rem=>VS (g (cZ k p→cZ k q→0≤p∧0<q)) (K ⟨false,[(1,.d (.int k) (p%q))]⟩)
 | .shl=>VS (g (cZ k' q→0≤q)) (BN g k p p (p*2^(min q.toNat k.bits)) fun r=>K ⟨false,[(1,.d (.int k) r)]⟩)
 | .shr=>VS (g (cZ k' q→0≤q)) (K ⟨false,[(1,.d (.int k) (p/2^(min q.toNat k.bits)))]⟩)
 | .eql=>K ⟨false,[(1,.d .bool (decide (p=q)))]⟩
 | .neq=>K ⟨false,[(1,.d .bool (decide (¬p=q)))]⟩
 | .lss=>K ⟨false,[(1,.d .bool (decide (p<q)))]⟩
 | .leq=>K ⟨false,[(1,.d .bool (decide (p≤q)))]⟩
 | .gtr=>K ⟨false,[(1,.d .bool (decide (q<p)))]⟩
 | .geq=>K ⟨false,[(1,.d .bool (decide (q≤p)))]⟩
 | .and=>K ⟨false,[(1,.d (.int k) (bits .and k p q))]⟩
 | .or=>K ⟨false,[(1,.d (.int k) (bits .or k p q))]⟩
 | .xor=>K ⟨false,[(1,.d (.int k) (bits .xor k p q))]⟩
 | .andNot=>K ⟨false,[(1,.d (.int k) (bits .andNot k p q))]⟩)else False
def CJ(g:Prop→Prop)(op:BinOp)(p q:List UInt8)(K:Va U→Prop):Prop:=match op with
 | .add=>VS (g (p.length+q.length≤9223372036854775807)) (K ⟨false,[(1,.d .str (p++q))]⟩)
 | .eql=>K ⟨false,[(1,.d .bool (decide (p=q)))]⟩
 | .neq=>K ⟨false,[(1,.d .bool (decide (¬p=q)))]⟩
 | .lss=>K ⟨false,[(1,.d .bool (decide (p<q)))]⟩
 | .leq=>K ⟨false,[(1,.d .bool (decide (p≤q)))]⟩
 | .gtr=>K ⟨false,[(1,.d .bool (decide (q<p)))]⟩
 | .geq=>K ⟨false,[(1,.d .bool (decide (q≤p)))]⟩
 |_=>False
def CK(op:BinOp)(p q:Bool)(K:Va U→Prop):Prop:=match op with
 | .eql=>K ⟨false,[(1,.d .bool (decide (p=q)))]⟩
 | .neq=>K ⟨false,[(1,.d .bool (decide (¬p=q)))]⟩
 |_=>False
end
end Go.Proofs.YtfgofabojepcmaaGreatDoor.V
end

section
set_option linter.unusedVariables false
namespace Go.Proofs.YtfgofabojepcmaaGreatDoor.V
open Go.RowKit
inductive Md where
 |n|d (s:bj)|f1 (a:bj)|f2 (a b:bj)
 |p (fs:List (Nat×Option bj))-- a pointer to our own cells,of which some become data
structure bZ(U:bJ) where
 md:List Md
 run:List (Va U)→List (aN U)→(AV U→List (aN U)→Prop)→Prop
abbrev bS(U:bJ):=List (Nat×bZ U)
section
variable {U:bJ}
def CL(v:Va U)(K:Cx U→Prop):Prop:=match v with
 |⟨false,(_,c):: []⟩=>K c
 |_=>False
def f8(p:b8)(R e:En U)(o:Operand)(K:Cx U→Prop):Prop:=jH p R e o fun v=>CL v K
def eG(H:Hs U)(i:Nat)(x:aN U):(Hs U→Prop)→Prop:=
 List.rec (motive:=fun _=>(Hs U→Prop)→Prop) (fun _=>False) (fun y r ih K=>bif Nat.beq y.1 i then K ((i,x)::r)else ih fun r'=>K (y::r')) H
def qL(H:Hs U)(x:Cx U)(K:(e:bj)→List (TT U.ty e)→Prop):Prop:=match x with
 | .d (.sl e) xs=>bif Nat.blt 0 (aS U e)then K e xs else False
 | .own i v=>(match aB H i with
  |some (.row v' e xs _)=>bif Nat.beq v v' then K e xs else False
  |some (.frz v' e xs)=>bif Nat.beq v v' then K e xs else False
  |_=>False)
 |_=>False
def pw(H:Hs U)(x:bH U)(K:Hs U→bH U→Prop):Prop:=match x with
 |(1,.own i v)=>(match aB H i with
  |some (.row v' e xs _)=>bif Nat.beq v v' then eG H i (.frz v e xs) fun H=>K H (1,.d (.sl e) xs)else False
  |some (.frz v' e xs)=>bif Nat.beq v v' then K H (1,.d (.sl e) xs)else False
  |some (.ext v' d xs none)=>bif Nat.beq v v' then eG H i (.frz v d.e xs) fun H=>K H (1,.d (.sl d.e) xs)else False
  |_=>False)
 |x=>K H x
def i6(l:List (bH U)):Hs U→(Hs U→List (bH U)→Prop)→Prop:=
 List.rec (motive:=fun _=>Hs U→(Hs U→List (bH U)→Prop)→Prop) (fun H K=>K H []) (fun x _ ih H K=>pw H x fun H y=>ih H fun H r=>K H (y::r)) l
def yk(H:Hs U)(x:bH U)(K:Hs U→bH U→Prop):Prop:=match x with
 |(1,.ifp i)=>(match aB H i with
  |some (.cells l _)=>bif Nat.beq (gI l) 2 then ig l 0 1 fun l1=>ig l 1 1 fun l2=>cQ 20 (.int .i64) l1 fun a=>cQ 20 .err l2 fun e=>eG H i .dead fun H=>K H (1,.d .err (.flt a e))else False
  |_=>False)
 |x=>K H x
def tk(l:List (bH U)):Hs U→(Hs U→List (bH U)→Prop)→Prop:=
 List.rec (motive:=fun _=>Hs U→(Hs U→List (bH U)→Prop)→Prop) (fun H K=>K H []) (fun x _ ih H K=>yk H x fun H y=>ih H fun H r=>K H (y::r)) l
def uJ(s:bj)(H:Hs U)(x:Va U)(K:Hs U→TT U.ty s→Prop):Prop:=i6 x.l H fun H l=>cQ 20 s l fun t=>K H t
def ym(T:cH U)(t:Nat)(l:List (bH U))(K:Va U→Prop):Prop:=match aB T t with
 |some ti=>(match qF ti.kd with
  |false=>(match l with
   |(_,.d (.st i) x):: []=>jG (.d (.st i) x) fun l=>K ⟨false,l⟩
   |l=>K ⟨false,l⟩)
  |true=>K ⟨true,l⟩)
 |none=>False
def pz(T:cH U)(t:Nat)(H:Hs U)(x:Cx U)(K:Va U→Prop):Prop:=match aB T t with
 |some ti=>(match x with
  | .ptr i off=>(match aB H i with
   |some (.cells l _)=>ig l off ti.sz fun l=>ym T t l K
   |_=>False)
  | .pel i v q off=>(match aB H i with
   |some (.row v' e xs _)=>bif Nat.beq v v' then uv U e xs q fun x=>ig [(aS U e,.d e x)] off ti.sz fun l=>ym T t l K else False
   |some (.frz v' e xs)=>bif Nat.beq v v' then uv U e xs q fun x=>ig [(aS U e,.d e x)] off ti.sz fun l=>ym T t l K else False
   |some (.ext v' d _ (some (q0,o0,k,u)))=>bif Nat.beq v v'&&(Nat.beq off o0&&Nat.beq ti.sz 1)then VS (q=q0) (ym T t [(1,.own k u)] K)else False
   |_=>False)
  | .pax i off n e q o=>(match aB H i with
   |some (.cells l _)=>ig l off (n*aS U e) fun l=>cQ 20 (.arr n e) l fun xs=>uv U e xs q fun x=>ig [(aS U e,.d e x)] o ti.sz fun l=>ym T t l K
   |_=>False)
  | .pd s x=>bif Nat.beq ti.sz (aS U s)then ym T t [(aS U s,.d s x)] K else False
  |_=>False)
 |none=>False
def qM(T:cH U)(t:Nat)(H:Hs U)(x:Cx U)(y:Va U)(K:Hs U→Prop):Prop:=match aB T t with
 |some ti=>(match x with
  | .ptr i off=>(match aB H i with
   |some (.cells l u)=>bif Nat.beq (gI y.l) ti.sz then og 40 l off ti.sz y.l fun l=>eG H i (.cells l u) K else False
   |_=>False)
  | .pel i v q off=>i6 y.l H fun H yl=>(match aB H i with
   |some (.row v' e xs u)=>bif Nat.beq v v'&&Nat.beq (gI yl) ti.sz then uv U e xs q fun x=>og 40 [(aS U e,.d e x)] off ti.sz yl fun l=>cQ 20 e l fun z=>eG H i (.row v e (xs.set q.toNat z) u) K else False
   |_=>False)
  | .pax i off n e q o=>i6 y.l H fun H yl=>(match aB H i with
   |some (.cells l u)=>bif Nat.beq (gI yl) ti.sz then ig l off (n*aS U e) fun la=>cQ 20 (.arr n e) la fun xs=>uv U e xs q fun x=>og 40 [(aS U e,.d e x)] o ti.sz yl fun l'=>cQ 20 e l' fun z=>og 40 l off (n*aS U e) [(n*aS U e,.d (.arr n e) (List.set (α:=TT U.ty e) xs q.toNat z))] fun l=>eG H i (.cells l u) K else False
   |_=>False)
  |_=>False)
 |none=>False
def nl(H:Hs U)(i v:Nat):Bool:=match aB H i with
 |some (.row v' _ _ _)=>Nat.beq v v'
 |some (.frz v' _ _)=>Nat.beq v v'
 |some (.ext v' _ _ _)=>Nat.beq v v'
 |_=>false
def CM(T:cH U)(t f:Nat)(H:Hs U)(x:Cx U)(K:Cx U→Prop):Prop:=match aB T t with
 |some ti=>(match cL ti.fs f with
  |some (off,ft)=>(match x with
   | .ptr i o=>K (.ptr i (o+off))
   | .pel i v q o=>bif nl H i v then K (.pel i v q (o+off))else False
   | .pax i o n e q o'=>K (.pax i o n e q (o'+off))
   | .pd s y=>(match aB T ft with
    |some fi=>ig [(aS U s,.d s y)] off fi.sz fun l=>(match l with
     |(_,.d s' y'):: []=>bif Nat.beq ti.sz (aS U s)then K (.pd s' y')else False
     |_=>False)
    |none=>False)
   |_=>False)
  |none=>False)
 |none=>False
def CN(T:cH U)(t f:Nat)(l:List (bH U))(K:Va U→Prop):Prop:=match aB T t with
 |some ti=>(match cL ti.fs f with
  |some (off,ft)=>(match aB T ft with
   |some fi=>ig l off fi.sz fun l=>ym T ft l K
   |none=>False)
  |none=>False)
 |none=>False
def yn(T:cH U)(p:b8)(R e:En U)(fs:List (Nat×Nat))(ps:List (Nat×Operand)):List (bH U)→(List (bH U)→Prop)→Prop:=
 List.rec (motive:=fun _=>List (bH U)→(List (bH U)→Prop)→Prop) (fun l K=>K l) (fun x _ ih l K=>match cL fs x.1 with
  |some (off,ft)=>(match aB T ft with
   |some fi=>jH p R e x.2 fun y=>bif Nat.beq (gI y.l) fi.sz then og 40 l off fi.sz y.l fun l=>ih l K else False
   |none=>False)
  |none=>False) ps
def EV(m el:Nat)(k:Nat):Nat→List (Nat×Nat):=
 Nat.rec (motive:=fun _=>Nat→List (Nat×Nat)) (fun _=> []) (fun _ ih off=>(off,el)::ih (off+m)) k
def yp(p:b8)(R e:En U)(s:bj)(k:Nat)(ps:List (Nat×Operand)):Nat→Hs U→(Hs U→List (TT U.ty s)→Prop)→Prop:=
 List.rec (motive:=fun _=>Nat→Hs U→(Hs U→List (TT U.ty s)→Prop)→Prop) (fun j H K=>bif Nat.beq j k then K H []else False) (fun x _ ih j H K=>bif Nat.beq x.1 j then jH p R e x.2 fun y=>uJ s H y fun H a=>ih (j+1) H fun H r=>K H (a::r)else False) ps
def pickK(b:Bool)(x y:Va U)(K:Va U→Prop):Prop:=match x,y with
 |⟨a,(k,.d s u):: []⟩,⟨a',(_,.d s' w):: []⟩=>bif a==a'&&Nat.beq k (aS U s)then(match ed U.ty (fun x=>x) s' s w with
  |some w=>K ⟨a,[(k,.d s (bif b then u else w))]⟩
  |none=>False)else False
 |_,_=>False
def CO(p:b8)(R e:En U)(c a b:Operand)(K:Va U→Prop):Prop:=match c with
 | .tmp s=>f8 p R e (.tmp s) fun v=>(match v with
  | .d .bool t=>(match a with
   | .const (.bool true)=>f8 ((s,false)::p) R e b fun y=>(match y with
    | .d .bool u=>K ⟨false,[(1,.d .bool (t||u))]⟩
    |_=>False)
   |_=>(match b with
    | .const (.bool false)=>f8 ((s,true)::p) R e a fun y=>(match y with
     | .d .bool u=>K ⟨false,[(1,.d .bool (t&&u))]⟩
     |_=>False)
    |_=>jH ((s,true)::p) R e a fun x=>jH ((s,false)::p) R e b fun y=>pickK t x y K))
  |_=>False)
 |_=>False
def pA(T:cH U)(t:Nat)(K:Kd→Prop):Prop:=match aB T t with
 |some ti=>K ti.kd
 |none=>False
def uK:Kd→Bool| .sl _=>true|_=>false
def jI:Kd→Bool| .str=>true|_=>false
def BO(T:cH U)(t:Nat)(K:Nat→TI U→Prop):Prop:=match aB T t with
 |some ti=>(match ti.kd with
  | .sl e=>(match aB T e with|some ei=>K e ei|none=>False)
  |_=>False)
 |none=>False
def nK(neg b:Bool)(K:Va U→Prop):Prop:=match neg with
 |true=>K ⟨false,[(1,.d .bool (!b))]⟩
 |false=>K ⟨false,[(1,.d .bool b)]⟩
def CQ(neg:Bool)(H:Hs U)(x:Cx U)(K:Va U→Prop):Prop:=match x with
 | .nilp| .nils=>K ⟨false,[(1,.d .bool (!neg))]⟩
 | .ptr _ _| .pd _ _| .pax _ _ _ _ _ _=>K ⟨false,[(1,.d .bool neg)]⟩
 | .pel i v _ _=>bif nl H i v then K ⟨false,[(1,.d .bool neg)]⟩else False
 |x=>qL H x fun e xs=> ∀b:Bool,(b=true→xs= [])→nK neg b K
def uL(T:cH U)(t:Nat)(x y:Cx U):Bool:=match x,y with
 | .nilp,.nilp| .ptr _ _,.nilp| .pd _ _,.nilp| .pel _ _ _ _,.nilp| .pax _ _ _ _ _ _,.nilp=>(match aB T t with|some ti=>(match ti.kd with| .ptr _=>true|_=>false)|none=>false)
 | .nils,.nils| .own _ _,.nils| .d (.sl _) _,.nils=>(match aB T t with|some ti=>(match ti.kd with| .sl _=>true|_=>false)|none=>false)
 |_,_=>false
def IG(T:cH U)(t:Nat):Bool:=match aB T t with
 |some ti=>(match ti.kd with
  | .ptr e=>(match aB T e with
   |some ei=>Nat.blt 0 ei.sz
   |none=>false)
  |_=>false)
 |none=>false
def CR(g:Prop→Prop)(T:cH U)(op:BinOp)(t:Nat)(H:Hs U)(x y:Cx U)(K:Va U→Prop):Prop:=match x,y with
 | .d (.int k) p,.d (.int k') q=>CI g op k p k' q K
 | .d .str p,.d .str q=>CJ g op p q K
 | .d .bool p,.d .bool q=>pA T t fun k=>(match k with| .bool=>CK op p q K|_=>False)
 | .ptr i a,.ptr j b=>bif Nat.beq i j&&IG T t then(match op with
  | .eql=>nK false (Nat.beq a b) K
  | .neq=>nK true (Nat.beq a b) K
  |_=>False)else False
 |x,y=>bif uL T t x y then(match op with
  | .eql=>CQ false H x K
  | .neq=>CQ true H x K
  |_=>False)else False
def Lz(U:bJ)(s:bj):TT U.ty s→TT U.ty s→(Bool→Prop)→Prop:=match s with
 | .st i=>fun a b K=>(U.rd i).eqK a b K
 | .arr _ (.int _)=>fun(a b:List Int) K=>K (decide (a=b))
 | .arr _ .bool=>fun(a b:List Bool) K=>K (decide (a=b))
 | .arr _ .str=>fun(a b:List (List UInt8)) K=>K (decide (a=b))
 |_=>fun _ _ _=>False
def CS(g:Prop→Prop)(T:cH U)(op:BinOp)(t:Nat)(H:Hs U)(x y:Va U)(K:Va U→Prop):Prop:=match x,y with
 |⟨false,(_,a):: []⟩,⟨false,(_,b):: []⟩=>CR g T op t H a b K
 |⟨true,l⟩,⟨true,l'⟩=>(match aB T t with
  |some ti=>(match ti.sh,ti.cmp with
   |some s,true=>cQ 20 s l fun a=>cQ 20 s l' fun b=>Lz U s a b fun r=>(match op with
    | .eql=>K ⟨false,[(1,.d .bool r)]⟩
    | .neq=>K ⟨false,[(1,.d .bool (!r))]⟩
    |_=>False)
   |_,_=>False)
  |none=>False)
 |_,_=>False
def CT:Kd→Bool| .mp _ _=>true|_=>false
def uM(H:Hs U)(x:Cx U)(K:(d:KD U)→List (TT U.ty d.k×TT U.ty d.v)→Prop):Prop:=match x with
 | .mp i=>(match aB H i with
  |some (.map d l)=>K d l
  |some (.mapr d l _ _ _)=>K d l
  |_=>False)
 |_=>False
def tl(T:cH U)(t:Nat)(d:KD U):Bool:=match aB T t with
 |some ti=>(match ti.kd with
  | .mp k v=>Nat.beq k d.kt&&Nat.beq v d.vt
  |_=>false)
 |none=>false
def pB(s:bj)(x:TT U.ty s):Va U:=⟨e8 s,[(aS U s,.d s x)]⟩
def Fc(ok:Bool)(d:KD U)(r:Option (TT U.ty d.v))(K:AV U→Prop):Prop:=match ok with
 |true=>K (.tup [pB d.v (r.getD d.zero),⟨false,[(1,.d .bool r.isSome)]⟩])
 |false=>K (.v (pB d.v (r.getD d.zero)))
def CU(T:cH U)(t:Nat)(H:Hs U)(x:Cx U)(K:Int→Prop):Prop:=match x with
 | .d .str s=>pA T t fun k=>bif jI k then K (s.length:Int)else False
 | .nils=>pA T t fun k=>bif uK k then K 0 else False
 | .mp i=>pA T t fun k=>bif CT k then uM H (.mp i) fun _ l=>VS ((l.length:Int)≤9223372036854775807) (K (l.length:Int))else False
 |x=>pA T t fun k=>bif uK k then qL H x fun _ xs=>K (xs.length:Int)else False
def CV(g:Prop→Prop)(T:cH U)(t:Nat)(x:Cx U)(q:Int)(K:Va U→Prop):Prop:=match x with
 | .d .str s=>pA T t fun k=>bif jI k then VS (g (0≤q∧q<s.length)) (K ⟨false,[(1,.d (.int .u8) ((ix s q).toNat:Int))]⟩)else False
 |_=>False
def Fd(g:Prop→Prop)(T:cH U)(t:Nat)(H:Hs U)(x:Cx U)(q:Int)(K:Cx U→Prop):Prop:=BO T t fun _ ei=>match x with
 | .d (.sl e) xs=>bif Nat.beq ei.sz (aS U e)&&Nat.blt 0 (aS U e)then VS (g (0≤q∧q<xs.length)) (uv U e xs q fun y=>K (.pd e y))else False
 | .own i v=>(match aB H i with
  |some (.row v' e xs _)=>bif Nat.beq v v'&&Nat.beq ei.sz (aS U e)then VS (g (0≤q∧q<xs.length)) (K (.pel i v q 0))else False
  |some (.frz v' e xs)=>bif Nat.beq v v'&&Nat.beq ei.sz (aS U e)then VS (g (0≤q∧q<xs.length)) (uv U e xs q fun y=>K (.pd e y))else False
  |some (.ext v' d xs _)=>bif Nat.beq v v'&&Nat.beq ei.sz (aS U d.e)then VS (g (0≤q∧q<xs.length)) (K (.pel i v q 0))else False
  |_=>False)
 |_=>False
def CW(g:Prop→Prop)(T:cH U)(t:Nat)(l:List (bH U))(q:Int)(K:Va U→Prop):Prop:=match aB T t with
 |some ti=>(match ti.kd,ti.sh with
  | .arr n e,some (.arr m s)=>(match aB T e with
   |some ei=>bif Nat.beq n m&&Nat.beq ei.sz 1&&Nat.beq (aS U s) 1&&!qF ei.kd then cQ 20 (.arr m s) l fun xs=>VS (g (0≤q∧q<n)) (uv U s xs q fun x=>K ⟨false,[(1,.d s x)]⟩)else False
   |none=>False)
  |_,_=>False)
 |none=>False
def IH(K:Cx U→Prop)(i off sz:Nat)(q:Int)(n:Nat):Prop:=match n with
 |2=>x8 (decide (q=0)) (K (.ptr i off)) (K (.ptr i (off+sz)))
 |3=>x8 (decide (q=0)) (K (.ptr i off)) (x8 (decide (q=1)) (K (.ptr i (off+sz))) (K (.ptr i (off+2*sz))))
 |_=>False
def CX(g:Prop→Prop)(T:cH U)(n e:Nat)(x:Cx U)(y:Operand)(q:Int)(K:Cx U→Prop):Prop:=match aB T e with
 |some ei=>(match ei.sh with
  |some s=>bif Nat.beq ei.sz (aS U s)then(match x with
   | .ptr i off=>(match y with
    | .const (.int _ (.ofNat c))=>bif Nat.blt c n then K (.ptr i (off+c*aS U s))else False
    |_=>L8 (VS (g (0≤q∧q<n)) (K (.pax i off n s q 0))) (VS (g (0≤q∧q<n)) (IH K i off (aS U s) q n)))
   | .pd (.arr m s') xs=>bif Nat.beq n m&&Nat.beq (aS U s') (aS U s)then VS (g (0≤q∧q<n)) (uv U s' xs q fun x=>K (.pd s' x))else False
   |_=>False)else False
  |none=>False)
 |none=>False
def yq(T:cH U)(t:Nat):Option (Nat×Nat):=match aB T t with
 |some ti=>(match ti.kd with
  | .arr n e=>some (n,e)
  |_=>none)
 |none=>none
def nq(p:b8)(R e:En U)(o:Option Operand)(d:Int)(K:Int→Prop):Prop:=match o with
 |none=>K d
 |some o=>f8 p R e o fun v=>(match v with
  | .d (.int _) q=>K q
  |_=>False)
def yr(g:Prop→Prop)(T:cH U)(t:Nat)(p:b8)(R e:En U)(x:Cx U)(lo hi:Option Operand)(K:Cx U→Prop):Prop:=match x with
 | .d .str s=>pA T t fun k=>bif jI k then nq p R e lo 0 fun a=>nq p R e hi (s.length:Int) fun b=>VS (g (0≤a∧a≤b∧b≤s.length)) (match lo,hi with
  |none,_=>K (.d .str (s.take b.toNat))
  |_,none=>K (.d .str (s.drop a.toNat))
  |_,_=>K (.d .str ((s.take b.toNat).drop a.toNat)))else False
 | .d (.sl s) xs=>BO T t fun _ ei=>bif Nat.beq ei.sz (aS U s)then nq p R e lo 0 fun a=>nq p R e hi (xs.length:Int) fun b=>VS (g (0≤a∧a≤b∧b≤xs.length)) (match lo,hi with
  |none,_=>K (.d (.sl s) (xs.take b.toNat))
  |_,none=>K (.d (.sl s) (xs.drop a.toNat))
  |_,_=>K (.d (.sl s) ((xs.take b.toNat).drop a.toNat)))else False
 |_=>False
def BP(H:Hs U):Cx U→Bool
 | .ptr _ _| .pd _ _| .pax _ _ _ _ _ _=>true
 | .pel i v _ _=>nl H i v
 |_=>false
def II(l:List (Va U)):(List Nat→Prop)→Prop:=
 List.rec (motive:=fun _=>(List Nat→Prop)→Prop) (fun K=>K []) (fun x _ ih K=>match x with
  |⟨false,(_,.ptr j 0):: []⟩=>ih fun r=>K (j::r)
  |_=>False) l
def IJ(p:b8)(R e:En U)(x:Operand)(K:AV U→Prop):Prop:=match x with
 | .tmp t=>(match aB R t with
  |some (.gd q y)=>bif ga q p then K (.v y)else False
  |some _=>False
  |none=>(match aB e t with
   |some (.v y)=>K (.v y)
   |some (.tup l)=>K (.tup l)
   |_=>False))
 |x=>jH p R e x fun v=>K (.v v)
def Iq(op:BinOp)(b:Bool)(K:Va U→Prop):Prop:=match op with
 | .eql=>K ⟨false,[(1,.d .bool b)]⟩
 | .neq=>K ⟨false,[(1,.d .bool (!b))]⟩
 |_=>False
def IK(op:BinOp)(a:dr)(K:Va U→Prop):Prop:=Iq op (decide (a=dr.nil)) K
def BQ:Kd→Bool| .ifc=>true|_=>false
def Fe(T:cH U)(op:BinOp)(t:Nat)(c:Cx U)(K:Va U→Prop):Prop:=pA T t fun k=>bif BQ k then(match c with
 | .d .err a=>IK op a K
 | .ifp _=>Iq op false K
 |_=>False)else False
def pC:Kd→Bool| .int .i64=>true|_=>false
def Ff:Kd→Bool| .ptr _=>true|_=>false
def CY(T:cH U)(t:Nat)(H:Hs U)(c:Cx U)(K:Cx U→Prop):Prop:=match c with
 | .d (.int .i64) q=>bif Nat.beq t U.eN then pA T t fun k=>bif pC k then K (.d .err (.num q))else False else False
 | .ptr i 0=>bif Nat.beq t U.eF then pA T t fun k=>bif Ff k then(match aB H i with
  |some (.cells _ _)=>K (.ifp i)
  |_=>False)else False else False
 |_=>False
def IL:dr→Int| .num e=>e|_=>0
def IM:dr→Bool| .num _=>true|_=>false
def CZ(T:cH U)(t:Nat)(c:Cx U)(K:AV U→Prop):Prop:=match c with
 | .d .err a=>bif Nat.beq t U.eN&&!Nat.beq U.eF U.eN then pA T t fun k=>bif pC k then K (.tup [⟨false,[(1,.d (.int .i64) (IL a))]⟩,⟨false,[(1,.d .bool (IM a))]⟩])else False else False
 |_=>False
def ii(g:Prop→Prop)(T:cH U)(p:b8)(o:Oper)(R e:En U)(H:Hs U)(K:AV U→Prop):Prop:=match o.op with
 | .move x=>IJ p R e x K
 | .assign x=>jH p R e x fun v=>K (.v v)
 | .pick c a b=>CO p R e c a b fun v=>K (.v v)
 | .load t x=>f8 p R e x fun c=>pz T t H c fun v=>K (.v v)
 | .nilCheck x=>f8 p R e x fun c=>bif BP H c then K (.v ⟨false,[(1,c)]⟩)else False
 | .binOp op t x (.const .nilIface) _=>f8 p R e x fun c=>Fe T op t c fun v=>K (.v v)
 | .binOp op t x y _=>jH p R e x fun v=>jH p R e y fun w=>CS g T op t H v w fun v=>K (.v v)
 | .makeInterface t x=>f8 p R e x fun c=>CY T t H c fun c=>K (.v ⟨false,[(1,c)]⟩)
 | .typeAssert x _ t true=>f8 p R e x fun c=>CZ T t c K
 | .unOp op _ x=>f8 p R e x fun c=>(match op,c with
  | .not,.d .bool b=>K (.v ⟨false,[(1,.d .bool (!b))]⟩)
  | .neg,.d (.int k) q=>BN g k q q (Neg.neg (α:=Int) q) fun r=>K (.v ⟨false,[(1,.d (.int k) r)]⟩)
  |_,_=>False)
 | .fieldAddr t x f=>f8 p R e x fun c=>CM T t f H c fun c=>K (.v ⟨false,[(1,c)]⟩)
 | .field t x f=>jH p R e x fun v=>(match v.ag with
  |true=>CN T t f v.l fun v=>K (.v v)
  |false=>False)
 | .indexAddr t x y=>f8 p R e x fun c=>f8 p R e y fun d=>(match d with
  | .d (.int _) q=>(match yq T t with
   |some (n,el)=>CX g T n el c y q fun c=>K (.v ⟨false,[(1,c)]⟩)
   |none=>Fd g T t H c q fun c=>K (.v ⟨false,[(1,c)]⟩))
  |_=>False)
 | .index t x y=>jH p R e x fun v=>f8 p R e y fun d=>(match d with
  | .d (.int _) q=>(match v.ag with
   |true=>CW g T t v.l q fun v=>K (.v v)
   |false=>CL v fun c=>CV g T t c q fun v=>K (.v v))
  |_=>False)
 | .slice t x lo hi none=>f8 p R e x fun c=>yr g T t p R e c lo hi fun c=>K (.v ⟨false,[(1,c)]⟩)
 | .lookup t m kx ok=>f8 p R e m fun c=>jH p R e kx fun kv=>uM H c fun d l=>bif tl T t d&&(kv.ag==e8 d.k)then cQ 20 d.k kv.l fun k=>Fc ok d (@ea _ _ d.dec l k) K else False
 | .entry x=>f8 p R e x fun c=>(match c with
  | .ptr j 0=>(match aB H j with
   |some (.it i gh)=>(match aB H i with
    |some (.mapr d l left (q:: []) gh')=>VS (gh=gh') (K (.tup [pB d.k q.1,pB d.v q.2]))
    |_=>False)
   |_=>False)
  |_=>False)
 | .extract x i=>(match x with
  | .tmp t=>(match aB R t with
   |some _=>False
   |none=>(match aB e t with
    |some (.tup l)=>(match cL l i with|some v=>K (.v v)|none=>False)
    |_=>False))
  |_=>False)
 | .build t ps=>(match aB T t with
  |some ti=>(match ti.kd with
   | .st=>yn T p R e ti.fs ps.toList ti.zero fun l=>K (.v ⟨true,l⟩)
   | .arr k el=>(match aB T el with
    |some ei=>yn T p R e (EV ei.sz el k 0) ps.toList ti.zero fun l=>K (.v ⟨true,l⟩)
    |none=>False)
   |_=>False)
  |none=>False)
 | .makeFunc (.func f) first caps=>(match first.toList with
  | []=>mc p R e caps.toList fun xs=>II xs fun js=>K (.v ⟨false,[(1,.clo f js)]⟩)
  |x:: []=>(match caps.toList with
   | []=>f8 p R e x fun c=>(match c with
    | .d s t=>K (.v ⟨false,[(1,.bnd f s t)]⟩)
    |_=>False)
   |_=>False)
  |_=>False)
 | .convert s d x=>f8 p R e x fun c=>pA T s fun _=>pA T d fun kd=>(match c,kd with
  | .d (.int k) q,.int k'=>IF (g (cZ k q→cZ k' q)) (K (.v ⟨false,[(1,.d (.int k') q)]⟩)) (IE k' q fun r=>K (.v ⟨false,[(1,.d (.int k') r)]⟩))
  |_,_=>False)
 | .call c=>(match c.callee,c.args.toList,c.argTypes.toList with
  | .builtin .len,x:: [],t:: []=>f8 p R e x fun a=>CU T t H a fun r=>K (.v ⟨false,[(1,.d (.int .i64) r)]⟩)
  | .builtin .max,x::y:: [],_::_:: []=>f8 p R e x fun a=>f8 p R e y fun b=>(match a,b with
   | .d (.int k) a,.d (.int k') b=>bif ie k k' then K (.v ⟨false,[(1,.d (.int k) (max (α:=Int) a b))]⟩)else False
   |_,_=>False)
  | .builtin .min,x::y:: [],_::_:: []=>f8 p R e x fun a=>f8 p R e y fun b=>(match a,b with
   | .d (.int k) a,.d (.int k') b=>bif ie k k' then K (.v ⟨false,[(1,.d (.int k) (min (α:=Int) a b))]⟩)else False
   |_,_=>False)
  |_,_,_=>False)
 |_=>False
end
end Go.Proofs.YtfgofabojepcmaaGreatDoor.V
end

/- Functions walked: printed by the walker. -/
import Derived.Test.YtfgofabojepcmaaGreatDoorSp3
import Derived.Test.YtfgofabojepcmaaGreatDoorProg
import Derived.WalkKit
import Derived.LaidEql
import Derived.Stop.Asserts
import Derived.RowKitTokens
import Derived.Test.YtfgofabojepcmaaGreatDoorSp15
import Derived.Test.YtfgofabojepcmaaGreatDoorSp22
import Derived.Test.YtfgofabojepcmaaGreatDoorSp20
section
set_option linter.unusedSimpArgs false
set_option linter.unusedVariables false
namespace Go.Proofs.YtfgofabojepcmaaGreatDoor
open Go.RowKit Go.Extern.Stop Go.Stop Go.Extern
theorem oS(t:Addr)(w:World):(ReflectliteValue.unpack (.iface 163 (.pointer (some t)))).run Tryz.prog w
  = .ok (.agg #[.pointer (some ⟨9,163,none⟩),.pointer (some ⟨w.heap.size,0,none⟩),.int .u64 150]) (w.alloc (.cells #[.pointer (some t)] 163)):=by kernel_rfl
theorem tI(a:Addr)(w:World):(ReflectliteValue.methodAny (ReflectliteValue.valueError "reflectlite.Value.Type" 0) (fun t _ _ _=>ReflectliteType.toType t) #[.agg #[.pointer (some ⟨9,163,none⟩),.pointer (some a),.int .u64 150]]).run Tryz.prog w
  = .ok (.iface 349 (.agg #[.pointer (some ⟨9,163,none⟩)])) w:=by kernel_rfl
theorem nz(h:Value)(w:World):(Go.method 289 349 (.agg #[h]) "Kind").run Tryz.prog w= .ok (425,h) w:=by kernel_rfl
theorem tJ(w:World):((ReflectliteType.abiMethod fun t=>(fun a:Nat=>Value.int IntKind.u8 (a:Int))<$>Rtype.kind t) #[.pointer (some ⟨9,163,none⟩)]).run Tryz.prog w= .ok (.int .u8 22) w:=by kernel_rfl
theorem tL(w:World):((ReflectliteType.abiMethod fun t=>(fun a:Nat=>Value.int IntKind.u8 (a:Int))<$>Rtype.kind t) #[.pointer (some ⟨9,161,none⟩)]).run Tryz.prog w= .ok (.int .u8 22) w:=by kernel_rfl
theorem LI(z:Sem Value)(f:TypeId→Addr→Nat→Nat→Sem Value)(v:Value):
  ReflectliteValue.method z f #[v]=(do match←ReflectliteValue.parts v with|none=>z|some (t,a,fl)=>f t a fl (fl%32)):=rfl
theorem mG(a:Addr)(w:World):(ReflectliteValue.parts (.agg #[.pointer (some ⟨9,163,none⟩),.pointer (some a),.int .u64 150])).run Tryz.prog w= .ok (some (163,a,150)) w:=by kernel_rfl
theorem rk(a p:Addr)(W:World)(ha:W.cell? a=some (.pointer (some p))):
  (ReflectliteValue.method (ReflectliteValue.valueError "reflectlite.Value.IsNil" 0) ReflectliteValue.isNil #[.agg #[.pointer (some ⟨9,163,none⟩),.pointer (some a),.int .u64 150]]).run Tryz.prog W= .ok (.bool false) W:=by
 rw[LI];simp only[Sem.run_bind,mG,Result.andThen];simp[ReflectliteValue.isNil,loadVar,isAgg,underlying,Tryz.underlying163,ha,Result.andThen]
theorem nA(h:Value)(w:World):(Go.method 289 349 (.agg #[h]) "Elem").run Tryz.prog w= .ok (439,.agg #[h]) w:=by kernel_rfl
theorem ja(h:Value)(w:World):(Go.method 289 349 (.agg #[h]) "Implements").run Tryz.prog w= .ok (440,.agg #[h]) w:=by kernel_rfl
theorem hZ(h:Value)(w:World):(Go.method 289 349 (.agg #[h]) "AssignableTo").run Tryz.prog w= .ok (437,.agg #[h]) w:=by kernel_rfl
theorem tM(w:World):(ReflectliteType.method ReflectliteType.elem #[.agg #[.pointer (some ⟨9,163,none⟩)]]).run Tryz.prog w= .ok (.iface 349 (.agg #[.pointer (some ⟨9,161,none⟩)])) w:=by kernel_rfl
theorem lL(w:World):(ReflectliteType.relation "Implements" ReflectliteType.implements_ #[.agg #[.pointer (some ⟨9,161,none⟩)],.iface 349 (.agg #[.pointer (some ⟨9,64,none⟩)])]).run Tryz.prog w= .ok (.bool true) w:=by kernel_rfl
theorem p6(v:Value)(w:World):(ReflectliteType.typeOf #[.iface 161 v]).run Tryz.prog w= .ok (.iface 349 (.agg #[.pointer (some ⟨9,161,none⟩)])) w:=by kernel_rfl
theorem lM(w:World):(ReflectliteType.relation "AssignableTo" ReflectliteType.assignableTo #[.agg #[.pointer (some ⟨9,161,none⟩)],.iface 349 (.agg #[.pointer (some ⟨9,161,none⟩)])]).run Tryz.prog w= .ok (.bool true) w:=by kernel_rfl
theorem oT(e:Addr)(w:World):(ReflectliteValue.unpack (.iface 161 (.pointer (some e)))).run Tryz.prog w
  = .ok (.agg #[.pointer (some ⟨9,161,none⟩),.pointer (some ⟨w.heap.size,0,none⟩),.int .u64 150]) (w.alloc (.cells #[.pointer (some e)] 161)):=by kernel_rfl
theorem p7(w:World):(Rtype.elem? 163).run Tryz.prog w= .ok (some 161) w:=by kernel_rfl
theorem zM(p:Addr)(w:World):(ReflectliteValue.mk 161 p ReflectliteValue.flagAddr).run Tryz.prog w= .ok (.agg #[.pointer (some ⟨9,161,none⟩),.pointer (some p),.int .u64 406]) w:=by kernel_rfl
theorem rl(a p:Addr)(W:World)(ha:W.cell? a=some (.pointer (some p))):
  (ReflectliteValue.method (ReflectliteValue.valueError "reflectlite.Value.Elem" 0) ReflectliteValue.elem #[.agg #[.pointer (some ⟨9,163,none⟩),.pointer (some a),.int .u64 150]]).run Tryz.prog W
   = .ok (.agg #[.pointer (some ⟨9,161,none⟩),.pointer (some p),.int .u64 406]) W:=by
 rw[LI];simp only[Sem.run_bind,mG,Result.andThen];simp[ReflectliteValue.elem,loadVar,isAgg,underlying,Tryz.underlying163,ha,Result.andThen,p7,zM]
theorem Mj(v x:Value):ReflectliteValue.set #[v,x]=(do
  let (some (dst,a,fl),some (src,b,_)):=(←ReflectliteValue.parts v,←ReflectliteValue.parts x)
   |unsupported (.noEntry "extern/(internal/reflectlite.Value).Set.zeroValue")
  if fl/ReflectliteValue.flagAddr%2==0 then unsupported (.noEntry "extern/(internal/reflectlite.Value).Set.unaddressable")
  let val←loadVar src b
  if←Rtype.directlyAssignable dst src then storeVar dst a val
  else if←Rtype.implements dst src then
   if(←Rtype.kind src)==20 then
    match val with
    | .nilIface=>unsupported (.noEntry "extern/reflectlite: a nil value of one interface type handed on as a value of another")
    |_=>storeVar dst a val
   else storeVar dst a (.iface src val)
  else panicString ("reflectlite.Set: value of type " ++(←Rtype.spelt src)++ " is not assignable to type " ++(←Rtype.spelt dst))
  pure (.tuple #[])):=rfl
theorem p8(a:Addr)(w:World):(ReflectliteValue.parts (.agg #[.pointer (some ⟨9,161,none⟩),.pointer (some a),.int .u64 406])).run Tryz.prog w= .ok (some (161,a,406)) w:=by kernel_rfl
theorem rm(a:Addr)(w:World):(ReflectliteValue.parts (.agg #[.pointer (some ⟨9,161,none⟩),.pointer (some a),.int .u64 150])).run Tryz.prog w= .ok (some (161,a,150)) w:=by kernel_rfl
theorem p9(w:World):(Rtype.directlyAssignable 161 161).run Tryz.prog w= .ok true w:=by kernel_rfl
theorem wk(ta b e:Addr)(old:Value)(W:World)(hb:W.cell? b=some (.pointer (some e)))(ht:W.cell? ta=some old)(hf:W.frozen? ta=false):
  (ReflectliteValue.set #[.agg #[.pointer (some ⟨9,161,none⟩),.pointer (some ta),.int .u64 406],.agg #[.pointer (some ⟨9,161,none⟩),.pointer (some b),.int .u64 150]]).run Tryz.prog W
   = .ok (.tuple #[]) (W.setCell ta (.pointer (some e))):=by
 rw[Mj];simp only[Sem.run_bind,p8,rm,Result.andThen];simp[ReflectliteValue.flagAddr,loadVar,isAgg,underlying,Tryz.underlying161,hb,Result.andThen,p9,storeVar,Value.cells,storeCells,Addr.add];rw[run_store Tryz.prog W ta _ _ (by rfl)];simp[ht,hf]
set_option maxHeartbeats 4000000 in
theorem DW(e t:Addr)(old:Value)(w:World)(hg:w.cell? ⟨0,0,none⟩=some (.iface 349 (.agg #[.pointer (some ⟨9,64,none⟩)])))(ht0:w.cell? t=some old)(hf0:w.frozen? t=false):
  Calls Tryz.prog 51 #[.iface 161 (.pointer (some e)),.iface 163 (.pointer (some t))] w fun ev w'=>ev= .returned (.bool true)∧w'=((((w.alloc (.cells #[.pointer (some t)] 163)).alloc (.cells #[.pointer (some ⟨9,163,none⟩),.pointer (some ⟨w.heap.size,0,none⟩),.int .u64 150] 260)).alloc (.cells #[.pointer (some ⟨9,163,none⟩),.pointer (some ⟨w.heap.size,0,none⟩),.int .u64 150] 260)).alloc (.cells #[.pointer (some e)] 161)).setCell t (.pointer (some e)):=by
 have h6:= @run_callFunc_extern Tryz.prog 119 _ (fun args=>ReflectliteValue.unpack (args.getD 0 (.tuple #[]))) Tryz.func119 (by kernel_rfl) (by kernel_rfl) (by kernel_rfl) (by kernel_rfl);have h7:= @run_callFunc_extern Tryz.prog 120 _ (ReflectliteValue.methodAny (ReflectliteValue.valueError "reflectlite.Value.Type" 0) (fun t _ _ _=>ReflectliteType.toType t)) Tryz.func120 (by kernel_rfl) (by kernel_rfl) (by kernel_rfl) (by kernel_rfl);have h8:= @run_callFunc_extern Tryz.prog 121 _ (ReflectliteValue.method (ReflectliteValue.valueError "reflectlite.Value.IsNil" 0) ReflectliteValue.isNil) Tryz.func121 (by kernel_rfl) (by kernel_rfl) (by kernel_rfl) (by kernel_rfl);have h27:= @run_callFunc_extern Tryz.prog 425 _ (ReflectliteType.abiMethod fun t=>do pure (.int .u8 (←Rtype.kind t))) Tryz.func425 (by kernel_rfl) (by kernel_rfl) (by kernel_rfl) (by kernel_rfl);have h37:= @run_callFunc_extern Tryz.prog 439 _ (ReflectliteType.method ReflectliteType.elem) Tryz.func439 (by kernel_rfl) (by kernel_rfl) (by kernel_rfl) (by kernel_rfl);have h38:= @run_callFunc_extern Tryz.prog 440 _ (ReflectliteType.relation "Implements" ReflectliteType.implements_) Tryz.func440 (by kernel_rfl) (by kernel_rfl) (by kernel_rfl) (by kernel_rfl);have h10:= @run_callFunc_extern Tryz.prog 208 _ ReflectliteType.typeOf Tryz.func208 (by kernel_rfl) (by kernel_rfl) (by kernel_rfl) (by kernel_rfl);have h35:= @run_callFunc_extern Tryz.prog 437 _ (ReflectliteType.relation "AssignableTo" ReflectliteType.assignableTo) Tryz.func437 (by kernel_rfl) (by kernel_rfl) (by kernel_rfl) (by kernel_rfl);have h11:= @run_callFunc_extern Tryz.prog 209 _ (ReflectliteValue.method (ReflectliteValue.valueError "reflectlite.Value.Elem" 0) ReflectliteValue.elem) Tryz.func209 (by kernel_rfl) (by kernel_rfl) (by kernel_rfl) (by kernel_rfl);have h12:= @run_callFunc_extern Tryz.prog 210 _ ReflectliteValue.set Tryz.func210 (by kernel_rfl) (by kernel_rfl) (by kernel_rfl) (by kernel_rfl);have tO:=p6;have mA:=hZ;have a25:=lM;have v25:=oT;have f6:=oS;have f7:=tI;have mK:=nz;have mE:=nA;have mI:=ja;have k27:=tJ;have k25:=tL;have e27:=tM;have i25:=lL;have n8:=rk ⟨w.heap.size,0,none⟩ t ((w.alloc (.cells #[.pointer (some t)] 163)).alloc (.cells #[.pointer (some ⟨9,163,none⟩),.pointer (some ⟨w.heap.size,0,none⟩),.int .u64 150] 260)) (by simp);have hlt:0<w.heap.size:=by
  rcases Nat.eq_zero_or_pos w.heap.size with h0|h
  ·simp[World.cell?,h0]at hg
  ·exact h
 have hg2:((w.alloc (.cells #[.pointer (some t)] 163)).alloc (.cells #[.pointer (some ⟨9,163,none⟩),.pointer (some ⟨w.heap.size,0,none⟩),.int .u64 150] 260)).cell? ⟨0,0,none⟩=some (.iface 349 (.agg #[.pointer (some ⟨9,64,none⟩)])):=by
  rw[World.cell?_alloc_lt _ _ ⟨0,0,none⟩ (by simp),World.cell?_alloc_lt _ _ ⟨0,0,none⟩ hlt];exact hg
 have htl:t.block<w.heap.size:=by
  rcases Nat.lt_or_ge t.block w.heap.size with h|h
  ·exact h
  ·simp[World.cell?,Array.getElem?_eq_none h]at ht0
 have el:=rl ⟨w.heap.size,0,none⟩ t (((w.alloc (.cells #[.pointer (some t)] 163)).alloc (.cells #[.pointer (some ⟨9,163,none⟩),.pointer (some ⟨w.heap.size,0,none⟩),.int .u64 150] 260)).alloc (.cells #[.pointer (some ⟨9,163,none⟩),.pointer (some ⟨w.heap.size,0,none⟩),.int .u64 150] 260)) (by rw[World.cell?_alloc_lt _ _ ⟨w.heap.size,0,none⟩ (by simp;omega)];simp);have st:=wk t ⟨w.heap.size+1+1+1,0,none⟩ e old ((((w.alloc (.cells #[.pointer (some t)] 163)).alloc (.cells #[.pointer (some ⟨9,163,none⟩),.pointer (some ⟨w.heap.size,0,none⟩),.int .u64 150] 260)).alloc (.cells #[.pointer (some ⟨9,163,none⟩),.pointer (some ⟨w.heap.size,0,none⟩),.int .u64 150] 260)).alloc (.cells #[.pointer (some e)] 161))
  (by rw[World.cell?_alloc_at _ _ _ _ (by simp)];rfl)
  (by rw[World.cell?_alloc_lt _ _ t (by simp;omega),World.cell?_alloc_lt _ _ t (by simp;omega),World.cell?_alloc_lt _ _ t (by simp;omega),World.cell?_alloc_lt _ _ t htl];exact ht0)
  (by rw[World.frozen?_alloc_old _ _ t (by simp;omega),World.frozen?_alloc_old _ _ t (by simp;omega),World.frozen?_alloc_old _ _ t (by simp;omega),World.frozen?_alloc_old _ _ t (Nat.ne_of_lt htl)];exact hf0)
 go_enter Tryz.func51,Tryz.ntmps51
 go_wp2
 refine wp_loop_rounds 1 ?_;rw[rounds_succ]
 go_wp2
 go_ret
 exact⟨rfl,rfl⟩
end Go.Proofs.YtfgofabojepcmaaGreatDoor
end

section
set_option linter.unusedSimpArgs false
set_option linter.unusedVariables false
set_option maxRecDepth 20000
namespace Go.Proofs.YtfgofabojepcmaaGreatDoor
open Go.RowKit
theorem kw:cS Tryz.prog 73=some 2:=by kernel_rfl
theorem jx:dh Tryz.prog 165 0=some 0:=by kernel_rfl
theorem mU:dh Tryz.prog 165 1=some 1:=by kernel_rfl
theorem da:cA Tryz.prog 3=true:=by kernel_rfl
theorem dP:cA Tryz.prog 64=true:=by kernel_rfl
theorem aY:cA Tryz.prog 161=true:=by kernel_rfl
theorem qn:iC Tryz.prog 73=some [(0,1),(1,1)]:=by kernel_rfl
theorem kz:(Tryz.prog.info? 73).map (·.size)=some 2:=by kernel_rfl
theorem kA:zeroCells Tryz.prog 73=some ([.int .i64 0,.int .i64 0]):=by kernel_rfl
theorem w7:zeroCells Tryz.prog 161=some ([.pointer none]):=by kernel_rfl
theorem dz{w w':World}{a:Addr}{v:Value}(h:Fr [] w w')(hm:w.cell? a=some v):w'.cell? a=some v:=by rw[h.cell (qu hm) (by simp)];exact hm
section
variable [bF] {P:Program} {n:Nat} {env:aK} {S:World→Prop} {o:Oper}
theorem Ei{t xT a:Nat}{x:Operand}{v z:Value}(ho:o.op= .typeAssert x xT a true)(hx:env.ev x=some (.iface t v))(hc:P.concrete a=true)(hz:(P.info? a).map (·.zero)=some (some z))(hne:(t==a)=false):cb P n env S o (.tuple #[z,.bool false]):=fun r h w _=>by
 obtain⟨j,hj,hz'⟩:=Option.map_eq_some_iff.1 hz;have hta:t≠a:=by simpa using hne
 have h2:(Instr.typeAssert (.iface t v) xT a true).run P w= .ok (.tuple #[z,.bool false]) w:=by
  unfold Program.concrete at hc;cases hd:P.underlying a with
  |none=>simp[hd]at hc
  |some d=>cases d<;>first|(simp[hd]at hc;done)|simp[Instr.typeAssert,run_underlying hd,hta,zeroValue,typeInfo,hj,hz']
 unfold execOp;simp only[ho,h.eval hx,Sem.run_bind,h2,Result.andThen_ok];rfl
theorem AO{t xT:Nat}{x:Operand}{v:Value}(ho:o.op= .typeAssert x xT t true)(hx:env.ev x=some (.iface t v))(hc:P.concrete t=true):cb P n env S o (.tuple #[v,.bool true]):=fun r h w _=>by
 have h2:(Instr.typeAssert (.iface t v) xT t true).run P w= .ok (.tuple #[v,.bool true]) w:=by
  unfold Program.concrete at hc;cases hd:P.underlying t with
  |none=>simp[hd]at hc
  |some d=>cases d<;>first|(simp[hd]at hc;done)|simp[Instr.typeAssert,run_underlying hd]
 unfold execOp;simp only[ho,h.eval hx,Sem.run_bind,h2,Result.andThen_ok];rfl
end
theorem Fr.setCell(w:World)(g k:Nat)(v:Value):Fr [g] w (w.setCell ⟨g,k,none⟩ v):=⟨rfl,rfl,rfl,by simp,fun j _ hj=>heap_setCell_other w _ j v (by simpa using hj)⟩
theorem Hp.one{w:World}{g:Nat}{o:Obj}(h:w.heap[g]? =some o):Hp w [(some g,o)]:=by
 refine⟨fun i g' o' hi=>?_,fun i j g' o' o'' hi hj=>?_⟩
 ·match i,hi with
  |0,hi=>simp at hi;obtain⟨rfl,rfl⟩:=hi;exact h
 ·match i,j,hi,hj with
  |0,0,_,_=>rfl
theorem uh(gf q:Nat)(w:World)(hp:Hp w [(some gf,Cl [.pointer none] 161)])(hg:w.cell? ⟨0,0,none⟩=some (.iface 349 (.agg #[.pointer (some ⟨9,64,none⟩)]))):
  Fn Tryz.prog 51 [.iface 161 (.pointer (some ⟨q,0,none⟩)),.iface 163 (.pointer (some ⟨gf,0,none⟩))] w fun v w'=>v= .bool true∧LR w w' [(some gf,Cl [.pointer none] 161)] [(some gf,Cl [.pointer (some ⟨q,0,none⟩)] 161)]:=by
 have hb:w.heap[gf]? =some (Cl [.pointer none] 161):=hp.blk 0 gf _ rfl;have hlt:=bR hb;have ht0:w.cell? ⟨gf,0,none⟩=some (.pointer none):=by simp[World.cell?,hb]
 have hf0:w.frozen? ⟨gf,0,none⟩=false:=by simp[World.frozen?,hb]
 refine⟨by kernel_rfl,(DW ⟨q,0,none⟩ ⟨gf,0,none⟩ (.pointer none) w hg ht0 hf0).mono ?_⟩;rintro e w' ⟨rfl,rfl⟩;have hF:=(((Fr.alloc w (.cells #[.pointer (some ⟨gf,0,none⟩)] 163)).step0 (Fr.alloc _ (.cells #[.pointer (some ⟨9,163,none⟩),.pointer (some ⟨w.heap.size,0,none⟩),.int .u64 150] 260))).step0 (Fr.alloc _ (.cells #[.pointer (some ⟨9,163,none⟩),.pointer (some ⟨w.heap.size,0,none⟩),.int .u64 150] 260))).step0 (Fr.alloc _ (.cells #[.pointer (some ⟨q,0,none⟩)] 161));have hb4:=(hF.block gf hlt (by simp)).trans hb;have hs:=heap_setCell_same _ gf 0 _ _ (.pointer (some ⟨q,0,none⟩)) hb4;exact⟨_,rfl,rfl,(hF.mono (by simp)).step (Fr.setCell _ gf 0 (.pointer (some ⟨q,0,none⟩))) (fun y hy=> .inl hy),Hp.one hs,fun k hk=> .inl hk⟩
theorem w8(w:World):Fn Tryz.prog 18 [.nilIface] w fun v w'=>v= .agg #[.int .i64 0,.int .i64 0]∧Fr [] w w':=by
 refine n5 68 (by kernel_rfl) Tryz.func18 rfl rfl rfl ?_;dsimp only[dL];have hp:=Hp.nil w;have hF:=Fr.refl [] w;refine bi fun K1 hK1=>?_;refine aW ?_;refine m6 (aR rfl) ?_;refine l7 rfl rfl rfl kA hp (fun g1 w1 (hp:Hp w1 [(_,Cl [_,_] _)]) hf hg1=>?_);have hg1:=Nat.le_trans hF.size hg1;have hF:=hF.step0 hf;refine bq (cg (hK1 _ _ ?_));refine bi fun K2 hK2=>?_;refine aW ?_;refine aI (aR rfl) rfl rfl (cW rfl rfl) ?_;refine bq (cg (hK2 _ _ ?_));refine bi fun K3 hK3=>?_;refine bi fun K4 hK4=>?_;refine aW ?_;refine aI (aR rfl) rfl rfl (cW rfl rfl) ?_;refine bq (cg (hK4 _ _ ?_));refine cz ?_;refine iV 2 (eA ?_);refine bi fun K5 hK5=>?_;refine bi fun K6 hK6=>?_;refine aW ?_;refine aI (aR rfl) rfl rfl (cf rfl rfl) ?_;refine aI (aR rfl) rfl rfl (m8 rfl rfl rfl (by decide)) ?_;refine bq (cg (hK6 _ _ ?_));refine dm rfl ?_;refine dH (cg (hK5 _ _ ?_));refine bi fun K7 hK7=>?_;refine cz ?_;refine bi fun K8 hK8=>?_;refine bi fun K9 hK9=>?_;refine aW ?_;refine aI (aR rfl) rfl rfl (cf rfl rfl) ?_;refine aI (aR rfl) rfl rfl (iT (b:=true) rfl rfl Tryz.underlying64 (fun d w=>gU Tryz.underlying64 d w) (fun w y=>by cases y<;>rfl)) ?_;refine bq (cg (hK9 _ _ ?_));refine dm rfl ?_;refine bi fun K10 hK10=>?_;refine aW ?_;refine aI (aR rfl) rfl rfl (pb (cells:= [_,_]) rfl rfl kA qn rfl) ?_;refine m6 (aR rfl) ?_;refine kJ (i:=0) rfl rfl rfl rfl kz rfl (by first|assumption|(simp[Value.oneCell'];done)) hp rfl rfl (fun w2 (hp:Hp w2 [(_,Cl [_,_] _)]) hf _=>?_);have hF:=hF.step hf (by intro y hy;simp only[List.mem_cons,List.not_mem_nil,or_false]at hy;subst hy;first|(exact Or.inr (by omega))|(exact Or.inl (by simp)));refine bq (cg (hK10 _ _ ?_));refine wR (iE (qr (iE (iE (qr (iE (fR (qs rfl (Iz (i:=0) rfl kw hp rfl rfl)) ?_)))))));exact⟨rfl,hF⟩
set_option maxHeartbeats 1000000 in
theorem xa(q:Nat)(a e:Int)(w:World)(c0:w.cell? ⟨q,0,none⟩=some (.int .i64 a))(c1:w.cell? ⟨q,1,none⟩=some (.iface 38 (.int .i64 e)))(hg:w.cell? ⟨0,0,none⟩=some (.iface 349 (.agg #[.pointer (some ⟨9,64,none⟩)])))(hb:0≤a∧a≤1000000)(he: ¬e=0):Fn Tryz.prog 18 [.iface 161 (.pointer (some ⟨q,0,none⟩))] w fun v w'=>v= .agg #[.int .i64 a,.int .i64 e]∧Fr [] w w':=by
 refine n5 68 (by kernel_rfl) Tryz.func18 rfl rfl rfl ?_;dsimp only[dL];have hp:=Hp.nil w;have hF:=Fr.refl [] w;refine bi fun K1 hK1=>?_;refine aW ?_;refine m6 (aR rfl) ?_;refine l7 rfl rfl rfl kA hp (fun g1 w1 (hp:Hp w1 [(_,Cl [_,_] _)]) hf hg1=>?_);have hg1:=Nat.le_trans hF.size hg1;have hF:=hF.step0 hf;refine bq (cg (hK1 _ _ ?_));refine bi fun K2 hK2=>?_;refine aW ?_;refine aI (aR rfl) rfl rfl (cW rfl rfl) ?_;refine bq (cg (hK2 _ _ ?_));refine bi fun K3 hK3=>?_;refine bi fun K4 hK4=>?_;refine aW ?_;refine aI (aR rfl) rfl rfl (cW rfl rfl) ?_;refine bq (cg (hK4 _ _ ?_));refine cz ?_;refine iV 3 (eA ?_);refine bi fun K5 hK5=>?_;refine bi fun K6 hK6=>?_;refine aW ?_;refine aI (aR rfl) rfl rfl (cf rfl rfl) ?_;refine aI (aR rfl) rfl rfl (m8 rfl rfl rfl (by decide)) ?_;refine bq (cg (hK6 _ _ ?_));refine dm rfl ?_;refine dH (cg (hK5 _ _ ?_));refine bi fun K7 hK7=>?_;refine cz ?_;refine bi fun K8 hK8=>?_;refine bi fun K9 hK9=>?_;refine aW ?_;refine aI (aR rfl) rfl rfl (cf rfl rfl) ?_;refine aI (aR rfl) rfl rfl (iT (b:=false) rfl rfl Tryz.underlying64 (fun d w=>fw Tryz.underlying64 d w) (fun w y=>by cases y<;>rfl)) ?_;refine bq (cg (hK9 _ _ ?_));refine dI rfl ?_;refine dH (cg (hK8 _ _ ?_));refine bi fun K10 hK10=>?_;refine aW ?_;refine aI (aR rfl) rfl rfl (cf rfl rfl) ?_;refine aI (aR rfl) rfl rfl (Ei (z:= .int .i64 0) rfl rfl (by kernel_rfl) (by kernel_rfl) rfl) ?_;refine aI (aR rfl) rfl rfl (cf rfl rfl) ?_;refine aI (aR rfl) rfl rfl (qB rfl rfl rfl) ?_;refine aI (aR rfl) rfl rfl (qB rfl rfl rfl) ?_;refine aI (aR rfl) rfl rfl (cW rfl rfl) ?_;refine aI (aR rfl) rfl rfl (cW rfl rfl) ?_;refine bq (cg (hK10 _ _ ?_));refine bi fun K11 hK11=>?_;refine bi fun K12 hK12=>?_;refine aW ?_;refine aI (aR rfl) rfl rfl (cf rfl rfl) ?_;refine bq (cg (hK12 _ _ ?_));refine dI rfl ?_;refine dH (cg (hK11 _ _ ?_));refine bi fun K13 hK13=>?_;refine aW ?_;refine m6 (aR rfl) ?_;refine l7 rfl rfl rfl w7 hp (fun g2 w2 (hp:Hp w2 [(_,Cl [_,_] _),(_,Cl [_] _)]) hf hg2=>?_);have hg2:=Nat.le_trans hF.size hg2;have hF:=hF.step0 hf;refine bq (cg (hK13 _ _ ?_));refine bi fun K14 hK14=>?_;refine bi fun K15 hK15=>?_;refine aW ?_;refine aI (aR rfl) rfl rfl (cf rfl rfl) ?_;refine aI (aR rfl) rfl rfl (Ca rfl rfl (by kernel_rfl)) ?_;refine m6 (aR rfl) ?_;refine rK rfl rfl rfl rfl (uh _ q _ (hp.pk [1] (by decide)) (dz hF hg)) (fun v w9 ⟨hv,hM⟩=>?_);subst hv;have hp:Hp w9 [(_,Cl [_,_] _),(_,Cl [_] _)]:=hp.call [0] [1] (by decide) rfl hM;have hF:=hF.step hM.fr (fun y hy=> .inr (by simp only[bG,List.filterMap_cons,List.filterMap_nil,List.mem_cons,List.not_mem_nil,or_false]at hy;subst hy;omega));refine aI (aR rfl) rfl rfl (xD rfl rfl) ?_;refine aI (aR rfl) rfl rfl (cf rfl rfl) ?_;first
  |refine aI (cE rfl rfl rfl) rfl rfl (br (i:=0) rfl rfl aY (fun _ e=>e▸hp) rfl rfl) ?_
  |refine aI (cE rfl rfl rfl) rfl rfl (br (i:=1) rfl rfl aY (fun _ e=>e▸hp) rfl rfl) ?_
  |refine aI (cE rfl rfl rfl) rfl rfl (br (i:=2) rfl rfl aY (fun _ e=>e▸hp) rfl rfl) ?_
  |refine aI (cE rfl rfl rfl) rfl rfl (bO rfl rfl aY (fun _ e=>e▸dz hF c0)) ?_
  |refine aI (cE rfl rfl rfl) rfl rfl (bO rfl rfl aY (fun _ e=>e▸dz hF c1)) ?_
 refine aI (cE rfl rfl rfl) rfl rfl (xk rfl rfl rfl Tryz.underlying161) ?_;refine sW 33 rfl (fun hc1=>absurd hc1 (by simp)) (fun _=>?_);refine aI (aR rfl) rfl rfl (fW rfl rfl rfl) ?_;refine aI (aR rfl) rfl rfl (cf rfl rfl) ?_;first
  |refine aI (cE rfl rfl rfl) rfl rfl (br (i:=0) rfl rfl aY (fun _ e=>e▸hp) rfl rfl) ?_
  |refine aI (cE rfl rfl rfl) rfl rfl (br (i:=1) rfl rfl aY (fun _ e=>e▸hp) rfl rfl) ?_
  |refine aI (cE rfl rfl rfl) rfl rfl (br (i:=2) rfl rfl aY (fun _ e=>e▸hp) rfl rfl) ?_
  |refine aI (cE rfl rfl rfl) rfl rfl (bO rfl rfl aY (fun _ e=>e▸dz hF c0)) ?_
  |refine aI (cE rfl rfl rfl) rfl rfl (bO rfl rfl aY (fun _ e=>e▸dz hF c1)) ?_
 refine aI (cE rfl rfl rfl) rfl rfl (nZ rfl rfl) ?_;refine aI (cE rfl rfl rfl) rfl rfl (n4 rfl rfl jx) ?_;first
  |refine aI (cE rfl rfl rfl) rfl rfl (br (i:=0) rfl rfl da (fun _ e=>e▸hp) rfl rfl) ?_
  |refine aI (cE rfl rfl rfl) rfl rfl (br (i:=1) rfl rfl da (fun _ e=>e▸hp) rfl rfl) ?_
  |refine aI (cE rfl rfl rfl) rfl rfl (br (i:=2) rfl rfl da (fun _ e=>e▸hp) rfl rfl) ?_
  |refine aI (cE rfl rfl rfl) rfl rfl (bO rfl rfl da (fun _ e=>e▸dz hF c0)) ?_
  |refine aI (cE rfl rfl rfl) rfl rfl (bO rfl rfl da (fun _ e=>e▸dz hF c1)) ?_
 refine aI (cE rfl rfl rfl) rfl rfl (xE rfl rfl rfl (by omega)) ?_;refine aI (aR rfl) rfl rfl (fW rfl rfl rfl) ?_;refine aI (aR rfl) rfl rfl (cf rfl rfl) ?_;first
  |refine aI (cE rfl rfl rfl) rfl rfl (br (i:=0) rfl rfl aY (fun _ e=>e▸hp) rfl rfl) ?_
  |refine aI (cE rfl rfl rfl) rfl rfl (br (i:=1) rfl rfl aY (fun _ e=>e▸hp) rfl rfl) ?_
  |refine aI (cE rfl rfl rfl) rfl rfl (br (i:=2) rfl rfl aY (fun _ e=>e▸hp) rfl rfl) ?_
  |refine aI (cE rfl rfl rfl) rfl rfl (bO rfl rfl aY (fun _ e=>e▸dz hF c0)) ?_
  |refine aI (cE rfl rfl rfl) rfl rfl (bO rfl rfl aY (fun _ e=>e▸dz hF c1)) ?_
 refine aI (cE rfl rfl rfl) rfl rfl (nZ rfl rfl) ?_;refine aI (cE rfl rfl rfl) rfl rfl (n4 rfl rfl jx) ?_;first
  |refine aI (cE rfl rfl rfl) rfl rfl (br (i:=0) rfl rfl da (fun _ e=>e▸hp) rfl rfl) ?_
  |refine aI (cE rfl rfl rfl) rfl rfl (br (i:=1) rfl rfl da (fun _ e=>e▸hp) rfl rfl) ?_
  |refine aI (cE rfl rfl rfl) rfl rfl (br (i:=2) rfl rfl da (fun _ e=>e▸hp) rfl rfl) ?_
  |refine aI (cE rfl rfl rfl) rfl rfl (bO rfl rfl da (fun _ e=>e▸dz hF c0)) ?_
  |refine aI (cE rfl rfl rfl) rfl rfl (bO rfl rfl da (fun _ e=>e▸dz hF c1)) ?_
 refine aI (cE rfl rfl rfl) rfl rfl (Hm rfl rfl rfl (by omega)) ?_;refine aI (aR rfl) rfl rfl (fW rfl rfl rfl) ?_;refine aI (aR rfl) rfl rfl (cf rfl rfl) ?_;first
  |refine aI (cE rfl rfl rfl) rfl rfl (br (i:=0) rfl rfl aY (fun _ e=>e▸hp) rfl rfl) ?_
  |refine aI (cE rfl rfl rfl) rfl rfl (br (i:=1) rfl rfl aY (fun _ e=>e▸hp) rfl rfl) ?_
  |refine aI (cE rfl rfl rfl) rfl rfl (br (i:=2) rfl rfl aY (fun _ e=>e▸hp) rfl rfl) ?_
  |refine aI (cE rfl rfl rfl) rfl rfl (bO rfl rfl aY (fun _ e=>e▸dz hF c0)) ?_
  |refine aI (cE rfl rfl rfl) rfl rfl (bO rfl rfl aY (fun _ e=>e▸dz hF c1)) ?_
 refine aI (cE rfl rfl rfl) rfl rfl (nZ rfl rfl) ?_;refine aI (cE rfl rfl rfl) rfl rfl (n4 rfl rfl mU) ?_;first
  |refine aI (cE rfl rfl rfl) rfl rfl (br (i:=0) rfl rfl dP (fun _ e=>e▸hp) rfl rfl) ?_
  |refine aI (cE rfl rfl rfl) rfl rfl (br (i:=1) rfl rfl dP (fun _ e=>e▸hp) rfl rfl) ?_
  |refine aI (cE rfl rfl rfl) rfl rfl (br (i:=2) rfl rfl dP (fun _ e=>e▸hp) rfl rfl) ?_
  |refine aI (cE rfl rfl rfl) rfl rfl (bO rfl rfl dP (fun _ e=>e▸dz hF c0)) ?_
  |refine aI (cE rfl rfl rfl) rfl rfl (bO rfl rfl dP (fun _ e=>e▸dz hF c1)) ?_
 refine aI (cE rfl rfl rfl) rfl rfl (iT (b:=false) rfl rfl Tryz.underlying64 (fun d w=>fw Tryz.underlying64 d w) (fun w y=>by cases y<;>rfl)) ?_;refine aI (aR rfl) rfl rfl (fW rfl rfl rfl) ?_;refine bq (cg (hK15 _ _ ?_));refine dI rfl ?_;refine dH (cg (hK14 _ _ ?_));refine bi fun K16 hK16=>?_;refine aW ?_;refine aI (aR rfl) rfl rfl (cf rfl rfl) ?_;first
  |refine aI (aR rfl) rfl rfl (br (i:=0) rfl rfl aY (fun _ e=>e▸hp) rfl rfl) ?_
  |refine aI (aR rfl) rfl rfl (br (i:=1) rfl rfl aY (fun _ e=>e▸hp) rfl rfl) ?_
  |refine aI (aR rfl) rfl rfl (br (i:=2) rfl rfl aY (fun _ e=>e▸hp) rfl rfl) ?_
  |refine aI (aR rfl) rfl rfl (bO rfl rfl aY (fun _ e=>e▸dz hF c0)) ?_
  |refine aI (aR rfl) rfl rfl (bO rfl rfl aY (fun _ e=>e▸dz hF c1)) ?_
 refine aI (aR rfl) rfl rfl (nZ rfl rfl) ?_;refine aI (aR rfl) rfl rfl (n4 rfl rfl jx) ?_;first
  |refine aI (aR rfl) rfl rfl (br (i:=0) rfl rfl da (fun _ e=>e▸hp) rfl rfl) ?_
  |refine aI (aR rfl) rfl rfl (br (i:=1) rfl rfl da (fun _ e=>e▸hp) rfl rfl) ?_
  |refine aI (aR rfl) rfl rfl (br (i:=2) rfl rfl da (fun _ e=>e▸hp) rfl rfl) ?_
  |refine aI (aR rfl) rfl rfl (bO rfl rfl da (fun _ e=>e▸dz hF c0)) ?_
  |refine aI (aR rfl) rfl rfl (bO rfl rfl da (fun _ e=>e▸dz hF c1)) ?_
 refine aI (aR rfl) rfl rfl (jm (c:=a) rfl rfl rfl (by rw[IntKind.wrap_i64];omega)) ?_;refine aI (aR rfl) rfl rfl (cW rfl rfl) ?_;refine bq (cg (hK16 _ _ ?_));refine aW ?_;first
  |refine aI (aR rfl) rfl rfl (br (i:=0) rfl rfl aY (fun _ e=>e▸hp) rfl rfl) ?_
  |refine aI (aR rfl) rfl rfl (br (i:=1) rfl rfl aY (fun _ e=>e▸hp) rfl rfl) ?_
  |refine aI (aR rfl) rfl rfl (br (i:=2) rfl rfl aY (fun _ e=>e▸hp) rfl rfl) ?_
  |refine aI (aR rfl) rfl rfl (bO rfl rfl aY (fun _ e=>e▸dz hF c0)) ?_
  |refine aI (aR rfl) rfl rfl (bO rfl rfl aY (fun _ e=>e▸dz hF c1)) ?_
 refine aI (aR rfl) rfl rfl (nZ rfl rfl) ?_;refine aI (aR rfl) rfl rfl (n4 rfl rfl mU) ?_;first
  |refine aI (aR rfl) rfl rfl (br (i:=0) rfl rfl dP (fun _ e=>e▸hp) rfl rfl) ?_
  |refine aI (aR rfl) rfl rfl (br (i:=1) rfl rfl dP (fun _ e=>e▸hp) rfl rfl) ?_
  |refine aI (aR rfl) rfl rfl (br (i:=2) rfl rfl dP (fun _ e=>e▸hp) rfl rfl) ?_
  |refine aI (aR rfl) rfl rfl (bO rfl rfl dP (fun _ e=>e▸dz hF c0)) ?_
  |refine aI (aR rfl) rfl rfl (bO rfl rfl dP (fun _ e=>e▸dz hF c1)) ?_
 refine aI (aR rfl) rfl rfl (cW rfl rfl) ?_;refine bq (rG (cg (hK7 _ _ ?_)));refine aW ?_;refine aI (aR rfl) rfl rfl (cf rfl rfl) ?_;refine aI (aR rfl) rfl rfl (jm (c:=1) rfl rfl rfl (by decide)) ?_;refine aI (aR rfl) rfl rfl (cW rfl rfl) ?_;refine bq (cg (eA ?_));refine bi fun K17 hK17=>?_;refine bi fun K18 hK18=>?_;refine aW ?_;refine aI (aR rfl) rfl rfl (cf rfl rfl) ?_;refine aI (aR rfl) rfl rfl (m8 rfl rfl rfl (by decide)) ?_;refine bq (cg (hK18 _ _ ?_));refine dm rfl ?_;refine dH (cg (hK17 _ _ ?_));refine bi fun K19 hK19=>?_;refine cz ?_;refine bi fun K20 hK20=>?_;refine bi fun K21 hK21=>?_;refine aW ?_;refine aI (aR rfl) rfl rfl (cf rfl rfl) ?_;refine aI (aR rfl) rfl rfl (iT (b:=false) rfl rfl Tryz.underlying64 (fun d w=>fw Tryz.underlying64 d w) (fun w y=>by cases y<;>rfl)) ?_;refine bq (cg (hK21 _ _ ?_));refine dI rfl ?_;refine dH (cg (hK20 _ _ ?_));refine bi fun K22 hK22=>?_;refine aW ?_;refine aI (aR rfl) rfl rfl (cf rfl rfl) ?_;refine aI (aR rfl) rfl rfl (AO rfl rfl (by kernel_rfl)) ?_;refine aI (aR rfl) rfl rfl (cf rfl rfl) ?_;refine aI (aR rfl) rfl rfl (qB rfl rfl rfl) ?_;refine aI (aR rfl) rfl rfl (qB rfl rfl rfl) ?_;refine aI (aR rfl) rfl rfl (cW rfl rfl) ?_;refine aI (aR rfl) rfl rfl (cW rfl rfl) ?_;refine bq (cg (hK22 _ _ ?_));refine bi fun K23 hK23=>?_;refine bi fun K24 hK24=>?_;refine aW ?_;refine aI (aR rfl) rfl rfl (cf rfl rfl) ?_;refine bq (cg (hK24 _ _ ?_));refine dm rfl ?_;refine bi fun K25 hK25=>?_;refine bi fun K26 hK26=>?_;refine aW ?_;refine aI (aR rfl) rfl rfl (cf rfl rfl) ?_;refine aI (aR rfl) rfl rfl (Hi rfl rfl rfl (by omega)) ?_;refine bq (cg (hK26 _ _ ?_));refine dI rfl ?_;refine dH (cg (hK25 _ _ ?_));refine bi fun K27 hK27=>?_;refine aW ?_;refine aI (aR rfl) rfl rfl (cf rfl rfl) ?_;refine aI (aR rfl) rfl rfl (cf rfl rfl) ?_;refine aI (aR rfl) rfl rfl (pb (cells:= [_,_]) rfl rfl kA qn rfl) ?_;refine m6 (aR rfl) ?_;first
  |refine kJ (i:=0) rfl rfl rfl rfl kz rfl (by first|assumption|(simp[Value.oneCell'];done)) hp rfl rfl (fun w3 (hp:Hp w3 [(_,Cl [_,_] _),(_,Cl [_] _)]) hf _=>?_)
  |refine kJ (i:=1) rfl rfl rfl rfl kz rfl (by first|assumption|(simp[Value.oneCell'];done)) hp rfl rfl (fun w3 (hp:Hp w3 [(_,Cl [_,_] _),(_,Cl [_] _)]) hf _=>?_)
  |refine kJ (i:=2) rfl rfl rfl rfl kz rfl (by first|assumption|(simp[Value.oneCell'];done)) hp rfl rfl (fun w3 (hp:Hp w3 [(_,Cl [_,_] _),(_,Cl [_] _)]) hf _=>?_)
 have hF:=hF.step hf (by intro y hy;simp only[List.mem_cons,List.not_mem_nil,or_false]at hy;subst hy;first|(exact Or.inr (by omega))|(exact Or.inl (by simp)));refine bq (cg (hK27 _ _ ?_));first
  |refine wR (iE (qr (iE (iE (qr (iE (fR (qs rfl (Iz (i:=0) rfl kw hp rfl rfl)) ?_)))))))
  |refine wR (iE (qr (iE (iE (qr (iE (fR (qs rfl (Iz (i:=1) rfl kw hp rfl rfl)) ?_)))))))
  |refine wR (iE (qr (iE (iE (qr (iE (fR (qs rfl (Iz (i:=2) rfl kw hp rfl rfl)) ?_)))))))
 exact⟨rfl,hF⟩
end Go.Proofs.YtfgofabojepcmaaGreatDoor
end

section
set_option linter.unusedVariables false
set_option linter.unusedSimpArgs false
namespace Go.Proofs.YtfgofabojepcmaaGreatDoor.V
open Go.RowKit
def oR(e:dr):Prop:=e= .nil∨ ∃a n,e= .flt a (.num n)∧0≤a∧a≤1000000∧ ¬n=0
def p5:dr→ak
 | .flt a (.num n)=>⟨a,n⟩
 |_=>⟨0,0⟩
def LG:bZ U:=⟨[.d .err],fun xs es K=> ∃e:dr,xs= [⟨false,[(1,.d .err e)]⟩]∧es= []∧oR e∧K (.v ⟨true,[(2,.d (.st 1) (p5 e))]⟩) []⟩
theorem tH{Y:List Nat}{S:World→Prop}(a n:Int)(ha:cZ .i64 a)(hn:cZ .i64 n):aG U Y S (.st 1) (⟨a,n⟩:ak) [.int .i64 a,.int .i64 n]:=
 aG.st 1 _ _ (ec.cons 1 (.int .i64) _ a _ [.int .i64 a] _ (aG.int .i64 a ha) rfl (ec.cons 1 (.int .i64) _ n _ [.int .i64 n] _ (aG.int .i64 n hn) rfl ec.nil)) rfl
theorem LH:aQ Tryz.prog U 18 LG:=fun [F:al] hpr X w ρ es0 xs vs K M hv hrun=>by
 obtain⟨e,rfl,rfl,he,hK⟩:=hrun;obtain⟨v,us,rfl,ha,h3⟩:=hv;rw[show us= []from h3];have hd:aG U (aj ρ (aJ 0 ([]:List (aN U)))++X) (· =w) .err e [v]:=(bK.one1 ha).1;have fin: ∀(a n:Int) (w':World),cZ .i64 a→cZ .i64 n→Fr [] w w'→K (.v ⟨true,[(2,.d (.st 1) (⟨a,n⟩:ak))]⟩) []→
   ∃r es' ρ',K r es'∧jg (Vw U X w' ρ' es'.length (aJ 0 es')) r (.agg #[.int .i64 a,.int .i64 n])∧bd U X (· =w') ρ' es'.length (aJ 0 es')∧bP ρ 0 (aJ 0 []) w ρ' es'.length (aJ 0 es') w':=fun a n w' h1 h2 hf hK=>
  ⟨_,_,ρ,hK,⟨[.int .i64 a,.int .i64 n],rfl,_,[],(List.append_nil _).symm,rfl,tH a n h1 h2,rfl⟩,(M.keep0 hf).1,(M.keep0 hf).2⟩
 rcases he with rfl|⟨a,n,rfl,h0,h1,hn⟩
 ·have e1:=aG.inv hd;have e1: [v]= [Value.nilIface]:=e1;injection e1 with e1;subst e1;refine Fn.mono (w8 w) ?_;rintro v w' ⟨rfl,hf⟩;exact fin 0 0 w' ⟨by decide,by decide⟩ ⟨by decide,by decide⟩ hf hK
 ·have e1:=aG.inv hd;obtain⟨g,u,e1,hr,hd2,hrd⟩:=e1;injection e1 with e1;subst e1;have e2:=aG.inv hd2;obtain⟨e2,hrn⟩:=e2;injection e2 with e2;subst e2;have hx:=hrd w rfl;obtain⟨g0,b0,q0,_,c0⟩:=hx 0 _ rfl;obtain⟨g1,b1,q1,_,c1⟩:=hx 1 _ rfl;injection q0 with q0;injection q0 with q0a q0b;subst q0a;subst q0b;injection q1 with q1;injection q1 with q1a q1b;subst q1a;subst q1b;refine Fn.mono (xa g a n w c0 c1 (M.gv.2 w rfl).et ⟨h0,h1⟩ hn) ?_;rintro v w' ⟨rfl,hf⟩;exact fin a n w' hr hrn hf hK
end Go.Proofs.YtfgofabojepcmaaGreatDoor.V
end

section
set_option linter.unusedVariables false
set_option linter.unusedSimpArgs false
set_option maxRecDepth 20000
set_option maxHeartbeats 4000000
namespace Go.Proofs.YtfgofabojepcmaaGreatDoor.V
open Go.RowKit
theorem j8{a e:Int}(he: ¬e=0)(h0:0≤a)(h1:a≤1000000):oR (mH a e):=by
 unfold mH;rw[if_neg he];exact .inr ⟨a,e,rfl,h0,h1,he⟩
theorem iu(s:List UInt8)(hl:((List.take ((↑(Lib.split s [(10:UInt8)]).length:Int)-(1:Int)).toNat (Lib.split s [(10:UInt8)])).length:Int)≤999999):
  ∀(n:Nat) (e2 e3:List ah) (e4:List (List Int)) (e5:List aZ) (k c:Int) (d:ak) (st:Int) (r:ap×(List aZ)×dr),0≤k→cT s n e2 e3 e4 e5 k c d st= .inl r→oR r.2.2
 |0,e2,e3,e4,e5,k,c,d,st,r,hk,h=>by cases h
 |n+1,e2,e3,e4,e5,k,c,d,st,r,hk,h=>by
  rw[cT]at h;split at h
  ·rename_i hlt;split at h
   ·exact iu s hl n _ _ _ _ _ _ _ _ r (by omega) h
   ·rename_i hne;injection h with h;subst h;exact j8 hne (by omega) (by omega)
  ·cases h
theorem qb{s:List UInt8}(hs:s.length≤100000):oR (aU s).2.2:=by
 have hq:=bD s 10;unfold aU;split
 ·exact j8 (a:=0) (e:=8) (by decide) (by decide) (by decide)
 ·split
  ·exact j8 (a:=601) (e:=8) (by decide) (by decide) (by decide)
  ·split
   ·rename_i r h;exact iu s (by rw[List.length_take];omega) _ _ _ _ _ _ _ _ _ r (Int.le_refl _) h
   ·split
    ·exact j8 (a:=(↑(Lib.split s [(10:UInt8)]).length:Int)-(1:Int)+(1:Int)) (e:=1) (by decide) (by omega) (by omega)
    ·exact .inl rfl
end Go.Proofs.YtfgofabojepcmaaGreatDoor.V
end

section
set_option linter.unusedVariables false
set_option linter.unusedSimpArgs false
set_option maxRecDepth 20000
set_option maxHeartbeats 4000000
namespace Go.Proofs.YtfgofabojepcmaaGreatDoor.V
open Go.RowKit
def Io:bZ U:=⟨[.n],fun xs es K=> ∃(cores:Int) (eds dvs:List ah) (grs:List (List Int)) (disk:ak),xs= [⟨true,[(1,.d (.int .i64) cores),(1,.own 0 0),(1,.own 1 0),(1,.own 2 0),(2,.d (.st 1) disk)]⟩]∧es= [.row 0 (.st 0) eds 250,.row 0 (.st 0) dvs 250,.row 0 (.sl (.int .i64)) grs 35]∧
 eds.length≤1000000∧dvs.length≤1000000∧K (.v ⟨false,[(1,.d (.int .i64) (dF ⟨cores,eds,dvs,grs,disk⟩))]⟩) [.row 0 (.st 0) eds 250,.row 0 (.st 0) dvs 250,.row 0 (.sl (.int .i64)) grs 35]⟩
theorem Ll:aQ Tryz.prog U 47 Io:=fun [F:al] hpr X w ρ es0 xs vs K M hv hrun=>by
 obtain⟨cores,eds,dvs,grs,disk,rfl,rfl,hc1,hc2,hK⟩:=hrun;obtain⟨v,us,rfl,h1,h2⟩:=hv;rw[show us= []from h2];obtain⟨H',t,ht,M',s',hden⟩:=jp (s:= .st 2) (x:=(⟨true,[(1,.d (.int .i64) cores),(1,.own 0 0),(1,.own 1 0),(1,.own 2 0),(2,.d (.st 1) disk)]⟩:Va U)) (K:=fun _ t=>t=(⟨cores,eds,dvs,grs,disk⟩:ap)) (by exact rfl) M;have ht:t=(⟨cores,eds,dvs,grs,disk⟩:ap):=ht;subst ht;have hd0:=hden v h1;have M0:bd U X (· =w) ρ ([]:List (aN U)).length (aJ 0 []):=zm (F0:=F) (M.lo w rfl) M.xs M.gv;have hd1:=aG.mv (Mv.sub (S:=(· =w)) (Y':=aj ρ (aJ 0 ([]:List (aN U)))++X) (fun y hy=>List.mem_append_right (aj ρ H') hy)) hd0;refine Fn.mono (MX hpr X w ρ [] [⟨true,[(6,.d (.st 2) (⟨cores,eds,dvs,grs,disk⟩:ap))]⟩] [v] (fun r es=>r= .v ⟨false,[(1,.d (.int .i64) (dF ⟨cores,eds,dvs,grs,disk⟩))]⟩∧es= []) M0 ⟨v,[],rfl,sg hd1 (ma h1),rfl⟩ ⟨_,rfl,rfl,hc1,hc2,rfl,rfl⟩) ?_;rintro r w' ⟨av,es',ρ',⟨rfl,rfl⟩,hav,M2,st⟩;have hf:Fr [] w w':=st.fr;obtain⟨e1,e2⟩:=aG.inv (show aG U _ _ (.int .i64) _ [r]from(bK.one1 hav).1);injection e1 with e1;subst e1;exact⟨_,_,ρ,hK,eD (aG.int .i64 _ e2),(M.keep0 hf).1,(M.keep0 hf).2⟩
end Go.Proofs.YtfgofabojepcmaaGreatDoor.V
end

/- Instances of generic functions. -/
import Derived.Test.YtiliglahlfkikaaGreatDoorYt1
import Derived.RangeFuncKeeps
import Derived.Lib.AppendStr
import Derived.Lib.ConvBytes
import Derived.Test.YtiliglahlfkikaaGreatDoorYt16
import Derived.Test.YtiliglahlfkikaaGreatDoorYt3
import Derived.Test.YtiliglahlfkikaaGreatDoorYt17
import Derived.Shelf.SlMaps.Clone
import Derived.Test.YtiliglahlfkikaaGreatDoorYt13
section
namespace Go.Proofs.YtiliglahlfkikaaGreatDoor
open Go.RowKit Go.Lib
structure Lc where
 fn:FuncId
 tmps:Array Value
 ps:Array Tmp
 asg:Code
 body:Code
 D:Nat
abbrev Lr(c:Lc)(st:LoopState)(pe:Option Code):Obj:= .loop {state:=st,pending:=pe,fn:=c.fn,tmps:=c.tmps,params:=c.ps,assign:=c.asg,body:=c.body,defers:=c.D}
theorem Fr.putObj{w:World}{l:Nat}{o:Obj}:Fr [l] w (w.putObj l o):=⟨rfl,rfl,rfl,by simp,fun _ _ hk=>World.putObj_heap_other (fun e=>hk (by simp[e])),Nat.le_refl _⟩
theorem Hp.putObj{w:World}{H:bV}{i l:Nat}{o:Obj}(o':Obj)(h:Hp w H)(hi:H[i]? =some (some l,o)):Hp (w.putObj l o') (H.set i (some l,o')):=
 h.setAt hi Fr.putObj (World.putObj_heap_same (bn (h.at hi)))
def mr(P:Program)(l:Nat)(xs:List Value)(w:World)(T F:World→Prop):Prop:=
 ∃fn tmps asg body,(Instr.yield l xs.toArray).run P w= .ok (.round l fn tmps asg body) w∧
  RoundIn Fence.wide 0 P l fn tmps asg body w (fun e w'=> ∃b,e= .returned (.bool b)∧(b=true→T w')∧(b=false→F w'))
section
variable [ci] {P:Program} {n:Nat} {Q:EQ} {env:aI} {w:World} {ops:Array Oper} {o:Oper} {rest:List Oper}
theorem Ad{x:Operand}{xs:List Operand}{vs:List Value}{ts:Array TypeId}{d l:Nat}{T F:World→Prop}(hw:my n env ops o true)
  (ho:o.op= .call {callee:= .value x,args:=xs.toArray,argTypes:=ts}) (hf:env.ev x=some (.func (.yield l) #[] #[])) (hx:env.evs xs=some vs)
  (hd:o.dst=some d) (hn:Nat.blt d n=true) (hy:mr P l vs w T F)
  (h1: ∀w',T w'→Ls P n ops Q rest ((d,.bool true)::env) w') (h2: ∀w',F w'→Ls P n ops Q rest ((d,.bool false)::env) w'):Ls P n ops Q (o::rest) env w:=fun hnd a r=>
 wpListIn_step fun K hK=>by
  rw[if_pos (hw a r)];refine⟨fun _ _=>trivial,?_⟩;rw[Oper.semFw _ (Al hnd)];obtain⟨fn,tmps,asg,body,hrun,hR⟩:=hy;have e1:=r.evals hx;have e2:=r.eval hf;have hrun2:(execOp a.eval o).run P w= .ok (.round l fn tmps asg body) w:=by
   unfold execOp;simp only[ho,resolve,e2,Deferred.ofValue,Sem.run_bind,Sem.run_pure,Result.andThen_ok,invoke];simp[e1,hrun]
  rw[hrun2,Oper.uponIn_round];refine⟨fun h=>by simp[Fw,Fence.wide]at h,trivial,fun c cs _=>?_⟩;obtain⟨e,w',⟨b,he,ht,hf'⟩,hs⟩:=hR.2 c cs (room_wide _);subst he;refine⟨.returned (.bool b),w',?_,hs⟩;have r':=r.put hn (.bool b);rw[←hd]at r';cases b with
  |true=>exact hK _ _ (h1 w' (ht rfl) (ql hnd) _ r')
  |false=>exact hK _ _ (h2 w' (hf' rfl) (ql hnd) _ r')
end
section
variable [ci] {P:Program} {n:Nat} {env:aI} {S:World→Prop} {o:Oper}
theorem Ej{x y:Operand}{t u:Nat}{k:IntKind}{p q:Int}(ho:o.op= .call {callee:= .builtin .min,args:= #[x,y],argTypes:= #[t,u]})(hx:env.ev x=some (.int k p))(hy:env.ev y=some (.int k q)):cy P n env S o (.int k (min p q)):=fun a r w _=>by
 refine eo ho (r.eval hx) (r.eval hy) fun c=>?_;have e:(if q<p then q else p)=min p q:=by simp only[Int.min_def];split<;>split<;>omega
 simp[builtin,Builtin.min_,Builtin.min2,←e]
end
def Rd(c:Lc)(l:Nat)(T F:World→Prop):EQ:=fun e _ w=>match e with
 | .normal=>w.heap[l]? =some (Lr c .busy none)∧T (w.putObj l (Lr c .ready none))
 | .ret=>w.heap[l]? =some (Lr c .busy none)∧F (w.putObj l (Lr c .done (some .ret)))
 | .exit id=>w.heap[l]? =some (Lr c .busy none)∧F (w.putObj l (Lr c .done (some (.exit id))))
 |_=>False
section
variable {c:Lc} {l i:Nat} {T F:World→Prop} {env:aI} {w:World} {H:bV}
theorem NQ(hp:Hp w H)(hi:H[i]? =some (some l,Lr c .busy none))(h: ∀W,Hp W (H.set i (some l,Lr c .ready none))→Fr [l] w W→T W):Rd c l T F .normal env w:=⟨hp.at hi,h _ (hp.putObj _ hi) Fr.putObj⟩
end
def rB:List Tmp→List Value→aI→aI
 |t::ts,v::vs,e=>rB ts vs ((t,v)::e)
 |_,_,e=>e
structure uT(n:Nat)(env:aI)(t:Array Value):Prop where
 size:t.size=n
 get: ∀k v,env.get k=some v→t[k]? =some v
theorem uT.par{n:Nat}: ∀(ts:List Tmp) (vs:List Value) (env:aI) (t:Array Value),uT n env t→(ts.all (Nat.blt · n))=true→uT n (rB ts vs env) ((ts.zip vs).foldl (fun tmps (t,a)=>tmps.setIfInBounds t a) t)
 | [],_,_,_,h,_=>h
 |_::_,[],_,_,h,_=>h
 |d::ts,v::vs,env,t,h,hb=>by
  simp only[List.all_cons,Bool.and_eq_true]at hb;have hd:d<n:=by simpa[Nat.blt_eq]using hb.1
  refine uT.par ts vs ((d,v)::env) _ ⟨by simp[h.size],fun k u hk=>?_⟩ hb.2;unfold aI.get at hk;by_cases e:d=k
  ·subst e;simp at hk;subst hk;simp[h.size,hd]
  ·rw[cM e]at hk;simp only[cond_false]at hk;rw[Array.getElem?_setIfInBounds_ne e];exact h.get k u hk
theorem Ae{P:Program}{n l:Nat}{c:Lc}{xs:List Value}{env:aI}{w:World}{T F:World→Prop}(ps:List Tmp)(hps:c.ps=ps.toArray)(hl:xs.length=ps.length)(hb:(ps.all (Nat.blt · n))=true)
  (hw:w.heap[l]? =some (Lr c .ready none)) (ht:uT n env c.tmps)
  (h: ∀ [ci],Wp P n c.asg (Th (fun e w1=> ∃H i,Hp w1 H∧H[i]? =some (some l,Lr c .ready none)∧ ∀W2,Hp W2 (H.set i (some l,Lr c .busy none))→Fr [l] w1 W2→Wp P n c.body (Rd c l T F) e W2) (fun _ _ _=>False)) (rB ps xs env) w):
  mr P l xs w T F:=by
 have h1:=run_yield (P:=P) (args:=xs.toArray) hw (by simp[hps,hl]);refine⟨_,_,_,_,h1,?_⟩;refine roundIn_of_wpIn trivial ?_;have hr:=uT.par ps xs env c.tmps ht hb;have h2:= @h ⟨[],some l⟩;have e1:(Array.foldl (fun tmps x=>tmps.setIfInBounds x.fst x.snd) c.tmps (c.ps.zip xs.toArray))=((ps.zip xs).foldl (fun tmps (t,a)=>tmps.setIfInBounds t a) c.tmps):=by
  rw[hps];simp
 have h3:=h2 {tmps:=(ps.zip xs).foldl (fun tmps (t,a)=>tmps.setIfInBounds t a) c.tmps,defers:= []} (@jd.mk ⟨[],some l⟩ _ _ _ hr.size rfl hr.get);simp only[e1];refine Code.wpIn_mono (fun e a' w' hq=>?_) h3;obtain⟨env',r',q⟩:=hq;cases e with
 |normal=>
  obtain⟨H,i,hp,hi,q2⟩:=q;refine⟨_,run_beginRound (hp.at hi) rfl,?_⟩;refine Code.wpIn_mono (fun e2 a2 w2 hq2=>?_) (q2 _ (hp.putObj _ hi) Fr.putObj a' r');obtain⟨env2,r2,q3⟩:=hq2;cases e2 with
  |normal=>exact⟨_,_,run_endRound none q3.1,true,rfl,fun _=>q3.2,fun hf=>by cases hf⟩
  |ret=>exact⟨_,_,run_endRound (some .ret) q3.1,false,rfl,(fun hf=>by cases hf),fun _=>q3.2⟩
  |exit id=>exact⟨_,_,run_endRound (some (.exit id)) q3.1,false,rfl,(fun hf=>by cases hf),fun _=>q3.2⟩
  |_=>exact q3.elim
 |_=>exact q.elim
abbrev A9(D:Nat):ci:=⟨[{target:= .collected D,args:= #[]}],none⟩
def Jk [ci](P:Program)(n:Nat)(fn:Func)(D:Nat)(Post:Value→World→Prop):EQ:=fun e env w=>match e with
 | .normal| .ret=>w.heap[D]? =some (.deferred (some []))∧ ∃v,xN P n fn env (w.putObj D (.deferred none)) v∧Post v (w.putObj D (.deferred none))
 |_=>False
theorem Dc [ci]{P:Program}{n i D:Nat}{fn:Func}{env:aI}{w:World}{H:bV}{Post:Value→World→Prop}(hp:Hp w H)(hi:H[i]? =some (some D,.deferred (some [])))
  (h: ∀W,Hp W (H.set i (some D,.deferred none))→Fr [D] w W→ ∃v,xN P n fn env W v∧Post v W):Jk P n fn D Post .ret env w:=⟨hp.at hi,h _ (hp.putObj _ hi) Fr.putObj⟩
abbrev m5(Post:Value→World→Prop):Ending→World→Prop:=fun e w'=> ∃v,e= .returned v∧Post v w'
def NR(P:Program)(fn:Func)(Post:Value→World→Prop):List Code→Act→World→Prop
 | []=>bodyPostM Fence.wide 0 P fn (m5 Post) .normal
 |c::cs=>c.wpIn Fence.wide 0 P (Exit.then (NR P fn Post cs) (bodyPostM Fence.wide 0 P fn (m5 Post)))
def Wf(P:Program)(n:Nat)(fn:Func)(Post:Value→World→Prop)(cs:List Code)(env:aI)(w:World):Prop:= ∀a, @jd dfs0 n env a→NR P fn Post cs a w
def Wd [ci](P:Program)(n:Nat)(fn:Func)(D:Nat)(Post:Value→World→Prop):List Code→aI→World→Prop
 | []=>Jk P n fn D Post .normal
 |c::cs=>Wp P n c (Th (Wd P n fn D Post cs) (Jk P n fn D Post))
section
variable {P:Program} {n:Nat} {fn:Func} {Post:Value→World→Prop} {env:aI} {w:World} {x y z:Code} {cs:List Code}
theorem uU(h:Wf P n fn Post (x::y::cs) env w):Wf P n fn Post (.seq x y::cs) env w:=fun a r=>
 wpIn_seq (Code.wpIn_mono (fun e a' w' hq=>by cases e<;>exact hq) (h a r))
theorem Dd{a:Act}{e:Exit}(he:e= .normal∨e= .ret)(r: @jd dfs0 n env a)(h: @Fq dfs0 P n fn (m5 Post) e env w):bodyPostM Fence.wide 0 P fn (m5 Post) e a w:=by
 have hd:a.defers= []:=r.defers;rcases he with rfl|rfl<;>
 ·obtain⟨v,hv,hP⟩:=h;simp only[bodyPostM,hd];exact⟨v,hv a r,hP⟩
theorem Jl(h: ∀K:aI→World→Prop,(∀e v,Wf P n fn Post cs e v→K e v)→ @Wp dfs0 P n x (Th K (@Fq dfs0 P n fn (m5 Post))) env w):Wf P n fn Post (x::cs) env w:=fun a r=>
 Code.wpIn_mono (fun e a' w' hq=>by
  obtain⟨env',r',q⟩:=hq;cases e with
  |normal=>exact q a' r'
  |ret=>exact Dd (.inr rfl) r' q
  |_=>exact q.elim) (h (Wf P n fn Post cs) (fun _ _ h=>h) a r)
theorem o7{a:Act}{e:Exit}{D:Nat}(he:e= .normal∨e= .ret)(r: @jd (A9 D) n env a)(h: @Jk (A9 D) P n fn D Post e env w):bodyPostM Fence.wide 0 P fn (m5 Post) e a w:=by
 have hd:a.defers= [{target:= .collected D,args:= #[]}]:= @jd.defers (A9 D) _ _ _ r;rcases he with rfl|rfl<;>
 ·obtain⟨h1,v,hv,hP⟩:=h;simp only[bodyPostM,hd];refine⟨by simp,.inl ⟨D,_,rfl,run_takeDeferred h1,v,hv a r,v,rfl,hP⟩⟩
theorem uV{D:Nat}: ∀(cs:List Code) (env:aI) (w:World) (a:Act), @Wd (A9 D) P n fn D Post cs env w→ @jd (A9 D) n env a→NR P fn Post cs a w
 | [],_,_,_,h,r=>o7 (.inl rfl) r h
 |c::cs,env,w,a,h,r=>Code.wpIn_mono (fun e a' w' hq=>by
   obtain⟨env',r',q⟩:=hq;cases e with
   |normal=>exact uV cs env' w' a' q r'
   |ret=>exact o7 (.inr rfl) r' q
   |_=>exact q.elim) (h a r)
theorem Jm{id gf:Nat}{g:Operand}{ps:Array Tmp}{asg body:Code}{lb:List Value}(hg:env.ev g=some (.func (.func gf) #[] lb.toArray))(hent:aS P gf=true)
  (h: ∀(c:Lc) (D l:Nat) (W:World),c.ps=ps→c.asg=asg→c.body=body→uT n env c.tmps→Fr [] w W→w.heap.size≤D→w.heap.size≤l→(∀H,Hp w H→Hp W (H++ [(some D,.deferred (some [])),(some l,Lr c .ready none)]))→
   Fn P gf (.func (.yield l) #[] #[]::lb) W fun _ W'=>
    (∃H i,Hp W' H∧H[i]? =some (some l,Lr c .ready none)∧ ∀W2,Hp W2 (H.set i (some l,Lr c .exhausted none))→Fr [l] W' W2→ ∀ [ci],Wd P n fn D Post cs env W2)∨
    (∃H i,Hp W' H∧H[i]? =some (some l,Lr c .done (some (.exit id)))∧ ∀W2,Hp W2 (H.set i (some l,Lr c .exhausted (some (.exit id))))→Fr [l] W' W2→ ∀ [ci],Wd P n fn D Post cs env W2)∨
    (∃H i,Hp W' H∧H[i]? =some (some l,Lr c .done (some .ret))∧ ∀W2,Hp W2 (H.set i (some l,Lr c .exhausted (some .ret)))→Fr [l] W' W2→ ∀ [ci],Jk P n fn D Post .ret env W2)):
  Wf P n fn Post (.block id (.rangeFunc g ps asg body)::cs) env w:=fun a r=>by
 refine wpIn_block (wpIn_rangeFunc fun f _=>?_);have e2:=r.eval hg;obtain⟨c,hc⟩: ∃c:Lc,c=⟨f,a.tmps,ps,asg,body,w.heap.size⟩:=⟨_,rfl⟩;obtain⟨W1,hW1⟩: ∃W1,(w.alloc (.deferred (some []))).alloc (Lr c .ready none)=W1:=⟨_,rfl⟩;have hsz:(w.alloc (.deferred (some []))).heap.size=w.heap.size+1:=World.size_alloc ..;have hF:Fr [] w W1:=by rw[←hW1];exact(Fr.alloc w _).step0 (Fr.alloc _ _)
 have hmain:=h c w.heap.size (w.heap.size+1) W1 (by rw[hc]) (by rw[hc]) (by rw[hc]) (by rw[hc];exact⟨r.size,r.get⟩) hF (Nat.le_refl _) (by omega) (fun H hp=>by
  have h1:=(hp.alloc (.deferred (some []))).alloc (Lr c .ready none);rw[hW1,hsz,List.append_assoc]at h1;exact h1)
 refine⟨w.heap.size+1,[{target:= .collected w.heap.size,args:= #[]}],W1,{target:= .fn (.func gf) lb.toArray,args:= #[.func (.yield (w.heap.size+1)) #[] #[]]},W1,gf,
  (.func (.yield (w.heap.size+1)) #[] #[]::lb).toArray,W1,?_,?_,fun _ _=>trivial,?_,fun h=>by simp[Fence.wide]at h,?_⟩
 ·rw[←hW1,hc];exact run_enterLoop_outer _ _ _ _ _
 ·simp only[resolve,e2];simp[go_sem]
 ·have eg:=hent;unfold aS at eg;cases hq:P.funcs[gf]? with
  |none=>simp[hq]at eg
  |some fn'=>
   simp only[hq,Bool.and_eq_true,Bool.not_eq_true',beq_eq_false_iff_ne]at eg;obtain⟨h2,h3⟩:=eg;have h4: ¬fn'.body=none:=by intro hbb;simp[hbb]at h3
   simp only[invoke];simp[callFunc,hq,h2,h4]
 ·have hcalls:=(callsIn_wide (n:=0 - 1)).2 hmain.2;refine hcalls.mono fun e W' ⟨v,he,hv⟩=>?_;subst he;have hd0:a.defers= []:=r.defers;have ra: @jd (A9 w.heap.size) n env {a with defers:= [{target:= .collected w.heap.size,args:= #[]}]++a.defers}:= @jd.mk (A9 _) _ _ _ r.size (by rw[hd0];rfl) r.get;rcases hv with⟨H,i,hp,hi,h2⟩|⟨H,i,hp,hi,h2⟩|⟨H,i,hp,hi,h2⟩
  ·exact⟨none,_,run_endLoop (hp.at hi) (by simp),uV cs env _ _ (@h2 _ (hp.putObj _ hi) Fr.putObj (A9 _)) ra⟩
  ·refine⟨some (.exit id),_,run_endLoop (hp.at hi) (by simp),?_⟩;refine wpIn_exit ?_;simp only[Exit.inBlock,if_true];exact uV cs env _ _ (@h2 _ (hp.putObj _ hi) Fr.putObj (A9 _)) ra
  ·refine⟨some .ret,_,run_endLoop (hp.at hi) (by simp),?_⟩;exact wpIn_ret (o7 (.inr rfl) ra (@h2 _ (hp.putObj _ hi) Fr.putObj (A9 _)))
theorem G4{f:FuncId}{c:Code}{args:List Value}(n:Nat)(he:aS P f=true)(hf:P.funcs[f]? =some fn)(hb:fn.body=some c)(hn:fn.ntmps=n)(hle:Nat.ble args.length n=true)
  (h:Wf P n fn Post [c] (cV 0 args) w):Fn P f args w Post:=by
 refine⟨he,callsIn_wide (n:=0)|>.1 (callsIn_of_wp_marks hf hb trivial (Code.wpIn_mono (fun e a' w' hq=>by cases e<;>exact hq) (h _ ⟨?_,rfl,fun k v hk=>?_⟩)))⟩
 ·have:args.length≤n:=by simpa[Nat.ble_eq]using hle
  simp[hn];omega
 ·obtain⟨_,h2⟩:=lh args 0 k v hk;simp only[Nat.sub_zero]at h2;have hlt:k<args.length:=(List.getElem?_eq_some_iff.1 h2).1;have h3:args[k]=v:=(List.getElem?_eq_some_iff.1 h2).2;simp[Array.getElem?_append,hlt,h3]
end
section
variable [ci] {P:Program} {n:Nat} {env:aI} {w:World} {o:Oper} {K:aI→World→Prop} {H:bV}
end
section
variable [ci] {P:Program} {n:Nat} {env:aI} {w:World} {o:Oper} {K:aI→World→Prop} {H:bV}
end
end Go.Proofs.YtiliglahlfkikaaGreatDoor
end

section
set_option linter.unusedVariables false
set_option linter.unusedSimpArgs false
namespace Go.Proofs.YtiliglahlfkikaaGreatDoor.V
open Go.RowKit
theorem Cp{P:Program}{f m kt et:Nat}{fn:Go.Func}{ρf ρt:Nat→Nat}(hen:aS P f=true)(hf:P.funcs[f]? =some fn)(hb:fn.body=some (e9 ρf ρt (dn Tryz.f162)))(hn:fn.ntmps=14)(hr0:fn.results= #[])
  {α β:Type} {enc:α→Value} {ev:β→Value} {cs:α→List Value} {z:List Value} (pl:du P (ρt 106)=true) (un:P.underlying (ρt 106)=some (.map kt et)) (ag:aW P (ρt 34)=some m) (sz:(P.info? (ρt 34)).map (·.size)=some m) (zc:zeroCells P (ρt 34)=some z) (hz:z.length=m)
  (l gs g clock:Nat) (es:Array MapEntry) (ms:List (α×β)) (w:World) (hM:mt enc ev es clock ms) (hE: ∀x∈ms.map (·.1),enc x= .agg (cs x).toArray∧(cs x).length=m∧ ∀v∈cs x,v.oneCell'=true)
  (hgs:Hp w [(some gs,Cl [.map (some g)] (ρt 106))]) (hg:w.heap[g]? =some (.map es clock)) (Q:List α→World→Prop) (Jx:World→Prop)
  (h: ∀r W0,Fr [] w W0→w.heap.size≤r→r<W0.heap.size→ ∃J:List α→World→Prop,J [] W0∧(∀xs W W',J xs W→Fr [r] W W'→J xs W')∧
   (∀xs x W,(∃ys,(xs++x::ys).Perm (ms.map (·.1)))→J xs W→mr P l [enc x] W (fun W'=>J (xs++ [x]) W'∧ ∃O,Fr O W W'∧g∉O∧r∉O) Jx)∧ ∀xs W,xs.Perm (ms.map (·.1))→J xs W→Q xs W):
  Fn P f [.func (.yield l) #[] #[],.pointer (some ⟨gs,0,none⟩)] w fun _ W'=>(∃xs,xs.Perm (ms.map (·.1))∧Q xs W')∨Jx W':=by
 refine jB 14 hen hf hb hn rfl ?_;dsimp only[cV];refine sq fun _ k1=>rg (Ly rfl (rG (i:=0) rfl rfl pl (fun _ e=>e▸hgs) rfl rfl) (La rfl (tz rfl rfl rfl rfl un hg hM fun r W0 gh hR hr hf0 hsz=>?_)));obtain⟨J,h0,hst,hy,hQ⟩:=h r W0 hf0 hsz (bn hr);have hg0:W0.heap[g]? =some (.map es clock):=by rw[hf0.block g (bn hg) (by simp)];exact hg
 have hgr:g≠r:=by have:=bn hg;omega
 refine Ln k1 (bv ?_);refine tx (fun k e W=> ∃(xs:List α) (left cur:List (α×β)) (gh:Gh),k=left.length∧e= [(0,.func (.yield l) #[] #[]),(5,.pointer (some ⟨r,0,none⟩))]∧(xs++left.map (·.1)).Perm (ms.map (·.1))∧oZ enc ev es clock ms left cur gh∧W.heap[r]? =some (.mapIter (some g) gh.since gh.seen gh.c0)∧W.heap[g]? =some (.map es clock)∧J xs W) ms.length [(0,_),(5,_)] ⟨rfl,rfl,trivial⟩ ⟨[],ms,[],gh,rfl,rfl,List.Perm.refl _,hR,hr,hg0,h0⟩ ?_;rintro k e W ⟨xs,left,cur,gh,rfl,rfl,hp,hR,hr,hg,hj⟩;refine sq fun _ k2=>rg (La rfl (wq rfl rfl rfl rfl hr hg hR (fun e0=>?_) (fun a p b gh' W1 e0 hR2 hr hf1=>?_)))
 ·subst e0;refine Ly rfl (tN rfl rfl rfl) (Ln k2 (sq fun _ k3=>gF rfl ?_));refine fm (i7 (i7 (gW (fE (G5 hr0) ?_))));exact .inl ⟨xs,by simpa using hp,hQ xs _ (by simpa using hp) hj⟩
 subst e0;have hg:W1.heap[g]? =some (.map es clock):=by rw[hf1.block g (bn hg) (by simpa using hgr)];exact hg
 have hj:=hst _ _ _ hj hf1;have hx: ∃ys,(xs++p.1::ys).Perm (ms.map (·.1)):=⟨(a++b).map (·.1),by
  refine List.Perm.trans ?_ hp;refine List.Perm.append_left xs ?_;simp only[List.map_append,List.map_cons];exact List.perm_middle.symm⟩
 obtain⟨hx1,hx2,hx3⟩:=hE p.1 (by obtain⟨ys,h⟩:=hx;exact h.mem_iff.1 (by simp));refine Ly rfl (tN rfl rfl rfl) (Ln k2 (sq fun _ k3=>ep rfl ?_));refine sk k3 (bv ?_);refine sq fun _ k4=>rg (Ly rfl (tA rfl rfl (fun w e=>e▸hr) (fun w e=>e▸hg) hR2) (Ly rfl (tN rfl rfl rfl) (La rfl (nP rfl rfl rfl zc (Hp.nil W1) fun g3 W2 hp3 hf2 hg3=>?_))));have hp3:Hp W2 [(_,Cl _ _)]:=hp3;rw[hx1];refine La rfl (pi (i:=0) rfl rfl rfl rfl sz hx2 hx3 hp3 rfl (by rw[hz,hx2]) fun W3 hp4 hf3 _=>?_);have hp4:Hp W3 [(_,Cl (cs p.1) _)]:=hp4;have hf4:Fr [] W1 W3:=hf2.step hf3 (by simp;exact hg3);have hr3:W3.heap[r]? =some (.mapIter (some g) gh'.since gh'.seen gh'.c0):=by rw[hf4.block r (bn hr) (by simp)];exact hr
 have hg4:W3.heap[g]? =some (.map es clock):=by rw[hf4.block g (bn hg) (by simp)];exact hg
 have hj:=hst _ _ _ hj (hf4.mono (by simp));refine Ln k4 (sq fun _ k5=>rg (Lm rfl (Ly rfl (rH (i:=0) rfl rfl ag (fun _ e=>e▸hp4) rfl hx2) ?_)));have hyl:=hy xs p.1 W3 hx hj;rw[hx1]at hyl;refine Ad (ld rfl) rfl rfl rfl rfl rfl hyl (fun W4 hT=>?_) (fun W4 hT=>?_)
 ·obtain⟨hj,O,hfO,hgO,hrO⟩:=hT;refine Ly rfl (wx rfl rfl) (Ln k5 (gF rfl (eO (km (cL ?_)))));exact⟨(a++b).length,[(0,_),(5,_)],by simp,⟨rfl,rfl,trivial⟩,xs++ [p.1],a++b,[p],gh',rfl,rfl,by
   refine List.Perm.trans ?_ hp;rw[List.append_assoc];refine List.Perm.append_left xs ?_;simp only[List.map_append,List.map_cons,List.singleton_append];exact List.perm_middle.symm,hR2,by rw[hfO.block r (bn hr3) hrO];exact hr3,by rw[hfO.block g (bn hg4) hgO];exact hg4,hj⟩
 ·refine Ly rfl (wx rfl rfl) (Ln k5 (ep rfl ?_));refine wR (pH (i6 (pH (fR (G5 hr0) ?_))));exact .inr hT
theorem Cq{w:World}{H:bV}(h:Hp w H)(o:Obj):Hp w (H++ [(none,o)]):=by
 have key: ∀(i g:Nat) (b:Obj),(H++ [(none,o)])[i]? =some (some g,b)→H[i]? =some (some g,b):=fun i g b hi=>by
  rw[List.getElem?_append]at hi;split at hi
  ·exact hi
  ·rename_i hlt;cases hk:i - H.length with
   |zero=>rw[hk]at hi;cases hi
   |succ k=>rw[hk]at hi;cases hi
 exact⟨fun i g b hi=>h.blk i g b (key i g b hi),fun i j g a b hi hj=>h.inj i j g a b (key i g a hi) (key j g b hj)⟩
def Cr(P:Program)(gf:Nat)(lb:List Value)(w:World){α:Type}(enc:α→Value)(ok:List α→α→Prop)(KS:List α→Prop):Prop:=
 ∀(l:Nat) (W:World),Fr [] w W→ ∀(Q:List α→World→Prop),(∀r W0,Fr [] W W0→W.heap.size≤r→r<W0.heap.size→ ∃J:List α→World→Prop,J [] W0∧(∀xs W1 W2,J xs W1→Fr [r] W1 W2→J xs W2)∧
  (∀xs x W1,ok xs x→J xs W1→mr P l [enc x] W1 (fun W2=>J (xs++ [x]) W2∧ ∃O,Fr O W1 W2∧ ∀o∈O,w.heap.size≤o∧o≠r) (fun _=>False))∧ ∀xs W1,KS xs→J xs W1→Q xs W1)→
  Fn P gf (.func (.yield l) #[] #[]::lb) W fun _ W'=> ∃xs,KS xs∧Q xs W'
theorem zb{P:Program}{f gf m by_:Nat}{fn:Go.Func}{ρf ρt:Nat→Nat}(hen:aS P f=true)(hf:P.funcs[f]? =some fn)(hb:fn.body=some (e9 ρf ρt (dn Tryz.f196)))(hn:fn.ntmps=13)(hr0:fn.results= #[.tmp 4])(heg:aS P gf=true)
  {α:Type} {enc:α→Value} {cs:α→List Value} {z:List Value} (es:ax P (ρt 37)=some (ρt 34,m)) (plS:du P (ρt 37)=true) (aL:(P.info? (ρt 37)).map (·.size)=some 1) (ag:aW P (ρt 34)=some m) (sz:(P.info? (ρt 34)).map (·.size)=some m) (zc:zeroCells P (ρt 34)=some z) (hz:z.length=m) (hby:(P.info? (ρt 34)).map (·.bytes)=some by_) (hbb:by_≤100000) (hm0:0<m) (hmB:m≤1000) (zcS:zeroCells P (ρt 37)=some [.slice none 0 0])
  (lb:List Value) (w:World) {ok:List α→α→Prop} {KS:List α→Prop} (hok: ∀xs x,ok xs x→xs.length+1≤1000000∧enc x= .agg (cs x).toArray∧(cs x).length=m∧ ∀v∈cs x,v.oneCell'=true) (hIt:Cr P gf lb w enc ok KS):
  Fn P f [.slice none 0 0,.func (.func gf) #[] lb.toArray] w fun v w'=> ∃(xs:List α) (A:Option Addr) (c:Nat) (sp:List Value),KS xs∧v= .slice A xs.length c∧Ow A xs.length c m (xs.flatMap cs) sp∧(∀g,ah A=some g→w'.heap[g]? =some (Cl (xs.flatMap cs++sp) (ρt 34))∧w.heap.size≤g)∧Fr [] w w':=by
 refine G4 13 hen hf hb hn rfl ?_;dsimp only[cV];refine uU (Jl fun K1 hK1=>?_);refine rg (La rfl (Ao rfl rfl rfl rfl rfl (Hp.nil w) fun g2 w1 hp hf1 hg2=>?_));have hp:Hp w1 [(some g2,Cl [.slice none 0 0] (ρt 37))]:=hp;refine d8 rfl (cG (cL (hK1 _ _ ?_)));refine uU (uU (Jl fun K2 hK2=>?_));refine rg (Lm rfl (cG (cL (hK2 _ _ ?_))));refine Jm (lb:=lb) rfl heg (fun c Dm l wL hc1 hc2 hc3 htm hF0 hDn hln hpush=>?_);have hp:Hp wL [(some g2,Cl [.slice none 0 0] (ρt 37)),(some Dm,.deferred (some [])),(some l,Lr c .ready none)]:=hpush _ hp;have hF:=hf1.step0 hF0;have hl0:w.heap.size≤l:=Nat.le_trans hf1.size hln;have hD0:w.heap.size≤Dm:=Nat.le_trans hf1.size hDn;have l0:=hp.lt (i:=0) rfl;have l1:=hp.lt (i:=1) rfl;have l2:=hp.lt (i:=2) rfl;refine(hIt l wL hF (fun xs W=> ∃(A:Option Addr) (c':Nat) (sp:List Value),Hp W [(some g2,Cl [.slice A xs.length c'] (ρt 37)),(some Dm,.deferred (some [])),(some l,Lr c .ready none),(ah A,Cl (xs.flatMap cs++sp) (ρt 34))]∧Ow A xs.length c' m (xs.flatMap cs) sp∧Fr [] w W∧ ∀g,ah A=some g→w.heap.size≤g) (fun r W0 hf0 hr1 hr2=>?_)).mono (fun _ W' hq=>?_)
 ·refine⟨fun xs W=> ∃(A:Option Addr) (c':Nat) (sp:List Value),Hp W [(some g2,Cl [.slice A xs.length c'] (ρt 37)),(some Dm,.deferred (some [])),(some l,Lr c .ready none),(ah A,Cl (xs.flatMap cs++sp) (ρt 34))]∧Ow A xs.length c' m (xs.flatMap cs) sp∧Fr [] w W∧(∀g,ah A=some g→w.heap.size≤g∧g≠r)∧W0.heap.size≤W.heap.size,?_,?_,?_,?_⟩
  ·exact⟨none,0,[],Cq (hp.keep0 hf0) _,Ow.nil m,hF.step0 hf0,fun g e=>(by cases e),Nat.le_refl _⟩
  ·rintro xs W1 W2 ⟨A,c',sp,hp,how,hG,hA,hs⟩ hf;refine⟨A,c',sp,hp.keep hf (fun k hk hkr=>?_),how,hG.step hf (fun y hy=> .inr (by simp at hy;subst hy;have:=hF.size;omega)),hA,Nat.le_trans hs hf.size⟩;have hkr:=List.mem_singleton.1 hkr;subst hkr;obtain⟨i,o,hi⟩:=cu.1 hk;match i,hi with
   |0,hi=>injection hi with hi;injection hi with hi _;injection hi with hi;omega
   |1,hi=>injection hi with hi;injection hi with hi _;injection hi with hi;omega
   |2,hi=>injection hi with hi;injection hi with hi _;injection hi with hi;omega
   |3,hi=>injection hi with hi;injection hi with hi _;exact(hA _ hi).2 rfl
   |_+4,hi=>cases hi
  ·rintro xs x W1 hx ⟨A,c',sp,hp,how,hG,hA,hs⟩;obtain⟨hN,hx1,hx2,hx3⟩:=hok xs x hx;rw[hx1];have hF:=Fr.refl ([l,g2]++(ah A).toList) W1;refine Ae [7] hc1 rfl rfl (hp.at (i:=2) rfl) htm (fun [inst:ci]=>?_);rw[hc2];dsimp only[rB];refine rg (La rfl (nP rfl rfl rfl zc hp fun g5 W2 hp hf2 hg5=>?_));have hp:Hp W2 [_,_,_,_,(some g5,Cl z (ρt 34))]:=hp;refine La rfl (pi (i:=4) rfl rfl rfl rfl sz hx2 hx3 hp rfl (by rw[hz,hx2]) fun W3 hp hf3 _=>?_);have hp:Hp W3 [_,_,_,_,(some g5,Cl (cs x) (ρt 34))]:=hp;have hF:=(hF.step0 hf2).step hf3 (fun y hy=> .inr (by simp at hy;subst hy;exact hg5));refine cG (cL ⟨_,2,hp,rfl,fun W4 hp hf4=>?_⟩);have hp:Hp W4 [(some g2,Cl [.slice A xs.length c'] (ρt 37)),_,(some l,Lr c .busy none),(ah A,Cl (xs.flatMap cs++sp) (ρt 34)),(some g5,Cl (cs x) (ρt 34))]:=hp;have hF:=hF.step hf4 (fun y hy=> .inl (by simp at hy;subst hy;simp));rw[hc3];refine bv ?_;refine rg (Ly rfl (rG (i:=0) rfl rfl plS (fun _ e=>e▸hp) rfl rfl) (Ly rfl (rH (i:=4) rfl rfl ag (fun _ e=>e▸hp) rfl hx2) ?_));refine La rfl (GO rfl rfl rfl rfl es zc hx2 hmB hp fun g6 W5 hp hf5 hg6=>?_);have hp:Hp W5 [(some g2,Cl [.slice A xs.length c'] (ρt 37)),_,(some l,Lr c .busy none),(ah A,Cl (xs.flatMap cs++sp) (ρt 34)),(some g5,Cl (cs x) (ρt 34)),(some g6,Cl (cs x) (ρt 34))]:=hp;have hF:=hF.step0 hf5;refine La rfl (mi (i:=3) (news:=cs x) rfl rfl rfl rfl rfl rfl es zc hz hby hm0 how hp rfl (by rw[hx2,Nat.one_mul]) (GV (by have:=qm hp (i:=5) rfl;exact this)) (fun e=>by cases e) hx3 (by show xs.length+1≤maxLen;unfold maxLen;omega) (mb (by omega) hbb) fun A' c2 sp' W6 how' hp hf6 hA'=>?_);have hp:Hp W6 [(some g2,Cl [.slice A xs.length c'] (ρt 37)),_,(some l,Lr c .busy none),(ah A',Cl (xs.flatMap cs++cs x++sp') (ρt 34)),(some g5,Cl (cs x) (ρt 34)),(some g6,Cl (cs x) (ρt 34))]:=hp;have hF5:=hF;have hF:=hF.step hf6 (fun y hy=> .inl (List.mem_append_right _ hy));refine La rfl (Dn (i:=0) rfl rfl rfl rfl rfl aL rfl hp rfl (by simp) fun W7 hp hf7 _=>?_);have hp:Hp W7 [(some g2,Cl [.slice A' (xs.length+1) c2] (ρt 37)),(some Dm,.deferred (some [])),(some l,Lr c .busy none),(ah A',Cl (xs.flatMap cs++cs x++sp') (ρt 34)),(some g5,Cl (cs x) (ρt 34)),(some g6,Cl (cs x) (ρt 34))]:=hp;have hF:=hF.step hf7 (fun y hy=> .inl (by simp at hy;subst hy;simp));refine cG (km (NQ (i:=2) hp rfl (fun W8 hp hf8=>?_)));have hp:Hp W8 [(some g2,Cl [.slice A' (xs.length+1) c2] (ρt 37)),(some Dm,.deferred (some [])),(some l,Lr c .ready none),(ah A',Cl (xs.flatMap cs++cs x++sp') (ρt 34)),(some g5,Cl (cs x) (ρt 34)),(some g6,Cl (cs x) (ρt 34))]:=hp;have hF:=hF.step hf8 (fun y hy=> .inl (by simp at hy;subst hy;simp));have efm:(xs++ [x]).flatMap cs=xs.flatMap cs++cs x:=by simp
   have hO: ∀y∈ [l,g2]++(ah A).toList,w.heap.size≤y∧y≠r:=fun y hy=>by
    rcases List.mem_append.1 hy with hy|hy
    ·simp at hy;rcases hy with rfl|rfl
     ·exact⟨hl0,by omega⟩
     ·exact⟨hg2,by omega⟩
    ·exact hA y (by simpa using hy)
   refine⟨⟨A',c2,sp',?_,?_,hG.step hF (fun y hy=> .inr (hO y hy).1),fun g hg=>?_,Nat.le_trans hs hF.size⟩,_,hF,hO⟩
   ·rw[efm,List.length_append];exact hp.pk [0,1,2,3] (by decide)
   ·rw[efm,List.length_append];exact how'
   ·rcases hA' g hg with h|h
    ·exact hA g h
    ·have h1:=hF5.size;have h2:=hG.size;exact⟨by omega,by omega⟩
  ·rintro xs W1 hKS ⟨A,c',sp,hp,how,hG,hA,hs⟩;exact⟨A,c',sp,hp,how,hG,fun g hg=>(hA g hg).1⟩
 obtain⟨xs,hKS,A,c',sp,hp,how,hG,hA⟩:=hq;refine .inl ⟨_,2,hp,rfl,?_⟩;intro W2 hp hf inst;have hp:Hp W2 [(some g2,Cl [.slice A xs.length c'] (ρt 37)),(some Dm,.deferred (some [])),_,(ah A,Cl (xs.flatMap cs++sp) (ρt 34))]:=hp;have hG:=hG.step hf (fun y hy=> .inr (by simp at hy;subst hy;exact hl0));refine uW fun K3 hK3=>?_;refine rg (Ly rfl (rG (i:=0) rfl rfl plS (fun _ e=>e▸hp) rfl rfl) (d8 rfl (cG (cL (hK3 _ _ ?_)))));refine wR (i6 (Dc (i:=1) hp rfl (fun WE hp hf=>⟨_,g9 hr0 rfl,xs,A,c',sp,hKS,rfl,how,fun g hg=>⟨?_,hA g hg⟩,hG.step hf (fun y hy=> .inr (by simp at hy;subst hy;exact hD0))⟩)));exact hp.at (i:=3) (by rw[←hg];rfl)
section
variable [ao] {U:bQ} {X:List Nat} {w:World} {ρ:Nat→Rz} {n:Nat} {H:Hs U}
theorem sL(M:bu U X (· =w) ρ n H){H':Hs U}(hp:H'.Perm H):bu U X (· =w) ρ n H'∧cH ρ n H w ρ n H' w:=by
 have nd':(H'.map (·.1)).Nodup:=(hp.map _).nodup_iff.2 M.nd;have hlk: ∀i,aF H' i=aF H i:=fun i=>by
  cases h:aF H i with
  |some x=>exact dm nd' (hp.mem_iff.2 (al h))
  |none=>
   cases h':aF H' i with
   |none=>rfl
   |some y=>rw[dm M.nd (hp.mem_iff.1 (al h'))]at h;cases h
 have hob: ∀g,g∈ak ρ H'↔g∈ak ρ H:=fun g=>(hp.filterMap _).mem_iff;have st:cH ρ n H w ρ n H' w:=⟨M.xd,Nat.le_refl _,Fr.refl _ _,fun g hg=> .inl ((hob g).1 hg),fun i hi v' l' m' h=>⟨v',l',m',by rw[←hlk];exact h,Nat.le_refl _,fun _=>⟨rfl,rfl,rfl⟩⟩,fun _ _ _=>rfl⟩;exact⟨⟨nd',fun p h=>M.lt p (hp.mem_iff.1 h),fun p h=>(M.ent p (hp.mem_iff.1 h)).step st rfl (fun _ _=>rfl),fun p h q h'=>M.inj p (hp.mem_iff.1 h) q (hp.mem_iff.1 h'),fun g hg=>M.dj g ((hob g).1 hg),M.lo,M.xs,M.gv⟩,st⟩
end
section
variable {U:bQ} {Y:List Nat} {S:World→Prop} {d:KD U}
theorem aB.keys: ∀{l:List (TT U.ty d.k×TT U.ty d.v)} {m:List (TT U.ty d.k×Value)},aB U Y S d l m→m.map (·.1)=l.map (·.1)∧ ∀x∈l.map (·.1),∃vs,dS (eE d.k) (d.enc x) vs∧aD U Y S d.k x vs
 | [],[],_=>⟨rfl,fun x h=>by cases h⟩
 |(x,y)::l,(x',u)::m,⟨h1,hk,_,h3⟩=>by
  subst h1;obtain⟨h4,h5⟩:=aB.keys h3;refine⟨by simp[h4],fun z hz=>?_⟩;rcases List.mem_cons.1 hz with rfl|hz
  ·exact hk
  ·exact h5 z hz
 | [],_::_,h=>h.elim
 |_::_,[],h=>h.elim
theorem v7{s:bg}{cs:TT U.ty s→List Value}: ∀(l:List (TT U.ty s)),(∀x∈l,aD U Y S s x (cs x))→aQ U Y S s l (l.flatMap cs)
 | [],_=> .nil s
 |x::l,h=> .cons s x l (cs x) _ (h x (by simp)) (h x (by simp)).length (v7 l fun y hy=>h y (by simp[hy]))
end
def sN(U:bQ)(d:KD U)(fk tm el:Nat):bh U:=⟨[.n,.n],fun xs es K=> ∃l:List (TT U.ty d.k×TT U.ty d.v),xs= [⟨false,[(1,.nils)]⟩,⟨false,[(1,.clo fk [0])]⟩]∧es= [.cells [(1,.mp 1)] tm,.map d l]∧l.length≤1000000∧
 ∀ks:List (TT U.ty d.k),ks.Perm (l.map (·.1))→K (.v ⟨false,[(1,.own 2 0)]⟩) [.cells [(1,.mp 1)] tm,.map d l,.row 0 d.k ks el]⟩
theorem xe{U:bQ}{P:Program}{fi fk kt et:Nat}{fn fn1:Go.Func}{ρf ρt ρf1 ρt1:Nat→Nat}{d:KD U}{ei:TI U}
  (hen:aS P fi=true) (hf:P.funcs[fi]? =some fn) (hb:fn.body=some (e9 ρf ρt (dn Tryz.f196))) (hn:fn.ntmps=13) (hr0:fn.results= #[.tmp 4])
  (hen1:aS P fk=true) (hf1:P.funcs[fk]? =some fn1) (hb1:fn1.body=some (e9 ρf1 ρt1 (dn Tryz.f162))) (hn1:fn1.ntmps=14) (hr1:fn1.results= #[]) (h34:ρt1 34=ρt 34)
  (es:ax P (ρt 37)=some (ρt 34,aL U d.k)) (plS:du P (ρt 37)=true) (szS1:(P.info? (ρt 37)).map (·.size)=some 1) (zcS:zeroCells P (ρt 37)=some [.slice none 0 0]) (ag:aW P (ρt 34)=some (aL U d.k)) (sz:(P.info? (ρt 34)).map (·.size)=some (aL U d.k))
  (pl:du P (ρt1 106)=true) (un:P.underlying (ρt1 106)=some (.map kt et)) (hag:eE d.k=true) (hti:aZ U P (ρt 34) ei) (hz: ∃z,da 20 d.k ei.zero fun x=>x=z) (hbb:ei.by_≤100000) (hm0:0<aL U d.k) (hmB:aL U d.k≤1000):cc P U fi (sN U d fk (ρt1 106) (ρt 34)):=fun [F:ao] hpr X w ρ es0 xs vs K M hv hrun=>by
 obtain⟨l,rfl,rfl,hl,hK⟩:=hrun;obtain⟨v1,us1,rfl,h1,v2,us2,rfl,h2,h3⟩:=hv;rw[show us2= []from h3];have e1: [v1]= [Value.slice none 0 0]:=(bR.one1 h1).1;injection e1 with e1;subst e1;obtain⟨e2,hall⟩:=(bR.one1 h2).1;injection e2 with e2;subst e2;obtain⟨g0,D5,hA0,hs0,hw0⟩:=M.ent (0,.cells [(1,.mp 1)] (ρt1 106)) (by simp[aJ]);obtain⟨hkd,g,es',clock,mv,hA1,hM,hD,hw1⟩:=M.ent (1,.map d l) (by simp[aJ]);obtain⟨z,hzz⟩:=hz;obtain⟨I,hu⟩:=ie hti ⟨z,hzz⟩ (ak ρ (aJ 0 [aM.cells [(1,.mp 1)] (ρt1 106),.map d l])++X) w;obtain⟨hk1,hk2⟩:=hD.keys;have ev0:D5= [.map (some g)]:=by
  obtain⟨v1,v2,rfl,hl1,hx,hr⟩:=hs0;obtain⟨_,_,g',hA',e⟩:=hx;rw[show v2= []from hr,e];rw[hA1]at hA';injection hA' with hA';injection hA' with hA';subst hA';rfl
 subst ev0;have hgs:Hp w [(some g0,Cl [.map (some g)] (ρt1 106))]:=Hp.one1 (hw0 w rfl);obtain⟨cs,hcs⟩: ∃cs:TT U.ty d.k→List Value,cs=fun x=>(d.enc x).cells.toList:=⟨_,rfl⟩;have hE: ∀x∈mv.map (·.1),d.enc x= .agg (cs x).toArray∧(cs x).length=aL U d.k∧(∀v∈cs x,v.oneCell'=true)∧aD U (ak ρ (aJ 0 [aM.cells [(1,.mp 1)] (ρt1 106),.map d l])++X) (· =w) d.k x (cs x):=fun x hx=>by
  obtain⟨vs,ha,hd⟩:=hk2 x (by rw[←hk1];exact hx);unfold dS at ha;rw[hag]at ha;have:cs x=vs:=by rw[hcs];simp only;rw[ha];simp[Value.cells]
  rw[this];exact⟨ha,hd.length,hd.one,hd⟩
 have hE3: ∀x∈mv.map (·.1),d.enc x= .agg (cs x).toArray∧(cs x).length=aL U d.k∧ ∀v∈cs x,v.oneCell'=true:=fun x hx=>⟨(hE x hx).1,(hE x hx).2.1,(hE x hx).2.2.1⟩;have hlen:(mv.map (·.1)).length≤1000000:=by rw[hk1,List.length_map];exact hl
 have key:([0].map fun j=>Value.pointer (ρ j).A)= [Value.pointer (some ⟨g0,0,none⟩)]:=by simp[hA0]
 rw[key];refine Fn.mono (zb (cs:=cs) (enc:=d.enc) (KS:=fun xs=>xs.Perm (mv.map (·.1))) (ok:=fun xs x=> ∃ys,(xs++x::ys).Perm (mv.map (·.1))) hen hf hb hn hr0 hen1 es plS szS1 ag sz hu (default:Em U (ak ρ (aJ 0 [aM.cells [(1,.mp 1)] (ρt1 106),.map d l])++X) w d.k).hl hti.by_ hbb hm0 hmB zcS _ w ?_ ?_) ?_
 ·rintro xs x ⟨ys,hp⟩;refine⟨?_,hE3 x (hp.mem_iff.1 (by simp))⟩;have:=hp.length_eq;simp only[List.length_append,List.length_cons]at this;omega
 ·intro l' W hf0 Q hJ;refine Fn.mono (Cp (cs:=cs) (enc:=d.enc) (m:=aL U d.k) hen1 hf1 hb1 hn1 hr1 pl un (by rw[h34];exact ag) (by rw[h34];exact sz) (by rw[h34];exact hu) (default:Em U (ak ρ (aJ 0 [aM.cells [(1,.mp 1)] (ρt1 106),.map d l])++X) w d.k).hl l' g0 g clock es' mv W hM hE3 (hgs.keep0 hf0) (by rw[hf0.block g (bn (hw1 w rfl)) (by simp)];exact hw1 w rfl) Q (fun _=>False) fun r W0 a1 a2 a3=>?_) (fun v W' hq=>hq.resolve_right id);obtain⟨J,b1,b2,b3,b4⟩:=hJ r W0 a1 a2 a3;refine⟨J,b1,b2,fun xs x W1 hx hj=>?_,b4⟩;have hy:=b3 xs x W1 hx hj;obtain⟨fn',tm',as',bo',c1,c2⟩:=hy;refine⟨fn',tm',as',bo',c1,c2.mono fun e w' h=>?_⟩;obtain⟨b,q1,q2,q3⟩:=h;refine⟨b,q1,fun hb=>?_,q3⟩;obtain⟨q4,O,q5,q6⟩:=q2 hb;exact⟨q4,O,q5,fun h=>by have:=(q6 _ h).1;have:=bn (hw1 w rfl);omega,fun h=>(q6 _ h).2 rfl⟩
 ·rintro v w' ⟨ks,A,c,sp,hKS,rfl,how,hblk,hF⟩;obtain⟨ρ',a1,a2,a3⟩:=Gp (el:=ρt 34) M hF hm0 (v7 (cs:=cs) ks fun x hx=>(hE x (hKS.mem_iff.1 hx)).2.2.2) how (fun g hg=>(hblk g hg).1) (fun g hg=>(hblk g hg).2);obtain⟨m2,s2⟩:=sL (H':=aJ 0 [aM.cells [(1,.mp 1)] (ρt1 106),.map d l,.row 0 d.k ks (ρt 34)]) a2 (List.perm_append_singleton (2,aM.row 0 d.k ks (ρt 34)) (aJ 0 [aM.cells [(1,.mp 1)] (ρt1 106),.map d l]));exact⟨_,_,ρ',hK ks (by rw[←hk1];exact hKS),a1.imp fun _ _ h=>h.step s2,m2,a3.trans s2⟩
end Go.Proofs.YtiliglahlfkikaaGreatDoor.V
end

section
set_option linter.unusedVariables false
set_option linter.unusedSimpArgs false
namespace Go.Proofs.YtiliglahlfkikaaGreatDoor.V
open Go.RowKit Go.Shelf Go.Lib Go.Sort
section
variable [ao] {U:bQ} {X:List Nat} {w w':World} {ρ:Nat→Rz} {n:Nat} {H:Hs U}
theorem Lp{d:KD U}{l:List (TT U.ty d.k×TT U.ty d.v)}{mv:List (TT U.ty d.k×Value)}{es:Array MapEntry}{clock g:Nat}(M:bu U X (· =w) ρ n H)(hf:Fr [] w w')(hkd:ug U d)(hM:mt d.enc (fun v:Value=>v) es clock mv)(hD:aB U (ak ρ H++X) (· =w) d l mv)(hg:w.heap.size≤g)(hblk:w'.heap[g]? =some (.map es clock)):
  ∃ρ',cP (Vw U X w' ρ' (n+1) ((n,.map d l)::H)) ⟨false,[(1,.mp n)]⟩ (.map (some g))∧bu U X (· =w') ρ' (n+1) ((n,.map d l)::H)∧cH ρ n H w ρ' (n+1) ((n,.map d l)::H) w':=by
 have hb: ∀g',aq (cz ρ n ⟨some ⟨g,0,none⟩,0⟩) (n,(.map d l:aM U))=some g'→w.heap.size≤g':=fun g' h=>by
  have h:ah (cz ρ n ⟨some ⟨g,0,none⟩,0⟩ n).A=some g':=h;rw[aG]at h;injection h with h;subst h;exact hg
 have st:=cH.push (ρ:=ρ) M.xd M.lt hf ⟨some ⟨g,0,none⟩,0⟩ (.map d l:aM U) hb;refine⟨cz ρ n ⟨some ⟨g,0,none⟩,0⟩,ia ⟨Nat.lt_succ_self _,by rw[qE];rfl,g,by rw[aG],rfl⟩,M.push hf _ _ hb ⟨hkd,g,es,clock,mv,by rw[aG],hM,aB.mv (st.mv (X:=X)) hD,fun w2 h2=>by subst h2;exact hblk⟩,st⟩
end
section
variable {U:bQ} {P:Program} {ρs:Ren} {d:KD U}
def q8(U:bQ)(d:KD U):bh U:=⟨[.n],fun xs es K=> ∃l:List (TT U.ty d.k×TT U.ty d.v),xs= [⟨false,[(1,.mp 0)]⟩]∧es= [.map d l]∧K (.v ⟨false,[(1,.mp 1)]⟩) [.map d l,.map d l]⟩
theorem sO(L:SlLaysW.n5 P ρs)(hen:aS P (ρs.f 5)=true):cc P U (ρs.f 5) (q8 U d):=fun [F:ao] hpr X w ρ es0 xs vs K M hv hrun=>by
 obtain⟨l,rfl,rfl,hK⟩:=hrun;obtain⟨v1,us1,rfl,h1,h3⟩:=hv;rw[show us1= []from h3];obtain⟨hkd,g,es,clock,mv,hA,hM,hD,hw⟩:=M.ent (0,.map d l) (by simp[aJ]);obtain⟨_,_,g',hA',e1⟩:=(bR.one1 h1).1;rw[hA]at hA';injection hA' with hA';injection hA' with hA';subst hA';injection e1 with e1;subst e1;refine⟨hen,(AnyW.maps_Clone L g es clock w (hw w rfl)).mono ?_⟩;rintro e w' ⟨rfl,rfl⟩;obtain⟨ρ',a1,a2,a3⟩:=Lp M (Fr.alloc w (.map es clock)) hkd hM hD (Nat.le_refl _) (heap_alloc_new w _);obtain⟨m2,s2⟩:=sL (H':=aJ 0 [aM.map d l,.map d l]) a2 (List.perm_append_singleton (1,aM.map d l) (aJ 0 [aM.map d l]));exact⟨_,rfl,_,_,ρ',hK,a1.imp fun _ _ h=>h.step s2,m2,a3.trans s2⟩
end
theorem iE.perm{α:Type}{l l':List α}{g:α→α→Int}(h:iE l g)(hp:l'.Perm l):iE l' g:=⟨h.1,fun x hx y hy=>h.2 x (hp.mem_iff.1 hx) y (hp.mem_iff.1 hy)⟩
theorem kM{α:Type}{l l':List α}{g:α→α→Int}(h:iE l g)(hp:l'.Perm l):aV g l'=aV g l:=by
 have tr: ∀a b c:α,(!(ltOf g) b a)=true→(!(ltOf g) c b)=true→(!(ltOf g) c a)=true:=fun a b c h1 h2=>by
  simp only[Bool.not_eq_true']at*;exact h.1.3 c b a h2 h1
 have tot: ∀a b:α,((!(ltOf g) b a)||(!(ltOf g) a b))=true:=fun a b=>by
  cases h1:ltOf g b a with
  |false=>rfl
  |true=>
   cases h2:ltOf g a b with
   |false=>rfl
   |true=>have:=h.1.2 _ _ _ h1 h2;rw[h.1.1]at this;cases this
 have p1:(aV g l').Perm l':=List.mergeSort_perm _ _;have p2:(aV g l).Perm l:=List.mergeSort_perm _ _;have s1:=List.pairwise_mergeSort (le:=fun x y=>!(ltOf g) y x) tr tot l';have s2:=List.pairwise_mergeSort (le:=fun x y=>!(ltOf g) y x) tr tot l;refine List.Perm.eq_of_pairwise (le:=fun x y=>(!(ltOf g) y x)=true) (fun a b ha hb h1 h2=>?_) s1 s2 ((p1.trans hp).trans p2.symm);simp only[Bool.not_eq_true']at h1 h2;exact h.2 a (hp.mem_iff.1 (p1.mem_iff.1 ha)) b (p2.mem_iff.1 hb) h2 h1
def xg(U:bQ)(d:KD U)(fk tm el:Nat):bh U:=⟨[.n,.f2 d.k d.k],fun xs es K=> ∃(l:List (TT U.ty d.k×TT U.ty d.v)) (g:TT U.ty d.k→TT U.ty d.k→Int),xs= [⟨false,[(1,.clo fk [0])]⟩,⟨false,[(1,.f2 d.k d.k g)]⟩]∧es= [.cells [(1,.mp 1)] tm,.map d l]∧l.length≤1000000∧iE (l.map (·.1)) g∧
 K (.v ⟨false,[(1,.own 2 0)]⟩) [.cells [(1,.mp 1)] tm,.map d l,.row 0 d.k (aV g (l.map (·.1))) el]⟩
def zd(U:bQ)(d:KD U)(fk tm el:Nat):bh U:=⟨[.n],fun xs es K=> ∃l:List (TT U.ty d.k×TT U.ty d.v),xs= [⟨false,[(1,.clo fk [0])]⟩]∧es= [.cells [(1,.mp 1)] tm,.map d l]∧l.length≤1000000∧
 ∀ks:List (TT U.ty d.k),ks.Perm (l.map (·.1))→K (.v ⟨false,[(1,.own 2 0)]⟩) [.cells [(1,.mp 1)] tm,.map d l,.row 0 d.k ks el]⟩
end Go.Proofs.YtiliglahlfkikaaGreatDoor.V
end

section
set_option linter.unusedVariables false
set_option maxRecDepth 20000
namespace Go.Proofs.YtiliglahlfkikaaGreatDoor.V
open Go.RowKit Go.Shelf Go.Sort
def Qw:bh U:=qX U (.st 1) 34
theorem HV:cc Tryz.prog U 85 Qw:=qY (s:=(.st 1)) (fn:=Tryz.f85) (ρf:=fun n=>n) (ρt:=fun n=>n) (by kernel_rfl) Tryz.func85 (by kernel_rfl) rfl rfl (by kernel_rfl) Tryz.underlying3 (by kernel_rfl) (by kernel_rfl) iy ⟨_,rfl⟩ (by decide) (by decide) (by decide)
def Nc:bh U:=qX U (.st 7) 159
theorem zP:cc Tryz.prog U 103 Nc:=qY (s:=(.st 7)) (fn:=Tryz.f103) (ρf:=fun n=>n) (ρt:=fun|37=>54|n=>n) (by kernel_rfl) Tryz.func103 (by kernel_rfl) rfl rfl (by kernel_rfl) Tryz.underlying3 (by kernel_rfl) (by kernel_rfl) jX ⟨_,rfl⟩ (by decide) (by decide) (by decide)
def Nd:bh U:=qX U (.st 4) 164
theorem CS:cc Tryz.prog U 104 Nd:=qY (s:=(.st 4)) (fn:=Tryz.f104) (ρf:=fun n=>n) (ρt:=fun|37=>57|n=>n) (by kernel_rfl) Tryz.func104 (by kernel_rfl) rfl rfl (by kernel_rfl) Tryz.underlying3 (by kernel_rfl) (by kernel_rfl) jY ⟨_,rfl⟩ (by decide) (by decide) (by decide)
def Qx:bh U:=qZ U (.st 3) 47
theorem Qy:cc Tryz.prog U 45 Qx:=sH (fg:=Tryz.f100) (s:=(.st 3)) (fn:=Tryz.f45) (ρf:=fun|188=>100|n=>n) (ρt:=fun|37=>64|264=>186|n=>n) (by kernel_rfl) Tryz.func45 (by kernel_rfl) rfl rfl (by kernel_rfl) Tryz.func100 (by kernel_rfl) rfl rfl (by kernel_rfl) Tryz.underlying3 (by kernel_rfl) (by kernel_rfl) (by kernel_rfl) (by kernel_rfl) (by kernel_rfl) rI ⟨_,rfl⟩ (by decide) (by decide) (by decide)
def Nf:bh U:=qZ U (.st 1) 34
theorem I2:cc Tryz.prog U 137 Nf:=sH (fg:=Tryz.f188) (s:=(.st 1)) (fn:=Tryz.f137) (ρf:=fun n=>n) (ρt:=fun n=>n) (by kernel_rfl) Tryz.func137 (by kernel_rfl) rfl rfl (by kernel_rfl) Tryz.func188 (by kernel_rfl) rfl rfl (by kernel_rfl) Tryz.underlying3 (by kernel_rfl) (by kernel_rfl) (by kernel_rfl) (by kernel_rfl) (by kernel_rfl) iy ⟨_,rfl⟩ (by decide) (by decide) (by decide)
def Ng:bh U:=q7 U (.st 7) 159
theorem Nh:cc Tryz.prog U 136 Ng:=sI (fo:=Tryz.f186) (s:=(.st 7)) (fn:=Tryz.f136) (ρf:=fun n=>n) (ρt:=fun n=>n) (by kernel_rfl) Tryz.func136 (by kernel_rfl) rfl rfl (by kernel_rfl) Tryz.underlying3 (by kernel_rfl) (by kernel_rfl) Tryz.func186 (by kernel_rfl) (by kernel_rfl) (by kernel_rfl) (by kernel_rfl) jX ⟨_,rfl⟩ (by decide) (by decide) (by decide)
def Ni:bh U:=q7 U (.st 4) 164
theorem Nj:cc Tryz.prog U 148 Ni:=sI (fo:=Tryz.f191) (s:=(.st 4)) (fn:=Tryz.f148) (ρf:=fun|186=>191|187=>192|n=>n) (ρt:=fun|54=>57|n=>n) (by kernel_rfl) Tryz.func148 (by kernel_rfl) rfl rfl (by kernel_rfl) Tryz.underlying3 (by kernel_rfl) (by kernel_rfl) Tryz.func191 (by kernel_rfl) (by kernel_rfl) (by kernel_rfl) (by kernel_rfl) jY ⟨_,rfl⟩ (by decide) (by decide) (by decide)
def Nk:bh U:=uv U (.st 1)
theorem Nl:cc Tryz.prog U 124 Nk:=vZ (s:=(.st 1)) (fn:=Tryz.f124) (ρf:=fun n=>n) (ρt:=fun|54=>37|228=>86|159=>34|n=>n) (by kernel_rfl) Tryz.func124 (by kernel_rfl) rfl rfl (by kernel_rfl) Tryz.underlying3 rfl (by kernel_rfl) (by kernel_rfl) rfl (by kernel_rfl) (by kernel_rfl) iy ⟨_,rfl⟩ (by decide) (by decide) (by decide)
def Nm:bh U:=uv U (.st 7)
theorem Nn:cc Tryz.prog U 190 Nm:=vZ (s:=(.st 7)) (fn:=Tryz.f190) (ρf:=fun n=>n) (ρt:=fun n=>n) (by kernel_rfl) Tryz.func190 (by kernel_rfl) rfl rfl (by kernel_rfl) Tryz.underlying3 rfl (by kernel_rfl) (by kernel_rfl) rfl (by kernel_rfl) (by kernel_rfl) jX ⟨_,rfl⟩ (by decide) (by decide) (by decide)
def No:bh U:=nI U (.st 1) 34
theorem I3:cc Tryz.prog U 164 No:=oq (fx:=Tryz.f124) (s:=(.st 1)) (fn:=Tryz.f164) (ρf:=fun|190=>124|n=>n) (ρt:=fun|54=>37|228=>86|159=>34|n=>n) (by kernel_rfl) Tryz.func164 (by kernel_rfl) rfl rfl (by kernel_rfl) Tryz.func124 (by kernel_rfl) rfl rfl (by kernel_rfl) Tryz.underlying3 rfl (by kernel_rfl) (by kernel_rfl) rfl (by kernel_rfl) (by kernel_rfl) iy ⟨_,rfl⟩ (by decide) (by decide) (by decide)
def Np:bh U:=nI U (.st 7) 159
theorem Nq:cc Tryz.prog U 140 Np:=oq (fx:=Tryz.f190) (s:=(.st 7)) (fn:=Tryz.f140) (ρf:=fun n=>n) (ρt:=fun n=>n) (by kernel_rfl) Tryz.func140 (by kernel_rfl) rfl rfl (by kernel_rfl) Tryz.func190 (by kernel_rfl) rfl rfl (by kernel_rfl) Tryz.underlying3 rfl (by kernel_rfl) (by kernel_rfl) rfl (by kernel_rfl) (by kernel_rfl) jX ⟨_,rfl⟩ (by decide) (by decide) (by decide)
def Nr:bh U:=nI U (.st 4) 164
theorem Ns:cc Tryz.prog U 149 Nr:=oq (fx:=Tryz.f193) (s:=(.st 4)) (fn:=Tryz.f149) (ρf:=fun|190=>193|n=>n) (ρt:=fun|54=>57|228=>235|159=>164|n=>n) (by kernel_rfl) Tryz.func149 (by kernel_rfl) rfl rfl (by kernel_rfl) Tryz.func193 (by kernel_rfl) rfl rfl (by kernel_rfl) Tryz.underlying3 rfl (by kernel_rfl) (by kernel_rfl) rfl (by kernel_rfl) (by kernel_rfl) jY ⟨_,rfl⟩ (by decide) (by decide) (by decide)
def I4:DecidableEq (TT U.ty (.st 1)):=inferInstanceAs (DecidableEq af)
def Nt:bh U:=sJ U (.st 1) 34 I4
theorem I5:cc Tryz.prog U 139 Nt:=w9 (s:=(.st 1)) (fn:=Tryz.f139) (ρf:=fun n=>n) (ρt:=fun n=>n) I4 (by kernel_rfl) Tryz.func139 (by kernel_rfl) rfl rfl (by kernel_rfl) Tryz.underlying3 (by kernel_rfl) (by kernel_rfl) rfl (by kernel_rfl) (by kernel_rfl) JH iy ⟨_,rfl⟩ (by decide) (by decide) (by decide)
def Nu:bh U:=pV U 9
theorem Nv:cc Tryz.prog U 114 Nu:=ux (fn:=Tryz.f114) (ρf:=fun n=>n) (ρt:=fun|37=>137|34=>9|n=>n) (by kernel_rfl) Tryz.func114 (by kernel_rfl) rfl rfl (by kernel_rfl) Tryz.underlying3 rfl (by kernel_rfl) (by kernel_rfl) (by kernel_rfl) (by kernel_rfl) (by kernel_rfl)
def I6:bh U:=y5 U (.st 1) 34
theorem GL:cc Tryz.prog U 138 I6:=y7 (s:=(.st 1)) (ρs:=Tryz.laysSortTag_ren) Tryz.laysSortTag (by kernel_rfl) rfl (by kernel_rfl) (by kernel_rfl) iy ⟨_,rfl⟩ (by decide) (fun _ _ _ _ _ h h'=>(tO h).trans (tO h').symm)
def Nw:bh U:=y5 U (.st 12) 134
theorem Nx:cc Tryz.prog U 117 Nw:=y7 (s:=(.st 12)) (ρs:=Tryz.laysSortItem_ren) Tryz.laysSortItem (by kernel_rfl) rfl (by kernel_rfl) (by kernel_rfl) tT ⟨_,rfl⟩ (by decide) (fun _ _ _ _ _ h h'=>(qn h).trans (qn h').symm)
def Ny:bh U:=y8 U 9
theorem Nz:cc Tryz.prog U 113 Ny:=Cm (by kernel_rfl) (fun blk cap ss w h1 h2 h3=>Tryz.slices_Sort_string blk 0 cap ss w h1 h2 h3) Tryz.slices_Sort_string_none
def Qz:bh U:=y9 U
theorem QA:cc Tryz.prog U 67 Qz:=Cn (by kernel_rfl) Tryz.strings_Split
def QB:bh U:=v6 U
theorem QC:cc Tryz.prog U 68 QB:=za
def QD:bh U:=q8 U bw
theorem QE:cc Tryz.prog U 58 QD:=sO (ρs:=Tryz.laysCloneE_ren) Tryz.laysCloneE (by kernel_rfl)
def QF:bh U:=q8 U ck
theorem QG:cc Tryz.prog U 59 QF:=sO (ρs:=Tryz.laysCloneB_ren) Tryz.laysCloneB (by kernel_rfl)
def I7:bh U:=sN U bw 162 106 34
theorem NA:cc Tryz.prog U 196 I7:=xe (d:=bw) (fn:=Tryz.f196) (fn1:=Tryz.f162) (ρf:=fun n=>n) (ρt:=fun n=>n) (ρf1:=fun n=>n) (ρt1:=fun n=>n) (by kernel_rfl) Tryz.func196 (by kernel_rfl) rfl rfl (by kernel_rfl) Tryz.func162 (by kernel_rfl) rfl rfl rfl (by kernel_rfl) (by kernel_rfl) (by kernel_rfl) (by kernel_rfl) (by kernel_rfl) (by kernel_rfl) (by kernel_rfl) Tryz.underlying106 rfl iy ⟨_,rfl⟩ (by decide) (by decide) (by decide)
def I8:bh U:=zd U bw 162 106 34
def NB:iI U:= [(196,I7)]
theorem CT:ji Tryz.prog U NB:=aa NA (aj)
theorem NC:cc Tryz.prog U 161 I8:=by
 refine yS (fn:=Tryz.f161) CT uZ (by kernel_rfl) Tryz.f161.ntmps [.n] [] (by kernel_rfl) (by kernel_rfl) rfl rfl (by kernel_rfl) (fun xs es K=>?_);rintro⟨l,rfl,rfl,hl,h⟩;exact⟨rfl,l,rfl,rfl,hl,fun ks hk=>h ks hk⟩
def ND:bh U:=xg U bw 162 106 34
def NE:iI U:= [(161,I8),(138,I6)]
theorem CU:ji Tryz.prog U NE:=aa NC (aa GL (aj))
theorem NF:cc Tryz.prog U 101 ND:=by
 refine yS (fn:=Tryz.f101) CU uZ (by kernel_rfl) Tryz.f101.ntmps [.n] [] (by kernel_rfl) (by kernel_rfl) rfl rfl (by kernel_rfl) (fun xs es K=>?_);rintro⟨l,g,rfl,rfl,hl,hs,h⟩;refine⟨rfl,l,rfl,rfl,hl,fun ks hk=>⟨ks,g,rfl,rfl,hs.perm hk,Nat.lt_of_le_of_lt (Nat.le_trans (Nat.le_of_eq (hk.length_eq.trans (List.length_map ..))) hl) (by decide),?_⟩⟩;rw[←kM hs hk]at h;exact h
end Go.Proofs.YtiliglahlfkikaaGreatDoor.V
end

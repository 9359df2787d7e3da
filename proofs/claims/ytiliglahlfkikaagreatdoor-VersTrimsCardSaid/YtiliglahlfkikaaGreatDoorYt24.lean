/- From a contract to a law's walk; the shapes of what is handed in. -/
import Derived.Test.YtiliglahlfkikaaGreatDoorYt23
import Derived.Test.YtiliglahlfkikaaGreatDoorYt2
import Derived.OpenShut
import Derived.Test.YtiliglahlfkikaaGreatDoorYt12
import Derived.Test.YtiliglahlfkikaaGreatDoorYt4
import Derived.Test.YtiliglahlfkikaaGreatDoorCards
import Derived.Test.YtiliglahlfkikaaGreatDoorTie
import Derived.HandedShaped
import Derived.Lay
import Derived.MakeChecks
import Derived.LaidMore
import Derived.SevenTiedAt
import Derived.Test.YtiliglahlfkikaaGreatDoorYt13
import Derived.Test.YtiliglahlfkikaaGreatDoorYt17
section
set_option linter.unusedVariables false
set_option linter.unusedSimpArgs false
namespace Go.Proofs.YtiliglahlfkikaaGreatDoor
open Go.ChangeShapes Go.WideShapes Go.ChangeAt Go.RowKit Go.Joins
theorem zn{f:Nat→List Value}{m:Nat}: ∀(len j:Nat) (v:Value),(∀i,i<len→(f i).length=m)→((List.range len).flatMap f)[j]? =some v→ ∃i r,i<len∧r<m∧j=i*m+r∧(f i)[r]? =some v
 |0,j,v,_,h=>by simp at h
 |len+1,j,v,hl,h=>by
  rw[List.range_succ,List.flatMap_append,List.getElem?_append]at h;have hlen:((List.range len).flatMap f).length=len*m:=by
   clear h;have: ∀n,n≤len→((List.range n).flatMap f).length=n*m:=by
    intro n;induction n with
    |zero=>intro _;simp
    |succ n ih=>intro hn;rw[List.range_succ,List.flatMap_append,List.length_append,ih (by omega)];simp[hl n (by omega),Nat.add_mul]
   exact this len (Nat.le_refl _)
  split at h
  ·obtain⟨i,r,hi,hr,e,hv⟩:=zn len j v (fun i hi=>hl i (by omega)) h;exact⟨i,r,by omega,hr,e,hv⟩
  ·rename_i hge;rw[hlen]at h hge;simp only[List.flatMap_cons,List.flatMap_nil,List.append_nil]at h;refine⟨len,j - len*m,by omega,?_,by omega,h⟩;have:=(List.getElem?_eq_some_iff.1 h).1;rw[hl len (by omega)]at this;exact this
theorem zo{w:World}{a:Addr}{v:Value}(h:w.cell? a=some v):a.block<w.heap.size∧a.spot=none:=by
 unfold World.cell? at h;split at h
 ·rename_i c t x hb;refine⟨bn hb,?_⟩;split at h
  ·cases h
  ·rename_i hs;simpa using hs
 ·cases h
theorem kZ.of_cells{w:World}{a:Addr}{len m:Nat}{f:Nat→List Value}(hm:0<m)(h: ∀i,i<len→w.cells? 0 (a.add (i*m)) m=some (f i)):kZ [] w (some a) ((List.range len).flatMap f):=fun j v hj=>by
 obtain⟨i,r,hi,hr,rfl,hv⟩:=zn len j v (fun i hi=>(World.cells?_some (h i hi)).2.1) hj;have hc:=(World.cells?_some (h i hi)).2.2 r hr;rw[hv,Deep.add_add]at hc;have h0:=(World.cells?_some (h 0 (by omega))).2;have hs:a.spot=Option.none:=by
  have h1:=h0.2 0 hm;rw[List.getElem?_eq_getElem (by omega),Nat.zero_mul]at h1;have:=(zo h1).2;simpa[Addr.add]using this
 obtain⟨g,b,sp⟩:=a;simp only at hs;subst hs;rw[Addr.add_mid]at hc;exact⟨g,b,rfl,by simp,hc⟩
theorem wb{P:Program}{w:World}{base t:Nat}{v:Value}{cs:List Value}(ht:aW P t≠Option.none)(hv:Value.okWide P w .any base t v)(h:v.cells.toList=cs):v= .agg cs.toArray:=by
 unfold aW at ht;unfold Value.okWide at hv;split at hv
 ·obtain⟨c,rfl,_⟩:=hv;rw[←h];rfl
 ·obtain⟨c,rfl,_⟩:=hv;rw[←h];rfl
 ·rename_i h1 h2;exfalso;cases hu:P.underlying t with
  |none=>simp[hu]at ht
  |some d=>cases d<;>first|(exact h1 _ hu)|(exact h2 _ _ hu)|(simp[hu]at ht;done)
theorem Gz{P:Program}{w:World}{base t e:Nat}{v:Value}{A:Option Addr}{l c:Nat}(ht:P.underlying t=some (.slice e))(hv:Value.okWide P w .any base t v)(h:v.cells.toList= [.slice A l c]):v= .slice A l c:=by
 unfold Value.okWide at hv;rw[ht]at hv;cases v<;>first|(simp[Value.cells]at h;done)|(simpa[Value.cells]using h)|(simp[Cell.okWide,ht,Cell.ok]at hv;done)
theorem CD{P:Program}{w:World}{base t:Nat}{v:Value}{s:List UInt8}(ht:P.underlying t=some .string)(hv:Value.okWide P w .any base t v)(h:v.cells.toList= [sv s]):v=sv s:=by
 unfold Value.okWide at hv;rw[ht]at hv;cases v<;>first|(simp[Value.cells]at h;done)|(simpa[Value.cells]using h)|(simp[Cell.okWide,ht,Cell.ok]at hv;done)
theorem CE{l:Nat}(h:l≤maxLen):l≤9223372036854775807:=by unfold maxLen at h;omega
section
variable {H:Type} {enc:TypeId×Value→H} {W:World}
end
end Go.Proofs.YtiliglahlfkikaaGreatDoor
end

section
set_option linter.unusedVariables false
set_option linter.unusedSimpArgs false
namespace Go.Proofs.YtiliglahlfkikaaGreatDoor.V
open Go.ChangeShapes Go.WideShapes Go.ChangeAt Go.RowKit Go.Joins
def Bs(W:World):Prop:= ∀g∈gB,∀j v,W.cell? ⟨g,j,none⟩=some v→j=0
def pK(P:Program)(U:bQ)(W:World)(t:Nat)(s:bg):Prop:= ∀(H:Type) (enc:TypeId×Value→H) (fuel:Nat) (cs:List Value) (x:DataW H×List MemPlace),DataW.trod enc P W 0 (fun _=>true) true fuel t cs=some x→ ∃m:TT U.ty s,aD U gB (· =W) s m cs
section
variable {P:Program} {U:bQ} {W:World}
theorem ve{t:Nat}(hu:P.underlying t=some (.int .i64)):pK P U W t (.int .i64):=fun H enc fuel cs x h=>by
 obtain⟨q,e,_,w0⟩:=DataW.trod_int hu h;have:=bounds_i64 w0;subst e;exact⟨q,aD.int .i64 q (by unfold d9;omega)⟩
theorem Be{t:Nat}(hu:P.underlying t=some (.int .u32)):pK P U W t (.int .u32):=fun H enc fuel cs x h=>by
 obtain⟨q,e,_,w0⟩:=DataW.trod_int hu h;have:=bounds_u32 w0;subst e;exact⟨q,aD.int .u32 q (by unfold d9;omega)⟩
theorem Bf{t:Nat}(hu:P.underlying t=some .string):pK P U W t .str:=fun H enc fuel cs x h=>by
 obtain⟨s0,e,_,hs⟩:=DataW.trod_string hu h;obtain⟨l,rfl⟩:=zm s0;subst e;exact⟨l,aD.str l (CE (by simpa[ByteArray.size]using hs))⟩
inductive rR(P:Program)(U:bQ)(W:World):List Field→List (Nat×bg)→Nat→Prop
 |nil (o:Nat):rR P U W [] [] o
 |cons (f:Field) (r:List Field) (k:Nat) (s:bg) (q:List (Nat×bg)) (o:Nat) (ho:f.offset=o) (hk:P.cellsOf f.type=k) (hs:pK P U W f.type s) (hr:rR P U W r q (o+k)):rR P U W (f::r) ((k,s)::q) o
theorem Bg{H:Type}{enc:TypeId×Value→H}{cs:List Value}{fl:List Field}{sh:List (Nat×bg)}{o:Nat}(h:rR P U W fl sh o)
  (hall: ∀f∈fl,∃n y,DataW.trod enc P W 0 (fun _=>true) true n f.type ((cs.drop f.offset).take (P.cellsOf f.type))=some y) (hl:cs.length=o+(sh.map (·.1)).sum): ∃T:tW U.ty sh,bH U gB (· =W) sh T (cs.drop o):=by
 induction h with
 |nil o=>exact⟨(),by rw[List.drop_of_length_le (by simp at hl;omega)];exact bH.nil⟩
 |cons f r k s q o ho hk hs hr ih=>
  obtain⟨T,hT⟩:=ih (fun g hg=>hall g (by simp[hg])) (by simp at hl⊢;omega);obtain⟨n,y,hy⟩:=hall f (by simp);rw[ho,hk]at hy;obtain⟨m,hm⟩:=hs _ _ _ _ _ hy;refine⟨(m,T),?_⟩;have e:cs.drop o=(cs.drop o).take k++cs.drop (o+k):=by rw[←List.drop_drop,List.take_append_drop]
  rw[e];exact bH.cons k s q m T _ _ hm (by simp at hl⊢;omega) hT
theorem qs{t i:Nat}{fs:Array Field}(hu:P.underlying t=some (.struct fs))(hz:P.cellsOf t=(U.rd i).sz)(hf:rR P U W fs.toList (U.rd i).fs 0)(hof: ∀T,(U.rd i).ofK T fun _=>True):pK P U W t (.st i):=fun H enc fuel cs x h=>by
 obtain⟨xs,n,_,_,hlen,hl,hall⟩:=DataW.trod_struct hu h;have hall2: ∀f∈fs.toList,∃n y,DataW.trod enc P W 0 (fun _=>true) true n f.type ((cs.drop f.offset).take (P.cellsOf f.type))=some y:=fun f hf=>by
  obtain⟨j,hj⟩:=List.getElem?_of_mem hf;have hj':fs[j]? =some f:=by rw[←Array.getElem?_toList];exact hj
  have:=hall j f hj';have hjl:j<xs.length:=by
   rw[hl];rcases Nat.lt_or_ge j fs.size with h|h
   ·exact h
   ·rw[Array.getElem?_eq_none h]at hj';cases hj'
  rw[List.getElem?_eq_getElem hjl]at this;exact⟨n,_,this⟩
 obtain⟨T,hT⟩:=Bg hf hall2 (by rw[hlen,hz,(U.rd i).sz_ok];omega);rw[List.drop_zero]at hT;obtain⟨m,hm,hto⟩:=(U.rd i).ofK_ok T _ (hof T);exact⟨m,aD.st i m cs (hto▸hT) (by rw[hlen,hz])⟩
theorem vg{s:bg}{z:Nat}(hz:aL U s=z): ∀(n:Nat) (cs:List Value),cs.length=n*z→(∀i,i<n→ ∃m:TT U.ty s,aD U gB (· =W) s m ((cs.drop (i*z)).take z))→ ∃l:List (TT U.ty s),l.length=n∧aQ U gB (· =W) s l cs
 |0,cs,h,_=>⟨[],rfl,by
  have:cs= []:=List.eq_nil_of_length_eq_zero (by simpa using h);subst this;exact aQ.nil s⟩
 |n+1,cs,h,hall=>by
  have hz2:cs.length=n*z+z:=by rw[h,Nat.add_mul,Nat.one_mul]
  obtain⟨l,hl,hd⟩:=vg hz n (cs.drop z) (by rw[List.length_drop];omega) (fun i hi=>by
   obtain⟨m,hm⟩:=hall (i+1) (by omega);rw[List.drop_drop];rw[show(i+1)*z=z+i*z by rw[Nat.add_mul,Nat.one_mul,Nat.add_comm]]at hm;exact⟨m,hm⟩)
  obtain⟨m,hm⟩:=hall 0 (by omega);rw[Nat.zero_mul,List.drop_zero]at hm;refine⟨m::l,by simp[hl],?_⟩;rw[←List.take_append_drop z cs];exact aQ.cons s m l _ _ hm (by rw[hz,List.length_take];omega) hd
theorem Bh{t n e z:Nat}{s:bg}(hu:P.underlying t=some (.array n e))(hz:aL U s=z)(he:P.cellsOf e=z)(hc:P.cellsOf t=n*z)(ho:pK P U W e s):pK P U W t (.arr n s):=fun H enc fuel cs x h=>by
 obtain⟨xs,k,_,_,hlen,hl,hall⟩:=DataW.trod_array hu h;obtain⟨l,h1,h2⟩:=vg (W:=W) hz n cs (by rw[hlen,hc]) (fun i hi=>by
  have:=hall i hi;rw[he,List.getElem?_eq_getElem (by omega)]at this;exact ho _ _ _ _ _ this)
 exact⟨l,aD.arr n s l cs h2 h1⟩
theorem Bi{s:bg}{z:Nat}(hz:aL U s=z){f:Nat→List Value}{q:Nat→TT U.ty s}: ∀(n:Nat),(∀i,i<n→aD U gB (· =W) s (q i) (f i))→aQ U gB (· =W) s ((List.range n).map q) ((List.range n).flatMap f):=by
 have key: ∀(l:List Nat),(∀i∈l,aD U gB (· =W) s (q i) (f i))→aQ U gB (· =W) s (l.map q) (l.flatMap f):=by
  intro l;induction l with
  |nil=>intro _;exact aQ.nil s
  |cons i r ih=>
   intro h;exact aQ.cons s (q i) (r.map q) (f i) _ (h i (by simp)) (h i (by simp)).length (ih fun j hj=>h j (by simp[hj]))
 exact fun n h=>key _ fun i hi=>h i (List.mem_range.1 hi)
theorem xV{t e z:Nat}{s:bg}(hB:Bs W)(hu:P.underlying t=some (.slice e))(hz:aL U s=z)(he:P.cellsOf e=z)(h2:2≤z)(ho:pK P U W e s):pK P U W t (.sl s):=fun H enc fuel cs x h=>by
 rcases Deep.open_slice hu h with⟨rfl,_⟩|⟨a,len,cap,mm,n,D,Pl,rfl,_,hlc,hcm,hmm,_,hall⟩
 ·exact⟨([]:List (TT U.ty s)),aD.sl s [] none 0 [] (aQ.nil s) (fun w _ j v hj=>by simp at hj) (Nat.le_refl _) (Nat.zero_le _)⟩
 ·simp only[if_true]at hmm;subst hmm;rw[he]at hall;have hq: ∀i,i<len→ ∃o:List Value×TT U.ty s,W.cells? 0 (a.add (i*z)) z=some o.1∧aD U gB (· =W) s o.2 o.1:=fun i hi=>by
   obtain⟨cs',h1,h2⟩:=hall i (by omega);obtain⟨o,ho⟩:=ho _ _ _ _ _ h2;exact⟨(cs',o),h1,ho⟩
  rcases Nat.eq_zero_or_pos len with h0|h0
  ·subst h0;exact⟨([]:List (TT U.ty s)),aD.sl s [] (some a) mm [] (aQ.nil s) (fun w _ j v hj=>by simp at hj) (Nat.zero_le _) hcm⟩
  haveI:Inhabited (List Value×TT U.ty s):=⟨(hq 0 h0).choose⟩
  obtain⟨q,hq⟩:=Deep.choose_lt hq;have hrd:=kZ.of_cells (f:=fun i=>(q i).1) (by omega) (fun i hi=>(hq i hi).1);have hd:=Bi (W:=W) hz len (f:=fun i=>(q i).1) (q:=fun i=>(q i).2) (fun i hi=>(hq i hi).2);refine⟨(List.range len).map fun i=>(q i).2,?_⟩;have hl:((List.range len).map fun i=>(q i).2).length=len:=by simp
  have:=aD.sl (Y:=gB) (S:=(· =W)) s ((List.range len).map fun i=>(q i).2) (some a) mm _ hd (fun w hw=>?_) (by rw[hl];simpa using hlc) hcm
  ·rw[hl]at this;exact this
  ·subst hw;intro j v hj;obtain⟨g,b,e,_,hc⟩:=hrd j v hj;refine⟨g,b,e,fun hg=>?_,hc⟩;have hc1:=(World.cells?_some (hq 0 h0).1).2;have hlen1:=hc1.1;have hv:=hc1.2 1 (by omega);rw[List.getElem?_eq_getElem (by omega),Nat.zero_mul]at hv;injection e with e;subst e;have:=hB g hg _ _ hv;simp[Addr.add]at this
end
end Go.Proofs.YtiliglahlfkikaaGreatDoor.V
end

section
namespace Go.Proofs.YtiliglahlfkikaaGreatDoor
open Go.ChangeShapes Go.WideShapes Go.ChangeAt Go.RowKit Go.Joins
set_option maxRecDepth 100000 in
theorem xk{f:FuncId}{fn:Func}{s:ChangeSpec}{tb:TypeId}{laid:List (String×DataW Unit)}(hfn:Tryz.prog.funcs[f]? =some fn)(hinit:Tryz.prog.inits.idxOf? f=none)(hv:s.vars= [])(hr:fn.resultTypes= #[tb])(htb:Tryz.prog.underlying tb=some .bool)(hread:oI Tryz.prog fn.params.toList=true)
  (hspec: ∀(H:Type) (ds:List (DataW H)),ds.length=fn.params.toList.length→s.fn H ds={results:= [.lit (.bool true)],args:=ds})
  (walk: ∀(W:World) (args:Array Value),zl fn W args→W.ShapedOpen Tryz.prog→laidMetH Tryz.prog laid W→Fn Tryz.prog f args.toList W fun v w'=>v= .bool true∧Fr [] W w')
  (os:Os) (started:os.Started) (H:Type) (enc:TypeId×Value→H)
  (witness: ∃(w:World) (tape:Tape) (i:Input),w.os=os∧(w.forCall tape i).Shaped Tryz.checked.prog∧i.vars= []∧Input.okWide Tryz.checked.prog (w.forCall tape i) .any w.heap.size f i∧
   ((s.pre enc Tryz.checked.prog fn [] false (w.forCall tape i).memory i.args∧laidMetH Tryz.prog laid (w.forCall tape i).memory)∧sizedMet enc Tryz.checked.prog fn (OpenSpec.ofChange s) false (w.forCall tape i).memory i.args)∧({}:Assume).holds Tryz.checked.prog (lone (Frame.enter Tryz.checked.prog f i.args .normal) [] (w.forCall tape i))):
  ReturnsInHanded {} Tryz.checked os f .any (fun w args=>(s.pre enc Tryz.prog fn [] false w args∧laidMetH Tryz.prog laid w)∧sizedMet enc Tryz.prog fn (OpenSpec.ofChange s) false w args) (s.post enc Tryz.prog fn false true false false):=by
 refine returnsInHanded_of_calls Tryz.own' started hinit witness ?_;intro w tape i _ hsh _ hok hpre hholds;obtain⟨_,_,_,fn',hfn',_,_,_,_,hval⟩:=hok;have e:fn'=fn:=Option.some.inj (hfn'.symm.trans hfn);subst e;obtain⟨⟨⟨ds,gs,before,hw,hc⟩,hx⟩,hz⟩:=hpre;have hw':=DataW.Whole.of_heap (w':=w.forCall tape i) (by rfl) hw;have hX:laidMetH Tryz.prog laid (w.forCall tape i):=hx.of_heap (by rfl);have hW':DataW.Whole enc Tryz.prog fn'.params.toList s.vars false (w.forCall tape i) i.args.toList ds gs before:=hw';have hlt: ∀x∈before,x.block<(w.forCall tape i).heap.size:=fun x hx=>hW'.lt x hx;obtain⟨p,q,hA,hV,hps,_,_⟩:=id hW';have hlen:ds.length=fn'.params.toList.length:=by
  have key: ∀(W:World) (ts:List TypeId) (vs:List Value) (ds:List (DataW H)) (ps:List MemPlace),DataW.TrodAll enc Tryz.prog W 0 (fun _=>true) true ts vs ds ps→ds.length=ts.length:=by
   intro W ts;induction ts with
   |nil=>intro vs ds ps h;obtain⟨_,rfl,_⟩:=trodAll_nil h;rfl
   |cons t ts ih=>intro vs ds ps h;obtain⟨v,vs,d,ds,p,q,rfl,rfl,rfl,_,h1⟩:=trodAll_cons h;simp[ih _ _ _ h1]
  exact key _ _ _ _ _ hA
 have hcl:=(walk (w.forCall tape i) i.args ⟨H,enc,w.heap.size,ds,p,hval,hA,fun x hx=>hlt x (by rw[hps];exact List.mem_append_left _ hx)⟩ hsh hX).2;rw[Array.toArray_toList]at hcl;refine Calls.mono hcl fun e W' ⟨v,he,hv',hF⟩=>?_;subst he;subst hv';exact ChangeSpec.post_blind (zk hv hW' (hspec H ds hlen) hr htb hread hF.below)
end Go.Proofs.YtiliglahlfkikaaGreatDoor
end

section
set_option linter.unusedVariables false
set_option linter.unusedSimpArgs false
namespace Go.Proofs.YtiliglahlfkikaaGreatDoor.V
open Go.ChangeShapes Go.WideShapes Go.ChangeAt Go.RowKit Go.Joins
theorem CF{f:FuncId}{c:bh U}{xs:List (Va U)}{vs:List Value}{W:World}(hk:cc Tryz.prog U f c)(hg:Gv W)(hv: ∀(F:ao) (ρ:Nat→Rz),ch (@Vw F U gB W ρ 0 []) xs vs)
  (hr:c.run xs [] fun r es=>r= .v ⟨false,[(1,.d .bool true)]⟩∧es= []):Fn Tryz.prog f vs W fun v w'=>v= .bool true∧Fr [] W w':=by
 obtain⟨b,bx,bp⟩: ∃b:Bx,b.f.xf=gB∧b.f.pr=Tryz.prog:=⟨⟨⟨gB,Tryz.prog⟩⟩,rfl,rfl⟩;have M:=Iy (F0:=b.f) (U:=U) (X:=gB) (w:=W) (ρ0:=fun _=>⟨none,0⟩) (fun x hx=>hg.lt x hx) (fun z hz=>bx▸hz) ⟨fun z hz=>bx▸hz,fun w hw=>hw▸hg⟩;refine Fn.mono (@hk b.f bp gB W _ [] xs vs _ M (hv b.f _) hr) fun v w'=>?_;rintro⟨r,es',ρ',⟨rfl,rfl⟩,hav,M',st⟩;have st:=cH.i (F0:=b.f) st;exact⟨@vS b.f _ _ _ _ _ _ 1 true v hav,st.fr⟩
theorem IU{W:World}(h:W.ShapedOpen Tryz.prog):Bs W:=fun g hg j v hc=>by
 have e:g=0:=by simpa[gB]using hg
 subst e;obtain⟨cs,hh,hs,_⟩:=h.1 0 #[.int .i64 0] 3 (of_decide_eq_true (by kernel_rfl)) (by kernel_rfl);have hs:cs.size=1:=hs;have h1:cs[j]? =some v:=by simpa[World.cell?,hh]using hc
 have:=(Array.getElem?_eq_some_iff.1 h1).1;omega
section
variable {W:World}
set_option maxRecDepth 20000
theorem o3:pK Tryz.prog U W 3 (.int .i64):=ve Tryz.underlying3
theorem o2:pK Tryz.prog U W 2 (.int .i64):=ve Tryz.underlying2
theorem Nb:pK Tryz.prog U W 30 (.int .u32):=Be Tryz.underlying30
theorem o9:pK Tryz.prog U W 9 .str:=Bf Tryz.underlying9
theorem Qp:pK Tryz.prog U W 32 (.st 0):=qs Tryz.underlying32 (by kernel_rfl) (.cons _ _ _ _ _ _ rfl (by kernel_rfl) o3 (.cons _ _ _ _ _ _ rfl (by kernel_rfl) Nb (.nil _))) (fun _=>trivial)
theorem Ou:pK Tryz.prog U W 34 (.st 1):=qs Tryz.underlying34 (by kernel_rfl) (.cons _ _ _ _ _ _ rfl (by kernel_rfl) Qp (.cons _ _ _ _ _ _ rfl (by kernel_rfl) o3 (.nil _))) (fun _=>trivial)
theorem Qq:pK Tryz.prog U W 36 (.st 2):=qs Tryz.underlying36 (by kernel_rfl) (.cons _ _ _ _ _ _ rfl (by kernel_rfl) Nb (.cons _ _ _ _ _ _ rfl (by kernel_rfl) o3 (.nil _))) (fun _=>trivial)
theorem Qr(hB:Bs W):pK Tryz.prog U W 37 (.sl (.st 1)):=xV (z:=3) hB Tryz.underlying37 rfl (by kernel_rfl) (by decide) Ou
theorem Qt(hB:Bs W):pK Tryz.prog U W 39 (.st 3):=qs Tryz.underlying39 (by kernel_rfl) (.cons _ _ _ _ _ _ rfl (by kernel_rfl) o3 (.cons _ _ _ _ _ _ rfl (by kernel_rfl) o9 (.cons _ _ _ _ _ _ rfl (by kernel_rfl) o2 (.cons _ _ _ _ _ _ rfl (by kernel_rfl) Ou (.cons _ _ _ _ _ _ rfl (by kernel_rfl) Qq (.cons _ _ _ _ _ _ rfl (by kernel_rfl) (Qr hB) (.nil _))))))) (fun _=>trivial)
theorem Ov:pK Tryz.prog U W 41 (.arr 8 (.int .u32)):=Bh (z:=1) Tryz.underlying41 rfl (by kernel_rfl) (by kernel_rfl) Nb
theorem Qu(hB:Bs W):pK Tryz.prog U W 42 (.sl (.st 3)):=xV (z:=9) hB Tryz.underlying42 rfl (by kernel_rfl) (by decide) (Qt hB)
end
end Go.Proofs.YtiliglahlfkikaaGreatDoor.V
end

/- From a contract to a law's walk; the shapes of what is handed in. -/
import Derived.Test.YtiliglahlfkikaaGreatDoorK24
import Derived.Test.YtiliglahlfkikaaGreatDoorK1
import Derived.Test.YtiliglahlfkikaaGreatDoorRows
import Derived.ProofKit
import Derived.OpenShut
import Derived.Carry
import Derived.Lib.SmallJoins
import Derived.Test.YtiliglahlfkikaaGreatDoorK2
import Derived.Test.YtiliglahlfkikaaGreatDoorK12
import Derived.Test.YtiliglahlfkikaaGreatDoorK4
import Derived.Test.YtiliglahlfkikaaGreatDoorCards
import Derived.Test.YtiliglahlfkikaaGreatDoorTie
import Derived.HandedShaped
import Derived.Lay
import Derived.MakeChecks
import Derived.LaidMore
import Derived.SevenTiedAt
import Derived.Test.YtiliglahlfkikaaGreatDoorK13
import Derived.Test.YtiliglahlfkikaaGreatDoorK17
section
set_option linter.unusedVariables false
set_option linter.unusedSimpArgs false
namespace Go.Proofs.YtiliglahlfkikaaGreatDoor.V
open Go.RowKit
theorem oV{s:az}{b:List Int}{ap:List (ae×af)}{sn:List (ae×Bool)}{x:bS}(R:iV s b ap sn x)(t:ae):
  ¬(((¬(b=x.b))∨(¬eu s b ap sn=(↑x.l.length:Int)))∨(¬g9 s b ap sn t=fQ x t)):=by
 rintro((h|h)|h)
 ·exact h R.bo
 ·exact h (by show((ap.length:Nat):Int)=_;rw[R.len])
 ·exact h (R.has t)
theorem fZ(l:List gL)(hw: ∀o∈l,Dh o): ∀(fuel:Nat) (i:Int) (s:az) (x:bS) (ap:List (ae×af)) (sn:List (ae×Bool)) (b:List Int),0≤i→iV s b ap sn x→
  (match dw l fuel i s x ap sn b with| .inl r=>r| .inr (_,_,_,_,_,_)=>true)=true
 |0,i,s,x,ap,sn,b,hi,R=>rfl
 |fuel+1,i,s,x,ap,sn,b,hi,R=>by
  rw[dw];by_cases c:(i<(l.length:Int))∧(i<(60:Int))
  ·rw[if_pos c];have ho:=hw _ (cG l hi c.1);by_cases cg:cA (ix l i)=true
   ·rw[if_pos cg]
   ·rw[if_neg cg];by_cases c0:(ix l i).kind=(0:Int)
    ·have A:=R.add ho.e;rw[if_pos c0,uC,if_pos A.1,if_neg (oV A.2 _)];exact fZ l hw fuel _ _ _ _ _ _ (by omega) A.2
    ·rw[if_neg c0];by_cases c1:(ix l i).kind=(1:Int)
     ·rw[if_pos c1,sE,yx,R.at_ ho.v ho.more,if_neg (by simp[sH]),if_neg (oV R _)];exact fZ l hw fuel _ _ _ _ _ _ (by omega) R
     ·rw[if_neg c1];by_cases c2:(ix l i).kind=(2:Int)
      ·have A:=R.trim ho.v;rw[if_pos c2,if_pos A.1,if_neg (oV A.2 _)];exact fZ l hw fuel _ _ _ _ _ _ (by omega) A.2
      ·have e:d4 s b ap sn=s:=rfl;rw[if_neg c2,e,if_neg (oV R _)];exact fZ l hw fuel _ _ _ _ _ _ (by omega) R
  ·rw[if_neg c]
theorem sI(key:List UInt8)(l:List gL)(hw: ∀o∈l,Dh o):kJ key l=true:=by
 unfold kJ;split
 ·rfl
 ·rcases Hh key with⟨r,h0,h1,h2⟩|⟨k,h1,h2⟩
  ·rw[h1,h2];simp[h0]
  ·rw[h1,h2];simp only;rw[if_neg (by simp)];exact fZ l hw _ 0 _ _ _ _ _ (by omega) (iV.new k)
end Go.Proofs.YtiliglahlfkikaaGreatDoor.V
end

section
namespace Go.Proofs.YtiliglahlfkikaaGreatDoor
open Go.ChangeShapes Go.WideShapes Go.ChangeAt Go.RowKit Go.Joins
theorem Tryz.own':ownKnob Tryz.prog.godebug=none:=by kernel_rfl
theorem Tryz.laidOut':laidOutB Tryz.prog=true:=by kernel_rfl
def pE(P:Program)(ts:List TypeId):Bool:=ts.all fun t=>P.readableRec t&&decide (t<P.types.size)
theorem l9{H:Type}{enc:TypeId×Value→H}{P:Program}(hl:laidOutB P=true){W W':World}(hb:Below W.heap.size W W'):
  ∀(ts:List TypeId) (vs:List Value) (ds:List (DataW H)) (ps:List MemPlace),pE P ts=true→DataW.TrodAll enc P W 0 (fun _=>true) true ts vs ds ps→(∀x∈ps,x.block<W.heap.size)→
   DataW.TrodAll enc P W' 0 (fun b=>decide (b<W.heap.size)) true ts vs ds ps
 | [],_,_,_,_,h,_=>by
  obtain⟨rfl,rfl,rfl⟩:=trodAll_nil h;exact trodAll_mk0
 |t::ts,_,_,_,hr,h,hlt=>by
  obtain⟨v,vs,d,ds,p,q,rfl,rfl,rfl,h0,h1⟩:=trodAll_cons h;simp only[pE,List.all_cons,Bool.and_eq_true,decide_eq_true_eq]at hr;exact trodAll_cons_mk (Below.trod hl hr.1.1 hr.1.2 h0 hb fun x hx=>hlt x (List.mem_append_left _ hx))
   (l9 hl hb ts vs ds q (by unfold pE;simpa using hr.2) h1 fun x hx=>hlt x (List.mem_append_right _ hx))
theorem Ai{H:Type}{enc:TypeId×Value→H}{f:Func}{s:ChangeSpec}{W W':World}{args:Array Value}{ds gs:List (DataW H)}{before:List MemPlace}{tb:TypeId}
  (hv:s.vars= []) (hW:DataW.Whole enc Tryz.prog f.params.toList s.vars false W args.toList ds gs before) (hfn:s.fn H ds={results:= [.lit (.bool true)],args:=ds})
  (hr:f.resultTypes= #[tb]) (htb:Tryz.prog.underlying tb=some .bool) (hread:pE Tryz.prog f.params.toList=true) (hb:Below W.heap.size W W'):
  s.post enc Tryz.prog f false true false false W args (.bool true) W':=by
 have hlt: ∀x∈before,x.block<W.heap.size:=fun x hx=>hW.lt x hx;obtain⟨p,q,hA,hV,hps,hfz,hnd⟩:=id hW;rw[hv]at hV;obtain⟨rfl,rfl⟩:=trodVars_none hV;rw[List.append_nil]at hps;subst hps;refine⟨ds,[],before,[],before,[],hW,?_,?_,?_,?_,fun h=>by cases h⟩
 ·rw[List.append_nil,hfn,hr];exact trodAll_mk1 (shut_bool htb true)
 ·rw[List.append_nil,hfn];exact l9 Tryz.laidOut' hb _ _ _ _ hread hA hlt
 ·rw[List.append_nil,hfn,hv];rfl
 ·exact World.keptBut_mono (fun x hx=>hx.elim) (hb.frame (fun _=>False))
def Aj(f:Func)(W:World)(args:Array Value):Prop:= ∃(H:Type) (enc:TypeId×Value→H) (base:Nat) (ds:List (DataW H)) (p:List MemPlace),
 (∀(j:Nat) t v,f.params[j]? =some t→args[j]? =some v→Value.okWide Tryz.prog W .any base t v)∧DataW.TrodAll enc Tryz.prog W 0 (fun _=>true) true f.params.toList args.toList ds p∧ ∀x∈p,x.block<W.heap.size
theorem Ak(s:ByteArray): ∃l:List UInt8,s=⟨l.toArray⟩:=⟨s.data.toList,by cases s;simp⟩
end Go.Proofs.YtiliglahlfkikaaGreatDoor
end

section
set_option linter.unusedVariables false
set_option linter.unusedSimpArgs false
namespace Go.Proofs.YtiliglahlfkikaaGreatDoor
open Go.ChangeShapes Go.WideShapes Go.ChangeAt Go.RowKit Go.Joins
theorem Al{f:Nat→List Value}{m:Nat}: ∀(len j:Nat) (v:Value),(∀i,i<len→(f i).length=m)→((List.range len).flatMap f)[j]? =some v→ ∃i r,i<len∧r<m∧j=i*m+r∧(f i)[r]? =some v
 |0,j,v,_,h=>by simp at h
 |len+1,j,v,hl,h=>by
  rw[List.range_succ,List.flatMap_append,List.getElem?_append]at h;have hlen:((List.range len).flatMap f).length=len*m:=by
   clear h;have: ∀n,n≤len→((List.range n).flatMap f).length=n*m:=by
    intro n;induction n with
    |zero=>intro _;simp
    |succ n ih=>intro hn;rw[List.range_succ,List.flatMap_append,List.length_append,ih (by omega)];simp[hl n (by omega),Nat.add_mul]
   exact this len (Nat.le_refl _)
  split at h
  ·obtain⟨i,r,hi,hr,e,hv⟩:=Al len j v (fun i hi=>hl i (by omega)) h;exact⟨i,r,by omega,hr,e,hv⟩
  ·rename_i hge;rw[hlen]at h hge;simp only[List.flatMap_cons,List.flatMap_nil,List.append_nil]at h;refine⟨len,j - len*m,by omega,?_,by omega,h⟩;have:=(List.getElem?_eq_some_iff.1 h).1;rw[hl len (by omega)]at this;exact this
theorem Am{w:World}{a:Addr}{v:Value}(h:w.cell? a=some v):a.block<w.heap.size∧a.spot=none:=by
 unfold World.cell? at h;split at h
 ·rename_i c t x hb;refine⟨bF hb,?_⟩;split at h
  ·cases h
  ·rename_i hs;simpa using hs
 ·cases h
theorem mD.of_cells{w:World}{a:Addr}{len m:Nat}{f:Nat→List Value}(hm:0<m)(h: ∀i,i<len→w.cells? 0 (a.add (i*m)) m=some (f i)):mD [] w (some a) ((List.range len).flatMap f):=fun j v hj=>by
 obtain⟨i,r,hi,hr,rfl,hv⟩:=Al len j v (fun i hi=>(World.cells?_some (h i hi)).2.1) hj;have hc:=(World.cells?_some (h i hi)).2.2 r hr;rw[hv,Deep.add_add]at hc;have h0:=(World.cells?_some (h 0 (by omega))).2;have hs:a.spot=Option.none:=by
  have h1:=h0.2 0 hm;rw[List.getElem?_eq_getElem (by omega),Nat.zero_mul]at h1;have:=(Am h1).2;simpa[Addr.add]using this
 obtain⟨g,b,sp⟩:=a;simp only at hs;subst hs;rw[Addr.add_mid]at hc;exact⟨g,b,rfl,by simp,hc⟩
theorem G5{P:Program}{w:World}{base t e:Nat}{v:Value}{A:Option Addr}{l c:Nat}(ht:P.underlying t=some (.slice e))(hv:Value.okWide P w .any base t v)(h:v.cells.toList= [.slice A l c]):v= .slice A l c:=by
 unfold Value.okWide at hv;rw[ht]at hv;cases v<;>first|(simp[Value.cells]at h;done)|(simpa[Value.cells]using h)|(simp[Cell.okWide,ht,Cell.ok]at hv;done)
theorem Db{P:Program}{w:World}{base t:Nat}{v:Value}{s:List UInt8}(ht:P.underlying t=some .string)(hv:Value.okWide P w .any base t v)(h:v.cells.toList= [sv s]):v=sv s:=by
 unfold Value.okWide at hv;rw[ht]at hv;cases v<;>first|(simp[Value.cells]at h;done)|(simpa[Value.cells]using h)|(simp[Cell.okWide,ht,Cell.ok]at hv;done)
theorem Dc{l:Nat}(h:l≤maxLen):l≤9223372036854775807:=by unfold maxLen at h;omega
section
variable {H:Type} {enc:TypeId×Value→H} {W:World}
end
end Go.Proofs.YtiliglahlfkikaaGreatDoor
end

section
set_option linter.unusedVariables false
set_option linter.unusedSimpArgs false
namespace Go.Proofs.YtiliglahlfkikaaGreatDoor.V
open Go.ChangeShapes Go.WideShapes Go.ChangeAt Go.RowKit Go.Joins
def Bs(W:World):Prop:= ∀g∈gB,∀j v,W.cell? ⟨g,j,none⟩=some v→j=0
def qi(P:Program)(U:cn)(W:World)(t:Nat)(s:bm):Prop:= ∀(H:Type) (enc:TypeId×Value→H) (fuel:Nat) (cs:List Value) (x:DataW H×List MemPlace),DataW.trod enc P W 0 (fun _=>true) true fuel t cs=some x→ ∃m:TT U.ty s,aK U gB (· =W) s m cs
section
variable {P:Program} {U:cn} {W:World}
theorem ww{t:Nat}(hu:P.underlying t=some (.int .i64)):qi P U W t (.int .i64):=fun H enc fuel cs x h=>by
 obtain⟨q,e,_,w0⟩:=DataW.trod_int hu h;have:=bounds_i64 w0;subst e;exact⟨q,aK.int .i64 q (by unfold fu;omega)⟩
theorem BQ{t:Nat}(hu:P.underlying t=some (.int .u32)):qi P U W t (.int .u32):=fun H enc fuel cs x h=>by
 obtain⟨q,e,_,w0⟩:=DataW.trod_int hu h;have:=bounds_u32 w0;subst e;exact⟨q,aK.int .u32 q (by unfold fu;omega)⟩
theorem BR{t:Nat}(hu:P.underlying t=some .string):qi P U W t .str:=fun H enc fuel cs x h=>by
 obtain⟨s0,e,_,hs⟩:=DataW.trod_string hu h;obtain⟨l,rfl⟩:=Ak s0;subst e;exact⟨l,aK.str l (Dc (by simpa[ByteArray.size]using hs))⟩
inductive tk(P:Program)(U:cn)(W:World):List Field→List (Nat×bm)→Nat→Prop
 |nil (o:Nat):tk P U W [] [] o
 |cons (f:Field) (r:List Field) (k:Nat) (s:bm) (q:List (Nat×bm)) (o:Nat) (ho:f.offset=o) (hk:P.cellsOf f.type=k) (hs:qi P U W f.type s) (hr:tk P U W r q (o+k)):tk P U W (f::r) ((k,s)::q) o
theorem BS{H:Type}{enc:TypeId×Value→H}{cs:List Value}{fl:List Field}{sh:List (Nat×bm)}{o:Nat}(h:tk P U W fl sh o)
  (hall: ∀f∈fl,∃n y,DataW.trod enc P W 0 (fun _=>true) true n f.type ((cs.drop f.offset).take (P.cellsOf f.type))=some y) (hl:cs.length=o+(sh.map (·.1)).sum): ∃T:u6 U.ty sh,bK U gB (· =W) sh T (cs.drop o):=by
 induction h with
 |nil o=>exact⟨(),by rw[List.drop_of_length_le (by simp at hl;omega)];exact bK.nil⟩
 |cons f r k s q o ho hk hs hr ih=>
  obtain⟨T,hT⟩:=ih (fun g hg=>hall g (by simp[hg])) (by simp at hl⊢;omega);obtain⟨n,y,hy⟩:=hall f (by simp);rw[ho,hk]at hy;obtain⟨m,hm⟩:=hs _ _ _ _ _ hy;refine⟨(m,T),?_⟩;have e:cs.drop o=(cs.drop o).take k++cs.drop (o+k):=by rw[←List.drop_drop,List.take_append_drop]
  rw[e];exact bK.cons k s q m T _ _ hm (by simp at hl⊢;omega) hT
theorem o4{t i:Nat}{fs:Array Field}(hu:P.underlying t=some (.struct fs))(hz:P.cellsOf t=(U.rd i).sz)(hf:tk P U W fs.toList (U.rd i).fs 0)(hof: ∀T,(U.rd i).ofK T fun _=>True):qi P U W t (.st i):=fun H enc fuel cs x h=>by
 obtain⟨xs,n,_,_,hlen,hl,hall⟩:=DataW.trod_struct hu h;have hall2: ∀f∈fs.toList,∃n y,DataW.trod enc P W 0 (fun _=>true) true n f.type ((cs.drop f.offset).take (P.cellsOf f.type))=some y:=fun f hf=>by
  obtain⟨j,hj⟩:=List.getElem?_of_mem hf;have hj':fs[j]? =some f:=by rw[←Array.getElem?_toList];exact hj
  have:=hall j f hj';have hjl:j<xs.length:=by
   rw[hl];rcases Nat.lt_or_ge j fs.size with h|h
   ·exact h
   ·rw[Array.getElem?_eq_none h]at hj';cases hj'
  rw[List.getElem?_eq_getElem hjl]at this;exact⟨n,_,this⟩
 obtain⟨T,hT⟩:=BS hf hall2 (by rw[hlen,hz,(U.rd i).sz_ok];omega);rw[List.drop_zero]at hT;obtain⟨m,hm,hto⟩:=(U.rd i).ofK_ok T _ (hof T);exact⟨m,aK.st i m cs (hto▸hT) (by rw[hlen,hz])⟩
theorem wx{s:bm}{z:Nat}(hz:aU U s=z): ∀(n:Nat) (cs:List Value),cs.length=n*z→(∀i,i<n→ ∃m:TT U.ty s,aK U gB (· =W) s m ((cs.drop (i*z)).take z))→ ∃l:List (TT U.ty s),l.length=n∧aZ U gB (· =W) s l cs
 |0,cs,h,_=>⟨[],rfl,by
  have:cs= []:=List.eq_nil_of_length_eq_zero (by simpa using h);subst this;exact aZ.nil s⟩
 |n+1,cs,h,hall=>by
  have hz2:cs.length=n*z+z:=by rw[h,Nat.add_mul,Nat.one_mul]
  obtain⟨l,hl,hd⟩:=wx hz n (cs.drop z) (by rw[List.length_drop];omega) (fun i hi=>by
   obtain⟨m,hm⟩:=hall (i+1) (by omega);rw[List.drop_drop];rw[show(i+1)*z=z+i*z by rw[Nat.add_mul,Nat.one_mul,Nat.add_comm]]at hm;exact⟨m,hm⟩)
  obtain⟨m,hm⟩:=hall 0 (by omega);rw[Nat.zero_mul,List.drop_zero]at hm;refine⟨m::l,by simp[hl],?_⟩;rw[←List.take_append_drop z cs];exact aZ.cons s m l _ _ hm (by rw[hz,List.length_take];omega) hd
theorem BT{t n e z:Nat}{s:bm}(hu:P.underlying t=some (.array n e))(hz:aU U s=z)(he:P.cellsOf e=z)(hc:P.cellsOf t=n*z)(ho:qi P U W e s):qi P U W t (.arr n s):=fun H enc fuel cs x h=>by
 obtain⟨xs,k,_,_,hlen,hl,hall⟩:=DataW.trod_array hu h;obtain⟨l,h1,h2⟩:=wx (W:=W) hz n cs (by rw[hlen,hc]) (fun i hi=>by
  have:=hall i hi;rw[he,List.getElem?_eq_getElem (by omega)]at this;exact ho _ _ _ _ _ this)
 exact⟨l,aK.arr n s l cs h2 h1⟩
theorem BU{s:bm}{z:Nat}(hz:aU U s=z){f:Nat→List Value}{q:Nat→TT U.ty s}: ∀(n:Nat),(∀i,i<n→aK U gB (· =W) s (q i) (f i))→aZ U gB (· =W) s ((List.range n).map q) ((List.range n).flatMap f):=by
 have key: ∀(l:List Nat),(∀i∈l,aK U gB (· =W) s (q i) (f i))→aZ U gB (· =W) s (l.map q) (l.flatMap f):=by
  intro l;induction l with
  |nil=>intro _;exact aZ.nil s
  |cons i r ih=>
   intro h;exact aZ.cons s (q i) (r.map q) (f i) _ (h i (by simp)) (h i (by simp)).length (ih fun j hj=>h j (by simp[hj]))
 exact fun n h=>key _ fun i hi=>h i (List.mem_range.1 hi)
theorem ve{t e z:Nat}{s:bm}(hB:Bs W)(hu:P.underlying t=some (.slice e))(hz:aU U s=z)(he:P.cellsOf e=z)(h2:2≤z)(ho:qi P U W e s):qi P U W t (.sl s):=fun H enc fuel cs x h=>by
 rcases Deep.open_slice hu h with⟨rfl,_⟩|⟨a,len,cap,mm,n,D,Pl,rfl,_,hlc,hcm,hmm,_,hall⟩
 ·exact⟨([]:List (TT U.ty s)),aK.sl s [] none 0 [] (aZ.nil s) (fun w _ j v hj=>by simp at hj) (Nat.le_refl _) (Nat.zero_le _)⟩
 ·simp only[if_true]at hmm;subst hmm;rw[he]at hall;have hq: ∀i,i<len→ ∃o:List Value×TT U.ty s,W.cells? 0 (a.add (i*z)) z=some o.1∧aK U gB (· =W) s o.2 o.1:=fun i hi=>by
   obtain⟨cs',h1,h2⟩:=hall i (by omega);obtain⟨o,ho⟩:=ho _ _ _ _ _ h2;exact⟨(cs',o),h1,ho⟩
  rcases Nat.eq_zero_or_pos len with h0|h0
  ·subst h0;exact⟨([]:List (TT U.ty s)),aK.sl s [] (some a) mm [] (aZ.nil s) (fun w _ j v hj=>by simp at hj) (Nat.zero_le _) hcm⟩
  haveI:Inhabited (List Value×TT U.ty s):=⟨(hq 0 h0).choose⟩
  obtain⟨q,hq⟩:=Deep.choose_lt hq;have hrd:=mD.of_cells (f:=fun i=>(q i).1) (by omega) (fun i hi=>(hq i hi).1);have hd:=BU (W:=W) hz len (f:=fun i=>(q i).1) (q:=fun i=>(q i).2) (fun i hi=>(hq i hi).2);refine⟨(List.range len).map fun i=>(q i).2,?_⟩;have hl:((List.range len).map fun i=>(q i).2).length=len:=by simp
  have:=aK.sl (Y:=gB) (S:=(· =W)) s ((List.range len).map fun i=>(q i).2) (some a) mm _ hd (fun w hw=>?_) (by rw[hl];simpa using hlc) hcm
  ·rw[hl]at this;exact this
  ·subst hw;intro j v hj;obtain⟨g,b,e,_,hc⟩:=hrd j v hj;refine⟨g,b,e,fun hg=>?_,hc⟩;have hc1:=(World.cells?_some (hq 0 h0).1).2;have hlen1:=hc1.1;have hv:=hc1.2 1 (by omega);rw[List.getElem?_eq_getElem (by omega),Nat.zero_mul]at hv;injection e with e;subst e;have:=hB g hg _ _ hv;simp[Addr.add]at this
end
end Go.Proofs.YtiliglahlfkikaaGreatDoor.V
end

section
namespace Go.Proofs.YtiliglahlfkikaaGreatDoor
open Go.ChangeShapes Go.WideShapes Go.ChangeAt Go.RowKit Go.Joins
set_option maxRecDepth 100000 in
theorem yc{f:FuncId}{fn:Func}{s:ChangeSpec}{tb:TypeId}{laid:List (String×DataW Unit)}(hfn:Tryz.prog.funcs[f]? =some fn)(hinit:Tryz.prog.inits.idxOf? f=none)(hv:s.vars= [])(hr:fn.resultTypes= #[tb])(htb:Tryz.prog.underlying tb=some .bool)(hread:pE Tryz.prog fn.params.toList=true)
  (hspec: ∀(H:Type) (ds:List (DataW H)),ds.length=fn.params.toList.length→s.fn H ds={results:= [.lit (.bool true)],args:=ds})
  (walk: ∀(W:World) (args:Array Value),Aj fn W args→W.ShapedOpen Tryz.prog→laidMetH Tryz.prog laid W→Fn Tryz.prog f args.toList W fun v w'=>v= .bool true∧Fr [] W w')
  (os:Os) (started:os.Started) (H:Type) (enc:TypeId×Value→H)
  (witness: ∃(w:World) (tape:Tape) (i:Input),w.os=os∧(w.forCall tape i).Shaped Tryz.checked.prog∧i.vars= []∧Input.okWide Tryz.checked.prog (w.forCall tape i) .any w.heap.size f i∧
   ((s.pre enc Tryz.checked.prog fn [] false (w.forCall tape i).memory i.args∧laidMetH Tryz.prog laid (w.forCall tape i).memory)∧sizedMet enc Tryz.checked.prog fn (OpenSpec.ofChange s) false (w.forCall tape i).memory i.args)∧({}:Assume).holds Tryz.checked.prog (lone (Frame.enter Tryz.checked.prog f i.args .normal) [] (w.forCall tape i))):
  ReturnsInHanded {} Tryz.checked os f .any (fun w args=>(s.pre enc Tryz.prog fn [] false w args∧laidMetH Tryz.prog laid w)∧sizedMet enc Tryz.prog fn (OpenSpec.ofChange s) false w args) (s.post enc Tryz.prog fn false true false false):=by
 refine returnsInHanded_of_calls Tryz.own' started hinit witness ?_;intro w tape i _ hsh _ hok hpre hholds;obtain⟨_,_,_,fn',hfn',_,_,_,_,hval⟩:=hok;have e:fn'=fn:=Option.some.inj (hfn'.symm.trans hfn);subst e;obtain⟨⟨⟨ds,gs,before,hw,hc⟩,hx⟩,hz⟩:=hpre;have hw':=DataW.Whole.of_heap (w':=w.forCall tape i) (by rfl) hw;have hX:laidMetH Tryz.prog laid (w.forCall tape i):=hx.of_heap (by rfl);have hW':DataW.Whole enc Tryz.prog fn'.params.toList s.vars false (w.forCall tape i) i.args.toList ds gs before:=hw';have hlt: ∀x∈before,x.block<(w.forCall tape i).heap.size:=fun x hx=>hW'.lt x hx;obtain⟨p,q,hA,hV,hps,_,_⟩:=id hW';have hlen:ds.length=fn'.params.toList.length:=by
  have key: ∀(W:World) (ts:List TypeId) (vs:List Value) (ds:List (DataW H)) (ps:List MemPlace),DataW.TrodAll enc Tryz.prog W 0 (fun _=>true) true ts vs ds ps→ds.length=ts.length:=by
   intro W ts;induction ts with
   |nil=>intro vs ds ps h;obtain⟨_,rfl,_⟩:=trodAll_nil h;rfl
   |cons t ts ih=>intro vs ds ps h;obtain⟨v,vs,d,ds,p,q,rfl,rfl,rfl,_,h1⟩:=trodAll_cons h;simp[ih _ _ _ h1]
  exact key _ _ _ _ _ hA
 have hcl:=(walk (w.forCall tape i) i.args ⟨H,enc,w.heap.size,ds,p,hval,hA,fun x hx=>hlt x (by rw[hps];exact List.mem_append_left _ hx)⟩ hsh hX).2;rw[Array.toArray_toList]at hcl;refine Calls.mono hcl fun e W' ⟨v,he,hv',hF⟩=>?_;subst he;subst hv';exact ChangeSpec.post_blind (Ai hv hW' (hspec H ds hlen) hr htb hread hF.below)
end Go.Proofs.YtiliglahlfkikaaGreatDoor
end

section
set_option linter.unusedVariables false
set_option linter.unusedSimpArgs false
namespace Go.Proofs.YtiliglahlfkikaaGreatDoor.V
open Go.ChangeShapes Go.WideShapes Go.ChangeAt Go.RowKit Go.Joins
theorem Dd{f:FuncId}{c:bf U}{xs:List (Va U)}{vs:List Value}{W:World}(hk:dY Tryz.prog U f c)(hg:Gv W)(hv: ∀(F:ax) (ρ:Nat→Rz),cI (@Vw F U gB W ρ 0 []) xs vs)
  (hr:c.run xs [] fun r es=>r= .v ⟨false,[(1,.d .bool true)]⟩∧es= []):Fn Tryz.prog f vs W fun v w'=>v= .bool true∧Fr [] W w':=by
 obtain⟨b,bx,bp⟩: ∃b:Bx,b.f.xf=gB∧b.f.pr=Tryz.prog:=⟨⟨⟨gB,Tryz.prog⟩⟩,rfl,rfl⟩;have M:=I1 (F0:=b.f) (U:=U) (X:=gB) (w:=W) (ρ0:=fun _=>⟨none,0⟩) (fun x hx=>hg.lt x hx) (fun z hz=>bx▸hz) ⟨fun z hz=>bx▸hz,fun w hw=>hw▸hg⟩;refine Fn.mono (@hk b.f bp gB W _ [] xs vs _ M (hv b.f _) hr) fun v w'=>?_;rintro⟨r,es',ρ',⟨rfl,rfl⟩,hav,M',st⟩;have st:=dg.i (F0:=b.f) st;exact⟨@wZ b.f _ _ _ _ _ _ 1 true v hav,st.fr⟩
theorem Jk{W:World}(h:W.ShapedOpen Tryz.prog):Bs W:=fun g hg j v hc=>by
 have e:g=0:=by simpa[gB]using hg
 subst e;obtain⟨cs,hh,hs,_⟩:=h.1 0 #[.int .i64 0] 3 (of_decide_eq_true (by kernel_rfl)) (by kernel_rfl);have hs:cs.size=1:=hs;have h1:cs[j]? =some v:=by simpa[World.cell?,hh]using hc
 have:=(Array.getElem?_eq_some_iff.1 h1).1;omega
section
variable {W:World}
set_option maxRecDepth 20000
theorem o3:qi Tryz.prog U W 3 (.int .i64):=ww Tryz.underlying3
theorem o2:qi Tryz.prog U W 2 (.int .i64):=ww Tryz.underlying2
theorem NN:qi Tryz.prog U W 30 (.int .u32):=BQ Tryz.underlying30
theorem o9:qi Tryz.prog U W 9 .str:=BR Tryz.underlying9
theorem Rp:qi Tryz.prog U W 32 (.st 0):=o4 Tryz.underlying32 (by kernel_rfl) (.cons _ _ _ _ _ _ rfl (by kernel_rfl) o3 (.cons _ _ _ _ _ _ rfl (by kernel_rfl) NN (.nil _))) (fun _=>trivial)
theorem O7:qi Tryz.prog U W 34 (.st 1):=o4 Tryz.underlying34 (by kernel_rfl) (.cons _ _ _ _ _ _ rfl (by kernel_rfl) Rp (.cons _ _ _ _ _ _ rfl (by kernel_rfl) o3 (.nil _))) (fun _=>trivial)
theorem Rq:qi Tryz.prog U W 36 (.st 2):=o4 Tryz.underlying36 (by kernel_rfl) (.cons _ _ _ _ _ _ rfl (by kernel_rfl) NN (.cons _ _ _ _ _ _ rfl (by kernel_rfl) o3 (.nil _))) (fun _=>trivial)
theorem Rr(hB:Bs W):qi Tryz.prog U W 37 (.sl (.st 1)):=ve (z:=3) hB Tryz.underlying37 rfl (by kernel_rfl) (by decide) O7
theorem O8(hB:Bs W):qi Tryz.prog U W 39 (.st 3):=o4 Tryz.underlying39 (by kernel_rfl) (.cons _ _ _ _ _ _ rfl (by kernel_rfl) o3 (.cons _ _ _ _ _ _ rfl (by kernel_rfl) o9 (.cons _ _ _ _ _ _ rfl (by kernel_rfl) o2 (.cons _ _ _ _ _ _ rfl (by kernel_rfl) O7 (.cons _ _ _ _ _ _ rfl (by kernel_rfl) Rq (.cons _ _ _ _ _ _ rfl (by kernel_rfl) (Rr hB) (.nil _))))))) (fun _=>trivial)
theorem Rs:qi Tryz.prog U W 41 (.arr 8 (.int .u32)):=BT (z:=1) Tryz.underlying41 rfl (by kernel_rfl) (by kernel_rfl) NN
theorem Rt(hB:Bs W):qi Tryz.prog U W 42 (.sl (.st 3)):=ve (z:=9) hB Tryz.underlying42 rfl (by kernel_rfl) (by decide) (O8 hB)
theorem Ru(hB:Bs W):qi Tryz.prog U W 44 (.st 14):=o4 Tryz.underlying44 (by kernel_rfl) (.cons _ _ _ _ _ _ rfl (by kernel_rfl) o3 (.cons _ _ _ _ _ _ rfl (by kernel_rfl) (O8 hB) (.cons _ _ _ _ _ _ rfl (by kernel_rfl) Rs (.cons _ _ _ _ _ _ rfl (by kernel_rfl) (Rt hB) (.nil _))))) (fun _=>trivial)
theorem Rw(hB:Bs W):qi Tryz.prog U W 22 (.sl (.st 14)):=ve (z:=19) hB Tryz.underlying22 rfl (by kernel_rfl) (by decide) (Ru hB)
end
end Go.Proofs.YtiliglahlfkikaaGreatDoor.V
end

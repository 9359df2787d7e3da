/- Arguments that are handed in: told as plain data by their shapes. -/
import Derived.Test.YtmpeiadlohbikaaGreatDoorAx2
import Derived.Test.YtmpeiadlohbikaaGreatDoorAx12
import Derived.Test.YtmpeiadlohbikaaGreatDoorAx4
set_option linter.unusedVariables false
set_option linter.unusedSimpArgs false
namespace Go.Proofs.YtmpeiadlohbikaaGreatDoor.V
open Go.ChangeShapes Go.WideShapes Go.ChangeAt Go.RowKit Go.Joins
def Bs(W:World):Prop:= ∀g∈gB,∀j v,W.cell? ⟨g,j,none⟩=some v→j=0
def nA(P:Program)(U:bG)(W:World)(t:Nat)(s:aZ):Prop:= ∀(H:Type) (enc:TypeId×Value→H) (fuel:Nat) (cs:List Value) (x:DataW H×List MemPlace),DataW.trod enc P W 0 (fun _=>true) true fuel t cs=some x→ ∃m:TT U.ty s,aC U gB (· =W) s m cs
section
variable {P:Program} {U:bG} {W:World}
theorem vA{t:Nat}(hu:P.underlying t=some (.int .i64)):nA P U W t (.int .i64):=fun H enc fuel cs x h=>by
 obtain⟨q,e,_,w0⟩:=DataW.trod_int hu h;have:=bounds_i64 w0;subst e;exact⟨q,aC.int .i64 q (by unfold dq;omega)⟩
theorem BK{t:Nat}(hu:P.underlying t=some (.int .u32)):nA P U W t (.int .u32):=fun H enc fuel cs x h=>by
 obtain⟨q,e,_,w0⟩:=DataW.trod_int hu h;have:=bounds_u32 w0;subst e;exact⟨q,aC.int .u32 q (by unfold dq;omega)⟩
theorem BL{t:Nat}(hu:P.underlying t=some .string):nA P U W t .str:=fun H enc fuel cs x h=>by
 obtain⟨s0,e,_,hs⟩:=DataW.trod_string hu h;obtain⟨l,rfl⟩:=zF s0;subst e;exact⟨l,aC.str l (Dl (by simpa[ByteArray.size]using hs))⟩
inductive sx(P:Program)(U:bG)(W:World):List Field→List (Nat×aZ)→Nat→Prop
 |nil (o:Nat):sx P U W [] [] o
 |cons (f:Field) (r:List Field) (k:Nat) (s:aZ) (q:List (Nat×aZ)) (o:Nat) (ho:f.offset=o) (hk:P.cellsOf f.type=k) (hs:nA P U W f.type s) (hr:sx P U W r q (o+k)):sx P U W (f::r) ((k,s)::q) o
theorem BM{H:Type}{enc:TypeId×Value→H}{cs:List Value}{fl:List Field}{sh:List (Nat×aZ)}{o:Nat}(h:sx P U W fl sh o)
  (hall: ∀f∈fl,∃n y,DataW.trod enc P W 0 (fun _=>true) true n f.type ((cs.drop f.offset).take (P.cellsOf f.type))=some y) (hl:cs.length=o+(sh.map (·.1)).sum): ∃T:uf U.ty sh,bE U gB (· =W) sh T (cs.drop o):=by
 induction h with
 |nil o=>exact⟨(),by rw[List.drop_of_length_le (by simp at hl;omega)];exact bE.nil⟩
 |cons f r k s q o ho hk hs hr ih=>
  obtain⟨T,hT⟩:=ih (fun g hg=>hall g (by simp[hg])) (by simp at hl⊢;omega);obtain⟨n,y,hy⟩:=hall f (by simp);rw[ho,hk]at hy;obtain⟨m,hm⟩:=hs _ _ _ _ _ hy;refine⟨(m,T),?_⟩;have e:cs.drop o=(cs.drop o).take k++cs.drop (o+k):=by rw[←List.drop_drop,List.take_append_drop]
  rw[e];exact bE.cons k s q m T _ _ hm (by simp at hl⊢;omega) hT
theorem jI{t i:Nat}{fs:Array Field}(hu:P.underlying t=some (.struct fs))(hz:P.cellsOf t=(U.rd i).sz)(hf:sx P U W fs.toList (U.rd i).fs 0)(hof: ∀T,(U.rd i).ofK T fun _=>True):nA P U W t (.st i):=fun H enc fuel cs x h=>by
 obtain⟨xs,n,_,_,hlen,hl,hall⟩:=DataW.trod_struct hu h;have hall2: ∀f∈fs.toList,∃n y,DataW.trod enc P W 0 (fun _=>true) true n f.type ((cs.drop f.offset).take (P.cellsOf f.type))=some y:=fun f hf=>by
  obtain⟨j,hj⟩:=List.getElem?_of_mem hf;have hj':fs[j]? =some f:=by rw[←Array.getElem?_toList];exact hj
  have:=hall j f hj';have hjl:j<xs.length:=by
   rw[hl];rcases Nat.lt_or_ge j fs.size with h|h
   ·exact h
   ·rw[Array.getElem?_eq_none h]at hj';cases hj'
  rw[List.getElem?_eq_getElem hjl]at this;exact⟨n,_,this⟩
 obtain⟨T,hT⟩:=BM hf hall2 (by rw[hlen,hz,(U.rd i).sz_ok];omega);rw[List.drop_zero]at hT;obtain⟨m,hm,hto⟩:=(U.rd i).ofK_ok T _ (hof T);exact⟨m,aC.st i m cs (hto▸hT) (by rw[hlen,hz])⟩
theorem vB{s:aZ}{z:Nat}(hz:aM U s=z): ∀(n:Nat) (cs:List Value),cs.length=n*z→(∀i,i<n→ ∃m:TT U.ty s,aC U gB (· =W) s m ((cs.drop (i*z)).take z))→ ∃l:List (TT U.ty s),l.length=n∧aT U gB (· =W) s l cs
 |0,cs,h,_=>⟨[],rfl,by
  have:cs= []:=List.eq_nil_of_length_eq_zero (by simpa using h);subst this;exact aT.nil s⟩
 |n+1,cs,h,hall=>by
  have hz2:cs.length=n*z+z:=by rw[h,Nat.add_mul,Nat.one_mul]
  obtain⟨l,hl,hd⟩:=vB hz n (cs.drop z) (by rw[List.length_drop];omega) (fun i hi=>by
   obtain⟨m,hm⟩:=hall (i+1) (by omega);rw[List.drop_drop];rw[show(i+1)*z=z+i*z by rw[Nat.add_mul,Nat.one_mul,Nat.add_comm]]at hm;exact⟨m,hm⟩)
  obtain⟨m,hm⟩:=hall 0 (by omega);rw[Nat.zero_mul,List.drop_zero]at hm;refine⟨m::l,by simp[hl],?_⟩;rw[←List.take_append_drop z cs];exact aT.cons s m l _ _ hm (by rw[hz,List.length_take];omega) hd
theorem BN{t n e z:Nat}{s:aZ}(hu:P.underlying t=some (.array n e))(hz:aM U s=z)(he:P.cellsOf e=z)(hc:P.cellsOf t=n*z)(ho:nA P U W e s):nA P U W t (.arr n s):=fun H enc fuel cs x h=>by
 obtain⟨xs,k,_,_,hlen,hl,hall⟩:=DataW.trod_array hu h;obtain⟨l,h1,h2⟩:=vB (W:=W) hz n cs (by rw[hlen,hc]) (fun i hi=>by
  have:=hall i hi;rw[he,List.getElem?_eq_getElem (by omega)]at this;exact ho _ _ _ _ _ this)
 exact⟨l,aC.arr n s l cs h2 h1⟩
theorem BO{s:aZ}{z:Nat}(hz:aM U s=z){f:Nat→List Value}{q:Nat→TT U.ty s}: ∀(n:Nat),(∀i,i<n→aC U gB (· =W) s (q i) (f i))→aT U gB (· =W) s ((List.range n).map q) ((List.range n).flatMap f):=by
 have key: ∀(l:List Nat),(∀i∈l,aC U gB (· =W) s (q i) (f i))→aT U gB (· =W) s (l.map q) (l.flatMap f):=by
  intro l;induction l with
  |nil=>intro _;exact aT.nil s
  |cons i r ih=>
   intro h;exact aT.cons s (q i) (r.map q) (f i) _ (h i (by simp)) (h i (by simp)).length (ih fun j hj=>h j (by simp[hj]))
 exact fun n h=>key _ fun i hi=>h i (List.mem_range.1 hi)
theorem qR{t e z:Nat}{s:aZ}(hB:Bs W)(hu:P.underlying t=some (.slice e))(hz:aM U s=z)(he:P.cellsOf e=z)(h2:2≤z)(ho:nA P U W e s):nA P U W t (.sl s):=fun H enc fuel cs x h=>by
 rcases Deep.open_slice hu h with⟨rfl,_⟩|⟨a,len,cap,mm,n,D,Pl,rfl,_,hlc,hcm,hmm,_,hall⟩
 ·exact⟨([]:List (TT U.ty s)),aC.sl s [] none 0 [] (aT.nil s) (fun w _ j v hj=>by simp at hj) (Nat.le_refl _) (Nat.zero_le _)⟩
 ·simp only[if_true]at hmm;subst hmm;rw[he]at hall;have hq: ∀i,i<len→ ∃o:List Value×TT U.ty s,W.cells? 0 (a.add (i*z)) z=some o.1∧aC U gB (· =W) s o.2 o.1:=fun i hi=>by
   obtain⟨cs',h1,h2⟩:=hall i (by omega);obtain⟨o,ho⟩:=ho _ _ _ _ _ h2;exact⟨(cs',o),h1,ho⟩
  rcases Nat.eq_zero_or_pos len with h0|h0
  ·subst h0;exact⟨([]:List (TT U.ty s)),aC.sl s [] (some a) mm [] (aT.nil s) (fun w _ j v hj=>by simp at hj) (Nat.zero_le _) hcm⟩
  haveI:Inhabited (List Value×TT U.ty s):=⟨(hq 0 h0).choose⟩
  obtain⟨q,hq⟩:=Deep.choose_lt hq;have hrd:=lH.of_cells (f:=fun i=>(q i).1) (by omega) (fun i hi=>(hq i hi).1);have hd:=BO (W:=W) hz len (f:=fun i=>(q i).1) (q:=fun i=>(q i).2) (fun i hi=>(hq i hi).2);refine⟨(List.range len).map fun i=>(q i).2,?_⟩;have hl:((List.range len).map fun i=>(q i).2).length=len:=by simp
  have:=aC.sl (Y:=gB) (S:=(· =W)) s ((List.range len).map fun i=>(q i).2) (some a) mm _ hd (fun w hw=>?_) (by rw[hl];simpa using hlc) hcm
  ·rw[hl]at this;exact this
  ·subst hw;intro j v hj;obtain⟨g,b,e,_,hc⟩:=hrd j v hj;refine⟨g,b,e,fun hg=>?_,hc⟩;have hc1:=(World.cells?_some (hq 0 h0).1).2;have hlen1:=hc1.1;have hv:=hc1.2 1 (by omega);rw[List.getElem?_eq_getElem (by omega),Nat.zero_mul]at hv;injection e with e;subst e;have:=hB g hg _ _ hv;simp[Addr.add]at this
end
end Go.Proofs.YtmpeiadlohbikaaGreatDoor.V

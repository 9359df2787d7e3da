/- Plain laws: what the statements' own functions do is nothing; like is like. -/
import Derived.Test.YtiliglahlfkikaaGreatDoorYa20
import Derived.Test.YtiliglahlfkikaaGreatDoorYa19
import Derived.Test.YtiliglahlfkikaaGreatDoorYa14
import Derived.Test.YtiliglahlfkikaaGreatDoorYa13
import Derived.Test.YtiliglahlfkikaaGreatDoorYa3
section
set_option linter.unusedVariables false
set_option linter.unusedSimpArgs false
namespace Go.Proofs.YtiliglahlfkikaaGreatDoor.V
open Go.RowKit Go.Shelf Go.Lib Go.Sort
def vH{α:Type}(key:α→ae)(l:List α)(a:α):List α:=pU (fun x y=>cK (key x) (key y)) l a
theorem x5{α:Type}(key:α→ae)(l:List α)(a:α):(vH key l a).map key=pU cK (l.map key) (key a):=by
 unfold vH pU;rw[List.map_append,List.map_append,List.takeWhile_map,List.dropWhile_map];rfl
theorem x6{α:Type}(key:α→ae)(l:List α)(a x:α):x∈vH key l a↔x=a∨x∈l:=x3 _ l a x
theorem x7{α:Type}(key:α→ae)(l:List α)(a:α):(vH key l a).length=l.length+1:=x4 _ l a
theorem sZ{α:Type}{key:α→ae}{l:List α}{a:α}(h:dM (l.map key))(hn:key a∉l.map key):dM ((vH key l a).map key):=by
 rw[x5];exact ry cK ES rr h (fun x hx q=>hn (q▸hx))
theorem x8{α:Type}{key:α→ae}{l l':List α}(h:dM (l.map key))(h':dM (l'.map key))(hm: ∀x,x∈l↔x∈l'):l=l':=by
 unfold dM at h h';rw[List.pairwise_map]at h h';exact jZ (fun x y=>cK (key x) (key y)) (fun a b q=>ji q) h h' hm
theorem x9{l l':List ae}(h:dM l)(h':dM l')(hm: ∀x,x∈l↔x∈l'):l=l':=jZ cK (fun a b q=>ji q) h h' hm
structure gW{α:Type}(key:α→ae)(mk:ab→α)(A D:Int)(adds:List α)(gone:List ae)(L:List ab):Prop where
 n:adds.length≤L.length
 g:gone.length≤100*L.length
 ra:dM (adds.map key)
 rg:dM gone
 mg: ∀t,t∈gone↔ ∃e∈L,e.act=D∧t∈e.tags
 ma: ∀a,a∈adds↔(∃e∈L,e.act=A∧a=mk e)∧key a∉gone
section
variable {α:Type} {key:α→ae} {mk:ab→α} {A D:Int} {adds adds':List α} {gone gone':List ae} {L L':List ab} {e:ab}
theorem gW.nil:gW key mk A D [] [] []:=⟨Nat.le_refl _,Nat.le_refl _,List.Pairwise.nil,List.Pairwise.nil,by simp,by simp⟩
theorem gW.dj(h:gW key mk A D adds gone L): ∀a∈adds,key a∉gone:=fun a ha=>((h.ma a).1 ha).2
theorem gW.other(h:gW key mk A D adds gone L)(h1: ¬e.act=A)(h2: ¬e.act=D):gW key mk A D adds gone (L++ [e]):=by
 refine⟨by have:=h.n;simp;omega,by have:=h.g;simp;omega,h.ra,h.rg,fun t=>?_,fun a=>?_⟩
 ·rw[h.mg];simp[h2]
 ·rw[h.ma];simp[h1]
theorem gW.fresh(h:gW key mk A D adds gone L)(hk: ∀e,key (mk e)=e.tag)(hf:e.tag∉L.map (·.tag)):key (mk e)∉adds.map key:=fun hm=>by
 obtain⟨a,ha,h2⟩:=List.mem_map.1 hm;obtain⟨⟨e',he',_,rfl⟩,_⟩:=(h.ma a).1 ha;rw[hk,hk]at h2;exact hf (List.mem_map.2 ⟨e',he',h2⟩)
theorem gW.put(h:gW key mk A D adds gone L)(hk: ∀e,key (mk e)=e.tag)(hA:e.act=A)(hAD: ¬A=D)(hf:e.tag∉L.map (·.tag)):gW key mk A D (if key (mk e)∈gone then adds else vH key adds (mk e)) gone (L++ [e]):=by
 have hfr:=h.fresh (e:=e) hk hf;have hg: ∀t,t∈gone↔ ∃x∈L++ [e],x.act=D∧t∈x.tags:=fun t=>by rw[h.mg];simp[hA,hAD]
 split
 ·rename_i hm;refine⟨by have:=h.n;simp;omega,by have:=h.g;simp;omega,h.ra,h.rg,hg,fun a=>?_⟩;rw[h.ma];constructor
  ·rintro⟨⟨x,hx,h1,h2⟩,h3⟩;exact⟨⟨x,by simp[hx],h1,h2⟩,h3⟩
  ·rintro⟨⟨x,hx,h1,rfl⟩,h3⟩;rcases List.mem_append.1 hx with hx|hx
   ·exact⟨⟨x,hx,h1,rfl⟩,h3⟩
   ·rw[List.mem_singleton]at hx;subst hx;exact absurd hm h3
 ·rename_i hm;refine⟨by have:=h.n;rw[x7];simp;omega,by have:=h.g;simp;omega,sZ h.ra hfr,h.rg,hg,fun a=>?_⟩;rw[x6,h.ma];constructor
  ·rintro(rfl|⟨⟨x,hx,h1,h2⟩,h3⟩)
   ·exact⟨⟨e,by simp,hA,rfl⟩,hm⟩
   ·exact⟨⟨x,by simp[hx],h1,h2⟩,h3⟩
  ·rintro⟨⟨x,hx,h1,rfl⟩,h3⟩;rcases List.mem_append.1 hx with hx|hx
   ·exact .inr ⟨⟨x,hx,h1,rfl⟩,h3⟩
   ·rw[List.mem_singleton]at hx;subst hx;exact .inl rfl
theorem gW.drop(h:gW key mk A D adds gone L)(hD:e.act=D)(hAD: ¬A=D)(hr:dM gone')(hm: ∀t,t∈gone'↔t∈gone∨t∈e.tags)(hl:gone'.length≤gone.length+e.tags.length)(h100:e.tags.length≤100):gW key mk A D (adds.filter (fun a=>!decide (key a∈gone'))) gone' (L++ [e]):=by
 refine⟨by have:=h.n;have:=List.length_filter_le (fun a=>!decide (key a∈gone')) adds;simp;omega,by have:=h.g;simp;omega,?_,hr,fun t=>?_,fun a=>?_⟩
 ·have:=h.ra;unfold dM at this⊢;exact this.sublist (List.filter_sublist.map _)
 ·rw[hm,h.mg];constructor
  ·rintro(⟨x,hx,h1,h2⟩|h1)
   ·exact⟨x,by simp[hx],h1,h2⟩
   ·exact⟨e,by simp,hD,h1⟩
  ·rintro⟨x,hx,h1,h2⟩;rcases List.mem_append.1 hx with hx|hx
   ·exact .inl ⟨x,hx,h1,h2⟩
   ·rw[List.mem_singleton]at hx;subst hx;exact .inr h2
 ·rw[List.mem_filter,h.ma];constructor
  ·rintro⟨⟨⟨x,hx,h1,h2⟩,h3⟩,h4⟩;exact⟨⟨x,by simp[hx],h1,h2⟩,by simpa using h4⟩
  ·rintro⟨⟨x,hx,h1,rfl⟩,h3⟩;rcases List.mem_append.1 hx with hx|hx
   ·exact⟨⟨⟨x,hx,h1,rfl⟩,fun q=>h3 ((hm _).2 (.inl q))⟩,by simpa using h3⟩
   ·rw[List.mem_singleton]at hx;subst hx;exact absurd (h1.symm.trans hD) hAD
theorem gW.ext(h:gW key mk A D adds gone L)(h':gW key mk A D adds' gone' L')(hm: ∀e,e∈L↔e∈L'):adds=adds'∧gone=gone':=by
 have hg:gone=gone':=x9 h.rg h'.rg fun t=>by rw[h.mg,h'.mg];simp only[hm]
 subst hg;exact⟨x8 h.ra h'.ra fun a=>by rw[h.ma,h'.ma];simp only[hm],rfl⟩
end
def CL(a b:bK):Prop:=a.at_.time<b.at_.time∨(a.at_.time=b.at_.time∧(a.at_.origin<b.at_.origin∨(a.at_.origin=b.at_.origin∧a.val<b.val)))
def zR:bK:=⟨0,⟨0,0⟩⟩
def MR(e:ab):bK:=⟨e.val,e.at_⟩
theorem Bb{a b:bK}(h1:a.val=b.val)(h2:a.at_.time=b.at_.time)(h3:a.at_.origin=b.at_.origin):a=b:=by
 obtain⟨a1,⟨a2,a3⟩⟩:=a;obtain⟨b1,⟨b2,b3⟩⟩:=b;simp only at h1 h2 h3;subst h1;subst h2;subst h3;rfl
theorem Bc{a b:bK}(h1: ¬CL a b)(h2: ¬CL b a):a=b:=by
 unfold CL at h1 h2;exact Bb (by omega) (by omega) (by omega)
structure nv(r:bK)(L:List ab):Prop where
 i:r=zR∨ ∃e∈L,e.act=1∧r=MR e
 z: ¬CL r zR
 m: ∀e∈L,e.act=1→ ¬CL r (MR e)
theorem Bd(a:bK): ¬CL a a:=by unfold CL;omega
theorem nv.nil:nv zR []:=⟨.inl rfl,Bd _,by simp⟩
theorem nv.other{r:bK}{L:List ab}{e:ab}(h:nv r L)(h1: ¬e.act=1):nv r (L++ [e]):=by
 refine⟨?_,h.z,fun x hx h2=>?_⟩
 ·rcases h.i with q|⟨x,hx,q⟩
  ·exact .inl q
  ·exact .inr ⟨x,by simp[hx],q⟩
 ·rcases List.mem_append.1 hx with hx|hx
  ·exact h.m x hx h2
  ·rw[List.mem_singleton]at hx;subst hx;exact absurd h2 h1
theorem nv.ext{r r':bK}{L L':List ab}(h:nv r L)(h':nv r' L')(hm: ∀e,e∈L↔e∈L'):r=r':=by
 have key: ∀{r r':bK} {L L':List ab},nv r L→nv r' L'→(∀e,e∈L↔e∈L')→ ¬CL r r':=fun{r r' L L'} h h' hm=>by
  rcases h'.i with q|⟨x,hx,h1,q⟩
  ·rw[q];exact h.z
  ·rw[q];exact h.m x ((hm x).2 hx) h1
 exact Bc (key h h' hm) (key h' h (fun e=>(hm e).symm))
def sP:List ab→Int
 | []=>0
 |e::l=>(if e.act=2∧0≤e.val then e.val else 0)+sP l
def sM:List ab→Int
 | []=>0
 |e::l=>(if e.act=2∧e.val<0 then 0 - e.val else 0)+sM l
theorem Be{l m:List ab}(h:l.Perm m):sP l=sP m:=by
 induction h with
 |nil=>rfl
 |cons x _ ih=>simp only[sP,ih]
 |swap x y l=>simp only[sP];omega
 |trans _ _ h1 h2=>exact h1.trans h2
theorem Bf{l m:List ab}(h:l.Perm m):sM l=sM m:=by
 induction h with
 |nil=>rfl
 |cons x _ ih=>simp only[sM,ih]
 |swap x y l=>simp only[sM];omega
 |trans _ _ h1 h2=>exact h1.trans h2
structure Jf(s:aX):Prop where
 la:s.adds.length≤4096
 lg:s.gone.length≤4096
 ta: ∀a∈s.adds,bF a.tag=0
 tg: ∀t∈s.gone,bF t=0
 ra:dM (s.adds.map (·.tag))
 rg:dM s.gone
 el: ∀a∈s.adds,gj a.elem=true
 dj: ∀a∈s.adds,a.tag∉s.gone
structure Jg(s:bc):Prop where
 la:s.puts.length≤4096
 lg:s.gone.length≤4096
 ta: ∀a∈s.puts,bF a.tag=0
 tg: ∀t∈s.gone,bF t=0
 ra:dM (s.puts.map (·.tag))
 rg:dM s.gone
 el: ∀a∈s.puts,jc a=true
 dj: ∀a∈s.puts,a.tag∉s.gone
structure OO(k:Int)(e:ab):Prop where
 c:bT e=0
 k:du e.act=k
 t:e.tags.length≤100
structure G4(e:ab):Prop where
 tag:bF e.tag=0
 tags: ∀t∈e.tags,bF t=0
 at_:e.act=1∨e.act=5→d6 e.at_=0∧0<e.at_.time
 name:e.act=3∨e.act=5→gj e.name=true
 val:e.act=2→ -1073741824≤e.val∧e.val≤1073741824
theorem EV{a:Int}(h:a=1∨a=5):(da a).at_=true:=by rcases h with rfl|rfl<;>rfl
theorem EW{a:Int}(h:a=3∨a=5):(da a).name=true:=by rcases h with rfl|rfl<;>rfl
theorem ya{e:ab}(h:bT e=0):G4 e:=by
 unfold bT at h;split at h
 ·rename_i h0;split at h
  ·cases h
  rename_i h1;split at h
  ·cases h
  split at h
  ·cases h
  rename_i h2;have t1: ¬cW e.tag=true:=fun q=>h1 (.inl q);have t2: ¬(bL e.tags fun(t:ae)=>cW t)=true:=fun q=>h1 (.inr q);unfold eT at h0;split at h0
  ·cases h0
  split at h0
  ·cases h0
  rename_i o1;split at h0
  ·cases h0
  split at h0
  ·cases h0
  split at h0
  ·cases h0
  rename_i o4;refine⟨by unfold cW at t1;simpa using t1,fun t ht=>?_,fun ha=>?_,fun ha=>?_,fun ha=>?_⟩
  ·rw[ns]at t2;have:=t2;simp only[Bool.not_eq_true,List.any_eq_false]at this;have:=this t ht;unfold cW at this;simpa using this
  ·have hq:=EV ha;have hq2:gR e.at_=true:=Classical.byContradiction fun q=>h2 (.inl (.inl ⟨hq,q⟩));unfold gR at hq2;simpa using hq2
  ·exact Classical.byContradiction fun q=>o1 ⟨EW ha,q⟩
  ·have o4: ¬(e.act=2∧(e.val< -1073741824∨1073741824<e.val)):=o4;omega
 ·rename_i h0;exact absurd h h0
def OP(e:ab):bj:=⟨e.tag,e.name⟩
def OQ(e:ab):bl:=⟨e.tag,e.name,e.val,e.at_⟩
structure yb(k:Int)(s:aA)(L:List ab):Prop where
 kd:s.kind=k
 r:nv s.reg L
 p:s.num.plus=sP L
 m:s.num.minus=sM L
 st:gW (·.tag) OP 3 4 s.set.adds s.set.gone L
 mp:gW (·.tag) OQ 5 6 s.map.puts s.map.gone L
section
variable {k:Int} {s s':aA} {L L':List ab} {e:ab}
theorem yb.ext(h:yb k s L)(h':yb k s' L')(hp:L.Perm L'):s=s':=by
 have hm: ∀x,x∈L↔x∈L':=fun x=>hp.mem_iff;have e1:=h.st.ext h'.st hm;have e2:=h.mp.ext h'.mp hm;have e3:=h.r.ext h'.r hm;have e4:=h.p.trans ((Be hp).trans h'.p.symm);have e5:=h.m.trans ((Bf hp).trans h'.m.symm);have e6:=h.kd.trans h'.kd.symm;obtain⟨a1,a2,⟨a3,a4⟩,⟨a5,a6⟩,⟨a7,a8⟩⟩:=s;obtain⟨b1,b2,⟨b3,b4⟩,⟨b5,b6⟩,⟨b7,b8⟩⟩:=s';simp only at e1 e2 e3 e4 e5 e6;obtain⟨rfl,rfl⟩:=e1;obtain⟨rfl,rfl⟩:=e2;subst e3;subst e4;subst e5;subst e6;rfl
end
def zO(k:Int):aA:=⟨k,⟨0,⟨0,0⟩⟩,⟨0,0⟩,⟨[],[]⟩,⟨[],[]⟩⟩
theorem EX{k:Int}(h1:1≤k)(h2:k≤4):dO k=(zO k,0):=by
 unfold dO;rw[if_neg (by omega)];rfl
theorem yb.small{k:Int}{s:aA}{L:List ab}(h:yb k s L)(hl:L.length≤40):s.set.adds.length≤1000000∧s.set.gone.length≤1000000∧s.map.puts.length≤1000000∧s.map.gone.length≤1000000:=by
 have:=h.st.n;have:=h.st.g;have:=h.mp.n;have:=h.mp.g;omega
end Go.Proofs.YtiliglahlfkikaaGreatDoor.V
end

section
set_option linter.unusedVariables false
set_option linter.unusedSimpArgs false
set_option maxRecDepth 20000
set_option maxHeartbeats 4000000
namespace Go.Proofs.YtiliglahlfkikaaGreatDoor.V
open Go.RowKit
def kQ(c:Int):Bool:=
 decide (127<c)||!jY (c%256)
def OA:aZ U:=⟨[.d (.int .i32)],fun xs es K=> ∃(c:Int),xs= [⟨false,[(1,.d (.int .i32) c)]⟩]∧es= []∧K (.v (vb (kQ c))) []⟩
theorem OB:Fk 69 OA:=by
 refine fo Tryz.f69 [.d .bool] [] (aa NG aj) fun xs es K=>?_;rintro⟨c,rfl,rfl,h⟩;refine⟨rfl,?_⟩;have hf0:=kQ.eq_1 c;refine .inr ?_;refine⟨_,fun _=>⟨_,rfl,rfl,rfl,rfl⟩,rfl,?_⟩;exact e0
def jf(s:List UInt8):Nat→Int→(Int×Int)⊕(Int)
 |0,s14=> .inr s14
 |n1+1,s14=>
  if s14<((Lib.split s [(47:UInt8)]).length:Int)then
   if(ix (Lib.split s [(47:UInt8)]) s14= [])∨(0≤gH (ix (Lib.split s [(47:UInt8)]) s14) fun(t:Int)=>kQ t)then
    .inl (0,3)
   else
    jf s n1 (s14+1)
  else
   .inr s14
def eI(s:List UInt8):Int×Int:=
 if 24<(s.length:Int)then
  (0,8)
 else
  match jf s ((((Lib.split s [(47:UInt8)]).length:Int)- 0).toNat+1) 0 with
  | .inl r=>r
  | .inr s14=>
   if((ix (ix (Lib.split s [(47:UInt8)]) (((Lib.split s [(47:UInt8)]).length:Int)- 1)) 0).toNat:Int)=114 then
    (1,0)
   else
    if((ix (ix (Lib.split s [(47:UInt8)]) (((Lib.split s [(47:UInt8)]).length:Int)- 1)) 0).toNat:Int)=99 then
     (2,0)
    else
     if((ix (ix (Lib.split s [(47:UInt8)]) (((Lib.split s [(47:UInt8)]).length:Int)- 1)) 0).toNat:Int)=115 then
      (3,0)
     else
      if((ix (ix (Lib.split s [(47:UInt8)]) (((Lib.split s [(47:UInt8)]).length:Int)- 1)) 0).toNat:Int)=109 then
       (4,0)
      else
       (0,5)
def OC:aZ U:=⟨[.d .str],fun xs es K=> ∃(s:List UInt8),xs= [(vt s)]∧es= []∧(s.length≤1000000)∧K (.tup [(vi ((eI s).1)),(vi ((eI s).2))]) []⟩
theorem MN:Fk 31 OC:=by
 refine fo Tryz.f31 [.d (.int .i64),.d (.int .i64)] [] (aa OV (aa OX (aa OB aj))) fun xs es K=>?_;rintro⟨s,rfl,rfl,h1,h⟩;refine⟨rfl,?_⟩;have hf0:=eI.eq_1 s;refine fl (x:=s.length) fun _=>?_;refine wI hf0 (fun h1 hf0=>e0) fun h1 hf0=>?_;refine⟨_,_,rfl,rfl,(by omega),(by(simp only[List.length_append,List.length_cons,List.length_nil];omega)),?_⟩;refine fl (x:=(Lib.split s [(47:UInt8)]).length) fun _=>?_;refine lI 0 (fun(s14:Int)=> [(2,.v (vi 0)),(3,.v (vi 0)),(4,.v (F3 (Lib.split s [(47:UInt8)]))),(12,.v (F3 (Lib.split s [(47:UInt8)]))),(13,.v (vi ((Lib.split s [(47:UInt8)]).length:Int))),(14,.v (vi s14))]) (fun(s14:Int)=> []) (fun(s14:Int)=>(((Lib.split s [(47:UInt8)]).length:Int)- s14).toNat) (fun(s14:Int)=>(0≤s14)∧(s14≤((Lib.split s [(47:UInt8)]).length:Int))∧(∀j:Int,0≤j→j<s14→ix (Lib.split s [(47:UInt8)]) j≠ [])∧True) (fun n1 (s14:Int)=>jf s n1 s14) (jf s ((((Lib.split s [(47:UInt8)]).length:Int)- 0).toNat+1) 0) [] (0:Int) ?_ (hi:=⟨show(0:Int)≤(0:Int)from by omega,show(0:Int)≤(↑(Lib.split s [(47:UInt8)]).length:Int)from by omega,show ∀(j:Int),(0:Int)≤j→j<(0:Int)→ix (Lib.split s [(47:UInt8)]) j≠ []from by omega,trivial⟩);rintro s14 ⟨n1,hc1,⟨hi1_0,hi1_1,hi1_2,-⟩,hf1⟩;have hf1:=hf1.trans (jf.eq_2 s s14 n1);refine wI hf1 (fun _ hf1=>?_) fun _ hf1=>?_
 ·refine vx s14 (Lib.split s [(47:UInt8)]) ?_;refine⟨_,fun _=>⟨fun(t:Int)=>kQ t,fun t0=>⟨_,rfl,rfl,rfl,rfl⟩,_,_,rfl,rfl,rfl,rfl⟩,rfl,?_⟩;refine wI hf1 (fun _ hf1=>e1) fun _ hf1=>?_;refine dJ ?_;exact nx [] (s14+1) hc1 hf1 (hi:=⟨show(0:Int)≤s14+(1:Int)from by omega,show s14+(1:Int)≤(↑(Lib.split s [(47:UInt8)]).length:Int)from by omega,show ∀(j:Int),(0:Int)≤j→j<s14+(1:Int)→ix (Lib.split s [(47:UInt8)]) j≠ []from by(intro j hj1 hj2;rcases(show j<s14∨j=s14 by omega)with hh|rfl;(· exact hi1_2 j hj1 hh);(· intro he;simp_all)),trivial⟩)
 ·rw[hf1]at hf0;refine fl (x:=(Lib.split s [(47:UInt8)]).length) fun _=>?_;refine dJ ?_;refine vs (P:=0≤((Lib.split s [(47:UInt8)]).length:Int)- 1∧((Lib.split s [(47:UInt8)]).length:Int)- 1<((Lib.split s [(47:UInt8)]).length:Int)) ?_ (by(have hp:=jV (s:=s) (sep:= [(47:UInt8)]) (by decide);omega));refine vs (P:=(0:Int)≤(0:Int)∧(0:Int)<((ix (Lib.split s [(47:UInt8)]) (((Lib.split s [(47:UInt8)]).length:Int)-(1:Int))).length:Int)) ?_ (by(have hp:=jV (s:=s) (sep:= [(47:UInt8)]) (by decide);have hq:=hi1_2 ((↑(Lib.split s [(47:UInt8)]).length:Int)- 1) (by omega) (by omega);have:=List.length_pos_iff.2 hq;omega));exact wI hf0 (fun _ hf0=>e0) fun _ hf0=>wI hf0 (fun _ hf0=>e0) fun _ hf0=>wI hf0 (fun _ hf0=>e0) fun _ hf0=>wI hf0 (fun _ hf0=>e0) fun _ hf0=>e0
end Go.Proofs.YtiliglahlfkikaaGreatDoor.V
end

section
set_option linter.unusedVariables false
set_option linter.unusedSimpArgs false
set_option maxRecDepth 20000
set_option maxHeartbeats 4000000
namespace Go.Proofs.YtiliglahlfkikaaGreatDoor.V
open Go.RowKit
theorem b9{α β:Type} [DecidableEq α]: ∀(m:List (α×β)) (x:α) (v:β),(dW m x v).length≤m.length+1
 | [],x,v=>by simp[dW]
 |(k,y)::m,x,v=>by
  unfold dW;split
  ·simp
  ·have:=b9 m x v;simp;omega
def aR{α β:Type}(m:List (α×β)):Prop:=(m.map (·.1)).Nodup
theorem oI{α β:Type} [DecidableEq α]: ∀(m:List (α×β)) (k:α) (v:β),(dW m k v).map (·.1)=if k∈m.map (·.1)then m.map (·.1)else m.map (·.1)++ [k]
 | [],k,v=>by simp[dW]
 |e::r,k,v=>by
  unfold dW;split
  ·rename_i h;rw[if_pos (by simp[h])];simp[h]
  ·rename_i h;rw[List.map_cons,oI r k v,List.map_cons];by_cases q:k∈r.map (·.1)
   ·rw[if_pos q,if_pos (by simp[q])]
   ·rw[if_neg q,if_neg (by rw[List.mem_cons];rintro(g|g);exact h g.symm;exact q g)];rfl
theorem gp{α β:Type} [DecidableEq α]{m:List (α×β)}(h:aR m)(k:α)(v:β):aR (dW m k v):=by
 unfold aR at*;rw[oI];split
 ·exact h
 ·rename_i q;rw[List.nodup_append];refine⟨h,by simp,fun a ha b hb e=>?_⟩;simp at hb;subst hb;subst e;exact q ha
theorem lM{α β:Type}{m:List (α×β)}(h:aR m)(p:α×β→Bool):aR (m.filter p):=List.Nodup.sublist (List.filter_sublist.map _) h
def AX(s:aA)(b:List Int)(ap:List (ae×ab))(sn:List (ae×Bool)):Unit:=
 ()
def Om:aZ U:=⟨[.p [(10,some (.st 10)),(8,some (.arr 8 (.int .u32))),(1,none),(1,none)]],fun xs es K=> ∃(s:aA) (b:List Int) (ap:List (ae×ab)) (sn:List (ae×Bool)),xs= [(vp 0)]∧es= [.cells [(10,.d (.st 10) s),(8,.d (.arr 8 (.int .u32)) b),(1,.mp 1),(1,.mp 2)] 109,.map bn ap,.map bP sn]∧K (.v (ia b)) [.cells [(10,.d (.st 10) s),(8,.d (.arr 8 (.int .u32)) b),(1,.mp 1),(1,.mp 2)] 109,.map bn ap,.map bP sn]⟩
theorem AY:Fk 20 Om:=by
 refine fo Tryz.f20 [.d (.arr 8 (.int .u32))] [(0,[(10,some (.st 10)),(8,some (.arr 8 (.int .u32))),(1,none),(1,none)])] (aj) fun xs es K=>?_;rintro⟨s,b,ap,sn,rfl,rfl,h⟩;refine⟨rfl,?_⟩;have hf0:=AX.eq_1 s b ap sn;exact h
def sT(s:aA)(b:List Int)(ap:List (ae×ab))(sn:List (ae×Bool)):Int:=
 (ap.length:Int)
def On:aZ U:=⟨[.p [(10,some (.st 10)),(8,some (.arr 8 (.int .u32))),(1,none),(1,none)]],fun xs es K=> ∃(s:aA) (b:List Int) (ap:List (ae×ab)) (sn:List (ae×Bool)),xs= [(vp 0)]∧es= [.cells [(10,.d (.st 10) s),(8,.d (.arr 8 (.int .u32)) b),(1,.mp 1),(1,.mp 2)] 109,.map bn ap,.map bP sn]∧(ap.length≤1000000)∧K (.v (vi (sT s b ap sn))) [.cells [(10,.d (.st 10) s),(8,.d (.arr 8 (.int .u32)) b),(1,.mp 1),(1,.mp 2)] 109,.map bn ap,.map bP sn]⟩
theorem AZ:Fk 21 On:=by
 refine fo Tryz.f21 [.d (.int .i64)] [(0,[(10,some (.st 10)),(8,some (.arr 8 (.int .u32))),(1,none),(1,none)])] (aj) fun xs es K=>?_;rintro⟨s,b,ap,sn,rfl,rfl,h1,h⟩;refine⟨rfl,?_⟩;have hf0:=sT.eq_1 s b ap sn;refine vs (P:=(ap.length:Int)≤9223372036854775807) ?_;refine fl (x:=ap.length) fun _=>?_;exact e0
def sU(s:aA)(b:List Int)(ap:List (ae×ab))(sn:List (ae×Bool))(t:ae):Bool:=
 (cF sn t).getD bP.zero
def Oo:aZ U:=⟨[.p [(10,some (.st 10)),(8,some (.arr 8 (.int .u32))),(1,none),(1,none)],.d (.st 1)],fun xs es K=> ∃(s:aA) (b:List Int) (ap:List (ae×ab)) (sn:List (ae×Bool)) (t:ae),xs= [(vp 0),(tB t)]∧es= [.cells [(10,.d (.st 10) s),(8,.d (.arr 8 (.int .u32)) b),(1,.mp 1),(1,.mp 2)] 109,.map bn ap,.map bP sn]∧K (.v (vb (sU s b ap sn t))) [.cells [(10,.d (.st 10) s),(8,.d (.arr 8 (.int .u32)) b),(1,.mp 1),(1,.mp 2)] 109,.map bn ap,.map bP sn]⟩
theorem KX:Fk 22 Oo:=by
 refine fo Tryz.f22 [.d .bool] [(0,[(10,some (.st 10)),(8,some (.arr 8 (.int .u32))),(1,none),(1,none)])] (aj) fun xs es K=>?_;rintro⟨s,b,ap,sn,t,rfl,rfl,h⟩;refine⟨rfl,?_⟩;have hf0:=sU.eq_1 s b ap sn t;refine dp (up 7) none (nw 4) ?_;exact e0
def iq(key:List UInt8):Int⊕(Int×aA×(List Int)×(List (ae×ab))×(List (ae×Bool))):=
 if(eI key).snd=0 then
  (.inr ((dO (eI key).fst).snd,(dO (eI key).fst).fst,[0,0,0,0,0,0,0,0],[],[]))
 else
  (.inl (eI key).snd)
def c6:aZ U:=⟨[.d .str],fun xs es K=> ∃(key:List UInt8),xs= [(vt key)]∧es= []∧(key.length≤1000000)∧V2 (∀r0,iq key= .inl r0→(¬r0=0)→K (.tup [⟨false,[(1,Cx.nilp)]⟩,(vi r0)]) []) (∀r0 r1 r2 r3 r4,iq key= .inr (r0,r1,r2,r3,r4)→(r1.set.adds.length≤4097∧r1.set.gone.length≤4097∧r1.map.puts.length≤4097∧r1.map.gone.length≤4097∧r3.length≤0∧r4.length≤0∧aR r3)→K (.tup [(vp 0),(vi r0)]) [.cells [(10,.d (.st 10) r1),(8,.d (.arr 8 (.int .u32)) r2),(1,.mp 1),(1,.mp 2)] 109,.map bn r3,.map bP r4])⟩
theorem k6:Fk 6 c6:=by
 refine fo Tryz.f6 [.p [(10,some (.st 10)),(8,some (.arr 8 (.int .u32))),(1,none),(1,none)],.d (.int .i64)] [] (aa MN (aa KA aj)) fun xs es K=>?_;rintro⟨key,rfl,rfl,h1,h⟩;refine⟨rfl,?_⟩;have hf0:=iq.eq_1 key;refine⟨_,rfl,rfl,(by omega),?_⟩;refine vN hf0 iD (fun _ hf0=>?_) (fun _ hf0=>?_)
 ·exact h.1 _ hf0 (show((fun(r0:Int)=> ¬r0=0) ((eI key).snd):Prop)from by omega)
 ·refine⟨_,rfl,rfl,?_⟩;exact h.2 _ _ _ _ _ hf0 (show((fun(r0:Int) (r1:aA) (r2:List Int) (r3:List (ae×ab)) (r4:List (ae×Bool))=>r1.set.adds.length≤4097∧r1.set.gone.length≤4097∧r1.map.puts.length≤4097∧r1.map.gone.length≤4097∧r3.length≤0∧r4.length≤0∧aR r3) ((dO (eI key).fst).snd) ((dO (eI key).fst).fst) ([(0:Int),(0:Int),(0:Int),(0:Int),(0:Int),(0:Int),(0:Int),(0:Int)]) [] []:Prop)from by(refine⟨?_,?_,?_,?_,by simp,by simp,List.nodup_nil⟩<;>(unfold dO;split<;>simp)))
def uy(s:aA)(b:List Int)(ap:List (ae×ab))(sn:List (ae×Bool)):aA:=
 fM s
def Oq:aZ U:=⟨[.p [(10,some (.st 10)),(8,some (.arr 8 (.int .u32))),(1,none),(1,none)]],fun xs es K=> ∃(s:aA) (b:List Int) (ap:List (ae×ab)) (sn:List (ae×Bool)),xs= [(vp 0)]∧es= [.cells [(10,.d (.st 10) s),(8,.d (.arr 8 (.int .u32)) b),(1,.mp 1),(1,.mp 2)] 109,.map bn ap,.map bP sn]∧(s.set.adds.length≤4097)∧(s.set.gone.length≤4097)∧(s.map.puts.length≤4097)∧(s.map.gone.length≤4097)∧(ap.length≤100000)∧(sn.length≤100000)∧K (.v (vp 3)) [.cells [(10,.d (.st 10) s),(8,.d (.arr 8 (.int .u32)) b),(1,.mp 1),(1,.mp 2)] 109,.map bn ap,.map bP sn,.cells [(10,.d (.st 10) (uy s b ap sn)),(8,.d (.arr 8 (.int .u32)) b),(1,.mp 4),(1,.mp 5)] 109,.map bn ap,.map bP sn]⟩
theorem zl:Fk 19 Oq:=by
 refine fo Tryz.f19 [.p [(10,some (.st 10)),(8,some (.arr 8 (.int .u32))),(1,none),(1,none)]] [(0,[(10,some (.st 10)),(8,some (.arr 8 (.int .u32))),(1,none),(1,none)])] (aa MJ (aa OZ (aa O1 aj))) fun xs es K=>?_;rintro⟨s,b,ap,sn,rfl,rfl,h1,h2,h3,h4,h5,h6,h⟩;refine⟨rfl,?_⟩;have hf0:=uy.eq_1 s b ap sn;refine dp [(true,0),(true,1),(true,2),(true,3),(true,5),(true,6),(true,7),(true,8),(true,9),(true,10),(true,11),(true,12),(true,14),(true,15),(true,16),(true,17),(false,4),(false,13),(false,18),(true,19),(false,20),(true,21)] none (1::2::nw 3) ?_;refine⟨_,rfl,rfl,(by omega),(by omega),(by omega),(by omega),?_⟩;refine⟨_,rfl,rfl,?_⟩;refine⟨_,rfl,rfl,?_⟩;exact e0
def A3(ap:List (ae×ab)):Unit:=
 ()
def KY:aZ U:=⟨[.n],fun xs es K=> ∃(ap:List (ae×ab)),xs= [⟨false,[(1,.mp 0)]⟩]∧es= [.map bn ap]∧K (.v ⟨false,[(1,Cx.clo (162:Nat) [(0:Nat)+(1:Nat)])]⟩) [.map bn ap,.cells [(1,.mp 0)] 106]⟩
theorem KZ:Fk 102 KY:=by
 refine fo Tryz.f102 [.n] [] (aj) fun xs es K=>?_;rintro⟨ap,rfl,rfl,h⟩;refine⟨rfl,?_⟩;have hf0:=A3.eq_1 ap;exact h
def br(s:aA)(b:List Int)(ap:List (ae×ab))(sn:List (ae×Bool))(e:ab):Int×aA×(List (ae×ab))×(List (ae×Bool)):=
 if bT e=0 then
  if du e.act=s.kind then
   if(cF sn e.tag).getD bP.zero=true then
    (11,s,ap,sn)
   else
    if(sn.length:Int)=4096 then
     (4,s,ap,sn)
    else
     if cQ b e.tag.id=true then
      if(aQ s e).snd=0 then
       (0,(aQ s e).fst,ap,dW sn e.tag true)
      else
       ((aQ s e).snd,s,ap,sn)
     else
      (0,s,dW ap e.tag (fL e),dW sn e.tag true)
  else
   (5,s,ap,sn)
 else
  (bT e,s,ap,sn)
def c9:aZ U:=⟨[.p [(10,some (.st 10)),(8,some (.arr 8 (.int .u32))),(1,none),(1,none)],.d (.st 3)],fun xs es K=> ∃(s:aA) (b:List Int) (ap:List (ae×ab)) (sn:List (ae×Bool)) (e:ab),xs= [(vp 0),(Dx e)]∧es= [.cells [(10,.d (.st 10) s),(8,.d (.arr 8 (.int .u32)) b),(1,.mp 1),(1,.mp 2)] 109,.map bn ap,.map bP sn]∧(s.set.adds.length≤4097)∧(s.set.gone.length≤4097)∧(s.map.puts.length≤4097)∧(s.map.gone.length≤4097)∧(ap.length≤100000)∧(sn.length≤100000)∧(aR ap)∧((fun(r0:Int) (r1:aA) (r3:List (ae×ab)) (r4:List (ae×Bool))=>r1.set.adds.length≤4097∧r1.set.gone.length≤4097∧r1.map.puts.length≤4097∧r1.map.gone.length≤4097∧r3.length≤ap.length+1∧r4.length≤sn.length+1∧aR r3) ((br s b ap sn e).1) ((br s b ap sn e).2.1) ((br s b ap sn e).2.2.1) ((br s b ap sn e).2.2.2)→K (.v (vi ((br s b ap sn e).1))) [.cells [(10,.d (.st 10) ((br s b ap sn e).2.1)),(8,.d (.arr 8 (.int .u32)) b),(1,.mp 1),(1,.mp 2)] 109,.map bn ((br s b ap sn e).2.2.1),.map bP ((br s b ap sn e).2.2.2)])⟩
theorem k9:Fk 9 c9:=by
 refine fo Tryz.f9 [.d (.int .i64)] [(0,[(10,some (.st 10)),(8,some (.arr 8 (.int .u32))),(1,none),(1,none)])] (aa MH (aa Kz (aa GW (aa ML (aa Og aj))))) fun xs es K=>?_;rintro⟨s,b,ap,sn,e,rfl,rfl,h1,h2,h3,h4,h5,h6,h8,h⟩;refine⟨rfl,?_⟩;have hf0:=br.eq_1 s b ap sn e;refine⟨_,rfl,rfl,?_⟩;refine fun _=>?_;refine wN hf0 (fun h1 hf0=>?_) fun h1 hf0=>?_
 ·rw[hf0]at h;exact h (by(have hm:=b9 sn e.tag true;have hn:=b9 ap e.tag (fL e);dsimp only;refine⟨?_,?_,?_,?_,?_,?_,?_⟩<;>first|omega|assumption|exact gp (by assumption) _ _))
 ·refine dp [(true,0),(true,1),(true,3),(true,4),(true,5),(true,6),(true,7),(false,2),(true,8),(true,9)] none (nw 4) ?_;refine⟨_,rfl,rfl,?_⟩;refine wN hf0 (fun h2 hf0=>?_) fun h2 hf0=>?_
  ·rw[hf0]at h;exact h (by(have hm:=b9 sn e.tag true;have hn:=b9 ap e.tag (fL e);dsimp only;refine⟨?_,?_,?_,?_,?_,?_,?_⟩<;>first|omega|assumption|exact gp (by assumption) _ _))
  ·refine dp (up 8) none (nw 4) ?_;refine wI hf0 (fun h3 hf0=>?_) fun h3 hf0=>?_
   ·rw[hf0]at h;exact h (by(have hm:=b9 sn e.tag true;have hn:=b9 ap e.tag (fL e);dsimp only;refine⟨?_,?_,?_,?_,?_,?_,?_⟩<;>first|omega|assumption|exact gp (by assumption) _ _))
   ·refine vs (P:=(sn.length:Int)≤9223372036854775807) ?_;refine fl (x:=sn.length) fun h4=>?_;refine wI hf0 (fun h5 hf0=>?_) fun h5 hf0=>?_
    ·rw[hf0]at h;exact h (by(have hm:=b9 sn e.tag true;have hn:=b9 ap e.tag (fL e);dsimp only;refine⟨?_,?_,?_,?_,?_,?_,?_⟩<;>first|omega|assumption|exact gp (by assumption) _ _))
    ·refine dp (up 7) (some 7) (nw 4) ?_;refine⟨_,_,rfl,rfl,?_⟩;refine wI hf0 (fun h6 hf0=>?_) fun h6 hf0=>?_
     ·refine .inr ⟨(.look 0 (.look 1 (.look 2 (.look 3 (.look 4 (.turn 5 (.look 6 (.look 7 (.look 8 (.turn 9 (.turn 10 .fin .nil) .nil)))) (.turn 9 (.turn 5 (.look 6 (.look 7 (.look 8 (.turn 10 .fin .nil)))) .nil) .nil))))))),some 11,[],5,[(0,.v ⟨false,[(1,.ptr 0 0)]⟩),(3,.v ⟨false,[(1,.ptr 3 0)]⟩),(4,.v ⟨false,[(1,.d (.int .i64) (0:Int))]⟩),(6,.v ⟨false,[(1,.ptr 4 0)]⟩),(7,.v ⟨false,[(1,.d (.int .i64) ((aQ s e).snd))]⟩)],[(0,.cells [(10,.d (.st 10) s),(8,.d (.arr 8 (.int .u32)) b),(1,.mp 1),(1,.mp 2)] 109),(1,.map bn ap),(2,.map bP sn),(3,.cells [(9,.d (.st 3) e)] 47),(4,.cells [(10,.d (.st 10) ((aQ s e).fst))] 61)],((aQ s e).fst.set.adds.length≤(4097:Nat)∧(aQ s e).fst.set.gone.length≤(4097:Nat)∧(aQ s e).fst.map.puts.length≤(4097:Nat)∧(aQ s e).fst.map.gone.length≤(4097:Nat))∧True,by kernel_rfl,?_,?_⟩
      ·refine And.intro ?_ ?_
       ·refine⟨_,_,rfl,rfl,(by omega),(by omega),(by omega),(by omega),?_⟩;refine fun _=>?_;refine And.intro ?_ trivial;refine And.intro ?_ trivial;refine⟨⟨by assumption,trivial⟩,[],?_⟩;repeat (first|exact trivial|refine And.intro rfl ?_)
       refine And.intro ?_ trivial;refine And.intro ?_ trivial;refine⟨_,_,rfl,rfl,(by omega),(by omega),(by omega),(by omega),?_⟩;refine fun h8=>?_;refine And.intro ?_ trivial;refine⟨⟨by assumption,trivial⟩,[],?_⟩;repeat (first|exact trivial|refine And.intro rfl ?_)
      rintro⟨h9,-⟩;refine wN hf0 (fun _ hf0=>?_) fun _ hf0=>?_
      ·rw[hf0]at h;exact h (by(have hm:=b9 sn e.tag true;have hn:=b9 ap e.tag (fL e);dsimp only;refine⟨?_,?_,?_,?_,?_,?_,?_⟩<;>first|omega|assumption|exact gp (by assumption) _ _))
      ·refine dp (up 6) (some 6) (nw 5) ?_;rw[hf0]at h;exact h (by(have hm:=b9 sn e.tag true;have hn:=b9 ap e.tag (fL e);dsimp only;refine⟨?_,?_,?_,?_,?_,?_,?_⟩<;>first|omega|assumption|exact gp (by assumption) _ _))
     ·refine dp [(true,0),(true,1),(true,2),(true,3),(true,4),(true,5),(true,6),(false,7)] (some 8) (nw 4) ?_;refine⟨_,rfl,rfl,(by omega),?_⟩;refine dp (up 6) (some 6) (nw 5) ?_;rw[hf0]at h;exact h (by(have hm:=b9 sn e.tag true;have hn:=b9 ap e.tag (fL e);dsimp only;refine⟨?_,?_,?_,?_,?_,?_,?_⟩<;>first|omega|assumption|exact gp (by assumption) _ _))
def Ou:aZ U:=⟨[.p [(10,some (.st 10)),(8,some (.arr 8 (.int .u32))),(1,none),(1,none)],.d (.st 3)],fun xs es K=> ∃(s:aA) (b:List Int) (ap:List (ae×ab)) (sn:List (ae×Bool)) (e:ab),xs= [⟨false,[(1,.ptr 0 0)]⟩,⟨true,[(9,.d (.st 3) e)]⟩]∧es= [.cells [(10,.d (.st 10) s),(8,.d (.arr 8 (.int .u32)) b),(1,.mp 1),(1,.mp 2)] 109,.map bn ap,.map bP sn]∧(s.set.adds.length≤4097)∧(s.set.gone.length≤4097)∧(s.map.puts.length≤4097)∧(s.map.gone.length≤4097)∧(ap.length≤100000)∧(sn.length≤100000)∧(aR ap)∧(∀r0 r1 r3 r4,br s b ap sn e=(r0,r1,r3,r4)→(r1.set.adds.length≤4097∧r1.set.gone.length≤4097∧r1.map.puts.length≤4097∧r1.map.gone.length≤4097∧r3.length≤ap.length+1∧r4.length≤sn.length+1∧aR r3)→K (.v ⟨false,[(1,.d (.int .i64) r0)]⟩) [.cells [(10,.d (.st 10) r1),(8,.d (.arr 8 (.int .u32)) b),(1,.mp 1),(1,.mp 2)] 109,.map bn r3,.map bP r4])⟩
theorem MM:bR Tryz.prog U 9 Ou:=bR.mono k9 fun xs es K=>by
 rintro⟨s,b,ap,sn,e,rfl,rfl,h1,h2,h3,h4,h5,h6,h8,h⟩;exact⟨s,b,ap,sn,e,rfl,rfl,h1,h2,h3,h4,h5,h6,h8,h _ _ _ _ rfl⟩
def cl(s:aA)(b:List Int)(ap:List (ae×ab))(sn:List (ae×Bool))(v:List Int):Nat→Int→(List ab)→(List ab)⊕(Int×(List ab))
 |0,s15,s5=> .inr (s15,s5)
 |n1+1,s15,s5=>
  if s15<((be (fun(t t':ae)=>af t t') (List.map (fun(x:ae×ab)=>x.fst) ap)).length:Int)then
   if(cQ v (ix (be (fun(t t':ae)=>af t t') (List.map (fun(x:ae×ab)=>x.fst) ap)) s15).id)=true then
    cl s b ap sn v n1 (s15+1) (s5++ [(cF ap (ix (be (fun(t t':ae)=>af t t') (List.map (fun(x:ae×ab)=>x.fst) ap)) s15)).getD bn.zero])
   else
    cl s b ap sn v n1 (s15+1) s5
  else
   .inr (s15,s5)
def ay(s:aA)(b:List Int)(ap:List (ae×ab))(sn:List (ae×Bool))(v:List Int):List ab:=
 match cl s b ap sn v ((((be (fun(t t':ae)=>af t t') (List.map (fun(x:ae×ab)=>x.fst) ap)).length:Int)- 0).toNat+1) 0 ([]:List ab)with
 | .inl r=>r
 | .inr (s15,s5)=>
  s5
def Ov:aZ U:=⟨[.p [(10,some (.st 10)),(8,some (.arr 8 (.int .u32))),(1,none),(1,none)],.d (.arr 8 (.int .u32))],fun xs es K=> ∃(s:aA) (b:List Int) (ap:List (ae×ab)) (sn:List (ae×Bool)) (v:List Int),xs= [(vp 0),(ia v)]∧es= [.cells [(10,.d (.st 10) s),(8,.d (.arr 8 (.int .u32)) b),(1,.mp 1),(1,.mp 2)] 109,.map bn ap,.map bP sn]∧(ap.length≤100000)∧((fun(r0:List ab)=>r0.length≤100000) (ay s b ap sn v)→K (.v (Cq (ay s b ap sn v))) [.cells [(10,.d (.st 10) s),(8,.d (.arr 8 (.int .u32)) b),(1,.mp 1),(1,.mp 2)] 109,.map bn ap,.map bP sn])⟩
theorem Ox:Fk 46 Ov:=by
 refine fo Tryz.f46 [.d (.sl (.st 3))] [(0,[(10,some (.st 10)),(8,some (.arr 8 (.int .u32))),(1,none),(1,none)])] (aa GW (aa xP (aa LO (aa KZ aj)))) fun xs es K=>?_;rintro⟨s,b,ap,sn,v,rfl,rfl,h1,h⟩;refine⟨rfl,?_⟩;have hf0:=ay.eq_1 s b ap sn v;refine⟨_,rfl,rfl,?_⟩;refine⟨fun(t t':ae)=>af t t',fun t0 t1=>⟨_,_,rfl,rfl,rfl,rfl⟩,?_⟩;refine⟨_,_,rfl,rfl,(show ap.length≤(1000000:Nat)from by omega),(ip _),?_⟩;refine fl (x:=(be (fun(t t':ae)=>af t t') (List.map (fun(x:ae×ab)=>x.fst) ap)).length) fun _=>?_;refine lI (σ:=Int×(List ab)) 7 (fun(s15,s5)=> [(0,.v (vp 0)),(3,.v (vp 3)),(4,.v ⟨false,[(1,.nils)]⟩),(5,.v (vo 6)),(13,.v (vo 5)),(14,.v (vi (((be (fun(t t':ae)=>af t t') (List.map (fun(x:ae×ab)=>x.fst) ap)).length:Int)))),(15,.v (vi s15))]) (fun(s15,s5)=> [(0,.cells [(10,.d (.st 10) s),(8,.d (.arr 8 (.int .u32)) b),(1,.mp 1),(1,.mp 2)] 109),(1,.map bn ap),(2,.map bP sn),(3,.cells [(8,.d (.arr 8 (.int .u32)) v)] 41),(5,.row 0 (.st 1) (be (fun(t t':ae)=>af t t') (List.map (fun(x:ae×ab)=>x.fst) ap)) 34),(6,.row 0 (.st 3) s5 47)]) (fun(s15,s5)=>(((be (fun(t t':ae)=>af t t') (List.map (fun(x:ae×ab)=>x.fst) ap)).length:Int)- s15).toNat) (fun(s15,s5)=>(0≤s15)∧(s15≤((be (fun(t t':ae)=>af t t') (List.map (fun(x:ae×ab)=>x.fst) ap)).length:Int))∧((s5.length:Int)≤s15)∧True) (fun n1 (s15,s5)=>cl s b ap sn v n1 s15 s5) (cl s b ap sn v ((((be (fun(t t':ae)=>af t t') (List.map (fun(x:ae×ab)=>x.fst) ap)).length:Int)- 0).toNat+1) 0 ([]:List ab)) [] ((0:Int),([]:List ab)) ?_;rintro⟨s15,s5⟩ ⟨n1,hc1,⟨hi1_0,hi1_1,hi1_2,-⟩,hf1⟩;have hf1:=hf1.trans (cl.eq_2 s b ap sn v s15 s5 n1);refine wI hf1 (fun h1 hf1=>?_) fun h1 hf1=>?_
 ·refine vx s15 (be (fun(t t':ae)=>af t t') (List.map (fun(x:ae×ab)=>x.fst) ap)) ?_;refine⟨_,_,rfl,rfl,?_⟩;refine wI hf1 (fun _ hf1=>?_) fun _ hf1=>?_
  ·refine dp [(true,0),(true,1),(true,2),(true,3),(true,4),(true,5),(true,6),(false,7),(false,8),(true,9)] none (6::nw 8) ?_;refine vs (P:=(s5.length+ [(cF ap (ix (be (fun(t t':ae)=>af t t') (List.map (fun(x:ae×ab)=>x.fst) ap)) s15)).getD bn.zero].length)*(96:Nat)≤(140737488355328:Nat)) ?_ (by(have hl:=db (fun(t t':ae)=>af t t') (List.map (fun(x:ae×ab)=>x.fst) ap);rw[List.length_map]at hl;simp only[List.length_append,List.length_cons,List.length_nil];omega));refine dJ ?_;exact nx (s:=(s15,s5)) [] (s15+1,s5++ [(cF ap (ix (be (fun(t t':ae)=>af t t') (List.map (fun(x:ae×ab)=>x.fst) ap)) s15)).getD bn.zero]) hc1 hf1
  ·refine dJ ?_;exact nx (s:=(s15,s5)) [] (s15+1,s5) hc1 hf1
 ·rw[hf1]at hf0;rw[hf0]at h;exact h (by(have hl:=db (fun(t t':ae)=>af t t') (List.map (fun(x:ae×ab)=>x.fst) ap);rw[List.length_map]at hl;simp only[List.length_append,List.length_cons,List.length_nil];omega))
def fO(s:aA)(b:List Int)(ap:List (ae×ab))(sn:List (ae×Bool))(v:List Int)(more:List ab):Nat→Int→aA→(aA×Int)⊕(Int×aA)
 |0,s39,s9_0=> .inr (s39,s9_0)
 |n1+1,s39,s9_0=>
  if s39<((ay s b ap sn v++more).length:Int)then
   if(aQ s9_0 (ix (ay s b ap sn v++more) s39)).snd=0 then
    fO s b ap sn v more n1 (s39+1) ((aQ s9_0 (ix (ay s b ap sn v++more) s39)).fst)
   else
    .inl ((aA.mk 0 (bK.mk 0 (az.mk 0 0)) (cg.mk 0 0) (aX.mk [] []) (bc.mk [] []),(aQ s9_0 (ix (ay s b ap sn v++more) s39)).snd))
  else
   .inr (s39,s9_0)
def bu(s:aA)(b:List Int)(ap:List (ae×ab))(sn:List (ae×Bool))(v:List Int)(more:List ab):aA×Int:=
 if fH v=0 then
  if uw b v=true then
   match fO s b ap sn v more ((((ay s b ap sn v++more).length:Int)- 0).toNat+1) 0 s with
   | .inl r=>r
   | .inr (s39,s9_0)=>
    (fM s9_0,0)
  else
   (aA.mk 0 (bK.mk 0 (az.mk 0 0)) (cg.mk 0 0) (aX.mk [] []) (bc.mk [] []),17)
 else
  (aA.mk 0 (bK.mk 0 (az.mk 0 0)) (cg.mk 0 0) (aX.mk [] []) (bc.mk [] []),fH v)
def Oy:aZ U:=⟨[.p [(10,some (.st 10)),(8,some (.arr 8 (.int .u32))),(1,none),(1,none)],.d (.arr 8 (.int .u32)),.d (.sl (.st 3))],fun xs es K=> ∃(s:aA) (b:List Int) (ap:List (ae×ab)) (sn:List (ae×Bool)) (v:List Int) (more:List ab),xs= [(vp 0),(ia v),(Cq more)]∧es= [.cells [(10,.d (.st 10) s),(8,.d (.arr 8 (.int .u32)) b),(1,.mp 1),(1,.mp 2)] 109,.map bn ap,.map bP sn]∧(s.set.adds.length≤4097)∧(s.set.gone.length≤4097)∧(s.map.puts.length≤4097)∧(s.map.gone.length≤4097)∧(ap.length≤100000)∧(sn.length≤100000)∧(more.length≤100000)∧((fun(r0:aA) (r1:Int)=>r0.set.adds.length≤4097∧r0.set.gone.length≤4097∧r0.map.puts.length≤4097∧r0.map.gone.length≤4097) ((bu s b ap sn v more).1) ((bu s b ap sn v more).2)→K (.tup [(jG ((bu s b ap sn v more).1)),(vi ((bu s b ap sn v more).2))]) [.cells [(10,.d (.st 10) s),(8,.d (.arr 8 (.int .u32)) b),(1,.mp 1),(1,.mp 2)] 109,.map bn ap,.map bP sn])⟩
theorem vB:Fk 12 Oy:=by
 refine fo Tryz.f12 [.d (.st 10),.d (.int .i64)] [(0,[(10,some (.st 10)),(8,some (.arr 8 (.int .u32))),(1,none),(1,none)])] (aa ML (aa Nq (aa Nu (aa OT (aa Ox (aa MJ aj)))))) fun xs es K=>?_;rintro⟨s,b,ap,sn,v,more,rfl,rfl,h1,h2,h3,h4,h5,h6,h7,h⟩;refine⟨rfl,?_⟩;have hf0:=bu.eq_1 s b ap sn v more;refine⟨_,rfl,rfl,?_⟩;refine vN hf0 iD (fun _ hf0=>?_) (fun _ hf0=>?_)
 ·rw[hf0]at h;exact h (show((fun(r0:aA) (r1:Int)=>r0.set.adds.length≤4097∧r0.set.gone.length≤4097∧r0.map.puts.length≤4097∧r0.map.gone.length≤4097) (aA.mk (0:Int) (bK.mk (0:Int) (az.mk (0:Int) (0:Int))) (cg.mk (0:Int) (0:Int)) (aX.mk [] []) (bc.mk [] [])) (fH v):Prop)from by simp)
 ·refine .inl ⟨[(true,0),(true,1),(true,2),(true,3),(true,4),(false,5),(true,6)],none,[5,6,7,8,9,10,11,12,13,14,15,16],by kernel_rfl,?_⟩;refine⟨_,_,rfl,rfl,?_⟩;refine vN hf0 (iN iB) (fun h1 hf0=>?_) (fun h1 hf0=>?_)
  ·rw[hf0]at h;exact h (show((fun(r0:aA) (r1:Int)=>r0.set.adds.length≤4097∧r0.set.gone.length≤4097∧r0.map.puts.length≤4097∧r0.map.gone.length≤4097) (aA.mk (0:Int) (bK.mk (0:Int) (az.mk (0:Int) (0:Int))) (cg.mk (0:Int) (0:Int)) (aX.mk [] []) (bc.mk [] [])) (17:Int):Prop)from by simp)
  ·refine⟨_,_,_,_,_,rfl,rfl,(by omega),?_⟩;refine fun h2=>?_;refine⟨_,_,rfl,rfl,(show(ay s b ap sn v).length≤(1000000:Nat)from by omega),(show more.length≤(1000000:Nat)from by omega),?_⟩;refine fun h3=>?_;have h3:(↑(ay s b ap sn v++more).length:Int)≤(9223372036854775807:Int):=h3.2;refine⟨Int×aA,8,fun(s39,s9_0)=> [(6,.v ⟨false,[(1,.ptr 4 0)]⟩),(7,.v ⟨false,[(1,.d (.int .i64) (0:Int))]⟩),(9,.v ⟨false,[(1,.ptr 5 0)]⟩),(37,.v ⟨false,[(1,.own 7 0)]⟩),(38,.v ⟨false,[(1,.d (.int .i64) (↑(ay s b ap sn v++more).length:Int))]⟩),(39,.v ⟨false,[(1,.d (.int .i64) s39)]⟩)],fun(s39,s9_0)=> [(0,.cells [(10,.d (.st 10) s),(8,.d (.arr 8 (.int .u32)) b),(1,.mp 1),(1,.mp 2)] 109),(1,.map bn ap),(2,.map bP sn),(4,.cells [(1,.d (.int .i64) (0:Int)),(1,.d (.int .i64) (0:Int)),(1,.d (.int .u32) (0:Int)),(1,.d (.int .i64) (0:Int)),(1,.d (.int .i64) (0:Int)),(1,.d (.int .i64) (0:Int)),(1,.nils),(1,.nils),(1,.nils),(1,.nils)] 61),(5,.cells [(10,.d (.st 10) s9_0)] 61),(7,.row 0 (.st 3) (ay s b ap sn v++more) 47)],de (fun(s39,s9_0)=>((↑(ay s b ap sn v++more).length:Int)- s39).toNat) (fun(s39,s9_0)=>((0:Int)≤s39)∧(s39≤(↑(ay s b ap sn v++more).length:Int))∧(s9_0.set.adds.length≤4097)∧(s9_0.set.gone.length≤4097)∧(s9_0.map.puts.length≤4097)∧(s9_0.map.gone.length≤4097)∧True) (fun n1 (s39,s9_0)=>fO s b ap sn v more n1 s39 s9_0) (fO s b ap sn v more (((↑(ay s b ap sn v++more).length:Int)-(0:Int)).toNat+1) (0:Int) s),fun(s39,s9_0)=>((↑(ay s b ap sn v++more).length:Int)- s39).toNat,⟨[],((0:Int),s),de.mk0 _ (Nat.lt_succ_self _) ⟨show(0:Int)≤(0:Int)from by omega,show(0:Int)≤(↑(ay s b ap sn v++more).length:Int)from by omega,show s.set.adds.length≤(4097:Nat)from by omega,show s.set.gone.length≤(4097:Nat)from by omega,show s.map.puts.length≤(4097:Nat)from by omega,show s.map.gone.length≤(4097:Nat)from by omega,trivial⟩ rfl,?_⟩,?_⟩
   ·repeat (first|exact trivial|refine And.intro rfl ?_)
   ·rintro⟨s39,s9_0⟩ ⟨n1,hc1,⟨hi1_0,hi1_1,hi1_2,hi1_3,hi1_4,hi1_5,-⟩,hf1⟩;have hf1:=hf1.trans (fO.eq_2 s b ap sn v more s39 s9_0 n1);refine vI hf1 iD (fun h4 hf1=>?_) (fun h4 hf1=>?_)
    ·refine And.intro (show(0:Int)≤s39∧s39<(↑(ay s b ap sn v++more).length:Int)from by omega) ?_;refine⟨_,_,rfl,rfl,(by omega),(by omega),(by omega),(by omega),?_⟩;refine fun h5=>?_;refine vN hf1 iD (fun h6 hf1=>?_) (fun h6 hf1=>?_)
     ·rw[hf1]at hf0;rw[hf0]at h;exact h (show((fun(r0:aA) (r1:Int)=>r0.set.adds.length≤4097∧r0.set.gone.length≤4097∧r0.map.puts.length≤4097∧r0.map.gone.length≤4097) (aA.mk (0:Int) (bK.mk (0:Int) (az.mk (0:Int) (0:Int))) (cg.mk (0:Int) (0:Int)) (aX.mk [] []) (bc.mk [] [])) ((aQ s9_0 (ix (ay s b ap sn v++more) s39)).snd):Prop)from by simp)
     ·refine .inl (And.intro (v6 (p:=s39) (q:=(1:Int)) (r:=s39+(1:Int)) (by omega)) ?_);have hm1:((↑(ay s b ap sn v++more).length:Int)-(s39+(1:Int))).toNat<((↑(ay s b ap sn v++more).length:Int)- s39).toNat:=by omega
      refine⟨[],(s39+(1:Int),(aQ s9_0 (ix (ay s b ap sn v++more) s39)).fst),hm1,de.next (s:=(s39,s9_0)) hc1 hm1 ⟨show(0:Int)≤s39+(1:Int)from by omega,show s39+(1:Int)≤(↑(ay s b ap sn v++more).length:Int)from by omega,show(aQ s9_0 (ix (ay s b ap sn v++more) s39)).fst.set.adds.length≤(4097:Nat)from by omega,show(aQ s9_0 (ix (ay s b ap sn v++more) s39)).fst.set.gone.length≤(4097:Nat)from by omega,show(aQ s9_0 (ix (ay s b ap sn v++more) s39)).fst.map.puts.length≤(4097:Nat)from by omega,show(aQ s9_0 (ix (ay s b ap sn v++more) s39)).fst.map.gone.length≤(4097:Nat)from by omega,trivial⟩ hf1,?_⟩;repeat (first|exact trivial|refine And.intro rfl ?_)
    ·rw[hf1]at hf0;refine⟨_,rfl,rfl,(by omega),(by omega),(by omega),(by omega),?_⟩;rw[hf0]at h;exact h (show((fun(r0:aA) (r1:Int)=>r0.set.adds.length≤4097∧r0.set.gone.length≤4097∧r0.map.puts.length≤4097∧r0.map.gone.length≤4097) (fM s9_0) (0:Int):Prop)from by(have e:fM s9_0=s9_0:=rfl;simp only[e];omega))
def K0:aZ U:=⟨[.p [(10,some (.st 10)),(8,some (.arr 8 (.int .u32))),(1,none),(1,none)],.d (.arr 8 (.int .u32)),.d (.sl (.st 3))],fun xs es K=> ∃(s:aA) (b:List Int) (ap:List (ae×ab)) (sn:List (ae×Bool)) (v:List Int) (more:List ab),xs= [⟨false,[(1,.ptr 0 0)]⟩,⟨true,[(8,.d (.arr 8 (.int .u32)) v)]⟩,⟨false,[(1,.d (.sl (.st 3)) more)]⟩]∧es= [.cells [(10,.d (.st 10) s),(8,.d (.arr 8 (.int .u32)) b),(1,.mp 1),(1,.mp 2)] 109,.map bn ap,.map bP sn]∧(s.set.adds.length≤4097)∧(s.set.gone.length≤4097)∧(s.map.puts.length≤4097)∧(s.map.gone.length≤4097)∧(ap.length≤100000)∧(sn.length≤100000)∧(more.length≤100000)∧(∀r0 r1,bu s b ap sn v more=(r0,r1)→(r0.set.adds.length≤4097∧r0.set.gone.length≤4097∧r0.map.puts.length≤4097∧r0.map.gone.length≤4097)→K (.tup [⟨true,[(10,.d (.st 10) r0)]⟩,⟨false,[(1,.d (.int .i64) r1)]⟩]) [.cells [(10,.d (.st 10) s),(8,.d (.arr 8 (.int .u32)) b),(1,.mp 1),(1,.mp 2)] 109,.map bn ap,.map bP sn])⟩
theorem G1:bR Tryz.prog U 12 K0:=bR.mono vB fun xs es K=>by
 rintro⟨s,b,ap,sn,v,more,rfl,rfl,h1,h2,h3,h4,h5,h6,h7,h⟩;exact⟨s,b,ap,sn,v,more,rfl,rfl,h1,h2,h3,h4,h5,h6,h7,h _ _ rfl⟩
def jK(ap:List (ae×ab))(v:List Int)(l left:List (ae×ab)):Prop:=aR ap∧left.Sublist ap∧l=ap.filter (fun p=>decide (p.1∈left.map (·.1))||!cQ v p.1.id)
theorem sV{ap:List (ae×ab)}{v:List Int}(h:aR ap):jK ap v ap ap:=⟨h,List.Sublist.refl _,(List.filter_eq_self.2 fun p hp=>by
 rw[decide_eq_true (List.mem_map_of_mem hp)];rfl).symm⟩
theorem xQ{ap:List (ae×ab)}{v:List Int}{l left:List (ae×ab)}(h:jK ap v l left)(h0:left= []):l=ap.filter (fun p=>!cQ v p.1.id):=by
 subst h0;rw[h.2.2];apply List.filter_congr;intro p _;simp
theorem vC{ap:List (ae×ab)}{v:List Int}{l left a b:List (ae×ab)}{p:ae×ab}(h:jK ap v l left)(h0:left=a++p::b)(h1: ¬cQ v p.1.id=true):jK ap v l (a++b):=by
 subst h0;refine⟨h.1,List.Sublist.trans (List.Sublist.append_left (List.sublist_cons_self p b) a) h.2.1,?_⟩;rw[h.2.2];apply List.filter_congr;intro q _;by_cases e:q.1=p.1
 ·rw[e];simp[h1]
 ·congr 1;simp[e]
theorem xR{ap:List (ae×ab)}{v:List Int}{l left a b:List (ae×ab)}{p:ae×ab}(h:jK ap v l left)(h0:left=a++p::b)(h1:cQ v p.1.id=true):jK ap v (di l p.1) (di (a++b) p.1):=by
 subst h0;obtain⟨n1,n2,n3⟩:=h;have nl:(l.map (·.1)).Nodup:=by rw[n3];exact List.Nodup.sublist (List.filter_sublist.map _) n1
 have n4:((a++p::b).map (·.1)).Nodup:=List.Nodup.sublist (n2.map _) n1;have n5:(((p::(a++b))).map (·.1)).Nodup:=((List.perm_middle (a:=p) (l₁:=a) (l₂:=b)).symm.map (·.1)).nodup_iff.2 n4;rw[List.map_cons,List.nodup_cons]at n5;have e1:di (a++b) p.1=a++b:=by
  rw[gu _ n5.2];refine List.filter_eq_self.2 fun q hq=>?_;have:q.1≠p.1:=fun e=>n5.1 (by rw[←e];exact List.mem_map_of_mem hq);simpa using this
 rw[e1];refine⟨n1,List.Sublist.trans (List.Sublist.append_left (List.sublist_cons_self p b) a) n2,?_⟩;rw[gu _ nl,n3,List.filter_filter];apply List.filter_congr;intro q _;by_cases e:q.1=p.1
 ·have h3:p.1∉(a++b).map (·.1):=n5.1;rw[e,decide_eq_false h3,h1];simp
 ·rw[show decide (q.1≠p.1)=true from decide_eq_true e,Bool.true_and];congr 1;simp[e]
theorem rl{α β:Type} [DecidableEq α]: ∀(m:List (α×β)) (x:α),(di m x).length≤m.length
 | [],x=>by simp[di]
 |(k,y)::m,x=>by
  unfold di;split
  ·simp
  ·have:=rl m x;simp;omega
theorem nk{α:Type}{left a b:List α}{p:α}(h:left=a++p::b):(a++b).length<left.length:=by subst h;simp
theorem xS{left a b:List (ae×ab)}{p:ae×ab}{k:ae}(h:left=a++p::b):(di (a++b) k).length<left.length:=Nat.lt_of_le_of_lt (rl _ _) (nk h)
def dm(s:aA)(b:List Int)(ap:List (ae×ab))(sn:List (ae×Bool))(v:List Int):Int×aA×(List Int)×(List (ae×ab)):=
 if(bu s b ap sn v []).snd=0 then
  if(bG (bu s b ap sn v []).fst v).snd=0 then
   (0,(bG (bu s b ap sn v []).fst v).fst,v,List.filter (fun(p:ae×ab)=>!cQ v p.fst.id) ap)
  else
   ((bG (bu s b ap sn v []).fst v).snd,s,b,ap)
 else
  ((bu s b ap sn v []).snd,s,b,ap)
def Oz:aZ U:=⟨[.p [(10,some (.st 10)),(8,some (.arr 8 (.int .u32))),(1,none),(1,none)],.d (.arr 8 (.int .u32))],fun xs es K=> ∃(s:aA) (b:List Int) (ap:List (ae×ab)) (sn:List (ae×Bool)) (v:List Int),xs= [(vp 0),(ia v)]∧es= [.cells [(10,.d (.st 10) s),(8,.d (.arr 8 (.int .u32)) b),(1,.mp 1),(1,.mp 2)] 109,.map bn ap,.map bP sn]∧(s.set.adds.length≤4097)∧(s.set.gone.length≤4097)∧(s.map.puts.length≤4097)∧(s.map.gone.length≤4097)∧(ap.length≤100000)∧(sn.length≤100000)∧(aR ap)∧((fun(r0:Int) (r1:aA) (r2:List Int) (r3:List (ae×ab))=>r1.set.adds.length≤4097∧r1.set.gone.length≤4097∧r1.map.puts.length≤4097∧r1.map.gone.length≤4097∧r3.length≤ap.length∧aR r3) ((dm s b ap sn v).1) ((dm s b ap sn v).2.1) ((dm s b ap sn v).2.2.1) ((dm s b ap sn v).2.2.2)→K (.v (vi ((dm s b ap sn v).1))) [.cells [(10,.d (.st 10) ((dm s b ap sn v).2.1)),(8,.d (.arr 8 (.int .u32)) ((dm s b ap sn v).2.2.1)),(1,.mp 1),(1,.mp 2)] 109,.map bn ((dm s b ap sn v).2.2.2),.map bP sn])⟩
theorem CJ:Fk 17 Oz:=by
 refine fo Tryz.f17 [.d (.int .i64)] [(0,[(10,some (.st 10)),(8,some (.arr 8 (.int .u32))),(1,none),(1,none)])] (aa vB (aa GW (aa Ol aj))) fun xs es K=>?_;rintro⟨s,b,ap,sn,v,rfl,rfl,h1,h2,h3,h4,h5,h6,h8,h⟩;refine⟨rfl,?_⟩;have hf0:=dm.eq_1 s b ap sn v;refine⟨_,_,_,_,_,_,rfl,rfl,(by omega),(by omega),(by omega),(by omega),(by omega),(by omega),(show(0:Nat)≤(100000:Nat)from by omega),?_⟩;refine fun(h0:(bu s b ap sn v []).fst.set.adds.length≤(4097:Nat)∧(bu s b ap sn v []).fst.set.gone.length≤(4097:Nat)∧(bu s b ap sn v []).fst.map.puts.length≤(4097:Nat)∧(bu s b ap sn v []).fst.map.gone.length≤(4097:Nat))=>?_;refine wN hf0 (fun h1 hf0=>?_) fun h1 hf0=>?_
 ·rw[hf0]at h;exact h (by(have hl:=List.length_filter_le (fun(p:ae×ab)=>!cQ v p.1.id) ap;dsimp only;refine⟨?_,?_,?_,?_,?_,?_⟩<;>first|omega|assumption|exact lM (by assumption) _))
 ·refine⟨_,_,rfl,rfl,(show(bu s b ap sn v []).fst.set.adds.length≤(4097:Nat)from by omega),(show(bu s b ap sn v []).fst.set.gone.length≤(4097:Nat)from by omega),(show(bu s b ap sn v []).fst.map.puts.length≤(4097:Nat)from by omega),(show(bu s b ap sn v []).fst.map.gone.length≤(4097:Nat)from by omega),?_⟩;refine fun(h2:(bG (bu s b ap sn v []).fst v).fst.set.adds.length≤(4097:Nat)∧(bG (bu s b ap sn v []).fst v).fst.set.gone.length≤(4097:Nat)∧(bG (bu s b ap sn v []).fst v).fst.map.puts.length≤(4097:Nat)∧(bG (bu s b ap sn v []).fst v).fst.map.gone.length≤(4097:Nat))=>?_;refine wN hf0 (fun h3 hf0=>?_) fun h3 hf0=>?_
  ·rw[hf0]at h;exact h (by(have hl:=List.length_filter_le (fun(p:ae×ab)=>!cQ v p.1.id) ap;dsimp only;refine⟨?_,?_,?_,?_,?_,?_⟩<;>first|omega|assumption|exact lM (by assumption) _))
  ·refine dp [(true,0),(true,1),(true,2),(true,3),(true,4),(true,5),(false,6),(true,7),(true,8)] (some 9) (0::1::2::nw 5) ?_;refine fun b4=>?_;refine⟨(List (ae×ab))×(List (ae×ab))×Gh×(List (ae×ab)),6,fun(e1,e1l,e1g,e1c)=> [(0,.v ⟨false,[(1,.ptr 0 0)]⟩),(3,.v ⟨false,[(1,.ptr 3 0)]⟩),(4,.v ⟨false,[(1,.d (.int .i64) (0:Int))]⟩),(38,.v ⟨false,[(1,.ptr 5 0)]⟩)],fun(e1,e1l,e1g,e1c)=> [(0,.cells [(10,.d (.st 10) ((bG (bu s b ap sn v []).fst v).fst)),(8,.d (.arr 8 (.int .u32)) v),(1,.mp 1),(1,.mp 2)] 109),(1,.mapr bn e1 e1l e1c e1g),(2,.map bP sn),(3,.cells [(8,.d (.arr 8 (.int .u32)) v)] 41),(5,.it 1 e1g)],fun(e1,e1l,e1g,e1c)=>(jK ap v e1 e1l)∧True,fun(e1,e1l,e1g,e1c)=>e1l.length,⟨[],(ap,ap,b4,([]:List (ae×ab))),⟨show jK ap v ap ap from sV (by assumption),trivial⟩,?_⟩,?_⟩
   ·repeat (first|exact trivial|refine And.intro rfl ?_)
   ·rintro⟨e1,e1l,e1g,e1c⟩ ⟨hi1_0,-⟩;refine vs (P:=e1g=e1g) ?_ (by simp);refine And.intro (fun h5=>?_) (fun(a6:List (ae×ab)) (p7:ae×ab) (b8:List (ae×ab)) (h9:e1l=a6++p7::b8)=>?_)
    ·refine vF iB (by simp) ?_;obtain rfl:e1=List.filter (fun(p:ae×ab)=>!cQ v p.1.id) ap:=xQ (by assumption) (by assumption);rw[hf0]at h;exact h (by(have hl:=List.length_filter_le (fun(p:ae×ab)=>!cQ v p.1.id) ap;dsimp only;refine⟨?_,?_,?_,?_,?_,?_⟩<;>first|omega|assumption|exact lM (by assumption) _))
    ·refine fun b10=>?_;refine vT iB rfl ?_;refine vs (P:=b10=b10) ?_ (by simp);refine⟨_,_,rfl,rfl,?_⟩;refine vR iB (fun _=>?_) (fun _=>?_)
     ·refine dp (up 5) (some 5) (nw 7) ?_;have hm1:(di (a6++b8) p7.fst).length<e1l.length:=xS (by assumption);refine⟨[],(di e1 p7.fst,di (a6++b8) p7.fst,b10,[]),hm1,⟨show jK ap v (di e1 p7.fst) (di (a6++b8) p7.fst)from xR (by assumption) (by assumption) (by assumption),trivial⟩,?_⟩;repeat (first|exact trivial|refine And.intro rfl ?_)
     ·have hm1:(a6++b8).length<e1l.length:=nk (by assumption);refine⟨[],(e1,a6++b8,b10,[p7]),hm1,⟨show jK ap v e1 (a6++b8)from vC (by assumption) (by assumption) (by assumption),trivial⟩,?_⟩;repeat (first|exact trivial|refine And.intro rfl ?_)
def K4:aZ U:=⟨[.p [(10,some (.st 10)),(8,some (.arr 8 (.int .u32))),(1,none),(1,none)],.d (.arr 8 (.int .u32))],fun xs es K=> ∃(s:aA) (b:List Int) (ap:List (ae×ab)) (sn:List (ae×Bool)) (v:List Int),xs= [⟨false,[(1,.ptr 0 0)]⟩,⟨true,[(8,.d (.arr 8 (.int .u32)) v)]⟩]∧es= [.cells [(10,.d (.st 10) s),(8,.d (.arr 8 (.int .u32)) b),(1,.mp 1),(1,.mp 2)] 109,.map bn ap,.map bP sn]∧(s.set.adds.length≤4097)∧(s.set.gone.length≤4097)∧(s.map.puts.length≤4097)∧(s.map.gone.length≤4097)∧(ap.length≤100000)∧(sn.length≤100000)∧(aR ap)∧(∀r0 r1 r2 r3,dm s b ap sn v=(r0,r1,r2,r3)→(r1.set.adds.length≤4097∧r1.set.gone.length≤4097∧r1.map.puts.length≤4097∧r1.map.gone.length≤4097∧r3.length≤ap.length∧aR r3)→K (.v ⟨false,[(1,.d (.int .i64) r0)]⟩) [.cells [(10,.d (.st 10) r1),(8,.d (.arr 8 (.int .u32)) r2),(1,.mp 1),(1,.mp 2)] 109,.map bn r3,.map bP sn])⟩
theorem K5:bR Tryz.prog U 17 K4:=bR.mono CJ fun xs es K=>by
 rintro⟨s,b,ap,sn,v,rfl,rfl,h1,h2,h3,h4,h5,h6,h8,h⟩;exact⟨s,b,ap,sn,v,rfl,rfl,h1,h2,h3,h4,h5,h6,h8,h _ _ _ _ rfl⟩
end Go.Proofs.YtiliglahlfkikaaGreatDoor.V
end

section
set_option linter.unusedVariables false
set_option linter.unusedSimpArgs false
namespace Go.Proofs.YtiliglahlfkikaaGreatDoor.V
open Go.RowKit Go.Shelf Go.Lib Go.Sort
theorem my{α β:Type} [DecidableEq α]: ∀{m:List (α×β)},aR m→ ∀(k:α) (v:β),(k,v)∈m→cF m k=some v
 | [],_,k,v,h=>by cases h
 |(k0,v0)::m,hn,k,v,h=>by
  unfold aR at hn;rw[List.map_cons,List.nodup_cons]at hn;rcases List.mem_cons.1 h with h|h
  ·injection h with h1 h2;subst h1;subst h2;simp[cF]
  ·have hne: ¬k0=k:=fun e=>hn.1 (by rw[e];exact List.mem_map_of_mem (f:=(·.1)) h);have:=my (m:=m) hn.2 k v h;unfold cF at this⊢;rw[List.find?_cons_of_neg (by simpa using hne)];exact this
theorem nA{α β:Type} [DecidableEq α]{m:List (α×β)}{k:α}(h:k∉m.map (·.1)):cF m k=none:=oP m fun x hx e=>h (e▸hx)
theorem vK{α β:Type} [DecidableEq α]{m m':List (α×β)}(h:aR m)(hp:m.Perm m')(k:α):cF m k=cF m' k:=by
 have h':aR m':=((hp.map (fun x:α×β=>x.1)).nodup_iff).1 h;by_cases q:k∈m.map (·.1)
 ·obtain⟨⟨k',v⟩,hm,rfl⟩:=List.mem_map.1 q;rw[my h _ _ hm,my h' _ _ (hp.mem_iff.1 hm)]
 ·rw[nA q,nA fun q'=>q ((hp.map (·.1)).mem_iff.2 q')]
theorem p3{s s':aA}{b b':List Int}{ap ap':List (ae×ab)}{sn sn':List (ae×Bool)}(h:aR ap)(hp:ap.Perm ap')(v:List Int):ay s b ap sn v=ay s' b' ap' sn' v:=by
 have hK:be (fun(t t':ae)=>af t t') (List.map (fun(x:ae×ab)=>x.fst) ap)=be (fun(t t':ae)=>af t t') (List.map (fun(x:ae×ab)=>x.fst) ap'):=
  jW (g:=fun(t t':ae)=>af t t') (ip _) (hp.map _)
 have key: ∀fuel i e,cl s b ap sn v fuel i e=cl s' b' ap' sn' v fuel i e:=by
  intro fuel;induction fuel with
  |zero=>intro i e;rfl
  |succ n ih=>
   intro i e;rw[cl,cl];simp only[hK,ih,vK h hp]
 unfold ay;rw[hK,key]
theorem ye{s:aA}{b:List Int}{ap ap':List (ae×ab)}{sn sn':List (ae×Bool)}(h:aR ap)(hp:ap.Perm ap')(v:List Int)(more:List ab):bu s b ap sn v more=bu s b ap' sn' v more:=by
 have hw:=p3 (s:=s) (s':=s) (b:=b) (b':=b) (sn:=sn) (sn':=sn') h hp v;have key: ∀fuel i e,fO s b ap sn v more fuel i e=fO s b ap' sn' v more fuel i e:=by
  intro fuel;induction fuel with
  |zero=>intro i e;rfl
  |succ n ih=>
   intro i e;rw[fO,fO];simp only[hw,ih]
 unfold bu;rw[hw,key]
def rA:aA→List ab→aA×Int
 |s,[]=>(s,0)
 |s,e::l=>if(aQ s e).2=0 then rA (aQ s e).1 l else(Bg,(aQ s e).2)
theorem uD(s:aA)(b:List Int)(ap:List (ae×ab))(sn:List (ae×Bool))(v:List Int)(more:List ab): ∀(fuel:Nat) (i:Int) (st:aA),0≤i→i≤(ay s b ap sn v++more).length→(((ay s b ap sn v++more).length:Int)- i).toNat<fuel→
  (match fO s b ap sn v more fuel i st with| .inl r=>r| .inr (_,q)=>(fM q,(0:Int)))=rA st ((ay s b ap sn v++more).drop i.toNat)
 |0,i,st,_,_,h=>by omega
 |fuel+1,i,st,h0,h1,h=>by
  rw[fO];by_cases hlt:i<((ay s b ap sn v++more).length:Int)
  ·rw[if_pos hlt,pW _ h0 hlt,rA];by_cases h2:(aQ st (ix (ay s b ap sn v++more) i)).snd=0
   ·rw[if_pos h2,if_pos h2,uD s b ap sn v more fuel (i+1) _ (by omega) (by omega) (by omega)]
   ·rw[if_neg h2,if_neg h2];rfl
  ·rw[if_neg hlt,List.drop_of_length_le (by omega)];rfl
theorem p4(s:aA)(b:List Int)(ap:List (ae×ab))(sn:List (ae×Bool))(v:List Int)(more:List ab):bu s b ap sn v more=if fH v=0 then(if uw b v=true then rA s (ay s b ap sn v++more)else(Bg,17))else(Bg,fH v):=by
 unfold bu;have h:=uD s b ap sn v more ((((ay s b ap sn v++more).length:Int)-(0:Int)).toNat+1) 0 s (by omega) (by omega) (by omega);split
 ·split
  ·exact h
  ·rfl
 ·rfl
theorem te{l:List ae}(h:dM l):be (fun(t t':ae)=>af t t') l=l:=by
 refine List.mergeSort_of_pairwise (List.Pairwise.imp ?_ h);intro a c hac;show(!decide (af c a<0))=true
 rw[oe,decide_eq_false (fun q=>by have:=(sX _ _).1 q;rw[ji hac]at this;cases this)];rfl
def z8:List Int:= [0,0,0,0,0,0,0,0]
theorem G9(j:Int)(h0:0≤j)(h1:j<8):ix z8 j=0:=by
 have:j=0∨j=1∨j=2∨j=3∨j=4∨j=5∨j=6∨j=7:=by omega
 rcases this with rfl|rfl|rfl|rfl|rfl|rfl|rfl|rfl<;>rfl
theorem uE{e:ab}(hw:jj e)(h:bT e=0):cQ z8 e.tag.id=false:=by
 have h1:=(ya h).tag;rw[rv]at h1;have h0:=hw.tag.1;split at h1
 ·cases h1
 split at h1
 ·cases h1
 rename_i c;unfold cQ;rw[G9 _ (by omega) (by omega),decide_eq_false (show ¬e.tag.id.seq≤0 by omega),Bool.and_false]
def iu(D:List ab):List (ae×ab):=D.map fun e=>(e.tag,e)
def iv(D:List ab):List (ae×Bool):=D.map fun e=>(e.tag,true)
theorem oK(D:List ab):(iu D).map (·.1)=D.map (·.tag):=by unfold iu;rw[List.map_map];rfl
theorem lO(D:List ab):(iv D).map (·.1)=D.map (·.tag):=by unfold iv;rw[List.map_map];rfl
structure VA(k:Int)(s:aA)(b:List Int)(ap:List (ae×ab))(sn:List (ae×Bool))(D:List ab):Prop where
 s:s=zO k
 b:b=z8
 ap:ap=iu D
 sn:sn=iv D
 nd:(D.map (·.tag)).Nodup
 g: ∀e∈D,bT e=0∧du e.act=k
 w: ∀e∈D,jj e
section
variable {k:Int} {s s':aA} {b b':List Int} {ap ap':List (ae×ab)} {sn sn':List (ae×Bool)} {D D':List ab} {e:ab}
theorem VA.new(k:Int):VA k (zO k) z8 [] [] []:=⟨rfl,rfl,rfl,rfl,List.nodup_nil,fun _ h=>(by cases h),fun _ h=>(by cases h)⟩
theorem rB(D:List ab)(hn:(D.map (·.tag)).Nodup)(t:ae):(cF (iv D) t).getD bP.zero=decide (t∈D.map (·.tag)):=by
 by_cases q:t∈D.map (·.tag)
 ·obtain⟨e,he,rfl⟩:=List.mem_map.1 q;rw[my (m:=iv D) (by unfold aR;rw[lO];exact hn) e.tag true (List.mem_map_of_mem (f:=fun e:ab=>(e.tag,true)) he),decide_eq_true q];rfl
 ·rw[nA (by rw[lO];exact q),decide_eq_false q];rfl
theorem VA.snoc(h:VA k s b ap sn D)(hw:jj e)(h1:bT e=0)(h2:du e.act=k)(h3:e.tag∉D.map (·.tag)):VA k s b (dW ap e.tag (fL e)) (dW sn e.tag true) (D++ [e]):=by
 refine⟨h.s,h.b,?_,?_,?_,fun x hx=>?_,fun x hx=>?_⟩
 ·rw[h.ap,nN (iu D) _ fun x hx q=>h3 (by rw[oK]at hx;exact q▸hx)];unfold iu;rw[List.map_append];rfl
 ·rw[h.sn,nN (iv D) true fun x hx q=>h3 (by rw[lO]at hx;exact q▸hx)];unfold iv;rw[List.map_append];rfl
 ·rw[List.map_append,List.nodup_append];refine⟨h.nd,by simp,fun a ha c hc q=>?_⟩;simp at hc;subst hc;subst q;exact h3 ha
 ·rcases List.mem_append.1 hx with hx|hx
  ·exact h.g x hx
  ·rw[List.mem_singleton]at hx;subst hx;exact⟨h1,h2⟩
 ·rcases List.mem_append.1 hx with hx|hx
  ·exact h.w x hx
  ·rw[List.mem_singleton]at hx;subst hx;exact hw
theorem VA.add(h:VA k s b ap sn D)(hw:jj e):((br s b ap sn e).1=0∧e.tag∉D.map (·.tag)∧VA k (br s b ap sn e).2.1 b (br s b ap sn e).2.2.1 (br s b ap sn e).2.2.2 (D++ [e]))∨(¬(br s b ap sn e).1=0∧(br s b ap sn e).2=(s,ap,sn)):=by
 unfold br;rw[h.sn,rB D h.nd,←h.sn,h.s,h.b];by_cases c1:bT e=0
 ·rw[if_pos c1,uE hw c1];by_cases c2:du e.act=(zO k).kind
  ·rw[if_pos c2];by_cases c3:e.tag∈D.map (·.tag)
   ·rw[if_pos (decide_eq_true c3)];exact .inr ⟨by simp,rfl⟩
   ·rw[if_neg (by simpa using c3)];split
    ·exact .inr ⟨by simp,rfl⟩
    ·rw[if_neg (by simp)];have:=h.snoc hw c1 c2 c3;rw[h.s,h.b]at this;exact .inl ⟨rfl,c3,this⟩
  ·rw[if_neg c2];exact .inr ⟨by simp,rfl⟩
 ·rw[if_neg c1];exact .inr ⟨c1,rfl⟩
theorem VA.adds(h:VA k s b ap sn D)(hw:jj e)(h1:bT e=0)(h2:du e.act=k)(h3:e.tag∉D.map (·.tag))(h4:D.length<4096):(br s b ap sn e).1=0:=by
 unfold br;rw[h.sn,rB D h.nd,←h.sn,h.s,h.b,if_pos h1,uE hw h1,if_pos (show du e.act=(zO k).kind from h2),if_neg (by simpa using h3),if_neg (by rw[h.sn];unfold iv;rw[List.length_map];omega),if_neg (by simp)]
theorem VA.at_(h:VA k s b ap sn D)(h':VA k s' b' ap' sn' D')(hp:D.Perm D')(v:List Int)(more:List ab):bu s b ap sn v more=bu s' b' ap' sn' v more:=by
 rw[h.s,h'.s,h.b,h'.b];refine ye (by unfold aR;rw[h.ap,oK];exact h.nd) ?_ v more;rw[h.ap,h'.ap];exact hp.map _
end
end Go.Proofs.YtiliglahlfkikaaGreatDoor.V
end

section
set_option linter.unusedVariables false
set_option linter.unusedSimpArgs false
namespace Go.Proofs.YtiliglahlfkikaaGreatDoor.V
open Go.RowKit
theorem jN(a:List ae):eo a a=true:=by
 unfold eo;rw[if_pos rfl];obtain⟨q,h⟩:=lN a (fun _=>true) false (dt a a) (fun fuel i _=>by rw[dt];simp);rw[h];simp
theorem pX(a:aX):gI a a=true:=by
 unfold gI;rw[if_neg (by simp[jN])];obtain⟨q,h⟩:=lN a.adds (fun _=>true) false (dR a a) (fun fuel i _=>by rw[dR];simp);rw[h];simp
theorem pY(a:bc):gJ a a=true:=by
 unfold gJ;rw[if_neg (by simp[jN])];obtain⟨q,h⟩:=lN a.puts (fun _=>true) false (dS a a) (fun fuel i _=>by rw[dS];simp);rw[h];simp
theorem pZ(a:aA):gK a a=true:=by unfold gK;simp[pX,pY]
end Go.Proofs.YtiliglahlfkikaaGreatDoor.V
end

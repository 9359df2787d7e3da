/- Plain: commands, both ways. -/
import Derived.Test.YtfgofabojepcmaaGreatDoorSp18
import Derived.Test.YtfgofabojepcmaaGreatDoorSp16
import Derived.Lib.TrimUEq
section
set_option linter.unusedVariables false
set_option linter.unusedSimpArgs false
namespace Go.Proofs.YtfgofabojepcmaaGreatDoor.V
open Go.RowKit
def gb(b:UInt8):Bool:=(decide (97≤b.toNat)&&decide (b.toNat≤122))||(decide (48≤b.toNat)&&decide (b.toNat≤57))
theorem oY{b:UInt8}:gb b=true↔(97≤b.toNat∧b.toNat≤122)∨(48≤b.toNat∧b.toNat≤57):=by simp[gb]
theorem oZ{b:UInt8}:((((b.toNat:Int)<97)∨(122<(b.toNat:Int)))∧(((b.toNat:Int)<48)∨(57<(b.toNat:Int))))↔ ¬gb b=true:=by rw[oY];omega
theorem wz(s:List UInt8)(i:Nat)(hi:i<s.length):(s[i].toNat<128→jd s (i:Int)=s[i].toNat∧eC s (i:Int)=1)∧(128≤s[i].toNat→128≤jd s (i:Int)):=by
 unfold jd eC;have h:=Lib.decode_N ⟨s.toArray⟩ i;have hd:(⟨s.toArray⟩:ByteArray).data.toList=s:=rfl;rw[hd]at h;have hg:s.getD i 0=s[i]:=by rw[List.getD_eq_getElem?_getD,List.getElem?_eq_getElem hi];rfl
 rw[hg]at h;rw[Int.toNat_natCast,h];refine⟨fun hb=>?_,fun hb=>?_⟩
 ·unfold Lib.decodeN;rw[if_pos hb];exact⟨rfl,rfl⟩
 ·have key:128≤(Lib.decodeN (s.length - i) s[i].toNat (s.getD (i+1) 0).toNat (s.getD (i+2) 0).toNat (s.getD (i+3) 0).toNat).1:=by
   unfold Lib.decodeN;rw[if_neg (by omega)]
   repeat' split
   all_goals (dsimp only;omega)
  omega
theorem ly(s:List UInt8): ∀(n i:Nat),i≤s.length→s.length+1≤n+i→fp s n (i:Int)=if(s.drop i).all gb=true then .inr (s.length:Int)else .inl false
 |0,i,h1,h2=>by omega
 |n+1,i,h1,h2=>by
  rw[fp];by_cases hi:i<s.length
  ·rw[if_pos (by omega),List.drop_eq_getElem_cons hi,List.all_cons];obtain⟨ha,hb⟩:=wz s i hi;by_cases h8:s[i].toNat<128
   ·obtain⟨e1,e2⟩:=ha h8;rw[e1,e2];by_cases hg:gb s[i]=true
    ·rw[if_neg (by rw[oZ];exact fun q=>q hg),hg,Bool.true_and,show(i:Int)+1=((i+1:Nat):Int)by omega];exact ly s n (i+1) hi (by omega)
    ·rw[if_pos (oZ.2 hg)];have:gb s[i]=false:=by simpa using hg
     rw[this,Bool.false_and,if_neg (by simp)]
   ·have e1:=hb (by omega);have hg:gb s[i]=false:=by
     cases hq:gb s[i]with
     |false=>rfl
     |true=>rw[oY]at hq;omega
    rw[if_pos (by omega),hg,Bool.false_and,if_neg (by simp)]
  ·have:i=s.length:=by omega
   subst this;rw[if_neg (by omega),List.drop_length];simp
theorem wA(s:List UInt8):ku s=(decide (¬s= [])&&s.all gb):=by
 have h:=ly s (((↑s.length:Int)-(0:Int)).toNat+1) 0 (Nat.zero_le _) (by omega);have h:fp s (((↑s.length:Int)-(0:Int)).toNat+1) 0=_:=h;unfold ku;rw[h,List.drop_zero];cases hq:s.all gb<;>simp
theorem lA(s:List UInt8): ∀(n i:Nat),i≤s.length→s.length+1≤n+i→fo s n (i:Int)=if(s.drop i).all gb=true then .inr (s.length:Int)else .inl false
 |0,i,h1,h2=>by omega
 |n+1,i,h1,h2=>by
  rw[fo];by_cases hi:i<s.length
  ·have hx:ix s (i:Int)=s[i]:=cU s hi;rw[if_pos (by omega),List.drop_eq_getElem_cons hi,List.all_cons];simp only[hx];by_cases hg:gb s[i]=true
   ·rw[if_neg (by rw[oZ];exact fun q=>q hg),hg,Bool.true_and,show(i:Int)+1=((i+1:Nat):Int)by omega];exact lA s n (i+1) hi (by omega)
   ·rw[if_pos (oZ.2 hg)];have:gb s[i]=false:=by simpa using hg
    rw[this,Bool.false_and,if_neg (by simp)]
  ·have:i=s.length:=by omega
   subst this;rw[if_neg (by omega),List.drop_length];simp
theorem wB(s:List UInt8):j9 s=(decide (¬s= [])&&s.all gb):=by
 have h:=lA s (((↑s.length:Int)-(0:Int)).toNat+1) 0 (Nat.zero_le _) (by omega);have h:fo s (((↑s.length:Int)-(0:Int)).toNat+1) 0=_:=h;unfold j9;rw[h,List.drop_zero];cases hq:s.all gb<;>simp
def gD(s:List UInt8):Bool:=(jB 47 s).all fun p=>decide (¬p= [])&&p.all gb
theorem ji(s:List UInt8): ∀(n i:Nat),i≤(Lib.split s [(47:UInt8)]).length→(Lib.split s [(47:UInt8)]).length+1≤n+i→
  cO s n (i:Int)=if((Lib.split s [(47:UInt8)]).drop i).all (fun p=>decide (¬p= [])&&p.all gb)=true then .inr ((Lib.split s [(47:UInt8)]).length:Int)else .inl ([],false)
 |0,i,h1,h2=>by omega
 |n+1,i,h1,h2=>by
  rw[cO];by_cases hi:i<(Lib.split s [(47:UInt8)]).length
  ·have hx:ix (Lib.split s [(47:UInt8)]) (i:Int)=(Lib.split s [(47:UInt8)])[i]:=cU _ hi;rw[if_pos (by omega),List.drop_eq_getElem_cons hi,List.all_cons,hx,wA];cases hg:(decide (¬(Lib.split s [(47:UInt8)])[i]= [])&&(Lib.split s [(47:UInt8)])[i].all gb)with
   |true=>
    rw[if_pos rfl,Bool.true_and,show(i:Int)+1=((i+1:Nat):Int)by omega];exact ji s n (i+1) hi (by omega)
   |false=>rw[if_neg (by simp),Bool.false_and,if_neg (by simp)]
  ·have:i=(Lib.split s [(47:UInt8)]).length:=by omega
   subst this;rw[if_neg (by omega),List.drop_length];simp
theorem mM(s:List UInt8):bu s=if s= [(46:UInt8)]then([],true)else if gD s=true then(s,decide ((s.length:Int)≤24))else([],false):=by
 have h:=ji s (((↑(Lib.split s [(47:UInt8)]).length:Int)-(0:Int)).toNat+1) 0 (Nat.zero_le _) (by omega);have h:cO s (((↑(Lib.split s [(47:UInt8)]).length:Int)-(0:Int)).toNat+1) 0=_:=h;unfold bu;split
 ·rfl
 ·rw[h,List.drop_zero];unfold gD;rw[←iX];cases hq:(Lib.split s [(47:UInt8)]).all (fun p=>decide (¬p= [])&&p.all gb)<;>simp[hq]
def uw:Nat→List UInt8→Option Nat
 |k,[]=>some k
 |k,b::t=>if gb b=true then uw (k+1) t else if b=47∧0<k then uw 0 t else none
theorem kY(s:List UInt8)(hl:s.length≤24): ∀(n i k:Nat),i≤s.length→k≤i→s.length+1≤n+i→ck s n (k:Int) (i:Int)=match uw k (s.drop i)with|some f=> .inr ((f:Int),(s.length:Int))|none=> .inl 3
 |0,i,k,h1,h2,h3=>by omega
 |n+1,i,k,h1,h2,h3=>by
  rw[ck];by_cases hi:i<s.length
  ·have hx:ix s (i:Int)=s[i]:=cU s hi;rw[if_pos (by omega),List.drop_eq_getElem_cons hi];simp only[hx,uw];by_cases hg:gb s[i]=true
   ·have hg2:=oY.1 hg;rw[if_pos (by omega),if_pos hg];have e1:IntKind.i64.wrap ((k:Int)+1)=((k+1:Nat):Int):=by rw[IntKind.wrap_i64];omega
    rw[e1,show(i:Int)+1=((i+1:Nat):Int)by omega];exact kY s hl n (i+1) (k+1) hi (by omega) (by omega)
   ·have hg2: ¬_:=fun h=>hg (oY.2 h);rw[if_neg (by omega),if_neg hg];by_cases h4:s[i]=47∧0<k
    ·rw[if_pos ⟨by rw[h4.1];rfl,by omega⟩,if_pos h4,show(i:Int)+1=((i+1:Nat):Int)by omega];exact kY s hl n (i+1) 0 hi (by omega) (by omega)
    ·rw[if_neg (fun h=>h4 ⟨UInt8.toNat_inj.1 (by show _=47;omega),by omega⟩),if_neg h4]
  ·have:i=s.length:=by omega
   subst this;rw[if_neg (by omega),List.drop_length];rfl
theorem J3:gb 47=false:=by decide
theorem o3: ∀(t:List UInt8) (k:Nat),(∃f,uw k t=some f∧0<f)↔ ∃p ps,jB 47 t=p::ps∧p.all gb=true∧0<k+p.length∧ ∀q∈ps,¬q= []∧q.all gb=true
 | [],k=>by
  constructor
  ·rintro⟨f,h,h0⟩;simp only[uw,Option.some.injEq]at h;exact⟨[],[],rfl,rfl,by simpa[h]using h0,fun q hq=>by cases hq⟩
  ·rintro⟨p,ps,h,h1,h2,h3⟩;have h: [[]]=p::ps:=h;injection h with e1 e2;subst e1;exact⟨k,rfl,by simpa using h2⟩
 |b::t,k=>by
  have hsp: ∃p ps,jB 47 t=p::ps:=by
   cases hq:jB 47 t with
   |nil=>exact absurd hq (ng 47 t)
   |cons p ps=>exact⟨p,ps,rfl⟩
  obtain⟨p0,ps0,qG⟩:=hsp;by_cases hg:gb b=true
  ·have hb: ¬b=47:=fun e=>by rw[e,J3]at hg;cases hg
   have ih:=o3 t (k+1);simp only[uw,if_pos hg];rw[ih];simp only[jB,if_neg hb,qG];constructor
   ·rintro⟨p,ps,h,h1,h2,h3⟩;injection h with e1 e2;subst e1;subst e2;exact⟨_,_,rfl,by rw[List.all_cons,hg,h1];rfl,by rw[List.length_cons];omega,h3⟩
   ·rintro⟨p,ps,h,h1,h2,h3⟩;injection h with e1 e2;subst e1;subst e2;rw[List.all_cons,Bool.and_eq_true]at h1;exact⟨_,_,rfl,h1.2,by omega,h3⟩
  ·by_cases hb:b=47
   ·subst hb;simp only[uw,if_neg hg,jB,if_true,qG,true_and];by_cases hk:0<k
    ·rw[if_pos hk,o3 t 0];simp only[qG];constructor
     ·rintro⟨p,ps,h,h1,h2,h3⟩;injection h with e1 e2;subst e1;subst e2;refine⟨[],_,rfl,rfl,by simpa using hk,fun q hq=>?_⟩;rcases List.mem_cons.1 hq with rfl|hq
      ·exact⟨fun e=>by rw[e]at h2;simp at h2,h1⟩
      ·exact h3 q hq
     ·rintro⟨p,ps,h,h1,h2,h3⟩;injection h with e1 e2;subst e1;subst e2;refine⟨_,_,rfl,(h3 p0 (by simp)).2,?_,fun q hq=>h3 q (by simp[hq])⟩;have:=(h3 p0 (by simp)).1;have:p0.length≠0:=fun e=>this (List.eq_nil_of_length_eq_zero e);omega
    ·rw[if_neg hk];constructor
     ·rintro⟨f,h,_⟩;cases h
     ·rintro⟨p,ps,h,h1,h2,h3⟩;injection h with e1 e2;subst e1;simp at h2;omega
   ·simp only[uw,if_neg hg,jB,if_neg hb,qG,hb,false_and,if_false];constructor
    ·rintro⟨f,h,_⟩;cases h
    ·rintro⟨p,ps,h,h1,h2,h3⟩;injection h with e1 e2;subst e1;rw[List.all_cons,Bool.and_eq_true]at h1;exact absurd h1.1 hg
theorem wC(s:List UInt8):gD s=true↔ ∃f,uw 0 s=some f∧0<f:=by
 rw[o3];unfold gD;constructor
 ·intro h;cases hq:jB 47 s with
  |nil=>exact absurd hq (ng 47 s)
  |cons p ps=>
   rw[hq,List.all_cons,Bool.and_eq_true]at h;have h1:=h.1;simp only[Bool.and_eq_true,decide_eq_true_eq]at h1;refine⟨p,ps,rfl,h1.2,?_,fun q hq=>?_⟩
   ·have:p.length≠0:=fun e=>h1.1 (List.eq_nil_of_length_eq_zero e);omega
   ·have:=List.all_eq_true.1 h.2 q hq;simpa using this
 ·rintro⟨p,ps,h,h1,h2,h3⟩;rw[h,List.all_cons,Bool.and_eq_true];refine⟨?_,List.all_eq_true.2 fun q hq=>by simpa using h3 q hq⟩;simp only[Bool.and_eq_true,decide_eq_true_eq];exact⟨fun e=>by rw[e]at h2;simp at h2,h1⟩
theorem wD(s:List UInt8):co s=if(24:Int)<s.length then 8 else if s= []∨gD s=true then 0 else 3:=by
 unfold co;split
 ·rfl
 ·rename_i hl;have h:=kY s (by omega) (((↑s.length:Int)-(0:Int)).toNat+1) 0 0 (Nat.zero_le _) (Nat.le_refl _) (by omega);have h:ck s (((↑s.length:Int)-(0:Int)).toNat+1) 0 0=_:=h;rw[h,List.drop_zero];have hg:=wC s;cases hq:uw 0 s with
  |none=>
   rw[hq]at hg;have hn: ¬gD s=true:=fun h=>by obtain⟨f,h,_⟩:=hg.1 h;cases h
   rw[if_neg (by rintro(rfl|h);simp[uw]at hq;exact hn h)]
  |some f=>
   rw[hq]at hg;dsimp only;by_cases hs:s= []
   ·subst hs;rw[if_neg (by simp),if_pos (.inl rfl)]
   ·have hl0:(0:Int)<s.length:=by
     have:s.length≠0:=fun e=>hs (List.eq_nil_of_length_eq_zero e);omega
    by_cases hf:f=0
    ·subst hf;have hn: ¬gD s=true:=fun h=>by obtain⟨f,h,h0⟩:=hg.1 h;injection h with h;omega
     rw[if_pos ⟨hl0,rfl⟩,if_neg (by rintro(h|h);exact hs h;exact hn h)]
    ·rw[if_neg (by omega),if_pos (.inr (hg.2 ⟨f,rfl,by omega⟩))]
theorem nU(s:List UInt8):(bu s).2=(cq s).2∧((bu s).2=true→(bu s).1=(cq s).1):=by
 rw[mM];unfold cq;rw[wD];split
 ·exact⟨rfl,fun _=>rfl⟩
 ·by_cases hg:gD s=true
  ·have hne: ¬s= []:=fun e=>by rw[e]at hg;revert hg;decide
   rw[if_pos hg];refine⟨?_,fun _=>rfl⟩;by_cases hl:(24:Int)<s.length
   ·simp only[if_pos hl];simp[hne];omega
   ·simp only[if_neg hl,hg];simp[hne];omega
  ·rw[if_neg hg];refine⟨?_,fun h=>by cases h⟩;by_cases hne:s= []
   ·subst hne;rfl
   ·simp only[hne,hg];split<;>simp
theorem qe(l:List (List UInt8)): ∀(n:Nat) (k:Int) (acc:List (List UInt8)),ew l n k acc=db l n k acc
 |0,k,acc=>rfl
 |n+1,k,acc=>by
  rw[ew,db];obtain⟨h1,h2⟩:=nU (ix l k);by_cases h:k<(l.length:Int)
  ·rw[if_pos h,if_pos h];by_cases h3:(bu (ix l k)).2=true
   ·rw[if_pos h3,if_pos (h1▸h3),h2 h3];exact qe l n _ _
   ·rw[if_neg h3,if_neg (fun q=>h3 (h1.symm▸q))]
  ·rw[if_neg h,if_neg h]
theorem mN(l:List (List UInt8)):bV l=aX l:=by
 unfold bV aX;rw[qe l];rfl
end Go.Proofs.YtfgofabojepcmaaGreatDoor.V
end

section
set_option linter.unusedVariables false
set_option linter.unusedSimpArgs false
set_option maxRecDepth 100000
namespace Go.Proofs.YtfgofabojepcmaaGreatDoor.V
open Go.RowKit
def Ea:List UInt8:= [98,101,103,105,110,32,78,44,114,101,97,100,32,78,75,44,45,32,45,44,99,111,109,109,105,116,32,78,44,97,98,111,114,116,32,78,44,114,117,110,32,78,44,104,101,108,108,111,32,78,116,44,112,117,115,104,32,78,116,44,97,115,107,32,78,116,44,99,111,109,101,32,105,44,108,111,115,101,32,105,44,100,111,117,98,108,101,32,105,44,112,97,105,110,116,32,78,105,44,115,121,110,99,32,78,44,116,114,105,109,32,78,44,97,114,109,32,78,105,44,102,97,105,108,32,78,76,44,119,97,110,116,32,78,80,44,102,111,114,103,101,116,32,78,70,44,109,111,118,101,32,78,116,44,108,101,97,100,32,78,105,44,115,101,97,108,32,78,76,44,104,111,108,100,32,78,116,44,106,111,105,110,32,78,116,44,108,101,97,114,110,32,78,116,44,110,117,100,103,101,32,78,44,114,101,99,111,118,101,114,32,78,105]
def Gy:List UInt8:= [115,101,116,32,78,75,83,44,99,111,117,110,116,32,78,75,83,44,101,110,116,101,114,32,78,75,87,44,108,101,97,118,101,32,78,75,87,44,112,117,116,32,78,75,87,83,44,116,97,107,101,32,78,75,87]
def J4:List UInt8:= [115,97,121,32,78,75,44,99,97,108,109,32,46,44,100,114,97,105,110,32,46,44,114,111,117,110,100,32,46,44,115,101,116,116,108,101,32,105,44,118,101,99,32,78]
def T1:List (List UInt8×List UInt8):= [([98,101,103,105,110],[78]),([114,101,97,100],[78,75]),([45],[45]),([99,111,109,109,105,116],[78]),([97,98,111,114,116],[78]),([114,117,110],[78]),([104,101,108,108,111],[78,116]),([112,117,115,104],[78,116]),([97,115,107],[78,116]),([99,111,109,101],[105]),([108,111,115,101],[105]),([100,111,117,98,108,101],[105]),([112,97,105,110,116],[78,105]),([115,121,110,99],[78]),([116,114,105,109],[78]),([97,114,109],[78,105]),([102,97,105,108],[78,76]),([119,97,110,116],[78,80]),([102,111,114,103,101,116],[78,70]),([109,111,118,101],[78,116]),([108,101,97,100],[78,105]),([115,101,97,108],[78,76]),([104,111,108,100],[78,116]),([106,111,105,110],[78,116]),([108,101,97,114,110],[78,116]),([110,117,100,103,101],[78]),([114,101,99,111,118,101,114],[78,105])]
def T2:List (List UInt8×List UInt8):= [([115,101,116],[78,75,83]),([99,111,117,110,116],[78,75,83]),([101,110,116,101,114],[78,75,87]),([108,101,97,118,101],[78,75,87]),([112,117,116],[78,75,87,83]),([116,97,107,101],[78,75,87])]
def T3:List (List UInt8×List UInt8):= [([115,97,121],[78,75]),([99,97,108,109],[46]),([100,114,97,105,110],[46]),([114,111,117,110,100],[46]),([115,101,116,116,108,101],[105]),([118,101,99],[78])]
def ux:List (List UInt8):= [[98,101,103,105,110],[114,101,97,100],[],[99,111,109,109,105,116],[97,98,111,114,116],[114,117,110],[104,101,108,108,111],[112,117,115,104],[97,115,107],[99,111,109,101],[108,111,115,101],[100,111,117,98,108,101],[112,97,105,110,116],[115,121,110,99],[116,114,105,109],[97,114,109],[102,97,105,108],[119,97,110,116],[102,111,114,103,101,116],[109,111,118,101],[108,101,97,100],[115,101,97,108],[104,111,108,100],[106,111,105,110],[108,101,97,114,110],[110,117,100,103,101],[114,101,99,111,118,101,114]]
def tR:List (List UInt8):= [[78],[78,75],[],[78],[78],[78],[78,116],[78,116],[78,116],[105],[105],[105],[78,105],[78],[78],[78,105],[78,76],[78,80],[78,70],[78,116],[78,105],[78,76],[78,116],[78,116],[78,116],[78],[78,105]]
def uy:List (List UInt8):= [[115,101,116],[99,111,117,110,116],[101,110,116,101,114],[108,101,97,118,101],[112,117,116],[116,97,107,101]]
def tT:List (List UInt8):= [[78,75,83],[78,75,83],[78,75,87],[78,75,87],[78,75,87,83],[78,75,87]]
def kh:List (List UInt8):= [[98,101,103,105,110],[114,101,97,100],[99,111,109,109,105,116],[97,98,111,114,116],[114,117,110],[104,101,108,108,111],[112,117,115,104],[97,115,107],[99,111,109,101],[108,111,115,101],[100,111,117,98,108,101],[112,97,105,110,116],[115,121,110,99],[116,114,105,109],[97,114,109],[102,97,105,108],[119,97,110,116],[102,111,114,103,101,116],[109,111,118,101],[108,101,97,100],[115,101,97,108],[104,111,108,100],[106,111,105,110],[108,101,97,114,110],[110,117,100,103,101],[114,101,99,111,118,101,114],[115,101,116],[99,111,117,110,116],[101,110,116,101,114],[108,101,97,118,101],[112,117,116],[116,97,107,101],[115,97,121],[99,97,108,109],[100,114,97,105,110],[114,111,117,110,100],[115,101,116,116,108,101],[118,101,99]]
def lN:List UInt8→List UInt8×List UInt8
 | []=>([],[])
 |b::t=>if b=32 then([],t)else(b::(lN t).1,(lN t).2)
theorem ru: ∀e:List UInt8,(Lib.cut e [(32:UInt8)]).1=(lN e).1∧(Lib.cut e [(32:UInt8)]).2.1=(lN e).2
 | []=>by
  unfold Lib.cut;rw[Lib.index_one];have:Lib.indexByte [] 32= -1:=rfl;rw[this,if_neg (by decide)];exact⟨rfl,rfl⟩
 |b::t=>by
  obtain⟨h1,h2⟩:=ru t;unfold Lib.cut at h1 h2⊢;rw[Lib.index_one]at h1 h2⊢;by_cases hb:b=32
  ·subst hb;have:Lib.indexByte ((32:UInt8)::t) 32=0:=by simp[Lib.indexByte]
   rw[this,if_pos (Int.le_refl _)];simp[lN]
  ·have hg:=Lib.indexByte_ge t 32;have h0:Lib.indexByte (b::t) 32=if(Lib.indexByte t 32== -1)=true then -1 else Lib.indexByte t 32+1:=by
    rw[Lib.indexByte,if_neg (by simpa using hb)]
   simp only[lN,if_neg hb];by_cases hi:Lib.indexByte t 32= -1
   ·have h0':Lib.indexByte (b::t) 32= -1:=by rw[h0,hi];rfl
    rw[hi,if_neg (by decide)]at h1 h2;rw[h0',if_neg (by decide)];exact⟨by rw[←h1],h2⟩
   ·have h0':Lib.indexByte (b::t) 32=Lib.indexByte t 32+1:=by rw[h0,if_neg (by simpa using hi)]
    rw[if_pos (by omega)]at h1 h2;rw[h0',if_pos (by omega)];have e1:(Lib.indexByte t 32+1).toNat=(Lib.indexByte t 32).toNat+1:=by omega
    simp only[e1,List.take_succ_cons,List.length_singleton,List.drop_succ_cons]at h1 h2⊢;exact⟨by rw[←h1],by rw[←h2]⟩
def gm:List (List UInt8×List UInt8)→Int→List UInt8→Option (Int×List UInt8)
 | [],_,_=>none
 |p::r,k,w=>if p.1=w∧ ¬p.2= [45]then some (k,p.2)else gm r (k+1) w
theorem eU: ∀(T:List (List UInt8×List UInt8)) (k:Int) (w:List UInt8),(∀p∈T,p.1=w→p.2= [45])→gm T k w=none
 | [],_,_,_=>rfl
 |p::r,k,w,h=>by
  rw[gm,if_neg (fun q=>q.2 (h p (by simp) q.1))];exact eU r _ w fun q hq=>h q (by simp[hq])
theorem lB(list w:List UInt8): ∀(n i:Nat),i≤(Lib.split list [(44:UInt8)]).length→(Lib.split list [(44:UInt8)]).length+1≤n+i→
  fq list w n (i:Int)=match gm (((Lib.split list [(44:UInt8)]).drop i).map lN) (i:Int) w with|some r=> .inl r|none=> .inr ((Lib.split list [(44:UInt8)]).length:Int)
 |0,i,h1,h2=>by omega
 |n+1,i,h1,h2=>by
  rw[fq];by_cases hi:i<(Lib.split list [(44:UInt8)]).length
  ·have hx:ix (Lib.split list [(44:UInt8)]) (i:Int)=(Lib.split list [(44:UInt8)])[i]:=cU _ hi;rw[if_pos (by omega),List.drop_eq_getElem_cons hi,List.map_cons,gm,hx,(ru _).1,(ru _).2];split
   ·rfl
   ·rw[show(i:Int)+1=((i+1:Nat):Int)by omega];exact lB list w n (i+1) hi (by omega)
  ·have:i=(Lib.split list [(44:UInt8)]).length:=by omega
   subst this;rw[if_neg (by omega),List.drop_length];rfl
theorem mO(list w:List UInt8):dG list w=(gm ((jB 44 list).map lN) 0 w).getD (-1,[]):=by
 have h:=lB list w (((↑(Lib.split list [(44:UInt8)]).length:Int)-(0:Int)).toNat+1) 0 (Nat.zero_le _) (by omega);have h:fq list w (((↑(Lib.split list [(44:UInt8)]).length:Int)-(0:Int)).toNat+1) 0=_:=h;unfold dG;rw[h,List.drop_zero,iX];rw[show((0:Nat):Int)=0 from rfl];cases gm ((jB 44 list).map lN) 0 w<;>rfl
theorem J5:(jB 44 Ea).map lN=T1:=by decide+kernel
theorem J6:(jB 44 Gy).map lN=T2:=by decide+kernel
theorem J7:(jB 44 J4).map lN=T3:=by decide+kernel
def o4(k a:Int):ax:=ax.mk k 0 0 0 [] (g8.mk a [] 0) [] []
theorem nV(w:List UInt8):ar w=if 0≤((gm T1 0 w).getD (-1,[])).1 then(o4 ((gm T1 0 w).getD (-1,[])).1 0,((gm T1 0 w).getD (-1,[])).2,true)
  else if 0≤((gm T2 0 w).getD (-1,[])).1 then(o4 2 (IntKind.i64.wrap (1+((gm T2 0 w).getD (-1,[])).1)),((gm T2 0 w).getD (-1,[])).2,true)
  else(o4 0 0,((gm T3 0 w).getD (-1,[])).2,decide (0≤((gm T3 0 w).getD (-1,[])).1)):=by
 rw[←J5,←J6,←J7,←mO,←mO,←mO];rfl
def ia(g:Bool):List (List UInt8×List UInt8)→Int→List UInt8→Option (Int×List UInt8)
 | [],_,_=>none
 |p::r,k,w=>if(g=true→ ¬w= [])∧p.1=w then some (k,p.2)else ia g r (k+1) w
theorem iQ(g:Bool): ∀(T:List (List UInt8×List UInt8)) (k:Int) (w:List UInt8),(∀p∈T,p.1=w→g=true∧w= [])→ia g T k w=none
 | [],_,_,_=>rfl
 |p::r,k,w,h=>by
  rw[ia,if_neg (fun q=>q.1 (h p (by simp) q.2).1 (h p (by simp) q.2).2)];exact iQ g r _ w fun q hq=>h q (by simp[hq])
theorem rv(w:List UInt8)(n:Nat)(s:Int):dR w (n+1) s=if(s<(ux.length:Int))∧(s<(tR.length:Int))then if(¬w= [])∧(ix ux s=w)then .inl (o4 s 0,ix tR s)else dR w n (s+1)else .inr s:=rfl
theorem rx(w:List UInt8)(n:Nat)(s:Int):dQ w (n+1) s=if(s<(uy.length:Int))∧(s<(tT.length:Int))then if ix uy s=w then .inl (o4 2 (s+1),ix tT s)else dQ w n (s+1)else .inr s:=rfl
theorem lC(w:List UInt8): ∀(n i:Nat),i≤27→28≤n+i→dR w n (i:Int)=match ia true ((ux.zip tR).drop i) (i:Int) w with|some r=> .inl (o4 r.1 0,r.2)|none=> .inr 27
 |0,i,h1,h2=>by omega
 |n+1,i,h1,h2=>by
  rw[rv];have l1:ux.length=27:=rfl;have l2:tR.length=27:=rfl;have l3:(ux.zip tR).length=27:=rfl;by_cases hi:i<27
  ·rw[if_pos ⟨by omega,by omega⟩,List.drop_eq_getElem_cons (by rw[l3];exact hi),ia,List.getElem_zip];rw[cU ux (by omega),cU tR (by omega)];dsimp only;by_cases hc: ¬w= []∧ux[i]'(by omega)=w
   ·rw[if_pos hc,if_pos ⟨fun _=>hc.1,hc.2⟩]
   ·rw[if_neg hc,if_neg (fun q=>hc ⟨q.1 rfl,q.2⟩),show(i:Int)+1=((i+1:Nat):Int)by omega];exact lC w n (i+1) hi (by omega)
  ·have:i=27:=by omega
   subst this;rw[if_neg (by omega),List.drop_of_length_le (by rw[l3];exact Nat.le_refl _)];rfl
theorem lD(w:List UInt8): ∀(n i:Nat),i≤6→7≤n+i→dQ w n (i:Int)=match ia false ((uy.zip tT).drop i) (i:Int) w with|some r=> .inl (o4 2 (r.1+1),r.2)|none=> .inr 6
 |0,i,h1,h2=>by omega
 |n+1,i,h1,h2=>by
  rw[rx];have l1:uy.length=6:=rfl;have l2:tT.length=6:=rfl;have l3:(uy.zip tT).length=6:=rfl;by_cases hi:i<6
  ·rw[if_pos ⟨by omega,by omega⟩,List.drop_eq_getElem_cons (by rw[l3];exact hi),ia,List.getElem_zip];rw[cU uy (by omega),cU tT (by omega)];dsimp only;by_cases hc:uy[i]'(by omega)=w
   ·rw[if_pos hc,if_pos ⟨fun h=>(by cases h),hc⟩]
   ·rw[if_neg hc,if_neg (fun q=>hc q.2),show(i:Int)+1=((i+1:Nat):Int)by omega];exact lD w n (i+1) hi (by omega)
  ·have:i=6:=by omega
   subst this;rw[if_neg (by omega),List.drop_of_length_le (by rw[l3];exact Nat.le_refl _)];rfl
def wE(w:List UInt8):ax×List UInt8:=if w= [115,97,121]then(o4 0 0,[78,75])else if w= [99,97,108,109]then(o4 0 0,[46])else if w= [100,114,97,105,110]then(o4 0 0,[46])else if w= [114,111,117,110,100]then(o4 0 0,[46])else if w= [115,101,116,116,108,101]then(o4 0 0,[105])else if w= [118,101,99]then(o4 0 0,[78])else(o4 0 0,[])
theorem tU(w:List UInt8):aA w=match dR w (((↑tR.length:Int)-(0:Int)).toNat+1) 0 with| .inl r=>r| .inr _=>(match dQ w (((↑tT.length:Int)-(0:Int)).toNat+1) 0 with| .inl r=>r| .inr _=>wE w):=rfl
def sR(w:List UInt8):ax×List UInt8:=(o4 0 0,((ia false T3 0 w).getD (-1,[])).2)
theorem Ar(w:List UInt8):wE w=sR w:=by
 unfold wE sR;simp only[T3,ia,Bool.false_eq_true,false_implies,true_and];simp only[eq_comm (b:=w)]
 repeat' split
 all_goals rfl
theorem mP(w:List UInt8):aA w=match ia true (ux.zip tR) 0 w with|some r=>(o4 r.1 0,r.2)|none=>(match ia false (uy.zip tT) 0 w with|some r=>(o4 2 (r.1+1),r.2)|none=>sR w):=by
 have h1:=lC w 28 0 (by omega) (by omega);have h2:=lD w 7 0 (by omega) (by omega);rw[List.drop_zero]at h1 h2;have h1:dR w (((↑tR.length:Int)-(0:Int)).toNat+1) 0=match ia true (ux.zip tR) 0 w with|some r=> .inl (o4 r.1 0,r.2)|none=> .inr 27:=h1;have h2:dQ w (((↑tT.length:Int)-(0:Int)).toNat+1) 0=match ia false (uy.zip tT) 0 w with|some r=> .inl (o4 2 (r.1+1),r.2)|none=> .inr 6:=h2;rw[tU,h1];cases ia true (ux.zip tR) 0 w with
 |some r=>rfl
 |none=>
  dsimp only;rw[h2];cases ia false (uy.zip tT) 0 w with
  |some r=>rfl
  |none=>exact Ar w
theorem qf(w:List UInt8):(ar w).2.2=decide (¬(aA w).2= [])∧((ar w).2.2=true→(ar w).1=(aA w).1∧(ar w).2.1=(aA w).2):=by
 rw[nV,mP];by_cases hw:w∈kh
 ·simp only[kh,List.mem_cons,List.not_mem_nil,or_false]at hw;rcases hw with rfl|rfl|rfl|rfl|rfl|rfl|rfl|rfl|rfl|rfl|rfl|rfl|rfl|rfl|rfl|rfl|rfl|rfl|rfl|rfl|rfl|rfl|rfl|rfl|rfl|rfl|rfl|rfl|rfl|rfl|rfl|rfl|rfl|rfl|rfl|rfl|rfl|rfl<;>exact⟨by kernel_rfl,fun _=>⟨by kernel_rfl,by kernel_rfl⟩⟩
 ·have a1:gm T1 0 w=none:=eU _ _ _ (by
   intro p hp he;subst he;simp only[T1,List.mem_cons,List.not_mem_nil,or_false]at hp;rcases hp with rfl|rfl|rfl|rfl|rfl|rfl|rfl|rfl|rfl|rfl|rfl|rfl|rfl|rfl|rfl|rfl|rfl|rfl|rfl|rfl|rfl|rfl|rfl|rfl|rfl|rfl|rfl<;>first|rfl|exact absurd (by decide+kernel) hw)
  have a2:gm T2 0 w=none:=eU _ _ _ (by
   intro p hp he;subst he;simp only[T2,List.mem_cons,List.not_mem_nil,or_false]at hp;rcases hp with rfl|rfl|rfl|rfl|rfl|rfl<;>exact absurd (by decide+kernel) hw)
  have a3:gm T3 0 w=none:=eU _ _ _ (by
   intro p hp he;subst he;simp only[T3,List.mem_cons,List.not_mem_nil,or_false]at hp;rcases hp with rfl|rfl|rfl|rfl|rfl|rfl<;>exact absurd (by decide+kernel) hw)
  have b1:ia true (ux.zip tR) 0 w=none:=iQ _ _ _ _ (by
   intro p hp he;subst he;refine⟨rfl,?_⟩;simp only[ux,tR,List.zip_cons_cons,List.zip_nil_right,List.mem_cons,List.not_mem_nil,or_false]at hp;rcases hp with rfl|rfl|rfl|rfl|rfl|rfl|rfl|rfl|rfl|rfl|rfl|rfl|rfl|rfl|rfl|rfl|rfl|rfl|rfl|rfl|rfl|rfl|rfl|rfl|rfl|rfl|rfl<;>first|rfl|exact absurd (by decide+kernel) hw)
  have b2:ia false (uy.zip tT) 0 w=none:=iQ _ _ _ _ (by
   intro p hp he;subst he;simp only[uy,tT,List.zip_cons_cons,List.zip_nil_right,List.mem_cons,List.not_mem_nil,or_false]at hp;rcases hp with rfl|rfl|rfl|rfl|rfl|rfl<;>exact absurd (by decide+kernel) hw)
  have b3:ia false T3 0 w=none:=iQ _ _ _ _ (by
   intro p hp he;subst he;simp only[T3,List.mem_cons,List.not_mem_nil,or_false]at hp;rcases hp with rfl|rfl|rfl|rfl|rfl|rfl<;>exact absurd (by decide+kernel) hw)
  rw[a1,a2,a3,b1,b2];unfold sR;rw[b3];exact⟨by decide,fun h=>by revert h;decide⟩
end Go.Proofs.YtfgofabojepcmaaGreatDoor.V
end

section
set_option linter.unusedVariables false
set_option linter.unusedSimpArgs false
set_option maxRecDepth 20000
set_option maxHeartbeats 4000000
namespace Go.Proofs.YtfgofabojepcmaaGreatDoor.V
open Go.RowKit
def Kt:bS U:= [(198,qm),(200,ue),(277,GH)]
theorem AL:ay Tryz.prog U Kt:=ae rE (ae wY (ae Kl (am)))
def cK(e:ax)(c:Int)(w:List UInt8):Bool×ax:=
 if c=(78:Int)then
  ((aq w).snd,ax.mk e.kind (aq w).fst e.«to» e.i e.key e.op e.names e.who)
 else
  if c=(116:Int)then
   ((aq w).snd,ax.mk e.kind e.node (aq w).fst e.i e.key e.op e.names e.who)
  else
   if c=(105:Int)then
    ((aq w).snd,ax.mk e.kind e.node e.«to» (aq w).fst e.key e.op e.names e.who)
   else
    if c=(75:Int)then
     (decide ¬w= [],ax.mk e.kind e.node e.«to» e.i w e.op e.names e.who)
    else
     if c=(70:Int)then
      ((bu w).snd,ax.mk e.kind e.node e.«to» e.i (bu w).fst e.op e.names e.who)
     else
      if c=(87:Int)then
       (decide ¬w= [],ax.mk e.kind e.node e.«to» e.i e.key (g8.mk e.op.act w e.op.val) e.names e.who)
      else
       if c=(83:Int)then
        ((cV w).snd,ax.mk e.kind e.node e.«to» e.i e.key (g8.mk e.op.act e.op.name (cV w).fst) e.names e.who)
       else
        (decide ¬w= [],e)
def GL:bZ U:=⟨[.p [(10,some (.st 4))],.d (.int .i32),.d .str],fun xs es K=> ∃(e:ax) (c:Int) (w:List UInt8),xs= [⟨false,[(1,.ptr 0 0)]⟩,⟨false,[(1,.d (.int .i32) c)]⟩,⟨false,[(1,.d .str w)]⟩]∧es= [.cells [(10,.d (.st 4) e)] 82]∧(w.length≤1000000)∧K (.v ⟨false,[(1,.d .bool ((cK e c w).1))]⟩) [.cells [(10,.d (.st 4) ((cK e c w).2))] 82]⟩
theorem Ku:aQ Tryz.prog U 201 GL:=by
 refine aT (fn:=Tryz.f201) AL aC (by kernel_rfl) Tryz.f201.ntmps [.d .bool] [(0,[(10,some (.st 4))])] (by kernel_rfl) (by kernel_rfl) rfl rfl (by kernel_rfl) (fun xs es K=>?_);rintro⟨e,c,w,rfl,rfl,hs,h⟩;refine⟨rfl,?_⟩;have hf0:=cK.eq_1 e c w;refine vI hf0 iD (fun h0 hf0=>?_) (fun h0 hf0=>?_)
 ·refine⟨_,rfl,rfl,(by omega),?_⟩;rw[hf0]at h;exact h
 ·refine vI hf0 iD (fun h1 hf0=>?_) (fun h1 hf0=>?_)
  ·refine⟨_,rfl,rfl,(by omega),?_⟩;rw[hf0]at h;exact h
  ·refine vI hf0 iD (fun h2 hf0=>?_) (fun h2 hf0=>?_)
   ·refine⟨_,rfl,rfl,(by omega),?_⟩;rw[hf0]at h;exact h
   ·refine vI hf0 iD (fun h3 hf0=>?_) (fun h3 hf0=>?_)
    ·rw[hf0]at h;exact h
    ·refine vI hf0 iD (fun h4 hf0=>?_) (fun h4 hf0=>?_)
     ·refine⟨_,rfl,rfl,(by omega),?_⟩;rw[hf0]at h;exact h
     ·refine vI hf0 iD (fun h5 hf0=>?_) (fun h5 hf0=>?_)
      ·rw[hf0]at h;exact h
      ·refine vI hf0 iD (fun h6 hf0=>?_) (fun h6 hf0=>?_)
       ·refine⟨_,rfl,rfl,(by omega),?_⟩;rw[hf0]at h;exact h
       ·rw[hf0]at h;exact h
end Go.Proofs.YtfgofabojepcmaaGreatDoor.V
end

section
set_option linter.unusedVariables false
set_option linter.unusedSimpArgs false
set_option maxRecDepth 20000
set_option maxHeartbeats 4000000
namespace Go.Proofs.YtfgofabojepcmaaGreatDoor.V
open Go.RowKit
def Kv:bS U:= [(196,GK),(197,Eg),(198,qm),(199,AI),(200,ue),(201,GL)]
theorem AM:ay Tryz.prog U Kv:=ae Ks (ae GI (ae rE (ae Eh (ae wY (ae Ku (am))))))
def b7(words:List (List UInt8)):Nat→(List (List UInt8))→ax→Int→(aZ×Bool)⊕((List (List UInt8))×ax×Int)
 |0,s7,s4_0,e2p=> .inr (s7,s4_0,e2p)
 |n1+1,s7,s4_0,e2p=>
  if e2p<(↑(ar (ix words (0:Int))).snd.fst.length:Int)then
   if jd (ar (ix words (0:Int))).snd.fst e2p=(76:Int)then
    if(cl s7).snd=true then
     b7 words n1 [] (ax.mk s4_0.kind s4_0.node s4_0.«to» s4_0.i s4_0.key s4_0.op s4_0.names (cl s7).fst) (e2p+eC (ar (ix words (0:Int))).snd.fst e2p)
    else
     .inl ((aZ.mk [] (ax.mk (0:Int) (0:Int) (0:Int) (0:Int) [] (g8.mk (0:Int) [] (0:Int)) [] []),false))
   else
    if jd (ar (ix words (0:Int))).snd.fst e2p=(80:Int)then
     if(bV s7).snd=true then
      b7 words n1 [] (ax.mk s4_0.kind s4_0.node s4_0.«to» s4_0.i s4_0.key s4_0.op (bV s7).fst s4_0.who) (e2p+eC (ar (ix words (0:Int))).snd.fst e2p)
     else
      .inl ((aZ.mk [] (ax.mk (0:Int) (0:Int) (0:Int) (0:Int) [] (g8.mk (0:Int) [] (0:Int)) [] []),false))
    else
     if(↑s7.length:Int)=(0:Int)then
      .inl ((aZ.mk [] (ax.mk (0:Int) (0:Int) (0:Int) (0:Int) [] (g8.mk (0:Int) [] (0:Int)) [] []),false))
     else
      if(cK s4_0 (jd (ar (ix words (0:Int))).snd.fst e2p) (ix s7 (0:Int))).fst=true then
       b7 words n1 (List.drop (Int.toNat (1:Int)) s7) ((cK s4_0 (jd (ar (ix words (0:Int))).snd.fst e2p) (ix s7 (0:Int))).snd) (e2p+eC (ar (ix words (0:Int))).snd.fst e2p)
      else
       .inl ((aZ.mk [] (ax.mk (0:Int) (0:Int) (0:Int) (0:Int) [] (g8.mk (0:Int) [] (0:Int)) [] []),false))
  else
   .inr (s7,s4_0,e2p)
def cy(words:List (List UInt8)):aZ×Bool:=
 if(¬((ar (ix words (0:Int))).snd.snd=true))∨((ar (ix words (0:Int))).snd.fst= [(46:UInt8)])then
  (aZ.mk (ix words (0:Int)) (ar (ix words (0:Int))).fst,(ar (ix words (0:Int))).snd.snd&&decide ((↑(List.drop (Int.toNat (1:Int)) words).length:Int)=(0:Int)))
 else
  match b7 words (((↑(ar (ix words (0:Int))).snd.fst.length:Int)-(0:Int)).toNat+1) (List.drop (Int.toNat (1:Int)) words) ((ar (ix words (0:Int))).fst) (0:Int)with
  | .inl r=>r
  | .inr (s7,s4_0,e2p)=>
   (aZ.mk (ix words (0:Int)) s4_0,decide ((↑s7.length:Int)=(0:Int)))
def GM:bZ U:=⟨[.d (.sl .str)],fun xs es K=> ∃(words:List (List UInt8)),xs= [⟨false,[(1,.d (.sl .str) words)]⟩]∧es= []∧(1≤words.length)∧(words.length≤1000000)∧(∀p∈words,p.length≤1000000)∧K (.tup [⟨true,[(11,.d (.st 5) ((cy words).1))]⟩,⟨false,[(1,.d .bool ((cy words).2))]⟩]) []⟩
theorem Kw:aQ Tryz.prog U 110 GM:=by
 refine aT (fn:=Tryz.f110) AM aC (by kernel_rfl) Tryz.f110.ntmps [.d (.st 5),.d .bool] [] (by kernel_rfl) (by kernel_rfl) rfl rfl (by kernel_rfl) (fun xs es K=>?_);rintro⟨words,rfl,rfl,hw,hl2,hl,h⟩;refine⟨rfl,?_⟩;have hf0:=cy.eq_1 words;refine And.intro (show(0:Int)≤(0:Int)∧(0:Int)<(↑words.length:Int)from by omega) ?_;refine⟨_,rfl,rfl,?_⟩;refine And.intro (show(0:Int)≤(1:Int)∧(1:Int)≤(↑words.length:Int)∧(↑words.length:Int)≤(↑words.length:Int)from by omega) ?_;refine vI hf0 (iO (iN iB) iD) (fun h0 hf0=>?_) (fun h0 hf0=>?_)
 ·refine .inl ⟨[(true,0),(true,1),(true,2),(true,3),(true,4),(true,5),(true,6),(true,7),(true,8),(true,9),(true,10),(false,11),(true,12)],none,[0,2,3,4,5,6,7,8,9,10,11,12,13],by kernel_rfl,?_⟩;refine And.intro (show(0:Int)≤(0:Int)∧(0:Int)<(↑words.length:Int)from by omega) ?_;rw[hf0]at h;exact h
 ·refine⟨(List (List UInt8))×ax×Int,3,fun(s7,s4_0,e2p)=> [(0,.v ⟨false,[(1,.d (.sl .str) words)]⟩),(2,.v ⟨false,[(1,.ptr 0 0)]⟩),(4,.v ⟨false,[(1,.ptr 1 0)]⟩),(7,.v ⟨false,[(1,.d (.sl .str) s7)]⟩),(38,.v ⟨false,[(1,.ptr 2 0)]⟩)],fun(s7,s4_0,e2p)=> [(0,.cells [(1,.d .str []),(1,.d (.int .i64) (0:Int)),(1,.d (.int .i64) (0:Int)),(1,.d (.int .i64) (0:Int)),(1,.d (.int .i64) (0:Int)),(1,.d .str []),(1,.d (.int .i64) (0:Int)),(1,.d .str []),(1,.d (.int .i64) (0:Int)),(1,.nils),(1,.nils)] 84),(1,.cells [(10,.d (.st 4) s4_0)] 82),(2,.its ((ar (ix words (0:Int))).snd.fst) e2p)],aF (fun(s7,s4_0,e2p)=>(((ar (ix words (0:Int))).2.1.length:Int)- e2p).toNat) (fun(s7,s4_0,e2p)=>(0≤e2p)∧(∀p∈s7,p.length≤1000000)∧(s7.length≤1000000)∧True) (fun n1 (s7,s4_0,e2p)=>b7 words n1 s7 s4_0 e2p) (b7 words (((↑(ar (ix words (0:Int))).snd.fst.length:Int)-(0:Int)).toNat+1) (List.drop (Int.toNat (1:Int)) words) ((ar (ix words (0:Int))).fst) (0:Int)),fun(s7,s4_0,e2p)=>(((ar (ix words (0:Int))).2.1.length:Int)- e2p).toNat,⟨[],(List.drop (Int.toNat (1:Int)) words,(ar (ix words (0:Int))).fst,(0:Int)),aF.mk0 _ (Nat.lt_succ_self _) ⟨show(0:Int)≤(0:Int)from by omega,show ∀(p:List UInt8),p∈List.drop (Int.toNat (1:Int)) words→p.length≤(1000000:Nat)from dl (by assumption) _,show(List.drop (Int.toNat (1:Int)) words).length≤(1000000:Nat)from by(simp;omega),trivial⟩ rfl,?_⟩,?_⟩
  ·repeat (first|exact trivial|refine And.intro rfl ?_)
  ·rintro⟨s7,s4_0,e2p⟩ ⟨n1,hc1,⟨hi1_0,hi1_1,hi1_2,-⟩,hf1⟩;have hf1:=hf1.trans (b7.eq_2 words s7 s4_0 e2p n1);refine vI hf1 iD (fun h1 hf1=>?_) (fun h1 hf1=>?_)
   ·refine vT iB rfl ?_;refine vI hf1 iD (fun h2 hf1=>?_) (fun h2 hf1=>?_)
    ·refine⟨_,rfl,rfl,(by omega),(by omega),?_⟩;refine vN hf1 (iN iB) (fun h3 hf1=>?_) (fun h3 hf1=>?_)
     ·rw[hf1]at hf0;rw[hf0]at h;exact h
     ·have hm1:((↑(ar (ix words (0:Int))).snd.fst.length:Int)-(e2p+eC (ar (ix words (0:Int))).snd.fst e2p)).toNat<((↑(ar (ix words (0:Int))).snd.fst.length:Int)- e2p).toNat:=by have:=dO (ar (ix words (0:Int))).2.1 e2p;omega
      refine⟨[],([],ax.mk s4_0.kind s4_0.node s4_0.«to» s4_0.i s4_0.key s4_0.op s4_0.names (cl s7).fst,e2p+eC (ar (ix words (0:Int))).snd.fst e2p),hm1,aF.next (s:=(s7,s4_0,e2p)) hc1 hm1 ⟨show(0:Int)≤e2p+eC (ar (ix words (0:Int))).snd.fst e2p from by have:=dO (ar (ix words (0:Int))).2.1 e2p;omega,show ∀(p:List UInt8),p∈ []→p.length≤(1000000:Nat)from by simp,show [].length≤(1000000:Nat)from by(simp only[List.length_append,List.length_cons,List.length_nil];omega),trivial⟩ hf1,?_⟩;repeat (first|exact trivial|refine And.intro rfl ?_)
    ·refine vI hf1 iD (fun h4 hf1=>?_) (fun h4 hf1=>?_)
     ·refine⟨_,rfl,rfl,(by omega),(by omega),?_⟩;refine vN hf1 (iN iB) (fun h5 hf1=>?_) (fun h5 hf1=>?_)
      ·rw[hf1]at hf0;rw[hf0]at h;exact h
      ·have hm1:((↑(ar (ix words (0:Int))).snd.fst.length:Int)-(e2p+eC (ar (ix words (0:Int))).snd.fst e2p)).toNat<((↑(ar (ix words (0:Int))).snd.fst.length:Int)- e2p).toNat:=by have:=dO (ar (ix words (0:Int))).2.1 e2p;omega
       refine⟨[],([],ax.mk s4_0.kind s4_0.node s4_0.«to» s4_0.i s4_0.key s4_0.op (bV s7).fst s4_0.who,e2p+eC (ar (ix words (0:Int))).snd.fst e2p),hm1,aF.next (s:=(s7,s4_0,e2p)) hc1 hm1 ⟨show(0:Int)≤e2p+eC (ar (ix words (0:Int))).snd.fst e2p from by have:=dO (ar (ix words (0:Int))).2.1 e2p;omega,show ∀(p:List UInt8),p∈ []→p.length≤(1000000:Nat)from by simp,show [].length≤(1000000:Nat)from by(simp only[List.length_append,List.length_cons,List.length_nil];omega),trivial⟩ hf1,?_⟩;repeat (first|exact trivial|refine And.intro rfl ?_)
     ·refine fun h6=>?_;have h6:(↑s7.length:Int)≤(9223372036854775807:Int):=h6.2;refine vI hf1 iD (fun h7 hf1=>?_) (fun h7 hf1=>?_)
      ·rw[hf1]at hf0;rw[hf0]at h;exact h
      ·refine And.intro (show(0:Int)≤(0:Int)∧(0:Int)<(↑s7.length:Int)from by omega) ?_;refine⟨_,_,_,rfl,rfl,(dK (by assumption) (by omega) (by omega)),?_⟩;refine And.intro (show(0:Int)≤(1:Int)∧(1:Int)≤(↑s7.length:Int)∧(↑s7.length:Int)≤(↑s7.length:Int)from by omega) ?_;refine vN hf1 (iN iB) (fun h8 hf1=>?_) (fun h8 hf1=>?_)
       ·rw[hf1]at hf0;rw[hf0]at h;exact h
       ·have hm1:((↑(ar (ix words (0:Int))).snd.fst.length:Int)-(e2p+eC (ar (ix words (0:Int))).snd.fst e2p)).toNat<((↑(ar (ix words (0:Int))).snd.fst.length:Int)- e2p).toNat:=by have:=dO (ar (ix words (0:Int))).2.1 e2p;omega
        refine⟨[],(List.drop (Int.toNat (1:Int)) s7,(cK s4_0 (jd (ar (ix words (0:Int))).snd.fst e2p) (ix s7 (0:Int))).snd,e2p+eC (ar (ix words (0:Int))).snd.fst e2p),hm1,aF.next (s:=(s7,s4_0,e2p)) hc1 hm1 ⟨show(0:Int)≤e2p+eC (ar (ix words (0:Int))).snd.fst e2p from by have:=dO (ar (ix words (0:Int))).2.1 e2p;omega,show ∀(p:List UInt8),p∈List.drop (Int.toNat (1:Int)) s7→p.length≤(1000000:Nat)from dl (by assumption) _,show(List.drop (Int.toNat (1:Int)) s7).length≤(1000000:Nat)from by(simp;omega),trivial⟩ hf1,?_⟩;repeat (first|exact trivial|refine And.intro rfl ?_)
   ·refine vF iB (by simp) ?_;rw[hf1]at hf0;refine .inl ⟨[(true,0),(true,1),(true,2),(true,3),(true,4),(true,5),(true,6),(true,7),(false,8),(true,9)],none,[0,3,4,5,6,7,8,9,10,11,12,13,14],by kernel_rfl,?_⟩;refine And.intro (show(0:Int)≤(0:Int)∧(0:Int)<(↑words.length:Int)from by omega) ?_;refine fun h9=>?_;have h9:(↑s7.length:Int)≤(9223372036854775807:Int):=h9.2;rw[hf0]at h;exact h
end Go.Proofs.YtfgofabojepcmaaGreatDoor.V
end

section
set_option linter.unusedVariables false
set_option linter.unusedSimpArgs false
set_option maxRecDepth 20000
set_option maxHeartbeats 4000000
namespace Go.Proofs.YtfgofabojepcmaaGreatDoor.V
open Go.RowKit
def Lh:bS U:= [(114,x5),(206,EI),(207,Ij)]
theorem BI:ay Tryz.prog U Lh:=ae BC (ae Ih (ae Lb (am)))
def eB(wd:List UInt8)(e:ax)(f:Int)(w:List UInt8):Bool×ax:=
 if f=(78:Int)then
  (decide ((0:Int)≤aE w),ax.mk e.kind (aE w) e.«to» e.i e.key e.op e.names e.who)
 else
  if f=(116:Int)then
   (decide ((0:Int)≤aE w),ax.mk e.kind e.node (aE w) e.i e.key e.op e.names e.who)
  else
   if f=(105:Int)then
    (decide ((0:Int)≤aE w),ax.mk e.kind e.node e.«to» (aE w) e.key e.op e.names e.who)
   else
    if f=(75:Int)then
     (true,ax.mk e.kind e.node e.«to» e.i w e.op e.names e.who)
    else
     if f=(87:Int)then
      (true,ax.mk e.kind e.node e.«to» e.i e.key (g8.mk e.op.act w e.op.val) e.names e.who)
     else
      if f=(83:Int)then
       ((d6 w).snd,ax.mk e.kind e.node e.«to» e.i e.key (g8.mk e.op.act e.op.name (d6 w).fst) e.names e.who)
      else
       if f=(70:Int)then
        ((cq w).snd,ax.mk e.kind e.node e.«to» e.i (cq w).fst e.op e.names e.who)
       else
        (true,e)
def Il:bZ U:=⟨[.n,.d (.int .u8),.d .str],fun xs es K=> ∃(wd:List UInt8) (e:ax) (f:Int) (w:List UInt8),xs= [⟨false,[(1,.ptr 0 1)]⟩,⟨false,[(1,.d (.int .u8) f)]⟩,⟨false,[(1,.d .str w)]⟩]∧es= [.cells [(1,.d .str wd),(10,.d (.st 4) e)] 89]∧K (.v ⟨false,[(1,.d .bool ((eB wd e f w).1))]⟩) [.cells [(1,.d .str wd),(10,.d (.st 4) ((eB wd e f w).2))] 89]⟩
theorem Li:aQ Tryz.prog U 118 Il:=by
 refine aT (fn:=Tryz.f118) BI aC (by kernel_rfl) Tryz.f118.ntmps [.d .bool] [(0,[(1,some .str),(10,some (.st 4))])] (by kernel_rfl) (by kernel_rfl) rfl rfl (by kernel_rfl) (fun xs es K=>?_);rintro⟨wd,e,f,w,rfl,rfl,h⟩;refine⟨rfl,?_⟩;have hf0:=eB.eq_1 wd e f w;refine vI hf0 iD (fun h0 hf0=>?_) (fun h0 hf0=>?_)
 ·refine⟨_,rfl,rfl,?_⟩;rw[hf0]at h;exact h
 ·refine vI hf0 iD (fun h1 hf0=>?_) (fun h1 hf0=>?_)
  ·refine⟨_,rfl,rfl,?_⟩;rw[hf0]at h;exact h
  ·refine vI hf0 iD (fun h2 hf0=>?_) (fun h2 hf0=>?_)
   ·refine⟨_,rfl,rfl,?_⟩;rw[hf0]at h;exact h
   ·refine vI hf0 iD (fun h3 hf0=>?_) (fun h3 hf0=>?_)
    ·rw[hf0]at h;exact h
    ·refine vI hf0 iD (fun h4 hf0=>?_) (fun h4 hf0=>?_)
     ·rw[hf0]at h;exact h
     ·refine vI hf0 iD (fun h5 hf0=>?_) (fun h5 hf0=>?_)
      ·refine⟨_,rfl,rfl,?_⟩;rw[hf0]at h;exact h
      ·refine vI hf0 iD (fun h6 hf0=>?_) (fun h6 hf0=>?_)
       ·refine⟨_,rfl,rfl,?_⟩;rw[hf0]at h;exact h
       ·rw[hf0]at h;exact h
end Go.Proofs.YtfgofabojepcmaaGreatDoor.V
end

section
set_option linter.unusedVariables false
set_option linter.unusedSimpArgs false
set_option maxRecDepth 20000
set_option maxHeartbeats 4000000
namespace Go.Proofs.YtfgofabojepcmaaGreatDoor.V
open Go.RowKit
def MR:bS U:= [(113,EH),(115,EJ),(117,Ik),(118,Il)]
theorem EK:ay Tryz.prog U MR:=ae Ig (ae Ii (ae Lg (ae Li (am))))
def bU(w:List (List UInt8)):Nat→Int→Int→ax→(aZ×Bool)⊕(Int×Int×ax)
 |0,s7,s8,s6_1=> .inr (s7,s8,s6_1)
 |n1+1,s7,s8,s6_1=>
  if s8<(↑(aA (ix w (0:Int))).snd.length:Int)then
   if(↑(ix (aA (ix w (0:Int))).snd s8).toNat:Int)=(76:Int)then
    if(bf (List.drop s7.toNat w)).snd=true then
     bU w n1 (↑w.length:Int) (s8+(1:Int)) (ax.mk s6_1.kind s6_1.node s6_1.«to» s6_1.i s6_1.key s6_1.op s6_1.names (bf (List.drop s7.toNat w)).fst)
    else
     .inl ((aZ.mk [] (ax.mk (0:Int) (0:Int) (0:Int) (0:Int) [] (g8.mk (0:Int) [] (0:Int)) [] []),false))
   else
    if(↑(ix (aA (ix w (0:Int))).snd s8).toNat:Int)=(80:Int)then
     if(aX (List.drop s7.toNat w)).snd=true then
      bU w n1 (↑w.length:Int) (s8+(1:Int)) (ax.mk s6_1.kind s6_1.node s6_1.«to» s6_1.i s6_1.key s6_1.op (aX (List.drop s7.toNat w)).fst s6_1.who)
     else
      .inl ((aZ.mk [] (ax.mk (0:Int) (0:Int) (0:Int) (0:Int) [] (g8.mk (0:Int) [] (0:Int)) [] []),false))
    else
     if((↑w.length:Int)≤s7)∨(ix w s7= [])then
      .inl ((aZ.mk [] (ax.mk (0:Int) (0:Int) (0:Int) (0:Int) [] (g8.mk (0:Int) [] (0:Int)) [] []),false))
     else
      if(eB (ix w (0:Int)) s6_1 (↑(ix (aA (ix w (0:Int))).snd s8).toNat:Int) (ix w s7)).fst=true then
       bU w n1 (s7+(1:Int)) (s8+(1:Int)) ((eB (ix w (0:Int)) s6_1 (↑(ix (aA (ix w (0:Int))).snd s8).toNat:Int) (ix w s7)).snd)
      else
       .inl ((aZ.mk [] (ax.mk (0:Int) (0:Int) (0:Int) (0:Int) [] (g8.mk (0:Int) [] (0:Int)) [] []),false))
  else
   .inr (s7,s8,s6_1)
def b6(w:List (List UInt8)):aZ×Bool:=
 if(aA (ix w (0:Int))).snd= []then
  (aZ.mk [] (ax.mk (0:Int) (0:Int) (0:Int) (0:Int) [] (g8.mk (0:Int) [] (0:Int)) [] []),false)
 else
  if(aA (ix w (0:Int))).snd= [(46:UInt8)]then
   (aZ.mk (ix w (0:Int)) (aA (ix w (0:Int))).fst,decide ((↑w.length:Int)=(1:Int)))
  else
   match bU w (((↑(aA (ix w (0:Int))).snd.length:Int)-(0:Int)).toNat+1) (1:Int) (0:Int) ((aA (ix w (0:Int))).fst)with
   | .inl r=>r
   | .inr (s7,s8,s6_1)=>
    (aZ.mk (ix w (0:Int)) s6_1,decide (s7=(↑w.length:Int)))
def LZ:bZ U:=⟨[.d (.sl .str)],fun xs es K=> ∃(w:List (List UInt8)),xs= [⟨false,[(1,.d (.sl .str) w)]⟩]∧es= []∧(1≤w.length)∧(w.length≤1000000)∧K (.tup [⟨true,[(11,.d (.st 5) ((b6 w).1))]⟩,⟨false,[(1,.d .bool ((b6 w).2))]⟩]) []⟩
theorem MS:aQ Tryz.prog U 48 LZ:=by
 refine aT (fn:=Tryz.f48) EK aC (by kernel_rfl) Tryz.f48.ntmps [.d (.st 5),.d .bool] [] (by kernel_rfl) (by kernel_rfl) rfl rfl (by kernel_rfl) (fun xs es K=>?_);rintro⟨w,rfl,rfl,hw,hl2,h⟩;refine⟨rfl,?_⟩;have hf0:=b6.eq_1 w;refine And.intro (show(0:Int)≤(0:Int)∧(0:Int)<(↑w.length:Int)from by omega) ?_;refine⟨_,rfl,rfl,?_⟩;refine .inl ⟨[(true,0),(true,1),(true,2),(true,3),(true,4),(false,5)],some 6,[2,3,4,5,6,7,8,9,10,11,12,13],by kernel_rfl,?_⟩;refine And.intro (show(0:Int)≤(0:Int)∧(0:Int)<(↑w.length:Int)from by omega) ?_;refine vI hf0 iD (fun h0 hf0=>?_) (fun h0 hf0=>?_)
 ·rw[hf0]at h;exact h
 ·refine vI hf0 iD (fun h1 hf0=>?_) (fun h1 hf0=>?_)
  ·refine fun h2=>?_;have h2:(↑w.length:Int)≤(9223372036854775807:Int):=h2.2;rw[hf0]at h;exact h
  ·refine⟨Int×Int×ax,3,fun(s7,s8,s6_1)=> [(0,.v ⟨false,[(1,.d (.sl .str) w)]⟩),(2,.v ⟨false,[(1,.ptr 0 0)]⟩),(5,.v ⟨false,[(1,.d .str ((aA (ix w (0:Int))).snd))]⟩),(6,.v ⟨false,[(1,.ptr 2 0)]⟩),(7,.v ⟨false,[(1,.d (.int .i64) s7)]⟩),(8,.v ⟨false,[(1,.d (.int .i64) s8)]⟩)],fun(s7,s8,s6_1)=> [(0,.cells [(1,.d .str []),(1,.d (.int .i64) (0:Int)),(1,.d (.int .i64) (0:Int)),(1,.d (.int .i64) (0:Int)),(1,.d (.int .i64) (0:Int)),(1,.d .str []),(1,.d (.int .i64) (0:Int)),(1,.d .str []),(1,.d (.int .i64) (0:Int)),(1,.nils),(1,.nils)] 89),(2,.cells [(1,.d .str ((ix w (0:Int)):List UInt8)),(10,.d (.st 4) s6_1)] 89)],aF (fun(s7,s8,s6_1)=>((↑(aA (ix w (0:Int))).snd.length:Int)- s8).toNat) (fun(s7,s8,s6_1)=>((0:Int)≤s8)∧(s8≤(↑(aA (ix w (0:Int))).snd.length:Int))∧(1≤s7)∧(s7≤(w.length:Int))∧True) (fun n1 (s7,s8,s6_1)=>bU w n1 s7 s8 s6_1) (bU w (((↑(aA (ix w (0:Int))).snd.length:Int)-(0:Int)).toNat+1) (1:Int) (0:Int) ((aA (ix w (0:Int))).fst)),fun(s7,s8,s6_1)=>((↑(aA (ix w (0:Int))).snd.length:Int)- s8).toNat,⟨[],((1:Int),(0:Int),(aA (ix w (0:Int))).fst),aF.mk0 _ (Nat.lt_succ_self _) ⟨show(0:Int)≤(0:Int)from by omega,show(0:Int)≤(↑(aA (ix w (0:Int))).snd.length:Int)from by omega,show(1:Int)≤(1:Int)from by omega,show(1:Int)≤(↑w.length:Int)from by omega,trivial⟩ rfl,?_⟩,?_⟩
   ·repeat (first|exact trivial|refine And.intro rfl ?_)
   ·rintro⟨s7,s8,s6_1⟩ ⟨n1,hc1,⟨hi1_0,hi1_1,hi1_2,hi1_3,-⟩,hf1⟩;have hf1:=hf1.trans (bU.eq_2 w s7 s8 s6_1 n1);refine fun h3=>?_;have h3:(↑(aA (ix w (0:Int))).snd.length:Int)≤(9223372036854775807:Int):=h3.2;refine vI hf1 iD (fun h4 hf1=>?_) (fun h4 hf1=>?_)
    ·refine And.intro (show(0:Int)≤s8∧s8<(↑(aA (ix w (0:Int))).snd.length:Int)from by omega) ?_;refine vI hf1 iD (fun h5 hf1=>?_) (fun h5 hf1=>?_)
     ·refine And.intro (show(0:Int)≤s7∧s7≤(↑w.length:Int)∧(↑w.length:Int)≤(↑w.length:Int)from by omega) ?_;refine⟨_,rfl,rfl,(show(List.drop s7.toNat w).length≤(1000000:Nat)from by(simp;omega)),?_⟩;refine fun h6=>?_;have h6:(↑w.length:Int)≤(9223372036854775807:Int):=h6.2;refine vN hf1 (iN iB) (fun h7 hf1=>?_) (fun h7 hf1=>?_)
      ·rw[hf1]at hf0;rw[hf0]at h;exact h
      ·refine .inl (And.intro (eb (p:=s8) (q:=(1:Int)) (r:=s8+(1:Int)) (by omega)) ?_);have hm1:((↑(aA (ix w (0:Int))).snd.length:Int)-(s8+(1:Int))).toNat<((↑(aA (ix w (0:Int))).snd.length:Int)- s8).toNat:=by omega
       refine⟨[],((↑w.length:Int),s8+(1:Int),ax.mk s6_1.kind s6_1.node s6_1.«to» s6_1.i s6_1.key s6_1.op s6_1.names (bf (List.drop s7.toNat w)).fst),hm1,aF.next (s:=(s7,s8,s6_1)) hc1 hm1 ⟨show(0:Int)≤s8+(1:Int)from by omega,show s8+(1:Int)≤(↑(aA (ix w (0:Int))).snd.length:Int)from by omega,show(1:Int)≤(↑w.length:Int)from by omega,show(↑w.length:Int)≤(↑w.length:Int)from by omega,trivial⟩ hf1,?_⟩;repeat (first|exact trivial|refine And.intro rfl ?_)
     ·refine vI hf1 iD (fun h8 hf1=>?_) (fun h8 hf1=>?_)
      ·refine And.intro (show(0:Int)≤s7∧s7≤(↑w.length:Int)∧(↑w.length:Int)≤(↑w.length:Int)from by omega) ?_;refine⟨_,rfl,rfl,(show(List.drop s7.toNat w).length≤(1000000:Nat)from by(simp;omega)),?_⟩;refine fun h9=>?_;have h9:(↑w.length:Int)≤(9223372036854775807:Int):=h9.2;refine vN hf1 (iN iB) (fun h10 hf1=>?_) (fun h10 hf1=>?_)
       ·rw[hf1]at hf0;rw[hf0]at h;exact h
       ·refine .inl (And.intro (eb (p:=s8) (q:=(1:Int)) (r:=s8+(1:Int)) (by omega)) ?_);have hm1:((↑(aA (ix w (0:Int))).snd.length:Int)-(s8+(1:Int))).toNat<((↑(aA (ix w (0:Int))).snd.length:Int)- s8).toNat:=by omega
        refine⟨[],((↑w.length:Int),s8+(1:Int),ax.mk s6_1.kind s6_1.node s6_1.«to» s6_1.i s6_1.key s6_1.op (aX (List.drop s7.toNat w)).fst s6_1.who),hm1,aF.next (s:=(s7,s8,s6_1)) hc1 hm1 ⟨show(0:Int)≤s8+(1:Int)from by omega,show s8+(1:Int)≤(↑(aA (ix w (0:Int))).snd.length:Int)from by omega,show(1:Int)≤(↑w.length:Int)from by omega,show(↑w.length:Int)≤(↑w.length:Int)from by omega,trivial⟩ hf1,?_⟩;repeat (first|exact trivial|refine And.intro rfl ?_)
      ·refine fun h11=>?_;have h11:(↑w.length:Int)≤(9223372036854775807:Int):=h11.2;refine And.intro (show decide ((↑w.length:Int)≤s7)=((44:Nat),false).snd→(0:Int)≤s7∧s7<(↑w.length:Int)from by(intro h;simp at h;omega)) ?_;refine vI hf1 (iO iD iD) (fun h12 hf1=>?_) (fun h12 hf1=>?_)
       ·rw[hf1]at hf0;rw[hf0]at h;exact h
       ·refine .inl ⟨[(true,0),(true,1),(true,2),(true,3),(true,4),(true,5),(true,6),(true,7),(false,8),(true,9)],none,[2,3,4,5,6,7,8,9,10,11,12,13,14],by kernel_rfl,?_⟩;refine And.intro (show(0:Int)≤s8∧s8<(↑(aA (ix w (0:Int))).snd.length:Int)from by omega) ?_;refine And.intro (show(0:Int)≤s7∧s7<(↑w.length:Int)from by omega) ?_;refine⟨_,_,_,_,rfl,rfl,?_⟩;refine .inl (And.intro (eb (p:=s7) (q:=(1:Int)) (r:=s7+(1:Int)) (by omega)) ?_);refine vN hf1 (iN iB) (fun h13 hf1=>?_) (fun h13 hf1=>?_)
        ·rw[hf1]at hf0;rw[hf0]at h;exact h
        ·refine .inl (And.intro (eb (p:=s8) (q:=(1:Int)) (r:=s8+(1:Int)) (by omega)) ?_);have hm1:((↑(aA (ix w (0:Int))).snd.length:Int)-(s8+(1:Int))).toNat<((↑(aA (ix w (0:Int))).snd.length:Int)- s8).toNat:=by omega
         refine⟨[],(s7+(1:Int),s8+(1:Int),(eB (ix w (0:Int)) s6_1 (↑(ix (aA (ix w (0:Int))).snd s8).toNat:Int) (ix w s7)).snd),hm1,aF.next (s:=(s7,s8,s6_1)) hc1 hm1 ⟨show(0:Int)≤s8+(1:Int)from by omega,show s8+(1:Int)≤(↑(aA (ix w (0:Int))).snd.length:Int)from by omega,show(1:Int)≤s7+(1:Int)from by omega,show s7+(1:Int)≤(↑w.length:Int)from by omega,trivial⟩ hf1,?_⟩;repeat (first|exact trivial|refine And.intro rfl ?_)
    ·rw[hf1]at hf0;refine fun h14=>?_;have h14:(↑w.length:Int)≤(9223372036854775807:Int):=h14.2;rw[hf0]at h;exact h
end Go.Proofs.YtfgofabojepcmaaGreatDoor.V
end

section
set_option linter.unusedVariables false
set_option linter.unusedSimpArgs false
set_option maxRecDepth 20000
namespace Go.Proofs.YtfgofabojepcmaaGreatDoor.V
open Go.RowKit
theorem ry(w:List UInt8): ∀b∈(aA w).2,b.toNat<128:=by
 rw[mP];by_cases hw:w∈kh
 ·simp only[kh,List.mem_cons,List.not_mem_nil,or_false]at hw;rcases hw with rfl|rfl|rfl|rfl|rfl|rfl|rfl|rfl|rfl|rfl|rfl|rfl|rfl|rfl|rfl|rfl|rfl|rfl|rfl|rfl|rfl|rfl|rfl|rfl|rfl|rfl|rfl|rfl|rfl|rfl|rfl|rfl|rfl|rfl|rfl|rfl|rfl|rfl<;>decide+kernel
 ·have hb:=(qf w).1;have:(ar w).2.2=false:=by
   rw[nV];have a1:gm T1 0 w=none:=eU _ _ _ (by
    intro p hp he;subst he;simp only[T1,List.mem_cons,List.not_mem_nil,or_false]at hp;rcases hp with rfl|rfl|rfl|rfl|rfl|rfl|rfl|rfl|rfl|rfl|rfl|rfl|rfl|rfl|rfl|rfl|rfl|rfl|rfl|rfl|rfl|rfl|rfl|rfl|rfl|rfl|rfl<;>first|rfl|exact absurd (by decide+kernel) hw)
   have a2:gm T2 0 w=none:=eU _ _ _ (by
    intro p hp he;subst he;simp only[T2,List.mem_cons,List.not_mem_nil,or_false]at hp;rcases hp with rfl|rfl|rfl|rfl|rfl|rfl<;>exact absurd (by decide+kernel) hw)
   have a3:gm T3 0 w=none:=eU _ _ _ (by
    intro p hp he;subst he;simp only[T3,List.mem_cons,List.not_mem_nil,or_false]at hp;rcases hp with rfl|rfl|rfl|rfl|rfl|rfl<;>exact absurd (by decide+kernel) hw)
   rw[a1,a2,a3];decide
  rw[this]at hb;have hf:(aA w).2= []:=by simpa using hb.symm
  rw[←mP,hf];intro b hb;cases hb
theorem tV(e:ax)(c:Int):(cK e c []).1=false:=by
 have h1:(aq []).2=false:=by decide+kernel
 have h2:(bu []).2=false:=by rw[mM];decide
 have h3:(cV []).2=false:=by
  have h:(cx [] [(45:UInt8)])=([],false):=by decide+kernel
  unfold cV;rw[h];simp[h1]
 unfold cK
 repeat' split
 all_goals first|exact h1|exact h2|exact h3|rfl
theorem wF(wd:List UInt8)(e:ax)(c:Int){w:List UInt8}(hw: ¬w= []):(cK e c w).1=(eB wd e c w).1∧((cK e c w).1=true→(cK e c w).2=(eB wd e c w).2):=by
 obtain⟨n1,n2⟩:=gR w;obtain⟨p1,p2⟩:=nU w;obtain⟨s1,s2⟩:=tQ w;unfold cK eB;by_cases h1:c=78
 ·rw[if_pos h1,if_pos h1];exact⟨n1,fun h=>by dsimp only;rw[n2 h]⟩
 rw[if_neg h1,if_neg h1];by_cases h2:c=116
 ·rw[if_pos h2,if_pos h2];exact⟨n1,fun h=>by dsimp only;rw[n2 h]⟩
 rw[if_neg h2,if_neg h2];by_cases h3:c=105
 ·rw[if_pos h3,if_pos h3];exact⟨n1,fun h=>by dsimp only;rw[n2 h]⟩
 rw[if_neg h3,if_neg h3];by_cases h4:c=75
 ·rw[if_pos h4,if_pos h4];exact⟨by simpa using hw,fun h=>rfl⟩
 rw[if_neg h4,if_neg h4];by_cases h5:c=70
 ·rw[if_pos h5,if_neg (by omega),if_neg (by omega),if_pos h5];exact⟨p1,fun h=>by dsimp only;rw[p2 h]⟩
 rw[if_neg h5];by_cases h6:c=87
 ·rw[if_pos h6,if_pos h6];exact⟨by simpa using hw,fun h=>rfl⟩
 rw[if_neg h6,if_neg h6];by_cases h7:c=83
 ·rw[if_pos h7,if_pos h7];exact⟨s1,fun h=>by dsimp only;rw[s2 h]⟩
 rw[if_neg h7,if_neg h7,if_neg h5];exact⟨by simpa using hw,fun h=>rfl⟩
def Gz(words:List (List UInt8)):(aZ×Bool)⊕((List (List UInt8))×ax×Int)→(aZ×Bool)⊕(Int×Int×ax)→Prop
 | .inl a,.inl b=>a.2=false∧b.2=false
 | .inr (rest,e,_),.inr (a,_,e')=>e=e'∧ ∃k:Nat,a=(k:Int)∧k≤words.length∧rest=words.drop k
 |_,_=>False
theorem o5(words:List (List UInt8))(f:List UInt8)(hf1:(ar (ix words 0)).2.1=f)(hf2:(aA (ix words 0)).2=f)(ha: ∀b∈f,b.toNat<128):
  ∀(n k i:Nat) (e:ax),k≤words.length→i≤f.length→f.length+1≤n+i→Gz words (b7 words n (words.drop k) e (i:Int)) (bU words n (k:Int) (i:Int) e)
 |0,k,i,e,h1,h2,h3=>by omega
 |n+1,k,i,e,h1,h2,h3=>by
  rw[b7,bU];rw[hf1,hf2];by_cases hi:i<f.length
  ·rw[if_pos (show(i:Int)<(f.length:Int)by omega),if_pos (show(i:Int)<(f.length:Int)by omega)];obtain⟨hd,_⟩:=wz f i hi;obtain⟨e1,e2⟩:=hd (ha _ (List.getElem_mem hi));have hx:ix f (i:Int)=f[i]:=cU f hi;rw[e1,e2,hx,Int.toNat_natCast];have ei:(i:Int)+1=((i+1:Nat):Int):=by omega
   by_cases c1:(f[i].toNat:Int)=76
   ·rw[if_pos c1,if_pos c1,oX];by_cases c2:(bf (words.drop k)).2=true
    ·rw[if_pos c2,if_pos c2,ei];have:=o5 words f hf1 hf2 ha n words.length (i+1) (ax.mk e.kind e.node e.«to» e.i e.key e.op e.names (bf (words.drop k)).fst) (Nat.le_refl _) hi (by omega)
     rwa [List.drop_length]at this
    ·rw[if_neg c2,if_neg c2];exact⟨rfl,rfl⟩
   ·rw[if_neg c1,if_neg c1];by_cases c3:(f[i].toNat:Int)=80
    ·rw[if_pos c3,if_pos c3,mN];by_cases c2:(aX (words.drop k)).2=true
     ·rw[if_pos c2,if_pos c2,ei];have:=o5 words f hf1 hf2 ha n words.length (i+1) (ax.mk e.kind e.node e.«to» e.i e.key e.op (aX (words.drop k)).fst e.who) (Nat.le_refl _) hi (by omega)
      rwa [List.drop_length]at this
     ·rw[if_neg c2,if_neg c2];exact⟨rfl,rfl⟩
    ·rw[if_neg c3,if_neg c3];by_cases hk:k<words.length
     ·have hdr:=kf words (j:=(k:Int)) (by omega) (by omega);rw[Int.toNat_natCast,show((k:Int)+1).toNat=k+1 by omega]at hdr;have h0:ix (words.drop k) 0=ix words (k:Int):=by rw[hdr];rfl
      rw[h0,if_neg (by rw[List.length_drop];omega)];by_cases hw:ix words (k:Int)= []
      ·rw[hw,if_neg (show ¬(cK e (f[i].toNat:Int) []).1=true by rw[tV];simp),if_pos (show(words.length:Int)≤(k:Int)∨([]:List UInt8)= []from .inr rfl)];exact⟨rfl,rfl⟩
      ·have hn: ¬((words.length:Int)≤(k:Int)∨ix words (k:Int)= []):=by rintro(h|h);omega;exact hw h
       obtain⟨q1,q2⟩:=wF (ix words 0) e (f[i].toNat:Int) hw;by_cases c4:(cK e (f[i].toNat:Int) (ix words (k:Int))).1=true
       ·rw[if_pos c4,if_neg hn,if_pos (q1▸c4),q2 c4,ei,show(k:Int)+1=((k+1:Nat):Int)by omega];have hd1:List.drop (Int.toNat 1) (words.drop k)=words.drop (k+1):=by rw[List.drop_drop];rfl
        rw[hd1];exact o5 words f hf1 hf2 ha n (k+1) (i+1) _ hk hi (by omega)
       ·rw[if_neg c4,if_neg hn,if_neg (fun q=>c4 (q1.symm▸q))];exact⟨rfl,rfl⟩
     ·have:k=words.length:=by omega
      subst this;rw[List.drop_length,if_pos (show(([]:List (List UInt8)).length:Int)=0 from rfl),if_pos (show(words.length:Int)≤(words.length:Int)∨ix words (words.length:Int)= []from .inl (Int.le_refl _))];exact⟨rfl,rfl⟩
  ·have:i=f.length:=by omega
   subst this;rw[if_neg (show ¬(f.length:Int)<(f.length:Int)by omega),if_neg (show ¬(f.length:Int)<(f.length:Int)by omega)];exact⟨rfl,k,rfl,h1,rfl⟩
theorem rA{words:List (List UInt8)}(hw:1≤words.length):(cy words).2=(b6 words).2∧((cy words).2=true→(cy words).1=(b6 words).1):=by
 obtain⟨b1,b2⟩:=qf (ix words 0);have ha:=ry (ix words 0);unfold cy b6;by_cases hf:(aA (ix words 0)).2= []
 ·have hk:(ar (ix words 0)).2.2=false:=by rw[b1,hf];rfl
  rw[if_pos hf,if_pos (.inl (by rw[hk];simp)),hk];exact⟨by simp,fun h=>by simp at h⟩
 ·have hk:(ar (ix words 0)).2.2=true:=by rw[b1];simpa using hf
  obtain⟨e1,e2⟩:=b2 hk;rw[if_neg hf,hk,e1,e2];by_cases hd:(aA (ix words 0)).2= [(46:UInt8)]
  ·rw[if_pos (.inr hd),if_pos hd];refine⟨?_,fun _=>rfl⟩;simp only[Bool.true_and];rw[decide_eq_decide];have:(List.drop (Int.toNat 1) words).length=words.length - 1:=List.length_drop ..;omega
  ·rw[if_neg (by rintro(h|h);exact h rfl;exact hd h),if_neg hd];have hL:=o5 words (aA (ix words 0)).2 e2 rfl ha (((↑(aA (ix words (0:Int))).snd.length:Int)-(0:Int)).toNat+1) 1 0 (aA (ix words 0)).1 hw (Nat.zero_le _) (by omega);have hL:Gz words (b7 words (((↑(aA (ix words (0:Int))).snd.length:Int)-(0:Int)).toNat+1) (List.drop (Int.toNat 1) words) (aA (ix words 0)).1 0) (bU words (((↑(aA (ix words (0:Int))).snd.length:Int)-(0:Int)).toNat+1) 1 0 (aA (ix words 0)).1):=hL;revert hL;cases b7 words (((↑(aA (ix words (0:Int))).snd.length:Int)-(0:Int)).toNat+1) (List.drop (Int.toNat 1) words) (aA (ix words 0)).1 0 with
   |inl a=>
    cases bU words (((↑(aA (ix words (0:Int))).snd.length:Int)-(0:Int)).toNat+1) 1 0 (aA (ix words 0)).1 with
    |inl b=>rintro⟨h1,h2⟩;dsimp only;rw[h1,h2];exact⟨rfl,fun h=>by cases h⟩
    |inr b=>exact fun h=>h.elim
   |inr a=>
    obtain⟨rest,e,p⟩:=a;cases bU words (((↑(aA (ix words (0:Int))).snd.length:Int)-(0:Int)).toNat+1) 1 0 (aA (ix words 0)).1 with
    |inl b=>exact fun h=>h.elim
    |inr b=>
     obtain⟨a,p',e'⟩:=b;rintro⟨rfl,k,rfl,hk,rfl⟩;dsimp only;refine⟨?_,fun _=>rfl⟩;rw[decide_eq_decide,List.length_drop];omega
end Go.Proofs.YtfgofabojepcmaaGreatDoor.V
end

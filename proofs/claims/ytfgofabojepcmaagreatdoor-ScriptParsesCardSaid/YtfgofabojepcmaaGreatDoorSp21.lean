/- Functions walked: printed by the walker. -/
import Derived.Test.YtfgofabojepcmaaGreatDoorSp20
import Derived.Test.YtfgofabojepcmaaGreatDoorSp16
import Derived.Test.YtfgofabojepcmaaGreatDoorSp17
import Derived.Test.YtfgofabojepcmaaGreatDoorSp19
section
set_option linter.unusedVariables false
set_option linter.unusedSimpArgs false
namespace Go.Proofs.YtfgofabojepcmaaGreatDoor.V
open Go.RowKit
theorem kj(l:List ah)(f:ah→Bool):c7 l f=l.any f:=by
 unfold c7 j7;rcases iR l f (eL l f) (fun fuel i _=>by rw[eL]) (((↑l.length:Int)-(0:Int)).toNat+1) 0 (Int.le_refl _) (by omega)with⟨⟨q,h⟩,h2⟩|⟨k,h,h0,h2⟩
 ·rw[h];have h2:l.any f=false:=h2;rw[h2];rfl
 ·rw[h];have h2:l.any f=true:=h2;rw[h2];simpa using h0
theorem wK(l:List (List Int))(n i:Int): ∀(fuel:Nat) (k last:Int) (b:List Bool),0≤k→(k=0→last= -1)→(0<k→last=ix (ix l i) (k - 1)∧0≤last)→
  (dw l n i fuel last k b= .inl false∧dD l n i fuel k b= .inl false)∨ ∃q1 q2 b',dw l n i fuel last k b= .inr (q1,q2,b')∧dD l n i fuel k b= .inr (q2,b')
 |0,k,last,b,h0,h1,h2=> .inr ⟨last,k,b,rfl,rfl⟩
 |fuel+1,k,last,b,h0,h1,h2=>by
  rw[dw,dD];by_cases hk:k<((ix l i).length:Int)
  ·rw[if_pos hk,if_pos hk];have hcond:((ix (ix l i) k≤last∨n≤ix (ix l i) k)∨ix b (ix (ix l i) k)=true)↔(((ix (ix l i) k<0∨n≤ix (ix l i) k)∨ix b (ix (ix l i) k)=true)∨(0<k∧ix (ix l i) k≤ix (ix l i) (k - 1))):=by
    rcases Int.lt_or_eq_of_le h0 with hp|hz
    ·obtain⟨e1,e2⟩:=h2 hp;constructor
     ·rintro((h|h)|h)
      ·exact .inr ⟨hp,by omega⟩
      ·exact .inl (.inl (.inr h))
      ·exact .inl (.inr h)
     ·rintro(((h|h)|h)|⟨_,h⟩)
      ·exact .inl (.inl (by omega))
      ·exact .inl (.inr h)
      ·exact .inr h
      ·exact .inl (.inl (by omega))
    ·have e1:=h1 hz.symm;constructor
     ·rintro((h|h)|h)
      ·exact .inl (.inl (.inl (by omega)))
      ·exact .inl (.inl (.inr h))
      ·exact .inl (.inr h)
     ·rintro(((h|h)|h)|⟨h,_⟩)
      ·exact .inl (.inl (by omega))
      ·exact .inl (.inr h)
      ·exact .inr h
      ·omega
   by_cases hc:(ix (ix l i) k≤last∨n≤ix (ix l i) k)∨ix b (ix (ix l i) k)=true
   ·rw[if_pos hc,if_pos (hcond.1 hc)];exact .inl ⟨rfl,rfl⟩
   ·rw[if_neg hc,if_neg (fun q=>hc (hcond.2 q))];refine wK l n i fuel (k+1) _ _ (by omega) (fun h=>by omega) (fun _=>⟨by rw[show k+1 - 1=k by omega],?_⟩);have hn: ¬ix (ix l i) k≤last:=fun q=>hc (.inl (.inl q));rcases Int.lt_or_eq_of_le h0 with hp|hz
    ·have:=(h2 hp).2;omega
    ·have:=h1 hz.symm;omega
  ·rw[if_neg hk,if_neg hk];exact .inr ⟨last,k,b,rfl,rfl⟩
theorem wM(l:List (List Int))(n:Int): ∀(fuel:Nat) (i:Int) (b:List Bool),(dx l n fuel i b= .inl false∧dE l n fuel i b= .inl false)∨ ∃q,dx l n fuel i b= .inr q∧dE l n fuel i b= .inr q
 |0,i,b=> .inr ⟨(i,b),rfl,rfl⟩
 |fuel+1,i,b=>by
  rw[dx,dE];by_cases hi:i<(l.length:Int)
  ·rw[if_pos hi,if_pos hi];by_cases hg:(((ix l i).length:Int)=0)∨(5<((ix l i).length:Int))
   ·rw[if_pos hg,if_pos hg];exact .inl ⟨rfl,rfl⟩
   ·rw[if_neg hg,if_neg hg];rcases wK l n i (((↑(ix l i).length:Int)-(0:Int)).toNat+1) 0 (-1) b (Int.le_refl _) (fun _=>rfl) (fun h=>by omega)with⟨h1,h2⟩|⟨q1,q2,b',h1,h2⟩
    ·rw[h1,h2];exact .inl ⟨rfl,rfl⟩
    ·rw[h1,h2];exact wM l n fuel (i+1) b'
  ·rw[if_neg hi,if_neg hi];exact .inr ⟨(i,b),rfl,rfl⟩
theorem t8(l:List (List Int))(n:Int):gq l n=gG l n:=by
 unfold gq gG;rcases wM l n (((↑l.length:Int)-(0:Int)).toNat+1) 0 (List.replicate n.toNat false)with⟨h1,h2⟩|⟨q,h1,h2⟩
 ·rw[h1,h2]
 ·rw[h1,h2]
theorem sS(c:ap): ∀(fuel:Nat) (i:Int),eP c fuel i=eX c fuel i
 |0,i=>rfl
 |fuel+1,i=>by rw[eP,eX,t7,sS c fuel (i+1)]
theorem GA(c:ap): ∃q,d8 c (((↑c.edges.length:Int)-(0:Int)).toNat+1) 0=if(c.edges.any fun t=>bW t c.cores)=true then .inl 2 else .inr q:=by
 obtain⟨q,h⟩:=dk c.edges (fun t=>!bW t c.cores) (2:Int) (d8 c) (fun fuel i _=>by
  rw[d8];split
  ·unfold bW;by_cases h1:(ix c.edges i).up<0∨c.cores≤(ix c.edges i).up
   ·rw[if_pos h1,if_neg (by simp only[Bool.not_eq_true',Bool.or_eq_false_iff,decide_eq_false_iff_not];omega)]
   ·rw[if_neg h1,if_pos (by simp only[Bool.not_eq_true',Bool.or_eq_false_iff,decide_eq_false_iff_not];omega)]
  ·rfl)
 refine⟨q,?_⟩;rw[h,←List.not_any_eq_all_not];cases c.edges.any fun t=>bW t c.cores<;>rfl
theorem GB(c:ap): ∃q,d7 c (((↑c.devices.length:Int)-(0:Int)).toNat+1) 0=if(c.devices.any fun t=>bW t (c.edges.length:Int))=true then .inl 2 else .inr q:=by
 obtain⟨q,h⟩:=dk c.devices (fun t=>!bW t (c.edges.length:Int)) (2:Int) (d7 c) (fun fuel i _=>by
  rw[d7];split
  ·unfold bW;by_cases h1:(ix c.devices i).up<0∨(c.edges.length:Int)≤(ix c.devices i).up
   ·rw[if_pos h1,if_neg (by simp only[Bool.not_eq_true',Bool.or_eq_false_iff,decide_eq_false_iff_not];omega)]
   ·rw[if_neg h1,if_pos (by simp only[Bool.not_eq_true',Bool.or_eq_false_iff,decide_eq_false_iff_not];omega)]
  ·rfl)
 refine⟨q,?_⟩;rw[h,←List.not_any_eq_all_not];cases c.devices.any fun t=>bW t (c.edges.length:Int)<;>rfl
theorem wN(c:ap):fS c=dF c:=by
 unfold fS dF eM;rw[kj,kj];obtain⟨q1,h1⟩:=GA c;obtain⟨q2,h2⟩:=GB c;rw[h1,h2];by_cases ha:(((c.cores<(1:Int))∨((3:Int)<c.cores))∨((4:Int)<(↑c.edges.length:Int)))∨((6:Int)<(↑c.devices.length:Int))
 ·rw[if_pos ha,if_neg (show ¬false=true by simp),if_pos (show(((((((c.cores<(1:Int))∨((3:Int)<c.cores))∨((4:Int)<(↑c.edges.length:Int)))∨((6:Int)<(↑c.devices.length:Int)))∨(c.disk.mark<(1:Int)))∨((400:Int)<c.disk.mark))∨(c.disk.journal<(2:Int)))∨(IntKind.i64.wrap ((1024:Int)- IntKind.i64.wrap ((2:Int)*c.disk.mark))<c.disk.journal)from .inl (.inl (.inl (.inl ha))))]
 ·rw[if_neg ha];by_cases hb:(((c.disk.mark<(1:Int))∨((400:Int)<c.disk.mark))∨(c.disk.journal<(2:Int)))∨(IntKind.i64.wrap ((1024:Int)- IntKind.i64.wrap ((2:Int)*c.disk.mark))<c.disk.journal)
  ·rw[if_pos hb,if_neg (show ¬false=true by simp),if_pos (show(((((((c.cores<(1:Int))∨((3:Int)<c.cores))∨((4:Int)<(↑c.edges.length:Int)))∨((6:Int)<(↑c.devices.length:Int)))∨(c.disk.mark<(1:Int)))∨((400:Int)<c.disk.mark))∨(c.disk.journal<(2:Int)))∨(IntKind.i64.wrap ((1024:Int)- IntKind.i64.wrap ((2:Int)*c.disk.mark))<c.disk.journal)from ?_)];rcases hb with((h|h)|h)|h
   ·exact .inl (.inl (.inl (.inr h)))
   ·exact .inl (.inl (.inr h))
   ·exact .inl (.inr h)
   ·exact .inr h
  ·have hr: ¬((((((((c.cores<(1:Int))∨((3:Int)<c.cores))∨((4:Int)<(↑c.edges.length:Int)))∨((6:Int)<(↑c.devices.length:Int)))∨(c.disk.mark<(1:Int)))∨((400:Int)<c.disk.mark))∨(c.disk.journal<(2:Int)))∨(IntKind.i64.wrap ((1024:Int)- IntKind.i64.wrap ((2:Int)*c.disk.mark))<c.disk.journal)):=fun q=>by
    rcases q with(((q|q)|q)|q)|q
    ·exact ha q
    ·exact hb (.inl (.inl (.inl q)))
    ·exact hb (.inl (.inl (.inr q)))
    ·exact hb (.inl (.inr q))
    ·exact hb (.inr q)
   rw[if_neg hb,if_neg hr];cases hE:(c.edges.any fun t=>bW t c.cores)with
   |true=>rfl
   |false=>
    cases hD:(c.devices.any fun t=>bW t (c.edges.length:Int))with
    |true=>rfl
    |false=>
     rw[sS,t8];rfl
end Go.Proofs.YtfgofabojepcmaaGreatDoor.V
end

section
set_option linter.unusedVariables false
set_option linter.unusedSimpArgs false
set_option maxRecDepth 20000
set_option maxHeartbeats 4000000
namespace Go.Proofs.YtfgofabojepcmaaGreatDoor.V
open Go.RowKit
def B4:bZ U:=⟨[.n],fun xs es K=> ∃(cores:Int) (eds dvs:List ah) (grs:List (List Int)) (disk:ak),xs= [⟨true,[(1,.d (.int .i64) cores),(1,.own 0 0),(1,.own 1 0),(1,.own 2 0),(2,.d (.st 1) disk)]⟩]∧es= [.row 0 (.st 0) eds 256,.row 0 (.st 0) dvs 256,.row 0 (.sl (.int .i64)) grs 35]∧
 eds.length≤1000000∧dvs.length≤1000000∧(∀p∈eds,eO p)∧(∀p∈dvs,eO p)∧K (.v ⟨false,[(1,.d (.int .i64) (fS ⟨cores,eds,dvs,grs,disk⟩))]⟩) [.row 0 (.st 0) eds 256,.row 0 (.st 0) dvs 256,.row 0 (.sl (.int .i64)) grs 35]⟩
theorem F9:aQ Tryz.prog U 112 B4:=fun [F:al] hpr X w ρ es0 xs vs K M hv hrun=>by
 obtain⟨cores,eds,dvs,grs,disk,rfl,rfl,hc1,hc2,he,hd,hK⟩:=hrun;obtain⟨v,us,rfl,h1,h2⟩:=hv;rw[show us= []from h2];obtain⟨H',t,ht,M',s',hden⟩:=jp (s:= .st 2) (x:=(⟨true,[(1,.d (.int .i64) cores),(1,.own 0 0),(1,.own 1 0),(1,.own 2 0),(2,.d (.st 1) disk)]⟩:Va U)) (K:=fun _ t=>t=(⟨cores,eds,dvs,grs,disk⟩:ap)) (by exact rfl) M;have ht:t=(⟨cores,eds,dvs,grs,disk⟩:ap):=ht;subst ht;have hd0:=hden v h1;have M0:bd U X (· =w) ρ ([]:List (aN U)).length (aJ 0 []):=zm (F0:=F) (M.lo w rfl) M.xs M.gv;have hd1:=aG.mv (Mv.sub (S:=(· =w)) (Y':=aj ρ (aJ 0 ([]:List (aN U)))++X) (fun y hy=>List.mem_append_right (aj ρ H') hy)) hd0;refine Fn.mono (Js hpr X w ρ [] [⟨true,[(6,.d (.st 2) (⟨cores,eds,dvs,grs,disk⟩:ap))]⟩] [v] (fun r es=>r= .v ⟨false,[(1,.d (.int .i64) (fS ⟨cores,eds,dvs,grs,disk⟩))]⟩∧es= []) M0 ⟨v,[],rfl,sg hd1 (ma h1),rfl⟩ ⟨_,rfl,rfl,hc1,hc2,he,hd,rfl,rfl⟩) ?_;rintro r w' ⟨av,es',ρ',⟨rfl,rfl⟩,hav,M2,st⟩;have hf:Fr [] w w':=st.fr;obtain⟨e1,e2⟩:=aG.inv (show aG U _ _ (.int .i64) _ [r]from(bK.one1 hav).1);injection e1 with e1;subst e1;exact⟨_,_,ρ,hK,eD (aG.int .i64 _ e2),(M.keep0 hf).1,(M.keep0 hf).2⟩
end Go.Proofs.YtfgofabojepcmaaGreatDoor.V
end

section
set_option linter.unusedVariables false
set_option linter.unusedSimpArgs false
set_option maxRecDepth 20000
set_option maxHeartbeats 4000000
namespace Go.Proofs.YtfgofabojepcmaaGreatDoor.V
open Go.RowKit
def GN:bS U:= [(198,qm),(199,AI),(200,ue)]
theorem wZ:ay Tryz.prog U GN:=ae rE (ae Eh (ae wY (am)))
def cF(cores:Int)(eds:List ah)(dvs:List ah)(grs:List (List Int))(disk:ak)(lns:List aZ)(stage:Int)(words:List (List UInt8)):Bool×(List ah):=
 if(↑words.length:Int)=(0:Int)then
  (false,eds)
 else
  ((aq (ix words (0:Int))).snd&&(bV (List.drop (Int.toNat (1:Int)) words)).snd,eds++ [ah.mk (aq (ix words (0:Int))).fst (bV (List.drop (Int.toNat (1:Int)) words)).fst])
def B8:bZ U:=⟨[.n,.d (.sl .str)],fun xs es K=> ∃(cores:Int) (eds:List ah) (dvs:List ah) (grs:List (List Int)) (disk:ak) (lns:List aZ) (stage:Int) (words:List (List UInt8)),xs= [⟨false,[(1,.ptr 0 1)]⟩,⟨false,[(1,.d (.sl .str) words)]⟩]∧es= [.cells [(1,.d (.int .i64) cores),(1,.own 1 0),(1,.own 2 0),(1,.own 3 0),(2,.d (.st 1) disk),(1,.own 4 0),(1,.d (.int .i64) stage)] 149,.row 0 (.st 0) eds 256,.row 0 (.st 0) dvs 256,.row 0 (.sl (.int .i64)) grs 35,.row 0 (.st 5) lns 84]∧(words.length≤1000000)∧(∀p∈words,p.length≤1000000)∧(eds.length≤1000000)∧(dvs.length≤1000000)∧(grs.length≤1000000)∧(lns.length≤1000000)∧K (.v ⟨false,[(1,.d .bool ((cF cores eds dvs grs disk lns stage words).1))]⟩) [.cells [(1,.d (.int .i64) cores),(1,.own 1 1),(1,.own 2 1),(1,.own 3 1),(2,.d (.st 1) disk),(1,.own 4 1),(1,.d (.int .i64) stage)] 149,.row 1 (.st 0) ((cF cores eds dvs grs disk lns stage words).2) 256,.row 1 (.st 0) dvs 256,.row 1 (.sl (.int .i64)) grs 35,.row 1 (.st 5) lns 84]⟩
theorem GO:aQ Tryz.prog U 202 B8:=by
 refine mD (fn:=Tryz.f202) wZ aC (by kernel_rfl) Tryz.f202.ntmps [.d .bool] [(0,[(1,some (.int .i64)),(1,none),(1,none),(1,none),(2,some (.st 1)),(1,none),(1,some (.int .i64))])] (by kernel_rfl) (by kernel_rfl) rfl rfl (by kernel_rfl) (fun xs es K=>?_);rintro⟨cores,eds,dvs,grs,disk,lns,stage,words,rfl,rfl,hl2,hl,ht1,ht2,ht3,ht4,h⟩;refine⟨rfl,?_⟩;have hf0:=cF.eq_1 cores eds dvs grs disk lns stage words;refine fun h0=>?_;have h0:(↑words.length:Int)≤(9223372036854775807:Int):=h0.2;refine vI hf0 iD (fun h1 hf0=>?_) (fun h1 hf0=>?_)
 ·rw[hf0]at h;exact h
 ·refine And.intro (show(0:Int)≤(0:Int)∧(0:Int)<(↑words.length:Int)from by omega) ?_;refine⟨_,rfl,rfl,(dK (by assumption) (by omega) (by omega)),?_⟩;refine And.intro (show(0:Int)≤(1:Int)∧(1:Int)≤(↑words.length:Int)∧(↑words.length:Int)≤(↑words.length:Int)from by omega) ?_;refine⟨_,rfl,rfl,(show(List.drop (Int.toNat (1:Int)) words).length≤(1000000:Nat)from by(simp;omega)),(dl (by assumption) _),?_⟩;refine And.intro (show(eds.length+ [ah.mk (aq (ix words (0:Int))).fst (bV (List.drop (Int.toNat (1:Int)) words)).fst].length)*(32:Nat)≤(140737488355328:Nat)from by(simp only[List.length_append,List.length_cons,List.length_nil];omega)) ?_;rw[hf0]at h;exact h
end Go.Proofs.YtfgofabojepcmaaGreatDoor.V
end

section
set_option linter.unusedVariables false
set_option linter.unusedSimpArgs false
set_option maxRecDepth 20000
set_option maxHeartbeats 4000000
namespace Go.Proofs.YtfgofabojepcmaaGreatDoor.V
open Go.RowKit
def GP:bS U:= [(198,qm),(199,AI),(200,ue)]
theorem w4:ay Tryz.prog U GP:=ae rE (ae Eh (ae wY (am)))
def cG(cores:Int)(eds:List ah)(dvs:List ah)(grs:List (List Int))(disk:ak)(lns:List aZ)(stage:Int)(words:List (List UInt8)):Bool×(List ah):=
 if(↑words.length:Int)=(0:Int)then
  (false,dvs)
 else
  ((aq (ix words (0:Int))).snd&&(bV (List.drop (Int.toNat (1:Int)) words)).snd,dvs++ [ah.mk (aq (ix words (0:Int))).fst (bV (List.drop (Int.toNat (1:Int)) words)).fst])
def B9:bZ U:=⟨[.n,.d (.sl .str)],fun xs es K=> ∃(cores:Int) (eds:List ah) (dvs:List ah) (grs:List (List Int)) (disk:ak) (lns:List aZ) (stage:Int) (words:List (List UInt8)),xs= [⟨false,[(1,.ptr 0 2)]⟩,⟨false,[(1,.d (.sl .str) words)]⟩]∧es= [.cells [(1,.d (.int .i64) cores),(1,.own 1 0),(1,.own 2 0),(1,.own 3 0),(2,.d (.st 1) disk),(1,.own 4 0),(1,.d (.int .i64) stage)] 149,.row 0 (.st 0) eds 256,.row 0 (.st 0) dvs 256,.row 0 (.sl (.int .i64)) grs 35,.row 0 (.st 5) lns 84]∧(words.length≤1000000)∧(∀p∈words,p.length≤1000000)∧(eds.length≤1000000)∧(dvs.length≤1000000)∧(grs.length≤1000000)∧(lns.length≤1000000)∧K (.v ⟨false,[(1,.d .bool ((cG cores eds dvs grs disk lns stage words).1))]⟩) [.cells [(1,.d (.int .i64) cores),(1,.own 1 1),(1,.own 2 1),(1,.own 3 1),(2,.d (.st 1) disk),(1,.own 4 1),(1,.d (.int .i64) stage)] 149,.row 1 (.st 0) eds 256,.row 1 (.st 0) ((cG cores eds dvs grs disk lns stage words).2) 256,.row 1 (.sl (.int .i64)) grs 35,.row 1 (.st 5) lns 84]⟩
theorem GQ:aQ Tryz.prog U 202 B9:=by
 refine mD (fn:=Tryz.f202) w4 aC (by kernel_rfl) Tryz.f202.ntmps [.d .bool] [(0,[(1,some (.int .i64)),(1,none),(1,none),(1,none),(2,some (.st 1)),(1,none),(1,some (.int .i64))])] (by kernel_rfl) (by kernel_rfl) rfl rfl (by kernel_rfl) (fun xs es K=>?_);rintro⟨cores,eds,dvs,grs,disk,lns,stage,words,rfl,rfl,hl2,hl,ht1,ht2,ht3,ht4,h⟩;refine⟨rfl,?_⟩;have hf0:=cG.eq_1 cores eds dvs grs disk lns stage words;refine fun h0=>?_;have h0:(↑words.length:Int)≤(9223372036854775807:Int):=h0.2;refine vI hf0 iD (fun h1 hf0=>?_) (fun h1 hf0=>?_)
 ·rw[hf0]at h;exact h
 ·refine And.intro (show(0:Int)≤(0:Int)∧(0:Int)<(↑words.length:Int)from by omega) ?_;refine⟨_,rfl,rfl,(dK (by assumption) (by omega) (by omega)),?_⟩;refine And.intro (show(0:Int)≤(1:Int)∧(1:Int)≤(↑words.length:Int)∧(↑words.length:Int)≤(↑words.length:Int)from by omega) ?_;refine⟨_,rfl,rfl,(show(List.drop (Int.toNat (1:Int)) words).length≤(1000000:Nat)from by(simp;omega)),(dl (by assumption) _),?_⟩;refine And.intro (show(dvs.length+ [ah.mk (aq (ix words (0:Int))).fst (bV (List.drop (Int.toNat (1:Int)) words)).fst].length)*(32:Nat)≤(140737488355328:Nat)from by(simp only[List.length_append,List.length_cons,List.length_nil];omega)) ?_;rw[hf0]at h;exact h
end Go.Proofs.YtfgofabojepcmaaGreatDoor.V
end

section
set_option linter.unusedVariables false
set_option linter.unusedSimpArgs false
set_option maxRecDepth 20000
set_option maxHeartbeats 4000000
namespace Go.Proofs.YtfgofabojepcmaaGreatDoor.V
open Go.RowKit
def GR:bZ U:=LE B8 B9
theorem Kx:aQ Tryz.prog U 202 GR:=I1 GO GQ
def Ky:bS U:= [(197,Eg),(198,qm),(202,GR)]
theorem AN:ay Tryz.prog U Ky:=ae GI (ae rE (ae Kx (am)))
def au(cores:Int)(eds:List ah)(dvs:List ah)(grs:List (List Int))(disk:ak)(lns:List aZ)(stag:Int)(stage:Int)(words:List (List UInt8)):Int×Bool×Int×ak×(List ah)×(List ah)×(List (List Int)):=
 if stage=(0:Int)then
  if((¬ix words (0:Int)= [(99:UInt8),(111:UInt8),(108:UInt8),(111:UInt8),(110:UInt8),(121:UInt8)])∨(¬((cl (List.drop (Int.toNat (1:Int)) words)).snd=true)))∨(¬(↑(cl (List.drop (Int.toNat (1:Int)) words)).fst.length:Int)=(3:Int))then
   ((0:Int),false,cores,disk,eds,dvs,grs)
  else
   ((1:Int),true,ix (cl (List.drop (Int.toNat (1:Int)) words)).fst (0:Int),ak.mk (ix (cl (List.drop (Int.toNat (1:Int)) words)).fst (1:Int)) (ix (cl (List.drop (Int.toNat (1:Int)) words)).fst (2:Int)),eds,dvs,grs)
 else
  if(ix words (0:Int)= [(101:UInt8),(100:UInt8),(103:UInt8),(101:UInt8)])∧(stage=(1:Int))then
   ((1:Int),(cF cores eds dvs grs disk lns stag (List.drop (Int.toNat (1:Int)) words)).fst,cores,disk,(cF cores eds dvs grs disk lns stag (List.drop (Int.toNat (1:Int)) words)).snd,dvs,grs)
  else
   if(ix words (0:Int)= [(100:UInt8),(101:UInt8),(118:UInt8),(105:UInt8),(99:UInt8),(101:UInt8)])∧(stage≤(2:Int))then
    ((2:Int),(cG cores eds dvs grs disk lns stag (List.drop (Int.toNat (1:Int)) words)).fst,cores,disk,eds,(cG cores eds dvs grs disk lns stag (List.drop (Int.toNat (1:Int)) words)).snd,grs)
   else
    if ix words (0:Int)= [(103:UInt8),(114:UInt8),(111:UInt8),(117:UInt8),(112:UInt8)]then
     ((3:Int),(cl (List.drop (Int.toNat (1:Int)) words)).snd,cores,disk,eds,dvs,grs++ [(cl (List.drop (Int.toNat (1:Int)) words)).fst])
    else
     ((4:Int),decide (ix words (0:Int)= [(103:UInt8),(111:UInt8)])&&decide ((↑(List.drop (Int.toNat (1:Int)) words).length:Int)=(0:Int)),cores,disk,eds,dvs,grs)
def GS:bZ U:=⟨[.p [(1,some (.int .i64)),(1,none),(1,none),(1,none),(2,some (.st 1)),(1,none),(1,some (.int .i64))],.d (.int .i64),.d (.sl .str)],fun xs es K=> ∃(cores:Int) (eds:List ah) (dvs:List ah) (grs:List (List Int)) (disk:ak) (lns:List aZ) (stag:Int) (stage:Int) (words:List (List UInt8)),xs= [⟨false,[(1,.ptr 0 0)]⟩,⟨false,[(1,.d (.int .i64) stage)]⟩,⟨false,[(1,.d (.sl .str) words)]⟩]∧es= [.cells [(1,.d (.int .i64) cores),(1,.own 1 0),(1,.own 2 0),(1,.own 3 0),(2,.d (.st 1) disk),(1,.own 4 0),(1,.d (.int .i64) stag)] 149,.row 0 (.st 0) eds 256,.row 0 (.st 0) dvs 256,.row 0 (.sl (.int .i64)) grs 35,.row 0 (.st 5) lns 84]∧(1≤words.length)∧(words.length≤1000000)∧(∀p∈words,p.length≤1000000)∧(eds.length≤1000000)∧(dvs.length≤1000000)∧(grs.length≤1000000)∧(lns.length≤1000000)∧K (.tup [⟨false,[(1,.d (.int .i64) ((au cores eds dvs grs disk lns stag stage words).1))]⟩,⟨false,[(1,.d .bool ((au cores eds dvs grs disk lns stag stage words).2.1))]⟩]) [.cells [(1,.d (.int .i64) ((au cores eds dvs grs disk lns stag stage words).2.2.1)),(1,.own 1 1),(1,.own 2 1),(1,.own 3 1),(2,.d (.st 1) ((au cores eds dvs grs disk lns stag stage words).2.2.2.1)),(1,.own 4 1),(1,.d (.int .i64) stag)] 149,.row 1 (.st 0) ((au cores eds dvs grs disk lns stag stage words).2.2.2.2.1) 256,.row 1 (.st 0) ((au cores eds dvs grs disk lns stag stage words).2.2.2.2.2.1) 256,.row 1 (.sl (.int .i64)) ((au cores eds dvs grs disk lns stag stage words).2.2.2.2.2.2) 35,.row 1 (.st 5) lns 84]⟩
theorem Kz:aQ Tryz.prog U 111 GS:=by
 refine mD (fn:=Tryz.f111) AN aC (by kernel_rfl) Tryz.f111.ntmps [.d (.int .i64),.d .bool] [(0,[(1,some (.int .i64)),(1,none),(1,none),(1,none),(2,some (.st 1)),(1,none),(1,some (.int .i64))])] (by kernel_rfl) (by kernel_rfl) rfl rfl (by kernel_rfl) (fun xs es K=>?_);rintro⟨cores,eds,dvs,grs,disk,lns,stag,stage,words,rfl,rfl,hw,hl2,hl,ht1,ht2,ht3,ht4,h⟩;refine⟨rfl,?_⟩;have hf0:=au.eq_1 cores eds dvs grs disk lns stag stage words;refine .inl ⟨[(true,0),(true,1),(true,2),(true,3),(true,4),(true,5),(true,6)],none,[5,6,7,8,9,10,11,12,13,14,15,16],by kernel_rfl,?_⟩;refine And.intro (show(0:Int)≤(0:Int)∧(0:Int)<(↑words.length:Int)from by omega) ?_;refine And.intro (show(0:Int)≤(1:Int)∧(1:Int)≤(↑words.length:Int)∧(↑words.length:Int)≤(↑words.length:Int)from by omega) ?_;refine vI hf0 iD (fun h0 hf0=>?_) (fun h0 hf0=>?_)
 ·refine⟨_,rfl,rfl,(show(List.drop (Int.toNat (1:Int)) words).length≤(1000000:Nat)from by(simp;omega)),(dl (by assumption) _),?_⟩;refine vI hf0 (iO (iO iD (iN iB)) iD) (fun h1 hf0=>?_) (fun h1 hf0=>?_)
  ·rw[hf0]at h;exact h
  ·refine .inl ⟨[(true,0),(true,1),(true,2),(true,3),(true,4),(true,5),(true,6),(true,7),(true,8),(true,9),(true,10),(true,11),(true,12),(true,13),(false,14),(true,15),(true,16),(true,17),(false,18),(true,19),(true,20),(true,21)],some 22,[0,1,2,3,4,5,6,7,8,9,10,11,12,13,14,15,16],by kernel_rfl,?_⟩;refine And.intro (show(0:Int)≤(0:Int)∧(0:Int)<(↑(cl (List.drop (Int.toNat (1:Int)) words)).fst.length:Int)from by omega) ?_;refine And.intro (show(0:Int)≤(1:Int)∧(1:Int)<(↑(cl (List.drop (Int.toNat (1:Int)) words)).fst.length:Int)from by omega) ?_;refine And.intro (show(0:Int)≤(2:Int)∧(2:Int)<(↑(cl (List.drop (Int.toNat (1:Int)) words)).fst.length:Int)from by omega) ?_;rw[hf0]at h;exact h
 ·refine vI hf0 (iA iD iD) (fun h2 hf0=>?_) (fun h2 hf0=>?_)
  ·refine⟨true,_,_,_,_,_,_,_,_,rfl,rfl,(show(List.drop (Int.toNat (1:Int)) words).length≤(1000000:Nat)from by(simp;omega)),(dl (by assumption) _),(by omega),(by omega),(by omega),(by omega),?_⟩;rw[hf0]at h;exact h
  ·refine vI hf0 (iA iD iD) (fun h3 hf0=>?_) (fun h3 hf0=>?_)
   ·refine⟨false,_,_,_,_,_,_,_,_,rfl,rfl,(show(List.drop (Int.toNat (1:Int)) words).length≤(1000000:Nat)from by(simp;omega)),(dl (by assumption) _),(by omega),(by omega),(by omega),(by omega),?_⟩;rw[hf0]at h;exact h
   ·refine vI hf0 iD (fun h4 hf0=>?_) (fun h4 hf0=>?_)
    ·refine⟨_,rfl,rfl,(show(List.drop (Int.toNat (1:Int)) words).length≤(1000000:Nat)from by(simp;omega)),(dl (by assumption) _),?_⟩;refine And.intro (show(grs.length+ [(cl (List.drop (Int.toNat (1:Int)) words)).fst].length)*(24:Nat)≤(140737488355328:Nat)from by(simp only[List.length_append,List.length_cons,List.length_nil];omega)) ?_;rw[hf0]at h;exact h
    ·rw[hf0]at h;exact h
end Go.Proofs.YtfgofabojepcmaaGreatDoor.V
end

section
set_option linter.unusedVariables false
set_option linter.unusedSimpArgs false
set_option maxRecDepth 20000
set_option maxHeartbeats 4000000
namespace Go.Proofs.YtfgofabojepcmaaGreatDoor.V
open Go.RowKit
theorem bD(s:List UInt8)(c:UInt8):1≤(Lib.split s [c]).length∧(Lib.split s [c]).length≤s.length+1:=by
 have h:=jv (s:=s) (sep:= [c]) (Nat.le_refl 1);have hcount:Lib.count s [c]≤s.length:=by
  have:=Lib.countB_le ⟨[c].toArray⟩ (by simp[ByteArray.size]) s.length ⟨s.toArray⟩ (by simp[ByteArray.size]);simpa[ByteArray.size]using this
 omega
theorem iq(s:List UInt8): ∀(n:Nat) (k:Int) (r:List UInt8×Bool),cO s n k= .inl r→r=([],false)
 |0,k,r,h=>by cases h
 |n+1,k,r,h=>by
  rw[cO]at h;split at h
  ·split at h
   ·exact iq s n _ r h
   ·injection h with h;exact h.symm
  ·cases h
theorem rn(s:List UInt8):(bu s).1.length≤s.length:=by
 unfold bu;split
 ·simp
 ·split
  ·rename_i r h;rw[iq s _ _ r h];simp
  ·exact Nat.le_refl _
theorem lw{l:List (List UInt8)}{m:Nat}(hl: ∀p∈l,p.length≤m): ∀(n:Nat) (k:Int) (acc:List (List UInt8)),(acc.length:Int)≤k→k≤l.length→(∀p∈acc,p.length≤m)→
  (match ew l n k acc with| .inl r=>r=([],false)| .inr q=>(q.2.length:Int)≤l.length∧ ∀p∈q.2,p.length≤m)
 |0,k,acc,h1,h2,h3=>⟨by show(acc.length:Int)≤_;omega,h3⟩
 |n+1,k,acc,h1,h2,h3=>by
  rw[ew];by_cases h:k<(l.length:Int)
  ·rw[if_pos h];by_cases h4:(bu (ix l k)).snd=true
   ·rw[if_pos h4];refine lw hl n _ _ (by rw[List.length_append,List.length_singleton];omega) (by omega) (nR h3 (Nat.le_trans (rn _) (dK hl (by omega) h)))
   ·rw[if_neg h4]
  ·rw[if_neg h];exact⟨by show(acc.length:Int)≤_;omega,h3⟩
theorem wl{l:List (List UInt8)}{m:Nat}(hl: ∀p∈l,p.length≤m):(bV l).1.length≤l.length∧ ∀p∈(bV l).1,p.length≤m:=by
 have h:=lw hl (((↑l.length:Int)-(0:Int)).toNat+1) (0:Int) ([]:List (List UInt8)) (by simp) (by omega) p4;unfold bV;split
 ·rename_i r h2;rw[h2]at h;have h:r=([],false):=h;rw[h];exact⟨Nat.zero_le _,p4⟩
 ·rename_i a b h2;rw[h2]at h;have h:(b.length:Int)≤l.length∧ ∀p∈b,p.length≤m:=h;exact⟨by show b.length≤l.length;have:=h.1;omega,h.2⟩
theorem sM{l:List ah}{x:ah}(h: ∀p∈l,eO p)(hx:eO x): ∀p∈l++ [x],eO p:=fun p hp=>(List.mem_append.1 hp).elim (h p) fun h=>by rw[List.mem_singleton.1 h];exact hx
theorem wm{words:List (List UInt8)}{u:Int}(hl2:words.length≤1000000)(hl: ∀p∈words,p.length≤1000000):eO (ah.mk u (bV (List.drop (Int.toNat (1:Int)) words)).fst):=by
 have h:=wl (dl hl (Int.toNat (1:Int)));have h2:=h.1;rw[List.length_drop]at h2;exact⟨by show(bV (List.drop (Int.toNat (1:Int)) words)).fst.length≤1000000;omega,h.2⟩
theorem gu(cores:Int)(eds:List ah)(dvs:List ah)(grs:List (List Int))(disk:ak)(lns:List aZ)(stag:Int)(stage:Int)(words:List (List UInt8))(mq: ∀p∈eds,eO p)(hp2: ∀p∈dvs,eO p)(hl2:words.length≤1000000)(hl: ∀p∈words,p.length≤1000000):
  (∀p∈(au cores eds dvs grs disk lns stag stage words).2.2.2.2.1,eO p)∧(∀p∈(au cores eds dvs grs disk lns stag stage words).2.2.2.2.2.1,eO p)∧(au cores eds dvs grs disk lns stag stage words).2.2.2.2.1.length≤eds.length+1∧(au cores eds dvs grs disk lns stag stage words).2.2.2.2.2.1.length≤dvs.length+1∧(au cores eds dvs grs disk lns stag stage words).2.2.2.2.2.2.length≤grs.length+1:=by
 have hd:=dl hl (Int.toNat (1:Int));have hd2:(List.drop (Int.toNat (1:Int)) words).length≤1000000:=by rw[List.length_drop];omega
 unfold au;split
 ·split<;>exact⟨mq,hp2,Nat.le_succ _,Nat.le_succ _,Nat.le_succ _⟩
 ·split
  ·refine⟨?_,hp2,?_,Nat.le_succ _,Nat.le_succ _⟩
   ·dsimp only;unfold cF;split
    ·exact mq
    ·exact sM mq (wm hd2 hd)
   ·dsimp only;unfold cF;split
    ·exact Nat.le_succ _
    ·simp
  ·split
   ·refine⟨mq,?_,Nat.le_succ _,?_,Nat.le_succ _⟩
    ·dsimp only;unfold cG;split
     ·exact hp2
     ·exact sM hp2 (wm hd2 hd)
    ·dsimp only;unfold cG;split
     ·exact Nat.le_succ _
     ·simp
   ·split
    ·exact⟨mq,hp2,Nat.le_succ _,Nat.le_succ _,by simp⟩
    ·exact⟨mq,hp2,Nat.le_succ _,Nat.le_succ _,Nat.le_succ _⟩
def Mm:bS U:= [(43,E1),(110,GM),(111,GS),(112,B4)]
theorem DY:ay Tryz.prog U Mm:=ae FR (ae Kw (ae Kz (ae F9 (am))))
def aL(cores:Int)(eds:List ah)(dvs:List ah)(grs:List (List Int))(disk:ak)(lns:List aZ)(stage:Int)(line:List UInt8):Int×Int×ak×Int×(List ah)×(List ah)×(List (List Int))×(List aZ):=
 if stage=(4:Int)then
  if(cy (Lib.split line [(32:UInt8)])).snd=true then
   ((0:Int),cores,disk,stage,eds,dvs,grs,lns++ [(cy (Lib.split line [(32:UInt8)])).fst])
  else
   ((70:Int),cores,disk,stage,eds,dvs,grs,lns)
 else
  if(au cores eds dvs grs disk lns stage stage (Lib.split line [(32:UInt8)])).snd.fst=true then
   if(au cores eds dvs grs disk lns stage stage (Lib.split line [(32:UInt8)])).fst=(4:Int)then
    (fS (ap.mk (au cores eds dvs grs disk lns stage stage (Lib.split line [(32:UInt8)])).snd.snd.fst (au cores eds dvs grs disk lns stage stage (Lib.split line [(32:UInt8)])).snd.snd.snd.snd.fst (au cores eds dvs grs disk lns stage stage (Lib.split line [(32:UInt8)])).snd.snd.snd.snd.snd.fst (au cores eds dvs grs disk lns stage stage (Lib.split line [(32:UInt8)])).snd.snd.snd.snd.snd.snd (au cores eds dvs grs disk lns stage stage (Lib.split line [(32:UInt8)])).snd.snd.snd.fst),(au cores eds dvs grs disk lns stage stage (Lib.split line [(32:UInt8)])).snd.snd.fst,(au cores eds dvs grs disk lns stage stage (Lib.split line [(32:UInt8)])).snd.snd.snd.fst,(au cores eds dvs grs disk lns stage stage (Lib.split line [(32:UInt8)])).fst,(au cores eds dvs grs disk lns stage stage (Lib.split line [(32:UInt8)])).snd.snd.snd.snd.fst,(au cores eds dvs grs disk lns stage stage (Lib.split line [(32:UInt8)])).snd.snd.snd.snd.snd.fst,(au cores eds dvs grs disk lns stage stage (Lib.split line [(32:UInt8)])).snd.snd.snd.snd.snd.snd,lns)
   else
    ((0:Int),(au cores eds dvs grs disk lns stage stage (Lib.split line [(32:UInt8)])).snd.snd.fst,(au cores eds dvs grs disk lns stage stage (Lib.split line [(32:UInt8)])).snd.snd.snd.fst,(au cores eds dvs grs disk lns stage stage (Lib.split line [(32:UInt8)])).fst,(au cores eds dvs grs disk lns stage stage (Lib.split line [(32:UInt8)])).snd.snd.snd.snd.fst,(au cores eds dvs grs disk lns stage stage (Lib.split line [(32:UInt8)])).snd.snd.snd.snd.snd.fst,(au cores eds dvs grs disk lns stage stage (Lib.split line [(32:UInt8)])).snd.snd.snd.snd.snd.snd,lns)
  else
   ((70:Int),(au cores eds dvs grs disk lns stage stage (Lib.split line [(32:UInt8)])).snd.snd.fst,(au cores eds dvs grs disk lns stage stage (Lib.split line [(32:UInt8)])).snd.snd.snd.fst,stage,(au cores eds dvs grs disk lns stage stage (Lib.split line [(32:UInt8)])).snd.snd.snd.snd.fst,(au cores eds dvs grs disk lns stage stage (Lib.split line [(32:UInt8)])).snd.snd.snd.snd.snd.fst,(au cores eds dvs grs disk lns stage stage (Lib.split line [(32:UInt8)])).snd.snd.snd.snd.snd.snd,lns)
def LJ:bZ U:=⟨[.p [(1,some (.int .i64)),(1,none),(1,none),(1,none),(2,some (.st 1)),(1,none),(1,some (.int .i64))],.d .str],fun xs es K=> ∃(cores:Int) (eds:List ah) (dvs:List ah) (grs:List (List Int)) (disk:ak) (lns:List aZ) (stage:Int) (line:List UInt8),xs= [⟨false,[(1,.ptr 0 0)]⟩,⟨false,[(1,.d .str line)]⟩]∧es= [.cells [(1,.d (.int .i64) cores),(1,.own 1 0),(1,.own 2 0),(1,.own 3 0),(2,.d (.st 1) disk),(1,.own 4 0),(1,.d (.int .i64) stage)] 149,.row 0 (.st 0) eds 256,.row 0 (.st 0) dvs 256,.row 0 (.sl (.int .i64)) grs 35,.row 0 (.st 5) lns 84]∧(line.length≤100000)∧(eds.length≤900000)∧(dvs.length≤900000)∧(grs.length≤900000)∧(lns.length≤900000)∧(∀p∈eds,eO p)∧(∀p∈dvs,eO p)∧K (.v ⟨false,[(1,.d (.int .i64) ((aL cores eds dvs grs disk lns stage line).1))]⟩) [.cells [(1,.d (.int .i64) ((aL cores eds dvs grs disk lns stage line).2.1)),(1,.own 1 1),(1,.own 2 1),(1,.own 3 1),(2,.d (.st 1) ((aL cores eds dvs grs disk lns stage line).2.2.1)),(1,.own 4 1),(1,.d (.int .i64) ((aL cores eds dvs grs disk lns stage line).2.2.2.1))] 149,.row 1 (.st 0) ((aL cores eds dvs grs disk lns stage line).2.2.2.2.1) 256,.row 1 (.st 0) ((aL cores eds dvs grs disk lns stage line).2.2.2.2.2.1) 256,.row 1 (.sl (.int .i64)) ((aL cores eds dvs grs disk lns stage line).2.2.2.2.2.2.1) 35,.row 1 (.st 5) ((aL cores eds dvs grs disk lns stage line).2.2.2.2.2.2.2) 84]⟩
theorem Mn:aQ Tryz.prog U 44 LJ:=by
 refine mD (fn:=Tryz.f44) DY aC (by kernel_rfl) Tryz.f44.ntmps [.d (.int .i64)] [(0,[(1,some (.int .i64)),(1,none),(1,none),(1,none),(2,some (.st 1)),(1,none),(1,some (.int .i64))])] (by kernel_rfl) (by kernel_rfl) rfl rfl (by kernel_rfl) (fun xs es K=>?_);rintro⟨cores,eds,dvs,grs,disk,lns,stage,line,rfl,rfl,hs,ht1,ht2,ht3,ht4,mq,hp2,h⟩;refine⟨rfl,?_⟩;have hf0:=aL.eq_1 cores eds dvs grs disk lns stage line;refine⟨_,_,rfl,rfl,(by omega),(by(simp only[List.length_append,List.length_cons,List.length_nil];omega)),?_⟩;refine vI hf0 iD (fun h0 hf0=>?_) (fun h0 hf0=>?_)
 ·refine⟨_,rfl,rfl,(by(have hq:=bD line 32;omega)),(by(have hq:=bD line 32;omega)),(b5 (Nat.le_trans (by assumption) (by decide))),?_⟩;refine vN hf0 (iN iB) (fun h1 hf0=>?_) (fun h1 hf0=>?_)
  ·rw[hf0]at h;exact h
  ·refine .inl ⟨[(true,0),(true,1),(true,2),(true,3),(true,4),(true,5),(false,6),(false,7),(true,8),(true,9)],some 10,[4,6,7,8,9,10,11,12,13,14,15,16,17],by kernel_rfl,?_⟩;refine And.intro (show(lns.length+ [(cy (Lib.split line [(32:UInt8)])).fst].length)*(144:Nat)≤(140737488355328:Nat)from by(simp only[List.length_append,List.length_cons,List.length_nil];omega)) ?_;rw[hf0]at h;exact h
 ·refine .inr ⟨(.look 0 (.look 1 (.look 2 (.look 3 (.look 4 (.look 5 (.look 7 (.turn 6 (.turn 8 (.look 9 (.look 10 (.look 11 (.look 12 .fin)))) .nil) .nil)))))))),some 13,[0,1,2,3,4],5,[(0,.v ⟨false,[(1,.ptr 0 0)]⟩),(8,.v ⟨false,[(1,.d (.int .i64) ((au cores eds dvs grs disk lns stage stage (Lib.split line [(32:UInt8)])).fst))]⟩),(9,.v ⟨false,[(1,.d .bool ((au cores eds dvs grs disk lns stage stage (Lib.split line [(32:UInt8)])).snd.fst))]⟩)],[(0,.cells [(1,.d (.int .i64) ((au cores eds dvs grs disk lns stage stage (Lib.split line [(32:UInt8)])).snd.snd.fst)),(1,.own 1 1),(1,.own 2 1),(1,.own 3 1),(2,.d (.st 1) ((au cores eds dvs grs disk lns stage stage (Lib.split line [(32:UInt8)])).snd.snd.snd.fst)),(1,.own 4 1),(1,.d (.int .i64) stage)] 149),(1,.row 1 (.st 0) ((au cores eds dvs grs disk lns stage stage (Lib.split line [(32:UInt8)])).snd.snd.snd.snd.fst) 256),(2,.row 1 (.st 0) ((au cores eds dvs grs disk lns stage stage (Lib.split line [(32:UInt8)])).snd.snd.snd.snd.snd.fst) 256),(3,.row 1 (.sl (.int .i64)) ((au cores eds dvs grs disk lns stage stage (Lib.split line [(32:UInt8)])).snd.snd.snd.snd.snd.snd) 35),(4,.row 1 (.st 5) lns 84)],True,by kernel_rfl,?_,?_⟩
  ·refine And.intro ?_ trivial;refine And.intro ?_ trivial;refine⟨_,_,_,_,_,_,_,_,_,rfl,rfl,(by(have hq:=bD line 32;omega)),(by(have hq:=bD line 32;omega)),(b5 (Nat.le_trans (by assumption) (by decide))),(by omega),(by omega),(by omega),(by omega),?_⟩;refine⟨trivial,[],?_⟩;repeat (first|exact trivial|refine And.intro rfl ?_)
  refine fun _=>?_;refine vN hf0 (iN iB) (fun h2 hf0=>?_) (fun h2 hf0=>?_)
  ·rw[hf0]at h;exact h
  ·refine vI hf0 iD (fun h3 hf0=>?_) (fun h3 hf0=>?_)
   ·refine⟨_,_,_,_,_,rfl,rfl,(Nat.le_trans (gu _ _ _ _ _ _ _ _ _ (by assumption) (by assumption) (by have hq:=bD line 32;omega) (b5 (Nat.le_trans (by assumption) (by decide)))).2.2.1 (by omega)),(Nat.le_trans (gu _ _ _ _ _ _ _ _ _ (by assumption) (by assumption) (by have hq:=bD line 32;omega) (b5 (Nat.le_trans (by assumption) (by decide)))).2.2.2.1 (by omega)),((gu _ _ _ _ _ _ _ _ _ (by assumption) (by assumption) (by have hq:=bD line 32;omega) (b5 (Nat.le_trans (by assumption) (by decide)))).1),((gu _ _ _ _ _ _ _ _ _ (by assumption) (by assumption) (by have hq:=bD line 32;omega) (b5 (Nat.le_trans (by assumption) (by decide)))).2.1),?_⟩;rw[hf0]at h;exact h
   ·rw[hf0]at h;exact h
end Go.Proofs.YtfgofabojepcmaaGreatDoor.V
end

section
set_option linter.unusedVariables false
set_option linter.unusedSimpArgs false
set_option maxRecDepth 20000
set_option maxHeartbeats 4000000
namespace Go.Proofs.YtfgofabojepcmaaGreatDoor.V
open Go.RowKit
def Mo:bS U:= []
theorem DZ:ay Tryz.prog U Mo:=am
def mH(line:Int)(e:Int):dr:=
 if e=(0:Int)then
  dr.nil
 else
  dr.flt line (dr.num e)
def LK:bZ U:=⟨[.d (.int .i64),.d (.int .i64)],fun xs es K=> ∃(line:Int) (e:Int),xs= [⟨false,[(1,.d (.int .i64) line)]⟩,⟨false,[(1,.d (.int .i64) e)]⟩]∧es= []∧K (.v ⟨false,[(1,.d .err (mH line e))]⟩) []⟩
theorem Mq:aQ Tryz.prog U 42 LK:=by
 refine aT (fn:=Tryz.f42) DZ aC (by kernel_rfl) Tryz.f42.ntmps [.d .err] [] (by kernel_rfl) (by kernel_rfl) rfl rfl (by kernel_rfl) (fun xs es K=>?_);rintro⟨line,e,rfl,rfl,h⟩;refine⟨rfl,?_⟩;have hf0:=mH.eq_1 line e;refine vI hf0 iD (fun h0 hf0=>?_) (fun h0 hf0=>?_)
 ·rw[hf0]at h;exact h
 ·rw[hf0]at h;exact h
def Mr:bS U:= [(42,LK)]
theorem D1:ay Tryz.prog U Mr:=ae Mq (am)
def bM(line:Int)(e:Int):ap×(List aZ)×dr:=
 (ap.mk (0:Int) [] [] [] (ak.mk (0:Int) (0:Int)),[],mH line e)
def Jt:bZ U:=⟨[.d (.int .i64),.d (.int .i64)],fun xs es K=> ∃(line:Int) (e:Int),xs= [⟨false,[(1,.d (.int .i64) line)]⟩,⟨false,[(1,.d (.int .i64) e)]⟩]∧es= []∧K (.tup [⟨true,[(6,.d (.st 2) ((bM line e).1))]⟩,⟨false,[(1,.d (.sl (.st 5)) ((bM line e).2.1))]⟩,⟨false,[(1,.d .err ((bM line e).2.2))]⟩]) []⟩
theorem LM:aQ Tryz.prog U 41 Jt:=by
 refine aT (fn:=Tryz.f41) D1 aC (by kernel_rfl) Tryz.f41.ntmps [.d (.st 2),.d (.sl (.st 5)),.d .err] [] (by kernel_rfl) (by kernel_rfl) rfl rfl (by kernel_rfl) (fun xs es K=>?_);rintro⟨line,e,rfl,rfl,h⟩;refine⟨rfl,?_⟩;have hf0:=bM.eq_1 line e;refine⟨_,_,rfl,rfl,?_⟩;rw[hf0]at h;exact h
end Go.Proofs.YtfgofabojepcmaaGreatDoor.V
end

/- Plain: numbers. -/
import Derived.Test.YtfgofabojepcmaaGreatDoorSp17
import Derived.Test.YtfgofabojepcmaaGreatDoorSp15
import Derived.Test.YtfgofabojepcmaaGreatDoorSp16
import Derived.Lib.AtoiTie
section
set_option linter.unusedVariables false
set_option linter.unusedSimpArgs false
set_option maxRecDepth 20000
set_option maxHeartbeats 4000000
namespace Go.Proofs.YtfgofabojepcmaaGreatDoor.V
open Go.RowKit
def Ld:bS U:= []
theorem BH:ay Tryz.prog U Ld:=am
def dQ(w:List UInt8):Nat→Int→(ax×(List UInt8))⊕(Int)
 |0,s9=> .inr s9
 |n2+1,s9=>
  if(s9<(↑[[(115:UInt8),(101:UInt8),(116:UInt8)],[(99:UInt8),(111:UInt8),(117:UInt8),(110:UInt8),(116:UInt8)],[(101:UInt8),(110:UInt8),(116:UInt8),(101:UInt8),(114:UInt8)],[(108:UInt8),(101:UInt8),(97:UInt8),(118:UInt8),(101:UInt8)],[(112:UInt8),(117:UInt8),(116:UInt8)],[(116:UInt8),(97:UInt8),(107:UInt8),(101:UInt8)]].length:Int))∧(s9<(↑[[(78:UInt8),(75:UInt8),(83:UInt8)],[(78:UInt8),(75:UInt8),(83:UInt8)],[(78:UInt8),(75:UInt8),(87:UInt8)],[(78:UInt8),(75:UInt8),(87:UInt8)],[(78:UInt8),(75:UInt8),(87:UInt8),(83:UInt8)],[(78:UInt8),(75:UInt8),(87:UInt8)]].length:Int))then
   if ix [[(115:UInt8),(101:UInt8),(116:UInt8)],[(99:UInt8),(111:UInt8),(117:UInt8),(110:UInt8),(116:UInt8)],[(101:UInt8),(110:UInt8),(116:UInt8),(101:UInt8),(114:UInt8)],[(108:UInt8),(101:UInt8),(97:UInt8),(118:UInt8),(101:UInt8)],[(112:UInt8),(117:UInt8),(116:UInt8)],[(116:UInt8),(97:UInt8),(107:UInt8),(101:UInt8)]] s9=w then
    .inl ((ax.mk (2:Int) (0:Int) (0:Int) (0:Int) [] (g8.mk (s9+(1:Int)) [] (0:Int)) [] [],ix [[(78:UInt8),(75:UInt8),(83:UInt8)],[(78:UInt8),(75:UInt8),(83:UInt8)],[(78:UInt8),(75:UInt8),(87:UInt8)],[(78:UInt8),(75:UInt8),(87:UInt8)],[(78:UInt8),(75:UInt8),(87:UInt8),(83:UInt8)],[(78:UInt8),(75:UInt8),(87:UInt8)]] s9))
   else
    dQ w n2 (s9+(1:Int))
  else
   .inr s9
def dR(w:List UInt8):Nat→Int→(ax×(List UInt8))⊕(Int)
 |0,s6=> .inr s6
 |n1+1,s6=>
  if(s6<(↑[[(98:UInt8),(101:UInt8),(103:UInt8),(105:UInt8),(110:UInt8)],[(114:UInt8),(101:UInt8),(97:UInt8),(100:UInt8)],[],[(99:UInt8),(111:UInt8),(109:UInt8),(109:UInt8),(105:UInt8),(116:UInt8)],[(97:UInt8),(98:UInt8),(111:UInt8),(114:UInt8),(116:UInt8)],[(114:UInt8),(117:UInt8),(110:UInt8)],[(104:UInt8),(101:UInt8),(108:UInt8),(108:UInt8),(111:UInt8)],[(112:UInt8),(117:UInt8),(115:UInt8),(104:UInt8)],[(97:UInt8),(115:UInt8),(107:UInt8)],[(99:UInt8),(111:UInt8),(109:UInt8),(101:UInt8)],[(108:UInt8),(111:UInt8),(115:UInt8),(101:UInt8)],[(100:UInt8),(111:UInt8),(117:UInt8),(98:UInt8),(108:UInt8),(101:UInt8)],[(112:UInt8),(97:UInt8),(105:UInt8),(110:UInt8),(116:UInt8)],[(115:UInt8),(121:UInt8),(110:UInt8),(99:UInt8)],[(116:UInt8),(114:UInt8),(105:UInt8),(109:UInt8)],[(97:UInt8),(114:UInt8),(109:UInt8)],[(102:UInt8),(97:UInt8),(105:UInt8),(108:UInt8)],[(119:UInt8),(97:UInt8),(110:UInt8),(116:UInt8)],[(102:UInt8),(111:UInt8),(114:UInt8),(103:UInt8),(101:UInt8),(116:UInt8)],[(109:UInt8),(111:UInt8),(118:UInt8),(101:UInt8)],[(108:UInt8),(101:UInt8),(97:UInt8),(100:UInt8)],[(115:UInt8),(101:UInt8),(97:UInt8),(108:UInt8)],[(104:UInt8),(111:UInt8),(108:UInt8),(100:UInt8)],[(106:UInt8),(111:UInt8),(105:UInt8),(110:UInt8)],[(108:UInt8),(101:UInt8),(97:UInt8),(114:UInt8),(110:UInt8)],[(110:UInt8),(117:UInt8),(100:UInt8),(103:UInt8),(101:UInt8)],[(114:UInt8),(101:UInt8),(99:UInt8),(111:UInt8),(118:UInt8),(101:UInt8),(114:UInt8)]].length:Int))∧(s6<(↑[[(78:UInt8)],[(78:UInt8),(75:UInt8)],[],[(78:UInt8)],[(78:UInt8)],[(78:UInt8)],[(78:UInt8),(116:UInt8)],[(78:UInt8),(116:UInt8)],[(78:UInt8),(116:UInt8)],[(105:UInt8)],[(105:UInt8)],[(105:UInt8)],[(78:UInt8),(105:UInt8)],[(78:UInt8)],[(78:UInt8)],[(78:UInt8),(105:UInt8)],[(78:UInt8),(76:UInt8)],[(78:UInt8),(80:UInt8)],[(78:UInt8),(70:UInt8)],[(78:UInt8),(116:UInt8)],[(78:UInt8),(105:UInt8)],[(78:UInt8),(76:UInt8)],[(78:UInt8),(116:UInt8)],[(78:UInt8),(116:UInt8)],[(78:UInt8),(116:UInt8)],[(78:UInt8)],[(78:UInt8),(105:UInt8)]].length:Int))then
   if(¬w= [])∧(ix [[(98:UInt8),(101:UInt8),(103:UInt8),(105:UInt8),(110:UInt8)],[(114:UInt8),(101:UInt8),(97:UInt8),(100:UInt8)],[],[(99:UInt8),(111:UInt8),(109:UInt8),(109:UInt8),(105:UInt8),(116:UInt8)],[(97:UInt8),(98:UInt8),(111:UInt8),(114:UInt8),(116:UInt8)],[(114:UInt8),(117:UInt8),(110:UInt8)],[(104:UInt8),(101:UInt8),(108:UInt8),(108:UInt8),(111:UInt8)],[(112:UInt8),(117:UInt8),(115:UInt8),(104:UInt8)],[(97:UInt8),(115:UInt8),(107:UInt8)],[(99:UInt8),(111:UInt8),(109:UInt8),(101:UInt8)],[(108:UInt8),(111:UInt8),(115:UInt8),(101:UInt8)],[(100:UInt8),(111:UInt8),(117:UInt8),(98:UInt8),(108:UInt8),(101:UInt8)],[(112:UInt8),(97:UInt8),(105:UInt8),(110:UInt8),(116:UInt8)],[(115:UInt8),(121:UInt8),(110:UInt8),(99:UInt8)],[(116:UInt8),(114:UInt8),(105:UInt8),(109:UInt8)],[(97:UInt8),(114:UInt8),(109:UInt8)],[(102:UInt8),(97:UInt8),(105:UInt8),(108:UInt8)],[(119:UInt8),(97:UInt8),(110:UInt8),(116:UInt8)],[(102:UInt8),(111:UInt8),(114:UInt8),(103:UInt8),(101:UInt8),(116:UInt8)],[(109:UInt8),(111:UInt8),(118:UInt8),(101:UInt8)],[(108:UInt8),(101:UInt8),(97:UInt8),(100:UInt8)],[(115:UInt8),(101:UInt8),(97:UInt8),(108:UInt8)],[(104:UInt8),(111:UInt8),(108:UInt8),(100:UInt8)],[(106:UInt8),(111:UInt8),(105:UInt8),(110:UInt8)],[(108:UInt8),(101:UInt8),(97:UInt8),(114:UInt8),(110:UInt8)],[(110:UInt8),(117:UInt8),(100:UInt8),(103:UInt8),(101:UInt8)],[(114:UInt8),(101:UInt8),(99:UInt8),(111:UInt8),(118:UInt8),(101:UInt8),(114:UInt8)]] s6=w)then
    .inl ((ax.mk s6 (0:Int) (0:Int) (0:Int) [] (g8.mk (0:Int) [] (0:Int)) [] [],ix [[(78:UInt8)],[(78:UInt8),(75:UInt8)],[],[(78:UInt8)],[(78:UInt8)],[(78:UInt8)],[(78:UInt8),(116:UInt8)],[(78:UInt8),(116:UInt8)],[(78:UInt8),(116:UInt8)],[(105:UInt8)],[(105:UInt8)],[(105:UInt8)],[(78:UInt8),(105:UInt8)],[(78:UInt8)],[(78:UInt8)],[(78:UInt8),(105:UInt8)],[(78:UInt8),(76:UInt8)],[(78:UInt8),(80:UInt8)],[(78:UInt8),(70:UInt8)],[(78:UInt8),(116:UInt8)],[(78:UInt8),(105:UInt8)],[(78:UInt8),(76:UInt8)],[(78:UInt8),(116:UInt8)],[(78:UInt8),(116:UInt8)],[(78:UInt8),(116:UInt8)],[(78:UInt8)],[(78:UInt8),(105:UInt8)]] s6))
   else
    dR w n1 (s6+(1:Int))
  else
   .inr s6
def aA(w:List UInt8):ax×(List UInt8):=
 match dR w (((↑[[(78:UInt8)],[(78:UInt8),(75:UInt8)],[],[(78:UInt8)],[(78:UInt8)],[(78:UInt8)],[(78:UInt8),(116:UInt8)],[(78:UInt8),(116:UInt8)],[(78:UInt8),(116:UInt8)],[(105:UInt8)],[(105:UInt8)],[(105:UInt8)],[(78:UInt8),(105:UInt8)],[(78:UInt8)],[(78:UInt8)],[(78:UInt8),(105:UInt8)],[(78:UInt8),(76:UInt8)],[(78:UInt8),(80:UInt8)],[(78:UInt8),(70:UInt8)],[(78:UInt8),(116:UInt8)],[(78:UInt8),(105:UInt8)],[(78:UInt8),(76:UInt8)],[(78:UInt8),(116:UInt8)],[(78:UInt8),(116:UInt8)],[(78:UInt8),(116:UInt8)],[(78:UInt8)],[(78:UInt8),(105:UInt8)]].length:Int)-(0:Int)).toNat+1) (0:Int)with
 | .inl r=>r
 | .inr s6=>
  match dQ w (((↑[[(78:UInt8),(75:UInt8),(83:UInt8)],[(78:UInt8),(75:UInt8),(83:UInt8)],[(78:UInt8),(75:UInt8),(87:UInt8)],[(78:UInt8),(75:UInt8),(87:UInt8)],[(78:UInt8),(75:UInt8),(87:UInt8),(83:UInt8)],[(78:UInt8),(75:UInt8),(87:UInt8)]].length:Int)-(0:Int)).toNat+1) (0:Int)with
  | .inl r=>r
  | .inr s9=>
   if w= [(115:UInt8),(97:UInt8),(121:UInt8)]then
    (ax.mk (0:Int) (0:Int) (0:Int) (0:Int) [] (g8.mk (0:Int) [] (0:Int)) [] [],[(78:UInt8),(75:UInt8)])
   else
    if w= [(99:UInt8),(97:UInt8),(108:UInt8),(109:UInt8)]then
     (ax.mk (0:Int) (0:Int) (0:Int) (0:Int) [] (g8.mk (0:Int) [] (0:Int)) [] [],[(46:UInt8)])
    else
     if w= [(100:UInt8),(114:UInt8),(97:UInt8),(105:UInt8),(110:UInt8)]then
      (ax.mk (0:Int) (0:Int) (0:Int) (0:Int) [] (g8.mk (0:Int) [] (0:Int)) [] [],[(46:UInt8)])
     else
      if w= [(114:UInt8),(111:UInt8),(117:UInt8),(110:UInt8),(100:UInt8)]then
       (ax.mk (0:Int) (0:Int) (0:Int) (0:Int) [] (g8.mk (0:Int) [] (0:Int)) [] [],[(46:UInt8)])
      else
       if w= [(115:UInt8),(101:UInt8),(116:UInt8),(116:UInt8),(108:UInt8),(101:UInt8)]then
        (ax.mk (0:Int) (0:Int) (0:Int) (0:Int) [] (g8.mk (0:Int) [] (0:Int)) [] [],[(105:UInt8)])
       else
        if w= [(118:UInt8),(101:UInt8),(99:UInt8)]then
         (ax.mk (0:Int) (0:Int) (0:Int) (0:Int) [] (g8.mk (0:Int) [] (0:Int)) [] [],[(78:UInt8)])
        else
         (ax.mk (0:Int) (0:Int) (0:Int) (0:Int) [] (g8.mk (0:Int) [] (0:Int)) [] [],[])
def Ik:bZ U:=⟨[.d .str],fun xs es K=> ∃(w:List UInt8),xs= [⟨false,[(1,.d .str w)]⟩]∧es= []∧K (.tup [⟨true,[(10,.d (.st 4) ((aA w).1))]⟩,⟨false,[(1,.d .str ((aA w).2))]⟩]) []⟩
theorem Lg:aQ Tryz.prog U 117 Ik:=by
 refine aT (fn:=Tryz.f117) BH aC (by kernel_rfl) Tryz.f117.ntmps [.d (.st 4),.d .str] [] (by kernel_rfl) (by kernel_rfl) rfl rfl (by kernel_rfl) (fun xs es K=>?_);rintro⟨w,rfl,rfl,h⟩;refine⟨rfl,?_⟩;have hf0:=aA.eq_1 w;refine⟨Int,3,fun(s6:Int)=> [(0,.v ⟨false,[(1,.d .str w)]⟩),(2,.v ⟨false,[(1,.ptr 0 0)]⟩),(4,.v ⟨false,[(1,.own 1 0)]⟩),(5,.v ⟨false,[(1,.own 2 0)]⟩),(6,.v ⟨false,[(1,.d (.int .i64) s6)]⟩)],fun(s6:Int)=> [(0,.cells [(1,.d (.int .i64) (0:Int)),(1,.d (.int .i64) (0:Int)),(1,.d (.int .i64) (0:Int)),(1,.d (.int .i64) (0:Int)),(1,.d .str []),(1,.d (.int .i64) (0:Int)),(1,.d .str []),(1,.d (.int .i64) (0:Int)),(1,.nils),(1,.nils)] 87),(1,.row 0 .str ([[(98:UInt8),(101:UInt8),(103:UInt8),(105:UInt8),(110:UInt8)],[(114:UInt8),(101:UInt8),(97:UInt8),(100:UInt8)],[],[(99:UInt8),(111:UInt8),(109:UInt8),(109:UInt8),(105:UInt8),(116:UInt8)],[(97:UInt8),(98:UInt8),(111:UInt8),(114:UInt8),(116:UInt8)],[(114:UInt8),(117:UInt8),(110:UInt8)],[(104:UInt8),(101:UInt8),(108:UInt8),(108:UInt8),(111:UInt8)],[(112:UInt8),(117:UInt8),(115:UInt8),(104:UInt8)],[(97:UInt8),(115:UInt8),(107:UInt8)],[(99:UInt8),(111:UInt8),(109:UInt8),(101:UInt8)],[(108:UInt8),(111:UInt8),(115:UInt8),(101:UInt8)],[(100:UInt8),(111:UInt8),(117:UInt8),(98:UInt8),(108:UInt8),(101:UInt8)],[(112:UInt8),(97:UInt8),(105:UInt8),(110:UInt8),(116:UInt8)],[(115:UInt8),(121:UInt8),(110:UInt8),(99:UInt8)],[(116:UInt8),(114:UInt8),(105:UInt8),(109:UInt8)],[(97:UInt8),(114:UInt8),(109:UInt8)],[(102:UInt8),(97:UInt8),(105:UInt8),(108:UInt8)],[(119:UInt8),(97:UInt8),(110:UInt8),(116:UInt8)],[(102:UInt8),(111:UInt8),(114:UInt8),(103:UInt8),(101:UInt8),(116:UInt8)],[(109:UInt8),(111:UInt8),(118:UInt8),(101:UInt8)],[(108:UInt8),(101:UInt8),(97:UInt8),(100:UInt8)],[(115:UInt8),(101:UInt8),(97:UInt8),(108:UInt8)],[(104:UInt8),(111:UInt8),(108:UInt8),(100:UInt8)],[(106:UInt8),(111:UInt8),(105:UInt8),(110:UInt8)],[(108:UInt8),(101:UInt8),(97:UInt8),(114:UInt8),(110:UInt8)],[(110:UInt8),(117:UInt8),(100:UInt8),(103:UInt8),(101:UInt8)],[(114:UInt8),(101:UInt8),(99:UInt8),(111:UInt8),(118:UInt8),(101:UInt8),(114:UInt8)]]) 9),(2,.row 0 .str ([[(78:UInt8)],[(78:UInt8),(75:UInt8)],[],[(78:UInt8)],[(78:UInt8)],[(78:UInt8)],[(78:UInt8),(116:UInt8)],[(78:UInt8),(116:UInt8)],[(78:UInt8),(116:UInt8)],[(105:UInt8)],[(105:UInt8)],[(105:UInt8)],[(78:UInt8),(105:UInt8)],[(78:UInt8)],[(78:UInt8)],[(78:UInt8),(105:UInt8)],[(78:UInt8),(76:UInt8)],[(78:UInt8),(80:UInt8)],[(78:UInt8),(70:UInt8)],[(78:UInt8),(116:UInt8)],[(78:UInt8),(105:UInt8)],[(78:UInt8),(76:UInt8)],[(78:UInt8),(116:UInt8)],[(78:UInt8),(116:UInt8)],[(78:UInt8),(116:UInt8)],[(78:UInt8)],[(78:UInt8),(105:UInt8)]]) 9)],aF (fun(s6:Int)=>((↑[[(78:UInt8)],[(78:UInt8),(75:UInt8)],[],[(78:UInt8)],[(78:UInt8)],[(78:UInt8)],[(78:UInt8),(116:UInt8)],[(78:UInt8),(116:UInt8)],[(78:UInt8),(116:UInt8)],[(105:UInt8)],[(105:UInt8)],[(105:UInt8)],[(78:UInt8),(105:UInt8)],[(78:UInt8)],[(78:UInt8)],[(78:UInt8),(105:UInt8)],[(78:UInt8),(76:UInt8)],[(78:UInt8),(80:UInt8)],[(78:UInt8),(70:UInt8)],[(78:UInt8),(116:UInt8)],[(78:UInt8),(105:UInt8)],[(78:UInt8),(76:UInt8)],[(78:UInt8),(116:UInt8)],[(78:UInt8),(116:UInt8)],[(78:UInt8),(116:UInt8)],[(78:UInt8)],[(78:UInt8),(105:UInt8)]].length:Int)- s6).toNat) (fun(s6:Int)=>((0:Int)≤s6)∧(s6≤(↑[[(78:UInt8)],[(78:UInt8),(75:UInt8)],[],[(78:UInt8)],[(78:UInt8)],[(78:UInt8)],[(78:UInt8),(116:UInt8)],[(78:UInt8),(116:UInt8)],[(78:UInt8),(116:UInt8)],[(105:UInt8)],[(105:UInt8)],[(105:UInt8)],[(78:UInt8),(105:UInt8)],[(78:UInt8)],[(78:UInt8)],[(78:UInt8),(105:UInt8)],[(78:UInt8),(76:UInt8)],[(78:UInt8),(80:UInt8)],[(78:UInt8),(70:UInt8)],[(78:UInt8),(116:UInt8)],[(78:UInt8),(105:UInt8)],[(78:UInt8),(76:UInt8)],[(78:UInt8),(116:UInt8)],[(78:UInt8),(116:UInt8)],[(78:UInt8),(116:UInt8)],[(78:UInt8)],[(78:UInt8),(105:UInt8)]].length:Int))∧True) (fun n1 (s6:Int)=>dR w n1 s6) (dR w (((↑[[(78:UInt8)],[(78:UInt8),(75:UInt8)],[],[(78:UInt8)],[(78:UInt8)],[(78:UInt8)],[(78:UInt8),(116:UInt8)],[(78:UInt8),(116:UInt8)],[(78:UInt8),(116:UInt8)],[(105:UInt8)],[(105:UInt8)],[(105:UInt8)],[(78:UInt8),(105:UInt8)],[(78:UInt8)],[(78:UInt8)],[(78:UInt8),(105:UInt8)],[(78:UInt8),(76:UInt8)],[(78:UInt8),(80:UInt8)],[(78:UInt8),(70:UInt8)],[(78:UInt8),(116:UInt8)],[(78:UInt8),(105:UInt8)],[(78:UInt8),(76:UInt8)],[(78:UInt8),(116:UInt8)],[(78:UInt8),(116:UInt8)],[(78:UInt8),(116:UInt8)],[(78:UInt8)],[(78:UInt8),(105:UInt8)]].length:Int)-(0:Int)).toNat+1) (0:Int)),fun(s6:Int)=>((↑[[(78:UInt8)],[(78:UInt8),(75:UInt8)],[],[(78:UInt8)],[(78:UInt8)],[(78:UInt8)],[(78:UInt8),(116:UInt8)],[(78:UInt8),(116:UInt8)],[(78:UInt8),(116:UInt8)],[(105:UInt8)],[(105:UInt8)],[(105:UInt8)],[(78:UInt8),(105:UInt8)],[(78:UInt8)],[(78:UInt8)],[(78:UInt8),(105:UInt8)],[(78:UInt8),(76:UInt8)],[(78:UInt8),(80:UInt8)],[(78:UInt8),(70:UInt8)],[(78:UInt8),(116:UInt8)],[(78:UInt8),(105:UInt8)],[(78:UInt8),(76:UInt8)],[(78:UInt8),(116:UInt8)],[(78:UInt8),(116:UInt8)],[(78:UInt8),(116:UInt8)],[(78:UInt8)],[(78:UInt8),(105:UInt8)]].length:Int)- s6).toNat,⟨[],(0:Int),aF.mk0 _ (Nat.lt_succ_self _) ⟨show(0:Int)≤(0:Int)from by omega,show(0:Int)≤(↑[[(78:UInt8)],[(78:UInt8),(75:UInt8)],[],[(78:UInt8)],[(78:UInt8)],[(78:UInt8)],[(78:UInt8),(116:UInt8)],[(78:UInt8),(116:UInt8)],[(78:UInt8),(116:UInt8)],[(105:UInt8)],[(105:UInt8)],[(105:UInt8)],[(78:UInt8),(105:UInt8)],[(78:UInt8)],[(78:UInt8)],[(78:UInt8),(105:UInt8)],[(78:UInt8),(76:UInt8)],[(78:UInt8),(80:UInt8)],[(78:UInt8),(70:UInt8)],[(78:UInt8),(116:UInt8)],[(78:UInt8),(105:UInt8)],[(78:UInt8),(76:UInt8)],[(78:UInt8),(116:UInt8)],[(78:UInt8),(116:UInt8)],[(78:UInt8),(116:UInt8)],[(78:UInt8)],[(78:UInt8),(105:UInt8)]].length:Int)from by omega,trivial⟩ rfl,?_⟩,?_⟩
 ·repeat (first|exact trivial|refine And.intro rfl ?_)
 ·rintro s6 ⟨n1,hc1,⟨hi1_0,hi1_1,-⟩,hf1⟩;have hf1:=hf1.trans (dR.eq_2 w s6 n1);refine fun h0=>?_;have h0:(↑[[(98:UInt8),(101:UInt8),(103:UInt8),(105:UInt8),(110:UInt8)],[(114:UInt8),(101:UInt8),(97:UInt8),(100:UInt8)],[],[(99:UInt8),(111:UInt8),(109:UInt8),(109:UInt8),(105:UInt8),(116:UInt8)],[(97:UInt8),(98:UInt8),(111:UInt8),(114:UInt8),(116:UInt8)],[(114:UInt8),(117:UInt8),(110:UInt8)],[(104:UInt8),(101:UInt8),(108:UInt8),(108:UInt8),(111:UInt8)],[(112:UInt8),(117:UInt8),(115:UInt8),(104:UInt8)],[(97:UInt8),(115:UInt8),(107:UInt8)],[(99:UInt8),(111:UInt8),(109:UInt8),(101:UInt8)],[(108:UInt8),(111:UInt8),(115:UInt8),(101:UInt8)],[(100:UInt8),(111:UInt8),(117:UInt8),(98:UInt8),(108:UInt8),(101:UInt8)],[(112:UInt8),(97:UInt8),(105:UInt8),(110:UInt8),(116:UInt8)],[(115:UInt8),(121:UInt8),(110:UInt8),(99:UInt8)],[(116:UInt8),(114:UInt8),(105:UInt8),(109:UInt8)],[(97:UInt8),(114:UInt8),(109:UInt8)],[(102:UInt8),(97:UInt8),(105:UInt8),(108:UInt8)],[(119:UInt8),(97:UInt8),(110:UInt8),(116:UInt8)],[(102:UInt8),(111:UInt8),(114:UInt8),(103:UInt8),(101:UInt8),(116:UInt8)],[(109:UInt8),(111:UInt8),(118:UInt8),(101:UInt8)],[(108:UInt8),(101:UInt8),(97:UInt8),(100:UInt8)],[(115:UInt8),(101:UInt8),(97:UInt8),(108:UInt8)],[(104:UInt8),(111:UInt8),(108:UInt8),(100:UInt8)],[(106:UInt8),(111:UInt8),(105:UInt8),(110:UInt8)],[(108:UInt8),(101:UInt8),(97:UInt8),(114:UInt8),(110:UInt8)],[(110:UInt8),(117:UInt8),(100:UInt8),(103:UInt8),(101:UInt8)],[(114:UInt8),(101:UInt8),(99:UInt8),(111:UInt8),(118:UInt8),(101:UInt8),(114:UInt8)]].length:Int)≤(9223372036854775807:Int):=h0.2;refine vI hf1 (iA iD iD) (fun h1 hf1=>?_) (fun h1 hf1=>?_)
  ·refine And.intro (show(decide ¬w= [])=((26:Nat),true).snd→(0:Int)≤s6∧s6<(↑[[(98:UInt8),(101:UInt8),(103:UInt8),(105:UInt8),(110:UInt8)],[(114:UInt8),(101:UInt8),(97:UInt8),(100:UInt8)],[],[(99:UInt8),(111:UInt8),(109:UInt8),(109:UInt8),(105:UInt8),(116:UInt8)],[(97:UInt8),(98:UInt8),(111:UInt8),(114:UInt8),(116:UInt8)],[(114:UInt8),(117:UInt8),(110:UInt8)],[(104:UInt8),(101:UInt8),(108:UInt8),(108:UInt8),(111:UInt8)],[(112:UInt8),(117:UInt8),(115:UInt8),(104:UInt8)],[(97:UInt8),(115:UInt8),(107:UInt8)],[(99:UInt8),(111:UInt8),(109:UInt8),(101:UInt8)],[(108:UInt8),(111:UInt8),(115:UInt8),(101:UInt8)],[(100:UInt8),(111:UInt8),(117:UInt8),(98:UInt8),(108:UInt8),(101:UInt8)],[(112:UInt8),(97:UInt8),(105:UInt8),(110:UInt8),(116:UInt8)],[(115:UInt8),(121:UInt8),(110:UInt8),(99:UInt8)],[(116:UInt8),(114:UInt8),(105:UInt8),(109:UInt8)],[(97:UInt8),(114:UInt8),(109:UInt8)],[(102:UInt8),(97:UInt8),(105:UInt8),(108:UInt8)],[(119:UInt8),(97:UInt8),(110:UInt8),(116:UInt8)],[(102:UInt8),(111:UInt8),(114:UInt8),(103:UInt8),(101:UInt8),(116:UInt8)],[(109:UInt8),(111:UInt8),(118:UInt8),(101:UInt8)],[(108:UInt8),(101:UInt8),(97:UInt8),(100:UInt8)],[(115:UInt8),(101:UInt8),(97:UInt8),(108:UInt8)],[(104:UInt8),(111:UInt8),(108:UInt8),(100:UInt8)],[(106:UInt8),(111:UInt8),(105:UInt8),(110:UInt8)],[(108:UInt8),(101:UInt8),(97:UInt8),(114:UInt8),(110:UInt8)],[(110:UInt8),(117:UInt8),(100:UInt8),(103:UInt8),(101:UInt8)],[(114:UInt8),(101:UInt8),(99:UInt8),(111:UInt8),(118:UInt8),(101:UInt8),(114:UInt8)]].length:Int)from by omega) ?_;refine vI hf1 (iA iD iD) (fun h2 hf1=>?_) (fun h2 hf1=>?_)
   ·refine .inl ⟨[(true,0),(true,1),(true,2),(true,3),(true,4),(true,5),(false,6),(true,7)],none,[0,3,4,5,6,7,8,9,10,11,12,13,14],by kernel_rfl,?_⟩;refine And.intro (show(0:Int)≤s6∧s6<(↑[[(78:UInt8)],[(78:UInt8),(75:UInt8)],[],[(78:UInt8)],[(78:UInt8)],[(78:UInt8)],[(78:UInt8),(116:UInt8)],[(78:UInt8),(116:UInt8)],[(78:UInt8),(116:UInt8)],[(105:UInt8)],[(105:UInt8)],[(105:UInt8)],[(78:UInt8),(105:UInt8)],[(78:UInt8)],[(78:UInt8)],[(78:UInt8),(105:UInt8)],[(78:UInt8),(76:UInt8)],[(78:UInt8),(80:UInt8)],[(78:UInt8),(70:UInt8)],[(78:UInt8),(116:UInt8)],[(78:UInt8),(105:UInt8)],[(78:UInt8),(76:UInt8)],[(78:UInt8),(116:UInt8)],[(78:UInt8),(116:UInt8)],[(78:UInt8),(116:UInt8)],[(78:UInt8)],[(78:UInt8),(105:UInt8)]].length:Int)from by omega) ?_;rw[hf1]at hf0;rw[hf0]at h;exact h
   ·refine .inl (And.intro (eb (p:=s6) (q:=(1:Int)) (r:=s6+(1:Int)) (by omega)) ?_);have hm1:((↑[[(78:UInt8)],[(78:UInt8),(75:UInt8)],[],[(78:UInt8)],[(78:UInt8)],[(78:UInt8)],[(78:UInt8),(116:UInt8)],[(78:UInt8),(116:UInt8)],[(78:UInt8),(116:UInt8)],[(105:UInt8)],[(105:UInt8)],[(105:UInt8)],[(78:UInt8),(105:UInt8)],[(78:UInt8)],[(78:UInt8)],[(78:UInt8),(105:UInt8)],[(78:UInt8),(76:UInt8)],[(78:UInt8),(80:UInt8)],[(78:UInt8),(70:UInt8)],[(78:UInt8),(116:UInt8)],[(78:UInt8),(105:UInt8)],[(78:UInt8),(76:UInt8)],[(78:UInt8),(116:UInt8)],[(78:UInt8),(116:UInt8)],[(78:UInt8),(116:UInt8)],[(78:UInt8)],[(78:UInt8),(105:UInt8)]].length:Int)-(s6+(1:Int))).toNat<((↑[[(78:UInt8)],[(78:UInt8),(75:UInt8)],[],[(78:UInt8)],[(78:UInt8)],[(78:UInt8)],[(78:UInt8),(116:UInt8)],[(78:UInt8),(116:UInt8)],[(78:UInt8),(116:UInt8)],[(105:UInt8)],[(105:UInt8)],[(105:UInt8)],[(78:UInt8),(105:UInt8)],[(78:UInt8)],[(78:UInt8)],[(78:UInt8),(105:UInt8)],[(78:UInt8),(76:UInt8)],[(78:UInt8),(80:UInt8)],[(78:UInt8),(70:UInt8)],[(78:UInt8),(116:UInt8)],[(78:UInt8),(105:UInt8)],[(78:UInt8),(76:UInt8)],[(78:UInt8),(116:UInt8)],[(78:UInt8),(116:UInt8)],[(78:UInt8),(116:UInt8)],[(78:UInt8)],[(78:UInt8),(105:UInt8)]].length:Int)- s6).toNat:=by omega
    refine⟨[],s6+(1:Int),hm1,aF.next (s:=s6) hc1 hm1 ⟨show(0:Int)≤s6+(1:Int)from by omega,show s6+(1:Int)≤(↑[[(78:UInt8)],[(78:UInt8),(75:UInt8)],[],[(78:UInt8)],[(78:UInt8)],[(78:UInt8)],[(78:UInt8),(116:UInt8)],[(78:UInt8),(116:UInt8)],[(78:UInt8),(116:UInt8)],[(105:UInt8)],[(105:UInt8)],[(105:UInt8)],[(78:UInt8),(105:UInt8)],[(78:UInt8)],[(78:UInt8)],[(78:UInt8),(105:UInt8)],[(78:UInt8),(76:UInt8)],[(78:UInt8),(80:UInt8)],[(78:UInt8),(70:UInt8)],[(78:UInt8),(116:UInt8)],[(78:UInt8),(105:UInt8)],[(78:UInt8),(76:UInt8)],[(78:UInt8),(116:UInt8)],[(78:UInt8),(116:UInt8)],[(78:UInt8),(116:UInt8)],[(78:UInt8)],[(78:UInt8),(105:UInt8)]].length:Int)from by omega,trivial⟩ hf1,?_⟩;repeat (first|exact trivial|refine And.intro rfl ?_)
  ·rw[hf1]at hf0;set_option simprocs false in dsimp only at hf0;refine⟨Int,5,fun(s9:Int)=> [(0,.v ⟨false,[(1,.d .str w)]⟩),(2,.v ⟨false,[(1,.ptr 0 0)]⟩),(7,.v ⟨false,[(1,.own 3 0)]⟩),(8,.v ⟨false,[(1,.own 4 0)]⟩),(9,.v ⟨false,[(1,.d (.int .i64) s9)]⟩)],fun(s9:Int)=> [(0,.cells [(1,.d (.int .i64) (0:Int)),(1,.d (.int .i64) (0:Int)),(1,.d (.int .i64) (0:Int)),(1,.d (.int .i64) (0:Int)),(1,.d .str []),(1,.d (.int .i64) (0:Int)),(1,.d .str []),(1,.d (.int .i64) (0:Int)),(1,.nils),(1,.nils)] 87),(3,.row 0 .str ([[(115:UInt8),(101:UInt8),(116:UInt8)],[(99:UInt8),(111:UInt8),(117:UInt8),(110:UInt8),(116:UInt8)],[(101:UInt8),(110:UInt8),(116:UInt8),(101:UInt8),(114:UInt8)],[(108:UInt8),(101:UInt8),(97:UInt8),(118:UInt8),(101:UInt8)],[(112:UInt8),(117:UInt8),(116:UInt8)],[(116:UInt8),(97:UInt8),(107:UInt8),(101:UInt8)]]) 9),(4,.row 0 .str ([[(78:UInt8),(75:UInt8),(83:UInt8)],[(78:UInt8),(75:UInt8),(83:UInt8)],[(78:UInt8),(75:UInt8),(87:UInt8)],[(78:UInt8),(75:UInt8),(87:UInt8)],[(78:UInt8),(75:UInt8),(87:UInt8),(83:UInt8)],[(78:UInt8),(75:UInt8),(87:UInt8)]]) 9)],aF (fun(s9:Int)=>((↑[[(78:UInt8),(75:UInt8),(83:UInt8)],[(78:UInt8),(75:UInt8),(83:UInt8)],[(78:UInt8),(75:UInt8),(87:UInt8)],[(78:UInt8),(75:UInt8),(87:UInt8)],[(78:UInt8),(75:UInt8),(87:UInt8),(83:UInt8)],[(78:UInt8),(75:UInt8),(87:UInt8)]].length:Int)- s9).toNat) (fun(s9:Int)=>((0:Int)≤s9)∧(s9≤(↑[[(78:UInt8),(75:UInt8),(83:UInt8)],[(78:UInt8),(75:UInt8),(83:UInt8)],[(78:UInt8),(75:UInt8),(87:UInt8)],[(78:UInt8),(75:UInt8),(87:UInt8)],[(78:UInt8),(75:UInt8),(87:UInt8),(83:UInt8)],[(78:UInt8),(75:UInt8),(87:UInt8)]].length:Int))∧True) (fun n2 (s9:Int)=>dQ w n2 s9) (dQ w (((↑[[(78:UInt8),(75:UInt8),(83:UInt8)],[(78:UInt8),(75:UInt8),(83:UInt8)],[(78:UInt8),(75:UInt8),(87:UInt8)],[(78:UInt8),(75:UInt8),(87:UInt8)],[(78:UInt8),(75:UInt8),(87:UInt8),(83:UInt8)],[(78:UInt8),(75:UInt8),(87:UInt8)]].length:Int)-(0:Int)).toNat+1) (0:Int)),fun(s9:Int)=>((↑[[(78:UInt8),(75:UInt8),(83:UInt8)],[(78:UInt8),(75:UInt8),(83:UInt8)],[(78:UInt8),(75:UInt8),(87:UInt8)],[(78:UInt8),(75:UInt8),(87:UInt8)],[(78:UInt8),(75:UInt8),(87:UInt8),(83:UInt8)],[(78:UInt8),(75:UInt8),(87:UInt8)]].length:Int)- s9).toNat,⟨[],(0:Int),aF.mk0 _ (Nat.lt_succ_self _) ⟨show(0:Int)≤(0:Int)from by omega,show(0:Int)≤(↑[[(78:UInt8),(75:UInt8),(83:UInt8)],[(78:UInt8),(75:UInt8),(83:UInt8)],[(78:UInt8),(75:UInt8),(87:UInt8)],[(78:UInt8),(75:UInt8),(87:UInt8)],[(78:UInt8),(75:UInt8),(87:UInt8),(83:UInt8)],[(78:UInt8),(75:UInt8),(87:UInt8)]].length:Int)from by omega,trivial⟩ rfl,?_⟩,?_⟩
   ·repeat (first|exact trivial|refine And.intro rfl ?_)
   ·rintro s9 ⟨n2,hc2,⟨hi2_0,hi2_1,-⟩,hf1⟩;have hf1:=hf1.trans (dQ.eq_2 w s9 n2);refine fun h3=>?_;have h3:(↑[[(115:UInt8),(101:UInt8),(116:UInt8)],[(99:UInt8),(111:UInt8),(117:UInt8),(110:UInt8),(116:UInt8)],[(101:UInt8),(110:UInt8),(116:UInt8),(101:UInt8),(114:UInt8)],[(108:UInt8),(101:UInt8),(97:UInt8),(118:UInt8),(101:UInt8)],[(112:UInt8),(117:UInt8),(116:UInt8)],[(116:UInt8),(97:UInt8),(107:UInt8),(101:UInt8)]].length:Int)≤(9223372036854775807:Int):=h3.2;refine vI hf1 (iA iD iD) (fun h4 hf1=>?_) (fun h4 hf1=>?_)
    ·refine And.intro (show(0:Int)≤s9∧s9<(↑[[(115:UInt8),(101:UInt8),(116:UInt8)],[(99:UInt8),(111:UInt8),(117:UInt8),(110:UInt8),(116:UInt8)],[(101:UInt8),(110:UInt8),(116:UInt8),(101:UInt8),(114:UInt8)],[(108:UInt8),(101:UInt8),(97:UInt8),(118:UInt8),(101:UInt8)],[(112:UInt8),(117:UInt8),(116:UInt8)],[(116:UInt8),(97:UInt8),(107:UInt8),(101:UInt8)]].length:Int)from by omega) ?_;refine vI hf1 iD (fun h5 hf1=>?_) (fun h5 hf1=>?_)
     ·refine .inl ⟨[(true,0),(true,1),(true,2),(true,3),(true,4),(true,5),(true,6),(true,7),(false,8),(true,9)],none,[0,5,6,7,8,9,10,11,12,13,14,15,16],by kernel_rfl,?_⟩;refine .inl (And.intro (eb (p:=s9) (q:=(1:Int)) (r:=s9+(1:Int)) (by omega)) ?_);refine And.intro (show(0:Int)≤s9∧s9<(↑[[(78:UInt8),(75:UInt8),(83:UInt8)],[(78:UInt8),(75:UInt8),(83:UInt8)],[(78:UInt8),(75:UInt8),(87:UInt8)],[(78:UInt8),(75:UInt8),(87:UInt8)],[(78:UInt8),(75:UInt8),(87:UInt8),(83:UInt8)],[(78:UInt8),(75:UInt8),(87:UInt8)]].length:Int)from by omega) ?_;rw[hf1]at hf0;rw[hf0]at h;exact h
     ·refine .inl (And.intro (eb (p:=s9) (q:=(1:Int)) (r:=s9+(1:Int)) (by omega)) ?_);have hm2:((↑[[(78:UInt8),(75:UInt8),(83:UInt8)],[(78:UInt8),(75:UInt8),(83:UInt8)],[(78:UInt8),(75:UInt8),(87:UInt8)],[(78:UInt8),(75:UInt8),(87:UInt8)],[(78:UInt8),(75:UInt8),(87:UInt8),(83:UInt8)],[(78:UInt8),(75:UInt8),(87:UInt8)]].length:Int)-(s9+(1:Int))).toNat<((↑[[(78:UInt8),(75:UInt8),(83:UInt8)],[(78:UInt8),(75:UInt8),(83:UInt8)],[(78:UInt8),(75:UInt8),(87:UInt8)],[(78:UInt8),(75:UInt8),(87:UInt8)],[(78:UInt8),(75:UInt8),(87:UInt8),(83:UInt8)],[(78:UInt8),(75:UInt8),(87:UInt8)]].length:Int)- s9).toNat:=by omega
      refine⟨[],s9+(1:Int),hm2,aF.next (s:=s9) hc2 hm2 ⟨show(0:Int)≤s9+(1:Int)from by omega,show s9+(1:Int)≤(↑[[(78:UInt8),(75:UInt8),(83:UInt8)],[(78:UInt8),(75:UInt8),(83:UInt8)],[(78:UInt8),(75:UInt8),(87:UInt8)],[(78:UInt8),(75:UInt8),(87:UInt8)],[(78:UInt8),(75:UInt8),(87:UInt8),(83:UInt8)],[(78:UInt8),(75:UInt8),(87:UInt8)]].length:Int)from by omega,trivial⟩ hf1,?_⟩;repeat (first|exact trivial|refine And.intro rfl ?_)
    ·rw[hf1]at hf0;refine vI hf0 iD (fun h6 hf0=>?_) (fun h6 hf0=>?_)
     ·rw[hf0]at h;exact h
     ·refine vI hf0 iD (fun h7 hf0=>?_) (fun h7 hf0=>?_)
      ·refine vT iD (show w= [(99:UInt8),(97:UInt8),(108:UInt8),(109:UInt8)]from by omega) ?_;rw[hf0]at h;exact h
      ·refine vI hf0 iD (fun h8 hf0=>?_) (fun h8 hf0=>?_)
       ·refine vT iD (show w= [(100:UInt8),(114:UInt8),(97:UInt8),(105:UInt8),(110:UInt8)]from by omega) ?_;rw[hf0]at h;exact h
       ·refine vI hf0 iD (fun h9 hf0=>?_) (fun h9 hf0=>?_)
        ·rw[hf0]at h;exact h
        ·refine vI hf0 iD (fun h10 hf0=>?_) (fun h10 hf0=>?_)
         ·rw[hf0]at h;exact h
         ·refine vI hf0 iD (fun h11 hf0=>?_) (fun h11 hf0=>?_)
          ·rw[hf0]at h;exact h
          ·rw[hf0]at h;exact h
end Go.Proofs.YtfgofabojepcmaaGreatDoor.V
end

section
set_option linter.unusedVariables false
set_option linter.unusedSimpArgs false
set_option maxRecDepth 20000
set_option maxHeartbeats 4000000
namespace Go.Proofs.YtfgofabojepcmaaGreatDoor.V
open Go.RowKit
def MT:bS U:= [(113,EH),(114,x5),(115,EJ)]
theorem EL:ay Tryz.prog U MT:=ae Ig (ae BC (ae Ii (am)))
def ab(cores:Int)(eds:List ah)(dvs:List ah)(grs:List (List Int))(disk:ak)(stage:Int)(w:List (List UInt8)):Int×Bool×Int×ak×(List ah)×(List ah)×(List (List Int)):=
 if stage=(0:Int)then
  if((¬ix w (0:Int)= [(99:UInt8),(111:UInt8),(108:UInt8),(111:UInt8),(110:UInt8),(121:UInt8)])∨(¬((bf (List.drop (Int.toNat (1:Int)) w)).snd=true)))∨(¬(↑(bf (List.drop (Int.toNat (1:Int)) w)).fst.length:Int)=(3:Int))then
   ((0:Int),false,cores,disk,eds,dvs,grs)
  else
   ((1:Int),true,ix (bf (List.drop (Int.toNat (1:Int)) w)).fst (0:Int),ak.mk (ix (bf (List.drop (Int.toNat (1:Int)) w)).fst (1:Int)) (ix (bf (List.drop (Int.toNat (1:Int)) w)).fst (2:Int)),eds,dvs,grs)
 else
  if((ix w (0:Int)= [(101:UInt8),(100:UInt8),(103:UInt8),(101:UInt8)])∧(stage=(1:Int)))∨((ix w (0:Int)= [(100:UInt8),(101:UInt8),(118:UInt8),(105:UInt8),(99:UInt8),(101:UInt8)])∧(stage≤(2:Int)))then
   if((↑w.length:Int)<(2:Int))∨(aE (ix w (1:Int))<(0:Int))then
    ((0:Int),false,cores,disk,eds,dvs,grs)
   else
    if ix w (0:Int)= [(101:UInt8),(100:UInt8),(103:UInt8),(101:UInt8)]then
     ((1:Int),(aX (List.drop (Int.toNat (2:Int)) w)).snd,cores,disk,eds++ [ah.mk (aE (ix w (1:Int))) (aX (List.drop (Int.toNat (2:Int)) w)).fst],dvs,grs)
    else
     ((2:Int),(aX (List.drop (Int.toNat (2:Int)) w)).snd,cores,disk,eds,dvs++ [ah.mk (aE (ix w (1:Int))) (aX (List.drop (Int.toNat (2:Int)) w)).fst],grs)
  else
   if ix w (0:Int)= [(103:UInt8),(114:UInt8),(111:UInt8),(117:UInt8),(112:UInt8)]then
    ((3:Int),(bf (List.drop (Int.toNat (1:Int)) w)).snd,cores,disk,eds,dvs,grs++ [(bf (List.drop (Int.toNat (1:Int)) w)).fst])
   else
    if ix w (0:Int)= [(103:UInt8),(111:UInt8)]then
     ((4:Int),decide ((↑w.length:Int)=(1:Int)),cores,disk,eds,dvs,grs)
    else
     ((0:Int),false,cores,disk,eds,dvs,grs)
def c46:bZ U:=⟨[.p [(1,some (.int .i64)),(1,none),(1,none),(1,none),(2,some (.st 1))],.d (.int .i64),.d (.sl .str)],fun xs es K=> ∃(cores:Int) (eds:List ah) (dvs:List ah) (grs:List (List Int)) (disk:ak) (stage:Int) (w:List (List UInt8)),xs= [⟨false,[(1,.ptr 0 0)]⟩,⟨false,[(1,.d (.int .i64) stage)]⟩,⟨false,[(1,.d (.sl .str) w)]⟩]∧es= [.cells [(1,.d (.int .i64) cores),(1,.own 1 0),(1,.own 2 0),(1,.own 3 0),(2,.d (.st 1) disk)] 70,.row 0 (.st 0) eds 250,.row 0 (.st 0) dvs 250,.row 0 (.sl (.int .i64)) grs 35]∧(1≤w.length)∧(w.length≤1000000)∧(eds.length≤900000)∧(dvs.length≤900000)∧(grs.length≤900000)∧K (.tup [⟨false,[(1,.d (.int .i64) ((ab cores eds dvs grs disk stage w).1))]⟩,⟨false,[(1,.d .bool ((ab cores eds dvs grs disk stage w).2.1))]⟩]) [.cells [(1,.d (.int .i64) ((ab cores eds dvs grs disk stage w).2.2.1)),(1,.own 1 1),(1,.own 2 1),(1,.own 3 1),(2,.d (.st 1) ((ab cores eds dvs grs disk stage w).2.2.2.1))] 70,.row 1 (.st 0) ((ab cores eds dvs grs disk stage w).2.2.2.2.1) 250,.row 1 (.st 0) ((ab cores eds dvs grs disk stage w).2.2.2.2.2.1) 250,.row 1 (.sl (.int .i64)) ((ab cores eds dvs grs disk stage w).2.2.2.2.2.2) 35]⟩
theorem MU:aQ Tryz.prog U 46 c46:=by
 refine mD (fn:=Tryz.f46) EL aC (by kernel_rfl) Tryz.f46.ntmps [.d (.int .i64),.d .bool] [(0,[(1,some (.int .i64)),(1,none),(1,none),(1,none),(2,some (.st 1))])] (by kernel_rfl) (by kernel_rfl) rfl rfl (by kernel_rfl) (fun xs es K=>?_);rintro⟨cores,eds,dvs,grs,disk,stage,w,rfl,rfl,hw,hl2,ht1,ht2,ht3,h⟩;refine⟨rfl,?_⟩;have hf0:=ab.eq_1 cores eds dvs grs disk stage w;refine And.intro (show(0:Int)≤(1:Int)∧(1:Int)≤(↑w.length:Int)∧(↑w.length:Int)≤(↑w.length:Int)from by omega) ?_;refine⟨_,rfl,rfl,(show(List.drop (Int.toNat (1:Int)) w).length≤(1000000:Nat)from by(simp;omega)),?_⟩;refine vI hf0 iD (fun h0 hf0=>?_) (fun h0 hf0=>?_)
 ·refine And.intro (show(0:Int)≤(0:Int)∧(0:Int)<(↑w.length:Int)from by omega) ?_;refine vI hf0 (iO (iO iD (iN iB)) iD) (fun h1 hf0=>?_) (fun h1 hf0=>?_)
  ·rw[hf0]at h;exact h
  ·refine And.intro (show(0:Int)≤(0:Int)∧(0:Int)<(↑(bf (List.drop (Int.toNat (1:Int)) w)).fst.length:Int)from by omega) ?_;refine And.intro (show(0:Int)≤(1:Int)∧(1:Int)<(↑(bf (List.drop (Int.toNat (1:Int)) w)).fst.length:Int)from by omega) ?_;refine And.intro (show(0:Int)≤(2:Int)∧(2:Int)<(↑(bf (List.drop (Int.toNat (1:Int)) w)).fst.length:Int)from by omega) ?_;rw[hf0]at h;exact h
 ·refine And.intro (show(0:Int)≤(0:Int)∧(0:Int)<(↑w.length:Int)from by omega) ?_;refine And.intro (show(decide (ix w (0:Int)= [(101:UInt8),(100:UInt8),(103:UInt8),(101:UInt8)])&&decide (stage=(1:Int)))=((64:Nat),false).snd→(0:Int)≤(0:Int)∧(0:Int)<(↑w.length:Int)from by omega) ?_;refine vI hf0 (iO (iA iD iD) (iA iD iD)) (fun h2 hf0=>?_) (fun h2 hf0=>?_)
  ·refine fun h3=>?_;have h3:(↑w.length:Int)≤(9223372036854775807:Int):=h3.2;refine And.intro (show decide ((↑w.length:Int)<(2:Int))=((77:Nat),false).snd→(0:Int)≤(1:Int)∧(1:Int)<(↑w.length:Int)from by(intro h;simp at h;omega)) ?_;refine⟨_,fun h4=>⟨_,rfl,rfl,rfl,rfl⟩,rfl,?_⟩;refine vI hf0 (iO iD iD) (fun h5 hf0=>?_) (fun h5 hf0=>?_)
   ·rw[hf0]at h;exact h
   ·refine And.intro (show(0:Int)≤(2:Int)∧(2:Int)≤(↑w.length:Int)∧(↑w.length:Int)≤(↑w.length:Int)from by omega) ?_;refine⟨_,rfl,rfl,(show(List.drop (Int.toNat (2:Int)) w).length≤(1000000:Nat)from by(simp;omega)),?_⟩;refine And.intro (show(0:Int)≤(1:Int)∧(1:Int)<(↑w.length:Int)from by omega) ?_;refine⟨_,rfl,rfl,?_⟩;refine And.intro (show(0:Int)≤(0:Int)∧(0:Int)<(↑w.length:Int)from by omega) ?_;refine vI hf0 iD (fun h6 hf0=>?_) (fun h6 hf0=>?_)
    ·refine .inl ⟨[(true,0),(true,1),(true,2),(true,3),(true,4),(true,5),(false,6),(false,7),(true,8),(true,9)],some 10,[1,5,6,7,8,9,10,11,12,13,14,15,16],by kernel_rfl,?_⟩;refine And.intro (show(eds.length+ [ah.mk (aE (ix w (1:Int))) (aX (List.drop (Int.toNat (2:Int)) w)).fst].length)*(32:Nat)≤(140737488355328:Nat)from by(simp only[List.length_append,List.length_cons,List.length_nil];omega)) ?_;rw[hf0]at h;exact h
    ·refine .inl ⟨[(true,0),(true,1),(true,2),(true,3),(true,4),(true,5),(false,6),(false,7),(true,8),(true,9)],some 10,[2,5,6,7,8,9,10,11,12,13,14,15,16],by kernel_rfl,?_⟩;refine And.intro (show(dvs.length+ [ah.mk (aE (ix w (1:Int))) (aX (List.drop (Int.toNat (2:Int)) w)).fst].length)*(32:Nat)≤(140737488355328:Nat)from by(simp only[List.length_append,List.length_cons,List.length_nil];omega)) ?_;rw[hf0]at h;exact h
  ·refine And.intro (show(0:Int)≤(0:Int)∧(0:Int)<(↑w.length:Int)from by omega) ?_;refine vI hf0 iD (fun h7 hf0=>?_) (fun h7 hf0=>?_)
   ·refine And.intro (show(grs.length+ [(bf (List.drop (Int.toNat (1:Int)) w)).fst].length)*(24:Nat)≤(140737488355328:Nat)from by(simp only[List.length_append,List.length_cons,List.length_nil];omega)) ?_;rw[hf0]at h;exact h
   ·refine And.intro (show(0:Int)≤(0:Int)∧(0:Int)<(↑w.length:Int)from by omega) ?_;refine vI hf0 iD (fun h8 hf0=>?_) (fun h8 hf0=>?_)
    ·refine fun h9=>?_;have h9:(↑w.length:Int)≤(9223372036854775807:Int):=h9.2;rw[hf0]at h;exact h
    ·rw[hf0]at h;exact h
end Go.Proofs.YtfgofabojepcmaaGreatDoor.V
end

section
set_option linter.unusedVariables false
set_option linter.unusedSimpArgs false
set_option maxRecDepth 20000
set_option maxHeartbeats 4000000
namespace Go.Proofs.YtfgofabojepcmaaGreatDoor.V
open Go.RowKit
theorem na(t:List UInt8)(c:UInt8)(h:Lib.indexByte t c= -1):t.count c=0:=by
 induction t with
 |nil=>rfl
 |cons b l ih=>
  unfold Lib.indexByte at h;by_cases e:b=c
  ·subst e;simp at h
  ·have e2:(b==c)=false:=by simpa using e
   rw[if_neg (by simp[e2])]at h;by_cases h2:(Lib.indexByte l c== -1)=true
   ·rw[List.count_cons,ih (by simpa using h2)];simp[e]
   ·rw[if_neg h2]at h;have:=Lib.indexByte_ge l c;omega
def jB(c:UInt8):List UInt8→List (List UInt8)
 | []=> [[]]
 |b::t=>if b=c then []::jB c t else match jB c t with| []=> [[b]]|p::r=>(b::p)::r
theorem nc(c:UInt8): ∀s:List UInt8,Lib.splitK [c] 0 (s.count c) s=jB c s
 | []=>by simp[Lib.splitK,jB]
 |b::t=>by
  have ih:=nc c t;by_cases e:b=c
  ·subst e;rw[List.count_cons_self,Lib.splitK,Lib.index_one];have h0:Lib.indexByte (b::t) b=0:=by simp[Lib.indexByte]
   rw[h0];simp only[jB,if_true];rw[if_neg (by decide)];simp only[Int.toNat_zero,Nat.zero_add,List.take_zero,List.length_singleton,List.drop_succ_cons,List.drop_zero];rw[ih]
  ·rw[List.count_cons_of_ne e];have hs:jB c (b::t)=match jB c t with| []=> [[b]]|p::r=>(b::p)::r:=by rw[jB,if_neg e]
   rw[hs,←ih];cases hk:t.count c with
   |zero=>simp[Lib.splitK]
   |succ k=>
    have hi:Lib.indexByte t c≠ -1:=fun q=>by have:=na t c q;omega
    have hg:=Lib.indexByte_ge t c;have h1:Lib.indexByte (b::t) c=Lib.indexByte t c+1:=by
     rw[Lib.indexByte];rw[if_neg (by simpa using e),if_neg (by simpa using hi)]
    simp only[Lib.splitK,Lib.index_one,h1];rw[if_neg (by simp;omega),if_neg (by simpa using hi)];have e1:(Lib.indexByte t c+1).toNat=(Lib.indexByte t c).toNat+1:=by omega
    simp only[e1,Nat.add_zero,List.take_succ_cons,List.length_singleton,List.drop_succ_cons]
theorem iX(c:UInt8)(s:List UInt8):Lib.split s [c]=jB c s:=by
 unfold Lib.split;rw[Lib.count_one,nc]
theorem ng(c:UInt8): ∀s:List UInt8,jB c s≠ []
 | []=>by simp[jB]
 |b::t=>by
  rw[jB];split
  ·simp
  ·split<;>simp
def x6(p:List UInt8):List (List UInt8)→List (List UInt8)
 | []=> [p]
 |q::r=>(p++q)::r
theorem qD{l:List (List UInt8)}(h:l≠ []):x6 [] l=l:=by cases l with|nil=>exact absurd rfl h|cons a l=>rfl
theorem n7(a b:UInt8):((a.toNat:Int)=(b.toNat:Int))↔a=b:=⟨fun h=>UInt8.toNat_inj.1 (by omega),fun h=>by rw[h]⟩
theorem gW(s:List UInt8)(c:UInt8): ∀(n f i:Nat) (acc:List (List UInt8)),i≤s.length→f≤i→s.length+2≤n+i→ ∃a b,dn s (c.toNat:Int) n (f:Int) (i:Int) acc= .inr (a,b,acc++x6 (List.drop f (List.take i s)) (jB c (List.drop i s)))
 |0,f,i,acc,h1,h2,h3=>by omega
 |n+1,f,i,acc,h1,h2,h3=>by
  rw[dn,if_pos (show(i:Int)≤(s.length:Int)by omega)];by_cases hi:i=s.length
  ·subst hi;rw[if_pos (.inl rfl)];obtain⟨m,rfl⟩: ∃m,n=m+1:=⟨n - 1,by omega⟩;rw[dn,if_neg (by omega)];refine⟨(s.length:Int)+1,(s.length:Int)+1,?_⟩;rw[List.drop_length];simp[jB,x6]
  ·have hlt:i<s.length:=by omega
   have hx:ix s (i:Int)=s[i]:=cU s hlt;rw[hx,List.drop_eq_getElem_cons hlt];have hd:List.drop f (List.take (i+1) s)=List.drop f (List.take i s)++ [s[i]]:=by
    rw[List.take_succ_eq_append_getElem hlt,List.drop_append_of_le_length (by rw[List.length_take];omega)]
   by_cases hc:s[i]=c
   ·rw[if_pos (.inr ((n7 _ _).2 hc))];obtain⟨a,b,ih⟩:=gW s c n (i+1) (i+1) (acc++ [List.drop f (List.take i s)]) (by omega) (by omega) (by omega);refine⟨a,b,?_⟩;rw[show(i:Int)+1=((i+1:Nat):Int)by omega,Int.toNat_natCast,Int.toNat_natCast,ih,jB,if_pos hc];rw[show List.drop (i+1) (List.take (i+1) s)= []by simp,qD (ng _ _)];simp[x6]
   ·rw[if_neg (by rintro(h|h);omega;exact hc ((n7 _ _).1 h))];obtain⟨a,b,ih⟩:=gW s c n f (i+1) acc (by omega) (by omega) (by omega);refine⟨a,b,?_⟩;rw[show(i:Int)+1=((i+1:Nat):Int)by omega,ih,hd,jB,if_neg hc];congr 3;cases hq:jB c (List.drop (i+1) s)with
    |nil=>exact absurd hq (ng _ _)
    |cons p r=>simp[x6]
theorem n9(s:List UInt8)(c:UInt8):aa s (c.toNat:Int)=Lib.split s [c]:=by
 obtain⟨a,b,h⟩:=gW s c (((↑s.length:Int)+(1:Int)-(0:Int)).toNat+1) 0 0 [] (Nat.zero_le _) (Nat.le_refl _) (by omega);unfold aa;have h:dn s (c.toNat:Int) (((↑s.length:Int)+(1:Int)-(0:Int)).toNat+1) 0 0 []=_:=h;rw[h];rw[iX];simp[qD (ng c s)]
theorem nh(s:List UInt8):aa s (10:Int)=Lib.split s [10]:=n9 s 10
theorem qE(s:List UInt8):aa s (32:Int)=Lib.split s [32]:=n9 s 32
theorem rN(s:List UInt8)(c:UInt8):1≤(Lib.split s [c]).length∧(Lib.split s [c]).length≤s.length+1:=by
 have h:=jv (s:=s) (sep:= [c]) (Nat.le_refl 1);have hcount:Lib.count s [c]≤s.length:=by
  have:=Lib.countB_le ⟨[c].toArray⟩ (by simp[ByteArray.size]) s.length ⟨s.toArray⟩ (by simp[ByteArray.size]);simpa[ByteArray.size]using this
 omega
theorem pn{s:List UInt8}:1≤(aa s (32:Int)).length∧(aa s (32:Int)).length≤s.length+1:=by rw[qE];exact rN s 32
theorem x7{s:List UInt8}{m:Nat}(hs:s.length≤m){q:Int}(h0:0≤q)(h1:q<((aa s (10:Int)).length:Int)):(ix (aa s (10:Int)) q).length≤m:=by
 rw[nh]at h1⊢;exact dK (b5 hs) h0 h1
theorem bh(cores:Int)(eds:List ah)(dvs:List ah)(grs:List (List Int))(disk:ak)(stage:Int)(w:List (List UInt8)){k:Int}:
  ((eds.length:Int)≤k→((ab cores eds dvs grs disk stage w).2.2.2.2.1.length:Int)≤k+1)∧((dvs.length:Int)≤k→((ab cores eds dvs grs disk stage w).2.2.2.2.2.1.length:Int)≤k+1)∧((grs.length:Int)≤k→((ab cores eds dvs grs disk stage w).2.2.2.2.2.2.length:Int)≤k+1):=by
 unfold ab
 repeat' split
 all_goals (refine⟨fun h=>?_,fun h=>?_,fun h=>?_⟩<;>dsimp only<;>(try rw[List.length_append,List.length_singleton])<;>omega)
theorem oa{cores:Int}{eds:List ah}{dvs:List ah}{grs:List (List Int)}{disk:ak}{stage:Int}{w:List (List UInt8)}{k:Int}(h:(eds.length:Int)≤k)(hk:k≤900000):(ab cores eds dvs grs disk stage w).2.2.2.2.1.length≤1000000:=by
 have:=(bh cores eds dvs grs disk stage w).1 h;omega
theorem oc{cores:Int}{eds:List ah}{dvs:List ah}{grs:List (List Int)}{disk:ak}{stage:Int}{w:List (List UInt8)}{k:Int}(h:(dvs.length:Int)≤k)(hk:k≤900000):(ab cores eds dvs grs disk stage w).2.2.2.2.2.1.length≤1000000:=by
 have:=(bh cores eds dvs grs disk stage w).2.1 h;omega
end Go.Proofs.YtfgofabojepcmaaGreatDoor.V
end

section
set_option linter.unusedVariables false
set_option linter.unusedSimpArgs false
namespace Go.Proofs.YtfgofabojepcmaaGreatDoor.V
open Go.RowKit
theorem oV{b:UInt8}{d:Nat}(h:Lib.digitVal b=some d):d≤9∧b.toNat=48+d:=by
 unfold Lib.digitVal at h;split at h
 ·injection h with h;omega
 ·cases h
theorem B7(d:Nat)(h:d≤9):Lib.digitVal (UInt8.ofNat (48+d))=some d:=by
 have:(UInt8.ofNat (48+d)).toNat=48+d:=by rw[UInt8.toNat_ofNat'];omega
 unfold Lib.digitVal;rw[if_pos (by omega),this];congr 1;omega
theorem oW{b:UInt8}{d:Nat}(h:Lib.digitVal b=some d):b=UInt8.ofNat (48+d):=by
 obtain⟨h1,h2⟩:=oV h;apply UInt8.toNat_inj.1;rw[UInt8.toNat_ofNat'];omega
theorem gQ: ∀(l:List UInt8) (a:Nat) (b:UInt8),Lib.decFrom a (l++ [b])=(Lib.decFrom a l).bind fun n=>(Lib.digitVal b).map fun d=>n*10+d
 | [],a,b=>by
  simp only[List.nil_append,Lib.decFrom];cases Lib.digitVal b<;>rfl
 |c::l,a,b=>by
  simp only[List.cons_append,Lib.decFrom];cases Lib.digitVal c with
  |none=>rfl
  |some d=>exact gQ l _ b
theorem rr(u:Nat):Lib.decFrom 0 (Lib.decDigits u)=some u:=by
 induction u using Nat.strongRecOn with
 |ind u ih=>
  rw[Lib.decDigits];split
  ·simp only[Lib.decFrom,B7 u (by omega)];simp
  ·rw[gQ,ih (u/10) (by omega),B7 (u%10) (by omega)];simp only[Option.bind_some,Option.map_some,Option.some.injEq];omega
theorem ww(u:Nat):Lib.decDigits u≠ []:=by
 rw[Lib.decDigits];split<;>simp
theorem wx(k:Nat): ∀u:Nat,u<10^(k+1)→(Lib.decDigits u).length≤k+1:=by
 induction k with
 |zero=>intro u h;rw[Lib.decDigits,dif_pos (by simpa using h)];simp
 |succ k ih=>
  intro u h;rw[Lib.decDigits];split
  ·simp
  ·rw[List.length_append];have:=ih (u/10) (by rw[Nat.pow_succ]at h;omega);simp only[List.length_singleton];omega
def J2(s:List UInt8):Prop:=1<s.length→s.head? ≠some 48
theorem D8(u:Nat):J2 (Lib.decDigits u)∧(1≤u→(Lib.decDigits u).head? ≠some 48):=by
 have key: ∀u:Nat,1≤u→(Lib.decDigits u).head? ≠some 48:=fun u=>by
  induction u using Nat.strongRecOn with
  |ind u ih=>
   intro h;rw[Lib.decDigits];split
   ·simp only[List.head?_cons];intro e;injection e with e;have:(UInt8.ofNat (48+u)).toNat=48+u:=by rw[UInt8.toNat_ofNat'];omega
    rw[e]at this;have:(48:UInt8).toNat=48:=rfl;omega
   ·have h2:=ih (u/10) (by omega) (by omega);cases hq:Lib.decDigits (u/10)with
    |nil=>exact absurd hq (ww _)
    |cons a l=>rw[hq]at h2;simpa using h2
 refine⟨fun h=>?_,key u⟩;refine key u ?_;rcases Nat.eq_zero_or_pos u with rfl|h0
 ·exfalso;rw[Lib.decDigits]at h;simp at h
 ·exact h0
theorem Ap{l:List UInt8}: ∀{a u:Nat},1≤a→Lib.decFrom a l=some u→1≤u:=by
 induction l with
 |nil=>intro a u h e;simp only[Lib.decFrom,Option.some.injEq]at e;omega
 |cons c l ih=>
  intro a u h e;simp only[Lib.decFrom]at e;cases hd:Lib.digitVal c with
  |none=>rw[hd]at e;cases e
  |some d=>rw[hd]at e;exact ih (by omega) e
theorem D9: ∀(n:Nat) (s:List UInt8) (u:Nat),s.length=n→s≠ []→J2 s→Lib.decFrom 0 s=some u→s=Lib.decDigits u:=by
 intro n;induction n with
 |zero=>intro s u hl hne;exact absurd (List.eq_nil_of_length_eq_zero hl) hne
 |succ n ih=>
  intro s u hl hne hz h;obtain⟨l,b,rfl⟩: ∃l b,s=l++ [b]:=⟨s.dropLast,s.getLast hne,(List.dropLast_concat_getLast hne).symm⟩;rw[gQ]at h;cases hq:Lib.decFrom 0 l with
  |none=>rw[hq]at h;cases h
  |some m=>
   rw[hq]at h;cases hd:Lib.digitVal b with
   |none=>rw[hd]at h;cases h
   |some d=>
    rw[hd]at h;simp only[Option.bind_some,Option.map_some,Option.some.injEq]at h;obtain⟨hd9,_⟩:=oV hd;rcases l with _|⟨c,l⟩
    ·simp only[Lib.decFrom,Option.some.injEq]at hq;subst hq;rw[Lib.decDigits,dif_pos (by omega),oW hd];simp only[List.nil_append,List.cons.injEq,and_true];congr 1;omega
    ·have hz1:c≠48:=by
      have:=hz (by simp only[List.length_append,List.length_cons,List.length_nil];omega);simpa using this
     have hm:1≤m:=by
      simp only[Lib.decFrom]at hq;cases hc:Lib.digitVal c with
      |none=>rw[hc]at hq;cases hq
      |some dc=>
       rw[hc]at hq;refine Ap (a:=0*10+dc) ?_ hq;have h5:=oW hc;rcases Nat.eq_zero_or_pos dc with h0|h0
       ·subst h0;exact absurd h5 hz1
       ·omega
     have hl2:(c::l).length=n:=by simp only[List.length_append,List.length_cons,List.length_nil]at hl⊢;omega
     have:=ih (c::l) m hl2 (by simp) (fun _=>by simpa using hz1) hq;rw[this,Lib.decDigits.eq_def u,dif_neg (by omega),oW hd];have e1:u/10=m:=by omega
     have e2:u%10=d:=by omega
     rw[e1,e2]
theorem Aq {n : Nat} (h : n ≤ 1099511627776) : aq (Lib.decDigits n) = ((n : Int), true) := by
  have hl := wx 12 n (Nat.lt_of_le_of_lt h (by decide))
  have hd := rr n
  have ha : Lib.atoi (Lib.decDigits n) = some (n : Int) := by
    have hne := ww n
    cases hs : Lib.decDigits n with
    | nil => exact absurd hs hne
    | cons b r =>
      rw [hs] at hd
      have hb : ∃ d, Lib.digitVal b = some d := by
        simp only [Lib.decFrom] at hd
        cases hq : Lib.digitVal b with
        | none => rw [hq] at hd; cases hd
        | some d => exact ⟨d, rfl⟩
      obtain ⟨d, hb⟩ := hb
      have hb2 := (oV hb).2
      have h45 : (b == 45) = false := by
        cases hq : b == 45 with
        | false => rfl
        | true => have := eq_of_beq hq; subst this; have : (45 : UInt8).toNat = 45 := rfl; omega
      have h43 : (b == 43) = false := by
        cases hq : b == 43 with
        | false => rfl
        | true => have := eq_of_beq hq; subst this; have : (43 : UInt8).toNat = 43 := rfl; omega
      simp only [Lib.atoi, h45, h43, Lib.decNat, List.isEmpty_cons, hd]
      simp
  have hA : Lib.atoiAll (Lib.decDigits n) = .ok (n : Int) := by
    rw [Lib.atoiAll_short _ (by omega), ha]; rfl
  have hi : Lib.itoa (n : Int) = Lib.decDigits n := by unfold Lib.itoa; rw [if_neg (by omega)]; simp
  unfold aq lu sK
  rw [hA]
  simp only [hi]
  simp only [decide_true, Bool.true_and, Prod.mk.injEq, true_and, Bool.and_true, Bool.and_eq_true, decide_eq_true_eq]
  omega
theorem wy{s:List UInt8}(h:(aq s).2=true): ∃n:Nat,n≤1099511627776∧s=Lib.decDigits n:=by
 unfold aq at h;simp only[Bool.and_eq_true,decide_eq_true_eq]at h;obtain⟨⟨⟨_,h0⟩,h1⟩,h2⟩:=h;refine⟨(lu s).toNat,by omega,?_⟩;unfold Lib.itoa at h2;rw[if_neg (by omega)]at h2;exact h2.symm
theorem sO(s:List UInt8)(hl:s.length≤13): ∀(n i a:Nat),i≤s.length→a<10^i→s.length+1≤n+i→
  dB s n (a:Int) (i:Int)=match Lib.decFrom a (s.drop i)with|some u=> .inr ((u:Int),(s.length:Int))|none=> .inl (-1)
 |0,i,a,h1,h2,h3=>by omega
 |n+1,i,a,h1,h2,h3=>by
  rw[dB];by_cases hi:i<s.length
  ·rw[if_pos (by omega),List.drop_eq_getElem_cons hi];have hx:ix s (i:Int)=s[i]:=cU s hi;simp only[hx,Lib.decFrom];by_cases hd:48≤s[i].toNat∧s[i].toNat≤57
   ·rw[if_neg (by omega)];have hv:Lib.digitVal s[i]=some (s[i].toNat - 48):=by unfold Lib.digitVal;rw[if_pos hd]
    rw[hv];have hp:10^i≤10^13:=Nat.pow_le_pow_right (by decide) (by omega);have e13:(10:Nat)^13=10000000000000:=by decide
    have e1:IntKind.i64.wrap (IntKind.i64.wrap ((10:Int)*(a:Int))+((↑s[i].toNat:Int)-(48:Int)))=((a*10+(s[i].toNat - 48):Nat):Int):=by
     have e2:IntKind.i64.wrap ((10:Int)*(a:Int))=10*(a:Int):=by rw[IntKind.wrap_i64];omega
     rw[e2,IntKind.wrap_i64];omega
    rw[e1,show(i:Int)+1=((i+1:Nat):Int)by omega];exact sO s hl n (i+1) _ hi (by rw[Nat.pow_succ];omega) (by omega)
   ·rw[if_pos (by omega)];have hv:Lib.digitVal s[i]=none:=by unfold Lib.digitVal;rw[if_neg hd]
    rw[hv]
  ·have:i=s.length:=by omega
   subst this;rw[if_neg (by omega),List.drop_length];rfl
theorem sP(s:List UInt8)(h:0<s.length):s.head? =some (ix s 0):=by
 cases s with
 |nil=>simp at h
 |cons a l=>rfl
theorem rt(s:List UInt8):(aE s= -1∧ ¬ ∃n:Nat,n≤1099511627776∧s=Lib.decDigits n)∨ ∃n:Nat,n≤1099511627776∧s=Lib.decDigits n∧aE s=n:=by
 have e13:(10:Nat)^(12+1)=10000000000000:=by decide
 unfold aE;split
 ·rename_i h;left;refine⟨rfl,?_⟩;rintro⟨n,hn,rfl⟩;have h1:=wx 12 n (by omega);have h2:=ww n;have h3:=(D8 n).1;rcases h with(h|h)|⟨h,h4⟩
  ·exact h2 (List.eq_nil_of_length_eq_zero (by omega))
  ·omega
  ·refine h3 (by omega) ?_;rw[sP _ (by omega)];congr 1;exact UInt8.toNat_inj.1 (by show _=48;omega)
 ·rename_i h;have hl:s.length≤13:=by omega
  have hne:s≠ []:=fun e=>h (.inl (.inl (by rw[e];rfl)));have hz:J2 s:=fun h1 e=>h (.inr ⟨by omega,by
   rw[sP _ (by omega)]at e;injection e with e;rw[e];rfl⟩)
  have hL:=sO s hl (((↑s.length:Int)-(0:Int)).toNat+1) 0 0 (Nat.zero_le _) (by decide) (by omega);rw[List.drop_zero]at hL;have hL:dB s (((↑s.length:Int)-(0:Int)).toNat+1) 0 0=_:=hL;rw[hL];cases hq:Lib.decFrom 0 s with
  |none=>
   left;refine⟨rfl,?_⟩;rintro⟨n,hn,rfl⟩;rw[rr]at hq;cases hq
  |some u=>
   have hs:=D9 s.length s u rfl hne hz hq;dsimp only;split
   ·left;refine⟨rfl,?_⟩;rintro⟨n,hn,e⟩;rw[e,rr]at hq;injection hq with hq;omega
   ·exact .inr ⟨u,by omega,hs,rfl⟩
theorem gR(s:List UInt8):(aq s).2=decide (0≤aE s)∧((aq s).2=true→(aq s).1=aE s):=by
 rcases rt s with⟨h1,h2⟩|⟨n,h1,rfl,h3⟩
 ·have:(aq s).2=false:=by
   cases hq:(aq s).2 with
   |false=>rfl
   |true=>exact absurd (wy hq) h2
  rw[this,h1];exact⟨rfl,fun h=>by cases h⟩
 ·rw[Aq h1,h3];exact⟨by simp,fun _=>rfl⟩
theorem kg{s:List UInt8}:aE s<0↔ ¬(aq s).2=true:=by
 rw[(gR s).1];simp
theorem sQ(l:List (List UInt8)): ∀(n:Nat) (k:Int) (acc:List Int),0≤k→fT l n k acc=(dC l n k acc:((List Int)×Bool)⊕(Int×(List Int)))
 |0,k,acc,hk=>rfl
 |n+1,k,acc,hk=>by
  rw[fT,dC];by_cases h:k<(l.length:Int)
  ·rw[if_pos h,if_pos h];by_cases h2:(aq (ix l k)).2=true
   ·rw[if_pos h2,if_neg (by rw[kg];exact fun q=>q h2),(gR _).2 h2];exact sQ l n _ _ (by omega)
   ·rw[if_neg h2,if_pos (kg.2 h2)]
  ·rw[if_neg h,if_neg h]
theorem oX(l:List (List UInt8)):cl l=bf l:=by
 unfold cl bf;rw[sQ l _ _ _ (Int.le_refl _)];rfl
theorem tQ(s:List UInt8):(cV s).2=(d6 s).2∧((cV s).2=true→(cV s).1=(d6 s).1):=by
 have hc:(cx s [(45:UInt8)]).2=decide (s.head? =some 45)∧(cx s [(45:UInt8)]).1=if s.head? =some 45 then s.tail else s:=by
  unfold cx eV d5;cases s with
  |nil=>simp
  |cons a l=>
   by_cases ha:a=45
   ·subst ha;simp[show(1:Int)≤(l.length:Int)+1 by omega]
   ·have: ¬([a]= [(45:UInt8)]):=by simpa using ha
    simp[ha,this]
 unfold cV d6;rw[hc.1,hc.2];cases s with
 |nil=>
  simp only[List.head?_nil,reduceCtorEq,decide_false,Bool.false_eq_true,if_false,List.length_nil];rw[if_neg (by omega)];exact⟨(gR _).1,(gR _).2⟩
 |cons a l=>
  by_cases ha:a=45
  ·subst ha;simp only[List.head?_cons,decide_true,if_true,List.tail_cons];have hx:(ix ((45:UInt8)::l) 0)=45:=rfl;have e45:((45:UInt8).toNat:Int)=45:=rfl;have hd:List.drop (Int.toNat (1:Int)) ((45:UInt8)::l)=l:=rfl;cases l with
   |nil=>
    rw[if_neg (by simp)];have hn:(aq []).2=false:=by decide+kernel
    have hr:aE [(45:UInt8)]= -1:=by decide+kernel
    rw[hn,hr];exact⟨by simp,fun h=>by simp at h⟩
   |cons b r=>
    rw[hx,e45,hd,if_pos ⟨by simp only[List.length_cons];omega,rfl⟩];obtain⟨h1,h2⟩:=gR (b::r);dsimp only;cases hq:(aq (b::r)).2 with
    |false=>
     rw[hq]at h1;have h1: ¬0≤aE (b::r):=by simpa using h1.symm
     refine⟨?_,fun h=>by simp at h⟩;simp only[Bool.false_and];symm;rw[decide_eq_false_iff_not];omega
    |true=>
     rw[h2 hq];exact⟨by simp,fun _=>rfl⟩
  ·have hne: ¬((a::l).head? =some 45):=by simpa using ha
   have hx:(ix (a::l) 0)=a:=rfl;have hn: ¬((a.toNat:Int)=45):=fun h=>ha (UInt8.toNat_inj.1 (by show _=45;omega));rw[if_neg (by simpa using ha),if_neg hne,hx,if_neg (fun h=>hn h.2)];exact⟨(gR _).1,(gR _).2⟩
end Go.Proofs.YtfgofabojepcmaaGreatDoor.V
end

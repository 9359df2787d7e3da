/- Walks printed by gen2.py out of our own specifications: what the functions named below do. -/
import Derived.Test.YtngofknckkiboaaGreatDoorSc
import Derived.Test.YtngofknckkiboaaGreatDoorHL
import Derived.Test.YtngofknckkiboaaGreatDoorHC
set_option linter.unusedSimpArgs false
set_option linter.unusedVariables false
namespace Go.Proofs.YtngofknckkiboaaGreatDoor
open Go.RowKit

def works14_m  : Bool :=
  if ((okey_m [97, 47, 114, 120]).1) = 1 then
    if ((okey_m [97, 47, 114, 120]).2) = 0 then
      if ((okey_m [97, 47, 47, 114]).2) = 3 then
        if ((onew_m 3).2) = 0 then
          if ((oprepare_m ((onew_m 3).1) (⟨3, [120], 0⟩ : OpM) (⟨(⟨1, 1⟩ : IdM), 0⟩ : TagM) (⟨1, 1⟩ : StampM)).2) = 0 then
            if ((oapply_m ((onew_m 3).1) ((oprepare_m ((onew_m 3).1) (⟨3, [120], 0⟩ : OpM) (⟨(⟨1, 1⟩ : IdM), 0⟩ : TagM) (⟨1, 1⟩ : StampM)).1)).2) = 0 then
              if (((osay_m ((oapply_m ((onew_m 3).1) ((oprepare_m ((onew_m 3).1) (⟨3, [120], 0⟩ : OpM) (⟨(⟨1, 1⟩ : IdM), 0⟩ : TagM) (⟨1, 1⟩ : StampM)).1)).1)).items).length : Int) = 1 then
                if ((oprepare_m ((oapply_m ((onew_m 3).1) ((oprepare_m ((onew_m 3).1) (⟨3, [120], 0⟩ : OpM) (⟨(⟨1, 1⟩ : IdM), 0⟩ : TagM) (⟨1, 1⟩ : StampM)).1)).1) (⟨4, [120], 0⟩ : OpM) (⟨(⟨2, 1⟩ : IdM), 0⟩ : TagM) (⟨1, 1⟩ : StampM)).2) = 0 then
                  if ((((oprepare_m ((oapply_m ((onew_m 3).1) ((oprepare_m ((onew_m 3).1) (⟨3, [120], 0⟩ : OpM) (⟨(⟨1, 1⟩ : IdM), 0⟩ : TagM) (⟨1, 1⟩ : StampM)).1)).1) (⟨4, [120], 0⟩ : OpM) (⟨(⟨2, 1⟩ : IdM), 0⟩ : TagM) (⟨1, 1⟩ : StampM)).1).tags).length : Int) = 1 then
                    if ix (((oprepare_m ((oapply_m ((onew_m 3).1) ((oprepare_m ((onew_m 3).1) (⟨3, [120], 0⟩ : OpM) (⟨(⟨1, 1⟩ : IdM), 0⟩ : TagM) (⟨1, 1⟩ : StampM)).1)).1) (⟨4, [120], 0⟩ : OpM) (⟨(⟨2, 1⟩ : IdM), 0⟩ : TagM) (⟨1, 1⟩ : StampM)).1).tags) 0 = (⟨(⟨1, 1⟩ : IdM), 0⟩ : TagM) then
                      if ((oapply_m ((oapply_m ((onew_m 3).1) ((oprepare_m ((onew_m 3).1) (⟨3, [120], 0⟩ : OpM) (⟨(⟨1, 1⟩ : IdM), 0⟩ : TagM) (⟨1, 1⟩ : StampM)).1)).1) ((oprepare_m ((oapply_m ((onew_m 3).1) ((oprepare_m ((onew_m 3).1) (⟨3, [120], 0⟩ : OpM) (⟨(⟨1, 1⟩ : IdM), 0⟩ : TagM) (⟨1, 1⟩ : StampM)).1)).1) (⟨4, [120], 0⟩ : OpM) (⟨(⟨2, 1⟩ : IdM), 0⟩ : TagM) (⟨1, 1⟩ : StampM)).1)).2) = 0 then
                        if (((osay_m ((oapply_m ((oapply_m ((onew_m 3).1) ((oprepare_m ((onew_m 3).1) (⟨3, [120], 0⟩ : OpM) (⟨(⟨1, 1⟩ : IdM), 0⟩ : TagM) (⟨1, 1⟩ : StampM)).1)).1) ((oprepare_m ((oapply_m ((onew_m 3).1) ((oprepare_m ((onew_m 3).1) (⟨3, [120], 0⟩ : OpM) (⟨(⟨1, 1⟩ : IdM), 0⟩ : TagM) (⟨1, 1⟩ : StampM)).1)).1) (⟨4, [120], 0⟩ : OpM) (⟨(⟨2, 1⟩ : IdM), 0⟩ : TagM) (⟨1, 1⟩ : StampM)).1)).1)).items).length : Int) = 0 then
                          ((oapply_m ((oapply_m ((onew_m 3).1) ((oprepare_m ((onew_m 3).1) (⟨3, [120], 0⟩ : OpM) (⟨(⟨1, 1⟩ : IdM), 0⟩ : TagM) (⟨1, 1⟩ : StampM)).1)).1) (⟨2, [], 1, (⟨(⟨1, 1⟩ : IdM), 0⟩ : TagM), (⟨0, 0⟩ : StampM), ([] : List TagM)⟩ : EffectM)).2) == 5
                        else
                          false
                      else
                        false
                    else
                      false
                  else
                    false
                else
                  false
              else
                false
            else
              false
          else
            false
        else
          false
      else
        false
    else
      false
  else
    false


set_option maxRecDepth 20000 in
theorem works14_ok (X : List Nat) (w : World) (hX : Lo X w) (mx : Int) (hmx : w.cell? ⟨0, 0, none⟩ = some (.int .i64 mx)) :
    Fn Tryz.prog 4 [] w fun v w' => v = .bool works14_m ∧ Fr [] w w' := by
  refine Fn_of 132 Ty.en_4 Tryz.func4 rfl rfl rfl ?_
  dsimp only [argEnv]
  have st := stn0 hX
  have hF := Fr.refl ([]) w
  refine sq fun _ k1 => rg (Ls' rfl (Ln k1 (sq fun _ k2 => rg (La rfl (Scl st hF rfl (okey_ok (keys (hOf st) ++ X) _ st.Lo [97, 47, 114, 120] mx (cellF hF hmx)) fun w1 st hF => Lm rfl (Lx rfl (Lx rfl (Ls' rfl (Ls' rfl (Ln k2 (sq fun _ k3 => rg (La rfl (Scl st hF rfl (okey_ok (keys (hOf st) ++ X) _ st.Lo [97, 47, 47, 114] mx (cellF hF hmx)) fun w2 st hF => Lm rfl (Lx rfl (Lx rfl (Ls' rfl (Ls' rfl (Ln k3 (sq fun _ k4 => rg (Ly rfl (y_build (cells := [_, _]) rfl rfl Ty.zc_58 Ty.ps_58 rfl) (Ly rfl (y_build (cells := [_, _, _]) rfl rfl Ty.zc_60 Ty.ps_60 rfl) (La rfl (Sal Ty.zc_60 st hF rfl fun g1 w3 (st : St _ _ [_] _) hF hg1 => La rfl (Ssw 0 Ty.sz_60 st hF (.inr hg1) rfl fun w4 (st : St _ _ [_] _) hF => Ln k4 (sq fun _ k5 => rg (Ly rfl (y_build (cells := [_, _]) rfl rfl Ty.zc_27 Ty.ps_27 rfl) (La rfl (Sal Ty.zc_27 st hF rfl fun g2 w5 (st : St _ _ [_, _] _) hF hg2 => La rfl (Ssw 1 Ty.sz_27 st hF (.inr hg2) rfl fun w6 (st : St _ _ [_, _] _) hF => Ln k5 (sq fun _ k6 => rg (La rfl (a_call rfl rfl rfl rfl (onew_ok (keys (hOf st) ++ X) _ st.Lo 3) (fun v w7 ⟨Ar1, cr1, Ar2, cr2, Ar3, cr3, Ar4, cr4, hv, hr1, hr2, hr3, hr4, hf⟩ => ?_)))))))))))))))))))))))))))))))))
  subst hv
  have st := st.keep0 hf
  have hF := hF.step0 hf
  have z12 := Sld.le hr1
  have st := st.addK (kS Ar1 ((((onew_m 3).1).setF).adds).length cr1 4 (((((onew_m 3).1).setF).adds).flatMap addMC)) hr1
  have z13 := Sld.le hr2
  have st := st.addK (kS Ar2 ((((onew_m 3).1).setF).gone).length cr2 3 (((((onew_m 3).1).setF).gone).flatMap tagMC)) hr2
  have z14 := Sld.le hr3
  have st := st.addK (kS Ar3 ((((onew_m 3).1).map).puts).length cr3 7 (((((onew_m 3).1).map).puts).flatMap putMC)) hr3
  have z15 := Sld.le hr4
  have st := st.addK (kS Ar4 ((((onew_m 3).1).map).gone).length cr4 3 (((((onew_m 3).1).map).gone).flatMap tagMC)) hr4
  have st : St X w7 [_, _] [_, _, _, _] := st
  refine Lm rfl (Lx rfl (Lx rfl (La rfl (Sal Ty.zc_40 st hF rfl fun g3 w8 (st : St _ _ [_, _, _] _) hF hg3 => La rfl (Ssw 2 Ty.sz_40 st hF (.inr hg3) rfl fun w9 (st : St _ _ [_, _, _] _) hF => Ls' rfl (Ln k6 (sq fun _ k7 => rg (Ly rfl (yw 2 Ty.ag_40 st rfl) (Ly rfl (y_build (cells := [_, _, _]) rfl rfl Ty.zc_83 Ty.ps_83 rfl) (Ly rfl (yw 0 Ty.ag_60 st rfl) (Ly rfl (yw 1 Ty.ag_27 st rfl) (La rfl (a_call rfl rfl rfl rfl (oprepare_ok (keys (hOf st) ++ X) _ st.Lo ((onew_m 3).1) Ar1 cr1 Ar2 cr2 Ar3 cr3 Ar4 cr4 (⟨3, [120], 0⟩ : OpM) (⟨(⟨1, 1⟩ : IdM), 0⟩ : TagM) (⟨1, 1⟩ : StampM) (st.q 0 rfl) (st.q 1 rfl) (st.q 2 rfl) (st.q 3 rfl) (by decide +kernel) (by decide +kernel) (by decide +kernel) (by decide +kernel)) (fun v w10 ⟨Ar5, cr5, hv, hr5, hf⟩ => ?_))))))))))))))
  subst hv
  have st := st.keep0 hf
  have hF := hF.step0 hf
  have z16 := Sld.le hr5
  have st := st.addK (kS Ar5 (((oprepare_m ((onew_m 3).1) (⟨3, [120], 0⟩ : OpM) (⟨(⟨1, 1⟩ : IdM), 0⟩ : TagM) (⟨1, 1⟩ : StampM)).1).tags).length cr5 3 ((((oprepare_m ((onew_m 3).1) (⟨3, [120], 0⟩ : OpM) (⟨(⟨1, 1⟩ : IdM), 0⟩ : TagM) (⟨1, 1⟩ : StampM)).1).tags).flatMap tagMC)) hr5
  have st : St X w10 [_, _, _] [_, _, _, _, _] := st
  refine Lm rfl (Lx rfl (Lx rfl (La rfl (Sal Ty.zc_64 st hF rfl fun g4 w11 (st : St _ _ [_, _, _, _] _) hF hg4 => La rfl (Ssw 3 Ty.sz_64 st hF (.inr hg4) rfl fun w12 (st : St _ _ [_, _, _, _] _) hF => Ls' rfl (Ln k7 (sq fun _ k8 => rg (Ly rfl (yw 2 Ty.ag_40 st rfl) (Ly rfl (yw 3 Ty.ag_64 st rfl) (La rfl (a_call rfl rfl rfl rfl (oapply_ok (keys (hOf st) ++ X) _ st.Lo ((onew_m 3).1) Ar1 cr1 Ar2 cr2 Ar3 cr3 Ar4 cr4 ((oprepare_m ((onew_m 3).1) (⟨3, [120], 0⟩ : OpM) (⟨(⟨1, 1⟩ : IdM), 0⟩ : TagM) (⟨1, 1⟩ : StampM)).1) Ar5 cr5 (st.q 0 rfl) (st.q 1 rfl) (st.q 2 rfl) (st.q 3 rfl) (st.q 4 rfl) (by decide +kernel) (by decide +kernel) (by decide +kernel) (by decide +kernel) (by decide +kernel)) (fun v w13 ⟨Ar6, cr6, Ar7, cr7, Ar8, cr8, Ar9, cr9, hv, hr6, hr7, hr8, hr9, hf⟩ => ?_))))))))))))
  subst hv
  have st := st.keep0 hf
  have hF := hF.step0 hf
  have z17 := Sld.le hr6
  have st := st.addK (kS Ar6 ((((oapply_m ((onew_m 3).1) ((oprepare_m ((onew_m 3).1) (⟨3, [120], 0⟩ : OpM) (⟨(⟨1, 1⟩ : IdM), 0⟩ : TagM) (⟨1, 1⟩ : StampM)).1)).1).setF).adds).length cr6 4 (((((oapply_m ((onew_m 3).1) ((oprepare_m ((onew_m 3).1) (⟨3, [120], 0⟩ : OpM) (⟨(⟨1, 1⟩ : IdM), 0⟩ : TagM) (⟨1, 1⟩ : StampM)).1)).1).setF).adds).flatMap addMC)) hr6
  have z18 := Sld.le hr7
  have st := st.addK (kS Ar7 ((((oapply_m ((onew_m 3).1) ((oprepare_m ((onew_m 3).1) (⟨3, [120], 0⟩ : OpM) (⟨(⟨1, 1⟩ : IdM), 0⟩ : TagM) (⟨1, 1⟩ : StampM)).1)).1).setF).gone).length cr7 3 (((((oapply_m ((onew_m 3).1) ((oprepare_m ((onew_m 3).1) (⟨3, [120], 0⟩ : OpM) (⟨(⟨1, 1⟩ : IdM), 0⟩ : TagM) (⟨1, 1⟩ : StampM)).1)).1).setF).gone).flatMap tagMC)) hr7
  have z19 := Sld.le hr8
  have st := st.addK (kS Ar8 ((((oapply_m ((onew_m 3).1) ((oprepare_m ((onew_m 3).1) (⟨3, [120], 0⟩ : OpM) (⟨(⟨1, 1⟩ : IdM), 0⟩ : TagM) (⟨1, 1⟩ : StampM)).1)).1).map).puts).length cr8 7 (((((oapply_m ((onew_m 3).1) ((oprepare_m ((onew_m 3).1) (⟨3, [120], 0⟩ : OpM) (⟨(⟨1, 1⟩ : IdM), 0⟩ : TagM) (⟨1, 1⟩ : StampM)).1)).1).map).puts).flatMap putMC)) hr8
  have z20 := Sld.le hr9
  have st := st.addK (kS Ar9 ((((oapply_m ((onew_m 3).1) ((oprepare_m ((onew_m 3).1) (⟨3, [120], 0⟩ : OpM) (⟨(⟨1, 1⟩ : IdM), 0⟩ : TagM) (⟨1, 1⟩ : StampM)).1)).1).map).gone).length cr9 3 (((((oapply_m ((onew_m 3).1) ((oprepare_m ((onew_m 3).1) (⟨3, [120], 0⟩ : OpM) (⟨(⟨1, 1⟩ : IdM), 0⟩ : TagM) (⟨1, 1⟩ : StampM)).1)).1).map).gone).flatMap tagMC)) hr9
  have st : St X w13 [_, _, _, _] [_, _, _, _, _, _, _, _, _] := st
  refine Lm rfl (Lx rfl (Lx rfl (La rfl (Sal Ty.zc_40 st hF rfl fun g5 w14 (st : St _ _ [_, _, _, _, _] _) hF hg5 => La rfl (Ssw 4 Ty.sz_40 st hF (.inr hg5) rfl fun w15 (st : St _ _ [_, _, _, _, _] _) hF => Ls' rfl (Ln k8 (sq fun _ k9 => rg (Ly rfl (yw 4 Ty.ag_40 st rfl) (Ly rfl (y_build (cells := [_, _, _]) rfl rfl Ty.zc_83 Ty.ps_83 rfl) (Ly rfl (y_build (cells := [_, _]) rfl rfl Ty.zc_58 Ty.ps_58 rfl) (Ly rfl (y_build (cells := [_, _, _]) rfl rfl Ty.zc_60 Ty.ps_60 rfl) (Ly rfl (yw 1 Ty.ag_27 st rfl) (La rfl (a_call rfl rfl rfl rfl (oprepare_ok (keys (hOf st) ++ X) _ st.Lo ((oapply_m ((onew_m 3).1) ((oprepare_m ((onew_m 3).1) (⟨3, [120], 0⟩ : OpM) (⟨(⟨1, 1⟩ : IdM), 0⟩ : TagM) (⟨1, 1⟩ : StampM)).1)).1) Ar6 cr6 Ar7 cr7 Ar8 cr8 Ar9 cr9 (⟨4, [120], 0⟩ : OpM) (⟨(⟨2, 1⟩ : IdM), 0⟩ : TagM) (⟨1, 1⟩ : StampM) (st.q 5 rfl) (st.q 6 rfl) (st.q 7 rfl) (st.q 8 rfl) (by decide +kernel) (by decide +kernel) (by decide +kernel) (by decide +kernel)) (fun v w16 ⟨Ar10, cr10, hv, hr10, hf⟩ => ?_)))))))))))))))
  subst hv
  have st := st.keep0 hf
  have hF := hF.step0 hf
  have z1 := Sld.le hr10
  have st := st.addK (kS Ar10 (((oprepare_m ((oapply_m ((onew_m 3).1) ((oprepare_m ((onew_m 3).1) (⟨3, [120], 0⟩ : OpM) (⟨(⟨1, 1⟩ : IdM), 0⟩ : TagM) (⟨1, 1⟩ : StampM)).1)).1) (⟨4, [120], 0⟩ : OpM) (⟨(⟨2, 1⟩ : IdM), 0⟩ : TagM) (⟨1, 1⟩ : StampM)).1).tags).length cr10 3 ((((oprepare_m ((oapply_m ((onew_m 3).1) ((oprepare_m ((onew_m 3).1) (⟨3, [120], 0⟩ : OpM) (⟨(⟨1, 1⟩ : IdM), 0⟩ : TagM) (⟨1, 1⟩ : StampM)).1)).1) (⟨4, [120], 0⟩ : OpM) (⟨(⟨2, 1⟩ : IdM), 0⟩ : TagM) (⟨1, 1⟩ : StampM)).1).tags).flatMap tagMC)) hr10
  have st : St X w16 [_, _, _, _, _] [_, _, _, _, _, _, _, _, _, _] := st
  refine Lm rfl (Lx rfl (Lx rfl (La rfl (Sal Ty.zc_64 st hF rfl fun g6 w17 (st : St _ _ [_, _, _, _, _, _] _) hF hg6 => La rfl (Ssw 5 Ty.sz_64 st hF (.inr hg6) rfl fun w18 (st : St _ _ [_, _, _, _, _, _] _) hF => Ls' rfl (Ln k9 (sq fun _ k10 => rg (Ly rfl (yw 4 Ty.ag_40 st rfl) (Ly rfl (yw 5 Ty.ag_64 st rfl) (La rfl (a_call rfl rfl rfl rfl (oapply_ok (keys (hOf st) ++ X) _ st.Lo ((oapply_m ((onew_m 3).1) ((oprepare_m ((onew_m 3).1) (⟨3, [120], 0⟩ : OpM) (⟨(⟨1, 1⟩ : IdM), 0⟩ : TagM) (⟨1, 1⟩ : StampM)).1)).1) Ar6 cr6 Ar7 cr7 Ar8 cr8 Ar9 cr9 ((oprepare_m ((oapply_m ((onew_m 3).1) ((oprepare_m ((onew_m 3).1) (⟨3, [120], 0⟩ : OpM) (⟨(⟨1, 1⟩ : IdM), 0⟩ : TagM) (⟨1, 1⟩ : StampM)).1)).1) (⟨4, [120], 0⟩ : OpM) (⟨(⟨2, 1⟩ : IdM), 0⟩ : TagM) (⟨1, 1⟩ : StampM)).1) Ar10 cr10 (st.q 5 rfl) (st.q 6 rfl) (st.q 7 rfl) (st.q 8 rfl) (st.q 9 rfl) (by decide +kernel) (by decide +kernel) (by decide +kernel) (by decide +kernel) (by decide +kernel)) (fun v w19 ⟨Ar11, cr11, Ar12, cr12, Ar13, cr13, Ar14, cr14, hv, hr11, hr12, hr13, hr14, hf⟩ => ?_))))))))))))
  subst hv
  have st := st.keep0 hf
  have hF := hF.step0 hf
  have z2 := Sld.le hr11
  have st := st.addK (kS Ar11 ((((oapply_m ((oapply_m ((onew_m 3).1) ((oprepare_m ((onew_m 3).1) (⟨3, [120], 0⟩ : OpM) (⟨(⟨1, 1⟩ : IdM), 0⟩ : TagM) (⟨1, 1⟩ : StampM)).1)).1) ((oprepare_m ((oapply_m ((onew_m 3).1) ((oprepare_m ((onew_m 3).1) (⟨3, [120], 0⟩ : OpM) (⟨(⟨1, 1⟩ : IdM), 0⟩ : TagM) (⟨1, 1⟩ : StampM)).1)).1) (⟨4, [120], 0⟩ : OpM) (⟨(⟨2, 1⟩ : IdM), 0⟩ : TagM) (⟨1, 1⟩ : StampM)).1)).1).setF).adds).length cr11 4 (((((oapply_m ((oapply_m ((onew_m 3).1) ((oprepare_m ((onew_m 3).1) (⟨3, [120], 0⟩ : OpM) (⟨(⟨1, 1⟩ : IdM), 0⟩ : TagM) (⟨1, 1⟩ : StampM)).1)).1) ((oprepare_m ((oapply_m ((onew_m 3).1) ((oprepare_m ((onew_m 3).1) (⟨3, [120], 0⟩ : OpM) (⟨(⟨1, 1⟩ : IdM), 0⟩ : TagM) (⟨1, 1⟩ : StampM)).1)).1) (⟨4, [120], 0⟩ : OpM) (⟨(⟨2, 1⟩ : IdM), 0⟩ : TagM) (⟨1, 1⟩ : StampM)).1)).1).setF).adds).flatMap addMC)) hr11
  have z3 := Sld.le hr12
  have st := st.addK (kS Ar12 ((((oapply_m ((oapply_m ((onew_m 3).1) ((oprepare_m ((onew_m 3).1) (⟨3, [120], 0⟩ : OpM) (⟨(⟨1, 1⟩ : IdM), 0⟩ : TagM) (⟨1, 1⟩ : StampM)).1)).1) ((oprepare_m ((oapply_m ((onew_m 3).1) ((oprepare_m ((onew_m 3).1) (⟨3, [120], 0⟩ : OpM) (⟨(⟨1, 1⟩ : IdM), 0⟩ : TagM) (⟨1, 1⟩ : StampM)).1)).1) (⟨4, [120], 0⟩ : OpM) (⟨(⟨2, 1⟩ : IdM), 0⟩ : TagM) (⟨1, 1⟩ : StampM)).1)).1).setF).gone).length cr12 3 (((((oapply_m ((oapply_m ((onew_m 3).1) ((oprepare_m ((onew_m 3).1) (⟨3, [120], 0⟩ : OpM) (⟨(⟨1, 1⟩ : IdM), 0⟩ : TagM) (⟨1, 1⟩ : StampM)).1)).1) ((oprepare_m ((oapply_m ((onew_m 3).1) ((oprepare_m ((onew_m 3).1) (⟨3, [120], 0⟩ : OpM) (⟨(⟨1, 1⟩ : IdM), 0⟩ : TagM) (⟨1, 1⟩ : StampM)).1)).1) (⟨4, [120], 0⟩ : OpM) (⟨(⟨2, 1⟩ : IdM), 0⟩ : TagM) (⟨1, 1⟩ : StampM)).1)).1).setF).gone).flatMap tagMC)) hr12
  have z4 := Sld.le hr13
  have st := st.addK (kS Ar13 ((((oapply_m ((oapply_m ((onew_m 3).1) ((oprepare_m ((onew_m 3).1) (⟨3, [120], 0⟩ : OpM) (⟨(⟨1, 1⟩ : IdM), 0⟩ : TagM) (⟨1, 1⟩ : StampM)).1)).1) ((oprepare_m ((oapply_m ((onew_m 3).1) ((oprepare_m ((onew_m 3).1) (⟨3, [120], 0⟩ : OpM) (⟨(⟨1, 1⟩ : IdM), 0⟩ : TagM) (⟨1, 1⟩ : StampM)).1)).1) (⟨4, [120], 0⟩ : OpM) (⟨(⟨2, 1⟩ : IdM), 0⟩ : TagM) (⟨1, 1⟩ : StampM)).1)).1).map).puts).length cr13 7 (((((oapply_m ((oapply_m ((onew_m 3).1) ((oprepare_m ((onew_m 3).1) (⟨3, [120], 0⟩ : OpM) (⟨(⟨1, 1⟩ : IdM), 0⟩ : TagM) (⟨1, 1⟩ : StampM)).1)).1) ((oprepare_m ((oapply_m ((onew_m 3).1) ((oprepare_m ((onew_m 3).1) (⟨3, [120], 0⟩ : OpM) (⟨(⟨1, 1⟩ : IdM), 0⟩ : TagM) (⟨1, 1⟩ : StampM)).1)).1) (⟨4, [120], 0⟩ : OpM) (⟨(⟨2, 1⟩ : IdM), 0⟩ : TagM) (⟨1, 1⟩ : StampM)).1)).1).map).puts).flatMap putMC)) hr13
  have z5 := Sld.le hr14
  have st := st.addK (kS Ar14 ((((oapply_m ((oapply_m ((onew_m 3).1) ((oprepare_m ((onew_m 3).1) (⟨3, [120], 0⟩ : OpM) (⟨(⟨1, 1⟩ : IdM), 0⟩ : TagM) (⟨1, 1⟩ : StampM)).1)).1) ((oprepare_m ((oapply_m ((onew_m 3).1) ((oprepare_m ((onew_m 3).1) (⟨3, [120], 0⟩ : OpM) (⟨(⟨1, 1⟩ : IdM), 0⟩ : TagM) (⟨1, 1⟩ : StampM)).1)).1) (⟨4, [120], 0⟩ : OpM) (⟨(⟨2, 1⟩ : IdM), 0⟩ : TagM) (⟨1, 1⟩ : StampM)).1)).1).map).gone).length cr14 3 (((((oapply_m ((oapply_m ((onew_m 3).1) ((oprepare_m ((onew_m 3).1) (⟨3, [120], 0⟩ : OpM) (⟨(⟨1, 1⟩ : IdM), 0⟩ : TagM) (⟨1, 1⟩ : StampM)).1)).1) ((oprepare_m ((oapply_m ((onew_m 3).1) ((oprepare_m ((onew_m 3).1) (⟨3, [120], 0⟩ : OpM) (⟨(⟨1, 1⟩ : IdM), 0⟩ : TagM) (⟨1, 1⟩ : StampM)).1)).1) (⟨4, [120], 0⟩ : OpM) (⟨(⟨2, 1⟩ : IdM), 0⟩ : TagM) (⟨1, 1⟩ : StampM)).1)).1).map).gone).flatMap tagMC)) hr14
  have st : St X w19 [_, _, _, _, _, _] [_, _, _, _, _, _, _, _, _, _, _, _, _, _] := st
  refine Lm rfl (Lx rfl (Lx rfl (La rfl (Sal Ty.zc_40 st hF rfl fun g7 w20 (st : St _ _ [_, _, _, _, _, _, _] _) hF hg7 => La rfl (Ssw 6 Ty.sz_40 st hF (.inr hg7) rfl fun w21 (st : St _ _ [_, _, _, _, _, _, _] _) hF => Ls' rfl (Ln k10 (sq fun _ k11 => rg (Ly rfl (yw 4 Ty.ag_40 st rfl) (Ly rfl (yw 0 Ty.ag_60 st rfl) (Ly rfl (y_build (cells := [_, _, _, _, _, _, _, _, _]) rfl rfl Ty.zc_64 Ty.ps_64 rfl) ?_))))))))))
  have st := st.aN 3
  refine La rfl (a_call rfl rfl rfl rfl (oapply_ok (keys (hOf st) ++ X) _ st.Lo ((oapply_m ((onew_m 3).1) ((oprepare_m ((onew_m 3).1) (⟨3, [120], 0⟩ : OpM) (⟨(⟨1, 1⟩ : IdM), 0⟩ : TagM) (⟨1, 1⟩ : StampM)).1)).1) Ar6 cr6 Ar7 cr7 Ar8 cr8 Ar9 cr9 (⟨2, [], 1, (⟨(⟨1, 1⟩ : IdM), 0⟩ : TagM), (⟨0, 0⟩ : StampM), ([] : List TagM)⟩ : EffectM) none 0 (st.q 5 rfl) (st.q 6 rfl) (st.q 7 rfl) (st.q 8 rfl) (st.q 14 rfl) (by decide +kernel) (by decide +kernel) (by decide +kernel) (by decide +kernel) (by decide +kernel)) (fun v w22 ⟨Ar15, cr15, Ar16, cr16, Ar17, cr17, Ar18, cr18, hv, hr15, hr16, hr17, hr18, hf⟩ => ?_))
  subst hv
  have st := st.keep0 hf
  have hF := hF.step0 hf
  have z6 := Sld.le hr15
  have st := st.addK (kS Ar15 ((((oapply_m ((oapply_m ((onew_m 3).1) ((oprepare_m ((onew_m 3).1) (⟨3, [120], 0⟩ : OpM) (⟨(⟨1, 1⟩ : IdM), 0⟩ : TagM) (⟨1, 1⟩ : StampM)).1)).1) (⟨2, [], 1, (⟨(⟨1, 1⟩ : IdM), 0⟩ : TagM), (⟨0, 0⟩ : StampM), ([] : List TagM)⟩ : EffectM)).1).setF).adds).length cr15 4 (((((oapply_m ((oapply_m ((onew_m 3).1) ((oprepare_m ((onew_m 3).1) (⟨3, [120], 0⟩ : OpM) (⟨(⟨1, 1⟩ : IdM), 0⟩ : TagM) (⟨1, 1⟩ : StampM)).1)).1) (⟨2, [], 1, (⟨(⟨1, 1⟩ : IdM), 0⟩ : TagM), (⟨0, 0⟩ : StampM), ([] : List TagM)⟩ : EffectM)).1).setF).adds).flatMap addMC)) hr15
  have z7 := Sld.le hr16
  have st := st.addK (kS Ar16 ((((oapply_m ((oapply_m ((onew_m 3).1) ((oprepare_m ((onew_m 3).1) (⟨3, [120], 0⟩ : OpM) (⟨(⟨1, 1⟩ : IdM), 0⟩ : TagM) (⟨1, 1⟩ : StampM)).1)).1) (⟨2, [], 1, (⟨(⟨1, 1⟩ : IdM), 0⟩ : TagM), (⟨0, 0⟩ : StampM), ([] : List TagM)⟩ : EffectM)).1).setF).gone).length cr16 3 (((((oapply_m ((oapply_m ((onew_m 3).1) ((oprepare_m ((onew_m 3).1) (⟨3, [120], 0⟩ : OpM) (⟨(⟨1, 1⟩ : IdM), 0⟩ : TagM) (⟨1, 1⟩ : StampM)).1)).1) (⟨2, [], 1, (⟨(⟨1, 1⟩ : IdM), 0⟩ : TagM), (⟨0, 0⟩ : StampM), ([] : List TagM)⟩ : EffectM)).1).setF).gone).flatMap tagMC)) hr16
  have z8 := Sld.le hr17
  have st := st.addK (kS Ar17 ((((oapply_m ((oapply_m ((onew_m 3).1) ((oprepare_m ((onew_m 3).1) (⟨3, [120], 0⟩ : OpM) (⟨(⟨1, 1⟩ : IdM), 0⟩ : TagM) (⟨1, 1⟩ : StampM)).1)).1) (⟨2, [], 1, (⟨(⟨1, 1⟩ : IdM), 0⟩ : TagM), (⟨0, 0⟩ : StampM), ([] : List TagM)⟩ : EffectM)).1).map).puts).length cr17 7 (((((oapply_m ((oapply_m ((onew_m 3).1) ((oprepare_m ((onew_m 3).1) (⟨3, [120], 0⟩ : OpM) (⟨(⟨1, 1⟩ : IdM), 0⟩ : TagM) (⟨1, 1⟩ : StampM)).1)).1) (⟨2, [], 1, (⟨(⟨1, 1⟩ : IdM), 0⟩ : TagM), (⟨0, 0⟩ : StampM), ([] : List TagM)⟩ : EffectM)).1).map).puts).flatMap putMC)) hr17
  have z9 := Sld.le hr18
  have st := st.addK (kS Ar18 ((((oapply_m ((oapply_m ((onew_m 3).1) ((oprepare_m ((onew_m 3).1) (⟨3, [120], 0⟩ : OpM) (⟨(⟨1, 1⟩ : IdM), 0⟩ : TagM) (⟨1, 1⟩ : StampM)).1)).1) (⟨2, [], 1, (⟨(⟨1, 1⟩ : IdM), 0⟩ : TagM), (⟨0, 0⟩ : StampM), ([] : List TagM)⟩ : EffectM)).1).map).gone).length cr18 3 (((((oapply_m ((oapply_m ((onew_m 3).1) ((oprepare_m ((onew_m 3).1) (⟨3, [120], 0⟩ : OpM) (⟨(⟨1, 1⟩ : IdM), 0⟩ : TagM) (⟨1, 1⟩ : StampM)).1)).1) (⟨2, [], 1, (⟨(⟨1, 1⟩ : IdM), 0⟩ : TagM), (⟨0, 0⟩ : StampM), ([] : List TagM)⟩ : EffectM)).1).map).gone).flatMap tagMC)) hr18
  have st : St X w22 [_, _, _, _, _, _, _] [_, _, _, _, _, _, _, _, _, _, _, _, _, _, _, _, _, _, _] := st
  refine Lm rfl (Lx rfl (Lx rfl (La rfl (Sal Ty.zc_40 st hF rfl fun g8 w23 (st : St _ _ [_, _, _, _, _, _, _, _] _) hF hg8 => La rfl (Ssw 7 Ty.sz_40 st hF (.inr hg8) rfl fun w24 (st : St _ _ [_, _, _, _, _, _, _, _] _) hF => Ls' rfl (Ln k11 (sq fun _ k12 => ?_)))))))
  refine Wp_plan (fun W => St X W (pickL (hOf st) [0, 1, 2, 3, 4, 5, 6, 7]) (kOf st)) [(true, 0), (true, 1), (true, 2), (true, 3), (true, 4), (true, 5), (true, 6), (true, 7), (true, 8), (true, 9), (true, 10), (true, 11), (true, 12), (true, 13), (true, 14), (true, 15), (true, 16), (true, 17), (true, 18), (true, 19), (true, 20), (true, 21), (true, 22), (true, 23), (false, 24), (true, 25), (true, 26), (true, 27), (true, 28), (true, 29), (true, 30), (true, 31), (true, 32), (true, 33), (true, 34), (true, 35), (true, 36), (true, 37), (true, 38), (true, 39), (true, 40), (true, 41), (true, 42), (true, 43), (true, 44), (true, 45), (true, 46), (true, 47), (true, 48), (true, 49), (true, 50), (true, 51), (true, 52), (false, 53), (true, 54), (true, 55), (true, 56), (true, 57), (true, 58), (true, 59), (true, 60), (true, 61), (true, 62)] Ty.mx_0 (by kernel_rfl) (by kernel_rfl) rfl ((st.picks [0, 1, 2, 3, 4, 5, 6, 7] (by decide)).drew) ?_
  have st := st.drew
  have hF := hF.step0 (Fr.drew _)
  refine Pm rfl (Py rfl (yeq rfl) (Pm rfl (Pl_bool 72 rfl (fun hc1 => ?_) (fun hc1 => ?_))))
  · have hc1 := eT hc1
    refine Pl_y rfl (wtdT rfl rfl rfl) rfl rfl (y_move rfl rfl) (Pl_y rfl (wtdT rfl rfl rfl) rfl rfl (yeq rfl) (Py rfl (yT rfl) (Pm rfl (Pl_bool 76 rfl (fun hc2 => ?_) (fun hc2 => ?_)))))
    · have hc2 := eT hc2
      refine Pl_y rfl (wtdT rfl rfl rfl) rfl rfl (y_move rfl rfl) (Pl_y rfl (wtdT rfl rfl rfl) rfl rfl (yeq rfl) (Py rfl (yT rfl) (Pm rfl (Pl_bool 80 rfl (fun hc3 => ?_) (fun hc3 => ?_)))))
      · have hc3 := eT hc3
        refine Pl_y rfl (wtdT rfl rfl rfl) rfl rfl (y_move rfl rfl) (Pl_y rfl (wtdT rfl rfl rfl) rfl rfl (yeq rfl) (Py rfl (yT rfl) (Pm rfl (Pl_bool 84 rfl (fun hc4 => ?_) (fun hc4 => ?_)))))
        · have hc4 := eT hc4
          refine Pl_y rfl (wtdT rfl rfl rfl) rfl rfl (y_move rfl rfl) (Pl_y rfl (wtdT rfl rfl rfl) rfl rfl (yeq rfl) (Py rfl (yT rfl) (Pm rfl (Pl_bool 88 rfl (fun hc5 => ?_) (fun hc5 => ?_)))))
          · have hc5 := eT hc5
            refine Pl_y rfl (wtdT rfl rfl rfl) rfl rfl (y_move rfl rfl) (Pl_y rfl (wtdT rfl rfl rfl) rfl rfl (yeq rfl) (Py rfl (yT rfl) (Pm rfl (Pl_bool 92 rfl (fun hc6 => ?_) (fun hc6 => ?_)))))
            · have hc6 := eT hc6
              refine Pl_y rfl (wtdT rfl rfl rfl) rfl rfl (y_loadw (i := 4) rfl rfl Ty.ag_40 (fun _ h => h.hp) rfl rfl) (Pl_a rfl (wtdT rfl rfl rfl) (by rfl) ?_)
              refine a_call rfl rfl rfl rfl (osay_ok (keys (hOf st) ++ X) _ st.Lo ((oapply_m ((onew_m 3).1) ((oprepare_m ((onew_m 3).1) (⟨3, [120], 0⟩ : OpM) (⟨(⟨1, 1⟩ : IdM), 0⟩ : TagM) (⟨1, 1⟩ : StampM)).1)).1) Ar6 cr6 Ar7 cr7 Ar8 cr8 Ar9 cr9 (st.q 5 rfl) (st.q 6 rfl) (st.q 7 rfl) (st.q 8 rfl) (by decide +kernel) (by decide +kernel) (by decide +kernel) (by decide +kernel)) (fun v w25 ⟨Ar19, cr19, hv, hr19, hf⟩ => ?_)
              subst hv
              have st := st.keep0 hf
              have hF := hF.step0 hf
              have z10 := Sld.le hr19
              have st := st.addK (kS Ar19 ((osay_m ((oapply_m ((onew_m 3).1) ((oprepare_m ((onew_m 3).1) (⟨3, [120], 0⟩ : OpM) (⟨(⟨1, 1⟩ : IdM), 0⟩ : TagM) (⟨1, 1⟩ : StampM)).1)).1)).items).length cr19 2 (((osay_m ((oapply_m ((onew_m 3).1) ((oprepare_m ((onew_m 3).1) (⟨3, [120], 0⟩ : OpM) (⟨(⟨1, 1⟩ : IdM), 0⟩ : TagM) (⟨1, 1⟩ : StampM)).1)).1)).items).flatMap itemMC)) hr19
              have st : St X w25 [_, _, _, _, _, _, _, _] [_, _, _, _, _, _, _, _, _, _, _, _, _, _, _, _, _, _, _, _] := st
              refine ⟨(st.picks [0, 1, 2, 3, 4, 5, 6, 7] (by decide)).takeK 19, ?_⟩
              refine Pl_y rfl (wtdT rfl rfl rfl) rfl rfl (y_field rfl rfl Ty.fo_75_2 rfl Ty.pl_73 rfl) (Pl_y rfl (wtdT rfl rfl rfl) rfl rfl (yll rfl Tryz.underlying73) (Pl_y rfl (wtdT rfl rfl rfl) rfl rfl (yeq rfl) (Py rfl (yT rfl) (Pm rfl (Pl_bool 99 rfl (fun hc7 => ?_) (fun hc7 => ?_))))))
              · have hc7 := eT hc7
                refine Pl_y rfl (wtdT rfl rfl rfl) rfl rfl (y_move rfl rfl) (Pl_y rfl (wtdT rfl rfl rfl) rfl rfl (yeq rfl) (Py rfl (yT rfl) (Pm rfl (Pl_bool 103 rfl (fun hc8 => ?_) (fun hc8 => ?_)))))
                · have hc8 := eT hc8
                  refine Pl_y rfl (wtdT rfl rfl rfl) rfl rfl (yf rfl Ty.fo_64_5) (Pl_y rfl (wtdT rfl rfl rfl) rfl rfl (y_load (i := 5) rfl rfl Ty.pl_33 (fun _ h => h.hp) rfl rfl) (Pl_y rfl (wtdT rfl rfl rfl) rfl rfl (yll rfl Tryz.underlying33) (Pl_y rfl (wtdT rfl rfl rfl) rfl rfl (yeq rfl) (Py rfl (yT rfl) (Pm rfl (Pl_bool 109 rfl (fun hc9 => ?_) (fun hc9 => ?_)))))))
                  · have hc9 := eT hc9
                    refine Pl_y rfl (wtdT rfl rfl rfl) rfl rfl (yf rfl Ty.fo_64_5) (Pl_y rfl (wtdT rfl rfl rfl) rfl rfl (y_load (i := 5) rfl rfl Ty.pl_33 (fun _ h => h.hp) rfl rfl) ?_)
                    obtain ⟨gi1, bi1, egi1⟩ := (st.k (i := 9) rfl).addr (fun _ => rfl) (by decide) (q := 0) (by first | omega | (simp; done) | (simp; omega)) (by first | omega | (simp; done) | (simp; omega))
                    subst egi1
                    refine Pl_y rfl (wtdT rfl rfl rfl) rfl rfl (y_ixa (q := 0) rfl rfl rfl Ty.es_33 (by first | omega | (simp; done) | (simp; omega)) (by first | omega | (simp; done) | (simp; omega))) ?_
                    refine Pl_y rfl (wtdT rfl rfl rfl) rfl rfl (y_ldk (q := 0) rfl rfl Ty.ag_60 (fun _ h => h.k (i := 9) rfl) (fun _ => rfl) (by first | omega | (simp; done) | (simp; omega)) (by first | omega | (simp; done) | (simp; omega))) ?_
                    refine Pl_y rfl (wtdT rfl rfl rfl) rfl rfl (y_loadw (i := 0) rfl rfl Ty.ag_60 (fun _ h => h.hp) rfl rfl) (Pl_y rfl (wtdT rfl rfl rfl) rfl rfl (y_eqv (b := decide (ix (((oprepare_m ((oapply_m ((onew_m 3).1) ((oprepare_m ((onew_m 3).1) (⟨3, [120], 0⟩ : OpM) (⟨(⟨1, 1⟩ : IdM), 0⟩ : TagM) (⟨1, 1⟩ : StampM)).1)).1) (⟨4, [120], 0⟩ : OpM) (⟨(⟨2, 1⟩ : IdM), 0⟩ : TagM) (⟨1, 1⟩ : StampM)).1).tags) 0 = (⟨(⟨1, 1⟩ : IdM), 0⟩ : TagM))) rfl rfl rfl Ty.eg_60 (by rw [Ty.ag_60]; simp) (eqv_60 (ix (((oprepare_m ((oapply_m ((onew_m 3).1) ((oprepare_m ((onew_m 3).1) (⟨3, [120], 0⟩ : OpM) (⟨(⟨1, 1⟩ : IdM), 0⟩ : TagM) (⟨1, 1⟩ : StampM)).1)).1) (⟨4, [120], 0⟩ : OpM) (⟨(⟨2, 1⟩ : IdM), 0⟩ : TagM) (⟨1, 1⟩ : StampM)).1).tags) 0) (⟨(⟨1, 1⟩ : IdM), 0⟩ : TagM))) ?_)
                    refine Py rfl (yT rfl) (Pm rfl (Pl_bool 117 rfl (fun hc10 => ?_) (fun hc10 => ?_)))
                    · have hc10 := dT hc10
                      refine Pl_y rfl (wtdT rfl rfl rfl) rfl rfl (y_move rfl rfl) (Pl_y rfl (wtdT rfl rfl rfl) rfl rfl (yeq rfl) (Py rfl (yT rfl) (Pm rfl (Pl_bool 121 rfl (fun hc11 => ?_) (fun hc11 => ?_)))))
                      · have hc11 := eT hc11
                        refine Pl_y rfl (wtdT rfl rfl rfl) rfl rfl (y_loadw (i := 6) rfl rfl Ty.ag_40 (fun _ h => h.hp) rfl rfl) (Pl_a rfl (wtdT rfl rfl rfl) (by rfl) ?_)
                        refine a_call rfl rfl rfl rfl (osay_ok (keys (hOf st) ++ X) _ st.Lo ((oapply_m ((oapply_m ((onew_m 3).1) ((oprepare_m ((onew_m 3).1) (⟨3, [120], 0⟩ : OpM) (⟨(⟨1, 1⟩ : IdM), 0⟩ : TagM) (⟨1, 1⟩ : StampM)).1)).1) ((oprepare_m ((oapply_m ((onew_m 3).1) ((oprepare_m ((onew_m 3).1) (⟨3, [120], 0⟩ : OpM) (⟨(⟨1, 1⟩ : IdM), 0⟩ : TagM) (⟨1, 1⟩ : StampM)).1)).1) (⟨4, [120], 0⟩ : OpM) (⟨(⟨2, 1⟩ : IdM), 0⟩ : TagM) (⟨1, 1⟩ : StampM)).1)).1) Ar11 cr11 Ar12 cr12 Ar13 cr13 Ar14 cr14 (st.q 10 rfl) (st.q 11 rfl) (st.q 12 rfl) (st.q 13 rfl) (by decide +kernel) (by decide +kernel) (by decide +kernel) (by decide +kernel)) (fun v w26 ⟨Ar20, cr20, hv, hr20, hf⟩ => ?_)
                        subst hv
                        have st := st.keep0 hf
                        have hF := hF.step0 hf
                        have z11 := Sld.le hr20
                        have st := st.addK (kS Ar20 ((osay_m ((oapply_m ((oapply_m ((onew_m 3).1) ((oprepare_m ((onew_m 3).1) (⟨3, [120], 0⟩ : OpM) (⟨(⟨1, 1⟩ : IdM), 0⟩ : TagM) (⟨1, 1⟩ : StampM)).1)).1) ((oprepare_m ((oapply_m ((onew_m 3).1) ((oprepare_m ((onew_m 3).1) (⟨3, [120], 0⟩ : OpM) (⟨(⟨1, 1⟩ : IdM), 0⟩ : TagM) (⟨1, 1⟩ : StampM)).1)).1) (⟨4, [120], 0⟩ : OpM) (⟨(⟨2, 1⟩ : IdM), 0⟩ : TagM) (⟨1, 1⟩ : StampM)).1)).1)).items).length cr20 2 (((osay_m ((oapply_m ((oapply_m ((onew_m 3).1) ((oprepare_m ((onew_m 3).1) (⟨3, [120], 0⟩ : OpM) (⟨(⟨1, 1⟩ : IdM), 0⟩ : TagM) (⟨1, 1⟩ : StampM)).1)).1) ((oprepare_m ((oapply_m ((onew_m 3).1) ((oprepare_m ((onew_m 3).1) (⟨3, [120], 0⟩ : OpM) (⟨(⟨1, 1⟩ : IdM), 0⟩ : TagM) (⟨1, 1⟩ : StampM)).1)).1) (⟨4, [120], 0⟩ : OpM) (⟨(⟨2, 1⟩ : IdM), 0⟩ : TagM) (⟨1, 1⟩ : StampM)).1)).1)).items).flatMap itemMC)) hr20
                        have st : St X w26 [_, _, _, _, _, _, _, _] [_, _, _, _, _, _, _, _, _, _, _, _, _, _, _, _, _, _, _, _, _] := st
                        refine ⟨(st.picks [0, 1, 2, 3, 4, 5, 6, 7] (by decide)).takeK 19, ?_⟩
                        refine Pl_y rfl (wtdT rfl rfl rfl) rfl rfl (y_field rfl rfl Ty.fo_75_2 rfl Ty.pl_73 rfl) (Pl_y rfl (wtdT rfl rfl rfl) rfl rfl (yll rfl Tryz.underlying73) (Pl_y rfl (wtdT rfl rfl rfl) rfl rfl (yeq rfl) (Py rfl (yT rfl) (Pm rfl (Pl_bool 128 rfl (fun hc12 => ?_) (fun hc12 => ?_))))))
                        · have hc12 := eT hc12
                          refine Pl_y rfl (wtdT rfl rfl rfl) rfl rfl (y_move rfl rfl) (Pl_y rfl (wtdT rfl rfl rfl) rfl rfl (yeq rfl) (Py rfl (yT rfl) (Py rfl (y_assign rfl rfl) (Pl_nil (Th_n (k12 _ _ (Wp_ret (Fq_ret (Res1 rfl rfl) ?_))))))))
                          unfold works14_m; rewrite [if_pos hc1, if_pos hc2, if_pos hc3, if_pos hc4, if_pos hc5, if_pos hc6, if_pos hc7, if_pos hc8, if_pos hc9, if_pos hc10, if_pos hc11, if_pos hc12]
                          exact ⟨rfl, hF⟩
                        have hc12 := eF hc12
                        refine Pl_s rfl (wtdF rfl rfl rfl) rfl rfl (Pl_s rfl (wtdF rfl rfl rfl) rfl rfl (Py rfl (yF rfl) (Py rfl (y_assign rfl rfl) (Pl_nil (Th_n (k12 _ _ (Wp_ret (Fq_ret (Res1 rfl rfl) ?_))))))))
                        unfold works14_m; rewrite [if_pos hc1, if_pos hc2, if_pos hc3, if_pos hc4, if_pos hc5, if_pos hc6, if_pos hc7, if_pos hc8, if_pos hc9, if_pos hc10, if_pos hc11, if_neg hc12]
                        exact ⟨rfl, hF⟩
                      have hc11 := eF hc11
                      refine Pl_s rfl (wtdF rfl rfl rfl) rfl rfl (Pl_s rfl (wtdF rfl rfl rfl) rfl rfl (Pl_s rfl (wtdF rfl rfl rfl) rfl rfl (Pl_s rfl (wtdF rfl rfl rfl) rfl rfl (Pl_s rfl (wtdF rfl rfl rfl) rfl rfl (Py rfl (yF rfl) (Pm rfl (Pl_s rfl (wtdF rfl rfl rfl) rfl rfl (Pl_s rfl (wtdF rfl rfl rfl) rfl rfl (Py rfl (yF rfl) (Py rfl (y_assign rfl rfl) (Pl_nil (Th_n (k12 _ _ (Wp_ret (Fq_ret (Res1 rfl rfl) ?_)))))))))))))))
                      unfold works14_m; rewrite [if_pos hc1, if_pos hc2, if_pos hc3, if_pos hc4, if_pos hc5, if_pos hc6, if_pos hc7, if_pos hc8, if_pos hc9, if_pos hc10, if_neg hc11]
                      exact ⟨rfl, hF⟩
                    have hc10 := dF hc10
                    refine Pl_s rfl (wtdF rfl rfl rfl) rfl rfl (Pl_s rfl (wtdF rfl rfl rfl) rfl rfl (Py rfl (yF rfl) (Pm rfl (Pl_s rfl (wtdF rfl rfl rfl) rfl rfl (Pl_s rfl (wtdF rfl rfl rfl) rfl rfl (Pl_s rfl (wtdF rfl rfl rfl) rfl rfl (Pl_s rfl (wtdF rfl rfl rfl) rfl rfl (Pl_s rfl (wtdF rfl rfl rfl) rfl rfl (Py rfl (yF rfl) (Pm rfl (Pl_s rfl (wtdF rfl rfl rfl) rfl rfl (Pl_s rfl (wtdF rfl rfl rfl) rfl rfl (Py rfl (yF rfl) (Py rfl (y_assign rfl rfl) (Pl_nil (Th_n (k12 _ _ (Wp_ret (Fq_ret (Res1 rfl rfl) ?_)))))))))))))))))))
                    unfold works14_m; rewrite [if_pos hc1, if_pos hc2, if_pos hc3, if_pos hc4, if_pos hc5, if_pos hc6, if_pos hc7, if_pos hc8, if_pos hc9, if_neg hc10]
                    exact ⟨rfl, hF⟩
                  have hc9 := eF hc9
                  refine Pl_s rfl (wtdF rfl rfl rfl) rfl rfl (Pl_s rfl (wtdF rfl rfl rfl) rfl rfl (Pl_s rfl (wtdF rfl rfl rfl) rfl rfl (Pl_s rfl (wtdF rfl rfl rfl) rfl rfl (Pl_s rfl (wtdF rfl rfl rfl) rfl rfl (Pl_s rfl (wtdF rfl rfl rfl) rfl rfl (Py rfl (yF rfl) (Pm rfl (Pl_s rfl (wtdF rfl rfl rfl) rfl rfl (Pl_s rfl (wtdF rfl rfl rfl) rfl rfl (Py rfl (yF rfl) (Pm rfl (Pl_s rfl (wtdF rfl rfl rfl) rfl rfl (Pl_s rfl (wtdF rfl rfl rfl) rfl rfl (Pl_s rfl (wtdF rfl rfl rfl) rfl rfl (Pl_s rfl (wtdF rfl rfl rfl) rfl rfl (Pl_s rfl (wtdF rfl rfl rfl) rfl rfl (Py rfl (yF rfl) (Pm rfl (Pl_s rfl (wtdF rfl rfl rfl) rfl rfl (Pl_s rfl (wtdF rfl rfl rfl) rfl rfl (Py rfl (yF rfl) (Py rfl (y_assign rfl rfl) (Pl_nil (Th_n (k12 _ _ (Wp_ret (Fq_ret (Res1 rfl rfl) ?_)))))))))))))))))))))))))))
                  unfold works14_m; rewrite [if_pos hc1, if_pos hc2, if_pos hc3, if_pos hc4, if_pos hc5, if_pos hc6, if_pos hc7, if_pos hc8, if_neg hc9]
                  exact ⟨rfl, hF⟩
                have hc8 := eF hc8
                refine Pl_s rfl (wtdF rfl rfl rfl) rfl rfl (Pl_s rfl (wtdF rfl rfl rfl) rfl rfl (Pl_s rfl (wtdF rfl rfl rfl) rfl rfl (Pl_s rfl (wtdF rfl rfl rfl) rfl rfl (Py rfl (yF rfl) (Pm rfl (Pl_s rfl (wtdF rfl rfl rfl) rfl rfl (Pl_s rfl (wtdF rfl rfl rfl) rfl rfl (Pl_s rfl (wtdF rfl rfl rfl) rfl rfl (Pl_s rfl (wtdF rfl rfl rfl) rfl rfl (Pl_s rfl (wtdF rfl rfl rfl) rfl rfl (Pl_s rfl (wtdF rfl rfl rfl) rfl rfl (Py rfl (yF rfl) (Pm rfl (Pl_s rfl (wtdF rfl rfl rfl) rfl rfl (Pl_s rfl (wtdF rfl rfl rfl) rfl rfl (Py rfl (yF rfl) (Pm rfl (Pl_s rfl (wtdF rfl rfl rfl) rfl rfl (Pl_s rfl (wtdF rfl rfl rfl) rfl rfl (Pl_s rfl (wtdF rfl rfl rfl) rfl rfl (Pl_s rfl (wtdF rfl rfl rfl) rfl rfl (Pl_s rfl (wtdF rfl rfl rfl) rfl rfl (Py rfl (yF rfl) (Pm rfl (Pl_s rfl (wtdF rfl rfl rfl) rfl rfl (Pl_s rfl (wtdF rfl rfl rfl) rfl rfl (Py rfl (yF rfl) (Py rfl (y_assign rfl rfl) (Pl_nil (Th_n (k12 _ _ (Wp_ret (Fq_ret (Res1 rfl rfl) ?_)))))))))))))))))))))))))))))))))
                unfold works14_m; rewrite [if_pos hc1, if_pos hc2, if_pos hc3, if_pos hc4, if_pos hc5, if_pos hc6, if_pos hc7, if_neg hc8]
                exact ⟨rfl, hF⟩
              have hc7 := eF hc7
              refine Pl_s rfl (wtdF rfl rfl rfl) rfl rfl (Pl_s rfl (wtdF rfl rfl rfl) rfl rfl (Py rfl (yF rfl) (Pm rfl (Pl_s rfl (wtdF rfl rfl rfl) rfl rfl (Pl_s rfl (wtdF rfl rfl rfl) rfl rfl (Pl_s rfl (wtdF rfl rfl rfl) rfl rfl (Pl_s rfl (wtdF rfl rfl rfl) rfl rfl (Py rfl (yF rfl) (Pm rfl (Pl_s rfl (wtdF rfl rfl rfl) rfl rfl (Pl_s rfl (wtdF rfl rfl rfl) rfl rfl (Pl_s rfl (wtdF rfl rfl rfl) rfl rfl (Pl_s rfl (wtdF rfl rfl rfl) rfl rfl (Pl_s rfl (wtdF rfl rfl rfl) rfl rfl (Pl_s rfl (wtdF rfl rfl rfl) rfl rfl (Py rfl (yF rfl) (Pm rfl (Pl_s rfl (wtdF rfl rfl rfl) rfl rfl (Pl_s rfl (wtdF rfl rfl rfl) rfl rfl (Py rfl (yF rfl) (Pm rfl (Pl_s rfl (wtdF rfl rfl rfl) rfl rfl (Pl_s rfl (wtdF rfl rfl rfl) rfl rfl (Pl_s rfl (wtdF rfl rfl rfl) rfl rfl (Pl_s rfl (wtdF rfl rfl rfl) rfl rfl (Pl_s rfl (wtdF rfl rfl rfl) rfl rfl (Py rfl (yF rfl) (Pm rfl (Pl_s rfl (wtdF rfl rfl rfl) rfl rfl (Pl_s rfl (wtdF rfl rfl rfl) rfl rfl (Py rfl (yF rfl) (Py rfl (y_assign rfl rfl) (Pl_nil (Th_n (k12 _ _ (Wp_ret (Fq_ret (Res1 rfl rfl) ?_)))))))))))))))))))))))))))))))))))))
              unfold works14_m; rewrite [if_pos hc1, if_pos hc2, if_pos hc3, if_pos hc4, if_pos hc5, if_pos hc6, if_neg hc7]
              exact ⟨rfl, hF⟩
            have hc6 := eF hc6
            refine Pl_s rfl (wtdF rfl rfl rfl) rfl rfl (Pl_s rfl (wtdF rfl rfl rfl) rfl rfl (Pl_s rfl (wtdF rfl rfl rfl) rfl rfl (Pl_s rfl (wtdF rfl rfl rfl) rfl rfl (Pl_s rfl (wtdF rfl rfl rfl) rfl rfl (Py rfl (yF rfl) (Pm rfl (Pl_s rfl (wtdF rfl rfl rfl) rfl rfl (Pl_s rfl (wtdF rfl rfl rfl) rfl rfl (Py rfl (yF rfl) (Pm rfl (Pl_s rfl (wtdF rfl rfl rfl) rfl rfl (Pl_s rfl (wtdF rfl rfl rfl) rfl rfl (Pl_s rfl (wtdF rfl rfl rfl) rfl rfl (Pl_s rfl (wtdF rfl rfl rfl) rfl rfl (Py rfl (yF rfl) (Pm rfl (Pl_s rfl (wtdF rfl rfl rfl) rfl rfl (Pl_s rfl (wtdF rfl rfl rfl) rfl rfl (Pl_s rfl (wtdF rfl rfl rfl) rfl rfl (Pl_s rfl (wtdF rfl rfl rfl) rfl rfl (Pl_s rfl (wtdF rfl rfl rfl) rfl rfl (Pl_s rfl (wtdF rfl rfl rfl) rfl rfl (Py rfl (yF rfl) (Pm rfl (Pl_s rfl (wtdF rfl rfl rfl) rfl rfl (Pl_s rfl (wtdF rfl rfl rfl) rfl rfl (Py rfl (yF rfl) (Pm rfl (Pl_s rfl (wtdF rfl rfl rfl) rfl rfl (Pl_s rfl (wtdF rfl rfl rfl) rfl rfl (Pl_s rfl (wtdF rfl rfl rfl) rfl rfl (Pl_s rfl (wtdF rfl rfl rfl) rfl rfl (Pl_s rfl (wtdF rfl rfl rfl) rfl rfl (Py rfl (yF rfl) (Pm rfl (Pl_s rfl (wtdF rfl rfl rfl) rfl rfl (Pl_s rfl (wtdF rfl rfl rfl) rfl rfl (Py rfl (yF rfl) (Py rfl (y_assign rfl rfl) (Pl_nil (Th_n (k12 _ _ (Wp_ret (Fq_ret (Res1 rfl rfl) ?_))))))))))))))))))))))))))))))))))))))))))))
            unfold works14_m; rewrite [if_pos hc1, if_pos hc2, if_pos hc3, if_pos hc4, if_pos hc5, if_neg hc6]
            exact ⟨rfl, hF⟩
          have hc5 := eF hc5
          refine Pl_s rfl (wtdF rfl rfl rfl) rfl rfl (Pl_s rfl (wtdF rfl rfl rfl) rfl rfl (Py rfl (yF rfl) (Pm rfl (Pl_s rfl (wtdF rfl rfl rfl) rfl rfl (Pl_s rfl (wtdF rfl rfl rfl) rfl rfl (Pl_s rfl (wtdF rfl rfl rfl) rfl rfl (Pl_s rfl (wtdF rfl rfl rfl) rfl rfl (Pl_s rfl (wtdF rfl rfl rfl) rfl rfl (Py rfl (yF rfl) (Pm rfl (Pl_s rfl (wtdF rfl rfl rfl) rfl rfl (Pl_s rfl (wtdF rfl rfl rfl) rfl rfl (Py rfl (yF rfl) (Pm rfl (Pl_s rfl (wtdF rfl rfl rfl) rfl rfl (Pl_s rfl (wtdF rfl rfl rfl) rfl rfl (Pl_s rfl (wtdF rfl rfl rfl) rfl rfl (Pl_s rfl (wtdF rfl rfl rfl) rfl rfl (Py rfl (yF rfl) (Pm rfl (Pl_s rfl (wtdF rfl rfl rfl) rfl rfl (Pl_s rfl (wtdF rfl rfl rfl) rfl rfl (Pl_s rfl (wtdF rfl rfl rfl) rfl rfl (Pl_s rfl (wtdF rfl rfl rfl) rfl rfl (Pl_s rfl (wtdF rfl rfl rfl) rfl rfl (Pl_s rfl (wtdF rfl rfl rfl) rfl rfl (Py rfl (yF rfl) (Pm rfl (Pl_s rfl (wtdF rfl rfl rfl) rfl rfl (Pl_s rfl (wtdF rfl rfl rfl) rfl rfl (Py rfl (yF rfl) (Pm rfl (Pl_s rfl (wtdF rfl rfl rfl) rfl rfl (Pl_s rfl (wtdF rfl rfl rfl) rfl rfl (Pl_s rfl (wtdF rfl rfl rfl) rfl rfl (Pl_s rfl (wtdF rfl rfl rfl) rfl rfl (Pl_s rfl (wtdF rfl rfl rfl) rfl rfl (Py rfl (yF rfl) (Pm rfl (Pl_s rfl (wtdF rfl rfl rfl) rfl rfl (Pl_s rfl (wtdF rfl rfl rfl) rfl rfl (Py rfl (yF rfl) (Py rfl (y_assign rfl rfl) (Pl_nil (Th_n (k12 _ _ (Wp_ret (Fq_ret (Res1 rfl rfl) ?_))))))))))))))))))))))))))))))))))))))))))))))))
          unfold works14_m; rewrite [if_pos hc1, if_pos hc2, if_pos hc3, if_pos hc4, if_neg hc5]
          exact ⟨rfl, hF⟩
        have hc4 := eF hc4
        refine Pl_s rfl (wtdF rfl rfl rfl) rfl rfl (Pl_s rfl (wtdF rfl rfl rfl) rfl rfl (Py rfl (yF rfl) (Pm rfl (Pl_s rfl (wtdF rfl rfl rfl) rfl rfl (Pl_s rfl (wtdF rfl rfl rfl) rfl rfl (Py rfl (yF rfl) (Pm rfl (Pl_s rfl (wtdF rfl rfl rfl) rfl rfl (Pl_s rfl (wtdF rfl rfl rfl) rfl rfl (Pl_s rfl (wtdF rfl rfl rfl) rfl rfl (Pl_s rfl (wtdF rfl rfl rfl) rfl rfl (Pl_s rfl (wtdF rfl rfl rfl) rfl rfl (Py rfl (yF rfl) (Pm rfl (Pl_s rfl (wtdF rfl rfl rfl) rfl rfl (Pl_s rfl (wtdF rfl rfl rfl) rfl rfl (Py rfl (yF rfl) (Pm rfl (Pl_s rfl (wtdF rfl rfl rfl) rfl rfl (Pl_s rfl (wtdF rfl rfl rfl) rfl rfl (Pl_s rfl (wtdF rfl rfl rfl) rfl rfl (Pl_s rfl (wtdF rfl rfl rfl) rfl rfl (Py rfl (yF rfl) (Pm rfl (Pl_s rfl (wtdF rfl rfl rfl) rfl rfl (Pl_s rfl (wtdF rfl rfl rfl) rfl rfl (Pl_s rfl (wtdF rfl rfl rfl) rfl rfl (Pl_s rfl (wtdF rfl rfl rfl) rfl rfl (Pl_s rfl (wtdF rfl rfl rfl) rfl rfl (Pl_s rfl (wtdF rfl rfl rfl) rfl rfl (Py rfl (yF rfl) (Pm rfl (Pl_s rfl (wtdF rfl rfl rfl) rfl rfl (Pl_s rfl (wtdF rfl rfl rfl) rfl rfl (Py rfl (yF rfl) (Pm rfl (Pl_s rfl (wtdF rfl rfl rfl) rfl rfl (Pl_s rfl (wtdF rfl rfl rfl) rfl rfl (Pl_s rfl (wtdF rfl rfl rfl) rfl rfl (Pl_s rfl (wtdF rfl rfl rfl) rfl rfl (Pl_s rfl (wtdF rfl rfl rfl) rfl rfl (Py rfl (yF rfl) (Pm rfl (Pl_s rfl (wtdF rfl rfl rfl) rfl rfl (Pl_s rfl (wtdF rfl rfl rfl) rfl rfl (Py rfl (yF rfl) (Py rfl (y_assign rfl rfl) (Pl_nil (Th_n (k12 _ _ (Wp_ret (Fq_ret (Res1 rfl rfl) ?_))))))))))))))))))))))))))))))))))))))))))))))))))))
        unfold works14_m; rewrite [if_pos hc1, if_pos hc2, if_pos hc3, if_neg hc4]
        exact ⟨rfl, hF⟩
      have hc3 := eF hc3
      refine Pl_s rfl (wtdF rfl rfl rfl) rfl rfl (Pl_s rfl (wtdF rfl rfl rfl) rfl rfl (Py rfl (yF rfl) (Pm rfl (Pl_s rfl (wtdF rfl rfl rfl) rfl rfl (Pl_s rfl (wtdF rfl rfl rfl) rfl rfl (Py rfl (yF rfl) (Pm rfl (Pl_s rfl (wtdF rfl rfl rfl) rfl rfl (Pl_s rfl (wtdF rfl rfl rfl) rfl rfl (Py rfl (yF rfl) (Pm rfl (Pl_s rfl (wtdF rfl rfl rfl) rfl rfl (Pl_s rfl (wtdF rfl rfl rfl) rfl rfl (Pl_s rfl (wtdF rfl rfl rfl) rfl rfl (Pl_s rfl (wtdF rfl rfl rfl) rfl rfl (Pl_s rfl (wtdF rfl rfl rfl) rfl rfl (Py rfl (yF rfl) (Pm rfl (Pl_s rfl (wtdF rfl rfl rfl) rfl rfl (Pl_s rfl (wtdF rfl rfl rfl) rfl rfl (Py rfl (yF rfl) (Pm rfl (Pl_s rfl (wtdF rfl rfl rfl) rfl rfl (Pl_s rfl (wtdF rfl rfl rfl) rfl rfl (Pl_s rfl (wtdF rfl rfl rfl) rfl rfl (Pl_s rfl (wtdF rfl rfl rfl) rfl rfl (Py rfl (yF rfl) (Pm rfl (Pl_s rfl (wtdF rfl rfl rfl) rfl rfl (Pl_s rfl (wtdF rfl rfl rfl) rfl rfl (Pl_s rfl (wtdF rfl rfl rfl) rfl rfl (Pl_s rfl (wtdF rfl rfl rfl) rfl rfl (Pl_s rfl (wtdF rfl rfl rfl) rfl rfl (Pl_s rfl (wtdF rfl rfl rfl) rfl rfl (Py rfl (yF rfl) (Pm rfl (Pl_s rfl (wtdF rfl rfl rfl) rfl rfl (Pl_s rfl (wtdF rfl rfl rfl) rfl rfl (Py rfl (yF rfl) (Pm rfl (Pl_s rfl (wtdF rfl rfl rfl) rfl rfl (Pl_s rfl (wtdF rfl rfl rfl) rfl rfl (Pl_s rfl (wtdF rfl rfl rfl) rfl rfl (Pl_s rfl (wtdF rfl rfl rfl) rfl rfl (Pl_s rfl (wtdF rfl rfl rfl) rfl rfl (Py rfl (yF rfl) (Pm rfl (Pl_s rfl (wtdF rfl rfl rfl) rfl rfl (Pl_s rfl (wtdF rfl rfl rfl) rfl rfl (Py rfl (yF rfl) (Py rfl (y_assign rfl rfl) (Pl_nil (Th_n (k12 _ _ (Wp_ret (Fq_ret (Res1 rfl rfl) ?_))))))))))))))))))))))))))))))))))))))))))))))))))))))))
      unfold works14_m; rewrite [if_pos hc1, if_pos hc2, if_neg hc3]
      exact ⟨rfl, hF⟩
    have hc2 := eF hc2
    refine Pl_s rfl (wtdF rfl rfl rfl) rfl rfl (Pl_s rfl (wtdF rfl rfl rfl) rfl rfl (Py rfl (yF rfl) (Pm rfl (Pl_s rfl (wtdF rfl rfl rfl) rfl rfl (Pl_s rfl (wtdF rfl rfl rfl) rfl rfl (Py rfl (yF rfl) (Pm rfl (Pl_s rfl (wtdF rfl rfl rfl) rfl rfl (Pl_s rfl (wtdF rfl rfl rfl) rfl rfl (Py rfl (yF rfl) (Pm rfl (Pl_s rfl (wtdF rfl rfl rfl) rfl rfl (Pl_s rfl (wtdF rfl rfl rfl) rfl rfl (Py rfl (yF rfl) (Pm rfl (Pl_s rfl (wtdF rfl rfl rfl) rfl rfl (Pl_s rfl (wtdF rfl rfl rfl) rfl rfl (Pl_s rfl (wtdF rfl rfl rfl) rfl rfl (Pl_s rfl (wtdF rfl rfl rfl) rfl rfl (Pl_s rfl (wtdF rfl rfl rfl) rfl rfl (Py rfl (yF rfl) (Pm rfl (Pl_s rfl (wtdF rfl rfl rfl) rfl rfl (Pl_s rfl (wtdF rfl rfl rfl) rfl rfl (Py rfl (yF rfl) (Pm rfl (Pl_s rfl (wtdF rfl rfl rfl) rfl rfl (Pl_s rfl (wtdF rfl rfl rfl) rfl rfl (Pl_s rfl (wtdF rfl rfl rfl) rfl rfl (Pl_s rfl (wtdF rfl rfl rfl) rfl rfl (Py rfl (yF rfl) (Pm rfl (Pl_s rfl (wtdF rfl rfl rfl) rfl rfl (Pl_s rfl (wtdF rfl rfl rfl) rfl rfl (Pl_s rfl (wtdF rfl rfl rfl) rfl rfl (Pl_s rfl (wtdF rfl rfl rfl) rfl rfl (Pl_s rfl (wtdF rfl rfl rfl) rfl rfl (Pl_s rfl (wtdF rfl rfl rfl) rfl rfl (Py rfl (yF rfl) (Pm rfl (Pl_s rfl (wtdF rfl rfl rfl) rfl rfl (Pl_s rfl (wtdF rfl rfl rfl) rfl rfl (Py rfl (yF rfl) (Pm rfl (Pl_s rfl (wtdF rfl rfl rfl) rfl rfl (Pl_s rfl (wtdF rfl rfl rfl) rfl rfl (Pl_s rfl (wtdF rfl rfl rfl) rfl rfl (Pl_s rfl (wtdF rfl rfl rfl) rfl rfl (Pl_s rfl (wtdF rfl rfl rfl) rfl rfl (Py rfl (yF rfl) (Pm rfl (Pl_s rfl (wtdF rfl rfl rfl) rfl rfl (Pl_s rfl (wtdF rfl rfl rfl) rfl rfl (Py rfl (yF rfl) (Py rfl (y_assign rfl rfl) (Pl_nil (Th_n (k12 _ _ (Wp_ret (Fq_ret (Res1 rfl rfl) ?_))))))))))))))))))))))))))))))))))))))))))))))))))))))))))))
    unfold works14_m; rewrite [if_pos hc1, if_neg hc2]
    exact ⟨rfl, hF⟩
  have hc1 := eF hc1
  refine Pl_s rfl (wtdF rfl rfl rfl) rfl rfl (Pl_s rfl (wtdF rfl rfl rfl) rfl rfl (Py rfl (yF rfl) (Pm rfl (Pl_s rfl (wtdF rfl rfl rfl) rfl rfl (Pl_s rfl (wtdF rfl rfl rfl) rfl rfl (Py rfl (yF rfl) (Pm rfl (Pl_s rfl (wtdF rfl rfl rfl) rfl rfl (Pl_s rfl (wtdF rfl rfl rfl) rfl rfl (Py rfl (yF rfl) (Pm rfl (Pl_s rfl (wtdF rfl rfl rfl) rfl rfl (Pl_s rfl (wtdF rfl rfl rfl) rfl rfl (Py rfl (yF rfl) (Pm rfl (Pl_s rfl (wtdF rfl rfl rfl) rfl rfl (Pl_s rfl (wtdF rfl rfl rfl) rfl rfl (Py rfl (yF rfl) (Pm rfl (Pl_s rfl (wtdF rfl rfl rfl) rfl rfl (Pl_s rfl (wtdF rfl rfl rfl) rfl rfl (Pl_s rfl (wtdF rfl rfl rfl) rfl rfl (Pl_s rfl (wtdF rfl rfl rfl) rfl rfl (Pl_s rfl (wtdF rfl rfl rfl) rfl rfl (Py rfl (yF rfl) (Pm rfl (Pl_s rfl (wtdF rfl rfl rfl) rfl rfl (Pl_s rfl (wtdF rfl rfl rfl) rfl rfl (Py rfl (yF rfl) (Pm rfl (Pl_s rfl (wtdF rfl rfl rfl) rfl rfl (Pl_s rfl (wtdF rfl rfl rfl) rfl rfl (Pl_s rfl (wtdF rfl rfl rfl) rfl rfl (Pl_s rfl (wtdF rfl rfl rfl) rfl rfl (Py rfl (yF rfl) (Pm rfl (Pl_s rfl (wtdF rfl rfl rfl) rfl rfl (Pl_s rfl (wtdF rfl rfl rfl) rfl rfl (Pl_s rfl (wtdF rfl rfl rfl) rfl rfl (Pl_s rfl (wtdF rfl rfl rfl) rfl rfl (Pl_s rfl (wtdF rfl rfl rfl) rfl rfl (Pl_s rfl (wtdF rfl rfl rfl) rfl rfl (Py rfl (yF rfl) (Pm rfl (Pl_s rfl (wtdF rfl rfl rfl) rfl rfl (Pl_s rfl (wtdF rfl rfl rfl) rfl rfl (Py rfl (yF rfl) (Pm rfl (Pl_s rfl (wtdF rfl rfl rfl) rfl rfl (Pl_s rfl (wtdF rfl rfl rfl) rfl rfl (Pl_s rfl (wtdF rfl rfl rfl) rfl rfl (Pl_s rfl (wtdF rfl rfl rfl) rfl rfl (Pl_s rfl (wtdF rfl rfl rfl) rfl rfl (Py rfl (yF rfl) (Pm rfl (Pl_s rfl (wtdF rfl rfl rfl) rfl rfl (Pl_s rfl (wtdF rfl rfl rfl) rfl rfl (Py rfl (yF rfl) (Py rfl (y_assign rfl rfl) (Pl_nil (Th_n (k12 _ _ (Wp_ret (Fq_ret (Res1 rfl rfl) ?_))))))))))))))))))))))))))))))))))))))))))))))))))))))))))))))))
  unfold works14_m; rewrite [if_neg hc1]
  exact ⟨rfl, hF⟩


set_option maxRecDepth 100000 in
theorem works14_t : works14_m = true := by decide +kernel

end Go.Proofs.YtngofknckkiboaaGreatDoor

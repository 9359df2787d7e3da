/- Walks printed by gen2.py out of our own specifications: what the functions named below do. -/
import Derived.Test.YtdckemiebnfjcaaGreatDoorSc
import Derived.Test.YtdckemiebnfjcaaGreatDoorHL
import Derived.Test.YtdckemiebnfjcaaGreatDoorZP
import Derived.Test.YtdckemiebnfjcaaGreatDoorBc
import Derived.Test.YtdckemiebnfjcaaGreatDoorPc
section
set_option linter.unusedSimpArgs false
set_option linter.unusedVariables false
set_option maxRecDepth 20000
namespace Go.Proofs.YtdckemiebnfjcaaGreatDoor
open Go.RowKit
def works14_m  : Bool :=
  if ((okey_m [97, 47, 114, 120]).1) = 1 then
    if ((okey_m [97, 47, 114, 120]).2) = 0 then
      if ((okey_m [97, 47, 47, 114]).2) = 3 then
        if ((onew_m 3).2) = 0 then
          if ((oprepare_m ((onew_m 3).1) (⟨3, [120], 0⟩ : OpM) (⟨(⟨1, 1⟩ : IdM), 0⟩ : TagM) (⟨1, 1⟩ : StampM)).2) = 0 then
            if ((oapply_m ((onew_m 3).1) ((oprepare_m ((onew_m 3).1) (⟨3, [120], 0⟩ : OpM) (⟨(⟨1, 1⟩ : IdM), 0⟩ : TagM) (⟨1, 1⟩ : StampM)).1)).2) = 0 then
              if (((osay_m ((oapply_m ((onew_m 3).1) ((oprepare_m ((onew_m 3).1) (⟨3, [120], 0⟩ : OpM) (⟨(⟨1, 1⟩ : IdM), 0⟩ : TagM) (⟨1, 1⟩ : StampM)).1)).1)).items).length : Int) = 1 then
                if ((oprepare_m ((oapply_m ((onew_m 3).1) ((oprepare_m ((onew_m 3).1) (⟨3, [120], 0⟩ : OpM) (⟨(⟨1, 1⟩ : IdM), 0⟩ : TagM) (⟨1, 1⟩ : StampM)).1)).1) (⟨4, [120], 0⟩ : OpM) (⟨(⟨2, 1⟩ : IdM), 0⟩ : TagM) (⟨1, 1⟩ : StampM)).2) = 0 then
                  if ((((oprepare_m ((oapply_m ((onew_m 3).1) ((oprepare_m ((onew_m 3).1) (⟨3, [120], 0⟩ : OpM) (⟨(⟨1, 1⟩ : IdM), 0⟩ : TagM) (⟨1, 1⟩ : StampM)).1)).1) (⟨4, [120], 0⟩ : OpM) (⟨(⟨2, 1⟩ : IdM), 0⟩ : TagM) (⟨1, 1⟩ : StampM)).1).tags).length : Int) = 1 then
                    if ix (((oprepare_m ((oapply_m ((onew_m 3).1) ((oprepare_m ((onew_m 3).1) (⟨3, [120], 0⟩ : OpM) (⟨(⟨1, 1⟩ : IdM), 0⟩ : TagM) (⟨1, 1⟩ : StampM)).1)).1) (⟨4, [120], 0⟩ : OpM) (⟨(⟨2, 1⟩ : IdM), 0⟩ : TagM) (⟨1, 1⟩ : StampM)).1).tags) 0 = (⟨(⟨1, 1⟩ : IdM), 0⟩ : TagM) then
                      if ((oapply_m ((oapply_m ((onew_m 3).1) ((oprepare_m ((onew_m 3).1) (⟨3, [120], 0⟩ : OpM) (⟨(⟨1, 1⟩ : IdM), 0⟩ : TagM) (⟨1, 1⟩ : StampM)).1)).1) ((oprepare_m ((oapply_m ((onew_m 3).1) ((oprepare_m ((onew_m 3).1) (⟨3, [120], 0⟩ : OpM) (⟨(⟨1, 1⟩ : IdM), 0⟩ : TagM) (⟨1, 1⟩ : StampM)).1)).1) (⟨4, [120], 0⟩ : OpM) (⟨(⟨2, 1⟩ : IdM), 0⟩ : TagM) (⟨1, 1⟩ : StampM)).1)).2) = 0 then
                        if (((osay_m ((oapply_m ((oapply_m ((onew_m 3).1) ((oprepare_m ((onew_m 3).1) (⟨3, [120], 0⟩ : OpM) (⟨(⟨1, 1⟩ : IdM), 0⟩ : TagM) (⟨1, 1⟩ : StampM)).1)).1) ((oprepare_m ((oapply_m ((onew_m 3).1) ((oprepare_m ((onew_m 3).1) (⟨3, [120], 0⟩ : OpM) (⟨(⟨1, 1⟩ : IdM), 0⟩ : TagM) (⟨1, 1⟩ : StampM)).1)).1) (⟨4, [120], 0⟩ : OpM) (⟨(⟨2, 1⟩ : IdM), 0⟩ : TagM) (⟨1, 1⟩ : StampM)).1)).1)).items).length : Int) = 0 then
                          ((oapply_m ((oapply_m ((onew_m 3).1) ((oprepare_m ((onew_m 3).1) (⟨3, [120], 0⟩ : OpM) (⟨(⟨1, 1⟩ : IdM), 0⟩ : TagM) (⟨1, 1⟩ : StampM)).1)).1) (⟨2, [], 1, (⟨(⟨1, 1⟩ : IdM), 0⟩ : TagM), (⟨0, 0⟩ : StampM), ([] : List TagM)⟩ : EffectM)).2) == 5
                        else
                          false
                      else
                        false
                    else
                      false
                  else
                    false
                else
                  false
              else
                false
            else
              false
          else
            false
        else
          false
      else
        false
    else
      false
  else
    false
theorem works14_ok (X : List Nat) (w : World) (hX : Lo X w) (mx : Int) (hmx : w.cell? ⟨0, 0, none⟩ = some (.int .i64 mx)) :
    Fn Tryz.prog 4 [] w fun v w' => v = .bool works14_m ∧ Fr [] w w' := by
  refine Fn_of 132 Ty.en_4 Tryz.func4 rfl rfl rfl ?_
  dsimp only [argEnv]
  have st := stn0 hX
  have hF := Fr.refl ([]) w
  refine sq fun _ k1 => rg (Ls' rfl (Ln k1 (sq fun _ k2 => rg (La rfl (Scl st hF rfl (okey_ok (keys (hOf st) ++ X) _ st.Lo [97, 47, 114, 120] mx (cellF hF hmx)) fun w1 st hF => Lm rfl (Lx rfl (Lx rfl (Ls' rfl (Ls' rfl (Ln k2 (sq fun _ k3 => rg (La rfl (Scl st hF rfl (okey_ok (keys (hOf st) ++ X) _ st.Lo [97, 47, 47, 114] mx (cellF hF hmx)) fun w2 st hF => Lm rfl (Lx rfl (Lx rfl (Ls' rfl (Ls' rfl (Ln k3 (sq fun _ k4 => rg (Ly rfl (y_build (cells := [_, _]) rfl rfl Ty.zc_41 Ty.ps_41 rfl) (Ly rfl (y_build (cells := [_, _, _]) rfl rfl Ty.zc_43 Ty.ps_43 rfl) (La rfl (Sal Ty.zc_43 st hF rfl fun g1 w3 (st : St _ _ [_] _) hF hg1 => La rfl (Ssw 0 Ty.sz_43 st hF (.inr hg1) rfl fun w4 (st : St _ _ [_] _) hF => Ln k4 (sq fun _ k5 => rg (Ly rfl (y_build (cells := [_, _]) rfl rfl Ty.zc_24 Ty.ps_24 rfl) (La rfl (Sal Ty.zc_24 st hF rfl fun g2 w5 (st : St _ _ [_, _] _) hF hg2 => La rfl (Ssw 1 Ty.sz_24 st hF (.inr hg2) rfl fun w6 (st : St _ _ [_, _] _) hF => Ln k5 (sq fun _ k6 => rg (La rfl (a_call rfl rfl rfl rfl (onew_ok (keys (hOf st) ++ X) _ st.Lo 3) (fun v w7 ⟨Ar1, cr1, Ar2, cr2, Ar3, cr3, Ar4, cr4, hv, hr1, hr2, hr3, hr4, hf⟩ => ?_)))))))))))))))))))))))))))))))))
  subst hv
  have st := st.keep0 hf
  have hF := hF.step0 hf
  have z12 := Sld.le hr1
  have st := st.addK (kS Ar1 ((((onew_m 3).1).setF).adds).length cr1 4 (((((onew_m 3).1).setF).adds).flatMap addMC)) hr1
  have z13 := Sld.le hr2
  have st := st.addK (kS Ar2 ((((onew_m 3).1).setF).gone).length cr2 3 (((((onew_m 3).1).setF).gone).flatMap tagMC)) hr2
  have z14 := Sld.le hr3
  have st := st.addK (kS Ar3 ((((onew_m 3).1).map).puts).length cr3 7 (((((onew_m 3).1).map).puts).flatMap putMC)) hr3
  have z15 := Sld.le hr4
  have st := st.addK (kS Ar4 ((((onew_m 3).1).map).gone).length cr4 3 (((((onew_m 3).1).map).gone).flatMap tagMC)) hr4
  have st : St X w7 [_, _] [_, _, _, _] := st
  refine Lm rfl (Lx rfl (Lx rfl (La rfl (Sal Ty.zc_57 st hF rfl fun g3 w8 (st : St _ _ [_, _, _] _) hF hg3 => La rfl (Ssw 2 Ty.sz_57 st hF (.inr hg3) rfl fun w9 (st : St _ _ [_, _, _] _) hF => Ls' rfl (Ln k6 (sq fun _ k7 => rg (Ly rfl (yw 2 Ty.ag_57 st rfl) (Ly rfl (y_build (cells := [_, _, _]) rfl rfl Ty.zc_63 Ty.ps_63 rfl) (Ly rfl (yw 0 Ty.ag_43 st rfl) (Ly rfl (yw 1 Ty.ag_24 st rfl) (La rfl (a_call rfl rfl rfl rfl (oprepare_ok (keys (hOf st) ++ X) _ st.Lo ((onew_m 3).1) Ar1 cr1 Ar2 cr2 Ar3 cr3 Ar4 cr4 (⟨3, [120], 0⟩ : OpM) (⟨(⟨1, 1⟩ : IdM), 0⟩ : TagM) (⟨1, 1⟩ : StampM) (st.q 0 rfl) (st.q 1 rfl) (st.q 2 rfl) (st.q 3 rfl) (by decide +kernel) (by decide +kernel) (by decide +kernel) (by decide +kernel)) (fun v w10 ⟨Ar5, cr5, hv, hr5, hf⟩ => ?_))))))))))))))
  subst hv
  have st := st.keep0 hf
  have hF := hF.step0 hf
  have z16 := Sld.le hr5
  have st := st.addK (kS Ar5 (((oprepare_m ((onew_m 3).1) (⟨3, [120], 0⟩ : OpM) (⟨(⟨1, 1⟩ : IdM), 0⟩ : TagM) (⟨1, 1⟩ : StampM)).1).tags).length cr5 3 ((((oprepare_m ((onew_m 3).1) (⟨3, [120], 0⟩ : OpM) (⟨(⟨1, 1⟩ : IdM), 0⟩ : TagM) (⟨1, 1⟩ : StampM)).1).tags).flatMap tagMC)) hr5
  have st : St X w10 [_, _, _] [_, _, _, _, _] := st
  refine Lm rfl (Lx rfl (Lx rfl (La rfl (Sal Ty.zc_59 st hF rfl fun g4 w11 (st : St _ _ [_, _, _, _] _) hF hg4 => La rfl (Ssw 3 Ty.sz_59 st hF (.inr hg4) rfl fun w12 (st : St _ _ [_, _, _, _] _) hF => Ls' rfl (Ln k7 (sq fun _ k8 => rg (Ly rfl (yw 2 Ty.ag_57 st rfl) (Ly rfl (yw 3 Ty.ag_59 st rfl) (La rfl (a_call rfl rfl rfl rfl (oapply_ok (keys (hOf st) ++ X) _ st.Lo ((onew_m 3).1) Ar1 cr1 Ar2 cr2 Ar3 cr3 Ar4 cr4 ((oprepare_m ((onew_m 3).1) (⟨3, [120], 0⟩ : OpM) (⟨(⟨1, 1⟩ : IdM), 0⟩ : TagM) (⟨1, 1⟩ : StampM)).1) Ar5 cr5 (st.q 0 rfl) (st.q 1 rfl) (st.q 2 rfl) (st.q 3 rfl) (st.q 4 rfl) (by decide +kernel) (by decide +kernel) (by decide +kernel) (by decide +kernel) (by decide +kernel)) (fun v w13 ⟨Ar6, cr6, Ar7, cr7, Ar8, cr8, Ar9, cr9, hv, hr6, hr7, hr8, hr9, hf⟩ => ?_))))))))))))
  subst hv
  have st := st.keep0 hf
  have hF := hF.step0 hf
  have z17 := Sld.le hr6
  have st := st.addK (kS Ar6 ((((oapply_m ((onew_m 3).1) ((oprepare_m ((onew_m 3).1) (⟨3, [120], 0⟩ : OpM) (⟨(⟨1, 1⟩ : IdM), 0⟩ : TagM) (⟨1, 1⟩ : StampM)).1)).1).setF).adds).length cr6 4 (((((oapply_m ((onew_m 3).1) ((oprepare_m ((onew_m 3).1) (⟨3, [120], 0⟩ : OpM) (⟨(⟨1, 1⟩ : IdM), 0⟩ : TagM) (⟨1, 1⟩ : StampM)).1)).1).setF).adds).flatMap addMC)) hr6
  have z18 := Sld.le hr7
  have st := st.addK (kS Ar7 ((((oapply_m ((onew_m 3).1) ((oprepare_m ((onew_m 3).1) (⟨3, [120], 0⟩ : OpM) (⟨(⟨1, 1⟩ : IdM), 0⟩ : TagM) (⟨1, 1⟩ : StampM)).1)).1).setF).gone).length cr7 3 (((((oapply_m ((onew_m 3).1) ((oprepare_m ((onew_m 3).1) (⟨3, [120], 0⟩ : OpM) (⟨(⟨1, 1⟩ : IdM), 0⟩ : TagM) (⟨1, 1⟩ : StampM)).1)).1).setF).gone).flatMap tagMC)) hr7
  have z19 := Sld.le hr8
  have st := st.addK (kS Ar8 ((((oapply_m ((onew_m 3).1) ((oprepare_m ((onew_m 3).1) (⟨3, [120], 0⟩ : OpM) (⟨(⟨1, 1⟩ : IdM), 0⟩ : TagM) (⟨1, 1⟩ : StampM)).1)).1).map).puts).length cr8 7 (((((oapply_m ((onew_m 3).1) ((oprepare_m ((onew_m 3).1) (⟨3, [120], 0⟩ : OpM) (⟨(⟨1, 1⟩ : IdM), 0⟩ : TagM) (⟨1, 1⟩ : StampM)).1)).1).map).puts).flatMap putMC)) hr8
  have z20 := Sld.le hr9
  have st := st.addK (kS Ar9 ((((oapply_m ((onew_m 3).1) ((oprepare_m ((onew_m 3).1) (⟨3, [120], 0⟩ : OpM) (⟨(⟨1, 1⟩ : IdM), 0⟩ : TagM) (⟨1, 1⟩ : StampM)).1)).1).map).gone).length cr9 3 (((((oapply_m ((onew_m 3).1) ((oprepare_m ((onew_m 3).1) (⟨3, [120], 0⟩ : OpM) (⟨(⟨1, 1⟩ : IdM), 0⟩ : TagM) (⟨1, 1⟩ : StampM)).1)).1).map).gone).flatMap tagMC)) hr9
  have st : St X w13 [_, _, _, _] [_, _, _, _, _, _, _, _, _] := st
  refine Lm rfl (Lx rfl (Lx rfl (La rfl (Sal Ty.zc_57 st hF rfl fun g5 w14 (st : St _ _ [_, _, _, _, _] _) hF hg5 => La rfl (Ssw 4 Ty.sz_57 st hF (.inr hg5) rfl fun w15 (st : St _ _ [_, _, _, _, _] _) hF => Ls' rfl (Ln k8 (sq fun _ k9 => rg (Ly rfl (yw 4 Ty.ag_57 st rfl) (Ly rfl (y_build (cells := [_, _, _]) rfl rfl Ty.zc_63 Ty.ps_63 rfl) (Ly rfl (y_build (cells := [_, _]) rfl rfl Ty.zc_41 Ty.ps_41 rfl) (Ly rfl (y_build (cells := [_, _, _]) rfl rfl Ty.zc_43 Ty.ps_43 rfl) (Ly rfl (yw 1 Ty.ag_24 st rfl) (La rfl (a_call rfl rfl rfl rfl (oprepare_ok (keys (hOf st) ++ X) _ st.Lo ((oapply_m ((onew_m 3).1) ((oprepare_m ((onew_m 3).1) (⟨3, [120], 0⟩ : OpM) (⟨(⟨1, 1⟩ : IdM), 0⟩ : TagM) (⟨1, 1⟩ : StampM)).1)).1) Ar6 cr6 Ar7 cr7 Ar8 cr8 Ar9 cr9 (⟨4, [120], 0⟩ : OpM) (⟨(⟨2, 1⟩ : IdM), 0⟩ : TagM) (⟨1, 1⟩ : StampM) (st.q 5 rfl) (st.q 6 rfl) (st.q 7 rfl) (st.q 8 rfl) (by decide +kernel) (by decide +kernel) (by decide +kernel) (by decide +kernel)) (fun v w16 ⟨Ar10, cr10, hv, hr10, hf⟩ => ?_)))))))))))))))
  subst hv
  have st := st.keep0 hf
  have hF := hF.step0 hf
  have z1 := Sld.le hr10
  have st := st.addK (kS Ar10 (((oprepare_m ((oapply_m ((onew_m 3).1) ((oprepare_m ((onew_m 3).1) (⟨3, [120], 0⟩ : OpM) (⟨(⟨1, 1⟩ : IdM), 0⟩ : TagM) (⟨1, 1⟩ : StampM)).1)).1) (⟨4, [120], 0⟩ : OpM) (⟨(⟨2, 1⟩ : IdM), 0⟩ : TagM) (⟨1, 1⟩ : StampM)).1).tags).length cr10 3 ((((oprepare_m ((oapply_m ((onew_m 3).1) ((oprepare_m ((onew_m 3).1) (⟨3, [120], 0⟩ : OpM) (⟨(⟨1, 1⟩ : IdM), 0⟩ : TagM) (⟨1, 1⟩ : StampM)).1)).1) (⟨4, [120], 0⟩ : OpM) (⟨(⟨2, 1⟩ : IdM), 0⟩ : TagM) (⟨1, 1⟩ : StampM)).1).tags).flatMap tagMC)) hr10
  have st : St X w16 [_, _, _, _, _] [_, _, _, _, _, _, _, _, _, _] := st
  refine Lm rfl (Lx rfl (Lx rfl (La rfl (Sal Ty.zc_59 st hF rfl fun g6 w17 (st : St _ _ [_, _, _, _, _, _] _) hF hg6 => La rfl (Ssw 5 Ty.sz_59 st hF (.inr hg6) rfl fun w18 (st : St _ _ [_, _, _, _, _, _] _) hF => Ls' rfl (Ln k9 (sq fun _ k10 => rg (Ly rfl (yw 4 Ty.ag_57 st rfl) (Ly rfl (yw 5 Ty.ag_59 st rfl) (La rfl (a_call rfl rfl rfl rfl (oapply_ok (keys (hOf st) ++ X) _ st.Lo ((oapply_m ((onew_m 3).1) ((oprepare_m ((onew_m 3).1) (⟨3, [120], 0⟩ : OpM) (⟨(⟨1, 1⟩ : IdM), 0⟩ : TagM) (⟨1, 1⟩ : StampM)).1)).1) Ar6 cr6 Ar7 cr7 Ar8 cr8 Ar9 cr9 ((oprepare_m ((oapply_m ((onew_m 3).1) ((oprepare_m ((onew_m 3).1) (⟨3, [120], 0⟩ : OpM) (⟨(⟨1, 1⟩ : IdM), 0⟩ : TagM) (⟨1, 1⟩ : StampM)).1)).1) (⟨4, [120], 0⟩ : OpM) (⟨(⟨2, 1⟩ : IdM), 0⟩ : TagM) (⟨1, 1⟩ : StampM)).1) Ar10 cr10 (st.q 5 rfl) (st.q 6 rfl) (st.q 7 rfl) (st.q 8 rfl) (st.q 9 rfl) (by decide +kernel) (by decide +kernel) (by decide +kernel) (by decide +kernel) (by decide +kernel)) (fun v w19 ⟨Ar11, cr11, Ar12, cr12, Ar13, cr13, Ar14, cr14, hv, hr11, hr12, hr13, hr14, hf⟩ => ?_))))))))))))
  subst hv
  have st := st.keep0 hf
  have hF := hF.step0 hf
  have z2 := Sld.le hr11
  have st := st.addK (kS Ar11 ((((oapply_m ((oapply_m ((onew_m 3).1) ((oprepare_m ((onew_m 3).1) (⟨3, [120], 0⟩ : OpM) (⟨(⟨1, 1⟩ : IdM), 0⟩ : TagM) (⟨1, 1⟩ : StampM)).1)).1) ((oprepare_m ((oapply_m ((onew_m 3).1) ((oprepare_m ((onew_m 3).1) (⟨3, [120], 0⟩ : OpM) (⟨(⟨1, 1⟩ : IdM), 0⟩ : TagM) (⟨1, 1⟩ : StampM)).1)).1) (⟨4, [120], 0⟩ : OpM) (⟨(⟨2, 1⟩ : IdM), 0⟩ : TagM) (⟨1, 1⟩ : StampM)).1)).1).setF).adds).length cr11 4 (((((oapply_m ((oapply_m ((onew_m 3).1) ((oprepare_m ((onew_m 3).1) (⟨3, [120], 0⟩ : OpM) (⟨(⟨1, 1⟩ : IdM), 0⟩ : TagM) (⟨1, 1⟩ : StampM)).1)).1) ((oprepare_m ((oapply_m ((onew_m 3).1) ((oprepare_m ((onew_m 3).1) (⟨3, [120], 0⟩ : OpM) (⟨(⟨1, 1⟩ : IdM), 0⟩ : TagM) (⟨1, 1⟩ : StampM)).1)).1) (⟨4, [120], 0⟩ : OpM) (⟨(⟨2, 1⟩ : IdM), 0⟩ : TagM) (⟨1, 1⟩ : StampM)).1)).1).setF).adds).flatMap addMC)) hr11
  have z3 := Sld.le hr12
  have st := st.addK (kS Ar12 ((((oapply_m ((oapply_m ((onew_m 3).1) ((oprepare_m ((onew_m 3).1) (⟨3, [120], 0⟩ : OpM) (⟨(⟨1, 1⟩ : IdM), 0⟩ : TagM) (⟨1, 1⟩ : StampM)).1)).1) ((oprepare_m ((oapply_m ((onew_m 3).1) ((oprepare_m ((onew_m 3).1) (⟨3, [120], 0⟩ : OpM) (⟨(⟨1, 1⟩ : IdM), 0⟩ : TagM) (⟨1, 1⟩ : StampM)).1)).1) (⟨4, [120], 0⟩ : OpM) (⟨(⟨2, 1⟩ : IdM), 0⟩ : TagM) (⟨1, 1⟩ : StampM)).1)).1).setF).gone).length cr12 3 (((((oapply_m ((oapply_m ((onew_m 3).1) ((oprepare_m ((onew_m 3).1) (⟨3, [120], 0⟩ : OpM) (⟨(⟨1, 1⟩ : IdM), 0⟩ : TagM) (⟨1, 1⟩ : StampM)).1)).1) ((oprepare_m ((oapply_m ((onew_m 3).1) ((oprepare_m ((onew_m 3).1) (⟨3, [120], 0⟩ : OpM) (⟨(⟨1, 1⟩ : IdM), 0⟩ : TagM) (⟨1, 1⟩ : StampM)).1)).1) (⟨4, [120], 0⟩ : OpM) (⟨(⟨2, 1⟩ : IdM), 0⟩ : TagM) (⟨1, 1⟩ : StampM)).1)).1).setF).gone).flatMap tagMC)) hr12
  have z4 := Sld.le hr13
  have st := st.addK (kS Ar13 ((((oapply_m ((oapply_m ((onew_m 3).1) ((oprepare_m ((onew_m 3).1) (⟨3, [120], 0⟩ : OpM) (⟨(⟨1, 1⟩ : IdM), 0⟩ : TagM) (⟨1, 1⟩ : StampM)).1)).1) ((oprepare_m ((oapply_m ((onew_m 3).1) ((oprepare_m ((onew_m 3).1) (⟨3, [120], 0⟩ : OpM) (⟨(⟨1, 1⟩ : IdM), 0⟩ : TagM) (⟨1, 1⟩ : StampM)).1)).1) (⟨4, [120], 0⟩ : OpM) (⟨(⟨2, 1⟩ : IdM), 0⟩ : TagM) (⟨1, 1⟩ : StampM)).1)).1).map).puts).length cr13 7 (((((oapply_m ((oapply_m ((onew_m 3).1) ((oprepare_m ((onew_m 3).1) (⟨3, [120], 0⟩ : OpM) (⟨(⟨1, 1⟩ : IdM), 0⟩ : TagM) (⟨1, 1⟩ : StampM)).1)).1) ((oprepare_m ((oapply_m ((onew_m 3).1) ((oprepare_m ((onew_m 3).1) (⟨3, [120], 0⟩ : OpM) (⟨(⟨1, 1⟩ : IdM), 0⟩ : TagM) (⟨1, 1⟩ : StampM)).1)).1) (⟨4, [120], 0⟩ : OpM) (⟨(⟨2, 1⟩ : IdM), 0⟩ : TagM) (⟨1, 1⟩ : StampM)).1)).1).map).puts).flatMap putMC)) hr13
  have z5 := Sld.le hr14
  have st := st.addK (kS Ar14 ((((oapply_m ((oapply_m ((onew_m 3).1) ((oprepare_m ((onew_m 3).1) (⟨3, [120], 0⟩ : OpM) (⟨(⟨1, 1⟩ : IdM), 0⟩ : TagM) (⟨1, 1⟩ : StampM)).1)).1) ((oprepare_m ((oapply_m ((onew_m 3).1) ((oprepare_m ((onew_m 3).1) (⟨3, [120], 0⟩ : OpM) (⟨(⟨1, 1⟩ : IdM), 0⟩ : TagM) (⟨1, 1⟩ : StampM)).1)).1) (⟨4, [120], 0⟩ : OpM) (⟨(⟨2, 1⟩ : IdM), 0⟩ : TagM) (⟨1, 1⟩ : StampM)).1)).1).map).gone).length cr14 3 (((((oapply_m ((oapply_m ((onew_m 3).1) ((oprepare_m ((onew_m 3).1) (⟨3, [120], 0⟩ : OpM) (⟨(⟨1, 1⟩ : IdM), 0⟩ : TagM) (⟨1, 1⟩ : StampM)).1)).1) ((oprepare_m ((oapply_m ((onew_m 3).1) ((oprepare_m ((onew_m 3).1) (⟨3, [120], 0⟩ : OpM) (⟨(⟨1, 1⟩ : IdM), 0⟩ : TagM) (⟨1, 1⟩ : StampM)).1)).1) (⟨4, [120], 0⟩ : OpM) (⟨(⟨2, 1⟩ : IdM), 0⟩ : TagM) (⟨1, 1⟩ : StampM)).1)).1).map).gone).flatMap tagMC)) hr14
  have st : St X w19 [_, _, _, _, _, _] [_, _, _, _, _, _, _, _, _, _, _, _, _, _] := st
  refine Lm rfl (Lx rfl (Lx rfl (La rfl (Sal Ty.zc_57 st hF rfl fun g7 w20 (st : St _ _ [_, _, _, _, _, _, _] _) hF hg7 => La rfl (Ssw 6 Ty.sz_57 st hF (.inr hg7) rfl fun w21 (st : St _ _ [_, _, _, _, _, _, _] _) hF => Ls' rfl (Ln k10 (sq fun _ k11 => rg (Ly rfl (yw 4 Ty.ag_57 st rfl) (Ly rfl (yw 0 Ty.ag_43 st rfl) (Ly rfl (y_build (cells := [_, _, _, _, _, _, _, _, _]) rfl rfl Ty.zc_59 Ty.ps_59 rfl) ?_))))))))))
  have st := st.aN 3
  refine La rfl (a_call rfl rfl rfl rfl (oapply_ok (keys (hOf st) ++ X) _ st.Lo ((oapply_m ((onew_m 3).1) ((oprepare_m ((onew_m 3).1) (⟨3, [120], 0⟩ : OpM) (⟨(⟨1, 1⟩ : IdM), 0⟩ : TagM) (⟨1, 1⟩ : StampM)).1)).1) Ar6 cr6 Ar7 cr7 Ar8 cr8 Ar9 cr9 (⟨2, [], 1, (⟨(⟨1, 1⟩ : IdM), 0⟩ : TagM), (⟨0, 0⟩ : StampM), ([] : List TagM)⟩ : EffectM) none 0 (st.q 5 rfl) (st.q 6 rfl) (st.q 7 rfl) (st.q 8 rfl) (st.q 14 rfl) (by decide +kernel) (by decide +kernel) (by decide +kernel) (by decide +kernel) (by decide +kernel)) (fun v w22 ⟨Ar15, cr15, Ar16, cr16, Ar17, cr17, Ar18, cr18, hv, hr15, hr16, hr17, hr18, hf⟩ => ?_))
  subst hv
  have st := st.keep0 hf
  have hF := hF.step0 hf
  have z6 := Sld.le hr15
  have st := st.addK (kS Ar15 ((((oapply_m ((oapply_m ((onew_m 3).1) ((oprepare_m ((onew_m 3).1) (⟨3, [120], 0⟩ : OpM) (⟨(⟨1, 1⟩ : IdM), 0⟩ : TagM) (⟨1, 1⟩ : StampM)).1)).1) (⟨2, [], 1, (⟨(⟨1, 1⟩ : IdM), 0⟩ : TagM), (⟨0, 0⟩ : StampM), ([] : List TagM)⟩ : EffectM)).1).setF).adds).length cr15 4 (((((oapply_m ((oapply_m ((onew_m 3).1) ((oprepare_m ((onew_m 3).1) (⟨3, [120], 0⟩ : OpM) (⟨(⟨1, 1⟩ : IdM), 0⟩ : TagM) (⟨1, 1⟩ : StampM)).1)).1) (⟨2, [], 1, (⟨(⟨1, 1⟩ : IdM), 0⟩ : TagM), (⟨0, 0⟩ : StampM), ([] : List TagM)⟩ : EffectM)).1).setF).adds).flatMap addMC)) hr15
  have z7 := Sld.le hr16
  have st := st.addK (kS Ar16 ((((oapply_m ((oapply_m ((onew_m 3).1) ((oprepare_m ((onew_m 3).1) (⟨3, [120], 0⟩ : OpM) (⟨(⟨1, 1⟩ : IdM), 0⟩ : TagM) (⟨1, 1⟩ : StampM)).1)).1) (⟨2, [], 1, (⟨(⟨1, 1⟩ : IdM), 0⟩ : TagM), (⟨0, 0⟩ : StampM), ([] : List TagM)⟩ : EffectM)).1).setF).gone).length cr16 3 (((((oapply_m ((oapply_m ((onew_m 3).1) ((oprepare_m ((onew_m 3).1) (⟨3, [120], 0⟩ : OpM) (⟨(⟨1, 1⟩ : IdM), 0⟩ : TagM) (⟨1, 1⟩ : StampM)).1)).1) (⟨2, [], 1, (⟨(⟨1, 1⟩ : IdM), 0⟩ : TagM), (⟨0, 0⟩ : StampM), ([] : List TagM)⟩ : EffectM)).1).setF).gone).flatMap tagMC)) hr16
  have z8 := Sld.le hr17
  have st := st.addK (kS Ar17 ((((oapply_m ((oapply_m ((onew_m 3).1) ((oprepare_m ((onew_m 3).1) (⟨3, [120], 0⟩ : OpM) (⟨(⟨1, 1⟩ : IdM), 0⟩ : TagM) (⟨1, 1⟩ : StampM)).1)).1) (⟨2, [], 1, (⟨(⟨1, 1⟩ : IdM), 0⟩ : TagM), (⟨0, 0⟩ : StampM), ([] : List TagM)⟩ : EffectM)).1).map).puts).length cr17 7 (((((oapply_m ((oapply_m ((onew_m 3).1) ((oprepare_m ((onew_m 3).1) (⟨3, [120], 0⟩ : OpM) (⟨(⟨1, 1⟩ : IdM), 0⟩ : TagM) (⟨1, 1⟩ : StampM)).1)).1) (⟨2, [], 1, (⟨(⟨1, 1⟩ : IdM), 0⟩ : TagM), (⟨0, 0⟩ : StampM), ([] : List TagM)⟩ : EffectM)).1).map).puts).flatMap putMC)) hr17
  have z9 := Sld.le hr18
  have st := st.addK (kS Ar18 ((((oapply_m ((oapply_m ((onew_m 3).1) ((oprepare_m ((onew_m 3).1) (⟨3, [120], 0⟩ : OpM) (⟨(⟨1, 1⟩ : IdM), 0⟩ : TagM) (⟨1, 1⟩ : StampM)).1)).1) (⟨2, [], 1, (⟨(⟨1, 1⟩ : IdM), 0⟩ : TagM), (⟨0, 0⟩ : StampM), ([] : List TagM)⟩ : EffectM)).1).map).gone).length cr18 3 (((((oapply_m ((oapply_m ((onew_m 3).1) ((oprepare_m ((onew_m 3).1) (⟨3, [120], 0⟩ : OpM) (⟨(⟨1, 1⟩ : IdM), 0⟩ : TagM) (⟨1, 1⟩ : StampM)).1)).1) (⟨2, [], 1, (⟨(⟨1, 1⟩ : IdM), 0⟩ : TagM), (⟨0, 0⟩ : StampM), ([] : List TagM)⟩ : EffectM)).1).map).gone).flatMap tagMC)) hr18
  have st : St X w22 [_, _, _, _, _, _, _] [_, _, _, _, _, _, _, _, _, _, _, _, _, _, _, _, _, _, _] := st
  refine Lm rfl (Lx rfl (Lx rfl (La rfl (Sal Ty.zc_57 st hF rfl fun g8 w23 (st : St _ _ [_, _, _, _, _, _, _, _] _) hF hg8 => La rfl (Ssw 7 Ty.sz_57 st hF (.inr hg8) rfl fun w24 (st : St _ _ [_, _, _, _, _, _, _, _] _) hF => Ls' rfl (Ln k11 (sq fun _ k12 => ?_)))))))
  refine Wp_plan (fun W => St X W (pickL (hOf st) [0, 1, 2, 3, 4, 5, 6, 7]) (kOf st)) [(true, 0), (true, 1), (true, 2), (true, 3), (true, 4), (true, 5), (true, 6), (true, 7), (true, 8), (true, 9), (true, 10), (true, 11), (true, 12), (true, 13), (true, 14), (true, 15), (true, 16), (true, 17), (true, 18), (true, 19), (true, 20), (true, 21), (true, 22), (true, 23), (false, 24), (true, 25), (true, 26), (true, 27), (true, 28), (true, 29), (true, 30), (true, 31), (true, 32), (true, 33), (true, 34), (true, 35), (true, 36), (true, 37), (true, 38), (true, 39), (true, 40), (true, 41), (true, 42), (true, 43), (true, 44), (true, 45), (true, 46), (true, 47), (true, 48), (true, 49), (true, 50), (true, 51), (true, 52), (false, 53), (true, 54), (true, 55), (true, 56), (true, 57), (true, 58), (true, 59), (true, 60), (true, 61), (true, 62)] Ty.mx_0 (by kernel_rfl) (by kernel_rfl) rfl ((st.pk [0, 1, 2, 3, 4, 5, 6, 7] (by decide)).drew) ?_
  have st := st.drew
  have hF := hF.step0 (Fr.drew _)
  refine Pm rfl (Py rfl (yeq rfl) (Pm rfl (Pl_bool 72 rfl (fun hc1 => ?_) (fun hc1 => ?_))))
  · have hc1 := eT hc1
    refine Pl_y rfl (wtdT rfl rfl rfl) rfl rfl (y_move rfl rfl) (Pl_y rfl (wtdT rfl rfl rfl) rfl rfl (yeq rfl) (Py rfl (yT rfl) (Pm rfl (Pl_bool 76 rfl (fun hc2 => ?_) (fun hc2 => ?_)))))
    · have hc2 := eT hc2
      refine Pl_y rfl (wtdT rfl rfl rfl) rfl rfl (y_move rfl rfl) (Pl_y rfl (wtdT rfl rfl rfl) rfl rfl (yeq rfl) (Py rfl (yT rfl) (Pm rfl (Pl_bool 80 rfl (fun hc3 => ?_) (fun hc3 => ?_)))))
      · have hc3 := eT hc3
        refine Pl_y rfl (wtdT rfl rfl rfl) rfl rfl (y_move rfl rfl) (Pl_y rfl (wtdT rfl rfl rfl) rfl rfl (yeq rfl) (Py rfl (yT rfl) (Pm rfl (Pl_bool 84 rfl (fun hc4 => ?_) (fun hc4 => ?_)))))
        · have hc4 := eT hc4
          refine Pl_y rfl (wtdT rfl rfl rfl) rfl rfl (y_move rfl rfl) (Pl_y rfl (wtdT rfl rfl rfl) rfl rfl (yeq rfl) (Py rfl (yT rfl) (Pm rfl (Pl_bool 88 rfl (fun hc5 => ?_) (fun hc5 => ?_)))))
          · have hc5 := eT hc5
            refine Pl_y rfl (wtdT rfl rfl rfl) rfl rfl (y_move rfl rfl) (Pl_y rfl (wtdT rfl rfl rfl) rfl rfl (yeq rfl) (Py rfl (yT rfl) (Pm rfl (Pl_bool 92 rfl (fun hc6 => ?_) (fun hc6 => ?_)))))
            · have hc6 := eT hc6
              refine Pl_y rfl (wtdT rfl rfl rfl) rfl rfl (y_loadw (i := 4) rfl rfl Ty.ag_57 (fun _ h => h.hp) rfl rfl) (Pl_a rfl (wtdT rfl rfl rfl) (by rfl) ?_)
              refine a_call rfl rfl rfl rfl (osay_ok (keys (hOf st) ++ X) _ st.Lo ((oapply_m ((onew_m 3).1) ((oprepare_m ((onew_m 3).1) (⟨3, [120], 0⟩ : OpM) (⟨(⟨1, 1⟩ : IdM), 0⟩ : TagM) (⟨1, 1⟩ : StampM)).1)).1) Ar6 cr6 Ar7 cr7 Ar8 cr8 Ar9 cr9 (st.q 5 rfl) (st.q 6 rfl) (st.q 7 rfl) (st.q 8 rfl) (by decide +kernel) (by decide +kernel) (by decide +kernel) (by decide +kernel)) (fun v w25 ⟨Ar19, cr19, hv, hr19, hf⟩ => ?_)
              subst hv
              have st := st.keep0 hf
              have hF := hF.step0 hf
              have z10 := Sld.le hr19
              have st := st.addK (kS Ar19 ((osay_m ((oapply_m ((onew_m 3).1) ((oprepare_m ((onew_m 3).1) (⟨3, [120], 0⟩ : OpM) (⟨(⟨1, 1⟩ : IdM), 0⟩ : TagM) (⟨1, 1⟩ : StampM)).1)).1)).items).length cr19 2 (((osay_m ((oapply_m ((onew_m 3).1) ((oprepare_m ((onew_m 3).1) (⟨3, [120], 0⟩ : OpM) (⟨(⟨1, 1⟩ : IdM), 0⟩ : TagM) (⟨1, 1⟩ : StampM)).1)).1)).items).flatMap itemMC)) hr19
              have st : St X w25 [_, _, _, _, _, _, _, _] [_, _, _, _, _, _, _, _, _, _, _, _, _, _, _, _, _, _, _, _] := st
              refine ⟨(st.pk [0, 1, 2, 3, 4, 5, 6, 7] (by decide)).tK 19, ?_⟩
              refine Pl_y rfl (wtdT rfl rfl rfl) rfl rfl (y_field rfl rfl Ty.fo_77_2 rfl Ty.pl_75 rfl) (Pl_y rfl (wtdT rfl rfl rfl) rfl rfl (yll rfl Tryz.underlying75) (Pl_y rfl (wtdT rfl rfl rfl) rfl rfl (yeq rfl) (Py rfl (yT rfl) (Pm rfl (Pl_bool 99 rfl (fun hc7 => ?_) (fun hc7 => ?_))))))
              · have hc7 := eT hc7
                refine Pl_y rfl (wtdT rfl rfl rfl) rfl rfl (y_move rfl rfl) (Pl_y rfl (wtdT rfl rfl rfl) rfl rfl (yeq rfl) (Py rfl (yT rfl) (Pm rfl (Pl_bool 103 rfl (fun hc8 => ?_) (fun hc8 => ?_)))))
                · have hc8 := eT hc8
                  refine Pl_y rfl (wtdT rfl rfl rfl) rfl rfl (yf rfl Ty.fo_59_5) (Pl_y rfl (wtdT rfl rfl rfl) rfl rfl (y_load (i := 5) rfl rfl Ty.pl_30 (fun _ h => h.hp) rfl rfl) (Pl_y rfl (wtdT rfl rfl rfl) rfl rfl (yll rfl Tryz.underlying30) (Pl_y rfl (wtdT rfl rfl rfl) rfl rfl (yeq rfl) (Py rfl (yT rfl) (Pm rfl (Pl_bool 109 rfl (fun hc9 => ?_) (fun hc9 => ?_)))))))
                  · have hc9 := eT hc9
                    refine Pl_y rfl (wtdT rfl rfl rfl) rfl rfl (yf rfl Ty.fo_59_5) (Pl_y rfl (wtdT rfl rfl rfl) rfl rfl (y_load (i := 5) rfl rfl Ty.pl_30 (fun _ h => h.hp) rfl rfl) ?_)
                    obtain ⟨gi1, bi1, egi1⟩ := (st.k (i := 9) rfl).addr (fun _ => rfl) (by decide) (q := 0) (by first | omega | (simp; done) | (simp; omega)) (by first | omega | (simp; done) | (simp; omega))
                    subst egi1
                    refine Pl_y rfl (wtdT rfl rfl rfl) rfl rfl (y_ixa (q := 0) rfl rfl rfl Ty.es_30 (by first | omega | (simp; done) | (simp; omega)) (by first | omega | (simp; done) | (simp; omega))) ?_
                    refine Pl_y rfl (wtdT rfl rfl rfl) rfl rfl (y_ldk (q := 0) rfl rfl Ty.ag_43 (fun _ h => h.k (i := 9) rfl) (fun _ => rfl) (by first | omega | (simp; done) | (simp; omega)) (by first | omega | (simp; done) | (simp; omega))) ?_
                    refine Pl_y rfl (wtdT rfl rfl rfl) rfl rfl (y_loadw (i := 0) rfl rfl Ty.ag_43 (fun _ h => h.hp) rfl rfl) (Pl_y rfl (wtdT rfl rfl rfl) rfl rfl (y_eqv (b := decide (ix (((oprepare_m ((oapply_m ((onew_m 3).1) ((oprepare_m ((onew_m 3).1) (⟨3, [120], 0⟩ : OpM) (⟨(⟨1, 1⟩ : IdM), 0⟩ : TagM) (⟨1, 1⟩ : StampM)).1)).1) (⟨4, [120], 0⟩ : OpM) (⟨(⟨2, 1⟩ : IdM), 0⟩ : TagM) (⟨1, 1⟩ : StampM)).1).tags) 0 = (⟨(⟨1, 1⟩ : IdM), 0⟩ : TagM))) rfl rfl rfl Ty.eg_43 (by rw [Ty.ag_43]; simp) (eqv_43 (ix (((oprepare_m ((oapply_m ((onew_m 3).1) ((oprepare_m ((onew_m 3).1) (⟨3, [120], 0⟩ : OpM) (⟨(⟨1, 1⟩ : IdM), 0⟩ : TagM) (⟨1, 1⟩ : StampM)).1)).1) (⟨4, [120], 0⟩ : OpM) (⟨(⟨2, 1⟩ : IdM), 0⟩ : TagM) (⟨1, 1⟩ : StampM)).1).tags) 0) (⟨(⟨1, 1⟩ : IdM), 0⟩ : TagM))) ?_)
                    refine Py rfl (yT rfl) (Pm rfl (Pl_bool 117 rfl (fun hc10 => ?_) (fun hc10 => ?_)))
                    · have hc10 := dT hc10
                      refine Pl_y rfl (wtdT rfl rfl rfl) rfl rfl (y_move rfl rfl) (Pl_y rfl (wtdT rfl rfl rfl) rfl rfl (yeq rfl) (Py rfl (yT rfl) (Pm rfl (Pl_bool 121 rfl (fun hc11 => ?_) (fun hc11 => ?_)))))
                      · have hc11 := eT hc11
                        refine Pl_y rfl (wtdT rfl rfl rfl) rfl rfl (y_loadw (i := 6) rfl rfl Ty.ag_57 (fun _ h => h.hp) rfl rfl) (Pl_a rfl (wtdT rfl rfl rfl) (by rfl) ?_)
                        refine a_call rfl rfl rfl rfl (osay_ok (keys (hOf st) ++ X) _ st.Lo ((oapply_m ((oapply_m ((onew_m 3).1) ((oprepare_m ((onew_m 3).1) (⟨3, [120], 0⟩ : OpM) (⟨(⟨1, 1⟩ : IdM), 0⟩ : TagM) (⟨1, 1⟩ : StampM)).1)).1) ((oprepare_m ((oapply_m ((onew_m 3).1) ((oprepare_m ((onew_m 3).1) (⟨3, [120], 0⟩ : OpM) (⟨(⟨1, 1⟩ : IdM), 0⟩ : TagM) (⟨1, 1⟩ : StampM)).1)).1) (⟨4, [120], 0⟩ : OpM) (⟨(⟨2, 1⟩ : IdM), 0⟩ : TagM) (⟨1, 1⟩ : StampM)).1)).1) Ar11 cr11 Ar12 cr12 Ar13 cr13 Ar14 cr14 (st.q 10 rfl) (st.q 11 rfl) (st.q 12 rfl) (st.q 13 rfl) (by decide +kernel) (by decide +kernel) (by decide +kernel) (by decide +kernel)) (fun v w26 ⟨Ar20, cr20, hv, hr20, hf⟩ => ?_)
                        subst hv
                        have st := st.keep0 hf
                        have hF := hF.step0 hf
                        have z11 := Sld.le hr20
                        have st := st.addK (kS Ar20 ((osay_m ((oapply_m ((oapply_m ((onew_m 3).1) ((oprepare_m ((onew_m 3).1) (⟨3, [120], 0⟩ : OpM) (⟨(⟨1, 1⟩ : IdM), 0⟩ : TagM) (⟨1, 1⟩ : StampM)).1)).1) ((oprepare_m ((oapply_m ((onew_m 3).1) ((oprepare_m ((onew_m 3).1) (⟨3, [120], 0⟩ : OpM) (⟨(⟨1, 1⟩ : IdM), 0⟩ : TagM) (⟨1, 1⟩ : StampM)).1)).1) (⟨4, [120], 0⟩ : OpM) (⟨(⟨2, 1⟩ : IdM), 0⟩ : TagM) (⟨1, 1⟩ : StampM)).1)).1)).items).length cr20 2 (((osay_m ((oapply_m ((oapply_m ((onew_m 3).1) ((oprepare_m ((onew_m 3).1) (⟨3, [120], 0⟩ : OpM) (⟨(⟨1, 1⟩ : IdM), 0⟩ : TagM) (⟨1, 1⟩ : StampM)).1)).1) ((oprepare_m ((oapply_m ((onew_m 3).1) ((oprepare_m ((onew_m 3).1) (⟨3, [120], 0⟩ : OpM) (⟨(⟨1, 1⟩ : IdM), 0⟩ : TagM) (⟨1, 1⟩ : StampM)).1)).1) (⟨4, [120], 0⟩ : OpM) (⟨(⟨2, 1⟩ : IdM), 0⟩ : TagM) (⟨1, 1⟩ : StampM)).1)).1)).items).flatMap itemMC)) hr20
                        have st : St X w26 [_, _, _, _, _, _, _, _] [_, _, _, _, _, _, _, _, _, _, _, _, _, _, _, _, _, _, _, _, _] := st
                        refine ⟨(st.pk [0, 1, 2, 3, 4, 5, 6, 7] (by decide)).tK 19, ?_⟩
                        refine Pl_y rfl (wtdT rfl rfl rfl) rfl rfl (y_field rfl rfl Ty.fo_77_2 rfl Ty.pl_75 rfl) (Pl_y rfl (wtdT rfl rfl rfl) rfl rfl (yll rfl Tryz.underlying75) (Pl_y rfl (wtdT rfl rfl rfl) rfl rfl (yeq rfl) (Py rfl (yT rfl) (Pm rfl (Pl_bool 128 rfl (fun hc12 => ?_) (fun hc12 => ?_))))))
                        · have hc12 := eT hc12
                          refine Pl_y rfl (wtdT rfl rfl rfl) rfl rfl (y_move rfl rfl) (Pl_y rfl (wtdT rfl rfl rfl) rfl rfl (yeq rfl) (Py rfl (yT rfl) (Py rfl (y_assign rfl rfl) (Pl_nil (Th_n (k12 _ _ (wR (fR (Res1 rfl rfl) ?_))))))))
                          unfold works14_m; rewrite [iP hc1, iP hc2, iP hc3, iP hc4, iP hc5, iP hc6, iP hc7, iP hc8, iP hc9, iP hc10, iP hc11, iP hc12]
                          exact ⟨rfl, hF⟩
                        have hc12 := eF hc12
                        refine Pl_s rfl (wtdF rfl rfl rfl) rfl rfl (Pl_s rfl (wtdF rfl rfl rfl) rfl rfl (Py rfl (yF rfl) (Py rfl (y_assign rfl rfl) (Pl_nil (Th_n (k12 _ _ (wR (fR (Res1 rfl rfl) ?_))))))))
                        unfold works14_m; rewrite [iP hc1, iP hc2, iP hc3, iP hc4, iP hc5, iP hc6, iP hc7, iP hc8, iP hc9, iP hc10, iP hc11, iN hc12]
                        exact ⟨rfl, hF⟩
                      have hc11 := eF hc11
                      refine Pl_s rfl (wtdF rfl rfl rfl) rfl rfl (Pl_s rfl (wtdF rfl rfl rfl) rfl rfl (Pl_s rfl (wtdF rfl rfl rfl) rfl rfl (Pl_s rfl (wtdF rfl rfl rfl) rfl rfl (Pl_s rfl (wtdF rfl rfl rfl) rfl rfl (Py rfl (yF rfl) (Pm rfl (Pl_s rfl (wtdF rfl rfl rfl) rfl rfl (Pl_s rfl (wtdF rfl rfl rfl) rfl rfl (Py rfl (yF rfl) (Py rfl (y_assign rfl rfl) (Pl_nil (Th_n (k12 _ _ (wR (fR (Res1 rfl rfl) ?_)))))))))))))))
                      unfold works14_m; rewrite [iP hc1, iP hc2, iP hc3, iP hc4, iP hc5, iP hc6, iP hc7, iP hc8, iP hc9, iP hc10, iN hc11]
                      exact ⟨rfl, hF⟩
                    have hc10 := dF hc10
                    refine Pl_s rfl (wtdF rfl rfl rfl) rfl rfl (Pl_s rfl (wtdF rfl rfl rfl) rfl rfl (Py rfl (yF rfl) (Pm rfl (Pl_s rfl (wtdF rfl rfl rfl) rfl rfl (Pl_s rfl (wtdF rfl rfl rfl) rfl rfl (Pl_s rfl (wtdF rfl rfl rfl) rfl rfl (Pl_s rfl (wtdF rfl rfl rfl) rfl rfl (Pl_s rfl (wtdF rfl rfl rfl) rfl rfl (Py rfl (yF rfl) (Pm rfl (Pl_s rfl (wtdF rfl rfl rfl) rfl rfl (Pl_s rfl (wtdF rfl rfl rfl) rfl rfl (Py rfl (yF rfl) (Py rfl (y_assign rfl rfl) (Pl_nil (Th_n (k12 _ _ (wR (fR (Res1 rfl rfl) ?_)))))))))))))))))))
                    unfold works14_m; rewrite [iP hc1, iP hc2, iP hc3, iP hc4, iP hc5, iP hc6, iP hc7, iP hc8, iP hc9, iN hc10]
                    exact ⟨rfl, hF⟩
                  have hc9 := eF hc9
                  refine Pl_s rfl (wtdF rfl rfl rfl) rfl rfl (Pl_s rfl (wtdF rfl rfl rfl) rfl rfl (Pl_s rfl (wtdF rfl rfl rfl) rfl rfl (Pl_s rfl (wtdF rfl rfl rfl) rfl rfl (Pl_s rfl (wtdF rfl rfl rfl) rfl rfl (Pl_s rfl (wtdF rfl rfl rfl) rfl rfl (Py rfl (yF rfl) (Pm rfl (Pl_s rfl (wtdF rfl rfl rfl) rfl rfl (Pl_s rfl (wtdF rfl rfl rfl) rfl rfl (Py rfl (yF rfl) (Pm rfl (Pl_s rfl (wtdF rfl rfl rfl) rfl rfl (Pl_s rfl (wtdF rfl rfl rfl) rfl rfl (Pl_s rfl (wtdF rfl rfl rfl) rfl rfl (Pl_s rfl (wtdF rfl rfl rfl) rfl rfl (Pl_s rfl (wtdF rfl rfl rfl) rfl rfl (Py rfl (yF rfl) (Pm rfl (Pl_s rfl (wtdF rfl rfl rfl) rfl rfl (Pl_s rfl (wtdF rfl rfl rfl) rfl rfl (Py rfl (yF rfl) (Py rfl (y_assign rfl rfl) (Pl_nil (Th_n (k12 _ _ (wR (fR (Res1 rfl rfl) ?_)))))))))))))))))))))))))))
                  unfold works14_m; rewrite [iP hc1, iP hc2, iP hc3, iP hc4, iP hc5, iP hc6, iP hc7, iP hc8, iN hc9]
                  exact ⟨rfl, hF⟩
                have hc8 := eF hc8
                refine Pl_s rfl (wtdF rfl rfl rfl) rfl rfl (Pl_s rfl (wtdF rfl rfl rfl) rfl rfl (Pl_s rfl (wtdF rfl rfl rfl) rfl rfl (Pl_s rfl (wtdF rfl rfl rfl) rfl rfl (Py rfl (yF rfl) (Pm rfl (Pl_s rfl (wtdF rfl rfl rfl) rfl rfl (Pl_s rfl (wtdF rfl rfl rfl) rfl rfl (Pl_s rfl (wtdF rfl rfl rfl) rfl rfl (Pl_s rfl (wtdF rfl rfl rfl) rfl rfl (Pl_s rfl (wtdF rfl rfl rfl) rfl rfl (Pl_s rfl (wtdF rfl rfl rfl) rfl rfl (Py rfl (yF rfl) (Pm rfl (Pl_s rfl (wtdF rfl rfl rfl) rfl rfl (Pl_s rfl (wtdF rfl rfl rfl) rfl rfl (Py rfl (yF rfl) (Pm rfl (Pl_s rfl (wtdF rfl rfl rfl) rfl rfl (Pl_s rfl (wtdF rfl rfl rfl) rfl rfl (Pl_s rfl (wtdF rfl rfl rfl) rfl rfl (Pl_s rfl (wtdF rfl rfl rfl) rfl rfl (Pl_s rfl (wtdF rfl rfl rfl) rfl rfl (Py rfl (yF rfl) (Pm rfl (Pl_s rfl (wtdF rfl rfl rfl) rfl rfl (Pl_s rfl (wtdF rfl rfl rfl) rfl rfl (Py rfl (yF rfl) (Py rfl (y_assign rfl rfl) (Pl_nil (Th_n (k12 _ _ (wR (fR (Res1 rfl rfl) ?_)))))))))))))))))))))))))))))))))
                unfold works14_m; rewrite [iP hc1, iP hc2, iP hc3, iP hc4, iP hc5, iP hc6, iP hc7, iN hc8]
                exact ⟨rfl, hF⟩
              have hc7 := eF hc7
              refine Pl_s rfl (wtdF rfl rfl rfl) rfl rfl (Pl_s rfl (wtdF rfl rfl rfl) rfl rfl (Py rfl (yF rfl) (Pm rfl (Pl_s rfl (wtdF rfl rfl rfl) rfl rfl (Pl_s rfl (wtdF rfl rfl rfl) rfl rfl (Pl_s rfl (wtdF rfl rfl rfl) rfl rfl (Pl_s rfl (wtdF rfl rfl rfl) rfl rfl (Py rfl (yF rfl) (Pm rfl (Pl_s rfl (wtdF rfl rfl rfl) rfl rfl (Pl_s rfl (wtdF rfl rfl rfl) rfl rfl (Pl_s rfl (wtdF rfl rfl rfl) rfl rfl (Pl_s rfl (wtdF rfl rfl rfl) rfl rfl (Pl_s rfl (wtdF rfl rfl rfl) rfl rfl (Pl_s rfl (wtdF rfl rfl rfl) rfl rfl (Py rfl (yF rfl) (Pm rfl (Pl_s rfl (wtdF rfl rfl rfl) rfl rfl (Pl_s rfl (wtdF rfl rfl rfl) rfl rfl (Py rfl (yF rfl) (Pm rfl (Pl_s rfl (wtdF rfl rfl rfl) rfl rfl (Pl_s rfl (wtdF rfl rfl rfl) rfl rfl (Pl_s rfl (wtdF rfl rfl rfl) rfl rfl (Pl_s rfl (wtdF rfl rfl rfl) rfl rfl (Pl_s rfl (wtdF rfl rfl rfl) rfl rfl (Py rfl (yF rfl) (Pm rfl (Pl_s rfl (wtdF rfl rfl rfl) rfl rfl (Pl_s rfl (wtdF rfl rfl rfl) rfl rfl (Py rfl (yF rfl) (Py rfl (y_assign rfl rfl) (Pl_nil (Th_n (k12 _ _ (wR (fR (Res1 rfl rfl) ?_)))))))))))))))))))))))))))))))))))))
              unfold works14_m; rewrite [iP hc1, iP hc2, iP hc3, iP hc4, iP hc5, iP hc6, iN hc7]
              exact ⟨rfl, hF⟩
            have hc6 := eF hc6
            refine Pl_s rfl (wtdF rfl rfl rfl) rfl rfl (Pl_s rfl (wtdF rfl rfl rfl) rfl rfl (Pl_s rfl (wtdF rfl rfl rfl) rfl rfl (Pl_s rfl (wtdF rfl rfl rfl) rfl rfl (Pl_s rfl (wtdF rfl rfl rfl) rfl rfl (Py rfl (yF rfl) (Pm rfl (Pl_s rfl (wtdF rfl rfl rfl) rfl rfl (Pl_s rfl (wtdF rfl rfl rfl) rfl rfl (Py rfl (yF rfl) (Pm rfl (Pl_s rfl (wtdF rfl rfl rfl) rfl rfl (Pl_s rfl (wtdF rfl rfl rfl) rfl rfl (Pl_s rfl (wtdF rfl rfl rfl) rfl rfl (Pl_s rfl (wtdF rfl rfl rfl) rfl rfl (Py rfl (yF rfl) (Pm rfl (Pl_s rfl (wtdF rfl rfl rfl) rfl rfl (Pl_s rfl (wtdF rfl rfl rfl) rfl rfl (Pl_s rfl (wtdF rfl rfl rfl) rfl rfl (Pl_s rfl (wtdF rfl rfl rfl) rfl rfl (Pl_s rfl (wtdF rfl rfl rfl) rfl rfl (Pl_s rfl (wtdF rfl rfl rfl) rfl rfl (Py rfl (yF rfl) (Pm rfl (Pl_s rfl (wtdF rfl rfl rfl) rfl rfl (Pl_s rfl (wtdF rfl rfl rfl) rfl rfl (Py rfl (yF rfl) (Pm rfl (Pl_s rfl (wtdF rfl rfl rfl) rfl rfl (Pl_s rfl (wtdF rfl rfl rfl) rfl rfl (Pl_s rfl (wtdF rfl rfl rfl) rfl rfl (Pl_s rfl (wtdF rfl rfl rfl) rfl rfl (Pl_s rfl (wtdF rfl rfl rfl) rfl rfl (Py rfl (yF rfl) (Pm rfl (Pl_s rfl (wtdF rfl rfl rfl) rfl rfl (Pl_s rfl (wtdF rfl rfl rfl) rfl rfl (Py rfl (yF rfl) (Py rfl (y_assign rfl rfl) (Pl_nil (Th_n (k12 _ _ (wR (fR (Res1 rfl rfl) ?_))))))))))))))))))))))))))))))))))))))))))))
            unfold works14_m; rewrite [iP hc1, iP hc2, iP hc3, iP hc4, iP hc5, iN hc6]
            exact ⟨rfl, hF⟩
          have hc5 := eF hc5
          refine Pl_s rfl (wtdF rfl rfl rfl) rfl rfl (Pl_s rfl (wtdF rfl rfl rfl) rfl rfl (Py rfl (yF rfl) (Pm rfl (Pl_s rfl (wtdF rfl rfl rfl) rfl rfl (Pl_s rfl (wtdF rfl rfl rfl) rfl rfl (Pl_s rfl (wtdF rfl rfl rfl) rfl rfl (Pl_s rfl (wtdF rfl rfl rfl) rfl rfl (Pl_s rfl (wtdF rfl rfl rfl) rfl rfl (Py rfl (yF rfl) (Pm rfl (Pl_s rfl (wtdF rfl rfl rfl) rfl rfl (Pl_s rfl (wtdF rfl rfl rfl) rfl rfl (Py rfl (yF rfl) (Pm rfl (Pl_s rfl (wtdF rfl rfl rfl) rfl rfl (Pl_s rfl (wtdF rfl rfl rfl) rfl rfl (Pl_s rfl (wtdF rfl rfl rfl) rfl rfl (Pl_s rfl (wtdF rfl rfl rfl) rfl rfl (Py rfl (yF rfl) (Pm rfl (Pl_s rfl (wtdF rfl rfl rfl) rfl rfl (Pl_s rfl (wtdF rfl rfl rfl) rfl rfl (Pl_s rfl (wtdF rfl rfl rfl) rfl rfl (Pl_s rfl (wtdF rfl rfl rfl) rfl rfl (Pl_s rfl (wtdF rfl rfl rfl) rfl rfl (Pl_s rfl (wtdF rfl rfl rfl) rfl rfl (Py rfl (yF rfl) (Pm rfl (Pl_s rfl (wtdF rfl rfl rfl) rfl rfl (Pl_s rfl (wtdF rfl rfl rfl) rfl rfl (Py rfl (yF rfl) (Pm rfl (Pl_s rfl (wtdF rfl rfl rfl) rfl rfl (Pl_s rfl (wtdF rfl rfl rfl) rfl rfl (Pl_s rfl (wtdF rfl rfl rfl) rfl rfl (Pl_s rfl (wtdF rfl rfl rfl) rfl rfl (Pl_s rfl (wtdF rfl rfl rfl) rfl rfl (Py rfl (yF rfl) (Pm rfl (Pl_s rfl (wtdF rfl rfl rfl) rfl rfl (Pl_s rfl (wtdF rfl rfl rfl) rfl rfl (Py rfl (yF rfl) (Py rfl (y_assign rfl rfl) (Pl_nil (Th_n (k12 _ _ (wR (fR (Res1 rfl rfl) ?_))))))))))))))))))))))))))))))))))))))))))))))))
          unfold works14_m; rewrite [iP hc1, iP hc2, iP hc3, iP hc4, iN hc5]
          exact ⟨rfl, hF⟩
        have hc4 := eF hc4
        refine Pl_s rfl (wtdF rfl rfl rfl) rfl rfl (Pl_s rfl (wtdF rfl rfl rfl) rfl rfl (Py rfl (yF rfl) (Pm rfl (Pl_s rfl (wtdF rfl rfl rfl) rfl rfl (Pl_s rfl (wtdF rfl rfl rfl) rfl rfl (Py rfl (yF rfl) (Pm rfl (Pl_s rfl (wtdF rfl rfl rfl) rfl rfl (Pl_s rfl (wtdF rfl rfl rfl) rfl rfl (Pl_s rfl (wtdF rfl rfl rfl) rfl rfl (Pl_s rfl (wtdF rfl rfl rfl) rfl rfl (Pl_s rfl (wtdF rfl rfl rfl) rfl rfl (Py rfl (yF rfl) (Pm rfl (Pl_s rfl (wtdF rfl rfl rfl) rfl rfl (Pl_s rfl (wtdF rfl rfl rfl) rfl rfl (Py rfl (yF rfl) (Pm rfl (Pl_s rfl (wtdF rfl rfl rfl) rfl rfl (Pl_s rfl (wtdF rfl rfl rfl) rfl rfl (Pl_s rfl (wtdF rfl rfl rfl) rfl rfl (Pl_s rfl (wtdF rfl rfl rfl) rfl rfl (Py rfl (yF rfl) (Pm rfl (Pl_s rfl (wtdF rfl rfl rfl) rfl rfl (Pl_s rfl (wtdF rfl rfl rfl) rfl rfl (Pl_s rfl (wtdF rfl rfl rfl) rfl rfl (Pl_s rfl (wtdF rfl rfl rfl) rfl rfl (Pl_s rfl (wtdF rfl rfl rfl) rfl rfl (Pl_s rfl (wtdF rfl rfl rfl) rfl rfl (Py rfl (yF rfl) (Pm rfl (Pl_s rfl (wtdF rfl rfl rfl) rfl rfl (Pl_s rfl (wtdF rfl rfl rfl) rfl rfl (Py rfl (yF rfl) (Pm rfl (Pl_s rfl (wtdF rfl rfl rfl) rfl rfl (Pl_s rfl (wtdF rfl rfl rfl) rfl rfl (Pl_s rfl (wtdF rfl rfl rfl) rfl rfl (Pl_s rfl (wtdF rfl rfl rfl) rfl rfl (Pl_s rfl (wtdF rfl rfl rfl) rfl rfl (Py rfl (yF rfl) (Pm rfl (Pl_s rfl (wtdF rfl rfl rfl) rfl rfl (Pl_s rfl (wtdF rfl rfl rfl) rfl rfl (Py rfl (yF rfl) (Py rfl (y_assign rfl rfl) (Pl_nil (Th_n (k12 _ _ (wR (fR (Res1 rfl rfl) ?_))))))))))))))))))))))))))))))))))))))))))))))))))))
        unfold works14_m; rewrite [iP hc1, iP hc2, iP hc3, iN hc4]
        exact ⟨rfl, hF⟩
      have hc3 := eF hc3
      refine Pl_s rfl (wtdF rfl rfl rfl) rfl rfl (Pl_s rfl (wtdF rfl rfl rfl) rfl rfl (Py rfl (yF rfl) (Pm rfl (Pl_s rfl (wtdF rfl rfl rfl) rfl rfl (Pl_s rfl (wtdF rfl rfl rfl) rfl rfl (Py rfl (yF rfl) (Pm rfl (Pl_s rfl (wtdF rfl rfl rfl) rfl rfl (Pl_s rfl (wtdF rfl rfl rfl) rfl rfl (Py rfl (yF rfl) (Pm rfl (Pl_s rfl (wtdF rfl rfl rfl) rfl rfl (Pl_s rfl (wtdF rfl rfl rfl) rfl rfl (Pl_s rfl (wtdF rfl rfl rfl) rfl rfl (Pl_s rfl (wtdF rfl rfl rfl) rfl rfl (Pl_s rfl (wtdF rfl rfl rfl) rfl rfl (Py rfl (yF rfl) (Pm rfl (Pl_s rfl (wtdF rfl rfl rfl) rfl rfl (Pl_s rfl (wtdF rfl rfl rfl) rfl rfl (Py rfl (yF rfl) (Pm rfl (Pl_s rfl (wtdF rfl rfl rfl) rfl rfl (Pl_s rfl (wtdF rfl rfl rfl) rfl rfl (Pl_s rfl (wtdF rfl rfl rfl) rfl rfl (Pl_s rfl (wtdF rfl rfl rfl) rfl rfl (Py rfl (yF rfl) (Pm rfl (Pl_s rfl (wtdF rfl rfl rfl) rfl rfl (Pl_s rfl (wtdF rfl rfl rfl) rfl rfl (Pl_s rfl (wtdF rfl rfl rfl) rfl rfl (Pl_s rfl (wtdF rfl rfl rfl) rfl rfl (Pl_s rfl (wtdF rfl rfl rfl) rfl rfl (Pl_s rfl (wtdF rfl rfl rfl) rfl rfl (Py rfl (yF rfl) (Pm rfl (Pl_s rfl (wtdF rfl rfl rfl) rfl rfl (Pl_s rfl (wtdF rfl rfl rfl) rfl rfl (Py rfl (yF rfl) (Pm rfl (Pl_s rfl (wtdF rfl rfl rfl) rfl rfl (Pl_s rfl (wtdF rfl rfl rfl) rfl rfl (Pl_s rfl (wtdF rfl rfl rfl) rfl rfl (Pl_s rfl (wtdF rfl rfl rfl) rfl rfl (Pl_s rfl (wtdF rfl rfl rfl) rfl rfl (Py rfl (yF rfl) (Pm rfl (Pl_s rfl (wtdF rfl rfl rfl) rfl rfl (Pl_s rfl (wtdF rfl rfl rfl) rfl rfl (Py rfl (yF rfl) (Py rfl (y_assign rfl rfl) (Pl_nil (Th_n (k12 _ _ (wR (fR (Res1 rfl rfl) ?_))))))))))))))))))))))))))))))))))))))))))))))))))))))))
      unfold works14_m; rewrite [iP hc1, iP hc2, iN hc3]
      exact ⟨rfl, hF⟩
    have hc2 := eF hc2
    refine Pl_s rfl (wtdF rfl rfl rfl) rfl rfl (Pl_s rfl (wtdF rfl rfl rfl) rfl rfl (Py rfl (yF rfl) (Pm rfl (Pl_s rfl (wtdF rfl rfl rfl) rfl rfl (Pl_s rfl (wtdF rfl rfl rfl) rfl rfl (Py rfl (yF rfl) (Pm rfl (Pl_s rfl (wtdF rfl rfl rfl) rfl rfl (Pl_s rfl (wtdF rfl rfl rfl) rfl rfl (Py rfl (yF rfl) (Pm rfl (Pl_s rfl (wtdF rfl rfl rfl) rfl rfl (Pl_s rfl (wtdF rfl rfl rfl) rfl rfl (Py rfl (yF rfl) (Pm rfl (Pl_s rfl (wtdF rfl rfl rfl) rfl rfl (Pl_s rfl (wtdF rfl rfl rfl) rfl rfl (Pl_s rfl (wtdF rfl rfl rfl) rfl rfl (Pl_s rfl (wtdF rfl rfl rfl) rfl rfl (Pl_s rfl (wtdF rfl rfl rfl) rfl rfl (Py rfl (yF rfl) (Pm rfl (Pl_s rfl (wtdF rfl rfl rfl) rfl rfl (Pl_s rfl (wtdF rfl rfl rfl) rfl rfl (Py rfl (yF rfl) (Pm rfl (Pl_s rfl (wtdF rfl rfl rfl) rfl rfl (Pl_s rfl (wtdF rfl rfl rfl) rfl rfl (Pl_s rfl (wtdF rfl rfl rfl) rfl rfl (Pl_s rfl (wtdF rfl rfl rfl) rfl rfl (Py rfl (yF rfl) (Pm rfl (Pl_s rfl (wtdF rfl rfl rfl) rfl rfl (Pl_s rfl (wtdF rfl rfl rfl) rfl rfl (Pl_s rfl (wtdF rfl rfl rfl) rfl rfl (Pl_s rfl (wtdF rfl rfl rfl) rfl rfl (Pl_s rfl (wtdF rfl rfl rfl) rfl rfl (Pl_s rfl (wtdF rfl rfl rfl) rfl rfl (Py rfl (yF rfl) (Pm rfl (Pl_s rfl (wtdF rfl rfl rfl) rfl rfl (Pl_s rfl (wtdF rfl rfl rfl) rfl rfl (Py rfl (yF rfl) (Pm rfl (Pl_s rfl (wtdF rfl rfl rfl) rfl rfl (Pl_s rfl (wtdF rfl rfl rfl) rfl rfl (Pl_s rfl (wtdF rfl rfl rfl) rfl rfl (Pl_s rfl (wtdF rfl rfl rfl) rfl rfl (Pl_s rfl (wtdF rfl rfl rfl) rfl rfl (Py rfl (yF rfl) (Pm rfl (Pl_s rfl (wtdF rfl rfl rfl) rfl rfl (Pl_s rfl (wtdF rfl rfl rfl) rfl rfl (Py rfl (yF rfl) (Py rfl (y_assign rfl rfl) (Pl_nil (Th_n (k12 _ _ (wR (fR (Res1 rfl rfl) ?_))))))))))))))))))))))))))))))))))))))))))))))))))))))))))))
    unfold works14_m; rewrite [iP hc1, iN hc2]
    exact ⟨rfl, hF⟩
  have hc1 := eF hc1
  refine Pl_s rfl (wtdF rfl rfl rfl) rfl rfl (Pl_s rfl (wtdF rfl rfl rfl) rfl rfl (Py rfl (yF rfl) (Pm rfl (Pl_s rfl (wtdF rfl rfl rfl) rfl rfl (Pl_s rfl (wtdF rfl rfl rfl) rfl rfl (Py rfl (yF rfl) (Pm rfl (Pl_s rfl (wtdF rfl rfl rfl) rfl rfl (Pl_s rfl (wtdF rfl rfl rfl) rfl rfl (Py rfl (yF rfl) (Pm rfl (Pl_s rfl (wtdF rfl rfl rfl) rfl rfl (Pl_s rfl (wtdF rfl rfl rfl) rfl rfl (Py rfl (yF rfl) (Pm rfl (Pl_s rfl (wtdF rfl rfl rfl) rfl rfl (Pl_s rfl (wtdF rfl rfl rfl) rfl rfl (Py rfl (yF rfl) (Pm rfl (Pl_s rfl (wtdF rfl rfl rfl) rfl rfl (Pl_s rfl (wtdF rfl rfl rfl) rfl rfl (Pl_s rfl (wtdF rfl rfl rfl) rfl rfl (Pl_s rfl (wtdF rfl rfl rfl) rfl rfl (Pl_s rfl (wtdF rfl rfl rfl) rfl rfl (Py rfl (yF rfl) (Pm rfl (Pl_s rfl (wtdF rfl rfl rfl) rfl rfl (Pl_s rfl (wtdF rfl rfl rfl) rfl rfl (Py rfl (yF rfl) (Pm rfl (Pl_s rfl (wtdF rfl rfl rfl) rfl rfl (Pl_s rfl (wtdF rfl rfl rfl) rfl rfl (Pl_s rfl (wtdF rfl rfl rfl) rfl rfl (Pl_s rfl (wtdF rfl rfl rfl) rfl rfl (Py rfl (yF rfl) (Pm rfl (Pl_s rfl (wtdF rfl rfl rfl) rfl rfl (Pl_s rfl (wtdF rfl rfl rfl) rfl rfl (Pl_s rfl (wtdF rfl rfl rfl) rfl rfl (Pl_s rfl (wtdF rfl rfl rfl) rfl rfl (Pl_s rfl (wtdF rfl rfl rfl) rfl rfl (Pl_s rfl (wtdF rfl rfl rfl) rfl rfl (Py rfl (yF rfl) (Pm rfl (Pl_s rfl (wtdF rfl rfl rfl) rfl rfl (Pl_s rfl (wtdF rfl rfl rfl) rfl rfl (Py rfl (yF rfl) (Pm rfl (Pl_s rfl (wtdF rfl rfl rfl) rfl rfl (Pl_s rfl (wtdF rfl rfl rfl) rfl rfl (Pl_s rfl (wtdF rfl rfl rfl) rfl rfl (Pl_s rfl (wtdF rfl rfl rfl) rfl rfl (Pl_s rfl (wtdF rfl rfl rfl) rfl rfl (Py rfl (yF rfl) (Pm rfl (Pl_s rfl (wtdF rfl rfl rfl) rfl rfl (Pl_s rfl (wtdF rfl rfl rfl) rfl rfl (Py rfl (yF rfl) (Py rfl (y_assign rfl rfl) (Pl_nil (Th_n (k12 _ _ (wR (fR (Res1 rfl rfl) ?_))))))))))))))))))))))))))))))))))))))))))))))))))))))))))))))))
  unfold works14_m; rewrite [iN hc1]
  exact ⟨rfl, hF⟩
set_option maxRecDepth 100000 in
theorem works14_t : works14_m = true := by decide +kernel
end Go.Proofs.YtdckemiebnfjcaaGreatDoor
end

section
set_option linter.unusedSimpArgs false
set_option linter.unusedVariables false
namespace Go.Proofs.YtdckemiebnfjcaaGreatDoor
open Go.RowKit
structure SetOk (s : SetM) : Prop where
  la : s.adds.length ≤ 4096
  lg : s.gone.length ≤ 4096
  ra : Rises (s.adds.map (·.tag))
  rg : Rises s.gone
  dj : ∀ a ∈ s.adds, a.tag ∉ s.gone
theorem setOk_of {s : SetM} (h : ocheck_m s = 0) : SetOk s := by
  unfold ocheck_m at h
  split at h
  · cases h
  rename_i c1
  split at h
  · cases h
  split at h
  · rename_i c3
    split at h
    · cases h
    rename_i c4
    rw [ocheck_c1_iff] at c1
    rw [ocheck_c3_iff] at c4
    have hg : strictF_m s.gone icompareTag_m = true := by
      by_cases q : strictF_m s.gone icompareTag_m = true
      · exact q
      · exact absurd (.inl q) c4
    have rg := (strictTag_iff s.gone).1 hg
    refine ⟨by omega, by omega, (strictAdd_iff s.adds).1 c3, rg, fun a ha hm => ?_⟩
    refine absurd (.inr ?_) c4
    rw [containsF_eq, List.any_eq_true]
    refine ⟨a, ha, ?_⟩
    unfold ocheck3_m ogone_m
    rw [bs_mem rg]
    split
    · simpa using hm
    · rfl
  · cases h
theorem tagTot (a b : TagM) (h1 : tagLt a b = false) (h2 : tagLt b a = false) : a = b := by
  rcases tagLt_tri a b with h | h | h
  · rw [h] at h1; cases h1
  · exact h
  · rw [h] at h2; cases h2
open Go.Shelf Go.Lib Go.Sort in
theorem sortTag_facts (l : List TagM) : Rises (compactTag_m (sortF icompareTag_m l)) ∧ (∀ x, x ∈ compactTag_m (sortF icompareTag_m l) ↔ x ∈ l) := by
  rw [compactTag_eq]
  have e : ∀ a b, ltOf icompareTag_m a b = tagLt a b := fun a b => by
    unfold ltOf; rw [icompareTag_eq, Bool.eq_iff_iff, decide_eq_true_iff]; exact tagCmp_neg a b
  have hp : (sortF icompareTag_m l).Perm l := List.mergeSort_perm _ _
  have hs : (sortF icompareTag_m l).Pairwise (fun a b => tagLt b a = false) := by
    have := List.pairwise_mergeSort (le := fun x y => !(ltOf icompareTag_m) y x) (fun a b c h1 h2 => by
      simp only [e, Bool.not_eq_true'] at *
      rcases tagLt_tri c a with h | h | h
      · rcases tagLt_tri b a with g | g | g
        · rw [g] at h1; cases h1
        · subst g; rw [h] at h2; cases h2
        · have := tagLt_trans c a b h g; rw [this] at h2; cases h2
      · subst h; exact tagLt_irrefl c
      · exact tagLt_asymm h) (fun a b => by
      simp only [e, Bool.or_eq_true, Bool.not_eq_true']
      rcases tagLt_tri a b with h | h | h
      · exact .inl (tagLt_asymm h)
      · subst h; exact .inl (tagLt_irrefl a)
      · exact .inr (tagLt_asymm h)) l
    exact this.imp fun {a b} h => by simpa only [e, Bool.not_eq_true'] using h
  refine ⟨dd_strict tagLt tagTot tagLt_trans _ hs, fun x => by rw [dd_mem]; exact hp.mem_iff⟩
structure MapOk (s : MapM) : Prop where
  lp : s.puts.length ≤ 4096
  lg : s.gone.length ≤ 4096
  rt : s.gone.any onotTag_m = false
  rp : Rises (s.puts.map (·.tag))
  rg : Rises s.gone
  dj : ∀ a ∈ s.puts, a.tag ∉ s.gone
theorem mapOk_of {s : MapM} (h : mcheck_m s = 0) : MapOk s := by
  unfold mcheck_m at h
  split at h
  · cases h
  rename_i c1
  split at h
  · cases h
  rename_i c2
  split at h
  · cases h
  rename_i c3
  rw [mcheck_c1_iff] at c1
  rw [mcheck_c2_iff, containsF_eq, containsF_eq] at c2
  rw [mcheck_c3_iff, mtags_eq, mrise_eq, mrise_eq, strictTag_iff, strictTag_iff] at c3
  have r1 : Rises (s.puts.map (·.tag)) := Classical.byContradiction fun q => c3 (.inl q)
  have r2 : Rises s.gone := Classical.byContradiction fun q => c3 (.inr q)
  obtain ⟨q5, l5⟩ := loop_all0 s.puts (fun p => mright_m p && !decide (p.tag ∈ s.gone)) 3 (mcheck_L1 s) (fun fuel i _ => by
    rw [mcheck_L1]
    split
    · have := mcheck_c4_iff s i
      rw [has_eq r2] at this
      by_cases x1 : mright_m (ix s.puts i) = true <;> by_cases x2 : (ix s.puts i).tag ∈ s.gone <;> simp [this, x1, x2]
    · rfl)
  rw [l5] at h
  refine ⟨by omega, by omega, ?_, r1, r2, fun a ha hm => ?_⟩
  · have : ¬ s.gone.any mnotTag_m = true := fun q => c2 (.inr q)
    have e : mnotTag_m = onotTag_m := rfl
    rw [e] at this; simpa using this
  · by_cases q : s.puts.all (fun p => mright_m p && !decide (p.tag ∈ s.gone)) = true
    · have := List.all_eq_true.1 q a ha
      simp [hm] at this
    · rw [if_neg q] at h; cases h
structure SetFine (s : SetM) : Prop where
  la : s.adds.length ≤ 4096
  lg : s.gone.length ≤ 4096
  ta : ∀ a ∈ s.adds, icheckTag_m a.tag = 0
  tg : ∀ t ∈ s.gone, icheckTag_m t = 0
  ra : Rises (s.adds.map (·.tag))
  rg : Rises s.gone
  el : ∀ a ∈ s.adds, oelem_m a.elem = true
  dj : ∀ a ∈ s.adds, a.tag ∉ s.gone
theorem ocheck_fine {s : SetM} (h : SetFine s) : ocheck_m s = 0 := by
  have n1 : ¬ ocheck_c1 s = true := by rw [ocheck_c1_iff]; have := h.la; have := h.lg; omega
  have n2 : ¬ ocheck_c2 s = true := by
    rw [ocheck_c2_iff, containsF_eq, containsF_eq]
    rintro (q | q)
    · obtain ⟨a, ha, h2⟩ := List.any_eq_true.1 q; unfold ocheck1_m onotTag_m at h2; rw [h.ta a ha] at h2; simp at h2
    · obtain ⟨a, ha, h2⟩ := List.any_eq_true.1 q; unfold onotTag_m at h2; rw [h.tg a ha] at h2; simp at h2
  have n3 : ¬ ocheck_c3 s = true := by
    rw [ocheck_c3_iff]
    rintro (q | q)
    · exact q ((strictTag_iff s.gone).2 h.rg)
    · rw [containsF_eq] at q; obtain ⟨a, ha, h2⟩ := List.any_eq_true.1 q
      unfold ocheck3_m at h2; rw [if_pos (h.el a ha)] at h2; unfold ogone_m at h2; rw [bs_mem h.rg] at h2; exact h.dj a ha (of_decide_eq_true h2)
  unfold ocheck_m
  rw [if_neg n1, if_neg n2, if_pos ((strictAdd_iff s.adds).2 h.ra), if_neg n3]
def dropG (g l : List TagM) : List TagM := compactTag_m (sortF icompareTag_m (concatTag_m g l))
theorem dropG_facts (g l : List TagM) : Rises (dropG g l) ∧ (∀ t, t ∈ dropG g l ↔ t ∈ g ∨ t ∈ l) ∧ (dropG g l).length ≤ g.length + l.length := by
  have h := sortTag_facts (concatTag_m g l)
  refine ⟨h.1, fun t => ?_, ?_⟩
  · unfold dropG; rw [h.2 t]; unfold concatTag_m; exact List.mem_append
  · unfold dropG; rw [compactTag_eq]
    have := dd_len (sortF icompareTag_m (concatTag_m g l))
    rw [sortF_len] at this
    unfold concatTag_m at this ⊢
    rw [List.length_append] at this; exact this
theorem odrop_fine {s : SetM} (h : SetFine s) {l : List TagM} (hl : ∀ t ∈ l, icheckTag_m t = 0) (hn : l.length ≤ 4096) (hg : s.gone.length + l.length ≤ 4096) :
    odrop_m s l = (⟨s.adds.filter (fun a => !decide (a.tag ∈ dropG s.gone l)), dropG s.gone l⟩, 0) := by
  have hf := dropG_facts s.gone l
  unfold odrop_m
  rw [if_pos (ocheck_fine h), if_neg (by omega), if_neg (by
    rw [containsF_eq]; intro q; obtain ⟨a, ha, h2⟩ := List.any_eq_true.1 q; unfold onotTag_m at h2; rw [hl a ha] at h2; simp at h2)]
  rw [show compactTag_m (sortF icompareTag_m (concatTag_m s.gone l)) = dropG s.gone l from rfl, if_neg (show ¬ 4096 < ((dropG s.gone l).length : Int) by omega)]
  unfold cloneAdd_m
  rw [deleteF_eq]
  have e : (fun x0 : AddM => !odrop1_m x0 ⟨[], dropG s.gone l⟩) = (fun a => !decide (a.tag ∈ dropG s.gone l)) := by
    funext a; unfold odrop1_m ogone_m; rw [bs_mem hf.1]
  show (SetM.mk (s.adds.filter (fun x0 => !odrop1_m x0 ⟨[], dropG s.gone l⟩)) (dropG s.gone l), (0 : Int)) = _
  rw [e]
structure MapFine (s : MapM) : Prop where
  la : s.puts.length ≤ 4096
  lg : s.gone.length ≤ 4096
  ta : ∀ a ∈ s.puts, icheckTag_m a.tag = 0
  tg : ∀ t ∈ s.gone, icheckTag_m t = 0
  ra : Rises (s.puts.map (·.tag))
  rg : Rises s.gone
  el : ∀ a ∈ s.puts, mright_m a = true
  dj : ∀ a ∈ s.puts, a.tag ∉ s.gone
theorem mcheck_fine {s : MapM} (h : MapFine s) : mcheck_m s = 0 := by
  have n1 : ¬ mcheck_c1 s = true := by rw [mcheck_c1_iff]; have := h.la; have := h.lg; omega
  have n2 : ¬ mcheck_c2 s = true := by
    rw [mcheck_c2_iff, containsF_eq, containsF_eq, mtags_eq]
    rintro (q | q)
    · obtain ⟨t, ht, h2⟩ := List.any_eq_true.1 q; obtain ⟨a, ha, rfl⟩ := List.mem_map.1 ht; unfold mnotTag_m at h2; rw [h.ta a ha] at h2; simp at h2
    · obtain ⟨a, ha, h2⟩ := List.any_eq_true.1 q; unfold mnotTag_m at h2; rw [h.tg a ha] at h2; simp at h2
  have n3 : ¬ mcheck_c3 s = true := by
    rw [mcheck_c3_iff, mtags_eq, mrise_eq, mrise_eq, strictTag_iff, strictTag_iff]
    rintro (q | q)
    · exact q h.ra
    · exact q h.rg
  obtain ⟨q5, l5⟩ := loop_all0 s.puts (fun p => mright_m p && !decide (p.tag ∈ s.gone)) 3 (mcheck_L1 s) (fun fuel i _ => by
    rw [mcheck_L1]
    split
    · have := mcheck_c4_iff s i
      rw [has_eq h.rg] at this
      by_cases x1 : mright_m (ix s.puts i) = true <;> by_cases x2 : (ix s.puts i).tag ∈ s.gone <;> simp [this, x1, x2]
    · rfl)
  unfold mcheck_m
  rw [if_neg n1, if_neg n2, if_neg n3, l5, if_pos (by
    rw [List.all_eq_true]; intro a ha; simp [h.el a ha, h.dj a ha])]
theorem mdrop_fine {s : MapM} (h : MapFine s) {l : List TagM} (hl : ∀ t ∈ l, icheckTag_m t = 0) (hn : l.length ≤ 4096) (hg : s.gone.length + l.length ≤ 4096) :
    mdrop_m s l = (⟨s.puts.filter (fun a => !decide (a.tag ∈ dropG s.gone l)), dropG s.gone l⟩, 0) := by
  have hf := dropG_facts s.gone l
  unfold mdrop_m
  rw [if_pos (mcheck_fine h), if_neg (by omega), if_neg (by
    rw [containsF_eq]; intro q; obtain ⟨a, ha, h2⟩ := List.any_eq_true.1 q; unfold mnotTag_m at h2; rw [hl a ha] at h2; simp at h2)]
  rw [show compactTag_m (sortF icompareTag_m (concatTag_m s.gone l)) = dropG s.gone l from rfl, if_neg (show ¬ 4096 < ((dropG s.gone l).length : Int) by omega)]
  unfold clonePut_m
  rw [deleteF_eq]
  have e : (fun x0 : PutM => !mdrop1_m x0 (dropG s.gone l)) = (fun a => !decide (a.tag ∈ dropG s.gone l)) := by
    funext a; unfold mdrop1_m; rw [has_eq hf.1]
  show (MapM.mk (s.puts.filter (fun x0 => !mdrop1_m x0 (dropG s.gone l))) (dropG s.gone l), (0 : Int)) = _
  rw [e]
end Go.Proofs.YtdckemiebnfjcaaGreatDoor
end

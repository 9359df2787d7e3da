/- Walks printed by gen2.py out of our own specifications: what the functions named below do. -/
import Derived.Test.YtikdpkhcegjmfaaT3
import Derived.Test.YtikdpkhcegjmfaaSv
set_option linter.unusedSimpArgs false
set_option linter.unusedVariables false
namespace Go.Proofs.Ytikdpkhcegjmfaa
open Go.RowKit

def works31_m  : Bool :=
  if ((psend_m ((pnew_m 3).1) (⟨0, 1, [97]⟩ : MsgV)).1) = 0 then
    if ((ppaint_m ((psend_m ((pnew_m 3).1) (⟨0, 1, [97]⟩ : MsgV)).2) 1 2).1) = 0 then
      if ((ptake_m ((ppaint_m ((psend_m ((pnew_m 3).1) (⟨0, 1, [97]⟩ : MsgV)).2) 1 2).2) 0).2.1) = 9 then
        if ((psend_m ((ptake_m ((ppaint_m ((psend_m ((pnew_m 3).1) (⟨0, 1, [97]⟩ : MsgV)).2) 1 2).2) 0).2.2) (⟨0, 1, []⟩ : MsgV)).1) = 9 then
          if (plost_m ((ptake_m ((ppaint_m ((psend_m ((ptake_m ((ppaint_m ((psend_m ((pnew_m 3).1) (⟨0, 1, [97]⟩ : MsgV)).2) 1 2).2) 0).2.2) (⟨0, 1, []⟩ : MsgV)).2) 0 2).2) 0).2.2)) = 1 then
            if ((ppaint_m ((psend_m ((ptake_m ((ppaint_m ((psend_m ((pnew_m 3).1) (⟨0, 1, [97]⟩ : MsgV)).2) 1 2).2) 0).2.2) (⟨0, 1, []⟩ : MsgV)).2) 0 2).1) = 0 then
              if ((ptake_m ((ppaint_m ((psend_m ((ptake_m ((ppaint_m ((psend_m ((pnew_m 3).1) (⟨0, 1, [97]⟩ : MsgV)).2) 1 2).2) 0).2.2) (⟨0, 1, []⟩ : MsgV)).2) 0 2).2) 0).2.1) = 0 then
                if (((ptake_m ((ppaint_m ((psend_m ((ptake_m ((ppaint_m ((psend_m ((pnew_m 3).1) (⟨0, 1, [97]⟩ : MsgV)).2) 1 2).2) 0).2.2) (⟨0, 1, []⟩ : MsgV)).2) 0 2).2) 0).1).s) = [97] then
                  if (plen_m ((ptake_m ((ppaint_m ((psend_m ((ptake_m ((ppaint_m ((psend_m ((pnew_m 3).1) (⟨0, 1, [97]⟩ : MsgV)).2) 1 2).2) 0).2.2) (⟨0, 1, []⟩ : MsgV)).2) 0 2).2) 0).2.2)) = 0 then
                    if ((psend_m ((ptake_m ((ppaint_m ((psend_m ((ptake_m ((ppaint_m ((psend_m ((pnew_m 3).1) (⟨0, 1, [97]⟩ : MsgV)).2) 1 2).2) 0).2.2) (⟨0, 1, []⟩ : MsgV)).2) 0 2).2) 0).2.2) (⟨1, 1, []⟩ : MsgV)).1) = 2 then
                      if (papart_m ((psend_m ((ptake_m ((ppaint_m ((psend_m ((ptake_m ((ppaint_m ((psend_m ((pnew_m 3).1) (⟨0, 1, [97]⟩ : MsgV)).2) 1 2).2) 0).2.2) (⟨0, 1, []⟩ : MsgV)).2) 0 2).2) 0).2.2) (⟨1, 1, []⟩ : MsgV)).2) 1 2) = true then
                        !(papart_m ((psend_m ((ptake_m ((ppaint_m ((psend_m ((ptake_m ((ppaint_m ((psend_m ((pnew_m 3).1) (⟨0, 1, [97]⟩ : MsgV)).2) 1 2).2) 0).2.2) (⟨0, 1, []⟩ : MsgV)).2) 0 2).2) 0).2.2) (⟨1, 1, []⟩ : MsgV)).2) 0 1)
                      else
                        false
                    else
                      false
                  else
                    false
                else
                  false
              else
                false
            else
              false
          else
            false
        else
          false
      else
        false
    else
      false
  else
    false

set_option maxRecDepth 20000 in
set_option maxHeartbeats 4000000 in
theorem works31_ok (X : List Nat) (w : World) (hX : Lo X w) :
    Fn Try.prog 33 [] w fun v w' => v = .bool works31_m ∧ Fr [] w w' := by
  refine Fn_of 93 Ty.en_33 Try.func33 rfl rfl rfl ?_
  dsimp only [argEnv]
  have st : St X w [] [] := St.nil (X := X) (w := w) hX
  have hF := Fr.refl ([]) w
  refine Wp_seq fun K1 hK1 => ?_
  refine Wp_region ?_
  refine Ls_y (wtd0 rfl) rfl rfl (y_assign rfl rfl) ?_
  refine Ls_nil (Th_n (hK1 _ _ ?_))
  refine Wp_seq fun K2 hK2 => ?_
  refine Wp_region ?_
  refine Ls_a (wtd0 rfl) ?_
  refine a_call rfl rfl rfl rfl (pnew_ok (keys (hOf st) ++ X) _ st.Lo 3 (by omega)) (fun v w1 ⟨g1, A1, c1, sp1, hv, hok1, hN1, hf, hkc1⟩ => ?_)
  subst hv
  have hfo1 : ∀ k ∈ keys [(some g1, Cl (ntC A1 c1 ((pnew_m 3).1)) 115), (blkOf A1, Cl (rowC ((pnew_m 3).1).row ++ sp1) 51)], k ∈ ([]) ∨ w.heap.size ≤ k := fun k hk => .inr (Nat.le_trans hF.size (hkc1 k hk))
  have st := st.callN hN1 hf hkc1
  have hF := hF.step0 hf
  have st : St X w1 [(some g1, Cl (ntC A1 c1 ((pnew_m 3).1)) 115), (blkOf A1, Cl (rowC ((pnew_m 3).1).row ++ sp1) 51)] [] := st
  refine Ls_y (wtd0 rfl) rfl rfl (y_move rfl rfl) ?_
  refine Ls_y (wtd0 rfl) rfl rfl (y_ext rfl rfl rfl) ?_
  refine Ls_y (wtd0 rfl) rfl rfl (y_ext rfl rfl rfl) ?_
  refine Ls_y (wtd0 rfl) rfl rfl (y_assign rfl rfl) ?_
  refine Ls_y (wtd0 rfl) rfl rfl (y_assign rfl rfl) ?_
  refine Ls_nil (Th_n (hK2 _ _ ?_))
  refine Wp_seq fun K3 hK3 => ?_
  refine Wp_seq fun K4 hK4 => ?_
  refine Wp_region ?_
  refine Ls_y (wtd0 rfl) rfl rfl (y_move rfl rfl) ?_
  refine Ls_y (wtd0 rfl) rfl rfl (y_ne rfl rfl rfl) ?_
  refine Ls_y (wtd0 rfl) rfl rfl (y_move rfl rfl) ?_
  have hd1 : ((pnew_m 3).2) = 0 := by
    rfl
  refine Ls_bool 17 rfl (fun hc1 => absurd hc1 (by first | (simp [hd1]; done) | (rw [hd1]; simp; done) | simpa using hd1)) (fun _ => ?_)
  refine Ls_y (wtdT rfl rfl rfl) rfl rfl (y_move rfl rfl) ?_
  refine Ls_y (wtdT rfl rfl rfl) rfl rfl (y_eqnp rfl rfl rfl Try.underlying39) ?_
  refine Ls_y (wtd0 rfl) rfl rfl (y_pick_f rfl rfl rfl) ?_
  refine Ls_nil (Th_n (hK4 _ _ ?_))
  refine Wp_cond_f rfl ?_
  refine Wp_skip (Th_n (hK3 _ _ ?_))
  refine Wp_seq fun K5 hK5 => ?_
  refine Wp_region ?_
  refine Ls_y (wtd0 rfl) rfl rfl (y_move rfl rfl) ?_
  refine Ls_y (wtd0 rfl) rfl rfl (y_build (cells := [_, _, _]) rfl rfl Ty.zc_51 Ty.ps_51 rfl) ?_
  refine Ls_a (wtd0 rfl) ?_
  refine a_call rfl rfl rfl rfl (psend_ok (keys (pickL (hOf st) []) ++ X) _ g1 A1 c1 sp1 ((pnew_m 3).1) hok1 (⟨0, 1, [97]⟩ : MsgV) (st.sub [] [0, 1] [] (by decide)) (of_decide_eq_true (by kernel_rfl))) (fun v w2 ⟨A2, c2, sp2, hv, hok2, hN2, hfO1, hkc2⟩ => ?_)
  subst hv
  have hfo2 : ∀ k ∈ keys [(some g1, Cl (ntC A2 c2 ((psend_m ((pnew_m 3).1) (⟨0, 1, [97]⟩ : MsgV)).2)) 115), (blkOf A2, Cl (rowC ((psend_m ((pnew_m 3).1) (⟨0, 1, [97]⟩ : MsgV)).2).row ++ sp2) 51)], k ∈ ([]) ∨ w.heap.size ≤ k := fun k hk => (hkc2 k (hk)).elim (fun h => (kc_app hfo1 (kc_n)) k h) (fun h => .inr (Nat.le_trans hF.size h))
  have st := st.callS [] [0, 1] (by decide) rfl hN2 hfO1 hkc2
  have hF := hF.step hfO1 (kc_app hfo1 (kc_n))
  have st : St X w2 [(some g1, Cl (ntC A2 c2 ((psend_m ((pnew_m 3).1) (⟨0, 1, [97]⟩ : MsgV)).2)) 115), (blkOf A2, Cl (rowC ((psend_m ((pnew_m 3).1) (⟨0, 1, [97]⟩ : MsgV)).2).row ++ sp2) 51)] [] := st
  refine Ls_y (wtd0 rfl) rfl rfl (y_assign rfl rfl) ?_
  refine Ls_nil (Th_n (hK5 _ _ ?_))
  refine Wp_seq fun K6 hK6 => ?_
  refine Wp_region ?_
  refine Ls_y (wtd0 rfl) rfl rfl (y_move rfl rfl) ?_
  refine Ls_a (wtd0 rfl) ?_
  refine a_call rfl rfl rfl rfl (ppaint_ok (keys (pickL (hOf st) []) ++ X) _ g1 A2 c2 sp2 ((psend_m ((pnew_m 3).1) (⟨0, 1, [97]⟩ : MsgV)).2) hok2 1 2 (st.sub [] [0, 1] [] (by decide))) (fun v w3 ⟨A3, c3, sp3, hv, hok3, hN3, hfO2, hkc3⟩ => ?_)
  subst hv
  have hfo3 : ∀ k ∈ keys [(some g1, Cl (ntC A3 c3 ((ppaint_m ((psend_m ((pnew_m 3).1) (⟨0, 1, [97]⟩ : MsgV)).2) 1 2).2)) 115), (blkOf A3, Cl (rowC ((ppaint_m ((psend_m ((pnew_m 3).1) (⟨0, 1, [97]⟩ : MsgV)).2) 1 2).2).row ++ sp3) 51)], k ∈ ([]) ∨ w.heap.size ≤ k := fun k hk => (hkc3 k (hk)).elim (fun h => (kc_app hfo2 (kc_n)) k h) (fun h => .inr (Nat.le_trans hF.size h))
  have st := st.callS [] [0, 1] (by decide) rfl hN3 hfO2 hkc3
  have hF := hF.step hfO2 (kc_app hfo2 (kc_n))
  have st : St X w3 [(some g1, Cl (ntC A3 c3 ((ppaint_m ((psend_m ((pnew_m 3).1) (⟨0, 1, [97]⟩ : MsgV)).2) 1 2).2)) 115), (blkOf A3, Cl (rowC ((ppaint_m ((psend_m ((pnew_m 3).1) (⟨0, 1, [97]⟩ : MsgV)).2) 1 2).2).row ++ sp3) 51)] [] := st
  refine Ls_y (wtd0 rfl) rfl rfl (y_assign rfl rfl) ?_
  refine Ls_nil (Th_n (hK6 _ _ ?_))
  refine Wp_seq fun K7 hK7 => ?_
  refine Wp_region ?_
  refine Ls_y (wtd0 rfl) rfl rfl (y_move rfl rfl) ?_
  refine Ls_a (wtd0 rfl) ?_
  refine a_call rfl rfl rfl rfl (ptake_ok (keys (pickL (hOf st) []) ++ X) _ g1 A3 c3 sp3 ((ppaint_m ((psend_m ((pnew_m 3).1) (⟨0, 1, [97]⟩ : MsgV)).2) 1 2).2) hok3 0 (st.sub [] [0, 1] [] (by decide))) (fun v w4 ⟨A4, c4, sp4, hv, hok4, hN4, hfO3, hkc4⟩ => ?_)
  subst hv
  have hfo4 : ∀ k ∈ keys [(some g1, Cl (ntC A4 c4 ((ptake_m ((ppaint_m ((psend_m ((pnew_m 3).1) (⟨0, 1, [97]⟩ : MsgV)).2) 1 2).2) 0).2.2)) 115), (blkOf A4, Cl (rowC ((ptake_m ((ppaint_m ((psend_m ((pnew_m 3).1) (⟨0, 1, [97]⟩ : MsgV)).2) 1 2).2) 0).2.2).row ++ sp4) 51)], k ∈ ([]) ∨ w.heap.size ≤ k := fun k hk => (hkc4 k (hk)).elim (fun h => (kc_app hfo3 (kc_n)) k h) (fun h => .inr (Nat.le_trans hF.size h))
  have st := st.callS [] [0, 1] (by decide) rfl hN4 hfO3 hkc4
  have hF := hF.step hfO3 (kc_app hfo3 (kc_n))
  have st : St X w4 [(some g1, Cl (ntC A4 c4 ((ptake_m ((ppaint_m ((psend_m ((pnew_m 3).1) (⟨0, 1, [97]⟩ : MsgV)).2) 1 2).2) 0).2.2)) 115), (blkOf A4, Cl (rowC ((ptake_m ((ppaint_m ((psend_m ((pnew_m 3).1) (⟨0, 1, [97]⟩ : MsgV)).2) 1 2).2) 0).2.2).row ++ sp4) 51)] [] := st
  refine Ls_y (wtd0 rfl) rfl rfl (y_move rfl rfl) ?_
  refine Ls_y (wtd0 rfl) rfl rfl (y_ext rfl rfl rfl) ?_
  refine Ls_y (wtd0 rfl) rfl rfl (y_ext rfl rfl rfl) ?_
  refine Ls_a (wtd0 rfl) ?_
  refine a_alloc rfl rfl rfl Ty.zc_51 st.hp (fun g2 w5 (hp : Hp w5 [_, _, (_, Cl [_, _, _] _)]) hf hg1 => ?_)
  have st : St X w5 [_, _, (_, Cl [_, _, _] _)] [] := st.push hp hf hg1
  have hg1 := Nat.le_trans hF.size hg1
  have hF := hF.step0 hf
  refine Ls_a (wtd0 rfl) ?_
  refine a_storew (i := 2) rfl rfl rfl rfl Ty.sz_51 rfl (by first | assumption | (simp [Value.oneCell', msgC]; done)) st.hp rfl rfl (fun w6 (hp : Hp w6 [_, _, (_, Cl [_, _, _] _)]) hf _ => ?_)
  have st : St X w6 [_, _, (_, Cl [_, _, _] _)] [] := st.set (i := 2) rfl hp hf
  have hF := hF.step hf (by intro y hy; simp only [List.mem_cons, List.not_mem_nil, or_false] at hy; subst hy; first | (exact Or.inr (by omega)) | (exact Or.inl (kin0 _ _)) | (exact Or.inl (by simp)))
  refine Ls_y (wtd0 rfl) rfl rfl (y_assign rfl rfl) ?_
  refine Ls_nil (Th_n (hK7 _ _ ?_))
  refine Wp_seq fun K8 hK8 => ?_
  refine Wp_region ?_
  refine Ls_y (wtd0 rfl) rfl rfl (y_move rfl rfl) ?_
  refine Ls_y (wtd0 rfl) rfl rfl (y_build (cells := [_, _, _]) rfl rfl Ty.zc_51 Ty.ps_51 rfl) ?_
  refine Ls_a (wtd0 rfl) ?_
  refine a_call rfl rfl rfl rfl (psend_ok (keys (pickL (hOf st) [2]) ++ X) _ g1 A4 c4 sp4 ((ptake_m ((ppaint_m ((psend_m ((pnew_m 3).1) (⟨0, 1, [97]⟩ : MsgV)).2) 1 2).2) 0).2.2) hok4 (⟨0, 1, []⟩ : MsgV) (st.sub [2] [0, 1] [] (by decide)) (of_decide_eq_true (by kernel_rfl))) (fun v w7 ⟨A5, c5, sp5, hv, hok5, hN5, hfO4, hkc5⟩ => ?_)
  subst hv
  have hfo5 : ∀ k ∈ keys [(some g1, Cl (ntC A5 c5 ((psend_m ((ptake_m ((ppaint_m ((psend_m ((pnew_m 3).1) (⟨0, 1, [97]⟩ : MsgV)).2) 1 2).2) 0).2.2) (⟨0, 1, []⟩ : MsgV)).2)) 115), (blkOf A5, Cl (rowC ((psend_m ((ptake_m ((ppaint_m ((psend_m ((pnew_m 3).1) (⟨0, 1, [97]⟩ : MsgV)).2) 1 2).2) 0).2.2) (⟨0, 1, []⟩ : MsgV)).2).row ++ sp5) 51)], k ∈ ([]) ∨ w.heap.size ≤ k := fun k hk => (hkc5 k (hk)).elim (fun h => (kc_app hfo4 (kc_n)) k h) (fun h => .inr (Nat.le_trans hF.size h))
  have st := st.callS [2] [0, 1] (by decide) rfl hN5 hfO4 hkc5
  have hF := hF.step hfO4 (kc_app hfo4 (kc_n))
  have st : St X w7 [(some g2, Cl [.int .i64 (((ptake_m ((ppaint_m ((psend_m ((pnew_m 3).1) (⟨0, 1, [97]⟩ : MsgV)).2) 1 2).2) 0).1).f), .int .i64 (((ptake_m ((ppaint_m ((psend_m ((pnew_m 3).1) (⟨0, 1, [97]⟩ : MsgV)).2) 1 2).2) 0).1).t), sv (((ptake_m ((ppaint_m ((psend_m ((pnew_m 3).1) (⟨0, 1, [97]⟩ : MsgV)).2) 1 2).2) 0).1).s)] 51), (some g1, Cl (ntC A5 c5 ((psend_m ((ptake_m ((ppaint_m ((psend_m ((pnew_m 3).1) (⟨0, 1, [97]⟩ : MsgV)).2) 1 2).2) 0).2.2) (⟨0, 1, []⟩ : MsgV)).2)) 115), (blkOf A5, Cl (rowC ((psend_m ((ptake_m ((ppaint_m ((psend_m ((pnew_m 3).1) (⟨0, 1, [97]⟩ : MsgV)).2) 1 2).2) 0).2.2) (⟨0, 1, []⟩ : MsgV)).2).row ++ sp5) 51)] [] := st
  refine Ls_y (wtd0 rfl) rfl rfl (y_assign rfl rfl) ?_
  refine Ls_nil (Th_n (hK8 _ _ ?_))
  refine Wp_seq fun K9 hK9 => ?_
  refine Wp_region ?_
  refine Ls_y (wtd0 rfl) rfl rfl (y_move rfl rfl) ?_
  refine Ls_a (wtd0 rfl) ?_
  refine a_call rfl rfl rfl rfl (ppaint_ok (keys (pickL (hOf st) [0]) ++ X) _ g1 A5 c5 sp5 ((psend_m ((ptake_m ((ppaint_m ((psend_m ((pnew_m 3).1) (⟨0, 1, [97]⟩ : MsgV)).2) 1 2).2) 0).2.2) (⟨0, 1, []⟩ : MsgV)).2) hok5 0 2 (st.sub [0] [1, 2] [] (by decide))) (fun v w8 ⟨A6, c6, sp6, hv, hok6, hN6, hfO5, hkc6⟩ => ?_)
  subst hv
  have hfo6 : ∀ k ∈ keys [(some g1, Cl (ntC A6 c6 ((ppaint_m ((psend_m ((ptake_m ((ppaint_m ((psend_m ((pnew_m 3).1) (⟨0, 1, [97]⟩ : MsgV)).2) 1 2).2) 0).2.2) (⟨0, 1, []⟩ : MsgV)).2) 0 2).2)) 115), (blkOf A6, Cl (rowC ((ppaint_m ((psend_m ((ptake_m ((ppaint_m ((psend_m ((pnew_m 3).1) (⟨0, 1, [97]⟩ : MsgV)).2) 1 2).2) 0).2.2) (⟨0, 1, []⟩ : MsgV)).2) 0 2).2).row ++ sp6) 51)], k ∈ ([]) ∨ w.heap.size ≤ k := fun k hk => (hkc6 k (hk)).elim (fun h => (kc_app hfo5 (kc_n)) k h) (fun h => .inr (Nat.le_trans hF.size h))
  have st := st.callS [0] [1, 2] (by decide) rfl hN6 hfO5 hkc6
  have hF := hF.step hfO5 (kc_app hfo5 (kc_n))
  have st : St X w8 [(some g2, Cl [.int .i64 (((ptake_m ((ppaint_m ((psend_m ((pnew_m 3).1) (⟨0, 1, [97]⟩ : MsgV)).2) 1 2).2) 0).1).f), .int .i64 (((ptake_m ((ppaint_m ((psend_m ((pnew_m 3).1) (⟨0, 1, [97]⟩ : MsgV)).2) 1 2).2) 0).1).t), sv (((ptake_m ((ppaint_m ((psend_m ((pnew_m 3).1) (⟨0, 1, [97]⟩ : MsgV)).2) 1 2).2) 0).1).s)] 51), (some g1, Cl (ntC A6 c6 ((ppaint_m ((psend_m ((ptake_m ((ppaint_m ((psend_m ((pnew_m 3).1) (⟨0, 1, [97]⟩ : MsgV)).2) 1 2).2) 0).2.2) (⟨0, 1, []⟩ : MsgV)).2) 0 2).2)) 115), (blkOf A6, Cl (rowC ((ppaint_m ((psend_m ((ptake_m ((ppaint_m ((psend_m ((pnew_m 3).1) (⟨0, 1, [97]⟩ : MsgV)).2) 1 2).2) 0).2.2) (⟨0, 1, []⟩ : MsgV)).2) 0 2).2).row ++ sp6) 51)] [] := st
  refine Ls_y (wtd0 rfl) rfl rfl (y_assign rfl rfl) ?_
  refine Ls_nil (Th_n (hK9 _ _ ?_))
  refine Wp_seq fun K10 hK10 => ?_
  refine Wp_region ?_
  refine Ls_y (wtd0 rfl) rfl rfl (y_move rfl rfl) ?_
  refine Ls_a (wtd0 rfl) ?_
  refine a_call rfl rfl rfl rfl (ptake_ok (keys (pickL (hOf st) [0]) ++ X) _ g1 A6 c6 sp6 ((ppaint_m ((psend_m ((ptake_m ((ppaint_m ((psend_m ((pnew_m 3).1) (⟨0, 1, [97]⟩ : MsgV)).2) 1 2).2) 0).2.2) (⟨0, 1, []⟩ : MsgV)).2) 0 2).2) hok6 0 (st.sub [0] [1, 2] [] (by decide))) (fun v w9 ⟨A7, c7, sp7, hv, hok7, hN7, hfO6, hkc7⟩ => ?_)
  subst hv
  have hfo7 : ∀ k ∈ keys [(some g1, Cl (ntC A7 c7 ((ptake_m ((ppaint_m ((psend_m ((ptake_m ((ppaint_m ((psend_m ((pnew_m 3).1) (⟨0, 1, [97]⟩ : MsgV)).2) 1 2).2) 0).2.2) (⟨0, 1, []⟩ : MsgV)).2) 0 2).2) 0).2.2)) 115), (blkOf A7, Cl (rowC ((ptake_m ((ppaint_m ((psend_m ((ptake_m ((ppaint_m ((psend_m ((pnew_m 3).1) (⟨0, 1, [97]⟩ : MsgV)).2) 1 2).2) 0).2.2) (⟨0, 1, []⟩ : MsgV)).2) 0 2).2) 0).2.2).row ++ sp7) 51)], k ∈ ([]) ∨ w.heap.size ≤ k := fun k hk => (hkc7 k (hk)).elim (fun h => (kc_app hfo6 (kc_n)) k h) (fun h => .inr (Nat.le_trans hF.size h))
  have st := st.callS [0] [1, 2] (by decide) rfl hN7 hfO6 hkc7
  have hF := hF.step hfO6 (kc_app hfo6 (kc_n))
  have st : St X w9 [(some g2, Cl [.int .i64 (((ptake_m ((ppaint_m ((psend_m ((pnew_m 3).1) (⟨0, 1, [97]⟩ : MsgV)).2) 1 2).2) 0).1).f), .int .i64 (((ptake_m ((ppaint_m ((psend_m ((pnew_m 3).1) (⟨0, 1, [97]⟩ : MsgV)).2) 1 2).2) 0).1).t), sv (((ptake_m ((ppaint_m ((psend_m ((pnew_m 3).1) (⟨0, 1, [97]⟩ : MsgV)).2) 1 2).2) 0).1).s)] 51), (some g1, Cl (ntC A7 c7 ((ptake_m ((ppaint_m ((psend_m ((ptake_m ((ppaint_m ((psend_m ((pnew_m 3).1) (⟨0, 1, [97]⟩ : MsgV)).2) 1 2).2) 0).2.2) (⟨0, 1, []⟩ : MsgV)).2) 0 2).2) 0).2.2)) 115), (blkOf A7, Cl (rowC ((ptake_m ((ppaint_m ((psend_m ((ptake_m ((ppaint_m ((psend_m ((pnew_m 3).1) (⟨0, 1, [97]⟩ : MsgV)).2) 1 2).2) 0).2.2) (⟨0, 1, []⟩ : MsgV)).2) 0 2).2) 0).2.2).row ++ sp7) 51)] [] := st
  refine Ls_y (wtd0 rfl) rfl rfl (y_move rfl rfl) ?_
  refine Ls_y (wtd0 rfl) rfl rfl (y_ext rfl rfl rfl) ?_
  refine Ls_y (wtd0 rfl) rfl rfl (y_ext rfl rfl rfl) ?_
  refine Ls_a (wtd0 rfl) ?_
  refine a_alloc rfl rfl rfl Ty.zc_51 st.hp (fun g3 w10 (hp : Hp w10 [(_, Cl [_, _, _] _), _, _, (_, Cl [_, _, _] _)]) hf hg2 => ?_)
  have st : St X w10 [(_, Cl [_, _, _] _), _, _, (_, Cl [_, _, _] _)] [] := st.push hp hf hg2
  have hg2 := Nat.le_trans hF.size hg2
  have hF := hF.step0 hf
  refine Ls_a (wtd0 rfl) ?_
  refine a_storew (i := 3) rfl rfl rfl rfl Ty.sz_51 rfl (by first | assumption | (simp [Value.oneCell', msgC]; done)) st.hp rfl rfl (fun w11 (hp : Hp w11 [(_, Cl [_, _, _] _), _, _, (_, Cl [_, _, _] _)]) hf _ => ?_)
  have st : St X w11 [(_, Cl [_, _, _] _), _, _, (_, Cl [_, _, _] _)] [] := st.set (i := 3) rfl hp hf
  have hF := hF.step hf (by intro y hy; simp only [List.mem_cons, List.not_mem_nil, or_false] at hy; subst hy; first | (exact Or.inr (by omega)) | (exact Or.inl (kin0 _ _)) | (exact Or.inl (by simp)))
  refine Ls_y (wtd0 rfl) rfl rfl (y_assign rfl rfl) ?_
  refine Ls_nil (Th_n (hK10 _ _ ?_))
  refine Wp_seq fun K11 hK11 => ?_
  refine Wp_region ?_
  refine Ls_y (wtd0 rfl) rfl rfl (y_move rfl rfl) ?_
  refine Ls_y (wtd0 rfl) rfl rfl (y_eq rfl rfl rfl) ?_
  refine Ls_y (wtd0 rfl) rfl rfl (y_move rfl rfl) ?_
  refine Ls_bool 43 rfl (fun hc2 => ?_) (fun hc2 => ?_)
  · have hc2 : ((psend_m ((pnew_m 3).1) (⟨0, 1, [97]⟩ : MsgV)).1) = 0 := by first | simpa using hc2 | (intro hh; rw [hh] at hc2; cases hc2)
    refine Ls_y (wtdT rfl rfl rfl) rfl rfl (y_move rfl rfl) ?_
    refine Ls_y (wtdT rfl rfl rfl) rfl rfl (y_eq rfl rfl rfl) ?_
    refine Ls_y (wtd0 rfl) rfl rfl (y_pick_t rfl rfl rfl) ?_
    refine Ls_y (wtd0 rfl) rfl rfl (y_move rfl rfl) ?_
    refine Ls_bool 47 rfl (fun hc3 => ?_) (fun hc3 => ?_)
    · have hc3 : ((ppaint_m ((psend_m ((pnew_m 3).1) (⟨0, 1, [97]⟩ : MsgV)).2) 1 2).1) = 0 := by first | simpa using hc3 | (intro hh; rw [hh] at hc3; cases hc3)
      refine Ls_y (wtdT rfl rfl rfl) rfl rfl (y_move rfl rfl) ?_
      refine Ls_y (wtdT rfl rfl rfl) rfl rfl (y_eq rfl rfl rfl) ?_
      refine Ls_y (wtd0 rfl) rfl rfl (y_pick_t rfl rfl rfl) ?_
      refine Ls_y (wtd0 rfl) rfl rfl (y_move rfl rfl) ?_
      refine Ls_bool 51 rfl (fun hc4 => ?_) (fun hc4 => ?_)
      · have hc4 : ((ptake_m ((ppaint_m ((psend_m ((pnew_m 3).1) (⟨0, 1, [97]⟩ : MsgV)).2) 1 2).2) 0).2.1) = 9 := by first | simpa using hc4 | (intro hh; rw [hh] at hc4; cases hc4)
        refine Ls_y (wtdT rfl rfl rfl) rfl rfl (y_move rfl rfl) ?_
        refine Ls_y (wtdT rfl rfl rfl) rfl rfl (y_eq rfl rfl rfl) ?_
        refine Ls_y (wtd0 rfl) rfl rfl (y_pick_t rfl rfl rfl) ?_
        refine Ls_y (wtd0 rfl) rfl rfl (y_move rfl rfl) ?_
        refine Ls_bool 55 rfl (fun hc5 => ?_) (fun hc5 => ?_)
        · have hc5 : ((psend_m ((ptake_m ((ppaint_m ((psend_m ((pnew_m 3).1) (⟨0, 1, [97]⟩ : MsgV)).2) 1 2).2) 0).2.2) (⟨0, 1, []⟩ : MsgV)).1) = 9 := by first | simpa using hc5 | (intro hh; rw [hh] at hc5; cases hc5)
          refine Ls_y (wtdT rfl rfl rfl) rfl rfl (y_move rfl rfl) ?_
          refine Ls_a (wtdT rfl rfl rfl) ?_
          refine a_call rfl rfl rfl rfl (plost_ok (keys (pickL (hOf st) [0, 3]) ++ X) _ g1 A7 c7 sp7 ((ptake_m ((ppaint_m ((psend_m ((ptake_m ((ppaint_m ((psend_m ((pnew_m 3).1) (⟨0, 1, [97]⟩ : MsgV)).2) 1 2).2) 0).2.2) (⟨0, 1, []⟩ : MsgV)).2) 0 2).2) 0).2.2) hok7 (st.sub [0, 3] [1, 2] [] (by decide))) (fun v w12 ⟨hv, hf⟩ => ?_)
          subst hv
          have st := st.keep0 hf
          have hF := hF.step0 hf
          have st : St X w12 [(some g2, Cl [.int .i64 (((ptake_m ((ppaint_m ((psend_m ((pnew_m 3).1) (⟨0, 1, [97]⟩ : MsgV)).2) 1 2).2) 0).1).f), .int .i64 (((ptake_m ((ppaint_m ((psend_m ((pnew_m 3).1) (⟨0, 1, [97]⟩ : MsgV)).2) 1 2).2) 0).1).t), sv (((ptake_m ((ppaint_m ((psend_m ((pnew_m 3).1) (⟨0, 1, [97]⟩ : MsgV)).2) 1 2).2) 0).1).s)] 51), (some g1, Cl (ntC A7 c7 ((ptake_m ((ppaint_m ((psend_m ((ptake_m ((ppaint_m ((psend_m ((pnew_m 3).1) (⟨0, 1, [97]⟩ : MsgV)).2) 1 2).2) 0).2.2) (⟨0, 1, []⟩ : MsgV)).2) 0 2).2) 0).2.2)) 115), (blkOf A7, Cl (rowC ((ptake_m ((ppaint_m ((psend_m ((ptake_m ((ppaint_m ((psend_m ((pnew_m 3).1) (⟨0, 1, [97]⟩ : MsgV)).2) 1 2).2) 0).2.2) (⟨0, 1, []⟩ : MsgV)).2) 0 2).2) 0).2.2).row ++ sp7) 51), (some g3, Cl [.int .i64 (((ptake_m ((ppaint_m ((psend_m ((ptake_m ((ppaint_m ((psend_m ((pnew_m 3).1) (⟨0, 1, [97]⟩ : MsgV)).2) 1 2).2) 0).2.2) (⟨0, 1, []⟩ : MsgV)).2) 0 2).2) 0).1).f), .int .i64 (((ptake_m ((ppaint_m ((psend_m ((ptake_m ((ppaint_m ((psend_m ((pnew_m 3).1) (⟨0, 1, [97]⟩ : MsgV)).2) 1 2).2) 0).2.2) (⟨0, 1, []⟩ : MsgV)).2) 0 2).2) 0).1).t), sv (((ptake_m ((ppaint_m ((psend_m ((ptake_m ((ppaint_m ((psend_m ((pnew_m 3).1) (⟨0, 1, [97]⟩ : MsgV)).2) 1 2).2) 0).2.2) (⟨0, 1, []⟩ : MsgV)).2) 0 2).2) 0).1).s)] 51)] [] := st
          refine Ls_y (wtdT rfl rfl rfl) rfl rfl (y_eq rfl rfl rfl) ?_
          refine Ls_y (wtd0 rfl) rfl rfl (y_pick_t rfl rfl rfl) ?_
          refine Ls_y (wtd0 rfl) rfl rfl (y_move rfl rfl) ?_
          refine Ls_bool 60 rfl (fun hc6 => ?_) (fun hc6 => ?_)
          · have hc6 : (plost_m ((ptake_m ((ppaint_m ((psend_m ((ptake_m ((ppaint_m ((psend_m ((pnew_m 3).1) (⟨0, 1, [97]⟩ : MsgV)).2) 1 2).2) 0).2.2) (⟨0, 1, []⟩ : MsgV)).2) 0 2).2) 0).2.2)) = 1 := by first | simpa using hc6 | (intro hh; rw [hh] at hc6; cases hc6)
            refine Ls_y (wtdT rfl rfl rfl) rfl rfl (y_move rfl rfl) ?_
            refine Ls_y (wtdT rfl rfl rfl) rfl rfl (y_eq rfl rfl rfl) ?_
            refine Ls_y (wtd0 rfl) rfl rfl (y_pick_t rfl rfl rfl) ?_
            refine Ls_y (wtd0 rfl) rfl rfl (y_move rfl rfl) ?_
            refine Ls_bool 64 rfl (fun hc7 => ?_) (fun hc7 => ?_)
            · have hc7 : ((ppaint_m ((psend_m ((ptake_m ((ppaint_m ((psend_m ((pnew_m 3).1) (⟨0, 1, [97]⟩ : MsgV)).2) 1 2).2) 0).2.2) (⟨0, 1, []⟩ : MsgV)).2) 0 2).1) = 0 := by first | simpa using hc7 | (intro hh; rw [hh] at hc7; cases hc7)
              refine Ls_y (wtdT rfl rfl rfl) rfl rfl (y_move rfl rfl) ?_
              refine Ls_y (wtdT rfl rfl rfl) rfl rfl (y_eq rfl rfl rfl) ?_
              refine Ls_y (wtd0 rfl) rfl rfl (y_pick_t rfl rfl rfl) ?_
              refine Ls_y (wtd0 rfl) rfl rfl (y_move rfl rfl) ?_
              refine Ls_bool 68 rfl (fun hc8 => ?_) (fun hc8 => ?_)
              · have hc8 : ((ptake_m ((ppaint_m ((psend_m ((ptake_m ((ppaint_m ((psend_m ((pnew_m 3).1) (⟨0, 1, [97]⟩ : MsgV)).2) 1 2).2) 0).2.2) (⟨0, 1, []⟩ : MsgV)).2) 0 2).2) 0).2.1) = 0 := by first | simpa using hc8 | (intro hh; rw [hh] at hc8; cases hc8)
                refine Ls_y (wtdT rfl rfl rfl) rfl rfl (y_fld rfl rfl Ty.fo_51_2) ?_
                refine Ls_y (wtdT rfl rfl rfl) rfl rfl (y_load (i := 3) rfl rfl Ty.pl_9 (fun _ e => e ▸ st.hp) rfl rfl) ?_
                refine Ls_y (wtdT rfl rfl rfl) rfl rfl (y_eqs rfl rfl rfl) ?_
                refine Ls_y (wtd0 rfl) rfl rfl (y_pick_t rfl rfl rfl) ?_
                refine Ls_y (wtd0 rfl) rfl rfl (y_move rfl rfl) ?_
                refine Ls_bool 73 rfl (fun hc9 => ?_) (fun hc9 => ?_)
                · have hc9 : (((ptake_m ((ppaint_m ((psend_m ((ptake_m ((ppaint_m ((psend_m ((pnew_m 3).1) (⟨0, 1, [97]⟩ : MsgV)).2) 1 2).2) 0).2.2) (⟨0, 1, []⟩ : MsgV)).2) 0 2).2) 0).1).s) = [97] := by first | simpa using hc9 | (intro hh; rw [hh] at hc9; cases hc9)
                  refine Ls_y (wtdT rfl rfl rfl) rfl rfl (y_move rfl rfl) ?_
                  refine Ls_a (wtdT rfl rfl rfl) ?_
                  refine a_call rfl rfl rfl rfl (plen_ok (keys (pickL (hOf st) [0, 3]) ++ X) _ g1 A7 c7 sp7 ((ptake_m ((ppaint_m ((psend_m ((ptake_m ((ppaint_m ((psend_m ((pnew_m 3).1) (⟨0, 1, [97]⟩ : MsgV)).2) 1 2).2) 0).2.2) (⟨0, 1, []⟩ : MsgV)).2) 0 2).2) 0).2.2) hok7 (st.sub [0, 3] [1, 2] [] (by decide))) (fun v w13 ⟨hv, hf⟩ => ?_)
                  subst hv
                  have st := st.keep0 hf
                  have hF := hF.step0 hf
                  have st : St X w13 [(some g2, Cl [.int .i64 (((ptake_m ((ppaint_m ((psend_m ((pnew_m 3).1) (⟨0, 1, [97]⟩ : MsgV)).2) 1 2).2) 0).1).f), .int .i64 (((ptake_m ((ppaint_m ((psend_m ((pnew_m 3).1) (⟨0, 1, [97]⟩ : MsgV)).2) 1 2).2) 0).1).t), sv (((ptake_m ((ppaint_m ((psend_m ((pnew_m 3).1) (⟨0, 1, [97]⟩ : MsgV)).2) 1 2).2) 0).1).s)] 51), (some g1, Cl (ntC A7 c7 ((ptake_m ((ppaint_m ((psend_m ((ptake_m ((ppaint_m ((psend_m ((pnew_m 3).1) (⟨0, 1, [97]⟩ : MsgV)).2) 1 2).2) 0).2.2) (⟨0, 1, []⟩ : MsgV)).2) 0 2).2) 0).2.2)) 115), (blkOf A7, Cl (rowC ((ptake_m ((ppaint_m ((psend_m ((ptake_m ((ppaint_m ((psend_m ((pnew_m 3).1) (⟨0, 1, [97]⟩ : MsgV)).2) 1 2).2) 0).2.2) (⟨0, 1, []⟩ : MsgV)).2) 0 2).2) 0).2.2).row ++ sp7) 51), (some g3, Cl [.int .i64 (((ptake_m ((ppaint_m ((psend_m ((ptake_m ((ppaint_m ((psend_m ((pnew_m 3).1) (⟨0, 1, [97]⟩ : MsgV)).2) 1 2).2) 0).2.2) (⟨0, 1, []⟩ : MsgV)).2) 0 2).2) 0).1).f), .int .i64 (((ptake_m ((ppaint_m ((psend_m ((ptake_m ((ppaint_m ((psend_m ((pnew_m 3).1) (⟨0, 1, [97]⟩ : MsgV)).2) 1 2).2) 0).2.2) (⟨0, 1, []⟩ : MsgV)).2) 0 2).2) 0).1).t), sv (((ptake_m ((ppaint_m ((psend_m ((ptake_m ((ppaint_m ((psend_m ((pnew_m 3).1) (⟨0, 1, [97]⟩ : MsgV)).2) 1 2).2) 0).2.2) (⟨0, 1, []⟩ : MsgV)).2) 0 2).2) 0).1).s)] 51)] [] := st
                  refine Ls_y (wtdT rfl rfl rfl) rfl rfl (y_eq rfl rfl rfl) ?_
                  refine Ls_y (wtd0 rfl) rfl rfl (y_pick_t rfl rfl rfl) ?_
                  refine Ls_y (wtd0 rfl) rfl rfl (y_move rfl rfl) ?_
                  refine Ls_bool 78 rfl (fun hc10 => ?_) (fun hc10 => ?_)
                  · have hc10 : (plen_m ((ptake_m ((ppaint_m ((psend_m ((ptake_m ((ppaint_m ((psend_m ((pnew_m 3).1) (⟨0, 1, [97]⟩ : MsgV)).2) 1 2).2) 0).2.2) (⟨0, 1, []⟩ : MsgV)).2) 0 2).2) 0).2.2)) = 0 := by first | simpa using hc10 | (intro hh; rw [hh] at hc10; cases hc10)
                    refine Ls_y (wtdT rfl rfl rfl) rfl rfl (y_move rfl rfl) ?_
                    refine Ls_y (wtdT rfl rfl rfl) rfl rfl (y_build (cells := [_, _, _]) rfl rfl Ty.zc_51 Ty.ps_51 rfl) ?_
                    refine Ls_a (wtdT rfl rfl rfl) ?_
                    refine a_call rfl rfl rfl rfl (psend_ok (keys (pickL (hOf st) [0, 3]) ++ X) _ g1 A7 c7 sp7 ((ptake_m ((ppaint_m ((psend_m ((ptake_m ((ppaint_m ((psend_m ((pnew_m 3).1) (⟨0, 1, [97]⟩ : MsgV)).2) 1 2).2) 0).2.2) (⟨0, 1, []⟩ : MsgV)).2) 0 2).2) 0).2.2) hok7 (⟨1, 1, []⟩ : MsgV) (st.sub [0, 3] [1, 2] [] (by decide)) (of_decide_eq_true (by kernel_rfl))) (fun v w14 ⟨A8, c8, sp8, hv, hok8, hN8, hfO7, hkc8⟩ => ?_)
                    subst hv
                    have hfo8 : ∀ k ∈ keys [(some g1, Cl (ntC A8 c8 ((psend_m ((ptake_m ((ppaint_m ((psend_m ((ptake_m ((ppaint_m ((psend_m ((pnew_m 3).1) (⟨0, 1, [97]⟩ : MsgV)).2) 1 2).2) 0).2.2) (⟨0, 1, []⟩ : MsgV)).2) 0 2).2) 0).2.2) (⟨1, 1, []⟩ : MsgV)).2)) 115), (blkOf A8, Cl (rowC ((psend_m ((ptake_m ((ppaint_m ((psend_m ((ptake_m ((ppaint_m ((psend_m ((pnew_m 3).1) (⟨0, 1, [97]⟩ : MsgV)).2) 1 2).2) 0).2.2) (⟨0, 1, []⟩ : MsgV)).2) 0 2).2) 0).2.2) (⟨1, 1, []⟩ : MsgV)).2).row ++ sp8) 51)], k ∈ ([]) ∨ w.heap.size ≤ k := fun k hk => (hkc8 k (hk)).elim (fun h => (kc_app hfo7 (kc_n)) k h) (fun h => .inr (Nat.le_trans hF.size h))
                    have st := st.callS [0, 3] [1, 2] (by decide) rfl hN8 hfO7 hkc8
                    have hF := hF.step hfO7 (kc_app hfo7 (kc_n))
                    have st : St X w14 [(some g2, Cl [.int .i64 (((ptake_m ((ppaint_m ((psend_m ((pnew_m 3).1) (⟨0, 1, [97]⟩ : MsgV)).2) 1 2).2) 0).1).f), .int .i64 (((ptake_m ((ppaint_m ((psend_m ((pnew_m 3).1) (⟨0, 1, [97]⟩ : MsgV)).2) 1 2).2) 0).1).t), sv (((ptake_m ((ppaint_m ((psend_m ((pnew_m 3).1) (⟨0, 1, [97]⟩ : MsgV)).2) 1 2).2) 0).1).s)] 51), (some g3, Cl [.int .i64 (((ptake_m ((ppaint_m ((psend_m ((ptake_m ((ppaint_m ((psend_m ((pnew_m 3).1) (⟨0, 1, [97]⟩ : MsgV)).2) 1 2).2) 0).2.2) (⟨0, 1, []⟩ : MsgV)).2) 0 2).2) 0).1).f), .int .i64 (((ptake_m ((ppaint_m ((psend_m ((ptake_m ((ppaint_m ((psend_m ((pnew_m 3).1) (⟨0, 1, [97]⟩ : MsgV)).2) 1 2).2) 0).2.2) (⟨0, 1, []⟩ : MsgV)).2) 0 2).2) 0).1).t), sv (((ptake_m ((ppaint_m ((psend_m ((ptake_m ((ppaint_m ((psend_m ((pnew_m 3).1) (⟨0, 1, [97]⟩ : MsgV)).2) 1 2).2) 0).2.2) (⟨0, 1, []⟩ : MsgV)).2) 0 2).2) 0).1).s)] 51), (some g1, Cl (ntC A8 c8 ((psend_m ((ptake_m ((ppaint_m ((psend_m ((ptake_m ((ppaint_m ((psend_m ((pnew_m 3).1) (⟨0, 1, [97]⟩ : MsgV)).2) 1 2).2) 0).2.2) (⟨0, 1, []⟩ : MsgV)).2) 0 2).2) 0).2.2) (⟨1, 1, []⟩ : MsgV)).2)) 115), (blkOf A8, Cl (rowC ((psend_m ((ptake_m ((ppaint_m ((psend_m ((ptake_m ((ppaint_m ((psend_m ((pnew_m 3).1) (⟨0, 1, [97]⟩ : MsgV)).2) 1 2).2) 0).2.2) (⟨0, 1, []⟩ : MsgV)).2) 0 2).2) 0).2.2) (⟨1, 1, []⟩ : MsgV)).2).row ++ sp8) 51)] [] := st
                    refine Ls_y (wtdT rfl rfl rfl) rfl rfl (y_eq rfl rfl rfl) ?_
                    refine Ls_y (wtd0 rfl) rfl rfl (y_pick_t rfl rfl rfl) ?_
                    refine Ls_y (wtd0 rfl) rfl rfl (y_move rfl rfl) ?_
                    refine Ls_bool 84 rfl (fun hc11 => ?_) (fun hc11 => ?_)
                    · have hc11 : ((psend_m ((ptake_m ((ppaint_m ((psend_m ((ptake_m ((ppaint_m ((psend_m ((pnew_m 3).1) (⟨0, 1, [97]⟩ : MsgV)).2) 1 2).2) 0).2.2) (⟨0, 1, []⟩ : MsgV)).2) 0 2).2) 0).2.2) (⟨1, 1, []⟩ : MsgV)).1) = 2 := by first | simpa using hc11 | (intro hh; rw [hh] at hc11; cases hc11)
                      refine Ls_y (wtdT rfl rfl rfl) rfl rfl (y_move rfl rfl) ?_
                      refine Ls_a (wtdT rfl rfl rfl) ?_
                      refine a_call rfl rfl rfl rfl (papart_ok (keys (pickL (hOf st) [0, 1]) ++ X) _ g1 A8 c8 sp8 ((psend_m ((ptake_m ((ppaint_m ((psend_m ((ptake_m ((ppaint_m ((psend_m ((pnew_m 3).1) (⟨0, 1, [97]⟩ : MsgV)).2) 1 2).2) 0).2.2) (⟨0, 1, []⟩ : MsgV)).2) 0 2).2) 0).2.2) (⟨1, 1, []⟩ : MsgV)).2) hok8 1 2 (st.sub [0, 1] [2, 3] [] (by decide))) (fun v w15 ⟨hv, hf⟩ => ?_)
                      subst hv
                      have st := st.keep0 hf
                      have hF := hF.step0 hf
                      have st : St X w15 [(some g2, Cl [.int .i64 (((ptake_m ((ppaint_m ((psend_m ((pnew_m 3).1) (⟨0, 1, [97]⟩ : MsgV)).2) 1 2).2) 0).1).f), .int .i64 (((ptake_m ((ppaint_m ((psend_m ((pnew_m 3).1) (⟨0, 1, [97]⟩ : MsgV)).2) 1 2).2) 0).1).t), sv (((ptake_m ((ppaint_m ((psend_m ((pnew_m 3).1) (⟨0, 1, [97]⟩ : MsgV)).2) 1 2).2) 0).1).s)] 51), (some g3, Cl [.int .i64 (((ptake_m ((ppaint_m ((psend_m ((ptake_m ((ppaint_m ((psend_m ((pnew_m 3).1) (⟨0, 1, [97]⟩ : MsgV)).2) 1 2).2) 0).2.2) (⟨0, 1, []⟩ : MsgV)).2) 0 2).2) 0).1).f), .int .i64 (((ptake_m ((ppaint_m ((psend_m ((ptake_m ((ppaint_m ((psend_m ((pnew_m 3).1) (⟨0, 1, [97]⟩ : MsgV)).2) 1 2).2) 0).2.2) (⟨0, 1, []⟩ : MsgV)).2) 0 2).2) 0).1).t), sv (((ptake_m ((ppaint_m ((psend_m ((ptake_m ((ppaint_m ((psend_m ((pnew_m 3).1) (⟨0, 1, [97]⟩ : MsgV)).2) 1 2).2) 0).2.2) (⟨0, 1, []⟩ : MsgV)).2) 0 2).2) 0).1).s)] 51), (some g1, Cl (ntC A8 c8 ((psend_m ((ptake_m ((ppaint_m ((psend_m ((ptake_m ((ppaint_m ((psend_m ((pnew_m 3).1) (⟨0, 1, [97]⟩ : MsgV)).2) 1 2).2) 0).2.2) (⟨0, 1, []⟩ : MsgV)).2) 0 2).2) 0).2.2) (⟨1, 1, []⟩ : MsgV)).2)) 115), (blkOf A8, Cl (rowC ((psend_m ((ptake_m ((ppaint_m ((psend_m ((ptake_m ((ppaint_m ((psend_m ((pnew_m 3).1) (⟨0, 1, [97]⟩ : MsgV)).2) 1 2).2) 0).2.2) (⟨0, 1, []⟩ : MsgV)).2) 0 2).2) 0).2.2) (⟨1, 1, []⟩ : MsgV)).2).row ++ sp8) 51)] [] := st
                      refine Ls_y (wtd0 rfl) rfl rfl (y_pick_t rfl rfl rfl) ?_
                      refine Ls_y (wtd0 rfl) rfl rfl (y_move rfl rfl) ?_
                      refine Ls_bool 88 rfl (fun hc12 => ?_) (fun hc12 => ?_)
                      · have hc12 : (papart_m ((psend_m ((ptake_m ((ppaint_m ((psend_m ((ptake_m ((ppaint_m ((psend_m ((pnew_m 3).1) (⟨0, 1, [97]⟩ : MsgV)).2) 1 2).2) 0).2.2) (⟨0, 1, []⟩ : MsgV)).2) 0 2).2) 0).2.2) (⟨1, 1, []⟩ : MsgV)).2) 1 2) = true := by first | simpa using hc12 | (intro hh; rw [hh] at hc12; cases hc12)
                        refine Ls_y (wtdT rfl rfl rfl) rfl rfl (y_move rfl rfl) ?_
                        refine Ls_a (wtdT rfl rfl rfl) ?_
                        refine a_call rfl rfl rfl rfl (papart_ok (keys (pickL (hOf st) [0, 1]) ++ X) _ g1 A8 c8 sp8 ((psend_m ((ptake_m ((ppaint_m ((psend_m ((ptake_m ((ppaint_m ((psend_m ((pnew_m 3).1) (⟨0, 1, [97]⟩ : MsgV)).2) 1 2).2) 0).2.2) (⟨0, 1, []⟩ : MsgV)).2) 0 2).2) 0).2.2) (⟨1, 1, []⟩ : MsgV)).2) hok8 0 1 (st.sub [0, 1] [2, 3] [] (by decide))) (fun v w16 ⟨hv, hf⟩ => ?_)
                        subst hv
                        have st := st.keep0 hf
                        have hF := hF.step0 hf
                        have st : St X w16 [(some g2, Cl [.int .i64 (((ptake_m ((ppaint_m ((psend_m ((pnew_m 3).1) (⟨0, 1, [97]⟩ : MsgV)).2) 1 2).2) 0).1).f), .int .i64 (((ptake_m ((ppaint_m ((psend_m ((pnew_m 3).1) (⟨0, 1, [97]⟩ : MsgV)).2) 1 2).2) 0).1).t), sv (((ptake_m ((ppaint_m ((psend_m ((pnew_m 3).1) (⟨0, 1, [97]⟩ : MsgV)).2) 1 2).2) 0).1).s)] 51), (some g3, Cl [.int .i64 (((ptake_m ((ppaint_m ((psend_m ((ptake_m ((ppaint_m ((psend_m ((pnew_m 3).1) (⟨0, 1, [97]⟩ : MsgV)).2) 1 2).2) 0).2.2) (⟨0, 1, []⟩ : MsgV)).2) 0 2).2) 0).1).f), .int .i64 (((ptake_m ((ppaint_m ((psend_m ((ptake_m ((ppaint_m ((psend_m ((pnew_m 3).1) (⟨0, 1, [97]⟩ : MsgV)).2) 1 2).2) 0).2.2) (⟨0, 1, []⟩ : MsgV)).2) 0 2).2) 0).1).t), sv (((ptake_m ((ppaint_m ((psend_m ((ptake_m ((ppaint_m ((psend_m ((pnew_m 3).1) (⟨0, 1, [97]⟩ : MsgV)).2) 1 2).2) 0).2.2) (⟨0, 1, []⟩ : MsgV)).2) 0 2).2) 0).1).s)] 51), (some g1, Cl (ntC A8 c8 ((psend_m ((ptake_m ((ppaint_m ((psend_m ((ptake_m ((ppaint_m ((psend_m ((pnew_m 3).1) (⟨0, 1, [97]⟩ : MsgV)).2) 1 2).2) 0).2.2) (⟨0, 1, []⟩ : MsgV)).2) 0 2).2) 0).2.2) (⟨1, 1, []⟩ : MsgV)).2)) 115), (blkOf A8, Cl (rowC ((psend_m ((ptake_m ((ppaint_m ((psend_m ((ptake_m ((ppaint_m ((psend_m ((pnew_m 3).1) (⟨0, 1, [97]⟩ : MsgV)).2) 1 2).2) 0).2.2) (⟨0, 1, []⟩ : MsgV)).2) 0 2).2) 0).2.2) (⟨1, 1, []⟩ : MsgV)).2).row ++ sp8) 51)] [] := st
                        refine Ls_y (wtdT rfl rfl rfl) rfl rfl (y_not rfl rfl) ?_
                        refine Ls_y (wtd0 rfl) rfl rfl (y_pick_t rfl rfl rfl) ?_
                        refine Ls_y (wtd0 rfl) rfl rfl (y_assign rfl rfl) ?_
                        refine Ls_nil (Th_n (hK11 _ _ ?_))
                        refine Wp_ret (Fq_ret (Res1 rfl rfl) ?_)
                        have he1 : works31_m = (!(papart_m ((psend_m ((ptake_m ((ppaint_m ((psend_m ((ptake_m ((ppaint_m ((psend_m ((pnew_m 3).1) (⟨0, 1, [97]⟩ : MsgV)).2) 1 2).2) 0).2.2) (⟨0, 1, []⟩ : MsgV)).2) 0 2).2) 0).2.2) (⟨1, 1, []⟩ : MsgV)).2) 0 1)) := by
                          unfold works31_m
                          all_goals rewrite [if_pos hc2]
                          all_goals rewrite [if_pos hc3]
                          all_goals rewrite [if_pos hc4]
                          all_goals rewrite [if_pos hc5]
                          all_goals rewrite [if_pos hc6]
                          all_goals rewrite [if_pos hc7]
                          all_goals rewrite [if_pos hc8]
                          all_goals rewrite [if_pos hc9]
                          all_goals rewrite [if_pos hc10]
                          all_goals rewrite [if_pos hc11]
                          all_goals rewrite [if_pos hc12]
                          all_goals rfl
                        rewrite [he1]
                        exact ⟨rfl, hF⟩
                      · have hc12 : ¬ ((papart_m ((psend_m ((ptake_m ((ppaint_m ((psend_m ((ptake_m ((ppaint_m ((psend_m ((pnew_m 3).1) (⟨0, 1, [97]⟩ : MsgV)).2) 1 2).2) 0).2.2) (⟨0, 1, []⟩ : MsgV)).2) 0 2).2) 0).2.2) (⟨1, 1, []⟩ : MsgV)).2) 1 2) = true) := by first | simpa using hc12 | (intro hh; rw [hh] at hc12; cases hc12)
                        refine Ls_s (wtdF rfl rfl rfl) rfl rfl ?_
                        refine Ls_s (wtdF rfl rfl rfl) rfl rfl ?_
                        refine Ls_s (wtdF rfl rfl rfl) rfl rfl ?_
                        refine Ls_y (wtd0 rfl) rfl rfl (y_pick_f rfl rfl rfl) ?_
                        refine Ls_y (wtd0 rfl) rfl rfl (y_assign rfl rfl) ?_
                        refine Ls_nil (Th_n (hK11 _ _ ?_))
                        refine Wp_ret (Fq_ret (Res1 rfl rfl) ?_)
                        have he2 : works31_m = false := by
                          unfold works31_m
                          all_goals rewrite [if_pos hc2]
                          all_goals rewrite [if_pos hc3]
                          all_goals rewrite [if_pos hc4]
                          all_goals rewrite [if_pos hc5]
                          all_goals rewrite [if_pos hc6]
                          all_goals rewrite [if_pos hc7]
                          all_goals rewrite [if_pos hc8]
                          all_goals rewrite [if_pos hc9]
                          all_goals rewrite [if_pos hc10]
                          all_goals rewrite [if_pos hc11]
                          all_goals rewrite [if_neg hc12]
                          all_goals rfl
                        rewrite [he2]
                        exact ⟨rfl, hF⟩
                    · have hc11 : ¬ (((psend_m ((ptake_m ((ppaint_m ((psend_m ((ptake_m ((ppaint_m ((psend_m ((pnew_m 3).1) (⟨0, 1, [97]⟩ : MsgV)).2) 1 2).2) 0).2.2) (⟨0, 1, []⟩ : MsgV)).2) 0 2).2) 0).2.2) (⟨1, 1, []⟩ : MsgV)).1) = 2) := by first | simpa using hc11 | (intro hh; rw [hh] at hc11; cases hc11)
                      refine Ls_s (wtdF rfl rfl rfl) rfl rfl ?_
                      refine Ls_s (wtdF rfl rfl rfl) rfl rfl ?_
                      refine Ls_y (wtd0 rfl) rfl rfl (y_pick_f rfl rfl rfl) ?_
                      refine Ls_y (wtd0 rfl) rfl rfl (y_move rfl rfl) ?_
                      refine Ls_s (wtdF rfl rfl rfl) rfl rfl ?_
                      refine Ls_s (wtdF rfl rfl rfl) rfl rfl ?_
                      refine Ls_s (wtdF rfl rfl rfl) rfl rfl ?_
                      refine Ls_y (wtd0 rfl) rfl rfl (y_pick_f rfl rfl rfl) ?_
                      refine Ls_y (wtd0 rfl) rfl rfl (y_assign rfl rfl) ?_
                      refine Ls_nil (Th_n (hK11 _ _ ?_))
                      refine Wp_ret (Fq_ret (Res1 rfl rfl) ?_)
                      have he3 : works31_m = false := by
                        unfold works31_m
                        all_goals rewrite [if_pos hc2]
                        all_goals rewrite [if_pos hc3]
                        all_goals rewrite [if_pos hc4]
                        all_goals rewrite [if_pos hc5]
                        all_goals rewrite [if_pos hc6]
                        all_goals rewrite [if_pos hc7]
                        all_goals rewrite [if_pos hc8]
                        all_goals rewrite [if_pos hc9]
                        all_goals rewrite [if_pos hc10]
                        all_goals rewrite [if_neg hc11]
                        all_goals rfl
                      rewrite [he3]
                      exact ⟨rfl, hF⟩
                  · have hc10 : ¬ ((plen_m ((ptake_m ((ppaint_m ((psend_m ((ptake_m ((ppaint_m ((psend_m ((pnew_m 3).1) (⟨0, 1, [97]⟩ : MsgV)).2) 1 2).2) 0).2.2) (⟨0, 1, []⟩ : MsgV)).2) 0 2).2) 0).2.2)) = 0) := by first | simpa using hc10 | (intro hh; rw [hh] at hc10; cases hc10)
                    refine Ls_s (wtdF rfl rfl rfl) rfl rfl ?_
                    refine Ls_s (wtdF rfl rfl rfl) rfl rfl ?_
                    refine Ls_s (wtdF rfl rfl rfl) rfl rfl ?_
                    refine Ls_s (wtdF rfl rfl rfl) rfl rfl ?_
                    refine Ls_y (wtd0 rfl) rfl rfl (y_pick_f rfl rfl rfl) ?_
                    refine Ls_y (wtd0 rfl) rfl rfl (y_move rfl rfl) ?_
                    refine Ls_s (wtdF rfl rfl rfl) rfl rfl ?_
                    refine Ls_s (wtdF rfl rfl rfl) rfl rfl ?_
                    refine Ls_y (wtd0 rfl) rfl rfl (y_pick_f rfl rfl rfl) ?_
                    refine Ls_y (wtd0 rfl) rfl rfl (y_move rfl rfl) ?_
                    refine Ls_s (wtdF rfl rfl rfl) rfl rfl ?_
                    refine Ls_s (wtdF rfl rfl rfl) rfl rfl ?_
                    refine Ls_s (wtdF rfl rfl rfl) rfl rfl ?_
                    refine Ls_y (wtd0 rfl) rfl rfl (y_pick_f rfl rfl rfl) ?_
                    refine Ls_y (wtd0 rfl) rfl rfl (y_assign rfl rfl) ?_
                    refine Ls_nil (Th_n (hK11 _ _ ?_))
                    refine Wp_ret (Fq_ret (Res1 rfl rfl) ?_)
                    have he4 : works31_m = false := by
                      unfold works31_m
                      all_goals rewrite [if_pos hc2]
                      all_goals rewrite [if_pos hc3]
                      all_goals rewrite [if_pos hc4]
                      all_goals rewrite [if_pos hc5]
                      all_goals rewrite [if_pos hc6]
                      all_goals rewrite [if_pos hc7]
                      all_goals rewrite [if_pos hc8]
                      all_goals rewrite [if_pos hc9]
                      all_goals rewrite [if_neg hc10]
                      all_goals rfl
                    rewrite [he4]
                    exact ⟨rfl, hF⟩
                · have hc9 : ¬ ((((ptake_m ((ppaint_m ((psend_m ((ptake_m ((ppaint_m ((psend_m ((pnew_m 3).1) (⟨0, 1, [97]⟩ : MsgV)).2) 1 2).2) 0).2.2) (⟨0, 1, []⟩ : MsgV)).2) 0 2).2) 0).1).s) = [97]) := by first | simpa using hc9 | (intro hh; rw [hh] at hc9; cases hc9)
                  refine Ls_s (wtdF rfl rfl rfl) rfl rfl ?_
                  refine Ls_s (wtdF rfl rfl rfl) rfl rfl ?_
                  refine Ls_s (wtdF rfl rfl rfl) rfl rfl ?_
                  refine Ls_y (wtd0 rfl) rfl rfl (y_pick_f rfl rfl rfl) ?_
                  refine Ls_y (wtd0 rfl) rfl rfl (y_move rfl rfl) ?_
                  refine Ls_s (wtdF rfl rfl rfl) rfl rfl ?_
                  refine Ls_s (wtdF rfl rfl rfl) rfl rfl ?_
                  refine Ls_s (wtdF rfl rfl rfl) rfl rfl ?_
                  refine Ls_s (wtdF rfl rfl rfl) rfl rfl ?_
                  refine Ls_y (wtd0 rfl) rfl rfl (y_pick_f rfl rfl rfl) ?_
                  refine Ls_y (wtd0 rfl) rfl rfl (y_move rfl rfl) ?_
                  refine Ls_s (wtdF rfl rfl rfl) rfl rfl ?_
                  refine Ls_s (wtdF rfl rfl rfl) rfl rfl ?_
                  refine Ls_y (wtd0 rfl) rfl rfl (y_pick_f rfl rfl rfl) ?_
                  refine Ls_y (wtd0 rfl) rfl rfl (y_move rfl rfl) ?_
                  refine Ls_s (wtdF rfl rfl rfl) rfl rfl ?_
                  refine Ls_s (wtdF rfl rfl rfl) rfl rfl ?_
                  refine Ls_s (wtdF rfl rfl rfl) rfl rfl ?_
                  refine Ls_y (wtd0 rfl) rfl rfl (y_pick_f rfl rfl rfl) ?_
                  refine Ls_y (wtd0 rfl) rfl rfl (y_assign rfl rfl) ?_
                  refine Ls_nil (Th_n (hK11 _ _ ?_))
                  refine Wp_ret (Fq_ret (Res1 rfl rfl) ?_)
                  have he5 : works31_m = false := by
                    unfold works31_m
                    all_goals rewrite [if_pos hc2]
                    all_goals rewrite [if_pos hc3]
                    all_goals rewrite [if_pos hc4]
                    all_goals rewrite [if_pos hc5]
                    all_goals rewrite [if_pos hc6]
                    all_goals rewrite [if_pos hc7]
                    all_goals rewrite [if_pos hc8]
                    all_goals rewrite [if_neg hc9]
                    all_goals rfl
                  rewrite [he5]
                  exact ⟨rfl, hF⟩
              · have hc8 : ¬ (((ptake_m ((ppaint_m ((psend_m ((ptake_m ((ppaint_m ((psend_m ((pnew_m 3).1) (⟨0, 1, [97]⟩ : MsgV)).2) 1 2).2) 0).2.2) (⟨0, 1, []⟩ : MsgV)).2) 0 2).2) 0).2.1) = 0) := by first | simpa using hc8 | (intro hh; rw [hh] at hc8; cases hc8)
                refine Ls_s (wtdF rfl rfl rfl) rfl rfl ?_
                refine Ls_s (wtdF rfl rfl rfl) rfl rfl ?_
                refine Ls_s (wtdF rfl rfl rfl) rfl rfl ?_
                refine Ls_y (wtd0 rfl) rfl rfl (y_pick_f rfl rfl rfl) ?_
                refine Ls_y (wtd0 rfl) rfl rfl (y_move rfl rfl) ?_
                refine Ls_s (wtdF rfl rfl rfl) rfl rfl ?_
                refine Ls_s (wtdF rfl rfl rfl) rfl rfl ?_
                refine Ls_s (wtdF rfl rfl rfl) rfl rfl ?_
                refine Ls_y (wtd0 rfl) rfl rfl (y_pick_f rfl rfl rfl) ?_
                refine Ls_y (wtd0 rfl) rfl rfl (y_move rfl rfl) ?_
                refine Ls_s (wtdF rfl rfl rfl) rfl rfl ?_
                refine Ls_s (wtdF rfl rfl rfl) rfl rfl ?_
                refine Ls_s (wtdF rfl rfl rfl) rfl rfl ?_
                refine Ls_s (wtdF rfl rfl rfl) rfl rfl ?_
                refine Ls_y (wtd0 rfl) rfl rfl (y_pick_f rfl rfl rfl) ?_
                refine Ls_y (wtd0 rfl) rfl rfl (y_move rfl rfl) ?_
                refine Ls_s (wtdF rfl rfl rfl) rfl rfl ?_
                refine Ls_s (wtdF rfl rfl rfl) rfl rfl ?_
                refine Ls_y (wtd0 rfl) rfl rfl (y_pick_f rfl rfl rfl) ?_
                refine Ls_y (wtd0 rfl) rfl rfl (y_move rfl rfl) ?_
                refine Ls_s (wtdF rfl rfl rfl) rfl rfl ?_
                refine Ls_s (wtdF rfl rfl rfl) rfl rfl ?_
                refine Ls_s (wtdF rfl rfl rfl) rfl rfl ?_
                refine Ls_y (wtd0 rfl) rfl rfl (y_pick_f rfl rfl rfl) ?_
                refine Ls_y (wtd0 rfl) rfl rfl (y_assign rfl rfl) ?_
                refine Ls_nil (Th_n (hK11 _ _ ?_))
                refine Wp_ret (Fq_ret (Res1 rfl rfl) ?_)
                have he6 : works31_m = false := by
                  unfold works31_m
                  all_goals rewrite [if_pos hc2]
                  all_goals rewrite [if_pos hc3]
                  all_goals rewrite [if_pos hc4]
                  all_goals rewrite [if_pos hc5]
                  all_goals rewrite [if_pos hc6]
                  all_goals rewrite [if_pos hc7]
                  all_goals rewrite [if_neg hc8]
                  all_goals rfl
                rewrite [he6]
                exact ⟨rfl, hF⟩
            · have hc7 : ¬ (((ppaint_m ((psend_m ((ptake_m ((ppaint_m ((psend_m ((pnew_m 3).1) (⟨0, 1, [97]⟩ : MsgV)).2) 1 2).2) 0).2.2) (⟨0, 1, []⟩ : MsgV)).2) 0 2).1) = 0) := by first | simpa using hc7 | (intro hh; rw [hh] at hc7; cases hc7)
              refine Ls_s (wtdF rfl rfl rfl) rfl rfl ?_
              refine Ls_s (wtdF rfl rfl rfl) rfl rfl ?_
              refine Ls_y (wtd0 rfl) rfl rfl (y_pick_f rfl rfl rfl) ?_
              refine Ls_y (wtd0 rfl) rfl rfl (y_move rfl rfl) ?_
              refine Ls_s (wtdF rfl rfl rfl) rfl rfl ?_
              refine Ls_s (wtdF rfl rfl rfl) rfl rfl ?_
              refine Ls_s (wtdF rfl rfl rfl) rfl rfl ?_
              refine Ls_y (wtd0 rfl) rfl rfl (y_pick_f rfl rfl rfl) ?_
              refine Ls_y (wtd0 rfl) rfl rfl (y_move rfl rfl) ?_
              refine Ls_s (wtdF rfl rfl rfl) rfl rfl ?_
              refine Ls_s (wtdF rfl rfl rfl) rfl rfl ?_
              refine Ls_s (wtdF rfl rfl rfl) rfl rfl ?_
              refine Ls_y (wtd0 rfl) rfl rfl (y_pick_f rfl rfl rfl) ?_
              refine Ls_y (wtd0 rfl) rfl rfl (y_move rfl rfl) ?_
              refine Ls_s (wtdF rfl rfl rfl) rfl rfl ?_
              refine Ls_s (wtdF rfl rfl rfl) rfl rfl ?_
              refine Ls_s (wtdF rfl rfl rfl) rfl rfl ?_
              refine Ls_s (wtdF rfl rfl rfl) rfl rfl ?_
              refine Ls_y (wtd0 rfl) rfl rfl (y_pick_f rfl rfl rfl) ?_
              refine Ls_y (wtd0 rfl) rfl rfl (y_move rfl rfl) ?_
              refine Ls_s (wtdF rfl rfl rfl) rfl rfl ?_
              refine Ls_s (wtdF rfl rfl rfl) rfl rfl ?_
              refine Ls_y (wtd0 rfl) rfl rfl (y_pick_f rfl rfl rfl) ?_
              refine Ls_y (wtd0 rfl) rfl rfl (y_move rfl rfl) ?_
              refine Ls_s (wtdF rfl rfl rfl) rfl rfl ?_
              refine Ls_s (wtdF rfl rfl rfl) rfl rfl ?_
              refine Ls_s (wtdF rfl rfl rfl) rfl rfl ?_
              refine Ls_y (wtd0 rfl) rfl rfl (y_pick_f rfl rfl rfl) ?_
              refine Ls_y (wtd0 rfl) rfl rfl (y_assign rfl rfl) ?_
              refine Ls_nil (Th_n (hK11 _ _ ?_))
              refine Wp_ret (Fq_ret (Res1 rfl rfl) ?_)
              have he7 : works31_m = false := by
                unfold works31_m
                all_goals rewrite [if_pos hc2]
                all_goals rewrite [if_pos hc3]
                all_goals rewrite [if_pos hc4]
                all_goals rewrite [if_pos hc5]
                all_goals rewrite [if_pos hc6]
                all_goals rewrite [if_neg hc7]
                all_goals rfl
              rewrite [he7]
              exact ⟨rfl, hF⟩
          · have hc6 : ¬ ((plost_m ((ptake_m ((ppaint_m ((psend_m ((ptake_m ((ppaint_m ((psend_m ((pnew_m 3).1) (⟨0, 1, [97]⟩ : MsgV)).2) 1 2).2) 0).2.2) (⟨0, 1, []⟩ : MsgV)).2) 0 2).2) 0).2.2)) = 1) := by first | simpa using hc6 | (intro hh; rw [hh] at hc6; cases hc6)
            refine Ls_s (wtdF rfl rfl rfl) rfl rfl ?_
            refine Ls_s (wtdF rfl rfl rfl) rfl rfl ?_
            refine Ls_y (wtd0 rfl) rfl rfl (y_pick_f rfl rfl rfl) ?_
            refine Ls_y (wtd0 rfl) rfl rfl (y_move rfl rfl) ?_
            refine Ls_s (wtdF rfl rfl rfl) rfl rfl ?_
            refine Ls_s (wtdF rfl rfl rfl) rfl rfl ?_
            refine Ls_y (wtd0 rfl) rfl rfl (y_pick_f rfl rfl rfl) ?_
            refine Ls_y (wtd0 rfl) rfl rfl (y_move rfl rfl) ?_
            refine Ls_s (wtdF rfl rfl rfl) rfl rfl ?_
            refine Ls_s (wtdF rfl rfl rfl) rfl rfl ?_
            refine Ls_s (wtdF rfl rfl rfl) rfl rfl ?_
            refine Ls_y (wtd0 rfl) rfl rfl (y_pick_f rfl rfl rfl) ?_
            refine Ls_y (wtd0 rfl) rfl rfl (y_move rfl rfl) ?_
            refine Ls_s (wtdF rfl rfl rfl) rfl rfl ?_
            refine Ls_s (wtdF rfl rfl rfl) rfl rfl ?_
            refine Ls_s (wtdF rfl rfl rfl) rfl rfl ?_
            refine Ls_y (wtd0 rfl) rfl rfl (y_pick_f rfl rfl rfl) ?_
            refine Ls_y (wtd0 rfl) rfl rfl (y_move rfl rfl) ?_
            refine Ls_s (wtdF rfl rfl rfl) rfl rfl ?_
            refine Ls_s (wtdF rfl rfl rfl) rfl rfl ?_
            refine Ls_s (wtdF rfl rfl rfl) rfl rfl ?_
            refine Ls_s (wtdF rfl rfl rfl) rfl rfl ?_
            refine Ls_y (wtd0 rfl) rfl rfl (y_pick_f rfl rfl rfl) ?_
            refine Ls_y (wtd0 rfl) rfl rfl (y_move rfl rfl) ?_
            refine Ls_s (wtdF rfl rfl rfl) rfl rfl ?_
            refine Ls_s (wtdF rfl rfl rfl) rfl rfl ?_
            refine Ls_y (wtd0 rfl) rfl rfl (y_pick_f rfl rfl rfl) ?_
            refine Ls_y (wtd0 rfl) rfl rfl (y_move rfl rfl) ?_
            refine Ls_s (wtdF rfl rfl rfl) rfl rfl ?_
            refine Ls_s (wtdF rfl rfl rfl) rfl rfl ?_
            refine Ls_s (wtdF rfl rfl rfl) rfl rfl ?_
            refine Ls_y (wtd0 rfl) rfl rfl (y_pick_f rfl rfl rfl) ?_
            refine Ls_y (wtd0 rfl) rfl rfl (y_assign rfl rfl) ?_
            refine Ls_nil (Th_n (hK11 _ _ ?_))
            refine Wp_ret (Fq_ret (Res1 rfl rfl) ?_)
            have he8 : works31_m = false := by
              unfold works31_m
              all_goals rewrite [if_pos hc2]
              all_goals rewrite [if_pos hc3]
              all_goals rewrite [if_pos hc4]
              all_goals rewrite [if_pos hc5]
              all_goals rewrite [if_neg hc6]
              all_goals rfl
            rewrite [he8]
            exact ⟨rfl, hF⟩
        · have hc5 : ¬ (((psend_m ((ptake_m ((ppaint_m ((psend_m ((pnew_m 3).1) (⟨0, 1, [97]⟩ : MsgV)).2) 1 2).2) 0).2.2) (⟨0, 1, []⟩ : MsgV)).1) = 9) := by first | simpa using hc5 | (intro hh; rw [hh] at hc5; cases hc5)
          refine Ls_s (wtdF rfl rfl rfl) rfl rfl ?_
          refine Ls_s (wtdF rfl rfl rfl) rfl rfl ?_
          refine Ls_s (wtdF rfl rfl rfl) rfl rfl ?_
          refine Ls_y (wtd0 rfl) rfl rfl (y_pick_f rfl rfl rfl) ?_
          refine Ls_y (wtd0 rfl) rfl rfl (y_move rfl rfl) ?_
          refine Ls_s (wtdF rfl rfl rfl) rfl rfl ?_
          refine Ls_s (wtdF rfl rfl rfl) rfl rfl ?_
          refine Ls_y (wtd0 rfl) rfl rfl (y_pick_f rfl rfl rfl) ?_
          refine Ls_y (wtd0 rfl) rfl rfl (y_move rfl rfl) ?_
          refine Ls_s (wtdF rfl rfl rfl) rfl rfl ?_
          refine Ls_s (wtdF rfl rfl rfl) rfl rfl ?_
          refine Ls_y (wtd0 rfl) rfl rfl (y_pick_f rfl rfl rfl) ?_
          refine Ls_y (wtd0 rfl) rfl rfl (y_move rfl rfl) ?_
          refine Ls_s (wtdF rfl rfl rfl) rfl rfl ?_
          refine Ls_s (wtdF rfl rfl rfl) rfl rfl ?_
          refine Ls_s (wtdF rfl rfl rfl) rfl rfl ?_
          refine Ls_y (wtd0 rfl) rfl rfl (y_pick_f rfl rfl rfl) ?_
          refine Ls_y (wtd0 rfl) rfl rfl (y_move rfl rfl) ?_
          refine Ls_s (wtdF rfl rfl rfl) rfl rfl ?_
          refine Ls_s (wtdF rfl rfl rfl) rfl rfl ?_
          refine Ls_s (wtdF rfl rfl rfl) rfl rfl ?_
          refine Ls_y (wtd0 rfl) rfl rfl (y_pick_f rfl rfl rfl) ?_
          refine Ls_y (wtd0 rfl) rfl rfl (y_move rfl rfl) ?_
          refine Ls_s (wtdF rfl rfl rfl) rfl rfl ?_
          refine Ls_s (wtdF rfl rfl rfl) rfl rfl ?_
          refine Ls_s (wtdF rfl rfl rfl) rfl rfl ?_
          refine Ls_s (wtdF rfl rfl rfl) rfl rfl ?_
          refine Ls_y (wtd0 rfl) rfl rfl (y_pick_f rfl rfl rfl) ?_
          refine Ls_y (wtd0 rfl) rfl rfl (y_move rfl rfl) ?_
          refine Ls_s (wtdF rfl rfl rfl) rfl rfl ?_
          refine Ls_s (wtdF rfl rfl rfl) rfl rfl ?_
          refine Ls_y (wtd0 rfl) rfl rfl (y_pick_f rfl rfl rfl) ?_
          refine Ls_y (wtd0 rfl) rfl rfl (y_move rfl rfl) ?_
          refine Ls_s (wtdF rfl rfl rfl) rfl rfl ?_
          refine Ls_s (wtdF rfl rfl rfl) rfl rfl ?_
          refine Ls_s (wtdF rfl rfl rfl) rfl rfl ?_
          refine Ls_y (wtd0 rfl) rfl rfl (y_pick_f rfl rfl rfl) ?_
          refine Ls_y (wtd0 rfl) rfl rfl (y_assign rfl rfl) ?_
          refine Ls_nil (Th_n (hK11 _ _ ?_))
          refine Wp_ret (Fq_ret (Res1 rfl rfl) ?_)
          have he9 : works31_m = false := by
            unfold works31_m
            all_goals rewrite [if_pos hc2]
            all_goals rewrite [if_pos hc3]
            all_goals rewrite [if_pos hc4]
            all_goals rewrite [if_neg hc5]
            all_goals rfl
          rewrite [he9]
          exact ⟨rfl, hF⟩
      · have hc4 : ¬ (((ptake_m ((ppaint_m ((psend_m ((pnew_m 3).1) (⟨0, 1, [97]⟩ : MsgV)).2) 1 2).2) 0).2.1) = 9) := by first | simpa using hc4 | (intro hh; rw [hh] at hc4; cases hc4)
        refine Ls_s (wtdF rfl rfl rfl) rfl rfl ?_
        refine Ls_s (wtdF rfl rfl rfl) rfl rfl ?_
        refine Ls_y (wtd0 rfl) rfl rfl (y_pick_f rfl rfl rfl) ?_
        refine Ls_y (wtd0 rfl) rfl rfl (y_move rfl rfl) ?_
        refine Ls_s (wtdF rfl rfl rfl) rfl rfl ?_
        refine Ls_s (wtdF rfl rfl rfl) rfl rfl ?_
        refine Ls_s (wtdF rfl rfl rfl) rfl rfl ?_
        refine Ls_y (wtd0 rfl) rfl rfl (y_pick_f rfl rfl rfl) ?_
        refine Ls_y (wtd0 rfl) rfl rfl (y_move rfl rfl) ?_
        refine Ls_s (wtdF rfl rfl rfl) rfl rfl ?_
        refine Ls_s (wtdF rfl rfl rfl) rfl rfl ?_
        refine Ls_y (wtd0 rfl) rfl rfl (y_pick_f rfl rfl rfl) ?_
        refine Ls_y (wtd0 rfl) rfl rfl (y_move rfl rfl) ?_
        refine Ls_s (wtdF rfl rfl rfl) rfl rfl ?_
        refine Ls_s (wtdF rfl rfl rfl) rfl rfl ?_
        refine Ls_y (wtd0 rfl) rfl rfl (y_pick_f rfl rfl rfl) ?_
        refine Ls_y (wtd0 rfl) rfl rfl (y_move rfl rfl) ?_
        refine Ls_s (wtdF rfl rfl rfl) rfl rfl ?_
        refine Ls_s (wtdF rfl rfl rfl) rfl rfl ?_
        refine Ls_s (wtdF rfl rfl rfl) rfl rfl ?_
        refine Ls_y (wtd0 rfl) rfl rfl (y_pick_f rfl rfl rfl) ?_
        refine Ls_y (wtd0 rfl) rfl rfl (y_move rfl rfl) ?_
        refine Ls_s (wtdF rfl rfl rfl) rfl rfl ?_
        refine Ls_s (wtdF rfl rfl rfl) rfl rfl ?_
        refine Ls_s (wtdF rfl rfl rfl) rfl rfl ?_
        refine Ls_y (wtd0 rfl) rfl rfl (y_pick_f rfl rfl rfl) ?_
        refine Ls_y (wtd0 rfl) rfl rfl (y_move rfl rfl) ?_
        refine Ls_s (wtdF rfl rfl rfl) rfl rfl ?_
        refine Ls_s (wtdF rfl rfl rfl) rfl rfl ?_
        refine Ls_s (wtdF rfl rfl rfl) rfl rfl ?_
        refine Ls_s (wtdF rfl rfl rfl) rfl rfl ?_
        refine Ls_y (wtd0 rfl) rfl rfl (y_pick_f rfl rfl rfl) ?_
        refine Ls_y (wtd0 rfl) rfl rfl (y_move rfl rfl) ?_
        refine Ls_s (wtdF rfl rfl rfl) rfl rfl ?_
        refine Ls_s (wtdF rfl rfl rfl) rfl rfl ?_
        refine Ls_y (wtd0 rfl) rfl rfl (y_pick_f rfl rfl rfl) ?_
        refine Ls_y (wtd0 rfl) rfl rfl (y_move rfl rfl) ?_
        refine Ls_s (wtdF rfl rfl rfl) rfl rfl ?_
        refine Ls_s (wtdF rfl rfl rfl) rfl rfl ?_
        refine Ls_s (wtdF rfl rfl rfl) rfl rfl ?_
        refine Ls_y (wtd0 rfl) rfl rfl (y_pick_f rfl rfl rfl) ?_
        refine Ls_y (wtd0 rfl) rfl rfl (y_assign rfl rfl) ?_
        refine Ls_nil (Th_n (hK11 _ _ ?_))
        refine Wp_ret (Fq_ret (Res1 rfl rfl) ?_)
        have he10 : works31_m = false := by
          unfold works31_m
          all_goals rewrite [if_pos hc2]
          all_goals rewrite [if_pos hc3]
          all_goals rewrite [if_neg hc4]
          all_goals rfl
        rewrite [he10]
        exact ⟨rfl, hF⟩
    · have hc3 : ¬ (((ppaint_m ((psend_m ((pnew_m 3).1) (⟨0, 1, [97]⟩ : MsgV)).2) 1 2).1) = 0) := by first | simpa using hc3 | (intro hh; rw [hh] at hc3; cases hc3)
      refine Ls_s (wtdF rfl rfl rfl) rfl rfl ?_
      refine Ls_s (wtdF rfl rfl rfl) rfl rfl ?_
      refine Ls_y (wtd0 rfl) rfl rfl (y_pick_f rfl rfl rfl) ?_
      refine Ls_y (wtd0 rfl) rfl rfl (y_move rfl rfl) ?_
      refine Ls_s (wtdF rfl rfl rfl) rfl rfl ?_
      refine Ls_s (wtdF rfl rfl rfl) rfl rfl ?_
      refine Ls_y (wtd0 rfl) rfl rfl (y_pick_f rfl rfl rfl) ?_
      refine Ls_y (wtd0 rfl) rfl rfl (y_move rfl rfl) ?_
      refine Ls_s (wtdF rfl rfl rfl) rfl rfl ?_
      refine Ls_s (wtdF rfl rfl rfl) rfl rfl ?_
      refine Ls_s (wtdF rfl rfl rfl) rfl rfl ?_
      refine Ls_y (wtd0 rfl) rfl rfl (y_pick_f rfl rfl rfl) ?_
      refine Ls_y (wtd0 rfl) rfl rfl (y_move rfl rfl) ?_
      refine Ls_s (wtdF rfl rfl rfl) rfl rfl ?_
      refine Ls_s (wtdF rfl rfl rfl) rfl rfl ?_
      refine Ls_y (wtd0 rfl) rfl rfl (y_pick_f rfl rfl rfl) ?_
      refine Ls_y (wtd0 rfl) rfl rfl (y_move rfl rfl) ?_
      refine Ls_s (wtdF rfl rfl rfl) rfl rfl ?_
      refine Ls_s (wtdF rfl rfl rfl) rfl rfl ?_
      refine Ls_y (wtd0 rfl) rfl rfl (y_pick_f rfl rfl rfl) ?_
      refine Ls_y (wtd0 rfl) rfl rfl (y_move rfl rfl) ?_
      refine Ls_s (wtdF rfl rfl rfl) rfl rfl ?_
      refine Ls_s (wtdF rfl rfl rfl) rfl rfl ?_
      refine Ls_s (wtdF rfl rfl rfl) rfl rfl ?_
      refine Ls_y (wtd0 rfl) rfl rfl (y_pick_f rfl rfl rfl) ?_
      refine Ls_y (wtd0 rfl) rfl rfl (y_move rfl rfl) ?_
      refine Ls_s (wtdF rfl rfl rfl) rfl rfl ?_
      refine Ls_s (wtdF rfl rfl rfl) rfl rfl ?_
      refine Ls_s (wtdF rfl rfl rfl) rfl rfl ?_
      refine Ls_y (wtd0 rfl) rfl rfl (y_pick_f rfl rfl rfl) ?_
      refine Ls_y (wtd0 rfl) rfl rfl (y_move rfl rfl) ?_
      refine Ls_s (wtdF rfl rfl rfl) rfl rfl ?_
      refine Ls_s (wtdF rfl rfl rfl) rfl rfl ?_
      refine Ls_s (wtdF rfl rfl rfl) rfl rfl ?_
      refine Ls_s (wtdF rfl rfl rfl) rfl rfl ?_
      refine Ls_y (wtd0 rfl) rfl rfl (y_pick_f rfl rfl rfl) ?_
      refine Ls_y (wtd0 rfl) rfl rfl (y_move rfl rfl) ?_
      refine Ls_s (wtdF rfl rfl rfl) rfl rfl ?_
      refine Ls_s (wtdF rfl rfl rfl) rfl rfl ?_
      refine Ls_y (wtd0 rfl) rfl rfl (y_pick_f rfl rfl rfl) ?_
      refine Ls_y (wtd0 rfl) rfl rfl (y_move rfl rfl) ?_
      refine Ls_s (wtdF rfl rfl rfl) rfl rfl ?_
      refine Ls_s (wtdF rfl rfl rfl) rfl rfl ?_
      refine Ls_s (wtdF rfl rfl rfl) rfl rfl ?_
      refine Ls_y (wtd0 rfl) rfl rfl (y_pick_f rfl rfl rfl) ?_
      refine Ls_y (wtd0 rfl) rfl rfl (y_assign rfl rfl) ?_
      refine Ls_nil (Th_n (hK11 _ _ ?_))
      refine Wp_ret (Fq_ret (Res1 rfl rfl) ?_)
      have he11 : works31_m = false := by
        unfold works31_m
        all_goals rewrite [if_pos hc2]
        all_goals rewrite [if_neg hc3]
        all_goals rfl
      rewrite [he11]
      exact ⟨rfl, hF⟩
  · have hc2 : ¬ (((psend_m ((pnew_m 3).1) (⟨0, 1, [97]⟩ : MsgV)).1) = 0) := by first | simpa using hc2 | (intro hh; rw [hh] at hc2; cases hc2)
    refine Ls_s (wtdF rfl rfl rfl) rfl rfl ?_
    refine Ls_s (wtdF rfl rfl rfl) rfl rfl ?_
    refine Ls_y (wtd0 rfl) rfl rfl (y_pick_f rfl rfl rfl) ?_
    refine Ls_y (wtd0 rfl) rfl rfl (y_move rfl rfl) ?_
    refine Ls_s (wtdF rfl rfl rfl) rfl rfl ?_
    refine Ls_s (wtdF rfl rfl rfl) rfl rfl ?_
    refine Ls_y (wtd0 rfl) rfl rfl (y_pick_f rfl rfl rfl) ?_
    refine Ls_y (wtd0 rfl) rfl rfl (y_move rfl rfl) ?_
    refine Ls_s (wtdF rfl rfl rfl) rfl rfl ?_
    refine Ls_s (wtdF rfl rfl rfl) rfl rfl ?_
    refine Ls_y (wtd0 rfl) rfl rfl (y_pick_f rfl rfl rfl) ?_
    refine Ls_y (wtd0 rfl) rfl rfl (y_move rfl rfl) ?_
    refine Ls_s (wtdF rfl rfl rfl) rfl rfl ?_
    refine Ls_s (wtdF rfl rfl rfl) rfl rfl ?_
    refine Ls_s (wtdF rfl rfl rfl) rfl rfl ?_
    refine Ls_y (wtd0 rfl) rfl rfl (y_pick_f rfl rfl rfl) ?_
    refine Ls_y (wtd0 rfl) rfl rfl (y_move rfl rfl) ?_
    refine Ls_s (wtdF rfl rfl rfl) rfl rfl ?_
    refine Ls_s (wtdF rfl rfl rfl) rfl rfl ?_
    refine Ls_y (wtd0 rfl) rfl rfl (y_pick_f rfl rfl rfl) ?_
    refine Ls_y (wtd0 rfl) rfl rfl (y_move rfl rfl) ?_
    refine Ls_s (wtdF rfl rfl rfl) rfl rfl ?_
    refine Ls_s (wtdF rfl rfl rfl) rfl rfl ?_
    refine Ls_y (wtd0 rfl) rfl rfl (y_pick_f rfl rfl rfl) ?_
    refine Ls_y (wtd0 rfl) rfl rfl (y_move rfl rfl) ?_
    refine Ls_s (wtdF rfl rfl rfl) rfl rfl ?_
    refine Ls_s (wtdF rfl rfl rfl) rfl rfl ?_
    refine Ls_s (wtdF rfl rfl rfl) rfl rfl ?_
    refine Ls_y (wtd0 rfl) rfl rfl (y_pick_f rfl rfl rfl) ?_
    refine Ls_y (wtd0 rfl) rfl rfl (y_move rfl rfl) ?_
    refine Ls_s (wtdF rfl rfl rfl) rfl rfl ?_
    refine Ls_s (wtdF rfl rfl rfl) rfl rfl ?_
    refine Ls_s (wtdF rfl rfl rfl) rfl rfl ?_
    refine Ls_y (wtd0 rfl) rfl rfl (y_pick_f rfl rfl rfl) ?_
    refine Ls_y (wtd0 rfl) rfl rfl (y_move rfl rfl) ?_
    refine Ls_s (wtdF rfl rfl rfl) rfl rfl ?_
    refine Ls_s (wtdF rfl rfl rfl) rfl rfl ?_
    refine Ls_s (wtdF rfl rfl rfl) rfl rfl ?_
    refine Ls_s (wtdF rfl rfl rfl) rfl rfl ?_
    refine Ls_y (wtd0 rfl) rfl rfl (y_pick_f rfl rfl rfl) ?_
    refine Ls_y (wtd0 rfl) rfl rfl (y_move rfl rfl) ?_
    refine Ls_s (wtdF rfl rfl rfl) rfl rfl ?_
    refine Ls_s (wtdF rfl rfl rfl) rfl rfl ?_
    refine Ls_y (wtd0 rfl) rfl rfl (y_pick_f rfl rfl rfl) ?_
    refine Ls_y (wtd0 rfl) rfl rfl (y_move rfl rfl) ?_
    refine Ls_s (wtdF rfl rfl rfl) rfl rfl ?_
    refine Ls_s (wtdF rfl rfl rfl) rfl rfl ?_
    refine Ls_s (wtdF rfl rfl rfl) rfl rfl ?_
    refine Ls_y (wtd0 rfl) rfl rfl (y_pick_f rfl rfl rfl) ?_
    refine Ls_y (wtd0 rfl) rfl rfl (y_assign rfl rfl) ?_
    refine Ls_nil (Th_n (hK11 _ _ ?_))
    refine Wp_ret (Fq_ret (Res1 rfl rfl) ?_)
    have he12 : works31_m = false := by
      unfold works31_m
      all_goals rewrite [if_neg hc2]
      all_goals rfl
    rewrite [he12]
    exact ⟨rfl, hF⟩


theorem works31_true : works31_m = true := by kernel_rfl
structure CI (s : Int) (T : Nt) (sent : List (MsgV × Bool)) (inn out ref : Int) : Prop where
  i0 : 0 ≤ inn
  i1 : inn ≤ s
  o0 : 0 ≤ out
  o1 : out ≤ s
  r0 : 0 ≤ ref
  r1 : ref ≤ s
  l0 : 0 ≤ T.lost
  l1 : T.lost ≤ s
  sum : inn = (T.row.length : Int) + out + T.lost - ref
  snt : ∀ m ∈ T.row, mget sent m = some true
section
variable {s : Int} {T : Nt} {sent : List (MsgV × Bool)} {inn out ref : Int}
theorem CI.stay (h : CI s T sent inn out ref) : CI (s + 1) T sent inn out ref := by
  obtain ⟨a1, a2, a3, a4, a5, a6, a0, a7, a8, a9⟩ := h
  exact ⟨a1, by omega, a3, by omega, a5, by omega, a0, by omega, a8, a9⟩
theorem CI.sendOk (h : CI s T sent inn out ref) {m : MsgV} (he : (psend_m T m).1 = 0) : CI (s + 1) (psend_m T m).2 (mset sent m true) (inn + 1) out ref := by
  obtain ⟨a1, a2, a3, a4, a5, a6, a0, a7, a8, a9⟩ := h
  have hT : sendT T m = { T with row := T.row ++ [m] } := by
    unfold psend_m sendE at he
    unfold sendT
    simp only at he
    repeat' (split at he <;> first | (simp at he; done) | skip)
    rename_i h1 h2 h3 h4
    rw [if_neg h1, if_neg h2, if_neg h3, if_neg h4]
  show CI _ (sendT T m) _ _ _ _
  rw [hT]
  refine ⟨by omega, by omega, a3, by omega, a5, by omega, a0, by simp only; omega, by simp; omega, fun x hx => ?_⟩
  rw [mget_mset]
  split
  · rfl
  · rename_i hne
    simp only [List.mem_append, List.mem_singleton] at hx
    rcases hx with hx | hx
    · exact a9 x hx
    · exact absurd hx hne
theorem CI.sendLost (h : CI s T sent inn out ref) {m : MsgV} (he : (psend_m T m).1 = 9 ∨ (psend_m T m).1 = 4) : CI (s + 1) (psend_m T m).2 sent inn out (ref + 1) := by
  obtain ⟨a1, a2, a3, a4, a5, a6, a0, a7, a8, a9⟩ := h
  have hT : sendT T m = { T with lost := T.lost + 1 } := by
    unfold psend_m sendE at he
    unfold sendT
    simp only at he
    repeat' (split at he <;> first | (simp at he; done) | skip)
    · rename_i h1 h2 h3
      rw [if_neg h1, if_neg h2, if_pos h3]
    · rename_i h1 h2 h3 h4
      rw [if_neg h1, if_neg h2, if_neg h3, if_pos h4]
  show CI _ (sendT T m) _ _ _ _
  rw [hT]
  exact ⟨a1, by omega, a3, by omega, by omega, by omega, by simp only; omega, by simp only; omega, by simp only; omega, a9⟩
theorem CI.sendNo (h : CI s T sent inn out ref) {m : MsgV} (h0 : ¬ (psend_m T m).1 = 0) (h9 : ¬ (psend_m T m).1 = 9) (h4 : ¬ (psend_m T m).1 = 4) : CI (s + 1) (psend_m T m).2 sent inn out ref := by
  have hT : sendT T m = T := by
    unfold psend_m sendE at h0 h9 h4
    unfold sendT
    simp only at h0 h9 h4
    repeat' (split at h0 <;> first | (simp at h0; done) | skip)
    all_goals simp_all
  show CI _ (sendT T m) _ _ _ _
  rw [hT]
  exact h.stay
theorem CI.takeOk (h : CI s T sent inn out ref) {i : Int} (he : (ptake_m T i).2.1 = 0) : CI (s + 1) (ptake_m T i).2.2 sent inn (out + 1) ref ∧ mget sent (ptake_m T i).1 = some true ∧ papart_m (ptake_m T i).2.2 (ptake_m T i).1.f (ptake_m T i).1.t = false := by
  obtain ⟨a1, a2, a3, a4, a5, a6, a0, a7, a8, a9⟩ := h
  have he : takeE T i = 0 := he
  have hin : inB T i = true ∧ apartB T (atM T i).f (atM T i).t = false := by
    unfold takeE at he
    split at he
    · omega
    · split at he
      · omega
      · rename_i h1 h2
        exact ⟨by simpa using h1, by simpa using h2⟩
  have hr : 0 ≤ i ∧ i < (T.row.length : Int) := by have := hin.1; simpa [inB] using this
  have hl : i.toNat < T.row.length := by omega
  have hm : takeM T i = T.row[i.toNat] := by simp [takeM, he, atM, hin.1, List.getElem?_eq_getElem hl]
  have hT : takeT T i = { T with row := T.row.eraseIdx i.toNat } := by simp [takeT, he]
  show CI _ (takeT T i) _ _ _ _ ∧ mget sent (takeM T i) = some true ∧ apartB (takeT T i) (takeM T i).f (takeM T i).t = false
  refine ⟨?_, ?_, ?_⟩
  · rw [hT]
    refine ⟨a1, by omega, by omega, by omega, a5, by omega, a0, by simp only; omega, ?_, fun m hm => a9 m (List.mem_of_mem_eraseIdx hm)⟩
    simp only [List.length_eraseIdx, hl, if_true]
    omega
  · rw [hm]; exact a9 _ (List.getElem_mem hl)
  · have : takeM T i = atM T i := by simp [takeM, he]
    rw [this, ← hin.2, hT]
    rfl
theorem CI.takeNo (h : CI s T sent inn out ref) {i : Int} (he : ¬ (ptake_m T i).2.1 = 0) : CI (s + 1) (ptake_m T i).2.2 sent inn out ref := by
  have hT : takeT T i = T := by
    have : ¬ takeE T i = 0 := he
    simp [takeT, this]
  show CI _ (takeT T i) _ _ _ _
  rw [hT]
  exact h.stay
theorem CI.drop (h : CI s T sent inn out ref) (i : Int) : CI (s + 1) (pdrop_m T i).2 sent inn out ref := by
  show CI _ (dropT T i) _ _ _ _
  unfold dropT
  split
  · rename_i hin
    obtain ⟨a1, a2, a3, a4, a5, a6, a0, a7, a8, a9⟩ := h
    have hr : 0 ≤ i ∧ i < (T.row.length : Int) := by simpa [inB] using hin
    have hl : i.toNat < T.row.length := by omega
    refine ⟨a1, by omega, a3, by omega, a5, by omega, by simp only; omega, by simp only; omega, ?_, fun m hm => a9 m (List.mem_of_mem_eraseIdx hm)⟩
    simp only [List.length_eraseIdx, hl, if_true]
    omega
  · exact h.stay
theorem CI.dblOk (h : CI s T sent inn out ref) {i : Int} (he : (pdbl_m T i).1 = 0) : CI (s + 1) (pdbl_m T i).2 sent (inn + 1) out ref := by
  obtain ⟨a1, a2, a3, a4, a5, a6, a0, a7, a8, a9⟩ := h
  have he : dblE T i = 0 := he
  have hin : inB T i = true := by
    unfold dblE at he
    split at he
    · omega
    · rename_i h1; simpa using h1
  have hr : 0 ≤ i ∧ i < (T.row.length : Int) := by simpa [inB] using hin
  have hl : i.toNat < T.row.length := by omega
  have hm : atM T i = T.row[i.toNat] := by simp [atM, hin, List.getElem?_eq_getElem hl]
  show CI _ (dblT T i) _ _ _ _
  have hT : dblT T i = { T with row := T.row ++ [atM T i] } := by simp [dblT, he]
  rw [hT]
  refine ⟨by omega, by omega, a3, by omega, a5, by omega, a0, by simp only; omega, by simp; omega, fun m hx => ?_⟩
  simp only [List.mem_append, List.mem_singleton] at hx
  rcases hx with hx | hx
  · exact a9 m hx
  · rw [hx, hm]; exact a9 _ (List.getElem_mem hl)
theorem CI.dblNo (h : CI s T sent inn out ref) {i : Int} (he : ¬ (pdbl_m T i).1 = 0) : CI (s + 1) (pdbl_m T i).2 sent inn out ref := by
  have hT : dblT T i = T := by
    have : ¬ dblE T i = 0 := he
    simp [dblT, this]
  show CI _ (dblT T i) _ _ _ _
  rw [hT]
  exact h.stay
theorem CI.paint (h : CI s T sent inn out ref) (i c : Int) : CI (s + 1) (ppaint_m T i c).2 sent inn out ref := by
  show CI _ (paintT T i c) _ _ _ _
  unfold paintT
  split
  · obtain ⟨a1, a2, a3, a4, a5, a6, a0, a7, a8, a9⟩ := h
    exact ⟨a1, by omega, a3, by omega, a5, by omega, a0, by simp only; omega, a8, a9⟩
  · exact h.stay
theorem CI.new (n : Int) : CI 0 (pnew_m n).1 ([] : List (MsgV × Bool)) 0 0 0 := ⟨by omega, by omega, by omega, by omega, by omega, by omega, by show (0 : Int) ≤ 0; omega, by show (0 : Int) ≤ 0; omega, rfl, by intro m hm; simp [pnew_m, newT] at hm⟩
theorem CI.bnd (h : CI s T sent inn out ref) : 0 ≤ plen_m T ∧ plen_m T ≤ 2 * s ∧ 0 ≤ plost_m T ∧ plost_m T ≤ s ∧ 0 ≤ inn ∧ inn ≤ s ∧ 0 ≤ out ∧ out ≤ s ∧ 0 ≤ ref ∧ ref ≤ s := by
  obtain ⟨a1, a2, a3, a4, a5, a6, a0, a7, a8, a9⟩ := h
  unfold plen_m plost_m
  omega
theorem CI.len (h : CI s T sent inn out ref) : inn = plen_m T + out + plost_m T - ref := h.sum
end
theorem from31_eq (m : MsgV) : from31_m m = m := rfl

end Go.Proofs.Ytikdpkhcegjmfaa

/- Walks printed by gen2.py out of our own specifications: what the functions named below do. -/
import Derived.Test.YtdckemiebnfjcaaGreatDoorSc
import Derived.Test.YtdckemiebnfjcaaGreatDoorBb
set_option linter.unusedSimpArgs false
set_option linter.unusedVariables false
set_option maxRecDepth 20000
namespace Go.Proofs.YtdckemiebnfjcaaGreatDoor
open Go.RowKit
theorem and_one {x : Int} (h : 0 ≤ x ∧ x < 18446744073709551616) : IntKind.i64.wrap (bits .and .u64 x 1) = x % 2 := by
  rw [u64_and x 1 h.1 h.2 (by decide) (by decide), show (1 : Int).toNat = 1 from rfl, Nat.and_one_is_mod, IntKind.wrap_i64]
  omega
def oRsigned_m (t : RdM) : Int × RdM :=
  (bits .xor .i64 (IntKind.i64.wrap (((rnum_m t).1) / 2)) (0 - (IntKind.i64.wrap (bits .and .u64 ((rnum_m t).1) 1))), (rnum_m t).2)
theorem oRsigned_ok (X : List Nat) (w : World) (g_t : Nat) (q_t : Option Nat) (t : RdM) (z1 : (Ek ⟨g_t, q_t⟩ t)) (hs : St X w [(some g_t, Cl (rdC q_t t) 110), (q_t, Cl (ftC t) 163)] []) :
    Fn Tryz.prog 41 [.pointer (some ⟨g_t, 0, none⟩)] w fun v w' => ∃ (q' : Option Nat), v = .int .i64 ((oRsigned_m t).1) ∧ (Ek ⟨g_t, q'⟩ ((oRsigned_m t).2)) ∧ St X w' [(some g_t, Cl (rdC q' ((oRsigned_m t).2)) 110), (q', Cl (ftC ((oRsigned_m t).2)) 163)] [] ∧ Fr (keys [(some g_t, Cl (rdC q_t t) 110), (q_t, Cl (ftC t) 163)]) w w' ∧ (∀ k ∈ keys [(some g_t, Cl (rdC q' ((oRsigned_m t).2)) 110), (q', Cl (ftC ((oRsigned_m t).2)) 163)], k ∈ (keys [(some g_t, Cl (rdC q_t t) 110), (q_t, Cl (ftC t) 163)]) ∨ w.heap.size ≤ k) := by
  refine Fn_of 14 Ty.en_41 Tryz.func41 rfl rfl rfl ?_
  dsimp only [argEnv]
  have hs0 := hs
  have st : St X w [(some g_t, Cl (rdC q_t t) 110), (q_t, Cl (ftC t) 163)] [] := hs
  have hF := Fr.refl (keys [(some g_t, Cl (rdC q_t t) 110), (q_t, Cl (ftC t) 163)]) w
  have hfo1 : ∀ k ∈ keys [(some g_t, Cl (rdC q_t t) 110), (q_t, Cl (ftC t) 163)], k ∈ (keys [(some g_t, Cl (rdC q_t t) 110), (q_t, Cl (ftC t) 163)]) ∨ w.heap.size ≤ k := fun k hk => .inl (by first | exact hk | (simp [keys] at hk ⊢; simp [hk]))
  have hq1 := and_one (rnum_v z1.r)
  refine sq fun _ k1 => rg (Ls' rfl (Ln k1 (sq fun _ k2 => rg (Lm rfl (La rfl (a_call rfl rfl rfl rfl (sNum_ok (keys (pickL (hOf st) []) ++ X) _ g_t q_t t z1 (st.sub [] [0, 1] [] (by decide))) (fun v w1 ⟨q1, hv, hok1, hN1, hfO1, hkc1⟩ => ?_)))))))
  subst hv
  have hfo2 : ∀ k ∈ keys [(some g_t, Cl (rdC q1 ((rnum_m t).2)) 110), (q1, Cl (ftC ((rnum_m t).2)) 163)], k ∈ (keys [(some g_t, Cl (rdC q_t t) 110), (q_t, Cl (ftC t) 163)]) ∨ w.heap.size ≤ k := fun k hk => (hkc1 k (hk)).elim (fun h => (kc_app hfo1 (kc_n)) k h) (fun h => .inr (Nat.le_trans hF.size h))
  have st := st.callS [] [0, 1] (by decide) rfl hN1 hfO1 hkc1
  have hF := hF.step hfO1 (kc_app hfo1 (kc_n))
  have st : St X w1 [_, _] [] := st
  refine Ls' rfl (Ln k2 (sq fun _ k3 => rg (Lm rfl (Ly rfl (y_shrC 1 2 rfl rfl rfl (by decide) rfl rfl (by decide)) ?_))))
  refine Ly rfl (y_cvi (c := IntKind.i64.wrap (((rnum_m t).1) / 2)) rfl rfl Tryz.underlying99 Tryz.underlying2 rfl) (Lm rfl (Ly rfl (y_bits rfl rfl rfl (by simp) rfl) ?_))
  refine Ly rfl (y_cvi (c := IntKind.i64.wrap (bits .and .u64 ((rnum_m t).1) 1)) rfl rfl Tryz.underlying99 Tryz.underlying2 rfl) (Ly rfl (y_neg (c := 0 - (IntKind.i64.wrap (bits .and .u64 ((rnum_m t).1) 1))) rfl rfl (wf_i64 (by first | omega | (simp; done) | (simp; omega)))) ?_)
  refine Ly rfl (y_bits rfl rfl rfl (by simp) rfl) ?_
  refine Ls' rfl (Ln k3 (wR (fR (Res1 rfl rfl) ?_)))
  unfold oRsigned_m
  exact ⟨_, rfl, hok1, (st.pk [0, 1] (by decide)).pickK [], hF, kc_app hfo2 (kc_n)⟩
def iread_m (t : RdM) : IdM × RdM :=
  if (((rint_m ((rint_m t 7).2) 1048576).1) % 4294967296) = 0 then
    if (rfail_m ((rint_m ((rint_m t 7).2) 1048576).2) 2).f.e = 0 then
      ((⟨(rint_m t 7).1, ((rint_m ((rint_m t 7).2) 1048576).1) % 4294967296⟩ : IdM), rfail_m ((rint_m ((rint_m t 7).2) 1048576).2) 2)
    else
      ((⟨0, 0⟩ : IdM), rfail_m ((rint_m ((rint_m t 7).2) 1048576).2) 2)
  else
    if ((rint_m ((rint_m t 7).2) 1048576).2).f.e = 0 then
      ((⟨(rint_m t 7).1, ((rint_m ((rint_m t 7).2) 1048576).1) % 4294967296⟩ : IdM), (rint_m ((rint_m t 7).2) 1048576).2)
    else
      ((⟨0, 0⟩ : IdM), (rint_m ((rint_m t 7).2) 1048576).2)
theorem iread_ok (X : List Nat) (w : World) (g_t : Nat) (q_t : Option Nat) (t : RdM) (z1 : (Ek ⟨g_t, q_t⟩ t)) (hs : St X w [(some g_t, Cl (rdC q_t t) 110), (q_t, Cl (ftC t) 163)] []) :
    Fn Tryz.prog 73 [.pointer (some ⟨g_t, 0, none⟩)] w fun v w' => ∃ (q' : Option Nat), v = .agg (idMC ((iread_m t).1)).toArray ∧ (Ek ⟨g_t, q'⟩ ((iread_m t).2)) ∧ St X w' [(some g_t, Cl (rdC q' ((iread_m t).2)) 110), (q', Cl (ftC ((iread_m t).2)) 163)] [] ∧ Fr (keys [(some g_t, Cl (rdC q_t t) 110), (q_t, Cl (ftC t) 163)]) w w' ∧ (∀ k ∈ keys [(some g_t, Cl (rdC q' ((iread_m t).2)) 110), (q', Cl (ftC ((iread_m t).2)) 163)], k ∈ (keys [(some g_t, Cl (rdC q_t t) 110), (q_t, Cl (ftC t) 163)]) ∨ w.heap.size ≤ k) := by
  refine Fn_of 21 Ty.en_73 Tryz.func73 rfl rfl rfl ?_
  dsimp only [argEnv]
  have hs0 := hs
  have st : St X w [(some g_t, Cl (rdC q_t t) 110), (q_t, Cl (ftC t) 163)] [] := hs
  have hF := Fr.refl (keys [(some g_t, Cl (rdC q_t t) 110), (q_t, Cl (ftC t) 163)]) w
  have hfo1 : ∀ k ∈ keys [(some g_t, Cl (rdC q_t t) 110), (q_t, Cl (ftC t) 163)], k ∈ (keys [(some g_t, Cl (rdC q_t t) 110), (q_t, Cl (ftC t) 163)]) ∨ w.heap.size ≤ k := fun k hk => .inl (by first | exact hk | (simp [keys] at hk ⊢; simp [hk]))
  refine sq fun _ k1 => rg (La rfl (Sal Ty.zc_41 st hF rfl fun g1 w1 (st : St _ _ [_, _, _] _) hF hg1 => Ln k1 (sq fun _ k2 => rg (Lm rfl (La rfl (a_call rfl rfl rfl rfl (sInt_ok (keys (pickL (hOf st) [2]) ++ X) _ g_t q_t t z1 7 (st.sub [2] [0, 1] [] (by decide)) (by first | decide | omega)) (fun v w2 ⟨q1, hv, hok1, hN1, hfO1, hkc1⟩ => ?_)))))))
  subst hv
  have hfo2 : ∀ k ∈ keys [(some g_t, Cl (rdC q1 ((rint_m t 7).2)) 110), (q1, Cl (ftC ((rint_m t 7).2)) 163)], k ∈ (keys [(some g_t, Cl (rdC q_t t) 110), (q_t, Cl (ftC t) 163)]) ∨ w.heap.size ≤ k := fun k hk => (hkc1 k (hk)).elim (fun h => (kc_app hfo1 (kc_n)) k h) (fun h => .inr (Nat.le_trans hF.size h))
  have st := st.callS [2] [0, 1] (by decide) rfl hN1 hfO1 hkc1
  have hF := hF.step hfO1 (kc_app hfo1 (kc_n))
  have st : St X w2 [_, _, _] [] := st
  refine Ly rfl (y_build (cells := [_, _]) rfl rfl Ty.zc_41 Ty.ps_41 rfl) (La rfl (Sal Ty.zc_41 st hF rfl fun g2 w3 (st : St _ _ [_, _, _, _] _) hF hg2 => La rfl (Ssw 3 Ty.sz_41 st hF (.inr hg2) rfl fun w4 (st : St _ _ [_, _, _, _] _) hF => Ln k2 (sq fun _ k3 => rg (Lm rfl (La rfl (a_call rfl rfl rfl rfl (sInt_ok (keys (pickL (hOf st) [0, 3]) ++ X) _ g_t q1 ((rint_m t 7).2) hok1 1048576 (st.sub [0, 3] [1, 2] [] (by decide)) (by first | decide | omega)) (fun v w5 ⟨q2, hv, hok2, hN2, hfO2, hkc2⟩ => ?_))))))))
  subst hv
  have hfo3 : ∀ k ∈ keys [(some g_t, Cl (rdC q2 ((rint_m ((rint_m t 7).2) 1048576).2)) 110), (q2, Cl (ftC ((rint_m ((rint_m t 7).2) 1048576).2)) 163)], k ∈ (keys [(some g_t, Cl (rdC q_t t) 110), (q_t, Cl (ftC t) 163)]) ∨ w.heap.size ≤ k := fun k hk => (hkc2 k (hk)).elim (fun h => (kc_app hfo2 (kc_n)) k h) (fun h => .inr (Nat.le_trans hF.size h))
  have st := st.callS [0, 3] [1, 2] (by decide) rfl hN2 hfO2 hkc2
  have hF := hF.step hfO2 (kc_app hfo2 (kc_n))
  have st : St X w5 [_, _, _, _] [] := st
  refine Ly rfl (y_cvi (c := ((rint_m ((rint_m t 7).2) 1048576).1) % 4294967296) rfl rfl Tryz.underlying3 Tryz.underlying22 wm_u32) (Ly rfl (yf rfl Ty.fo_41_1) (La rfl (Ss1 1 Ty.sz_22 st hF (.inr hg2) rfl fun w6 (st : St _ _ [_, (_, Cl [_, _] _), _, _] _) hF => Ln k3 (sq fun _ k4 => sq fun _ k5 => rg (Ly rfl (yf rfl Ty.fo_41_1) (Ly rfl (yl 1 Ty.pl_22 st rfl) (Ly rfl (yeq rfl) (Ln k5 (cE rfl (fun hc1 => ?_) (fun hc1 => ?_))))))))))
  · refine rg (Lm rfl (La rfl (a_call rfl rfl rfl rfl (sFail_ok (keys (pickL (hOf st) [0, 1]) ++ X) _ g_t q2 ((rint_m ((rint_m t 7).2) 1048576).2) hok2 2 (st.sub [0, 1] [2, 3] [] (by decide))) (fun v w7 ⟨q3, hv, hok3, hN3, hfO3, hkc3⟩ => ?_))))
    subst hv
    have hfo4 : ∀ k ∈ keys [(some g_t, Cl (rdC q3 (rfail_m ((rint_m ((rint_m t 7).2) 1048576).2) 2)) 110), (q3, Cl (ftC (rfail_m ((rint_m ((rint_m t 7).2) 1048576).2) 2)) 163)], k ∈ (keys [(some g_t, Cl (rdC q_t t) 110), (q_t, Cl (ftC t) 163)]) ∨ w.heap.size ≤ k := fun k hk => (hkc3 k (hk)).elim (fun h => (kc_app hfo3 (kc_n)) k h) (fun h => .inr (Nat.le_trans hF.size h))
    have st := st.callS [0, 1] [2, 3] (by decide) rfl hN3 hfO3 hkc3
    have hF := hF.step hfO3 (kc_app hfo3 (kc_n))
    have st : St X w7 [_, _, _, _] [] := st
    refine Ln k4 (sq fun _ k6 => sq fun _ k7 => rg (Lm rfl (La rfl (a_call rfl rfl rfl rfl (sErr_ok (keys (pickL (hOf st) [0, 1]) ++ X) _ g_t q3 (rfail_m ((rint_m ((rint_m t 7).2) 1048576).2) 2) hok3 (st.sub [0, 1] [2, 3] [] (by decide))) (fun v w8 ⟨hv, hf⟩ => ?_)))))
    subst hv
    have st := st.keep0 hf
    have hF := hF.step0 hf
    have st : St X w8 [_, _, _, _] [] := st
    refine Ly rfl (y_neE rfl rfl Tryz.underlying108 hok3.2) (Ln k7 (cN rfl (fun hc2 => ?_) (fun hc2 => ?_)))
    · refine sq fun _ k8 => rg (Ly rfl (y_build (cells := [_, _]) rfl rfl Ty.zc_41 Ty.ps_41 rfl) (La rfl (Ssw 0 Ty.sz_41 st hF (.inr hg1) rfl fun w9 (st : St _ _ [_, _, _, _] _) hF => Ln k8 (wR (Th_r (fR (ResN1 rfl (rvc (i := 0) rfl Ty.ag_41 st.hp rfl rfl)) ?_))))))
      unfold iread_m; rewrite [iP hc1, iN hc2]
      exact ⟨_, rfl, hok3, (st.pk [2, 3] (by decide)).pickK [], hF, kc_app hfo4 (kc_n)⟩
    refine sk k6 (sq fun _ k9 => rg (Ly rfl (yw 1 Ty.ag_41 st rfl) (La rfl (Ssw 0 Ty.sz_41 st hF (.inr hg1) rfl fun w10 (st : St _ _ [_, _, _, _] _) hF => Ln k9 (wR (fR (ResN1 rfl (rvc (i := 0) rfl Ty.ag_41 st.hp rfl rfl)) ?_))))))
    unfold iread_m; rewrite [iP hc1, iP hc2]
    exact ⟨_, rfl, hok3, (st.pk [2, 3] (by decide)).pickK [], hF, kc_app hfo4 (kc_n)⟩
  refine sk k4 (sq fun _ k10 => sq fun _ k11 => rg (Lm rfl (La rfl (a_call rfl rfl rfl rfl (sErr_ok (keys (pickL (hOf st) [0, 1]) ++ X) _ g_t q2 ((rint_m ((rint_m t 7).2) 1048576).2) hok2 (st.sub [0, 1] [2, 3] [] (by decide))) (fun v w11 ⟨hv, hf⟩ => ?_)))))
  subst hv
  have st := st.keep0 hf
  have hF := hF.step0 hf
  have st : St X w11 [_, _, _, _] [] := st
  refine Ly rfl (y_neE rfl rfl Tryz.underlying108 hok2.2) (Ln k11 (cN rfl (fun hc3 => ?_) (fun hc3 => ?_)))
  · refine sq fun _ k12 => rg (Ly rfl (y_build (cells := [_, _]) rfl rfl Ty.zc_41 Ty.ps_41 rfl) (La rfl (Ssw 0 Ty.sz_41 st hF (.inr hg1) rfl fun w12 (st : St _ _ [_, _, _, _] _) hF => Ln k12 (wR (Th_r (fR (ResN1 rfl (rvc (i := 0) rfl Ty.ag_41 st.hp rfl rfl)) ?_))))))
    unfold iread_m; rewrite [iN hc1, iN hc3]
    exact ⟨_, rfl, hok2, (st.pk [2, 3] (by decide)).pickK [], hF, kc_app hfo3 (kc_n)⟩
  refine sk k10 (sq fun _ k13 => rg (Ly rfl (yw 1 Ty.ag_41 st rfl) (La rfl (Ssw 0 Ty.sz_41 st hF (.inr hg1) rfl fun w13 (st : St _ _ [_, _, _, _] _) hF => Ln k13 (wR (fR (ResN1 rfl (rvc (i := 0) rfl Ty.ag_41 st.hp rfl rfl)) ?_))))))
  unfold iread_m; rewrite [iN hc1, iP hc3]
  exact ⟨_, rfl, hok2, (st.pk [2, 3] (by decide)).pickK [], hF, kc_app hfo3 (kc_n)⟩
def ireadTag_m (t : RdM) : TagM × RdM :=
  if ((rint_m ((iread_m t).2) 15).2).f.e = 0 then
    ((⟨(⟨((iread_m t).1).origin, ((iread_m t).1).seq⟩ : IdM), (rint_m ((iread_m t).2) 15).1⟩ : TagM), (rint_m ((iread_m t).2) 15).2)
  else
    ((⟨(⟨0, 0⟩ : IdM), 0⟩ : TagM), (rint_m ((iread_m t).2) 15).2)
theorem ireadTag_ok (X : List Nat) (w : World) (g_t : Nat) (q_t : Option Nat) (t : RdM) (z1 : (Ek ⟨g_t, q_t⟩ t)) (hs : St X w [(some g_t, Cl (rdC q_t t) 110), (q_t, Cl (ftC t) 163)] []) :
    Fn Tryz.prog 42 [.pointer (some ⟨g_t, 0, none⟩)] w fun v w' => ∃ (q' : Option Nat), v = .agg (tagMC ((ireadTag_m t).1)).toArray ∧ (Ek ⟨g_t, q'⟩ ((ireadTag_m t).2)) ∧ St X w' [(some g_t, Cl (rdC q' ((ireadTag_m t).2)) 110), (q', Cl (ftC ((ireadTag_m t).2)) 163)] [] ∧ Fr (keys [(some g_t, Cl (rdC q_t t) 110), (q_t, Cl (ftC t) 163)]) w w' ∧ (∀ k ∈ keys [(some g_t, Cl (rdC q' ((ireadTag_m t).2)) 110), (q', Cl (ftC ((ireadTag_m t).2)) 163)], k ∈ (keys [(some g_t, Cl (rdC q_t t) 110), (q_t, Cl (ftC t) 163)]) ∨ w.heap.size ≤ k) := by
  refine Fn_of 15 Ty.en_42 Tryz.func42 rfl rfl rfl ?_
  dsimp only [argEnv]
  have hs0 := hs
  have st : St X w [(some g_t, Cl (rdC q_t t) 110), (q_t, Cl (ftC t) 163)] [] := hs
  have hF := Fr.refl (keys [(some g_t, Cl (rdC q_t t) 110), (q_t, Cl (ftC t) 163)]) w
  have hfo1 : ∀ k ∈ keys [(some g_t, Cl (rdC q_t t) 110), (q_t, Cl (ftC t) 163)], k ∈ (keys [(some g_t, Cl (rdC q_t t) 110), (q_t, Cl (ftC t) 163)]) ∨ w.heap.size ≤ k := fun k hk => .inl (by first | exact hk | (simp [keys] at hk ⊢; simp [hk]))
  refine sq fun _ k1 => rg (La rfl (Sal Ty.zc_43 st hF rfl fun g1 w1 (st : St _ _ [_, _, _] _) hF hg1 => Ln k1 (sq fun _ k2 => rg (Lm rfl (La rfl (a_call rfl rfl rfl rfl (iread_ok (keys (pickL (hOf st) [2]) ++ X) _ g_t q_t t z1 (st.sub [2] [0, 1] [] (by decide))) (fun v w2 ⟨q1, hv, hok1, hN1, hfO1, hkc1⟩ => ?_)))))))
  subst hv
  have hfo2 : ∀ k ∈ keys [(some g_t, Cl (rdC q1 ((iread_m t).2)) 110), (q1, Cl (ftC ((iread_m t).2)) 163)], k ∈ (keys [(some g_t, Cl (rdC q_t t) 110), (q_t, Cl (ftC t) 163)]) ∨ w.heap.size ≤ k := fun k hk => (hkc1 k (hk)).elim (fun h => (kc_app hfo1 (kc_n)) k h) (fun h => .inr (Nat.le_trans hF.size h))
  have st := st.callS [2] [0, 1] (by decide) rfl hN1 hfO1 hkc1
  have hF := hF.step hfO1 (kc_app hfo1 (kc_n))
  have st : St X w2 [_, _, _] [] := st
  refine Ly rfl (y_build (cells := [_, _, _]) rfl rfl Ty.zc_43 Ty.ps_43 rfl) (La rfl (Sal Ty.zc_43 st hF rfl fun g2 w3 (st : St _ _ [_, _, _, _] _) hF hg2 => La rfl (Ssw 3 Ty.sz_43 st hF (.inr hg2) rfl fun w4 (st : St _ _ [_, _, _, _] _) hF => Ln k2 (sq fun _ k3 => rg (Lm rfl (La rfl (a_call rfl rfl rfl rfl (sInt_ok (keys (pickL (hOf st) [0, 3]) ++ X) _ g_t q1 ((iread_m t).2) hok1 15 (st.sub [0, 3] [1, 2] [] (by decide)) (by first | decide | omega)) (fun v w5 ⟨q2, hv, hok2, hN2, hfO2, hkc2⟩ => ?_))))))))
  subst hv
  have hfo3 : ∀ k ∈ keys [(some g_t, Cl (rdC q2 ((rint_m ((iread_m t).2) 15).2)) 110), (q2, Cl (ftC ((rint_m ((iread_m t).2) 15).2)) 163)], k ∈ (keys [(some g_t, Cl (rdC q_t t) 110), (q_t, Cl (ftC t) 163)]) ∨ w.heap.size ≤ k := fun k hk => (hkc2 k (hk)).elim (fun h => (kc_app hfo2 (kc_n)) k h) (fun h => .inr (Nat.le_trans hF.size h))
  have st := st.callS [0, 3] [1, 2] (by decide) rfl hN2 hfO2 hkc2
  have hF := hF.step hfO2 (kc_app hfo2 (kc_n))
  have st : St X w5 [_, _, _, _] [] := st
  refine Ly rfl (yf rfl Ty.fo_43_1) (La rfl (Ss1 1 Ty.sz_3 st hF (.inr hg2) rfl fun w6 (st : St _ _ [_, (_, Cl [_, _, _] _), _, _] _) hF => Ln k3 (sq fun _ k4 => sq fun _ k5 => rg (Lm rfl (La rfl (a_call rfl rfl rfl rfl (sErr_ok (keys (pickL (hOf st) [0, 1]) ++ X) _ g_t q2 ((rint_m ((iread_m t).2) 15).2) hok2 (st.sub [0, 1] [2, 3] [] (by decide))) (fun v w7 ⟨hv, hf⟩ => ?_)))))))
  subst hv
  have st := st.keep0 hf
  have hF := hF.step0 hf
  have st : St X w7 [_, _, _, _] [] := st
  refine Ly rfl (y_neE rfl rfl Tryz.underlying108 hok2.2) (Ln k5 (cN rfl (fun hc1 => ?_) (fun hc1 => ?_)))
  · refine sq fun _ k6 => rg (Ly rfl (y_build (cells := [_, _, _]) rfl rfl Ty.zc_43 Ty.ps_43 rfl) (La rfl (Ssw 0 Ty.sz_43 st hF (.inr hg1) rfl fun w8 (st : St _ _ [_, _, _, _] _) hF => Ln k6 (wR (Th_r (fR (ResN1 rfl (rvc (i := 0) rfl Ty.ag_43 st.hp rfl rfl)) ?_))))))
    unfold ireadTag_m; rewrite [iN hc1]
    exact ⟨_, rfl, hok2, (st.pk [2, 3] (by decide)).pickK [], hF, kc_app hfo3 (kc_n)⟩
  refine sk k4 (sq fun _ k7 => rg (Ly rfl (yw 1 Ty.ag_43 st rfl) (La rfl (Ssw 0 Ty.sz_43 st hF (.inr hg1) rfl fun w9 (st : St _ _ [_, _, _, _] _) hF => Ln k7 (wR (fR (ResN1 rfl (rvc (i := 0) rfl Ty.ag_43 st.hp rfl rfl)) ?_))))))
  unfold ireadTag_m; rewrite [iP hc1]
  exact ⟨_, rfl, hok2, (st.pk [2, 3] (by decide)).pickK [], hF, kc_app hfo3 (kc_n)⟩
def lread_m (t : RdM) : StampM × RdM :=
  if ((rint_m ((rint_m t 1048576).2) 7).2).f.e = 0 then
    ((⟨((rint_m t 1048576).1) % 4294967296, (rint_m ((rint_m t 1048576).2) 7).1⟩ : StampM), (rint_m ((rint_m t 1048576).2) 7).2)
  else
    ((⟨0, 0⟩ : StampM), (rint_m ((rint_m t 1048576).2) 7).2)
theorem lread_ok (X : List Nat) (w : World) (g_t : Nat) (q_t : Option Nat) (t : RdM) (z1 : (Ek ⟨g_t, q_t⟩ t)) (hs : St X w [(some g_t, Cl (rdC q_t t) 110), (q_t, Cl (ftC t) 163)] []) :
    Fn Tryz.prog 43 [.pointer (some ⟨g_t, 0, none⟩)] w fun v w' => ∃ (q' : Option Nat), v = .agg (stampMC ((lread_m t).1)).toArray ∧ (Ek ⟨g_t, q'⟩ ((lread_m t).2)) ∧ St X w' [(some g_t, Cl (rdC q' ((lread_m t).2)) 110), (q', Cl (ftC ((lread_m t).2)) 163)] [] ∧ Fr (keys [(some g_t, Cl (rdC q_t t) 110), (q_t, Cl (ftC t) 163)]) w w' ∧ (∀ k ∈ keys [(some g_t, Cl (rdC q' ((lread_m t).2)) 110), (q', Cl (ftC ((lread_m t).2)) 163)], k ∈ (keys [(some g_t, Cl (rdC q_t t) 110), (q_t, Cl (ftC t) 163)]) ∨ w.heap.size ≤ k) := by
  refine Fn_of 17 Ty.en_43 Tryz.func43 rfl rfl rfl ?_
  dsimp only [argEnv]
  have hs0 := hs
  have st : St X w [(some g_t, Cl (rdC q_t t) 110), (q_t, Cl (ftC t) 163)] [] := hs
  have hF := Fr.refl (keys [(some g_t, Cl (rdC q_t t) 110), (q_t, Cl (ftC t) 163)]) w
  have hfo1 : ∀ k ∈ keys [(some g_t, Cl (rdC q_t t) 110), (q_t, Cl (ftC t) 163)], k ∈ (keys [(some g_t, Cl (rdC q_t t) 110), (q_t, Cl (ftC t) 163)]) ∨ w.heap.size ≤ k := fun k hk => .inl (by first | exact hk | (simp [keys] at hk ⊢; simp [hk]))
  refine sq fun _ k1 => rg (La rfl (Sal Ty.zc_24 st hF rfl fun g1 w1 (st : St _ _ [_, _, _] _) hF hg1 => Ln k1 (sq fun _ k2 => rg (Lm rfl (La rfl (a_call rfl rfl rfl rfl (sInt_ok (keys (pickL (hOf st) [2]) ++ X) _ g_t q_t t z1 1048576 (st.sub [2] [0, 1] [] (by decide)) (by first | decide | omega)) (fun v w2 ⟨q1, hv, hok1, hN1, hfO1, hkc1⟩ => ?_)))))))
  subst hv
  have hfo2 : ∀ k ∈ keys [(some g_t, Cl (rdC q1 ((rint_m t 1048576).2)) 110), (q1, Cl (ftC ((rint_m t 1048576).2)) 163)], k ∈ (keys [(some g_t, Cl (rdC q_t t) 110), (q_t, Cl (ftC t) 163)]) ∨ w.heap.size ≤ k := fun k hk => (hkc1 k (hk)).elim (fun h => (kc_app hfo1 (kc_n)) k h) (fun h => .inr (Nat.le_trans hF.size h))
  have st := st.callS [2] [0, 1] (by decide) rfl hN1 hfO1 hkc1
  have hF := hF.step hfO1 (kc_app hfo1 (kc_n))
  have st : St X w2 [_, _, _] [] := st
  refine Ls' rfl (Ln k2 (sq fun _ k3 => rg (Lm rfl (La rfl (a_call rfl rfl rfl rfl (sInt_ok (keys (pickL (hOf st) [0]) ++ X) _ g_t q1 ((rint_m t 1048576).2) hok1 7 (st.sub [0] [1, 2] [] (by decide)) (by first | decide | omega)) (fun v w3 ⟨q2, hv, hok2, hN2, hfO2, hkc2⟩ => ?_))))))
  subst hv
  have hfo3 : ∀ k ∈ keys [(some g_t, Cl (rdC q2 ((rint_m ((rint_m t 1048576).2) 7).2)) 110), (q2, Cl (ftC ((rint_m ((rint_m t 1048576).2) 7).2)) 163)], k ∈ (keys [(some g_t, Cl (rdC q_t t) 110), (q_t, Cl (ftC t) 163)]) ∨ w.heap.size ≤ k := fun k hk => (hkc2 k (hk)).elim (fun h => (kc_app hfo2 (kc_n)) k h) (fun h => .inr (Nat.le_trans hF.size h))
  have st := st.callS [0] [1, 2] (by decide) rfl hN2 hfO2 hkc2
  have hF := hF.step hfO2 (kc_app hfo2 (kc_n))
  have st : St X w3 [_, _, _] [] := st
  refine Ls' rfl (Ln k3 (sq fun _ k4 => sq fun _ k5 => rg (Lm rfl (La rfl (a_call rfl rfl rfl rfl (sErr_ok (keys (pickL (hOf st) [0]) ++ X) _ g_t q2 ((rint_m ((rint_m t 1048576).2) 7).2) hok2 (st.sub [0] [1, 2] [] (by decide))) (fun v w4 ⟨hv, hf⟩ => ?_))))))
  subst hv
  have st := st.keep0 hf
  have hF := hF.step0 hf
  have st : St X w4 [_, _, _] [] := st
  refine Ly rfl (y_neE rfl rfl Tryz.underlying108 hok2.2) (Ln k5 (cN rfl (fun hc1 => ?_) (fun hc1 => ?_)))
  · refine sq fun _ k6 => rg (Ly rfl (y_build (cells := [_, _]) rfl rfl Ty.zc_24 Ty.ps_24 rfl) (La rfl (Ssw 0 Ty.sz_24 st hF (.inr hg1) rfl fun w5 (st : St _ _ [_, _, _] _) hF => Ln k6 (wR (Th_r (fR (ResN1 rfl (rvc (i := 0) rfl Ty.ag_24 st.hp rfl rfl)) ?_))))))
    unfold lread_m; rewrite [iN hc1]
    exact ⟨_, rfl, hok2, (st.pk [1, 2] (by decide)).pickK [], hF, kc_app hfo3 (kc_n)⟩
  refine sk k4 (sq fun _ k7 => rg (Lm rfl (Ly rfl (y_cvi (c := ((rint_m t 1048576).1) % 4294967296) rfl rfl Tryz.underlying3 Tryz.underlying22 wm_u32) (Lm rfl (Ly rfl (y_build (cells := [_, _]) rfl rfl Ty.zc_24 Ty.ps_24 rfl) (La rfl (Ssw 0 Ty.sz_24 st hF (.inr hg1) rfl fun w6 (st : St _ _ [_, _, _] _) hF => Ln k7 (wR (fR (ResN1 rfl (rvc (i := 0) rfl Ty.ag_24 st.hp rfl rfl)) ?_)))))))))
  unfold lread_m; rewrite [iP hc1]
  exact ⟨_, rfl, hok2, (st.pk [1, 2] (by decide)).pickK [], hF, kc_app hfo3 (kc_n)⟩
def oread_c1 (t : RdM) (s5 : Int) (u1_8 : List TagM) (Tg_t : RdM) : Bool :=
  (if 0 < s5 then Tg_t.f.e == 0 else false)
def oread_L1 (t : RdM) : Nat → Int → (List TagM) → RdM → (EffectM × RdM) ⊕ (Int × (List TagM) × RdM)
  | 0, s5, u1_8, Tg_t => .inr (s5, u1_8, Tg_t)
  | fuel + 1, s5, u1_8, Tg_t =>
    if (oread_c1 t s5 u1_8 Tg_t) = true then
      oread_L1 t fuel (s5 - 1) (u1_8 ++ [(ireadTag_m Tg_t).1]) ((ireadTag_m Tg_t).2)
    else
      .inr (s5, u1_8, Tg_t)
def oread_c2 (t : RdM) (s5 : Int) (u1_8 : List TagM) (Tg_t : RdM) : Bool :=
  (if 0 < s5 then Tg_t.f.e == 0 else false)
def oread_L2 (t : RdM) : Nat → Int → (List TagM) → RdM → (EffectM × RdM) ⊕ (Int × (List TagM) × RdM)
  | 0, s5, u1_8, Tg_t => .inr (s5, u1_8, Tg_t)
  | fuel + 1, s5, u1_8, Tg_t =>
    if (oread_c2 t s5 u1_8 Tg_t) = true then
      oread_L2 t fuel (s5 - 1) (u1_8 ++ [(ireadTag_m Tg_t).1]) ((ireadTag_m Tg_t).2)
    else
      .inr (s5, u1_8, Tg_t)
def oread_m (t : RdM) : EffectM × RdM :=
  if ((oform_m ((rint_m t 6).1)).atF) = true then
    if ((oform_m ((rint_m t 6).1)).tags) = true then
      match oread_L1 t (((rint_m ((lread_m ((ireadTag_m ((oRsigned_m ((rtext_m ((rint_m t 6).2) 12).2)).2)).2)).2) 4096).1).toNat + 1) ((rint_m ((lread_m ((ireadTag_m ((oRsigned_m ((rtext_m ((rint_m t 6).2) 12).2)).2)).2)).2) 4096).1) ([] : List TagM) ((rint_m ((lread_m ((ireadTag_m ((oRsigned_m ((rtext_m ((rint_m t 6).2) 12).2)).2)).2)).2) 4096).2) with
      | .inl r => r
      | .inr (s5, u1_8, Tg_t) =>
        if Tg_t.f.e = 0 then
          if (rfail_m Tg_t (ocheckE_m (⟨(rint_m t 6).1, (rtext_m ((rint_m t 6).2) 12).1, (oRsigned_m ((rtext_m ((rint_m t 6).2) 12).2)).1, (⟨(⟨((ireadTag_m ((oRsigned_m ((rtext_m ((rint_m t 6).2) 12).2)).2)).1).id.origin, ((ireadTag_m ((oRsigned_m ((rtext_m ((rint_m t 6).2) 12).2)).2)).1).id.seq⟩ : IdM), ((ireadTag_m ((oRsigned_m ((rtext_m ((rint_m t 6).2) 12).2)).2)).1).n⟩ : TagM), (⟨((lread_m ((ireadTag_m ((oRsigned_m ((rtext_m ((rint_m t 6).2) 12).2)).2)).2)).1).time, ((lread_m ((ireadTag_m ((oRsigned_m ((rtext_m ((rint_m t 6).2) 12).2)).2)).2)).1).origin⟩ : StampM), u1_8⟩ : EffectM))).f.e = 0 then
            ((⟨(rint_m t 6).1, (rtext_m ((rint_m t 6).2) 12).1, (oRsigned_m ((rtext_m ((rint_m t 6).2) 12).2)).1, (⟨(⟨((ireadTag_m ((oRsigned_m ((rtext_m ((rint_m t 6).2) 12).2)).2)).1).id.origin, ((ireadTag_m ((oRsigned_m ((rtext_m ((rint_m t 6).2) 12).2)).2)).1).id.seq⟩ : IdM), ((ireadTag_m ((oRsigned_m ((rtext_m ((rint_m t 6).2) 12).2)).2)).1).n⟩ : TagM), (⟨((lread_m ((ireadTag_m ((oRsigned_m ((rtext_m ((rint_m t 6).2) 12).2)).2)).2)).1).time, ((lread_m ((ireadTag_m ((oRsigned_m ((rtext_m ((rint_m t 6).2) 12).2)).2)).2)).1).origin⟩ : StampM), u1_8⟩ : EffectM), rfail_m Tg_t (ocheckE_m (⟨(rint_m t 6).1, (rtext_m ((rint_m t 6).2) 12).1, (oRsigned_m ((rtext_m ((rint_m t 6).2) 12).2)).1, (⟨(⟨((ireadTag_m ((oRsigned_m ((rtext_m ((rint_m t 6).2) 12).2)).2)).1).id.origin, ((ireadTag_m ((oRsigned_m ((rtext_m ((rint_m t 6).2) 12).2)).2)).1).id.seq⟩ : IdM), ((ireadTag_m ((oRsigned_m ((rtext_m ((rint_m t 6).2) 12).2)).2)).1).n⟩ : TagM), (⟨((lread_m ((ireadTag_m ((oRsigned_m ((rtext_m ((rint_m t 6).2) 12).2)).2)).2)).1).time, ((lread_m ((ireadTag_m ((oRsigned_m ((rtext_m ((rint_m t 6).2) 12).2)).2)).2)).1).origin⟩ : StampM), u1_8⟩ : EffectM)))
          else
            ((⟨0, [], 0, (⟨(⟨0, 0⟩ : IdM), 0⟩ : TagM), (⟨0, 0⟩ : StampM), ([] : List TagM)⟩ : EffectM), rfail_m Tg_t (ocheckE_m (⟨(rint_m t 6).1, (rtext_m ((rint_m t 6).2) 12).1, (oRsigned_m ((rtext_m ((rint_m t 6).2) 12).2)).1, (⟨(⟨((ireadTag_m ((oRsigned_m ((rtext_m ((rint_m t 6).2) 12).2)).2)).1).id.origin, ((ireadTag_m ((oRsigned_m ((rtext_m ((rint_m t 6).2) 12).2)).2)).1).id.seq⟩ : IdM), ((ireadTag_m ((oRsigned_m ((rtext_m ((rint_m t 6).2) 12).2)).2)).1).n⟩ : TagM), (⟨((lread_m ((ireadTag_m ((oRsigned_m ((rtext_m ((rint_m t 6).2) 12).2)).2)).2)).1).time, ((lread_m ((ireadTag_m ((oRsigned_m ((rtext_m ((rint_m t 6).2) 12).2)).2)).2)).1).origin⟩ : StampM), u1_8⟩ : EffectM)))
        else
          ((⟨0, [], 0, (⟨(⟨0, 0⟩ : IdM), 0⟩ : TagM), (⟨0, 0⟩ : StampM), ([] : List TagM)⟩ : EffectM), Tg_t)
    else
      if ((lread_m ((ireadTag_m ((oRsigned_m ((rtext_m ((rint_m t 6).2) 12).2)).2)).2)).2).f.e = 0 then
        if (rfail_m ((lread_m ((ireadTag_m ((oRsigned_m ((rtext_m ((rint_m t 6).2) 12).2)).2)).2)).2) (ocheckE_m (⟨(rint_m t 6).1, (rtext_m ((rint_m t 6).2) 12).1, (oRsigned_m ((rtext_m ((rint_m t 6).2) 12).2)).1, (⟨(⟨((ireadTag_m ((oRsigned_m ((rtext_m ((rint_m t 6).2) 12).2)).2)).1).id.origin, ((ireadTag_m ((oRsigned_m ((rtext_m ((rint_m t 6).2) 12).2)).2)).1).id.seq⟩ : IdM), ((ireadTag_m ((oRsigned_m ((rtext_m ((rint_m t 6).2) 12).2)).2)).1).n⟩ : TagM), (⟨((lread_m ((ireadTag_m ((oRsigned_m ((rtext_m ((rint_m t 6).2) 12).2)).2)).2)).1).time, ((lread_m ((ireadTag_m ((oRsigned_m ((rtext_m ((rint_m t 6).2) 12).2)).2)).2)).1).origin⟩ : StampM), ([] : List TagM)⟩ : EffectM))).f.e = 0 then
          ((⟨(rint_m t 6).1, (rtext_m ((rint_m t 6).2) 12).1, (oRsigned_m ((rtext_m ((rint_m t 6).2) 12).2)).1, (⟨(⟨((ireadTag_m ((oRsigned_m ((rtext_m ((rint_m t 6).2) 12).2)).2)).1).id.origin, ((ireadTag_m ((oRsigned_m ((rtext_m ((rint_m t 6).2) 12).2)).2)).1).id.seq⟩ : IdM), ((ireadTag_m ((oRsigned_m ((rtext_m ((rint_m t 6).2) 12).2)).2)).1).n⟩ : TagM), (⟨((lread_m ((ireadTag_m ((oRsigned_m ((rtext_m ((rint_m t 6).2) 12).2)).2)).2)).1).time, ((lread_m ((ireadTag_m ((oRsigned_m ((rtext_m ((rint_m t 6).2) 12).2)).2)).2)).1).origin⟩ : StampM), ([] : List TagM)⟩ : EffectM), rfail_m ((lread_m ((ireadTag_m ((oRsigned_m ((rtext_m ((rint_m t 6).2) 12).2)).2)).2)).2) (ocheckE_m (⟨(rint_m t 6).1, (rtext_m ((rint_m t 6).2) 12).1, (oRsigned_m ((rtext_m ((rint_m t 6).2) 12).2)).1, (⟨(⟨((ireadTag_m ((oRsigned_m ((rtext_m ((rint_m t 6).2) 12).2)).2)).1).id.origin, ((ireadTag_m ((oRsigned_m ((rtext_m ((rint_m t 6).2) 12).2)).2)).1).id.seq⟩ : IdM), ((ireadTag_m ((oRsigned_m ((rtext_m ((rint_m t 6).2) 12).2)).2)).1).n⟩ : TagM), (⟨((lread_m ((ireadTag_m ((oRsigned_m ((rtext_m ((rint_m t 6).2) 12).2)).2)).2)).1).time, ((lread_m ((ireadTag_m ((oRsigned_m ((rtext_m ((rint_m t 6).2) 12).2)).2)).2)).1).origin⟩ : StampM), ([] : List TagM)⟩ : EffectM)))
        else
          ((⟨0, [], 0, (⟨(⟨0, 0⟩ : IdM), 0⟩ : TagM), (⟨0, 0⟩ : StampM), ([] : List TagM)⟩ : EffectM), rfail_m ((lread_m ((ireadTag_m ((oRsigned_m ((rtext_m ((rint_m t 6).2) 12).2)).2)).2)).2) (ocheckE_m (⟨(rint_m t 6).1, (rtext_m ((rint_m t 6).2) 12).1, (oRsigned_m ((rtext_m ((rint_m t 6).2) 12).2)).1, (⟨(⟨((ireadTag_m ((oRsigned_m ((rtext_m ((rint_m t 6).2) 12).2)).2)).1).id.origin, ((ireadTag_m ((oRsigned_m ((rtext_m ((rint_m t 6).2) 12).2)).2)).1).id.seq⟩ : IdM), ((ireadTag_m ((oRsigned_m ((rtext_m ((rint_m t 6).2) 12).2)).2)).1).n⟩ : TagM), (⟨((lread_m ((ireadTag_m ((oRsigned_m ((rtext_m ((rint_m t 6).2) 12).2)).2)).2)).1).time, ((lread_m ((ireadTag_m ((oRsigned_m ((rtext_m ((rint_m t 6).2) 12).2)).2)).2)).1).origin⟩ : StampM), ([] : List TagM)⟩ : EffectM)))
      else
        ((⟨0, [], 0, (⟨(⟨0, 0⟩ : IdM), 0⟩ : TagM), (⟨0, 0⟩ : StampM), ([] : List TagM)⟩ : EffectM), (lread_m ((ireadTag_m ((oRsigned_m ((rtext_m ((rint_m t 6).2) 12).2)).2)).2)).2)
  else
    if ((oform_m ((rint_m t 6).1)).tags) = true then
      match oread_L2 t (((rint_m ((ireadTag_m ((oRsigned_m ((rtext_m ((rint_m t 6).2) 12).2)).2)).2) 4096).1).toNat + 1) ((rint_m ((ireadTag_m ((oRsigned_m ((rtext_m ((rint_m t 6).2) 12).2)).2)).2) 4096).1) ([] : List TagM) ((rint_m ((ireadTag_m ((oRsigned_m ((rtext_m ((rint_m t 6).2) 12).2)).2)).2) 4096).2) with
      | .inl r => r
      | .inr (s5, u1_8, Tg_t) =>
        if Tg_t.f.e = 0 then
          if (rfail_m Tg_t (ocheckE_m (⟨(rint_m t 6).1, (rtext_m ((rint_m t 6).2) 12).1, (oRsigned_m ((rtext_m ((rint_m t 6).2) 12).2)).1, (⟨(⟨((ireadTag_m ((oRsigned_m ((rtext_m ((rint_m t 6).2) 12).2)).2)).1).id.origin, ((ireadTag_m ((oRsigned_m ((rtext_m ((rint_m t 6).2) 12).2)).2)).1).id.seq⟩ : IdM), ((ireadTag_m ((oRsigned_m ((rtext_m ((rint_m t 6).2) 12).2)).2)).1).n⟩ : TagM), (⟨0, 0⟩ : StampM), u1_8⟩ : EffectM))).f.e = 0 then
            ((⟨(rint_m t 6).1, (rtext_m ((rint_m t 6).2) 12).1, (oRsigned_m ((rtext_m ((rint_m t 6).2) 12).2)).1, (⟨(⟨((ireadTag_m ((oRsigned_m ((rtext_m ((rint_m t 6).2) 12).2)).2)).1).id.origin, ((ireadTag_m ((oRsigned_m ((rtext_m ((rint_m t 6).2) 12).2)).2)).1).id.seq⟩ : IdM), ((ireadTag_m ((oRsigned_m ((rtext_m ((rint_m t 6).2) 12).2)).2)).1).n⟩ : TagM), (⟨0, 0⟩ : StampM), u1_8⟩ : EffectM), rfail_m Tg_t (ocheckE_m (⟨(rint_m t 6).1, (rtext_m ((rint_m t 6).2) 12).1, (oRsigned_m ((rtext_m ((rint_m t 6).2) 12).2)).1, (⟨(⟨((ireadTag_m ((oRsigned_m ((rtext_m ((rint_m t 6).2) 12).2)).2)).1).id.origin, ((ireadTag_m ((oRsigned_m ((rtext_m ((rint_m t 6).2) 12).2)).2)).1).id.seq⟩ : IdM), ((ireadTag_m ((oRsigned_m ((rtext_m ((rint_m t 6).2) 12).2)).2)).1).n⟩ : TagM), (⟨0, 0⟩ : StampM), u1_8⟩ : EffectM)))
          else
            ((⟨0, [], 0, (⟨(⟨0, 0⟩ : IdM), 0⟩ : TagM), (⟨0, 0⟩ : StampM), ([] : List TagM)⟩ : EffectM), rfail_m Tg_t (ocheckE_m (⟨(rint_m t 6).1, (rtext_m ((rint_m t 6).2) 12).1, (oRsigned_m ((rtext_m ((rint_m t 6).2) 12).2)).1, (⟨(⟨((ireadTag_m ((oRsigned_m ((rtext_m ((rint_m t 6).2) 12).2)).2)).1).id.origin, ((ireadTag_m ((oRsigned_m ((rtext_m ((rint_m t 6).2) 12).2)).2)).1).id.seq⟩ : IdM), ((ireadTag_m ((oRsigned_m ((rtext_m ((rint_m t 6).2) 12).2)).2)).1).n⟩ : TagM), (⟨0, 0⟩ : StampM), u1_8⟩ : EffectM)))
        else
          ((⟨0, [], 0, (⟨(⟨0, 0⟩ : IdM), 0⟩ : TagM), (⟨0, 0⟩ : StampM), ([] : List TagM)⟩ : EffectM), Tg_t)
    else
      if ((ireadTag_m ((oRsigned_m ((rtext_m ((rint_m t 6).2) 12).2)).2)).2).f.e = 0 then
        if (rfail_m ((ireadTag_m ((oRsigned_m ((rtext_m ((rint_m t 6).2) 12).2)).2)).2) (ocheckE_m (⟨(rint_m t 6).1, (rtext_m ((rint_m t 6).2) 12).1, (oRsigned_m ((rtext_m ((rint_m t 6).2) 12).2)).1, (⟨(⟨((ireadTag_m ((oRsigned_m ((rtext_m ((rint_m t 6).2) 12).2)).2)).1).id.origin, ((ireadTag_m ((oRsigned_m ((rtext_m ((rint_m t 6).2) 12).2)).2)).1).id.seq⟩ : IdM), ((ireadTag_m ((oRsigned_m ((rtext_m ((rint_m t 6).2) 12).2)).2)).1).n⟩ : TagM), (⟨0, 0⟩ : StampM), ([] : List TagM)⟩ : EffectM))).f.e = 0 then
          ((⟨(rint_m t 6).1, (rtext_m ((rint_m t 6).2) 12).1, (oRsigned_m ((rtext_m ((rint_m t 6).2) 12).2)).1, (⟨(⟨((ireadTag_m ((oRsigned_m ((rtext_m ((rint_m t 6).2) 12).2)).2)).1).id.origin, ((ireadTag_m ((oRsigned_m ((rtext_m ((rint_m t 6).2) 12).2)).2)).1).id.seq⟩ : IdM), ((ireadTag_m ((oRsigned_m ((rtext_m ((rint_m t 6).2) 12).2)).2)).1).n⟩ : TagM), (⟨0, 0⟩ : StampM), ([] : List TagM)⟩ : EffectM), rfail_m ((ireadTag_m ((oRsigned_m ((rtext_m ((rint_m t 6).2) 12).2)).2)).2) (ocheckE_m (⟨(rint_m t 6).1, (rtext_m ((rint_m t 6).2) 12).1, (oRsigned_m ((rtext_m ((rint_m t 6).2) 12).2)).1, (⟨(⟨((ireadTag_m ((oRsigned_m ((rtext_m ((rint_m t 6).2) 12).2)).2)).1).id.origin, ((ireadTag_m ((oRsigned_m ((rtext_m ((rint_m t 6).2) 12).2)).2)).1).id.seq⟩ : IdM), ((ireadTag_m ((oRsigned_m ((rtext_m ((rint_m t 6).2) 12).2)).2)).1).n⟩ : TagM), (⟨0, 0⟩ : StampM), ([] : List TagM)⟩ : EffectM)))
        else
          ((⟨0, [], 0, (⟨(⟨0, 0⟩ : IdM), 0⟩ : TagM), (⟨0, 0⟩ : StampM), ([] : List TagM)⟩ : EffectM), rfail_m ((ireadTag_m ((oRsigned_m ((rtext_m ((rint_m t 6).2) 12).2)).2)).2) (ocheckE_m (⟨(rint_m t 6).1, (rtext_m ((rint_m t 6).2) 12).1, (oRsigned_m ((rtext_m ((rint_m t 6).2) 12).2)).1, (⟨(⟨((ireadTag_m ((oRsigned_m ((rtext_m ((rint_m t 6).2) 12).2)).2)).1).id.origin, ((ireadTag_m ((oRsigned_m ((rtext_m ((rint_m t 6).2) 12).2)).2)).1).id.seq⟩ : IdM), ((ireadTag_m ((oRsigned_m ((rtext_m ((rint_m t 6).2) 12).2)).2)).1).n⟩ : TagM), (⟨0, 0⟩ : StampM), ([] : List TagM)⟩ : EffectM)))
      else
        ((⟨0, [], 0, (⟨(⟨0, 0⟩ : IdM), 0⟩ : TagM), (⟨0, 0⟩ : StampM), ([] : List TagM)⟩ : EffectM), (ireadTag_m ((oRsigned_m ((rtext_m ((rint_m t 6).2) 12).2)).2)).2)
theorem oread_c1_iff (t : RdM) (s5 : Int) (u1_8 : List TagM) (Tg_t : RdM) : (oread_c1 t s5 u1_8 Tg_t = true) ↔ ((0 < s5) ∧ (Tg_t.f.e = 0)) := by
  unfold oread_c1; exact (ci2 beq_iff_eq)
theorem oread_c2_iff (t : RdM) (s5 : Int) (u1_8 : List TagM) (Tg_t : RdM) : (oread_c2 t s5 u1_8 Tg_t = true) ↔ ((0 < s5) ∧ (Tg_t.f.e = 0)) := by
  unfold oread_c2; exact (ci2 beq_iff_eq)
theorem oread_ok (X : List Nat) (w : World) (g_t : Nat) (q_t : Option Nat) (t : RdM) (z2 : (Ek ⟨g_t, q_t⟩ t)) (hs : St X w [(some g_t, Cl (rdC q_t t) 110), (q_t, Cl (ftC t) 163)] []) :
    Fn Tryz.prog 13 [.pointer (some ⟨g_t, 0, none⟩)] w fun v w' => ∃ (A1 : Option Addr) (C1 : Nat) (q' : Option Nat), v = .agg #[.int .i64 (((oread_m t).1).act), sv (((oread_m t).1).name), .int .i64 (((oread_m t).1).val), .int .i64 ((((oread_m t).1).tag).id.origin), .int .u32 ((((oread_m t).1).tag).id.seq), .int .i64 ((((oread_m t).1).tag).n), .int .u32 ((((oread_m t).1).atF).time), .int .i64 ((((oread_m t).1).atF).origin), .slice A1 (((oread_m t).1).tags).length C1] ∧ (Ek ⟨g_t, q'⟩ ((oread_m t).2)) ∧ St X w' [(some g_t, Cl (rdC q' ((oread_m t).2)) 110), (q', Cl (ftC ((oread_m t).2)) 163)] [kS A1 (((oread_m t).1).tags).length C1 3 ((((oread_m t).1).tags).flatMap tagMC)] ∧ Fr (keys [(some g_t, Cl (rdC q_t t) 110), (q_t, Cl (ftC t) 163)]) w w' ∧ (∀ k ∈ keys [(some g_t, Cl (rdC q' ((oread_m t).2)) 110), (q', Cl (ftC ((oread_m t).2)) 163)], k ∈ (keys [(some g_t, Cl (rdC q_t t) 110), (q_t, Cl (ftC t) 163)]) ∨ w.heap.size ≤ k) := by
  refine Fn_of 58 Ty.en_13 Tryz.func13 rfl rfl rfl ?_
  dsimp only [argEnv]
  have hs0 := hs
  have st : St X w [(some g_t, Cl (rdC q_t t) 110), (q_t, Cl (ftC t) 163)] [] := hs
  have hF := Fr.refl (keys [(some g_t, Cl (rdC q_t t) 110), (q_t, Cl (ftC t) 163)]) w
  have hfo1 : ∀ k ∈ keys [(some g_t, Cl (rdC q_t t) 110), (q_t, Cl (ftC t) 163)], k ∈ (keys [(some g_t, Cl (rdC q_t t) 110), (q_t, Cl (ftC t) 163)]) ∨ w.heap.size ≤ k := fun k hk => .inl (by first | exact hk | (simp [keys] at hk ⊢; simp [hk]))
  refine sq fun _ k1 => rg (La rfl (Sal Ty.zc_59 st hF rfl fun g1 w1 (st : St _ _ [_, _, _] _) hF hg1 => Ln k1 (sq fun _ k2 => rg (Lm rfl (La rfl (a_call rfl rfl rfl rfl (sInt_ok (keys (pickL (hOf st) [2]) ++ X) _ g_t q_t t z2 6 (st.sub [2] [0, 1] [] (by decide)) (by first | decide | omega)) (fun v w2 ⟨q1, hv, hok1, hN1, hfO1, hkc1⟩ => ?_)))))))
  subst hv
  have hfo2 : ∀ k ∈ keys [(some g_t, Cl (rdC q1 ((rint_m t 6).2)) 110), (q1, Cl (ftC ((rint_m t 6).2)) 163)], k ∈ (keys [(some g_t, Cl (rdC q_t t) 110), (q_t, Cl (ftC t) 163)]) ∨ w.heap.size ≤ k := fun k hk => (hkc1 k (hk)).elim (fun h => (kc_app hfo1 (kc_n)) k h) (fun h => .inr (Nat.le_trans hF.size h))
  have st := st.callS [2] [0, 1] (by decide) rfl hN1 hfO1 hkc1
  have hF := hF.step hfO1 (kc_app hfo1 (kc_n))
  have st : St X w2 [_, _, _] [] := st
  have hrvu1 : 0 ≤ ((rint_m t 6).1) ∧ ((rint_m t 6).1) ≤ 1048576 := by first | exact rint_le (by assumption) (by decide) | exact rint_le (Ek.r (by assumption)) (by decide)
  refine Ly rfl (y_build (cells := [_, _, _, _, _, _, _, _, _]) rfl rfl Ty.zc_59 Ty.ps_59 rfl) (La rfl (Sal Ty.zc_59 st hF rfl fun g2 w3 (st : St _ _ [_, _, _, _] _) hF hg2 => La rfl (Ssw 3 Ty.sz_59 st hF (.inr hg2) rfl fun w4 (st : St _ _ [_, _, _, _] _) hF => Ln k2 (sq fun _ k3 => rg (Lm rfl (La rfl (a_call rfl rfl rfl rfl (sText_ok (keys (pickL (hOf st) [0, 3]) ++ X) _ g_t q1 ((rint_m t 6).2) hok1 12 (st.sub [0, 3] [1, 2] [] (by decide)) (by first | decide | omega)) (fun v w5 ⟨q2, hv, hok2, hN2, hfO2, hkc2⟩ => ?_))))))))
  subst hv
  have hfo3 : ∀ k ∈ keys [(some g_t, Cl (rdC q2 ((rtext_m ((rint_m t 6).2) 12).2)) 110), (q2, Cl (ftC ((rtext_m ((rint_m t 6).2) 12).2)) 163)], k ∈ (keys [(some g_t, Cl (rdC q_t t) 110), (q_t, Cl (ftC t) 163)]) ∨ w.heap.size ≤ k := fun k hk => (hkc2 k (hk)).elim (fun h => (kc_app hfo2 (kc_n)) k h) (fun h => .inr (Nat.le_trans hF.size h))
  have st := st.callS [0, 3] [1, 2] (by decide) rfl hN2 hfO2 hkc2
  have hF := hF.step hfO2 (kc_app hfo2 (kc_n))
  have st : St X w5 [_, _, _, _] [] := st
  refine Ly rfl (yf rfl Ty.fo_59_1) (La rfl (Ss1 1 Ty.sz_9 st hF (.inr hg2) rfl fun w6 (st : St _ _ [_, (_, Cl [_, _, _, _, _, _, _, _, _] _), _, _] _) hF => Ln k3 (sq fun _ k4 => rg (Lm rfl (La rfl (a_call rfl rfl rfl rfl (oRsigned_ok (keys (pickL (hOf st) [0, 1]) ++ X) _ g_t q2 ((rtext_m ((rint_m t 6).2) 12).2) hok2 (st.sub [0, 1] [2, 3] [] (by decide))) (fun v w7 ⟨q3, hv, hok3, hN3, hfO3, hkc3⟩ => ?_)))))))
  subst hv
  have hfo4 : ∀ k ∈ keys [(some g_t, Cl (rdC q3 ((oRsigned_m ((rtext_m ((rint_m t 6).2) 12).2)).2)) 110), (q3, Cl (ftC ((oRsigned_m ((rtext_m ((rint_m t 6).2) 12).2)).2)) 163)], k ∈ (keys [(some g_t, Cl (rdC q_t t) 110), (q_t, Cl (ftC t) 163)]) ∨ w.heap.size ≤ k := fun k hk => (hkc3 k (hk)).elim (fun h => (kc_app hfo3 (kc_n)) k h) (fun h => .inr (Nat.le_trans hF.size h))
  have st := st.callS [0, 1] [2, 3] (by decide) rfl hN3 hfO3 hkc3
  have hF := hF.step hfO3 (kc_app hfo3 (kc_n))
  have st : St X w7 [_, _, _, _] [] := st
  refine Ly rfl (yf rfl Ty.fo_59_2) (La rfl (Ss1 1 Ty.sz_2 st hF (.inr hg2) rfl fun w8 (st : St _ _ [_, (_, Cl [_, _, _, _, _, _, _, _, _] _), _, _] _) hF => Ln k4 (sq fun _ k5 => rg (Lm rfl (La rfl (a_call rfl rfl rfl rfl (ireadTag_ok (keys (pickL (hOf st) [0, 1]) ++ X) _ g_t q3 ((oRsigned_m ((rtext_m ((rint_m t 6).2) 12).2)).2) hok3 (st.sub [0, 1] [2, 3] [] (by decide))) (fun v w9 ⟨q4, hv, hok4, hN4, hfO4, hkc4⟩ => ?_)))))))
  subst hv
  have hfo5 : ∀ k ∈ keys [(some g_t, Cl (rdC q4 ((ireadTag_m ((oRsigned_m ((rtext_m ((rint_m t 6).2) 12).2)).2)).2)) 110), (q4, Cl (ftC ((ireadTag_m ((oRsigned_m ((rtext_m ((rint_m t 6).2) 12).2)).2)).2)) 163)], k ∈ (keys [(some g_t, Cl (rdC q_t t) 110), (q_t, Cl (ftC t) 163)]) ∨ w.heap.size ≤ k := fun k hk => (hkc4 k (hk)).elim (fun h => (kc_app hfo4 (kc_n)) k h) (fun h => .inr (Nat.le_trans hF.size h))
  have st := st.callS [0, 1] [2, 3] (by decide) rfl hN4 hfO4 hkc4
  have hF := hF.step hfO4 (kc_app hfo4 (kc_n))
  have st : St X w9 [_, _, _, _] [] := st
  refine Ly rfl (yf rfl Ty.fo_59_3) (La rfl (Ssm 1 Ty.sz_43 st hF (.inr hg2) rfl fun w10 (st : St _ _ [_, (_, Cl [_, _, _, _, _, _, _, _, _] _), _, _] _) hF => Ln k5 (sq fun _ k6 => rg (Ly rfl (yf rfl Ty.fo_59_0) (Ly rfl (yl 1 Ty.pl_3 st rfl) (La rfl (Scl st hF rfl (oform_ok _ ((rint_m t 6).1)) fun w11 st hF => La rfl (Sal Ty.zc_104 st hF rfl fun g3 w12 (st : St _ _ [_, _, _, _, _] _) hF hg3 => La rfl (Ssw 4 Ty.sz_104 st hF (.inr hg3) rfl fun w13 (st : St _ _ [_, _, _, _, _] _) hF => Ln k6 (sq fun _ k7 => sq fun _ k8 => rg (Ly rfl (yf rfl Ty.fo_104_2) (Ly rfl (yl 4 Ty.pl_4 st rfl) (Ln k8 (cB rfl (fun hc1 => ?_) (fun hc1 => ?_)))))))))))))))
  · refine rg (Lm rfl (La rfl (a_call rfl rfl rfl rfl (lread_ok (keys (pickL (hOf st) [0, 1, 4]) ++ X) _ g_t q4 ((ireadTag_m ((oRsigned_m ((rtext_m ((rint_m t 6).2) 12).2)).2)).2) hok4 (st.sub [0, 1, 4] [2, 3] [] (by decide))) (fun v w14 ⟨q5, hv, hok5, hN5, hfO5, hkc5⟩ => ?_))))
    subst hv
    have hfo6 : ∀ k ∈ keys [(some g_t, Cl (rdC q5 ((lread_m ((ireadTag_m ((oRsigned_m ((rtext_m ((rint_m t 6).2) 12).2)).2)).2)).2)) 110), (q5, Cl (ftC ((lread_m ((ireadTag_m ((oRsigned_m ((rtext_m ((rint_m t 6).2) 12).2)).2)).2)).2)) 163)], k ∈ (keys [(some g_t, Cl (rdC q_t t) 110), (q_t, Cl (ftC t) 163)]) ∨ w.heap.size ≤ k := fun k hk => (hkc5 k (hk)).elim (fun h => (kc_app hfo5 (kc_n)) k h) (fun h => .inr (Nat.le_trans hF.size h))
    have st := st.callS [0, 1, 4] [2, 3] (by decide) rfl hN5 hfO5 hkc5
    have hF := hF.step hfO5 (kc_app hfo5 (kc_n))
    have st : St X w14 [_, _, _, _, _] [] := st
    refine Ly rfl (yf rfl Ty.fo_59_4) (La rfl (Ssm 1 Ty.sz_24 st hF (.inr hg2) rfl fun w15 (st : St _ _ [_, (_, Cl [_, _, _, _, _, _, _, _, _] _), _, _, _] _) hF => Ln k7 (sq fun _ k9 => sq fun _ k10 => rg (Ly rfl (yf rfl Ty.fo_104_3) (Ly rfl (yl 2 Ty.pl_4 st rfl) (Ln k10 (cB rfl (fun hc2 => ?_) (fun hc2 => ?_))))))))
    · refine sq fun _ k11 => rg (Lm rfl (La rfl (a_call rfl rfl rfl rfl (sInt_ok (keys (pickL (hOf st) [0, 1, 2]) ++ X) _ g_t q5 ((lread_m ((ireadTag_m ((oRsigned_m ((rtext_m ((rint_m t 6).2) 12).2)).2)).2)).2) hok5 4096 (st.sub [0, 1, 2] [3, 4] [] (by decide)) (by first | decide | omega)) (fun v w16 ⟨q6, hv, hok6, hN6, hfO6, hkc6⟩ => ?_))))
      subst hv
      have hfo7 : ∀ k ∈ keys [(some g_t, Cl (rdC q6 ((rint_m ((lread_m ((ireadTag_m ((oRsigned_m ((rtext_m ((rint_m t 6).2) 12).2)).2)).2)).2) 4096).2)) 110), (q6, Cl (ftC ((rint_m ((lread_m ((ireadTag_m ((oRsigned_m ((rtext_m ((rint_m t 6).2) 12).2)).2)).2)).2) 4096).2)) 163)], k ∈ (keys [(some g_t, Cl (rdC q_t t) 110), (q_t, Cl (ftC t) 163)]) ∨ w.heap.size ≤ k := fun k hk => (hkc6 k (hk)).elim (fun h => (kc_app hfo6 (kc_n)) k h) (fun h => .inr (Nat.le_trans hF.size h))
      have st := st.callS [0, 1, 2] [3, 4] (by decide) rfl hN6 hfO6 hkc6
      have hF := hF.step hfO6 (kc_app hfo6 (kc_n))
      have st : St X w16 [_, _, _, _, _] [] := st
      have hrvu2 : 0 ≤ ((rint_m ((lread_m ((ireadTag_m ((oRsigned_m ((rtext_m ((rint_m t 6).2) 12).2)).2)).2)).2) 4096).1) ∧ ((rint_m ((lread_m ((ireadTag_m ((oRsigned_m ((rtext_m ((rint_m t 6).2) 12).2)).2)).2)).2) 4096).1) ≤ 1048576 := by first | exact rint_le (by assumption) (by decide) | exact rint_le (Ek.r (by assumption)) (by decide)
      refine Ls' rfl (Ln k11 (Wp_block ?_))
      obtain ⟨st, how1, hnew1⟩ := st.rowN tagMC hF 3 43
      have st : St _ _ [_, _, _, _, _, _] _ := st
      refine lp (fun q E W => ∃ (s5 : Int) (u1_8 : List TagM) (Tg_t : RdM) (Au1_8 : Option Addr) (cu1_8 : Nat) (spu1_8 : List Value) (q_Tg_t : Option Nat), E = [(0, .pointer (some ⟨g_t, 0, none⟩)), (2, .pointer (some ⟨g1, 0, none⟩)), (3, .pointer (some ⟨g2, 0, none⟩)), (5, .int .i64 s5)] ∧ jq q (fun m => (oread_L1 t m s5 u1_8 Tg_t = oread_L1 t (((rint_m ((lread_m ((ireadTag_m ((oRsigned_m ((rtext_m ((rint_m t 6).2) 12).2)).2)).2)).2) 4096).1).toNat + 1) ((rint_m ((lread_m ((ireadTag_m ((oRsigned_m ((rtext_m ((rint_m t 6).2) 12).2)).2)).2)).2) 4096).1) ([] : List TagM) ((rint_m ((lread_m ((ireadTag_m ((oRsigned_m ((rtext_m ((rint_m t 6).2) 12).2)).2)).2)).2) 4096).2) ∧ s5.toNat < m)) (oread_L1 t (((rint_m ((lread_m ((ireadTag_m ((oRsigned_m ((rtext_m ((rint_m t 6).2) 12).2)).2)).2)).2) 4096).1).toNat + 1) ((rint_m ((lread_m ((ireadTag_m ((oRsigned_m ((rtext_m ((rint_m t 6).2) 12).2)).2)).2)).2) 4096).1) ([] : List TagM) ((rint_m ((lread_m ((ireadTag_m ((oRsigned_m ((rtext_m ((rint_m t 6).2) 12).2)).2)).2)).2) 4096).2) = .inr (s5, u1_8, Tg_t)) ∧ (0 ≤ s5 ∧ (u1_8.length : Int) + s5 ≤ 1048576) ∧ Ow Au1_8 u1_8.length cu1_8 3 (u1_8.flatMap tagMC) spu1_8 ∧ (∀ g, blkOf Au1_8 = some g → g ∈ (keys [(some g_t, Cl (rdC q_t t) 110), (q_t, Cl (ftC t) 163)]) ∨ w.heap.size ≤ g) ∧ (Ek ⟨g_t, q_Tg_t⟩ Tg_t) ∧ (∀ k ∈ keys [(some g_t, Cl (rdC q_Tg_t Tg_t) 110), (q_Tg_t, Cl (ftC Tg_t) 163)], k ∈ (keys [(some g_t, Cl (rdC q_t t) 110), (q_t, Cl (ftC t) 163)]) ∨ w.heap.size ≤ k) ∧ St X W [(some g1, Cl [.int .i64 0, sv [], .int .i64 0, .int .i64 0, .int .u32 0, .int .i64 0, .int .u32 0, .int .i64 0, .slice none 0 0] 59), (some g2, Cl [.int .i64 ((rint_m t 6).1), sv ((rtext_m ((rint_m t 6).2) 12).1), .int .i64 ((oRsigned_m ((rtext_m ((rint_m t 6).2) 12).2)).1), .int .i64 (((ireadTag_m ((oRsigned_m ((rtext_m ((rint_m t 6).2) 12).2)).2)).1).id.origin), .int .u32 (((ireadTag_m ((oRsigned_m ((rtext_m ((rint_m t 6).2) 12).2)).2)).1).id.seq), .int .i64 (((ireadTag_m ((oRsigned_m ((rtext_m ((rint_m t 6).2) 12).2)).2)).1).n), .int .u32 (((lread_m ((ireadTag_m ((oRsigned_m ((rtext_m ((rint_m t 6).2) 12).2)).2)).2)).1).time), .int .i64 (((lread_m ((ireadTag_m ((oRsigned_m ((rtext_m ((rint_m t 6).2) 12).2)).2)).2)).1).origin), .slice Au1_8 u1_8.length cu1_8] 59), (some g3, Cl [.bool ((oform_m ((rint_m t 6).1)).name), .bool ((oform_m ((rint_m t 6).1)).val), .bool ((oform_m ((rint_m t 6).1)).atF), .bool ((oform_m ((rint_m t 6).1)).tags)] 104), (some g_t, Cl (rdC q_Tg_t Tg_t) 110), (q_Tg_t, Cl (ftC Tg_t) 163), (blkOf Au1_8, Cl (u1_8.flatMap tagMC ++ spu1_8) 43)] [] ∧ Fr (keys [(some g_t, Cl (rdC q_t t) 110), (q_t, Cl (ftC t) 163)]) w W) (((rint_m ((lread_m ((ireadTag_m ((oRsigned_m ((rtext_m ((rint_m t 6).2) 12).2)).2)).2)).2) 4096).1).toNat + 1) [(0, _), (2, _), (3, _), (5, _)] ⟨rfl, rfl, rfl, rfl, trivial⟩ ⟨_, _, _, _, _, _, _, rfl, ⟨rfl, Nat.lt_succ_self _⟩, by first | omega | (simp; done) | (simp; omega), how1, hnew1, hok6, hfo7, st, hF⟩ k9 ?_ fun hout1 => ?_
      · rintro E w17 ⟨s5, u1_8, Tg_t, Au1_8, cu1_8, spu1_8, q_Tg_t, rfl, hLk1, hinv, howu1_8, newu1_8, hokTg_t, hfoTg_t, st, hF⟩
        unfold jq at hLk1; dsimp only at hLk1
        refine sq fun _ k12 => sq fun _ k13 => rg (Lm rfl (La rfl (a_call rfl rfl rfl rfl (sErr_ok (keys (pickL (hOf st) [0, 1, 2, 5]) ++ X) _ g_t q_Tg_t Tg_t hokTg_t (st.sub [0, 1, 2, 5] [3, 4] [] (by decide))) (fun v w18 ⟨hv, hf⟩ => ?_))))
        subst hv
        have st := st.keep0 hf
        have hF := hF.step0 hf
        have st : St X w18 [_, _, _, _, _, _] [] := st
        refine Ly rfl (y_eqE rfl rfl Tryz.underlying108 hokTg_t.2) (Ln k13 (cE rfl (fun hc3 => ?_) (fun hc3 => ?_)))
        · refine rg (Lm rfl (Ly rfl (yw 1 Ty.ag_59 st rfl) (La rfl (Scl st hF rfl (ocheckE_ok (keys (pickL (hOf st) [0, 1, 2, 3, 4]) ++ X) _ (st.sub [0, 1, 2, 3, 4] [] [] (by decide)).lo (⟨(rint_m t 6).1, (rtext_m ((rint_m t 6).2) 12).1, (oRsigned_m ((rtext_m ((rint_m t 6).2) 12).2)).1, (⟨(⟨((ireadTag_m ((oRsigned_m ((rtext_m ((rint_m t 6).2) 12).2)).2)).1).id.origin, ((ireadTag_m ((oRsigned_m ((rtext_m ((rint_m t 6).2) 12).2)).2)).1).id.seq⟩ : IdM), ((ireadTag_m ((oRsigned_m ((rtext_m ((rint_m t 6).2) 12).2)).2)).1).n⟩ : TagM), (⟨((lread_m ((ireadTag_m ((oRsigned_m ((rtext_m ((rint_m t 6).2) 12).2)).2)).2)).1).time, ((lread_m ((ireadTag_m ((oRsigned_m ((rtext_m ((rint_m t 6).2) 12).2)).2)).2)).1).origin⟩ : StampM), u1_8⟩ : EffectM) Au1_8 cu1_8 ((st.freeze (i := 5) [0, 1, 2, 3, 4] (by decide) rfl howu1_8 (by decide)).k (i := 0) rfl)) fun w19 st hF => ?_))))
          refine La rfl (a_call rfl rfl rfl rfl (sFail_ok (keys (pickL (hOf st) [0, 1, 2, 5]) ++ X) _ g_t q_Tg_t Tg_t hokTg_t (ocheckE_m (⟨(rint_m t 6).1, (rtext_m ((rint_m t 6).2) 12).1, (oRsigned_m ((rtext_m ((rint_m t 6).2) 12).2)).1, (⟨(⟨((ireadTag_m ((oRsigned_m ((rtext_m ((rint_m t 6).2) 12).2)).2)).1).id.origin, ((ireadTag_m ((oRsigned_m ((rtext_m ((rint_m t 6).2) 12).2)).2)).1).id.seq⟩ : IdM), ((ireadTag_m ((oRsigned_m ((rtext_m ((rint_m t 6).2) 12).2)).2)).1).n⟩ : TagM), (⟨((lread_m ((ireadTag_m ((oRsigned_m ((rtext_m ((rint_m t 6).2) 12).2)).2)).2)).1).time, ((lread_m ((ireadTag_m ((oRsigned_m ((rtext_m ((rint_m t 6).2) 12).2)).2)).2)).1).origin⟩ : StampM), u1_8⟩ : EffectM)) (st.sub [0, 1, 2, 5] [3, 4] [] (by decide))) (fun v w20 ⟨q7, hv, hok7, hN7, hfO7, hkc7⟩ => ?_))
          subst hv
          have hfo8 : ∀ k ∈ keys [(some g_t, Cl (rdC q7 (rfail_m Tg_t (ocheckE_m (⟨(rint_m t 6).1, (rtext_m ((rint_m t 6).2) 12).1, (oRsigned_m ((rtext_m ((rint_m t 6).2) 12).2)).1, (⟨(⟨((ireadTag_m ((oRsigned_m ((rtext_m ((rint_m t 6).2) 12).2)).2)).1).id.origin, ((ireadTag_m ((oRsigned_m ((rtext_m ((rint_m t 6).2) 12).2)).2)).1).id.seq⟩ : IdM), ((ireadTag_m ((oRsigned_m ((rtext_m ((rint_m t 6).2) 12).2)).2)).1).n⟩ : TagM), (⟨((lread_m ((ireadTag_m ((oRsigned_m ((rtext_m ((rint_m t 6).2) 12).2)).2)).2)).1).time, ((lread_m ((ireadTag_m ((oRsigned_m ((rtext_m ((rint_m t 6).2) 12).2)).2)).2)).1).origin⟩ : StampM), u1_8⟩ : EffectM)))) 110), (q7, Cl (ftC (rfail_m Tg_t (ocheckE_m (⟨(rint_m t 6).1, (rtext_m ((rint_m t 6).2) 12).1, (oRsigned_m ((rtext_m ((rint_m t 6).2) 12).2)).1, (⟨(⟨((ireadTag_m ((oRsigned_m ((rtext_m ((rint_m t 6).2) 12).2)).2)).1).id.origin, ((ireadTag_m ((oRsigned_m ((rtext_m ((rint_m t 6).2) 12).2)).2)).1).id.seq⟩ : IdM), ((ireadTag_m ((oRsigned_m ((rtext_m ((rint_m t 6).2) 12).2)).2)).1).n⟩ : TagM), (⟨((lread_m ((ireadTag_m ((oRsigned_m ((rtext_m ((rint_m t 6).2) 12).2)).2)).2)).1).time, ((lread_m ((ireadTag_m ((oRsigned_m ((rtext_m ((rint_m t 6).2) 12).2)).2)).2)).1).origin⟩ : StampM), u1_8⟩ : EffectM)))) 163)], k ∈ (keys [(some g_t, Cl (rdC q_t t) 110), (q_t, Cl (ftC t) 163)]) ∨ w.heap.size ≤ k := fun k hk => (hkc7 k (hk)).elim (fun h => (kc_app hfoTg_t (kc_n)) k h) (fun h => .inr (Nat.le_trans hF.size h))
          have st := st.callS [0, 1, 2, 5] [3, 4] (by decide) rfl hN7 hfO7 hkc7
          have hF := hF.step hfO7 (kc_app hfoTg_t (kc_n))
          have st : St X w20 [_, _, _, _, _, _] [] := st
          refine Ln k12 (sq fun _ k14 => sq fun _ k15 => rg (Lm rfl (La rfl (a_call rfl rfl rfl rfl (sErr_ok (keys (pickL (hOf st) [0, 1, 2, 3]) ++ X) _ g_t q7 (rfail_m Tg_t (ocheckE_m (⟨(rint_m t 6).1, (rtext_m ((rint_m t 6).2) 12).1, (oRsigned_m ((rtext_m ((rint_m t 6).2) 12).2)).1, (⟨(⟨((ireadTag_m ((oRsigned_m ((rtext_m ((rint_m t 6).2) 12).2)).2)).1).id.origin, ((ireadTag_m ((oRsigned_m ((rtext_m ((rint_m t 6).2) 12).2)).2)).1).id.seq⟩ : IdM), ((ireadTag_m ((oRsigned_m ((rtext_m ((rint_m t 6).2) 12).2)).2)).1).n⟩ : TagM), (⟨((lread_m ((ireadTag_m ((oRsigned_m ((rtext_m ((rint_m t 6).2) 12).2)).2)).2)).1).time, ((lread_m ((ireadTag_m ((oRsigned_m ((rtext_m ((rint_m t 6).2) 12).2)).2)).2)).1).origin⟩ : StampM), u1_8⟩ : EffectM))) hok7 (st.sub [0, 1, 2, 3] [4, 5] [] (by decide))) (fun v w21 ⟨hv, hf⟩ => ?_)))))
          subst hv
          have st := st.keep0 hf
          have hF := hF.step0 hf
          have st : St X w21 [_, _, _, _, _, _] [] := st
          refine Ly rfl (y_neE rfl rfl Tryz.underlying108 hok7.2) (Ln k15 (cN rfl (fun hc4 => ?_) (fun hc4 => ?_)))
          · refine sq fun _ k16 => rg (Ly rfl (y_build (cells := [_, _, _, _, _, _, _, _, _]) rfl rfl Ty.zc_59 Ty.ps_59 rfl) (La rfl (Ssw 0 Ty.sz_59 st hF (.inr hg1) rfl fun w22 (st : St _ _ [_, _, _, _, _, _] _) hF => Ln k16 ?_)))
            have st := st.aN 3
            refine wR (Th_r (fR (ResN1 rfl (rvc (i := 0) rfl Ty.ag_59 st.hp rfl rfl)) ?_))
            unfold oread_m; rewrite [iP hc1, iP hc2, hLk1]; (try dsimp only); rewrite [iP hc3, iN hc4]
            exact ⟨_, _, _, rfl, hok7, (st.pk [4, 5] (by decide)).pickK [0], hF, kc_app hfo8 (kc_n)⟩
          refine sk k14 (sq fun _ k17 => rg (Ly rfl (yw 1 Ty.ag_59 st rfl) (La rfl (Ssw 0 Ty.sz_59 st hF (.inr hg1) rfl fun w23 (st : St _ _ [_, _, _, _, _, _] _) hF => Ln k17 ?_))))
          have st : St X w23 [_, _, _, _, _] [_] := st.freeze (i := 3) [0, 1, 2, 4, 5] (by decide) rfl howu1_8 (by decide)
          refine wR (fR (ResN1 rfl (rvc (i := 0) rfl Ty.ag_59 st.hp rfl rfl)) ?_)
          unfold oread_m; rewrite [iP hc1, iP hc2, hLk1]; (try dsimp only); rewrite [iP hc3, iP hc4]
          exact ⟨_, _, _, rfl, hok7, (st.pk [3, 4] (by decide)).pickK [0], hF, kc_app hfo8 (kc_n)⟩
        refine sk k12 (sq fun _ k18 => sq fun _ k19 => rg (Lm rfl (La rfl (a_call rfl rfl rfl rfl (sErr_ok (keys (pickL (hOf st) [0, 1, 2, 5]) ++ X) _ g_t q_Tg_t Tg_t hokTg_t (st.sub [0, 1, 2, 5] [3, 4] [] (by decide))) (fun v w24 ⟨hv, hf⟩ => ?_)))))
        subst hv
        have st := st.keep0 hf
        have hF := hF.step0 hf
        have st : St X w24 [_, _, _, _, _, _] [] := st
        refine Ly rfl (y_neE rfl rfl Tryz.underlying108 hokTg_t.2) (Ln k19 (Wp_cond rfl (fun _ => ?_) (fun hc5 => absurd hc5 (by simp [hc3]))))
        refine sq fun _ k20 => rg (Ly rfl (y_build (cells := [_, _, _, _, _, _, _, _, _]) rfl rfl Ty.zc_59 Ty.ps_59 rfl) (La rfl (Ssw 0 Ty.sz_59 st hF (.inr hg1) rfl fun w25 (st : St _ _ [_, _, _, _, _, _] _) hF => Ln k20 ?_)))
        have st := st.aN 3
        refine wR (Th_r (fR (ResN1 rfl (rvc (i := 0) rfl Ty.ag_59 st.hp rfl rfl)) ?_))
        unfold oread_m; rewrite [iP hc1, iP hc2, hLk1]; (try dsimp only); rewrite [iN hc3]
        exact ⟨_, _, _, rfl, hokTg_t, (st.pk [3, 4] (by decide)).pickK [0], hF, kc_app hfoTg_t (kc_n)⟩
      rintro m E w26 ⟨s5, u1_8, Tg_t, Au1_8, cu1_8, spu1_8, q_Tg_t, rfl, ⟨hL1, hmu⟩, hinv, howu1_8, newu1_8, hokTg_t, hfoTg_t, st, hF⟩
      obtain ⟨fuel, rfl⟩ : ∃ q, m = q + 1 := ⟨m - 1, by omega⟩
      have z1 := Ow.le howu1_8
      refine sq fun _ k21 => sq fun _ k22 => ?_
      refine use_out k22 (fun E W => E = [(0, .pointer (some ⟨g_t, 0, none⟩)), (2, .pointer (some ⟨g1, 0, none⟩)), (3, .pointer (some ⟨g2, 0, none⟩)), (5, .int .i64 s5), (36, .bool (oread_c1 t s5 u1_8 Tg_t))] ∧ St X W (hOf st) (kOf st) ∧ Fr (keys [(some g_t, Cl (rdC q_t t) 110), (q_t, Cl (ftC t) 163)]) w W) ?_ fun hout2 => ?_
      · rintro E w27 ⟨rfl, st, hF⟩
        have st : St X w27 [_, _, _, _, _, _] [] := st
        refine cB rfl (fun hc6 => ?_) (fun hc6 => ?_)
        · have jhc6 := (oread_c1_iff t s5 u1_8 Tg_t).1 hc6
          refine sk k21 (sq fun _ k23 => Wp_block ?_)
          refine Wp_planF (fun W => St X W (pickL (hOf st) [0, 1, 2]) (kOf st)) [(true, 0), (true, 1), (true, 2), (false, 3), (false, 4), (false, 5), (true, 6)] 7 Ty.mx_0 (by kernel_rfl) (by kernel_rfl) (by kernel_rfl) rfl ((st.pk [0, 1, 2] (by decide)).drew) ?_
          have st := st.drew
          have hF := hF.step0 (Fr.drew _)
          refine Py rfl (yf rfl Ty.fo_59_5) (Py rfl (y_load (i := 1) rfl rfl Ty.pl_30 (fun _ h => h.hp) rfl rfl) (Pm rfl (Pl_a rfl (wtd0 rfl) (by rfl) ?_)))
          refine a_call rfl rfl rfl rfl (ireadTag_ok (keys (pickL (hOf st) [0, 1, 2, 5]) ++ X) _ g_t q_Tg_t Tg_t hokTg_t (st.sub [0, 1, 2, 5] [3, 4] [] (by decide))) (fun v w28 ⟨q8, hv, hok8, hN8, hfO8, hkc8⟩ => ?_)
          subst hv
          have hfo9 : ∀ k ∈ keys [(some g_t, Cl (rdC q8 ((ireadTag_m Tg_t).2)) 110), (q8, Cl (ftC ((ireadTag_m Tg_t).2)) 163)], k ∈ (keys [(some g_t, Cl (rdC q_t t) 110), (q_t, Cl (ftC t) 163)]) ∨ w.heap.size ≤ k := fun k hk => (hkc8 k (hk)).elim (fun h => (kc_app hfoTg_t (kc_n)) k h) (fun h => .inr (Nat.le_trans hF.size h))
          have st := st.callS [0, 1, 2, 5] [3, 4] (by decide) rfl hN8 hfO8 hkc8
          have hF := hF.step hfO8 (kc_app hfoTg_t (kc_n))
          have st : St X w28 [_, _, _, _, _, _] [] := st
          refine ⟨(st.pk [0, 1, 2] (by decide)).tK 0, ?_⟩
          refine Pl_a rfl (wtd0 rfl) (by rfl) ?_
          refine Sb (enc := tagMC) ((ireadTag_m Tg_t).1) Ty.es_30 Ty.zc_43 (fun _ => rfl) st hF rfl fun g4 w29 how2 hnew2 (st : St _ _ [_, _, _, _, _, _, _] _) hF => ?_
          refine ⟨(st.pk [0, 1, 2] (by decide)).tK 0, ?_⟩
          refine Pl_a rfl (wtd0 rfl) (by rfl) ?_
          refine Sap (enc := tagMC) u1_8 [(ireadTag_m Tg_t).1] 3 Ty.es_30 Ty.zc_43 Ty.by_43 (fun _ => rfl) tagMC_1 howu1_8 newu1_8 st hF (own_src (i := 6) st.hp rfl how2) (own_none how2) rfl (by first | omega | (simp; done) | (simp; omega)) (by first | omega | (simp; done) | (simp; omega)) fun Aa1 ca1 sp1 w30 how3 hnew3 (st : St _ _ [_, _, _, _, _, _, _] _) hF => ?_
          refine ⟨(st.pk [0, 1, 2] (by decide)).tK 0, ?_⟩
          refine Py rfl (yf rfl Ty.fo_59_5) (Pl_nil (Fin_a rfl (wtd0 rfl) (Ss1 1 Ty.sz_30 st hF (.inr hg2) rfl fun w31 (st : St _ _ [_, (_, Cl [_, _, _, _, _, _, _, _, _] _), _, _, _, _, _] _) hF => id (Ib_n (Th_n (k23 _ _ (rg (Lm rfl (Ly rfl (y_sub (c := s5 - 1) rfl rfl rfl (wf_i64 (by first | omega | (simp; done) | (simp; omega)))) ?_)))))))))
          refine Ls' rfl (Ls_nil (Th_n (?_)))
          exact ⟨fuel, [(0, _), (2, _), (3, _), (5, _)], Nat.lt_succ_self _, ⟨rfl, rfl, rfl, rfl, trivial⟩, (s5 - 1), (u1_8 ++ [(ireadTag_m Tg_t).1]), ((ireadTag_m Tg_t).2), Aa1, ca1, sp1, q8, rfl, ⟨by rewrite [← hL1, oread_L1]; rewrite [iP hc6]; rfl, by first | omega | (simp; done) | (simp; omega)⟩, by first | omega | (simp; done) | (simp; omega), how3, hnew3, hok8, hfo9, (st.pk [0, 1, 2, 4, 5, 3] (by decide)).pickK [], hF⟩
        have jhc6 := mt (oread_c1_iff t s5 u1_8 Tg_t).2 hc6
        refine Wp_exit (Th_e (Th_e (Ib_hit (Th_n (?_)))))
        exact hout1 _ [(0, _), (2, _), (3, _), (5, _)] _ ⟨rfl, rfl, rfl, rfl, trivial⟩ ⟨s5, u1_8, Tg_t, Au1_8, cu1_8, spu1_8, q_Tg_t, rfl, show _ = _ from by rewrite [← hL1, oread_L1]; rewrite [iN hc6]; rfl, by first | omega | (simp; done) | (simp; omega), howu1_8, newu1_8, hokTg_t, hfoTg_t, (st.pk [0, 1, 2, 3, 4, 5] (by decide)).pickK [], hF⟩
      refine rg (Lm rfl (Ly rfl (ygt rfl) (Lm rfl (bD (s := 32) rfl (fun hc7 => ?_) (fun hc7 => ?_)))))
      · refine LyT rfl (y_move rfl rfl) (LaT rfl (a_call rfl rfl rfl rfl (sErr_ok (keys (pickL (hOf st) [0, 1, 2, 5]) ++ X) _ g_t q_Tg_t Tg_t hokTg_t (st.sub [0, 1, 2, 5] [3, 4] [] (by decide))) (fun v w32 ⟨hv, hf⟩ => ?_)))
        subst hv
        have st := st.keep0 hf
        have hF := hF.step0 hf
        have st : St X w32 [_, _, _, _, _, _] [] := st
        refine LyT rfl (y_eqE rfl rfl Tryz.underlying108 hokTg_t.2) (Ly rfl (yT rfl) (Ls_nil (Th_n (?_))))
        exact hout2 _ [(0, _), (2, _), (3, _), (5, _), (36, _)] _ ⟨rfl, rfl, rfl, rfl, rfl, trivial⟩ ⟨by unfold oread_c1; rewrite [iP hc7]; rfl, (st.pk [0, 1, 2, 3, 4, 5] (by decide)).pickK [], hF⟩
      refine LsF rfl (LsF rfl (LsF rfl (Ly rfl (yF rfl) (Ls_nil (Th_n (?_))))))
      exact hout2 _ [(0, _), (2, _), (3, _), (5, _), (36, _)] _ ⟨rfl, rfl, rfl, rfl, rfl, trivial⟩ ⟨by unfold oread_c1; rewrite [iN hc7]; rfl, (st.pk [0, 1, 2, 3, 4, 5] (by decide)).pickK [], hF⟩
    refine sk k9 (sq fun _ k24 => sq fun _ k25 => rg (Lm rfl (La rfl (a_call rfl rfl rfl rfl (sErr_ok (keys (pickL (hOf st) [0, 1, 2]) ++ X) _ g_t q5 ((lread_m ((ireadTag_m ((oRsigned_m ((rtext_m ((rint_m t 6).2) 12).2)).2)).2)).2) hok5 (st.sub [0, 1, 2] [3, 4] [] (by decide))) (fun v w33 ⟨hv, hf⟩ => ?_)))))
    subst hv
    have st := st.keep0 hf
    have hF := hF.step0 hf
    have st : St X w33 [_, _, _, _, _] [] := st
    refine Ly rfl (y_eqE rfl rfl Tryz.underlying108 hok5.2) (Ln k25 (cE rfl (fun hc8 => ?_) (fun hc8 => ?_)))
    · refine rg (Lm rfl (Ly rfl (yw 1 Ty.ag_59 st rfl) ?_))
      have st := st.aN 3
      refine La rfl (Scl st hF rfl (ocheckE_ok (keys (hOf st) ++ X) _ st.Lo (⟨(rint_m t 6).1, (rtext_m ((rint_m t 6).2) 12).1, (oRsigned_m ((rtext_m ((rint_m t 6).2) 12).2)).1, (⟨(⟨((ireadTag_m ((oRsigned_m ((rtext_m ((rint_m t 6).2) 12).2)).2)).1).id.origin, ((ireadTag_m ((oRsigned_m ((rtext_m ((rint_m t 6).2) 12).2)).2)).1).id.seq⟩ : IdM), ((ireadTag_m ((oRsigned_m ((rtext_m ((rint_m t 6).2) 12).2)).2)).1).n⟩ : TagM), (⟨((lread_m ((ireadTag_m ((oRsigned_m ((rtext_m ((rint_m t 6).2) 12).2)).2)).2)).1).time, ((lread_m ((ireadTag_m ((oRsigned_m ((rtext_m ((rint_m t 6).2) 12).2)).2)).2)).1).origin⟩ : StampM), ([] : List TagM)⟩ : EffectM) none 0 (st.q 0 rfl)) fun w34 st hF => La rfl (a_call rfl rfl rfl rfl (sFail_ok (keys (pickL (hOf st) [0, 1, 2]) ++ X) _ g_t q5 ((lread_m ((ireadTag_m ((oRsigned_m ((rtext_m ((rint_m t 6).2) 12).2)).2)).2)).2) hok5 (ocheckE_m (⟨(rint_m t 6).1, (rtext_m ((rint_m t 6).2) 12).1, (oRsigned_m ((rtext_m ((rint_m t 6).2) 12).2)).1, (⟨(⟨((ireadTag_m ((oRsigned_m ((rtext_m ((rint_m t 6).2) 12).2)).2)).1).id.origin, ((ireadTag_m ((oRsigned_m ((rtext_m ((rint_m t 6).2) 12).2)).2)).1).id.seq⟩ : IdM), ((ireadTag_m ((oRsigned_m ((rtext_m ((rint_m t 6).2) 12).2)).2)).1).n⟩ : TagM), (⟨((lread_m ((ireadTag_m ((oRsigned_m ((rtext_m ((rint_m t 6).2) 12).2)).2)).2)).1).time, ((lread_m ((ireadTag_m ((oRsigned_m ((rtext_m ((rint_m t 6).2) 12).2)).2)).2)).1).origin⟩ : StampM), ([] : List TagM)⟩ : EffectM)) (st.sub [0, 1, 2] [3, 4] [] (by decide))) (fun v w35 ⟨q9, hv, hok9, hN9, hfO9, hkc9⟩ => ?_)))
      subst hv
      have hfo10 : ∀ k ∈ keys [(some g_t, Cl (rdC q9 (rfail_m ((lread_m ((ireadTag_m ((oRsigned_m ((rtext_m ((rint_m t 6).2) 12).2)).2)).2)).2) (ocheckE_m (⟨(rint_m t 6).1, (rtext_m ((rint_m t 6).2) 12).1, (oRsigned_m ((rtext_m ((rint_m t 6).2) 12).2)).1, (⟨(⟨((ireadTag_m ((oRsigned_m ((rtext_m ((rint_m t 6).2) 12).2)).2)).1).id.origin, ((ireadTag_m ((oRsigned_m ((rtext_m ((rint_m t 6).2) 12).2)).2)).1).id.seq⟩ : IdM), ((ireadTag_m ((oRsigned_m ((rtext_m ((rint_m t 6).2) 12).2)).2)).1).n⟩ : TagM), (⟨((lread_m ((ireadTag_m ((oRsigned_m ((rtext_m ((rint_m t 6).2) 12).2)).2)).2)).1).time, ((lread_m ((ireadTag_m ((oRsigned_m ((rtext_m ((rint_m t 6).2) 12).2)).2)).2)).1).origin⟩ : StampM), ([] : List TagM)⟩ : EffectM)))) 110), (q9, Cl (ftC (rfail_m ((lread_m ((ireadTag_m ((oRsigned_m ((rtext_m ((rint_m t 6).2) 12).2)).2)).2)).2) (ocheckE_m (⟨(rint_m t 6).1, (rtext_m ((rint_m t 6).2) 12).1, (oRsigned_m ((rtext_m ((rint_m t 6).2) 12).2)).1, (⟨(⟨((ireadTag_m ((oRsigned_m ((rtext_m ((rint_m t 6).2) 12).2)).2)).1).id.origin, ((ireadTag_m ((oRsigned_m ((rtext_m ((rint_m t 6).2) 12).2)).2)).1).id.seq⟩ : IdM), ((ireadTag_m ((oRsigned_m ((rtext_m ((rint_m t 6).2) 12).2)).2)).1).n⟩ : TagM), (⟨((lread_m ((ireadTag_m ((oRsigned_m ((rtext_m ((rint_m t 6).2) 12).2)).2)).2)).1).time, ((lread_m ((ireadTag_m ((oRsigned_m ((rtext_m ((rint_m t 6).2) 12).2)).2)).2)).1).origin⟩ : StampM), ([] : List TagM)⟩ : EffectM)))) 163)], k ∈ (keys [(some g_t, Cl (rdC q_t t) 110), (q_t, Cl (ftC t) 163)]) ∨ w.heap.size ≤ k := fun k hk => (hkc9 k (hk)).elim (fun h => (kc_app hfo6 (kc_n)) k h) (fun h => .inr (Nat.le_trans hF.size h))
      have st := st.callS [0, 1, 2] [3, 4] (by decide) rfl hN9 hfO9 hkc9
      have hF := hF.step hfO9 (kc_app hfo6 (kc_n))
      have st : St X w35 [_, _, _, _, _] [_] := st
      refine Ln k24 (sq fun _ k26 => sq fun _ k27 => rg (Lm rfl (La rfl (a_call rfl rfl rfl rfl (sErr_ok (keys (pickL (hOf st) [0, 1, 2]) ++ X) _ g_t q9 (rfail_m ((lread_m ((ireadTag_m ((oRsigned_m ((rtext_m ((rint_m t 6).2) 12).2)).2)).2)).2) (ocheckE_m (⟨(rint_m t 6).1, (rtext_m ((rint_m t 6).2) 12).1, (oRsigned_m ((rtext_m ((rint_m t 6).2) 12).2)).1, (⟨(⟨((ireadTag_m ((oRsigned_m ((rtext_m ((rint_m t 6).2) 12).2)).2)).1).id.origin, ((ireadTag_m ((oRsigned_m ((rtext_m ((rint_m t 6).2) 12).2)).2)).1).id.seq⟩ : IdM), ((ireadTag_m ((oRsigned_m ((rtext_m ((rint_m t 6).2) 12).2)).2)).1).n⟩ : TagM), (⟨((lread_m ((ireadTag_m ((oRsigned_m ((rtext_m ((rint_m t 6).2) 12).2)).2)).2)).1).time, ((lread_m ((ireadTag_m ((oRsigned_m ((rtext_m ((rint_m t 6).2) 12).2)).2)).2)).1).origin⟩ : StampM), ([] : List TagM)⟩ : EffectM))) hok9 (st.sub [0, 1, 2] [3, 4] [] (by decide))) (fun v w36 ⟨hv, hf⟩ => ?_)))))
      subst hv
      have st := st.keep0 hf
      have hF := hF.step0 hf
      have st : St X w36 [_, _, _, _, _] [_] := st
      refine Ly rfl (y_neE rfl rfl Tryz.underlying108 hok9.2) (Ln k27 (cN rfl (fun hc9 => ?_) (fun hc9 => ?_)))
      · refine sq fun _ k28 => rg (Ly rfl (y_build (cells := [_, _, _, _, _, _, _, _, _]) rfl rfl Ty.zc_59 Ty.ps_59 rfl) (La rfl (Ssw 0 Ty.sz_59 st hF (.inr hg1) rfl fun w37 (st : St _ _ [_, _, _, _, _] _) hF => Ln k28 ?_)))
        have st := st.aN 3
        refine wR (Th_r (fR (ResN1 rfl (rvc (i := 0) rfl Ty.ag_59 st.hp rfl rfl)) ?_))
        unfold oread_m; rewrite [iP hc1, iN hc2, iP hc8, iN hc9]
        exact ⟨_, _, _, rfl, hok9, (st.pk [3, 4] (by decide)).pickK [1], hF, kc_app hfo10 (kc_n)⟩
      refine sk k26 (sq fun _ k29 => rg (Ly rfl (yw 1 Ty.ag_59 st rfl) (La rfl (Ssw 0 Ty.sz_59 st hF (.inr hg1) rfl fun w38 (st : St _ _ [_, _, _, _, _] _) hF => Ln k29 ?_))))
      have st := st.aN 3
      refine wR (fR (ResN1 rfl (rvc (i := 0) rfl Ty.ag_59 st.hp rfl rfl)) ?_)
      unfold oread_m; rewrite [iP hc1, iN hc2, iP hc8, iP hc9]
      exact ⟨_, _, _, rfl, hok9, (st.pk [3, 4] (by decide)).pickK [1], hF, kc_app hfo10 (kc_n)⟩
    refine sk k24 (sq fun _ k30 => sq fun _ k31 => rg (Lm rfl (La rfl (a_call rfl rfl rfl rfl (sErr_ok (keys (pickL (hOf st) [0, 1, 2]) ++ X) _ g_t q5 ((lread_m ((ireadTag_m ((oRsigned_m ((rtext_m ((rint_m t 6).2) 12).2)).2)).2)).2) hok5 (st.sub [0, 1, 2] [3, 4] [] (by decide))) (fun v w39 ⟨hv, hf⟩ => ?_)))))
    subst hv
    have st := st.keep0 hf
    have hF := hF.step0 hf
    have st : St X w39 [_, _, _, _, _] [] := st
    refine Ly rfl (y_neE rfl rfl Tryz.underlying108 hok5.2) (Ln k31 (Wp_cond rfl (fun _ => ?_) (fun hc10 => absurd hc10 (by simp [hc8]))))
    refine sq fun _ k32 => rg (Ly rfl (y_build (cells := [_, _, _, _, _, _, _, _, _]) rfl rfl Ty.zc_59 Ty.ps_59 rfl) (La rfl (Ssw 0 Ty.sz_59 st hF (.inr hg1) rfl fun w40 (st : St _ _ [_, _, _, _, _] _) hF => Ln k32 ?_)))
    have st := st.aN 3
    refine wR (Th_r (fR (ResN1 rfl (rvc (i := 0) rfl Ty.ag_59 st.hp rfl rfl)) ?_))
    unfold oread_m; rewrite [iP hc1, iN hc2, iN hc8]
    exact ⟨_, _, _, rfl, hok5, (st.pk [3, 4] (by decide)).pickK [0], hF, kc_app hfo6 (kc_n)⟩
  refine sk k7 (sq fun _ k33 => sq fun _ k34 => rg (Ly rfl (yf rfl Ty.fo_104_3) (Ly rfl (yl 4 Ty.pl_4 st rfl) (Ln k34 (cB rfl (fun hc11 => ?_) (fun hc11 => ?_))))))
  · refine sq fun _ k35 => rg (Lm rfl (La rfl (a_call rfl rfl rfl rfl (sInt_ok (keys (pickL (hOf st) [0, 1, 4]) ++ X) _ g_t q4 ((ireadTag_m ((oRsigned_m ((rtext_m ((rint_m t 6).2) 12).2)).2)).2) hok4 4096 (st.sub [0, 1, 4] [2, 3] [] (by decide)) (by first | decide | omega)) (fun v w41 ⟨q10, hv, hok10, hN10, hfO10, hkc10⟩ => ?_))))
    subst hv
    have hfo11 : ∀ k ∈ keys [(some g_t, Cl (rdC q10 ((rint_m ((ireadTag_m ((oRsigned_m ((rtext_m ((rint_m t 6).2) 12).2)).2)).2) 4096).2)) 110), (q10, Cl (ftC ((rint_m ((ireadTag_m ((oRsigned_m ((rtext_m ((rint_m t 6).2) 12).2)).2)).2) 4096).2)) 163)], k ∈ (keys [(some g_t, Cl (rdC q_t t) 110), (q_t, Cl (ftC t) 163)]) ∨ w.heap.size ≤ k := fun k hk => (hkc10 k (hk)).elim (fun h => (kc_app hfo5 (kc_n)) k h) (fun h => .inr (Nat.le_trans hF.size h))
    have st := st.callS [0, 1, 4] [2, 3] (by decide) rfl hN10 hfO10 hkc10
    have hF := hF.step hfO10 (kc_app hfo5 (kc_n))
    have st : St X w41 [_, _, _, _, _] [] := st
    have hrvu3 : 0 ≤ ((rint_m ((ireadTag_m ((oRsigned_m ((rtext_m ((rint_m t 6).2) 12).2)).2)).2) 4096).1) ∧ ((rint_m ((ireadTag_m ((oRsigned_m ((rtext_m ((rint_m t 6).2) 12).2)).2)).2) 4096).1) ≤ 1048576 := by first | exact rint_le (by assumption) (by decide) | exact rint_le (Ek.r (by assumption)) (by decide)
    refine Ls' rfl (Ln k35 (Wp_block ?_))
    obtain ⟨st, how4, hnew4⟩ := st.rowN tagMC hF 3 43
    have st : St _ _ [_, _, _, _, _, _] _ := st
    refine lp (fun q E W => ∃ (s5 : Int) (u1_8 : List TagM) (Tg_t : RdM) (Au1_8 : Option Addr) (cu1_8 : Nat) (spu1_8 : List Value) (q_Tg_t : Option Nat), E = [(0, .pointer (some ⟨g_t, 0, none⟩)), (2, .pointer (some ⟨g1, 0, none⟩)), (3, .pointer (some ⟨g2, 0, none⟩)), (5, .int .i64 s5)] ∧ jq q (fun m => (oread_L2 t m s5 u1_8 Tg_t = oread_L2 t (((rint_m ((ireadTag_m ((oRsigned_m ((rtext_m ((rint_m t 6).2) 12).2)).2)).2) 4096).1).toNat + 1) ((rint_m ((ireadTag_m ((oRsigned_m ((rtext_m ((rint_m t 6).2) 12).2)).2)).2) 4096).1) ([] : List TagM) ((rint_m ((ireadTag_m ((oRsigned_m ((rtext_m ((rint_m t 6).2) 12).2)).2)).2) 4096).2) ∧ s5.toNat < m)) (oread_L2 t (((rint_m ((ireadTag_m ((oRsigned_m ((rtext_m ((rint_m t 6).2) 12).2)).2)).2) 4096).1).toNat + 1) ((rint_m ((ireadTag_m ((oRsigned_m ((rtext_m ((rint_m t 6).2) 12).2)).2)).2) 4096).1) ([] : List TagM) ((rint_m ((ireadTag_m ((oRsigned_m ((rtext_m ((rint_m t 6).2) 12).2)).2)).2) 4096).2) = .inr (s5, u1_8, Tg_t)) ∧ (0 ≤ s5 ∧ (u1_8.length : Int) + s5 ≤ 1048576) ∧ Ow Au1_8 u1_8.length cu1_8 3 (u1_8.flatMap tagMC) spu1_8 ∧ (∀ g, blkOf Au1_8 = some g → g ∈ (keys [(some g_t, Cl (rdC q_t t) 110), (q_t, Cl (ftC t) 163)]) ∨ w.heap.size ≤ g) ∧ (Ek ⟨g_t, q_Tg_t⟩ Tg_t) ∧ (∀ k ∈ keys [(some g_t, Cl (rdC q_Tg_t Tg_t) 110), (q_Tg_t, Cl (ftC Tg_t) 163)], k ∈ (keys [(some g_t, Cl (rdC q_t t) 110), (q_t, Cl (ftC t) 163)]) ∨ w.heap.size ≤ k) ∧ St X W [(some g1, Cl [.int .i64 0, sv [], .int .i64 0, .int .i64 0, .int .u32 0, .int .i64 0, .int .u32 0, .int .i64 0, .slice none 0 0] 59), (some g2, Cl [.int .i64 ((rint_m t 6).1), sv ((rtext_m ((rint_m t 6).2) 12).1), .int .i64 ((oRsigned_m ((rtext_m ((rint_m t 6).2) 12).2)).1), .int .i64 (((ireadTag_m ((oRsigned_m ((rtext_m ((rint_m t 6).2) 12).2)).2)).1).id.origin), .int .u32 (((ireadTag_m ((oRsigned_m ((rtext_m ((rint_m t 6).2) 12).2)).2)).1).id.seq), .int .i64 (((ireadTag_m ((oRsigned_m ((rtext_m ((rint_m t 6).2) 12).2)).2)).1).n), .int .u32 0, .int .i64 0, .slice Au1_8 u1_8.length cu1_8] 59), (some g3, Cl [.bool ((oform_m ((rint_m t 6).1)).name), .bool ((oform_m ((rint_m t 6).1)).val), .bool ((oform_m ((rint_m t 6).1)).atF), .bool ((oform_m ((rint_m t 6).1)).tags)] 104), (some g_t, Cl (rdC q_Tg_t Tg_t) 110), (q_Tg_t, Cl (ftC Tg_t) 163), (blkOf Au1_8, Cl (u1_8.flatMap tagMC ++ spu1_8) 43)] [] ∧ Fr (keys [(some g_t, Cl (rdC q_t t) 110), (q_t, Cl (ftC t) 163)]) w W) (((rint_m ((ireadTag_m ((oRsigned_m ((rtext_m ((rint_m t 6).2) 12).2)).2)).2) 4096).1).toNat + 1) [(0, _), (2, _), (3, _), (5, _)] ⟨rfl, rfl, rfl, rfl, trivial⟩ ⟨_, _, _, _, _, _, _, rfl, ⟨rfl, Nat.lt_succ_self _⟩, by first | omega | (simp; done) | (simp; omega), how4, hnew4, hok10, hfo11, st, hF⟩ k33 ?_ fun hout3 => ?_
    · rintro E w42 ⟨s5, u1_8, Tg_t, Au1_8, cu1_8, spu1_8, q_Tg_t, rfl, hLk2, hinv, howu1_8, newu1_8, hokTg_t, hfoTg_t, st, hF⟩
      unfold jq at hLk2; dsimp only at hLk2
      refine sq fun _ k36 => sq fun _ k37 => rg (Lm rfl (La rfl (a_call rfl rfl rfl rfl (sErr_ok (keys (pickL (hOf st) [0, 1, 2, 5]) ++ X) _ g_t q_Tg_t Tg_t hokTg_t (st.sub [0, 1, 2, 5] [3, 4] [] (by decide))) (fun v w43 ⟨hv, hf⟩ => ?_))))
      subst hv
      have st := st.keep0 hf
      have hF := hF.step0 hf
      have st : St X w43 [_, _, _, _, _, _] [] := st
      refine Ly rfl (y_eqE rfl rfl Tryz.underlying108 hokTg_t.2) (Ln k37 (cE rfl (fun hc12 => ?_) (fun hc12 => ?_)))
      · refine rg (Lm rfl (Ly rfl (yw 1 Ty.ag_59 st rfl) (La rfl (Scl st hF rfl (ocheckE_ok (keys (pickL (hOf st) [0, 1, 2, 3, 4]) ++ X) _ (st.sub [0, 1, 2, 3, 4] [] [] (by decide)).lo (⟨(rint_m t 6).1, (rtext_m ((rint_m t 6).2) 12).1, (oRsigned_m ((rtext_m ((rint_m t 6).2) 12).2)).1, (⟨(⟨((ireadTag_m ((oRsigned_m ((rtext_m ((rint_m t 6).2) 12).2)).2)).1).id.origin, ((ireadTag_m ((oRsigned_m ((rtext_m ((rint_m t 6).2) 12).2)).2)).1).id.seq⟩ : IdM), ((ireadTag_m ((oRsigned_m ((rtext_m ((rint_m t 6).2) 12).2)).2)).1).n⟩ : TagM), (⟨0, 0⟩ : StampM), u1_8⟩ : EffectM) Au1_8 cu1_8 ((st.freeze (i := 5) [0, 1, 2, 3, 4] (by decide) rfl howu1_8 (by decide)).k (i := 0) rfl)) fun w44 st hF => ?_))))
        refine La rfl (a_call rfl rfl rfl rfl (sFail_ok (keys (pickL (hOf st) [0, 1, 2, 5]) ++ X) _ g_t q_Tg_t Tg_t hokTg_t (ocheckE_m (⟨(rint_m t 6).1, (rtext_m ((rint_m t 6).2) 12).1, (oRsigned_m ((rtext_m ((rint_m t 6).2) 12).2)).1, (⟨(⟨((ireadTag_m ((oRsigned_m ((rtext_m ((rint_m t 6).2) 12).2)).2)).1).id.origin, ((ireadTag_m ((oRsigned_m ((rtext_m ((rint_m t 6).2) 12).2)).2)).1).id.seq⟩ : IdM), ((ireadTag_m ((oRsigned_m ((rtext_m ((rint_m t 6).2) 12).2)).2)).1).n⟩ : TagM), (⟨0, 0⟩ : StampM), u1_8⟩ : EffectM)) (st.sub [0, 1, 2, 5] [3, 4] [] (by decide))) (fun v w45 ⟨q11, hv, hok11, hN11, hfO11, hkc11⟩ => ?_))
        subst hv
        have hfo12 : ∀ k ∈ keys [(some g_t, Cl (rdC q11 (rfail_m Tg_t (ocheckE_m (⟨(rint_m t 6).1, (rtext_m ((rint_m t 6).2) 12).1, (oRsigned_m ((rtext_m ((rint_m t 6).2) 12).2)).1, (⟨(⟨((ireadTag_m ((oRsigned_m ((rtext_m ((rint_m t 6).2) 12).2)).2)).1).id.origin, ((ireadTag_m ((oRsigned_m ((rtext_m ((rint_m t 6).2) 12).2)).2)).1).id.seq⟩ : IdM), ((ireadTag_m ((oRsigned_m ((rtext_m ((rint_m t 6).2) 12).2)).2)).1).n⟩ : TagM), (⟨0, 0⟩ : StampM), u1_8⟩ : EffectM)))) 110), (q11, Cl (ftC (rfail_m Tg_t (ocheckE_m (⟨(rint_m t 6).1, (rtext_m ((rint_m t 6).2) 12).1, (oRsigned_m ((rtext_m ((rint_m t 6).2) 12).2)).1, (⟨(⟨((ireadTag_m ((oRsigned_m ((rtext_m ((rint_m t 6).2) 12).2)).2)).1).id.origin, ((ireadTag_m ((oRsigned_m ((rtext_m ((rint_m t 6).2) 12).2)).2)).1).id.seq⟩ : IdM), ((ireadTag_m ((oRsigned_m ((rtext_m ((rint_m t 6).2) 12).2)).2)).1).n⟩ : TagM), (⟨0, 0⟩ : StampM), u1_8⟩ : EffectM)))) 163)], k ∈ (keys [(some g_t, Cl (rdC q_t t) 110), (q_t, Cl (ftC t) 163)]) ∨ w.heap.size ≤ k := fun k hk => (hkc11 k (hk)).elim (fun h => (kc_app hfoTg_t (kc_n)) k h) (fun h => .inr (Nat.le_trans hF.size h))
        have st := st.callS [0, 1, 2, 5] [3, 4] (by decide) rfl hN11 hfO11 hkc11
        have hF := hF.step hfO11 (kc_app hfoTg_t (kc_n))
        have st : St X w45 [_, _, _, _, _, _] [] := st
        refine Ln k36 (sq fun _ k38 => sq fun _ k39 => rg (Lm rfl (La rfl (a_call rfl rfl rfl rfl (sErr_ok (keys (pickL (hOf st) [0, 1, 2, 3]) ++ X) _ g_t q11 (rfail_m Tg_t (ocheckE_m (⟨(rint_m t 6).1, (rtext_m ((rint_m t 6).2) 12).1, (oRsigned_m ((rtext_m ((rint_m t 6).2) 12).2)).1, (⟨(⟨((ireadTag_m ((oRsigned_m ((rtext_m ((rint_m t 6).2) 12).2)).2)).1).id.origin, ((ireadTag_m ((oRsigned_m ((rtext_m ((rint_m t 6).2) 12).2)).2)).1).id.seq⟩ : IdM), ((ireadTag_m ((oRsigned_m ((rtext_m ((rint_m t 6).2) 12).2)).2)).1).n⟩ : TagM), (⟨0, 0⟩ : StampM), u1_8⟩ : EffectM))) hok11 (st.sub [0, 1, 2, 3] [4, 5] [] (by decide))) (fun v w46 ⟨hv, hf⟩ => ?_)))))
        subst hv
        have st := st.keep0 hf
        have hF := hF.step0 hf
        have st : St X w46 [_, _, _, _, _, _] [] := st
        refine Ly rfl (y_neE rfl rfl Tryz.underlying108 hok11.2) (Ln k39 (cN rfl (fun hc13 => ?_) (fun hc13 => ?_)))
        · refine sq fun _ k40 => rg (Ly rfl (y_build (cells := [_, _, _, _, _, _, _, _, _]) rfl rfl Ty.zc_59 Ty.ps_59 rfl) (La rfl (Ssw 0 Ty.sz_59 st hF (.inr hg1) rfl fun w47 (st : St _ _ [_, _, _, _, _, _] _) hF => Ln k40 ?_)))
          have st := st.aN 3
          refine wR (Th_r (fR (ResN1 rfl (rvc (i := 0) rfl Ty.ag_59 st.hp rfl rfl)) ?_))
          unfold oread_m; rewrite [iN hc1, iP hc11, hLk2]; (try dsimp only); rewrite [iP hc12, iN hc13]
          exact ⟨_, _, _, rfl, hok11, (st.pk [4, 5] (by decide)).pickK [0], hF, kc_app hfo12 (kc_n)⟩
        refine sk k38 (sq fun _ k41 => rg (Ly rfl (yw 1 Ty.ag_59 st rfl) (La rfl (Ssw 0 Ty.sz_59 st hF (.inr hg1) rfl fun w48 (st : St _ _ [_, _, _, _, _, _] _) hF => Ln k41 ?_))))
        have st : St X w48 [_, _, _, _, _] [_] := st.freeze (i := 3) [0, 1, 2, 4, 5] (by decide) rfl howu1_8 (by decide)
        refine wR (fR (ResN1 rfl (rvc (i := 0) rfl Ty.ag_59 st.hp rfl rfl)) ?_)
        unfold oread_m; rewrite [iN hc1, iP hc11, hLk2]; (try dsimp only); rewrite [iP hc12, iP hc13]
        exact ⟨_, _, _, rfl, hok11, (st.pk [3, 4] (by decide)).pickK [0], hF, kc_app hfo12 (kc_n)⟩
      refine sk k36 (sq fun _ k42 => sq fun _ k43 => rg (Lm rfl (La rfl (a_call rfl rfl rfl rfl (sErr_ok (keys (pickL (hOf st) [0, 1, 2, 5]) ++ X) _ g_t q_Tg_t Tg_t hokTg_t (st.sub [0, 1, 2, 5] [3, 4] [] (by decide))) (fun v w49 ⟨hv, hf⟩ => ?_)))))
      subst hv
      have st := st.keep0 hf
      have hF := hF.step0 hf
      have st : St X w49 [_, _, _, _, _, _] [] := st
      refine Ly rfl (y_neE rfl rfl Tryz.underlying108 hokTg_t.2) (Ln k43 (Wp_cond rfl (fun _ => ?_) (fun hc14 => absurd hc14 (by simp [hc12]))))
      refine sq fun _ k44 => rg (Ly rfl (y_build (cells := [_, _, _, _, _, _, _, _, _]) rfl rfl Ty.zc_59 Ty.ps_59 rfl) (La rfl (Ssw 0 Ty.sz_59 st hF (.inr hg1) rfl fun w50 (st : St _ _ [_, _, _, _, _, _] _) hF => Ln k44 ?_)))
      have st := st.aN 3
      refine wR (Th_r (fR (ResN1 rfl (rvc (i := 0) rfl Ty.ag_59 st.hp rfl rfl)) ?_))
      unfold oread_m; rewrite [iN hc1, iP hc11, hLk2]; (try dsimp only); rewrite [iN hc12]
      exact ⟨_, _, _, rfl, hokTg_t, (st.pk [3, 4] (by decide)).pickK [0], hF, kc_app hfoTg_t (kc_n)⟩
    rintro m E w51 ⟨s5, u1_8, Tg_t, Au1_8, cu1_8, spu1_8, q_Tg_t, rfl, ⟨hL2, hmu⟩, hinv, howu1_8, newu1_8, hokTg_t, hfoTg_t, st, hF⟩
    obtain ⟨fuel, rfl⟩ : ∃ q, m = q + 1 := ⟨m - 1, by omega⟩
    have z1 := Ow.le howu1_8
    refine sq fun _ k45 => sq fun _ k46 => ?_
    refine use_out k46 (fun E W => E = [(0, .pointer (some ⟨g_t, 0, none⟩)), (2, .pointer (some ⟨g1, 0, none⟩)), (3, .pointer (some ⟨g2, 0, none⟩)), (5, .int .i64 s5), (36, .bool (oread_c2 t s5 u1_8 Tg_t))] ∧ St X W (hOf st) (kOf st) ∧ Fr (keys [(some g_t, Cl (rdC q_t t) 110), (q_t, Cl (ftC t) 163)]) w W) ?_ fun hout4 => ?_
    · rintro E w52 ⟨rfl, st, hF⟩
      have st : St X w52 [_, _, _, _, _, _] [] := st
      refine cB rfl (fun hc15 => ?_) (fun hc15 => ?_)
      · have jhc15 := (oread_c2_iff t s5 u1_8 Tg_t).1 hc15
        refine sk k45 (sq fun _ k47 => Wp_block ?_)
        refine Wp_planF (fun W => St X W (pickL (hOf st) [0, 1, 2]) (kOf st)) [(true, 0), (true, 1), (true, 2), (false, 3), (false, 4), (false, 5), (true, 6)] 7 Ty.mx_0 (by kernel_rfl) (by kernel_rfl) (by kernel_rfl) rfl ((st.pk [0, 1, 2] (by decide)).drew) ?_
        have st := st.drew
        have hF := hF.step0 (Fr.drew _)
        refine Py rfl (yf rfl Ty.fo_59_5) (Py rfl (y_load (i := 1) rfl rfl Ty.pl_30 (fun _ h => h.hp) rfl rfl) (Pm rfl (Pl_a rfl (wtd0 rfl) (by rfl) ?_)))
        refine a_call rfl rfl rfl rfl (ireadTag_ok (keys (pickL (hOf st) [0, 1, 2, 5]) ++ X) _ g_t q_Tg_t Tg_t hokTg_t (st.sub [0, 1, 2, 5] [3, 4] [] (by decide))) (fun v w53 ⟨q12, hv, hok12, hN12, hfO12, hkc12⟩ => ?_)
        subst hv
        have hfo13 : ∀ k ∈ keys [(some g_t, Cl (rdC q12 ((ireadTag_m Tg_t).2)) 110), (q12, Cl (ftC ((ireadTag_m Tg_t).2)) 163)], k ∈ (keys [(some g_t, Cl (rdC q_t t) 110), (q_t, Cl (ftC t) 163)]) ∨ w.heap.size ≤ k := fun k hk => (hkc12 k (hk)).elim (fun h => (kc_app hfoTg_t (kc_n)) k h) (fun h => .inr (Nat.le_trans hF.size h))
        have st := st.callS [0, 1, 2, 5] [3, 4] (by decide) rfl hN12 hfO12 hkc12
        have hF := hF.step hfO12 (kc_app hfoTg_t (kc_n))
        have st : St X w53 [_, _, _, _, _, _] [] := st
        refine ⟨(st.pk [0, 1, 2] (by decide)).tK 0, ?_⟩
        refine Pl_a rfl (wtd0 rfl) (by rfl) ?_
        refine Sb (enc := tagMC) ((ireadTag_m Tg_t).1) Ty.es_30 Ty.zc_43 (fun _ => rfl) st hF rfl fun g5 w54 how5 hnew5 (st : St _ _ [_, _, _, _, _, _, _] _) hF => ?_
        refine ⟨(st.pk [0, 1, 2] (by decide)).tK 0, ?_⟩
        refine Pl_a rfl (wtd0 rfl) (by rfl) ?_
        refine Sap (enc := tagMC) u1_8 [(ireadTag_m Tg_t).1] 3 Ty.es_30 Ty.zc_43 Ty.by_43 (fun _ => rfl) tagMC_1 howu1_8 newu1_8 st hF (own_src (i := 6) st.hp rfl how5) (own_none how5) rfl (by first | omega | (simp; done) | (simp; omega)) (by first | omega | (simp; done) | (simp; omega)) fun Aa2 ca2 sp2 w55 how6 hnew6 (st : St _ _ [_, _, _, _, _, _, _] _) hF => ?_
        refine ⟨(st.pk [0, 1, 2] (by decide)).tK 0, ?_⟩
        refine Py rfl (yf rfl Ty.fo_59_5) (Pl_nil (Fin_a rfl (wtd0 rfl) (Ss1 1 Ty.sz_30 st hF (.inr hg2) rfl fun w56 (st : St _ _ [_, (_, Cl [_, _, _, _, _, _, _, _, _] _), _, _, _, _, _] _) hF => id (Ib_n (Th_n (k47 _ _ (rg (Lm rfl (Ly rfl (y_sub (c := s5 - 1) rfl rfl rfl (wf_i64 (by first | omega | (simp; done) | (simp; omega)))) ?_)))))))))
        refine Ls' rfl (Ls_nil (Th_n (?_)))
        exact ⟨fuel, [(0, _), (2, _), (3, _), (5, _)], Nat.lt_succ_self _, ⟨rfl, rfl, rfl, rfl, trivial⟩, (s5 - 1), (u1_8 ++ [(ireadTag_m Tg_t).1]), ((ireadTag_m Tg_t).2), Aa2, ca2, sp2, q12, rfl, ⟨by rewrite [← hL2, oread_L2]; rewrite [iP hc15]; rfl, by first | omega | (simp; done) | (simp; omega)⟩, by first | omega | (simp; done) | (simp; omega), how6, hnew6, hok12, hfo13, (st.pk [0, 1, 2, 4, 5, 3] (by decide)).pickK [], hF⟩
      have jhc15 := mt (oread_c2_iff t s5 u1_8 Tg_t).2 hc15
      refine Wp_exit (Th_e (Th_e (Ib_hit (Th_n (?_)))))
      exact hout3 _ [(0, _), (2, _), (3, _), (5, _)] _ ⟨rfl, rfl, rfl, rfl, trivial⟩ ⟨s5, u1_8, Tg_t, Au1_8, cu1_8, spu1_8, q_Tg_t, rfl, show _ = _ from by rewrite [← hL2, oread_L2]; rewrite [iN hc15]; rfl, by first | omega | (simp; done) | (simp; omega), howu1_8, newu1_8, hokTg_t, hfoTg_t, (st.pk [0, 1, 2, 3, 4, 5] (by decide)).pickK [], hF⟩
    refine rg (Lm rfl (Ly rfl (ygt rfl) (Lm rfl (bD (s := 32) rfl (fun hc16 => ?_) (fun hc16 => ?_)))))
    · refine LyT rfl (y_move rfl rfl) (LaT rfl (a_call rfl rfl rfl rfl (sErr_ok (keys (pickL (hOf st) [0, 1, 2, 5]) ++ X) _ g_t q_Tg_t Tg_t hokTg_t (st.sub [0, 1, 2, 5] [3, 4] [] (by decide))) (fun v w57 ⟨hv, hf⟩ => ?_)))
      subst hv
      have st := st.keep0 hf
      have hF := hF.step0 hf
      have st : St X w57 [_, _, _, _, _, _] [] := st
      refine LyT rfl (y_eqE rfl rfl Tryz.underlying108 hokTg_t.2) (Ly rfl (yT rfl) (Ls_nil (Th_n (?_))))
      exact hout4 _ [(0, _), (2, _), (3, _), (5, _), (36, _)] _ ⟨rfl, rfl, rfl, rfl, rfl, trivial⟩ ⟨by unfold oread_c2; rewrite [iP hc16]; rfl, (st.pk [0, 1, 2, 3, 4, 5] (by decide)).pickK [], hF⟩
    refine LsF rfl (LsF rfl (LsF rfl (Ly rfl (yF rfl) (Ls_nil (Th_n (?_))))))
    exact hout4 _ [(0, _), (2, _), (3, _), (5, _), (36, _)] _ ⟨rfl, rfl, rfl, rfl, rfl, trivial⟩ ⟨by unfold oread_c2; rewrite [iN hc16]; rfl, (st.pk [0, 1, 2, 3, 4, 5] (by decide)).pickK [], hF⟩
  refine sk k33 (sq fun _ k48 => sq fun _ k49 => rg (Lm rfl (La rfl (a_call rfl rfl rfl rfl (sErr_ok (keys (pickL (hOf st) [0, 1, 4]) ++ X) _ g_t q4 ((ireadTag_m ((oRsigned_m ((rtext_m ((rint_m t 6).2) 12).2)).2)).2) hok4 (st.sub [0, 1, 4] [2, 3] [] (by decide))) (fun v w58 ⟨hv, hf⟩ => ?_)))))
  subst hv
  have st := st.keep0 hf
  have hF := hF.step0 hf
  have st : St X w58 [_, _, _, _, _] [] := st
  refine Ly rfl (y_eqE rfl rfl Tryz.underlying108 hok4.2) (Ln k49 (cE rfl (fun hc17 => ?_) (fun hc17 => ?_)))
  · refine rg (Lm rfl (Ly rfl (yw 1 Ty.ag_59 st rfl) ?_))
    have st := st.aN 3
    refine La rfl (Scl st hF rfl (ocheckE_ok (keys (hOf st) ++ X) _ st.Lo (⟨(rint_m t 6).1, (rtext_m ((rint_m t 6).2) 12).1, (oRsigned_m ((rtext_m ((rint_m t 6).2) 12).2)).1, (⟨(⟨((ireadTag_m ((oRsigned_m ((rtext_m ((rint_m t 6).2) 12).2)).2)).1).id.origin, ((ireadTag_m ((oRsigned_m ((rtext_m ((rint_m t 6).2) 12).2)).2)).1).id.seq⟩ : IdM), ((ireadTag_m ((oRsigned_m ((rtext_m ((rint_m t 6).2) 12).2)).2)).1).n⟩ : TagM), (⟨0, 0⟩ : StampM), ([] : List TagM)⟩ : EffectM) none 0 (st.q 0 rfl)) fun w59 st hF => La rfl (a_call rfl rfl rfl rfl (sFail_ok (keys (pickL (hOf st) [0, 1, 4]) ++ X) _ g_t q4 ((ireadTag_m ((oRsigned_m ((rtext_m ((rint_m t 6).2) 12).2)).2)).2) hok4 (ocheckE_m (⟨(rint_m t 6).1, (rtext_m ((rint_m t 6).2) 12).1, (oRsigned_m ((rtext_m ((rint_m t 6).2) 12).2)).1, (⟨(⟨((ireadTag_m ((oRsigned_m ((rtext_m ((rint_m t 6).2) 12).2)).2)).1).id.origin, ((ireadTag_m ((oRsigned_m ((rtext_m ((rint_m t 6).2) 12).2)).2)).1).id.seq⟩ : IdM), ((ireadTag_m ((oRsigned_m ((rtext_m ((rint_m t 6).2) 12).2)).2)).1).n⟩ : TagM), (⟨0, 0⟩ : StampM), ([] : List TagM)⟩ : EffectM)) (st.sub [0, 1, 4] [2, 3] [] (by decide))) (fun v w60 ⟨q13, hv, hok13, hN13, hfO13, hkc13⟩ => ?_)))
    subst hv
    have hfo14 : ∀ k ∈ keys [(some g_t, Cl (rdC q13 (rfail_m ((ireadTag_m ((oRsigned_m ((rtext_m ((rint_m t 6).2) 12).2)).2)).2) (ocheckE_m (⟨(rint_m t 6).1, (rtext_m ((rint_m t 6).2) 12).1, (oRsigned_m ((rtext_m ((rint_m t 6).2) 12).2)).1, (⟨(⟨((ireadTag_m ((oRsigned_m ((rtext_m ((rint_m t 6).2) 12).2)).2)).1).id.origin, ((ireadTag_m ((oRsigned_m ((rtext_m ((rint_m t 6).2) 12).2)).2)).1).id.seq⟩ : IdM), ((ireadTag_m ((oRsigned_m ((rtext_m ((rint_m t 6).2) 12).2)).2)).1).n⟩ : TagM), (⟨0, 0⟩ : StampM), ([] : List TagM)⟩ : EffectM)))) 110), (q13, Cl (ftC (rfail_m ((ireadTag_m ((oRsigned_m ((rtext_m ((rint_m t 6).2) 12).2)).2)).2) (ocheckE_m (⟨(rint_m t 6).1, (rtext_m ((rint_m t 6).2) 12).1, (oRsigned_m ((rtext_m ((rint_m t 6).2) 12).2)).1, (⟨(⟨((ireadTag_m ((oRsigned_m ((rtext_m ((rint_m t 6).2) 12).2)).2)).1).id.origin, ((ireadTag_m ((oRsigned_m ((rtext_m ((rint_m t 6).2) 12).2)).2)).1).id.seq⟩ : IdM), ((ireadTag_m ((oRsigned_m ((rtext_m ((rint_m t 6).2) 12).2)).2)).1).n⟩ : TagM), (⟨0, 0⟩ : StampM), ([] : List TagM)⟩ : EffectM)))) 163)], k ∈ (keys [(some g_t, Cl (rdC q_t t) 110), (q_t, Cl (ftC t) 163)]) ∨ w.heap.size ≤ k := fun k hk => (hkc13 k (hk)).elim (fun h => (kc_app hfo5 (kc_n)) k h) (fun h => .inr (Nat.le_trans hF.size h))
    have st := st.callS [0, 1, 4] [2, 3] (by decide) rfl hN13 hfO13 hkc13
    have hF := hF.step hfO13 (kc_app hfo5 (kc_n))
    have st : St X w60 [_, _, _, _, _] [_] := st
    refine Ln k48 (sq fun _ k50 => sq fun _ k51 => rg (Lm rfl (La rfl (a_call rfl rfl rfl rfl (sErr_ok (keys (pickL (hOf st) [0, 1, 2]) ++ X) _ g_t q13 (rfail_m ((ireadTag_m ((oRsigned_m ((rtext_m ((rint_m t 6).2) 12).2)).2)).2) (ocheckE_m (⟨(rint_m t 6).1, (rtext_m ((rint_m t 6).2) 12).1, (oRsigned_m ((rtext_m ((rint_m t 6).2) 12).2)).1, (⟨(⟨((ireadTag_m ((oRsigned_m ((rtext_m ((rint_m t 6).2) 12).2)).2)).1).id.origin, ((ireadTag_m ((oRsigned_m ((rtext_m ((rint_m t 6).2) 12).2)).2)).1).id.seq⟩ : IdM), ((ireadTag_m ((oRsigned_m ((rtext_m ((rint_m t 6).2) 12).2)).2)).1).n⟩ : TagM), (⟨0, 0⟩ : StampM), ([] : List TagM)⟩ : EffectM))) hok13 (st.sub [0, 1, 2] [3, 4] [] (by decide))) (fun v w61 ⟨hv, hf⟩ => ?_)))))
    subst hv
    have st := st.keep0 hf
    have hF := hF.step0 hf
    have st : St X w61 [_, _, _, _, _] [_] := st
    refine Ly rfl (y_neE rfl rfl Tryz.underlying108 hok13.2) (Ln k51 (cN rfl (fun hc18 => ?_) (fun hc18 => ?_)))
    · refine sq fun _ k52 => rg (Ly rfl (y_build (cells := [_, _, _, _, _, _, _, _, _]) rfl rfl Ty.zc_59 Ty.ps_59 rfl) (La rfl (Ssw 0 Ty.sz_59 st hF (.inr hg1) rfl fun w62 (st : St _ _ [_, _, _, _, _] _) hF => Ln k52 ?_)))
      have st := st.aN 3
      refine wR (Th_r (fR (ResN1 rfl (rvc (i := 0) rfl Ty.ag_59 st.hp rfl rfl)) ?_))
      unfold oread_m; rewrite [iN hc1, iN hc11, iP hc17, iN hc18]
      exact ⟨_, _, _, rfl, hok13, (st.pk [3, 4] (by decide)).pickK [1], hF, kc_app hfo14 (kc_n)⟩
    refine sk k50 (sq fun _ k53 => rg (Ly rfl (yw 1 Ty.ag_59 st rfl) (La rfl (Ssw 0 Ty.sz_59 st hF (.inr hg1) rfl fun w63 (st : St _ _ [_, _, _, _, _] _) hF => Ln k53 ?_))))
    have st := st.aN 3
    refine wR (fR (ResN1 rfl (rvc (i := 0) rfl Ty.ag_59 st.hp rfl rfl)) ?_)
    unfold oread_m; rewrite [iN hc1, iN hc11, iP hc17, iP hc18]
    exact ⟨_, _, _, rfl, hok13, (st.pk [3, 4] (by decide)).pickK [1], hF, kc_app hfo14 (kc_n)⟩
  refine sk k48 (sq fun _ k54 => sq fun _ k55 => rg (Lm rfl (La rfl (a_call rfl rfl rfl rfl (sErr_ok (keys (pickL (hOf st) [0, 1, 4]) ++ X) _ g_t q4 ((ireadTag_m ((oRsigned_m ((rtext_m ((rint_m t 6).2) 12).2)).2)).2) hok4 (st.sub [0, 1, 4] [2, 3] [] (by decide))) (fun v w64 ⟨hv, hf⟩ => ?_)))))
  subst hv
  have st := st.keep0 hf
  have hF := hF.step0 hf
  have st : St X w64 [_, _, _, _, _] [] := st
  refine Ly rfl (y_neE rfl rfl Tryz.underlying108 hok4.2) (Ln k55 (Wp_cond rfl (fun _ => ?_) (fun hc19 => absurd hc19 (by simp [hc17]))))
  refine sq fun _ k56 => rg (Ly rfl (y_build (cells := [_, _, _, _, _, _, _, _, _]) rfl rfl Ty.zc_59 Ty.ps_59 rfl) (La rfl (Ssw 0 Ty.sz_59 st hF (.inr hg1) rfl fun w65 (st : St _ _ [_, _, _, _, _] _) hF => Ln k56 ?_)))
  have st := st.aN 3
  refine wR (Th_r (fR (ResN1 rfl (rvc (i := 0) rfl Ty.ag_59 st.hp rfl rfl)) ?_))
  unfold oread_m; rewrite [iN hc1, iN hc11, iN hc17]
  exact ⟨_, _, _, rfl, hok4, (st.pk [2, 3] (by decide)).pickK [0], hF, kc_app hfo5 (kc_n)⟩
end Go.Proofs.YtdckemiebnfjcaaGreatDoor

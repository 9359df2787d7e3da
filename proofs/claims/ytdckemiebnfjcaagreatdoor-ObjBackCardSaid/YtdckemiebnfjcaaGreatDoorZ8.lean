/- Walks printed by gen2.py out of our own specifications: what the functions named below do. -/
import Derived.Test.YtdckemiebnfjcaaGreatDoorSc
import Derived.Test.YtdckemiebnfjcaaGreatDoorSi
set_option linter.unusedSimpArgs false
set_option linter.unusedVariables false
set_option maxRecDepth 20000
namespace Go.Proofs.YtdckemiebnfjcaaGreatDoor
open Go.RowKit
def insertAdd_m (s : List AddM) (i : Int) (vs : List AddM) : (List AddM) :=
  s.take i.toNat ++ vs ++ s.drop i.toNat
set_option maxHeartbeats 1000000 in
theorem insertAdd_ok (X : List Nat) (w : World) (s : List AddM) (A_s : Option Addr) (c_s : Nat) (s2 : List Value) (i : Int) (vs : List AddM) (A1 : Option Addr) (C1 : Nat) (s1 : List Value) (hs : St X w [(blkOf A_s, Cl (s.flatMap addMC ++ s2) 126), (blkOf A1, Cl (vs.flatMap addMC ++ s1) 126)] []) (z6 : Ow A_s s.length c_s 4 (s.flatMap addMC) s2) (z5 : Ow A1 vs.length C1 4 (vs.flatMap addMC) s1) (hv1 : vs.length = 1) (hi0 : 0 ≤ i) (hi1 : i ≤ s.length) (hs1 : s.length ≤ 1000000) :
    Fn Tryz.prog 85 [.slice A_s s.length c_s, .int .i64 i, .slice A1 vs.length C1] w fun v w' => ∃ (A' : Option Addr) (c' : Nat) (sp' : List Value), v = .slice A' (insertAdd_m s i vs).length c' ∧ Ow A' (insertAdd_m s i vs).length c' 4 ((insertAdd_m s i vs).flatMap addMC) sp' ∧ St X w' [(blkOf A', Cl ((insertAdd_m s i vs).flatMap addMC ++ sp') 126)] [] ∧ Fr (keys [(blkOf A_s, Cl (s.flatMap addMC ++ s2) 126), (blkOf A1, Cl (vs.flatMap addMC ++ s1) 126)]) w w' ∧ (∀ k ∈ keys [(blkOf A', Cl ((insertAdd_m s i vs).flatMap addMC ++ sp') 126)], k ∈ (keys [(blkOf A_s, Cl (s.flatMap addMC ++ s2) 126), (blkOf A1, Cl (vs.flatMap addMC ++ s1) 126)]) ∨ w.heap.size ≤ k) := by
  refine Fn_of 95 Ty.en_85 Tryz.func85 rfl rfl rfl ?_
  dsimp only [argEnv]
  have hs0 := hs
  have st : St X w [(blkOf A_s, Cl (s.flatMap addMC ++ s2) 126), (blkOf A1, Cl (vs.flatMap addMC ++ s1) 126)] [] := hs
  have z3 : ∀ g, blkOf A_s = some g → g ∈ (keys [(blkOf A_s, Cl (s.flatMap addMC ++ s2) 126), (blkOf A1, Cl (vs.flatMap addMC ++ s1) 126)]) ∨ w.heap.size ≤ g := fun g hg => .inl (by simp [keys, hg])
  have z4 := Ow.le z6
  have z1 : ∀ g, blkOf A1 = some g → g ∈ (keys [(blkOf A_s, Cl (s.flatMap addMC ++ s2) 126), (blkOf A1, Cl (vs.flatMap addMC ++ s1) 126)]) ∨ w.heap.size ≤ g := fun g hg => .inl (by simp [keys, hg])
  have z2 := Ow.le z5
  have hF := Fr.refl (keys [(blkOf A_s, Cl (s.flatMap addMC ++ s2) 126), (blkOf A1, Cl (vs.flatMap addMC ++ s1) 126)]) w
  refine sq fun _ k1 => rg (Ls' rfl (Ln k1 (sq fun _ k2 => rg (Lm rfl (Lm rfl ?_)))))
  have hlcu := (Ow.lc z6).1
  refine Ly rfl (y_cutl (p := i) (q := (s.length : Int)) rfl rfl Ty.es_50 rfl rfl (by first | omega | (simp; done) | (simp; omega)) (by first | omega | (simp; done) | (simp; omega)) (by first | omega | (simp; done) | (simp; omega)) hlcu) ?_
  refine Ln k2 (sq fun _ k3 => rg (Lm rfl (Ly rfl (yll rfl Tryz.underlying50) (Ls' rfl (Ln k3 (sq fun _ k4 => sq fun _ k5 => rg (Lm rfl (Ly rfl (yeq rfl) (Ln k5 ?_)))))))))
  have hd1 : ¬ ((vs.length : Int) = 0) := by
    omega
  refine Wp_cond rfl (fun hc1 => absurd hc1 (by first | (simp [hd1]; done) | (rw [hd1]; simp; done) | simpa using hd1)) (fun _ => ?_)
  refine sk k4 (sq fun _ k6 => rg (Lm rfl (Ly rfl (yll rfl Tryz.underlying50) (Ls' rfl (Ln k6 (sq fun _ k7 => sq fun _ k8 => rg (Lm rfl (Lm rfl (Ly rfl (yeq rfl) (Ln k8 (cE rfl (fun hc2 => ?_) (fun hc2 => ?_))))))))))))
  · refine sq fun _ k9 => rg (Lm rfl (Lm rfl (La rfl (Sap (enc := addMC) s vs 0 Ty.es_50 Ty.zc_126 Ty.by_126 (fun _ => rfl) addMC_1 z6 z3 st hF (own_src (i := 1) st.hp rfl z5) (own_none z5) rfl (by first | omega | (simp; done) | (simp; omega)) (by first | omega | (simp; done) | (simp; omega)) fun Aa1 ca1 sp1 w1 how1 hnew1 (st : St _ _ [_, _] _) hF => ?_))))
    refine Ls' rfl (Ln k9 (wR (Th_r (fR (Res1 rfl rfl) ?_))))
    have he1 : insertAdd_m s i vs = (s ++ vs) := by
      unfold insertAdd_m
      first | rfl | exact ins_end s vs (by omega) | exact ins_grow s vs _ (by omega) (by omega) (by omega)
    rewrite [he1]
    exact ⟨_, _, _, rfl, how1, (st.pk [0] (by decide)).pickK [], hF, kc_b hnew1 kc_n⟩
  refine sk k7 (sq fun _ k10 => sq fun _ k11 => rg (Lm rfl (Lm rfl (Ly rfl (y_add (c := (s.length : Int) + (vs.length : Int)) rfl rfl rfl (wf_i64 (by first | omega | (simp; done) | (simp; omega)))) ?_))))
  refine Lm rfl ?_
  have hlcp := Ow.lc z6
  refine Ly rfl (y_capl rfl rfl Tryz.underlying50) (Ly rfl (ygt rfl) (Ln k11 (cD rfl (fun hc3 => ?_) (fun hc3 => ?_))))
  · refine sq fun _ k12 => rg (Lm rfl (Lm rfl ?_))
    obtain ⟨gi1, egi1⟩ := (z6).some_ (by first | omega | (simp; done) | (simp; omega))
    subst egi1
    have hlc1 := Ow.lc z6
    have hlc1b := hlc1
    try simp only [List.length_append, List.length_take, List.length_drop, List.length_replicate] at hlc1b
    refine Ly rfl (y_cutV (p := (0 : Int)) (q := i) rfl rfl Ty.es_50 rfl rfl (by first | omega | (simp; done) | (simp; omega)) (by first | omega | (simp; done) | (simp; omega)) (by first | omega | (simp; done) | (simp; omega)) (by first | omega | (simp; done) | (simp; omega)) (by first | omega | (simp; done) | (simp; omega))) ?_
    refine Lm rfl (Lm rfl (Ly rfl (y_add (c := (s.length : Int) + (vs.length : Int)) rfl rfl rfl (wf_i64 (by first | omega | (simp; done) | (simp; omega)))) ?_))
    refine Lm rfl (Ly rfl (y_sub (c := ((s.length : Int) + (vs.length : Int)) - i) rfl rfl rfl (wf_i64 (by first | omega | (simp; done) | (simp; omega)))) ?_)
    have hlcz := Ow.lc z6
    refine La rfl (a_appz (enc := addMC) (xs := s.take i.toNat) (u := (⟨(⟨(⟨0, 0⟩ : IdM), 0⟩ : TagM), []⟩ : AddM)) (q := ((s.length : Int) + (vs.length : Int)) - i) rfl rfl rfl rfl rfl (by simp; try omega) Ty.es_50 Tryz.underlying3 Ty.zc_126 rfl Ty.by_126 (fun _ => rfl) (by decide) (own_srcT (i := 0) (enc := addMC) (xs := s) (fun _ => rfl) st.hp rfl i.toNat) (fun h => by cases h) (by first | omega | (simp; done) | (simp; omega)) (by first | omega | (simp; done) | (simp; omega)) (by first | omega | (simp; done) | (simp; omega)) (by simp; omega) st.hp (fun g1 ca2 sp2 w2 how2 (hp : Hp w2 [_, _, _]) hf hg1 => ?_))
    have st : St X w2 [_, _, _] [] := st.push hp hf hg1
    have st : St X w2 [_, _, _] [] := st
    have hg1 := Nat.le_trans hF.size hg1
    have hF := hF.step0 hf
    have hnew2 : ∀ g, blkOf (some ⟨g1, 0, none⟩) = some g → g ∈ (keys [(blkOf (some ⟨gi1, 0, none⟩), Cl (s.flatMap addMC ++ s2) 126), (blkOf A1, Cl (vs.flatMap addMC ++ s1) 126)]) ∨ w.heap.size ≤ g := fun g hg => by simp [blkOf] at hg; subst hg; exact .inr hg1
    refine Ls' rfl (Ln k12 (sq fun _ k13 => rg (Lm rfl (Lm rfl ?_))))
    have hlc2 := Ow.lc how2
    have hlc2b := hlc2
    try simp only [List.length_append, List.length_take, List.length_drop, List.length_replicate] at hlc2b
    refine Ly rfl (y_cutV (p := i) (q := (((s.take i.toNat) ++ List.replicate (((s.length : Int) + (vs.length : Int)) - i).toNat (⟨(⟨(⟨0, 0⟩ : IdM), 0⟩ : TagM), []⟩ : AddM)).length : Int)) rfl rfl Ty.es_50 rfl rfl (by first | omega | (simp; done) | (simp; omega)) (by first | omega | (simp; done) | (simp; omega)) (by first | omega | (simp; done) | (simp; omega)) (by first | omega | (simp; done) | (simp; omega)) (by first | omega | (simp; done) | (simp; omega))) ?_
    refine Lm rfl ?_
    obtain ⟨gi2, egi2⟩ := (z5).some_ (by first | omega | (simp; done) | (simp; omega))
    subst egi2
    have hlcc := Ow.lc how2
    refine La rfl (a_copyM (i := 2) (enc := addMC) (xs := (s.take i.toNat) ++ List.replicate (((s.length : Int) + (vs.length : Int)) - i).toNat (⟨(⟨(⟨0, 0⟩ : IdM), 0⟩ : TagM), []⟩ : AddM)) (ys := vs) (p := i) rfl rfl rfl rfl rfl Ty.es_50 (fun _ => rfl) (by decide) (by intro x v hv; simp only [addMC, List.mem_cons, List.not_mem_nil, or_false] at hv; rcases hv with rfl | rfl | rfl | rfl <;> rfl) (by try simp only [show ∀ a b : Nat, Nat.min a b = min a b from fun _ _ => rfl, List.length_drop, List.length_append, List.length_replicate, List.length_take]; omega) (own_range (i := 1) st.hp rfl) how2 rfl st.hp rfl (by simp; omega) (fun w3 how3 (hp : Hp w3 [_, _, _]) hf => ?_))
    have st : St X w3 [_, _, _] [] := st.set (i := 2) rfl hp hf
    have st : St X w3 [_, _, _] [] := st
    have hF := hF.step hf (fun y hy => hnew2 y (by simp at hy; subst hy; rfl))
    have hln1 : (((s.take i.toNat) ++ List.replicate (((s.length : Int) + (vs.length : Int)) - i).toNat (⟨(⟨(⟨0, 0⟩ : IdM), 0⟩ : TagM), []⟩ : AddM)).take i.toNat ++ vs ++ ((s.take i.toNat) ++ List.replicate (((s.length : Int) + (vs.length : Int)) - i).toNat (⟨(⟨(⟨0, 0⟩ : IdM), 0⟩ : TagM), []⟩ : AddM)).drop (i.toNat + vs.length)).length = ((s.take i.toNat) ++ List.replicate (((s.length : Int) + (vs.length : Int)) - i).toNat (⟨(⟨(⟨0, 0⟩ : IdM), 0⟩ : TagM), []⟩ : AddM)).length := by simp; omega
    refine Ln k13 (sq fun _ k14 => ?_)
    refine Wp_plan (fun W => St X W (pickL (hOf st) [0, 1]) (kOf st)) [(true, 0), (true, 1), (true, 2), (true, 3), (true, 4), (true, 5), (true, 6), (true, 7), (false, 8)] Ty.mx_0 (by kernel_rfl) (by kernel_rfl) rfl ((st.pk [0, 1] (by decide)).drew) ?_
    have st := st.drew
    have hF := hF.step0 (Fr.drew _)
    refine Pm rfl (Pm rfl (Pm rfl (Py rfl (y_add (c := i + (vs.length : Int)) rfl rfl rfl (wf_i64 (by first | omega | (simp; done) | (simp; omega)))) ?_)))
    have hlc3 := Ow.lc how3
    have hlc3b := hlc3
    try simp only [List.length_append, List.length_take, List.length_drop, List.length_replicate] at hlc3b
    refine Py rfl (y_cutV (p := i + (vs.length : Int)) (q := (((s.take i.toNat) ++ List.replicate (((s.length : Int) + (vs.length : Int)) - i).toNat (⟨(⟨(⟨0, 0⟩ : IdM), 0⟩ : TagM), []⟩ : AddM)).length : Int)) rfl rfl Ty.es_50 rfl rfl (by first | omega | (simp; done) | (simp; omega)) (by first | omega | (simp; done) | (simp; omega)) (by first | omega | (simp; done) | (simp; omega)) (by first | omega | (simp; done) | (simp; omega)) (by first | omega | (simp; done) | (simp; omega))) ?_
    refine Pm rfl (Pm rfl ?_)
    have hlc4 := Ow.lc z6
    have hlc4b := hlc4
    try simp only [List.length_append, List.length_take, List.length_drop, List.length_replicate] at hlc4b
    refine Py rfl (y_cutV (p := i) (q := (s.length : Int)) rfl rfl Ty.es_50 rfl rfl (by first | omega | (simp; done) | (simp; omega)) (by first | omega | (simp; done) | (simp; omega)) (by first | omega | (simp; done) | (simp; omega)) (by first | omega | (simp; done) | (simp; omega)) (by first | omega | (simp; done) | (simp; omega))) ?_
    have hlcc := Ow.lc how3
    refine Pl_a rfl (wtd0 rfl) (by rfl) ?_
    refine a_copyM (i := 2) (enc := addMC) (xs := ((s.take i.toNat) ++ List.replicate (((s.length : Int) + (vs.length : Int)) - i).toNat (⟨(⟨(⟨0, 0⟩ : IdM), 0⟩ : TagM), []⟩ : AddM)).take i.toNat ++ vs ++ ((s.take i.toNat) ++ List.replicate (((s.length : Int) + (vs.length : Int)) - i).toNat (⟨(⟨(⟨0, 0⟩ : IdM), 0⟩ : TagM), []⟩ : AddM)).drop (i.toNat + vs.length)) (ys := s.drop i.toNat) (p := i + (vs.length : Int)) rfl rfl rfl rfl rfl Ty.es_50 (fun _ => rfl) (by decide) (by intro x v hv; simp only [addMC, List.mem_cons, List.not_mem_nil, or_false] at hv; rcases hv with rfl | rfl | rfl | rfl <;> rfl) (by try simp only [show ∀ a b : Nat, Nat.min a b = min a b from fun _ _ => rfl, List.length_drop, List.length_append, List.length_replicate, List.length_take]; omega) (own_rangeD (i := 0) (enc := addMC) (xs := s) (fun _ => rfl) st.hp rfl i.toNat) how3 (hln1).symm st.hp rfl (by simp; omega) (fun w4 how4 (hp : Hp w4 [_, _, _]) hf => ?_)
    have st : St X w4 [_, _, _] [] := st.set (i := 2) rfl hp hf
    have st : St X w4 [_, _, _] [] := st
    have hF := hF.step hf (fun y hy => hnew2 y (by simp at hy; subst hy; rfl))
    refine ⟨(st.pk [0, 1] (by decide)).tK 0, ?_⟩
    have hln2 : ((((s.take i.toNat) ++ List.replicate (((s.length : Int) + (vs.length : Int)) - i).toNat (⟨(⟨(⟨0, 0⟩ : IdM), 0⟩ : TagM), []⟩ : AddM)).take i.toNat ++ vs ++ ((s.take i.toNat) ++ List.replicate (((s.length : Int) + (vs.length : Int)) - i).toNat (⟨(⟨(⟨0, 0⟩ : IdM), 0⟩ : TagM), []⟩ : AddM)).drop (i.toNat + vs.length)).take (i + (vs.length : Int)).toNat ++ (s.drop i.toNat) ++ (((s.take i.toNat) ++ List.replicate (((s.length : Int) + (vs.length : Int)) - i).toNat (⟨(⟨(⟨0, 0⟩ : IdM), 0⟩ : TagM), []⟩ : AddM)).take i.toNat ++ vs ++ ((s.take i.toNat) ++ List.replicate (((s.length : Int) + (vs.length : Int)) - i).toNat (⟨(⟨(⟨0, 0⟩ : IdM), 0⟩ : TagM), []⟩ : AddM)).drop (i.toNat + vs.length)).drop ((i + (vs.length : Int)).toNat + (s.drop i.toNat).length)).length = ((s.take i.toNat) ++ List.replicate (((s.length : Int) + (vs.length : Int)) - i).toNat (⟨(⟨(⟨0, 0⟩ : IdM), 0⟩ : TagM), []⟩ : AddM)).length := by simp; omega
    refine Pl_nil (Th_n (k14 _ _ (sq fun _ k15 => rg (Lm rfl (Ls' rfl (Ln k15 (wR (Th_r (fR (Res1 rfl rfl) ?_)))))))))
    have he2 : insertAdd_m s i vs = ((((s.take i.toNat) ++ List.replicate (((s.length : Int) + (vs.length : Int)) - i).toNat (⟨(⟨(⟨0, 0⟩ : IdM), 0⟩ : TagM), []⟩ : AddM)).take i.toNat ++ vs ++ ((s.take i.toNat) ++ List.replicate (((s.length : Int) + (vs.length : Int)) - i).toNat (⟨(⟨(⟨0, 0⟩ : IdM), 0⟩ : TagM), []⟩ : AddM)).drop (i.toNat + vs.length)).take (i + (vs.length : Int)).toNat ++ (s.drop i.toNat) ++ (((s.take i.toNat) ++ List.replicate (((s.length : Int) + (vs.length : Int)) - i).toNat (⟨(⟨(⟨0, 0⟩ : IdM), 0⟩ : TagM), []⟩ : AddM)).take i.toNat ++ vs ++ ((s.take i.toNat) ++ List.replicate (((s.length : Int) + (vs.length : Int)) - i).toNat (⟨(⟨(⟨0, 0⟩ : IdM), 0⟩ : TagM), []⟩ : AddM)).drop (i.toNat + vs.length)).drop ((i + (vs.length : Int)).toNat + (s.drop i.toNat).length)) := by
      unfold insertAdd_m
      first | rfl | exact ins_end s vs (by omega) | exact ins_grow s vs _ (by omega) (by omega) (by omega)
    rewrite [he2]
    exact ⟨some ⟨g1, 0, none⟩, ca2, sp2, by rw [hln2], by rw [hln2]; exact how4, (st.pk [2] (by decide)).pickK [], hF, kc_b hnew2 kc_n⟩
  refine sk k10 (sq fun _ k16 => rg (Lm rfl (Lm rfl (Lm rfl (Ly rfl (y_add (c := (s.length : Int) + (vs.length : Int)) rfl rfl rfl (wf_i64 (by first | omega | (simp; done) | (simp; omega)))) ?_)))))
  obtain ⟨gi3, egi3⟩ := (z6).some_ (by first | omega | (simp; done) | (simp; omega))
  subst egi3
  have hlc5 := Ow.lc z6
  have hlc5b := hlc5
  try simp only [List.length_append, List.length_take, List.length_drop, List.length_replicate] at hlc5b
  refine Ly rfl (y_cutE (q := (s.length : Int) + (vs.length : Int)) rfl rfl Ty.es_50 rfl (by first | omega | (simp; done) | (simp; omega)) (by first | omega | (simp; done) | (simp; omega)) (by first | omega | (simp; done) | (simp; omega)) (by first | omega | (simp; done) | (simp; omega))) ?_
  refine Ls' rfl (Ln k16 (sq fun _ k17 => sq fun _ k18 => rg (Lm rfl (Lm rfl (Lm rfl (Lm rfl (Ly rfl (y_add (c := i + (vs.length : Int)) rfl rfl rfl (wf_i64 (by first | omega | (simp; done) | (simp; omega)))) ?_)))))))
  have hlc6 := Ow.lc z6
  have hlc6b := hlc6
  try simp only [List.length_append, List.length_take, List.length_drop, List.length_replicate] at hlc6b
  refine Ly rfl (y_cutV (p := i + (vs.length : Int)) (q := (((s.length : Int) + (vs.length : Int)).toNat : Int)) rfl rfl Ty.es_50 rfl rfl (by first | omega | (simp; done) | (simp; omega)) (by first | omega | (simp; done) | (simp; omega)) (by first | omega | (simp; done) | (simp; omega)) (by first | omega | (simp; done) | (simp; omega)) (by first | omega | (simp; done) | (simp; omega))) ?_
  obtain ⟨gi4, egi4⟩ := (z5).some_ (by first | omega | (simp; done) | (simp; omega))
  subst egi4
  refine La rfl (a_overlaps (t := 50) (tR := 4) (i := 1) (j := 0) rfl rfl rfl Tryz.func126 (by kernel_rfl) (by kernel_rfl) (by kernel_rfl) (by kernel_rfl) Ty.es_50 rfl st.hp rfl rfl (by decide) (by rw [List.length_append, fl_len (enc := addMC) (m := 4) (fun _ => rfl)]; omega) ?_)
  refine Ly rfl (yn rfl) (Ln k18 (Wp_cond_t rfl (sq fun _ k19 => ?_)))
  refine Wp_plan (fun W => St X W (pickL (hOf st) [1]) (kOf st)) [(true, 0), (true, 1), (true, 2), (true, 3), (true, 4), (true, 5), (true, 6), (true, 7), (false, 8)] Ty.mx_0 (by kernel_rfl) (by kernel_rfl) rfl ((st.pk [1] (by decide)).drew) ?_
  have st := st.drew
  have hF := hF.step0 (Fr.drew _)
  refine Pm rfl (Pm rfl (Pm rfl (Py rfl (y_add (c := i + (vs.length : Int)) rfl rfl rfl (wf_i64 (by first | omega | (simp; done) | (simp; omega)))) ?_)))
  have hlc7 := Ow.lc z6
  have hlc7b := hlc7
  try simp only [List.length_append, List.length_take, List.length_drop, List.length_replicate] at hlc7b
  refine Py rfl (y_cutV (p := i + (vs.length : Int)) (q := (((s.length : Int) + (vs.length : Int)).toNat : Int)) rfl rfl Ty.es_50 rfl rfl (by first | omega | (simp; done) | (simp; omega)) (by first | omega | (simp; done) | (simp; omega)) (by first | omega | (simp; done) | (simp; omega)) (by first | omega | (simp; done) | (simp; omega)) (by first | omega | (simp; done) | (simp; omega))) ?_
  refine Pm rfl (Pm rfl ?_)
  have hlc8 := Ow.lc z6
  have hlc8b := hlc8
  try simp only [List.length_append, List.length_take, List.length_drop, List.length_replicate] at hlc8b
  refine Py rfl (y_cutV (p := i) (q := (((s.length : Int) + (vs.length : Int)).toNat : Int)) rfl rfl Ty.es_50 rfl rfl (by first | omega | (simp; done) | (simp; omega)) (by first | omega | (simp; done) | (simp; omega)) (by first | omega | (simp; done) | (simp; omega)) (by first | omega | (simp; done) | (simp; omega)) (by first | omega | (simp; done) | (simp; omega))) ?_
  refine Pl_a rfl (wtd0 rfl) (by rfl) ?_
  refine a_shift (j := 0) (enc := addMC) (xs := s) (sp := s2) (p := i + (vs.length : Int)) (i := i) (mm := vs.length) rfl rfl rfl rfl rfl Ty.es_50 (fun _ => rfl) (by intro x v hv; simp only [addMC, List.mem_cons, List.not_mem_nil, or_false] at hv; rcases hv with rfl | rfl | rfl | rfl <;> rfl) (by first | omega | (simp; done) | (simp; omega)) (by first | omega | (simp; done) | (simp; omega)) (by first | omega | (simp; done) | (simp; omega)) (by try simp only [show ∀ a b : Nat, Nat.min a b = min a b from fun _ _ => rfl, List.length_drop, List.length_append, List.length_replicate, List.length_take]; omega) st.hp rfl (Ow.room z6 (by first | omega | (simp; done) | (simp; omega))) (fun hole1 w5 hhole1 (hp : Hp w5 [_, _]) hf => ?_)
  have st : St X w5 [_, _] [] := st.set (i := 0) rfl hp hf
  have st : St X w5 [_, _] [] := st
  have hF := hF.step hf (fun y hy => z3 y (by simp at hy; subst hy; rfl))
  refine ⟨(st.pk [1] (by decide)).tK 0, ?_⟩
  refine Pl_nil (Th_n (k19 _ _ (sq fun _ k20 => rg (Lm rfl (Lm rfl ?_)))))
  have hlc9 := Ow.lc z6
  have hlc9b := hlc9
  try simp only [List.length_append, List.length_take, List.length_drop, List.length_replicate] at hlc9b
  refine Ly rfl (y_cutV (p := i) (q := (((s.length : Int) + (vs.length : Int)).toNat : Int)) rfl rfl Ty.es_50 rfl rfl (by first | omega | (simp; done) | (simp; omega)) (by first | omega | (simp; done) | (simp; omega)) (by first | omega | (simp; done) | (simp; omega)) (by first | omega | (simp; done) | (simp; omega)) (by first | omega | (simp; done) | (simp; omega))) ?_
  refine Lm rfl (La rfl (a_fill (j := 0) (enc := addMC) (ys := vs) (i := i) rfl rfl rfl rfl rfl Ty.es_50 (fun _ => rfl) (by intro x v hv; simp only [addMC, List.mem_cons, List.not_mem_nil, or_false] at hv; rcases hv with rfl | rfl | rfl | rfl <;> rfl) (by try simp only [show ∀ a b : Nat, Nat.min a b = min a b from fun _ _ => rfl, List.length_drop, List.length_append, List.length_replicate, List.length_take]; omega) (own_range (i := 1) st.hp rfl) st.hp rfl (by rw [fl_len (enc := addMC) (m := 4) (fun _ => rfl), List.length_take]; congr 1; omega) (by rw [hhole1]) (fun w6 (hp : Hp w6 _) hf => ?_)))
  have st : St X w6 _ [] := st.set (i := 0) rfl hp hf
  have hF := hF.step hf (fun y hy => z3 y (by simp at hy; subst hy; rfl))
  have hln3 : (s.take i.toNat ++ vs ++ s.drop i.toNat).length = (s.length + vs.length) := by simp; omega
  have how5 := Ow.ins (enc := addMC) (s := s) (i := i.toNat) (v := vs) (fun _ => rfl) z6 rfl (by omega) (by omega)
  have hln4 : (s.take i.toNat ++ vs ++ s.drop i.toNat).length = ((s.length : Int) + (vs.length : Int)).toNat := by simp; omega
  rewrite [hln4] at how5
  have st : St X w6 [_, _] [] := st.conv (i := 0) rfl (by simp : _ = (s.take i.toNat ++ vs ++ s.drop i.toNat).flatMap addMC ++ (s2.drop (vs.length * 4)))
  refine Ln k20 (sq fun _ k21 => rg (Lm rfl (Ls' rfl (Ln k21 (wR (Th_r (fR (Res1 rfl rfl) ?_)))))))
  have he3 : insertAdd_m s i vs = (s.take i.toNat ++ vs ++ s.drop i.toNat) := by
    unfold insertAdd_m
    first | rfl | exact ins_end s vs (by omega) | exact ins_grow s vs _ (by omega) (by omega) (by omega)
  rewrite [he3]
  exact ⟨some ⟨gi3, 0, none⟩, c_s, (s2.drop (vs.length * 4)), by rw [hln4], by rw [hln4]; exact how5, (st.pk [0] (by decide)).pickK [], hF, kc_b z3 kc_n⟩
def insertPut_m (s : List PutM) (i : Int) (vs : List PutM) : (List PutM) :=
  s.take i.toNat ++ vs ++ s.drop i.toNat
set_option maxHeartbeats 1000000 in
theorem insertPut_ok (X : List Nat) (w : World) (s : List PutM) (A_s : Option Addr) (c_s : Nat) (s2 : List Value) (i : Int) (vs : List PutM) (A1 : Option Addr) (C1 : Nat) (s1 : List Value) (hs : St X w [(blkOf A_s, Cl (s.flatMap putMC ++ s2) 131), (blkOf A1, Cl (vs.flatMap putMC ++ s1) 131)] []) (z6 : Ow A_s s.length c_s 7 (s.flatMap putMC) s2) (z5 : Ow A1 vs.length C1 7 (vs.flatMap putMC) s1) (hv1 : vs.length = 1) (hi0 : 0 ≤ i) (hi1 : i ≤ s.length) (hs1 : s.length ≤ 1000000) :
    Fn Tryz.prog 97 [.slice A_s s.length c_s, .int .i64 i, .slice A1 vs.length C1] w fun v w' => ∃ (A' : Option Addr) (c' : Nat) (sp' : List Value), v = .slice A' (insertPut_m s i vs).length c' ∧ Ow A' (insertPut_m s i vs).length c' 7 ((insertPut_m s i vs).flatMap putMC) sp' ∧ St X w' [(blkOf A', Cl ((insertPut_m s i vs).flatMap putMC ++ sp') 131)] [] ∧ Fr (keys [(blkOf A_s, Cl (s.flatMap putMC ++ s2) 131), (blkOf A1, Cl (vs.flatMap putMC ++ s1) 131)]) w w' ∧ (∀ k ∈ keys [(blkOf A', Cl ((insertPut_m s i vs).flatMap putMC ++ sp') 131)], k ∈ (keys [(blkOf A_s, Cl (s.flatMap putMC ++ s2) 131), (blkOf A1, Cl (vs.flatMap putMC ++ s1) 131)]) ∨ w.heap.size ≤ k) := by
  refine Fn_of 95 Ty.en_97 Tryz.func97 rfl rfl rfl ?_
  dsimp only [argEnv]
  have hs0 := hs
  have st : St X w [(blkOf A_s, Cl (s.flatMap putMC ++ s2) 131), (blkOf A1, Cl (vs.flatMap putMC ++ s1) 131)] [] := hs
  have z3 : ∀ g, blkOf A_s = some g → g ∈ (keys [(blkOf A_s, Cl (s.flatMap putMC ++ s2) 131), (blkOf A1, Cl (vs.flatMap putMC ++ s1) 131)]) ∨ w.heap.size ≤ g := fun g hg => .inl (by simp [keys, hg])
  have z4 := Ow.le z6
  have z1 : ∀ g, blkOf A1 = some g → g ∈ (keys [(blkOf A_s, Cl (s.flatMap putMC ++ s2) 131), (blkOf A1, Cl (vs.flatMap putMC ++ s1) 131)]) ∨ w.heap.size ≤ g := fun g hg => .inl (by simp [keys, hg])
  have z2 := Ow.le z5
  have hF := Fr.refl (keys [(blkOf A_s, Cl (s.flatMap putMC ++ s2) 131), (blkOf A1, Cl (vs.flatMap putMC ++ s1) 131)]) w
  refine sq fun _ k1 => rg (Ls' rfl (Ln k1 (sq fun _ k2 => rg (Lm rfl (Lm rfl ?_)))))
  have hlcu := (Ow.lc z6).1
  refine Ly rfl (y_cutl (p := i) (q := (s.length : Int)) rfl rfl Ty.es_53 rfl rfl (by first | omega | (simp; done) | (simp; omega)) (by first | omega | (simp; done) | (simp; omega)) (by first | omega | (simp; done) | (simp; omega)) hlcu) ?_
  refine Ln k2 (sq fun _ k3 => rg (Lm rfl (Ly rfl (yll rfl Tryz.underlying53) (Ls' rfl (Ln k3 (sq fun _ k4 => sq fun _ k5 => rg (Lm rfl (Ly rfl (yeq rfl) (Ln k5 ?_)))))))))
  have hd1 : ¬ ((vs.length : Int) = 0) := by
    omega
  refine Wp_cond rfl (fun hc1 => absurd hc1 (by first | (simp [hd1]; done) | (rw [hd1]; simp; done) | simpa using hd1)) (fun _ => ?_)
  refine sk k4 (sq fun _ k6 => rg (Lm rfl (Ly rfl (yll rfl Tryz.underlying53) (Ls' rfl (Ln k6 (sq fun _ k7 => sq fun _ k8 => rg (Lm rfl (Lm rfl (Ly rfl (yeq rfl) (Ln k8 (cE rfl (fun hc2 => ?_) (fun hc2 => ?_))))))))))))
  · refine sq fun _ k9 => rg (Lm rfl (Lm rfl (La rfl (Sap (enc := putMC) s vs 0 Ty.es_53 Ty.zc_131 Ty.by_131 (fun _ => rfl) putMC_1 z6 z3 st hF (own_src (i := 1) st.hp rfl z5) (own_none z5) rfl (by first | omega | (simp; done) | (simp; omega)) (by first | omega | (simp; done) | (simp; omega)) fun Aa1 ca1 sp1 w1 how1 hnew1 (st : St _ _ [_, _] _) hF => ?_))))
    refine Ls' rfl (Ln k9 (wR (Th_r (fR (Res1 rfl rfl) ?_))))
    have he1 : insertPut_m s i vs = (s ++ vs) := by
      unfold insertPut_m
      first | rfl | exact ins_end s vs (by omega) | exact ins_grow s vs _ (by omega) (by omega) (by omega)
    rewrite [he1]
    exact ⟨_, _, _, rfl, how1, (st.pk [0] (by decide)).pickK [], hF, kc_b hnew1 kc_n⟩
  refine sk k7 (sq fun _ k10 => sq fun _ k11 => rg (Lm rfl (Lm rfl (Ly rfl (y_add (c := (s.length : Int) + (vs.length : Int)) rfl rfl rfl (wf_i64 (by first | omega | (simp; done) | (simp; omega)))) ?_))))
  refine Lm rfl ?_
  have hlcp := Ow.lc z6
  refine Ly rfl (y_capl rfl rfl Tryz.underlying53) (Ly rfl (ygt rfl) (Ln k11 (cD rfl (fun hc3 => ?_) (fun hc3 => ?_))))
  · refine sq fun _ k12 => rg (Lm rfl (Lm rfl ?_))
    obtain ⟨gi1, egi1⟩ := (z6).some_ (by first | omega | (simp; done) | (simp; omega))
    subst egi1
    have hlc1 := Ow.lc z6
    have hlc1b := hlc1
    try simp only [List.length_append, List.length_take, List.length_drop, List.length_replicate] at hlc1b
    refine Ly rfl (y_cutV (p := (0 : Int)) (q := i) rfl rfl Ty.es_53 rfl rfl (by first | omega | (simp; done) | (simp; omega)) (by first | omega | (simp; done) | (simp; omega)) (by first | omega | (simp; done) | (simp; omega)) (by first | omega | (simp; done) | (simp; omega)) (by first | omega | (simp; done) | (simp; omega))) ?_
    refine Lm rfl (Lm rfl (Ly rfl (y_add (c := (s.length : Int) + (vs.length : Int)) rfl rfl rfl (wf_i64 (by first | omega | (simp; done) | (simp; omega)))) ?_))
    refine Lm rfl (Ly rfl (y_sub (c := ((s.length : Int) + (vs.length : Int)) - i) rfl rfl rfl (wf_i64 (by first | omega | (simp; done) | (simp; omega)))) ?_)
    have hlcz := Ow.lc z6
    refine La rfl (a_appz (enc := putMC) (xs := s.take i.toNat) (u := (⟨(⟨(⟨0, 0⟩ : IdM), 0⟩ : TagM), [], 0, (⟨0, 0⟩ : StampM)⟩ : PutM)) (q := ((s.length : Int) + (vs.length : Int)) - i) rfl rfl rfl rfl rfl (by simp; try omega) Ty.es_53 Tryz.underlying3 Ty.zc_131 rfl Ty.by_131 (fun _ => rfl) (by decide) (own_srcT (i := 0) (enc := putMC) (xs := s) (fun _ => rfl) st.hp rfl i.toNat) (fun h => by cases h) (by first | omega | (simp; done) | (simp; omega)) (by first | omega | (simp; done) | (simp; omega)) (by first | omega | (simp; done) | (simp; omega)) (by simp; omega) st.hp (fun g1 ca2 sp2 w2 how2 (hp : Hp w2 [_, _, _]) hf hg1 => ?_))
    have st : St X w2 [_, _, _] [] := st.push hp hf hg1
    have st : St X w2 [_, _, _] [] := st
    have hg1 := Nat.le_trans hF.size hg1
    have hF := hF.step0 hf
    have hnew2 : ∀ g, blkOf (some ⟨g1, 0, none⟩) = some g → g ∈ (keys [(blkOf (some ⟨gi1, 0, none⟩), Cl (s.flatMap putMC ++ s2) 131), (blkOf A1, Cl (vs.flatMap putMC ++ s1) 131)]) ∨ w.heap.size ≤ g := fun g hg => by simp [blkOf] at hg; subst hg; exact .inr hg1
    refine Ls' rfl (Ln k12 (sq fun _ k13 => rg (Lm rfl (Lm rfl ?_))))
    have hlc2 := Ow.lc how2
    have hlc2b := hlc2
    try simp only [List.length_append, List.length_take, List.length_drop, List.length_replicate] at hlc2b
    refine Ly rfl (y_cutV (p := i) (q := (((s.take i.toNat) ++ List.replicate (((s.length : Int) + (vs.length : Int)) - i).toNat (⟨(⟨(⟨0, 0⟩ : IdM), 0⟩ : TagM), [], 0, (⟨0, 0⟩ : StampM)⟩ : PutM)).length : Int)) rfl rfl Ty.es_53 rfl rfl (by first | omega | (simp; done) | (simp; omega)) (by first | omega | (simp; done) | (simp; omega)) (by first | omega | (simp; done) | (simp; omega)) (by first | omega | (simp; done) | (simp; omega)) (by first | omega | (simp; done) | (simp; omega))) ?_
    refine Lm rfl ?_
    obtain ⟨gi2, egi2⟩ := (z5).some_ (by first | omega | (simp; done) | (simp; omega))
    subst egi2
    have hlcc := Ow.lc how2
    refine La rfl (a_copyM (i := 2) (enc := putMC) (xs := (s.take i.toNat) ++ List.replicate (((s.length : Int) + (vs.length : Int)) - i).toNat (⟨(⟨(⟨0, 0⟩ : IdM), 0⟩ : TagM), [], 0, (⟨0, 0⟩ : StampM)⟩ : PutM)) (ys := vs) (p := i) rfl rfl rfl rfl rfl Ty.es_53 (fun _ => rfl) (by decide) (by intro x v hv; simp only [putMC, List.mem_cons, List.not_mem_nil, or_false] at hv; rcases hv with rfl | rfl | rfl | rfl | rfl | rfl | rfl <;> rfl) (by try simp only [show ∀ a b : Nat, Nat.min a b = min a b from fun _ _ => rfl, List.length_drop, List.length_append, List.length_replicate, List.length_take]; omega) (own_range (i := 1) st.hp rfl) how2 rfl st.hp rfl (by simp; omega) (fun w3 how3 (hp : Hp w3 [_, _, _]) hf => ?_))
    have st : St X w3 [_, _, _] [] := st.set (i := 2) rfl hp hf
    have st : St X w3 [_, _, _] [] := st
    have hF := hF.step hf (fun y hy => hnew2 y (by simp at hy; subst hy; rfl))
    have hln1 : (((s.take i.toNat) ++ List.replicate (((s.length : Int) + (vs.length : Int)) - i).toNat (⟨(⟨(⟨0, 0⟩ : IdM), 0⟩ : TagM), [], 0, (⟨0, 0⟩ : StampM)⟩ : PutM)).take i.toNat ++ vs ++ ((s.take i.toNat) ++ List.replicate (((s.length : Int) + (vs.length : Int)) - i).toNat (⟨(⟨(⟨0, 0⟩ : IdM), 0⟩ : TagM), [], 0, (⟨0, 0⟩ : StampM)⟩ : PutM)).drop (i.toNat + vs.length)).length = ((s.take i.toNat) ++ List.replicate (((s.length : Int) + (vs.length : Int)) - i).toNat (⟨(⟨(⟨0, 0⟩ : IdM), 0⟩ : TagM), [], 0, (⟨0, 0⟩ : StampM)⟩ : PutM)).length := by simp; omega
    refine Ln k13 (sq fun _ k14 => ?_)
    refine Wp_plan (fun W => St X W (pickL (hOf st) [0, 1]) (kOf st)) [(true, 0), (true, 1), (true, 2), (true, 3), (true, 4), (true, 5), (true, 6), (true, 7), (false, 8)] Ty.mx_0 (by kernel_rfl) (by kernel_rfl) rfl ((st.pk [0, 1] (by decide)).drew) ?_
    have st := st.drew
    have hF := hF.step0 (Fr.drew _)
    refine Pm rfl (Pm rfl (Pm rfl (Py rfl (y_add (c := i + (vs.length : Int)) rfl rfl rfl (wf_i64 (by first | omega | (simp; done) | (simp; omega)))) ?_)))
    have hlc3 := Ow.lc how3
    have hlc3b := hlc3
    try simp only [List.length_append, List.length_take, List.length_drop, List.length_replicate] at hlc3b
    refine Py rfl (y_cutV (p := i + (vs.length : Int)) (q := (((s.take i.toNat) ++ List.replicate (((s.length : Int) + (vs.length : Int)) - i).toNat (⟨(⟨(⟨0, 0⟩ : IdM), 0⟩ : TagM), [], 0, (⟨0, 0⟩ : StampM)⟩ : PutM)).length : Int)) rfl rfl Ty.es_53 rfl rfl (by first | omega | (simp; done) | (simp; omega)) (by first | omega | (simp; done) | (simp; omega)) (by first | omega | (simp; done) | (simp; omega)) (by first | omega | (simp; done) | (simp; omega)) (by first | omega | (simp; done) | (simp; omega))) ?_
    refine Pm rfl (Pm rfl ?_)
    have hlc4 := Ow.lc z6
    have hlc4b := hlc4
    try simp only [List.length_append, List.length_take, List.length_drop, List.length_replicate] at hlc4b
    refine Py rfl (y_cutV (p := i) (q := (s.length : Int)) rfl rfl Ty.es_53 rfl rfl (by first | omega | (simp; done) | (simp; omega)) (by first | omega | (simp; done) | (simp; omega)) (by first | omega | (simp; done) | (simp; omega)) (by first | omega | (simp; done) | (simp; omega)) (by first | omega | (simp; done) | (simp; omega))) ?_
    have hlcc := Ow.lc how3
    refine Pl_a rfl (wtd0 rfl) (by rfl) ?_
    refine a_copyM (i := 2) (enc := putMC) (xs := ((s.take i.toNat) ++ List.replicate (((s.length : Int) + (vs.length : Int)) - i).toNat (⟨(⟨(⟨0, 0⟩ : IdM), 0⟩ : TagM), [], 0, (⟨0, 0⟩ : StampM)⟩ : PutM)).take i.toNat ++ vs ++ ((s.take i.toNat) ++ List.replicate (((s.length : Int) + (vs.length : Int)) - i).toNat (⟨(⟨(⟨0, 0⟩ : IdM), 0⟩ : TagM), [], 0, (⟨0, 0⟩ : StampM)⟩ : PutM)).drop (i.toNat + vs.length)) (ys := s.drop i.toNat) (p := i + (vs.length : Int)) rfl rfl rfl rfl rfl Ty.es_53 (fun _ => rfl) (by decide) (by intro x v hv; simp only [putMC, List.mem_cons, List.not_mem_nil, or_false] at hv; rcases hv with rfl | rfl | rfl | rfl | rfl | rfl | rfl <;> rfl) (by try simp only [show ∀ a b : Nat, Nat.min a b = min a b from fun _ _ => rfl, List.length_drop, List.length_append, List.length_replicate, List.length_take]; omega) (own_rangeD (i := 0) (enc := putMC) (xs := s) (fun _ => rfl) st.hp rfl i.toNat) how3 (hln1).symm st.hp rfl (by simp; omega) (fun w4 how4 (hp : Hp w4 [_, _, _]) hf => ?_)
    have st : St X w4 [_, _, _] [] := st.set (i := 2) rfl hp hf
    have st : St X w4 [_, _, _] [] := st
    have hF := hF.step hf (fun y hy => hnew2 y (by simp at hy; subst hy; rfl))
    refine ⟨(st.pk [0, 1] (by decide)).tK 0, ?_⟩
    have hln2 : ((((s.take i.toNat) ++ List.replicate (((s.length : Int) + (vs.length : Int)) - i).toNat (⟨(⟨(⟨0, 0⟩ : IdM), 0⟩ : TagM), [], 0, (⟨0, 0⟩ : StampM)⟩ : PutM)).take i.toNat ++ vs ++ ((s.take i.toNat) ++ List.replicate (((s.length : Int) + (vs.length : Int)) - i).toNat (⟨(⟨(⟨0, 0⟩ : IdM), 0⟩ : TagM), [], 0, (⟨0, 0⟩ : StampM)⟩ : PutM)).drop (i.toNat + vs.length)).take (i + (vs.length : Int)).toNat ++ (s.drop i.toNat) ++ (((s.take i.toNat) ++ List.replicate (((s.length : Int) + (vs.length : Int)) - i).toNat (⟨(⟨(⟨0, 0⟩ : IdM), 0⟩ : TagM), [], 0, (⟨0, 0⟩ : StampM)⟩ : PutM)).take i.toNat ++ vs ++ ((s.take i.toNat) ++ List.replicate (((s.length : Int) + (vs.length : Int)) - i).toNat (⟨(⟨(⟨0, 0⟩ : IdM), 0⟩ : TagM), [], 0, (⟨0, 0⟩ : StampM)⟩ : PutM)).drop (i.toNat + vs.length)).drop ((i + (vs.length : Int)).toNat + (s.drop i.toNat).length)).length = ((s.take i.toNat) ++ List.replicate (((s.length : Int) + (vs.length : Int)) - i).toNat (⟨(⟨(⟨0, 0⟩ : IdM), 0⟩ : TagM), [], 0, (⟨0, 0⟩ : StampM)⟩ : PutM)).length := by simp; omega
    refine Pl_nil (Th_n (k14 _ _ (sq fun _ k15 => rg (Lm rfl (Ls' rfl (Ln k15 (wR (Th_r (fR (Res1 rfl rfl) ?_)))))))))
    have he2 : insertPut_m s i vs = ((((s.take i.toNat) ++ List.replicate (((s.length : Int) + (vs.length : Int)) - i).toNat (⟨(⟨(⟨0, 0⟩ : IdM), 0⟩ : TagM), [], 0, (⟨0, 0⟩ : StampM)⟩ : PutM)).take i.toNat ++ vs ++ ((s.take i.toNat) ++ List.replicate (((s.length : Int) + (vs.length : Int)) - i).toNat (⟨(⟨(⟨0, 0⟩ : IdM), 0⟩ : TagM), [], 0, (⟨0, 0⟩ : StampM)⟩ : PutM)).drop (i.toNat + vs.length)).take (i + (vs.length : Int)).toNat ++ (s.drop i.toNat) ++ (((s.take i.toNat) ++ List.replicate (((s.length : Int) + (vs.length : Int)) - i).toNat (⟨(⟨(⟨0, 0⟩ : IdM), 0⟩ : TagM), [], 0, (⟨0, 0⟩ : StampM)⟩ : PutM)).take i.toNat ++ vs ++ ((s.take i.toNat) ++ List.replicate (((s.length : Int) + (vs.length : Int)) - i).toNat (⟨(⟨(⟨0, 0⟩ : IdM), 0⟩ : TagM), [], 0, (⟨0, 0⟩ : StampM)⟩ : PutM)).drop (i.toNat + vs.length)).drop ((i + (vs.length : Int)).toNat + (s.drop i.toNat).length)) := by
      unfold insertPut_m
      first | rfl | exact ins_end s vs (by omega) | exact ins_grow s vs _ (by omega) (by omega) (by omega)
    rewrite [he2]
    exact ⟨some ⟨g1, 0, none⟩, ca2, sp2, by rw [hln2], by rw [hln2]; exact how4, (st.pk [2] (by decide)).pickK [], hF, kc_b hnew2 kc_n⟩
  refine sk k10 (sq fun _ k16 => rg (Lm rfl (Lm rfl (Lm rfl (Ly rfl (y_add (c := (s.length : Int) + (vs.length : Int)) rfl rfl rfl (wf_i64 (by first | omega | (simp; done) | (simp; omega)))) ?_)))))
  obtain ⟨gi3, egi3⟩ := (z6).some_ (by first | omega | (simp; done) | (simp; omega))
  subst egi3
  have hlc5 := Ow.lc z6
  have hlc5b := hlc5
  try simp only [List.length_append, List.length_take, List.length_drop, List.length_replicate] at hlc5b
  refine Ly rfl (y_cutE (q := (s.length : Int) + (vs.length : Int)) rfl rfl Ty.es_53 rfl (by first | omega | (simp; done) | (simp; omega)) (by first | omega | (simp; done) | (simp; omega)) (by first | omega | (simp; done) | (simp; omega)) (by first | omega | (simp; done) | (simp; omega))) ?_
  refine Ls' rfl (Ln k16 (sq fun _ k17 => sq fun _ k18 => rg (Lm rfl (Lm rfl (Lm rfl (Lm rfl (Ly rfl (y_add (c := i + (vs.length : Int)) rfl rfl rfl (wf_i64 (by first | omega | (simp; done) | (simp; omega)))) ?_)))))))
  have hlc6 := Ow.lc z6
  have hlc6b := hlc6
  try simp only [List.length_append, List.length_take, List.length_drop, List.length_replicate] at hlc6b
  refine Ly rfl (y_cutV (p := i + (vs.length : Int)) (q := (((s.length : Int) + (vs.length : Int)).toNat : Int)) rfl rfl Ty.es_53 rfl rfl (by first | omega | (simp; done) | (simp; omega)) (by first | omega | (simp; done) | (simp; omega)) (by first | omega | (simp; done) | (simp; omega)) (by first | omega | (simp; done) | (simp; omega)) (by first | omega | (simp; done) | (simp; omega))) ?_
  obtain ⟨gi4, egi4⟩ := (z5).some_ (by first | omega | (simp; done) | (simp; omega))
  subst egi4
  refine La rfl (a_overlaps (t := 53) (tR := 4) (i := 1) (j := 0) rfl rfl rfl Tryz.func133 (by kernel_rfl) (by kernel_rfl) (by kernel_rfl) (by kernel_rfl) Ty.es_53 rfl st.hp rfl rfl (by decide) (by rw [List.length_append, fl_len (enc := putMC) (m := 7) (fun _ => rfl)]; omega) ?_)
  refine Ly rfl (yn rfl) (Ln k18 (Wp_cond_t rfl (sq fun _ k19 => ?_)))
  refine Wp_plan (fun W => St X W (pickL (hOf st) [1]) (kOf st)) [(true, 0), (true, 1), (true, 2), (true, 3), (true, 4), (true, 5), (true, 6), (true, 7), (false, 8)] Ty.mx_0 (by kernel_rfl) (by kernel_rfl) rfl ((st.pk [1] (by decide)).drew) ?_
  have st := st.drew
  have hF := hF.step0 (Fr.drew _)
  refine Pm rfl (Pm rfl (Pm rfl (Py rfl (y_add (c := i + (vs.length : Int)) rfl rfl rfl (wf_i64 (by first | omega | (simp; done) | (simp; omega)))) ?_)))
  have hlc7 := Ow.lc z6
  have hlc7b := hlc7
  try simp only [List.length_append, List.length_take, List.length_drop, List.length_replicate] at hlc7b
  refine Py rfl (y_cutV (p := i + (vs.length : Int)) (q := (((s.length : Int) + (vs.length : Int)).toNat : Int)) rfl rfl Ty.es_53 rfl rfl (by first | omega | (simp; done) | (simp; omega)) (by first | omega | (simp; done) | (simp; omega)) (by first | omega | (simp; done) | (simp; omega)) (by first | omega | (simp; done) | (simp; omega)) (by first | omega | (simp; done) | (simp; omega))) ?_
  refine Pm rfl (Pm rfl ?_)
  have hlc8 := Ow.lc z6
  have hlc8b := hlc8
  try simp only [List.length_append, List.length_take, List.length_drop, List.length_replicate] at hlc8b
  refine Py rfl (y_cutV (p := i) (q := (((s.length : Int) + (vs.length : Int)).toNat : Int)) rfl rfl Ty.es_53 rfl rfl (by first | omega | (simp; done) | (simp; omega)) (by first | omega | (simp; done) | (simp; omega)) (by first | omega | (simp; done) | (simp; omega)) (by first | omega | (simp; done) | (simp; omega)) (by first | omega | (simp; done) | (simp; omega))) ?_
  refine Pl_a rfl (wtd0 rfl) (by rfl) ?_
  refine a_shift (j := 0) (enc := putMC) (xs := s) (sp := s2) (p := i + (vs.length : Int)) (i := i) (mm := vs.length) rfl rfl rfl rfl rfl Ty.es_53 (fun _ => rfl) (by intro x v hv; simp only [putMC, List.mem_cons, List.not_mem_nil, or_false] at hv; rcases hv with rfl | rfl | rfl | rfl | rfl | rfl | rfl <;> rfl) (by first | omega | (simp; done) | (simp; omega)) (by first | omega | (simp; done) | (simp; omega)) (by first | omega | (simp; done) | (simp; omega)) (by try simp only [show ∀ a b : Nat, Nat.min a b = min a b from fun _ _ => rfl, List.length_drop, List.length_append, List.length_replicate, List.length_take]; omega) st.hp rfl (Ow.room z6 (by first | omega | (simp; done) | (simp; omega))) (fun hole1 w5 hhole1 (hp : Hp w5 [_, _]) hf => ?_)
  have st : St X w5 [_, _] [] := st.set (i := 0) rfl hp hf
  have st : St X w5 [_, _] [] := st
  have hF := hF.step hf (fun y hy => z3 y (by simp at hy; subst hy; rfl))
  refine ⟨(st.pk [1] (by decide)).tK 0, ?_⟩
  refine Pl_nil (Th_n (k19 _ _ (sq fun _ k20 => rg (Lm rfl (Lm rfl ?_)))))
  have hlc9 := Ow.lc z6
  have hlc9b := hlc9
  try simp only [List.length_append, List.length_take, List.length_drop, List.length_replicate] at hlc9b
  refine Ly rfl (y_cutV (p := i) (q := (((s.length : Int) + (vs.length : Int)).toNat : Int)) rfl rfl Ty.es_53 rfl rfl (by first | omega | (simp; done) | (simp; omega)) (by first | omega | (simp; done) | (simp; omega)) (by first | omega | (simp; done) | (simp; omega)) (by first | omega | (simp; done) | (simp; omega)) (by first | omega | (simp; done) | (simp; omega))) ?_
  refine Lm rfl (La rfl (a_fill (j := 0) (enc := putMC) (ys := vs) (i := i) rfl rfl rfl rfl rfl Ty.es_53 (fun _ => rfl) (by intro x v hv; simp only [putMC, List.mem_cons, List.not_mem_nil, or_false] at hv; rcases hv with rfl | rfl | rfl | rfl | rfl | rfl | rfl <;> rfl) (by try simp only [show ∀ a b : Nat, Nat.min a b = min a b from fun _ _ => rfl, List.length_drop, List.length_append, List.length_replicate, List.length_take]; omega) (own_range (i := 1) st.hp rfl) st.hp rfl (by rw [fl_len (enc := putMC) (m := 7) (fun _ => rfl), List.length_take]; congr 1; omega) (by rw [hhole1]) (fun w6 (hp : Hp w6 _) hf => ?_)))
  have st : St X w6 _ [] := st.set (i := 0) rfl hp hf
  have hF := hF.step hf (fun y hy => z3 y (by simp at hy; subst hy; rfl))
  have hln3 : (s.take i.toNat ++ vs ++ s.drop i.toNat).length = (s.length + vs.length) := by simp; omega
  have how5 := Ow.ins (enc := putMC) (s := s) (i := i.toNat) (v := vs) (fun _ => rfl) z6 rfl (by omega) (by omega)
  have hln4 : (s.take i.toNat ++ vs ++ s.drop i.toNat).length = ((s.length : Int) + (vs.length : Int)).toNat := by simp; omega
  rewrite [hln4] at how5
  have st : St X w6 [_, _] [] := st.conv (i := 0) rfl (by simp : _ = (s.take i.toNat ++ vs ++ s.drop i.toNat).flatMap putMC ++ (s2.drop (vs.length * 7)))
  refine Ln k20 (sq fun _ k21 => rg (Lm rfl (Ls' rfl (Ln k21 (wR (Th_r (fR (Res1 rfl rfl) ?_)))))))
  have he3 : insertPut_m s i vs = (s.take i.toNat ++ vs ++ s.drop i.toNat) := by
    unfold insertPut_m
    first | rfl | exact ins_end s vs (by omega) | exact ins_grow s vs _ (by omega) (by omega) (by omega)
  rewrite [he3]
  exact ⟨some ⟨gi3, 0, none⟩, c_s, (s2.drop (vs.length * 7)), by rw [hln4], by rw [hln4]; exact how5, (st.pk [0] (by decide)).pickK [], hF, kc_b z3 kc_n⟩
def growTag_m (n : Int) : (List TagM) :=
  ([] : List TagM)
theorem growTag_ok (X : List Nat) (w : World) (hX : Lo X w) (n : Int) (hn0 : 0 ≤ n) (hn1 : n ≤ 3000000) :
    Fn Tryz.prog 128 [.slice none 0 0, .int .i64 n] w fun v w' => ∃ (A' : Option Addr) (c' : Nat) (sp' : List Value), v = .slice A' (growTag_m n).length c' ∧ Ow A' (growTag_m n).length c' 3 ((growTag_m n).flatMap tagMC) sp' ∧ St X w' [(blkOf A', Cl ((growTag_m n).flatMap tagMC ++ sp') 43)] [] ∧ Fr ([]) w w' ∧ (∀ k ∈ keys [(blkOf A', Cl ((growTag_m n).flatMap tagMC ++ sp') 43)], k ∈ ([]) ∨ w.heap.size ≤ k) := by
  refine Fn_of 27 Ty.en_128 Tryz.func128 rfl rfl rfl ?_
  dsimp only [argEnv]
  have st := stn0 hX
  have hF := Fr.refl ([]) w
  refine sq fun _ k1 => rg (Ls' rfl (Ln k1 (sq fun _ k2 => sq fun _ k3 => rg (Lm rfl (Ly rfl (ylt rfl) (Ln k3 ?_))))))
  have hd1 : ¬ (n < 0) := by
    omega
  refine Wp_cond rfl (fun hc1 => absurd hc1 (by first | (simp [hd1]; done) | (rw [hd1]; simp; done) | simpa using hd1)) (fun _ => ?_)
  refine sk k2 (sq fun _ k4 => sq fun _ k5 => rg (Lm rfl (Lm rfl (Ly rfl (y_capl rfl rfl Tryz.underlying30) (Lm rfl (Ly rfl (yll rfl Tryz.underlying30) (Ly rfl (y_sub (c := 0) rfl rfl rfl (by decide)) ?_)))))))
  refine Ly rfl (y_sub (c := n - 0) rfl rfl rfl (wf_i64 (by first | omega | (simp; done) | (simp; omega)))) ?_
  refine Ls' rfl (Ln k5 (sq fun _ k6 => rg (Lm rfl (Ly rfl (ygt rfl) (Ln k6 (cD rfl (fun hc2 => ?_) (fun hc2 => ?_)))))))
  · refine rg (Lm rfl (Lm rfl (Ly rfl (y_capl rfl rfl Tryz.underlying30) (Ly rfl (y_cutl (p := 0) (q := 0) rfl rfl Ty.es_30 rfl rfl (by decide) (by decide) (by decide) (Nat.le_refl _)) ?_))))
    refine Lm rfl (La rfl (a_appz (enc := tagMC) (xs := ([] : List TagM)) (u := (⟨(⟨0, 0⟩ : IdM), 0⟩ : TagM)) (q := n - 0) rfl rfl rfl rfl rfl (by simp; try omega) Ty.es_30 Tryz.underlying3 Ty.zc_43 rfl Ty.by_43 (fun _ => rfl) (by decide) src_none (fun _ => rfl) (by first | omega | (simp; done) | (simp; omega)) (by first | omega | (simp; done) | (simp; omega)) (by first | omega | (simp; done) | (simp; omega)) (by simp; omega) st.hp (fun g1 ca1 sp1 w1 how1 (hp : Hp w1 [_]) hf hg1 => ?_)))
    have st : St X w1 [_] [] := st.push hp hf hg1
    have st : St X w1 [_] [] := st
    have hg1 := Nat.le_trans hF.size hg1
    have hF := hF.step0 hf
    have hnew1 : ∀ g, blkOf (some ⟨g1, 0, none⟩) = some g → g ∈ ([]) ∨ w.heap.size ≤ g := fun g hg => by simp [blkOf] at hg; subst hg; exact .inr hg1
    refine Lm rfl (Ly rfl (yll rfl Tryz.underlying30) (Ly rfl (y_cut0M (enc := tagMC) (xs := ([] : List TagM) ++ List.replicate (n - 0).toNat (⟨(⟨0, 0⟩ : IdM), 0⟩ : TagM)) (q := (0 : Int)) rfl rfl rfl Ty.es_30 rfl rfl (by first | omega | (simp; done) | (simp; omega)) (by first | omega | (simp; done) | (simp; omega)) how1) ?_))
    have how2 := Ow.cut (enc := tagMC) (xs := ([] : List TagM) ++ List.replicate (n - 0).toNat (⟨(⟨0, 0⟩ : IdM), 0⟩ : TagM)) (fun _ => rfl) how1 rfl (0 : Int).toNat
    have st : St X _ [_] [] := st.conv (i := 0) rfl (cut_cells (0 : Int).toNat)
    refine Ls' rfl (Ln k4 (sq fun _ k7 => rg (Lm rfl (Ls' rfl (Ln k7 (wR (fR (Res1 rfl rfl) ?_)))))))
    have he1 : growTag_m n = ((([] : List TagM) ++ List.replicate (n - 0).toNat (⟨(⟨0, 0⟩ : IdM), 0⟩ : TagM)).take (0 : Int).toNat) := by
      unfold growTag_m
      first | rfl | simp
    rewrite [he1]
    exact ⟨_, _, _, rfl, how2, (st.pk [0] (by decide)).pickK [], hF, kc_b hnew1 kc_n⟩
  refine sk k4 (sq fun _ k8 => rg (Lm rfl (Ls' rfl (Ln k8 ?_))))
  obtain ⟨st, how3, hnew2⟩ := st.rowN tagMC hF 3 43
  have st : St _ _ [_] _ := st
  refine wR (fR (Res1 rfl rfl) ?_)
  have he2 : growTag_m n = ([] : List TagM) := by
    unfold growTag_m
    first | rfl | simp
  rewrite [he2]
  exact ⟨_, _, _, rfl, how3, (st.pk [0] (by decide)).pickK [], hF, kc_b hnew2 kc_n⟩
def concatTag_m (l1 : List TagM) (l2 : List TagM) : (List TagM) :=
  l1 ++ l2
theorem concatTag_ok (X : List Nat) (w : World) (hX : Lo X w) (l1 : List TagM) (A1 : Option Addr) (C1 : Nat) (l2 : List TagM) (A2 : Option Addr) (C2 : Nat) (A_l : Option Addr) (c_l : Nat) (z5 : Sld X w A1 l1.length C1 3 (l1.flatMap tagMC)) (z6 : Sld X w A2 l2.length C2 3 (l2.flatMap tagMC)) (h_l : Sld X w A_l ([.slice A1 l1.length C1, .slice A2 l2.length C2] : List Value).length c_l 1 (([.slice A1 l1.length C1, .slice A2 l2.length C2] : List Value).flatMap (fun v : Value => [v]))) (hl1 : l1.length ≤ 1000000) (hl2 : l2.length ≤ 1000000) :
    Fn Tryz.prog 86 [.slice A_l (([.slice A1 l1.length C1, .slice A2 l2.length C2] : List Value).length) c_l] w fun v w' => ∃ (A' : Option Addr) (c' : Nat) (sp' : List Value), v = .slice A' (concatTag_m l1 l2).length c' ∧ Ow A' (concatTag_m l1 l2).length c' 3 ((concatTag_m l1 l2).flatMap tagMC) sp' ∧ St X w' [(blkOf A', Cl ((concatTag_m l1 l2).flatMap tagMC ++ sp') 43)] [] ∧ Fr ([]) w w' ∧ (∀ k ∈ keys [(blkOf A', Cl ((concatTag_m l1 l2).flatMap tagMC ++ sp') 43)], k ∈ ([]) ∨ w.heap.size ≤ k) := by
  refine Fn_of 36 Ty.en_86 Tryz.func86 rfl rfl rfl ?_
  dsimp only [argEnv]
  have st := stn3 hX z5 z6 h_l
  have hF := Fr.refl ([]) w
  have z1 := (st.q 0 rfl).le
  have z2 := (st.q 1 rfl).le
  have z4 := (st.q 2 rfl).le
  refine sq fun _ k1 => rg (Ls' rfl (Ln k1 (sq fun _ k2 => rg (Ls' rfl (Ln k2 (sq fun _ k3 => sq fun _ k4 => rg (Lm rfl (Ly rfl (y_lenl (l := 2) rfl rfl Tryz.underlying217) (Lm rfl (Ln k4 (Wp_block (Wp_unroll 3 (WpR_succ (sq fun _ k5 => rg (Ly rfl (y_ltT rfl rfl rfl (by decide)) ?_)))))))))))))))
  refine Ln k5 (sq fun _ k6 => Wp_cond_t rfl (sk k6 (sq fun _ k7 => Wp_block (sq fun _ k8 => rg ?_))))
  obtain ⟨gi1, bi1, egi1⟩ := (st.k (i := 2) rfl).addr (fun _ => rfl) (by decide) (q := 0) (by first | omega | (simp; done) | (simp; omega)) (by first | omega | (simp; done) | (simp; omega))
  subst egi1
  refine Ly rfl (y_ixa (q := 0) rfl rfl rfl Ty.es_217 (by first | omega | (simp; done) | (simp; omega)) (by first | omega | (simp; done) | (simp; omega))) ?_
  refine Ly rfl (y_ldk1 (v := .slice A1 l1.length C1) (enc := (fun v : Value => [v])) (l := ([.slice A1 l1.length C1, .slice A2 l2.length C2] : List Value)) (q := 0) 0 rfl rfl Ty.pl_30 (fun _ e => e ▸ st.k (i := 2) rfl) (fun _ => rfl) (by first | omega | (simp; done) | (simp; omega)) (by first | omega | (simp; done) | (simp; omega)) rfl) ?_
  refine Ls' rfl (Ln k8 (sq fun _ k9 => rg (Lm rfl (Lm rfl (Ly rfl (yll rfl Tryz.underlying30) (Ly rfl (y_add (c := 0 + (l1.length : Int)) rfl rfl rfl (wf_i64 (by first | omega | (simp; done) | (simp; omega)))) ?_))))))
  refine Ls' rfl (Ln k9 (sq fun _ k10 => rg (Lm rfl (Ly rfl (ylt rfl) (Ln k10 ?_)))))
  have hd1 : ¬ ((0 + (l1.length : Int)) < 0) := by
    omega
  refine Wp_cond rfl (fun hc1 => absurd hc1 (by first | (simp [hd1]; done) | (rw [hd1]; simp; done) | simpa using hd1)) (fun _ => ?_)
  refine Wp_skip (Ib_n (Th_n (k7 _ _ (rg (Ly rfl (y_add (c := 1) rfl rfl rfl (by decide)) ?_)))))
  refine Lm rfl (Ls_nil (Th_n (WpR_succ (sq fun _ k11 => rg (Ly rfl (y_ltT rfl rfl rfl (by decide)) ?_)))))
  refine Ln k11 (sq fun _ k12 => Wp_cond_t rfl (sk k12 (sq fun _ k13 => Wp_block (sq fun _ k14 => rg (Ly rfl (y_ixa (q := 1) rfl rfl rfl Ty.es_217 (by first | omega | (simp; done) | (simp; omega)) (by first | omega | (simp; done) | (simp; omega))) ?_)))))
  refine Ly rfl (y_ldk1 (v := .slice A2 l2.length C2) (enc := (fun v : Value => [v])) (l := ([.slice A1 l1.length C1, .slice A2 l2.length C2] : List Value)) (q := 1) 0 rfl rfl Ty.pl_30 (fun _ e => e ▸ st.k (i := 2) rfl) (fun _ => rfl) (by first | omega | (simp; done) | (simp; omega)) (by first | omega | (simp; done) | (simp; omega)) rfl) ?_
  refine Ls' rfl (Ln k14 (sq fun _ k15 => rg (Lm rfl (Lm rfl (Ly rfl (yll rfl Tryz.underlying30) (Ly rfl (y_add (c := (0 + (l1.length : Int)) + (l2.length : Int)) rfl rfl rfl (wf_i64 (by first | omega | (simp; done) | (simp; omega)))) ?_))))))
  refine Ls' rfl (Ln k15 (sq fun _ k16 => rg (Lm rfl (Ly rfl (ylt rfl) (Ln k16 ?_)))))
  have hd2 : ¬ (((0 + (l1.length : Int)) + (l2.length : Int)) < 0) := by
    omega
  refine Wp_cond rfl (fun hc2 => absurd hc2 (by first | (simp [hd2]; done) | (rw [hd2]; simp; done) | simpa using hd2)) (fun _ => ?_)
  refine Wp_skip (Ib_n (Th_n (k13 _ _ (rg (Ly rfl (y_add (c := 2) rfl rfl rfl (by decide)) ?_)))))
  refine Lm rfl (Ls_nil (Th_n (WpR_succ (sq fun _ k17 => rg (Ly rfl (y_ltF rfl rfl rfl (by decide)) ?_)))))
  refine Ln k17 (sq fun _ k18 => Wp_cond_f rfl (Wp_exit (Th_e (Th_e (Ib_hit (Th_n (k3 _ _ (sq fun _ k19 => rg (Lm rfl (La rfl (a_call rfl rfl rfl rfl (growTag_ok (keys (hOf st) ++ X) _ st.Lo ((0 + (l1.length : Int)) + (l2.length : Int)) (by omega) (by omega)) (fun v w1 ⟨Ao1, co1, spo1, hv, how1, hN1, hfO1, hkc1⟩ => ?_))))))))))))
  subst hv
  have hnew1 : ∀ g, blkOf Ao1 = some g → g ∈ ([]) ∨ w.heap.size ≤ g := fun g hg => (hkc1 g (by simp [keys, hg])).elim (fun h => by simp at h) (fun h => .inr (Nat.le_trans hF.size h))
  have st := st.callN hN1 hfO1 (fun k hk => (hkc1 k hk).elim (fun h => by simp at h) id)
  have hF := hF.step0 hfO1
  have z3 := Ow.le how1
  have st : St X w1 [_] [_, _, _] := st
  refine Ls' rfl (Ln k19 (sq fun _ k20 => sq fun _ k21 => rg (Lm rfl (Ly rfl (y_lenl (l := 2) rfl rfl Tryz.underlying217) (Lm rfl (Ln k21 (Wp_block (Wp_unroll 3 (WpR_succ (sq fun _ k22 => rg (Ly rfl (y_ltT rfl rfl rfl (by decide)) ?_)))))))))))
  refine Ln k22 (sq fun _ k23 => Wp_cond_t rfl (sk k23 (sq fun _ k24 => Wp_block (sq fun _ k25 => rg (Ly rfl (y_ixa (q := 0) rfl rfl rfl Ty.es_217 (by first | omega | (simp; done) | (simp; omega)) (by first | omega | (simp; done) | (simp; omega))) ?_)))))
  refine Ly rfl (y_ldk1 (v := .slice A1 l1.length C1) (enc := (fun v : Value => [v])) (l := ([.slice A1 l1.length C1, .slice A2 l2.length C2] : List Value)) (q := 0) 0 rfl rfl Ty.pl_30 (fun _ e => e ▸ st.k (i := 2) rfl) (fun _ => rfl) (by first | omega | (simp; done) | (simp; omega)) (by first | omega | (simp; done) | (simp; omega)) rfl) ?_
  refine Ls' rfl (Ln k25 (rg (Lm rfl (Lm rfl (La rfl (Sap (enc := tagMC) (growTag_m ((0 + (l1.length : Int)) + (l2.length : Int))) l1 0 Ty.es_30 Ty.zc_43 Ty.by_43 (fun _ => rfl) tagMC_1 how1 hnew1 st hF (st.k (i := 0) rfl).rd.src (fun h => by have := (st.k (i := 0) rfl).rd; exact rd_none this h (st.k (i := 0) rfl).len (by decide)) rfl (by simp [growTag_m, maxLen]; omega) (by simp [growTag_m, maxLen]; omega) fun Aa1 ca1 sp1 w2 how2 hnew2 (st : St _ _ [_] _) hF => ?_))))))
  refine Ls' rfl (Ls_nil (Ib_n (Th_n (k24 _ _ (rg (Ly rfl (y_add (c := 1) rfl rfl rfl (by decide)) ?_))))))
  refine Lm rfl (Ls_nil (Th_n (WpR_succ (sq fun _ k26 => rg (Ly rfl (y_ltT rfl rfl rfl (by decide)) ?_)))))
  refine Ln k26 (sq fun _ k27 => Wp_cond_t rfl (sk k27 (sq fun _ k28 => Wp_block (sq fun _ k29 => rg (Ly rfl (y_ixa (q := 1) rfl rfl rfl Ty.es_217 (by first | omega | (simp; done) | (simp; omega)) (by first | omega | (simp; done) | (simp; omega))) ?_)))))
  refine Ly rfl (y_ldk1 (v := .slice A2 l2.length C2) (enc := (fun v : Value => [v])) (l := ([.slice A1 l1.length C1, .slice A2 l2.length C2] : List Value)) (q := 1) 0 rfl rfl Ty.pl_30 (fun _ e => e ▸ st.k (i := 2) rfl) (fun _ => rfl) (by first | omega | (simp; done) | (simp; omega)) (by first | omega | (simp; done) | (simp; omega)) rfl) ?_
  refine Ls' rfl (Ln k29 (rg (Lm rfl (Lm rfl (La rfl (Sap (enc := tagMC) ((growTag_m ((0 + (l1.length : Int)) + (l2.length : Int))) ++ l1) l2 0 Ty.es_30 Ty.zc_43 Ty.by_43 (fun _ => rfl) tagMC_1 how2 hnew2 st hF (st.k (i := 1) rfl).rd.src (fun h => by have := (st.k (i := 1) rfl).rd; exact rd_none this h (st.k (i := 1) rfl).len (by decide)) rfl (by simp [growTag_m, maxLen]; omega) (by simp [growTag_m, maxLen]; omega) fun Aa2 ca2 sp2 w3 how3 hnew3 (st : St _ _ [_] _) hF => ?_))))))
  refine Ls' rfl (Ls_nil (Ib_n (Th_n (k28 _ _ (rg (Ly rfl (y_add (c := 2) rfl rfl rfl (by decide)) ?_))))))
  refine Lm rfl (Ls_nil (Th_n (WpR_succ (sq fun _ k30 => rg (Ly rfl (y_ltF rfl rfl rfl (by decide)) ?_)))))
  refine Ln k30 (sq fun _ k31 => Wp_cond_f rfl (Wp_exit (Th_e (Th_e (Ib_hit (Th_n (k20 _ _ (sq fun _ k32 => rg (Lm rfl (Ls' rfl (Ln k32 (wR (fR (Res1 rfl rfl) ?_)))))))))))))
  have he1 : concatTag_m l1 l2 = (((growTag_m ((0 + (l1.length : Int)) + (l2.length : Int))) ++ l1) ++ l2) := by
    unfold concatTag_m
    first | rfl | simp [growTag_m]
  rewrite [he1]
  exact ⟨_, _, _, rfl, how3, (st.pk [0] (by decide)).pickK [], hF, kc_b hnew3 kc_n⟩
end Go.Proofs.YtdckemiebnfjcaaGreatDoor

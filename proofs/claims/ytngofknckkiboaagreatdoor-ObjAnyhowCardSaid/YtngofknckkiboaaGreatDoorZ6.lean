/- Walks printed by gen2.py out of our own specifications: what the functions named below do. -/
import Derived.Test.YtngofknckkiboaaGreatDoorSc
import Derived.Test.YtngofknckkiboaaGreatDoorZ5
set_option linter.unusedSimpArgs false
set_option linter.unusedVariables false
namespace Go.Proofs.YtngofknckkiboaaGreatDoor
open Go.RowKit

def compactTag_L2 (s : List TagM) (s3 : Int) (r0 : List TagM) : Nat → Int → Int → (List TagM) → ((List TagM)) ⊕ (Int × Int × (List TagM))
  | 0, s3', s5, r0' => .inr (s3', s5, r0')
  | fuel + 1, s3', s5, r0' =>
    if s5 < ((s.length - s3.toNat : Nat) : Int) then
      if ix r0' (s3 + s5) = ix r0' (s3 + (s5 - 1)) then
        compactTag_L2 s s3 r0 fuel s3' (s5 + 1) r0'
      else
        compactTag_L2 s s3 r0 fuel (s3' + 1) (s5 + 1) (r0'.set s3'.toNat (ix r0' (s3 + s5)))
    else
      .inr (s3', s5, r0')

def compactTag_L1 (s : List TagM) : Nat → Int → (List TagM) → ((List TagM)) ⊕ (Int × (List TagM))
  | 0, s3, r0 => .inr (s3, r0)
  | fuel + 1, s3, r0 =>
    if s3 < (s.length : Int) then
      if ix r0 s3 = ix r0 (s3 - 1) then
        match compactTag_L2 s s3 r0 (((s.length : Int) - (1 : Int)).toNat + 1) s3 (1 : Int) r0 with
        | .inl r => .inl r
        | .inr (s3', s5, r0') =>
          .inl ((r0'.take s3'.toNat ++ List.replicate (r0'.length - s3'.toNat) (⟨(⟨0, 0⟩ : IdM), 0⟩ : TagM)).take s3'.toNat)
      else
        compactTag_L1 s fuel (s3 + 1) r0
    else
      .inr (s3, r0)
def compactTag_m (s : List TagM) : (List TagM) :=
  if (s.length : Int) < 2 then
    s
  else
    match compactTag_L1 s (((s.length : Int) - (1 : Int)).toNat + 1) (1 : Int) s with
    | .inl r => r
    | .inr (s3, r0) =>
      r0


set_option maxRecDepth 20000 in
theorem compactTag_ok (X : List Nat) (w : World) (s : List TagM) (A_s : Option Addr) (c_s : Nat) (s1 : List Value) (hs : St X w [(blkOf A_s, Cl (s.flatMap tagMC ++ s1) 60)] []) (z4 : Ow A_s s.length c_s 3 (s.flatMap tagMC) s1) :
    Fn Tryz.prog 66 [.slice A_s s.length c_s] w fun v w' => ∃ (A' : Option Addr) (c' : Nat) (sp' : List Value), v = .slice A' (compactTag_m s).length c' ∧ Ow A' (compactTag_m s).length c' 3 ((compactTag_m s).flatMap tagMC) sp' ∧ St X w' [(blkOf A', Cl ((compactTag_m s).flatMap tagMC ++ sp') 60)] [] ∧ Fr (keys [(blkOf A_s, Cl (s.flatMap tagMC ++ s1) 60)]) w w' ∧ (∀ k ∈ keys [(blkOf A', Cl ((compactTag_m s).flatMap tagMC ++ sp') 60)], k ∈ (keys [(blkOf A_s, Cl (s.flatMap tagMC ++ s1) 60)]) ∨ w.heap.size ≤ k) := by
  refine Fn_of 61 Ty.en_66 Tryz.func66 rfl rfl rfl ?_
  dsimp only [argEnv]
  have hs0 := hs
  have st : St X w [(blkOf A_s, Cl (s.flatMap tagMC ++ s1) 60)] [] := hs
  have z2 : ∀ g, blkOf A_s = some g → g ∈ (keys [(blkOf A_s, Cl (s.flatMap tagMC ++ s1) 60)]) ∨ w.heap.size ≤ g := fun g hg => .inl (by simp [keys, hg])
  have z3 := Ow.le z4
  have hF := Fr.refl (keys [(blkOf A_s, Cl (s.flatMap tagMC ++ s1) 60)]) w
  refine sq fun _ k1 => rg (Ls' rfl (Ln k1 (sq fun _ k2 => sq fun _ k3 => rg (Lm rfl (Ly rfl (yll rfl Tryz.underlying33) (Ly rfl (ylt rfl) (Ln k3 (cD rfl (fun hc1 => ?_) (fun hc1 => ?_)))))))))
  · refine sq fun _ k4 => rg (Lm rfl (Ls' rfl (Ln k4 (Wp_ret (Th_r (Fq_ret (Res1 rfl rfl) ?_))))))
    unfold compactTag_m; rewrite [if_pos hc1]
    exact ⟨_, _, _, rfl, z4, (st.picks [0] (by decide)).pickK [], hF, kc_b z2 kc_n⟩
  refine sk k2 (sq fun _ k5 => sq fun _ k6 => rg (Ls' rfl (Ln k6 (Wp_block (lp (fun q E W => ∃ (s3 : Int) (r0 : List TagM), E = [(0, .slice A_s s.length c_s), (3, .int .i64 s3)] ∧ jq q (fun m => (compactTag_L1 s m s3 r0 = compactTag_L1 s (((s.length : Int) - (1 : Int)).toNat + 1) (1 : Int) s ∧ ((s.length : Int) - s3).toNat < m)) (compactTag_L1 s (((s.length : Int) - (1 : Int)).toNat + 1) (1 : Int) s = .inr (s3, r0)) ∧ (1 ≤ s3 ∧ 1 ≤ s3) ∧ Ow A_s s.length c_s 3 (r0.flatMap tagMC) s1 ∧ (r0.length = s.length) ∧ St X W [(blkOf A_s, Cl (r0.flatMap tagMC ++ s1) 60)] [] ∧ Fr (keys [(blkOf A_s, Cl (s.flatMap tagMC ++ s1) 60)]) w W) (((s.length : Int) - (1 : Int)).toNat + 1) [(0, _), (3, _)] ⟨rfl, rfl, trivial⟩ ⟨_, _, rfl, ⟨rfl, Nat.lt_succ_self _⟩, by first | omega | (simp; done) | (simp; omega), z4, rfl, st, hF⟩ k5 ?_ fun hout1 => ?_)))))
  · rintro E w1 ⟨s3, r0, rfl, hLk1, hinv, howr0, hlmr0, st, hF⟩
    unfold jq at hLk1; dsimp only at hLk1
    refine sq fun _ k7 => rg (Lm rfl (Ls' rfl (Ln k7 (Wp_ret (Fq_ret (Res1 rfl rfl) ?_)))))
    unfold compactTag_m; rewrite [if_neg hc1, hLk1]; (try dsimp only)
    exact ⟨A_s, c_s, s1, by rw [hlmr0], by rw [hlmr0]; exact howr0, (st.picks [0] (by decide)).pickK [], hF, kc_b z2 kc_n⟩
  rintro m E w2 ⟨s3, r0, rfl, ⟨hL1, hmu⟩, hinv, howr0, hlmr0, st, hF⟩
  obtain ⟨fuel, rfl⟩ : ∃ q, m = q + 1 := ⟨m - 1, by omega⟩
  have z1 := Ow.le howr0
  refine sq fun _ k8 => sq fun _ k9 => rg (Lm rfl (Lm rfl (Ly rfl (yll rfl Tryz.underlying33) (Ly rfl (ylt rfl) (Ln k9 (cD rfl (fun hc2 => ?_) (fun hc2 => ?_)))))))
  · refine sk k8 (sq fun _ k10 => Wp_block (sq fun _ k11 => ?_))
    refine Wp_plan (fun W => St X W (pickL (hOf st) [0]) (kOf st)) [(true, 0), (true, 1), (true, 2), (true, 3), (true, 4), (true, 5), (true, 6), (true, 7), (true, 8), (true, 9)] Ty.mx_0 (by kernel_rfl) (by kernel_rfl) rfl ((st.picks [0] (by decide)).drew) ?_
    have st := st.drew
    have hF := hF.step0 (Fr.drew _)
    refine Pm rfl (Pm rfl ?_)
    obtain ⟨gi1, egi1⟩ := (howr0).some_ (by first | omega | (simp; done) | (simp; omega))
    subst egi1
    refine Py rfl (y_ixa (q := s3) rfl rfl rfl Ty.es_33 (by first | omega | (simp; done) | (simp; omega)) (by first | omega | (simp; done) | (simp; omega))) ?_
    refine Py rfl (y_ldk (q := s3) rfl rfl Ty.ag_60 (fun _ h => Sld.own (i := 0) h.hp rfl howr0 (by decide)) (fun _ => rfl) (by first | omega | (simp; done) | (simp; omega)) (by first | omega | (simp; done) | (simp; omega))) ?_
    refine Pm rfl (Pm rfl (Py rfl (y_sub (c := s3 - 1) rfl rfl rfl (wf_i64 (by first | omega | (simp; done) | (simp; omega)))) ?_))
    refine Py rfl (y_ixa (q := s3 - 1) rfl rfl rfl Ty.es_33 (by first | omega | (simp; done) | (simp; omega)) (by first | omega | (simp; done) | (simp; omega))) ?_
    refine Py rfl (y_ldk (q := s3 - 1) rfl rfl Ty.ag_60 (fun _ h => Sld.own (i := 0) h.hp rfl howr0 (by decide)) (fun _ => rfl) (by first | omega | (simp; done) | (simp; omega)) (by first | omega | (simp; done) | (simp; omega))) ?_
    refine Py rfl (y_eqv (b := decide (ix r0 s3 = ix r0 (s3 - 1))) rfl rfl rfl Ty.eg_60 (by rw [Ty.ag_60]; simp) (eqv_60 (ix r0 s3) (ix r0 (s3 - 1)))) ?_
    refine Pl_nil (Th_n (k11 _ _ (cD rfl (fun hc3 => ?_) (fun hc3 => ?_))))
    · refine sq fun _ k12 => rg (Lm rfl (Lm rfl (Ly rfl (y_cuttM (enc := tagMC) (xs := r0) (p := s3) rfl rfl (hlmr0).symm Ty.es_33 rfl rfl (by first | omega | (simp; done) | (simp; omega)) (by first | omega | (simp; done) | (simp; omega)) howr0) ?_)))
      refine Ls' rfl (Ln k12 (sq fun _ k13 => sq fun _ k14 => rg (Ls' rfl (Ln k14 (Wp_block (lp (fun q E W => ∃ (s3' : Int) (s5 : Int) (r0' : List TagM), E = [(0, .slice (some ⟨gi1, 0, none⟩) s.length c_s), (3, .int .i64 s3'), (4, .slice (some ⟨gi1, 0 + s3.toNat * 3, none⟩) (s.length - s3.toNat) (c_s - s3.toNat)), (5, .int .i64 s5)] ∧ jq q (fun m => (compactTag_L2 s s3 r0 m s3' s5 r0' = compactTag_L2 s s3 r0 (((s.length : Int) - (1 : Int)).toNat + 1) s3 (1 : Int) r0 ∧ ((s.length : Int) - s5).toNat < m)) (compactTag_L2 s s3 r0 (((s.length : Int) - (1 : Int)).toNat + 1) s3 (1 : Int) r0 = .inr (s3', s5, r0')) ∧ (1 ≤ s5 ∧ s3 ≤ s3' ∧ s3' < s3 + s5 ∧ s5 ≤ s.length - s3 ∧ 1 ≤ s3) ∧ Ow (some ⟨gi1, 0, none⟩) s.length c_s 3 (r0'.flatMap tagMC) s1 ∧ (r0'.length = s.length) ∧ St X W [(blkOf (some ⟨gi1, 0, none⟩), Cl (r0'.flatMap tagMC ++ s1) 60)] [] ∧ Fr (keys [(blkOf (some ⟨gi1, 0, none⟩), Cl (s.flatMap tagMC ++ s1) 60)]) w W) (((s.length : Int) - (1 : Int)).toNat + 1) [(0, _), (3, _), (4, _), (5, _)] ⟨rfl, rfl, rfl, rfl, trivial⟩ ⟨_, _, _, rfl, ⟨rfl, Nat.lt_succ_self _⟩, by first | omega | (simp; done) | (simp; omega), howr0, hlmr0, st, hF⟩ k13 ?_ fun hout2 => ?_))))))
      · rintro E w3 ⟨s3', s5, r0', rfl, hLk2, hinv, howr0', hlmr0', st, hF⟩
        unfold jq at hLk2; dsimp only at hLk2
        refine sq fun _ k15 => rg (Lm rfl (Lm rfl (Ly rfl (y_cuttM (enc := tagMC) (xs := r0') (p := s3') rfl rfl (hlmr0').symm Ty.es_33 rfl rfl (by first | omega | (simp; done) | (simp; omega)) (by first | omega | (simp; done) | (simp; omega)) howr0') ?_)))
        refine La rfl (a_clearM (i := 0) (enc := tagMC) (xs := r0') (u := (⟨(⟨0, 0⟩ : IdM), 0⟩ : TagM)) (p := s3') rfl rfl rfl (hlmr0').symm Ty.es_33 Ty.zc_60 rfl (fun _ => rfl) (by intro v hv; simp only [tagMC, List.mem_cons, List.not_mem_nil, or_false] at hv; rcases hv with rfl | rfl | rfl <;> rfl) howr0' (by first | omega | (simp; done) | (simp; omega)) (by first | omega | (simp; done) | (simp; omega)) st.hp rfl (fun w4 how1 (hp : Hp w4 [_]) hf => ?_))
        have st : St X w4 [_] [] := st.set (i := 0) rfl hp hf
        have st : St X w4 [_] [] := st
        have hF := hF.step hf (fun y hy => z2 y (by simp at hy; subst hy; rfl))
        have hln1 : (r0'.take s3'.toNat ++ List.replicate (r0'.length - s3'.toNat) (⟨(⟨0, 0⟩ : IdM), 0⟩ : TagM)).length = s.length := by simp only [List.length_append, List.length_take, List.length_replicate]; omega
        refine Ln k15 (sq fun _ k16 => rg (Lm rfl (Lm rfl (Ly rfl (y_cut0M (enc := tagMC) (xs := r0'.take s3'.toNat ++ List.replicate (r0'.length - s3'.toNat) (⟨(⟨0, 0⟩ : IdM), 0⟩ : TagM)) (q := s3') rfl rfl (hln1).symm Ty.es_33 rfl rfl (by first | omega | (simp; done) | (simp; omega)) (by first | omega | (simp; done) | (simp; omega)) how1) ?_))))
        have how2 := Ow.cut (enc := tagMC) (xs := r0'.take s3'.toNat ++ List.replicate (r0'.length - s3'.toNat) (⟨(⟨0, 0⟩ : IdM), 0⟩ : TagM)) (fun _ => rfl) how1 (hln1).symm s3'.toNat
        have st : St X _ [_] [] := st.conv (i := 0) rfl (cut_cells s3'.toNat)
        refine Ls' rfl (Ln k16 (Wp_ret (Ib_r (Th_r (Th_r (Ib_r (Th_r (Fq_ret (Res1 rfl rfl) ?_))))))))
        have hret1 : compactTag_L1 s (((s.length : Int) - (1 : Int)).toNat + 1) (1 : Int) s = .inl ((r0'.take s3'.toNat ++ List.replicate (r0'.length - s3'.toNat) (⟨(⟨0, 0⟩ : IdM), 0⟩ : TagM)).take s3'.toNat) := by rewrite [← hL1, compactTag_L1]; rewrite [if_pos hc2, if_pos hc3, hLk2]; (try dsimp only); all_goals rfl
        have he3 : compactTag_m s = ((r0'.take s3'.toNat ++ List.replicate (r0'.length - s3'.toNat) (⟨(⟨0, 0⟩ : IdM), 0⟩ : TagM)).take s3'.toNat) := by unfold compactTag_m; rewrite [if_neg hc1, hret1]; (try dsimp only); all_goals rfl
        rewrite [he3]
        exact ⟨_, _, _, rfl, how2, (st.picks [0] (by decide)).pickK [], hF, kc_b z2 kc_n⟩
      rintro m E w5 ⟨s3', s5, r0', rfl, ⟨hL2, hmu⟩, hinv, howr0', hlmr0', st, hF⟩
      obtain ⟨fuel, rfl⟩ : ∃ q, m = q + 1 := ⟨m - 1, by omega⟩
      have hlehowr0' := Ow.le howr0'
      refine sq fun _ k17 => sq fun _ k18 => rg (Lm rfl (Lm rfl (Ly rfl (yll rfl Tryz.underlying33) (Ly rfl (ylt rfl) (Ln k18 (cD rfl (fun hc4 => ?_) (fun hc4 => ?_)))))))
      · refine sk k17 (sq fun _ k19 => Wp_block (sq fun _ k20 => ?_))
        refine Wp_plan (fun W => St X W (pickL (hOf st) [0]) (kOf st)) [(true, 0), (true, 1), (true, 2), (true, 3), (true, 4), (true, 5), (true, 6), (true, 7), (true, 8), (true, 9)] Ty.mx_0 (by kernel_rfl) (by kernel_rfl) rfl ((st.picks [0] (by decide)).drew) ?_
        have st := st.drew
        have hF := hF.step0 (Fr.drew _)
        refine Pm rfl (Pm rfl (Py rfl (y_ixav (p := s3) (q := s5) rfl rfl rfl Ty.es_33 (by first | omega | (simp; done) | (simp; omega)) (by first | omega | (simp; done) | (simp; omega)) (by first | omega | (simp; done) | (simp; omega))) ?_))
        refine Py rfl (y_ldk (q := s3 + s5) rfl rfl Ty.ag_60 (fun _ h => Sld.own (i := 0) h.hp rfl howr0' (by decide)) (fun _ => rfl) (by first | omega | (simp; done) | (simp; omega)) (by first | omega | (simp; done) | (simp; omega))) ?_
        refine Pm rfl (Pm rfl (Py rfl (y_sub (c := s5 - 1) rfl rfl rfl (wf_i64 (by first | omega | (simp; done) | (simp; omega)))) ?_))
        refine Py rfl (y_ixav (p := s3) (q := s5 - 1) rfl rfl rfl Ty.es_33 (by first | omega | (simp; done) | (simp; omega)) (by first | omega | (simp; done) | (simp; omega)) (by first | omega | (simp; done) | (simp; omega))) ?_
        refine Py rfl (y_ldk (q := s3 + (s5 - 1)) rfl rfl Ty.ag_60 (fun _ h => Sld.own (i := 0) h.hp rfl howr0' (by decide)) (fun _ => rfl) (by first | omega | (simp; done) | (simp; omega)) (by first | omega | (simp; done) | (simp; omega))) ?_
        refine Py rfl (y_nev (b := decide (ix r0' (s3 + s5) = ix r0' (s3 + (s5 - 1)))) rfl rfl rfl Ty.eg_60 (by rw [Ty.ag_60]; simp) (eqv_60 (ix r0' (s3 + s5)) (ix r0' (s3 + (s5 - 1))))) ?_
        refine Pl_nil (Th_n (k20 _ _ (cDn rfl (fun hc5 => ?_) (fun hc5 => ?_))))
        · refine sq fun _ k21 => rg (Lm rfl (Lm rfl (Lm rfl (Lm rfl (Ly rfl (y_ixav (p := s3) (q := s5) rfl rfl rfl Ty.es_33 (by first | omega | (simp; done) | (simp; omega)) (by first | omega | (simp; done) | (simp; omega)) (by first | omega | (simp; done) | (simp; omega))) ?_)))))
          refine Ly rfl (y_ldk (q := s3 + s5) rfl rfl Ty.ag_60 (fun _ e => e ▸ Sld.own (i := 0) st.hp rfl howr0' (by decide)) (fun _ => rfl) (by first | omega | (simp; done) | (simp; omega)) (by first | omega | (simp; done) | (simp; omega))) ?_
          refine Ly rfl (y_ixa (q := s3') rfl rfl rfl Ty.es_33 (by first | omega | (simp; done) | (simp; omega)) (by first | omega | (simp; done) | (simp; omega))) ?_
          refine La rfl (a_setrow (i := 0) (q := s3') (u := ix r0' (s3 + s5)) rfl rfl rfl rfl rfl (fun _ => rfl) Ty.sz_60 (by intro v hv; simp only [tagMC, List.mem_cons, List.not_mem_nil, or_false] at hv; rcases hv with rfl | rfl | rfl <;> rfl) howr0' st.hp rfl (by first | omega | (simp; done) | (simp; omega)) (by first | omega | (simp; done) | (simp; omega)) (by decide) (fun w6 how3 (hp : Hp w6 [_]) hf => ?_))
          have st : St X w6 [_] [] := st.set (i := 0) rfl hp hf
          have st : St X w6 [_] [] := st
          have hF := hF.step hf (fun y hy => z2 y (by simp at hy; subst hy; rfl))
          have hln2 : (r0'.set s3'.toNat (ix r0' (s3 + s5))).length = s.length := by rw [List.length_set]; exact hlmr0'
          rewrite [hln2] at how3
          refine Ln k21 (rg (Lm rfl (Ly rfl (y_add (c := s3' + 1) rfl rfl rfl (wf_i64 (by first | omega | (simp; done) | (simp; omega)))) ?_)))
          refine Ls' rfl (Ls_nil (Ib_n (Th_n (k19 _ _ (rg (Lm rfl (Ly rfl (y_add (c := s5 + 1) rfl rfl rfl (wf_i64 (by first | omega | (simp; done) | (simp; omega)))) ?_)))))))
          refine Ls' rfl (Ls_nil (Th_n (?_)))
          exact ⟨fuel, [(0, _), (3, _), (4, _), (5, _)], Nat.lt_succ_self _, ⟨rfl, rfl, rfl, rfl, trivial⟩, (s3' + 1), (s5 + 1), (r0'.set s3'.toNat (ix r0' (s3 + s5))), rfl, ⟨by rewrite [← hL2, compactTag_L2]; rewrite [if_pos hc4, if_neg hc5]; rfl, by first | omega | (simp; done) | (simp; omega)⟩, by first | omega | (simp; done) | (simp; omega), how3, hln2, (st.picks [0] (by decide)).pickK [], hF⟩
        refine Wp_skip (Ib_n (Th_n (k19 _ _ (rg (Lm rfl (Ly rfl (y_add (c := s5 + 1) rfl rfl rfl (wf_i64 (by first | omega | (simp; done) | (simp; omega)))) ?_))))))
        refine Ls' rfl (Ls_nil (Th_n (?_)))
        exact ⟨fuel, [(0, _), (3, _), (4, _), (5, _)], Nat.lt_succ_self _, ⟨rfl, rfl, rfl, rfl, trivial⟩, s3', (s5 + 1), r0', rfl, ⟨by rewrite [← hL2, compactTag_L2]; rewrite [if_pos hc4, if_pos hc5]; rfl, by first | omega | (simp; done) | (simp; omega)⟩, by first | omega | (simp; done) | (simp; omega), howr0', hlmr0', (st.picks [0] (by decide)).pickK [], hF⟩
      refine Wp_exit (Th_e (Th_e (Ib_hit (Th_n (?_)))))
      exact hout2 _ [(0, _), (3, _), (4, _), (5, _)] _ ⟨rfl, rfl, rfl, rfl, trivial⟩ ⟨s3', s5, r0', rfl, show _ = _ from by rewrite [← hL2, compactTag_L2]; rewrite [if_neg hc4]; rfl, by first | omega | (simp; done) | (simp; omega), howr0', hlmr0', (st.picks [0] (by decide)).pickK [], hF⟩
    refine Wp_skip (Ib_n (Th_n (k10 _ _ (rg (Lm rfl (Ly rfl (y_add (c := s3 + 1) rfl rfl rfl (wf_i64 (by first | omega | (simp; done) | (simp; omega)))) ?_))))))
    refine Ls' rfl (Ls_nil (Th_n (?_)))
    exact ⟨fuel, [(0, _), (3, _)], Nat.lt_succ_self _, ⟨rfl, rfl, trivial⟩, (s3 + 1), r0, rfl, ⟨by rewrite [← hL1, compactTag_L1]; rewrite [if_pos hc2, if_neg hc3]; rfl, by first | omega | (simp; done) | (simp; omega)⟩, by first | omega | (simp; done) | (simp; omega), howr0, hlmr0, (st.picks [0] (by decide)).pickK [], hF⟩
  refine Wp_exit (Th_e (Th_e (Ib_hit (Th_n (?_)))))
  exact hout1 _ [(0, _), (3, _)] _ ⟨rfl, rfl, trivial⟩ ⟨s3, r0, rfl, show _ = _ from by rewrite [← hL1, compactTag_L1]; rewrite [if_neg hc2]; rfl, by first | omega | (simp; done) | (simp; omega), howr0, hlmr0, (st.picks [0] (by decide)).pickK [], hF⟩

def compactStr_L2 (s : List (List UInt8)) (s3 : Int) (r0 : List (List UInt8)) : Nat → Int → Int → (List (List UInt8)) → ((List (List UInt8))) ⊕ (Int × Int × (List (List UInt8)))
  | 0, s3', s5, r0' => .inr (s3', s5, r0')
  | fuel + 1, s3', s5, r0' =>
    if s5 < ((s.length - s3.toNat : Nat) : Int) then
      if (ix r0' (s3 + s5)) = (ix r0' (s3 + (s5 - 1))) then
        compactStr_L2 s s3 r0 fuel s3' (s5 + 1) r0'
      else
        compactStr_L2 s s3 r0 fuel (s3' + 1) (s5 + 1) (r0'.set s3'.toNat (ix r0' (s3 + s5)))
    else
      .inr (s3', s5, r0')

def compactStr_L1 (s : List (List UInt8)) : Nat → Int → (List (List UInt8)) → ((List (List UInt8))) ⊕ (Int × (List (List UInt8)))
  | 0, s3, r0 => .inr (s3, r0)
  | fuel + 1, s3, r0 =>
    if s3 < (s.length : Int) then
      if (ix r0 s3) = (ix r0 (s3 - 1)) then
        match compactStr_L2 s s3 r0 (((s.length : Int) - (1 : Int)).toNat + 1) s3 (1 : Int) r0 with
        | .inl r => .inl r
        | .inr (s3', s5, r0') =>
          .inl ((r0'.take s3'.toNat ++ List.replicate (r0'.length - s3'.toNat) []).take s3'.toNat)
      else
        compactStr_L1 s fuel (s3 + 1) r0
    else
      .inr (s3, r0)
def compactStr_m (s : List (List UInt8)) : (List (List UInt8)) :=
  if (s.length : Int) < 2 then
    s
  else
    match compactStr_L1 s (((s.length : Int) - (1 : Int)).toNat + 1) (1 : Int) s with
    | .inl r => r
    | .inr (s3, r0) =>
      r0


set_option maxRecDepth 20000 in
theorem compactStr_ok (X : List Nat) (w : World) (s : List (List UInt8)) (A_s : Option Addr) (c_s : Nat) (s1 : List Value) (hs : St X w [(blkOf A_s, Cl (s.flatMap (fun x => [sv x]) ++ s1) 9)] []) (z4 : Ow A_s s.length c_s 1 (s.flatMap (fun x => [sv x])) s1) :
    Fn Tryz.prog 81 [.slice A_s s.length c_s] w fun v w' => ∃ (A' : Option Addr) (c' : Nat) (sp' : List Value), v = .slice A' (compactStr_m s).length c' ∧ Ow A' (compactStr_m s).length c' 1 ((compactStr_m s).flatMap (fun x => [sv x])) sp' ∧ St X w' [(blkOf A', Cl ((compactStr_m s).flatMap (fun x => [sv x]) ++ sp') 9)] [] ∧ Fr (keys [(blkOf A_s, Cl (s.flatMap (fun x => [sv x]) ++ s1) 9)]) w w' ∧ (∀ k ∈ keys [(blkOf A', Cl ((compactStr_m s).flatMap (fun x => [sv x]) ++ sp') 9)], k ∈ (keys [(blkOf A_s, Cl (s.flatMap (fun x => [sv x]) ++ s1) 9)]) ∨ w.heap.size ≤ k) := by
  refine Fn_of 61 Ty.en_81 Tryz.func81 rfl rfl rfl ?_
  dsimp only [argEnv]
  have hs0 := hs
  have st : St X w [(blkOf A_s, Cl (s.flatMap (fun x => [sv x]) ++ s1) 9)] [] := hs
  have z2 : ∀ g, blkOf A_s = some g → g ∈ (keys [(blkOf A_s, Cl (s.flatMap (fun x => [sv x]) ++ s1) 9)]) ∨ w.heap.size ≤ g := fun g hg => .inl (by simp [keys, hg])
  have z3 := Ow.le z4
  have hF := Fr.refl (keys [(blkOf A_s, Cl (s.flatMap (fun x => [sv x]) ++ s1) 9)]) w
  refine sq fun _ k1 => rg (Ls' rfl (Ln k1 (sq fun _ k2 => sq fun _ k3 => rg (Lm rfl (Ly rfl (yll rfl Tryz.underlying114) (Ly rfl (ylt rfl) (Ln k3 (cD rfl (fun hc1 => ?_) (fun hc1 => ?_)))))))))
  · refine sq fun _ k4 => rg (Lm rfl (Ls' rfl (Ln k4 (Wp_ret (Th_r (Fq_ret (Res1 rfl rfl) ?_))))))
    unfold compactStr_m; rewrite [if_pos hc1]
    exact ⟨_, _, _, rfl, z4, (st.picks [0] (by decide)).pickK [], hF, kc_b z2 kc_n⟩
  refine sk k2 (sq fun _ k5 => sq fun _ k6 => rg (Ls' rfl (Ln k6 (Wp_block (lp (fun q E W => ∃ (s3 : Int) (r0 : List (List UInt8)), E = [(0, .slice A_s s.length c_s), (3, .int .i64 s3)] ∧ jq q (fun m => (compactStr_L1 s m s3 r0 = compactStr_L1 s (((s.length : Int) - (1 : Int)).toNat + 1) (1 : Int) s ∧ ((s.length : Int) - s3).toNat < m)) (compactStr_L1 s (((s.length : Int) - (1 : Int)).toNat + 1) (1 : Int) s = .inr (s3, r0)) ∧ (1 ≤ s3 ∧ 1 ≤ s3) ∧ Ow A_s s.length c_s 1 (r0.flatMap (fun x => [sv x])) s1 ∧ (r0.length = s.length) ∧ St X W [(blkOf A_s, Cl (r0.flatMap (fun x => [sv x]) ++ s1) 9)] [] ∧ Fr (keys [(blkOf A_s, Cl (s.flatMap (fun x => [sv x]) ++ s1) 9)]) w W) (((s.length : Int) - (1 : Int)).toNat + 1) [(0, _), (3, _)] ⟨rfl, rfl, trivial⟩ ⟨_, _, rfl, ⟨rfl, Nat.lt_succ_self _⟩, by first | omega | (simp; done) | (simp; omega), z4, rfl, st, hF⟩ k5 ?_ fun hout1 => ?_)))))
  · rintro E w1 ⟨s3, r0, rfl, hLk1, hinv, howr0, hlmr0, st, hF⟩
    unfold jq at hLk1; dsimp only at hLk1
    refine sq fun _ k7 => rg (Lm rfl (Ls' rfl (Ln k7 (Wp_ret (Fq_ret (Res1 rfl rfl) ?_)))))
    unfold compactStr_m; rewrite [if_neg hc1, hLk1]; (try dsimp only)
    exact ⟨A_s, c_s, s1, by rw [hlmr0], by rw [hlmr0]; exact howr0, (st.picks [0] (by decide)).pickK [], hF, kc_b z2 kc_n⟩
  rintro m E w2 ⟨s3, r0, rfl, ⟨hL1, hmu⟩, hinv, howr0, hlmr0, st, hF⟩
  obtain ⟨fuel, rfl⟩ : ∃ q, m = q + 1 := ⟨m - 1, by omega⟩
  have z1 := Ow.le howr0
  refine sq fun _ k8 => sq fun _ k9 => rg (Lm rfl (Lm rfl (Ly rfl (yll rfl Tryz.underlying114) (Ly rfl (ylt rfl) (Ln k9 (cD rfl (fun hc2 => ?_) (fun hc2 => ?_)))))))
  · refine sk k8 (sq fun _ k10 => Wp_block (sq fun _ k11 => ?_))
    refine Wp_plan (fun W => St X W (pickL (hOf st) [0]) (kOf st)) [(true, 0), (true, 1), (true, 2), (true, 3), (true, 4), (true, 5), (true, 6), (true, 7), (true, 8), (true, 9)] Ty.mx_0 (by kernel_rfl) (by kernel_rfl) rfl ((st.picks [0] (by decide)).drew) ?_
    have st := st.drew
    have hF := hF.step0 (Fr.drew _)
    refine Pm rfl (Pm rfl ?_)
    obtain ⟨gi1, egi1⟩ := (howr0).some_ (by first | omega | (simp; done) | (simp; omega))
    subst egi1
    refine Py rfl (y_ixa (q := s3) rfl rfl rfl Ty.es_114 (by first | omega | (simp; done) | (simp; omega)) (by first | omega | (simp; done) | (simp; omega))) ?_
    refine Py rfl (y_ldk1 (q := s3) 0 rfl rfl Ty.pl_9 (fun _ h => Sld.own (i := 0) h.hp rfl howr0 (by decide)) (fun _ => rfl) (by first | omega | (simp; done) | (simp; omega)) (by first | omega | (simp; done) | (simp; omega)) rfl) ?_
    refine Pm rfl (Pm rfl (Py rfl (y_sub (c := s3 - 1) rfl rfl rfl (wf_i64 (by first | omega | (simp; done) | (simp; omega)))) ?_))
    refine Py rfl (y_ixa (q := s3 - 1) rfl rfl rfl Ty.es_114 (by first | omega | (simp; done) | (simp; omega)) (by first | omega | (simp; done) | (simp; omega))) ?_
    refine Py rfl (y_ldk1 (q := s3 - 1) 0 rfl rfl Ty.pl_9 (fun _ h => Sld.own (i := 0) h.hp rfl howr0 (by decide)) (fun _ => rfl) (by first | omega | (simp; done) | (simp; omega)) (by first | omega | (simp; done) | (simp; omega)) rfl) ?_
    refine Py rfl (y_eqs rfl rfl rfl) (Pl_nil (Th_n (k11 _ _ (cE rfl (fun hc3 => ?_) (fun hc3 => ?_)))))
    · refine sq fun _ k12 => rg (Lm rfl (Lm rfl (Ly rfl (y_cuttM (enc := (fun x => [sv x])) (xs := r0) (p := s3) rfl rfl (hlmr0).symm Ty.es_114 rfl rfl (by first | omega | (simp; done) | (simp; omega)) (by first | omega | (simp; done) | (simp; omega)) howr0) ?_)))
      refine Ls' rfl (Ln k12 (sq fun _ k13 => sq fun _ k14 => rg (Ls' rfl (Ln k14 (Wp_block (lp (fun q E W => ∃ (s3' : Int) (s5 : Int) (r0' : List (List UInt8)), E = [(0, .slice (some ⟨gi1, 0, none⟩) s.length c_s), (3, .int .i64 s3'), (4, .slice (some ⟨gi1, 0 + s3.toNat * 1, none⟩) (s.length - s3.toNat) (c_s - s3.toNat)), (5, .int .i64 s5)] ∧ jq q (fun m => (compactStr_L2 s s3 r0 m s3' s5 r0' = compactStr_L2 s s3 r0 (((s.length : Int) - (1 : Int)).toNat + 1) s3 (1 : Int) r0 ∧ ((s.length : Int) - s5).toNat < m)) (compactStr_L2 s s3 r0 (((s.length : Int) - (1 : Int)).toNat + 1) s3 (1 : Int) r0 = .inr (s3', s5, r0')) ∧ (1 ≤ s5 ∧ s3 ≤ s3' ∧ s3' < s3 + s5 ∧ s5 ≤ s.length - s3 ∧ 1 ≤ s3) ∧ Ow (some ⟨gi1, 0, none⟩) s.length c_s 1 (r0'.flatMap (fun x => [sv x])) s1 ∧ (r0'.length = s.length) ∧ St X W [(blkOf (some ⟨gi1, 0, none⟩), Cl (r0'.flatMap (fun x => [sv x]) ++ s1) 9)] [] ∧ Fr (keys [(blkOf (some ⟨gi1, 0, none⟩), Cl (s.flatMap (fun x => [sv x]) ++ s1) 9)]) w W) (((s.length : Int) - (1 : Int)).toNat + 1) [(0, _), (3, _), (4, _), (5, _)] ⟨rfl, rfl, rfl, rfl, trivial⟩ ⟨_, _, _, rfl, ⟨rfl, Nat.lt_succ_self _⟩, by first | omega | (simp; done) | (simp; omega), howr0, hlmr0, st, hF⟩ k13 ?_ fun hout2 => ?_))))))
      · rintro E w3 ⟨s3', s5, r0', rfl, hLk2, hinv, howr0', hlmr0', st, hF⟩
        unfold jq at hLk2; dsimp only at hLk2
        refine sq fun _ k15 => rg (Lm rfl (Lm rfl (Ly rfl (y_cuttM (enc := (fun x => [sv x])) (xs := r0') (p := s3') rfl rfl (hlmr0').symm Ty.es_114 rfl rfl (by first | omega | (simp; done) | (simp; omega)) (by first | omega | (simp; done) | (simp; omega)) howr0') ?_)))
        refine La rfl (a_clearM (i := 0) (enc := (fun x => [sv x])) (xs := r0') (u := []) (p := s3') rfl rfl rfl (hlmr0').symm Ty.es_114 Ty.zc_9 rfl (fun _ => rfl) (by intro v hv; simp only [List.mem_singleton] at hv; subst hv; rfl) howr0' (by first | omega | (simp; done) | (simp; omega)) (by first | omega | (simp; done) | (simp; omega)) st.hp rfl (fun w4 how1 (hp : Hp w4 [_]) hf => ?_))
        have st : St X w4 [_] [] := st.set (i := 0) rfl hp hf
        have st : St X w4 [_] [] := st
        have hF := hF.step hf (fun y hy => z2 y (by simp at hy; subst hy; rfl))
        have hln1 : (r0'.take s3'.toNat ++ List.replicate (r0'.length - s3'.toNat) []).length = s.length := by simp only [List.length_append, List.length_take, List.length_replicate]; omega
        refine Ln k15 (sq fun _ k16 => rg (Lm rfl (Lm rfl (Ly rfl (y_cut0M (enc := (fun x => [sv x])) (xs := r0'.take s3'.toNat ++ List.replicate (r0'.length - s3'.toNat) []) (q := s3') rfl rfl (hln1).symm Ty.es_114 rfl rfl (by first | omega | (simp; done) | (simp; omega)) (by first | omega | (simp; done) | (simp; omega)) how1) ?_))))
        have how2 := Ow.cut (enc := (fun x => [sv x])) (xs := r0'.take s3'.toNat ++ List.replicate (r0'.length - s3'.toNat) []) (fun _ => rfl) how1 (hln1).symm s3'.toNat
        have st : St X _ [_] [] := st.conv (i := 0) rfl (cut_cells s3'.toNat)
        refine Ls' rfl (Ln k16 (Wp_ret (Ib_r (Th_r (Th_r (Ib_r (Th_r (Fq_ret (Res1 rfl rfl) ?_))))))))
        have hret1 : compactStr_L1 s (((s.length : Int) - (1 : Int)).toNat + 1) (1 : Int) s = .inl ((r0'.take s3'.toNat ++ List.replicate (r0'.length - s3'.toNat) []).take s3'.toNat) := by rewrite [← hL1, compactStr_L1]; rewrite [if_pos hc2, if_pos hc3, hLk2]; (try dsimp only); all_goals rfl
        have he3 : compactStr_m s = ((r0'.take s3'.toNat ++ List.replicate (r0'.length - s3'.toNat) []).take s3'.toNat) := by unfold compactStr_m; rewrite [if_neg hc1, hret1]; (try dsimp only); all_goals rfl
        rewrite [he3]
        exact ⟨_, _, _, rfl, how2, (st.picks [0] (by decide)).pickK [], hF, kc_b z2 kc_n⟩
      rintro m E w5 ⟨s3', s5, r0', rfl, ⟨hL2, hmu⟩, hinv, howr0', hlmr0', st, hF⟩
      obtain ⟨fuel, rfl⟩ : ∃ q, m = q + 1 := ⟨m - 1, by omega⟩
      have hlehowr0' := Ow.le howr0'
      refine sq fun _ k17 => sq fun _ k18 => rg (Lm rfl (Lm rfl (Ly rfl (yll rfl Tryz.underlying114) (Ly rfl (ylt rfl) (Ln k18 (cD rfl (fun hc4 => ?_) (fun hc4 => ?_)))))))
      · refine sk k17 (sq fun _ k19 => Wp_block (sq fun _ k20 => ?_))
        refine Wp_plan (fun W => St X W (pickL (hOf st) [0]) (kOf st)) [(true, 0), (true, 1), (true, 2), (true, 3), (true, 4), (true, 5), (true, 6), (true, 7), (true, 8), (true, 9)] Ty.mx_0 (by kernel_rfl) (by kernel_rfl) rfl ((st.picks [0] (by decide)).drew) ?_
        have st := st.drew
        have hF := hF.step0 (Fr.drew _)
        refine Pm rfl (Pm rfl (Py rfl (y_ixav (p := s3) (q := s5) rfl rfl rfl Ty.es_114 (by first | omega | (simp; done) | (simp; omega)) (by first | omega | (simp; done) | (simp; omega)) (by first | omega | (simp; done) | (simp; omega))) ?_))
        refine Py rfl (y_ldk1 (q := s3 + s5) 0 rfl rfl Ty.pl_9 (fun _ h => Sld.own (i := 0) h.hp rfl howr0' (by decide)) (fun _ => rfl) (by first | omega | (simp; done) | (simp; omega)) (by first | omega | (simp; done) | (simp; omega)) rfl) ?_
        refine Pm rfl (Pm rfl (Py rfl (y_sub (c := s5 - 1) rfl rfl rfl (wf_i64 (by first | omega | (simp; done) | (simp; omega)))) ?_))
        refine Py rfl (y_ixav (p := s3) (q := s5 - 1) rfl rfl rfl Ty.es_114 (by first | omega | (simp; done) | (simp; omega)) (by first | omega | (simp; done) | (simp; omega)) (by first | omega | (simp; done) | (simp; omega))) ?_
        refine Py rfl (y_ldk1 (q := s3 + (s5 - 1)) 0 rfl rfl Ty.pl_9 (fun _ h => Sld.own (i := 0) h.hp rfl howr0' (by decide)) (fun _ => rfl) (by first | omega | (simp; done) | (simp; omega)) (by first | omega | (simp; done) | (simp; omega)) rfl) ?_
        refine Py rfl (y_nes rfl rfl rfl) (Pl_nil (Th_n (k20 _ _ (cN rfl (fun hc5 => ?_) (fun hc5 => ?_)))))
        · refine sq fun _ k21 => rg (Lm rfl (Lm rfl (Lm rfl (Lm rfl (Ly rfl (y_ixav (p := s3) (q := s5) rfl rfl rfl Ty.es_114 (by first | omega | (simp; done) | (simp; omega)) (by first | omega | (simp; done) | (simp; omega)) (by first | omega | (simp; done) | (simp; omega))) ?_)))))
          refine Ly rfl (y_ldk1 (q := s3 + s5) 0 rfl rfl Ty.pl_9 (fun _ e => e ▸ Sld.own (i := 0) st.hp rfl howr0' (by decide)) (fun _ => rfl) (by first | omega | (simp; done) | (simp; omega)) (by first | omega | (simp; done) | (simp; omega)) rfl) ?_
          refine Ly rfl (y_ixa (q := s3') rfl rfl rfl Ty.es_114 (by first | omega | (simp; done) | (simp; omega)) (by first | omega | (simp; done) | (simp; omega))) ?_
          refine La rfl (a_setrow (i := 0) (q := s3') (u := ix r0' (s3 + s5)) rfl rfl rfl rfl rfl (fun _ => rfl) Ty.sz_9 (by intro v hv; simp only [List.mem_singleton] at hv; subst hv; rfl) howr0' st.hp rfl (by first | omega | (simp; done) | (simp; omega)) (by first | omega | (simp; done) | (simp; omega)) (by decide) (fun w6 how3 (hp : Hp w6 [_]) hf => ?_))
          have st : St X w6 [_] [] := st.set (i := 0) rfl hp hf
          have st : St X w6 [_] [] := st
          have hF := hF.step hf (fun y hy => z2 y (by simp at hy; subst hy; rfl))
          have hln2 : (r0'.set s3'.toNat (ix r0' (s3 + s5))).length = s.length := by rw [List.length_set]; exact hlmr0'
          rewrite [hln2] at how3
          refine Ln k21 (rg (Lm rfl (Ly rfl (y_add (c := s3' + 1) rfl rfl rfl (wf_i64 (by first | omega | (simp; done) | (simp; omega)))) ?_)))
          refine Ls' rfl (Ls_nil (Ib_n (Th_n (k19 _ _ (rg (Lm rfl (Ly rfl (y_add (c := s5 + 1) rfl rfl rfl (wf_i64 (by first | omega | (simp; done) | (simp; omega)))) ?_)))))))
          refine Ls' rfl (Ls_nil (Th_n (?_)))
          exact ⟨fuel, [(0, _), (3, _), (4, _), (5, _)], Nat.lt_succ_self _, ⟨rfl, rfl, rfl, rfl, trivial⟩, (s3' + 1), (s5 + 1), (r0'.set s3'.toNat (ix r0' (s3 + s5))), rfl, ⟨by rewrite [← hL2, compactStr_L2]; rewrite [if_pos hc4, if_neg hc5]; rfl, by first | omega | (simp; done) | (simp; omega)⟩, by first | omega | (simp; done) | (simp; omega), how3, hln2, (st.picks [0] (by decide)).pickK [], hF⟩
        refine Wp_skip (Ib_n (Th_n (k19 _ _ (rg (Lm rfl (Ly rfl (y_add (c := s5 + 1) rfl rfl rfl (wf_i64 (by first | omega | (simp; done) | (simp; omega)))) ?_))))))
        refine Ls' rfl (Ls_nil (Th_n (?_)))
        exact ⟨fuel, [(0, _), (3, _), (4, _), (5, _)], Nat.lt_succ_self _, ⟨rfl, rfl, rfl, rfl, trivial⟩, s3', (s5 + 1), r0', rfl, ⟨by rewrite [← hL2, compactStr_L2]; rewrite [if_pos hc4, if_pos hc5]; rfl, by first | omega | (simp; done) | (simp; omega)⟩, by first | omega | (simp; done) | (simp; omega), howr0', hlmr0', (st.picks [0] (by decide)).pickK [], hF⟩
      refine Wp_exit (Th_e (Th_e (Ib_hit (Th_n (?_)))))
      exact hout2 _ [(0, _), (3, _), (4, _), (5, _)] _ ⟨rfl, rfl, rfl, rfl, trivial⟩ ⟨s3', s5, r0', rfl, show _ = _ from by rewrite [← hL2, compactStr_L2]; rewrite [if_neg hc4]; rfl, by first | omega | (simp; done) | (simp; omega), howr0', hlmr0', (st.picks [0] (by decide)).pickK [], hF⟩
    refine Wp_skip (Ib_n (Th_n (k10 _ _ (rg (Lm rfl (Ly rfl (y_add (c := s3 + 1) rfl rfl rfl (wf_i64 (by first | omega | (simp; done) | (simp; omega)))) ?_))))))
    refine Ls' rfl (Ls_nil (Th_n (?_)))
    exact ⟨fuel, [(0, _), (3, _)], Nat.lt_succ_self _, ⟨rfl, rfl, trivial⟩, (s3 + 1), r0, rfl, ⟨by rewrite [← hL1, compactStr_L1]; rewrite [if_pos hc2, if_neg hc3]; rfl, by first | omega | (simp; done) | (simp; omega)⟩, by first | omega | (simp; done) | (simp; omega), howr0, hlmr0, (st.picks [0] (by decide)).pickK [], hF⟩
  refine Wp_exit (Th_e (Th_e (Ib_hit (Th_n (?_)))))
  exact hout1 _ [(0, _), (3, _)] _ ⟨rfl, rfl, trivial⟩ ⟨s3, r0, rfl, show _ = _ from by rewrite [← hL1, compactStr_L1]; rewrite [if_neg hc2]; rfl, by first | omega | (simp; done) | (simp; omega), howr0, hlmr0, (st.picks [0] (by decide)).pickK [], hF⟩

end Go.Proofs.YtngofknckkiboaaGreatDoor

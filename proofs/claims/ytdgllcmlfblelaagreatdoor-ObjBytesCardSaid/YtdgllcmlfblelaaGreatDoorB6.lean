/- Walks printed by gen2.py out of our own specifications: what the functions named below do. -/
import Derived.Test.YtdgllcmlfblelaaGreatDoorSc
import Derived.Test.YtdgllcmlfblelaaGreatDoorB5
set_option linter.unusedSimpArgs false
set_option linter.unusedVariables false
namespace Go.Proofs.YtdgllcmlfblelaaGreatDoor
open Go.RowKit

def number_c1 (s : List UInt8) : Bool :=
  (if 1 < (1 + ((ix s 0).toNat : Int)) then ((ix s 1).toNat : Int) == 0 else false)

def number_L1 (s : List UInt8) : Nat → Int → Int → (Int × Int × Int) ⊕ (Int × Int)
  | 0, s2, s5 => .inr (s2, s5)
  | fuel + 1, s2, s5 =>
    if s5 < (1 + ((ix s 0).toNat : Int)) then
      number_L1 s fuel (bits .or .u64 (s2 * 256 % 18446744073709551616) ((ix s s5).toNat : Int)) (s5 + 1)
    else
      .inr (s2, s5)
def number_m (s : List UInt8) : Int × Int × Int :=
  if s = [] then
    (0, 0, 1)
  else
    if 9 < (1 + ((ix s 0).toNat : Int)) then
      (0, 0, 3)
    else
      if (s.length : Int) < (1 + ((ix s 0).toNat : Int)) then
        (0, 0, 1)
      else
        if (number_c1 s) = true then
          (0, 0, 3)
        else
          match number_L1 s ((1 + ((ix s 0).toNat : Int) - (1 : Int)).toNat + 1) (0 : Int) (1 : Int) with
          | .inl r => r
          | .inr (s2, s5) =>
            (s2, 1 + ((ix s 0).toNat : Int), 0)

theorem number_c1_iff (s : List UInt8) : (number_c1 s = true) ↔ ((1 < (1 + ((ix s 0).toNat : Int))) ∧ (((ix s 1).toNat : Int) = 0)) := by
  unfold number_c1; exact (ci2 beq_iff_eq)

set_option maxRecDepth 20000 in
theorem number_ok (w : World) (s : List UInt8) (h1 : s.length ≤ 1000000) :
    Fn Tryz.prog 84 [sv s] w fun v w' => v = .tuple #[.int .u64 ((number_m s).1), .int .i64 ((number_m s).2.1), .int .i64 ((number_m s).2.2)] ∧ Fr [] w w' := by
  refine Fn_of 42 Ty.en_84 Tryz.func84 rfl rfl rfl ?_
  dsimp only [argEnv]
  have st := stn0 (X := []) (w := w) (by simp [Lo])
  have hF := Fr.refl ([]) w
  refine sq fun _ k1 => rg (Ls' rfl (Ls' rfl (Ls' rfl (Ln k1 (sq fun _ k2 => sq fun _ k3 => rg (Lm rfl (Ly rfl (y_eqs rfl rfl rfl) (Ln k3 (cE rfl (fun hc1 => ?_) (fun hc1 => ?_))))))))))
  · refine sq fun _ k4 => rg (Ls' rfl (Ls' rfl (Ls' rfl (Ln k4 (Wp_ret (Th_r (Fq_ret (Res3 rfl rfl rfl rfl) ?_)))))))
    unfold number_m; rewrite [if_pos hc1]
    exact ⟨rfl, hF⟩
  have khc1 := List.length_pos_iff.2 hc1
  refine sk k2 (sq fun _ k5 => rg (Lm rfl (Ly rfl (y_ixs2 (q := 0) rfl rfl rfl Tryz.underlying9 (by first | omega | (simp; done) | (simp; omega)) (by first | omega | (simp; done) | (simp; omega))) ?_)))
  have hby1 := UInt8.toNat_lt (ix s 0)
  refine Ly rfl (y_cvi (c := ((ix s 0).toNat : Int)) rfl rfl Tryz.underlying5 Tryz.underlying3 (wf_i64 (by omega))) ?_
  refine Ly rfl (y_add (c := 1 + ((ix s 0).toNat : Int)) rfl rfl rfl (wf_i64 (by first | omega | (simp; done) | (simp; omega)))) ?_
  refine Ls' rfl (Ln k5 (sq fun _ k6 => Wp_block (sq fun _ k7 => rg (Lm rfl (Ly rfl (ygt rfl) (Ls' rfl (Ln k7 (cD rfl (fun hc2 => ?_) (fun hc2 => ?_)))))))))
  · refine sq fun _ k8 => rg (Ls' rfl (Ls' rfl (Ls' rfl (Ln k8 (Wp_ret (Ib_r (Th_r (Fq_ret (Res3 rfl rfl rfl rfl) ?_))))))))
    unfold number_m; rewrite [if_neg hc1, if_pos hc2]
    exact ⟨rfl, hF⟩
  refine sq fun _ k9 => rg (Lm rfl (Lm rfl (Ly rfl (y_lens rfl rfl Tryz.underlying9) (Ly rfl (ygt rfl) (Ls' rfl (Ln k9 (cD rfl (fun hc3 => ?_) (fun hc3 => ?_))))))))
  · refine sq fun _ k10 => rg (Ls' rfl (Ls' rfl (Ls' rfl (Ln k10 (Wp_ret (Ib_r (Th_r (Fq_ret (Res3 rfl rfl rfl rfl) ?_))))))))
    unfold number_m; rewrite [if_neg hc1, if_neg hc2, if_pos hc3]
    exact ⟨rfl, hF⟩
  refine sq fun _ k11 => ?_
  refine use_out k11 (fun E W => E = [(0, sv s), (2, .int .u64 0), (3, .int .i64 (1 + ((ix s 0).toNat : Int))), (20, .bool (number_c1 s))] ∧ St [] W (hOf st) (kOf st) ∧ Fr ([]) w W) ?_ fun hout1 => ?_
  · rintro E w1 ⟨rfl, st, hF⟩
    have st : St [] w1 [] [] := st
    refine cB rfl (fun hc4 => ?_) (fun hc4 => ?_)
    · have jhc4 := (number_c1_iff s).1 hc4
      refine sq fun _ k12 => rg (Ls' rfl (Ls' rfl (Ls' rfl (Ln k12 (Wp_ret (Ib_r (Th_r (Fq_ret (Res3 rfl rfl rfl rfl) ?_))))))))
      unfold number_m; rewrite [if_neg hc1, if_neg hc2, if_neg hc3, if_pos hc4]
      exact ⟨rfl, hF⟩
    have jhc4 := mt (number_c1_iff s).2 hc4
    refine Wp_skip (Ib_n (Th_n (k6 _ _ (sq fun _ k13 => sq fun _ k14 => rg (Ls' rfl (Ln k14 (Wp_block (lp (fun q E W => ∃ (s2 : Int) (s5 : Int), E = [(0, sv s), (2, .int .u64 s2), (3, .int .i64 (1 + ((ix s 0).toNat : Int))), (5, .int .i64 s5)] ∧ jq q (fun m => (number_L1 s m s2 s5 = number_L1 s ((1 + ((ix s 0).toNat : Int) - (1 : Int)).toNat + 1) (0 : Int) (1 : Int) ∧ (1 + ((ix s 0).toNat : Int) - s5).toNat < m)) (number_L1 s ((1 + ((ix s 0).toNat : Int) - (1 : Int)).toNat + 1) (0 : Int) (1 : Int) = .inr (s2, s5)) ∧ (1 ≤ s5) ∧ St [] W [] [] ∧ Fr ([]) w W) ((1 + ((ix s 0).toNat : Int) - (1 : Int)).toNat + 1) [(0, _), (2, _), (3, _), (5, _)] ⟨rfl, rfl, rfl, rfl, trivial⟩ ⟨_, _, rfl, ⟨rfl, Nat.lt_succ_self _⟩, by first | omega | (simp; done) | (simp; omega), st, hF⟩ k13 ?_ fun hout2 => ?_))))))))
    · rintro E w2 ⟨s2, s5, rfl, hLk1, hinv, st, hF⟩
      unfold jq at hLk1; dsimp only at hLk1
      refine sq fun _ k15 => rg (Lm rfl (Lm rfl (Ls' rfl (Ls' rfl (Ls' rfl (Ln k15 (Wp_ret (Fq_ret (Res3 rfl rfl rfl rfl) ?_))))))))
      unfold number_m; rewrite [if_neg hc1, if_neg hc2, if_neg hc3, if_neg hc4, hLk1]; (try dsimp only)
      exact ⟨rfl, hF⟩
    rintro m E w3 ⟨s2, s5, rfl, ⟨hL1, hmu⟩, hinv, st, hF⟩
    obtain ⟨fuel, rfl⟩ : ∃ q, m = q + 1 := ⟨m - 1, by omega⟩
    refine sq fun _ k16 => sq fun _ k17 => rg (Lm rfl (Lm rfl (Ly rfl (ylt rfl) (Ln k17 (cD rfl (fun hc5 => ?_) (fun hc5 => ?_))))))
    · refine sk k16 (sq fun _ k18 => Wp_block (rg (Lm rfl (Ly rfl (y_shlC (c := s2 * 256 % 18446744073709551616) 8 256 rfl rfl rfl (by decide) rfl rfl wm_u64) ?_))))
      refine Lm rfl (Lm rfl (Ly rfl (y_ixs2 (q := s5) rfl rfl rfl Tryz.underlying9 (by first | omega | (simp; done) | (simp; omega)) (by first | omega | (simp; done) | (simp; omega))) ?_))
      have hby2 := UInt8.toNat_lt (ix s s5)
      refine Ly rfl (y_cvi (c := ((ix s s5).toNat : Int)) rfl rfl Tryz.underlying5 Tryz.underlying72 (wf_u64 (by omega))) ?_
      refine Ly rfl (y_bits rfl rfl rfl (by simp) rfl) ?_
      refine Ls' rfl (Ls_nil (Ib_n (Th_n (k18 _ _ (rg (Lm rfl (Ly rfl (y_add (c := s5 + 1) rfl rfl rfl (wf_i64 (by first | omega | (simp; done) | (simp; omega)))) ?_)))))))
      refine Ls' rfl (Ls_nil (Th_n (?_)))
      exact ⟨fuel, [(0, _), (2, _), (3, _), (5, _)], Nat.lt_succ_self _, ⟨rfl, rfl, rfl, rfl, trivial⟩, (bits .or .u64 (s2 * 256 % 18446744073709551616) ((ix s s5).toNat : Int)), (s5 + 1), rfl, ⟨by rewrite [← hL1, number_L1]; rewrite [if_pos hc5]; rfl, by first | omega | (simp; done) | (simp; omega)⟩, by first | omega | (simp; done) | (simp; omega), (st.picks [] (by decide)).pickK [], hF⟩
    refine Wp_exit (Th_e (Th_e (Ib_hit (Th_n (?_)))))
    exact hout2 _ [(0, _), (2, _), (3, _), (5, _)] _ ⟨rfl, rfl, rfl, rfl, trivial⟩ ⟨s2, s5, rfl, show _ = _ from by rewrite [← hL1, number_L1]; rewrite [if_neg hc5]; rfl, by first | omega | (simp; done) | (simp; omega), (st.picks [] (by decide)).pickK [], hF⟩
  refine rg (Lm rfl (Ly rfl (ygt rfl) (Lm rfl (bD (s := 23) rfl (fun hc6 => ?_) (fun hc6 => ?_)))))
  · refine LyT rfl (y_move rfl rfl) (LyT rfl (y_ixs2 (q := 1) rfl rfl rfl Tryz.underlying9 (by first | omega | (simp; done) | (simp; omega)) (by first | omega | (simp; done) | (simp; omega))) ?_)
    refine LyT rfl (yeq rfl) (Ly rfl (yT rfl) (Ls' rfl (Ls_nil (Th_n (?_)))))
    exact hout1 _ [(0, _), (2, _), (3, _), (20, _)] _ ⟨rfl, rfl, rfl, rfl, trivial⟩ ⟨by unfold number_c1; rewrite [if_pos hc6]; rfl, (st.picks [] (by decide)).pickK [], hF⟩
  refine LsF rfl (LsF rfl (LsF rfl (Ly rfl (yF rfl) (Ls' rfl (Ls_nil (Th_n (?_)))))))
  exact hout1 _ [(0, _), (2, _), (3, _), (20, _)] _ ⟨rfl, rfl, rfl, rfl, trivial⟩ ⟨by unfold number_c1; rewrite [if_neg hc6]; rfl, (st.picks [] (by decide)).pickK [], hF⟩

def every_m (u : Int) : Int :=
  0


set_option maxRecDepth 20000 in
theorem every_ok (w : World) (u : Int) :
    Fn Tryz.prog 85 [.int .u64 u] w fun v w' => v = .int .i64 (every_m u) ∧ Fr [] w w' := by
  refine Fn_of 3 Ty.en_85 Tryz.func85 rfl rfl rfl ?_
  dsimp only [argEnv]
  have st := stn0 (X := []) (w := w) (by simp [Lo])
  have hF := Fr.refl ([]) w
  refine sq fun _ k1 => rg (Ls' rfl (Ln k1 (sq fun _ k2 => rg (Ls' rfl (Ln k2 (Wp_ret (Fq_ret (Res1 rfl rfl) ?_)))))))
  unfold every_m
  exact ⟨rfl, hF⟩

def oright_c1 (m : Int) (u : Int) : Bool :=
  (if m < 0 then true else decide ((m % 18446744073709551616) < u))
def oright_m (m : Int) (u : Int) : Int :=
  if (oright_c1 m u) = true then
    2
  else
    0

theorem oright_c1_iff (m : Int) (u : Int) : (oright_c1 m u = true) ↔ ((m < 0) ∨ ((m % 18446744073709551616) < u)) := by
  unfold oright_c1; exact (ci1 decide_eq_true_iff)

set_option maxRecDepth 20000 in
theorem oright_ok (w : World) (m : Int) (u : Int) :
    Fn Tryz.prog 61 [.int .i64 m, .int .u64 u] w fun v w' => v = .int .i64 (oright_m m u) ∧ Fr [] w w' := by
  refine Fn_of 13 Ty.en_61 Tryz.func61 rfl rfl rfl ?_
  dsimp only [argEnv]
  have st := stn0 (X := []) (w := w) (by simp [Lo])
  have hF := Fr.refl ([]) w
  refine sq fun _ k1 => rg (Ls' rfl (Ln k1 (sq fun _ k2 => sq fun _ k3 => ?_)))
  refine use_out k3 (fun E W => E = [(12, .bool (oright_c1 m u))] ∧ St [] W (hOf st) (kOf st) ∧ Fr ([]) w W) ?_ fun hout1 => ?_
  · rintro E w1 ⟨rfl, st, hF⟩
    have st : St [] w1 [] [] := st
    refine cB rfl (fun hc1 => ?_) (fun hc1 => ?_)
    · have jhc1 := (oright_c1_iff m u).1 hc1
      refine sq fun _ k4 => rg (Ls' rfl (Ln k4 (Wp_ret (Th_r (Fq_ret (Res1 rfl rfl) ?_)))))
      unfold oright_m; rewrite [if_pos hc1]
      exact ⟨rfl, hF⟩
    have jhc1 := mt (oright_c1_iff m u).2 hc1
    refine sk k2 (sq fun _ k5 => rg (Ls' rfl (Ln k5 (Wp_ret (Fq_ret (Res1 rfl rfl) ?_)))))
    unfold oright_m; rewrite [if_neg hc1]
    exact ⟨rfl, hF⟩
  refine rg (Lm rfl (Ly rfl (ylt rfl) (Lm rfl (bD (s := 7) rfl (fun hc2 => ?_) (fun hc2 => ?_)))))
  · refine LsF rfl (LsF rfl (LsF rfl (LsF rfl (Ly rfl (yT rfl) (Ls_nil (Th_n (?_)))))))
    exact hout1 _ [(12, _)] _ ⟨rfl, trivial⟩ ⟨by unfold oright_c1; rewrite [if_pos hc2]; rfl, (st.picks [] (by decide)).pickK [], hF⟩
  refine LyT rfl (y_move rfl rfl) (LyT rfl (y_move rfl rfl) (LyT rfl (y_cvi (c := m % 18446744073709551616) rfl rfl Tryz.underlying116 Tryz.underlying72 wm_u64) (LyT rfl (ygt rfl) (Ly rfl (yF rfl) (Ls_nil (Th_n (?_)))))))
  exact hout1 _ [(12, _)] _ ⟨rfl, trivial⟩ ⟨by unfold oright_c1; rewrite [if_neg hc2]; rfl, (st.picks [] (by decide)).pickK [], hF⟩

end Go.Proofs.YtdgllcmlfblelaaGreatDoor

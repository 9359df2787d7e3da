/- Walks printed by gen2.py out of our own specifications: what the functions named below do. -/
import Derived.Test.YtmajjdpioillaaaO1
set_option linter.unusedSimpArgs false
set_option linter.unusedVariables false
namespace Go.Proofs.Ytmajjdpioillaaa
open Go.RowKit

def nanI_m (x : Int) : Bool :=
  x != x


set_option maxRecDepth 20000 in
theorem nanI_ok (w : World) (x : Int) :
    Fn Try.prog 90 [.int .i64 x] w fun v w' => v = .bool (nanI_m x) ∧ Fr [] w w' := by
  refine Fn_of 6 Ty.en_90 Try.func90 rfl rfl rfl ?_
  dsimp only [argEnv]
  have st : St [] w [] [] := St.nil (X := []) (w := w) (by simp [Lo])
  have hF := Fr.refl ([]) w
  refine Wp_seq fun K1 hK1 => ?_
  refine Wp_region (Las rfl rfl rfl rfl rfl (Ls_nil (Th_n (hK1 _ _ ?_))))
  refine Wp_seq fun K2 hK2 => ?_
  refine Wp_region (Lmv rfl rfl rfl rfl rfl (Lmv rfl rfl rfl rfl rfl (Ls_y (wtd0 rfl) rfl rfl (y_ne rfl rfl rfl) (Las rfl rfl rfl rfl rfl (Ls_nil (Th_n (hK2 _ _ ?_)))))))
  refine Wp_ret (Fq_ret (Res1 rfl rfl) ?_)
  have he1 : nanI_m x = (x != x) := by unfold nanI_m; rfl
  rewrite [he1]
  exact ⟨rfl, hF⟩

def nanU_m (x : Int) : Bool :=
  x != x


set_option maxRecDepth 20000 in
theorem nanU_ok (w : World) (x : Int) :
    Fn Try.prog 91 [.int .u32 x] w fun v w' => v = .bool (nanU_m x) ∧ Fr [] w w' := by
  refine Fn_of 6 Ty.en_91 Try.func91 rfl rfl rfl ?_
  dsimp only [argEnv]
  have st : St [] w [] [] := St.nil (X := []) (w := w) (by simp [Lo])
  have hF := Fr.refl ([]) w
  refine Wp_seq fun K1 hK1 => ?_
  refine Wp_region (Las rfl rfl rfl rfl rfl (Ls_nil (Th_n (hK1 _ _ ?_))))
  refine Wp_seq fun K2 hK2 => ?_
  refine Wp_region (Lmv rfl rfl rfl rfl rfl (Lmv rfl rfl rfl rfl rfl (Ls_y (wtd0 rfl) rfl rfl (y_ne rfl rfl rfl) (Las rfl rfl rfl rfl rfl (Ls_nil (Th_n (hK2 _ _ ?_)))))))
  refine Wp_ret (Fq_ret (Res1 rfl rfl) ?_)
  have he1 : nanU_m x = (x != x) := by unfold nanU_m; rfl
  rewrite [he1]
  exact ⟨rfl, hF⟩

def cmpI_m (x : Int) (y : Int) : Int :=
  if (nanI_m x) = true then
    if (nanI_m y) = true then
      0
    else
      (-1)
  else
    if (nanI_m y) = true then
      1
    else
      if x < y then
        (-1)
      else
        if y < x then
          1
        else
          0


set_option maxRecDepth 20000 in
theorem cmpI_ok (w : World) (x : Int) (y : Int) :
    Fn Try.prog 80 [.int .i64 x, .int .i64 y] w fun v w' => v = .int .i64 (cmpI_m x y) ∧ Fr [] w w' := by
  refine Fn_of 20 Ty.en_80 Try.func80 rfl rfl rfl ?_
  dsimp only [argEnv]
  have st : St [] w [] [] := St.nil (X := []) (w := w) (by simp [Lo])
  have hF := Fr.refl ([]) w
  refine Wp_seq fun K1 hK1 => ?_
  refine Wp_region (Las rfl rfl rfl rfl rfl (Ls_nil (Th_n (hK1 _ _ ?_))))
  refine Wp_seq fun K2 hK2 => ?_
  refine Wp_region (Lmv rfl rfl rfl rfl rfl (Ls_a (wtd0 rfl) ?_))
  refine a_call rfl rfl rfl rfl (nanI_ok _ x) (fun v w1 ⟨hv, hf⟩ => ?_)
  subst hv
  have st := st.keep0 hf
  have hF := hF.step0 hf
  have st : St [] w1 [] [] := st
  refine Las rfl rfl rfl rfl rfl (Ls_nil (Th_n (hK2 _ _ ?_)))
  refine Wp_seq fun K3 hK3 => ?_
  refine Wp_region (Lmv rfl rfl rfl rfl rfl (Ls_a (wtd0 rfl) ?_))
  refine a_call rfl rfl rfl rfl (nanI_ok _ y) (fun v w2 ⟨hv, hf⟩ => ?_)
  subst hv
  have st := st.keep0 hf
  have hF := hF.step0 hf
  have st : St [] w2 [] [] := st
  refine Las rfl rfl rfl rfl rfl (Ls_nil (Th_n (hK3 _ _ ?_)))
  refine Wp_seq fun K4 hK4 => ?_
  refine Wp_seq fun K5 hK5 => ?_
  refine Wp_region (Lmv rfl rfl rfl rfl rfl (Ls_nil (Th_n (hK5 _ _ ?_))))
  refine Wp_cond rfl (fun hc1 => ?_) (fun hc1 => ?_)
  · refine Wp_seq fun K6 hK6 => ?_
    refine Wp_seq fun K7 hK7 => ?_
    refine Wp_region (Lmv rfl rfl rfl rfl rfl (Ls_nil (Th_n (hK7 _ _ ?_))))
    refine Wp_cond rfl (fun hc2 => ?_) (fun hc2 => ?_)
    · refine Wp_seq fun K8 hK8 => ?_
      refine Wp_region (Las rfl rfl rfl rfl rfl (Ls_nil (Th_n (hK8 _ _ ?_))))
      refine Wp_ret (Th_r (Th_r (Fq_ret (Res1 rfl rfl) ?_)))
      have he1 : cmpI_m x y = 0 := by unfold cmpI_m; rewrite [if_pos hc1, if_pos hc2]; rfl
      rewrite [he1]
      exact ⟨rfl, hF⟩
    have hc2 := bF hc2
    refine Wp_skip (Th_n (hK6 _ _ ?_))
    refine Wp_seq fun K9 hK9 => ?_
    refine Wp_region (Las rfl rfl rfl rfl rfl (Ls_nil (Th_n (hK9 _ _ ?_))))
    refine Wp_ret (Th_r (Fq_ret (Res1 rfl rfl) ?_))
    have he2 : cmpI_m x y = (-1) := by unfold cmpI_m; rewrite [if_pos hc1, if_neg hc2]; rfl
    rewrite [he2]
    exact ⟨rfl, hF⟩
  have hc1 := bF hc1
  refine Wp_skip (Th_n (hK4 _ _ ?_))
  refine Wp_seq fun K10 hK10 => ?_
  refine Wp_seq fun K11 hK11 => ?_
  refine Wp_region (Lmv rfl rfl rfl rfl rfl (Ls_nil (Th_n (hK11 _ _ ?_))))
  refine Wp_cond rfl (fun hc3 => ?_) (fun hc3 => ?_)
  · refine Wp_seq fun K12 hK12 => ?_
    refine Wp_region (Las rfl rfl rfl rfl rfl (Ls_nil (Th_n (hK12 _ _ ?_))))
    refine Wp_ret (Th_r (Fq_ret (Res1 rfl rfl) ?_))
    have he3 : cmpI_m x y = 1 := by unfold cmpI_m; rewrite [if_neg hc1, if_pos hc3]; rfl
    rewrite [he3]
    exact ⟨rfl, hF⟩
  have hc3 := bF hc3
  refine Wp_skip (Th_n (hK10 _ _ ?_))
  refine Wp_seq fun K13 hK13 => ?_
  refine Wp_seq fun K14 hK14 => ?_
  refine Wp_region (Lmv rfl rfl rfl rfl rfl (Lmv rfl rfl rfl rfl rfl (Ls_y (wtd0 rfl) rfl rfl (y_lt rfl rfl rfl) (Ls_nil (Th_n (hK14 _ _ ?_))))))
  refine Wp_cond rfl (fun hc4 => ?_) (fun hc4 => ?_)
  · have hc4 := dT hc4
    refine Wp_seq fun K15 hK15 => ?_
    refine Wp_region (Las rfl rfl rfl rfl rfl (Ls_nil (Th_n (hK15 _ _ ?_))))
    refine Wp_ret (Th_r (Fq_ret (Res1 rfl rfl) ?_))
    have he4 : cmpI_m x y = (-1) := by unfold cmpI_m; rewrite [if_neg hc1, if_neg hc3, if_pos hc4]; rfl
    rewrite [he4]
    exact ⟨rfl, hF⟩
  have hc4 := dF hc4
  refine Wp_skip (Th_n (hK13 _ _ ?_))
  refine Wp_seq fun K16 hK16 => ?_
  refine Wp_seq fun K17 hK17 => ?_
  refine Wp_region (Lmv rfl rfl rfl rfl rfl (Lmv rfl rfl rfl rfl rfl (Ls_y (wtd0 rfl) rfl rfl (y_gt rfl rfl rfl) (Ls_nil (Th_n (hK17 _ _ ?_))))))
  refine Wp_cond rfl (fun hc5 => ?_) (fun hc5 => ?_)
  · have hc5 := dT hc5
    refine Wp_seq fun K18 hK18 => ?_
    refine Wp_region (Las rfl rfl rfl rfl rfl (Ls_nil (Th_n (hK18 _ _ ?_))))
    refine Wp_ret (Th_r (Fq_ret (Res1 rfl rfl) ?_))
    have he5 : cmpI_m x y = 1 := by unfold cmpI_m; rewrite [if_neg hc1, if_neg hc3, if_neg hc4, if_pos hc5]; rfl
    rewrite [he5]
    exact ⟨rfl, hF⟩
  have hc5 := dF hc5
  refine Wp_skip (Th_n (hK16 _ _ ?_))
  refine Wp_seq fun K19 hK19 => ?_
  refine Wp_region (Las rfl rfl rfl rfl rfl (Ls_nil (Th_n (hK19 _ _ ?_))))
  refine Wp_ret (Fq_ret (Res1 rfl rfl) ?_)
  have he6 : cmpI_m x y = 0 := by unfold cmpI_m; rewrite [if_neg hc1, if_neg hc3, if_neg hc4, if_neg hc5]; rfl
  rewrite [he6]
  exact ⟨rfl, hF⟩

def cmpU_m (x : Int) (y : Int) : Int :=
  if (nanU_m x) = true then
    if (nanU_m y) = true then
      0
    else
      (-1)
  else
    if (nanU_m y) = true then
      1
    else
      if x < y then
        (-1)
      else
        if y < x then
          1
        else
          0


set_option maxRecDepth 20000 in
theorem cmpU_ok (w : World) (x : Int) (y : Int) :
    Fn Try.prog 89 [.int .u32 x, .int .u32 y] w fun v w' => v = .int .i64 (cmpU_m x y) ∧ Fr [] w w' := by
  refine Fn_of 20 Ty.en_89 Try.func89 rfl rfl rfl ?_
  dsimp only [argEnv]
  have st : St [] w [] [] := St.nil (X := []) (w := w) (by simp [Lo])
  have hF := Fr.refl ([]) w
  refine Wp_seq fun K1 hK1 => ?_
  refine Wp_region (Las rfl rfl rfl rfl rfl (Ls_nil (Th_n (hK1 _ _ ?_))))
  refine Wp_seq fun K2 hK2 => ?_
  refine Wp_region (Lmv rfl rfl rfl rfl rfl (Ls_a (wtd0 rfl) ?_))
  refine a_call rfl rfl rfl rfl (nanU_ok _ x) (fun v w1 ⟨hv, hf⟩ => ?_)
  subst hv
  have st := st.keep0 hf
  have hF := hF.step0 hf
  have st : St [] w1 [] [] := st
  refine Las rfl rfl rfl rfl rfl (Ls_nil (Th_n (hK2 _ _ ?_)))
  refine Wp_seq fun K3 hK3 => ?_
  refine Wp_region (Lmv rfl rfl rfl rfl rfl (Ls_a (wtd0 rfl) ?_))
  refine a_call rfl rfl rfl rfl (nanU_ok _ y) (fun v w2 ⟨hv, hf⟩ => ?_)
  subst hv
  have st := st.keep0 hf
  have hF := hF.step0 hf
  have st : St [] w2 [] [] := st
  refine Las rfl rfl rfl rfl rfl (Ls_nil (Th_n (hK3 _ _ ?_)))
  refine Wp_seq fun K4 hK4 => ?_
  refine Wp_seq fun K5 hK5 => ?_
  refine Wp_region (Lmv rfl rfl rfl rfl rfl (Ls_nil (Th_n (hK5 _ _ ?_))))
  refine Wp_cond rfl (fun hc1 => ?_) (fun hc1 => ?_)
  · refine Wp_seq fun K6 hK6 => ?_
    refine Wp_seq fun K7 hK7 => ?_
    refine Wp_region (Lmv rfl rfl rfl rfl rfl (Ls_nil (Th_n (hK7 _ _ ?_))))
    refine Wp_cond rfl (fun hc2 => ?_) (fun hc2 => ?_)
    · refine Wp_seq fun K8 hK8 => ?_
      refine Wp_region (Las rfl rfl rfl rfl rfl (Ls_nil (Th_n (hK8 _ _ ?_))))
      refine Wp_ret (Th_r (Th_r (Fq_ret (Res1 rfl rfl) ?_)))
      have he1 : cmpU_m x y = 0 := by unfold cmpU_m; rewrite [if_pos hc1, if_pos hc2]; rfl
      rewrite [he1]
      exact ⟨rfl, hF⟩
    have hc2 := bF hc2
    refine Wp_skip (Th_n (hK6 _ _ ?_))
    refine Wp_seq fun K9 hK9 => ?_
    refine Wp_region (Las rfl rfl rfl rfl rfl (Ls_nil (Th_n (hK9 _ _ ?_))))
    refine Wp_ret (Th_r (Fq_ret (Res1 rfl rfl) ?_))
    have he2 : cmpU_m x y = (-1) := by unfold cmpU_m; rewrite [if_pos hc1, if_neg hc2]; rfl
    rewrite [he2]
    exact ⟨rfl, hF⟩
  have hc1 := bF hc1
  refine Wp_skip (Th_n (hK4 _ _ ?_))
  refine Wp_seq fun K10 hK10 => ?_
  refine Wp_seq fun K11 hK11 => ?_
  refine Wp_region (Lmv rfl rfl rfl rfl rfl (Ls_nil (Th_n (hK11 _ _ ?_))))
  refine Wp_cond rfl (fun hc3 => ?_) (fun hc3 => ?_)
  · refine Wp_seq fun K12 hK12 => ?_
    refine Wp_region (Las rfl rfl rfl rfl rfl (Ls_nil (Th_n (hK12 _ _ ?_))))
    refine Wp_ret (Th_r (Fq_ret (Res1 rfl rfl) ?_))
    have he3 : cmpU_m x y = 1 := by unfold cmpU_m; rewrite [if_neg hc1, if_pos hc3]; rfl
    rewrite [he3]
    exact ⟨rfl, hF⟩
  have hc3 := bF hc3
  refine Wp_skip (Th_n (hK10 _ _ ?_))
  refine Wp_seq fun K13 hK13 => ?_
  refine Wp_seq fun K14 hK14 => ?_
  refine Wp_region (Lmv rfl rfl rfl rfl rfl (Lmv rfl rfl rfl rfl rfl (Ls_y (wtd0 rfl) rfl rfl (y_lt rfl rfl rfl) (Ls_nil (Th_n (hK14 _ _ ?_))))))
  refine Wp_cond rfl (fun hc4 => ?_) (fun hc4 => ?_)
  · have hc4 := dT hc4
    refine Wp_seq fun K15 hK15 => ?_
    refine Wp_region (Las rfl rfl rfl rfl rfl (Ls_nil (Th_n (hK15 _ _ ?_))))
    refine Wp_ret (Th_r (Fq_ret (Res1 rfl rfl) ?_))
    have he4 : cmpU_m x y = (-1) := by unfold cmpU_m; rewrite [if_neg hc1, if_neg hc3, if_pos hc4]; rfl
    rewrite [he4]
    exact ⟨rfl, hF⟩
  have hc4 := dF hc4
  refine Wp_skip (Th_n (hK13 _ _ ?_))
  refine Wp_seq fun K16 hK16 => ?_
  refine Wp_seq fun K17 hK17 => ?_
  refine Wp_region (Lmv rfl rfl rfl rfl rfl (Lmv rfl rfl rfl rfl rfl (Ls_y (wtd0 rfl) rfl rfl (y_gt rfl rfl rfl) (Ls_nil (Th_n (hK17 _ _ ?_))))))
  refine Wp_cond rfl (fun hc5 => ?_) (fun hc5 => ?_)
  · have hc5 := dT hc5
    refine Wp_seq fun K18 hK18 => ?_
    refine Wp_region (Las rfl rfl rfl rfl rfl (Ls_nil (Th_n (hK18 _ _ ?_))))
    refine Wp_ret (Th_r (Fq_ret (Res1 rfl rfl) ?_))
    have he5 : cmpU_m x y = 1 := by unfold cmpU_m; rewrite [if_neg hc1, if_neg hc3, if_neg hc4, if_pos hc5]; rfl
    rewrite [he5]
    exact ⟨rfl, hF⟩
  have hc5 := dF hc5
  refine Wp_skip (Th_n (hK16 _ _ ?_))
  refine Wp_seq fun K19 hK19 => ?_
  refine Wp_region (Las rfl rfl rfl rfl rfl (Ls_nil (Th_n (hK19 _ _ ?_))))
  refine Wp_ret (Fq_ret (Res1 rfl rfl) ?_)
  have he6 : cmpU_m x y = 0 := by unfold cmpU_m; rewrite [if_neg hc1, if_neg hc3, if_neg hc4, if_neg hc5]; rfl
  rewrite [he6]
  exact ⟨rfl, hF⟩

def cmpOr_L1 (l : List Int) : Nat → Int → (Int) ⊕ (Int)
  | 0, s8 => .inr (s8)
  | fuel + 1, s8 =>
    if s8 < (l.length : Int) then
      if (ix l s8) = 0 then
        cmpOr_L1 l fuel (s8 + 1)
      else
        .inl (ix l s8)
    else
      .inr (s8)
def cmpOr_m (l : List Int) : Int :=
  match cmpOr_L1 l (((l.length : Int) - (0 : Int)).toNat + 1) (0 : Int) with
  | .inl r => r
  | .inr (s8) =>
    0


set_option maxRecDepth 20000 in
theorem cmpOr_ok (X : List Nat) (w : World) (hX : Lo X w) (l : List Int) (A_l : Option Addr) (c_l : Nat) (h_l : Sld X w A_l l.length c_l 1 (l.flatMap (fun x => [Value.int .i64 x]))) :
    Fn Try.prog 78 [.slice A_l l.length c_l] w fun v w' => v = .int .i64 (cmpOr_m l) ∧ Fr [] w w' := by
  refine Fn_of 18 Ty.en_78 Try.func78 rfl rfl rfl ?_
  dsimp only [argEnv]
  have st : St X w [] [kS A_l l.length c_l 1 (l.flatMap (fun x => [Value.int .i64 x]))] := (St.nil (X := X) (w := w) hX).addK (kS A_l l.length c_l 1 (l.flatMap (fun x => [Value.int .i64 x]))) h_l
  have hF := Fr.refl ([]) w
  have hleA_l := (st.k (i := 0) rfl).le
  refine Wp_seq fun K1 hK1 => ?_
  refine Wp_region (Las rfl rfl rfl rfl rfl (Ls_nil (Th_n (hK1 _ _ ?_))))
  refine Wp_seq fun K2 hK2 => ?_
  refine Wp_region (Las rfl rfl rfl rfl rfl (Ls_nil (Th_n (hK2 _ _ ?_))))
  refine Wp_seq fun K3 hK3 => ?_
  refine Wp_seq fun K4 hK4 => ?_
  refine Wp_region (Lmv rfl rfl rfl rfl rfl (Ls_y (wtd0 rfl) rfl rfl (y_lenl rfl rfl Try.underlying142) ?_))
  refine Lmv rfl rfl rfl rfl rfl (Ls_nil (Th_n (hK4 _ _ ?_)))
  refine Wp_block (use_out hK3 (fun E W => ∃ (s8 : Int), E = [(3, .int .i64 0), (6, .slice A_l l.length c_l), (7, .int .i64 (l.length : Int)), (8, .int .i64 s8)] ∧ cmpOr_L1 l (((l.length : Int) - (0 : Int)).toNat + 1) (0 : Int) = .inr (s8) ∧ (0 ≤ s8) ∧ St X W [] [kS A_l l.length c_l 1 (l.flatMap (fun x => [Value.int .i64 x]))] ∧ Fr ([]) w W) ?_ fun hout1 => ?_)
  · rintro E w1 ⟨s8, rfl, hLk1, hinv, st, hF⟩
    refine Wp_seq fun K5 hK5 => ?_
    refine Wp_region (Lmv rfl rfl rfl rfl rfl (Las rfl rfl rfl rfl rfl (Ls_nil (Th_n (hK5 _ _ ?_)))))
    refine Wp_ret (Fq_ret (Res1 rfl rfl) ?_)
    have he1 : cmpOr_m l = 0 := by unfold cmpOr_m; rewrite [hLk1]; (try dsimp only); all_goals rfl
    rewrite [he1]
    exact ⟨rfl, hF⟩
  refine Wp_loopE (fun m E W => ∃ (s8 : Int), E = [(3, .int .i64 0), (6, .slice A_l l.length c_l), (7, .int .i64 (l.length : Int)), (8, .int .i64 s8)] ∧ cmpOr_L1 l m s8 = cmpOr_L1 l (((l.length : Int) - (0 : Int)).toNat + 1) (0 : Int) ∧ ((l.length : Int) - s8).toNat < m ∧ (0 ≤ s8) ∧ St X W [] [kS A_l l.length c_l 1 (l.flatMap (fun x => [Value.int .i64 x]))] ∧ Fr ([]) w W) (((l.length : Int) - (0 : Int)).toNat + 1) [(3, _), (6, _), (7, _), (8, _)] ⟨rfl, rfl, rfl, rfl, trivial⟩ ?_ ?_
  · exact ⟨_, rfl, rfl, Nat.lt_succ_self _, by first | omega | (simp; done) | (simp; omega), st, hF⟩
  rintro m E w2 ⟨s8, rfl, hL1, hmu, hinv, st, hF⟩
  obtain ⟨fuel, rfl⟩ : ∃ q, m = q + 1 := ⟨m - 1, by omega⟩
  refine Wp_seq fun K6 hK6 => ?_
  refine Wp_region (Ls_y (wtd0 rfl) rfl rfl (y_lt rfl rfl rfl) (Ls_nil (Th_n (hK6 _ _ ?_))))
  refine Wp_seq fun K7 hK7 => ?_
  refine Wp_cond rfl (fun hc1 => ?_) (fun hc1 => ?_)
  · have hc1 := dT hc1
    refine Wp_skip (Th_n (hK7 _ _ ?_))
    refine Wp_seq fun K8 hK8 => ?_
    refine Wp_block (Wp_seq fun K9 hK9 => ?_)
    refine Wp_region ?_
    obtain ⟨gi1, bi1, egi1⟩ := (st.k (i := 0) rfl).addr (fun _ => rfl) (by decide) (q := s8) (by first | omega | (simp; done) | (simp; omega)) (by first | omega | (simp; done) | (simp; omega))
    subst egi1
    refine Ls_y (wtd0 rfl) rfl rfl (y_ixa (q := s8) rfl rfl rfl Ty.es_142 (by first | omega | (simp; done) | (simp; omega)) (by first | omega | (simp; done) | (simp; omega))) ?_
    refine Ls_y (wtd0 rfl) rfl rfl (y_ldk1 (q := s8) 0 rfl rfl Ty.pl_3 (fun _ e => e ▸ st.k (i := 0) rfl) (fun _ => rfl) (by first | omega | (simp; done) | (simp; omega)) (by first | omega | (simp; done) | (simp; omega)) rfl) ?_
    refine Las rfl rfl rfl rfl rfl (Ls_nil (Th_n (hK9 _ _ ?_)))
    refine Wp_seq fun K10 hK10 => ?_
    refine Wp_region (Lmv rfl rfl rfl rfl rfl (Lmv rfl rfl rfl rfl rfl (Ls_y (wtd0 rfl) rfl rfl (y_ne rfl rfl rfl) (Ls_nil (Th_n (hK10 _ _ ?_))))))
    refine Wp_cond rfl (fun hc2 => ?_) (fun hc2 => ?_)
    · have hc2 := neT hc2
      refine Wp_seq fun K11 hK11 => ?_
      refine Wp_region (Lmv rfl rfl rfl rfl rfl (Las rfl rfl rfl rfl rfl (Ls_nil (Th_n (hK11 _ _ ?_)))))
      refine Wp_ret (Ib_r (Th_r (Th_r (Ib_r (Th_r (Fq_ret (Res1 rfl rfl) ?_))))))
      have hret1 : cmpOr_L1 l (((l.length : Int) - (0 : Int)).toNat + 1) (0 : Int) = .inl (ix l s8) := by rewrite [← hL1, cmpOr_L1]; rewrite [if_pos hc1, if_neg hc2]; rfl
      have he2 : cmpOr_m l = (ix l s8) := by unfold cmpOr_m; rewrite [hret1]; (try dsimp only); all_goals rfl
      rewrite [he2]
      exact ⟨rfl, hF⟩
    have hc2 := neF hc2
    refine Wp_skip (Ib_n (Th_n (hK8 _ _ ?_)))
    refine Wp_region (Ls_y (wtd0 rfl) rfl rfl (y_add (c := s8 + 1) rfl rfl rfl (wf_i64 (by first | omega | (simp; done) | (simp; omega)))) ?_)
    refine Lmv rfl rfl rfl rfl rfl (Ls_nil (Th_n (?_)))
    have hE1 : cmpOr_L1 l fuel (s8 + 1) = cmpOr_L1 l (((l.length : Int) - (0 : Int)).toNat + 1) (0 : Int) := by rewrite [← hL1, cmpOr_L1]; rewrite [if_pos hc1, if_pos hc2]; rfl
    exact ⟨fuel, [(3, _), (6, _), (7, _), (8, _)], Nat.lt_succ_self _, ⟨rfl, rfl, rfl, rfl, trivial⟩, (s8 + 1), rfl, hE1, by first | omega | (simp; done) | (simp; omega), by first | omega | (simp; done) | (simp; omega), (st.picks [] (by decide)).pickK [0], hF⟩
  have hc1 := dF hc1
  refine Wp_exit (Th_e (Th_e (Ib_hit (Th_n (?_)))))
  have hE2 : cmpOr_L1 l (((l.length : Int) - (0 : Int)).toNat + 1) (0 : Int) = .inr (s8) := by rewrite [← hL1, cmpOr_L1]; rewrite [if_neg hc1]; rfl
  exact hout1 _ [(3, _), (6, _), (7, _), (8, _)] _ ⟨rfl, rfl, rfl, rfl, trivial⟩ ⟨s8, rfl, hE2, by first | omega | (simp; done) | (simp; omega), (st.picks [] (by decide)).pickK [0], hF⟩

def icheck_c1 (id : IdM) : Bool :=
  (if id.origin < 0 then true else (if 8 ≤ id.origin then true else (if id.seq = 0 then true else decide (1048576 < id.seq))))
def icheck_m (id : IdM) : Int :=
  if (icheck_c1 id) = true then
    2
  else
    0

theorem icheck_c1_iff (id : IdM) : (icheck_c1 id = true) ↔ ((id.origin < 0) ∨ ((8 ≤ id.origin) ∨ ((id.seq = 0) ∨ (1048576 < id.seq)))) := by
  unfold icheck_c1; exact (ci1 (ci1 (ci1 decide_eq_true_iff)))

set_option maxRecDepth 20000 in
theorem icheck_ok (w : World) (id : IdM) :
    Fn Try.prog 53 [.agg (idMC id).toArray] w fun v w' => v = .int .i64 (icheck_m id) ∧ Fr [] w w' := by
  refine Fn_of 21 Ty.en_53 Try.func53 rfl rfl rfl ?_
  dsimp only [argEnv]
  have st : St [] w [] [] := St.nil (X := []) (w := w) (by simp [Lo])
  have hF := Fr.refl ([]) w
  refine Wp_seq fun K1 hK1 => ?_
  refine Wp_region (Ls_a (wtd0 rfl) ?_)
  refine a_box rfl rfl rfl rfl st.hp (fun g1 w1 (hp : Hp w1 [(_, Cl [_, _] _)]) hf hg1 => ?_)
  have st : St [] w1 [(_, Cl [_, _] _)] [] := st.push hp hf hg1
  have hg1 := Nat.le_trans hF.size hg1
  have hF := hF.step0 hf
  refine Las rfl rfl rfl rfl rfl (Ls_nil (Th_n (hK1 _ _ ?_)))
  refine Wp_seq fun K2 hK2 => ?_
  refine Wp_seq fun K3 hK3 => ?_
  refine use_out hK3 (fun E W => E = [(20, .bool (icheck_c1 id))] ∧ St [] W (hOf st) (kOf st) ∧ Fr ([]) w W) ?_ fun hout1 => ?_
  · rintro E w2 ⟨rfl, st, hF⟩
    have st : St [] w2 [(_, Cl [_, _] _)] [] := st
    refine Wp_cond rfl (fun hc1 => ?_) (fun hc1 => ?_)
    · have jhc1 := (icheck_c1_iff id).1 hc1
      refine Wp_seq fun K4 hK4 => ?_
      refine Wp_region (Las rfl rfl rfl rfl rfl (Ls_nil (Th_n (hK4 _ _ ?_))))
      refine Wp_ret (Th_r (Fq_ret (Res1 rfl rfl) ?_))
      have he1 : icheck_m id = 2 := by unfold icheck_m; rewrite [if_pos hc1]; rfl
      rewrite [he1]
      exact ⟨rfl, hF⟩
    have jhc1 := mt (icheck_c1_iff id).2 (bF hc1)
    have hc1 := bF hc1
    refine Wp_skip (Th_n (hK2 _ _ ?_))
    refine Wp_seq fun K5 hK5 => ?_
    refine Wp_region (Las rfl rfl rfl rfl rfl (Ls_nil (Th_n (hK5 _ _ ?_))))
    refine Wp_ret (Fq_ret (Res1 rfl rfl) ?_)
    have he2 : icheck_m id = 0 := by unfold icheck_m; rewrite [if_neg hc1]; rfl
    rewrite [he2]
    exact ⟨rfl, hF⟩
  refine Wp_region (Ls_y (wtd0 rfl) rfl rfl (y_fld rfl rfl Ty.fo_41_0) (Ls_y (wtd0 rfl) rfl rfl (y_load (i := 0) rfl rfl Ty.pl_3 (fun _ e => e ▸ st.hp) rfl rfl) ?_))
  refine Ls_y (wtd0 rfl) rfl rfl (y_lt rfl rfl rfl) (Lmv rfl rfl rfl rfl rfl (Ls_bool 6 rfl (fun hc2 => ?_) (fun hc2 => ?_)))
  · have hc2 := dT hc2
    refine Ls_s (wtdF rfl rfl rfl) rfl rfl (Ls_s (wtdF rfl rfl rfl) rfl rfl (Ls_s (wtdF rfl rfl rfl) rfl rfl (Ls_y (wtd0 rfl) rfl rfl (y_pick_t rfl rfl rfl) (Lmv rfl rfl rfl rfl rfl (Ls_s (wtdF rfl rfl rfl) rfl rfl (Ls_s (wtdF rfl rfl rfl) rfl rfl (Ls_s (wtdF rfl rfl rfl) rfl rfl (Ls_y (wtd0 rfl) rfl rfl (y_pick_t rfl rfl rfl) (Lmv rfl rfl rfl rfl rfl (Ls_s (wtdF rfl rfl rfl) rfl rfl (Ls_s (wtdF rfl rfl rfl) rfl rfl (Ls_s (wtdF rfl rfl rfl) rfl rfl (Ls_y (wtd0 rfl) rfl rfl (y_pick_t rfl rfl rfl) (Ls_nil (Th_n (?_))))))))))))))))
    have hcj1 : icheck_c1 id = true := by unfold icheck_c1; rewrite [if_pos hc2]; rfl
    exact hout1 _ [(20, _)] _ ⟨rfl, trivial⟩ ⟨by rw [hcj1], (st.picks [0] (by decide)).pickK [], hF⟩
  have hc2 := dF hc2
  refine Ls_y (wtdT rfl rfl rfl) rfl rfl (y_fld rfl rfl Ty.fo_41_0) (Ls_y (wtdT rfl rfl rfl) rfl rfl (y_load (i := 0) rfl rfl Ty.pl_3 (fun _ e => e ▸ st.hp) rfl rfl) ?_)
  refine Ls_y (wtdT rfl rfl rfl) rfl rfl (y_ge rfl rfl rfl) (Ls_y (wtd0 rfl) rfl rfl (y_pick_f rfl rfl rfl) (Lmv rfl rfl rfl rfl rfl (Ls_bool 11 rfl (fun hc3 => ?_) (fun hc3 => ?_))))
  · have hc3 := dT hc3
    refine Ls_s (wtdF rfl rfl rfl) rfl rfl (Ls_s (wtdF rfl rfl rfl) rfl rfl (Ls_s (wtdF rfl rfl rfl) rfl rfl (Ls_y (wtd0 rfl) rfl rfl (y_pick_t rfl rfl rfl) (Lmv rfl rfl rfl rfl rfl (Ls_s (wtdF rfl rfl rfl) rfl rfl (Ls_s (wtdF rfl rfl rfl) rfl rfl (Ls_s (wtdF rfl rfl rfl) rfl rfl (Ls_y (wtd0 rfl) rfl rfl (y_pick_t rfl rfl rfl) (Ls_nil (Th_n (?_)))))))))))
    have hcj2 : icheck_c1 id = true := by unfold icheck_c1; rewrite [if_neg hc2, if_pos hc3]; rfl
    exact hout1 _ [(20, _)] _ ⟨rfl, trivial⟩ ⟨by rw [hcj2], (st.picks [0] (by decide)).pickK [], hF⟩
  have hc3 := dF hc3
  refine Ls_y (wtdT rfl rfl rfl) rfl rfl (y_fld rfl rfl Ty.fo_41_1) (Ls_y (wtdT rfl rfl rfl) rfl rfl (y_load (i := 0) rfl rfl Ty.pl_22 (fun _ e => e ▸ st.hp) rfl rfl) ?_)
  refine Ls_y (wtdT rfl rfl rfl) rfl rfl (y_eq rfl rfl rfl) (Ls_y (wtd0 rfl) rfl rfl (y_pick_f rfl rfl rfl) (Lmv rfl rfl rfl rfl rfl (Ls_bool 16 rfl (fun hc4 => ?_) (fun hc4 => ?_))))
  · have hc4 := eT hc4
    refine Ls_s (wtdF rfl rfl rfl) rfl rfl (Ls_s (wtdF rfl rfl rfl) rfl rfl (Ls_s (wtdF rfl rfl rfl) rfl rfl (Ls_y (wtd0 rfl) rfl rfl (y_pick_t rfl rfl rfl) (Ls_nil (Th_n (?_))))))
    have hcj3 : icheck_c1 id = true := by unfold icheck_c1; rewrite [if_neg hc2, if_neg hc3, if_pos hc4]; rfl
    exact hout1 _ [(20, _)] _ ⟨rfl, trivial⟩ ⟨by rw [hcj3], (st.picks [0] (by decide)).pickK [], hF⟩
  have hc4 := eF hc4
  refine Ls_y (wtdT rfl rfl rfl) rfl rfl (y_fld rfl rfl Ty.fo_41_1) (Ls_y (wtdT rfl rfl rfl) rfl rfl (y_load (i := 0) rfl rfl Ty.pl_22 (fun _ e => e ▸ st.hp) rfl rfl) ?_)
  refine Ls_y (wtdT rfl rfl rfl) rfl rfl (y_gt rfl rfl rfl) (Ls_y (wtd0 rfl) rfl rfl (y_pick_f rfl rfl rfl) (Ls_nil (Th_n (?_))))
  have hcj4 : icheck_c1 id = (decide (1048576 < id.seq)) := by unfold icheck_c1; rewrite [if_neg hc2, if_neg hc3, if_neg hc4]; rfl
  exact hout1 _ [(20, _)] _ ⟨rfl, trivial⟩ ⟨by rw [hcj4], (st.picks [0] (by decide)).pickK [], hF⟩

def icheckTag_c1 (t : TagM) : Bool :=
  (if t.n < 0 then true else decide (16 ≤ t.n))
def icheckTag_m (t : TagM) : Int :=
  if (icheckTag_c1 t) = true then
    2
  else
    icheck_m t.id

theorem icheckTag_c1_iff (t : TagM) : (icheckTag_c1 t = true) ↔ ((t.n < 0) ∨ (16 ≤ t.n)) := by
  unfold icheckTag_c1; exact (ci1 decide_eq_true_iff)

set_option maxRecDepth 20000 in
theorem icheckTag_ok (w : World) (t : TagM) :
    Fn Try.prog 43 [.agg (tagMC t).toArray] w fun v w' => v = .int .i64 (icheckTag_m t) ∧ Fr [] w w' := by
  refine Fn_of 14 Ty.en_43 Try.func43 rfl rfl rfl ?_
  dsimp only [argEnv]
  have st : St [] w [] [] := St.nil (X := []) (w := w) (by simp [Lo])
  have hF := Fr.refl ([]) w
  refine Wp_seq fun K1 hK1 => ?_
  refine Wp_region (Ls_a (wtd0 rfl) ?_)
  refine a_box rfl rfl rfl rfl st.hp (fun g1 w1 (hp : Hp w1 [(_, Cl [_, _, _] _)]) hf hg1 => ?_)
  have st : St [] w1 [(_, Cl [_, _, _] _)] [] := st.push hp hf hg1
  have hg1 := Nat.le_trans hF.size hg1
  have hF := hF.step0 hf
  refine Las rfl rfl rfl rfl rfl (Ls_nil (Th_n (hK1 _ _ ?_)))
  refine Wp_seq fun K2 hK2 => ?_
  refine Wp_seq fun K3 hK3 => ?_
  refine use_out hK3 (fun E W => E = [(1, .pointer (some ⟨g1, 0, none⟩)), (10, .bool (icheckTag_c1 t))] ∧ St [] W (hOf st) (kOf st) ∧ Fr ([]) w W) ?_ fun hout1 => ?_
  · rintro E w2 ⟨rfl, st, hF⟩
    have st : St [] w2 [(_, Cl [_, _, _] _)] [] := st
    refine Wp_cond rfl (fun hc1 => ?_) (fun hc1 => ?_)
    · have jhc1 := (icheckTag_c1_iff t).1 hc1
      refine Wp_seq fun K4 hK4 => ?_
      refine Wp_region (Las rfl rfl rfl rfl rfl (Ls_nil (Th_n (hK4 _ _ ?_))))
      refine Wp_ret (Th_r (Fq_ret (Res1 rfl rfl) ?_))
      have he1 : icheckTag_m t = 2 := by unfold icheckTag_m; rewrite [if_pos hc1]; rfl
      rewrite [he1]
      exact ⟨rfl, hF⟩
    have jhc1 := mt (icheckTag_c1_iff t).2 (bF hc1)
    have hc1 := bF hc1
    refine Wp_skip (Th_n (hK2 _ _ ?_))
    refine Wp_seq fun K5 hK5 => ?_
    refine Wp_region (Ls_y (wtd0 rfl) rfl rfl (y_fld rfl rfl Ty.fo_43_0) (Ls_y (wtd0 rfl) rfl rfl (y_loadm (i := 0) rfl rfl Ty.ag_41 (fun _ e => e ▸ st.hp) rfl rfl rfl) ?_))
    refine Ls_a (wtd0 rfl) ?_
    refine a_call rfl rfl rfl rfl (icheck_ok _ t.id) (fun v w3 ⟨hv, hf⟩ => ?_)
    subst hv
    have st := st.keep0 hf
    have hF := hF.step0 hf
    have st : St [] w3 [(_, Cl [_, _, _] _)] [] := st
    refine Las rfl rfl rfl rfl rfl (Ls_nil (Th_n (hK5 _ _ ?_)))
    refine Wp_ret (Fq_ret (Res1 rfl rfl) ?_)
    have he2 : icheckTag_m t = (icheck_m t.id) := by unfold icheckTag_m; rewrite [if_neg hc1]; rfl
    rewrite [he2]
    exact ⟨rfl, hF⟩
  refine Wp_region (Ls_y (wtd0 rfl) rfl rfl (y_fld rfl rfl Ty.fo_43_1) (Ls_y (wtd0 rfl) rfl rfl (y_load (i := 0) rfl rfl Ty.pl_3 (fun _ e => e ▸ st.hp) rfl rfl) ?_))
  refine Ls_y (wtd0 rfl) rfl rfl (y_lt rfl rfl rfl) (Lmv rfl rfl rfl rfl rfl (Ls_bool 6 rfl (fun hc2 => ?_) (fun hc2 => ?_)))
  · have hc2 := dT hc2
    refine Ls_s (wtdF rfl rfl rfl) rfl rfl (Ls_s (wtdF rfl rfl rfl) rfl rfl (Ls_s (wtdF rfl rfl rfl) rfl rfl (Ls_y (wtd0 rfl) rfl rfl (y_pick_t rfl rfl rfl) (Ls_nil (Th_n (?_))))))
    have hcj1 : icheckTag_c1 t = true := by unfold icheckTag_c1; rewrite [if_pos hc2]; rfl
    exact hout1 _ [(1, _), (10, _)] _ ⟨rfl, rfl, trivial⟩ ⟨by rw [hcj1], (st.picks [0] (by decide)).pickK [], hF⟩
  have hc2 := dF hc2
  refine Ls_y (wtdT rfl rfl rfl) rfl rfl (y_fld rfl rfl Ty.fo_43_1) (Ls_y (wtdT rfl rfl rfl) rfl rfl (y_load (i := 0) rfl rfl Ty.pl_3 (fun _ e => e ▸ st.hp) rfl rfl) ?_)
  refine Ls_y (wtdT rfl rfl rfl) rfl rfl (y_ge rfl rfl rfl) (Ls_y (wtd0 rfl) rfl rfl (y_pick_f rfl rfl rfl) (Ls_nil (Th_n (?_))))
  have hcj2 : icheckTag_c1 t = (decide (16 ≤ t.n)) := by unfold icheckTag_c1; rewrite [if_neg hc2]; rfl
  exact hout1 _ [(1, _), (10, _)] _ ⟨rfl, rfl, trivial⟩ ⟨by rw [hcj2], (st.picks [0] (by decide)).pickK [], hF⟩

def icompare_m (a : IdM) (b : IdM) : Int :=
  cmpOr_m [cmpI_m a.origin b.origin, cmpU_m a.seq b.seq]


set_option maxRecDepth 20000 in
theorem icompare_ok (w : World) (a : IdM) (b : IdM) :
    Fn Try.prog 79 [.agg (idMC a).toArray, .agg (idMC b).toArray] w fun v w' => v = .int .i64 (icompare_m a b) ∧ Fr [] w w' := by
  refine Fn_of 17 Ty.en_79 Try.func79 rfl rfl rfl ?_
  dsimp only [argEnv]
  have st : St [] w [] [] := St.nil (X := []) (w := w) (by simp [Lo])
  have hF := Fr.refl ([]) w
  refine Wp_seq fun K1 hK1 => ?_
  refine Wp_region (Ls_a (wtd0 rfl) ?_)
  refine a_box rfl rfl rfl rfl st.hp (fun g1 w1 (hp : Hp w1 [(_, Cl [_, _] _)]) hf hg1 => ?_)
  have st : St [] w1 [(_, Cl [_, _] _)] [] := st.push hp hf hg1
  have hg1 := Nat.le_trans hF.size hg1
  have hF := hF.step0 hf
  refine Ls_a (wtd0 rfl) ?_
  refine a_box rfl rfl rfl rfl st.hp (fun g2 w2 (hp : Hp w2 [(_, Cl [_, _] _), (_, Cl [_, _] _)]) hf hg2 => ?_)
  have st : St [] w2 [(_, Cl [_, _] _), (_, Cl [_, _] _)] [] := st.push hp hf hg2
  have hg2 := Nat.le_trans hF.size hg2
  have hF := hF.step0 hf
  refine Las rfl rfl rfl rfl rfl (Ls_nil (Th_n (hK1 _ _ ?_)))
  refine Wp_seq fun K2 hK2 => ?_
  refine Wp_plan (fun W => St [] W (pickL (hOf st) [0, 1]) (kOf st)) [(true, 0), (true, 1), (true, 2), (true, 3), (true, 5), (true, 6), (true, 7), (true, 8), (false, 4), (false, 9), (false, 10), (false, 11), (true, 12)] Ty.mx_0 (by kernel_rfl) (by kernel_rfl) rfl ((st.picks [0, 1] (by decide)).drew) ?_
  have st := st.drew
  have hF := hF.step0 (Fr.drew _)
  refine Pl_y rfl (wtd0 rfl) rfl rfl (y_fld rfl rfl Ty.fo_41_0) (Pl_y rfl (wtd0 rfl) rfl rfl (y_load (i := 0) rfl rfl Ty.pl_3 (fun _ h => h.hp) rfl rfl) ?_)
  refine Pl_y rfl (wtd0 rfl) rfl rfl (y_fld rfl rfl Ty.fo_41_0) (Pl_y rfl (wtd0 rfl) rfl rfl (y_load (i := 1) rfl rfl Ty.pl_3 (fun _ h => h.hp) rfl rfl) ?_)
  refine Pl_y rfl (wtd0 rfl) rfl rfl (y_fld rfl rfl Ty.fo_41_1) (Pl_y rfl (wtd0 rfl) rfl rfl (y_load (i := 0) rfl rfl Ty.pl_22 (fun _ h => h.hp) rfl rfl) ?_)
  refine Pl_y rfl (wtd0 rfl) rfl rfl (y_fld rfl rfl Ty.fo_41_1) (Pl_y rfl (wtd0 rfl) rfl rfl (y_load (i := 1) rfl rfl Ty.pl_22 (fun _ h => h.hp) rfl rfl) ?_)
  refine Pl_a rfl (wtd0 rfl) (by rfl) ?_
  refine a_call rfl rfl rfl rfl (cmpI_ok _ a.origin b.origin) (fun v w3 ⟨hv, hf⟩ => ?_)
  subst hv
  have st := st.keep0 hf
  have hF := hF.step0 hf
  have st : St [] w3 [(_, Cl [_, _] _), (_, Cl [_, _] _)] [] := st
  refine ⟨(st.picks [0, 1] (by decide)).takeK 0, ?_⟩
  refine Pl_a rfl (wtd0 rfl) (by rfl) ?_
  refine a_call rfl rfl rfl rfl (cmpU_ok _ a.seq b.seq) (fun v w4 ⟨hv, hf⟩ => ?_)
  subst hv
  have st := st.keep0 hf
  have hF := hF.step0 hf
  have st : St [] w4 [(_, Cl [_, _] _), (_, Cl [_, _] _)] [] := st
  refine ⟨(st.picks [0, 1] (by decide)).takeK 0, ?_⟩
  refine Pl_a rfl (wtd0 rfl) (by rfl) ?_
  refine a_bsl rfl rfl rfl rfl rfl Ty.es_142 Ty.zc_3 rfl (by decide) (by simp [Value.cells]) st.hp (fun g3 w5 (hp : Hp w5 [(_, Cl [_, _] _), (_, Cl [_, _] _), _]) hf hg3 => ?_)
  have how1 : Ow (some ⟨g3, 0, none⟩) [cmpI_m a.origin b.origin, cmpU_m a.seq b.seq].length 2 1 ([cmpI_m a.origin b.origin, cmpU_m a.seq b.seq].flatMap (fun x => [Value.int .i64 x])) [] := ⟨rfl, .inr ⟨g3, rfl, rfl, Nat.le_refl _, by unfold maxLen; decide⟩⟩
  have st : St [] w5 [(_, Cl [_, _] _), (_, Cl [_, _] _), _] [] := st.push hp hf hg3
  have st : St [] w5 [(_, Cl [_, _] _), (_, Cl [_, _] _), _] [] := st
  have hg3 := Nat.le_trans hF.size hg3
  have hF := hF.step0 hf
  have hnew1 : ∀ g, blkOf (some ⟨g3, 0, none⟩) = some g → g ∈ ([]) ∨ w.heap.size ≤ g := fun g hg => by simp [blkOf] at hg; subst hg; exact .inr hg3
  refine ⟨(st.picks [0, 1] (by decide)).takeK 0, ?_⟩
  refine Pl_a rfl (wtd0 rfl) (by rfl) ?_
  refine a_call rfl rfl rfl rfl (cmpOr_ok (keys (pickL (hOf st) [0, 1]) ++ []) _ (st.sub [0, 1] [] [] (by decide)).lo [cmpI_m a.origin b.origin, cmpU_m a.seq b.seq] (some ⟨g3, 0, none⟩) 2 ((st.freeze (i := 2) [0, 1] (by decide) rfl how1 (by decide)).k (i := 0) rfl)) (fun v w6 ⟨hv, hf⟩ => ?_)
  subst hv
  have st := st.keep0 hf
  have hF := hF.step0 hf
  have st : St [] w6 [(_, Cl [_, _] _), (_, Cl [_, _] _), _] [] := st
  refine ⟨(st.picks [0, 1] (by decide)).takeK 0, ?_⟩
  refine Pl_y rfl (wtd0 rfl) rfl rfl (y_assign rfl rfl) (Pl_nil (Th_n (hK2 _ _ ?_)))
  refine Wp_ret (Fq_ret (Res1 rfl rfl) ?_)
  have he1 : icompare_m a b = (cmpOr_m [cmpI_m a.origin b.origin, cmpU_m a.seq b.seq]) := by unfold icompare_m; rfl
  rewrite [he1]
  exact ⟨rfl, hF⟩

def icompareTag_m (a : TagM) (b : TagM) : Int :=
  cmpOr_m [icompare_m a.id b.id, cmpI_m a.n b.n]


set_option maxRecDepth 20000 in
theorem icompareTag_ok (w : World) (a : TagM) (b : TagM) :
    Fn Try.prog 63 [.agg (tagMC a).toArray, .agg (tagMC b).toArray] w fun v w' => v = .int .i64 (icompareTag_m a b) ∧ Fr [] w w' := by
  refine Fn_of 17 Ty.en_63 Try.func63 rfl rfl rfl ?_
  dsimp only [argEnv]
  have st : St [] w [] [] := St.nil (X := []) (w := w) (by simp [Lo])
  have hF := Fr.refl ([]) w
  refine Wp_seq fun K1 hK1 => ?_
  refine Wp_region (Ls_a (wtd0 rfl) ?_)
  refine a_box rfl rfl rfl rfl st.hp (fun g1 w1 (hp : Hp w1 [(_, Cl [_, _, _] _)]) hf hg1 => ?_)
  have st : St [] w1 [(_, Cl [_, _, _] _)] [] := st.push hp hf hg1
  have hg1 := Nat.le_trans hF.size hg1
  have hF := hF.step0 hf
  refine Ls_a (wtd0 rfl) ?_
  refine a_box rfl rfl rfl rfl st.hp (fun g2 w2 (hp : Hp w2 [(_, Cl [_, _, _] _), (_, Cl [_, _, _] _)]) hf hg2 => ?_)
  have st : St [] w2 [(_, Cl [_, _, _] _), (_, Cl [_, _, _] _)] [] := st.push hp hf hg2
  have hg2 := Nat.le_trans hF.size hg2
  have hF := hF.step0 hf
  refine Las rfl rfl rfl rfl rfl (Ls_nil (Th_n (hK1 _ _ ?_)))
  refine Wp_seq fun K2 hK2 => ?_
  refine Wp_plan (fun W => St [] W (pickL (hOf st) [0, 1]) (kOf st)) [(true, 0), (true, 1), (true, 2), (true, 3), (true, 5), (true, 6), (true, 7), (true, 8), (false, 4), (false, 9), (false, 10), (false, 11), (true, 12)] Ty.mx_0 (by kernel_rfl) (by kernel_rfl) rfl ((st.picks [0, 1] (by decide)).drew) ?_
  have st := st.drew
  have hF := hF.step0 (Fr.drew _)
  refine Pl_y rfl (wtd0 rfl) rfl rfl (y_fld rfl rfl Ty.fo_43_0) (Pl_y rfl (wtd0 rfl) rfl rfl (y_loadm (i := 0) rfl rfl Ty.ag_41 (fun _ h => h.hp) rfl rfl rfl) ?_)
  refine Pl_y rfl (wtd0 rfl) rfl rfl (y_fld rfl rfl Ty.fo_43_0) (Pl_y rfl (wtd0 rfl) rfl rfl (y_loadm (i := 1) rfl rfl Ty.ag_41 (fun _ h => h.hp) rfl rfl rfl) ?_)
  refine Pl_y rfl (wtd0 rfl) rfl rfl (y_fld rfl rfl Ty.fo_43_1) (Pl_y rfl (wtd0 rfl) rfl rfl (y_load (i := 0) rfl rfl Ty.pl_3 (fun _ h => h.hp) rfl rfl) ?_)
  refine Pl_y rfl (wtd0 rfl) rfl rfl (y_fld rfl rfl Ty.fo_43_1) (Pl_y rfl (wtd0 rfl) rfl rfl (y_load (i := 1) rfl rfl Ty.pl_3 (fun _ h => h.hp) rfl rfl) ?_)
  refine Pl_a rfl (wtd0 rfl) (by rfl) ?_
  refine a_call rfl rfl rfl rfl (icompare_ok _ a.id b.id) (fun v w3 ⟨hv, hf⟩ => ?_)
  subst hv
  have st := st.keep0 hf
  have hF := hF.step0 hf
  have st : St [] w3 [(_, Cl [_, _, _] _), (_, Cl [_, _, _] _)] [] := st
  refine ⟨(st.picks [0, 1] (by decide)).takeK 0, ?_⟩
  refine Pl_a rfl (wtd0 rfl) (by rfl) ?_
  refine a_call rfl rfl rfl rfl (cmpI_ok _ a.n b.n) (fun v w4 ⟨hv, hf⟩ => ?_)
  subst hv
  have st := st.keep0 hf
  have hF := hF.step0 hf
  have st : St [] w4 [(_, Cl [_, _, _] _), (_, Cl [_, _, _] _)] [] := st
  refine ⟨(st.picks [0, 1] (by decide)).takeK 0, ?_⟩
  refine Pl_a rfl (wtd0 rfl) (by rfl) ?_
  refine a_bsl rfl rfl rfl rfl rfl Ty.es_142 Ty.zc_3 rfl (by decide) (by simp [Value.cells]) st.hp (fun g3 w5 (hp : Hp w5 [(_, Cl [_, _, _] _), (_, Cl [_, _, _] _), _]) hf hg3 => ?_)
  have how1 : Ow (some ⟨g3, 0, none⟩) [icompare_m a.id b.id, cmpI_m a.n b.n].length 2 1 ([icompare_m a.id b.id, cmpI_m a.n b.n].flatMap (fun x => [Value.int .i64 x])) [] := ⟨rfl, .inr ⟨g3, rfl, rfl, Nat.le_refl _, by unfold maxLen; decide⟩⟩
  have st : St [] w5 [(_, Cl [_, _, _] _), (_, Cl [_, _, _] _), _] [] := st.push hp hf hg3
  have st : St [] w5 [(_, Cl [_, _, _] _), (_, Cl [_, _, _] _), _] [] := st
  have hg3 := Nat.le_trans hF.size hg3
  have hF := hF.step0 hf
  have hnew1 : ∀ g, blkOf (some ⟨g3, 0, none⟩) = some g → g ∈ ([]) ∨ w.heap.size ≤ g := fun g hg => by simp [blkOf] at hg; subst hg; exact .inr hg3
  refine ⟨(st.picks [0, 1] (by decide)).takeK 0, ?_⟩
  refine Pl_a rfl (wtd0 rfl) (by rfl) ?_
  refine a_call rfl rfl rfl rfl (cmpOr_ok (keys (pickL (hOf st) [0, 1]) ++ []) _ (st.sub [0, 1] [] [] (by decide)).lo [icompare_m a.id b.id, cmpI_m a.n b.n] (some ⟨g3, 0, none⟩) 2 ((st.freeze (i := 2) [0, 1] (by decide) rfl how1 (by decide)).k (i := 0) rfl)) (fun v w6 ⟨hv, hf⟩ => ?_)
  subst hv
  have st := st.keep0 hf
  have hF := hF.step0 hf
  have st : St [] w6 [(_, Cl [_, _, _] _), (_, Cl [_, _, _] _), _] [] := st
  refine ⟨(st.picks [0, 1] (by decide)).takeK 0, ?_⟩
  refine Pl_y rfl (wtd0 rfl) rfl rfl (y_assign rfl rfl) (Pl_nil (Th_n (hK2 _ _ ?_)))
  refine Wp_ret (Fq_ret (Res1 rfl rfl) ?_)
  have he1 : icompareTag_m a b = (cmpOr_m [icompare_m a.id b.id, cmpI_m a.n b.n]) := by unfold icompareTag_m; rfl
  rewrite [he1]
  exact ⟨rfl, hF⟩

def lthere_m (origin : Int) : Bool :=
  if 0 ≤ origin then
    decide (origin < 8)
  else
    false


set_option maxRecDepth 20000 in
theorem lthere_ok (w : World) (origin : Int) :
    Fn Try.prog 54 [.int .i64 origin] w fun v w' => v = .bool (lthere_m origin) ∧ Fr [] w w' := by
  refine Fn_of 9 Ty.en_54 Try.func54 rfl rfl rfl ?_
  dsimp only [argEnv]
  have st : St [] w [] [] := St.nil (X := []) (w := w) (by simp [Lo])
  have hF := Fr.refl ([]) w
  refine Wp_seq fun K1 hK1 => ?_
  refine Wp_region (Las rfl rfl rfl rfl rfl (Ls_nil (Th_n (hK1 _ _ ?_))))
  refine Wp_seq fun K2 hK2 => ?_
  refine Wp_region (Lmv rfl rfl rfl rfl rfl (Ls_y (wtd0 rfl) rfl rfl (y_ge rfl rfl rfl) (Lmv rfl rfl rfl rfl rfl (Ls_bool 5 rfl (fun hc1 => ?_) (fun hc1 => ?_)))))
  · have hc1 := dT hc1
    refine Ls_y (wtdT rfl rfl rfl) rfl rfl (y_move rfl rfl) (Ls_y (wtdT rfl rfl rfl) rfl rfl (y_lt rfl rfl rfl) (Ls_y (wtd0 rfl) rfl rfl (y_pick_t rfl rfl rfl) (Las rfl rfl rfl rfl rfl (Ls_nil (Th_n (hK2 _ _ ?_))))))
    refine Wp_ret (Fq_ret (Res1 rfl rfl) ?_)
    have he1 : lthere_m origin = (decide (origin < 8)) := by unfold lthere_m; rewrite [if_pos hc1]; rfl
    rewrite [he1]
    exact ⟨rfl, hF⟩
  have hc1 := dF hc1
  refine Ls_s (wtdF rfl rfl rfl) rfl rfl (Ls_s (wtdF rfl rfl rfl) rfl rfl (Ls_y (wtd0 rfl) rfl rfl (y_pick_f rfl rfl rfl) (Las rfl rfl rfl rfl rfl (Ls_nil (Th_n (hK2 _ _ ?_))))))
  refine Wp_ret (Fq_ret (Res1 rfl rfl) ?_)
  have he2 : lthere_m origin = false := by unfold lthere_m; rewrite [if_neg hc1]; rfl
  rewrite [he2]
  exact ⟨rfl, hF⟩

def lcheck_c1 (s : StampM) : Bool :=
  (if 1048576 < s.time then true else !(lthere_m s.origin))
def lcheck_m (s : StampM) : Int :=
  if (lcheck_c1 s) = true then
    2
  else
    0

theorem lcheck_c1_iff (s : StampM) : (lcheck_c1 s = true) ↔ ((1048576 < s.time) ∨ (¬ ((lthere_m s.origin) = true))) := by
  unfold lcheck_c1; exact (ci1 (by simp))

set_option maxRecDepth 20000 in
theorem lcheck_ok (w : World) (s : StampM) :
    Fn Try.prog 44 [.agg (stampMC s).toArray] w fun v w' => v = .int .i64 (lcheck_m s) ∧ Fr [] w w' := by
  refine Fn_of 12 Ty.en_44 Try.func44 rfl rfl rfl ?_
  dsimp only [argEnv]
  have st : St [] w [] [] := St.nil (X := []) (w := w) (by simp [Lo])
  have hF := Fr.refl ([]) w
  refine Wp_seq fun K1 hK1 => ?_
  refine Wp_region (Ls_a (wtd0 rfl) ?_)
  refine a_box rfl rfl rfl rfl st.hp (fun g1 w1 (hp : Hp w1 [(_, Cl [_, _] _)]) hf hg1 => ?_)
  have st : St [] w1 [(_, Cl [_, _] _)] [] := st.push hp hf hg1
  have hg1 := Nat.le_trans hF.size hg1
  have hF := hF.step0 hf
  refine Las rfl rfl rfl rfl rfl (Ls_nil (Th_n (hK1 _ _ ?_)))
  refine Wp_seq fun K2 hK2 => ?_
  refine Wp_seq fun K3 hK3 => ?_
  refine use_out hK3 (fun E W => E = [(11, .bool (lcheck_c1 s))] ∧ St [] W (hOf st) (kOf st) ∧ Fr ([]) w W) ?_ fun hout1 => ?_
  · rintro E w2 ⟨rfl, st, hF⟩
    have st : St [] w2 [(_, Cl [_, _] _)] [] := st
    refine Wp_cond rfl (fun hc1 => ?_) (fun hc1 => ?_)
    · have jhc1 := (lcheck_c1_iff s).1 hc1
      refine Wp_seq fun K4 hK4 => ?_
      refine Wp_region (Las rfl rfl rfl rfl rfl (Ls_nil (Th_n (hK4 _ _ ?_))))
      refine Wp_ret (Th_r (Fq_ret (Res1 rfl rfl) ?_))
      have he1 : lcheck_m s = 2 := by unfold lcheck_m; rewrite [if_pos hc1]; rfl
      rewrite [he1]
      exact ⟨rfl, hF⟩
    have jhc1 := mt (lcheck_c1_iff s).2 (bF hc1)
    have hc1 := bF hc1
    refine Wp_skip (Th_n (hK2 _ _ ?_))
    refine Wp_seq fun K5 hK5 => ?_
    refine Wp_region (Las rfl rfl rfl rfl rfl (Ls_nil (Th_n (hK5 _ _ ?_))))
    refine Wp_ret (Fq_ret (Res1 rfl rfl) ?_)
    have he2 : lcheck_m s = 0 := by unfold lcheck_m; rewrite [if_neg hc1]; rfl
    rewrite [he2]
    exact ⟨rfl, hF⟩
  refine Wp_region (Ls_y (wtd0 rfl) rfl rfl (y_fld rfl rfl Ty.fo_24_0) (Ls_y (wtd0 rfl) rfl rfl (y_load (i := 0) rfl rfl Ty.pl_22 (fun _ e => e ▸ st.hp) rfl rfl) ?_))
  refine Ls_y (wtd0 rfl) rfl rfl (y_gt rfl rfl rfl) (Lmv rfl rfl rfl rfl rfl (Ls_bool 6 rfl (fun hc2 => ?_) (fun hc2 => ?_)))
  · have hc2 := dT hc2
    refine Ls_s (wtdF rfl rfl rfl) rfl rfl (Ls_s (wtdF rfl rfl rfl) rfl rfl (Ls_s (wtdF rfl rfl rfl) rfl rfl (Ls_s (wtdF rfl rfl rfl) rfl rfl (Ls_y (wtd0 rfl) rfl rfl (y_pick_t rfl rfl rfl) (Ls_nil (Th_n (?_)))))))
    have hcj1 : lcheck_c1 s = true := by unfold lcheck_c1; rewrite [if_pos hc2]; rfl
    exact hout1 _ [(11, _)] _ ⟨rfl, trivial⟩ ⟨by rw [hcj1], (st.picks [0] (by decide)).pickK [], hF⟩
  have hc2 := dF hc2
  refine Ls_y (wtdT rfl rfl rfl) rfl rfl (y_fld rfl rfl Ty.fo_24_1) (Ls_y (wtdT rfl rfl rfl) rfl rfl (y_load (i := 0) rfl rfl Ty.pl_3 (fun _ e => e ▸ st.hp) rfl rfl) ?_)
  refine Ls_a (wtdT rfl rfl rfl) ?_
  refine a_call rfl rfl rfl rfl (lthere_ok _ s.origin) (fun v w3 ⟨hv, hf⟩ => ?_)
  subst hv
  have st := st.keep0 hf
  have hF := hF.step0 hf
  have st : St [] w3 [(_, Cl [_, _] _)] [] := st
  refine Ls_y (wtdT rfl rfl rfl) rfl rfl (y_not rfl rfl) (Ls_y (wtd0 rfl) rfl rfl (y_pick_f rfl rfl rfl) (Ls_nil (Th_n (?_))))
  have hcj2 : lcheck_c1 s = (!(lthere_m s.origin)) := by unfold lcheck_c1; rewrite [if_neg hc2]; rfl
  exact hout1 _ [(11, _)] _ ⟨rfl, trivial⟩ ⟨by rw [hcj2], (st.picks [0] (by decide)).pickK [], hF⟩

def oelem_m (s : List UInt8) : Bool :=
  if s = [] then
    false
  else
    decide ((s.length : Int) ≤ 12)


set_option maxRecDepth 20000 in
theorem oelem_ok (w : World) (s : List UInt8) :
    Fn Try.prog 42 [sv s] w fun v w' => v = .bool (oelem_m s) ∧ Fr [] w w' := by
  refine Fn_of 10 Ty.en_42 Try.func42 rfl rfl rfl ?_
  dsimp only [argEnv]
  have st : St [] w [] [] := St.nil (X := []) (w := w) (by simp [Lo])
  have hF := Fr.refl ([]) w
  refine Wp_seq fun K1 hK1 => ?_
  refine Wp_region (Las rfl rfl rfl rfl rfl (Ls_nil (Th_n (hK1 _ _ ?_))))
  refine Wp_seq fun K2 hK2 => ?_
  refine Wp_region (Lmv rfl rfl rfl rfl rfl (Ls_y (wtd0 rfl) rfl rfl (y_nes rfl rfl rfl) ?_))
  refine Lmv rfl rfl rfl rfl rfl (Ls_bool 5 rfl (fun hc1 => ?_) (fun hc1 => ?_))
  · have hc1 := neT hc1
    refine Ls_y (wtdT rfl rfl rfl) rfl rfl (y_move rfl rfl) (Ls_y (wtdT rfl rfl rfl) rfl rfl (y_lens rfl rfl Try.underlying9) ?_)
    refine Ls_y (wtdT rfl rfl rfl) rfl rfl (y_le rfl rfl rfl) (Ls_y (wtd0 rfl) rfl rfl (y_pick_t rfl rfl rfl) (Las rfl rfl rfl rfl rfl (Ls_nil (Th_n (hK2 _ _ ?_)))))
    refine Wp_ret (Fq_ret (Res1 rfl rfl) ?_)
    have he1 : oelem_m s = (decide ((s.length : Int) ≤ 12)) := by unfold oelem_m; rewrite [if_neg hc1]; rfl
    rewrite [he1]
    exact ⟨rfl, hF⟩
  have hc1 := neF hc1
  refine Ls_s (wtdF rfl rfl rfl) rfl rfl (Ls_s (wtdF rfl rfl rfl) rfl rfl (Ls_s (wtdF rfl rfl rfl) rfl rfl (Ls_y (wtd0 rfl) rfl rfl (y_pick_f rfl rfl rfl) (Las rfl rfl rfl rfl rfl (Ls_nil (Th_n (hK2 _ _ ?_)))))))
  refine Wp_ret (Fq_ret (Res1 rfl rfl) ?_)
  have he2 : oelem_m s = false := by unfold oelem_m; rewrite [if_pos hc1]; rfl
  rewrite [he2]
  exact ⟨rfl, hF⟩

def onotTag_m (t : TagM) : Bool :=
  (icheckTag_m t) != 0


set_option maxRecDepth 20000 in
theorem onotTag_ok (w : World) (t : TagM) :
    Fn Try.prog 57 [.agg (tagMC t).toArray] w fun v w' => v = .bool (onotTag_m t) ∧ Fr [] w w' := by
  refine Fn_of 6 Ty.en_57 Try.func57 rfl rfl rfl ?_
  dsimp only [argEnv]
  have st : St [] w [] [] := St.nil (X := []) (w := w) (by simp [Lo])
  have hF := Fr.refl ([]) w
  refine Wp_seq fun K1 hK1 => ?_
  refine Wp_region (Ls_a (wtd0 rfl) ?_)
  refine a_box rfl rfl rfl rfl st.hp (fun g1 w1 (hp : Hp w1 [(_, Cl [_, _, _] _)]) hf hg1 => ?_)
  have st : St [] w1 [(_, Cl [_, _, _] _)] [] := st.push hp hf hg1
  have hg1 := Nat.le_trans hF.size hg1
  have hF := hF.step0 hf
  refine Las rfl rfl rfl rfl rfl (Ls_nil (Th_n (hK1 _ _ ?_)))
  refine Wp_seq fun K2 hK2 => ?_
  refine Wp_region (Ls_y (wtd0 rfl) rfl rfl (y_loadw (i := 0) rfl rfl Ty.ag_43 (fun _ e => e ▸ st.hp) rfl rfl) ?_)
  refine Ls_a (wtd0 rfl) ?_
  refine a_call rfl rfl rfl rfl (icheckTag_ok _ t) (fun v w2 ⟨hv, hf⟩ => ?_)
  subst hv
  have st := st.keep0 hf
  have hF := hF.step0 hf
  have st : St [] w2 [(_, Cl [_, _, _] _)] [] := st
  refine Ls_y (wtd0 rfl) rfl rfl (y_ne rfl rfl rfl) (Las rfl rfl rfl rfl rfl (Ls_nil (Th_n (hK2 _ _ ?_))))
  refine Wp_ret (Fq_ret (Res1 rfl rfl) ?_)
  have he1 : onotTag_m t = ((icheckTag_m t) != 0) := by unfold onotTag_m; rfl
  rewrite [he1]
  exact ⟨rfl, hF⟩

def obyTag_m (a : AddM) (t : TagM) : Int :=
  icompareTag_m a.tag t


set_option maxRecDepth 20000 in
theorem obyTag_ok (w : World) (a : AddM) (t : TagM) :
    Fn Try.prog 61 [.agg (addMC a).toArray, .agg (tagMC t).toArray] w fun v w' => v = .int .i64 (obyTag_m a t) ∧ Fr [] w w' := by
  refine Fn_of 9 Ty.en_61 Try.func61 rfl rfl rfl ?_
  dsimp only [argEnv]
  have st : St [] w [] [] := St.nil (X := []) (w := w) (by simp [Lo])
  have hF := Fr.refl ([]) w
  refine Wp_seq fun K1 hK1 => ?_
  refine Wp_region (Ls_a (wtd0 rfl) ?_)
  refine a_box rfl rfl rfl rfl st.hp (fun g1 w1 (hp : Hp w1 [(_, Cl [_, _, _, _] _)]) hf hg1 => ?_)
  have st : St [] w1 [(_, Cl [_, _, _, _] _)] [] := st.push hp hf hg1
  have hg1 := Nat.le_trans hF.size hg1
  have hF := hF.step0 hf
  refine Ls_a (wtd0 rfl) ?_
  refine a_box rfl rfl rfl rfl st.hp (fun g2 w2 (hp : Hp w2 [(_, Cl [_, _, _, _] _), (_, Cl [_, _, _] _)]) hf hg2 => ?_)
  have st : St [] w2 [(_, Cl [_, _, _, _] _), (_, Cl [_, _, _] _)] [] := st.push hp hf hg2
  have hg2 := Nat.le_trans hF.size hg2
  have hF := hF.step0 hf
  refine Las rfl rfl rfl rfl rfl (Ls_nil (Th_n (hK1 _ _ ?_)))
  refine Wp_seq fun K2 hK2 => ?_
  refine Wp_region (Ls_y (wtd0 rfl) rfl rfl (y_fld rfl rfl Ty.fo_106_0) (Ls_y (wtd0 rfl) rfl rfl (y_loadm (i := 0) rfl rfl Ty.ag_43 (fun _ e => e ▸ st.hp) rfl rfl rfl) ?_))
  refine Ls_y (wtd0 rfl) rfl rfl (y_loadw (i := 1) rfl rfl Ty.ag_43 (fun _ e => e ▸ st.hp) rfl rfl) ?_
  refine Ls_a (wtd0 rfl) ?_
  refine a_call rfl rfl rfl rfl (icompareTag_ok _ a.tag t) (fun v w3 ⟨hv, hf⟩ => ?_)
  subst hv
  have st := st.keep0 hf
  have hF := hF.step0 hf
  have st : St [] w3 [(_, Cl [_, _, _, _] _), (_, Cl [_, _, _] _)] [] := st
  refine Las rfl rfl rfl rfl rfl (Ls_nil (Th_n (hK2 _ _ ?_)))
  refine Wp_ret (Fq_ret (Res1 rfl rfl) ?_)
  have he1 : obyTag_m a t = (icompareTag_m a.tag t) := by unfold obyTag_m; rfl
  rewrite [he1]
  exact ⟨rfl, hF⟩

def indexF_L1 {α : Type} [Inhabited α] [DecidableEq α] (s : List α) (f : α → Bool) : Nat → Int → (Int) ⊕ (Int)
  | 0, s8 => .inr (s8)
  | fuel + 1, s8 =>
    if s8 < (s.length : Int) then
      if (f (ix s s8)) = true then
        .inl s8
      else
        indexF_L1 s f fuel (s8 + 1)
    else
      .inr (s8)
def indexF_m {α : Type} [Inhabited α] [DecidableEq α] (s : List α) (f : α → Bool) : Int :=
  match indexF_L1 s f (((s.length : Int) - (0 : Int)).toNat + 1) (0 : Int) with
  | .inl r => r
  | .inr (s8) =>
    (-1)


set_option maxRecDepth 20000 in
theorem indexAdd_ok (X : List Nat) (w : World) (hX : Lo X w) (s : List AddM) (A_s : Option Addr) (c_s : Nat) (fv_f : Value) (f : AddM → Bool) (h_s : Sld X w A_s s.length c_s 4 (s.flatMap addMC)) (hp_f : ∀ (w1 : World) (x0 : AddM), Fr ([]) w w1 → FnV Try.prog fv_f [.agg (addMC x0).toArray] w1 fun v w2 => v = .bool (f x0) ∧ Fr [] w1 w2) :
    Fn Try.prog 76 [.slice A_s s.length c_s, fv_f] w fun v w' => v = .int .i64 (indexF_m s f) ∧ Fr [] w w' := by
  refine Fn_of 19 Ty.en_76 Try.func76 rfl rfl rfl ?_
  dsimp only [argEnv]
  have st : St X w [] [kS A_s s.length c_s 4 (s.flatMap addMC)] := (St.nil (X := X) (w := w) hX).addK (kS A_s s.length c_s 4 (s.flatMap addMC)) h_s
  have hF := Fr.refl ([]) w
  have hleA_s := (st.k (i := 0) rfl).le
  refine Wp_seq fun K1 hK1 => ?_
  refine Wp_region (Las rfl rfl rfl rfl rfl (Ls_nil (Th_n (hK1 _ _ ?_))))
  refine Wp_seq fun K2 hK2 => ?_
  refine Wp_seq fun K3 hK3 => ?_
  refine Wp_region (Lmv rfl rfl rfl rfl rfl (Ls_y (wtd0 rfl) rfl rfl (y_lenl rfl rfl Try.underlying53) ?_))
  refine Lmv rfl rfl rfl rfl rfl (Ls_nil (Th_n (hK3 _ _ ?_)))
  refine Wp_block (use_out hK2 (fun E W => ∃ (s8 : Int), E = [(0, .slice A_s s.length c_s), (1, fv_f), (7, .int .i64 (s.length : Int)), (8, .int .i64 s8)] ∧ indexF_L1 s f (((s.length : Int) - (0 : Int)).toNat + 1) (0 : Int) = .inr (s8) ∧ (0 ≤ s8) ∧ St X W [] [kS A_s s.length c_s 4 (s.flatMap addMC)] ∧ Fr ([]) w W) ?_ fun hout1 => ?_)
  · rintro E w1 ⟨s8, rfl, hLk1, hinv, st, hF⟩
    refine Wp_seq fun K4 hK4 => ?_
    refine Wp_region (Las rfl rfl rfl rfl rfl (Ls_nil (Th_n (hK4 _ _ ?_))))
    refine Wp_ret (Fq_ret (Res1 rfl rfl) ?_)
    have he1 : indexF_m s f = (-1) := by unfold indexF_m; rewrite [hLk1]; (try dsimp only); all_goals rfl
    rewrite [he1]
    exact ⟨rfl, hF⟩
  refine Wp_loopE (fun m E W => ∃ (s8 : Int), E = [(0, .slice A_s s.length c_s), (1, fv_f), (7, .int .i64 (s.length : Int)), (8, .int .i64 s8)] ∧ indexF_L1 s f m s8 = indexF_L1 s f (((s.length : Int) - (0 : Int)).toNat + 1) (0 : Int) ∧ ((s.length : Int) - s8).toNat < m ∧ (0 ≤ s8) ∧ St X W [] [kS A_s s.length c_s 4 (s.flatMap addMC)] ∧ Fr ([]) w W) (((s.length : Int) - (0 : Int)).toNat + 1) [(0, _), (1, _), (7, _), (8, _)] ⟨rfl, rfl, rfl, rfl, trivial⟩ ?_ ?_
  · exact ⟨_, rfl, rfl, Nat.lt_succ_self _, by first | omega | (simp; done) | (simp; omega), st, hF⟩
  rintro m E w2 ⟨s8, rfl, hL1, hmu, hinv, st, hF⟩
  obtain ⟨fuel, rfl⟩ : ∃ q, m = q + 1 := ⟨m - 1, by omega⟩
  refine Wp_seq fun K5 hK5 => ?_
  refine Wp_region (Ls_y (wtd0 rfl) rfl rfl (y_lt rfl rfl rfl) (Ls_nil (Th_n (hK5 _ _ ?_))))
  refine Wp_seq fun K6 hK6 => ?_
  refine Wp_cond rfl (fun hc1 => ?_) (fun hc1 => ?_)
  · have hc1 := dT hc1
    refine Wp_skip (Th_n (hK6 _ _ ?_))
    refine Wp_seq fun K7 hK7 => ?_
    refine Wp_block (Wp_seq fun K8 hK8 => ?_)
    refine Wp_region (Lmv rfl rfl rfl rfl rfl (Las rfl rfl rfl rfl rfl (Ls_nil (Th_n (hK8 _ _ ?_)))))
    refine Wp_seq fun K9 hK9 => ?_
    refine Wp_region (Lmv rfl rfl rfl rfl rfl (Lmv rfl rfl rfl rfl rfl (Lmv rfl rfl rfl rfl rfl ?_)))
    obtain ⟨gi1, bi1, egi1⟩ := (st.k (i := 0) rfl).addr (fun _ => rfl) (by decide) (q := s8) (by first | omega | (simp; done) | (simp; omega)) (by first | omega | (simp; done) | (simp; omega))
    subst egi1
    refine Ls_y (wtd0 rfl) rfl rfl (y_ixa (q := s8) rfl rfl rfl Ty.es_53 (by first | omega | (simp; done) | (simp; omega)) (by first | omega | (simp; done) | (simp; omega))) ?_
    refine Ls_y (wtd0 rfl) rfl rfl (y_ldk (q := s8) rfl rfl Ty.ag_106 (fun _ e => e ▸ st.k (i := 0) rfl) (fun _ => rfl) (by first | omega | (simp; done) | (simp; omega)) (by first | omega | (simp; done) | (simp; omega))) ?_
    refine Ls_a (wtd0 rfl) ?_
    refine a_callv rfl rfl rfl rfl rfl (hp_f _ (ix s s8) hF) (fun v w3 ⟨hv, hf⟩ => ?_)
    subst hv
    have st := st.keep0 hf
    have hF := hF.step0 hf
    have st : St X w3 [] [_] := st
    refine Ls_nil (Th_n (hK9 _ _ ?_))
    refine Wp_cond rfl (fun hc2 => ?_) (fun hc2 => ?_)
    · refine Wp_seq fun K10 hK10 => ?_
      refine Wp_region (Lmv rfl rfl rfl rfl rfl (Las rfl rfl rfl rfl rfl (Ls_nil (Th_n (hK10 _ _ ?_)))))
      refine Wp_ret (Ib_r (Th_r (Th_r (Ib_r (Th_r (Fq_ret (Res1 rfl rfl) ?_))))))
      have hret1 : indexF_L1 s f (((s.length : Int) - (0 : Int)).toNat + 1) (0 : Int) = .inl s8 := by rewrite [← hL1, indexF_L1]; rewrite [if_pos hc1, if_pos hc2]; rfl
      have he2 : indexF_m s f = s8 := by unfold indexF_m; rewrite [hret1]; (try dsimp only); all_goals rfl
      rewrite [he2]
      exact ⟨rfl, hF⟩
    have hc2 := bF hc2
    refine Wp_skip (Ib_n (Th_n (hK7 _ _ ?_)))
    refine Wp_region (Ls_y (wtd0 rfl) rfl rfl (y_add (c := s8 + 1) rfl rfl rfl (wf_i64 (by first | omega | (simp; done) | (simp; omega)))) ?_)
    refine Lmv rfl rfl rfl rfl rfl (Ls_nil (Th_n (?_)))
    have hE1 : indexF_L1 s f fuel (s8 + 1) = indexF_L1 s f (((s.length : Int) - (0 : Int)).toNat + 1) (0 : Int) := by rewrite [← hL1, indexF_L1]; rewrite [if_pos hc1, if_neg hc2]; rfl
    exact ⟨fuel, [(0, _), (1, _), (7, _), (8, _)], Nat.lt_succ_self _, ⟨rfl, rfl, rfl, rfl, trivial⟩, (s8 + 1), rfl, hE1, by first | omega | (simp; done) | (simp; omega), by first | omega | (simp; done) | (simp; omega), (st.picks [] (by decide)).pickK [0], hF⟩
  have hc1 := dF hc1
  refine Wp_exit (Th_e (Th_e (Ib_hit (Th_n (?_)))))
  have hE2 : indexF_L1 s f (((s.length : Int) - (0 : Int)).toNat + 1) (0 : Int) = .inr (s8) := by rewrite [← hL1, indexF_L1]; rewrite [if_neg hc1]; rfl
  exact hout1 _ [(0, _), (1, _), (7, _), (8, _)] _ ⟨rfl, rfl, rfl, rfl, trivial⟩ ⟨s8, rfl, hE2, by first | omega | (simp; done) | (simp; omega), (st.picks [] (by decide)).pickK [0], hF⟩

def containsF_m {α : Type} [Inhabited α] [DecidableEq α] (s : List α) (f : α → Bool) : Bool :=
  decide (0 ≤ (indexF_m s f))


set_option maxRecDepth 20000 in
theorem containsAdd_ok (X : List Nat) (w : World) (hX : Lo X w) (s : List AddM) (A_s : Option Addr) (c_s : Nat) (fv_f : Value) (f : AddM → Bool) (h_s : Sld X w A_s s.length c_s 4 (s.flatMap addMC)) (hp_f : ∀ (w1 : World) (x0 : AddM), Fr ([]) w w1 → FnV Try.prog fv_f [.agg (addMC x0).toArray] w1 fun v w2 => v = .bool (f x0) ∧ Fr [] w1 w2) :
    Fn Try.prog 55 [.slice A_s s.length c_s, fv_f] w fun v w' => v = .bool (containsF_m s f) ∧ Fr [] w w' := by
  refine Fn_of 9 Ty.en_55 Try.func55 rfl rfl rfl ?_
  dsimp only [argEnv]
  have st : St X w [] [kS A_s s.length c_s 4 (s.flatMap addMC)] := (St.nil (X := X) (w := w) hX).addK (kS A_s s.length c_s 4 (s.flatMap addMC)) h_s
  have hF := Fr.refl ([]) w
  have hleA_s := (st.k (i := 0) rfl).le
  refine Wp_seq fun K1 hK1 => ?_
  refine Wp_region (Las rfl rfl rfl rfl rfl (Ls_nil (Th_n (hK1 _ _ ?_))))
  refine Wp_seq fun K2 hK2 => ?_
  refine Wp_region (Lmv rfl rfl rfl rfl rfl (Lmv rfl rfl rfl rfl rfl (Ls_a (wtd0 rfl) ?_)))
  refine a_call rfl rfl rfl rfl (indexAdd_ok (keys (hOf st) ++ X) _ st.Lo s A_s c_s fv_f f (st.k (i := 0) rfl) (fun w1 x0 hw => hp_f w1 x0 (hF.step0 hw))) (fun v w1 ⟨hv, hf⟩ => ?_)
  subst hv
  have st := st.keep0 hf
  have hF := hF.step0 hf
  have st : St X w1 [] [_] := st
  refine Ls_y (wtd0 rfl) rfl rfl (y_ge rfl rfl rfl) (Las rfl rfl rfl rfl rfl (Ls_nil (Th_n (hK2 _ _ ?_))))
  refine Wp_ret (Fq_ret (Res1 rfl rfl) ?_)
  have he1 : containsF_m s f = (decide (0 ≤ (indexF_m s f))) := by unfold containsF_m; rfl
  rewrite [he1]
  exact ⟨rfl, hF⟩



set_option maxRecDepth 20000 in
theorem indexTag_ok (X : List Nat) (w : World) (hX : Lo X w) (s : List TagM) (A_s : Option Addr) (c_s : Nat) (fv_f : Value) (f : TagM → Bool) (h_s : Sld X w A_s s.length c_s 3 (s.flatMap tagMC)) (hp_f : ∀ (w1 : World) (x0 : TagM), Fr ([]) w w1 → FnV Try.prog fv_f [.agg (tagMC x0).toArray] w1 fun v w2 => v = .bool (f x0) ∧ Fr [] w1 w2) :
    Fn Try.prog 77 [.slice A_s s.length c_s, fv_f] w fun v w' => v = .int .i64 (indexF_m s f) ∧ Fr [] w w' := by
  refine Fn_of 19 Ty.en_77 Try.func77 rfl rfl rfl ?_
  dsimp only [argEnv]
  have st : St X w [] [kS A_s s.length c_s 3 (s.flatMap tagMC)] := (St.nil (X := X) (w := w) hX).addK (kS A_s s.length c_s 3 (s.flatMap tagMC)) h_s
  have hF := Fr.refl ([]) w
  have hleA_s := (st.k (i := 0) rfl).le
  refine Wp_seq fun K1 hK1 => ?_
  refine Wp_region (Las rfl rfl rfl rfl rfl (Ls_nil (Th_n (hK1 _ _ ?_))))
  refine Wp_seq fun K2 hK2 => ?_
  refine Wp_seq fun K3 hK3 => ?_
  refine Wp_region (Lmv rfl rfl rfl rfl rfl (Ls_y (wtd0 rfl) rfl rfl (y_lenl rfl rfl Try.underlying30) ?_))
  refine Lmv rfl rfl rfl rfl rfl (Ls_nil (Th_n (hK3 _ _ ?_)))
  refine Wp_block (use_out hK2 (fun E W => ∃ (s8 : Int), E = [(0, .slice A_s s.length c_s), (1, fv_f), (7, .int .i64 (s.length : Int)), (8, .int .i64 s8)] ∧ indexF_L1 s f (((s.length : Int) - (0 : Int)).toNat + 1) (0 : Int) = .inr (s8) ∧ (0 ≤ s8) ∧ St X W [] [kS A_s s.length c_s 3 (s.flatMap tagMC)] ∧ Fr ([]) w W) ?_ fun hout1 => ?_)
  · rintro E w1 ⟨s8, rfl, hLk1, hinv, st, hF⟩
    refine Wp_seq fun K4 hK4 => ?_
    refine Wp_region (Las rfl rfl rfl rfl rfl (Ls_nil (Th_n (hK4 _ _ ?_))))
    refine Wp_ret (Fq_ret (Res1 rfl rfl) ?_)
    have he1 : indexF_m s f = (-1) := by unfold indexF_m; rewrite [hLk1]; (try dsimp only); all_goals rfl
    rewrite [he1]
    exact ⟨rfl, hF⟩
  refine Wp_loopE (fun m E W => ∃ (s8 : Int), E = [(0, .slice A_s s.length c_s), (1, fv_f), (7, .int .i64 (s.length : Int)), (8, .int .i64 s8)] ∧ indexF_L1 s f m s8 = indexF_L1 s f (((s.length : Int) - (0 : Int)).toNat + 1) (0 : Int) ∧ ((s.length : Int) - s8).toNat < m ∧ (0 ≤ s8) ∧ St X W [] [kS A_s s.length c_s 3 (s.flatMap tagMC)] ∧ Fr ([]) w W) (((s.length : Int) - (0 : Int)).toNat + 1) [(0, _), (1, _), (7, _), (8, _)] ⟨rfl, rfl, rfl, rfl, trivial⟩ ?_ ?_
  · exact ⟨_, rfl, rfl, Nat.lt_succ_self _, by first | omega | (simp; done) | (simp; omega), st, hF⟩
  rintro m E w2 ⟨s8, rfl, hL1, hmu, hinv, st, hF⟩
  obtain ⟨fuel, rfl⟩ : ∃ q, m = q + 1 := ⟨m - 1, by omega⟩
  refine Wp_seq fun K5 hK5 => ?_
  refine Wp_region (Ls_y (wtd0 rfl) rfl rfl (y_lt rfl rfl rfl) (Ls_nil (Th_n (hK5 _ _ ?_))))
  refine Wp_seq fun K6 hK6 => ?_
  refine Wp_cond rfl (fun hc1 => ?_) (fun hc1 => ?_)
  · have hc1 := dT hc1
    refine Wp_skip (Th_n (hK6 _ _ ?_))
    refine Wp_seq fun K7 hK7 => ?_
    refine Wp_block (Wp_seq fun K8 hK8 => ?_)
    refine Wp_region (Lmv rfl rfl rfl rfl rfl (Las rfl rfl rfl rfl rfl (Ls_nil (Th_n (hK8 _ _ ?_)))))
    refine Wp_seq fun K9 hK9 => ?_
    refine Wp_region (Lmv rfl rfl rfl rfl rfl (Lmv rfl rfl rfl rfl rfl (Lmv rfl rfl rfl rfl rfl ?_)))
    obtain ⟨gi1, bi1, egi1⟩ := (st.k (i := 0) rfl).addr (fun _ => rfl) (by decide) (q := s8) (by first | omega | (simp; done) | (simp; omega)) (by first | omega | (simp; done) | (simp; omega))
    subst egi1
    refine Ls_y (wtd0 rfl) rfl rfl (y_ixa (q := s8) rfl rfl rfl Ty.es_30 (by first | omega | (simp; done) | (simp; omega)) (by first | omega | (simp; done) | (simp; omega))) ?_
    refine Ls_y (wtd0 rfl) rfl rfl (y_ldk (q := s8) rfl rfl Ty.ag_43 (fun _ e => e ▸ st.k (i := 0) rfl) (fun _ => rfl) (by first | omega | (simp; done) | (simp; omega)) (by first | omega | (simp; done) | (simp; omega))) ?_
    refine Ls_a (wtd0 rfl) ?_
    refine a_callv rfl rfl rfl rfl rfl (hp_f _ (ix s s8) hF) (fun v w3 ⟨hv, hf⟩ => ?_)
    subst hv
    have st := st.keep0 hf
    have hF := hF.step0 hf
    have st : St X w3 [] [_] := st
    refine Ls_nil (Th_n (hK9 _ _ ?_))
    refine Wp_cond rfl (fun hc2 => ?_) (fun hc2 => ?_)
    · refine Wp_seq fun K10 hK10 => ?_
      refine Wp_region (Lmv rfl rfl rfl rfl rfl (Las rfl rfl rfl rfl rfl (Ls_nil (Th_n (hK10 _ _ ?_)))))
      refine Wp_ret (Ib_r (Th_r (Th_r (Ib_r (Th_r (Fq_ret (Res1 rfl rfl) ?_))))))
      have hret1 : indexF_L1 s f (((s.length : Int) - (0 : Int)).toNat + 1) (0 : Int) = .inl s8 := by rewrite [← hL1, indexF_L1]; rewrite [if_pos hc1, if_pos hc2]; rfl
      have he2 : indexF_m s f = s8 := by unfold indexF_m; rewrite [hret1]; (try dsimp only); all_goals rfl
      rewrite [he2]
      exact ⟨rfl, hF⟩
    have hc2 := bF hc2
    refine Wp_skip (Ib_n (Th_n (hK7 _ _ ?_)))
    refine Wp_region (Ls_y (wtd0 rfl) rfl rfl (y_add (c := s8 + 1) rfl rfl rfl (wf_i64 (by first | omega | (simp; done) | (simp; omega)))) ?_)
    refine Lmv rfl rfl rfl rfl rfl (Ls_nil (Th_n (?_)))
    have hE1 : indexF_L1 s f fuel (s8 + 1) = indexF_L1 s f (((s.length : Int) - (0 : Int)).toNat + 1) (0 : Int) := by rewrite [← hL1, indexF_L1]; rewrite [if_pos hc1, if_neg hc2]; rfl
    exact ⟨fuel, [(0, _), (1, _), (7, _), (8, _)], Nat.lt_succ_self _, ⟨rfl, rfl, rfl, rfl, trivial⟩, (s8 + 1), rfl, hE1, by first | omega | (simp; done) | (simp; omega), by first | omega | (simp; done) | (simp; omega), (st.picks [] (by decide)).pickK [0], hF⟩
  have hc1 := dF hc1
  refine Wp_exit (Th_e (Th_e (Ib_hit (Th_n (?_)))))
  have hE2 : indexF_L1 s f (((s.length : Int) - (0 : Int)).toNat + 1) (0 : Int) = .inr (s8) := by rewrite [← hL1, indexF_L1]; rewrite [if_neg hc1]; rfl
  exact hout1 _ [(0, _), (1, _), (7, _), (8, _)] _ ⟨rfl, rfl, rfl, rfl, trivial⟩ ⟨s8, rfl, hE2, by first | omega | (simp; done) | (simp; omega), (st.picks [] (by decide)).pickK [0], hF⟩



set_option maxRecDepth 20000 in
theorem containsTag_ok (X : List Nat) (w : World) (hX : Lo X w) (s : List TagM) (A_s : Option Addr) (c_s : Nat) (fv_f : Value) (f : TagM → Bool) (h_s : Sld X w A_s s.length c_s 3 (s.flatMap tagMC)) (hp_f : ∀ (w1 : World) (x0 : TagM), Fr ([]) w w1 → FnV Try.prog fv_f [.agg (tagMC x0).toArray] w1 fun v w2 => v = .bool (f x0) ∧ Fr [] w1 w2) :
    Fn Try.prog 58 [.slice A_s s.length c_s, fv_f] w fun v w' => v = .bool (containsF_m s f) ∧ Fr [] w w' := by
  refine Fn_of 9 Ty.en_58 Try.func58 rfl rfl rfl ?_
  dsimp only [argEnv]
  have st : St X w [] [kS A_s s.length c_s 3 (s.flatMap tagMC)] := (St.nil (X := X) (w := w) hX).addK (kS A_s s.length c_s 3 (s.flatMap tagMC)) h_s
  have hF := Fr.refl ([]) w
  have hleA_s := (st.k (i := 0) rfl).le
  refine Wp_seq fun K1 hK1 => ?_
  refine Wp_region (Las rfl rfl rfl rfl rfl (Ls_nil (Th_n (hK1 _ _ ?_))))
  refine Wp_seq fun K2 hK2 => ?_
  refine Wp_region (Lmv rfl rfl rfl rfl rfl (Lmv rfl rfl rfl rfl rfl (Ls_a (wtd0 rfl) ?_)))
  refine a_call rfl rfl rfl rfl (indexTag_ok (keys (hOf st) ++ X) _ st.Lo s A_s c_s fv_f f (st.k (i := 0) rfl) (fun w1 x0 hw => hp_f w1 x0 (hF.step0 hw))) (fun v w1 ⟨hv, hf⟩ => ?_)
  subst hv
  have st := st.keep0 hf
  have hF := hF.step0 hf
  have st : St X w1 [] [_] := st
  refine Ls_y (wtd0 rfl) rfl rfl (y_ge rfl rfl rfl) (Las rfl rfl rfl rfl rfl (Ls_nil (Th_n (hK2 _ _ ?_))))
  refine Wp_ret (Fq_ret (Res1 rfl rfl) ?_)
  have he1 : containsF_m s f = (decide (0 ≤ (indexF_m s f))) := by unfold containsF_m; rfl
  rewrite [he1]
  exact ⟨rfl, hF⟩



set_option maxRecDepth 20000 in
theorem indexPut_ok (X : List Nat) (w : World) (hX : Lo X w) (s : List PutM) (A_s : Option Addr) (c_s : Nat) (fv_f : Value) (f : PutM → Bool) (h_s : Sld X w A_s s.length c_s 7 (s.flatMap putMC)) (hp_f : ∀ (w1 : World) (x0 : PutM), Fr ([]) w w1 → FnV Try.prog fv_f [.agg (putMC x0).toArray] w1 fun v w2 => v = .bool (f x0) ∧ Fr [] w1 w2) :
    Fn Try.prog 86 [.slice A_s s.length c_s, fv_f] w fun v w' => v = .int .i64 (indexF_m s f) ∧ Fr [] w w' := by
  refine Fn_of 19 Ty.en_86 Try.func86 rfl rfl rfl ?_
  dsimp only [argEnv]
  have st : St X w [] [kS A_s s.length c_s 7 (s.flatMap putMC)] := (St.nil (X := X) (w := w) hX).addK (kS A_s s.length c_s 7 (s.flatMap putMC)) h_s
  have hF := Fr.refl ([]) w
  have hleA_s := (st.k (i := 0) rfl).le
  refine Wp_seq fun K1 hK1 => ?_
  refine Wp_region (Las rfl rfl rfl rfl rfl (Ls_nil (Th_n (hK1 _ _ ?_))))
  refine Wp_seq fun K2 hK2 => ?_
  refine Wp_seq fun K3 hK3 => ?_
  refine Wp_region (Lmv rfl rfl rfl rfl rfl (Ls_y (wtd0 rfl) rfl rfl (y_lenl rfl rfl Try.underlying56) ?_))
  refine Lmv rfl rfl rfl rfl rfl (Ls_nil (Th_n (hK3 _ _ ?_)))
  refine Wp_block (use_out hK2 (fun E W => ∃ (s8 : Int), E = [(0, .slice A_s s.length c_s), (1, fv_f), (7, .int .i64 (s.length : Int)), (8, .int .i64 s8)] ∧ indexF_L1 s f (((s.length : Int) - (0 : Int)).toNat + 1) (0 : Int) = .inr (s8) ∧ (0 ≤ s8) ∧ St X W [] [kS A_s s.length c_s 7 (s.flatMap putMC)] ∧ Fr ([]) w W) ?_ fun hout1 => ?_)
  · rintro E w1 ⟨s8, rfl, hLk1, hinv, st, hF⟩
    refine Wp_seq fun K4 hK4 => ?_
    refine Wp_region (Las rfl rfl rfl rfl rfl (Ls_nil (Th_n (hK4 _ _ ?_))))
    refine Wp_ret (Fq_ret (Res1 rfl rfl) ?_)
    have he1 : indexF_m s f = (-1) := by unfold indexF_m; rewrite [hLk1]; (try dsimp only); all_goals rfl
    rewrite [he1]
    exact ⟨rfl, hF⟩
  refine Wp_loopE (fun m E W => ∃ (s8 : Int), E = [(0, .slice A_s s.length c_s), (1, fv_f), (7, .int .i64 (s.length : Int)), (8, .int .i64 s8)] ∧ indexF_L1 s f m s8 = indexF_L1 s f (((s.length : Int) - (0 : Int)).toNat + 1) (0 : Int) ∧ ((s.length : Int) - s8).toNat < m ∧ (0 ≤ s8) ∧ St X W [] [kS A_s s.length c_s 7 (s.flatMap putMC)] ∧ Fr ([]) w W) (((s.length : Int) - (0 : Int)).toNat + 1) [(0, _), (1, _), (7, _), (8, _)] ⟨rfl, rfl, rfl, rfl, trivial⟩ ?_ ?_
  · exact ⟨_, rfl, rfl, Nat.lt_succ_self _, by first | omega | (simp; done) | (simp; omega), st, hF⟩
  rintro m E w2 ⟨s8, rfl, hL1, hmu, hinv, st, hF⟩
  obtain ⟨fuel, rfl⟩ : ∃ q, m = q + 1 := ⟨m - 1, by omega⟩
  refine Wp_seq fun K5 hK5 => ?_
  refine Wp_region (Ls_y (wtd0 rfl) rfl rfl (y_lt rfl rfl rfl) (Ls_nil (Th_n (hK5 _ _ ?_))))
  refine Wp_seq fun K6 hK6 => ?_
  refine Wp_cond rfl (fun hc1 => ?_) (fun hc1 => ?_)
  · have hc1 := dT hc1
    refine Wp_skip (Th_n (hK6 _ _ ?_))
    refine Wp_seq fun K7 hK7 => ?_
    refine Wp_block (Wp_seq fun K8 hK8 => ?_)
    refine Wp_region (Lmv rfl rfl rfl rfl rfl (Las rfl rfl rfl rfl rfl (Ls_nil (Th_n (hK8 _ _ ?_)))))
    refine Wp_seq fun K9 hK9 => ?_
    refine Wp_region (Lmv rfl rfl rfl rfl rfl (Lmv rfl rfl rfl rfl rfl (Lmv rfl rfl rfl rfl rfl ?_)))
    obtain ⟨gi1, bi1, egi1⟩ := (st.k (i := 0) rfl).addr (fun _ => rfl) (by decide) (q := s8) (by first | omega | (simp; done) | (simp; omega)) (by first | omega | (simp; done) | (simp; omega))
    subst egi1
    refine Ls_y (wtd0 rfl) rfl rfl (y_ixa (q := s8) rfl rfl rfl Ty.es_56 (by first | omega | (simp; done) | (simp; omega)) (by first | omega | (simp; done) | (simp; omega))) ?_
    refine Ls_y (wtd0 rfl) rfl rfl (y_ldk (q := s8) rfl rfl Ty.ag_111 (fun _ e => e ▸ st.k (i := 0) rfl) (fun _ => rfl) (by first | omega | (simp; done) | (simp; omega)) (by first | omega | (simp; done) | (simp; omega))) ?_
    refine Ls_a (wtd0 rfl) ?_
    refine a_callv rfl rfl rfl rfl rfl (hp_f _ (ix s s8) hF) (fun v w3 ⟨hv, hf⟩ => ?_)
    subst hv
    have st := st.keep0 hf
    have hF := hF.step0 hf
    have st : St X w3 [] [_] := st
    refine Ls_nil (Th_n (hK9 _ _ ?_))
    refine Wp_cond rfl (fun hc2 => ?_) (fun hc2 => ?_)
    · refine Wp_seq fun K10 hK10 => ?_
      refine Wp_region (Lmv rfl rfl rfl rfl rfl (Las rfl rfl rfl rfl rfl (Ls_nil (Th_n (hK10 _ _ ?_)))))
      refine Wp_ret (Ib_r (Th_r (Th_r (Ib_r (Th_r (Fq_ret (Res1 rfl rfl) ?_))))))
      have hret1 : indexF_L1 s f (((s.length : Int) - (0 : Int)).toNat + 1) (0 : Int) = .inl s8 := by rewrite [← hL1, indexF_L1]; rewrite [if_pos hc1, if_pos hc2]; rfl
      have he2 : indexF_m s f = s8 := by unfold indexF_m; rewrite [hret1]; (try dsimp only); all_goals rfl
      rewrite [he2]
      exact ⟨rfl, hF⟩
    have hc2 := bF hc2
    refine Wp_skip (Ib_n (Th_n (hK7 _ _ ?_)))
    refine Wp_region (Ls_y (wtd0 rfl) rfl rfl (y_add (c := s8 + 1) rfl rfl rfl (wf_i64 (by first | omega | (simp; done) | (simp; omega)))) ?_)
    refine Lmv rfl rfl rfl rfl rfl (Ls_nil (Th_n (?_)))
    have hE1 : indexF_L1 s f fuel (s8 + 1) = indexF_L1 s f (((s.length : Int) - (0 : Int)).toNat + 1) (0 : Int) := by rewrite [← hL1, indexF_L1]; rewrite [if_pos hc1, if_neg hc2]; rfl
    exact ⟨fuel, [(0, _), (1, _), (7, _), (8, _)], Nat.lt_succ_self _, ⟨rfl, rfl, rfl, rfl, trivial⟩, (s8 + 1), rfl, hE1, by first | omega | (simp; done) | (simp; omega), by first | omega | (simp; done) | (simp; omega), (st.picks [] (by decide)).pickK [0], hF⟩
  have hc1 := dF hc1
  refine Wp_exit (Th_e (Th_e (Ib_hit (Th_n (?_)))))
  have hE2 : indexF_L1 s f (((s.length : Int) - (0 : Int)).toNat + 1) (0 : Int) = .inr (s8) := by rewrite [← hL1, indexF_L1]; rewrite [if_neg hc1]; rfl
  exact hout1 _ [(0, _), (1, _), (7, _), (8, _)] _ ⟨rfl, rfl, rfl, rfl, trivial⟩ ⟨s8, rfl, hE2, by first | omega | (simp; done) | (simp; omega), (st.picks [] (by decide)).pickK [0], hF⟩

def bsearch_L1 (x : List TagM) (target : TagM) (c : TagM → TagM → Int) : Nat → Int → Int → (Int × Bool) ⊕ (Int × Int)
  | 0, s9, s10 => .inr (s9, s10)
  | fuel + 1, s9, s10 =>
    if s9 < s10 then
      if (c (ix x ((s9 + s10) / 2)) target) < 0 then
        bsearch_L1 x target c fuel (((s9 + s10) / 2) + 1) s10
      else
        bsearch_L1 x target c fuel s9 ((s9 + s10) / 2)
    else
      .inr (s9, s10)
def bsearch_m (x : List TagM) (target : TagM) (c : TagM → TagM → Int) : Int × Bool :=
  match bsearch_L1 x target c (((x.length : Int) - (0 : Int)).toNat + 1) (0 : Int) (x.length : Int) with
  | .inl r => r
  | .inr (s9, s10) =>
    if s9 < (x.length : Int) then
      (s9, (c (ix x s9) target) == 0)
    else
      (s9, false)


set_option maxRecDepth 20000 in
theorem bsearch_ok (X : List Nat) (w : World) (hX : Lo X w) (x : List TagM) (A_x : Option Addr) (c_x : Nat) (target : TagM) (fv_c : Value) (c : TagM → TagM → Int) (h_x : Sld X w A_x x.length c_x 3 (x.flatMap tagMC)) (hp_c : ∀ (w1 : World) (x0 : TagM) (x1 : TagM), Fr ([]) w w1 → FnV Try.prog fv_c [.agg (tagMC x0).toArray, .agg (tagMC x1).toArray] w1 fun v w2 => v = .int .i64 (c x0 x1) ∧ Fr [] w1 w2) (hx : x.length ≤ 1000000) :
    Fn Try.prog 81 [.slice A_x x.length c_x, .agg (tagMC target).toArray, fv_c] w fun v w' => v = .tuple #[.int .i64 ((bsearch_m x target c).1), .bool ((bsearch_m x target c).2)] ∧ Fr [] w w' := by
  refine Fn_of 49 Ty.en_81 Try.func81 rfl rfl rfl ?_
  dsimp only [argEnv]
  have st : St X w [] [kS A_x x.length c_x 3 (x.flatMap tagMC)] := (St.nil (X := X) (w := w) hX).addK (kS A_x x.length c_x 3 (x.flatMap tagMC)) h_x
  have hF := Fr.refl ([]) w
  have hleA_x := (st.k (i := 0) rfl).le
  refine Wp_seq fun K1 hK1 => ?_
  refine Wp_region (Ls_a (wtd0 rfl) ?_)
  refine a_box rfl rfl rfl rfl st.hp (fun g1 w1 (hp : Hp w1 [(_, Cl [_, _, _] _)]) hf hg1 => ?_)
  have st : St X w1 [(_, Cl [_, _, _] _)] [_] := st.push hp hf hg1
  have hg1 := Nat.le_trans hF.size hg1
  have hF := hF.step0 hf
  refine Las rfl rfl rfl rfl rfl (Las rfl rfl rfl rfl rfl (Ls_nil (Th_n (hK1 _ _ ?_))))
  refine Wp_seq fun K2 hK2 => ?_
  refine Wp_region (Lmv rfl rfl rfl rfl rfl (Ls_y (wtd0 rfl) rfl rfl (y_lenl rfl rfl Try.underlying30) ?_))
  refine Las rfl rfl rfl rfl rfl (Ls_nil (Th_n (hK2 _ _ ?_)))
  refine Wp_seq fun K3 hK3 => ?_
  refine Wp_region (Lmv rfl rfl rfl rfl rfl (Las rfl rfl rfl rfl rfl (Las rfl rfl rfl rfl rfl (Ls_nil (Th_n (hK3 _ _ ?_))))))
  refine Wp_seq fun K4 hK4 => ?_
  refine Wp_block (use_out hK4 (fun E W => ∃ (s9 : Int) (s10 : Int), E = [(0, .slice A_x x.length c_x), (2, fv_c), (4, .pointer (some ⟨g1, 0, none⟩)), (8, .int .i64 (x.length : Int)), (9, .int .i64 s9), (10, .int .i64 s10)] ∧ bsearch_L1 x target c (((x.length : Int) - (0 : Int)).toNat + 1) (0 : Int) (x.length : Int) = .inr (s9, s10) ∧ (0 ≤ s9 ∧ s9 ≤ s10 ∧ s10 ≤ x.length) ∧ St X W [(some g1, Cl [.int .i64 target.id.origin, .int .u32 target.id.seq, .int .i64 target.n] 43)] [kS A_x x.length c_x 3 (x.flatMap tagMC)] ∧ Fr ([]) w W) ?_ fun hout1 => ?_)
  · rintro E w2 ⟨s9, s10, rfl, hLk1, hinv, st, hF⟩
    refine Wp_seq fun K5 hK5 => ?_
    refine Wp_plan (fun W => St X W (pickL (hOf st) [0]) (kOf st)) [(true, 0), (true, 1), (true, 2), (true, 3), (true, 4), (true, 5), (true, 6), (true, 7), (true, 8), (true, 9), (true, 10), (false, 11), (true, 12), (true, 13), (true, 14), (true, 15)] Ty.mx_0 (by kernel_rfl) (by kernel_rfl) rfl ((st.picks [0] (by decide)).drew) ?_
    have st := st.drew
    have hF := hF.step0 (Fr.drew _)
    refine Pmv rfl rfl rfl rfl rfl rfl (Pmv rfl rfl rfl rfl rfl rfl (Pmv rfl rfl rfl rfl rfl rfl (Pl_y rfl (wtd0 rfl) rfl rfl (y_lt rfl rfl rfl) (Pmv rfl rfl rfl rfl rfl rfl (Pl_bool 39 rfl (fun hc1 => ?_) (fun hc1 => ?_))))))
    · have hc1 := dT hc1
      refine Pl_y rfl (wtdT rfl rfl rfl) rfl rfl (y_move rfl rfl) (Pl_y rfl (wtdT rfl rfl rfl) rfl rfl (y_move rfl rfl) (Pl_y rfl (wtdT rfl rfl rfl) rfl rfl (y_move rfl rfl) ?_))
      obtain ⟨gi1, bi1, egi1⟩ := (st.k (i := 0) rfl).addr (fun _ => rfl) (by decide) (q := s9) (by first | omega | (simp; done) | (simp; omega)) (by first | omega | (simp; done) | (simp; omega))
      subst egi1
      refine Pl_y rfl (wtdT rfl rfl rfl) rfl rfl (y_ixa (q := s9) rfl rfl rfl Ty.es_30 (by first | omega | (simp; done) | (simp; omega)) (by first | omega | (simp; done) | (simp; omega))) ?_
      refine Pl_y rfl (wtdT rfl rfl rfl) rfl rfl (y_ldk (q := s9) rfl rfl Ty.ag_43 (fun _ h => h.k (i := 0) rfl) (fun _ => rfl) (by first | omega | (simp; done) | (simp; omega)) (by first | omega | (simp; done) | (simp; omega))) ?_
      refine Pl_y rfl (wtdT rfl rfl rfl) rfl rfl (y_loadw (i := 0) rfl rfl Ty.ag_43 (fun _ h => h.hp) rfl rfl) ?_
      refine Pl_a rfl (wtdT rfl rfl rfl) (by rfl) ?_
      refine a_callv rfl rfl rfl rfl rfl (hp_c _ (ix x s9) target hF) (fun v w3 ⟨hv, hf⟩ => ?_)
      subst hv
      have st := st.keep0 hf
      have hF := hF.step0 hf
      have st : St X w3 [(_, Cl [_, _, _] _)] [_] := st
      refine ⟨(st.picks [0] (by decide)).takeK 1, ?_⟩
      refine Pl_y rfl (wtdT rfl rfl rfl) rfl rfl (y_eq rfl rfl rfl) (Pl_y rfl (wtd0 rfl) rfl rfl (y_pick_t rfl rfl rfl) (Pl_y rfl (wtd0 rfl) rfl rfl (y_assign rfl rfl) (Pl_y rfl (wtd0 rfl) rfl rfl (y_assign rfl rfl) (Pl_nil (Th_n (hK5 _ _ ?_))))))
      refine Wp_ret (Fq_ret (Res2 rfl rfl rfl) ?_)
      have he1 : bsearch_m x target c = (s9, (c (ix x s9) target) == 0) := by unfold bsearch_m; rewrite [hLk1]; (try dsimp only); all_goals rewrite [if_pos hc1]; all_goals rfl
      rewrite [he1]
      exact ⟨rfl, hF⟩
    have hc1 := dF hc1
    refine Pl_s rfl (wtdF rfl rfl rfl) rfl rfl (Pl_s rfl (wtdF rfl rfl rfl) rfl rfl (Pl_s rfl (wtdF rfl rfl rfl) rfl rfl (Pl_s rfl (wtdF rfl rfl rfl) rfl rfl (Pl_s rfl (wtdF rfl rfl rfl) rfl rfl (Pl_s rfl (wtdF rfl rfl rfl) rfl rfl (Pl_s rfl (wtdF rfl rfl rfl) rfl rfl (Pl_s rfl (wtdF rfl rfl rfl) rfl rfl (Pl_y rfl (wtd0 rfl) rfl rfl (y_pick_f rfl rfl rfl) (Pl_y rfl (wtd0 rfl) rfl rfl (y_assign rfl rfl) (Pl_y rfl (wtd0 rfl) rfl rfl (y_assign rfl rfl) (Pl_nil (Th_n (hK5 _ _ ?_)))))))))))))
    refine Wp_ret (Fq_ret (Res2 rfl rfl rfl) ?_)
    have he2 : bsearch_m x target c = (s9, false) := by unfold bsearch_m; rewrite [hLk1]; (try dsimp only); all_goals rewrite [if_neg hc1]; all_goals rfl
    rewrite [he2]
    exact ⟨rfl, hF⟩
  refine Wp_loopE (fun m E W => ∃ (s9 : Int) (s10 : Int), E = [(0, .slice A_x x.length c_x), (2, fv_c), (4, .pointer (some ⟨g1, 0, none⟩)), (8, .int .i64 (x.length : Int)), (9, .int .i64 s9), (10, .int .i64 s10)] ∧ bsearch_L1 x target c m s9 s10 = bsearch_L1 x target c (((x.length : Int) - (0 : Int)).toNat + 1) (0 : Int) (x.length : Int) ∧ (s10 - s9).toNat < m ∧ (0 ≤ s9 ∧ s9 ≤ s10 ∧ s10 ≤ x.length) ∧ St X W [(some g1, Cl [.int .i64 target.id.origin, .int .u32 target.id.seq, .int .i64 target.n] 43)] [kS A_x x.length c_x 3 (x.flatMap tagMC)] ∧ Fr ([]) w W) (((x.length : Int) - (0 : Int)).toNat + 1) [(0, _), (2, _), (4, _), (8, _), (9, _), (10, _)] ⟨rfl, rfl, rfl, rfl, rfl, rfl, trivial⟩ ?_ ?_
  · exact ⟨_, _, rfl, rfl, Nat.lt_succ_self _, by first | omega | (simp; done) | (simp; omega), st, hF⟩
  rintro m E w4 ⟨s9, s10, rfl, hL1, hmu, hinv, st, hF⟩
  obtain ⟨fuel, rfl⟩ : ∃ q, m = q + 1 := ⟨m - 1, by omega⟩
  refine Wp_seq fun K6 hK6 => ?_
  refine Wp_seq fun K7 hK7 => ?_
  refine Wp_region (Lmv rfl rfl rfl rfl rfl (Lmv rfl rfl rfl rfl rfl (Ls_y (wtd0 rfl) rfl rfl (y_lt rfl rfl rfl) (Ls_nil (Th_n (hK7 _ _ ?_))))))
  refine Wp_cond rfl (fun hc2 => ?_) (fun hc2 => ?_)
  · have hc2 := dT hc2
    refine Wp_skip (Th_n (hK6 _ _ ?_))
    refine Wp_block (Wp_seq fun K8 hK8 => ?_)
    refine Wp_region (Lmv rfl rfl rfl rfl rfl (Lmv rfl rfl rfl rfl rfl (Ls_y (wtd0 rfl) rfl rfl (y_add (c := s9 + s10) rfl rfl rfl (wf_i64 (by first | omega | (simp; done) | (simp; omega)))) ?_)))
    refine Ls_y (wtd0 rfl) rfl rfl (y_cvi (c := s9 + s10) rfl rfl Try.underlying3 Try.underlying144 (wf_u64 (by omega))) ?_
    refine Ls_y (wtd0 rfl) rfl rfl (y_shrC 1 2 rfl rfl rfl (by decide) rfl rfl (by decide)) ?_
    refine Ls_y (wtd0 rfl) rfl rfl (y_cvi (c := (s9 + s10) / 2) rfl rfl Try.underlying144 Try.underlying3 (wf_i64 (by omega))) ?_
    refine Las rfl rfl rfl rfl rfl (Ls_nil (Th_n (hK8 _ _ ?_)))
    refine Wp_seq fun K9 hK9 => ?_
    refine Wp_plan (fun W => St X W (pickL (hOf st) [0]) (kOf st)) [(true, 0), (true, 1), (true, 2), (true, 3), (true, 4), (true, 5), (false, 6), (true, 7)] Ty.mx_0 (by kernel_rfl) (by kernel_rfl) rfl ((st.picks [0] (by decide)).drew) ?_
    have st := st.drew
    have hF := hF.step0 (Fr.drew _)
    refine Pmv rfl rfl rfl rfl rfl rfl (Pmv rfl rfl rfl rfl rfl rfl (Pmv rfl rfl rfl rfl rfl rfl ?_))
    obtain ⟨gi2, bi2, egi2⟩ := (st.k (i := 0) rfl).addr (fun _ => rfl) (by decide) (q := (s9 + s10) / 2) (by first | omega | (simp; done) | (simp; omega)) (by first | omega | (simp; done) | (simp; omega))
    subst egi2
    refine Pl_y rfl (wtd0 rfl) rfl rfl (y_ixa (q := (s9 + s10) / 2) rfl rfl rfl Ty.es_30 (by first | omega | (simp; done) | (simp; omega)) (by first | omega | (simp; done) | (simp; omega))) ?_
    refine Pl_y rfl (wtd0 rfl) rfl rfl (y_ldk (q := (s9 + s10) / 2) rfl rfl Ty.ag_43 (fun _ h => h.k (i := 0) rfl) (fun _ => rfl) (by first | omega | (simp; done) | (simp; omega)) (by first | omega | (simp; done) | (simp; omega))) ?_
    refine Pl_y rfl (wtd0 rfl) rfl rfl (y_loadw (i := 0) rfl rfl Ty.ag_43 (fun _ h => h.hp) rfl rfl) ?_
    refine Pl_a rfl (wtd0 rfl) (by rfl) ?_
    refine a_callv rfl rfl rfl rfl rfl (hp_c _ (ix x ((s9 + s10) / 2)) target hF) (fun v w5 ⟨hv, hf⟩ => ?_)
    subst hv
    have st := st.keep0 hf
    have hF := hF.step0 hf
    have st : St X w5 [(_, Cl [_, _, _] _)] [_] := st
    refine ⟨(st.picks [0] (by decide)).takeK 1, ?_⟩
    refine Pl_y rfl (wtd0 rfl) rfl rfl (y_lt rfl rfl rfl) (Pl_nil (Th_n (hK9 _ _ ?_)))
    refine Wp_cond rfl (fun hc3 => ?_) (fun hc3 => ?_)
    · have hc3 := dT hc3
      refine Wp_region (Lmv rfl rfl rfl rfl rfl (Ls_y (wtd0 rfl) rfl rfl (y_add (c := ((s9 + s10) / 2) + 1) rfl rfl rfl (wf_i64 (by first | omega | (simp; done) | (simp; omega)))) ?_))
      refine Las rfl rfl rfl rfl rfl (Ls_nil (Ib_n (Th_n (?_))))
      have hE1 : bsearch_L1 x target c fuel (((s9 + s10) / 2) + 1) s10 = bsearch_L1 x target c (((x.length : Int) - (0 : Int)).toNat + 1) (0 : Int) (x.length : Int) := by rewrite [← hL1, bsearch_L1]; rewrite [if_pos hc2, if_pos hc3]; rfl
      exact ⟨fuel, [(0, _), (2, _), (4, _), (8, _), (9, _), (10, _)], Nat.lt_succ_self _, ⟨rfl, rfl, rfl, rfl, rfl, rfl, trivial⟩, (((s9 + s10) / 2) + 1), s10, rfl, hE1, by first | omega | (simp; done) | (simp; omega), by first | omega | (simp; done) | (simp; omega), (st.picks [0] (by decide)).pickK [0], hF⟩
    have hc3 := dF hc3
    refine Wp_region (Lmv rfl rfl rfl rfl rfl (Las rfl rfl rfl rfl rfl (Ls_nil (Ib_n (Th_n (?_))))))
    have hE2 : bsearch_L1 x target c fuel s9 ((s9 + s10) / 2) = bsearch_L1 x target c (((x.length : Int) - (0 : Int)).toNat + 1) (0 : Int) (x.length : Int) := by rewrite [← hL1, bsearch_L1]; rewrite [if_pos hc2, if_neg hc3]; rfl
    exact ⟨fuel, [(0, _), (2, _), (4, _), (8, _), (9, _), (10, _)], Nat.lt_succ_self _, ⟨rfl, rfl, rfl, rfl, rfl, rfl, trivial⟩, s9, ((s9 + s10) / 2), rfl, hE2, by first | omega | (simp; done) | (simp; omega), by first | omega | (simp; done) | (simp; omega), (st.picks [0] (by decide)).pickK [0], hF⟩
  have hc2 := dF hc2
  refine Wp_exit (Th_e (Th_e (Ib_hit (Th_n (?_)))))
  have hE3 : bsearch_L1 x target c (((x.length : Int) - (0 : Int)).toNat + 1) (0 : Int) (x.length : Int) = .inr (s9, s10) := by rewrite [← hL1, bsearch_L1]; rewrite [if_neg hc2]; rfl
  exact hout1 _ [(0, _), (2, _), (4, _), (8, _), (9, _), (10, _)] _ ⟨rfl, rfl, rfl, rfl, rfl, rfl, trivial⟩ ⟨s9, s10, rfl, hE3, by first | omega | (simp; done) | (simp; omega), (st.picks [0] (by decide)).pickK [0], hF⟩

def strictF_L1 {α : Type} [Inhabited α] [DecidableEq α] (l : List α) (c : α → α → Int) : Nat → Int → (Bool) ⊕ (Int)
  | 0, s5 => .inr (s5)
  | fuel + 1, s5 =>
    if s5 < (l.length : Int) then
      if 0 ≤ (c (ix l (s5 - 1)) (ix l s5)) then
        .inl false
      else
        strictF_L1 l c fuel (s5 + 1)
    else
      .inr (s5)
def strictF_m {α : Type} [Inhabited α] [DecidableEq α] (l : List α) (c : α → α → Int) : Bool :=
  match strictF_L1 l c (((l.length : Int) - (1 : Int)).toNat + 1) (1 : Int) with
  | .inl r => r
  | .inr (s5) =>
    true


set_option maxRecDepth 20000 in
theorem strictAdd_ok (X : List Nat) (w : World) (hX : Lo X w) (l : List AddM) (A_l : Option Addr) (c_l : Nat) (fv_c : Value) (c : AddM → AddM → Int) (h_l : Sld X w A_l l.length c_l 4 (l.flatMap addMC)) (hp_c : ∀ (w1 : World) (x0 : AddM) (x1 : AddM), Fr ([]) w w1 → FnV Try.prog fv_c [.agg (addMC x0).toArray, .agg (addMC x1).toArray] w1 fun v w2 => v = .int .i64 (c x0 x1) ∧ Fr [] w1 w2) :
    Fn Try.prog 59 [.slice A_l l.length c_l, fv_c] w fun v w' => v = .bool (strictF_m l c) ∧ Fr [] w w' := by
  refine Fn_of 24 Ty.en_59 Try.func59 rfl rfl rfl ?_
  dsimp only [argEnv]
  have st : St X w [] [kS A_l l.length c_l 4 (l.flatMap addMC)] := (St.nil (X := X) (w := w) hX).addK (kS A_l l.length c_l 4 (l.flatMap addMC)) h_l
  have hF := Fr.refl ([]) w
  have hleA_l := (st.k (i := 0) rfl).le
  refine Wp_seq fun K1 hK1 => ?_
  refine Wp_region (Las rfl rfl rfl rfl rfl (Ls_nil (Th_n (hK1 _ _ ?_))))
  refine Wp_seq fun K2 hK2 => ?_
  refine Wp_seq fun K3 hK3 => ?_
  refine Wp_region (Las rfl rfl rfl rfl rfl (Ls_nil (Th_n (hK3 _ _ ?_))))
  refine Wp_block (use_out hK2 (fun E W => ∃ (s5 : Int), E = [(0, .slice A_l l.length c_l), (1, fv_c), (5, .int .i64 s5)] ∧ strictF_L1 l c (((l.length : Int) - (1 : Int)).toNat + 1) (1 : Int) = .inr (s5) ∧ (1 ≤ s5) ∧ St X W [] [kS A_l l.length c_l 4 (l.flatMap addMC)] ∧ Fr ([]) w W) ?_ fun hout1 => ?_)
  · rintro E w1 ⟨s5, rfl, hLk1, hinv, st, hF⟩
    refine Wp_seq fun K4 hK4 => ?_
    refine Wp_region (Las rfl rfl rfl rfl rfl (Ls_nil (Th_n (hK4 _ _ ?_))))
    refine Wp_ret (Fq_ret (Res1 rfl rfl) ?_)
    have he1 : strictF_m l c = true := by unfold strictF_m; rewrite [hLk1]; (try dsimp only); all_goals rfl
    rewrite [he1]
    exact ⟨rfl, hF⟩
  refine Wp_loopE (fun m E W => ∃ (s5 : Int), E = [(0, .slice A_l l.length c_l), (1, fv_c), (5, .int .i64 s5)] ∧ strictF_L1 l c m s5 = strictF_L1 l c (((l.length : Int) - (1 : Int)).toNat + 1) (1 : Int) ∧ ((l.length : Int) - s5).toNat < m ∧ (1 ≤ s5) ∧ St X W [] [kS A_l l.length c_l 4 (l.flatMap addMC)] ∧ Fr ([]) w W) (((l.length : Int) - (1 : Int)).toNat + 1) [(0, _), (1, _), (5, _)] ⟨rfl, rfl, rfl, trivial⟩ ?_ ?_
  · exact ⟨_, rfl, rfl, Nat.lt_succ_self _, by first | omega | (simp; done) | (simp; omega), st, hF⟩
  rintro m E w2 ⟨s5, rfl, hL1, hmu, hinv, st, hF⟩
  obtain ⟨fuel, rfl⟩ : ∃ q, m = q + 1 := ⟨m - 1, by omega⟩
  refine Wp_seq fun K5 hK5 => ?_
  refine Wp_seq fun K6 hK6 => ?_
  refine Wp_region (Lmv rfl rfl rfl rfl rfl (Lmv rfl rfl rfl rfl rfl (Ls_y (wtd0 rfl) rfl rfl (y_lenl rfl rfl Try.underlying53) ?_)))
  refine Ls_y (wtd0 rfl) rfl rfl (y_lt rfl rfl rfl) (Ls_nil (Th_n (hK6 _ _ ?_)))
  refine Wp_cond rfl (fun hc1 => ?_) (fun hc1 => ?_)
  · have hc1 := dT hc1
    refine Wp_skip (Th_n (hK5 _ _ ?_))
    refine Wp_seq fun K7 hK7 => ?_
    refine Wp_block (Wp_seq fun K8 hK8 => ?_)
    refine Wp_plan (fun W => St X W (pickL (hOf st) []) (kOf st)) [(true, 0), (true, 1), (true, 2), (true, 3), (true, 4), (true, 5), (true, 6), (true, 7), (true, 8), (true, 9), (false, 10), (true, 11)] Ty.mx_0 (by kernel_rfl) (by kernel_rfl) rfl ((st.picks [] (by decide)).drew) ?_
    have st := st.drew
    have hF := hF.step0 (Fr.drew _)
    refine Pmv rfl rfl rfl rfl rfl rfl (Pmv rfl rfl rfl rfl rfl rfl (Pmv rfl rfl rfl rfl rfl rfl (Pl_y rfl (wtd0 rfl) rfl rfl (y_sub (c := s5 - 1) rfl rfl rfl (wf_i64 (by first | omega | (simp; done) | (simp; omega)))) ?_)))
    obtain ⟨gi1, bi1, egi1⟩ := (st.k (i := 0) rfl).addr (fun _ => rfl) (by decide) (q := s5 - 1) (by first | omega | (simp; done) | (simp; omega)) (by first | omega | (simp; done) | (simp; omega))
    subst egi1
    refine Pl_y rfl (wtd0 rfl) rfl rfl (y_ixa (q := s5 - 1) rfl rfl rfl Ty.es_53 (by first | omega | (simp; done) | (simp; omega)) (by first | omega | (simp; done) | (simp; omega))) ?_
    refine Pl_y rfl (wtd0 rfl) rfl rfl (y_ldk (q := s5 - 1) rfl rfl Ty.ag_106 (fun _ h => h.k (i := 0) rfl) (fun _ => rfl) (by first | omega | (simp; done) | (simp; omega)) (by first | omega | (simp; done) | (simp; omega))) ?_
    refine Pmv rfl rfl rfl rfl rfl rfl (Pmv rfl rfl rfl rfl rfl rfl (Pl_y rfl (wtd0 rfl) rfl rfl (y_ixa (q := s5) rfl rfl rfl Ty.es_53 (by first | omega | (simp; done) | (simp; omega)) (by first | omega | (simp; done) | (simp; omega))) ?_))
    refine Pl_y rfl (wtd0 rfl) rfl rfl (y_ldk (q := s5) rfl rfl Ty.ag_106 (fun _ h => h.k (i := 0) rfl) (fun _ => rfl) (by first | omega | (simp; done) | (simp; omega)) (by first | omega | (simp; done) | (simp; omega))) ?_
    refine Pl_a rfl (wtd0 rfl) (by rfl) ?_
    refine a_callv rfl rfl rfl rfl rfl (hp_c _ (ix l (s5 - 1)) (ix l s5) hF) (fun v w3 ⟨hv, hf⟩ => ?_)
    subst hv
    have st := st.keep0 hf
    have hF := hF.step0 hf
    have st : St X w3 [] [_] := st
    refine ⟨(st.picks [] (by decide)).takeK 1, ?_⟩
    refine Pl_y rfl (wtd0 rfl) rfl rfl (y_ge rfl rfl rfl) (Pl_nil (Th_n (hK8 _ _ ?_)))
    refine Wp_cond rfl (fun hc2 => ?_) (fun hc2 => ?_)
    · have hc2 := dT hc2
      refine Wp_seq fun K9 hK9 => ?_
      refine Wp_region (Las rfl rfl rfl rfl rfl (Ls_nil (Th_n (hK9 _ _ ?_))))
      refine Wp_ret (Ib_r (Th_r (Th_r (Ib_r (Th_r (Fq_ret (Res1 rfl rfl) ?_))))))
      have hret1 : strictF_L1 l c (((l.length : Int) - (1 : Int)).toNat + 1) (1 : Int) = .inl false := by rewrite [← hL1, strictF_L1]; rewrite [if_pos hc1, if_pos hc2]; rfl
      have he2 : strictF_m l c = false := by unfold strictF_m; rewrite [hret1]; (try dsimp only); all_goals rfl
      rewrite [he2]
      exact ⟨rfl, hF⟩
    have hc2 := dF hc2
    refine Wp_skip (Ib_n (Th_n (hK7 _ _ ?_)))
    refine Wp_region (Lmv rfl rfl rfl rfl rfl (Ls_y (wtd0 rfl) rfl rfl (y_add (c := s5 + 1) rfl rfl rfl (wf_i64 (by first | omega | (simp; done) | (simp; omega)))) ?_))
    refine Las rfl rfl rfl rfl rfl (Ls_nil (Th_n (?_)))
    have hE1 : strictF_L1 l c fuel (s5 + 1) = strictF_L1 l c (((l.length : Int) - (1 : Int)).toNat + 1) (1 : Int) := by rewrite [← hL1, strictF_L1]; rewrite [if_pos hc1, if_neg hc2]; rfl
    exact ⟨fuel, [(0, _), (1, _), (5, _)], Nat.lt_succ_self _, ⟨rfl, rfl, rfl, trivial⟩, (s5 + 1), rfl, hE1, by first | omega | (simp; done) | (simp; omega), by first | omega | (simp; done) | (simp; omega), (st.picks [] (by decide)).pickK [0], hF⟩
  have hc1 := dF hc1
  refine Wp_exit (Th_e (Th_e (Ib_hit (Th_n (?_)))))
  have hE2 : strictF_L1 l c (((l.length : Int) - (1 : Int)).toNat + 1) (1 : Int) = .inr (s5) := by rewrite [← hL1, strictF_L1]; rewrite [if_neg hc1]; rfl
  exact hout1 _ [(0, _), (1, _), (5, _)] _ ⟨rfl, rfl, rfl, trivial⟩ ⟨s5, rfl, hE2, by first | omega | (simp; done) | (simp; omega), (st.picks [] (by decide)).pickK [0], hF⟩



set_option maxRecDepth 20000 in
theorem strictTag_ok (X : List Nat) (w : World) (hX : Lo X w) (l : List TagM) (A_l : Option Addr) (c_l : Nat) (fv_c : Value) (c : TagM → TagM → Int) (h_l : Sld X w A_l l.length c_l 3 (l.flatMap tagMC)) (hp_c : ∀ (w1 : World) (x0 : TagM) (x1 : TagM), Fr ([]) w w1 → FnV Try.prog fv_c [.agg (tagMC x0).toArray, .agg (tagMC x1).toArray] w1 fun v w2 => v = .int .i64 (c x0 x1) ∧ Fr [] w1 w2) :
    Fn Try.prog 62 [.slice A_l l.length c_l, fv_c] w fun v w' => v = .bool (strictF_m l c) ∧ Fr [] w w' := by
  refine Fn_of 24 Ty.en_62 Try.func62 rfl rfl rfl ?_
  dsimp only [argEnv]
  have st : St X w [] [kS A_l l.length c_l 3 (l.flatMap tagMC)] := (St.nil (X := X) (w := w) hX).addK (kS A_l l.length c_l 3 (l.flatMap tagMC)) h_l
  have hF := Fr.refl ([]) w
  have hleA_l := (st.k (i := 0) rfl).le
  refine Wp_seq fun K1 hK1 => ?_
  refine Wp_region (Las rfl rfl rfl rfl rfl (Ls_nil (Th_n (hK1 _ _ ?_))))
  refine Wp_seq fun K2 hK2 => ?_
  refine Wp_seq fun K3 hK3 => ?_
  refine Wp_region (Las rfl rfl rfl rfl rfl (Ls_nil (Th_n (hK3 _ _ ?_))))
  refine Wp_block (use_out hK2 (fun E W => ∃ (s5 : Int), E = [(0, .slice A_l l.length c_l), (1, fv_c), (5, .int .i64 s5)] ∧ strictF_L1 l c (((l.length : Int) - (1 : Int)).toNat + 1) (1 : Int) = .inr (s5) ∧ (1 ≤ s5) ∧ St X W [] [kS A_l l.length c_l 3 (l.flatMap tagMC)] ∧ Fr ([]) w W) ?_ fun hout1 => ?_)
  · rintro E w1 ⟨s5, rfl, hLk1, hinv, st, hF⟩
    refine Wp_seq fun K4 hK4 => ?_
    refine Wp_region (Las rfl rfl rfl rfl rfl (Ls_nil (Th_n (hK4 _ _ ?_))))
    refine Wp_ret (Fq_ret (Res1 rfl rfl) ?_)
    have he1 : strictF_m l c = true := by unfold strictF_m; rewrite [hLk1]; (try dsimp only); all_goals rfl
    rewrite [he1]
    exact ⟨rfl, hF⟩
  refine Wp_loopE (fun m E W => ∃ (s5 : Int), E = [(0, .slice A_l l.length c_l), (1, fv_c), (5, .int .i64 s5)] ∧ strictF_L1 l c m s5 = strictF_L1 l c (((l.length : Int) - (1 : Int)).toNat + 1) (1 : Int) ∧ ((l.length : Int) - s5).toNat < m ∧ (1 ≤ s5) ∧ St X W [] [kS A_l l.length c_l 3 (l.flatMap tagMC)] ∧ Fr ([]) w W) (((l.length : Int) - (1 : Int)).toNat + 1) [(0, _), (1, _), (5, _)] ⟨rfl, rfl, rfl, trivial⟩ ?_ ?_
  · exact ⟨_, rfl, rfl, Nat.lt_succ_self _, by first | omega | (simp; done) | (simp; omega), st, hF⟩
  rintro m E w2 ⟨s5, rfl, hL1, hmu, hinv, st, hF⟩
  obtain ⟨fuel, rfl⟩ : ∃ q, m = q + 1 := ⟨m - 1, by omega⟩
  refine Wp_seq fun K5 hK5 => ?_
  refine Wp_seq fun K6 hK6 => ?_
  refine Wp_region (Lmv rfl rfl rfl rfl rfl (Lmv rfl rfl rfl rfl rfl (Ls_y (wtd0 rfl) rfl rfl (y_lenl rfl rfl Try.underlying30) ?_)))
  refine Ls_y (wtd0 rfl) rfl rfl (y_lt rfl rfl rfl) (Ls_nil (Th_n (hK6 _ _ ?_)))
  refine Wp_cond rfl (fun hc1 => ?_) (fun hc1 => ?_)
  · have hc1 := dT hc1
    refine Wp_skip (Th_n (hK5 _ _ ?_))
    refine Wp_seq fun K7 hK7 => ?_
    refine Wp_block (Wp_seq fun K8 hK8 => ?_)
    refine Wp_plan (fun W => St X W (pickL (hOf st) []) (kOf st)) [(true, 0), (true, 1), (true, 2), (true, 3), (true, 4), (true, 5), (true, 6), (true, 7), (true, 8), (true, 9), (false, 10), (true, 11)] Ty.mx_0 (by kernel_rfl) (by kernel_rfl) rfl ((st.picks [] (by decide)).drew) ?_
    have st := st.drew
    have hF := hF.step0 (Fr.drew _)
    refine Pmv rfl rfl rfl rfl rfl rfl (Pmv rfl rfl rfl rfl rfl rfl (Pmv rfl rfl rfl rfl rfl rfl (Pl_y rfl (wtd0 rfl) rfl rfl (y_sub (c := s5 - 1) rfl rfl rfl (wf_i64 (by first | omega | (simp; done) | (simp; omega)))) ?_)))
    obtain ⟨gi1, bi1, egi1⟩ := (st.k (i := 0) rfl).addr (fun _ => rfl) (by decide) (q := s5 - 1) (by first | omega | (simp; done) | (simp; omega)) (by first | omega | (simp; done) | (simp; omega))
    subst egi1
    refine Pl_y rfl (wtd0 rfl) rfl rfl (y_ixa (q := s5 - 1) rfl rfl rfl Ty.es_30 (by first | omega | (simp; done) | (simp; omega)) (by first | omega | (simp; done) | (simp; omega))) ?_
    refine Pl_y rfl (wtd0 rfl) rfl rfl (y_ldk (q := s5 - 1) rfl rfl Ty.ag_43 (fun _ h => h.k (i := 0) rfl) (fun _ => rfl) (by first | omega | (simp; done) | (simp; omega)) (by first | omega | (simp; done) | (simp; omega))) ?_
    refine Pmv rfl rfl rfl rfl rfl rfl (Pmv rfl rfl rfl rfl rfl rfl (Pl_y rfl (wtd0 rfl) rfl rfl (y_ixa (q := s5) rfl rfl rfl Ty.es_30 (by first | omega | (simp; done) | (simp; omega)) (by first | omega | (simp; done) | (simp; omega))) ?_))
    refine Pl_y rfl (wtd0 rfl) rfl rfl (y_ldk (q := s5) rfl rfl Ty.ag_43 (fun _ h => h.k (i := 0) rfl) (fun _ => rfl) (by first | omega | (simp; done) | (simp; omega)) (by first | omega | (simp; done) | (simp; omega))) ?_
    refine Pl_a rfl (wtd0 rfl) (by rfl) ?_
    refine a_callv rfl rfl rfl rfl rfl (hp_c _ (ix l (s5 - 1)) (ix l s5) hF) (fun v w3 ⟨hv, hf⟩ => ?_)
    subst hv
    have st := st.keep0 hf
    have hF := hF.step0 hf
    have st : St X w3 [] [_] := st
    refine ⟨(st.picks [] (by decide)).takeK 1, ?_⟩
    refine Pl_y rfl (wtd0 rfl) rfl rfl (y_ge rfl rfl rfl) (Pl_nil (Th_n (hK8 _ _ ?_)))
    refine Wp_cond rfl (fun hc2 => ?_) (fun hc2 => ?_)
    · have hc2 := dT hc2
      refine Wp_seq fun K9 hK9 => ?_
      refine Wp_region (Las rfl rfl rfl rfl rfl (Ls_nil (Th_n (hK9 _ _ ?_))))
      refine Wp_ret (Ib_r (Th_r (Th_r (Ib_r (Th_r (Fq_ret (Res1 rfl rfl) ?_))))))
      have hret1 : strictF_L1 l c (((l.length : Int) - (1 : Int)).toNat + 1) (1 : Int) = .inl false := by rewrite [← hL1, strictF_L1]; rewrite [if_pos hc1, if_pos hc2]; rfl
      have he2 : strictF_m l c = false := by unfold strictF_m; rewrite [hret1]; (try dsimp only); all_goals rfl
      rewrite [he2]
      exact ⟨rfl, hF⟩
    have hc2 := dF hc2
    refine Wp_skip (Ib_n (Th_n (hK7 _ _ ?_)))
    refine Wp_region (Lmv rfl rfl rfl rfl rfl (Ls_y (wtd0 rfl) rfl rfl (y_add (c := s5 + 1) rfl rfl rfl (wf_i64 (by first | omega | (simp; done) | (simp; omega)))) ?_))
    refine Las rfl rfl rfl rfl rfl (Ls_nil (Th_n (?_)))
    have hE1 : strictF_L1 l c fuel (s5 + 1) = strictF_L1 l c (((l.length : Int) - (1 : Int)).toNat + 1) (1 : Int) := by rewrite [← hL1, strictF_L1]; rewrite [if_pos hc1, if_neg hc2]; rfl
    exact ⟨fuel, [(0, _), (1, _), (5, _)], Nat.lt_succ_self _, ⟨rfl, rfl, rfl, trivial⟩, (s5 + 1), rfl, hE1, by first | omega | (simp; done) | (simp; omega), by first | omega | (simp; done) | (simp; omega), (st.picks [] (by decide)).pickK [0], hF⟩
  have hc1 := dF hc1
  refine Wp_exit (Th_e (Th_e (Ib_hit (Th_n (?_)))))
  have hE2 : strictF_L1 l c (((l.length : Int) - (1 : Int)).toNat + 1) (1 : Int) = .inr (s5) := by rewrite [← hL1, strictF_L1]; rewrite [if_neg hc1]; rfl
  exact hout1 _ [(0, _), (1, _), (5, _)] _ ⟨rfl, rfl, rfl, trivial⟩ ⟨s5, rfl, hE2, by first | omega | (simp; done) | (simp; omega), (st.picks [] (by decide)).pickK [0], hF⟩

def ogone_m (s : SetM) (t : TagM) : Bool :=
  (bsearch_m s.gone t icompareTag_m).2


set_option maxRecDepth 20000 in
theorem ogone_ok (X : List Nat) (w : World) (hX : Lo X w) (s : SetM) (A_s_adds : Option Addr) (c_s_adds : Nat) (A_s_gone : Option Addr) (c_s_gone : Nat) (t : TagM) (h_s_adds : Sld X w A_s_adds s.adds.length c_s_adds 4 (s.adds.flatMap addMC)) (h_s_gone : Sld X w A_s_gone s.gone.length c_s_gone 3 (s.gone.flatMap tagMC)) (h2 : s.gone.length ≤ 1000000) :
    Fn Try.prog 65 [.agg #[.slice A_s_adds s.adds.length c_s_adds, .slice A_s_gone s.gone.length c_s_gone], .agg (tagMC t).toArray] w fun v w' => v = .bool (ogone_m s t) ∧ Fr [] w w' := by
  refine Fn_of 15 Ty.en_65 Try.func65 rfl rfl rfl ?_
  dsimp only [argEnv]
  have st : St X w [] [kS A_s_adds s.adds.length c_s_adds 4 (s.adds.flatMap addMC), kS A_s_gone s.gone.length c_s_gone 3 (s.gone.flatMap tagMC)] := ((St.nil (X := X) (w := w) hX).addK (kS A_s_adds s.adds.length c_s_adds 4 (s.adds.flatMap addMC)) h_s_adds).addK (kS A_s_gone s.gone.length c_s_gone 3 (s.gone.flatMap tagMC)) h_s_gone
  have hF := Fr.refl ([]) w
  have hleA_s_adds := (st.k (i := 0) rfl).le
  have hleA_s_gone := (st.k (i := 1) rfl).le
  refine Wp_seq fun K1 hK1 => ?_
  refine Wp_region (Ls_a (wtd0 rfl) ?_)
  refine a_box rfl rfl rfl rfl st.hp (fun g1 w1 (hp : Hp w1 [(_, Cl [_, _] _)]) hf hg1 => ?_)
  have st : St X w1 [(_, Cl [_, _] _)] [_, _] := st.push hp hf hg1
  have hg1 := Nat.le_trans hF.size hg1
  have hF := hF.step0 hf
  refine Ls_a (wtd0 rfl) ?_
  refine a_box rfl rfl rfl rfl st.hp (fun g2 w2 (hp : Hp w2 [(_, Cl [_, _] _), (_, Cl [_, _, _] _)]) hf hg2 => ?_)
  have st : St X w2 [(_, Cl [_, _] _), (_, Cl [_, _, _] _)] [_, _] := st.push hp hf hg2
  have hg2 := Nat.le_trans hF.size hg2
  have hF := hF.step0 hf
  refine Las rfl rfl rfl rfl rfl (Ls_nil (Th_n (hK1 _ _ ?_)))
  refine Wp_seq fun K2 hK2 => ?_
  refine Wp_region (Ls_y (wtd0 rfl) rfl rfl (y_fld rfl rfl Ty.fo_55_1) (Ls_y (wtd0 rfl) rfl rfl (y_load (i := 0) rfl rfl Ty.pl_30 (fun _ e => e ▸ st.hp) rfl rfl) ?_))
  refine Ls_y (wtd0 rfl) rfl rfl (y_loadw (i := 1) rfl rfl Ty.ag_43 (fun _ e => e ▸ st.hp) rfl rfl) ?_
  refine Ls_a (wtd0 rfl) ?_
  refine a_call rfl rfl rfl rfl (bsearch_ok (keys (hOf st) ++ X) _ st.Lo s.gone A_s_gone c_s_gone t (.func (.func 63) #[] #[]) icompareTag_m (st.k (i := 1) rfl) (fun w1 x0 x1 _ => FnV.of (icompareTag_ok w1 x0 x1)) h2) (fun v w3 ⟨hv, hf⟩ => ?_)
  subst hv
  have st := st.keep0 hf
  have hF := hF.step0 hf
  have st : St X w3 [(_, Cl [_, _] _), (_, Cl [_, _, _] _)] [_, _] := st
  refine Lmv rfl rfl rfl rfl rfl (Lex rfl rfl rfl rfl rfl rfl (Lex rfl rfl rfl rfl rfl rfl (Las rfl rfl rfl rfl rfl (Las rfl rfl rfl rfl rfl (Ls_nil (Th_n (hK2 _ _ ?_)))))))
  refine Wp_seq fun K3 hK3 => ?_
  refine Wp_region (Lmv rfl rfl rfl rfl rfl (Las rfl rfl rfl rfl rfl (Ls_nil (Th_n (hK3 _ _ ?_)))))
  refine Wp_ret (Fq_ret (Res1 rfl rfl) ?_)
  have he1 : ogone_m s t = ((bsearch_m s.gone t icompareTag_m).2) := by unfold ogone_m; rfl
  rewrite [he1]
  exact ⟨rfl, hF⟩

def ocheck1_m (a : AddM) : Bool :=
  onotTag_m a.tag


set_option maxRecDepth 20000 in
theorem ocheck1_ok (w : World) (a : AddM) :
    Fn Try.prog 56 [.agg (addMC a).toArray] w fun v w' => v = .bool (ocheck1_m a) ∧ Fr [] w w' := by
  refine Fn_of 6 Ty.en_56 Try.func56 rfl rfl rfl ?_
  dsimp only [argEnv]
  have st : St [] w [] [] := St.nil (X := []) (w := w) (by simp [Lo])
  have hF := Fr.refl ([]) w
  refine Wp_seq fun K1 hK1 => ?_
  refine Wp_region (Ls_a (wtd0 rfl) ?_)
  refine a_box rfl rfl rfl rfl st.hp (fun g1 w1 (hp : Hp w1 [(_, Cl [_, _, _, _] _)]) hf hg1 => ?_)
  have st : St [] w1 [(_, Cl [_, _, _, _] _)] [] := st.push hp hf hg1
  have hg1 := Nat.le_trans hF.size hg1
  have hF := hF.step0 hf
  refine Las rfl rfl rfl rfl rfl (Ls_nil (Th_n (hK1 _ _ ?_)))
  refine Wp_seq fun K2 hK2 => ?_
  refine Wp_region (Ls_y (wtd0 rfl) rfl rfl (y_fld rfl rfl Ty.fo_106_0) (Ls_y (wtd0 rfl) rfl rfl (y_loadm (i := 0) rfl rfl Ty.ag_43 (fun _ e => e ▸ st.hp) rfl rfl rfl) ?_))
  refine Ls_a (wtd0 rfl) ?_
  refine a_call rfl rfl rfl rfl (onotTag_ok _ a.tag) (fun v w2 ⟨hv, hf⟩ => ?_)
  subst hv
  have st := st.keep0 hf
  have hF := hF.step0 hf
  have st : St [] w2 [(_, Cl [_, _, _, _] _)] [] := st
  refine Las rfl rfl rfl rfl rfl (Ls_nil (Th_n (hK2 _ _ ?_)))
  refine Wp_ret (Fq_ret (Res1 rfl rfl) ?_)
  have he1 : ocheck1_m a = (onotTag_m a.tag) := by unfold ocheck1_m; rfl
  rewrite [he1]
  exact ⟨rfl, hF⟩

def ocheck2_m (a : AddM) (b : AddM) : Int :=
  obyTag_m a b.tag


set_option maxRecDepth 20000 in
theorem ocheck2_ok (w : World) (a : AddM) (b : AddM) :
    Fn Try.prog 60 [.agg (addMC a).toArray, .agg (addMC b).toArray] w fun v w' => v = .int .i64 (ocheck2_m a b) ∧ Fr [] w w' := by
  refine Fn_of 9 Ty.en_60 Try.func60 rfl rfl rfl ?_
  dsimp only [argEnv]
  have st : St [] w [] [] := St.nil (X := []) (w := w) (by simp [Lo])
  have hF := Fr.refl ([]) w
  refine Wp_seq fun K1 hK1 => ?_
  refine Wp_region (Ls_a (wtd0 rfl) ?_)
  refine a_box rfl rfl rfl rfl st.hp (fun g1 w1 (hp : Hp w1 [(_, Cl [_, _, _, _] _)]) hf hg1 => ?_)
  have st : St [] w1 [(_, Cl [_, _, _, _] _)] [] := st.push hp hf hg1
  have hg1 := Nat.le_trans hF.size hg1
  have hF := hF.step0 hf
  refine Ls_a (wtd0 rfl) ?_
  refine a_box rfl rfl rfl rfl st.hp (fun g2 w2 (hp : Hp w2 [(_, Cl [_, _, _, _] _), (_, Cl [_, _, _, _] _)]) hf hg2 => ?_)
  have st : St [] w2 [(_, Cl [_, _, _, _] _), (_, Cl [_, _, _, _] _)] [] := st.push hp hf hg2
  have hg2 := Nat.le_trans hF.size hg2
  have hF := hF.step0 hf
  refine Las rfl rfl rfl rfl rfl (Ls_nil (Th_n (hK1 _ _ ?_)))
  refine Wp_seq fun K2 hK2 => ?_
  refine Wp_region (Ls_y (wtd0 rfl) rfl rfl (y_loadw (i := 0) rfl rfl Ty.ag_106 (fun _ e => e ▸ st.hp) rfl rfl) ?_)
  refine Ls_y (wtd0 rfl) rfl rfl (y_fld rfl rfl Ty.fo_106_0) (Ls_y (wtd0 rfl) rfl rfl (y_loadm (i := 1) rfl rfl Ty.ag_43 (fun _ e => e ▸ st.hp) rfl rfl rfl) ?_)
  refine Ls_a (wtd0 rfl) ?_
  refine a_call rfl rfl rfl rfl (obyTag_ok _ a b.tag) (fun v w3 ⟨hv, hf⟩ => ?_)
  subst hv
  have st := st.keep0 hf
  have hF := hF.step0 hf
  have st : St [] w3 [(_, Cl [_, _, _, _] _), (_, Cl [_, _, _, _] _)] [] := st
  refine Las rfl rfl rfl rfl rfl (Ls_nil (Th_n (hK2 _ _ ?_)))
  refine Wp_ret (Fq_ret (Res1 rfl rfl) ?_)
  have he1 : ocheck2_m a b = (obyTag_m a b.tag) := by unfold ocheck2_m; rfl
  rewrite [he1]
  exact ⟨rfl, hF⟩

def ocheck3_m (a : AddM) (s : SetM) : Bool :=
  if (oelem_m a.elem) = true then
    ogone_m s a.tag
  else
    true


set_option maxRecDepth 20000 in
theorem ocheck3_ok (X : List Nat) (w : World) (a : AddM) (g_s : Nat) (s : SetM) (A_s_adds : Option Addr) (c_s_adds : Nat) (A_s_gone : Option Addr) (c_s_gone : Nat) (hs : St X w [(some g_s, Cl [.slice A_s_adds s.adds.length c_s_adds, .slice A_s_gone s.gone.length c_s_gone] 55)] [kS A_s_adds s.adds.length c_s_adds 4 (s.adds.flatMap addMC), kS A_s_gone s.gone.length c_s_gone 3 (s.gone.flatMap tagMC)]) (h2 : s.gone.length ≤ 1000000) :
    Fn Try.prog 64 [.agg (addMC a).toArray, .pointer (some ⟨g_s, 0, none⟩)] w fun v w' => v = .bool (ocheck3_m a s) ∧ Fr [] w w' := by
  refine Fn_of 14 Ty.en_64 Try.func64 rfl rfl rfl ?_
  dsimp only [argEnv]
  have hs0 := hs
  have st : St X w [(some g_s, Cl [.slice A_s_adds s.adds.length c_s_adds, .slice A_s_gone s.gone.length c_s_gone] 55)] [kS A_s_adds s.adds.length c_s_adds 4 (s.adds.flatMap addMC), kS A_s_gone s.gone.length c_s_gone 3 (s.gone.flatMap tagMC)] := hs
  have hF := Fr.refl ([]) w
  have hleA_s_adds := (st.k (i := 0) rfl).le
  have hleA_s_gone := (st.k (i := 1) rfl).le
  refine Wp_seq fun K1 hK1 => ?_
  refine Wp_region (Ls_a (wtd0 rfl) ?_)
  refine a_box rfl rfl rfl rfl st.hp (fun g1 w1 (hp : Hp w1 [(_, Cl [_, _] _), (_, Cl [_, _, _, _] _)]) hf hg1 => ?_)
  have st : St X w1 [(_, Cl [_, _] _), (_, Cl [_, _, _, _] _)] [_, _] := st.push hp hf hg1
  have hg1 := Nat.le_trans hF.size hg1
  have hF := hF.step0 hf
  refine Las rfl rfl rfl rfl rfl (Ls_nil (Th_n (hK1 _ _ ?_)))
  refine Wp_seq fun K2 hK2 => ?_
  refine Wp_region (Ls_y (wtd0 rfl) rfl rfl (y_fld rfl rfl Ty.fo_106_1) (Ls_y (wtd0 rfl) rfl rfl (y_load (i := 1) rfl rfl Ty.pl_9 (fun _ e => e ▸ st.hp) rfl rfl) ?_))
  refine Ls_a (wtd0 rfl) ?_
  refine a_call rfl rfl rfl rfl (oelem_ok _ a.elem) (fun v w2 ⟨hv, hf⟩ => ?_)
  subst hv
  have st := st.keep0 hf
  have hF := hF.step0 hf
  have st : St X w2 [(_, Cl [_, _] _), (_, Cl [_, _, _, _] _)] [_, _] := st
  refine Ls_y (wtd0 rfl) rfl rfl (y_not rfl rfl) (Lmv rfl rfl rfl rfl rfl (Ls_bool 8 rfl (fun hc1 => ?_) (fun hc1 => ?_)))
  · have hc1 := bF (nT hc1)
    refine Ls_s (wtdF rfl rfl rfl) rfl rfl (Ls_s (wtdF rfl rfl rfl) rfl rfl (Ls_s (wtdF rfl rfl rfl) rfl rfl (Ls_s (wtdF rfl rfl rfl) rfl rfl (Ls_y (wtd0 rfl) rfl rfl (y_pick_t rfl rfl rfl) (Las rfl rfl rfl rfl rfl (Ls_nil (Th_n (hK2 _ _ ?_))))))))
    refine Wp_ret (Fq_ret (Res1 rfl rfl) ?_)
    have he1 : ocheck3_m a s = true := by unfold ocheck3_m; rewrite [if_neg hc1]; rfl
    rewrite [he1]
    exact ⟨rfl, hF⟩
  have hc1 := (nF hc1)
  refine Ls_y (wtdT rfl rfl rfl) rfl rfl (y_loadw (i := 0) rfl rfl Ty.ag_55 (fun _ e => e ▸ st.hp) rfl rfl) ?_
  refine Ls_y (wtdT rfl rfl rfl) rfl rfl (y_fld rfl rfl Ty.fo_106_0) (Ls_y (wtdT rfl rfl rfl) rfl rfl (y_loadm (i := 1) rfl rfl Ty.ag_43 (fun _ e => e ▸ st.hp) rfl rfl rfl) ?_)
  refine Ls_a (wtdT rfl rfl rfl) ?_
  refine a_call rfl rfl rfl rfl (ogone_ok (keys (hOf st) ++ X) _ st.Lo s A_s_adds c_s_adds A_s_gone c_s_gone a.tag (st.k (i := 0) rfl) (st.k (i := 1) rfl) h2) (fun v w3 ⟨hv, hf⟩ => ?_)
  subst hv
  have st := st.keep0 hf
  have hF := hF.step0 hf
  have st : St X w3 [(_, Cl [_, _] _), (_, Cl [_, _, _, _] _)] [_, _] := st
  refine Ls_y (wtd0 rfl) rfl rfl (y_pick_f rfl rfl rfl) (Las rfl rfl rfl rfl rfl (Ls_nil (Th_n (hK2 _ _ ?_))))
  refine Wp_ret (Fq_ret (Res1 rfl rfl) ?_)
  have he2 : ocheck3_m a s = (ogone_m s a.tag) := by unfold ocheck3_m; rewrite [if_pos hc1]; rfl
  rewrite [he2]
  exact ⟨rfl, hF⟩

def ocheck_c1 (s : SetM) : Bool :=
  (if 4096 < (s.adds.length : Int) then true else decide (4096 < (s.gone.length : Int)))

def ocheck_c2 (s : SetM) : Bool :=
  (if (containsF_m s.adds ocheck1_m) = true then true else containsF_m s.gone onotTag_m)

def ocheck_c3 (s : SetM) : Bool :=
  (if (strictF_m s.gone icompareTag_m) = true then containsF_m s.adds (fun x0 => ocheck3_m x0 s) else true)
def ocheck_m (s : SetM) : Int :=
  if (ocheck_c1 s) = true then
    8
  else
    if (ocheck_c2 s) = true then
      2
    else
      if (strictF_m s.adds ocheck2_m) = true then
        if (ocheck_c3 s) = true then
          3
        else
          0
      else
        3

theorem ocheck_c1_iff (s : SetM) : (ocheck_c1 s = true) ↔ ((4096 < (s.adds.length : Int)) ∨ (4096 < (s.gone.length : Int))) := by
  unfold ocheck_c1; exact (ci1 decide_eq_true_iff)

theorem ocheck_c2_iff (s : SetM) : (ocheck_c2 s = true) ↔ (((containsF_m s.adds ocheck1_m) = true) ∨ ((containsF_m s.gone onotTag_m) = true)) := by
  unfold ocheck_c2; exact (ci1 Iff.rfl)

theorem ocheck_c3_iff (s : SetM) : (ocheck_c3 s = true) ↔ (¬ ((strictF_m s.gone icompareTag_m) = true) ∨ ((containsF_m s.adds (fun x0 => ocheck3_m x0 s)) = true)) := by
  unfold ocheck_c3; exact (ci4 Iff.rfl)

set_option maxRecDepth 20000 in
theorem ocheck_ok (X : List Nat) (w : World) (hX : Lo X w) (s : SetM) (A_s_adds : Option Addr) (c_s_adds : Nat) (A_s_gone : Option Addr) (c_s_gone : Nat) (h_s_adds : Sld X w A_s_adds s.adds.length c_s_adds 4 (s.adds.flatMap addMC)) (h_s_gone : Sld X w A_s_gone s.gone.length c_s_gone 3 (s.gone.flatMap tagMC)) (h2 : s.gone.length ≤ 1000000) :
    Fn Try.prog 45 [.agg #[.slice A_s_adds s.adds.length c_s_adds, .slice A_s_gone s.gone.length c_s_gone]] w fun v w' => v = .int .i64 (ocheck_m s) ∧ Fr [] w w' := by
  refine Fn_of 38 Ty.en_45 Try.func45 rfl rfl rfl ?_
  dsimp only [argEnv]
  have st : St X w [] [kS A_s_adds s.adds.length c_s_adds 4 (s.adds.flatMap addMC), kS A_s_gone s.gone.length c_s_gone 3 (s.gone.flatMap tagMC)] := ((St.nil (X := X) (w := w) hX).addK (kS A_s_adds s.adds.length c_s_adds 4 (s.adds.flatMap addMC)) h_s_adds).addK (kS A_s_gone s.gone.length c_s_gone 3 (s.gone.flatMap tagMC)) h_s_gone
  have hF := Fr.refl ([]) w
  have hleA_s_adds := (st.k (i := 0) rfl).le
  have hleA_s_gone := (st.k (i := 1) rfl).le
  refine Wp_seq fun K1 hK1 => ?_
  refine Wp_region (Ls_a (wtd0 rfl) ?_)
  refine a_box rfl rfl rfl rfl st.hp (fun g1 w1 (hp : Hp w1 [(_, Cl [_, _] _)]) hf hg1 => ?_)
  have st : St X w1 [(_, Cl [_, _] _)] [_, _] := st.push hp hf hg1
  have hg1 := Nat.le_trans hF.size hg1
  have hF := hF.step0 hf
  refine Las rfl rfl rfl rfl rfl (Ls_nil (Th_n (hK1 _ _ ?_)))
  refine Wp_seq fun K2 hK2 => ?_
  refine Wp_seq fun K3 hK3 => ?_
  refine use_out hK3 (fun E W => E = [(1, .pointer (some ⟨g1, 0, none⟩)), (13, .bool (ocheck_c1 s))] ∧ St X W (hOf st) (kOf st) ∧ Fr ([]) w W) ?_ fun hout1 => ?_
  · rintro E w2 ⟨rfl, st, hF⟩
    have st : St X w2 [(_, Cl [_, _] _)] [_, _] := st
    refine Wp_cond rfl (fun hc1 => ?_) (fun hc1 => ?_)
    · have jhc1 := (ocheck_c1_iff s).1 hc1
      refine Wp_seq fun K4 hK4 => ?_
      refine Wp_region (Las rfl rfl rfl rfl rfl (Ls_nil (Th_n (hK4 _ _ ?_))))
      refine Wp_ret (Th_r (Fq_ret (Res1 rfl rfl) ?_))
      have he1 : ocheck_m s = 8 := by unfold ocheck_m; rewrite [if_pos hc1]; rfl
      rewrite [he1]
      exact ⟨rfl, hF⟩
    have jhc1 := mt (ocheck_c1_iff s).2 (bF hc1)
    have hc1 := bF hc1
    refine Wp_skip (Th_n (hK2 _ _ ?_))
    refine Wp_seq fun K5 hK5 => ?_
    refine Wp_seq fun K6 hK6 => ?_
    refine use_out hK6 (fun E W => E = [(1, .pointer (some ⟨g1, 0, none⟩)), (21, .bool (ocheck_c2 s))] ∧ St X W (hOf st) (kOf st) ∧ Fr ([]) w W) ?_ fun hout2 => ?_
    · rintro E w3 ⟨rfl, st, hF⟩
      have st : St X w3 [(_, Cl [_, _] _)] [_, _] := st
      refine Wp_cond rfl (fun hc2 => ?_) (fun hc2 => ?_)
      · have jhc2 := (ocheck_c2_iff s).1 hc2
        refine Wp_seq fun K7 hK7 => ?_
        refine Wp_region (Las rfl rfl rfl rfl rfl (Ls_nil (Th_n (hK7 _ _ ?_))))
        refine Wp_ret (Th_r (Fq_ret (Res1 rfl rfl) ?_))
        have he2 : ocheck_m s = 2 := by unfold ocheck_m; rewrite [if_neg hc1, if_pos hc2]; rfl
        rewrite [he2]
        exact ⟨rfl, hF⟩
      have jhc2 := mt (ocheck_c2_iff s).2 (bF hc2)
      have hc2 := bF hc2
      refine Wp_skip (Th_n (hK5 _ _ ?_))
      refine Wp_seq fun K8 hK8 => ?_
      refine Wp_region (Ls_y (wtd0 rfl) rfl rfl (y_fld rfl rfl Ty.fo_55_0) (Ls_y (wtd0 rfl) rfl rfl (y_load (i := 0) rfl rfl Ty.pl_53 (fun _ e => e ▸ st.hp) rfl rfl) ?_))
      refine Ls_a (wtd0 rfl) ?_
      refine a_call rfl rfl rfl rfl (strictAdd_ok (keys (hOf st) ++ X) _ st.Lo s.adds A_s_adds c_s_adds (.func (.func 60) #[] #[]) ocheck2_m (st.k (i := 0) rfl) (fun w1 x0 x1 _ => FnV.of (ocheck2_ok w1 x0 x1))) (fun v w4 ⟨hv, hf⟩ => ?_)
      subst hv
      have st := st.keep0 hf
      have hF := hF.step0 hf
      have st : St X w4 [(_, Cl [_, _] _)] [_, _] := st
      refine Lmv rfl rfl rfl rfl rfl (Ls_bool 25 rfl (fun hc3 => ?_) (fun hc3 => ?_))
      · refine Ls_y (wtdT rfl rfl rfl) rfl rfl (y_fld rfl rfl Ty.fo_55_1) (Ls_y (wtdT rfl rfl rfl) rfl rfl (y_load (i := 0) rfl rfl Ty.pl_30 (fun _ e => e ▸ st.hp) rfl rfl) ?_)
        refine Ls_a (wtdT rfl rfl rfl) ?_
        refine a_call rfl rfl rfl rfl (strictTag_ok (keys (hOf st) ++ X) _ st.Lo s.gone A_s_gone c_s_gone (.func (.func 63) #[] #[]) icompareTag_m (st.k (i := 1) rfl) (fun w1 x0 x1 _ => FnV.of (icompareTag_ok w1 x0 x1))) (fun v w5 ⟨hv, hf⟩ => ?_)
        subst hv
        have st := st.keep0 hf
        have hF := hF.step0 hf
        have st : St X w5 [(_, Cl [_, _] _)] [_, _] := st
        refine Ls_y (wtd0 rfl) rfl rfl (y_pick_t rfl rfl rfl) (Las rfl rfl rfl rfl rfl (Ls_nil (Th_n (hK8 _ _ ?_))))
        refine Wp_seq fun K9 hK9 => ?_
        refine Wp_seq fun K10 hK10 => ?_
        refine use_out hK10 (fun E W => E = [(37, .bool (ocheck_c3 s))] ∧ St X W (hOf st) (kOf st) ∧ Fr ([]) w W) ?_ fun hout3 => ?_
        · rintro E w6 ⟨rfl, st, hF⟩
          have st : St X w6 [(_, Cl [_, _] _)] [_, _] := st
          refine Wp_cond rfl (fun hc4 => ?_) (fun hc4 => ?_)
          · have jhc4 := (ocheck_c3_iff s).1 hc4
            refine Wp_seq fun K11 hK11 => ?_
            refine Wp_region (Las rfl rfl rfl rfl rfl (Ls_nil (Th_n (hK11 _ _ ?_))))
            refine Wp_ret (Th_r (Fq_ret (Res1 rfl rfl) ?_))
            have he3 : ocheck_m s = 3 := by unfold ocheck_m; rewrite [if_neg hc1, if_neg hc2, if_pos hc3, if_pos hc4]; rfl
            rewrite [he3]
            exact ⟨rfl, hF⟩
          have jhc4 := mt (ocheck_c3_iff s).2 (bF hc4)
          have hc4 := bF hc4
          refine Wp_skip (Th_n (hK9 _ _ ?_))
          refine Wp_seq fun K12 hK12 => ?_
          refine Wp_region (Las rfl rfl rfl rfl rfl (Ls_nil (Th_n (hK12 _ _ ?_))))
          refine Wp_ret (Fq_ret (Res1 rfl rfl) ?_)
          have he4 : ocheck_m s = 0 := by unfold ocheck_m; rewrite [if_neg hc1, if_neg hc2, if_pos hc3, if_neg hc4]; rfl
          rewrite [he4]
          exact ⟨rfl, hF⟩
        refine Wp_region (Lmv rfl rfl rfl rfl rfl (Ls_y (wtd0 rfl) rfl rfl (y_not rfl rfl) (Lmv rfl rfl rfl rfl rfl (Ls_bool 32 rfl (fun hc5 => ?_) (fun hc5 => ?_)))))
        · have hc5 := bF (nT hc5)
          refine Ls_s (wtdF rfl rfl rfl) rfl rfl (Ls_s (wtdF rfl rfl rfl) rfl rfl (Ls_s (wtdF rfl rfl rfl) rfl rfl (Ls_s (wtdF rfl rfl rfl) rfl rfl (Ls_y (wtd0 rfl) rfl rfl (y_pick_t rfl rfl rfl) (Ls_nil (Th_n (?_)))))))
          have hcj1 : ocheck_c3 s = true := by unfold ocheck_c3; rewrite [if_neg hc5]; rfl
          exact hout3 _ [(37, _)] _ ⟨rfl, trivial⟩ ⟨by rw [hcj1], (st.picks [0] (by decide)).pickK [0, 1], hF⟩
        have hc5 := (nF hc5)
        refine Ls_y (wtdT rfl rfl rfl) rfl rfl (y_fld rfl rfl Ty.fo_55_0) (Ls_y (wtdT rfl rfl rfl) rfl rfl (y_load (i := 0) rfl rfl Ty.pl_53 (fun _ e => e ▸ st.hp) rfl rfl) ?_)
        refine Ls_y (wtdT rfl rfl rfl) rfl rfl (y_mkfn rfl rfl rfl) ?_
        refine Ls_a (wtdT rfl rfl rfl) ?_
        refine a_call rfl rfl rfl rfl (containsAdd_ok (keys (hOf st) ++ X) _ st.Lo s.adds A_s_adds c_s_adds (.func (.func 64) #[] #[.pointer (some ⟨g1, 0, none⟩)]) (fun x0 => ocheck3_m x0 s) (st.k (i := 0) rfl) (fun w1 x0 hw => FnV.ofc [.pointer (some ⟨g1, 0, none⟩)] (ocheck3_ok (keys (pickL (hOf st) []) ++ X) w1 x0 g1 s A_s_adds c_s_adds A_s_gone c_s_gone ((st.sub [] [0] [0, 1] (by decide)).keep0 hw)  h2))) (fun v w7 ⟨hv, hf⟩ => ?_)
        subst hv
        have st := st.keep0 hf
        have hF := hF.step0 hf
        have st : St X w7 [(_, Cl [_, _] _)] [_, _] := st
        refine Ls_y (wtd0 rfl) rfl rfl (y_pick_f rfl rfl rfl) (Ls_nil (Th_n (?_)))
        have hcj2 : ocheck_c3 s = (containsF_m s.adds (fun x0 => ocheck3_m x0 s)) := by unfold ocheck_c3; rewrite [if_pos hc5]; rfl
        exact hout3 _ [(37, _)] _ ⟨rfl, trivial⟩ ⟨by rw [hcj2], (st.picks [0] (by decide)).pickK [0, 1], hF⟩
      have hc3 := bF hc3
      refine Ls_s (wtdF rfl rfl rfl) rfl rfl (Ls_s (wtdF rfl rfl rfl) rfl rfl (Ls_s (wtdF rfl rfl rfl) rfl rfl (Ls_y (wtd0 rfl) rfl rfl (y_pick_f rfl rfl rfl) (Las rfl rfl rfl rfl rfl (Ls_nil (Th_n (hK8 _ _ ?_)))))))
      refine Wp_seq fun K13 hK13 => ?_
      refine Wp_seq fun K14 hK14 => ?_
      refine Wp_region (Lmv rfl rfl rfl rfl rfl (Ls_y (wtd0 rfl) rfl rfl (y_not rfl rfl) (Lmv rfl rfl rfl rfl rfl (Ls_s (wtdF rfl rfl rfl) rfl rfl (Ls_s (wtdF rfl rfl rfl) rfl rfl (Ls_s (wtdF rfl rfl rfl) rfl rfl (Ls_s (wtdF rfl rfl rfl) rfl rfl (Ls_y (wtd0 rfl) rfl rfl (y_pick_t rfl rfl rfl) (Ls_nil (Th_n (hK14 _ _ ?_)))))))))))
      refine Wp_cond_t rfl (Wp_seq fun K15 hK15 => ?_)
      refine Wp_region (Las rfl rfl rfl rfl rfl (Ls_nil (Th_n (hK15 _ _ ?_))))
      refine Wp_ret (Th_r (Fq_ret (Res1 rfl rfl) ?_))
      have he5 : ocheck_m s = 3 := by unfold ocheck_m; rewrite [if_neg hc1, if_neg hc2, if_neg hc3]; rfl
      rewrite [he5]
      exact ⟨rfl, hF⟩
    refine Wp_region (Ls_y (wtd0 rfl) rfl rfl (y_fld rfl rfl Ty.fo_55_0) (Ls_y (wtd0 rfl) rfl rfl (y_load (i := 0) rfl rfl Ty.pl_53 (fun _ e => e ▸ st.hp) rfl rfl) ?_))
    refine Ls_a (wtd0 rfl) ?_
    refine a_call rfl rfl rfl rfl (containsAdd_ok (keys (hOf st) ++ X) _ st.Lo s.adds A_s_adds c_s_adds (.func (.func 56) #[] #[]) ocheck1_m (st.k (i := 0) rfl) (fun w1 x0 _ => FnV.of (ocheck1_ok w1 x0))) (fun v w8 ⟨hv, hf⟩ => ?_)
    subst hv
    have st := st.keep0 hf
    have hF := hF.step0 hf
    have st : St X w8 [(_, Cl [_, _] _)] [_, _] := st
    refine Lmv rfl rfl rfl rfl rfl (Ls_bool 17 rfl (fun hc6 => ?_) (fun hc6 => ?_))
    · refine Ls_s (wtdF rfl rfl rfl) rfl rfl (Ls_s (wtdF rfl rfl rfl) rfl rfl (Ls_s (wtdF rfl rfl rfl) rfl rfl (Ls_y (wtd0 rfl) rfl rfl (y_pick_t rfl rfl rfl) (Ls_nil (Th_n (?_))))))
      have hcj3 : ocheck_c2 s = true := by unfold ocheck_c2; rewrite [if_pos hc6]; rfl
      exact hout2 _ [(1, _), (21, _)] _ ⟨rfl, rfl, trivial⟩ ⟨by rw [hcj3], (st.picks [0] (by decide)).pickK [0, 1], hF⟩
    have hc6 := bF hc6
    refine Ls_y (wtdT rfl rfl rfl) rfl rfl (y_fld rfl rfl Ty.fo_55_1) (Ls_y (wtdT rfl rfl rfl) rfl rfl (y_load (i := 0) rfl rfl Ty.pl_30 (fun _ e => e ▸ st.hp) rfl rfl) ?_)
    refine Ls_a (wtdT rfl rfl rfl) ?_
    refine a_call rfl rfl rfl rfl (containsTag_ok (keys (hOf st) ++ X) _ st.Lo s.gone A_s_gone c_s_gone (.func (.func 57) #[] #[]) onotTag_m (st.k (i := 1) rfl) (fun w1 x0 _ => FnV.of (onotTag_ok w1 x0))) (fun v w9 ⟨hv, hf⟩ => ?_)
    subst hv
    have st := st.keep0 hf
    have hF := hF.step0 hf
    have st : St X w9 [(_, Cl [_, _] _)] [_, _] := st
    refine Ls_y (wtd0 rfl) rfl rfl (y_pick_f rfl rfl rfl) (Ls_nil (Th_n (?_)))
    have hcj4 : ocheck_c2 s = (containsF_m s.gone onotTag_m) := by unfold ocheck_c2; rewrite [if_neg hc6]; rfl
    exact hout2 _ [(1, _), (21, _)] _ ⟨rfl, rfl, trivial⟩ ⟨by rw [hcj4], (st.picks [0] (by decide)).pickK [0, 1], hF⟩
  refine Wp_region (Ls_y (wtd0 rfl) rfl rfl (y_fld rfl rfl Ty.fo_55_0) (Ls_y (wtd0 rfl) rfl rfl (y_load (i := 0) rfl rfl Ty.pl_53 (fun _ e => e ▸ st.hp) rfl rfl) ?_))
  refine Ls_y (wtd0 rfl) rfl rfl (y_lenl rfl rfl Try.underlying53) ?_
  refine Ls_y (wtd0 rfl) rfl rfl (y_gt rfl rfl rfl) (Lmv rfl rfl rfl rfl rfl (Ls_bool 8 rfl (fun hc7 => ?_) (fun hc7 => ?_)))
  · have hc7 := dT hc7
    refine Ls_s (wtdF rfl rfl rfl) rfl rfl (Ls_s (wtdF rfl rfl rfl) rfl rfl (Ls_s (wtdF rfl rfl rfl) rfl rfl (Ls_s (wtdF rfl rfl rfl) rfl rfl (Ls_y (wtd0 rfl) rfl rfl (y_pick_t rfl rfl rfl) (Ls_nil (Th_n (?_)))))))
    have hcj5 : ocheck_c1 s = true := by unfold ocheck_c1; rewrite [if_pos hc7]; rfl
    exact hout1 _ [(1, _), (13, _)] _ ⟨rfl, rfl, trivial⟩ ⟨by rw [hcj5], (st.picks [0] (by decide)).pickK [0, 1], hF⟩
  have hc7 := dF hc7
  refine Ls_y (wtdT rfl rfl rfl) rfl rfl (y_fld rfl rfl Ty.fo_55_1) (Ls_y (wtdT rfl rfl rfl) rfl rfl (y_load (i := 0) rfl rfl Ty.pl_30 (fun _ e => e ▸ st.hp) rfl rfl) ?_)
  refine Ls_y (wtdT rfl rfl rfl) rfl rfl (y_lenl rfl rfl Try.underlying30) ?_
  refine Ls_y (wtdT rfl rfl rfl) rfl rfl (y_gt rfl rfl rfl) (Ls_y (wtd0 rfl) rfl rfl (y_pick_f rfl rfl rfl) (Ls_nil (Th_n (?_))))
  have hcj6 : ocheck_c1 s = (decide (4096 < (s.gone.length : Int))) := by unfold ocheck_c1; rewrite [if_neg hc7]; rfl
  exact hout1 _ [(1, _), (13, _)] _ ⟨rfl, rfl, trivial⟩ ⟨by rw [hcj6], (st.picks [0] (by decide)).pickK [0, 1], hF⟩

def oTags_L1 (s : SetM) (elem : List UInt8) : Nat → (List TagM) → Int → ((List TagM)) ⊕ ((List TagM) × Int)
  | 0, s5, s14 => .inr (s5, s14)
  | fuel + 1, s5, s14 =>
    if s14 < (s.adds.length : Int) then
      if ((ix s.adds s14).elem) = elem then
        oTags_L1 s elem fuel (s5 ++ [(ix s.adds s14).tag]) (s14 + 1)
      else
        oTags_L1 s elem fuel s5 (s14 + 1)
    else
      .inr (s5, s14)
def oTags_m (s : SetM) (elem : List UInt8) : (List TagM) :=
  if (ocheck_m s) = 0 then
    match oTags_L1 s elem (((s.adds.length : Int) - (0 : Int)).toNat + 1) ([] : List TagM) (0 : Int) with
    | .inl r => r
    | .inr (s5, s14) =>
      s5
  else
    ([] : List TagM)


set_option maxRecDepth 20000 in
theorem oTags_ok (X : List Nat) (w : World) (hX : Lo X w) (s : SetM) (A_s_adds : Option Addr) (c_s_adds : Nat) (A_s_gone : Option Addr) (c_s_gone : Nat) (elem : List UInt8) (h_s_adds : Sld X w A_s_adds s.adds.length c_s_adds 4 (s.adds.flatMap addMC)) (h_s_gone : Sld X w A_s_gone s.gone.length c_s_gone 3 (s.gone.flatMap tagMC)) (h1 : s.adds.length ≤ 1000000) (h2 : s.gone.length ≤ 1000000) :
    Fn Try.prog 21 [.agg #[.slice A_s_adds s.adds.length c_s_adds, .slice A_s_gone s.gone.length c_s_gone], sv elem] w fun v w' => ∃ (Ar : Option Addr) (cr : Nat), v = .slice Ar (oTags_m s elem).length cr ∧ Sld X w' Ar (oTags_m s elem).length cr 3 ((oTags_m s elem).flatMap tagMC) ∧ Fr [] w w' := by
  refine Fn_of 29 Ty.en_21 Try.func21 rfl rfl rfl ?_
  dsimp only [argEnv]
  have st : St X w [] [kS A_s_adds s.adds.length c_s_adds 4 (s.adds.flatMap addMC), kS A_s_gone s.gone.length c_s_gone 3 (s.gone.flatMap tagMC)] := ((St.nil (X := X) (w := w) hX).addK (kS A_s_adds s.adds.length c_s_adds 4 (s.adds.flatMap addMC)) h_s_adds).addK (kS A_s_gone s.gone.length c_s_gone 3 (s.gone.flatMap tagMC)) h_s_gone
  have hF := Fr.refl ([]) w
  have hleA_s_adds := (st.k (i := 0) rfl).le
  have hleA_s_gone := (st.k (i := 1) rfl).le
  refine Wp_seq fun K1 hK1 => ?_
  refine Wp_region (Ls_a (wtd0 rfl) ?_)
  refine a_box rfl rfl rfl rfl st.hp (fun g1 w1 (hp : Hp w1 [(_, Cl [_, _] _)]) hf hg1 => ?_)
  have st : St X w1 [(_, Cl [_, _] _)] [_, _] := st.push hp hf hg1
  have hg1 := Nat.le_trans hF.size hg1
  have hF := hF.step0 hf
  refine Las rfl rfl rfl rfl rfl (Ls_nil (Th_n (hK1 _ _ ?_)))
  refine Wp_seq fun K2 hK2 => ?_
  refine Wp_seq fun K3 hK3 => ?_
  refine Wp_region (Ls_y (wtd0 rfl) rfl rfl (y_loadw (i := 0) rfl rfl Ty.ag_55 (fun _ e => e ▸ st.hp) rfl rfl) ?_)
  refine Ls_a (wtd0 rfl) ?_
  refine a_call rfl rfl rfl rfl (ocheck_ok (keys (hOf st) ++ X) _ st.Lo s A_s_adds c_s_adds A_s_gone c_s_gone (st.k (i := 0) rfl) (st.k (i := 1) rfl) h2) (fun v w2 ⟨hv, hf⟩ => ?_)
  subst hv
  have st := st.keep0 hf
  have hF := hF.step0 hf
  have st : St X w2 [(_, Cl [_, _] _)] [_, _] := st
  refine Ls_y (wtd0 rfl) rfl rfl (y_ne rfl rfl rfl) (Ls_nil (Th_n (hK3 _ _ ?_)))
  refine Wp_cond rfl (fun hc1 => ?_) (fun hc1 => ?_)
  · have hc1 := neT hc1
    refine Wp_seq fun K4 hK4 => ?_
    refine Wp_region (Las rfl rfl rfl rfl rfl (Ls_nil (Th_n (hK4 _ _ ?_))))
    have st := st.addK (kS none 0 0 3 []) ⟨Rdx.nil, by simp, Nat.le_refl _, Nat.zero_le _⟩
    have st : St X w2 [(_, Cl [_, _] _)] [_, _, _] := st
    refine Wp_ret (Th_r (Fq_ret (Res1 rfl rfl) ?_))
    have he1 : oTags_m s elem = ([] : List TagM) := by unfold oTags_m; rewrite [if_neg hc1]; rfl
    rewrite [he1]
    exact ⟨_, _, rfl, st.out (i := 2) rfl, hF⟩
  have hc1 := neF hc1
  refine Wp_skip (Th_n (hK2 _ _ ?_))
  refine Wp_seq fun K5 hK5 => ?_
  refine Wp_region (Las rfl rfl rfl rfl rfl (Ls_nil (Th_n (hK5 _ _ ?_))))
  refine Wp_seq fun K6 hK6 => ?_
  refine Wp_seq fun K7 hK7 => ?_
  refine Wp_region (Ls_y (wtd0 rfl) rfl rfl (y_fld rfl rfl Ty.fo_55_0) (Ls_y (wtd0 rfl) rfl rfl (y_load (i := 0) rfl rfl Ty.pl_53 (fun _ e => e ▸ st.hp) rfl rfl) ?_))
  refine Ls_y (wtd0 rfl) rfl rfl (y_lenl rfl rfl Try.underlying53) ?_
  refine Lmv rfl rfl rfl rfl rfl (Ls_nil (Th_n (hK7 _ _ ?_)))
  refine Wp_block ?_
  have st : St X _ [(some g1, Cl [.slice A_s_adds s.adds.length c_s_adds, .slice A_s_gone s.gone.length c_s_gone] 55), (blkOf none, Cl (([] : List TagM).flatMap tagMC ++ []) 43)] [_, _] := st.addN _
  have how1 : Ow none ([] : List TagM).length 0 3 (([] : List TagM).flatMap tagMC) [] := Ow.nil 3
  have hnew1 : ∀ g, blkOf none = some g → g ∈ ([]) ∨ w.heap.size ≤ g := fun g hg => by cases hg
  refine use_out hK6 (fun E W => ∃ (s5 : List TagM) (s14 : Int) (As5 : Option Addr) (cs5 : Nat) (sps5 : List Value), E = [(1, sv elem), (5, .slice As5 s5.length cs5), (12, .slice A_s_adds s.adds.length c_s_adds), (13, .int .i64 (s.adds.length : Int)), (14, .int .i64 s14)] ∧ oTags_L1 s elem (((s.adds.length : Int) - (0 : Int)).toNat + 1) ([] : List TagM) (0 : Int) = .inr (s5, s14) ∧ (0 ≤ s14 ∧ (s5.length : Int) ≤ s14) ∧ Ow As5 s5.length cs5 3 (s5.flatMap tagMC) sps5 ∧ (∀ g, blkOf As5 = some g → g ∈ ([]) ∨ w.heap.size ≤ g) ∧ St X W [(some g1, Cl [.slice A_s_adds s.adds.length c_s_adds, .slice A_s_gone s.gone.length c_s_gone] 55), (blkOf As5, Cl (s5.flatMap tagMC ++ sps5) 43)] [kS A_s_adds s.adds.length c_s_adds 4 (s.adds.flatMap addMC), kS A_s_gone s.gone.length c_s_gone 3 (s.gone.flatMap tagMC)] ∧ Fr ([]) w W) ?_ fun hout1 => ?_
  · rintro E w3 ⟨s5, s14, As5, cs5, sps5, rfl, hLk1, hinv, hows5, news5, st, hF⟩
    refine Wp_seq fun K8 hK8 => ?_
    refine Wp_region (Lmv rfl rfl rfl rfl rfl (Las rfl rfl rfl rfl rfl (Ls_nil (Th_n (hK8 _ _ ?_)))))
    have st : St X w3 [(_, Cl [_, _] _)] [_, _, _] := st.freeze (i := 1) [0] (by decide) rfl hows5 (by decide)
    refine Wp_ret (Fq_ret (Res1 rfl rfl) ?_)
    have he2 : oTags_m s elem = s5 := by unfold oTags_m; rewrite [if_pos hc1, hLk1]; (try dsimp only); all_goals rfl
    rewrite [he2]
    exact ⟨_, _, rfl, st.out (i := 2) rfl, hF⟩
  refine Wp_loopE (fun m E W => ∃ (s5 : List TagM) (s14 : Int) (As5 : Option Addr) (cs5 : Nat) (sps5 : List Value), E = [(1, sv elem), (5, .slice As5 s5.length cs5), (12, .slice A_s_adds s.adds.length c_s_adds), (13, .int .i64 (s.adds.length : Int)), (14, .int .i64 s14)] ∧ oTags_L1 s elem m s5 s14 = oTags_L1 s elem (((s.adds.length : Int) - (0 : Int)).toNat + 1) ([] : List TagM) (0 : Int) ∧ ((s.adds.length : Int) - s14).toNat < m ∧ (0 ≤ s14 ∧ (s5.length : Int) ≤ s14) ∧ Ow As5 s5.length cs5 3 (s5.flatMap tagMC) sps5 ∧ (∀ g, blkOf As5 = some g → g ∈ ([]) ∨ w.heap.size ≤ g) ∧ St X W [(some g1, Cl [.slice A_s_adds s.adds.length c_s_adds, .slice A_s_gone s.gone.length c_s_gone] 55), (blkOf As5, Cl (s5.flatMap tagMC ++ sps5) 43)] [kS A_s_adds s.adds.length c_s_adds 4 (s.adds.flatMap addMC), kS A_s_gone s.gone.length c_s_gone 3 (s.gone.flatMap tagMC)] ∧ Fr ([]) w W) (((s.adds.length : Int) - (0 : Int)).toNat + 1) [(1, _), (5, _), (12, _), (13, _), (14, _)] ⟨rfl, rfl, rfl, rfl, rfl, trivial⟩ ?_ ?_
  · exact ⟨_, _, _, _, _, rfl, rfl, Nat.lt_succ_self _, by first | omega | (simp; done) | (simp; omega), how1, hnew1, st, hF⟩
  rintro m E w4 ⟨s5, s14, As5, cs5, sps5, rfl, hL1, hmu, hinv, hows5, news5, st, hF⟩
  obtain ⟨fuel, rfl⟩ : ∃ q, m = q + 1 := ⟨m - 1, by omega⟩
  have hlehows5 := Ow.le hows5
  refine Wp_seq fun K9 hK9 => ?_
  refine Wp_region (Ls_y (wtd0 rfl) rfl rfl (y_lt rfl rfl rfl) (Ls_nil (Th_n (hK9 _ _ ?_))))
  refine Wp_seq fun K10 hK10 => ?_
  refine Wp_cond rfl (fun hc2 => ?_) (fun hc2 => ?_)
  · have hc2 := dT hc2
    refine Wp_skip (Th_n (hK10 _ _ ?_))
    refine Wp_seq fun K11 hK11 => ?_
    refine Wp_block (Wp_seq fun K12 hK12 => ?_)
    refine Wp_region ?_
    obtain ⟨gi1, bi1, egi1⟩ := (st.k (i := 0) rfl).addr (fun _ => rfl) (by decide) (q := s14) (by first | omega | (simp; done) | (simp; omega)) (by first | omega | (simp; done) | (simp; omega))
    subst egi1
    refine Ls_y (wtd0 rfl) rfl rfl (y_ixa (q := s14) rfl rfl rfl Ty.es_53 (by first | omega | (simp; done) | (simp; omega)) (by first | omega | (simp; done) | (simp; omega))) ?_
    refine Ls_y (wtd0 rfl) rfl rfl (y_ldk (q := s14) rfl rfl Ty.ag_106 (fun _ e => e ▸ st.k (i := 0) rfl) (fun _ => rfl) (by first | omega | (simp; done) | (simp; omega)) (by first | omega | (simp; done) | (simp; omega))) ?_
    refine Ls_a (wtd0 rfl) ?_
    refine a_alloc rfl rfl rfl Ty.zc_106 st.hp (fun g2 w5 (hp : Hp w5 [(_, Cl [_, _] _), _, (_, Cl [_, _, _, _] _)]) hf hg2 => ?_)
    have st : St X w5 [(_, Cl [_, _] _), _, (_, Cl [_, _, _, _] _)] [_, _] := st.push hp hf hg2
    have hg2 := Nat.le_trans hF.size hg2
    have hF := hF.step0 hf
    refine Ls_a (wtd0 rfl) ?_
    refine a_storew (i := 2) rfl rfl rfl rfl Ty.sz_106 rfl (by first | assumption | (simp [Value.oneCell', addMC]; done)) st.hp rfl rfl (fun w6 (hp : Hp w6 [(_, Cl [_, _] _), _, (_, Cl [_, _, _, _] _)]) hf _ => ?_)
    have st : St X w6 [(_, Cl [_, _] _), _, (_, Cl [_, _, _, _] _)] [_, _] := st.set (i := 2) rfl hp hf
    have hF := hF.step hf (by intro y hy; simp only [List.mem_cons, List.not_mem_nil, or_false] at hy; subst hy; first | (exact Or.inr (by omega)) | (exact Or.inl (kin0 _ _)) | (exact Or.inl (by simp)))
    refine Ls_nil (Th_n (hK12 _ _ ?_))
    refine Wp_seq fun K13 hK13 => ?_
    refine Wp_region (Ls_y (wtd0 rfl) rfl rfl (y_fld rfl rfl Ty.fo_106_1) (Ls_y (wtd0 rfl) rfl rfl (y_load (i := 2) rfl rfl Ty.pl_9 (fun _ e => e ▸ st.hp) rfl rfl) ?_))
    refine Lmv rfl rfl rfl rfl rfl (Ls_y (wtd0 rfl) rfl rfl (y_eqs rfl rfl rfl) ?_)
    refine Ls_nil (Th_n (hK13 _ _ ?_))
    refine Wp_cond rfl (fun hc3 => ?_) (fun hc3 => ?_)
    · have hc3 := eT hc3
      refine Wp_region (Lmv rfl rfl rfl rfl rfl (Ls_y (wtd0 rfl) rfl rfl (y_fld rfl rfl Ty.fo_106_0) (Ls_y (wtd0 rfl) rfl rfl (y_loadm (i := 2) rfl rfl Ty.ag_43 (fun _ e => e ▸ st.hp) rfl rfl rfl) ?_)))
      refine Ls_a (wtd0 rfl) ?_
      refine a_bsls (us := [.int .i64 ((ix s.adds s14).tag.id.origin), .int .u32 ((ix s.adds s14).tag.id.seq), .int .i64 ((ix s.adds s14).tag.n)]) rfl rfl rfl rfl Ty.es_30 Ty.zc_43 rfl (by decide) st.hp (fun g3 w7 (hp : Hp w7 [(_, Cl [_, _] _), _, (_, Cl [_, _, _, _] _), _]) hf hg3 => ?_)
      have how2 : Ow (some ⟨g3, 0, none⟩) [(ix s.adds s14).tag].length 1 3 ([(ix s.adds s14).tag].flatMap tagMC) [] := ⟨rfl, .inr ⟨g3, rfl, rfl, Nat.le_refl _, by unfold maxLen; decide⟩⟩
      have st : St X w7 [(_, Cl [_, _] _), _, (_, Cl [_, _, _, _] _), _] [_, _] := st.push hp hf hg3
      have st : St X w7 [(_, Cl [_, _] _), _, (_, Cl [_, _, _, _] _), _] [_, _] := st
      have hg3 := Nat.le_trans hF.size hg3
      have hF := hF.step0 hf
      have hnew2 : ∀ g, blkOf (some ⟨g3, 0, none⟩) = some g → g ∈ ([]) ∨ w.heap.size ≤ g := fun g hg => by simp [blkOf] at hg; subst hg; exact .inr hg3
      refine Ls_a (wtd0 rfl) ?_
      refine a_appM (i := 1) (xs := s5) (ys := [(ix s.adds s14).tag]) (enc := tagMC) rfl rfl rfl rfl rfl rfl Ty.es_30 Ty.zc_43 rfl Ty.by_43 (by decide) (fun _ => rfl) hows5 st.hp rfl (own_src (i := 3) st.hp rfl how2) (own_none how2) (by intro x v hv; simp only [tagMC, List.mem_cons, List.not_mem_nil, or_false] at hv; rcases hv with rfl | rfl | rfl <;> rfl) (by first | (unfold maxLen; omega) | (simp [maxLen]; omega)) (by first | (unfold maxLen; omega) | (simp [maxLen]; omega)) (fun Aa1 ca1 sp1 w8 how3 (hp : Hp w8 [(_, Cl [_, _] _), _, (_, Cl [_, _, _, _] _), _]) hf hnw1 => ?_)
      have st : St X w8 [(_, Cl [_, _] _), _, (_, Cl [_, _, _, _] _), _] [_, _] := st.setAny (i := 1) rfl hp hf hnw1
      have st : St X w8 [(_, Cl [_, _] _), _, (_, Cl [_, _, _, _] _), _] [_, _] := st
      have hnew3 : ∀ g, blkOf Aa1 = some g → g ∈ ([]) ∨ w.heap.size ≤ g := fun g hg => (hnw1 g hg).elim (news5 g) (fun h => .inr (Nat.le_trans hF.size h))
      have hF := hF.step hf (fun y hy => news5 y (by simpa using hy))
      refine Las rfl rfl rfl rfl rfl (Ls_nil (Ib_n (Th_n (hK11 _ _ ?_))))
      refine Wp_region (Ls_y (wtd0 rfl) rfl rfl (y_add (c := s14 + 1) rfl rfl rfl (wf_i64 (by first | omega | (simp; done) | (simp; omega)))) ?_)
      refine Lmv rfl rfl rfl rfl rfl (Ls_nil (Th_n (?_)))
      have hE1 : oTags_L1 s elem fuel (s5 ++ [(ix s.adds s14).tag]) (s14 + 1) = oTags_L1 s elem (((s.adds.length : Int) - (0 : Int)).toNat + 1) ([] : List TagM) (0 : Int) := by rewrite [← hL1, oTags_L1]; rewrite [if_pos hc2, if_pos hc3]; rfl
      exact ⟨fuel, [(1, _), (5, _), (12, _), (13, _), (14, _)], Nat.lt_succ_self _, ⟨rfl, rfl, rfl, rfl, rfl, trivial⟩, (s5 ++ [(ix s.adds s14).tag]), (s14 + 1), Aa1, ca1, sp1, rfl, hE1, by first | omega | (simp; done) | (simp; omega), by first | omega | (simp; done) | (simp; omega), how3, hnew3, (st.picks [0, 1] (by decide)).pickK [0, 1], hF⟩
    have hc3 := eF hc3
    refine Wp_skip (Ib_n (Th_n (hK11 _ _ ?_)))
    refine Wp_region (Ls_y (wtd0 rfl) rfl rfl (y_add (c := s14 + 1) rfl rfl rfl (wf_i64 (by first | omega | (simp; done) | (simp; omega)))) ?_)
    refine Lmv rfl rfl rfl rfl rfl (Ls_nil (Th_n (?_)))
    have hE2 : oTags_L1 s elem fuel s5 (s14 + 1) = oTags_L1 s elem (((s.adds.length : Int) - (0 : Int)).toNat + 1) ([] : List TagM) (0 : Int) := by rewrite [← hL1, oTags_L1]; rewrite [if_pos hc2, if_neg hc3]; rfl
    exact ⟨fuel, [(1, _), (5, _), (12, _), (13, _), (14, _)], Nat.lt_succ_self _, ⟨rfl, rfl, rfl, rfl, rfl, trivial⟩, s5, (s14 + 1), As5, cs5, sps5, rfl, hE2, by first | omega | (simp; done) | (simp; omega), by first | omega | (simp; done) | (simp; omega), hows5, news5, (st.picks [0, 1] (by decide)).pickK [0, 1], hF⟩
  have hc2 := dF hc2
  refine Wp_exit (Th_e (Th_e (Ib_hit (Th_n (?_)))))
  have hE3 : oTags_L1 s elem (((s.adds.length : Int) - (0 : Int)).toNat + 1) ([] : List TagM) (0 : Int) = .inr (s5, s14) := by rewrite [← hL1, oTags_L1]; rewrite [if_neg hc2]; rfl
  exact hout1 _ [(1, _), (5, _), (12, _), (13, _), (14, _)] _ ⟨rfl, rfl, rfl, rfl, rfl, trivial⟩ ⟨s5, s14, As5, cs5, sps5, rfl, hE3, by first | omega | (simp; done) | (simp; omega), hows5, news5, (st.picks [0, 1] (by decide)).pickK [0, 1], hF⟩

end Go.Proofs.Ytmajjdpioillaaa

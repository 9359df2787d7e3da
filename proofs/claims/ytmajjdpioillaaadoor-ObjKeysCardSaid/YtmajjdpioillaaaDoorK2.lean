/- Walks printed by gen2.py out of our own specifications: what the functions named below do. -/
import Derived.Test.YtmajjdpioillaaaDoorK1
import Derived.Test.YtmajjdpioillaaaDoorSr
set_option linter.unusedSimpArgs false
set_option linter.unusedVariables false
namespace Go.Proofs.YtmajjdpioillaaaDoor
open Go.RowKit

def nanI_m (x : Int) : Bool :=
  x != x


set_option maxRecDepth 20000 in
theorem nanI_ok (w : World) (x : Int) :
    Fn Tryd.prog 50 [.int .i64 x] w fun v w' => v = .bool (nanI_m x) ∧ Fr [] w w' := by
  refine Fn_of 6 Ty.en_50 Tryd.func50 rfl rfl rfl ?_
  dsimp only [argEnv]
  have st : St [] w [] [] := St.nil (X := []) (w := w) (by simp [Lo])
  have hF := Fr.refl ([]) w
  refine Wp_seq fun K1 hK1 => ?_
  refine Wp_region (Las rfl rfl rfl rfl rfl (Ls_nil (Th_n (hK1 _ _ ?_))))
  refine Wp_seq fun K2 hK2 => ?_
  refine Wp_region (Lmv rfl rfl rfl rfl rfl (Lmv rfl rfl rfl rfl rfl (Ls_y (wtd0 rfl) rfl rfl (y_ne rfl rfl rfl) (Las rfl rfl rfl rfl rfl (Ls_nil (Th_n (hK2 _ _ ?_)))))))
  refine Wp_ret (Fq_ret (Res1 rfl rfl) ?_)
  have he1 : nanI_m x = (x != x) := by unfold nanI_m; rfl
  rewrite [he1]
  exact ⟨rfl, hF⟩

def nanU_m (x : Int) : Bool :=
  x != x


set_option maxRecDepth 20000 in
theorem nanU_ok (w : World) (x : Int) :
    Fn Tryd.prog 55 [.int .u32 x] w fun v w' => v = .bool (nanU_m x) ∧ Fr [] w w' := by
  refine Fn_of 6 Ty.en_55 Tryd.func55 rfl rfl rfl ?_
  dsimp only [argEnv]
  have st : St [] w [] [] := St.nil (X := []) (w := w) (by simp [Lo])
  have hF := Fr.refl ([]) w
  refine Wp_seq fun K1 hK1 => ?_
  refine Wp_region (Las rfl rfl rfl rfl rfl (Ls_nil (Th_n (hK1 _ _ ?_))))
  refine Wp_seq fun K2 hK2 => ?_
  refine Wp_region (Lmv rfl rfl rfl rfl rfl (Lmv rfl rfl rfl rfl rfl (Ls_y (wtd0 rfl) rfl rfl (y_ne rfl rfl rfl) (Las rfl rfl rfl rfl rfl (Ls_nil (Th_n (hK2 _ _ ?_)))))))
  refine Wp_ret (Fq_ret (Res1 rfl rfl) ?_)
  have he1 : nanU_m x = (x != x) := by unfold nanU_m; rfl
  rewrite [he1]
  exact ⟨rfl, hF⟩

def cmpI_m (x : Int) (y : Int) : Int :=
  if (nanI_m x) = true then
    if (nanI_m y) = true then
      0
    else
      (-1)
  else
    if (nanI_m y) = true then
      1
    else
      if x < y then
        (-1)
      else
        if y < x then
          1
        else
          0


set_option maxRecDepth 20000 in
theorem cmpI_ok (w : World) (x : Int) (y : Int) :
    Fn Tryd.prog 40 [.int .i64 x, .int .i64 y] w fun v w' => v = .int .i64 (cmpI_m x y) ∧ Fr [] w w' := by
  refine Fn_of 20 Ty.en_40 Tryd.func40 rfl rfl rfl ?_
  dsimp only [argEnv]
  have st : St [] w [] [] := St.nil (X := []) (w := w) (by simp [Lo])
  have hF := Fr.refl ([]) w
  refine Wp_seq fun K1 hK1 => ?_
  refine Wp_region (Las rfl rfl rfl rfl rfl (Ls_nil (Th_n (hK1 _ _ ?_))))
  refine Wp_seq fun K2 hK2 => ?_
  refine Wp_region (Lmv rfl rfl rfl rfl rfl (Ls_a (wtd0 rfl) ?_))
  refine a_call rfl rfl rfl rfl (nanI_ok _ x) (fun v w1 ⟨hv, hf⟩ => ?_)
  subst hv
  have st := st.keep0 hf
  have hF := hF.step0 hf
  have st : St [] w1 [] [] := st
  refine Las rfl rfl rfl rfl rfl (Ls_nil (Th_n (hK2 _ _ ?_)))
  refine Wp_seq fun K3 hK3 => ?_
  refine Wp_region (Lmv rfl rfl rfl rfl rfl (Ls_a (wtd0 rfl) ?_))
  refine a_call rfl rfl rfl rfl (nanI_ok _ y) (fun v w2 ⟨hv, hf⟩ => ?_)
  subst hv
  have st := st.keep0 hf
  have hF := hF.step0 hf
  have st : St [] w2 [] [] := st
  refine Las rfl rfl rfl rfl rfl (Ls_nil (Th_n (hK3 _ _ ?_)))
  refine Wp_seq fun K4 hK4 => ?_
  refine Wp_seq fun K5 hK5 => ?_
  refine Wp_region (Lmv rfl rfl rfl rfl rfl (Ls_nil (Th_n (hK5 _ _ ?_))))
  refine Wp_cond rfl (fun hc1 => ?_) (fun hc1 => ?_)
  · refine Wp_seq fun K6 hK6 => ?_
    refine Wp_seq fun K7 hK7 => ?_
    refine Wp_region (Lmv rfl rfl rfl rfl rfl (Ls_nil (Th_n (hK7 _ _ ?_))))
    refine Wp_cond rfl (fun hc2 => ?_) (fun hc2 => ?_)
    · refine Wp_seq fun K8 hK8 => ?_
      refine Wp_region (Las rfl rfl rfl rfl rfl (Ls_nil (Th_n (hK8 _ _ ?_))))
      refine Wp_ret (Th_r (Th_r (Fq_ret (Res1 rfl rfl) ?_)))
      have he1 : cmpI_m x y = 0 := by unfold cmpI_m; rewrite [if_pos hc1, if_pos hc2]; rfl
      rewrite [he1]
      exact ⟨rfl, hF⟩
    have hc2 := bF hc2
    refine Wp_skip (Th_n (hK6 _ _ ?_))
    refine Wp_seq fun K9 hK9 => ?_
    refine Wp_region (Las rfl rfl rfl rfl rfl (Ls_nil (Th_n (hK9 _ _ ?_))))
    refine Wp_ret (Th_r (Fq_ret (Res1 rfl rfl) ?_))
    have he2 : cmpI_m x y = (-1) := by unfold cmpI_m; rewrite [if_pos hc1, if_neg hc2]; rfl
    rewrite [he2]
    exact ⟨rfl, hF⟩
  have hc1 := bF hc1
  refine Wp_skip (Th_n (hK4 _ _ ?_))
  refine Wp_seq fun K10 hK10 => ?_
  refine Wp_seq fun K11 hK11 => ?_
  refine Wp_region (Lmv rfl rfl rfl rfl rfl (Ls_nil (Th_n (hK11 _ _ ?_))))
  refine Wp_cond rfl (fun hc3 => ?_) (fun hc3 => ?_)
  · refine Wp_seq fun K12 hK12 => ?_
    refine Wp_region (Las rfl rfl rfl rfl rfl (Ls_nil (Th_n (hK12 _ _ ?_))))
    refine Wp_ret (Th_r (Fq_ret (Res1 rfl rfl) ?_))
    have he3 : cmpI_m x y = 1 := by unfold cmpI_m; rewrite [if_neg hc1, if_pos hc3]; rfl
    rewrite [he3]
    exact ⟨rfl, hF⟩
  have hc3 := bF hc3
  refine Wp_skip (Th_n (hK10 _ _ ?_))
  refine Wp_seq fun K13 hK13 => ?_
  refine Wp_seq fun K14 hK14 => ?_
  refine Wp_region (Lmv rfl rfl rfl rfl rfl (Lmv rfl rfl rfl rfl rfl (Ls_y (wtd0 rfl) rfl rfl (y_lt rfl rfl rfl) (Ls_nil (Th_n (hK14 _ _ ?_))))))
  refine Wp_cond rfl (fun hc4 => ?_) (fun hc4 => ?_)
  · have hc4 := dT hc4
    refine Wp_seq fun K15 hK15 => ?_
    refine Wp_region (Las rfl rfl rfl rfl rfl (Ls_nil (Th_n (hK15 _ _ ?_))))
    refine Wp_ret (Th_r (Fq_ret (Res1 rfl rfl) ?_))
    have he4 : cmpI_m x y = (-1) := by unfold cmpI_m; rewrite [if_neg hc1, if_neg hc3, if_pos hc4]; rfl
    rewrite [he4]
    exact ⟨rfl, hF⟩
  have hc4 := dF hc4
  refine Wp_skip (Th_n (hK13 _ _ ?_))
  refine Wp_seq fun K16 hK16 => ?_
  refine Wp_seq fun K17 hK17 => ?_
  refine Wp_region (Lmv rfl rfl rfl rfl rfl (Lmv rfl rfl rfl rfl rfl (Ls_y (wtd0 rfl) rfl rfl (y_gt rfl rfl rfl) (Ls_nil (Th_n (hK17 _ _ ?_))))))
  refine Wp_cond rfl (fun hc5 => ?_) (fun hc5 => ?_)
  · have hc5 := dT hc5
    refine Wp_seq fun K18 hK18 => ?_
    refine Wp_region (Las rfl rfl rfl rfl rfl (Ls_nil (Th_n (hK18 _ _ ?_))))
    refine Wp_ret (Th_r (Fq_ret (Res1 rfl rfl) ?_))
    have he5 : cmpI_m x y = 1 := by unfold cmpI_m; rewrite [if_neg hc1, if_neg hc3, if_neg hc4, if_pos hc5]; rfl
    rewrite [he5]
    exact ⟨rfl, hF⟩
  have hc5 := dF hc5
  refine Wp_skip (Th_n (hK16 _ _ ?_))
  refine Wp_seq fun K19 hK19 => ?_
  refine Wp_region (Las rfl rfl rfl rfl rfl (Ls_nil (Th_n (hK19 _ _ ?_))))
  refine Wp_ret (Fq_ret (Res1 rfl rfl) ?_)
  have he6 : cmpI_m x y = 0 := by unfold cmpI_m; rewrite [if_neg hc1, if_neg hc3, if_neg hc4, if_neg hc5]; rfl
  rewrite [he6]
  exact ⟨rfl, hF⟩

def cmpU_m (x : Int) (y : Int) : Int :=
  if (nanU_m x) = true then
    if (nanU_m y) = true then
      0
    else
      (-1)
  else
    if (nanU_m y) = true then
      1
    else
      if x < y then
        (-1)
      else
        if y < x then
          1
        else
          0


set_option maxRecDepth 20000 in
theorem cmpU_ok (w : World) (x : Int) (y : Int) :
    Fn Tryd.prog 49 [.int .u32 x, .int .u32 y] w fun v w' => v = .int .i64 (cmpU_m x y) ∧ Fr [] w w' := by
  refine Fn_of 20 Ty.en_49 Tryd.func49 rfl rfl rfl ?_
  dsimp only [argEnv]
  have st : St [] w [] [] := St.nil (X := []) (w := w) (by simp [Lo])
  have hF := Fr.refl ([]) w
  refine Wp_seq fun K1 hK1 => ?_
  refine Wp_region (Las rfl rfl rfl rfl rfl (Ls_nil (Th_n (hK1 _ _ ?_))))
  refine Wp_seq fun K2 hK2 => ?_
  refine Wp_region (Lmv rfl rfl rfl rfl rfl (Ls_a (wtd0 rfl) ?_))
  refine a_call rfl rfl rfl rfl (nanU_ok _ x) (fun v w1 ⟨hv, hf⟩ => ?_)
  subst hv
  have st := st.keep0 hf
  have hF := hF.step0 hf
  have st : St [] w1 [] [] := st
  refine Las rfl rfl rfl rfl rfl (Ls_nil (Th_n (hK2 _ _ ?_)))
  refine Wp_seq fun K3 hK3 => ?_
  refine Wp_region (Lmv rfl rfl rfl rfl rfl (Ls_a (wtd0 rfl) ?_))
  refine a_call rfl rfl rfl rfl (nanU_ok _ y) (fun v w2 ⟨hv, hf⟩ => ?_)
  subst hv
  have st := st.keep0 hf
  have hF := hF.step0 hf
  have st : St [] w2 [] [] := st
  refine Las rfl rfl rfl rfl rfl (Ls_nil (Th_n (hK3 _ _ ?_)))
  refine Wp_seq fun K4 hK4 => ?_
  refine Wp_seq fun K5 hK5 => ?_
  refine Wp_region (Lmv rfl rfl rfl rfl rfl (Ls_nil (Th_n (hK5 _ _ ?_))))
  refine Wp_cond rfl (fun hc1 => ?_) (fun hc1 => ?_)
  · refine Wp_seq fun K6 hK6 => ?_
    refine Wp_seq fun K7 hK7 => ?_
    refine Wp_region (Lmv rfl rfl rfl rfl rfl (Ls_nil (Th_n (hK7 _ _ ?_))))
    refine Wp_cond rfl (fun hc2 => ?_) (fun hc2 => ?_)
    · refine Wp_seq fun K8 hK8 => ?_
      refine Wp_region (Las rfl rfl rfl rfl rfl (Ls_nil (Th_n (hK8 _ _ ?_))))
      refine Wp_ret (Th_r (Th_r (Fq_ret (Res1 rfl rfl) ?_)))
      have he1 : cmpU_m x y = 0 := by unfold cmpU_m; rewrite [if_pos hc1, if_pos hc2]; rfl
      rewrite [he1]
      exact ⟨rfl, hF⟩
    have hc2 := bF hc2
    refine Wp_skip (Th_n (hK6 _ _ ?_))
    refine Wp_seq fun K9 hK9 => ?_
    refine Wp_region (Las rfl rfl rfl rfl rfl (Ls_nil (Th_n (hK9 _ _ ?_))))
    refine Wp_ret (Th_r (Fq_ret (Res1 rfl rfl) ?_))
    have he2 : cmpU_m x y = (-1) := by unfold cmpU_m; rewrite [if_pos hc1, if_neg hc2]; rfl
    rewrite [he2]
    exact ⟨rfl, hF⟩
  have hc1 := bF hc1
  refine Wp_skip (Th_n (hK4 _ _ ?_))
  refine Wp_seq fun K10 hK10 => ?_
  refine Wp_seq fun K11 hK11 => ?_
  refine Wp_region (Lmv rfl rfl rfl rfl rfl (Ls_nil (Th_n (hK11 _ _ ?_))))
  refine Wp_cond rfl (fun hc3 => ?_) (fun hc3 => ?_)
  · refine Wp_seq fun K12 hK12 => ?_
    refine Wp_region (Las rfl rfl rfl rfl rfl (Ls_nil (Th_n (hK12 _ _ ?_))))
    refine Wp_ret (Th_r (Fq_ret (Res1 rfl rfl) ?_))
    have he3 : cmpU_m x y = 1 := by unfold cmpU_m; rewrite [if_neg hc1, if_pos hc3]; rfl
    rewrite [he3]
    exact ⟨rfl, hF⟩
  have hc3 := bF hc3
  refine Wp_skip (Th_n (hK10 _ _ ?_))
  refine Wp_seq fun K13 hK13 => ?_
  refine Wp_seq fun K14 hK14 => ?_
  refine Wp_region (Lmv rfl rfl rfl rfl rfl (Lmv rfl rfl rfl rfl rfl (Ls_y (wtd0 rfl) rfl rfl (y_lt rfl rfl rfl) (Ls_nil (Th_n (hK14 _ _ ?_))))))
  refine Wp_cond rfl (fun hc4 => ?_) (fun hc4 => ?_)
  · have hc4 := dT hc4
    refine Wp_seq fun K15 hK15 => ?_
    refine Wp_region (Las rfl rfl rfl rfl rfl (Ls_nil (Th_n (hK15 _ _ ?_))))
    refine Wp_ret (Th_r (Fq_ret (Res1 rfl rfl) ?_))
    have he4 : cmpU_m x y = (-1) := by unfold cmpU_m; rewrite [if_neg hc1, if_neg hc3, if_pos hc4]; rfl
    rewrite [he4]
    exact ⟨rfl, hF⟩
  have hc4 := dF hc4
  refine Wp_skip (Th_n (hK13 _ _ ?_))
  refine Wp_seq fun K16 hK16 => ?_
  refine Wp_seq fun K17 hK17 => ?_
  refine Wp_region (Lmv rfl rfl rfl rfl rfl (Lmv rfl rfl rfl rfl rfl (Ls_y (wtd0 rfl) rfl rfl (y_gt rfl rfl rfl) (Ls_nil (Th_n (hK17 _ _ ?_))))))
  refine Wp_cond rfl (fun hc5 => ?_) (fun hc5 => ?_)
  · have hc5 := dT hc5
    refine Wp_seq fun K18 hK18 => ?_
    refine Wp_region (Las rfl rfl rfl rfl rfl (Ls_nil (Th_n (hK18 _ _ ?_))))
    refine Wp_ret (Th_r (Fq_ret (Res1 rfl rfl) ?_))
    have he5 : cmpU_m x y = 1 := by unfold cmpU_m; rewrite [if_neg hc1, if_neg hc3, if_neg hc4, if_pos hc5]; rfl
    rewrite [he5]
    exact ⟨rfl, hF⟩
  have hc5 := dF hc5
  refine Wp_skip (Th_n (hK16 _ _ ?_))
  refine Wp_seq fun K19 hK19 => ?_
  refine Wp_region (Las rfl rfl rfl rfl rfl (Ls_nil (Th_n (hK19 _ _ ?_))))
  refine Wp_ret (Fq_ret (Res1 rfl rfl) ?_)
  have he6 : cmpU_m x y = 0 := by unfold cmpU_m; rewrite [if_neg hc1, if_neg hc3, if_neg hc4, if_neg hc5]; rfl
  rewrite [he6]
  exact ⟨rfl, hF⟩

def cmpOr_L1 (l : List Int) : Nat → Int → (Int) ⊕ (Int)
  | 0, s8 => .inr (s8)
  | fuel + 1, s8 =>
    if s8 < (l.length : Int) then
      if (ix l s8) = 0 then
        cmpOr_L1 l fuel (s8 + 1)
      else
        .inl (ix l s8)
    else
      .inr (s8)
def cmpOr_m (l : List Int) : Int :=
  match cmpOr_L1 l (((l.length : Int) - (0 : Int)).toNat + 1) (0 : Int) with
  | .inl r => r
  | .inr (s8) =>
    0


set_option maxRecDepth 20000 in
theorem cmpOr_ok (X : List Nat) (w : World) (hX : Lo X w) (l : List Int) (A_l : Option Addr) (c_l : Nat) (h_l : Sld X w A_l l.length c_l 1 (l.flatMap (fun x => [Value.int .i64 x]))) :
    Fn Tryd.prog 38 [.slice A_l l.length c_l] w fun v w' => v = .int .i64 (cmpOr_m l) ∧ Fr [] w w' := by
  refine Fn_of 18 Ty.en_38 Tryd.func38 rfl rfl rfl ?_
  dsimp only [argEnv]
  have st : St X w [] [kS A_l l.length c_l 1 (l.flatMap (fun x => [Value.int .i64 x]))] := (St.nil (X := X) (w := w) hX).addK (kS A_l l.length c_l 1 (l.flatMap (fun x => [Value.int .i64 x]))) h_l
  have hF := Fr.refl ([]) w
  have hleA_l := (st.k (i := 0) rfl).le
  refine Wp_seq fun K1 hK1 => ?_
  refine Wp_region (Las rfl rfl rfl rfl rfl (Ls_nil (Th_n (hK1 _ _ ?_))))
  refine Wp_seq fun K2 hK2 => ?_
  refine Wp_region (Las rfl rfl rfl rfl rfl (Ls_nil (Th_n (hK2 _ _ ?_))))
  refine Wp_seq fun K3 hK3 => ?_
  refine Wp_seq fun K4 hK4 => ?_
  refine Wp_region (Lmv rfl rfl rfl rfl rfl (Ls_y (wtd0 rfl) rfl rfl (y_lenl rfl rfl Tryd.underlying87) ?_))
  refine Lmv rfl rfl rfl rfl rfl (Ls_nil (Th_n (hK4 _ _ ?_)))
  refine Wp_block (use_out hK3 (fun E W => ∃ (s8 : Int), E = [(3, .int .i64 0), (6, .slice A_l l.length c_l), (7, .int .i64 (l.length : Int)), (8, .int .i64 s8)] ∧ cmpOr_L1 l (((l.length : Int) - (0 : Int)).toNat + 1) (0 : Int) = .inr (s8) ∧ (0 ≤ s8) ∧ St X W [] [kS A_l l.length c_l 1 (l.flatMap (fun x => [Value.int .i64 x]))] ∧ Fr ([]) w W) ?_ fun hout1 => ?_)
  · rintro E w1 ⟨s8, rfl, hLk1, hinv, st, hF⟩
    refine Wp_seq fun K5 hK5 => ?_
    refine Wp_region (Lmv rfl rfl rfl rfl rfl (Las rfl rfl rfl rfl rfl (Ls_nil (Th_n (hK5 _ _ ?_)))))
    refine Wp_ret (Fq_ret (Res1 rfl rfl) ?_)
    have he1 : cmpOr_m l = 0 := by unfold cmpOr_m; rewrite [hLk1]; (try dsimp only); all_goals rfl
    rewrite [he1]
    exact ⟨rfl, hF⟩
  refine Wp_loopE (fun m E W => ∃ (s8 : Int), E = [(3, .int .i64 0), (6, .slice A_l l.length c_l), (7, .int .i64 (l.length : Int)), (8, .int .i64 s8)] ∧ cmpOr_L1 l m s8 = cmpOr_L1 l (((l.length : Int) - (0 : Int)).toNat + 1) (0 : Int) ∧ ((l.length : Int) - s8).toNat < m ∧ (0 ≤ s8) ∧ St X W [] [kS A_l l.length c_l 1 (l.flatMap (fun x => [Value.int .i64 x]))] ∧ Fr ([]) w W) (((l.length : Int) - (0 : Int)).toNat + 1) [(3, _), (6, _), (7, _), (8, _)] ⟨rfl, rfl, rfl, rfl, trivial⟩ ?_ ?_
  · exact ⟨_, rfl, rfl, Nat.lt_succ_self _, by first | omega | (simp; done) | (simp; omega), st, hF⟩
  rintro m E w2 ⟨s8, rfl, hL1, hmu, hinv, st, hF⟩
  obtain ⟨fuel, rfl⟩ : ∃ q, m = q + 1 := ⟨m - 1, by omega⟩
  refine Wp_seq fun K6 hK6 => ?_
  refine Wp_region (Ls_y (wtd0 rfl) rfl rfl (y_lt rfl rfl rfl) (Ls_nil (Th_n (hK6 _ _ ?_))))
  refine Wp_seq fun K7 hK7 => ?_
  refine Wp_cond rfl (fun hc1 => ?_) (fun hc1 => ?_)
  · have hc1 := dT hc1
    refine Wp_skip (Th_n (hK7 _ _ ?_))
    refine Wp_seq fun K8 hK8 => ?_
    refine Wp_block (Wp_seq fun K9 hK9 => ?_)
    refine Wp_region ?_
    obtain ⟨gi1, bi1, egi1⟩ := (st.k (i := 0) rfl).addr (fun _ => rfl) (by decide) (q := s8) (by first | omega | (simp; done) | (simp; omega)) (by first | omega | (simp; done) | (simp; omega))
    subst egi1
    refine Ls_y (wtd0 rfl) rfl rfl (y_ixa (q := s8) rfl rfl rfl Ty.es_87 (by first | omega | (simp; done) | (simp; omega)) (by first | omega | (simp; done) | (simp; omega))) ?_
    refine Ls_y (wtd0 rfl) rfl rfl (y_ldk1 (q := s8) 0 rfl rfl Ty.pl_3 (fun _ e => e ▸ st.k (i := 0) rfl) (fun _ => rfl) (by first | omega | (simp; done) | (simp; omega)) (by first | omega | (simp; done) | (simp; omega)) rfl) ?_
    refine Las rfl rfl rfl rfl rfl (Ls_nil (Th_n (hK9 _ _ ?_)))
    refine Wp_seq fun K10 hK10 => ?_
    refine Wp_region (Lmv rfl rfl rfl rfl rfl (Lmv rfl rfl rfl rfl rfl (Ls_y (wtd0 rfl) rfl rfl (y_ne rfl rfl rfl) (Ls_nil (Th_n (hK10 _ _ ?_))))))
    refine Wp_cond rfl (fun hc2 => ?_) (fun hc2 => ?_)
    · have hc2 := neT hc2
      refine Wp_seq fun K11 hK11 => ?_
      refine Wp_region (Lmv rfl rfl rfl rfl rfl (Las rfl rfl rfl rfl rfl (Ls_nil (Th_n (hK11 _ _ ?_)))))
      refine Wp_ret (Ib_r (Th_r (Th_r (Ib_r (Th_r (Fq_ret (Res1 rfl rfl) ?_))))))
      have hret1 : cmpOr_L1 l (((l.length : Int) - (0 : Int)).toNat + 1) (0 : Int) = .inl (ix l s8) := by rewrite [← hL1, cmpOr_L1]; rewrite [if_pos hc1, if_neg hc2]; rfl
      have he2 : cmpOr_m l = (ix l s8) := by unfold cmpOr_m; rewrite [hret1]; (try dsimp only); all_goals rfl
      rewrite [he2]
      exact ⟨rfl, hF⟩
    have hc2 := neF hc2
    refine Wp_skip (Ib_n (Th_n (hK8 _ _ ?_)))
    refine Wp_region (Ls_y (wtd0 rfl) rfl rfl (y_add (c := s8 + 1) rfl rfl rfl (wf_i64 (by first | omega | (simp; done) | (simp; omega)))) ?_)
    refine Lmv rfl rfl rfl rfl rfl (Ls_nil (Th_n (?_)))
    have hE1 : cmpOr_L1 l fuel (s8 + 1) = cmpOr_L1 l (((l.length : Int) - (0 : Int)).toNat + 1) (0 : Int) := by rewrite [← hL1, cmpOr_L1]; rewrite [if_pos hc1, if_pos hc2]; rfl
    exact ⟨fuel, [(3, _), (6, _), (7, _), (8, _)], Nat.lt_succ_self _, ⟨rfl, rfl, rfl, rfl, trivial⟩, (s8 + 1), rfl, hE1, by first | omega | (simp; done) | (simp; omega), by first | omega | (simp; done) | (simp; omega), (st.picks [] (by decide)).pickK [0], hF⟩
  have hc1 := dF hc1
  refine Wp_exit (Th_e (Th_e (Ib_hit (Th_n (?_)))))
  have hE2 : cmpOr_L1 l (((l.length : Int) - (0 : Int)).toNat + 1) (0 : Int) = .inr (s8) := by rewrite [← hL1, cmpOr_L1]; rewrite [if_neg hc1]; rfl
  exact hout1 _ [(3, _), (6, _), (7, _), (8, _)] _ ⟨rfl, rfl, rfl, rfl, trivial⟩ ⟨s8, rfl, hE2, by first | omega | (simp; done) | (simp; omega), (st.picks [] (by decide)).pickK [0], hF⟩

def icheck_c1 (id : IdM) : Bool :=
  (if id.origin < 0 then true else (if 8 ≤ id.origin then true else (if id.seq = 0 then true else decide (1048576 < id.seq))))
def icheck_m (id : IdM) : Int :=
  if (icheck_c1 id) = true then
    2
  else
    0

theorem icheck_c1_iff (id : IdM) : (icheck_c1 id = true) ↔ ((id.origin < 0) ∨ ((8 ≤ id.origin) ∨ ((id.seq = 0) ∨ (1048576 < id.seq)))) := by
  unfold icheck_c1; exact (ci1 (ci1 (ci1 decide_eq_true_iff)))

set_option maxRecDepth 20000 in
theorem icheck_ok (w : World) (id : IdM) :
    Fn Tryd.prog 47 [.agg (idMC id).toArray] w fun v w' => v = .int .i64 (icheck_m id) ∧ Fr [] w w' := by
  refine Fn_of 21 Ty.en_47 Tryd.func47 rfl rfl rfl ?_
  dsimp only [argEnv]
  have st : St [] w [] [] := St.nil (X := []) (w := w) (by simp [Lo])
  have hF := Fr.refl ([]) w
  refine Wp_seq fun K1 hK1 => ?_
  refine Wp_region (Ls_a (wtd0 rfl) ?_)
  refine a_box rfl rfl rfl rfl st.hp (fun g1 w1 (hp : Hp w1 [(_, Cl [_, _] _)]) hf hg1 => ?_)
  have st : St [] w1 [(_, Cl [_, _] _)] [] := st.push hp hf hg1
  have hg1 := Nat.le_trans hF.size hg1
  have hF := hF.step0 hf
  refine Las rfl rfl rfl rfl rfl (Ls_nil (Th_n (hK1 _ _ ?_)))
  refine Wp_seq fun K2 hK2 => ?_
  refine Wp_seq fun K3 hK3 => ?_
  refine use_out hK3 (fun E W => E = [(20, .bool (icheck_c1 id))] ∧ St [] W (hOf st) (kOf st) ∧ Fr ([]) w W) ?_ fun hout1 => ?_
  · rintro E w2 ⟨rfl, st, hF⟩
    have st : St [] w2 [(_, Cl [_, _] _)] [] := st
    refine Wp_cond rfl (fun hc1 => ?_) (fun hc1 => ?_)
    · have jhc1 := (icheck_c1_iff id).1 hc1
      refine Wp_seq fun K4 hK4 => ?_
      refine Wp_region (Las rfl rfl rfl rfl rfl (Ls_nil (Th_n (hK4 _ _ ?_))))
      refine Wp_ret (Th_r (Fq_ret (Res1 rfl rfl) ?_))
      have he1 : icheck_m id = 2 := by unfold icheck_m; rewrite [if_pos hc1]; rfl
      rewrite [he1]
      exact ⟨rfl, hF⟩
    have jhc1 := mt (icheck_c1_iff id).2 (bF hc1)
    have hc1 := bF hc1
    refine Wp_skip (Th_n (hK2 _ _ ?_))
    refine Wp_seq fun K5 hK5 => ?_
    refine Wp_region (Las rfl rfl rfl rfl rfl (Ls_nil (Th_n (hK5 _ _ ?_))))
    refine Wp_ret (Fq_ret (Res1 rfl rfl) ?_)
    have he2 : icheck_m id = 0 := by unfold icheck_m; rewrite [if_neg hc1]; rfl
    rewrite [he2]
    exact ⟨rfl, hF⟩
  refine Wp_region (Ls_y (wtd0 rfl) rfl rfl (y_fld rfl rfl Ty.fo_26_0) (Ls_y (wtd0 rfl) rfl rfl (y_load (i := 0) rfl rfl Ty.pl_3 (fun _ e => e ▸ st.hp) rfl rfl) ?_))
  refine Ls_y (wtd0 rfl) rfl rfl (y_lt rfl rfl rfl) (Lmv rfl rfl rfl rfl rfl (Ls_bool 6 rfl (fun hc2 => ?_) (fun hc2 => ?_)))
  · have hc2 := dT hc2
    refine Ls_s (wtdF rfl rfl rfl) rfl rfl (Ls_s (wtdF rfl rfl rfl) rfl rfl (Ls_s (wtdF rfl rfl rfl) rfl rfl (Ls_y (wtd0 rfl) rfl rfl (y_pick_t rfl rfl rfl) (Lmv rfl rfl rfl rfl rfl (Ls_s (wtdF rfl rfl rfl) rfl rfl (Ls_s (wtdF rfl rfl rfl) rfl rfl (Ls_s (wtdF rfl rfl rfl) rfl rfl (Ls_y (wtd0 rfl) rfl rfl (y_pick_t rfl rfl rfl) (Lmv rfl rfl rfl rfl rfl (Ls_s (wtdF rfl rfl rfl) rfl rfl (Ls_s (wtdF rfl rfl rfl) rfl rfl (Ls_s (wtdF rfl rfl rfl) rfl rfl (Ls_y (wtd0 rfl) rfl rfl (y_pick_t rfl rfl rfl) (Ls_nil (Th_n (?_))))))))))))))))
    have hcj1 : icheck_c1 id = true := by unfold icheck_c1; rewrite [if_pos hc2]; rfl
    exact hout1 _ [(20, _)] _ ⟨rfl, trivial⟩ ⟨by rw [hcj1], (st.picks [0] (by decide)).pickK [], hF⟩
  have hc2 := dF hc2
  refine Ls_y (wtdT rfl rfl rfl) rfl rfl (y_fld rfl rfl Ty.fo_26_0) (Ls_y (wtdT rfl rfl rfl) rfl rfl (y_load (i := 0) rfl rfl Ty.pl_3 (fun _ e => e ▸ st.hp) rfl rfl) ?_)
  refine Ls_y (wtdT rfl rfl rfl) rfl rfl (y_ge rfl rfl rfl) (Ls_y (wtd0 rfl) rfl rfl (y_pick_f rfl rfl rfl) (Lmv rfl rfl rfl rfl rfl (Ls_bool 11 rfl (fun hc3 => ?_) (fun hc3 => ?_))))
  · have hc3 := dT hc3
    refine Ls_s (wtdF rfl rfl rfl) rfl rfl (Ls_s (wtdF rfl rfl rfl) rfl rfl (Ls_s (wtdF rfl rfl rfl) rfl rfl (Ls_y (wtd0 rfl) rfl rfl (y_pick_t rfl rfl rfl) (Lmv rfl rfl rfl rfl rfl (Ls_s (wtdF rfl rfl rfl) rfl rfl (Ls_s (wtdF rfl rfl rfl) rfl rfl (Ls_s (wtdF rfl rfl rfl) rfl rfl (Ls_y (wtd0 rfl) rfl rfl (y_pick_t rfl rfl rfl) (Ls_nil (Th_n (?_)))))))))))
    have hcj2 : icheck_c1 id = true := by unfold icheck_c1; rewrite [if_neg hc2, if_pos hc3]; rfl
    exact hout1 _ [(20, _)] _ ⟨rfl, trivial⟩ ⟨by rw [hcj2], (st.picks [0] (by decide)).pickK [], hF⟩
  have hc3 := dF hc3
  refine Ls_y (wtdT rfl rfl rfl) rfl rfl (y_fld rfl rfl Ty.fo_26_1) (Ls_y (wtdT rfl rfl rfl) rfl rfl (y_load (i := 0) rfl rfl Ty.pl_24 (fun _ e => e ▸ st.hp) rfl rfl) ?_)
  refine Ls_y (wtdT rfl rfl rfl) rfl rfl (y_eq rfl rfl rfl) (Ls_y (wtd0 rfl) rfl rfl (y_pick_f rfl rfl rfl) (Lmv rfl rfl rfl rfl rfl (Ls_bool 16 rfl (fun hc4 => ?_) (fun hc4 => ?_))))
  · have hc4 := eT hc4
    refine Ls_s (wtdF rfl rfl rfl) rfl rfl (Ls_s (wtdF rfl rfl rfl) rfl rfl (Ls_s (wtdF rfl rfl rfl) rfl rfl (Ls_y (wtd0 rfl) rfl rfl (y_pick_t rfl rfl rfl) (Ls_nil (Th_n (?_))))))
    have hcj3 : icheck_c1 id = true := by unfold icheck_c1; rewrite [if_neg hc2, if_neg hc3, if_pos hc4]; rfl
    exact hout1 _ [(20, _)] _ ⟨rfl, trivial⟩ ⟨by rw [hcj3], (st.picks [0] (by decide)).pickK [], hF⟩
  have hc4 := eF hc4
  refine Ls_y (wtdT rfl rfl rfl) rfl rfl (y_fld rfl rfl Ty.fo_26_1) (Ls_y (wtdT rfl rfl rfl) rfl rfl (y_load (i := 0) rfl rfl Ty.pl_24 (fun _ e => e ▸ st.hp) rfl rfl) ?_)
  refine Ls_y (wtdT rfl rfl rfl) rfl rfl (y_gt rfl rfl rfl) (Ls_y (wtd0 rfl) rfl rfl (y_pick_f rfl rfl rfl) (Ls_nil (Th_n (?_))))
  have hcj4 : icheck_c1 id = (decide (1048576 < id.seq)) := by unfold icheck_c1; rewrite [if_neg hc2, if_neg hc3, if_neg hc4]; rfl
  exact hout1 _ [(20, _)] _ ⟨rfl, trivial⟩ ⟨by rw [hcj4], (st.picks [0] (by decide)).pickK [], hF⟩

def icheckTag_c1 (t : TagM) : Bool :=
  (if t.n < 0 then true else decide (16 ≤ t.n))
def icheckTag_m (t : TagM) : Int :=
  if (icheckTag_c1 t) = true then
    2
  else
    icheck_m t.id

theorem icheckTag_c1_iff (t : TagM) : (icheckTag_c1 t = true) ↔ ((t.n < 0) ∨ (16 ≤ t.n)) := by
  unfold icheckTag_c1; exact (ci1 decide_eq_true_iff)

set_option maxRecDepth 20000 in
theorem icheckTag_ok (w : World) (t : TagM) :
    Fn Tryd.prog 35 [.agg (tagMC t).toArray] w fun v w' => v = .int .i64 (icheckTag_m t) ∧ Fr [] w w' := by
  refine Fn_of 14 Ty.en_35 Tryd.func35 rfl rfl rfl ?_
  dsimp only [argEnv]
  have st : St [] w [] [] := St.nil (X := []) (w := w) (by simp [Lo])
  have hF := Fr.refl ([]) w
  refine Wp_seq fun K1 hK1 => ?_
  refine Wp_region (Ls_a (wtd0 rfl) ?_)
  refine a_box rfl rfl rfl rfl st.hp (fun g1 w1 (hp : Hp w1 [(_, Cl [_, _, _] _)]) hf hg1 => ?_)
  have st : St [] w1 [(_, Cl [_, _, _] _)] [] := st.push hp hf hg1
  have hg1 := Nat.le_trans hF.size hg1
  have hF := hF.step0 hf
  refine Las rfl rfl rfl rfl rfl (Ls_nil (Th_n (hK1 _ _ ?_)))
  refine Wp_seq fun K2 hK2 => ?_
  refine Wp_seq fun K3 hK3 => ?_
  refine use_out hK3 (fun E W => E = [(1, .pointer (some ⟨g1, 0, none⟩)), (10, .bool (icheckTag_c1 t))] ∧ St [] W (hOf st) (kOf st) ∧ Fr ([]) w W) ?_ fun hout1 => ?_
  · rintro E w2 ⟨rfl, st, hF⟩
    have st : St [] w2 [(_, Cl [_, _, _] _)] [] := st
    refine Wp_cond rfl (fun hc1 => ?_) (fun hc1 => ?_)
    · have jhc1 := (icheckTag_c1_iff t).1 hc1
      refine Wp_seq fun K4 hK4 => ?_
      refine Wp_region (Las rfl rfl rfl rfl rfl (Ls_nil (Th_n (hK4 _ _ ?_))))
      refine Wp_ret (Th_r (Fq_ret (Res1 rfl rfl) ?_))
      have he1 : icheckTag_m t = 2 := by unfold icheckTag_m; rewrite [if_pos hc1]; rfl
      rewrite [he1]
      exact ⟨rfl, hF⟩
    have jhc1 := mt (icheckTag_c1_iff t).2 (bF hc1)
    have hc1 := bF hc1
    refine Wp_skip (Th_n (hK2 _ _ ?_))
    refine Wp_seq fun K5 hK5 => ?_
    refine Wp_region (Ls_y (wtd0 rfl) rfl rfl (y_fld rfl rfl Ty.fo_28_0) (Ls_y (wtd0 rfl) rfl rfl (y_loadm (i := 0) rfl rfl Ty.ag_26 (fun _ e => e ▸ st.hp) rfl rfl rfl) ?_))
    refine Ls_a (wtd0 rfl) ?_
    refine a_call rfl rfl rfl rfl (icheck_ok _ t.id) (fun v w3 ⟨hv, hf⟩ => ?_)
    subst hv
    have st := st.keep0 hf
    have hF := hF.step0 hf
    have st : St [] w3 [(_, Cl [_, _, _] _)] [] := st
    refine Las rfl rfl rfl rfl rfl (Ls_nil (Th_n (hK5 _ _ ?_)))
    refine Wp_ret (Fq_ret (Res1 rfl rfl) ?_)
    have he2 : icheckTag_m t = (icheck_m t.id) := by unfold icheckTag_m; rewrite [if_neg hc1]; rfl
    rewrite [he2]
    exact ⟨rfl, hF⟩
  refine Wp_region (Ls_y (wtd0 rfl) rfl rfl (y_fld rfl rfl Ty.fo_28_1) (Ls_y (wtd0 rfl) rfl rfl (y_load (i := 0) rfl rfl Ty.pl_3 (fun _ e => e ▸ st.hp) rfl rfl) ?_))
  refine Ls_y (wtd0 rfl) rfl rfl (y_lt rfl rfl rfl) (Lmv rfl rfl rfl rfl rfl (Ls_bool 6 rfl (fun hc2 => ?_) (fun hc2 => ?_)))
  · have hc2 := dT hc2
    refine Ls_s (wtdF rfl rfl rfl) rfl rfl (Ls_s (wtdF rfl rfl rfl) rfl rfl (Ls_s (wtdF rfl rfl rfl) rfl rfl (Ls_y (wtd0 rfl) rfl rfl (y_pick_t rfl rfl rfl) (Ls_nil (Th_n (?_))))))
    have hcj1 : icheckTag_c1 t = true := by unfold icheckTag_c1; rewrite [if_pos hc2]; rfl
    exact hout1 _ [(1, _), (10, _)] _ ⟨rfl, rfl, trivial⟩ ⟨by rw [hcj1], (st.picks [0] (by decide)).pickK [], hF⟩
  have hc2 := dF hc2
  refine Ls_y (wtdT rfl rfl rfl) rfl rfl (y_fld rfl rfl Ty.fo_28_1) (Ls_y (wtdT rfl rfl rfl) rfl rfl (y_load (i := 0) rfl rfl Ty.pl_3 (fun _ e => e ▸ st.hp) rfl rfl) ?_)
  refine Ls_y (wtdT rfl rfl rfl) rfl rfl (y_ge rfl rfl rfl) (Ls_y (wtd0 rfl) rfl rfl (y_pick_f rfl rfl rfl) (Ls_nil (Th_n (?_))))
  have hcj2 : icheckTag_c1 t = (decide (16 ≤ t.n)) := by unfold icheckTag_c1; rewrite [if_neg hc2]; rfl
  exact hout1 _ [(1, _), (10, _)] _ ⟨rfl, rfl, trivial⟩ ⟨by rw [hcj2], (st.picks [0] (by decide)).pickK [], hF⟩

def icompare_m (a : IdM) (b : IdM) : Int :=
  cmpOr_m [cmpI_m a.origin b.origin, cmpU_m a.seq b.seq]


set_option maxRecDepth 20000 in
theorem icompare_ok (w : World) (a : IdM) (b : IdM) :
    Fn Tryd.prog 39 [.agg (idMC a).toArray, .agg (idMC b).toArray] w fun v w' => v = .int .i64 (icompare_m a b) ∧ Fr [] w w' := by
  refine Fn_of 17 Ty.en_39 Tryd.func39 rfl rfl rfl ?_
  dsimp only [argEnv]
  have st : St [] w [] [] := St.nil (X := []) (w := w) (by simp [Lo])
  have hF := Fr.refl ([]) w
  refine Wp_seq fun K1 hK1 => ?_
  refine Wp_region (Ls_a (wtd0 rfl) ?_)
  refine a_box rfl rfl rfl rfl st.hp (fun g1 w1 (hp : Hp w1 [(_, Cl [_, _] _)]) hf hg1 => ?_)
  have st : St [] w1 [(_, Cl [_, _] _)] [] := st.push hp hf hg1
  have hg1 := Nat.le_trans hF.size hg1
  have hF := hF.step0 hf
  refine Ls_a (wtd0 rfl) ?_
  refine a_box rfl rfl rfl rfl st.hp (fun g2 w2 (hp : Hp w2 [(_, Cl [_, _] _), (_, Cl [_, _] _)]) hf hg2 => ?_)
  have st : St [] w2 [(_, Cl [_, _] _), (_, Cl [_, _] _)] [] := st.push hp hf hg2
  have hg2 := Nat.le_trans hF.size hg2
  have hF := hF.step0 hf
  refine Las rfl rfl rfl rfl rfl (Ls_nil (Th_n (hK1 _ _ ?_)))
  refine Wp_seq fun K2 hK2 => ?_
  refine Wp_plan (fun W => St [] W (pickL (hOf st) [0, 1]) (kOf st)) [(true, 0), (true, 1), (true, 2), (true, 3), (true, 5), (true, 6), (true, 7), (true, 8), (false, 4), (false, 9), (false, 10), (false, 11), (true, 12)] Ty.mx_0 (by kernel_rfl) (by kernel_rfl) rfl ((st.picks [0, 1] (by decide)).drew) ?_
  have st := st.drew
  have hF := hF.step0 (Fr.drew _)
  refine Pl_y rfl (wtd0 rfl) rfl rfl (y_fld rfl rfl Ty.fo_26_0) (Pl_y rfl (wtd0 rfl) rfl rfl (y_load (i := 0) rfl rfl Ty.pl_3 (fun _ h => h.hp) rfl rfl) ?_)
  refine Pl_y rfl (wtd0 rfl) rfl rfl (y_fld rfl rfl Ty.fo_26_0) (Pl_y rfl (wtd0 rfl) rfl rfl (y_load (i := 1) rfl rfl Ty.pl_3 (fun _ h => h.hp) rfl rfl) ?_)
  refine Pl_y rfl (wtd0 rfl) rfl rfl (y_fld rfl rfl Ty.fo_26_1) (Pl_y rfl (wtd0 rfl) rfl rfl (y_load (i := 0) rfl rfl Ty.pl_24 (fun _ h => h.hp) rfl rfl) ?_)
  refine Pl_y rfl (wtd0 rfl) rfl rfl (y_fld rfl rfl Ty.fo_26_1) (Pl_y rfl (wtd0 rfl) rfl rfl (y_load (i := 1) rfl rfl Ty.pl_24 (fun _ h => h.hp) rfl rfl) ?_)
  refine Pl_a rfl (wtd0 rfl) (by rfl) ?_
  refine a_call rfl rfl rfl rfl (cmpI_ok _ a.origin b.origin) (fun v w3 ⟨hv, hf⟩ => ?_)
  subst hv
  have st := st.keep0 hf
  have hF := hF.step0 hf
  have st : St [] w3 [(_, Cl [_, _] _), (_, Cl [_, _] _)] [] := st
  refine ⟨(st.picks [0, 1] (by decide)).takeK 0, ?_⟩
  refine Pl_a rfl (wtd0 rfl) (by rfl) ?_
  refine a_call rfl rfl rfl rfl (cmpU_ok _ a.seq b.seq) (fun v w4 ⟨hv, hf⟩ => ?_)
  subst hv
  have st := st.keep0 hf
  have hF := hF.step0 hf
  have st : St [] w4 [(_, Cl [_, _] _), (_, Cl [_, _] _)] [] := st
  refine ⟨(st.picks [0, 1] (by decide)).takeK 0, ?_⟩
  refine Pl_a rfl (wtd0 rfl) (by rfl) ?_
  refine a_bsl rfl rfl rfl rfl rfl Ty.es_87 Ty.zc_3 rfl (by decide) (by simp [Value.cells]) st.hp (fun g3 w5 (hp : Hp w5 [(_, Cl [_, _] _), (_, Cl [_, _] _), _]) hf hg3 => ?_)
  have how1 : Ow (some ⟨g3, 0, none⟩) [cmpI_m a.origin b.origin, cmpU_m a.seq b.seq].length 2 1 ([cmpI_m a.origin b.origin, cmpU_m a.seq b.seq].flatMap (fun x => [Value.int .i64 x])) [] := ⟨rfl, .inr ⟨g3, rfl, rfl, Nat.le_refl _, by unfold maxLen; decide⟩⟩
  have st : St [] w5 [(_, Cl [_, _] _), (_, Cl [_, _] _), _] [] := st.push hp hf hg3
  have st : St [] w5 [(_, Cl [_, _] _), (_, Cl [_, _] _), _] [] := st
  have hg3 := Nat.le_trans hF.size hg3
  have hF := hF.step0 hf
  have hnew1 : ∀ g, blkOf (some ⟨g3, 0, none⟩) = some g → g ∈ ([]) ∨ w.heap.size ≤ g := fun g hg => by simp [blkOf] at hg; subst hg; exact .inr hg3
  refine ⟨(st.picks [0, 1] (by decide)).takeK 0, ?_⟩
  refine Pl_a rfl (wtd0 rfl) (by rfl) ?_
  refine a_call rfl rfl rfl rfl (cmpOr_ok (keys (pickL (hOf st) [0, 1]) ++ []) _ (st.sub [0, 1] [] [] (by decide)).lo [cmpI_m a.origin b.origin, cmpU_m a.seq b.seq] (some ⟨g3, 0, none⟩) 2 ((st.freeze (i := 2) [0, 1] (by decide) rfl how1 (by decide)).k (i := 0) rfl)) (fun v w6 ⟨hv, hf⟩ => ?_)
  subst hv
  have st := st.keep0 hf
  have hF := hF.step0 hf
  have st : St [] w6 [(_, Cl [_, _] _), (_, Cl [_, _] _), _] [] := st
  refine ⟨(st.picks [0, 1] (by decide)).takeK 0, ?_⟩
  refine Pl_y rfl (wtd0 rfl) rfl rfl (y_assign rfl rfl) (Pl_nil (Th_n (hK2 _ _ ?_)))
  refine Wp_ret (Fq_ret (Res1 rfl rfl) ?_)
  have he1 : icompare_m a b = (cmpOr_m [cmpI_m a.origin b.origin, cmpU_m a.seq b.seq]) := by unfold icompare_m; rfl
  rewrite [he1]
  exact ⟨rfl, hF⟩

def icompareTag_m (a : TagM) (b : TagM) : Int :=
  cmpOr_m [icompare_m a.id b.id, cmpI_m a.n b.n]


set_option maxRecDepth 20000 in
theorem icompareTag_ok (w : World) (a : TagM) (b : TagM) :
    Fn Tryd.prog 27 [.agg (tagMC a).toArray, .agg (tagMC b).toArray] w fun v w' => v = .int .i64 (icompareTag_m a b) ∧ Fr [] w w' := by
  refine Fn_of 17 Ty.en_27 Tryd.func27 rfl rfl rfl ?_
  dsimp only [argEnv]
  have st : St [] w [] [] := St.nil (X := []) (w := w) (by simp [Lo])
  have hF := Fr.refl ([]) w
  refine Wp_seq fun K1 hK1 => ?_
  refine Wp_region (Ls_a (wtd0 rfl) ?_)
  refine a_box rfl rfl rfl rfl st.hp (fun g1 w1 (hp : Hp w1 [(_, Cl [_, _, _] _)]) hf hg1 => ?_)
  have st : St [] w1 [(_, Cl [_, _, _] _)] [] := st.push hp hf hg1
  have hg1 := Nat.le_trans hF.size hg1
  have hF := hF.step0 hf
  refine Ls_a (wtd0 rfl) ?_
  refine a_box rfl rfl rfl rfl st.hp (fun g2 w2 (hp : Hp w2 [(_, Cl [_, _, _] _), (_, Cl [_, _, _] _)]) hf hg2 => ?_)
  have st : St [] w2 [(_, Cl [_, _, _] _), (_, Cl [_, _, _] _)] [] := st.push hp hf hg2
  have hg2 := Nat.le_trans hF.size hg2
  have hF := hF.step0 hf
  refine Las rfl rfl rfl rfl rfl (Ls_nil (Th_n (hK1 _ _ ?_)))
  refine Wp_seq fun K2 hK2 => ?_
  refine Wp_plan (fun W => St [] W (pickL (hOf st) [0, 1]) (kOf st)) [(true, 0), (true, 1), (true, 2), (true, 3), (true, 5), (true, 6), (true, 7), (true, 8), (false, 4), (false, 9), (false, 10), (false, 11), (true, 12)] Ty.mx_0 (by kernel_rfl) (by kernel_rfl) rfl ((st.picks [0, 1] (by decide)).drew) ?_
  have st := st.drew
  have hF := hF.step0 (Fr.drew _)
  refine Pl_y rfl (wtd0 rfl) rfl rfl (y_fld rfl rfl Ty.fo_28_0) (Pl_y rfl (wtd0 rfl) rfl rfl (y_loadm (i := 0) rfl rfl Ty.ag_26 (fun _ h => h.hp) rfl rfl rfl) ?_)
  refine Pl_y rfl (wtd0 rfl) rfl rfl (y_fld rfl rfl Ty.fo_28_0) (Pl_y rfl (wtd0 rfl) rfl rfl (y_loadm (i := 1) rfl rfl Ty.ag_26 (fun _ h => h.hp) rfl rfl rfl) ?_)
  refine Pl_y rfl (wtd0 rfl) rfl rfl (y_fld rfl rfl Ty.fo_28_1) (Pl_y rfl (wtd0 rfl) rfl rfl (y_load (i := 0) rfl rfl Ty.pl_3 (fun _ h => h.hp) rfl rfl) ?_)
  refine Pl_y rfl (wtd0 rfl) rfl rfl (y_fld rfl rfl Ty.fo_28_1) (Pl_y rfl (wtd0 rfl) rfl rfl (y_load (i := 1) rfl rfl Ty.pl_3 (fun _ h => h.hp) rfl rfl) ?_)
  refine Pl_a rfl (wtd0 rfl) (by rfl) ?_
  refine a_call rfl rfl rfl rfl (icompare_ok _ a.id b.id) (fun v w3 ⟨hv, hf⟩ => ?_)
  subst hv
  have st := st.keep0 hf
  have hF := hF.step0 hf
  have st : St [] w3 [(_, Cl [_, _, _] _), (_, Cl [_, _, _] _)] [] := st
  refine ⟨(st.picks [0, 1] (by decide)).takeK 0, ?_⟩
  refine Pl_a rfl (wtd0 rfl) (by rfl) ?_
  refine a_call rfl rfl rfl rfl (cmpI_ok _ a.n b.n) (fun v w4 ⟨hv, hf⟩ => ?_)
  subst hv
  have st := st.keep0 hf
  have hF := hF.step0 hf
  have st : St [] w4 [(_, Cl [_, _, _] _), (_, Cl [_, _, _] _)] [] := st
  refine ⟨(st.picks [0, 1] (by decide)).takeK 0, ?_⟩
  refine Pl_a rfl (wtd0 rfl) (by rfl) ?_
  refine a_bsl rfl rfl rfl rfl rfl Ty.es_87 Ty.zc_3 rfl (by decide) (by simp [Value.cells]) st.hp (fun g3 w5 (hp : Hp w5 [(_, Cl [_, _, _] _), (_, Cl [_, _, _] _), _]) hf hg3 => ?_)
  have how1 : Ow (some ⟨g3, 0, none⟩) [icompare_m a.id b.id, cmpI_m a.n b.n].length 2 1 ([icompare_m a.id b.id, cmpI_m a.n b.n].flatMap (fun x => [Value.int .i64 x])) [] := ⟨rfl, .inr ⟨g3, rfl, rfl, Nat.le_refl _, by unfold maxLen; decide⟩⟩
  have st : St [] w5 [(_, Cl [_, _, _] _), (_, Cl [_, _, _] _), _] [] := st.push hp hf hg3
  have st : St [] w5 [(_, Cl [_, _, _] _), (_, Cl [_, _, _] _), _] [] := st
  have hg3 := Nat.le_trans hF.size hg3
  have hF := hF.step0 hf
  have hnew1 : ∀ g, blkOf (some ⟨g3, 0, none⟩) = some g → g ∈ ([]) ∨ w.heap.size ≤ g := fun g hg => by simp [blkOf] at hg; subst hg; exact .inr hg3
  refine ⟨(st.picks [0, 1] (by decide)).takeK 0, ?_⟩
  refine Pl_a rfl (wtd0 rfl) (by rfl) ?_
  refine a_call rfl rfl rfl rfl (cmpOr_ok (keys (pickL (hOf st) [0, 1]) ++ []) _ (st.sub [0, 1] [] [] (by decide)).lo [icompare_m a.id b.id, cmpI_m a.n b.n] (some ⟨g3, 0, none⟩) 2 ((st.freeze (i := 2) [0, 1] (by decide) rfl how1 (by decide)).k (i := 0) rfl)) (fun v w6 ⟨hv, hf⟩ => ?_)
  subst hv
  have st := st.keep0 hf
  have hF := hF.step0 hf
  have st : St [] w6 [(_, Cl [_, _, _] _), (_, Cl [_, _, _] _), _] [] := st
  refine ⟨(st.picks [0, 1] (by decide)).takeK 0, ?_⟩
  refine Pl_y rfl (wtd0 rfl) rfl rfl (y_assign rfl rfl) (Pl_nil (Th_n (hK2 _ _ ?_)))
  refine Wp_ret (Fq_ret (Res1 rfl rfl) ?_)
  have he1 : icompareTag_m a b = (cmpOr_m [icompare_m a.id b.id, cmpI_m a.n b.n]) := by unfold icompareTag_m; rfl
  rewrite [he1]
  exact ⟨rfl, hF⟩

def lthere_m (origin : Int) : Bool :=
  if 0 ≤ origin then
    decide (origin < 8)
  else
    false


set_option maxRecDepth 20000 in
theorem lthere_ok (w : World) (origin : Int) :
    Fn Tryd.prog 48 [.int .i64 origin] w fun v w' => v = .bool (lthere_m origin) ∧ Fr [] w w' := by
  refine Fn_of 9 Ty.en_48 Tryd.func48 rfl rfl rfl ?_
  dsimp only [argEnv]
  have st : St [] w [] [] := St.nil (X := []) (w := w) (by simp [Lo])
  have hF := Fr.refl ([]) w
  refine Wp_seq fun K1 hK1 => ?_
  refine Wp_region (Las rfl rfl rfl rfl rfl (Ls_nil (Th_n (hK1 _ _ ?_))))
  refine Wp_seq fun K2 hK2 => ?_
  refine Wp_region (Lmv rfl rfl rfl rfl rfl (Ls_y (wtd0 rfl) rfl rfl (y_ge rfl rfl rfl) (Lmv rfl rfl rfl rfl rfl (Ls_bool 5 rfl (fun hc1 => ?_) (fun hc1 => ?_)))))
  · have hc1 := dT hc1
    refine Ls_y (wtdT rfl rfl rfl) rfl rfl (y_move rfl rfl) (Ls_y (wtdT rfl rfl rfl) rfl rfl (y_lt rfl rfl rfl) (Ls_y (wtd0 rfl) rfl rfl (y_pick_t rfl rfl rfl) (Las rfl rfl rfl rfl rfl (Ls_nil (Th_n (hK2 _ _ ?_))))))
    refine Wp_ret (Fq_ret (Res1 rfl rfl) ?_)
    have he1 : lthere_m origin = (decide (origin < 8)) := by unfold lthere_m; rewrite [if_pos hc1]; rfl
    rewrite [he1]
    exact ⟨rfl, hF⟩
  have hc1 := dF hc1
  refine Ls_s (wtdF rfl rfl rfl) rfl rfl (Ls_s (wtdF rfl rfl rfl) rfl rfl (Ls_y (wtd0 rfl) rfl rfl (y_pick_f rfl rfl rfl) (Las rfl rfl rfl rfl rfl (Ls_nil (Th_n (hK2 _ _ ?_))))))
  refine Wp_ret (Fq_ret (Res1 rfl rfl) ?_)
  have he2 : lthere_m origin = false := by unfold lthere_m; rewrite [if_neg hc1]; rfl
  rewrite [he2]
  exact ⟨rfl, hF⟩

def lcheck_c1 (s : StampM) : Bool :=
  (if 1048576 < s.time then true else !(lthere_m s.origin))
def lcheck_m (s : StampM) : Int :=
  if (lcheck_c1 s) = true then
    2
  else
    0

theorem lcheck_c1_iff (s : StampM) : (lcheck_c1 s = true) ↔ ((1048576 < s.time) ∨ (¬ ((lthere_m s.origin) = true))) := by
  unfold lcheck_c1; exact (ci1 (by simp))

set_option maxRecDepth 20000 in
theorem lcheck_ok (w : World) (s : StampM) :
    Fn Tryd.prog 37 [.agg (stampMC s).toArray] w fun v w' => v = .int .i64 (lcheck_m s) ∧ Fr [] w w' := by
  refine Fn_of 12 Ty.en_37 Tryd.func37 rfl rfl rfl ?_
  dsimp only [argEnv]
  have st : St [] w [] [] := St.nil (X := []) (w := w) (by simp [Lo])
  have hF := Fr.refl ([]) w
  refine Wp_seq fun K1 hK1 => ?_
  refine Wp_region (Ls_a (wtd0 rfl) ?_)
  refine a_box rfl rfl rfl rfl st.hp (fun g1 w1 (hp : Hp w1 [(_, Cl [_, _] _)]) hf hg1 => ?_)
  have st : St [] w1 [(_, Cl [_, _] _)] [] := st.push hp hf hg1
  have hg1 := Nat.le_trans hF.size hg1
  have hF := hF.step0 hf
  refine Las rfl rfl rfl rfl rfl (Ls_nil (Th_n (hK1 _ _ ?_)))
  refine Wp_seq fun K2 hK2 => ?_
  refine Wp_seq fun K3 hK3 => ?_
  refine use_out hK3 (fun E W => E = [(11, .bool (lcheck_c1 s))] ∧ St [] W (hOf st) (kOf st) ∧ Fr ([]) w W) ?_ fun hout1 => ?_
  · rintro E w2 ⟨rfl, st, hF⟩
    have st : St [] w2 [(_, Cl [_, _] _)] [] := st
    refine Wp_cond rfl (fun hc1 => ?_) (fun hc1 => ?_)
    · have jhc1 := (lcheck_c1_iff s).1 hc1
      refine Wp_seq fun K4 hK4 => ?_
      refine Wp_region (Las rfl rfl rfl rfl rfl (Ls_nil (Th_n (hK4 _ _ ?_))))
      refine Wp_ret (Th_r (Fq_ret (Res1 rfl rfl) ?_))
      have he1 : lcheck_m s = 2 := by unfold lcheck_m; rewrite [if_pos hc1]; rfl
      rewrite [he1]
      exact ⟨rfl, hF⟩
    have jhc1 := mt (lcheck_c1_iff s).2 (bF hc1)
    have hc1 := bF hc1
    refine Wp_skip (Th_n (hK2 _ _ ?_))
    refine Wp_seq fun K5 hK5 => ?_
    refine Wp_region (Las rfl rfl rfl rfl rfl (Ls_nil (Th_n (hK5 _ _ ?_))))
    refine Wp_ret (Fq_ret (Res1 rfl rfl) ?_)
    have he2 : lcheck_m s = 0 := by unfold lcheck_m; rewrite [if_neg hc1]; rfl
    rewrite [he2]
    exact ⟨rfl, hF⟩
  refine Wp_region (Ls_y (wtd0 rfl) rfl rfl (y_fld rfl rfl Ty.fo_30_0) (Ls_y (wtd0 rfl) rfl rfl (y_load (i := 0) rfl rfl Ty.pl_24 (fun _ e => e ▸ st.hp) rfl rfl) ?_))
  refine Ls_y (wtd0 rfl) rfl rfl (y_gt rfl rfl rfl) (Lmv rfl rfl rfl rfl rfl (Ls_bool 6 rfl (fun hc2 => ?_) (fun hc2 => ?_)))
  · have hc2 := dT hc2
    refine Ls_s (wtdF rfl rfl rfl) rfl rfl (Ls_s (wtdF rfl rfl rfl) rfl rfl (Ls_s (wtdF rfl rfl rfl) rfl rfl (Ls_s (wtdF rfl rfl rfl) rfl rfl (Ls_y (wtd0 rfl) rfl rfl (y_pick_t rfl rfl rfl) (Ls_nil (Th_n (?_)))))))
    have hcj1 : lcheck_c1 s = true := by unfold lcheck_c1; rewrite [if_pos hc2]; rfl
    exact hout1 _ [(11, _)] _ ⟨rfl, trivial⟩ ⟨by rw [hcj1], (st.picks [0] (by decide)).pickK [], hF⟩
  have hc2 := dF hc2
  refine Ls_y (wtdT rfl rfl rfl) rfl rfl (y_fld rfl rfl Ty.fo_30_1) (Ls_y (wtdT rfl rfl rfl) rfl rfl (y_load (i := 0) rfl rfl Ty.pl_3 (fun _ e => e ▸ st.hp) rfl rfl) ?_)
  refine Ls_a (wtdT rfl rfl rfl) ?_
  refine a_call rfl rfl rfl rfl (lthere_ok _ s.origin) (fun v w3 ⟨hv, hf⟩ => ?_)
  subst hv
  have st := st.keep0 hf
  have hF := hF.step0 hf
  have st : St [] w3 [(_, Cl [_, _] _)] [] := st
  refine Ls_y (wtdT rfl rfl rfl) rfl rfl (y_not rfl rfl) (Ls_y (wtd0 rfl) rfl rfl (y_pick_f rfl rfl rfl) (Ls_nil (Th_n (?_))))
  have hcj2 : lcheck_c1 s = (!(lthere_m s.origin)) := by unfold lcheck_c1; rewrite [if_neg hc2]; rfl
  exact hout1 _ [(11, _)] _ ⟨rfl, trivial⟩ ⟨by rw [hcj2], (st.picks [0] (by decide)).pickK [], hF⟩

def oelem_m (s : List UInt8) : Bool :=
  if s = [] then
    false
  else
    decide ((s.length : Int) ≤ 12)


set_option maxRecDepth 20000 in
theorem oelem_ok (w : World) (s : List UInt8) :
    Fn Tryd.prog 22 [sv s] w fun v w' => v = .bool (oelem_m s) ∧ Fr [] w w' := by
  refine Fn_of 10 Ty.en_22 Tryd.func22 rfl rfl rfl ?_
  dsimp only [argEnv]
  have st : St [] w [] [] := St.nil (X := []) (w := w) (by simp [Lo])
  have hF := Fr.refl ([]) w
  refine Wp_seq fun K1 hK1 => ?_
  refine Wp_region (Las rfl rfl rfl rfl rfl (Ls_nil (Th_n (hK1 _ _ ?_))))
  refine Wp_seq fun K2 hK2 => ?_
  refine Wp_region (Lmv rfl rfl rfl rfl rfl (Ls_y (wtd0 rfl) rfl rfl (y_nes rfl rfl rfl) ?_))
  refine Lmv rfl rfl rfl rfl rfl (Ls_bool 5 rfl (fun hc1 => ?_) (fun hc1 => ?_))
  · have hc1 := neT hc1
    refine Ls_y (wtdT rfl rfl rfl) rfl rfl (y_move rfl rfl) (Ls_y (wtdT rfl rfl rfl) rfl rfl (y_lens rfl rfl Tryd.underlying9) ?_)
    refine Ls_y (wtdT rfl rfl rfl) rfl rfl (y_le rfl rfl rfl) (Ls_y (wtd0 rfl) rfl rfl (y_pick_t rfl rfl rfl) (Las rfl rfl rfl rfl rfl (Ls_nil (Th_n (hK2 _ _ ?_)))))
    refine Wp_ret (Fq_ret (Res1 rfl rfl) ?_)
    have he1 : oelem_m s = (decide ((s.length : Int) ≤ 12)) := by unfold oelem_m; rewrite [if_neg hc1]; rfl
    rewrite [he1]
    exact ⟨rfl, hF⟩
  have hc1 := neF hc1
  refine Ls_s (wtdF rfl rfl rfl) rfl rfl (Ls_s (wtdF rfl rfl rfl) rfl rfl (Ls_s (wtdF rfl rfl rfl) rfl rfl (Ls_y (wtd0 rfl) rfl rfl (y_pick_f rfl rfl rfl) (Las rfl rfl rfl rfl rfl (Ls_nil (Th_n (hK2 _ _ ?_)))))))
  refine Wp_ret (Fq_ret (Res1 rfl rfl) ?_)
  have he2 : oelem_m s = false := by unfold oelem_m; rewrite [if_pos hc1]; rfl
  rewrite [he2]
  exact ⟨rfl, hF⟩

def indexF_L1 {α : Type} [Inhabited α] [DecidableEq α] (s : List α) (f : α → Bool) : Nat → Int → (Int) ⊕ (Int)
  | 0, s8 => .inr (s8)
  | fuel + 1, s8 =>
    if s8 < (s.length : Int) then
      if (f (ix s s8)) = true then
        .inl s8
      else
        indexF_L1 s f fuel (s8 + 1)
    else
      .inr (s8)
def indexF_m {α : Type} [Inhabited α] [DecidableEq α] (s : List α) (f : α → Bool) : Int :=
  match indexF_L1 s f (((s.length : Int) - (0 : Int)).toNat + 1) (0 : Int) with
  | .inl r => r
  | .inr (s8) =>
    (-1)


set_option maxRecDepth 20000 in
theorem indexTag_ok (X : List Nat) (w : World) (hX : Lo X w) (s : List TagM) (A_s : Option Addr) (c_s : Nat) (fv_f : Value) (f : TagM → Bool) (h_s : Sld X w A_s s.length c_s 3 (s.flatMap tagMC)) (hp_f : ∀ (w1 : World) (x0 : TagM), Fr ([]) w w1 → FnV Tryd.prog fv_f [.agg (tagMC x0).toArray] w1 fun v w2 => v = .bool (f x0) ∧ Fr [] w1 w2) :
    Fn Tryd.prog 36 [.slice A_s s.length c_s, fv_f] w fun v w' => v = .int .i64 (indexF_m s f) ∧ Fr [] w w' := by
  refine Fn_of 19 Ty.en_36 Tryd.func36 rfl rfl rfl ?_
  dsimp only [argEnv]
  have st : St X w [] [kS A_s s.length c_s 3 (s.flatMap tagMC)] := (St.nil (X := X) (w := w) hX).addK (kS A_s s.length c_s 3 (s.flatMap tagMC)) h_s
  have hF := Fr.refl ([]) w
  have hleA_s := (st.k (i := 0) rfl).le
  refine Wp_seq fun K1 hK1 => ?_
  refine Wp_region (Las rfl rfl rfl rfl rfl (Ls_nil (Th_n (hK1 _ _ ?_))))
  refine Wp_seq fun K2 hK2 => ?_
  refine Wp_seq fun K3 hK3 => ?_
  refine Wp_region (Lmv rfl rfl rfl rfl rfl (Ls_y (wtd0 rfl) rfl rfl (y_lenl rfl rfl Tryd.underlying31) ?_))
  refine Lmv rfl rfl rfl rfl rfl (Ls_nil (Th_n (hK3 _ _ ?_)))
  refine Wp_block (use_out hK2 (fun E W => ∃ (s8 : Int), E = [(0, .slice A_s s.length c_s), (1, fv_f), (7, .int .i64 (s.length : Int)), (8, .int .i64 s8)] ∧ indexF_L1 s f (((s.length : Int) - (0 : Int)).toNat + 1) (0 : Int) = .inr (s8) ∧ (0 ≤ s8) ∧ St X W [] [kS A_s s.length c_s 3 (s.flatMap tagMC)] ∧ Fr ([]) w W) ?_ fun hout1 => ?_)
  · rintro E w1 ⟨s8, rfl, hLk1, hinv, st, hF⟩
    refine Wp_seq fun K4 hK4 => ?_
    refine Wp_region (Las rfl rfl rfl rfl rfl (Ls_nil (Th_n (hK4 _ _ ?_))))
    refine Wp_ret (Fq_ret (Res1 rfl rfl) ?_)
    have he1 : indexF_m s f = (-1) := by unfold indexF_m; rewrite [hLk1]; (try dsimp only); all_goals rfl
    rewrite [he1]
    exact ⟨rfl, hF⟩
  refine Wp_loopE (fun m E W => ∃ (s8 : Int), E = [(0, .slice A_s s.length c_s), (1, fv_f), (7, .int .i64 (s.length : Int)), (8, .int .i64 s8)] ∧ indexF_L1 s f m s8 = indexF_L1 s f (((s.length : Int) - (0 : Int)).toNat + 1) (0 : Int) ∧ ((s.length : Int) - s8).toNat < m ∧ (0 ≤ s8) ∧ St X W [] [kS A_s s.length c_s 3 (s.flatMap tagMC)] ∧ Fr ([]) w W) (((s.length : Int) - (0 : Int)).toNat + 1) [(0, _), (1, _), (7, _), (8, _)] ⟨rfl, rfl, rfl, rfl, trivial⟩ ?_ ?_
  · exact ⟨_, rfl, rfl, Nat.lt_succ_self _, by first | omega | (simp; done) | (simp; omega), st, hF⟩
  rintro m E w2 ⟨s8, rfl, hL1, hmu, hinv, st, hF⟩
  obtain ⟨fuel, rfl⟩ : ∃ q, m = q + 1 := ⟨m - 1, by omega⟩
  refine Wp_seq fun K5 hK5 => ?_
  refine Wp_region (Ls_y (wtd0 rfl) rfl rfl (y_lt rfl rfl rfl) (Ls_nil (Th_n (hK5 _ _ ?_))))
  refine Wp_seq fun K6 hK6 => ?_
  refine Wp_cond rfl (fun hc1 => ?_) (fun hc1 => ?_)
  · have hc1 := dT hc1
    refine Wp_skip (Th_n (hK6 _ _ ?_))
    refine Wp_seq fun K7 hK7 => ?_
    refine Wp_block (Wp_seq fun K8 hK8 => ?_)
    refine Wp_region (Lmv rfl rfl rfl rfl rfl (Las rfl rfl rfl rfl rfl (Ls_nil (Th_n (hK8 _ _ ?_)))))
    refine Wp_seq fun K9 hK9 => ?_
    refine Wp_region (Lmv rfl rfl rfl rfl rfl (Lmv rfl rfl rfl rfl rfl (Lmv rfl rfl rfl rfl rfl ?_)))
    obtain ⟨gi1, bi1, egi1⟩ := (st.k (i := 0) rfl).addr (fun _ => rfl) (by decide) (q := s8) (by first | omega | (simp; done) | (simp; omega)) (by first | omega | (simp; done) | (simp; omega))
    subst egi1
    refine Ls_y (wtd0 rfl) rfl rfl (y_ixa (q := s8) rfl rfl rfl Ty.es_31 (by first | omega | (simp; done) | (simp; omega)) (by first | omega | (simp; done) | (simp; omega))) ?_
    refine Ls_y (wtd0 rfl) rfl rfl (y_ldk (q := s8) rfl rfl Ty.ag_28 (fun _ e => e ▸ st.k (i := 0) rfl) (fun _ => rfl) (by first | omega | (simp; done) | (simp; omega)) (by first | omega | (simp; done) | (simp; omega))) ?_
    refine Ls_a (wtd0 rfl) ?_
    refine a_callv rfl rfl rfl rfl rfl (hp_f _ (ix s s8) hF) (fun v w3 ⟨hv, hf⟩ => ?_)
    subst hv
    have st := st.keep0 hf
    have hF := hF.step0 hf
    have st : St X w3 [] [_] := st
    refine Ls_nil (Th_n (hK9 _ _ ?_))
    refine Wp_cond rfl (fun hc2 => ?_) (fun hc2 => ?_)
    · refine Wp_seq fun K10 hK10 => ?_
      refine Wp_region (Lmv rfl rfl rfl rfl rfl (Las rfl rfl rfl rfl rfl (Ls_nil (Th_n (hK10 _ _ ?_)))))
      refine Wp_ret (Ib_r (Th_r (Th_r (Ib_r (Th_r (Fq_ret (Res1 rfl rfl) ?_))))))
      have hret1 : indexF_L1 s f (((s.length : Int) - (0 : Int)).toNat + 1) (0 : Int) = .inl s8 := by rewrite [← hL1, indexF_L1]; rewrite [if_pos hc1, if_pos hc2]; rfl
      have he2 : indexF_m s f = s8 := by unfold indexF_m; rewrite [hret1]; (try dsimp only); all_goals rfl
      rewrite [he2]
      exact ⟨rfl, hF⟩
    have hc2 := bF hc2
    refine Wp_skip (Ib_n (Th_n (hK7 _ _ ?_)))
    refine Wp_region (Ls_y (wtd0 rfl) rfl rfl (y_add (c := s8 + 1) rfl rfl rfl (wf_i64 (by first | omega | (simp; done) | (simp; omega)))) ?_)
    refine Lmv rfl rfl rfl rfl rfl (Ls_nil (Th_n (?_)))
    have hE1 : indexF_L1 s f fuel (s8 + 1) = indexF_L1 s f (((s.length : Int) - (0 : Int)).toNat + 1) (0 : Int) := by rewrite [← hL1, indexF_L1]; rewrite [if_pos hc1, if_neg hc2]; rfl
    exact ⟨fuel, [(0, _), (1, _), (7, _), (8, _)], Nat.lt_succ_self _, ⟨rfl, rfl, rfl, rfl, trivial⟩, (s8 + 1), rfl, hE1, by first | omega | (simp; done) | (simp; omega), by first | omega | (simp; done) | (simp; omega), (st.picks [] (by decide)).pickK [0], hF⟩
  have hc1 := dF hc1
  refine Wp_exit (Th_e (Th_e (Ib_hit (Th_n (?_)))))
  have hE2 : indexF_L1 s f (((s.length : Int) - (0 : Int)).toNat + 1) (0 : Int) = .inr (s8) := by rewrite [← hL1, indexF_L1]; rewrite [if_neg hc1]; rfl
  exact hout1 _ [(0, _), (1, _), (7, _), (8, _)] _ ⟨rfl, rfl, rfl, rfl, trivial⟩ ⟨s8, rfl, hE2, by first | omega | (simp; done) | (simp; omega), (st.picks [] (by decide)).pickK [0], hF⟩

def containsF_m {α : Type} [Inhabited α] [DecidableEq α] (s : List α) (f : α → Bool) : Bool :=
  decide (0 ≤ (indexF_m s f))


set_option maxRecDepth 20000 in
theorem containsTag_ok (X : List Nat) (w : World) (hX : Lo X w) (s : List TagM) (A_s : Option Addr) (c_s : Nat) (fv_f : Value) (f : TagM → Bool) (h_s : Sld X w A_s s.length c_s 3 (s.flatMap tagMC)) (hp_f : ∀ (w1 : World) (x0 : TagM), Fr ([]) w w1 → FnV Tryd.prog fv_f [.agg (tagMC x0).toArray] w1 fun v w2 => v = .bool (f x0) ∧ Fr [] w1 w2) :
    Fn Tryd.prog 25 [.slice A_s s.length c_s, fv_f] w fun v w' => v = .bool (containsF_m s f) ∧ Fr [] w w' := by
  refine Fn_of 9 Ty.en_25 Tryd.func25 rfl rfl rfl ?_
  dsimp only [argEnv]
  have st : St X w [] [kS A_s s.length c_s 3 (s.flatMap tagMC)] := (St.nil (X := X) (w := w) hX).addK (kS A_s s.length c_s 3 (s.flatMap tagMC)) h_s
  have hF := Fr.refl ([]) w
  have hleA_s := (st.k (i := 0) rfl).le
  refine Wp_seq fun K1 hK1 => ?_
  refine Wp_region (Las rfl rfl rfl rfl rfl (Ls_nil (Th_n (hK1 _ _ ?_))))
  refine Wp_seq fun K2 hK2 => ?_
  refine Wp_region (Lmv rfl rfl rfl rfl rfl (Lmv rfl rfl rfl rfl rfl (Ls_a (wtd0 rfl) ?_)))
  refine a_call rfl rfl rfl rfl (indexTag_ok (keys (hOf st) ++ X) _ st.Lo s A_s c_s fv_f f (st.k (i := 0) rfl) (fun w1 x0 hw => hp_f w1 x0 (hF.step0 hw))) (fun v w1 ⟨hv, hf⟩ => ?_)
  subst hv
  have st := st.keep0 hf
  have hF := hF.step0 hf
  have st : St X w1 [] [_] := st
  refine Ls_y (wtd0 rfl) rfl rfl (y_ge rfl rfl rfl) (Las rfl rfl rfl rfl rfl (Ls_nil (Th_n (hK2 _ _ ?_))))
  refine Wp_ret (Fq_ret (Res1 rfl rfl) ?_)
  have he1 : containsF_m s f = (decide (0 ≤ (indexF_m s f))) := by unfold containsF_m; rfl
  rewrite [he1]
  exact ⟨rfl, hF⟩

def okind_m (act : Int) : Int :=
  if act = 1 then
    1
  else
    if act = 2 then
      2
    else
      if act = 3 then
        3
      else
        if act = 4 then
          3
        else
          if act = 5 then
            4
          else
            if act = 6 then
              4
            else
              0


set_option maxRecDepth 20000 in
theorem okind_ok (w : World) (act : Int) :
    Fn Tryd.prog 7 [.int .i64 act] w fun v w' => v = .int .i64 (okind_m act) ∧ Fr [] w w' := by
  refine Fn_of 14 Ty.en_7 Tryd.func7 rfl rfl rfl ?_
  dsimp only [argEnv]
  have st : St [] w [] [] := St.nil (X := []) (w := w) (by simp [Lo])
  have hF := Fr.refl ([]) w
  refine Wp_seq fun K1 hK1 => ?_
  refine Wp_region (Las rfl rfl rfl rfl rfl (Ls_nil (Th_n (hK1 _ _ ?_))))
  refine Wp_seq fun K2 hK2 => ?_
  refine Wp_seq fun K3 hK3 => ?_
  refine Wp_region (Lmv rfl rfl rfl rfl rfl (Ls_nil (Th_n (hK3 _ _ ?_))))
  refine Wp_block (Wp_seq fun K4 hK4 => ?_)
  refine Wp_region (Ls_y (wtd0 rfl) rfl rfl (y_eq rfl rfl rfl) (Las rfl rfl rfl rfl rfl (Ls_nil (Th_n (hK4 _ _ ?_)))))
  refine Wp_cond rfl (fun hc1 => ?_) (fun hc1 => ?_)
  · have hc1 := eT hc1
    refine Wp_seq fun K5 hK5 => ?_
    refine Wp_region (Las rfl rfl rfl rfl rfl (Ls_nil (Th_n (hK5 _ _ ?_))))
    refine Wp_ret (Ib_r (Th_r (Fq_ret (Res1 rfl rfl) ?_)))
    have he1 : okind_m act = 1 := by unfold okind_m; rewrite [if_pos hc1]; rfl
    rewrite [he1]
    exact ⟨rfl, hF⟩
  have hc1 := eF hc1
  refine Wp_seq fun K6 hK6 => ?_
  refine Wp_region (Ls_y (wtd0 rfl) rfl rfl (y_eq rfl rfl rfl) (Las rfl rfl rfl rfl rfl (Ls_nil (Th_n (hK6 _ _ ?_)))))
  refine Wp_cond rfl (fun hc2 => ?_) (fun hc2 => ?_)
  · have hc2 := eT hc2
    refine Wp_seq fun K7 hK7 => ?_
    refine Wp_region (Las rfl rfl rfl rfl rfl (Ls_nil (Th_n (hK7 _ _ ?_))))
    refine Wp_ret (Ib_r (Th_r (Fq_ret (Res1 rfl rfl) ?_)))
    have he2 : okind_m act = 2 := by unfold okind_m; rewrite [if_neg hc1, if_pos hc2]; rfl
    rewrite [he2]
    exact ⟨rfl, hF⟩
  have hc2 := eF hc2
  refine Wp_seq fun K8 hK8 => ?_
  refine Wp_seq fun K9 hK9 => ?_
  refine Wp_region (Ls_y (wtd0 rfl) rfl rfl (y_eq rfl rfl rfl) (Las rfl rfl rfl rfl rfl (Ls_nil (Th_n (hK9 _ _ ?_)))))
  refine Wp_cond rfl (fun hc3 => ?_) (fun hc3 => ?_)
  · have hc3 := eT hc3
    refine Wp_skip (Th_n (hK8 _ _ ?_))
    refine Wp_cond rfl (fun _ => ?_) (fun hc4 => absurd hc4 (by simp [hc3]))
    refine Wp_seq fun K10 hK10 => ?_
    refine Wp_region (Las rfl rfl rfl rfl rfl (Ls_nil (Th_n (hK10 _ _ ?_))))
    refine Wp_ret (Ib_r (Th_r (Fq_ret (Res1 rfl rfl) ?_)))
    have he3 : okind_m act = 3 := by unfold okind_m; rewrite [if_neg hc1, if_neg hc2, if_pos hc3]; rfl
    rewrite [he3]
    exact ⟨rfl, hF⟩
  have hc3 := eF hc3
  refine Wp_region (Ls_y (wtd0 rfl) rfl rfl (y_eq rfl rfl rfl) (Las rfl rfl rfl rfl rfl (Ls_nil (Th_n (hK8 _ _ ?_)))))
  refine Wp_cond rfl (fun hc5 => ?_) (fun hc5 => ?_)
  · have hc5 := eT hc5
    refine Wp_seq fun K11 hK11 => ?_
    refine Wp_region (Las rfl rfl rfl rfl rfl (Ls_nil (Th_n (hK11 _ _ ?_))))
    refine Wp_ret (Ib_r (Th_r (Fq_ret (Res1 rfl rfl) ?_)))
    have he4 : okind_m act = 3 := by unfold okind_m; rewrite [if_neg hc1, if_neg hc2, if_neg hc3, if_pos hc5]; rfl
    rewrite [he4]
    exact ⟨rfl, hF⟩
  have hc5 := eF hc5
  refine Wp_seq fun K12 hK12 => ?_
  refine Wp_seq fun K13 hK13 => ?_
  refine Wp_region (Ls_y (wtd0 rfl) rfl rfl (y_eq rfl rfl rfl) (Las rfl rfl rfl rfl rfl (Ls_nil (Th_n (hK13 _ _ ?_)))))
  refine Wp_cond rfl (fun hc6 => ?_) (fun hc6 => ?_)
  · have hc6 := eT hc6
    refine Wp_skip (Th_n (hK12 _ _ ?_))
    refine Wp_cond rfl (fun _ => ?_) (fun hc7 => absurd hc7 (by simp [hc6]))
    refine Wp_seq fun K14 hK14 => ?_
    refine Wp_region (Las rfl rfl rfl rfl rfl (Ls_nil (Th_n (hK14 _ _ ?_))))
    refine Wp_ret (Ib_r (Th_r (Fq_ret (Res1 rfl rfl) ?_)))
    have he5 : okind_m act = 4 := by unfold okind_m; rewrite [if_neg hc1, if_neg hc2, if_neg hc3, if_neg hc5, if_pos hc6]; rfl
    rewrite [he5]
    exact ⟨rfl, hF⟩
  have hc6 := eF hc6
  refine Wp_region (Ls_y (wtd0 rfl) rfl rfl (y_eq rfl rfl rfl) (Las rfl rfl rfl rfl rfl (Ls_nil (Th_n (hK12 _ _ ?_)))))
  refine Wp_cond rfl (fun hc8 => ?_) (fun hc8 => ?_)
  · have hc8 := eT hc8
    refine Wp_seq fun K15 hK15 => ?_
    refine Wp_region (Las rfl rfl rfl rfl rfl (Ls_nil (Th_n (hK15 _ _ ?_))))
    refine Wp_ret (Ib_r (Th_r (Fq_ret (Res1 rfl rfl) ?_)))
    have he6 : okind_m act = 4 := by unfold okind_m; rewrite [if_neg hc1, if_neg hc2, if_neg hc3, if_neg hc5, if_neg hc6, if_pos hc8]; rfl
    rewrite [he6]
    exact ⟨rfl, hF⟩
  have hc8 := eF hc8
  refine Wp_skip (Ib_n (Th_n (hK2 _ _ ?_)))
  refine Wp_seq fun K16 hK16 => ?_
  refine Wp_region (Las rfl rfl rfl rfl rfl (Ls_nil (Th_n (hK16 _ _ ?_))))
  refine Wp_ret (Fq_ret (Res1 rfl rfl) ?_)
  have he7 : okind_m act = 0 := by unfold okind_m; rewrite [if_neg hc1, if_neg hc2, if_neg hc3, if_neg hc5, if_neg hc6, if_neg hc8]; rfl
  rewrite [he7]
  exact ⟨rfl, hF⟩

structure AsksM where
  name : Bool
  val : Bool
  atF : Bool
  tags : Bool
instance : Inhabited AsksM := ⟨⟨default, default, default, default⟩⟩
instance : DecidableEq AsksM := fun a b => decidable_of_iff (a.name = b.name ∧ a.val = b.val ∧ a.atF = b.atF ∧ a.tags = b.tags) (by cases a; cases b; simp)
def asksMC (x : AsksM) : List Value := [.bool x.name, .bool x.val, .bool x.atF, .bool x.tags]
theorem asksMC_len (x : AsksM) : (asksMC x).length = 4 := rfl
def oform_m (act : Int) : AsksM :=
  if act = 5 then
    (⟨true, true, true, false⟩ : AsksM)
  else
    if act = 1 then
      (⟨false, true, true, false⟩ : AsksM)
    else
      if act = 2 then
        (⟨false, true, false, false⟩ : AsksM)
      else
        if act = 4 then
          (⟨true, false, false, true⟩ : AsksM)
        else
          if act = 6 then
            (⟨true, false, false, true⟩ : AsksM)
          else
            if act = 3 then
              (⟨true, false, false, false⟩ : AsksM)
            else
              (⟨false, false, false, false⟩ : AsksM)


set_option maxRecDepth 20000 in
theorem oform_ok (w : World) (act : Int) :
    Fn Tryd.prog 21 [.int .i64 act] w fun v w' => v = .agg (asksMC (oform_m act)).toArray ∧ Fr [] w w' := by
  refine Fn_of 22 Ty.en_21 Tryd.func21 rfl rfl rfl ?_
  dsimp only [argEnv]
  have st : St [] w [] [] := St.nil (X := []) (w := w) (by simp [Lo])
  have hF := Fr.refl ([]) w
  refine Wp_seq fun K1 hK1 => ?_
  refine Wp_region (Ls_a (wtd0 rfl) ?_)
  refine a_alloc rfl rfl rfl Ty.zc_68 st.hp (fun g1 w1 (hp : Hp w1 [(_, Cl [_, _, _, _] _)]) hf hg1 => ?_)
  have st : St [] w1 [(_, Cl [_, _, _, _] _)] [] := st.push hp hf hg1
  have hg1 := Nat.le_trans hF.size hg1
  have hF := hF.step0 hf
  refine Ls_nil (Th_n (hK1 _ _ ?_))
  refine Wp_seq fun K2 hK2 => ?_
  refine Wp_region (Ls_a (wtd0 rfl) ?_)
  refine a_alloc rfl rfl rfl Ty.zc_68 st.hp (fun g2 w2 (hp : Hp w2 [(_, Cl [_, _, _, _] _), (_, Cl [_, _, _, _] _)]) hf hg2 => ?_)
  have st : St [] w2 [(_, Cl [_, _, _, _] _), (_, Cl [_, _, _, _] _)] [] := st.push hp hf hg2
  have hg2 := Nat.le_trans hF.size hg2
  have hF := hF.step0 hf
  refine Ls_nil (Th_n (hK2 _ _ ?_))
  refine Wp_seq fun K3 hK3 => ?_
  refine Wp_seq fun K4 hK4 => ?_
  refine Wp_region (Lmv rfl rfl rfl rfl rfl (Ls_nil (Th_n (hK4 _ _ ?_))))
  refine Wp_block (Wp_seq fun K5 hK5 => ?_)
  refine Wp_block (Wp_seq fun K6 hK6 => ?_)
  refine Wp_block (Wp_seq fun K7 hK7 => ?_)
  refine Wp_block (Wp_seq fun K8 hK8 => ?_)
  refine Wp_block (Wp_seq fun K9 hK9 => ?_)
  refine Wp_block (Wp_seq fun K10 hK10 => ?_)
  refine Wp_seq fun K11 hK11 => ?_
  refine Wp_seq fun K12 hK12 => ?_
  refine Wp_region (Ls_y (wtd0 rfl) rfl rfl (y_eq rfl rfl rfl) (Las rfl rfl rfl rfl rfl (Ls_nil (Th_n (hK12 _ _ ?_)))))
  refine Wp_cond rfl (fun hc1 => ?_) (fun hc1 => ?_)
  · have hc1 := eT hc1
    refine Wp_exit (Th_e (Th_e (Ib_hit (Th_n (hK9 _ _ ?_)))))
    refine Wp_region (Ls_y (wtd0 rfl) rfl rfl (y_fld rfl rfl Ty.fo_68_0) (Ls_a (wtd0 rfl) ?_))
    refine a_store (i := 1) rfl rfl rfl rfl rfl Ty.sz_4 rfl st.hp rfl (by simp) (fun w3 (hp : Hp w3 [(_, Cl [_, _, _, _] _), (_, Cl [_, _, _, _] _)]) hf _ => ?_)
    have st : St [] w3 [(_, Cl [_, _, _, _] _), (_, Cl [_, _, _, _] _)] [] := st.set (i := 1) rfl hp hf
    have hF := hF.step hf (by intro y hy; simp only [List.mem_cons, List.not_mem_nil, or_false] at hy; subst hy; first | (exact Or.inr (by omega)) | (exact Or.inl (kin0 _ _)) | (exact Or.inl (by simp)))
    refine Ls_nil (Ib_n (Th_n (hK8 _ _ ?_)))
    refine Wp_region (Ls_y (wtd0 rfl) rfl rfl (y_fld rfl rfl Ty.fo_68_2) (Ls_a (wtd0 rfl) ?_))
    refine a_store (i := 1) rfl rfl rfl rfl rfl Ty.sz_4 rfl st.hp rfl (by simp) (fun w4 (hp : Hp w4 [(_, Cl [_, _, _, _] _), (_, Cl [_, _, _, _] _)]) hf _ => ?_)
    have st : St [] w4 [(_, Cl [_, _, _, _] _), (_, Cl [_, _, _, _] _)] [] := st.set (i := 1) rfl hp hf
    have hF := hF.step hf (by intro y hy; simp only [List.mem_cons, List.not_mem_nil, or_false] at hy; subst hy; first | (exact Or.inr (by omega)) | (exact Or.inl (kin0 _ _)) | (exact Or.inl (by simp)))
    refine Ls_nil (Ib_n (Th_n (hK7 _ _ ?_)))
    refine Wp_seq fun K13 hK13 => ?_
    refine Wp_region (Ls_y (wtd0 rfl) rfl rfl (y_fld rfl rfl Ty.fo_68_1) (Ls_a (wtd0 rfl) ?_))
    refine a_store (i := 1) rfl rfl rfl rfl rfl Ty.sz_4 rfl st.hp rfl (by simp) (fun w5 (hp : Hp w5 [(_, Cl [_, _, _, _] _), (_, Cl [_, _, _, _] _)]) hf _ => ?_)
    have st : St [] w5 [(_, Cl [_, _, _, _] _), (_, Cl [_, _, _, _] _)] [] := st.set (i := 1) rfl hp hf
    have hF := hF.step hf (by intro y hy; simp only [List.mem_cons, List.not_mem_nil, or_false] at hy; subst hy; first | (exact Or.inr (by omega)) | (exact Or.inl (kin0 _ _)) | (exact Or.inl (by simp)))
    refine Ls_nil (Th_n (hK13 _ _ ?_))
    refine Wp_exit (Ib_miss rfl (Th_e (Ib_miss rfl (Th_e (Ib_hit (Th_n (hK3 _ _ ?_)))))))
    refine Wp_seq fun K14 hK14 => ?_
    refine Wp_region (Ls_y (wtd0 rfl) rfl rfl (y_loadw (i := 1) rfl rfl Ty.ag_68 (fun _ e => e ▸ st.hp) rfl rfl) ?_)
    refine Ls_a (wtd0 rfl) ?_
    refine a_storew (i := 0) rfl rfl rfl rfl Ty.sz_68 rfl (by first | assumption | (simp [Value.oneCell']; done)) st.hp rfl rfl (fun w6 (hp : Hp w6 [(_, Cl [_, _, _, _] _), (_, Cl [_, _, _, _] _)]) hf _ => ?_)
    have st : St [] w6 [(_, Cl [_, _, _, _] _), (_, Cl [_, _, _, _] _)] [] := st.set (i := 0) rfl hp hf
    have hF := hF.step hf (by intro y hy; simp only [List.mem_cons, List.not_mem_nil, or_false] at hy; subst hy; first | (exact Or.inr (by omega)) | (exact Or.inl (kin0 _ _)) | (exact Or.inl (by simp)))
    refine Ls_nil (Th_n (hK14 _ _ ?_))
    refine Wp_ret (Fq_ret (ResN1 rfl (rvc (i := 0) rfl Ty.ag_68 st.hp rfl rfl)) ?_)
    have he1 : oform_m act = (⟨true, true, true, false⟩ : AsksM) := by unfold oform_m; rewrite [if_pos hc1]; rfl
    rewrite [he1]
    exact ⟨rfl, hF⟩
  have hc1 := eF hc1
  refine Wp_skip (Th_n (hK11 _ _ ?_))
  refine Wp_seq fun K15 hK15 => ?_
  refine Wp_seq fun K16 hK16 => ?_
  refine Wp_region (Ls_y (wtd0 rfl) rfl rfl (y_eq rfl rfl rfl) (Las rfl rfl rfl rfl rfl (Ls_nil (Th_n (hK16 _ _ ?_)))))
  refine Wp_cond rfl (fun hc2 => ?_) (fun hc2 => ?_)
  · have hc2 := eT hc2
    refine Wp_exit (Th_e (Th_e (Ib_miss rfl (Th_e (Ib_hit (Th_n (hK8 _ _ ?_)))))))
    refine Wp_region (Ls_y (wtd0 rfl) rfl rfl (y_fld rfl rfl Ty.fo_68_2) (Ls_a (wtd0 rfl) ?_))
    refine a_store (i := 1) rfl rfl rfl rfl rfl Ty.sz_4 rfl st.hp rfl (by simp) (fun w7 (hp : Hp w7 [(_, Cl [_, _, _, _] _), (_, Cl [_, _, _, _] _)]) hf _ => ?_)
    have st : St [] w7 [(_, Cl [_, _, _, _] _), (_, Cl [_, _, _, _] _)] [] := st.set (i := 1) rfl hp hf
    have hF := hF.step hf (by intro y hy; simp only [List.mem_cons, List.not_mem_nil, or_false] at hy; subst hy; first | (exact Or.inr (by omega)) | (exact Or.inl (kin0 _ _)) | (exact Or.inl (by simp)))
    refine Ls_nil (Ib_n (Th_n (hK7 _ _ ?_)))
    refine Wp_seq fun K17 hK17 => ?_
    refine Wp_region (Ls_y (wtd0 rfl) rfl rfl (y_fld rfl rfl Ty.fo_68_1) (Ls_a (wtd0 rfl) ?_))
    refine a_store (i := 1) rfl rfl rfl rfl rfl Ty.sz_4 rfl st.hp rfl (by simp) (fun w8 (hp : Hp w8 [(_, Cl [_, _, _, _] _), (_, Cl [_, _, _, _] _)]) hf _ => ?_)
    have st : St [] w8 [(_, Cl [_, _, _, _] _), (_, Cl [_, _, _, _] _)] [] := st.set (i := 1) rfl hp hf
    have hF := hF.step hf (by intro y hy; simp only [List.mem_cons, List.not_mem_nil, or_false] at hy; subst hy; first | (exact Or.inr (by omega)) | (exact Or.inl (kin0 _ _)) | (exact Or.inl (by simp)))
    refine Ls_nil (Th_n (hK17 _ _ ?_))
    refine Wp_exit (Ib_miss rfl (Th_e (Ib_miss rfl (Th_e (Ib_hit (Th_n (hK3 _ _ ?_)))))))
    refine Wp_seq fun K18 hK18 => ?_
    refine Wp_region (Ls_y (wtd0 rfl) rfl rfl (y_loadw (i := 1) rfl rfl Ty.ag_68 (fun _ e => e ▸ st.hp) rfl rfl) ?_)
    refine Ls_a (wtd0 rfl) ?_
    refine a_storew (i := 0) rfl rfl rfl rfl Ty.sz_68 rfl (by first | assumption | (simp [Value.oneCell']; done)) st.hp rfl rfl (fun w9 (hp : Hp w9 [(_, Cl [_, _, _, _] _), (_, Cl [_, _, _, _] _)]) hf _ => ?_)
    have st : St [] w9 [(_, Cl [_, _, _, _] _), (_, Cl [_, _, _, _] _)] [] := st.set (i := 0) rfl hp hf
    have hF := hF.step hf (by intro y hy; simp only [List.mem_cons, List.not_mem_nil, or_false] at hy; subst hy; first | (exact Or.inr (by omega)) | (exact Or.inl (kin0 _ _)) | (exact Or.inl (by simp)))
    refine Ls_nil (Th_n (hK18 _ _ ?_))
    refine Wp_ret (Fq_ret (ResN1 rfl (rvc (i := 0) rfl Ty.ag_68 st.hp rfl rfl)) ?_)
    have he2 : oform_m act = (⟨false, true, true, false⟩ : AsksM) := by unfold oform_m; rewrite [if_neg hc1, if_pos hc2]; rfl
    rewrite [he2]
    exact ⟨rfl, hF⟩
  have hc2 := eF hc2
  refine Wp_skip (Th_n (hK15 _ _ ?_))
  refine Wp_seq fun K19 hK19 => ?_
  refine Wp_seq fun K20 hK20 => ?_
  refine Wp_region (Ls_y (wtd0 rfl) rfl rfl (y_eq rfl rfl rfl) (Las rfl rfl rfl rfl rfl (Ls_nil (Th_n (hK20 _ _ ?_)))))
  refine Wp_cond rfl (fun hc3 => ?_) (fun hc3 => ?_)
  · have hc3 := eT hc3
    refine Wp_exit (Th_e (Th_e (Ib_miss rfl (Th_e (Ib_miss rfl (Th_e (Ib_hit (Th_n (hK7 _ _ ?_)))))))))
    refine Wp_seq fun K21 hK21 => ?_
    refine Wp_region (Ls_y (wtd0 rfl) rfl rfl (y_fld rfl rfl Ty.fo_68_1) (Ls_a (wtd0 rfl) ?_))
    refine a_store (i := 1) rfl rfl rfl rfl rfl Ty.sz_4 rfl st.hp rfl (by simp) (fun w10 (hp : Hp w10 [(_, Cl [_, _, _, _] _), (_, Cl [_, _, _, _] _)]) hf _ => ?_)
    have st : St [] w10 [(_, Cl [_, _, _, _] _), (_, Cl [_, _, _, _] _)] [] := st.set (i := 1) rfl hp hf
    have hF := hF.step hf (by intro y hy; simp only [List.mem_cons, List.not_mem_nil, or_false] at hy; subst hy; first | (exact Or.inr (by omega)) | (exact Or.inl (kin0 _ _)) | (exact Or.inl (by simp)))
    refine Ls_nil (Th_n (hK21 _ _ ?_))
    refine Wp_exit (Ib_miss rfl (Th_e (Ib_miss rfl (Th_e (Ib_hit (Th_n (hK3 _ _ ?_)))))))
    refine Wp_seq fun K22 hK22 => ?_
    refine Wp_region (Ls_y (wtd0 rfl) rfl rfl (y_loadw (i := 1) rfl rfl Ty.ag_68 (fun _ e => e ▸ st.hp) rfl rfl) ?_)
    refine Ls_a (wtd0 rfl) ?_
    refine a_storew (i := 0) rfl rfl rfl rfl Ty.sz_68 rfl (by first | assumption | (simp [Value.oneCell']; done)) st.hp rfl rfl (fun w11 (hp : Hp w11 [(_, Cl [_, _, _, _] _), (_, Cl [_, _, _, _] _)]) hf _ => ?_)
    have st : St [] w11 [(_, Cl [_, _, _, _] _), (_, Cl [_, _, _, _] _)] [] := st.set (i := 0) rfl hp hf
    have hF := hF.step hf (by intro y hy; simp only [List.mem_cons, List.not_mem_nil, or_false] at hy; subst hy; first | (exact Or.inr (by omega)) | (exact Or.inl (kin0 _ _)) | (exact Or.inl (by simp)))
    refine Ls_nil (Th_n (hK22 _ _ ?_))
    refine Wp_ret (Fq_ret (ResN1 rfl (rvc (i := 0) rfl Ty.ag_68 st.hp rfl rfl)) ?_)
    have he3 : oform_m act = (⟨false, true, false, false⟩ : AsksM) := by unfold oform_m; rewrite [if_neg hc1, if_neg hc2, if_pos hc3]; rfl
    rewrite [he3]
    exact ⟨rfl, hF⟩
  have hc3 := eF hc3
  refine Wp_skip (Th_n (hK19 _ _ ?_))
  refine Wp_seq fun K23 hK23 => ?_
  refine Wp_seq fun K24 hK24 => ?_
  refine Wp_seq fun K25 hK25 => ?_
  refine Wp_region (Ls_y (wtd0 rfl) rfl rfl (y_eq rfl rfl rfl) (Las rfl rfl rfl rfl rfl (Ls_nil (Th_n (hK25 _ _ ?_)))))
  refine Wp_cond rfl (fun hc4 => ?_) (fun hc4 => ?_)
  · have hc4 := eT hc4
    refine Wp_skip (Th_n (hK24 _ _ ?_))
    refine Wp_cond rfl (fun _ => ?_) (fun hc5 => absurd hc5 (by simp [hc4]))
    refine Wp_exit (Th_e (Th_e (Ib_miss rfl (Th_e (Ib_miss rfl (Th_e (Ib_miss rfl (Th_e (Ib_hit (Th_n (hK6 _ _ ?_)))))))))))
    refine Wp_region (Ls_y (wtd0 rfl) rfl rfl (y_fld rfl rfl Ty.fo_68_3) (Ls_a (wtd0 rfl) ?_))
    refine a_store (i := 1) rfl rfl rfl rfl rfl Ty.sz_4 rfl st.hp rfl (by simp) (fun w12 (hp : Hp w12 [(_, Cl [_, _, _, _] _), (_, Cl [_, _, _, _] _)]) hf _ => ?_)
    have st : St [] w12 [(_, Cl [_, _, _, _] _), (_, Cl [_, _, _, _] _)] [] := st.set (i := 1) rfl hp hf
    have hF := hF.step hf (by intro y hy; simp only [List.mem_cons, List.not_mem_nil, or_false] at hy; subst hy; first | (exact Or.inr (by omega)) | (exact Or.inl (kin0 _ _)) | (exact Or.inl (by simp)))
    refine Ls_nil (Ib_n (Th_n (hK5 _ _ ?_)))
    refine Wp_seq fun K26 hK26 => ?_
    refine Wp_region (Ls_y (wtd0 rfl) rfl rfl (y_fld rfl rfl Ty.fo_68_0) (Ls_a (wtd0 rfl) ?_))
    refine a_store (i := 1) rfl rfl rfl rfl rfl Ty.sz_4 rfl st.hp rfl (by simp) (fun w13 (hp : Hp w13 [(_, Cl [_, _, _, _] _), (_, Cl [_, _, _, _] _)]) hf _ => ?_)
    have st : St [] w13 [(_, Cl [_, _, _, _] _), (_, Cl [_, _, _, _] _)] [] := st.set (i := 1) rfl hp hf
    have hF := hF.step hf (by intro y hy; simp only [List.mem_cons, List.not_mem_nil, or_false] at hy; subst hy; first | (exact Or.inr (by omega)) | (exact Or.inl (kin0 _ _)) | (exact Or.inl (by simp)))
    refine Ls_nil (Th_n (hK26 _ _ ?_))
    refine Wp_exit (Ib_hit (Th_n (hK3 _ _ ?_)))
    refine Wp_seq fun K27 hK27 => ?_
    refine Wp_region (Ls_y (wtd0 rfl) rfl rfl (y_loadw (i := 1) rfl rfl Ty.ag_68 (fun _ e => e ▸ st.hp) rfl rfl) ?_)
    refine Ls_a (wtd0 rfl) ?_
    refine a_storew (i := 0) rfl rfl rfl rfl Ty.sz_68 rfl (by first | assumption | (simp [Value.oneCell']; done)) st.hp rfl rfl (fun w14 (hp : Hp w14 [(_, Cl [_, _, _, _] _), (_, Cl [_, _, _, _] _)]) hf _ => ?_)
    have st : St [] w14 [(_, Cl [_, _, _, _] _), (_, Cl [_, _, _, _] _)] [] := st.set (i := 0) rfl hp hf
    have hF := hF.step hf (by intro y hy; simp only [List.mem_cons, List.not_mem_nil, or_false] at hy; subst hy; first | (exact Or.inr (by omega)) | (exact Or.inl (kin0 _ _)) | (exact Or.inl (by simp)))
    refine Ls_nil (Th_n (hK27 _ _ ?_))
    refine Wp_ret (Fq_ret (ResN1 rfl (rvc (i := 0) rfl Ty.ag_68 st.hp rfl rfl)) ?_)
    have he4 : oform_m act = (⟨true, false, false, true⟩ : AsksM) := by unfold oform_m; rewrite [if_neg hc1, if_neg hc2, if_neg hc3, if_pos hc4]; rfl
    rewrite [he4]
    exact ⟨rfl, hF⟩
  have hc4 := eF hc4
  refine Wp_region (Ls_y (wtd0 rfl) rfl rfl (y_eq rfl rfl rfl) (Las rfl rfl rfl rfl rfl (Ls_nil (Th_n (hK24 _ _ ?_)))))
  refine Wp_cond rfl (fun hc6 => ?_) (fun hc6 => ?_)
  · have hc6 := eT hc6
    refine Wp_exit (Th_e (Th_e (Ib_miss rfl (Th_e (Ib_miss rfl (Th_e (Ib_miss rfl (Th_e (Ib_hit (Th_n (hK6 _ _ ?_)))))))))))
    refine Wp_region (Ls_y (wtd0 rfl) rfl rfl (y_fld rfl rfl Ty.fo_68_3) (Ls_a (wtd0 rfl) ?_))
    refine a_store (i := 1) rfl rfl rfl rfl rfl Ty.sz_4 rfl st.hp rfl (by simp) (fun w15 (hp : Hp w15 [(_, Cl [_, _, _, _] _), (_, Cl [_, _, _, _] _)]) hf _ => ?_)
    have st : St [] w15 [(_, Cl [_, _, _, _] _), (_, Cl [_, _, _, _] _)] [] := st.set (i := 1) rfl hp hf
    have hF := hF.step hf (by intro y hy; simp only [List.mem_cons, List.not_mem_nil, or_false] at hy; subst hy; first | (exact Or.inr (by omega)) | (exact Or.inl (kin0 _ _)) | (exact Or.inl (by simp)))
    refine Ls_nil (Ib_n (Th_n (hK5 _ _ ?_)))
    refine Wp_seq fun K28 hK28 => ?_
    refine Wp_region (Ls_y (wtd0 rfl) rfl rfl (y_fld rfl rfl Ty.fo_68_0) (Ls_a (wtd0 rfl) ?_))
    refine a_store (i := 1) rfl rfl rfl rfl rfl Ty.sz_4 rfl st.hp rfl (by simp) (fun w16 (hp : Hp w16 [(_, Cl [_, _, _, _] _), (_, Cl [_, _, _, _] _)]) hf _ => ?_)
    have st : St [] w16 [(_, Cl [_, _, _, _] _), (_, Cl [_, _, _, _] _)] [] := st.set (i := 1) rfl hp hf
    have hF := hF.step hf (by intro y hy; simp only [List.mem_cons, List.not_mem_nil, or_false] at hy; subst hy; first | (exact Or.inr (by omega)) | (exact Or.inl (kin0 _ _)) | (exact Or.inl (by simp)))
    refine Ls_nil (Th_n (hK28 _ _ ?_))
    refine Wp_exit (Ib_hit (Th_n (hK3 _ _ ?_)))
    refine Wp_seq fun K29 hK29 => ?_
    refine Wp_region (Ls_y (wtd0 rfl) rfl rfl (y_loadw (i := 1) rfl rfl Ty.ag_68 (fun _ e => e ▸ st.hp) rfl rfl) ?_)
    refine Ls_a (wtd0 rfl) ?_
    refine a_storew (i := 0) rfl rfl rfl rfl Ty.sz_68 rfl (by first | assumption | (simp [Value.oneCell']; done)) st.hp rfl rfl (fun w17 (hp : Hp w17 [(_, Cl [_, _, _, _] _), (_, Cl [_, _, _, _] _)]) hf _ => ?_)
    have st : St [] w17 [(_, Cl [_, _, _, _] _), (_, Cl [_, _, _, _] _)] [] := st.set (i := 0) rfl hp hf
    have hF := hF.step hf (by intro y hy; simp only [List.mem_cons, List.not_mem_nil, or_false] at hy; subst hy; first | (exact Or.inr (by omega)) | (exact Or.inl (kin0 _ _)) | (exact Or.inl (by simp)))
    refine Ls_nil (Th_n (hK29 _ _ ?_))
    refine Wp_ret (Fq_ret (ResN1 rfl (rvc (i := 0) rfl Ty.ag_68 st.hp rfl rfl)) ?_)
    have he5 : oform_m act = (⟨true, false, false, true⟩ : AsksM) := by unfold oform_m; rewrite [if_neg hc1, if_neg hc2, if_neg hc3, if_neg hc4, if_pos hc6]; rfl
    rewrite [he5]
    exact ⟨rfl, hF⟩
  have hc6 := eF hc6
  refine Wp_skip (Th_n (hK23 _ _ ?_))
  refine Wp_seq fun K30 hK30 => ?_
  refine Wp_region (Ls_y (wtd0 rfl) rfl rfl (y_eq rfl rfl rfl) (Las rfl rfl rfl rfl rfl (Ls_nil (Th_n (hK30 _ _ ?_)))))
  refine Wp_cond rfl (fun hc7 => ?_) (fun hc7 => ?_)
  · have hc7 := eT hc7
    refine Wp_exit (Th_e (Ib_miss rfl (Th_e (Ib_miss rfl (Th_e (Ib_miss rfl (Th_e (Ib_miss rfl (Th_e (Ib_hit (Th_n (hK5 _ _ ?_))))))))))))
    refine Wp_seq fun K31 hK31 => ?_
    refine Wp_region (Ls_y (wtd0 rfl) rfl rfl (y_fld rfl rfl Ty.fo_68_0) (Ls_a (wtd0 rfl) ?_))
    refine a_store (i := 1) rfl rfl rfl rfl rfl Ty.sz_4 rfl st.hp rfl (by simp) (fun w18 (hp : Hp w18 [(_, Cl [_, _, _, _] _), (_, Cl [_, _, _, _] _)]) hf _ => ?_)
    have st : St [] w18 [(_, Cl [_, _, _, _] _), (_, Cl [_, _, _, _] _)] [] := st.set (i := 1) rfl hp hf
    have hF := hF.step hf (by intro y hy; simp only [List.mem_cons, List.not_mem_nil, or_false] at hy; subst hy; first | (exact Or.inr (by omega)) | (exact Or.inl (kin0 _ _)) | (exact Or.inl (by simp)))
    refine Ls_nil (Th_n (hK31 _ _ ?_))
    refine Wp_exit (Ib_hit (Th_n (hK3 _ _ ?_)))
    refine Wp_seq fun K32 hK32 => ?_
    refine Wp_region (Ls_y (wtd0 rfl) rfl rfl (y_loadw (i := 1) rfl rfl Ty.ag_68 (fun _ e => e ▸ st.hp) rfl rfl) ?_)
    refine Ls_a (wtd0 rfl) ?_
    refine a_storew (i := 0) rfl rfl rfl rfl Ty.sz_68 rfl (by first | assumption | (simp [Value.oneCell']; done)) st.hp rfl rfl (fun w19 (hp : Hp w19 [(_, Cl [_, _, _, _] _), (_, Cl [_, _, _, _] _)]) hf _ => ?_)
    have st : St [] w19 [(_, Cl [_, _, _, _] _), (_, Cl [_, _, _, _] _)] [] := st.set (i := 0) rfl hp hf
    have hF := hF.step hf (by intro y hy; simp only [List.mem_cons, List.not_mem_nil, or_false] at hy; subst hy; first | (exact Or.inr (by omega)) | (exact Or.inl (kin0 _ _)) | (exact Or.inl (by simp)))
    refine Ls_nil (Th_n (hK32 _ _ ?_))
    refine Wp_ret (Fq_ret (ResN1 rfl (rvc (i := 0) rfl Ty.ag_68 st.hp rfl rfl)) ?_)
    have he6 : oform_m act = (⟨true, false, false, false⟩ : AsksM) := by unfold oform_m; rewrite [if_neg hc1, if_neg hc2, if_neg hc3, if_neg hc4, if_neg hc6, if_pos hc7]; rfl
    rewrite [he6]
    exact ⟨rfl, hF⟩
  have hc7 := eF hc7
  refine Wp_skip (Th_n (hK10 _ _ ?_))
  refine Wp_exit (Ib_miss rfl (Th_e (Ib_miss rfl (Th_e (Ib_miss rfl (Th_e (Ib_miss rfl (Th_e (Ib_miss rfl (Th_e (Ib_hit (Th_n (hK3 _ _ ?_)))))))))))))
  refine Wp_seq fun K33 hK33 => ?_
  refine Wp_region (Ls_y (wtd0 rfl) rfl rfl (y_loadw (i := 1) rfl rfl Ty.ag_68 (fun _ e => e ▸ st.hp) rfl rfl) ?_)
  refine Ls_a (wtd0 rfl) ?_
  refine a_storew (i := 0) rfl rfl rfl rfl Ty.sz_68 rfl (by first | assumption | (simp [Value.oneCell']; done)) st.hp rfl rfl (fun w20 (hp : Hp w20 [(_, Cl [_, _, _, _] _), (_, Cl [_, _, _, _] _)]) hf _ => ?_)
  have st : St [] w20 [(_, Cl [_, _, _, _] _), (_, Cl [_, _, _, _] _)] [] := st.set (i := 0) rfl hp hf
  have hF := hF.step hf (by intro y hy; simp only [List.mem_cons, List.not_mem_nil, or_false] at hy; subst hy; first | (exact Or.inr (by omega)) | (exact Or.inl (kin0 _ _)) | (exact Or.inl (by simp)))
  refine Ls_nil (Th_n (hK33 _ _ ?_))
  refine Wp_ret (Fq_ret (ResN1 rfl (rvc (i := 0) rfl Ty.ag_68 st.hp rfl rfl)) ?_)
  have he7 : oform_m act = (⟨false, false, false, false⟩ : AsksM) := by unfold oform_m; rewrite [if_neg hc1, if_neg hc2, if_neg hc3, if_neg hc4, if_neg hc6, if_neg hc7]; rfl
  rewrite [he7]
  exact ⟨rfl, hF⟩

def otimed_m (s : StampM) : Bool :=
  if (lcheck_m s) = 0 then
    decide (0 < s.time)
  else
    false


set_option maxRecDepth 20000 in
theorem otimed_ok (w : World) (s : StampM) :
    Fn Tryd.prog 26 [.agg (stampMC s).toArray] w fun v w' => v = .bool (otimed_m s) ∧ Fr [] w w' := by
  refine Fn_of 11 Ty.en_26 Tryd.func26 rfl rfl rfl ?_
  dsimp only [argEnv]
  have st : St [] w [] [] := St.nil (X := []) (w := w) (by simp [Lo])
  have hF := Fr.refl ([]) w
  refine Wp_seq fun K1 hK1 => ?_
  refine Wp_region (Ls_a (wtd0 rfl) ?_)
  refine a_box rfl rfl rfl rfl st.hp (fun g1 w1 (hp : Hp w1 [(_, Cl [_, _] _)]) hf hg1 => ?_)
  have st : St [] w1 [(_, Cl [_, _] _)] [] := st.push hp hf hg1
  have hg1 := Nat.le_trans hF.size hg1
  have hF := hF.step0 hf
  refine Las rfl rfl rfl rfl rfl (Ls_nil (Th_n (hK1 _ _ ?_)))
  refine Wp_seq fun K2 hK2 => ?_
  refine Wp_region (Ls_y (wtd0 rfl) rfl rfl (y_loadw (i := 0) rfl rfl Ty.ag_30 (fun _ e => e ▸ st.hp) rfl rfl) ?_)
  refine Ls_a (wtd0 rfl) ?_
  refine a_call rfl rfl rfl rfl (lcheck_ok _ s) (fun v w2 ⟨hv, hf⟩ => ?_)
  subst hv
  have st := st.keep0 hf
  have hF := hF.step0 hf
  have st : St [] w2 [(_, Cl [_, _] _)] [] := st
  refine Ls_y (wtd0 rfl) rfl rfl (y_eq rfl rfl rfl) (Lmv rfl rfl rfl rfl rfl (Ls_bool 6 rfl (fun hc1 => ?_) (fun hc1 => ?_)))
  · have hc1 := eT hc1
    refine Ls_y (wtdT rfl rfl rfl) rfl rfl (y_fld rfl rfl Ty.fo_30_0) (Ls_y (wtdT rfl rfl rfl) rfl rfl (y_load (i := 0) rfl rfl Ty.pl_24 (fun _ e => e ▸ st.hp) rfl rfl) ?_)
    refine Ls_y (wtdT rfl rfl rfl) rfl rfl (y_gt rfl rfl rfl) (Ls_y (wtd0 rfl) rfl rfl (y_pick_t rfl rfl rfl) (Las rfl rfl rfl rfl rfl (Ls_nil (Th_n (hK2 _ _ ?_)))))
    refine Wp_ret (Fq_ret (Res1 rfl rfl) ?_)
    have he1 : otimed_m s = (decide (0 < s.time)) := by unfold otimed_m; rewrite [if_pos hc1]; rfl
    rewrite [he1]
    exact ⟨rfl, hF⟩
  have hc1 := eF hc1
  refine Ls_s (wtdF rfl rfl rfl) rfl rfl (Ls_s (wtdF rfl rfl rfl) rfl rfl (Ls_s (wtdF rfl rfl rfl) rfl rfl (Ls_y (wtd0 rfl) rfl rfl (y_pick_f rfl rfl rfl) (Las rfl rfl rfl rfl rfl (Ls_nil (Th_n (hK2 _ _ ?_)))))))
  refine Wp_ret (Fq_ret (Res1 rfl rfl) ?_)
  have he2 : otimed_m s = false := by unfold otimed_m; rewrite [if_neg hc1]; rfl
  rewrite [he2]
  exact ⟨rfl, hF⟩

def bnotTag_m (t : TagM) : Bool :=
  (icheckTag_m t) != 0


set_option maxRecDepth 20000 in
theorem bnotTag_ok (w : World) (t : TagM) :
    Fn Tryd.prog 24 [.agg (tagMC t).toArray] w fun v w' => v = .bool (bnotTag_m t) ∧ Fr [] w w' := by
  refine Fn_of 6 Ty.en_24 Tryd.func24 rfl rfl rfl ?_
  dsimp only [argEnv]
  have st : St [] w [] [] := St.nil (X := []) (w := w) (by simp [Lo])
  have hF := Fr.refl ([]) w
  refine Wp_seq fun K1 hK1 => ?_
  refine Wp_region (Ls_a (wtd0 rfl) ?_)
  refine a_box rfl rfl rfl rfl st.hp (fun g1 w1 (hp : Hp w1 [(_, Cl [_, _, _] _)]) hf hg1 => ?_)
  have st : St [] w1 [(_, Cl [_, _, _] _)] [] := st.push hp hf hg1
  have hg1 := Nat.le_trans hF.size hg1
  have hF := hF.step0 hf
  refine Las rfl rfl rfl rfl rfl (Ls_nil (Th_n (hK1 _ _ ?_)))
  refine Wp_seq fun K2 hK2 => ?_
  refine Wp_region (Ls_y (wtd0 rfl) rfl rfl (y_loadw (i := 0) rfl rfl Ty.ag_28 (fun _ e => e ▸ st.hp) rfl rfl) ?_)
  refine Ls_a (wtd0 rfl) ?_
  refine a_call rfl rfl rfl rfl (icheckTag_ok _ t) (fun v w2 ⟨hv, hf⟩ => ?_)
  subst hv
  have st := st.keep0 hf
  have hF := hF.step0 hf
  have st : St [] w2 [(_, Cl [_, _, _] _)] [] := st
  refine Ls_y (wtd0 rfl) rfl rfl (y_ne rfl rfl rfl) (Las rfl rfl rfl rfl rfl (Ls_nil (Th_n (hK2 _ _ ?_))))
  refine Wp_ret (Fq_ret (Res1 rfl rfl) ?_)
  have he1 : bnotTag_m t = ((icheckTag_m t) != 0) := by unfold bnotTag_m; rfl
  rewrite [he1]
  exact ⟨rfl, hF⟩

def ocheckOp_c1 (o : OpM) : Bool :=
  (if ((oform_m o.act).name) = true then !(oelem_m o.name) else false)

def ocheckOp_c2 (o : OpM) : Bool :=
  (if ((oform_m o.act).name) = true then false else o.name != [])

def ocheckOp_c3 (o : OpM) : Bool :=
  (if ((oform_m o.act).val) = true then false else o.val != 0)

def ocheckOp_c4 (o : OpM) : Bool :=
  (if o.act = 2 then (if o.val < (-1073741824) then true else decide (1073741824 < o.val)) else false)
def ocheckOp_m (o : OpM) : Int :=
  if (okind_m o.act) = 0 then
    5
  else
    if (ocheckOp_c1 o) = true then
      3
    else
      if (ocheckOp_c2 o) = true then
        3
      else
        if (ocheckOp_c3 o) = true then
          3
        else
          if (ocheckOp_c4 o) = true then
            2
          else
            0

theorem ocheckOp_c1_iff (o : OpM) : (ocheckOp_c1 o = true) ↔ ((((oform_m o.act).name) = true) ∧ (¬ ((oelem_m o.name) = true))) := by
  unfold ocheckOp_c1; exact (ci2 (by simp))

theorem ocheckOp_c2_iff (o : OpM) : (ocheckOp_c2 o = true) ↔ (¬ (((oform_m o.act).name) = true) ∧ (¬ (o.name = []))) := by
  unfold ocheckOp_c2; exact (ci3 (by simp))

theorem ocheckOp_c3_iff (o : OpM) : (ocheckOp_c3 o = true) ↔ (¬ (((oform_m o.act).val) = true) ∧ (¬ (o.val = 0))) := by
  unfold ocheckOp_c3; exact (ci3 (by simp))

theorem ocheckOp_c4_iff (o : OpM) : (ocheckOp_c4 o = true) ↔ ((o.act = 2) ∧ ((o.val < (-1073741824)) ∨ (1073741824 < o.val))) := by
  unfold ocheckOp_c4; exact (ci2 (ci1 decide_eq_true_iff))

set_option maxRecDepth 20000 in
theorem ocheckOp_ok (w : World) (o : OpM) :
    Fn Tryd.prog 9 [.agg (opMC o).toArray] w fun v w' => v = .int .i64 (ocheckOp_m o) ∧ Fr [] w w' := by
  refine Fn_of 50 Ty.en_9 Tryd.func9 rfl rfl rfl ?_
  dsimp only [argEnv]
  have st : St [] w [] [] := St.nil (X := []) (w := w) (by simp [Lo])
  have hF := Fr.refl ([]) w
  refine Wp_seq fun K1 hK1 => ?_
  refine Wp_region (Ls_a (wtd0 rfl) ?_)
  refine a_box rfl rfl rfl rfl st.hp (fun g1 w1 (hp : Hp w1 [(_, Cl [_, _, _] _)]) hf hg1 => ?_)
  have st : St [] w1 [(_, Cl [_, _, _] _)] [] := st.push hp hf hg1
  have hg1 := Nat.le_trans hF.size hg1
  have hF := hF.step0 hf
  refine Las rfl rfl rfl rfl rfl (Ls_nil (Th_n (hK1 _ _ ?_)))
  refine Wp_seq fun K2 hK2 => ?_
  refine Wp_seq fun K3 hK3 => ?_
  refine Wp_region (Ls_y (wtd0 rfl) rfl rfl (y_fld rfl rfl Ty.fo_52_0) (Ls_y (wtd0 rfl) rfl rfl (y_load (i := 0) rfl rfl Ty.pl_3 (fun _ e => e ▸ st.hp) rfl rfl) ?_))
  refine Ls_a (wtd0 rfl) ?_
  refine a_call rfl rfl rfl rfl (okind_ok _ o.act) (fun v w2 ⟨hv, hf⟩ => ?_)
  subst hv
  have st := st.keep0 hf
  have hF := hF.step0 hf
  have st : St [] w2 [(_, Cl [_, _, _] _)] [] := st
  refine Ls_y (wtd0 rfl) rfl rfl (y_eq rfl rfl rfl) (Ls_nil (Th_n (hK3 _ _ ?_)))
  refine Wp_cond rfl (fun hc1 => ?_) (fun hc1 => ?_)
  · have hc1 := eT hc1
    refine Wp_seq fun K4 hK4 => ?_
    refine Wp_region (Las rfl rfl rfl rfl rfl (Ls_nil (Th_n (hK4 _ _ ?_))))
    refine Wp_ret (Th_r (Fq_ret (Res1 rfl rfl) ?_))
    have he1 : ocheckOp_m o = 5 := by unfold ocheckOp_m; rewrite [if_pos hc1]; rfl
    rewrite [he1]
    exact ⟨rfl, hF⟩
  have hc1 := eF hc1
  refine Wp_skip (Th_n (hK2 _ _ ?_))
  refine Wp_seq fun K5 hK5 => ?_
  refine Wp_region (Ls_y (wtd0 rfl) rfl rfl (y_fld rfl rfl Ty.fo_52_0) (Ls_y (wtd0 rfl) rfl rfl (y_load (i := 0) rfl rfl Ty.pl_3 (fun _ e => e ▸ st.hp) rfl rfl) ?_))
  refine Ls_a (wtd0 rfl) ?_
  refine a_call rfl rfl rfl rfl (oform_ok _ o.act) (fun v w3 ⟨hv, hf⟩ => ?_)
  subst hv
  have st := st.keep0 hf
  have hF := hF.step0 hf
  have st : St [] w3 [(_, Cl [_, _, _] _)] [] := st
  refine Ls_a (wtd0 rfl) ?_
  refine a_alloc rfl rfl rfl Ty.zc_68 st.hp (fun g2 w4 (hp : Hp w4 [(_, Cl [_, _, _] _), (_, Cl [_, _, _, _] _)]) hf hg2 => ?_)
  have st : St [] w4 [(_, Cl [_, _, _] _), (_, Cl [_, _, _, _] _)] [] := st.push hp hf hg2
  have hg2 := Nat.le_trans hF.size hg2
  have hF := hF.step0 hf
  refine Ls_a (wtd0 rfl) ?_
  refine a_storew (i := 1) rfl rfl rfl rfl Ty.sz_68 rfl (by first | assumption | (simp [Value.oneCell', asksMC]; done)) st.hp rfl rfl (fun w5 (hp : Hp w5 [(_, Cl [_, _, _] _), (_, Cl [_, _, _, _] _)]) hf _ => ?_)
  have st : St [] w5 [(_, Cl [_, _, _] _), (_, Cl [_, _, _, _] _)] [] := st.set (i := 1) rfl hp hf
  have hF := hF.step hf (by intro y hy; simp only [List.mem_cons, List.not_mem_nil, or_false] at hy; subst hy; first | (exact Or.inr (by omega)) | (exact Or.inl (kin0 _ _)) | (exact Or.inl (by simp)))
  refine Ls_nil (Th_n (hK5 _ _ ?_))
  refine Wp_seq fun K6 hK6 => ?_
  refine Wp_block (Wp_seq fun K7 hK7 => ?_)
  refine Wp_seq fun K8 hK8 => ?_
  refine use_out hK8 (fun E W => E = [(1, .pointer (some ⟨g1, 0, none⟩)), (3, .pointer (some ⟨g2, 0, none⟩)), (11, .bool (ocheckOp_c1 o))] ∧ St [] W (hOf st) (kOf st) ∧ Fr ([]) w W) ?_ fun hout1 => ?_
  · rintro E w6 ⟨rfl, st, hF⟩
    have st : St [] w6 [(_, Cl [_, _, _] _), (_, Cl [_, _, _, _] _)] [] := st
    refine Wp_cond rfl (fun hc2 => ?_) (fun hc2 => ?_)
    · have jhc2 := (ocheckOp_c1_iff o).1 hc2
      refine Wp_skip (Th_n (hK7 _ _ ?_))
      refine Wp_cond rfl (fun _ => ?_) (fun hc3 => absurd hc3 (by simp [hc2]))
      refine Wp_seq fun K9 hK9 => ?_
      refine Wp_region (Las rfl rfl rfl rfl rfl (Ls_nil (Th_n (hK9 _ _ ?_))))
      refine Wp_ret (Ib_r (Th_r (Fq_ret (Res1 rfl rfl) ?_)))
      have he2 : ocheckOp_m o = 3 := by unfold ocheckOp_m; rewrite [if_neg hc1, if_pos hc2]; rfl
      rewrite [he2]
      exact ⟨rfl, hF⟩
    have jhc2 := mt (ocheckOp_c1_iff o).2 (bF hc2)
    have hc2 := bF hc2
    refine Wp_seq fun K10 hK10 => ?_
    refine use_out hK10 (fun E W => E = [(1, .pointer (some ⟨g1, 0, none⟩)), (3, .pointer (some ⟨g2, 0, none⟩)), (11, .bool (ocheckOp_c2 o))] ∧ St [] W (hOf st) (kOf st) ∧ Fr ([]) w W) ?_ fun hout2 => ?_
    · rintro E w7 ⟨rfl, st, hF⟩
      have st : St [] w7 [(_, Cl [_, _, _] _), (_, Cl [_, _, _, _] _)] [] := st
      refine Wp_cond rfl (fun hc4 => ?_) (fun hc4 => ?_)
      · have jhc4 := (ocheckOp_c2_iff o).1 hc4
        refine Wp_skip (Th_n (hK7 _ _ ?_))
        refine Wp_cond rfl (fun _ => ?_) (fun hc5 => absurd hc5 (by simp [hc4]))
        refine Wp_seq fun K11 hK11 => ?_
        refine Wp_region (Las rfl rfl rfl rfl rfl (Ls_nil (Th_n (hK11 _ _ ?_))))
        refine Wp_ret (Ib_r (Th_r (Fq_ret (Res1 rfl rfl) ?_)))
        have he3 : ocheckOp_m o = 3 := by unfold ocheckOp_m; rewrite [if_neg hc1, if_neg hc2, if_pos hc4]; rfl
        rewrite [he3]
        exact ⟨rfl, hF⟩
      have jhc4 := mt (ocheckOp_c2_iff o).2 (bF hc4)
      have hc4 := bF hc4
      refine use_out hK7 (fun E W => E = [(1, .pointer (some ⟨g1, 0, none⟩)), (11, .bool (ocheckOp_c3 o))] ∧ St [] W (hOf st) (kOf st) ∧ Fr ([]) w W) ?_ fun hout3 => ?_
      · rintro E w8 ⟨rfl, st, hF⟩
        have st : St [] w8 [(_, Cl [_, _, _] _), (_, Cl [_, _, _, _] _)] [] := st
        refine Wp_cond rfl (fun hc6 => ?_) (fun hc6 => ?_)
        · have jhc6 := (ocheckOp_c3_iff o).1 hc6
          refine Wp_seq fun K12 hK12 => ?_
          refine Wp_region (Las rfl rfl rfl rfl rfl (Ls_nil (Th_n (hK12 _ _ ?_))))
          refine Wp_ret (Ib_r (Th_r (Fq_ret (Res1 rfl rfl) ?_)))
          have he4 : ocheckOp_m o = 3 := by unfold ocheckOp_m; rewrite [if_neg hc1, if_neg hc2, if_neg hc4, if_pos hc6]; rfl
          rewrite [he4]
          exact ⟨rfl, hF⟩
        have jhc6 := mt (ocheckOp_c3_iff o).2 (bF hc6)
        have hc6 := bF hc6
        refine Wp_seq fun K13 hK13 => ?_
        refine use_out hK13 (fun E W => E = [(36, .bool (ocheckOp_c4 o))] ∧ St [] W (hOf st) (kOf st) ∧ Fr ([]) w W) ?_ fun hout4 => ?_
        · rintro E w9 ⟨rfl, st, hF⟩
          have st : St [] w9 [(_, Cl [_, _, _] _), (_, Cl [_, _, _, _] _)] [] := st
          refine Wp_cond rfl (fun hc7 => ?_) (fun hc7 => ?_)
          · have jhc7 := (ocheckOp_c4_iff o).1 hc7
            refine Wp_seq fun K14 hK14 => ?_
            refine Wp_region (Las rfl rfl rfl rfl rfl (Ls_nil (Th_n (hK14 _ _ ?_))))
            refine Wp_ret (Ib_r (Th_r (Fq_ret (Res1 rfl rfl) ?_)))
            have he5 : ocheckOp_m o = 2 := by unfold ocheckOp_m; rewrite [if_neg hc1, if_neg hc2, if_neg hc4, if_neg hc6, if_pos hc7]; rfl
            rewrite [he5]
            exact ⟨rfl, hF⟩
          have jhc7 := mt (ocheckOp_c4_iff o).2 (bF hc7)
          have hc7 := bF hc7
          refine Wp_skip (Ib_n (Th_n (hK6 _ _ ?_)))
          refine Wp_seq fun K15 hK15 => ?_
          refine Wp_region (Las rfl rfl rfl rfl rfl (Ls_nil (Th_n (hK15 _ _ ?_))))
          refine Wp_ret (Fq_ret (Res1 rfl rfl) ?_)
          have he6 : ocheckOp_m o = 0 := by unfold ocheckOp_m; rewrite [if_neg hc1, if_neg hc2, if_neg hc4, if_neg hc6, if_neg hc7]; rfl
          rewrite [he6]
          exact ⟨rfl, hF⟩
        refine Wp_region (Ls_y (wtd0 rfl) rfl rfl (y_fld rfl rfl Ty.fo_52_0) (Ls_y (wtd0 rfl) rfl rfl (y_load (i := 0) rfl rfl Ty.pl_3 (fun _ e => e ▸ st.hp) rfl rfl) ?_))
        refine Ls_y (wtd0 rfl) rfl rfl (y_eq rfl rfl rfl) (Lmv rfl rfl rfl rfl rfl (Ls_bool 40 rfl (fun hc8 => ?_) (fun hc8 => ?_)))
        · have hc8 := eT hc8
          refine Ls_y (wtdT rfl rfl rfl) rfl rfl (y_fld rfl rfl Ty.fo_52_2) (Ls_y (wtdT rfl rfl rfl) rfl rfl (y_load (i := 0) rfl rfl Ty.pl_2 (fun _ e => e ▸ st.hp) rfl rfl) ?_)
          refine Ls_y (wtdT rfl rfl rfl) rfl rfl (y_lt rfl rfl rfl) (Ls_y (wtdT rfl rfl rfl) rfl rfl (y_move rfl rfl) (Ls_bool 44 rfl (fun hc9 => ?_) (fun hc9 => ?_)))
          · have hc9 := dT hc9
            refine Ls_s (wtdF rfl rfl rfl) rfl rfl (Ls_s (wtdF rfl rfl rfl) rfl rfl (Ls_s (wtdF rfl rfl rfl) rfl rfl (Ls_y (wtdT rfl rfl rfl) rfl rfl (y_pick_t rfl rfl rfl) (Ls_y (wtd0 rfl) rfl rfl (y_pick_t rfl rfl rfl) (Las rfl rfl rfl rfl rfl (Ls_nil (Th_n (?_))))))))
            have hcj1 : ocheckOp_c4 o = true := by unfold ocheckOp_c4; rewrite [if_pos hc8, if_pos hc9]; rfl
            exact hout4 _ [(36, _)] _ ⟨rfl, trivial⟩ ⟨by rw [hcj1], (st.picks [0, 1] (by decide)).pickK [], hF⟩
          have hc9 := dF hc9
          refine Ls_y (wtdT rfl rfl rfl) rfl rfl (y_fld rfl rfl Ty.fo_52_2) (Ls_y (wtdT rfl rfl rfl) rfl rfl (y_load (i := 0) rfl rfl Ty.pl_2 (fun _ e => e ▸ st.hp) rfl rfl) ?_)
          refine Ls_y (wtdT rfl rfl rfl) rfl rfl (y_gt rfl rfl rfl) (Ls_y (wtdT rfl rfl rfl) rfl rfl (y_pick_f rfl rfl rfl) (Ls_y (wtd0 rfl) rfl rfl (y_pick_t rfl rfl rfl) (Las rfl rfl rfl rfl rfl (Ls_nil (Th_n (?_))))))
          have hcj2 : ocheckOp_c4 o = (decide (1073741824 < o.val)) := by unfold ocheckOp_c4; rewrite [if_pos hc8, if_neg hc9]; rfl
          exact hout4 _ [(36, _)] _ ⟨rfl, trivial⟩ ⟨by rw [hcj2], (st.picks [0, 1] (by decide)).pickK [], hF⟩
        have hc8 := eF hc8
        refine Ls_s (wtdF rfl rfl rfl) rfl rfl (Ls_s (wtdF rfl rfl rfl) rfl rfl (Ls_s (wtdF rfl rfl rfl) rfl rfl (Ls_s (wtdF rfl rfl rfl) rfl rfl (Ls_s (wtdU rfl rfl rfl) rfl rfl (Ls_s (wtdU rfl rfl rfl) rfl rfl (Ls_s (wtdU rfl rfl rfl) rfl rfl (Ls_s (wtdF rfl rfl rfl) rfl rfl (Ls_y (wtd0 rfl) rfl rfl (y_pick_f rfl rfl rfl) (Las rfl rfl rfl rfl rfl (Ls_nil (Th_n (?_))))))))))))
        have hcj3 : ocheckOp_c4 o = false := by unfold ocheckOp_c4; rewrite [if_neg hc8]; rfl
        exact hout4 _ [(36, _)] _ ⟨rfl, trivial⟩ ⟨by rw [hcj3], (st.picks [0, 1] (by decide)).pickK [], hF⟩
      refine Wp_region (Ls_y (wtd0 rfl) rfl rfl (y_fld rfl rfl Ty.fo_68_1) (Ls_y (wtd0 rfl) rfl rfl (y_load (i := 1) rfl rfl Ty.pl_4 (fun _ e => e ▸ st.hp) rfl rfl) ?_))
      refine Ls_y (wtd0 rfl) rfl rfl (y_not rfl rfl) (Lmv rfl rfl rfl rfl rfl (Ls_bool 31 rfl (fun hc10 => ?_) (fun hc10 => ?_)))
      · have hc10 := bF (nT hc10)
        refine Ls_y (wtdT rfl rfl rfl) rfl rfl (y_fld rfl rfl Ty.fo_52_2) (Ls_y (wtdT rfl rfl rfl) rfl rfl (y_load (i := 0) rfl rfl Ty.pl_2 (fun _ e => e ▸ st.hp) rfl rfl) ?_)
        refine Ls_y (wtdT rfl rfl rfl) rfl rfl (y_ne rfl rfl rfl) (Ls_y (wtd0 rfl) rfl rfl (y_pick_t rfl rfl rfl) (Las rfl rfl rfl rfl rfl (Ls_nil (Th_n (?_)))))
        have hcj4 : ocheckOp_c3 o = (o.val != 0) := by unfold ocheckOp_c3; rewrite [if_neg hc10]; rfl
        exact hout3 _ [(1, _), (11, _)] _ ⟨rfl, rfl, trivial⟩ ⟨by rw [hcj4], (st.picks [0, 1] (by decide)).pickK [], hF⟩
      have hc10 := (nF hc10)
      refine Ls_s (wtdF rfl rfl rfl) rfl rfl (Ls_s (wtdF rfl rfl rfl) rfl rfl (Ls_s (wtdF rfl rfl rfl) rfl rfl (Ls_y (wtd0 rfl) rfl rfl (y_pick_f rfl rfl rfl) (Las rfl rfl rfl rfl rfl (Ls_nil (Th_n (?_)))))))
      have hcj5 : ocheckOp_c3 o = false := by unfold ocheckOp_c3; rewrite [if_pos hc10]; rfl
      exact hout3 _ [(1, _), (11, _)] _ ⟨rfl, rfl, trivial⟩ ⟨by rw [hcj5], (st.picks [0, 1] (by decide)).pickK [], hF⟩
    refine Wp_region (Ls_y (wtd0 rfl) rfl rfl (y_fld rfl rfl Ty.fo_68_0) (Ls_y (wtd0 rfl) rfl rfl (y_load (i := 1) rfl rfl Ty.pl_4 (fun _ e => e ▸ st.hp) rfl rfl) ?_))
    refine Ls_y (wtd0 rfl) rfl rfl (y_not rfl rfl) (Lmv rfl rfl rfl rfl rfl (Ls_bool 23 rfl (fun hc11 => ?_) (fun hc11 => ?_)))
    · have hc11 := bF (nT hc11)
      refine Ls_y (wtdT rfl rfl rfl) rfl rfl (y_fld rfl rfl Ty.fo_52_1) (Ls_y (wtdT rfl rfl rfl) rfl rfl (y_load (i := 0) rfl rfl Ty.pl_9 (fun _ e => e ▸ st.hp) rfl rfl) ?_)
      refine Ls_y (wtdT rfl rfl rfl) rfl rfl (y_nes rfl rfl rfl) ?_
      refine Ls_y (wtd0 rfl) rfl rfl (y_pick_t rfl rfl rfl) (Las rfl rfl rfl rfl rfl (Ls_nil (Th_n (?_))))
      have hcj6 : ocheckOp_c2 o = (o.name != []) := by unfold ocheckOp_c2; rewrite [if_neg hc11]; rfl
      exact hout2 _ [(1, _), (3, _), (11, _)] _ ⟨rfl, rfl, rfl, trivial⟩ ⟨by rw [hcj6], (st.picks [0, 1] (by decide)).pickK [], hF⟩
    have hc11 := (nF hc11)
    refine Ls_s (wtdF rfl rfl rfl) rfl rfl (Ls_s (wtdF rfl rfl rfl) rfl rfl (Ls_s (wtdF rfl rfl rfl) rfl rfl (Ls_y (wtd0 rfl) rfl rfl (y_pick_f rfl rfl rfl) (Las rfl rfl rfl rfl rfl (Ls_nil (Th_n (?_)))))))
    have hcj7 : ocheckOp_c2 o = false := by unfold ocheckOp_c2; rewrite [if_pos hc11]; rfl
    exact hout2 _ [(1, _), (3, _), (11, _)] _ ⟨rfl, rfl, rfl, trivial⟩ ⟨by rw [hcj7], (st.picks [0, 1] (by decide)).pickK [], hF⟩
  refine Wp_region (Ls_y (wtd0 rfl) rfl rfl (y_fld rfl rfl Ty.fo_68_0) (Ls_y (wtd0 rfl) rfl rfl (y_load (i := 1) rfl rfl Ty.pl_4 (fun _ e => e ▸ st.hp) rfl rfl) ?_))
  refine Lmv rfl rfl rfl rfl rfl (Ls_bool 14 rfl (fun hc12 => ?_) (fun hc12 => ?_))
  · refine Ls_y (wtdT rfl rfl rfl) rfl rfl (y_fld rfl rfl Ty.fo_52_1) (Ls_y (wtdT rfl rfl rfl) rfl rfl (y_load (i := 0) rfl rfl Ty.pl_9 (fun _ e => e ▸ st.hp) rfl rfl) ?_)
    refine Ls_a (wtdT rfl rfl rfl) ?_
    refine a_call rfl rfl rfl rfl (oelem_ok _ o.name) (fun v w10 ⟨hv, hf⟩ => ?_)
    subst hv
    have st := st.keep0 hf
    have hF := hF.step0 hf
    have st : St [] w10 [(_, Cl [_, _, _] _), (_, Cl [_, _, _, _] _)] [] := st
    refine Ls_y (wtdT rfl rfl rfl) rfl rfl (y_not rfl rfl) (Ls_y (wtd0 rfl) rfl rfl (y_pick_t rfl rfl rfl) (Las rfl rfl rfl rfl rfl (Ls_nil (Th_n (?_)))))
    have hcj8 : ocheckOp_c1 o = (!(oelem_m o.name)) := by unfold ocheckOp_c1; rewrite [if_pos hc12]; rfl
    exact hout1 _ [(1, _), (3, _), (11, _)] _ ⟨rfl, rfl, rfl, trivial⟩ ⟨by rw [hcj8], (st.picks [0, 1] (by decide)).pickK [], hF⟩
  have hc12 := bF hc12
  refine Ls_s (wtdF rfl rfl rfl) rfl rfl (Ls_s (wtdF rfl rfl rfl) rfl rfl (Ls_s (wtdF rfl rfl rfl) rfl rfl (Ls_s (wtdF rfl rfl rfl) rfl rfl (Ls_y (wtd0 rfl) rfl rfl (y_pick_f rfl rfl rfl) (Las rfl rfl rfl rfl rfl (Ls_nil (Th_n (?_))))))))
  have hcj9 : ocheckOp_c1 o = false := by unfold ocheckOp_c1; rewrite [if_neg hc12]; rfl
  exact hout1 _ [(1, _), (3, _), (11, _)] _ ⟨rfl, rfl, rfl, trivial⟩ ⟨by rw [hcj9], (st.picks [0, 1] (by decide)).pickK [], hF⟩

def ocheckE_c1 (e : EffectM) : Bool :=
  (if (bnotTag_m e.tag) = true then true else containsF_m e.tags bnotTag_m)

def ocheckE_c2 (e : EffectM) : Bool :=
  (if ((oform_m e.act).atF) = true then (if (otimed_m e.atF) = true then (if ((oform_m e.act).tags) = true then false else decide (0 < (e.tags.length : Int))) else true) else (if e.atF = (⟨0, 0⟩ : StampM) then (if ((oform_m e.act).tags) = true then false else decide (0 < (e.tags.length : Int))) else true))

def ocheckE_L1 (e : EffectM) : Nat → Int → (Int) ⊕ (Int)
  | 0, s5 => .inr (s5)
  | fuel + 1, s5 =>
    if s5 < (e.tags.length : Int) then
      if 0 ≤ (icompareTag_m (ix e.tags (s5 - 1)) (ix e.tags s5)) then
        .inl 3
      else
        ocheckE_L1 e fuel (s5 + 1)
    else
      .inr (s5)
def ocheckE_m (e : EffectM) : Int :=
  if (ocheckOp_m (⟨e.act, e.name, e.val⟩ : OpM)) = 0 then
    if (ocheckE_c1 e) = true then
      2
    else
      if 4096 < (e.tags.length : Int) then
        8
      else
        if (ocheckE_c2 e) = true then
          3
        else
          match ocheckE_L1 e (((e.tags.length : Int) - (1 : Int)).toNat + 1) (1 : Int) with
          | .inl r => r
          | .inr (s5) =>
            0
  else
    ocheckOp_m (⟨e.act, e.name, e.val⟩ : OpM)

theorem ocheckE_c1_iff (e : EffectM) : (ocheckE_c1 e = true) ↔ (((bnotTag_m e.tag) = true) ∨ ((containsF_m e.tags bnotTag_m) = true)) := by
  unfold ocheckE_c1; exact (ci1 Iff.rfl)

theorem ocheckE_c2_iff (e : EffectM) : (ocheckE_c2 e = true) ↔ (((((oform_m e.act).atF) = true) ∧ (¬ ((otimed_m e.atF) = true) ∨ (¬ (((oform_m e.act).tags) = true) ∧ (0 < (e.tags.length : Int))))) ∨ (¬ (((oform_m e.act).atF) = true) ∧ (¬ (e.atF = (⟨0, 0⟩ : StampM)) ∨ (¬ (((oform_m e.act).tags) = true) ∧ (0 < (e.tags.length : Int)))))) := by
  unfold ocheckE_c2; exact (ci5 (ci4 (ci3 decide_eq_true_iff)) (ci4 (ci3 decide_eq_true_iff)))

set_option maxRecDepth 20000 in
theorem ocheckE_ok (X : List Nat) (w : World) (hX : Lo X w) (e : EffectM) (A_e_tags : Option Addr) (c_e_tags : Nat) (h_e_tags : Sld X w A_e_tags e.tags.length c_e_tags 3 (e.tags.flatMap tagMC)) :
    Fn Tryd.prog 12 [.agg #[.int .i64 e.act, sv e.name, .int .i64 e.val, .int .i64 e.tag.id.origin, .int .u32 e.tag.id.seq, .int .i64 e.tag.n, .int .u32 e.atF.time, .int .i64 e.atF.origin, .slice A_e_tags e.tags.length c_e_tags]] w fun v w' => v = .int .i64 (ocheckE_m e) ∧ Fr [] w w' := by
  refine Fn_of 82 Ty.en_12 Tryd.func12 rfl rfl rfl ?_
  dsimp only [argEnv]
  have st : St X w [] [kS A_e_tags e.tags.length c_e_tags 3 (e.tags.flatMap tagMC)] := (St.nil (X := X) (w := w) hX).addK (kS A_e_tags e.tags.length c_e_tags 3 (e.tags.flatMap tagMC)) h_e_tags
  have hF := Fr.refl ([]) w
  have hleA_e_tags := (st.k (i := 0) rfl).le
  refine Wp_seq fun K1 hK1 => ?_
  refine Wp_region (Ls_a (wtd0 rfl) ?_)
  refine a_box rfl rfl rfl rfl st.hp (fun g1 w1 (hp : Hp w1 [(_, Cl [_, _, _, _, _, _, _, _, _] _)]) hf hg1 => ?_)
  have st : St X w1 [(_, Cl [_, _, _, _, _, _, _, _, _] _)] [_] := st.push hp hf hg1
  have hg1 := Nat.le_trans hF.size hg1
  have hF := hF.step0 hf
  refine Las rfl rfl rfl rfl rfl (Ls_nil (Th_n (hK1 _ _ ?_)))
  refine Wp_seq fun K2 hK2 => ?_
  refine Wp_seq fun K3 hK3 => ?_
  refine Wp_region (Ls_y (wtd0 rfl) rfl rfl (y_fld rfl rfl Ty.fo_56_0) (Ls_y (wtd0 rfl) rfl rfl (y_load (i := 0) rfl rfl Ty.pl_3 (fun _ e => e ▸ st.hp) rfl rfl) ?_))
  refine Ls_y (wtd0 rfl) rfl rfl (y_fld rfl rfl Ty.fo_56_1) (Ls_y (wtd0 rfl) rfl rfl (y_load (i := 0) rfl rfl Ty.pl_9 (fun _ e => e ▸ st.hp) rfl rfl) ?_)
  refine Ls_y (wtd0 rfl) rfl rfl (y_fld rfl rfl Ty.fo_56_2) (Ls_y (wtd0 rfl) rfl rfl (y_load (i := 0) rfl rfl Ty.pl_2 (fun _ e => e ▸ st.hp) rfl rfl) ?_)
  refine Ls_y (wtd0 rfl) rfl rfl (y_build (cells := [_, _, _]) rfl rfl Ty.zc_52 Ty.ps_52 rfl) ?_
  refine Ls_a (wtd0 rfl) ?_
  refine a_call rfl rfl rfl rfl (ocheckOp_ok _ (⟨e.act, e.name, e.val⟩ : OpM)) (fun v w2 ⟨hv, hf⟩ => ?_)
  subst hv
  have st := st.keep0 hf
  have hF := hF.step0 hf
  have st : St X w2 [(_, Cl [_, _, _, _, _, _, _, _, _] _)] [_] := st
  refine Las rfl rfl rfl rfl rfl (Ls_nil (Th_n (hK3 _ _ ?_)))
  refine Wp_seq fun K4 hK4 => ?_
  refine Wp_region (Lmv rfl rfl rfl rfl rfl (Ls_y (wtd0 rfl) rfl rfl (y_ne rfl rfl rfl) (Ls_nil (Th_n (hK4 _ _ ?_)))))
  refine Wp_cond rfl (fun hc1 => ?_) (fun hc1 => ?_)
  · have hc1 := neT hc1
    refine Wp_seq fun K5 hK5 => ?_
    refine Wp_region (Lmv rfl rfl rfl rfl rfl (Las rfl rfl rfl rfl rfl (Ls_nil (Th_n (hK5 _ _ ?_)))))
    refine Wp_ret (Th_r (Fq_ret (Res1 rfl rfl) ?_))
    have he1 : ocheckE_m e = (ocheckOp_m (⟨e.act, e.name, e.val⟩ : OpM)) := by unfold ocheckE_m; rewrite [if_neg hc1]; rfl
    rewrite [he1]
    exact ⟨rfl, hF⟩
  have hc1 := neF hc1
  refine Wp_skip (Th_n (hK2 _ _ ?_))
  refine Wp_seq fun K6 hK6 => ?_
  refine Wp_seq fun K7 hK7 => ?_
  refine use_out hK7 (fun E W => E = [(1, .pointer (some ⟨g1, 0, none⟩)), (24, .bool (ocheckE_c1 e))] ∧ St X W (hOf st) (kOf st) ∧ Fr ([]) w W) ?_ fun hout1 => ?_
  · rintro E w3 ⟨rfl, st, hF⟩
    have st : St X w3 [(_, Cl [_, _, _, _, _, _, _, _, _] _)] [_] := st
    refine Wp_cond rfl (fun hc2 => ?_) (fun hc2 => ?_)
    · have jhc2 := (ocheckE_c1_iff e).1 hc2
      refine Wp_seq fun K8 hK8 => ?_
      refine Wp_region (Las rfl rfl rfl rfl rfl (Ls_nil (Th_n (hK8 _ _ ?_))))
      refine Wp_ret (Th_r (Fq_ret (Res1 rfl rfl) ?_))
      have he2 : ocheckE_m e = 2 := by unfold ocheckE_m; rewrite [if_pos hc1, if_pos hc2]; rfl
      rewrite [he2]
      exact ⟨rfl, hF⟩
    have jhc2 := mt (ocheckE_c1_iff e).2 (bF hc2)
    have hc2 := bF hc2
    refine Wp_skip (Th_n (hK6 _ _ ?_))
    refine Wp_seq fun K9 hK9 => ?_
    refine Wp_seq fun K10 hK10 => ?_
    refine Wp_region (Ls_y (wtd0 rfl) rfl rfl (y_fld rfl rfl Ty.fo_56_5) (Ls_y (wtd0 rfl) rfl rfl (y_load (i := 0) rfl rfl Ty.pl_31 (fun _ e => e ▸ st.hp) rfl rfl) ?_))
    refine Ls_y (wtd0 rfl) rfl rfl (y_lenl rfl rfl Tryd.underlying31) ?_
    refine Ls_y (wtd0 rfl) rfl rfl (y_gt rfl rfl rfl) (Ls_nil (Th_n (hK10 _ _ ?_)))
    refine Wp_cond rfl (fun hc3 => ?_) (fun hc3 => ?_)
    · have hc3 := dT hc3
      refine Wp_seq fun K11 hK11 => ?_
      refine Wp_region (Las rfl rfl rfl rfl rfl (Ls_nil (Th_n (hK11 _ _ ?_))))
      refine Wp_ret (Th_r (Fq_ret (Res1 rfl rfl) ?_))
      have he3 : ocheckE_m e = 8 := by unfold ocheckE_m; rewrite [if_pos hc1, if_neg hc2, if_pos hc3]; rfl
      rewrite [he3]
      exact ⟨rfl, hF⟩
    have hc3 := dF hc3
    refine Wp_skip (Th_n (hK9 _ _ ?_))
    refine Wp_seq fun K12 hK12 => ?_
    refine Wp_region (Ls_y (wtd0 rfl) rfl rfl (y_fld rfl rfl Ty.fo_56_0) (Ls_y (wtd0 rfl) rfl rfl (y_load (i := 0) rfl rfl Ty.pl_3 (fun _ e => e ▸ st.hp) rfl rfl) ?_))
    refine Ls_a (wtd0 rfl) ?_
    refine a_call rfl rfl rfl rfl (oform_ok _ e.act) (fun v w4 ⟨hv, hf⟩ => ?_)
    subst hv
    have st := st.keep0 hf
    have hF := hF.step0 hf
    have st : St X w4 [(_, Cl [_, _, _, _, _, _, _, _, _] _)] [_] := st
    refine Ls_a (wtd0 rfl) ?_
    refine a_alloc rfl rfl rfl Ty.zc_68 st.hp (fun g2 w5 (hp : Hp w5 [(_, Cl [_, _, _, _, _, _, _, _, _] _), (_, Cl [_, _, _, _] _)]) hf hg2 => ?_)
    have st : St X w5 [(_, Cl [_, _, _, _, _, _, _, _, _] _), (_, Cl [_, _, _, _] _)] [_] := st.push hp hf hg2
    have hg2 := Nat.le_trans hF.size hg2
    have hF := hF.step0 hf
    refine Ls_a (wtd0 rfl) ?_
    refine a_storew (i := 1) rfl rfl rfl rfl Ty.sz_68 rfl (by first | assumption | (simp [Value.oneCell', asksMC]; done)) st.hp rfl rfl (fun w6 (hp : Hp w6 [(_, Cl [_, _, _, _, _, _, _, _, _] _), (_, Cl [_, _, _, _] _)]) hf _ => ?_)
    have st : St X w6 [(_, Cl [_, _, _, _, _, _, _, _, _] _), (_, Cl [_, _, _, _] _)] [_] := st.set (i := 1) rfl hp hf
    have hF := hF.step hf (by intro y hy; simp only [List.mem_cons, List.not_mem_nil, or_false] at hy; subst hy; first | (exact Or.inr (by omega)) | (exact Or.inl (kin0 _ _)) | (exact Or.inl (by simp)))
    refine Ls_nil (Th_n (hK12 _ _ ?_))
    refine Wp_seq fun K13 hK13 => ?_
    refine Wp_seq fun K14 hK14 => ?_
    refine use_out hK14 (fun E W => E = [(1, .pointer (some ⟨g1, 0, none⟩)), (61, .bool (ocheckE_c2 e))] ∧ St X W (hOf st) (kOf st) ∧ Fr ([]) w W) ?_ fun hout2 => ?_
    · rintro E w7 ⟨rfl, st, hF⟩
      have st : St X w7 [(_, Cl [_, _, _, _, _, _, _, _, _] _), (_, Cl [_, _, _, _] _)] [_] := st
      refine Wp_cond rfl (fun hc4 => ?_) (fun hc4 => ?_)
      · have jhc4 := (ocheckE_c2_iff e).1 hc4
        refine Wp_seq fun K15 hK15 => ?_
        refine Wp_region (Las rfl rfl rfl rfl rfl (Ls_nil (Th_n (hK15 _ _ ?_))))
        refine Wp_ret (Th_r (Fq_ret (Res1 rfl rfl) ?_))
        have he4 : ocheckE_m e = 3 := by unfold ocheckE_m; rewrite [if_pos hc1, if_neg hc2, if_neg hc3, if_pos hc4]; rfl
        rewrite [he4]
        exact ⟨rfl, hF⟩
      have jhc4 := mt (ocheckE_c2_iff e).2 (bF hc4)
      have hc4 := bF hc4
      refine Wp_skip (Th_n (hK13 _ _ ?_))
      refine Wp_seq fun K16 hK16 => ?_
      refine Wp_seq fun K17 hK17 => ?_
      refine Wp_region (Las rfl rfl rfl rfl rfl (Ls_nil (Th_n (hK17 _ _ ?_))))
      refine Wp_block (use_out hK16 (fun E W => ∃ (s5 : Int), E = [(1, .pointer (some ⟨g1, 0, none⟩)), (5, .int .i64 s5)] ∧ ocheckE_L1 e (((e.tags.length : Int) - (1 : Int)).toNat + 1) (1 : Int) = .inr (s5) ∧ (1 ≤ s5) ∧ St X W [(some g1, Cl [.int .i64 e.act, sv e.name, .int .i64 e.val, .int .i64 e.tag.id.origin, .int .u32 e.tag.id.seq, .int .i64 e.tag.n, .int .u32 e.atF.time, .int .i64 e.atF.origin, .slice A_e_tags e.tags.length c_e_tags] 56), (some g2, Cl [.bool ((oform_m e.act).name), .bool ((oform_m e.act).val), .bool ((oform_m e.act).atF), .bool ((oform_m e.act).tags)] 68)] [kS A_e_tags e.tags.length c_e_tags 3 (e.tags.flatMap tagMC)] ∧ Fr ([]) w W) ?_ fun hout3 => ?_)
      · rintro E w8 ⟨s5, rfl, hLk1, hinv, st, hF⟩
        refine Wp_seq fun K18 hK18 => ?_
        refine Wp_region (Las rfl rfl rfl rfl rfl (Ls_nil (Th_n (hK18 _ _ ?_))))
        refine Wp_ret (Fq_ret (Res1 rfl rfl) ?_)
        have he5 : ocheckE_m e = 0 := by unfold ocheckE_m; rewrite [if_pos hc1, if_neg hc2, if_neg hc3, if_neg hc4, hLk1]; (try dsimp only); all_goals rfl
        rewrite [he5]
        exact ⟨rfl, hF⟩
      refine Wp_loopE (fun m E W => ∃ (s5 : Int), E = [(1, .pointer (some ⟨g1, 0, none⟩)), (5, .int .i64 s5)] ∧ ocheckE_L1 e m s5 = ocheckE_L1 e (((e.tags.length : Int) - (1 : Int)).toNat + 1) (1 : Int) ∧ ((e.tags.length : Int) - s5).toNat < m ∧ (1 ≤ s5) ∧ St X W [(some g1, Cl [.int .i64 e.act, sv e.name, .int .i64 e.val, .int .i64 e.tag.id.origin, .int .u32 e.tag.id.seq, .int .i64 e.tag.n, .int .u32 e.atF.time, .int .i64 e.atF.origin, .slice A_e_tags e.tags.length c_e_tags] 56), (some g2, Cl [.bool ((oform_m e.act).name), .bool ((oform_m e.act).val), .bool ((oform_m e.act).atF), .bool ((oform_m e.act).tags)] 68)] [kS A_e_tags e.tags.length c_e_tags 3 (e.tags.flatMap tagMC)] ∧ Fr ([]) w W) (((e.tags.length : Int) - (1 : Int)).toNat + 1) [(1, _), (5, _)] ⟨rfl, rfl, trivial⟩ ?_ ?_
      · exact ⟨_, rfl, rfl, Nat.lt_succ_self _, by first | omega | (simp; done) | (simp; omega), st, hF⟩
      rintro m E w9 ⟨s5, rfl, hL1, hmu, hinv, st, hF⟩
      obtain ⟨fuel, rfl⟩ : ∃ q, m = q + 1 := ⟨m - 1, by omega⟩
      refine Wp_seq fun K19 hK19 => ?_
      refine Wp_seq fun K20 hK20 => ?_
      refine Wp_region (Lmv rfl rfl rfl rfl rfl (Ls_y (wtd0 rfl) rfl rfl (y_fld rfl rfl Ty.fo_56_5) (Ls_y (wtd0 rfl) rfl rfl (y_load (i := 0) rfl rfl Ty.pl_31 (fun _ e => e ▸ st.hp) rfl rfl) ?_)))
      refine Ls_y (wtd0 rfl) rfl rfl (y_lenl rfl rfl Tryd.underlying31) ?_
      refine Ls_y (wtd0 rfl) rfl rfl (y_lt rfl rfl rfl) (Ls_nil (Th_n (hK20 _ _ ?_)))
      refine Wp_cond rfl (fun hc5 => ?_) (fun hc5 => ?_)
      · have hc5 := dT hc5
        refine Wp_skip (Th_n (hK19 _ _ ?_))
        refine Wp_seq fun K21 hK21 => ?_
        refine Wp_block (Wp_seq fun K22 hK22 => ?_)
        refine Wp_plan (fun W => St X W (pickL (hOf st) [0, 1]) (kOf st)) [(true, 0), (true, 1), (true, 2), (true, 3), (true, 4), (true, 5), (true, 6), (true, 7), (true, 8), (true, 9), (true, 10), (false, 11), (true, 12)] Ty.mx_0 (by kernel_rfl) (by kernel_rfl) rfl ((st.picks [0, 1] (by decide)).drew) ?_
        have st := st.drew
        have hF := hF.step0 (Fr.drew _)
        refine Pl_y rfl (wtd0 rfl) rfl rfl (y_fld rfl rfl Ty.fo_56_5) (Pl_y rfl (wtd0 rfl) rfl rfl (y_load (i := 0) rfl rfl Ty.pl_31 (fun _ h => h.hp) rfl rfl) ?_)
        refine Pmv rfl rfl rfl rfl rfl rfl (Pl_y rfl (wtd0 rfl) rfl rfl (y_sub (c := s5 - 1) rfl rfl rfl (wf_i64 (by first | omega | (simp; done) | (simp; omega)))) ?_)
        obtain ⟨gi1, bi1, egi1⟩ := (st.k (i := 0) rfl).addr (fun _ => rfl) (by decide) (q := s5 - 1) (by first | omega | (simp; done) | (simp; omega)) (by first | omega | (simp; done) | (simp; omega))
        subst egi1
        refine Pl_y rfl (wtd0 rfl) rfl rfl (y_ixa (q := s5 - 1) rfl rfl rfl Ty.es_31 (by first | omega | (simp; done) | (simp; omega)) (by first | omega | (simp; done) | (simp; omega))) ?_
        refine Pl_y rfl (wtd0 rfl) rfl rfl (y_ldk (q := s5 - 1) rfl rfl Ty.ag_28 (fun _ h => h.k (i := 0) rfl) (fun _ => rfl) (by first | omega | (simp; done) | (simp; omega)) (by first | omega | (simp; done) | (simp; omega))) ?_
        refine Pl_y rfl (wtd0 rfl) rfl rfl (y_fld rfl rfl Ty.fo_56_5) (Pl_y rfl (wtd0 rfl) rfl rfl (y_load (i := 0) rfl rfl Ty.pl_31 (fun _ h => h.hp) rfl rfl) ?_)
        refine Pmv rfl rfl rfl rfl rfl rfl (Pl_y rfl (wtd0 rfl) rfl rfl (y_ixa (q := s5) rfl rfl rfl Ty.es_31 (by first | omega | (simp; done) | (simp; omega)) (by first | omega | (simp; done) | (simp; omega))) ?_)
        refine Pl_y rfl (wtd0 rfl) rfl rfl (y_ldk (q := s5) rfl rfl Ty.ag_28 (fun _ h => h.k (i := 0) rfl) (fun _ => rfl) (by first | omega | (simp; done) | (simp; omega)) (by first | omega | (simp; done) | (simp; omega))) ?_
        refine Pl_a rfl (wtd0 rfl) (by rfl) ?_
        refine a_call rfl rfl rfl rfl (icompareTag_ok _ (ix e.tags (s5 - 1)) (ix e.tags s5)) (fun v w10 ⟨hv, hf⟩ => ?_)
        subst hv
        have st := st.keep0 hf
        have hF := hF.step0 hf
        have st : St X w10 [(_, Cl [_, _, _, _, _, _, _, _, _] _), (_, Cl [_, _, _, _] _)] [_] := st
        refine ⟨(st.picks [0, 1] (by decide)).takeK 1, ?_⟩
        refine Pl_y rfl (wtd0 rfl) rfl rfl (y_ge rfl rfl rfl) (Pl_nil (Th_n (hK22 _ _ ?_)))
        refine Wp_cond rfl (fun hc6 => ?_) (fun hc6 => ?_)
        · have hc6 := dT hc6
          refine Wp_seq fun K23 hK23 => ?_
          refine Wp_region (Las rfl rfl rfl rfl rfl (Ls_nil (Th_n (hK23 _ _ ?_))))
          refine Wp_ret (Ib_r (Th_r (Th_r (Ib_r (Th_r (Fq_ret (Res1 rfl rfl) ?_))))))
          have hret1 : ocheckE_L1 e (((e.tags.length : Int) - (1 : Int)).toNat + 1) (1 : Int) = .inl 3 := by rewrite [← hL1, ocheckE_L1]; rewrite [if_pos hc5, if_pos hc6]; rfl
          have he6 : ocheckE_m e = 3 := by unfold ocheckE_m; rewrite [if_pos hc1, if_neg hc2, if_neg hc3, if_neg hc4, hret1]; (try dsimp only); all_goals rfl
          rewrite [he6]
          exact ⟨rfl, hF⟩
        have hc6 := dF hc6
        refine Wp_skip (Ib_n (Th_n (hK21 _ _ ?_)))
        refine Wp_region (Lmv rfl rfl rfl rfl rfl (Ls_y (wtd0 rfl) rfl rfl (y_add (c := s5 + 1) rfl rfl rfl (wf_i64 (by first | omega | (simp; done) | (simp; omega)))) ?_))
        refine Las rfl rfl rfl rfl rfl (Ls_nil (Th_n (?_)))
        have hE1 : ocheckE_L1 e fuel (s5 + 1) = ocheckE_L1 e (((e.tags.length : Int) - (1 : Int)).toNat + 1) (1 : Int) := by rewrite [← hL1, ocheckE_L1]; rewrite [if_pos hc5, if_neg hc6]; rfl
        exact ⟨fuel, [(1, _), (5, _)], Nat.lt_succ_self _, ⟨rfl, rfl, trivial⟩, (s5 + 1), rfl, hE1, by first | omega | (simp; done) | (simp; omega), by first | omega | (simp; done) | (simp; omega), (st.picks [0, 1] (by decide)).pickK [0], hF⟩
      have hc5 := dF hc5
      refine Wp_exit (Th_e (Th_e (Ib_hit (Th_n (?_)))))
      have hE2 : ocheckE_L1 e (((e.tags.length : Int) - (1 : Int)).toNat + 1) (1 : Int) = .inr (s5) := by rewrite [← hL1, ocheckE_L1]; rewrite [if_neg hc5]; rfl
      exact hout3 _ [(1, _), (5, _)] _ ⟨rfl, rfl, trivial⟩ ⟨s5, rfl, hE2, by first | omega | (simp; done) | (simp; omega), (st.picks [0, 1] (by decide)).pickK [0], hF⟩
    refine Wp_region (Ls_y (wtd0 rfl) rfl rfl (y_fld rfl rfl Ty.fo_68_2) (Ls_y (wtd0 rfl) rfl rfl (y_load (i := 1) rfl rfl Ty.pl_4 (fun _ e => e ▸ st.hp) rfl rfl) ?_))
    refine Lmv rfl rfl rfl rfl rfl (Ls_bool 34 rfl (fun hc7 => ?_) (fun hc7 => ?_))
    · refine Ls_y (wtdT rfl rfl rfl) rfl rfl (y_fld rfl rfl Ty.fo_56_4) (Ls_y (wtdT rfl rfl rfl) rfl rfl (y_loadm (i := 0) rfl rfl Ty.ag_30 (fun _ e => e ▸ st.hp) rfl rfl rfl) ?_)
      refine Ls_a (wtdT rfl rfl rfl) ?_
      refine a_call rfl rfl rfl rfl (otimed_ok _ e.atF) (fun v w11 ⟨hv, hf⟩ => ?_)
      subst hv
      have st := st.keep0 hf
      have hF := hF.step0 hf
      have st : St X w11 [(_, Cl [_, _, _, _, _, _, _, _, _] _), (_, Cl [_, _, _, _] _)] [_] := st
      refine Ls_y (wtdT rfl rfl rfl) rfl rfl (y_not rfl rfl) (Ls_y (wtd0 rfl) rfl rfl (y_pick_t rfl rfl rfl) (Lmv rfl rfl rfl rfl rfl (Ls_bool 40 rfl (fun hc8 => ?_) (fun hc8 => ?_))))
      · have hc8 := bF (nT hc8)
        refine Ls_s (wtdF rfl rfl rfl) rfl rfl (Ls_s (wtdF rfl rfl rfl) rfl rfl (Ls_s (wtdF rfl rfl rfl) rfl rfl (Ls_s (wtdF rfl rfl rfl) rfl rfl (Ls_s (wtdU rfl rfl rfl) rfl rfl (Ls_s (wtdU rfl rfl rfl) rfl rfl (Ls_s (wtdU rfl rfl rfl) rfl rfl (Ls_s (wtdU rfl rfl rfl) rfl rfl (Ls_s (wtdF rfl rfl rfl) rfl rfl (Ls_y (wtd0 rfl) rfl rfl (y_pick_t rfl rfl rfl) (Lmv rfl rfl rfl rfl rfl (Ls_s (wtdF rfl rfl rfl) rfl rfl (Ls_s (wtdF rfl rfl rfl) rfl rfl (Ls_s (wtdF rfl rfl rfl) rfl rfl (Ls_s (wtdF rfl rfl rfl) rfl rfl (Ls_s (wtdU rfl rfl rfl) rfl rfl (Ls_s (wtdU rfl rfl rfl) rfl rfl (Ls_s (wtdU rfl rfl rfl) rfl rfl (Ls_s (wtdU rfl rfl rfl) rfl rfl (Ls_s (wtdF rfl rfl rfl) rfl rfl ?_)))))))))))))))))))
        refine Ls_y (wtd0 rfl) rfl rfl (y_pick_t rfl rfl rfl) (Ls_nil (Th_n (?_)))
        have hcj1 : ocheckE_c2 e = true := by unfold ocheckE_c2; rewrite [if_pos hc7, if_neg hc8]; rfl
        exact hout2 _ [(1, _), (61, _)] _ ⟨rfl, rfl, trivial⟩ ⟨by rw [hcj1], (st.picks [0, 1] (by decide)).pickK [0], hF⟩
      have hc8 := (nF hc8)
      refine Ls_y (wtdT rfl rfl rfl) rfl rfl (y_fld rfl rfl Ty.fo_68_2) (Ls_y (wtdT rfl rfl rfl) rfl rfl (y_load (i := 1) rfl rfl Ty.pl_4 (fun _ e => e ▸ st.hp) rfl rfl) ?_)
      refine Ls_y (wtdT rfl rfl rfl) rfl rfl (y_not rfl rfl) (Ls_y (wtdT rfl rfl rfl) rfl rfl (y_move rfl rfl) (Ls_bool 44 rfl (fun hc9 => absurd hc9 (by simp [hc7])) (fun _ => ?_)))
      refine Ls_s (wtdF rfl rfl rfl) rfl rfl (Ls_s (wtdF rfl rfl rfl) rfl rfl (Ls_s (wtdF rfl rfl rfl) rfl rfl (Ls_s (wtdF rfl rfl rfl) rfl rfl (Ls_y (wtdT rfl rfl rfl) rfl rfl (y_pick_f rfl rfl rfl) (Ls_y (wtd0 rfl) rfl rfl (y_pick_f rfl rfl rfl) (Lmv rfl rfl rfl rfl rfl (Ls_y (wtdT rfl rfl rfl) rfl rfl (y_fld rfl rfl Ty.fo_68_3) (Ls_y (wtdT rfl rfl rfl) rfl rfl (y_load (i := 1) rfl rfl Ty.pl_4 (fun _ e => e ▸ st.hp) rfl rfl) ?_))))))))
      refine Ls_y (wtdT rfl rfl rfl) rfl rfl (y_not rfl rfl) (Ls_y (wtdT rfl rfl rfl) rfl rfl (y_move rfl rfl) (Ls_bool 55 rfl (fun hc10 => ?_) (fun hc10 => ?_)))
      · have hc10 := bF (nT hc10)
        refine Ls_y (wtdT rfl rfl rfl) rfl rfl (y_fld rfl rfl Ty.fo_56_5) (Ls_y (wtdT rfl rfl rfl) rfl rfl (y_load (i := 0) rfl rfl Ty.pl_31 (fun _ e => e ▸ st.hp) rfl rfl) ?_)
        refine Ls_y (wtdT rfl rfl rfl) rfl rfl (y_lenl rfl rfl Tryd.underlying31) ?_
        refine Ls_y (wtdT rfl rfl rfl) rfl rfl (y_gt rfl rfl rfl) (Ls_y (wtdT rfl rfl rfl) rfl rfl (y_pick_t rfl rfl rfl) (Ls_y (wtd0 rfl) rfl rfl (y_pick_f rfl rfl rfl) (Ls_nil (Th_n (?_)))))
        have hcj2 : ocheckE_c2 e = (decide (0 < (e.tags.length : Int))) := by unfold ocheckE_c2; rewrite [if_pos hc7, if_pos hc8, if_neg hc10]; rfl
        exact hout2 _ [(1, _), (61, _)] _ ⟨rfl, rfl, trivial⟩ ⟨by rw [hcj2], (st.picks [0, 1] (by decide)).pickK [0], hF⟩
      have hc10 := (nF hc10)
      refine Ls_s (wtdF rfl rfl rfl) rfl rfl (Ls_s (wtdF rfl rfl rfl) rfl rfl (Ls_s (wtdF rfl rfl rfl) rfl rfl (Ls_s (wtdF rfl rfl rfl) rfl rfl (Ls_y (wtdT rfl rfl rfl) rfl rfl (y_pick_f rfl rfl rfl) (Ls_y (wtd0 rfl) rfl rfl (y_pick_f rfl rfl rfl) (Ls_nil (Th_n (?_))))))))
      have hcj3 : ocheckE_c2 e = false := by unfold ocheckE_c2; rewrite [if_pos hc7, if_pos hc8, if_pos hc10]; rfl
      exact hout2 _ [(1, _), (61, _)] _ ⟨rfl, rfl, trivial⟩ ⟨by rw [hcj3], (st.picks [0, 1] (by decide)).pickK [0], hF⟩
    have hc7 := bF hc7
    refine Ls_s (wtdF rfl rfl rfl) rfl rfl (Ls_s (wtdF rfl rfl rfl) rfl rfl (Ls_s (wtdF rfl rfl rfl) rfl rfl (Ls_s (wtdF rfl rfl rfl) rfl rfl (Ls_y (wtd0 rfl) rfl rfl (y_pick_f rfl rfl rfl) (Lmv rfl rfl rfl rfl rfl (Ls_y (wtdT rfl rfl rfl) rfl rfl (y_fld rfl rfl Ty.fo_68_2) (Ls_y (wtdT rfl rfl rfl) rfl rfl (y_load (i := 1) rfl rfl Ty.pl_4 (fun _ e => e ▸ st.hp) rfl rfl) ?_)))))))
    refine Ls_y (wtdT rfl rfl rfl) rfl rfl (y_not rfl rfl) (Ls_y (wtdT rfl rfl rfl) rfl rfl (y_move rfl rfl) (Ls_bool 44 rfl (fun _ => ?_) (fun hc11 => absurd hc11 (by simp [hc7]))))
    refine Ls_y (wtdT rfl rfl rfl) rfl rfl (y_fld rfl rfl Ty.fo_56_4) (Ls_y (wtdT rfl rfl rfl) rfl rfl (y_loadm (i := 0) rfl rfl Ty.ag_30 (fun _ e => e ▸ st.hp) rfl rfl rfl) ?_)
    refine Ls_y (wtdT rfl rfl rfl) rfl rfl (y_build (cells := [_, _]) rfl rfl Ty.zc_30 Ty.ps_30 rfl) ?_
    refine Ls_y (wtdT rfl rfl rfl) rfl rfl (y_nev (b := decide (e.atF = (⟨0, 0⟩ : StampM))) rfl rfl rfl Ty.eg_30 (by rw [Ty.ag_30]; simp) (eqv_30 e.atF (⟨0, 0⟩ : StampM))) ?_
    refine Ls_y (wtdT rfl rfl rfl) rfl rfl (y_pick_t rfl rfl rfl) (Ls_y (wtd0 rfl) rfl rfl (y_pick_f rfl rfl rfl) (Lmv rfl rfl rfl rfl rfl (Ls_bool 51 rfl (fun hc12 => ?_) (fun hc12 => ?_))))
    · have hc12 := dF (nT hc12)
      refine Ls_s (wtdF rfl rfl rfl) rfl rfl (Ls_s (wtdF rfl rfl rfl) rfl rfl (Ls_s (wtdF rfl rfl rfl) rfl rfl (Ls_s (wtdF rfl rfl rfl) rfl rfl (Ls_s (wtdU rfl rfl rfl) rfl rfl (Ls_s (wtdU rfl rfl rfl) rfl rfl (Ls_s (wtdU rfl rfl rfl) rfl rfl (Ls_s (wtdU rfl rfl rfl) rfl rfl (Ls_s (wtdF rfl rfl rfl) rfl rfl (Ls_y (wtd0 rfl) rfl rfl (y_pick_t rfl rfl rfl) (Ls_nil (Th_n (?_))))))))))))
      have hcj4 : ocheckE_c2 e = true := by unfold ocheckE_c2; rewrite [if_neg hc7, if_neg hc12]; rfl
      exact hout2 _ [(1, _), (61, _)] _ ⟨rfl, rfl, trivial⟩ ⟨by rw [hcj4], (st.picks [0, 1] (by decide)).pickK [0], hF⟩
    have hc12 := dT (nF hc12)
    refine Ls_y (wtdT rfl rfl rfl) rfl rfl (y_fld rfl rfl Ty.fo_68_3) (Ls_y (wtdT rfl rfl rfl) rfl rfl (y_load (i := 1) rfl rfl Ty.pl_4 (fun _ e => e ▸ st.hp) rfl rfl) ?_)
    refine Ls_y (wtdT rfl rfl rfl) rfl rfl (y_not rfl rfl) (Ls_y (wtdT rfl rfl rfl) rfl rfl (y_move rfl rfl) (Ls_bool 55 rfl (fun hc13 => ?_) (fun hc13 => ?_)))
    · have hc13 := bF (nT hc13)
      refine Ls_y (wtdT rfl rfl rfl) rfl rfl (y_fld rfl rfl Ty.fo_56_5) (Ls_y (wtdT rfl rfl rfl) rfl rfl (y_load (i := 0) rfl rfl Ty.pl_31 (fun _ e => e ▸ st.hp) rfl rfl) ?_)
      refine Ls_y (wtdT rfl rfl rfl) rfl rfl (y_lenl rfl rfl Tryd.underlying31) ?_
      refine Ls_y (wtdT rfl rfl rfl) rfl rfl (y_gt rfl rfl rfl) (Ls_y (wtdT rfl rfl rfl) rfl rfl (y_pick_t rfl rfl rfl) (Ls_y (wtd0 rfl) rfl rfl (y_pick_f rfl rfl rfl) (Ls_nil (Th_n (?_)))))
      have hcj5 : ocheckE_c2 e = (decide (0 < (e.tags.length : Int))) := by unfold ocheckE_c2; rewrite [if_neg hc7, if_pos hc12, if_neg hc13]; rfl
      exact hout2 _ [(1, _), (61, _)] _ ⟨rfl, rfl, trivial⟩ ⟨by rw [hcj5], (st.picks [0, 1] (by decide)).pickK [0], hF⟩
    have hc13 := (nF hc13)
    refine Ls_s (wtdF rfl rfl rfl) rfl rfl (Ls_s (wtdF rfl rfl rfl) rfl rfl (Ls_s (wtdF rfl rfl rfl) rfl rfl (Ls_s (wtdF rfl rfl rfl) rfl rfl (Ls_y (wtdT rfl rfl rfl) rfl rfl (y_pick_f rfl rfl rfl) (Ls_y (wtd0 rfl) rfl rfl (y_pick_f rfl rfl rfl) (Ls_nil (Th_n (?_))))))))
    have hcj6 : ocheckE_c2 e = false := by unfold ocheckE_c2; rewrite [if_neg hc7, if_pos hc12, if_pos hc13]; rfl
    exact hout2 _ [(1, _), (61, _)] _ ⟨rfl, rfl, trivial⟩ ⟨by rw [hcj6], (st.picks [0, 1] (by decide)).pickK [0], hF⟩
  refine Wp_region (Ls_y (wtd0 rfl) rfl rfl (y_fld rfl rfl Ty.fo_56_3) (Ls_y (wtd0 rfl) rfl rfl (y_loadm (i := 0) rfl rfl Ty.ag_28 (fun _ e => e ▸ st.hp) rfl rfl rfl) ?_))
  refine Ls_a (wtd0 rfl) ?_
  refine a_call rfl rfl rfl rfl (bnotTag_ok _ e.tag) (fun v w12 ⟨hv, hf⟩ => ?_)
  subst hv
  have st := st.keep0 hf
  have hF := hF.step0 hf
  have st : St X w12 [(_, Cl [_, _, _, _, _, _, _, _, _] _)] [_] := st
  refine Lmv rfl rfl rfl rfl rfl (Ls_bool 20 rfl (fun hc14 => ?_) (fun hc14 => ?_))
  · refine Ls_s (wtdF rfl rfl rfl) rfl rfl (Ls_s (wtdF rfl rfl rfl) rfl rfl (Ls_s (wtdF rfl rfl rfl) rfl rfl (Ls_y (wtd0 rfl) rfl rfl (y_pick_t rfl rfl rfl) (Ls_nil (Th_n (?_))))))
    have hcj7 : ocheckE_c1 e = true := by unfold ocheckE_c1; rewrite [if_pos hc14]; rfl
    exact hout1 _ [(1, _), (24, _)] _ ⟨rfl, rfl, trivial⟩ ⟨by rw [hcj7], (st.picks [0] (by decide)).pickK [0], hF⟩
  have hc14 := bF hc14
  refine Ls_y (wtdT rfl rfl rfl) rfl rfl (y_fld rfl rfl Ty.fo_56_5) (Ls_y (wtdT rfl rfl rfl) rfl rfl (y_load (i := 0) rfl rfl Ty.pl_31 (fun _ e => e ▸ st.hp) rfl rfl) ?_)
  refine Ls_a (wtdT rfl rfl rfl) ?_
  refine a_call rfl rfl rfl rfl (containsTag_ok (keys (hOf st) ++ X) _ st.Lo e.tags A_e_tags c_e_tags (.func (.func 24) #[] #[]) bnotTag_m (st.k (i := 0) rfl) (fun w1 x0 _ => FnV.of (bnotTag_ok w1 x0))) (fun v w13 ⟨hv, hf⟩ => ?_)
  subst hv
  have st := st.keep0 hf
  have hF := hF.step0 hf
  have st : St X w13 [(_, Cl [_, _, _, _, _, _, _, _, _] _)] [_] := st
  refine Ls_y (wtd0 rfl) rfl rfl (y_pick_f rfl rfl rfl) (Ls_nil (Th_n (?_)))
  have hcj8 : ocheckE_c1 e = (containsF_m e.tags bnotTag_m) := by unfold ocheckE_c1; rewrite [if_neg hc14]; rfl
  exact hout1 _ [(1, _), (24, _)] _ ⟨rfl, rfl, trivial⟩ ⟨by rw [hcj8], (st.picks [0] (by decide)).pickK [0], hF⟩

def inPart_m (c : Int) : Bool :=
  if 97 ≤ c then
    if c ≤ 122 then
      true
    else
      if 48 ≤ c then
        decide (c ≤ 57)
      else
        false
  else
    if 48 ≤ c then
      decide (c ≤ 57)
    else
      false


set_option maxRecDepth 20000 in
theorem inPart_ok (w : World) (c : Int) :
    Fn Tryd.prog 20 [.int .u8 c] w fun v w' => v = .bool (inPart_m c) ∧ Fr [] w w' := by
  refine Fn_of 17 Ty.en_20 Tryd.func20 rfl rfl rfl ?_
  dsimp only [argEnv]
  have st : St [] w [] [] := St.nil (X := []) (w := w) (by simp [Lo])
  have hF := Fr.refl ([]) w
  refine Wp_seq fun K1 hK1 => ?_
  refine Wp_region (Las rfl rfl rfl rfl rfl (Ls_nil (Th_n (hK1 _ _ ?_))))
  refine Wp_seq fun K2 hK2 => ?_
  refine Wp_region (Lmv rfl rfl rfl rfl rfl (Ls_y (wtd0 rfl) rfl rfl (y_ge rfl rfl rfl) (Lmv rfl rfl rfl rfl rfl (Ls_bool 5 rfl (fun hc1 => ?_) (fun hc1 => ?_)))))
  · have hc1 := dT hc1
    refine Ls_y (wtdT rfl rfl rfl) rfl rfl (y_move rfl rfl) (Ls_y (wtdT rfl rfl rfl) rfl rfl (y_le rfl rfl rfl) (Ls_y (wtd0 rfl) rfl rfl (y_pick_t rfl rfl rfl) (Lmv rfl rfl rfl rfl rfl (Ls_bool 9 rfl (fun hc2 => ?_) (fun hc2 => ?_)))))
    · have hc2 := dT hc2
      refine Ls_s (wtdF rfl rfl rfl) rfl rfl (Ls_s (wtdF rfl rfl rfl) rfl rfl (Ls_s (wtdF rfl rfl rfl) rfl rfl (Ls_s (wtdU rfl rfl rfl) rfl rfl (Ls_s (wtdU rfl rfl rfl) rfl rfl (Ls_s (wtdF rfl rfl rfl) rfl rfl (Ls_y (wtd0 rfl) rfl rfl (y_pick_t rfl rfl rfl) (Las rfl rfl rfl rfl rfl (Ls_nil (Th_n (hK2 _ _ ?_))))))))))
      refine Wp_ret (Fq_ret (Res1 rfl rfl) ?_)
      have he1 : inPart_m c = true := by unfold inPart_m; rewrite [if_pos hc1, if_pos hc2]; rfl
      rewrite [he1]
      exact ⟨rfl, hF⟩
    have hc2 := dF hc2
    refine Ls_y (wtdT rfl rfl rfl) rfl rfl (y_move rfl rfl) (Ls_y (wtdT rfl rfl rfl) rfl rfl (y_ge rfl rfl rfl) (Ls_y (wtdT rfl rfl rfl) rfl rfl (y_move rfl rfl) (Ls_bool 12 rfl (fun hc3 => ?_) (fun hc3 => ?_))))
    · have hc3 := dT hc3
      refine Ls_y (wtdT rfl rfl rfl) rfl rfl (y_move rfl rfl) (Ls_y (wtdT rfl rfl rfl) rfl rfl (y_le rfl rfl rfl) (Ls_y (wtdT rfl rfl rfl) rfl rfl (y_pick_t rfl rfl rfl) (Ls_y (wtd0 rfl) rfl rfl (y_pick_f rfl rfl rfl) (Las rfl rfl rfl rfl rfl (Ls_nil (Th_n (hK2 _ _ ?_)))))))
      refine Wp_ret (Fq_ret (Res1 rfl rfl) ?_)
      have he2 : inPart_m c = (decide (c ≤ 57)) := by unfold inPart_m; rewrite [if_pos hc1, if_neg hc2, if_pos hc3]; rfl
      rewrite [he2]
      exact ⟨rfl, hF⟩
    have hc3 := dF hc3
    refine Ls_s (wtdF rfl rfl rfl) rfl rfl (Ls_s (wtdF rfl rfl rfl) rfl rfl (Ls_y (wtdT rfl rfl rfl) rfl rfl (y_pick_f rfl rfl rfl) (Ls_y (wtd0 rfl) rfl rfl (y_pick_f rfl rfl rfl) (Las rfl rfl rfl rfl rfl (Ls_nil (Th_n (hK2 _ _ ?_)))))))
    refine Wp_ret (Fq_ret (Res1 rfl rfl) ?_)
    have he3 : inPart_m c = false := by unfold inPart_m; rewrite [if_pos hc1, if_neg hc2, if_neg hc3]; rfl
    rewrite [he3]
    exact ⟨rfl, hF⟩
  have hc1 := dF hc1
  refine Ls_s (wtdF rfl rfl rfl) rfl rfl (Ls_s (wtdF rfl rfl rfl) rfl rfl (Ls_y (wtd0 rfl) rfl rfl (y_pick_f rfl rfl rfl) (Lmv rfl rfl rfl rfl rfl (Ls_y (wtdT rfl rfl rfl) rfl rfl (y_move rfl rfl) (Ls_y (wtdT rfl rfl rfl) rfl rfl (y_ge rfl rfl rfl) (Ls_y (wtdT rfl rfl rfl) rfl rfl (y_move rfl rfl) (Ls_bool 12 rfl (fun hc4 => ?_) (fun hc4 => ?_))))))))
  · have hc4 := dT hc4
    refine Ls_y (wtdT rfl rfl rfl) rfl rfl (y_move rfl rfl) (Ls_y (wtdT rfl rfl rfl) rfl rfl (y_le rfl rfl rfl) (Ls_y (wtdT rfl rfl rfl) rfl rfl (y_pick_t rfl rfl rfl) (Ls_y (wtd0 rfl) rfl rfl (y_pick_f rfl rfl rfl) (Las rfl rfl rfl rfl rfl (Ls_nil (Th_n (hK2 _ _ ?_)))))))
    refine Wp_ret (Fq_ret (Res1 rfl rfl) ?_)
    have he4 : inPart_m c = (decide (c ≤ 57)) := by unfold inPart_m; rewrite [if_neg hc1, if_pos hc4]; rfl
    rewrite [he4]
    exact ⟨rfl, hF⟩
  have hc4 := dF hc4
  refine Ls_s (wtdF rfl rfl rfl) rfl rfl (Ls_s (wtdF rfl rfl rfl) rfl rfl (Ls_y (wtdT rfl rfl rfl) rfl rfl (y_pick_f rfl rfl rfl) (Ls_y (wtd0 rfl) rfl rfl (y_pick_f rfl rfl rfl) (Las rfl rfl rfl rfl rfl (Ls_nil (Th_n (hK2 _ _ ?_)))))))
  refine Wp_ret (Fq_ret (Res1 rfl rfl) ?_)
  have he5 : inPart_m c = false := by unfold inPart_m; rewrite [if_neg hc1, if_neg hc4]; rfl
  rewrite [he5]
  exact ⟨rfl, hF⟩

def okey1_m (c : Int) : Bool :=
  if 127 < c then
    true
  else
    !(inPart_m (c % 256))


set_option maxRecDepth 20000 in
theorem okey1_ok (w : World) (c : Int) :
    Fn Tryd.prog 19 [.int .i32 c] w fun v w' => v = .bool (okey1_m c) ∧ Fr [] w w' := by
  refine Fn_of 11 Ty.en_19 Tryd.func19 rfl rfl rfl ?_
  dsimp only [argEnv]
  have st : St [] w [] [] := St.nil (X := []) (w := w) (by simp [Lo])
  have hF := Fr.refl ([]) w
  refine Wp_seq fun K1 hK1 => ?_
  refine Wp_region (Las rfl rfl rfl rfl rfl (Ls_nil (Th_n (hK1 _ _ ?_))))
  refine Wp_seq fun K2 hK2 => ?_
  refine Wp_region (Lmv rfl rfl rfl rfl rfl (Ls_y (wtd0 rfl) rfl rfl (y_gt rfl rfl rfl) (Lmv rfl rfl rfl rfl rfl (Ls_bool 5 rfl (fun hc1 => ?_) (fun hc1 => ?_)))))
  · have hc1 := dT hc1
    refine Ls_s (wtdF rfl rfl rfl) rfl rfl (Ls_s (wtdF rfl rfl rfl) rfl rfl (Ls_s (wtdF rfl rfl rfl) rfl rfl (Ls_s (wtdF rfl rfl rfl) rfl rfl (Ls_y (wtd0 rfl) rfl rfl (y_pick_t rfl rfl rfl) (Las rfl rfl rfl rfl rfl (Ls_nil (Th_n (hK2 _ _ ?_))))))))
    refine Wp_ret (Fq_ret (Res1 rfl rfl) ?_)
    have he1 : okey1_m c = true := by unfold okey1_m; rewrite [if_pos hc1]; rfl
    rewrite [he1]
    exact ⟨rfl, hF⟩
  have hc1 := dF hc1
  refine Ls_y (wtdT rfl rfl rfl) rfl rfl (y_move rfl rfl) (Ls_y (wtdT rfl rfl rfl) rfl rfl (y_cvi (c := c % 256) rfl rfl Tryd.underlying21 Tryd.underlying5 wm_u8) ?_)
  refine Ls_a (wtdT rfl rfl rfl) ?_
  refine a_call rfl rfl rfl rfl (inPart_ok _ (c % 256)) (fun v w1 ⟨hv, hf⟩ => ?_)
  subst hv
  have st := st.keep0 hf
  have hF := hF.step0 hf
  have st : St [] w1 [] [] := st
  refine Ls_y (wtdT rfl rfl rfl) rfl rfl (y_not rfl rfl) (Ls_y (wtd0 rfl) rfl rfl (y_pick_f rfl rfl rfl) (Las rfl rfl rfl rfl rfl (Ls_nil (Th_n (hK2 _ _ ?_)))))
  refine Wp_ret (Fq_ret (Res1 rfl rfl) ?_)
  have he2 : okey1_m c = (!(inPart_m (c % 256))) := by unfold okey1_m; rewrite [if_neg hc1]; rfl
  rewrite [he2]
  exact ⟨rfl, hF⟩

structure AddM where
  tag : TagM
  elem : List UInt8
instance : Inhabited AddM := ⟨⟨default, default⟩⟩
instance : DecidableEq AddM := fun a b => decidable_of_iff (a.tag = b.tag ∧ a.elem = b.elem) (by cases a; cases b; simp)
def addMC (x : AddM) : List Value := [.int .i64 x.tag.id.origin, .int .u32 x.tag.id.seq, .int .i64 x.tag.n, sv x.elem]
theorem addMC_len (x : AddM) : (addMC x).length = 4 := rfl
structure SetM where
  adds : List AddM
  gone : List TagM
instance : Inhabited SetM := ⟨⟨default, default⟩⟩
instance : DecidableEq SetM := fun a b => decidable_of_iff (a.adds = b.adds ∧ a.gone = b.gone) (by cases a; cases b; simp)
def great12_m (s : SetM) : Bool :=
  if 200 < (s.adds.length : Int) then
    true
  else
    decide (200 < (s.gone.length : Int))


set_option maxRecDepth 20000 in
theorem great12_ok (X : List Nat) (w : World) (hX : Lo X w) (s : SetM) (A_s_adds : Option Addr) (c_s_adds : Nat) (A_s_gone : Option Addr) (c_s_gone : Nat) (h_s_adds : Sld X w A_s_adds s.adds.length c_s_adds 4 (s.adds.flatMap addMC)) (h_s_gone : Sld X w A_s_gone s.gone.length c_s_gone 3 (s.gone.flatMap tagMC)) :
    Fn Tryd.prog 15 [.agg #[.slice A_s_adds s.adds.length c_s_adds, .slice A_s_gone s.gone.length c_s_gone]] w fun v w' => v = .bool (great12_m s) ∧ Fr [] w w' := by
  refine Fn_of 13 Ty.en_15 Tryd.func15 rfl rfl rfl ?_
  dsimp only [argEnv]
  have st : St X w [] [kS A_s_adds s.adds.length c_s_adds 4 (s.adds.flatMap addMC), kS A_s_gone s.gone.length c_s_gone 3 (s.gone.flatMap tagMC)] := ((St.nil (X := X) (w := w) hX).addK (kS A_s_adds s.adds.length c_s_adds 4 (s.adds.flatMap addMC)) h_s_adds).addK (kS A_s_gone s.gone.length c_s_gone 3 (s.gone.flatMap tagMC)) h_s_gone
  have hF := Fr.refl ([]) w
  have hleA_s_adds := (st.k (i := 0) rfl).le
  have hleA_s_gone := (st.k (i := 1) rfl).le
  refine Wp_seq fun K1 hK1 => ?_
  refine Wp_region (Ls_a (wtd0 rfl) ?_)
  refine a_box rfl rfl rfl rfl st.hp (fun g1 w1 (hp : Hp w1 [(_, Cl [_, _] _)]) hf hg1 => ?_)
  have st : St X w1 [(_, Cl [_, _] _)] [_, _] := st.push hp hf hg1
  have hg1 := Nat.le_trans hF.size hg1
  have hF := hF.step0 hf
  refine Las rfl rfl rfl rfl rfl (Ls_nil (Th_n (hK1 _ _ ?_)))
  refine Wp_seq fun K2 hK2 => ?_
  refine Wp_region (Ls_y (wtd0 rfl) rfl rfl (y_fld rfl rfl Ty.fo_41_0) (Ls_y (wtd0 rfl) rfl rfl (y_load (i := 0) rfl rfl Ty.pl_39 (fun _ e => e ▸ st.hp) rfl rfl) ?_))
  refine Ls_y (wtd0 rfl) rfl rfl (y_lenl rfl rfl Tryd.underlying39) ?_
  refine Ls_y (wtd0 rfl) rfl rfl (y_gt rfl rfl rfl) (Lmv rfl rfl rfl rfl rfl (Ls_bool 7 rfl (fun hc1 => ?_) (fun hc1 => ?_)))
  · have hc1 := dT hc1
    refine Ls_s (wtdF rfl rfl rfl) rfl rfl (Ls_s (wtdF rfl rfl rfl) rfl rfl (Ls_s (wtdF rfl rfl rfl) rfl rfl (Ls_s (wtdF rfl rfl rfl) rfl rfl (Ls_y (wtd0 rfl) rfl rfl (y_pick_t rfl rfl rfl) (Las rfl rfl rfl rfl rfl (Ls_nil (Th_n (hK2 _ _ ?_))))))))
    refine Wp_ret (Fq_ret (Res1 rfl rfl) ?_)
    have he1 : great12_m s = true := by unfold great12_m; rewrite [if_pos hc1]; rfl
    rewrite [he1]
    exact ⟨rfl, hF⟩
  have hc1 := dF hc1
  refine Ls_y (wtdT rfl rfl rfl) rfl rfl (y_fld rfl rfl Ty.fo_41_1) (Ls_y (wtdT rfl rfl rfl) rfl rfl (y_load (i := 0) rfl rfl Ty.pl_31 (fun _ e => e ▸ st.hp) rfl rfl) ?_)
  refine Ls_y (wtdT rfl rfl rfl) rfl rfl (y_lenl rfl rfl Tryd.underlying31) ?_
  refine Ls_y (wtdT rfl rfl rfl) rfl rfl (y_gt rfl rfl rfl) (Ls_y (wtd0 rfl) rfl rfl (y_pick_f rfl rfl rfl) (Las rfl rfl rfl rfl rfl (Ls_nil (Th_n (hK2 _ _ ?_)))))
  refine Wp_ret (Fq_ret (Res1 rfl rfl) ?_)
  have he2 : great12_m s = (decide (200 < (s.gone.length : Int))) := by unfold great12_m; rewrite [if_neg hc1]; rfl
  rewrite [he2]
  exact ⟨rfl, hF⟩

structure PutM where
  tag : TagM
  field : List UInt8
  val : Int
  atF : StampM
instance : Inhabited PutM := ⟨⟨default, default, default, default⟩⟩
instance : DecidableEq PutM := fun a b => decidable_of_iff (a.tag = b.tag ∧ a.field = b.field ∧ a.val = b.val ∧ a.atF = b.atF) (by cases a; cases b; simp)
def putMC (x : PutM) : List Value := [.int .i64 x.tag.id.origin, .int .u32 x.tag.id.seq, .int .i64 x.tag.n, sv x.field, .int .i64 x.val, .int .u32 x.atF.time, .int .i64 x.atF.origin]
theorem putMC_len (x : PutM) : (putMC x).length = 7 := rfl
structure MapM where
  puts : List PutM
  gone : List TagM
instance : Inhabited MapM := ⟨⟨default, default⟩⟩
instance : DecidableEq MapM := fun a b => decidable_of_iff (a.puts = b.puts ∧ a.gone = b.gone) (by cases a; cases b; simp)
def great13_m (s : MapM) : Bool :=
  if 100 < (s.puts.length : Int) then
    true
  else
    decide (200 < (s.gone.length : Int))


set_option maxRecDepth 20000 in
theorem great13_ok (X : List Nat) (w : World) (hX : Lo X w) (s : MapM) (A_s_puts : Option Addr) (c_s_puts : Nat) (A_s_gone : Option Addr) (c_s_gone : Nat) (h_s_puts : Sld X w A_s_puts s.puts.length c_s_puts 7 (s.puts.flatMap putMC)) (h_s_gone : Sld X w A_s_gone s.gone.length c_s_gone 3 (s.gone.flatMap tagMC)) :
    Fn Tryd.prog 16 [.agg #[.slice A_s_puts s.puts.length c_s_puts, .slice A_s_gone s.gone.length c_s_gone]] w fun v w' => v = .bool (great13_m s) ∧ Fr [] w w' := by
  refine Fn_of 13 Ty.en_16 Tryd.func16 rfl rfl rfl ?_
  dsimp only [argEnv]
  have st : St X w [] [kS A_s_puts s.puts.length c_s_puts 7 (s.puts.flatMap putMC), kS A_s_gone s.gone.length c_s_gone 3 (s.gone.flatMap tagMC)] := ((St.nil (X := X) (w := w) hX).addK (kS A_s_puts s.puts.length c_s_puts 7 (s.puts.flatMap putMC)) h_s_puts).addK (kS A_s_gone s.gone.length c_s_gone 3 (s.gone.flatMap tagMC)) h_s_gone
  have hF := Fr.refl ([]) w
  have hleA_s_puts := (st.k (i := 0) rfl).le
  have hleA_s_gone := (st.k (i := 1) rfl).le
  refine Wp_seq fun K1 hK1 => ?_
  refine Wp_region (Ls_a (wtd0 rfl) ?_)
  refine a_box rfl rfl rfl rfl st.hp (fun g1 w1 (hp : Hp w1 [(_, Cl [_, _] _)]) hf hg1 => ?_)
  have st : St X w1 [(_, Cl [_, _] _)] [_, _] := st.push hp hf hg1
  have hg1 := Nat.le_trans hF.size hg1
  have hF := hF.step0 hf
  refine Las rfl rfl rfl rfl rfl (Ls_nil (Th_n (hK1 _ _ ?_)))
  refine Wp_seq fun K2 hK2 => ?_
  refine Wp_region (Ls_y (wtd0 rfl) rfl rfl (y_fld rfl rfl Ty.fo_44_0) (Ls_y (wtd0 rfl) rfl rfl (y_load (i := 0) rfl rfl Ty.pl_42 (fun _ e => e ▸ st.hp) rfl rfl) ?_))
  refine Ls_y (wtd0 rfl) rfl rfl (y_lenl rfl rfl Tryd.underlying42) ?_
  refine Ls_y (wtd0 rfl) rfl rfl (y_gt rfl rfl rfl) (Lmv rfl rfl rfl rfl rfl (Ls_bool 7 rfl (fun hc1 => ?_) (fun hc1 => ?_)))
  · have hc1 := dT hc1
    refine Ls_s (wtdF rfl rfl rfl) rfl rfl (Ls_s (wtdF rfl rfl rfl) rfl rfl (Ls_s (wtdF rfl rfl rfl) rfl rfl (Ls_s (wtdF rfl rfl rfl) rfl rfl (Ls_y (wtd0 rfl) rfl rfl (y_pick_t rfl rfl rfl) (Las rfl rfl rfl rfl rfl (Ls_nil (Th_n (hK2 _ _ ?_))))))))
    refine Wp_ret (Fq_ret (Res1 rfl rfl) ?_)
    have he1 : great13_m s = true := by unfold great13_m; rewrite [if_pos hc1]; rfl
    rewrite [he1]
    exact ⟨rfl, hF⟩
  have hc1 := dF hc1
  refine Ls_y (wtdT rfl rfl rfl) rfl rfl (y_fld rfl rfl Ty.fo_44_1) (Ls_y (wtdT rfl rfl rfl) rfl rfl (y_load (i := 0) rfl rfl Ty.pl_31 (fun _ e => e ▸ st.hp) rfl rfl) ?_)
  refine Ls_y (wtdT rfl rfl rfl) rfl rfl (y_lenl rfl rfl Tryd.underlying31) ?_
  refine Ls_y (wtdT rfl rfl rfl) rfl rfl (y_gt rfl rfl rfl) (Ls_y (wtd0 rfl) rfl rfl (y_pick_f rfl rfl rfl) (Las rfl rfl rfl rfl rfl (Ls_nil (Th_n (hK2 _ _ ?_)))))
  refine Wp_ret (Fq_ret (Res1 rfl rfl) ?_)
  have he2 : great13_m s = (decide (200 < (s.gone.length : Int))) := by unfold great13_m; rewrite [if_neg hc1]; rfl
  rewrite [he2]
  exact ⟨rfl, hF⟩

structure RegM where
  val : Int
  atF : StampM
instance : Inhabited RegM := ⟨⟨default, default⟩⟩
instance : DecidableEq RegM := fun a b => decidable_of_iff (a.val = b.val ∧ a.atF = b.atF) (by cases a; cases b; simp)
def regMC (x : RegM) : List Value := [.int .i64 x.val, .int .u32 x.atF.time, .int .i64 x.atF.origin]
theorem regMC_len (x : RegM) : (regMC x).length = 3 := rfl
structure NumM where
  plus : Int
  minus : Int
instance : Inhabited NumM := ⟨⟨default, default⟩⟩
instance : DecidableEq NumM := fun a b => decidable_of_iff (a.plus = b.plus ∧ a.minus = b.minus) (by cases a; cases b; simp)
def numMC (x : NumM) : List Value := [.int .i64 x.plus, .int .i64 x.minus]
theorem numMC_len (x : NumM) : (numMC x).length = 2 := rfl
structure ObjM where
  kind : Int
  reg : RegM
  num : NumM
  setF : SetM
  map : MapM
instance : Inhabited ObjM := ⟨⟨default, default, default, default, default⟩⟩
instance : DecidableEq ObjM := fun a b => decidable_of_iff (a.kind = b.kind ∧ a.reg = b.reg ∧ a.num = b.num ∧ a.setF = b.setF ∧ a.map = b.map) (by cases a; cases b; simp)
def great14_m (s : ObjM) (e : EffectM) : Bool :=
  if (great12_m s.setF) = true then
    true
  else
    if (great13_m s.map) = true then
      true
    else
      if 100 < (e.tags.length : Int) then
        true
      else
        decide (1000 < (e.name.length : Int))


set_option maxRecDepth 20000 in
theorem great14_ok (X : List Nat) (w : World) (hX : Lo X w) (s : ObjM) (A_s_setF_adds : Option Addr) (c_s_setF_adds : Nat) (A_s_setF_gone : Option Addr) (c_s_setF_gone : Nat) (A_s_map_puts : Option Addr) (c_s_map_puts : Nat) (A_s_map_gone : Option Addr) (c_s_map_gone : Nat) (e : EffectM) (A_e_tags : Option Addr) (c_e_tags : Nat) (h_s_setF_adds : Sld X w A_s_setF_adds s.setF.adds.length c_s_setF_adds 4 (s.setF.adds.flatMap addMC)) (h_s_setF_gone : Sld X w A_s_setF_gone s.setF.gone.length c_s_setF_gone 3 (s.setF.gone.flatMap tagMC)) (h_s_map_puts : Sld X w A_s_map_puts s.map.puts.length c_s_map_puts 7 (s.map.puts.flatMap putMC)) (h_s_map_gone : Sld X w A_s_map_gone s.map.gone.length c_s_map_gone 3 (s.map.gone.flatMap tagMC)) (h_e_tags : Sld X w A_e_tags e.tags.length c_e_tags 3 (e.tags.flatMap tagMC)) :
    Fn Tryd.prog 4 [.agg #[.int .i64 s.kind, .int .i64 s.reg.val, .int .u32 s.reg.atF.time, .int .i64 s.reg.atF.origin, .int .i64 s.num.plus, .int .i64 s.num.minus, .slice A_s_setF_adds s.setF.adds.length c_s_setF_adds, .slice A_s_setF_gone s.setF.gone.length c_s_setF_gone, .slice A_s_map_puts s.map.puts.length c_s_map_puts, .slice A_s_map_gone s.map.gone.length c_s_map_gone], .agg #[.int .i64 e.act, sv e.name, .int .i64 e.val, .int .i64 e.tag.id.origin, .int .u32 e.tag.id.seq, .int .i64 e.tag.n, .int .u32 e.atF.time, .int .i64 e.atF.origin, .slice A_e_tags e.tags.length c_e_tags]] w fun v w' => v = .bool (great14_m s e) ∧ Fr [] w w' := by
  refine Fn_of 25 Ty.en_4 Tryd.func4 rfl rfl rfl ?_
  dsimp only [argEnv]
  have st : St X w [] [kS A_s_setF_adds s.setF.adds.length c_s_setF_adds 4 (s.setF.adds.flatMap addMC), kS A_s_setF_gone s.setF.gone.length c_s_setF_gone 3 (s.setF.gone.flatMap tagMC), kS A_s_map_puts s.map.puts.length c_s_map_puts 7 (s.map.puts.flatMap putMC), kS A_s_map_gone s.map.gone.length c_s_map_gone 3 (s.map.gone.flatMap tagMC), kS A_e_tags e.tags.length c_e_tags 3 (e.tags.flatMap tagMC)] := (((((St.nil (X := X) (w := w) hX).addK (kS A_s_setF_adds s.setF.adds.length c_s_setF_adds 4 (s.setF.adds.flatMap addMC)) h_s_setF_adds).addK (kS A_s_setF_gone s.setF.gone.length c_s_setF_gone 3 (s.setF.gone.flatMap tagMC)) h_s_setF_gone).addK (kS A_s_map_puts s.map.puts.length c_s_map_puts 7 (s.map.puts.flatMap putMC)) h_s_map_puts).addK (kS A_s_map_gone s.map.gone.length c_s_map_gone 3 (s.map.gone.flatMap tagMC)) h_s_map_gone).addK (kS A_e_tags e.tags.length c_e_tags 3 (e.tags.flatMap tagMC)) h_e_tags
  have hF := Fr.refl ([]) w
  have hleA_s_setF_adds := (st.k (i := 0) rfl).le
  have hleA_s_setF_gone := (st.k (i := 1) rfl).le
  have hleA_s_map_puts := (st.k (i := 2) rfl).le
  have hleA_s_map_gone := (st.k (i := 3) rfl).le
  have hleA_e_tags := (st.k (i := 4) rfl).le
  refine Wp_seq fun K1 hK1 => ?_
  refine Wp_region (Ls_a (wtd0 rfl) ?_)
  refine a_box rfl rfl rfl rfl st.hp (fun g1 w1 (hp : Hp w1 [(_, Cl [_, _, _, _, _, _, _, _, _, _] _)]) hf hg1 => ?_)
  have st : St X w1 [(_, Cl [_, _, _, _, _, _, _, _, _, _] _)] [_, _, _, _, _] := st.push hp hf hg1
  have hg1 := Nat.le_trans hF.size hg1
  have hF := hF.step0 hf
  refine Ls_a (wtd0 rfl) ?_
  refine a_box rfl rfl rfl rfl st.hp (fun g2 w2 (hp : Hp w2 [(_, Cl [_, _, _, _, _, _, _, _, _, _] _), (_, Cl [_, _, _, _, _, _, _, _, _] _)]) hf hg2 => ?_)
  have st : St X w2 [(_, Cl [_, _, _, _, _, _, _, _, _, _] _), (_, Cl [_, _, _, _, _, _, _, _, _] _)] [_, _, _, _, _] := st.push hp hf hg2
  have hg2 := Nat.le_trans hF.size hg2
  have hF := hF.step0 hf
  refine Las rfl rfl rfl rfl rfl (Ls_nil (Th_n (hK1 _ _ ?_)))
  refine Wp_seq fun K2 hK2 => ?_
  refine Wp_region (Ls_y (wtd0 rfl) rfl rfl (y_fld rfl rfl Ty.fo_46_3) (Ls_y (wtd0 rfl) rfl rfl (y_loadm (i := 0) rfl rfl Ty.ag_41 (fun _ e => e ▸ st.hp) rfl rfl rfl) ?_))
  refine Ls_a (wtd0 rfl) ?_
  refine a_call rfl rfl rfl rfl (great12_ok (keys (hOf st) ++ X) _ st.Lo s.setF A_s_setF_adds c_s_setF_adds A_s_setF_gone c_s_setF_gone (st.k (i := 0) rfl) (st.k (i := 1) rfl)) (fun v w3 ⟨hv, hf⟩ => ?_)
  subst hv
  have st := st.keep0 hf
  have hF := hF.step0 hf
  have st : St X w3 [(_, Cl [_, _, _, _, _, _, _, _, _, _] _), (_, Cl [_, _, _, _, _, _, _, _, _] _)] [_, _, _, _, _] := st
  refine Lmv rfl rfl rfl rfl rfl (Ls_bool 8 rfl (fun hc1 => ?_) (fun hc1 => ?_))
  · refine Ls_s (wtdF rfl rfl rfl) rfl rfl (Ls_s (wtdF rfl rfl rfl) rfl rfl (Ls_s (wtdF rfl rfl rfl) rfl rfl (Ls_y (wtd0 rfl) rfl rfl (y_pick_t rfl rfl rfl) (Lmv rfl rfl rfl rfl rfl (Ls_s (wtdF rfl rfl rfl) rfl rfl (Ls_s (wtdF rfl rfl rfl) rfl rfl (Ls_s (wtdF rfl rfl rfl) rfl rfl (Ls_s (wtdF rfl rfl rfl) rfl rfl (Ls_y (wtd0 rfl) rfl rfl (y_pick_t rfl rfl rfl) (Lmv rfl rfl rfl rfl rfl (Ls_s (wtdF rfl rfl rfl) rfl rfl (Ls_s (wtdF rfl rfl rfl) rfl rfl (Ls_s (wtdF rfl rfl rfl) rfl rfl (Ls_s (wtdF rfl rfl rfl) rfl rfl (Ls_y (wtd0 rfl) rfl rfl (y_pick_t rfl rfl rfl) (Las rfl rfl rfl rfl rfl (Ls_nil (Th_n (hK2 _ _ ?_)))))))))))))))))))
    refine Wp_ret (Fq_ret (Res1 rfl rfl) ?_)
    have he1 : great14_m s e = true := by unfold great14_m; rewrite [if_pos hc1]; rfl
    rewrite [he1]
    exact ⟨rfl, hF⟩
  have hc1 := bF hc1
  refine Ls_y (wtdT rfl rfl rfl) rfl rfl (y_fld rfl rfl Ty.fo_46_4) (Ls_y (wtdT rfl rfl rfl) rfl rfl (y_loadm (i := 0) rfl rfl Ty.ag_44 (fun _ e => e ▸ st.hp) rfl rfl rfl) ?_)
  refine Ls_a (wtdT rfl rfl rfl) ?_
  refine a_call rfl rfl rfl rfl (great13_ok (keys (hOf st) ++ X) _ st.Lo s.map A_s_map_puts c_s_map_puts A_s_map_gone c_s_map_gone (st.k (i := 2) rfl) (st.k (i := 3) rfl)) (fun v w4 ⟨hv, hf⟩ => ?_)
  subst hv
  have st := st.keep0 hf
  have hF := hF.step0 hf
  have st : St X w4 [(_, Cl [_, _, _, _, _, _, _, _, _, _] _), (_, Cl [_, _, _, _, _, _, _, _, _] _)] [_, _, _, _, _] := st
  refine Ls_y (wtd0 rfl) rfl rfl (y_pick_f rfl rfl rfl) (Lmv rfl rfl rfl rfl rfl (Ls_bool 13 rfl (fun hc2 => ?_) (fun hc2 => ?_)))
  · refine Ls_s (wtdF rfl rfl rfl) rfl rfl (Ls_s (wtdF rfl rfl rfl) rfl rfl (Ls_s (wtdF rfl rfl rfl) rfl rfl (Ls_s (wtdF rfl rfl rfl) rfl rfl (Ls_y (wtd0 rfl) rfl rfl (y_pick_t rfl rfl rfl) (Lmv rfl rfl rfl rfl rfl (Ls_s (wtdF rfl rfl rfl) rfl rfl (Ls_s (wtdF rfl rfl rfl) rfl rfl (Ls_s (wtdF rfl rfl rfl) rfl rfl (Ls_s (wtdF rfl rfl rfl) rfl rfl (Ls_y (wtd0 rfl) rfl rfl (y_pick_t rfl rfl rfl) (Las rfl rfl rfl rfl rfl (Ls_nil (Th_n (hK2 _ _ ?_))))))))))))))
    refine Wp_ret (Fq_ret (Res1 rfl rfl) ?_)
    have he2 : great14_m s e = true := by unfold great14_m; rewrite [if_neg hc1, if_pos hc2]; rfl
    rewrite [he2]
    exact ⟨rfl, hF⟩
  have hc2 := bF hc2
  refine Ls_y (wtdT rfl rfl rfl) rfl rfl (y_fld rfl rfl Ty.fo_33_5) (Ls_y (wtdT rfl rfl rfl) rfl rfl (y_load (i := 1) rfl rfl Ty.pl_31 (fun _ e => e ▸ st.hp) rfl rfl) ?_)
  refine Ls_y (wtdT rfl rfl rfl) rfl rfl (y_lenl rfl rfl Tryd.underlying31) ?_
  refine Ls_y (wtdT rfl rfl rfl) rfl rfl (y_gt rfl rfl rfl) (Ls_y (wtd0 rfl) rfl rfl (y_pick_f rfl rfl rfl) (Lmv rfl rfl rfl rfl rfl (Ls_bool 19 rfl (fun hc3 => ?_) (fun hc3 => ?_))))
  · have hc3 := dT hc3
    refine Ls_s (wtdF rfl rfl rfl) rfl rfl (Ls_s (wtdF rfl rfl rfl) rfl rfl (Ls_s (wtdF rfl rfl rfl) rfl rfl (Ls_s (wtdF rfl rfl rfl) rfl rfl (Ls_y (wtd0 rfl) rfl rfl (y_pick_t rfl rfl rfl) (Las rfl rfl rfl rfl rfl (Ls_nil (Th_n (hK2 _ _ ?_))))))))
    refine Wp_ret (Fq_ret (Res1 rfl rfl) ?_)
    have he3 : great14_m s e = true := by unfold great14_m; rewrite [if_neg hc1, if_neg hc2, if_pos hc3]; rfl
    rewrite [he3]
    exact ⟨rfl, hF⟩
  have hc3 := dF hc3
  refine Ls_y (wtdT rfl rfl rfl) rfl rfl (y_fld rfl rfl Ty.fo_33_1) (Ls_y (wtdT rfl rfl rfl) rfl rfl (y_load (i := 1) rfl rfl Ty.pl_9 (fun _ e => e ▸ st.hp) rfl rfl) ?_)
  refine Ls_y (wtdT rfl rfl rfl) rfl rfl (y_lens rfl rfl Tryd.underlying9) ?_
  refine Ls_y (wtdT rfl rfl rfl) rfl rfl (y_gt rfl rfl rfl) (Ls_y (wtd0 rfl) rfl rfl (y_pick_f rfl rfl rfl) (Las rfl rfl rfl rfl rfl (Ls_nil (Th_n (hK2 _ _ ?_)))))
  refine Wp_ret (Fq_ret (Res1 rfl rfl) ?_)
  have he4 : great14_m s e = (decide (1000 < (e.name.length : Int))) := by unfold great14_m; rewrite [if_neg hc1, if_neg hc2, if_neg hc3]; rfl
  rewrite [he4]
  exact ⟨rfl, hF⟩

def op14_m (o : OpM) : OpM :=
  o


set_option maxRecDepth 20000 in
theorem op14_ok (w : World) (o : OpM) :
    Fn Tryd.prog 10 [.agg (opMC o).toArray] w fun v w' => v = .agg (opMC (op14_m o)).toArray ∧ Fr [] w w' := by
  refine Fn_of 10 Ty.en_10 Tryd.func10 rfl rfl rfl ?_
  dsimp only [argEnv]
  have st : St [] w [] [] := St.nil (X := []) (w := w) (by simp [Lo])
  have hF := Fr.refl ([]) w
  refine Wp_seq fun K1 hK1 => ?_
  refine Wp_region (Ls_a (wtd0 rfl) ?_)
  refine a_box rfl rfl rfl rfl st.hp (fun g1 w1 (hp : Hp w1 [(_, Cl [_, _, _] _)]) hf hg1 => ?_)
  have st : St [] w1 [(_, Cl [_, _, _] _)] [] := st.push hp hf hg1
  have hg1 := Nat.le_trans hF.size hg1
  have hF := hF.step0 hf
  refine Ls_a (wtd0 rfl) ?_
  refine a_alloc rfl rfl rfl Ty.zc_52 st.hp (fun g2 w2 (hp : Hp w2 [(_, Cl [_, _, _] _), (_, Cl [_, _, _] _)]) hf hg2 => ?_)
  have st : St [] w2 [(_, Cl [_, _, _] _), (_, Cl [_, _, _] _)] [] := st.push hp hf hg2
  have hg2 := Nat.le_trans hF.size hg2
  have hF := hF.step0 hf
  refine Ls_nil (Th_n (hK1 _ _ ?_))
  refine Wp_seq fun K2 hK2 => ?_
  refine Wp_region (Ls_y (wtd0 rfl) rfl rfl (y_fld rfl rfl Ty.fo_23_0) (Ls_y (wtd0 rfl) rfl rfl (y_load (i := 0) rfl rfl Ty.pl_3 (fun _ e => e ▸ st.hp) rfl rfl) ?_))
  refine Ls_y (wtd0 rfl) rfl rfl (y_fld rfl rfl Ty.fo_23_1) (Ls_y (wtd0 rfl) rfl rfl (y_load (i := 0) rfl rfl Ty.pl_9 (fun _ e => e ▸ st.hp) rfl rfl) ?_)
  refine Ls_y (wtd0 rfl) rfl rfl (y_fld rfl rfl Ty.fo_23_2) (Ls_y (wtd0 rfl) rfl rfl (y_load (i := 0) rfl rfl Ty.pl_2 (fun _ e => e ▸ st.hp) rfl rfl) ?_)
  refine Ls_y (wtd0 rfl) rfl rfl (y_build (cells := [_, _, _]) rfl rfl Ty.zc_52 Ty.ps_52 rfl) ?_
  refine Ls_a (wtd0 rfl) ?_
  refine a_storew (i := 1) rfl rfl rfl rfl Ty.sz_52 rfl (by first | assumption | (simp [Value.oneCell']; done)) st.hp rfl rfl (fun w3 (hp : Hp w3 [(_, Cl [_, _, _] _), (_, Cl [_, _, _] _)]) hf _ => ?_)
  have st : St [] w3 [(_, Cl [_, _, _] _), (_, Cl [_, _, _] _)] [] := st.set (i := 1) rfl hp hf
  have hF := hF.step hf (by intro y hy; simp only [List.mem_cons, List.not_mem_nil, or_false] at hy; subst hy; first | (exact Or.inr (by omega)) | (exact Or.inl (kin0 _ _)) | (exact Or.inl (by simp)))
  refine Ls_nil (Th_n (hK2 _ _ ?_))
  refine Wp_ret (Fq_ret (ResN1 rfl (rvc (i := 1) rfl Ty.ag_52 st.hp rfl rfl)) ?_)
  have he1 : op14_m o = o := by unfold op14_m; rfl
  rewrite [he1]
  exact ⟨rfl, hF⟩

def eff14_m (e : EffectM) : EffectM :=
  (⟨e.act, e.name, e.val, e.tag, e.atF, ([] : List TagM) ++ e.tags⟩ : EffectM)


set_option maxRecDepth 20000 in
theorem eff14_ok (X : List Nat) (w : World) (hX : Lo X w) (e : EffectM) (A_e_tags : Option Addr) (c_e_tags : Nat) (h_e_tags : Sld X w A_e_tags e.tags.length c_e_tags 3 (e.tags.flatMap tagMC)) (h1 : e.tags.length ≤ 1000000) :
    Fn Tryd.prog 13 [.agg #[.int .i64 e.act, sv e.name, .int .i64 e.val, .int .i64 e.tag.id.origin, .int .u32 e.tag.id.seq, .int .i64 e.tag.n, .int .u32 e.atF.time, .int .i64 e.atF.origin, .slice A_e_tags e.tags.length c_e_tags]] w fun v w' => ∃ (Ar_tags : Option Addr) (cr_tags : Nat), v = .agg #[.int .i64 ((eff14_m e).act), sv ((eff14_m e).name), .int .i64 ((eff14_m e).val), .int .i64 (((eff14_m e).tag).id.origin), .int .u32 (((eff14_m e).tag).id.seq), .int .i64 (((eff14_m e).tag).n), .int .u32 (((eff14_m e).atF).time), .int .i64 (((eff14_m e).atF).origin), .slice Ar_tags ((eff14_m e).tags).length cr_tags] ∧ Sld X w' Ar_tags ((eff14_m e).tags).length cr_tags 3 (((eff14_m e).tags).flatMap tagMC) ∧ Fr [] w w' := by
  refine Fn_of 18 Ty.en_13 Tryd.func13 rfl rfl rfl ?_
  dsimp only [argEnv]
  have st : St X w [] [kS A_e_tags e.tags.length c_e_tags 3 (e.tags.flatMap tagMC)] := (St.nil (X := X) (w := w) hX).addK (kS A_e_tags e.tags.length c_e_tags 3 (e.tags.flatMap tagMC)) h_e_tags
  have hF := Fr.refl ([]) w
  have hleA_e_tags := (st.k (i := 0) rfl).le
  refine Wp_seq fun K1 hK1 => ?_
  refine Wp_region (Ls_a (wtd0 rfl) ?_)
  refine a_box rfl rfl rfl rfl st.hp (fun g1 w1 (hp : Hp w1 [(_, Cl [_, _, _, _, _, _, _, _, _] _)]) hf hg1 => ?_)
  have st : St X w1 [(_, Cl [_, _, _, _, _, _, _, _, _] _)] [_] := st.push hp hf hg1
  have hg1 := Nat.le_trans hF.size hg1
  have hF := hF.step0 hf
  refine Ls_a (wtd0 rfl) ?_
  refine a_alloc rfl rfl rfl Ty.zc_56 st.hp (fun g2 w2 (hp : Hp w2 [(_, Cl [_, _, _, _, _, _, _, _, _] _), (_, Cl [_, _, _, _, _, _, _, _, _] _)]) hf hg2 => ?_)
  have st : St X w2 [(_, Cl [_, _, _, _, _, _, _, _, _] _), (_, Cl [_, _, _, _, _, _, _, _, _] _)] [_] := st.push hp hf hg2
  have hg2 := Nat.le_trans hF.size hg2
  have hF := hF.step0 hf
  refine Ls_nil (Th_n (hK1 _ _ ?_))
  refine Wp_seq fun K2 hK2 => ?_
  refine Wp_planF (fun W => St X W (pickL (hOf st) [0, 1]) (kOf st)) [(true, 0), (true, 1), (true, 2), (true, 3), (true, 4), (true, 5), (true, 6), (true, 7), (true, 8), (true, 9), (true, 11), (true, 12), (false, 10), (false, 13), (true, 14)] 15 Ty.mx_0 (by kernel_rfl) (by kernel_rfl) (by kernel_rfl) rfl ((st.picks [0, 1] (by decide)).drew) ?_
  have st := st.drew
  have hF := hF.step0 (Fr.drew _)
  refine Pl_y rfl (wtd0 rfl) rfl rfl (y_fld rfl rfl Ty.fo_33_0) (Pl_y rfl (wtd0 rfl) rfl rfl (y_load (i := 0) rfl rfl Ty.pl_3 (fun _ h => h.hp) rfl rfl) ?_)
  refine Pl_y rfl (wtd0 rfl) rfl rfl (y_fld rfl rfl Ty.fo_33_1) (Pl_y rfl (wtd0 rfl) rfl rfl (y_load (i := 0) rfl rfl Ty.pl_9 (fun _ h => h.hp) rfl rfl) ?_)
  refine Pl_y rfl (wtd0 rfl) rfl rfl (y_fld rfl rfl Ty.fo_33_2) (Pl_y rfl (wtd0 rfl) rfl rfl (y_load (i := 0) rfl rfl Ty.pl_2 (fun _ h => h.hp) rfl rfl) ?_)
  refine Pl_y rfl (wtd0 rfl) rfl rfl (y_fld rfl rfl Ty.fo_33_3) (Pl_y rfl (wtd0 rfl) rfl rfl (y_loadm (i := 0) rfl rfl Ty.ag_28 (fun _ h => h.hp) rfl rfl rfl) ?_)
  refine Pl_y rfl (wtd0 rfl) rfl rfl (y_fld rfl rfl Ty.fo_33_4) (Pl_y rfl (wtd0 rfl) rfl rfl (y_loadm (i := 0) rfl rfl Ty.ag_30 (fun _ h => h.hp) rfl rfl rfl) ?_)
  refine Pl_y rfl (wtd0 rfl) rfl rfl (y_fld rfl rfl Ty.fo_33_5) (Pl_y rfl (wtd0 rfl) rfl rfl (y_load (i := 0) rfl rfl Ty.pl_31 (fun _ h => h.hp) rfl rfl) ?_)
  refine Pl_a rfl (wtd0 rfl) (by rfl) ?_
  refine a_bsl0 rfl rfl rfl Ty.es_31 Ty.zc_28 st.hp (fun g3 w3 (hp : Hp w3 [(_, Cl [_, _, _, _, _, _, _, _, _] _), (_, Cl [_, _, _, _, _, _, _, _, _] _), _]) hf hg3 => ?_)
  have how1 : Ow (some ⟨g3, 0, none⟩) ([] : List TagM).length 0 3 (([] : List TagM).flatMap tagMC) [] := ⟨rfl, .inr ⟨g3, rfl, rfl, Nat.le_refl _, by unfold maxLen; decide⟩⟩
  have st : St X w3 [(_, Cl [_, _, _, _, _, _, _, _, _] _), (_, Cl [_, _, _, _, _, _, _, _, _] _), _] [_] := st.push hp hf hg3
  have st : St X w3 [(_, Cl [_, _, _, _, _, _, _, _, _] _), (_, Cl [_, _, _, _, _, _, _, _, _] _), _] [_] := st
  have hg3 := Nat.le_trans hF.size hg3
  have hF := hF.step0 hf
  have hnew1 : ∀ g, blkOf (some ⟨g3, 0, none⟩) = some g → g ∈ ([]) ∨ w.heap.size ≤ g := fun g hg => by simp [blkOf] at hg; subst hg; exact .inr hg3
  refine ⟨(st.picks [0, 1] (by decide)).takeK 1, ?_⟩
  refine Pl_a rfl (wtd0 rfl) (by rfl) ?_
  refine a_appM (i := 2) (xs := ([] : List TagM)) (ys := e.tags) (enc := tagMC) rfl rfl rfl rfl rfl rfl Ty.es_31 Ty.zc_28 rfl Ty.by_28 (by decide) (fun _ => rfl) how1 st.hp rfl (st.k (i := 0) rfl).rd.src (fun h => by have := (st.k (i := 0) rfl).rd; exact rd_none this h (st.k (i := 0) rfl).len (by decide)) (by intro x v hv; simp only [tagMC, List.mem_cons, List.not_mem_nil, or_false] at hv; rcases hv with rfl | rfl | rfl <;> rfl) (by first | (unfold maxLen; omega) | (simp [maxLen]; omega)) (by first | (unfold maxLen; omega) | (simp [maxLen]; omega)) (fun Aa1 ca1 sp1 w4 how2 (hp : Hp w4 [(_, Cl [_, _, _, _, _, _, _, _, _] _), (_, Cl [_, _, _, _, _, _, _, _, _] _), _]) hf hnw1 => ?_)
  have st : St X w4 [(_, Cl [_, _, _, _, _, _, _, _, _] _), (_, Cl [_, _, _, _, _, _, _, _, _] _), _] [_] := st.setAny (i := 2) rfl hp hf hnw1
  have st : St X w4 [(_, Cl [_, _, _, _, _, _, _, _, _] _), (_, Cl [_, _, _, _, _, _, _, _, _] _), _] [_] := st
  have hnew2 : ∀ g, blkOf Aa1 = some g → g ∈ ([]) ∨ w.heap.size ≤ g := fun g hg => (hnw1 g hg).elim (hnew1 g) (fun h => .inr (Nat.le_trans hF.size h))
  have hF := hF.step hf (fun y hy => hnew1 y (by simpa using hy))
  refine ⟨(st.picks [0, 1] (by decide)).takeK 1, ?_⟩
  refine Pl_y rfl (wtd0 rfl) rfl rfl (y_build (cells := [_, _, _, _, _, _, _, _, _]) rfl rfl Ty.zc_56 Ty.ps_56 rfl) ?_
  refine Pl_nil (Fin_a rfl (wtd0 rfl) ?_)
  refine a_storew (i := 1) rfl rfl rfl rfl Ty.sz_56 rfl (by first | assumption | (simp [Value.oneCell']; done)) st.hp rfl rfl (fun w5 (hp : Hp w5 [(_, Cl [_, _, _, _, _, _, _, _, _] _), (_, Cl [_, _, _, _, _, _, _, _, _] _), _]) hf _ => ?_)
  have st : St X w5 [(_, Cl [_, _, _, _, _, _, _, _, _] _), (_, Cl [_, _, _, _, _, _, _, _, _] _), _] [_] := st.set (i := 1) rfl hp hf
  have hF := hF.step hf (by intro y hy; simp only [List.mem_cons, List.not_mem_nil, or_false] at hy; subst hy; first | (exact Or.inr (by omega)) | (exact Or.inl (kin0 _ _)) | (exact Or.inl (by simp)))
  refine id (Th_n (hK2 _ _ ?_))
  have st : St X w5 [(_, Cl [_, _, _, _, _, _, _, _, _] _), (_, Cl [_, _, _, _, _, _, _, _, _] _)] [_, _] := st.freeze (i := 2) [0, 1] (by decide) rfl how2 (by decide)
  refine Wp_ret (Fq_ret (ResN1 rfl (rvc (i := 1) rfl Ty.ag_56 st.hp rfl rfl)) ?_)
  have he1 : eff14_m e = (⟨e.act, e.name, e.val, e.tag, e.atF, ([] : List TagM) ++ e.tags⟩ : EffectM) := by unfold eff14_m; rfl
  rewrite [he1]
  exact ⟨_, _, rfl, st.out (i := 1) rfl, hF⟩

end Go.Proofs.YtmajjdpioillaaaDoor

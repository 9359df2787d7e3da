/- Walks printed by gen2.py out of our own specifications: what the functions named below do. -/
import Derived.Test.YtmajjdpioillaaaO2
set_option linter.unusedSimpArgs false
set_option linter.unusedVariables false
namespace Go.Proofs.Ytmajjdpioillaaa
open Go.RowKit

def mnotTag_m (t : TagM) : Bool :=
  (icheckTag_m t) != 0


set_option maxRecDepth 20000 in
theorem mnotTag_ok (w : World) (t : TagM) :
    Fn Try.prog 82 [.agg (tagMC t).toArray] w fun v w' => v = .bool (mnotTag_m t) ∧ Fr [] w w' := by
  refine Fn_of 6 Ty.en_82 Try.func82 rfl rfl rfl ?_
  dsimp only [argEnv]
  have st : St [] w [] [] := St.nil (X := []) (w := w) (by simp [Lo])
  have hF := Fr.refl ([]) w
  refine Wp_seq fun K1 hK1 => ?_
  refine Wp_region (Ls_a (wtd0 rfl) ?_)
  refine a_box rfl rfl rfl rfl st.hp (fun g1 w1 (hp : Hp w1 [(_, Cl [_, _, _] _)]) hf hg1 => ?_)
  have st : St [] w1 [(_, Cl [_, _, _] _)] [] := st.push hp hf hg1
  have hg1 := Nat.le_trans hF.size hg1
  have hF := hF.step0 hf
  refine Las rfl rfl rfl rfl rfl (Ls_nil (Th_n (hK1 _ _ ?_)))
  refine Wp_seq fun K2 hK2 => ?_
  refine Wp_region (Ls_y (wtd0 rfl) rfl rfl (y_loadw (i := 0) rfl rfl Ty.ag_43 (fun _ e => e ▸ st.hp) rfl rfl) ?_)
  refine Ls_a (wtd0 rfl) ?_
  refine a_call rfl rfl rfl rfl (icheckTag_ok _ t) (fun v w2 ⟨hv, hf⟩ => ?_)
  subst hv
  have st := st.keep0 hf
  have hF := hF.step0 hf
  have st : St [] w2 [(_, Cl [_, _, _] _)] [] := st
  refine Ls_y (wtd0 rfl) rfl rfl (y_ne rfl rfl rfl) (Las rfl rfl rfl rfl rfl (Ls_nil (Th_n (hK2 _ _ ?_))))
  refine Wp_ret (Fq_ret (Res1 rfl rfl) ?_)
  have he1 : mnotTag_m t = ((icheckTag_m t) != 0) := by unfold mnotTag_m; rfl
  rewrite [he1]
  exact ⟨rfl, hF⟩

def mrise_L1 (l : List TagM) : Nat → Int → (Bool) ⊕ (Int)
  | 0, s3 => .inr (s3)
  | fuel + 1, s3 =>
    if s3 < (l.length : Int) then
      if 0 ≤ (icompareTag_m (ix l (s3 - 1)) (ix l s3)) then
        .inl false
      else
        mrise_L1 l fuel (s3 + 1)
    else
      .inr (s3)
def mrise_m (l : List TagM) : Bool :=
  match mrise_L1 l (((l.length : Int) - (1 : Int)).toNat + 1) (1 : Int) with
  | .inl r => r
  | .inr (s3) =>
    true


set_option maxRecDepth 20000 in
theorem mrise_ok (X : List Nat) (w : World) (hX : Lo X w) (l : List TagM) (A_l : Option Addr) (c_l : Nat) (h_l : Sld X w A_l l.length c_l 3 (l.flatMap tagMC)) :
    Fn Try.prog 83 [.slice A_l l.length c_l] w fun v w' => v = .bool (mrise_m l) ∧ Fr [] w w' := by
  refine Fn_of 21 Ty.en_83 Try.func83 rfl rfl rfl ?_
  dsimp only [argEnv]
  have st : St X w [] [kS A_l l.length c_l 3 (l.flatMap tagMC)] := (St.nil (X := X) (w := w) hX).addK (kS A_l l.length c_l 3 (l.flatMap tagMC)) h_l
  have hF := Fr.refl ([]) w
  have hleA_l := (st.k (i := 0) rfl).le
  refine Wp_seq fun K1 hK1 => ?_
  refine Wp_region (Las rfl rfl rfl rfl rfl (Ls_nil (Th_n (hK1 _ _ ?_))))
  refine Wp_seq fun K2 hK2 => ?_
  refine Wp_seq fun K3 hK3 => ?_
  refine Wp_region (Las rfl rfl rfl rfl rfl (Ls_nil (Th_n (hK3 _ _ ?_))))
  refine Wp_block (use_out hK2 (fun E W => ∃ (s3 : Int), E = [(0, .slice A_l l.length c_l), (3, .int .i64 s3)] ∧ mrise_L1 l (((l.length : Int) - (1 : Int)).toNat + 1) (1 : Int) = .inr (s3) ∧ (1 ≤ s3) ∧ St X W [] [kS A_l l.length c_l 3 (l.flatMap tagMC)] ∧ Fr ([]) w W) ?_ fun hout1 => ?_)
  · rintro E w1 ⟨s3, rfl, hLk1, hinv, st, hF⟩
    refine Wp_seq fun K4 hK4 => ?_
    refine Wp_region (Las rfl rfl rfl rfl rfl (Ls_nil (Th_n (hK4 _ _ ?_))))
    refine Wp_ret (Fq_ret (Res1 rfl rfl) ?_)
    have he1 : mrise_m l = true := by unfold mrise_m; rewrite [hLk1]; (try dsimp only); all_goals rfl
    rewrite [he1]
    exact ⟨rfl, hF⟩
  refine Wp_loopE (fun m E W => ∃ (s3 : Int), E = [(0, .slice A_l l.length c_l), (3, .int .i64 s3)] ∧ mrise_L1 l m s3 = mrise_L1 l (((l.length : Int) - (1 : Int)).toNat + 1) (1 : Int) ∧ ((l.length : Int) - s3).toNat < m ∧ (1 ≤ s3) ∧ St X W [] [kS A_l l.length c_l 3 (l.flatMap tagMC)] ∧ Fr ([]) w W) (((l.length : Int) - (1 : Int)).toNat + 1) [(0, _), (3, _)] ⟨rfl, rfl, trivial⟩ ?_ ?_
  · exact ⟨_, rfl, rfl, Nat.lt_succ_self _, by first | omega | (simp; done) | (simp; omega), st, hF⟩
  rintro m E w2 ⟨s3, rfl, hL1, hmu, hinv, st, hF⟩
  obtain ⟨fuel, rfl⟩ : ∃ q, m = q + 1 := ⟨m - 1, by omega⟩
  refine Wp_seq fun K5 hK5 => ?_
  refine Wp_seq fun K6 hK6 => ?_
  refine Wp_region (Lmv rfl rfl rfl rfl rfl (Lmv rfl rfl rfl rfl rfl (Ls_y (wtd0 rfl) rfl rfl (y_lenl rfl rfl Try.underlying30) ?_)))
  refine Ls_y (wtd0 rfl) rfl rfl (y_lt rfl rfl rfl) (Ls_nil (Th_n (hK6 _ _ ?_)))
  refine Wp_cond rfl (fun hc1 => ?_) (fun hc1 => ?_)
  · have hc1 := dT hc1
    refine Wp_skip (Th_n (hK5 _ _ ?_))
    refine Wp_seq fun K7 hK7 => ?_
    refine Wp_block (Wp_seq fun K8 hK8 => ?_)
    refine Wp_plan (fun W => St X W (pickL (hOf st) []) (kOf st)) [(true, 0), (true, 1), (true, 2), (true, 3), (true, 4), (true, 5), (true, 6), (true, 7), (true, 8), (false, 9), (true, 10)] Ty.mx_0 (by kernel_rfl) (by kernel_rfl) rfl ((st.picks [] (by decide)).drew) ?_
    have st := st.drew
    have hF := hF.step0 (Fr.drew _)
    refine Pmv rfl rfl rfl rfl rfl rfl (Pmv rfl rfl rfl rfl rfl rfl (Pl_y rfl (wtd0 rfl) rfl rfl (y_sub (c := s3 - 1) rfl rfl rfl (wf_i64 (by first | omega | (simp; done) | (simp; omega)))) ?_))
    obtain ⟨gi1, bi1, egi1⟩ := (st.k (i := 0) rfl).addr (fun _ => rfl) (by decide) (q := s3 - 1) (by first | omega | (simp; done) | (simp; omega)) (by first | omega | (simp; done) | (simp; omega))
    subst egi1
    refine Pl_y rfl (wtd0 rfl) rfl rfl (y_ixa (q := s3 - 1) rfl rfl rfl Ty.es_30 (by first | omega | (simp; done) | (simp; omega)) (by first | omega | (simp; done) | (simp; omega))) ?_
    refine Pl_y rfl (wtd0 rfl) rfl rfl (y_ldk (q := s3 - 1) rfl rfl Ty.ag_43 (fun _ h => h.k (i := 0) rfl) (fun _ => rfl) (by first | omega | (simp; done) | (simp; omega)) (by first | omega | (simp; done) | (simp; omega))) ?_
    refine Pmv rfl rfl rfl rfl rfl rfl (Pmv rfl rfl rfl rfl rfl rfl (Pl_y rfl (wtd0 rfl) rfl rfl (y_ixa (q := s3) rfl rfl rfl Ty.es_30 (by first | omega | (simp; done) | (simp; omega)) (by first | omega | (simp; done) | (simp; omega))) ?_))
    refine Pl_y rfl (wtd0 rfl) rfl rfl (y_ldk (q := s3) rfl rfl Ty.ag_43 (fun _ h => h.k (i := 0) rfl) (fun _ => rfl) (by first | omega | (simp; done) | (simp; omega)) (by first | omega | (simp; done) | (simp; omega))) ?_
    refine Pl_a rfl (wtd0 rfl) (by rfl) ?_
    refine a_call rfl rfl rfl rfl (icompareTag_ok _ (ix l (s3 - 1)) (ix l s3)) (fun v w3 ⟨hv, hf⟩ => ?_)
    subst hv
    have st := st.keep0 hf
    have hF := hF.step0 hf
    have st : St X w3 [] [_] := st
    refine ⟨(st.picks [] (by decide)).takeK 1, ?_⟩
    refine Pl_y rfl (wtd0 rfl) rfl rfl (y_ge rfl rfl rfl) (Pl_nil (Th_n (hK8 _ _ ?_)))
    refine Wp_cond rfl (fun hc2 => ?_) (fun hc2 => ?_)
    · have hc2 := dT hc2
      refine Wp_seq fun K9 hK9 => ?_
      refine Wp_region (Las rfl rfl rfl rfl rfl (Ls_nil (Th_n (hK9 _ _ ?_))))
      refine Wp_ret (Ib_r (Th_r (Th_r (Ib_r (Th_r (Fq_ret (Res1 rfl rfl) ?_))))))
      have hret1 : mrise_L1 l (((l.length : Int) - (1 : Int)).toNat + 1) (1 : Int) = .inl false := by rewrite [← hL1, mrise_L1]; rewrite [if_pos hc1, if_pos hc2]; rfl
      have he2 : mrise_m l = false := by unfold mrise_m; rewrite [hret1]; (try dsimp only); all_goals rfl
      rewrite [he2]
      exact ⟨rfl, hF⟩
    have hc2 := dF hc2
    refine Wp_skip (Ib_n (Th_n (hK7 _ _ ?_)))
    refine Wp_region (Lmv rfl rfl rfl rfl rfl (Ls_y (wtd0 rfl) rfl rfl (y_add (c := s3 + 1) rfl rfl rfl (wf_i64 (by first | omega | (simp; done) | (simp; omega)))) ?_))
    refine Las rfl rfl rfl rfl rfl (Ls_nil (Th_n (?_)))
    have hE1 : mrise_L1 l fuel (s3 + 1) = mrise_L1 l (((l.length : Int) - (1 : Int)).toNat + 1) (1 : Int) := by rewrite [← hL1, mrise_L1]; rewrite [if_pos hc1, if_neg hc2]; rfl
    exact ⟨fuel, [(0, _), (3, _)], Nat.lt_succ_self _, ⟨rfl, rfl, trivial⟩, (s3 + 1), rfl, hE1, by first | omega | (simp; done) | (simp; omega), by first | omega | (simp; done) | (simp; omega), (st.picks [] (by decide)).pickK [0], hF⟩
  have hc1 := dF hc1
  refine Wp_exit (Th_e (Th_e (Ib_hit (Th_n (?_)))))
  have hE2 : mrise_L1 l (((l.length : Int) - (1 : Int)).toNat + 1) (1 : Int) = .inr (s3) := by rewrite [← hL1, mrise_L1]; rewrite [if_neg hc1]; rfl
  exact hout1 _ [(0, _), (3, _)] _ ⟨rfl, rfl, trivial⟩ ⟨s3, rfl, hE2, by first | omega | (simp; done) | (simp; omega), (st.picks [] (by decide)).pickK [0], hF⟩

def mhas_m (l : List TagM) (t : TagM) : Bool :=
  (bsearch_m l t icompareTag_m).2


set_option maxRecDepth 20000 in
theorem mhas_ok (X : List Nat) (w : World) (hX : Lo X w) (l : List TagM) (A_l : Option Addr) (c_l : Nat) (t : TagM) (h_l : Sld X w A_l l.length c_l 3 (l.flatMap tagMC)) (h2 : l.length ≤ 1000000) :
    Fn Try.prog 85 [.slice A_l l.length c_l, .agg (tagMC t).toArray] w fun v w' => v = .bool (mhas_m l t) ∧ Fr [] w w' := by
  refine Fn_of 14 Ty.en_85 Try.func85 rfl rfl rfl ?_
  dsimp only [argEnv]
  have st : St X w [] [kS A_l l.length c_l 3 (l.flatMap tagMC)] := (St.nil (X := X) (w := w) hX).addK (kS A_l l.length c_l 3 (l.flatMap tagMC)) h_l
  have hF := Fr.refl ([]) w
  have hleA_l := (st.k (i := 0) rfl).le
  refine Wp_seq fun K1 hK1 => ?_
  refine Wp_region (Ls_a (wtd0 rfl) ?_)
  refine a_box rfl rfl rfl rfl st.hp (fun g1 w1 (hp : Hp w1 [(_, Cl [_, _, _] _)]) hf hg1 => ?_)
  have st : St X w1 [(_, Cl [_, _, _] _)] [_] := st.push hp hf hg1
  have hg1 := Nat.le_trans hF.size hg1
  have hF := hF.step0 hf
  refine Las rfl rfl rfl rfl rfl (Ls_nil (Th_n (hK1 _ _ ?_)))
  refine Wp_seq fun K2 hK2 => ?_
  refine Wp_region (Lmv rfl rfl rfl rfl rfl (Ls_y (wtd0 rfl) rfl rfl (y_loadw (i := 0) rfl rfl Ty.ag_43 (fun _ e => e ▸ st.hp) rfl rfl) ?_))
  refine Ls_a (wtd0 rfl) ?_
  refine a_call rfl rfl rfl rfl (bsearch_ok (keys (hOf st) ++ X) _ st.Lo l A_l c_l t (.func (.func 63) #[] #[]) icompareTag_m (st.k (i := 0) rfl) (fun w1 x0 x1 _ => FnV.of (icompareTag_ok w1 x0 x1)) h2) (fun v w2 ⟨hv, hf⟩ => ?_)
  subst hv
  have st := st.keep0 hf
  have hF := hF.step0 hf
  have st : St X w2 [(_, Cl [_, _, _] _)] [_] := st
  refine Lmv rfl rfl rfl rfl rfl (Lex rfl rfl rfl rfl rfl rfl (Lex rfl rfl rfl rfl rfl rfl (Las rfl rfl rfl rfl rfl (Las rfl rfl rfl rfl rfl (Ls_nil (Th_n (hK2 _ _ ?_)))))))
  refine Wp_seq fun K3 hK3 => ?_
  refine Wp_region (Lmv rfl rfl rfl rfl rfl (Las rfl rfl rfl rfl rfl (Ls_nil (Th_n (hK3 _ _ ?_)))))
  refine Wp_ret (Fq_ret (Res1 rfl rfl) ?_)
  have he1 : mhas_m l t = ((bsearch_m l t icompareTag_m).2) := by unfold mhas_m; rfl
  rewrite [he1]
  exact ⟨rfl, hF⟩

def mright_m (p : PutM) : Bool :=
  if p.field = [] then
    false
  else
    if (p.field.length : Int) ≤ 12 then
      if (lcheck_m p.atF) = 0 then
        decide (0 < p.atF.time)
      else
        false
    else
      false


set_option maxRecDepth 20000 in
theorem mright_ok (w : World) (p : PutM) :
    Fn Try.prog 84 [.agg (putMC p).toArray] w fun v w' => v = .bool (mright_m p) ∧ Fr [] w w' := by
  refine Fn_of 24 Ty.en_84 Try.func84 rfl rfl rfl ?_
  dsimp only [argEnv]
  have st : St [] w [] [] := St.nil (X := []) (w := w) (by simp [Lo])
  have hF := Fr.refl ([]) w
  refine Wp_seq fun K1 hK1 => ?_
  refine Wp_region (Ls_a (wtd0 rfl) ?_)
  refine a_box rfl rfl rfl rfl st.hp (fun g1 w1 (hp : Hp w1 [(_, Cl [_, _, _, _, _, _, _] _)]) hf hg1 => ?_)
  have st : St [] w1 [(_, Cl [_, _, _, _, _, _, _] _)] [] := st.push hp hf hg1
  have hg1 := Nat.le_trans hF.size hg1
  have hF := hF.step0 hf
  refine Las rfl rfl rfl rfl rfl (Ls_nil (Th_n (hK1 _ _ ?_)))
  refine Wp_seq fun K2 hK2 => ?_
  refine Wp_region (Ls_y (wtd0 rfl) rfl rfl (y_fld rfl rfl Ty.fo_111_1) (Ls_y (wtd0 rfl) rfl rfl (y_load (i := 0) rfl rfl Ty.pl_9 (fun _ e => e ▸ st.hp) rfl rfl) ?_))
  refine Ls_y (wtd0 rfl) rfl rfl (y_nes rfl rfl rfl) ?_
  refine Lmv rfl rfl rfl rfl rfl (Ls_bool 6 rfl (fun hc1 => ?_) (fun hc1 => ?_))
  · have hc1 := neT hc1
    refine Ls_y (wtdT rfl rfl rfl) rfl rfl (y_fld rfl rfl Ty.fo_111_1) (Ls_y (wtdT rfl rfl rfl) rfl rfl (y_load (i := 0) rfl rfl Ty.pl_9 (fun _ e => e ▸ st.hp) rfl rfl) ?_)
    refine Ls_y (wtdT rfl rfl rfl) rfl rfl (y_lens rfl rfl Try.underlying9) ?_
    refine Ls_y (wtdT rfl rfl rfl) rfl rfl (y_le rfl rfl rfl) (Ls_y (wtd0 rfl) rfl rfl (y_pick_t rfl rfl rfl) (Lmv rfl rfl rfl rfl rfl (Ls_bool 12 rfl (fun hc2 => ?_) (fun hc2 => ?_))))
    · have hc2 := dT hc2
      refine Ls_y (wtdT rfl rfl rfl) rfl rfl (y_fld rfl rfl Ty.fo_111_3) (Ls_y (wtdT rfl rfl rfl) rfl rfl (y_loadm (i := 0) rfl rfl Ty.ag_24 (fun _ e => e ▸ st.hp) rfl rfl rfl) ?_)
      refine Ls_a (wtdT rfl rfl rfl) ?_
      refine a_call rfl rfl rfl rfl (lcheck_ok _ p.atF) (fun v w2 ⟨hv, hf⟩ => ?_)
      subst hv
      have st := st.keep0 hf
      have hF := hF.step0 hf
      have st : St [] w2 [(_, Cl [_, _, _, _, _, _, _] _)] [] := st
      refine Ls_y (wtdT rfl rfl rfl) rfl rfl (y_eq rfl rfl rfl) (Ls_y (wtd0 rfl) rfl rfl (y_pick_t rfl rfl rfl) (Lmv rfl rfl rfl rfl rfl (Ls_bool 18 rfl (fun hc3 => ?_) (fun hc3 => ?_))))
      · have hc3 := eT hc3
        refine Ls_y (wtdT rfl rfl rfl) rfl rfl (y_fld rfl rfl Ty.fo_111_3) (Ls_y (wtdT rfl rfl rfl) rfl rfl (y_fld rfl rfl Ty.fo_24_0) (Ls_y (wtdT rfl rfl rfl) rfl rfl (y_load (i := 0) rfl rfl Ty.pl_22 (fun _ e => e ▸ st.hp) rfl rfl) ?_))
        refine Ls_y (wtdT rfl rfl rfl) rfl rfl (y_gt rfl rfl rfl) (Ls_y (wtd0 rfl) rfl rfl (y_pick_t rfl rfl rfl) (Las rfl rfl rfl rfl rfl (Ls_nil (Th_n (hK2 _ _ ?_)))))
        refine Wp_ret (Fq_ret (Res1 rfl rfl) ?_)
        have he1 : mright_m p = (decide (0 < p.atF.time)) := by unfold mright_m; rewrite [if_neg hc1, if_pos hc2, if_pos hc3]; rfl
        rewrite [he1]
        exact ⟨rfl, hF⟩
      have hc3 := eF hc3
      refine Ls_s (wtdF rfl rfl rfl) rfl rfl (Ls_s (wtdF rfl rfl rfl) rfl rfl (Ls_s (wtdF rfl rfl rfl) rfl rfl (Ls_s (wtdF rfl rfl rfl) rfl rfl (Ls_y (wtd0 rfl) rfl rfl (y_pick_f rfl rfl rfl) (Las rfl rfl rfl rfl rfl (Ls_nil (Th_n (hK2 _ _ ?_))))))))
      refine Wp_ret (Fq_ret (Res1 rfl rfl) ?_)
      have he2 : mright_m p = false := by unfold mright_m; rewrite [if_neg hc1, if_pos hc2, if_neg hc3]; rfl
      rewrite [he2]
      exact ⟨rfl, hF⟩
    have hc2 := dF hc2
    refine Ls_s (wtdF rfl rfl rfl) rfl rfl (Ls_s (wtdF rfl rfl rfl) rfl rfl (Ls_s (wtdF rfl rfl rfl) rfl rfl (Ls_s (wtdF rfl rfl rfl) rfl rfl (Ls_y (wtd0 rfl) rfl rfl (y_pick_f rfl rfl rfl) (Lmv rfl rfl rfl rfl rfl (Ls_s (wtdF rfl rfl rfl) rfl rfl (Ls_s (wtdF rfl rfl rfl) rfl rfl (Ls_s (wtdF rfl rfl rfl) rfl rfl (Ls_s (wtdF rfl rfl rfl) rfl rfl (Ls_y (wtd0 rfl) rfl rfl (y_pick_f rfl rfl rfl) (Las rfl rfl rfl rfl rfl (Ls_nil (Th_n (hK2 _ _ ?_))))))))))))))
    refine Wp_ret (Fq_ret (Res1 rfl rfl) ?_)
    have he3 : mright_m p = false := by unfold mright_m; rewrite [if_neg hc1, if_neg hc2]; rfl
    rewrite [he3]
    exact ⟨rfl, hF⟩
  have hc1 := neF hc1
  refine Ls_s (wtdF rfl rfl rfl) rfl rfl (Ls_s (wtdF rfl rfl rfl) rfl rfl (Ls_s (wtdF rfl rfl rfl) rfl rfl (Ls_s (wtdF rfl rfl rfl) rfl rfl (Ls_y (wtd0 rfl) rfl rfl (y_pick_f rfl rfl rfl) (Lmv rfl rfl rfl rfl rfl (Ls_s (wtdF rfl rfl rfl) rfl rfl (Ls_s (wtdF rfl rfl rfl) rfl rfl (Ls_s (wtdF rfl rfl rfl) rfl rfl (Ls_s (wtdF rfl rfl rfl) rfl rfl (Ls_y (wtd0 rfl) rfl rfl (y_pick_f rfl rfl rfl) (Lmv rfl rfl rfl rfl rfl (Ls_s (wtdF rfl rfl rfl) rfl rfl (Ls_s (wtdF rfl rfl rfl) rfl rfl (Ls_s (wtdF rfl rfl rfl) rfl rfl (Ls_s (wtdF rfl rfl rfl) rfl rfl (Ls_y (wtd0 rfl) rfl rfl (y_pick_f rfl rfl rfl) (Las rfl rfl rfl rfl rfl (Ls_nil (Th_n (hK2 _ _ ?_))))))))))))))))))))
  refine Wp_ret (Fq_ret (Res1 rfl rfl) ?_)
  have he4 : mright_m p = false := by unfold mright_m; rewrite [if_pos hc1]; rfl
  rewrite [he4]
  exact ⟨rfl, hF⟩

def mtags_L1 (l : List PutM) : Nat → (List TagM) → Int → ((List TagM)) ⊕ ((List TagM) × Int)
  | 0, s3, s8 => .inr (s3, s8)
  | fuel + 1, s3, s8 =>
    if s8 < (l.length : Int) then
      mtags_L1 l fuel (s3 ++ [(ix l s8).tag]) (s8 + 1)
    else
      .inr (s3, s8)
def mtags_m (l : List PutM) : (List TagM) :=
  match mtags_L1 l (((l.length : Int) - (0 : Int)).toNat + 1) ([] : List TagM) (0 : Int) with
  | .inl r => r
  | .inr (s3, s8) =>
    s3


set_option maxRecDepth 20000 in
theorem mtags_ok (X : List Nat) (w : World) (hX : Lo X w) (l : List PutM) (A_l : Option Addr) (c_l : Nat) (h_l : Sld X w A_l l.length c_l 7 (l.flatMap putMC)) (hl : l.length ≤ 1000000) :
    Fn Try.prog 46 [.slice A_l l.length c_l] w fun v w' => ∃ (Ar : Option Addr) (cr : Nat), v = .slice Ar (mtags_m l).length cr ∧ Sld X w' Ar (mtags_m l).length cr 3 ((mtags_m l).flatMap tagMC) ∧ Fr [] w w' := by
  refine Fn_of 19 Ty.en_46 Try.func46 rfl rfl rfl ?_
  dsimp only [argEnv]
  have st : St X w [] [kS A_l l.length c_l 7 (l.flatMap putMC)] := (St.nil (X := X) (w := w) hX).addK (kS A_l l.length c_l 7 (l.flatMap putMC)) h_l
  have hF := Fr.refl ([]) w
  have hleA_l := (st.k (i := 0) rfl).le
  refine Wp_seq fun K1 hK1 => ?_
  refine Wp_region (Las rfl rfl rfl rfl rfl (Ls_nil (Th_n (hK1 _ _ ?_))))
  refine Wp_seq fun K2 hK2 => ?_
  refine Wp_region (Las rfl rfl rfl rfl rfl (Ls_nil (Th_n (hK2 _ _ ?_))))
  refine Wp_seq fun K3 hK3 => ?_
  refine Wp_seq fun K4 hK4 => ?_
  refine Wp_region (Lmv rfl rfl rfl rfl rfl (Ls_y (wtd0 rfl) rfl rfl (y_lenl rfl rfl Try.underlying56) ?_))
  refine Lmv rfl rfl rfl rfl rfl (Ls_nil (Th_n (hK4 _ _ ?_)))
  refine Wp_block ?_
  have st : St X _ [(blkOf none, Cl (([] : List TagM).flatMap tagMC ++ []) 43)] [_] := st.addN _
  have how1 : Ow none ([] : List TagM).length 0 3 (([] : List TagM).flatMap tagMC) [] := Ow.nil 3
  have hnew1 : ∀ g, blkOf none = some g → g ∈ ([]) ∨ w.heap.size ≤ g := fun g hg => by cases hg
  refine use_out hK3 (fun E W => ∃ (s3 : List TagM) (s8 : Int) (As3 : Option Addr) (cs3 : Nat) (sps3 : List Value), E = [(3, .slice As3 s3.length cs3), (6, .slice A_l l.length c_l), (7, .int .i64 (l.length : Int)), (8, .int .i64 s8)] ∧ mtags_L1 l (((l.length : Int) - (0 : Int)).toNat + 1) ([] : List TagM) (0 : Int) = .inr (s3, s8) ∧ (0 ≤ s8 ∧ (s3.length : Int) ≤ s8) ∧ Ow As3 s3.length cs3 3 (s3.flatMap tagMC) sps3 ∧ (∀ g, blkOf As3 = some g → g ∈ ([]) ∨ w.heap.size ≤ g) ∧ St X W [(blkOf As3, Cl (s3.flatMap tagMC ++ sps3) 43)] [kS A_l l.length c_l 7 (l.flatMap putMC)] ∧ Fr ([]) w W) ?_ fun hout1 => ?_
  · rintro E w1 ⟨s3, s8, As3, cs3, sps3, rfl, hLk1, hinv, hows3, news3, st, hF⟩
    refine Wp_seq fun K5 hK5 => ?_
    refine Wp_region (Lmv rfl rfl rfl rfl rfl (Las rfl rfl rfl rfl rfl (Ls_nil (Th_n (hK5 _ _ ?_)))))
    have st : St X w1 [] [_, _] := st.freeze (i := 0) [] (by decide) rfl hows3 (by decide)
    refine Wp_ret (Fq_ret (Res1 rfl rfl) ?_)
    have he1 : mtags_m l = s3 := by unfold mtags_m; rewrite [hLk1]; (try dsimp only); all_goals rfl
    rewrite [he1]
    exact ⟨_, _, rfl, st.out (i := 1) rfl, hF⟩
  refine Wp_loopE (fun m E W => ∃ (s3 : List TagM) (s8 : Int) (As3 : Option Addr) (cs3 : Nat) (sps3 : List Value), E = [(3, .slice As3 s3.length cs3), (6, .slice A_l l.length c_l), (7, .int .i64 (l.length : Int)), (8, .int .i64 s8)] ∧ mtags_L1 l m s3 s8 = mtags_L1 l (((l.length : Int) - (0 : Int)).toNat + 1) ([] : List TagM) (0 : Int) ∧ ((l.length : Int) - s8).toNat < m ∧ (0 ≤ s8 ∧ (s3.length : Int) ≤ s8) ∧ Ow As3 s3.length cs3 3 (s3.flatMap tagMC) sps3 ∧ (∀ g, blkOf As3 = some g → g ∈ ([]) ∨ w.heap.size ≤ g) ∧ St X W [(blkOf As3, Cl (s3.flatMap tagMC ++ sps3) 43)] [kS A_l l.length c_l 7 (l.flatMap putMC)] ∧ Fr ([]) w W) (((l.length : Int) - (0 : Int)).toNat + 1) [(3, _), (6, _), (7, _), (8, _)] ⟨rfl, rfl, rfl, rfl, trivial⟩ ?_ ?_
  · exact ⟨_, _, _, _, _, rfl, rfl, Nat.lt_succ_self _, by first | omega | (simp; done) | (simp; omega), how1, hnew1, st, hF⟩
  rintro m E w2 ⟨s3, s8, As3, cs3, sps3, rfl, hL1, hmu, hinv, hows3, news3, st, hF⟩
  obtain ⟨fuel, rfl⟩ : ∃ q, m = q + 1 := ⟨m - 1, by omega⟩
  have hlehows3 := Ow.le hows3
  refine Wp_seq fun K6 hK6 => ?_
  refine Wp_region (Ls_y (wtd0 rfl) rfl rfl (y_lt rfl rfl rfl) (Ls_nil (Th_n (hK6 _ _ ?_))))
  refine Wp_seq fun K7 hK7 => ?_
  refine Wp_cond rfl (fun hc1 => ?_) (fun hc1 => ?_)
  · have hc1 := dT hc1
    refine Wp_skip (Th_n (hK7 _ _ ?_))
    refine Wp_seq fun K8 hK8 => ?_
    refine Wp_block (Wp_seq fun K9 hK9 => ?_)
    refine Wp_region ?_
    obtain ⟨gi1, bi1, egi1⟩ := (st.k (i := 0) rfl).addr (fun _ => rfl) (by decide) (q := s8) (by first | omega | (simp; done) | (simp; omega)) (by first | omega | (simp; done) | (simp; omega))
    subst egi1
    refine Ls_y (wtd0 rfl) rfl rfl (y_ixa (q := s8) rfl rfl rfl Ty.es_56 (by first | omega | (simp; done) | (simp; omega)) (by first | omega | (simp; done) | (simp; omega))) ?_
    refine Ls_y (wtd0 rfl) rfl rfl (y_ldk (q := s8) rfl rfl Ty.ag_111 (fun _ e => e ▸ st.k (i := 0) rfl) (fun _ => rfl) (by first | omega | (simp; done) | (simp; omega)) (by first | omega | (simp; done) | (simp; omega))) ?_
    refine Ls_a (wtd0 rfl) ?_
    refine a_alloc rfl rfl rfl Ty.zc_111 st.hp (fun g1 w3 (hp : Hp w3 [_, (_, Cl [_, _, _, _, _, _, _] _)]) hf hg1 => ?_)
    have st : St X w3 [_, (_, Cl [_, _, _, _, _, _, _] _)] [_] := st.push hp hf hg1
    have hg1 := Nat.le_trans hF.size hg1
    have hF := hF.step0 hf
    refine Ls_a (wtd0 rfl) ?_
    refine a_storew (i := 1) rfl rfl rfl rfl Ty.sz_111 rfl (by first | assumption | (simp [Value.oneCell', putMC]; done)) st.hp rfl rfl (fun w4 (hp : Hp w4 [_, (_, Cl [_, _, _, _, _, _, _] _)]) hf _ => ?_)
    have st : St X w4 [_, (_, Cl [_, _, _, _, _, _, _] _)] [_] := st.set (i := 1) rfl hp hf
    have hF := hF.step hf (by intro y hy; simp only [List.mem_cons, List.not_mem_nil, or_false] at hy; subst hy; first | (exact Or.inr (by omega)) | (exact Or.inl (kin0 _ _)) | (exact Or.inl (by simp)))
    refine Ls_nil (Th_n (hK9 _ _ ?_))
    refine Wp_region (Lmv rfl rfl rfl rfl rfl (Ls_y (wtd0 rfl) rfl rfl (y_fld rfl rfl Ty.fo_111_0) (Ls_y (wtd0 rfl) rfl rfl (y_loadm (i := 1) rfl rfl Ty.ag_43 (fun _ e => e ▸ st.hp) rfl rfl rfl) ?_)))
    refine Ls_a (wtd0 rfl) ?_
    refine a_bsls (us := [.int .i64 ((ix l s8).tag.id.origin), .int .u32 ((ix l s8).tag.id.seq), .int .i64 ((ix l s8).tag.n)]) rfl rfl rfl rfl Ty.es_30 Ty.zc_43 rfl (by decide) st.hp (fun g2 w5 (hp : Hp w5 [_, (_, Cl [_, _, _, _, _, _, _] _), _]) hf hg2 => ?_)
    have how2 : Ow (some ⟨g2, 0, none⟩) [(ix l s8).tag].length 1 3 ([(ix l s8).tag].flatMap tagMC) [] := ⟨rfl, .inr ⟨g2, rfl, rfl, Nat.le_refl _, by unfold maxLen; decide⟩⟩
    have st : St X w5 [_, (_, Cl [_, _, _, _, _, _, _] _), _] [_] := st.push hp hf hg2
    have st : St X w5 [_, (_, Cl [_, _, _, _, _, _, _] _), _] [_] := st
    have hg2 := Nat.le_trans hF.size hg2
    have hF := hF.step0 hf
    have hnew2 : ∀ g, blkOf (some ⟨g2, 0, none⟩) = some g → g ∈ ([]) ∨ w.heap.size ≤ g := fun g hg => by simp [blkOf] at hg; subst hg; exact .inr hg2
    refine Ls_a (wtd0 rfl) ?_
    refine a_appM (i := 0) (xs := s3) (ys := [(ix l s8).tag]) (enc := tagMC) rfl rfl rfl rfl rfl rfl Ty.es_30 Ty.zc_43 rfl Ty.by_43 (by decide) (fun _ => rfl) hows3 st.hp rfl (own_src (i := 2) st.hp rfl how2) (own_none how2) (by intro x v hv; simp only [tagMC, List.mem_cons, List.not_mem_nil, or_false] at hv; rcases hv with rfl | rfl | rfl <;> rfl) (by first | (unfold maxLen; omega) | (simp [maxLen]; omega)) (by first | (unfold maxLen; omega) | (simp [maxLen]; omega)) (fun Aa1 ca1 sp1 w6 how3 (hp : Hp w6 [_, (_, Cl [_, _, _, _, _, _, _] _), _]) hf hnw1 => ?_)
    have st : St X w6 [_, (_, Cl [_, _, _, _, _, _, _] _), _] [_] := st.setAny (i := 0) rfl hp hf hnw1
    have st : St X w6 [_, (_, Cl [_, _, _, _, _, _, _] _), _] [_] := st
    have hnew3 : ∀ g, blkOf Aa1 = some g → g ∈ ([]) ∨ w.heap.size ≤ g := fun g hg => (hnw1 g hg).elim (news3 g) (fun h => .inr (Nat.le_trans hF.size h))
    have hF := hF.step hf (fun y hy => news3 y (by simpa using hy))
    refine Las rfl rfl rfl rfl rfl (Ls_nil (Ib_n (Th_n (hK8 _ _ ?_))))
    refine Wp_region (Ls_y (wtd0 rfl) rfl rfl (y_add (c := s8 + 1) rfl rfl rfl (wf_i64 (by first | omega | (simp; done) | (simp; omega)))) ?_)
    refine Lmv rfl rfl rfl rfl rfl (Ls_nil (Th_n (?_)))
    have hE1 : mtags_L1 l fuel (s3 ++ [(ix l s8).tag]) (s8 + 1) = mtags_L1 l (((l.length : Int) - (0 : Int)).toNat + 1) ([] : List TagM) (0 : Int) := by rewrite [← hL1, mtags_L1]; rewrite [if_pos hc1]; rfl
    exact ⟨fuel, [(3, _), (6, _), (7, _), (8, _)], Nat.lt_succ_self _, ⟨rfl, rfl, rfl, rfl, trivial⟩, (s3 ++ [(ix l s8).tag]), (s8 + 1), Aa1, ca1, sp1, rfl, hE1, by first | omega | (simp; done) | (simp; omega), by first | omega | (simp; done) | (simp; omega), how3, hnew3, (st.picks [0] (by decide)).pickK [0], hF⟩
  have hc1 := dF hc1
  refine Wp_exit (Th_e (Th_e (Ib_hit (Th_n (?_)))))
  have hE2 : mtags_L1 l (((l.length : Int) - (0 : Int)).toNat + 1) ([] : List TagM) (0 : Int) = .inr (s3, s8) := by rewrite [← hL1, mtags_L1]; rewrite [if_neg hc1]; rfl
  exact hout1 _ [(3, _), (6, _), (7, _), (8, _)] _ ⟨rfl, rfl, rfl, rfl, trivial⟩ ⟨s3, s8, As3, cs3, sps3, rfl, hE2, by first | omega | (simp; done) | (simp; omega), hows3, news3, (st.picks [0] (by decide)).pickK [0], hF⟩

def mcheck_c1 (s : MapM) : Bool :=
  (if 4096 < (s.puts.length : Int) then true else decide (4096 < (s.gone.length : Int)))

def mcheck_c2 (s : MapM) : Bool :=
  (if (containsF_m (mtags_m s.puts) mnotTag_m) = true then true else containsF_m s.gone mnotTag_m)

def mcheck_c3 (s : MapM) : Bool :=
  (if (mrise_m (mtags_m s.puts)) = true then !(mrise_m s.gone) else true)

def mcheck_c4 (s : MapM) (s38 : Int) : Bool :=
  (if (mright_m (ix s.puts s38)) = true then mhas_m s.gone ((ix s.puts s38).tag) else true)

def mcheck_L1 (s : MapM) : Nat → Int → (Int) ⊕ (Int)
  | 0, s38 => .inr (s38)
  | fuel + 1, s38 =>
    if s38 < (s.puts.length : Int) then
      if (mcheck_c4 s s38) = true then
        .inl 3
      else
        mcheck_L1 s fuel (s38 + 1)
    else
      .inr (s38)
def mcheck_m (s : MapM) : Int :=
  if (mcheck_c1 s) = true then
    8
  else
    if (mcheck_c2 s) = true then
      2
    else
      if (mcheck_c3 s) = true then
        3
      else
        match mcheck_L1 s (((s.puts.length : Int) - (0 : Int)).toNat + 1) (0 : Int) with
        | .inl r => r
        | .inr (s38) =>
          0

theorem mcheck_c1_iff (s : MapM) : (mcheck_c1 s = true) ↔ ((4096 < (s.puts.length : Int)) ∨ (4096 < (s.gone.length : Int))) := by
  unfold mcheck_c1; exact (ci1 decide_eq_true_iff)

theorem mcheck_c2_iff (s : MapM) : (mcheck_c2 s = true) ↔ (((containsF_m (mtags_m s.puts) mnotTag_m) = true) ∨ ((containsF_m s.gone mnotTag_m) = true)) := by
  unfold mcheck_c2; exact (ci1 Iff.rfl)

theorem mcheck_c3_iff (s : MapM) : (mcheck_c3 s = true) ↔ (¬ ((mrise_m (mtags_m s.puts)) = true) ∨ (¬ ((mrise_m s.gone) = true))) := by
  unfold mcheck_c3; exact (ci4 (by simp))

theorem mcheck_c4_iff (s : MapM) (s38 : Int) : (mcheck_c4 s s38 = true) ↔ (¬ ((mright_m (ix s.puts s38)) = true) ∨ ((mhas_m s.gone ((ix s.puts s38).tag)) = true)) := by
  unfold mcheck_c4; exact (ci4 Iff.rfl)

set_option maxRecDepth 20000 in
theorem mcheck_ok (X : List Nat) (w : World) (hX : Lo X w) (s : MapM) (A_s_puts : Option Addr) (c_s_puts : Nat) (A_s_gone : Option Addr) (c_s_gone : Nat) (h_s_puts : Sld X w A_s_puts s.puts.length c_s_puts 7 (s.puts.flatMap putMC)) (h_s_gone : Sld X w A_s_gone s.gone.length c_s_gone 3 (s.gone.flatMap tagMC)) (h1 : s.puts.length ≤ 1000000) (h2 : s.gone.length ≤ 1000000) :
    Fn Try.prog 66 [.agg #[.slice A_s_puts s.puts.length c_s_puts, .slice A_s_gone s.gone.length c_s_gone]] w fun v w' => v = .int .i64 (mcheck_m s) ∧ Fr [] w w' := by
  refine Fn_of 53 Ty.en_66 Try.func66 rfl rfl rfl ?_
  dsimp only [argEnv]
  have st : St X w [] [kS A_s_puts s.puts.length c_s_puts 7 (s.puts.flatMap putMC), kS A_s_gone s.gone.length c_s_gone 3 (s.gone.flatMap tagMC)] := ((St.nil (X := X) (w := w) hX).addK (kS A_s_puts s.puts.length c_s_puts 7 (s.puts.flatMap putMC)) h_s_puts).addK (kS A_s_gone s.gone.length c_s_gone 3 (s.gone.flatMap tagMC)) h_s_gone
  have hF := Fr.refl ([]) w
  have hleA_s_puts := (st.k (i := 0) rfl).le
  have hleA_s_gone := (st.k (i := 1) rfl).le
  refine Wp_seq fun K1 hK1 => ?_
  refine Wp_region (Ls_a (wtd0 rfl) ?_)
  refine a_box rfl rfl rfl rfl st.hp (fun g1 w1 (hp : Hp w1 [(_, Cl [_, _] _)]) hf hg1 => ?_)
  have st : St X w1 [(_, Cl [_, _] _)] [_, _] := st.push hp hf hg1
  have hg1 := Nat.le_trans hF.size hg1
  have hF := hF.step0 hf
  refine Las rfl rfl rfl rfl rfl (Ls_nil (Th_n (hK1 _ _ ?_)))
  refine Wp_seq fun K2 hK2 => ?_
  refine Wp_seq fun K3 hK3 => ?_
  refine use_out hK3 (fun E W => E = [(1, .pointer (some ⟨g1, 0, none⟩)), (15, .bool (mcheck_c1 s))] ∧ St X W (hOf st) (kOf st) ∧ Fr ([]) w W) ?_ fun hout1 => ?_
  · rintro E w2 ⟨rfl, st, hF⟩
    have st : St X w2 [(_, Cl [_, _] _)] [_, _] := st
    refine Wp_cond rfl (fun hc1 => ?_) (fun hc1 => ?_)
    · have jhc1 := (mcheck_c1_iff s).1 hc1
      refine Wp_seq fun K4 hK4 => ?_
      refine Wp_region (Las rfl rfl rfl rfl rfl (Ls_nil (Th_n (hK4 _ _ ?_))))
      refine Wp_ret (Th_r (Fq_ret (Res1 rfl rfl) ?_))
      have he1 : mcheck_m s = 8 := by unfold mcheck_m; rewrite [if_pos hc1]; rfl
      rewrite [he1]
      exact ⟨rfl, hF⟩
    have jhc1 := mt (mcheck_c1_iff s).2 (bF hc1)
    have hc1 := bF hc1
    refine Wp_skip (Th_n (hK2 _ _ ?_))
    refine Wp_seq fun K5 hK5 => ?_
    refine Wp_region (Ls_y (wtd0 rfl) rfl rfl (y_fld rfl rfl Ty.fo_58_0) (Ls_y (wtd0 rfl) rfl rfl (y_load (i := 0) rfl rfl Ty.pl_56 (fun _ e => e ▸ st.hp) rfl rfl) ?_))
    refine Ls_a (wtd0 rfl) ?_
    refine a_call rfl rfl rfl rfl (mtags_ok (keys (hOf st) ++ X) _ st.Lo s.puts A_s_puts c_s_puts (st.k (i := 0) rfl) h1) (fun v w3 ⟨Ar1, cr1, hv, hr1, hf⟩ => ?_)
    subst hv
    have st := st.keep0 hf
    have hF := hF.step0 hf
    have hlehr1 := Sld.le hr1
    have st := st.addK (kS Ar1 (mtags_m s.puts).length cr1 3 ((mtags_m s.puts).flatMap tagMC)) hr1
    have st : St X w3 [(_, Cl [_, _] _)] [_, _, _] := st
    refine Las rfl rfl rfl rfl rfl (Ls_nil (Th_n (hK5 _ _ ?_)))
    refine Wp_seq fun K6 hK6 => ?_
    refine Wp_seq fun K7 hK7 => ?_
    refine use_out hK7 (fun E W => E = [(1, .pointer (some ⟨g1, 0, none⟩)), (3, .slice Ar1 ((mtags_m s.puts).length) cr1), (25, .bool (mcheck_c2 s))] ∧ St X W (hOf st) (kOf st) ∧ Fr ([]) w W) ?_ fun hout2 => ?_
    · rintro E w4 ⟨rfl, st, hF⟩
      have st : St X w4 [(_, Cl [_, _] _)] [_, _, _] := st
      refine Wp_cond rfl (fun hc2 => ?_) (fun hc2 => ?_)
      · have jhc2 := (mcheck_c2_iff s).1 hc2
        refine Wp_seq fun K8 hK8 => ?_
        refine Wp_region (Las rfl rfl rfl rfl rfl (Ls_nil (Th_n (hK8 _ _ ?_))))
        refine Wp_ret (Th_r (Fq_ret (Res1 rfl rfl) ?_))
        have he2 : mcheck_m s = 2 := by unfold mcheck_m; rewrite [if_neg hc1, if_pos hc2]; rfl
        rewrite [he2]
        exact ⟨rfl, hF⟩
      have jhc2 := mt (mcheck_c2_iff s).2 (bF hc2)
      have hc2 := bF hc2
      refine Wp_skip (Th_n (hK6 _ _ ?_))
      refine Wp_seq fun K9 hK9 => ?_
      refine Wp_seq fun K10 hK10 => ?_
      refine use_out hK10 (fun E W => E = [(1, .pointer (some ⟨g1, 0, none⟩)), (34, .bool (mcheck_c3 s))] ∧ St X W (hOf st) (kOf st) ∧ Fr ([]) w W) ?_ fun hout3 => ?_
      · rintro E w5 ⟨rfl, st, hF⟩
        have st : St X w5 [(_, Cl [_, _] _)] [_, _, _] := st
        refine Wp_cond rfl (fun hc3 => ?_) (fun hc3 => ?_)
        · have jhc3 := (mcheck_c3_iff s).1 hc3
          refine Wp_seq fun K11 hK11 => ?_
          refine Wp_region (Las rfl rfl rfl rfl rfl (Ls_nil (Th_n (hK11 _ _ ?_))))
          refine Wp_ret (Th_r (Fq_ret (Res1 rfl rfl) ?_))
          have he3 : mcheck_m s = 3 := by unfold mcheck_m; rewrite [if_neg hc1, if_neg hc2, if_pos hc3]; rfl
          rewrite [he3]
          exact ⟨rfl, hF⟩
        have jhc3 := mt (mcheck_c3_iff s).2 (bF hc3)
        have hc3 := bF hc3
        refine Wp_skip (Th_n (hK9 _ _ ?_))
        refine Wp_seq fun K12 hK12 => ?_
        refine Wp_seq fun K13 hK13 => ?_
        refine Wp_region (Ls_y (wtd0 rfl) rfl rfl (y_fld rfl rfl Ty.fo_58_0) (Ls_y (wtd0 rfl) rfl rfl (y_load (i := 0) rfl rfl Ty.pl_56 (fun _ e => e ▸ st.hp) rfl rfl) ?_))
        refine Ls_y (wtd0 rfl) rfl rfl (y_lenl rfl rfl Try.underlying56) ?_
        refine Lmv rfl rfl rfl rfl rfl (Ls_nil (Th_n (hK13 _ _ ?_)))
        refine Wp_block (use_out hK12 (fun E W => ∃ (s38 : Int), E = [(1, .pointer (some ⟨g1, 0, none⟩)), (36, .slice A_s_puts s.puts.length c_s_puts), (37, .int .i64 (s.puts.length : Int)), (38, .int .i64 s38)] ∧ mcheck_L1 s (((s.puts.length : Int) - (0 : Int)).toNat + 1) (0 : Int) = .inr (s38) ∧ (0 ≤ s38) ∧ St X W [(some g1, Cl [.slice A_s_puts s.puts.length c_s_puts, .slice A_s_gone s.gone.length c_s_gone] 58)] [kS A_s_puts s.puts.length c_s_puts 7 (s.puts.flatMap putMC), kS A_s_gone s.gone.length c_s_gone 3 (s.gone.flatMap tagMC), kS Ar1 (mtags_m s.puts).length cr1 3 ((mtags_m s.puts).flatMap tagMC)] ∧ Fr ([]) w W) ?_ fun hout4 => ?_)
        · rintro E w6 ⟨s38, rfl, hLk1, hinv, st, hF⟩
          refine Wp_seq fun K14 hK14 => ?_
          refine Wp_region (Las rfl rfl rfl rfl rfl (Ls_nil (Th_n (hK14 _ _ ?_))))
          refine Wp_ret (Fq_ret (Res1 rfl rfl) ?_)
          have he4 : mcheck_m s = 0 := by unfold mcheck_m; rewrite [if_neg hc1, if_neg hc2, if_neg hc3, hLk1]; (try dsimp only); all_goals rfl
          rewrite [he4]
          exact ⟨rfl, hF⟩
        refine Wp_loopE (fun m E W => ∃ (s38 : Int), E = [(1, .pointer (some ⟨g1, 0, none⟩)), (36, .slice A_s_puts s.puts.length c_s_puts), (37, .int .i64 (s.puts.length : Int)), (38, .int .i64 s38)] ∧ mcheck_L1 s m s38 = mcheck_L1 s (((s.puts.length : Int) - (0 : Int)).toNat + 1) (0 : Int) ∧ ((s.puts.length : Int) - s38).toNat < m ∧ (0 ≤ s38) ∧ St X W [(some g1, Cl [.slice A_s_puts s.puts.length c_s_puts, .slice A_s_gone s.gone.length c_s_gone] 58)] [kS A_s_puts s.puts.length c_s_puts 7 (s.puts.flatMap putMC), kS A_s_gone s.gone.length c_s_gone 3 (s.gone.flatMap tagMC), kS Ar1 (mtags_m s.puts).length cr1 3 ((mtags_m s.puts).flatMap tagMC)] ∧ Fr ([]) w W) (((s.puts.length : Int) - (0 : Int)).toNat + 1) [(1, _), (36, _), (37, _), (38, _)] ⟨rfl, rfl, rfl, rfl, trivial⟩ ?_ ?_
        · exact ⟨_, rfl, rfl, Nat.lt_succ_self _, by first | omega | (simp; done) | (simp; omega), st, hF⟩
        rintro m E w7 ⟨s38, rfl, hL1, hmu, hinv, st, hF⟩
        obtain ⟨fuel, rfl⟩ : ∃ q, m = q + 1 := ⟨m - 1, by omega⟩
        refine Wp_seq fun K15 hK15 => ?_
        refine Wp_region (Ls_y (wtd0 rfl) rfl rfl (y_lt rfl rfl rfl) (Ls_nil (Th_n (hK15 _ _ ?_))))
        refine Wp_seq fun K16 hK16 => ?_
        refine Wp_cond rfl (fun hc4 => ?_) (fun hc4 => ?_)
        · have hc4 := dT hc4
          refine Wp_skip (Th_n (hK16 _ _ ?_))
          refine Wp_seq fun K17 hK17 => ?_
          refine Wp_block (Wp_seq fun K18 hK18 => ?_)
          refine Wp_region ?_
          obtain ⟨gi1, bi1, egi1⟩ := (st.k (i := 0) rfl).addr (fun _ => rfl) (by decide) (q := s38) (by first | omega | (simp; done) | (simp; omega)) (by first | omega | (simp; done) | (simp; omega))
          subst egi1
          refine Ls_y (wtd0 rfl) rfl rfl (y_ixa (q := s38) rfl rfl rfl Ty.es_56 (by first | omega | (simp; done) | (simp; omega)) (by first | omega | (simp; done) | (simp; omega))) ?_
          refine Ls_y (wtd0 rfl) rfl rfl (y_ldk (q := s38) rfl rfl Ty.ag_111 (fun _ e => e ▸ st.k (i := 0) rfl) (fun _ => rfl) (by first | omega | (simp; done) | (simp; omega)) (by first | omega | (simp; done) | (simp; omega))) ?_
          refine Ls_a (wtd0 rfl) ?_
          refine a_alloc rfl rfl rfl Ty.zc_111 st.hp (fun g2 w8 (hp : Hp w8 [(_, Cl [_, _] _), (_, Cl [_, _, _, _, _, _, _] _)]) hf hg2 => ?_)
          have st : St X w8 [(_, Cl [_, _] _), (_, Cl [_, _, _, _, _, _, _] _)] [_, _, _] := st.push hp hf hg2
          have hg2 := Nat.le_trans hF.size hg2
          have hF := hF.step0 hf
          refine Ls_a (wtd0 rfl) ?_
          refine a_storew (i := 1) rfl rfl rfl rfl Ty.sz_111 rfl (by first | assumption | (simp [Value.oneCell', putMC]; done)) st.hp rfl rfl (fun w9 (hp : Hp w9 [(_, Cl [_, _] _), (_, Cl [_, _, _, _, _, _, _] _)]) hf _ => ?_)
          have st : St X w9 [(_, Cl [_, _] _), (_, Cl [_, _, _, _, _, _, _] _)] [_, _, _] := st.set (i := 1) rfl hp hf
          have hF := hF.step hf (by intro y hy; simp only [List.mem_cons, List.not_mem_nil, or_false] at hy; subst hy; first | (exact Or.inr (by omega)) | (exact Or.inl (kin0 _ _)) | (exact Or.inl (by simp)))
          refine Ls_nil (Th_n (hK18 _ _ ?_))
          refine Wp_seq fun K19 hK19 => ?_
          refine use_out hK19 (fun E W => E = [(1, .pointer (some ⟨g1, 0, none⟩)), (36, .slice (some ⟨gi1, bi1, none⟩) s.puts.length c_s_puts), (37, .int .i64 (s.puts.length : Int)), (38, .int .i64 s38), (51, .bool (mcheck_c4 s s38))] ∧ St X W (hOf st) (kOf st) ∧ Fr ([]) w W) ?_ fun hout5 => ?_
          · rintro E w10 ⟨rfl, st, hF⟩
            have st : St X w10 [(_, Cl [_, _] _), (_, Cl [_, _, _, _, _, _, _] _)] [_, _, _] := st
            refine Wp_cond rfl (fun hc5 => ?_) (fun hc5 => ?_)
            · have jhc5 := (mcheck_c4_iff s s38).1 hc5
              refine Wp_seq fun K20 hK20 => ?_
              refine Wp_region (Las rfl rfl rfl rfl rfl (Ls_nil (Th_n (hK20 _ _ ?_))))
              refine Wp_ret (Ib_r (Th_r (Th_r (Ib_r (Th_r (Fq_ret (Res1 rfl rfl) ?_))))))
              have hret1 : mcheck_L1 s (((s.puts.length : Int) - (0 : Int)).toNat + 1) (0 : Int) = .inl 3 := by rewrite [← hL1, mcheck_L1]; rewrite [if_pos hc4, if_pos hc5]; rfl
              have he5 : mcheck_m s = 3 := by unfold mcheck_m; rewrite [if_neg hc1, if_neg hc2, if_neg hc3, hret1]; (try dsimp only); all_goals rfl
              rewrite [he5]
              exact ⟨rfl, hF⟩
            have jhc5 := mt (mcheck_c4_iff s s38).2 (bF hc5)
            have hc5 := bF hc5
            refine Wp_skip (Ib_n (Th_n (hK17 _ _ ?_)))
            refine Wp_region (Ls_y (wtd0 rfl) rfl rfl (y_add (c := s38 + 1) rfl rfl rfl (wf_i64 (by first | omega | (simp; done) | (simp; omega)))) ?_)
            refine Lmv rfl rfl rfl rfl rfl (Ls_nil (Th_n (?_)))
            have hE1 : mcheck_L1 s fuel (s38 + 1) = mcheck_L1 s (((s.puts.length : Int) - (0 : Int)).toNat + 1) (0 : Int) := by rewrite [← hL1, mcheck_L1]; rewrite [if_pos hc4, if_neg hc5]; rfl
            exact ⟨fuel, [(1, _), (36, _), (37, _), (38, _)], Nat.lt_succ_self _, ⟨rfl, rfl, rfl, rfl, trivial⟩, (s38 + 1), rfl, hE1, by first | omega | (simp; done) | (simp; omega), by first | omega | (simp; done) | (simp; omega), (st.picks [0] (by decide)).pickK [0, 1, 2], hF⟩
          refine Wp_region (Ls_y (wtd0 rfl) rfl rfl (y_loadw (i := 1) rfl rfl Ty.ag_111 (fun _ e => e ▸ st.hp) rfl rfl) ?_)
          refine Ls_a (wtd0 rfl) ?_
          refine a_call rfl rfl rfl rfl (mright_ok _ (ix s.puts s38)) (fun v w11 ⟨hv, hf⟩ => ?_)
          subst hv
          have st := st.keep0 hf
          have hF := hF.step0 hf
          have st : St X w11 [(_, Cl [_, _] _), (_, Cl [_, _, _, _, _, _, _] _)] [_, _, _] := st
          refine Ls_y (wtd0 rfl) rfl rfl (y_not rfl rfl) (Lmv rfl rfl rfl rfl rfl (Ls_bool 45 rfl (fun hc6 => ?_) (fun hc6 => ?_)))
          · have hc6 := bF (nT hc6)
            refine Ls_s (wtdF rfl rfl rfl) rfl rfl (Ls_s (wtdF rfl rfl rfl) rfl rfl (Ls_s (wtdF rfl rfl rfl) rfl rfl (Ls_s (wtdF rfl rfl rfl) rfl rfl (Ls_s (wtdF rfl rfl rfl) rfl rfl (Ls_y (wtd0 rfl) rfl rfl (y_pick_t rfl rfl rfl) (Ls_nil (Th_n (?_))))))))
            have hcj1 : mcheck_c4 s s38 = true := by unfold mcheck_c4; rewrite [if_neg hc6]; rfl
            exact hout5 _ [(1, _), (36, _), (37, _), (38, _), (51, _)] _ ⟨rfl, rfl, rfl, rfl, rfl, trivial⟩ ⟨by rw [hcj1], (st.picks [0, 1] (by decide)).pickK [0, 1, 2], hF⟩
          have hc6 := (nF hc6)
          refine Ls_y (wtdT rfl rfl rfl) rfl rfl (y_fld rfl rfl Ty.fo_58_1) (Ls_y (wtdT rfl rfl rfl) rfl rfl (y_load (i := 0) rfl rfl Ty.pl_30 (fun _ e => e ▸ st.hp) rfl rfl) ?_)
          refine Ls_y (wtdT rfl rfl rfl) rfl rfl (y_fld rfl rfl Ty.fo_111_0) (Ls_y (wtdT rfl rfl rfl) rfl rfl (y_loadm (i := 1) rfl rfl Ty.ag_43 (fun _ e => e ▸ st.hp) rfl rfl rfl) ?_)
          refine Ls_a (wtdT rfl rfl rfl) ?_
          refine a_call rfl rfl rfl rfl (mhas_ok (keys (hOf st) ++ X) _ st.Lo s.gone A_s_gone c_s_gone ((ix s.puts s38).tag) (st.k (i := 1) rfl) h2) (fun v w12 ⟨hv, hf⟩ => ?_)
          subst hv
          have st := st.keep0 hf
          have hF := hF.step0 hf
          have st : St X w12 [(_, Cl [_, _] _), (_, Cl [_, _, _, _, _, _, _] _)] [_, _, _] := st
          refine Ls_y (wtd0 rfl) rfl rfl (y_pick_f rfl rfl rfl) (Ls_nil (Th_n (?_)))
          have hcj2 : mcheck_c4 s s38 = (mhas_m s.gone ((ix s.puts s38).tag)) := by unfold mcheck_c4; rewrite [if_pos hc6]; rfl
          exact hout5 _ [(1, _), (36, _), (37, _), (38, _), (51, _)] _ ⟨rfl, rfl, rfl, rfl, rfl, trivial⟩ ⟨by rw [hcj2], (st.picks [0, 1] (by decide)).pickK [0, 1, 2], hF⟩
        have hc4 := dF hc4
        refine Wp_exit (Th_e (Th_e (Ib_hit (Th_n (?_)))))
        have hE2 : mcheck_L1 s (((s.puts.length : Int) - (0 : Int)).toNat + 1) (0 : Int) = .inr (s38) := by rewrite [← hL1, mcheck_L1]; rewrite [if_neg hc4]; rfl
        exact hout4 _ [(1, _), (36, _), (37, _), (38, _)] _ ⟨rfl, rfl, rfl, rfl, trivial⟩ ⟨s38, rfl, hE2, by first | omega | (simp; done) | (simp; omega), (st.picks [0] (by decide)).pickK [0, 1, 2], hF⟩
      refine Wp_region (Lmv rfl rfl rfl rfl rfl (Ls_a (wtd0 rfl) ?_))
      refine a_call rfl rfl rfl rfl (mrise_ok (keys (hOf st) ++ X) _ st.Lo (mtags_m s.puts) Ar1 cr1 (st.k (i := 2) rfl)) (fun v w13 ⟨hv, hf⟩ => ?_)
      subst hv
      have st := st.keep0 hf
      have hF := hF.step0 hf
      have st : St X w13 [(_, Cl [_, _] _)] [_, _, _] := st
      refine Ls_y (wtd0 rfl) rfl rfl (y_not rfl rfl) (Lmv rfl rfl rfl rfl rfl (Ls_bool 29 rfl (fun hc7 => ?_) (fun hc7 => ?_)))
      · have hc7 := bF (nT hc7)
        refine Ls_s (wtdF rfl rfl rfl) rfl rfl (Ls_s (wtdF rfl rfl rfl) rfl rfl (Ls_s (wtdF rfl rfl rfl) rfl rfl (Ls_s (wtdF rfl rfl rfl) rfl rfl (Ls_y (wtd0 rfl) rfl rfl (y_pick_t rfl rfl rfl) (Ls_nil (Th_n (?_)))))))
        have hcj3 : mcheck_c3 s = true := by unfold mcheck_c3; rewrite [if_neg hc7]; rfl
        exact hout3 _ [(1, _), (34, _)] _ ⟨rfl, rfl, trivial⟩ ⟨by rw [hcj3], (st.picks [0] (by decide)).pickK [0, 1, 2], hF⟩
      have hc7 := (nF hc7)
      refine Ls_y (wtdT rfl rfl rfl) rfl rfl (y_fld rfl rfl Ty.fo_58_1) (Ls_y (wtdT rfl rfl rfl) rfl rfl (y_load (i := 0) rfl rfl Ty.pl_30 (fun _ e => e ▸ st.hp) rfl rfl) ?_)
      refine Ls_a (wtdT rfl rfl rfl) ?_
      refine a_call rfl rfl rfl rfl (mrise_ok (keys (hOf st) ++ X) _ st.Lo s.gone A_s_gone c_s_gone (st.k (i := 1) rfl)) (fun v w14 ⟨hv, hf⟩ => ?_)
      subst hv
      have st := st.keep0 hf
      have hF := hF.step0 hf
      have st : St X w14 [(_, Cl [_, _] _)] [_, _, _] := st
      refine Ls_y (wtdT rfl rfl rfl) rfl rfl (y_not rfl rfl) (Ls_y (wtd0 rfl) rfl rfl (y_pick_f rfl rfl rfl) (Ls_nil (Th_n (?_))))
      have hcj4 : mcheck_c3 s = (!(mrise_m s.gone)) := by unfold mcheck_c3; rewrite [if_pos hc7]; rfl
      exact hout3 _ [(1, _), (34, _)] _ ⟨rfl, rfl, trivial⟩ ⟨by rw [hcj4], (st.picks [0] (by decide)).pickK [0, 1, 2], hF⟩
    refine Wp_region (Lmv rfl rfl rfl rfl rfl (Ls_a (wtd0 rfl) ?_))
    refine a_call rfl rfl rfl rfl (containsTag_ok (keys (hOf st) ++ X) _ st.Lo (mtags_m s.puts) Ar1 cr1 (.func (.func 82) #[] #[]) mnotTag_m (st.k (i := 2) rfl) (fun w1 x0 _ => FnV.of (mnotTag_ok w1 x0))) (fun v w15 ⟨hv, hf⟩ => ?_)
    subst hv
    have st := st.keep0 hf
    have hF := hF.step0 hf
    have st : St X w15 [(_, Cl [_, _] _)] [_, _, _] := st
    refine Lmv rfl rfl rfl rfl rfl (Ls_bool 21 rfl (fun hc8 => ?_) (fun hc8 => ?_))
    · refine Ls_s (wtdF rfl rfl rfl) rfl rfl (Ls_s (wtdF rfl rfl rfl) rfl rfl (Ls_s (wtdF rfl rfl rfl) rfl rfl (Ls_y (wtd0 rfl) rfl rfl (y_pick_t rfl rfl rfl) (Ls_nil (Th_n (?_))))))
      have hcj5 : mcheck_c2 s = true := by unfold mcheck_c2; rewrite [if_pos hc8]; rfl
      exact hout2 _ [(1, _), (3, _), (25, _)] _ ⟨rfl, rfl, rfl, trivial⟩ ⟨by rw [hcj5], (st.picks [0] (by decide)).pickK [0, 1, 2], hF⟩
    have hc8 := bF hc8
    refine Ls_y (wtdT rfl rfl rfl) rfl rfl (y_fld rfl rfl Ty.fo_58_1) (Ls_y (wtdT rfl rfl rfl) rfl rfl (y_load (i := 0) rfl rfl Ty.pl_30 (fun _ e => e ▸ st.hp) rfl rfl) ?_)
    refine Ls_a (wtdT rfl rfl rfl) ?_
    refine a_call rfl rfl rfl rfl (containsTag_ok (keys (hOf st) ++ X) _ st.Lo s.gone A_s_gone c_s_gone (.func (.func 82) #[] #[]) mnotTag_m (st.k (i := 1) rfl) (fun w1 x0 _ => FnV.of (mnotTag_ok w1 x0))) (fun v w16 ⟨hv, hf⟩ => ?_)
    subst hv
    have st := st.keep0 hf
    have hF := hF.step0 hf
    have st : St X w16 [(_, Cl [_, _] _)] [_, _, _] := st
    refine Ls_y (wtd0 rfl) rfl rfl (y_pick_f rfl rfl rfl) (Ls_nil (Th_n (?_)))
    have hcj6 : mcheck_c2 s = (containsF_m s.gone mnotTag_m) := by unfold mcheck_c2; rewrite [if_neg hc8]; rfl
    exact hout2 _ [(1, _), (3, _), (25, _)] _ ⟨rfl, rfl, rfl, trivial⟩ ⟨by rw [hcj6], (st.picks [0] (by decide)).pickK [0, 1, 2], hF⟩
  refine Wp_region (Ls_y (wtd0 rfl) rfl rfl (y_fld rfl rfl Ty.fo_58_0) (Ls_y (wtd0 rfl) rfl rfl (y_load (i := 0) rfl rfl Ty.pl_56 (fun _ e => e ▸ st.hp) rfl rfl) ?_))
  refine Ls_y (wtd0 rfl) rfl rfl (y_lenl rfl rfl Try.underlying56) ?_
  refine Ls_y (wtd0 rfl) rfl rfl (y_gt rfl rfl rfl) (Lmv rfl rfl rfl rfl rfl (Ls_bool 10 rfl (fun hc9 => ?_) (fun hc9 => ?_)))
  · have hc9 := dT hc9
    refine Ls_s (wtdF rfl rfl rfl) rfl rfl (Ls_s (wtdF rfl rfl rfl) rfl rfl (Ls_s (wtdF rfl rfl rfl) rfl rfl (Ls_s (wtdF rfl rfl rfl) rfl rfl (Ls_y (wtd0 rfl) rfl rfl (y_pick_t rfl rfl rfl) (Ls_nil (Th_n (?_)))))))
    have hcj7 : mcheck_c1 s = true := by unfold mcheck_c1; rewrite [if_pos hc9]; rfl
    exact hout1 _ [(1, _), (15, _)] _ ⟨rfl, rfl, trivial⟩ ⟨by rw [hcj7], (st.picks [0] (by decide)).pickK [0, 1], hF⟩
  have hc9 := dF hc9
  refine Ls_y (wtdT rfl rfl rfl) rfl rfl (y_fld rfl rfl Ty.fo_58_1) (Ls_y (wtdT rfl rfl rfl) rfl rfl (y_load (i := 0) rfl rfl Ty.pl_30 (fun _ e => e ▸ st.hp) rfl rfl) ?_)
  refine Ls_y (wtdT rfl rfl rfl) rfl rfl (y_lenl rfl rfl Try.underlying30) ?_
  refine Ls_y (wtdT rfl rfl rfl) rfl rfl (y_gt rfl rfl rfl) (Ls_y (wtd0 rfl) rfl rfl (y_pick_f rfl rfl rfl) (Ls_nil (Th_n (?_))))
  have hcj8 : mcheck_c1 s = (decide (4096 < (s.gone.length : Int))) := by unfold mcheck_c1; rewrite [if_neg hc9]; rfl
  exact hout1 _ [(1, _), (15, _)] _ ⟨rfl, rfl, trivial⟩ ⟨by rw [hcj8], (st.picks [0] (by decide)).pickK [0, 1], hF⟩

def okind_m (act : Int) : Int :=
  if act = 1 then
    1
  else
    if act = 2 then
      2
    else
      if act = 3 then
        3
      else
        if act = 4 then
          3
        else
          if act = 5 then
            4
          else
            if act = 6 then
              4
            else
              0


set_option maxRecDepth 20000 in
theorem okind_ok (w : World) (act : Int) :
    Fn Try.prog 18 [.int .i64 act] w fun v w' => v = .int .i64 (okind_m act) ∧ Fr [] w w' := by
  refine Fn_of 14 Ty.en_18 Try.func18 rfl rfl rfl ?_
  dsimp only [argEnv]
  have st : St [] w [] [] := St.nil (X := []) (w := w) (by simp [Lo])
  have hF := Fr.refl ([]) w
  refine Wp_seq fun K1 hK1 => ?_
  refine Wp_region (Las rfl rfl rfl rfl rfl (Ls_nil (Th_n (hK1 _ _ ?_))))
  refine Wp_seq fun K2 hK2 => ?_
  refine Wp_seq fun K3 hK3 => ?_
  refine Wp_region (Lmv rfl rfl rfl rfl rfl (Ls_nil (Th_n (hK3 _ _ ?_))))
  refine Wp_block (Wp_seq fun K4 hK4 => ?_)
  refine Wp_region (Ls_y (wtd0 rfl) rfl rfl (y_eq rfl rfl rfl) (Las rfl rfl rfl rfl rfl (Ls_nil (Th_n (hK4 _ _ ?_)))))
  refine Wp_cond rfl (fun hc1 => ?_) (fun hc1 => ?_)
  · have hc1 := eT hc1
    refine Wp_seq fun K5 hK5 => ?_
    refine Wp_region (Las rfl rfl rfl rfl rfl (Ls_nil (Th_n (hK5 _ _ ?_))))
    refine Wp_ret (Ib_r (Th_r (Fq_ret (Res1 rfl rfl) ?_)))
    have he1 : okind_m act = 1 := by unfold okind_m; rewrite [if_pos hc1]; rfl
    rewrite [he1]
    exact ⟨rfl, hF⟩
  have hc1 := eF hc1
  refine Wp_seq fun K6 hK6 => ?_
  refine Wp_region (Ls_y (wtd0 rfl) rfl rfl (y_eq rfl rfl rfl) (Las rfl rfl rfl rfl rfl (Ls_nil (Th_n (hK6 _ _ ?_)))))
  refine Wp_cond rfl (fun hc2 => ?_) (fun hc2 => ?_)
  · have hc2 := eT hc2
    refine Wp_seq fun K7 hK7 => ?_
    refine Wp_region (Las rfl rfl rfl rfl rfl (Ls_nil (Th_n (hK7 _ _ ?_))))
    refine Wp_ret (Ib_r (Th_r (Fq_ret (Res1 rfl rfl) ?_)))
    have he2 : okind_m act = 2 := by unfold okind_m; rewrite [if_neg hc1, if_pos hc2]; rfl
    rewrite [he2]
    exact ⟨rfl, hF⟩
  have hc2 := eF hc2
  refine Wp_seq fun K8 hK8 => ?_
  refine Wp_seq fun K9 hK9 => ?_
  refine Wp_region (Ls_y (wtd0 rfl) rfl rfl (y_eq rfl rfl rfl) (Las rfl rfl rfl rfl rfl (Ls_nil (Th_n (hK9 _ _ ?_)))))
  refine Wp_cond rfl (fun hc3 => ?_) (fun hc3 => ?_)
  · have hc3 := eT hc3
    refine Wp_skip (Th_n (hK8 _ _ ?_))
    refine Wp_cond rfl (fun _ => ?_) (fun hc4 => absurd hc4 (by simp [hc3]))
    refine Wp_seq fun K10 hK10 => ?_
    refine Wp_region (Las rfl rfl rfl rfl rfl (Ls_nil (Th_n (hK10 _ _ ?_))))
    refine Wp_ret (Ib_r (Th_r (Fq_ret (Res1 rfl rfl) ?_)))
    have he3 : okind_m act = 3 := by unfold okind_m; rewrite [if_neg hc1, if_neg hc2, if_pos hc3]; rfl
    rewrite [he3]
    exact ⟨rfl, hF⟩
  have hc3 := eF hc3
  refine Wp_region (Ls_y (wtd0 rfl) rfl rfl (y_eq rfl rfl rfl) (Las rfl rfl rfl rfl rfl (Ls_nil (Th_n (hK8 _ _ ?_)))))
  refine Wp_cond rfl (fun hc5 => ?_) (fun hc5 => ?_)
  · have hc5 := eT hc5
    refine Wp_seq fun K11 hK11 => ?_
    refine Wp_region (Las rfl rfl rfl rfl rfl (Ls_nil (Th_n (hK11 _ _ ?_))))
    refine Wp_ret (Ib_r (Th_r (Fq_ret (Res1 rfl rfl) ?_)))
    have he4 : okind_m act = 3 := by unfold okind_m; rewrite [if_neg hc1, if_neg hc2, if_neg hc3, if_pos hc5]; rfl
    rewrite [he4]
    exact ⟨rfl, hF⟩
  have hc5 := eF hc5
  refine Wp_seq fun K12 hK12 => ?_
  refine Wp_seq fun K13 hK13 => ?_
  refine Wp_region (Ls_y (wtd0 rfl) rfl rfl (y_eq rfl rfl rfl) (Las rfl rfl rfl rfl rfl (Ls_nil (Th_n (hK13 _ _ ?_)))))
  refine Wp_cond rfl (fun hc6 => ?_) (fun hc6 => ?_)
  · have hc6 := eT hc6
    refine Wp_skip (Th_n (hK12 _ _ ?_))
    refine Wp_cond rfl (fun _ => ?_) (fun hc7 => absurd hc7 (by simp [hc6]))
    refine Wp_seq fun K14 hK14 => ?_
    refine Wp_region (Las rfl rfl rfl rfl rfl (Ls_nil (Th_n (hK14 _ _ ?_))))
    refine Wp_ret (Ib_r (Th_r (Fq_ret (Res1 rfl rfl) ?_)))
    have he5 : okind_m act = 4 := by unfold okind_m; rewrite [if_neg hc1, if_neg hc2, if_neg hc3, if_neg hc5, if_pos hc6]; rfl
    rewrite [he5]
    exact ⟨rfl, hF⟩
  have hc6 := eF hc6
  refine Wp_region (Ls_y (wtd0 rfl) rfl rfl (y_eq rfl rfl rfl) (Las rfl rfl rfl rfl rfl (Ls_nil (Th_n (hK12 _ _ ?_)))))
  refine Wp_cond rfl (fun hc8 => ?_) (fun hc8 => ?_)
  · have hc8 := eT hc8
    refine Wp_seq fun K15 hK15 => ?_
    refine Wp_region (Las rfl rfl rfl rfl rfl (Ls_nil (Th_n (hK15 _ _ ?_))))
    refine Wp_ret (Ib_r (Th_r (Fq_ret (Res1 rfl rfl) ?_)))
    have he6 : okind_m act = 4 := by unfold okind_m; rewrite [if_neg hc1, if_neg hc2, if_neg hc3, if_neg hc5, if_neg hc6, if_pos hc8]; rfl
    rewrite [he6]
    exact ⟨rfl, hF⟩
  have hc8 := eF hc8
  refine Wp_skip (Ib_n (Th_n (hK2 _ _ ?_)))
  refine Wp_seq fun K16 hK16 => ?_
  refine Wp_region (Las rfl rfl rfl rfl rfl (Ls_nil (Th_n (hK16 _ _ ?_))))
  refine Wp_ret (Fq_ret (Res1 rfl rfl) ?_)
  have he7 : okind_m act = 0 := by unfold okind_m; rewrite [if_neg hc1, if_neg hc2, if_neg hc3, if_neg hc5, if_neg hc6, if_neg hc8]; rfl
  rewrite [he7]
  exact ⟨rfl, hF⟩

structure AsksM where
  name : Bool
  val : Bool
  atF : Bool
  tags : Bool
instance : Inhabited AsksM := ⟨⟨default, default, default, default⟩⟩
instance : DecidableEq AsksM := fun a b => decidable_of_iff (a.name = b.name ∧ a.val = b.val ∧ a.atF = b.atF ∧ a.tags = b.tags) (by cases a; cases b; simp)
def asksMC (x : AsksM) : List Value := [.bool x.name, .bool x.val, .bool x.atF, .bool x.tags]
theorem asksMC_len (x : AsksM) : (asksMC x).length = 4 := rfl
def oform_m (act : Int) : AsksM :=
  if act = 5 then
    (⟨true, true, true, false⟩ : AsksM)
  else
    if act = 1 then
      (⟨false, true, true, false⟩ : AsksM)
    else
      if act = 2 then
        (⟨false, true, false, false⟩ : AsksM)
      else
        if act = 4 then
          (⟨true, false, false, true⟩ : AsksM)
        else
          if act = 6 then
            (⟨true, false, false, true⟩ : AsksM)
          else
            if act = 3 then
              (⟨true, false, false, false⟩ : AsksM)
            else
              (⟨false, false, false, false⟩ : AsksM)


set_option maxRecDepth 20000 in
theorem oform_ok (w : World) (act : Int) :
    Fn Try.prog 41 [.int .i64 act] w fun v w' => v = .agg (asksMC (oform_m act)).toArray ∧ Fr [] w w' := by
  refine Fn_of 22 Ty.en_41 Try.func41 rfl rfl rfl ?_
  dsimp only [argEnv]
  have st : St [] w [] [] := St.nil (X := []) (w := w) (by simp [Lo])
  have hF := Fr.refl ([]) w
  refine Wp_seq fun K1 hK1 => ?_
  refine Wp_region (Ls_a (wtd0 rfl) ?_)
  refine a_alloc rfl rfl rfl Ty.zc_101 st.hp (fun g1 w1 (hp : Hp w1 [(_, Cl [_, _, _, _] _)]) hf hg1 => ?_)
  have st : St [] w1 [(_, Cl [_, _, _, _] _)] [] := st.push hp hf hg1
  have hg1 := Nat.le_trans hF.size hg1
  have hF := hF.step0 hf
  refine Ls_nil (Th_n (hK1 _ _ ?_))
  refine Wp_seq fun K2 hK2 => ?_
  refine Wp_region (Ls_a (wtd0 rfl) ?_)
  refine a_alloc rfl rfl rfl Ty.zc_101 st.hp (fun g2 w2 (hp : Hp w2 [(_, Cl [_, _, _, _] _), (_, Cl [_, _, _, _] _)]) hf hg2 => ?_)
  have st : St [] w2 [(_, Cl [_, _, _, _] _), (_, Cl [_, _, _, _] _)] [] := st.push hp hf hg2
  have hg2 := Nat.le_trans hF.size hg2
  have hF := hF.step0 hf
  refine Ls_nil (Th_n (hK2 _ _ ?_))
  refine Wp_seq fun K3 hK3 => ?_
  refine Wp_seq fun K4 hK4 => ?_
  refine Wp_region (Lmv rfl rfl rfl rfl rfl (Ls_nil (Th_n (hK4 _ _ ?_))))
  refine Wp_block (Wp_seq fun K5 hK5 => ?_)
  refine Wp_block (Wp_seq fun K6 hK6 => ?_)
  refine Wp_block (Wp_seq fun K7 hK7 => ?_)
  refine Wp_block (Wp_seq fun K8 hK8 => ?_)
  refine Wp_block (Wp_seq fun K9 hK9 => ?_)
  refine Wp_block (Wp_seq fun K10 hK10 => ?_)
  refine Wp_seq fun K11 hK11 => ?_
  refine Wp_seq fun K12 hK12 => ?_
  refine Wp_region (Ls_y (wtd0 rfl) rfl rfl (y_eq rfl rfl rfl) (Las rfl rfl rfl rfl rfl (Ls_nil (Th_n (hK12 _ _ ?_)))))
  refine Wp_cond rfl (fun hc1 => ?_) (fun hc1 => ?_)
  · have hc1 := eT hc1
    refine Wp_exit (Th_e (Th_e (Ib_hit (Th_n (hK9 _ _ ?_)))))
    refine Wp_region (Ls_y (wtd0 rfl) rfl rfl (y_fld rfl rfl Ty.fo_101_0) (Ls_a (wtd0 rfl) ?_))
    refine a_store (i := 1) rfl rfl rfl rfl rfl Ty.sz_4 rfl st.hp rfl (by simp) (fun w3 (hp : Hp w3 [(_, Cl [_, _, _, _] _), (_, Cl [_, _, _, _] _)]) hf _ => ?_)
    have st : St [] w3 [(_, Cl [_, _, _, _] _), (_, Cl [_, _, _, _] _)] [] := st.set (i := 1) rfl hp hf
    have hF := hF.step hf (by intro y hy; simp only [List.mem_cons, List.not_mem_nil, or_false] at hy; subst hy; first | (exact Or.inr (by omega)) | (exact Or.inl (kin0 _ _)) | (exact Or.inl (by simp)))
    refine Ls_nil (Ib_n (Th_n (hK8 _ _ ?_)))
    refine Wp_region (Ls_y (wtd0 rfl) rfl rfl (y_fld rfl rfl Ty.fo_101_2) (Ls_a (wtd0 rfl) ?_))
    refine a_store (i := 1) rfl rfl rfl rfl rfl Ty.sz_4 rfl st.hp rfl (by simp) (fun w4 (hp : Hp w4 [(_, Cl [_, _, _, _] _), (_, Cl [_, _, _, _] _)]) hf _ => ?_)
    have st : St [] w4 [(_, Cl [_, _, _, _] _), (_, Cl [_, _, _, _] _)] [] := st.set (i := 1) rfl hp hf
    have hF := hF.step hf (by intro y hy; simp only [List.mem_cons, List.not_mem_nil, or_false] at hy; subst hy; first | (exact Or.inr (by omega)) | (exact Or.inl (kin0 _ _)) | (exact Or.inl (by simp)))
    refine Ls_nil (Ib_n (Th_n (hK7 _ _ ?_)))
    refine Wp_seq fun K13 hK13 => ?_
    refine Wp_region (Ls_y (wtd0 rfl) rfl rfl (y_fld rfl rfl Ty.fo_101_1) (Ls_a (wtd0 rfl) ?_))
    refine a_store (i := 1) rfl rfl rfl rfl rfl Ty.sz_4 rfl st.hp rfl (by simp) (fun w5 (hp : Hp w5 [(_, Cl [_, _, _, _] _), (_, Cl [_, _, _, _] _)]) hf _ => ?_)
    have st : St [] w5 [(_, Cl [_, _, _, _] _), (_, Cl [_, _, _, _] _)] [] := st.set (i := 1) rfl hp hf
    have hF := hF.step hf (by intro y hy; simp only [List.mem_cons, List.not_mem_nil, or_false] at hy; subst hy; first | (exact Or.inr (by omega)) | (exact Or.inl (kin0 _ _)) | (exact Or.inl (by simp)))
    refine Ls_nil (Th_n (hK13 _ _ ?_))
    refine Wp_exit (Ib_miss rfl (Th_e (Ib_miss rfl (Th_e (Ib_hit (Th_n (hK3 _ _ ?_)))))))
    refine Wp_seq fun K14 hK14 => ?_
    refine Wp_region (Ls_y (wtd0 rfl) rfl rfl (y_loadw (i := 1) rfl rfl Ty.ag_101 (fun _ e => e ▸ st.hp) rfl rfl) ?_)
    refine Ls_a (wtd0 rfl) ?_
    refine a_storew (i := 0) rfl rfl rfl rfl Ty.sz_101 rfl (by first | assumption | (simp [Value.oneCell']; done)) st.hp rfl rfl (fun w6 (hp : Hp w6 [(_, Cl [_, _, _, _] _), (_, Cl [_, _, _, _] _)]) hf _ => ?_)
    have st : St [] w6 [(_, Cl [_, _, _, _] _), (_, Cl [_, _, _, _] _)] [] := st.set (i := 0) rfl hp hf
    have hF := hF.step hf (by intro y hy; simp only [List.mem_cons, List.not_mem_nil, or_false] at hy; subst hy; first | (exact Or.inr (by omega)) | (exact Or.inl (kin0 _ _)) | (exact Or.inl (by simp)))
    refine Ls_nil (Th_n (hK14 _ _ ?_))
    refine Wp_ret (Fq_ret (ResN1 rfl (rvc (i := 0) rfl Ty.ag_101 st.hp rfl rfl)) ?_)
    have he1 : oform_m act = (⟨true, true, true, false⟩ : AsksM) := by unfold oform_m; rewrite [if_pos hc1]; rfl
    rewrite [he1]
    exact ⟨rfl, hF⟩
  have hc1 := eF hc1
  refine Wp_skip (Th_n (hK11 _ _ ?_))
  refine Wp_seq fun K15 hK15 => ?_
  refine Wp_seq fun K16 hK16 => ?_
  refine Wp_region (Ls_y (wtd0 rfl) rfl rfl (y_eq rfl rfl rfl) (Las rfl rfl rfl rfl rfl (Ls_nil (Th_n (hK16 _ _ ?_)))))
  refine Wp_cond rfl (fun hc2 => ?_) (fun hc2 => ?_)
  · have hc2 := eT hc2
    refine Wp_exit (Th_e (Th_e (Ib_miss rfl (Th_e (Ib_hit (Th_n (hK8 _ _ ?_)))))))
    refine Wp_region (Ls_y (wtd0 rfl) rfl rfl (y_fld rfl rfl Ty.fo_101_2) (Ls_a (wtd0 rfl) ?_))
    refine a_store (i := 1) rfl rfl rfl rfl rfl Ty.sz_4 rfl st.hp rfl (by simp) (fun w7 (hp : Hp w7 [(_, Cl [_, _, _, _] _), (_, Cl [_, _, _, _] _)]) hf _ => ?_)
    have st : St [] w7 [(_, Cl [_, _, _, _] _), (_, Cl [_, _, _, _] _)] [] := st.set (i := 1) rfl hp hf
    have hF := hF.step hf (by intro y hy; simp only [List.mem_cons, List.not_mem_nil, or_false] at hy; subst hy; first | (exact Or.inr (by omega)) | (exact Or.inl (kin0 _ _)) | (exact Or.inl (by simp)))
    refine Ls_nil (Ib_n (Th_n (hK7 _ _ ?_)))
    refine Wp_seq fun K17 hK17 => ?_
    refine Wp_region (Ls_y (wtd0 rfl) rfl rfl (y_fld rfl rfl Ty.fo_101_1) (Ls_a (wtd0 rfl) ?_))
    refine a_store (i := 1) rfl rfl rfl rfl rfl Ty.sz_4 rfl st.hp rfl (by simp) (fun w8 (hp : Hp w8 [(_, Cl [_, _, _, _] _), (_, Cl [_, _, _, _] _)]) hf _ => ?_)
    have st : St [] w8 [(_, Cl [_, _, _, _] _), (_, Cl [_, _, _, _] _)] [] := st.set (i := 1) rfl hp hf
    have hF := hF.step hf (by intro y hy; simp only [List.mem_cons, List.not_mem_nil, or_false] at hy; subst hy; first | (exact Or.inr (by omega)) | (exact Or.inl (kin0 _ _)) | (exact Or.inl (by simp)))
    refine Ls_nil (Th_n (hK17 _ _ ?_))
    refine Wp_exit (Ib_miss rfl (Th_e (Ib_miss rfl (Th_e (Ib_hit (Th_n (hK3 _ _ ?_)))))))
    refine Wp_seq fun K18 hK18 => ?_
    refine Wp_region (Ls_y (wtd0 rfl) rfl rfl (y_loadw (i := 1) rfl rfl Ty.ag_101 (fun _ e => e ▸ st.hp) rfl rfl) ?_)
    refine Ls_a (wtd0 rfl) ?_
    refine a_storew (i := 0) rfl rfl rfl rfl Ty.sz_101 rfl (by first | assumption | (simp [Value.oneCell']; done)) st.hp rfl rfl (fun w9 (hp : Hp w9 [(_, Cl [_, _, _, _] _), (_, Cl [_, _, _, _] _)]) hf _ => ?_)
    have st : St [] w9 [(_, Cl [_, _, _, _] _), (_, Cl [_, _, _, _] _)] [] := st.set (i := 0) rfl hp hf
    have hF := hF.step hf (by intro y hy; simp only [List.mem_cons, List.not_mem_nil, or_false] at hy; subst hy; first | (exact Or.inr (by omega)) | (exact Or.inl (kin0 _ _)) | (exact Or.inl (by simp)))
    refine Ls_nil (Th_n (hK18 _ _ ?_))
    refine Wp_ret (Fq_ret (ResN1 rfl (rvc (i := 0) rfl Ty.ag_101 st.hp rfl rfl)) ?_)
    have he2 : oform_m act = (⟨false, true, true, false⟩ : AsksM) := by unfold oform_m; rewrite [if_neg hc1, if_pos hc2]; rfl
    rewrite [he2]
    exact ⟨rfl, hF⟩
  have hc2 := eF hc2
  refine Wp_skip (Th_n (hK15 _ _ ?_))
  refine Wp_seq fun K19 hK19 => ?_
  refine Wp_seq fun K20 hK20 => ?_
  refine Wp_region (Ls_y (wtd0 rfl) rfl rfl (y_eq rfl rfl rfl) (Las rfl rfl rfl rfl rfl (Ls_nil (Th_n (hK20 _ _ ?_)))))
  refine Wp_cond rfl (fun hc3 => ?_) (fun hc3 => ?_)
  · have hc3 := eT hc3
    refine Wp_exit (Th_e (Th_e (Ib_miss rfl (Th_e (Ib_miss rfl (Th_e (Ib_hit (Th_n (hK7 _ _ ?_)))))))))
    refine Wp_seq fun K21 hK21 => ?_
    refine Wp_region (Ls_y (wtd0 rfl) rfl rfl (y_fld rfl rfl Ty.fo_101_1) (Ls_a (wtd0 rfl) ?_))
    refine a_store (i := 1) rfl rfl rfl rfl rfl Ty.sz_4 rfl st.hp rfl (by simp) (fun w10 (hp : Hp w10 [(_, Cl [_, _, _, _] _), (_, Cl [_, _, _, _] _)]) hf _ => ?_)
    have st : St [] w10 [(_, Cl [_, _, _, _] _), (_, Cl [_, _, _, _] _)] [] := st.set (i := 1) rfl hp hf
    have hF := hF.step hf (by intro y hy; simp only [List.mem_cons, List.not_mem_nil, or_false] at hy; subst hy; first | (exact Or.inr (by omega)) | (exact Or.inl (kin0 _ _)) | (exact Or.inl (by simp)))
    refine Ls_nil (Th_n (hK21 _ _ ?_))
    refine Wp_exit (Ib_miss rfl (Th_e (Ib_miss rfl (Th_e (Ib_hit (Th_n (hK3 _ _ ?_)))))))
    refine Wp_seq fun K22 hK22 => ?_
    refine Wp_region (Ls_y (wtd0 rfl) rfl rfl (y_loadw (i := 1) rfl rfl Ty.ag_101 (fun _ e => e ▸ st.hp) rfl rfl) ?_)
    refine Ls_a (wtd0 rfl) ?_
    refine a_storew (i := 0) rfl rfl rfl rfl Ty.sz_101 rfl (by first | assumption | (simp [Value.oneCell']; done)) st.hp rfl rfl (fun w11 (hp : Hp w11 [(_, Cl [_, _, _, _] _), (_, Cl [_, _, _, _] _)]) hf _ => ?_)
    have st : St [] w11 [(_, Cl [_, _, _, _] _), (_, Cl [_, _, _, _] _)] [] := st.set (i := 0) rfl hp hf
    have hF := hF.step hf (by intro y hy; simp only [List.mem_cons, List.not_mem_nil, or_false] at hy; subst hy; first | (exact Or.inr (by omega)) | (exact Or.inl (kin0 _ _)) | (exact Or.inl (by simp)))
    refine Ls_nil (Th_n (hK22 _ _ ?_))
    refine Wp_ret (Fq_ret (ResN1 rfl (rvc (i := 0) rfl Ty.ag_101 st.hp rfl rfl)) ?_)
    have he3 : oform_m act = (⟨false, true, false, false⟩ : AsksM) := by unfold oform_m; rewrite [if_neg hc1, if_neg hc2, if_pos hc3]; rfl
    rewrite [he3]
    exact ⟨rfl, hF⟩
  have hc3 := eF hc3
  refine Wp_skip (Th_n (hK19 _ _ ?_))
  refine Wp_seq fun K23 hK23 => ?_
  refine Wp_seq fun K24 hK24 => ?_
  refine Wp_seq fun K25 hK25 => ?_
  refine Wp_region (Ls_y (wtd0 rfl) rfl rfl (y_eq rfl rfl rfl) (Las rfl rfl rfl rfl rfl (Ls_nil (Th_n (hK25 _ _ ?_)))))
  refine Wp_cond rfl (fun hc4 => ?_) (fun hc4 => ?_)
  · have hc4 := eT hc4
    refine Wp_skip (Th_n (hK24 _ _ ?_))
    refine Wp_cond rfl (fun _ => ?_) (fun hc5 => absurd hc5 (by simp [hc4]))
    refine Wp_exit (Th_e (Th_e (Ib_miss rfl (Th_e (Ib_miss rfl (Th_e (Ib_miss rfl (Th_e (Ib_hit (Th_n (hK6 _ _ ?_)))))))))))
    refine Wp_region (Ls_y (wtd0 rfl) rfl rfl (y_fld rfl rfl Ty.fo_101_3) (Ls_a (wtd0 rfl) ?_))
    refine a_store (i := 1) rfl rfl rfl rfl rfl Ty.sz_4 rfl st.hp rfl (by simp) (fun w12 (hp : Hp w12 [(_, Cl [_, _, _, _] _), (_, Cl [_, _, _, _] _)]) hf _ => ?_)
    have st : St [] w12 [(_, Cl [_, _, _, _] _), (_, Cl [_, _, _, _] _)] [] := st.set (i := 1) rfl hp hf
    have hF := hF.step hf (by intro y hy; simp only [List.mem_cons, List.not_mem_nil, or_false] at hy; subst hy; first | (exact Or.inr (by omega)) | (exact Or.inl (kin0 _ _)) | (exact Or.inl (by simp)))
    refine Ls_nil (Ib_n (Th_n (hK5 _ _ ?_)))
    refine Wp_seq fun K26 hK26 => ?_
    refine Wp_region (Ls_y (wtd0 rfl) rfl rfl (y_fld rfl rfl Ty.fo_101_0) (Ls_a (wtd0 rfl) ?_))
    refine a_store (i := 1) rfl rfl rfl rfl rfl Ty.sz_4 rfl st.hp rfl (by simp) (fun w13 (hp : Hp w13 [(_, Cl [_, _, _, _] _), (_, Cl [_, _, _, _] _)]) hf _ => ?_)
    have st : St [] w13 [(_, Cl [_, _, _, _] _), (_, Cl [_, _, _, _] _)] [] := st.set (i := 1) rfl hp hf
    have hF := hF.step hf (by intro y hy; simp only [List.mem_cons, List.not_mem_nil, or_false] at hy; subst hy; first | (exact Or.inr (by omega)) | (exact Or.inl (kin0 _ _)) | (exact Or.inl (by simp)))
    refine Ls_nil (Th_n (hK26 _ _ ?_))
    refine Wp_exit (Ib_hit (Th_n (hK3 _ _ ?_)))
    refine Wp_seq fun K27 hK27 => ?_
    refine Wp_region (Ls_y (wtd0 rfl) rfl rfl (y_loadw (i := 1) rfl rfl Ty.ag_101 (fun _ e => e ▸ st.hp) rfl rfl) ?_)
    refine Ls_a (wtd0 rfl) ?_
    refine a_storew (i := 0) rfl rfl rfl rfl Ty.sz_101 rfl (by first | assumption | (simp [Value.oneCell']; done)) st.hp rfl rfl (fun w14 (hp : Hp w14 [(_, Cl [_, _, _, _] _), (_, Cl [_, _, _, _] _)]) hf _ => ?_)
    have st : St [] w14 [(_, Cl [_, _, _, _] _), (_, Cl [_, _, _, _] _)] [] := st.set (i := 0) rfl hp hf
    have hF := hF.step hf (by intro y hy; simp only [List.mem_cons, List.not_mem_nil, or_false] at hy; subst hy; first | (exact Or.inr (by omega)) | (exact Or.inl (kin0 _ _)) | (exact Or.inl (by simp)))
    refine Ls_nil (Th_n (hK27 _ _ ?_))
    refine Wp_ret (Fq_ret (ResN1 rfl (rvc (i := 0) rfl Ty.ag_101 st.hp rfl rfl)) ?_)
    have he4 : oform_m act = (⟨true, false, false, true⟩ : AsksM) := by unfold oform_m; rewrite [if_neg hc1, if_neg hc2, if_neg hc3, if_pos hc4]; rfl
    rewrite [he4]
    exact ⟨rfl, hF⟩
  have hc4 := eF hc4
  refine Wp_region (Ls_y (wtd0 rfl) rfl rfl (y_eq rfl rfl rfl) (Las rfl rfl rfl rfl rfl (Ls_nil (Th_n (hK24 _ _ ?_)))))
  refine Wp_cond rfl (fun hc6 => ?_) (fun hc6 => ?_)
  · have hc6 := eT hc6
    refine Wp_exit (Th_e (Th_e (Ib_miss rfl (Th_e (Ib_miss rfl (Th_e (Ib_miss rfl (Th_e (Ib_hit (Th_n (hK6 _ _ ?_)))))))))))
    refine Wp_region (Ls_y (wtd0 rfl) rfl rfl (y_fld rfl rfl Ty.fo_101_3) (Ls_a (wtd0 rfl) ?_))
    refine a_store (i := 1) rfl rfl rfl rfl rfl Ty.sz_4 rfl st.hp rfl (by simp) (fun w15 (hp : Hp w15 [(_, Cl [_, _, _, _] _), (_, Cl [_, _, _, _] _)]) hf _ => ?_)
    have st : St [] w15 [(_, Cl [_, _, _, _] _), (_, Cl [_, _, _, _] _)] [] := st.set (i := 1) rfl hp hf
    have hF := hF.step hf (by intro y hy; simp only [List.mem_cons, List.not_mem_nil, or_false] at hy; subst hy; first | (exact Or.inr (by omega)) | (exact Or.inl (kin0 _ _)) | (exact Or.inl (by simp)))
    refine Ls_nil (Ib_n (Th_n (hK5 _ _ ?_)))
    refine Wp_seq fun K28 hK28 => ?_
    refine Wp_region (Ls_y (wtd0 rfl) rfl rfl (y_fld rfl rfl Ty.fo_101_0) (Ls_a (wtd0 rfl) ?_))
    refine a_store (i := 1) rfl rfl rfl rfl rfl Ty.sz_4 rfl st.hp rfl (by simp) (fun w16 (hp : Hp w16 [(_, Cl [_, _, _, _] _), (_, Cl [_, _, _, _] _)]) hf _ => ?_)
    have st : St [] w16 [(_, Cl [_, _, _, _] _), (_, Cl [_, _, _, _] _)] [] := st.set (i := 1) rfl hp hf
    have hF := hF.step hf (by intro y hy; simp only [List.mem_cons, List.not_mem_nil, or_false] at hy; subst hy; first | (exact Or.inr (by omega)) | (exact Or.inl (kin0 _ _)) | (exact Or.inl (by simp)))
    refine Ls_nil (Th_n (hK28 _ _ ?_))
    refine Wp_exit (Ib_hit (Th_n (hK3 _ _ ?_)))
    refine Wp_seq fun K29 hK29 => ?_
    refine Wp_region (Ls_y (wtd0 rfl) rfl rfl (y_loadw (i := 1) rfl rfl Ty.ag_101 (fun _ e => e ▸ st.hp) rfl rfl) ?_)
    refine Ls_a (wtd0 rfl) ?_
    refine a_storew (i := 0) rfl rfl rfl rfl Ty.sz_101 rfl (by first | assumption | (simp [Value.oneCell']; done)) st.hp rfl rfl (fun w17 (hp : Hp w17 [(_, Cl [_, _, _, _] _), (_, Cl [_, _, _, _] _)]) hf _ => ?_)
    have st : St [] w17 [(_, Cl [_, _, _, _] _), (_, Cl [_, _, _, _] _)] [] := st.set (i := 0) rfl hp hf
    have hF := hF.step hf (by intro y hy; simp only [List.mem_cons, List.not_mem_nil, or_false] at hy; subst hy; first | (exact Or.inr (by omega)) | (exact Or.inl (kin0 _ _)) | (exact Or.inl (by simp)))
    refine Ls_nil (Th_n (hK29 _ _ ?_))
    refine Wp_ret (Fq_ret (ResN1 rfl (rvc (i := 0) rfl Ty.ag_101 st.hp rfl rfl)) ?_)
    have he5 : oform_m act = (⟨true, false, false, true⟩ : AsksM) := by unfold oform_m; rewrite [if_neg hc1, if_neg hc2, if_neg hc3, if_neg hc4, if_pos hc6]; rfl
    rewrite [he5]
    exact ⟨rfl, hF⟩
  have hc6 := eF hc6
  refine Wp_skip (Th_n (hK23 _ _ ?_))
  refine Wp_seq fun K30 hK30 => ?_
  refine Wp_region (Ls_y (wtd0 rfl) rfl rfl (y_eq rfl rfl rfl) (Las rfl rfl rfl rfl rfl (Ls_nil (Th_n (hK30 _ _ ?_)))))
  refine Wp_cond rfl (fun hc7 => ?_) (fun hc7 => ?_)
  · have hc7 := eT hc7
    refine Wp_exit (Th_e (Ib_miss rfl (Th_e (Ib_miss rfl (Th_e (Ib_miss rfl (Th_e (Ib_miss rfl (Th_e (Ib_hit (Th_n (hK5 _ _ ?_))))))))))))
    refine Wp_seq fun K31 hK31 => ?_
    refine Wp_region (Ls_y (wtd0 rfl) rfl rfl (y_fld rfl rfl Ty.fo_101_0) (Ls_a (wtd0 rfl) ?_))
    refine a_store (i := 1) rfl rfl rfl rfl rfl Ty.sz_4 rfl st.hp rfl (by simp) (fun w18 (hp : Hp w18 [(_, Cl [_, _, _, _] _), (_, Cl [_, _, _, _] _)]) hf _ => ?_)
    have st : St [] w18 [(_, Cl [_, _, _, _] _), (_, Cl [_, _, _, _] _)] [] := st.set (i := 1) rfl hp hf
    have hF := hF.step hf (by intro y hy; simp only [List.mem_cons, List.not_mem_nil, or_false] at hy; subst hy; first | (exact Or.inr (by omega)) | (exact Or.inl (kin0 _ _)) | (exact Or.inl (by simp)))
    refine Ls_nil (Th_n (hK31 _ _ ?_))
    refine Wp_exit (Ib_hit (Th_n (hK3 _ _ ?_)))
    refine Wp_seq fun K32 hK32 => ?_
    refine Wp_region (Ls_y (wtd0 rfl) rfl rfl (y_loadw (i := 1) rfl rfl Ty.ag_101 (fun _ e => e ▸ st.hp) rfl rfl) ?_)
    refine Ls_a (wtd0 rfl) ?_
    refine a_storew (i := 0) rfl rfl rfl rfl Ty.sz_101 rfl (by first | assumption | (simp [Value.oneCell']; done)) st.hp rfl rfl (fun w19 (hp : Hp w19 [(_, Cl [_, _, _, _] _), (_, Cl [_, _, _, _] _)]) hf _ => ?_)
    have st : St [] w19 [(_, Cl [_, _, _, _] _), (_, Cl [_, _, _, _] _)] [] := st.set (i := 0) rfl hp hf
    have hF := hF.step hf (by intro y hy; simp only [List.mem_cons, List.not_mem_nil, or_false] at hy; subst hy; first | (exact Or.inr (by omega)) | (exact Or.inl (kin0 _ _)) | (exact Or.inl (by simp)))
    refine Ls_nil (Th_n (hK32 _ _ ?_))
    refine Wp_ret (Fq_ret (ResN1 rfl (rvc (i := 0) rfl Ty.ag_101 st.hp rfl rfl)) ?_)
    have he6 : oform_m act = (⟨true, false, false, false⟩ : AsksM) := by unfold oform_m; rewrite [if_neg hc1, if_neg hc2, if_neg hc3, if_neg hc4, if_neg hc6, if_pos hc7]; rfl
    rewrite [he6]
    exact ⟨rfl, hF⟩
  have hc7 := eF hc7
  refine Wp_skip (Th_n (hK10 _ _ ?_))
  refine Wp_exit (Ib_miss rfl (Th_e (Ib_miss rfl (Th_e (Ib_miss rfl (Th_e (Ib_miss rfl (Th_e (Ib_miss rfl (Th_e (Ib_hit (Th_n (hK3 _ _ ?_)))))))))))))
  refine Wp_seq fun K33 hK33 => ?_
  refine Wp_region (Ls_y (wtd0 rfl) rfl rfl (y_loadw (i := 1) rfl rfl Ty.ag_101 (fun _ e => e ▸ st.hp) rfl rfl) ?_)
  refine Ls_a (wtd0 rfl) ?_
  refine a_storew (i := 0) rfl rfl rfl rfl Ty.sz_101 rfl (by first | assumption | (simp [Value.oneCell']; done)) st.hp rfl rfl (fun w20 (hp : Hp w20 [(_, Cl [_, _, _, _] _), (_, Cl [_, _, _, _] _)]) hf _ => ?_)
  have st : St [] w20 [(_, Cl [_, _, _, _] _), (_, Cl [_, _, _, _] _)] [] := st.set (i := 0) rfl hp hf
  have hF := hF.step hf (by intro y hy; simp only [List.mem_cons, List.not_mem_nil, or_false] at hy; subst hy; first | (exact Or.inr (by omega)) | (exact Or.inl (kin0 _ _)) | (exact Or.inl (by simp)))
  refine Ls_nil (Th_n (hK33 _ _ ?_))
  refine Wp_ret (Fq_ret (ResN1 rfl (rvc (i := 0) rfl Ty.ag_101 st.hp rfl rfl)) ?_)
  have he7 : oform_m act = (⟨false, false, false, false⟩ : AsksM) := by unfold oform_m; rewrite [if_neg hc1, if_neg hc2, if_neg hc3, if_neg hc4, if_neg hc6, if_neg hc7]; rfl
  rewrite [he7]
  exact ⟨rfl, hF⟩

def otimed_m (s : StampM) : Bool :=
  if (lcheck_m s) = 0 then
    decide (0 < s.time)
  else
    false


set_option maxRecDepth 20000 in
theorem otimed_ok (w : World) (s : StampM) :
    Fn Try.prog 20 [.agg (stampMC s).toArray] w fun v w' => v = .bool (otimed_m s) ∧ Fr [] w w' := by
  refine Fn_of 11 Ty.en_20 Try.func20 rfl rfl rfl ?_
  dsimp only [argEnv]
  have st : St [] w [] [] := St.nil (X := []) (w := w) (by simp [Lo])
  have hF := Fr.refl ([]) w
  refine Wp_seq fun K1 hK1 => ?_
  refine Wp_region (Ls_a (wtd0 rfl) ?_)
  refine a_box rfl rfl rfl rfl st.hp (fun g1 w1 (hp : Hp w1 [(_, Cl [_, _] _)]) hf hg1 => ?_)
  have st : St [] w1 [(_, Cl [_, _] _)] [] := st.push hp hf hg1
  have hg1 := Nat.le_trans hF.size hg1
  have hF := hF.step0 hf
  refine Las rfl rfl rfl rfl rfl (Ls_nil (Th_n (hK1 _ _ ?_)))
  refine Wp_seq fun K2 hK2 => ?_
  refine Wp_region (Ls_y (wtd0 rfl) rfl rfl (y_loadw (i := 0) rfl rfl Ty.ag_24 (fun _ e => e ▸ st.hp) rfl rfl) ?_)
  refine Ls_a (wtd0 rfl) ?_
  refine a_call rfl rfl rfl rfl (lcheck_ok _ s) (fun v w2 ⟨hv, hf⟩ => ?_)
  subst hv
  have st := st.keep0 hf
  have hF := hF.step0 hf
  have st : St [] w2 [(_, Cl [_, _] _)] [] := st
  refine Ls_y (wtd0 rfl) rfl rfl (y_eq rfl rfl rfl) (Lmv rfl rfl rfl rfl rfl (Ls_bool 6 rfl (fun hc1 => ?_) (fun hc1 => ?_)))
  · have hc1 := eT hc1
    refine Ls_y (wtdT rfl rfl rfl) rfl rfl (y_fld rfl rfl Ty.fo_24_0) (Ls_y (wtdT rfl rfl rfl) rfl rfl (y_load (i := 0) rfl rfl Ty.pl_22 (fun _ e => e ▸ st.hp) rfl rfl) ?_)
    refine Ls_y (wtdT rfl rfl rfl) rfl rfl (y_gt rfl rfl rfl) (Ls_y (wtd0 rfl) rfl rfl (y_pick_t rfl rfl rfl) (Las rfl rfl rfl rfl rfl (Ls_nil (Th_n (hK2 _ _ ?_)))))
    refine Wp_ret (Fq_ret (Res1 rfl rfl) ?_)
    have he1 : otimed_m s = (decide (0 < s.time)) := by unfold otimed_m; rewrite [if_pos hc1]; rfl
    rewrite [he1]
    exact ⟨rfl, hF⟩
  have hc1 := eF hc1
  refine Ls_s (wtdF rfl rfl rfl) rfl rfl (Ls_s (wtdF rfl rfl rfl) rfl rfl (Ls_s (wtdF rfl rfl rfl) rfl rfl (Ls_y (wtd0 rfl) rfl rfl (y_pick_f rfl rfl rfl) (Las rfl rfl rfl rfl rfl (Ls_nil (Th_n (hK2 _ _ ?_)))))))
  refine Wp_ret (Fq_ret (Res1 rfl rfl) ?_)
  have he2 : otimed_m s = false := by unfold otimed_m; rewrite [if_neg hc1]; rfl
  rewrite [he2]
  exact ⟨rfl, hF⟩

def bnotTag_m (t : TagM) : Bool :=
  (icheckTag_m t) != 0


set_option maxRecDepth 20000 in
theorem bnotTag_ok (w : World) (t : TagM) :
    Fn Try.prog 19 [.agg (tagMC t).toArray] w fun v w' => v = .bool (bnotTag_m t) ∧ Fr [] w w' := by
  refine Fn_of 6 Ty.en_19 Try.func19 rfl rfl rfl ?_
  dsimp only [argEnv]
  have st : St [] w [] [] := St.nil (X := []) (w := w) (by simp [Lo])
  have hF := Fr.refl ([]) w
  refine Wp_seq fun K1 hK1 => ?_
  refine Wp_region (Ls_a (wtd0 rfl) ?_)
  refine a_box rfl rfl rfl rfl st.hp (fun g1 w1 (hp : Hp w1 [(_, Cl [_, _, _] _)]) hf hg1 => ?_)
  have st : St [] w1 [(_, Cl [_, _, _] _)] [] := st.push hp hf hg1
  have hg1 := Nat.le_trans hF.size hg1
  have hF := hF.step0 hf
  refine Las rfl rfl rfl rfl rfl (Ls_nil (Th_n (hK1 _ _ ?_)))
  refine Wp_seq fun K2 hK2 => ?_
  refine Wp_region (Ls_y (wtd0 rfl) rfl rfl (y_loadw (i := 0) rfl rfl Ty.ag_43 (fun _ e => e ▸ st.hp) rfl rfl) ?_)
  refine Ls_a (wtd0 rfl) ?_
  refine a_call rfl rfl rfl rfl (icheckTag_ok _ t) (fun v w2 ⟨hv, hf⟩ => ?_)
  subst hv
  have st := st.keep0 hf
  have hF := hF.step0 hf
  have st : St [] w2 [(_, Cl [_, _, _] _)] [] := st
  refine Ls_y (wtd0 rfl) rfl rfl (y_ne rfl rfl rfl) (Las rfl rfl rfl rfl rfl (Ls_nil (Th_n (hK2 _ _ ?_))))
  refine Wp_ret (Fq_ret (Res1 rfl rfl) ?_)
  have he1 : bnotTag_m t = ((icheckTag_m t) != 0) := by unfold bnotTag_m; rfl
  rewrite [he1]
  exact ⟨rfl, hF⟩

def ocheckOp_c1 (o : OpM) : Bool :=
  (if ((oform_m o.act).name) = true then !(oelem_m o.name) else false)

def ocheckOp_c2 (o : OpM) : Bool :=
  (if ((oform_m o.act).name) = true then false else o.name != [])

def ocheckOp_c3 (o : OpM) : Bool :=
  (if ((oform_m o.act).val) = true then false else o.val != 0)

def ocheckOp_c4 (o : OpM) : Bool :=
  (if o.act = 2 then (if o.val < (-1073741824) then true else decide (1073741824 < o.val)) else false)
def ocheckOp_m (o : OpM) : Int :=
  if (okind_m o.act) = 0 then
    5
  else
    if (ocheckOp_c1 o) = true then
      3
    else
      if (ocheckOp_c2 o) = true then
        3
      else
        if (ocheckOp_c3 o) = true then
          3
        else
          if (ocheckOp_c4 o) = true then
            2
          else
            0

theorem ocheckOp_c1_iff (o : OpM) : (ocheckOp_c1 o = true) ↔ ((((oform_m o.act).name) = true) ∧ (¬ ((oelem_m o.name) = true))) := by
  unfold ocheckOp_c1; exact (ci2 (by simp))

theorem ocheckOp_c2_iff (o : OpM) : (ocheckOp_c2 o = true) ↔ (¬ (((oform_m o.act).name) = true) ∧ (¬ (o.name = []))) := by
  unfold ocheckOp_c2; exact (ci3 (by simp))

theorem ocheckOp_c3_iff (o : OpM) : (ocheckOp_c3 o = true) ↔ (¬ (((oform_m o.act).val) = true) ∧ (¬ (o.val = 0))) := by
  unfold ocheckOp_c3; exact (ci3 (by simp))

theorem ocheckOp_c4_iff (o : OpM) : (ocheckOp_c4 o = true) ↔ ((o.act = 2) ∧ ((o.val < (-1073741824)) ∨ (1073741824 < o.val))) := by
  unfold ocheckOp_c4; exact (ci2 (ci1 decide_eq_true_iff))

set_option maxRecDepth 20000 in
theorem ocheckOp_ok (w : World) (o : OpM) :
    Fn Try.prog 17 [.agg (opMC o).toArray] w fun v w' => v = .int .i64 (ocheckOp_m o) ∧ Fr [] w w' := by
  refine Fn_of 50 Ty.en_17 Try.func17 rfl rfl rfl ?_
  dsimp only [argEnv]
  have st : St [] w [] [] := St.nil (X := []) (w := w) (by simp [Lo])
  have hF := Fr.refl ([]) w
  refine Wp_seq fun K1 hK1 => ?_
  refine Wp_region (Ls_a (wtd0 rfl) ?_)
  refine a_box rfl rfl rfl rfl st.hp (fun g1 w1 (hp : Hp w1 [(_, Cl [_, _, _] _)]) hf hg1 => ?_)
  have st : St [] w1 [(_, Cl [_, _, _] _)] [] := st.push hp hf hg1
  have hg1 := Nat.le_trans hF.size hg1
  have hF := hF.step0 hf
  refine Las rfl rfl rfl rfl rfl (Ls_nil (Th_n (hK1 _ _ ?_)))
  refine Wp_seq fun K2 hK2 => ?_
  refine Wp_seq fun K3 hK3 => ?_
  refine Wp_region (Ls_y (wtd0 rfl) rfl rfl (y_fld rfl rfl Ty.fo_62_0) (Ls_y (wtd0 rfl) rfl rfl (y_load (i := 0) rfl rfl Ty.pl_3 (fun _ e => e ▸ st.hp) rfl rfl) ?_))
  refine Ls_a (wtd0 rfl) ?_
  refine a_call rfl rfl rfl rfl (okind_ok _ o.act) (fun v w2 ⟨hv, hf⟩ => ?_)
  subst hv
  have st := st.keep0 hf
  have hF := hF.step0 hf
  have st : St [] w2 [(_, Cl [_, _, _] _)] [] := st
  refine Ls_y (wtd0 rfl) rfl rfl (y_eq rfl rfl rfl) (Ls_nil (Th_n (hK3 _ _ ?_)))
  refine Wp_cond rfl (fun hc1 => ?_) (fun hc1 => ?_)
  · have hc1 := eT hc1
    refine Wp_seq fun K4 hK4 => ?_
    refine Wp_region (Las rfl rfl rfl rfl rfl (Ls_nil (Th_n (hK4 _ _ ?_))))
    refine Wp_ret (Th_r (Fq_ret (Res1 rfl rfl) ?_))
    have he1 : ocheckOp_m o = 5 := by unfold ocheckOp_m; rewrite [if_pos hc1]; rfl
    rewrite [he1]
    exact ⟨rfl, hF⟩
  have hc1 := eF hc1
  refine Wp_skip (Th_n (hK2 _ _ ?_))
  refine Wp_seq fun K5 hK5 => ?_
  refine Wp_region (Ls_y (wtd0 rfl) rfl rfl (y_fld rfl rfl Ty.fo_62_0) (Ls_y (wtd0 rfl) rfl rfl (y_load (i := 0) rfl rfl Ty.pl_3 (fun _ e => e ▸ st.hp) rfl rfl) ?_))
  refine Ls_a (wtd0 rfl) ?_
  refine a_call rfl rfl rfl rfl (oform_ok _ o.act) (fun v w3 ⟨hv, hf⟩ => ?_)
  subst hv
  have st := st.keep0 hf
  have hF := hF.step0 hf
  have st : St [] w3 [(_, Cl [_, _, _] _)] [] := st
  refine Ls_a (wtd0 rfl) ?_
  refine a_alloc rfl rfl rfl Ty.zc_101 st.hp (fun g2 w4 (hp : Hp w4 [(_, Cl [_, _, _] _), (_, Cl [_, _, _, _] _)]) hf hg2 => ?_)
  have st : St [] w4 [(_, Cl [_, _, _] _), (_, Cl [_, _, _, _] _)] [] := st.push hp hf hg2
  have hg2 := Nat.le_trans hF.size hg2
  have hF := hF.step0 hf
  refine Ls_a (wtd0 rfl) ?_
  refine a_storew (i := 1) rfl rfl rfl rfl Ty.sz_101 rfl (by first | assumption | (simp [Value.oneCell', asksMC]; done)) st.hp rfl rfl (fun w5 (hp : Hp w5 [(_, Cl [_, _, _] _), (_, Cl [_, _, _, _] _)]) hf _ => ?_)
  have st : St [] w5 [(_, Cl [_, _, _] _), (_, Cl [_, _, _, _] _)] [] := st.set (i := 1) rfl hp hf
  have hF := hF.step hf (by intro y hy; simp only [List.mem_cons, List.not_mem_nil, or_false] at hy; subst hy; first | (exact Or.inr (by omega)) | (exact Or.inl (kin0 _ _)) | (exact Or.inl (by simp)))
  refine Ls_nil (Th_n (hK5 _ _ ?_))
  refine Wp_seq fun K6 hK6 => ?_
  refine Wp_block (Wp_seq fun K7 hK7 => ?_)
  refine Wp_seq fun K8 hK8 => ?_
  refine use_out hK8 (fun E W => E = [(1, .pointer (some ⟨g1, 0, none⟩)), (3, .pointer (some ⟨g2, 0, none⟩)), (11, .bool (ocheckOp_c1 o))] ∧ St [] W (hOf st) (kOf st) ∧ Fr ([]) w W) ?_ fun hout1 => ?_
  · rintro E w6 ⟨rfl, st, hF⟩
    have st : St [] w6 [(_, Cl [_, _, _] _), (_, Cl [_, _, _, _] _)] [] := st
    refine Wp_cond rfl (fun hc2 => ?_) (fun hc2 => ?_)
    · have jhc2 := (ocheckOp_c1_iff o).1 hc2
      refine Wp_skip (Th_n (hK7 _ _ ?_))
      refine Wp_cond rfl (fun _ => ?_) (fun hc3 => absurd hc3 (by simp [hc2]))
      refine Wp_seq fun K9 hK9 => ?_
      refine Wp_region (Las rfl rfl rfl rfl rfl (Ls_nil (Th_n (hK9 _ _ ?_))))
      refine Wp_ret (Ib_r (Th_r (Fq_ret (Res1 rfl rfl) ?_)))
      have he2 : ocheckOp_m o = 3 := by unfold ocheckOp_m; rewrite [if_neg hc1, if_pos hc2]; rfl
      rewrite [he2]
      exact ⟨rfl, hF⟩
    have jhc2 := mt (ocheckOp_c1_iff o).2 (bF hc2)
    have hc2 := bF hc2
    refine Wp_seq fun K10 hK10 => ?_
    refine use_out hK10 (fun E W => E = [(1, .pointer (some ⟨g1, 0, none⟩)), (3, .pointer (some ⟨g2, 0, none⟩)), (11, .bool (ocheckOp_c2 o))] ∧ St [] W (hOf st) (kOf st) ∧ Fr ([]) w W) ?_ fun hout2 => ?_
    · rintro E w7 ⟨rfl, st, hF⟩
      have st : St [] w7 [(_, Cl [_, _, _] _), (_, Cl [_, _, _, _] _)] [] := st
      refine Wp_cond rfl (fun hc4 => ?_) (fun hc4 => ?_)
      · have jhc4 := (ocheckOp_c2_iff o).1 hc4
        refine Wp_skip (Th_n (hK7 _ _ ?_))
        refine Wp_cond rfl (fun _ => ?_) (fun hc5 => absurd hc5 (by simp [hc4]))
        refine Wp_seq fun K11 hK11 => ?_
        refine Wp_region (Las rfl rfl rfl rfl rfl (Ls_nil (Th_n (hK11 _ _ ?_))))
        refine Wp_ret (Ib_r (Th_r (Fq_ret (Res1 rfl rfl) ?_)))
        have he3 : ocheckOp_m o = 3 := by unfold ocheckOp_m; rewrite [if_neg hc1, if_neg hc2, if_pos hc4]; rfl
        rewrite [he3]
        exact ⟨rfl, hF⟩
      have jhc4 := mt (ocheckOp_c2_iff o).2 (bF hc4)
      have hc4 := bF hc4
      refine use_out hK7 (fun E W => E = [(1, .pointer (some ⟨g1, 0, none⟩)), (11, .bool (ocheckOp_c3 o))] ∧ St [] W (hOf st) (kOf st) ∧ Fr ([]) w W) ?_ fun hout3 => ?_
      · rintro E w8 ⟨rfl, st, hF⟩
        have st : St [] w8 [(_, Cl [_, _, _] _), (_, Cl [_, _, _, _] _)] [] := st
        refine Wp_cond rfl (fun hc6 => ?_) (fun hc6 => ?_)
        · have jhc6 := (ocheckOp_c3_iff o).1 hc6
          refine Wp_seq fun K12 hK12 => ?_
          refine Wp_region (Las rfl rfl rfl rfl rfl (Ls_nil (Th_n (hK12 _ _ ?_))))
          refine Wp_ret (Ib_r (Th_r (Fq_ret (Res1 rfl rfl) ?_)))
          have he4 : ocheckOp_m o = 3 := by unfold ocheckOp_m; rewrite [if_neg hc1, if_neg hc2, if_neg hc4, if_pos hc6]; rfl
          rewrite [he4]
          exact ⟨rfl, hF⟩
        have jhc6 := mt (ocheckOp_c3_iff o).2 (bF hc6)
        have hc6 := bF hc6
        refine Wp_seq fun K13 hK13 => ?_
        refine use_out hK13 (fun E W => E = [(36, .bool (ocheckOp_c4 o))] ∧ St [] W (hOf st) (kOf st) ∧ Fr ([]) w W) ?_ fun hout4 => ?_
        · rintro E w9 ⟨rfl, st, hF⟩
          have st : St [] w9 [(_, Cl [_, _, _] _), (_, Cl [_, _, _, _] _)] [] := st
          refine Wp_cond rfl (fun hc7 => ?_) (fun hc7 => ?_)
          · have jhc7 := (ocheckOp_c4_iff o).1 hc7
            refine Wp_seq fun K14 hK14 => ?_
            refine Wp_region (Las rfl rfl rfl rfl rfl (Ls_nil (Th_n (hK14 _ _ ?_))))
            refine Wp_ret (Ib_r (Th_r (Fq_ret (Res1 rfl rfl) ?_)))
            have he5 : ocheckOp_m o = 2 := by unfold ocheckOp_m; rewrite [if_neg hc1, if_neg hc2, if_neg hc4, if_neg hc6, if_pos hc7]; rfl
            rewrite [he5]
            exact ⟨rfl, hF⟩
          have jhc7 := mt (ocheckOp_c4_iff o).2 (bF hc7)
          have hc7 := bF hc7
          refine Wp_skip (Ib_n (Th_n (hK6 _ _ ?_)))
          refine Wp_seq fun K15 hK15 => ?_
          refine Wp_region (Las rfl rfl rfl rfl rfl (Ls_nil (Th_n (hK15 _ _ ?_))))
          refine Wp_ret (Fq_ret (Res1 rfl rfl) ?_)
          have he6 : ocheckOp_m o = 0 := by unfold ocheckOp_m; rewrite [if_neg hc1, if_neg hc2, if_neg hc4, if_neg hc6, if_neg hc7]; rfl
          rewrite [he6]
          exact ⟨rfl, hF⟩
        refine Wp_region (Ls_y (wtd0 rfl) rfl rfl (y_fld rfl rfl Ty.fo_62_0) (Ls_y (wtd0 rfl) rfl rfl (y_load (i := 0) rfl rfl Ty.pl_3 (fun _ e => e ▸ st.hp) rfl rfl) ?_))
        refine Ls_y (wtd0 rfl) rfl rfl (y_eq rfl rfl rfl) (Lmv rfl rfl rfl rfl rfl (Ls_bool 40 rfl (fun hc8 => ?_) (fun hc8 => ?_)))
        · have hc8 := eT hc8
          refine Ls_y (wtdT rfl rfl rfl) rfl rfl (y_fld rfl rfl Ty.fo_62_2) (Ls_y (wtdT rfl rfl rfl) rfl rfl (y_load (i := 0) rfl rfl Ty.pl_2 (fun _ e => e ▸ st.hp) rfl rfl) ?_)
          refine Ls_y (wtdT rfl rfl rfl) rfl rfl (y_lt rfl rfl rfl) (Ls_y (wtdT rfl rfl rfl) rfl rfl (y_move rfl rfl) (Ls_bool 44 rfl (fun hc9 => ?_) (fun hc9 => ?_)))
          · have hc9 := dT hc9
            refine Ls_s (wtdF rfl rfl rfl) rfl rfl (Ls_s (wtdF rfl rfl rfl) rfl rfl (Ls_s (wtdF rfl rfl rfl) rfl rfl (Ls_y (wtdT rfl rfl rfl) rfl rfl (y_pick_t rfl rfl rfl) (Ls_y (wtd0 rfl) rfl rfl (y_pick_t rfl rfl rfl) (Las rfl rfl rfl rfl rfl (Ls_nil (Th_n (?_))))))))
            have hcj1 : ocheckOp_c4 o = true := by unfold ocheckOp_c4; rewrite [if_pos hc8, if_pos hc9]; rfl
            exact hout4 _ [(36, _)] _ ⟨rfl, trivial⟩ ⟨by rw [hcj1], (st.picks [0, 1] (by decide)).pickK [], hF⟩
          have hc9 := dF hc9
          refine Ls_y (wtdT rfl rfl rfl) rfl rfl (y_fld rfl rfl Ty.fo_62_2) (Ls_y (wtdT rfl rfl rfl) rfl rfl (y_load (i := 0) rfl rfl Ty.pl_2 (fun _ e => e ▸ st.hp) rfl rfl) ?_)
          refine Ls_y (wtdT rfl rfl rfl) rfl rfl (y_gt rfl rfl rfl) (Ls_y (wtdT rfl rfl rfl) rfl rfl (y_pick_f rfl rfl rfl) (Ls_y (wtd0 rfl) rfl rfl (y_pick_t rfl rfl rfl) (Las rfl rfl rfl rfl rfl (Ls_nil (Th_n (?_))))))
          have hcj2 : ocheckOp_c4 o = (decide (1073741824 < o.val)) := by unfold ocheckOp_c4; rewrite [if_pos hc8, if_neg hc9]; rfl
          exact hout4 _ [(36, _)] _ ⟨rfl, trivial⟩ ⟨by rw [hcj2], (st.picks [0, 1] (by decide)).pickK [], hF⟩
        have hc8 := eF hc8
        refine Ls_s (wtdF rfl rfl rfl) rfl rfl (Ls_s (wtdF rfl rfl rfl) rfl rfl (Ls_s (wtdF rfl rfl rfl) rfl rfl (Ls_s (wtdF rfl rfl rfl) rfl rfl (Ls_s (wtdU rfl rfl rfl) rfl rfl (Ls_s (wtdU rfl rfl rfl) rfl rfl (Ls_s (wtdU rfl rfl rfl) rfl rfl (Ls_s (wtdF rfl rfl rfl) rfl rfl (Ls_y (wtd0 rfl) rfl rfl (y_pick_f rfl rfl rfl) (Las rfl rfl rfl rfl rfl (Ls_nil (Th_n (?_))))))))))))
        have hcj3 : ocheckOp_c4 o = false := by unfold ocheckOp_c4; rewrite [if_neg hc8]; rfl
        exact hout4 _ [(36, _)] _ ⟨rfl, trivial⟩ ⟨by rw [hcj3], (st.picks [0, 1] (by decide)).pickK [], hF⟩
      refine Wp_region (Ls_y (wtd0 rfl) rfl rfl (y_fld rfl rfl Ty.fo_101_1) (Ls_y (wtd0 rfl) rfl rfl (y_load (i := 1) rfl rfl Ty.pl_4 (fun _ e => e ▸ st.hp) rfl rfl) ?_))
      refine Ls_y (wtd0 rfl) rfl rfl (y_not rfl rfl) (Lmv rfl rfl rfl rfl rfl (Ls_bool 31 rfl (fun hc10 => ?_) (fun hc10 => ?_)))
      · have hc10 := bF (nT hc10)
        refine Ls_y (wtdT rfl rfl rfl) rfl rfl (y_fld rfl rfl Ty.fo_62_2) (Ls_y (wtdT rfl rfl rfl) rfl rfl (y_load (i := 0) rfl rfl Ty.pl_2 (fun _ e => e ▸ st.hp) rfl rfl) ?_)
        refine Ls_y (wtdT rfl rfl rfl) rfl rfl (y_ne rfl rfl rfl) (Ls_y (wtd0 rfl) rfl rfl (y_pick_t rfl rfl rfl) (Las rfl rfl rfl rfl rfl (Ls_nil (Th_n (?_)))))
        have hcj4 : ocheckOp_c3 o = (o.val != 0) := by unfold ocheckOp_c3; rewrite [if_neg hc10]; rfl
        exact hout3 _ [(1, _), (11, _)] _ ⟨rfl, rfl, trivial⟩ ⟨by rw [hcj4], (st.picks [0, 1] (by decide)).pickK [], hF⟩
      have hc10 := (nF hc10)
      refine Ls_s (wtdF rfl rfl rfl) rfl rfl (Ls_s (wtdF rfl rfl rfl) rfl rfl (Ls_s (wtdF rfl rfl rfl) rfl rfl (Ls_y (wtd0 rfl) rfl rfl (y_pick_f rfl rfl rfl) (Las rfl rfl rfl rfl rfl (Ls_nil (Th_n (?_)))))))
      have hcj5 : ocheckOp_c3 o = false := by unfold ocheckOp_c3; rewrite [if_pos hc10]; rfl
      exact hout3 _ [(1, _), (11, _)] _ ⟨rfl, rfl, trivial⟩ ⟨by rw [hcj5], (st.picks [0, 1] (by decide)).pickK [], hF⟩
    refine Wp_region (Ls_y (wtd0 rfl) rfl rfl (y_fld rfl rfl Ty.fo_101_0) (Ls_y (wtd0 rfl) rfl rfl (y_load (i := 1) rfl rfl Ty.pl_4 (fun _ e => e ▸ st.hp) rfl rfl) ?_))
    refine Ls_y (wtd0 rfl) rfl rfl (y_not rfl rfl) (Lmv rfl rfl rfl rfl rfl (Ls_bool 23 rfl (fun hc11 => ?_) (fun hc11 => ?_)))
    · have hc11 := bF (nT hc11)
      refine Ls_y (wtdT rfl rfl rfl) rfl rfl (y_fld rfl rfl Ty.fo_62_1) (Ls_y (wtdT rfl rfl rfl) rfl rfl (y_load (i := 0) rfl rfl Ty.pl_9 (fun _ e => e ▸ st.hp) rfl rfl) ?_)
      refine Ls_y (wtdT rfl rfl rfl) rfl rfl (y_nes rfl rfl rfl) ?_
      refine Ls_y (wtd0 rfl) rfl rfl (y_pick_t rfl rfl rfl) (Las rfl rfl rfl rfl rfl (Ls_nil (Th_n (?_))))
      have hcj6 : ocheckOp_c2 o = (o.name != []) := by unfold ocheckOp_c2; rewrite [if_neg hc11]; rfl
      exact hout2 _ [(1, _), (3, _), (11, _)] _ ⟨rfl, rfl, rfl, trivial⟩ ⟨by rw [hcj6], (st.picks [0, 1] (by decide)).pickK [], hF⟩
    have hc11 := (nF hc11)
    refine Ls_s (wtdF rfl rfl rfl) rfl rfl (Ls_s (wtdF rfl rfl rfl) rfl rfl (Ls_s (wtdF rfl rfl rfl) rfl rfl (Ls_y (wtd0 rfl) rfl rfl (y_pick_f rfl rfl rfl) (Las rfl rfl rfl rfl rfl (Ls_nil (Th_n (?_)))))))
    have hcj7 : ocheckOp_c2 o = false := by unfold ocheckOp_c2; rewrite [if_pos hc11]; rfl
    exact hout2 _ [(1, _), (3, _), (11, _)] _ ⟨rfl, rfl, rfl, trivial⟩ ⟨by rw [hcj7], (st.picks [0, 1] (by decide)).pickK [], hF⟩
  refine Wp_region (Ls_y (wtd0 rfl) rfl rfl (y_fld rfl rfl Ty.fo_101_0) (Ls_y (wtd0 rfl) rfl rfl (y_load (i := 1) rfl rfl Ty.pl_4 (fun _ e => e ▸ st.hp) rfl rfl) ?_))
  refine Lmv rfl rfl rfl rfl rfl (Ls_bool 14 rfl (fun hc12 => ?_) (fun hc12 => ?_))
  · refine Ls_y (wtdT rfl rfl rfl) rfl rfl (y_fld rfl rfl Ty.fo_62_1) (Ls_y (wtdT rfl rfl rfl) rfl rfl (y_load (i := 0) rfl rfl Ty.pl_9 (fun _ e => e ▸ st.hp) rfl rfl) ?_)
    refine Ls_a (wtdT rfl rfl rfl) ?_
    refine a_call rfl rfl rfl rfl (oelem_ok _ o.name) (fun v w10 ⟨hv, hf⟩ => ?_)
    subst hv
    have st := st.keep0 hf
    have hF := hF.step0 hf
    have st : St [] w10 [(_, Cl [_, _, _] _), (_, Cl [_, _, _, _] _)] [] := st
    refine Ls_y (wtdT rfl rfl rfl) rfl rfl (y_not rfl rfl) (Ls_y (wtd0 rfl) rfl rfl (y_pick_t rfl rfl rfl) (Las rfl rfl rfl rfl rfl (Ls_nil (Th_n (?_)))))
    have hcj8 : ocheckOp_c1 o = (!(oelem_m o.name)) := by unfold ocheckOp_c1; rewrite [if_pos hc12]; rfl
    exact hout1 _ [(1, _), (3, _), (11, _)] _ ⟨rfl, rfl, rfl, trivial⟩ ⟨by rw [hcj8], (st.picks [0, 1] (by decide)).pickK [], hF⟩
  have hc12 := bF hc12
  refine Ls_s (wtdF rfl rfl rfl) rfl rfl (Ls_s (wtdF rfl rfl rfl) rfl rfl (Ls_s (wtdF rfl rfl rfl) rfl rfl (Ls_s (wtdF rfl rfl rfl) rfl rfl (Ls_y (wtd0 rfl) rfl rfl (y_pick_f rfl rfl rfl) (Las rfl rfl rfl rfl rfl (Ls_nil (Th_n (?_))))))))
  have hcj9 : ocheckOp_c1 o = false := by unfold ocheckOp_c1; rewrite [if_neg hc12]; rfl
  exact hout1 _ [(1, _), (3, _), (11, _)] _ ⟨rfl, rfl, rfl, trivial⟩ ⟨by rw [hcj9], (st.picks [0, 1] (by decide)).pickK [], hF⟩

def onew_c1 (kind : Int) : Bool :=
  (if kind < 1 then true else decide (4 < kind))
def onew_m (kind : Int) : ObjM × Int :=
  if (onew_c1 kind) = true then
    ((⟨0, (⟨0, (⟨0, 0⟩ : StampM)⟩ : RegM), (⟨0, 0⟩ : NumM), (⟨([] : List AddM), ([] : List TagM)⟩ : SetM), (⟨([] : List PutM), ([] : List TagM)⟩ : MapM)⟩ : ObjM), 5)
  else
    ((⟨kind, (⟨0, (⟨0, 0⟩ : StampM)⟩ : RegM), (⟨0, 0⟩ : NumM), (⟨([] : List AddM), ([] : List TagM)⟩ : SetM), (⟨([] : List PutM), ([] : List TagM)⟩ : MapM)⟩ : ObjM), 0)

theorem onew_c1_iff (kind : Int) : (onew_c1 kind = true) ↔ ((kind < 1) ∨ (4 < kind)) := by
  unfold onew_c1; exact (ci1 decide_eq_true_iff)

set_option maxRecDepth 20000 in
theorem onew_ok (X : List Nat) (w : World) (hX : Lo X w) (kind : Int) :
    Fn Try.prog 9 [.int .i64 kind] w fun v w' => ∃ (Ar0_setF_adds : Option Addr) (cr0_setF_adds : Nat) (Ar0_setF_gone : Option Addr) (cr0_setF_gone : Nat) (Ar0_map_puts : Option Addr) (cr0_map_puts : Nat) (Ar0_map_gone : Option Addr) (cr0_map_gone : Nat), v = .tuple #[.agg #[.int .i64 (((onew_m kind).1).kind), .int .i64 ((((onew_m kind).1).reg).val), .int .u32 ((((onew_m kind).1).reg).atF.time), .int .i64 ((((onew_m kind).1).reg).atF.origin), .int .i64 ((((onew_m kind).1).num).plus), .int .i64 ((((onew_m kind).1).num).minus), .slice Ar0_setF_adds ((((onew_m kind).1).setF).adds).length cr0_setF_adds, .slice Ar0_setF_gone ((((onew_m kind).1).setF).gone).length cr0_setF_gone, .slice Ar0_map_puts ((((onew_m kind).1).map).puts).length cr0_map_puts, .slice Ar0_map_gone ((((onew_m kind).1).map).gone).length cr0_map_gone], .int .i64 ((onew_m kind).2)] ∧ Sld X w' Ar0_setF_adds ((((onew_m kind).1).setF).adds).length cr0_setF_adds 4 (((((onew_m kind).1).setF).adds).flatMap addMC) ∧ Sld X w' Ar0_setF_gone ((((onew_m kind).1).setF).gone).length cr0_setF_gone 3 (((((onew_m kind).1).setF).gone).flatMap tagMC) ∧ Sld X w' Ar0_map_puts ((((onew_m kind).1).map).puts).length cr0_map_puts 7 (((((onew_m kind).1).map).puts).flatMap putMC) ∧ Sld X w' Ar0_map_gone ((((onew_m kind).1).map).gone).length cr0_map_gone 3 (((((onew_m kind).1).map).gone).flatMap tagMC) ∧ Fr [] w w' := by
  refine Fn_of 13 Ty.en_9 Try.func9 rfl rfl rfl ?_
  dsimp only [argEnv]
  have st : St X w [] [] := St.nil (X := X) (w := w) hX
  have hF := Fr.refl ([]) w
  refine Wp_seq fun K1 hK1 => ?_
  refine Wp_region (Ls_a (wtd0 rfl) ?_)
  refine a_alloc rfl rfl rfl Ty.zc_60 st.hp (fun g1 w1 (hp : Hp w1 [(_, Cl [_, _, _, _, _, _, _, _, _, _] _)]) hf hg1 => ?_)
  have st : St X w1 [(_, Cl [_, _, _, _, _, _, _, _, _, _] _)] [] := st.push hp hf hg1
  have hg1 := Nat.le_trans hF.size hg1
  have hF := hF.step0 hf
  refine Las rfl rfl rfl rfl rfl (Ls_nil (Th_n (hK1 _ _ ?_)))
  refine Wp_seq fun K2 hK2 => ?_
  refine Wp_seq fun K3 hK3 => ?_
  refine use_out hK3 (fun E W => E = [(0, .int .i64 kind), (2, .pointer (some ⟨g1, 0, none⟩)), (9, .bool (onew_c1 kind))] ∧ St X W (hOf st) (kOf st) ∧ Fr ([]) w W) ?_ fun hout1 => ?_
  · rintro E w2 ⟨rfl, st, hF⟩
    have st : St X w2 [(_, Cl [_, _, _, _, _, _, _, _, _, _] _)] [] := st
    refine Wp_cond rfl (fun hc1 => ?_) (fun hc1 => ?_)
    · have jhc1 := (onew_c1_iff kind).1 hc1
      refine Wp_seq fun K4 hK4 => ?_
      refine Wp_region (Ls_y (wtd0 rfl) rfl rfl (y_build (cells := [_, _, _, _, _, _, _, _, _, _]) rfl rfl Ty.zc_60 Ty.ps_60 rfl) ?_)
      refine Ls_a (wtd0 rfl) ?_
      refine a_storew (i := 0) rfl rfl rfl rfl Ty.sz_60 rfl (by first | assumption | (simp [Value.oneCell']; done)) st.hp rfl rfl (fun w3 (hp : Hp w3 [(_, Cl [_, _, _, _, _, _, _, _, _, _] _)]) hf _ => ?_)
      have st : St X w3 [(_, Cl [_, _, _, _, _, _, _, _, _, _] _)] [] := st.set (i := 0) rfl hp hf
      have hF := hF.step hf (by intro y hy; simp only [List.mem_cons, List.not_mem_nil, or_false] at hy; subst hy; first | (exact Or.inr (by omega)) | (exact Or.inl (kin0 _ _)) | (exact Or.inl (by simp)))
      refine Las rfl rfl rfl rfl rfl (Ls_nil (Th_n (hK4 _ _ ?_)))
      have st := st.addK (kS none 0 0 4 []) ⟨Rdx.nil, by simp, Nat.le_refl _, Nat.zero_le _⟩
      have st : St X w3 [(_, Cl [_, _, _, _, _, _, _, _, _, _] _)] [_] := st
      have st := st.addK (kS none 0 0 3 []) ⟨Rdx.nil, by simp, Nat.le_refl _, Nat.zero_le _⟩
      have st : St X w3 [(_, Cl [_, _, _, _, _, _, _, _, _, _] _)] [_, _] := st
      have st := st.addK (kS none 0 0 7 []) ⟨Rdx.nil, by simp, Nat.le_refl _, Nat.zero_le _⟩
      have st : St X w3 [(_, Cl [_, _, _, _, _, _, _, _, _, _] _)] [_, _, _] := st
      have st := st.addK (kS none 0 0 3 []) ⟨Rdx.nil, by simp, Nat.le_refl _, Nat.zero_le _⟩
      have st : St X w3 [(_, Cl [_, _, _, _, _, _, _, _, _, _] _)] [_, _, _, _] := st
      refine Wp_ret (Th_r (Fq_ret (ResN2 rfl (rvc (i := 0) rfl Ty.ag_60 st.hp rfl rfl) rfl) ?_))
      have he1 : onew_m kind = ((⟨0, (⟨0, (⟨0, 0⟩ : StampM)⟩ : RegM), (⟨0, 0⟩ : NumM), (⟨([] : List AddM), ([] : List TagM)⟩ : SetM), (⟨([] : List PutM), ([] : List TagM)⟩ : MapM)⟩ : ObjM), 5) := by unfold onew_m; rewrite [if_pos hc1]; rfl
      rewrite [he1]
      exact ⟨_, _, _, _, _, _, _, _, rfl, st.out (i := 0) rfl, st.out (i := 1) rfl, st.out (i := 2) rfl, st.out (i := 3) rfl, hF⟩
    have jhc1 := mt (onew_c1_iff kind).2 (bF hc1)
    have hc1 := bF hc1
    refine Wp_skip (Th_n (hK2 _ _ ?_))
    refine Wp_seq fun K5 hK5 => ?_
    refine Wp_region (Lmv rfl rfl rfl rfl rfl (Ls_y (wtd0 rfl) rfl rfl (y_build (cells := [_, _, _, _, _, _, _, _, _, _]) rfl rfl Ty.zc_60 Ty.ps_60 rfl) ?_))
    refine Ls_a (wtd0 rfl) ?_
    refine a_storew (i := 0) rfl rfl rfl rfl Ty.sz_60 rfl (by first | assumption | (simp [Value.oneCell']; done)) st.hp rfl rfl (fun w4 (hp : Hp w4 [(_, Cl [_, _, _, _, _, _, _, _, _, _] _)]) hf _ => ?_)
    have st : St X w4 [(_, Cl [_, _, _, _, _, _, _, _, _, _] _)] [] := st.set (i := 0) rfl hp hf
    have hF := hF.step hf (by intro y hy; simp only [List.mem_cons, List.not_mem_nil, or_false] at hy; subst hy; first | (exact Or.inr (by omega)) | (exact Or.inl (kin0 _ _)) | (exact Or.inl (by simp)))
    refine Las rfl rfl rfl rfl rfl (Ls_nil (Th_n (hK5 _ _ ?_)))
    have st := st.addK (kS none 0 0 4 []) ⟨Rdx.nil, by simp, Nat.le_refl _, Nat.zero_le _⟩
    have st : St X w4 [(_, Cl [_, _, _, _, _, _, _, _, _, _] _)] [_] := st
    have st := st.addK (kS none 0 0 3 []) ⟨Rdx.nil, by simp, Nat.le_refl _, Nat.zero_le _⟩
    have st : St X w4 [(_, Cl [_, _, _, _, _, _, _, _, _, _] _)] [_, _] := st
    have st := st.addK (kS none 0 0 7 []) ⟨Rdx.nil, by simp, Nat.le_refl _, Nat.zero_le _⟩
    have st : St X w4 [(_, Cl [_, _, _, _, _, _, _, _, _, _] _)] [_, _, _] := st
    have st := st.addK (kS none 0 0 3 []) ⟨Rdx.nil, by simp, Nat.le_refl _, Nat.zero_le _⟩
    have st : St X w4 [(_, Cl [_, _, _, _, _, _, _, _, _, _] _)] [_, _, _, _] := st
    refine Wp_ret (Fq_ret (ResN2 rfl (rvc (i := 0) rfl Ty.ag_60 st.hp rfl rfl) rfl) ?_)
    have he2 : onew_m kind = ((⟨kind, (⟨0, (⟨0, 0⟩ : StampM)⟩ : RegM), (⟨0, 0⟩ : NumM), (⟨([] : List AddM), ([] : List TagM)⟩ : SetM), (⟨([] : List PutM), ([] : List TagM)⟩ : MapM)⟩ : ObjM), 0) := by unfold onew_m; rewrite [if_neg hc1]; rfl
    rewrite [he2]
    exact ⟨_, _, _, _, _, _, _, _, rfl, st.out (i := 0) rfl, st.out (i := 1) rfl, st.out (i := 2) rfl, st.out (i := 3) rfl, hF⟩
  refine Wp_region (Lmv rfl rfl rfl rfl rfl (Ls_y (wtd0 rfl) rfl rfl (y_lt rfl rfl rfl) (Lmv rfl rfl rfl rfl rfl (Ls_bool 6 rfl (fun hc2 => ?_) (fun hc2 => ?_)))))
  · have hc2 := dT hc2
    refine Ls_s (wtdF rfl rfl rfl) rfl rfl (Ls_s (wtdF rfl rfl rfl) rfl rfl (Ls_y (wtd0 rfl) rfl rfl (y_pick_t rfl rfl rfl) (Ls_nil (Th_n (?_)))))
    have hcj1 : onew_c1 kind = true := by unfold onew_c1; rewrite [if_pos hc2]; rfl
    exact hout1 _ [(0, _), (2, _), (9, _)] _ ⟨rfl, rfl, rfl, trivial⟩ ⟨by rw [hcj1], (st.picks [0] (by decide)).pickK [], hF⟩
  have hc2 := dF hc2
  refine Ls_y (wtdT rfl rfl rfl) rfl rfl (y_move rfl rfl) (Ls_y (wtdT rfl rfl rfl) rfl rfl (y_gt rfl rfl rfl) (Ls_y (wtd0 rfl) rfl rfl (y_pick_f rfl rfl rfl) (Ls_nil (Th_n (?_)))))
  have hcj2 : onew_c1 kind = (decide (4 < kind)) := by unfold onew_c1; rewrite [if_neg hc2]; rfl
  exact hout1 _ [(0, _), (2, _), (9, _)] _ ⟨rfl, rfl, rfl, trivial⟩ ⟨by rw [hcj2], (st.picks [0] (by decide)).pickK [], hF⟩

def great12_m (s : SetM) : Bool :=
  if 200 < (s.adds.length : Int) then
    true
  else
    decide (200 < (s.gone.length : Int))


set_option maxRecDepth 20000 in
theorem great12_ok (X : List Nat) (w : World) (hX : Lo X w) (s : SetM) (A_s_adds : Option Addr) (c_s_adds : Nat) (A_s_gone : Option Addr) (c_s_gone : Nat) (h_s_adds : Sld X w A_s_adds s.adds.length c_s_adds 4 (s.adds.flatMap addMC)) (h_s_gone : Sld X w A_s_gone s.gone.length c_s_gone 3 (s.gone.flatMap tagMC)) :
    Fn Try.prog 15 [.agg #[.slice A_s_adds s.adds.length c_s_adds, .slice A_s_gone s.gone.length c_s_gone]] w fun v w' => v = .bool (great12_m s) ∧ Fr [] w w' := by
  refine Fn_of 13 Ty.en_15 Try.func15 rfl rfl rfl ?_
  dsimp only [argEnv]
  have st : St X w [] [kS A_s_adds s.adds.length c_s_adds 4 (s.adds.flatMap addMC), kS A_s_gone s.gone.length c_s_gone 3 (s.gone.flatMap tagMC)] := ((St.nil (X := X) (w := w) hX).addK (kS A_s_adds s.adds.length c_s_adds 4 (s.adds.flatMap addMC)) h_s_adds).addK (kS A_s_gone s.gone.length c_s_gone 3 (s.gone.flatMap tagMC)) h_s_gone
  have hF := Fr.refl ([]) w
  have hleA_s_adds := (st.k (i := 0) rfl).le
  have hleA_s_gone := (st.k (i := 1) rfl).le
  refine Wp_seq fun K1 hK1 => ?_
  refine Wp_region (Ls_a (wtd0 rfl) ?_)
  refine a_box rfl rfl rfl rfl st.hp (fun g1 w1 (hp : Hp w1 [(_, Cl [_, _] _)]) hf hg1 => ?_)
  have st : St X w1 [(_, Cl [_, _] _)] [_, _] := st.push hp hf hg1
  have hg1 := Nat.le_trans hF.size hg1
  have hF := hF.step0 hf
  refine Las rfl rfl rfl rfl rfl (Ls_nil (Th_n (hK1 _ _ ?_)))
  refine Wp_seq fun K2 hK2 => ?_
  refine Wp_region (Ls_y (wtd0 rfl) rfl rfl (y_fld rfl rfl Ty.fo_32_0) (Ls_y (wtd0 rfl) rfl rfl (y_load (i := 0) rfl rfl Ty.pl_29 (fun _ e => e ▸ st.hp) rfl rfl) ?_))
  refine Ls_y (wtd0 rfl) rfl rfl (y_lenl rfl rfl Try.underlying29) ?_
  refine Ls_y (wtd0 rfl) rfl rfl (y_gt rfl rfl rfl) (Lmv rfl rfl rfl rfl rfl (Ls_bool 7 rfl (fun hc1 => ?_) (fun hc1 => ?_)))
  · have hc1 := dT hc1
    refine Ls_s (wtdF rfl rfl rfl) rfl rfl (Ls_s (wtdF rfl rfl rfl) rfl rfl (Ls_s (wtdF rfl rfl rfl) rfl rfl (Ls_s (wtdF rfl rfl rfl) rfl rfl (Ls_y (wtd0 rfl) rfl rfl (y_pick_t rfl rfl rfl) (Las rfl rfl rfl rfl rfl (Ls_nil (Th_n (hK2 _ _ ?_))))))))
    refine Wp_ret (Fq_ret (Res1 rfl rfl) ?_)
    have he1 : great12_m s = true := by unfold great12_m; rewrite [if_pos hc1]; rfl
    rewrite [he1]
    exact ⟨rfl, hF⟩
  have hc1 := dF hc1
  refine Ls_y (wtdT rfl rfl rfl) rfl rfl (y_fld rfl rfl Ty.fo_32_1) (Ls_y (wtdT rfl rfl rfl) rfl rfl (y_load (i := 0) rfl rfl Ty.pl_30 (fun _ e => e ▸ st.hp) rfl rfl) ?_)
  refine Ls_y (wtdT rfl rfl rfl) rfl rfl (y_lenl rfl rfl Try.underlying30) ?_
  refine Ls_y (wtdT rfl rfl rfl) rfl rfl (y_gt rfl rfl rfl) (Ls_y (wtd0 rfl) rfl rfl (y_pick_f rfl rfl rfl) (Las rfl rfl rfl rfl rfl (Ls_nil (Th_n (hK2 _ _ ?_)))))
  refine Wp_ret (Fq_ret (Res1 rfl rfl) ?_)
  have he2 : great12_m s = (decide (200 < (s.gone.length : Int))) := by unfold great12_m; rewrite [if_neg hc1]; rfl
  rewrite [he2]
  exact ⟨rfl, hF⟩

def great13_m (s : MapM) : Bool :=
  if 100 < (s.puts.length : Int) then
    true
  else
    decide (200 < (s.gone.length : Int))


set_option maxRecDepth 20000 in
theorem great13_ok (X : List Nat) (w : World) (hX : Lo X w) (s : MapM) (A_s_puts : Option Addr) (c_s_puts : Nat) (A_s_gone : Option Addr) (c_s_gone : Nat) (h_s_puts : Sld X w A_s_puts s.puts.length c_s_puts 7 (s.puts.flatMap putMC)) (h_s_gone : Sld X w A_s_gone s.gone.length c_s_gone 3 (s.gone.flatMap tagMC)) :
    Fn Try.prog 16 [.agg #[.slice A_s_puts s.puts.length c_s_puts, .slice A_s_gone s.gone.length c_s_gone]] w fun v w' => v = .bool (great13_m s) ∧ Fr [] w w' := by
  refine Fn_of 13 Ty.en_16 Try.func16 rfl rfl rfl ?_
  dsimp only [argEnv]
  have st : St X w [] [kS A_s_puts s.puts.length c_s_puts 7 (s.puts.flatMap putMC), kS A_s_gone s.gone.length c_s_gone 3 (s.gone.flatMap tagMC)] := ((St.nil (X := X) (w := w) hX).addK (kS A_s_puts s.puts.length c_s_puts 7 (s.puts.flatMap putMC)) h_s_puts).addK (kS A_s_gone s.gone.length c_s_gone 3 (s.gone.flatMap tagMC)) h_s_gone
  have hF := Fr.refl ([]) w
  have hleA_s_puts := (st.k (i := 0) rfl).le
  have hleA_s_gone := (st.k (i := 1) rfl).le
  refine Wp_seq fun K1 hK1 => ?_
  refine Wp_region (Ls_a (wtd0 rfl) ?_)
  refine a_box rfl rfl rfl rfl st.hp (fun g1 w1 (hp : Hp w1 [(_, Cl [_, _] _)]) hf hg1 => ?_)
  have st : St X w1 [(_, Cl [_, _] _)] [_, _] := st.push hp hf hg1
  have hg1 := Nat.le_trans hF.size hg1
  have hF := hF.step0 hf
  refine Las rfl rfl rfl rfl rfl (Ls_nil (Th_n (hK1 _ _ ?_)))
  refine Wp_seq fun K2 hK2 => ?_
  refine Wp_region (Ls_y (wtd0 rfl) rfl rfl (y_fld rfl rfl Ty.fo_35_0) (Ls_y (wtd0 rfl) rfl rfl (y_load (i := 0) rfl rfl Ty.pl_33 (fun _ e => e ▸ st.hp) rfl rfl) ?_))
  refine Ls_y (wtd0 rfl) rfl rfl (y_lenl rfl rfl Try.underlying33) ?_
  refine Ls_y (wtd0 rfl) rfl rfl (y_gt rfl rfl rfl) (Lmv rfl rfl rfl rfl rfl (Ls_bool 7 rfl (fun hc1 => ?_) (fun hc1 => ?_)))
  · have hc1 := dT hc1
    refine Ls_s (wtdF rfl rfl rfl) rfl rfl (Ls_s (wtdF rfl rfl rfl) rfl rfl (Ls_s (wtdF rfl rfl rfl) rfl rfl (Ls_s (wtdF rfl rfl rfl) rfl rfl (Ls_y (wtd0 rfl) rfl rfl (y_pick_t rfl rfl rfl) (Las rfl rfl rfl rfl rfl (Ls_nil (Th_n (hK2 _ _ ?_))))))))
    refine Wp_ret (Fq_ret (Res1 rfl rfl) ?_)
    have he1 : great13_m s = true := by unfold great13_m; rewrite [if_pos hc1]; rfl
    rewrite [he1]
    exact ⟨rfl, hF⟩
  have hc1 := dF hc1
  refine Ls_y (wtdT rfl rfl rfl) rfl rfl (y_fld rfl rfl Ty.fo_35_1) (Ls_y (wtdT rfl rfl rfl) rfl rfl (y_load (i := 0) rfl rfl Ty.pl_30 (fun _ e => e ▸ st.hp) rfl rfl) ?_)
  refine Ls_y (wtdT rfl rfl rfl) rfl rfl (y_lenl rfl rfl Try.underlying30) ?_
  refine Ls_y (wtdT rfl rfl rfl) rfl rfl (y_gt rfl rfl rfl) (Ls_y (wtd0 rfl) rfl rfl (y_pick_f rfl rfl rfl) (Las rfl rfl rfl rfl rfl (Ls_nil (Th_n (hK2 _ _ ?_)))))
  refine Wp_ret (Fq_ret (Res1 rfl rfl) ?_)
  have he2 : great13_m s = (decide (200 < (s.gone.length : Int))) := by unfold great13_m; rewrite [if_neg hc1]; rfl
  rewrite [he2]
  exact ⟨rfl, hF⟩

def great14_m (s : ObjM) (e : EffectM) : Bool :=
  if (great12_m s.setF) = true then
    true
  else
    if (great13_m s.map) = true then
      true
    else
      if 100 < (e.tags.length : Int) then
        true
      else
        decide (1000 < (e.name.length : Int))


set_option maxRecDepth 20000 in
theorem great14_ok (X : List Nat) (w : World) (hX : Lo X w) (s : ObjM) (A_s_setF_adds : Option Addr) (c_s_setF_adds : Nat) (A_s_setF_gone : Option Addr) (c_s_setF_gone : Nat) (A_s_map_puts : Option Addr) (c_s_map_puts : Nat) (A_s_map_gone : Option Addr) (c_s_map_gone : Nat) (e : EffectM) (A_e_tags : Option Addr) (c_e_tags : Nat) (h_s_setF_adds : Sld X w A_s_setF_adds s.setF.adds.length c_s_setF_adds 4 (s.setF.adds.flatMap addMC)) (h_s_setF_gone : Sld X w A_s_setF_gone s.setF.gone.length c_s_setF_gone 3 (s.setF.gone.flatMap tagMC)) (h_s_map_puts : Sld X w A_s_map_puts s.map.puts.length c_s_map_puts 7 (s.map.puts.flatMap putMC)) (h_s_map_gone : Sld X w A_s_map_gone s.map.gone.length c_s_map_gone 3 (s.map.gone.flatMap tagMC)) (h_e_tags : Sld X w A_e_tags e.tags.length c_e_tags 3 (e.tags.flatMap tagMC)) :
    Fn Try.prog 4 [.agg #[.int .i64 s.kind, .int .i64 s.reg.val, .int .u32 s.reg.atF.time, .int .i64 s.reg.atF.origin, .int .i64 s.num.plus, .int .i64 s.num.minus, .slice A_s_setF_adds s.setF.adds.length c_s_setF_adds, .slice A_s_setF_gone s.setF.gone.length c_s_setF_gone, .slice A_s_map_puts s.map.puts.length c_s_map_puts, .slice A_s_map_gone s.map.gone.length c_s_map_gone], .agg #[.int .i64 e.act, sv e.name, .int .i64 e.val, .int .i64 e.tag.id.origin, .int .u32 e.tag.id.seq, .int .i64 e.tag.n, .int .u32 e.atF.time, .int .i64 e.atF.origin, .slice A_e_tags e.tags.length c_e_tags]] w fun v w' => v = .bool (great14_m s e) ∧ Fr [] w w' := by
  refine Fn_of 25 Ty.en_4 Try.func4 rfl rfl rfl ?_
  dsimp only [argEnv]
  have st : St X w [] [kS A_s_setF_adds s.setF.adds.length c_s_setF_adds 4 (s.setF.adds.flatMap addMC), kS A_s_setF_gone s.setF.gone.length c_s_setF_gone 3 (s.setF.gone.flatMap tagMC), kS A_s_map_puts s.map.puts.length c_s_map_puts 7 (s.map.puts.flatMap putMC), kS A_s_map_gone s.map.gone.length c_s_map_gone 3 (s.map.gone.flatMap tagMC), kS A_e_tags e.tags.length c_e_tags 3 (e.tags.flatMap tagMC)] := (((((St.nil (X := X) (w := w) hX).addK (kS A_s_setF_adds s.setF.adds.length c_s_setF_adds 4 (s.setF.adds.flatMap addMC)) h_s_setF_adds).addK (kS A_s_setF_gone s.setF.gone.length c_s_setF_gone 3 (s.setF.gone.flatMap tagMC)) h_s_setF_gone).addK (kS A_s_map_puts s.map.puts.length c_s_map_puts 7 (s.map.puts.flatMap putMC)) h_s_map_puts).addK (kS A_s_map_gone s.map.gone.length c_s_map_gone 3 (s.map.gone.flatMap tagMC)) h_s_map_gone).addK (kS A_e_tags e.tags.length c_e_tags 3 (e.tags.flatMap tagMC)) h_e_tags
  have hF := Fr.refl ([]) w
  have hleA_s_setF_adds := (st.k (i := 0) rfl).le
  have hleA_s_setF_gone := (st.k (i := 1) rfl).le
  have hleA_s_map_puts := (st.k (i := 2) rfl).le
  have hleA_s_map_gone := (st.k (i := 3) rfl).le
  have hleA_e_tags := (st.k (i := 4) rfl).le
  refine Wp_seq fun K1 hK1 => ?_
  refine Wp_region (Ls_a (wtd0 rfl) ?_)
  refine a_box rfl rfl rfl rfl st.hp (fun g1 w1 (hp : Hp w1 [(_, Cl [_, _, _, _, _, _, _, _, _, _] _)]) hf hg1 => ?_)
  have st : St X w1 [(_, Cl [_, _, _, _, _, _, _, _, _, _] _)] [_, _, _, _, _] := st.push hp hf hg1
  have hg1 := Nat.le_trans hF.size hg1
  have hF := hF.step0 hf
  refine Ls_a (wtd0 rfl) ?_
  refine a_box rfl rfl rfl rfl st.hp (fun g2 w2 (hp : Hp w2 [(_, Cl [_, _, _, _, _, _, _, _, _, _] _), (_, Cl [_, _, _, _, _, _, _, _, _] _)]) hf hg2 => ?_)
  have st : St X w2 [(_, Cl [_, _, _, _, _, _, _, _, _, _] _), (_, Cl [_, _, _, _, _, _, _, _, _] _)] [_, _, _, _, _] := st.push hp hf hg2
  have hg2 := Nat.le_trans hF.size hg2
  have hF := hF.step0 hf
  refine Las rfl rfl rfl rfl rfl (Ls_nil (Th_n (hK1 _ _ ?_)))
  refine Wp_seq fun K2 hK2 => ?_
  refine Wp_region (Ls_y (wtd0 rfl) rfl rfl (y_fld rfl rfl Ty.fo_37_3) (Ls_y (wtd0 rfl) rfl rfl (y_loadm (i := 0) rfl rfl Ty.ag_32 (fun _ e => e ▸ st.hp) rfl rfl rfl) ?_))
  refine Ls_a (wtd0 rfl) ?_
  refine a_call rfl rfl rfl rfl (great12_ok (keys (hOf st) ++ X) _ st.Lo s.setF A_s_setF_adds c_s_setF_adds A_s_setF_gone c_s_setF_gone (st.k (i := 0) rfl) (st.k (i := 1) rfl)) (fun v w3 ⟨hv, hf⟩ => ?_)
  subst hv
  have st := st.keep0 hf
  have hF := hF.step0 hf
  have st : St X w3 [(_, Cl [_, _, _, _, _, _, _, _, _, _] _), (_, Cl [_, _, _, _, _, _, _, _, _] _)] [_, _, _, _, _] := st
  refine Lmv rfl rfl rfl rfl rfl (Ls_bool 8 rfl (fun hc1 => ?_) (fun hc1 => ?_))
  · refine Ls_s (wtdF rfl rfl rfl) rfl rfl (Ls_s (wtdF rfl rfl rfl) rfl rfl (Ls_s (wtdF rfl rfl rfl) rfl rfl (Ls_y (wtd0 rfl) rfl rfl (y_pick_t rfl rfl rfl) (Lmv rfl rfl rfl rfl rfl (Ls_s (wtdF rfl rfl rfl) rfl rfl (Ls_s (wtdF rfl rfl rfl) rfl rfl (Ls_s (wtdF rfl rfl rfl) rfl rfl (Ls_s (wtdF rfl rfl rfl) rfl rfl (Ls_y (wtd0 rfl) rfl rfl (y_pick_t rfl rfl rfl) (Lmv rfl rfl rfl rfl rfl (Ls_s (wtdF rfl rfl rfl) rfl rfl (Ls_s (wtdF rfl rfl rfl) rfl rfl (Ls_s (wtdF rfl rfl rfl) rfl rfl (Ls_s (wtdF rfl rfl rfl) rfl rfl (Ls_y (wtd0 rfl) rfl rfl (y_pick_t rfl rfl rfl) (Las rfl rfl rfl rfl rfl (Ls_nil (Th_n (hK2 _ _ ?_)))))))))))))))))))
    refine Wp_ret (Fq_ret (Res1 rfl rfl) ?_)
    have he1 : great14_m s e = true := by unfold great14_m; rewrite [if_pos hc1]; rfl
    rewrite [he1]
    exact ⟨rfl, hF⟩
  have hc1 := bF hc1
  refine Ls_y (wtdT rfl rfl rfl) rfl rfl (y_fld rfl rfl Ty.fo_37_4) (Ls_y (wtdT rfl rfl rfl) rfl rfl (y_loadm (i := 0) rfl rfl Ty.ag_35 (fun _ e => e ▸ st.hp) rfl rfl rfl) ?_)
  refine Ls_a (wtdT rfl rfl rfl) ?_
  refine a_call rfl rfl rfl rfl (great13_ok (keys (hOf st) ++ X) _ st.Lo s.map A_s_map_puts c_s_map_puts A_s_map_gone c_s_map_gone (st.k (i := 2) rfl) (st.k (i := 3) rfl)) (fun v w4 ⟨hv, hf⟩ => ?_)
  subst hv
  have st := st.keep0 hf
  have hF := hF.step0 hf
  have st : St X w4 [(_, Cl [_, _, _, _, _, _, _, _, _, _] _), (_, Cl [_, _, _, _, _, _, _, _, _] _)] [_, _, _, _, _] := st
  refine Ls_y (wtd0 rfl) rfl rfl (y_pick_f rfl rfl rfl) (Lmv rfl rfl rfl rfl rfl (Ls_bool 13 rfl (fun hc2 => ?_) (fun hc2 => ?_)))
  · refine Ls_s (wtdF rfl rfl rfl) rfl rfl (Ls_s (wtdF rfl rfl rfl) rfl rfl (Ls_s (wtdF rfl rfl rfl) rfl rfl (Ls_s (wtdF rfl rfl rfl) rfl rfl (Ls_y (wtd0 rfl) rfl rfl (y_pick_t rfl rfl rfl) (Lmv rfl rfl rfl rfl rfl (Ls_s (wtdF rfl rfl rfl) rfl rfl (Ls_s (wtdF rfl rfl rfl) rfl rfl (Ls_s (wtdF rfl rfl rfl) rfl rfl (Ls_s (wtdF rfl rfl rfl) rfl rfl (Ls_y (wtd0 rfl) rfl rfl (y_pick_t rfl rfl rfl) (Las rfl rfl rfl rfl rfl (Ls_nil (Th_n (hK2 _ _ ?_))))))))))))))
    refine Wp_ret (Fq_ret (Res1 rfl rfl) ?_)
    have he2 : great14_m s e = true := by unfold great14_m; rewrite [if_neg hc1, if_pos hc2]; rfl
    rewrite [he2]
    exact ⟨rfl, hF⟩
  have hc2 := bF hc2
  refine Ls_y (wtdT rfl rfl rfl) rfl rfl (y_fld rfl rfl Ty.fo_46_5) (Ls_y (wtdT rfl rfl rfl) rfl rfl (y_load (i := 1) rfl rfl Ty.pl_30 (fun _ e => e ▸ st.hp) rfl rfl) ?_)
  refine Ls_y (wtdT rfl rfl rfl) rfl rfl (y_lenl rfl rfl Try.underlying30) ?_
  refine Ls_y (wtdT rfl rfl rfl) rfl rfl (y_gt rfl rfl rfl) (Ls_y (wtd0 rfl) rfl rfl (y_pick_f rfl rfl rfl) (Lmv rfl rfl rfl rfl rfl (Ls_bool 19 rfl (fun hc3 => ?_) (fun hc3 => ?_))))
  · have hc3 := dT hc3
    refine Ls_s (wtdF rfl rfl rfl) rfl rfl (Ls_s (wtdF rfl rfl rfl) rfl rfl (Ls_s (wtdF rfl rfl rfl) rfl rfl (Ls_s (wtdF rfl rfl rfl) rfl rfl (Ls_y (wtd0 rfl) rfl rfl (y_pick_t rfl rfl rfl) (Las rfl rfl rfl rfl rfl (Ls_nil (Th_n (hK2 _ _ ?_))))))))
    refine Wp_ret (Fq_ret (Res1 rfl rfl) ?_)
    have he3 : great14_m s e = true := by unfold great14_m; rewrite [if_neg hc1, if_neg hc2, if_pos hc3]; rfl
    rewrite [he3]
    exact ⟨rfl, hF⟩
  have hc3 := dF hc3
  refine Ls_y (wtdT rfl rfl rfl) rfl rfl (y_fld rfl rfl Ty.fo_46_1) (Ls_y (wtdT rfl rfl rfl) rfl rfl (y_load (i := 1) rfl rfl Ty.pl_9 (fun _ e => e ▸ st.hp) rfl rfl) ?_)
  refine Ls_y (wtdT rfl rfl rfl) rfl rfl (y_lens rfl rfl Try.underlying9) ?_
  refine Ls_y (wtdT rfl rfl rfl) rfl rfl (y_gt rfl rfl rfl) (Ls_y (wtd0 rfl) rfl rfl (y_pick_f rfl rfl rfl) (Las rfl rfl rfl rfl rfl (Ls_nil (Th_n (hK2 _ _ ?_)))))
  refine Wp_ret (Fq_ret (Res1 rfl rfl) ?_)
  have he4 : great14_m s e = (decide (1000 < (e.name.length : Int))) := by unfold great14_m; rewrite [if_neg hc1, if_neg hc2, if_neg hc3]; rfl
  rewrite [he4]
  exact ⟨rfl, hF⟩

def op14_m (o : OpM) : OpM :=
  o


set_option maxRecDepth 20000 in
theorem op14_ok (w : World) (o : OpM) :
    Fn Try.prog 7 [.agg (opMC o).toArray] w fun v w' => v = .agg (opMC (op14_m o)).toArray ∧ Fr [] w w' := by
  refine Fn_of 10 Ty.en_7 Try.func7 rfl rfl rfl ?_
  dsimp only [argEnv]
  have st : St [] w [] [] := St.nil (X := []) (w := w) (by simp [Lo])
  have hF := Fr.refl ([]) w
  refine Wp_seq fun K1 hK1 => ?_
  refine Wp_region (Ls_a (wtd0 rfl) ?_)
  refine a_box rfl rfl rfl rfl st.hp (fun g1 w1 (hp : Hp w1 [(_, Cl [_, _, _] _)]) hf hg1 => ?_)
  have st : St [] w1 [(_, Cl [_, _, _] _)] [] := st.push hp hf hg1
  have hg1 := Nat.le_trans hF.size hg1
  have hF := hF.step0 hf
  refine Ls_a (wtd0 rfl) ?_
  refine a_alloc rfl rfl rfl Ty.zc_62 st.hp (fun g2 w2 (hp : Hp w2 [(_, Cl [_, _, _] _), (_, Cl [_, _, _] _)]) hf hg2 => ?_)
  have st : St [] w2 [(_, Cl [_, _, _] _), (_, Cl [_, _, _] _)] [] := st.push hp hf hg2
  have hg2 := Nat.le_trans hF.size hg2
  have hF := hF.step0 hf
  refine Ls_nil (Th_n (hK1 _ _ ?_))
  refine Wp_seq fun K2 hK2 => ?_
  refine Wp_region (Ls_y (wtd0 rfl) rfl rfl (y_fld rfl rfl Ty.fo_39_0) (Ls_y (wtd0 rfl) rfl rfl (y_load (i := 0) rfl rfl Ty.pl_3 (fun _ e => e ▸ st.hp) rfl rfl) ?_))
  refine Ls_y (wtd0 rfl) rfl rfl (y_fld rfl rfl Ty.fo_39_1) (Ls_y (wtd0 rfl) rfl rfl (y_load (i := 0) rfl rfl Ty.pl_9 (fun _ e => e ▸ st.hp) rfl rfl) ?_)
  refine Ls_y (wtd0 rfl) rfl rfl (y_fld rfl rfl Ty.fo_39_2) (Ls_y (wtd0 rfl) rfl rfl (y_load (i := 0) rfl rfl Ty.pl_2 (fun _ e => e ▸ st.hp) rfl rfl) ?_)
  refine Ls_y (wtd0 rfl) rfl rfl (y_build (cells := [_, _, _]) rfl rfl Ty.zc_62 Ty.ps_62 rfl) ?_
  refine Ls_a (wtd0 rfl) ?_
  refine a_storew (i := 1) rfl rfl rfl rfl Ty.sz_62 rfl (by first | assumption | (simp [Value.oneCell']; done)) st.hp rfl rfl (fun w3 (hp : Hp w3 [(_, Cl [_, _, _] _), (_, Cl [_, _, _] _)]) hf _ => ?_)
  have st : St [] w3 [(_, Cl [_, _, _] _), (_, Cl [_, _, _] _)] [] := st.set (i := 1) rfl hp hf
  have hF := hF.step hf (by intro y hy; simp only [List.mem_cons, List.not_mem_nil, or_false] at hy; subst hy; first | (exact Or.inr (by omega)) | (exact Or.inl (kin0 _ _)) | (exact Or.inl (by simp)))
  refine Ls_nil (Th_n (hK2 _ _ ?_))
  refine Wp_ret (Fq_ret (ResN1 rfl (rvc (i := 1) rfl Ty.ag_62 st.hp rfl rfl)) ?_)
  have he1 : op14_m o = o := by unfold op14_m; rfl
  rewrite [he1]
  exact ⟨rfl, hF⟩

def to10_m (s : RegM) : RegM :=
  s


set_option maxRecDepth 20000 in
theorem to10_ok (w : World) (s : RegM) :
    Fn Try.prog 23 [.agg (regMC s).toArray] w fun v w' => v = .agg (regMC (to10_m s)).toArray ∧ Fr [] w w' := by
  refine Fn_of 8 Ty.en_23 Try.func23 rfl rfl rfl ?_
  dsimp only [argEnv]
  have st : St [] w [] [] := St.nil (X := []) (w := w) (by simp [Lo])
  have hF := Fr.refl ([]) w
  refine Wp_seq fun K1 hK1 => ?_
  refine Wp_region (Ls_a (wtd0 rfl) ?_)
  refine a_box rfl rfl rfl rfl st.hp (fun g1 w1 (hp : Hp w1 [(_, Cl [_, _, _] _)]) hf hg1 => ?_)
  have st : St [] w1 [(_, Cl [_, _, _] _)] [] := st.push hp hf hg1
  have hg1 := Nat.le_trans hF.size hg1
  have hF := hF.step0 hf
  refine Ls_a (wtd0 rfl) ?_
  refine a_alloc rfl rfl rfl Ty.zc_51 st.hp (fun g2 w2 (hp : Hp w2 [(_, Cl [_, _, _] _), (_, Cl [_, _, _] _)]) hf hg2 => ?_)
  have st : St [] w2 [(_, Cl [_, _, _] _), (_, Cl [_, _, _] _)] [] := st.push hp hf hg2
  have hg2 := Nat.le_trans hF.size hg2
  have hF := hF.step0 hf
  refine Ls_nil (Th_n (hK1 _ _ ?_))
  refine Wp_seq fun K2 hK2 => ?_
  refine Wp_region (Ls_y (wtd0 rfl) rfl rfl (y_fld rfl rfl Ty.fo_26_0) (Ls_y (wtd0 rfl) rfl rfl (y_load (i := 0) rfl rfl Ty.pl_2 (fun _ e => e ▸ st.hp) rfl rfl) ?_))
  refine Ls_y (wtd0 rfl) rfl rfl (y_fld rfl rfl Ty.fo_26_1) (Ls_y (wtd0 rfl) rfl rfl (y_loadm (i := 0) rfl rfl Ty.ag_24 (fun _ e => e ▸ st.hp) rfl rfl rfl) ?_)
  refine Ls_y (wtd0 rfl) rfl rfl (y_build (cells := [_, _, _]) rfl rfl Ty.zc_51 Ty.ps_51 rfl) ?_
  refine Ls_a (wtd0 rfl) ?_
  refine a_storew (i := 1) rfl rfl rfl rfl Ty.sz_51 rfl (by first | assumption | (simp [Value.oneCell']; done)) st.hp rfl rfl (fun w3 (hp : Hp w3 [(_, Cl [_, _, _] _), (_, Cl [_, _, _] _)]) hf _ => ?_)
  have st : St [] w3 [(_, Cl [_, _, _] _), (_, Cl [_, _, _] _)] [] := st.set (i := 1) rfl hp hf
  have hF := hF.step hf (by intro y hy; simp only [List.mem_cons, List.not_mem_nil, or_false] at hy; subst hy; first | (exact Or.inr (by omega)) | (exact Or.inl (kin0 _ _)) | (exact Or.inl (by simp)))
  refine Ls_nil (Th_n (hK2 _ _ ?_))
  refine Wp_ret (Fq_ret (ResN1 rfl (rvc (i := 1) rfl Ty.ag_51 st.hp rfl rfl)) ?_)
  have he1 : to10_m s = s := by unfold to10_m; rfl
  rewrite [he1]
  exact ⟨rfl, hF⟩

def to11_m (s : NumM) : NumM :=
  s


set_option maxRecDepth 20000 in
theorem to11_ok (w : World) (s : NumM) :
    Fn Try.prog 24 [.agg (numMC s).toArray] w fun v w' => v = .agg (numMC (to11_m s)).toArray ∧ Fr [] w w' := by
  refine Fn_of 8 Ty.en_24 Try.func24 rfl rfl rfl ?_
  dsimp only [argEnv]
  have st : St [] w [] [] := St.nil (X := []) (w := w) (by simp [Lo])
  have hF := Fr.refl ([]) w
  refine Wp_seq fun K1 hK1 => ?_
  refine Wp_region (Ls_a (wtd0 rfl) ?_)
  refine a_box rfl rfl rfl rfl st.hp (fun g1 w1 (hp : Hp w1 [(_, Cl [_, _] _)]) hf hg1 => ?_)
  have st : St [] w1 [(_, Cl [_, _] _)] [] := st.push hp hf hg1
  have hg1 := Nat.le_trans hF.size hg1
  have hF := hF.step0 hf
  refine Ls_a (wtd0 rfl) ?_
  refine a_alloc rfl rfl rfl Ty.zc_52 st.hp (fun g2 w2 (hp : Hp w2 [(_, Cl [_, _] _), (_, Cl [_, _] _)]) hf hg2 => ?_)
  have st : St [] w2 [(_, Cl [_, _] _), (_, Cl [_, _] _)] [] := st.push hp hf hg2
  have hg2 := Nat.le_trans hF.size hg2
  have hF := hF.step0 hf
  refine Ls_nil (Th_n (hK1 _ _ ?_))
  refine Wp_seq fun K2 hK2 => ?_
  refine Wp_region (Ls_y (wtd0 rfl) rfl rfl (y_fld rfl rfl Ty.fo_28_0) (Ls_y (wtd0 rfl) rfl rfl (y_load (i := 0) rfl rfl Ty.pl_2 (fun _ e => e ▸ st.hp) rfl rfl) ?_))
  refine Ls_y (wtd0 rfl) rfl rfl (y_fld rfl rfl Ty.fo_28_1) (Ls_y (wtd0 rfl) rfl rfl (y_load (i := 0) rfl rfl Ty.pl_2 (fun _ e => e ▸ st.hp) rfl rfl) ?_)
  refine Ls_y (wtd0 rfl) rfl rfl (y_build (cells := [_, _]) rfl rfl Ty.zc_52 Ty.ps_52 rfl) ?_
  refine Ls_a (wtd0 rfl) ?_
  refine a_storew (i := 1) rfl rfl rfl rfl Ty.sz_52 rfl (by first | assumption | (simp [Value.oneCell']; done)) st.hp rfl rfl (fun w3 (hp : Hp w3 [(_, Cl [_, _] _), (_, Cl [_, _] _)]) hf _ => ?_)
  have st : St [] w3 [(_, Cl [_, _] _), (_, Cl [_, _] _)] [] := st.set (i := 1) rfl hp hf
  have hF := hF.step hf (by intro y hy; simp only [List.mem_cons, List.not_mem_nil, or_false] at hy; subst hy; first | (exact Or.inr (by omega)) | (exact Or.inl (kin0 _ _)) | (exact Or.inl (by simp)))
  refine Ls_nil (Th_n (hK2 _ _ ?_))
  refine Wp_ret (Fq_ret (ResN1 rfl (rvc (i := 1) rfl Ty.ag_52 st.hp rfl rfl)) ?_)
  have he1 : to11_m s = s := by unfold to11_m; rfl
  rewrite [he1]
  exact ⟨rfl, hF⟩

def from10_m (s : RegM) : RegM :=
  s


set_option maxRecDepth 20000 in
theorem from10_ok (w : World) (s : RegM) :
    Fn Try.prog 37 [.agg (regMC s).toArray] w fun v w' => v = .agg (regMC (from10_m s)).toArray ∧ Fr [] w w' := by
  refine Fn_of 8 Ty.en_37 Try.func37 rfl rfl rfl ?_
  dsimp only [argEnv]
  have st : St [] w [] [] := St.nil (X := []) (w := w) (by simp [Lo])
  have hF := Fr.refl ([]) w
  refine Wp_seq fun K1 hK1 => ?_
  refine Wp_region (Ls_a (wtd0 rfl) ?_)
  refine a_box rfl rfl rfl rfl st.hp (fun g1 w1 (hp : Hp w1 [(_, Cl [_, _, _] _)]) hf hg1 => ?_)
  have st : St [] w1 [(_, Cl [_, _, _] _)] [] := st.push hp hf hg1
  have hg1 := Nat.le_trans hF.size hg1
  have hF := hF.step0 hf
  refine Ls_a (wtd0 rfl) ?_
  refine a_alloc rfl rfl rfl Ty.zc_26 st.hp (fun g2 w2 (hp : Hp w2 [(_, Cl [_, _, _] _), (_, Cl [_, _, _] _)]) hf hg2 => ?_)
  have st : St [] w2 [(_, Cl [_, _, _] _), (_, Cl [_, _, _] _)] [] := st.push hp hf hg2
  have hg2 := Nat.le_trans hF.size hg2
  have hF := hF.step0 hf
  refine Ls_nil (Th_n (hK1 _ _ ?_))
  refine Wp_seq fun K2 hK2 => ?_
  refine Wp_region (Ls_y (wtd0 rfl) rfl rfl (y_fld rfl rfl Ty.fo_51_0) (Ls_y (wtd0 rfl) rfl rfl (y_load (i := 0) rfl rfl Ty.pl_2 (fun _ e => e ▸ st.hp) rfl rfl) ?_))
  refine Ls_y (wtd0 rfl) rfl rfl (y_fld rfl rfl Ty.fo_51_1) (Ls_y (wtd0 rfl) rfl rfl (y_loadm (i := 0) rfl rfl Ty.ag_24 (fun _ e => e ▸ st.hp) rfl rfl rfl) ?_)
  refine Ls_y (wtd0 rfl) rfl rfl (y_build (cells := [_, _, _]) rfl rfl Ty.zc_26 Ty.ps_26 rfl) ?_
  refine Ls_a (wtd0 rfl) ?_
  refine a_storew (i := 1) rfl rfl rfl rfl Ty.sz_26 rfl (by first | assumption | (simp [Value.oneCell']; done)) st.hp rfl rfl (fun w3 (hp : Hp w3 [(_, Cl [_, _, _] _), (_, Cl [_, _, _] _)]) hf _ => ?_)
  have st : St [] w3 [(_, Cl [_, _, _] _), (_, Cl [_, _, _] _)] [] := st.set (i := 1) rfl hp hf
  have hF := hF.step hf (by intro y hy; simp only [List.mem_cons, List.not_mem_nil, or_false] at hy; subst hy; first | (exact Or.inr (by omega)) | (exact Or.inl (kin0 _ _)) | (exact Or.inl (by simp)))
  refine Ls_nil (Th_n (hK2 _ _ ?_))
  refine Wp_ret (Fq_ret (ResN1 rfl (rvc (i := 1) rfl Ty.ag_26 st.hp rfl rfl)) ?_)
  have he1 : from10_m s = s := by unfold from10_m; rfl
  rewrite [he1]
  exact ⟨rfl, hF⟩

def from11_m (s : NumM) : NumM :=
  s


set_option maxRecDepth 20000 in
theorem from11_ok (w : World) (s : NumM) :
    Fn Try.prog 38 [.agg (numMC s).toArray] w fun v w' => v = .agg (numMC (from11_m s)).toArray ∧ Fr [] w w' := by
  refine Fn_of 8 Ty.en_38 Try.func38 rfl rfl rfl ?_
  dsimp only [argEnv]
  have st : St [] w [] [] := St.nil (X := []) (w := w) (by simp [Lo])
  have hF := Fr.refl ([]) w
  refine Wp_seq fun K1 hK1 => ?_
  refine Wp_region (Ls_a (wtd0 rfl) ?_)
  refine a_box rfl rfl rfl rfl st.hp (fun g1 w1 (hp : Hp w1 [(_, Cl [_, _] _)]) hf hg1 => ?_)
  have st : St [] w1 [(_, Cl [_, _] _)] [] := st.push hp hf hg1
  have hg1 := Nat.le_trans hF.size hg1
  have hF := hF.step0 hf
  refine Ls_a (wtd0 rfl) ?_
  refine a_alloc rfl rfl rfl Ty.zc_28 st.hp (fun g2 w2 (hp : Hp w2 [(_, Cl [_, _] _), (_, Cl [_, _] _)]) hf hg2 => ?_)
  have st : St [] w2 [(_, Cl [_, _] _), (_, Cl [_, _] _)] [] := st.push hp hf hg2
  have hg2 := Nat.le_trans hF.size hg2
  have hF := hF.step0 hf
  refine Ls_nil (Th_n (hK1 _ _ ?_))
  refine Wp_seq fun K2 hK2 => ?_
  refine Wp_region (Ls_y (wtd0 rfl) rfl rfl (y_fld rfl rfl Ty.fo_52_0) (Ls_y (wtd0 rfl) rfl rfl (y_load (i := 0) rfl rfl Ty.pl_2 (fun _ e => e ▸ st.hp) rfl rfl) ?_))
  refine Ls_y (wtd0 rfl) rfl rfl (y_fld rfl rfl Ty.fo_52_1) (Ls_y (wtd0 rfl) rfl rfl (y_load (i := 0) rfl rfl Ty.pl_2 (fun _ e => e ▸ st.hp) rfl rfl) ?_)
  refine Ls_y (wtd0 rfl) rfl rfl (y_build (cells := [_, _]) rfl rfl Ty.zc_28 Ty.ps_28 rfl) ?_
  refine Ls_a (wtd0 rfl) ?_
  refine a_storew (i := 1) rfl rfl rfl rfl Ty.sz_28 rfl (by first | assumption | (simp [Value.oneCell']; done)) st.hp rfl rfl (fun w3 (hp : Hp w3 [(_, Cl [_, _] _), (_, Cl [_, _] _)]) hf _ => ?_)
  have st : St [] w3 [(_, Cl [_, _] _), (_, Cl [_, _] _)] [] := st.set (i := 1) rfl hp hf
  have hF := hF.step hf (by intro y hy; simp only [List.mem_cons, List.not_mem_nil, or_false] at hy; subst hy; first | (exact Or.inr (by omega)) | (exact Or.inl (kin0 _ _)) | (exact Or.inl (by simp)))
  refine Ls_nil (Th_n (hK2 _ _ ?_))
  refine Wp_ret (Fq_ret (ResN1 rfl (rvc (i := 1) rfl Ty.ag_28 st.hp rfl rfl)) ?_)
  have he1 : from11_m s = s := by unfold from11_m; rfl
  rewrite [he1]
  exact ⟨rfl, hF⟩

def put13_m (p : PutM) : PutM :=
  p


set_option maxRecDepth 20000 in
theorem put13_ok (w : World) (p : PutM) :
    Fn Try.prog 48 [.agg (putMC p).toArray] w fun v w' => v = .agg (putMC (put13_m p)).toArray ∧ Fr [] w w' := by
  refine Fn_of 12 Ty.en_48 Try.func48 rfl rfl rfl ?_
  dsimp only [argEnv]
  have st : St [] w [] [] := St.nil (X := []) (w := w) (by simp [Lo])
  have hF := Fr.refl ([]) w
  refine Wp_seq fun K1 hK1 => ?_
  refine Wp_region (Ls_a (wtd0 rfl) ?_)
  refine a_box rfl rfl rfl rfl st.hp (fun g1 w1 (hp : Hp w1 [(_, Cl [_, _, _, _, _, _, _] _)]) hf hg1 => ?_)
  have st : St [] w1 [(_, Cl [_, _, _, _, _, _, _] _)] [] := st.push hp hf hg1
  have hg1 := Nat.le_trans hF.size hg1
  have hF := hF.step0 hf
  refine Ls_a (wtd0 rfl) ?_
  refine a_alloc rfl rfl rfl Ty.zc_111 st.hp (fun g2 w2 (hp : Hp w2 [(_, Cl [_, _, _, _, _, _, _] _), (_, Cl [_, _, _, _, _, _, _] _)]) hf hg2 => ?_)
  have st : St [] w2 [(_, Cl [_, _, _, _, _, _, _] _), (_, Cl [_, _, _, _, _, _, _] _)] [] := st.push hp hf hg2
  have hg2 := Nat.le_trans hF.size hg2
  have hF := hF.step0 hf
  refine Ls_nil (Th_n (hK1 _ _ ?_))
  refine Wp_seq fun K2 hK2 => ?_
  refine Wp_region (Ls_y (wtd0 rfl) rfl rfl (y_fld rfl rfl Ty.fo_113_0) (Ls_y (wtd0 rfl) rfl rfl (y_loadm (i := 0) rfl rfl Ty.ag_43 (fun _ e => e ▸ st.hp) rfl rfl rfl) ?_))
  refine Ls_y (wtd0 rfl) rfl rfl (y_fld rfl rfl Ty.fo_113_1) (Ls_y (wtd0 rfl) rfl rfl (y_load (i := 0) rfl rfl Ty.pl_9 (fun _ e => e ▸ st.hp) rfl rfl) ?_)
  refine Ls_y (wtd0 rfl) rfl rfl (y_fld rfl rfl Ty.fo_113_2) (Ls_y (wtd0 rfl) rfl rfl (y_load (i := 0) rfl rfl Ty.pl_2 (fun _ e => e ▸ st.hp) rfl rfl) ?_)
  refine Ls_y (wtd0 rfl) rfl rfl (y_fld rfl rfl Ty.fo_113_3) (Ls_y (wtd0 rfl) rfl rfl (y_loadm (i := 0) rfl rfl Ty.ag_24 (fun _ e => e ▸ st.hp) rfl rfl rfl) ?_)
  refine Ls_y (wtd0 rfl) rfl rfl (y_build (cells := [_, _, _, _, _, _, _]) rfl rfl Ty.zc_111 Ty.ps_111 rfl) ?_
  refine Ls_a (wtd0 rfl) ?_
  refine a_storew (i := 1) rfl rfl rfl rfl Ty.sz_111 rfl (by first | assumption | (simp [Value.oneCell']; done)) st.hp rfl rfl (fun w3 (hp : Hp w3 [(_, Cl [_, _, _, _, _, _, _] _), (_, Cl [_, _, _, _, _, _, _] _)]) hf _ => ?_)
  have st : St [] w3 [(_, Cl [_, _, _, _, _, _, _] _), (_, Cl [_, _, _, _, _, _, _] _)] [] := st.set (i := 1) rfl hp hf
  have hF := hF.step hf (by intro y hy; simp only [List.mem_cons, List.not_mem_nil, or_false] at hy; subst hy; first | (exact Or.inr (by omega)) | (exact Or.inl (kin0 _ _)) | (exact Or.inl (by simp)))
  refine Ls_nil (Th_n (hK2 _ _ ?_))
  refine Wp_ret (Fq_ret (ResN1 rfl (rvc (i := 1) rfl Ty.ag_111 st.hp rfl rfl)) ?_)
  have he1 : put13_m p = p := by unfold put13_m; rfl
  rewrite [he1]
  exact ⟨rfl, hF⟩

def to12_L1 (s : SetM) : Nat → Int → (List AddM) → (SetM) ⊕ (Int × (List AddM))
  | 0, s4, u2_0 => .inr (s4, u2_0)
  | fuel + 1, s4, u2_0 =>
    if s4 < (s.adds.length : Int) then
      to12_L1 s fuel (s4 + 1) (u2_0 ++ [(⟨(⟨(⟨((ix s.adds s4).tag).id.origin, ((ix s.adds s4).tag).id.seq⟩ : IdM), ((ix s.adds s4).tag).n⟩ : TagM), (ix s.adds s4).elem⟩ : AddM)])
    else
      .inr (s4, u2_0)
def to12_m (s : SetM) : SetM :=
  match to12_L1 s (((s.adds.length : Int) - (0 : Int)).toNat + 1) (0 : Int) ([] : List AddM) with
  | .inl r => r
  | .inr (s4, u2_0) =>
    (⟨u2_0, ([] : List TagM) ++ s.gone⟩ : SetM)


set_option maxRecDepth 20000 in
theorem to12_ok (X : List Nat) (w : World) (hX : Lo X w) (s : SetM) (A_s_adds : Option Addr) (c_s_adds : Nat) (A_s_gone : Option Addr) (c_s_gone : Nat) (h_s_adds : Sld X w A_s_adds s.adds.length c_s_adds 4 (s.adds.flatMap addMC)) (h_s_gone : Sld X w A_s_gone s.gone.length c_s_gone 3 (s.gone.flatMap tagMC)) (h1 : s.adds.length ≤ 1000000) (h2 : s.gone.length ≤ 1000000) :
    Fn Try.prog 25 [.agg #[.slice A_s_adds s.adds.length c_s_adds, .slice A_s_gone s.gone.length c_s_gone]] w fun v w' => ∃ (Ar_adds : Option Addr) (cr_adds : Nat) (Ar_gone : Option Addr) (cr_gone : Nat), v = .agg #[.slice Ar_adds ((to12_m s).adds).length cr_adds, .slice Ar_gone ((to12_m s).gone).length cr_gone] ∧ Sld X w' Ar_adds ((to12_m s).adds).length cr_adds 4 (((to12_m s).adds).flatMap addMC) ∧ Sld X w' Ar_gone ((to12_m s).gone).length cr_gone 3 (((to12_m s).gone).flatMap tagMC) ∧ Fr [] w w' := by
  refine Fn_of 37 Ty.en_25 Try.func25 rfl rfl rfl ?_
  dsimp only [argEnv]
  have st : St X w [] [kS A_s_adds s.adds.length c_s_adds 4 (s.adds.flatMap addMC), kS A_s_gone s.gone.length c_s_gone 3 (s.gone.flatMap tagMC)] := ((St.nil (X := X) (w := w) hX).addK (kS A_s_adds s.adds.length c_s_adds 4 (s.adds.flatMap addMC)) h_s_adds).addK (kS A_s_gone s.gone.length c_s_gone 3 (s.gone.flatMap tagMC)) h_s_gone
  have hF := Fr.refl ([]) w
  have hleA_s_adds := (st.k (i := 0) rfl).le
  have hleA_s_gone := (st.k (i := 1) rfl).le
  refine Wp_seq fun K1 hK1 => ?_
  refine Wp_region (Ls_a (wtd0 rfl) ?_)
  refine a_box rfl rfl rfl rfl st.hp (fun g1 w1 (hp : Hp w1 [(_, Cl [_, _] _)]) hf hg1 => ?_)
  have st : St X w1 [(_, Cl [_, _] _)] [_, _] := st.push hp hf hg1
  have hg1 := Nat.le_trans hF.size hg1
  have hF := hF.step0 hf
  refine Ls_a (wtd0 rfl) ?_
  refine a_alloc rfl rfl rfl Ty.zc_55 st.hp (fun g2 w2 (hp : Hp w2 [(_, Cl [_, _] _), (_, Cl [_, _] _)]) hf hg2 => ?_)
  have st : St X w2 [(_, Cl [_, _] _), (_, Cl [_, _] _)] [_, _] := st.push hp hf hg2
  have hg2 := Nat.le_trans hF.size hg2
  have hF := hF.step0 hf
  refine Ls_nil (Th_n (hK1 _ _ ?_))
  refine Wp_seq fun K2 hK2 => ?_
  refine Wp_region (Ls_a (wtd0 rfl) ?_)
  refine a_alloc rfl rfl rfl Ty.zc_55 st.hp (fun g3 w3 (hp : Hp w3 [(_, Cl [_, _] _), (_, Cl [_, _] _), (_, Cl [_, _] _)]) hf hg3 => ?_)
  have st : St X w3 [(_, Cl [_, _] _), (_, Cl [_, _] _), (_, Cl [_, _] _)] [_, _] := st.push hp hf hg3
  have hg3 := Nat.le_trans hF.size hg3
  have hF := hF.step0 hf
  refine Ls_nil (Th_n (hK2 _ _ ?_))
  refine Wp_seq fun K3 hK3 => ?_
  refine Wp_seq fun K4 hK4 => ?_
  refine Wp_region (Las rfl rfl rfl rfl rfl (Ls_nil (Th_n (hK4 _ _ ?_))))
  refine Wp_block ?_
  have st : St X _ [(some g1, Cl [.slice A_s_adds s.adds.length c_s_adds, .slice A_s_gone s.gone.length c_s_gone] 32), (some g2, Cl [.slice none 0 0, .slice none 0 0] 55), (some g3, Cl [.slice none 0 0, .slice none 0 0] 55), (blkOf none, Cl (([] : List AddM).flatMap addMC ++ []) 106)] [_, _] := st.addN _
  have how1 : Ow none ([] : List AddM).length 0 4 (([] : List AddM).flatMap addMC) [] := Ow.nil 4
  have hnew1 : ∀ g, blkOf none = some g → g ∈ ([]) ∨ w.heap.size ≤ g := fun g hg => by cases hg
  refine use_out hK3 (fun E W => ∃ (s4 : Int) (u2_0 : List AddM) (Au2_0 : Option Addr) (cu2_0 : Nat) (spu2_0 : List Value), E = [(1, .pointer (some ⟨g1, 0, none⟩)), (2, .pointer (some ⟨g2, 0, none⟩)), (3, .pointer (some ⟨g3, 0, none⟩)), (4, .int .i64 s4)] ∧ to12_L1 s (((s.adds.length : Int) - (0 : Int)).toNat + 1) (0 : Int) ([] : List AddM) = .inr (s4, u2_0) ∧ (0 ≤ s4 ∧ (u2_0.length : Int) ≤ s4) ∧ Ow Au2_0 u2_0.length cu2_0 4 (u2_0.flatMap addMC) spu2_0 ∧ (∀ g, blkOf Au2_0 = some g → g ∈ ([]) ∨ w.heap.size ≤ g) ∧ St X W [(some g1, Cl [.slice A_s_adds s.adds.length c_s_adds, .slice A_s_gone s.gone.length c_s_gone] 32), (some g2, Cl [.slice none 0 0, .slice none 0 0] 55), (some g3, Cl [.slice Au2_0 u2_0.length cu2_0, .slice none 0 0] 55), (blkOf Au2_0, Cl (u2_0.flatMap addMC ++ spu2_0) 106)] [kS A_s_adds s.adds.length c_s_adds 4 (s.adds.flatMap addMC), kS A_s_gone s.gone.length c_s_gone 3 (s.gone.flatMap tagMC)] ∧ Fr ([]) w W) ?_ fun hout1 => ?_
  · rintro E w4 ⟨s4, u2_0, Au2_0, cu2_0, spu2_0, rfl, hLk1, hinv, howu2_0, newu2_0, st, hF⟩
    refine Wp_seq fun K5 hK5 => ?_
    refine Wp_region (Ls_y (wtd0 rfl) rfl rfl (y_fld rfl rfl Ty.fo_55_1) (Ls_y (wtd0 rfl) rfl rfl (y_load (i := 2) rfl rfl Ty.pl_30 (fun _ e => e ▸ st.hp) rfl rfl) ?_))
    refine Ls_y (wtd0 rfl) rfl rfl (y_fld rfl rfl Ty.fo_32_1) (Ls_y (wtd0 rfl) rfl rfl (y_load (i := 0) rfl rfl Ty.pl_30 (fun _ e => e ▸ st.hp) rfl rfl) ?_)
    have st : St X _ [(some g1, Cl [.slice A_s_adds s.adds.length c_s_adds, .slice A_s_gone s.gone.length c_s_gone] 32), (some g2, Cl [.slice none 0 0, .slice none 0 0] 55), (some g3, Cl [.slice Au2_0 u2_0.length cu2_0, .slice none 0 0] 55), (blkOf Au2_0, Cl (u2_0.flatMap addMC ++ spu2_0) 106), (blkOf none, Cl (([] : List TagM).flatMap tagMC ++ []) 43)] [_, _] := st.addN _
    have how2 : Ow none ([] : List TagM).length 0 3 (([] : List TagM).flatMap tagMC) [] := Ow.nil 3
    have hnew2 : ∀ g, blkOf none = some g → g ∈ ([]) ∨ w.heap.size ≤ g := fun g hg => by cases hg
    refine Ls_a (wtd0 rfl) ?_
    refine a_appM (i := 4) (xs := ([] : List TagM)) (ys := s.gone) (enc := tagMC) rfl rfl rfl rfl rfl rfl Ty.es_30 Ty.zc_43 rfl Ty.by_43 (by decide) (fun _ => rfl) how2 st.hp rfl (st.k (i := 1) rfl).rd.src (fun h => by have := (st.k (i := 1) rfl).rd; exact rd_none this h (st.k (i := 1) rfl).len (by decide)) (by intro x v hv; simp only [tagMC, List.mem_cons, List.not_mem_nil, or_false] at hv; rcases hv with rfl | rfl | rfl <;> rfl) (by first | (unfold maxLen; omega) | (simp [maxLen]; omega)) (by first | (unfold maxLen; omega) | (simp [maxLen]; omega)) (fun Aa1 ca1 sp1 w5 how3 (hp : Hp w5 [(_, Cl [_, _] _), (_, Cl [_, _] _), (_, Cl [_, _] _), _, _]) hf hnw1 => ?_)
    have st : St X w5 [(_, Cl [_, _] _), (_, Cl [_, _] _), (_, Cl [_, _] _), _, _] [_, _] := st.setAny (i := 4) rfl hp hf hnw1
    have st : St X w5 [(_, Cl [_, _] _), (_, Cl [_, _] _), (_, Cl [_, _] _), _, _] [_, _] := st
    have hnew3 : ∀ g, blkOf Aa1 = some g → g ∈ ([]) ∨ w.heap.size ≤ g := fun g hg => (hnw1 g hg).elim (hnew2 g) (fun h => .inr (Nat.le_trans hF.size h))
    have hF := hF.step hf (fun y hy => hnew2 y (by simpa using hy))
    refine Ls_y (wtd0 rfl) rfl rfl (y_fld rfl rfl Ty.fo_55_1) (Ls_a (wtd0 rfl) ?_)
    refine a_store (i := 2) rfl rfl rfl rfl rfl Ty.sz_30 rfl st.hp rfl (by simp) (fun w6 (hp : Hp w6 [(_, Cl [_, _] _), (_, Cl [_, _] _), (_, Cl [_, _] _), _, _]) hf _ => ?_)
    have st : St X w6 [(_, Cl [_, _] _), (_, Cl [_, _] _), (_, Cl [_, _] _), _, _] [_, _] := st.set (i := 2) rfl hp hf
    have hF := hF.step hf (by intro y hy; simp only [List.mem_cons, List.not_mem_nil, or_false] at hy; subst hy; first | (exact Or.inr (by omega)) | (exact Or.inl (kin0 _ _)) | (exact Or.inl (by simp)))
    refine Ls_nil (Th_n (hK5 _ _ ?_))
    refine Wp_seq fun K6 hK6 => ?_
    refine Wp_region (Ls_y (wtd0 rfl) rfl rfl (y_loadw (i := 2) rfl rfl Ty.ag_55 (fun _ e => e ▸ st.hp) rfl rfl) ?_)
    refine Ls_a (wtd0 rfl) ?_
    refine a_storew (i := 1) rfl rfl rfl rfl Ty.sz_55 rfl (by first | assumption | (simp [Value.oneCell']; done)) st.hp rfl rfl (fun w7 (hp : Hp w7 [(_, Cl [_, _] _), (_, Cl [_, _] _), (_, Cl [_, _] _), _, _]) hf _ => ?_)
    have st : St X w7 [(_, Cl [_, _] _), (_, Cl [_, _] _), (_, Cl [_, _] _), _, _] [_, _] := st.set (i := 1) rfl hp hf
    have hF := hF.step hf (by intro y hy; simp only [List.mem_cons, List.not_mem_nil, or_false] at hy; subst hy; first | (exact Or.inr (by omega)) | (exact Or.inl (kin0 _ _)) | (exact Or.inl (by simp)))
    refine Ls_nil (Th_n (hK6 _ _ ?_))
    have st : St X w7 [(_, Cl [_, _] _), (_, Cl [_, _] _), (_, Cl [_, _] _), _] [_, _, _] := st.freeze (i := 3) [0, 1, 2, 4] (by decide) rfl howu2_0 (by decide)
    have st : St X w7 [(_, Cl [_, _] _), (_, Cl [_, _] _), (_, Cl [_, _] _)] [_, _, _, _] := st.freeze (i := 3) [0, 1, 2] (by decide) rfl how3 (by decide)
    refine Wp_ret (Fq_ret (ResN1 rfl (rvc (i := 1) rfl Ty.ag_55 st.hp rfl rfl)) ?_)
    have he1 : to12_m s = (⟨u2_0, ([] : List TagM) ++ s.gone⟩ : SetM) := by unfold to12_m; rewrite [hLk1]; (try dsimp only); all_goals rfl
    rewrite [he1]
    exact ⟨_, _, _, _, rfl, st.out (i := 2) rfl, st.out (i := 3) rfl, hF⟩
  refine Wp_loopE (fun m E W => ∃ (s4 : Int) (u2_0 : List AddM) (Au2_0 : Option Addr) (cu2_0 : Nat) (spu2_0 : List Value), E = [(1, .pointer (some ⟨g1, 0, none⟩)), (2, .pointer (some ⟨g2, 0, none⟩)), (3, .pointer (some ⟨g3, 0, none⟩)), (4, .int .i64 s4)] ∧ to12_L1 s m s4 u2_0 = to12_L1 s (((s.adds.length : Int) - (0 : Int)).toNat + 1) (0 : Int) ([] : List AddM) ∧ ((s.adds.length : Int) - s4).toNat < m ∧ (0 ≤ s4 ∧ (u2_0.length : Int) ≤ s4) ∧ Ow Au2_0 u2_0.length cu2_0 4 (u2_0.flatMap addMC) spu2_0 ∧ (∀ g, blkOf Au2_0 = some g → g ∈ ([]) ∨ w.heap.size ≤ g) ∧ St X W [(some g1, Cl [.slice A_s_adds s.adds.length c_s_adds, .slice A_s_gone s.gone.length c_s_gone] 32), (some g2, Cl [.slice none 0 0, .slice none 0 0] 55), (some g3, Cl [.slice Au2_0 u2_0.length cu2_0, .slice none 0 0] 55), (blkOf Au2_0, Cl (u2_0.flatMap addMC ++ spu2_0) 106)] [kS A_s_adds s.adds.length c_s_adds 4 (s.adds.flatMap addMC), kS A_s_gone s.gone.length c_s_gone 3 (s.gone.flatMap tagMC)] ∧ Fr ([]) w W) (((s.adds.length : Int) - (0 : Int)).toNat + 1) [(1, _), (2, _), (3, _), (4, _)] ⟨rfl, rfl, rfl, rfl, trivial⟩ ?_ ?_
  · exact ⟨_, _, _, _, _, rfl, rfl, Nat.lt_succ_self _, by first | omega | (simp; done) | (simp; omega), how1, hnew1, st, hF⟩
  rintro m E w8 ⟨s4, u2_0, Au2_0, cu2_0, spu2_0, rfl, hL1, hmu, hinv, howu2_0, newu2_0, st, hF⟩
  obtain ⟨fuel, rfl⟩ : ∃ q, m = q + 1 := ⟨m - 1, by omega⟩
  have hlehowu2_0 := Ow.le howu2_0
  refine Wp_seq fun K7 hK7 => ?_
  refine Wp_seq fun K8 hK8 => ?_
  refine Wp_region (Lmv rfl rfl rfl rfl rfl (Ls_y (wtd0 rfl) rfl rfl (y_fld rfl rfl Ty.fo_32_0) (Ls_y (wtd0 rfl) rfl rfl (y_load (i := 0) rfl rfl Ty.pl_29 (fun _ e => e ▸ st.hp) rfl rfl) ?_)))
  refine Ls_y (wtd0 rfl) rfl rfl (y_lenl rfl rfl Try.underlying29) ?_
  refine Ls_y (wtd0 rfl) rfl rfl (y_lt rfl rfl rfl) (Ls_nil (Th_n (hK8 _ _ ?_)))
  refine Wp_cond rfl (fun hc1 => ?_) (fun hc1 => ?_)
  · have hc1 := dT hc1
    refine Wp_skip (Th_n (hK7 _ _ ?_))
    refine Wp_seq fun K9 hK9 => ?_
    refine Wp_block (Wp_planF (fun W => St X W (pickL (hOf st) [0, 1, 2]) (kOf st)) [(true, 0), (true, 1), (true, 2), (true, 3), (true, 4), (true, 5), (true, 6), (true, 7), (true, 8), (true, 9), (true, 10), (true, 11), (true, 12), (true, 13), (true, 14), (false, 15), (false, 16), (true, 17)] 18 Ty.mx_0 (by kernel_rfl) (by kernel_rfl) (by kernel_rfl) rfl ((st.picks [0, 1, 2] (by decide)).drew) ?_)
    have st := st.drew
    have hF := hF.step0 (Fr.drew _)
    refine Pl_y rfl (wtd0 rfl) rfl rfl (y_fld rfl rfl Ty.fo_55_0) (Pl_y rfl (wtd0 rfl) rfl rfl (y_load (i := 2) rfl rfl Ty.pl_53 (fun _ h => h.hp) rfl rfl) ?_)
    refine Pl_y rfl (wtd0 rfl) rfl rfl (y_fld rfl rfl Ty.fo_32_0) (Pl_y rfl (wtd0 rfl) rfl rfl (y_load (i := 0) rfl rfl Ty.pl_29 (fun _ h => h.hp) rfl rfl) ?_)
    refine Pmv rfl rfl rfl rfl rfl rfl ?_
    obtain ⟨gi1, bi1, egi1⟩ := (st.k (i := 0) rfl).addr (fun _ => rfl) (by decide) (q := s4) (by first | omega | (simp; done) | (simp; omega)) (by first | omega | (simp; done) | (simp; omega))
    subst egi1
    refine Pl_y rfl (wtd0 rfl) rfl rfl (y_ixa (q := s4) rfl rfl rfl Ty.es_29 (by first | omega | (simp; done) | (simp; omega)) (by first | omega | (simp; done) | (simp; omega))) ?_
    refine Pl_y rfl (wtd0 rfl) rfl rfl (y_fld rfl rfl Ty.fo_109_0) (Pl_y rfl (wtd0 rfl) rfl rfl (y_ldkm (q := s4) 0 rfl rfl Ty.ag_43 (fun _ h => h.k (i := 0) rfl) (fun _ => rfl) (by first | omega | (simp; done) | (simp; omega)) (by first | omega | (simp; done) | (simp; omega)) rfl rfl) ?_)
    refine Pl_y rfl (wtd0 rfl) rfl rfl (y_fld rfl rfl Ty.fo_32_0) (Pl_y rfl (wtd0 rfl) rfl rfl (y_load (i := 0) rfl rfl Ty.pl_29 (fun _ h => h.hp) rfl rfl) ?_)
    refine Pmv rfl rfl rfl rfl rfl rfl (Pl_y rfl (wtd0 rfl) rfl rfl (y_ixa (q := s4) rfl rfl rfl Ty.es_29 (by first | omega | (simp; done) | (simp; omega)) (by first | omega | (simp; done) | (simp; omega))) ?_)
    refine Pl_y rfl (wtd0 rfl) rfl rfl (y_fld rfl rfl Ty.fo_109_1) (Pl_y rfl (wtd0 rfl) rfl rfl (y_ldk1 (q := s4) 3 rfl rfl Ty.pl_9 (fun _ h => h.k (i := 0) rfl) (fun _ => rfl) (by first | omega | (simp; done) | (simp; omega)) (by first | omega | (simp; done) | (simp; omega)) rfl) ?_)
    refine Pl_y rfl (wtd0 rfl) rfl rfl (y_build (cells := [_, _, _, _]) rfl rfl Ty.zc_106 Ty.ps_106 rfl) ?_
    refine Pl_a rfl (wtd0 rfl) (by rfl) ?_
    refine a_bsls (us := [.int .i64 (((ix s.adds s4).tag).id.origin), .int .u32 (((ix s.adds s4).tag).id.seq), .int .i64 (((ix s.adds s4).tag).n), sv ((ix s.adds s4).elem)]) rfl rfl rfl rfl Ty.es_53 Ty.zc_106 rfl (by decide) st.hp (fun g4 w9 (hp : Hp w9 [(_, Cl [_, _] _), (_, Cl [_, _] _), (_, Cl [_, _] _), _, _]) hf hg4 => ?_)
    have how4 : Ow (some ⟨g4, 0, none⟩) [(⟨(⟨(⟨((ix s.adds s4).tag).id.origin, ((ix s.adds s4).tag).id.seq⟩ : IdM), ((ix s.adds s4).tag).n⟩ : TagM), (ix s.adds s4).elem⟩ : AddM)].length 1 4 ([(⟨(⟨(⟨((ix s.adds s4).tag).id.origin, ((ix s.adds s4).tag).id.seq⟩ : IdM), ((ix s.adds s4).tag).n⟩ : TagM), (ix s.adds s4).elem⟩ : AddM)].flatMap addMC) [] := ⟨rfl, .inr ⟨g4, rfl, rfl, Nat.le_refl _, by unfold maxLen; decide⟩⟩
    have st : St X w9 [(_, Cl [_, _] _), (_, Cl [_, _] _), (_, Cl [_, _] _), _, _] [_, _] := st.push hp hf hg4
    have st : St X w9 [(_, Cl [_, _] _), (_, Cl [_, _] _), (_, Cl [_, _] _), _, _] [_, _] := st
    have hg4 := Nat.le_trans hF.size hg4
    have hF := hF.step0 hf
    have hnew4 : ∀ g, blkOf (some ⟨g4, 0, none⟩) = some g → g ∈ ([]) ∨ w.heap.size ≤ g := fun g hg => by simp [blkOf] at hg; subst hg; exact .inr hg4
    refine ⟨(st.picks [0, 1, 2] (by decide)).takeK 2, ?_⟩
    refine Pl_a rfl (wtd0 rfl) (by rfl) ?_
    refine a_appM (i := 3) (xs := u2_0) (ys := [(⟨(⟨(⟨((ix s.adds s4).tag).id.origin, ((ix s.adds s4).tag).id.seq⟩ : IdM), ((ix s.adds s4).tag).n⟩ : TagM), (ix s.adds s4).elem⟩ : AddM)]) (enc := addMC) rfl rfl rfl rfl rfl rfl Ty.es_53 Ty.zc_106 rfl Ty.by_106 (by decide) (fun _ => rfl) howu2_0 st.hp rfl (own_src (i := 4) st.hp rfl how4) (own_none how4) (by intro x v hv; simp only [addMC, List.mem_cons, List.not_mem_nil, or_false] at hv; rcases hv with rfl | rfl | rfl | rfl <;> rfl) (by first | (unfold maxLen; omega) | (simp [maxLen]; omega)) (by first | (unfold maxLen; omega) | (simp [maxLen]; omega)) (fun Aa2 ca2 sp2 w10 how5 (hp : Hp w10 [(_, Cl [_, _] _), (_, Cl [_, _] _), (_, Cl [_, _] _), _, _]) hf hnw2 => ?_)
    have st : St X w10 [(_, Cl [_, _] _), (_, Cl [_, _] _), (_, Cl [_, _] _), _, _] [_, _] := st.setAny (i := 3) rfl hp hf hnw2
    have st : St X w10 [(_, Cl [_, _] _), (_, Cl [_, _] _), (_, Cl [_, _] _), _, _] [_, _] := st
    have hnew5 : ∀ g, blkOf Aa2 = some g → g ∈ ([]) ∨ w.heap.size ≤ g := fun g hg => (hnw2 g hg).elim (newu2_0 g) (fun h => .inr (Nat.le_trans hF.size h))
    have hF := hF.step hf (fun y hy => newu2_0 y (by simpa using hy))
    refine ⟨(st.picks [0, 1, 2] (by decide)).takeK 2, ?_⟩
    refine Pl_y rfl (wtd0 rfl) rfl rfl (y_fld rfl rfl Ty.fo_55_0) (Pl_nil (Fin_a rfl (wtd0 rfl) ?_))
    refine a_store (i := 2) rfl rfl rfl rfl rfl Ty.sz_53 rfl st.hp rfl (by simp) (fun w11 (hp : Hp w11 [(_, Cl [_, _] _), (_, Cl [_, _] _), (_, Cl [_, _] _), _, _]) hf _ => ?_)
    have st : St X w11 [(_, Cl [_, _] _), (_, Cl [_, _] _), (_, Cl [_, _] _), _, _] [_, _] := st.set (i := 2) rfl hp hf
    have hF := hF.step hf (by intro y hy; simp only [List.mem_cons, List.not_mem_nil, or_false] at hy; subst hy; first | (exact Or.inr (by omega)) | (exact Or.inl (kin0 _ _)) | (exact Or.inl (by simp)))
    refine id (Ib_n (Th_n (hK9 _ _ ?_)))
    refine Wp_region (Lmv rfl rfl rfl rfl rfl (Ls_y (wtd0 rfl) rfl rfl (y_add (c := s4 + 1) rfl rfl rfl (wf_i64 (by first | omega | (simp; done) | (simp; omega)))) ?_))
    refine Las rfl rfl rfl rfl rfl (Ls_nil (Th_n (?_)))
    have hE1 : to12_L1 s fuel (s4 + 1) (u2_0 ++ [(⟨(⟨(⟨((ix s.adds s4).tag).id.origin, ((ix s.adds s4).tag).id.seq⟩ : IdM), ((ix s.adds s4).tag).n⟩ : TagM), (ix s.adds s4).elem⟩ : AddM)]) = to12_L1 s (((s.adds.length : Int) - (0 : Int)).toNat + 1) (0 : Int) ([] : List AddM) := by rewrite [← hL1, to12_L1]; rewrite [if_pos hc1]; rfl
    exact ⟨fuel, [(1, _), (2, _), (3, _), (4, _)], Nat.lt_succ_self _, ⟨rfl, rfl, rfl, rfl, trivial⟩, (s4 + 1), (u2_0 ++ [(⟨(⟨(⟨((ix s.adds s4).tag).id.origin, ((ix s.adds s4).tag).id.seq⟩ : IdM), ((ix s.adds s4).tag).n⟩ : TagM), (ix s.adds s4).elem⟩ : AddM)]), Aa2, ca2, sp2, rfl, hE1, by first | omega | (simp; done) | (simp; omega), by first | omega | (simp; done) | (simp; omega), how5, hnew5, (st.picks [0, 1, 2, 3] (by decide)).pickK [0, 1], hF⟩
  have hc1 := dF hc1
  refine Wp_exit (Th_e (Th_e (Ib_hit (Th_n (?_)))))
  have hE2 : to12_L1 s (((s.adds.length : Int) - (0 : Int)).toNat + 1) (0 : Int) ([] : List AddM) = .inr (s4, u2_0) := by rewrite [← hL1, to12_L1]; rewrite [if_neg hc1]; rfl
  exact hout1 _ [(1, _), (2, _), (3, _), (4, _)] _ ⟨rfl, rfl, rfl, rfl, trivial⟩ ⟨s4, u2_0, Au2_0, cu2_0, spu2_0, rfl, hE2, by first | omega | (simp; done) | (simp; omega), howu2_0, newu2_0, (st.picks [0, 1, 2, 3] (by decide)).pickK [0, 1], hF⟩

def from12_L1 (s : SetM) : Nat → Int → (List AddM) → (SetM) ⊕ (Int × (List AddM))
  | 0, s4, u2_0 => .inr (s4, u2_0)
  | fuel + 1, s4, u2_0 =>
    if s4 < (s.adds.length : Int) then
      from12_L1 s fuel (s4 + 1) (u2_0 ++ [(⟨(⟨(⟨((ix s.adds s4).tag).id.origin, ((ix s.adds s4).tag).id.seq⟩ : IdM), ((ix s.adds s4).tag).n⟩ : TagM), (ix s.adds s4).elem⟩ : AddM)])
    else
      .inr (s4, u2_0)
def from12_m (s : SetM) : SetM :=
  match from12_L1 s (((s.adds.length : Int) - (0 : Int)).toNat + 1) (0 : Int) ([] : List AddM) with
  | .inl r => r
  | .inr (s4, u2_0) =>
    (⟨u2_0, ([] : List TagM) ++ s.gone⟩ : SetM)


set_option maxRecDepth 20000 in
theorem from12_ok (X : List Nat) (w : World) (hX : Lo X w) (s : SetM) (A_s_adds : Option Addr) (c_s_adds : Nat) (A_s_gone : Option Addr) (c_s_gone : Nat) (h_s_adds : Sld X w A_s_adds s.adds.length c_s_adds 4 (s.adds.flatMap addMC)) (h_s_gone : Sld X w A_s_gone s.gone.length c_s_gone 3 (s.gone.flatMap tagMC)) (h1 : s.adds.length ≤ 1000000) (h2 : s.gone.length ≤ 1000000) :
    Fn Try.prog 39 [.agg #[.slice A_s_adds s.adds.length c_s_adds, .slice A_s_gone s.gone.length c_s_gone]] w fun v w' => ∃ (Ar_adds : Option Addr) (cr_adds : Nat) (Ar_gone : Option Addr) (cr_gone : Nat), v = .agg #[.slice Ar_adds ((from12_m s).adds).length cr_adds, .slice Ar_gone ((from12_m s).gone).length cr_gone] ∧ Sld X w' Ar_adds ((from12_m s).adds).length cr_adds 4 (((from12_m s).adds).flatMap addMC) ∧ Sld X w' Ar_gone ((from12_m s).gone).length cr_gone 3 (((from12_m s).gone).flatMap tagMC) ∧ Fr [] w w' := by
  refine Fn_of 37 Ty.en_39 Try.func39 rfl rfl rfl ?_
  dsimp only [argEnv]
  have st : St X w [] [kS A_s_adds s.adds.length c_s_adds 4 (s.adds.flatMap addMC), kS A_s_gone s.gone.length c_s_gone 3 (s.gone.flatMap tagMC)] := ((St.nil (X := X) (w := w) hX).addK (kS A_s_adds s.adds.length c_s_adds 4 (s.adds.flatMap addMC)) h_s_adds).addK (kS A_s_gone s.gone.length c_s_gone 3 (s.gone.flatMap tagMC)) h_s_gone
  have hF := Fr.refl ([]) w
  have hleA_s_adds := (st.k (i := 0) rfl).le
  have hleA_s_gone := (st.k (i := 1) rfl).le
  refine Wp_seq fun K1 hK1 => ?_
  refine Wp_region (Ls_a (wtd0 rfl) ?_)
  refine a_box rfl rfl rfl rfl st.hp (fun g1 w1 (hp : Hp w1 [(_, Cl [_, _] _)]) hf hg1 => ?_)
  have st : St X w1 [(_, Cl [_, _] _)] [_, _] := st.push hp hf hg1
  have hg1 := Nat.le_trans hF.size hg1
  have hF := hF.step0 hf
  refine Ls_a (wtd0 rfl) ?_
  refine a_alloc rfl rfl rfl Ty.zc_32 st.hp (fun g2 w2 (hp : Hp w2 [(_, Cl [_, _] _), (_, Cl [_, _] _)]) hf hg2 => ?_)
  have st : St X w2 [(_, Cl [_, _] _), (_, Cl [_, _] _)] [_, _] := st.push hp hf hg2
  have hg2 := Nat.le_trans hF.size hg2
  have hF := hF.step0 hf
  refine Ls_nil (Th_n (hK1 _ _ ?_))
  refine Wp_seq fun K2 hK2 => ?_
  refine Wp_region (Ls_a (wtd0 rfl) ?_)
  refine a_alloc rfl rfl rfl Ty.zc_32 st.hp (fun g3 w3 (hp : Hp w3 [(_, Cl [_, _] _), (_, Cl [_, _] _), (_, Cl [_, _] _)]) hf hg3 => ?_)
  have st : St X w3 [(_, Cl [_, _] _), (_, Cl [_, _] _), (_, Cl [_, _] _)] [_, _] := st.push hp hf hg3
  have hg3 := Nat.le_trans hF.size hg3
  have hF := hF.step0 hf
  refine Ls_nil (Th_n (hK2 _ _ ?_))
  refine Wp_seq fun K3 hK3 => ?_
  refine Wp_seq fun K4 hK4 => ?_
  refine Wp_region (Las rfl rfl rfl rfl rfl (Ls_nil (Th_n (hK4 _ _ ?_))))
  refine Wp_block ?_
  have st : St X _ [(some g1, Cl [.slice A_s_adds s.adds.length c_s_adds, .slice A_s_gone s.gone.length c_s_gone] 55), (some g2, Cl [.slice none 0 0, .slice none 0 0] 32), (some g3, Cl [.slice none 0 0, .slice none 0 0] 32), (blkOf none, Cl (([] : List AddM).flatMap addMC ++ []) 109)] [_, _] := st.addN _
  have how1 : Ow none ([] : List AddM).length 0 4 (([] : List AddM).flatMap addMC) [] := Ow.nil 4
  have hnew1 : ∀ g, blkOf none = some g → g ∈ ([]) ∨ w.heap.size ≤ g := fun g hg => by cases hg
  refine use_out hK3 (fun E W => ∃ (s4 : Int) (u2_0 : List AddM) (Au2_0 : Option Addr) (cu2_0 : Nat) (spu2_0 : List Value), E = [(1, .pointer (some ⟨g1, 0, none⟩)), (2, .pointer (some ⟨g2, 0, none⟩)), (3, .pointer (some ⟨g3, 0, none⟩)), (4, .int .i64 s4)] ∧ from12_L1 s (((s.adds.length : Int) - (0 : Int)).toNat + 1) (0 : Int) ([] : List AddM) = .inr (s4, u2_0) ∧ (0 ≤ s4 ∧ (u2_0.length : Int) ≤ s4) ∧ Ow Au2_0 u2_0.length cu2_0 4 (u2_0.flatMap addMC) spu2_0 ∧ (∀ g, blkOf Au2_0 = some g → g ∈ ([]) ∨ w.heap.size ≤ g) ∧ St X W [(some g1, Cl [.slice A_s_adds s.adds.length c_s_adds, .slice A_s_gone s.gone.length c_s_gone] 55), (some g2, Cl [.slice none 0 0, .slice none 0 0] 32), (some g3, Cl [.slice Au2_0 u2_0.length cu2_0, .slice none 0 0] 32), (blkOf Au2_0, Cl (u2_0.flatMap addMC ++ spu2_0) 109)] [kS A_s_adds s.adds.length c_s_adds 4 (s.adds.flatMap addMC), kS A_s_gone s.gone.length c_s_gone 3 (s.gone.flatMap tagMC)] ∧ Fr ([]) w W) ?_ fun hout1 => ?_
  · rintro E w4 ⟨s4, u2_0, Au2_0, cu2_0, spu2_0, rfl, hLk1, hinv, howu2_0, newu2_0, st, hF⟩
    refine Wp_seq fun K5 hK5 => ?_
    refine Wp_region (Ls_y (wtd0 rfl) rfl rfl (y_fld rfl rfl Ty.fo_32_1) (Ls_y (wtd0 rfl) rfl rfl (y_load (i := 2) rfl rfl Ty.pl_30 (fun _ e => e ▸ st.hp) rfl rfl) ?_))
    refine Ls_y (wtd0 rfl) rfl rfl (y_fld rfl rfl Ty.fo_55_1) (Ls_y (wtd0 rfl) rfl rfl (y_load (i := 0) rfl rfl Ty.pl_30 (fun _ e => e ▸ st.hp) rfl rfl) ?_)
    have st : St X _ [(some g1, Cl [.slice A_s_adds s.adds.length c_s_adds, .slice A_s_gone s.gone.length c_s_gone] 55), (some g2, Cl [.slice none 0 0, .slice none 0 0] 32), (some g3, Cl [.slice Au2_0 u2_0.length cu2_0, .slice none 0 0] 32), (blkOf Au2_0, Cl (u2_0.flatMap addMC ++ spu2_0) 109), (blkOf none, Cl (([] : List TagM).flatMap tagMC ++ []) 43)] [_, _] := st.addN _
    have how2 : Ow none ([] : List TagM).length 0 3 (([] : List TagM).flatMap tagMC) [] := Ow.nil 3
    have hnew2 : ∀ g, blkOf none = some g → g ∈ ([]) ∨ w.heap.size ≤ g := fun g hg => by cases hg
    refine Ls_a (wtd0 rfl) ?_
    refine a_appM (i := 4) (xs := ([] : List TagM)) (ys := s.gone) (enc := tagMC) rfl rfl rfl rfl rfl rfl Ty.es_30 Ty.zc_43 rfl Ty.by_43 (by decide) (fun _ => rfl) how2 st.hp rfl (st.k (i := 1) rfl).rd.src (fun h => by have := (st.k (i := 1) rfl).rd; exact rd_none this h (st.k (i := 1) rfl).len (by decide)) (by intro x v hv; simp only [tagMC, List.mem_cons, List.not_mem_nil, or_false] at hv; rcases hv with rfl | rfl | rfl <;> rfl) (by first | (unfold maxLen; omega) | (simp [maxLen]; omega)) (by first | (unfold maxLen; omega) | (simp [maxLen]; omega)) (fun Aa1 ca1 sp1 w5 how3 (hp : Hp w5 [(_, Cl [_, _] _), (_, Cl [_, _] _), (_, Cl [_, _] _), _, _]) hf hnw1 => ?_)
    have st : St X w5 [(_, Cl [_, _] _), (_, Cl [_, _] _), (_, Cl [_, _] _), _, _] [_, _] := st.setAny (i := 4) rfl hp hf hnw1
    have st : St X w5 [(_, Cl [_, _] _), (_, Cl [_, _] _), (_, Cl [_, _] _), _, _] [_, _] := st
    have hnew3 : ∀ g, blkOf Aa1 = some g → g ∈ ([]) ∨ w.heap.size ≤ g := fun g hg => (hnw1 g hg).elim (hnew2 g) (fun h => .inr (Nat.le_trans hF.size h))
    have hF := hF.step hf (fun y hy => hnew2 y (by simpa using hy))
    refine Ls_y (wtd0 rfl) rfl rfl (y_fld rfl rfl Ty.fo_32_1) (Ls_a (wtd0 rfl) ?_)
    refine a_store (i := 2) rfl rfl rfl rfl rfl Ty.sz_30 rfl st.hp rfl (by simp) (fun w6 (hp : Hp w6 [(_, Cl [_, _] _), (_, Cl [_, _] _), (_, Cl [_, _] _), _, _]) hf _ => ?_)
    have st : St X w6 [(_, Cl [_, _] _), (_, Cl [_, _] _), (_, Cl [_, _] _), _, _] [_, _] := st.set (i := 2) rfl hp hf
    have hF := hF.step hf (by intro y hy; simp only [List.mem_cons, List.not_mem_nil, or_false] at hy; subst hy; first | (exact Or.inr (by omega)) | (exact Or.inl (kin0 _ _)) | (exact Or.inl (by simp)))
    refine Ls_nil (Th_n (hK5 _ _ ?_))
    refine Wp_seq fun K6 hK6 => ?_
    refine Wp_region (Ls_y (wtd0 rfl) rfl rfl (y_loadw (i := 2) rfl rfl Ty.ag_32 (fun _ e => e ▸ st.hp) rfl rfl) ?_)
    refine Ls_a (wtd0 rfl) ?_
    refine a_storew (i := 1) rfl rfl rfl rfl Ty.sz_32 rfl (by first | assumption | (simp [Value.oneCell']; done)) st.hp rfl rfl (fun w7 (hp : Hp w7 [(_, Cl [_, _] _), (_, Cl [_, _] _), (_, Cl [_, _] _), _, _]) hf _ => ?_)
    have st : St X w7 [(_, Cl [_, _] _), (_, Cl [_, _] _), (_, Cl [_, _] _), _, _] [_, _] := st.set (i := 1) rfl hp hf
    have hF := hF.step hf (by intro y hy; simp only [List.mem_cons, List.not_mem_nil, or_false] at hy; subst hy; first | (exact Or.inr (by omega)) | (exact Or.inl (kin0 _ _)) | (exact Or.inl (by simp)))
    refine Ls_nil (Th_n (hK6 _ _ ?_))
    have st : St X w7 [(_, Cl [_, _] _), (_, Cl [_, _] _), (_, Cl [_, _] _), _] [_, _, _] := st.freeze (i := 3) [0, 1, 2, 4] (by decide) rfl howu2_0 (by decide)
    have st : St X w7 [(_, Cl [_, _] _), (_, Cl [_, _] _), (_, Cl [_, _] _)] [_, _, _, _] := st.freeze (i := 3) [0, 1, 2] (by decide) rfl how3 (by decide)
    refine Wp_ret (Fq_ret (ResN1 rfl (rvc (i := 1) rfl Ty.ag_32 st.hp rfl rfl)) ?_)
    have he1 : from12_m s = (⟨u2_0, ([] : List TagM) ++ s.gone⟩ : SetM) := by unfold from12_m; rewrite [hLk1]; (try dsimp only); all_goals rfl
    rewrite [he1]
    exact ⟨_, _, _, _, rfl, st.out (i := 2) rfl, st.out (i := 3) rfl, hF⟩
  refine Wp_loopE (fun m E W => ∃ (s4 : Int) (u2_0 : List AddM) (Au2_0 : Option Addr) (cu2_0 : Nat) (spu2_0 : List Value), E = [(1, .pointer (some ⟨g1, 0, none⟩)), (2, .pointer (some ⟨g2, 0, none⟩)), (3, .pointer (some ⟨g3, 0, none⟩)), (4, .int .i64 s4)] ∧ from12_L1 s m s4 u2_0 = from12_L1 s (((s.adds.length : Int) - (0 : Int)).toNat + 1) (0 : Int) ([] : List AddM) ∧ ((s.adds.length : Int) - s4).toNat < m ∧ (0 ≤ s4 ∧ (u2_0.length : Int) ≤ s4) ∧ Ow Au2_0 u2_0.length cu2_0 4 (u2_0.flatMap addMC) spu2_0 ∧ (∀ g, blkOf Au2_0 = some g → g ∈ ([]) ∨ w.heap.size ≤ g) ∧ St X W [(some g1, Cl [.slice A_s_adds s.adds.length c_s_adds, .slice A_s_gone s.gone.length c_s_gone] 55), (some g2, Cl [.slice none 0 0, .slice none 0 0] 32), (some g3, Cl [.slice Au2_0 u2_0.length cu2_0, .slice none 0 0] 32), (blkOf Au2_0, Cl (u2_0.flatMap addMC ++ spu2_0) 109)] [kS A_s_adds s.adds.length c_s_adds 4 (s.adds.flatMap addMC), kS A_s_gone s.gone.length c_s_gone 3 (s.gone.flatMap tagMC)] ∧ Fr ([]) w W) (((s.adds.length : Int) - (0 : Int)).toNat + 1) [(1, _), (2, _), (3, _), (4, _)] ⟨rfl, rfl, rfl, rfl, trivial⟩ ?_ ?_
  · exact ⟨_, _, _, _, _, rfl, rfl, Nat.lt_succ_self _, by first | omega | (simp; done) | (simp; omega), how1, hnew1, st, hF⟩
  rintro m E w8 ⟨s4, u2_0, Au2_0, cu2_0, spu2_0, rfl, hL1, hmu, hinv, howu2_0, newu2_0, st, hF⟩
  obtain ⟨fuel, rfl⟩ : ∃ q, m = q + 1 := ⟨m - 1, by omega⟩
  have hlehowu2_0 := Ow.le howu2_0
  refine Wp_seq fun K7 hK7 => ?_
  refine Wp_seq fun K8 hK8 => ?_
  refine Wp_region (Lmv rfl rfl rfl rfl rfl (Ls_y (wtd0 rfl) rfl rfl (y_fld rfl rfl Ty.fo_55_0) (Ls_y (wtd0 rfl) rfl rfl (y_load (i := 0) rfl rfl Ty.pl_53 (fun _ e => e ▸ st.hp) rfl rfl) ?_)))
  refine Ls_y (wtd0 rfl) rfl rfl (y_lenl rfl rfl Try.underlying53) ?_
  refine Ls_y (wtd0 rfl) rfl rfl (y_lt rfl rfl rfl) (Ls_nil (Th_n (hK8 _ _ ?_)))
  refine Wp_cond rfl (fun hc1 => ?_) (fun hc1 => ?_)
  · have hc1 := dT hc1
    refine Wp_skip (Th_n (hK7 _ _ ?_))
    refine Wp_seq fun K9 hK9 => ?_
    refine Wp_block (Wp_planF (fun W => St X W (pickL (hOf st) [0, 1, 2]) (kOf st)) [(true, 0), (true, 1), (true, 2), (true, 3), (true, 4), (true, 5), (true, 6), (true, 7), (true, 8), (true, 9), (true, 10), (true, 11), (true, 12), (true, 13), (true, 14), (false, 15), (false, 16), (true, 17)] 18 Ty.mx_0 (by kernel_rfl) (by kernel_rfl) (by kernel_rfl) rfl ((st.picks [0, 1, 2] (by decide)).drew) ?_)
    have st := st.drew
    have hF := hF.step0 (Fr.drew _)
    refine Pl_y rfl (wtd0 rfl) rfl rfl (y_fld rfl rfl Ty.fo_32_0) (Pl_y rfl (wtd0 rfl) rfl rfl (y_load (i := 2) rfl rfl Ty.pl_29 (fun _ h => h.hp) rfl rfl) ?_)
    refine Pl_y rfl (wtd0 rfl) rfl rfl (y_fld rfl rfl Ty.fo_55_0) (Pl_y rfl (wtd0 rfl) rfl rfl (y_load (i := 0) rfl rfl Ty.pl_53 (fun _ h => h.hp) rfl rfl) ?_)
    refine Pmv rfl rfl rfl rfl rfl rfl ?_
    obtain ⟨gi1, bi1, egi1⟩ := (st.k (i := 0) rfl).addr (fun _ => rfl) (by decide) (q := s4) (by first | omega | (simp; done) | (simp; omega)) (by first | omega | (simp; done) | (simp; omega))
    subst egi1
    refine Pl_y rfl (wtd0 rfl) rfl rfl (y_ixa (q := s4) rfl rfl rfl Ty.es_53 (by first | omega | (simp; done) | (simp; omega)) (by first | omega | (simp; done) | (simp; omega))) ?_
    refine Pl_y rfl (wtd0 rfl) rfl rfl (y_fld rfl rfl Ty.fo_106_0) (Pl_y rfl (wtd0 rfl) rfl rfl (y_ldkm (q := s4) 0 rfl rfl Ty.ag_43 (fun _ h => h.k (i := 0) rfl) (fun _ => rfl) (by first | omega | (simp; done) | (simp; omega)) (by first | omega | (simp; done) | (simp; omega)) rfl rfl) ?_)
    refine Pl_y rfl (wtd0 rfl) rfl rfl (y_fld rfl rfl Ty.fo_55_0) (Pl_y rfl (wtd0 rfl) rfl rfl (y_load (i := 0) rfl rfl Ty.pl_53 (fun _ h => h.hp) rfl rfl) ?_)
    refine Pmv rfl rfl rfl rfl rfl rfl (Pl_y rfl (wtd0 rfl) rfl rfl (y_ixa (q := s4) rfl rfl rfl Ty.es_53 (by first | omega | (simp; done) | (simp; omega)) (by first | omega | (simp; done) | (simp; omega))) ?_)
    refine Pl_y rfl (wtd0 rfl) rfl rfl (y_fld rfl rfl Ty.fo_106_1) (Pl_y rfl (wtd0 rfl) rfl rfl (y_ldk1 (q := s4) 3 rfl rfl Ty.pl_9 (fun _ h => h.k (i := 0) rfl) (fun _ => rfl) (by first | omega | (simp; done) | (simp; omega)) (by first | omega | (simp; done) | (simp; omega)) rfl) ?_)
    refine Pl_y rfl (wtd0 rfl) rfl rfl (y_build (cells := [_, _, _, _]) rfl rfl Ty.zc_109 Ty.ps_109 rfl) ?_
    refine Pl_a rfl (wtd0 rfl) (by rfl) ?_
    refine a_bsls (us := [.int .i64 (((ix s.adds s4).tag).id.origin), .int .u32 (((ix s.adds s4).tag).id.seq), .int .i64 (((ix s.adds s4).tag).n), sv ((ix s.adds s4).elem)]) rfl rfl rfl rfl Ty.es_29 Ty.zc_109 rfl (by decide) st.hp (fun g4 w9 (hp : Hp w9 [(_, Cl [_, _] _), (_, Cl [_, _] _), (_, Cl [_, _] _), _, _]) hf hg4 => ?_)
    have how4 : Ow (some ⟨g4, 0, none⟩) [(⟨(⟨(⟨((ix s.adds s4).tag).id.origin, ((ix s.adds s4).tag).id.seq⟩ : IdM), ((ix s.adds s4).tag).n⟩ : TagM), (ix s.adds s4).elem⟩ : AddM)].length 1 4 ([(⟨(⟨(⟨((ix s.adds s4).tag).id.origin, ((ix s.adds s4).tag).id.seq⟩ : IdM), ((ix s.adds s4).tag).n⟩ : TagM), (ix s.adds s4).elem⟩ : AddM)].flatMap addMC) [] := ⟨rfl, .inr ⟨g4, rfl, rfl, Nat.le_refl _, by unfold maxLen; decide⟩⟩
    have st : St X w9 [(_, Cl [_, _] _), (_, Cl [_, _] _), (_, Cl [_, _] _), _, _] [_, _] := st.push hp hf hg4
    have st : St X w9 [(_, Cl [_, _] _), (_, Cl [_, _] _), (_, Cl [_, _] _), _, _] [_, _] := st
    have hg4 := Nat.le_trans hF.size hg4
    have hF := hF.step0 hf
    have hnew4 : ∀ g, blkOf (some ⟨g4, 0, none⟩) = some g → g ∈ ([]) ∨ w.heap.size ≤ g := fun g hg => by simp [blkOf] at hg; subst hg; exact .inr hg4
    refine ⟨(st.picks [0, 1, 2] (by decide)).takeK 2, ?_⟩
    refine Pl_a rfl (wtd0 rfl) (by rfl) ?_
    refine a_appM (i := 3) (xs := u2_0) (ys := [(⟨(⟨(⟨((ix s.adds s4).tag).id.origin, ((ix s.adds s4).tag).id.seq⟩ : IdM), ((ix s.adds s4).tag).n⟩ : TagM), (ix s.adds s4).elem⟩ : AddM)]) (enc := addMC) rfl rfl rfl rfl rfl rfl Ty.es_29 Ty.zc_109 rfl Ty.by_109 (by decide) (fun _ => rfl) howu2_0 st.hp rfl (own_src (i := 4) st.hp rfl how4) (own_none how4) (by intro x v hv; simp only [addMC, List.mem_cons, List.not_mem_nil, or_false] at hv; rcases hv with rfl | rfl | rfl | rfl <;> rfl) (by first | (unfold maxLen; omega) | (simp [maxLen]; omega)) (by first | (unfold maxLen; omega) | (simp [maxLen]; omega)) (fun Aa2 ca2 sp2 w10 how5 (hp : Hp w10 [(_, Cl [_, _] _), (_, Cl [_, _] _), (_, Cl [_, _] _), _, _]) hf hnw2 => ?_)
    have st : St X w10 [(_, Cl [_, _] _), (_, Cl [_, _] _), (_, Cl [_, _] _), _, _] [_, _] := st.setAny (i := 3) rfl hp hf hnw2
    have st : St X w10 [(_, Cl [_, _] _), (_, Cl [_, _] _), (_, Cl [_, _] _), _, _] [_, _] := st
    have hnew5 : ∀ g, blkOf Aa2 = some g → g ∈ ([]) ∨ w.heap.size ≤ g := fun g hg => (hnw2 g hg).elim (newu2_0 g) (fun h => .inr (Nat.le_trans hF.size h))
    have hF := hF.step hf (fun y hy => newu2_0 y (by simpa using hy))
    refine ⟨(st.picks [0, 1, 2] (by decide)).takeK 2, ?_⟩
    refine Pl_y rfl (wtd0 rfl) rfl rfl (y_fld rfl rfl Ty.fo_32_0) (Pl_nil (Fin_a rfl (wtd0 rfl) ?_))
    refine a_store (i := 2) rfl rfl rfl rfl rfl Ty.sz_29 rfl st.hp rfl (by simp) (fun w11 (hp : Hp w11 [(_, Cl [_, _] _), (_, Cl [_, _] _), (_, Cl [_, _] _), _, _]) hf _ => ?_)
    have st : St X w11 [(_, Cl [_, _] _), (_, Cl [_, _] _), (_, Cl [_, _] _), _, _] [_, _] := st.set (i := 2) rfl hp hf
    have hF := hF.step hf (by intro y hy; simp only [List.mem_cons, List.not_mem_nil, or_false] at hy; subst hy; first | (exact Or.inr (by omega)) | (exact Or.inl (kin0 _ _)) | (exact Or.inl (by simp)))
    refine id (Ib_n (Th_n (hK9 _ _ ?_)))
    refine Wp_region (Lmv rfl rfl rfl rfl rfl (Ls_y (wtd0 rfl) rfl rfl (y_add (c := s4 + 1) rfl rfl rfl (wf_i64 (by first | omega | (simp; done) | (simp; omega)))) ?_))
    refine Las rfl rfl rfl rfl rfl (Ls_nil (Th_n (?_)))
    have hE1 : from12_L1 s fuel (s4 + 1) (u2_0 ++ [(⟨(⟨(⟨((ix s.adds s4).tag).id.origin, ((ix s.adds s4).tag).id.seq⟩ : IdM), ((ix s.adds s4).tag).n⟩ : TagM), (ix s.adds s4).elem⟩ : AddM)]) = from12_L1 s (((s.adds.length : Int) - (0 : Int)).toNat + 1) (0 : Int) ([] : List AddM) := by rewrite [← hL1, from12_L1]; rewrite [if_pos hc1]; rfl
    exact ⟨fuel, [(1, _), (2, _), (3, _), (4, _)], Nat.lt_succ_self _, ⟨rfl, rfl, rfl, rfl, trivial⟩, (s4 + 1), (u2_0 ++ [(⟨(⟨(⟨((ix s.adds s4).tag).id.origin, ((ix s.adds s4).tag).id.seq⟩ : IdM), ((ix s.adds s4).tag).n⟩ : TagM), (ix s.adds s4).elem⟩ : AddM)]), Aa2, ca2, sp2, rfl, hE1, by first | omega | (simp; done) | (simp; omega), by first | omega | (simp; done) | (simp; omega), how5, hnew5, (st.picks [0, 1, 2, 3] (by decide)).pickK [0, 1], hF⟩
  have hc1 := dF hc1
  refine Wp_exit (Th_e (Th_e (Ib_hit (Th_n (?_)))))
  have hE2 : from12_L1 s (((s.adds.length : Int) - (0 : Int)).toNat + 1) (0 : Int) ([] : List AddM) = .inr (s4, u2_0) := by rewrite [← hL1, from12_L1]; rewrite [if_neg hc1]; rfl
  exact hout1 _ [(1, _), (2, _), (3, _), (4, _)] _ ⟨rfl, rfl, rfl, rfl, trivial⟩ ⟨s4, u2_0, Au2_0, cu2_0, spu2_0, rfl, hE2, by first | omega | (simp; done) | (simp; omega), howu2_0, newu2_0, (st.picks [0, 1, 2, 3] (by decide)).pickK [0, 1], hF⟩

def to13_L1 (s : MapM) : Nat → Int → (List PutM) → (MapM) ⊕ (Int × (List PutM))
  | 0, s4, u2_0 => .inr (s4, u2_0)
  | fuel + 1, s4, u2_0 =>
    if s4 < (s.puts.length : Int) then
      to13_L1 s fuel (s4 + 1) (u2_0 ++ [put13_m (ix s.puts s4)])
    else
      .inr (s4, u2_0)
def to13_m (s : MapM) : MapM :=
  match to13_L1 s (((s.puts.length : Int) - (0 : Int)).toNat + 1) (0 : Int) ([] : List PutM) with
  | .inl r => r
  | .inr (s4, u2_0) =>
    (⟨u2_0, ([] : List TagM) ++ s.gone⟩ : MapM)


set_option maxRecDepth 20000 in
theorem to13_ok (X : List Nat) (w : World) (hX : Lo X w) (s : MapM) (A_s_puts : Option Addr) (c_s_puts : Nat) (A_s_gone : Option Addr) (c_s_gone : Nat) (h_s_puts : Sld X w A_s_puts s.puts.length c_s_puts 7 (s.puts.flatMap putMC)) (h_s_gone : Sld X w A_s_gone s.gone.length c_s_gone 3 (s.gone.flatMap tagMC)) (h1 : s.puts.length ≤ 1000000) (h2 : s.gone.length ≤ 1000000) :
    Fn Try.prog 26 [.agg #[.slice A_s_puts s.puts.length c_s_puts, .slice A_s_gone s.gone.length c_s_gone]] w fun v w' => ∃ (Ar_puts : Option Addr) (cr_puts : Nat) (Ar_gone : Option Addr) (cr_gone : Nat), v = .agg #[.slice Ar_puts ((to13_m s).puts).length cr_puts, .slice Ar_gone ((to13_m s).gone).length cr_gone] ∧ Sld X w' Ar_puts ((to13_m s).puts).length cr_puts 7 (((to13_m s).puts).flatMap putMC) ∧ Sld X w' Ar_gone ((to13_m s).gone).length cr_gone 3 (((to13_m s).gone).flatMap tagMC) ∧ Fr [] w w' := by
  refine Fn_of 30 Ty.en_26 Try.func26 rfl rfl rfl ?_
  dsimp only [argEnv]
  have st : St X w [] [kS A_s_puts s.puts.length c_s_puts 7 (s.puts.flatMap putMC), kS A_s_gone s.gone.length c_s_gone 3 (s.gone.flatMap tagMC)] := ((St.nil (X := X) (w := w) hX).addK (kS A_s_puts s.puts.length c_s_puts 7 (s.puts.flatMap putMC)) h_s_puts).addK (kS A_s_gone s.gone.length c_s_gone 3 (s.gone.flatMap tagMC)) h_s_gone
  have hF := Fr.refl ([]) w
  have hleA_s_puts := (st.k (i := 0) rfl).le
  have hleA_s_gone := (st.k (i := 1) rfl).le
  refine Wp_seq fun K1 hK1 => ?_
  refine Wp_region (Ls_a (wtd0 rfl) ?_)
  refine a_box rfl rfl rfl rfl st.hp (fun g1 w1 (hp : Hp w1 [(_, Cl [_, _] _)]) hf hg1 => ?_)
  have st : St X w1 [(_, Cl [_, _] _)] [_, _] := st.push hp hf hg1
  have hg1 := Nat.le_trans hF.size hg1
  have hF := hF.step0 hf
  refine Ls_a (wtd0 rfl) ?_
  refine a_alloc rfl rfl rfl Ty.zc_58 st.hp (fun g2 w2 (hp : Hp w2 [(_, Cl [_, _] _), (_, Cl [_, _] _)]) hf hg2 => ?_)
  have st : St X w2 [(_, Cl [_, _] _), (_, Cl [_, _] _)] [_, _] := st.push hp hf hg2
  have hg2 := Nat.le_trans hF.size hg2
  have hF := hF.step0 hf
  refine Ls_nil (Th_n (hK1 _ _ ?_))
  refine Wp_seq fun K2 hK2 => ?_
  refine Wp_region (Ls_a (wtd0 rfl) ?_)
  refine a_alloc rfl rfl rfl Ty.zc_58 st.hp (fun g3 w3 (hp : Hp w3 [(_, Cl [_, _] _), (_, Cl [_, _] _), (_, Cl [_, _] _)]) hf hg3 => ?_)
  have st : St X w3 [(_, Cl [_, _] _), (_, Cl [_, _] _), (_, Cl [_, _] _)] [_, _] := st.push hp hf hg3
  have hg3 := Nat.le_trans hF.size hg3
  have hF := hF.step0 hf
  refine Ls_nil (Th_n (hK2 _ _ ?_))
  refine Wp_seq fun K3 hK3 => ?_
  refine Wp_seq fun K4 hK4 => ?_
  refine Wp_region (Las rfl rfl rfl rfl rfl (Ls_nil (Th_n (hK4 _ _ ?_))))
  refine Wp_block ?_
  have st : St X _ [(some g1, Cl [.slice A_s_puts s.puts.length c_s_puts, .slice A_s_gone s.gone.length c_s_gone] 35), (some g2, Cl [.slice none 0 0, .slice none 0 0] 58), (some g3, Cl [.slice none 0 0, .slice none 0 0] 58), (blkOf none, Cl (([] : List PutM).flatMap putMC ++ []) 111)] [_, _] := st.addN _
  have how1 : Ow none ([] : List PutM).length 0 7 (([] : List PutM).flatMap putMC) [] := Ow.nil 7
  have hnew1 : ∀ g, blkOf none = some g → g ∈ ([]) ∨ w.heap.size ≤ g := fun g hg => by cases hg
  refine use_out hK3 (fun E W => ∃ (s4 : Int) (u2_0 : List PutM) (Au2_0 : Option Addr) (cu2_0 : Nat) (spu2_0 : List Value), E = [(1, .pointer (some ⟨g1, 0, none⟩)), (2, .pointer (some ⟨g2, 0, none⟩)), (3, .pointer (some ⟨g3, 0, none⟩)), (4, .int .i64 s4)] ∧ to13_L1 s (((s.puts.length : Int) - (0 : Int)).toNat + 1) (0 : Int) ([] : List PutM) = .inr (s4, u2_0) ∧ (0 ≤ s4 ∧ (u2_0.length : Int) ≤ s4) ∧ Ow Au2_0 u2_0.length cu2_0 7 (u2_0.flatMap putMC) spu2_0 ∧ (∀ g, blkOf Au2_0 = some g → g ∈ ([]) ∨ w.heap.size ≤ g) ∧ St X W [(some g1, Cl [.slice A_s_puts s.puts.length c_s_puts, .slice A_s_gone s.gone.length c_s_gone] 35), (some g2, Cl [.slice none 0 0, .slice none 0 0] 58), (some g3, Cl [.slice Au2_0 u2_0.length cu2_0, .slice none 0 0] 58), (blkOf Au2_0, Cl (u2_0.flatMap putMC ++ spu2_0) 111)] [kS A_s_puts s.puts.length c_s_puts 7 (s.puts.flatMap putMC), kS A_s_gone s.gone.length c_s_gone 3 (s.gone.flatMap tagMC)] ∧ Fr ([]) w W) ?_ fun hout1 => ?_
  · rintro E w4 ⟨s4, u2_0, Au2_0, cu2_0, spu2_0, rfl, hLk1, hinv, howu2_0, newu2_0, st, hF⟩
    refine Wp_seq fun K5 hK5 => ?_
    refine Wp_region (Ls_y (wtd0 rfl) rfl rfl (y_fld rfl rfl Ty.fo_58_1) (Ls_y (wtd0 rfl) rfl rfl (y_load (i := 2) rfl rfl Ty.pl_30 (fun _ e => e ▸ st.hp) rfl rfl) ?_))
    refine Ls_y (wtd0 rfl) rfl rfl (y_fld rfl rfl Ty.fo_35_1) (Ls_y (wtd0 rfl) rfl rfl (y_load (i := 0) rfl rfl Ty.pl_30 (fun _ e => e ▸ st.hp) rfl rfl) ?_)
    have st : St X _ [(some g1, Cl [.slice A_s_puts s.puts.length c_s_puts, .slice A_s_gone s.gone.length c_s_gone] 35), (some g2, Cl [.slice none 0 0, .slice none 0 0] 58), (some g3, Cl [.slice Au2_0 u2_0.length cu2_0, .slice none 0 0] 58), (blkOf Au2_0, Cl (u2_0.flatMap putMC ++ spu2_0) 111), (blkOf none, Cl (([] : List TagM).flatMap tagMC ++ []) 43)] [_, _] := st.addN _
    have how2 : Ow none ([] : List TagM).length 0 3 (([] : List TagM).flatMap tagMC) [] := Ow.nil 3
    have hnew2 : ∀ g, blkOf none = some g → g ∈ ([]) ∨ w.heap.size ≤ g := fun g hg => by cases hg
    refine Ls_a (wtd0 rfl) ?_
    refine a_appM (i := 4) (xs := ([] : List TagM)) (ys := s.gone) (enc := tagMC) rfl rfl rfl rfl rfl rfl Ty.es_30 Ty.zc_43 rfl Ty.by_43 (by decide) (fun _ => rfl) how2 st.hp rfl (st.k (i := 1) rfl).rd.src (fun h => by have := (st.k (i := 1) rfl).rd; exact rd_none this h (st.k (i := 1) rfl).len (by decide)) (by intro x v hv; simp only [tagMC, List.mem_cons, List.not_mem_nil, or_false] at hv; rcases hv with rfl | rfl | rfl <;> rfl) (by first | (unfold maxLen; omega) | (simp [maxLen]; omega)) (by first | (unfold maxLen; omega) | (simp [maxLen]; omega)) (fun Aa1 ca1 sp1 w5 how3 (hp : Hp w5 [(_, Cl [_, _] _), (_, Cl [_, _] _), (_, Cl [_, _] _), _, _]) hf hnw1 => ?_)
    have st : St X w5 [(_, Cl [_, _] _), (_, Cl [_, _] _), (_, Cl [_, _] _), _, _] [_, _] := st.setAny (i := 4) rfl hp hf hnw1
    have st : St X w5 [(_, Cl [_, _] _), (_, Cl [_, _] _), (_, Cl [_, _] _), _, _] [_, _] := st
    have hnew3 : ∀ g, blkOf Aa1 = some g → g ∈ ([]) ∨ w.heap.size ≤ g := fun g hg => (hnw1 g hg).elim (hnew2 g) (fun h => .inr (Nat.le_trans hF.size h))
    have hF := hF.step hf (fun y hy => hnew2 y (by simpa using hy))
    refine Ls_y (wtd0 rfl) rfl rfl (y_fld rfl rfl Ty.fo_58_1) (Ls_a (wtd0 rfl) ?_)
    refine a_store (i := 2) rfl rfl rfl rfl rfl Ty.sz_30 rfl st.hp rfl (by simp) (fun w6 (hp : Hp w6 [(_, Cl [_, _] _), (_, Cl [_, _] _), (_, Cl [_, _] _), _, _]) hf _ => ?_)
    have st : St X w6 [(_, Cl [_, _] _), (_, Cl [_, _] _), (_, Cl [_, _] _), _, _] [_, _] := st.set (i := 2) rfl hp hf
    have hF := hF.step hf (by intro y hy; simp only [List.mem_cons, List.not_mem_nil, or_false] at hy; subst hy; first | (exact Or.inr (by omega)) | (exact Or.inl (kin0 _ _)) | (exact Or.inl (by simp)))
    refine Ls_nil (Th_n (hK5 _ _ ?_))
    refine Wp_seq fun K6 hK6 => ?_
    refine Wp_region (Ls_y (wtd0 rfl) rfl rfl (y_loadw (i := 2) rfl rfl Ty.ag_58 (fun _ e => e ▸ st.hp) rfl rfl) ?_)
    refine Ls_a (wtd0 rfl) ?_
    refine a_storew (i := 1) rfl rfl rfl rfl Ty.sz_58 rfl (by first | assumption | (simp [Value.oneCell']; done)) st.hp rfl rfl (fun w7 (hp : Hp w7 [(_, Cl [_, _] _), (_, Cl [_, _] _), (_, Cl [_, _] _), _, _]) hf _ => ?_)
    have st : St X w7 [(_, Cl [_, _] _), (_, Cl [_, _] _), (_, Cl [_, _] _), _, _] [_, _] := st.set (i := 1) rfl hp hf
    have hF := hF.step hf (by intro y hy; simp only [List.mem_cons, List.not_mem_nil, or_false] at hy; subst hy; first | (exact Or.inr (by omega)) | (exact Or.inl (kin0 _ _)) | (exact Or.inl (by simp)))
    refine Ls_nil (Th_n (hK6 _ _ ?_))
    have st : St X w7 [(_, Cl [_, _] _), (_, Cl [_, _] _), (_, Cl [_, _] _), _] [_, _, _] := st.freeze (i := 3) [0, 1, 2, 4] (by decide) rfl howu2_0 (by decide)
    have st : St X w7 [(_, Cl [_, _] _), (_, Cl [_, _] _), (_, Cl [_, _] _)] [_, _, _, _] := st.freeze (i := 3) [0, 1, 2] (by decide) rfl how3 (by decide)
    refine Wp_ret (Fq_ret (ResN1 rfl (rvc (i := 1) rfl Ty.ag_58 st.hp rfl rfl)) ?_)
    have he1 : to13_m s = (⟨u2_0, ([] : List TagM) ++ s.gone⟩ : MapM) := by unfold to13_m; rewrite [hLk1]; (try dsimp only); all_goals rfl
    rewrite [he1]
    exact ⟨_, _, _, _, rfl, st.out (i := 2) rfl, st.out (i := 3) rfl, hF⟩
  refine Wp_loopE (fun m E W => ∃ (s4 : Int) (u2_0 : List PutM) (Au2_0 : Option Addr) (cu2_0 : Nat) (spu2_0 : List Value), E = [(1, .pointer (some ⟨g1, 0, none⟩)), (2, .pointer (some ⟨g2, 0, none⟩)), (3, .pointer (some ⟨g3, 0, none⟩)), (4, .int .i64 s4)] ∧ to13_L1 s m s4 u2_0 = to13_L1 s (((s.puts.length : Int) - (0 : Int)).toNat + 1) (0 : Int) ([] : List PutM) ∧ ((s.puts.length : Int) - s4).toNat < m ∧ (0 ≤ s4 ∧ (u2_0.length : Int) ≤ s4) ∧ Ow Au2_0 u2_0.length cu2_0 7 (u2_0.flatMap putMC) spu2_0 ∧ (∀ g, blkOf Au2_0 = some g → g ∈ ([]) ∨ w.heap.size ≤ g) ∧ St X W [(some g1, Cl [.slice A_s_puts s.puts.length c_s_puts, .slice A_s_gone s.gone.length c_s_gone] 35), (some g2, Cl [.slice none 0 0, .slice none 0 0] 58), (some g3, Cl [.slice Au2_0 u2_0.length cu2_0, .slice none 0 0] 58), (blkOf Au2_0, Cl (u2_0.flatMap putMC ++ spu2_0) 111)] [kS A_s_puts s.puts.length c_s_puts 7 (s.puts.flatMap putMC), kS A_s_gone s.gone.length c_s_gone 3 (s.gone.flatMap tagMC)] ∧ Fr ([]) w W) (((s.puts.length : Int) - (0 : Int)).toNat + 1) [(1, _), (2, _), (3, _), (4, _)] ⟨rfl, rfl, rfl, rfl, trivial⟩ ?_ ?_
  · exact ⟨_, _, _, _, _, rfl, rfl, Nat.lt_succ_self _, by first | omega | (simp; done) | (simp; omega), how1, hnew1, st, hF⟩
  rintro m E w8 ⟨s4, u2_0, Au2_0, cu2_0, spu2_0, rfl, hL1, hmu, hinv, howu2_0, newu2_0, st, hF⟩
  obtain ⟨fuel, rfl⟩ : ∃ q, m = q + 1 := ⟨m - 1, by omega⟩
  have hlehowu2_0 := Ow.le howu2_0
  refine Wp_seq fun K7 hK7 => ?_
  refine Wp_seq fun K8 hK8 => ?_
  refine Wp_region (Lmv rfl rfl rfl rfl rfl (Ls_y (wtd0 rfl) rfl rfl (y_fld rfl rfl Ty.fo_35_0) (Ls_y (wtd0 rfl) rfl rfl (y_load (i := 0) rfl rfl Ty.pl_33 (fun _ e => e ▸ st.hp) rfl rfl) ?_)))
  refine Ls_y (wtd0 rfl) rfl rfl (y_lenl rfl rfl Try.underlying33) ?_
  refine Ls_y (wtd0 rfl) rfl rfl (y_lt rfl rfl rfl) (Ls_nil (Th_n (hK8 _ _ ?_)))
  refine Wp_cond rfl (fun hc1 => ?_) (fun hc1 => ?_)
  · have hc1 := dT hc1
    refine Wp_skip (Th_n (hK7 _ _ ?_))
    refine Wp_seq fun K9 hK9 => ?_
    refine Wp_block (Wp_planF (fun W => St X W (pickL (hOf st) [0, 1, 2]) (kOf st)) [(true, 0), (true, 1), (true, 2), (true, 3), (true, 4), (true, 5), (true, 6), (false, 7), (false, 8), (false, 9), (true, 10)] 11 Ty.mx_0 (by kernel_rfl) (by kernel_rfl) (by kernel_rfl) rfl ((st.picks [0, 1, 2] (by decide)).drew) ?_)
    have st := st.drew
    have hF := hF.step0 (Fr.drew _)
    refine Pl_y rfl (wtd0 rfl) rfl rfl (y_fld rfl rfl Ty.fo_58_0) (Pl_y rfl (wtd0 rfl) rfl rfl (y_load (i := 2) rfl rfl Ty.pl_56 (fun _ h => h.hp) rfl rfl) ?_)
    refine Pl_y rfl (wtd0 rfl) rfl rfl (y_fld rfl rfl Ty.fo_35_0) (Pl_y rfl (wtd0 rfl) rfl rfl (y_load (i := 0) rfl rfl Ty.pl_33 (fun _ h => h.hp) rfl rfl) ?_)
    refine Pmv rfl rfl rfl rfl rfl rfl ?_
    obtain ⟨gi1, bi1, egi1⟩ := (st.k (i := 0) rfl).addr (fun _ => rfl) (by decide) (q := s4) (by first | omega | (simp; done) | (simp; omega)) (by first | omega | (simp; done) | (simp; omega))
    subst egi1
    refine Pl_y rfl (wtd0 rfl) rfl rfl (y_ixa (q := s4) rfl rfl rfl Ty.es_33 (by first | omega | (simp; done) | (simp; omega)) (by first | omega | (simp; done) | (simp; omega))) ?_
    refine Pl_y rfl (wtd0 rfl) rfl rfl (y_ldk (q := s4) rfl rfl Ty.ag_113 (fun _ h => h.k (i := 0) rfl) (fun _ => rfl) (by first | omega | (simp; done) | (simp; omega)) (by first | omega | (simp; done) | (simp; omega))) ?_
    refine Pl_a rfl (wtd0 rfl) (by rfl) ?_
    refine a_call rfl rfl rfl rfl (put13_ok _ (ix s.puts s4)) (fun v w9 ⟨hv, hf⟩ => ?_)
    subst hv
    have st := st.keep0 hf
    have hF := hF.step0 hf
    have st : St X w9 [(_, Cl [_, _] _), (_, Cl [_, _] _), (_, Cl [_, _] _), _] [_, _] := st
    refine ⟨(st.picks [0, 1, 2] (by decide)).takeK 2, ?_⟩
    refine Pl_a rfl (wtd0 rfl) (by rfl) ?_
    refine a_bsls (us := [.int .i64 ((put13_m (ix s.puts s4)).tag.id.origin), .int .u32 ((put13_m (ix s.puts s4)).tag.id.seq), .int .i64 ((put13_m (ix s.puts s4)).tag.n), sv ((put13_m (ix s.puts s4)).field), .int .i64 ((put13_m (ix s.puts s4)).val), .int .u32 ((put13_m (ix s.puts s4)).atF.time), .int .i64 ((put13_m (ix s.puts s4)).atF.origin)]) rfl rfl rfl rfl Ty.es_56 Ty.zc_111 rfl (by decide) st.hp (fun g4 w10 (hp : Hp w10 [(_, Cl [_, _] _), (_, Cl [_, _] _), (_, Cl [_, _] _), _, _]) hf hg4 => ?_)
    have how4 : Ow (some ⟨g4, 0, none⟩) [put13_m (ix s.puts s4)].length 1 7 ([put13_m (ix s.puts s4)].flatMap putMC) [] := ⟨rfl, .inr ⟨g4, rfl, rfl, Nat.le_refl _, by unfold maxLen; decide⟩⟩
    have st : St X w10 [(_, Cl [_, _] _), (_, Cl [_, _] _), (_, Cl [_, _] _), _, _] [_, _] := st.push hp hf hg4
    have st : St X w10 [(_, Cl [_, _] _), (_, Cl [_, _] _), (_, Cl [_, _] _), _, _] [_, _] := st
    have hg4 := Nat.le_trans hF.size hg4
    have hF := hF.step0 hf
    have hnew4 : ∀ g, blkOf (some ⟨g4, 0, none⟩) = some g → g ∈ ([]) ∨ w.heap.size ≤ g := fun g hg => by simp [blkOf] at hg; subst hg; exact .inr hg4
    refine ⟨(st.picks [0, 1, 2] (by decide)).takeK 2, ?_⟩
    refine Pl_a rfl (wtd0 rfl) (by rfl) ?_
    refine a_appM (i := 3) (xs := u2_0) (ys := [put13_m (ix s.puts s4)]) (enc := putMC) rfl rfl rfl rfl rfl rfl Ty.es_56 Ty.zc_111 rfl Ty.by_111 (by decide) (fun _ => rfl) howu2_0 st.hp rfl (own_src (i := 4) st.hp rfl how4) (own_none how4) (by intro x v hv; simp only [putMC, List.mem_cons, List.not_mem_nil, or_false] at hv; rcases hv with rfl | rfl | rfl | rfl | rfl | rfl | rfl <;> rfl) (by first | (unfold maxLen; omega) | (simp [maxLen]; omega)) (by first | (unfold maxLen; omega) | (simp [maxLen]; omega)) (fun Aa2 ca2 sp2 w11 how5 (hp : Hp w11 [(_, Cl [_, _] _), (_, Cl [_, _] _), (_, Cl [_, _] _), _, _]) hf hnw2 => ?_)
    have st : St X w11 [(_, Cl [_, _] _), (_, Cl [_, _] _), (_, Cl [_, _] _), _, _] [_, _] := st.setAny (i := 3) rfl hp hf hnw2
    have st : St X w11 [(_, Cl [_, _] _), (_, Cl [_, _] _), (_, Cl [_, _] _), _, _] [_, _] := st
    have hnew5 : ∀ g, blkOf Aa2 = some g → g ∈ ([]) ∨ w.heap.size ≤ g := fun g hg => (hnw2 g hg).elim (newu2_0 g) (fun h => .inr (Nat.le_trans hF.size h))
    have hF := hF.step hf (fun y hy => newu2_0 y (by simpa using hy))
    refine ⟨(st.picks [0, 1, 2] (by decide)).takeK 2, ?_⟩
    refine Pl_y rfl (wtd0 rfl) rfl rfl (y_fld rfl rfl Ty.fo_58_0) (Pl_nil (Fin_a rfl (wtd0 rfl) ?_))
    refine a_store (i := 2) rfl rfl rfl rfl rfl Ty.sz_56 rfl st.hp rfl (by simp) (fun w12 (hp : Hp w12 [(_, Cl [_, _] _), (_, Cl [_, _] _), (_, Cl [_, _] _), _, _]) hf _ => ?_)
    have st : St X w12 [(_, Cl [_, _] _), (_, Cl [_, _] _), (_, Cl [_, _] _), _, _] [_, _] := st.set (i := 2) rfl hp hf
    have hF := hF.step hf (by intro y hy; simp only [List.mem_cons, List.not_mem_nil, or_false] at hy; subst hy; first | (exact Or.inr (by omega)) | (exact Or.inl (kin0 _ _)) | (exact Or.inl (by simp)))
    refine id (Ib_n (Th_n (hK9 _ _ ?_)))
    refine Wp_region (Lmv rfl rfl rfl rfl rfl (Ls_y (wtd0 rfl) rfl rfl (y_add (c := s4 + 1) rfl rfl rfl (wf_i64 (by first | omega | (simp; done) | (simp; omega)))) ?_))
    refine Las rfl rfl rfl rfl rfl (Ls_nil (Th_n (?_)))
    have hE1 : to13_L1 s fuel (s4 + 1) (u2_0 ++ [put13_m (ix s.puts s4)]) = to13_L1 s (((s.puts.length : Int) - (0 : Int)).toNat + 1) (0 : Int) ([] : List PutM) := by rewrite [← hL1, to13_L1]; rewrite [if_pos hc1]; rfl
    exact ⟨fuel, [(1, _), (2, _), (3, _), (4, _)], Nat.lt_succ_self _, ⟨rfl, rfl, rfl, rfl, trivial⟩, (s4 + 1), (u2_0 ++ [put13_m (ix s.puts s4)]), Aa2, ca2, sp2, rfl, hE1, by first | omega | (simp; done) | (simp; omega), by first | omega | (simp; done) | (simp; omega), how5, hnew5, (st.picks [0, 1, 2, 3] (by decide)).pickK [0, 1], hF⟩
  have hc1 := dF hc1
  refine Wp_exit (Th_e (Th_e (Ib_hit (Th_n (?_)))))
  have hE2 : to13_L1 s (((s.puts.length : Int) - (0 : Int)).toNat + 1) (0 : Int) ([] : List PutM) = .inr (s4, u2_0) := by rewrite [← hL1, to13_L1]; rewrite [if_neg hc1]; rfl
  exact hout1 _ [(1, _), (2, _), (3, _), (4, _)] _ ⟨rfl, rfl, rfl, rfl, trivial⟩ ⟨s4, u2_0, Au2_0, cu2_0, spu2_0, rfl, hE2, by first | omega | (simp; done) | (simp; omega), howu2_0, newu2_0, (st.picks [0, 1, 2, 3] (by decide)).pickK [0, 1], hF⟩

def from13_L1 (s : MapM) : Nat → Int → (List PutM) → (MapM) ⊕ (Int × (List PutM))
  | 0, s4, u2_0 => .inr (s4, u2_0)
  | fuel + 1, s4, u2_0 =>
    if s4 < (s.puts.length : Int) then
      from13_L1 s fuel (s4 + 1) (u2_0 ++ [(ix s.puts s4)])
    else
      .inr (s4, u2_0)
def from13_m (s : MapM) : MapM :=
  match from13_L1 s (((s.puts.length : Int) - (0 : Int)).toNat + 1) (0 : Int) ([] : List PutM) with
  | .inl r => r
  | .inr (s4, u2_0) =>
    (⟨u2_0, ([] : List TagM) ++ s.gone⟩ : MapM)


set_option maxRecDepth 20000 in
theorem from13_ok (X : List Nat) (w : World) (hX : Lo X w) (s : MapM) (A_s_puts : Option Addr) (c_s_puts : Nat) (A_s_gone : Option Addr) (c_s_gone : Nat) (h_s_puts : Sld X w A_s_puts s.puts.length c_s_puts 7 (s.puts.flatMap putMC)) (h_s_gone : Sld X w A_s_gone s.gone.length c_s_gone 3 (s.gone.flatMap tagMC)) (h1 : s.puts.length ≤ 1000000) (h2 : s.gone.length ≤ 1000000) :
    Fn Try.prog 40 [.agg #[.slice A_s_puts s.puts.length c_s_puts, .slice A_s_gone s.gone.length c_s_gone]] w fun v w' => ∃ (Ar_puts : Option Addr) (cr_puts : Nat) (Ar_gone : Option Addr) (cr_gone : Nat), v = .agg #[.slice Ar_puts ((from13_m s).puts).length cr_puts, .slice Ar_gone ((from13_m s).gone).length cr_gone] ∧ Sld X w' Ar_puts ((from13_m s).puts).length cr_puts 7 (((from13_m s).puts).flatMap putMC) ∧ Sld X w' Ar_gone ((from13_m s).gone).length cr_gone 3 (((from13_m s).gone).flatMap tagMC) ∧ Fr [] w w' := by
  refine Fn_of 39 Ty.en_40 Try.func40 rfl rfl rfl ?_
  dsimp only [argEnv]
  have st : St X w [] [kS A_s_puts s.puts.length c_s_puts 7 (s.puts.flatMap putMC), kS A_s_gone s.gone.length c_s_gone 3 (s.gone.flatMap tagMC)] := ((St.nil (X := X) (w := w) hX).addK (kS A_s_puts s.puts.length c_s_puts 7 (s.puts.flatMap putMC)) h_s_puts).addK (kS A_s_gone s.gone.length c_s_gone 3 (s.gone.flatMap tagMC)) h_s_gone
  have hF := Fr.refl ([]) w
  have hleA_s_puts := (st.k (i := 0) rfl).le
  have hleA_s_gone := (st.k (i := 1) rfl).le
  refine Wp_seq fun K1 hK1 => ?_
  refine Wp_region (Ls_a (wtd0 rfl) ?_)
  refine a_box rfl rfl rfl rfl st.hp (fun g1 w1 (hp : Hp w1 [(_, Cl [_, _] _)]) hf hg1 => ?_)
  have st : St X w1 [(_, Cl [_, _] _)] [_, _] := st.push hp hf hg1
  have hg1 := Nat.le_trans hF.size hg1
  have hF := hF.step0 hf
  refine Ls_a (wtd0 rfl) ?_
  refine a_alloc rfl rfl rfl Ty.zc_35 st.hp (fun g2 w2 (hp : Hp w2 [(_, Cl [_, _] _), (_, Cl [_, _] _)]) hf hg2 => ?_)
  have st : St X w2 [(_, Cl [_, _] _), (_, Cl [_, _] _)] [_, _] := st.push hp hf hg2
  have hg2 := Nat.le_trans hF.size hg2
  have hF := hF.step0 hf
  refine Ls_nil (Th_n (hK1 _ _ ?_))
  refine Wp_seq fun K2 hK2 => ?_
  refine Wp_region (Ls_a (wtd0 rfl) ?_)
  refine a_alloc rfl rfl rfl Ty.zc_35 st.hp (fun g3 w3 (hp : Hp w3 [(_, Cl [_, _] _), (_, Cl [_, _] _), (_, Cl [_, _] _)]) hf hg3 => ?_)
  have st : St X w3 [(_, Cl [_, _] _), (_, Cl [_, _] _), (_, Cl [_, _] _)] [_, _] := st.push hp hf hg3
  have hg3 := Nat.le_trans hF.size hg3
  have hF := hF.step0 hf
  refine Ls_nil (Th_n (hK2 _ _ ?_))
  refine Wp_seq fun K3 hK3 => ?_
  refine Wp_seq fun K4 hK4 => ?_
  refine Wp_region (Las rfl rfl rfl rfl rfl (Ls_nil (Th_n (hK4 _ _ ?_))))
  refine Wp_block ?_
  have st : St X _ [(some g1, Cl [.slice A_s_puts s.puts.length c_s_puts, .slice A_s_gone s.gone.length c_s_gone] 58), (some g2, Cl [.slice none 0 0, .slice none 0 0] 35), (some g3, Cl [.slice none 0 0, .slice none 0 0] 35), (blkOf none, Cl (([] : List PutM).flatMap putMC ++ []) 113)] [_, _] := st.addN _
  have how1 : Ow none ([] : List PutM).length 0 7 (([] : List PutM).flatMap putMC) [] := Ow.nil 7
  have hnew1 : ∀ g, blkOf none = some g → g ∈ ([]) ∨ w.heap.size ≤ g := fun g hg => by cases hg
  refine use_out hK3 (fun E W => ∃ (s4 : Int) (u2_0 : List PutM) (Au2_0 : Option Addr) (cu2_0 : Nat) (spu2_0 : List Value), E = [(1, .pointer (some ⟨g1, 0, none⟩)), (2, .pointer (some ⟨g2, 0, none⟩)), (3, .pointer (some ⟨g3, 0, none⟩)), (4, .int .i64 s4)] ∧ from13_L1 s (((s.puts.length : Int) - (0 : Int)).toNat + 1) (0 : Int) ([] : List PutM) = .inr (s4, u2_0) ∧ (0 ≤ s4 ∧ (u2_0.length : Int) ≤ s4) ∧ Ow Au2_0 u2_0.length cu2_0 7 (u2_0.flatMap putMC) spu2_0 ∧ (∀ g, blkOf Au2_0 = some g → g ∈ ([]) ∨ w.heap.size ≤ g) ∧ St X W [(some g1, Cl [.slice A_s_puts s.puts.length c_s_puts, .slice A_s_gone s.gone.length c_s_gone] 58), (some g2, Cl [.slice none 0 0, .slice none 0 0] 35), (some g3, Cl [.slice Au2_0 u2_0.length cu2_0, .slice none 0 0] 35), (blkOf Au2_0, Cl (u2_0.flatMap putMC ++ spu2_0) 113)] [kS A_s_puts s.puts.length c_s_puts 7 (s.puts.flatMap putMC), kS A_s_gone s.gone.length c_s_gone 3 (s.gone.flatMap tagMC)] ∧ Fr ([]) w W) ?_ fun hout1 => ?_
  · rintro E w4 ⟨s4, u2_0, Au2_0, cu2_0, spu2_0, rfl, hLk1, hinv, howu2_0, newu2_0, st, hF⟩
    refine Wp_seq fun K5 hK5 => ?_
    refine Wp_region (Ls_y (wtd0 rfl) rfl rfl (y_fld rfl rfl Ty.fo_35_1) (Ls_y (wtd0 rfl) rfl rfl (y_load (i := 2) rfl rfl Ty.pl_30 (fun _ e => e ▸ st.hp) rfl rfl) ?_))
    refine Ls_y (wtd0 rfl) rfl rfl (y_fld rfl rfl Ty.fo_58_1) (Ls_y (wtd0 rfl) rfl rfl (y_load (i := 0) rfl rfl Ty.pl_30 (fun _ e => e ▸ st.hp) rfl rfl) ?_)
    have st : St X _ [(some g1, Cl [.slice A_s_puts s.puts.length c_s_puts, .slice A_s_gone s.gone.length c_s_gone] 58), (some g2, Cl [.slice none 0 0, .slice none 0 0] 35), (some g3, Cl [.slice Au2_0 u2_0.length cu2_0, .slice none 0 0] 35), (blkOf Au2_0, Cl (u2_0.flatMap putMC ++ spu2_0) 113), (blkOf none, Cl (([] : List TagM).flatMap tagMC ++ []) 43)] [_, _] := st.addN _
    have how2 : Ow none ([] : List TagM).length 0 3 (([] : List TagM).flatMap tagMC) [] := Ow.nil 3
    have hnew2 : ∀ g, blkOf none = some g → g ∈ ([]) ∨ w.heap.size ≤ g := fun g hg => by cases hg
    refine Ls_a (wtd0 rfl) ?_
    refine a_appM (i := 4) (xs := ([] : List TagM)) (ys := s.gone) (enc := tagMC) rfl rfl rfl rfl rfl rfl Ty.es_30 Ty.zc_43 rfl Ty.by_43 (by decide) (fun _ => rfl) how2 st.hp rfl (st.k (i := 1) rfl).rd.src (fun h => by have := (st.k (i := 1) rfl).rd; exact rd_none this h (st.k (i := 1) rfl).len (by decide)) (by intro x v hv; simp only [tagMC, List.mem_cons, List.not_mem_nil, or_false] at hv; rcases hv with rfl | rfl | rfl <;> rfl) (by first | (unfold maxLen; omega) | (simp [maxLen]; omega)) (by first | (unfold maxLen; omega) | (simp [maxLen]; omega)) (fun Aa1 ca1 sp1 w5 how3 (hp : Hp w5 [(_, Cl [_, _] _), (_, Cl [_, _] _), (_, Cl [_, _] _), _, _]) hf hnw1 => ?_)
    have st : St X w5 [(_, Cl [_, _] _), (_, Cl [_, _] _), (_, Cl [_, _] _), _, _] [_, _] := st.setAny (i := 4) rfl hp hf hnw1
    have st : St X w5 [(_, Cl [_, _] _), (_, Cl [_, _] _), (_, Cl [_, _] _), _, _] [_, _] := st
    have hnew3 : ∀ g, blkOf Aa1 = some g → g ∈ ([]) ∨ w.heap.size ≤ g := fun g hg => (hnw1 g hg).elim (hnew2 g) (fun h => .inr (Nat.le_trans hF.size h))
    have hF := hF.step hf (fun y hy => hnew2 y (by simpa using hy))
    refine Ls_y (wtd0 rfl) rfl rfl (y_fld rfl rfl Ty.fo_35_1) (Ls_a (wtd0 rfl) ?_)
    refine a_store (i := 2) rfl rfl rfl rfl rfl Ty.sz_30 rfl st.hp rfl (by simp) (fun w6 (hp : Hp w6 [(_, Cl [_, _] _), (_, Cl [_, _] _), (_, Cl [_, _] _), _, _]) hf _ => ?_)
    have st : St X w6 [(_, Cl [_, _] _), (_, Cl [_, _] _), (_, Cl [_, _] _), _, _] [_, _] := st.set (i := 2) rfl hp hf
    have hF := hF.step hf (by intro y hy; simp only [List.mem_cons, List.not_mem_nil, or_false] at hy; subst hy; first | (exact Or.inr (by omega)) | (exact Or.inl (kin0 _ _)) | (exact Or.inl (by simp)))
    refine Ls_nil (Th_n (hK5 _ _ ?_))
    refine Wp_seq fun K6 hK6 => ?_
    refine Wp_region (Ls_y (wtd0 rfl) rfl rfl (y_loadw (i := 2) rfl rfl Ty.ag_35 (fun _ e => e ▸ st.hp) rfl rfl) ?_)
    refine Ls_a (wtd0 rfl) ?_
    refine a_storew (i := 1) rfl rfl rfl rfl Ty.sz_35 rfl (by first | assumption | (simp [Value.oneCell']; done)) st.hp rfl rfl (fun w7 (hp : Hp w7 [(_, Cl [_, _] _), (_, Cl [_, _] _), (_, Cl [_, _] _), _, _]) hf _ => ?_)
    have st : St X w7 [(_, Cl [_, _] _), (_, Cl [_, _] _), (_, Cl [_, _] _), _, _] [_, _] := st.set (i := 1) rfl hp hf
    have hF := hF.step hf (by intro y hy; simp only [List.mem_cons, List.not_mem_nil, or_false] at hy; subst hy; first | (exact Or.inr (by omega)) | (exact Or.inl (kin0 _ _)) | (exact Or.inl (by simp)))
    refine Ls_nil (Th_n (hK6 _ _ ?_))
    have st : St X w7 [(_, Cl [_, _] _), (_, Cl [_, _] _), (_, Cl [_, _] _), _] [_, _, _] := st.freeze (i := 3) [0, 1, 2, 4] (by decide) rfl howu2_0 (by decide)
    have st : St X w7 [(_, Cl [_, _] _), (_, Cl [_, _] _), (_, Cl [_, _] _)] [_, _, _, _] := st.freeze (i := 3) [0, 1, 2] (by decide) rfl how3 (by decide)
    refine Wp_ret (Fq_ret (ResN1 rfl (rvc (i := 1) rfl Ty.ag_35 st.hp rfl rfl)) ?_)
    have he1 : from13_m s = (⟨u2_0, ([] : List TagM) ++ s.gone⟩ : MapM) := by unfold from13_m; rewrite [hLk1]; (try dsimp only); all_goals rfl
    rewrite [he1]
    exact ⟨_, _, _, _, rfl, st.out (i := 2) rfl, st.out (i := 3) rfl, hF⟩
  refine Wp_loopE (fun m E W => ∃ (s4 : Int) (u2_0 : List PutM) (Au2_0 : Option Addr) (cu2_0 : Nat) (spu2_0 : List Value), E = [(1, .pointer (some ⟨g1, 0, none⟩)), (2, .pointer (some ⟨g2, 0, none⟩)), (3, .pointer (some ⟨g3, 0, none⟩)), (4, .int .i64 s4)] ∧ from13_L1 s m s4 u2_0 = from13_L1 s (((s.puts.length : Int) - (0 : Int)).toNat + 1) (0 : Int) ([] : List PutM) ∧ ((s.puts.length : Int) - s4).toNat < m ∧ (0 ≤ s4 ∧ (u2_0.length : Int) ≤ s4) ∧ Ow Au2_0 u2_0.length cu2_0 7 (u2_0.flatMap putMC) spu2_0 ∧ (∀ g, blkOf Au2_0 = some g → g ∈ ([]) ∨ w.heap.size ≤ g) ∧ St X W [(some g1, Cl [.slice A_s_puts s.puts.length c_s_puts, .slice A_s_gone s.gone.length c_s_gone] 58), (some g2, Cl [.slice none 0 0, .slice none 0 0] 35), (some g3, Cl [.slice Au2_0 u2_0.length cu2_0, .slice none 0 0] 35), (blkOf Au2_0, Cl (u2_0.flatMap putMC ++ spu2_0) 113)] [kS A_s_puts s.puts.length c_s_puts 7 (s.puts.flatMap putMC), kS A_s_gone s.gone.length c_s_gone 3 (s.gone.flatMap tagMC)] ∧ Fr ([]) w W) (((s.puts.length : Int) - (0 : Int)).toNat + 1) [(1, _), (2, _), (3, _), (4, _)] ⟨rfl, rfl, rfl, rfl, trivial⟩ ?_ ?_
  · exact ⟨_, _, _, _, _, rfl, rfl, Nat.lt_succ_self _, by first | omega | (simp; done) | (simp; omega), how1, hnew1, st, hF⟩
  rintro m E w8 ⟨s4, u2_0, Au2_0, cu2_0, spu2_0, rfl, hL1, hmu, hinv, howu2_0, newu2_0, st, hF⟩
  obtain ⟨fuel, rfl⟩ : ∃ q, m = q + 1 := ⟨m - 1, by omega⟩
  have hlehowu2_0 := Ow.le howu2_0
  refine Wp_seq fun K7 hK7 => ?_
  refine Wp_seq fun K8 hK8 => ?_
  refine Wp_region (Lmv rfl rfl rfl rfl rfl (Ls_y (wtd0 rfl) rfl rfl (y_fld rfl rfl Ty.fo_58_0) (Ls_y (wtd0 rfl) rfl rfl (y_load (i := 0) rfl rfl Ty.pl_56 (fun _ e => e ▸ st.hp) rfl rfl) ?_)))
  refine Ls_y (wtd0 rfl) rfl rfl (y_lenl rfl rfl Try.underlying56) ?_
  refine Ls_y (wtd0 rfl) rfl rfl (y_lt rfl rfl rfl) (Ls_nil (Th_n (hK8 _ _ ?_)))
  refine Wp_cond rfl (fun hc1 => ?_) (fun hc1 => ?_)
  · have hc1 := dT hc1
    refine Wp_skip (Th_n (hK7 _ _ ?_))
    refine Wp_seq fun K9 hK9 => ?_
    refine Wp_block (Wp_seq fun K10 hK10 => ?_)
    refine Wp_region (Ls_y (wtd0 rfl) rfl rfl (y_fld rfl rfl Ty.fo_58_0) (Ls_y (wtd0 rfl) rfl rfl (y_load (i := 0) rfl rfl Ty.pl_56 (fun _ e => e ▸ st.hp) rfl rfl) ?_))
    refine Lmv rfl rfl rfl rfl rfl ?_
    obtain ⟨gi1, bi1, egi1⟩ := (st.k (i := 0) rfl).addr (fun _ => rfl) (by decide) (q := s4) (by first | omega | (simp; done) | (simp; omega)) (by first | omega | (simp; done) | (simp; omega))
    subst egi1
    refine Ls_y (wtd0 rfl) rfl rfl (y_ixa (q := s4) rfl rfl rfl Ty.es_56 (by first | omega | (simp; done) | (simp; omega)) (by first | omega | (simp; done) | (simp; omega))) ?_
    refine Ls_y (wtd0 rfl) rfl rfl (y_ldk (q := s4) rfl rfl Ty.ag_111 (fun _ e => e ▸ st.k (i := 0) rfl) (fun _ => rfl) (by first | omega | (simp; done) | (simp; omega)) (by first | omega | (simp; done) | (simp; omega))) ?_
    refine Ls_a (wtd0 rfl) ?_
    refine a_alloc rfl rfl rfl Ty.zc_111 st.hp (fun g4 w9 (hp : Hp w9 [(_, Cl [_, _] _), (_, Cl [_, _] _), (_, Cl [_, _] _), _, (_, Cl [_, _, _, _, _, _, _] _)]) hf hg4 => ?_)
    have st : St X w9 [(_, Cl [_, _] _), (_, Cl [_, _] _), (_, Cl [_, _] _), _, (_, Cl [_, _, _, _, _, _, _] _)] [_, _] := st.push hp hf hg4
    have hg4 := Nat.le_trans hF.size hg4
    have hF := hF.step0 hf
    refine Ls_a (wtd0 rfl) ?_
    refine a_storew (i := 4) rfl rfl rfl rfl Ty.sz_111 rfl (by first | assumption | (simp [Value.oneCell', putMC]; done)) st.hp rfl rfl (fun w10 (hp : Hp w10 [(_, Cl [_, _] _), (_, Cl [_, _] _), (_, Cl [_, _] _), _, (_, Cl [_, _, _, _, _, _, _] _)]) hf _ => ?_)
    have st : St X w10 [(_, Cl [_, _] _), (_, Cl [_, _] _), (_, Cl [_, _] _), _, (_, Cl [_, _, _, _, _, _, _] _)] [_, _] := st.set (i := 4) rfl hp hf
    have hF := hF.step hf (by intro y hy; simp only [List.mem_cons, List.not_mem_nil, or_false] at hy; subst hy; first | (exact Or.inr (by omega)) | (exact Or.inl (kin0 _ _)) | (exact Or.inl (by simp)))
    refine Ls_nil (Th_n (hK10 _ _ ?_))
    refine Wp_region (Ls_y (wtd0 rfl) rfl rfl (y_fld rfl rfl Ty.fo_35_0) (Ls_y (wtd0 rfl) rfl rfl (y_load (i := 2) rfl rfl Ty.pl_33 (fun _ e => e ▸ st.hp) rfl rfl) ?_))
    refine Ls_y (wtd0 rfl) rfl rfl (y_fld rfl rfl Ty.fo_111_0) (Ls_y (wtd0 rfl) rfl rfl (y_loadm (i := 4) rfl rfl Ty.ag_43 (fun _ e => e ▸ st.hp) rfl rfl rfl) ?_)
    refine Ls_y (wtd0 rfl) rfl rfl (y_fld rfl rfl Ty.fo_111_1) (Ls_y (wtd0 rfl) rfl rfl (y_load (i := 4) rfl rfl Ty.pl_9 (fun _ e => e ▸ st.hp) rfl rfl) ?_)
    refine Ls_y (wtd0 rfl) rfl rfl (y_fld rfl rfl Ty.fo_111_2) (Ls_y (wtd0 rfl) rfl rfl (y_load (i := 4) rfl rfl Ty.pl_2 (fun _ e => e ▸ st.hp) rfl rfl) ?_)
    refine Ls_y (wtd0 rfl) rfl rfl (y_fld rfl rfl Ty.fo_111_3) (Ls_y (wtd0 rfl) rfl rfl (y_loadm (i := 4) rfl rfl Ty.ag_24 (fun _ e => e ▸ st.hp) rfl rfl rfl) ?_)
    refine Ls_y (wtd0 rfl) rfl rfl (y_build (cells := [_, _, _, _, _, _, _]) rfl rfl Ty.zc_113 Ty.ps_113 rfl) ?_
    refine Ls_a (wtd0 rfl) ?_
    refine a_bsls (us := [.int .i64 ((ix s.puts s4).tag.id.origin), .int .u32 ((ix s.puts s4).tag.id.seq), .int .i64 ((ix s.puts s4).tag.n), sv ((ix s.puts s4).field), .int .i64 ((ix s.puts s4).val), .int .u32 ((ix s.puts s4).atF.time), .int .i64 ((ix s.puts s4).atF.origin)]) rfl rfl rfl rfl Ty.es_33 Ty.zc_113 rfl (by decide) st.hp (fun g5 w11 (hp : Hp w11 [(_, Cl [_, _] _), (_, Cl [_, _] _), (_, Cl [_, _] _), _, (_, Cl [_, _, _, _, _, _, _] _), _]) hf hg5 => ?_)
    have how4 : Ow (some ⟨g5, 0, none⟩) [(ix s.puts s4)].length 1 7 ([(ix s.puts s4)].flatMap putMC) [] := ⟨rfl, .inr ⟨g5, rfl, rfl, Nat.le_refl _, by unfold maxLen; decide⟩⟩
    have st : St X w11 [(_, Cl [_, _] _), (_, Cl [_, _] _), (_, Cl [_, _] _), _, (_, Cl [_, _, _, _, _, _, _] _), _] [_, _] := st.push hp hf hg5
    have st : St X w11 [(_, Cl [_, _] _), (_, Cl [_, _] _), (_, Cl [_, _] _), _, (_, Cl [_, _, _, _, _, _, _] _), _] [_, _] := st
    have hg5 := Nat.le_trans hF.size hg5
    have hF := hF.step0 hf
    have hnew4 : ∀ g, blkOf (some ⟨g5, 0, none⟩) = some g → g ∈ ([]) ∨ w.heap.size ≤ g := fun g hg => by simp [blkOf] at hg; subst hg; exact .inr hg5
    refine Ls_a (wtd0 rfl) ?_
    refine a_appM (i := 3) (xs := u2_0) (ys := [(ix s.puts s4)]) (enc := putMC) rfl rfl rfl rfl rfl rfl Ty.es_33 Ty.zc_113 rfl Ty.by_113 (by decide) (fun _ => rfl) howu2_0 st.hp rfl (own_src (i := 5) st.hp rfl how4) (own_none how4) (by intro x v hv; simp only [putMC, List.mem_cons, List.not_mem_nil, or_false] at hv; rcases hv with rfl | rfl | rfl | rfl | rfl | rfl | rfl <;> rfl) (by first | (unfold maxLen; omega) | (simp [maxLen]; omega)) (by first | (unfold maxLen; omega) | (simp [maxLen]; omega)) (fun Aa2 ca2 sp2 w12 how5 (hp : Hp w12 [(_, Cl [_, _] _), (_, Cl [_, _] _), (_, Cl [_, _] _), _, (_, Cl [_, _, _, _, _, _, _] _), _]) hf hnw2 => ?_)
    have st : St X w12 [(_, Cl [_, _] _), (_, Cl [_, _] _), (_, Cl [_, _] _), _, (_, Cl [_, _, _, _, _, _, _] _), _] [_, _] := st.setAny (i := 3) rfl hp hf hnw2
    have st : St X w12 [(_, Cl [_, _] _), (_, Cl [_, _] _), (_, Cl [_, _] _), _, (_, Cl [_, _, _, _, _, _, _] _), _] [_, _] := st
    have hnew5 : ∀ g, blkOf Aa2 = some g → g ∈ ([]) ∨ w.heap.size ≤ g := fun g hg => (hnw2 g hg).elim (newu2_0 g) (fun h => .inr (Nat.le_trans hF.size h))
    have hF := hF.step hf (fun y hy => newu2_0 y (by simpa using hy))
    refine Ls_y (wtd0 rfl) rfl rfl (y_fld rfl rfl Ty.fo_35_0) (Ls_a (wtd0 rfl) ?_)
    refine a_store (i := 2) rfl rfl rfl rfl rfl Ty.sz_33 rfl st.hp rfl (by simp) (fun w13 (hp : Hp w13 [(_, Cl [_, _] _), (_, Cl [_, _] _), (_, Cl [_, _] _), _, (_, Cl [_, _, _, _, _, _, _] _), _]) hf _ => ?_)
    have st : St X w13 [(_, Cl [_, _] _), (_, Cl [_, _] _), (_, Cl [_, _] _), _, (_, Cl [_, _, _, _, _, _, _] _), _] [_, _] := st.set (i := 2) rfl hp hf
    have hF := hF.step hf (by intro y hy; simp only [List.mem_cons, List.not_mem_nil, or_false] at hy; subst hy; first | (exact Or.inr (by omega)) | (exact Or.inl (kin0 _ _)) | (exact Or.inl (by simp)))
    refine Ls_nil (Ib_n (Th_n (hK9 _ _ ?_)))
    refine Wp_region (Lmv rfl rfl rfl rfl rfl (Ls_y (wtd0 rfl) rfl rfl (y_add (c := s4 + 1) rfl rfl rfl (wf_i64 (by first | omega | (simp; done) | (simp; omega)))) ?_))
    refine Las rfl rfl rfl rfl rfl (Ls_nil (Th_n (?_)))
    have hE1 : from13_L1 s fuel (s4 + 1) (u2_0 ++ [(ix s.puts s4)]) = from13_L1 s (((s.puts.length : Int) - (0 : Int)).toNat + 1) (0 : Int) ([] : List PutM) := by rewrite [← hL1, from13_L1]; rewrite [if_pos hc1]; rfl
    exact ⟨fuel, [(1, _), (2, _), (3, _), (4, _)], Nat.lt_succ_self _, ⟨rfl, rfl, rfl, rfl, trivial⟩, (s4 + 1), (u2_0 ++ [(ix s.puts s4)]), Aa2, ca2, sp2, rfl, hE1, by first | omega | (simp; done) | (simp; omega), by first | omega | (simp; done) | (simp; omega), how5, hnew5, (st.picks [0, 1, 2, 3] (by decide)).pickK [0, 1], hF⟩
  have hc1 := dF hc1
  refine Wp_exit (Th_e (Th_e (Ib_hit (Th_n (?_)))))
  have hE2 : from13_L1 s (((s.puts.length : Int) - (0 : Int)).toNat + 1) (0 : Int) ([] : List PutM) = .inr (s4, u2_0) := by rewrite [← hL1, from13_L1]; rewrite [if_neg hc1]; rfl
  exact hout1 _ [(1, _), (2, _), (3, _), (4, _)] _ ⟨rfl, rfl, rfl, rfl, trivial⟩ ⟨s4, u2_0, Au2_0, cu2_0, spu2_0, rfl, hE2, by first | omega | (simp; done) | (simp; omega), howu2_0, newu2_0, (st.picks [0, 1, 2, 3] (by decide)).pickK [0, 1], hF⟩

end Go.Proofs.Ytmajjdpioillaaa

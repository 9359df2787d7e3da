/- Walks printed by gen.py out of our own specifications: what the functions named below do. -/
import Derived.Test.YtikdpkhcegjmfaaW23
set_option linter.unusedSimpArgs false
set_option linter.unusedVariables false
namespace Go.Proofs.Ytikdpkhcegjmfaa
open Go.RowKit

set_option maxRecDepth 20000 in
set_option maxHeartbeats 1000000 in
theorem ndbl_ok (p : Np) (T : Nt) (w : World) (hp : Hp w (ntH p T)) (hT : NtOk T) (how : NpOk p T) (i : Int) :
    Fn Try.prog 26 [.pointer (some ⟨p.g, 0, none⟩), .int .i64 i] w fun v w' => v = .int .i64 (dblE T i) ∧ NtPost p T (dblT T i) w w' := by
  refine Fn_of 34 Ty.en_26 Try.func26 rfl rfl rfl ?_
  dsimp only [argEnv]
  have hp : Hp w [_, _] := hp
  have hF := Fr.refl (keys (ntH p T)) w
  obtain ⟨m, hm⟩ : ∃ m, atM T i = m := ⟨_, rfl⟩
  obtain ⟨mf, mt, ms⟩ := m
  refine Wp_seq fun K1 hK1 => ?_
  refine Wp_region ?_
  refine Ls_y (wtd0 rfl) rfl rfl (y_assign rfl rfl) ?_
  refine Ls_nil (Th_n (hK1 _ _ ?_))
  refine Wp_seq fun K2 hK2 => ?_
  refine Wp_region ?_
  refine Ls_y (wtd0 rfl) rfl rfl (y_move rfl rfl) ?_
  refine Ls_y (wtd0 rfl) rfl rfl (y_move rfl rfl) ?_
  refine Ls_a (wtd0 rfl) ?_
  refine a_call rfl rfl rfl rfl (nat_ok p T _ (hp.picks [0, 1] (by decide)) hT how i) (fun v wz ⟨hv, hf⟩ => ?_)
  have hv : v = .tuple #[.agg #[.int .i64 mf, .int .i64 mt, sv ms], .int .i64 (atE T i)] := by rw [hv, hm]; rfl
  subst hv
  have hp := hp.keep0 hf
  have hF := hF.step0 hf
  refine Ls_y (wtd0 rfl) rfl rfl (y_move rfl rfl) ?_
  refine Ls_y (wtd0 rfl) rfl rfl (y_ext rfl rfl rfl) ?_
  refine Ls_y (wtd0 rfl) rfl rfl (y_ext rfl rfl rfl) ?_
  refine Ls_a (wtd0 rfl) ?_
  refine a_alloc rfl rfl rfl Ty.zc_51 hp (fun g1 w1 (hp : Hp w1 [_, _, (_, Cl [_, _, _] _)]) hf hg1 => ?_)
  have hg1 := Nat.le_trans hF.size hg1
  have hF := hF.step0 hf
  refine Ls_a (wtd0 rfl) ?_
  first
    | refine a_storew (i := 0) rfl rfl rfl rfl Ty.sz_51 rfl (by first | assumption | (simp [Value.oneCell']; done)) hp rfl rfl (fun w2 (hp : Hp w2 [_, _, (_, Cl [_, _, _] _)]) hf _ => ?_)
    | refine a_storew (i := 1) rfl rfl rfl rfl Ty.sz_51 rfl (by first | assumption | (simp [Value.oneCell']; done)) hp rfl rfl (fun w2 (hp : Hp w2 [_, _, (_, Cl [_, _, _] _)]) hf _ => ?_)
    | refine a_storew (i := 2) rfl rfl rfl rfl Ty.sz_51 rfl (by first | assumption | (simp [Value.oneCell']; done)) hp rfl rfl (fun w2 (hp : Hp w2 [_, _, (_, Cl [_, _, _] _)]) hf _ => ?_)
  have hF := hF.step hf (by intro y hy; simp only [List.mem_cons, List.not_mem_nil, or_false] at hy; subst hy; first | (exact Or.inr (by omega)) | (exact Or.inl (by simp)))
  refine Ls_y (wtd0 rfl) rfl rfl (y_assign rfl rfl) ?_
  refine Ls_nil (Th_n (hK2 _ _ ?_))
  refine Wp_seq fun K3 hK3 => ?_
  refine Wp_block ?_
  refine Wp_seq fun K4 hK4 => ?_
  refine Wp_region ?_
  refine Ls_y (wtd0 rfl) rfl rfl (y_move rfl rfl) ?_
  refine Ls_y (wtd0 rfl) rfl rfl (y_ne rfl rfl rfl) ?_
  refine Ls_bool 15 rfl (fun he => ?_) (fun he => ?_)
  all_goals try simp only [decide_eq_true_eq, decide_eq_false_iff_not, beq_iff_eq, bne_iff_ne, ne_eq, beq_eq_false_iff_ne, bne_eq_false_iff_eq, Bool.not_eq_true, Bool.not_eq_false] at he
  · have hb : inB T i = false := by
      cases hb : inB T i with
      | true => simp [atE, hb] at he
      | false => rfl
    refine Ls_y (wtd0 rfl) rfl rfl (y_assign rfl rfl) ?_
    refine Ls_nil (Th_n (hK4 _ _ ?_))
    refine Wp_cond_t rfl ?_
    refine Wp_seq fun K5 hK5 => ?_
    refine Wp_region ?_
    refine Ls_y (wtd0 rfl) rfl rfl (y_move rfl rfl) ?_
    refine Ls_y (wtd0 rfl) rfl rfl (y_assign rfl rfl) ?_
    refine Ls_nil (Th_n (hK5 _ _ ?_))
    refine Wp_ret (Ib_r (Th_r (Fq_ret (Res1 rfl rfl) ?_)))
    have ee : dblE T i = 2 := by rw [dblE, if_pos hb]
    have e2 : atE T i = 2 := by simp [atE, hb]
    exact ⟨by show Value.int .i64 (atE T i) = _; rw [e2, ee], by rw [dblT, ee]; exact nt_same how (hp.picks [0, 1] (by decide)) hF⟩
  · have hb : inB T i = true := by
      cases hb : inB T i with
      | true => rfl
      | false => simp [atE, hb] at he
    have hb2 : 0 ≤ i ∧ i < (T.row.length : Int) := by simpa [inB] using hb
    obtain ⟨k, rfl⟩ := Int.eq_ofNat_of_zero_le hb2.1
    have hk : k < T.row.length := by omega
    have h128 := hT.row
    refine Ls_y (wtd0 rfl) rfl rfl (y_assign rfl rfl) ?_
    refine Ls_nil (Th_n (hK4 _ _ ?_))
    refine Wp_cond_f rfl ?_
    refine Wp_seq fun K6 hK6 => ?_
    refine Wp_region ?_
    refine Ls_y (wtd0 rfl) rfl rfl (y_move rfl rfl) ?_
    refine Ls_y (wtd0 rfl) rfl rfl (y_nil rfl rfl) ?_
    refine Ls_y (wtd0 rfl) rfl rfl (y_fld rfl rfl Ty.fo_115_2) ?_
    refine Ls_y (wtd0 rfl) rfl rfl (y_load (i := 0) rfl rfl Ty.pl_113 (fun _ e => e ▸ hp) rfl (nt_row hT _ _)) ?_
    refine Ls_y (wtd0 rfl) rfl rfl (y_lenl rfl rfl Try.underlying113) ?_
    refine Ls_y (wtd0 rfl) rfl rfl (y_ge rfl rfl rfl) ?_
    refine Ls_bool 23 rfl (fun hfu => ?_) (fun hfu => ?_)
    all_goals try simp only [decide_eq_true_eq, decide_eq_false_iff_not, beq_iff_eq, bne_iff_ne, ne_eq, beq_eq_false_iff_ne, bne_eq_false_iff_eq, Bool.not_eq_true, Bool.not_eq_false] at hfu
    · refine Ls_y (wtd0 rfl) rfl rfl (y_assign rfl rfl) ?_
      refine Ls_nil (Th_n (hK6 _ _ ?_))
      refine Wp_cond_t rfl ?_
      refine Wp_seq fun K7 hK7 => ?_
      refine Wp_region ?_
      refine Ls_y (wtd0 rfl) rfl rfl (y_assign rfl rfl) ?_
      refine Ls_nil (Th_n (hK7 _ _ ?_))
      refine Wp_ret (Ib_r (Th_r (Fq_ret (Res1 rfl rfl) ?_)))
      have ee : dblE T (k : Int) = 4 := by rw [dblE, if_neg (by simp [hb]), if_pos (by omega)]
      exact ⟨by rw [ee], by rw [dblT, ee]; exact nt_same how (hp.picks [0, 1] (by decide)) hF⟩
    · refine Ls_y (wtd0 rfl) rfl rfl (y_assign rfl rfl) ?_
      refine Ls_nil (Th_n (hK6 _ _ ?_))
      refine Wp_cond_f rfl ?_
      refine Wp_skip (Ib_n (Th_n (hK3 _ _ ?_)))
      refine Wp_seq fun K8 hK8 => ?_
      refine Wp_planF (fun W => Hp W (pickL (heapOf hp) [0, 2])) [(true, 0), (true, 1), (true, 2), (true, 3), (true, 4), (true, 5), (false, 6), (false, 7), (true, 8), (true, 9)] 10 Ty.mx_0 (by kernel_rfl) (by kernel_rfl) (by kernel_rfl) rfl ((hp.picks [0, 2] (by decide)).drew) ?_
      have hp := hp.drew
      have hF := hF.step0 (Fr.drew _)
      refine Pl_y rfl (wtd0 rfl) rfl rfl (y_move rfl rfl) ?_
      refine Pl_y rfl (wtd0 rfl) rfl rfl (y_move rfl rfl) ?_
      refine Pl_y rfl (wtd0 rfl) rfl rfl (y_nil rfl rfl) ?_
      refine Pl_y rfl (wtd0 rfl) rfl rfl (y_fld rfl rfl Ty.fo_115_2) ?_
      refine Pl_y rfl (wtd0 rfl) rfl rfl (y_load (i := 0) rfl rfl Ty.pl_113 (fun _ h => h) rfl (nt_row hT _ _)) ?_
      first
        | refine Pl_y rfl (wtd0 rfl) rfl rfl (y_loadw (i := 0) rfl rfl Ty.ag_51 (fun _ h => h) rfl rfl) ?_
        | refine Pl_y rfl (wtd0 rfl) rfl rfl (y_loadw (i := 1) rfl rfl Ty.ag_51 (fun _ h => h) rfl rfl) ?_
      refine Pl_a rfl (wtd0 rfl) (by rfl) ?_
      refine a_bsls (us := [.int .i64 mf, .int .i64 mt, sv ms]) rfl rfl rfl rfl Ty.es_113 Ty.zc_51 rfl (by decide) hp (fun gb wb (hp : Hp wb [_, _, _, (_, Cl [_, _, _] _)]) hf hgb => ?_)
      have hgb := Nat.le_trans hF.size hgb
      have hF := hF.step0 hf
      refine ⟨hp.picks [0, 2] (by decide), ?_⟩
      refine Pl_a rfl (wtd0 rfl) (by rfl) ?_
      refine a_append (i := 1) rfl rfl rfl rfl rfl rfl Ty.es_113 Ty.zc_51 rfl Ty.by_51 (by decide) how hp rfl rfl (src_of (range_all (i := 3) hp rfl)) (by simp) (by simp [Value.oneCell']) (by unfold maxLen; omega) (by omega) (fun A' c' sp' wc how' (hp : Hp wc [_, _, (_, Cl [_, _, _] _), _]) hf hnw => ?_)
      have hsz := hF.size
      have hF := hF.step hf (fun y hy => Or.inl (blk_keys y hy))
      refine ⟨hp.picks [0, 2] (by decide), ?_⟩
      refine Pl_y rfl (wtd0 rfl) rfl rfl (y_nil rfl rfl) ?_
      refine Pl_y rfl (wtd0 rfl) rfl rfl (y_fld rfl rfl Ty.fo_115_2) ?_
      refine Pl_nil (Fin_a rfl (wtd0 rfl) ?_)
      refine a_store (i := 0) rfl rfl rfl rfl rfl Ty.sz_113 rfl hp rfl (by have := colC_len hT; simp [ntC]; omega) (fun w9 (hp : Hp w9 [_, _, (_, Cl [_, _, _] _), _]) hf _ => ?_)
      have hF := hF.step hf (fun y hy => Or.inl (by simp at hy; subst hy; exact g_keys))
      refine id (Th_n (hK8 _ _ ?_))
      have erow : rowC T.row ++ [.int .i64 mf, .int .i64 mt, sv ms] = rowC (T.row ++ [(MsgV.mk mf mt ms)]) := by rw [rowC_app]; rfl
      have hlr : T.row.length + 1 = (T.row ++ [(MsgV.mk mf mt ms)]).length := by simp
      rw [erow, hlr] at how'
      have hp : Hp w9 [_, _, (_, Cl [_, _, _] _), _] := hp.conv (i := 1) rfl (congrArg (· ++ sp') erow)
      have hp : Hp w9 [_, _, (_, Cl [_, _, _] _), _] := hp.conv (i := 0) rfl ((congrArg (fun q => (ntC p.A p.c T).set (0 + 33) (.slice A' q c')) hlr).trans (nt_set_row hT p.A A' p.c c' (T.row ++ [(MsgV.mk mf mt ms)])))
      refine Wp_seq fun K9 hK9 => ?_
      refine Wp_region ?_
      refine Ls_y (wtd0 rfl) rfl rfl (y_assign rfl rfl) ?_
      refine Ls_nil (Th_n (hK9 _ _ ?_))
      refine Wp_ret (Fq_ret (Res1 rfl rfl) ?_)
      have ee : dblE T (k : Int) = 0 := by rw [dblE, if_neg (by simp [hb]), if_neg (by omega)]
      refine ⟨by rw [ee], ?_⟩
      rw [dblT, if_pos ee, hm]
      exact nt_post how' (hp.picks [0, 1] (by decide)) hF (fun g hg => (hnw g hg).imp id (Nat.le_trans hsz))

set_option maxRecDepth 20000 in
theorem npaint_ok (p : Np) (T : Nt) (w : World) (hp : Hp w (ntH p T)) (hT : NtOk T) (how : NpOk p T) (i c : Int) :
    Fn Try.prog 28 [.pointer (some ⟨p.g, 0, none⟩), .int .i64 i, .int .i64 c] w fun v w' => v = .int .i64 (paintE T i c) ∧ NtPost p T (paintT T i c) w w' := by
  refine Fn_of 25 Ty.en_28 Try.func28 rfl rfl rfl ?_
  dsimp only [argEnv]
  have hp : Hp w [_, _] := hp
  have hF := Fr.refl (keys (ntH p T)) w
  refine Wp_seq fun K1 hK1 => ?_
  refine Wp_region ?_
  refine Ls_y (wtd0 rfl) rfl rfl (y_assign rfl rfl) ?_
  refine Ls_nil (Th_n (hK1 _ _ ?_))
  refine Wp_seq fun K2 hK2 => ?_
  refine Wp_seq fun K3 hK3 => ?_
  refine Wp_region ?_
  refine Ls_y (wtd0 rfl) rfl rfl (y_move rfl rfl) ?_
  refine Ls_y (wtd0 rfl) rfl rfl (y_move rfl rfl) ?_
  refine Ls_a (wtd0 rfl) ?_
  refine a_call rfl rfl rfl rfl (nnode_ok p T _ (hp.picks [0, 1] (by decide)) hT i) (fun v wz ⟨hv, hw⟩ => ?_)
  subst hv
  subst hw
  refine Ls_y (wtd0 rfl) rfl rfl (y_not rfl rfl) ?_
  refine Ls_y (wtd0 rfl) rfl rfl (y_move rfl rfl) ?_
  refine Ls_bool 11 rfl (fun hn => ?_) (fun hn => ?_)
  all_goals try simp only [decide_eq_true_eq, decide_eq_false_iff_not, beq_iff_eq, bne_iff_ne, ne_eq, beq_eq_false_iff_ne, bne_eq_false_iff_eq, Bool.not_eq_true, Bool.not_eq_false] at hn
  · refine Ls_s (wtdF rfl rfl rfl) rfl rfl ?_
    refine Ls_s (wtdF rfl rfl rfl) rfl rfl ?_
    refine Ls_y (wtd0 rfl) rfl rfl (y_pick_t rfl rfl rfl) ?_
    refine Ls_y (wtd0 rfl) rfl rfl (y_move rfl rfl) ?_
    refine Ls_s (wtdF rfl rfl rfl) rfl rfl ?_
    refine Ls_s (wtdF rfl rfl rfl) rfl rfl ?_
    refine Ls_y (wtd0 rfl) rfl rfl (y_pick_t rfl rfl rfl) ?_
    refine Ls_nil (Th_n (hK3 _ _ ?_))
    refine Wp_cond_t rfl ?_
    refine Wp_seq fun K4 hK4 => ?_
    refine Wp_region ?_
    refine Ls_y (wtd0 rfl) rfl rfl (y_assign rfl rfl) ?_
    refine Ls_nil (Th_n (hK4 _ _ ?_))
    refine Wp_ret (Th_r (Fq_ret (Res1 rfl rfl) ?_))
    have ee : paintE T i c = 2 := by rw [paintE, if_neg]; rintro ⟨h1, h2, h3⟩; first | (simp [h1] at hn; done) | omega
    exact ⟨by rw [ee], by rw [paintT, ee]; exact nt_same how (hp.picks [0, 1] (by decide)) hF⟩
  · refine Ls_y (wtdT rfl rfl rfl) rfl rfl (y_move rfl rfl) ?_
    refine Ls_y (wtdT rfl rfl rfl) rfl rfl (y_lt rfl rfl rfl) ?_
    refine Ls_bool 13 rfl (fun h0 => ?_) (fun h0 => ?_)
    all_goals try simp only [decide_eq_true_eq, decide_eq_false_iff_not, beq_iff_eq, bne_iff_ne, ne_eq, beq_eq_false_iff_ne, bne_eq_false_iff_eq, Bool.not_eq_true, Bool.not_eq_false] at h0
    · refine Ls_y (wtd0 rfl) rfl rfl (y_pick_f rfl rfl rfl) ?_
      refine Ls_y (wtd0 rfl) rfl rfl (y_move rfl rfl) ?_
      refine Ls_s (wtdF rfl rfl rfl) rfl rfl ?_
      refine Ls_s (wtdF rfl rfl rfl) rfl rfl ?_
      refine Ls_y (wtd0 rfl) rfl rfl (y_pick_t rfl rfl rfl) ?_
      refine Ls_nil (Th_n (hK3 _ _ ?_))
      refine Wp_cond_t rfl ?_
      refine Wp_seq fun K5 hK5 => ?_
      refine Wp_region ?_
      refine Ls_y (wtd0 rfl) rfl rfl (y_assign rfl rfl) ?_
      refine Ls_nil (Th_n (hK5 _ _ ?_))
      refine Wp_ret (Th_r (Fq_ret (Res1 rfl rfl) ?_))
      have ee : paintE T i c = 2 := by rw [paintE, if_neg]; rintro ⟨h1, h2, h3⟩; first | (simp [h1] at hn; done) | omega
      exact ⟨by rw [ee], by rw [paintT, ee]; exact nt_same how (hp.picks [0, 1] (by decide)) hF⟩
    · refine Ls_y (wtd0 rfl) rfl rfl (y_pick_f rfl rfl rfl) ?_
      refine Ls_y (wtd0 rfl) rfl rfl (y_move rfl rfl) ?_
      refine Ls_y (wtdT rfl rfl rfl) rfl rfl (y_move rfl rfl) ?_
      refine Ls_y (wtdT rfl rfl rfl) rfl rfl (y_ge rfl rfl rfl) ?_
      refine Ls_bool 17 rfl (fun h16 => ?_) (fun h16 => ?_)
      all_goals try simp only [decide_eq_true_eq, decide_eq_false_iff_not, beq_iff_eq, bne_iff_ne, ne_eq, beq_eq_false_iff_ne, bne_eq_false_iff_eq, Bool.not_eq_true, Bool.not_eq_false] at h16
      · refine Ls_y (wtd0 rfl) rfl rfl (y_pick_f rfl rfl rfl) ?_
        refine Ls_nil (Th_n (hK3 _ _ ?_))
        refine Wp_cond_t rfl ?_
        refine Wp_seq fun K6 hK6 => ?_
        refine Wp_region ?_
        refine Ls_y (wtd0 rfl) rfl rfl (y_assign rfl rfl) ?_
        refine Ls_nil (Th_n (hK6 _ _ ?_))
        refine Wp_ret (Th_r (Fq_ret (Res1 rfl rfl) ?_))
        have ee : paintE T i c = 2 := by rw [paintE, if_neg]; rintro ⟨h1, h2, h3⟩; first | (simp [h1] at hn; done) | omega
        exact ⟨by rw [ee], by rw [paintT, ee]; exact nt_same how (hp.picks [0, 1] (by decide)) hF⟩
      · have hnb : nodeB T i = true := by simpa using hn
        have hb2 : 0 ≤ i ∧ i < (T.nodes : Int) := by simpa [nodeB] using hnb
        have ee : paintE T i c = 0 := by rw [paintE, if_pos ⟨hnb, by omega, by omega⟩]
        obtain ⟨j, rfl⟩ := Int.eq_ofNat_of_zero_le hb2.1
        have hj : j < T.nodes := by omega
        have h32 := hT.hi
        refine Ls_y (wtd0 rfl) rfl rfl (y_pick_f rfl rfl rfl) ?_
        refine Ls_nil (Th_n (hK3 _ _ ?_))
        refine Wp_cond_f rfl ?_
        refine Wp_skip (Th_n (hK2 _ _ ?_))
        refine Wp_seq fun K7 hK7 => ?_
        refine Wp_region ?_
        refine Ls_y (wtd0 rfl) rfl rfl (y_move rfl rfl) ?_
        refine Ls_y (wtd0 rfl) rfl rfl (y_move rfl rfl) ?_
        refine Ls_y (wtd0 rfl) rfl rfl (y_move rfl rfl) ?_
        refine Ls_y (wtd0 rfl) rfl rfl (y_nil rfl rfl) ?_
        refine Ls_y (wtd0 rfl) rfl rfl (y_fld rfl rfl Ty.fo_115_1) ?_
        first
          | refine Ls_y (wtd0 rfl) rfl rfl (y_ixrN rfl rfl rfl Ty.ar_112 (by omega)) ?_
          | refine Ls_y (wtd0 rfl) rfl rfl (y_ixr rfl rfl rfl Ty.ar_112 (by omega) (by omega)) ?_
        refine Ls_a (wtd0 rfl) ?_
        refine a_store (i := 0) rfl rfl rfl rfl rfl Ty.sz_3 rfl hp rfl (by have := colC_len hT; simp [ntC]; omega) (fun w9 (hp : Hp w9 [_, _]) hf _ => ?_)
        have hF := hF.step hf (fun y hy => Or.inl (by simp at hy; rw [hy]; exact g_keys))
        have hp : Hp w9 [_, _] := hp.conv (i := 0) rfl (nt_set_col hT p.A p.c hj c)
        refine Ls_nil (Th_n (hK7 _ _ ?_))
        refine Wp_seq fun K8 hK8 => ?_
        refine Wp_region ?_
        refine Ls_y (wtd0 rfl) rfl rfl (y_assign rfl rfl) ?_
        refine Ls_nil (Th_n (hK8 _ _ ?_))
        refine Wp_ret (Fq_ret (Res1 rfl rfl) ?_)
        refine ⟨by rw [ee], ?_⟩
        rw [paintT, if_pos ee, Int.toNat_natCast]
        exact ⟨p.A, p.c, p.sp, how, hF, hp, fun _ hk => .inl hk⟩

set_option maxRecDepth 20000 in
theorem nnew_ok (n : Nat) (w : World) (h1 : 1 ≤ n) (h2 : n ≤ 32) :
    Fn Try.prog 17 [.int .i64 (n : Int)] w fun v w' => ∃ p : Np, v = .tuple #[.pointer (some ⟨p.g, 0, none⟩), .int .i64 0] ∧ NpOk p (newT n) ∧ New w w' (ntH p (newT n)) := by
  refine Fn_of 13 Ty.en_17 Try.func17 rfl rfl rfl ?_
  dsimp only [argEnv]
  have hp := Hp.nil w
  have hF := Fr.refl [] w
  refine Wp_seq fun K1 hK1 => ?_
  refine Wp_region ?_
  refine Ls_y (wtd0 rfl) rfl rfl (y_assign rfl rfl) ?_
  refine Ls_y (wtd0 rfl) rfl rfl (y_assign rfl rfl) ?_
  refine Ls_nil (Th_n (hK1 _ _ ?_))
  refine Wp_seq fun K2 hK2 => ?_
  refine Wp_seq fun K3 hK3 => ?_
  refine Wp_region ?_
  refine Ls_y (wtd0 rfl) rfl rfl (y_move rfl rfl) ?_
  refine Ls_y (wtd0 rfl) rfl rfl (y_ltF rfl rfl rfl (by omega)) ?_
  refine Ls_y (wtd0 rfl) rfl rfl (y_move rfl rfl) ?_
  refine Ls_y (wtdT rfl rfl rfl) rfl rfl (y_move rfl rfl) ?_
  refine Ls_y (wtdT rfl rfl rfl) rfl rfl (y_gtF rfl rfl rfl (by omega)) ?_
  refine Ls_y (wtd0 rfl) rfl rfl (y_pick_f rfl rfl rfl) ?_
  refine Ls_nil (Th_n (hK3 _ _ ?_))
  refine Wp_cond_f rfl ?_
  refine Wp_skip (Th_n (hK2 _ _ ?_))
  refine Wp_seq fun K4 hK4 => ?_
  refine Wp_region ?_
  refine Ls_y (wtd0 rfl) rfl rfl (y_move rfl rfl) ?_
  refine Ls_y (wtd0 rfl) rfl rfl (y_build (cells := [_, _, _, _, _, _, _, _, _, _, _, _, _, _, _, _, _, _, _, _, _, _, _, _, _, _, _, _, _, _, _, _, _, _, _]) rfl rfl Ty.zc_115 Ty.ps_115 rfl) ?_
  refine Ls_a (wtd0 rfl) ?_
  refine a_box rfl rfl rfl rfl hp (fun g1 w1 (hp : Hp w1 [_]) hf hg1 => ?_)
  have hg1 := Nat.le_trans hF.size hg1
  have hF := hF.step0 hf
  refine Ls_y (wtd0 rfl) rfl rfl (y_assign rfl rfl) ?_
  refine Ls_y (wtd0 rfl) rfl rfl (y_assign rfl rfl) ?_
  refine Ls_nil (Th_n (hK4 _ _ ?_))
  refine Wp_ret (Fq_ret (Res2 rfl rfl rfl) ?_)
  have e : colC (newT n) = List.replicate 32 (.int .i64 0) := by
    unfold colC newT
    simp only [List.map_append, List.map_replicate, List.replicate_append_replicate]
    rw [show n + (32 - n) = 32 by omega]
  have hq := hp.addNone (Cl (rowC [] ++ []) 51)
  refine ⟨⟨g1, none, 0, []⟩, rfl, Ow.nil 3, hF, ?_, fun x hx => ?_⟩
  · unfold ntH ntC
    rw [e]
    exact hq
  · simp only [ntH, keys, blkOf, List.filterMap_cons, List.filterMap_nil, Option.map_none, List.mem_cons, List.not_mem_nil, or_false] at hx
    subst hx
    exact hg1

set_option maxRecDepth 20000 in
theorem nnew_bad (n : Int) (w : World) (h : n < 1 ∨ 32 < n) :
    Fn Try.prog 17 [.int .i64 n] w fun v w' => v = .tuple #[.pointer none, .int .i64 2] ∧ w' = w := by
  refine Fn_of 13 Ty.en_17 Try.func17 rfl rfl rfl ?_
  dsimp only [argEnv]
  refine Wp_seq fun K1 hK1 => ?_
  refine Wp_region ?_
  refine Ls_y (wtd0 rfl) rfl rfl (y_assign rfl rfl) ?_
  refine Ls_y (wtd0 rfl) rfl rfl (y_assign rfl rfl) ?_
  refine Ls_nil (Th_n (hK1 _ _ ?_))
  refine Wp_seq fun K2 hK2 => ?_
  refine Wp_seq fun K3 hK3 => ?_
  refine Wp_region ?_
  refine Ls_y (wtd0 rfl) rfl rfl (y_move rfl rfl) ?_
  refine Ls_y (wtd0 rfl) rfl rfl (y_lt rfl rfl rfl) ?_
  refine Ls_bool 5 rfl (fun hc1 => ?_) (fun hc1 => ?_)
  all_goals try simp only [decide_eq_true_eq, decide_eq_false_iff_not, beq_iff_eq, bne_iff_ne, ne_eq, beq_eq_false_iff_ne, bne_eq_false_iff_eq, Bool.not_eq_true, Bool.not_eq_false] at hc1
  · refine Ls_y (wtd0 rfl) rfl rfl (y_move rfl rfl) ?_
    refine Ls_s (wtdF rfl rfl rfl) rfl rfl ?_
    refine Ls_s (wtdF rfl rfl rfl) rfl rfl ?_
    refine Ls_y (wtd0 rfl) rfl rfl (y_pick_t rfl rfl rfl) ?_
    refine Ls_nil (Th_n (hK3 _ _ ?_))
    refine Wp_cond_t rfl ?_
    refine Wp_seq fun K4 hK4 => ?_
    refine Wp_region ?_
    refine Ls_y (wtd0 rfl) rfl rfl (y_assign rfl rfl) ?_
    refine Ls_y (wtd0 rfl) rfl rfl (y_assign rfl rfl) ?_
    refine Ls_nil (Th_n (hK4 _ _ ?_))
    refine Wp_ret (Th_r (Fq_ret (Res2 rfl rfl rfl) ?_))
    exact ⟨rfl, rfl⟩
  · refine Ls_y (wtd0 rfl) rfl rfl (y_move rfl rfl) ?_
    refine Ls_y (wtdT rfl rfl rfl) rfl rfl (y_move rfl rfl) ?_
    refine Ls_y (wtdT rfl rfl rfl) rfl rfl (y_gt rfl rfl rfl) ?_
    refine Ls_bool 8 rfl (fun hc2 => ?_) (fun hc2 => ?_)
    all_goals try simp only [decide_eq_true_eq, decide_eq_false_iff_not, beq_iff_eq, bne_iff_ne, ne_eq, beq_eq_false_iff_ne, bne_eq_false_iff_eq, Bool.not_eq_true, Bool.not_eq_false] at hc2
    · refine Ls_y (wtd0 rfl) rfl rfl (y_pick_f rfl rfl rfl) ?_
      refine Ls_nil (Th_n (hK3 _ _ ?_))
      refine Wp_cond_t rfl ?_
      refine Wp_seq fun K5 hK5 => ?_
      refine Wp_region ?_
      refine Ls_y (wtd0 rfl) rfl rfl (y_assign rfl rfl) ?_
      refine Ls_y (wtd0 rfl) rfl rfl (y_assign rfl rfl) ?_
      refine Ls_nil (Th_n (hK5 _ _ ?_))
      refine Wp_ret (Th_r (Fq_ret (Res2 rfl rfl rfl) ?_))
      exact ⟨rfl, rfl⟩
    · exfalso; omega

end Go.Proofs.Ytikdpkhcegjmfaa

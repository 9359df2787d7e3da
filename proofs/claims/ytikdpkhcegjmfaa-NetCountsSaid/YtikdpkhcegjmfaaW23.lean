/- Walks printed by gen.py out of our own specifications: what the functions named below do. -/
import Derived.Test.YtikdpkhcegjmfaaW22
set_option linter.unusedSimpArgs false
set_option linter.unusedVariables false
namespace Go.Proofs.Ytikdpkhcegjmfaa
open Go.RowKit


theorem ndel_m (g c : Nat) (row : List MsgV) (sp : List Value) (i : Nat) (w : World) (hp : Hp w [(some g, Cl (rowC row ++ sp) 51)]) (hi : i < row.length) (hm : row.length ≤ 128) (how : Ow (some ⟨g, 0, none⟩) row.length c 3 (rowC row) sp) :
    Fn Try.prog 76 [.slice (some ⟨g, 0, none⟩) row.length c, .int .i64 (i : Int), .int .i64 ((i + 1 : Nat) : Int)] w fun v w' => v = .slice (some ⟨g, 0, none⟩) (row.eraseIdx i).length c ∧ ∃ sp', Ow (some ⟨g, 0, none⟩) (row.eraseIdx i).length c 3 (rowC (row.eraseIdx i)) sp' ∧ Mod w w' [(some g, Cl (rowC row ++ sp) 51)] [(some g, Cl (rowC (row.eraseIdx i) ++ sp') 51)] := by
  rcases how.2 with ⟨h0, _⟩ | ⟨g', e, h1, h2, h3⟩
  · cases h0
  have el : (row.eraseIdx i).length = row.length - 1 := by rw [List.length_eraseIdx, if_pos hi]
  rw [el]
  exact (ndel_ok g c row sp i w hp hi hm h2 h1 h3).mono fun v w' ⟨a, sp', b, hq, hf⟩ => ⟨a, sp', b, hf, hq, fun _ hk => .inl hk⟩

set_option maxRecDepth 20000 in
set_option maxHeartbeats 1000000 in
theorem ntake_ok (p : Np) (T : Nt) (w : World) (hp : Hp w (ntH p T)) (hT : NtOk T) (how : NpOk p T) (i : Int) :
    Fn Try.prog 21 [.pointer (some ⟨p.g, 0, none⟩), .int .i64 i] w fun v w' => v = .tuple #[.agg (msgC (takeM T i)).toArray, .int .i64 (takeE T i)] ∧ NtPost p T (takeT T i) w w' := by
  refine Fn_of 37 Ty.en_21 Try.func21 rfl rfl rfl ?_
  dsimp only [argEnv]
  obtain ⟨pg, pA, pc, psp⟩ := p
  simp only [NpOk] at how
  have hp : Hp w [(some pg, _), (blkOf pA, _)] := hp
  have hF := Fr.refl (keys (ntH ⟨pg, pA, pc, psp⟩ T)) w
  obtain ⟨m, hm⟩ : ∃ m, atM T i = m := ⟨_, rfl⟩
  obtain ⟨mf, mt, ms⟩ := m
  refine Wp_seq fun K1 hK1 => ?_
  refine Wp_region ?_
  refine Ls_a (wtd0 rfl) ?_
  refine a_alloc rfl rfl rfl Ty.zc_51 hp (fun g1 w1 (hp : Hp w1 [_, _, (_, Cl [_, _, _] _)]) hf hg1 => ?_)
  have hg1 := Nat.le_trans hF.size hg1
  have hF := hF.step0 hf
  refine Ls_y (wtd0 rfl) rfl rfl (y_assign rfl rfl) ?_
  refine Ls_nil (Th_n (hK1 _ _ ?_))
  refine Wp_seq fun K2 hK2 => ?_
  refine Wp_region ?_
  refine Ls_y (wtd0 rfl) rfl rfl (y_move rfl rfl) ?_
  refine Ls_y (wtd0 rfl) rfl rfl (y_move rfl rfl) ?_
  refine Ls_a (wtd0 rfl) ?_
  refine a_call rfl rfl rfl rfl (nat_ok ⟨pg, pA, pc, psp⟩ T _ (hp.picks [0, 1] (by decide)) hT how i) (fun v wz ⟨hv, hf⟩ => ?_)
  have hv : v = .tuple #[.agg #[.int .i64 mf, .int .i64 mt, sv ms], .int .i64 (atE T i)] := by rw [hv, hm]; rfl
  subst hv
  have hp := hp.keep0 hf
  have hF := hF.step0 hf
  refine Ls_y (wtd0 rfl) rfl rfl (y_move rfl rfl) ?_
  refine Ls_y (wtd0 rfl) rfl rfl (y_ext rfl rfl rfl) ?_
  refine Ls_y (wtd0 rfl) rfl rfl (y_ext rfl rfl rfl) ?_
  refine Ls_a (wtd0 rfl) ?_
  refine a_alloc rfl rfl rfl Ty.zc_51 hp (fun g2 w2 (hp : Hp w2 [_, _, (_, Cl [_, _, _] _), (_, Cl [_, _, _] _)]) hf hg2 => ?_)
  have hg2 := Nat.le_trans hF.size hg2
  have hF := hF.step0 hf
  refine Ls_a (wtd0 rfl) ?_
  first
    | refine a_storew (i := 0) rfl rfl rfl rfl Ty.sz_51 rfl (by first | assumption | (simp [Value.oneCell']; done)) hp rfl rfl (fun w3 (hp : Hp w3 [_, _, (_, Cl [_, _, _] _), (_, Cl [_, _, _] _)]) hf _ => ?_)
    | refine a_storew (i := 1) rfl rfl rfl rfl Ty.sz_51 rfl (by first | assumption | (simp [Value.oneCell']; done)) hp rfl rfl (fun w3 (hp : Hp w3 [_, _, (_, Cl [_, _, _] _), (_, Cl [_, _, _] _)]) hf _ => ?_)
    | refine a_storew (i := 2) rfl rfl rfl rfl Ty.sz_51 rfl (by first | assumption | (simp [Value.oneCell']; done)) hp rfl rfl (fun w3 (hp : Hp w3 [_, _, (_, Cl [_, _, _] _), (_, Cl [_, _, _] _)]) hf _ => ?_)
    | refine a_storew (i := 3) rfl rfl rfl rfl Ty.sz_51 rfl (by first | assumption | (simp [Value.oneCell']; done)) hp rfl rfl (fun w3 (hp : Hp w3 [_, _, (_, Cl [_, _, _] _), (_, Cl [_, _, _] _)]) hf _ => ?_)
  have hF := hF.step hf (by intro y hy; simp only [List.mem_cons, List.not_mem_nil, or_false] at hy; subst hy; first | (exact Or.inr (by omega)) | (exact Or.inl (by simp)))
  refine Ls_y (wtd0 rfl) rfl rfl (y_assign rfl rfl) ?_
  refine Ls_nil (Th_n (hK2 _ _ ?_))
  refine Wp_seq fun K3 hK3 => ?_
  refine Wp_seq fun K4 hK4 => ?_
  refine Wp_region ?_
  refine Ls_y (wtd0 rfl) rfl rfl (y_move rfl rfl) ?_
  refine Ls_y (wtd0 rfl) rfl rfl (y_ne rfl rfl rfl) ?_
  refine Ls_bool 15 rfl (fun he => ?_) (fun he => ?_)
  all_goals try simp only [decide_eq_true_eq, decide_eq_false_iff_not, beq_iff_eq, bne_iff_ne, ne_eq, beq_eq_false_iff_ne, bne_eq_false_iff_eq, Bool.not_eq_true, Bool.not_eq_false] at he
  · refine Ls_nil (Th_n (hK4 _ _ ?_))
    have hb : inB T i = false := by
      cases hb : inB T i with
      | true => simp [atE, hb] at he
      | false => rfl
    refine Wp_cond_t rfl ?_
    refine Wp_seq fun K5 hK5 => ?_
    refine Wp_region ?_
    refine Ls_y (wtd0 rfl) rfl rfl (y_build (cells := [_, _, _]) rfl rfl Ty.zc_51 Ty.ps_51 rfl) ?_
    refine Ls_y (wtd0 rfl) rfl rfl (y_move rfl rfl) ?_
    refine Ls_a (wtd0 rfl) ?_
    first
      | refine a_storew (i := 0) rfl rfl rfl rfl Ty.sz_51 rfl (by first | assumption | (simp [Value.oneCell']; done)) hp rfl rfl (fun w4 (hp : Hp w4 [_, _, (_, Cl [_, _, _] _), (_, Cl [_, _, _] _)]) hf _ => ?_)
      | refine a_storew (i := 1) rfl rfl rfl rfl Ty.sz_51 rfl (by first | assumption | (simp [Value.oneCell']; done)) hp rfl rfl (fun w4 (hp : Hp w4 [_, _, (_, Cl [_, _, _] _), (_, Cl [_, _, _] _)]) hf _ => ?_)
      | refine a_storew (i := 2) rfl rfl rfl rfl Ty.sz_51 rfl (by first | assumption | (simp [Value.oneCell']; done)) hp rfl rfl (fun w4 (hp : Hp w4 [_, _, (_, Cl [_, _, _] _), (_, Cl [_, _, _] _)]) hf _ => ?_)
      | refine a_storew (i := 3) rfl rfl rfl rfl Ty.sz_51 rfl (by first | assumption | (simp [Value.oneCell']; done)) hp rfl rfl (fun w4 (hp : Hp w4 [_, _, (_, Cl [_, _, _] _), (_, Cl [_, _, _] _)]) hf _ => ?_)
    have hF := hF.step hf (by intro y hy; simp only [List.mem_cons, List.not_mem_nil, or_false] at hy; subst hy; first | (exact Or.inr (by omega)) | (exact Or.inl (by simp)))
    refine Ls_y (wtd0 rfl) rfl rfl (y_assign rfl rfl) ?_
    refine Ls_nil (Th_n (hK5 _ _ ?_))
    first
      | refine Wp_ret (Th_r (Fq_ret (ResN2 rfl (rvc (i := 0) rfl Ty.ag_51 hp rfl rfl) rfl) ?_))
      | refine Wp_ret (Th_r (Fq_ret (ResN2 rfl (rvc (i := 1) rfl Ty.ag_51 hp rfl rfl) rfl) ?_))
      | refine Wp_ret (Th_r (Fq_ret (ResN2 rfl (rvc (i := 2) rfl Ty.ag_51 hp rfl rfl) rfl) ?_))
      | refine Wp_ret (Th_r (Fq_ret (ResN2 rfl (rvc (i := 3) rfl Ty.ag_51 hp rfl rfl) rfl) ?_))
    have ee : takeE T i = 2 := by rw [takeE, if_pos hb]
    have e2 : atE T i = 2 := by simp [atE, hb]
    exact ⟨by show Value.tuple #[_, Value.int .i64 (atE T i)] = _; rw [e2, takeM, ee]; rfl, by rw [takeT, ee]; exact nt_same (p := ⟨pg, pA, pc, psp⟩) how (hp.picks [0, 1] (by decide)) hF⟩
  · refine Ls_nil (Th_n (hK4 _ _ ?_))
    have hb : inB T i = true := by
      cases hb : inB T i with
      | true => rfl
      | false => simp [atE, hb] at he
    have hb2 : 0 ≤ i ∧ i < (T.row.length : Int) := by simpa [inB] using hb
    obtain ⟨k, rfl⟩ := Int.eq_ofNat_of_zero_le hb2.1
    have hk : k < T.row.length := by omega
    have h128 := hT.row
    refine Wp_cond_f rfl ?_
    refine Wp_skip (Th_n (hK3 _ _ ?_))
    refine Wp_seq fun K6 hK6 => ?_
    refine Wp_seq fun K7 hK7 => ?_
    refine Wp_region ?_
    refine Ls_y (wtd0 rfl) rfl rfl (y_move rfl rfl) ?_
    refine Ls_y (wtd0 rfl) rfl rfl (y_fld rfl rfl Ty.fo_51_0) ?_
    first
      | refine Ls_y (wtd0 rfl) rfl rfl (y_load (i := 0) rfl rfl Ty.pl_3 (fun _ e => e ▸ hp) rfl rfl) ?_
      | refine Ls_y (wtd0 rfl) rfl rfl (y_load (i := 1) rfl rfl Ty.pl_3 (fun _ e => e ▸ hp) rfl rfl) ?_
      | refine Ls_y (wtd0 rfl) rfl rfl (y_load (i := 2) rfl rfl Ty.pl_3 (fun _ e => e ▸ hp) rfl rfl) ?_
      | refine Ls_y (wtd0 rfl) rfl rfl (y_load (i := 3) rfl rfl Ty.pl_3 (fun _ e => e ▸ hp) rfl rfl) ?_
    refine Ls_y (wtd0 rfl) rfl rfl (y_fld rfl rfl Ty.fo_51_1) ?_
    first
      | refine Ls_y (wtd0 rfl) rfl rfl (y_load (i := 0) rfl rfl Ty.pl_3 (fun _ e => e ▸ hp) rfl rfl) ?_
      | refine Ls_y (wtd0 rfl) rfl rfl (y_load (i := 1) rfl rfl Ty.pl_3 (fun _ e => e ▸ hp) rfl rfl) ?_
      | refine Ls_y (wtd0 rfl) rfl rfl (y_load (i := 2) rfl rfl Ty.pl_3 (fun _ e => e ▸ hp) rfl rfl) ?_
      | refine Ls_y (wtd0 rfl) rfl rfl (y_load (i := 3) rfl rfl Ty.pl_3 (fun _ e => e ▸ hp) rfl rfl) ?_
    refine Ls_a (wtd0 rfl) ?_
    refine a_call rfl rfl rfl rfl (napart_ok ⟨pg, pA, pc, psp⟩ T _ (hp.picks [0, 1] (by decide)) hT mf mt) (fun v wa ⟨hv, hf2⟩ => ?_)
    subst hv
    have hp := hp.keep0 hf2
    have hF := hF.step0 hf2
    refine Ls_nil (Th_n (hK7 _ _ ?_))
    refine Wp_cond rfl (fun hap => ?_) (fun hap => ?_)
    all_goals try simp only [decide_eq_true_eq, decide_eq_false_iff_not, beq_iff_eq, bne_iff_ne, ne_eq, beq_eq_false_iff_ne, bne_eq_false_iff_eq, Bool.not_eq_true] at hap
    · refine Wp_seq fun K8 hK8 => ?_
      refine Wp_region ?_
      refine Ls_y (wtd0 rfl) rfl rfl (y_build (cells := [_, _, _]) rfl rfl Ty.zc_51 Ty.ps_51 rfl) ?_
      refine Ls_a (wtd0 rfl) ?_
      first
        | refine a_storew (i := 0) rfl rfl rfl rfl Ty.sz_51 rfl (by first | assumption | (simp [Value.oneCell']; done)) hp rfl rfl (fun w4 (hp : Hp w4 [_, _, (_, Cl [_, _, _] _), (_, Cl [_, _, _] _)]) hf _ => ?_)
        | refine a_storew (i := 1) rfl rfl rfl rfl Ty.sz_51 rfl (by first | assumption | (simp [Value.oneCell']; done)) hp rfl rfl (fun w4 (hp : Hp w4 [_, _, (_, Cl [_, _, _] _), (_, Cl [_, _, _] _)]) hf _ => ?_)
        | refine a_storew (i := 2) rfl rfl rfl rfl Ty.sz_51 rfl (by first | assumption | (simp [Value.oneCell']; done)) hp rfl rfl (fun w4 (hp : Hp w4 [_, _, (_, Cl [_, _, _] _), (_, Cl [_, _, _] _)]) hf _ => ?_)
        | refine a_storew (i := 3) rfl rfl rfl rfl Ty.sz_51 rfl (by first | assumption | (simp [Value.oneCell']; done)) hp rfl rfl (fun w4 (hp : Hp w4 [_, _, (_, Cl [_, _, _] _), (_, Cl [_, _, _] _)]) hf _ => ?_)
      have hF := hF.step hf (by intro y hy; simp only [List.mem_cons, List.not_mem_nil, or_false] at hy; subst hy; first | (exact Or.inr (by omega)) | (exact Or.inl (by simp)))
      refine Ls_y (wtd0 rfl) rfl rfl (y_assign rfl rfl) ?_
      refine Ls_nil (Th_n (hK8 _ _ ?_))
      first
        | refine Wp_ret (Th_r (Fq_ret (ResN2 rfl (rvc (i := 0) rfl Ty.ag_51 hp rfl rfl) rfl) ?_))
        | refine Wp_ret (Th_r (Fq_ret (ResN2 rfl (rvc (i := 1) rfl Ty.ag_51 hp rfl rfl) rfl) ?_))
        | refine Wp_ret (Th_r (Fq_ret (ResN2 rfl (rvc (i := 2) rfl Ty.ag_51 hp rfl rfl) rfl) ?_))
        | refine Wp_ret (Th_r (Fq_ret (ResN2 rfl (rvc (i := 3) rfl Ty.ag_51 hp rfl rfl) rfl) ?_))
      have ee : takeE T (k : Int) = 9 := by rw [takeE, if_neg (by simp [hb]), hm, if_pos hap]
      exact ⟨by rw [takeM, ee]; rfl, by rw [takeT, ee]; exact nt_same (p := ⟨pg, pA, pc, psp⟩) how (hp.picks [0, 1] (by decide)) hF⟩
    · obtain ⟨g2, rfl⟩ := how.some_ (show 0 < T.row.length by omega)
      refine Wp_skip (Th_n (hK6 _ _ ?_))
      refine Wp_seq fun K9 hK9 => ?_
      refine Wp_region ?_
      refine Ls_y (wtd0 rfl) rfl rfl (y_move rfl rfl) ?_
      refine Ls_y (wtd0 rfl) rfl rfl (y_move rfl rfl) ?_
      refine Ls_y (wtd0 rfl) rfl rfl (y_nil rfl rfl) ?_
      refine Ls_y (wtd0 rfl) rfl rfl (y_fld rfl rfl Ty.fo_115_2) ?_
      refine Ls_y (wtd0 rfl) rfl rfl (y_load (i := 0) rfl rfl Ty.pl_113 (fun _ e => e ▸ hp) rfl (nt_row hT _ _)) ?_
      refine Ls_y (wtd0 rfl) rfl rfl (y_move rfl rfl) ?_
      refine Ls_y (wtd0 rfl) rfl rfl (y_move rfl rfl) ?_
      first
        | refine Ls_y (wtd0 rfl) rfl rfl (y_add rfl rfl rfl (w_succ (by omega))) ?_
        | refine Ls_y (wtd0 rfl) rfl rfl (y_add rfl rfl rfl (wf_i64 (by omega))) ?_
        | refine Ls_y (wtd0 rfl) rfl rfl (y_add rfl rfl rfl rfl) ?_
      refine Ls_a (wtd0 rfl) ?_
      refine a_call rfl rfl rfl rfl (ndel_m g2 pc T.row psp k _ (hp.picks [1] (by decide)) hk h128 how) (fun v wd ⟨hv, sp', how', hM⟩ => ?_)
      subst hv
      have hp : Hp wd [_, (_, Cl [_, _, _] _), (_, Cl [_, _, _] _), _] := hp.call [0, 2, 3] [1] (by decide) rfl hM
      have hF := hF.step hM.fr (fun y hy => Or.inl (by simp [keys] at hy; subst hy; simp [keys, ntH, blkOf]))
      refine Ls_y (wtd0 rfl) rfl rfl (y_nil rfl rfl) ?_
      refine Ls_y (wtd0 rfl) rfl rfl (y_fld rfl rfl Ty.fo_115_2) ?_
      refine Ls_a (wtd0 rfl) ?_
      refine a_store (i := 0) rfl rfl rfl rfl rfl Ty.sz_113 rfl hp rfl (by have := colC_len hT; simp [ntC]; omega) (fun w9 (hp : Hp w9 [_, (_, Cl [_, _, _] _), (_, Cl [_, _, _] _), _]) hf _ => ?_)
      have hF := hF.step hf (fun y hy => Or.inl (by simp at hy; rw [hy]; exact g_keys (p := ⟨pg, some ⟨g2, 0, none⟩, pc, psp⟩)))
      have hp : Hp w9 _ := hp.conv (i := 0) rfl (nt_set_row hT (some ⟨g2, 0, none⟩) (some ⟨g2, 0, none⟩) pc pc (T.row.eraseIdx k))
      refine Ls_nil (Th_n (hK9 _ _ ?_))
      refine Wp_seq fun K10 hK10 => ?_
      refine Wp_region ?_
      first
        | refine Ls_y (wtd0 rfl) rfl rfl (y_loadw (i := 0) rfl rfl Ty.ag_51 (fun _ e => e ▸ hp) rfl rfl) ?_
        | refine Ls_y (wtd0 rfl) rfl rfl (y_loadw (i := 1) rfl rfl Ty.ag_51 (fun _ e => e ▸ hp) rfl rfl) ?_
        | refine Ls_y (wtd0 rfl) rfl rfl (y_loadw (i := 2) rfl rfl Ty.ag_51 (fun _ e => e ▸ hp) rfl rfl) ?_
        | refine Ls_y (wtd0 rfl) rfl rfl (y_loadw (i := 3) rfl rfl Ty.ag_51 (fun _ e => e ▸ hp) rfl rfl) ?_
      refine Ls_a (wtd0 rfl) ?_
      first
        | refine a_storew (i := 0) rfl rfl rfl rfl Ty.sz_51 rfl (by first | assumption | (simp [Value.oneCell']; done)) hp rfl rfl (fun w4 (hp : Hp w4 [_, (_, Cl [_, _, _] _), (_, Cl [_, _, _] _), _]) hf _ => ?_)
        | refine a_storew (i := 1) rfl rfl rfl rfl Ty.sz_51 rfl (by first | assumption | (simp [Value.oneCell']; done)) hp rfl rfl (fun w4 (hp : Hp w4 [_, (_, Cl [_, _, _] _), (_, Cl [_, _, _] _), _]) hf _ => ?_)
        | refine a_storew (i := 2) rfl rfl rfl rfl Ty.sz_51 rfl (by first | assumption | (simp [Value.oneCell']; done)) hp rfl rfl (fun w4 (hp : Hp w4 [_, (_, Cl [_, _, _] _), (_, Cl [_, _, _] _), _]) hf _ => ?_)
        | refine a_storew (i := 3) rfl rfl rfl rfl Ty.sz_51 rfl (by first | assumption | (simp [Value.oneCell']; done)) hp rfl rfl (fun w4 (hp : Hp w4 [_, (_, Cl [_, _, _] _), (_, Cl [_, _, _] _), _]) hf _ => ?_)
      have hF := hF.step hf (by intro y hy; simp only [List.mem_cons, List.not_mem_nil, or_false] at hy; subst hy; first | (exact Or.inr (by omega)) | (exact Or.inl (by simp)))
      refine Ls_y (wtd0 rfl) rfl rfl (y_assign rfl rfl) ?_
      refine Ls_nil (Th_n (hK10 _ _ ?_))
      first
        | refine Wp_ret (Fq_ret (ResN2 rfl (rvc (i := 0) rfl Ty.ag_51 hp rfl rfl) rfl) ?_)
        | refine Wp_ret (Fq_ret (ResN2 rfl (rvc (i := 1) rfl Ty.ag_51 hp rfl rfl) rfl) ?_)
        | refine Wp_ret (Fq_ret (ResN2 rfl (rvc (i := 2) rfl Ty.ag_51 hp rfl rfl) rfl) ?_)
        | refine Wp_ret (Fq_ret (ResN2 rfl (rvc (i := 3) rfl Ty.ag_51 hp rfl rfl) rfl) ?_)
      have ee : takeE T (k : Int) = 0 := by rw [takeE, if_neg (by simp [hb]), hm, if_neg (by simp [hap])]
      refine ⟨by rw [takeM, if_pos ee, hm, ee]; rfl, ?_⟩
      rw [takeT, if_pos ee, Int.toNat_natCast]
      exact nt_post (p := ⟨pg, some ⟨g2, 0, none⟩, pc, psp⟩) how' (hp.picks [0, 3] (by decide)) hF (fun g hg => .inl hg)

set_option maxRecDepth 20000 in
set_option maxHeartbeats 1000000 in
theorem ndrop_ok (p : Np) (T : Nt) (w : World) (hp : Hp w (ntH p T)) (hT : NtOk T) (how : NpOk p T) (i : Int) (hl : T.lost ≤ 1000000) :
    Fn Try.prog 24 [.pointer (some ⟨p.g, 0, none⟩), .int .i64 i] w fun v w' => v = .int .i64 (atE T i) ∧ NtPost p T (dropT T i) w w' := by
  refine Fn_of 29 Ty.en_24 Try.func24 rfl rfl rfl ?_
  dsimp only [argEnv]
  obtain ⟨pg, pA, pc, psp⟩ := p
  simp only [NpOk] at how
  have hp : Hp w [(some pg, _), (blkOf pA, _)] := hp
  have hF := Fr.refl (keys (ntH ⟨pg, pA, pc, psp⟩ T)) w
  obtain ⟨m, hm⟩ : ∃ m, atM T i = m := ⟨_, rfl⟩
  obtain ⟨mf, mt, ms⟩ := m
  refine Wp_seq fun K1 hK1 => ?_
  refine Wp_region ?_
  refine Ls_y (wtd0 rfl) rfl rfl (y_assign rfl rfl) ?_
  refine Ls_nil (Th_n (hK1 _ _ ?_))
  refine Wp_seq fun K2 hK2 => ?_
  refine Wp_seq fun K3 hK3 => ?_
  refine Wp_region ?_
  refine Ls_y (wtd0 rfl) rfl rfl (y_move rfl rfl) ?_
  refine Ls_y (wtd0 rfl) rfl rfl (y_move rfl rfl) ?_
  refine Ls_a (wtd0 rfl) ?_
  refine a_call rfl rfl rfl rfl (nat_ok ⟨pg, pA, pc, psp⟩ T _ (hp.picks [0, 1] (by decide)) hT how i) (fun v wz ⟨hv, hf⟩ => ?_)
  have hv : v = .tuple #[.agg #[.int .i64 mf, .int .i64 mt, sv ms], .int .i64 (atE T i)] := by rw [hv, hm]; rfl
  subst hv
  have hp := hp.keep0 hf
  have hF := hF.step0 hf
  refine Ls_y (wtd0 rfl) rfl rfl (y_move rfl rfl) ?_
  refine Ls_y (wtd0 rfl) rfl rfl (y_ext rfl rfl rfl) ?_
  refine Ls_y (wtd0 rfl) rfl rfl (y_ext rfl rfl rfl) ?_
  refine Ls_a (wtd0 rfl) ?_
  refine a_alloc rfl rfl rfl Ty.zc_51 hp (fun g1 w1 (hp : Hp w1 [_, _, (_, Cl [_, _, _] _)]) hf hg1 => ?_)
  have hg1 := Nat.le_trans hF.size hg1
  have hF := hF.step0 hf
  refine Ls_a (wtd0 rfl) ?_
  first
    | refine a_storew (i := 0) rfl rfl rfl rfl Ty.sz_51 rfl (by first | assumption | (simp [Value.oneCell']; done)) hp rfl rfl (fun w2 (hp : Hp w2 [_, _, (_, Cl [_, _, _] _)]) hf _ => ?_)
    | refine a_storew (i := 1) rfl rfl rfl rfl Ty.sz_51 rfl (by first | assumption | (simp [Value.oneCell']; done)) hp rfl rfl (fun w2 (hp : Hp w2 [_, _, (_, Cl [_, _, _] _)]) hf _ => ?_)
    | refine a_storew (i := 2) rfl rfl rfl rfl Ty.sz_51 rfl (by first | assumption | (simp [Value.oneCell']; done)) hp rfl rfl (fun w2 (hp : Hp w2 [_, _, (_, Cl [_, _, _] _)]) hf _ => ?_)
  have hF := hF.step hf (by intro y hy; simp only [List.mem_cons, List.not_mem_nil, or_false] at hy; subst hy; first | (exact Or.inr (by omega)) | (exact Or.inl (by simp)))
  refine Ls_y (wtd0 rfl) rfl rfl (y_assign rfl rfl) ?_
  refine Ls_nil (Th_n (hK3 _ _ ?_))
  refine Wp_seq fun K4 hK4 => ?_
  refine Wp_region ?_
  refine Ls_y (wtd0 rfl) rfl rfl (y_move rfl rfl) ?_
  refine Ls_y (wtd0 rfl) rfl rfl (y_ne rfl rfl rfl) ?_
  refine Ls_bool 14 rfl (fun he => ?_) (fun he => ?_)
  all_goals try simp only [decide_eq_true_eq, decide_eq_false_iff_not, beq_iff_eq, bne_iff_ne, ne_eq, beq_eq_false_iff_ne, bne_eq_false_iff_eq, Bool.not_eq_true, Bool.not_eq_false] at he
  · refine Ls_nil (Th_n (hK4 _ _ ?_))
    have hb : inB T i = false := by
      cases hb : inB T i with
      | true => simp [atE, hb] at he
      | false => rfl
    refine Wp_cond_t rfl ?_
    refine Wp_seq fun K5 hK5 => ?_
    refine Wp_region ?_
    refine Ls_y (wtd0 rfl) rfl rfl (y_move rfl rfl) ?_
    refine Ls_y (wtd0 rfl) rfl rfl (y_assign rfl rfl) ?_
    refine Ls_nil (Th_n (hK5 _ _ ?_))
    refine Wp_ret (Th_r (Fq_ret (Res1 rfl rfl) ?_))
    exact ⟨rfl, by rw [dropT, if_neg (by simp [hb])]; exact nt_same (p := ⟨pg, pA, pc, psp⟩) how (hp.picks [0, 1] (by decide)) hF⟩
  · refine Ls_nil (Th_n (hK4 _ _ ?_))
    have hb : inB T i = true := by
      cases hb : inB T i with
      | true => rfl
      | false => simp [atE, hb] at he
    have hb2 : 0 ≤ i ∧ i < (T.row.length : Int) := by simpa [inB] using hb
    obtain ⟨k, rfl⟩ := Int.eq_ofNat_of_zero_le hb2.1
    have hk : k < T.row.length := by omega
    have h128 := hT.row
    obtain ⟨g2, rfl⟩ := how.some_ (show 0 < T.row.length by omega)
    refine Wp_cond_f rfl ?_
    refine Wp_skip (Th_n (hK2 _ _ ?_))
    refine Wp_seq fun K6 hK6 => ?_
    refine Wp_region ?_
    refine Ls_y (wtd0 rfl) rfl rfl (y_move rfl rfl) ?_
    refine Ls_y (wtd0 rfl) rfl rfl (y_move rfl rfl) ?_
    refine Ls_y (wtd0 rfl) rfl rfl (y_nil rfl rfl) ?_
    refine Ls_y (wtd0 rfl) rfl rfl (y_fld rfl rfl Ty.fo_115_2) ?_
    refine Ls_y (wtd0 rfl) rfl rfl (y_load (i := 0) rfl rfl Ty.pl_113 (fun _ e => e ▸ hp) rfl (nt_row hT _ _)) ?_
    refine Ls_y (wtd0 rfl) rfl rfl (y_move rfl rfl) ?_
    refine Ls_y (wtd0 rfl) rfl rfl (y_move rfl rfl) ?_
    first
      | refine Ls_y (wtd0 rfl) rfl rfl (y_add rfl rfl rfl (w_succ (by omega))) ?_
      | refine Ls_y (wtd0 rfl) rfl rfl (y_add rfl rfl rfl (wf_i64 (by omega))) ?_
      | refine Ls_y (wtd0 rfl) rfl rfl (y_add rfl rfl rfl rfl) ?_
    refine Ls_a (wtd0 rfl) ?_
    refine a_call rfl rfl rfl rfl (ndel_m g2 pc T.row psp k _ (hp.picks [1] (by decide)) hk h128 how) (fun v wd ⟨hv, sp', how', hM⟩ => ?_)
    subst hv
    have hp : Hp wd [_, (_, Cl [_, _, _] _), _] := hp.call [0, 2] [1] (by decide) rfl hM
    have hF := hF.step hM.fr (fun y hy => Or.inl (by simp [keys] at hy; subst hy; simp [keys, ntH, blkOf]))
    refine Ls_y (wtd0 rfl) rfl rfl (y_nil rfl rfl) ?_
    refine Ls_y (wtd0 rfl) rfl rfl (y_fld rfl rfl Ty.fo_115_2) ?_
    refine Ls_a (wtd0 rfl) ?_
    refine a_store (i := 0) rfl rfl rfl rfl rfl Ty.sz_113 rfl hp rfl (by have := colC_len hT; simp [ntC]; omega) (fun w9 (hp : Hp w9 [_, (_, Cl [_, _, _] _), _]) hf _ => ?_)
    have hF := hF.step hf (fun y hy => Or.inl (by simp at hy; rw [hy]; exact g_keys (p := ⟨pg, some ⟨g2, 0, none⟩, pc, psp⟩)))
    have hp : Hp w9 _ := hp.conv (i := 0) rfl (nt_set_row hT (some ⟨g2, 0, none⟩) (some ⟨g2, 0, none⟩) pc pc (T.row.eraseIdx k))
    refine Ls_nil (Th_n (hK6 _ _ ?_))
    have hT2 : NtOk { T with row := T.row.eraseIdx k } := ⟨hT.lo, hT.hi, hT.len, Nat.le_trans (List.length_eraseIdx_le _ _) hT.row, hT.l0⟩
    refine Wp_seq fun K7 hK7 => ?_
    refine Wp_region ?_
    refine Ls_y (wtd0 rfl) rfl rfl (y_move rfl rfl) ?_
    refine Ls_a (wtd0 rfl) ?_
    refine a_call rfl rfl rfl rfl (nlose_ok ⟨pg, some ⟨g2, 0, none⟩, pc, sp'⟩ { T with row := T.row.eraseIdx k } _ (hp.picks [0, 2] (by decide)) hT2 0 hl) (fun v we ⟨hv, hM⟩ => ?_)
    subst hv
    have hp : Hp we [(_, Cl [_, _, _] _), _, _] := hp.call [1] [0, 2] (by decide) rfl hM
    have hF := hF.step hM.fr (fun y hy => Or.inl hy)
    refine Ls_y (wtd0 rfl) rfl rfl (y_assign rfl rfl) ?_
    refine Ls_nil (Th_n (hK7 _ _ ?_))
    refine Wp_ret (Fq_ret (Res1 rfl rfl) ?_)
    refine ⟨by simp [atE, hb], ?_⟩
    rw [dropT, if_pos hb, Int.toNat_natCast]
    exact nt_post (p := ⟨pg, some ⟨g2, 0, none⟩, pc, psp⟩) how' (hp.picks [1, 2] (by decide)) hF (fun g hg => .inl hg)

end Go.Proofs.Ytikdpkhcegjmfaa

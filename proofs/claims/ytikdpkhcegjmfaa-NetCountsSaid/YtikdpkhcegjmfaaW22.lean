/- Walks printed by gen.py out of our own specifications: what the functions named below do. -/
import Derived.Test.YtikdpkhcegjmfaaW21
set_option linter.unusedSimpArgs false
set_option linter.unusedVariables false
namespace Go.Proofs.Ytikdpkhcegjmfaa
open Go.RowKit


/-- What an operation leaves of a net. -/
def NtPost (p : Np) (T T' : Nt) (w w' : World) : Prop := ∃ A c sp, NpOk { p with A := A, c := c, sp := sp } T' ∧ Mod w w' (ntH p T) (ntH { p with A := A, c := c, sp := sp } T')
theorem nt_same {p : Np} {T : Nt} {w w' : World} (how : NpOk p T) (hq : Hp w' (ntH p T)) (hF : Fr (keys (ntH p T)) w w') : NtPost p T T w w' := ⟨p.A, p.c, p.sp, how, hF, hq, fun _ hk => .inl hk⟩
theorem nt_post {p : Np} {T T' : Nt} {A : Option Addr} {c : Nat} {sp : List Value} {w w' : World} (how : Ow A T'.row.length c 3 (rowC T'.row) sp) (hq : Hp w' (ntH { p with A := A, c := c, sp := sp } T')) (hF : Fr (keys (ntH p T)) w w') (hA : ∀ g, blkOf A = some g → blkOf p.A = some g ∨ w.heap.size ≤ g) : NtPost p T T' w w' := by
  refine ⟨A, c, sp, how, hF, hq, fun k hk => ?_⟩
  unfold keys ntH at hk ⊢
  simp only [List.filterMap_cons, List.filterMap_nil] at hk ⊢
  cases hb : blkOf A with
  | none => rw [hb] at hk; simp only [List.mem_cons, List.not_mem_nil, or_false] at hk; left; rw [hk]; simp
  | some g =>
    rw [hb] at hk
    simp only [List.mem_cons, List.not_mem_nil, or_false] at hk
    rcases hk with rfl | rfl
    · left; simp
    · rcases hA _ hb with h | h
      · left; rw [h]; simp
      · exact .inr h
theorem blk_keys {p : Np} {T : Nt} : ∀ y ∈ (blkOf p.A).toList, y ∈ keys (ntH p T) := fun y hy => by
  unfold keys ntH
  simp only [List.filterMap_cons, List.filterMap_nil]
  cases hb : blkOf p.A with
  | none => rw [hb] at hy; cases hy
  | some g => rw [hb] at hy; simp at hy; subst hy; simp
theorem g_keys {p : Np} {T : Nt} : p.g ∈ keys (ntH p T) := by simp [keys, ntH]

set_option maxRecDepth 20000 in
set_option maxHeartbeats 1000000 in
theorem nsend_ok (p : Np) (T : Nt) (w : World) (hp : Hp w (ntH p T)) (hT : NtOk T) (how : NpOk p T) (mf mt : Int) (ms : List UInt8) (hl : T.lost ≤ 1000000) :
    Fn Try.prog 19 [.pointer (some ⟨p.g, 0, none⟩), .agg #[.int .i64 mf, .int .i64 mt, sv ms]] w fun v w' => v = .int .i64 (sendE T (MsgV.mk mf mt ms)) ∧ NtPost p T (sendT T (MsgV.mk mf mt ms)) w w' := by
  refine Fn_of 54 Ty.en_19 Try.func19 rfl rfl rfl ?_
  dsimp only [argEnv]
  have hp : Hp w [_, _] := hp
  have hF := Fr.refl (keys (ntH p T)) w
  refine Wp_seq fun K1 hK1 => ?_
  refine Wp_region ?_
  refine Ls_a (wtd0 rfl) ?_
  refine a_box rfl rfl rfl rfl hp (fun g1 w1 (hp : Hp w1 [_, _, (_, Cl [_, _, _] _)]) hf hg1 => ?_)
  have hg1 := Nat.le_trans hF.size hg1
  have hF := hF.step0 hf
  refine Ls_y (wtd0 rfl) rfl rfl (y_assign rfl rfl) ?_
  refine Ls_nil (Th_n (hK1 _ _ ?_))
  refine Wp_seq fun K2 hK2 => ?_
  refine Wp_seq fun K3 hK3 => ?_
  refine Wp_region ?_
  refine Ls_y (wtd0 rfl) rfl rfl (y_move rfl rfl) ?_
  refine Ls_y (wtd0 rfl) rfl rfl (y_fld rfl rfl Ty.fo_51_0) ?_
  first
    | refine Ls_y (wtd0 rfl) rfl rfl (y_load (i := 0) rfl rfl Ty.pl_3 (fun _ e => e ▸ hp) rfl rfl) ?_
    | refine Ls_y (wtd0 rfl) rfl rfl (y_load (i := 1) rfl rfl Ty.pl_3 (fun _ e => e ▸ hp) rfl rfl) ?_
    | refine Ls_y (wtd0 rfl) rfl rfl (y_load (i := 2) rfl rfl Ty.pl_3 (fun _ e => e ▸ hp) rfl rfl) ?_
  refine Ls_a (wtd0 rfl) ?_
  refine a_call rfl rfl rfl rfl (nnode_ok p T _ (hp.picks [0, 1] (by decide)) hT mf) (fun v wz ⟨hv, hw⟩ => ?_)
  subst hv
  subst hw
  refine Ls_y (wtd0 rfl) rfl rfl (y_not rfl rfl) ?_
  refine Ls_y (wtd0 rfl) rfl rfl (y_move rfl rfl) ?_
  refine Ls_bool 10 rfl (fun hnf => ?_) (fun hnf => ?_)
  all_goals try simp only [decide_eq_true_eq, decide_eq_false_iff_not, beq_iff_eq, bne_iff_ne, ne_eq, beq_eq_false_iff_ne, bne_eq_false_iff_eq, Bool.not_eq_true, Bool.not_eq_false] at hnf
  · refine Ls_s (wtdF rfl rfl rfl) rfl rfl ?_
    refine Ls_s (wtdF rfl rfl rfl) rfl rfl ?_
    refine Ls_s (wtdF rfl rfl rfl) rfl rfl ?_
    refine Ls_s (wtdF rfl rfl rfl) rfl rfl ?_
    refine Ls_s (wtdF rfl rfl rfl) rfl rfl ?_
    refine Ls_y (wtd0 rfl) rfl rfl (y_pick_t rfl rfl rfl) ?_
    refine Ls_y (wtd0 rfl) rfl rfl (y_move rfl rfl) ?_
    refine Ls_s (wtdF rfl rfl rfl) rfl rfl ?_
    refine Ls_s (wtdF rfl rfl rfl) rfl rfl ?_
    refine Ls_s (wtdF rfl rfl rfl) rfl rfl ?_
    refine Ls_s (wtdF rfl rfl rfl) rfl rfl ?_
    refine Ls_s (wtdF rfl rfl rfl) rfl rfl ?_
    refine Ls_y (wtd0 rfl) rfl rfl (y_pick_t rfl rfl rfl) ?_
    refine Ls_nil (Th_n (hK3 _ _ ?_))
    refine Wp_cond_t rfl ?_
    refine Wp_seq fun K4 hK4 => ?_
    refine Wp_region ?_
    refine Ls_y (wtd0 rfl) rfl rfl (y_assign rfl rfl) ?_
    refine Ls_nil (Th_n (hK4 _ _ ?_))
    refine Wp_ret (Th_r (Fq_ret (Res1 rfl rfl) ?_))
    have hb : badB T (MsgV.mk mf mt ms) = true := by simp [badB, hnf]
    exact ⟨by rw [sendE, if_pos hb], by rw [sendT, if_pos hb]; exact nt_same how (hp.picks [0, 1] (by decide)) hF⟩
  · refine Ls_y (wtdT rfl rfl rfl) rfl rfl (y_move rfl rfl) ?_
    refine Ls_y (wtdT rfl rfl rfl) rfl rfl (y_fld rfl rfl Ty.fo_51_1) ?_
    first
      | refine Ls_y (wtdT rfl rfl rfl) rfl rfl (y_load (i := 0) rfl rfl Ty.pl_3 (fun _ e => e ▸ hp) rfl rfl) ?_
      | refine Ls_y (wtdT rfl rfl rfl) rfl rfl (y_load (i := 1) rfl rfl Ty.pl_3 (fun _ e => e ▸ hp) rfl rfl) ?_
      | refine Ls_y (wtdT rfl rfl rfl) rfl rfl (y_load (i := 2) rfl rfl Ty.pl_3 (fun _ e => e ▸ hp) rfl rfl) ?_
    refine Ls_a (wtdT rfl rfl rfl) ?_
    refine a_call rfl rfl rfl rfl (nnode_ok p T _ (hp.picks [0, 1] (by decide)) hT mt) (fun v wz ⟨hv, hw⟩ => ?_)
    subst hv
    subst hw
    refine Ls_y (wtdT rfl rfl rfl) rfl rfl (y_not rfl rfl) ?_
    refine Ls_y (wtd0 rfl) rfl rfl (y_pick_f rfl rfl rfl) ?_
    refine Ls_y (wtd0 rfl) rfl rfl (y_move rfl rfl) ?_
    refine Ls_bool 17 rfl (fun hnt => ?_) (fun hnt => ?_)
    all_goals try simp only [decide_eq_true_eq, decide_eq_false_iff_not, beq_iff_eq, bne_iff_ne, ne_eq, beq_eq_false_iff_ne, bne_eq_false_iff_eq, Bool.not_eq_true, Bool.not_eq_false] at hnt
    · refine Ls_s (wtdF rfl rfl rfl) rfl rfl ?_
      refine Ls_s (wtdF rfl rfl rfl) rfl rfl ?_
      refine Ls_s (wtdF rfl rfl rfl) rfl rfl ?_
      refine Ls_s (wtdF rfl rfl rfl) rfl rfl ?_
      refine Ls_s (wtdF rfl rfl rfl) rfl rfl ?_
      refine Ls_y (wtd0 rfl) rfl rfl (y_pick_t rfl rfl rfl) ?_
      refine Ls_nil (Th_n (hK3 _ _ ?_))
      refine Wp_cond_t rfl ?_
      refine Wp_seq fun K5 hK5 => ?_
      refine Wp_region ?_
      refine Ls_y (wtd0 rfl) rfl rfl (y_assign rfl rfl) ?_
      refine Ls_nil (Th_n (hK5 _ _ ?_))
      refine Wp_ret (Th_r (Fq_ret (Res1 rfl rfl) ?_))
      have hb : badB T (MsgV.mk mf mt ms) = true := by simp [badB, hnf, hnt]
      exact ⟨by rw [sendE, if_pos hb], by rw [sendT, if_pos hb]; exact nt_same how (hp.picks [0, 1] (by decide)) hF⟩
    · refine Ls_y (wtdT rfl rfl rfl) rfl rfl (y_fld rfl rfl Ty.fo_51_0) ?_
      first
        | refine Ls_y (wtdT rfl rfl rfl) rfl rfl (y_load (i := 0) rfl rfl Ty.pl_3 (fun _ e => e ▸ hp) rfl rfl) ?_
        | refine Ls_y (wtdT rfl rfl rfl) rfl rfl (y_load (i := 1) rfl rfl Ty.pl_3 (fun _ e => e ▸ hp) rfl rfl) ?_
        | refine Ls_y (wtdT rfl rfl rfl) rfl rfl (y_load (i := 2) rfl rfl Ty.pl_3 (fun _ e => e ▸ hp) rfl rfl) ?_
      refine Ls_y (wtdT rfl rfl rfl) rfl rfl (y_fld rfl rfl Ty.fo_51_1) ?_
      first
        | refine Ls_y (wtdT rfl rfl rfl) rfl rfl (y_load (i := 0) rfl rfl Ty.pl_3 (fun _ e => e ▸ hp) rfl rfl) ?_
        | refine Ls_y (wtdT rfl rfl rfl) rfl rfl (y_load (i := 1) rfl rfl Ty.pl_3 (fun _ e => e ▸ hp) rfl rfl) ?_
        | refine Ls_y (wtdT rfl rfl rfl) rfl rfl (y_load (i := 2) rfl rfl Ty.pl_3 (fun _ e => e ▸ hp) rfl rfl) ?_
      refine Ls_y (wtdT rfl rfl rfl) rfl rfl (y_eq rfl rfl rfl) ?_
      refine Ls_bool 22 rfl (fun heq => ?_) (fun heq => ?_)
      all_goals try simp only [decide_eq_true_eq, decide_eq_false_iff_not, beq_iff_eq, bne_iff_ne, ne_eq, beq_eq_false_iff_ne, bne_eq_false_iff_eq, Bool.not_eq_true, Bool.not_eq_false] at heq
      · refine Ls_y (wtd0 rfl) rfl rfl (y_pick_f rfl rfl rfl) ?_
        refine Ls_nil (Th_n (hK3 _ _ ?_))
        refine Wp_cond_t rfl ?_
        refine Wp_seq fun K6 hK6 => ?_
        refine Wp_region ?_
        refine Ls_y (wtd0 rfl) rfl rfl (y_assign rfl rfl) ?_
        refine Ls_nil (Th_n (hK6 _ _ ?_))
        refine Wp_ret (Th_r (Fq_ret (Res1 rfl rfl) ?_))
        have hb : badB T (MsgV.mk mf mt ms) = true := by simp [badB, hnf, hnt, heq]
        exact ⟨by rw [sendE, if_pos hb], by rw [sendT, if_pos hb]; exact nt_same how (hp.picks [0, 1] (by decide)) hF⟩
      · have hnb : badB T (MsgV.mk mf mt ms) = false := by simp at hnf hnt; simp [badB, heq, hnf, hnt]
        refine Ls_y (wtd0 rfl) rfl rfl (y_pick_f rfl rfl rfl) ?_
        refine Ls_nil (Th_n (hK3 _ _ ?_))
        refine Wp_cond_f rfl ?_
        refine Wp_skip (Th_n (hK2 _ _ ?_))
        refine Wp_seq fun K7 hK7 => ?_
        refine Wp_seq fun K8 hK8 => ?_
        refine Wp_region ?_
        refine Ls_y (wtd0 rfl) rfl rfl (y_fld rfl rfl Ty.fo_51_2) ?_
        first
          | refine Ls_y (wtd0 rfl) rfl rfl (y_load (i := 0) rfl rfl Ty.pl_9 (fun _ e => e ▸ hp) rfl rfl) ?_
          | refine Ls_y (wtd0 rfl) rfl rfl (y_load (i := 1) rfl rfl Ty.pl_9 (fun _ e => e ▸ hp) rfl rfl) ?_
          | refine Ls_y (wtd0 rfl) rfl rfl (y_load (i := 2) rfl rfl Ty.pl_9 (fun _ e => e ▸ hp) rfl rfl) ?_
        refine Ls_y (wtd0 rfl) rfl rfl (y_lens rfl rfl Try.underlying9) ?_
        refine Ls_y (wtd0 rfl) rfl rfl (y_gt rfl rfl rfl) ?_
        refine Ls_bool 27 rfl (fun hlg => ?_) (fun hlg => ?_)
        all_goals try simp only [decide_eq_true_eq, decide_eq_false_iff_not, beq_iff_eq, bne_iff_ne, ne_eq, beq_eq_false_iff_ne, bne_eq_false_iff_eq, Bool.not_eq_true, Bool.not_eq_false] at hlg
        · refine Ls_nil (Th_n (hK8 _ _ ?_))
          refine Wp_cond_t rfl ?_
          refine Wp_seq fun K9 hK9 => ?_
          refine Wp_region ?_
          refine Ls_y (wtd0 rfl) rfl rfl (y_assign rfl rfl) ?_
          refine Ls_nil (Th_n (hK9 _ _ ?_))
          refine Wp_ret (Th_r (Fq_ret (Res1 rfl rfl) ?_))
          exact ⟨by rw [sendE, if_neg (by simp [hnb]), if_pos (by simp only; omega)], by rw [sendT, if_neg (by simp [hnb]), if_pos (by simp only; omega)]; exact nt_same how (hp.picks [0, 1] (by decide)) hF⟩
        · refine Ls_nil (Th_n (hK8 _ _ ?_))
          refine Wp_cond_f rfl ?_
          refine Wp_skip (Th_n (hK7 _ _ ?_))
          refine Wp_seq fun K10 hK10 => ?_
          refine Wp_seq fun K11 hK11 => ?_
          refine Wp_region ?_
          refine Ls_y (wtd0 rfl) rfl rfl (y_move rfl rfl) ?_
          refine Ls_y (wtd0 rfl) rfl rfl (y_fld rfl rfl Ty.fo_51_0) ?_
          first
            | refine Ls_y (wtd0 rfl) rfl rfl (y_load (i := 0) rfl rfl Ty.pl_3 (fun _ e => e ▸ hp) rfl rfl) ?_
            | refine Ls_y (wtd0 rfl) rfl rfl (y_load (i := 1) rfl rfl Ty.pl_3 (fun _ e => e ▸ hp) rfl rfl) ?_
            | refine Ls_y (wtd0 rfl) rfl rfl (y_load (i := 2) rfl rfl Ty.pl_3 (fun _ e => e ▸ hp) rfl rfl) ?_
          refine Ls_y (wtd0 rfl) rfl rfl (y_fld rfl rfl Ty.fo_51_1) ?_
          first
            | refine Ls_y (wtd0 rfl) rfl rfl (y_load (i := 0) rfl rfl Ty.pl_3 (fun _ e => e ▸ hp) rfl rfl) ?_
            | refine Ls_y (wtd0 rfl) rfl rfl (y_load (i := 1) rfl rfl Ty.pl_3 (fun _ e => e ▸ hp) rfl rfl) ?_
            | refine Ls_y (wtd0 rfl) rfl rfl (y_load (i := 2) rfl rfl Ty.pl_3 (fun _ e => e ▸ hp) rfl rfl) ?_
          refine Ls_a (wtd0 rfl) ?_
          refine a_call rfl rfl rfl rfl (napart_ok p T _ (hp.picks [0, 1] (by decide)) hT mf mt) (fun v wa ⟨hv, hf2⟩ => ?_)
          subst hv
          have hp := hp.keep0 hf2
          have hF := hF.step0 hf2
          refine Ls_nil (Th_n (hK11 _ _ ?_))
          refine Wp_cond rfl (fun hap => ?_) (fun hap => ?_)
          all_goals try simp only [decide_eq_true_eq, decide_eq_false_iff_not, beq_iff_eq, bne_iff_ne, ne_eq, beq_eq_false_iff_ne, bne_eq_false_iff_eq, Bool.not_eq_true] at hap
          · refine Wp_seq fun K12 hK12 => ?_
            refine Wp_region ?_
            refine Ls_y (wtd0 rfl) rfl rfl (y_move rfl rfl) ?_
            refine Ls_a (wtd0 rfl) ?_
            refine a_call rfl rfl rfl rfl (nlose_ok p T _ (hp.picks [0, 1] (by decide)) hT 9 hl) (fun v wl ⟨hv, hM⟩ => ?_)
            subst hv
            have hp : Hp wl [(_, Cl [_, _, _] _), _, _] := hp.call [2] [0, 1] (by decide) rfl hM
            have hF := hF.step hM.fr (fun y hy => Or.inl hy)
            refine Ls_y (wtd0 rfl) rfl rfl (y_assign rfl rfl) ?_
            refine Ls_nil (Th_n (hK12 _ _ ?_))
            refine Wp_ret (Th_r (Fq_ret (Res1 rfl rfl) ?_))
            exact ⟨by rw [sendE, if_neg (by simp [hnb]), if_neg (by simp only; omega), if_pos hap], by rw [sendT, if_neg (by simp [hnb]), if_neg (by simp only; omega), if_pos hap]; exact ⟨p.A, p.c, p.sp, how, hF, (hp.picks [1, 2] (by decide)), fun _ hk => .inl hk⟩⟩
          · refine Wp_skip (Th_n (hK10 _ _ ?_))
            refine Wp_seq fun K13 hK13 => ?_
            refine Wp_seq fun K14 hK14 => ?_
            refine Wp_region ?_
            refine Ls_y (wtd0 rfl) rfl rfl (y_move rfl rfl) ?_
            refine Ls_y (wtd0 rfl) rfl rfl (y_nil rfl rfl) ?_
            refine Ls_y (wtd0 rfl) rfl rfl (y_fld rfl rfl Ty.fo_115_2) ?_
            refine Ls_y (wtd0 rfl) rfl rfl (y_load (i := 0) rfl rfl Ty.pl_113 (fun _ e => e ▸ hp) rfl (nt_row hT _ _)) ?_
            refine Ls_y (wtd0 rfl) rfl rfl (y_lenl rfl rfl Try.underlying113) ?_
            refine Ls_y (wtd0 rfl) rfl rfl (y_ge rfl rfl rfl) ?_
            refine Ls_bool 41 rfl (fun hfu => ?_) (fun hfu => ?_)
            all_goals try simp only [decide_eq_true_eq, decide_eq_false_iff_not, beq_iff_eq, bne_iff_ne, ne_eq, beq_eq_false_iff_ne, bne_eq_false_iff_eq, Bool.not_eq_true, Bool.not_eq_false] at hfu
            · refine Ls_nil (Th_n (hK14 _ _ ?_))
              refine Wp_cond_t rfl ?_
              refine Wp_seq fun K15 hK15 => ?_
              refine Wp_region ?_
              refine Ls_y (wtd0 rfl) rfl rfl (y_move rfl rfl) ?_
              refine Ls_a (wtd0 rfl) ?_
              refine a_call rfl rfl rfl rfl (nlose_ok p T _ (hp.picks [0, 1] (by decide)) hT 4 hl) (fun v wl ⟨hv, hM⟩ => ?_)
              subst hv
              have hp : Hp wl [(_, Cl [_, _, _] _), _, _] := hp.call [2] [0, 1] (by decide) rfl hM
              have hF := hF.step hM.fr (fun y hy => Or.inl hy)
              refine Ls_y (wtd0 rfl) rfl rfl (y_assign rfl rfl) ?_
              refine Ls_nil (Th_n (hK15 _ _ ?_))
              refine Wp_ret (Th_r (Fq_ret (Res1 rfl rfl) ?_))
              exact ⟨by rw [sendE, if_neg (by simp [hnb]), if_neg (by simp only; omega), if_neg (by simp [hap]), if_pos (by omega)], by rw [sendT, if_neg (by simp [hnb]), if_neg (by simp only; omega), if_neg (by simp [hap]), if_pos (by omega)]; exact ⟨p.A, p.c, p.sp, how, hF, (hp.picks [1, 2] (by decide)), fun _ hk => .inl hk⟩⟩
            · refine Ls_nil (Th_n (hK14 _ _ ?_))
              refine Wp_cond_f rfl ?_
              refine Wp_skip (Th_n (hK13 _ _ ?_))
              refine Wp_seq fun K16 hK16 => ?_
              refine Wp_planF (fun W => Hp W (pickL (heapOf hp) [0, 2])) [(true, 0), (true, 1), (true, 2), (true, 3), (true, 4), (true, 5), (false, 6), (false, 7), (true, 8), (true, 9)] 10 Ty.mx_0 (by kernel_rfl) (by kernel_rfl) (by kernel_rfl) rfl ((hp.picks [0, 2] (by decide)).drew) ?_
              have hp := hp.drew
              have hF := hF.step0 (Fr.drew _)
              refine Pl_y rfl (wtd0 rfl) rfl rfl (y_move rfl rfl) ?_
              refine Pl_y rfl (wtd0 rfl) rfl rfl (y_move rfl rfl) ?_
              refine Pl_y rfl (wtd0 rfl) rfl rfl (y_nil rfl rfl) ?_
              refine Pl_y rfl (wtd0 rfl) rfl rfl (y_fld rfl rfl Ty.fo_115_2) ?_
              refine Pl_y rfl (wtd0 rfl) rfl rfl (y_load (i := 0) rfl rfl Ty.pl_113 (fun _ h => h) rfl (nt_row hT _ _)) ?_
              first
                | refine Pl_y rfl (wtd0 rfl) rfl rfl (y_loadw (i := 0) rfl rfl Ty.ag_51 (fun _ h => h) rfl rfl) ?_
                | refine Pl_y rfl (wtd0 rfl) rfl rfl (y_loadw (i := 1) rfl rfl Ty.ag_51 (fun _ h => h) rfl rfl) ?_
              refine Pl_a rfl (wtd0 rfl) (by rfl) ?_
              refine a_bsls (us := [.int .i64 mf, .int .i64 mt, sv ms]) rfl rfl rfl rfl Ty.es_113 Ty.zc_51 rfl (by decide) hp (fun gb wb (hp : Hp wb [_, _, _, (_, Cl [_, _, _] _)]) hf hgb => ?_)
              have hgb := Nat.le_trans hF.size hgb
              have hF := hF.step0 hf
              refine ⟨hp.picks [0, 2] (by decide), ?_⟩
              refine Pl_a rfl (wtd0 rfl) (by rfl) ?_
              refine a_append (i := 1) rfl rfl rfl rfl rfl rfl Ty.es_113 Ty.zc_51 rfl Ty.by_51 (by decide) how hp rfl rfl (src_of (range_all (i := 3) hp rfl)) (by simp) (by simp [Value.oneCell']) (by unfold maxLen; omega) (by omega) (fun A' c' sp' wc how' (hp : Hp wc [_, _, (_, Cl [_, _, _] _), _]) hf hnw => ?_)
              have hsz := hF.size
              have hF := hF.step hf (fun y hy => Or.inl (blk_keys y hy))
              refine ⟨hp.picks [0, 2] (by decide), ?_⟩
              refine Pl_y rfl (wtd0 rfl) rfl rfl (y_nil rfl rfl) ?_
              refine Pl_y rfl (wtd0 rfl) rfl rfl (y_fld rfl rfl Ty.fo_115_2) ?_
              refine Pl_nil (Fin_a rfl (wtd0 rfl) ?_)
              refine a_store (i := 0) rfl rfl rfl rfl rfl Ty.sz_113 rfl hp rfl (by have := colC_len hT; simp [ntC]; omega) (fun w9 (hp : Hp w9 [_, _, (_, Cl [_, _, _] _), _]) hf _ => ?_)
              have hF := hF.step hf (fun y hy => Or.inl (by simp at hy; subst hy; exact g_keys))
              refine id (Th_n (hK16 _ _ ?_))
              have erow : rowC T.row ++ [.int .i64 mf, .int .i64 mt, sv ms] = rowC (T.row ++ [(MsgV.mk mf mt ms)]) := by rw [rowC_app]; rfl
              have hlr : T.row.length + 1 = (T.row ++ [(MsgV.mk mf mt ms)]).length := by simp
              rw [erow, hlr] at how'
              have hp : Hp w9 [_, _, (_, Cl [_, _, _] _), _] := hp.conv (i := 1) rfl (congrArg (· ++ sp') erow)
              have hp : Hp w9 [_, _, (_, Cl [_, _, _] _), _] := hp.conv (i := 0) rfl ((congrArg (fun q => (ntC p.A p.c T).set (0 + 33) (.slice A' q c')) hlr).trans (nt_set_row hT p.A A' p.c c' (T.row ++ [(MsgV.mk mf mt ms)])))
              refine Wp_seq fun K17 hK17 => ?_
              refine Wp_region ?_
              refine Ls_y (wtd0 rfl) rfl rfl (y_assign rfl rfl) ?_
              refine Ls_nil (Th_n (hK17 _ _ ?_))
              refine Wp_ret (Fq_ret (Res1 rfl rfl) ?_)
              have fm : sendT T (MsgV.mk mf mt ms) = { T with row := T.row ++ [(MsgV.mk mf mt ms)] } := by rw [sendT, if_neg (by simp [hnb]), if_neg (by simp only; omega), if_neg (by simp [hap]), if_neg (by omega)]
              refine ⟨by rw [sendE, if_neg (by simp [hnb]), if_neg (by simp only; omega), if_neg (by simp [hap]), if_neg (by omega)], ?_⟩
              rw [fm]
              exact nt_post how' (hp.picks [0, 1] (by decide)) hF (fun g hg => (hnw g hg).imp id (Nat.le_trans hsz))

end Go.Proofs.Ytikdpkhcegjmfaa

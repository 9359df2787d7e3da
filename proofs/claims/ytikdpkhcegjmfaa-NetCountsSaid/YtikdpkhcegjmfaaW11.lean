/- Walks printed by gen.py out of our own specifications: what the functions named below do. -/
import Derived.Test.YtikdpkhcegjmfaaTorn
set_option linter.unusedSimpArgs false
set_option linter.unusedVariables false
namespace Go.Proofs.Ytikdpkhcegjmfaa
open Go.RowKit

set_option maxRecDepth 20000 in
set_option maxHeartbeats 4000000 in
theorem sectorTorn_ok (ga qa fa gb qb fb : Int) (da db : List UInt8) (ov : Bool) (kp : Int) (w : World) (hga0 : 0 ≤ ga) (hga : ga < 65536) (hqa0 : 0 ≤ qa) (hqa : qa < 4294967296) (hfa0 : 0 ≤ fa) (hfa : fa < 256) (hgb0 : 0 ≤ gb) (hgb : gb < 65536) (hqb0 : 0 ≤ qb) (hqb : qb < 4294967296) (hfb0 : 0 ≤ fb) (hfb : fb < 256) :
    Fn Try.prog 7 [.agg #[.int .u16 ga, .int .u32 qa, .int .u8 fa, sv da], .agg #[.int .u16 gb, .int .u32 qb, .int .u8 fb, sv db], .bool ov, .int .i64 kp] w fun v w' => v = .bool true ∧ Fr [] w w' := by
  refine Fn_of 128 Ty.en_7 Try.func7 rfl rfl rfl ?_
  dsimp only [argEnv]
  have hp := Hp.nil w
  have hF := Fr.refl [] w
  refine Wp_seq fun K1 hK1 => ?_
  refine Wp_region ?_
  refine Ls_a (wtd0 rfl) ?_
  refine a_box rfl rfl rfl rfl hp (fun g1 w1 (hp : Hp w1 [(_, Cl [_, _, _, _] _)]) hf hg1 => ?_)
  have hg1 := Nat.le_trans hF.size hg1
  have hF := hF.step0 hf
  refine Ls_a (wtd0 rfl) ?_
  refine a_box rfl rfl rfl rfl hp (fun g2 w2 (hp : Hp w2 [(_, Cl [_, _, _, _] _), (_, Cl [_, _, _, _] _)]) hf hg2 => ?_)
  have hg2 := Nat.le_trans hF.size hg2
  have hF := hF.step0 hf
  refine Ls_y (wtd0 rfl) rfl rfl (y_assign rfl rfl) ?_
  refine Ls_nil (Th_n (hK1 _ _ ?_))
  refine Wp_seq fun K2 hK2 => ?_
  refine Wp_seq fun K3 hK3 => ?_
  refine Wp_region ?_
  refine Ls_a (wtd0 rfl) ?_
  refine a_call rfl rfl rfl rfl (works17_ok _) (fun v w0 ⟨hv, hf⟩ => ?_)
  subst hv
  have hp := hp.keep0 hf
  have hF := hF.step0 hf
  refine Ls_y (wtd0 rfl) rfl rfl (y_not rfl rfl) ?_
  refine Ls_nil (Th_n (hK3 _ _ ?_))
  refine Wp_cond_f rfl ?_
  refine Wp_skip (Th_n (hK2 _ _ ?_))
  refine Wp_seq fun K4 hK4 => ?_
  refine Wp_seq fun K5 hK5 => ?_
  refine Wp_region ?_
  refine Ls_y (wtd0 rfl) rfl rfl (y_fld rfl rfl Ty.fo_25_3) ?_
  first
    | refine Ls_y (wtd0 rfl) rfl rfl (y_load (i := 0) rfl rfl Ty.pl_9 (fun _ e => e ▸ hp) rfl rfl) ?_
    | refine Ls_y (wtd0 rfl) rfl rfl (y_load (i := 1) rfl rfl Ty.pl_9 (fun _ e => e ▸ hp) rfl rfl) ?_
  refine Ls_y (wtd0 rfl) rfl rfl (y_lens rfl rfl Try.underlying9) ?_
  refine Ls_y (wtd0 rfl) rfl rfl (y_gt rfl rfl rfl) ?_
  refine Ls_bool 24 rfl (fun hc1 => ?_) (fun hc1 => ?_)
  all_goals try simp only [decide_eq_true_eq, decide_eq_false_iff_not, beq_iff_eq, bne_iff_ne, ne_eq, beq_eq_false_iff_ne, bne_eq_false_iff_eq, Bool.not_eq_true, Bool.not_eq_false] at hc1
  · refine Ls_y (wtd0 rfl) rfl rfl (y_move rfl rfl) ?_
    refine Ls_s (wtdF rfl rfl rfl) rfl rfl ?_
    refine Ls_s (wtdF rfl rfl rfl) rfl rfl ?_
    refine Ls_s (wtdF rfl rfl rfl) rfl rfl ?_
    refine Ls_s (wtdF rfl rfl rfl) rfl rfl ?_
    refine Ls_y (wtd0 rfl) rfl rfl (y_pick_t rfl rfl rfl) ?_
    refine Ls_y (wtd0 rfl) rfl rfl (y_move rfl rfl) ?_
    refine Ls_s (wtdF rfl rfl rfl) rfl rfl ?_
    refine Ls_s (wtdF rfl rfl rfl) rfl rfl ?_
    refine Ls_s (wtdF rfl rfl rfl) rfl rfl ?_
    refine Ls_s (wtdF rfl rfl rfl) rfl rfl ?_
    refine Ls_s (wtdF rfl rfl rfl) rfl rfl ?_
    refine Ls_s (wtdF rfl rfl rfl) rfl rfl ?_
    refine Ls_s (wtdU rfl rfl rfl) rfl rfl ?_
    refine Ls_s (wtdU rfl rfl rfl) rfl rfl ?_
    refine Ls_s (wtdU rfl rfl rfl) rfl rfl ?_
    refine Ls_s (wtdU rfl rfl rfl) rfl rfl ?_
    refine Ls_s (wtdU rfl rfl rfl) rfl rfl ?_
    refine Ls_s (wtdF rfl rfl rfl) rfl rfl ?_
    refine Ls_y (wtd0 rfl) rfl rfl (y_pick_t rfl rfl rfl) ?_
    refine Ls_nil (Th_n (hK5 _ _ ?_))
    refine Wp_cond_t rfl ?_
    refine Wp_seq fun K6 hK6 => ?_
    refine Wp_region ?_
    refine Ls_y (wtd0 rfl) rfl rfl (y_assign rfl rfl) ?_
    refine Ls_nil (Th_n (hK6 _ _ ?_))
    refine Wp_ret (Th_r (Fq_ret (Res1 rfl rfl) ?_))
    exact ⟨rfl, hF⟩
  · refine Ls_y (wtd0 rfl) rfl rfl (y_move rfl rfl) ?_
    refine Ls_y (wtdT rfl rfl rfl) rfl rfl (y_fld rfl rfl Ty.fo_25_3) ?_
    first
      | refine Ls_y (wtdT rfl rfl rfl) rfl rfl (y_load (i := 0) rfl rfl Ty.pl_9 (fun _ e => e ▸ hp) rfl rfl) ?_
      | refine Ls_y (wtdT rfl rfl rfl) rfl rfl (y_load (i := 1) rfl rfl Ty.pl_9 (fun _ e => e ▸ hp) rfl rfl) ?_
    refine Ls_y (wtdT rfl rfl rfl) rfl rfl (y_lens rfl rfl Try.underlying9) ?_
    refine Ls_y (wtdT rfl rfl rfl) rfl rfl (y_gt rfl rfl rfl) ?_
    refine Ls_bool 29 rfl (fun hc2 => ?_) (fun hc2 => ?_)
    all_goals try simp only [decide_eq_true_eq, decide_eq_false_iff_not, beq_iff_eq, bne_iff_ne, ne_eq, beq_eq_false_iff_ne, bne_eq_false_iff_eq, Bool.not_eq_true, Bool.not_eq_false] at hc2
    · refine Ls_y (wtd0 rfl) rfl rfl (y_pick_f rfl rfl rfl) ?_
      refine Ls_y (wtd0 rfl) rfl rfl (y_move rfl rfl) ?_
      refine Ls_s (wtdF rfl rfl rfl) rfl rfl ?_
      refine Ls_s (wtdF rfl rfl rfl) rfl rfl ?_
      refine Ls_s (wtdF rfl rfl rfl) rfl rfl ?_
      refine Ls_s (wtdF rfl rfl rfl) rfl rfl ?_
      refine Ls_s (wtdF rfl rfl rfl) rfl rfl ?_
      refine Ls_s (wtdF rfl rfl rfl) rfl rfl ?_
      refine Ls_s (wtdU rfl rfl rfl) rfl rfl ?_
      refine Ls_s (wtdU rfl rfl rfl) rfl rfl ?_
      refine Ls_s (wtdU rfl rfl rfl) rfl rfl ?_
      refine Ls_s (wtdU rfl rfl rfl) rfl rfl ?_
      refine Ls_s (wtdU rfl rfl rfl) rfl rfl ?_
      refine Ls_s (wtdF rfl rfl rfl) rfl rfl ?_
      refine Ls_y (wtd0 rfl) rfl rfl (y_pick_t rfl rfl rfl) ?_
      refine Ls_nil (Th_n (hK5 _ _ ?_))
      refine Wp_cond_t rfl ?_
      refine Wp_seq fun K7 hK7 => ?_
      refine Wp_region ?_
      refine Ls_y (wtd0 rfl) rfl rfl (y_assign rfl rfl) ?_
      refine Ls_nil (Th_n (hK7 _ _ ?_))
      refine Wp_ret (Th_r (Fq_ret (Res1 rfl rfl) ?_))
      exact ⟨rfl, hF⟩
    · refine Ls_y (wtd0 rfl) rfl rfl (y_pick_f rfl rfl rfl) ?_
      refine Ls_y (wtd0 rfl) rfl rfl (y_move rfl rfl) ?_
      refine Ls_y (wtdT rfl rfl rfl) rfl rfl (y_fld rfl rfl Ty.fo_25_0) ?_
      first
        | refine Ls_y (wtdT rfl rfl rfl) rfl rfl (y_load (i := 0) rfl rfl Ty.pl_22 (fun _ e => e ▸ hp) rfl rfl) ?_
        | refine Ls_y (wtdT rfl rfl rfl) rfl rfl (y_load (i := 1) rfl rfl Ty.pl_22 (fun _ e => e ▸ hp) rfl rfl) ?_
      refine Ls_y (wtdT rfl rfl rfl) rfl rfl (y_fld rfl rfl Ty.fo_25_0) ?_
      first
        | refine Ls_y (wtdT rfl rfl rfl) rfl rfl (y_load (i := 0) rfl rfl Ty.pl_22 (fun _ e => e ▸ hp) rfl rfl) ?_
        | refine Ls_y (wtdT rfl rfl rfl) rfl rfl (y_load (i := 1) rfl rfl Ty.pl_22 (fun _ e => e ▸ hp) rfl rfl) ?_
      refine Ls_y (wtdT rfl rfl rfl) rfl rfl (y_eq rfl rfl rfl) ?_
      refine Ls_bool 36 rfl (fun hge => ?_) (fun hge => ?_)
      all_goals try simp only [decide_eq_true_eq, decide_eq_false_iff_not, beq_iff_eq, bne_iff_ne, ne_eq, beq_eq_false_iff_ne, bne_eq_false_iff_eq, Bool.not_eq_true, Bool.not_eq_false] at hge
      · refine Ls_y (wtdT rfl rfl rfl) rfl rfl (y_move rfl rfl) ?_
        refine Ls_y (wtdT rfl rfl rfl) rfl rfl (y_fld rfl rfl Ty.fo_25_1) ?_
        first
          | refine Ls_y (wtdT rfl rfl rfl) rfl rfl (y_load (i := 0) rfl rfl Ty.pl_23 (fun _ e => e ▸ hp) rfl rfl) ?_
          | refine Ls_y (wtdT rfl rfl rfl) rfl rfl (y_load (i := 1) rfl rfl Ty.pl_23 (fun _ e => e ▸ hp) rfl rfl) ?_
        refine Ls_y (wtdT rfl rfl rfl) rfl rfl (y_fld rfl rfl Ty.fo_25_1) ?_
        first
          | refine Ls_y (wtdT rfl rfl rfl) rfl rfl (y_load (i := 0) rfl rfl Ty.pl_23 (fun _ e => e ▸ hp) rfl rfl) ?_
          | refine Ls_y (wtdT rfl rfl rfl) rfl rfl (y_load (i := 1) rfl rfl Ty.pl_23 (fun _ e => e ▸ hp) rfl rfl) ?_
        refine Ls_y (wtdT rfl rfl rfl) rfl rfl (y_eq rfl rfl rfl) ?_
        refine Ls_bool 42 rfl (fun hqe => ?_) (fun hqe => ?_)
        all_goals try simp only [decide_eq_true_eq, decide_eq_false_iff_not, beq_iff_eq, bne_iff_ne, ne_eq, beq_eq_false_iff_ne, bne_eq_false_iff_eq, Bool.not_eq_true, Bool.not_eq_false] at hqe
        · refine Ls_y (wtdT rfl rfl rfl) rfl rfl (y_pick_t rfl rfl rfl) ?_
          refine Ls_y (wtd0 rfl) rfl rfl (y_pick_f rfl rfl rfl) ?_
          refine Ls_nil (Th_n (hK5 _ _ ?_))
          refine Wp_cond_t rfl ?_
          refine Wp_seq fun K8 hK8 => ?_
          refine Wp_region ?_
          refine Ls_y (wtd0 rfl) rfl rfl (y_assign rfl rfl) ?_
          refine Ls_nil (Th_n (hK8 _ _ ?_))
          refine Wp_ret (Th_r (Fq_ret (Res1 rfl rfl) ?_))
          exact ⟨rfl, hF⟩
        · have hne : ¬ (ga = gb ∧ qa = qb) := fun e => hqe e.2
          refine Ls_y (wtdT rfl rfl rfl) rfl rfl (y_pick_t rfl rfl rfl) ?_
          refine Ls_y (wtd0 rfl) rfl rfl (y_pick_f rfl rfl rfl) ?_
          refine Ls_nil (Th_n (hK5 _ _ ?_))
          refine Wp_cond_f rfl ?_
          refine Wp_skip (Th_n (hK4 _ _ ?_))
          refine Wp_seq fun K9 hK9 => ?_
          refine Wp_region ?_
          refine Ls_a (wtd0 rfl) ?_
          refine a_call rfl rfl rfl rfl (dnew_ok 1 _ (by decide) (by decide)) (fun v wa ⟨p, hv, hN, _⟩ => ?_)
          subst hv
          have hp : Hp wa [(_, Cl [_, _, _, _] _), (_, Cl [_, _, _, _] _), (_, Cl [_, _, _, _, _] _), _, _] := hp.add hN
          have hdk : ∀ y ∈ [p.gd, p.gn, p.gl], w.heap.size ≤ y := fun y hy => Nat.le_trans hF.size (hN.nw y hy)
          have hF := hF.step0 hN.fr
          refine Ls_y (wtd0 rfl) rfl rfl (y_move rfl rfl) ?_
          refine Ls_y (wtd0 rfl) rfl rfl (y_ext rfl rfl rfl) ?_
          refine Ls_y (wtd0 rfl) rfl rfl (y_ext rfl rfl rfl) ?_
          refine Ls_y (wtd0 rfl) rfl rfl (y_assign rfl rfl) ?_
          refine Ls_y (wtd0 rfl) rfl rfl (y_assign rfl rfl) ?_
          refine Ls_nil (Th_n (hK9 _ _ ?_))
          refine Wp_seq fun K10 hK10 => ?_
          refine Wp_region ?_
          first
            | refine Ls_y (wtd0 rfl) rfl rfl (y_loadw (i := 0) rfl rfl Ty.ag_25 (fun _ e => e ▸ hp) rfl rfl) ?_
            | refine Ls_y (wtd0 rfl) rfl rfl (y_loadw (i := 1) rfl rfl Ty.ag_25 (fun _ e => e ▸ hp) rfl rfl) ?_
            | refine Ls_y (wtd0 rfl) rfl rfl (y_loadw (i := 2) rfl rfl Ty.ag_25 (fun _ e => e ▸ hp) rfl rfl) ?_
            | refine Ls_y (wtd0 rfl) rfl rfl (y_loadw (i := 3) rfl rfl Ty.ag_25 (fun _ e => e ▸ hp) rfl rfl) ?_
            | refine Ls_y (wtd0 rfl) rfl rfl (y_loadw (i := 4) rfl rfl Ty.ag_25 (fun _ e => e ▸ hp) rfl rfl) ?_
          refine Ls_a (wtd0 rfl) ?_
          refine a_call rfl rfl rfl rfl (to_ok ga qa fa da _) (fun v wb ⟨hv, hf⟩ => ?_)
          subst hv
          have hp := hp.keep0 hf
          have hF := hF.step0 hf
          refine Ls_a (wtd0 rfl) ?_
          refine a_call rfl rfl rfl rfl (pack_ok ga qa fa da _ hga0 hga hqa0 hqa hfa0 hfa) (fun v wc ⟨hv, hf⟩ => ?_)
          subst hv
          have hp := hp.keep0 hf
          have hF := hF.step0 hf
          refine Ls_y (wtd0 rfl) rfl rfl (y_move rfl rfl) ?_
          refine Ls_y (wtd0 rfl) rfl rfl (y_ext rfl rfl rfl) ?_
          refine Ls_y (wtd0 rfl) rfl rfl (y_ext rfl rfl rfl) ?_
          refine Ls_y (wtd0 rfl) rfl rfl (y_assign rfl rfl) ?_
          refine Ls_y (wtd0 rfl) rfl rfl (y_assign rfl rfl) ?_
          refine Ls_nil (Th_n (hK10 _ _ ?_))
          refine Wp_seq fun K11 hK11 => ?_
          refine Wp_region ?_
          first
            | refine Ls_y (wtd0 rfl) rfl rfl (y_loadw (i := 0) rfl rfl Ty.ag_25 (fun _ e => e ▸ hp) rfl rfl) ?_
            | refine Ls_y (wtd0 rfl) rfl rfl (y_loadw (i := 1) rfl rfl Ty.ag_25 (fun _ e => e ▸ hp) rfl rfl) ?_
            | refine Ls_y (wtd0 rfl) rfl rfl (y_loadw (i := 2) rfl rfl Ty.ag_25 (fun _ e => e ▸ hp) rfl rfl) ?_
            | refine Ls_y (wtd0 rfl) rfl rfl (y_loadw (i := 3) rfl rfl Ty.ag_25 (fun _ e => e ▸ hp) rfl rfl) ?_
            | refine Ls_y (wtd0 rfl) rfl rfl (y_loadw (i := 4) rfl rfl Ty.ag_25 (fun _ e => e ▸ hp) rfl rfl) ?_
          refine Ls_a (wtd0 rfl) ?_
          refine a_call rfl rfl rfl rfl (to_ok gb qb fb db _) (fun v wd ⟨hv, hf⟩ => ?_)
          subst hv
          have hp := hp.keep0 hf
          have hF := hF.step0 hf
          refine Ls_a (wtd0 rfl) ?_
          refine a_call rfl rfl rfl rfl (pack_ok gb qb fb db _ hgb0 hgb hqb0 hqb hfb0 hfb) (fun v we ⟨hv, hf⟩ => ?_)
          subst hv
          have hp := hp.keep0 hf
          have hF := hF.step0 hf
          refine Ls_y (wtd0 rfl) rfl rfl (y_move rfl rfl) ?_
          refine Ls_y (wtd0 rfl) rfl rfl (y_ext rfl rfl rfl) ?_
          refine Ls_y (wtd0 rfl) rfl rfl (y_ext rfl rfl rfl) ?_
          refine Ls_y (wtd0 rfl) rfl rfl (y_assign rfl rfl) ?_
          refine Ls_y (wtd0 rfl) rfl rfl (y_assign rfl rfl) ?_
          refine Ls_nil (Th_n (hK11 _ _ ?_))
          refine Wp_seq fun K12 hK12 => ?_
          refine Wp_seq fun K13 hK13 => ?_
          refine Wp_region ?_
          refine Ls_y (wtd0 rfl) rfl rfl (y_move rfl rfl) ?_
          refine Ls_y (wtd0 rfl) rfl rfl (y_ne rfl rfl rfl) ?_
          refine Ls_bool 62 rfl (fun hea => ?_) (fun hea => ?_)
          all_goals try simp only [decide_eq_true_eq, decide_eq_false_iff_not, beq_iff_eq, bne_iff_ne, ne_eq, beq_eq_false_iff_ne, bne_eq_false_iff_eq, Bool.not_eq_true, Bool.not_eq_false] at hea
          · refine Ls_y (wtd0 rfl) rfl rfl (y_move rfl rfl) ?_
            refine Ls_s (wtdF rfl rfl rfl) rfl rfl ?_
            refine Ls_s (wtdF rfl rfl rfl) rfl rfl ?_
            refine Ls_y (wtd0 rfl) rfl rfl (y_pick_t rfl rfl rfl) ?_
            refine Ls_nil (Th_n (hK13 _ _ ?_))
            refine Wp_cond_t rfl ?_
            refine Wp_seq fun K14 hK14 => ?_
            refine Wp_region ?_
            refine Ls_y (wtd0 rfl) rfl rfl (y_assign rfl rfl) ?_
            refine Ls_nil (Th_n (hK14 _ _ ?_))
            refine Wp_ret (Th_r (Fq_ret (Res1 rfl rfl) ?_))
            exact ⟨rfl, hF⟩
          · refine Ls_y (wtd0 rfl) rfl rfl (y_move rfl rfl) ?_
            refine Ls_y (wtdT rfl rfl rfl) rfl rfl (y_move rfl rfl) ?_
            refine Ls_y (wtdT rfl rfl rfl) rfl rfl (y_ne rfl rfl rfl) ?_
            refine Ls_bool 65 rfl (fun heb => ?_) (fun heb => ?_)
            all_goals try simp only [decide_eq_true_eq, decide_eq_false_iff_not, beq_iff_eq, bne_iff_ne, ne_eq, beq_eq_false_iff_ne, bne_eq_false_iff_eq, Bool.not_eq_true, Bool.not_eq_false] at heb
            · refine Ls_y (wtd0 rfl) rfl rfl (y_pick_f rfl rfl rfl) ?_
              refine Ls_nil (Th_n (hK13 _ _ ?_))
              refine Wp_cond_t rfl ?_
              refine Wp_seq fun K15 hK15 => ?_
              refine Wp_region ?_
              refine Ls_y (wtd0 rfl) rfl rfl (y_assign rfl rfl) ?_
              refine Ls_nil (Th_n (hK15 _ _ ?_))
              refine Wp_ret (Th_r (Fq_ret (Res1 rfl rfl) ?_))
              exact ⟨rfl, hF⟩
            · have hsa := (packS_form (g := ga) (f := fa) (packE_zero hea).1 (packE_zero hea).2).1
              have hsb := (packS_form (g := gb) (f := fb) (packE_zero heb).1 (packE_zero heb).2).1
              have hz64 := zero64_form.1
              refine Ls_y (wtd0 rfl) rfl rfl (y_pick_f rfl rfl rfl) ?_
              refine Ls_nil (Th_n (hK13 _ _ ?_))
              refine Wp_cond_f rfl ?_
              refine Wp_skip (Th_n (hK12 _ _ ?_))
              refine Wp_seq fun K16 hK16 => ?_
              refine Wp_seq fun K17 hK17 => ?_
              refine Wp_region ?_
              refine Ls_y (wtd0 rfl) rfl rfl (y_move rfl rfl) ?_
              refine Ls_y (wtd0 rfl) rfl rfl (y_move rfl rfl) ?_
              refine Ls_bool 68 rfl (fun hov => ?_) (fun hov => ?_)
              all_goals try simp only [decide_eq_true_eq, decide_eq_false_iff_not, beq_iff_eq, bne_iff_ne, ne_eq, beq_eq_false_iff_ne, bne_eq_false_iff_eq, Bool.not_eq_true, Bool.not_eq_false] at hov
              · subst hov
                refine Ls_y (wtdT rfl rfl rfl) rfl rfl (y_move rfl rfl) ?_
                refine Ls_y (wtdT rfl rfl rfl) rfl rfl (y_move rfl rfl) ?_
                refine Ls_a (wtdT rfl rfl rfl) ?_
                refine a_call rfl rfl rfl rfl (dwrite_m p (one (zero64) (zero64)) _ (hp.picks [2, 3, 4] (by decide)) (one_ok hz64 hz64) 0 (packS ga qa fa da)) (fun v wf ⟨hv, hM⟩ => ?_)
                rw [(write_one hsa).1] at hv
                rw [(write_one hsa).2] at hM
                subst hv
                have hp : Hp wf [(_, Cl [_, _, _, _] _), (_, Cl [_, _, _, _] _), (_, Cl [_, _, _, _, _] _), _, _] := hp.call [0, 1] [2, 3, 4] (by decide) rfl hM
                have hF := hF.step hM.fr (fun y hy => Or.inr (hdk y hy))
                refine Ls_y (wtdT rfl rfl rfl) rfl rfl (y_neF rfl rfl rfl (by omega)) ?_
                refine Ls_y (wtdT rfl rfl rfl) rfl rfl (y_move rfl rfl) ?_
                refine Ls_y (wtdT rfl rfl rfl) rfl rfl (y_move rfl rfl) ?_
                refine Ls_a (wtdT rfl rfl rfl) ?_
                refine a_call rfl rfl rfl rfl (dsync_m p (one (packS ga qa fa da) (zero64)) _ (hp.picks [2, 3, 4] (by decide)) (one_ok hsa hz64)) (fun v wg0 ⟨hv, hM⟩ => ?_)
                rw [sync_one.1] at hv
                rw [sync_one.2] at hM
                subst hv
                have hp : Hp wg0 [(_, Cl [_, _, _, _] _), (_, Cl [_, _, _, _] _), (_, Cl [_, _, _, _, _] _), _, _] := hp.call [0, 1] [2, 3, 4] (by decide) rfl hM
                have hF := hF.step hM.fr (fun y hy => Or.inr (hdk y hy))
                refine Ls_y (wtdT rfl rfl rfl) rfl rfl (y_neF rfl rfl rfl (by omega)) ?_
                refine Ls_y (wtdT rfl rfl rfl) rfl rfl (y_pick_f rfl rfl rfl) ?_
                refine Ls_y (wtd0 rfl) rfl rfl (y_pick_t rfl rfl rfl) ?_
                refine Ls_y (wtd0 rfl) rfl rfl (y_move rfl rfl) ?_
                refine Ls_y (wtdT rfl rfl rfl) rfl rfl (y_move rfl rfl) ?_
                refine Ls_y (wtdT rfl rfl rfl) rfl rfl (y_move rfl rfl) ?_
                refine Ls_a (wtdT rfl rfl rfl) ?_
                refine a_call rfl rfl rfl rfl (dwrite_m p (one (packS ga qa fa da) (packS ga qa fa da)) _ (hp.picks [2, 3, 4] (by decide)) (one_ok hsa hsa) 0 (packS gb qb fb db)) (fun v wg1 ⟨hv, hM⟩ => ?_)
                rw [(write_one hsb).1] at hv
                rw [(write_one hsb).2] at hM
                subst hv
                have hp : Hp wg1 [(_, Cl [_, _, _, _] _), (_, Cl [_, _, _, _] _), (_, Cl [_, _, _, _, _] _), _, _] := hp.call [0, 1] [2, 3, 4] (by decide) rfl hM
                have hF := hF.step hM.fr (fun y hy => Or.inr (hdk y hy))
                refine Ls_y (wtdT rfl rfl rfl) rfl rfl (y_neF rfl rfl rfl (by omega)) ?_
                obtain ⟨n, hn, hmend⟩ := mend_one (packS gb qb fb db) (packS ga qa fa da) kp
                · refine Ls_y (wtd0 rfl) rfl rfl (y_pick_f rfl rfl rfl) ?_
                  refine Ls_nil (Th_n (hK17 _ _ ?_))
                  refine Wp_cond_f rfl ?_
                  refine Wp_skip (Th_n (hK16 _ _ ?_))
                  refine Wp_seq fun K18 hK18 => ?_
                  refine Wp_region ?_
                  refine Ls_y (wtd0 rfl) rfl rfl (y_move rfl rfl) ?_
                  refine Ls_y (wtd0 rfl) rfl rfl (y_move rfl rfl) ?_
                  refine Ls_a (wtd0 rfl) ?_
                  refine a_bsl rfl rfl rfl rfl rfl Ty.es_73 Ty.zc_3 rfl (by decide) (by simp [Value.cells]) hp (fun gk wg (hp : Hp wg [(_, Cl [_, _, _, _] _), (_, Cl [_, _, _, _] _), (_, Cl [_, _, _, _, _] _), _, _, (_, Cl [_] _)]) hf hgk => ?_)
                  have hgk := Nat.le_trans hF.size hgk
                  have hF := hF.step0 hf
                  refine Ls_a (wtd0 rfl) ?_
                  refine a_call rfl rfl rfl rfl (dmend_ok p (one (packS gb qb fb db) (packS ga qa fa da)) _ (some ⟨gk, 0, none⟩) 1 [kp] [] ⟨rfl, .inr ⟨gk, rfl, rfl, Nat.le_refl _, by decide⟩⟩ (hp.picks [2, 3, 4, 5] (by decide)) (one_ok hsb hsa)) (fun v wh ⟨hv, hM⟩ => ?_)
                  subst hv
                  rw [hmend] at hM
                  have hp : Hp wh [(_, Cl [_, _, _, _] _), (_, Cl [_, _, _, _] _), (_, Cl [_, _, _, _, _] _), _, _, (_, Cl [_] _)] := hp.call [0, 1] [2, 3, 4, 5] (by decide) rfl hM
                  have hF := hF.step hM.fr (fr_dk1 hdk hgk)
                  refine Ls_nil (Th_n (hK18 _ _ ?_))
                  obtain ⟨x, hx⟩ : ∃ x, x = (packS gb qb fb db).take n ++ (packS ga qa fa da).drop n := ⟨_, rfl⟩
                  rw [← hx] at hp
                  have hxl : x.length = 64 := by rw [hx]; simp only [List.length_append, List.length_take, List.length_drop, hsb, hsa]; omega
                  · refine Wp_seq fun K19 hK19 => ?_
                    refine Wp_region ?_
                    refine Ls_y (wtd0 rfl) rfl rfl (y_move rfl rfl) ?_
                    refine Ls_a (wtd0 rfl) ?_
                    refine a_call rfl rfl rfl rfl (dread_ok p (one x x) _ (hp.picks [2, 3, 4] (by decide)) (one_ok hxl hxl) 0) (fun v wi ⟨hv, hw⟩ => ?_)
                    rw [read_one.1, read_one.2] at hv
                    subst hv
                    subst hw
                    refine Ls_y (wtd0 rfl) rfl rfl (y_move rfl rfl) ?_
                    refine Ls_y (wtd0 rfl) rfl rfl (y_ext rfl rfl rfl) ?_
                    refine Ls_y (wtd0 rfl) rfl rfl (y_ext rfl rfl rfl) ?_
                    refine Ls_y (wtd0 rfl) rfl rfl (y_assign rfl rfl) ?_
                    refine Ls_y (wtd0 rfl) rfl rfl (y_assign rfl rfl) ?_
                    refine Ls_nil (Th_n (hK19 _ _ ?_))
                    refine Wp_seq fun K20 hK20 => ?_
                    refine Wp_region ?_
                    refine Ls_y (wtd0 rfl) rfl rfl (y_move rfl rfl) ?_
                    rcases torn_read (over := true) hga0 hga hqa0 hqa hfa0 hfa hgb0 hgb hqb0 hqb hfb0 hfb hea heb hne hn hx with hu | ⟨rfl, hu⟩ | ⟨hov, rfl, hu⟩
                    · refine Ls_a (wtd0 rfl) ?_
                      refine a_call rfl rfl rfl rfl (unpack_ok x _) (fun v wj ⟨hv, hf⟩ => ?_)
                      rw [hu] at hv
                      subst hv
                      have hp := hp.keep0 hf
                      have hF := hF.step0 hf
                      refine Ls_y (wtd0 rfl) rfl rfl (y_move rfl rfl) ?_
                      refine Ls_y (wtd0 rfl) rfl rfl (y_ext rfl rfl rfl) ?_
                      refine Ls_y (wtd0 rfl) rfl rfl (y_ext rfl rfl rfl) ?_
                      refine Ls_a (wtd0 rfl) ?_
                      refine a_alloc rfl rfl rfl Ty.zc_29 hp (fun g3 w3 (hp : Hp w3 [(_, Cl [_, _, _, _] _), (_, Cl [_, _, _, _] _), (_, Cl [_, _, _, _, _] _), _, _, (_, Cl [_] _), (_, Cl [_, _, _, _] _)]) hf hg3 => ?_)
                      have hg3 := Nat.le_trans hF.size hg3
                      have hF := hF.step0 hf
                      refine Ls_a (wtd0 rfl) ?_
                      first
                        | refine a_storew (i := 0) rfl rfl rfl rfl Ty.sz_29 rfl (by first | assumption | (simp [Value.oneCell']; done)) hp rfl rfl (fun w4 (hp : Hp w4 [(_, Cl [_, _, _, _] _), (_, Cl [_, _, _, _] _), (_, Cl [_, _, _, _, _] _), _, _, (_, Cl [_] _), (_, Cl [_, _, _, _] _)]) hf _ => ?_)
                        | refine a_storew (i := 1) rfl rfl rfl rfl Ty.sz_29 rfl (by first | assumption | (simp [Value.oneCell']; done)) hp rfl rfl (fun w4 (hp : Hp w4 [(_, Cl [_, _, _, _] _), (_, Cl [_, _, _, _] _), (_, Cl [_, _, _, _, _] _), _, _, (_, Cl [_] _), (_, Cl [_, _, _, _] _)]) hf _ => ?_)
                        | refine a_storew (i := 2) rfl rfl rfl rfl Ty.sz_29 rfl (by first | assumption | (simp [Value.oneCell']; done)) hp rfl rfl (fun w4 (hp : Hp w4 [(_, Cl [_, _, _, _] _), (_, Cl [_, _, _, _] _), (_, Cl [_, _, _, _, _] _), _, _, (_, Cl [_] _), (_, Cl [_, _, _, _] _)]) hf _ => ?_)
                        | refine a_storew (i := 3) rfl rfl rfl rfl Ty.sz_29 rfl (by first | assumption | (simp [Value.oneCell']; done)) hp rfl rfl (fun w4 (hp : Hp w4 [(_, Cl [_, _, _, _] _), (_, Cl [_, _, _, _] _), (_, Cl [_, _, _, _, _] _), _, _, (_, Cl [_] _), (_, Cl [_, _, _, _] _)]) hf _ => ?_)
                        | refine a_storew (i := 4) rfl rfl rfl rfl Ty.sz_29 rfl (by first | assumption | (simp [Value.oneCell']; done)) hp rfl rfl (fun w4 (hp : Hp w4 [(_, Cl [_, _, _, _] _), (_, Cl [_, _, _, _] _), (_, Cl [_, _, _, _, _] _), _, _, (_, Cl [_] _), (_, Cl [_, _, _, _] _)]) hf _ => ?_)
                        | refine a_storew (i := 5) rfl rfl rfl rfl Ty.sz_29 rfl (by first | assumption | (simp [Value.oneCell']; done)) hp rfl rfl (fun w4 (hp : Hp w4 [(_, Cl [_, _, _, _] _), (_, Cl [_, _, _, _] _), (_, Cl [_, _, _, _, _] _), _, _, (_, Cl [_] _), (_, Cl [_, _, _, _] _)]) hf _ => ?_)
                        | refine a_storew (i := 6) rfl rfl rfl rfl Ty.sz_29 rfl (by first | assumption | (simp [Value.oneCell']; done)) hp rfl rfl (fun w4 (hp : Hp w4 [(_, Cl [_, _, _, _] _), (_, Cl [_, _, _, _] _), (_, Cl [_, _, _, _, _] _), _, _, (_, Cl [_] _), (_, Cl [_, _, _, _] _)]) hf _ => ?_)
                      have hF := hF.step hf (by intro y hy; simp only [List.mem_cons, List.not_mem_nil, or_false] at hy; subst hy; first | (exact Or.inr (by omega)) | (exact Or.inl (by simp)))
                      refine Ls_y (wtd0 rfl) rfl rfl (y_assign rfl rfl) ?_
                      refine Ls_nil (Th_n (hK20 _ _ ?_))
                      refine Wp_seq fun K21 hK21 => ?_
                      refine Wp_seq fun K22 hK22 => ?_
                      refine Wp_region ?_
                      refine Ls_y (wtd0 rfl) rfl rfl (y_move rfl rfl) ?_
                      refine Ls_y (wtd0 rfl) rfl rfl (y_neF rfl rfl rfl (by omega)) ?_
                      refine Ls_nil (Th_n (hK22 _ _ ?_))
                      refine Wp_cond_f rfl ?_
                      refine Wp_skip (Th_n (hK21 _ _ ?_))
                      refine Wp_seq fun K23 hK23 => ?_
                      refine Wp_plan (fun W => Hp W (heapOf hp)) [(true, 0), (true, 1), (true, 2), (true, 3), (true, 5), (false, 4), (true, 6), (true, 7), (true, 8), (true, 9), (true, 10), (true, 11), (true, 12), (true, 13), (true, 14), (true, 15), (true, 16), (true, 18), (false, 17), (true, 19), (true, 20), (true, 21), (true, 22), (true, 23), (true, 24), (true, 25), (true, 26), (true, 27)] Ty.mx_0 (by kernel_rfl) (by kernel_rfl) rfl (hp.drew) ?_
                      have hp := hp.drew
                      have hF := hF.step0 (Fr.drew _)
                      refine Pl_y rfl (wtd0 rfl) rfl rfl (y_move rfl rfl) ?_
                      refine Pl_y rfl (wtd0 rfl) rfl rfl (y_not rfl rfl) ?_
                      refine Pl_y rfl (wtd0 rfl) rfl rfl (y_move rfl rfl) ?_
                      refine Pl_bool 103 rfl (fun _ => ?_) (fun hc9 => absurd hc9 (by simp))
                      refine Pl_s rfl (wtdF rfl rfl rfl) rfl rfl ?_
                      refine Pl_s rfl (wtdF rfl rfl rfl) rfl rfl ?_
                      refine Pl_s rfl (wtdF rfl rfl rfl) rfl rfl ?_
                      refine Pl_s rfl (wtdF rfl rfl rfl) rfl rfl ?_
                      refine Pl_s rfl (wtdF rfl rfl rfl) rfl rfl ?_
                      refine Pl_s rfl (wtdU rfl rfl rfl) rfl rfl ?_
                      refine Pl_s rfl (wtdU rfl rfl rfl) rfl rfl ?_
                      refine Pl_s rfl (wtdU rfl rfl rfl) rfl rfl ?_
                      refine Pl_s rfl (wtdF rfl rfl rfl) rfl rfl ?_
                      refine Pl_y rfl (wtd0 rfl) rfl rfl (y_pick_t rfl rfl rfl) ?_
                      refine Pl_y rfl (wtd0 rfl) rfl rfl (y_move rfl rfl) ?_
                      refine Pl_s rfl (wtdF rfl rfl rfl) rfl rfl ?_
                      refine Pl_s rfl (wtdF rfl rfl rfl) rfl rfl ?_
                      refine Pl_s rfl (wtdU rfl rfl rfl) rfl rfl ?_
                      refine Pl_s rfl (wtdU rfl rfl rfl) rfl rfl ?_
                      refine Pl_s rfl (wtdU rfl rfl rfl) rfl rfl ?_
                      refine Pl_s rfl (wtdU rfl rfl rfl) rfl rfl ?_
                      refine Pl_s rfl (wtdF rfl rfl rfl) rfl rfl ?_
                      refine Pl_s rfl (wtdF rfl rfl rfl) rfl rfl ?_
                      refine Pl_s rfl (wtdU rfl rfl rfl) rfl rfl ?_
                      refine Pl_s rfl (wtdU rfl rfl rfl) rfl rfl ?_
                      refine Pl_s rfl (wtdU rfl rfl rfl) rfl rfl ?_
                      refine Pl_s rfl (wtdF rfl rfl rfl) rfl rfl ?_
                      refine Pl_y rfl (wtd0 rfl) rfl rfl (y_pick_t rfl rfl rfl) ?_
                      refine Pl_y rfl (wtd0 rfl) rfl rfl (y_assign rfl rfl) ?_
                      refine Pl_nil (Th_n (hK23 _ _ ?_))
                      refine Wp_ret (Fq_ret (Res1 rfl rfl) ?_)
                      exact ⟨rfl, hF⟩
                    · refine Ls_a (wtd0 rfl) ?_
                      refine a_call rfl rfl rfl rfl (unpack_ok _ _) (fun v wj ⟨hv, hf⟩ => ?_)
                      rw [hu] at hv
                      subst hv
                      have hp := hp.keep0 hf
                      have hF := hF.step0 hf
                      refine Ls_y (wtd0 rfl) rfl rfl (y_move rfl rfl) ?_
                      refine Ls_y (wtd0 rfl) rfl rfl (y_ext rfl rfl rfl) ?_
                      refine Ls_y (wtd0 rfl) rfl rfl (y_ext rfl rfl rfl) ?_
                      refine Ls_a (wtd0 rfl) ?_
                      refine a_alloc rfl rfl rfl Ty.zc_29 hp (fun g3 w3 (hp : Hp w3 [(_, Cl [_, _, _, _] _), (_, Cl [_, _, _, _] _), (_, Cl [_, _, _, _, _] _), _, _, (_, Cl [_] _), (_, Cl [_, _, _, _] _)]) hf hg3 => ?_)
                      have hg3 := Nat.le_trans hF.size hg3
                      have hF := hF.step0 hf
                      refine Ls_a (wtd0 rfl) ?_
                      first
                        | refine a_storew (i := 0) rfl rfl rfl rfl Ty.sz_29 rfl (by first | assumption | (simp [Value.oneCell']; done)) hp rfl rfl (fun w4 (hp : Hp w4 [(_, Cl [_, _, _, _] _), (_, Cl [_, _, _, _] _), (_, Cl [_, _, _, _, _] _), _, _, (_, Cl [_] _), (_, Cl [_, _, _, _] _)]) hf _ => ?_)
                        | refine a_storew (i := 1) rfl rfl rfl rfl Ty.sz_29 rfl (by first | assumption | (simp [Value.oneCell']; done)) hp rfl rfl (fun w4 (hp : Hp w4 [(_, Cl [_, _, _, _] _), (_, Cl [_, _, _, _] _), (_, Cl [_, _, _, _, _] _), _, _, (_, Cl [_] _), (_, Cl [_, _, _, _] _)]) hf _ => ?_)
                        | refine a_storew (i := 2) rfl rfl rfl rfl Ty.sz_29 rfl (by first | assumption | (simp [Value.oneCell']; done)) hp rfl rfl (fun w4 (hp : Hp w4 [(_, Cl [_, _, _, _] _), (_, Cl [_, _, _, _] _), (_, Cl [_, _, _, _, _] _), _, _, (_, Cl [_] _), (_, Cl [_, _, _, _] _)]) hf _ => ?_)
                        | refine a_storew (i := 3) rfl rfl rfl rfl Ty.sz_29 rfl (by first | assumption | (simp [Value.oneCell']; done)) hp rfl rfl (fun w4 (hp : Hp w4 [(_, Cl [_, _, _, _] _), (_, Cl [_, _, _, _] _), (_, Cl [_, _, _, _, _] _), _, _, (_, Cl [_] _), (_, Cl [_, _, _, _] _)]) hf _ => ?_)
                        | refine a_storew (i := 4) rfl rfl rfl rfl Ty.sz_29 rfl (by first | assumption | (simp [Value.oneCell']; done)) hp rfl rfl (fun w4 (hp : Hp w4 [(_, Cl [_, _, _, _] _), (_, Cl [_, _, _, _] _), (_, Cl [_, _, _, _, _] _), _, _, (_, Cl [_] _), (_, Cl [_, _, _, _] _)]) hf _ => ?_)
                        | refine a_storew (i := 5) rfl rfl rfl rfl Ty.sz_29 rfl (by first | assumption | (simp [Value.oneCell']; done)) hp rfl rfl (fun w4 (hp : Hp w4 [(_, Cl [_, _, _, _] _), (_, Cl [_, _, _, _] _), (_, Cl [_, _, _, _, _] _), _, _, (_, Cl [_] _), (_, Cl [_, _, _, _] _)]) hf _ => ?_)
                        | refine a_storew (i := 6) rfl rfl rfl rfl Ty.sz_29 rfl (by first | assumption | (simp [Value.oneCell']; done)) hp rfl rfl (fun w4 (hp : Hp w4 [(_, Cl [_, _, _, _] _), (_, Cl [_, _, _, _] _), (_, Cl [_, _, _, _, _] _), _, _, (_, Cl [_] _), (_, Cl [_, _, _, _] _)]) hf _ => ?_)
                      have hF := hF.step hf (by intro y hy; simp only [List.mem_cons, List.not_mem_nil, or_false] at hy; subst hy; first | (exact Or.inr (by omega)) | (exact Or.inl (by simp)))
                      refine Ls_y (wtd0 rfl) rfl rfl (y_assign rfl rfl) ?_
                      refine Ls_nil (Th_n (hK20 _ _ ?_))
                      refine Wp_seq fun K24 hK24 => ?_
                      refine Wp_seq fun K25 hK25 => ?_
                      refine Wp_region ?_
                      refine Ls_y (wtd0 rfl) rfl rfl (y_move rfl rfl) ?_
                      refine Ls_y (wtd0 rfl) rfl rfl (y_neF rfl rfl rfl (by omega)) ?_
                      refine Ls_nil (Th_n (hK25 _ _ ?_))
                      refine Wp_cond_f rfl ?_
                      refine Wp_skip (Th_n (hK24 _ _ ?_))
                      refine Wp_seq fun K26 hK26 => ?_
                      refine Wp_plan (fun W => Hp W (heapOf hp)) [(true, 0), (true, 1), (true, 2), (true, 3), (true, 5), (false, 4), (true, 6), (true, 7), (true, 8), (true, 9), (true, 10), (true, 11), (true, 12), (true, 13), (true, 14), (true, 15), (true, 16), (true, 18), (false, 17), (true, 19), (true, 20), (true, 21), (true, 22), (true, 23), (true, 24), (true, 25), (true, 26), (true, 27)] Ty.mx_0 (by kernel_rfl) (by kernel_rfl) rfl (hp.drew) ?_
                      have hp := hp.drew
                      have hF := hF.step0 (Fr.drew _)
                      refine Pl_y rfl (wtd0 rfl) rfl rfl (y_move rfl rfl) ?_
                      refine Pl_y rfl (wtd0 rfl) rfl rfl (y_not rfl rfl) ?_
                      refine Pl_y rfl (wtd0 rfl) rfl rfl (y_move rfl rfl) ?_
                      refine Pl_bool 103 rfl (fun hc11 => absurd hc11 (by simp)) (fun _ => ?_)
                      first
                        | refine Pl_y rfl (wtdT rfl rfl rfl) rfl rfl (y_loadw (i := 0) rfl rfl Ty.ag_29 (fun _ h => h) rfl rfl) ?_
                        | refine Pl_y rfl (wtdT rfl rfl rfl) rfl rfl (y_loadw (i := 1) rfl rfl Ty.ag_29 (fun _ h => h) rfl rfl) ?_
                        | refine Pl_y rfl (wtdT rfl rfl rfl) rfl rfl (y_loadw (i := 2) rfl rfl Ty.ag_29 (fun _ h => h) rfl rfl) ?_
                        | refine Pl_y rfl (wtdT rfl rfl rfl) rfl rfl (y_loadw (i := 3) rfl rfl Ty.ag_29 (fun _ h => h) rfl rfl) ?_
                        | refine Pl_y rfl (wtdT rfl rfl rfl) rfl rfl (y_loadw (i := 4) rfl rfl Ty.ag_29 (fun _ h => h) rfl rfl) ?_
                        | refine Pl_y rfl (wtdT rfl rfl rfl) rfl rfl (y_loadw (i := 5) rfl rfl Ty.ag_29 (fun _ h => h) rfl rfl) ?_
                        | refine Pl_y rfl (wtdT rfl rfl rfl) rfl rfl (y_loadw (i := 6) rfl rfl Ty.ag_29 (fun _ h => h) rfl rfl) ?_
                      first
                        | refine Pl_y rfl (wtdT rfl rfl rfl) rfl rfl (y_loadw (i := 0) rfl rfl Ty.ag_25 (fun _ h => h) rfl rfl) ?_
                        | refine Pl_y rfl (wtdT rfl rfl rfl) rfl rfl (y_loadw (i := 1) rfl rfl Ty.ag_25 (fun _ h => h) rfl rfl) ?_
                        | refine Pl_y rfl (wtdT rfl rfl rfl) rfl rfl (y_loadw (i := 2) rfl rfl Ty.ag_25 (fun _ h => h) rfl rfl) ?_
                        | refine Pl_y rfl (wtdT rfl rfl rfl) rfl rfl (y_loadw (i := 3) rfl rfl Ty.ag_25 (fun _ h => h) rfl rfl) ?_
                        | refine Pl_y rfl (wtdT rfl rfl rfl) rfl rfl (y_loadw (i := 4) rfl rfl Ty.ag_25 (fun _ h => h) rfl rfl) ?_
                        | refine Pl_y rfl (wtdT rfl rfl rfl) rfl rfl (y_loadw (i := 5) rfl rfl Ty.ag_25 (fun _ h => h) rfl rfl) ?_
                        | refine Pl_y rfl (wtdT rfl rfl rfl) rfl rfl (y_loadw (i := 6) rfl rfl Ty.ag_25 (fun _ h => h) rfl rfl) ?_
                      refine Pl_a rfl (wtdT rfl rfl rfl) (by rfl) ?_
                      refine a_call rfl rfl rfl rfl (from_ok _ _ _ _ _) (fun v wk ⟨hv, hf⟩ => ?_)
                      subst hv
                      have hp := hp.keep0 hf
                      have hF := hF.step0 hf
                      refine ⟨hp, ?_⟩
                      refine Pl_y rfl (wtdT rfl rfl rfl) rfl rfl (y_eqst rfl rfl rfl Ty.tg_25 rfl) ?_
                      refine Pl_bool 107 rfl (fun _ => ?_) (fun hc12 => absurd hc12 (by simp [cG, cQ, cF, cD]))
                      refine Pl_y rfl (wtdT rfl rfl rfl) rfl rfl (y_move rfl rfl) ?_
                      refine Pl_y rfl (wtdT rfl rfl rfl) rfl rfl (y_move rfl rfl) ?_
                      refine Pl_y rfl (wtdT rfl rfl rfl) rfl rfl (y_move rfl rfl) ?_
                      refine Pl_y rfl (wtdT rfl rfl rfl) rfl rfl (y_eqs rfl rfl rfl) ?_
                      refine Pl_bool 111 rfl (fun _ => ?_) (fun hc13 => absurd hc13 (by simp))
                      refine Pl_y rfl (wtdT rfl rfl rfl) rfl rfl (y_pick_t rfl rfl rfl) ?_
                      refine Pl_y rfl (wtd0 rfl) rfl rfl (y_pick_f rfl rfl rfl) ?_
                      refine Pl_y rfl (wtd0 rfl) rfl rfl (y_move rfl rfl) ?_
                      refine Pl_s rfl (wtdF rfl rfl rfl) rfl rfl ?_
                      refine Pl_s rfl (wtdF rfl rfl rfl) rfl rfl ?_
                      refine Pl_s rfl (wtdU rfl rfl rfl) rfl rfl ?_
                      refine Pl_s rfl (wtdU rfl rfl rfl) rfl rfl ?_
                      refine Pl_s rfl (wtdU rfl rfl rfl) rfl rfl ?_
                      refine Pl_s rfl (wtdU rfl rfl rfl) rfl rfl ?_
                      refine Pl_s rfl (wtdF rfl rfl rfl) rfl rfl ?_
                      refine Pl_s rfl (wtdF rfl rfl rfl) rfl rfl ?_
                      refine Pl_s rfl (wtdU rfl rfl rfl) rfl rfl ?_
                      refine Pl_s rfl (wtdU rfl rfl rfl) rfl rfl ?_
                      refine Pl_s rfl (wtdU rfl rfl rfl) rfl rfl ?_
                      refine Pl_s rfl (wtdF rfl rfl rfl) rfl rfl ?_
                      refine Pl_y rfl (wtd0 rfl) rfl rfl (y_pick_t rfl rfl rfl) ?_
                      refine Pl_y rfl (wtd0 rfl) rfl rfl (y_assign rfl rfl) ?_
                      refine Pl_nil (Th_n (hK26 _ _ ?_))
                      refine Wp_ret (Fq_ret (Res1 rfl rfl) ?_)
                      exact ⟨rfl, hF⟩
                    · refine Ls_a (wtd0 rfl) ?_
                      refine a_call rfl rfl rfl rfl (unpack_ok _ _) (fun v wj ⟨hv, hf⟩ => ?_)
                      rw [hu] at hv
                      subst hv
                      have hp := hp.keep0 hf
                      have hF := hF.step0 hf
                      refine Ls_y (wtd0 rfl) rfl rfl (y_move rfl rfl) ?_
                      refine Ls_y (wtd0 rfl) rfl rfl (y_ext rfl rfl rfl) ?_
                      refine Ls_y (wtd0 rfl) rfl rfl (y_ext rfl rfl rfl) ?_
                      refine Ls_a (wtd0 rfl) ?_
                      refine a_alloc rfl rfl rfl Ty.zc_29 hp (fun g3 w3 (hp : Hp w3 [(_, Cl [_, _, _, _] _), (_, Cl [_, _, _, _] _), (_, Cl [_, _, _, _, _] _), _, _, (_, Cl [_] _), (_, Cl [_, _, _, _] _)]) hf hg3 => ?_)
                      have hg3 := Nat.le_trans hF.size hg3
                      have hF := hF.step0 hf
                      refine Ls_a (wtd0 rfl) ?_
                      first
                        | refine a_storew (i := 0) rfl rfl rfl rfl Ty.sz_29 rfl (by first | assumption | (simp [Value.oneCell']; done)) hp rfl rfl (fun w4 (hp : Hp w4 [(_, Cl [_, _, _, _] _), (_, Cl [_, _, _, _] _), (_, Cl [_, _, _, _, _] _), _, _, (_, Cl [_] _), (_, Cl [_, _, _, _] _)]) hf _ => ?_)
                        | refine a_storew (i := 1) rfl rfl rfl rfl Ty.sz_29 rfl (by first | assumption | (simp [Value.oneCell']; done)) hp rfl rfl (fun w4 (hp : Hp w4 [(_, Cl [_, _, _, _] _), (_, Cl [_, _, _, _] _), (_, Cl [_, _, _, _, _] _), _, _, (_, Cl [_] _), (_, Cl [_, _, _, _] _)]) hf _ => ?_)
                        | refine a_storew (i := 2) rfl rfl rfl rfl Ty.sz_29 rfl (by first | assumption | (simp [Value.oneCell']; done)) hp rfl rfl (fun w4 (hp : Hp w4 [(_, Cl [_, _, _, _] _), (_, Cl [_, _, _, _] _), (_, Cl [_, _, _, _, _] _), _, _, (_, Cl [_] _), (_, Cl [_, _, _, _] _)]) hf _ => ?_)
                        | refine a_storew (i := 3) rfl rfl rfl rfl Ty.sz_29 rfl (by first | assumption | (simp [Value.oneCell']; done)) hp rfl rfl (fun w4 (hp : Hp w4 [(_, Cl [_, _, _, _] _), (_, Cl [_, _, _, _] _), (_, Cl [_, _, _, _, _] _), _, _, (_, Cl [_] _), (_, Cl [_, _, _, _] _)]) hf _ => ?_)
                        | refine a_storew (i := 4) rfl rfl rfl rfl Ty.sz_29 rfl (by first | assumption | (simp [Value.oneCell']; done)) hp rfl rfl (fun w4 (hp : Hp w4 [(_, Cl [_, _, _, _] _), (_, Cl [_, _, _, _] _), (_, Cl [_, _, _, _, _] _), _, _, (_, Cl [_] _), (_, Cl [_, _, _, _] _)]) hf _ => ?_)
                        | refine a_storew (i := 5) rfl rfl rfl rfl Ty.sz_29 rfl (by first | assumption | (simp [Value.oneCell']; done)) hp rfl rfl (fun w4 (hp : Hp w4 [(_, Cl [_, _, _, _] _), (_, Cl [_, _, _, _] _), (_, Cl [_, _, _, _, _] _), _, _, (_, Cl [_] _), (_, Cl [_, _, _, _] _)]) hf _ => ?_)
                        | refine a_storew (i := 6) rfl rfl rfl rfl Ty.sz_29 rfl (by first | assumption | (simp [Value.oneCell']; done)) hp rfl rfl (fun w4 (hp : Hp w4 [(_, Cl [_, _, _, _] _), (_, Cl [_, _, _, _] _), (_, Cl [_, _, _, _, _] _), _, _, (_, Cl [_] _), (_, Cl [_, _, _, _] _)]) hf _ => ?_)
                      have hF := hF.step hf (by intro y hy; simp only [List.mem_cons, List.not_mem_nil, or_false] at hy; subst hy; first | (exact Or.inr (by omega)) | (exact Or.inl (by simp)))
                      refine Ls_y (wtd0 rfl) rfl rfl (y_assign rfl rfl) ?_
                      refine Ls_nil (Th_n (hK20 _ _ ?_))
                      refine Wp_seq fun K27 hK27 => ?_
                      refine Wp_seq fun K28 hK28 => ?_
                      refine Wp_region ?_
                      refine Ls_y (wtd0 rfl) rfl rfl (y_move rfl rfl) ?_
                      refine Ls_y (wtd0 rfl) rfl rfl (y_neF rfl rfl rfl (by omega)) ?_
                      refine Ls_nil (Th_n (hK28 _ _ ?_))
                      refine Wp_cond_f rfl ?_
                      refine Wp_skip (Th_n (hK27 _ _ ?_))
                      refine Wp_seq fun K29 hK29 => ?_
                      refine Wp_plan (fun W => Hp W (heapOf hp)) [(true, 0), (true, 1), (true, 2), (true, 3), (true, 5), (false, 4), (true, 6), (true, 7), (true, 8), (true, 9), (true, 10), (true, 11), (true, 12), (true, 13), (true, 14), (true, 15), (true, 16), (true, 18), (false, 17), (true, 19), (true, 20), (true, 21), (true, 22), (true, 23), (true, 24), (true, 25), (true, 26), (true, 27)] Ty.mx_0 (by kernel_rfl) (by kernel_rfl) rfl (hp.drew) ?_
                      have hp := hp.drew
                      have hF := hF.step0 (Fr.drew _)
                      refine Pl_y rfl (wtd0 rfl) rfl rfl (y_move rfl rfl) ?_
                      refine Pl_y rfl (wtd0 rfl) rfl rfl (y_not rfl rfl) ?_
                      refine Pl_y rfl (wtd0 rfl) rfl rfl (y_move rfl rfl) ?_
                      refine Pl_bool 103 rfl (fun hc15 => absurd hc15 (by simp)) (fun _ => ?_)
                      first
                        | refine Pl_y rfl (wtdT rfl rfl rfl) rfl rfl (y_loadw (i := 0) rfl rfl Ty.ag_29 (fun _ h => h) rfl rfl) ?_
                        | refine Pl_y rfl (wtdT rfl rfl rfl) rfl rfl (y_loadw (i := 1) rfl rfl Ty.ag_29 (fun _ h => h) rfl rfl) ?_
                        | refine Pl_y rfl (wtdT rfl rfl rfl) rfl rfl (y_loadw (i := 2) rfl rfl Ty.ag_29 (fun _ h => h) rfl rfl) ?_
                        | refine Pl_y rfl (wtdT rfl rfl rfl) rfl rfl (y_loadw (i := 3) rfl rfl Ty.ag_29 (fun _ h => h) rfl rfl) ?_
                        | refine Pl_y rfl (wtdT rfl rfl rfl) rfl rfl (y_loadw (i := 4) rfl rfl Ty.ag_29 (fun _ h => h) rfl rfl) ?_
                        | refine Pl_y rfl (wtdT rfl rfl rfl) rfl rfl (y_loadw (i := 5) rfl rfl Ty.ag_29 (fun _ h => h) rfl rfl) ?_
                        | refine Pl_y rfl (wtdT rfl rfl rfl) rfl rfl (y_loadw (i := 6) rfl rfl Ty.ag_29 (fun _ h => h) rfl rfl) ?_
                      first
                        | refine Pl_y rfl (wtdT rfl rfl rfl) rfl rfl (y_loadw (i := 0) rfl rfl Ty.ag_25 (fun _ h => h) rfl rfl) ?_
                        | refine Pl_y rfl (wtdT rfl rfl rfl) rfl rfl (y_loadw (i := 1) rfl rfl Ty.ag_25 (fun _ h => h) rfl rfl) ?_
                        | refine Pl_y rfl (wtdT rfl rfl rfl) rfl rfl (y_loadw (i := 2) rfl rfl Ty.ag_25 (fun _ h => h) rfl rfl) ?_
                        | refine Pl_y rfl (wtdT rfl rfl rfl) rfl rfl (y_loadw (i := 3) rfl rfl Ty.ag_25 (fun _ h => h) rfl rfl) ?_
                        | refine Pl_y rfl (wtdT rfl rfl rfl) rfl rfl (y_loadw (i := 4) rfl rfl Ty.ag_25 (fun _ h => h) rfl rfl) ?_
                        | refine Pl_y rfl (wtdT rfl rfl rfl) rfl rfl (y_loadw (i := 5) rfl rfl Ty.ag_25 (fun _ h => h) rfl rfl) ?_
                        | refine Pl_y rfl (wtdT rfl rfl rfl) rfl rfl (y_loadw (i := 6) rfl rfl Ty.ag_25 (fun _ h => h) rfl rfl) ?_
                      refine Pl_a rfl (wtdT rfl rfl rfl) (by rfl) ?_
                      refine a_call rfl rfl rfl rfl (from_ok _ _ _ _ _) (fun v wk ⟨hv, hf⟩ => ?_)
                      subst hv
                      have hp := hp.keep0 hf
                      have hF := hF.step0 hf
                      refine ⟨hp, ?_⟩
                      refine Pl_y rfl (wtdT rfl rfl rfl) rfl rfl (y_eqst rfl rfl rfl Ty.tg_25 rfl) ?_
                      refine Pl_bool 107 rfl (fun hc16 => absurd hc16 (by simp [cG, cQ, cF, cD]; intro e1 e2; exact absurd ⟨e1, e2⟩ hne)) (fun _ => ?_)
                      refine Pl_y rfl (wtdT rfl rfl rfl) rfl rfl (y_move rfl rfl) ?_
                      refine Pl_s rfl (wtdF rfl rfl rfl) rfl rfl ?_
                      refine Pl_s rfl (wtdF rfl rfl rfl) rfl rfl ?_
                      refine Pl_s rfl (wtdF rfl rfl rfl) rfl rfl ?_
                      refine Pl_y rfl (wtdT rfl rfl rfl) rfl rfl (y_pick_f rfl rfl rfl) ?_
                      refine Pl_y rfl (wtd0 rfl) rfl rfl (y_pick_f rfl rfl rfl) ?_
                      refine Pl_y rfl (wtd0 rfl) rfl rfl (y_move rfl rfl) ?_
                      refine Pl_y rfl (wtdT rfl rfl rfl) rfl rfl (y_move rfl rfl) ?_
                      refine Pl_y rfl (wtdT rfl rfl rfl) rfl rfl (y_move rfl rfl) ?_
                      refine Pl_bool 116 rfl (fun _ => ?_) (fun hc17 => absurd hc17 (by simp))
                      first
                        | refine Pl_y rfl (wtdT rfl rfl rfl) rfl rfl (y_loadw (i := 0) rfl rfl Ty.ag_29 (fun _ h => h) rfl rfl) ?_
                        | refine Pl_y rfl (wtdT rfl rfl rfl) rfl rfl (y_loadw (i := 1) rfl rfl Ty.ag_29 (fun _ h => h) rfl rfl) ?_
                        | refine Pl_y rfl (wtdT rfl rfl rfl) rfl rfl (y_loadw (i := 2) rfl rfl Ty.ag_29 (fun _ h => h) rfl rfl) ?_
                        | refine Pl_y rfl (wtdT rfl rfl rfl) rfl rfl (y_loadw (i := 3) rfl rfl Ty.ag_29 (fun _ h => h) rfl rfl) ?_
                        | refine Pl_y rfl (wtdT rfl rfl rfl) rfl rfl (y_loadw (i := 4) rfl rfl Ty.ag_29 (fun _ h => h) rfl rfl) ?_
                        | refine Pl_y rfl (wtdT rfl rfl rfl) rfl rfl (y_loadw (i := 5) rfl rfl Ty.ag_29 (fun _ h => h) rfl rfl) ?_
                        | refine Pl_y rfl (wtdT rfl rfl rfl) rfl rfl (y_loadw (i := 6) rfl rfl Ty.ag_29 (fun _ h => h) rfl rfl) ?_
                      first
                        | refine Pl_y rfl (wtdT rfl rfl rfl) rfl rfl (y_loadw (i := 0) rfl rfl Ty.ag_25 (fun _ h => h) rfl rfl) ?_
                        | refine Pl_y rfl (wtdT rfl rfl rfl) rfl rfl (y_loadw (i := 1) rfl rfl Ty.ag_25 (fun _ h => h) rfl rfl) ?_
                        | refine Pl_y rfl (wtdT rfl rfl rfl) rfl rfl (y_loadw (i := 2) rfl rfl Ty.ag_25 (fun _ h => h) rfl rfl) ?_
                        | refine Pl_y rfl (wtdT rfl rfl rfl) rfl rfl (y_loadw (i := 3) rfl rfl Ty.ag_25 (fun _ h => h) rfl rfl) ?_
                        | refine Pl_y rfl (wtdT rfl rfl rfl) rfl rfl (y_loadw (i := 4) rfl rfl Ty.ag_25 (fun _ h => h) rfl rfl) ?_
                        | refine Pl_y rfl (wtdT rfl rfl rfl) rfl rfl (y_loadw (i := 5) rfl rfl Ty.ag_25 (fun _ h => h) rfl rfl) ?_
                        | refine Pl_y rfl (wtdT rfl rfl rfl) rfl rfl (y_loadw (i := 6) rfl rfl Ty.ag_25 (fun _ h => h) rfl rfl) ?_
                      refine Pl_a rfl (wtdT rfl rfl rfl) (by rfl) ?_
                      refine a_call rfl rfl rfl rfl (from_ok _ _ _ _ _) (fun v wl ⟨hv, hf⟩ => ?_)
                      subst hv
                      have hp := hp.keep0 hf
                      have hF := hF.step0 hf
                      refine ⟨hp, ?_⟩
                      refine Pl_y rfl (wtdT rfl rfl rfl) rfl rfl (y_eqst rfl rfl rfl Ty.tg_25 rfl) ?_
                      refine Pl_bool 120 rfl (fun _ => ?_) (fun hc18 => absurd hc18 (by simp [cG, cQ, cF, cD]))
                      refine Pl_y rfl (wtdT rfl rfl rfl) rfl rfl (y_pick_t rfl rfl rfl) ?_
                      refine Pl_y rfl (wtdT rfl rfl rfl) rfl rfl (y_move rfl rfl) ?_
                      refine Pl_y rfl (wtdT rfl rfl rfl) rfl rfl (y_move rfl rfl) ?_
                      refine Pl_y rfl (wtdT rfl rfl rfl) rfl rfl (y_move rfl rfl) ?_
                      refine Pl_y rfl (wtdT rfl rfl rfl) rfl rfl (y_eqs rfl rfl rfl) ?_
                      refine Pl_bool 125 rfl (fun _ => ?_) (fun hc19 => absurd hc19 (by simp))
                      refine Pl_y rfl (wtdT rfl rfl rfl) rfl rfl (y_pick_t rfl rfl rfl) ?_
                      refine Pl_y rfl (wtd0 rfl) rfl rfl (y_pick_f rfl rfl rfl) ?_
                      refine Pl_y rfl (wtd0 rfl) rfl rfl (y_assign rfl rfl) ?_
                      refine Pl_nil (Th_n (hK29 _ _ ?_))
                      refine Wp_ret (Fq_ret (Res1 rfl rfl) ?_)
                      exact ⟨rfl, hF⟩
              · subst hov
                refine Ls_s (wtdF rfl rfl rfl) rfl rfl ?_
                refine Ls_s (wtdF rfl rfl rfl) rfl rfl ?_
                refine Ls_s (wtdF rfl rfl rfl) rfl rfl ?_
                refine Ls_s (wtdF rfl rfl rfl) rfl rfl ?_
                refine Ls_s (wtdF rfl rfl rfl) rfl rfl ?_
                refine Ls_s (wtdU rfl rfl rfl) rfl rfl ?_
                refine Ls_s (wtdU rfl rfl rfl) rfl rfl ?_
                refine Ls_s (wtdU rfl rfl rfl) rfl rfl ?_
                refine Ls_s (wtdF rfl rfl rfl) rfl rfl ?_
                refine Ls_y (wtd0 rfl) rfl rfl (y_pick_f rfl rfl rfl) ?_
                refine Ls_y (wtd0 rfl) rfl rfl (y_move rfl rfl) ?_
                refine Ls_y (wtdT rfl rfl rfl) rfl rfl (y_move rfl rfl) ?_
                refine Ls_y (wtdT rfl rfl rfl) rfl rfl (y_move rfl rfl) ?_
                refine Ls_a (wtdT rfl rfl rfl) ?_
                refine a_call rfl rfl rfl rfl (dwrite_m p (one (zero64) (zero64)) _ (hp.picks [2, 3, 4] (by decide)) (one_ok hz64 hz64) 0 (packS gb qb fb db)) (fun v wf ⟨hv, hM⟩ => ?_)
                rw [(write_one hsb).1] at hv
                rw [(write_one hsb).2] at hM
                subst hv
                have hp : Hp wf [(_, Cl [_, _, _, _] _), (_, Cl [_, _, _, _] _), (_, Cl [_, _, _, _, _] _), _, _] := hp.call [0, 1] [2, 3, 4] (by decide) rfl hM
                have hF := hF.step hM.fr (fun y hy => Or.inr (hdk y hy))
                refine Ls_y (wtdT rfl rfl rfl) rfl rfl (y_neF rfl rfl rfl (by omega)) ?_
                obtain ⟨n, hn, hmend⟩ := mend_one (packS gb qb fb db) (zero64) kp
                · refine Ls_y (wtd0 rfl) rfl rfl (y_pick_f rfl rfl rfl) ?_
                  refine Ls_nil (Th_n (hK17 _ _ ?_))
                  refine Wp_cond_f rfl ?_
                  refine Wp_skip (Th_n (hK16 _ _ ?_))
                  refine Wp_seq fun K30 hK30 => ?_
                  refine Wp_region ?_
                  refine Ls_y (wtd0 rfl) rfl rfl (y_move rfl rfl) ?_
                  refine Ls_y (wtd0 rfl) rfl rfl (y_move rfl rfl) ?_
                  refine Ls_a (wtd0 rfl) ?_
                  refine a_bsl rfl rfl rfl rfl rfl Ty.es_73 Ty.zc_3 rfl (by decide) (by simp [Value.cells]) hp (fun gk wg (hp : Hp wg [(_, Cl [_, _, _, _] _), (_, Cl [_, _, _, _] _), (_, Cl [_, _, _, _, _] _), _, _, (_, Cl [_] _)]) hf hgk => ?_)
                  have hgk := Nat.le_trans hF.size hgk
                  have hF := hF.step0 hf
                  refine Ls_a (wtd0 rfl) ?_
                  refine a_call rfl rfl rfl rfl (dmend_ok p (one (packS gb qb fb db) (zero64)) _ (some ⟨gk, 0, none⟩) 1 [kp] [] ⟨rfl, .inr ⟨gk, rfl, rfl, Nat.le_refl _, by decide⟩⟩ (hp.picks [2, 3, 4, 5] (by decide)) (one_ok hsb hz64)) (fun v wh ⟨hv, hM⟩ => ?_)
                  subst hv
                  rw [hmend] at hM
                  have hp : Hp wh [(_, Cl [_, _, _, _] _), (_, Cl [_, _, _, _] _), (_, Cl [_, _, _, _, _] _), _, _, (_, Cl [_] _)] := hp.call [0, 1] [2, 3, 4, 5] (by decide) rfl hM
                  have hF := hF.step hM.fr (fr_dk1 hdk hgk)
                  refine Ls_nil (Th_n (hK30 _ _ ?_))
                  obtain ⟨x, hx⟩ : ∃ x, x = (packS gb qb fb db).take n ++ (zero64).drop n := ⟨_, rfl⟩
                  rw [← hx] at hp
                  have hxl : x.length = 64 := by rw [hx]; simp only [List.length_append, List.length_take, List.length_drop, hsb, hz64]; omega
                  · refine Wp_seq fun K31 hK31 => ?_
                    refine Wp_region ?_
                    refine Ls_y (wtd0 rfl) rfl rfl (y_move rfl rfl) ?_
                    refine Ls_a (wtd0 rfl) ?_
                    refine a_call rfl rfl rfl rfl (dread_ok p (one x x) _ (hp.picks [2, 3, 4] (by decide)) (one_ok hxl hxl) 0) (fun v wi ⟨hv, hw⟩ => ?_)
                    rw [read_one.1, read_one.2] at hv
                    subst hv
                    subst hw
                    refine Ls_y (wtd0 rfl) rfl rfl (y_move rfl rfl) ?_
                    refine Ls_y (wtd0 rfl) rfl rfl (y_ext rfl rfl rfl) ?_
                    refine Ls_y (wtd0 rfl) rfl rfl (y_ext rfl rfl rfl) ?_
                    refine Ls_y (wtd0 rfl) rfl rfl (y_assign rfl rfl) ?_
                    refine Ls_y (wtd0 rfl) rfl rfl (y_assign rfl rfl) ?_
                    refine Ls_nil (Th_n (hK31 _ _ ?_))
                    refine Wp_seq fun K32 hK32 => ?_
                    refine Wp_region ?_
                    refine Ls_y (wtd0 rfl) rfl rfl (y_move rfl rfl) ?_
                    rcases torn_read (over := false) hga0 hga hqa0 hqa hfa0 hfa hgb0 hgb hqb0 hqb hfb0 hfb hea heb hne hn hx with hu | ⟨rfl, hu⟩ | ⟨hov, rfl, hu⟩
                    · refine Ls_a (wtd0 rfl) ?_
                      refine a_call rfl rfl rfl rfl (unpack_ok x _) (fun v wj ⟨hv, hf⟩ => ?_)
                      rw [hu] at hv
                      subst hv
                      have hp := hp.keep0 hf
                      have hF := hF.step0 hf
                      refine Ls_y (wtd0 rfl) rfl rfl (y_move rfl rfl) ?_
                      refine Ls_y (wtd0 rfl) rfl rfl (y_ext rfl rfl rfl) ?_
                      refine Ls_y (wtd0 rfl) rfl rfl (y_ext rfl rfl rfl) ?_
                      refine Ls_a (wtd0 rfl) ?_
                      refine a_alloc rfl rfl rfl Ty.zc_29 hp (fun g3 w3 (hp : Hp w3 [(_, Cl [_, _, _, _] _), (_, Cl [_, _, _, _] _), (_, Cl [_, _, _, _, _] _), _, _, (_, Cl [_] _), (_, Cl [_, _, _, _] _)]) hf hg3 => ?_)
                      have hg3 := Nat.le_trans hF.size hg3
                      have hF := hF.step0 hf
                      refine Ls_a (wtd0 rfl) ?_
                      first
                        | refine a_storew (i := 0) rfl rfl rfl rfl Ty.sz_29 rfl (by first | assumption | (simp [Value.oneCell']; done)) hp rfl rfl (fun w4 (hp : Hp w4 [(_, Cl [_, _, _, _] _), (_, Cl [_, _, _, _] _), (_, Cl [_, _, _, _, _] _), _, _, (_, Cl [_] _), (_, Cl [_, _, _, _] _)]) hf _ => ?_)
                        | refine a_storew (i := 1) rfl rfl rfl rfl Ty.sz_29 rfl (by first | assumption | (simp [Value.oneCell']; done)) hp rfl rfl (fun w4 (hp : Hp w4 [(_, Cl [_, _, _, _] _), (_, Cl [_, _, _, _] _), (_, Cl [_, _, _, _, _] _), _, _, (_, Cl [_] _), (_, Cl [_, _, _, _] _)]) hf _ => ?_)
                        | refine a_storew (i := 2) rfl rfl rfl rfl Ty.sz_29 rfl (by first | assumption | (simp [Value.oneCell']; done)) hp rfl rfl (fun w4 (hp : Hp w4 [(_, Cl [_, _, _, _] _), (_, Cl [_, _, _, _] _), (_, Cl [_, _, _, _, _] _), _, _, (_, Cl [_] _), (_, Cl [_, _, _, _] _)]) hf _ => ?_)
                        | refine a_storew (i := 3) rfl rfl rfl rfl Ty.sz_29 rfl (by first | assumption | (simp [Value.oneCell']; done)) hp rfl rfl (fun w4 (hp : Hp w4 [(_, Cl [_, _, _, _] _), (_, Cl [_, _, _, _] _), (_, Cl [_, _, _, _, _] _), _, _, (_, Cl [_] _), (_, Cl [_, _, _, _] _)]) hf _ => ?_)
                        | refine a_storew (i := 4) rfl rfl rfl rfl Ty.sz_29 rfl (by first | assumption | (simp [Value.oneCell']; done)) hp rfl rfl (fun w4 (hp : Hp w4 [(_, Cl [_, _, _, _] _), (_, Cl [_, _, _, _] _), (_, Cl [_, _, _, _, _] _), _, _, (_, Cl [_] _), (_, Cl [_, _, _, _] _)]) hf _ => ?_)
                        | refine a_storew (i := 5) rfl rfl rfl rfl Ty.sz_29 rfl (by first | assumption | (simp [Value.oneCell']; done)) hp rfl rfl (fun w4 (hp : Hp w4 [(_, Cl [_, _, _, _] _), (_, Cl [_, _, _, _] _), (_, Cl [_, _, _, _, _] _), _, _, (_, Cl [_] _), (_, Cl [_, _, _, _] _)]) hf _ => ?_)
                        | refine a_storew (i := 6) rfl rfl rfl rfl Ty.sz_29 rfl (by first | assumption | (simp [Value.oneCell']; done)) hp rfl rfl (fun w4 (hp : Hp w4 [(_, Cl [_, _, _, _] _), (_, Cl [_, _, _, _] _), (_, Cl [_, _, _, _, _] _), _, _, (_, Cl [_] _), (_, Cl [_, _, _, _] _)]) hf _ => ?_)
                      have hF := hF.step hf (by intro y hy; simp only [List.mem_cons, List.not_mem_nil, or_false] at hy; subst hy; first | (exact Or.inr (by omega)) | (exact Or.inl (by simp)))
                      refine Ls_y (wtd0 rfl) rfl rfl (y_assign rfl rfl) ?_
                      refine Ls_nil (Th_n (hK32 _ _ ?_))
                      refine Wp_seq fun K33 hK33 => ?_
                      refine Wp_seq fun K34 hK34 => ?_
                      refine Wp_region ?_
                      refine Ls_y (wtd0 rfl) rfl rfl (y_move rfl rfl) ?_
                      refine Ls_y (wtd0 rfl) rfl rfl (y_neF rfl rfl rfl (by omega)) ?_
                      refine Ls_nil (Th_n (hK34 _ _ ?_))
                      refine Wp_cond_f rfl ?_
                      refine Wp_skip (Th_n (hK33 _ _ ?_))
                      refine Wp_seq fun K35 hK35 => ?_
                      refine Wp_plan (fun W => Hp W (heapOf hp)) [(true, 0), (true, 1), (true, 2), (true, 3), (true, 5), (false, 4), (true, 6), (true, 7), (true, 8), (true, 9), (true, 10), (true, 11), (true, 12), (true, 13), (true, 14), (true, 15), (true, 16), (true, 18), (false, 17), (true, 19), (true, 20), (true, 21), (true, 22), (true, 23), (true, 24), (true, 25), (true, 26), (true, 27)] Ty.mx_0 (by kernel_rfl) (by kernel_rfl) rfl (hp.drew) ?_
                      have hp := hp.drew
                      have hF := hF.step0 (Fr.drew _)
                      refine Pl_y rfl (wtd0 rfl) rfl rfl (y_move rfl rfl) ?_
                      refine Pl_y rfl (wtd0 rfl) rfl rfl (y_not rfl rfl) ?_
                      refine Pl_y rfl (wtd0 rfl) rfl rfl (y_move rfl rfl) ?_
                      refine Pl_bool 103 rfl (fun _ => ?_) (fun hc21 => absurd hc21 (by simp))
                      refine Pl_s rfl (wtdF rfl rfl rfl) rfl rfl ?_
                      refine Pl_s rfl (wtdF rfl rfl rfl) rfl rfl ?_
                      refine Pl_s rfl (wtdF rfl rfl rfl) rfl rfl ?_
                      refine Pl_s rfl (wtdF rfl rfl rfl) rfl rfl ?_
                      refine Pl_s rfl (wtdF rfl rfl rfl) rfl rfl ?_
                      refine Pl_s rfl (wtdU rfl rfl rfl) rfl rfl ?_
                      refine Pl_s rfl (wtdU rfl rfl rfl) rfl rfl ?_
                      refine Pl_s rfl (wtdU rfl rfl rfl) rfl rfl ?_
                      refine Pl_s rfl (wtdF rfl rfl rfl) rfl rfl ?_
                      refine Pl_y rfl (wtd0 rfl) rfl rfl (y_pick_t rfl rfl rfl) ?_
                      refine Pl_y rfl (wtd0 rfl) rfl rfl (y_move rfl rfl) ?_
                      refine Pl_s rfl (wtdF rfl rfl rfl) rfl rfl ?_
                      refine Pl_s rfl (wtdF rfl rfl rfl) rfl rfl ?_
                      refine Pl_s rfl (wtdU rfl rfl rfl) rfl rfl ?_
                      refine Pl_s rfl (wtdU rfl rfl rfl) rfl rfl ?_
                      refine Pl_s rfl (wtdU rfl rfl rfl) rfl rfl ?_
                      refine Pl_s rfl (wtdU rfl rfl rfl) rfl rfl ?_
                      refine Pl_s rfl (wtdF rfl rfl rfl) rfl rfl ?_
                      refine Pl_s rfl (wtdF rfl rfl rfl) rfl rfl ?_
                      refine Pl_s rfl (wtdU rfl rfl rfl) rfl rfl ?_
                      refine Pl_s rfl (wtdU rfl rfl rfl) rfl rfl ?_
                      refine Pl_s rfl (wtdU rfl rfl rfl) rfl rfl ?_
                      refine Pl_s rfl (wtdF rfl rfl rfl) rfl rfl ?_
                      refine Pl_y rfl (wtd0 rfl) rfl rfl (y_pick_t rfl rfl rfl) ?_
                      refine Pl_y rfl (wtd0 rfl) rfl rfl (y_assign rfl rfl) ?_
                      refine Pl_nil (Th_n (hK35 _ _ ?_))
                      refine Wp_ret (Fq_ret (Res1 rfl rfl) ?_)
                      exact ⟨rfl, hF⟩
                    · refine Ls_a (wtd0 rfl) ?_
                      refine a_call rfl rfl rfl rfl (unpack_ok _ _) (fun v wj ⟨hv, hf⟩ => ?_)
                      rw [hu] at hv
                      subst hv
                      have hp := hp.keep0 hf
                      have hF := hF.step0 hf
                      refine Ls_y (wtd0 rfl) rfl rfl (y_move rfl rfl) ?_
                      refine Ls_y (wtd0 rfl) rfl rfl (y_ext rfl rfl rfl) ?_
                      refine Ls_y (wtd0 rfl) rfl rfl (y_ext rfl rfl rfl) ?_
                      refine Ls_a (wtd0 rfl) ?_
                      refine a_alloc rfl rfl rfl Ty.zc_29 hp (fun g3 w3 (hp : Hp w3 [(_, Cl [_, _, _, _] _), (_, Cl [_, _, _, _] _), (_, Cl [_, _, _, _, _] _), _, _, (_, Cl [_] _), (_, Cl [_, _, _, _] _)]) hf hg3 => ?_)
                      have hg3 := Nat.le_trans hF.size hg3
                      have hF := hF.step0 hf
                      refine Ls_a (wtd0 rfl) ?_
                      first
                        | refine a_storew (i := 0) rfl rfl rfl rfl Ty.sz_29 rfl (by first | assumption | (simp [Value.oneCell']; done)) hp rfl rfl (fun w4 (hp : Hp w4 [(_, Cl [_, _, _, _] _), (_, Cl [_, _, _, _] _), (_, Cl [_, _, _, _, _] _), _, _, (_, Cl [_] _), (_, Cl [_, _, _, _] _)]) hf _ => ?_)
                        | refine a_storew (i := 1) rfl rfl rfl rfl Ty.sz_29 rfl (by first | assumption | (simp [Value.oneCell']; done)) hp rfl rfl (fun w4 (hp : Hp w4 [(_, Cl [_, _, _, _] _), (_, Cl [_, _, _, _] _), (_, Cl [_, _, _, _, _] _), _, _, (_, Cl [_] _), (_, Cl [_, _, _, _] _)]) hf _ => ?_)
                        | refine a_storew (i := 2) rfl rfl rfl rfl Ty.sz_29 rfl (by first | assumption | (simp [Value.oneCell']; done)) hp rfl rfl (fun w4 (hp : Hp w4 [(_, Cl [_, _, _, _] _), (_, Cl [_, _, _, _] _), (_, Cl [_, _, _, _, _] _), _, _, (_, Cl [_] _), (_, Cl [_, _, _, _] _)]) hf _ => ?_)
                        | refine a_storew (i := 3) rfl rfl rfl rfl Ty.sz_29 rfl (by first | assumption | (simp [Value.oneCell']; done)) hp rfl rfl (fun w4 (hp : Hp w4 [(_, Cl [_, _, _, _] _), (_, Cl [_, _, _, _] _), (_, Cl [_, _, _, _, _] _), _, _, (_, Cl [_] _), (_, Cl [_, _, _, _] _)]) hf _ => ?_)
                        | refine a_storew (i := 4) rfl rfl rfl rfl Ty.sz_29 rfl (by first | assumption | (simp [Value.oneCell']; done)) hp rfl rfl (fun w4 (hp : Hp w4 [(_, Cl [_, _, _, _] _), (_, Cl [_, _, _, _] _), (_, Cl [_, _, _, _, _] _), _, _, (_, Cl [_] _), (_, Cl [_, _, _, _] _)]) hf _ => ?_)
                        | refine a_storew (i := 5) rfl rfl rfl rfl Ty.sz_29 rfl (by first | assumption | (simp [Value.oneCell']; done)) hp rfl rfl (fun w4 (hp : Hp w4 [(_, Cl [_, _, _, _] _), (_, Cl [_, _, _, _] _), (_, Cl [_, _, _, _, _] _), _, _, (_, Cl [_] _), (_, Cl [_, _, _, _] _)]) hf _ => ?_)
                        | refine a_storew (i := 6) rfl rfl rfl rfl Ty.sz_29 rfl (by first | assumption | (simp [Value.oneCell']; done)) hp rfl rfl (fun w4 (hp : Hp w4 [(_, Cl [_, _, _, _] _), (_, Cl [_, _, _, _] _), (_, Cl [_, _, _, _, _] _), _, _, (_, Cl [_] _), (_, Cl [_, _, _, _] _)]) hf _ => ?_)
                      have hF := hF.step hf (by intro y hy; simp only [List.mem_cons, List.not_mem_nil, or_false] at hy; subst hy; first | (exact Or.inr (by omega)) | (exact Or.inl (by simp)))
                      refine Ls_y (wtd0 rfl) rfl rfl (y_assign rfl rfl) ?_
                      refine Ls_nil (Th_n (hK32 _ _ ?_))
                      refine Wp_seq fun K36 hK36 => ?_
                      refine Wp_seq fun K37 hK37 => ?_
                      refine Wp_region ?_
                      refine Ls_y (wtd0 rfl) rfl rfl (y_move rfl rfl) ?_
                      refine Ls_y (wtd0 rfl) rfl rfl (y_neF rfl rfl rfl (by omega)) ?_
                      refine Ls_nil (Th_n (hK37 _ _ ?_))
                      refine Wp_cond_f rfl ?_
                      refine Wp_skip (Th_n (hK36 _ _ ?_))
                      refine Wp_seq fun K38 hK38 => ?_
                      refine Wp_plan (fun W => Hp W (heapOf hp)) [(true, 0), (true, 1), (true, 2), (true, 3), (true, 5), (false, 4), (true, 6), (true, 7), (true, 8), (true, 9), (true, 10), (true, 11), (true, 12), (true, 13), (true, 14), (true, 15), (true, 16), (true, 18), (false, 17), (true, 19), (true, 20), (true, 21), (true, 22), (true, 23), (true, 24), (true, 25), (true, 26), (true, 27)] Ty.mx_0 (by kernel_rfl) (by kernel_rfl) rfl (hp.drew) ?_
                      have hp := hp.drew
                      have hF := hF.step0 (Fr.drew _)
                      refine Pl_y rfl (wtd0 rfl) rfl rfl (y_move rfl rfl) ?_
                      refine Pl_y rfl (wtd0 rfl) rfl rfl (y_not rfl rfl) ?_
                      refine Pl_y rfl (wtd0 rfl) rfl rfl (y_move rfl rfl) ?_
                      refine Pl_bool 103 rfl (fun hc23 => absurd hc23 (by simp)) (fun _ => ?_)
                      first
                        | refine Pl_y rfl (wtdT rfl rfl rfl) rfl rfl (y_loadw (i := 0) rfl rfl Ty.ag_29 (fun _ h => h) rfl rfl) ?_
                        | refine Pl_y rfl (wtdT rfl rfl rfl) rfl rfl (y_loadw (i := 1) rfl rfl Ty.ag_29 (fun _ h => h) rfl rfl) ?_
                        | refine Pl_y rfl (wtdT rfl rfl rfl) rfl rfl (y_loadw (i := 2) rfl rfl Ty.ag_29 (fun _ h => h) rfl rfl) ?_
                        | refine Pl_y rfl (wtdT rfl rfl rfl) rfl rfl (y_loadw (i := 3) rfl rfl Ty.ag_29 (fun _ h => h) rfl rfl) ?_
                        | refine Pl_y rfl (wtdT rfl rfl rfl) rfl rfl (y_loadw (i := 4) rfl rfl Ty.ag_29 (fun _ h => h) rfl rfl) ?_
                        | refine Pl_y rfl (wtdT rfl rfl rfl) rfl rfl (y_loadw (i := 5) rfl rfl Ty.ag_29 (fun _ h => h) rfl rfl) ?_
                        | refine Pl_y rfl (wtdT rfl rfl rfl) rfl rfl (y_loadw (i := 6) rfl rfl Ty.ag_29 (fun _ h => h) rfl rfl) ?_
                      first
                        | refine Pl_y rfl (wtdT rfl rfl rfl) rfl rfl (y_loadw (i := 0) rfl rfl Ty.ag_25 (fun _ h => h) rfl rfl) ?_
                        | refine Pl_y rfl (wtdT rfl rfl rfl) rfl rfl (y_loadw (i := 1) rfl rfl Ty.ag_25 (fun _ h => h) rfl rfl) ?_
                        | refine Pl_y rfl (wtdT rfl rfl rfl) rfl rfl (y_loadw (i := 2) rfl rfl Ty.ag_25 (fun _ h => h) rfl rfl) ?_
                        | refine Pl_y rfl (wtdT rfl rfl rfl) rfl rfl (y_loadw (i := 3) rfl rfl Ty.ag_25 (fun _ h => h) rfl rfl) ?_
                        | refine Pl_y rfl (wtdT rfl rfl rfl) rfl rfl (y_loadw (i := 4) rfl rfl Ty.ag_25 (fun _ h => h) rfl rfl) ?_
                        | refine Pl_y rfl (wtdT rfl rfl rfl) rfl rfl (y_loadw (i := 5) rfl rfl Ty.ag_25 (fun _ h => h) rfl rfl) ?_
                        | refine Pl_y rfl (wtdT rfl rfl rfl) rfl rfl (y_loadw (i := 6) rfl rfl Ty.ag_25 (fun _ h => h) rfl rfl) ?_
                      refine Pl_a rfl (wtdT rfl rfl rfl) (by rfl) ?_
                      refine a_call rfl rfl rfl rfl (from_ok _ _ _ _ _) (fun v wk ⟨hv, hf⟩ => ?_)
                      subst hv
                      have hp := hp.keep0 hf
                      have hF := hF.step0 hf
                      refine ⟨hp, ?_⟩
                      refine Pl_y rfl (wtdT rfl rfl rfl) rfl rfl (y_eqst rfl rfl rfl Ty.tg_25 rfl) ?_
                      refine Pl_bool 107 rfl (fun _ => ?_) (fun hc24 => absurd hc24 (by simp [cG, cQ, cF, cD]))
                      refine Pl_y rfl (wtdT rfl rfl rfl) rfl rfl (y_move rfl rfl) ?_
                      refine Pl_y rfl (wtdT rfl rfl rfl) rfl rfl (y_move rfl rfl) ?_
                      refine Pl_y rfl (wtdT rfl rfl rfl) rfl rfl (y_move rfl rfl) ?_
                      refine Pl_y rfl (wtdT rfl rfl rfl) rfl rfl (y_eqs rfl rfl rfl) ?_
                      refine Pl_bool 111 rfl (fun _ => ?_) (fun hc25 => absurd hc25 (by simp))
                      refine Pl_y rfl (wtdT rfl rfl rfl) rfl rfl (y_pick_t rfl rfl rfl) ?_
                      refine Pl_y rfl (wtd0 rfl) rfl rfl (y_pick_f rfl rfl rfl) ?_
                      refine Pl_y rfl (wtd0 rfl) rfl rfl (y_move rfl rfl) ?_
                      refine Pl_s rfl (wtdF rfl rfl rfl) rfl rfl ?_
                      refine Pl_s rfl (wtdF rfl rfl rfl) rfl rfl ?_
                      refine Pl_s rfl (wtdU rfl rfl rfl) rfl rfl ?_
                      refine Pl_s rfl (wtdU rfl rfl rfl) rfl rfl ?_
                      refine Pl_s rfl (wtdU rfl rfl rfl) rfl rfl ?_
                      refine Pl_s rfl (wtdU rfl rfl rfl) rfl rfl ?_
                      refine Pl_s rfl (wtdF rfl rfl rfl) rfl rfl ?_
                      refine Pl_s rfl (wtdF rfl rfl rfl) rfl rfl ?_
                      refine Pl_s rfl (wtdU rfl rfl rfl) rfl rfl ?_
                      refine Pl_s rfl (wtdU rfl rfl rfl) rfl rfl ?_
                      refine Pl_s rfl (wtdU rfl rfl rfl) rfl rfl ?_
                      refine Pl_s rfl (wtdF rfl rfl rfl) rfl rfl ?_
                      refine Pl_y rfl (wtd0 rfl) rfl rfl (y_pick_t rfl rfl rfl) ?_
                      refine Pl_y rfl (wtd0 rfl) rfl rfl (y_assign rfl rfl) ?_
                      refine Pl_nil (Th_n (hK38 _ _ ?_))
                      refine Wp_ret (Fq_ret (Res1 rfl rfl) ?_)
                      exact ⟨rfl, hF⟩
                    · cases hov
      · have hne : ¬ (ga = gb ∧ qa = qb) := fun e => hge e.1
        refine Ls_y (wtdT rfl rfl rfl) rfl rfl (y_move rfl rfl) ?_
        refine Ls_s (wtdF rfl rfl rfl) rfl rfl ?_
        refine Ls_s (wtdF rfl rfl rfl) rfl rfl ?_
        refine Ls_s (wtdF rfl rfl rfl) rfl rfl ?_
        refine Ls_s (wtdF rfl rfl rfl) rfl rfl ?_
        refine Ls_s (wtdF rfl rfl rfl) rfl rfl ?_
        refine Ls_y (wtdT rfl rfl rfl) rfl rfl (y_pick_f rfl rfl rfl) ?_
        refine Ls_y (wtd0 rfl) rfl rfl (y_pick_f rfl rfl rfl) ?_
        refine Ls_nil (Th_n (hK5 _ _ ?_))
        refine Wp_cond_f rfl ?_
        refine Wp_skip (Th_n (hK4 _ _ ?_))
        refine Wp_seq fun K39 hK39 => ?_
        refine Wp_region ?_
        refine Ls_a (wtd0 rfl) ?_
        refine a_call rfl rfl rfl rfl (dnew_ok 1 _ (by decide) (by decide)) (fun v wa ⟨p, hv, hN, _⟩ => ?_)
        subst hv
        have hp : Hp wa [(_, Cl [_, _, _, _] _), (_, Cl [_, _, _, _] _), (_, Cl [_, _, _, _, _] _), _, _] := hp.add hN
        have hdk : ∀ y ∈ [p.gd, p.gn, p.gl], w.heap.size ≤ y := fun y hy => Nat.le_trans hF.size (hN.nw y hy)
        have hF := hF.step0 hN.fr
        refine Ls_y (wtd0 rfl) rfl rfl (y_move rfl rfl) ?_
        refine Ls_y (wtd0 rfl) rfl rfl (y_ext rfl rfl rfl) ?_
        refine Ls_y (wtd0 rfl) rfl rfl (y_ext rfl rfl rfl) ?_
        refine Ls_y (wtd0 rfl) rfl rfl (y_assign rfl rfl) ?_
        refine Ls_y (wtd0 rfl) rfl rfl (y_assign rfl rfl) ?_
        refine Ls_nil (Th_n (hK39 _ _ ?_))
        refine Wp_seq fun K40 hK40 => ?_
        refine Wp_region ?_
        first
          | refine Ls_y (wtd0 rfl) rfl rfl (y_loadw (i := 0) rfl rfl Ty.ag_25 (fun _ e => e ▸ hp) rfl rfl) ?_
          | refine Ls_y (wtd0 rfl) rfl rfl (y_loadw (i := 1) rfl rfl Ty.ag_25 (fun _ e => e ▸ hp) rfl rfl) ?_
          | refine Ls_y (wtd0 rfl) rfl rfl (y_loadw (i := 2) rfl rfl Ty.ag_25 (fun _ e => e ▸ hp) rfl rfl) ?_
          | refine Ls_y (wtd0 rfl) rfl rfl (y_loadw (i := 3) rfl rfl Ty.ag_25 (fun _ e => e ▸ hp) rfl rfl) ?_
          | refine Ls_y (wtd0 rfl) rfl rfl (y_loadw (i := 4) rfl rfl Ty.ag_25 (fun _ e => e ▸ hp) rfl rfl) ?_
        refine Ls_a (wtd0 rfl) ?_
        refine a_call rfl rfl rfl rfl (to_ok ga qa fa da _) (fun v wb ⟨hv, hf⟩ => ?_)
        subst hv
        have hp := hp.keep0 hf
        have hF := hF.step0 hf
        refine Ls_a (wtd0 rfl) ?_
        refine a_call rfl rfl rfl rfl (pack_ok ga qa fa da _ hga0 hga hqa0 hqa hfa0 hfa) (fun v wc ⟨hv, hf⟩ => ?_)
        subst hv
        have hp := hp.keep0 hf
        have hF := hF.step0 hf
        refine Ls_y (wtd0 rfl) rfl rfl (y_move rfl rfl) ?_
        refine Ls_y (wtd0 rfl) rfl rfl (y_ext rfl rfl rfl) ?_
        refine Ls_y (wtd0 rfl) rfl rfl (y_ext rfl rfl rfl) ?_
        refine Ls_y (wtd0 rfl) rfl rfl (y_assign rfl rfl) ?_
        refine Ls_y (wtd0 rfl) rfl rfl (y_assign rfl rfl) ?_
        refine Ls_nil (Th_n (hK40 _ _ ?_))
        refine Wp_seq fun K41 hK41 => ?_
        refine Wp_region ?_
        first
          | refine Ls_y (wtd0 rfl) rfl rfl (y_loadw (i := 0) rfl rfl Ty.ag_25 (fun _ e => e ▸ hp) rfl rfl) ?_
          | refine Ls_y (wtd0 rfl) rfl rfl (y_loadw (i := 1) rfl rfl Ty.ag_25 (fun _ e => e ▸ hp) rfl rfl) ?_
          | refine Ls_y (wtd0 rfl) rfl rfl (y_loadw (i := 2) rfl rfl Ty.ag_25 (fun _ e => e ▸ hp) rfl rfl) ?_
          | refine Ls_y (wtd0 rfl) rfl rfl (y_loadw (i := 3) rfl rfl Ty.ag_25 (fun _ e => e ▸ hp) rfl rfl) ?_
          | refine Ls_y (wtd0 rfl) rfl rfl (y_loadw (i := 4) rfl rfl Ty.ag_25 (fun _ e => e ▸ hp) rfl rfl) ?_
        refine Ls_a (wtd0 rfl) ?_
        refine a_call rfl rfl rfl rfl (to_ok gb qb fb db _) (fun v wd ⟨hv, hf⟩ => ?_)
        subst hv
        have hp := hp.keep0 hf
        have hF := hF.step0 hf
        refine Ls_a (wtd0 rfl) ?_
        refine a_call rfl rfl rfl rfl (pack_ok gb qb fb db _ hgb0 hgb hqb0 hqb hfb0 hfb) (fun v we ⟨hv, hf⟩ => ?_)
        subst hv
        have hp := hp.keep0 hf
        have hF := hF.step0 hf
        refine Ls_y (wtd0 rfl) rfl rfl (y_move rfl rfl) ?_
        refine Ls_y (wtd0 rfl) rfl rfl (y_ext rfl rfl rfl) ?_
        refine Ls_y (wtd0 rfl) rfl rfl (y_ext rfl rfl rfl) ?_
        refine Ls_y (wtd0 rfl) rfl rfl (y_assign rfl rfl) ?_
        refine Ls_y (wtd0 rfl) rfl rfl (y_assign rfl rfl) ?_
        refine Ls_nil (Th_n (hK41 _ _ ?_))
        refine Wp_seq fun K42 hK42 => ?_
        refine Wp_seq fun K43 hK43 => ?_
        refine Wp_region ?_
        refine Ls_y (wtd0 rfl) rfl rfl (y_move rfl rfl) ?_
        refine Ls_y (wtd0 rfl) rfl rfl (y_ne rfl rfl rfl) ?_
        refine Ls_bool 62 rfl (fun hea => ?_) (fun hea => ?_)
        all_goals try simp only [decide_eq_true_eq, decide_eq_false_iff_not, beq_iff_eq, bne_iff_ne, ne_eq, beq_eq_false_iff_ne, bne_eq_false_iff_eq, Bool.not_eq_true, Bool.not_eq_false] at hea
        · refine Ls_y (wtd0 rfl) rfl rfl (y_move rfl rfl) ?_
          refine Ls_s (wtdF rfl rfl rfl) rfl rfl ?_
          refine Ls_s (wtdF rfl rfl rfl) rfl rfl ?_
          refine Ls_y (wtd0 rfl) rfl rfl (y_pick_t rfl rfl rfl) ?_
          refine Ls_nil (Th_n (hK43 _ _ ?_))
          refine Wp_cond_t rfl ?_
          refine Wp_seq fun K44 hK44 => ?_
          refine Wp_region ?_
          refine Ls_y (wtd0 rfl) rfl rfl (y_assign rfl rfl) ?_
          refine Ls_nil (Th_n (hK44 _ _ ?_))
          refine Wp_ret (Th_r (Fq_ret (Res1 rfl rfl) ?_))
          exact ⟨rfl, hF⟩
        · refine Ls_y (wtd0 rfl) rfl rfl (y_move rfl rfl) ?_
          refine Ls_y (wtdT rfl rfl rfl) rfl rfl (y_move rfl rfl) ?_
          refine Ls_y (wtdT rfl rfl rfl) rfl rfl (y_ne rfl rfl rfl) ?_
          refine Ls_bool 65 rfl (fun heb => ?_) (fun heb => ?_)
          all_goals try simp only [decide_eq_true_eq, decide_eq_false_iff_not, beq_iff_eq, bne_iff_ne, ne_eq, beq_eq_false_iff_ne, bne_eq_false_iff_eq, Bool.not_eq_true, Bool.not_eq_false] at heb
          · refine Ls_y (wtd0 rfl) rfl rfl (y_pick_f rfl rfl rfl) ?_
            refine Ls_nil (Th_n (hK43 _ _ ?_))
            refine Wp_cond_t rfl ?_
            refine Wp_seq fun K45 hK45 => ?_
            refine Wp_region ?_
            refine Ls_y (wtd0 rfl) rfl rfl (y_assign rfl rfl) ?_
            refine Ls_nil (Th_n (hK45 _ _ ?_))
            refine Wp_ret (Th_r (Fq_ret (Res1 rfl rfl) ?_))
            exact ⟨rfl, hF⟩
          · have hsa := (packS_form (g := ga) (f := fa) (packE_zero hea).1 (packE_zero hea).2).1
            have hsb := (packS_form (g := gb) (f := fb) (packE_zero heb).1 (packE_zero heb).2).1
            have hz64 := zero64_form.1
            refine Ls_y (wtd0 rfl) rfl rfl (y_pick_f rfl rfl rfl) ?_
            refine Ls_nil (Th_n (hK43 _ _ ?_))
            refine Wp_cond_f rfl ?_
            refine Wp_skip (Th_n (hK42 _ _ ?_))
            refine Wp_seq fun K46 hK46 => ?_
            refine Wp_seq fun K47 hK47 => ?_
            refine Wp_region ?_
            refine Ls_y (wtd0 rfl) rfl rfl (y_move rfl rfl) ?_
            refine Ls_y (wtd0 rfl) rfl rfl (y_move rfl rfl) ?_
            refine Ls_bool 68 rfl (fun hov => ?_) (fun hov => ?_)
            all_goals try simp only [decide_eq_true_eq, decide_eq_false_iff_not, beq_iff_eq, bne_iff_ne, ne_eq, beq_eq_false_iff_ne, bne_eq_false_iff_eq, Bool.not_eq_true, Bool.not_eq_false] at hov
            · subst hov
              refine Ls_y (wtdT rfl rfl rfl) rfl rfl (y_move rfl rfl) ?_
              refine Ls_y (wtdT rfl rfl rfl) rfl rfl (y_move rfl rfl) ?_
              refine Ls_a (wtdT rfl rfl rfl) ?_
              refine a_call rfl rfl rfl rfl (dwrite_m p (one (zero64) (zero64)) _ (hp.picks [2, 3, 4] (by decide)) (one_ok hz64 hz64) 0 (packS ga qa fa da)) (fun v wf ⟨hv, hM⟩ => ?_)
              rw [(write_one hsa).1] at hv
              rw [(write_one hsa).2] at hM
              subst hv
              have hp : Hp wf [(_, Cl [_, _, _, _] _), (_, Cl [_, _, _, _] _), (_, Cl [_, _, _, _, _] _), _, _] := hp.call [0, 1] [2, 3, 4] (by decide) rfl hM
              have hF := hF.step hM.fr (fun y hy => Or.inr (hdk y hy))
              refine Ls_y (wtdT rfl rfl rfl) rfl rfl (y_neF rfl rfl rfl (by omega)) ?_
              refine Ls_y (wtdT rfl rfl rfl) rfl rfl (y_move rfl rfl) ?_
              refine Ls_y (wtdT rfl rfl rfl) rfl rfl (y_move rfl rfl) ?_
              refine Ls_a (wtdT rfl rfl rfl) ?_
              refine a_call rfl rfl rfl rfl (dsync_m p (one (packS ga qa fa da) (zero64)) _ (hp.picks [2, 3, 4] (by decide)) (one_ok hsa hz64)) (fun v wg0 ⟨hv, hM⟩ => ?_)
              rw [sync_one.1] at hv
              rw [sync_one.2] at hM
              subst hv
              have hp : Hp wg0 [(_, Cl [_, _, _, _] _), (_, Cl [_, _, _, _] _), (_, Cl [_, _, _, _, _] _), _, _] := hp.call [0, 1] [2, 3, 4] (by decide) rfl hM
              have hF := hF.step hM.fr (fun y hy => Or.inr (hdk y hy))
              refine Ls_y (wtdT rfl rfl rfl) rfl rfl (y_neF rfl rfl rfl (by omega)) ?_
              refine Ls_y (wtdT rfl rfl rfl) rfl rfl (y_pick_f rfl rfl rfl) ?_
              refine Ls_y (wtd0 rfl) rfl rfl (y_pick_t rfl rfl rfl) ?_
              refine Ls_y (wtd0 rfl) rfl rfl (y_move rfl rfl) ?_
              refine Ls_y (wtdT rfl rfl rfl) rfl rfl (y_move rfl rfl) ?_
              refine Ls_y (wtdT rfl rfl rfl) rfl rfl (y_move rfl rfl) ?_
              refine Ls_a (wtdT rfl rfl rfl) ?_
              refine a_call rfl rfl rfl rfl (dwrite_m p (one (packS ga qa fa da) (packS ga qa fa da)) _ (hp.picks [2, 3, 4] (by decide)) (one_ok hsa hsa) 0 (packS gb qb fb db)) (fun v wg1 ⟨hv, hM⟩ => ?_)
              rw [(write_one hsb).1] at hv
              rw [(write_one hsb).2] at hM
              subst hv
              have hp : Hp wg1 [(_, Cl [_, _, _, _] _), (_, Cl [_, _, _, _] _), (_, Cl [_, _, _, _, _] _), _, _] := hp.call [0, 1] [2, 3, 4] (by decide) rfl hM
              have hF := hF.step hM.fr (fun y hy => Or.inr (hdk y hy))
              refine Ls_y (wtdT rfl rfl rfl) rfl rfl (y_neF rfl rfl rfl (by omega)) ?_
              obtain ⟨n, hn, hmend⟩ := mend_one (packS gb qb fb db) (packS ga qa fa da) kp
              · refine Ls_y (wtd0 rfl) rfl rfl (y_pick_f rfl rfl rfl) ?_
                refine Ls_nil (Th_n (hK47 _ _ ?_))
                refine Wp_cond_f rfl ?_
                refine Wp_skip (Th_n (hK46 _ _ ?_))
                refine Wp_seq fun K48 hK48 => ?_
                refine Wp_region ?_
                refine Ls_y (wtd0 rfl) rfl rfl (y_move rfl rfl) ?_
                refine Ls_y (wtd0 rfl) rfl rfl (y_move rfl rfl) ?_
                refine Ls_a (wtd0 rfl) ?_
                refine a_bsl rfl rfl rfl rfl rfl Ty.es_73 Ty.zc_3 rfl (by decide) (by simp [Value.cells]) hp (fun gk wg (hp : Hp wg [(_, Cl [_, _, _, _] _), (_, Cl [_, _, _, _] _), (_, Cl [_, _, _, _, _] _), _, _, (_, Cl [_] _)]) hf hgk => ?_)
                have hgk := Nat.le_trans hF.size hgk
                have hF := hF.step0 hf
                refine Ls_a (wtd0 rfl) ?_
                refine a_call rfl rfl rfl rfl (dmend_ok p (one (packS gb qb fb db) (packS ga qa fa da)) _ (some ⟨gk, 0, none⟩) 1 [kp] [] ⟨rfl, .inr ⟨gk, rfl, rfl, Nat.le_refl _, by decide⟩⟩ (hp.picks [2, 3, 4, 5] (by decide)) (one_ok hsb hsa)) (fun v wh ⟨hv, hM⟩ => ?_)
                subst hv
                rw [hmend] at hM
                have hp : Hp wh [(_, Cl [_, _, _, _] _), (_, Cl [_, _, _, _] _), (_, Cl [_, _, _, _, _] _), _, _, (_, Cl [_] _)] := hp.call [0, 1] [2, 3, 4, 5] (by decide) rfl hM
                have hF := hF.step hM.fr (fr_dk1 hdk hgk)
                refine Ls_nil (Th_n (hK48 _ _ ?_))
                obtain ⟨x, hx⟩ : ∃ x, x = (packS gb qb fb db).take n ++ (packS ga qa fa da).drop n := ⟨_, rfl⟩
                rw [← hx] at hp
                have hxl : x.length = 64 := by rw [hx]; simp only [List.length_append, List.length_take, List.length_drop, hsb, hsa]; omega
                · refine Wp_seq fun K49 hK49 => ?_
                  refine Wp_region ?_
                  refine Ls_y (wtd0 rfl) rfl rfl (y_move rfl rfl) ?_
                  refine Ls_a (wtd0 rfl) ?_
                  refine a_call rfl rfl rfl rfl (dread_ok p (one x x) _ (hp.picks [2, 3, 4] (by decide)) (one_ok hxl hxl) 0) (fun v wi ⟨hv, hw⟩ => ?_)
                  rw [read_one.1, read_one.2] at hv
                  subst hv
                  subst hw
                  refine Ls_y (wtd0 rfl) rfl rfl (y_move rfl rfl) ?_
                  refine Ls_y (wtd0 rfl) rfl rfl (y_ext rfl rfl rfl) ?_
                  refine Ls_y (wtd0 rfl) rfl rfl (y_ext rfl rfl rfl) ?_
                  refine Ls_y (wtd0 rfl) rfl rfl (y_assign rfl rfl) ?_
                  refine Ls_y (wtd0 rfl) rfl rfl (y_assign rfl rfl) ?_
                  refine Ls_nil (Th_n (hK49 _ _ ?_))
                  refine Wp_seq fun K50 hK50 => ?_
                  refine Wp_region ?_
                  refine Ls_y (wtd0 rfl) rfl rfl (y_move rfl rfl) ?_
                  rcases torn_read (over := true) hga0 hga hqa0 hqa hfa0 hfa hgb0 hgb hqb0 hqb hfb0 hfb hea heb hne hn hx with hu | ⟨rfl, hu⟩ | ⟨hov, rfl, hu⟩
                  · refine Ls_a (wtd0 rfl) ?_
                    refine a_call rfl rfl rfl rfl (unpack_ok x _) (fun v wj ⟨hv, hf⟩ => ?_)
                    rw [hu] at hv
                    subst hv
                    have hp := hp.keep0 hf
                    have hF := hF.step0 hf
                    refine Ls_y (wtd0 rfl) rfl rfl (y_move rfl rfl) ?_
                    refine Ls_y (wtd0 rfl) rfl rfl (y_ext rfl rfl rfl) ?_
                    refine Ls_y (wtd0 rfl) rfl rfl (y_ext rfl rfl rfl) ?_
                    refine Ls_a (wtd0 rfl) ?_
                    refine a_alloc rfl rfl rfl Ty.zc_29 hp (fun g3 w3 (hp : Hp w3 [(_, Cl [_, _, _, _] _), (_, Cl [_, _, _, _] _), (_, Cl [_, _, _, _, _] _), _, _, (_, Cl [_] _), (_, Cl [_, _, _, _] _)]) hf hg3 => ?_)
                    have hg3 := Nat.le_trans hF.size hg3
                    have hF := hF.step0 hf
                    refine Ls_a (wtd0 rfl) ?_
                    first
                      | refine a_storew (i := 0) rfl rfl rfl rfl Ty.sz_29 rfl (by first | assumption | (simp [Value.oneCell']; done)) hp rfl rfl (fun w4 (hp : Hp w4 [(_, Cl [_, _, _, _] _), (_, Cl [_, _, _, _] _), (_, Cl [_, _, _, _, _] _), _, _, (_, Cl [_] _), (_, Cl [_, _, _, _] _)]) hf _ => ?_)
                      | refine a_storew (i := 1) rfl rfl rfl rfl Ty.sz_29 rfl (by first | assumption | (simp [Value.oneCell']; done)) hp rfl rfl (fun w4 (hp : Hp w4 [(_, Cl [_, _, _, _] _), (_, Cl [_, _, _, _] _), (_, Cl [_, _, _, _, _] _), _, _, (_, Cl [_] _), (_, Cl [_, _, _, _] _)]) hf _ => ?_)
                      | refine a_storew (i := 2) rfl rfl rfl rfl Ty.sz_29 rfl (by first | assumption | (simp [Value.oneCell']; done)) hp rfl rfl (fun w4 (hp : Hp w4 [(_, Cl [_, _, _, _] _), (_, Cl [_, _, _, _] _), (_, Cl [_, _, _, _, _] _), _, _, (_, Cl [_] _), (_, Cl [_, _, _, _] _)]) hf _ => ?_)
                      | refine a_storew (i := 3) rfl rfl rfl rfl Ty.sz_29 rfl (by first | assumption | (simp [Value.oneCell']; done)) hp rfl rfl (fun w4 (hp : Hp w4 [(_, Cl [_, _, _, _] _), (_, Cl [_, _, _, _] _), (_, Cl [_, _, _, _, _] _), _, _, (_, Cl [_] _), (_, Cl [_, _, _, _] _)]) hf _ => ?_)
                      | refine a_storew (i := 4) rfl rfl rfl rfl Ty.sz_29 rfl (by first | assumption | (simp [Value.oneCell']; done)) hp rfl rfl (fun w4 (hp : Hp w4 [(_, Cl [_, _, _, _] _), (_, Cl [_, _, _, _] _), (_, Cl [_, _, _, _, _] _), _, _, (_, Cl [_] _), (_, Cl [_, _, _, _] _)]) hf _ => ?_)
                      | refine a_storew (i := 5) rfl rfl rfl rfl Ty.sz_29 rfl (by first | assumption | (simp [Value.oneCell']; done)) hp rfl rfl (fun w4 (hp : Hp w4 [(_, Cl [_, _, _, _] _), (_, Cl [_, _, _, _] _), (_, Cl [_, _, _, _, _] _), _, _, (_, Cl [_] _), (_, Cl [_, _, _, _] _)]) hf _ => ?_)
                      | refine a_storew (i := 6) rfl rfl rfl rfl Ty.sz_29 rfl (by first | assumption | (simp [Value.oneCell']; done)) hp rfl rfl (fun w4 (hp : Hp w4 [(_, Cl [_, _, _, _] _), (_, Cl [_, _, _, _] _), (_, Cl [_, _, _, _, _] _), _, _, (_, Cl [_] _), (_, Cl [_, _, _, _] _)]) hf _ => ?_)
                    have hF := hF.step hf (by intro y hy; simp only [List.mem_cons, List.not_mem_nil, or_false] at hy; subst hy; first | (exact Or.inr (by omega)) | (exact Or.inl (by simp)))
                    refine Ls_y (wtd0 rfl) rfl rfl (y_assign rfl rfl) ?_
                    refine Ls_nil (Th_n (hK50 _ _ ?_))
                    refine Wp_seq fun K51 hK51 => ?_
                    refine Wp_seq fun K52 hK52 => ?_
                    refine Wp_region ?_
                    refine Ls_y (wtd0 rfl) rfl rfl (y_move rfl rfl) ?_
                    refine Ls_y (wtd0 rfl) rfl rfl (y_neF rfl rfl rfl (by omega)) ?_
                    refine Ls_nil (Th_n (hK52 _ _ ?_))
                    refine Wp_cond_f rfl ?_
                    refine Wp_skip (Th_n (hK51 _ _ ?_))
                    refine Wp_seq fun K53 hK53 => ?_
                    refine Wp_plan (fun W => Hp W (heapOf hp)) [(true, 0), (true, 1), (true, 2), (true, 3), (true, 5), (false, 4), (true, 6), (true, 7), (true, 8), (true, 9), (true, 10), (true, 11), (true, 12), (true, 13), (true, 14), (true, 15), (true, 16), (true, 18), (false, 17), (true, 19), (true, 20), (true, 21), (true, 22), (true, 23), (true, 24), (true, 25), (true, 26), (true, 27)] Ty.mx_0 (by kernel_rfl) (by kernel_rfl) rfl (hp.drew) ?_
                    have hp := hp.drew
                    have hF := hF.step0 (Fr.drew _)
                    refine Pl_y rfl (wtd0 rfl) rfl rfl (y_move rfl rfl) ?_
                    refine Pl_y rfl (wtd0 rfl) rfl rfl (y_not rfl rfl) ?_
                    refine Pl_y rfl (wtd0 rfl) rfl rfl (y_move rfl rfl) ?_
                    refine Pl_bool 103 rfl (fun _ => ?_) (fun hc30 => absurd hc30 (by simp))
                    refine Pl_s rfl (wtdF rfl rfl rfl) rfl rfl ?_
                    refine Pl_s rfl (wtdF rfl rfl rfl) rfl rfl ?_
                    refine Pl_s rfl (wtdF rfl rfl rfl) rfl rfl ?_
                    refine Pl_s rfl (wtdF rfl rfl rfl) rfl rfl ?_
                    refine Pl_s rfl (wtdF rfl rfl rfl) rfl rfl ?_
                    refine Pl_s rfl (wtdU rfl rfl rfl) rfl rfl ?_
                    refine Pl_s rfl (wtdU rfl rfl rfl) rfl rfl ?_
                    refine Pl_s rfl (wtdU rfl rfl rfl) rfl rfl ?_
                    refine Pl_s rfl (wtdF rfl rfl rfl) rfl rfl ?_
                    refine Pl_y rfl (wtd0 rfl) rfl rfl (y_pick_t rfl rfl rfl) ?_
                    refine Pl_y rfl (wtd0 rfl) rfl rfl (y_move rfl rfl) ?_
                    refine Pl_s rfl (wtdF rfl rfl rfl) rfl rfl ?_
                    refine Pl_s rfl (wtdF rfl rfl rfl) rfl rfl ?_
                    refine Pl_s rfl (wtdU rfl rfl rfl) rfl rfl ?_
                    refine Pl_s rfl (wtdU rfl rfl rfl) rfl rfl ?_
                    refine Pl_s rfl (wtdU rfl rfl rfl) rfl rfl ?_
                    refine Pl_s rfl (wtdU rfl rfl rfl) rfl rfl ?_
                    refine Pl_s rfl (wtdF rfl rfl rfl) rfl rfl ?_
                    refine Pl_s rfl (wtdF rfl rfl rfl) rfl rfl ?_
                    refine Pl_s rfl (wtdU rfl rfl rfl) rfl rfl ?_
                    refine Pl_s rfl (wtdU rfl rfl rfl) rfl rfl ?_
                    refine Pl_s rfl (wtdU rfl rfl rfl) rfl rfl ?_
                    refine Pl_s rfl (wtdF rfl rfl rfl) rfl rfl ?_
                    refine Pl_y rfl (wtd0 rfl) rfl rfl (y_pick_t rfl rfl rfl) ?_
                    refine Pl_y rfl (wtd0 rfl) rfl rfl (y_assign rfl rfl) ?_
                    refine Pl_nil (Th_n (hK53 _ _ ?_))
                    refine Wp_ret (Fq_ret (Res1 rfl rfl) ?_)
                    exact ⟨rfl, hF⟩
                  · refine Ls_a (wtd0 rfl) ?_
                    refine a_call rfl rfl rfl rfl (unpack_ok _ _) (fun v wj ⟨hv, hf⟩ => ?_)
                    rw [hu] at hv
                    subst hv
                    have hp := hp.keep0 hf
                    have hF := hF.step0 hf
                    refine Ls_y (wtd0 rfl) rfl rfl (y_move rfl rfl) ?_
                    refine Ls_y (wtd0 rfl) rfl rfl (y_ext rfl rfl rfl) ?_
                    refine Ls_y (wtd0 rfl) rfl rfl (y_ext rfl rfl rfl) ?_
                    refine Ls_a (wtd0 rfl) ?_
                    refine a_alloc rfl rfl rfl Ty.zc_29 hp (fun g3 w3 (hp : Hp w3 [(_, Cl [_, _, _, _] _), (_, Cl [_, _, _, _] _), (_, Cl [_, _, _, _, _] _), _, _, (_, Cl [_] _), (_, Cl [_, _, _, _] _)]) hf hg3 => ?_)
                    have hg3 := Nat.le_trans hF.size hg3
                    have hF := hF.step0 hf
                    refine Ls_a (wtd0 rfl) ?_
                    first
                      | refine a_storew (i := 0) rfl rfl rfl rfl Ty.sz_29 rfl (by first | assumption | (simp [Value.oneCell']; done)) hp rfl rfl (fun w4 (hp : Hp w4 [(_, Cl [_, _, _, _] _), (_, Cl [_, _, _, _] _), (_, Cl [_, _, _, _, _] _), _, _, (_, Cl [_] _), (_, Cl [_, _, _, _] _)]) hf _ => ?_)
                      | refine a_storew (i := 1) rfl rfl rfl rfl Ty.sz_29 rfl (by first | assumption | (simp [Value.oneCell']; done)) hp rfl rfl (fun w4 (hp : Hp w4 [(_, Cl [_, _, _, _] _), (_, Cl [_, _, _, _] _), (_, Cl [_, _, _, _, _] _), _, _, (_, Cl [_] _), (_, Cl [_, _, _, _] _)]) hf _ => ?_)
                      | refine a_storew (i := 2) rfl rfl rfl rfl Ty.sz_29 rfl (by first | assumption | (simp [Value.oneCell']; done)) hp rfl rfl (fun w4 (hp : Hp w4 [(_, Cl [_, _, _, _] _), (_, Cl [_, _, _, _] _), (_, Cl [_, _, _, _, _] _), _, _, (_, Cl [_] _), (_, Cl [_, _, _, _] _)]) hf _ => ?_)
                      | refine a_storew (i := 3) rfl rfl rfl rfl Ty.sz_29 rfl (by first | assumption | (simp [Value.oneCell']; done)) hp rfl rfl (fun w4 (hp : Hp w4 [(_, Cl [_, _, _, _] _), (_, Cl [_, _, _, _] _), (_, Cl [_, _, _, _, _] _), _, _, (_, Cl [_] _), (_, Cl [_, _, _, _] _)]) hf _ => ?_)
                      | refine a_storew (i := 4) rfl rfl rfl rfl Ty.sz_29 rfl (by first | assumption | (simp [Value.oneCell']; done)) hp rfl rfl (fun w4 (hp : Hp w4 [(_, Cl [_, _, _, _] _), (_, Cl [_, _, _, _] _), (_, Cl [_, _, _, _, _] _), _, _, (_, Cl [_] _), (_, Cl [_, _, _, _] _)]) hf _ => ?_)
                      | refine a_storew (i := 5) rfl rfl rfl rfl Ty.sz_29 rfl (by first | assumption | (simp [Value.oneCell']; done)) hp rfl rfl (fun w4 (hp : Hp w4 [(_, Cl [_, _, _, _] _), (_, Cl [_, _, _, _] _), (_, Cl [_, _, _, _, _] _), _, _, (_, Cl [_] _), (_, Cl [_, _, _, _] _)]) hf _ => ?_)
                      | refine a_storew (i := 6) rfl rfl rfl rfl Ty.sz_29 rfl (by first | assumption | (simp [Value.oneCell']; done)) hp rfl rfl (fun w4 (hp : Hp w4 [(_, Cl [_, _, _, _] _), (_, Cl [_, _, _, _] _), (_, Cl [_, _, _, _, _] _), _, _, (_, Cl [_] _), (_, Cl [_, _, _, _] _)]) hf _ => ?_)
                    have hF := hF.step hf (by intro y hy; simp only [List.mem_cons, List.not_mem_nil, or_false] at hy; subst hy; first | (exact Or.inr (by omega)) | (exact Or.inl (by simp)))
                    refine Ls_y (wtd0 rfl) rfl rfl (y_assign rfl rfl) ?_
                    refine Ls_nil (Th_n (hK50 _ _ ?_))
                    refine Wp_seq fun K54 hK54 => ?_
                    refine Wp_seq fun K55 hK55 => ?_
                    refine Wp_region ?_
                    refine Ls_y (wtd0 rfl) rfl rfl (y_move rfl rfl) ?_
                    refine Ls_y (wtd0 rfl) rfl rfl (y_neF rfl rfl rfl (by omega)) ?_
                    refine Ls_nil (Th_n (hK55 _ _ ?_))
                    refine Wp_cond_f rfl ?_
                    refine Wp_skip (Th_n (hK54 _ _ ?_))
                    refine Wp_seq fun K56 hK56 => ?_
                    refine Wp_plan (fun W => Hp W (heapOf hp)) [(true, 0), (true, 1), (true, 2), (true, 3), (true, 5), (false, 4), (true, 6), (true, 7), (true, 8), (true, 9), (true, 10), (true, 11), (true, 12), (true, 13), (true, 14), (true, 15), (true, 16), (true, 18), (false, 17), (true, 19), (true, 20), (true, 21), (true, 22), (true, 23), (true, 24), (true, 25), (true, 26), (true, 27)] Ty.mx_0 (by kernel_rfl) (by kernel_rfl) rfl (hp.drew) ?_
                    have hp := hp.drew
                    have hF := hF.step0 (Fr.drew _)
                    refine Pl_y rfl (wtd0 rfl) rfl rfl (y_move rfl rfl) ?_
                    refine Pl_y rfl (wtd0 rfl) rfl rfl (y_not rfl rfl) ?_
                    refine Pl_y rfl (wtd0 rfl) rfl rfl (y_move rfl rfl) ?_
                    refine Pl_bool 103 rfl (fun hc32 => absurd hc32 (by simp)) (fun _ => ?_)
                    first
                      | refine Pl_y rfl (wtdT rfl rfl rfl) rfl rfl (y_loadw (i := 0) rfl rfl Ty.ag_29 (fun _ h => h) rfl rfl) ?_
                      | refine Pl_y rfl (wtdT rfl rfl rfl) rfl rfl (y_loadw (i := 1) rfl rfl Ty.ag_29 (fun _ h => h) rfl rfl) ?_
                      | refine Pl_y rfl (wtdT rfl rfl rfl) rfl rfl (y_loadw (i := 2) rfl rfl Ty.ag_29 (fun _ h => h) rfl rfl) ?_
                      | refine Pl_y rfl (wtdT rfl rfl rfl) rfl rfl (y_loadw (i := 3) rfl rfl Ty.ag_29 (fun _ h => h) rfl rfl) ?_
                      | refine Pl_y rfl (wtdT rfl rfl rfl) rfl rfl (y_loadw (i := 4) rfl rfl Ty.ag_29 (fun _ h => h) rfl rfl) ?_
                      | refine Pl_y rfl (wtdT rfl rfl rfl) rfl rfl (y_loadw (i := 5) rfl rfl Ty.ag_29 (fun _ h => h) rfl rfl) ?_
                      | refine Pl_y rfl (wtdT rfl rfl rfl) rfl rfl (y_loadw (i := 6) rfl rfl Ty.ag_29 (fun _ h => h) rfl rfl) ?_
                    first
                      | refine Pl_y rfl (wtdT rfl rfl rfl) rfl rfl (y_loadw (i := 0) rfl rfl Ty.ag_25 (fun _ h => h) rfl rfl) ?_
                      | refine Pl_y rfl (wtdT rfl rfl rfl) rfl rfl (y_loadw (i := 1) rfl rfl Ty.ag_25 (fun _ h => h) rfl rfl) ?_
                      | refine Pl_y rfl (wtdT rfl rfl rfl) rfl rfl (y_loadw (i := 2) rfl rfl Ty.ag_25 (fun _ h => h) rfl rfl) ?_
                      | refine Pl_y rfl (wtdT rfl rfl rfl) rfl rfl (y_loadw (i := 3) rfl rfl Ty.ag_25 (fun _ h => h) rfl rfl) ?_
                      | refine Pl_y rfl (wtdT rfl rfl rfl) rfl rfl (y_loadw (i := 4) rfl rfl Ty.ag_25 (fun _ h => h) rfl rfl) ?_
                      | refine Pl_y rfl (wtdT rfl rfl rfl) rfl rfl (y_loadw (i := 5) rfl rfl Ty.ag_25 (fun _ h => h) rfl rfl) ?_
                      | refine Pl_y rfl (wtdT rfl rfl rfl) rfl rfl (y_loadw (i := 6) rfl rfl Ty.ag_25 (fun _ h => h) rfl rfl) ?_
                    refine Pl_a rfl (wtdT rfl rfl rfl) (by rfl) ?_
                    refine a_call rfl rfl rfl rfl (from_ok _ _ _ _ _) (fun v wk ⟨hv, hf⟩ => ?_)
                    subst hv
                    have hp := hp.keep0 hf
                    have hF := hF.step0 hf
                    refine ⟨hp, ?_⟩
                    refine Pl_y rfl (wtdT rfl rfl rfl) rfl rfl (y_eqst rfl rfl rfl Ty.tg_25 rfl) ?_
                    refine Pl_bool 107 rfl (fun _ => ?_) (fun hc33 => absurd hc33 (by simp [cG, cQ, cF, cD]))
                    refine Pl_y rfl (wtdT rfl rfl rfl) rfl rfl (y_move rfl rfl) ?_
                    refine Pl_y rfl (wtdT rfl rfl rfl) rfl rfl (y_move rfl rfl) ?_
                    refine Pl_y rfl (wtdT rfl rfl rfl) rfl rfl (y_move rfl rfl) ?_
                    refine Pl_y rfl (wtdT rfl rfl rfl) rfl rfl (y_eqs rfl rfl rfl) ?_
                    refine Pl_bool 111 rfl (fun _ => ?_) (fun hc34 => absurd hc34 (by simp))
                    refine Pl_y rfl (wtdT rfl rfl rfl) rfl rfl (y_pick_t rfl rfl rfl) ?_
                    refine Pl_y rfl (wtd0 rfl) rfl rfl (y_pick_f rfl rfl rfl) ?_
                    refine Pl_y rfl (wtd0 rfl) rfl rfl (y_move rfl rfl) ?_
                    refine Pl_s rfl (wtdF rfl rfl rfl) rfl rfl ?_
                    refine Pl_s rfl (wtdF rfl rfl rfl) rfl rfl ?_
                    refine Pl_s rfl (wtdU rfl rfl rfl) rfl rfl ?_
                    refine Pl_s rfl (wtdU rfl rfl rfl) rfl rfl ?_
                    refine Pl_s rfl (wtdU rfl rfl rfl) rfl rfl ?_
                    refine Pl_s rfl (wtdU rfl rfl rfl) rfl rfl ?_
                    refine Pl_s rfl (wtdF rfl rfl rfl) rfl rfl ?_
                    refine Pl_s rfl (wtdF rfl rfl rfl) rfl rfl ?_
                    refine Pl_s rfl (wtdU rfl rfl rfl) rfl rfl ?_
                    refine Pl_s rfl (wtdU rfl rfl rfl) rfl rfl ?_
                    refine Pl_s rfl (wtdU rfl rfl rfl) rfl rfl ?_
                    refine Pl_s rfl (wtdF rfl rfl rfl) rfl rfl ?_
                    refine Pl_y rfl (wtd0 rfl) rfl rfl (y_pick_t rfl rfl rfl) ?_
                    refine Pl_y rfl (wtd0 rfl) rfl rfl (y_assign rfl rfl) ?_
                    refine Pl_nil (Th_n (hK56 _ _ ?_))
                    refine Wp_ret (Fq_ret (Res1 rfl rfl) ?_)
                    exact ⟨rfl, hF⟩
                  · refine Ls_a (wtd0 rfl) ?_
                    refine a_call rfl rfl rfl rfl (unpack_ok _ _) (fun v wj ⟨hv, hf⟩ => ?_)
                    rw [hu] at hv
                    subst hv
                    have hp := hp.keep0 hf
                    have hF := hF.step0 hf
                    refine Ls_y (wtd0 rfl) rfl rfl (y_move rfl rfl) ?_
                    refine Ls_y (wtd0 rfl) rfl rfl (y_ext rfl rfl rfl) ?_
                    refine Ls_y (wtd0 rfl) rfl rfl (y_ext rfl rfl rfl) ?_
                    refine Ls_a (wtd0 rfl) ?_
                    refine a_alloc rfl rfl rfl Ty.zc_29 hp (fun g3 w3 (hp : Hp w3 [(_, Cl [_, _, _, _] _), (_, Cl [_, _, _, _] _), (_, Cl [_, _, _, _, _] _), _, _, (_, Cl [_] _), (_, Cl [_, _, _, _] _)]) hf hg3 => ?_)
                    have hg3 := Nat.le_trans hF.size hg3
                    have hF := hF.step0 hf
                    refine Ls_a (wtd0 rfl) ?_
                    first
                      | refine a_storew (i := 0) rfl rfl rfl rfl Ty.sz_29 rfl (by first | assumption | (simp [Value.oneCell']; done)) hp rfl rfl (fun w4 (hp : Hp w4 [(_, Cl [_, _, _, _] _), (_, Cl [_, _, _, _] _), (_, Cl [_, _, _, _, _] _), _, _, (_, Cl [_] _), (_, Cl [_, _, _, _] _)]) hf _ => ?_)
                      | refine a_storew (i := 1) rfl rfl rfl rfl Ty.sz_29 rfl (by first | assumption | (simp [Value.oneCell']; done)) hp rfl rfl (fun w4 (hp : Hp w4 [(_, Cl [_, _, _, _] _), (_, Cl [_, _, _, _] _), (_, Cl [_, _, _, _, _] _), _, _, (_, Cl [_] _), (_, Cl [_, _, _, _] _)]) hf _ => ?_)
                      | refine a_storew (i := 2) rfl rfl rfl rfl Ty.sz_29 rfl (by first | assumption | (simp [Value.oneCell']; done)) hp rfl rfl (fun w4 (hp : Hp w4 [(_, Cl [_, _, _, _] _), (_, Cl [_, _, _, _] _), (_, Cl [_, _, _, _, _] _), _, _, (_, Cl [_] _), (_, Cl [_, _, _, _] _)]) hf _ => ?_)
                      | refine a_storew (i := 3) rfl rfl rfl rfl Ty.sz_29 rfl (by first | assumption | (simp [Value.oneCell']; done)) hp rfl rfl (fun w4 (hp : Hp w4 [(_, Cl [_, _, _, _] _), (_, Cl [_, _, _, _] _), (_, Cl [_, _, _, _, _] _), _, _, (_, Cl [_] _), (_, Cl [_, _, _, _] _)]) hf _ => ?_)
                      | refine a_storew (i := 4) rfl rfl rfl rfl Ty.sz_29 rfl (by first | assumption | (simp [Value.oneCell']; done)) hp rfl rfl (fun w4 (hp : Hp w4 [(_, Cl [_, _, _, _] _), (_, Cl [_, _, _, _] _), (_, Cl [_, _, _, _, _] _), _, _, (_, Cl [_] _), (_, Cl [_, _, _, _] _)]) hf _ => ?_)
                      | refine a_storew (i := 5) rfl rfl rfl rfl Ty.sz_29 rfl (by first | assumption | (simp [Value.oneCell']; done)) hp rfl rfl (fun w4 (hp : Hp w4 [(_, Cl [_, _, _, _] _), (_, Cl [_, _, _, _] _), (_, Cl [_, _, _, _, _] _), _, _, (_, Cl [_] _), (_, Cl [_, _, _, _] _)]) hf _ => ?_)
                      | refine a_storew (i := 6) rfl rfl rfl rfl Ty.sz_29 rfl (by first | assumption | (simp [Value.oneCell']; done)) hp rfl rfl (fun w4 (hp : Hp w4 [(_, Cl [_, _, _, _] _), (_, Cl [_, _, _, _] _), (_, Cl [_, _, _, _, _] _), _, _, (_, Cl [_] _), (_, Cl [_, _, _, _] _)]) hf _ => ?_)
                    have hF := hF.step hf (by intro y hy; simp only [List.mem_cons, List.not_mem_nil, or_false] at hy; subst hy; first | (exact Or.inr (by omega)) | (exact Or.inl (by simp)))
                    refine Ls_y (wtd0 rfl) rfl rfl (y_assign rfl rfl) ?_
                    refine Ls_nil (Th_n (hK50 _ _ ?_))
                    refine Wp_seq fun K57 hK57 => ?_
                    refine Wp_seq fun K58 hK58 => ?_
                    refine Wp_region ?_
                    refine Ls_y (wtd0 rfl) rfl rfl (y_move rfl rfl) ?_
                    refine Ls_y (wtd0 rfl) rfl rfl (y_neF rfl rfl rfl (by omega)) ?_
                    refine Ls_nil (Th_n (hK58 _ _ ?_))
                    refine Wp_cond_f rfl ?_
                    refine Wp_skip (Th_n (hK57 _ _ ?_))
                    refine Wp_seq fun K59 hK59 => ?_
                    refine Wp_plan (fun W => Hp W (heapOf hp)) [(true, 0), (true, 1), (true, 2), (true, 3), (true, 5), (false, 4), (true, 6), (true, 7), (true, 8), (true, 9), (true, 10), (true, 11), (true, 12), (true, 13), (true, 14), (true, 15), (true, 16), (true, 18), (false, 17), (true, 19), (true, 20), (true, 21), (true, 22), (true, 23), (true, 24), (true, 25), (true, 26), (true, 27)] Ty.mx_0 (by kernel_rfl) (by kernel_rfl) rfl (hp.drew) ?_
                    have hp := hp.drew
                    have hF := hF.step0 (Fr.drew _)
                    refine Pl_y rfl (wtd0 rfl) rfl rfl (y_move rfl rfl) ?_
                    refine Pl_y rfl (wtd0 rfl) rfl rfl (y_not rfl rfl) ?_
                    refine Pl_y rfl (wtd0 rfl) rfl rfl (y_move rfl rfl) ?_
                    refine Pl_bool 103 rfl (fun hc36 => absurd hc36 (by simp)) (fun _ => ?_)
                    first
                      | refine Pl_y rfl (wtdT rfl rfl rfl) rfl rfl (y_loadw (i := 0) rfl rfl Ty.ag_29 (fun _ h => h) rfl rfl) ?_
                      | refine Pl_y rfl (wtdT rfl rfl rfl) rfl rfl (y_loadw (i := 1) rfl rfl Ty.ag_29 (fun _ h => h) rfl rfl) ?_
                      | refine Pl_y rfl (wtdT rfl rfl rfl) rfl rfl (y_loadw (i := 2) rfl rfl Ty.ag_29 (fun _ h => h) rfl rfl) ?_
                      | refine Pl_y rfl (wtdT rfl rfl rfl) rfl rfl (y_loadw (i := 3) rfl rfl Ty.ag_29 (fun _ h => h) rfl rfl) ?_
                      | refine Pl_y rfl (wtdT rfl rfl rfl) rfl rfl (y_loadw (i := 4) rfl rfl Ty.ag_29 (fun _ h => h) rfl rfl) ?_
                      | refine Pl_y rfl (wtdT rfl rfl rfl) rfl rfl (y_loadw (i := 5) rfl rfl Ty.ag_29 (fun _ h => h) rfl rfl) ?_
                      | refine Pl_y rfl (wtdT rfl rfl rfl) rfl rfl (y_loadw (i := 6) rfl rfl Ty.ag_29 (fun _ h => h) rfl rfl) ?_
                    first
                      | refine Pl_y rfl (wtdT rfl rfl rfl) rfl rfl (y_loadw (i := 0) rfl rfl Ty.ag_25 (fun _ h => h) rfl rfl) ?_
                      | refine Pl_y rfl (wtdT rfl rfl rfl) rfl rfl (y_loadw (i := 1) rfl rfl Ty.ag_25 (fun _ h => h) rfl rfl) ?_
                      | refine Pl_y rfl (wtdT rfl rfl rfl) rfl rfl (y_loadw (i := 2) rfl rfl Ty.ag_25 (fun _ h => h) rfl rfl) ?_
                      | refine Pl_y rfl (wtdT rfl rfl rfl) rfl rfl (y_loadw (i := 3) rfl rfl Ty.ag_25 (fun _ h => h) rfl rfl) ?_
                      | refine Pl_y rfl (wtdT rfl rfl rfl) rfl rfl (y_loadw (i := 4) rfl rfl Ty.ag_25 (fun _ h => h) rfl rfl) ?_
                      | refine Pl_y rfl (wtdT rfl rfl rfl) rfl rfl (y_loadw (i := 5) rfl rfl Ty.ag_25 (fun _ h => h) rfl rfl) ?_
                      | refine Pl_y rfl (wtdT rfl rfl rfl) rfl rfl (y_loadw (i := 6) rfl rfl Ty.ag_25 (fun _ h => h) rfl rfl) ?_
                    refine Pl_a rfl (wtdT rfl rfl rfl) (by rfl) ?_
                    refine a_call rfl rfl rfl rfl (from_ok _ _ _ _ _) (fun v wk ⟨hv, hf⟩ => ?_)
                    subst hv
                    have hp := hp.keep0 hf
                    have hF := hF.step0 hf
                    refine ⟨hp, ?_⟩
                    refine Pl_y rfl (wtdT rfl rfl rfl) rfl rfl (y_eqst rfl rfl rfl Ty.tg_25 rfl) ?_
                    refine Pl_bool 107 rfl (fun hc37 => absurd hc37 (by simp [cG, cQ, cF, cD]; intro e1 e2; exact absurd ⟨e1, e2⟩ hne)) (fun _ => ?_)
                    refine Pl_y rfl (wtdT rfl rfl rfl) rfl rfl (y_move rfl rfl) ?_
                    refine Pl_s rfl (wtdF rfl rfl rfl) rfl rfl ?_
                    refine Pl_s rfl (wtdF rfl rfl rfl) rfl rfl ?_
                    refine Pl_s rfl (wtdF rfl rfl rfl) rfl rfl ?_
                    refine Pl_y rfl (wtdT rfl rfl rfl) rfl rfl (y_pick_f rfl rfl rfl) ?_
                    refine Pl_y rfl (wtd0 rfl) rfl rfl (y_pick_f rfl rfl rfl) ?_
                    refine Pl_y rfl (wtd0 rfl) rfl rfl (y_move rfl rfl) ?_
                    refine Pl_y rfl (wtdT rfl rfl rfl) rfl rfl (y_move rfl rfl) ?_
                    refine Pl_y rfl (wtdT rfl rfl rfl) rfl rfl (y_move rfl rfl) ?_
                    refine Pl_bool 116 rfl (fun _ => ?_) (fun hc38 => absurd hc38 (by simp))
                    first
                      | refine Pl_y rfl (wtdT rfl rfl rfl) rfl rfl (y_loadw (i := 0) rfl rfl Ty.ag_29 (fun _ h => h) rfl rfl) ?_
                      | refine Pl_y rfl (wtdT rfl rfl rfl) rfl rfl (y_loadw (i := 1) rfl rfl Ty.ag_29 (fun _ h => h) rfl rfl) ?_
                      | refine Pl_y rfl (wtdT rfl rfl rfl) rfl rfl (y_loadw (i := 2) rfl rfl Ty.ag_29 (fun _ h => h) rfl rfl) ?_
                      | refine Pl_y rfl (wtdT rfl rfl rfl) rfl rfl (y_loadw (i := 3) rfl rfl Ty.ag_29 (fun _ h => h) rfl rfl) ?_
                      | refine Pl_y rfl (wtdT rfl rfl rfl) rfl rfl (y_loadw (i := 4) rfl rfl Ty.ag_29 (fun _ h => h) rfl rfl) ?_
                      | refine Pl_y rfl (wtdT rfl rfl rfl) rfl rfl (y_loadw (i := 5) rfl rfl Ty.ag_29 (fun _ h => h) rfl rfl) ?_
                      | refine Pl_y rfl (wtdT rfl rfl rfl) rfl rfl (y_loadw (i := 6) rfl rfl Ty.ag_29 (fun _ h => h) rfl rfl) ?_
                    first
                      | refine Pl_y rfl (wtdT rfl rfl rfl) rfl rfl (y_loadw (i := 0) rfl rfl Ty.ag_25 (fun _ h => h) rfl rfl) ?_
                      | refine Pl_y rfl (wtdT rfl rfl rfl) rfl rfl (y_loadw (i := 1) rfl rfl Ty.ag_25 (fun _ h => h) rfl rfl) ?_
                      | refine Pl_y rfl (wtdT rfl rfl rfl) rfl rfl (y_loadw (i := 2) rfl rfl Ty.ag_25 (fun _ h => h) rfl rfl) ?_
                      | refine Pl_y rfl (wtdT rfl rfl rfl) rfl rfl (y_loadw (i := 3) rfl rfl Ty.ag_25 (fun _ h => h) rfl rfl) ?_
                      | refine Pl_y rfl (wtdT rfl rfl rfl) rfl rfl (y_loadw (i := 4) rfl rfl Ty.ag_25 (fun _ h => h) rfl rfl) ?_
                      | refine Pl_y rfl (wtdT rfl rfl rfl) rfl rfl (y_loadw (i := 5) rfl rfl Ty.ag_25 (fun _ h => h) rfl rfl) ?_
                      | refine Pl_y rfl (wtdT rfl rfl rfl) rfl rfl (y_loadw (i := 6) rfl rfl Ty.ag_25 (fun _ h => h) rfl rfl) ?_
                    refine Pl_a rfl (wtdT rfl rfl rfl) (by rfl) ?_
                    refine a_call rfl rfl rfl rfl (from_ok _ _ _ _ _) (fun v wl ⟨hv, hf⟩ => ?_)
                    subst hv
                    have hp := hp.keep0 hf
                    have hF := hF.step0 hf
                    refine ⟨hp, ?_⟩
                    refine Pl_y rfl (wtdT rfl rfl rfl) rfl rfl (y_eqst rfl rfl rfl Ty.tg_25 rfl) ?_
                    refine Pl_bool 120 rfl (fun _ => ?_) (fun hc39 => absurd hc39 (by simp [cG, cQ, cF, cD]))
                    refine Pl_y rfl (wtdT rfl rfl rfl) rfl rfl (y_pick_t rfl rfl rfl) ?_
                    refine Pl_y rfl (wtdT rfl rfl rfl) rfl rfl (y_move rfl rfl) ?_
                    refine Pl_y rfl (wtdT rfl rfl rfl) rfl rfl (y_move rfl rfl) ?_
                    refine Pl_y rfl (wtdT rfl rfl rfl) rfl rfl (y_move rfl rfl) ?_
                    refine Pl_y rfl (wtdT rfl rfl rfl) rfl rfl (y_eqs rfl rfl rfl) ?_
                    refine Pl_bool 125 rfl (fun _ => ?_) (fun hc40 => absurd hc40 (by simp))
                    refine Pl_y rfl (wtdT rfl rfl rfl) rfl rfl (y_pick_t rfl rfl rfl) ?_
                    refine Pl_y rfl (wtd0 rfl) rfl rfl (y_pick_f rfl rfl rfl) ?_
                    refine Pl_y rfl (wtd0 rfl) rfl rfl (y_assign rfl rfl) ?_
                    refine Pl_nil (Th_n (hK59 _ _ ?_))
                    refine Wp_ret (Fq_ret (Res1 rfl rfl) ?_)
                    exact ⟨rfl, hF⟩
            · subst hov
              refine Ls_s (wtdF rfl rfl rfl) rfl rfl ?_
              refine Ls_s (wtdF rfl rfl rfl) rfl rfl ?_
              refine Ls_s (wtdF rfl rfl rfl) rfl rfl ?_
              refine Ls_s (wtdF rfl rfl rfl) rfl rfl ?_
              refine Ls_s (wtdF rfl rfl rfl) rfl rfl ?_
              refine Ls_s (wtdU rfl rfl rfl) rfl rfl ?_
              refine Ls_s (wtdU rfl rfl rfl) rfl rfl ?_
              refine Ls_s (wtdU rfl rfl rfl) rfl rfl ?_
              refine Ls_s (wtdF rfl rfl rfl) rfl rfl ?_
              refine Ls_y (wtd0 rfl) rfl rfl (y_pick_f rfl rfl rfl) ?_
              refine Ls_y (wtd0 rfl) rfl rfl (y_move rfl rfl) ?_
              refine Ls_y (wtdT rfl rfl rfl) rfl rfl (y_move rfl rfl) ?_
              refine Ls_y (wtdT rfl rfl rfl) rfl rfl (y_move rfl rfl) ?_
              refine Ls_a (wtdT rfl rfl rfl) ?_
              refine a_call rfl rfl rfl rfl (dwrite_m p (one (zero64) (zero64)) _ (hp.picks [2, 3, 4] (by decide)) (one_ok hz64 hz64) 0 (packS gb qb fb db)) (fun v wf ⟨hv, hM⟩ => ?_)
              rw [(write_one hsb).1] at hv
              rw [(write_one hsb).2] at hM
              subst hv
              have hp : Hp wf [(_, Cl [_, _, _, _] _), (_, Cl [_, _, _, _] _), (_, Cl [_, _, _, _, _] _), _, _] := hp.call [0, 1] [2, 3, 4] (by decide) rfl hM
              have hF := hF.step hM.fr (fun y hy => Or.inr (hdk y hy))
              refine Ls_y (wtdT rfl rfl rfl) rfl rfl (y_neF rfl rfl rfl (by omega)) ?_
              obtain ⟨n, hn, hmend⟩ := mend_one (packS gb qb fb db) (zero64) kp
              · refine Ls_y (wtd0 rfl) rfl rfl (y_pick_f rfl rfl rfl) ?_
                refine Ls_nil (Th_n (hK47 _ _ ?_))
                refine Wp_cond_f rfl ?_
                refine Wp_skip (Th_n (hK46 _ _ ?_))
                refine Wp_seq fun K60 hK60 => ?_
                refine Wp_region ?_
                refine Ls_y (wtd0 rfl) rfl rfl (y_move rfl rfl) ?_
                refine Ls_y (wtd0 rfl) rfl rfl (y_move rfl rfl) ?_
                refine Ls_a (wtd0 rfl) ?_
                refine a_bsl rfl rfl rfl rfl rfl Ty.es_73 Ty.zc_3 rfl (by decide) (by simp [Value.cells]) hp (fun gk wg (hp : Hp wg [(_, Cl [_, _, _, _] _), (_, Cl [_, _, _, _] _), (_, Cl [_, _, _, _, _] _), _, _, (_, Cl [_] _)]) hf hgk => ?_)
                have hgk := Nat.le_trans hF.size hgk
                have hF := hF.step0 hf
                refine Ls_a (wtd0 rfl) ?_
                refine a_call rfl rfl rfl rfl (dmend_ok p (one (packS gb qb fb db) (zero64)) _ (some ⟨gk, 0, none⟩) 1 [kp] [] ⟨rfl, .inr ⟨gk, rfl, rfl, Nat.le_refl _, by decide⟩⟩ (hp.picks [2, 3, 4, 5] (by decide)) (one_ok hsb hz64)) (fun v wh ⟨hv, hM⟩ => ?_)
                subst hv
                rw [hmend] at hM
                have hp : Hp wh [(_, Cl [_, _, _, _] _), (_, Cl [_, _, _, _] _), (_, Cl [_, _, _, _, _] _), _, _, (_, Cl [_] _)] := hp.call [0, 1] [2, 3, 4, 5] (by decide) rfl hM
                have hF := hF.step hM.fr (fr_dk1 hdk hgk)
                refine Ls_nil (Th_n (hK60 _ _ ?_))
                obtain ⟨x, hx⟩ : ∃ x, x = (packS gb qb fb db).take n ++ (zero64).drop n := ⟨_, rfl⟩
                rw [← hx] at hp
                have hxl : x.length = 64 := by rw [hx]; simp only [List.length_append, List.length_take, List.length_drop, hsb, hz64]; omega
                · refine Wp_seq fun K61 hK61 => ?_
                  refine Wp_region ?_
                  refine Ls_y (wtd0 rfl) rfl rfl (y_move rfl rfl) ?_
                  refine Ls_a (wtd0 rfl) ?_
                  refine a_call rfl rfl rfl rfl (dread_ok p (one x x) _ (hp.picks [2, 3, 4] (by decide)) (one_ok hxl hxl) 0) (fun v wi ⟨hv, hw⟩ => ?_)
                  rw [read_one.1, read_one.2] at hv
                  subst hv
                  subst hw
                  refine Ls_y (wtd0 rfl) rfl rfl (y_move rfl rfl) ?_
                  refine Ls_y (wtd0 rfl) rfl rfl (y_ext rfl rfl rfl) ?_
                  refine Ls_y (wtd0 rfl) rfl rfl (y_ext rfl rfl rfl) ?_
                  refine Ls_y (wtd0 rfl) rfl rfl (y_assign rfl rfl) ?_
                  refine Ls_y (wtd0 rfl) rfl rfl (y_assign rfl rfl) ?_
                  refine Ls_nil (Th_n (hK61 _ _ ?_))
                  refine Wp_seq fun K62 hK62 => ?_
                  refine Wp_region ?_
                  refine Ls_y (wtd0 rfl) rfl rfl (y_move rfl rfl) ?_
                  rcases torn_read (over := false) hga0 hga hqa0 hqa hfa0 hfa hgb0 hgb hqb0 hqb hfb0 hfb hea heb hne hn hx with hu | ⟨rfl, hu⟩ | ⟨hov, rfl, hu⟩
                  · refine Ls_a (wtd0 rfl) ?_
                    refine a_call rfl rfl rfl rfl (unpack_ok x _) (fun v wj ⟨hv, hf⟩ => ?_)
                    rw [hu] at hv
                    subst hv
                    have hp := hp.keep0 hf
                    have hF := hF.step0 hf
                    refine Ls_y (wtd0 rfl) rfl rfl (y_move rfl rfl) ?_
                    refine Ls_y (wtd0 rfl) rfl rfl (y_ext rfl rfl rfl) ?_
                    refine Ls_y (wtd0 rfl) rfl rfl (y_ext rfl rfl rfl) ?_
                    refine Ls_a (wtd0 rfl) ?_
                    refine a_alloc rfl rfl rfl Ty.zc_29 hp (fun g3 w3 (hp : Hp w3 [(_, Cl [_, _, _, _] _), (_, Cl [_, _, _, _] _), (_, Cl [_, _, _, _, _] _), _, _, (_, Cl [_] _), (_, Cl [_, _, _, _] _)]) hf hg3 => ?_)
                    have hg3 := Nat.le_trans hF.size hg3
                    have hF := hF.step0 hf
                    refine Ls_a (wtd0 rfl) ?_
                    first
                      | refine a_storew (i := 0) rfl rfl rfl rfl Ty.sz_29 rfl (by first | assumption | (simp [Value.oneCell']; done)) hp rfl rfl (fun w4 (hp : Hp w4 [(_, Cl [_, _, _, _] _), (_, Cl [_, _, _, _] _), (_, Cl [_, _, _, _, _] _), _, _, (_, Cl [_] _), (_, Cl [_, _, _, _] _)]) hf _ => ?_)
                      | refine a_storew (i := 1) rfl rfl rfl rfl Ty.sz_29 rfl (by first | assumption | (simp [Value.oneCell']; done)) hp rfl rfl (fun w4 (hp : Hp w4 [(_, Cl [_, _, _, _] _), (_, Cl [_, _, _, _] _), (_, Cl [_, _, _, _, _] _), _, _, (_, Cl [_] _), (_, Cl [_, _, _, _] _)]) hf _ => ?_)
                      | refine a_storew (i := 2) rfl rfl rfl rfl Ty.sz_29 rfl (by first | assumption | (simp [Value.oneCell']; done)) hp rfl rfl (fun w4 (hp : Hp w4 [(_, Cl [_, _, _, _] _), (_, Cl [_, _, _, _] _), (_, Cl [_, _, _, _, _] _), _, _, (_, Cl [_] _), (_, Cl [_, _, _, _] _)]) hf _ => ?_)
                      | refine a_storew (i := 3) rfl rfl rfl rfl Ty.sz_29 rfl (by first | assumption | (simp [Value.oneCell']; done)) hp rfl rfl (fun w4 (hp : Hp w4 [(_, Cl [_, _, _, _] _), (_, Cl [_, _, _, _] _), (_, Cl [_, _, _, _, _] _), _, _, (_, Cl [_] _), (_, Cl [_, _, _, _] _)]) hf _ => ?_)
                      | refine a_storew (i := 4) rfl rfl rfl rfl Ty.sz_29 rfl (by first | assumption | (simp [Value.oneCell']; done)) hp rfl rfl (fun w4 (hp : Hp w4 [(_, Cl [_, _, _, _] _), (_, Cl [_, _, _, _] _), (_, Cl [_, _, _, _, _] _), _, _, (_, Cl [_] _), (_, Cl [_, _, _, _] _)]) hf _ => ?_)
                      | refine a_storew (i := 5) rfl rfl rfl rfl Ty.sz_29 rfl (by first | assumption | (simp [Value.oneCell']; done)) hp rfl rfl (fun w4 (hp : Hp w4 [(_, Cl [_, _, _, _] _), (_, Cl [_, _, _, _] _), (_, Cl [_, _, _, _, _] _), _, _, (_, Cl [_] _), (_, Cl [_, _, _, _] _)]) hf _ => ?_)
                      | refine a_storew (i := 6) rfl rfl rfl rfl Ty.sz_29 rfl (by first | assumption | (simp [Value.oneCell']; done)) hp rfl rfl (fun w4 (hp : Hp w4 [(_, Cl [_, _, _, _] _), (_, Cl [_, _, _, _] _), (_, Cl [_, _, _, _, _] _), _, _, (_, Cl [_] _), (_, Cl [_, _, _, _] _)]) hf _ => ?_)
                    have hF := hF.step hf (by intro y hy; simp only [List.mem_cons, List.not_mem_nil, or_false] at hy; subst hy; first | (exact Or.inr (by omega)) | (exact Or.inl (by simp)))
                    refine Ls_y (wtd0 rfl) rfl rfl (y_assign rfl rfl) ?_
                    refine Ls_nil (Th_n (hK62 _ _ ?_))
                    refine Wp_seq fun K63 hK63 => ?_
                    refine Wp_seq fun K64 hK64 => ?_
                    refine Wp_region ?_
                    refine Ls_y (wtd0 rfl) rfl rfl (y_move rfl rfl) ?_
                    refine Ls_y (wtd0 rfl) rfl rfl (y_neF rfl rfl rfl (by omega)) ?_
                    refine Ls_nil (Th_n (hK64 _ _ ?_))
                    refine Wp_cond_f rfl ?_
                    refine Wp_skip (Th_n (hK63 _ _ ?_))
                    refine Wp_seq fun K65 hK65 => ?_
                    refine Wp_plan (fun W => Hp W (heapOf hp)) [(true, 0), (true, 1), (true, 2), (true, 3), (true, 5), (false, 4), (true, 6), (true, 7), (true, 8), (true, 9), (true, 10), (true, 11), (true, 12), (true, 13), (true, 14), (true, 15), (true, 16), (true, 18), (false, 17), (true, 19), (true, 20), (true, 21), (true, 22), (true, 23), (true, 24), (true, 25), (true, 26), (true, 27)] Ty.mx_0 (by kernel_rfl) (by kernel_rfl) rfl (hp.drew) ?_
                    have hp := hp.drew
                    have hF := hF.step0 (Fr.drew _)
                    refine Pl_y rfl (wtd0 rfl) rfl rfl (y_move rfl rfl) ?_
                    refine Pl_y rfl (wtd0 rfl) rfl rfl (y_not rfl rfl) ?_
                    refine Pl_y rfl (wtd0 rfl) rfl rfl (y_move rfl rfl) ?_
                    refine Pl_bool 103 rfl (fun _ => ?_) (fun hc42 => absurd hc42 (by simp))
                    refine Pl_s rfl (wtdF rfl rfl rfl) rfl rfl ?_
                    refine Pl_s rfl (wtdF rfl rfl rfl) rfl rfl ?_
                    refine Pl_s rfl (wtdF rfl rfl rfl) rfl rfl ?_
                    refine Pl_s rfl (wtdF rfl rfl rfl) rfl rfl ?_
                    refine Pl_s rfl (wtdF rfl rfl rfl) rfl rfl ?_
                    refine Pl_s rfl (wtdU rfl rfl rfl) rfl rfl ?_
                    refine Pl_s rfl (wtdU rfl rfl rfl) rfl rfl ?_
                    refine Pl_s rfl (wtdU rfl rfl rfl) rfl rfl ?_
                    refine Pl_s rfl (wtdF rfl rfl rfl) rfl rfl ?_
                    refine Pl_y rfl (wtd0 rfl) rfl rfl (y_pick_t rfl rfl rfl) ?_
                    refine Pl_y rfl (wtd0 rfl) rfl rfl (y_move rfl rfl) ?_
                    refine Pl_s rfl (wtdF rfl rfl rfl) rfl rfl ?_
                    refine Pl_s rfl (wtdF rfl rfl rfl) rfl rfl ?_
                    refine Pl_s rfl (wtdU rfl rfl rfl) rfl rfl ?_
                    refine Pl_s rfl (wtdU rfl rfl rfl) rfl rfl ?_
                    refine Pl_s rfl (wtdU rfl rfl rfl) rfl rfl ?_
                    refine Pl_s rfl (wtdU rfl rfl rfl) rfl rfl ?_
                    refine Pl_s rfl (wtdF rfl rfl rfl) rfl rfl ?_
                    refine Pl_s rfl (wtdF rfl rfl rfl) rfl rfl ?_
                    refine Pl_s rfl (wtdU rfl rfl rfl) rfl rfl ?_
                    refine Pl_s rfl (wtdU rfl rfl rfl) rfl rfl ?_
                    refine Pl_s rfl (wtdU rfl rfl rfl) rfl rfl ?_
                    refine Pl_s rfl (wtdF rfl rfl rfl) rfl rfl ?_
                    refine Pl_y rfl (wtd0 rfl) rfl rfl (y_pick_t rfl rfl rfl) ?_
                    refine Pl_y rfl (wtd0 rfl) rfl rfl (y_assign rfl rfl) ?_
                    refine Pl_nil (Th_n (hK65 _ _ ?_))
                    refine Wp_ret (Fq_ret (Res1 rfl rfl) ?_)
                    exact ⟨rfl, hF⟩
                  · refine Ls_a (wtd0 rfl) ?_
                    refine a_call rfl rfl rfl rfl (unpack_ok _ _) (fun v wj ⟨hv, hf⟩ => ?_)
                    rw [hu] at hv
                    subst hv
                    have hp := hp.keep0 hf
                    have hF := hF.step0 hf
                    refine Ls_y (wtd0 rfl) rfl rfl (y_move rfl rfl) ?_
                    refine Ls_y (wtd0 rfl) rfl rfl (y_ext rfl rfl rfl) ?_
                    refine Ls_y (wtd0 rfl) rfl rfl (y_ext rfl rfl rfl) ?_
                    refine Ls_a (wtd0 rfl) ?_
                    refine a_alloc rfl rfl rfl Ty.zc_29 hp (fun g3 w3 (hp : Hp w3 [(_, Cl [_, _, _, _] _), (_, Cl [_, _, _, _] _), (_, Cl [_, _, _, _, _] _), _, _, (_, Cl [_] _), (_, Cl [_, _, _, _] _)]) hf hg3 => ?_)
                    have hg3 := Nat.le_trans hF.size hg3
                    have hF := hF.step0 hf
                    refine Ls_a (wtd0 rfl) ?_
                    first
                      | refine a_storew (i := 0) rfl rfl rfl rfl Ty.sz_29 rfl (by first | assumption | (simp [Value.oneCell']; done)) hp rfl rfl (fun w4 (hp : Hp w4 [(_, Cl [_, _, _, _] _), (_, Cl [_, _, _, _] _), (_, Cl [_, _, _, _, _] _), _, _, (_, Cl [_] _), (_, Cl [_, _, _, _] _)]) hf _ => ?_)
                      | refine a_storew (i := 1) rfl rfl rfl rfl Ty.sz_29 rfl (by first | assumption | (simp [Value.oneCell']; done)) hp rfl rfl (fun w4 (hp : Hp w4 [(_, Cl [_, _, _, _] _), (_, Cl [_, _, _, _] _), (_, Cl [_, _, _, _, _] _), _, _, (_, Cl [_] _), (_, Cl [_, _, _, _] _)]) hf _ => ?_)
                      | refine a_storew (i := 2) rfl rfl rfl rfl Ty.sz_29 rfl (by first | assumption | (simp [Value.oneCell']; done)) hp rfl rfl (fun w4 (hp : Hp w4 [(_, Cl [_, _, _, _] _), (_, Cl [_, _, _, _] _), (_, Cl [_, _, _, _, _] _), _, _, (_, Cl [_] _), (_, Cl [_, _, _, _] _)]) hf _ => ?_)
                      | refine a_storew (i := 3) rfl rfl rfl rfl Ty.sz_29 rfl (by first | assumption | (simp [Value.oneCell']; done)) hp rfl rfl (fun w4 (hp : Hp w4 [(_, Cl [_, _, _, _] _), (_, Cl [_, _, _, _] _), (_, Cl [_, _, _, _, _] _), _, _, (_, Cl [_] _), (_, Cl [_, _, _, _] _)]) hf _ => ?_)
                      | refine a_storew (i := 4) rfl rfl rfl rfl Ty.sz_29 rfl (by first | assumption | (simp [Value.oneCell']; done)) hp rfl rfl (fun w4 (hp : Hp w4 [(_, Cl [_, _, _, _] _), (_, Cl [_, _, _, _] _), (_, Cl [_, _, _, _, _] _), _, _, (_, Cl [_] _), (_, Cl [_, _, _, _] _)]) hf _ => ?_)
                      | refine a_storew (i := 5) rfl rfl rfl rfl Ty.sz_29 rfl (by first | assumption | (simp [Value.oneCell']; done)) hp rfl rfl (fun w4 (hp : Hp w4 [(_, Cl [_, _, _, _] _), (_, Cl [_, _, _, _] _), (_, Cl [_, _, _, _, _] _), _, _, (_, Cl [_] _), (_, Cl [_, _, _, _] _)]) hf _ => ?_)
                      | refine a_storew (i := 6) rfl rfl rfl rfl Ty.sz_29 rfl (by first | assumption | (simp [Value.oneCell']; done)) hp rfl rfl (fun w4 (hp : Hp w4 [(_, Cl [_, _, _, _] _), (_, Cl [_, _, _, _] _), (_, Cl [_, _, _, _, _] _), _, _, (_, Cl [_] _), (_, Cl [_, _, _, _] _)]) hf _ => ?_)
                    have hF := hF.step hf (by intro y hy; simp only [List.mem_cons, List.not_mem_nil, or_false] at hy; subst hy; first | (exact Or.inr (by omega)) | (exact Or.inl (by simp)))
                    refine Ls_y (wtd0 rfl) rfl rfl (y_assign rfl rfl) ?_
                    refine Ls_nil (Th_n (hK62 _ _ ?_))
                    refine Wp_seq fun K66 hK66 => ?_
                    refine Wp_seq fun K67 hK67 => ?_
                    refine Wp_region ?_
                    refine Ls_y (wtd0 rfl) rfl rfl (y_move rfl rfl) ?_
                    refine Ls_y (wtd0 rfl) rfl rfl (y_neF rfl rfl rfl (by omega)) ?_
                    refine Ls_nil (Th_n (hK67 _ _ ?_))
                    refine Wp_cond_f rfl ?_
                    refine Wp_skip (Th_n (hK66 _ _ ?_))
                    refine Wp_seq fun K68 hK68 => ?_
                    refine Wp_plan (fun W => Hp W (heapOf hp)) [(true, 0), (true, 1), (true, 2), (true, 3), (true, 5), (false, 4), (true, 6), (true, 7), (true, 8), (true, 9), (true, 10), (true, 11), (true, 12), (true, 13), (true, 14), (true, 15), (true, 16), (true, 18), (false, 17), (true, 19), (true, 20), (true, 21), (true, 22), (true, 23), (true, 24), (true, 25), (true, 26), (true, 27)] Ty.mx_0 (by kernel_rfl) (by kernel_rfl) rfl (hp.drew) ?_
                    have hp := hp.drew
                    have hF := hF.step0 (Fr.drew _)
                    refine Pl_y rfl (wtd0 rfl) rfl rfl (y_move rfl rfl) ?_
                    refine Pl_y rfl (wtd0 rfl) rfl rfl (y_not rfl rfl) ?_
                    refine Pl_y rfl (wtd0 rfl) rfl rfl (y_move rfl rfl) ?_
                    refine Pl_bool 103 rfl (fun hc44 => absurd hc44 (by simp)) (fun _ => ?_)
                    first
                      | refine Pl_y rfl (wtdT rfl rfl rfl) rfl rfl (y_loadw (i := 0) rfl rfl Ty.ag_29 (fun _ h => h) rfl rfl) ?_
                      | refine Pl_y rfl (wtdT rfl rfl rfl) rfl rfl (y_loadw (i := 1) rfl rfl Ty.ag_29 (fun _ h => h) rfl rfl) ?_
                      | refine Pl_y rfl (wtdT rfl rfl rfl) rfl rfl (y_loadw (i := 2) rfl rfl Ty.ag_29 (fun _ h => h) rfl rfl) ?_
                      | refine Pl_y rfl (wtdT rfl rfl rfl) rfl rfl (y_loadw (i := 3) rfl rfl Ty.ag_29 (fun _ h => h) rfl rfl) ?_
                      | refine Pl_y rfl (wtdT rfl rfl rfl) rfl rfl (y_loadw (i := 4) rfl rfl Ty.ag_29 (fun _ h => h) rfl rfl) ?_
                      | refine Pl_y rfl (wtdT rfl rfl rfl) rfl rfl (y_loadw (i := 5) rfl rfl Ty.ag_29 (fun _ h => h) rfl rfl) ?_
                      | refine Pl_y rfl (wtdT rfl rfl rfl) rfl rfl (y_loadw (i := 6) rfl rfl Ty.ag_29 (fun _ h => h) rfl rfl) ?_
                    first
                      | refine Pl_y rfl (wtdT rfl rfl rfl) rfl rfl (y_loadw (i := 0) rfl rfl Ty.ag_25 (fun _ h => h) rfl rfl) ?_
                      | refine Pl_y rfl (wtdT rfl rfl rfl) rfl rfl (y_loadw (i := 1) rfl rfl Ty.ag_25 (fun _ h => h) rfl rfl) ?_
                      | refine Pl_y rfl (wtdT rfl rfl rfl) rfl rfl (y_loadw (i := 2) rfl rfl Ty.ag_25 (fun _ h => h) rfl rfl) ?_
                      | refine Pl_y rfl (wtdT rfl rfl rfl) rfl rfl (y_loadw (i := 3) rfl rfl Ty.ag_25 (fun _ h => h) rfl rfl) ?_
                      | refine Pl_y rfl (wtdT rfl rfl rfl) rfl rfl (y_loadw (i := 4) rfl rfl Ty.ag_25 (fun _ h => h) rfl rfl) ?_
                      | refine Pl_y rfl (wtdT rfl rfl rfl) rfl rfl (y_loadw (i := 5) rfl rfl Ty.ag_25 (fun _ h => h) rfl rfl) ?_
                      | refine Pl_y rfl (wtdT rfl rfl rfl) rfl rfl (y_loadw (i := 6) rfl rfl Ty.ag_25 (fun _ h => h) rfl rfl) ?_
                    refine Pl_a rfl (wtdT rfl rfl rfl) (by rfl) ?_
                    refine a_call rfl rfl rfl rfl (from_ok _ _ _ _ _) (fun v wk ⟨hv, hf⟩ => ?_)
                    subst hv
                    have hp := hp.keep0 hf
                    have hF := hF.step0 hf
                    refine ⟨hp, ?_⟩
                    refine Pl_y rfl (wtdT rfl rfl rfl) rfl rfl (y_eqst rfl rfl rfl Ty.tg_25 rfl) ?_
                    refine Pl_bool 107 rfl (fun _ => ?_) (fun hc45 => absurd hc45 (by simp [cG, cQ, cF, cD]))
                    refine Pl_y rfl (wtdT rfl rfl rfl) rfl rfl (y_move rfl rfl) ?_
                    refine Pl_y rfl (wtdT rfl rfl rfl) rfl rfl (y_move rfl rfl) ?_
                    refine Pl_y rfl (wtdT rfl rfl rfl) rfl rfl (y_move rfl rfl) ?_
                    refine Pl_y rfl (wtdT rfl rfl rfl) rfl rfl (y_eqs rfl rfl rfl) ?_
                    refine Pl_bool 111 rfl (fun _ => ?_) (fun hc46 => absurd hc46 (by simp))
                    refine Pl_y rfl (wtdT rfl rfl rfl) rfl rfl (y_pick_t rfl rfl rfl) ?_
                    refine Pl_y rfl (wtd0 rfl) rfl rfl (y_pick_f rfl rfl rfl) ?_
                    refine Pl_y rfl (wtd0 rfl) rfl rfl (y_move rfl rfl) ?_
                    refine Pl_s rfl (wtdF rfl rfl rfl) rfl rfl ?_
                    refine Pl_s rfl (wtdF rfl rfl rfl) rfl rfl ?_
                    refine Pl_s rfl (wtdU rfl rfl rfl) rfl rfl ?_
                    refine Pl_s rfl (wtdU rfl rfl rfl) rfl rfl ?_
                    refine Pl_s rfl (wtdU rfl rfl rfl) rfl rfl ?_
                    refine Pl_s rfl (wtdU rfl rfl rfl) rfl rfl ?_
                    refine Pl_s rfl (wtdF rfl rfl rfl) rfl rfl ?_
                    refine Pl_s rfl (wtdF rfl rfl rfl) rfl rfl ?_
                    refine Pl_s rfl (wtdU rfl rfl rfl) rfl rfl ?_
                    refine Pl_s rfl (wtdU rfl rfl rfl) rfl rfl ?_
                    refine Pl_s rfl (wtdU rfl rfl rfl) rfl rfl ?_
                    refine Pl_s rfl (wtdF rfl rfl rfl) rfl rfl ?_
                    refine Pl_y rfl (wtd0 rfl) rfl rfl (y_pick_t rfl rfl rfl) ?_
                    refine Pl_y rfl (wtd0 rfl) rfl rfl (y_assign rfl rfl) ?_
                    refine Pl_nil (Th_n (hK68 _ _ ?_))
                    refine Wp_ret (Fq_ret (Res1 rfl rfl) ?_)
                    exact ⟨rfl, hF⟩
                  · cases hov

end Go.Proofs.Ytikdpkhcegjmfaa

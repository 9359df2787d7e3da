/- Walks printed by gen.py out of our own specifications: what the functions named below do. -/
import Derived.Test.YtikdpkhcegjmfaaW2
set_option linter.unusedSimpArgs false
set_option linter.unusedVariables false
namespace Go.Proofs.Ytikdpkhcegjmfaa
open Go.RowKit


def stampS (g q : Int) : List UInt8 := (stampN g q).map fun n => UInt8.ofNat n.toNat
theorem stampS_len (g q : Int) : (stampS g q).length = 6 := rfl
theorem packS_cat (g q f : Int) (d : List UInt8) (h : d.length ≤ 50) (hq : ¬ q = 0) :
    packS g q f d = stampS g q ++ [UInt8.ofNat f.toNat, UInt8.ofNat (d.length : Int).toNat] ++ d ++ List.replicate (58 - (stampS g q ++ [UInt8.ofNat f.toNat, UInt8.ofNat (d.length : Int).toNat] ++ d).length) 0 ++ stampS g q := by
  have hl : (stampS g q ++ [UInt8.ofNat f.toNat, UInt8.ofNat (d.length : Int).toNat] ++ d).length = 8 + d.length := by simp [stampS_len]; omega
  have hd : (d.map (fun b => (b.toNat : Int))).map (fun n => UInt8.ofNat n.toNat) = d := by
    rw [List.map_map]
    conv => rhs; rw [← List.map_id d]
    apply List.map_congr_left
    intro b _
    simp
  rw [hl, show 58 - (8 + d.length) = 50 - d.length by omega]
  unfold packS packN
  rw [if_neg (by omega), if_neg hq]
  simp only [List.map_append, hd, List.map_replicate, List.append_assoc, List.map_cons, List.map_nil, List.cons_append, List.nil_append]
  rfl

set_option maxRecDepth 20000 in
theorem to_ok (g q f : Int) (d : List UInt8) (w : World) :
    Fn Try.prog 12 [.agg #[.int .u16 g, .int .u32 q, .int .u8 f, sv d]] w fun v w' => v = .agg #[.int .u16 g, .int .u32 q, .int .u8 f, sv d] ∧ Fr [] w w' := by
  refine Fn_of 12 Ty.en_12 Try.func12 rfl rfl rfl ?_
  dsimp only [argEnv]
  have hp := Hp.nil w
  have hF := Fr.refl [] w
  refine Wp_seq fun K1 hK1 => ?_
  refine Wp_region ?_
  refine Ls_a (wtd0 rfl) ?_
  refine a_box rfl rfl rfl rfl hp (fun g1 w1 (hp : Hp w1 [(_, Cl [_, _, _, _] _)]) hf hg1 => ?_)
  have hg1 := Nat.le_trans hF.size hg1
  have hF := hF.step0 hf
  refine Ls_a (wtd0 rfl) ?_
  refine a_alloc rfl rfl rfl Ty.zc_29 hp (fun g2 w2 (hp : Hp w2 [(_, Cl [_, _, _, _] _), (_, Cl [_, _, _, _] _)]) hf hg2 => ?_)
  have hg2 := Nat.le_trans hF.size hg2
  have hF := hF.step0 hf
  refine Ls_nil (Th_n (hK1 _ _ ?_))
  refine Wp_seq fun K2 hK2 => ?_
  refine Wp_region ?_
  refine Ls_y (wtd0 rfl) rfl rfl (y_fld rfl rfl Ty.fo_25_0) ?_
  first
    | refine Ls_y (wtd0 rfl) rfl rfl (y_load (i := 0) rfl rfl Ty.pl_22 (fun _ e => e ▸ hp) rfl rfl) ?_
    | refine Ls_y (wtd0 rfl) rfl rfl (y_load (i := 1) rfl rfl Ty.pl_22 (fun _ e => e ▸ hp) rfl rfl) ?_
  refine Ls_y (wtd0 rfl) rfl rfl (y_fld rfl rfl Ty.fo_25_1) ?_
  first
    | refine Ls_y (wtd0 rfl) rfl rfl (y_load (i := 0) rfl rfl Ty.pl_23 (fun _ e => e ▸ hp) rfl rfl) ?_
    | refine Ls_y (wtd0 rfl) rfl rfl (y_load (i := 1) rfl rfl Ty.pl_23 (fun _ e => e ▸ hp) rfl rfl) ?_
  refine Ls_y (wtd0 rfl) rfl rfl (y_fld rfl rfl Ty.fo_25_2) ?_
  first
    | refine Ls_y (wtd0 rfl) rfl rfl (y_load (i := 0) rfl rfl Ty.pl_5 (fun _ e => e ▸ hp) rfl rfl) ?_
    | refine Ls_y (wtd0 rfl) rfl rfl (y_load (i := 1) rfl rfl Ty.pl_5 (fun _ e => e ▸ hp) rfl rfl) ?_
  refine Ls_y (wtd0 rfl) rfl rfl (y_fld rfl rfl Ty.fo_25_3) ?_
  first
    | refine Ls_y (wtd0 rfl) rfl rfl (y_load (i := 0) rfl rfl Ty.pl_9 (fun _ e => e ▸ hp) rfl rfl) ?_
    | refine Ls_y (wtd0 rfl) rfl rfl (y_load (i := 1) rfl rfl Ty.pl_9 (fun _ e => e ▸ hp) rfl rfl) ?_
  refine Ls_y (wtd0 rfl) rfl rfl (y_build (cells := [_, _, _, _]) rfl rfl Ty.zc_29 Ty.ps_29 rfl) ?_
  refine Ls_a (wtd0 rfl) ?_
  first
    | refine a_storew (i := 0) rfl rfl rfl rfl Ty.sz_29 rfl (by first | assumption | (simp [Value.oneCell']; done)) hp rfl rfl (fun w3 (hp : Hp w3 [(_, Cl [_, _, _, _] _), (_, Cl [_, _, _, _] _)]) hf _ => ?_)
    | refine a_storew (i := 1) rfl rfl rfl rfl Ty.sz_29 rfl (by first | assumption | (simp [Value.oneCell']; done)) hp rfl rfl (fun w3 (hp : Hp w3 [(_, Cl [_, _, _, _] _), (_, Cl [_, _, _, _] _)]) hf _ => ?_)
  have hF := hF.step hf (by intro y hy; simp only [List.mem_cons, List.not_mem_nil, or_false] at hy; subst hy; first | (exact Or.inr (by omega)) | (exact Or.inl (by simp)))
  refine Ls_nil (Th_n (hK2 _ _ ?_))
  first
    | refine Wp_ret (Fq_ret (ResN1 rfl (rvc (i := 0) rfl Ty.ag_29 hp rfl rfl)) ?_)
    | refine Wp_ret (Fq_ret (ResN1 rfl (rvc (i := 1) rfl Ty.ag_29 hp rfl rfl)) ?_)
  exact ⟨rfl, hF⟩

set_option maxRecDepth 20000 in
theorem from_ok (g q f : Int) (d : List UInt8) (w : World) :
    Fn Try.prog 16 [.agg #[.int .u16 g, .int .u32 q, .int .u8 f, sv d]] w fun v w' => v = .agg #[.int .u16 g, .int .u32 q, .int .u8 f, sv d] ∧ Fr [] w w' := by
  refine Fn_of 12 Ty.en_16 Try.func16 rfl rfl rfl ?_
  dsimp only [argEnv]
  have hp := Hp.nil w
  have hF := Fr.refl [] w
  refine Wp_seq fun K1 hK1 => ?_
  refine Wp_region ?_
  refine Ls_a (wtd0 rfl) ?_
  refine a_box rfl rfl rfl rfl hp (fun g1 w1 (hp : Hp w1 [(_, Cl [_, _, _, _] _)]) hf hg1 => ?_)
  have hg1 := Nat.le_trans hF.size hg1
  have hF := hF.step0 hf
  refine Ls_a (wtd0 rfl) ?_
  refine a_alloc rfl rfl rfl Ty.zc_25 hp (fun g2 w2 (hp : Hp w2 [(_, Cl [_, _, _, _] _), (_, Cl [_, _, _, _] _)]) hf hg2 => ?_)
  have hg2 := Nat.le_trans hF.size hg2
  have hF := hF.step0 hf
  refine Ls_nil (Th_n (hK1 _ _ ?_))
  refine Wp_seq fun K2 hK2 => ?_
  refine Wp_region ?_
  refine Ls_y (wtd0 rfl) rfl rfl (y_fld rfl rfl Ty.fo_29_0) ?_
  first
    | refine Ls_y (wtd0 rfl) rfl rfl (y_load (i := 0) rfl rfl Ty.pl_22 (fun _ e => e ▸ hp) rfl rfl) ?_
    | refine Ls_y (wtd0 rfl) rfl rfl (y_load (i := 1) rfl rfl Ty.pl_22 (fun _ e => e ▸ hp) rfl rfl) ?_
  refine Ls_y (wtd0 rfl) rfl rfl (y_fld rfl rfl Ty.fo_29_1) ?_
  first
    | refine Ls_y (wtd0 rfl) rfl rfl (y_load (i := 0) rfl rfl Ty.pl_23 (fun _ e => e ▸ hp) rfl rfl) ?_
    | refine Ls_y (wtd0 rfl) rfl rfl (y_load (i := 1) rfl rfl Ty.pl_23 (fun _ e => e ▸ hp) rfl rfl) ?_
  refine Ls_y (wtd0 rfl) rfl rfl (y_fld rfl rfl Ty.fo_29_2) ?_
  first
    | refine Ls_y (wtd0 rfl) rfl rfl (y_load (i := 0) rfl rfl Ty.pl_5 (fun _ e => e ▸ hp) rfl rfl) ?_
    | refine Ls_y (wtd0 rfl) rfl rfl (y_load (i := 1) rfl rfl Ty.pl_5 (fun _ e => e ▸ hp) rfl rfl) ?_
  refine Ls_y (wtd0 rfl) rfl rfl (y_fld rfl rfl Ty.fo_29_3) ?_
  first
    | refine Ls_y (wtd0 rfl) rfl rfl (y_load (i := 0) rfl rfl Ty.pl_9 (fun _ e => e ▸ hp) rfl rfl) ?_
    | refine Ls_y (wtd0 rfl) rfl rfl (y_load (i := 1) rfl rfl Ty.pl_9 (fun _ e => e ▸ hp) rfl rfl) ?_
  refine Ls_y (wtd0 rfl) rfl rfl (y_build (cells := [_, _, _, _]) rfl rfl Ty.zc_25 Ty.ps_25 rfl) ?_
  refine Ls_a (wtd0 rfl) ?_
  first
    | refine a_storew (i := 0) rfl rfl rfl rfl Ty.sz_25 rfl (by first | assumption | (simp [Value.oneCell']; done)) hp rfl rfl (fun w3 (hp : Hp w3 [(_, Cl [_, _, _, _] _), (_, Cl [_, _, _, _] _)]) hf _ => ?_)
    | refine a_storew (i := 1) rfl rfl rfl rfl Ty.sz_25 rfl (by first | assumption | (simp [Value.oneCell']; done)) hp rfl rfl (fun w3 (hp : Hp w3 [(_, Cl [_, _, _, _] _), (_, Cl [_, _, _, _] _)]) hf _ => ?_)
  have hF := hF.step hf (by intro y hy; simp only [List.mem_cons, List.not_mem_nil, or_false] at hy; subst hy; first | (exact Or.inr (by omega)) | (exact Or.inl (by simp)))
  refine Ls_nil (Th_n (hK2 _ _ ?_))
  first
    | refine Wp_ret (Fq_ret (ResN1 rfl (rvc (i := 0) rfl Ty.ag_25 hp rfl rfl)) ?_)
    | refine Wp_ret (Fq_ret (ResN1 rfl (rvc (i := 1) rfl Ty.ag_25 hp rfl rfl)) ?_)
  exact ⟨rfl, hF⟩

set_option maxRecDepth 20000 in
theorem rstamp_ok (g q f : Int) (d : List UInt8) (w : World) (hg0 : 0 ≤ g) (hg : g < 65536) (hq0 : 0 ≤ q) (hq : q < 4294967296) :
    Fn Try.prog 70 [.agg #[.int .u16 g, .int .u32 q, .int .u8 f, sv d]] w fun v w' => v = sv (stampS g q) ∧ Fr [] w w' := by
  refine Fn_of 27 Ty.en_70 Try.func70 rfl rfl rfl ?_
  dsimp only [argEnv]
  have hp := Hp.nil w
  have hF := Fr.refl [] w
  refine Wp_seq fun K1 hK1 => ?_
  refine Wp_region ?_
  refine Ls_a (wtd0 rfl) ?_
  refine a_box rfl rfl rfl rfl hp (fun g1 w1 (hp : Hp w1 [(_, Cl [_, _, _, _] _)]) hf hg1 => ?_)
  have hg1 := Nat.le_trans hF.size hg1
  have hF := hF.step0 hf
  refine Ls_y (wtd0 rfl) rfl rfl (y_assign rfl rfl) ?_
  refine Ls_nil (Th_n (hK1 _ _ ?_))
  refine Wp_seq fun K2 hK2 => ?_
  refine Wp_region ?_
  refine Ls_y (wtd0 rfl) rfl rfl (y_fld rfl rfl Ty.fo_25_0) ?_
  refine Ls_y (wtd0 rfl) rfl rfl (y_load (i := 0) rfl rfl Ty.pl_22 (fun _ e => e ▸ hp) rfl rfl) ?_
  refine Ls_y (wtd0 rfl) rfl rfl (y_shrC 8 256 rfl rfl rfl (by decide) rfl rfl (by decide)) ?_
  first
    | refine Ls_y (wtd0 rfl) rfl rfl (y_cvi rfl rfl Try.underlying22 Try.underlying5 (wf_u8 (by omega))) ?_
    | refine Ls_y (wtd0 rfl) rfl rfl (y_cvi rfl rfl Try.underlying22 Try.underlying5 wm_u8) ?_
  refine Ls_y (wtd0 rfl) rfl rfl (y_fld rfl rfl Ty.fo_25_0) ?_
  refine Ls_y (wtd0 rfl) rfl rfl (y_load (i := 0) rfl rfl Ty.pl_22 (fun _ e => e ▸ hp) rfl rfl) ?_
  first
    | refine Ls_y (wtd0 rfl) rfl rfl (y_cvi rfl rfl Try.underlying22 Try.underlying5 (wf_u8 (by omega))) ?_
    | refine Ls_y (wtd0 rfl) rfl rfl (y_cvi rfl rfl Try.underlying22 Try.underlying5 wm_u8) ?_
  refine Ls_y (wtd0 rfl) rfl rfl (y_fld rfl rfl Ty.fo_25_1) ?_
  refine Ls_y (wtd0 rfl) rfl rfl (y_load (i := 0) rfl rfl Ty.pl_23 (fun _ e => e ▸ hp) rfl rfl) ?_
  refine Ls_y (wtd0 rfl) rfl rfl (y_shrC 24 16777216 rfl rfl rfl (by decide) rfl rfl (by decide)) ?_
  first
    | refine Ls_y (wtd0 rfl) rfl rfl (y_cvi rfl rfl Try.underlying23 Try.underlying5 (wf_u8 (by omega))) ?_
    | refine Ls_y (wtd0 rfl) rfl rfl (y_cvi rfl rfl Try.underlying23 Try.underlying5 wm_u8) ?_
  refine Ls_y (wtd0 rfl) rfl rfl (y_fld rfl rfl Ty.fo_25_1) ?_
  refine Ls_y (wtd0 rfl) rfl rfl (y_load (i := 0) rfl rfl Ty.pl_23 (fun _ e => e ▸ hp) rfl rfl) ?_
  refine Ls_y (wtd0 rfl) rfl rfl (y_shrC 16 65536 rfl rfl rfl (by decide) rfl rfl (by decide)) ?_
  first
    | refine Ls_y (wtd0 rfl) rfl rfl (y_cvi rfl rfl Try.underlying23 Try.underlying5 (wf_u8 (by omega))) ?_
    | refine Ls_y (wtd0 rfl) rfl rfl (y_cvi rfl rfl Try.underlying23 Try.underlying5 wm_u8) ?_
  refine Ls_y (wtd0 rfl) rfl rfl (y_fld rfl rfl Ty.fo_25_1) ?_
  refine Ls_y (wtd0 rfl) rfl rfl (y_load (i := 0) rfl rfl Ty.pl_23 (fun _ e => e ▸ hp) rfl rfl) ?_
  refine Ls_y (wtd0 rfl) rfl rfl (y_shrC 8 256 rfl rfl rfl (by decide) rfl rfl (by decide)) ?_
  first
    | refine Ls_y (wtd0 rfl) rfl rfl (y_cvi rfl rfl Try.underlying23 Try.underlying5 (wf_u8 (by omega))) ?_
    | refine Ls_y (wtd0 rfl) rfl rfl (y_cvi rfl rfl Try.underlying23 Try.underlying5 wm_u8) ?_
  refine Ls_y (wtd0 rfl) rfl rfl (y_fld rfl rfl Ty.fo_25_1) ?_
  refine Ls_y (wtd0 rfl) rfl rfl (y_load (i := 0) rfl rfl Ty.pl_23 (fun _ e => e ▸ hp) rfl rfl) ?_
  first
    | refine Ls_y (wtd0 rfl) rfl rfl (y_cvi rfl rfl Try.underlying23 Try.underlying5 (wf_u8 (by omega))) ?_
    | refine Ls_y (wtd0 rfl) rfl rfl (y_cvi rfl rfl Try.underlying23 Try.underlying5 wm_u8) ?_
  refine Ls_a (wtd0 rfl) ?_
  refine a_bsl rfl rfl rfl rfl rfl Ty.es_102 Ty.zc_5 rfl (by decide) (by simp [Value.cells]) hp (fun g2 w2 (hp : Hp w2 [_, _]) hf hg2 => ?_)
  have hg2 := Nat.le_trans hF.size hg2
  have hF := hF.step0 hf
  refine Ls_y (wtd0 rfl) rfl rfl (y_cvbs (xs := stampN g q) rfl rfl Try.underlying102 Try.underlying5 Try.underlying9 rfl (fun _ e => e ▸ range_all (i := 1) hp rfl)) ?_
  refine Ls_y (wtd0 rfl) rfl rfl (y_assign rfl rfl) ?_
  refine Ls_nil (Th_n (hK2 _ _ ?_))
  refine Wp_ret (Fq_ret (Res1 rfl rfl) ?_)
  exact ⟨rfl, hF⟩

set_option maxRecDepth 20000 in
theorem noughts_ok (n : Nat) (w : World) (hn : n ≤ 1000000) :
    Fn Try.prog 71 [.int .i64 (n : Int)] w fun v w' => v = sv (List.replicate n 0) ∧ w' = w := by
  refine Fn_of 13 Ty.en_71 Try.func71 rfl rfl rfl ?_
  dsimp only [argEnv]
  refine Wp_seq fun K1 hK1 => ?_
  refine Wp_region ?_
  refine Ls_y (wtd0 rfl) rfl rfl (y_assign rfl rfl) ?_
  refine Ls_nil (Th_n (hK1 _ _ ?_))
  refine Wp_seq fun K2 hK2 => ?_
  refine Wp_region ?_
  refine Ls_y (wtd0 rfl) rfl rfl (y_assign rfl rfl) ?_
  refine Ls_nil (Th_n (hK2 _ _ ?_))
  refine Wp_seq fun K3 hK3 => ?_
  refine Wp_seq fun K4 hK4 => ?_
  refine Wp_region ?_
  refine Ls_y (wtd0 rfl) rfl rfl (y_assign rfl rfl) ?_
  refine Ls_nil (Th_n (hK4 _ _ ?_))
  refine Wp_block ?_
  refine Wp_loopE (fun m e W => ∃ k : Nat, k ≤ n ∧ m = n - k ∧ W = w ∧ e = [(0, .int .i64 (n : Int)), (3, sv (List.replicate k 0)), (4, .int .i64 (k : Int))]) (n) [(0, _), (3, _), (4, _)] ⟨rfl, rfl, rfl, trivial⟩ ?_ ?_
  · exact ⟨0, by omega, by omega, rfl, rfl⟩
  rintro m e W ⟨k, hk, rfl, rfl, rfl⟩
  refine Wp_seq fun K6 hK6 => ?_
  refine Wp_seq fun K7 hK7 => ?_
  refine Wp_region ?_
  refine Ls_y (wtd0 rfl) rfl rfl (y_move rfl rfl) ?_
  refine Ls_y (wtd0 rfl) rfl rfl (y_move rfl rfl) ?_
  refine Ls_y (wtd0 rfl) rfl rfl (y_lt rfl rfl rfl) ?_
  refine Ls_bool 7 rfl (fun hc1 => ?_) (fun hc1 => ?_)
  all_goals try simp only [decide_eq_true_eq, decide_eq_false_iff_not, beq_iff_eq, bne_iff_ne, ne_eq, beq_eq_false_iff_ne, bne_eq_false_iff_eq, Bool.not_eq_true, Bool.not_eq_false] at hc1
  · refine Ls_nil (Th_n (hK7 _ _ ?_))
    refine Wp_cond_t rfl ?_
    refine Wp_skip (Th_n (hK6 _ _ ?_))
    refine Wp_seq fun K8 hK8 => ?_
    refine Wp_block ?_
    refine Wp_region ?_
    refine Ls_y (wtd0 rfl) rfl rfl (y_move rfl rfl) ?_
    refine Ls_y (wtd0 rfl) rfl rfl (y_cat rfl rfl rfl (by first | omega | (simp; omega))) ?_
    refine Ls_y (wtd0 rfl) rfl rfl (y_assign rfl rfl) ?_
    refine Ls_nil (Ib_n (Th_n (hK8 _ _ ?_)))
    refine Wp_region ?_
    refine Ls_y (wtd0 rfl) rfl rfl (y_move rfl rfl) ?_
    first
      | refine Ls_y (wtd0 rfl) rfl rfl (y_add rfl rfl rfl (w_succ (by omega))) ?_
      | refine Ls_y (wtd0 rfl) rfl rfl (y_add rfl rfl rfl (wf_i64 (by omega))) ?_
      | refine Ls_y (wtd0 rfl) rfl rfl (y_add rfl rfl rfl rfl) ?_
    refine Ls_y (wtd0 rfl) rfl rfl (y_assign rfl rfl) ?_
    refine Ls_nil (Th_n (?_))
    exact ⟨n - (k + 1), [(0, _), (3, sv (List.replicate (k + 1) 0)), (4, _)], by omega, ⟨rfl, by rw [List.replicate_succ']; rfl, rfl, trivial⟩, k + 1, by omega, rfl, rfl, rfl⟩
  · refine Ls_nil (Th_n (hK7 _ _ ?_))
    refine Wp_cond_f rfl ?_
    refine Wp_exit (Th_e (Th_e (Ib_hit (Th_n (hK3 _ _ ?_)))))
    refine Wp_seq fun K9 hK9 => ?_
    refine Wp_region ?_
    refine Ls_y (wtd0 rfl) rfl rfl (y_move rfl rfl) ?_
    refine Ls_y (wtd0 rfl) rfl rfl (y_assign rfl rfl) ?_
    refine Ls_nil (Th_n (hK9 _ _ ?_))
    refine Wp_ret (Fq_ret (Res1 rfl rfl) ?_)
    exact ⟨by rw [show n = k by omega], rfl⟩

set_option maxRecDepth 20000 in
set_option maxHeartbeats 400000 in
theorem rpack_ok (g q f : Int) (d : List UInt8) (w : World) (hg0 : 0 ≤ g) (hg : g < 65536) (hq0 : 0 ≤ q) (hq : q < 4294967296) (hf0 : 0 ≤ f) (hf1 : f < 256) :
    Fn Try.prog 13 [.agg #[.int .u16 g, .int .u32 q, .int .u8 f, sv d]] w fun v w' => v = .tuple #[sv (packS g q f d), .int .i64 (packE q d)] ∧ Fr [] w w' := by
  refine Fn_of 37 Ty.en_13 Try.func13 rfl rfl rfl ?_
  dsimp only [argEnv]
  have hp := Hp.nil w
  have hF := Fr.refl [] w
  refine Wp_seq fun K1 hK1 => ?_
  refine Wp_region ?_
  refine Ls_a (wtd0 rfl) ?_
  refine a_box rfl rfl rfl rfl hp (fun g1 w1 (hp : Hp w1 [(_, Cl [_, _, _, _] _)]) hf hg1 => ?_)
  have hg1 := Nat.le_trans hF.size hg1
  have hF := hF.step0 hf
  refine Ls_y (wtd0 rfl) rfl rfl (y_assign rfl rfl) ?_
  refine Ls_y (wtd0 rfl) rfl rfl (y_assign rfl rfl) ?_
  refine Ls_nil (Th_n (hK1 _ _ ?_))
  refine Wp_seq fun K2 hK2 => ?_
  refine Wp_block ?_
  refine Wp_seq fun K3 hK3 => ?_
  refine Wp_region ?_
  refine Ls_y (wtd0 rfl) rfl rfl (y_fld rfl rfl Ty.fo_25_3) ?_
  refine Ls_y (wtd0 rfl) rfl rfl (y_load (i := 0) rfl rfl Ty.pl_9 (fun _ e => e ▸ hp) rfl rfl) ?_
  refine Ls_y (wtd0 rfl) rfl rfl (y_lens rfl rfl Try.underlying9) ?_
  refine Ls_y (wtd0 rfl) rfl rfl (y_gt rfl rfl rfl) ?_
  refine Ls_bool 9 rfl (fun hc1 => ?_) (fun hc1 => ?_)
  all_goals try simp only [decide_eq_true_eq, decide_eq_false_iff_not, beq_iff_eq, bne_iff_ne, ne_eq, beq_eq_false_iff_ne, bne_eq_false_iff_eq, Bool.not_eq_true, Bool.not_eq_false] at hc1
  · refine Ls_y (wtd0 rfl) rfl rfl (y_assign rfl rfl) ?_
    refine Ls_nil (Th_n (hK3 _ _ ?_))
    refine Wp_cond_t rfl ?_
    refine Wp_seq fun K4 hK4 => ?_
    refine Wp_region ?_
    refine Ls_y (wtd0 rfl) rfl rfl (y_assign rfl rfl) ?_
    refine Ls_y (wtd0 rfl) rfl rfl (y_assign rfl rfl) ?_
    refine Ls_nil (Th_n (hK4 _ _ ?_))
    refine Wp_ret (Ib_r (Th_r (Fq_ret (Res2 rfl rfl rfl) ?_)))
    exact ⟨by simp [packS, packE, show 50 < d.length by omega], hF⟩
  · refine Ls_y (wtd0 rfl) rfl rfl (y_assign rfl rfl) ?_
    refine Ls_nil (Th_n (hK3 _ _ ?_))
    refine Wp_cond_f rfl ?_
    refine Wp_seq fun K5 hK5 => ?_
    refine Wp_region ?_
    refine Ls_y (wtd0 rfl) rfl rfl (y_fld rfl rfl Ty.fo_25_1) ?_
    refine Ls_y (wtd0 rfl) rfl rfl (y_load (i := 0) rfl rfl Ty.pl_23 (fun _ e => e ▸ hp) rfl rfl) ?_
    refine Ls_y (wtd0 rfl) rfl rfl (y_eq rfl rfl rfl) ?_
    refine Ls_bool 13 rfl (fun hc2 => ?_) (fun hc2 => ?_)
    all_goals try simp only [decide_eq_true_eq, decide_eq_false_iff_not, beq_iff_eq, bne_iff_ne, ne_eq, beq_eq_false_iff_ne, bne_eq_false_iff_eq, Bool.not_eq_true, Bool.not_eq_false] at hc2
    · refine Ls_y (wtd0 rfl) rfl rfl (y_assign rfl rfl) ?_
      refine Ls_nil (Th_n (hK5 _ _ ?_))
      refine Wp_cond_t rfl ?_
      refine Wp_seq fun K6 hK6 => ?_
      refine Wp_region ?_
      refine Ls_y (wtd0 rfl) rfl rfl (y_assign rfl rfl) ?_
      refine Ls_y (wtd0 rfl) rfl rfl (y_assign rfl rfl) ?_
      refine Ls_nil (Th_n (hK6 _ _ ?_))
      refine Wp_ret (Ib_r (Th_r (Fq_ret (Res2 rfl rfl rfl) ?_)))
      exact ⟨by simp [packS, packE, show ¬ 50 < d.length by omega, hc2], hF⟩
    · have hs6 := stampS_len g q
      refine Ls_y (wtd0 rfl) rfl rfl (y_assign rfl rfl) ?_
      refine Ls_nil (Th_n (hK5 _ _ ?_))
      refine Wp_cond_f rfl ?_
      refine Wp_skip (Ib_n (Th_n (hK2 _ _ ?_)))
      refine Wp_seq fun K7 hK7 => ?_
      refine Wp_px (fun W => Hp W (pickL (heapOf hp) [0])) 15 rfl Ty.mx_0 (hp.picks [0] (by decide)).drew ?_
      have hp := hp.drew
      have hF := hF.step0 (Fr.drew _)
      refine Px_y (i := 0) rfl (by kernel_rfl) (wtd0 rfl) rfl rfl (y_loadw (i := 0) rfl rfl Ty.ag_25 (fun _ h => h) rfl rfl) ?_
      refine Px_y (i := 2) rfl (by kernel_rfl) (wtd0 rfl) rfl rfl (y_fld rfl rfl Ty.fo_25_2) ?_
      refine Px_y (i := 3) rfl (by kernel_rfl) (wtd0 rfl) rfl rfl (y_load (i := 0) rfl rfl Ty.pl_5 (fun _ h => h) rfl rfl) ?_
      refine Px_y (i := 4) rfl (by kernel_rfl) (wtd0 rfl) rfl rfl (y_fld rfl rfl Ty.fo_25_3) ?_
      refine Px_y (i := 5) rfl (by kernel_rfl) (wtd0 rfl) rfl rfl (y_load (i := 0) rfl rfl Ty.pl_9 (fun _ h => h) rfl rfl) ?_
      refine Px_y (i := 6) rfl (by kernel_rfl) (wtd0 rfl) rfl rfl (y_lens rfl rfl Try.underlying9) ?_
      first
        | refine Px_y (i := 7) rfl (by kernel_rfl) (wtd0 rfl) rfl rfl (y_cvi rfl rfl Try.underlying3 Try.underlying5 (wf_u8 (by omega))) ?_
        | refine Px_y (i := 7) rfl (by kernel_rfl) (wtd0 rfl) rfl rfl (y_cvi rfl rfl Try.underlying3 Try.underlying5 wm_u8) ?_
      refine Px_y (i := 11) rfl (by kernel_rfl) (wtd0 rfl) rfl rfl (y_fld rfl rfl Ty.fo_25_3) ?_
      refine Px_y (i := 12) rfl (by kernel_rfl) (wtd0 rfl) rfl rfl (y_load (i := 0) rfl rfl Ty.pl_9 (fun _ h => h) rfl rfl) ?_
      refine Px_a2 (i := 1) (j := 8) (by kernel_rfl) rfl (wtd0 rfl) rfl (wtd0 rfl) ?_ ?_
      · refine a_call rfl rfl rfl rfl (rstamp_ok g q f d _ hg0 hg hq0 hq) (fun v w2 ⟨hv, hf⟩ => ?_)
        subst hv
        have hp := hp.keep0 hf
        have hF := hF.step0 hf
        refine ⟨hp.picks [0] (by decide), ?_⟩
        refine Px_a (i := 8) (by kernel_rfl) rfl (wtd0 rfl) ?_
        refine a_bsl rfl rfl rfl rfl rfl Ty.es_102 Ty.zc_5 rfl (by decide) (by simp [Value.cells]) hp (fun g3 w3 (hp : Hp w3 [_, _]) hf hg3 => ?_)
        have hg3 := Nat.le_trans hF.size hg3
        have hF := hF.step0 hf
        refine ⟨hp.picks [0] (by decide), ?_⟩
        refine Px_str (fun W => Hp W (pickL (heapOf hp) [0, 1])) (fun _ h => h.picks [0] (by decide)) (hp.picks [0, 1] (by decide)) ?_
        refine Px_y (i := 9) rfl (by kernel_rfl) (wtd0 rfl) rfl rfl (y_cvbs (xs := [f, (d.length : Int)]) rfl rfl Try.underlying102 Try.underlying5 Try.underlying9 rfl (fun _ h => range_all (i := 1) h rfl)) ?_
        refine Px_y (i := 10) rfl (by kernel_rfl) (wtd0 rfl) rfl rfl (y_cat rfl rfl rfl (by first | omega | (simp; omega))) ?_
        refine Px_y (i := 13) rfl (by kernel_rfl) (wtd0 rfl) rfl rfl (y_cat rfl rfl rfl (by first | omega | (simp; omega))) ?_
        refine Px_y (i := 14) rfl (by kernel_rfl) (wtd0 rfl) rfl rfl (y_assign rfl rfl) ?_
        refine Px_done (by kernel_rfl) (Th_n (hK7 _ _ ?_))
        refine Wp_seq fun K8 hK8 => ?_
        refine Wp_plan (fun W => Hp W (heapOf hp)) [(true, 0), (true, 1), (true, 2), (true, 3), (true, 6), (false, 4), (true, 5), (false, 7), (true, 8), (true, 9), (true, 10)] Ty.mx_0 (by kernel_rfl) (by kernel_rfl) rfl (hp.drew) ?_
        have hp := hp.drew
        have hF := hF.step0 (Fr.drew _)
        refine Pl_y rfl (wtd0 rfl) rfl rfl (y_move rfl rfl) ?_
        refine Pl_y rfl (wtd0 rfl) rfl rfl (y_move rfl rfl) ?_
        refine Pl_y rfl (wtd0 rfl) rfl rfl (y_lens rfl rfl Try.underlying9) ?_
        first
          | refine Pl_y rfl (wtd0 rfl) rfl rfl (y_sub rfl rfl rfl (w_subN (a := 58) (by first | omega | (simp; omega)) (by first | omega | (simp; omega)))) ?_
          | refine Pl_y rfl (wtd0 rfl) rfl rfl (y_sub rfl rfl rfl (wf_i64 (by omega))) ?_
          | refine Pl_y rfl (wtd0 rfl) rfl rfl (y_sub rfl rfl rfl rfl) ?_
        first
          | refine Pl_y rfl (wtd0 rfl) rfl rfl (y_loadw (i := 0) rfl rfl Ty.ag_25 (fun _ h => h) rfl rfl) ?_
          | refine Pl_y rfl (wtd0 rfl) rfl rfl (y_loadw (i := 1) rfl rfl Ty.ag_25 (fun _ h => h) rfl rfl) ?_
        refine Pl_a rfl (wtd0 rfl) (by rfl) ?_
        refine a_call rfl rfl rfl rfl (noughts_ok _ _ (by simp; omega)) (fun v w5 ⟨hv, hw⟩ => ?_)
        subst hv
        subst hw
        refine ⟨hp, ?_⟩
        refine Pl_y rfl (wtd0 rfl) rfl rfl (y_cat rfl rfl rfl (by first | omega | (simp; omega))) ?_
        refine Pl_a rfl (wtd0 rfl) (by rfl) ?_
        refine a_call rfl rfl rfl rfl (rstamp_ok g q f d _ hg0 hg hq0 hq) (fun v w6 ⟨hv, hf⟩ => ?_)
        subst hv
        have hp := hp.keep0 hf
        have hF := hF.step0 hf
        refine ⟨hp, ?_⟩
        refine Pl_y rfl (wtd0 rfl) rfl rfl (y_cat rfl rfl rfl (by first | omega | (simp; omega))) ?_
        refine Pl_y rfl (wtd0 rfl) rfl rfl (y_assign rfl rfl) ?_
        refine Pl_y rfl (wtd0 rfl) rfl rfl (y_assign rfl rfl) ?_
        refine Pl_nil (Th_n (hK8 _ _ ?_))
        refine Wp_ret (Fq_ret (Res2 rfl rfl rfl) ?_)
        exact ⟨by rw [packS_cat g q f d (by omega) hc2]; simp [packE, show ¬ 50 < d.length by omega, hc2], hF⟩
      · refine a_bsl rfl rfl rfl rfl rfl Ty.es_102 Ty.zc_5 rfl (by decide) (by simp [Value.cells]) hp (fun g3 w3 (hp : Hp w3 [_, _]) hf hg3 => ?_)
        have hg3 := Nat.le_trans hF.size hg3
        have hF := hF.step0 hf
        refine ⟨hp.picks [0] (by decide), ?_⟩
        refine Px_str (fun W => Hp W (pickL (heapOf hp) [0, 1])) (fun _ h => h.picks [0] (by decide)) (hp.picks [0, 1] (by decide)) ?_
        refine Px_y (i := 9) rfl (by kernel_rfl) (wtd0 rfl) rfl rfl (y_cvbs (xs := [f, (d.length : Int)]) rfl rfl Try.underlying102 Try.underlying5 Try.underlying9 rfl (fun _ h => range_all (i := 1) h rfl)) ?_
        refine Px_a (i := 1) (by kernel_rfl) rfl (wtd0 rfl) ?_
        refine a_call rfl rfl rfl rfl (rstamp_ok g q f d _ hg0 hg hq0 hq) (fun v w2 ⟨hv, hf⟩ => ?_)
        subst hv
        have hp := hp.keep0 hf
        have hF := hF.step0 hf
        refine ⟨hp.picks [0, 1] (by decide), ?_⟩
        refine Px_y (i := 10) rfl (by kernel_rfl) (wtd0 rfl) rfl rfl (y_cat rfl rfl rfl (by first | omega | (simp; omega))) ?_
        refine Px_y (i := 13) rfl (by kernel_rfl) (wtd0 rfl) rfl rfl (y_cat rfl rfl rfl (by first | omega | (simp; omega))) ?_
        refine Px_y (i := 14) rfl (by kernel_rfl) (wtd0 rfl) rfl rfl (y_assign rfl rfl) ?_
        refine Px_done (by kernel_rfl) (Th_n (hK7 _ _ ?_))
        refine Wp_seq fun K9 hK9 => ?_
        refine Wp_plan (fun W => Hp W (heapOf hp)) [(true, 0), (true, 1), (true, 2), (true, 3), (true, 6), (false, 4), (true, 5), (false, 7), (true, 8), (true, 9), (true, 10)] Ty.mx_0 (by kernel_rfl) (by kernel_rfl) rfl (hp.drew) ?_
        have hp := hp.drew
        have hF := hF.step0 (Fr.drew _)
        refine Pl_y rfl (wtd0 rfl) rfl rfl (y_move rfl rfl) ?_
        refine Pl_y rfl (wtd0 rfl) rfl rfl (y_move rfl rfl) ?_
        refine Pl_y rfl (wtd0 rfl) rfl rfl (y_lens rfl rfl Try.underlying9) ?_
        first
          | refine Pl_y rfl (wtd0 rfl) rfl rfl (y_sub rfl rfl rfl (w_subN (a := 58) (by first | omega | (simp; omega)) (by first | omega | (simp; omega)))) ?_
          | refine Pl_y rfl (wtd0 rfl) rfl rfl (y_sub rfl rfl rfl (wf_i64 (by omega))) ?_
          | refine Pl_y rfl (wtd0 rfl) rfl rfl (y_sub rfl rfl rfl rfl) ?_
        first
          | refine Pl_y rfl (wtd0 rfl) rfl rfl (y_loadw (i := 0) rfl rfl Ty.ag_25 (fun _ h => h) rfl rfl) ?_
          | refine Pl_y rfl (wtd0 rfl) rfl rfl (y_loadw (i := 1) rfl rfl Ty.ag_25 (fun _ h => h) rfl rfl) ?_
        refine Pl_a rfl (wtd0 rfl) (by rfl) ?_
        refine a_call rfl rfl rfl rfl (noughts_ok _ _ (by simp; omega)) (fun v w5 ⟨hv, hw⟩ => ?_)
        subst hv
        subst hw
        refine ⟨hp, ?_⟩
        refine Pl_y rfl (wtd0 rfl) rfl rfl (y_cat rfl rfl rfl (by first | omega | (simp; omega))) ?_
        refine Pl_a rfl (wtd0 rfl) (by rfl) ?_
        refine a_call rfl rfl rfl rfl (rstamp_ok g q f d _ hg0 hg hq0 hq) (fun v w6 ⟨hv, hf⟩ => ?_)
        subst hv
        have hp := hp.keep0 hf
        have hF := hF.step0 hf
        refine ⟨hp, ?_⟩
        refine Pl_y rfl (wtd0 rfl) rfl rfl (y_cat rfl rfl rfl (by first | omega | (simp; omega))) ?_
        refine Pl_y rfl (wtd0 rfl) rfl rfl (y_assign rfl rfl) ?_
        refine Pl_y rfl (wtd0 rfl) rfl rfl (y_assign rfl rfl) ?_
        refine Pl_nil (Th_n (hK9 _ _ ?_))
        refine Wp_ret (Fq_ret (Res2 rfl rfl rfl) ?_)
        exact ⟨by rw [packS_cat g q f d (by omega) hc2]; simp [packE, show ¬ 50 < d.length by omega, hc2], hF⟩

end Go.Proofs.Ytikdpkhcegjmfaa

/- Walks printed by gen.py out of our own specifications: what the functions named below do. -/
import Derived.Test.YtcpfhnfpokijaaaM1
set_option linter.unusedSimpArgs false
set_option linter.unusedVariables false
namespace Go.Proofs.Ytcpfhnfpokijaaa
open Go.RowKit


def numI (v : Int) : List Int := if ¬ 0 < v then [0] else if ¬ 0 < v / 256 then [1, v % 256] else if ¬ 0 < v / 256 / 256 then [2, v / 256 % 256, v % 256] else if ¬ 0 < v / 256 / 256 / 256 then [3, v / 256 / 256 % 256, v / 256 % 256, v % 256] else [4, v / 256 / 256 / 256 % 256, v / 256 / 256 % 256, v / 256 % 256, v % 256]
def numB (v : Int) : List UInt8 := (numI v).map fun q => UInt8.ofNat q.toNat
theorem numB_len (v : Int) : 1 ≤ (numB v).length ∧ (numB v).length ≤ 5 := by unfold numB numI; rw [List.length_map]; split <;> (try split) <;> (try split) <;> (try split) <;> simp
theorem numB_len3 {v : Int} (h : v < 65536) : (numB v).length ≤ 3 := by unfold numB numI; rw [List.length_map]; split <;> (try split) <;> (try split) <;> (try split) <;> first | (simp; done) | omega

set_option maxRecDepth 20000 in
set_option maxHeartbeats 1000000 in
theorem onum_ok (v : Nat) (w : World) (hv : v < 4294967296) : Fn Try.prog 38 [.int .u64 (v : Int)] w fun u w' => u = sv (numB (v : Int)) ∧ Fr [] w w' := by
  refine Fn_of 25 Ty.en_38 Try.func38 rfl rfl rfl ?_
  dsimp only [argEnv]
  have hp := Hp.nil w
  have hF := Fr.refl [] w
  refine Wp_seq fun K1 hK1 => ?_
  refine Wp_region ?_
  refine Ls_y (wtd0 rfl) rfl rfl (y_assign rfl rfl) ?_
  refine Ls_nil (Th_n (hK1 _ _ ?_))
  refine Wp_seq fun K2 hK2 => ?_
  refine Wp_region ?_
  refine Ls_a (wtd0 rfl) ?_
  refine a_alloc rfl rfl rfl Ty.zc_101 hp (fun g1 w1 (hp : Hp w1 [_]) hf hg1 => ?_)
  have hg1 := Nat.le_trans hF.size hg1
  have hF := hF.step0 hf
  refine Ls_nil (Th_n (hK2 _ _ ?_))
  refine Wp_seq fun K3 hK3 => ?_
  refine Wp_region ?_
  refine Ls_y (wtd0 rfl) rfl rfl (y_assign rfl rfl) ?_
  refine Ls_nil (Th_n (hK3 _ _ ?_))
  refine Wp_seq fun K4 hK4 => ?_
  refine Wp_block ?_
  refine Wp_unroll 6 (WpR_succ ?_)
  refine Wp_seq fun K5 hK5 => ?_
  refine Wp_seq fun K6 hK6 => ?_
  refine Wp_region ?_
  refine Ls_y (wtd0 rfl) rfl rfl (y_move rfl rfl) ?_
  refine Ls_y (wtd0 rfl) rfl rfl (y_gt rfl rfl rfl) ?_
  refine Ls_bool 6 rfl (fun h1 => ?_) (fun h1 => ?_)
  all_goals try simp only [decide_eq_true_eq, decide_eq_false_iff_not, beq_iff_eq, bne_iff_ne, ne_eq, beq_eq_false_iff_ne, bne_eq_false_iff_eq, Bool.not_eq_true, Bool.not_eq_false] at h1
  · refine Ls_nil (Th_n (hK6 _ _ ?_))
    refine Wp_cond_t rfl ?_
    refine Wp_skip (Th_n (hK5 _ _ ?_))
    refine Wp_seq fun K7 hK7 => ?_
    refine Wp_block ?_
    refine Wp_seq fun K8 hK8 => ?_
    refine Wp_region ?_
    refine Ls_y (wtd0 rfl) rfl rfl (y_move rfl rfl) ?_
    refine Ls_y (wtd0 rfl) rfl rfl (y_sub (c := 8) rfl rfl rfl (by decide)) ?_
    refine Ls_y (wtd0 rfl) rfl rfl (y_assign rfl rfl) ?_
    refine Ls_nil (Th_n (hK8 _ _ ?_))
    refine Wp_region ?_
    refine Ls_y (wtd0 rfl) rfl rfl (y_move rfl rfl) ?_
    refine Ls_y (wtd0 rfl) rfl rfl (y_move rfl rfl) ?_
    refine Ls_y (wtd0 rfl) rfl rfl (y_cvi rfl rfl Try.underlying24 Try.underlying5 wm_u8) ?_
    first
      | refine Ls_y (wtd0 rfl) rfl rfl (y_ixrN rfl rfl rfl Ty.ar_101 (by omega)) ?_
      | refine Ls_y (wtd0 rfl) rfl rfl (y_ixr rfl rfl rfl Ty.ar_101 (by omega) (by omega)) ?_
    refine Ls_a (wtd0 rfl) ?_
    refine a_store (i := 0) rfl rfl rfl rfl rfl Ty.sz_5 rfl hp rfl (by first | decide | (simp; done) | (simp; omega)) (fun w2 (hp : Hp w2 [_]) hf _ => ?_)
    have hF := hF.step hf (by intro y hy; simp only [List.mem_cons, List.not_mem_nil, or_false] at hy; subst hy; first | (exact Or.inr (by omega)) | (exact Or.inl (by simp)))
    refine Ls_nil (Ib_n (Th_n (hK7 _ _ ?_)))
    refine Wp_region ?_
    refine Ls_y (wtd0 rfl) rfl rfl (y_move rfl rfl) ?_
    refine Ls_y (wtd0 rfl) rfl rfl (y_shrC 8 256 rfl rfl rfl (by decide) rfl rfl (by decide)) ?_
    refine Ls_y (wtd0 rfl) rfl rfl (y_assign rfl rfl) ?_
    refine Ls_nil (Th_n (WpR_succ ?_))
    refine Wp_seq fun K9 hK9 => ?_
    refine Wp_seq fun K10 hK10 => ?_
    refine Wp_region ?_
    refine Ls_y (wtd0 rfl) rfl rfl (y_move rfl rfl) ?_
    refine Ls_y (wtd0 rfl) rfl rfl (y_gt rfl rfl rfl) ?_
    refine Ls_bool 6 rfl (fun h2 => ?_) (fun h2 => ?_)
    all_goals try simp only [decide_eq_true_eq, decide_eq_false_iff_not, beq_iff_eq, bne_iff_ne, ne_eq, beq_eq_false_iff_ne, bne_eq_false_iff_eq, Bool.not_eq_true, Bool.not_eq_false] at h2
    · refine Ls_nil (Th_n (hK10 _ _ ?_))
      refine Wp_cond_t rfl ?_
      refine Wp_skip (Th_n (hK9 _ _ ?_))
      refine Wp_seq fun K11 hK11 => ?_
      refine Wp_block ?_
      refine Wp_seq fun K12 hK12 => ?_
      refine Wp_region ?_
      refine Ls_y (wtd0 rfl) rfl rfl (y_move rfl rfl) ?_
      refine Ls_y (wtd0 rfl) rfl rfl (y_sub (c := 7) rfl rfl rfl (by decide)) ?_
      refine Ls_y (wtd0 rfl) rfl rfl (y_assign rfl rfl) ?_
      refine Ls_nil (Th_n (hK12 _ _ ?_))
      refine Wp_region ?_
      refine Ls_y (wtd0 rfl) rfl rfl (y_move rfl rfl) ?_
      refine Ls_y (wtd0 rfl) rfl rfl (y_move rfl rfl) ?_
      refine Ls_y (wtd0 rfl) rfl rfl (y_cvi rfl rfl Try.underlying24 Try.underlying5 wm_u8) ?_
      first
        | refine Ls_y (wtd0 rfl) rfl rfl (y_ixrN rfl rfl rfl Ty.ar_101 (by omega)) ?_
        | refine Ls_y (wtd0 rfl) rfl rfl (y_ixr rfl rfl rfl Ty.ar_101 (by omega) (by omega)) ?_
      refine Ls_a (wtd0 rfl) ?_
      refine a_store (i := 0) rfl rfl rfl rfl rfl Ty.sz_5 rfl hp rfl (by first | decide | (simp; done) | (simp; omega)) (fun w3 (hp : Hp w3 [_]) hf _ => ?_)
      have hF := hF.step hf (by intro y hy; simp only [List.mem_cons, List.not_mem_nil, or_false] at hy; subst hy; first | (exact Or.inr (by omega)) | (exact Or.inl (by simp)))
      refine Ls_nil (Ib_n (Th_n (hK11 _ _ ?_)))
      refine Wp_region ?_
      refine Ls_y (wtd0 rfl) rfl rfl (y_move rfl rfl) ?_
      refine Ls_y (wtd0 rfl) rfl rfl (y_shrC 8 256 rfl rfl rfl (by decide) rfl rfl (by decide)) ?_
      refine Ls_y (wtd0 rfl) rfl rfl (y_assign rfl rfl) ?_
      refine Ls_nil (Th_n (WpR_succ ?_))
      refine Wp_seq fun K13 hK13 => ?_
      refine Wp_seq fun K14 hK14 => ?_
      refine Wp_region ?_
      refine Ls_y (wtd0 rfl) rfl rfl (y_move rfl rfl) ?_
      refine Ls_y (wtd0 rfl) rfl rfl (y_gt rfl rfl rfl) ?_
      refine Ls_bool 6 rfl (fun h3 => ?_) (fun h3 => ?_)
      all_goals try simp only [decide_eq_true_eq, decide_eq_false_iff_not, beq_iff_eq, bne_iff_ne, ne_eq, beq_eq_false_iff_ne, bne_eq_false_iff_eq, Bool.not_eq_true, Bool.not_eq_false] at h3
      · refine Ls_nil (Th_n (hK14 _ _ ?_))
        refine Wp_cond_t rfl ?_
        refine Wp_skip (Th_n (hK13 _ _ ?_))
        refine Wp_seq fun K15 hK15 => ?_
        refine Wp_block ?_
        refine Wp_seq fun K16 hK16 => ?_
        refine Wp_region ?_
        refine Ls_y (wtd0 rfl) rfl rfl (y_move rfl rfl) ?_
        refine Ls_y (wtd0 rfl) rfl rfl (y_sub (c := 6) rfl rfl rfl (by decide)) ?_
        refine Ls_y (wtd0 rfl) rfl rfl (y_assign rfl rfl) ?_
        refine Ls_nil (Th_n (hK16 _ _ ?_))
        refine Wp_region ?_
        refine Ls_y (wtd0 rfl) rfl rfl (y_move rfl rfl) ?_
        refine Ls_y (wtd0 rfl) rfl rfl (y_move rfl rfl) ?_
        refine Ls_y (wtd0 rfl) rfl rfl (y_cvi rfl rfl Try.underlying24 Try.underlying5 wm_u8) ?_
        first
          | refine Ls_y (wtd0 rfl) rfl rfl (y_ixrN rfl rfl rfl Ty.ar_101 (by omega)) ?_
          | refine Ls_y (wtd0 rfl) rfl rfl (y_ixr rfl rfl rfl Ty.ar_101 (by omega) (by omega)) ?_
        refine Ls_a (wtd0 rfl) ?_
        refine a_store (i := 0) rfl rfl rfl rfl rfl Ty.sz_5 rfl hp rfl (by first | decide | (simp; done) | (simp; omega)) (fun w4 (hp : Hp w4 [_]) hf _ => ?_)
        have hF := hF.step hf (by intro y hy; simp only [List.mem_cons, List.not_mem_nil, or_false] at hy; subst hy; first | (exact Or.inr (by omega)) | (exact Or.inl (by simp)))
        refine Ls_nil (Ib_n (Th_n (hK15 _ _ ?_)))
        refine Wp_region ?_
        refine Ls_y (wtd0 rfl) rfl rfl (y_move rfl rfl) ?_
        refine Ls_y (wtd0 rfl) rfl rfl (y_shrC 8 256 rfl rfl rfl (by decide) rfl rfl (by decide)) ?_
        refine Ls_y (wtd0 rfl) rfl rfl (y_assign rfl rfl) ?_
        refine Ls_nil (Th_n (WpR_succ ?_))
        refine Wp_seq fun K17 hK17 => ?_
        refine Wp_seq fun K18 hK18 => ?_
        refine Wp_region ?_
        refine Ls_y (wtd0 rfl) rfl rfl (y_move rfl rfl) ?_
        refine Ls_y (wtd0 rfl) rfl rfl (y_gt rfl rfl rfl) ?_
        refine Ls_bool 6 rfl (fun h4 => ?_) (fun h4 => ?_)
        all_goals try simp only [decide_eq_true_eq, decide_eq_false_iff_not, beq_iff_eq, bne_iff_ne, ne_eq, beq_eq_false_iff_ne, bne_eq_false_iff_eq, Bool.not_eq_true, Bool.not_eq_false] at h4
        · refine Ls_nil (Th_n (hK18 _ _ ?_))
          refine Wp_cond_t rfl ?_
          refine Wp_skip (Th_n (hK17 _ _ ?_))
          refine Wp_seq fun K19 hK19 => ?_
          refine Wp_block ?_
          refine Wp_seq fun K20 hK20 => ?_
          refine Wp_region ?_
          refine Ls_y (wtd0 rfl) rfl rfl (y_move rfl rfl) ?_
          refine Ls_y (wtd0 rfl) rfl rfl (y_sub (c := 5) rfl rfl rfl (by decide)) ?_
          refine Ls_y (wtd0 rfl) rfl rfl (y_assign rfl rfl) ?_
          refine Ls_nil (Th_n (hK20 _ _ ?_))
          refine Wp_region ?_
          refine Ls_y (wtd0 rfl) rfl rfl (y_move rfl rfl) ?_
          refine Ls_y (wtd0 rfl) rfl rfl (y_move rfl rfl) ?_
          refine Ls_y (wtd0 rfl) rfl rfl (y_cvi rfl rfl Try.underlying24 Try.underlying5 wm_u8) ?_
          first
            | refine Ls_y (wtd0 rfl) rfl rfl (y_ixrN rfl rfl rfl Ty.ar_101 (by omega)) ?_
            | refine Ls_y (wtd0 rfl) rfl rfl (y_ixr rfl rfl rfl Ty.ar_101 (by omega) (by omega)) ?_
          refine Ls_a (wtd0 rfl) ?_
          refine a_store (i := 0) rfl rfl rfl rfl rfl Ty.sz_5 rfl hp rfl (by first | decide | (simp; done) | (simp; omega)) (fun w5 (hp : Hp w5 [_]) hf _ => ?_)
          have hF := hF.step hf (by intro y hy; simp only [List.mem_cons, List.not_mem_nil, or_false] at hy; subst hy; first | (exact Or.inr (by omega)) | (exact Or.inl (by simp)))
          refine Ls_nil (Ib_n (Th_n (hK19 _ _ ?_)))
          refine Wp_region ?_
          refine Ls_y (wtd0 rfl) rfl rfl (y_move rfl rfl) ?_
          refine Ls_y (wtd0 rfl) rfl rfl (y_shrC 8 256 rfl rfl rfl (by decide) rfl rfl (by decide)) ?_
          refine Ls_y (wtd0 rfl) rfl rfl (y_assign rfl rfl) ?_
          refine Ls_nil (Th_n (WpR_succ ?_))
          refine Wp_seq fun K21 hK21 => ?_
          refine Wp_seq fun K22 hK22 => ?_
          refine Wp_region ?_
          refine Ls_y (wtd0 rfl) rfl rfl (y_move rfl rfl) ?_
          refine Ls_y (wtd0 rfl) rfl rfl (y_gtF rfl rfl rfl (by omega)) ?_
          refine Ls_nil (Th_n (hK22 _ _ ?_))
          refine Wp_cond_f rfl ?_
          refine Wp_exit (Th_e (Th_e (Ib_hit (Th_n (hK4 _ _ ?_)))))
          refine Wp_seq fun K23 hK23 => ?_
          refine Wp_region ?_
          refine Ls_y (wtd0 rfl) rfl rfl (y_move rfl rfl) ?_
          refine Ls_y (wtd0 rfl) rfl rfl (y_sub (c := 4) rfl rfl rfl (by decide)) ?_
          refine Ls_y (wtd0 rfl) rfl rfl (y_move rfl rfl) ?_
          refine Ls_y (wtd0 rfl) rfl rfl (y_sub (c := 4) rfl rfl rfl (by decide)) ?_
          refine Ls_y (wtd0 rfl) rfl rfl (y_cvi rfl rfl Try.underlying3 Try.underlying5 (wf_u8 (by omega))) ?_
          first
            | refine Ls_y (wtd0 rfl) rfl rfl (y_ixrN rfl rfl rfl Ty.ar_101 (by omega)) ?_
            | refine Ls_y (wtd0 rfl) rfl rfl (y_ixr rfl rfl rfl Ty.ar_101 (by omega) (by omega)) ?_
          refine Ls_a (wtd0 rfl) ?_
          refine a_store (i := 0) rfl rfl rfl rfl rfl Ty.sz_5 rfl hp rfl (by first | decide | (simp; done) | (simp; omega)) (fun w6 (hp : Hp w6 [_]) hf _ => ?_)
          have hF := hF.step hf (by intro y hy; simp only [List.mem_cons, List.not_mem_nil, or_false] at hy; subst hy; first | (exact Or.inr (by omega)) | (exact Or.inl (by simp)))
          refine Ls_nil (Th_n (hK23 _ _ ?_))
          refine Wp_seq fun K24 hK24 => ?_
          refine Wp_region ?_
          refine Ls_y (wtd0 rfl) rfl rfl (y_move rfl rfl) ?_
          refine Ls_y (wtd0 rfl) rfl rfl (y_sub (c := 4) rfl rfl rfl (by decide)) ?_
          refine Ls_y (wtd0 rfl) rfl rfl (y_cutaN (i := 4) rfl rfl Ty.ar_101 rfl rfl (by first | omega | (simp; omega) | (simp; done)) (by first | omega | (simp; omega) | (simp; done)) (by first | omega | (simp; omega) | (simp; done))) ?_
          refine Ls_y (wtd0 rfl) rfl rfl (y_cvbs (xs := [4, ((v : Int) / 256 / 256 / 256) % 256, ((v : Int) / 256 / 256) % 256, ((v : Int) / 256) % 256, ((v : Int)) % 256]) rfl rfl Try.underlying45 Try.underlying5 Try.underlying9 rfl (by rintro _ rfl; exact range_of (i := 0) (k := 4) (m := 5) hp rfl)) ?_
          refine Ls_y (wtd0 rfl) rfl rfl (y_assign rfl rfl) ?_
          refine Ls_nil (Th_n (hK24 _ _ ?_))
          refine Wp_ret (Fq_ret (Res1 rfl rfl) ?_)
          refine ⟨?_, hF⟩
          unfold numB numI
          rw [if_neg (fun hn => hn h1), if_neg (fun hn => hn h2), if_neg (fun hn => hn h3), if_neg (fun hn => hn h4)] <;> rfl
        · refine Ls_nil (Th_n (hK18 _ _ ?_))
          refine Wp_cond_f rfl ?_
          refine Wp_exit (Th_e (Th_e (Ib_hit (Th_n (hK4 _ _ ?_)))))
          refine Wp_seq fun K25 hK25 => ?_
          refine Wp_region ?_
          refine Ls_y (wtd0 rfl) rfl rfl (y_move rfl rfl) ?_
          refine Ls_y (wtd0 rfl) rfl rfl (y_sub (c := 5) rfl rfl rfl (by decide)) ?_
          refine Ls_y (wtd0 rfl) rfl rfl (y_move rfl rfl) ?_
          refine Ls_y (wtd0 rfl) rfl rfl (y_sub (c := 3) rfl rfl rfl (by decide)) ?_
          refine Ls_y (wtd0 rfl) rfl rfl (y_cvi rfl rfl Try.underlying3 Try.underlying5 (wf_u8 (by omega))) ?_
          first
            | refine Ls_y (wtd0 rfl) rfl rfl (y_ixrN rfl rfl rfl Ty.ar_101 (by omega)) ?_
            | refine Ls_y (wtd0 rfl) rfl rfl (y_ixr rfl rfl rfl Ty.ar_101 (by omega) (by omega)) ?_
          refine Ls_a (wtd0 rfl) ?_
          refine a_store (i := 0) rfl rfl rfl rfl rfl Ty.sz_5 rfl hp rfl (by first | decide | (simp; done) | (simp; omega)) (fun w5 (hp : Hp w5 [_]) hf _ => ?_)
          have hF := hF.step hf (by intro y hy; simp only [List.mem_cons, List.not_mem_nil, or_false] at hy; subst hy; first | (exact Or.inr (by omega)) | (exact Or.inl (by simp)))
          refine Ls_nil (Th_n (hK25 _ _ ?_))
          refine Wp_seq fun K26 hK26 => ?_
          refine Wp_region ?_
          refine Ls_y (wtd0 rfl) rfl rfl (y_move rfl rfl) ?_
          refine Ls_y (wtd0 rfl) rfl rfl (y_sub (c := 5) rfl rfl rfl (by decide)) ?_
          refine Ls_y (wtd0 rfl) rfl rfl (y_cutaN (i := 5) rfl rfl Ty.ar_101 rfl rfl (by first | omega | (simp; omega) | (simp; done)) (by first | omega | (simp; omega) | (simp; done)) (by first | omega | (simp; omega) | (simp; done))) ?_
          refine Ls_y (wtd0 rfl) rfl rfl (y_cvbs (xs := [3, ((v : Int) / 256 / 256) % 256, ((v : Int) / 256) % 256, ((v : Int)) % 256]) rfl rfl Try.underlying45 Try.underlying5 Try.underlying9 rfl (by rintro _ rfl; exact range_of (i := 0) (k := 5) (m := 4) hp rfl)) ?_
          refine Ls_y (wtd0 rfl) rfl rfl (y_assign rfl rfl) ?_
          refine Ls_nil (Th_n (hK26 _ _ ?_))
          refine Wp_ret (Fq_ret (Res1 rfl rfl) ?_)
          refine ⟨?_, hF⟩
          unfold numB numI
          rw [if_neg (fun hn => hn h1), if_neg (fun hn => hn h2), if_neg (fun hn => hn h3), if_pos h4] <;> rfl
      · refine Ls_nil (Th_n (hK14 _ _ ?_))
        refine Wp_cond_f rfl ?_
        refine Wp_exit (Th_e (Th_e (Ib_hit (Th_n (hK4 _ _ ?_)))))
        refine Wp_seq fun K27 hK27 => ?_
        refine Wp_region ?_
        refine Ls_y (wtd0 rfl) rfl rfl (y_move rfl rfl) ?_
        refine Ls_y (wtd0 rfl) rfl rfl (y_sub (c := 6) rfl rfl rfl (by decide)) ?_
        refine Ls_y (wtd0 rfl) rfl rfl (y_move rfl rfl) ?_
        refine Ls_y (wtd0 rfl) rfl rfl (y_sub (c := 2) rfl rfl rfl (by decide)) ?_
        refine Ls_y (wtd0 rfl) rfl rfl (y_cvi rfl rfl Try.underlying3 Try.underlying5 (wf_u8 (by omega))) ?_
        first
          | refine Ls_y (wtd0 rfl) rfl rfl (y_ixrN rfl rfl rfl Ty.ar_101 (by omega)) ?_
          | refine Ls_y (wtd0 rfl) rfl rfl (y_ixr rfl rfl rfl Ty.ar_101 (by omega) (by omega)) ?_
        refine Ls_a (wtd0 rfl) ?_
        refine a_store (i := 0) rfl rfl rfl rfl rfl Ty.sz_5 rfl hp rfl (by first | decide | (simp; done) | (simp; omega)) (fun w4 (hp : Hp w4 [_]) hf _ => ?_)
        have hF := hF.step hf (by intro y hy; simp only [List.mem_cons, List.not_mem_nil, or_false] at hy; subst hy; first | (exact Or.inr (by omega)) | (exact Or.inl (by simp)))
        refine Ls_nil (Th_n (hK27 _ _ ?_))
        refine Wp_seq fun K28 hK28 => ?_
        refine Wp_region ?_
        refine Ls_y (wtd0 rfl) rfl rfl (y_move rfl rfl) ?_
        refine Ls_y (wtd0 rfl) rfl rfl (y_sub (c := 6) rfl rfl rfl (by decide)) ?_
        refine Ls_y (wtd0 rfl) rfl rfl (y_cutaN (i := 6) rfl rfl Ty.ar_101 rfl rfl (by first | omega | (simp; omega) | (simp; done)) (by first | omega | (simp; omega) | (simp; done)) (by first | omega | (simp; omega) | (simp; done))) ?_
        refine Ls_y (wtd0 rfl) rfl rfl (y_cvbs (xs := [2, ((v : Int) / 256) % 256, ((v : Int)) % 256]) rfl rfl Try.underlying45 Try.underlying5 Try.underlying9 rfl (by rintro _ rfl; exact range_of (i := 0) (k := 6) (m := 3) hp rfl)) ?_
        refine Ls_y (wtd0 rfl) rfl rfl (y_assign rfl rfl) ?_
        refine Ls_nil (Th_n (hK28 _ _ ?_))
        refine Wp_ret (Fq_ret (Res1 rfl rfl) ?_)
        refine ⟨?_, hF⟩
        unfold numB numI
        rw [if_neg (fun hn => hn h1), if_neg (fun hn => hn h2), if_pos h3] <;> rfl
    · refine Ls_nil (Th_n (hK10 _ _ ?_))
      refine Wp_cond_f rfl ?_
      refine Wp_exit (Th_e (Th_e (Ib_hit (Th_n (hK4 _ _ ?_)))))
      refine Wp_seq fun K29 hK29 => ?_
      refine Wp_region ?_
      refine Ls_y (wtd0 rfl) rfl rfl (y_move rfl rfl) ?_
      refine Ls_y (wtd0 rfl) rfl rfl (y_sub (c := 7) rfl rfl rfl (by decide)) ?_
      refine Ls_y (wtd0 rfl) rfl rfl (y_move rfl rfl) ?_
      refine Ls_y (wtd0 rfl) rfl rfl (y_sub (c := 1) rfl rfl rfl (by decide)) ?_
      refine Ls_y (wtd0 rfl) rfl rfl (y_cvi rfl rfl Try.underlying3 Try.underlying5 (wf_u8 (by omega))) ?_
      first
        | refine Ls_y (wtd0 rfl) rfl rfl (y_ixrN rfl rfl rfl Ty.ar_101 (by omega)) ?_
        | refine Ls_y (wtd0 rfl) rfl rfl (y_ixr rfl rfl rfl Ty.ar_101 (by omega) (by omega)) ?_
      refine Ls_a (wtd0 rfl) ?_
      refine a_store (i := 0) rfl rfl rfl rfl rfl Ty.sz_5 rfl hp rfl (by first | decide | (simp; done) | (simp; omega)) (fun w3 (hp : Hp w3 [_]) hf _ => ?_)
      have hF := hF.step hf (by intro y hy; simp only [List.mem_cons, List.not_mem_nil, or_false] at hy; subst hy; first | (exact Or.inr (by omega)) | (exact Or.inl (by simp)))
      refine Ls_nil (Th_n (hK29 _ _ ?_))
      refine Wp_seq fun K30 hK30 => ?_
      refine Wp_region ?_
      refine Ls_y (wtd0 rfl) rfl rfl (y_move rfl rfl) ?_
      refine Ls_y (wtd0 rfl) rfl rfl (y_sub (c := 7) rfl rfl rfl (by decide)) ?_
      refine Ls_y (wtd0 rfl) rfl rfl (y_cutaN (i := 7) rfl rfl Ty.ar_101 rfl rfl (by first | omega | (simp; omega) | (simp; done)) (by first | omega | (simp; omega) | (simp; done)) (by first | omega | (simp; omega) | (simp; done))) ?_
      refine Ls_y (wtd0 rfl) rfl rfl (y_cvbs (xs := [1, ((v : Int)) % 256]) rfl rfl Try.underlying45 Try.underlying5 Try.underlying9 rfl (by rintro _ rfl; exact range_of (i := 0) (k := 7) (m := 2) hp rfl)) ?_
      refine Ls_y (wtd0 rfl) rfl rfl (y_assign rfl rfl) ?_
      refine Ls_nil (Th_n (hK30 _ _ ?_))
      refine Wp_ret (Fq_ret (Res1 rfl rfl) ?_)
      refine ⟨?_, hF⟩
      unfold numB numI
      rw [if_neg (fun hn => hn h1), if_pos h2] <;> rfl
  · refine Ls_nil (Th_n (hK6 _ _ ?_))
    refine Wp_cond_f rfl ?_
    refine Wp_exit (Th_e (Th_e (Ib_hit (Th_n (hK4 _ _ ?_)))))
    refine Wp_seq fun K31 hK31 => ?_
    refine Wp_region ?_
    refine Ls_y (wtd0 rfl) rfl rfl (y_move rfl rfl) ?_
    refine Ls_y (wtd0 rfl) rfl rfl (y_sub (c := 8) rfl rfl rfl (by decide)) ?_
    refine Ls_y (wtd0 rfl) rfl rfl (y_move rfl rfl) ?_
    refine Ls_y (wtd0 rfl) rfl rfl (y_sub (c := 0) rfl rfl rfl (by decide)) ?_
    refine Ls_y (wtd0 rfl) rfl rfl (y_cvi rfl rfl Try.underlying3 Try.underlying5 (wf_u8 (by omega))) ?_
    first
      | refine Ls_y (wtd0 rfl) rfl rfl (y_ixrN rfl rfl rfl Ty.ar_101 (by omega)) ?_
      | refine Ls_y (wtd0 rfl) rfl rfl (y_ixr rfl rfl rfl Ty.ar_101 (by omega) (by omega)) ?_
    refine Ls_a (wtd0 rfl) ?_
    refine a_store (i := 0) rfl rfl rfl rfl rfl Ty.sz_5 rfl hp rfl (by first | decide | (simp; done) | (simp; omega)) (fun w2 (hp : Hp w2 [_]) hf _ => ?_)
    have hF := hF.step hf (by intro y hy; simp only [List.mem_cons, List.not_mem_nil, or_false] at hy; subst hy; first | (exact Or.inr (by omega)) | (exact Or.inl (by simp)))
    refine Ls_nil (Th_n (hK31 _ _ ?_))
    refine Wp_seq fun K32 hK32 => ?_
    refine Wp_region ?_
    refine Ls_y (wtd0 rfl) rfl rfl (y_move rfl rfl) ?_
    refine Ls_y (wtd0 rfl) rfl rfl (y_sub (c := 8) rfl rfl rfl (by decide)) ?_
    refine Ls_y (wtd0 rfl) rfl rfl (y_cutaN (i := 8) rfl rfl Ty.ar_101 rfl rfl (by first | omega | (simp; omega) | (simp; done)) (by first | omega | (simp; omega) | (simp; done)) (by first | omega | (simp; omega) | (simp; done))) ?_
    refine Ls_y (wtd0 rfl) rfl rfl (y_cvbs (xs := [0]) rfl rfl Try.underlying45 Try.underlying5 Try.underlying9 rfl (by rintro _ rfl; exact range_of (i := 0) (k := 8) (m := 1) hp rfl)) ?_
    refine Ls_y (wtd0 rfl) rfl rfl (y_assign rfl rfl) ?_
    refine Ls_nil (Th_n (hK32 _ _ ?_))
    refine Wp_ret (Fq_ret (Res1 rfl rfl) ?_)
    refine ⟨?_, hF⟩
    unfold numB numI
    rw [if_pos h1] <;> rfl

set_option maxRecDepth 20000 in
theorem otext_ok (s : List UInt8) (w : World) (hs : s.length ≤ 100000) : Fn Try.prog 39 [sv s] w fun u w' => u = sv (numB (s.length : Int) ++ s) ∧ Fr [] w w' := by
  refine Fn_of 9 Ty.en_39 Try.func39 rfl rfl rfl ?_
  dsimp only [argEnv]
  have hp := Hp.nil w
  have hF := Fr.refl [] w
  have hnl := numB_len (s.length : Int)
  refine Wp_seq fun K1 hK1 => ?_
  refine Wp_region ?_
  refine Ls_y (wtd0 rfl) rfl rfl (y_assign rfl rfl) ?_
  refine Ls_nil (Th_n (hK1 _ _ ?_))
  refine Wp_seq fun K2 hK2 => ?_
  refine Wp_region ?_
  refine Ls_y (wtd0 rfl) rfl rfl (y_move rfl rfl) ?_
  refine Ls_y (wtd0 rfl) rfl rfl (y_lens rfl rfl Try.underlying9) ?_
  first
    | refine Ls_y (wtd0 rfl) rfl rfl (y_cvi rfl rfl Try.underlying3 Try.underlying24 (wf_u64 (by omega))) ?_
    | refine Ls_y (wtd0 rfl) rfl rfl (y_cvi rfl rfl Try.underlying3 Try.underlying24 wm_u64) ?_
  refine Ls_a (wtd0 rfl) ?_
  refine a_call rfl rfl rfl rfl (onum_ok s.length _ (by omega)) (fun v w2 ⟨hv, hf⟩ => ?_)
  subst hv
  have hp := hp.keep0 hf
  have hF := hF.step0 hf
  refine Ls_y (wtd0 rfl) rfl rfl (y_move rfl rfl) ?_
  refine Ls_y (wtd0 rfl) rfl rfl (y_cat rfl rfl rfl (by first | omega | (simp; omega))) ?_
  refine Ls_y (wtd0 rfl) rfl rfl (y_assign rfl rfl) ?_
  refine Ls_nil (Th_n (hK2 _ _ ?_))
  refine Wp_ret (Fq_ret (Res1 rfl rfl) ?_)
  exact ⟨rfl, hF⟩

end Go.Proofs.Ytcpfhnfpokijaaa

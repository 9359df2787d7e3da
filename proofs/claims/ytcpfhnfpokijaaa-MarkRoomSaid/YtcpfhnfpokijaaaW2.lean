/- Walks printed by gen.py out of our own specifications: what the functions named below do. -/
import Derived.Test.YtcpfhnfpokijaaaW1
set_option linter.unusedSimpArgs false
set_option linter.unusedVariables false
namespace Go.Proofs.Ytcpfhnfpokijaaa
open Go.RowKit


/-- The cell that a sector's bytes hold. -/
def unpackC : List UInt8 → Option (Int × Int × Int × List UInt8)
  | b0 :: b1 :: b2 :: b3 :: b4 :: b5 :: b6 :: b7 :: r =>
    let g : Int := b0.toNat * 256 + b1.toNat
    let q : Int := ((b2.toNat * 256 + b3.toNat) * 256 + b4.toNat) * 256 + b5.toNat
    let d := r.take b7.toNat
    if r.length = 56 ∧ b7.toNat ≤ 50 ∧ q ≠ 0 ∧ packS g q b6.toNat d = b0 :: b1 :: b2 :: b3 :: b4 :: b5 :: b6 :: b7 :: r then some (g, q, b6.toNat, d) else none
  | _ => none
def unpackL (s : List UInt8) : Option (Int × Int × Int × List UInt8) := unpackC s
def cG : Option (Int × Int × Int × List UInt8) → Int
  | none => 0
  | some (g, _, _, _) => g
def cQ : Option (Int × Int × Int × List UInt8) → Int
  | none => 0
  | some (_, q, _, _) => q
def cF : Option (Int × Int × Int × List UInt8) → Int
  | none => 0
  | some (_, _, f, _) => f
def cD : Option (Int × Int × Int × List UInt8) → List UInt8
  | none => []
  | some (_, _, _, d) => d
abbrev cellO (o : Option (Int × Int × Int × List UInt8)) : Value := .agg #[.int .u16 (cG o), .int .u32 (cQ o), .int .u8 (cF o), sv (cD o)]
theorem bytes8 (s : List UInt8) (h : s.length = 64) : ∃ b0 b1 b2 b3 b4 b5 b6 b7 r, s = b0 :: b1 :: b2 :: b3 :: b4 :: b5 :: b6 :: b7 :: r ∧ r.length = 56 := by
  match s, h with
  | b0 :: b1 :: b2 :: b3 :: b4 :: b5 :: b6 :: b7 :: r, h => exact ⟨b0, b1, b2, b3, b4, b5, b6, b7, r, rfl, by simpa using h⟩
theorem unpackL_len (s : List UInt8) (h : s.length ≠ 64) : unpackL s = none := by
  unfold unpackL unpackC
  split
  · rename_i b0 b1 b2 b3 b4 b5 b6 b7 r
    have : ¬ r.length = 56 := by intro e; simp [e] at h
    simp [this]
  · rfl
theorem unpackL_most {b0 b1 b2 b3 b4 b5 b6 b7 : UInt8} {r : List UInt8} (hr : r.length = 56) (h : 50 < b7.toNat) : unpackL (b0 :: b1 :: b2 :: b3 :: b4 :: b5 :: b6 :: b7 :: r) = none := by
  unfold unpackL unpackC
  simp [show ¬ b7.toNat ≤ 50 by omega]
theorem unpackL_q {b0 b1 b2 b3 b4 b5 b6 b7 : UInt8} {r : List UInt8} (hr : r.length = 56) (h : b7.toNat ≤ 50) (hq : ¬ packE (((b2.toNat * 256 + b3.toNat : Int) * 256 + b4.toNat) * 256 + b5.toNat) (r.take b7.toNat) = 0) : unpackL (b0 :: b1 :: b2 :: b3 :: b4 :: b5 :: b6 :: b7 :: r) = none := by
  have h0 : (((b2.toNat * 256 + b3.toNat : Int) * 256 + b4.toNat) * 256 + b5.toNat) = 0 := by
    unfold packE at hq
    rw [if_neg (by simp; omega)] at hq
    split at hq
    · assumption
    · exact absurd rfl hq
  unfold unpackL unpackC
  simp only [h0]
  simp
theorem unpackL_ne {b0 b1 b2 b3 b4 b5 b6 b7 : UInt8} {r : List UInt8} (hr : r.length = 56) (h : b7.toNat ≤ 50) (hn : ¬ packS (b0.toNat * 256 + b1.toNat) (((b2.toNat * 256 + b3.toNat : Int) * 256 + b4.toNat) * 256 + b5.toNat) b6.toNat (r.take b7.toNat) = b0 :: b1 :: b2 :: b3 :: b4 :: b5 :: b6 :: b7 :: r) : unpackL (b0 :: b1 :: b2 :: b3 :: b4 :: b5 :: b6 :: b7 :: r) = none := by
  unfold unpackL unpackC
  simp only [hn]
  simp
theorem unpackL_eq {b0 b1 b2 b3 b4 b5 b6 b7 : UInt8} {r : List UInt8} (hr : r.length = 56) (h : b7.toNat ≤ 50) (hq : packE (((b2.toNat * 256 + b3.toNat : Int) * 256 + b4.toNat) * 256 + b5.toNat) (r.take b7.toNat) = 0) (hn : packS (b0.toNat * 256 + b1.toNat) (((b2.toNat * 256 + b3.toNat : Int) * 256 + b4.toNat) * 256 + b5.toNat) b6.toNat (r.take b7.toNat) = b0 :: b1 :: b2 :: b3 :: b4 :: b5 :: b6 :: b7 :: r) :
    unpackL (b0 :: b1 :: b2 :: b3 :: b4 :: b5 :: b6 :: b7 :: r) = some ((b0.toNat : Int) * 256 + b1.toNat, ((b2.toNat * 256 + b3.toNat : Int) * 256 + b4.toNat) * 256 + b5.toNat, (b6.toNat : Int), r.take b7.toNat) := by
  have h0 : ¬ (((b2.toNat * 256 + b3.toNat : Int) * 256 + b4.toNat) * 256 + b5.toNat) = 0 := by
    intro e
    rw [e] at hq
    unfold packE at hq
    rw [if_neg (by simp; omega)] at hq
    simp at hq
  unfold unpackL unpackC
  simp only [hn, hr, h]
  simp only [ne_eq, h0, not_false_eq_true, and_self, if_true]
theorem or8 {a b : Int} (h0 : 0 ≤ a) (h1 : a < 72057594037927936) (h2 : 0 ≤ b) (h3 : b < 256) : bits .or .u64 (a * 256) b = a * 256 + b := by
  rw [u64_or _ _ (by omega) (by omega) (by omega) (by omega)]
  have h := Nat.two_pow_add_eq_or_of_lt (i := 8) (b := b.toNat) (by omega) a.toNat
  rw [show (a * 256).toNat = 2 ^ 8 * a.toNat by omega, ← h]
  omega

set_option maxRecDepth 20000 in
set_option maxHeartbeats 400000 in
theorem unpack_ok (s : List UInt8) (w : World) :
    Fn Try.prog 57 [sv s] w fun v w' => v = .tuple #[cellO (unpackL s), .bool (unpackL s).isSome] ∧ Fr [] w w' := by
  refine Fn_of 57 Ty.en_57 Try.func57 rfl rfl rfl ?_
  dsimp only [argEnv]
  have hp := Hp.nil w
  have hF := Fr.refl [] w
  refine Wp_seq fun K1 hK1 => ?_
  refine Wp_region ?_
  refine Ls_a (wtd0 rfl) ?_
  refine a_alloc rfl rfl rfl Ty.zc_60 hp (fun g1 w1 (hp : Hp w1 [(_, Cl [_, _, _, _] _)]) hf hg1 => ?_)
  have hg1 := Nat.le_trans hF.size hg1
  have hF := hF.step0 hf
  refine Ls_y (wtd0 rfl) rfl rfl (y_assign rfl rfl) ?_
  refine Ls_nil (Th_n (hK1 _ _ ?_))
  refine Wp_seq fun K2 hK2 => ?_
  refine Wp_seq fun K3 hK3 => ?_
  refine Wp_region ?_
  refine Ls_y (wtd0 rfl) rfl rfl (y_move rfl rfl) ?_
  refine Ls_y (wtd0 rfl) rfl rfl (y_lens rfl rfl Try.underlying9) ?_
  refine Ls_y (wtd0 rfl) rfl rfl (y_ne rfl rfl rfl) ?_
  refine Ls_bool 12 rfl (fun hc1 => ?_) (fun hc1 => ?_)
  all_goals try simp only [decide_eq_true_eq, decide_eq_false_iff_not, beq_iff_eq, bne_iff_ne, ne_eq, beq_eq_false_iff_ne, bne_eq_false_iff_eq, Bool.not_eq_true, Bool.not_eq_false] at hc1
  · refine Ls_nil (Th_n (hK3 _ _ ?_))
    refine Wp_cond_t rfl ?_
    refine Wp_seq fun K4 hK4 => ?_
    refine Wp_region ?_
    refine Ls_y (wtd0 rfl) rfl rfl (y_build (cells := [_, _, _, _]) rfl rfl Ty.zc_60 Ty.ps_60 rfl) ?_
    refine Ls_a (wtd0 rfl) ?_
    refine a_storew (i := 0) rfl rfl rfl rfl Ty.sz_60 rfl (by first | assumption | (simp [Value.oneCell']; done)) hp rfl rfl (fun w2 (hp : Hp w2 [(_, Cl [_, _, _, _] _)]) hf _ => ?_)
    have hF := hF.step hf (by intro y hy; simp only [List.mem_cons, List.not_mem_nil, or_false] at hy; subst hy; first | (exact Or.inr (by omega)) | (exact Or.inl (by simp)))
    refine Ls_y (wtd0 rfl) rfl rfl (y_assign rfl rfl) ?_
    refine Ls_nil (Th_n (hK4 _ _ ?_))
    refine Wp_ret (Th_r (Fq_ret (ResN2 rfl (rvc (i := 0) rfl Ty.ag_60 hp rfl rfl) rfl) ?_))
    exact ⟨by rw [unpackL_len s (by omega)]; rfl, hF⟩
  · refine Ls_nil (Th_n (hK3 _ _ ?_))
    obtain ⟨b0, b1, b2, b3, b4, b5, b6, b7, r, rfl, hr⟩ := bytes8 s (by omega)
    have u0 := b0.toNat_lt
    have u1 := b1.toNat_lt
    have u2 := b2.toNat_lt
    have u3 := b3.toNat_lt
    have u4 := b4.toNat_lt
    have u5 := b5.toNat_lt
    have u6 := b6.toNat_lt
    have u7 := b7.toNat_lt
    refine Wp_cond_f rfl ?_
    refine Wp_skip (Th_n (hK2 _ _ ?_))
    refine Wp_seq fun K5 hK5 => ?_
    refine Wp_region ?_
    refine Ls_y (wtd0 rfl) rfl rfl (y_move rfl rfl) ?_
    first
      | refine Ls_y (wtd0 rfl) rfl rfl (y_ixs rfl rfl rfl Try.underlying9 (by omega) rfl) ?_
      | refine Ls_y (wtd0 rfl) rfl rfl (y_ixs rfl rfl rfl Try.underlying9 (by omega) (List.getElem?_eq_getElem (by first | omega | (simp; omega)))) ?_
    first
      | refine Ls_y (wtd0 rfl) rfl rfl (y_cvi rfl rfl Try.underlying5 Try.underlying3 (wf_i64 (by omega))) ?_
      | refine Ls_y (wtd0 rfl) rfl rfl (y_cvi rfl rfl Try.underlying5 Try.underlying3 rfl) ?_
    refine Ls_y (wtd0 rfl) rfl rfl (y_assign rfl rfl) ?_
    refine Ls_nil (Th_n (hK5 _ _ ?_))
    refine Wp_seq fun K6 hK6 => ?_
    refine Wp_seq fun K7 hK7 => ?_
    refine Wp_region ?_
    refine Ls_y (wtd0 rfl) rfl rfl (y_move rfl rfl) ?_
    refine Ls_y (wtd0 rfl) rfl rfl (y_gt rfl rfl rfl) ?_
    refine Ls_bool 18 rfl (fun hc2 => ?_) (fun hc2 => ?_)
    all_goals try simp only [decide_eq_true_eq, decide_eq_false_iff_not, beq_iff_eq, bne_iff_ne, ne_eq, beq_eq_false_iff_ne, bne_eq_false_iff_eq, Bool.not_eq_true, Bool.not_eq_false] at hc2
    · refine Ls_nil (Th_n (hK7 _ _ ?_))
      refine Wp_cond_t rfl ?_
      refine Wp_seq fun K8 hK8 => ?_
      refine Wp_region ?_
      refine Ls_y (wtd0 rfl) rfl rfl (y_build (cells := [_, _, _, _]) rfl rfl Ty.zc_60 Ty.ps_60 rfl) ?_
      refine Ls_a (wtd0 rfl) ?_
      refine a_storew (i := 0) rfl rfl rfl rfl Ty.sz_60 rfl (by first | assumption | (simp [Value.oneCell']; done)) hp rfl rfl (fun w2 (hp : Hp w2 [(_, Cl [_, _, _, _] _)]) hf _ => ?_)
      have hF := hF.step hf (by intro y hy; simp only [List.mem_cons, List.not_mem_nil, or_false] at hy; subst hy; first | (exact Or.inr (by omega)) | (exact Or.inl (by simp)))
      refine Ls_y (wtd0 rfl) rfl rfl (y_assign rfl rfl) ?_
      refine Ls_nil (Th_n (hK8 _ _ ?_))
      refine Wp_ret (Th_r (Fq_ret (ResN2 rfl (rvc (i := 0) rfl Ty.ag_60 hp rfl rfl) rfl) ?_))
      exact ⟨by rw [unpackL_most hr (by omega)]; rfl, hF⟩
    · refine Ls_nil (Th_n (hK7 _ _ ?_))
      refine Wp_cond_f rfl ?_
      refine Wp_skip (Th_n (hK6 _ _ ?_))
      refine Wp_seq fun K9 hK9 => ?_
      refine Wp_region ?_
      refine Ls_y (wtd0 rfl) rfl rfl (y_assign rfl rfl) ?_
      refine Ls_nil (Th_n (hK9 _ _ ?_))
      refine Wp_seq fun K10 hK10 => ?_
      refine Wp_seq fun K11 hK11 => ?_
      refine Wp_region ?_
      refine Ls_y (wtd0 rfl) rfl rfl (y_move rfl rfl) ?_
      refine Ls_nil (Th_n (hK11 _ _ ?_))
      refine Wp_block ?_
      refine Wp_unroll 7 (WpR_succ ?_)
      refine Wp_seq fun K12 hK12 => ?_
      refine Wp_region ?_
      refine Ls_y (wtd0 rfl) rfl rfl (y_ltT rfl rfl rfl (by decide)) ?_
      refine Ls_nil (Th_n (hK12 _ _ ?_))
      refine Wp_seq fun K13 hK13 => ?_
      refine Wp_cond_t rfl ?_
      refine Wp_skip (Th_n (hK13 _ _ ?_))
      refine Wp_seq fun K14 hK14 => ?_
      refine Wp_block ?_
      refine Wp_seq fun K15 hK15 => ?_
      refine Wp_region ?_
      refine Ls_y (wtd0 rfl) rfl rfl (y_move rfl rfl) ?_
      refine Ls_y (wtd0 rfl) rfl rfl (y_assign rfl rfl) ?_
      refine Ls_nil (Th_n (hK15 _ _ ?_))
      refine Wp_region ?_
      refine Ls_y (wtd0 rfl) rfl rfl (y_move rfl rfl) ?_
      first
        | refine Ls_y (wtd0 rfl) rfl rfl (y_shlC 8 256 rfl rfl rfl (by decide) rfl rfl (wf_u64 (by omega))) ?_
        | refine Ls_y (wtd0 rfl) rfl rfl (y_shlC 8 256 rfl rfl rfl (by decide) rfl rfl wm_u64) ?_
      refine Ls_y (wtd0 rfl) rfl rfl (y_move rfl rfl) ?_
      refine Ls_y (wtd0 rfl) rfl rfl (y_move rfl rfl) ?_
      first
        | refine Ls_y (wtd0 rfl) rfl rfl (y_ixs rfl rfl rfl Try.underlying9 (by omega) rfl) ?_
        | refine Ls_y (wtd0 rfl) rfl rfl (y_ixs rfl rfl rfl Try.underlying9 (by omega) (List.getElem?_eq_getElem (by first | omega | (simp; omega)))) ?_
      first
        | refine Ls_y (wtd0 rfl) rfl rfl (y_cvi rfl rfl Try.underlying5 Try.underlying24 (wf_u64 (by omega))) ?_
        | refine Ls_y (wtd0 rfl) rfl rfl (y_cvi rfl rfl Try.underlying5 Try.underlying24 wm_u64) ?_
      refine Ls_y (wtd0 rfl) rfl rfl (y_bits rfl rfl rfl (by simp) (or8 (by omega) (by omega) (by omega) (by omega))) ?_
      refine Ls_y (wtd0 rfl) rfl rfl (y_assign rfl rfl) ?_
      refine Ls_nil (Ib_n (Th_n (hK14 _ _ ?_)))
      refine Wp_region ?_
      refine Ls_y (wtd0 rfl) rfl rfl (y_add (c := 1) rfl rfl rfl (by decide)) ?_
      refine Ls_y (wtd0 rfl) rfl rfl (y_move rfl rfl) ?_
      refine Ls_nil (Th_n (WpR_succ ?_))
      refine Wp_seq fun K16 hK16 => ?_
      refine Wp_region ?_
      refine Ls_y (wtd0 rfl) rfl rfl (y_ltT rfl rfl rfl (by decide)) ?_
      refine Ls_nil (Th_n (hK16 _ _ ?_))
      refine Wp_seq fun K17 hK17 => ?_
      refine Wp_cond_t rfl ?_
      refine Wp_skip (Th_n (hK17 _ _ ?_))
      refine Wp_seq fun K18 hK18 => ?_
      refine Wp_block ?_
      refine Wp_seq fun K19 hK19 => ?_
      refine Wp_region ?_
      refine Ls_y (wtd0 rfl) rfl rfl (y_move rfl rfl) ?_
      refine Ls_y (wtd0 rfl) rfl rfl (y_assign rfl rfl) ?_
      refine Ls_nil (Th_n (hK19 _ _ ?_))
      refine Wp_region ?_
      refine Ls_y (wtd0 rfl) rfl rfl (y_move rfl rfl) ?_
      first
        | refine Ls_y (wtd0 rfl) rfl rfl (y_shlC 8 256 rfl rfl rfl (by decide) rfl rfl (wf_u64 (by omega))) ?_
        | refine Ls_y (wtd0 rfl) rfl rfl (y_shlC 8 256 rfl rfl rfl (by decide) rfl rfl wm_u64) ?_
      refine Ls_y (wtd0 rfl) rfl rfl (y_move rfl rfl) ?_
      refine Ls_y (wtd0 rfl) rfl rfl (y_move rfl rfl) ?_
      first
        | refine Ls_y (wtd0 rfl) rfl rfl (y_ixs rfl rfl rfl Try.underlying9 (by omega) rfl) ?_
        | refine Ls_y (wtd0 rfl) rfl rfl (y_ixs rfl rfl rfl Try.underlying9 (by omega) (List.getElem?_eq_getElem (by first | omega | (simp; omega)))) ?_
      first
        | refine Ls_y (wtd0 rfl) rfl rfl (y_cvi rfl rfl Try.underlying5 Try.underlying24 (wf_u64 (by omega))) ?_
        | refine Ls_y (wtd0 rfl) rfl rfl (y_cvi rfl rfl Try.underlying5 Try.underlying24 wm_u64) ?_
      refine Ls_y (wtd0 rfl) rfl rfl (y_bits rfl rfl rfl (by simp) (or8 (by omega) (by omega) (by omega) (by omega))) ?_
      refine Ls_y (wtd0 rfl) rfl rfl (y_assign rfl rfl) ?_
      refine Ls_nil (Ib_n (Th_n (hK18 _ _ ?_)))
      refine Wp_region ?_
      refine Ls_y (wtd0 rfl) rfl rfl (y_add (c := 2) rfl rfl rfl (by decide)) ?_
      refine Ls_y (wtd0 rfl) rfl rfl (y_move rfl rfl) ?_
      refine Ls_nil (Th_n (WpR_succ ?_))
      refine Wp_seq fun K20 hK20 => ?_
      refine Wp_region ?_
      refine Ls_y (wtd0 rfl) rfl rfl (y_ltT rfl rfl rfl (by decide)) ?_
      refine Ls_nil (Th_n (hK20 _ _ ?_))
      refine Wp_seq fun K21 hK21 => ?_
      refine Wp_cond_t rfl ?_
      refine Wp_skip (Th_n (hK21 _ _ ?_))
      refine Wp_seq fun K22 hK22 => ?_
      refine Wp_block ?_
      refine Wp_seq fun K23 hK23 => ?_
      refine Wp_region ?_
      refine Ls_y (wtd0 rfl) rfl rfl (y_move rfl rfl) ?_
      refine Ls_y (wtd0 rfl) rfl rfl (y_assign rfl rfl) ?_
      refine Ls_nil (Th_n (hK23 _ _ ?_))
      refine Wp_region ?_
      refine Ls_y (wtd0 rfl) rfl rfl (y_move rfl rfl) ?_
      first
        | refine Ls_y (wtd0 rfl) rfl rfl (y_shlC 8 256 rfl rfl rfl (by decide) rfl rfl (wf_u64 (by omega))) ?_
        | refine Ls_y (wtd0 rfl) rfl rfl (y_shlC 8 256 rfl rfl rfl (by decide) rfl rfl wm_u64) ?_
      refine Ls_y (wtd0 rfl) rfl rfl (y_move rfl rfl) ?_
      refine Ls_y (wtd0 rfl) rfl rfl (y_move rfl rfl) ?_
      first
        | refine Ls_y (wtd0 rfl) rfl rfl (y_ixs rfl rfl rfl Try.underlying9 (by omega) rfl) ?_
        | refine Ls_y (wtd0 rfl) rfl rfl (y_ixs rfl rfl rfl Try.underlying9 (by omega) (List.getElem?_eq_getElem (by first | omega | (simp; omega)))) ?_
      first
        | refine Ls_y (wtd0 rfl) rfl rfl (y_cvi rfl rfl Try.underlying5 Try.underlying24 (wf_u64 (by omega))) ?_
        | refine Ls_y (wtd0 rfl) rfl rfl (y_cvi rfl rfl Try.underlying5 Try.underlying24 wm_u64) ?_
      refine Ls_y (wtd0 rfl) rfl rfl (y_bits rfl rfl rfl (by simp) (or8 (by omega) (by omega) (by omega) (by omega))) ?_
      refine Ls_y (wtd0 rfl) rfl rfl (y_assign rfl rfl) ?_
      refine Ls_nil (Ib_n (Th_n (hK22 _ _ ?_)))
      refine Wp_region ?_
      refine Ls_y (wtd0 rfl) rfl rfl (y_add (c := 3) rfl rfl rfl (by decide)) ?_
      refine Ls_y (wtd0 rfl) rfl rfl (y_move rfl rfl) ?_
      refine Ls_nil (Th_n (WpR_succ ?_))
      refine Wp_seq fun K24 hK24 => ?_
      refine Wp_region ?_
      refine Ls_y (wtd0 rfl) rfl rfl (y_ltT rfl rfl rfl (by decide)) ?_
      refine Ls_nil (Th_n (hK24 _ _ ?_))
      refine Wp_seq fun K25 hK25 => ?_
      refine Wp_cond_t rfl ?_
      refine Wp_skip (Th_n (hK25 _ _ ?_))
      refine Wp_seq fun K26 hK26 => ?_
      refine Wp_block ?_
      refine Wp_seq fun K27 hK27 => ?_
      refine Wp_region ?_
      refine Ls_y (wtd0 rfl) rfl rfl (y_move rfl rfl) ?_
      refine Ls_y (wtd0 rfl) rfl rfl (y_assign rfl rfl) ?_
      refine Ls_nil (Th_n (hK27 _ _ ?_))
      refine Wp_region ?_
      refine Ls_y (wtd0 rfl) rfl rfl (y_move rfl rfl) ?_
      first
        | refine Ls_y (wtd0 rfl) rfl rfl (y_shlC 8 256 rfl rfl rfl (by decide) rfl rfl (wf_u64 (by omega))) ?_
        | refine Ls_y (wtd0 rfl) rfl rfl (y_shlC 8 256 rfl rfl rfl (by decide) rfl rfl wm_u64) ?_
      refine Ls_y (wtd0 rfl) rfl rfl (y_move rfl rfl) ?_
      refine Ls_y (wtd0 rfl) rfl rfl (y_move rfl rfl) ?_
      first
        | refine Ls_y (wtd0 rfl) rfl rfl (y_ixs rfl rfl rfl Try.underlying9 (by omega) rfl) ?_
        | refine Ls_y (wtd0 rfl) rfl rfl (y_ixs rfl rfl rfl Try.underlying9 (by omega) (List.getElem?_eq_getElem (by first | omega | (simp; omega)))) ?_
      first
        | refine Ls_y (wtd0 rfl) rfl rfl (y_cvi rfl rfl Try.underlying5 Try.underlying24 (wf_u64 (by omega))) ?_
        | refine Ls_y (wtd0 rfl) rfl rfl (y_cvi rfl rfl Try.underlying5 Try.underlying24 wm_u64) ?_
      refine Ls_y (wtd0 rfl) rfl rfl (y_bits rfl rfl rfl (by simp) (or8 (by omega) (by omega) (by omega) (by omega))) ?_
      refine Ls_y (wtd0 rfl) rfl rfl (y_assign rfl rfl) ?_
      refine Ls_nil (Ib_n (Th_n (hK26 _ _ ?_)))
      refine Wp_region ?_
      refine Ls_y (wtd0 rfl) rfl rfl (y_add (c := 4) rfl rfl rfl (by decide)) ?_
      refine Ls_y (wtd0 rfl) rfl rfl (y_move rfl rfl) ?_
      refine Ls_nil (Th_n (WpR_succ ?_))
      refine Wp_seq fun K28 hK28 => ?_
      refine Wp_region ?_
      refine Ls_y (wtd0 rfl) rfl rfl (y_ltT rfl rfl rfl (by decide)) ?_
      refine Ls_nil (Th_n (hK28 _ _ ?_))
      refine Wp_seq fun K29 hK29 => ?_
      refine Wp_cond_t rfl ?_
      refine Wp_skip (Th_n (hK29 _ _ ?_))
      refine Wp_seq fun K30 hK30 => ?_
      refine Wp_block ?_
      refine Wp_seq fun K31 hK31 => ?_
      refine Wp_region ?_
      refine Ls_y (wtd0 rfl) rfl rfl (y_move rfl rfl) ?_
      refine Ls_y (wtd0 rfl) rfl rfl (y_assign rfl rfl) ?_
      refine Ls_nil (Th_n (hK31 _ _ ?_))
      refine Wp_region ?_
      refine Ls_y (wtd0 rfl) rfl rfl (y_move rfl rfl) ?_
      first
        | refine Ls_y (wtd0 rfl) rfl rfl (y_shlC 8 256 rfl rfl rfl (by decide) rfl rfl (wf_u64 (by omega))) ?_
        | refine Ls_y (wtd0 rfl) rfl rfl (y_shlC 8 256 rfl rfl rfl (by decide) rfl rfl wm_u64) ?_
      refine Ls_y (wtd0 rfl) rfl rfl (y_move rfl rfl) ?_
      refine Ls_y (wtd0 rfl) rfl rfl (y_move rfl rfl) ?_
      first
        | refine Ls_y (wtd0 rfl) rfl rfl (y_ixs rfl rfl rfl Try.underlying9 (by omega) rfl) ?_
        | refine Ls_y (wtd0 rfl) rfl rfl (y_ixs rfl rfl rfl Try.underlying9 (by omega) (List.getElem?_eq_getElem (by first | omega | (simp; omega)))) ?_
      first
        | refine Ls_y (wtd0 rfl) rfl rfl (y_cvi rfl rfl Try.underlying5 Try.underlying24 (wf_u64 (by omega))) ?_
        | refine Ls_y (wtd0 rfl) rfl rfl (y_cvi rfl rfl Try.underlying5 Try.underlying24 wm_u64) ?_
      refine Ls_y (wtd0 rfl) rfl rfl (y_bits rfl rfl rfl (by simp) (or8 (by omega) (by omega) (by omega) (by omega))) ?_
      refine Ls_y (wtd0 rfl) rfl rfl (y_assign rfl rfl) ?_
      refine Ls_nil (Ib_n (Th_n (hK30 _ _ ?_)))
      refine Wp_region ?_
      refine Ls_y (wtd0 rfl) rfl rfl (y_add (c := 5) rfl rfl rfl (by decide)) ?_
      refine Ls_y (wtd0 rfl) rfl rfl (y_move rfl rfl) ?_
      refine Ls_nil (Th_n (WpR_succ ?_))
      refine Wp_seq fun K32 hK32 => ?_
      refine Wp_region ?_
      refine Ls_y (wtd0 rfl) rfl rfl (y_ltT rfl rfl rfl (by decide)) ?_
      refine Ls_nil (Th_n (hK32 _ _ ?_))
      refine Wp_seq fun K33 hK33 => ?_
      refine Wp_cond_t rfl ?_
      refine Wp_skip (Th_n (hK33 _ _ ?_))
      refine Wp_seq fun K34 hK34 => ?_
      refine Wp_block ?_
      refine Wp_seq fun K35 hK35 => ?_
      refine Wp_region ?_
      refine Ls_y (wtd0 rfl) rfl rfl (y_move rfl rfl) ?_
      refine Ls_y (wtd0 rfl) rfl rfl (y_assign rfl rfl) ?_
      refine Ls_nil (Th_n (hK35 _ _ ?_))
      refine Wp_region ?_
      refine Ls_y (wtd0 rfl) rfl rfl (y_move rfl rfl) ?_
      first
        | refine Ls_y (wtd0 rfl) rfl rfl (y_shlC 8 256 rfl rfl rfl (by decide) rfl rfl (wf_u64 (by omega))) ?_
        | refine Ls_y (wtd0 rfl) rfl rfl (y_shlC 8 256 rfl rfl rfl (by decide) rfl rfl wm_u64) ?_
      refine Ls_y (wtd0 rfl) rfl rfl (y_move rfl rfl) ?_
      refine Ls_y (wtd0 rfl) rfl rfl (y_move rfl rfl) ?_
      first
        | refine Ls_y (wtd0 rfl) rfl rfl (y_ixs rfl rfl rfl Try.underlying9 (by omega) rfl) ?_
        | refine Ls_y (wtd0 rfl) rfl rfl (y_ixs rfl rfl rfl Try.underlying9 (by omega) (List.getElem?_eq_getElem (by first | omega | (simp; omega)))) ?_
      first
        | refine Ls_y (wtd0 rfl) rfl rfl (y_cvi rfl rfl Try.underlying5 Try.underlying24 (wf_u64 (by omega))) ?_
        | refine Ls_y (wtd0 rfl) rfl rfl (y_cvi rfl rfl Try.underlying5 Try.underlying24 wm_u64) ?_
      refine Ls_y (wtd0 rfl) rfl rfl (y_bits rfl rfl rfl (by simp) (or8 (by omega) (by omega) (by omega) (by omega))) ?_
      refine Ls_y (wtd0 rfl) rfl rfl (y_assign rfl rfl) ?_
      refine Ls_nil (Ib_n (Th_n (hK34 _ _ ?_)))
      refine Wp_region ?_
      refine Ls_y (wtd0 rfl) rfl rfl (y_add (c := 6) rfl rfl rfl (by decide)) ?_
      refine Ls_y (wtd0 rfl) rfl rfl (y_move rfl rfl) ?_
      refine Ls_nil (Th_n (WpR_succ ?_))
      refine Wp_seq fun K36 hK36 => ?_
      refine Wp_region ?_
      refine Ls_y (wtd0 rfl) rfl rfl (y_ltF rfl rfl rfl (by decide)) ?_
      refine Ls_nil (Th_n (hK36 _ _ ?_))
      refine Wp_seq fun K37 hK37 => ?_
      refine Wp_cond_f rfl ?_
      refine Wp_exit (Th_e (Th_e (Ib_hit (Th_n (hK10 _ _ ?_)))))
      refine Wp_seq fun K38 hK38 => ?_
      refine Wp_plan (fun _ => True) [(true, 0), (true, 1), (true, 2), (true, 3), (true, 4), (true, 5), (true, 6), (true, 7), (true, 8), (true, 9), (true, 10), (true, 11), (false, 12), (false, 13)] Ty.mx_0 (by kernel_rfl) (by kernel_rfl) rfl (trivial) ?_
      have hp := hp.drew
      have hF := hF.step0 (Fr.drew _)
      refine Pl_y rfl (wtd0 rfl) rfl rfl (y_move rfl rfl) ?_
      refine Pl_y rfl (wtd0 rfl) rfl rfl (y_shrC 32 4294967296 rfl rfl rfl (by decide) rfl rfl (by decide)) ?_
      first
        | refine Pl_y rfl (wtd0 rfl) rfl rfl (y_cvi rfl rfl Try.underlying24 Try.underlying33 (wf_u16 (by omega))) ?_
        | refine Pl_y rfl (wtd0 rfl) rfl rfl (y_cvi rfl rfl Try.underlying24 Try.underlying33 wm_u16) ?_
      refine Pl_y rfl (wtd0 rfl) rfl rfl (y_move rfl rfl) ?_
      first
        | refine Pl_y rfl (wtd0 rfl) rfl rfl (y_cvi rfl rfl Try.underlying24 Try.underlying32 (wf_u32 (by omega))) ?_
        | refine Pl_y rfl (wtd0 rfl) rfl rfl (y_cvi rfl rfl Try.underlying24 Try.underlying32 wm_u32) ?_
      refine Pl_y rfl (wtd0 rfl) rfl rfl (y_move rfl rfl) ?_
      first
        | refine Pl_y rfl (wtd0 rfl) rfl rfl (y_ixs rfl rfl rfl Try.underlying9 (by omega) rfl) ?_
        | refine Pl_y rfl (wtd0 rfl) rfl rfl (y_ixs rfl rfl rfl Try.underlying9 (by omega) (List.getElem?_eq_getElem (by first | omega | (simp; omega)))) ?_
      refine Pl_y rfl (wtd0 rfl) rfl rfl (y_move rfl rfl) ?_
      refine Pl_y rfl (wtd0 rfl) rfl rfl (y_move rfl rfl) ?_
      first
        | refine Pl_y rfl (wtd0 rfl) rfl rfl (y_add rfl rfl rfl (w_addN (a := 8) (by first | omega | (simp; omega)))) ?_
        | refine Pl_y rfl (wtd0 rfl) rfl rfl (y_add rfl rfl rfl (wf_i64 (by omega))) ?_
        | refine Pl_y rfl (wtd0 rfl) rfl rfl (y_add rfl rfl rfl rfl) ?_
      refine Pl_y rfl (wtd0 rfl) rfl rfl (y_cutsN (i := 8) rfl rfl Try.underlying9 rfl rfl (by first | omega | (simp; omega) | (simp; done)) (by first | omega | (simp; omega) | (simp; done))) ?_
      refine Pl_y rfl (wtd0 rfl) rfl rfl (y_build (cells := [_, _, _, _]) rfl rfl Ty.zc_60 Ty.ps_60 rfl) ?_
      refine Pl_a rfl (wtd0 rfl) (by rfl) ?_
      refine a_alloc rfl rfl rfl Ty.zc_60 hp (fun g2 w2 (hp : Hp w2 [(_, Cl [_, _, _, _] _), (_, Cl [_, _, _, _] _)]) hf hg2 => ?_)
      have hg2 := Nat.le_trans hF.size hg2
      have hF := hF.step0 hf
      refine ⟨trivial, ?_⟩
      refine Pl_a rfl (wtd0 rfl) (by rfl) ?_
      first
        | refine a_storew (i := 0) rfl rfl rfl rfl Ty.sz_60 rfl (by first | assumption | (simp [Value.oneCell']; done)) hp rfl rfl (fun w3 (hp : Hp w3 [(_, Cl [_, _, _, _] _), (_, Cl [_, _, _, _] _)]) hf _ => ?_)
        | refine a_storew (i := 1) rfl rfl rfl rfl Ty.sz_60 rfl (by first | assumption | (simp [Value.oneCell']; done)) hp rfl rfl (fun w3 (hp : Hp w3 [(_, Cl [_, _, _, _] _), (_, Cl [_, _, _, _] _)]) hf _ => ?_)
      have hF := hF.step hf (by intro y hy; simp only [List.mem_cons, List.not_mem_nil, or_false] at hy; subst hy; first | (exact Or.inr (by omega)) | (exact Or.inl (by simp)))
      refine ⟨trivial, ?_⟩
      refine Pl_nil (Th_n (hK38 _ _ ?_))
      refine Wp_seq fun K39 hK39 => ?_
      refine Wp_region ?_
      have hp : Hp w3 [(_, Cl [_, _, _, _] _), (_, Cl [_, _, _, _] _)] := hp.conv (i := 1) (cs' := [.int .u16 (b0.toNat * 256 + b1.toNat), .int .u32 (((b2.toNat * 256 + b3.toNat) * 256 + b4.toNat) * 256 + b5.toNat), .int .u8 b6.toNat, sv (r.take b7.toNat)]) rfl (by
        rw [show 8 + b7.toNat = b7.toNat + 8 by omega]
        simp
        omega)
      first
        | refine Ls_y (wtd0 rfl) rfl rfl (y_loadw (i := 0) rfl rfl Ty.ag_60 (fun _ e => e ▸ hp) rfl rfl) ?_
        | refine Ls_y (wtd0 rfl) rfl rfl (y_loadw (i := 1) rfl rfl Ty.ag_60 (fun _ e => e ▸ hp) rfl rfl) ?_
      refine Ls_a (wtd0 rfl) ?_
      refine a_call rfl rfl rfl rfl (pack_ok (b0.toNat * 256 + b1.toNat) (((b2.toNat * 256 + b3.toNat) * 256 + b4.toNat) * 256 + b5.toNat) b6.toNat (r.take b7.toNat) _ (by omega) (by omega) (by omega) (by omega) (by omega) (by omega)) (fun v w4 ⟨hv, hf⟩ => ?_)
      subst hv
      have hp := hp.keep0 hf
      have hF := hF.step0 hf
      refine Ls_y (wtd0 rfl) rfl rfl (y_move rfl rfl) ?_
      refine Ls_y (wtd0 rfl) rfl rfl (y_ext rfl rfl rfl) ?_
      refine Ls_y (wtd0 rfl) rfl rfl (y_ext rfl rfl rfl) ?_
      refine Ls_y (wtd0 rfl) rfl rfl (y_assign rfl rfl) ?_
      refine Ls_y (wtd0 rfl) rfl rfl (y_assign rfl rfl) ?_
      refine Ls_nil (Th_n (hK39 _ _ ?_))
      refine Wp_seq fun K40 hK40 => ?_
      refine Wp_seq fun K41 hK41 => ?_
      refine Wp_region ?_
      refine Ls_y (wtd0 rfl) rfl rfl (y_move rfl rfl) ?_
      refine Ls_y (wtd0 rfl) rfl rfl (y_ne rfl rfl rfl) ?_
      refine Ls_bool 49 rfl (fun hc3 => ?_) (fun hc3 => ?_)
      all_goals try simp only [decide_eq_true_eq, decide_eq_false_iff_not, beq_iff_eq, bne_iff_ne, ne_eq, beq_eq_false_iff_ne, bne_eq_false_iff_eq, Bool.not_eq_true, Bool.not_eq_false] at hc3
      · refine Ls_y (wtd0 rfl) rfl rfl (y_move rfl rfl) ?_
        refine Ls_s (wtdF rfl rfl rfl) rfl rfl ?_
        refine Ls_s (wtdF rfl rfl rfl) rfl rfl ?_
        refine Ls_s (wtdF rfl rfl rfl) rfl rfl ?_
        refine Ls_y (wtd0 rfl) rfl rfl (y_pick_t rfl rfl rfl) ?_
        refine Ls_nil (Th_n (hK41 _ _ ?_))
        refine Wp_cond_t rfl ?_
        refine Wp_seq fun K42 hK42 => ?_
        refine Wp_region ?_
        refine Ls_y (wtd0 rfl) rfl rfl (y_build (cells := [_, _, _, _]) rfl rfl Ty.zc_60 Ty.ps_60 rfl) ?_
        refine Ls_a (wtd0 rfl) ?_
        first
          | refine a_storew (i := 0) rfl rfl rfl rfl Ty.sz_60 rfl (by first | assumption | (simp [Value.oneCell']; done)) hp rfl rfl (fun w4 (hp : Hp w4 [(_, Cl [_, _, _, _] _), (_, Cl [_, _, _, _] _)]) hf _ => ?_)
          | refine a_storew (i := 1) rfl rfl rfl rfl Ty.sz_60 rfl (by first | assumption | (simp [Value.oneCell']; done)) hp rfl rfl (fun w4 (hp : Hp w4 [(_, Cl [_, _, _, _] _), (_, Cl [_, _, _, _] _)]) hf _ => ?_)
        have hF := hF.step hf (by intro y hy; simp only [List.mem_cons, List.not_mem_nil, or_false] at hy; subst hy; first | (exact Or.inr (by omega)) | (exact Or.inl (by simp)))
        refine Ls_y (wtd0 rfl) rfl rfl (y_assign rfl rfl) ?_
        refine Ls_nil (Th_n (hK42 _ _ ?_))
        first
          | refine Wp_ret (Th_r (Fq_ret (ResN2 rfl (rvc (i := 0) rfl Ty.ag_60 hp rfl rfl) rfl) ?_))
          | refine Wp_ret (Th_r (Fq_ret (ResN2 rfl (rvc (i := 1) rfl Ty.ag_60 hp rfl rfl) rfl) ?_))
        exact ⟨by rw [unpackL_q hr (by omega) hc3]; rfl, hF⟩
      · refine Ls_y (wtd0 rfl) rfl rfl (y_move rfl rfl) ?_
        refine Ls_y (wtdT rfl rfl rfl) rfl rfl (y_move rfl rfl) ?_
        refine Ls_y (wtdT rfl rfl rfl) rfl rfl (y_move rfl rfl) ?_
        refine Ls_y (wtdT rfl rfl rfl) rfl rfl (y_nes rfl rfl rfl) ?_
        refine Ls_bool 53 rfl (fun hc4 => ?_) (fun hc4 => ?_)
        all_goals try simp only [decide_eq_true_eq, decide_eq_false_iff_not, beq_iff_eq, bne_iff_ne, ne_eq, beq_eq_false_iff_ne, bne_eq_false_iff_eq, Bool.not_eq_true, Bool.not_eq_false] at hc4
        · refine Ls_y (wtd0 rfl) rfl rfl (y_pick_f rfl rfl rfl) ?_
          refine Ls_nil (Th_n (hK41 _ _ ?_))
          refine Wp_cond_t rfl ?_
          refine Wp_seq fun K43 hK43 => ?_
          refine Wp_region ?_
          refine Ls_y (wtd0 rfl) rfl rfl (y_build (cells := [_, _, _, _]) rfl rfl Ty.zc_60 Ty.ps_60 rfl) ?_
          refine Ls_a (wtd0 rfl) ?_
          first
            | refine a_storew (i := 0) rfl rfl rfl rfl Ty.sz_60 rfl (by first | assumption | (simp [Value.oneCell']; done)) hp rfl rfl (fun w4 (hp : Hp w4 [(_, Cl [_, _, _, _] _), (_, Cl [_, _, _, _] _)]) hf _ => ?_)
            | refine a_storew (i := 1) rfl rfl rfl rfl Ty.sz_60 rfl (by first | assumption | (simp [Value.oneCell']; done)) hp rfl rfl (fun w4 (hp : Hp w4 [(_, Cl [_, _, _, _] _), (_, Cl [_, _, _, _] _)]) hf _ => ?_)
          have hF := hF.step hf (by intro y hy; simp only [List.mem_cons, List.not_mem_nil, or_false] at hy; subst hy; first | (exact Or.inr (by omega)) | (exact Or.inl (by simp)))
          refine Ls_y (wtd0 rfl) rfl rfl (y_assign rfl rfl) ?_
          refine Ls_nil (Th_n (hK43 _ _ ?_))
          first
            | refine Wp_ret (Th_r (Fq_ret (ResN2 rfl (rvc (i := 0) rfl Ty.ag_60 hp rfl rfl) rfl) ?_))
            | refine Wp_ret (Th_r (Fq_ret (ResN2 rfl (rvc (i := 1) rfl Ty.ag_60 hp rfl rfl) rfl) ?_))
          exact ⟨by rw [unpackL_ne hr (by omega) hc4]; rfl, hF⟩
        · refine Ls_y (wtd0 rfl) rfl rfl (y_pick_f rfl rfl rfl) ?_
          refine Ls_nil (Th_n (hK41 _ _ ?_))
          refine Wp_cond_f rfl ?_
          refine Wp_skip (Th_n (hK40 _ _ ?_))
          refine Wp_seq fun K44 hK44 => ?_
          refine Wp_region ?_
          first
            | refine Ls_y (wtd0 rfl) rfl rfl (y_loadw (i := 0) rfl rfl Ty.ag_60 (fun _ e => e ▸ hp) rfl rfl) ?_
            | refine Ls_y (wtd0 rfl) rfl rfl (y_loadw (i := 1) rfl rfl Ty.ag_60 (fun _ e => e ▸ hp) rfl rfl) ?_
          refine Ls_a (wtd0 rfl) ?_
          first
            | refine a_storew (i := 0) rfl rfl rfl rfl Ty.sz_60 rfl (by first | assumption | (simp [Value.oneCell']; done)) hp rfl rfl (fun w4 (hp : Hp w4 [(_, Cl [_, _, _, _] _), (_, Cl [_, _, _, _] _)]) hf _ => ?_)
            | refine a_storew (i := 1) rfl rfl rfl rfl Ty.sz_60 rfl (by first | assumption | (simp [Value.oneCell']; done)) hp rfl rfl (fun w4 (hp : Hp w4 [(_, Cl [_, _, _, _] _), (_, Cl [_, _, _, _] _)]) hf _ => ?_)
          have hF := hF.step hf (by intro y hy; simp only [List.mem_cons, List.not_mem_nil, or_false] at hy; subst hy; first | (exact Or.inr (by omega)) | (exact Or.inl (by simp)))
          refine Ls_y (wtd0 rfl) rfl rfl (y_assign rfl rfl) ?_
          refine Ls_nil (Th_n (hK44 _ _ ?_))
          first
            | refine Wp_ret (Fq_ret (ResN2 rfl (rvc (i := 0) rfl Ty.ag_60 hp rfl rfl) rfl) ?_)
            | refine Wp_ret (Fq_ret (ResN2 rfl (rvc (i := 1) rfl Ty.ag_60 hp rfl rfl) rfl) ?_)
          exact ⟨by rw [unpackL_eq hr (by omega) hc3 hc4]; rfl, hF⟩

end Go.Proofs.Ytcpfhnfpokijaaa

/- Walks printed by gen.py out of our own specifications: what the functions named below do. -/
import Derived.Test.YtikdpkhcegjmfaaW4
set_option linter.unusedSimpArgs false
set_option linter.unusedVariables false
namespace Go.Proofs.Ytikdpkhcegjmfaa
open Go.RowKit


theorem ofNat_byte {n : Int} (h0 : 0 ≤ n) (h1 : n < 256) : ((UInt8.ofNat n.toNat).toNat : Int) = n := by
  rw [UInt8.toNat_ofNat']
  rw [Nat.mod_eq_of_lt (by omega)]
  omega
theorem unpack_pack (g q f : Int) (d : List UInt8) (hg0 : 0 ≤ g) (hg : g < 65536) (hq0 : 0 ≤ q) (hq : q < 4294967296) (hf0 : 0 ≤ f) (hf1 : f < 256) (hd : d.length ≤ 50) (hqn : ¬ q = 0) : unpackL (packS g q f d) = some (g, q, f, d) := by
  have e : packS g q f d = UInt8.ofNat (g / 256).toNat :: UInt8.ofNat (g % 256).toNat :: UInt8.ofNat (q / 16777216).toNat :: UInt8.ofNat (q / 65536 % 256).toNat :: UInt8.ofNat (q / 256 % 256).toNat :: UInt8.ofNat (q % 256).toNat
      :: UInt8.ofNat f.toNat :: UInt8.ofNat (d.length : Int).toNat :: (d ++ List.replicate (50 - d.length) 0 ++ stampS g q) := by
    rw [packS_cat g q f d hd hqn]
    have hl : (stampS g q ++ [UInt8.ofNat f.toNat, UInt8.ofNat (d.length : Int).toNat] ++ d).length = 8 + d.length := by simp [stampS_len]; omega
    rw [hl, show 58 - (8 + d.length) = 50 - d.length by omega]
    simp [stampS, stampN]
  have h7 : (UInt8.ofNat (d.length : Int).toNat).toNat = d.length := by
    rw [UInt8.toNat_ofNat', Nat.mod_eq_of_lt (by omega)]; omega
  have htk : (d ++ List.replicate (50 - d.length) 0 ++ stampS g q).take (UInt8.ofNat (d.length : Int).toNat).toNat = d := by
    rw [h7, List.append_assoc, List.take_left' rfl]
  have hG : ((UInt8.ofNat (g / 256).toNat).toNat : Int) * 256 + ((UInt8.ofNat (g % 256).toNat).toNat : Int) = g := by
    rw [ofNat_byte (by omega) (by omega), ofNat_byte (by omega) (by omega)]; omega
  have hQ : ((((UInt8.ofNat (q / 16777216).toNat).toNat : Int) * 256 + ((UInt8.ofNat (q / 65536 % 256).toNat).toNat : Int)) * 256 + ((UInt8.ofNat (q / 256 % 256).toNat).toNat : Int)) * 256 + ((UInt8.ofNat (q % 256).toNat).toNat : Int) = q := by
    rw [ofNat_byte (by omega) (by omega), ofNat_byte (by omega) (by omega), ofNat_byte (by omega) (by omega), ofNat_byte (by omega) (by omega)]; omega
  have hFl : ((UInt8.ofNat f.toNat).toNat : Int) = f := ofNat_byte hf0 hf1
  have hlen : (d ++ List.replicate (50 - d.length) 0 ++ stampS g q).length = 56 := by simp [stampS_len]; omega
  have e2 := e
  rw [e]
  unfold unpackL unpackC
  simp only [hG, hQ, hFl, htk]
  rw [if_pos ⟨hlen, by omega, hqn, e⟩]
theorem unpack_isSome (g q f : Int) (d : List UInt8) (hg0 : 0 ≤ g) (hg : g < 65536) (hq0 : 0 ≤ q) (hq : q < 4294967296) (hf0 : 0 ≤ f) (hf1 : f < 256) : (unpackL (packS g q f d)).isSome = (packE q d == 0) := by
  by_cases hd : 50 < d.length
  · have e : packS g q f d = [] := by simp [packS, hd]
    rw [e, unpackL_len [] (by simp)]
    simp [packE, hd]
  · by_cases hq1 : q = 0
    · have e : packS g q f d = [] := by simp [packS, hq1]
      rw [e, unpackL_len [] (by simp)]
      simp [packE, hd, hq1]
    · rw [unpack_pack g q f d hg0 hg hq0 hq hf0 hf1 (by omega) hq1]
      simp [packE, hd, hq1]
theorem unpack_some (g q f : Int) (d : List UInt8) (hg0 : 0 ≤ g) (hg : g < 65536) (hq0 : 0 ≤ q) (hq : q < 4294967296) (hf0 : 0 ≤ f) (hf1 : f < 256) (h : (unpackL (packS g q f d)).isSome = true) : unpackL (packS g q f d) = some (g, q, f, d) := by
  rw [unpack_isSome g q f d hg0 hg hq0 hq hf0 hf1] at h
  by_cases hd : 50 < d.length
  · simp [packE, hd] at h
  · by_cases hq1 : q = 0
    · simp [packE, hd, hq1] at h
    · exact unpack_pack g q f d hg0 hg hq0 hq hf0 hf1 (by omega) hq1

set_option maxRecDepth 20000 in
set_option maxHeartbeats 400000 in
theorem sectorCells_ok (g q f : Int) (d s : List UInt8) (w : World) (hg0 : 0 ≤ g) (hg : g < 65536) (hq0 : 0 ≤ q) (hq : q < 4294967296) (hf0 : 0 ≤ f) (hf1 : f < 256) :
    Fn Try.prog 3 [.agg #[.int .u16 g, .int .u32 q, .int .u8 f, sv d], sv s] w fun v w' => v = .bool true ∧ Fr [] w w' := by
  refine Fn_of 85 Ty.en_3 Try.func3 rfl rfl rfl ?_
  dsimp only [argEnv]
  have hp := Hp.nil w
  have hF := Fr.refl [] w
  refine Wp_seq fun K1 hK1 => ?_
  refine Wp_region ?_
  refine Ls_a (wtd0 rfl) ?_
  refine a_box rfl rfl rfl rfl hp (fun g1 w1 (hp : Hp w1 [(_, Cl [_, _, _, _] _)]) hf hg1 => ?_)
  have hg1 := Nat.le_trans hF.size hg1
  have hF := hF.step0 hf
  refine Ls_y (wtd0 rfl) rfl rfl (y_assign rfl rfl) ?_
  refine Ls_nil (Th_n (hK1 _ _ ?_))
  refine Wp_seq fun K2 hK2 => ?_
  refine Wp_seq fun K3 hK3 => ?_
  refine Wp_region ?_
  refine Ls_y (wtd0 rfl) rfl rfl (y_fld rfl rfl Ty.fo_25_3) ?_
  refine Ls_y (wtd0 rfl) rfl rfl (y_load (i := 0) rfl rfl Ty.pl_9 (fun _ e => e ▸ hp) rfl rfl) ?_
  refine Ls_y (wtd0 rfl) rfl rfl (y_lens rfl rfl Try.underlying9) ?_
  refine Ls_y (wtd0 rfl) rfl rfl (y_gt rfl rfl rfl) ?_
  refine Ls_bool 18 rfl (fun hc1 => ?_) (fun hc1 => ?_)
  all_goals try simp only [decide_eq_true_eq, decide_eq_false_iff_not, beq_iff_eq, bne_iff_ne, ne_eq, beq_eq_false_iff_ne, bne_eq_false_iff_eq, Bool.not_eq_true, Bool.not_eq_false] at hc1
  · refine Ls_y (wtd0 rfl) rfl rfl (y_move rfl rfl) ?_
    refine Ls_s (wtdF rfl rfl rfl) rfl rfl ?_
    refine Ls_s (wtdF rfl rfl rfl) rfl rfl ?_
    refine Ls_s (wtdF rfl rfl rfl) rfl rfl ?_
    refine Ls_y (wtd0 rfl) rfl rfl (y_pick_t rfl rfl rfl) ?_
    refine Ls_nil (Th_n (hK3 _ _ ?_))
    refine Wp_cond_t rfl ?_
    refine Wp_seq fun K4 hK4 => ?_
    refine Wp_region ?_
    refine Ls_y (wtd0 rfl) rfl rfl (y_assign rfl rfl) ?_
    refine Ls_nil (Th_n (hK4 _ _ ?_))
    refine Wp_ret (Th_r (Fq_ret (Res1 rfl rfl) ?_))
    exact ⟨rfl, hF⟩
  · refine Ls_y (wtd0 rfl) rfl rfl (y_move rfl rfl) ?_
    refine Ls_y (wtdT rfl rfl rfl) rfl rfl (y_move rfl rfl) ?_
    refine Ls_y (wtdT rfl rfl rfl) rfl rfl (y_lens rfl rfl Try.underlying9) ?_
    refine Ls_y (wtdT rfl rfl rfl) rfl rfl (y_gt rfl rfl rfl) ?_
    refine Ls_bool 22 rfl (fun hc2 => ?_) (fun hc2 => ?_)
    all_goals try simp only [decide_eq_true_eq, decide_eq_false_iff_not, beq_iff_eq, bne_iff_ne, ne_eq, beq_eq_false_iff_ne, bne_eq_false_iff_eq, Bool.not_eq_true, Bool.not_eq_false] at hc2
    · refine Ls_y (wtd0 rfl) rfl rfl (y_pick_f rfl rfl rfl) ?_
      refine Ls_nil (Th_n (hK3 _ _ ?_))
      refine Wp_cond_t rfl ?_
      refine Wp_seq fun K5 hK5 => ?_
      refine Wp_region ?_
      refine Ls_y (wtd0 rfl) rfl rfl (y_assign rfl rfl) ?_
      refine Ls_nil (Th_n (hK5 _ _ ?_))
      refine Wp_ret (Th_r (Fq_ret (Res1 rfl rfl) ?_))
      exact ⟨rfl, hF⟩
    · refine Ls_y (wtd0 rfl) rfl rfl (y_pick_f rfl rfl rfl) ?_
      refine Ls_nil (Th_n (hK3 _ _ ?_))
      refine Wp_cond_f rfl ?_
      refine Wp_skip (Th_n (hK2 _ _ ?_))
      refine Wp_seq fun K6 hK6 => ?_
      refine Wp_region ?_
      refine Ls_y (wtd0 rfl) rfl rfl (y_loadw (i := 0) rfl rfl Ty.ag_25 (fun _ e => e ▸ hp) rfl rfl) ?_
      refine Ls_a (wtd0 rfl) ?_
      refine a_call rfl rfl rfl rfl (to_ok g q f d _) (fun v w2 ⟨hv, hf⟩ => ?_)
      subst hv
      have hp := hp.keep0 hf
      have hF := hF.step0 hf
      refine Ls_a (wtd0 rfl) ?_
      refine a_call rfl rfl rfl rfl (pack_ok g q f d _ hg0 hg hq0 hq hf0 hf1) (fun v w3 ⟨hv, hf⟩ => ?_)
      subst hv
      have hp := hp.keep0 hf
      have hF := hF.step0 hf
      refine Ls_y (wtd0 rfl) rfl rfl (y_move rfl rfl) ?_
      refine Ls_y (wtd0 rfl) rfl rfl (y_ext rfl rfl rfl) ?_
      refine Ls_y (wtd0 rfl) rfl rfl (y_ext rfl rfl rfl) ?_
      refine Ls_y (wtd0 rfl) rfl rfl (y_assign rfl rfl) ?_
      refine Ls_y (wtd0 rfl) rfl rfl (y_assign rfl rfl) ?_
      refine Ls_nil (Th_n (hK6 _ _ ?_))
      refine Wp_seq fun K7 hK7 => ?_
      refine Wp_region ?_
      refine Ls_y (wtd0 rfl) rfl rfl (y_loadw (i := 0) rfl rfl Ty.ag_25 (fun _ e => e ▸ hp) rfl rfl) ?_
      refine Ls_a (wtd0 rfl) ?_
      refine a_call rfl rfl rfl rfl (rpack_ok g q f d _ hg0 hg hq0 hq hf0 hf1) (fun v w4 ⟨hv, hf⟩ => ?_)
      subst hv
      have hp := hp.keep0 hf
      have hF := hF.step0 hf
      refine Ls_y (wtd0 rfl) rfl rfl (y_move rfl rfl) ?_
      refine Ls_y (wtd0 rfl) rfl rfl (y_ext rfl rfl rfl) ?_
      refine Ls_y (wtd0 rfl) rfl rfl (y_ext rfl rfl rfl) ?_
      refine Ls_y (wtd0 rfl) rfl rfl (y_assign rfl rfl) ?_
      refine Ls_y (wtd0 rfl) rfl rfl (y_assign rfl rfl) ?_
      refine Ls_nil (Th_n (hK7 _ _ ?_))
      refine Wp_seq fun K8 hK8 => ?_
      refine Wp_region ?_
      refine Ls_y (wtd0 rfl) rfl rfl (y_move rfl rfl) ?_
      refine Ls_a (wtd0 rfl) ?_
      refine a_call rfl rfl rfl rfl (unpack_ok s _) (fun v w5 ⟨hv, hf⟩ => ?_)
      subst hv
      have hp := hp.keep0 hf
      have hF := hF.step0 hf
      refine Ls_y (wtd0 rfl) rfl rfl (y_move rfl rfl) ?_
      refine Ls_y (wtd0 rfl) rfl rfl (y_ext rfl rfl rfl) ?_
      refine Ls_y (wtd0 rfl) rfl rfl (y_ext rfl rfl rfl) ?_
      refine Ls_a (wtd0 rfl) ?_
      refine a_alloc rfl rfl rfl Ty.zc_29 hp (fun g2 w2 (hp : Hp w2 [(_, Cl [_, _, _, _] _), (_, Cl [_, _, _, _] _)]) hf hg2 => ?_)
      have hg2 := Nat.le_trans hF.size hg2
      have hF := hF.step0 hf
      refine Ls_a (wtd0 rfl) ?_
      first
        | refine a_storew (i := 0) rfl rfl rfl rfl Ty.sz_29 rfl (by first | assumption | (simp [Value.oneCell']; done)) hp rfl rfl (fun w3 (hp : Hp w3 [(_, Cl [_, _, _, _] _), (_, Cl [_, _, _, _] _)]) hf _ => ?_)
        | refine a_storew (i := 1) rfl rfl rfl rfl Ty.sz_29 rfl (by first | assumption | (simp [Value.oneCell']; done)) hp rfl rfl (fun w3 (hp : Hp w3 [(_, Cl [_, _, _, _] _), (_, Cl [_, _, _, _] _)]) hf _ => ?_)
      have hF := hF.step hf (by intro y hy; simp only [List.mem_cons, List.not_mem_nil, or_false] at hy; subst hy; first | (exact Or.inr (by omega)) | (exact Or.inl (by simp)))
      refine Ls_y (wtd0 rfl) rfl rfl (y_assign rfl rfl) ?_
      refine Ls_nil (Th_n (hK8 _ _ ?_))
      refine Wp_seq fun K9 hK9 => ?_
      refine Wp_region ?_
      refine Ls_y (wtd0 rfl) rfl rfl (y_move rfl rfl) ?_
      refine Ls_a (wtd0 rfl) ?_
      refine a_call rfl rfl rfl rfl (runpack_ok s _) (fun v w8 ⟨hv, hf⟩ => ?_)
      subst hv
      have hp := hp.keep0 hf
      have hF := hF.step0 hf
      refine Ls_y (wtd0 rfl) rfl rfl (y_move rfl rfl) ?_
      refine Ls_y (wtd0 rfl) rfl rfl (y_ext rfl rfl rfl) ?_
      refine Ls_y (wtd0 rfl) rfl rfl (y_ext rfl rfl rfl) ?_
      refine Ls_a (wtd0 rfl) ?_
      refine a_alloc rfl rfl rfl Ty.zc_25 hp (fun g4 w4 (hp : Hp w4 [(_, Cl [_, _, _, _] _), (_, Cl [_, _, _, _] _), (_, Cl [_, _, _, _] _)]) hf hg4 => ?_)
      have hg4 := Nat.le_trans hF.size hg4
      have hF := hF.step0 hf
      refine Ls_a (wtd0 rfl) ?_
      first
        | refine a_storew (i := 0) rfl rfl rfl rfl Ty.sz_25 rfl (by first | assumption | (simp [Value.oneCell']; done)) hp rfl rfl (fun w5 (hp : Hp w5 [(_, Cl [_, _, _, _] _), (_, Cl [_, _, _, _] _), (_, Cl [_, _, _, _] _)]) hf _ => ?_)
        | refine a_storew (i := 1) rfl rfl rfl rfl Ty.sz_25 rfl (by first | assumption | (simp [Value.oneCell']; done)) hp rfl rfl (fun w5 (hp : Hp w5 [(_, Cl [_, _, _, _] _), (_, Cl [_, _, _, _] _), (_, Cl [_, _, _, _] _)]) hf _ => ?_)
        | refine a_storew (i := 2) rfl rfl rfl rfl Ty.sz_25 rfl (by first | assumption | (simp [Value.oneCell']; done)) hp rfl rfl (fun w5 (hp : Hp w5 [(_, Cl [_, _, _, _] _), (_, Cl [_, _, _, _] _), (_, Cl [_, _, _, _] _)]) hf _ => ?_)
      have hF := hF.step hf (by intro y hy; simp only [List.mem_cons, List.not_mem_nil, or_false] at hy; subst hy; first | (exact Or.inr (by omega)) | (exact Or.inl (by simp)))
      refine Ls_y (wtd0 rfl) rfl rfl (y_assign rfl rfl) ?_
      refine Ls_nil (Th_n (hK9 _ _ ?_))
      refine Wp_seq fun K10 hK10 => ?_
      refine Wp_region ?_
      refine Ls_y (wtd0 rfl) rfl rfl (y_move rfl rfl) ?_
      refine Ls_a (wtd0 rfl) ?_
      refine a_call rfl rfl rfl rfl (unpack_ok (packS g q f d) _) (fun v w11 ⟨hv, hf⟩ => ?_)
      subst hv
      have hp := hp.keep0 hf
      have hF := hF.step0 hf
      have hrt := unpack_isSome g q f d hg0 hg hq0 hq hf0 hf1
      refine Ls_y (wtd0 rfl) rfl rfl (y_move rfl rfl) ?_
      refine Ls_y (wtd0 rfl) rfl rfl (y_ext rfl rfl rfl) ?_
      refine Ls_y (wtd0 rfl) rfl rfl (y_ext rfl rfl rfl) ?_
      refine Ls_a (wtd0 rfl) ?_
      refine a_alloc rfl rfl rfl Ty.zc_29 hp (fun g6 w6 (hp : Hp w6 [(_, Cl [_, _, _, _] _), (_, Cl [_, _, _, _] _), (_, Cl [_, _, _, _] _), (_, Cl [_, _, _, _] _)]) hf hg6 => ?_)
      have hg6 := Nat.le_trans hF.size hg6
      have hF := hF.step0 hf
      refine Ls_a (wtd0 rfl) ?_
      first
        | refine a_storew (i := 0) rfl rfl rfl rfl Ty.sz_29 rfl (by first | assumption | (simp [Value.oneCell']; done)) hp rfl rfl (fun w7 (hp : Hp w7 [(_, Cl [_, _, _, _] _), (_, Cl [_, _, _, _] _), (_, Cl [_, _, _, _] _), (_, Cl [_, _, _, _] _)]) hf _ => ?_)
        | refine a_storew (i := 1) rfl rfl rfl rfl Ty.sz_29 rfl (by first | assumption | (simp [Value.oneCell']; done)) hp rfl rfl (fun w7 (hp : Hp w7 [(_, Cl [_, _, _, _] _), (_, Cl [_, _, _, _] _), (_, Cl [_, _, _, _] _), (_, Cl [_, _, _, _] _)]) hf _ => ?_)
        | refine a_storew (i := 2) rfl rfl rfl rfl Ty.sz_29 rfl (by first | assumption | (simp [Value.oneCell']; done)) hp rfl rfl (fun w7 (hp : Hp w7 [(_, Cl [_, _, _, _] _), (_, Cl [_, _, _, _] _), (_, Cl [_, _, _, _] _), (_, Cl [_, _, _, _] _)]) hf _ => ?_)
        | refine a_storew (i := 3) rfl rfl rfl rfl Ty.sz_29 rfl (by first | assumption | (simp [Value.oneCell']; done)) hp rfl rfl (fun w7 (hp : Hp w7 [(_, Cl [_, _, _, _] _), (_, Cl [_, _, _, _] _), (_, Cl [_, _, _, _] _), (_, Cl [_, _, _, _] _)]) hf _ => ?_)
      have hF := hF.step hf (by intro y hy; simp only [List.mem_cons, List.not_mem_nil, or_false] at hy; subst hy; first | (exact Or.inr (by omega)) | (exact Or.inl (by simp)))
      refine Ls_y (wtd0 rfl) rfl rfl (y_assign rfl rfl) ?_
      refine Ls_nil (Th_n (hK10 _ _ ?_))
      refine Wp_seq fun K11 hK11 => ?_
      refine Wp_plan (fun W => Hp W (heapOf hp)) [(true, 0), (true, 1), (true, 2), (true, 3), (true, 4), (true, 5), (true, 6), (true, 7), (true, 8), (true, 9), (true, 11), (false, 10), (true, 12), (true, 13), (true, 14), (true, 15), (true, 16), (true, 17), (true, 18), (true, 19), (true, 20), (true, 21), (true, 22), (true, 23), (true, 24), (true, 25), (true, 26), (true, 27), (true, 28), (true, 29), (true, 31), (false, 30), (true, 32), (true, 33), (true, 34), (true, 35)] Ty.mx_0 (by kernel_rfl) (by kernel_rfl) rfl (hp.drew) ?_
      have hp := hp.drew
      have hF := hF.step0 (Fr.drew _)
      refine Pl_y rfl (wtd0 rfl) rfl rfl (y_move rfl rfl) ?_
      refine Pl_y rfl (wtd0 rfl) rfl rfl (y_move rfl rfl) ?_
      refine Pl_y rfl (wtd0 rfl) rfl rfl (y_eqs rfl rfl rfl) ?_
      refine Pl_bool 52 rfl (fun _ => ?_) (fun hc4 => absurd hc4 (by simp))
      refine Pl_y rfl (wtd0 rfl) rfl rfl (y_move rfl rfl) ?_
      refine Pl_y rfl (wtdT rfl rfl rfl) rfl rfl (y_move rfl rfl) ?_
      refine Pl_y rfl (wtdT rfl rfl rfl) rfl rfl (y_move rfl rfl) ?_
      refine Pl_y rfl (wtdT rfl rfl rfl) rfl rfl (y_eqT rfl rfl rfl (by omega)) ?_
      refine Pl_y rfl (wtd0 rfl) rfl rfl (y_pick_t rfl rfl rfl) ?_
      refine Pl_y rfl (wtd0 rfl) rfl rfl (y_move rfl rfl) ?_
      first
        | refine Pl_y rfl (wtdT rfl rfl rfl) rfl rfl (y_loadw (i := 0) rfl rfl Ty.ag_29 (fun _ h => h) rfl rfl) ?_
        | refine Pl_y rfl (wtdT rfl rfl rfl) rfl rfl (y_loadw (i := 1) rfl rfl Ty.ag_29 (fun _ h => h) rfl rfl) ?_
        | refine Pl_y rfl (wtdT rfl rfl rfl) rfl rfl (y_loadw (i := 2) rfl rfl Ty.ag_29 (fun _ h => h) rfl rfl) ?_
        | refine Pl_y rfl (wtdT rfl rfl rfl) rfl rfl (y_loadw (i := 3) rfl rfl Ty.ag_29 (fun _ h => h) rfl rfl) ?_
      first
        | refine Pl_y rfl (wtdT rfl rfl rfl) rfl rfl (y_loadw (i := 0) rfl rfl Ty.ag_25 (fun _ h => h) rfl rfl) ?_
        | refine Pl_y rfl (wtdT rfl rfl rfl) rfl rfl (y_loadw (i := 1) rfl rfl Ty.ag_25 (fun _ h => h) rfl rfl) ?_
        | refine Pl_y rfl (wtdT rfl rfl rfl) rfl rfl (y_loadw (i := 2) rfl rfl Ty.ag_25 (fun _ h => h) rfl rfl) ?_
        | refine Pl_y rfl (wtdT rfl rfl rfl) rfl rfl (y_loadw (i := 3) rfl rfl Ty.ag_25 (fun _ h => h) rfl rfl) ?_
      refine Pl_a rfl (wtdT rfl rfl rfl) (by rfl) ?_
      refine a_call rfl rfl rfl rfl (from_ok _ _ _ _ _) (fun v w14 ⟨hv, hf⟩ => ?_)
      subst hv
      have hp := hp.keep0 hf
      have hF := hF.step0 hf
      refine ⟨hp, ?_⟩
      refine Pl_y rfl (wtdT rfl rfl rfl) rfl rfl (y_eqst rfl rfl rfl Ty.tg_25 rfl) ?_
      refine Pl_bool 62 rfl (fun _ => ?_) (fun hc5 => absurd hc5 (by simp))
      refine Pl_y rfl (wtd0 rfl) rfl rfl (y_pick_t rfl rfl rfl) ?_
      refine Pl_y rfl (wtd0 rfl) rfl rfl (y_move rfl rfl) ?_
      refine Pl_y rfl (wtdT rfl rfl rfl) rfl rfl (y_move rfl rfl) ?_
      refine Pl_y rfl (wtdT rfl rfl rfl) rfl rfl (y_move rfl rfl) ?_
      refine Pl_y rfl (wtdT rfl rfl rfl) rfl rfl (y_eqb rfl rfl rfl Try.underlying4) ?_
      refine Pl_bool 67 rfl (fun _ => ?_) (fun hc6 => absurd hc6 (by simp))
      refine Pl_y rfl (wtd0 rfl) rfl rfl (y_pick_t rfl rfl rfl) ?_
      refine Pl_y rfl (wtd0 rfl) rfl rfl (y_move rfl rfl) ?_
      refine Pl_y rfl (wtdT rfl rfl rfl) rfl rfl (y_move rfl rfl) ?_
      refine Pl_y rfl (wtdT rfl rfl rfl) rfl rfl (y_move rfl rfl) ?_
      refine Pl_y rfl (wtdT rfl rfl rfl) rfl rfl (y_eq rfl rfl rfl) ?_
      refine Pl_y rfl (wtdT rfl rfl rfl) rfl rfl (y_eqb rfl rfl rfl Try.underlying4) ?_
      refine Pl_bool 73 rfl (fun _ => ?_) (fun hc7 => absurd hc7 (by simp [hrt]))
      refine Pl_y rfl (wtd0 rfl) rfl rfl (y_pick_t rfl rfl rfl) ?_
      refine Pl_y rfl (wtd0 rfl) rfl rfl (y_move rfl rfl) ?_
      refine Pl_y rfl (wtdT rfl rfl rfl) rfl rfl (y_move rfl rfl) ?_
      refine Pl_y rfl (wtdT rfl rfl rfl) rfl rfl (y_not rfl rfl) ?_
      refine Pl_y rfl (wtdT rfl rfl rfl) rfl rfl (y_move rfl rfl) ?_
      refine Pl_bool 78 rfl (fun hbk => ?_) (fun hbk => ?_)
      all_goals try simp only [decide_eq_true_eq, decide_eq_false_iff_not, beq_iff_eq, bne_iff_ne, ne_eq, beq_eq_false_iff_ne, bne_eq_false_iff_eq, Bool.not_eq_true, Bool.not_eq_false] at hbk
      · refine Pl_s rfl (wtdF rfl rfl rfl) rfl rfl ?_
        refine Pl_s rfl (wtdF rfl rfl rfl) rfl rfl ?_
        refine Pl_s rfl (wtdF rfl rfl rfl) rfl rfl ?_
        refine Pl_s rfl (wtdF rfl rfl rfl) rfl rfl ?_
        refine Pl_y rfl (wtdT rfl rfl rfl) rfl rfl (y_pick_t rfl rfl rfl) ?_
        refine Pl_y rfl (wtd0 rfl) rfl rfl (y_pick_t rfl rfl rfl) ?_
        refine Pl_y rfl (wtd0 rfl) rfl rfl (y_assign rfl rfl) ?_
        refine Pl_nil (Th_n (hK11 _ _ ?_))
        refine Wp_ret (Fq_ret (Res1 rfl rfl) ?_)
        exact ⟨rfl, hF⟩
      · first
          | refine Pl_y rfl (wtdT rfl rfl rfl) rfl rfl (y_loadw (i := 0) rfl rfl Ty.ag_29 (fun _ h => h) rfl rfl) ?_
          | refine Pl_y rfl (wtdT rfl rfl rfl) rfl rfl (y_loadw (i := 1) rfl rfl Ty.ag_29 (fun _ h => h) rfl rfl) ?_
          | refine Pl_y rfl (wtdT rfl rfl rfl) rfl rfl (y_loadw (i := 2) rfl rfl Ty.ag_29 (fun _ h => h) rfl rfl) ?_
          | refine Pl_y rfl (wtdT rfl rfl rfl) rfl rfl (y_loadw (i := 3) rfl rfl Ty.ag_29 (fun _ h => h) rfl rfl) ?_
        first
          | refine Pl_y rfl (wtdT rfl rfl rfl) rfl rfl (y_loadw (i := 0) rfl rfl Ty.ag_25 (fun _ h => h) rfl rfl) ?_
          | refine Pl_y rfl (wtdT rfl rfl rfl) rfl rfl (y_loadw (i := 1) rfl rfl Ty.ag_25 (fun _ h => h) rfl rfl) ?_
          | refine Pl_y rfl (wtdT rfl rfl rfl) rfl rfl (y_loadw (i := 2) rfl rfl Ty.ag_25 (fun _ h => h) rfl rfl) ?_
          | refine Pl_y rfl (wtdT rfl rfl rfl) rfl rfl (y_loadw (i := 3) rfl rfl Ty.ag_25 (fun _ h => h) rfl rfl) ?_
        refine Pl_a rfl (wtdT rfl rfl rfl) (by rfl) ?_
        refine a_call rfl rfl rfl rfl (from_ok _ _ _ _ _) (fun v w15 ⟨hv, hf⟩ => ?_)
        subst hv
        have hp := hp.keep0 hf
        have hF := hF.step0 hf
        refine ⟨hp, ?_⟩
        refine Pl_y rfl (wtdT rfl rfl rfl) rfl rfl (y_eqst rfl rfl rfl Ty.tg_25 rfl) ?_
        refine Pl_bool 82 rfl (fun _ => ?_) (fun hc9 => absurd hc9 (by have hs : (unpackL (packS g q f d)).isSome = true := (by simpa using hbk); rw [unpack_some g q f d hg0 hg hq0 hq hf0 hf1 hs]; simp [cG, cQ, cF, cD]))
        refine Pl_y rfl (wtdT rfl rfl rfl) rfl rfl (y_pick_f rfl rfl rfl) ?_
        refine Pl_y rfl (wtd0 rfl) rfl rfl (y_pick_t rfl rfl rfl) ?_
        refine Pl_y rfl (wtd0 rfl) rfl rfl (y_assign rfl rfl) ?_
        refine Pl_nil (Th_n (hK11 _ _ ?_))
        refine Wp_ret (Fq_ret (Res1 rfl rfl) ?_)
        exact ⟨rfl, hF⟩

end Go.Proofs.Ytikdpkhcegjmfaa

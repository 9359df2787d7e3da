/- Walks printed by gen.py out of our own specifications: what the functions named below do. -/
import Derived.Test.YtcpfhnfpokijaaaM5
import Derived.Test.YtcpfhnfpokijaaaJ2
set_option linter.unusedSimpArgs false
set_option linter.unusedVariables false
namespace Go.Proofs.Ytcpfhnfpokijaaa
open Go.RowKit


theorem mcell_len {D : Dk} {i : Int} {c : Int × Int × Int × List UInt8} (h : cellAt D i = some c) : c.2.2.2.length ≤ 50 ∧ 0 ≤ c.1 ∧ c.1 < 65536 ∧ 0 ≤ c.2.2.1 ∧ c.2.2.1 < 256 := by
  unfold cellAt at h
  split at h
  · unfold unpackL unpackC at h
    split at h
    · rename_i b0 b1 b2 b3 b4 b5 b6 b7 r _
      simp only at h
      split at h
      · rename_i hc
        simp only [Option.some.injEq] at h
        subst h
        have h0 := b0.toNat_lt
        have h1 := b1.toNat_lt
        have h6 := b6.toNat_lt
        refine ⟨by simp only [List.length_take]; omega, by simp only; omega, by simp only; omega, by simp only; omega, by simp only; omega⟩
      · cases h
    · cases h
  · cases h


theorem mnewest_bound (D : Dk) (base : Nat) : ∀ k, 0 ≤ mnewest D base k ∧ mnewest D base k < 65536
  | 0 => by simp [mnewest]
  | k + 1 => by
    have ih := mnewest_bound D base k
    rw [mnewest]
    split
    · rename_i h
      cases hc : cellAt D ((base : Int) + (k : Int)) with
      | none => rw [hc] at h; cases h
      | some c =>
        have hl := mcell_len hc
        obtain ⟨g, q, f, d⟩ := c
        simp only [cG] at hl ⊢
        omega
    · exact ih

set_option maxRecDepth 20000 in
set_option maxHeartbeats 1000000 in
theorem mopen_blank (p : Dp) (D : Dk) (base size : Nat) (w : World) (hp : Hp w (dkH p D)) (hD : Calm D) (hs : 1 ≤ size ∧ size ≤ 512) (hb : base + 2 * size ≤ D.now.length) (hg : mnewest D base (2 * size) < 65535) (h0 : cellAt D ((base : Int) + ((0 * size : Nat) : Int)) = none) (h1 : cellAt D ((base : Int) + ((1 * size : Nat) : Int)) = none) :
    Fn Try.prog 18 [.pointer (some ⟨p.gd, 0, none⟩), .int .i64 (base : Int), .int .i64 (size : Int)] w fun v w' => ∃ gm, v = .tuple #[.pointer (some ⟨gm, 0, none⟩), .int .i64 0] ∧ New w w' [(some gm, Cl (mC p.gd ⟨base, size, mnewest D base (2 * size) + 1, 0, 0, [], false⟩) 74)] := by
  refine Fn_of 73 Ty.en_18 Try.func18 rfl rfl rfl ?_
  dsimp only [argEnv]
  have hp : Hp w [(_, Cl [_, _, _, _, _] _), _, _] := hp
  have hF := Fr.refl [] w
  have hmost := hD.ok.most
  have hnb := mnewest_bound D base (2 * size)
  refine Wp_seq fun K1 hK1 => ?_
  refine Wp_region ?_
  refine Ls_y (wtd0 rfl) rfl rfl (y_assign rfl rfl) ?_
  refine Ls_y (wtd0 rfl) rfl rfl (y_assign rfl rfl) ?_
  refine Ls_nil (Th_n (hK1 _ _ ?_))
  refine Wp_seq fun K2 hK2 => ?_
  refine Wp_seq fun K3 hK3 => ?_
  refine Wp_region ?_
  refine Ls_y (wtd0 rfl) rfl rfl (y_move rfl rfl) ?_
  refine Ls_y (wtd0 rfl) rfl rfl (y_ltF rfl rfl rfl (by omega)) ?_
  refine Ls_y (wtd0 rfl) rfl rfl (y_move rfl rfl) ?_
  refine Ls_y (wtdT rfl rfl rfl) rfl rfl (y_move rfl rfl) ?_
  refine Ls_y (wtdT rfl rfl rfl) rfl rfl (y_ltF rfl rfl rfl (by omega)) ?_
  refine Ls_y (wtd0 rfl) rfl rfl (y_pick_f rfl rfl rfl) ?_
  refine Ls_y (wtd0 rfl) rfl rfl (y_move rfl rfl) ?_
  refine Ls_y (wtdT rfl rfl rfl) rfl rfl (y_move rfl rfl) ?_
  refine Ls_y (wtdT rfl rfl rfl) rfl rfl (y_gtF rfl rfl rfl (by omega)) ?_
  refine Ls_y (wtd0 rfl) rfl rfl (y_pick_f rfl rfl rfl) ?_
  refine Ls_y (wtd0 rfl) rfl rfl (y_move rfl rfl) ?_
  refine Ls_y (wtdT rfl rfl rfl) rfl rfl (y_move rfl rfl) ?_
  refine Ls_y (wtdT rfl rfl rfl) rfl rfl (y_move rfl rfl) ?_
  refine Ls_a (wtdT rfl rfl rfl) ?_
  refine a_call rfl rfl rfl rfl (dlen_ok p D _ (hp.picks [0, 1, 2] (by decide))) (fun v wq ⟨hv, hw⟩ => ?_)
  subst hv
  subst hw
  refine Ls_y (wtdT rfl rfl rfl) rfl rfl (y_gtF rfl rfl rfl (by omega)) ?_
  refine Ls_y (wtd0 rfl) rfl rfl (y_pick_f rfl rfl rfl) ?_
  refine Ls_y (wtd0 rfl) rfl rfl (y_move rfl rfl) ?_
  refine Ls_y (wtdT rfl rfl rfl) rfl rfl (y_move rfl rfl) ?_
  refine Ls_y (wtdT rfl rfl rfl) rfl rfl (y_mul rfl rfl rfl (wf_i64 (by omega))) ?_
  refine Ls_y (wtdT rfl rfl rfl) rfl rfl (y_move rfl rfl) ?_
  refine Ls_a (wtdT rfl rfl rfl) ?_
  refine a_call rfl rfl rfl rfl (dlen_ok p D _ (hp.picks [0, 1, 2] (by decide))) (fun v wq ⟨hv, hw⟩ => ?_)
  subst hv
  subst hw
  refine Ls_y (wtdT rfl rfl rfl) rfl rfl (y_move rfl rfl) ?_
  refine Ls_y (wtdT rfl rfl rfl) rfl rfl (y_sub rfl rfl rfl (wf_i64 (by omega))) ?_
  refine Ls_y (wtdT rfl rfl rfl) rfl rfl (y_gtF rfl rfl rfl (by omega)) ?_
  refine Ls_y (wtd0 rfl) rfl rfl (y_pick_f rfl rfl rfl) ?_
  refine Ls_nil (Th_n (hK3 _ _ ?_))
  refine Wp_cond_f rfl ?_
  refine Wp_skip (Th_n (hK2 _ _ ?_))
  refine Wp_seq fun K4 hK4 => ?_
  refine Wp_seq fun K5 hK5 => ?_
  refine Wp_region ?_
  refine Ls_y (wtd0 rfl) rfl rfl (y_move rfl rfl) ?_
  refine Ls_a (wtd0 rfl) ?_
  refine a_call rfl rfl rfl rfl (ddown_ok p D _ (hp.picks [0, 1, 2] (by decide))) (fun v wq ⟨hv, hw⟩ => ?_)
  subst hv
  subst hw
  refine Ls_nil (Th_n (hK5 _ _ ?_))
  refine Wp_bool 38 rfl (fun hc1 => absurd hc1 (by simp [hD.down])) (fun _ => ?_)
  refine Wp_cond_f rfl ?_
  refine Wp_skip (Th_n (hK4 _ _ ?_))
  refine Wp_seq fun K6 hK6 => ?_
  refine Wp_region ?_
  refine Ls_y (wtd0 rfl) rfl rfl (y_move rfl rfl) ?_
  refine Ls_y (wtd0 rfl) rfl rfl (y_move rfl rfl) ?_
  refine Ls_y (wtd0 rfl) rfl rfl (y_move rfl rfl) ?_
  refine Ls_y (wtd0 rfl) rfl rfl (y_build (cells := [_, _, _, _, _, _, _, _]) rfl rfl Ty.zc_74 Ty.ps_74 rfl) ?_
  refine Ls_a (wtd0 rfl) ?_
  refine a_box rfl rfl rfl rfl hp (fun g1 w1 (hp : Hp w1 [(_, Cl [_, _, _, _, _] _), _, _, (_, Cl [_, _, _, _, _, _, _, _] _)]) hf hg1 => ?_)
  have hg1 := Nat.le_trans hF.size hg1
  have hF := hF.step0 hf
  refine Ls_y (wtd0 rfl) rfl rfl (y_assign rfl rfl) ?_
  refine Ls_nil (Th_n (hK6 _ _ ?_))
  refine Wp_seq fun K7 hK7 => ?_
  refine Wp_region ?_
  refine Ls_y (wtd0 rfl) rfl rfl (y_move rfl rfl) ?_
  refine Ls_a (wtd0 rfl) ?_
  refine a_call rfl rfl rfl rfl (mnewest_ok g1 p D ⟨base, size, 0, 0, 0, [], false⟩ _ (hp.picks [0, 1, 2, 3] (by decide)) hD.ok ⟨by simp only; omega, by simp only; omega, by simp only; omega⟩) (fun v w5 ⟨hv, hf⟩ => ?_)
  have hv : v = .int .u16 (mnewest D base (2 * size)) := hv
  subst hv
  have hp := hp.keep0 hf
  have hF := hF.step0 hf
  refine Ls_y (wtd0 rfl) rfl rfl (y_assign rfl rfl) ?_
  refine Ls_nil (Th_n (hK7 _ _ ?_))
  refine Wp_seq fun K8 hK8 => ?_
  refine Wp_seq fun K9 hK9 => ?_
  refine Wp_region ?_
  refine Ls_y (wtd0 rfl) rfl rfl (y_move rfl rfl) ?_
  refine Ls_y (wtd0 rfl) rfl rfl (y_eqF rfl rfl rfl (by omega)) ?_
  refine Ls_nil (Th_n (hK9 _ _ ?_))
  refine Wp_cond_f rfl ?_
  refine Wp_skip (Th_n (hK8 _ _ ?_))
  refine Wp_seq fun K10 hK10 => ?_
  refine Wp_region ?_
  refine Ls_y (wtd0 rfl) rfl rfl (y_move rfl rfl) ?_
  refine Ls_y (wtd0 rfl) rfl rfl (y_move rfl rfl) ?_
  refine Ls_y (wtd0 rfl) rfl rfl (y_add rfl rfl rfl (wf_u16 (by omega))) ?_
  refine Ls_y (wtd0 rfl) rfl rfl (y_nil rfl rfl) ?_
  refine Ls_y (wtd0 rfl) rfl rfl (y_fld rfl rfl Ty.fo_74_3) ?_
  refine Ls_a (wtd0 rfl) ?_
  first
    | refine a_store (i := 0) rfl rfl rfl rfl rfl Ty.sz_33 rfl hp rfl (by first | decide | (simp; done) | (simp; omega)) (fun w2 (hp : Hp w2 [(_, Cl [_, _, _, _, _] _), _, _, (_, Cl [_, _, _, _, _, _, _, _] _)]) hf _ => ?_)
    | refine a_store (i := 1) rfl rfl rfl rfl rfl Ty.sz_33 rfl hp rfl (by first | decide | (simp; done) | (simp; omega)) (fun w2 (hp : Hp w2 [(_, Cl [_, _, _, _, _] _), _, _, (_, Cl [_, _, _, _, _, _, _, _] _)]) hf _ => ?_)
    | refine a_store (i := 2) rfl rfl rfl rfl rfl Ty.sz_33 rfl hp rfl (by first | decide | (simp; done) | (simp; omega)) (fun w2 (hp : Hp w2 [(_, Cl [_, _, _, _, _] _), _, _, (_, Cl [_, _, _, _, _, _, _, _] _)]) hf _ => ?_)
    | refine a_store (i := 3) rfl rfl rfl rfl rfl Ty.sz_33 rfl hp rfl (by first | decide | (simp; done) | (simp; omega)) (fun w2 (hp : Hp w2 [(_, Cl [_, _, _, _, _] _), _, _, (_, Cl [_, _, _, _, _, _, _, _] _)]) hf _ => ?_)
  have hF := hF.step hf (by intro y hy; simp only [List.mem_cons, List.not_mem_nil, or_false] at hy; subst hy; first | (exact Or.inr (by omega)) | (exact Or.inl (by simp)))
  refine Ls_nil (Th_n (hK10 _ _ ?_))
  refine Wp_seq fun K11 hK11 => ?_
  refine Wp_seq fun K12 hK12 => ?_
  refine Wp_region ?_
  refine Ls_y (wtd0 rfl) rfl rfl (y_move rfl rfl) ?_
  refine Ls_nil (Th_n (hK12 _ _ ?_))
  refine Wp_block ?_
  refine Wp_unroll 3 (WpR_succ ?_)
  refine Wp_seq fun K13 hK13 => ?_
  refine Wp_region ?_
  refine Ls_y (wtd0 rfl) rfl rfl (y_ltT rfl rfl rfl (by decide)) ?_
  refine Ls_nil (Th_n (hK13 _ _ ?_))
  refine Wp_seq fun K14 hK14 => ?_
  refine Wp_cond_t rfl ?_
  refine Wp_skip (Th_n (hK14 _ _ ?_))
  refine Wp_seq fun K15 hK15 => ?_
  refine Wp_block ?_
  refine Wp_seq fun K16 hK16 => ?_
  refine Wp_region ?_
  refine Ls_y (wtd0 rfl) rfl rfl (y_move rfl rfl) ?_
  refine Ls_y (wtd0 rfl) rfl rfl (y_assign rfl rfl) ?_
  refine Ls_nil (Th_n (hK16 _ _ ?_))
  refine Wp_seq fun K17 hK17 => ?_
  refine Wp_region ?_
  refine Ls_y (wtd0 rfl) rfl rfl (y_move rfl rfl) ?_
  refine Ls_y (wtd0 rfl) rfl rfl (y_move rfl rfl) ?_
  refine Ls_a (wtd0 rfl) ?_
  refine a_call rfl rfl rfl rfl (mwhole_none g1 p D ⟨base, size, mnewest D base (2 * size) + 1, 0, 0, [], false⟩ _ (hp.picks [0, 1, 2, 3] (by decide)) hD.ok ⟨by simp only; omega, by simp only; omega, by simp only; omega⟩ 0 (by omega) h0) (fun v w6 ⟨hv, hf⟩ => ?_)
  subst hv
  have hp := hp.keep0 hf
  have hF := hF.step0 hf
  refine Ls_a (wtd0 rfl) ?_
  refine a_alloc rfl rfl rfl Ty.zc_72 hp (fun g3 w3 (hp : Hp w3 [(_, Cl [_, _, _, _, _] _), _, _, (_, Cl [_, _, _, _, _, _, _, _] _), (_, Cl [_, _, _] _)]) hf hg3 => ?_)
  have hg3 := Nat.le_trans hF.size hg3
  have hF := hF.step0 hf
  refine Ls_a (wtd0 rfl) ?_
  first
    | refine a_storew (i := 0) rfl rfl rfl rfl Ty.sz_72 rfl (by first | assumption | (simp [Value.oneCell']; done)) hp rfl rfl (fun w4 (hp : Hp w4 [(_, Cl [_, _, _, _, _] _), _, _, (_, Cl [_, _, _, _, _, _, _, _] _), (_, Cl [_, _, _] _)]) hf _ => ?_)
    | refine a_storew (i := 1) rfl rfl rfl rfl Ty.sz_72 rfl (by first | assumption | (simp [Value.oneCell']; done)) hp rfl rfl (fun w4 (hp : Hp w4 [(_, Cl [_, _, _, _, _] _), _, _, (_, Cl [_, _, _, _, _, _, _, _] _), (_, Cl [_, _, _] _)]) hf _ => ?_)
    | refine a_storew (i := 2) rfl rfl rfl rfl Ty.sz_72 rfl (by first | assumption | (simp [Value.oneCell']; done)) hp rfl rfl (fun w4 (hp : Hp w4 [(_, Cl [_, _, _, _, _] _), _, _, (_, Cl [_, _, _, _, _, _, _, _] _), (_, Cl [_, _, _] _)]) hf _ => ?_)
    | refine a_storew (i := 3) rfl rfl rfl rfl Ty.sz_72 rfl (by first | assumption | (simp [Value.oneCell']; done)) hp rfl rfl (fun w4 (hp : Hp w4 [(_, Cl [_, _, _, _, _] _), _, _, (_, Cl [_, _, _, _, _, _, _, _] _), (_, Cl [_, _, _] _)]) hf _ => ?_)
    | refine a_storew (i := 4) rfl rfl rfl rfl Ty.sz_72 rfl (by first | assumption | (simp [Value.oneCell']; done)) hp rfl rfl (fun w4 (hp : Hp w4 [(_, Cl [_, _, _, _, _] _), _, _, (_, Cl [_, _, _, _, _, _, _, _] _), (_, Cl [_, _, _] _)]) hf _ => ?_)
  have hF := hF.step hf (by intro y hy; simp only [List.mem_cons, List.not_mem_nil, or_false] at hy; subst hy; first | (exact Or.inr (by omega)) | (exact Or.inl (by simp)))
  refine Ls_nil (Th_n (hK17 _ _ ?_))
  refine Wp_seq fun K18 hK18 => ?_
  refine Wp_plan (fun W => Hp W (heapOf hp)) [(true, 0), (true, 1), (true, 2), (true, 3), (true, 4), (true, 5), (true, 6), (true, 7)] Ty.mx_0 (by kernel_rfl) (by kernel_rfl) rfl (hp.drew) ?_
  have hp := hp.drew
  have hF := hF.step0 (Fr.drew _)
  refine Pl_y rfl (wtd0 rfl) rfl rfl (y_fld rfl rfl Ty.fo_72_0) ?_
  first
    | refine Pl_y rfl (wtd0 rfl) rfl rfl (y_load (i := 0) rfl rfl Ty.pl_32 (fun _ h => h) rfl rfl) ?_
    | refine Pl_y rfl (wtd0 rfl) rfl rfl (y_load (i := 1) rfl rfl Ty.pl_32 (fun _ h => h) rfl rfl) ?_
    | refine Pl_y rfl (wtd0 rfl) rfl rfl (y_load (i := 2) rfl rfl Ty.pl_32 (fun _ h => h) rfl rfl) ?_
    | refine Pl_y rfl (wtd0 rfl) rfl rfl (y_load (i := 3) rfl rfl Ty.pl_32 (fun _ h => h) rfl rfl) ?_
    | refine Pl_y rfl (wtd0 rfl) rfl rfl (y_load (i := 4) rfl rfl Ty.pl_32 (fun _ h => h) rfl rfl) ?_
  refine Pl_y rfl (wtd0 rfl) rfl rfl (y_move rfl rfl) ?_
  refine Pl_y rfl (wtd0 rfl) rfl rfl (y_nil rfl rfl) ?_
  refine Pl_y rfl (wtd0 rfl) rfl rfl (y_fld rfl rfl Ty.fo_74_4) ?_
  refine Pl_y rfl (wtd0 rfl) rfl rfl (y_fld rfl rfl Ty.fo_72_0) ?_
  first
    | refine Pl_y rfl (wtd0 rfl) rfl rfl (y_load (i := 0) rfl rfl Ty.pl_32 (fun _ h => h) rfl rfl) ?_
    | refine Pl_y rfl (wtd0 rfl) rfl rfl (y_load (i := 1) rfl rfl Ty.pl_32 (fun _ h => h) rfl rfl) ?_
    | refine Pl_y rfl (wtd0 rfl) rfl rfl (y_load (i := 2) rfl rfl Ty.pl_32 (fun _ h => h) rfl rfl) ?_
    | refine Pl_y rfl (wtd0 rfl) rfl rfl (y_load (i := 3) rfl rfl Ty.pl_32 (fun _ h => h) rfl rfl) ?_
    | refine Pl_y rfl (wtd0 rfl) rfl rfl (y_load (i := 4) rfl rfl Ty.pl_32 (fun _ h => h) rfl rfl) ?_
  refine Pl_y rfl (wtd0 rfl) rfl rfl (y_gtF rfl rfl rfl (by omega)) ?_
  refine Pl_nil (Th_n (hK18 _ _ ?_))
  refine Wp_cond_f rfl ?_
  refine Wp_skip (Ib_n (Th_n (hK15 _ _ ?_)))
  refine Wp_region ?_
  refine Ls_y (wtd0 rfl) rfl rfl (y_add (c := 1) rfl rfl rfl (by decide)) ?_
  refine Ls_y (wtd0 rfl) rfl rfl (y_move rfl rfl) ?_
  refine Ls_nil (Th_n (WpR_succ ?_))
  refine Wp_seq fun K19 hK19 => ?_
  refine Wp_region ?_
  refine Ls_y (wtd0 rfl) rfl rfl (y_ltT rfl rfl rfl (by decide)) ?_
  refine Ls_nil (Th_n (hK19 _ _ ?_))
  refine Wp_seq fun K20 hK20 => ?_
  refine Wp_cond_t rfl ?_
  refine Wp_skip (Th_n (hK20 _ _ ?_))
  refine Wp_seq fun K21 hK21 => ?_
  refine Wp_block ?_
  refine Wp_seq fun K22 hK22 => ?_
  refine Wp_region ?_
  refine Ls_y (wtd0 rfl) rfl rfl (y_move rfl rfl) ?_
  refine Ls_y (wtd0 rfl) rfl rfl (y_assign rfl rfl) ?_
  refine Ls_nil (Th_n (hK22 _ _ ?_))
  refine Wp_seq fun K23 hK23 => ?_
  refine Wp_region ?_
  refine Ls_y (wtd0 rfl) rfl rfl (y_move rfl rfl) ?_
  refine Ls_y (wtd0 rfl) rfl rfl (y_move rfl rfl) ?_
  refine Ls_a (wtd0 rfl) ?_
  refine a_call rfl rfl rfl rfl (mwhole_none g1 p D ⟨base, size, mnewest D base (2 * size) + 1, 0, 0, [], false⟩ _ (hp.picks [0, 1, 2, 3] (by decide)) hD.ok ⟨by simp only; omega, by simp only; omega, by simp only; omega⟩ 1 (by omega) h1) (fun v w7 ⟨hv, hf⟩ => ?_)
  subst hv
  have hp := hp.keep0 hf
  have hF := hF.step0 hf
  refine Ls_a (wtd0 rfl) ?_
  refine a_alloc rfl rfl rfl Ty.zc_72 hp (fun g5 w5 (hp : Hp w5 [(_, Cl [_, _, _, _, _] _), _, _, (_, Cl [_, _, _, _, _, _, _, _] _), (_, Cl [_, _, _] _), (_, Cl [_, _, _] _)]) hf hg5 => ?_)
  have hg5 := Nat.le_trans hF.size hg5
  have hF := hF.step0 hf
  refine Ls_a (wtd0 rfl) ?_
  first
    | refine a_storew (i := 0) rfl rfl rfl rfl Ty.sz_72 rfl (by first | assumption | (simp [Value.oneCell']; done)) hp rfl rfl (fun w6 (hp : Hp w6 [(_, Cl [_, _, _, _, _] _), _, _, (_, Cl [_, _, _, _, _, _, _, _] _), (_, Cl [_, _, _] _), (_, Cl [_, _, _] _)]) hf _ => ?_)
    | refine a_storew (i := 1) rfl rfl rfl rfl Ty.sz_72 rfl (by first | assumption | (simp [Value.oneCell']; done)) hp rfl rfl (fun w6 (hp : Hp w6 [(_, Cl [_, _, _, _, _] _), _, _, (_, Cl [_, _, _, _, _, _, _, _] _), (_, Cl [_, _, _] _), (_, Cl [_, _, _] _)]) hf _ => ?_)
    | refine a_storew (i := 2) rfl rfl rfl rfl Ty.sz_72 rfl (by first | assumption | (simp [Value.oneCell']; done)) hp rfl rfl (fun w6 (hp : Hp w6 [(_, Cl [_, _, _, _, _] _), _, _, (_, Cl [_, _, _, _, _, _, _, _] _), (_, Cl [_, _, _] _), (_, Cl [_, _, _] _)]) hf _ => ?_)
    | refine a_storew (i := 3) rfl rfl rfl rfl Ty.sz_72 rfl (by first | assumption | (simp [Value.oneCell']; done)) hp rfl rfl (fun w6 (hp : Hp w6 [(_, Cl [_, _, _, _, _] _), _, _, (_, Cl [_, _, _, _, _, _, _, _] _), (_, Cl [_, _, _] _), (_, Cl [_, _, _] _)]) hf _ => ?_)
    | refine a_storew (i := 4) rfl rfl rfl rfl Ty.sz_72 rfl (by first | assumption | (simp [Value.oneCell']; done)) hp rfl rfl (fun w6 (hp : Hp w6 [(_, Cl [_, _, _, _, _] _), _, _, (_, Cl [_, _, _, _, _, _, _, _] _), (_, Cl [_, _, _] _), (_, Cl [_, _, _] _)]) hf _ => ?_)
    | refine a_storew (i := 5) rfl rfl rfl rfl Ty.sz_72 rfl (by first | assumption | (simp [Value.oneCell']; done)) hp rfl rfl (fun w6 (hp : Hp w6 [(_, Cl [_, _, _, _, _] _), _, _, (_, Cl [_, _, _, _, _, _, _, _] _), (_, Cl [_, _, _] _), (_, Cl [_, _, _] _)]) hf _ => ?_)
  have hF := hF.step hf (by intro y hy; simp only [List.mem_cons, List.not_mem_nil, or_false] at hy; subst hy; first | (exact Or.inr (by omega)) | (exact Or.inl (by simp)))
  refine Ls_nil (Th_n (hK23 _ _ ?_))
  refine Wp_seq fun K24 hK24 => ?_
  refine Wp_plan (fun W => Hp W (heapOf hp)) [(true, 0), (true, 1), (true, 2), (true, 3), (true, 4), (true, 5), (true, 6), (true, 7)] Ty.mx_0 (by kernel_rfl) (by kernel_rfl) rfl (hp.drew) ?_
  have hp := hp.drew
  have hF := hF.step0 (Fr.drew _)
  refine Pl_y rfl (wtd0 rfl) rfl rfl (y_fld rfl rfl Ty.fo_72_0) ?_
  first
    | refine Pl_y rfl (wtd0 rfl) rfl rfl (y_load (i := 0) rfl rfl Ty.pl_32 (fun _ h => h) rfl rfl) ?_
    | refine Pl_y rfl (wtd0 rfl) rfl rfl (y_load (i := 1) rfl rfl Ty.pl_32 (fun _ h => h) rfl rfl) ?_
    | refine Pl_y rfl (wtd0 rfl) rfl rfl (y_load (i := 2) rfl rfl Ty.pl_32 (fun _ h => h) rfl rfl) ?_
    | refine Pl_y rfl (wtd0 rfl) rfl rfl (y_load (i := 3) rfl rfl Ty.pl_32 (fun _ h => h) rfl rfl) ?_
    | refine Pl_y rfl (wtd0 rfl) rfl rfl (y_load (i := 4) rfl rfl Ty.pl_32 (fun _ h => h) rfl rfl) ?_
    | refine Pl_y rfl (wtd0 rfl) rfl rfl (y_load (i := 5) rfl rfl Ty.pl_32 (fun _ h => h) rfl rfl) ?_
  refine Pl_y rfl (wtd0 rfl) rfl rfl (y_move rfl rfl) ?_
  refine Pl_y rfl (wtd0 rfl) rfl rfl (y_nil rfl rfl) ?_
  refine Pl_y rfl (wtd0 rfl) rfl rfl (y_fld rfl rfl Ty.fo_74_4) ?_
  refine Pl_y rfl (wtd0 rfl) rfl rfl (y_fld rfl rfl Ty.fo_72_0) ?_
  first
    | refine Pl_y rfl (wtd0 rfl) rfl rfl (y_load (i := 0) rfl rfl Ty.pl_32 (fun _ h => h) rfl rfl) ?_
    | refine Pl_y rfl (wtd0 rfl) rfl rfl (y_load (i := 1) rfl rfl Ty.pl_32 (fun _ h => h) rfl rfl) ?_
    | refine Pl_y rfl (wtd0 rfl) rfl rfl (y_load (i := 2) rfl rfl Ty.pl_32 (fun _ h => h) rfl rfl) ?_
    | refine Pl_y rfl (wtd0 rfl) rfl rfl (y_load (i := 3) rfl rfl Ty.pl_32 (fun _ h => h) rfl rfl) ?_
    | refine Pl_y rfl (wtd0 rfl) rfl rfl (y_load (i := 4) rfl rfl Ty.pl_32 (fun _ h => h) rfl rfl) ?_
    | refine Pl_y rfl (wtd0 rfl) rfl rfl (y_load (i := 5) rfl rfl Ty.pl_32 (fun _ h => h) rfl rfl) ?_
  refine Pl_y rfl (wtd0 rfl) rfl rfl (y_gtF rfl rfl rfl (by omega)) ?_
  refine Pl_nil (Th_n (hK24 _ _ ?_))
  refine Wp_cond_f rfl ?_
  refine Wp_skip (Ib_n (Th_n (hK21 _ _ ?_)))
  refine Wp_region ?_
  refine Ls_y (wtd0 rfl) rfl rfl (y_add (c := 2) rfl rfl rfl (by decide)) ?_
  refine Ls_y (wtd0 rfl) rfl rfl (y_move rfl rfl) ?_
  refine Ls_nil (Th_n (WpR_succ ?_))
  refine Wp_seq fun K25 hK25 => ?_
  refine Wp_region ?_
  refine Ls_y (wtd0 rfl) rfl rfl (y_ltF rfl rfl rfl (by decide)) ?_
  refine Ls_nil (Th_n (hK25 _ _ ?_))
  refine Wp_seq fun K26 hK26 => ?_
  refine Wp_cond_f rfl ?_
  refine Wp_exit (Th_e (Th_e (Ib_hit (Th_n (hK11 _ _ ?_)))))
  refine Wp_seq fun K27 hK27 => ?_
  refine Wp_region ?_
  refine Ls_y (wtd0 rfl) rfl rfl (y_move rfl rfl) ?_
  refine Ls_y (wtd0 rfl) rfl rfl (y_assign rfl rfl) ?_
  refine Ls_y (wtd0 rfl) rfl rfl (y_assign rfl rfl) ?_
  refine Ls_nil (Th_n (hK27 _ _ ?_))
  refine Wp_ret (Fq_ret (Res2 rfl rfl rfl) ?_)
  exact ⟨g1, rfl, ⟨hF, hp.picks [3] (by decide), by intro k hk; simp [keys, pickL] at hk; omega⟩⟩

set_option maxRecDepth 20000 in
set_option maxHeartbeats 1000000 in
theorem mopen_one (p : Dp) (D : Dk) (base size : Nat) (w : World) (hp : Hp w (dkH p D)) (hD : Calm D) (hs : 1 ≤ size ∧ size ≤ 512) (hb : base + 2 * size ≤ D.now.length) (hg : mnewest D base (2 * size) < 65535) (h0 : cellAt D ((base : Int) + ((0 * size : Nat) : Int)) = none) (gg : Int) (n : Nat) (a b : UInt8) (r : List UInt8) (hn : 1 ≤ n ∧ n ≤ 1000000) (hq2 : (n : Int) % 2 = ((1 : Nat) : Int)) (ha : ¬ ((a.toNat : Int) = 0)) (hb1 : ¬ ((b.toNat : Int) = 0)) (hr : r.length = b.toNat) (hr2 : r.length ≤ 46) (h1 : cellAt D ((base : Int) + ((1 * size : Nat) : Int)) = some (gg, (n : Int), 0, 1 :: a :: 1 :: b :: r)) :
    Fn Try.prog 18 [.pointer (some ⟨p.gd, 0, none⟩), .int .i64 (base : Int), .int .i64 (size : Int)] w fun v w' => ∃ gm, v = .tuple #[.pointer (some ⟨gm, 0, none⟩), .int .i64 0] ∧ New w w' [(some gm, Cl (mC p.gd ⟨base, size, mnewest D base (2 * size) + 1, n, (a.toNat : Int), r, false⟩) 74)] := by
  refine Fn_of 73 Ty.en_18 Try.func18 rfl rfl rfl ?_
  dsimp only [argEnv]
  have hp : Hp w [(_, Cl [_, _, _, _, _] _), _, _] := hp
  have hF := Fr.refl [] w
  have hmost := hD.ok.most
  have hnb := mnewest_bound D base (2 * size)
  refine Wp_seq fun K1 hK1 => ?_
  refine Wp_region ?_
  refine Ls_y (wtd0 rfl) rfl rfl (y_assign rfl rfl) ?_
  refine Ls_y (wtd0 rfl) rfl rfl (y_assign rfl rfl) ?_
  refine Ls_nil (Th_n (hK1 _ _ ?_))
  refine Wp_seq fun K2 hK2 => ?_
  refine Wp_seq fun K3 hK3 => ?_
  refine Wp_region ?_
  refine Ls_y (wtd0 rfl) rfl rfl (y_move rfl rfl) ?_
  refine Ls_y (wtd0 rfl) rfl rfl (y_ltF rfl rfl rfl (by omega)) ?_
  refine Ls_y (wtd0 rfl) rfl rfl (y_move rfl rfl) ?_
  refine Ls_y (wtdT rfl rfl rfl) rfl rfl (y_move rfl rfl) ?_
  refine Ls_y (wtdT rfl rfl rfl) rfl rfl (y_ltF rfl rfl rfl (by omega)) ?_
  refine Ls_y (wtd0 rfl) rfl rfl (y_pick_f rfl rfl rfl) ?_
  refine Ls_y (wtd0 rfl) rfl rfl (y_move rfl rfl) ?_
  refine Ls_y (wtdT rfl rfl rfl) rfl rfl (y_move rfl rfl) ?_
  refine Ls_y (wtdT rfl rfl rfl) rfl rfl (y_gtF rfl rfl rfl (by omega)) ?_
  refine Ls_y (wtd0 rfl) rfl rfl (y_pick_f rfl rfl rfl) ?_
  refine Ls_y (wtd0 rfl) rfl rfl (y_move rfl rfl) ?_
  refine Ls_y (wtdT rfl rfl rfl) rfl rfl (y_move rfl rfl) ?_
  refine Ls_y (wtdT rfl rfl rfl) rfl rfl (y_move rfl rfl) ?_
  refine Ls_a (wtdT rfl rfl rfl) ?_
  refine a_call rfl rfl rfl rfl (dlen_ok p D _ (hp.picks [0, 1, 2] (by decide))) (fun v wq ⟨hv, hw⟩ => ?_)
  subst hv
  subst hw
  refine Ls_y (wtdT rfl rfl rfl) rfl rfl (y_gtF rfl rfl rfl (by omega)) ?_
  refine Ls_y (wtd0 rfl) rfl rfl (y_pick_f rfl rfl rfl) ?_
  refine Ls_y (wtd0 rfl) rfl rfl (y_move rfl rfl) ?_
  refine Ls_y (wtdT rfl rfl rfl) rfl rfl (y_move rfl rfl) ?_
  refine Ls_y (wtdT rfl rfl rfl) rfl rfl (y_mul rfl rfl rfl (wf_i64 (by omega))) ?_
  refine Ls_y (wtdT rfl rfl rfl) rfl rfl (y_move rfl rfl) ?_
  refine Ls_a (wtdT rfl rfl rfl) ?_
  refine a_call rfl rfl rfl rfl (dlen_ok p D _ (hp.picks [0, 1, 2] (by decide))) (fun v wq ⟨hv, hw⟩ => ?_)
  subst hv
  subst hw
  refine Ls_y (wtdT rfl rfl rfl) rfl rfl (y_move rfl rfl) ?_
  refine Ls_y (wtdT rfl rfl rfl) rfl rfl (y_sub rfl rfl rfl (wf_i64 (by omega))) ?_
  refine Ls_y (wtdT rfl rfl rfl) rfl rfl (y_gtF rfl rfl rfl (by omega)) ?_
  refine Ls_y (wtd0 rfl) rfl rfl (y_pick_f rfl rfl rfl) ?_
  refine Ls_nil (Th_n (hK3 _ _ ?_))
  refine Wp_cond_f rfl ?_
  refine Wp_skip (Th_n (hK2 _ _ ?_))
  refine Wp_seq fun K4 hK4 => ?_
  refine Wp_seq fun K5 hK5 => ?_
  refine Wp_region ?_
  refine Ls_y (wtd0 rfl) rfl rfl (y_move rfl rfl) ?_
  refine Ls_a (wtd0 rfl) ?_
  refine a_call rfl rfl rfl rfl (ddown_ok p D _ (hp.picks [0, 1, 2] (by decide))) (fun v wq ⟨hv, hw⟩ => ?_)
  subst hv
  subst hw
  refine Ls_nil (Th_n (hK5 _ _ ?_))
  refine Wp_bool 38 rfl (fun hc1 => absurd hc1 (by simp [hD.down])) (fun _ => ?_)
  refine Wp_cond_f rfl ?_
  refine Wp_skip (Th_n (hK4 _ _ ?_))
  refine Wp_seq fun K6 hK6 => ?_
  refine Wp_region ?_
  refine Ls_y (wtd0 rfl) rfl rfl (y_move rfl rfl) ?_
  refine Ls_y (wtd0 rfl) rfl rfl (y_move rfl rfl) ?_
  refine Ls_y (wtd0 rfl) rfl rfl (y_move rfl rfl) ?_
  refine Ls_y (wtd0 rfl) rfl rfl (y_build (cells := [_, _, _, _, _, _, _, _]) rfl rfl Ty.zc_74 Ty.ps_74 rfl) ?_
  refine Ls_a (wtd0 rfl) ?_
  refine a_box rfl rfl rfl rfl hp (fun g1 w1 (hp : Hp w1 [(_, Cl [_, _, _, _, _] _), _, _, (_, Cl [_, _, _, _, _, _, _, _] _)]) hf hg1 => ?_)
  have hg1 := Nat.le_trans hF.size hg1
  have hF := hF.step0 hf
  refine Ls_y (wtd0 rfl) rfl rfl (y_assign rfl rfl) ?_
  refine Ls_nil (Th_n (hK6 _ _ ?_))
  refine Wp_seq fun K7 hK7 => ?_
  refine Wp_region ?_
  refine Ls_y (wtd0 rfl) rfl rfl (y_move rfl rfl) ?_
  refine Ls_a (wtd0 rfl) ?_
  refine a_call rfl rfl rfl rfl (mnewest_ok g1 p D ⟨base, size, 0, 0, 0, [], false⟩ _ (hp.picks [0, 1, 2, 3] (by decide)) hD.ok ⟨by simp only; omega, by simp only; omega, by simp only; omega⟩) (fun v w5 ⟨hv, hf⟩ => ?_)
  have hv : v = .int .u16 (mnewest D base (2 * size)) := hv
  subst hv
  have hp := hp.keep0 hf
  have hF := hF.step0 hf
  refine Ls_y (wtd0 rfl) rfl rfl (y_assign rfl rfl) ?_
  refine Ls_nil (Th_n (hK7 _ _ ?_))
  refine Wp_seq fun K8 hK8 => ?_
  refine Wp_seq fun K9 hK9 => ?_
  refine Wp_region ?_
  refine Ls_y (wtd0 rfl) rfl rfl (y_move rfl rfl) ?_
  refine Ls_y (wtd0 rfl) rfl rfl (y_eqF rfl rfl rfl (by omega)) ?_
  refine Ls_nil (Th_n (hK9 _ _ ?_))
  refine Wp_cond_f rfl ?_
  refine Wp_skip (Th_n (hK8 _ _ ?_))
  refine Wp_seq fun K10 hK10 => ?_
  refine Wp_region ?_
  refine Ls_y (wtd0 rfl) rfl rfl (y_move rfl rfl) ?_
  refine Ls_y (wtd0 rfl) rfl rfl (y_move rfl rfl) ?_
  refine Ls_y (wtd0 rfl) rfl rfl (y_add rfl rfl rfl (wf_u16 (by omega))) ?_
  refine Ls_y (wtd0 rfl) rfl rfl (y_nil rfl rfl) ?_
  refine Ls_y (wtd0 rfl) rfl rfl (y_fld rfl rfl Ty.fo_74_3) ?_
  refine Ls_a (wtd0 rfl) ?_
  first
    | refine a_store (i := 0) rfl rfl rfl rfl rfl Ty.sz_33 rfl hp rfl (by first | decide | (simp; done) | (simp; omega)) (fun w2 (hp : Hp w2 [(_, Cl [_, _, _, _, _] _), _, _, (_, Cl [_, _, _, _, _, _, _, _] _)]) hf _ => ?_)
    | refine a_store (i := 1) rfl rfl rfl rfl rfl Ty.sz_33 rfl hp rfl (by first | decide | (simp; done) | (simp; omega)) (fun w2 (hp : Hp w2 [(_, Cl [_, _, _, _, _] _), _, _, (_, Cl [_, _, _, _, _, _, _, _] _)]) hf _ => ?_)
    | refine a_store (i := 2) rfl rfl rfl rfl rfl Ty.sz_33 rfl hp rfl (by first | decide | (simp; done) | (simp; omega)) (fun w2 (hp : Hp w2 [(_, Cl [_, _, _, _, _] _), _, _, (_, Cl [_, _, _, _, _, _, _, _] _)]) hf _ => ?_)
    | refine a_store (i := 3) rfl rfl rfl rfl rfl Ty.sz_33 rfl hp rfl (by first | decide | (simp; done) | (simp; omega)) (fun w2 (hp : Hp w2 [(_, Cl [_, _, _, _, _] _), _, _, (_, Cl [_, _, _, _, _, _, _, _] _)]) hf _ => ?_)
  have hF := hF.step hf (by intro y hy; simp only [List.mem_cons, List.not_mem_nil, or_false] at hy; subst hy; first | (exact Or.inr (by omega)) | (exact Or.inl (by simp)))
  refine Ls_nil (Th_n (hK10 _ _ ?_))
  refine Wp_seq fun K11 hK11 => ?_
  refine Wp_seq fun K12 hK12 => ?_
  refine Wp_region ?_
  refine Ls_y (wtd0 rfl) rfl rfl (y_move rfl rfl) ?_
  refine Ls_nil (Th_n (hK12 _ _ ?_))
  refine Wp_block ?_
  refine Wp_unroll 3 (WpR_succ ?_)
  refine Wp_seq fun K13 hK13 => ?_
  refine Wp_region ?_
  refine Ls_y (wtd0 rfl) rfl rfl (y_ltT rfl rfl rfl (by decide)) ?_
  refine Ls_nil (Th_n (hK13 _ _ ?_))
  refine Wp_seq fun K14 hK14 => ?_
  refine Wp_cond_t rfl ?_
  refine Wp_skip (Th_n (hK14 _ _ ?_))
  refine Wp_seq fun K15 hK15 => ?_
  refine Wp_block ?_
  refine Wp_seq fun K16 hK16 => ?_
  refine Wp_region ?_
  refine Ls_y (wtd0 rfl) rfl rfl (y_move rfl rfl) ?_
  refine Ls_y (wtd0 rfl) rfl rfl (y_assign rfl rfl) ?_
  refine Ls_nil (Th_n (hK16 _ _ ?_))
  refine Wp_seq fun K17 hK17 => ?_
  refine Wp_region ?_
  refine Ls_y (wtd0 rfl) rfl rfl (y_move rfl rfl) ?_
  refine Ls_y (wtd0 rfl) rfl rfl (y_move rfl rfl) ?_
  refine Ls_a (wtd0 rfl) ?_
  refine a_call rfl rfl rfl rfl (mwhole_none g1 p D ⟨base, size, mnewest D base (2 * size) + 1, 0, 0, [], false⟩ _ (hp.picks [0, 1, 2, 3] (by decide)) hD.ok ⟨by simp only; omega, by simp only; omega, by simp only; omega⟩ 0 (by omega) h0) (fun v w6 ⟨hv, hf⟩ => ?_)
  subst hv
  have hp := hp.keep0 hf
  have hF := hF.step0 hf
  refine Ls_a (wtd0 rfl) ?_
  refine a_alloc rfl rfl rfl Ty.zc_72 hp (fun g3 w3 (hp : Hp w3 [(_, Cl [_, _, _, _, _] _), _, _, (_, Cl [_, _, _, _, _, _, _, _] _), (_, Cl [_, _, _] _)]) hf hg3 => ?_)
  have hg3 := Nat.le_trans hF.size hg3
  have hF := hF.step0 hf
  refine Ls_a (wtd0 rfl) ?_
  first
    | refine a_storew (i := 0) rfl rfl rfl rfl Ty.sz_72 rfl (by first | assumption | (simp [Value.oneCell']; done)) hp rfl rfl (fun w4 (hp : Hp w4 [(_, Cl [_, _, _, _, _] _), _, _, (_, Cl [_, _, _, _, _, _, _, _] _), (_, Cl [_, _, _] _)]) hf _ => ?_)
    | refine a_storew (i := 1) rfl rfl rfl rfl Ty.sz_72 rfl (by first | assumption | (simp [Value.oneCell']; done)) hp rfl rfl (fun w4 (hp : Hp w4 [(_, Cl [_, _, _, _, _] _), _, _, (_, Cl [_, _, _, _, _, _, _, _] _), (_, Cl [_, _, _] _)]) hf _ => ?_)
    | refine a_storew (i := 2) rfl rfl rfl rfl Ty.sz_72 rfl (by first | assumption | (simp [Value.oneCell']; done)) hp rfl rfl (fun w4 (hp : Hp w4 [(_, Cl [_, _, _, _, _] _), _, _, (_, Cl [_, _, _, _, _, _, _, _] _), (_, Cl [_, _, _] _)]) hf _ => ?_)
    | refine a_storew (i := 3) rfl rfl rfl rfl Ty.sz_72 rfl (by first | assumption | (simp [Value.oneCell']; done)) hp rfl rfl (fun w4 (hp : Hp w4 [(_, Cl [_, _, _, _, _] _), _, _, (_, Cl [_, _, _, _, _, _, _, _] _), (_, Cl [_, _, _] _)]) hf _ => ?_)
    | refine a_storew (i := 4) rfl rfl rfl rfl Ty.sz_72 rfl (by first | assumption | (simp [Value.oneCell']; done)) hp rfl rfl (fun w4 (hp : Hp w4 [(_, Cl [_, _, _, _, _] _), _, _, (_, Cl [_, _, _, _, _, _, _, _] _), (_, Cl [_, _, _] _)]) hf _ => ?_)
  have hF := hF.step hf (by intro y hy; simp only [List.mem_cons, List.not_mem_nil, or_false] at hy; subst hy; first | (exact Or.inr (by omega)) | (exact Or.inl (by simp)))
  refine Ls_nil (Th_n (hK17 _ _ ?_))
  refine Wp_seq fun K18 hK18 => ?_
  refine Wp_plan (fun W => Hp W (heapOf hp)) [(true, 0), (true, 1), (true, 2), (true, 3), (true, 4), (true, 5), (true, 6), (true, 7)] Ty.mx_0 (by kernel_rfl) (by kernel_rfl) rfl (hp.drew) ?_
  have hp := hp.drew
  have hF := hF.step0 (Fr.drew _)
  refine Pl_y rfl (wtd0 rfl) rfl rfl (y_fld rfl rfl Ty.fo_72_0) ?_
  first
    | refine Pl_y rfl (wtd0 rfl) rfl rfl (y_load (i := 0) rfl rfl Ty.pl_32 (fun _ h => h) rfl rfl) ?_
    | refine Pl_y rfl (wtd0 rfl) rfl rfl (y_load (i := 1) rfl rfl Ty.pl_32 (fun _ h => h) rfl rfl) ?_
    | refine Pl_y rfl (wtd0 rfl) rfl rfl (y_load (i := 2) rfl rfl Ty.pl_32 (fun _ h => h) rfl rfl) ?_
    | refine Pl_y rfl (wtd0 rfl) rfl rfl (y_load (i := 3) rfl rfl Ty.pl_32 (fun _ h => h) rfl rfl) ?_
    | refine Pl_y rfl (wtd0 rfl) rfl rfl (y_load (i := 4) rfl rfl Ty.pl_32 (fun _ h => h) rfl rfl) ?_
  refine Pl_y rfl (wtd0 rfl) rfl rfl (y_move rfl rfl) ?_
  refine Pl_y rfl (wtd0 rfl) rfl rfl (y_nil rfl rfl) ?_
  refine Pl_y rfl (wtd0 rfl) rfl rfl (y_fld rfl rfl Ty.fo_74_4) ?_
  refine Pl_y rfl (wtd0 rfl) rfl rfl (y_fld rfl rfl Ty.fo_72_0) ?_
  first
    | refine Pl_y rfl (wtd0 rfl) rfl rfl (y_load (i := 0) rfl rfl Ty.pl_32 (fun _ h => h) rfl rfl) ?_
    | refine Pl_y rfl (wtd0 rfl) rfl rfl (y_load (i := 1) rfl rfl Ty.pl_32 (fun _ h => h) rfl rfl) ?_
    | refine Pl_y rfl (wtd0 rfl) rfl rfl (y_load (i := 2) rfl rfl Ty.pl_32 (fun _ h => h) rfl rfl) ?_
    | refine Pl_y rfl (wtd0 rfl) rfl rfl (y_load (i := 3) rfl rfl Ty.pl_32 (fun _ h => h) rfl rfl) ?_
    | refine Pl_y rfl (wtd0 rfl) rfl rfl (y_load (i := 4) rfl rfl Ty.pl_32 (fun _ h => h) rfl rfl) ?_
  refine Pl_y rfl (wtd0 rfl) rfl rfl (y_gtF rfl rfl rfl (by omega)) ?_
  refine Pl_nil (Th_n (hK18 _ _ ?_))
  refine Wp_cond_f rfl ?_
  refine Wp_skip (Ib_n (Th_n (hK15 _ _ ?_)))
  refine Wp_region ?_
  refine Ls_y (wtd0 rfl) rfl rfl (y_add (c := 1) rfl rfl rfl (by decide)) ?_
  refine Ls_y (wtd0 rfl) rfl rfl (y_move rfl rfl) ?_
  refine Ls_nil (Th_n (WpR_succ ?_))
  refine Wp_seq fun K19 hK19 => ?_
  refine Wp_region ?_
  refine Ls_y (wtd0 rfl) rfl rfl (y_ltT rfl rfl rfl (by decide)) ?_
  refine Ls_nil (Th_n (hK19 _ _ ?_))
  refine Wp_seq fun K20 hK20 => ?_
  refine Wp_cond_t rfl ?_
  refine Wp_skip (Th_n (hK20 _ _ ?_))
  refine Wp_seq fun K21 hK21 => ?_
  refine Wp_block ?_
  refine Wp_seq fun K22 hK22 => ?_
  refine Wp_region ?_
  refine Ls_y (wtd0 rfl) rfl rfl (y_move rfl rfl) ?_
  refine Ls_y (wtd0 rfl) rfl rfl (y_assign rfl rfl) ?_
  refine Ls_nil (Th_n (hK22 _ _ ?_))
  refine Wp_seq fun K23 hK23 => ?_
  refine Wp_region ?_
  refine Ls_y (wtd0 rfl) rfl rfl (y_move rfl rfl) ?_
  refine Ls_y (wtd0 rfl) rfl rfl (y_move rfl rfl) ?_
  refine Ls_a (wtd0 rfl) ?_
  refine a_call rfl rfl rfl rfl (mwhole_ok g1 p D ⟨base, size, mnewest D base (2 * size) + 1, 0, 0, [], false⟩ _ (hp.picks [0, 1, 2, 3] (by decide)) hD.ok ⟨by simp only; omega, by simp only; omega, by simp only; omega⟩ (by simp only; omega) 1 (by omega) gg (n : Int) a b r (by omega) hq2 ha hb1 hr hr2 h1) (fun v w7 ⟨hv, hf⟩ => ?_)
  subst hv
  have hp := hp.keep0 hf
  have hF := hF.step0 hf
  refine Ls_a (wtd0 rfl) ?_
  refine a_alloc rfl rfl rfl Ty.zc_72 hp (fun g5 w5 (hp : Hp w5 [(_, Cl [_, _, _, _, _] _), _, _, (_, Cl [_, _, _, _, _, _, _, _] _), (_, Cl [_, _, _] _), (_, Cl [_, _, _] _)]) hf hg5 => ?_)
  have hg5 := Nat.le_trans hF.size hg5
  have hF := hF.step0 hf
  refine Ls_a (wtd0 rfl) ?_
  first
    | refine a_storew (i := 0) rfl rfl rfl rfl Ty.sz_72 rfl (by first | assumption | (simp [Value.oneCell']; done)) hp rfl rfl (fun w6 (hp : Hp w6 [(_, Cl [_, _, _, _, _] _), _, _, (_, Cl [_, _, _, _, _, _, _, _] _), (_, Cl [_, _, _] _), (_, Cl [_, _, _] _)]) hf _ => ?_)
    | refine a_storew (i := 1) rfl rfl rfl rfl Ty.sz_72 rfl (by first | assumption | (simp [Value.oneCell']; done)) hp rfl rfl (fun w6 (hp : Hp w6 [(_, Cl [_, _, _, _, _] _), _, _, (_, Cl [_, _, _, _, _, _, _, _] _), (_, Cl [_, _, _] _), (_, Cl [_, _, _] _)]) hf _ => ?_)
    | refine a_storew (i := 2) rfl rfl rfl rfl Ty.sz_72 rfl (by first | assumption | (simp [Value.oneCell']; done)) hp rfl rfl (fun w6 (hp : Hp w6 [(_, Cl [_, _, _, _, _] _), _, _, (_, Cl [_, _, _, _, _, _, _, _] _), (_, Cl [_, _, _] _), (_, Cl [_, _, _] _)]) hf _ => ?_)
    | refine a_storew (i := 3) rfl rfl rfl rfl Ty.sz_72 rfl (by first | assumption | (simp [Value.oneCell']; done)) hp rfl rfl (fun w6 (hp : Hp w6 [(_, Cl [_, _, _, _, _] _), _, _, (_, Cl [_, _, _, _, _, _, _, _] _), (_, Cl [_, _, _] _), (_, Cl [_, _, _] _)]) hf _ => ?_)
    | refine a_storew (i := 4) rfl rfl rfl rfl Ty.sz_72 rfl (by first | assumption | (simp [Value.oneCell']; done)) hp rfl rfl (fun w6 (hp : Hp w6 [(_, Cl [_, _, _, _, _] _), _, _, (_, Cl [_, _, _, _, _, _, _, _] _), (_, Cl [_, _, _] _), (_, Cl [_, _, _] _)]) hf _ => ?_)
    | refine a_storew (i := 5) rfl rfl rfl rfl Ty.sz_72 rfl (by first | assumption | (simp [Value.oneCell']; done)) hp rfl rfl (fun w6 (hp : Hp w6 [(_, Cl [_, _, _, _, _] _), _, _, (_, Cl [_, _, _, _, _, _, _, _] _), (_, Cl [_, _, _] _), (_, Cl [_, _, _] _)]) hf _ => ?_)
  have hF := hF.step hf (by intro y hy; simp only [List.mem_cons, List.not_mem_nil, or_false] at hy; subst hy; first | (exact Or.inr (by omega)) | (exact Or.inl (by simp)))
  refine Ls_nil (Th_n (hK23 _ _ ?_))
  refine Wp_seq fun K24 hK24 => ?_
  refine Wp_plan (fun W => Hp W (heapOf hp)) [(true, 0), (true, 1), (true, 2), (true, 3), (true, 4), (true, 5), (true, 6), (true, 7)] Ty.mx_0 (by kernel_rfl) (by kernel_rfl) rfl (hp.drew) ?_
  have hp := hp.drew
  have hF := hF.step0 (Fr.drew _)
  refine Pl_y rfl (wtd0 rfl) rfl rfl (y_fld rfl rfl Ty.fo_72_0) ?_
  first
    | refine Pl_y rfl (wtd0 rfl) rfl rfl (y_load (i := 0) rfl rfl Ty.pl_32 (fun _ h => h) rfl rfl) ?_
    | refine Pl_y rfl (wtd0 rfl) rfl rfl (y_load (i := 1) rfl rfl Ty.pl_32 (fun _ h => h) rfl rfl) ?_
    | refine Pl_y rfl (wtd0 rfl) rfl rfl (y_load (i := 2) rfl rfl Ty.pl_32 (fun _ h => h) rfl rfl) ?_
    | refine Pl_y rfl (wtd0 rfl) rfl rfl (y_load (i := 3) rfl rfl Ty.pl_32 (fun _ h => h) rfl rfl) ?_
    | refine Pl_y rfl (wtd0 rfl) rfl rfl (y_load (i := 4) rfl rfl Ty.pl_32 (fun _ h => h) rfl rfl) ?_
    | refine Pl_y rfl (wtd0 rfl) rfl rfl (y_load (i := 5) rfl rfl Ty.pl_32 (fun _ h => h) rfl rfl) ?_
  refine Pl_y rfl (wtd0 rfl) rfl rfl (y_move rfl rfl) ?_
  refine Pl_y rfl (wtd0 rfl) rfl rfl (y_nil rfl rfl) ?_
  refine Pl_y rfl (wtd0 rfl) rfl rfl (y_fld rfl rfl Ty.fo_74_4) ?_
  refine Pl_y rfl (wtd0 rfl) rfl rfl (y_fld rfl rfl Ty.fo_72_0) ?_
  first
    | refine Pl_y rfl (wtd0 rfl) rfl rfl (y_load (i := 0) rfl rfl Ty.pl_32 (fun _ h => h) rfl rfl) ?_
    | refine Pl_y rfl (wtd0 rfl) rfl rfl (y_load (i := 1) rfl rfl Ty.pl_32 (fun _ h => h) rfl rfl) ?_
    | refine Pl_y rfl (wtd0 rfl) rfl rfl (y_load (i := 2) rfl rfl Ty.pl_32 (fun _ h => h) rfl rfl) ?_
    | refine Pl_y rfl (wtd0 rfl) rfl rfl (y_load (i := 3) rfl rfl Ty.pl_32 (fun _ h => h) rfl rfl) ?_
    | refine Pl_y rfl (wtd0 rfl) rfl rfl (y_load (i := 4) rfl rfl Ty.pl_32 (fun _ h => h) rfl rfl) ?_
    | refine Pl_y rfl (wtd0 rfl) rfl rfl (y_load (i := 5) rfl rfl Ty.pl_32 (fun _ h => h) rfl rfl) ?_
  refine Pl_y rfl (wtd0 rfl) rfl rfl (y_gtT rfl rfl rfl (by omega)) ?_
  refine Pl_nil (Th_n (hK24 _ _ ?_))
  refine Wp_cond_t rfl ?_
  refine Wp_region ?_
  refine Ls_y (wtd0 rfl) rfl rfl (y_move rfl rfl) ?_
  first
    | refine Ls_y (wtd0 rfl) rfl rfl (y_loadw (i := 0) rfl rfl Ty.ag_72 (fun _ e => e ▸ hp) rfl rfl) ?_
    | refine Ls_y (wtd0 rfl) rfl rfl (y_loadw (i := 1) rfl rfl Ty.ag_72 (fun _ e => e ▸ hp) rfl rfl) ?_
    | refine Ls_y (wtd0 rfl) rfl rfl (y_loadw (i := 2) rfl rfl Ty.ag_72 (fun _ e => e ▸ hp) rfl rfl) ?_
    | refine Ls_y (wtd0 rfl) rfl rfl (y_loadw (i := 3) rfl rfl Ty.ag_72 (fun _ e => e ▸ hp) rfl rfl) ?_
    | refine Ls_y (wtd0 rfl) rfl rfl (y_loadw (i := 4) rfl rfl Ty.ag_72 (fun _ e => e ▸ hp) rfl rfl) ?_
    | refine Ls_y (wtd0 rfl) rfl rfl (y_loadw (i := 5) rfl rfl Ty.ag_72 (fun _ e => e ▸ hp) rfl rfl) ?_
  refine Ls_y (wtd0 rfl) rfl rfl (y_nil rfl rfl) ?_
  refine Ls_y (wtd0 rfl) rfl rfl (y_fld rfl rfl Ty.fo_74_4) ?_
  refine Ls_a (wtd0 rfl) ?_
  refine a_storem (i := 3) rfl rfl rfl rfl Ty.sz_72 rfl (by simp [Value.oneCell']) hp rfl (by simp) (fun wst (hp : Hp wst [(_, Cl [_, _, _, _, _] _), _, _, (_, Cl [_, _, _, _, _, _, _, _] _), (_, Cl [_, _, _] _), (_, Cl [_, _, _] _)]) hf _ => ?_)
  have hF := hF.step hf (by intro y hy; simp only [List.mem_cons, List.not_mem_nil, or_false] at hy; subst hy; first | (exact Or.inr (by omega)) | (exact Or.inl (by simp)))
  refine Ls_nil (Ib_n (Th_n (hK21 _ _ ?_)))
  refine Wp_region ?_
  refine Ls_y (wtd0 rfl) rfl rfl (y_add (c := 2) rfl rfl rfl (by decide)) ?_
  refine Ls_y (wtd0 rfl) rfl rfl (y_move rfl rfl) ?_
  refine Ls_nil (Th_n (WpR_succ ?_))
  refine Wp_seq fun K25 hK25 => ?_
  refine Wp_region ?_
  refine Ls_y (wtd0 rfl) rfl rfl (y_ltF rfl rfl rfl (by decide)) ?_
  refine Ls_nil (Th_n (hK25 _ _ ?_))
  refine Wp_seq fun K26 hK26 => ?_
  refine Wp_cond_f rfl ?_
  refine Wp_exit (Th_e (Th_e (Ib_hit (Th_n (hK11 _ _ ?_)))))
  refine Wp_seq fun K27 hK27 => ?_
  refine Wp_region ?_
  refine Ls_y (wtd0 rfl) rfl rfl (y_move rfl rfl) ?_
  refine Ls_y (wtd0 rfl) rfl rfl (y_assign rfl rfl) ?_
  refine Ls_y (wtd0 rfl) rfl rfl (y_assign rfl rfl) ?_
  refine Ls_nil (Th_n (hK27 _ _ ?_))
  refine Wp_ret (Fq_ret (Res2 rfl rfl rfl) ?_)
  exact ⟨g1, rfl, ⟨hF, hp.picks [3] (by decide), by intro k hk; simp [keys, pickL] at hk; omega⟩⟩

end Go.Proofs.Ytcpfhnfpokijaaa

/- Walks printed by gen.py out of our own specifications: what the functions named below do. -/
import Derived.Test.YtikdpkhcegjmfaaW19
set_option linter.unusedSimpArgs false
set_option linter.unusedVariables false
namespace Go.Proofs.Ytikdpkhcegjmfaa
open Go.RowKit

set_option maxRecDepth 20000 in
theorem napart_ok (p : Np) (T : Nt) (w : World) (hp : Hp w (ntH p T)) (hT : NtOk T) (a b : Int) :
    Fn Try.prog 31 [.pointer (some ⟨p.g, 0, none⟩), .int .i64 a, .int .i64 b] w fun v w' => v = .bool (apartB T a b) ∧ Fr [] w w' := by
  refine Fn_of 30 Ty.en_31 Try.func31 rfl rfl rfl ?_
  dsimp only [argEnv]
  have hp : Hp w [_, _] := hp
  have hF := Fr.refl [] w
  refine Wp_seq fun K1 hK1 => ?_
  refine Wp_region ?_
  refine Ls_y (wtd0 rfl) rfl rfl (y_assign rfl rfl) ?_
  refine Ls_nil (Th_n (hK1 _ _ ?_))
  refine Wp_seq fun K2 hK2 => ?_
  refine Wp_plan (fun W => Hp W (pickL (heapOf hp) [0, 1])) [(true, 0), (true, 1), (false, 2), (true, 3), (true, 4), (true, 5), (false, 6), (true, 7), (true, 8), (true, 9), (true, 10), (true, 11), (true, 12), (true, 13), (true, 14), (true, 15), (true, 16), (true, 17), (true, 18), (true, 19), (true, 20), (true, 21), (true, 22), (true, 23)] Ty.mx_0 (by kernel_rfl) (by kernel_rfl) rfl ((hp.picks [0, 1] (by decide)).drew) ?_
  have hp := hp.drew
  have hF := hF.step0 (Fr.drew _)
  refine Pl_y rfl (wtd0 rfl) rfl rfl (y_move rfl rfl) ?_
  refine Pl_y rfl (wtd0 rfl) rfl rfl (y_move rfl rfl) ?_
  refine Pl_a rfl (wtd0 rfl) (by rfl) ?_
  refine a_call rfl rfl rfl rfl (nnode_ok p T _ hp hT a) (fun v w1 ⟨hv, hw⟩ => ?_)
  subst hv
  subst hw
  refine ⟨hp.picks [0, 1] (by decide), ?_⟩
  refine Pl_y rfl (wtd0 rfl) rfl rfl (y_move rfl rfl) ?_
  refine Pl_bool 10 rfl (fun hc2 => ?_) (fun hc2 => ?_)
  all_goals try simp only [decide_eq_true_eq, decide_eq_false_iff_not, beq_iff_eq, bne_iff_ne, ne_eq, beq_eq_false_iff_ne, bne_eq_false_iff_eq, Bool.not_eq_true, Bool.not_eq_false] at hc2
  · refine Pl_y rfl (wtdT rfl rfl rfl) rfl rfl (y_move rfl rfl) ?_
    refine Pl_y rfl (wtdT rfl rfl rfl) rfl rfl (y_move rfl rfl) ?_
    refine Pl_a rfl (wtdT rfl rfl rfl) (by rfl) ?_
    refine a_call rfl rfl rfl rfl (nnode_ok p T _ hp hT b) (fun v w1 ⟨hv, hw⟩ => ?_)
    subst hv
    subst hw
    refine ⟨hp.picks [0, 1] (by decide), ?_⟩
    refine Pl_y rfl (wtd0 rfl) rfl rfl (y_pick_t rfl rfl rfl) ?_
    refine Pl_y rfl (wtd0 rfl) rfl rfl (y_move rfl rfl) ?_
    refine Pl_bool 15 rfl (fun hc3 => ?_) (fun hc3 => ?_)
    all_goals try simp only [decide_eq_true_eq, decide_eq_false_iff_not, beq_iff_eq, bne_iff_ne, ne_eq, beq_eq_false_iff_ne, bne_eq_false_iff_eq, Bool.not_eq_true, Bool.not_eq_false] at hc3
    · have ha : 0 ≤ a ∧ a < (T.nodes : Int) := by simpa [nodeB] using hc2
      have hb : 0 ≤ b ∧ b < (T.nodes : Int) := by simpa [nodeB] using hc3
      obtain ⟨ja, rfl⟩ := Int.eq_ofNat_of_zero_le ha.1
      obtain ⟨jb, rfl⟩ := Int.eq_ofNat_of_zero_le hb.1
      have hja : ja < T.nodes := by omega
      have hjb : jb < T.nodes := by omega
      have h32 := hT.hi
      refine Pl_y rfl (wtdT rfl rfl rfl) rfl rfl (y_move rfl rfl) ?_
      refine Pl_y rfl (wtdT rfl rfl rfl) rfl rfl (y_move rfl rfl) ?_
      refine Pl_y rfl (wtdT rfl rfl rfl) rfl rfl (y_nil rfl rfl) ?_
      refine Pl_y rfl (wtdT rfl rfl rfl) rfl rfl (y_fld rfl rfl Ty.fo_115_1) ?_
      first
        | refine Pl_y rfl (wtdT rfl rfl rfl) rfl rfl (y_ixrN rfl rfl rfl Ty.ar_112 (by omega)) ?_
        | refine Pl_y rfl (wtdT rfl rfl rfl) rfl rfl (y_ixr rfl rfl rfl Ty.ar_112 (by omega) (by omega)) ?_
      refine Pl_y rfl (wtdT rfl rfl rfl) rfl rfl (y_load (i := 0) rfl rfl Ty.pl_3 (fun _ h => h) rfl (nt_col hT _ _ hja)) ?_
      refine Pl_y rfl (wtdT rfl rfl rfl) rfl rfl (y_move rfl rfl) ?_
      refine Pl_y rfl (wtdT rfl rfl rfl) rfl rfl (y_move rfl rfl) ?_
      refine Pl_y rfl (wtdT rfl rfl rfl) rfl rfl (y_nil rfl rfl) ?_
      refine Pl_y rfl (wtdT rfl rfl rfl) rfl rfl (y_fld rfl rfl Ty.fo_115_1) ?_
      first
        | refine Pl_y rfl (wtdT rfl rfl rfl) rfl rfl (y_ixrN rfl rfl rfl Ty.ar_112 (by omega)) ?_
        | refine Pl_y rfl (wtdT rfl rfl rfl) rfl rfl (y_ixr rfl rfl rfl Ty.ar_112 (by omega) (by omega)) ?_
      refine Pl_y rfl (wtdT rfl rfl rfl) rfl rfl (y_load (i := 0) rfl rfl Ty.pl_3 (fun _ h => h) rfl (nt_col hT _ _ hjb)) ?_
      refine Pl_y rfl (wtdT rfl rfl rfl) rfl rfl (y_ne rfl rfl rfl) ?_
      refine Pl_y rfl (wtd0 rfl) rfl rfl (y_pick_t rfl rfl rfl) ?_
      refine Pl_y rfl (wtd0 rfl) rfl rfl (y_assign rfl rfl) ?_
      refine Pl_nil (Th_n (hK2 _ _ ?_))
      refine Wp_ret (Fq_ret (Res1 rfl rfl) ?_)
      exact ⟨by simp [apartB, hc2, hc3, bne, BEq.beq], hF⟩
    · refine Pl_s rfl (wtdF rfl rfl rfl) rfl rfl ?_
      refine Pl_s rfl (wtdF rfl rfl rfl) rfl rfl ?_
      refine Pl_s rfl (wtdF rfl rfl rfl) rfl rfl ?_
      refine Pl_s rfl (wtdF rfl rfl rfl) rfl rfl ?_
      refine Pl_s rfl (wtdF rfl rfl rfl) rfl rfl ?_
      refine Pl_s rfl (wtdF rfl rfl rfl) rfl rfl ?_
      refine Pl_s rfl (wtdF rfl rfl rfl) rfl rfl ?_
      refine Pl_s rfl (wtdF rfl rfl rfl) rfl rfl ?_
      refine Pl_s rfl (wtdF rfl rfl rfl) rfl rfl ?_
      refine Pl_s rfl (wtdF rfl rfl rfl) rfl rfl ?_
      refine Pl_s rfl (wtdF rfl rfl rfl) rfl rfl ?_
      refine Pl_s rfl (wtdF rfl rfl rfl) rfl rfl ?_
      refine Pl_s rfl (wtdF rfl rfl rfl) rfl rfl ?_
      refine Pl_y rfl (wtd0 rfl) rfl rfl (y_pick_f rfl rfl rfl) ?_
      refine Pl_y rfl (wtd0 rfl) rfl rfl (y_assign rfl rfl) ?_
      refine Pl_nil (Th_n (hK2 _ _ ?_))
      refine Wp_ret (Fq_ret (Res1 rfl rfl) ?_)
      exact ⟨by simp [apartB, hc3], hF⟩
  · refine Pl_s rfl (wtdF rfl rfl rfl) rfl rfl ?_
    refine Pl_s rfl (wtdF rfl rfl rfl) rfl rfl ?_
    refine Pl_s rfl (wtdF rfl rfl rfl) rfl rfl ?_
    refine Pl_y rfl (wtd0 rfl) rfl rfl (y_pick_f rfl rfl rfl) ?_
    refine Pl_y rfl (wtd0 rfl) rfl rfl (y_move rfl rfl) ?_
    refine Pl_s rfl (wtdF rfl rfl rfl) rfl rfl ?_
    refine Pl_s rfl (wtdF rfl rfl rfl) rfl rfl ?_
    refine Pl_s rfl (wtdF rfl rfl rfl) rfl rfl ?_
    refine Pl_s rfl (wtdF rfl rfl rfl) rfl rfl ?_
    refine Pl_s rfl (wtdF rfl rfl rfl) rfl rfl ?_
    refine Pl_s rfl (wtdF rfl rfl rfl) rfl rfl ?_
    refine Pl_s rfl (wtdF rfl rfl rfl) rfl rfl ?_
    refine Pl_s rfl (wtdF rfl rfl rfl) rfl rfl ?_
    refine Pl_s rfl (wtdF rfl rfl rfl) rfl rfl ?_
    refine Pl_s rfl (wtdF rfl rfl rfl) rfl rfl ?_
    refine Pl_s rfl (wtdF rfl rfl rfl) rfl rfl ?_
    refine Pl_s rfl (wtdF rfl rfl rfl) rfl rfl ?_
    refine Pl_s rfl (wtdF rfl rfl rfl) rfl rfl ?_
    refine Pl_y rfl (wtd0 rfl) rfl rfl (y_pick_f rfl rfl rfl) ?_
    refine Pl_y rfl (wtd0 rfl) rfl rfl (y_assign rfl rfl) ?_
    refine Pl_nil (Th_n (hK2 _ _ ?_))
    refine Wp_ret (Fq_ret (Res1 rfl rfl) ?_)
    exact ⟨by simp [apartB, hc2], hF⟩

set_option maxRecDepth 20000 in
theorem nat_ok (p : Np) (T : Nt) (w : World) (hp : Hp w (ntH p T)) (hT : NtOk T) (how : NpOk p T) (i : Int) :
    Fn Try.prog 75 [.pointer (some ⟨p.g, 0, none⟩), .int .i64 i] w fun v w' => v = .tuple #[.agg (msgC (atM T i)).toArray, .int .i64 (atE T i)] ∧ Fr [] w w' := by
  refine Fn_of 25 Ty.en_75 Try.func75 rfl rfl rfl ?_
  dsimp only [argEnv]
  obtain ⟨pg, pA, pc, psp⟩ := p
  simp only [NpOk] at how
  have hp : Hp w [(some pg, _), (blkOf pA, _)] := hp
  have hF := Fr.refl [] w
  refine Wp_seq fun K1 hK1 => ?_
  refine Wp_region ?_
  refine Ls_a (wtd0 rfl) ?_
  refine a_alloc rfl rfl rfl Ty.zc_51 hp (fun g1 w1 (hp : Hp w1 [_, _, (_, Cl [_, _, _] _)]) hf hg1 => ?_)
  have hg1 := Nat.le_trans hF.size hg1
  have hF := hF.step0 hf
  refine Ls_y (wtd0 rfl) rfl rfl (y_assign rfl rfl) ?_
  refine Ls_nil (Th_n (hK1 _ _ ?_))
  refine Wp_seq fun K2 hK2 => ?_
  refine Wp_seq fun K3 hK3 => ?_
  refine Wp_region ?_
  refine Ls_y (wtd0 rfl) rfl rfl (y_move rfl rfl) ?_
  refine Ls_y (wtd0 rfl) rfl rfl (y_lt rfl rfl rfl) ?_
  refine Ls_bool 7 rfl (fun h0 => ?_) (fun h0 => ?_)
  all_goals try simp only [decide_eq_true_eq, decide_eq_false_iff_not, beq_iff_eq, bne_iff_ne, ne_eq, beq_eq_false_iff_ne, bne_eq_false_iff_eq, Bool.not_eq_true, Bool.not_eq_false] at h0
  · refine Ls_y (wtd0 rfl) rfl rfl (y_move rfl rfl) ?_
    refine Ls_s (wtdF rfl rfl rfl) rfl rfl ?_
    refine Ls_s (wtdF rfl rfl rfl) rfl rfl ?_
    refine Ls_s (wtdF rfl rfl rfl) rfl rfl ?_
    refine Ls_s (wtdF rfl rfl rfl) rfl rfl ?_
    refine Ls_s (wtdF rfl rfl rfl) rfl rfl ?_
    refine Ls_s (wtdF rfl rfl rfl) rfl rfl ?_
    refine Ls_s (wtdF rfl rfl rfl) rfl rfl ?_
    refine Ls_y (wtd0 rfl) rfl rfl (y_pick_t rfl rfl rfl) ?_
    refine Ls_nil (Th_n (hK3 _ _ ?_))
    refine Wp_cond_t rfl ?_
    refine Wp_seq fun K4 hK4 => ?_
    refine Wp_region ?_
    refine Ls_y (wtd0 rfl) rfl rfl (y_build (cells := [_, _, _]) rfl rfl Ty.zc_51 Ty.ps_51 rfl) ?_
    refine Ls_a (wtd0 rfl) ?_
    first
      | refine a_storew (i := 0) rfl rfl rfl rfl Ty.sz_51 rfl (by first | assumption | (simp [Value.oneCell']; done)) hp rfl rfl (fun w2 (hp : Hp w2 [_, _, (_, Cl [_, _, _] _)]) hf _ => ?_)
      | refine a_storew (i := 1) rfl rfl rfl rfl Ty.sz_51 rfl (by first | assumption | (simp [Value.oneCell']; done)) hp rfl rfl (fun w2 (hp : Hp w2 [_, _, (_, Cl [_, _, _] _)]) hf _ => ?_)
      | refine a_storew (i := 2) rfl rfl rfl rfl Ty.sz_51 rfl (by first | assumption | (simp [Value.oneCell']; done)) hp rfl rfl (fun w2 (hp : Hp w2 [_, _, (_, Cl [_, _, _] _)]) hf _ => ?_)
    have hF := hF.step hf (by intro y hy; simp only [List.mem_cons, List.not_mem_nil, or_false] at hy; subst hy; first | (exact Or.inr (by omega)) | (exact Or.inl (by simp)))
    refine Ls_y (wtd0 rfl) rfl rfl (y_assign rfl rfl) ?_
    refine Ls_nil (Th_n (hK4 _ _ ?_))
    first
      | refine Wp_ret (Th_r (Fq_ret (ResN2 rfl (rvc (i := 0) rfl Ty.ag_51 hp rfl rfl) rfl) ?_))
      | refine Wp_ret (Th_r (Fq_ret (ResN2 rfl (rvc (i := 1) rfl Ty.ag_51 hp rfl rfl) rfl) ?_))
      | refine Wp_ret (Th_r (Fq_ret (ResN2 rfl (rvc (i := 2) rfl Ty.ag_51 hp rfl rfl) rfl) ?_))
    have hb : inB T i = false := by simp [inB]; omega
    exact ⟨by simp [atM, atE, hb, msgC, msg0], hF⟩
  · refine Ls_y (wtd0 rfl) rfl rfl (y_move rfl rfl) ?_
    refine Ls_y (wtdT rfl rfl rfl) rfl rfl (y_move rfl rfl) ?_
    refine Ls_y (wtdT rfl rfl rfl) rfl rfl (y_move rfl rfl) ?_
    refine Ls_y (wtdT rfl rfl rfl) rfl rfl (y_nil rfl rfl) ?_
    refine Ls_y (wtdT rfl rfl rfl) rfl rfl (y_fld rfl rfl Ty.fo_115_2) ?_
    refine Ls_y (wtdT rfl rfl rfl) rfl rfl (y_load (i := 0) rfl rfl Ty.pl_113 (fun _ e => e ▸ hp) rfl (nt_row hT _ _)) ?_
    refine Ls_y (wtdT rfl rfl rfl) rfl rfl (y_lenl rfl rfl Try.underlying113) ?_
    refine Ls_y (wtdT rfl rfl rfl) rfl rfl (y_ge rfl rfl rfl) ?_
    refine Ls_bool 15 rfl (fun h1 => ?_) (fun h1 => ?_)
    all_goals try simp only [decide_eq_true_eq, decide_eq_false_iff_not, beq_iff_eq, bne_iff_ne, ne_eq, beq_eq_false_iff_ne, bne_eq_false_iff_eq, Bool.not_eq_true, Bool.not_eq_false] at h1
    · refine Ls_y (wtd0 rfl) rfl rfl (y_pick_f rfl rfl rfl) ?_
      refine Ls_nil (Th_n (hK3 _ _ ?_))
      refine Wp_cond_t rfl ?_
      refine Wp_seq fun K5 hK5 => ?_
      refine Wp_region ?_
      refine Ls_y (wtd0 rfl) rfl rfl (y_build (cells := [_, _, _]) rfl rfl Ty.zc_51 Ty.ps_51 rfl) ?_
      refine Ls_a (wtd0 rfl) ?_
      first
        | refine a_storew (i := 0) rfl rfl rfl rfl Ty.sz_51 rfl (by first | assumption | (simp [Value.oneCell']; done)) hp rfl rfl (fun w2 (hp : Hp w2 [_, _, (_, Cl [_, _, _] _)]) hf _ => ?_)
        | refine a_storew (i := 1) rfl rfl rfl rfl Ty.sz_51 rfl (by first | assumption | (simp [Value.oneCell']; done)) hp rfl rfl (fun w2 (hp : Hp w2 [_, _, (_, Cl [_, _, _] _)]) hf _ => ?_)
        | refine a_storew (i := 2) rfl rfl rfl rfl Ty.sz_51 rfl (by first | assumption | (simp [Value.oneCell']; done)) hp rfl rfl (fun w2 (hp : Hp w2 [_, _, (_, Cl [_, _, _] _)]) hf _ => ?_)
      have hF := hF.step hf (by intro y hy; simp only [List.mem_cons, List.not_mem_nil, or_false] at hy; subst hy; first | (exact Or.inr (by omega)) | (exact Or.inl (by simp)))
      refine Ls_y (wtd0 rfl) rfl rfl (y_assign rfl rfl) ?_
      refine Ls_nil (Th_n (hK5 _ _ ?_))
      first
        | refine Wp_ret (Th_r (Fq_ret (ResN2 rfl (rvc (i := 0) rfl Ty.ag_51 hp rfl rfl) rfl) ?_))
        | refine Wp_ret (Th_r (Fq_ret (ResN2 rfl (rvc (i := 1) rfl Ty.ag_51 hp rfl rfl) rfl) ?_))
        | refine Wp_ret (Th_r (Fq_ret (ResN2 rfl (rvc (i := 2) rfl Ty.ag_51 hp rfl rfl) rfl) ?_))
      have hb : inB T i = false := by simp [inB]; omega
      exact ⟨by simp [atM, atE, hb, msgC, msg0], hF⟩
    · obtain ⟨k, rfl⟩ := Int.eq_ofNat_of_zero_le (show 0 ≤ i by omega)
      have hk : k < T.row.length := by omega
      have hb : inB T (k : Int) = true := by simp [inB]; omega
      obtain ⟨g2, rfl⟩ := how.some_ (by omega)
      obtain ⟨m, hm⟩ : ∃ m, T.row[k]? = some m := ⟨_, List.getElem?_eq_getElem hk⟩
      have hAt : atM T (k : Int) = m := by simp [atM, hb, hm]
      obtain ⟨mf, mt, ms⟩ := m
      have hg : ((rowC T.row ++ psp).drop (0 + k * 3)).take 3 = [.int .i64 mf, .int .i64 mt, sv ms] := rowC_get hm _
      refine Ls_y (wtd0 rfl) rfl rfl (y_pick_f rfl rfl rfl) ?_
      refine Ls_nil (Th_n (hK3 _ _ ?_))
      refine Wp_cond_f rfl ?_
      refine Wp_skip (Th_n (hK2 _ _ ?_))
      refine Wp_seq fun K6 hK6 => ?_
      refine Wp_region ?_
      refine Ls_y (wtd0 rfl) rfl rfl (y_move rfl rfl) ?_
      refine Ls_y (wtd0 rfl) rfl rfl (y_nil rfl rfl) ?_
      refine Ls_y (wtd0 rfl) rfl rfl (y_fld rfl rfl Ty.fo_115_2) ?_
      refine Ls_y (wtd0 rfl) rfl rfl (y_load (i := 0) rfl rfl Ty.pl_113 (fun _ e => e ▸ hp) rfl (nt_row hT _ _)) ?_
      refine Ls_y (wtd0 rfl) rfl rfl (y_move rfl rfl) ?_
      first
        | refine Ls_y (wtd0 rfl) rfl rfl (y_ixaN rfl rfl rfl Ty.es_113 (by omega)) ?_
        | refine Ls_y (wtd0 rfl) rfl rfl (y_ixa rfl rfl rfl Ty.es_113 (by omega) (by omega)) ?_
      refine Ls_y (wtd0 rfl) rfl rfl (y_loadm (i := 1) rfl rfl Ty.ag_51 (fun _ e => e ▸ hp) rfl hg rfl) ?_
      refine Ls_a (wtd0 rfl) ?_
      first
        | refine a_storew (i := 0) rfl rfl rfl rfl Ty.sz_51 rfl (by first | assumption | (simp [Value.oneCell']; done)) hp rfl rfl (fun w2 (hp : Hp w2 [_, _, (_, Cl [_, _, _] _)]) hf _ => ?_)
        | refine a_storew (i := 1) rfl rfl rfl rfl Ty.sz_51 rfl (by first | assumption | (simp [Value.oneCell']; done)) hp rfl rfl (fun w2 (hp : Hp w2 [_, _, (_, Cl [_, _, _] _)]) hf _ => ?_)
        | refine a_storew (i := 2) rfl rfl rfl rfl Ty.sz_51 rfl (by first | assumption | (simp [Value.oneCell']; done)) hp rfl rfl (fun w2 (hp : Hp w2 [_, _, (_, Cl [_, _, _] _)]) hf _ => ?_)
      have hF := hF.step hf (by intro y hy; simp only [List.mem_cons, List.not_mem_nil, or_false] at hy; subst hy; first | (exact Or.inr (by omega)) | (exact Or.inl (by simp)))
      refine Ls_y (wtd0 rfl) rfl rfl (y_assign rfl rfl) ?_
      refine Ls_nil (Th_n (hK6 _ _ ?_))
      first
        | refine Wp_ret (Fq_ret (ResN2 rfl (rvc (i := 0) rfl Ty.ag_51 hp rfl rfl) rfl) ?_)
        | refine Wp_ret (Fq_ret (ResN2 rfl (rvc (i := 1) rfl Ty.ag_51 hp rfl rfl) rfl) ?_)
        | refine Wp_ret (Fq_ret (ResN2 rfl (rvc (i := 2) rfl Ty.ag_51 hp rfl rfl) rfl) ?_)
      exact ⟨by rw [hAt]; simp [atE, hb, msgC], hF⟩

end Go.Proofs.Ytikdpkhcegjmfaa

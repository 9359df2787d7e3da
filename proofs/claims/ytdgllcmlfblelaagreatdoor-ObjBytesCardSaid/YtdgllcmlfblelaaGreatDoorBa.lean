/- Walks printed by gen2.py out of our own specifications: what the functions named below do. -/
import Derived.Test.YtdgllcmlfblelaaGreatDoorSc
import Derived.Test.YtdgllcmlfblelaaGreatDoorB9
set_option linter.unusedSimpArgs false
set_option linter.unusedVariables false
namespace Go.Proofs.YtdgllcmlfblelaaGreatDoor
open Go.RowKit

set_option maxRecDepth 20000 in
theorem onew_ok (s : List UInt8) (w : World) : Fn Tryz.prog 8 [sv s] w fun v w' => ∃ g, v = .pointer (some ⟨g, 0, none⟩) ∧ New w w' [(some g, Cl (rdC none ⟨s, 0, ⟨0, 0⟩⟩) 83)] := by
  refine Fn_of 6 Ty.en_8 Tryz.func8 rfl rfl rfl ?_
  dsimp only [argEnv]
  have hp := Hp.nil w
  have hF := Fr.refl [] w
  refine Wp_seq fun K1 hK1 => ?_
  refine Wp_region ?_
  refine Ls_y (wtd0 rfl) rfl rfl (y_assign rfl rfl) ?_
  refine Ls_nil (Th_n (hK1 _ _ ?_))
  refine Wp_seq fun K2 hK2 => ?_
  refine Wp_region ?_
  refine Ls_y (wtd0 rfl) rfl rfl (y_move rfl rfl) ?_
  refine Ls_y (wtd0 rfl) rfl rfl (y_build (cells := [_, _, _]) rfl rfl Ty.zc_83 Ty.ps_83 rfl) ?_
  refine Ls_a (wtd0 rfl) ?_
  refine a_box rfl rfl rfl rfl hp (fun g1 w1 (hp : Hp w1 [(_, Cl [_, _, _] _)]) hf hg1 => ?_)
  have hg1 := Nat.le_trans hF.size hg1
  have hF := hF.step0 hf
  refine Ls_y (wtd0 rfl) rfl rfl (y_assign rfl rfl) ?_
  refine Ls_nil (Th_n (hK2 _ _ ?_))
  refine Wp_ret (Fq_ret (Res1 rfl rfl) ?_)
  exact ⟨g1, rfl, ⟨hF, hp, by intro k hk; simp [keys] at hk; omega⟩⟩

set_option maxRecDepth 20000 in
theorem oerr_ok (g : Nat) (q : Option Nat) (t : RdM) (w : World) (hk : Eok q t) (hp : Hp w (rdH g q t))  :
    Fn Tryz.prog 15 [.pointer (some ⟨g, 0, none⟩)] w fun v w' => v = errV 94 q ∧ w' = w := by
  refine Fn_of 7 Ty.en_15 Tryz.func15 rfl rfl rfl ?_
  dsimp only [argEnv]
  have hp : Hp w [(_, Cl [_, _, _] _), (_, Cl [_, _] _)] := hp
  have hF := Fr.refl (keys (rdH g q t)) w
  refine Wp_seq fun K1 hK1 => ?_
  refine Wp_region ?_
  refine Ls_y (wtd0 rfl) rfl rfl (y_assign rfl rfl) ?_
  refine Ls_nil (Th_n (hK1 _ _ ?_))
  refine Wp_seq fun K2 hK2 => ?_
  refine Wp_region ?_
  refine Ls_y (wtd0 rfl) rfl rfl (y_move rfl rfl) ?_
  refine Ls_y (wtd0 rfl) rfl rfl (y_nil rfl rfl) ?_
  refine Ls_y (wtd0 rfl) rfl rfl (y_fld rfl rfl Ty.fo_83_2) ?_
  first
    | refine Ls_y (wtd0 rfl) rfl rfl (y_load (i := 0) rfl rfl Ty.pl_65 (fun _ e => e ▸ hp) rfl rfl) ?_
    | refine Ls_y (wtd0 rfl) rfl rfl (y_load (i := 1) rfl rfl Ty.pl_65 (fun _ e => e ▸ hp) rfl rfl) ?_
  refine Ls_y (wtd0 rfl) rfl rfl (y_assign rfl rfl) ?_
  refine Ls_nil (Th_n (hK2 _ _ ?_))
  refine Wp_ret (Fq_ret (Res1 rfl rfl) ?_)
  exact ⟨rfl, rfl⟩

set_option maxRecDepth 20000 in
theorem oat_ok (g : Nat) (q : Option Nat) (t : RdM) (w : World) (hk : Eok q t) (hp : Hp w (rdH g q t))  :
    Fn Tryz.prog 13 [.pointer (some ⟨g, 0, none⟩)] w fun v w' => v = .int .i64 t.a ∧ w' = w := by
  refine Fn_of 7 Ty.en_13 Tryz.func13 rfl rfl rfl ?_
  dsimp only [argEnv]
  have hp : Hp w [(_, Cl [_, _, _] _), (_, Cl [_, _] _)] := hp
  have hF := Fr.refl (keys (rdH g q t)) w
  refine Wp_seq fun K1 hK1 => ?_
  refine Wp_region ?_
  refine Ls_y (wtd0 rfl) rfl rfl (y_assign rfl rfl) ?_
  refine Ls_nil (Th_n (hK1 _ _ ?_))
  refine Wp_seq fun K2 hK2 => ?_
  refine Wp_region ?_
  refine Ls_y (wtd0 rfl) rfl rfl (y_move rfl rfl) ?_
  refine Ls_y (wtd0 rfl) rfl rfl (y_nil rfl rfl) ?_
  refine Ls_y (wtd0 rfl) rfl rfl (y_fld rfl rfl Ty.fo_83_1) ?_
  first
    | refine Ls_y (wtd0 rfl) rfl rfl (y_load (i := 0) rfl rfl Ty.pl_3 (fun _ e => e ▸ hp) rfl rfl) ?_
    | refine Ls_y (wtd0 rfl) rfl rfl (y_load (i := 1) rfl rfl Ty.pl_3 (fun _ e => e ▸ hp) rfl rfl) ?_
  refine Ls_y (wtd0 rfl) rfl rfl (y_assign rfl rfl) ?_
  refine Ls_nil (Th_n (hK2 _ _ ?_))
  refine Wp_ret (Fq_ret (Res1 rfl rfl) ?_)
  exact ⟨rfl, rfl⟩

set_option maxRecDepth 20000 in
theorem oleft_ok (g : Nat) (q : Option Nat) (t : RdM) (w : World) (hk : Eok q t) (hp : Hp w (rdH g q t))  :
    Fn Tryz.prog 62 [.pointer (some ⟨g, 0, none⟩)] w fun v w' => v = .int .i64 (t.s.length - t.a) ∧ Fr [] w w' := by
  refine Fn_of 13 Ty.en_62 Tryz.func62 rfl rfl rfl ?_
  dsimp only [argEnv]
  have hp : Hp w [(_, Cl [_, _, _] _), (_, Cl [_, _] _)] := hp
  have hF := Fr.refl [] w
  have hb := hk.1.b
  refine Wp_seq fun K1 hK1 => ?_
  refine Wp_region ?_
  refine Ls_y (wtd0 rfl) rfl rfl (y_assign rfl rfl) ?_
  refine Ls_nil (Th_n (hK1 _ _ ?_))
  refine Wp_seq fun K2 hK2 => ?_
  refine Wp_plan (fun W => Hp W (heapOf hp)) [(true, 0), (true, 1), (true, 2), (true, 3), (true, 4), (true, 5), (true, 6), (true, 7), (true, 8), (true, 9), (true, 10)] Ty.mx_0 (by kernel_rfl) (by kernel_rfl) rfl (hp.drew) ?_
  have hp := hp.drew
  have hF := hF.step0 (Fr.drew _)
  refine Pl_y rfl (wtd0 rfl) rfl rfl (y_move rfl rfl) ?_
  refine Pl_y rfl (wtd0 rfl) rfl rfl (y_nil rfl rfl) ?_
  refine Pl_y rfl (wtd0 rfl) rfl rfl (y_fld rfl rfl Ty.fo_83_0) ?_
  first
    | refine Pl_y rfl (wtd0 rfl) rfl rfl (y_load (i := 0) rfl rfl Ty.pl_9 (fun _ h => h) rfl rfl) ?_
    | refine Pl_y rfl (wtd0 rfl) rfl rfl (y_load (i := 1) rfl rfl Ty.pl_9 (fun _ h => h) rfl rfl) ?_
  refine Pl_y rfl (wtd0 rfl) rfl rfl (y_lens rfl rfl Tryz.underlying9) ?_
  refine Pl_y rfl (wtd0 rfl) rfl rfl (y_move rfl rfl) ?_
  refine Pl_y rfl (wtd0 rfl) rfl rfl (y_nil rfl rfl) ?_
  refine Pl_y rfl (wtd0 rfl) rfl rfl (y_fld rfl rfl Ty.fo_83_1) ?_
  first
    | refine Pl_y rfl (wtd0 rfl) rfl rfl (y_load (i := 0) rfl rfl Ty.pl_3 (fun _ h => h) rfl rfl) ?_
    | refine Pl_y rfl (wtd0 rfl) rfl rfl (y_load (i := 1) rfl rfl Ty.pl_3 (fun _ h => h) rfl rfl) ?_
  first
    | refine Pl_y rfl (wtd0 rfl) rfl rfl (y_sub rfl rfl rfl (w_subN (by first | omega | (simp; omega)) (by first | omega | (simp; omega)))) ?_
    | refine Pl_y rfl (wtd0 rfl) rfl rfl (y_sub rfl rfl rfl (wf_i64 (by omega))) ?_
    | refine Pl_y rfl (wtd0 rfl) rfl rfl (y_sub rfl rfl rfl rfl) ?_
  refine Pl_y rfl (wtd0 rfl) rfl rfl (y_assign rfl rfl) ?_
  refine Pl_nil (Th_n (hK2 _ _ ?_))
  refine Wp_ret (Fq_ret (Res1 rfl rfl) ?_)
  exact ⟨rfl, hF⟩

set_option maxRecDepth 20000 in
theorem oRnum_ok (g : Nat) (q : Option Nat) (t : RdM) (w : World) (hk : Eok q t) (hp : Hp w (rdH g q t))  :
    Fn Tryz.prog 63 [.pointer (some ⟨g, 0, none⟩)] w fun v w' => v = .int .u64 (rnum_m t).1 ∧ RdTo g q t (rnum_m t).2 w w' := by
  refine Fn_of 5 Ty.en_63 Tryz.func63 rfl rfl rfl ?_
  dsimp only [argEnv]
  have hp : Hp w [(_, Cl [_, _, _] _), (_, Cl [_, _] _)] := hp
  have hF := Fr.refl (keys (rdH g q t)) w
  refine Wp_seq fun K1 hK1 => ?_
  refine Wp_region ?_
  refine Ls_y (wtd0 rfl) rfl rfl (y_assign rfl rfl) ?_
  refine Ls_nil (Th_n (hK1 _ _ ?_))
  refine Wp_seq fun K2 hK2 => ?_
  refine Wp_region ?_
  refine Ls_y (wtd0 rfl) rfl rfl (y_move rfl rfl) ?_
  refine Ls_a (wtd0 rfl) ?_
  refine a_call rfl rfl rfl rfl (onext_ok g q t _ 85 [] every_m (fun w u => every_ok w u) hk (hp.picks [0, 1] (by decide))) (fun v w2 ⟨hv, q2, hk2, hM⟩ => ?_)
  subst hv
  have hp : Hp w2 [(_, Cl [_, _, _] _), (_, Cl [_, _] _)] := hp.call [] [0, 1] (by decide) rfl hM
  have hF := hF.step hM.fr (fun y hy => .inl hy)
  refine Ls_y (wtd0 rfl) rfl rfl (y_assign rfl rfl) ?_
  refine Ls_nil (Th_n (hK2 _ _ ?_))
  refine Wp_ret (Fq_ret (Res1 rfl rfl) ?_)
  rw [← next_rnum hk.1]
  exact ⟨rfl, q2, hk2, hF, hp, hM.nw⟩

set_option maxRecDepth 20000 in
theorem oRint_ok (g : Nat) (q : Option Nat) (t : RdM) (w : World) (hk : Eok q t) (hp : Hp w (rdH g q t)) (m : Int) (hm : m < 9223372036854775808) :
    Fn Tryz.prog 34 [.pointer (some ⟨g, 0, none⟩), .int .i64 m] w fun v w' => v = .int .i64 (rint_m t m).1 ∧ RdTo g q t (rint_m t m).2 w w' := by
  refine Fn_of 10 Ty.en_34 Tryz.func34 rfl rfl rfl ?_
  dsimp only [argEnv]
  have hp : Hp w [(_, Cl [_, _, _] _), (_, Cl [_, _] _)] := hp
  have hF := Fr.refl (keys (rdH g q t)) w
  refine Wp_seq fun K1 hK1 => ?_
  refine Wp_region ?_
  refine Ls_y (wtd0 rfl) rfl rfl (y_assign rfl rfl) ?_
  refine Ls_nil (Th_n (hK1 _ _ ?_))
  refine Wp_seq fun K2 hK2 => ?_
  refine Wp_region ?_
  refine Ls_y (wtd0 rfl) rfl rfl (y_move rfl rfl) ?_
  refine Ls_y (wtd0 rfl) rfl rfl (y_move rfl rfl) ?_
  refine Ls_y (wtd0 rfl) rfl rfl (y_mkfn (fs := [_]) (cs := []) rfl rfl rfl) ?_
  refine Ls_a (wtd0 rfl) ?_
  refine a_call rfl rfl rfl rfl (onext_ok g q t _ 61 [.int .i64 m] (oright_m m) (fun w u => oright_ok w m u) hk (hp.picks [0, 1] (by decide))) (fun v w2 ⟨hv, q2, hk2, hM⟩ => ?_)
  subst hv
  have hp : Hp w2 [(_, Cl [_, _, _] _), (_, Cl [_, _] _)] := hp.call [] [0, 1] (by decide) rfl hM
  have hF := hF.step hM.fr (fun y hy => .inl hy)
  refine Ls_y (wtd0 rfl) rfl rfl (y_cvi rfl rfl Tryz.underlying72 Tryz.underlying3 rfl) ?_
  refine Ls_y (wtd0 rfl) rfl rfl (y_assign rfl rfl) ?_
  refine Ls_nil (Th_n (hK2 _ _ ?_))
  refine Wp_ret (Fq_ret (Res1 rfl rfl) ?_)
  rw [← next_rint hk.1 hm]
  exact ⟨rfl, q2, hk2, hF, hp, hM.nw⟩

set_option maxRecDepth 20000 in
theorem oRtext_ok (g : Nat) (q : Option Nat) (t : RdM) (w : World) (hk : Eok q t) (hp : Hp w (rdH g q t)) (m : Int) (hm : m < 9223372036854775808) :
    Fn Tryz.prog 35 [.pointer (some ⟨g, 0, none⟩), .int .i64 m] w fun v w' => v = sv (rtext_m t m).1 ∧ RdTo g q t (rtext_m t m).2 w w' := by
  refine Fn_of 54 Ty.en_35 Tryz.func35 rfl rfl rfl ?_
  dsimp only [argEnv]
  have hp : Hp w [(_, Cl [_, _, _] _), (_, Cl [_, _] _)] := hp
  have hF := Fr.refl (keys (rdH g q t)) w
  have hgX : g ∈ keys (rdH g q t) := by simp [keys, rdH]
  have hb := hk.1.b
  have hv0 := rint_v hk.1 hm
  have hcc := rtext_c1_iff t m
  refine Wp_seq fun K1 hK1 => ?_
  refine Wp_region ?_
  refine Ls_y (wtd0 rfl) rfl rfl (y_assign rfl rfl) ?_
  refine Ls_nil (Th_n (hK1 _ _ ?_))
  refine Wp_seq fun K2 hK2 => ?_
  refine Wp_region ?_
  refine Ls_y (wtd0 rfl) rfl rfl (y_move rfl rfl) ?_
  refine Ls_y (wtd0 rfl) rfl rfl (y_nil rfl rfl) ?_
  refine Ls_y (wtd0 rfl) rfl rfl (y_fld rfl rfl Ty.fo_83_1) ?_
  first
    | refine Ls_y (wtd0 rfl) rfl rfl (y_load (i := 0) rfl rfl Ty.pl_3 (fun _ e => e ▸ hp) rfl rfl) ?_
    | refine Ls_y (wtd0 rfl) rfl rfl (y_load (i := 1) rfl rfl Ty.pl_3 (fun _ e => e ▸ hp) rfl rfl) ?_
  refine Ls_y (wtd0 rfl) rfl rfl (y_assign rfl rfl) ?_
  refine Ls_nil (Th_n (hK2 _ _ ?_))
  refine Wp_seq fun K3 hK3 => ?_
  refine Wp_region ?_
  refine Ls_y (wtd0 rfl) rfl rfl (y_move rfl rfl) ?_
  refine Ls_y (wtd0 rfl) rfl rfl (y_move rfl rfl) ?_
  refine Ls_a (wtd0 rfl) ?_
  refine a_call rfl rfl rfl rfl (oRint_ok g q t _ hk (hp.picks [0, 1] (by decide)) m hm) (fun v w2 ⟨hv, q2, hk2, hM⟩ => ?_)
  subst hv
  have hp : Hp w2 [(_, Cl [_, _, _] _), (_, Cl [_, _] _)] := hp.call [] [0, 1] (by decide) rfl hM
  have hF := hF.step hM.fr (fun y hy => .inl hy)
  have hb2 := hk2.1.b
  have hM2 := hM
  refine Ls_y (wtd0 rfl) rfl rfl (y_assign rfl rfl) ?_
  refine Ls_nil (Th_n (hK3 _ _ ?_))
  refine Wp_seq fun K4 hK4 => ?_
  refine Wp_seq fun K5 hK5 => ?_
  refine Wp_region ?_
  refine Ls_y (wtd0 rfl) rfl rfl (y_move rfl rfl) ?_
  refine Ls_y (wtd0 rfl) rfl rfl (y_nil rfl rfl) ?_
  refine Ls_y (wtd0 rfl) rfl rfl (y_fld rfl rfl Ty.fo_83_2) ?_
  first
    | refine Ls_y (wtd0 rfl) rfl rfl (y_load (i := 0) rfl rfl Ty.pl_65 (fun _ e => e ▸ hp) rfl rfl) ?_
    | refine Ls_y (wtd0 rfl) rfl rfl (y_load (i := 1) rfl rfl Ty.pl_65 (fun _ e => e ▸ hp) rfl rfl) ?_
  refine Ls_y (wtd0 rfl) rfl rfl (y_neE rfl rfl Tryz.underlying65 hk2.2) ?_
  refine Ls_bool 19 rfl (fun hc1 => ?_) (fun hc1 => ?_)
  all_goals try simp only [decide_eq_true_eq, decide_eq_false_iff_not, beq_iff_eq, bne_iff_ne, ne_eq, beq_eq_false_iff_ne, bne_eq_false_iff_eq, Bool.not_eq_true, Bool.not_eq_false] at hc1
  · refine Ls_nil (Th_n (hK5 _ _ ?_))
    refine Wp_cond_t rfl ?_
    refine Wp_seq fun K6 hK6 => ?_
    refine Wp_region ?_
    refine Ls_y (wtd0 rfl) rfl rfl (y_assign rfl rfl) ?_
    refine Ls_nil (Th_n (hK6 _ _ ?_))
    refine Wp_ret (Th_r (Fq_ret (Res1 rfl rfl) ?_))
    have h1 : ¬ (rint_m t m).2.f.e = 0 := by simpa using hc1
    have e1 : rtext_m t m = ([], (rint_m t m).2) := by unfold rtext_m; rw [if_neg (fun h => h1 (hcc.1 h).1), if_neg h1]
    rw [e1]
    exact ⟨rfl, q2, hk2, hF, hp, hM2.nw⟩
  · refine Ls_nil (Th_n (hK5 _ _ ?_))
    have h1 : (rint_m t m).2.f.e = 0 := by simpa using hc1
    refine Wp_cond_f rfl ?_
    refine Wp_skip (Th_n (hK4 _ _ ?_))
    refine Wp_seq fun K7 hK7 => ?_
    refine Wp_seq fun K8 hK8 => ?_
    refine Wp_region ?_
    refine Ls_y (wtd0 rfl) rfl rfl (y_move rfl rfl) ?_
    refine Ls_y (wtd0 rfl) rfl rfl (y_move rfl rfl) ?_
    refine Ls_a (wtd0 rfl) ?_
    refine a_call rfl rfl rfl rfl (oleft_ok g q2 (rint_m t m).2 _ hk2 hp) (fun v w3 ⟨hv, hf⟩ => ?_)
    subst hv
    have hp := hp.keep0 hf
    have hF := hF.step0 hf
    refine Ls_y (wtd0 rfl) rfl rfl (y_gt rfl rfl rfl) ?_
    refine Ls_bool 23 rfl (fun hc2 => ?_) (fun hc2 => ?_)
    all_goals try simp only [decide_eq_true_eq, decide_eq_false_iff_not, beq_iff_eq, bne_iff_ne, ne_eq, beq_eq_false_iff_ne, bne_eq_false_iff_eq, Bool.not_eq_true, Bool.not_eq_false] at hc2
    · refine Ls_nil (Th_n (hK8 _ _ ?_))
      refine Wp_cond_t rfl ?_
      refine Wp_seq fun K9 hK9 => ?_
      refine Wp_region ?_
      refine Ls_y (wtd0 rfl) rfl rfl (y_move rfl rfl) ?_
      refine Ls_y (wtd0 rfl) rfl rfl (y_move rfl rfl) ?_
      refine Ls_y (wtd0 rfl) rfl rfl (y_nil rfl rfl) ?_
      refine Ls_y (wtd0 rfl) rfl rfl (y_fld rfl rfl Ty.fo_83_1) ?_
      refine Ls_a (wtd0 rfl) ?_
      first
        | refine a_store (i := 0) rfl rfl rfl rfl rfl Ty.sz_3 rfl hp rfl (by first | decide | (simp; done) | (simp; omega)) (fun w1 (hp : Hp w1 [(_, Cl [_, _, _] _), (_, Cl [_, _] _)]) hf _ => ?_)
        | refine a_store (i := 1) rfl rfl rfl rfl rfl Ty.sz_3 rfl hp rfl (by first | decide | (simp; done) | (simp; omega)) (fun w1 (hp : Hp w1 [(_, Cl [_, _, _] _), (_, Cl [_, _] _)]) hf _ => ?_)
      have hF := hF.step hf (by intro y hy; simp only [List.mem_cons, List.not_mem_nil, or_false] at hy; subst hy; first | (exact Or.inr (by omega)) | (exact Or.inl (by simp)) | (exact Or.inl hgX))
      refine Ls_nil (Th_n (hK9 _ _ ?_))
      refine Wp_seq fun K10 hK10 => ?_
      refine Wp_region ?_
      refine Ls_y (wtd0 rfl) rfl rfl (y_move rfl rfl) ?_
      refine Ls_a (wtd0 rfl) ?_
      refine a_call rfl rfl rfl rfl (ofail_ok g q2 ⟨(rint_m t m).2.s, t.a, (rint_m t m).2.f⟩ 1 _ ⟨rint_back hk.1 hm, hk2.2⟩ (hp.picks [0, 1] (by decide))) (fun v w5 ⟨hv, q3, hk3, hM⟩ => ?_)
      subst hv
      have hF1 := hF
      have hp : Hp w5 [(_, Cl [_, _, _] _), (_, Cl [_, _] _)] := hp.call [] [0, 1] (by decide) rfl hM
      have hF := hF.step hM.fr (hM2.nw)
      refine Ls_nil (Th_n (hK10 _ _ ?_))
      refine Wp_seq fun K11 hK11 => ?_
      refine Wp_region ?_
      refine Ls_y (wtd0 rfl) rfl rfl (y_assign rfl rfl) ?_
      refine Ls_nil (Th_n (hK11 _ _ ?_))
      refine Wp_ret (Th_r (Fq_ret (Res1 rfl rfl) ?_))
      have e1 : rtext_m t m = ([], rfail_m ⟨(rint_m t m).2.s, t.a, (rint_m t m).2.f⟩ 1) := by unfold rtext_m; rw [if_pos (hcc.2 ⟨h1, hc2⟩)]
      rw [e1]
      exact ⟨rfl, q3, hk3, hF, hp, fun k hk => (hM.nw k hk).elim (hM2.nw k) (fun h => .inr (Nat.le_trans hF1.size h))⟩
    · refine Ls_nil (Th_n (hK8 _ _ ?_))
      refine Wp_cond_f rfl ?_
      refine Wp_skip (Th_n (hK7 _ _ ?_))
      refine Wp_seq fun K12 hK12 => ?_
      refine Wp_plan (fun W => Hp W (heapOf hp)) [(true, 0), (true, 1), (true, 2), (true, 3), (true, 4), (true, 5), (true, 6), (true, 7), (true, 8), (true, 9), (true, 10), (true, 11), (true, 12), (true, 13), (true, 14), (true, 15)] Ty.mx_0 (by kernel_rfl) (by kernel_rfl) rfl (hp.drew) ?_
      have hp := hp.drew
      have hF := hF.step0 (Fr.drew _)
      refine Pl_y rfl (wtd0 rfl) rfl rfl (y_move rfl rfl) ?_
      refine Pl_y rfl (wtd0 rfl) rfl rfl (y_nil rfl rfl) ?_
      refine Pl_y rfl (wtd0 rfl) rfl rfl (y_fld rfl rfl Ty.fo_83_0) ?_
      first
        | refine Pl_y rfl (wtd0 rfl) rfl rfl (y_load (i := 0) rfl rfl Ty.pl_9 (fun _ h => h) rfl rfl) ?_
        | refine Pl_y rfl (wtd0 rfl) rfl rfl (y_load (i := 1) rfl rfl Ty.pl_9 (fun _ h => h) rfl rfl) ?_
      refine Pl_y rfl (wtd0 rfl) rfl rfl (y_move rfl rfl) ?_
      refine Pl_y rfl (wtd0 rfl) rfl rfl (y_nil rfl rfl) ?_
      refine Pl_y rfl (wtd0 rfl) rfl rfl (y_fld rfl rfl Ty.fo_83_1) ?_
      first
        | refine Pl_y rfl (wtd0 rfl) rfl rfl (y_load (i := 0) rfl rfl Ty.pl_3 (fun _ h => h) rfl rfl) ?_
        | refine Pl_y rfl (wtd0 rfl) rfl rfl (y_load (i := 1) rfl rfl Ty.pl_3 (fun _ h => h) rfl rfl) ?_
      refine Pl_y rfl (wtd0 rfl) rfl rfl (y_move rfl rfl) ?_
      refine Pl_y rfl (wtd0 rfl) rfl rfl (y_nil rfl rfl) ?_
      refine Pl_y rfl (wtd0 rfl) rfl rfl (y_fld rfl rfl Ty.fo_83_1) ?_
      first
        | refine Pl_y rfl (wtd0 rfl) rfl rfl (y_load (i := 0) rfl rfl Ty.pl_3 (fun _ h => h) rfl rfl) ?_
        | refine Pl_y rfl (wtd0 rfl) rfl rfl (y_load (i := 1) rfl rfl Ty.pl_3 (fun _ h => h) rfl rfl) ?_
      refine Pl_y rfl (wtd0 rfl) rfl rfl (y_move rfl rfl) ?_
      first
        | refine Pl_y rfl (wtd0 rfl) rfl rfl (y_add rfl rfl rfl (w_addN (by first | omega | (simp; omega)))) ?_
        | refine Pl_y rfl (wtd0 rfl) rfl rfl (y_add rfl rfl rfl (wf_i64 (by omega))) ?_
        | refine Pl_y rfl (wtd0 rfl) rfl rfl (y_add rfl rfl rfl rfl) ?_
      refine Pl_y rfl (wtd0 rfl) rfl rfl (y_cuts (p := (rint_m t m).2.a) (q := (rint_m t m).2.a + (rint_m t m).1) rfl rfl Tryz.underlying9 rfl rfl (by omega) (by omega) (by omega)) ?_
      refine Pl_y rfl (wtd0 rfl) rfl rfl (y_assign rfl rfl) ?_
      refine Pl_nil (Th_n (hK12 _ _ ?_))
      refine Wp_seq fun K13 hK13 => ?_
      refine Wp_region ?_
      refine Ls_y (wtd0 rfl) rfl rfl (y_move rfl rfl) ?_
      refine Ls_y (wtd0 rfl) rfl rfl (y_nil rfl rfl) ?_
      refine Ls_y (wtd0 rfl) rfl rfl (y_fld rfl rfl Ty.fo_83_1) ?_
      first
        | refine Ls_y (wtd0 rfl) rfl rfl (y_load (i := 0) rfl rfl Ty.pl_3 (fun _ e => e ▸ hp) rfl rfl) ?_
        | refine Ls_y (wtd0 rfl) rfl rfl (y_load (i := 1) rfl rfl Ty.pl_3 (fun _ e => e ▸ hp) rfl rfl) ?_
      refine Ls_y (wtd0 rfl) rfl rfl (y_move rfl rfl) ?_
      first
        | refine Ls_y (wtd0 rfl) rfl rfl (y_add rfl rfl rfl (w_addN (by first | omega | (simp; omega)))) ?_
        | refine Ls_y (wtd0 rfl) rfl rfl (y_add rfl rfl rfl (wf_i64 (by omega))) ?_
        | refine Ls_y (wtd0 rfl) rfl rfl (y_add rfl rfl rfl rfl) ?_
      refine Ls_y (wtd0 rfl) rfl rfl (y_nil rfl rfl) ?_
      refine Ls_y (wtd0 rfl) rfl rfl (y_fld rfl rfl Ty.fo_83_1) ?_
      refine Ls_a (wtd0 rfl) ?_
      first
        | refine a_store (i := 0) rfl rfl rfl rfl rfl Ty.sz_3 rfl hp rfl (by first | decide | (simp; done) | (simp; omega)) (fun w1 (hp : Hp w1 [(_, Cl [_, _, _] _), (_, Cl [_, _] _)]) hf _ => ?_)
        | refine a_store (i := 1) rfl rfl rfl rfl rfl Ty.sz_3 rfl hp rfl (by first | decide | (simp; done) | (simp; omega)) (fun w1 (hp : Hp w1 [(_, Cl [_, _, _] _), (_, Cl [_, _] _)]) hf _ => ?_)
      have hF := hF.step hf (by intro y hy; simp only [List.mem_cons, List.not_mem_nil, or_false] at hy; subst hy; first | (exact Or.inr (by omega)) | (exact Or.inl (by simp)) | (exact Or.inl hgX))
      refine Ls_nil (Th_n (hK13 _ _ ?_))
      refine Wp_seq fun K14 hK14 => ?_
      refine Wp_region ?_
      refine Ls_y (wtd0 rfl) rfl rfl (y_move rfl rfl) ?_
      refine Ls_y (wtd0 rfl) rfl rfl (y_assign rfl rfl) ?_
      refine Ls_nil (Th_n (hK14 _ _ ?_))
      refine Wp_ret (Fq_ret (Res1 rfl rfl) ?_)
      have e1 : rtext_m t m = (((rint_m t m).2.s.take ((rint_m t m).2.a + (rint_m t m).1).toNat).drop (rint_m t m).2.a.toNat, ⟨(rint_m t m).2.s, (rint_m t m).2.a + (rint_m t m).1, (rint_m t m).2.f⟩) := by unfold rtext_m; rw [if_neg (fun h => hc2 (hcc.1 h).2), if_pos h1]
      have hr := rtext_rok (m := m) hk.1 hm
      rw [e1] at hr ⊢
      exact ⟨rfl, q2, ⟨hr, hk2.2⟩, hF, hp, hM2.nw⟩

end Go.Proofs.YtdgllcmlfblelaaGreatDoor

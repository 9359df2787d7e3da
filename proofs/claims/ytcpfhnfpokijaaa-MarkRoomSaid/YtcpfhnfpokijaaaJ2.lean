/- Walks printed by gen.py out of our own specifications: what the functions named below do. -/
import Derived.Test.YtcpfhnfpokijaaaJ1
set_option linter.unusedSimpArgs false
set_option linter.unusedVariables false
namespace Go.Proofs.Ytcpfhnfpokijaaa
open Go.RowKit


theorem dk_mod {p : Dp} {D D' : Dk} {w w' : World} {X : List Nat} (hq : Hp w' (dkH p D')) (hF : Fr X w w') (hX : ∀ x ∈ X, x ∈ [p.gd, p.gn, p.gl]) : Mod w w' (dkH p D) (dkH p D') := ⟨hF.mono hX, hq, fun _ hk => .inl hk⟩
theorem dwrite_m (p : Dp) (D : Dk) (w : World) (hp : Hp w (dkH p D)) (hD : DkOk D) (i : Int) (s : List UInt8) :
    Fn Try.prog 30 [.pointer (some ⟨p.gd, 0, none⟩), .int .i64 i, sv s] w fun v w' => v = .int .i64 (writeE D i s) ∧ Mod w w' (dkH p D) (dkH p (writeD D i s)) :=
  (dwrite_ok p D w hp hD i s).mono fun _ _ h => ⟨h.1, dk_mod h.2.1 h.2.2 (by simp)⟩
theorem dsync_m (p : Dp) (D : Dk) (w : World) (hp : Hp w (dkH p D)) (hD : DkOk D) :
    Fn Try.prog 33 [.pointer (some ⟨p.gd, 0, none⟩)] w fun v w' => v = .int .i64 (syncE D) ∧ Mod w w' (dkH p D) (dkH p (syncD D)) :=
  (dsync_ok p D w hp hD).mono fun _ _ h => ⟨h.1, dk_mod h.2.1 h.2.2 (by simp)⟩
theorem jmod {gj : Nat} {p : Dp} {D D' : Dk} {J J' : Jn} {w w' : World} (hF : Fr [p.gd, p.gn, p.gl, gj] w w') (hp : Hp w' (jH gj p D' J')) : Mod w w' (jH gj p D J) (jH gj p D' J') := ⟨hF, hp, fun _ hk => .inl hk⟩
/-- The power is on, and will be. -/
structure Calm (D : Dk) : Prop where
  ok : DkOk D
  arm : D.armed = false
  down : D.down = false
theorem Calm.syncE {D : Dk} (h : Calm D) : syncE D = 0 := by unfold Go.Proofs.Ytcpfhnfpokijaaa.syncE stepD; simp [h.arm, h.down]
theorem stepD_calm {D : Dk} (h : D.armed = false) : stepD D = D := by unfold stepD; rw [if_neg (by simp [h])]
theorem Calm.syncD {D : Dk} (h : Calm D) : syncD D = { D with lasts := D.now } := by unfold Go.Proofs.Ytcpfhnfpokijaaa.syncD; simp [stepD_calm h.arm, h.down]
theorem Calm.sync {D : Dk} (h : Calm D) : Calm (Go.Proofs.Ytcpfhnfpokijaaa.syncD D) := ⟨syncD_ok h.ok, by rw [h.syncD]; exact h.arm, by rw [h.syncD]; exact h.down⟩
theorem Calm.write {D : Dk} (h : Calm D) {i : Nat} (hi : i < D.now.length) {s : List UInt8} (hs : s.length ≤ 64) : writeE D (i : Int) s = 0 ∧ writeD D (i : Int) s = { D with now := D.now.set i (pad64 s) } ∧ Calm (writeD D (i : Int) s) := by
  have hc : chkD D (i : Int) = 0 := by unfold chkD; rw [if_neg (by simp [h.down]), if_neg (by omega)]
  have e2 : writeD D (i : Int) s = { D with now := D.now.set i (pad64 s) } := by
    unfold writeD
    rw [if_neg (by simp [hc]), if_neg (by omega), stepD_calm h.arm, if_neg (by simp [h.down])]
    simp
  refine ⟨?_, e2, writeD_ok h.ok _ _, by rw [e2]; exact h.arm, by rw [e2]; exact h.down⟩
  unfold writeE
  rw [if_neg (by simp [hc]), if_neg (by omega), stepD_calm h.arm, if_neg (by simp [h.down])]

set_option maxRecDepth 20000 in
theorem jsync_ok (gj : Nat) (p : Dp) (D : Dk) (J : Jn) (w : World) (hp : Hp w (jH gj p D J)) (hD : Calm D) (ho : J.over = false) :
    Fn Try.prog 14 [.pointer (some ⟨gj, 0, none⟩)] w fun v w' => v = .int .i64 0 ∧ Mod w w' (jH gj p D J) (jH gj p (syncD D) { J with lasts := J.next }) := by
  refine Fn_of 25 Ty.en_14 Try.func14 rfl rfl rfl ?_
  dsimp only [argEnv]
  have hp : Hp w [(_, Cl [_, _, _, _, _] _), _, _, (_, Cl [_, _, _, _, _, _, _, _, _] _)] := hp
  have hF := Fr.refl [p.gd, p.gn, p.gl, gj] w
  refine Wp_seq fun K1 hK1 => ?_
  refine Wp_region ?_
  refine Ls_y (wtd0 rfl) rfl rfl (y_assign rfl rfl) ?_
  refine Ls_nil (Th_n (hK1 _ _ ?_))
  refine Wp_seq fun K2 hK2 => ?_
  refine Wp_seq fun K3 hK3 => ?_
  refine Wp_region ?_
  refine Ls_y (wtd0 rfl) rfl rfl (y_move rfl rfl) ?_
  refine Ls_y (wtd0 rfl) rfl rfl (y_nil rfl rfl) ?_
  refine Ls_y (wtd0 rfl) rfl rfl (y_fld rfl rfl Ty.fo_53_8) ?_
  first
    | refine Ls_y (wtd0 rfl) rfl rfl (y_load (i := 0) rfl rfl Ty.pl_4 (fun _ e => e ▸ hp) rfl rfl) ?_
    | refine Ls_y (wtd0 rfl) rfl rfl (y_load (i := 1) rfl rfl Ty.pl_4 (fun _ e => e ▸ hp) rfl rfl) ?_
    | refine Ls_y (wtd0 rfl) rfl rfl (y_load (i := 2) rfl rfl Ty.pl_4 (fun _ e => e ▸ hp) rfl rfl) ?_
    | refine Ls_y (wtd0 rfl) rfl rfl (y_load (i := 3) rfl rfl Ty.pl_4 (fun _ e => e ▸ hp) rfl rfl) ?_
  refine Ls_nil (Th_n (hK3 _ _ ?_))
  refine Wp_bool 7 rfl (fun hc1 => absurd hc1 (by simp [ho])) (fun _ => ?_)
  refine Wp_cond_f rfl ?_
  refine Wp_skip (Th_n (hK2 _ _ ?_))
  refine Wp_seq fun K4 hK4 => ?_
  refine Wp_seq fun K5 hK5 => ?_
  refine Wp_region ?_
  refine Ls_y (wtd0 rfl) rfl rfl (y_move rfl rfl) ?_
  refine Ls_y (wtd0 rfl) rfl rfl (y_move rfl rfl) ?_
  refine Ls_y (wtd0 rfl) rfl rfl (y_nil rfl rfl) ?_
  refine Ls_y (wtd0 rfl) rfl rfl (y_fld rfl rfl Ty.fo_53_0) ?_
  first
    | refine Ls_y (wtd0 rfl) rfl rfl (y_load (i := 0) rfl rfl Ty.pl_25 (fun _ e => e ▸ hp) rfl rfl) ?_
    | refine Ls_y (wtd0 rfl) rfl rfl (y_load (i := 1) rfl rfl Ty.pl_25 (fun _ e => e ▸ hp) rfl rfl) ?_
    | refine Ls_y (wtd0 rfl) rfl rfl (y_load (i := 2) rfl rfl Ty.pl_25 (fun _ e => e ▸ hp) rfl rfl) ?_
    | refine Ls_y (wtd0 rfl) rfl rfl (y_load (i := 3) rfl rfl Ty.pl_25 (fun _ e => e ▸ hp) rfl rfl) ?_
  refine Ls_a (wtd0 rfl) ?_
  refine a_call rfl rfl rfl rfl (dsync_m p D _ (hp.picks [0, 1, 2] (by decide)) hD.ok) (fun v w2 ⟨hv, hM⟩ => ?_)
  rw [hD.syncE] at hv
  subst hv
  have hp : Hp w2 [(_, Cl [_, _, _, _, _, _, _, _, _] _), (_, Cl [_, _, _, _, _] _), _, _] := hp.call [3] [0, 1, 2] (by decide) rfl hM
  have hF := hF.step hM.fr (by simp [keys, dkH])
  refine Ls_a (wtd0 rfl) ?_
  refine a_call rfl rfl rfl rfl (jfails_ok gj p.gd J _ (hp.picks [0] (by decide)) ho) (fun v w3 ⟨hv, hM⟩ => ?_)
  subst hv
  have hp : Hp w3 [(_, Cl [_, _, _, _, _] _), _, _, (_, Cl [_, _, _, _, _, _, _, _, _] _)] := hp.call [1, 2, 3] [0] (by decide) rfl hM
  have hF := hF.step hM.fr (by simp [keys])
  refine Ls_y (wtd0 rfl) rfl rfl (y_assign rfl rfl) ?_
  refine Ls_nil (Th_n (hK5 _ _ ?_))
  refine Wp_seq fun K6 hK6 => ?_
  refine Wp_region ?_
  refine Ls_y (wtd0 rfl) rfl rfl (y_move rfl rfl) ?_
  refine Ls_y (wtd0 rfl) rfl rfl (y_neF rfl rfl rfl (by omega)) ?_
  refine Ls_nil (Th_n (hK6 _ _ ?_))
  refine Wp_cond_f rfl ?_
  refine Wp_skip (Th_n (hK4 _ _ ?_))
  refine Wp_seq fun K7 hK7 => ?_
  refine Wp_region ?_
  refine Ls_y (wtd0 rfl) rfl rfl (y_move rfl rfl) ?_
  refine Ls_y (wtd0 rfl) rfl rfl (y_move rfl rfl) ?_
  refine Ls_y (wtd0 rfl) rfl rfl (y_nil rfl rfl) ?_
  refine Ls_y (wtd0 rfl) rfl rfl (y_fld rfl rfl Ty.fo_53_6) ?_
  first
    | refine Ls_y (wtd0 rfl) rfl rfl (y_load (i := 0) rfl rfl Ty.pl_32 (fun _ e => e ▸ hp) rfl rfl) ?_
    | refine Ls_y (wtd0 rfl) rfl rfl (y_load (i := 1) rfl rfl Ty.pl_32 (fun _ e => e ▸ hp) rfl rfl) ?_
    | refine Ls_y (wtd0 rfl) rfl rfl (y_load (i := 2) rfl rfl Ty.pl_32 (fun _ e => e ▸ hp) rfl rfl) ?_
    | refine Ls_y (wtd0 rfl) rfl rfl (y_load (i := 3) rfl rfl Ty.pl_32 (fun _ e => e ▸ hp) rfl rfl) ?_
  refine Ls_y (wtd0 rfl) rfl rfl (y_nil rfl rfl) ?_
  refine Ls_y (wtd0 rfl) rfl rfl (y_fld rfl rfl Ty.fo_53_7) ?_
  refine Ls_a (wtd0 rfl) ?_
  first
    | refine a_store (i := 0) rfl rfl rfl rfl rfl Ty.sz_32 rfl hp rfl (by first | decide | (simp; done) | (simp; omega)) (fun w1 (hp : Hp w1 [(_, Cl [_, _, _, _, _] _), _, _, (_, Cl [_, _, _, _, _, _, _, _, _] _)]) hf _ => ?_)
    | refine a_store (i := 1) rfl rfl rfl rfl rfl Ty.sz_32 rfl hp rfl (by first | decide | (simp; done) | (simp; omega)) (fun w1 (hp : Hp w1 [(_, Cl [_, _, _, _, _] _), _, _, (_, Cl [_, _, _, _, _, _, _, _, _] _)]) hf _ => ?_)
    | refine a_store (i := 2) rfl rfl rfl rfl rfl Ty.sz_32 rfl hp rfl (by first | decide | (simp; done) | (simp; omega)) (fun w1 (hp : Hp w1 [(_, Cl [_, _, _, _, _] _), _, _, (_, Cl [_, _, _, _, _, _, _, _, _] _)]) hf _ => ?_)
    | refine a_store (i := 3) rfl rfl rfl rfl rfl Ty.sz_32 rfl hp rfl (by first | decide | (simp; done) | (simp; omega)) (fun w1 (hp : Hp w1 [(_, Cl [_, _, _, _, _] _), _, _, (_, Cl [_, _, _, _, _, _, _, _, _] _)]) hf _ => ?_)
  have hF := hF.step hf (by intro y hy; simp only [List.mem_cons, List.not_mem_nil, or_false] at hy; subst hy; first | (exact Or.inr (by omega)) | (exact Or.inl (by simp)))
  refine Ls_nil (Th_n (hK7 _ _ ?_))
  refine Wp_seq fun K8 hK8 => ?_
  refine Wp_region ?_
  refine Ls_y (wtd0 rfl) rfl rfl (y_assign rfl rfl) ?_
  refine Ls_nil (Th_n (hK8 _ _ ?_))
  refine Wp_ret (Fq_ret (Res1 rfl rfl) ?_)
  exact ⟨rfl, jmod hF (hp.picks [0, 1, 2, 3] (by decide))⟩

set_option maxRecDepth 20000 in
theorem jcut_ok (gj gd : Nat) (J : Jn) (w : World) (hp : Hp w [(some gj, Cl (jC gd J) 53)]) (q : Int) (hq : 0 ≤ q) :
    Fn Try.prog 15 [.pointer (some ⟨gj, 0, none⟩), .int .u32 q] w fun v w' => v = .int .i64 (if q < (J.head : Int) ∨ (J.lasts : Int) < q then 2 else 0) ∧ (∃ J', J'.lasts = J.lasts ∧ Mod w w' [(some gj, Cl (jC gd J) 53)] [(some gj, Cl (jC gd J') 53)]) := by
  refine Fn_of 23 Ty.en_15 Try.func15 rfl rfl rfl ?_
  dsimp only [argEnv]
  have hp : Hp w [(_, Cl [_, _, _, _, _, _, _, _, _] _)] := hp
  have hF := Fr.refl [gj] w
  refine Wp_seq fun K1 hK1 => ?_
  refine Wp_region ?_
  refine Ls_y (wtd0 rfl) rfl rfl (y_assign rfl rfl) ?_
  refine Ls_nil (Th_n (hK1 _ _ ?_))
  refine Wp_seq fun K2 hK2 => ?_
  refine Wp_seq fun K3 hK3 => ?_
  refine Wp_region ?_
  refine Ls_y (wtd0 rfl) rfl rfl (y_move rfl rfl) ?_
  refine Ls_y (wtd0 rfl) rfl rfl (y_move rfl rfl) ?_
  refine Ls_y (wtd0 rfl) rfl rfl (y_nil rfl rfl) ?_
  refine Ls_y (wtd0 rfl) rfl rfl (y_fld rfl rfl Ty.fo_53_5) ?_
  refine Ls_y (wtd0 rfl) rfl rfl (y_load (i := 0) rfl rfl Ty.pl_32 (fun _ e => e ▸ hp) rfl rfl) ?_
  refine Ls_y (wtd0 rfl) rfl rfl (y_lt rfl rfl rfl) ?_
  refine Ls_bool 10 rfl (fun hc1 => ?_) (fun hc1 => ?_)
  all_goals try simp only [decide_eq_true_eq, decide_eq_false_iff_not, beq_iff_eq, bne_iff_ne, ne_eq, beq_eq_false_iff_ne, bne_eq_false_iff_eq, Bool.not_eq_true, Bool.not_eq_false] at hc1
  · refine Ls_y (wtd0 rfl) rfl rfl (y_move rfl rfl) ?_
    refine Ls_s (wtdF rfl rfl rfl) rfl rfl ?_
    refine Ls_s (wtdF rfl rfl rfl) rfl rfl ?_
    refine Ls_s (wtdF rfl rfl rfl) rfl rfl ?_
    refine Ls_s (wtdF rfl rfl rfl) rfl rfl ?_
    refine Ls_s (wtdF rfl rfl rfl) rfl rfl ?_
    refine Ls_s (wtdF rfl rfl rfl) rfl rfl ?_
    refine Ls_y (wtd0 rfl) rfl rfl (y_pick_t rfl rfl rfl) ?_
    refine Ls_nil (Th_n (hK3 _ _ ?_))
    refine Wp_cond_t rfl ?_
    refine Wp_seq fun K4 hK4 => ?_
    refine Wp_region ?_
    refine Ls_y (wtd0 rfl) rfl rfl (y_assign rfl rfl) ?_
    refine Ls_nil (Th_n (hK4 _ _ ?_))
    refine Wp_ret (Th_r (Fq_ret (Res1 rfl rfl) ?_))
    exact ⟨by rw [if_pos (.inl hc1)], J, rfl, ⟨hF, hp, fun _ h => .inl h⟩⟩
  · refine Ls_y (wtd0 rfl) rfl rfl (y_move rfl rfl) ?_
    refine Ls_y (wtdT rfl rfl rfl) rfl rfl (y_move rfl rfl) ?_
    refine Ls_y (wtdT rfl rfl rfl) rfl rfl (y_move rfl rfl) ?_
    refine Ls_y (wtdT rfl rfl rfl) rfl rfl (y_nil rfl rfl) ?_
    refine Ls_y (wtdT rfl rfl rfl) rfl rfl (y_fld rfl rfl Ty.fo_53_7) ?_
    refine Ls_y (wtdT rfl rfl rfl) rfl rfl (y_load (i := 0) rfl rfl Ty.pl_32 (fun _ e => e ▸ hp) rfl rfl) ?_
    refine Ls_y (wtdT rfl rfl rfl) rfl rfl (y_gt rfl rfl rfl) ?_
    refine Ls_bool 17 rfl (fun hc2 => ?_) (fun hc2 => ?_)
    all_goals try simp only [decide_eq_true_eq, decide_eq_false_iff_not, beq_iff_eq, bne_iff_ne, ne_eq, beq_eq_false_iff_ne, bne_eq_false_iff_eq, Bool.not_eq_true, Bool.not_eq_false] at hc2
    · refine Ls_y (wtd0 rfl) rfl rfl (y_pick_f rfl rfl rfl) ?_
      refine Ls_nil (Th_n (hK3 _ _ ?_))
      refine Wp_cond_t rfl ?_
      refine Wp_seq fun K5 hK5 => ?_
      refine Wp_region ?_
      refine Ls_y (wtd0 rfl) rfl rfl (y_assign rfl rfl) ?_
      refine Ls_nil (Th_n (hK5 _ _ ?_))
      refine Wp_ret (Th_r (Fq_ret (Res1 rfl rfl) ?_))
      exact ⟨by rw [if_pos (.inr hc2)], J, rfl, ⟨hF, hp, fun _ h => .inl h⟩⟩
    · obtain ⟨q, rfl⟩ := Int.eq_ofNat_of_zero_le hq
      refine Ls_y (wtd0 rfl) rfl rfl (y_pick_f rfl rfl rfl) ?_
      refine Ls_nil (Th_n (hK3 _ _ ?_))
      refine Wp_cond_f rfl ?_
      refine Wp_skip (Th_n (hK2 _ _ ?_))
      refine Wp_seq fun K6 hK6 => ?_
      refine Wp_region ?_
      refine Ls_y (wtd0 rfl) rfl rfl (y_move rfl rfl) ?_
      refine Ls_y (wtd0 rfl) rfl rfl (y_move rfl rfl) ?_
      refine Ls_y (wtd0 rfl) rfl rfl (y_nil rfl rfl) ?_
      refine Ls_y (wtd0 rfl) rfl rfl (y_fld rfl rfl Ty.fo_53_5) ?_
      refine Ls_a (wtd0 rfl) ?_
      refine a_store (i := 0) rfl rfl rfl rfl rfl Ty.sz_32 rfl hp rfl (by first | decide | (simp; done) | (simp; omega)) (fun w1 (hp : Hp w1 [(_, Cl [_, _, _, _, _, _, _, _, _] _)]) hf _ => ?_)
      have hF := hF.step hf (by intro y hy; simp only [List.mem_cons, List.not_mem_nil, or_false] at hy; subst hy; first | (exact Or.inr (by omega)) | (exact Or.inl (by simp)))
      refine Ls_nil (Th_n (hK6 _ _ ?_))
      refine Wp_seq fun K7 hK7 => ?_
      refine Wp_region ?_
      refine Ls_y (wtd0 rfl) rfl rfl (y_assign rfl rfl) ?_
      refine Ls_nil (Th_n (hK7 _ _ ?_))
      refine Wp_ret (Fq_ret (Res1 rfl rfl) ?_)
      exact ⟨by rw [if_neg (by omega)], { J with head := q }, rfl, ⟨hF, hp, fun _ h => .inl h⟩⟩

end Go.Proofs.Ytcpfhnfpokijaaa

/- Walks printed by gen2.py out of our own specifications: what the functions named below do. -/
import Derived.Test.YtdckemiebnfjcaaGreatDoorSc
import Derived.Test.YtdckemiebnfjcaaGreatDoorB7
section
set_option linter.unusedSimpArgs false
set_option linter.unusedVariables false
set_option maxRecDepth 20000
namespace Go.Proofs.YtdckemiebnfjcaaGreatDoor
open Go.RowKit
theorem y_cutsD [Dfs] {P : Program} {n : Nat} {env : Env} {S : World → Prop} {o : Oper} {t : Nat} {x : Operand} {lo : Option Operand} {s : List UInt8} {p : Int} (ho : o.op = .slice t x lo none none) (hx : env.ev x = some (sv s)) (ht : P.underlying t = some .string) (hlo : cutLo env lo = some p) (h0 : 0 ≤ p) (h1 : p ≤ s.length) : Yld P n env S o (sv (s.drop p.toNat)) := by
  have := y_cuts (P := P) (n := n) (S := S) ho hx ht hlo rfl h0 h1 (Int.le_refl _)
  simpa using this
theorem number_L1_inr (s : List UInt8) : ∀ (fuel : Nat) (a b : Int), 0 ≤ a ∧ a < 18446744073709551616 → ∃ c d, number_L1 s fuel a b = .inr (c, d) ∧ 0 ≤ c ∧ c < 18446744073709551616
  | 0, a, b, h => ⟨a, b, rfl, h⟩
  | fuel + 1, a, b, h => by
    rw [number_L1]
    split
    · exact number_L1_inr s fuel _ _ ⟨bits_lo_u64 _ _ _, Int.lt_of_le_of_lt (bits_hi_u64 _ _ _) (by decide)⟩
    · exact ⟨a, b, rfl, h⟩
theorem number_cases (s : List UInt8) : (∃ e, number_m s = (0, 0, e) ∧ (e = 1 ∨ e = 3)) ∨ (∃ v n, number_m s = (v, n, 0) ∧ 1 ≤ n ∧ n ≤ 9 ∧ n ≤ s.length ∧ 0 ≤ v ∧ v < 18446744073709551616) := by
  unfold number_m
  have hb := UInt8.toNat_lt (ix s 0)
  split
  · exact .inl ⟨1, rfl, .inl rfl⟩
  split
  · exact .inl ⟨3, rfl, .inr rfl⟩
  split
  · exact .inl ⟨1, rfl, .inl rfl⟩
  split
  · exact .inl ⟨3, rfl, .inr rfl⟩
  · obtain ⟨c, d, e, h1, h2⟩ := number_L1_inr s ((1 + ((ix s 0).toNat : Int) - (1 : Int)).toNat + 1) 0 1 (by decide)
    rw [e]
    exact .inr ⟨c, _, rfl, by omega, by omega, by omega, h1, h2⟩
def nextM (rt : Int → Int) (t : RdM) : Int × RdM :=
  if t.f.e = 0 then
    if (number_m (t.s.drop t.a.toNat)).2.2 = 0 then
      if rt (number_m (t.s.drop t.a.toNat)).1 = 0 then ((number_m (t.s.drop t.a.toNat)).1, ⟨t.s, t.a + (number_m (t.s.drop t.a.toNat)).2.1, t.f⟩)
      else (0, rfail_m t (rt (number_m (t.s.drop t.a.toNat)).1))
    else (0, rfail_m t (number_m (t.s.drop t.a.toNat)).2.2)
  else (0, t)
theorem nextM_rok {rt : Int → Int} {t : RdM} (h : Rok t) : Rok (nextM rt t).2 := by
  have hb := h.b
  unfold nextM
  split
  · split
    · rename_i h1
      split
      · rcases number_cases (t.s.drop t.a.toNat) with ⟨e, he, _⟩ | ⟨v, n, he, h2, h3, h4, _⟩
        · rw [he] at h1; simp only at h1; omega
        · rw [he]; rw [List.length_drop] at h4; exact ⟨by simp only; omega, by simp only; omega, h.2.2.1, h.2.2.2⟩
      · exact rfail_rok h
    · exact rfail_rok h
  · exact h
theorem onext_err (g : Nat) (t : RdM) (w : World) (q : Nat) (fv : Value) (hp : Hp w [(some g, Cl (rdC (some q) t) 110)])  :
    Fn Tryz.prog 70 [.pointer (some ⟨g, 0, none⟩), fv] w fun v w' => v = .int .u64 0 ∧ w' = w := by
  refine Fn_of 46 Ty.en_70 Tryz.func70 rfl rfl rfl ?_
  dsimp only [argEnv]
  have hp : Hp w [(_, Cl [_, _, _] _)] := hp
  have hF := Fr.refl [] w
  refine Wp_seq fun K1 hK1 => ?_
  refine Wp_region ?_
  refine Ls_y (wtd0 rfl) rfl rfl (y_assign rfl rfl) ?_
  refine Ls_nil (Th_n (hK1 _ _ ?_))
  refine Wp_seq fun K2 hK2 => ?_
  refine Wp_seq fun K3 hK3 => ?_
  refine Wp_region ?_
  refine Ls_y (wtd0 rfl) rfl rfl (y_move rfl rfl) ?_
  refine Ls_y (wtd0 rfl) rfl rfl (y_nil rfl rfl) ?_
  refine Ls_y (wtd0 rfl) rfl rfl (y_fld rfl rfl Ty.fo_110_2) ?_
  refine Ls_y (wtd0 rfl) rfl rfl (y_load (i := 0) rfl rfl Ty.pl_108 (fun _ e => e ▸ hp) rfl rfl) ?_
  refine Ls_y (wtd0 rfl) rfl rfl (y_neNil (b := false) rfl rfl Tryz.underlying108 (fun d w => run_eq_ifni Tryz.underlying108 d w) (fun w y => by cases y <;> rfl)) ?_
  refine Ls_nil (Th_n (hK3 _ _ ?_))
  refine Wp_cond_t rfl ?_
  refine Wp_seq fun K4 hK4 => ?_
  refine Wp_region ?_
  refine Ls_y (wtd0 rfl) rfl rfl (y_assign rfl rfl) ?_
  refine Ls_nil (Th_n (hK4 _ _ ?_))
  refine wR (Th_r (fR (Res1 rfl rfl) ?_))
  exact ⟨rfl, rfl⟩
theorem onext_bad (g : Nat) (t : RdM) (w : World) (f : Nat) (fi : List Value) (rt : Int → Int) (hp : Hp w [(some g, Cl (rdC none t) 110)]) (hr0 : Rok t) (he : ¬ (number_m (t.s.drop t.a.toNat)).2.2 = 0) :
    Fn Tryz.prog 70 [.pointer (some ⟨g, 0, none⟩), .func (.func f) fi.toArray #[]] w fun v w' => v = .int .u64 0 ∧ ∃ q', Mod w w' [(some g, Cl (rdC none t) 110)] (rdH g (some q') ⟨t.s, t.a, ⟨t.a, (number_m (t.s.drop t.a.toNat)).2.2⟩⟩) := by
  refine Fn_of 46 Ty.en_70 Tryz.func70 rfl rfl rfl ?_
  dsimp only [argEnv]
  have hp : Hp w [(_, Cl [_, _, _] _)] := hp
  have hF := Fr.refl [g] w
  have hb := hr0.b
  have hlen : (t.s.drop t.a.toNat).length ≤ 1000000 := by rw [List.length_drop]; omega
  have hnc := number_cases (t.s.drop t.a.toNat)
  refine Wp_seq fun K1 hK1 => ?_
  refine Wp_region ?_
  refine Ls_y (wtd0 rfl) rfl rfl (y_assign rfl rfl) ?_
  refine Ls_nil (Th_n (hK1 _ _ ?_))
  refine Wp_seq fun K2 hK2 => ?_
  refine Wp_seq fun K3 hK3 => ?_
  refine Wp_region ?_
  refine Ls_y (wtd0 rfl) rfl rfl (y_move rfl rfl) ?_
  refine Ls_y (wtd0 rfl) rfl rfl (y_nil rfl rfl) ?_
  refine Ls_y (wtd0 rfl) rfl rfl (y_fld rfl rfl Ty.fo_110_2) ?_
  refine Ls_y (wtd0 rfl) rfl rfl (y_load (i := 0) rfl rfl Ty.pl_108 (fun _ e => e ▸ hp) rfl rfl) ?_
  refine Ls_y (wtd0 rfl) rfl rfl (y_neNil (b := true) rfl rfl Tryz.underlying108 (fun d w => run_eq_nilii Tryz.underlying108 d w) (fun w y => by cases y <;> rfl)) ?_
  refine Ls_nil (Th_n (hK3 _ _ ?_))
  refine Wp_cond_f rfl ?_
  refine Wp_skip (Th_n (hK2 _ _ ?_))
  refine Wp_seq fun K4 hK4 => ?_
  refine Wp_plan (fun W => Hp W (heapOf hp)) [(true, 0), (true, 1), (true, 2), (true, 3), (true, 4), (true, 5), (true, 6), (true, 7), (true, 8), (false, 9), (true, 10), (true, 11), (true, 12), (true, 13), (true, 14), (true, 15), (true, 16)] Ty.mx_0 (by kernel_rfl) (by kernel_rfl) rfl (hp.drew) ?_
  have hp := hp.drew
  have hF := hF.step0 (Fr.drew _)
  refine Pl_y rfl (wtd0 rfl) rfl rfl (y_move rfl rfl) ?_
  refine Pl_y rfl (wtd0 rfl) rfl rfl (y_nil rfl rfl) ?_
  refine Pl_y rfl (wtd0 rfl) rfl rfl (y_fld rfl rfl Ty.fo_110_0) ?_
  refine Pl_y rfl (wtd0 rfl) rfl rfl (y_load (i := 0) rfl rfl Ty.pl_9 (fun _ h => h) rfl rfl) ?_
  refine Pl_y rfl (wtd0 rfl) rfl rfl (y_move rfl rfl) ?_
  refine Pl_y rfl (wtd0 rfl) rfl rfl (y_nil rfl rfl) ?_
  refine Pl_y rfl (wtd0 rfl) rfl rfl (y_fld rfl rfl Ty.fo_110_1) ?_
  refine Pl_y rfl (wtd0 rfl) rfl rfl (y_load (i := 0) rfl rfl Ty.pl_3 (fun _ h => h) rfl rfl) ?_
  refine Pl_y rfl (wtd0 rfl) rfl rfl (y_cutsD rfl rfl Tryz.underlying9 rfl (by omega) (by omega)) ?_
  refine Pl_a rfl (wtd0 rfl) (by rfl) ?_
  refine a_call rfl rfl rfl rfl (number_ok _ (t.s.drop t.a.toNat) hlen) (fun v w2 ⟨hv, hf⟩ => ?_)
  subst hv
  have hp := hp.keep0 hf
  have hF := hF.step0 hf
  refine ⟨hp, ?_⟩
  refine Pl_y rfl (wtd0 rfl) rfl rfl (y_move rfl rfl) ?_
  refine Pl_y rfl (wtd0 rfl) rfl rfl (y_ext rfl rfl rfl) ?_
  refine Pl_y rfl (wtd0 rfl) rfl rfl (y_ext rfl rfl rfl) ?_
  refine Pl_y rfl (wtd0 rfl) rfl rfl (y_ext rfl rfl rfl) ?_
  refine Pl_y rfl (wtd0 rfl) rfl rfl (y_assign rfl rfl) ?_
  refine Pl_y rfl (wtd0 rfl) rfl rfl (y_assign rfl rfl) ?_
  refine Pl_y rfl (wtd0 rfl) rfl rfl (y_assign rfl rfl) ?_
  refine Pl_nil (Th_n (hK4 _ _ ?_))
  refine Wp_seq fun K5 hK5 => ?_
  refine Wp_seq fun K6 hK6 => ?_
  refine Wp_region ?_
  refine Ls_y (wtd0 rfl) rfl rfl (y_move rfl rfl) ?_
  refine Ls_y (wtd0 rfl) rfl rfl (y_eqF rfl rfl rfl (by omega)) ?_
  refine Ls_nil (Th_n (hK6 _ _ ?_))
  refine Wp_cond_f rfl ?_
  refine Wp_skip (Th_n (hK5 _ _ ?_))
  refine Wp_seq fun K7 hK7 => ?_
  refine Wp_seq fun K8 hK8 => ?_
  refine Wp_region ?_
  refine Ls_y (wtd0 rfl) rfl rfl (y_move rfl rfl) ?_
  refine Ls_y (wtd0 rfl) rfl rfl (y_neT rfl rfl rfl (by omega)) ?_
  refine Ls_nil (Th_n (hK8 _ _ ?_))
  have hF1 := hF
  refine Wp_cond_t rfl ?_
  refine Wp_seq fun K9 hK9 => ?_
  refine Wp_region ?_
  refine Ls_y (wtd0 rfl) rfl rfl (y_move rfl rfl) ?_
  refine Ls_y (wtd0 rfl) rfl rfl (y_move rfl rfl) ?_
  refine Ls_a (wtd0 rfl) ?_
  refine a_call rfl rfl rfl rfl (ofail_new g t _ ((number_m (t.s.drop t.a.toNat)).2.2) (hp.pk [0] (by decide)) he) (fun v w4 ⟨hv, q0, hM⟩ => ?_)
  subst hv
  have hp : Hp w4 [(_, Cl [_, _, _] _), (_, Cl [_, _] _)] := hp.call [] [0] (by decide) rfl hM
  have hF := hF.step hM.fr (by simp [keys])
  refine Ls_nil (Th_n (hK9 _ _ ?_))
  refine Wp_seq fun K10 hK10 => ?_
  refine Wp_region ?_
  refine Ls_y (wtd0 rfl) rfl rfl (y_assign rfl rfl) ?_
  refine Ls_nil (Th_n (hK10 _ _ ?_))
  refine wR (Th_r (fR (Res1 rfl rfl) ?_))
  exact ⟨rfl, q0, hF, hp, fun k hk => (hM.nw k hk).imp id (fun h => Nat.le_trans hF1.size h)⟩
theorem onext_not (g : Nat) (t : RdM) (w : World) (f : Nat) (fi : List Value) (rt : Int → Int) (hp : Hp w [(some g, Cl (rdC none t) 110)]) (hr : ∀ (w : World) (u : Int), Fn Tryz.prog f (fi ++ ([.int .u64 u] ++ [])) w fun v w' => v = .int .i64 (rt u) ∧ Fr [] w w') (hr0 : Rok t) (he : (number_m (t.s.drop t.a.toNat)).2.2 = 0) (hz : ¬ rt (number_m (t.s.drop t.a.toNat)).1 = 0) :
    Fn Tryz.prog 70 [.pointer (some ⟨g, 0, none⟩), .func (.func f) fi.toArray #[]] w fun v w' => v = .int .u64 0 ∧ ∃ q', Mod w w' [(some g, Cl (rdC none t) 110)] (rdH g (some q') ⟨t.s, t.a, ⟨t.a, rt (number_m (t.s.drop t.a.toNat)).1⟩⟩) := by
  refine Fn_of 46 Ty.en_70 Tryz.func70 rfl rfl rfl ?_
  dsimp only [argEnv]
  have hp : Hp w [(_, Cl [_, _, _] _)] := hp
  have hF := Fr.refl [g] w
  have hb := hr0.b
  have hlen : (t.s.drop t.a.toNat).length ≤ 1000000 := by rw [List.length_drop]; omega
  have hnc := number_cases (t.s.drop t.a.toNat)
  refine Wp_seq fun K1 hK1 => ?_
  refine Wp_region ?_
  refine Ls_y (wtd0 rfl) rfl rfl (y_assign rfl rfl) ?_
  refine Ls_nil (Th_n (hK1 _ _ ?_))
  refine Wp_seq fun K2 hK2 => ?_
  refine Wp_seq fun K3 hK3 => ?_
  refine Wp_region ?_
  refine Ls_y (wtd0 rfl) rfl rfl (y_move rfl rfl) ?_
  refine Ls_y (wtd0 rfl) rfl rfl (y_nil rfl rfl) ?_
  refine Ls_y (wtd0 rfl) rfl rfl (y_fld rfl rfl Ty.fo_110_2) ?_
  refine Ls_y (wtd0 rfl) rfl rfl (y_load (i := 0) rfl rfl Ty.pl_108 (fun _ e => e ▸ hp) rfl rfl) ?_
  refine Ls_y (wtd0 rfl) rfl rfl (y_neNil (b := true) rfl rfl Tryz.underlying108 (fun d w => run_eq_nilii Tryz.underlying108 d w) (fun w y => by cases y <;> rfl)) ?_
  refine Ls_nil (Th_n (hK3 _ _ ?_))
  refine Wp_cond_f rfl ?_
  refine Wp_skip (Th_n (hK2 _ _ ?_))
  refine Wp_seq fun K4 hK4 => ?_
  refine Wp_plan (fun W => Hp W (heapOf hp)) [(true, 0), (true, 1), (true, 2), (true, 3), (true, 4), (true, 5), (true, 6), (true, 7), (true, 8), (false, 9), (true, 10), (true, 11), (true, 12), (true, 13), (true, 14), (true, 15), (true, 16)] Ty.mx_0 (by kernel_rfl) (by kernel_rfl) rfl (hp.drew) ?_
  have hp := hp.drew
  have hF := hF.step0 (Fr.drew _)
  refine Pl_y rfl (wtd0 rfl) rfl rfl (y_move rfl rfl) ?_
  refine Pl_y rfl (wtd0 rfl) rfl rfl (y_nil rfl rfl) ?_
  refine Pl_y rfl (wtd0 rfl) rfl rfl (y_fld rfl rfl Ty.fo_110_0) ?_
  refine Pl_y rfl (wtd0 rfl) rfl rfl (y_load (i := 0) rfl rfl Ty.pl_9 (fun _ h => h) rfl rfl) ?_
  refine Pl_y rfl (wtd0 rfl) rfl rfl (y_move rfl rfl) ?_
  refine Pl_y rfl (wtd0 rfl) rfl rfl (y_nil rfl rfl) ?_
  refine Pl_y rfl (wtd0 rfl) rfl rfl (y_fld rfl rfl Ty.fo_110_1) ?_
  refine Pl_y rfl (wtd0 rfl) rfl rfl (y_load (i := 0) rfl rfl Ty.pl_3 (fun _ h => h) rfl rfl) ?_
  refine Pl_y rfl (wtd0 rfl) rfl rfl (y_cutsD rfl rfl Tryz.underlying9 rfl (by omega) (by omega)) ?_
  refine Pl_a rfl (wtd0 rfl) (by rfl) ?_
  refine a_call rfl rfl rfl rfl (number_ok _ (t.s.drop t.a.toNat) hlen) (fun v w2 ⟨hv, hf⟩ => ?_)
  subst hv
  have hp := hp.keep0 hf
  have hF := hF.step0 hf
  refine ⟨hp, ?_⟩
  refine Pl_y rfl (wtd0 rfl) rfl rfl (y_move rfl rfl) ?_
  refine Pl_y rfl (wtd0 rfl) rfl rfl (y_ext rfl rfl rfl) ?_
  refine Pl_y rfl (wtd0 rfl) rfl rfl (y_ext rfl rfl rfl) ?_
  refine Pl_y rfl (wtd0 rfl) rfl rfl (y_ext rfl rfl rfl) ?_
  refine Pl_y rfl (wtd0 rfl) rfl rfl (y_assign rfl rfl) ?_
  refine Pl_y rfl (wtd0 rfl) rfl rfl (y_assign rfl rfl) ?_
  refine Pl_y rfl (wtd0 rfl) rfl rfl (y_assign rfl rfl) ?_
  refine Pl_nil (Th_n (hK4 _ _ ?_))
  refine Wp_seq fun K5 hK5 => ?_
  refine Wp_seq fun K6 hK6 => ?_
  refine Wp_region ?_
  refine Ls_y (wtd0 rfl) rfl rfl (y_move rfl rfl) ?_
  refine Ls_y (wtd0 rfl) rfl rfl (y_eqT rfl rfl rfl (by omega)) ?_
  refine Ls_nil (Th_n (hK6 _ _ ?_))
  refine Wp_cond_t rfl ?_
  refine Wp_region ?_
  refine Ls_y (wtd0 rfl) rfl rfl (y_move rfl rfl) ?_
  refine Ls_y (wtd0 rfl) rfl rfl (y_move rfl rfl) ?_
  refine Ls_a (wtd0 rfl) ?_
  refine a_callv rfl rfl rfl rfl rfl ⟨_, fi, [], rfl, hr _ (number_m (t.s.drop t.a.toNat)).1⟩ (fun v w3 ⟨hv, hf⟩ => ?_)
  subst hv
  have hp := hp.keep0 hf
  have hF := hF.step0 hf
  refine Ls_y (wtd0 rfl) rfl rfl (y_assign rfl rfl) ?_
  refine Ls_nil (Th_n (hK5 _ _ ?_))
  refine Wp_seq fun K7 hK7 => ?_
  refine Wp_seq fun K8 hK8 => ?_
  refine Wp_region ?_
  refine Ls_y (wtd0 rfl) rfl rfl (y_move rfl rfl) ?_
  refine Ls_y (wtd0 rfl) rfl rfl (y_neT rfl rfl rfl (by omega)) ?_
  refine Ls_nil (Th_n (hK8 _ _ ?_))
  have hF1 := hF
  refine Wp_cond_t rfl ?_
  refine Wp_seq fun K9 hK9 => ?_
  refine Wp_region ?_
  refine Ls_y (wtd0 rfl) rfl rfl (y_move rfl rfl) ?_
  refine Ls_y (wtd0 rfl) rfl rfl (y_move rfl rfl) ?_
  refine Ls_a (wtd0 rfl) ?_
  refine a_call rfl rfl rfl rfl (ofail_new g t _ (rt (number_m (t.s.drop t.a.toNat)).1) (hp.pk [0] (by decide)) hz) (fun v w4 ⟨hv, q0, hM⟩ => ?_)
  subst hv
  have hp : Hp w4 [(_, Cl [_, _, _] _), (_, Cl [_, _] _)] := hp.call [] [0] (by decide) rfl hM
  have hF := hF.step hM.fr (by simp [keys])
  refine Ls_nil (Th_n (hK9 _ _ ?_))
  refine Wp_seq fun K10 hK10 => ?_
  refine Wp_region ?_
  refine Ls_y (wtd0 rfl) rfl rfl (y_assign rfl rfl) ?_
  refine Ls_nil (Th_n (hK10 _ _ ?_))
  refine wR (Th_r (fR (Res1 rfl rfl) ?_))
  exact ⟨rfl, q0, hF, hp, fun k hk => (hM.nw k hk).imp id (fun h => Nat.le_trans hF1.size h)⟩
theorem onext_good (g : Nat) (t : RdM) (w : World) (f : Nat) (fi : List Value) (rt : Int → Int) (hp : Hp w [(some g, Cl (rdC none t) 110)]) (hr : ∀ (w : World) (u : Int), Fn Tryz.prog f (fi ++ ([.int .u64 u] ++ [])) w fun v w' => v = .int .i64 (rt u) ∧ Fr [] w w') (hr0 : Rok t) (he : (number_m (t.s.drop t.a.toNat)).2.2 = 0) (hz : rt (number_m (t.s.drop t.a.toNat)).1 = 0) :
    Fn Tryz.prog 70 [.pointer (some ⟨g, 0, none⟩), .func (.func f) fi.toArray #[]] w fun v w' => v = .int .u64 (number_m (t.s.drop t.a.toNat)).1 ∧ Hp w' [(some g, Cl (rdC none ⟨t.s, t.a + (number_m (t.s.drop t.a.toNat)).2.1, t.f⟩) 110)] ∧ Fr [g] w w' := by
  refine Fn_of 46 Ty.en_70 Tryz.func70 rfl rfl rfl ?_
  dsimp only [argEnv]
  have hp : Hp w [(_, Cl [_, _, _] _)] := hp
  have hF := Fr.refl [g] w
  have hb := hr0.b
  have hlen : (t.s.drop t.a.toNat).length ≤ 1000000 := by rw [List.length_drop]; omega
  have hnc := number_cases (t.s.drop t.a.toNat)
  have hn : 1 ≤ (number_m (t.s.drop t.a.toNat)).2.1 ∧ (number_m (t.s.drop t.a.toNat)).2.1 ≤ 9 := by
    rcases hnc with ⟨e, h1, h2⟩ | ⟨v, n, h1, h2, h3, h4, h5⟩
    · rw [h1] at he; simp only at he; omega
    · rw [h1]; exact ⟨h2, h3⟩
  refine Wp_seq fun K1 hK1 => ?_
  refine Wp_region ?_
  refine Ls_y (wtd0 rfl) rfl rfl (y_assign rfl rfl) ?_
  refine Ls_nil (Th_n (hK1 _ _ ?_))
  refine Wp_seq fun K2 hK2 => ?_
  refine Wp_seq fun K3 hK3 => ?_
  refine Wp_region ?_
  refine Ls_y (wtd0 rfl) rfl rfl (y_move rfl rfl) ?_
  refine Ls_y (wtd0 rfl) rfl rfl (y_nil rfl rfl) ?_
  refine Ls_y (wtd0 rfl) rfl rfl (y_fld rfl rfl Ty.fo_110_2) ?_
  refine Ls_y (wtd0 rfl) rfl rfl (y_load (i := 0) rfl rfl Ty.pl_108 (fun _ e => e ▸ hp) rfl rfl) ?_
  refine Ls_y (wtd0 rfl) rfl rfl (y_neNil (b := true) rfl rfl Tryz.underlying108 (fun d w => run_eq_nilii Tryz.underlying108 d w) (fun w y => by cases y <;> rfl)) ?_
  refine Ls_nil (Th_n (hK3 _ _ ?_))
  refine Wp_cond_f rfl ?_
  refine Wp_skip (Th_n (hK2 _ _ ?_))
  refine Wp_seq fun K4 hK4 => ?_
  refine Wp_plan (fun W => Hp W (heapOf hp)) [(true, 0), (true, 1), (true, 2), (true, 3), (true, 4), (true, 5), (true, 6), (true, 7), (true, 8), (false, 9), (true, 10), (true, 11), (true, 12), (true, 13), (true, 14), (true, 15), (true, 16)] Ty.mx_0 (by kernel_rfl) (by kernel_rfl) rfl (hp.drew) ?_
  have hp := hp.drew
  have hF := hF.step0 (Fr.drew _)
  refine Pl_y rfl (wtd0 rfl) rfl rfl (y_move rfl rfl) ?_
  refine Pl_y rfl (wtd0 rfl) rfl rfl (y_nil rfl rfl) ?_
  refine Pl_y rfl (wtd0 rfl) rfl rfl (y_fld rfl rfl Ty.fo_110_0) ?_
  refine Pl_y rfl (wtd0 rfl) rfl rfl (y_load (i := 0) rfl rfl Ty.pl_9 (fun _ h => h) rfl rfl) ?_
  refine Pl_y rfl (wtd0 rfl) rfl rfl (y_move rfl rfl) ?_
  refine Pl_y rfl (wtd0 rfl) rfl rfl (y_nil rfl rfl) ?_
  refine Pl_y rfl (wtd0 rfl) rfl rfl (y_fld rfl rfl Ty.fo_110_1) ?_
  refine Pl_y rfl (wtd0 rfl) rfl rfl (y_load (i := 0) rfl rfl Ty.pl_3 (fun _ h => h) rfl rfl) ?_
  refine Pl_y rfl (wtd0 rfl) rfl rfl (y_cutsD rfl rfl Tryz.underlying9 rfl (by omega) (by omega)) ?_
  refine Pl_a rfl (wtd0 rfl) (by rfl) ?_
  refine a_call rfl rfl rfl rfl (number_ok _ (t.s.drop t.a.toNat) hlen) (fun v w2 ⟨hv, hf⟩ => ?_)
  subst hv
  have hp := hp.keep0 hf
  have hF := hF.step0 hf
  refine ⟨hp, ?_⟩
  refine Pl_y rfl (wtd0 rfl) rfl rfl (y_move rfl rfl) ?_
  refine Pl_y rfl (wtd0 rfl) rfl rfl (y_ext rfl rfl rfl) ?_
  refine Pl_y rfl (wtd0 rfl) rfl rfl (y_ext rfl rfl rfl) ?_
  refine Pl_y rfl (wtd0 rfl) rfl rfl (y_ext rfl rfl rfl) ?_
  refine Pl_y rfl (wtd0 rfl) rfl rfl (y_assign rfl rfl) ?_
  refine Pl_y rfl (wtd0 rfl) rfl rfl (y_assign rfl rfl) ?_
  refine Pl_y rfl (wtd0 rfl) rfl rfl (y_assign rfl rfl) ?_
  refine Pl_nil (Th_n (hK4 _ _ ?_))
  refine Wp_seq fun K5 hK5 => ?_
  refine Wp_seq fun K6 hK6 => ?_
  refine Wp_region ?_
  refine Ls_y (wtd0 rfl) rfl rfl (y_move rfl rfl) ?_
  refine Ls_y (wtd0 rfl) rfl rfl (y_eqT rfl rfl rfl (by omega)) ?_
  refine Ls_nil (Th_n (hK6 _ _ ?_))
  refine Wp_cond_t rfl ?_
  refine Wp_region ?_
  refine Ls_y (wtd0 rfl) rfl rfl (y_move rfl rfl) ?_
  refine Ls_y (wtd0 rfl) rfl rfl (y_move rfl rfl) ?_
  refine Ls_a (wtd0 rfl) ?_
  refine a_callv rfl rfl rfl rfl rfl ⟨_, fi, [], rfl, hr _ (number_m (t.s.drop t.a.toNat)).1⟩ (fun v w3 ⟨hv, hf⟩ => ?_)
  subst hv
  have hp := hp.keep0 hf
  have hF := hF.step0 hf
  refine Ls_y (wtd0 rfl) rfl rfl (y_assign rfl rfl) ?_
  refine Ls_nil (Th_n (hK5 _ _ ?_))
  refine Wp_seq fun K7 hK7 => ?_
  refine Wp_seq fun K8 hK8 => ?_
  refine Wp_region ?_
  refine Ls_y (wtd0 rfl) rfl rfl (y_move rfl rfl) ?_
  refine Ls_y (wtd0 rfl) rfl rfl (y_neF rfl rfl rfl (by omega)) ?_
  refine Ls_nil (Th_n (hK8 _ _ ?_))
  refine Wp_cond_f rfl ?_
  refine Wp_skip (Th_n (hK7 _ _ ?_))
  refine Wp_seq fun K9 hK9 => ?_
  refine Wp_region ?_
  refine Ls_y (wtd0 rfl) rfl rfl (y_move rfl rfl) ?_
  refine Ls_y (wtd0 rfl) rfl rfl (y_nil rfl rfl) ?_
  refine Ls_y (wtd0 rfl) rfl rfl (y_fld rfl rfl Ty.fo_110_1) ?_
  refine Ls_y (wtd0 rfl) rfl rfl (y_load (i := 0) rfl rfl Ty.pl_3 (fun _ e => e ▸ hp) rfl rfl) ?_
  refine Ls_y (wtd0 rfl) rfl rfl (y_move rfl rfl) ?_
  first
    | refine Ls_y (wtd0 rfl) rfl rfl (y_add rfl rfl rfl (w_addN (by first | omega | (simp; omega)))) ?_
    | refine Ls_y (wtd0 rfl) rfl rfl (y_add rfl rfl rfl (wf_i64 (by omega))) ?_
    | refine Ls_y (wtd0 rfl) rfl rfl (y_add rfl rfl rfl rfl) ?_
  refine Ls_y (wtd0 rfl) rfl rfl (y_nil rfl rfl) ?_
  refine Ls_y (wtd0 rfl) rfl rfl (y_fld rfl rfl Ty.fo_110_1) ?_
  refine Ls_a (wtd0 rfl) ?_
  refine a_store (i := 0) rfl rfl rfl rfl rfl Ty.sz_3 rfl hp rfl (by first | decide | (simp; done) | (simp; omega)) (fun w1 (hp : Hp w1 [(_, Cl [_, _, _] _)]) hf _ => ?_)
  have hF := hF.step hf (by intro y hy; simp only [List.mem_cons, List.not_mem_nil, or_false] at hy; subst hy; first | (exact Or.inr (by omega)) | (exact Or.inl (by simp)))
  refine Ls_nil (Th_n (hK9 _ _ ?_))
  refine Wp_seq fun K10 hK10 => ?_
  refine Wp_region ?_
  refine Ls_y (wtd0 rfl) rfl rfl (y_move rfl rfl) ?_
  refine Ls_y (wtd0 rfl) rfl rfl (y_assign rfl rfl) ?_
  refine Ls_nil (Th_n (hK10 _ _ ?_))
  refine wR (fR (Res1 rfl rfl) ?_)
  exact ⟨rfl, hp, hF⟩
theorem onext_ok (g : Nat) (q : Option Nat) (t : RdM) (w : World) (f : Nat) (fi : List Value) (rt : Int → Int) (hr : ∀ (w : World) (u : Int), Fn Tryz.prog f (fi ++ ([.int .u64 u] ++ [])) w fun v w' => v = .int .i64 (rt u) ∧ Fr [] w w') (hk : Eok q t) (hp : Hp w (rdH g q t)) :
    Fn Tryz.prog 70 [.pointer (some ⟨g, 0, none⟩), .func (.func f) fi.toArray #[]] w fun v w' => v = .int .u64 (nextM rt t).1 ∧ RdTo g q t (nextM rt t).2 w w' := by
  have hrok := nextM_rok (rt := rt) hk.1
  cases q with
  | some q =>
    have h0 : ¬ t.f.e = 0 := fun h => by have := hk.2.2 h; cases this
    have e1 : nextM rt t = (0, t) := by unfold nextM; rw [if_neg h0]
    rw [e1]
    refine (onext_err g t w q _ (hp.pk [0] (by decide))).mono ?_
    rintro v w' ⟨rfl, rfl⟩
    exact ⟨rfl, RdTo.same hk hp⟩
  | none =>
    have h0 := hk.2.1 rfl
    by_cases he : (number_m (t.s.drop t.a.toNat)).2.2 = 0
    · by_cases hz : rt (number_m (t.s.drop t.a.toNat)).1 = 0
      · have e1 : nextM rt t = ((number_m (t.s.drop t.a.toNat)).1, ⟨t.s, t.a + (number_m (t.s.drop t.a.toNat)).2.1, t.f⟩) := by unfold nextM; rw [if_pos h0, if_pos he, if_pos hz]
        rw [e1] at hrok ⊢
        refine (onext_good g t w f fi rt (hp.pk [0] (by decide)) hr hk.1 he hz).mono ?_
        rintro v w' ⟨rfl, hp', hf⟩
        exact ⟨rfl, RdTo.at_ hk hrok hp hp' hf⟩
      · have e1 : nextM rt t = (0, ⟨t.s, t.a, ⟨t.a, rt (number_m (t.s.drop t.a.toNat)).1⟩⟩) := by unfold nextM; rw [if_pos h0, if_pos he, if_neg hz, rfail_at h0 hz]
        rw [e1] at hrok ⊢
        refine (onext_not g t w f fi rt (hp.pk [0] (by decide)) hr hk.1 he hz).mono ?_
        rintro v w' ⟨rfl, q', m⟩
        exact ⟨rfl, some q', ⟨hrok, by simp [hz]⟩, m.fr, m.hp, m.nw⟩
    · have e1 : nextM rt t = (0, ⟨t.s, t.a, ⟨t.a, (number_m (t.s.drop t.a.toNat)).2.2⟩⟩) := by unfold nextM; rw [if_pos h0, if_neg he, rfail_at h0 he]
      rw [e1] at hrok ⊢
      refine (onext_bad g t w f fi rt (hp.pk [0] (by decide)) hk.1 he).mono ?_
      rintro v w' ⟨rfl, q', m⟩
      exact ⟨rfl, some q', ⟨hrok, by simp [he]⟩, m.fr, m.hp, m.nw⟩
end Go.Proofs.YtdckemiebnfjcaaGreatDoor
end

section
set_option linter.unusedSimpArgs false
set_option linter.unusedVariables false
namespace Go.Proofs.YtdckemiebnfjcaaGreatDoor
open Go.RowKit
theorem or_byte (v : Int) (b : UInt8) : bits .or .u64 (v * 256 % 18446744073709551616) (b.toNat : Int) = ((v * 256) % 18446744073709551616 + (b.toNat : Int)) % 18446744073709551616 := by
  have hb := b.toNat_lt
  obtain ⟨x, hx⟩ : ∃ x : Nat, v * 256 % 18446744073709551616 = ((256 * x : Nat) : Int) := ⟨(v % 72057594037927936).toNat, by omega⟩
  have h0 : 0 ≤ v * 256 % 18446744073709551616 ∧ v * 256 % 18446744073709551616 < 18446744073709551616 := by omega
  rw [u64_or _ _ h0.1 h0.2 (by omega) (by omega), hx]
  have h1 := Nat.shiftLeft_add_eq_or_of_lt (i := 8) (b := b.toNat) (by omega) x
  rw [Nat.shiftLeft_eq, Nat.mul_comm x] at h1
  have h2 : (((256 * x : Nat) : Int)).toNat ||| ((b.toNat : Int)).toNat = 256 * x + b.toNat := by
    rw [Int.toNat_natCast, Int.toNat_natCast]; exact h1.symm
  rw [h2]
  omega
theorem ix_dropA {α : Type} [Inhabited α] (l : List α) {a j : Int} (ha : 0 ≤ a) (hj : 0 ≤ j) : ix (l.drop a.toNat) j = ix l (a + j) := by
  unfold ix
  rw [List.getElem?_drop, show (a + j).toNat = a.toNat + j.toNat by omega]
theorem number_L1_eq (t : RdM) (h : 0 ≤ t.a) : ∀ (fuel : Nat) (a b : Int), 0 ≤ b → ∃ c d, number_L1 (t.s.drop t.a.toNat) fuel a b = .inr (c, d) ∧ rnum_L1 t fuel a b = .inr (c, d)
  | 0, a, b, hb => ⟨a, b, rfl, rfl⟩
  | fuel + 1, a, b, hb => by
    rw [number_L1, rnum_L1, ix_dropA _ h (by decide), ix_dropA _ h hb, Int.add_zero]
    by_cases hc : b ≤ ((ix t.s t.a).toNat : Int)
    · rw [if_pos (show b < 1 + ((ix t.s t.a).toNat : Int) by omega), if_pos hc, or_byte]
      exact number_L1_eq t h fuel _ _ (by omega)
    · rw [if_neg (show ¬ b < 1 + ((ix t.s t.a).toNat : Int) by omega), if_neg hc]
      exact ⟨a, b, rfl, rfl⟩
theorem next_num {t : RdM} (hk : Rok t) (h0 : t.f.e = 0) : rnum_m t = if (number_m (t.s.drop t.a.toNat)).2.2 = 0 then ((number_m (t.s.drop t.a.toNat)).1, ⟨t.s, t.a + (number_m (t.s.drop t.a.toNat)).2.1, t.f⟩) else (0, rfail_m t (number_m (t.s.drop t.a.toNat)).2.2) := by
  have hb := hk.b
  have e0 : ix (t.s.drop t.a.toNat) 0 = ix t.s t.a := by rw [ix_dropA _ hk.1 (by decide), Int.add_zero]
  have e1 : ix (t.s.drop t.a.toNat) 1 = ix t.s (t.a + 1) := ix_dropA _ hk.1 (by decide)
  have hl : ((t.s.drop t.a.toNat).length : Int) = t.s.length - t.a := by rw [List.length_drop]; omega
  have hs : t.s.drop t.a.toNat = [] ↔ t.a = (t.s.length : Int) := by rw [List.drop_eq_nil_iff]; omega
  have hc : number_c1 (t.s.drop t.a.toNat) = rnum_c1 t := by
    unfold number_c1 rnum_c1
    rw [e0, e1]
    by_cases h : 0 < ((ix t.s t.a).toNat : Int)
    · rw [if_pos h, if_pos (by omega)]
    · rw [if_neg h, if_neg (by omega)]
  obtain ⟨c, d, hL, hR⟩ := number_L1_eq t hk.1 ((1 + ((ix t.s t.a).toNat : Int) - 1).toNat + 1) 0 1 (by decide)
  have hf : ((1 + ((ix t.s t.a).toNat : Int) - 1).toNat + 1) = (((((ix t.s t.a).toNat : Int) + 1) - (1 : Int)).toNat + 1) := by omega
  unfold number_m rnum_m
  rw [hf] at hR
  rw [if_pos h0, e0, hc, hL, hR]
  by_cases c1 : t.a = (t.s.length : Int)
  · rw [if_pos c1, if_pos (hs.2 c1)]; simp
  rw [if_neg c1, if_neg (fun h => c1 (hs.1 h))]
  by_cases c2 : 8 < ((ix t.s t.a).toNat : Int)
  · rw [if_pos c2, if_pos (show 9 < 1 + ((ix t.s t.a).toNat : Int) by omega)]; simp
  rw [if_neg c2, if_neg (show ¬ 9 < 1 + ((ix t.s t.a).toNat : Int) by omega)]
  by_cases c3 : ((t.s.length : Int) - t.a) - 1 < ((ix t.s t.a).toNat : Int)
  · rw [if_pos c3, if_pos (show ((t.s.drop t.a.toNat).length : Int) < 1 + ((ix t.s t.a).toNat : Int) by omega)]; simp
  rw [if_neg c3, if_neg (show ¬ ((t.s.drop t.a.toNat).length : Int) < 1 + ((ix t.s t.a).toNat : Int) by omega)]
  by_cases c4 : rnum_c1 t = true
  · rw [if_pos c4, if_pos c4]; simp
  rw [if_neg c4, if_neg c4]
  simp only [if_true]
  rw [Int.add_assoc]
theorem next_rnum {t : RdM} (hk : Rok t) : nextM every_m t = rnum_m t := by
  unfold nextM
  by_cases h0 : t.f.e = 0
  · rw [if_pos h0, next_num hk h0]
    rfl
  · rw [if_neg h0]; unfold rnum_m; rw [if_neg h0]
theorem next_rint {t : RdM} {m : Int} (hk : Rok t) (hm : m < 9223372036854775808) : (IntKind.i64.wrap (nextM (oright_m m) t).1, (nextM (oright_m m) t).2) = rint_m t m := by
  have hb := hk.b
  have hi := rint_c1_iff t m
  unfold nextM rint_m
  by_cases h0 : t.f.e = 0
  · have hn := next_num hk h0
    rw [if_pos h0]
    rcases number_cases (t.s.drop t.a.toNat) with ⟨e, he, h3⟩ | ⟨v, n, he, h2, h3, h4, h5, h6⟩
    · rw [he] at hn ⊢
      have h7 : ¬ e = 0 := by omega
      simp only [h7, if_false] at hn ⊢
      rw [hn] at hi ⊢
      have h8 := rfail_at h0 h7
      rw [h8] at hi ⊢
      rw [if_neg (fun hc => h7 (hi.1 hc).1), if_neg h7]
      rw [show IntKind.i64.wrap 0 = 0 from rfl]
    · rw [he] at hn ⊢
      simp only [if_true] at hn ⊢
      rw [hn] at hi ⊢
      simp only [h0, true_and] at hi
      have ho := oright_c1_iff m v
      unfold oright_m
      by_cases hc : rint_c1 t m = true
      · have h7 := ho.2 (hi.1 hc)
        rw [if_pos h7, if_pos hc]
        simp only [show ¬ (2 : Int) = 0 by decide, if_false]
        rw [show IntKind.i64.wrap 0 = 0 from rfl]
      · have h7 : ¬ oright_c1 m v = true := fun h => hc (hi.2 (ho.1 h))
        rw [if_neg h7, if_neg hc]
        simp only [if_true]
        rw [if_pos h0]
  · have hn : rnum_m t = (0, t) := by unfold rnum_m; rw [if_neg h0]
    rw [if_neg h0, hn]
    rw [hn] at hi
    rw [if_neg (fun hc => h0 (hi.1 hc).1), if_neg h0]
    rw [show IntKind.i64.wrap 0 = 0 from rfl]
end Go.Proofs.YtdckemiebnfjcaaGreatDoor
end

section
set_option linter.unusedSimpArgs false
set_option linter.unusedVariables false
set_option maxRecDepth 20000
namespace Go.Proofs.YtdckemiebnfjcaaGreatDoor
open Go.RowKit
theorem ronew_ok (s : List UInt8) (w : World) : Fn Tryz.prog 10 [sv s] w fun v w' => ∃ g, v = .pointer (some ⟨g, 0, none⟩) ∧ New w w' [(some g, Cl (rdC none ⟨s, 0, ⟨0, 0⟩⟩) 110)] := by
  refine Fn_of 6 Ty.en_10 Tryz.func10 rfl rfl rfl ?_
  dsimp only [argEnv]
  have hp := Hp.nil w
  have hF := Fr.refl [] w
  refine Wp_seq fun K1 hK1 => ?_
  refine Wp_region ?_
  refine Ls_y (wtd0 rfl) rfl rfl (y_assign rfl rfl) ?_
  refine Ls_nil (Th_n (hK1 _ _ ?_))
  refine Wp_seq fun K2 hK2 => ?_
  refine Wp_region ?_
  refine Ls_y (wtd0 rfl) rfl rfl (y_move rfl rfl) ?_
  refine Ls_y (wtd0 rfl) rfl rfl (y_build (cells := [_, _, _]) rfl rfl Ty.zc_110 Ty.ps_110 rfl) ?_
  refine Ls_a (wtd0 rfl) ?_
  refine a_box rfl rfl rfl rfl hp (fun g1 w1 (hp : Hp w1 [(_, Cl [_, _, _] _)]) hf hg1 => ?_)
  have hg1 := Nat.le_trans hF.size hg1
  have hF := hF.step0 hf
  refine Ls_y (wtd0 rfl) rfl rfl (y_assign rfl rfl) ?_
  refine Ls_nil (Th_n (hK2 _ _ ?_))
  refine wR (fR (Res1 rfl rfl) ?_)
  exact ⟨g1, rfl, ⟨hF, hp, by intro k hk; simp [keys] at hk; omega⟩⟩
theorem oerr_ok (g : Nat) (q : Option Nat) (t : RdM) (w : World) (hk : Eok q t) (hp : Hp w (rdH g q t))  :
    Fn Tryz.prog 44 [.pointer (some ⟨g, 0, none⟩)] w fun v w' => v = errV 161 q ∧ w' = w := by
  refine Fn_of 7 Ty.en_44 Tryz.func44 rfl rfl rfl ?_
  dsimp only [argEnv]
  have hp : Hp w [(_, Cl [_, _, _] _), (_, Cl [_, _] _)] := hp
  have hF := Fr.refl (keys (rdH g q t)) w
  refine Wp_seq fun K1 hK1 => ?_
  refine Wp_region ?_
  refine Ls_y (wtd0 rfl) rfl rfl (y_assign rfl rfl) ?_
  refine Ls_nil (Th_n (hK1 _ _ ?_))
  refine Wp_seq fun K2 hK2 => ?_
  refine Wp_region ?_
  refine Ls_y (wtd0 rfl) rfl rfl (y_move rfl rfl) ?_
  refine Ls_y (wtd0 rfl) rfl rfl (y_nil rfl rfl) ?_
  refine Ls_y (wtd0 rfl) rfl rfl (y_fld rfl rfl Ty.fo_110_2) ?_
  first
    | refine Ls_y (wtd0 rfl) rfl rfl (y_load (i := 0) rfl rfl Ty.pl_108 (fun _ e => e ▸ hp) rfl rfl) ?_
    | refine Ls_y (wtd0 rfl) rfl rfl (y_load (i := 1) rfl rfl Ty.pl_108 (fun _ e => e ▸ hp) rfl rfl) ?_
  refine Ls_y (wtd0 rfl) rfl rfl (y_assign rfl rfl) ?_
  refine Ls_nil (Th_n (hK2 _ _ ?_))
  refine wR (fR (Res1 rfl rfl) ?_)
  exact ⟨rfl, rfl⟩
theorem oleft_ok (g : Nat) (q : Option Nat) (t : RdM) (w : World) (hk : Eok q t) (hp : Hp w (rdH g q t))  :
    Fn Tryz.prog 14 [.pointer (some ⟨g, 0, none⟩)] w fun v w' => v = .int .i64 (t.s.length - t.a) ∧ Fr [] w w' := by
  refine Fn_of 13 Ty.en_14 Tryz.func14 rfl rfl rfl ?_
  dsimp only [argEnv]
  have hp : Hp w [(_, Cl [_, _, _] _), (_, Cl [_, _] _)] := hp
  have hF := Fr.refl [] w
  have hb := hk.1.b
  refine Wp_seq fun K1 hK1 => ?_
  refine Wp_region ?_
  refine Ls_y (wtd0 rfl) rfl rfl (y_assign rfl rfl) ?_
  refine Ls_nil (Th_n (hK1 _ _ ?_))
  refine Wp_seq fun K2 hK2 => ?_
  refine Wp_plan (fun W => Hp W (heapOf hp)) [(true, 0), (true, 1), (true, 2), (true, 3), (true, 4), (true, 5), (true, 6), (true, 7), (true, 8), (true, 9), (true, 10)] Ty.mx_0 (by kernel_rfl) (by kernel_rfl) rfl (hp.drew) ?_
  have hp := hp.drew
  have hF := hF.step0 (Fr.drew _)
  refine Pl_y rfl (wtd0 rfl) rfl rfl (y_move rfl rfl) ?_
  refine Pl_y rfl (wtd0 rfl) rfl rfl (y_nil rfl rfl) ?_
  refine Pl_y rfl (wtd0 rfl) rfl rfl (y_fld rfl rfl Ty.fo_110_0) ?_
  first
    | refine Pl_y rfl (wtd0 rfl) rfl rfl (y_load (i := 0) rfl rfl Ty.pl_9 (fun _ h => h) rfl rfl) ?_
    | refine Pl_y rfl (wtd0 rfl) rfl rfl (y_load (i := 1) rfl rfl Ty.pl_9 (fun _ h => h) rfl rfl) ?_
  refine Pl_y rfl (wtd0 rfl) rfl rfl (y_lens rfl rfl Tryz.underlying9) ?_
  refine Pl_y rfl (wtd0 rfl) rfl rfl (y_move rfl rfl) ?_
  refine Pl_y rfl (wtd0 rfl) rfl rfl (y_nil rfl rfl) ?_
  refine Pl_y rfl (wtd0 rfl) rfl rfl (y_fld rfl rfl Ty.fo_110_1) ?_
  first
    | refine Pl_y rfl (wtd0 rfl) rfl rfl (y_load (i := 0) rfl rfl Ty.pl_3 (fun _ h => h) rfl rfl) ?_
    | refine Pl_y rfl (wtd0 rfl) rfl rfl (y_load (i := 1) rfl rfl Ty.pl_3 (fun _ h => h) rfl rfl) ?_
  first
    | refine Pl_y rfl (wtd0 rfl) rfl rfl (y_sub rfl rfl rfl (w_subN (by first | omega | (simp; omega)) (by first | omega | (simp; omega)))) ?_
    | refine Pl_y rfl (wtd0 rfl) rfl rfl (y_sub rfl rfl rfl (wf_i64 (by omega))) ?_
    | refine Pl_y rfl (wtd0 rfl) rfl rfl (y_sub rfl rfl rfl rfl) ?_
  refine Pl_y rfl (wtd0 rfl) rfl rfl (y_assign rfl rfl) ?_
  refine Pl_nil (Th_n (hK2 _ _ ?_))
  refine wR (fR (Res1 rfl rfl) ?_)
  exact ⟨rfl, hF⟩
theorem oRnum_ok (g : Nat) (q : Option Nat) (t : RdM) (w : World) (hk : Eok q t) (hp : Hp w (rdH g q t))  :
    Fn Tryz.prog 72 [.pointer (some ⟨g, 0, none⟩)] w fun v w' => v = .int .u64 (rnum_m t).1 ∧ RdTo g q t (rnum_m t).2 w w' := by
  refine Fn_of 5 Ty.en_72 Tryz.func72 rfl rfl rfl ?_
  dsimp only [argEnv]
  have hp : Hp w [(_, Cl [_, _, _] _), (_, Cl [_, _] _)] := hp
  have hF := Fr.refl (keys (rdH g q t)) w
  refine Wp_seq fun K1 hK1 => ?_
  refine Wp_region ?_
  refine Ls_y (wtd0 rfl) rfl rfl (y_assign rfl rfl) ?_
  refine Ls_nil (Th_n (hK1 _ _ ?_))
  refine Wp_seq fun K2 hK2 => ?_
  refine Wp_region ?_
  refine Ls_y (wtd0 rfl) rfl rfl (y_move rfl rfl) ?_
  refine Ls_a (wtd0 rfl) ?_
  refine a_call rfl rfl rfl rfl (onext_ok g q t _ 122 [] every_m (fun w u => every_ok w u) hk (hp.pk [0, 1] (by decide))) (fun v w2 ⟨hv, q2, hk2, hM⟩ => ?_)
  subst hv
  have hp : Hp w2 [(_, Cl [_, _, _] _), (_, Cl [_, _] _)] := hp.call [] [0, 1] (by decide) rfl hM
  have hF := hF.step hM.fr (fun y hy => .inl hy)
  refine Ls_y (wtd0 rfl) rfl rfl (y_assign rfl rfl) ?_
  refine Ls_nil (Th_n (hK2 _ _ ?_))
  refine wR (fR (Res1 rfl rfl) ?_)
  rw [← next_rnum hk.1]
  exact ⟨rfl, q2, hk2, hF, hp, hM.nw⟩
theorem oRint_ok (g : Nat) (q : Option Nat) (t : RdM) (w : World) (hk : Eok q t) (hp : Hp w (rdH g q t)) (m : Int) (hm : m < 9223372036854775808) :
    Fn Tryz.prog 39 [.pointer (some ⟨g, 0, none⟩), .int .i64 m] w fun v w' => v = .int .i64 (rint_m t m).1 ∧ RdTo g q t (rint_m t m).2 w w' := by
  refine Fn_of 10 Ty.en_39 Tryz.func39 rfl rfl rfl ?_
  dsimp only [argEnv]
  have hp : Hp w [(_, Cl [_, _, _] _), (_, Cl [_, _] _)] := hp
  have hF := Fr.refl (keys (rdH g q t)) w
  refine Wp_seq fun K1 hK1 => ?_
  refine Wp_region ?_
  refine Ls_y (wtd0 rfl) rfl rfl (y_assign rfl rfl) ?_
  refine Ls_nil (Th_n (hK1 _ _ ?_))
  refine Wp_seq fun K2 hK2 => ?_
  refine Wp_region ?_
  refine Ls_y (wtd0 rfl) rfl rfl (y_move rfl rfl) ?_
  refine Ls_y (wtd0 rfl) rfl rfl (y_move rfl rfl) ?_
  refine Ls_y (wtd0 rfl) rfl rfl (y_mkfn (fs := [_]) (cs := []) rfl rfl rfl) ?_
  refine Ls_a (wtd0 rfl) ?_
  refine a_call rfl rfl rfl rfl (onext_ok g q t _ 71 [.int .i64 m] (oright_m m) (fun w u => oright_ok w m u) hk (hp.pk [0, 1] (by decide))) (fun v w2 ⟨hv, q2, hk2, hM⟩ => ?_)
  subst hv
  have hp : Hp w2 [(_, Cl [_, _, _] _), (_, Cl [_, _] _)] := hp.call [] [0, 1] (by decide) rfl hM
  have hF := hF.step hM.fr (fun y hy => .inl hy)
  refine Ls_y (wtd0 rfl) rfl rfl (y_cvi rfl rfl Tryz.underlying99 Tryz.underlying3 rfl) ?_
  refine Ls_y (wtd0 rfl) rfl rfl (y_assign rfl rfl) ?_
  refine Ls_nil (Th_n (hK2 _ _ ?_))
  refine wR (fR (Res1 rfl rfl) ?_)
  rw [← next_rint hk.1 hm]
  exact ⟨rfl, q2, hk2, hF, hp, hM.nw⟩
theorem oRtext_ok (g : Nat) (q : Option Nat) (t : RdM) (w : World) (hk : Eok q t) (hp : Hp w (rdH g q t)) (m : Int) (hm : m < 9223372036854775808) :
    Fn Tryz.prog 40 [.pointer (some ⟨g, 0, none⟩), .int .i64 m] w fun v w' => v = sv (rtext_m t m).1 ∧ RdTo g q t (rtext_m t m).2 w w' := by
  refine Fn_of 54 Ty.en_40 Tryz.func40 rfl rfl rfl ?_
  dsimp only [argEnv]
  have hp : Hp w [(_, Cl [_, _, _] _), (_, Cl [_, _] _)] := hp
  have hF := Fr.refl (keys (rdH g q t)) w
  have hgX : g ∈ keys (rdH g q t) := by simp [keys, rdH]
  have hb := hk.1.b
  have hv0 := rint_v hk.1 hm
  have hcc := rtext_c1_iff t m
  refine Wp_seq fun K1 hK1 => ?_
  refine Wp_region ?_
  refine Ls_y (wtd0 rfl) rfl rfl (y_assign rfl rfl) ?_
  refine Ls_nil (Th_n (hK1 _ _ ?_))
  refine Wp_seq fun K2 hK2 => ?_
  refine Wp_region ?_
  refine Ls_y (wtd0 rfl) rfl rfl (y_move rfl rfl) ?_
  refine Ls_y (wtd0 rfl) rfl rfl (y_nil rfl rfl) ?_
  refine Ls_y (wtd0 rfl) rfl rfl (y_fld rfl rfl Ty.fo_110_1) ?_
  first
    | refine Ls_y (wtd0 rfl) rfl rfl (y_load (i := 0) rfl rfl Ty.pl_3 (fun _ e => e ▸ hp) rfl rfl) ?_
    | refine Ls_y (wtd0 rfl) rfl rfl (y_load (i := 1) rfl rfl Ty.pl_3 (fun _ e => e ▸ hp) rfl rfl) ?_
  refine Ls_y (wtd0 rfl) rfl rfl (y_assign rfl rfl) ?_
  refine Ls_nil (Th_n (hK2 _ _ ?_))
  refine Wp_seq fun K3 hK3 => ?_
  refine Wp_region ?_
  refine Ls_y (wtd0 rfl) rfl rfl (y_move rfl rfl) ?_
  refine Ls_y (wtd0 rfl) rfl rfl (y_move rfl rfl) ?_
  refine Ls_a (wtd0 rfl) ?_
  refine a_call rfl rfl rfl rfl (oRint_ok g q t _ hk (hp.pk [0, 1] (by decide)) m hm) (fun v w2 ⟨hv, q2, hk2, hM⟩ => ?_)
  subst hv
  have hp : Hp w2 [(_, Cl [_, _, _] _), (_, Cl [_, _] _)] := hp.call [] [0, 1] (by decide) rfl hM
  have hF := hF.step hM.fr (fun y hy => .inl hy)
  have hb2 := hk2.1.b
  have hM2 := hM
  refine Ls_y (wtd0 rfl) rfl rfl (y_assign rfl rfl) ?_
  refine Ls_nil (Th_n (hK3 _ _ ?_))
  refine Wp_seq fun K4 hK4 => ?_
  refine Wp_seq fun K5 hK5 => ?_
  refine Wp_region ?_
  refine Ls_y (wtd0 rfl) rfl rfl (y_move rfl rfl) ?_
  refine Ls_y (wtd0 rfl) rfl rfl (y_nil rfl rfl) ?_
  refine Ls_y (wtd0 rfl) rfl rfl (y_fld rfl rfl Ty.fo_110_2) ?_
  first
    | refine Ls_y (wtd0 rfl) rfl rfl (y_load (i := 0) rfl rfl Ty.pl_108 (fun _ e => e ▸ hp) rfl rfl) ?_
    | refine Ls_y (wtd0 rfl) rfl rfl (y_load (i := 1) rfl rfl Ty.pl_108 (fun _ e => e ▸ hp) rfl rfl) ?_
  refine Ls_y (wtd0 rfl) rfl rfl (y_neE rfl rfl Tryz.underlying108 hk2.2) ?_
  refine Ls_bool 19 rfl (fun hc1 => ?_) (fun hc1 => ?_)
  all_goals try simp only [decide_eq_true_eq, decide_eq_false_iff_not, beq_iff_eq, bne_iff_ne, ne_eq, beq_eq_false_iff_ne, bne_eq_false_iff_eq, Bool.not_eq_true, Bool.not_eq_false] at hc1
  · refine Ls_nil (Th_n (hK5 _ _ ?_))
    refine Wp_cond_t rfl ?_
    refine Wp_seq fun K6 hK6 => ?_
    refine Wp_region ?_
    refine Ls_y (wtd0 rfl) rfl rfl (y_assign rfl rfl) ?_
    refine Ls_nil (Th_n (hK6 _ _ ?_))
    refine wR (Th_r (fR (Res1 rfl rfl) ?_))
    have h1 : ¬ (rint_m t m).2.f.e = 0 := by simpa using hc1
    have e1 : rtext_m t m = ([], (rint_m t m).2) := by unfold rtext_m; rw [if_neg (fun h => h1 (hcc.1 h).1), if_neg h1]
    rw [e1]
    exact ⟨rfl, q2, hk2, hF, hp, hM2.nw⟩
  · refine Ls_nil (Th_n (hK5 _ _ ?_))
    have h1 : (rint_m t m).2.f.e = 0 := by simpa using hc1
    refine Wp_cond_f rfl ?_
    refine Wp_skip (Th_n (hK4 _ _ ?_))
    refine Wp_seq fun K7 hK7 => ?_
    refine Wp_seq fun K8 hK8 => ?_
    refine Wp_region ?_
    refine Ls_y (wtd0 rfl) rfl rfl (y_move rfl rfl) ?_
    refine Ls_y (wtd0 rfl) rfl rfl (y_move rfl rfl) ?_
    refine Ls_a (wtd0 rfl) ?_
    refine a_call rfl rfl rfl rfl (oleft_ok g q2 (rint_m t m).2 _ hk2 hp) (fun v w3 ⟨hv, hf⟩ => ?_)
    subst hv
    have hp := hp.keep0 hf
    have hF := hF.step0 hf
    refine Ls_y (wtd0 rfl) rfl rfl (y_gt rfl rfl rfl) ?_
    refine Ls_bool 23 rfl (fun hc2 => ?_) (fun hc2 => ?_)
    all_goals try simp only [decide_eq_true_eq, decide_eq_false_iff_not, beq_iff_eq, bne_iff_ne, ne_eq, beq_eq_false_iff_ne, bne_eq_false_iff_eq, Bool.not_eq_true, Bool.not_eq_false] at hc2
    · refine Ls_nil (Th_n (hK8 _ _ ?_))
      refine Wp_cond_t rfl ?_
      refine Wp_seq fun K9 hK9 => ?_
      refine Wp_region ?_
      refine Ls_y (wtd0 rfl) rfl rfl (y_move rfl rfl) ?_
      refine Ls_y (wtd0 rfl) rfl rfl (y_move rfl rfl) ?_
      refine Ls_y (wtd0 rfl) rfl rfl (y_nil rfl rfl) ?_
      refine Ls_y (wtd0 rfl) rfl rfl (y_fld rfl rfl Ty.fo_110_1) ?_
      refine Ls_a (wtd0 rfl) ?_
      first
        | refine a_store (i := 0) rfl rfl rfl rfl rfl Ty.sz_3 rfl hp rfl (by first | decide | (simp; done) | (simp; omega)) (fun w1 (hp : Hp w1 [(_, Cl [_, _, _] _), (_, Cl [_, _] _)]) hf _ => ?_)
        | refine a_store (i := 1) rfl rfl rfl rfl rfl Ty.sz_3 rfl hp rfl (by first | decide | (simp; done) | (simp; omega)) (fun w1 (hp : Hp w1 [(_, Cl [_, _, _] _), (_, Cl [_, _] _)]) hf _ => ?_)
      have hF := hF.step hf (by intro y hy; simp only [List.mem_cons, List.not_mem_nil, or_false] at hy; subst hy; first | (exact Or.inr (by omega)) | (exact Or.inl (by simp)) | (exact Or.inl hgX))
      refine Ls_nil (Th_n (hK9 _ _ ?_))
      refine Wp_seq fun K10 hK10 => ?_
      refine Wp_region ?_
      refine Ls_y (wtd0 rfl) rfl rfl (y_move rfl rfl) ?_
      refine Ls_a (wtd0 rfl) ?_
      refine a_call rfl rfl rfl rfl (ofail_ok g q2 ⟨(rint_m t m).2.s, t.a, (rint_m t m).2.f⟩ 1 _ ⟨rint_back hk.1 hm, hk2.2⟩ (hp.pk [0, 1] (by decide))) (fun v w5 ⟨hv, q3, hk3, hM⟩ => ?_)
      subst hv
      have hF1 := hF
      have hp : Hp w5 [(_, Cl [_, _, _] _), (_, Cl [_, _] _)] := hp.call [] [0, 1] (by decide) rfl hM
      have hF := hF.step hM.fr (hM2.nw)
      refine Ls_nil (Th_n (hK10 _ _ ?_))
      refine Wp_seq fun K11 hK11 => ?_
      refine Wp_region ?_
      refine Ls_y (wtd0 rfl) rfl rfl (y_assign rfl rfl) ?_
      refine Ls_nil (Th_n (hK11 _ _ ?_))
      refine wR (Th_r (fR (Res1 rfl rfl) ?_))
      have e1 : rtext_m t m = ([], rfail_m ⟨(rint_m t m).2.s, t.a, (rint_m t m).2.f⟩ 1) := by unfold rtext_m; rw [if_pos (hcc.2 ⟨h1, hc2⟩)]
      rw [e1]
      exact ⟨rfl, q3, hk3, hF, hp, fun k hk => (hM.nw k hk).elim (hM2.nw k) (fun h => .inr (Nat.le_trans hF1.size h))⟩
    · refine Ls_nil (Th_n (hK8 _ _ ?_))
      refine Wp_cond_f rfl ?_
      refine Wp_skip (Th_n (hK7 _ _ ?_))
      refine Wp_seq fun K12 hK12 => ?_
      refine Wp_plan (fun W => Hp W (heapOf hp)) [(true, 0), (true, 1), (true, 2), (true, 3), (true, 4), (true, 5), (true, 6), (true, 7), (true, 8), (true, 9), (true, 10), (true, 11), (true, 12), (true, 13), (true, 14), (true, 15)] Ty.mx_0 (by kernel_rfl) (by kernel_rfl) rfl (hp.drew) ?_
      have hp := hp.drew
      have hF := hF.step0 (Fr.drew _)
      refine Pl_y rfl (wtd0 rfl) rfl rfl (y_move rfl rfl) ?_
      refine Pl_y rfl (wtd0 rfl) rfl rfl (y_nil rfl rfl) ?_
      refine Pl_y rfl (wtd0 rfl) rfl rfl (y_fld rfl rfl Ty.fo_110_0) ?_
      first
        | refine Pl_y rfl (wtd0 rfl) rfl rfl (y_load (i := 0) rfl rfl Ty.pl_9 (fun _ h => h) rfl rfl) ?_
        | refine Pl_y rfl (wtd0 rfl) rfl rfl (y_load (i := 1) rfl rfl Ty.pl_9 (fun _ h => h) rfl rfl) ?_
      refine Pl_y rfl (wtd0 rfl) rfl rfl (y_move rfl rfl) ?_
      refine Pl_y rfl (wtd0 rfl) rfl rfl (y_nil rfl rfl) ?_
      refine Pl_y rfl (wtd0 rfl) rfl rfl (y_fld rfl rfl Ty.fo_110_1) ?_
      first
        | refine Pl_y rfl (wtd0 rfl) rfl rfl (y_load (i := 0) rfl rfl Ty.pl_3 (fun _ h => h) rfl rfl) ?_
        | refine Pl_y rfl (wtd0 rfl) rfl rfl (y_load (i := 1) rfl rfl Ty.pl_3 (fun _ h => h) rfl rfl) ?_
      refine Pl_y rfl (wtd0 rfl) rfl rfl (y_move rfl rfl) ?_
      refine Pl_y rfl (wtd0 rfl) rfl rfl (y_nil rfl rfl) ?_
      refine Pl_y rfl (wtd0 rfl) rfl rfl (y_fld rfl rfl Ty.fo_110_1) ?_
      first
        | refine Pl_y rfl (wtd0 rfl) rfl rfl (y_load (i := 0) rfl rfl Ty.pl_3 (fun _ h => h) rfl rfl) ?_
        | refine Pl_y rfl (wtd0 rfl) rfl rfl (y_load (i := 1) rfl rfl Ty.pl_3 (fun _ h => h) rfl rfl) ?_
      refine Pl_y rfl (wtd0 rfl) rfl rfl (y_move rfl rfl) ?_
      first
        | refine Pl_y rfl (wtd0 rfl) rfl rfl (y_add rfl rfl rfl (w_addN (by first | omega | (simp; omega)))) ?_
        | refine Pl_y rfl (wtd0 rfl) rfl rfl (y_add rfl rfl rfl (wf_i64 (by omega))) ?_
        | refine Pl_y rfl (wtd0 rfl) rfl rfl (y_add rfl rfl rfl rfl) ?_
      refine Pl_y rfl (wtd0 rfl) rfl rfl (y_cuts (p := (rint_m t m).2.a) (q := (rint_m t m).2.a + (rint_m t m).1) rfl rfl Tryz.underlying9 rfl rfl (by omega) (by omega) (by omega)) ?_
      refine Pl_y rfl (wtd0 rfl) rfl rfl (y_assign rfl rfl) ?_
      refine Pl_nil (Th_n (hK12 _ _ ?_))
      refine Wp_seq fun K13 hK13 => ?_
      refine Wp_region ?_
      refine Ls_y (wtd0 rfl) rfl rfl (y_move rfl rfl) ?_
      refine Ls_y (wtd0 rfl) rfl rfl (y_nil rfl rfl) ?_
      refine Ls_y (wtd0 rfl) rfl rfl (y_fld rfl rfl Ty.fo_110_1) ?_
      first
        | refine Ls_y (wtd0 rfl) rfl rfl (y_load (i := 0) rfl rfl Ty.pl_3 (fun _ e => e ▸ hp) rfl rfl) ?_
        | refine Ls_y (wtd0 rfl) rfl rfl (y_load (i := 1) rfl rfl Ty.pl_3 (fun _ e => e ▸ hp) rfl rfl) ?_
      refine Ls_y (wtd0 rfl) rfl rfl (y_move rfl rfl) ?_
      first
        | refine Ls_y (wtd0 rfl) rfl rfl (y_add rfl rfl rfl (w_addN (by first | omega | (simp; omega)))) ?_
        | refine Ls_y (wtd0 rfl) rfl rfl (y_add rfl rfl rfl (wf_i64 (by omega))) ?_
        | refine Ls_y (wtd0 rfl) rfl rfl (y_add rfl rfl rfl rfl) ?_
      refine Ls_y (wtd0 rfl) rfl rfl (y_nil rfl rfl) ?_
      refine Ls_y (wtd0 rfl) rfl rfl (y_fld rfl rfl Ty.fo_110_1) ?_
      refine Ls_a (wtd0 rfl) ?_
      first
        | refine a_store (i := 0) rfl rfl rfl rfl rfl Ty.sz_3 rfl hp rfl (by first | decide | (simp; done) | (simp; omega)) (fun w1 (hp : Hp w1 [(_, Cl [_, _, _] _), (_, Cl [_, _] _)]) hf _ => ?_)
        | refine a_store (i := 1) rfl rfl rfl rfl rfl Ty.sz_3 rfl hp rfl (by first | decide | (simp; done) | (simp; omega)) (fun w1 (hp : Hp w1 [(_, Cl [_, _, _] _), (_, Cl [_, _] _)]) hf _ => ?_)
      have hF := hF.step hf (by intro y hy; simp only [List.mem_cons, List.not_mem_nil, or_false] at hy; subst hy; first | (exact Or.inr (by omega)) | (exact Or.inl (by simp)) | (exact Or.inl hgX))
      refine Ls_nil (Th_n (hK13 _ _ ?_))
      refine Wp_seq fun K14 hK14 => ?_
      refine Wp_region ?_
      refine Ls_y (wtd0 rfl) rfl rfl (y_move rfl rfl) ?_
      refine Ls_y (wtd0 rfl) rfl rfl (y_assign rfl rfl) ?_
      refine Ls_nil (Th_n (hK14 _ _ ?_))
      refine wR (fR (Res1 rfl rfl) ?_)
      have e1 : rtext_m t m = (((rint_m t m).2.s.take ((rint_m t m).2.a + (rint_m t m).1).toNat).drop (rint_m t m).2.a.toNat, ⟨(rint_m t m).2.s, (rint_m t m).2.a + (rint_m t m).1, (rint_m t m).2.f⟩) := by unfold rtext_m; rw [if_neg (fun h => hc2 (hcc.1 h).2), if_pos h1]
      have hr := rtext_rok (m := m) hk.1 hm
      rw [e1] at hr ⊢
      exact ⟨rfl, q2, ⟨hr, hk2.2⟩, hF, hp, hM2.nw⟩
end Go.Proofs.YtdckemiebnfjcaaGreatDoor
end

section
set_option linter.unusedSimpArgs false
set_option linter.unusedVariables false
namespace Go.Proofs.YtdckemiebnfjcaaGreatDoor
open Go.RowKit
def Ek (p : Nat × Option Nat) (t : RdM) : Prop := Eok p.2 t
theorem Ek.r {p : Nat × Option Nat} {t : RdM} (h : Ek p t) : Rok t := h.1
theorem rd_post {X : List Nat} {w w' : World} {g : Nat} {q : Option Nat} {T T' : RdM} (hs : St X w [(some g, Cl (rdC q T) 110), (q, Cl (ftC T) 163)] []) (h : RdTo g q T T' w w') : ∃ q' : Option Nat, Ek ⟨g, q'⟩ T' ∧ St X w' [(some g, Cl (rdC q' T') 110), (q', Cl (ftC T') 163)] [] ∧ Fr (keys [(some g, Cl (rdC q T) 110), (q, Cl (ftC T) 163)]) w w' ∧ (∀ k ∈ keys [(some g, Cl (rdC q' T') 110), (q', Cl (ftC T') 163)], k ∈ (keys [(some g, Cl (rdC q T) 110), (q, Cl (ftC T) 163)]) ∨ w.heap.size ≤ k) := by
  obtain ⟨q', hok, hM⟩ := h
  exact ⟨q', hok, hs.callM [] [0, 1] (by decide) rfl hM, hM.fr, hM.nw⟩
def rleft_m (t : RdM) : Int := t.s.length - t.a
def rnew_m (s : List UInt8) : RdM := ⟨s, 0, ⟨0, 0⟩⟩
theorem sFail_ok (X : List Nat) (w : World) (g : Nat) (q : Option Nat) (T : RdM) (hok : Ek ⟨g, q⟩ T) (e : Int) (hs : St X w [(some g, Cl (rdC q T) 110), (q, Cl (ftC T) 163)] [])  :
    Fn Tryz.prog 45 [.pointer (some ⟨g, 0, none⟩), .int .i64 e] w fun v w' => ∃ (q' : Option Nat), v = .tuple #[] ∧ Ek ⟨g, q'⟩ (rfail_m T e) ∧ St X w' [(some g, Cl (rdC q' (rfail_m T e)) 110), (q', Cl (ftC (rfail_m T e)) 163)] [] ∧ Fr (keys [(some g, Cl (rdC q T) 110), (q, Cl (ftC T) 163)]) w w' ∧ (∀ k ∈ keys [(some g, Cl (rdC q' (rfail_m T e)) 110), (q', Cl (ftC (rfail_m T e)) 163)], k ∈ (keys [(some g, Cl (rdC q T) 110), (q, Cl (ftC T) 163)]) ∨ w.heap.size ≤ k) :=
  (ofail_ok g q T e w hok hs.hp).mono fun v w' ⟨hv, hp⟩ => by
    obtain ⟨q', h1, h2⟩ := rd_post hs hp
    exact ⟨q', hv, h1, h2⟩
theorem sNum_ok (X : List Nat) (w : World) (g : Nat) (q : Option Nat) (T : RdM) (hok : Ek ⟨g, q⟩ T)  (hs : St X w [(some g, Cl (rdC q T) 110), (q, Cl (ftC T) 163)] [])  :
    Fn Tryz.prog 72 [.pointer (some ⟨g, 0, none⟩)] w fun v w' => ∃ (q' : Option Nat), v = .int .u64 (rnum_m T).1 ∧ Ek ⟨g, q'⟩ (rnum_m T).2 ∧ St X w' [(some g, Cl (rdC q' (rnum_m T).2) 110), (q', Cl (ftC (rnum_m T).2) 163)] [] ∧ Fr (keys [(some g, Cl (rdC q T) 110), (q, Cl (ftC T) 163)]) w w' ∧ (∀ k ∈ keys [(some g, Cl (rdC q' (rnum_m T).2) 110), (q', Cl (ftC (rnum_m T).2) 163)], k ∈ (keys [(some g, Cl (rdC q T) 110), (q, Cl (ftC T) 163)]) ∨ w.heap.size ≤ k) :=
  (oRnum_ok g q T w hok hs.hp).mono fun v w' ⟨hv, hp⟩ => by
    obtain ⟨q', h1, h2⟩ := rd_post hs hp
    exact ⟨q', hv, h1, h2⟩
theorem sInt_ok (X : List Nat) (w : World) (g : Nat) (q : Option Nat) (T : RdM) (hok : Ek ⟨g, q⟩ T) (m : Int) (hs : St X w [(some g, Cl (rdC q T) 110), (q, Cl (ftC T) 163)] []) (hm : m < 9223372036854775808) :
    Fn Tryz.prog 39 [.pointer (some ⟨g, 0, none⟩), .int .i64 m] w fun v w' => ∃ (q' : Option Nat), v = .int .i64 (rint_m T m).1 ∧ Ek ⟨g, q'⟩ (rint_m T m).2 ∧ St X w' [(some g, Cl (rdC q' (rint_m T m).2) 110), (q', Cl (ftC (rint_m T m).2) 163)] [] ∧ Fr (keys [(some g, Cl (rdC q T) 110), (q, Cl (ftC T) 163)]) w w' ∧ (∀ k ∈ keys [(some g, Cl (rdC q' (rint_m T m).2) 110), (q', Cl (ftC (rint_m T m).2) 163)], k ∈ (keys [(some g, Cl (rdC q T) 110), (q, Cl (ftC T) 163)]) ∨ w.heap.size ≤ k) :=
  (oRint_ok g q T w hok hs.hp m hm).mono fun v w' ⟨hv, hp⟩ => by
    obtain ⟨q', h1, h2⟩ := rd_post hs hp
    exact ⟨q', hv, h1, h2⟩
theorem sText_ok (X : List Nat) (w : World) (g : Nat) (q : Option Nat) (T : RdM) (hok : Ek ⟨g, q⟩ T) (m : Int) (hs : St X w [(some g, Cl (rdC q T) 110), (q, Cl (ftC T) 163)] []) (hm : m < 9223372036854775808) :
    Fn Tryz.prog 40 [.pointer (some ⟨g, 0, none⟩), .int .i64 m] w fun v w' => ∃ (q' : Option Nat), v = sv (rtext_m T m).1 ∧ Ek ⟨g, q'⟩ (rtext_m T m).2 ∧ St X w' [(some g, Cl (rdC q' (rtext_m T m).2) 110), (q', Cl (ftC (rtext_m T m).2) 163)] [] ∧ Fr (keys [(some g, Cl (rdC q T) 110), (q, Cl (ftC T) 163)]) w w' ∧ (∀ k ∈ keys [(some g, Cl (rdC q' (rtext_m T m).2) 110), (q', Cl (ftC (rtext_m T m).2) 163)], k ∈ (keys [(some g, Cl (rdC q T) 110), (q, Cl (ftC T) 163)]) ∨ w.heap.size ≤ k) :=
  (oRtext_ok g q T w hok hs.hp m hm).mono fun v w' ⟨hv, hp⟩ => by
    obtain ⟨q', h1, h2⟩ := rd_post hs hp
    exact ⟨q', hv, h1, h2⟩
theorem sLeft_ok (X : List Nat) (w : World) (g : Nat) (q : Option Nat) (T : RdM) (hok : Ek ⟨g, q⟩ T) (hs : St X w [(some g, Cl (rdC q T) 110), (q, Cl (ftC T) 163)] []) :
    Fn Tryz.prog 14 [.pointer (some ⟨g, 0, none⟩)] w fun v w' => v = .int .i64 (rleft_m T) ∧ Fr [] w w' :=
  (oleft_ok g q T w hok hs.hp).mono fun v w' ⟨hv, hw⟩ => ⟨hv, hw⟩
theorem sErr_ok (X : List Nat) (w : World) (g : Nat) (q : Option Nat) (T : RdM) (hok : Ek ⟨g, q⟩ T) (hs : St X w [(some g, Cl (rdC q T) 110), (q, Cl (ftC T) 163)] []) :
    Fn Tryz.prog 44 [.pointer (some ⟨g, 0, none⟩)] w fun v w' => v = errV 161 q ∧ Fr [] w w' :=
  (oerr_ok g q T w hok hs.hp).mono fun v w' ⟨hv, hw⟩ => ⟨hv, hw ▸ Fr.refl _ _⟩
theorem sNew_ok (X : List Nat) (w : World) (hX : Lo X w) (s : List UInt8) (hl : s.length ≤ 1000000) :
    Fn Tryz.prog 10 [sv s] w fun v w' => ∃ (g : Nat) (q : Option Nat), v = .pointer (some ⟨g, 0, none⟩) ∧ Ek ⟨g, q⟩ (rnew_m s) ∧ St X w' [(some g, Cl (rdC q (rnew_m s)) 110), (q, Cl (ftC (rnew_m s)) 163)] [] ∧ Fr [] w w' ∧ (∀ k ∈ keys [(some g, Cl (rdC q (rnew_m s)) 110), (q, Cl (ftC (rnew_m s)) 163)], w.heap.size ≤ k) := by
  refine (ronew_ok s w).mono ?_
  rintro v w' ⟨g, rfl, hN⟩
  have hN2 : New w w' [(some g, Cl (rdC none (rnew_m s)) 110), (none, Cl (ftC (rnew_m s)) 163)] := ⟨hN.fr, hN.hp.addNone _, hN.nw⟩
  refine ⟨g, none, rfl, ⟨⟨Int.le_refl _, ?_, hl, fun _ => rfl, Int.le_refl _, show (0 : Int) ≤ 1000000 by decide⟩, by simp [rnew_m]⟩, ?_, hN2.fr, hN2.nw⟩
  · simp [rnew_m]
  · exact ⟨hN2.hp, by simp, fun x hx => Nat.lt_of_lt_of_le (hX x hx) hN2.fr.size, fun x hx h => by have := hN2.nw x h; have := hX x hx; omega⟩
end Go.Proofs.YtdckemiebnfjcaaGreatDoor
end

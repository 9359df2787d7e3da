/- Walks printed by gen2.py out of our own specifications: what the functions named below do. -/
import Derived.Test.YtdgllcmlfblelaaGreatDoorSc
import Derived.Test.YtdgllcmlfblelaaGreatDoorB7
set_option linter.unusedSimpArgs false
set_option linter.unusedVariables false
namespace Go.Proofs.YtdgllcmlfblelaaGreatDoor
open Go.RowKit


theorem y_cutsD [Dfs] {P : Program} {n : Nat} {env : Env} {S : World → Prop} {o : Oper} {t : Nat} {x : Operand} {lo : Option Operand} {s : List UInt8} {p : Int} (ho : o.op = .slice t x lo none none) (hx : env.ev x = some (sv s)) (ht : P.underlying t = some .string) (hlo : cutLo env lo = some p) (h0 : 0 ≤ p) (h1 : p ≤ s.length) : Yld P n env S o (sv (s.drop p.toNat)) := by
  have := y_cuts (P := P) (n := n) (S := S) ho hx ht hlo rfl h0 h1 (Int.le_refl _)
  simpa using this
theorem number_L1_inr (s : List UInt8) : ∀ (fuel : Nat) (a b : Int), 0 ≤ a ∧ a < 18446744073709551616 → ∃ c d, number_L1 s fuel a b = .inr (c, d) ∧ 0 ≤ c ∧ c < 18446744073709551616
  | 0, a, b, h => ⟨a, b, rfl, h⟩
  | fuel + 1, a, b, h => by
    rw [number_L1]
    split
    · exact number_L1_inr s fuel _ _ ⟨bits_lo_u64 _ _ _, Int.lt_of_le_of_lt (bits_hi_u64 _ _ _) (by decide)⟩
    · exact ⟨a, b, rfl, h⟩
theorem number_cases (s : List UInt8) : (∃ e, number_m s = (0, 0, e) ∧ (e = 1 ∨ e = 3)) ∨ (∃ v n, number_m s = (v, n, 0) ∧ 1 ≤ n ∧ n ≤ 9 ∧ n ≤ s.length ∧ 0 ≤ v ∧ v < 18446744073709551616) := by
  unfold number_m
  have hb := UInt8.toNat_lt (ix s 0)
  split
  · exact .inl ⟨1, rfl, .inl rfl⟩
  split
  · exact .inl ⟨3, rfl, .inr rfl⟩
  split
  · exact .inl ⟨1, rfl, .inl rfl⟩
  split
  · exact .inl ⟨3, rfl, .inr rfl⟩
  · obtain ⟨c, d, e, h1, h2⟩ := number_L1_inr s ((1 + ((ix s 0).toNat : Int) - (1 : Int)).toNat + 1) 0 1 (by decide)
    rw [e]
    exact .inr ⟨c, _, rfl, by omega, by omega, by omega, h1, h2⟩
def nextM (rt : Int → Int) (t : RdM) : Int × RdM :=
  if t.f.e = 0 then
    if (number_m (t.s.drop t.a.toNat)).2.2 = 0 then
      if rt (number_m (t.s.drop t.a.toNat)).1 = 0 then ((number_m (t.s.drop t.a.toNat)).1, ⟨t.s, t.a + (number_m (t.s.drop t.a.toNat)).2.1, t.f⟩)
      else (0, rfail_m t (rt (number_m (t.s.drop t.a.toNat)).1))
    else (0, rfail_m t (number_m (t.s.drop t.a.toNat)).2.2)
  else (0, t)
theorem nextM_rok {rt : Int → Int} {t : RdM} (h : Rok t) : Rok (nextM rt t).2 := by
  have hb := h.b
  unfold nextM
  split
  · split
    · rename_i h1
      split
      · rcases number_cases (t.s.drop t.a.toNat) with ⟨e, he, _⟩ | ⟨v, n, he, h2, h3, h4, _⟩
        · rw [he] at h1; simp only at h1; omega
        · rw [he]; rw [List.length_drop] at h4; exact ⟨by simp only; omega, by simp only; omega, h.2.2.1, h.2.2.2⟩
      · exact rfail_rok h
    · exact rfail_rok h
  · exact h

set_option maxRecDepth 20000 in
theorem onext_err (g : Nat) (t : RdM) (w : World) (q : Nat) (fv : Value) (hp : Hp w [(some g, Cl (rdC (some q) t) 83)])  :
    Fn Tryz.prog 60 [.pointer (some ⟨g, 0, none⟩), fv] w fun v w' => v = .int .u64 0 ∧ w' = w := by
  refine Fn_of 46 Ty.en_60 Tryz.func60 rfl rfl rfl ?_
  dsimp only [argEnv]
  have hp : Hp w [(_, Cl [_, _, _] _)] := hp
  have hF := Fr.refl [] w
  refine Wp_seq fun K1 hK1 => ?_
  refine Wp_region ?_
  refine Ls_y (wtd0 rfl) rfl rfl (y_assign rfl rfl) ?_
  refine Ls_nil (Th_n (hK1 _ _ ?_))
  refine Wp_seq fun K2 hK2 => ?_
  refine Wp_seq fun K3 hK3 => ?_
  refine Wp_region ?_
  refine Ls_y (wtd0 rfl) rfl rfl (y_move rfl rfl) ?_
  refine Ls_y (wtd0 rfl) rfl rfl (y_nil rfl rfl) ?_
  refine Ls_y (wtd0 rfl) rfl rfl (y_fld rfl rfl Ty.fo_83_2) ?_
  refine Ls_y (wtd0 rfl) rfl rfl (y_load (i := 0) rfl rfl Ty.pl_65 (fun _ e => e ▸ hp) rfl rfl) ?_
  refine Ls_y (wtd0 rfl) rfl rfl (y_neNil (b := false) rfl rfl Tryz.underlying65 (fun d w => run_eq_ifni Tryz.underlying65 d w) (fun w y => by cases y <;> rfl)) ?_
  refine Ls_nil (Th_n (hK3 _ _ ?_))
  refine Wp_cond_t rfl ?_
  refine Wp_seq fun K4 hK4 => ?_
  refine Wp_region ?_
  refine Ls_y (wtd0 rfl) rfl rfl (y_assign rfl rfl) ?_
  refine Ls_nil (Th_n (hK4 _ _ ?_))
  refine Wp_ret (Th_r (Fq_ret (Res1 rfl rfl) ?_))
  exact ⟨rfl, rfl⟩

set_option maxRecDepth 20000 in
theorem onext_bad (g : Nat) (t : RdM) (w : World) (f : Nat) (fi : List Value) (rt : Int → Int) (hp : Hp w [(some g, Cl (rdC none t) 83)]) (hr0 : Rok t) (he : ¬ (number_m (t.s.drop t.a.toNat)).2.2 = 0) :
    Fn Tryz.prog 60 [.pointer (some ⟨g, 0, none⟩), .func (.func f) fi.toArray #[]] w fun v w' => v = .int .u64 0 ∧ ∃ q', Mod w w' [(some g, Cl (rdC none t) 83)] (rdH g (some q') ⟨t.s, t.a, ⟨t.a, (number_m (t.s.drop t.a.toNat)).2.2⟩⟩) := by
  refine Fn_of 46 Ty.en_60 Tryz.func60 rfl rfl rfl ?_
  dsimp only [argEnv]
  have hp : Hp w [(_, Cl [_, _, _] _)] := hp
  have hF := Fr.refl [g] w
  have hb := hr0.b
  have hlen : (t.s.drop t.a.toNat).length ≤ 1000000 := by rw [List.length_drop]; omega
  have hnc := number_cases (t.s.drop t.a.toNat)
  refine Wp_seq fun K1 hK1 => ?_
  refine Wp_region ?_
  refine Ls_y (wtd0 rfl) rfl rfl (y_assign rfl rfl) ?_
  refine Ls_nil (Th_n (hK1 _ _ ?_))
  refine Wp_seq fun K2 hK2 => ?_
  refine Wp_seq fun K3 hK3 => ?_
  refine Wp_region ?_
  refine Ls_y (wtd0 rfl) rfl rfl (y_move rfl rfl) ?_
  refine Ls_y (wtd0 rfl) rfl rfl (y_nil rfl rfl) ?_
  refine Ls_y (wtd0 rfl) rfl rfl (y_fld rfl rfl Ty.fo_83_2) ?_
  refine Ls_y (wtd0 rfl) rfl rfl (y_load (i := 0) rfl rfl Ty.pl_65 (fun _ e => e ▸ hp) rfl rfl) ?_
  refine Ls_y (wtd0 rfl) rfl rfl (y_neNil (b := true) rfl rfl Tryz.underlying65 (fun d w => run_eq_nilii Tryz.underlying65 d w) (fun w y => by cases y <;> rfl)) ?_
  refine Ls_nil (Th_n (hK3 _ _ ?_))
  refine Wp_cond_f rfl ?_
  refine Wp_skip (Th_n (hK2 _ _ ?_))
  refine Wp_seq fun K4 hK4 => ?_
  refine Wp_plan (fun W => Hp W (heapOf hp)) [(true, 0), (true, 1), (true, 2), (true, 3), (true, 4), (true, 5), (true, 6), (true, 7), (true, 8), (false, 9), (true, 10), (true, 11), (true, 12), (true, 13), (true, 14), (true, 15), (true, 16)] Ty.mx_0 (by kernel_rfl) (by kernel_rfl) rfl (hp.drew) ?_
  have hp := hp.drew
  have hF := hF.step0 (Fr.drew _)
  refine Pl_y rfl (wtd0 rfl) rfl rfl (y_move rfl rfl) ?_
  refine Pl_y rfl (wtd0 rfl) rfl rfl (y_nil rfl rfl) ?_
  refine Pl_y rfl (wtd0 rfl) rfl rfl (y_fld rfl rfl Ty.fo_83_0) ?_
  refine Pl_y rfl (wtd0 rfl) rfl rfl (y_load (i := 0) rfl rfl Ty.pl_9 (fun _ h => h) rfl rfl) ?_
  refine Pl_y rfl (wtd0 rfl) rfl rfl (y_move rfl rfl) ?_
  refine Pl_y rfl (wtd0 rfl) rfl rfl (y_nil rfl rfl) ?_
  refine Pl_y rfl (wtd0 rfl) rfl rfl (y_fld rfl rfl Ty.fo_83_1) ?_
  refine Pl_y rfl (wtd0 rfl) rfl rfl (y_load (i := 0) rfl rfl Ty.pl_3 (fun _ h => h) rfl rfl) ?_
  refine Pl_y rfl (wtd0 rfl) rfl rfl (y_cutsD rfl rfl Tryz.underlying9 rfl (by omega) (by omega)) ?_
  refine Pl_a rfl (wtd0 rfl) (by rfl) ?_
  refine a_call rfl rfl rfl rfl (number_ok _ (t.s.drop t.a.toNat) hlen) (fun v w2 ⟨hv, hf⟩ => ?_)
  subst hv
  have hp := hp.keep0 hf
  have hF := hF.step0 hf
  refine ⟨hp, ?_⟩
  refine Pl_y rfl (wtd0 rfl) rfl rfl (y_move rfl rfl) ?_
  refine Pl_y rfl (wtd0 rfl) rfl rfl (y_ext rfl rfl rfl) ?_
  refine Pl_y rfl (wtd0 rfl) rfl rfl (y_ext rfl rfl rfl) ?_
  refine Pl_y rfl (wtd0 rfl) rfl rfl (y_ext rfl rfl rfl) ?_
  refine Pl_y rfl (wtd0 rfl) rfl rfl (y_assign rfl rfl) ?_
  refine Pl_y rfl (wtd0 rfl) rfl rfl (y_assign rfl rfl) ?_
  refine Pl_y rfl (wtd0 rfl) rfl rfl (y_assign rfl rfl) ?_
  refine Pl_nil (Th_n (hK4 _ _ ?_))
  refine Wp_seq fun K5 hK5 => ?_
  refine Wp_seq fun K6 hK6 => ?_
  refine Wp_region ?_
  refine Ls_y (wtd0 rfl) rfl rfl (y_move rfl rfl) ?_
  refine Ls_y (wtd0 rfl) rfl rfl (y_eqF rfl rfl rfl (by omega)) ?_
  refine Ls_nil (Th_n (hK6 _ _ ?_))
  refine Wp_cond_f rfl ?_
  refine Wp_skip (Th_n (hK5 _ _ ?_))
  refine Wp_seq fun K7 hK7 => ?_
  refine Wp_seq fun K8 hK8 => ?_
  refine Wp_region ?_
  refine Ls_y (wtd0 rfl) rfl rfl (y_move rfl rfl) ?_
  refine Ls_y (wtd0 rfl) rfl rfl (y_neT rfl rfl rfl (by omega)) ?_
  refine Ls_nil (Th_n (hK8 _ _ ?_))
  have hF1 := hF
  refine Wp_cond_t rfl ?_
  refine Wp_seq fun K9 hK9 => ?_
  refine Wp_region ?_
  refine Ls_y (wtd0 rfl) rfl rfl (y_move rfl rfl) ?_
  refine Ls_y (wtd0 rfl) rfl rfl (y_move rfl rfl) ?_
  refine Ls_a (wtd0 rfl) ?_
  refine a_call rfl rfl rfl rfl (ofail_new g t _ ((number_m (t.s.drop t.a.toNat)).2.2) (hp.picks [0] (by decide)) he) (fun v w4 ⟨hv, q0, hM⟩ => ?_)
  subst hv
  have hp : Hp w4 [(_, Cl [_, _, _] _), (_, Cl [_, _] _)] := hp.call [] [0] (by decide) rfl hM
  have hF := hF.step hM.fr (by simp [keys])
  refine Ls_nil (Th_n (hK9 _ _ ?_))
  refine Wp_seq fun K10 hK10 => ?_
  refine Wp_region ?_
  refine Ls_y (wtd0 rfl) rfl rfl (y_assign rfl rfl) ?_
  refine Ls_nil (Th_n (hK10 _ _ ?_))
  refine Wp_ret (Th_r (Fq_ret (Res1 rfl rfl) ?_))
  exact ⟨rfl, q0, hF, hp, fun k hk => (hM.nw k hk).imp id (fun h => Nat.le_trans hF1.size h)⟩

set_option maxRecDepth 20000 in
theorem onext_not (g : Nat) (t : RdM) (w : World) (f : Nat) (fi : List Value) (rt : Int → Int) (hp : Hp w [(some g, Cl (rdC none t) 83)]) (hr : ∀ (w : World) (u : Int), Fn Tryz.prog f (fi ++ ([.int .u64 u] ++ [])) w fun v w' => v = .int .i64 (rt u) ∧ Fr [] w w') (hr0 : Rok t) (he : (number_m (t.s.drop t.a.toNat)).2.2 = 0) (hz : ¬ rt (number_m (t.s.drop t.a.toNat)).1 = 0) :
    Fn Tryz.prog 60 [.pointer (some ⟨g, 0, none⟩), .func (.func f) fi.toArray #[]] w fun v w' => v = .int .u64 0 ∧ ∃ q', Mod w w' [(some g, Cl (rdC none t) 83)] (rdH g (some q') ⟨t.s, t.a, ⟨t.a, rt (number_m (t.s.drop t.a.toNat)).1⟩⟩) := by
  refine Fn_of 46 Ty.en_60 Tryz.func60 rfl rfl rfl ?_
  dsimp only [argEnv]
  have hp : Hp w [(_, Cl [_, _, _] _)] := hp
  have hF := Fr.refl [g] w
  have hb := hr0.b
  have hlen : (t.s.drop t.a.toNat).length ≤ 1000000 := by rw [List.length_drop]; omega
  have hnc := number_cases (t.s.drop t.a.toNat)
  refine Wp_seq fun K1 hK1 => ?_
  refine Wp_region ?_
  refine Ls_y (wtd0 rfl) rfl rfl (y_assign rfl rfl) ?_
  refine Ls_nil (Th_n (hK1 _ _ ?_))
  refine Wp_seq fun K2 hK2 => ?_
  refine Wp_seq fun K3 hK3 => ?_
  refine Wp_region ?_
  refine Ls_y (wtd0 rfl) rfl rfl (y_move rfl rfl) ?_
  refine Ls_y (wtd0 rfl) rfl rfl (y_nil rfl rfl) ?_
  refine Ls_y (wtd0 rfl) rfl rfl (y_fld rfl rfl Ty.fo_83_2) ?_
  refine Ls_y (wtd0 rfl) rfl rfl (y_load (i := 0) rfl rfl Ty.pl_65 (fun _ e => e ▸ hp) rfl rfl) ?_
  refine Ls_y (wtd0 rfl) rfl rfl (y_neNil (b := true) rfl rfl Tryz.underlying65 (fun d w => run_eq_nilii Tryz.underlying65 d w) (fun w y => by cases y <;> rfl)) ?_
  refine Ls_nil (Th_n (hK3 _ _ ?_))
  refine Wp_cond_f rfl ?_
  refine Wp_skip (Th_n (hK2 _ _ ?_))
  refine Wp_seq fun K4 hK4 => ?_
  refine Wp_plan (fun W => Hp W (heapOf hp)) [(true, 0), (true, 1), (true, 2), (true, 3), (true, 4), (true, 5), (true, 6), (true, 7), (true, 8), (false, 9), (true, 10), (true, 11), (true, 12), (true, 13), (true, 14), (true, 15), (true, 16)] Ty.mx_0 (by kernel_rfl) (by kernel_rfl) rfl (hp.drew) ?_
  have hp := hp.drew
  have hF := hF.step0 (Fr.drew _)
  refine Pl_y rfl (wtd0 rfl) rfl rfl (y_move rfl rfl) ?_
  refine Pl_y rfl (wtd0 rfl) rfl rfl (y_nil rfl rfl) ?_
  refine Pl_y rfl (wtd0 rfl) rfl rfl (y_fld rfl rfl Ty.fo_83_0) ?_
  refine Pl_y rfl (wtd0 rfl) rfl rfl (y_load (i := 0) rfl rfl Ty.pl_9 (fun _ h => h) rfl rfl) ?_
  refine Pl_y rfl (wtd0 rfl) rfl rfl (y_move rfl rfl) ?_
  refine Pl_y rfl (wtd0 rfl) rfl rfl (y_nil rfl rfl) ?_
  refine Pl_y rfl (wtd0 rfl) rfl rfl (y_fld rfl rfl Ty.fo_83_1) ?_
  refine Pl_y rfl (wtd0 rfl) rfl rfl (y_load (i := 0) rfl rfl Ty.pl_3 (fun _ h => h) rfl rfl) ?_
  refine Pl_y rfl (wtd0 rfl) rfl rfl (y_cutsD rfl rfl Tryz.underlying9 rfl (by omega) (by omega)) ?_
  refine Pl_a rfl (wtd0 rfl) (by rfl) ?_
  refine a_call rfl rfl rfl rfl (number_ok _ (t.s.drop t.a.toNat) hlen) (fun v w2 ⟨hv, hf⟩ => ?_)
  subst hv
  have hp := hp.keep0 hf
  have hF := hF.step0 hf
  refine ⟨hp, ?_⟩
  refine Pl_y rfl (wtd0 rfl) rfl rfl (y_move rfl rfl) ?_
  refine Pl_y rfl (wtd0 rfl) rfl rfl (y_ext rfl rfl rfl) ?_
  refine Pl_y rfl (wtd0 rfl) rfl rfl (y_ext rfl rfl rfl) ?_
  refine Pl_y rfl (wtd0 rfl) rfl rfl (y_ext rfl rfl rfl) ?_
  refine Pl_y rfl (wtd0 rfl) rfl rfl (y_assign rfl rfl) ?_
  refine Pl_y rfl (wtd0 rfl) rfl rfl (y_assign rfl rfl) ?_
  refine Pl_y rfl (wtd0 rfl) rfl rfl (y_assign rfl rfl) ?_
  refine Pl_nil (Th_n (hK4 _ _ ?_))
  refine Wp_seq fun K5 hK5 => ?_
  refine Wp_seq fun K6 hK6 => ?_
  refine Wp_region ?_
  refine Ls_y (wtd0 rfl) rfl rfl (y_move rfl rfl) ?_
  refine Ls_y (wtd0 rfl) rfl rfl (y_eqT rfl rfl rfl (by omega)) ?_
  refine Ls_nil (Th_n (hK6 _ _ ?_))
  refine Wp_cond_t rfl ?_
  refine Wp_region ?_
  refine Ls_y (wtd0 rfl) rfl rfl (y_move rfl rfl) ?_
  refine Ls_y (wtd0 rfl) rfl rfl (y_move rfl rfl) ?_
  refine Ls_a (wtd0 rfl) ?_
  refine a_callv rfl rfl rfl rfl rfl ⟨_, fi, [], rfl, hr _ (number_m (t.s.drop t.a.toNat)).1⟩ (fun v w3 ⟨hv, hf⟩ => ?_)
  subst hv
  have hp := hp.keep0 hf
  have hF := hF.step0 hf
  refine Ls_y (wtd0 rfl) rfl rfl (y_assign rfl rfl) ?_
  refine Ls_nil (Th_n (hK5 _ _ ?_))
  refine Wp_seq fun K7 hK7 => ?_
  refine Wp_seq fun K8 hK8 => ?_
  refine Wp_region ?_
  refine Ls_y (wtd0 rfl) rfl rfl (y_move rfl rfl) ?_
  refine Ls_y (wtd0 rfl) rfl rfl (y_neT rfl rfl rfl (by omega)) ?_
  refine Ls_nil (Th_n (hK8 _ _ ?_))
  have hF1 := hF
  refine Wp_cond_t rfl ?_
  refine Wp_seq fun K9 hK9 => ?_
  refine Wp_region ?_
  refine Ls_y (wtd0 rfl) rfl rfl (y_move rfl rfl) ?_
  refine Ls_y (wtd0 rfl) rfl rfl (y_move rfl rfl) ?_
  refine Ls_a (wtd0 rfl) ?_
  refine a_call rfl rfl rfl rfl (ofail_new g t _ (rt (number_m (t.s.drop t.a.toNat)).1) (hp.picks [0] (by decide)) hz) (fun v w4 ⟨hv, q0, hM⟩ => ?_)
  subst hv
  have hp : Hp w4 [(_, Cl [_, _, _] _), (_, Cl [_, _] _)] := hp.call [] [0] (by decide) rfl hM
  have hF := hF.step hM.fr (by simp [keys])
  refine Ls_nil (Th_n (hK9 _ _ ?_))
  refine Wp_seq fun K10 hK10 => ?_
  refine Wp_region ?_
  refine Ls_y (wtd0 rfl) rfl rfl (y_assign rfl rfl) ?_
  refine Ls_nil (Th_n (hK10 _ _ ?_))
  refine Wp_ret (Th_r (Fq_ret (Res1 rfl rfl) ?_))
  exact ⟨rfl, q0, hF, hp, fun k hk => (hM.nw k hk).imp id (fun h => Nat.le_trans hF1.size h)⟩

set_option maxRecDepth 20000 in
theorem onext_good (g : Nat) (t : RdM) (w : World) (f : Nat) (fi : List Value) (rt : Int → Int) (hp : Hp w [(some g, Cl (rdC none t) 83)]) (hr : ∀ (w : World) (u : Int), Fn Tryz.prog f (fi ++ ([.int .u64 u] ++ [])) w fun v w' => v = .int .i64 (rt u) ∧ Fr [] w w') (hr0 : Rok t) (he : (number_m (t.s.drop t.a.toNat)).2.2 = 0) (hz : rt (number_m (t.s.drop t.a.toNat)).1 = 0) :
    Fn Tryz.prog 60 [.pointer (some ⟨g, 0, none⟩), .func (.func f) fi.toArray #[]] w fun v w' => v = .int .u64 (number_m (t.s.drop t.a.toNat)).1 ∧ Hp w' [(some g, Cl (rdC none ⟨t.s, t.a + (number_m (t.s.drop t.a.toNat)).2.1, t.f⟩) 83)] ∧ Fr [g] w w' := by
  refine Fn_of 46 Ty.en_60 Tryz.func60 rfl rfl rfl ?_
  dsimp only [argEnv]
  have hp : Hp w [(_, Cl [_, _, _] _)] := hp
  have hF := Fr.refl [g] w
  have hb := hr0.b
  have hlen : (t.s.drop t.a.toNat).length ≤ 1000000 := by rw [List.length_drop]; omega
  have hnc := number_cases (t.s.drop t.a.toNat)
  have hn : 1 ≤ (number_m (t.s.drop t.a.toNat)).2.1 ∧ (number_m (t.s.drop t.a.toNat)).2.1 ≤ 9 := by
    rcases hnc with ⟨e, h1, h2⟩ | ⟨v, n, h1, h2, h3, h4, h5⟩
    · rw [h1] at he; simp only at he; omega
    · rw [h1]; exact ⟨h2, h3⟩
  refine Wp_seq fun K1 hK1 => ?_
  refine Wp_region ?_
  refine Ls_y (wtd0 rfl) rfl rfl (y_assign rfl rfl) ?_
  refine Ls_nil (Th_n (hK1 _ _ ?_))
  refine Wp_seq fun K2 hK2 => ?_
  refine Wp_seq fun K3 hK3 => ?_
  refine Wp_region ?_
  refine Ls_y (wtd0 rfl) rfl rfl (y_move rfl rfl) ?_
  refine Ls_y (wtd0 rfl) rfl rfl (y_nil rfl rfl) ?_
  refine Ls_y (wtd0 rfl) rfl rfl (y_fld rfl rfl Ty.fo_83_2) ?_
  refine Ls_y (wtd0 rfl) rfl rfl (y_load (i := 0) rfl rfl Ty.pl_65 (fun _ e => e ▸ hp) rfl rfl) ?_
  refine Ls_y (wtd0 rfl) rfl rfl (y_neNil (b := true) rfl rfl Tryz.underlying65 (fun d w => run_eq_nilii Tryz.underlying65 d w) (fun w y => by cases y <;> rfl)) ?_
  refine Ls_nil (Th_n (hK3 _ _ ?_))
  refine Wp_cond_f rfl ?_
  refine Wp_skip (Th_n (hK2 _ _ ?_))
  refine Wp_seq fun K4 hK4 => ?_
  refine Wp_plan (fun W => Hp W (heapOf hp)) [(true, 0), (true, 1), (true, 2), (true, 3), (true, 4), (true, 5), (true, 6), (true, 7), (true, 8), (false, 9), (true, 10), (true, 11), (true, 12), (true, 13), (true, 14), (true, 15), (true, 16)] Ty.mx_0 (by kernel_rfl) (by kernel_rfl) rfl (hp.drew) ?_
  have hp := hp.drew
  have hF := hF.step0 (Fr.drew _)
  refine Pl_y rfl (wtd0 rfl) rfl rfl (y_move rfl rfl) ?_
  refine Pl_y rfl (wtd0 rfl) rfl rfl (y_nil rfl rfl) ?_
  refine Pl_y rfl (wtd0 rfl) rfl rfl (y_fld rfl rfl Ty.fo_83_0) ?_
  refine Pl_y rfl (wtd0 rfl) rfl rfl (y_load (i := 0) rfl rfl Ty.pl_9 (fun _ h => h) rfl rfl) ?_
  refine Pl_y rfl (wtd0 rfl) rfl rfl (y_move rfl rfl) ?_
  refine Pl_y rfl (wtd0 rfl) rfl rfl (y_nil rfl rfl) ?_
  refine Pl_y rfl (wtd0 rfl) rfl rfl (y_fld rfl rfl Ty.fo_83_1) ?_
  refine Pl_y rfl (wtd0 rfl) rfl rfl (y_load (i := 0) rfl rfl Ty.pl_3 (fun _ h => h) rfl rfl) ?_
  refine Pl_y rfl (wtd0 rfl) rfl rfl (y_cutsD rfl rfl Tryz.underlying9 rfl (by omega) (by omega)) ?_
  refine Pl_a rfl (wtd0 rfl) (by rfl) ?_
  refine a_call rfl rfl rfl rfl (number_ok _ (t.s.drop t.a.toNat) hlen) (fun v w2 ⟨hv, hf⟩ => ?_)
  subst hv
  have hp := hp.keep0 hf
  have hF := hF.step0 hf
  refine ⟨hp, ?_⟩
  refine Pl_y rfl (wtd0 rfl) rfl rfl (y_move rfl rfl) ?_
  refine Pl_y rfl (wtd0 rfl) rfl rfl (y_ext rfl rfl rfl) ?_
  refine Pl_y rfl (wtd0 rfl) rfl rfl (y_ext rfl rfl rfl) ?_
  refine Pl_y rfl (wtd0 rfl) rfl rfl (y_ext rfl rfl rfl) ?_
  refine Pl_y rfl (wtd0 rfl) rfl rfl (y_assign rfl rfl) ?_
  refine Pl_y rfl (wtd0 rfl) rfl rfl (y_assign rfl rfl) ?_
  refine Pl_y rfl (wtd0 rfl) rfl rfl (y_assign rfl rfl) ?_
  refine Pl_nil (Th_n (hK4 _ _ ?_))
  refine Wp_seq fun K5 hK5 => ?_
  refine Wp_seq fun K6 hK6 => ?_
  refine Wp_region ?_
  refine Ls_y (wtd0 rfl) rfl rfl (y_move rfl rfl) ?_
  refine Ls_y (wtd0 rfl) rfl rfl (y_eqT rfl rfl rfl (by omega)) ?_
  refine Ls_nil (Th_n (hK6 _ _ ?_))
  refine Wp_cond_t rfl ?_
  refine Wp_region ?_
  refine Ls_y (wtd0 rfl) rfl rfl (y_move rfl rfl) ?_
  refine Ls_y (wtd0 rfl) rfl rfl (y_move rfl rfl) ?_
  refine Ls_a (wtd0 rfl) ?_
  refine a_callv rfl rfl rfl rfl rfl ⟨_, fi, [], rfl, hr _ (number_m (t.s.drop t.a.toNat)).1⟩ (fun v w3 ⟨hv, hf⟩ => ?_)
  subst hv
  have hp := hp.keep0 hf
  have hF := hF.step0 hf
  refine Ls_y (wtd0 rfl) rfl rfl (y_assign rfl rfl) ?_
  refine Ls_nil (Th_n (hK5 _ _ ?_))
  refine Wp_seq fun K7 hK7 => ?_
  refine Wp_seq fun K8 hK8 => ?_
  refine Wp_region ?_
  refine Ls_y (wtd0 rfl) rfl rfl (y_move rfl rfl) ?_
  refine Ls_y (wtd0 rfl) rfl rfl (y_neF rfl rfl rfl (by omega)) ?_
  refine Ls_nil (Th_n (hK8 _ _ ?_))
  refine Wp_cond_f rfl ?_
  refine Wp_skip (Th_n (hK7 _ _ ?_))
  refine Wp_seq fun K9 hK9 => ?_
  refine Wp_region ?_
  refine Ls_y (wtd0 rfl) rfl rfl (y_move rfl rfl) ?_
  refine Ls_y (wtd0 rfl) rfl rfl (y_nil rfl rfl) ?_
  refine Ls_y (wtd0 rfl) rfl rfl (y_fld rfl rfl Ty.fo_83_1) ?_
  refine Ls_y (wtd0 rfl) rfl rfl (y_load (i := 0) rfl rfl Ty.pl_3 (fun _ e => e ▸ hp) rfl rfl) ?_
  refine Ls_y (wtd0 rfl) rfl rfl (y_move rfl rfl) ?_
  first
    | refine Ls_y (wtd0 rfl) rfl rfl (y_add rfl rfl rfl (w_addN (by first | omega | (simp; omega)))) ?_
    | refine Ls_y (wtd0 rfl) rfl rfl (y_add rfl rfl rfl (wf_i64 (by omega))) ?_
    | refine Ls_y (wtd0 rfl) rfl rfl (y_add rfl rfl rfl rfl) ?_
  refine Ls_y (wtd0 rfl) rfl rfl (y_nil rfl rfl) ?_
  refine Ls_y (wtd0 rfl) rfl rfl (y_fld rfl rfl Ty.fo_83_1) ?_
  refine Ls_a (wtd0 rfl) ?_
  refine a_store (i := 0) rfl rfl rfl rfl rfl Ty.sz_3 rfl hp rfl (by first | decide | (simp; done) | (simp; omega)) (fun w1 (hp : Hp w1 [(_, Cl [_, _, _] _)]) hf _ => ?_)
  have hF := hF.step hf (by intro y hy; simp only [List.mem_cons, List.not_mem_nil, or_false] at hy; subst hy; first | (exact Or.inr (by omega)) | (exact Or.inl (by simp)))
  refine Ls_nil (Th_n (hK9 _ _ ?_))
  refine Wp_seq fun K10 hK10 => ?_
  refine Wp_region ?_
  refine Ls_y (wtd0 rfl) rfl rfl (y_move rfl rfl) ?_
  refine Ls_y (wtd0 rfl) rfl rfl (y_assign rfl rfl) ?_
  refine Ls_nil (Th_n (hK10 _ _ ?_))
  refine Wp_ret (Fq_ret (Res1 rfl rfl) ?_)
  exact ⟨rfl, hp, hF⟩

theorem onext_ok (g : Nat) (q : Option Nat) (t : RdM) (w : World) (f : Nat) (fi : List Value) (rt : Int → Int) (hr : ∀ (w : World) (u : Int), Fn Tryz.prog f (fi ++ ([.int .u64 u] ++ [])) w fun v w' => v = .int .i64 (rt u) ∧ Fr [] w w') (hk : Eok q t) (hp : Hp w (rdH g q t)) :
    Fn Tryz.prog 60 [.pointer (some ⟨g, 0, none⟩), .func (.func f) fi.toArray #[]] w fun v w' => v = .int .u64 (nextM rt t).1 ∧ RdTo g q t (nextM rt t).2 w w' := by
  have hrok := nextM_rok (rt := rt) hk.1
  cases q with
  | some q =>
    have h0 : ¬ t.f.e = 0 := fun h => by have := hk.2.2 h; cases this
    have e1 : nextM rt t = (0, t) := by unfold nextM; rw [if_neg h0]
    rw [e1]
    refine (onext_err g t w q _ (hp.picks [0] (by decide))).mono ?_
    rintro v w' ⟨rfl, rfl⟩
    exact ⟨rfl, RdTo.same hk hp⟩
  | none =>
    have h0 := hk.2.1 rfl
    by_cases he : (number_m (t.s.drop t.a.toNat)).2.2 = 0
    · by_cases hz : rt (number_m (t.s.drop t.a.toNat)).1 = 0
      · have e1 : nextM rt t = ((number_m (t.s.drop t.a.toNat)).1, ⟨t.s, t.a + (number_m (t.s.drop t.a.toNat)).2.1, t.f⟩) := by unfold nextM; rw [if_pos h0, if_pos he, if_pos hz]
        rw [e1] at hrok ⊢
        refine (onext_good g t w f fi rt (hp.picks [0] (by decide)) hr hk.1 he hz).mono ?_
        rintro v w' ⟨rfl, hp', hf⟩
        exact ⟨rfl, RdTo.at_ hk hrok hp hp' hf⟩
      · have e1 : nextM rt t = (0, ⟨t.s, t.a, ⟨t.a, rt (number_m (t.s.drop t.a.toNat)).1⟩⟩) := by unfold nextM; rw [if_pos h0, if_pos he, if_neg hz, rfail_at h0 hz]
        rw [e1] at hrok ⊢
        refine (onext_not g t w f fi rt (hp.picks [0] (by decide)) hr hk.1 he hz).mono ?_
        rintro v w' ⟨rfl, q', m⟩
        exact ⟨rfl, some q', ⟨hrok, by simp [hz]⟩, m.fr, m.hp, m.nw⟩
    · have e1 : nextM rt t = (0, ⟨t.s, t.a, ⟨t.a, (number_m (t.s.drop t.a.toNat)).2.2⟩⟩) := by unfold nextM; rw [if_pos h0, if_neg he, rfail_at h0 he]
      rw [e1] at hrok ⊢
      refine (onext_bad g t w f fi rt (hp.picks [0] (by decide)) hk.1 he).mono ?_
      rintro v w' ⟨rfl, q', m⟩
      exact ⟨rfl, some q', ⟨hrok, by simp [he]⟩, m.fr, m.hp, m.nw⟩

end Go.Proofs.YtdgllcmlfblelaaGreatDoor

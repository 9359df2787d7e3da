/- Walks printed by gen2.py out of our own specifications: what the functions named below do. -/
import Derived.Test.YtdgllcmlfblelaaGreatDoorSc
import Derived.Test.YtdgllcmlfblelaaGreatDoorBc
import Derived.Test.YtdgllcmlfblelaaGreatDoorEas
set_option linter.unusedSimpArgs false
set_option linter.unusedVariables false
namespace Go.Proofs.YtdgllcmlfblelaaGreatDoor
open Go.RowKit

theorem cellF {w w' : World} {a : Addr} {v : Value} (h : Fr [] w w') (hm : w.cell? a = some v) : w'.cell? a = some v := by rw [h.cell (cell_blk hm) (by simp)]; exact hm


section
variable [Dfs] {P : Program} {n : Nat} {env : Env} {S : World → Prop} {o : Oper}
theorem y_taNo {t xT a : Nat} {x : Operand} {v z : Value} (ho : o.op = .typeAssert x xT a true) (hx : env.ev x = some (.iface t v)) (hc : P.concrete a = true) (hz : (P.info? a).map (·.zero) = some (some z)) (hne : (t == a) = false) : Yld P n env S o (.tuple #[z, .bool false]) := fun r h w _ => by
  obtain ⟨j, hj, hz'⟩ := Option.map_eq_some_iff.1 hz
  have hta : t ≠ a := by simpa using hne
  have h2 : (Instr.typeAssert (.iface t v) xT a true).run P w = .ok (.tuple #[z, .bool false]) w := by
    unfold Program.concrete at hc
    cases hd : P.underlying a with
    | none => simp [hd] at hc
    | some d => cases d <;> first | (simp [hd] at hc; done) | simp [Instr.typeAssert, run_underlying hd, hta, zeroValue, typeInfo, hj, hz']
  unfold execOp
  simp only [ho, h.eval hx, Sem.run_bind, h2, Result.andThen_ok]
  rfl
theorem y_taYes {t xT : Nat} {x : Operand} {v : Value} (ho : o.op = .typeAssert x xT t true) (hx : env.ev x = some (.iface t v)) (hc : P.concrete t = true) : Yld P n env S o (.tuple #[v, .bool true]) := fun r h w _ => by
  have h2 : (Instr.typeAssert (.iface t v) xT t true).run P w = .ok (.tuple #[v, .bool true]) w := by
    unfold Program.concrete at hc
    cases hd : P.underlying t with
    | none => simp [hd] at hc
    | some d => cases d <;> first | (simp [hd] at hc; done) | simp [Instr.typeAssert, run_underlying hd]
  unfold execOp
  simp only [ho, h.eval hx, Sem.run_bind, h2, Result.andThen_ok]
  rfl
end
theorem Fr.setCell (w : World) (g k : Nat) (v : Value) : Fr [g] w (w.setCell ⟨g, k, none⟩ v) := ⟨rfl, rfl, rfl, by simp, fun j _ hj => heap_setCell_other w _ j v (by simpa using hj), Nat.le_refl _⟩
theorem Hp.one {w : World} {g : Nat} {o : Obj} (h : w.heap[g]? = some o) : Hp w [(some g, o)] := by
  refine ⟨fun i g' o' hi => ?_, fun i j g' o' o'' hi hj => ?_⟩
  · match i, hi with
    | 0, hi => simp at hi; obtain ⟨rfl, rfl⟩ := hi; exact h
  · match i, j, hi, hj with
    | 0, 0, _, _ => rfl
/-- errors.As, the target a variable of the error's own type. -/
theorem seenAs_ok (gf q : Nat) (w : World) (hp : Hp w [(some gf, Cl [.pointer none] 94)]) (hg : w.cell? ⟨0, 0, none⟩ = some (.iface 142 (.agg #[.pointer (some ⟨1, 65, none⟩)]))) :
    Fn Tryz.prog 46 [.iface 94 (.pointer (some ⟨q, 0, none⟩)), .iface 96 (.pointer (some ⟨gf, 0, none⟩))] w fun v w' => v = .bool true ∧ Mod w w' [(some gf, Cl [.pointer none] 94)] [(some gf, Cl [.pointer (some ⟨q, 0, none⟩)] 94)] := by
  have hb : w.heap[gf]? = some (Cl [.pointer none] 94) := hp.blk 0 gf _ rfl
  have hlt := heap_lt hb
  have ht0 : w.cell? ⟨gf, 0, none⟩ = some (.pointer none) := by simp [World.cell?, hb]
  have hf0 : w.frozen? ⟨gf, 0, none⟩ = false := by simp [World.frozen?, hb]
  refine ⟨by kernel_rfl, (as_hit ⟨q, 0, none⟩ ⟨gf, 0, none⟩ (.pointer none) w hg ht0 hf0).mono ?_⟩
  rintro e w' ⟨rfl, rfl⟩
  have hF := (((Fr.alloc w (.cells #[.pointer (some ⟨gf, 0, none⟩)] 96)).step0 (Fr.alloc _ (.cells #[.pointer (some ⟨1, 96, none⟩), .pointer (some ⟨w.heap.size, 0, none⟩), .int .u64 150] 123))).step0 (Fr.alloc _ (.cells #[.pointer (some ⟨1, 96, none⟩), .pointer (some ⟨w.heap.size, 0, none⟩), .int .u64 150] 123))).step0 (Fr.alloc _ (.cells #[.pointer (some ⟨q, 0, none⟩)] 94))
  have hb4 := (hF.block gf hlt (by simp)).trans hb
  have hs := heap_setCell_same _ gf 0 _ _ (.pointer (some ⟨q, 0, none⟩)) hb4
  exact ⟨_, rfl, rfl, (hF.mono (by simp)).step (Fr.setCell _ gf 0 (.pointer (some ⟨q, 0, none⟩))) (fun y hy => .inl hy), Hp.one hs, fun k hk => .inl hk⟩

set_option maxRecDepth 20000 in
theorem seen_nil (w : World) : Fn Tryz.prog 14 [.nilIface] w fun v w' => v = .agg #[.int .i64 0, .int .i64 0] ∧ Fr [] w w' := by
  refine Fn_of 68 Ty.en_14 Tryz.func14 rfl rfl rfl ?_
  dsimp only [argEnv]
  have hp := Hp.nil w
  have hF := Fr.refl [] w
  refine Wp_seq fun K1 hK1 => ?_
  refine Wp_region ?_
  refine Ls_a (wtd0 rfl) ?_
  refine a_alloc rfl rfl rfl Ty.zc_55 hp (fun g1 w1 (hp : Hp w1 [(_, Cl [_, _] _)]) hf hg1 => ?_)
  have hg1 := Nat.le_trans hF.size hg1
  have hF := hF.step0 hf
  refine Ls_nil (Th_n (hK1 _ _ ?_))
  refine Wp_seq fun K2 hK2 => ?_
  refine Wp_region ?_
  refine Ls_y (wtd0 rfl) rfl rfl (y_assign rfl rfl) ?_
  refine Ls_nil (Th_n (hK2 _ _ ?_))
  refine Wp_seq fun K3 hK3 => ?_
  refine Wp_seq fun K4 hK4 => ?_
  refine Wp_region ?_
  refine Ls_y (wtd0 rfl) rfl rfl (y_assign rfl rfl) ?_
  refine Ls_nil (Th_n (hK4 _ _ ?_))
  refine Wp_block ?_
  refine Wp_unroll 2 (WpR_succ ?_)
  refine Wp_seq fun K5 hK5 => ?_
  refine Wp_seq fun K6 hK6 => ?_
  refine Wp_region ?_
  refine Ls_y (wtd0 rfl) rfl rfl (y_move rfl rfl) ?_
  refine Ls_y (wtd0 rfl) rfl rfl (y_ltT rfl rfl rfl (by decide)) ?_
  refine Ls_nil (Th_n (hK6 _ _ ?_))
  refine Wp_cond_t rfl ?_
  refine Wp_skip (Th_n (hK5 _ _ ?_))
  refine Wp_seq fun K7 hK7 => ?_
  refine Wp_block ?_
  refine Wp_seq fun K8 hK8 => ?_
  refine Wp_seq fun K9 hK9 => ?_
  refine Wp_region ?_
  refine Ls_y (wtd0 rfl) rfl rfl (y_move rfl rfl) ?_
  refine Ls_y (wtd0 rfl) rfl rfl (y_eqNil (b := true) rfl rfl Tryz.underlying65 (fun d w => run_eq_nilii Tryz.underlying65 d w) (fun w y => by cases y <;> rfl)) ?_
  refine Ls_nil (Th_n (hK9 _ _ ?_))
  refine Wp_cond_t rfl ?_
  refine Wp_seq fun K10 hK10 => ?_
  refine Wp_region ?_
  refine Ls_y (wtd0 rfl) rfl rfl (y_build (cells := [_, _]) rfl rfl Ty.zc_55 Ty.ps_55 rfl) ?_
  refine Ls_a (wtd0 rfl) ?_
  refine a_storew (i := 0) rfl rfl rfl rfl Ty.sz_55 rfl (by first | assumption | (simp [Value.oneCell']; done)) hp rfl rfl (fun w2 (hp : Hp w2 [(_, Cl [_, _] _)]) hf _ => ?_)
  have hF := hF.step hf (by intro y hy; simp only [List.mem_cons, List.not_mem_nil, or_false] at hy; subst hy; first | (exact Or.inr (by omega)) | (exact Or.inl (by simp)))
  refine Ls_nil (Th_n (hK10 _ _ ?_))
  refine Wp_ret (Th_r (Ib_r (Th_r (Th_r (Ib_r (Th_r (Fq_ret (ResN1 rfl (rvc (i := 0) rfl Ty.ag_55 hp rfl rfl)) ?_)))))))
  exact ⟨rfl, hF⟩

set_option maxRecDepth 20000 in
set_option maxHeartbeats 1000000 in
theorem seen_err (q : Nat) (t : RdM) (w : World) (hp : Hp w [(some q, Cl (ftC t) 98)]) (hg : w.cell? ⟨0, 0, none⟩ = some (.iface 142 (.agg #[.pointer (some ⟨1, 65, none⟩)]))) (hb : 0 ≤ t.f.atF ∧ t.f.atF ≤ 1000000) (he : ¬ t.f.e = 0) : Fn Tryz.prog 14 [.iface 94 (.pointer (some ⟨q, 0, none⟩))] w fun v w' => v = .agg #[.int .i64 t.f.atF, .int .i64 t.f.e] ∧ Fr [] w w' := by
  refine Fn_of 68 Ty.en_14 Tryz.func14 rfl rfl rfl ?_
  dsimp only [argEnv]
  have hp : Hp w [(_, Cl [_, _] _)] := hp
  have hF := Fr.refl [] w
  refine Wp_seq fun K1 hK1 => ?_
  refine Wp_region ?_
  refine Ls_a (wtd0 rfl) ?_
  refine a_alloc rfl rfl rfl Ty.zc_55 hp (fun g1 w1 (hp : Hp w1 [(_, Cl [_, _] _), (_, Cl [_, _] _)]) hf hg1 => ?_)
  have hg1 := Nat.le_trans hF.size hg1
  have hF := hF.step0 hf
  refine Ls_nil (Th_n (hK1 _ _ ?_))
  refine Wp_seq fun K2 hK2 => ?_
  refine Wp_region ?_
  refine Ls_y (wtd0 rfl) rfl rfl (y_assign rfl rfl) ?_
  refine Ls_nil (Th_n (hK2 _ _ ?_))
  refine Wp_seq fun K3 hK3 => ?_
  refine Wp_seq fun K4 hK4 => ?_
  refine Wp_region ?_
  refine Ls_y (wtd0 rfl) rfl rfl (y_assign rfl rfl) ?_
  refine Ls_nil (Th_n (hK4 _ _ ?_))
  refine Wp_block ?_
  refine Wp_unroll 3 (WpR_succ ?_)
  refine Wp_seq fun K5 hK5 => ?_
  refine Wp_seq fun K6 hK6 => ?_
  refine Wp_region ?_
  refine Ls_y (wtd0 rfl) rfl rfl (y_move rfl rfl) ?_
  refine Ls_y (wtd0 rfl) rfl rfl (y_ltT rfl rfl rfl (by decide)) ?_
  refine Ls_nil (Th_n (hK6 _ _ ?_))
  refine Wp_cond_t rfl ?_
  refine Wp_skip (Th_n (hK5 _ _ ?_))
  refine Wp_seq fun K7 hK7 => ?_
  refine Wp_block ?_
  refine Wp_seq fun K8 hK8 => ?_
  refine Wp_seq fun K9 hK9 => ?_
  refine Wp_region ?_
  refine Ls_y (wtd0 rfl) rfl rfl (y_move rfl rfl) ?_
  refine Ls_y (wtd0 rfl) rfl rfl (y_eqNil (b := false) rfl rfl Tryz.underlying65 (fun d w => run_eq_ifni Tryz.underlying65 d w) (fun w y => by cases y <;> rfl)) ?_
  refine Ls_nil (Th_n (hK9 _ _ ?_))
  refine Wp_cond_f rfl ?_
  refine Wp_skip (Th_n (hK8 _ _ ?_))
  refine Wp_seq fun K10 hK10 => ?_
  refine Wp_region ?_
  refine Ls_y (wtd0 rfl) rfl rfl (y_move rfl rfl) ?_
  refine Ls_y (wtd0 rfl) rfl rfl (y_taNo (z := .int .i64 0) rfl rfl (by kernel_rfl) (by kernel_rfl) rfl) ?_
  refine Ls_y (wtd0 rfl) rfl rfl (y_move rfl rfl) ?_
  refine Ls_y (wtd0 rfl) rfl rfl (y_ext rfl rfl rfl) ?_
  refine Ls_y (wtd0 rfl) rfl rfl (y_ext rfl rfl rfl) ?_
  refine Ls_y (wtd0 rfl) rfl rfl (y_assign rfl rfl) ?_
  refine Ls_y (wtd0 rfl) rfl rfl (y_assign rfl rfl) ?_
  refine Ls_nil (Th_n (hK10 _ _ ?_))
  refine Wp_seq fun K11 hK11 => ?_
  refine Wp_seq fun K12 hK12 => ?_
  refine Wp_region ?_
  refine Ls_y (wtd0 rfl) rfl rfl (y_move rfl rfl) ?_
  refine Ls_nil (Th_n (hK12 _ _ ?_))
  refine Wp_cond_f rfl ?_
  refine Wp_skip (Th_n (hK11 _ _ ?_))
  refine Wp_seq fun K13 hK13 => ?_
  refine Wp_region ?_
  refine Ls_a (wtd0 rfl) ?_
  refine a_alloc rfl rfl rfl Ty.zc_94 hp (fun g2 w2 (hp : Hp w2 [(_, Cl [_, _] _), (_, Cl [_, _] _), (_, Cl [_] _)]) hf hg2 => ?_)
  have hg2 := Nat.le_trans hF.size hg2
  have hF := hF.step0 hf
  refine Ls_nil (Th_n (hK13 _ _ ?_))
  refine Wp_seq fun K14 hK14 => ?_
  refine Wp_seq fun K15 hK15 => ?_
  refine Wp_region ?_
  refine Ls_y (wtd0 rfl) rfl rfl (y_move rfl rfl) ?_
  refine Ls_y (wtd0 rfl) rfl rfl (y_mki rfl rfl (by kernel_rfl)) ?_
  refine Ls_a (wtd0 rfl) ?_
  refine a_call rfl rfl rfl rfl (seenAs_ok _ q _ (hp.picks [2] (by decide)) (cellF hF hg)) (fun v w9 ⟨hv, hM⟩ => ?_)
  subst hv
  have hp : Hp w9 [(_, Cl [_, _] _), (_, Cl [_, _] _), (_, Cl [_] _)] := hp.call [0, 1] [2] (by decide) rfl hM
  have hF := hF.step hM.fr (fun y hy => .inr (by simp only [keys, List.filterMap_cons, List.filterMap_nil, List.mem_cons, List.not_mem_nil, or_false] at hy; subst hy; omega))
  refine Ls_y (wtd0 rfl) rfl rfl (y_not rfl rfl) ?_
  refine Ls_y (wtd0 rfl) rfl rfl (y_move rfl rfl) ?_
  first
    | refine Ls_y (wtdT rfl rfl rfl) rfl rfl (y_load (i := 0) rfl rfl Ty.pl_94 (fun _ e => e ▸ hp) rfl rfl) ?_
    | refine Ls_y (wtdT rfl rfl rfl) rfl rfl (y_load (i := 1) rfl rfl Ty.pl_94 (fun _ e => e ▸ hp) rfl rfl) ?_
    | refine Ls_y (wtdT rfl rfl rfl) rfl rfl (y_load (i := 2) rfl rfl Ty.pl_94 (fun _ e => e ▸ hp) rfl rfl) ?_
  refine Ls_y (wtdT rfl rfl rfl) rfl rfl (y_eqnp rfl rfl rfl Tryz.underlying94) ?_
  refine Ls_bool 33 rfl (fun hc1 => absurd hc1 (by simp)) (fun _ => ?_)
  refine Ls_y (wtd0 rfl) rfl rfl (y_pick_f rfl rfl rfl) ?_
  refine Ls_y (wtd0 rfl) rfl rfl (y_move rfl rfl) ?_
  first
    | refine Ls_y (wtdT rfl rfl rfl) rfl rfl (y_load (i := 0) rfl rfl Ty.pl_94 (fun _ e => e ▸ hp) rfl rfl) ?_
    | refine Ls_y (wtdT rfl rfl rfl) rfl rfl (y_load (i := 1) rfl rfl Ty.pl_94 (fun _ e => e ▸ hp) rfl rfl) ?_
    | refine Ls_y (wtdT rfl rfl rfl) rfl rfl (y_load (i := 2) rfl rfl Ty.pl_94 (fun _ e => e ▸ hp) rfl rfl) ?_
  refine Ls_y (wtdT rfl rfl rfl) rfl rfl (y_nil rfl rfl) ?_
  refine Ls_y (wtdT rfl rfl rfl) rfl rfl (y_fld rfl rfl Ty.fo_98_0) ?_
  first
    | refine Ls_y (wtdT rfl rfl rfl) rfl rfl (y_load (i := 0) rfl rfl Ty.pl_3 (fun _ e => e ▸ hp) rfl rfl) ?_
    | refine Ls_y (wtdT rfl rfl rfl) rfl rfl (y_load (i := 1) rfl rfl Ty.pl_3 (fun _ e => e ▸ hp) rfl rfl) ?_
    | refine Ls_y (wtdT rfl rfl rfl) rfl rfl (y_load (i := 2) rfl rfl Ty.pl_3 (fun _ e => e ▸ hp) rfl rfl) ?_
  refine Ls_y (wtdT rfl rfl rfl) rfl rfl (y_ltF rfl rfl rfl (by omega)) ?_
  refine Ls_y (wtd0 rfl) rfl rfl (y_pick_f rfl rfl rfl) ?_
  refine Ls_y (wtd0 rfl) rfl rfl (y_move rfl rfl) ?_
  first
    | refine Ls_y (wtdT rfl rfl rfl) rfl rfl (y_load (i := 0) rfl rfl Ty.pl_94 (fun _ e => e ▸ hp) rfl rfl) ?_
    | refine Ls_y (wtdT rfl rfl rfl) rfl rfl (y_load (i := 1) rfl rfl Ty.pl_94 (fun _ e => e ▸ hp) rfl rfl) ?_
    | refine Ls_y (wtdT rfl rfl rfl) rfl rfl (y_load (i := 2) rfl rfl Ty.pl_94 (fun _ e => e ▸ hp) rfl rfl) ?_
  refine Ls_y (wtdT rfl rfl rfl) rfl rfl (y_nil rfl rfl) ?_
  refine Ls_y (wtdT rfl rfl rfl) rfl rfl (y_fld rfl rfl Ty.fo_98_0) ?_
  first
    | refine Ls_y (wtdT rfl rfl rfl) rfl rfl (y_load (i := 0) rfl rfl Ty.pl_3 (fun _ e => e ▸ hp) rfl rfl) ?_
    | refine Ls_y (wtdT rfl rfl rfl) rfl rfl (y_load (i := 1) rfl rfl Ty.pl_3 (fun _ e => e ▸ hp) rfl rfl) ?_
    | refine Ls_y (wtdT rfl rfl rfl) rfl rfl (y_load (i := 2) rfl rfl Ty.pl_3 (fun _ e => e ▸ hp) rfl rfl) ?_
  refine Ls_y (wtdT rfl rfl rfl) rfl rfl (y_gtF rfl rfl rfl (by omega)) ?_
  refine Ls_y (wtd0 rfl) rfl rfl (y_pick_f rfl rfl rfl) ?_
  refine Ls_y (wtd0 rfl) rfl rfl (y_move rfl rfl) ?_
  first
    | refine Ls_y (wtdT rfl rfl rfl) rfl rfl (y_load (i := 0) rfl rfl Ty.pl_94 (fun _ e => e ▸ hp) rfl rfl) ?_
    | refine Ls_y (wtdT rfl rfl rfl) rfl rfl (y_load (i := 1) rfl rfl Ty.pl_94 (fun _ e => e ▸ hp) rfl rfl) ?_
    | refine Ls_y (wtdT rfl rfl rfl) rfl rfl (y_load (i := 2) rfl rfl Ty.pl_94 (fun _ e => e ▸ hp) rfl rfl) ?_
  refine Ls_y (wtdT rfl rfl rfl) rfl rfl (y_nil rfl rfl) ?_
  refine Ls_y (wtdT rfl rfl rfl) rfl rfl (y_fld rfl rfl Ty.fo_98_1) ?_
  first
    | refine Ls_y (wtdT rfl rfl rfl) rfl rfl (y_load (i := 0) rfl rfl Ty.pl_65 (fun _ e => e ▸ hp) rfl rfl) ?_
    | refine Ls_y (wtdT rfl rfl rfl) rfl rfl (y_load (i := 1) rfl rfl Ty.pl_65 (fun _ e => e ▸ hp) rfl rfl) ?_
    | refine Ls_y (wtdT rfl rfl rfl) rfl rfl (y_load (i := 2) rfl rfl Ty.pl_65 (fun _ e => e ▸ hp) rfl rfl) ?_
  refine Ls_y (wtdT rfl rfl rfl) rfl rfl (y_eqNil (b := false) rfl rfl Tryz.underlying65 (fun d w => run_eq_ifni Tryz.underlying65 d w) (fun w y => by cases y <;> rfl)) ?_
  refine Ls_y (wtd0 rfl) rfl rfl (y_pick_f rfl rfl rfl) ?_
  refine Ls_nil (Th_n (hK15 _ _ ?_))
  refine Wp_cond_f rfl ?_
  refine Wp_skip (Th_n (hK14 _ _ ?_))
  refine Wp_seq fun K16 hK16 => ?_
  refine Wp_region ?_
  refine Ls_y (wtd0 rfl) rfl rfl (y_move rfl rfl) ?_
  first
    | refine Ls_y (wtd0 rfl) rfl rfl (y_load (i := 0) rfl rfl Ty.pl_94 (fun _ e => e ▸ hp) rfl rfl) ?_
    | refine Ls_y (wtd0 rfl) rfl rfl (y_load (i := 1) rfl rfl Ty.pl_94 (fun _ e => e ▸ hp) rfl rfl) ?_
    | refine Ls_y (wtd0 rfl) rfl rfl (y_load (i := 2) rfl rfl Ty.pl_94 (fun _ e => e ▸ hp) rfl rfl) ?_
  refine Ls_y (wtd0 rfl) rfl rfl (y_nil rfl rfl) ?_
  refine Ls_y (wtd0 rfl) rfl rfl (y_fld rfl rfl Ty.fo_98_0) ?_
  first
    | refine Ls_y (wtd0 rfl) rfl rfl (y_load (i := 0) rfl rfl Ty.pl_3 (fun _ e => e ▸ hp) rfl rfl) ?_
    | refine Ls_y (wtd0 rfl) rfl rfl (y_load (i := 1) rfl rfl Ty.pl_3 (fun _ e => e ▸ hp) rfl rfl) ?_
    | refine Ls_y (wtd0 rfl) rfl rfl (y_load (i := 2) rfl rfl Ty.pl_3 (fun _ e => e ▸ hp) rfl rfl) ?_
  refine Ls_y (wtd0 rfl) rfl rfl (y_add (c := t.f.atF) rfl rfl rfl (by rw [IntKind.wrap_i64]; omega)) ?_
  refine Ls_y (wtd0 rfl) rfl rfl (y_assign rfl rfl) ?_
  refine Ls_nil (Th_n (hK16 _ _ ?_))
  refine Wp_region ?_
  first
    | refine Ls_y (wtd0 rfl) rfl rfl (y_load (i := 0) rfl rfl Ty.pl_94 (fun _ e => e ▸ hp) rfl rfl) ?_
    | refine Ls_y (wtd0 rfl) rfl rfl (y_load (i := 1) rfl rfl Ty.pl_94 (fun _ e => e ▸ hp) rfl rfl) ?_
    | refine Ls_y (wtd0 rfl) rfl rfl (y_load (i := 2) rfl rfl Ty.pl_94 (fun _ e => e ▸ hp) rfl rfl) ?_
  refine Ls_y (wtd0 rfl) rfl rfl (y_nil rfl rfl) ?_
  refine Ls_y (wtd0 rfl) rfl rfl (y_fld rfl rfl Ty.fo_98_1) ?_
  first
    | refine Ls_y (wtd0 rfl) rfl rfl (y_load (i := 0) rfl rfl Ty.pl_65 (fun _ e => e ▸ hp) rfl rfl) ?_
    | refine Ls_y (wtd0 rfl) rfl rfl (y_load (i := 1) rfl rfl Ty.pl_65 (fun _ e => e ▸ hp) rfl rfl) ?_
    | refine Ls_y (wtd0 rfl) rfl rfl (y_load (i := 2) rfl rfl Ty.pl_65 (fun _ e => e ▸ hp) rfl rfl) ?_
  refine Ls_y (wtd0 rfl) rfl rfl (y_assign rfl rfl) ?_
  refine Ls_nil (Ib_n (Th_n (hK7 _ _ ?_)))
  refine Wp_region ?_
  refine Ls_y (wtd0 rfl) rfl rfl (y_move rfl rfl) ?_
  refine Ls_y (wtd0 rfl) rfl rfl (y_add (c := 1) rfl rfl rfl (by decide)) ?_
  refine Ls_y (wtd0 rfl) rfl rfl (y_assign rfl rfl) ?_
  refine Ls_nil (Th_n (WpR_succ ?_))
  refine Wp_seq fun K17 hK17 => ?_
  refine Wp_seq fun K18 hK18 => ?_
  refine Wp_region ?_
  refine Ls_y (wtd0 rfl) rfl rfl (y_move rfl rfl) ?_
  refine Ls_y (wtd0 rfl) rfl rfl (y_ltT rfl rfl rfl (by decide)) ?_
  refine Ls_nil (Th_n (hK18 _ _ ?_))
  refine Wp_cond_t rfl ?_
  refine Wp_skip (Th_n (hK17 _ _ ?_))
  refine Wp_seq fun K19 hK19 => ?_
  refine Wp_block ?_
  refine Wp_seq fun K20 hK20 => ?_
  refine Wp_seq fun K21 hK21 => ?_
  refine Wp_region ?_
  refine Ls_y (wtd0 rfl) rfl rfl (y_move rfl rfl) ?_
  refine Ls_y (wtd0 rfl) rfl rfl (y_eqNil (b := false) rfl rfl Tryz.underlying65 (fun d w => run_eq_ifni Tryz.underlying65 d w) (fun w y => by cases y <;> rfl)) ?_
  refine Ls_nil (Th_n (hK21 _ _ ?_))
  refine Wp_cond_f rfl ?_
  refine Wp_skip (Th_n (hK20 _ _ ?_))
  refine Wp_seq fun K22 hK22 => ?_
  refine Wp_region ?_
  refine Ls_y (wtd0 rfl) rfl rfl (y_move rfl rfl) ?_
  refine Ls_y (wtd0 rfl) rfl rfl (y_taYes rfl rfl (by kernel_rfl)) ?_
  refine Ls_y (wtd0 rfl) rfl rfl (y_move rfl rfl) ?_
  refine Ls_y (wtd0 rfl) rfl rfl (y_ext rfl rfl rfl) ?_
  refine Ls_y (wtd0 rfl) rfl rfl (y_ext rfl rfl rfl) ?_
  refine Ls_y (wtd0 rfl) rfl rfl (y_assign rfl rfl) ?_
  refine Ls_y (wtd0 rfl) rfl rfl (y_assign rfl rfl) ?_
  refine Ls_nil (Th_n (hK22 _ _ ?_))
  refine Wp_seq fun K23 hK23 => ?_
  refine Wp_seq fun K24 hK24 => ?_
  refine Wp_region ?_
  refine Ls_y (wtd0 rfl) rfl rfl (y_move rfl rfl) ?_
  refine Ls_nil (Th_n (hK24 _ _ ?_))
  refine Wp_cond_t rfl ?_
  refine Wp_seq fun K25 hK25 => ?_
  refine Wp_seq fun K26 hK26 => ?_
  refine Wp_region ?_
  refine Ls_y (wtd0 rfl) rfl rfl (y_move rfl rfl) ?_
  refine Ls_y (wtd0 rfl) rfl rfl (y_eqF rfl rfl rfl (by omega)) ?_
  refine Ls_nil (Th_n (hK26 _ _ ?_))
  refine Wp_cond_f rfl ?_
  refine Wp_skip (Th_n (hK25 _ _ ?_))
  refine Wp_seq fun K27 hK27 => ?_
  refine Wp_region ?_
  refine Ls_y (wtd0 rfl) rfl rfl (y_move rfl rfl) ?_
  refine Ls_y (wtd0 rfl) rfl rfl (y_move rfl rfl) ?_
  refine Ls_y (wtd0 rfl) rfl rfl (y_build (cells := [_, _]) rfl rfl Ty.zc_55 Ty.ps_55 rfl) ?_
  refine Ls_a (wtd0 rfl) ?_
  first
    | refine a_storew (i := 0) rfl rfl rfl rfl Ty.sz_55 rfl (by first | assumption | (simp [Value.oneCell']; done)) hp rfl rfl (fun w3 (hp : Hp w3 [(_, Cl [_, _] _), (_, Cl [_, _] _), (_, Cl [_] _)]) hf _ => ?_)
    | refine a_storew (i := 1) rfl rfl rfl rfl Ty.sz_55 rfl (by first | assumption | (simp [Value.oneCell']; done)) hp rfl rfl (fun w3 (hp : Hp w3 [(_, Cl [_, _] _), (_, Cl [_, _] _), (_, Cl [_] _)]) hf _ => ?_)
    | refine a_storew (i := 2) rfl rfl rfl rfl Ty.sz_55 rfl (by first | assumption | (simp [Value.oneCell']; done)) hp rfl rfl (fun w3 (hp : Hp w3 [(_, Cl [_, _] _), (_, Cl [_, _] _), (_, Cl [_] _)]) hf _ => ?_)
  have hF := hF.step hf (by intro y hy; simp only [List.mem_cons, List.not_mem_nil, or_false] at hy; subst hy; first | (exact Or.inr (by omega)) | (exact Or.inl (by simp)))
  refine Ls_nil (Th_n (hK27 _ _ ?_))
  first
    | refine Wp_ret (Th_r (Ib_r (Th_r (Th_r (Ib_r (Th_r (Fq_ret (ResN1 rfl (rvc (i := 0) rfl Ty.ag_55 hp rfl rfl)) ?_)))))))
    | refine Wp_ret (Th_r (Ib_r (Th_r (Th_r (Ib_r (Th_r (Fq_ret (ResN1 rfl (rvc (i := 1) rfl Ty.ag_55 hp rfl rfl)) ?_)))))))
    | refine Wp_ret (Th_r (Ib_r (Th_r (Th_r (Ib_r (Th_r (Fq_ret (ResN1 rfl (rvc (i := 2) rfl Ty.ag_55 hp rfl rfl)) ?_)))))))
  exact ⟨rfl, hF⟩

end Go.Proofs.YtdgllcmlfblelaaGreatDoor

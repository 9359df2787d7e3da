/- Walks printed by gen.py out of our own specifications: what the functions named below do. -/
import Derived.Test.YtcpfhnfpokijaaaM2
set_option linter.unusedSimpArgs false
set_option linter.unusedVariables false
namespace Go.Proofs.Ytcpfhnfpokijaaa
open Go.RowKit


theorem run_eq_nilif {P : Program} {t : Nat} {ms : Array (String × TypeId)} (ht : P.underlying t = some (.interface ms)) (d : Nat) (w : World) : (Op.equalIn (d + 1) t .nilIface .nilIface).run P w = .ok true w := by
  simp [Op.equalIn, run_underlying ht]
theorem y_nenil [Dfs] {P : Program} {n : Nat} {env : Env} {S : World → Prop} {o : Oper} {x : Operand} {t u : Nat} {ms : Array (String × TypeId)} (ho : o.op = .binOp .neq t x (.const .nilIface) u) (hx : env.ev x = some .nilIface) (ht : P.underlying t = some (.interface ms)) : Yld P n env S o (.bool false) := fun a r w _ => by
  have h := run_eq_nilif ht 9999 w
  have hg : (eqGuard .neq t x (.const .nilIface) .nilIface .nilIface).run P w = .ok () w := by cases x <;> rfl
  unfold execOp
  have ey : a.eval (.const .nilIface) = .nilIface := rfl
  simp only [ho, r.eval hx, ey, Sem.run_bind, hg, Result.andThen_ok, binOp]
  simp only [Op.equal, Op.maxDepth, h, Result.andThen_ok]
  rfl
theorem y_cutsE [Dfs] {P : Program} {n : Nat} {env : Env} {S : World → Prop} {o : Oper} {t i j : Nat} {x : Operand} {lo hi : Option Operand} {s u : List UInt8} (ho : o.op = .slice t x lo hi none) (hx : env.ev x = some (sv s)) (ht : P.underlying t = some .string) (hlo : cutLo env lo = some (i : Int)) (hhi : cutHi env s.length hi = some (j : Int))
    (h1 : i ≤ j) (h2 : j ≤ s.length) (he : (s.take j).drop i = u) : Yld P n env S o (sv u) := he ▸ y_cutsN ho hx ht hlo hhi h1 h2
theorem or_zero8 (b : UInt8) : bits .or .u64 0 (b.toNat : Int) = (b.toNat : Int) := by
  have h := b.toNat_lt
  rw [u64_or _ _ (by omega) (by omega) (by omega) (by omega)]
  simp
def rC (all : List UInt8) (at_ : Nat) : List Value := [sv all, .int .i64 (at_ : Int), .nilIface]

set_option maxRecDepth 20000 in
theorem onumber_ok (b : UInt8) (r : List UInt8) (w : World) (hb : ¬ ((b.toNat : Int) = 0)) : Fn Try.prog 62 [sv (1 :: b :: r)] w fun u w' => u = .tuple #[.int .u64 (b.toNat : Int), .int .i64 2, .int .i64 0] ∧ Fr [] w w' := by
  refine Fn_of 42 Ty.en_62 Try.func62 rfl rfl rfl ?_
  dsimp only [argEnv]
  have hp := Hp.nil w
  have hF := Fr.refl [] w
  have hbl := b.toNat_lt
  have hl2 : 2 ≤ (1 :: b :: r).length := by simp
  refine Wp_seq fun K1 hK1 => ?_
  refine Wp_region ?_
  refine Ls_y (wtd0 rfl) rfl rfl (y_assign rfl rfl) ?_
  refine Ls_y (wtd0 rfl) rfl rfl (y_assign rfl rfl) ?_
  refine Ls_y (wtd0 rfl) rfl rfl (y_assign rfl rfl) ?_
  refine Ls_nil (Th_n (hK1 _ _ ?_))
  refine Wp_seq fun K2 hK2 => ?_
  refine Wp_seq fun K3 hK3 => ?_
  refine Wp_region ?_
  refine Ls_y (wtd0 rfl) rfl rfl (y_move rfl rfl) ?_
  refine Ls_y (wtd0 rfl) rfl rfl (y_eqs rfl rfl rfl) ?_
  refine Ls_bool 7 rfl (fun hc1 => absurd hc1 (by simp)) (fun _ => ?_)
  refine Ls_nil (Th_n (hK3 _ _ ?_))
  refine Wp_cond_f rfl ?_
  refine Wp_skip (Th_n (hK2 _ _ ?_))
  refine Wp_seq fun K4 hK4 => ?_
  refine Wp_region ?_
  refine Ls_y (wtd0 rfl) rfl rfl (y_move rfl rfl) ?_
  refine Ls_y (wtd0 rfl) rfl rfl (show Yld _ _ _ _ _ (.int .u8 1) from y_ixs (q := 0) (b := 1) rfl rfl rfl Try.underlying9 (by omega) rfl) ?_
  first
    | refine Ls_y (wtd0 rfl) rfl rfl (y_cvi rfl rfl Try.underlying5 Try.underlying3 (wf_i64 (by omega))) ?_
    | refine Ls_y (wtd0 rfl) rfl rfl (y_cvi rfl rfl Try.underlying5 Try.underlying3 rfl) ?_
  first
    | refine Ls_y (wtd0 rfl) rfl rfl (y_add rfl rfl rfl (w_addN (a := 1) (by first | omega | (simp; omega)))) ?_
    | refine Ls_y (wtd0 rfl) rfl rfl (y_add rfl rfl rfl (wf_i64 (by omega))) ?_
    | refine Ls_y (wtd0 rfl) rfl rfl (y_add rfl rfl rfl rfl) ?_
  refine Ls_y (wtd0 rfl) rfl rfl (y_assign rfl rfl) ?_
  refine Ls_nil (Th_n (hK4 _ _ ?_))
  refine Wp_seq fun K5 hK5 => ?_
  refine Wp_block ?_
  refine Wp_seq fun K6 hK6 => ?_
  refine Wp_region ?_
  refine Ls_y (wtd0 rfl) rfl rfl (y_move rfl rfl) ?_
  refine Ls_y (wtd0 rfl) rfl rfl (y_gtF rfl rfl rfl (by omega)) ?_
  refine Ls_y (wtd0 rfl) rfl rfl (y_assign rfl rfl) ?_
  refine Ls_nil (Th_n (hK6 _ _ ?_))
  refine Wp_cond_f rfl ?_
  refine Wp_seq fun K7 hK7 => ?_
  refine Wp_region ?_
  refine Ls_y (wtd0 rfl) rfl rfl (y_move rfl rfl) ?_
  refine Ls_y (wtd0 rfl) rfl rfl (y_move rfl rfl) ?_
  refine Ls_y (wtd0 rfl) rfl rfl (y_lens rfl rfl Try.underlying9) ?_
  refine Ls_y (wtd0 rfl) rfl rfl (y_gtF rfl rfl rfl (by omega)) ?_
  refine Ls_y (wtd0 rfl) rfl rfl (y_assign rfl rfl) ?_
  refine Ls_nil (Th_n (hK7 _ _ ?_))
  refine Wp_cond_f rfl ?_
  refine Wp_seq fun K8 hK8 => ?_
  refine Wp_region ?_
  refine Ls_y (wtd0 rfl) rfl rfl (y_move rfl rfl) ?_
  refine Ls_y (wtd0 rfl) rfl rfl (y_gtT rfl rfl rfl (by omega)) ?_
  refine Ls_y (wtd0 rfl) rfl rfl (y_move rfl rfl) ?_
  refine Ls_y (wtdT rfl rfl rfl) rfl rfl (y_move rfl rfl) ?_
  refine Ls_y (wtdT rfl rfl rfl) rfl rfl (y_ixs (q := 1) (b := b) rfl rfl rfl Try.underlying9 (by omega) rfl) ?_
  refine Ls_y (wtdT rfl rfl rfl) rfl rfl (y_eq rfl rfl rfl) ?_
  refine Ls_bool 26 rfl (fun hc2 => absurd hc2 (by simpa using hb)) (fun _ => ?_)
  refine Ls_y (wtd0 rfl) rfl rfl (y_pick_t rfl rfl rfl) ?_
  refine Ls_y (wtd0 rfl) rfl rfl (y_assign rfl rfl) ?_
  refine Ls_nil (Th_n (hK8 _ _ ?_))
  refine Wp_cond_f rfl ?_
  refine Wp_skip (Ib_n (Th_n (hK5 _ _ ?_)))
  refine Wp_seq fun K9 hK9 => ?_
  refine Wp_seq fun K10 hK10 => ?_
  refine Wp_region ?_
  refine Ls_y (wtd0 rfl) rfl rfl (y_assign rfl rfl) ?_
  refine Ls_nil (Th_n (hK10 _ _ ?_))
  refine Wp_block ?_
  refine Wp_unroll 2 (WpR_succ ?_)
  refine Wp_seq fun K11 hK11 => ?_
  refine Wp_seq fun K12 hK12 => ?_
  refine Wp_region ?_
  refine Ls_y (wtd0 rfl) rfl rfl (y_move rfl rfl) ?_
  refine Ls_y (wtd0 rfl) rfl rfl (y_move rfl rfl) ?_
  refine Ls_y (wtd0 rfl) rfl rfl (y_ltT rfl rfl rfl (by omega)) ?_
  refine Ls_nil (Th_n (hK12 _ _ ?_))
  refine Wp_cond_t rfl ?_
  refine Wp_skip (Th_n (hK11 _ _ ?_))
  refine Wp_seq fun K13 hK13 => ?_
  refine Wp_block ?_
  refine Wp_region ?_
  refine Ls_y (wtd0 rfl) rfl rfl (y_move rfl rfl) ?_
  refine Ls_y (wtd0 rfl) rfl rfl (y_shlC (c := 0) 8 256 rfl rfl rfl (by decide) rfl rfl (by decide)) ?_
  refine Ls_y (wtd0 rfl) rfl rfl (y_move rfl rfl) ?_
  refine Ls_y (wtd0 rfl) rfl rfl (y_move rfl rfl) ?_
  refine Ls_y (wtd0 rfl) rfl rfl (y_ixs (q := 1) (b := b) rfl rfl rfl Try.underlying9 (by omega) rfl) ?_
  first
    | refine Ls_y (wtd0 rfl) rfl rfl (y_cvi rfl rfl Try.underlying5 Try.underlying24 (wf_u64 (by omega))) ?_
    | refine Ls_y (wtd0 rfl) rfl rfl (y_cvi rfl rfl Try.underlying5 Try.underlying24 wm_u64) ?_
  refine Ls_y (wtd0 rfl) rfl rfl (y_bits (c := (b.toNat : Int)) rfl rfl rfl (by simp) (or_zero8 b)) ?_
  refine Ls_y (wtd0 rfl) rfl rfl (y_assign rfl rfl) ?_
  refine Ls_nil (Ib_n (Th_n (hK13 _ _ ?_)))
  refine Wp_region ?_
  refine Ls_y (wtd0 rfl) rfl rfl (y_move rfl rfl) ?_
  refine Ls_y (wtd0 rfl) rfl rfl (y_add (c := 2) rfl rfl rfl (by decide)) ?_
  refine Ls_y (wtd0 rfl) rfl rfl (y_assign rfl rfl) ?_
  refine Ls_nil (Th_n (WpR_succ ?_))
  refine Wp_seq fun K14 hK14 => ?_
  refine Wp_seq fun K15 hK15 => ?_
  refine Wp_region ?_
  refine Ls_y (wtd0 rfl) rfl rfl (y_move rfl rfl) ?_
  refine Ls_y (wtd0 rfl) rfl rfl (y_move rfl rfl) ?_
  refine Ls_y (wtd0 rfl) rfl rfl (y_ltF rfl rfl rfl (by omega)) ?_
  refine Ls_nil (Th_n (hK15 _ _ ?_))
  refine Wp_cond_f rfl ?_
  refine Wp_exit (Th_e (Th_e (Ib_hit (Th_n (hK9 _ _ ?_)))))
  refine Wp_seq fun K16 hK16 => ?_
  refine Wp_region ?_
  refine Ls_y (wtd0 rfl) rfl rfl (y_move rfl rfl) ?_
  refine Ls_y (wtd0 rfl) rfl rfl (y_move rfl rfl) ?_
  refine Ls_y (wtd0 rfl) rfl rfl (y_assign rfl rfl) ?_
  refine Ls_y (wtd0 rfl) rfl rfl (y_assign rfl rfl) ?_
  refine Ls_y (wtd0 rfl) rfl rfl (y_assign rfl rfl) ?_
  refine Ls_nil (Th_n (hK16 _ _ ?_))
  refine Wp_ret (Fq_ret (Res3 rfl rfl rfl rfl) ?_)
  exact ⟨rfl, hF⟩

set_option maxRecDepth 20000 in
theorem oright_ok (m v : Int) (w : World) (hm : 0 ≤ m ∧ m ≤ 4611686018427387904) (hv : v ≤ m) : Fn Try.prog 60 [.int .i64 m, .int .u64 v] w fun u w' => u = .int .i64 0 ∧ w' = w := by
  refine Fn_of 13 Ty.en_60 Try.func60 rfl rfl rfl ?_
  dsimp only [argEnv]
  have hp := Hp.nil w
  have hF := Fr.refl [] w
  refine Wp_seq fun K1 hK1 => ?_
  refine Wp_region ?_
  refine Ls_y (wtd0 rfl) rfl rfl (y_assign rfl rfl) ?_
  refine Ls_nil (Th_n (hK1 _ _ ?_))
  refine Wp_seq fun K2 hK2 => ?_
  refine Wp_seq fun K3 hK3 => ?_
  refine Wp_region ?_
  refine Ls_y (wtd0 rfl) rfl rfl (y_move rfl rfl) ?_
  refine Ls_y (wtd0 rfl) rfl rfl (y_ltF rfl rfl rfl (by omega)) ?_
  refine Ls_y (wtd0 rfl) rfl rfl (y_move rfl rfl) ?_
  refine Ls_y (wtdT rfl rfl rfl) rfl rfl (y_move rfl rfl) ?_
  refine Ls_y (wtdT rfl rfl rfl) rfl rfl (y_move rfl rfl) ?_
  first
    | refine Ls_y (wtdT rfl rfl rfl) rfl rfl (y_cvi rfl rfl Try.underlying113 Try.underlying24 (wf_u64 (by omega))) ?_
    | refine Ls_y (wtdT rfl rfl rfl) rfl rfl (y_cvi rfl rfl Try.underlying113 Try.underlying24 wm_u64) ?_
  refine Ls_y (wtdT rfl rfl rfl) rfl rfl (y_gtF rfl rfl rfl (by omega)) ?_
  refine Ls_y (wtd0 rfl) rfl rfl (y_pick_f rfl rfl rfl) ?_
  refine Ls_nil (Th_n (hK3 _ _ ?_))
  refine Wp_cond_f rfl ?_
  refine Wp_skip (Th_n (hK2 _ _ ?_))
  refine Wp_seq fun K4 hK4 => ?_
  refine Wp_region ?_
  refine Ls_y (wtd0 rfl) rfl rfl (y_assign rfl rfl) ?_
  refine Ls_nil (Th_n (hK4 _ _ ?_))
  refine Wp_ret (Fq_ret (Res1 rfl rfl) ?_)
  exact ⟨rfl, rfl⟩

set_option maxRecDepth 20000 in
theorem onew_ok (s : List UInt8) (w : World) : Fn Try.prog 50 [sv s] w fun u w' => ∃ g, u = .pointer (some ⟨g, 0, none⟩) ∧ New w w' [(some g, Cl (rC s 0) 110)] := by
  refine Fn_of 6 Ty.en_50 Try.func50 rfl rfl rfl ?_
  dsimp only [argEnv]
  have hp := Hp.nil w
  have hF := Fr.refl [] w
  refine Wp_seq fun K1 hK1 => ?_
  refine Wp_region ?_
  refine Ls_y (wtd0 rfl) rfl rfl (y_assign rfl rfl) ?_
  refine Ls_nil (Th_n (hK1 _ _ ?_))
  refine Wp_seq fun K2 hK2 => ?_
  refine Wp_region ?_
  refine Ls_y (wtd0 rfl) rfl rfl (y_move rfl rfl) ?_
  refine Ls_y (wtd0 rfl) rfl rfl (y_build (cells := [_, _, _]) rfl rfl Ty.zc_110 Ty.ps_110 rfl) ?_
  refine Ls_a (wtd0 rfl) ?_
  refine a_box rfl rfl rfl rfl hp (fun g1 w1 (hp : Hp w1 [(_, Cl [_, _, _] _)]) hf hg1 => ?_)
  have hg1 := Nat.le_trans hF.size hg1
  have hF := hF.step0 hf
  refine Ls_y (wtd0 rfl) rfl rfl (y_assign rfl rfl) ?_
  refine Ls_nil (Th_n (hK2 _ _ ?_))
  refine Wp_ret (Fq_ret (Res1 rfl rfl) ?_)
  exact ⟨g1, rfl, ⟨hF, hp, by intro k hk; simp [keys] at hk; omega⟩⟩

set_option maxRecDepth 20000 in
theorem oerr_ok (g : Nat) (all : List UInt8) (at_ : Nat) (w : World) (hp : Hp w [(some g, Cl (rC all at_) 110)])  :
    Fn Try.prog 52 [.pointer (some ⟨g, 0, none⟩)] w fun v w' => v = .nilIface ∧ w' = w := by
  refine Fn_of 7 Ty.en_52 Try.func52 rfl rfl rfl ?_
  dsimp only [argEnv]
  have hp : Hp w [(_, Cl [_, _, _] _)] := hp
  have hF := Fr.refl [] w
  refine Wp_seq fun K1 hK1 => ?_
  refine Wp_region ?_
  refine Ls_y (wtd0 rfl) rfl rfl (y_assign rfl rfl) ?_
  refine Ls_nil (Th_n (hK1 _ _ ?_))
  refine Wp_seq fun K2 hK2 => ?_
  refine Wp_region ?_
  refine Ls_y (wtd0 rfl) rfl rfl (y_move rfl rfl) ?_
  refine Ls_y (wtd0 rfl) rfl rfl (y_nil rfl rfl) ?_
  refine Ls_y (wtd0 rfl) rfl rfl (y_fld rfl rfl Ty.fo_110_2) ?_
  refine Ls_y (wtd0 rfl) rfl rfl (y_load (i := 0) rfl rfl Ty.pl_97 (fun _ e => e ▸ hp) rfl rfl) ?_
  refine Ls_y (wtd0 rfl) rfl rfl (y_assign rfl rfl) ?_
  refine Ls_nil (Th_n (hK2 _ _ ?_))
  refine Wp_ret (Fq_ret (Res1 rfl rfl) ?_)
  exact ⟨rfl, rfl⟩

set_option maxRecDepth 20000 in
theorem oat_ok (g : Nat) (all : List UInt8) (at_ : Nat) (w : World) (hp : Hp w [(some g, Cl (rC all at_) 110)])  :
    Fn Try.prog 54 [.pointer (some ⟨g, 0, none⟩)] w fun v w' => v = .int .i64 (at_ : Int) ∧ w' = w := by
  refine Fn_of 7 Ty.en_54 Try.func54 rfl rfl rfl ?_
  dsimp only [argEnv]
  have hp : Hp w [(_, Cl [_, _, _] _)] := hp
  have hF := Fr.refl [] w
  refine Wp_seq fun K1 hK1 => ?_
  refine Wp_region ?_
  refine Ls_y (wtd0 rfl) rfl rfl (y_assign rfl rfl) ?_
  refine Ls_nil (Th_n (hK1 _ _ ?_))
  refine Wp_seq fun K2 hK2 => ?_
  refine Wp_region ?_
  refine Ls_y (wtd0 rfl) rfl rfl (y_move rfl rfl) ?_
  refine Ls_y (wtd0 rfl) rfl rfl (y_nil rfl rfl) ?_
  refine Ls_y (wtd0 rfl) rfl rfl (y_fld rfl rfl Ty.fo_110_1) ?_
  refine Ls_y (wtd0 rfl) rfl rfl (y_load (i := 0) rfl rfl Ty.pl_3 (fun _ e => e ▸ hp) rfl rfl) ?_
  refine Ls_y (wtd0 rfl) rfl rfl (y_assign rfl rfl) ?_
  refine Ls_nil (Th_n (hK2 _ _ ?_))
  refine Wp_ret (Fq_ret (Res1 rfl rfl) ?_)
  exact ⟨rfl, rfl⟩

set_option maxRecDepth 20000 in
theorem onext_ok (g : Nat) (all : List UInt8) (at_ : Nat) (w : World) (hp : Hp w [(some g, Cl (rC all at_) 110)]) (b : UInt8) (r : List UInt8) (m : Int) (hd : all.drop at_ = 1 :: b :: r) (hb : ¬ ((b.toNat : Int) = 0)) (hm : 0 ≤ m ∧ m ≤ 4611686018427387904) (hbm : (b.toNat : Int) ≤ m) (hal : all.length ≤ 1000000) :
    Fn Try.prog 59 [.pointer (some ⟨g, 0, none⟩), .func (.func 60) #[.int .i64 m] #[]] w fun v w' => v = .int .u64 (b.toNat : Int) ∧ Hp w' [(some g, Cl (rC all (at_ + 2)) 110)] ∧ Fr [g] w w' := by
  refine Fn_of 46 Ty.en_59 Try.func59 rfl rfl rfl ?_
  dsimp only [argEnv]
  have hp : Hp w [(_, Cl [_, _, _] _)] := hp
  have hF := Fr.refl [g] w
  have hat : at_ + 2 ≤ all.length := by have := congrArg List.length hd; simp at this; omega
  refine Wp_seq fun K1 hK1 => ?_
  refine Wp_region ?_
  refine Ls_y (wtd0 rfl) rfl rfl (y_assign rfl rfl) ?_
  refine Ls_nil (Th_n (hK1 _ _ ?_))
  refine Wp_seq fun K2 hK2 => ?_
  refine Wp_seq fun K3 hK3 => ?_
  refine Wp_region ?_
  refine Ls_y (wtd0 rfl) rfl rfl (y_move rfl rfl) ?_
  refine Ls_y (wtd0 rfl) rfl rfl (y_nil rfl rfl) ?_
  refine Ls_y (wtd0 rfl) rfl rfl (y_fld rfl rfl Ty.fo_110_2) ?_
  refine Ls_y (wtd0 rfl) rfl rfl (y_load (i := 0) rfl rfl Ty.pl_97 (fun _ e => e ▸ hp) rfl rfl) ?_
  refine Ls_y (wtd0 rfl) rfl rfl (y_nenil rfl rfl Try.underlying97) ?_
  refine Ls_nil (Th_n (hK3 _ _ ?_))
  refine Wp_cond_f rfl ?_
  refine Wp_skip (Th_n (hK2 _ _ ?_))
  refine Wp_seq fun K4 hK4 => ?_
  refine Wp_plan (fun W => Hp W (heapOf hp)) [(true, 0), (true, 1), (true, 2), (true, 3), (true, 4), (true, 5), (true, 6), (true, 7), (true, 8), (false, 9), (true, 10), (true, 11), (true, 12), (true, 13), (true, 14), (true, 15), (true, 16)] Ty.mx_0 (by kernel_rfl) (by kernel_rfl) rfl (hp.drew) ?_
  have hp := hp.drew
  have hF := hF.step0 (Fr.drew _)
  refine Pl_y rfl (wtd0 rfl) rfl rfl (y_move rfl rfl) ?_
  refine Pl_y rfl (wtd0 rfl) rfl rfl (y_nil rfl rfl) ?_
  refine Pl_y rfl (wtd0 rfl) rfl rfl (y_fld rfl rfl Ty.fo_110_0) ?_
  refine Pl_y rfl (wtd0 rfl) rfl rfl (y_load (i := 0) rfl rfl Ty.pl_9 (fun _ h => h) rfl rfl) ?_
  refine Pl_y rfl (wtd0 rfl) rfl rfl (y_move rfl rfl) ?_
  refine Pl_y rfl (wtd0 rfl) rfl rfl (y_nil rfl rfl) ?_
  refine Pl_y rfl (wtd0 rfl) rfl rfl (y_fld rfl rfl Ty.fo_110_1) ?_
  refine Pl_y rfl (wtd0 rfl) rfl rfl (y_load (i := 0) rfl rfl Ty.pl_3 (fun _ h => h) rfl rfl) ?_
  refine Pl_y rfl (wtd0 rfl) rfl rfl (y_cutsE (i := at_) (j := all.length) (u := 1 :: b :: r) rfl rfl Try.underlying9 rfl rfl (by omega) (Nat.le_refl _) (by rw [List.take_length]; exact hd)) ?_
  refine Pl_a rfl (wtd0 rfl) (by rfl) ?_
  refine a_call rfl rfl rfl rfl (onumber_ok b r _ hb) (fun v w2 ⟨hv, hf⟩ => ?_)
  subst hv
  have hp := hp.keep0 hf
  have hF := hF.step0 hf
  refine ⟨hp, ?_⟩
  refine Pl_y rfl (wtd0 rfl) rfl rfl (y_move rfl rfl) ?_
  refine Pl_y rfl (wtd0 rfl) rfl rfl (y_ext rfl rfl rfl) ?_
  refine Pl_y rfl (wtd0 rfl) rfl rfl (y_ext rfl rfl rfl) ?_
  refine Pl_y rfl (wtd0 rfl) rfl rfl (y_ext rfl rfl rfl) ?_
  refine Pl_y rfl (wtd0 rfl) rfl rfl (y_assign rfl rfl) ?_
  refine Pl_y rfl (wtd0 rfl) rfl rfl (y_assign rfl rfl) ?_
  refine Pl_y rfl (wtd0 rfl) rfl rfl (y_assign rfl rfl) ?_
  refine Pl_nil (Th_n (hK4 _ _ ?_))
  refine Wp_seq fun K5 hK5 => ?_
  refine Wp_seq fun K6 hK6 => ?_
  refine Wp_region ?_
  refine Ls_y (wtd0 rfl) rfl rfl (y_move rfl rfl) ?_
  refine Ls_y (wtd0 rfl) rfl rfl (y_eqT rfl rfl rfl (by omega)) ?_
  refine Ls_nil (Th_n (hK6 _ _ ?_))
  refine Wp_cond_t rfl ?_
  refine Wp_region ?_
  refine Ls_y (wtd0 rfl) rfl rfl (y_move rfl rfl) ?_
  refine Ls_y (wtd0 rfl) rfl rfl (y_move rfl rfl) ?_
  refine Ls_a (wtd0 rfl) ?_
  refine a_callv rfl rfl rfl rfl rfl ⟨_, [.int .i64 m], [], rfl, oright_ok m (b.toNat : Int) _ hm hbm⟩ (fun v w3 ⟨hv, hw⟩ => ?_)
  subst hv
  subst hw
  refine Ls_y (wtd0 rfl) rfl rfl (y_assign rfl rfl) ?_
  refine Ls_nil (Th_n (hK5 _ _ ?_))
  refine Wp_seq fun K7 hK7 => ?_
  refine Wp_seq fun K8 hK8 => ?_
  refine Wp_region ?_
  refine Ls_y (wtd0 rfl) rfl rfl (y_move rfl rfl) ?_
  refine Ls_y (wtd0 rfl) rfl rfl (y_neF rfl rfl rfl (by omega)) ?_
  refine Ls_nil (Th_n (hK8 _ _ ?_))
  refine Wp_cond_f rfl ?_
  refine Wp_skip (Th_n (hK7 _ _ ?_))
  refine Wp_seq fun K9 hK9 => ?_
  refine Wp_region ?_
  refine Ls_y (wtd0 rfl) rfl rfl (y_move rfl rfl) ?_
  refine Ls_y (wtd0 rfl) rfl rfl (y_nil rfl rfl) ?_
  refine Ls_y (wtd0 rfl) rfl rfl (y_fld rfl rfl Ty.fo_110_1) ?_
  refine Ls_y (wtd0 rfl) rfl rfl (y_load (i := 0) rfl rfl Ty.pl_3 (fun _ e => e ▸ hp) rfl rfl) ?_
  refine Ls_y (wtd0 rfl) rfl rfl (y_move rfl rfl) ?_
  first
    | refine Ls_y (wtd0 rfl) rfl rfl (y_add rfl rfl rfl (w_addN (by first | omega | (simp; omega)))) ?_
    | refine Ls_y (wtd0 rfl) rfl rfl (y_add rfl rfl rfl (wf_i64 (by omega))) ?_
    | refine Ls_y (wtd0 rfl) rfl rfl (y_add rfl rfl rfl rfl) ?_
  refine Ls_y (wtd0 rfl) rfl rfl (y_nil rfl rfl) ?_
  refine Ls_y (wtd0 rfl) rfl rfl (y_fld rfl rfl Ty.fo_110_1) ?_
  refine Ls_a (wtd0 rfl) ?_
  refine a_store (i := 0) rfl rfl rfl rfl rfl Ty.sz_3 rfl hp rfl (by first | decide | (simp; done) | (simp; omega)) (fun w1 (hp : Hp w1 [(_, Cl [_, _, _] _)]) hf _ => ?_)
  have hF := hF.step hf (by intro y hy; simp only [List.mem_cons, List.not_mem_nil, or_false] at hy; subst hy; first | (exact Or.inr (by omega)) | (exact Or.inl (by simp)))
  refine Ls_nil (Th_n (hK9 _ _ ?_))
  refine Wp_seq fun K10 hK10 => ?_
  refine Wp_region ?_
  refine Ls_y (wtd0 rfl) rfl rfl (y_move rfl rfl) ?_
  refine Ls_y (wtd0 rfl) rfl rfl (y_assign rfl rfl) ?_
  refine Ls_nil (Th_n (hK10 _ _ ?_))
  refine Wp_ret (Fq_ret (Res1 rfl rfl) ?_)
  exact ⟨rfl, hp, hF⟩

set_option maxRecDepth 20000 in
theorem oint_ok (g : Nat) (all : List UInt8) (at_ : Nat) (w : World) (hp : Hp w [(some g, Cl (rC all at_) 110)]) (b : UInt8) (r : List UInt8) (m : Int) (hd : all.drop at_ = 1 :: b :: r) (hb : ¬ ((b.toNat : Int) = 0)) (hm : 0 ≤ m ∧ m ≤ 4611686018427387904) (hbm : (b.toNat : Int) ≤ m) (hal : all.length ≤ 1000000) :
    Fn Try.prog 51 [.pointer (some ⟨g, 0, none⟩), .int .i64 m] w fun v w' => v = .int .i64 (b.toNat : Int) ∧ Hp w' [(some g, Cl (rC all (at_ + 2)) 110)] ∧ Fr [g] w w' := by
  refine Fn_of 10 Ty.en_51 Try.func51 rfl rfl rfl ?_
  dsimp only [argEnv]
  have hp : Hp w [(_, Cl [_, _, _] _)] := hp
  have hF := Fr.refl [g] w
  have hbl := b.toNat_lt
  refine Wp_seq fun K1 hK1 => ?_
  refine Wp_region ?_
  refine Ls_y (wtd0 rfl) rfl rfl (y_assign rfl rfl) ?_
  refine Ls_nil (Th_n (hK1 _ _ ?_))
  refine Wp_seq fun K2 hK2 => ?_
  refine Wp_region ?_
  refine Ls_y (wtd0 rfl) rfl rfl (y_move rfl rfl) ?_
  refine Ls_y (wtd0 rfl) rfl rfl (y_move rfl rfl) ?_
  refine Ls_y (wtd0 rfl) rfl rfl (y_mkfn (fs := [_]) (cs := []) rfl rfl rfl) ?_
  refine Ls_a (wtd0 rfl) ?_
  refine a_call rfl rfl rfl rfl (onext_ok g all at_ _ hp b r m hd hb hm hbm hal) (fun v w2 ⟨hv, hp, hf⟩ => ?_)
  subst hv
  have hp : Hp w2 [(_, Cl [_, _, _] _)] := hp
  have hF := hF.step hf (by simp)
  first
    | refine Ls_y (wtd0 rfl) rfl rfl (y_cvi rfl rfl Try.underlying24 Try.underlying3 (wf_i64 (by omega))) ?_
    | refine Ls_y (wtd0 rfl) rfl rfl (y_cvi rfl rfl Try.underlying24 Try.underlying3 rfl) ?_
  refine Ls_y (wtd0 rfl) rfl rfl (y_assign rfl rfl) ?_
  refine Ls_nil (Th_n (hK2 _ _ ?_))
  refine Wp_ret (Fq_ret (Res1 rfl rfl) ?_)
  exact ⟨rfl, hp, hF⟩

end Go.Proofs.Ytcpfhnfpokijaaa

/- Walks printed by gen.py out of our own specifications: what the functions named below do. -/
import Derived.Test.YtcpfhnfpokijaaaM4
set_option linter.unusedSimpArgs false
set_option linter.unusedVariables false
namespace Go.Proofs.Ytcpfhnfpokijaaa
open Go.RowKit


theorem y_remC [Dfs] {P : Program} {n : Nat} {env : Env} {S : World → Prop} {o : Oper} {x y : Operand} {t u : Nat} {k : IntKind} {p q c : Int} (ho : o.op = .binOp .rem t x y u) (hx : env.ev x = some (.int k p)) (hy : env.ev y = some (.int k q)) (hp : 0 ≤ p) (h0 : 0 < q) (hw : p % q = c) : Yld P n env S o (.int k c) := hw ▸ y_remP ho hx hy hp h0
theorem oint_m (g : Nat) (all : List UInt8) (at_ : Nat) (w : World) (hp : Hp w [(some g, Cl (rC all at_) 110)]) (b : UInt8) (r : List UInt8) (m : Int) (hd : all.drop at_ = 1 :: b :: r) (hb : ¬ ((b.toNat : Int) = 0)) (hm : 0 ≤ m ∧ m ≤ 4611686018427387904) (hbm : (b.toNat : Int) ≤ m) (hal : all.length ≤ 1000000) :
    Fn Try.prog 51 [.pointer (some ⟨g, 0, none⟩), .int .i64 m] w fun v w' => v = .int .i64 (b.toNat : Int) ∧ Mod w w' [(some g, Cl (rC all at_) 110)] [(some g, Cl (rC all (at_ + 2)) 110)] :=
  (oint_ok g all at_ w hp b r m hd hb hm hbm hal).mono fun _ _ h => ⟨h.1, h.2.2, h.2.1, fun _ hk => .inl hk⟩

set_option maxRecDepth 20000 in
set_option maxHeartbeats 2000000 in
theorem mwhole_ok (gm : Nat) (p : Dp) (D : Dk) (M : Mr) (w : World) (hp : Hp w (mH gm p D M)) (hD : DkOk D) (hM : MrB M) (hs1 : 1 ≤ M.size) (pl : Nat) (hpl : pl ≤ 1) (hg hq : Int) (a b : UInt8) (r : List UInt8) (hqr : 0 ≤ hq ∧ hq < 4294967296) (hq2 : hq % 2 = (pl : Int)) (ha : ¬ ((a.toNat : Int) = 0)) (hb : ¬ ((b.toNat : Int) = 0)) (hr : r.length = b.toNat) (hr2 : r.length ≤ 46) (hc : cellAt D ((M.base : Int) + ((pl * M.size : Nat) : Int)) = some (hg, hq, 0, 1 :: a :: 1 :: b :: r)) :
    Fn Try.prog 37 [.pointer (some ⟨gm, 0, none⟩), .int .i64 (pl : Int)] w fun v w' => v = .agg #[.int .u32 hq, .int .u32 (a.toNat : Int), sv r] ∧ Fr [] w w' := by
  refine Fn_of 75 Ty.en_37 Try.func37 rfl rfl rfl ?_
  dsimp only [argEnv]
  have hp : Hp w [(_, Cl [_, _, _, _, _] _), _, _, (_, Cl [_, _, _, _, _, _, _, _] _)] := hp
  have hF := Fr.refl [] w
  have hMr := hM
  have hms := hM.size
  have hal := a.toNat_lt
  have hbl := b.toNat_lt
  have hpm : pl * M.size ≤ 512 := Nat.le_trans (Nat.mul_le_mul_right _ hpl) (by omega)
  refine Wp_seq fun K1 hK1 => ?_
  refine Wp_region ?_
  refine Ls_a (wtd0 rfl) ?_
  refine a_alloc rfl rfl rfl Ty.zc_72 hp (fun g1 w1 (hp : Hp w1 [(_, Cl [_, _, _, _, _] _), _, _, (_, Cl [_, _, _, _, _, _, _, _] _), (_, Cl [_, _, _] _)]) hf hg1 => ?_)
  have hg1 := Nat.le_trans hF.size hg1
  have hF := hF.step0 hf
  refine Ls_nil (Th_n (hK1 _ _ ?_))
  refine Wp_seq fun K2 hK2 => ?_
  refine Wp_region ?_
  refine Ls_y (wtd0 rfl) rfl rfl (y_move rfl rfl) ?_
  refine Ls_y (wtd0 rfl) rfl rfl (y_move rfl rfl) ?_
  refine Ls_y (wtd0 rfl) rfl rfl (y_nil rfl rfl) ?_
  refine Ls_y (wtd0 rfl) rfl rfl (y_fld rfl rfl Ty.fo_74_2) ?_
  first
    | refine Ls_y (wtd0 rfl) rfl rfl (y_load (i := 0) rfl rfl Ty.pl_3 (fun _ e => e ▸ hp) rfl rfl) ?_
    | refine Ls_y (wtd0 rfl) rfl rfl (y_load (i := 1) rfl rfl Ty.pl_3 (fun _ e => e ▸ hp) rfl rfl) ?_
    | refine Ls_y (wtd0 rfl) rfl rfl (y_load (i := 2) rfl rfl Ty.pl_3 (fun _ e => e ▸ hp) rfl rfl) ?_
    | refine Ls_y (wtd0 rfl) rfl rfl (y_load (i := 3) rfl rfl Ty.pl_3 (fun _ e => e ▸ hp) rfl rfl) ?_
    | refine Ls_y (wtd0 rfl) rfl rfl (y_load (i := 4) rfl rfl Ty.pl_3 (fun _ e => e ▸ hp) rfl rfl) ?_
  refine Ls_y (wtd0 rfl) rfl rfl (y_mul (c := ((pl * M.size : Nat) : Int)) rfl rfl rfl (by rw [← Int.natCast_mul, IntKind.wrap_i64]; omega)) ?_
  refine Ls_y (wtd0 rfl) rfl rfl (y_assign rfl rfl) ?_
  refine Ls_nil (Th_n (hK2 _ _ ?_))
  refine Wp_seq fun K3 hK3 => ?_
  refine Wp_region ?_
  refine Ls_y (wtd0 rfl) rfl rfl (y_move rfl rfl) ?_
  refine Ls_y (wtd0 rfl) rfl rfl (y_move rfl rfl) ?_
  refine Ls_a (wtd0 rfl) ?_
  refine a_call rfl rfl rfl rfl (mcell_ok gm p D M _ (hp.picks [0, 1, 2, 3] (by decide)) hD hMr (pl * M.size) (by omega)) (fun v w2 ⟨hv, hf⟩ => ?_)
  rw [hc] at hv
  have hv : v = .tuple #[cellV hg hq 0 (1 :: a :: 1 :: b :: r), .bool true] := hv
  subst hv
  have hp := hp.keep0 hf
  have hF := hF.step0 hf
  refine Ls_y (wtd0 rfl) rfl rfl (y_move rfl rfl) ?_
  refine Ls_y (wtd0 rfl) rfl rfl (y_ext rfl rfl rfl) ?_
  refine Ls_y (wtd0 rfl) rfl rfl (y_ext rfl rfl rfl) ?_
  refine Ls_a (wtd0 rfl) ?_
  refine a_alloc rfl rfl rfl Ty.zc_60 hp (fun g2 w2 (hp : Hp w2 [(_, Cl [_, _, _, _, _] _), _, _, (_, Cl [_, _, _, _, _, _, _, _] _), (_, Cl [_, _, _] _), (_, Cl [_, _, _, _] _)]) hf hg2 => ?_)
  have hg2 := Nat.le_trans hF.size hg2
  have hF := hF.step0 hf
  refine Ls_a (wtd0 rfl) ?_
  first
    | refine a_storew (i := 0) rfl rfl rfl rfl Ty.sz_60 rfl (by first | assumption | (simp [Value.oneCell']; done)) hp rfl rfl (fun w3 (hp : Hp w3 [(_, Cl [_, _, _, _, _] _), _, _, (_, Cl [_, _, _, _, _, _, _, _] _), (_, Cl [_, _, _] _), (_, Cl [_, _, _, _] _)]) hf _ => ?_)
    | refine a_storew (i := 1) rfl rfl rfl rfl Ty.sz_60 rfl (by first | assumption | (simp [Value.oneCell']; done)) hp rfl rfl (fun w3 (hp : Hp w3 [(_, Cl [_, _, _, _, _] _), _, _, (_, Cl [_, _, _, _, _, _, _, _] _), (_, Cl [_, _, _] _), (_, Cl [_, _, _, _] _)]) hf _ => ?_)
    | refine a_storew (i := 2) rfl rfl rfl rfl Ty.sz_60 rfl (by first | assumption | (simp [Value.oneCell']; done)) hp rfl rfl (fun w3 (hp : Hp w3 [(_, Cl [_, _, _, _, _] _), _, _, (_, Cl [_, _, _, _, _, _, _, _] _), (_, Cl [_, _, _] _), (_, Cl [_, _, _, _] _)]) hf _ => ?_)
    | refine a_storew (i := 3) rfl rfl rfl rfl Ty.sz_60 rfl (by first | assumption | (simp [Value.oneCell']; done)) hp rfl rfl (fun w3 (hp : Hp w3 [(_, Cl [_, _, _, _, _] _), _, _, (_, Cl [_, _, _, _, _, _, _, _] _), (_, Cl [_, _, _] _), (_, Cl [_, _, _, _] _)]) hf _ => ?_)
    | refine a_storew (i := 4) rfl rfl rfl rfl Ty.sz_60 rfl (by first | assumption | (simp [Value.oneCell']; done)) hp rfl rfl (fun w3 (hp : Hp w3 [(_, Cl [_, _, _, _, _] _), _, _, (_, Cl [_, _, _, _, _, _, _, _] _), (_, Cl [_, _, _] _), (_, Cl [_, _, _, _] _)]) hf _ => ?_)
    | refine a_storew (i := 5) rfl rfl rfl rfl Ty.sz_60 rfl (by first | assumption | (simp [Value.oneCell']; done)) hp rfl rfl (fun w3 (hp : Hp w3 [(_, Cl [_, _, _, _, _] _), _, _, (_, Cl [_, _, _, _, _, _, _, _] _), (_, Cl [_, _, _] _), (_, Cl [_, _, _, _] _)]) hf _ => ?_)
  have hF := hF.step hf (by intro y hy; simp only [List.mem_cons, List.not_mem_nil, or_false] at hy; subst hy; first | (exact Or.inr (by omega)) | (exact Or.inl (by simp)))
  refine Ls_y (wtd0 rfl) rfl rfl (y_assign rfl rfl) ?_
  refine Ls_nil (Th_n (hK3 _ _ ?_))
  refine Wp_seq fun K4 hK4 => ?_
  refine Wp_seq fun K5 hK5 => ?_
  refine Wp_region ?_
  refine Ls_y (wtd0 rfl) rfl rfl (y_move rfl rfl) ?_
  refine Ls_y (wtd0 rfl) rfl rfl (y_not rfl rfl) ?_
  refine Ls_y (wtd0 rfl) rfl rfl (y_move rfl rfl) ?_
  refine Ls_bool 26 rfl (fun hc1 => absurd hc1 (by simp)) (fun _ => ?_)
  refine Ls_y (wtdT rfl rfl rfl) rfl rfl (y_fld rfl rfl Ty.fo_60_2) ?_
  first
    | refine Ls_y (wtdT rfl rfl rfl) rfl rfl (y_load (i := 0) rfl rfl Ty.pl_5 (fun _ e => e ▸ hp) rfl rfl) ?_
    | refine Ls_y (wtdT rfl rfl rfl) rfl rfl (y_load (i := 1) rfl rfl Ty.pl_5 (fun _ e => e ▸ hp) rfl rfl) ?_
    | refine Ls_y (wtdT rfl rfl rfl) rfl rfl (y_load (i := 2) rfl rfl Ty.pl_5 (fun _ e => e ▸ hp) rfl rfl) ?_
    | refine Ls_y (wtdT rfl rfl rfl) rfl rfl (y_load (i := 3) rfl rfl Ty.pl_5 (fun _ e => e ▸ hp) rfl rfl) ?_
    | refine Ls_y (wtdT rfl rfl rfl) rfl rfl (y_load (i := 4) rfl rfl Ty.pl_5 (fun _ e => e ▸ hp) rfl rfl) ?_
    | refine Ls_y (wtdT rfl rfl rfl) rfl rfl (y_load (i := 5) rfl rfl Ty.pl_5 (fun _ e => e ▸ hp) rfl rfl) ?_
  refine Ls_y (wtdT rfl rfl rfl) rfl rfl (y_neF rfl rfl rfl (by omega)) ?_
  refine Ls_y (wtd0 rfl) rfl rfl (y_pick_f rfl rfl rfl) ?_
  refine Ls_y (wtd0 rfl) rfl rfl (y_move rfl rfl) ?_
  refine Ls_y (wtdT rfl rfl rfl) rfl rfl (y_fld rfl rfl Ty.fo_60_1) ?_
  first
    | refine Ls_y (wtdT rfl rfl rfl) rfl rfl (y_load (i := 0) rfl rfl Ty.pl_32 (fun _ e => e ▸ hp) rfl rfl) ?_
    | refine Ls_y (wtdT rfl rfl rfl) rfl rfl (y_load (i := 1) rfl rfl Ty.pl_32 (fun _ e => e ▸ hp) rfl rfl) ?_
    | refine Ls_y (wtdT rfl rfl rfl) rfl rfl (y_load (i := 2) rfl rfl Ty.pl_32 (fun _ e => e ▸ hp) rfl rfl) ?_
    | refine Ls_y (wtdT rfl rfl rfl) rfl rfl (y_load (i := 3) rfl rfl Ty.pl_32 (fun _ e => e ▸ hp) rfl rfl) ?_
    | refine Ls_y (wtdT rfl rfl rfl) rfl rfl (y_load (i := 4) rfl rfl Ty.pl_32 (fun _ e => e ▸ hp) rfl rfl) ?_
    | refine Ls_y (wtdT rfl rfl rfl) rfl rfl (y_load (i := 5) rfl rfl Ty.pl_32 (fun _ e => e ▸ hp) rfl rfl) ?_
  refine Ls_y (wtdT rfl rfl rfl) rfl rfl (y_remC rfl rfl rfl (by omega) (by omega) hq2) ?_
  first
    | refine Ls_y (wtdT rfl rfl rfl) rfl rfl (y_cvi rfl rfl Try.underlying32 Try.underlying3 (wf_i64 (by omega))) ?_
    | refine Ls_y (wtdT rfl rfl rfl) rfl rfl (y_cvi rfl rfl Try.underlying32 Try.underlying3 rfl) ?_
  refine Ls_y (wtdT rfl rfl rfl) rfl rfl (y_move rfl rfl) ?_
  refine Ls_y (wtdT rfl rfl rfl) rfl rfl (y_neF rfl rfl rfl (by omega)) ?_
  refine Ls_y (wtd0 rfl) rfl rfl (y_pick_f rfl rfl rfl) ?_
  refine Ls_nil (Th_n (hK5 _ _ ?_))
  refine Wp_cond_f rfl ?_
  refine Wp_skip (Th_n (hK4 _ _ ?_))
  refine Wp_seq fun K6 hK6 => ?_
  refine Wp_region ?_
  refine Ls_y (wtd0 rfl) rfl rfl (y_fld rfl rfl Ty.fo_60_3) ?_
  first
    | refine Ls_y (wtd0 rfl) rfl rfl (y_load (i := 0) rfl rfl Ty.pl_9 (fun _ e => e ▸ hp) rfl rfl) ?_
    | refine Ls_y (wtd0 rfl) rfl rfl (y_load (i := 1) rfl rfl Ty.pl_9 (fun _ e => e ▸ hp) rfl rfl) ?_
    | refine Ls_y (wtd0 rfl) rfl rfl (y_load (i := 2) rfl rfl Ty.pl_9 (fun _ e => e ▸ hp) rfl rfl) ?_
    | refine Ls_y (wtd0 rfl) rfl rfl (y_load (i := 3) rfl rfl Ty.pl_9 (fun _ e => e ▸ hp) rfl rfl) ?_
    | refine Ls_y (wtd0 rfl) rfl rfl (y_load (i := 4) rfl rfl Ty.pl_9 (fun _ e => e ▸ hp) rfl rfl) ?_
    | refine Ls_y (wtd0 rfl) rfl rfl (y_load (i := 5) rfl rfl Ty.pl_9 (fun _ e => e ▸ hp) rfl rfl) ?_
  refine Ls_a (wtd0 rfl) ?_
  refine a_call rfl rfl rfl rfl (onew_ok (1 :: a :: 1 :: b :: r) _) (fun v w3 ⟨gr, hv, hN⟩ => ?_)
  subst hv
  have hp : Hp w3 [(_, Cl [_, _, _, _, _] _), _, _, (_, Cl [_, _, _, _, _, _, _, _] _), (_, Cl [_, _, _] _), (_, Cl [_, _, _, _] _), (_, Cl [_, _, _] _)] := hp.add hN
  have hgr := Nat.le_trans hF.size (hN.nw gr (by simp [keys]))
  have hF := hF.step0 hN.fr
  refine Ls_y (wtd0 rfl) rfl rfl (y_assign rfl rfl) ?_
  refine Ls_nil (Th_n (hK6 _ _ ?_))
  refine Wp_seq fun K7 hK7 => ?_
  refine Wp_region ?_
  refine Ls_y (wtd0 rfl) rfl rfl (y_move rfl rfl) ?_
  refine Ls_a (wtd0 rfl) ?_
  refine a_call rfl rfl rfl rfl (oint_m gr (1 :: a :: 1 :: b :: r) 0 _ (hp.picks [6] (by decide)) a (1 :: b :: r) 4294967295 rfl ha (by omega) (by omega) (by simp; omega)) (fun v w4 ⟨hv, hM⟩ => ?_)
  subst hv
  have hp : Hp w4 [(_, Cl [_, _, _, _, _] _), _, _, (_, Cl [_, _, _, _, _, _, _, _] _), (_, Cl [_, _, _] _), (_, Cl [_, _, _, _] _), (_, Cl [_, _, _] _)] := hp.call [0, 1, 2, 3, 4, 5] [6] (by decide) rfl hM
  have hF := hF.step hM.fr (by simp [keys, hgr])
  refine Ls_y (wtd0 rfl) rfl rfl (y_move rfl rfl) ?_
  refine Ls_a (wtd0 rfl) ?_
  refine a_call rfl rfl rfl rfl (oint_m gr (1 :: a :: 1 :: b :: r) 2 _ (hp.picks [6] (by decide)) b (r) 1048576 rfl hb (by omega) (by omega) (by simp; omega)) (fun v w5 ⟨hv, hM⟩ => ?_)
  subst hv
  have hp : Hp w5 [(_, Cl [_, _, _, _, _] _), _, _, (_, Cl [_, _, _, _, _, _, _, _] _), (_, Cl [_, _, _] _), (_, Cl [_, _, _, _] _), (_, Cl [_, _, _] _)] := hp.call [0, 1, 2, 3, 4, 5] [6] (by decide) rfl hM
  have hF := hF.step hM.fr (by simp [keys, hgr])
  refine Ls_y (wtd0 rfl) rfl rfl (y_assign rfl rfl) ?_
  refine Ls_y (wtd0 rfl) rfl rfl (y_assign rfl rfl) ?_
  refine Ls_nil (Th_n (hK7 _ _ ?_))
  refine Wp_seq fun K8 hK8 => ?_
  refine Wp_seq fun K9 hK9 => ?_
  refine Wp_region ?_
  refine Ls_y (wtd0 rfl) rfl rfl (y_move rfl rfl) ?_
  refine Ls_a (wtd0 rfl) ?_
  refine a_call rfl rfl rfl rfl (oerr_ok gr (1 :: a :: 1 :: b :: r) 4 _ (hp.picks [6] (by decide))) (fun v w6 ⟨hv, hw⟩ => ?_)
  subst hv
  subst hw
  refine Ls_y (wtd0 rfl) rfl rfl (y_nenil rfl rfl Try.underlying97) ?_
  refine Ls_nil (Th_n (hK9 _ _ ?_))
  refine Wp_cond_f rfl ?_
  refine Wp_skip (Th_n (hK8 _ _ ?_))
  refine Wp_seq fun K10 hK10 => ?_
  refine Wp_plan (fun W => Hp W (pickL (heapOf hp) [0, 1, 2, 3, 4, 5, 6])) [(true, 0), (true, 1), (true, 2), (true, 3), (true, 5), (false, 4), (true, 6), (false, 7), (true, 8), (true, 9), (true, 10), (true, 11), (true, 12)] Ty.mx_0 (by kernel_rfl) (by kernel_rfl) rfl ((hp.picks [0, 1, 2, 3, 4, 5, 6] (by decide)).drew) ?_
  have hp := hp.drew
  have hF := hF.step0 (Fr.drew _)
  refine Pl_y rfl (wtd0 rfl) rfl rfl (y_move rfl rfl) ?_
  refine Pl_y rfl (wtd0 rfl) rfl rfl (y_move rfl rfl) ?_
  first
    | refine Pl_y rfl (wtd0 rfl) rfl rfl (y_loadw (i := 0) rfl rfl Ty.ag_60 (fun _ h => h) rfl rfl) ?_
    | refine Pl_y rfl (wtd0 rfl) rfl rfl (y_loadw (i := 1) rfl rfl Ty.ag_60 (fun _ h => h) rfl rfl) ?_
    | refine Pl_y rfl (wtd0 rfl) rfl rfl (y_loadw (i := 2) rfl rfl Ty.ag_60 (fun _ h => h) rfl rfl) ?_
    | refine Pl_y rfl (wtd0 rfl) rfl rfl (y_loadw (i := 3) rfl rfl Ty.ag_60 (fun _ h => h) rfl rfl) ?_
    | refine Pl_y rfl (wtd0 rfl) rfl rfl (y_loadw (i := 4) rfl rfl Ty.ag_60 (fun _ h => h) rfl rfl) ?_
    | refine Pl_y rfl (wtd0 rfl) rfl rfl (y_loadw (i := 5) rfl rfl Ty.ag_60 (fun _ h => h) rfl rfl) ?_
    | refine Pl_y rfl (wtd0 rfl) rfl rfl (y_loadw (i := 6) rfl rfl Ty.ag_60 (fun _ h => h) rfl rfl) ?_
  refine Pl_y rfl (wtd0 rfl) rfl rfl (y_move rfl rfl) ?_
  refine Pl_y rfl (wtd0 rfl) rfl rfl (y_move rfl rfl) ?_
  refine Pl_a rfl (wtd0 rfl) (by rfl) ?_
  refine a_call rfl rfl rfl rfl (oat_ok gr (1 :: a :: 1 :: b :: r) 4 _ (hp.picks [6] (by decide))) (fun v w6 ⟨hv, hw⟩ => ?_)
  subst hv
  subst hw
  refine ⟨hp.picks [0, 1, 2, 3, 4, 5, 6] (by decide), ?_⟩
  refine Pl_y rfl (wtd0 rfl) rfl rfl (y_add (c := ((4 + r.length : Nat) : Int)) rfl rfl rfl (by rw [hr, IntKind.wrap_i64]; omega)) ?_
  refine Pl_a rfl (wtd0 rfl) (by rfl) ?_
  refine a_call rfl rfl rfl rfl (mgather_ok gm p D M _ (hp.picks [0, 1, 2, 3] (by decide)) hD hMr hs1 (pl * M.size) (by omega) hg hq (1 :: a :: 1 :: b :: r) (4 + r.length) (by omega) (by simp; omega) hc) (fun v w7 ⟨gb, cb, spb, hv, howb, hN⟩ => ?_)
  subst hv
  have hp : Hp w7 [(_, Cl [_, _, _, _, _] _), _, _, (_, Cl [_, _, _, _, _, _, _, _] _), (_, Cl [_, _, _] _), (_, Cl [_, _, _, _] _), (_, Cl [_, _, _] _), _] := hp.add hN
  have hF := hF.step0 hN.fr
  refine ⟨hp.picks [0, 1, 2, 3, 4, 5, 6] (by decide), ?_⟩
  refine Pl_y rfl (wtd0 rfl) rfl rfl (y_move rfl rfl) ?_
  refine Pl_y rfl (wtd0 rfl) rfl rfl (y_ext rfl rfl rfl) ?_
  refine Pl_y rfl (wtd0 rfl) rfl rfl (y_ext rfl rfl rfl) ?_
  refine Pl_y rfl (wtd0 rfl) rfl rfl (y_assign rfl rfl) ?_
  refine Pl_y rfl (wtd0 rfl) rfl rfl (y_assign rfl rfl) ?_
  refine Pl_nil (Th_n (hK10 _ _ ?_))
  refine Wp_seq fun K11 hK11 => ?_
  refine Wp_seq fun K12 hK12 => ?_
  refine Wp_region ?_
  refine Ls_y (wtd0 rfl) rfl rfl (y_move rfl rfl) ?_
  refine Ls_y (wtd0 rfl) rfl rfl (y_not rfl rfl) ?_
  refine Ls_nil (Th_n (hK12 _ _ ?_))
  refine Wp_bool 63 rfl (fun hc3 => absurd hc3 (by simp)) (fun _ => ?_)
  refine Wp_cond_f rfl ?_
  have hcut : (((1 :: a :: 1 :: b :: r).map bv ++ spb).drop 4).take r.length = r.map bv := by simp
  have hcc : 4 + r.length ≤ cb := by rcases howb.2 with ⟨h0, _⟩ | ⟨_, _, _, h3, _⟩; cases h0; exact h3
  refine Wp_skip (Th_n (hK11 _ _ ?_))
  refine Wp_seq fun K13 hK13 => ?_
  refine Wp_planF (fun W => Hp W (pickL (heapOf hp) [0, 1, 2, 3, 4, 5, 6, 7])) [(true, 0), (true, 1), (true, 2), (true, 3), (true, 4), (true, 5), (false, 6), (true, 7), (true, 8), (true, 9)] 10 Ty.mx_0 (by kernel_rfl) (by kernel_rfl) (by kernel_rfl) rfl ((hp.picks [0, 1, 2, 3, 4, 5, 6, 7] (by decide)).drew) ?_
  have hp := hp.drew
  have hF := hF.step0 (Fr.drew _)
  refine Pl_y rfl (wtd0 rfl) rfl rfl (y_fld rfl rfl Ty.fo_60_1) ?_
  first
    | refine Pl_y rfl (wtd0 rfl) rfl rfl (y_load (i := 0) rfl rfl Ty.pl_32 (fun _ h => h) rfl rfl) ?_
    | refine Pl_y rfl (wtd0 rfl) rfl rfl (y_load (i := 1) rfl rfl Ty.pl_32 (fun _ h => h) rfl rfl) ?_
    | refine Pl_y rfl (wtd0 rfl) rfl rfl (y_load (i := 2) rfl rfl Ty.pl_32 (fun _ h => h) rfl rfl) ?_
    | refine Pl_y rfl (wtd0 rfl) rfl rfl (y_load (i := 3) rfl rfl Ty.pl_32 (fun _ h => h) rfl rfl) ?_
    | refine Pl_y rfl (wtd0 rfl) rfl rfl (y_load (i := 4) rfl rfl Ty.pl_32 (fun _ h => h) rfl rfl) ?_
    | refine Pl_y rfl (wtd0 rfl) rfl rfl (y_load (i := 5) rfl rfl Ty.pl_32 (fun _ h => h) rfl rfl) ?_
    | refine Pl_y rfl (wtd0 rfl) rfl rfl (y_load (i := 6) rfl rfl Ty.pl_32 (fun _ h => h) rfl rfl) ?_
    | refine Pl_y rfl (wtd0 rfl) rfl rfl (y_load (i := 7) rfl rfl Ty.pl_32 (fun _ h => h) rfl rfl) ?_
  refine Pl_y rfl (wtd0 rfl) rfl rfl (y_move rfl rfl) ?_
  first
    | refine Pl_y rfl (wtd0 rfl) rfl rfl (y_cvi rfl rfl Try.underlying3 Try.underlying32 (wf_u32 (by omega))) ?_
    | refine Pl_y rfl (wtd0 rfl) rfl rfl (y_cvi rfl rfl Try.underlying3 Try.underlying32 wm_u32) ?_
  refine Pl_y rfl (wtd0 rfl) rfl rfl (y_move rfl rfl) ?_
  refine Pl_y rfl (wtd0 rfl) rfl rfl (y_move rfl rfl) ?_
  refine Pl_a rfl (wtd0 rfl) (by rfl) ?_
  refine a_call rfl rfl rfl rfl (oat_ok gr (1 :: a :: 1 :: b :: r) 4 _ (hp.picks [6] (by decide))) (fun v w8 ⟨hv, hw⟩ => ?_)
  subst hv
  subst hw
  refine ⟨hp.picks [0, 1, 2, 3, 4, 5, 6, 7] (by decide), ?_⟩
  refine Pl_y rfl (wtd0 rfl) rfl rfl (y_cutlE (i := 4) (j := 4 + r.length) (b' := 4) (l' := r.length) rfl rfl Ty.es_45 rfl rfl (by omega) hcc hcc (by omega) rfl (by omega)) ?_
  refine Pl_y rfl (wtd0 rfl) rfl rfl (y_cvb (r := r) rfl rfl Try.underlying45 Try.underlying5 Try.underlying9 rfl (by intro W hS; have hh := range_of (i := 7) (k := 4) (m := r.length) hS rfl; rw [hcut] at hh; exact hh)) ?_
  refine Pl_y rfl (wtd0 rfl) rfl rfl (y_build (cells := [_, _, _]) rfl rfl Ty.zc_72 Ty.ps_72 rfl) ?_
  refine Pl_nil (Fin_a rfl (wtd0 rfl) ?_)
  first
    | refine a_storew (i := 0) rfl rfl rfl rfl Ty.sz_72 rfl (by first | assumption | (simp [Value.oneCell']; done)) hp rfl rfl (fun w4 (hp : Hp w4 [(_, Cl [_, _, _, _, _] _), _, _, (_, Cl [_, _, _, _, _, _, _, _] _), (_, Cl [_, _, _] _), (_, Cl [_, _, _, _] _), (_, Cl [_, _, _] _), _]) hf _ => ?_)
    | refine a_storew (i := 1) rfl rfl rfl rfl Ty.sz_72 rfl (by first | assumption | (simp [Value.oneCell']; done)) hp rfl rfl (fun w4 (hp : Hp w4 [(_, Cl [_, _, _, _, _] _), _, _, (_, Cl [_, _, _, _, _, _, _, _] _), (_, Cl [_, _, _] _), (_, Cl [_, _, _, _] _), (_, Cl [_, _, _] _), _]) hf _ => ?_)
    | refine a_storew (i := 2) rfl rfl rfl rfl Ty.sz_72 rfl (by first | assumption | (simp [Value.oneCell']; done)) hp rfl rfl (fun w4 (hp : Hp w4 [(_, Cl [_, _, _, _, _] _), _, _, (_, Cl [_, _, _, _, _, _, _, _] _), (_, Cl [_, _, _] _), (_, Cl [_, _, _, _] _), (_, Cl [_, _, _] _), _]) hf _ => ?_)
    | refine a_storew (i := 3) rfl rfl rfl rfl Ty.sz_72 rfl (by first | assumption | (simp [Value.oneCell']; done)) hp rfl rfl (fun w4 (hp : Hp w4 [(_, Cl [_, _, _, _, _] _), _, _, (_, Cl [_, _, _, _, _, _, _, _] _), (_, Cl [_, _, _] _), (_, Cl [_, _, _, _] _), (_, Cl [_, _, _] _), _]) hf _ => ?_)
    | refine a_storew (i := 4) rfl rfl rfl rfl Ty.sz_72 rfl (by first | assumption | (simp [Value.oneCell']; done)) hp rfl rfl (fun w4 (hp : Hp w4 [(_, Cl [_, _, _, _, _] _), _, _, (_, Cl [_, _, _, _, _, _, _, _] _), (_, Cl [_, _, _] _), (_, Cl [_, _, _, _] _), (_, Cl [_, _, _] _), _]) hf _ => ?_)
    | refine a_storew (i := 5) rfl rfl rfl rfl Ty.sz_72 rfl (by first | assumption | (simp [Value.oneCell']; done)) hp rfl rfl (fun w4 (hp : Hp w4 [(_, Cl [_, _, _, _, _] _), _, _, (_, Cl [_, _, _, _, _, _, _, _] _), (_, Cl [_, _, _] _), (_, Cl [_, _, _, _] _), (_, Cl [_, _, _] _), _]) hf _ => ?_)
    | refine a_storew (i := 6) rfl rfl rfl rfl Ty.sz_72 rfl (by first | assumption | (simp [Value.oneCell']; done)) hp rfl rfl (fun w4 (hp : Hp w4 [(_, Cl [_, _, _, _, _] _), _, _, (_, Cl [_, _, _, _, _, _, _, _] _), (_, Cl [_, _, _] _), (_, Cl [_, _, _, _] _), (_, Cl [_, _, _] _), _]) hf _ => ?_)
    | refine a_storew (i := 7) rfl rfl rfl rfl Ty.sz_72 rfl (by first | assumption | (simp [Value.oneCell']; done)) hp rfl rfl (fun w4 (hp : Hp w4 [(_, Cl [_, _, _, _, _] _), _, _, (_, Cl [_, _, _, _, _, _, _, _] _), (_, Cl [_, _, _] _), (_, Cl [_, _, _, _] _), (_, Cl [_, _, _] _), _]) hf _ => ?_)
  have hF := hF.step hf (by intro y hy; simp only [List.mem_cons, List.not_mem_nil, or_false] at hy; subst hy; first | (exact Or.inr (by omega)) | (exact Or.inl (by simp)))
  refine id (Th_n (hK13 _ _ ?_))
  first
    | refine Wp_ret (Fq_ret (ResN1 rfl (rvc (i := 0) rfl Ty.ag_72 hp rfl rfl)) ?_)
    | refine Wp_ret (Fq_ret (ResN1 rfl (rvc (i := 1) rfl Ty.ag_72 hp rfl rfl)) ?_)
    | refine Wp_ret (Fq_ret (ResN1 rfl (rvc (i := 2) rfl Ty.ag_72 hp rfl rfl)) ?_)
    | refine Wp_ret (Fq_ret (ResN1 rfl (rvc (i := 3) rfl Ty.ag_72 hp rfl rfl)) ?_)
    | refine Wp_ret (Fq_ret (ResN1 rfl (rvc (i := 4) rfl Ty.ag_72 hp rfl rfl)) ?_)
    | refine Wp_ret (Fq_ret (ResN1 rfl (rvc (i := 5) rfl Ty.ag_72 hp rfl rfl)) ?_)
    | refine Wp_ret (Fq_ret (ResN1 rfl (rvc (i := 6) rfl Ty.ag_72 hp rfl rfl)) ?_)
    | refine Wp_ret (Fq_ret (ResN1 rfl (rvc (i := 7) rfl Ty.ag_72 hp rfl rfl)) ?_)
  exact ⟨rfl, hF⟩

end Go.Proofs.Ytcpfhnfpokijaaa

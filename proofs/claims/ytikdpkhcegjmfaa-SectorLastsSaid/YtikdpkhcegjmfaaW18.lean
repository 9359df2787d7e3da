/- Walks printed by gen.py out of our own specifications: what the functions named below do. -/
import Derived.Test.YtikdpkhcegjmfaaW17
import Derived.Test.YtikdpkhcegjmfaaLast
set_option linter.unusedSimpArgs false
set_option linter.unusedVariables false
namespace Go.Proofs.Ytikdpkhcegjmfaa
open Go.RowKit


open Go.MapKept
theorem ops_rowF {w : World} {A : Option Addr} {ops : List OpV} {k : Nat} {o : OpV} (h : Rd w.heap.size w A (ops.flatMap opC)) (hk : ops[k]? = some o) : ∃ g b, A = some ⟨g, b, none⟩ ∧ ∀ W, Fr [] w W → W.rangeAt g (b + k * 8) (opC o) := by
  obtain ⟨g, b, e, _⟩ := ops_row h hk
  refine ⟨g, b, e, fun W hF => ?_⟩
  obtain ⟨g', b', e', hr⟩ := ops_row (h.keep hF (Nat.le_refl _) (by simp)) hk
  rw [e] at e'
  cases e'
  exact hr
theorem y_lookupV {P : Program} {n : Nat} {env : Env} {S : World → Prop} {o : Oper} {H : Heap} {t kt et g i clock : Nat} {td : TypeDesc} {m kx : Operand} {es : Array MapEntry} {f : Value → Option Value} {k z u : Value} (ho : o.op = .lookup t m kx false)
    (hm : env.ev m = some (.map (some g))) (hkx : env.ev kx = some k) (ht : P.underlying t = some (.map kt et)) (hu : P.underlying kt = some td) (hz : zeroVal P et = some z) (hik : IsKey td k)
    (h : ∀ w, S w → Hp w H) (hi : H[i]? = some (some g, .map es clock)) (hM : Mk td es clock f) (he : (f k).getD z = u) : Yld P n env S o u := he ▸ y_lookup ho hm hkx ht hu hz hik h hi hM
theorem zv_bool : zeroVal Try.prog 4 = some (.bool false) := by kernel_rfl

set_option maxRecDepth 20000 in
set_option maxHeartbeats 8000000 in
theorem sectorLasts_ok (nn st : Int) (A B K : Option Addr) (ca cb kc : Nat) (ops ops2 : List OpV) (ks : List Int) (w : World) (hA : Rd w.heap.size w A (ops.flatMap opC)) (hops : ∀ o ∈ ops, OpOk w.heap.size w o) (hol : ops.length ≤ 9223372036854775807)
    (hB : Rd w.heap.size w B (ops2.flatMap opC)) (hops2 : ∀ o ∈ ops2, OpOk w.heap.size w o) (hol2 : ops2.length ≤ 9223372036854775807) (hK : Rd w.heap.size w K (ks.map intV)) (hkl : ks.length ≤ 9223372036854775807) :
    Fn Try.prog 8 [.int .i64 nn, .slice A ops.length ca, .slice B ops2.length cb, .int .i64 st, .slice K ks.length kc] w fun v w' => v = .bool true ∧ Fr [] w w' := by
  refine Fn_of 178 Ty.en_8 Try.func8 rfl rfl rfl ?_
  dsimp only [argEnv]
  have hp := Hp.nil w
  have hF := Fr.refl [] w
  refine Wp_seq fun K1 hK1 => ?_
  refine Wp_region ?_
  refine Ls_y (wtd0 rfl) rfl rfl (y_assign rfl rfl) ?_
  refine Ls_nil (Th_n (hK1 _ _ ?_))
  refine Wp_seq fun K2 hK2 => ?_
  refine Wp_seq fun K3 hK3 => ?_
  refine Wp_region ?_
  refine Ls_a (wtd0 rfl) ?_
  refine a_call rfl rfl rfl rfl (works17_ok _) (fun v w0 ⟨hv, hf⟩ => ?_)
  subst hv
  have hp := hp.keep0 hf
  have hF := hF.step0 hf
  obtain ⟨n1, hn1⟩ := Int.eq_ofNat_of_zero_le (show 0 ≤ nn % 18446744073709551616 % 40 by omega)
  have hwn : IntKind.i64.wrap (nn % 18446744073709551616 % 40) = (n1 : Int) := by rw [IntKind.wrap_i64]; omega
  obtain ⟨sk, hsk0⟩ := Int.eq_ofNat_of_zero_le (show 0 ≤ st % 18446744073709551616 % 50 by omega)
  have hsk : IntKind.i64.wrap (st % 18446744073709551616 % 50) = (sk : Int) := by rw [IntKind.wrap_i64]; omega
  obtain ⟨nk, hnk⟩ : ∃ nk : Nat, nk = 1 + n1 := ⟨_, rfl⟩
  have hn : 1 ≤ nk ∧ nk ≤ 1024 := by omega
  refine Ls_y (wtd0 rfl) rfl rfl (y_not rfl rfl) ?_
  refine Ls_nil (Th_n (hK3 _ _ ?_))
  refine Wp_cond_f rfl ?_
  refine Wp_skip (Th_n (hK2 _ _ ?_))
  refine Wp_seq fun K4 hK4 => ?_
  refine Wp_region ?_
  refine Ls_y (wtd0 rfl) rfl rfl (y_move rfl rfl) ?_
  refine Ls_y (wtd0 rfl) rfl rfl (y_cvi rfl rfl Try.underlying3 Try.underlying49 wm_u64) ?_
  refine Ls_y (wtd0 rfl) rfl rfl (y_remP rfl rfl rfl (by omega) (by omega)) ?_
  refine Ls_y (wtd0 rfl) rfl rfl (y_cvi rfl rfl Try.underlying49 Try.underlying3 hwn) ?_
  first
    | refine Ls_y (wtd0 rfl) rfl rfl (y_add rfl rfl rfl (w_addN (a := 1) (by first | omega | (simp; omega)))) ?_
    | refine Ls_y (wtd0 rfl) rfl rfl (y_add rfl rfl rfl (wf_i64 (by omega))) ?_
    | refine Ls_y (wtd0 rfl) rfl rfl (y_add rfl rfl rfl rfl) ?_
  refine Ls_y (wtd0 rfl) rfl rfl (y_assign rfl rfl) ?_
  refine Ls_nil (Th_n (hK4 _ _ ?_))
  refine Wp_seq fun K5 hK5 => ?_
  refine Wp_region ?_
  refine Ls_y (wtd0 rfl) rfl rfl (y_move rfl rfl) ?_
  rw [← hnk]
  refine Ls_a (wtd0 rfl) ?_
  refine a_call rfl rfl rfl rfl (dnew_ok nk _ hn.1 hn.2) (fun v wa ⟨p, hv, hN, _⟩ => ?_)
  subst hv
  have hp : Hp wa [(_, Cl [_, _, _, _, _] _), _, _] := hp.add hN
  have hdk : ∀ y ∈ [p.gd, p.gn, p.gl], w.heap.size ≤ y := fun y hy => Nat.le_trans hF.size (hN.nw y hy)
  have hF := hF.step0 hN.fr
  refine Ls_y (wtd0 rfl) rfl rfl (y_move rfl rfl) ?_
  refine Ls_y (wtd0 rfl) rfl rfl (y_ext rfl rfl rfl) ?_
  refine Ls_y (wtd0 rfl) rfl rfl (y_ext rfl rfl rfl) ?_
  refine Ls_y (wtd0 rfl) rfl rfl (y_assign rfl rfl) ?_
  refine Ls_y (wtd0 rfl) rfl rfl (y_assign rfl rfl) ?_
  refine Ls_nil (Th_n (hK5 _ _ ?_))
  refine Wp_seq fun K6 hK6 => ?_
  refine Wp_seq fun K7 hK7 => ?_
  refine Wp_region ?_
  refine Ls_y (wtd0 rfl) rfl rfl (y_move rfl rfl) ?_
  refine Ls_y (wtd0 rfl) rfl rfl (y_neF rfl rfl rfl (by omega)) ?_
  refine Ls_y (wtd0 rfl) rfl rfl (y_move rfl rfl) ?_
  refine Ls_y (wtdT rfl rfl rfl) rfl rfl (y_move rfl rfl) ?_
  refine Ls_y (wtdT rfl rfl rfl) rfl rfl (y_lenl rfl rfl Try.underlying73) ?_
  refine Ls_y (wtdT rfl rfl rfl) rfl rfl (y_gt rfl rfl rfl) ?_
  refine Ls_bool 39 rfl (fun hk100 => ?_) (fun hk100 => ?_)
  all_goals try simp only [decide_eq_true_eq, decide_eq_false_iff_not, beq_iff_eq, bne_iff_ne, ne_eq, beq_eq_false_iff_ne, bne_eq_false_iff_eq, Bool.not_eq_true, Bool.not_eq_false] at hk100
  · refine Ls_y (wtd0 rfl) rfl rfl (y_pick_f rfl rfl rfl) ?_
    refine Ls_nil (Th_n (hK7 _ _ ?_))
    refine Wp_cond_t rfl ?_
    refine Wp_seq fun K8 hK8 => ?_
    refine Wp_region ?_
    refine Ls_y (wtd0 rfl) rfl rfl (y_move rfl rfl) ?_
    refine Ls_y (wtd0 rfl) rfl rfl (y_eqT rfl rfl rfl (by omega)) ?_
    refine Ls_y (wtd0 rfl) rfl rfl (y_assign rfl rfl) ?_
    refine Ls_nil (Th_n (hK8 _ _ ?_))
    refine Wp_ret (Th_r (Fq_ret (Res1 rfl rfl) ?_))
    exact ⟨rfl, hF⟩
  · refine Ls_y (wtd0 rfl) rfl rfl (y_pick_f rfl rfl rfl) ?_
    refine Ls_nil (Th_n (hK7 _ _ ?_))
    refine Wp_cond_f rfl ?_
    refine Wp_skip (Th_n (hK6 _ _ ?_))
    refine Wp_seq fun K9 hK9 => ?_
    refine Wp_seq fun K10 hK10 => ?_
    refine Wp_region ?_
    refine Ls_y (wtd0 rfl) rfl rfl (y_assign rfl rfl) ?_
    refine Ls_nil (Th_n (hK10 _ _ ?_))
    refine Wp_block ?_
    refine Wp_loopE (fun m e W => ∃ (k : Nat) (D : Dk), k ≤ ops.length ∧ m = ops.length - k ∧ e = [(0, .int .i64 ((nk : Nat) : Int)), (1, .slice A ops.length ca), (2, .slice B ops2.length cb), (3, .int .i64 st), (4, .slice K ks.length kc), (11, .pointer (some ⟨p.gd, 0, none⟩)), (13, .int .i64 (k : Int))] ∧ Hp W (dkH p D) ∧ DkOk D ∧ D.armed = false ∧ D.down = false ∧ D.now.length = nk ∧ Fr [] w W) (ops.length) [(0, _), (1, _), (2, _), (3, _), (4, _), (11, _), (13, _)] ⟨rfl, rfl, rfl, rfl, rfl, rfl, rfl, trivial⟩ ?_ ?_
    · exact ⟨0, newD nk, by omega, by omega, rfl, hp, newD_ok hn.1 hn.2, rfl, rfl, by simp [newD], hF⟩
    rintro m e W ⟨k, D, hk, rfl, rfl, hp, hD, harm, hdn, hDn, hF⟩
    have hp : Hp W [(_, Cl [_, _, _, _, _] _), _, _] := hp
    refine Wp_seq fun K12 hK12 => ?_
    refine Wp_seq fun K13 hK13 => ?_
    refine Wp_region ?_
    refine Ls_y (wtd0 rfl) rfl rfl (y_move rfl rfl) ?_
    refine Ls_y (wtd0 rfl) rfl rfl (y_move rfl rfl) ?_
    refine Ls_y (wtd0 rfl) rfl rfl (y_lenl rfl rfl Try.underlying66) ?_
    refine Ls_y (wtd0 rfl) rfl rfl (y_lt rfl rfl rfl) ?_
    refine Ls_bool 46 rfl (fun hlt => ?_) (fun hlt => ?_)
    all_goals try simp only [decide_eq_true_eq, decide_eq_false_iff_not, beq_iff_eq, bne_iff_ne, ne_eq, beq_eq_false_iff_ne, bne_eq_false_iff_eq, Bool.not_eq_true, Bool.not_eq_false] at hlt
    · refine Ls_y (wtd0 rfl) rfl rfl (y_move rfl rfl) ?_
      refine Ls_y (wtdT rfl rfl rfl) rfl rfl (y_move rfl rfl) ?_
      refine Ls_y (wtdT rfl rfl rfl) rfl rfl (y_lt rfl rfl rfl) ?_
      refine Ls_bool 49 rfl (fun h40 => ?_) (fun h40 => ?_)
      all_goals try simp only [decide_eq_true_eq, decide_eq_false_iff_not, beq_iff_eq, bne_iff_ne, ne_eq, beq_eq_false_iff_ne, bne_eq_false_iff_eq, Bool.not_eq_true, Bool.not_eq_false] at h40
      · have hk1 : k < ops.length := by omega
        have ho : ops[k]? = some ops[k] := List.getElem?_eq_getElem hk1
        obtain ⟨ga, ba, rfl, hrow⟩ := ops_rowF hA ho
        have hO := hops _ (List.getElem_mem hk1)
        generalize ops[k] = o at hrow hO
        obtain ⟨kd, ii, s, cg, cq, cf, cd, K', ks', kc'⟩ := o
        have hs1 := hO.s1
        have hd1 := hO.d1
        have hkl1 := hO.k1
        simp only at hs1 hd1 hkl1
        have hcK : ∀ W', Fr [] w W' → W'.cell? ⟨ga, ba + k * 8 + 0, none⟩ = some (.int .i64 kd) := fun W' h => hrow W' h 0 _ rfl
        have hcI : ∀ W', Fr [] w W' → W'.cell? ⟨ga, ba + k * 8 + 1, none⟩ = some (.int .i64 ii) := fun W' h => hrow W' h 1 _ rfl
        have hcS : ∀ W', Fr [] w W' → W'.cell? ⟨ga, ba + k * 8 + 2, none⟩ = some (sv s) := fun W' h => hrow W' h 2 _ rfl
        refine Ls_y (wtd0 rfl) rfl rfl (y_pick_t rfl rfl rfl) ?_
        refine Ls_nil (Th_n (hK13 _ _ ?_))
        refine Wp_cond_t rfl ?_
        refine Wp_skip (Th_n (hK12 _ _ ?_))
        refine Wp_seq fun K14 hK14 => ?_
        refine Wp_block ?_
        refine Wp_seq fun K15 hK15 => ?_
        refine Wp_seq fun K16 hK16 => ?_
        refine Wp_region ?_
        refine Ls_y (wtd0 rfl) rfl rfl (y_move rfl rfl) ?_
        refine Ls_y (wtd0 rfl) rfl rfl (y_move rfl rfl) ?_
        first
          | refine Ls_y (wtd0 rfl) rfl rfl (y_ixaN rfl rfl rfl Ty.es_66 (by omega)) ?_
          | refine Ls_y (wtd0 rfl) rfl rfl (y_ixa rfl rfl rfl Ty.es_66 (by omega) (by omega)) ?_
        refine Ls_y (wtd0 rfl) rfl rfl (y_loadr (cs := [.int .i64 kd, .int .i64 ii, sv s, .int .u16 cg, .int .u32 cq, .int .u8 cf, sv cd, .slice K' ks'.length kc']) rfl rfl Ty.ag_75 rfl (fun _ e => e ▸ hrow _ hF)) ?_
        refine Ls_a (wtd0 rfl) ?_
        refine a_call rfl rfl rfl rfl (great_ok kd ii cg cq cf s cd K' ks'.length kc' _ hkl1 hs1 hd1) (fun v wg ⟨hv, hf⟩ => ?_)
        subst hv
        have hp := hp.keep0 hf
        have hF := hF.step0 hf
        refine Ls_nil (Th_n (hK16 _ _ ?_))
        refine Wp_cond rfl (fun hgr => ?_) (fun hgr => ?_)
        all_goals try simp only [decide_eq_true_eq, decide_eq_false_iff_not, beq_iff_eq, bne_iff_ne, ne_eq, beq_eq_false_iff_ne, bne_eq_false_iff_eq, Bool.not_eq_true] at hgr
        · refine Wp_seq fun K17 hK17 => ?_
          refine Wp_region ?_
          refine Ls_y (wtd0 rfl) rfl rfl (y_assign rfl rfl) ?_
          refine Ls_nil (Th_n (hK17 _ _ ?_))
          refine Wp_ret (Th_r (Ib_r (Th_r (Th_r (Ib_r (Th_r (Fq_ret (Res1 rfl rfl) ?_)))))))
          exact ⟨rfl, hF⟩
        · refine Wp_skip (Th_n (hK15 _ _ ?_))
          refine Wp_plan (fun W => W.cell? ⟨ga, ba + k * 8 + 1, none⟩ = some (.int .i64 ii) ∧ W.cell? ⟨ga, ba + k * 8 + 2, none⟩ = some (sv s)) [(true, 0), (true, 1), (true, 2), (true, 3), (true, 4), (true, 5), (true, 6), (true, 7), (true, 8), (true, 9), (true, 10), (false, 11)] Ty.mx_0 (by kernel_rfl) (by kernel_rfl) rfl (⟨hcI _ (hF.step0 (Fr.drew _)), hcS _ (hF.step0 (Fr.drew _))⟩) ?_
          have hp := hp.drew
          have hF := hF.step0 (Fr.drew _)
          refine Pl_y rfl (wtd0 rfl) rfl rfl (y_move rfl rfl) ?_
          refine Pl_y rfl (wtd0 rfl) rfl rfl (y_move rfl rfl) ?_
          refine Pl_y rfl (wtd0 rfl) rfl rfl (y_move rfl rfl) ?_
          first
            | refine Pl_y rfl (wtd0 rfl) rfl rfl (y_ixaN rfl rfl rfl Ty.es_66 (by omega)) ?_
            | refine Pl_y rfl (wtd0 rfl) rfl rfl (y_ixa rfl rfl rfl Ty.es_66 (by omega) (by omega)) ?_
          refine Pl_y rfl (wtd0 rfl) rfl rfl (y_fld rfl rfl Ty.fo_75_1) ?_
          refine Pl_y rfl (wtd0 rfl) rfl rfl (y_loadc rfl rfl Ty.pl_3 (fun _ h => h.1)) ?_
          refine Pl_y rfl (wtd0 rfl) rfl rfl (y_move rfl rfl) ?_
          refine Pl_y rfl (wtd0 rfl) rfl rfl (y_move rfl rfl) ?_
          first
            | refine Pl_y rfl (wtd0 rfl) rfl rfl (y_ixaN rfl rfl rfl Ty.es_66 (by omega)) ?_
            | refine Pl_y rfl (wtd0 rfl) rfl rfl (y_ixa rfl rfl rfl Ty.es_66 (by omega) (by omega)) ?_
          refine Pl_y rfl (wtd0 rfl) rfl rfl (y_fld rfl rfl Ty.fo_75_2) ?_
          refine Pl_y rfl (wtd0 rfl) rfl rfl (y_loadc rfl rfl Ty.pl_9 (fun _ h => h.2)) ?_
          refine Pl_a rfl (wtd0 rfl) (by rfl) ?_
          refine a_call rfl rfl rfl rfl (dwrite_m p D _ (hp.picks [0, 1, 2] (by decide)) hD ii s) (fun v wd1 ⟨hv, hM⟩ => ?_)
          subst hv
          have hp : Hp wd1 [(_, Cl [_, _, _, _, _] _), _, _] := hp.call [] [0, 1, 2] (by decide) rfl hM
          have hF := hF.step hM.fr (fun y hy => Or.inr (hdk y hy))
          refine ⟨⟨hcI _ hF, hcS _ hF⟩, ?_⟩
          refine Pl_nil (Ib_n (Th_n (hK14 _ _ ?_)))
          refine Wp_region ?_
          refine Ls_y (wtd0 rfl) rfl rfl (y_move rfl rfl) ?_
          first
            | refine Ls_y (wtd0 rfl) rfl rfl (y_add rfl rfl rfl (w_succ (by omega))) ?_
            | refine Ls_y (wtd0 rfl) rfl rfl (y_add rfl rfl rfl (wf_i64 (by omega))) ?_
            | refine Ls_y (wtd0 rfl) rfl rfl (y_add rfl rfl rfl rfl) ?_
          refine Ls_y (wtd0 rfl) rfl rfl (y_assign rfl rfl) ?_
          refine Ls_nil (Th_n (?_))
          obtain ⟨hw1, hw2, hw3⟩ := write_calm harm hdn ii s
          exact ⟨ops.length - (k + 1), [(0, _), (1, _), (2, _), (3, _), (4, _), (11, _), (13, _)], by omega, ⟨rfl, rfl, rfl, rfl, rfl, rfl, rfl, trivial⟩, k + 1, writeD D ii s, by omega, rfl, rfl, hp, writeD_ok hD _ _, hw1, hw2, by rw [hw3]; exact hDn, hF⟩
      · obtain ⟨hse, hsl, hsd, hsn⟩ := sync_calm harm hdn
        have hC := syncD_ok hD
        refine Ls_y (wtd0 rfl) rfl rfl (y_pick_t rfl rfl rfl) ?_
        refine Ls_nil (Th_n (hK13 _ _ ?_))
        refine Wp_cond_f rfl ?_
        refine Wp_exit (Th_e (Th_e (Ib_hit (Th_n (hK9 _ _ ?_)))))
        refine Wp_seq fun K18 hK18 => ?_
        refine Wp_seq fun K19 hK19 => ?_
        refine Wp_region ?_
        refine Ls_y (wtd0 rfl) rfl rfl (y_move rfl rfl) ?_
        refine Ls_a (wtd0 rfl) ?_
        refine a_call rfl rfl rfl rfl (dsync_m p D _ (hp.picks [0, 1, 2] (by decide)) hD) (fun v wd1 ⟨hv, hM⟩ => ?_)
        rw [hse] at hv
        subst hv
        obtain ⟨C, hCe⟩ : ∃ C, C = syncD D := ⟨_, rfl⟩
        rw [← hCe] at hM hC hsl hsd hsn
        have hCl : C.lasts = C.now := hsl
        have hCd : C.down = false := hsd
        have hCn : C.now.length = nk := by rw [hsn]; exact hDn
        have hp : Hp wd1 [(_, Cl [_, _, _, _, _] _), _, _] := hp.call [] [0, 1, 2] (by decide) rfl hM
        have hF := hF.step hM.fr (fun y hy => Or.inr (hdk y hy))
        refine Ls_y (wtd0 rfl) rfl rfl (y_neF rfl rfl rfl (by omega)) ?_
        refine Ls_y (wtd0 rfl) rfl rfl (y_move rfl rfl) ?_
        refine Ls_y (wtdT rfl rfl rfl) rfl rfl (y_move rfl rfl) ?_
        refine Ls_a (wtdT rfl rfl rfl) ?_
        refine a_call rfl rfl rfl rfl (ddirty_ok p C _ (hp.picks [0, 1, 2] (by decide)) hC) (fun v w5 ⟨A2, c2, sp2, hv, how2, hN2⟩ => ?_)
        rw [dirty_nil (D := C) hCl] at hv
        subst hv
        have hp := hp.keep0 hN2.fr
        have hF := hF.step0 hN2.fr
        refine Ls_y (wtdT rfl rfl rfl) rfl rfl (y_lenl rfl rfl Try.underlying73) ?_
        refine Ls_y (wtdT rfl rfl rfl) rfl rfl (y_gt rfl rfl rfl) ?_
        refine Ls_bool 77 rfl (fun hc5 => absurd hc5 (by simp)) (fun _ => ?_)
        refine Ls_y (wtd0 rfl) rfl rfl (y_pick_f rfl rfl rfl) ?_
        refine Ls_nil (Th_n (hK19 _ _ ?_))
        refine Wp_cond_f rfl ?_
        refine Wp_skip (Th_n (hK18 _ _ ?_))
        refine Wp_seq fun K20 hK20 => ?_
        refine Wp_region ?_
        refine Ls_y (wtd0 rfl) rfl rfl (y_move rfl rfl) ?_
        refine Ls_a (wtd0 rfl) ?_
        refine a_call rfl rfl rfl rfl (dcopy_ok p C _ (hp.picks [0, 1, 2] (by decide)) hC) (fun v wc ⟨p3, hv, hN, _⟩ => ?_)
        subst hv
        have hp : Hp wc [(_, Cl [_, _, _, _, _] _), _, _, (_, Cl [_, _, _, _, _] _), _, _] := hp.add hN
        have hck : ∀ y ∈ [p3.gd, p3.gn, p3.gl], w.heap.size ≤ y := fun y hy => Nat.le_trans hF.size (hN.nw y hy)
        have hF := hF.step0 hN.fr
        refine Ls_y (wtd0 rfl) rfl rfl (y_assign rfl rfl) ?_
        refine Ls_nil (Th_n (hK20 _ _ ?_))
        refine Wp_seq fun K21 hK21 => ?_
        refine Wp_region ?_
        refine Ls_y (wtd0 rfl) rfl rfl (y_move rfl rfl) ?_
        refine Ls_y (wtd0 rfl) rfl rfl (y_move rfl rfl) ?_
        refine Ls_y (wtd0 rfl) rfl rfl (y_cvi rfl rfl Try.underlying3 Try.underlying49 wm_u64) ?_
        refine Ls_y (wtd0 rfl) rfl rfl (y_remP rfl rfl rfl (by omega) (by omega)) ?_
        refine Ls_y (wtd0 rfl) rfl rfl (y_cvi rfl rfl Try.underlying49 Try.underlying3 hsk) ?_
        refine Ls_a (wtd0 rfl) ?_
        refine a_call rfl rfl rfl rfl (darm_m p C _ (hp.picks [0, 1, 2] (by decide)) sk) (fun v wd2 ⟨hv, hM⟩ => ?_)
        subst hv
        have hp : Hp wd2 [(_, Cl [_, _, _, _, _] _), _, _, (_, Cl [_, _, _, _, _] _), _, _] := hp.call [3, 4, 5] [0, 1, 2] (by decide) rfl hM
        have hF := hF.step hM.fr (fun y hy => Or.inr (hdk y hy))
        refine Ls_nil (Th_n (hK21 _ _ ?_))
        refine Wp_seq fun K22 hK22 => ?_
        refine Wp_region ?_
        refine Ls_a (wtd0 rfl) ?_
        refine a_mkmap rfl rfl rfl hp (fun gm wm (hp : Hp wm [(_, Cl [_, _, _, _, _] _), _, _, (_, Cl [_, _, _, _, _] _), _, _, _]) hf hgm => ?_)
        have hgm := Nat.le_trans hF.size hgm
        have hF := hF.step0 hf
        refine Ls_y (wtd0 rfl) rfl rfl (y_assign rfl rfl) ?_
        refine Ls_nil (Th_n (hK22 _ _ ?_))
        refine Wp_seq fun K23 hK23 => ?_
        refine Wp_seq fun K24 hK24 => ?_
        refine Wp_region ?_
        refine Ls_y (wtd0 rfl) rfl rfl (y_assign rfl rfl) ?_
        refine Ls_nil (Th_n (hK24 _ _ ?_))
        refine Wp_block ?_
        refine Wp_loopE (fun m e W => ∃ (k : Nat) (D : Dk) (es : Array MapEntry) (clock : Nat) (f : Value → Option Value), k ≤ ops2.length ∧ m = ops2.length - k ∧ e = [(0, .int .i64 ((nk : Nat) : Int)), (2, .slice B ops2.length cb), (4, .slice K ks.length kc), (11, .pointer (some ⟨p.gd, 0, none⟩)), (14, .pointer (some ⟨p3.gd, 0, none⟩)), (15, .map (some gm)), (16, .int .i64 (k : Int))] ∧ Hp W (dkH p3 C ++ [(some gm, .map es clock)] ++ dkH p D) ∧ DkOk D ∧ LInv C D f ∧ Mk (.int .i64) es clock f ∧ Fr [] w W) (ops2.length) [(0, _), (2, _), (4, _), (11, _), (14, _), (15, _), (16, _)] ⟨rfl, rfl, rfl, rfl, rfl, rfl, rfl, trivial⟩ ?_ ?_
        · exact ⟨0, armD C sk, #[], 0, fun _ => none, by omega, by omega, rfl, (hp.picks [0, 1, 2, 6, 3, 4, 5] (by decide)), armD_ok hC _ (by omega), LInv.start hCl _, Mk.empty _, hF⟩
        rintro m e W ⟨k, D, es, clock, f, hk, rfl, rfl, hp, hD, hI, hMk, hF⟩
        have hp : Hp W [(_, Cl [_, _, _, _, _] _), _, _, _, (_, Cl [_, _, _, _, _] _), _, _] := hp
        refine Wp_seq fun K26 hK26 => ?_
        refine Wp_seq fun K27 hK27 => ?_
        refine Wp_region ?_
        refine Ls_y (wtd0 rfl) rfl rfl (y_move rfl rfl) ?_
        refine Ls_y (wtd0 rfl) rfl rfl (y_move rfl rfl) ?_
        refine Ls_y (wtd0 rfl) rfl rfl (y_lenl rfl rfl Try.underlying66) ?_
        refine Ls_y (wtd0 rfl) rfl rfl (y_lt rfl rfl rfl) ?_
        refine Ls_bool 91 rfl (fun hlt => ?_) (fun hlt => ?_)
        all_goals try simp only [decide_eq_true_eq, decide_eq_false_iff_not, beq_iff_eq, bne_iff_ne, ne_eq, beq_eq_false_iff_ne, bne_eq_false_iff_eq, Bool.not_eq_true, Bool.not_eq_false] at hlt
        · refine Ls_y (wtd0 rfl) rfl rfl (y_move rfl rfl) ?_
          refine Ls_y (wtdT rfl rfl rfl) rfl rfl (y_move rfl rfl) ?_
          refine Ls_y (wtdT rfl rfl rfl) rfl rfl (y_lt rfl rfl rfl) ?_
          refine Ls_bool 94 rfl (fun h40 => ?_) (fun h40 => ?_)
          all_goals try simp only [decide_eq_true_eq, decide_eq_false_iff_not, beq_iff_eq, bne_iff_ne, ne_eq, beq_eq_false_iff_ne, bne_eq_false_iff_eq, Bool.not_eq_true, Bool.not_eq_false] at h40
          · have hk1 : k < ops2.length := by omega
            have ho : ops2[k]? = some ops2[k] := List.getElem?_eq_getElem hk1
            obtain ⟨ga, ba, rfl, hrow⟩ := ops_rowF hB ho
            have hO := hops2 _ (List.getElem_mem hk1)
            generalize ops2[k] = o at hrow hO
            obtain ⟨kd, ii, s, cg, cq, cf, cd, K', ks', kc'⟩ := o
            have hs1 := hO.s1
            have hd1 := hO.d1
            have hkl1 := hO.k1
            simp only at hs1 hd1 hkl1
            have hcK : ∀ W', Fr [] w W' → W'.cell? ⟨ga, ba + k * 8 + 0, none⟩ = some (.int .i64 kd) := fun W' h => hrow W' h 0 _ rfl
            have hcI : ∀ W', Fr [] w W' → W'.cell? ⟨ga, ba + k * 8 + 1, none⟩ = some (.int .i64 ii) := fun W' h => hrow W' h 1 _ rfl
            have hcS : ∀ W', Fr [] w W' → W'.cell? ⟨ga, ba + k * 8 + 2, none⟩ = some (sv s) := fun W' h => hrow W' h 2 _ rfl
            refine Ls_y (wtd0 rfl) rfl rfl (y_pick_t rfl rfl rfl) ?_
            refine Ls_nil (Th_n (hK27 _ _ ?_))
            refine Wp_cond_t rfl ?_
            refine Wp_skip (Th_n (hK26 _ _ ?_))
            refine Wp_seq fun K28 hK28 => ?_
            refine Wp_block ?_
            refine Wp_seq fun K29 hK29 => ?_
            refine Wp_seq fun K30 hK30 => ?_
            refine Wp_region ?_
            refine Ls_y (wtd0 rfl) rfl rfl (y_move rfl rfl) ?_
            refine Ls_y (wtd0 rfl) rfl rfl (y_move rfl rfl) ?_
            first
              | refine Ls_y (wtd0 rfl) rfl rfl (y_ixaN rfl rfl rfl Ty.es_66 (by omega)) ?_
              | refine Ls_y (wtd0 rfl) rfl rfl (y_ixa rfl rfl rfl Ty.es_66 (by omega) (by omega)) ?_
            refine Ls_y (wtd0 rfl) rfl rfl (y_loadr (cs := [.int .i64 kd, .int .i64 ii, sv s, .int .u16 cg, .int .u32 cq, .int .u8 cf, sv cd, .slice K' ks'.length kc']) rfl rfl Ty.ag_75 rfl (fun _ e => e ▸ hrow _ hF)) ?_
            refine Ls_a (wtd0 rfl) ?_
            refine a_call rfl rfl rfl rfl (great_ok kd ii cg cq cf s cd K' ks'.length kc' _ hkl1 hs1 hd1) (fun v wg ⟨hv, hf⟩ => ?_)
            subst hv
            have hp := hp.keep0 hf
            have hF := hF.step0 hf
            refine Ls_nil (Th_n (hK30 _ _ ?_))
            refine Wp_cond rfl (fun hgr => ?_) (fun hgr => ?_)
            all_goals try simp only [decide_eq_true_eq, decide_eq_false_iff_not, beq_iff_eq, bne_iff_ne, ne_eq, beq_eq_false_iff_ne, bne_eq_false_iff_eq, Bool.not_eq_true] at hgr
            · refine Wp_seq fun K31 hK31 => ?_
              refine Wp_region ?_
              refine Ls_y (wtd0 rfl) rfl rfl (y_assign rfl rfl) ?_
              refine Ls_nil (Th_n (hK31 _ _ ?_))
              refine Wp_ret (Th_r (Ib_r (Th_r (Th_r (Ib_r (Th_r (Fq_ret (Res1 rfl rfl) ?_)))))))
              exact ⟨rfl, hF⟩
            · refine Wp_skip (Th_n (hK29 _ _ ?_))
              refine Wp_seq fun K32 hK32 => ?_
              refine Wp_seq fun K33 hK33 => ?_
              refine Wp_region ?_
              refine Ls_y (wtd0 rfl) rfl rfl (y_move rfl rfl) ?_
              refine Ls_y (wtd0 rfl) rfl rfl (y_move rfl rfl) ?_
              first
                | refine Ls_y (wtd0 rfl) rfl rfl (y_ixaN rfl rfl rfl Ty.es_66 (by omega)) ?_
                | refine Ls_y (wtd0 rfl) rfl rfl (y_ixa rfl rfl rfl Ty.es_66 (by omega) (by omega)) ?_
              refine Ls_y (wtd0 rfl) rfl rfl (y_fld rfl rfl Ty.fo_75_0) ?_
              refine Ls_y (wtd0 rfl) rfl rfl (y_loadc rfl rfl Ty.pl_3 (fun _ e => e ▸ hcK _ hF)) ?_
              refine Ls_y (wtd0 rfl) rfl rfl (y_eq rfl rfl rfl) ?_
              refine Ls_bool 108 rfl (fun hkd => ?_) (fun hkd => ?_)
              all_goals try simp only [decide_eq_true_eq, decide_eq_false_iff_not, beq_iff_eq, bne_iff_ne, ne_eq, beq_eq_false_iff_ne, bne_eq_false_iff_eq, Bool.not_eq_true, Bool.not_eq_false] at hkd
              · refine Ls_nil (Th_n (hK33 _ _ ?_))
                refine Wp_cond_t rfl ?_
                refine Wp_seq fun K34 hK34 => ?_
                refine Wp_region ?_
                refine Ls_y (wtd0 rfl) rfl rfl (y_move rfl rfl) ?_
                refine Ls_a (wtd0 rfl) ?_
                refine a_call rfl rfl rfl rfl (dsync_m p D _ (hp.picks [4, 5, 6] (by decide)) hD) (fun v wd1 ⟨hv, hM⟩ => ?_)
                subst hv
                have hp : Hp wd1 [(_, Cl [_, _, _, _, _] _), _, _, _, (_, Cl [_, _, _, _, _] _), _, _] := hp.call [0, 1, 2, 3] [4, 5, 6] (by decide) rfl hM
                have hF := hF.step hM.fr (fun y hy => Or.inr (hdk y hy))
                refine Ls_nil (Th_n (hK34 _ _ ?_))
                refine Wp_exit (Th_e (Ib_hit (Th_n (hK28 _ _ ?_))))
                refine Wp_region ?_
                refine Ls_y (wtd0 rfl) rfl rfl (y_move rfl rfl) ?_
                first
                  | refine Ls_y (wtd0 rfl) rfl rfl (y_add rfl rfl rfl (w_succ (by omega))) ?_
                  | refine Ls_y (wtd0 rfl) rfl rfl (y_add rfl rfl rfl (wf_i64 (by omega))) ?_
                  | refine Ls_y (wtd0 rfl) rfl rfl (y_add rfl rfl rfl rfl) ?_
                refine Ls_y (wtd0 rfl) rfl rfl (y_assign rfl rfl) ?_
                refine Ls_nil (Th_n (?_))
                exact ⟨ops2.length - (k + 1), [(0, _), (2, _), (4, _), (11, _), (14, _), (15, _), (16, _)], by omega, ⟨rfl, rfl, rfl, rfl, rfl, rfl, rfl, trivial⟩, k + 1, syncD D, es, clock, f, by omega, rfl, rfl, (hp.picks [0, 1, 2, 3, 4, 5, 6] (by decide)), syncD_ok hD, hI.sync, hMk, hF⟩
              · refine Ls_nil (Th_n (hK33 _ _ ?_))
                refine Wp_cond_f rfl ?_
                refine Wp_skip (Th_n (hK32 _ _ ?_))
                refine Wp_seq fun K35 hK35 => ?_
                refine Wp_plan (fun W => W.cell? ⟨ga, ba + k * 8 + 1, none⟩ = some (.int .i64 ii) ∧ W.cell? ⟨ga, ba + k * 8 + 2, none⟩ = some (sv s)) [(true, 0), (true, 1), (true, 2), (true, 3), (true, 4), (true, 5), (true, 6), (true, 7), (true, 8), (true, 9), (true, 10), (false, 11), (true, 12)] Ty.mx_0 (by kernel_rfl) (by kernel_rfl) rfl (⟨hcI _ (hF.step0 (Fr.drew _)), hcS _ (hF.step0 (Fr.drew _))⟩) ?_
                have hp := hp.drew
                have hF := hF.step0 (Fr.drew _)
                refine Pl_y rfl (wtd0 rfl) rfl rfl (y_move rfl rfl) ?_
                refine Pl_y rfl (wtd0 rfl) rfl rfl (y_move rfl rfl) ?_
                refine Pl_y rfl (wtd0 rfl) rfl rfl (y_move rfl rfl) ?_
                first
                  | refine Pl_y rfl (wtd0 rfl) rfl rfl (y_ixaN rfl rfl rfl Ty.es_66 (by omega)) ?_
                  | refine Pl_y rfl (wtd0 rfl) rfl rfl (y_ixa rfl rfl rfl Ty.es_66 (by omega) (by omega)) ?_
                refine Pl_y rfl (wtd0 rfl) rfl rfl (y_fld rfl rfl Ty.fo_75_1) ?_
                refine Pl_y rfl (wtd0 rfl) rfl rfl (y_loadc rfl rfl Ty.pl_3 (fun _ h => h.1)) ?_
                refine Pl_y rfl (wtd0 rfl) rfl rfl (y_move rfl rfl) ?_
                refine Pl_y rfl (wtd0 rfl) rfl rfl (y_move rfl rfl) ?_
                first
                  | refine Pl_y rfl (wtd0 rfl) rfl rfl (y_ixaN rfl rfl rfl Ty.es_66 (by omega)) ?_
                  | refine Pl_y rfl (wtd0 rfl) rfl rfl (y_ixa rfl rfl rfl Ty.es_66 (by omega) (by omega)) ?_
                refine Pl_y rfl (wtd0 rfl) rfl rfl (y_fld rfl rfl Ty.fo_75_2) ?_
                refine Pl_y rfl (wtd0 rfl) rfl rfl (y_loadc rfl rfl Ty.pl_9 (fun _ h => h.2)) ?_
                refine Pl_a rfl (wtd0 rfl) (by rfl) ?_
                refine a_call rfl rfl rfl rfl (dwrite_m p D _ (hp.picks [4, 5, 6] (by decide)) hD ii s) (fun v wd1 ⟨hv, hM⟩ => ?_)
                subst hv
                have hp : Hp wd1 [(_, Cl [_, _, _, _, _] _), _, _, _, (_, Cl [_, _, _, _, _] _), _, _] := hp.call [0, 1, 2, 3] [4, 5, 6] (by decide) rfl hM
                have hF := hF.step hM.fr (fun y hy => Or.inr (hdk y hy))
                refine ⟨⟨hcI _ hF, hcS _ hF⟩, ?_⟩
                refine Pl_y rfl (wtd0 rfl) rfl rfl (y_eq rfl rfl rfl) ?_
                refine Pl_bool 123 rfl (fun hwe => ?_) (fun hwe => ?_)
                all_goals try simp only [decide_eq_true_eq, decide_eq_false_iff_not, beq_iff_eq, bne_iff_ne, ne_eq, beq_eq_false_iff_ne, bne_eq_false_iff_eq, Bool.not_eq_true, Bool.not_eq_false] at hwe
                · refine Pl_nil (Th_n (hK35 _ _ ?_))
                  refine Wp_cond_t rfl ?_
                  refine Wp_region ?_
                  refine Ls_y (wtd0 rfl) rfl rfl (y_move rfl rfl) ?_
                  refine Ls_y (wtd0 rfl) rfl rfl (y_move rfl rfl) ?_
                  refine Ls_y (wtd0 rfl) rfl rfl (y_move rfl rfl) ?_
                  first
                    | refine Ls_y (wtd0 rfl) rfl rfl (y_ixaN rfl rfl rfl Ty.es_66 (by omega)) ?_
                    | refine Ls_y (wtd0 rfl) rfl rfl (y_ixa rfl rfl rfl Ty.es_66 (by omega) (by omega)) ?_
                  refine Ls_y (wtd0 rfl) rfl rfl (y_fld rfl rfl Ty.fo_75_1) ?_
                  refine Ls_y (wtd0 rfl) rfl rfl (y_loadc rfl rfl Ty.pl_3 (fun _ e => e ▸ hcI _ hF)) ?_
                  refine Ls_a (wtd0 rfl) ?_
                  refine a_mapup (i := 3) rfl rfl rfl rfl rfl Try.underlying87 Try.underlying3 rfl hp rfl hMk (fun es' clock' w7 hM' (hp : Hp w7 [(_, Cl [_, _, _, _, _] _), _, _, _, (_, Cl [_, _, _, _, _] _), _, _]) hf => ?_)
                  have hF := hF.step hf (fun y hy => Or.inr (by simp at hy; subst hy; exact hgm))
                  refine Ls_nil (Ib_n (Th_n (hK28 _ _ ?_)))
                  refine Wp_region ?_
                  refine Ls_y (wtd0 rfl) rfl rfl (y_move rfl rfl) ?_
                  first
                    | refine Ls_y (wtd0 rfl) rfl rfl (y_add rfl rfl rfl (w_succ (by omega))) ?_
                    | refine Ls_y (wtd0 rfl) rfl rfl (y_add rfl rfl rfl (wf_i64 (by omega))) ?_
                    | refine Ls_y (wtd0 rfl) rfl rfl (y_add rfl rfl rfl rfl) ?_
                  refine Ls_y (wtd0 rfl) rfl rfl (y_assign rfl rfl) ?_
                  refine Ls_nil (Th_n (?_))
                  exact ⟨ops2.length - (k + 1), [(0, _), (2, _), (4, _), (11, _), (14, _), (15, _), (16, _)], by omega, ⟨rfl, rfl, rfl, rfl, rfl, rfl, rfl, trivial⟩, k + 1, writeD D ii s, es', clock', _, by omega, rfl, rfl, (hp.picks [0, 1, 2, 3, 4, 5, 6] (by decide)), writeD_ok hD _ _, hI.write_ok (by simpa using hwe), hM', hF⟩
                · refine Pl_nil (Th_n (hK35 _ _ ?_))
                  refine Wp_cond_f rfl ?_
                  refine Wp_skip (Ib_n (Th_n (hK28 _ _ ?_)))
                  refine Wp_region ?_
                  refine Ls_y (wtd0 rfl) rfl rfl (y_move rfl rfl) ?_
                  first
                    | refine Ls_y (wtd0 rfl) rfl rfl (y_add rfl rfl rfl (w_succ (by omega))) ?_
                    | refine Ls_y (wtd0 rfl) rfl rfl (y_add rfl rfl rfl (wf_i64 (by omega))) ?_
                    | refine Ls_y (wtd0 rfl) rfl rfl (y_add rfl rfl rfl rfl) ?_
                  refine Ls_y (wtd0 rfl) rfl rfl (y_assign rfl rfl) ?_
                  refine Ls_nil (Th_n (?_))
                  exact ⟨ops2.length - (k + 1), [(0, _), (2, _), (4, _), (11, _), (14, _), (15, _), (16, _)], by omega, ⟨rfl, rfl, rfl, rfl, rfl, rfl, rfl, trivial⟩, k + 1, writeD D ii s, es, clock, f, by omega, rfl, rfl, (hp.picks [0, 1, 2, 3, 4, 5, 6] (by decide)), writeD_ok hD _ _, hI.write_bad (by simpa using hwe), hMk, hF⟩
          · refine Ls_y (wtd0 rfl) rfl rfl (y_pick_t rfl rfl rfl) ?_
            refine Ls_nil (Th_n (hK27 _ _ ?_))
            refine Wp_cond_f rfl ?_
            refine Wp_exit (Th_e (Th_e (Ib_hit (Th_n (hK23 _ _ ?_)))))
            refine Wp_seq fun K36 hK36 => ?_
            refine Wp_region ?_
            refine Ls_y (wtd0 rfl) rfl rfl (y_move rfl rfl) ?_
            refine Ls_a (wtd0 rfl) ?_
            refine a_bsl0 rfl rfl rfl Ty.es_73 Ty.zc_3 hp (fun g1 w3 (hp : Hp w3 [(_, Cl [_, _, _, _, _] _), _, _, _, (_, Cl [_, _, _, _, _] _), _, _, _]) hf hg1 => ?_)
            have hg1 := Nat.le_trans hF.size hg1
            have hF := hF.step0 hf
            refine Ls_y (wtd0 rfl) rfl rfl (y_move rfl rfl) ?_
            refine Ls_a (wtd0 rfl) ?_
            refine a_append (i := 7) (A := some ⟨g1, 0, none⟩) (xs := []) (sp := []) (news := ks.map intV) rfl rfl rfl rfl rfl rfl Ty.es_73 Ty.zc_3 rfl Ty.by_3 (by decide) ⟨rfl, .inr ⟨g1, rfl, rfl, Nat.le_refl _, by unfold maxLen; omega⟩⟩ hp rfl (by simp) ((hK.keep hF (Nat.le_refl _) (by simp)).src) (fun e => by have := hK.none e; simpa using this) (by simp [Value.oneCell']) (by unfold maxLen; omega) (by omega) (fun A' c' sp' w4 how' (hp : Hp w4 [(_, Cl [_, _, _, _, _] _), _, _, _, (_, Cl [_, _, _, _, _] _), _, _, _]) hf hnw => ?_)
            have hzz := hF.size
            have hF := hF.step hf (by intro y hy; simp [blkOf] at hy; subst hy; exact Or.inr hg1)
            rw [Nat.zero_add] at how' ⊢
            have hkA : ∀ g, blkOf A' = some g → w.heap.size ≤ g := fun g hg => by
              rcases hnw g hg with h | h
              · simp [blkOf] at h; subst h; exact hg1
              · exact Nat.le_trans hzz h
            refine Ls_a (wtd0 rfl) ?_
            refine a_call rfl rfl rfl rfl (dmend_ok p D _ A' c' ks sp' how' (hp.picks [4, 5, 6, 7] (by decide)) hD) (fun v wd1 ⟨hv, hM⟩ => ?_)
            subst hv
            have hp : Hp wd1 [(_, Cl [_, _, _, _, _] _), _, _, _, (_, Cl [_, _, _, _, _] _), _, _, _] := hp.call [0, 1, 2, 3] [4, 5, 6, 7] (by decide) rfl hM
            have hF := hF.step hM.fr (fr_dkA hdk hkA)
            refine Ls_nil (Th_n (hK36 _ _ ?_))
            refine Wp_seq fun K37 hK37 => ?_
            refine Wp_seq fun K38 hK38 => ?_
            refine Wp_region ?_
            refine Ls_y (wtd0 rfl) rfl rfl (y_assign rfl rfl) ?_
            refine Ls_nil (Th_n (hK38 _ _ ?_))
            refine Wp_block ?_
            refine Wp_loopE (fun m e W => ∃ (k : Nat), k ≤ nk ∧ m = nk - k ∧ e = [(0, .int .i64 ((nk : Nat) : Int)), (11, .pointer (some ⟨p.gd, 0, none⟩)), (14, .pointer (some ⟨p3.gd, 0, none⟩)), (15, .map (some gm)), (17, .int .i64 (k : Int))] ∧ Hp W (dkH p3 C ++ [(some gm, .map es clock)] ++ dkH p (mendD D ks)) ∧ Fr [] w W) (nk) [(0, _), (11, _), (14, _), (15, _), (17, _)] ⟨rfl, rfl, rfl, rfl, rfl, trivial⟩ ?_ ?_
            · exact ⟨0, by omega, by omega, rfl, (hp.picks [0, 1, 2, 3, 4, 5, 6] (by decide)), hF⟩
            rintro m e W ⟨k, hk, rfl, rfl, hp, hF⟩
            have hp : Hp W [(_, Cl [_, _, _, _, _] _), _, _, _, (_, Cl [_, _, _, _, _] _), _, _] := hp
            refine Wp_seq fun K40 hK40 => ?_
            refine Wp_seq fun K41 hK41 => ?_
            refine Wp_region ?_
            refine Ls_y (wtd0 rfl) rfl rfl (y_move rfl rfl) ?_
            refine Ls_y (wtd0 rfl) rfl rfl (y_move rfl rfl) ?_
            refine Ls_y (wtd0 rfl) rfl rfl (y_lt rfl rfl rfl) ?_
            refine Ls_bool 137 rfl (fun hlt => ?_) (fun hlt => ?_)
            all_goals try simp only [decide_eq_true_eq, decide_eq_false_iff_not, beq_iff_eq, bne_iff_ne, ne_eq, beq_eq_false_iff_ne, bne_eq_false_iff_eq, Bool.not_eq_true, Bool.not_eq_false] at hlt
            · refine Ls_nil (Th_n (hK41 _ _ ?_))
              have hkn : k < nk := by omega
              have hM0 := mendD_ok hD ks
              have hr1 := read_in (D := mendD D ks) (j := k) rfl (by rw [mend_len hD ks, hI.len, hCn]; exact hkn)
              have hr2 := read_in (D := C) (j := k) hCd (by rw [hCn]; exact hkn)
              refine Wp_cond_t rfl ?_
              refine Wp_skip (Th_n (hK40 _ _ ?_))
              refine Wp_seq fun K42 hK42 => ?_
              refine Wp_block ?_
              refine Wp_seq fun K43 hK43 => ?_
              refine Wp_region ?_
              refine Ls_y (wtd0 rfl) rfl rfl (y_move rfl rfl) ?_
              refine Ls_y (wtd0 rfl) rfl rfl (y_move rfl rfl) ?_
              refine Ls_a (wtd0 rfl) ?_
              refine a_call rfl rfl rfl rfl (dread_ok p (mendD D ks) _ (hp.picks [4, 5, 6] (by decide)) hM0 _) (fun v w4 ⟨hv, hw⟩ => ?_)
              rw [hr1.1] at hv
              subst hv
              subst hw
              refine Ls_y (wtd0 rfl) rfl rfl (y_move rfl rfl) ?_
              refine Ls_y (wtd0 rfl) rfl rfl (y_ext rfl rfl rfl) ?_
              refine Ls_y (wtd0 rfl) rfl rfl (y_ext rfl rfl rfl) ?_
              refine Ls_y (wtd0 rfl) rfl rfl (y_assign rfl rfl) ?_
              refine Ls_y (wtd0 rfl) rfl rfl (y_assign rfl rfl) ?_
              refine Ls_nil (Th_n (hK43 _ _ ?_))
              refine Wp_seq fun K44 hK44 => ?_
              refine Wp_region ?_
              refine Ls_y (wtd0 rfl) rfl rfl (y_move rfl rfl) ?_
              refine Ls_y (wtd0 rfl) rfl rfl (y_move rfl rfl) ?_
              refine Ls_a (wtd0 rfl) ?_
              refine a_call rfl rfl rfl rfl (dread_ok p3 C _ (hp.picks [0, 1, 2] (by decide)) hC _) (fun v w4 ⟨hv, hw⟩ => ?_)
              rw [hr2.1] at hv
              subst hv
              subst hw
              refine Ls_y (wtd0 rfl) rfl rfl (y_move rfl rfl) ?_
              refine Ls_y (wtd0 rfl) rfl rfl (y_ext rfl rfl rfl) ?_
              refine Ls_y (wtd0 rfl) rfl rfl (y_ext rfl rfl rfl) ?_
              refine Ls_y (wtd0 rfl) rfl rfl (y_assign rfl rfl) ?_
              refine Ls_y (wtd0 rfl) rfl rfl (y_assign rfl rfl) ?_
              refine Ls_nil (Th_n (hK44 _ _ ?_))
              refine Wp_seq fun K45 hK45 => ?_
              refine Wp_region ?_
              refine Ls_y (wtd0 rfl) rfl rfl (y_move rfl rfl) ?_
              refine Ls_y (wtd0 rfl) rfl rfl (y_neF rfl rfl rfl (by omega)) ?_
              refine Ls_y (wtd0 rfl) rfl rfl (y_move rfl rfl) ?_
              refine Ls_y (wtdT rfl rfl rfl) rfl rfl (y_move rfl rfl) ?_
              refine Ls_y (wtdT rfl rfl rfl) rfl rfl (y_neF rfl rfl rfl (by omega)) ?_
              refine Ls_y (wtd0 rfl) rfl rfl (y_pick_f rfl rfl rfl) ?_
              refine Ls_y (wtd0 rfl) rfl rfl (y_move rfl rfl) ?_
              refine Ls_y (wtdT rfl rfl rfl) rfl rfl (y_move rfl rfl) ?_
              refine Ls_y (wtdT rfl rfl rfl) rfl rfl (y_move rfl rfl) ?_
              refine Ls_y (wtdT rfl rfl rfl) rfl rfl (y_nes rfl rfl rfl) ?_
              refine Ls_bool 161 rfl (fun hxy => ?_) (fun hxy => ?_)
              all_goals try simp only [decide_eq_true_eq, decide_eq_false_iff_not, beq_iff_eq, bne_iff_ne, ne_eq, beq_eq_false_iff_ne, bne_eq_false_iff_eq, Bool.not_eq_true, Bool.not_eq_false] at hxy
              · have hf : (f (natV k)).getD (.bool false) = .bool true := by
                  cases hf : f (natV k) with
                  | none => exfalso; apply hxy; rw [hr1.2, hr2.2, hI.mend hD ks hf]
                  | some v => rw [hI.tr _ _ hf]; rfl
                refine Ls_y (wtdT rfl rfl rfl) rfl rfl (y_move rfl rfl) ?_
                refine Ls_y (wtdT rfl rfl rfl) rfl rfl (y_move rfl rfl) ?_
                refine Ls_y (wtdT rfl rfl rfl) rfl rfl (y_move rfl rfl) ?_
                refine Ls_y (wtdT rfl rfl rfl) rfl rfl (y_lookupV (i := 3) rfl rfl rfl Try.underlying87 Try.underlying3 zv_bool rfl (fun _ e => e ▸ hp) rfl hMk hf) ?_
                refine Ls_y (wtdT rfl rfl rfl) rfl rfl (y_not rfl rfl) ?_
                refine Ls_y (wtdT rfl rfl rfl) rfl rfl (y_pick_t rfl rfl rfl) ?_
                refine Ls_y (wtd0 rfl) rfl rfl (y_pick_f rfl rfl rfl) ?_
                refine Ls_nil (Th_n (hK45 _ _ ?_))
                refine Wp_cond_f rfl ?_
                refine Wp_skip (Ib_n (Th_n (hK42 _ _ ?_)))
                refine Wp_region ?_
                refine Ls_y (wtd0 rfl) rfl rfl (y_move rfl rfl) ?_
                first
                  | refine Ls_y (wtd0 rfl) rfl rfl (y_add rfl rfl rfl (w_succ (by omega))) ?_
                  | refine Ls_y (wtd0 rfl) rfl rfl (y_add rfl rfl rfl (wf_i64 (by omega))) ?_
                  | refine Ls_y (wtd0 rfl) rfl rfl (y_add rfl rfl rfl rfl) ?_
                refine Ls_y (wtd0 rfl) rfl rfl (y_assign rfl rfl) ?_
                refine Ls_nil (Th_n (?_))
                exact ⟨nk - (k + 1), [(0, _), (11, _), (14, _), (15, _), (17, _)], by omega, ⟨rfl, rfl, rfl, rfl, rfl, trivial⟩, k + 1, by omega, rfl, rfl, hp, hF⟩
              · refine Ls_y (wtdT rfl rfl rfl) rfl rfl (y_move rfl rfl) ?_
                refine Ls_s (wtdF rfl rfl rfl) rfl rfl ?_
                refine Ls_s (wtdF rfl rfl rfl) rfl rfl ?_
                refine Ls_s (wtdF rfl rfl rfl) rfl rfl ?_
                refine Ls_s (wtdF rfl rfl rfl) rfl rfl ?_
                refine Ls_y (wtdT rfl rfl rfl) rfl rfl (y_pick_f rfl rfl rfl) ?_
                refine Ls_y (wtd0 rfl) rfl rfl (y_pick_f rfl rfl rfl) ?_
                refine Ls_nil (Th_n (hK45 _ _ ?_))
                refine Wp_cond_f rfl ?_
                refine Wp_skip (Ib_n (Th_n (hK42 _ _ ?_)))
                refine Wp_region ?_
                refine Ls_y (wtd0 rfl) rfl rfl (y_move rfl rfl) ?_
                first
                  | refine Ls_y (wtd0 rfl) rfl rfl (y_add rfl rfl rfl (w_succ (by omega))) ?_
                  | refine Ls_y (wtd0 rfl) rfl rfl (y_add rfl rfl rfl (wf_i64 (by omega))) ?_
                  | refine Ls_y (wtd0 rfl) rfl rfl (y_add rfl rfl rfl rfl) ?_
                refine Ls_y (wtd0 rfl) rfl rfl (y_assign rfl rfl) ?_
                refine Ls_nil (Th_n (?_))
                exact ⟨nk - (k + 1), [(0, _), (11, _), (14, _), (15, _), (17, _)], by omega, ⟨rfl, rfl, rfl, rfl, rfl, trivial⟩, k + 1, by omega, rfl, rfl, hp, hF⟩
            · refine Ls_nil (Th_n (hK41 _ _ ?_))
              refine Wp_cond_f rfl ?_
              refine Wp_exit (Th_e (Th_e (Ib_hit (Th_n (hK37 _ _ ?_)))))
              refine Wp_seq fun K46 hK46 => ?_
              refine Wp_region ?_
              refine Ls_y (wtd0 rfl) rfl rfl (y_move rfl rfl) ?_
              refine Ls_a (wtd0 rfl) ?_
              refine a_call rfl rfl rfl rfl (ddirty_ok p (mendD D ks) _ (hp.picks [4, 5, 6] (by decide)) (mendD_ok hD ks)) (fun v w5 ⟨A2, c2, sp2, hv, how2, hN2⟩ => ?_)
              rw [dirty_nil (D := mendD D ks) rfl] at hv
              subst hv
              have hp := hp.keep0 hN2.fr
              have hF := hF.step0 hN2.fr
              refine Ls_y (wtd0 rfl) rfl rfl (y_lenl rfl rfl Try.underlying73) ?_
              refine Ls_y (wtd0 rfl) rfl rfl (y_eq rfl rfl rfl) ?_
              refine Ls_bool 172 rfl (fun _ => ?_) (fun hc13 => absurd hc13 (by simp))
              refine Ls_y (wtd0 rfl) rfl rfl (y_move rfl rfl) ?_
              refine Ls_y (wtdT rfl rfl rfl) rfl rfl (y_move rfl rfl) ?_
              refine Ls_a (wtdT rfl rfl rfl) ?_
              refine a_call rfl rfl rfl rfl (ddown_ok p (mendD D ks) _ (hp.picks [4, 5, 6] (by decide))) (fun v w6 ⟨hv, hw⟩ => ?_)
              subst hv
              subst hw
              refine Ls_y (wtdT rfl rfl rfl) rfl rfl (y_not rfl rfl) ?_
              refine Ls_y (wtd0 rfl) rfl rfl (y_pick_t rfl rfl rfl) ?_
              refine Ls_y (wtd0 rfl) rfl rfl (y_assign rfl rfl) ?_
              refine Ls_nil (Th_n (hK46 _ _ ?_))
              refine Wp_ret (Fq_ret (Res1 rfl rfl) ?_)
              exact ⟨rfl, hF⟩
        · refine Ls_y (wtd0 rfl) rfl rfl (y_move rfl rfl) ?_
          refine Ls_s (wtdF rfl rfl rfl) rfl rfl ?_
          refine Ls_s (wtdF rfl rfl rfl) rfl rfl ?_
          refine Ls_y (wtd0 rfl) rfl rfl (y_pick_f rfl rfl rfl) ?_
          refine Ls_nil (Th_n (hK27 _ _ ?_))
          refine Wp_cond_f rfl ?_
          refine Wp_exit (Th_e (Th_e (Ib_hit (Th_n (hK23 _ _ ?_)))))
          refine Wp_seq fun K47 hK47 => ?_
          refine Wp_region ?_
          refine Ls_y (wtd0 rfl) rfl rfl (y_move rfl rfl) ?_
          refine Ls_a (wtd0 rfl) ?_
          refine a_bsl0 rfl rfl rfl Ty.es_73 Ty.zc_3 hp (fun g1 w3 (hp : Hp w3 [(_, Cl [_, _, _, _, _] _), _, _, _, (_, Cl [_, _, _, _, _] _), _, _, _]) hf hg1 => ?_)
          have hg1 := Nat.le_trans hF.size hg1
          have hF := hF.step0 hf
          refine Ls_y (wtd0 rfl) rfl rfl (y_move rfl rfl) ?_
          refine Ls_a (wtd0 rfl) ?_
          refine a_append (i := 7) (A := some ⟨g1, 0, none⟩) (xs := []) (sp := []) (news := ks.map intV) rfl rfl rfl rfl rfl rfl Ty.es_73 Ty.zc_3 rfl Ty.by_3 (by decide) ⟨rfl, .inr ⟨g1, rfl, rfl, Nat.le_refl _, by unfold maxLen; omega⟩⟩ hp rfl (by simp) ((hK.keep hF (Nat.le_refl _) (by simp)).src) (fun e => by have := hK.none e; simpa using this) (by simp [Value.oneCell']) (by unfold maxLen; omega) (by omega) (fun A' c' sp' w4 how' (hp : Hp w4 [(_, Cl [_, _, _, _, _] _), _, _, _, (_, Cl [_, _, _, _, _] _), _, _, _]) hf hnw => ?_)
          have hzz := hF.size
          have hF := hF.step hf (by intro y hy; simp [blkOf] at hy; subst hy; exact Or.inr hg1)
          rw [Nat.zero_add] at how' ⊢
          have hkA : ∀ g, blkOf A' = some g → w.heap.size ≤ g := fun g hg => by
            rcases hnw g hg with h | h
            · simp [blkOf] at h; subst h; exact hg1
            · exact Nat.le_trans hzz h
          refine Ls_a (wtd0 rfl) ?_
          refine a_call rfl rfl rfl rfl (dmend_ok p D _ A' c' ks sp' how' (hp.picks [4, 5, 6, 7] (by decide)) hD) (fun v wd1 ⟨hv, hM⟩ => ?_)
          subst hv
          have hp : Hp wd1 [(_, Cl [_, _, _, _, _] _), _, _, _, (_, Cl [_, _, _, _, _] _), _, _, _] := hp.call [0, 1, 2, 3] [4, 5, 6, 7] (by decide) rfl hM
          have hF := hF.step hM.fr (fr_dkA hdk hkA)
          refine Ls_nil (Th_n (hK47 _ _ ?_))
          refine Wp_seq fun K48 hK48 => ?_
          refine Wp_seq fun K49 hK49 => ?_
          refine Wp_region ?_
          refine Ls_y (wtd0 rfl) rfl rfl (y_assign rfl rfl) ?_
          refine Ls_nil (Th_n (hK49 _ _ ?_))
          refine Wp_block ?_
          refine Wp_loopE (fun m e W => ∃ (k : Nat), k ≤ nk ∧ m = nk - k ∧ e = [(0, .int .i64 ((nk : Nat) : Int)), (11, .pointer (some ⟨p.gd, 0, none⟩)), (14, .pointer (some ⟨p3.gd, 0, none⟩)), (15, .map (some gm)), (17, .int .i64 (k : Int))] ∧ Hp W (dkH p3 C ++ [(some gm, .map es clock)] ++ dkH p (mendD D ks)) ∧ Fr [] w W) (nk) [(0, _), (11, _), (14, _), (15, _), (17, _)] ⟨rfl, rfl, rfl, rfl, rfl, trivial⟩ ?_ ?_
          · exact ⟨0, by omega, by omega, rfl, (hp.picks [0, 1, 2, 3, 4, 5, 6] (by decide)), hF⟩
          rintro m e W ⟨k, hk, rfl, rfl, hp, hF⟩
          have hp : Hp W [(_, Cl [_, _, _, _, _] _), _, _, _, (_, Cl [_, _, _, _, _] _), _, _] := hp
          refine Wp_seq fun K51 hK51 => ?_
          refine Wp_seq fun K52 hK52 => ?_
          refine Wp_region ?_
          refine Ls_y (wtd0 rfl) rfl rfl (y_move rfl rfl) ?_
          refine Ls_y (wtd0 rfl) rfl rfl (y_move rfl rfl) ?_
          refine Ls_y (wtd0 rfl) rfl rfl (y_lt rfl rfl rfl) ?_
          refine Ls_bool 137 rfl (fun hlt => ?_) (fun hlt => ?_)
          all_goals try simp only [decide_eq_true_eq, decide_eq_false_iff_not, beq_iff_eq, bne_iff_ne, ne_eq, beq_eq_false_iff_ne, bne_eq_false_iff_eq, Bool.not_eq_true, Bool.not_eq_false] at hlt
          · refine Ls_nil (Th_n (hK52 _ _ ?_))
            have hkn : k < nk := by omega
            have hM0 := mendD_ok hD ks
            have hr1 := read_in (D := mendD D ks) (j := k) rfl (by rw [mend_len hD ks, hI.len, hCn]; exact hkn)
            have hr2 := read_in (D := C) (j := k) hCd (by rw [hCn]; exact hkn)
            refine Wp_cond_t rfl ?_
            refine Wp_skip (Th_n (hK51 _ _ ?_))
            refine Wp_seq fun K53 hK53 => ?_
            refine Wp_block ?_
            refine Wp_seq fun K54 hK54 => ?_
            refine Wp_region ?_
            refine Ls_y (wtd0 rfl) rfl rfl (y_move rfl rfl) ?_
            refine Ls_y (wtd0 rfl) rfl rfl (y_move rfl rfl) ?_
            refine Ls_a (wtd0 rfl) ?_
            refine a_call rfl rfl rfl rfl (dread_ok p (mendD D ks) _ (hp.picks [4, 5, 6] (by decide)) hM0 _) (fun v w4 ⟨hv, hw⟩ => ?_)
            rw [hr1.1] at hv
            subst hv
            subst hw
            refine Ls_y (wtd0 rfl) rfl rfl (y_move rfl rfl) ?_
            refine Ls_y (wtd0 rfl) rfl rfl (y_ext rfl rfl rfl) ?_
            refine Ls_y (wtd0 rfl) rfl rfl (y_ext rfl rfl rfl) ?_
            refine Ls_y (wtd0 rfl) rfl rfl (y_assign rfl rfl) ?_
            refine Ls_y (wtd0 rfl) rfl rfl (y_assign rfl rfl) ?_
            refine Ls_nil (Th_n (hK54 _ _ ?_))
            refine Wp_seq fun K55 hK55 => ?_
            refine Wp_region ?_
            refine Ls_y (wtd0 rfl) rfl rfl (y_move rfl rfl) ?_
            refine Ls_y (wtd0 rfl) rfl rfl (y_move rfl rfl) ?_
            refine Ls_a (wtd0 rfl) ?_
            refine a_call rfl rfl rfl rfl (dread_ok p3 C _ (hp.picks [0, 1, 2] (by decide)) hC _) (fun v w4 ⟨hv, hw⟩ => ?_)
            rw [hr2.1] at hv
            subst hv
            subst hw
            refine Ls_y (wtd0 rfl) rfl rfl (y_move rfl rfl) ?_
            refine Ls_y (wtd0 rfl) rfl rfl (y_ext rfl rfl rfl) ?_
            refine Ls_y (wtd0 rfl) rfl rfl (y_ext rfl rfl rfl) ?_
            refine Ls_y (wtd0 rfl) rfl rfl (y_assign rfl rfl) ?_
            refine Ls_y (wtd0 rfl) rfl rfl (y_assign rfl rfl) ?_
            refine Ls_nil (Th_n (hK55 _ _ ?_))
            refine Wp_seq fun K56 hK56 => ?_
            refine Wp_region ?_
            refine Ls_y (wtd0 rfl) rfl rfl (y_move rfl rfl) ?_
            refine Ls_y (wtd0 rfl) rfl rfl (y_neF rfl rfl rfl (by omega)) ?_
            refine Ls_y (wtd0 rfl) rfl rfl (y_move rfl rfl) ?_
            refine Ls_y (wtdT rfl rfl rfl) rfl rfl (y_move rfl rfl) ?_
            refine Ls_y (wtdT rfl rfl rfl) rfl rfl (y_neF rfl rfl rfl (by omega)) ?_
            refine Ls_y (wtd0 rfl) rfl rfl (y_pick_f rfl rfl rfl) ?_
            refine Ls_y (wtd0 rfl) rfl rfl (y_move rfl rfl) ?_
            refine Ls_y (wtdT rfl rfl rfl) rfl rfl (y_move rfl rfl) ?_
            refine Ls_y (wtdT rfl rfl rfl) rfl rfl (y_move rfl rfl) ?_
            refine Ls_y (wtdT rfl rfl rfl) rfl rfl (y_nes rfl rfl rfl) ?_
            refine Ls_bool 161 rfl (fun hxy => ?_) (fun hxy => ?_)
            all_goals try simp only [decide_eq_true_eq, decide_eq_false_iff_not, beq_iff_eq, bne_iff_ne, ne_eq, beq_eq_false_iff_ne, bne_eq_false_iff_eq, Bool.not_eq_true, Bool.not_eq_false] at hxy
            · have hf : (f (natV k)).getD (.bool false) = .bool true := by
                cases hf : f (natV k) with
                | none => exfalso; apply hxy; rw [hr1.2, hr2.2, hI.mend hD ks hf]
                | some v => rw [hI.tr _ _ hf]; rfl
              refine Ls_y (wtdT rfl rfl rfl) rfl rfl (y_move rfl rfl) ?_
              refine Ls_y (wtdT rfl rfl rfl) rfl rfl (y_move rfl rfl) ?_
              refine Ls_y (wtdT rfl rfl rfl) rfl rfl (y_move rfl rfl) ?_
              refine Ls_y (wtdT rfl rfl rfl) rfl rfl (y_lookupV (i := 3) rfl rfl rfl Try.underlying87 Try.underlying3 zv_bool rfl (fun _ e => e ▸ hp) rfl hMk hf) ?_
              refine Ls_y (wtdT rfl rfl rfl) rfl rfl (y_not rfl rfl) ?_
              refine Ls_y (wtdT rfl rfl rfl) rfl rfl (y_pick_t rfl rfl rfl) ?_
              refine Ls_y (wtd0 rfl) rfl rfl (y_pick_f rfl rfl rfl) ?_
              refine Ls_nil (Th_n (hK56 _ _ ?_))
              refine Wp_cond_f rfl ?_
              refine Wp_skip (Ib_n (Th_n (hK53 _ _ ?_)))
              refine Wp_region ?_
              refine Ls_y (wtd0 rfl) rfl rfl (y_move rfl rfl) ?_
              first
                | refine Ls_y (wtd0 rfl) rfl rfl (y_add rfl rfl rfl (w_succ (by omega))) ?_
                | refine Ls_y (wtd0 rfl) rfl rfl (y_add rfl rfl rfl (wf_i64 (by omega))) ?_
                | refine Ls_y (wtd0 rfl) rfl rfl (y_add rfl rfl rfl rfl) ?_
              refine Ls_y (wtd0 rfl) rfl rfl (y_assign rfl rfl) ?_
              refine Ls_nil (Th_n (?_))
              exact ⟨nk - (k + 1), [(0, _), (11, _), (14, _), (15, _), (17, _)], by omega, ⟨rfl, rfl, rfl, rfl, rfl, trivial⟩, k + 1, by omega, rfl, rfl, hp, hF⟩
            · refine Ls_y (wtdT rfl rfl rfl) rfl rfl (y_move rfl rfl) ?_
              refine Ls_s (wtdF rfl rfl rfl) rfl rfl ?_
              refine Ls_s (wtdF rfl rfl rfl) rfl rfl ?_
              refine Ls_s (wtdF rfl rfl rfl) rfl rfl ?_
              refine Ls_s (wtdF rfl rfl rfl) rfl rfl ?_
              refine Ls_y (wtdT rfl rfl rfl) rfl rfl (y_pick_f rfl rfl rfl) ?_
              refine Ls_y (wtd0 rfl) rfl rfl (y_pick_f rfl rfl rfl) ?_
              refine Ls_nil (Th_n (hK56 _ _ ?_))
              refine Wp_cond_f rfl ?_
              refine Wp_skip (Ib_n (Th_n (hK53 _ _ ?_)))
              refine Wp_region ?_
              refine Ls_y (wtd0 rfl) rfl rfl (y_move rfl rfl) ?_
              first
                | refine Ls_y (wtd0 rfl) rfl rfl (y_add rfl rfl rfl (w_succ (by omega))) ?_
                | refine Ls_y (wtd0 rfl) rfl rfl (y_add rfl rfl rfl (wf_i64 (by omega))) ?_
                | refine Ls_y (wtd0 rfl) rfl rfl (y_add rfl rfl rfl rfl) ?_
              refine Ls_y (wtd0 rfl) rfl rfl (y_assign rfl rfl) ?_
              refine Ls_nil (Th_n (?_))
              exact ⟨nk - (k + 1), [(0, _), (11, _), (14, _), (15, _), (17, _)], by omega, ⟨rfl, rfl, rfl, rfl, rfl, trivial⟩, k + 1, by omega, rfl, rfl, hp, hF⟩
          · refine Ls_nil (Th_n (hK52 _ _ ?_))
            refine Wp_cond_f rfl ?_
            refine Wp_exit (Th_e (Th_e (Ib_hit (Th_n (hK48 _ _ ?_)))))
            refine Wp_seq fun K57 hK57 => ?_
            refine Wp_region ?_
            refine Ls_y (wtd0 rfl) rfl rfl (y_move rfl rfl) ?_
            refine Ls_a (wtd0 rfl) ?_
            refine a_call rfl rfl rfl rfl (ddirty_ok p (mendD D ks) _ (hp.picks [4, 5, 6] (by decide)) (mendD_ok hD ks)) (fun v w5 ⟨A2, c2, sp2, hv, how2, hN2⟩ => ?_)
            rw [dirty_nil (D := mendD D ks) rfl] at hv
            subst hv
            have hp := hp.keep0 hN2.fr
            have hF := hF.step0 hN2.fr
            refine Ls_y (wtd0 rfl) rfl rfl (y_lenl rfl rfl Try.underlying73) ?_
            refine Ls_y (wtd0 rfl) rfl rfl (y_eq rfl rfl rfl) ?_
            refine Ls_bool 172 rfl (fun _ => ?_) (fun hc16 => absurd hc16 (by simp))
            refine Ls_y (wtd0 rfl) rfl rfl (y_move rfl rfl) ?_
            refine Ls_y (wtdT rfl rfl rfl) rfl rfl (y_move rfl rfl) ?_
            refine Ls_a (wtdT rfl rfl rfl) ?_
            refine a_call rfl rfl rfl rfl (ddown_ok p (mendD D ks) _ (hp.picks [4, 5, 6] (by decide))) (fun v w6 ⟨hv, hw⟩ => ?_)
            subst hv
            subst hw
            refine Ls_y (wtdT rfl rfl rfl) rfl rfl (y_not rfl rfl) ?_
            refine Ls_y (wtd0 rfl) rfl rfl (y_pick_t rfl rfl rfl) ?_
            refine Ls_y (wtd0 rfl) rfl rfl (y_assign rfl rfl) ?_
            refine Ls_nil (Th_n (hK57 _ _ ?_))
            refine Wp_ret (Fq_ret (Res1 rfl rfl) ?_)
            exact ⟨rfl, hF⟩
    · obtain ⟨hse, hsl, hsd, hsn⟩ := sync_calm harm hdn
      have hC := syncD_ok hD
      refine Ls_y (wtd0 rfl) rfl rfl (y_move rfl rfl) ?_
      refine Ls_s (wtdF rfl rfl rfl) rfl rfl ?_
      refine Ls_s (wtdF rfl rfl rfl) rfl rfl ?_
      refine Ls_y (wtd0 rfl) rfl rfl (y_pick_f rfl rfl rfl) ?_
      refine Ls_nil (Th_n (hK13 _ _ ?_))
      refine Wp_cond_f rfl ?_
      refine Wp_exit (Th_e (Th_e (Ib_hit (Th_n (hK9 _ _ ?_)))))
      refine Wp_seq fun K58 hK58 => ?_
      refine Wp_seq fun K59 hK59 => ?_
      refine Wp_region ?_
      refine Ls_y (wtd0 rfl) rfl rfl (y_move rfl rfl) ?_
      refine Ls_a (wtd0 rfl) ?_
      refine a_call rfl rfl rfl rfl (dsync_m p D _ (hp.picks [0, 1, 2] (by decide)) hD) (fun v wd1 ⟨hv, hM⟩ => ?_)
      rw [hse] at hv
      subst hv
      obtain ⟨C, hCe⟩ : ∃ C, C = syncD D := ⟨_, rfl⟩
      rw [← hCe] at hM hC hsl hsd hsn
      have hCl : C.lasts = C.now := hsl
      have hCd : C.down = false := hsd
      have hCn : C.now.length = nk := by rw [hsn]; exact hDn
      have hp : Hp wd1 [(_, Cl [_, _, _, _, _] _), _, _] := hp.call [] [0, 1, 2] (by decide) rfl hM
      have hF := hF.step hM.fr (fun y hy => Or.inr (hdk y hy))
      refine Ls_y (wtd0 rfl) rfl rfl (y_neF rfl rfl rfl (by omega)) ?_
      refine Ls_y (wtd0 rfl) rfl rfl (y_move rfl rfl) ?_
      refine Ls_y (wtdT rfl rfl rfl) rfl rfl (y_move rfl rfl) ?_
      refine Ls_a (wtdT rfl rfl rfl) ?_
      refine a_call rfl rfl rfl rfl (ddirty_ok p C _ (hp.picks [0, 1, 2] (by decide)) hC) (fun v w5 ⟨A2, c2, sp2, hv, how2, hN2⟩ => ?_)
      rw [dirty_nil (D := C) hCl] at hv
      subst hv
      have hp := hp.keep0 hN2.fr
      have hF := hF.step0 hN2.fr
      refine Ls_y (wtdT rfl rfl rfl) rfl rfl (y_lenl rfl rfl Try.underlying73) ?_
      refine Ls_y (wtdT rfl rfl rfl) rfl rfl (y_gt rfl rfl rfl) ?_
      refine Ls_bool 77 rfl (fun hc17 => absurd hc17 (by simp)) (fun _ => ?_)
      refine Ls_y (wtd0 rfl) rfl rfl (y_pick_f rfl rfl rfl) ?_
      refine Ls_nil (Th_n (hK59 _ _ ?_))
      refine Wp_cond_f rfl ?_
      refine Wp_skip (Th_n (hK58 _ _ ?_))
      refine Wp_seq fun K60 hK60 => ?_
      refine Wp_region ?_
      refine Ls_y (wtd0 rfl) rfl rfl (y_move rfl rfl) ?_
      refine Ls_a (wtd0 rfl) ?_
      refine a_call rfl rfl rfl rfl (dcopy_ok p C _ (hp.picks [0, 1, 2] (by decide)) hC) (fun v wc ⟨p3, hv, hN, _⟩ => ?_)
      subst hv
      have hp : Hp wc [(_, Cl [_, _, _, _, _] _), _, _, (_, Cl [_, _, _, _, _] _), _, _] := hp.add hN
      have hck : ∀ y ∈ [p3.gd, p3.gn, p3.gl], w.heap.size ≤ y := fun y hy => Nat.le_trans hF.size (hN.nw y hy)
      have hF := hF.step0 hN.fr
      refine Ls_y (wtd0 rfl) rfl rfl (y_assign rfl rfl) ?_
      refine Ls_nil (Th_n (hK60 _ _ ?_))
      refine Wp_seq fun K61 hK61 => ?_
      refine Wp_region ?_
      refine Ls_y (wtd0 rfl) rfl rfl (y_move rfl rfl) ?_
      refine Ls_y (wtd0 rfl) rfl rfl (y_move rfl rfl) ?_
      refine Ls_y (wtd0 rfl) rfl rfl (y_cvi rfl rfl Try.underlying3 Try.underlying49 wm_u64) ?_
      refine Ls_y (wtd0 rfl) rfl rfl (y_remP rfl rfl rfl (by omega) (by omega)) ?_
      refine Ls_y (wtd0 rfl) rfl rfl (y_cvi rfl rfl Try.underlying49 Try.underlying3 hsk) ?_
      refine Ls_a (wtd0 rfl) ?_
      refine a_call rfl rfl rfl rfl (darm_m p C _ (hp.picks [0, 1, 2] (by decide)) sk) (fun v wd2 ⟨hv, hM⟩ => ?_)
      subst hv
      have hp : Hp wd2 [(_, Cl [_, _, _, _, _] _), _, _, (_, Cl [_, _, _, _, _] _), _, _] := hp.call [3, 4, 5] [0, 1, 2] (by decide) rfl hM
      have hF := hF.step hM.fr (fun y hy => Or.inr (hdk y hy))
      refine Ls_nil (Th_n (hK61 _ _ ?_))
      refine Wp_seq fun K62 hK62 => ?_
      refine Wp_region ?_
      refine Ls_a (wtd0 rfl) ?_
      refine a_mkmap rfl rfl rfl hp (fun gm wm (hp : Hp wm [(_, Cl [_, _, _, _, _] _), _, _, (_, Cl [_, _, _, _, _] _), _, _, _]) hf hgm => ?_)
      have hgm := Nat.le_trans hF.size hgm
      have hF := hF.step0 hf
      refine Ls_y (wtd0 rfl) rfl rfl (y_assign rfl rfl) ?_
      refine Ls_nil (Th_n (hK62 _ _ ?_))
      refine Wp_seq fun K63 hK63 => ?_
      refine Wp_seq fun K64 hK64 => ?_
      refine Wp_region ?_
      refine Ls_y (wtd0 rfl) rfl rfl (y_assign rfl rfl) ?_
      refine Ls_nil (Th_n (hK64 _ _ ?_))
      refine Wp_block ?_
      refine Wp_loopE (fun m e W => ∃ (k : Nat) (D : Dk) (es : Array MapEntry) (clock : Nat) (f : Value → Option Value), k ≤ ops2.length ∧ m = ops2.length - k ∧ e = [(0, .int .i64 ((nk : Nat) : Int)), (2, .slice B ops2.length cb), (4, .slice K ks.length kc), (11, .pointer (some ⟨p.gd, 0, none⟩)), (14, .pointer (some ⟨p3.gd, 0, none⟩)), (15, .map (some gm)), (16, .int .i64 (k : Int))] ∧ Hp W (dkH p3 C ++ [(some gm, .map es clock)] ++ dkH p D) ∧ DkOk D ∧ LInv C D f ∧ Mk (.int .i64) es clock f ∧ Fr [] w W) (ops2.length) [(0, _), (2, _), (4, _), (11, _), (14, _), (15, _), (16, _)] ⟨rfl, rfl, rfl, rfl, rfl, rfl, rfl, trivial⟩ ?_ ?_
      · exact ⟨0, armD C sk, #[], 0, fun _ => none, by omega, by omega, rfl, (hp.picks [0, 1, 2, 6, 3, 4, 5] (by decide)), armD_ok hC _ (by omega), LInv.start hCl _, Mk.empty _, hF⟩
      rintro m e W ⟨k, D, es, clock, f, hk, rfl, rfl, hp, hD, hI, hMk, hF⟩
      have hp : Hp W [(_, Cl [_, _, _, _, _] _), _, _, _, (_, Cl [_, _, _, _, _] _), _, _] := hp
      refine Wp_seq fun K66 hK66 => ?_
      refine Wp_seq fun K67 hK67 => ?_
      refine Wp_region ?_
      refine Ls_y (wtd0 rfl) rfl rfl (y_move rfl rfl) ?_
      refine Ls_y (wtd0 rfl) rfl rfl (y_move rfl rfl) ?_
      refine Ls_y (wtd0 rfl) rfl rfl (y_lenl rfl rfl Try.underlying66) ?_
      refine Ls_y (wtd0 rfl) rfl rfl (y_lt rfl rfl rfl) ?_
      refine Ls_bool 91 rfl (fun hlt => ?_) (fun hlt => ?_)
      all_goals try simp only [decide_eq_true_eq, decide_eq_false_iff_not, beq_iff_eq, bne_iff_ne, ne_eq, beq_eq_false_iff_ne, bne_eq_false_iff_eq, Bool.not_eq_true, Bool.not_eq_false] at hlt
      · refine Ls_y (wtd0 rfl) rfl rfl (y_move rfl rfl) ?_
        refine Ls_y (wtdT rfl rfl rfl) rfl rfl (y_move rfl rfl) ?_
        refine Ls_y (wtdT rfl rfl rfl) rfl rfl (y_lt rfl rfl rfl) ?_
        refine Ls_bool 94 rfl (fun h40 => ?_) (fun h40 => ?_)
        all_goals try simp only [decide_eq_true_eq, decide_eq_false_iff_not, beq_iff_eq, bne_iff_ne, ne_eq, beq_eq_false_iff_ne, bne_eq_false_iff_eq, Bool.not_eq_true, Bool.not_eq_false] at h40
        · have hk1 : k < ops2.length := by omega
          have ho : ops2[k]? = some ops2[k] := List.getElem?_eq_getElem hk1
          obtain ⟨ga, ba, rfl, hrow⟩ := ops_rowF hB ho
          have hO := hops2 _ (List.getElem_mem hk1)
          generalize ops2[k] = o at hrow hO
          obtain ⟨kd, ii, s, cg, cq, cf, cd, K', ks', kc'⟩ := o
          have hs1 := hO.s1
          have hd1 := hO.d1
          have hkl1 := hO.k1
          simp only at hs1 hd1 hkl1
          have hcK : ∀ W', Fr [] w W' → W'.cell? ⟨ga, ba + k * 8 + 0, none⟩ = some (.int .i64 kd) := fun W' h => hrow W' h 0 _ rfl
          have hcI : ∀ W', Fr [] w W' → W'.cell? ⟨ga, ba + k * 8 + 1, none⟩ = some (.int .i64 ii) := fun W' h => hrow W' h 1 _ rfl
          have hcS : ∀ W', Fr [] w W' → W'.cell? ⟨ga, ba + k * 8 + 2, none⟩ = some (sv s) := fun W' h => hrow W' h 2 _ rfl
          refine Ls_y (wtd0 rfl) rfl rfl (y_pick_t rfl rfl rfl) ?_
          refine Ls_nil (Th_n (hK67 _ _ ?_))
          refine Wp_cond_t rfl ?_
          refine Wp_skip (Th_n (hK66 _ _ ?_))
          refine Wp_seq fun K68 hK68 => ?_
          refine Wp_block ?_
          refine Wp_seq fun K69 hK69 => ?_
          refine Wp_seq fun K70 hK70 => ?_
          refine Wp_region ?_
          refine Ls_y (wtd0 rfl) rfl rfl (y_move rfl rfl) ?_
          refine Ls_y (wtd0 rfl) rfl rfl (y_move rfl rfl) ?_
          first
            | refine Ls_y (wtd0 rfl) rfl rfl (y_ixaN rfl rfl rfl Ty.es_66 (by omega)) ?_
            | refine Ls_y (wtd0 rfl) rfl rfl (y_ixa rfl rfl rfl Ty.es_66 (by omega) (by omega)) ?_
          refine Ls_y (wtd0 rfl) rfl rfl (y_loadr (cs := [.int .i64 kd, .int .i64 ii, sv s, .int .u16 cg, .int .u32 cq, .int .u8 cf, sv cd, .slice K' ks'.length kc']) rfl rfl Ty.ag_75 rfl (fun _ e => e ▸ hrow _ hF)) ?_
          refine Ls_a (wtd0 rfl) ?_
          refine a_call rfl rfl rfl rfl (great_ok kd ii cg cq cf s cd K' ks'.length kc' _ hkl1 hs1 hd1) (fun v wg ⟨hv, hf⟩ => ?_)
          subst hv
          have hp := hp.keep0 hf
          have hF := hF.step0 hf
          refine Ls_nil (Th_n (hK70 _ _ ?_))
          refine Wp_cond rfl (fun hgr => ?_) (fun hgr => ?_)
          all_goals try simp only [decide_eq_true_eq, decide_eq_false_iff_not, beq_iff_eq, bne_iff_ne, ne_eq, beq_eq_false_iff_ne, bne_eq_false_iff_eq, Bool.not_eq_true] at hgr
          · refine Wp_seq fun K71 hK71 => ?_
            refine Wp_region ?_
            refine Ls_y (wtd0 rfl) rfl rfl (y_assign rfl rfl) ?_
            refine Ls_nil (Th_n (hK71 _ _ ?_))
            refine Wp_ret (Th_r (Ib_r (Th_r (Th_r (Ib_r (Th_r (Fq_ret (Res1 rfl rfl) ?_)))))))
            exact ⟨rfl, hF⟩
          · refine Wp_skip (Th_n (hK69 _ _ ?_))
            refine Wp_seq fun K72 hK72 => ?_
            refine Wp_seq fun K73 hK73 => ?_
            refine Wp_region ?_
            refine Ls_y (wtd0 rfl) rfl rfl (y_move rfl rfl) ?_
            refine Ls_y (wtd0 rfl) rfl rfl (y_move rfl rfl) ?_
            first
              | refine Ls_y (wtd0 rfl) rfl rfl (y_ixaN rfl rfl rfl Ty.es_66 (by omega)) ?_
              | refine Ls_y (wtd0 rfl) rfl rfl (y_ixa rfl rfl rfl Ty.es_66 (by omega) (by omega)) ?_
            refine Ls_y (wtd0 rfl) rfl rfl (y_fld rfl rfl Ty.fo_75_0) ?_
            refine Ls_y (wtd0 rfl) rfl rfl (y_loadc rfl rfl Ty.pl_3 (fun _ e => e ▸ hcK _ hF)) ?_
            refine Ls_y (wtd0 rfl) rfl rfl (y_eq rfl rfl rfl) ?_
            refine Ls_bool 108 rfl (fun hkd => ?_) (fun hkd => ?_)
            all_goals try simp only [decide_eq_true_eq, decide_eq_false_iff_not, beq_iff_eq, bne_iff_ne, ne_eq, beq_eq_false_iff_ne, bne_eq_false_iff_eq, Bool.not_eq_true, Bool.not_eq_false] at hkd
            · refine Ls_nil (Th_n (hK73 _ _ ?_))
              refine Wp_cond_t rfl ?_
              refine Wp_seq fun K74 hK74 => ?_
              refine Wp_region ?_
              refine Ls_y (wtd0 rfl) rfl rfl (y_move rfl rfl) ?_
              refine Ls_a (wtd0 rfl) ?_
              refine a_call rfl rfl rfl rfl (dsync_m p D _ (hp.picks [4, 5, 6] (by decide)) hD) (fun v wd1 ⟨hv, hM⟩ => ?_)
              subst hv
              have hp : Hp wd1 [(_, Cl [_, _, _, _, _] _), _, _, _, (_, Cl [_, _, _, _, _] _), _, _] := hp.call [0, 1, 2, 3] [4, 5, 6] (by decide) rfl hM
              have hF := hF.step hM.fr (fun y hy => Or.inr (hdk y hy))
              refine Ls_nil (Th_n (hK74 _ _ ?_))
              refine Wp_exit (Th_e (Ib_hit (Th_n (hK68 _ _ ?_))))
              refine Wp_region ?_
              refine Ls_y (wtd0 rfl) rfl rfl (y_move rfl rfl) ?_
              first
                | refine Ls_y (wtd0 rfl) rfl rfl (y_add rfl rfl rfl (w_succ (by omega))) ?_
                | refine Ls_y (wtd0 rfl) rfl rfl (y_add rfl rfl rfl (wf_i64 (by omega))) ?_
                | refine Ls_y (wtd0 rfl) rfl rfl (y_add rfl rfl rfl rfl) ?_
              refine Ls_y (wtd0 rfl) rfl rfl (y_assign rfl rfl) ?_
              refine Ls_nil (Th_n (?_))
              exact ⟨ops2.length - (k + 1), [(0, _), (2, _), (4, _), (11, _), (14, _), (15, _), (16, _)], by omega, ⟨rfl, rfl, rfl, rfl, rfl, rfl, rfl, trivial⟩, k + 1, syncD D, es, clock, f, by omega, rfl, rfl, (hp.picks [0, 1, 2, 3, 4, 5, 6] (by decide)), syncD_ok hD, hI.sync, hMk, hF⟩
            · refine Ls_nil (Th_n (hK73 _ _ ?_))
              refine Wp_cond_f rfl ?_
              refine Wp_skip (Th_n (hK72 _ _ ?_))
              refine Wp_seq fun K75 hK75 => ?_
              refine Wp_plan (fun W => W.cell? ⟨ga, ba + k * 8 + 1, none⟩ = some (.int .i64 ii) ∧ W.cell? ⟨ga, ba + k * 8 + 2, none⟩ = some (sv s)) [(true, 0), (true, 1), (true, 2), (true, 3), (true, 4), (true, 5), (true, 6), (true, 7), (true, 8), (true, 9), (true, 10), (false, 11), (true, 12)] Ty.mx_0 (by kernel_rfl) (by kernel_rfl) rfl (⟨hcI _ (hF.step0 (Fr.drew _)), hcS _ (hF.step0 (Fr.drew _))⟩) ?_
              have hp := hp.drew
              have hF := hF.step0 (Fr.drew _)
              refine Pl_y rfl (wtd0 rfl) rfl rfl (y_move rfl rfl) ?_
              refine Pl_y rfl (wtd0 rfl) rfl rfl (y_move rfl rfl) ?_
              refine Pl_y rfl (wtd0 rfl) rfl rfl (y_move rfl rfl) ?_
              first
                | refine Pl_y rfl (wtd0 rfl) rfl rfl (y_ixaN rfl rfl rfl Ty.es_66 (by omega)) ?_
                | refine Pl_y rfl (wtd0 rfl) rfl rfl (y_ixa rfl rfl rfl Ty.es_66 (by omega) (by omega)) ?_
              refine Pl_y rfl (wtd0 rfl) rfl rfl (y_fld rfl rfl Ty.fo_75_1) ?_
              refine Pl_y rfl (wtd0 rfl) rfl rfl (y_loadc rfl rfl Ty.pl_3 (fun _ h => h.1)) ?_
              refine Pl_y rfl (wtd0 rfl) rfl rfl (y_move rfl rfl) ?_
              refine Pl_y rfl (wtd0 rfl) rfl rfl (y_move rfl rfl) ?_
              first
                | refine Pl_y rfl (wtd0 rfl) rfl rfl (y_ixaN rfl rfl rfl Ty.es_66 (by omega)) ?_
                | refine Pl_y rfl (wtd0 rfl) rfl rfl (y_ixa rfl rfl rfl Ty.es_66 (by omega) (by omega)) ?_
              refine Pl_y rfl (wtd0 rfl) rfl rfl (y_fld rfl rfl Ty.fo_75_2) ?_
              refine Pl_y rfl (wtd0 rfl) rfl rfl (y_loadc rfl rfl Ty.pl_9 (fun _ h => h.2)) ?_
              refine Pl_a rfl (wtd0 rfl) (by rfl) ?_
              refine a_call rfl rfl rfl rfl (dwrite_m p D _ (hp.picks [4, 5, 6] (by decide)) hD ii s) (fun v wd1 ⟨hv, hM⟩ => ?_)
              subst hv
              have hp : Hp wd1 [(_, Cl [_, _, _, _, _] _), _, _, _, (_, Cl [_, _, _, _, _] _), _, _] := hp.call [0, 1, 2, 3] [4, 5, 6] (by decide) rfl hM
              have hF := hF.step hM.fr (fun y hy => Or.inr (hdk y hy))
              refine ⟨⟨hcI _ hF, hcS _ hF⟩, ?_⟩
              refine Pl_y rfl (wtd0 rfl) rfl rfl (y_eq rfl rfl rfl) ?_
              refine Pl_bool 123 rfl (fun hwe => ?_) (fun hwe => ?_)
              all_goals try simp only [decide_eq_true_eq, decide_eq_false_iff_not, beq_iff_eq, bne_iff_ne, ne_eq, beq_eq_false_iff_ne, bne_eq_false_iff_eq, Bool.not_eq_true, Bool.not_eq_false] at hwe
              · refine Pl_nil (Th_n (hK75 _ _ ?_))
                refine Wp_cond_t rfl ?_
                refine Wp_region ?_
                refine Ls_y (wtd0 rfl) rfl rfl (y_move rfl rfl) ?_
                refine Ls_y (wtd0 rfl) rfl rfl (y_move rfl rfl) ?_
                refine Ls_y (wtd0 rfl) rfl rfl (y_move rfl rfl) ?_
                first
                  | refine Ls_y (wtd0 rfl) rfl rfl (y_ixaN rfl rfl rfl Ty.es_66 (by omega)) ?_
                  | refine Ls_y (wtd0 rfl) rfl rfl (y_ixa rfl rfl rfl Ty.es_66 (by omega) (by omega)) ?_
                refine Ls_y (wtd0 rfl) rfl rfl (y_fld rfl rfl Ty.fo_75_1) ?_
                refine Ls_y (wtd0 rfl) rfl rfl (y_loadc rfl rfl Ty.pl_3 (fun _ e => e ▸ hcI _ hF)) ?_
                refine Ls_a (wtd0 rfl) ?_
                refine a_mapup (i := 3) rfl rfl rfl rfl rfl Try.underlying87 Try.underlying3 rfl hp rfl hMk (fun es' clock' w7 hM' (hp : Hp w7 [(_, Cl [_, _, _, _, _] _), _, _, _, (_, Cl [_, _, _, _, _] _), _, _]) hf => ?_)
                have hF := hF.step hf (fun y hy => Or.inr (by simp at hy; subst hy; exact hgm))
                refine Ls_nil (Ib_n (Th_n (hK68 _ _ ?_)))
                refine Wp_region ?_
                refine Ls_y (wtd0 rfl) rfl rfl (y_move rfl rfl) ?_
                first
                  | refine Ls_y (wtd0 rfl) rfl rfl (y_add rfl rfl rfl (w_succ (by omega))) ?_
                  | refine Ls_y (wtd0 rfl) rfl rfl (y_add rfl rfl rfl (wf_i64 (by omega))) ?_
                  | refine Ls_y (wtd0 rfl) rfl rfl (y_add rfl rfl rfl rfl) ?_
                refine Ls_y (wtd0 rfl) rfl rfl (y_assign rfl rfl) ?_
                refine Ls_nil (Th_n (?_))
                exact ⟨ops2.length - (k + 1), [(0, _), (2, _), (4, _), (11, _), (14, _), (15, _), (16, _)], by omega, ⟨rfl, rfl, rfl, rfl, rfl, rfl, rfl, trivial⟩, k + 1, writeD D ii s, es', clock', _, by omega, rfl, rfl, (hp.picks [0, 1, 2, 3, 4, 5, 6] (by decide)), writeD_ok hD _ _, hI.write_ok (by simpa using hwe), hM', hF⟩
              · refine Pl_nil (Th_n (hK75 _ _ ?_))
                refine Wp_cond_f rfl ?_
                refine Wp_skip (Ib_n (Th_n (hK68 _ _ ?_)))
                refine Wp_region ?_
                refine Ls_y (wtd0 rfl) rfl rfl (y_move rfl rfl) ?_
                first
                  | refine Ls_y (wtd0 rfl) rfl rfl (y_add rfl rfl rfl (w_succ (by omega))) ?_
                  | refine Ls_y (wtd0 rfl) rfl rfl (y_add rfl rfl rfl (wf_i64 (by omega))) ?_
                  | refine Ls_y (wtd0 rfl) rfl rfl (y_add rfl rfl rfl rfl) ?_
                refine Ls_y (wtd0 rfl) rfl rfl (y_assign rfl rfl) ?_
                refine Ls_nil (Th_n (?_))
                exact ⟨ops2.length - (k + 1), [(0, _), (2, _), (4, _), (11, _), (14, _), (15, _), (16, _)], by omega, ⟨rfl, rfl, rfl, rfl, rfl, rfl, rfl, trivial⟩, k + 1, writeD D ii s, es, clock, f, by omega, rfl, rfl, (hp.picks [0, 1, 2, 3, 4, 5, 6] (by decide)), writeD_ok hD _ _, hI.write_bad (by simpa using hwe), hMk, hF⟩
        · refine Ls_y (wtd0 rfl) rfl rfl (y_pick_t rfl rfl rfl) ?_
          refine Ls_nil (Th_n (hK67 _ _ ?_))
          refine Wp_cond_f rfl ?_
          refine Wp_exit (Th_e (Th_e (Ib_hit (Th_n (hK63 _ _ ?_)))))
          refine Wp_seq fun K76 hK76 => ?_
          refine Wp_region ?_
          refine Ls_y (wtd0 rfl) rfl rfl (y_move rfl rfl) ?_
          refine Ls_a (wtd0 rfl) ?_
          refine a_bsl0 rfl rfl rfl Ty.es_73 Ty.zc_3 hp (fun g1 w3 (hp : Hp w3 [(_, Cl [_, _, _, _, _] _), _, _, _, (_, Cl [_, _, _, _, _] _), _, _, _]) hf hg1 => ?_)
          have hg1 := Nat.le_trans hF.size hg1
          have hF := hF.step0 hf
          refine Ls_y (wtd0 rfl) rfl rfl (y_move rfl rfl) ?_
          refine Ls_a (wtd0 rfl) ?_
          refine a_append (i := 7) (A := some ⟨g1, 0, none⟩) (xs := []) (sp := []) (news := ks.map intV) rfl rfl rfl rfl rfl rfl Ty.es_73 Ty.zc_3 rfl Ty.by_3 (by decide) ⟨rfl, .inr ⟨g1, rfl, rfl, Nat.le_refl _, by unfold maxLen; omega⟩⟩ hp rfl (by simp) ((hK.keep hF (Nat.le_refl _) (by simp)).src) (fun e => by have := hK.none e; simpa using this) (by simp [Value.oneCell']) (by unfold maxLen; omega) (by omega) (fun A' c' sp' w4 how' (hp : Hp w4 [(_, Cl [_, _, _, _, _] _), _, _, _, (_, Cl [_, _, _, _, _] _), _, _, _]) hf hnw => ?_)
          have hzz := hF.size
          have hF := hF.step hf (by intro y hy; simp [blkOf] at hy; subst hy; exact Or.inr hg1)
          rw [Nat.zero_add] at how' ⊢
          have hkA : ∀ g, blkOf A' = some g → w.heap.size ≤ g := fun g hg => by
            rcases hnw g hg with h | h
            · simp [blkOf] at h; subst h; exact hg1
            · exact Nat.le_trans hzz h
          refine Ls_a (wtd0 rfl) ?_
          refine a_call rfl rfl rfl rfl (dmend_ok p D _ A' c' ks sp' how' (hp.picks [4, 5, 6, 7] (by decide)) hD) (fun v wd1 ⟨hv, hM⟩ => ?_)
          subst hv
          have hp : Hp wd1 [(_, Cl [_, _, _, _, _] _), _, _, _, (_, Cl [_, _, _, _, _] _), _, _, _] := hp.call [0, 1, 2, 3] [4, 5, 6, 7] (by decide) rfl hM
          have hF := hF.step hM.fr (fr_dkA hdk hkA)
          refine Ls_nil (Th_n (hK76 _ _ ?_))
          refine Wp_seq fun K77 hK77 => ?_
          refine Wp_seq fun K78 hK78 => ?_
          refine Wp_region ?_
          refine Ls_y (wtd0 rfl) rfl rfl (y_assign rfl rfl) ?_
          refine Ls_nil (Th_n (hK78 _ _ ?_))
          refine Wp_block ?_
          refine Wp_loopE (fun m e W => ∃ (k : Nat), k ≤ nk ∧ m = nk - k ∧ e = [(0, .int .i64 ((nk : Nat) : Int)), (11, .pointer (some ⟨p.gd, 0, none⟩)), (14, .pointer (some ⟨p3.gd, 0, none⟩)), (15, .map (some gm)), (17, .int .i64 (k : Int))] ∧ Hp W (dkH p3 C ++ [(some gm, .map es clock)] ++ dkH p (mendD D ks)) ∧ Fr [] w W) (nk) [(0, _), (11, _), (14, _), (15, _), (17, _)] ⟨rfl, rfl, rfl, rfl, rfl, trivial⟩ ?_ ?_
          · exact ⟨0, by omega, by omega, rfl, (hp.picks [0, 1, 2, 3, 4, 5, 6] (by decide)), hF⟩
          rintro m e W ⟨k, hk, rfl, rfl, hp, hF⟩
          have hp : Hp W [(_, Cl [_, _, _, _, _] _), _, _, _, (_, Cl [_, _, _, _, _] _), _, _] := hp
          refine Wp_seq fun K80 hK80 => ?_
          refine Wp_seq fun K81 hK81 => ?_
          refine Wp_region ?_
          refine Ls_y (wtd0 rfl) rfl rfl (y_move rfl rfl) ?_
          refine Ls_y (wtd0 rfl) rfl rfl (y_move rfl rfl) ?_
          refine Ls_y (wtd0 rfl) rfl rfl (y_lt rfl rfl rfl) ?_
          refine Ls_bool 137 rfl (fun hlt => ?_) (fun hlt => ?_)
          all_goals try simp only [decide_eq_true_eq, decide_eq_false_iff_not, beq_iff_eq, bne_iff_ne, ne_eq, beq_eq_false_iff_ne, bne_eq_false_iff_eq, Bool.not_eq_true, Bool.not_eq_false] at hlt
          · refine Ls_nil (Th_n (hK81 _ _ ?_))
            have hkn : k < nk := by omega
            have hM0 := mendD_ok hD ks
            have hr1 := read_in (D := mendD D ks) (j := k) rfl (by rw [mend_len hD ks, hI.len, hCn]; exact hkn)
            have hr2 := read_in (D := C) (j := k) hCd (by rw [hCn]; exact hkn)
            refine Wp_cond_t rfl ?_
            refine Wp_skip (Th_n (hK80 _ _ ?_))
            refine Wp_seq fun K82 hK82 => ?_
            refine Wp_block ?_
            refine Wp_seq fun K83 hK83 => ?_
            refine Wp_region ?_
            refine Ls_y (wtd0 rfl) rfl rfl (y_move rfl rfl) ?_
            refine Ls_y (wtd0 rfl) rfl rfl (y_move rfl rfl) ?_
            refine Ls_a (wtd0 rfl) ?_
            refine a_call rfl rfl rfl rfl (dread_ok p (mendD D ks) _ (hp.picks [4, 5, 6] (by decide)) hM0 _) (fun v w4 ⟨hv, hw⟩ => ?_)
            rw [hr1.1] at hv
            subst hv
            subst hw
            refine Ls_y (wtd0 rfl) rfl rfl (y_move rfl rfl) ?_
            refine Ls_y (wtd0 rfl) rfl rfl (y_ext rfl rfl rfl) ?_
            refine Ls_y (wtd0 rfl) rfl rfl (y_ext rfl rfl rfl) ?_
            refine Ls_y (wtd0 rfl) rfl rfl (y_assign rfl rfl) ?_
            refine Ls_y (wtd0 rfl) rfl rfl (y_assign rfl rfl) ?_
            refine Ls_nil (Th_n (hK83 _ _ ?_))
            refine Wp_seq fun K84 hK84 => ?_
            refine Wp_region ?_
            refine Ls_y (wtd0 rfl) rfl rfl (y_move rfl rfl) ?_
            refine Ls_y (wtd0 rfl) rfl rfl (y_move rfl rfl) ?_
            refine Ls_a (wtd0 rfl) ?_
            refine a_call rfl rfl rfl rfl (dread_ok p3 C _ (hp.picks [0, 1, 2] (by decide)) hC _) (fun v w4 ⟨hv, hw⟩ => ?_)
            rw [hr2.1] at hv
            subst hv
            subst hw
            refine Ls_y (wtd0 rfl) rfl rfl (y_move rfl rfl) ?_
            refine Ls_y (wtd0 rfl) rfl rfl (y_ext rfl rfl rfl) ?_
            refine Ls_y (wtd0 rfl) rfl rfl (y_ext rfl rfl rfl) ?_
            refine Ls_y (wtd0 rfl) rfl rfl (y_assign rfl rfl) ?_
            refine Ls_y (wtd0 rfl) rfl rfl (y_assign rfl rfl) ?_
            refine Ls_nil (Th_n (hK84 _ _ ?_))
            refine Wp_seq fun K85 hK85 => ?_
            refine Wp_region ?_
            refine Ls_y (wtd0 rfl) rfl rfl (y_move rfl rfl) ?_
            refine Ls_y (wtd0 rfl) rfl rfl (y_neF rfl rfl rfl (by omega)) ?_
            refine Ls_y (wtd0 rfl) rfl rfl (y_move rfl rfl) ?_
            refine Ls_y (wtdT rfl rfl rfl) rfl rfl (y_move rfl rfl) ?_
            refine Ls_y (wtdT rfl rfl rfl) rfl rfl (y_neF rfl rfl rfl (by omega)) ?_
            refine Ls_y (wtd0 rfl) rfl rfl (y_pick_f rfl rfl rfl) ?_
            refine Ls_y (wtd0 rfl) rfl rfl (y_move rfl rfl) ?_
            refine Ls_y (wtdT rfl rfl rfl) rfl rfl (y_move rfl rfl) ?_
            refine Ls_y (wtdT rfl rfl rfl) rfl rfl (y_move rfl rfl) ?_
            refine Ls_y (wtdT rfl rfl rfl) rfl rfl (y_nes rfl rfl rfl) ?_
            refine Ls_bool 161 rfl (fun hxy => ?_) (fun hxy => ?_)
            all_goals try simp only [decide_eq_true_eq, decide_eq_false_iff_not, beq_iff_eq, bne_iff_ne, ne_eq, beq_eq_false_iff_ne, bne_eq_false_iff_eq, Bool.not_eq_true, Bool.not_eq_false] at hxy
            · have hf : (f (natV k)).getD (.bool false) = .bool true := by
                cases hf : f (natV k) with
                | none => exfalso; apply hxy; rw [hr1.2, hr2.2, hI.mend hD ks hf]
                | some v => rw [hI.tr _ _ hf]; rfl
              refine Ls_y (wtdT rfl rfl rfl) rfl rfl (y_move rfl rfl) ?_
              refine Ls_y (wtdT rfl rfl rfl) rfl rfl (y_move rfl rfl) ?_
              refine Ls_y (wtdT rfl rfl rfl) rfl rfl (y_move rfl rfl) ?_
              refine Ls_y (wtdT rfl rfl rfl) rfl rfl (y_lookupV (i := 3) rfl rfl rfl Try.underlying87 Try.underlying3 zv_bool rfl (fun _ e => e ▸ hp) rfl hMk hf) ?_
              refine Ls_y (wtdT rfl rfl rfl) rfl rfl (y_not rfl rfl) ?_
              refine Ls_y (wtdT rfl rfl rfl) rfl rfl (y_pick_t rfl rfl rfl) ?_
              refine Ls_y (wtd0 rfl) rfl rfl (y_pick_f rfl rfl rfl) ?_
              refine Ls_nil (Th_n (hK85 _ _ ?_))
              refine Wp_cond_f rfl ?_
              refine Wp_skip (Ib_n (Th_n (hK82 _ _ ?_)))
              refine Wp_region ?_
              refine Ls_y (wtd0 rfl) rfl rfl (y_move rfl rfl) ?_
              first
                | refine Ls_y (wtd0 rfl) rfl rfl (y_add rfl rfl rfl (w_succ (by omega))) ?_
                | refine Ls_y (wtd0 rfl) rfl rfl (y_add rfl rfl rfl (wf_i64 (by omega))) ?_
                | refine Ls_y (wtd0 rfl) rfl rfl (y_add rfl rfl rfl rfl) ?_
              refine Ls_y (wtd0 rfl) rfl rfl (y_assign rfl rfl) ?_
              refine Ls_nil (Th_n (?_))
              exact ⟨nk - (k + 1), [(0, _), (11, _), (14, _), (15, _), (17, _)], by omega, ⟨rfl, rfl, rfl, rfl, rfl, trivial⟩, k + 1, by omega, rfl, rfl, hp, hF⟩
            · refine Ls_y (wtdT rfl rfl rfl) rfl rfl (y_move rfl rfl) ?_
              refine Ls_s (wtdF rfl rfl rfl) rfl rfl ?_
              refine Ls_s (wtdF rfl rfl rfl) rfl rfl ?_
              refine Ls_s (wtdF rfl rfl rfl) rfl rfl ?_
              refine Ls_s (wtdF rfl rfl rfl) rfl rfl ?_
              refine Ls_y (wtdT rfl rfl rfl) rfl rfl (y_pick_f rfl rfl rfl) ?_
              refine Ls_y (wtd0 rfl) rfl rfl (y_pick_f rfl rfl rfl) ?_
              refine Ls_nil (Th_n (hK85 _ _ ?_))
              refine Wp_cond_f rfl ?_
              refine Wp_skip (Ib_n (Th_n (hK82 _ _ ?_)))
              refine Wp_region ?_
              refine Ls_y (wtd0 rfl) rfl rfl (y_move rfl rfl) ?_
              first
                | refine Ls_y (wtd0 rfl) rfl rfl (y_add rfl rfl rfl (w_succ (by omega))) ?_
                | refine Ls_y (wtd0 rfl) rfl rfl (y_add rfl rfl rfl (wf_i64 (by omega))) ?_
                | refine Ls_y (wtd0 rfl) rfl rfl (y_add rfl rfl rfl rfl) ?_
              refine Ls_y (wtd0 rfl) rfl rfl (y_assign rfl rfl) ?_
              refine Ls_nil (Th_n (?_))
              exact ⟨nk - (k + 1), [(0, _), (11, _), (14, _), (15, _), (17, _)], by omega, ⟨rfl, rfl, rfl, rfl, rfl, trivial⟩, k + 1, by omega, rfl, rfl, hp, hF⟩
          · refine Ls_nil (Th_n (hK81 _ _ ?_))
            refine Wp_cond_f rfl ?_
            refine Wp_exit (Th_e (Th_e (Ib_hit (Th_n (hK77 _ _ ?_)))))
            refine Wp_seq fun K86 hK86 => ?_
            refine Wp_region ?_
            refine Ls_y (wtd0 rfl) rfl rfl (y_move rfl rfl) ?_
            refine Ls_a (wtd0 rfl) ?_
            refine a_call rfl rfl rfl rfl (ddirty_ok p (mendD D ks) _ (hp.picks [4, 5, 6] (by decide)) (mendD_ok hD ks)) (fun v w5 ⟨A2, c2, sp2, hv, how2, hN2⟩ => ?_)
            rw [dirty_nil (D := mendD D ks) rfl] at hv
            subst hv
            have hp := hp.keep0 hN2.fr
            have hF := hF.step0 hN2.fr
            refine Ls_y (wtd0 rfl) rfl rfl (y_lenl rfl rfl Try.underlying73) ?_
            refine Ls_y (wtd0 rfl) rfl rfl (y_eq rfl rfl rfl) ?_
            refine Ls_bool 172 rfl (fun _ => ?_) (fun hc25 => absurd hc25 (by simp))
            refine Ls_y (wtd0 rfl) rfl rfl (y_move rfl rfl) ?_
            refine Ls_y (wtdT rfl rfl rfl) rfl rfl (y_move rfl rfl) ?_
            refine Ls_a (wtdT rfl rfl rfl) ?_
            refine a_call rfl rfl rfl rfl (ddown_ok p (mendD D ks) _ (hp.picks [4, 5, 6] (by decide))) (fun v w6 ⟨hv, hw⟩ => ?_)
            subst hv
            subst hw
            refine Ls_y (wtdT rfl rfl rfl) rfl rfl (y_not rfl rfl) ?_
            refine Ls_y (wtd0 rfl) rfl rfl (y_pick_t rfl rfl rfl) ?_
            refine Ls_y (wtd0 rfl) rfl rfl (y_assign rfl rfl) ?_
            refine Ls_nil (Th_n (hK86 _ _ ?_))
            refine Wp_ret (Fq_ret (Res1 rfl rfl) ?_)
            exact ⟨rfl, hF⟩
      · refine Ls_y (wtd0 rfl) rfl rfl (y_move rfl rfl) ?_
        refine Ls_s (wtdF rfl rfl rfl) rfl rfl ?_
        refine Ls_s (wtdF rfl rfl rfl) rfl rfl ?_
        refine Ls_y (wtd0 rfl) rfl rfl (y_pick_f rfl rfl rfl) ?_
        refine Ls_nil (Th_n (hK67 _ _ ?_))
        refine Wp_cond_f rfl ?_
        refine Wp_exit (Th_e (Th_e (Ib_hit (Th_n (hK63 _ _ ?_)))))
        refine Wp_seq fun K87 hK87 => ?_
        refine Wp_region ?_
        refine Ls_y (wtd0 rfl) rfl rfl (y_move rfl rfl) ?_
        refine Ls_a (wtd0 rfl) ?_
        refine a_bsl0 rfl rfl rfl Ty.es_73 Ty.zc_3 hp (fun g1 w3 (hp : Hp w3 [(_, Cl [_, _, _, _, _] _), _, _, _, (_, Cl [_, _, _, _, _] _), _, _, _]) hf hg1 => ?_)
        have hg1 := Nat.le_trans hF.size hg1
        have hF := hF.step0 hf
        refine Ls_y (wtd0 rfl) rfl rfl (y_move rfl rfl) ?_
        refine Ls_a (wtd0 rfl) ?_
        refine a_append (i := 7) (A := some ⟨g1, 0, none⟩) (xs := []) (sp := []) (news := ks.map intV) rfl rfl rfl rfl rfl rfl Ty.es_73 Ty.zc_3 rfl Ty.by_3 (by decide) ⟨rfl, .inr ⟨g1, rfl, rfl, Nat.le_refl _, by unfold maxLen; omega⟩⟩ hp rfl (by simp) ((hK.keep hF (Nat.le_refl _) (by simp)).src) (fun e => by have := hK.none e; simpa using this) (by simp [Value.oneCell']) (by unfold maxLen; omega) (by omega) (fun A' c' sp' w4 how' (hp : Hp w4 [(_, Cl [_, _, _, _, _] _), _, _, _, (_, Cl [_, _, _, _, _] _), _, _, _]) hf hnw => ?_)
        have hzz := hF.size
        have hF := hF.step hf (by intro y hy; simp [blkOf] at hy; subst hy; exact Or.inr hg1)
        rw [Nat.zero_add] at how' ⊢
        have hkA : ∀ g, blkOf A' = some g → w.heap.size ≤ g := fun g hg => by
          rcases hnw g hg with h | h
          · simp [blkOf] at h; subst h; exact hg1
          · exact Nat.le_trans hzz h
        refine Ls_a (wtd0 rfl) ?_
        refine a_call rfl rfl rfl rfl (dmend_ok p D _ A' c' ks sp' how' (hp.picks [4, 5, 6, 7] (by decide)) hD) (fun v wd1 ⟨hv, hM⟩ => ?_)
        subst hv
        have hp : Hp wd1 [(_, Cl [_, _, _, _, _] _), _, _, _, (_, Cl [_, _, _, _, _] _), _, _, _] := hp.call [0, 1, 2, 3] [4, 5, 6, 7] (by decide) rfl hM
        have hF := hF.step hM.fr (fr_dkA hdk hkA)
        refine Ls_nil (Th_n (hK87 _ _ ?_))
        refine Wp_seq fun K88 hK88 => ?_
        refine Wp_seq fun K89 hK89 => ?_
        refine Wp_region ?_
        refine Ls_y (wtd0 rfl) rfl rfl (y_assign rfl rfl) ?_
        refine Ls_nil (Th_n (hK89 _ _ ?_))
        refine Wp_block ?_
        refine Wp_loopE (fun m e W => ∃ (k : Nat), k ≤ nk ∧ m = nk - k ∧ e = [(0, .int .i64 ((nk : Nat) : Int)), (11, .pointer (some ⟨p.gd, 0, none⟩)), (14, .pointer (some ⟨p3.gd, 0, none⟩)), (15, .map (some gm)), (17, .int .i64 (k : Int))] ∧ Hp W (dkH p3 C ++ [(some gm, .map es clock)] ++ dkH p (mendD D ks)) ∧ Fr [] w W) (nk) [(0, _), (11, _), (14, _), (15, _), (17, _)] ⟨rfl, rfl, rfl, rfl, rfl, trivial⟩ ?_ ?_
        · exact ⟨0, by omega, by omega, rfl, (hp.picks [0, 1, 2, 3, 4, 5, 6] (by decide)), hF⟩
        rintro m e W ⟨k, hk, rfl, rfl, hp, hF⟩
        have hp : Hp W [(_, Cl [_, _, _, _, _] _), _, _, _, (_, Cl [_, _, _, _, _] _), _, _] := hp
        refine Wp_seq fun K91 hK91 => ?_
        refine Wp_seq fun K92 hK92 => ?_
        refine Wp_region ?_
        refine Ls_y (wtd0 rfl) rfl rfl (y_move rfl rfl) ?_
        refine Ls_y (wtd0 rfl) rfl rfl (y_move rfl rfl) ?_
        refine Ls_y (wtd0 rfl) rfl rfl (y_lt rfl rfl rfl) ?_
        refine Ls_bool 137 rfl (fun hlt => ?_) (fun hlt => ?_)
        all_goals try simp only [decide_eq_true_eq, decide_eq_false_iff_not, beq_iff_eq, bne_iff_ne, ne_eq, beq_eq_false_iff_ne, bne_eq_false_iff_eq, Bool.not_eq_true, Bool.not_eq_false] at hlt
        · refine Ls_nil (Th_n (hK92 _ _ ?_))
          have hkn : k < nk := by omega
          have hM0 := mendD_ok hD ks
          have hr1 := read_in (D := mendD D ks) (j := k) rfl (by rw [mend_len hD ks, hI.len, hCn]; exact hkn)
          have hr2 := read_in (D := C) (j := k) hCd (by rw [hCn]; exact hkn)
          refine Wp_cond_t rfl ?_
          refine Wp_skip (Th_n (hK91 _ _ ?_))
          refine Wp_seq fun K93 hK93 => ?_
          refine Wp_block ?_
          refine Wp_seq fun K94 hK94 => ?_
          refine Wp_region ?_
          refine Ls_y (wtd0 rfl) rfl rfl (y_move rfl rfl) ?_
          refine Ls_y (wtd0 rfl) rfl rfl (y_move rfl rfl) ?_
          refine Ls_a (wtd0 rfl) ?_
          refine a_call rfl rfl rfl rfl (dread_ok p (mendD D ks) _ (hp.picks [4, 5, 6] (by decide)) hM0 _) (fun v w4 ⟨hv, hw⟩ => ?_)
          rw [hr1.1] at hv
          subst hv
          subst hw
          refine Ls_y (wtd0 rfl) rfl rfl (y_move rfl rfl) ?_
          refine Ls_y (wtd0 rfl) rfl rfl (y_ext rfl rfl rfl) ?_
          refine Ls_y (wtd0 rfl) rfl rfl (y_ext rfl rfl rfl) ?_
          refine Ls_y (wtd0 rfl) rfl rfl (y_assign rfl rfl) ?_
          refine Ls_y (wtd0 rfl) rfl rfl (y_assign rfl rfl) ?_
          refine Ls_nil (Th_n (hK94 _ _ ?_))
          refine Wp_seq fun K95 hK95 => ?_
          refine Wp_region ?_
          refine Ls_y (wtd0 rfl) rfl rfl (y_move rfl rfl) ?_
          refine Ls_y (wtd0 rfl) rfl rfl (y_move rfl rfl) ?_
          refine Ls_a (wtd0 rfl) ?_
          refine a_call rfl rfl rfl rfl (dread_ok p3 C _ (hp.picks [0, 1, 2] (by decide)) hC _) (fun v w4 ⟨hv, hw⟩ => ?_)
          rw [hr2.1] at hv
          subst hv
          subst hw
          refine Ls_y (wtd0 rfl) rfl rfl (y_move rfl rfl) ?_
          refine Ls_y (wtd0 rfl) rfl rfl (y_ext rfl rfl rfl) ?_
          refine Ls_y (wtd0 rfl) rfl rfl (y_ext rfl rfl rfl) ?_
          refine Ls_y (wtd0 rfl) rfl rfl (y_assign rfl rfl) ?_
          refine Ls_y (wtd0 rfl) rfl rfl (y_assign rfl rfl) ?_
          refine Ls_nil (Th_n (hK95 _ _ ?_))
          refine Wp_seq fun K96 hK96 => ?_
          refine Wp_region ?_
          refine Ls_y (wtd0 rfl) rfl rfl (y_move rfl rfl) ?_
          refine Ls_y (wtd0 rfl) rfl rfl (y_neF rfl rfl rfl (by omega)) ?_
          refine Ls_y (wtd0 rfl) rfl rfl (y_move rfl rfl) ?_
          refine Ls_y (wtdT rfl rfl rfl) rfl rfl (y_move rfl rfl) ?_
          refine Ls_y (wtdT rfl rfl rfl) rfl rfl (y_neF rfl rfl rfl (by omega)) ?_
          refine Ls_y (wtd0 rfl) rfl rfl (y_pick_f rfl rfl rfl) ?_
          refine Ls_y (wtd0 rfl) rfl rfl (y_move rfl rfl) ?_
          refine Ls_y (wtdT rfl rfl rfl) rfl rfl (y_move rfl rfl) ?_
          refine Ls_y (wtdT rfl rfl rfl) rfl rfl (y_move rfl rfl) ?_
          refine Ls_y (wtdT rfl rfl rfl) rfl rfl (y_nes rfl rfl rfl) ?_
          refine Ls_bool 161 rfl (fun hxy => ?_) (fun hxy => ?_)
          all_goals try simp only [decide_eq_true_eq, decide_eq_false_iff_not, beq_iff_eq, bne_iff_ne, ne_eq, beq_eq_false_iff_ne, bne_eq_false_iff_eq, Bool.not_eq_true, Bool.not_eq_false] at hxy
          · have hf : (f (natV k)).getD (.bool false) = .bool true := by
              cases hf : f (natV k) with
              | none => exfalso; apply hxy; rw [hr1.2, hr2.2, hI.mend hD ks hf]
              | some v => rw [hI.tr _ _ hf]; rfl
            refine Ls_y (wtdT rfl rfl rfl) rfl rfl (y_move rfl rfl) ?_
            refine Ls_y (wtdT rfl rfl rfl) rfl rfl (y_move rfl rfl) ?_
            refine Ls_y (wtdT rfl rfl rfl) rfl rfl (y_move rfl rfl) ?_
            refine Ls_y (wtdT rfl rfl rfl) rfl rfl (y_lookupV (i := 3) rfl rfl rfl Try.underlying87 Try.underlying3 zv_bool rfl (fun _ e => e ▸ hp) rfl hMk hf) ?_
            refine Ls_y (wtdT rfl rfl rfl) rfl rfl (y_not rfl rfl) ?_
            refine Ls_y (wtdT rfl rfl rfl) rfl rfl (y_pick_t rfl rfl rfl) ?_
            refine Ls_y (wtd0 rfl) rfl rfl (y_pick_f rfl rfl rfl) ?_
            refine Ls_nil (Th_n (hK96 _ _ ?_))
            refine Wp_cond_f rfl ?_
            refine Wp_skip (Ib_n (Th_n (hK93 _ _ ?_)))
            refine Wp_region ?_
            refine Ls_y (wtd0 rfl) rfl rfl (y_move rfl rfl) ?_
            first
              | refine Ls_y (wtd0 rfl) rfl rfl (y_add rfl rfl rfl (w_succ (by omega))) ?_
              | refine Ls_y (wtd0 rfl) rfl rfl (y_add rfl rfl rfl (wf_i64 (by omega))) ?_
              | refine Ls_y (wtd0 rfl) rfl rfl (y_add rfl rfl rfl rfl) ?_
            refine Ls_y (wtd0 rfl) rfl rfl (y_assign rfl rfl) ?_
            refine Ls_nil (Th_n (?_))
            exact ⟨nk - (k + 1), [(0, _), (11, _), (14, _), (15, _), (17, _)], by omega, ⟨rfl, rfl, rfl, rfl, rfl, trivial⟩, k + 1, by omega, rfl, rfl, hp, hF⟩
          · refine Ls_y (wtdT rfl rfl rfl) rfl rfl (y_move rfl rfl) ?_
            refine Ls_s (wtdF rfl rfl rfl) rfl rfl ?_
            refine Ls_s (wtdF rfl rfl rfl) rfl rfl ?_
            refine Ls_s (wtdF rfl rfl rfl) rfl rfl ?_
            refine Ls_s (wtdF rfl rfl rfl) rfl rfl ?_
            refine Ls_y (wtdT rfl rfl rfl) rfl rfl (y_pick_f rfl rfl rfl) ?_
            refine Ls_y (wtd0 rfl) rfl rfl (y_pick_f rfl rfl rfl) ?_
            refine Ls_nil (Th_n (hK96 _ _ ?_))
            refine Wp_cond_f rfl ?_
            refine Wp_skip (Ib_n (Th_n (hK93 _ _ ?_)))
            refine Wp_region ?_
            refine Ls_y (wtd0 rfl) rfl rfl (y_move rfl rfl) ?_
            first
              | refine Ls_y (wtd0 rfl) rfl rfl (y_add rfl rfl rfl (w_succ (by omega))) ?_
              | refine Ls_y (wtd0 rfl) rfl rfl (y_add rfl rfl rfl (wf_i64 (by omega))) ?_
              | refine Ls_y (wtd0 rfl) rfl rfl (y_add rfl rfl rfl rfl) ?_
            refine Ls_y (wtd0 rfl) rfl rfl (y_assign rfl rfl) ?_
            refine Ls_nil (Th_n (?_))
            exact ⟨nk - (k + 1), [(0, _), (11, _), (14, _), (15, _), (17, _)], by omega, ⟨rfl, rfl, rfl, rfl, rfl, trivial⟩, k + 1, by omega, rfl, rfl, hp, hF⟩
        · refine Ls_nil (Th_n (hK92 _ _ ?_))
          refine Wp_cond_f rfl ?_
          refine Wp_exit (Th_e (Th_e (Ib_hit (Th_n (hK88 _ _ ?_)))))
          refine Wp_seq fun K97 hK97 => ?_
          refine Wp_region ?_
          refine Ls_y (wtd0 rfl) rfl rfl (y_move rfl rfl) ?_
          refine Ls_a (wtd0 rfl) ?_
          refine a_call rfl rfl rfl rfl (ddirty_ok p (mendD D ks) _ (hp.picks [4, 5, 6] (by decide)) (mendD_ok hD ks)) (fun v w5 ⟨A2, c2, sp2, hv, how2, hN2⟩ => ?_)
          rw [dirty_nil (D := mendD D ks) rfl] at hv
          subst hv
          have hp := hp.keep0 hN2.fr
          have hF := hF.step0 hN2.fr
          refine Ls_y (wtd0 rfl) rfl rfl (y_lenl rfl rfl Try.underlying73) ?_
          refine Ls_y (wtd0 rfl) rfl rfl (y_eq rfl rfl rfl) ?_
          refine Ls_bool 172 rfl (fun _ => ?_) (fun hc28 => absurd hc28 (by simp))
          refine Ls_y (wtd0 rfl) rfl rfl (y_move rfl rfl) ?_
          refine Ls_y (wtdT rfl rfl rfl) rfl rfl (y_move rfl rfl) ?_
          refine Ls_a (wtdT rfl rfl rfl) ?_
          refine a_call rfl rfl rfl rfl (ddown_ok p (mendD D ks) _ (hp.picks [4, 5, 6] (by decide))) (fun v w6 ⟨hv, hw⟩ => ?_)
          subst hv
          subst hw
          refine Ls_y (wtdT rfl rfl rfl) rfl rfl (y_not rfl rfl) ?_
          refine Ls_y (wtd0 rfl) rfl rfl (y_pick_t rfl rfl rfl) ?_
          refine Ls_y (wtd0 rfl) rfl rfl (y_assign rfl rfl) ?_
          refine Ls_nil (Th_n (hK97 _ _ ?_))
          refine Wp_ret (Fq_ret (Res1 rfl rfl) ?_)
          exact ⟨rfl, hF⟩

end Go.Proofs.Ytikdpkhcegjmfaa

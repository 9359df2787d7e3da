/- Walks printed by gen.py out of our own specifications: what the functions named below do. -/
import Derived.Test.YtcpfhnfpokijaaaJ11
import Derived.Test.YtcpfhnfpokijaaaSt
set_option linter.unusedSimpArgs false
set_option linter.unusedVariables false
namespace Go.Proofs.Ytcpfhnfpokijaaa
open Go.RowKit


theorem y_remC [Dfs] {P : Program} {n : Nat} {env : Env} {S : World → Prop} {o : Oper} {x y : Operand} {t u : Nat} {k : IntKind} {p q c : Int} (ho : o.op = .binOp .rem t x y u) (hx : env.ev x = some (.int k p)) (hy : env.ev y = some (.int k q)) (hp : 0 ≤ p) (h0 : 0 < q) (hw : p % q = c) : Yld P n env S o (.int k c) := hw ▸ y_remP ho hx hy hp h0
theorem str_cell {w : World} {A : Option Addr} {ls : List (List UInt8)} (h : Rdx [] w A (ls.map sv)) {k : Nat} {s : List UInt8} (hk : ls[k]? = some s) : ∃ g b, A = some ⟨g, b, none⟩ ∧ ∀ W, Fr [] w W → W.cell? ⟨g, b + k * 1, none⟩ = some (sv s) := by
  have hk2 : (ls.map sv)[k]? = some (sv s) := by rw [List.getElem?_map, hk]; rfl
  obtain ⟨g, b, rfl, _, _⟩ := h k _ hk2
  refine ⟨g, b, rfl, fun W hF => ?_⟩
  obtain ⟨g', b', e, _, hc⟩ := (h.stable (Y := []) hF (by simp)) k _ hk2
  cases e
  rw [Nat.mul_one]
  exact hc
theorem cellsA_snoc (all : List (List UInt8)) (s : List UInt8) : (cellsA (all ++ [s])).length = (cellsA all).length + cellsN s := by simp [cellsA, recC_len]

set_option maxRecDepth 20000 in
set_option maxHeartbeats 8000000 in
theorem journalRoom_ok (nn ct : Int) (A : Option Addr) (ca : Nat) (ls : List (List UInt8)) (w : World) (hA : Rdx [] w A (ls.map sv)) (hll : ls.length ≤ 9223372036854775807) :
    Fn Try.prog 3 [.int .i64 nn, .slice A ls.length ca, .int .i64 ct] w fun v w' => v = .bool true ∧ Fr [] w w' := by
  refine Fn_of 160 Ty.en_3 Try.func3 rfl rfl rfl ?_
  dsimp only [argEnv]
  have hp := Hp.nil w
  have hF := Fr.refl [] w
  refine Wp_seq fun K1 hK1 => ?_
  refine Wp_region ?_
  refine Ls_y (wtd0 rfl) rfl rfl (y_assign rfl rfl) ?_
  refine Ls_nil (Th_n (hK1 _ _ ?_))
  refine Wp_seq fun K2 hK2 => ?_
  refine Wp_seq fun K3 hK3 => ?_
  refine Wp_region ?_
  refine Ls_a (wtd0 rfl) ?_
  refine a_call rfl rfl rfl rfl (works18_ok _) (fun v w0 ⟨hv, hf⟩ => ?_)
  subst hv
  have hp := hp.keep0 hf
  have hF := hF.step0 hf
  obtain ⟨n1, hn1⟩ := Int.eq_ofNat_of_zero_le (show 0 ≤ nn % 18446744073709551616 % 100 by omega)
  have hwn : IntKind.i64.wrap (nn % 18446744073709551616 % 100) = (n1 : Int) := by rw [IntKind.wrap_i64]; omega
  obtain ⟨nk, hnk⟩ : ∃ nk : Nat, nk = 2 + n1 := ⟨_, rfl⟩
  have hn : 2 ≤ nk ∧ nk ≤ 101 := by omega
  obtain ⟨q, hq⟩ := Int.eq_ofNat_of_zero_le (Int.emod_nonneg (ct % 18446744073709551616) (show ((nk : Int) + 1) ≠ 0 by omega))
  have hqn : (q : Int) < (nk : Int) + 1 := by rw [← hq]; exact Int.emod_lt_of_pos _ (by omega)
  refine Ls_y (wtd0 rfl) rfl rfl (y_not rfl rfl) ?_
  refine Ls_nil (Th_n (hK3 _ _ ?_))
  refine Wp_cond_f rfl ?_
  refine Wp_skip (Th_n (hK2 _ _ ?_))
  refine Wp_seq fun K4 hK4 => ?_
  refine Wp_region ?_
  refine Ls_y (wtd0 rfl) rfl rfl (y_move rfl rfl) ?_
  refine Ls_y (wtd0 rfl) rfl rfl (y_cvi rfl rfl Try.underlying3 Try.underlying24 wm_u64) ?_
  refine Ls_y (wtd0 rfl) rfl rfl (y_remP rfl rfl rfl (by omega) (by omega)) ?_
  refine Ls_y (wtd0 rfl) rfl rfl (y_cvi rfl rfl Try.underlying24 Try.underlying3 hwn) ?_
  first
    | refine Ls_y (wtd0 rfl) rfl rfl (y_add rfl rfl rfl (w_addN (a := 2) (by first | omega | (simp; omega)))) ?_
    | refine Ls_y (wtd0 rfl) rfl rfl (y_add rfl rfl rfl (wf_i64 (by omega))) ?_
    | refine Ls_y (wtd0 rfl) rfl rfl (y_add rfl rfl rfl rfl) ?_
  refine Ls_y (wtd0 rfl) rfl rfl (y_assign rfl rfl) ?_
  refine Ls_nil (Th_n (hK4 _ _ ?_))
  refine Wp_seq fun K5 hK5 => ?_
  refine Wp_region ?_
  refine Ls_y (wtd0 rfl) rfl rfl (y_move rfl rfl) ?_
  rw [← hnk]
  refine Ls_a (wtd0 rfl) ?_
  refine a_call rfl rfl rfl rfl (dnew_ok nk _ (by omega) (by omega)) (fun v wa ⟨p, hv, hN, _⟩ => ?_)
  subst hv
  have hp : Hp wa [(_, Cl [_, _, _, _, _] _), _, _] := hp.add hN
  have hdk : ∀ y ∈ [p.gd, p.gn, p.gl], w.heap.size ≤ y := fun y hy => Nat.le_trans hF.size (hN.nw y hy)
  have hop := open_new (n := nk) (by omega) (by omega)
  have hcl := newD_cl (n := nk) (by omega) (by omega)
  have hg0 : newestD (newD nk) 0 nk < 65535 := by rw [hop.2.2]; decide
  have hF := hF.step0 hN.fr
  refine Ls_y (wtd0 rfl) rfl rfl (y_move rfl rfl) ?_
  refine Ls_y (wtd0 rfl) rfl rfl (y_ext rfl rfl rfl) ?_
  refine Ls_y (wtd0 rfl) rfl rfl (y_ext rfl rfl rfl) ?_
  refine Ls_y (wtd0 rfl) rfl rfl (y_assign rfl rfl) ?_
  refine Ls_y (wtd0 rfl) rfl rfl (y_assign rfl rfl) ?_
  refine Ls_nil (Th_n (hK5 _ _ ?_))
  refine Wp_seq fun K6 hK6 => ?_
  refine Wp_region ?_
  refine Ls_y (wtd0 rfl) rfl rfl (y_move rfl rfl) ?_
  refine Ls_y (wtd0 rfl) rfl rfl (y_move rfl rfl) ?_
  refine Ls_a (wtd0 rfl) ?_
  refine a_call rfl rfl rfl rfl (jopen_ok p (newD nk) 0 nk 1 0 _ (hp.picks [0, 1, 2] (by decide)) hcl.1 (by first | decide | omega) (by rw [hcl.2]; first | decide | omega) (by first | decide | omega) (by decide) hg0) (fun v wb ⟨gj, A0, c0, sp0, hv, how0, hN⟩ => ?_)
  rw [hop.1, hop.2.1] at hN
  rw [hop.2.1] at hv
  subst hv
  have hp : Hp wb [(_, Cl [_, _, _, _, _] _), _, _, (_, Cl [_, _, _, _, _, _, _, _, _] _), _] := hp.add hN
  have hgj := Nat.le_trans hF.size (hN.nw gj (by simp [keys]))
  have hF := hF.step0 hN.fr
  refine Ls_y (wtd0 rfl) rfl rfl (y_move rfl rfl) ?_
  refine Ls_y (wtd0 rfl) rfl rfl (y_ext rfl rfl rfl) ?_
  refine Ls_y (wtd0 rfl) rfl rfl (y_ext rfl rfl rfl) ?_
  refine Ls_y (wtd0 rfl) rfl rfl (y_ext rfl rfl rfl) ?_
  refine Ls_y (wtd0 rfl) rfl rfl (y_assign rfl rfl) ?_
  refine Ls_y (wtd0 rfl) rfl rfl (y_assign rfl rfl) ?_
  refine Ls_y (wtd0 rfl) rfl rfl (y_assign rfl rfl) ?_
  refine Ls_nil (Th_n (hK6 _ _ ?_))
  refine Wp_seq fun K7 hK7 => ?_
  refine Wp_seq fun K8 hK8 => ?_
  refine Wp_region ?_
  refine Ls_y (wtd0 rfl) rfl rfl (y_move rfl rfl) ?_
  refine Ls_y (wtd0 rfl) rfl rfl (y_neF rfl rfl rfl (by omega)) ?_
  refine Ls_nil (Th_n (hK8 _ _ ?_))
  refine Wp_cond_f rfl ?_
  refine Wp_skip (Th_n (hK7 _ _ ?_))
  refine Wp_seq fun K9 hK9 => ?_
  refine Wp_region ?_
  refine Ls_y (wtd0 rfl) rfl rfl (y_assign rfl rfl) ?_
  refine Ls_nil (Th_n (hK9 _ _ ?_))
  refine Wp_seq fun K10 hK10 => ?_
  refine Wp_seq fun K11 hK11 => ?_
  refine Wp_region ?_
  refine Ls_y (wtd0 rfl) rfl rfl (y_assign rfl rfl) ?_
  refine Ls_nil (Th_n (hK11 _ _ ?_))
  refine Wp_block ?_
  refine Wp_loopE (fun m e W => ∃ (k : Nat) (D : Dk) (all : List (List UInt8)) (B : Option Addr) (cb : Nat) (spb : List Value), k ≤ ls.length ∧ m = ls.length - k ∧ e = [(0, .int .i64 (nk : Int)), (1, .slice A ls.length ca), (2, .int .i64 ct), (7, .pointer (some ⟨p.gd, 0, none⟩)), (9, .pointer (some ⟨gj, 0, none⟩)), (12, .slice B all.length cb), (13, .int .i64 (k : Int))] ∧ CI nk D (cellsA all) ∧ (∀ s ∈ all, s.length ≤ 4096) ∧ all.length ≤ k ∧ k ≤ 40 ∧ Ow B all.length cb 1 (all.map sv) spb ∧ Hp W (jH gj p D (jst nk (cellsA all).length) ++ [(blkOf B, Cl (all.map sv ++ spb) 9)]) ∧ Fr [] w W ∧ (∀ g, blkOf B = some g → w.heap.size ≤ g)) (ls.length) [(0, _), (1, _), (2, _), (7, _), (9, _), (12, _), (13, _)] ⟨rfl, rfl, rfl, rfl, rfl, rfl, rfl, trivial⟩ ?_ ?_
  · exact ⟨0, newD nk, [], none, 0, [], by omega, by omega, rfl, CI.start (by omega) (by omega), by simp, Nat.le_refl _, by omega, Ow.nil 1, (hp.addNone (Cl [] 9)).picks [0, 1, 2, 3, 5] (by decide), hF, fun g e => by simp [blkOf] at e⟩
  rintro m e W ⟨k, D, all, B, cb, spb, hk, rfl, rfl, hC, ha, hal, hk40, hB, hp, hF, hBn⟩
  have hp : Hp W [(_, Cl [_, _, _, _, _] _), _, _, (_, Cl [_, _, _, _, _, _, _, _, _] _), _] := hp
  refine Wp_seq fun K13 hK13 => ?_
  refine Wp_seq fun K14 hK14 => ?_
  refine Wp_region ?_
  refine Ls_y (wtd0 rfl) rfl rfl (y_move rfl rfl) ?_
  refine Ls_y (wtd0 rfl) rfl rfl (y_move rfl rfl) ?_
  refine Ls_y (wtd0 rfl) rfl rfl (y_lenl rfl rfl Try.underlying22) ?_
  refine Ls_y (wtd0 rfl) rfl rfl (y_lt rfl rfl rfl) ?_
  refine Ls_bool 44 rfl (fun hlt => ?_) (fun hlt => ?_)
  all_goals try simp only [decide_eq_true_eq, decide_eq_false_iff_not, beq_iff_eq, bne_iff_ne, ne_eq, beq_eq_false_iff_ne, bne_eq_false_iff_eq, Bool.not_eq_true, Bool.not_eq_false] at hlt
  · refine Ls_y (wtd0 rfl) rfl rfl (y_move rfl rfl) ?_
    refine Ls_y (wtdT rfl rfl rfl) rfl rfl (y_move rfl rfl) ?_
    refine Ls_y (wtdT rfl rfl rfl) rfl rfl (y_lt rfl rfl rfl) ?_
    refine Ls_bool 47 rfl (fun h40 => ?_) (fun h40 => ?_)
    all_goals try simp only [decide_eq_true_eq, decide_eq_false_iff_not, beq_iff_eq, bne_iff_ne, ne_eq, beq_eq_false_iff_ne, bne_eq_false_iff_eq, Bool.not_eq_true, Bool.not_eq_false] at h40
    · have hk1 : k < ls.length := by omega
      obtain ⟨ga, ba, rfl, hcel⟩ := str_cell hA (List.getElem?_eq_getElem hk1)
      generalize ls[k] = s at hcel
      refine Ls_y (wtd0 rfl) rfl rfl (y_pick_t rfl rfl rfl) ?_
      refine Ls_nil (Th_n (hK14 _ _ ?_))
      refine Wp_cond_t rfl ?_
      refine Wp_skip (Th_n (hK13 _ _ ?_))
      refine Wp_seq fun K15 hK15 => ?_
      refine Wp_block ?_
      refine Wp_seq fun K16 hK16 => ?_
      refine Wp_seq fun K17 hK17 => ?_
      refine Wp_region ?_
      refine Ls_y (wtd0 rfl) rfl rfl (y_move rfl rfl) ?_
      refine Ls_y (wtd0 rfl) rfl rfl (y_move rfl rfl) ?_
      first
        | refine Ls_y (wtd0 rfl) rfl rfl (y_ixaN rfl rfl rfl Ty.es_22 (by omega)) ?_
        | refine Ls_y (wtd0 rfl) rfl rfl (y_ixa rfl rfl rfl Ty.es_22 (by omega) (by omega)) ?_
      refine Ls_y (wtd0 rfl) rfl rfl (y_loadc rfl rfl Ty.pl_9 (fun _ e => e ▸ hcel _ hF)) ?_
      refine Ls_y (wtd0 rfl) rfl rfl (y_lens rfl rfl Try.underlying9) ?_
      refine Ls_y (wtd0 rfl) rfl rfl (y_gt rfl rfl rfl) ?_
      refine Ls_bool 56 rfl (fun hgr => ?_) (fun hgr => ?_)
      all_goals try simp only [decide_eq_true_eq, decide_eq_false_iff_not, beq_iff_eq, bne_iff_ne, ne_eq, beq_eq_false_iff_ne, bne_eq_false_iff_eq, Bool.not_eq_true, Bool.not_eq_false] at hgr
      · refine Ls_nil (Th_n (hK17 _ _ ?_))
        refine Wp_cond_t rfl ?_
        refine Wp_seq fun K18 hK18 => ?_
        refine Wp_region ?_
        refine Ls_y (wtd0 rfl) rfl rfl (y_assign rfl rfl) ?_
        refine Ls_nil (Th_n (hK18 _ _ ?_))
        refine Wp_ret (Th_r (Ib_r (Th_r (Th_r (Ib_r (Th_r (Fq_ret (Res1 rfl rfl) ?_)))))))
        exact ⟨rfl, hF⟩
      · refine Ls_nil (Th_n (hK17 _ _ ?_))
        refine Wp_cond_f rfl ?_
        refine Wp_skip (Th_n (hK16 _ _ ?_))
        refine Wp_seq fun K19 hK19 => ?_
        refine Wp_region ?_
        refine Ls_y (wtd0 rfl) rfl rfl (y_move rfl rfl) ?_
        refine Ls_a (wtd0 rfl) ?_
        refine a_call rfl rfl rfl rfl (jroom_ok gj p.gd (jst nk (cellsA all).length) _ (hp.picks [3] (by decide)) (jst_ok (by omega) (by omega) hC.fit)) (fun v wr ⟨hv, hf⟩ => ?_)
        have hv : v = .int .i64 ((nk : Int) - ((1 + (cellsA all).length - 1 : Nat) : Int)) := hv
        subst hv
        have hp := hp.keep0 hf
        have hF := hF.step0 hf
        refine Ls_y (wtd0 rfl) rfl rfl (y_assign rfl rfl) ?_
        refine Ls_nil (Th_n (hK19 _ _ ?_))
        refine Wp_seq fun K20 hK20 => ?_
        refine Wp_region ?_
        refine Ls_y (wtd0 rfl) rfl rfl (y_move rfl rfl) ?_
        refine Ls_y (wtd0 rfl) rfl rfl (y_move rfl rfl) ?_
        refine Ls_y (wtd0 rfl) rfl rfl (y_move rfl rfl) ?_
        first
          | refine Ls_y (wtd0 rfl) rfl rfl (y_ixaN rfl rfl rfl Ty.es_22 (by omega)) ?_
          | refine Ls_y (wtd0 rfl) rfl rfl (y_ixa rfl rfl rfl Ty.es_22 (by omega) (by omega)) ?_
        refine Ls_y (wtd0 rfl) rfl rfl (y_loadc rfl rfl Ty.pl_9 (fun _ e => e ▸ hcel _ hF)) ?_
        rcases Nat.lt_or_ge 4096 s.length with hlg | hsm
        · obtain ⟨e0, eJ, eD⟩ := CI.long (n := nk) (D := D) (all := all) s hlg
          refine Ls_a (wtd0 rfl) ?_
          refine a_call rfl rfl rfl rfl (jappend_ok gj p D (jst nk (cellsA all).length) _ (hp.picks [0, 1, 2, 3] (by decide)) hC.calm (jst_ok (by omega) (by omega) hC.fit) rfl (by rw [hC.len]; exact Nat.le_of_eq (Nat.zero_add nk)) (Nat.le_add_right 1 _) s (by omega)) (fun v wap ⟨hv, hM⟩ => ?_)
          rw [e0] at hv
          rw [eJ, eD] at hM
          subst hv
          have hp : Hp wap [_, (_, Cl [_, _, _, _, _] _), _, _, (_, Cl [_, _, _, _, _, _, _, _, _] _)] := hp.call [4] [0, 1, 2, 3] (by decide) rfl hM
          have hF := hF.step hM.fr (fr_jk hdk hgj)
          refine Ls_y (wtd0 rfl) rfl rfl (y_assign rfl rfl) ?_
          refine Ls_nil (Th_n (hK20 _ _ ?_))
          refine Wp_seq fun K21 hK21 => ?_
          refine Wp_seq fun K22 hK22 => ?_
          refine Wp_region ?_
          refine Ls_y (wtd0 rfl) rfl rfl (y_move rfl rfl) ?_
          refine Ls_y (wtd0 rfl) rfl rfl (y_move rfl rfl) ?_
          first
            | refine Ls_y (wtd0 rfl) rfl rfl (y_ixaN rfl rfl rfl Ty.es_22 (by omega)) ?_
            | refine Ls_y (wtd0 rfl) rfl rfl (y_ixa rfl rfl rfl Ty.es_22 (by omega) (by omega)) ?_
          refine Ls_y (wtd0 rfl) rfl rfl (y_loadc rfl rfl Ty.pl_9 (fun _ e => e ▸ hcel _ hF)) ?_
          refine Ls_y (wtd0 rfl) rfl rfl (y_lens rfl rfl Try.underlying9) ?_
          refine Ls_y (wtd0 rfl) rfl rfl (y_gtT rfl rfl rfl (by omega)) ?_
          refine Ls_nil (Th_n (hK22 _ _ ?_))
          refine Wp_cond_t rfl ?_
          refine Wp_seq fun K23 hK23 => ?_
          refine Wp_seq fun K24 hK24 => ?_
          refine Wp_region ?_
          refine Ls_y (wtd0 rfl) rfl rfl (y_move rfl rfl) ?_
          refine Ls_y (wtd0 rfl) rfl rfl (y_neF rfl rfl rfl (by omega)) ?_
          refine Ls_nil (Th_n (hK24 _ _ ?_))
          refine Wp_cond_f rfl ?_
          refine Wp_skip (Th_n (hK23 _ _ ?_))
          refine Wp_exit (Th_e (Ib_hit (Th_n (hK15 _ _ ?_))))
          refine Wp_region ?_
          refine Ls_y (wtd0 rfl) rfl rfl (y_move rfl rfl) ?_
          first
            | refine Ls_y (wtd0 rfl) rfl rfl (y_add rfl rfl rfl (w_succ (by omega))) ?_
            | refine Ls_y (wtd0 rfl) rfl rfl (y_add rfl rfl rfl (wf_i64 (by omega))) ?_
            | refine Ls_y (wtd0 rfl) rfl rfl (y_add rfl rfl rfl rfl) ?_
          refine Ls_y (wtd0 rfl) rfl rfl (y_assign rfl rfl) ?_
          refine Ls_nil (Th_n (?_))
          exact ⟨ls.length - (k + 1), [(0, _), (1, _), (2, _), (7, _), (9, _), (12, _), (13, _)], by omega, ⟨rfl, rfl, rfl, rfl, rfl, rfl, rfl, trivial⟩, k + 1, D, all, B, cb, spb, by omega, rfl, rfl, hC, ha, by omega, by omega, hB, (hp.picks [1, 2, 3, 4, 0] (by decide)), hF, hBn⟩
        · rcases hC.app s hsm with ⟨e0, hfit, eJ, hC2⟩ | ⟨e0, hno, eJ, eD⟩
          · have hsn := cellsA_snoc all s
            refine Ls_a (wtd0 rfl) ?_
            refine a_call rfl rfl rfl rfl (jappend_ok gj p D (jst nk (cellsA all).length) _ (hp.picks [0, 1, 2, 3] (by decide)) hC.calm (jst_ok (by omega) (by omega) hC.fit) rfl (by rw [hC.len]; exact Nat.le_of_eq (Nat.zero_add nk)) (Nat.le_add_right 1 _) s (by omega)) (fun v wap ⟨hv, hM⟩ => ?_)
            rw [e0] at hv
            rw [eJ] at hM
            subst hv
            have hp : Hp wap [_, (_, Cl [_, _, _, _, _] _), _, _, (_, Cl [_, _, _, _, _, _, _, _, _] _)] := hp.call [4] [0, 1, 2, 3] (by decide) rfl hM
            have hF := hF.step hM.fr (fr_jk hdk hgj)
            refine Ls_y (wtd0 rfl) rfl rfl (y_assign rfl rfl) ?_
            refine Ls_nil (Th_n (hK20 _ _ ?_))
            refine Wp_seq fun K25 hK25 => ?_
            refine Wp_seq fun K26 hK26 => ?_
            refine Wp_region ?_
            refine Ls_y (wtd0 rfl) rfl rfl (y_move rfl rfl) ?_
            refine Ls_y (wtd0 rfl) rfl rfl (y_move rfl rfl) ?_
            first
              | refine Ls_y (wtd0 rfl) rfl rfl (y_ixaN rfl rfl rfl Ty.es_22 (by omega)) ?_
              | refine Ls_y (wtd0 rfl) rfl rfl (y_ixa rfl rfl rfl Ty.es_22 (by omega) (by omega)) ?_
            refine Ls_y (wtd0 rfl) rfl rfl (y_loadc rfl rfl Ty.pl_9 (fun _ e => e ▸ hcel _ hF)) ?_
            refine Ls_y (wtd0 rfl) rfl rfl (y_lens rfl rfl Try.underlying9) ?_
            refine Ls_y (wtd0 rfl) rfl rfl (y_gtF rfl rfl rfl (by omega)) ?_
            refine Ls_nil (Th_n (hK26 _ _ ?_))
            refine Wp_cond_f rfl ?_
            refine Wp_skip (Th_n (hK25 _ _ ?_))
            refine Wp_seq fun K27 hK27 => ?_
            refine Wp_seq fun K28 hK28 => ?_
            refine Wp_region ?_
            refine Ls_y (wtd0 rfl) rfl rfl (y_move rfl rfl) ?_
            refine Ls_y (wtd0 rfl) rfl rfl (y_eqT rfl rfl rfl (by omega)) ?_
            refine Ls_y (wtd0 rfl) rfl rfl (y_move rfl rfl) ?_
            refine Ls_y (wtd0 rfl) rfl rfl (y_move rfl rfl) ?_
            first
              | refine Ls_y (wtd0 rfl) rfl rfl (y_ixaN rfl rfl rfl Ty.es_22 (by omega)) ?_
              | refine Ls_y (wtd0 rfl) rfl rfl (y_ixa rfl rfl rfl Ty.es_22 (by omega) (by omega)) ?_
            refine Ls_y (wtd0 rfl) rfl rfl (y_loadc rfl rfl Ty.pl_9 (fun _ e => e ▸ hcel _ hF)) ?_
            refine Ls_a (wtd0 rfl) ?_
            refine a_call rfl rfl rfl rfl (ncells_ok s _ (by omega)) (fun v wn ⟨hv, hf⟩ => ?_)
            subst hv
            have hp := hp.keep0 hf
            have hF := hF.step0 hf
            refine Ls_y (wtd0 rfl) rfl rfl (y_move rfl rfl) ?_
            refine Ls_y (wtd0 rfl) rfl rfl (y_leT rfl rfl rfl (by omega)) ?_
            refine Ls_y (wtd0 rfl) rfl rfl (y_neb rfl rfl rfl Try.underlying4) ?_
            refine Ls_bool 82 rfl (fun hc4 => absurd hc4 (by simp)) (fun _ => ?_)
            refine Ls_y (wtd0 rfl) rfl rfl (y_move rfl rfl) ?_
            refine Ls_y (wtdT rfl rfl rfl) rfl rfl (y_move rfl rfl) ?_
            refine Ls_y (wtdT rfl rfl rfl) rfl rfl (y_neF rfl rfl rfl (by omega)) ?_
            refine Ls_y (wtdT rfl rfl rfl) rfl rfl (y_move rfl rfl) ?_
            refine Ls_s (wtdF rfl rfl rfl) rfl rfl ?_
            refine Ls_s (wtdF rfl rfl rfl) rfl rfl ?_
            refine Ls_y (wtdT rfl rfl rfl) rfl rfl (y_pick_f rfl rfl rfl) ?_
            refine Ls_y (wtd0 rfl) rfl rfl (y_pick_f rfl rfl rfl) ?_
            refine Ls_nil (Th_n (hK28 _ _ ?_))
            refine Wp_cond_f rfl ?_
            refine Wp_skip (Th_n (hK27 _ _ ?_))
            refine Wp_seq fun K29 hK29 => ?_
            refine Wp_region ?_
            refine Ls_y (wtd0 rfl) rfl rfl (y_move rfl rfl) ?_
            refine Ls_y (wtd0 rfl) rfl rfl (y_eqT rfl rfl rfl (by omega)) ?_
            refine Ls_nil (Th_n (hK29 _ _ ?_))
            refine Wp_cond_t rfl ?_
            refine Wp_seq fun K30 hK30 => ?_
            refine Wp_region ?_
            refine Ls_y (wtd0 rfl) rfl rfl (y_move rfl rfl) ?_
            refine Ls_y (wtd0 rfl) rfl rfl (y_move rfl rfl) ?_
            refine Ls_y (wtd0 rfl) rfl rfl (y_move rfl rfl) ?_
            first
              | refine Ls_y (wtd0 rfl) rfl rfl (y_ixaN rfl rfl rfl Ty.es_22 (by omega)) ?_
              | refine Ls_y (wtd0 rfl) rfl rfl (y_ixa rfl rfl rfl Ty.es_22 (by omega) (by omega)) ?_
            refine Ls_y (wtd0 rfl) rfl rfl (y_loadc rfl rfl Ty.pl_9 (fun _ e => e ▸ hcel _ hF)) ?_
            refine Ls_a (wtd0 rfl) ?_
            refine a_bsl rfl rfl rfl rfl rfl Ty.es_22 Ty.zc_9 rfl (by decide) (by simp [Value.cells]) hp (fun g20 wbs (hp : Hp wbs [_, (_, Cl [_, _, _, _, _] _), _, _, (_, Cl [_, _, _, _, _, _, _, _, _] _), (_, Cl [_] _)]) hf hg20 => ?_)
            have hF := hF.step0 hf
            refine Ls_a (wtd0 rfl) ?_
            refine a_append (i := 0) rfl rfl rfl rfl rfl rfl Ty.es_22 Ty.zc_9 rfl Ty.by_9 (by decide) hB hp rfl rfl (src_of (range_all (i := 5) hp rfl)) (by simp) (by simp [Value.oneCell']) (by unfold maxLen; omega) (by omega) (fun B2 cb2 spb2 wap2 hB2 (hp : Hp wap2 [_, (_, Cl [_, _, _, _, _] _), _, _, (_, Cl [_, _, _, _, _, _, _, _, _] _), (_, Cl [_] _)]) hf hBnew => ?_)
            have hzz := hF.size
            have hF := hF.step hf (fun y hy => .inr (hBn y (by simpa using hy)))
            have hmv : all.map sv ++ [sv s] = (all ++ [s]).map sv := by simp
            rw [hmv] at hB2 hp
            have hBn2 : ∀ g, blkOf B2 = some g → w.heap.size ≤ g := fun g hg => by
              rcases hBnew g hg with h | h
              · exact hBn g h
              · exact Nat.le_trans hzz h
            refine Ls_y (wtd0 rfl) rfl rfl (y_assign rfl rfl) ?_
            refine Ls_nil (Th_n (hK30 _ _ ?_))
            refine Wp_seq fun K31 hK31 => ?_
            refine Wp_plan (fun W => W.cell? ⟨ga, ba + k * 1, none⟩ = some (sv s)) [(true, 0), (true, 2), (true, 3), (true, 4), (true, 5), (true, 6), (false, 1), (false, 7), (true, 8), (true, 9)] Ty.mx_0 (by kernel_rfl) (by kernel_rfl) rfl (hcel _ (hF.step0 (Fr.drew _))) ?_
            have hp := hp.drew
            have hF := hF.step0 (Fr.drew _)
            refine Pl_y rfl (wtd0 rfl) rfl rfl (y_move rfl rfl) ?_
            refine Pl_y rfl (wtd0 rfl) rfl rfl (y_move rfl rfl) ?_
            refine Pl_y rfl (wtd0 rfl) rfl rfl (y_move rfl rfl) ?_
            refine Pl_y rfl (wtd0 rfl) rfl rfl (y_move rfl rfl) ?_
            first
              | refine Pl_y rfl (wtd0 rfl) rfl rfl (y_ixaN rfl rfl rfl Ty.es_22 (by omega)) ?_
              | refine Pl_y rfl (wtd0 rfl) rfl rfl (y_ixa rfl rfl rfl Ty.es_22 (by omega) (by omega)) ?_
            refine Pl_y rfl (wtd0 rfl) rfl rfl (y_loadc rfl rfl Ty.pl_9 (fun _ h => h)) ?_
            refine Pl_a rfl (wtd0 rfl) (by rfl) ?_
            refine a_call rfl rfl rfl rfl (jroom_ok gj p.gd (jst nk (cellsA (all ++ [s])).length) _ (hp.picks [4] (by decide)) (jst_ok (by omega) (by omega) hC2.fit)) (fun v wr ⟨hv, hf⟩ => ?_)
            have hv : v = .int .i64 ((nk : Int) - ((1 + (cellsA (all ++ [s])).length - 1 : Nat) : Int)) := hv
            subst hv
            have hp := hp.keep0 hf
            have hF := hF.step0 hf
            refine ⟨hcel _ hF, ?_⟩
            refine Pl_a rfl (wtd0 rfl) (by rfl) ?_
            refine a_call rfl rfl rfl rfl (ncells_ok s _ (by omega)) (fun v wn ⟨hv, hf⟩ => ?_)
            subst hv
            have hp := hp.keep0 hf
            have hF := hF.step0 hf
            refine ⟨hcel _ hF, ?_⟩
            first
              | refine Pl_y rfl (wtd0 rfl) rfl rfl (y_sub rfl rfl rfl (w_subN (by first | omega | (simp; omega)) (by first | omega | (simp; omega)))) ?_
              | refine Pl_y rfl (wtd0 rfl) rfl rfl (y_sub rfl rfl rfl (wf_i64 (by omega))) ?_
              | refine Pl_y rfl (wtd0 rfl) rfl rfl (y_sub rfl rfl rfl rfl) ?_
            refine Pl_y rfl (wtd0 rfl) rfl rfl (y_neF rfl rfl rfl (by omega)) ?_
            refine Pl_nil (Th_n (hK31 _ _ ?_))
            refine Wp_cond_f rfl ?_
            refine Wp_skip (Ib_n (Th_n (hK15 _ _ ?_)))
            refine Wp_region ?_
            refine Ls_y (wtd0 rfl) rfl rfl (y_move rfl rfl) ?_
            first
              | refine Ls_y (wtd0 rfl) rfl rfl (y_add rfl rfl rfl (w_succ (by omega))) ?_
              | refine Ls_y (wtd0 rfl) rfl rfl (y_add rfl rfl rfl (wf_i64 (by omega))) ?_
              | refine Ls_y (wtd0 rfl) rfl rfl (y_add rfl rfl rfl rfl) ?_
            refine Ls_y (wtd0 rfl) rfl rfl (y_assign rfl rfl) ?_
            refine Ls_nil (Th_n (?_))
            exact ⟨ls.length - (k + 1), [(0, _), (1, _), (2, _), (7, _), (9, _), (12, _), (13, _)], by omega, ⟨rfl, rfl, rfl, rfl, rfl, by rw [List.length_append]; rfl, rfl, trivial⟩, k + 1, _, all ++ [s], B2, cb2, spb2, by omega, rfl, rfl, hC2, fun x hx => by rcases List.mem_append.1 hx with h | h; exact ha x h; simp at h; subst h; exact hsm, by simp; omega, by omega, by rw [List.length_append]; exact hB2, (hp.picks [1, 2, 3, 4, 0] (by decide)), hF, hBn2⟩
          · refine Ls_a (wtd0 rfl) ?_
            refine a_call rfl rfl rfl rfl (jappend_ok gj p D (jst nk (cellsA all).length) _ (hp.picks [0, 1, 2, 3] (by decide)) hC.calm (jst_ok (by omega) (by omega) hC.fit) rfl (by rw [hC.len]; exact Nat.le_of_eq (Nat.zero_add nk)) (Nat.le_add_right 1 _) s (by omega)) (fun v wap ⟨hv, hM⟩ => ?_)
            rw [e0] at hv
            rw [eJ, eD] at hM
            subst hv
            have hp : Hp wap [_, (_, Cl [_, _, _, _, _] _), _, _, (_, Cl [_, _, _, _, _, _, _, _, _] _)] := hp.call [4] [0, 1, 2, 3] (by decide) rfl hM
            have hF := hF.step hM.fr (fr_jk hdk hgj)
            refine Ls_y (wtd0 rfl) rfl rfl (y_assign rfl rfl) ?_
            refine Ls_nil (Th_n (hK20 _ _ ?_))
            refine Wp_seq fun K32 hK32 => ?_
            refine Wp_seq fun K33 hK33 => ?_
            refine Wp_region ?_
            refine Ls_y (wtd0 rfl) rfl rfl (y_move rfl rfl) ?_
            refine Ls_y (wtd0 rfl) rfl rfl (y_move rfl rfl) ?_
            first
              | refine Ls_y (wtd0 rfl) rfl rfl (y_ixaN rfl rfl rfl Ty.es_22 (by omega)) ?_
              | refine Ls_y (wtd0 rfl) rfl rfl (y_ixa rfl rfl rfl Ty.es_22 (by omega) (by omega)) ?_
            refine Ls_y (wtd0 rfl) rfl rfl (y_loadc rfl rfl Ty.pl_9 (fun _ e => e ▸ hcel _ hF)) ?_
            refine Ls_y (wtd0 rfl) rfl rfl (y_lens rfl rfl Try.underlying9) ?_
            refine Ls_y (wtd0 rfl) rfl rfl (y_gtF rfl rfl rfl (by omega)) ?_
            refine Ls_nil (Th_n (hK33 _ _ ?_))
            refine Wp_cond_f rfl ?_
            refine Wp_skip (Th_n (hK32 _ _ ?_))
            refine Wp_seq fun K34 hK34 => ?_
            refine Wp_seq fun K35 hK35 => ?_
            refine Wp_region ?_
            refine Ls_y (wtd0 rfl) rfl rfl (y_move rfl rfl) ?_
            refine Ls_y (wtd0 rfl) rfl rfl (y_eqF rfl rfl rfl (by omega)) ?_
            refine Ls_y (wtd0 rfl) rfl rfl (y_move rfl rfl) ?_
            refine Ls_y (wtd0 rfl) rfl rfl (y_move rfl rfl) ?_
            first
              | refine Ls_y (wtd0 rfl) rfl rfl (y_ixaN rfl rfl rfl Ty.es_22 (by omega)) ?_
              | refine Ls_y (wtd0 rfl) rfl rfl (y_ixa rfl rfl rfl Ty.es_22 (by omega) (by omega)) ?_
            refine Ls_y (wtd0 rfl) rfl rfl (y_loadc rfl rfl Ty.pl_9 (fun _ e => e ▸ hcel _ hF)) ?_
            refine Ls_a (wtd0 rfl) ?_
            refine a_call rfl rfl rfl rfl (ncells_ok s _ (by omega)) (fun v wn ⟨hv, hf⟩ => ?_)
            subst hv
            have hp := hp.keep0 hf
            have hF := hF.step0 hf
            refine Ls_y (wtd0 rfl) rfl rfl (y_move rfl rfl) ?_
            refine Ls_y (wtd0 rfl) rfl rfl (y_leF rfl rfl rfl (by omega)) ?_
            refine Ls_y (wtd0 rfl) rfl rfl (y_neb rfl rfl rfl Try.underlying4) ?_
            refine Ls_bool 82 rfl (fun hc5 => absurd hc5 (by simp)) (fun _ => ?_)
            refine Ls_y (wtd0 rfl) rfl rfl (y_move rfl rfl) ?_
            refine Ls_y (wtdT rfl rfl rfl) rfl rfl (y_move rfl rfl) ?_
            refine Ls_y (wtdT rfl rfl rfl) rfl rfl (y_neT rfl rfl rfl (by omega)) ?_
            refine Ls_y (wtdT rfl rfl rfl) rfl rfl (y_move rfl rfl) ?_
            refine Ls_y (wtdT rfl rfl rfl) rfl rfl (y_move rfl rfl) ?_
            refine Ls_y (wtdT rfl rfl rfl) rfl rfl (y_neF rfl rfl rfl (by omega)) ?_
            refine Ls_y (wtdT rfl rfl rfl) rfl rfl (y_pick_t rfl rfl rfl) ?_
            refine Ls_y (wtd0 rfl) rfl rfl (y_pick_f rfl rfl rfl) ?_
            refine Ls_nil (Th_n (hK35 _ _ ?_))
            refine Wp_cond_f rfl ?_
            refine Wp_skip (Th_n (hK34 _ _ ?_))
            refine Wp_seq fun K36 hK36 => ?_
            refine Wp_region ?_
            refine Ls_y (wtd0 rfl) rfl rfl (y_move rfl rfl) ?_
            refine Ls_y (wtd0 rfl) rfl rfl (y_eqF rfl rfl rfl (by omega)) ?_
            refine Ls_nil (Th_n (hK36 _ _ ?_))
            refine Wp_cond_f rfl ?_
            refine Wp_skip (Ib_n (Th_n (hK15 _ _ ?_)))
            refine Wp_region ?_
            refine Ls_y (wtd0 rfl) rfl rfl (y_move rfl rfl) ?_
            first
              | refine Ls_y (wtd0 rfl) rfl rfl (y_add rfl rfl rfl (w_succ (by omega))) ?_
              | refine Ls_y (wtd0 rfl) rfl rfl (y_add rfl rfl rfl (wf_i64 (by omega))) ?_
              | refine Ls_y (wtd0 rfl) rfl rfl (y_add rfl rfl rfl rfl) ?_
            refine Ls_y (wtd0 rfl) rfl rfl (y_assign rfl rfl) ?_
            refine Ls_nil (Th_n (?_))
            exact ⟨ls.length - (k + 1), [(0, _), (1, _), (2, _), (7, _), (9, _), (12, _), (13, _)], by omega, ⟨rfl, rfl, rfl, rfl, rfl, rfl, rfl, trivial⟩, k + 1, D, all, B, cb, spb, by omega, rfl, rfl, hC, ha, by omega, by omega, hB, (hp.picks [1, 2, 3, 4, 0] (by decide)), hF, hBn⟩
    · have hgen := hC.gen (by omega)
      obtain ⟨er1, er2⟩ := hC.reopen (by omega) ha
      have hlen := hC.len
      have hfit := hC.fit
      refine Ls_y (wtd0 rfl) rfl rfl (y_pick_t rfl rfl rfl) ?_
      refine Ls_nil (Th_n (hK14 _ _ ?_))
      refine Wp_cond_f rfl ?_
      refine Wp_exit (Th_e (Th_e (Ib_hit (Th_n (hK10 _ _ ?_)))))
      refine Wp_seq fun K37 hK37 => ?_
      refine Wp_region ?_
      refine Ls_y (wtd0 rfl) rfl rfl (y_move rfl rfl) ?_
      refine Ls_y (wtd0 rfl) rfl rfl (y_move rfl rfl) ?_
      refine Ls_y (wtd0 rfl) rfl rfl (y_move rfl rfl) ?_
      refine Ls_a (wtd0 rfl) ?_
      refine a_call rfl rfl rfl rfl (jhead_ok gj p.gd (jst nk (cellsA all).length) _ (hp.picks [3] (by decide))) (fun v wh ⟨hv, hw⟩ => ?_)
      have hv : v = .int .u32 1 := hv
      subst hv
      subst hw
      refine Ls_a (wtd0 rfl) ?_
      refine a_call rfl rfl rfl rfl (jopen_ok p D 0 nk 1 0 _ (hp.picks [0, 1, 2] (by decide)) hC.calm (by first | decide | omega) (by rw [hC.len]; first | decide | omega) (by first | decide | omega) (by decide) hgen) (fun v wo ⟨gj2, A2, c2, sp2, hv, how2, hN⟩ => ?_)
      rw [er1] at hN how2 hv
      subst hv
      have hp : Hp wo [(_, Cl [_, _, _, _, _] _), _, _, (_, Cl [_, _, _, _, _, _, _, _, _] _), _, (_, Cl [_, _, _, _, _, _, _, _, _] _), _] := hp.add hN
      have hgj2 := Nat.le_trans hF.size (hN.nw gj2 (by simp [keys]))
      have hF := hF.step0 hN.fr
      refine Ls_y (wtd0 rfl) rfl rfl (y_move rfl rfl) ?_
      refine Ls_y (wtd0 rfl) rfl rfl (y_ext rfl rfl rfl) ?_
      refine Ls_y (wtd0 rfl) rfl rfl (y_ext rfl rfl rfl) ?_
      refine Ls_y (wtd0 rfl) rfl rfl (y_ext rfl rfl rfl) ?_
      refine Ls_y (wtd0 rfl) rfl rfl (y_assign rfl rfl) ?_
      refine Ls_y (wtd0 rfl) rfl rfl (y_assign rfl rfl) ?_
      refine Ls_y (wtd0 rfl) rfl rfl (y_assign rfl rfl) ?_
      refine Ls_nil (Th_n (hK37 _ _ ?_))
      refine Wp_seq fun K38 hK38 => ?_
      refine Wp_seq fun K39 hK39 => ?_
      refine Wp_region ?_
      refine Ls_y (wtd0 rfl) rfl rfl (y_move rfl rfl) ?_
      refine Ls_y (wtd0 rfl) rfl rfl (y_neF rfl rfl rfl (by omega)) ?_
      refine Ls_y (wtd0 rfl) rfl rfl (y_move rfl rfl) ?_
      refine Ls_y (wtdT rfl rfl rfl) rfl rfl (y_move rfl rfl) ?_
      refine Ls_y (wtdT rfl rfl rfl) rfl rfl (y_eqnp rfl rfl rfl Try.underlying29) ?_
      refine Ls_bool 123 rfl (fun hc6 => absurd hc6 (by simp)) (fun _ => ?_)
      refine Ls_y (wtd0 rfl) rfl rfl (y_pick_f rfl rfl rfl) ?_
      refine Ls_y (wtd0 rfl) rfl rfl (y_move rfl rfl) ?_
      refine Ls_y (wtdT rfl rfl rfl) rfl rfl (y_move rfl rfl) ?_
      refine Ls_y (wtdT rfl rfl rfl) rfl rfl (y_move rfl rfl) ?_
      refine Ls_a (wtdT rfl rfl rfl) ?_
      refine a_call rfl rfl rfl rfl (same_ok all all A2 B c2 cb sp2 spb _ how2 hB (by omega) (by omega) (hp.picks [6, 4] (by decide))) (fun v ws ⟨hv, hf⟩ => ?_)
      rw [decide_eq_true rfl] at hv
      subst hv
      have hp := hp.keep0 hf
      have hF := hF.step0 hf
      refine Ls_y (wtdT rfl rfl rfl) rfl rfl (y_not rfl rfl) ?_
      refine Ls_y (wtd0 rfl) rfl rfl (y_pick_f rfl rfl rfl) ?_
      refine Ls_y (wtd0 rfl) rfl rfl (y_move rfl rfl) ?_
      refine Ls_y (wtdT rfl rfl rfl) rfl rfl (y_move rfl rfl) ?_
      refine Ls_a (wtdT rfl rfl rfl) ?_
      refine a_call rfl rfl rfl rfl (jnext_ok gj2 p.gd (openJ D 0 nk 1 0) _ (hp.picks [5] (by decide))) (fun v wx ⟨hv, hw⟩ => ?_)
      have hv : v = .int .u32 ((openF D 0 nk 1 0).next : Int) := hv
      rw [er2] at hv
      subst hv
      subst hw
      refine Ls_y (wtdT rfl rfl rfl) rfl rfl (y_move rfl rfl) ?_
      refine Ls_a (wtdT rfl rfl rfl) ?_
      refine a_call rfl rfl rfl rfl (jnext_ok gj p.gd (jst nk (cellsA all).length) _ (hp.picks [3] (by decide))) (fun v wx ⟨hv, hw⟩ => ?_)
      have hv : v = .int .u32 ((1 + (cellsA all).length : Nat) : Int) := hv
      subst hv
      subst hw
      refine Ls_y (wtdT rfl rfl rfl) rfl rfl (y_neF rfl rfl rfl (by omega)) ?_
      refine Ls_y (wtd0 rfl) rfl rfl (y_pick_f rfl rfl rfl) ?_
      refine Ls_nil (Th_n (hK39 _ _ ?_))
      refine Wp_cond_f rfl ?_
      refine Wp_skip (Th_n (hK38 _ _ ?_))
      refine Wp_seq fun K40 hK40 => ?_
      refine Wp_seq fun K41 hK41 => ?_
      refine Wp_region ?_
      refine Ls_y (wtd0 rfl) rfl rfl (y_move rfl rfl) ?_
      refine Ls_a (wtd0 rfl) ?_
      refine a_call rfl rfl rfl rfl (jsync_ok gj p D (jst nk (cellsA all).length) _ (hp.picks [0, 1, 2, 3] (by decide)) hC.calm rfl) (fun v wy ⟨hv, hM⟩ => ?_)
      subst hv
      have hp : Hp wy [_, (_, Cl [_, _, _, _, _, _, _, _, _] _), _, (_, Cl [_, _, _, _, _] _), _, _, (_, Cl [_, _, _, _, _, _, _, _, _] _)] := hp.call [4, 5, 6] [0, 1, 2, 3] (by decide) rfl hM
      have hF := hF.step hM.fr (fr_jk hdk hgj)
      refine Ls_y (wtd0 rfl) rfl rfl (y_neF rfl rfl rfl (by omega)) ?_
      refine Ls_nil (Th_n (hK41 _ _ ?_))
      obtain ⟨J2, hJ2⟩ : ∃ J2 : Jn, J2 = { (jst nk (cellsA all).length) with lasts := (jst nk (cellsA all).length).next } := ⟨_, rfl⟩
      rw [← hJ2] at hp
      have hJh : J2.head = 1 := by rw [hJ2]; rfl
      refine Wp_cond_f rfl ?_
      refine Wp_skip (Th_n (hK40 _ _ ?_))
      refine Wp_seq fun K42 hK42 => ?_
      refine Wp_plan (fun _ => True) [(true, 0), (true, 2), (true, 3), (true, 4), (true, 5), (true, 6), (true, 7), (true, 8), (false, 1), (true, 9), (true, 10)] Ty.mx_0 (by kernel_rfl) (by kernel_rfl) rfl (trivial) ?_
      have hp := hp.drew
      have hF := hF.step0 (Fr.drew _)
      refine Pl_y rfl (wtd0 rfl) rfl rfl (y_move rfl rfl) ?_
      refine Pl_y rfl (wtd0 rfl) rfl rfl (y_move rfl rfl) ?_
      refine Pl_y rfl (wtd0 rfl) rfl rfl (y_cvi rfl rfl Try.underlying3 Try.underlying24 wm_u64) ?_
      refine Pl_y rfl (wtd0 rfl) rfl rfl (y_move rfl rfl) ?_
      first
        | refine Pl_y rfl (wtd0 rfl) rfl rfl (y_add rfl rfl rfl (w_succ (by omega))) ?_
        | refine Pl_y rfl (wtd0 rfl) rfl rfl (y_add rfl rfl rfl (wf_i64 (by omega))) ?_
        | refine Pl_y rfl (wtd0 rfl) rfl rfl (y_add rfl rfl rfl rfl) ?_
      refine Pl_y rfl (wtd0 rfl) rfl rfl (y_cvi rfl rfl Try.underlying3 Try.underlying24 (wf_u64 (by omega))) ?_
      refine Pl_y rfl (wtd0 rfl) rfl rfl (y_remC rfl rfl rfl (by omega) (by omega) hq) ?_
      refine Pl_y rfl (wtd0 rfl) rfl rfl (y_cvi rfl rfl Try.underlying24 Try.underlying32 (wf_u32 (by omega))) ?_
      refine Pl_a rfl (wtd0 rfl) (by rfl) ?_
      refine a_call rfl rfl rfl rfl (jhead_ok gj p.gd J2 _ (hp.picks [6] (by decide))) (fun v wh ⟨hv, hw⟩ => ?_)
      rw [hJh] at hv
      have hv : v = .int .u32 1 := hv
      subst hv
      subst hw
      refine ⟨trivial, ?_⟩
      refine Pl_y rfl (wtd0 rfl) rfl rfl (y_add rfl rfl rfl (wf_u32 (by omega))) ?_
      refine Pl_y rfl (wtd0 rfl) rfl rfl (y_assign rfl rfl) ?_
      refine Pl_nil (Th_n (hK42 _ _ ?_))
      refine Wp_seq fun K43 hK43 => ?_
      refine Wp_region ?_
      refine Ls_y (wtd0 rfl) rfl rfl (y_move rfl rfl) ?_
      refine Ls_y (wtd0 rfl) rfl rfl (y_move rfl rfl) ?_
      refine Ls_a (wtd0 rfl) ?_
      refine a_call rfl rfl rfl rfl (jcut_ok gj p.gd J2 _ (hp.picks [6] (by decide)) (1 + (q : Int)) (by omega)) (fun v wz ⟨hv, J3, hJ3, hM⟩ => ?_)
      subst hv
      have hp : Hp wz [_, (_, Cl [_, _, _, _, _, _, _, _, _] _), _, (_, Cl [_, _, _, _, _] _), _, _, (_, Cl [_, _, _, _, _, _, _, _, _] _)] := hp.call [0, 1, 2, 3, 4, 5] [6] (by decide) rfl hM
      have hF := hF.step hM.fr (by simp [keys, hgj])
      refine Ls_y (wtd0 rfl) rfl rfl (y_eq rfl rfl rfl) ?_
      refine Ls_y (wtd0 rfl) rfl rfl (y_move rfl rfl) ?_
      refine Ls_y (wtd0 rfl) rfl rfl (y_move rfl rfl) ?_
      refine Ls_a (wtd0 rfl) ?_
      refine a_call rfl rfl rfl rfl (jlasts_ok gj p.gd J3 _ (hp.picks [6] (by decide))) (fun v wq ⟨hv, hw⟩ => ?_)
      rw [hJ3] at hv
      subst hv
      subst hw
      refine Ls_y (wtd0 rfl) rfl rfl (y_le rfl rfl rfl) ?_
      refine Ls_y (wtd0 rfl) rfl rfl (y_eqb rfl rfl rfl Try.underlying4) ?_
      refine Ls_y (wtd0 rfl) rfl rfl (y_assign rfl rfl) ?_
      refine Ls_nil (Th_n (hK43 _ _ ?_))
      refine Wp_ret (Fq_ret (Res1 rfl rfl) ?_)
      refine ⟨?_, hF⟩
      rw [hJh]
      by_cases hc : (J2.lasts : Int) < 1 + (q : Int)
      · rw [if_pos (.inr hc)]; simp; omega
      · rw [if_neg (by omega)]; simp; omega
  · have hgen := hC.gen (by omega)
    obtain ⟨er1, er2⟩ := hC.reopen (by omega) ha
    have hlen := hC.len
    have hfit := hC.fit
    refine Ls_y (wtd0 rfl) rfl rfl (y_move rfl rfl) ?_
    refine Ls_s (wtdF rfl rfl rfl) rfl rfl ?_
    refine Ls_s (wtdF rfl rfl rfl) rfl rfl ?_
    refine Ls_y (wtd0 rfl) rfl rfl (y_pick_f rfl rfl rfl) ?_
    refine Ls_nil (Th_n (hK14 _ _ ?_))
    refine Wp_cond_f rfl ?_
    refine Wp_exit (Th_e (Th_e (Ib_hit (Th_n (hK10 _ _ ?_)))))
    refine Wp_seq fun K44 hK44 => ?_
    refine Wp_region ?_
    refine Ls_y (wtd0 rfl) rfl rfl (y_move rfl rfl) ?_
    refine Ls_y (wtd0 rfl) rfl rfl (y_move rfl rfl) ?_
    refine Ls_y (wtd0 rfl) rfl rfl (y_move rfl rfl) ?_
    refine Ls_a (wtd0 rfl) ?_
    refine a_call rfl rfl rfl rfl (jhead_ok gj p.gd (jst nk (cellsA all).length) _ (hp.picks [3] (by decide))) (fun v wh ⟨hv, hw⟩ => ?_)
    have hv : v = .int .u32 1 := hv
    subst hv
    subst hw
    refine Ls_a (wtd0 rfl) ?_
    refine a_call rfl rfl rfl rfl (jopen_ok p D 0 nk 1 0 _ (hp.picks [0, 1, 2] (by decide)) hC.calm (by first | decide | omega) (by rw [hC.len]; first | decide | omega) (by first | decide | omega) (by decide) hgen) (fun v wo ⟨gj2, A2, c2, sp2, hv, how2, hN⟩ => ?_)
    rw [er1] at hN how2 hv
    subst hv
    have hp : Hp wo [(_, Cl [_, _, _, _, _] _), _, _, (_, Cl [_, _, _, _, _, _, _, _, _] _), _, (_, Cl [_, _, _, _, _, _, _, _, _] _), _] := hp.add hN
    have hgj2 := Nat.le_trans hF.size (hN.nw gj2 (by simp [keys]))
    have hF := hF.step0 hN.fr
    refine Ls_y (wtd0 rfl) rfl rfl (y_move rfl rfl) ?_
    refine Ls_y (wtd0 rfl) rfl rfl (y_ext rfl rfl rfl) ?_
    refine Ls_y (wtd0 rfl) rfl rfl (y_ext rfl rfl rfl) ?_
    refine Ls_y (wtd0 rfl) rfl rfl (y_ext rfl rfl rfl) ?_
    refine Ls_y (wtd0 rfl) rfl rfl (y_assign rfl rfl) ?_
    refine Ls_y (wtd0 rfl) rfl rfl (y_assign rfl rfl) ?_
    refine Ls_y (wtd0 rfl) rfl rfl (y_assign rfl rfl) ?_
    refine Ls_nil (Th_n (hK44 _ _ ?_))
    refine Wp_seq fun K45 hK45 => ?_
    refine Wp_seq fun K46 hK46 => ?_
    refine Wp_region ?_
    refine Ls_y (wtd0 rfl) rfl rfl (y_move rfl rfl) ?_
    refine Ls_y (wtd0 rfl) rfl rfl (y_neF rfl rfl rfl (by omega)) ?_
    refine Ls_y (wtd0 rfl) rfl rfl (y_move rfl rfl) ?_
    refine Ls_y (wtdT rfl rfl rfl) rfl rfl (y_move rfl rfl) ?_
    refine Ls_y (wtdT rfl rfl rfl) rfl rfl (y_eqnp rfl rfl rfl Try.underlying29) ?_
    refine Ls_bool 123 rfl (fun hc7 => absurd hc7 (by simp)) (fun _ => ?_)
    refine Ls_y (wtd0 rfl) rfl rfl (y_pick_f rfl rfl rfl) ?_
    refine Ls_y (wtd0 rfl) rfl rfl (y_move rfl rfl) ?_
    refine Ls_y (wtdT rfl rfl rfl) rfl rfl (y_move rfl rfl) ?_
    refine Ls_y (wtdT rfl rfl rfl) rfl rfl (y_move rfl rfl) ?_
    refine Ls_a (wtdT rfl rfl rfl) ?_
    refine a_call rfl rfl rfl rfl (same_ok all all A2 B c2 cb sp2 spb _ how2 hB (by omega) (by omega) (hp.picks [6, 4] (by decide))) (fun v ws ⟨hv, hf⟩ => ?_)
    rw [decide_eq_true rfl] at hv
    subst hv
    have hp := hp.keep0 hf
    have hF := hF.step0 hf
    refine Ls_y (wtdT rfl rfl rfl) rfl rfl (y_not rfl rfl) ?_
    refine Ls_y (wtd0 rfl) rfl rfl (y_pick_f rfl rfl rfl) ?_
    refine Ls_y (wtd0 rfl) rfl rfl (y_move rfl rfl) ?_
    refine Ls_y (wtdT rfl rfl rfl) rfl rfl (y_move rfl rfl) ?_
    refine Ls_a (wtdT rfl rfl rfl) ?_
    refine a_call rfl rfl rfl rfl (jnext_ok gj2 p.gd (openJ D 0 nk 1 0) _ (hp.picks [5] (by decide))) (fun v wx ⟨hv, hw⟩ => ?_)
    have hv : v = .int .u32 ((openF D 0 nk 1 0).next : Int) := hv
    rw [er2] at hv
    subst hv
    subst hw
    refine Ls_y (wtdT rfl rfl rfl) rfl rfl (y_move rfl rfl) ?_
    refine Ls_a (wtdT rfl rfl rfl) ?_
    refine a_call rfl rfl rfl rfl (jnext_ok gj p.gd (jst nk (cellsA all).length) _ (hp.picks [3] (by decide))) (fun v wx ⟨hv, hw⟩ => ?_)
    have hv : v = .int .u32 ((1 + (cellsA all).length : Nat) : Int) := hv
    subst hv
    subst hw
    refine Ls_y (wtdT rfl rfl rfl) rfl rfl (y_neF rfl rfl rfl (by omega)) ?_
    refine Ls_y (wtd0 rfl) rfl rfl (y_pick_f rfl rfl rfl) ?_
    refine Ls_nil (Th_n (hK46 _ _ ?_))
    refine Wp_cond_f rfl ?_
    refine Wp_skip (Th_n (hK45 _ _ ?_))
    refine Wp_seq fun K47 hK47 => ?_
    refine Wp_seq fun K48 hK48 => ?_
    refine Wp_region ?_
    refine Ls_y (wtd0 rfl) rfl rfl (y_move rfl rfl) ?_
    refine Ls_a (wtd0 rfl) ?_
    refine a_call rfl rfl rfl rfl (jsync_ok gj p D (jst nk (cellsA all).length) _ (hp.picks [0, 1, 2, 3] (by decide)) hC.calm rfl) (fun v wy ⟨hv, hM⟩ => ?_)
    subst hv
    have hp : Hp wy [_, (_, Cl [_, _, _, _, _, _, _, _, _] _), _, (_, Cl [_, _, _, _, _] _), _, _, (_, Cl [_, _, _, _, _, _, _, _, _] _)] := hp.call [4, 5, 6] [0, 1, 2, 3] (by decide) rfl hM
    have hF := hF.step hM.fr (fr_jk hdk hgj)
    refine Ls_y (wtd0 rfl) rfl rfl (y_neF rfl rfl rfl (by omega)) ?_
    refine Ls_nil (Th_n (hK48 _ _ ?_))
    obtain ⟨J2, hJ2⟩ : ∃ J2 : Jn, J2 = { (jst nk (cellsA all).length) with lasts := (jst nk (cellsA all).length).next } := ⟨_, rfl⟩
    rw [← hJ2] at hp
    have hJh : J2.head = 1 := by rw [hJ2]; rfl
    refine Wp_cond_f rfl ?_
    refine Wp_skip (Th_n (hK47 _ _ ?_))
    refine Wp_seq fun K49 hK49 => ?_
    refine Wp_plan (fun _ => True) [(true, 0), (true, 2), (true, 3), (true, 4), (true, 5), (true, 6), (true, 7), (true, 8), (false, 1), (true, 9), (true, 10)] Ty.mx_0 (by kernel_rfl) (by kernel_rfl) rfl (trivial) ?_
    have hp := hp.drew
    have hF := hF.step0 (Fr.drew _)
    refine Pl_y rfl (wtd0 rfl) rfl rfl (y_move rfl rfl) ?_
    refine Pl_y rfl (wtd0 rfl) rfl rfl (y_move rfl rfl) ?_
    refine Pl_y rfl (wtd0 rfl) rfl rfl (y_cvi rfl rfl Try.underlying3 Try.underlying24 wm_u64) ?_
    refine Pl_y rfl (wtd0 rfl) rfl rfl (y_move rfl rfl) ?_
    first
      | refine Pl_y rfl (wtd0 rfl) rfl rfl (y_add rfl rfl rfl (w_succ (by omega))) ?_
      | refine Pl_y rfl (wtd0 rfl) rfl rfl (y_add rfl rfl rfl (wf_i64 (by omega))) ?_
      | refine Pl_y rfl (wtd0 rfl) rfl rfl (y_add rfl rfl rfl rfl) ?_
    refine Pl_y rfl (wtd0 rfl) rfl rfl (y_cvi rfl rfl Try.underlying3 Try.underlying24 (wf_u64 (by omega))) ?_
    refine Pl_y rfl (wtd0 rfl) rfl rfl (y_remC rfl rfl rfl (by omega) (by omega) hq) ?_
    refine Pl_y rfl (wtd0 rfl) rfl rfl (y_cvi rfl rfl Try.underlying24 Try.underlying32 (wf_u32 (by omega))) ?_
    refine Pl_a rfl (wtd0 rfl) (by rfl) ?_
    refine a_call rfl rfl rfl rfl (jhead_ok gj p.gd J2 _ (hp.picks [6] (by decide))) (fun v wh ⟨hv, hw⟩ => ?_)
    rw [hJh] at hv
    have hv : v = .int .u32 1 := hv
    subst hv
    subst hw
    refine ⟨trivial, ?_⟩
    refine Pl_y rfl (wtd0 rfl) rfl rfl (y_add rfl rfl rfl (wf_u32 (by omega))) ?_
    refine Pl_y rfl (wtd0 rfl) rfl rfl (y_assign rfl rfl) ?_
    refine Pl_nil (Th_n (hK49 _ _ ?_))
    refine Wp_seq fun K50 hK50 => ?_
    refine Wp_region ?_
    refine Ls_y (wtd0 rfl) rfl rfl (y_move rfl rfl) ?_
    refine Ls_y (wtd0 rfl) rfl rfl (y_move rfl rfl) ?_
    refine Ls_a (wtd0 rfl) ?_
    refine a_call rfl rfl rfl rfl (jcut_ok gj p.gd J2 _ (hp.picks [6] (by decide)) (1 + (q : Int)) (by omega)) (fun v wz ⟨hv, J3, hJ3, hM⟩ => ?_)
    subst hv
    have hp : Hp wz [_, (_, Cl [_, _, _, _, _, _, _, _, _] _), _, (_, Cl [_, _, _, _, _] _), _, _, (_, Cl [_, _, _, _, _, _, _, _, _] _)] := hp.call [0, 1, 2, 3, 4, 5] [6] (by decide) rfl hM
    have hF := hF.step hM.fr (by simp [keys, hgj])
    refine Ls_y (wtd0 rfl) rfl rfl (y_eq rfl rfl rfl) ?_
    refine Ls_y (wtd0 rfl) rfl rfl (y_move rfl rfl) ?_
    refine Ls_y (wtd0 rfl) rfl rfl (y_move rfl rfl) ?_
    refine Ls_a (wtd0 rfl) ?_
    refine a_call rfl rfl rfl rfl (jlasts_ok gj p.gd J3 _ (hp.picks [6] (by decide))) (fun v wq ⟨hv, hw⟩ => ?_)
    rw [hJ3] at hv
    subst hv
    subst hw
    refine Ls_y (wtd0 rfl) rfl rfl (y_le rfl rfl rfl) ?_
    refine Ls_y (wtd0 rfl) rfl rfl (y_eqb rfl rfl rfl Try.underlying4) ?_
    refine Ls_y (wtd0 rfl) rfl rfl (y_assign rfl rfl) ?_
    refine Ls_nil (Th_n (hK50 _ _ ?_))
    refine Wp_ret (Fq_ret (Res1 rfl rfl) ?_)
    refine ⟨?_, hF⟩
    rw [hJh]
    by_cases hc : (J2.lasts : Int) < 1 + (q : Int)
    · rw [if_pos (.inr hc)]; simp; omega
    · rw [if_neg (by omega)]; simp; omega

end Go.Proofs.Ytcpfhnfpokijaaa

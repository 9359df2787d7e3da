/- Walks printed by gen.py out of our own specifications: what the functions named below do. -/
import Derived.Test.YtcpfhnfpokijaaaJ3
set_option linter.unusedSimpArgs false
set_option linter.unusedVariables false
namespace Go.Proofs.Ytcpfhnfpokijaaa
open Go.RowKit


def appE (J : Jn) (s : List UInt8) : Int := if 4096 < s.length then 8 else if (J.size : Int) - ((J.next - J.head : Nat) : Int) < (cellsN s : Int) then 4 else 0
abbrev cellS (J : Jn) (s : List UInt8) (k : Nat) : List UInt8 := packS J.gen ((J.next + k : Nat) : Int) (flagN s k : Int) (chunk s k)
def wrN (D : Dk) (J : Jn) (s : List UInt8) : Nat → Dk
  | 0 => D
  | k + 1 => writeD (wrN D J s k) ((J.base + (J.next + k) % J.size : Nat) : Int) (cellS J s k)
def appD (D : Dk) (J : Jn) (s : List UInt8) : Dk := if appE J s = 0 then wrN D J s (cellsN s) else D
def appJ (J : Jn) (s : List UInt8) : Jn := if appE J s = 0 then { J with next := J.next + cellsN s } else J
theorem packS_len64 (g q f : Int) (d : List UInt8) : (packS g q f d).length ≤ 64 := by
  unfold packS
  split
  · simp
  · split
    · simp
    · rw [List.length_map, packN_length g q f d (by omega)]; omega
theorem wrN_calm {D : Dk} {J : Jn} {s : List UInt8} (h : Calm D) (hJ : JnOk J) (hb : J.base + J.size ≤ D.now.length) : ∀ k, Calm (wrN D J s k) ∧ (wrN D J s k).now.length = D.now.length
  | 0 => ⟨h, rfl⟩
  | k + 1 => by
    obtain ⟨h1, h2⟩ := wrN_calm (s := s) h hJ hb k
    have hs1 := hJ.size1
    have hm := Nat.mod_lt (J.next + k) (show 0 < J.size by omega)
    have h3 := h1.write (i := J.base + (J.next + k) % J.size) (by omega) (s := cellS J s k) (packS_len64 _ _ _ _)
    refine ⟨h3.2.2, ?_⟩
    show (writeD _ _ _).now.length = _
    rw [h3.2.1]
    simp [h2]

set_option maxRecDepth 20000 in
set_option maxHeartbeats 2000000 in
theorem jappend_ok (gj : Nat) (p : Dp) (D : Dk) (J : Jn) (w : World) (hp : Hp w (jH gj p D J)) (hD : Calm D) (hJ : JnOk J) (ho : J.over = false) (hb : J.base + J.size ≤ D.now.length) (h1 : 1 ≤ J.next) (s : List UInt8) (hs : s.length ≤ 4200) :
    Fn Try.prog 9 [.pointer (some ⟨gj, 0, none⟩), sv s] w fun v w' => v = .int .i64 (appE J s) ∧ Mod w w' (jH gj p D J) (jH gj p (appD D J s) (appJ J s)) := by
  refine Fn_ofM 83 Ty.en_9 Try.func9 rfl rfl rfl ?_
  dsimp only [argEnv]
  have hp : Hp w [(_, Cl [_, _, _, _, _] _), _, _, (_, Cl [_, _, _, _, _, _, _, _, _] _)] := hp
  have hF := Fr.refl [p.gd, p.gn, p.gl, gj] w
  refine Wf_seq ?_
  refine Wf_x (fun K1 hK1 => ?_)
  have hnx := hJ.next
  have hsz := hJ.size
  have hhn := hJ.hn
  have hns := hJ.ns
  have hn1 : cellsN s ≤ 84 := by unfold cellsN; omega
  have hcp := cellsN_pos s
  refine Wp_region ?_
  refine Ls_a (wtd0 rfl) ?_
  refine a_box1 rfl rfl rfl rfl rfl hp (fun g1 w1 (hp : Hp w1 [(_, Cl [_, _, _, _, _] _), _, _, (_, Cl [_, _, _, _, _, _, _, _, _] _), (_, Cl [_] _)]) hf hg1 => ?_)
  have hg1 := Nat.le_trans hF.size hg1
  have hF := hF.step0 hf
  refine Ls_a (wtd0 rfl) ?_
  refine a_alloc rfl rfl rfl Ty.zc_26 hp (fun g2 w2 (hp : Hp w2 [(_, Cl [_, _, _, _, _] _), _, _, (_, Cl [_, _, _, _, _, _, _, _, _] _), (_, Cl [_] _), (_, Cl [_] _)]) hf hg2 => ?_)
  have hg2 := Nat.le_trans hF.size hg2
  have hF := hF.step0 hf
  refine Ls_nil (Th_n (hK1 _ _ ?_))
  refine Wf_seq ?_
  refine Wf_x (fun K2 hK2 => ?_)
  refine Wp_region ?_
  refine Ls_y (wtd0 rfl) rfl rfl (y_move rfl rfl) ?_
  refine Ls_a (wtd0 rfl) ?_
  refine a_call rfl rfl rfl rfl (ncells_ok s _ (by omega)) (fun v wc ⟨hv, hf⟩ => ?_)
  subst hv
  have hp := hp.keep0 hf
  have hF := hF.step0 hf
  refine Ls_y (wtd0 rfl) rfl rfl (y_assign rfl rfl) ?_
  refine Ls_nil (Th_n (hK2 _ _ ?_))
  refine Wf_seq ?_
  refine Wf_x (fun K3 hK3 => ?_)
  refine Wp_block ?_
  refine Wp_seq fun K4 hK4 => ?_
  refine Wp_region ?_
  first
    | refine Ls_y (wtd0 rfl) rfl rfl (y_load (i := 0) rfl rfl Ty.pl_29 (fun _ e => e ▸ hp) rfl rfl) ?_
    | refine Ls_y (wtd0 rfl) rfl rfl (y_load (i := 1) rfl rfl Ty.pl_29 (fun _ e => e ▸ hp) rfl rfl) ?_
    | refine Ls_y (wtd0 rfl) rfl rfl (y_load (i := 2) rfl rfl Ty.pl_29 (fun _ e => e ▸ hp) rfl rfl) ?_
    | refine Ls_y (wtd0 rfl) rfl rfl (y_load (i := 3) rfl rfl Ty.pl_29 (fun _ e => e ▸ hp) rfl rfl) ?_
    | refine Ls_y (wtd0 rfl) rfl rfl (y_load (i := 4) rfl rfl Ty.pl_29 (fun _ e => e ▸ hp) rfl rfl) ?_
    | refine Ls_y (wtd0 rfl) rfl rfl (y_load (i := 5) rfl rfl Ty.pl_29 (fun _ e => e ▸ hp) rfl rfl) ?_
  refine Ls_y (wtd0 rfl) rfl rfl (y_nil rfl rfl) ?_
  refine Ls_y (wtd0 rfl) rfl rfl (y_fld rfl rfl Ty.fo_53_8) ?_
  first
    | refine Ls_y (wtd0 rfl) rfl rfl (y_load (i := 0) rfl rfl Ty.pl_4 (fun _ e => e ▸ hp) rfl rfl) ?_
    | refine Ls_y (wtd0 rfl) rfl rfl (y_load (i := 1) rfl rfl Ty.pl_4 (fun _ e => e ▸ hp) rfl rfl) ?_
    | refine Ls_y (wtd0 rfl) rfl rfl (y_load (i := 2) rfl rfl Ty.pl_4 (fun _ e => e ▸ hp) rfl rfl) ?_
    | refine Ls_y (wtd0 rfl) rfl rfl (y_load (i := 3) rfl rfl Ty.pl_4 (fun _ e => e ▸ hp) rfl rfl) ?_
    | refine Ls_y (wtd0 rfl) rfl rfl (y_load (i := 4) rfl rfl Ty.pl_4 (fun _ e => e ▸ hp) rfl rfl) ?_
    | refine Ls_y (wtd0 rfl) rfl rfl (y_load (i := 5) rfl rfl Ty.pl_4 (fun _ e => e ▸ hp) rfl rfl) ?_
  refine Ls_y (wtd0 rfl) rfl rfl (y_assign rfl rfl) ?_
  refine Ls_nil (Th_n (hK4 _ _ ?_))
  refine Wp_bool 13 rfl (fun hc1 => absurd hc1 (by simp [ho])) (fun _ => ?_)
  refine Wp_cond_f rfl ?_
  refine Wp_seq fun K5 hK5 => ?_
  refine Wp_region ?_
  refine Ls_y (wtd0 rfl) rfl rfl (y_move rfl rfl) ?_
  refine Ls_y (wtd0 rfl) rfl rfl (y_lens rfl rfl Try.underlying9) ?_
  refine Ls_y (wtd0 rfl) rfl rfl (y_gt rfl rfl rfl) ?_
  refine Ls_bool 21 rfl (fun hl => ?_) (fun hl => ?_)
  all_goals try simp only [decide_eq_true_eq, decide_eq_false_iff_not, beq_iff_eq, bne_iff_ne, ne_eq, beq_eq_false_iff_ne, bne_eq_false_iff_eq, Bool.not_eq_true, Bool.not_eq_false] at hl
  · refine Ls_y (wtd0 rfl) rfl rfl (y_assign rfl rfl) ?_
    refine Ls_nil (Th_n (hK5 _ _ ?_))
    refine Wp_cond_t rfl ?_
    refine Wp_seq fun K6 hK6 => ?_
    refine Wp_region ?_
    refine Ls_a (wtd0 rfl) ?_
    first
      | refine a_store (i := 0) rfl rfl rfl rfl rfl Ty.sz_26 rfl hp rfl (by first | decide | (simp; done) | (simp; omega)) (fun w3 (hp : Hp w3 [(_, Cl [_, _, _, _, _] _), _, _, (_, Cl [_, _, _, _, _, _, _, _, _] _), (_, Cl [_] _), (_, Cl [_] _)]) hf _ => ?_)
      | refine a_store (i := 1) rfl rfl rfl rfl rfl Ty.sz_26 rfl hp rfl (by first | decide | (simp; done) | (simp; omega)) (fun w3 (hp : Hp w3 [(_, Cl [_, _, _, _, _] _), _, _, (_, Cl [_, _, _, _, _, _, _, _, _] _), (_, Cl [_] _), (_, Cl [_] _)]) hf _ => ?_)
      | refine a_store (i := 2) rfl rfl rfl rfl rfl Ty.sz_26 rfl hp rfl (by first | decide | (simp; done) | (simp; omega)) (fun w3 (hp : Hp w3 [(_, Cl [_, _, _, _, _] _), _, _, (_, Cl [_, _, _, _, _, _, _, _, _] _), (_, Cl [_] _), (_, Cl [_] _)]) hf _ => ?_)
      | refine a_store (i := 3) rfl rfl rfl rfl rfl Ty.sz_26 rfl hp rfl (by first | decide | (simp; done) | (simp; omega)) (fun w3 (hp : Hp w3 [(_, Cl [_, _, _, _, _] _), _, _, (_, Cl [_, _, _, _, _, _, _, _, _] _), (_, Cl [_] _), (_, Cl [_] _)]) hf _ => ?_)
      | refine a_store (i := 4) rfl rfl rfl rfl rfl Ty.sz_26 rfl hp rfl (by first | decide | (simp; done) | (simp; omega)) (fun w3 (hp : Hp w3 [(_, Cl [_, _, _, _, _] _), _, _, (_, Cl [_, _, _, _, _, _, _, _, _] _), (_, Cl [_] _), (_, Cl [_] _)]) hf _ => ?_)
      | refine a_store (i := 5) rfl rfl rfl rfl rfl Ty.sz_26 rfl hp rfl (by first | decide | (simp; done) | (simp; omega)) (fun w3 (hp : Hp w3 [(_, Cl [_, _, _, _, _] _), _, _, (_, Cl [_, _, _, _, _, _, _, _, _] _), (_, Cl [_] _), (_, Cl [_] _)]) hf _ => ?_)
    have hF := hF.step hf (by intro y hy; simp only [List.mem_cons, List.not_mem_nil, or_false] at hy; subst hy; first | (exact Or.inr (by omega)) | (exact Or.inl (by simp)))
    refine Ls_nil (Th_n (hK6 _ _ ?_))
    first
      | refine Wp_ret (Ib_r (Th_r (Fq_ret (ResN1 rfl (rvp (i := 0) rfl Ty.pl_26 hp rfl rfl)) ?_)))
      | refine Wp_ret (Ib_r (Th_r (Fq_ret (ResN1 rfl (rvp (i := 1) rfl Ty.pl_26 hp rfl rfl)) ?_)))
      | refine Wp_ret (Ib_r (Th_r (Fq_ret (ResN1 rfl (rvp (i := 2) rfl Ty.pl_26 hp rfl rfl)) ?_)))
      | refine Wp_ret (Ib_r (Th_r (Fq_ret (ResN1 rfl (rvp (i := 3) rfl Ty.pl_26 hp rfl rfl)) ?_)))
      | refine Wp_ret (Ib_r (Th_r (Fq_ret (ResN1 rfl (rvp (i := 4) rfl Ty.pl_26 hp rfl rfl)) ?_)))
      | refine Wp_ret (Ib_r (Th_r (Fq_ret (ResN1 rfl (rvp (i := 5) rfl Ty.pl_26 hp rfl rfl)) ?_)))
    have e0 : appE J s = 8 := by unfold appE; rw [if_pos (by omega)]
    refine ⟨by rw [e0], ?_⟩
    rw [appD, appJ, e0]
    exact jmod hF (hp.picks [0, 1, 2, 3] (by decide))
  · refine Ls_y (wtd0 rfl) rfl rfl (y_assign rfl rfl) ?_
    refine Ls_nil (Th_n (hK5 _ _ ?_))
    refine Wp_cond_f rfl ?_
    refine Wp_seq fun K7 hK7 => ?_
    refine Wp_region ?_
    refine Ls_y (wtd0 rfl) rfl rfl (y_move rfl rfl) ?_
    first
      | refine Ls_y (wtd0 rfl) rfl rfl (y_load (i := 0) rfl rfl Ty.pl_29 (fun _ e => e ▸ hp) rfl rfl) ?_
      | refine Ls_y (wtd0 rfl) rfl rfl (y_load (i := 1) rfl rfl Ty.pl_29 (fun _ e => e ▸ hp) rfl rfl) ?_
      | refine Ls_y (wtd0 rfl) rfl rfl (y_load (i := 2) rfl rfl Ty.pl_29 (fun _ e => e ▸ hp) rfl rfl) ?_
      | refine Ls_y (wtd0 rfl) rfl rfl (y_load (i := 3) rfl rfl Ty.pl_29 (fun _ e => e ▸ hp) rfl rfl) ?_
      | refine Ls_y (wtd0 rfl) rfl rfl (y_load (i := 4) rfl rfl Ty.pl_29 (fun _ e => e ▸ hp) rfl rfl) ?_
      | refine Ls_y (wtd0 rfl) rfl rfl (y_load (i := 5) rfl rfl Ty.pl_29 (fun _ e => e ▸ hp) rfl rfl) ?_
    refine Ls_a (wtd0 rfl) ?_
    refine a_call rfl rfl rfl rfl (jroom_ok gj p.gd J _ (hp.picks [3] (by decide)) hJ) (fun v wr ⟨hv, hf⟩ => ?_)
    subst hv
    have hp := hp.keep0 hf
    have hF := hF.step0 hf
    refine Ls_y (wtd0 rfl) rfl rfl (y_gt rfl rfl rfl) ?_
    refine Ls_bool 26 rfl (fun hr => ?_) (fun hr => ?_)
    all_goals try simp only [decide_eq_true_eq, decide_eq_false_iff_not, beq_iff_eq, bne_iff_ne, ne_eq, beq_eq_false_iff_ne, bne_eq_false_iff_eq, Bool.not_eq_true, Bool.not_eq_false] at hr
    · refine Ls_y (wtd0 rfl) rfl rfl (y_assign rfl rfl) ?_
      refine Ls_nil (Th_n (hK7 _ _ ?_))
      refine Wp_cond_t rfl ?_
      refine Wp_seq fun K8 hK8 => ?_
      refine Wp_region ?_
      refine Ls_a (wtd0 rfl) ?_
      first
        | refine a_store (i := 0) rfl rfl rfl rfl rfl Ty.sz_26 rfl hp rfl (by first | decide | (simp; done) | (simp; omega)) (fun w3 (hp : Hp w3 [(_, Cl [_, _, _, _, _] _), _, _, (_, Cl [_, _, _, _, _, _, _, _, _] _), (_, Cl [_] _), (_, Cl [_] _)]) hf _ => ?_)
        | refine a_store (i := 1) rfl rfl rfl rfl rfl Ty.sz_26 rfl hp rfl (by first | decide | (simp; done) | (simp; omega)) (fun w3 (hp : Hp w3 [(_, Cl [_, _, _, _, _] _), _, _, (_, Cl [_, _, _, _, _, _, _, _, _] _), (_, Cl [_] _), (_, Cl [_] _)]) hf _ => ?_)
        | refine a_store (i := 2) rfl rfl rfl rfl rfl Ty.sz_26 rfl hp rfl (by first | decide | (simp; done) | (simp; omega)) (fun w3 (hp : Hp w3 [(_, Cl [_, _, _, _, _] _), _, _, (_, Cl [_, _, _, _, _, _, _, _, _] _), (_, Cl [_] _), (_, Cl [_] _)]) hf _ => ?_)
        | refine a_store (i := 3) rfl rfl rfl rfl rfl Ty.sz_26 rfl hp rfl (by first | decide | (simp; done) | (simp; omega)) (fun w3 (hp : Hp w3 [(_, Cl [_, _, _, _, _] _), _, _, (_, Cl [_, _, _, _, _, _, _, _, _] _), (_, Cl [_] _), (_, Cl [_] _)]) hf _ => ?_)
        | refine a_store (i := 4) rfl rfl rfl rfl rfl Ty.sz_26 rfl hp rfl (by first | decide | (simp; done) | (simp; omega)) (fun w3 (hp : Hp w3 [(_, Cl [_, _, _, _, _] _), _, _, (_, Cl [_, _, _, _, _, _, _, _, _] _), (_, Cl [_] _), (_, Cl [_] _)]) hf _ => ?_)
        | refine a_store (i := 5) rfl rfl rfl rfl rfl Ty.sz_26 rfl hp rfl (by first | decide | (simp; done) | (simp; omega)) (fun w3 (hp : Hp w3 [(_, Cl [_, _, _, _, _] _), _, _, (_, Cl [_, _, _, _, _, _, _, _, _] _), (_, Cl [_] _), (_, Cl [_] _)]) hf _ => ?_)
      have hF := hF.step hf (by intro y hy; simp only [List.mem_cons, List.not_mem_nil, or_false] at hy; subst hy; first | (exact Or.inr (by omega)) | (exact Or.inl (by simp)))
      refine Ls_nil (Th_n (hK8 _ _ ?_))
      first
        | refine Wp_ret (Ib_r (Th_r (Fq_ret (ResN1 rfl (rvp (i := 0) rfl Ty.pl_26 hp rfl rfl)) ?_)))
        | refine Wp_ret (Ib_r (Th_r (Fq_ret (ResN1 rfl (rvp (i := 1) rfl Ty.pl_26 hp rfl rfl)) ?_)))
        | refine Wp_ret (Ib_r (Th_r (Fq_ret (ResN1 rfl (rvp (i := 2) rfl Ty.pl_26 hp rfl rfl)) ?_)))
        | refine Wp_ret (Ib_r (Th_r (Fq_ret (ResN1 rfl (rvp (i := 3) rfl Ty.pl_26 hp rfl rfl)) ?_)))
        | refine Wp_ret (Ib_r (Th_r (Fq_ret (ResN1 rfl (rvp (i := 4) rfl Ty.pl_26 hp rfl rfl)) ?_)))
        | refine Wp_ret (Ib_r (Th_r (Fq_ret (ResN1 rfl (rvp (i := 5) rfl Ty.pl_26 hp rfl rfl)) ?_)))
      have e0 : appE J s = 4 := by unfold appE; rw [if_neg (by omega), if_pos (by omega)]
      refine ⟨by rw [e0], ?_⟩
      rw [appD, appJ, e0]
      exact jmod hF (hp.picks [0, 1, 2, 3] (by decide))
    · refine Ls_y (wtd0 rfl) rfl rfl (y_assign rfl rfl) ?_
      refine Ls_nil (Th_n (hK7 _ _ ?_))
      refine Wp_cond_f rfl ?_
      refine Wp_seq fun K9 hK9 => ?_
      refine Wp_region ?_
      first
        | refine Ls_y (wtd0 rfl) rfl rfl (y_load (i := 0) rfl rfl Ty.pl_29 (fun _ e => e ▸ hp) rfl rfl) ?_
        | refine Ls_y (wtd0 rfl) rfl rfl (y_load (i := 1) rfl rfl Ty.pl_29 (fun _ e => e ▸ hp) rfl rfl) ?_
        | refine Ls_y (wtd0 rfl) rfl rfl (y_load (i := 2) rfl rfl Ty.pl_29 (fun _ e => e ▸ hp) rfl rfl) ?_
        | refine Ls_y (wtd0 rfl) rfl rfl (y_load (i := 3) rfl rfl Ty.pl_29 (fun _ e => e ▸ hp) rfl rfl) ?_
        | refine Ls_y (wtd0 rfl) rfl rfl (y_load (i := 4) rfl rfl Ty.pl_29 (fun _ e => e ▸ hp) rfl rfl) ?_
        | refine Ls_y (wtd0 rfl) rfl rfl (y_load (i := 5) rfl rfl Ty.pl_29 (fun _ e => e ▸ hp) rfl rfl) ?_
      refine Ls_y (wtd0 rfl) rfl rfl (y_nil rfl rfl) ?_
      refine Ls_y (wtd0 rfl) rfl rfl (y_fld rfl rfl Ty.fo_53_6) ?_
      first
        | refine Ls_y (wtd0 rfl) rfl rfl (y_load (i := 0) rfl rfl Ty.pl_32 (fun _ e => e ▸ hp) rfl rfl) ?_
        | refine Ls_y (wtd0 rfl) rfl rfl (y_load (i := 1) rfl rfl Ty.pl_32 (fun _ e => e ▸ hp) rfl rfl) ?_
        | refine Ls_y (wtd0 rfl) rfl rfl (y_load (i := 2) rfl rfl Ty.pl_32 (fun _ e => e ▸ hp) rfl rfl) ?_
        | refine Ls_y (wtd0 rfl) rfl rfl (y_load (i := 3) rfl rfl Ty.pl_32 (fun _ e => e ▸ hp) rfl rfl) ?_
        | refine Ls_y (wtd0 rfl) rfl rfl (y_load (i := 4) rfl rfl Ty.pl_32 (fun _ e => e ▸ hp) rfl rfl) ?_
        | refine Ls_y (wtd0 rfl) rfl rfl (y_load (i := 5) rfl rfl Ty.pl_32 (fun _ e => e ▸ hp) rfl rfl) ?_
      first
        | refine Ls_y (wtd0 rfl) rfl rfl (y_cvi rfl rfl Try.underlying32 Try.underlying24 (wf_u64 (by omega))) ?_
        | refine Ls_y (wtd0 rfl) rfl rfl (y_cvi rfl rfl Try.underlying32 Try.underlying24 wm_u64) ?_
      refine Ls_y (wtd0 rfl) rfl rfl (y_move rfl rfl) ?_
      first
        | refine Ls_y (wtd0 rfl) rfl rfl (y_cvi rfl rfl Try.underlying3 Try.underlying24 (wf_u64 (by omega))) ?_
        | refine Ls_y (wtd0 rfl) rfl rfl (y_cvi rfl rfl Try.underlying3 Try.underlying24 wm_u64) ?_
      first
        | refine Ls_y (wtd0 rfl) rfl rfl (y_add rfl rfl rfl (wf_u64 (by omega))) ?_
        | refine Ls_y (wtd0 rfl) rfl rfl (y_add rfl rfl rfl rfl) ?_
      refine Ls_y (wtd0 rfl) rfl rfl (y_gtF rfl rfl rfl (by omega)) ?_
      refine Ls_y (wtd0 rfl) rfl rfl (y_assign rfl rfl) ?_
      refine Ls_nil (Th_n (hK9 _ _ ?_))
      refine Wp_cond_f rfl ?_
      refine Wp_skip (Ib_n (Th_n (hK3 _ _ ?_)))
      refine Wf_seq ?_
      refine Wf_seq ?_
      refine Wf_x (fun K10 hK10 => ?_)
      refine Wp_region ?_
      refine Ls_y (wtd0 rfl) rfl rfl (y_move rfl rfl) ?_
      refine Ls_a (wtd0 rfl) ?_
      refine a_call rfl rfl rfl rfl (jcells_ok s _) (fun v wc2 ⟨gs, hv, hN⟩ => ?_)
      subst hv
      have hp : Hp wc2 [(_, Cl [_, _, _, _, _] _), _, _, (_, Cl [_, _, _, _, _, _, _, _, _] _), (_, Cl [_] _), (_, Cl [_] _), (_, Cl [_] _)] := hp.add hN
      have hgs := Nat.le_trans hF.size (hN.nw gs (by simp [keys]))
      have hF := hF.step0 hN.fr
      refine Ls_nil (Th_n (hK10 _ _ ?_))
      refine Wf_rf rfl Ty.en_44 (fun c Dm l wL hc1 hc2 hc3 htm hF0 hDn hln hpush => ?_)
      have e0 : appE J s = 0 := by unfold appE; rw [if_neg (by omega), if_neg (by omega)]
      have hl0 : w.heap.size ≤ l := Nat.le_trans hF.size hln
      have hd0 : w.heap.size ≤ Dm := Nat.le_trans hF.size hDn
      have hp : Hp wL [(_, Cl [_, _, _, _, _] _), _, _, (_, Cl [_, _, _, _, _, _, _, _, _] _), (_, Cl [_] _), (_, Cl [_] _), (_, Cl [_] _), _, _] := hpush _ hp
      have hF := hF.step0 hF0
      obtain ⟨J0, hJ0⟩ : ∃ J0 : Nat → World → Prop, J0 = fun k W => Hp W (jH gj p (wrN D J s k) J ++ [(some g1, Cl [.pointer (some ⟨gj, 0, none⟩)] 29), (some g2, Cl [.int .i64 0] 26), (some Dm, .deferred (some [])), (some l, Lr c .ready none)]) ∧ Fr [p.gd, p.gn, p.gl, gj] w W := ⟨_, rfl⟩
      refine (jcells1_ok l gs s wL (hp.picks [6] (by decide)) (by omega) [p.gd, p.gn, p.gl, gj, l] ?_ J0 (fun _ => False) ?_ ?_ ?_).mono (fun _ W' hq => ?_)
      · have a0 := hp.lt (i := 0) rfl
        have a1 := hp.lt (i := 1) rfl
        have a2 := hp.lt (i := 2) rfl
        have a3 := hp.lt (i := 3) rfl
        have a8 := hp.lt (i := 8) rfl
        have b0 := hp.ne (i := 0) (j := 6) rfl rfl (by decide)
        have b1 := hp.ne (i := 1) (j := 6) rfl rfl (by decide)
        have b2 := hp.ne (i := 2) (j := 6) rfl rfl (by decide)
        have b3 := hp.ne (i := 3) (j := 6) rfl rfl (by decide)
        have b8 := hp.ne (i := 8) (j := 6) rfl rfl (by decide)
        intro x hx
        simp only [List.mem_cons, List.not_mem_nil, or_false] at hx
        rcases hx with rfl | rfl | rfl | rfl | rfl <;> constructor <;> assumption
      · have b0 := hp.ne (i := 0) (j := 6) rfl rfl (by decide)
        have b1 := hp.ne (i := 1) (j := 6) rfl rfl (by decide)
        have b2 := hp.ne (i := 2) (j := 6) rfl rfl (by decide)
        have b3 := hp.ne (i := 3) (j := 6) rfl rfl (by decide)
        have b4 := hp.ne (i := 4) (j := 6) rfl rfl (by decide)
        have b5 := hp.ne (i := 5) (j := 6) rfl rfl (by decide)
        have b7 := hp.ne (i := 7) (j := 6) rfl rfl (by decide)
        have b8 := hp.ne (i := 8) (j := 6) rfl rfl (by decide)
        intro k W W2 hj hf
        rw [hJ0] at hj ⊢
        obtain ⟨hq, hG⟩ := hj
        exact ⟨hq.keep hf (by intro y hy; simp [keys, jH, dkH] at hy ⊢; rcases hy with rfl | rfl | rfl | rfl | rfl | rfl | rfl | rfl <;> assumption), hG.step hf (by simp [hgs])⟩
      · intro k W hk hW hj
        rw [hJ0] at hj
        obtain ⟨hp, hG⟩ := hj
        have hp : Hp W [(_, Cl [_, _, _, _, _] _), _, _, (_, Cl [_, _, _, _, _, _, _, _, _] _), (_, Cl [_] _), (_, Cl [_] _), _, _] := hp
        have hF := Fr.refl [p.gd, p.gn, p.gl, gj, l] W
        refine yieldsTo [39, 40] hc1 rfl rfl (hp.at (i := 7) rfl) htm (fun [inst : Dfs] => ?_)
        rw [hc2]
        dsimp only [parEnv]
        obtain ⟨hDk, hlen⟩ := wrN_calm (s := s) hD hJ hb k
        have hg := hJ.gen
        have hfl := flagN_lt s k
        have hm := Nat.mod_lt (J.next + k) (show 0 < J.size by have := hJ.size1; omega)
        have hJb := hJ.base
        refine Wp_seq fun K11 hK11 => ?_
        refine Wp_region ?_
        refine Ls_y (wtd0 rfl) rfl rfl (y_assign rfl rfl) ?_
        refine Ls_nil (Th_n (hK11 _ _ ?_))
        refine Wp_region ?_
        refine Ls_a (wtd0 rfl) ?_
        refine a_alloc rfl rfl rfl Ty.zc_60 hp (fun g3 w3 (hp : Hp w3 [(_, Cl [_, _, _, _, _] _), _, _, (_, Cl [_, _, _, _, _, _, _, _, _] _), (_, Cl [_] _), (_, Cl [_] _), _, _, (_, Cl [_, _, _, _] _)]) hf hg3 => ?_)
        have hg3 := Nat.le_trans hF.size hg3
        have hF := hF.step0 hf
        refine Ls_a (wtd0 rfl) ?_
        first
          | refine a_storew (i := 0) rfl rfl rfl rfl Ty.sz_60 rfl (by first | assumption | (simp [Value.oneCell']; done)) hp rfl rfl (fun w4 (hp : Hp w4 [(_, Cl [_, _, _, _, _] _), _, _, (_, Cl [_, _, _, _, _, _, _, _, _] _), (_, Cl [_] _), (_, Cl [_] _), _, _, (_, Cl [_, _, _, _] _)]) hf _ => ?_)
          | refine a_storew (i := 1) rfl rfl rfl rfl Ty.sz_60 rfl (by first | assumption | (simp [Value.oneCell']; done)) hp rfl rfl (fun w4 (hp : Hp w4 [(_, Cl [_, _, _, _, _] _), _, _, (_, Cl [_, _, _, _, _, _, _, _, _] _), (_, Cl [_] _), (_, Cl [_] _), _, _, (_, Cl [_, _, _, _] _)]) hf _ => ?_)
          | refine a_storew (i := 2) rfl rfl rfl rfl Ty.sz_60 rfl (by first | assumption | (simp [Value.oneCell']; done)) hp rfl rfl (fun w4 (hp : Hp w4 [(_, Cl [_, _, _, _, _] _), _, _, (_, Cl [_, _, _, _, _, _, _, _, _] _), (_, Cl [_] _), (_, Cl [_] _), _, _, (_, Cl [_, _, _, _] _)]) hf _ => ?_)
          | refine a_storew (i := 3) rfl rfl rfl rfl Ty.sz_60 rfl (by first | assumption | (simp [Value.oneCell']; done)) hp rfl rfl (fun w4 (hp : Hp w4 [(_, Cl [_, _, _, _, _] _), _, _, (_, Cl [_, _, _, _, _, _, _, _, _] _), (_, Cl [_] _), (_, Cl [_] _), _, _, (_, Cl [_, _, _, _] _)]) hf _ => ?_)
          | refine a_storew (i := 4) rfl rfl rfl rfl Ty.sz_60 rfl (by first | assumption | (simp [Value.oneCell']; done)) hp rfl rfl (fun w4 (hp : Hp w4 [(_, Cl [_, _, _, _, _] _), _, _, (_, Cl [_, _, _, _, _, _, _, _, _] _), (_, Cl [_] _), (_, Cl [_] _), _, _, (_, Cl [_, _, _, _] _)]) hf _ => ?_)
          | refine a_storew (i := 5) rfl rfl rfl rfl Ty.sz_60 rfl (by first | assumption | (simp [Value.oneCell']; done)) hp rfl rfl (fun w4 (hp : Hp w4 [(_, Cl [_, _, _, _, _] _), _, _, (_, Cl [_, _, _, _, _, _, _, _, _] _), (_, Cl [_] _), (_, Cl [_] _), _, _, (_, Cl [_, _, _, _] _)]) hf _ => ?_)
          | refine a_storew (i := 6) rfl rfl rfl rfl Ty.sz_60 rfl (by first | assumption | (simp [Value.oneCell']; done)) hp rfl rfl (fun w4 (hp : Hp w4 [(_, Cl [_, _, _, _, _] _), _, _, (_, Cl [_, _, _, _, _, _, _, _, _] _), (_, Cl [_] _), (_, Cl [_] _), _, _, (_, Cl [_, _, _, _] _)]) hf _ => ?_)
          | refine a_storew (i := 7) rfl rfl rfl rfl Ty.sz_60 rfl (by first | assumption | (simp [Value.oneCell']; done)) hp rfl rfl (fun w4 (hp : Hp w4 [(_, Cl [_, _, _, _, _] _), _, _, (_, Cl [_, _, _, _, _, _, _, _, _] _), (_, Cl [_] _), (_, Cl [_] _), _, _, (_, Cl [_, _, _, _] _)]) hf _ => ?_)
          | refine a_storew (i := 8) rfl rfl rfl rfl Ty.sz_60 rfl (by first | assumption | (simp [Value.oneCell']; done)) hp rfl rfl (fun w4 (hp : Hp w4 [(_, Cl [_, _, _, _, _] _), _, _, (_, Cl [_, _, _, _, _, _, _, _, _] _), (_, Cl [_] _), (_, Cl [_] _), _, _, (_, Cl [_, _, _, _] _)]) hf _ => ?_)
        have hF := hF.step hf (by intro y hy; simp only [List.mem_cons, List.not_mem_nil, or_false] at hy; subst hy; first | (exact Or.inr (by omega)) | (exact Or.inl (by simp)))
        refine Ls_nil (Th_n (⟨_, 7, hp, rfl, fun WB hp hf => ?_⟩))
        have hp : Hp WB [(_, Cl [_, _, _, _, _] _), _, _, (_, Cl [_, _, _, _, _, _, _, _, _] _), (_, Cl [_] _), (_, Cl [_] _), _, _, (_, Cl [_, _, _, _] _)] := hp
        have hF := hF.step hf (by simp)
        rw [hc3]
        refine Wp_block ?_
        refine Wp_seq fun K12 hK12 => ?_
        refine Wp_plan (fun W => Hp W (pickL (heapOf hp) [3, 4])) [(true, 0), (true, 1), (true, 2), (true, 3), (true, 4), (true, 5), (true, 6), (true, 7), (true, 8), (true, 9), (true, 10), (true, 11), (false, 12), (true, 13), (false, 14)] Ty.mx_0 (by kernel_rfl) (by kernel_rfl) rfl ((hp.picks [3, 4] (by decide)).drew) ?_
        have hp := hp.drew
        have hF := hF.step0 (Fr.drew _)
        first
          | refine Pl_y rfl (wtd0 rfl) rfl rfl (y_load (i := 0) rfl rfl Ty.pl_29 (fun _ h => h) rfl rfl) ?_
          | refine Pl_y rfl (wtd0 rfl) rfl rfl (y_load (i := 1) rfl rfl Ty.pl_29 (fun _ h => h) rfl rfl) ?_
        refine Pl_y rfl (wtd0 rfl) rfl rfl (y_nil rfl rfl) ?_
        refine Pl_y rfl (wtd0 rfl) rfl rfl (y_fld rfl rfl Ty.fo_53_3) ?_
        first
          | refine Pl_y rfl (wtd0 rfl) rfl rfl (y_load (i := 0) rfl rfl Ty.pl_33 (fun _ h => h) rfl rfl) ?_
          | refine Pl_y rfl (wtd0 rfl) rfl rfl (y_load (i := 1) rfl rfl Ty.pl_33 (fun _ h => h) rfl rfl) ?_
        first
          | refine Pl_y rfl (wtd0 rfl) rfl rfl (y_load (i := 0) rfl rfl Ty.pl_29 (fun _ h => h) rfl rfl) ?_
          | refine Pl_y rfl (wtd0 rfl) rfl rfl (y_load (i := 1) rfl rfl Ty.pl_29 (fun _ h => h) rfl rfl) ?_
        refine Pl_y rfl (wtd0 rfl) rfl rfl (y_nil rfl rfl) ?_
        refine Pl_y rfl (wtd0 rfl) rfl rfl (y_fld rfl rfl Ty.fo_53_6) ?_
        first
          | refine Pl_y rfl (wtd0 rfl) rfl rfl (y_load (i := 0) rfl rfl Ty.pl_32 (fun _ h => h) rfl rfl) ?_
          | refine Pl_y rfl (wtd0 rfl) rfl rfl (y_load (i := 1) rfl rfl Ty.pl_32 (fun _ h => h) rfl rfl) ?_
        refine Pl_y rfl (wtd0 rfl) rfl rfl (y_move rfl rfl) ?_
        first
          | refine Pl_y rfl (wtd0 rfl) rfl rfl (y_cvi rfl rfl Try.underlying3 Try.underlying32 (wf_u32 (by omega))) ?_
          | refine Pl_y rfl (wtd0 rfl) rfl rfl (y_cvi rfl rfl Try.underlying3 Try.underlying32 wm_u32) ?_
        first
          | refine Pl_y rfl (wtd0 rfl) rfl rfl (y_add rfl rfl rfl (wf_u32 (by omega))) ?_
          | refine Pl_y rfl (wtd0 rfl) rfl rfl (y_add rfl rfl rfl rfl) ?_
        refine Pl_y rfl (wtd0 rfl) rfl rfl (y_fld rfl rfl Ty.fo_60_0) ?_
        refine Pl_a rfl (wtd0 rfl) (by rfl) ?_
        first
          | refine a_store (i := 0) rfl rfl rfl rfl rfl Ty.sz_33 rfl hp rfl (by first | decide | (simp; done) | (simp; omega)) (fun w5 (hp : Hp w5 [(_, Cl [_, _, _, _, _] _), _, _, (_, Cl [_, _, _, _, _, _, _, _, _] _), (_, Cl [_] _), (_, Cl [_] _), _, _, (_, Cl [_, _, _, _] _)]) hf _ => ?_)
          | refine a_store (i := 1) rfl rfl rfl rfl rfl Ty.sz_33 rfl hp rfl (by first | decide | (simp; done) | (simp; omega)) (fun w5 (hp : Hp w5 [(_, Cl [_, _, _, _, _] _), _, _, (_, Cl [_, _, _, _, _, _, _, _, _] _), (_, Cl [_] _), (_, Cl [_] _), _, _, (_, Cl [_, _, _, _] _)]) hf _ => ?_)
          | refine a_store (i := 2) rfl rfl rfl rfl rfl Ty.sz_33 rfl hp rfl (by first | decide | (simp; done) | (simp; omega)) (fun w5 (hp : Hp w5 [(_, Cl [_, _, _, _, _] _), _, _, (_, Cl [_, _, _, _, _, _, _, _, _] _), (_, Cl [_] _), (_, Cl [_] _), _, _, (_, Cl [_, _, _, _] _)]) hf _ => ?_)
          | refine a_store (i := 3) rfl rfl rfl rfl rfl Ty.sz_33 rfl hp rfl (by first | decide | (simp; done) | (simp; omega)) (fun w5 (hp : Hp w5 [(_, Cl [_, _, _, _, _] _), _, _, (_, Cl [_, _, _, _, _, _, _, _, _] _), (_, Cl [_] _), (_, Cl [_] _), _, _, (_, Cl [_, _, _, _] _)]) hf _ => ?_)
          | refine a_store (i := 4) rfl rfl rfl rfl rfl Ty.sz_33 rfl hp rfl (by first | decide | (simp; done) | (simp; omega)) (fun w5 (hp : Hp w5 [(_, Cl [_, _, _, _, _] _), _, _, (_, Cl [_, _, _, _, _, _, _, _, _] _), (_, Cl [_] _), (_, Cl [_] _), _, _, (_, Cl [_, _, _, _] _)]) hf _ => ?_)
          | refine a_store (i := 5) rfl rfl rfl rfl rfl Ty.sz_33 rfl hp rfl (by first | decide | (simp; done) | (simp; omega)) (fun w5 (hp : Hp w5 [(_, Cl [_, _, _, _, _] _), _, _, (_, Cl [_, _, _, _, _, _, _, _, _] _), (_, Cl [_] _), (_, Cl [_] _), _, _, (_, Cl [_, _, _, _] _)]) hf _ => ?_)
          | refine a_store (i := 6) rfl rfl rfl rfl rfl Ty.sz_33 rfl hp rfl (by first | decide | (simp; done) | (simp; omega)) (fun w5 (hp : Hp w5 [(_, Cl [_, _, _, _, _] _), _, _, (_, Cl [_, _, _, _, _, _, _, _, _] _), (_, Cl [_] _), (_, Cl [_] _), _, _, (_, Cl [_, _, _, _] _)]) hf _ => ?_)
          | refine a_store (i := 7) rfl rfl rfl rfl rfl Ty.sz_33 rfl hp rfl (by first | decide | (simp; done) | (simp; omega)) (fun w5 (hp : Hp w5 [(_, Cl [_, _, _, _, _] _), _, _, (_, Cl [_, _, _, _, _, _, _, _, _] _), (_, Cl [_] _), (_, Cl [_] _), _, _, (_, Cl [_, _, _, _] _)]) hf _ => ?_)
          | refine a_store (i := 8) rfl rfl rfl rfl rfl Ty.sz_33 rfl hp rfl (by first | decide | (simp; done) | (simp; omega)) (fun w5 (hp : Hp w5 [(_, Cl [_, _, _, _, _] _), _, _, (_, Cl [_, _, _, _, _, _, _, _, _] _), (_, Cl [_] _), (_, Cl [_] _), _, _, (_, Cl [_, _, _, _] _)]) hf _ => ?_)
        have hF := hF.step hf (by intro y hy; simp only [List.mem_cons, List.not_mem_nil, or_false] at hy; subst hy; first | (exact Or.inr (by omega)) | (exact Or.inl (by simp)))
        refine ⟨hp.picks [3, 4] (by decide), ?_⟩
        refine Pl_y rfl (wtd0 rfl) rfl rfl (y_fld rfl rfl Ty.fo_60_1) ?_
        refine Pl_a rfl (wtd0 rfl) (by rfl) ?_
        first
          | refine a_store (i := 0) rfl rfl rfl rfl rfl Ty.sz_32 rfl hp rfl (by first | decide | (simp; done) | (simp; omega)) (fun w6 (hp : Hp w6 [(_, Cl [_, _, _, _, _] _), _, _, (_, Cl [_, _, _, _, _, _, _, _, _] _), (_, Cl [_] _), (_, Cl [_] _), _, _, (_, Cl [_, _, _, _] _)]) hf _ => ?_)
          | refine a_store (i := 1) rfl rfl rfl rfl rfl Ty.sz_32 rfl hp rfl (by first | decide | (simp; done) | (simp; omega)) (fun w6 (hp : Hp w6 [(_, Cl [_, _, _, _, _] _), _, _, (_, Cl [_, _, _, _, _, _, _, _, _] _), (_, Cl [_] _), (_, Cl [_] _), _, _, (_, Cl [_, _, _, _] _)]) hf _ => ?_)
          | refine a_store (i := 2) rfl rfl rfl rfl rfl Ty.sz_32 rfl hp rfl (by first | decide | (simp; done) | (simp; omega)) (fun w6 (hp : Hp w6 [(_, Cl [_, _, _, _, _] _), _, _, (_, Cl [_, _, _, _, _, _, _, _, _] _), (_, Cl [_] _), (_, Cl [_] _), _, _, (_, Cl [_, _, _, _] _)]) hf _ => ?_)
          | refine a_store (i := 3) rfl rfl rfl rfl rfl Ty.sz_32 rfl hp rfl (by first | decide | (simp; done) | (simp; omega)) (fun w6 (hp : Hp w6 [(_, Cl [_, _, _, _, _] _), _, _, (_, Cl [_, _, _, _, _, _, _, _, _] _), (_, Cl [_] _), (_, Cl [_] _), _, _, (_, Cl [_, _, _, _] _)]) hf _ => ?_)
          | refine a_store (i := 4) rfl rfl rfl rfl rfl Ty.sz_32 rfl hp rfl (by first | decide | (simp; done) | (simp; omega)) (fun w6 (hp : Hp w6 [(_, Cl [_, _, _, _, _] _), _, _, (_, Cl [_, _, _, _, _, _, _, _, _] _), (_, Cl [_] _), (_, Cl [_] _), _, _, (_, Cl [_, _, _, _] _)]) hf _ => ?_)
          | refine a_store (i := 5) rfl rfl rfl rfl rfl Ty.sz_32 rfl hp rfl (by first | decide | (simp; done) | (simp; omega)) (fun w6 (hp : Hp w6 [(_, Cl [_, _, _, _, _] _), _, _, (_, Cl [_, _, _, _, _, _, _, _, _] _), (_, Cl [_] _), (_, Cl [_] _), _, _, (_, Cl [_, _, _, _] _)]) hf _ => ?_)
          | refine a_store (i := 6) rfl rfl rfl rfl rfl Ty.sz_32 rfl hp rfl (by first | decide | (simp; done) | (simp; omega)) (fun w6 (hp : Hp w6 [(_, Cl [_, _, _, _, _] _), _, _, (_, Cl [_, _, _, _, _, _, _, _, _] _), (_, Cl [_] _), (_, Cl [_] _), _, _, (_, Cl [_, _, _, _] _)]) hf _ => ?_)
          | refine a_store (i := 7) rfl rfl rfl rfl rfl Ty.sz_32 rfl hp rfl (by first | decide | (simp; done) | (simp; omega)) (fun w6 (hp : Hp w6 [(_, Cl [_, _, _, _, _] _), _, _, (_, Cl [_, _, _, _, _, _, _, _, _] _), (_, Cl [_] _), (_, Cl [_] _), _, _, (_, Cl [_, _, _, _] _)]) hf _ => ?_)
          | refine a_store (i := 8) rfl rfl rfl rfl rfl Ty.sz_32 rfl hp rfl (by first | decide | (simp; done) | (simp; omega)) (fun w6 (hp : Hp w6 [(_, Cl [_, _, _, _, _] _), _, _, (_, Cl [_, _, _, _, _, _, _, _, _] _), (_, Cl [_] _), (_, Cl [_] _), _, _, (_, Cl [_, _, _, _] _)]) hf _ => ?_)
        have hF := hF.step hf (by intro y hy; simp only [List.mem_cons, List.not_mem_nil, or_false] at hy; subst hy; first | (exact Or.inr (by omega)) | (exact Or.inl (by simp)))
        refine ⟨hp.picks [3, 4] (by decide), ?_⟩
        refine Pl_nil (Th_n (hK12 _ _ ?_))
        refine Wp_seq fun K13 hK13 => ?_
        refine Wp_region ?_
        first
          | refine Ls_y (wtd0 rfl) rfl rfl (y_loadw (i := 0) rfl rfl Ty.ag_60 (fun _ e => e ▸ hp) rfl rfl) ?_
          | refine Ls_y (wtd0 rfl) rfl rfl (y_loadw (i := 1) rfl rfl Ty.ag_60 (fun _ e => e ▸ hp) rfl rfl) ?_
          | refine Ls_y (wtd0 rfl) rfl rfl (y_loadw (i := 2) rfl rfl Ty.ag_60 (fun _ e => e ▸ hp) rfl rfl) ?_
          | refine Ls_y (wtd0 rfl) rfl rfl (y_loadw (i := 3) rfl rfl Ty.ag_60 (fun _ e => e ▸ hp) rfl rfl) ?_
          | refine Ls_y (wtd0 rfl) rfl rfl (y_loadw (i := 4) rfl rfl Ty.ag_60 (fun _ e => e ▸ hp) rfl rfl) ?_
          | refine Ls_y (wtd0 rfl) rfl rfl (y_loadw (i := 5) rfl rfl Ty.ag_60 (fun _ e => e ▸ hp) rfl rfl) ?_
          | refine Ls_y (wtd0 rfl) rfl rfl (y_loadw (i := 6) rfl rfl Ty.ag_60 (fun _ e => e ▸ hp) rfl rfl) ?_
          | refine Ls_y (wtd0 rfl) rfl rfl (y_loadw (i := 7) rfl rfl Ty.ag_60 (fun _ e => e ▸ hp) rfl rfl) ?_
          | refine Ls_y (wtd0 rfl) rfl rfl (y_loadw (i := 8) rfl rfl Ty.ag_60 (fun _ e => e ▸ hp) rfl rfl) ?_
        refine Ls_a (wtd0 rfl) ?_
        refine a_call rfl rfl rfl rfl (pack_ok J.gen ((J.next + k : Nat) : Int) (flagN s k : Int) (chunk s k) _ hg.1 hg.2 (by omega) (by omega) (by omega) (by omega)) (fun v w6 ⟨hv, hf⟩ => ?_)
        subst hv
        have hp := hp.keep0 hf
        have hF := hF.step0 hf
        refine Ls_y (wtd0 rfl) rfl rfl (y_move rfl rfl) ?_
        refine Ls_y (wtd0 rfl) rfl rfl (y_ext rfl rfl rfl) ?_
        refine Ls_y (wtd0 rfl) rfl rfl (y_ext rfl rfl rfl) ?_
        refine Ls_y (wtd0 rfl) rfl rfl (y_assign rfl rfl) ?_
        refine Ls_y (wtd0 rfl) rfl rfl (y_assign rfl rfl) ?_
        refine Ls_nil (Th_n (hK13 _ _ ?_))
        refine Wp_seq fun K14 hK14 => ?_
        refine Wp_plan (fun W => Hp W (pickL (heapOf hp) [3, 4, 8])) [(true, 0), (true, 1), (true, 2), (true, 3), (true, 4), (true, 5), (true, 6), (true, 7), (true, 9), (false, 8), (false, 10), (false, 11), (true, 12)] Ty.mx_0 (by kernel_rfl) (by kernel_rfl) rfl ((hp.picks [3, 4, 8] (by decide)).drew) ?_
        have hp := hp.drew
        have hF := hF.step0 (Fr.drew _)
        first
          | refine Pl_y rfl (wtd0 rfl) rfl rfl (y_load (i := 0) rfl rfl Ty.pl_29 (fun _ h => h) rfl rfl) ?_
          | refine Pl_y rfl (wtd0 rfl) rfl rfl (y_load (i := 1) rfl rfl Ty.pl_29 (fun _ h => h) rfl rfl) ?_
          | refine Pl_y rfl (wtd0 rfl) rfl rfl (y_load (i := 2) rfl rfl Ty.pl_29 (fun _ h => h) rfl rfl) ?_
        first
          | refine Pl_y rfl (wtd0 rfl) rfl rfl (y_load (i := 0) rfl rfl Ty.pl_29 (fun _ h => h) rfl rfl) ?_
          | refine Pl_y rfl (wtd0 rfl) rfl rfl (y_load (i := 1) rfl rfl Ty.pl_29 (fun _ h => h) rfl rfl) ?_
          | refine Pl_y rfl (wtd0 rfl) rfl rfl (y_load (i := 2) rfl rfl Ty.pl_29 (fun _ h => h) rfl rfl) ?_
        refine Pl_y rfl (wtd0 rfl) rfl rfl (y_nil rfl rfl) ?_
        refine Pl_y rfl (wtd0 rfl) rfl rfl (y_fld rfl rfl Ty.fo_53_0) ?_
        first
          | refine Pl_y rfl (wtd0 rfl) rfl rfl (y_load (i := 0) rfl rfl Ty.pl_25 (fun _ h => h) rfl rfl) ?_
          | refine Pl_y rfl (wtd0 rfl) rfl rfl (y_load (i := 1) rfl rfl Ty.pl_25 (fun _ h => h) rfl rfl) ?_
          | refine Pl_y rfl (wtd0 rfl) rfl rfl (y_load (i := 2) rfl rfl Ty.pl_25 (fun _ h => h) rfl rfl) ?_
        first
          | refine Pl_y rfl (wtd0 rfl) rfl rfl (y_load (i := 0) rfl rfl Ty.pl_29 (fun _ h => h) rfl rfl) ?_
          | refine Pl_y rfl (wtd0 rfl) rfl rfl (y_load (i := 1) rfl rfl Ty.pl_29 (fun _ h => h) rfl rfl) ?_
          | refine Pl_y rfl (wtd0 rfl) rfl rfl (y_load (i := 2) rfl rfl Ty.pl_29 (fun _ h => h) rfl rfl) ?_
        refine Pl_y rfl (wtd0 rfl) rfl rfl (y_fld rfl rfl Ty.fo_60_1) ?_
        first
          | refine Pl_y rfl (wtd0 rfl) rfl rfl (y_load (i := 0) rfl rfl Ty.pl_32 (fun _ h => h) rfl rfl) ?_
          | refine Pl_y rfl (wtd0 rfl) rfl rfl (y_load (i := 1) rfl rfl Ty.pl_32 (fun _ h => h) rfl rfl) ?_
          | refine Pl_y rfl (wtd0 rfl) rfl rfl (y_load (i := 2) rfl rfl Ty.pl_32 (fun _ h => h) rfl rfl) ?_
        refine Pl_y rfl (wtd0 rfl) rfl rfl (y_move rfl rfl) ?_
        refine Pl_a rfl (wtd0 rfl) (by rfl) ?_
        refine a_call rfl rfl rfl rfl (jplace_ok gj p.gd J _ (hp.picks [3] (by decide)) hJ.b (J.next + k) (by omega)) (fun v w7 ⟨hv, hf⟩ => ?_)
        subst hv
        have hp := hp.keep0 hf
        have hF := hF.step0 hf
        refine ⟨hp.picks [3, 4, 8] (by decide), ?_⟩
        refine Pl_a rfl (wtd0 rfl) (by rfl) ?_
        refine a_call rfl rfl rfl rfl (dwrite_m p (wrN D J s k) _ (hp.picks [0, 1, 2] (by decide)) hDk.ok ((J.base + (J.next + k) % J.size : Nat) : Int) (cellS J s k)) (fun v w8 ⟨hv, hM⟩ => ?_)
        rw [(hDk.write (i := J.base + (J.next + k) % J.size) (by omega) (s := cellS J s k) (packS_len64 _ _ _ _)).1] at hv
        subst hv
        have hp : Hp w8 [(_, Cl [_, _, _, _, _, _, _, _, _] _), (_, Cl [_] _), (_, Cl [_] _), _, _, (_, Cl [_, _, _, _] _), (_, Cl [_, _, _, _, _] _), _, _] := hp.call [3, 4, 5, 6, 7, 8] [0, 1, 2] (by decide) rfl hM
        have hF := hF.step hM.fr (by simp [keys, dkH])
        refine ⟨hp.picks [0, 1, 5] (by decide), ?_⟩
        refine Pl_a rfl (wtd0 rfl) (by rfl) ?_
        refine a_call rfl rfl rfl rfl (jfails_ok gj p.gd J _ (hp.picks [0] (by decide)) ho) (fun v w9 ⟨hv, hM⟩ => ?_)
        subst hv
        have hp : Hp w9 [(_, Cl [_] _), (_, Cl [_] _), _, _, (_, Cl [_, _, _, _] _), (_, Cl [_, _, _, _, _] _), _, _, (_, Cl [_, _, _, _, _, _, _, _, _] _)] := hp.call [1, 2, 3, 4, 5, 6, 7, 8] [0] (by decide) rfl hM
        have hF := hF.step hM.fr (by simp [keys])
        refine ⟨hp.picks [8, 0, 4] (by decide), ?_⟩
        refine Pl_y rfl (wtd0 rfl) rfl rfl (y_assign rfl rfl) ?_
        refine Pl_nil (Th_n (hK14 _ _ ?_))
        refine Wp_seq fun K15 hK15 => ?_
        refine Wp_region ?_
        refine Ls_y (wtd0 rfl) rfl rfl (y_move rfl rfl) ?_
        refine Ls_y (wtd0 rfl) rfl rfl (y_neF rfl rfl rfl (by omega)) ?_
        refine Ls_nil (Th_n (hK15 _ _ ?_))
        refine Wp_cond_f rfl ?_
        refine Wp_skip (Ib_n (Rd_n (i := 3) hp rfl (fun WE hp hf => ?_)))
        have hF := hF.step hf (by simp)
        rw [hJ0]
        exact ⟨⟨(hp.picks [5, 6, 7, 8, 0, 1, 2, 3] (by decide)), hG.step hF (by simp [hl0])⟩, hF⟩
      · rw [hJ0]
        exact ⟨hp.picks [0, 1, 2, 3, 4, 5, 7, 8] (by decide), hF⟩
      · have hq := hq.resolve_right id
        rw [hJ0] at hq
        obtain ⟨hp, hF⟩ := hq
        have hp : Hp W' [(_, Cl [_, _, _, _, _] _), _, _, (_, Cl [_, _, _, _, _, _, _, _, _] _), (_, Cl [_] _), (_, Cl [_] _), _, _] := hp
        refine .inl ⟨_, 7, hp, rfl, ?_⟩
        intro W2 hp hf inst
        have hp : Hp W2 [(_, Cl [_, _, _, _, _] _), _, _, (_, Cl [_, _, _, _, _, _, _, _, _] _), (_, Cl [_] _), (_, Cl [_] _), _, _] := hp
        have hF := hF.step hf (by simp [hl0])
        refine Wp_seq fun K16 hK16 => ?_
        refine Wp_region ?_
        first
          | refine Ls_y (wtd0 rfl) rfl rfl (y_load (i := 0) rfl rfl Ty.pl_29 (fun _ e => e ▸ hp) rfl rfl) ?_
          | refine Ls_y (wtd0 rfl) rfl rfl (y_load (i := 1) rfl rfl Ty.pl_29 (fun _ e => e ▸ hp) rfl rfl) ?_
          | refine Ls_y (wtd0 rfl) rfl rfl (y_load (i := 2) rfl rfl Ty.pl_29 (fun _ e => e ▸ hp) rfl rfl) ?_
          | refine Ls_y (wtd0 rfl) rfl rfl (y_load (i := 3) rfl rfl Ty.pl_29 (fun _ e => e ▸ hp) rfl rfl) ?_
          | refine Ls_y (wtd0 rfl) rfl rfl (y_load (i := 4) rfl rfl Ty.pl_29 (fun _ e => e ▸ hp) rfl rfl) ?_
          | refine Ls_y (wtd0 rfl) rfl rfl (y_load (i := 5) rfl rfl Ty.pl_29 (fun _ e => e ▸ hp) rfl rfl) ?_
          | refine Ls_y (wtd0 rfl) rfl rfl (y_load (i := 6) rfl rfl Ty.pl_29 (fun _ e => e ▸ hp) rfl rfl) ?_
          | refine Ls_y (wtd0 rfl) rfl rfl (y_load (i := 7) rfl rfl Ty.pl_29 (fun _ e => e ▸ hp) rfl rfl) ?_
        refine Ls_y (wtd0 rfl) rfl rfl (y_nil rfl rfl) ?_
        refine Ls_y (wtd0 rfl) rfl rfl (y_fld rfl rfl Ty.fo_53_6) ?_
        first
          | refine Ls_y (wtd0 rfl) rfl rfl (y_load (i := 0) rfl rfl Ty.pl_32 (fun _ e => e ▸ hp) rfl rfl) ?_
          | refine Ls_y (wtd0 rfl) rfl rfl (y_load (i := 1) rfl rfl Ty.pl_32 (fun _ e => e ▸ hp) rfl rfl) ?_
          | refine Ls_y (wtd0 rfl) rfl rfl (y_load (i := 2) rfl rfl Ty.pl_32 (fun _ e => e ▸ hp) rfl rfl) ?_
          | refine Ls_y (wtd0 rfl) rfl rfl (y_load (i := 3) rfl rfl Ty.pl_32 (fun _ e => e ▸ hp) rfl rfl) ?_
          | refine Ls_y (wtd0 rfl) rfl rfl (y_load (i := 4) rfl rfl Ty.pl_32 (fun _ e => e ▸ hp) rfl rfl) ?_
          | refine Ls_y (wtd0 rfl) rfl rfl (y_load (i := 5) rfl rfl Ty.pl_32 (fun _ e => e ▸ hp) rfl rfl) ?_
          | refine Ls_y (wtd0 rfl) rfl rfl (y_load (i := 6) rfl rfl Ty.pl_32 (fun _ e => e ▸ hp) rfl rfl) ?_
          | refine Ls_y (wtd0 rfl) rfl rfl (y_load (i := 7) rfl rfl Ty.pl_32 (fun _ e => e ▸ hp) rfl rfl) ?_
        refine Ls_y (wtd0 rfl) rfl rfl (y_move rfl rfl) ?_
        first
          | refine Ls_y (wtd0 rfl) rfl rfl (y_cvi rfl rfl Try.underlying3 Try.underlying32 (wf_u32 (by omega))) ?_
          | refine Ls_y (wtd0 rfl) rfl rfl (y_cvi rfl rfl Try.underlying3 Try.underlying32 wm_u32) ?_
        first
          | refine Ls_y (wtd0 rfl) rfl rfl (y_add rfl rfl rfl (wf_u32 (by omega))) ?_
          | refine Ls_y (wtd0 rfl) rfl rfl (y_add rfl rfl rfl rfl) ?_
        refine Ls_y (wtd0 rfl) rfl rfl (y_nil rfl rfl) ?_
        refine Ls_y (wtd0 rfl) rfl rfl (y_fld rfl rfl Ty.fo_53_6) ?_
        refine Ls_a (wtd0 rfl) ?_
        first
          | refine a_store (i := 0) rfl rfl rfl rfl rfl Ty.sz_32 rfl hp rfl (by first | decide | (simp; done) | (simp; omega)) (fun w3 (hp : Hp w3 [(_, Cl [_, _, _, _, _] _), _, _, (_, Cl [_, _, _, _, _, _, _, _, _] _), (_, Cl [_] _), (_, Cl [_] _), _, _]) hf _ => ?_)
          | refine a_store (i := 1) rfl rfl rfl rfl rfl Ty.sz_32 rfl hp rfl (by first | decide | (simp; done) | (simp; omega)) (fun w3 (hp : Hp w3 [(_, Cl [_, _, _, _, _] _), _, _, (_, Cl [_, _, _, _, _, _, _, _, _] _), (_, Cl [_] _), (_, Cl [_] _), _, _]) hf _ => ?_)
          | refine a_store (i := 2) rfl rfl rfl rfl rfl Ty.sz_32 rfl hp rfl (by first | decide | (simp; done) | (simp; omega)) (fun w3 (hp : Hp w3 [(_, Cl [_, _, _, _, _] _), _, _, (_, Cl [_, _, _, _, _, _, _, _, _] _), (_, Cl [_] _), (_, Cl [_] _), _, _]) hf _ => ?_)
          | refine a_store (i := 3) rfl rfl rfl rfl rfl Ty.sz_32 rfl hp rfl (by first | decide | (simp; done) | (simp; omega)) (fun w3 (hp : Hp w3 [(_, Cl [_, _, _, _, _] _), _, _, (_, Cl [_, _, _, _, _, _, _, _, _] _), (_, Cl [_] _), (_, Cl [_] _), _, _]) hf _ => ?_)
          | refine a_store (i := 4) rfl rfl rfl rfl rfl Ty.sz_32 rfl hp rfl (by first | decide | (simp; done) | (simp; omega)) (fun w3 (hp : Hp w3 [(_, Cl [_, _, _, _, _] _), _, _, (_, Cl [_, _, _, _, _, _, _, _, _] _), (_, Cl [_] _), (_, Cl [_] _), _, _]) hf _ => ?_)
          | refine a_store (i := 5) rfl rfl rfl rfl rfl Ty.sz_32 rfl hp rfl (by first | decide | (simp; done) | (simp; omega)) (fun w3 (hp : Hp w3 [(_, Cl [_, _, _, _, _] _), _, _, (_, Cl [_, _, _, _, _, _, _, _, _] _), (_, Cl [_] _), (_, Cl [_] _), _, _]) hf _ => ?_)
          | refine a_store (i := 6) rfl rfl rfl rfl rfl Ty.sz_32 rfl hp rfl (by first | decide | (simp; done) | (simp; omega)) (fun w3 (hp : Hp w3 [(_, Cl [_, _, _, _, _] _), _, _, (_, Cl [_, _, _, _, _, _, _, _, _] _), (_, Cl [_] _), (_, Cl [_] _), _, _]) hf _ => ?_)
          | refine a_store (i := 7) rfl rfl rfl rfl rfl Ty.sz_32 rfl hp rfl (by first | decide | (simp; done) | (simp; omega)) (fun w3 (hp : Hp w3 [(_, Cl [_, _, _, _, _] _), _, _, (_, Cl [_, _, _, _, _, _, _, _, _] _), (_, Cl [_] _), (_, Cl [_] _), _, _]) hf _ => ?_)
        have hF := hF.step hf (by intro y hy; simp only [List.mem_cons, List.not_mem_nil, or_false] at hy; subst hy; first | (exact Or.inr (by omega)) | (exact Or.inl (by simp)))
        refine Ls_nil (Th_n (hK16 _ _ ?_))
        refine Wp_seq fun K17 hK17 => ?_
        refine Wp_region ?_
        refine Ls_a (wtd0 rfl) ?_
        first
          | refine a_store (i := 0) rfl rfl rfl rfl rfl Ty.sz_26 rfl hp rfl (by first | decide | (simp; done) | (simp; omega)) (fun w4 (hp : Hp w4 [(_, Cl [_, _, _, _, _] _), _, _, (_, Cl [_, _, _, _, _, _, _, _, _] _), (_, Cl [_] _), (_, Cl [_] _), _, _]) hf _ => ?_)
          | refine a_store (i := 1) rfl rfl rfl rfl rfl Ty.sz_26 rfl hp rfl (by first | decide | (simp; done) | (simp; omega)) (fun w4 (hp : Hp w4 [(_, Cl [_, _, _, _, _] _), _, _, (_, Cl [_, _, _, _, _, _, _, _, _] _), (_, Cl [_] _), (_, Cl [_] _), _, _]) hf _ => ?_)
          | refine a_store (i := 2) rfl rfl rfl rfl rfl Ty.sz_26 rfl hp rfl (by first | decide | (simp; done) | (simp; omega)) (fun w4 (hp : Hp w4 [(_, Cl [_, _, _, _, _] _), _, _, (_, Cl [_, _, _, _, _, _, _, _, _] _), (_, Cl [_] _), (_, Cl [_] _), _, _]) hf _ => ?_)
          | refine a_store (i := 3) rfl rfl rfl rfl rfl Ty.sz_26 rfl hp rfl (by first | decide | (simp; done) | (simp; omega)) (fun w4 (hp : Hp w4 [(_, Cl [_, _, _, _, _] _), _, _, (_, Cl [_, _, _, _, _, _, _, _, _] _), (_, Cl [_] _), (_, Cl [_] _), _, _]) hf _ => ?_)
          | refine a_store (i := 4) rfl rfl rfl rfl rfl Ty.sz_26 rfl hp rfl (by first | decide | (simp; done) | (simp; omega)) (fun w4 (hp : Hp w4 [(_, Cl [_, _, _, _, _] _), _, _, (_, Cl [_, _, _, _, _, _, _, _, _] _), (_, Cl [_] _), (_, Cl [_] _), _, _]) hf _ => ?_)
          | refine a_store (i := 5) rfl rfl rfl rfl rfl Ty.sz_26 rfl hp rfl (by first | decide | (simp; done) | (simp; omega)) (fun w4 (hp : Hp w4 [(_, Cl [_, _, _, _, _] _), _, _, (_, Cl [_, _, _, _, _, _, _, _, _] _), (_, Cl [_] _), (_, Cl [_] _), _, _]) hf _ => ?_)
          | refine a_store (i := 6) rfl rfl rfl rfl rfl Ty.sz_26 rfl hp rfl (by first | decide | (simp; done) | (simp; omega)) (fun w4 (hp : Hp w4 [(_, Cl [_, _, _, _, _] _), _, _, (_, Cl [_, _, _, _, _, _, _, _, _] _), (_, Cl [_] _), (_, Cl [_] _), _, _]) hf _ => ?_)
          | refine a_store (i := 7) rfl rfl rfl rfl rfl Ty.sz_26 rfl hp rfl (by first | decide | (simp; done) | (simp; omega)) (fun w4 (hp : Hp w4 [(_, Cl [_, _, _, _, _] _), _, _, (_, Cl [_, _, _, _, _, _, _, _, _] _), (_, Cl [_] _), (_, Cl [_] _), _, _]) hf _ => ?_)
        have hF := hF.step hf (by intro y hy; simp only [List.mem_cons, List.not_mem_nil, or_false] at hy; subst hy; first | (exact Or.inr (by omega)) | (exact Or.inl (by simp)))
        refine Ls_nil (Th_n (hK17 _ _ ?_))
        first
          | refine Wp_ret (Th_r (FqM_ret (i := 6) hp rfl (fun WE hp hf => ⟨_, (ResN1 rfl (rvp (i := 0) rfl Ty.pl_26 hp rfl rfl)), ?_⟩)))
          | refine Wp_ret (Th_r (FqM_ret (i := 6) hp rfl (fun WE hp hf => ⟨_, (ResN1 rfl (rvp (i := 1) rfl Ty.pl_26 hp rfl rfl)), ?_⟩)))
          | refine Wp_ret (Th_r (FqM_ret (i := 6) hp rfl (fun WE hp hf => ⟨_, (ResN1 rfl (rvp (i := 2) rfl Ty.pl_26 hp rfl rfl)), ?_⟩)))
          | refine Wp_ret (Th_r (FqM_ret (i := 6) hp rfl (fun WE hp hf => ⟨_, (ResN1 rfl (rvp (i := 3) rfl Ty.pl_26 hp rfl rfl)), ?_⟩)))
          | refine Wp_ret (Th_r (FqM_ret (i := 6) hp rfl (fun WE hp hf => ⟨_, (ResN1 rfl (rvp (i := 4) rfl Ty.pl_26 hp rfl rfl)), ?_⟩)))
          | refine Wp_ret (Th_r (FqM_ret (i := 6) hp rfl (fun WE hp hf => ⟨_, (ResN1 rfl (rvp (i := 5) rfl Ty.pl_26 hp rfl rfl)), ?_⟩)))
          | refine Wp_ret (Th_r (FqM_ret (i := 6) hp rfl (fun WE hp hf => ⟨_, (ResN1 rfl (rvp (i := 6) rfl Ty.pl_26 hp rfl rfl)), ?_⟩)))
          | refine Wp_ret (Th_r (FqM_ret (i := 6) hp rfl (fun WE hp hf => ⟨_, (ResN1 rfl (rvp (i := 7) rfl Ty.pl_26 hp rfl rfl)), ?_⟩)))
        refine ⟨by rw [e0], ?_⟩
        rw [appD, appJ, e0]
        have hF := hF.step hf (by simp [hd0])
        exact jmod hF (hp.picks [0, 1, 2, 3] (by decide))

end Go.Proofs.Ytcpfhnfpokijaaa

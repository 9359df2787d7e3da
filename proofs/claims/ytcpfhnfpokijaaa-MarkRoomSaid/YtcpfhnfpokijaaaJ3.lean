/- Walks printed by gen.py out of our own specifications: what the functions named below do. -/
import Derived.Test.YtcpfhnfpokijaaaJ2
import Derived.Test.YtcpfhnfpokijaaaSe
set_option linter.unusedSimpArgs false
set_option linter.unusedVariables false
namespace Go.Proofs.Ytcpfhnfpokijaaa
open Go.RowKit


def chunk (s : List UInt8) (k : Nat) : List UInt8 := (s.drop (50 * k)).take 50
def flagN (s : List UInt8) (k : Nat) : Nat := (if k = 0 then 1 else 0) + (if k + 1 = cellsN s then 2 else 0)
theorem chunk_len (s : List UInt8) (k : Nat) : (chunk s k).length = min 50 (s.length - 50 * k) := by simp [chunk]
theorem cellsN_pos (s : List UInt8) : 1 ≤ cellsN s := by unfold cellsN; omega
theorem flagN_lt (s : List UInt8) (k : Nat) : flagN s k < 4 := by unfold flagN; split <;> split <;> omega
theorem y_minN [Dfs] {P : Program} {n : Nat} {env : Env} {S : World → Prop} {o : Oper} {x y : Operand} {t u : Nat} {a b : Nat} (ho : o.op = .call { callee := .builtin .min, args := #[x, y], argTypes := #[t, u] }) (hx : env.ev x = some (.int .i64 (a : Int))) (hy : env.ev y = some (.int .i64 (b : Int))) : Yld P n env S o (.int .i64 ((min a b : Nat) : Int)) := by
  have h := y_min (P := P) (n := n) (S := S) ho hx hy
  rwa [show min (a : Int) (b : Int) = ((min a b : Nat) : Int) by omega] at h
theorem chunk_e (s : List UInt8) (k : Nat) : List.drop 0 (List.take (min 50 (List.drop (50 * k) s).length) (List.drop (50 * k) s)) = chunk s k := by
  rw [List.drop_zero, chunk]
  rcases Nat.le_total 50 (List.drop (50 * k) s).length with h | h
  · rw [Nat.min_eq_left h]
  · rw [Nat.min_eq_right h, List.take_of_length_le (Nat.le_refl _), List.take_of_length_le h]
theorem rest_e (s : List UInt8) (k : Nat) : List.drop (chunk s k).length (List.take (List.drop (50 * k) s).length (List.drop (50 * k) s)) = s.drop (50 * (k + 1)) := by
  rw [List.take_length, List.drop_drop, chunk_len]
  rcases Nat.le_total 50 (s.length - 50 * k) with h | h
  · rw [Nat.min_eq_left h]; congr 1
  · rw [Nat.min_eq_right h, List.drop_of_length_le (by omega), List.drop_of_length_le (by omega)]
abbrev cellV (g q f : Int) (d : List UInt8) : Value := .agg #[.int .u16 g, .int .u32 q, .int .u8 f, sv d]

set_option maxRecDepth 20000 in
theorem jcells_ok (s : List UInt8) (w : World) : Fn Try.prog 27 [sv s] w fun v w' => ∃ g, v = .func (.func 44) #[] #[.pointer (some ⟨g, 0, none⟩)] ∧ New w w' [(some g, Cl [sv s] 9)] := by
  refine Fn_of 4 Ty.en_27 Try.func27 rfl rfl rfl ?_
  dsimp only [argEnv]
  have hp := Hp.nil w
  have hF := Fr.refl [] w
  refine Wp_seq fun K1 hK1 => ?_
  refine Wp_region ?_
  refine Ls_a (wtd0 rfl) ?_
  refine a_box1 rfl rfl rfl rfl rfl hp (fun g1 w1 (hp : Hp w1 [(_, Cl [_] _)]) hf hg1 => ?_)
  have hg1 := Nat.le_trans hF.size hg1
  have hF := hF.step0 hf
  refine Ls_y (wtd0 rfl) rfl rfl (y_assign rfl rfl) ?_
  refine Ls_nil (Th_n (hK1 _ _ ?_))
  refine Wp_seq fun K2 hK2 => ?_
  refine Wp_region ?_
  refine Ls_y (wtd0 rfl) rfl rfl (y_mkfn (fs := []) (cs := [_]) rfl rfl rfl) ?_
  refine Ls_y (wtd0 rfl) rfl rfl (y_assign rfl rfl) ?_
  refine Ls_nil (Th_n (hK2 _ _ ?_))
  refine Wp_ret (Fq_ret (Res1 rfl rfl) ?_)
  exact ⟨g1, rfl, ⟨hF, hp, by intro k hk; simp [keys] at hk; omega⟩⟩

set_option maxRecDepth 20000 in
set_option maxHeartbeats 1000000 in
theorem jcells1_ok (l gs : Nat) (s : List UInt8) (w : World) (hp : Hp w [(some gs, Cl [sv s] 9)]) (hs : s.length ≤ 4200) (X : List Nat) (hX : ∀ x ∈ X, x < w.heap.size ∧ x ≠ gs) (J : Nat → World → Prop) (Jx : World → Prop)
    (hJ : ∀ k W W', J k W → Fr [gs] W W' → J k W') (hy : ∀ k W, k < cellsN s → w.heap.size ≤ W.heap.size → J k W → YieldsTo Try.prog l [.int .i64 (k : Int), cellV 0 0 (flagN s k : Int) (chunk s k)] W (fun W' => J (k + 1) W' ∧ Fr X W W') Jx) (h0 : J 0 w) :
    Fn Try.prog 44 [.func (.yield l) #[] #[], .pointer (some ⟨gs, 0, none⟩)] w fun _ W' => J (cellsN s) W' ∨ Jx W' := by
  refine Fn_of 43 Ty.en_44 Try.func44 rfl rfl rfl ?_
  dsimp only [argEnv]
  have hp : Hp w [(_, Cl [_] _)] := hp
  have hF := Fr.refl (gs :: X) w
  have hn1 : cellsN s ≤ 84 := by unfold cellsN; omega
  refine Wp_seq fun K1 hK1 => ?_
  refine Wp_region ?_
  refine Ls_y (wtd0 rfl) rfl rfl (y_load (i := 0) rfl rfl Ty.pl_9 (fun _ e => e ▸ hp) rfl rfl) ?_
  refine Ls_a (wtd0 rfl) ?_
  refine a_call rfl rfl rfl rfl (ncells_ok s _ (by omega)) (fun v w1 ⟨hv, hf⟩ => ?_)
  subst hv
  have hp := hp.keep0 hf
  have hF := hF.step0 hf
  have h0 := hJ _ _ _ h0 (hf.mono (by simp))
  refine Ls_y (wtd0 rfl) rfl rfl (y_assign rfl rfl) ?_
  refine Ls_nil (Th_n (hK1 _ _ ?_))
  refine Wp_seq fun K2 hK2 => ?_
  refine Wp_region ?_
  refine Ls_y (wtd0 rfl) rfl rfl (y_move rfl rfl) ?_
  refine Ls_y (wtd0 rfl) rfl rfl (y_move rfl rfl) ?_
  refine Ls_nil (Th_n (hK2 _ _ ?_))
  refine Wp_block ?_
  refine Wp_loopE (fun m e W => ∃ (k : Nat), k ≤ cellsN s ∧ m = cellsN s - k ∧ e = [(0, .func (.yield l) #[] #[]), (1, .pointer (some ⟨gs, 0, none⟩)), (3, .int .i64 (cellsN s : Int)), (8, .int .i64 (cellsN s : Int)), (9, .int .i64 (k : Int))] ∧ Hp W [(some gs, Cl [sv (s.drop (50 * k))] 9)] ∧ Fr (gs :: X) w W ∧ J k W) (cellsN s) [(0, _), (1, _), (3, _), (8, _), (9, _)] ⟨rfl, rfl, rfl, rfl, rfl, trivial⟩ ?_ ?_
  · exact ⟨0, by omega, by omega, rfl, hp, hF, h0⟩
  rintro m e W ⟨k, hk, rfl, rfl, hp, hG, hj⟩
  have hp : Hp W [(_, Cl [_] _)] := hp
  have hF := Fr.refl [gs] W
  refine Wp_seq fun K4 hK4 => ?_
  refine Wp_region ?_
  refine Ls_y (wtd0 rfl) rfl rfl (y_lt rfl rfl rfl) ?_
  refine Ls_bool 10 rfl (fun hlt => ?_) (fun hlt => ?_)
  all_goals try simp only [decide_eq_true_eq, decide_eq_false_iff_not, beq_iff_eq, bne_iff_ne, ne_eq, beq_eq_false_iff_ne, bne_eq_false_iff_eq, Bool.not_eq_true, Bool.not_eq_false] at hlt
  · refine Ls_nil (Th_n (hK4 _ _ ?_))
    refine Wp_seq fun K5 hK5 => ?_
    refine Wp_cond_t rfl ?_
    refine Wp_skip (Th_n (hK5 _ _ ?_))
    refine Wp_seq fun K6 hK6 => ?_
    refine Wp_block ?_
    refine Wp_seq fun K7 hK7 => ?_
    refine Wp_region ?_
    refine Ls_y (wtd0 rfl) rfl rfl (y_move rfl rfl) ?_
    refine Ls_y (wtd0 rfl) rfl rfl (y_assign rfl rfl) ?_
    refine Ls_nil (Th_n (hK7 _ _ ?_))
    refine Wp_seq fun K8 hK8 => ?_
    refine Wp_region ?_
    refine Ls_y (wtd0 rfl) rfl rfl (y_load (i := 0) rfl rfl Ty.pl_9 (fun _ e => e ▸ hp) rfl rfl) ?_
    refine Ls_y (wtd0 rfl) rfl rfl (y_load (i := 0) rfl rfl Ty.pl_9 (fun _ e => e ▸ hp) rfl rfl) ?_
    refine Ls_y (wtd0 rfl) rfl rfl (y_lens rfl rfl Try.underlying9) ?_
    refine Ls_y (wtd0 rfl) rfl rfl (y_minN (a := 50) rfl rfl rfl) ?_
    refine Ls_y (wtd0 rfl) rfl rfl (y_cutsN (i := 0) rfl rfl Try.underlying9 rfl rfl (by first | omega | (simp; omega) | (simp; done)) (by first | omega | (simp; omega) | (simp; done))) ?_
    refine Ls_y (wtd0 rfl) rfl rfl (y_build (cells := [_, _, _, _]) rfl rfl Ty.zc_60 Ty.ps_60 rfl) ?_
    refine Ls_a (wtd0 rfl) ?_
    refine a_alloc rfl rfl rfl Ty.zc_60 hp (fun g1 w1 (hp : Hp w1 [(_, Cl [_] _), (_, Cl [_, _, _, _] _)]) hf hg1 => ?_)
    have hg1 := Nat.le_trans hF.size hg1
    have hF := hF.step0 hf
    refine Ls_a (wtd0 rfl) ?_
    first
      | refine a_storew (i := 0) rfl rfl rfl rfl Ty.sz_60 rfl (by first | assumption | (simp [Value.oneCell']; done)) hp rfl rfl (fun w2 (hp : Hp w2 [(_, Cl [_] _), (_, Cl [_, _, _, _] _)]) hf _ => ?_)
      | refine a_storew (i := 1) rfl rfl rfl rfl Ty.sz_60 rfl (by first | assumption | (simp [Value.oneCell']; done)) hp rfl rfl (fun w2 (hp : Hp w2 [(_, Cl [_] _), (_, Cl [_, _, _, _] _)]) hf _ => ?_)
    have hF := hF.step hf (by intro y hy; simp only [List.mem_cons, List.not_mem_nil, or_false] at hy; subst hy; first | (exact Or.inr (by omega)) | (exact Or.inl (by simp)))
    refine Ls_nil (Th_n (hK8 _ _ ?_))
    refine Wp_seq fun K9 hK9 => ?_
    refine Wp_region ?_
    first
      | refine Ls_y (wtd0 rfl) rfl rfl (y_load (i := 0) rfl rfl Ty.pl_9 (fun _ e => e ▸ hp) rfl rfl) ?_
      | refine Ls_y (wtd0 rfl) rfl rfl (y_load (i := 1) rfl rfl Ty.pl_9 (fun _ e => e ▸ hp) rfl rfl) ?_
    refine Ls_y (wtd0 rfl) rfl rfl (y_fld rfl rfl Ty.fo_60_3) ?_
    first
      | refine Ls_y (wtd0 rfl) rfl rfl (y_load (i := 0) rfl rfl Ty.pl_9 (fun _ e => e ▸ hp) rfl rfl) ?_
      | refine Ls_y (wtd0 rfl) rfl rfl (y_load (i := 1) rfl rfl Ty.pl_9 (fun _ e => e ▸ hp) rfl rfl) ?_
    refine Ls_y (wtd0 rfl) rfl rfl (y_lens rfl rfl Try.underlying9) ?_
    refine Ls_y (wtd0 rfl) rfl rfl (y_cutsN rfl rfl Try.underlying9 rfl rfl (by first | omega | (simp; omega) | (simp; done)) (by first | omega | (simp; omega) | (simp; done))) ?_
    refine Ls_a (wtd0 rfl) ?_
    first
      | refine a_store (i := 0) rfl rfl rfl rfl rfl Ty.sz_9 rfl hp rfl (by first | decide | (simp; done) | (simp; omega)) (fun w3 (hp : Hp w3 [(_, Cl [_] _), (_, Cl [_, _, _, _] _)]) hf _ => ?_)
      | refine a_store (i := 1) rfl rfl rfl rfl rfl Ty.sz_9 rfl hp rfl (by first | decide | (simp; done) | (simp; omega)) (fun w3 (hp : Hp w3 [(_, Cl [_] _), (_, Cl [_, _, _, _] _)]) hf _ => ?_)
    have hF := hF.step hf (by intro y hy; simp only [List.mem_cons, List.not_mem_nil, or_false] at hy; subst hy; first | (exact Or.inr (by omega)) | (exact Or.inl (by simp)))
    refine Ls_nil (Th_n (hK9 _ _ ?_))
    refine Wp_seq fun K10 hK10 => ?_
    refine Wp_seq fun K11 hK11 => ?_
    refine Wp_region ?_
    refine Ls_y (wtd0 rfl) rfl rfl (y_move rfl rfl) ?_
    refine Ls_y (wtd0 rfl) rfl rfl (y_eq rfl rfl rfl) ?_
    refine Ls_bool 24 rfl (fun hk0 => ?_) (fun hk0 => ?_)
    all_goals try simp only [decide_eq_true_eq, decide_eq_false_iff_not, beq_iff_eq, bne_iff_ne, ne_eq, beq_eq_false_iff_ne, bne_eq_false_iff_eq, Bool.not_eq_true, Bool.not_eq_false] at hk0
    · refine Ls_nil (Th_n (hK11 _ _ ?_))
      refine Wp_cond_t rfl ?_
      refine Wp_region ?_
      refine Ls_y (wtd0 rfl) rfl rfl (y_fld rfl rfl Ty.fo_60_2) ?_
      first
        | refine Ls_y (wtd0 rfl) rfl rfl (y_load (i := 0) rfl rfl Ty.pl_5 (fun _ e => e ▸ hp) rfl rfl) ?_
        | refine Ls_y (wtd0 rfl) rfl rfl (y_load (i := 1) rfl rfl Ty.pl_5 (fun _ e => e ▸ hp) rfl rfl) ?_
      refine Ls_y (wtd0 rfl) rfl rfl (y_bits (c := 1) rfl rfl rfl (by simp) (by decide)) ?_
      refine Ls_y (wtd0 rfl) rfl rfl (y_fld rfl rfl Ty.fo_60_2) ?_
      refine Ls_a (wtd0 rfl) ?_
      first
        | refine a_store (i := 0) rfl rfl rfl rfl rfl Ty.sz_5 rfl hp rfl (by first | decide | (simp; done) | (simp; omega)) (fun w4 (hp : Hp w4 [(_, Cl [_] _), (_, Cl [_, _, _, _] _)]) hf _ => ?_)
        | refine a_store (i := 1) rfl rfl rfl rfl rfl Ty.sz_5 rfl hp rfl (by first | decide | (simp; done) | (simp; omega)) (fun w4 (hp : Hp w4 [(_, Cl [_] _), (_, Cl [_, _, _, _] _)]) hf _ => ?_)
      have hF := hF.step hf (by intro y hy; simp only [List.mem_cons, List.not_mem_nil, or_false] at hy; subst hy; first | (exact Or.inr (by omega)) | (exact Or.inl (by simp)))
      refine Ls_nil (Th_n (hK10 _ _ ?_))
      refine Wp_seq fun K12 hK12 => ?_
      refine Wp_seq fun K13 hK13 => ?_
      refine Wp_region ?_
      refine Ls_y (wtd0 rfl) rfl rfl (y_move rfl rfl) ?_
      refine Ls_y (wtd0 rfl) rfl rfl (y_move rfl rfl) ?_
      refine Ls_y (wtd0 rfl) rfl rfl (y_sub rfl rfl rfl (wf_i64 (by omega))) ?_
      refine Ls_y (wtd0 rfl) rfl rfl (y_eq rfl rfl rfl) ?_
      refine Ls_bool 32 rfl (fun hk1 => ?_) (fun hk1 => ?_)
      all_goals try simp only [decide_eq_true_eq, decide_eq_false_iff_not, beq_iff_eq, bne_iff_ne, ne_eq, beq_eq_false_iff_ne, bne_eq_false_iff_eq, Bool.not_eq_true, Bool.not_eq_false] at hk1
      · refine Ls_nil (Th_n (hK13 _ _ ?_))
        refine Wp_cond_t rfl ?_
        refine Wp_region ?_
        refine Ls_y (wtd0 rfl) rfl rfl (y_fld rfl rfl Ty.fo_60_2) ?_
        first
          | refine Ls_y (wtd0 rfl) rfl rfl (y_load (i := 0) rfl rfl Ty.pl_5 (fun _ e => e ▸ hp) rfl rfl) ?_
          | refine Ls_y (wtd0 rfl) rfl rfl (y_load (i := 1) rfl rfl Ty.pl_5 (fun _ e => e ▸ hp) rfl rfl) ?_
        refine Ls_y (wtd0 rfl) rfl rfl (y_bits (c := 3) rfl rfl rfl (by simp) (by decide)) ?_
        refine Ls_y (wtd0 rfl) rfl rfl (y_fld rfl rfl Ty.fo_60_2) ?_
        refine Ls_a (wtd0 rfl) ?_
        first
          | refine a_store (i := 0) rfl rfl rfl rfl rfl Ty.sz_5 rfl hp rfl (by first | decide | (simp; done) | (simp; omega)) (fun w5 (hp : Hp w5 [(_, Cl [_] _), (_, Cl [_, _, _, _] _)]) hf _ => ?_)
          | refine a_store (i := 1) rfl rfl rfl rfl rfl Ty.sz_5 rfl hp rfl (by first | decide | (simp; done) | (simp; omega)) (fun w5 (hp : Hp w5 [(_, Cl [_] _), (_, Cl [_, _, _, _] _)]) hf _ => ?_)
        have hF := hF.step hf (by intro y hy; simp only [List.mem_cons, List.not_mem_nil, or_false] at hy; subst hy; first | (exact Or.inr (by omega)) | (exact Or.inl (by simp)))
        refine Ls_nil (Th_n (hK12 _ _ ?_))
        refine Wp_seq fun K14 hK14 => ?_
        refine Wp_region ?_
        have ef : (flagN s k : Int) = 3 := by unfold flagN; split <;> split <;> omega
        have ec := chunk_e s k
        have hp := (hp.conv (i := 0) rfl (show _ = [sv (s.drop (50 * (k + 1)))] by rw [ec, rest_e])).conv (i := 1) rfl (show _ = [.int .u16 0, .int .u32 0, .int .u8 (flagN s k : Int), sv (chunk s k)] by rw [ec, ef])
        have hp : Hp _ [(_, Cl [_] _), (_, Cl [_, _, _, _] _)] := hp
        refine Ls_y (wtd0 rfl) rfl rfl (y_move rfl rfl) ?_
        refine Ls_y (wtd0 rfl) rfl rfl (y_move rfl rfl) ?_
        first
          | refine Ls_y (wtd0 rfl) rfl rfl (y_loadw (i := 0) rfl rfl Ty.ag_60 (fun _ e => e ▸ hp) rfl rfl) ?_
          | refine Ls_y (wtd0 rfl) rfl rfl (y_loadw (i := 1) rfl rfl Ty.ag_60 (fun _ e => e ▸ hp) rfl rfl) ?_
        refine Ls_yield (wtd0 rfl) rfl rfl rfl rfl rfl (hy k _ (by omega) (Nat.le_trans hG.size hF.size) (hJ _ _ _ hj hF)) (fun W3 hT => ?_) (fun W3 hT => ?_)
        · obtain ⟨hj3, hf3⟩ := hT
          have hz := hG.size
          have hG := (hG.step hF (by simp)).step hf3 (by intro y hy; exact .inl (by simp [hy]))
          have hp := hp.keep hf3 (by intro y hy hyx; have := hX y hyx; simp [keys] at hy; omega)
          have hF := Fr.refl [gs] W3
          refine Ls_y (wtd0 rfl) rfl rfl (y_not rfl rfl) ?_
          refine Ls_nil (Th_n (hK14 _ _ ?_))
          refine Wp_cond_f rfl ?_
          refine Wp_skip (Ib_n (Th_n (hK6 _ _ ?_)))
          refine Wp_region ?_
          first
            | refine Ls_y (wtd0 rfl) rfl rfl (y_add rfl rfl rfl (w_succ (by omega))) ?_
            | refine Ls_y (wtd0 rfl) rfl rfl (y_add rfl rfl rfl (wf_i64 (by omega))) ?_
            | refine Ls_y (wtd0 rfl) rfl rfl (y_add rfl rfl rfl rfl) ?_
          refine Ls_y (wtd0 rfl) rfl rfl (y_move rfl rfl) ?_
          refine Ls_nil (Th_n (?_))
          exact ⟨cellsN s - (k + 1), [(0, _), (1, _), (3, _), (8, _), (9, _)], by omega, ⟨rfl, rfl, rfl, rfl, rfl, trivial⟩, k + 1, by omega, rfl, rfl, hp.picks [0] (by decide), hG, hj3⟩
        · refine Ls_y (wtd0 rfl) rfl rfl (y_not rfl rfl) ?_
          refine Ls_nil (Th_n (hK14 _ _ ?_))
          refine Wp_cond_t rfl ?_
          refine Wp_ret (Ib_r (Th_r (Th_r (Ib_r (Fq_ret (Res0 rfl) ?_)))))
          exact .inr hT
      · refine Ls_nil (Th_n (hK13 _ _ ?_))
        refine Wp_cond_f rfl ?_
        refine Wp_skip (Th_n (hK12 _ _ ?_))
        refine Wp_seq fun K15 hK15 => ?_
        refine Wp_region ?_
        have ef : (flagN s k : Int) = 1 := by unfold flagN; split <;> split <;> omega
        have ec := chunk_e s k
        have hp := (hp.conv (i := 0) rfl (show _ = [sv (s.drop (50 * (k + 1)))] by rw [ec, rest_e])).conv (i := 1) rfl (show _ = [.int .u16 0, .int .u32 0, .int .u8 (flagN s k : Int), sv (chunk s k)] by rw [ec, ef])
        have hp : Hp _ [(_, Cl [_] _), (_, Cl [_, _, _, _] _)] := hp
        refine Ls_y (wtd0 rfl) rfl rfl (y_move rfl rfl) ?_
        refine Ls_y (wtd0 rfl) rfl rfl (y_move rfl rfl) ?_
        first
          | refine Ls_y (wtd0 rfl) rfl rfl (y_loadw (i := 0) rfl rfl Ty.ag_60 (fun _ e => e ▸ hp) rfl rfl) ?_
          | refine Ls_y (wtd0 rfl) rfl rfl (y_loadw (i := 1) rfl rfl Ty.ag_60 (fun _ e => e ▸ hp) rfl rfl) ?_
        refine Ls_yield (wtd0 rfl) rfl rfl rfl rfl rfl (hy k _ (by omega) (Nat.le_trans hG.size hF.size) (hJ _ _ _ hj hF)) (fun W3 hT => ?_) (fun W3 hT => ?_)
        · obtain ⟨hj3, hf3⟩ := hT
          have hz := hG.size
          have hG := (hG.step hF (by simp)).step hf3 (by intro y hy; exact .inl (by simp [hy]))
          have hp := hp.keep hf3 (by intro y hy hyx; have := hX y hyx; simp [keys] at hy; omega)
          have hF := Fr.refl [gs] W3
          refine Ls_y (wtd0 rfl) rfl rfl (y_not rfl rfl) ?_
          refine Ls_nil (Th_n (hK15 _ _ ?_))
          refine Wp_cond_f rfl ?_
          refine Wp_skip (Ib_n (Th_n (hK6 _ _ ?_)))
          refine Wp_region ?_
          first
            | refine Ls_y (wtd0 rfl) rfl rfl (y_add rfl rfl rfl (w_succ (by omega))) ?_
            | refine Ls_y (wtd0 rfl) rfl rfl (y_add rfl rfl rfl (wf_i64 (by omega))) ?_
            | refine Ls_y (wtd0 rfl) rfl rfl (y_add rfl rfl rfl rfl) ?_
          refine Ls_y (wtd0 rfl) rfl rfl (y_move rfl rfl) ?_
          refine Ls_nil (Th_n (?_))
          exact ⟨cellsN s - (k + 1), [(0, _), (1, _), (3, _), (8, _), (9, _)], by omega, ⟨rfl, rfl, rfl, rfl, rfl, trivial⟩, k + 1, by omega, rfl, rfl, hp.picks [0] (by decide), hG, hj3⟩
        · refine Ls_y (wtd0 rfl) rfl rfl (y_not rfl rfl) ?_
          refine Ls_nil (Th_n (hK15 _ _ ?_))
          refine Wp_cond_t rfl ?_
          refine Wp_ret (Ib_r (Th_r (Th_r (Ib_r (Fq_ret (Res0 rfl) ?_)))))
          exact .inr hT
    · refine Ls_nil (Th_n (hK11 _ _ ?_))
      refine Wp_cond_f rfl ?_
      refine Wp_skip (Th_n (hK10 _ _ ?_))
      refine Wp_seq fun K16 hK16 => ?_
      refine Wp_seq fun K17 hK17 => ?_
      refine Wp_region ?_
      refine Ls_y (wtd0 rfl) rfl rfl (y_move rfl rfl) ?_
      refine Ls_y (wtd0 rfl) rfl rfl (y_move rfl rfl) ?_
      refine Ls_y (wtd0 rfl) rfl rfl (y_sub rfl rfl rfl (wf_i64 (by omega))) ?_
      refine Ls_y (wtd0 rfl) rfl rfl (y_eq rfl rfl rfl) ?_
      refine Ls_bool 32 rfl (fun hk1 => ?_) (fun hk1 => ?_)
      all_goals try simp only [decide_eq_true_eq, decide_eq_false_iff_not, beq_iff_eq, bne_iff_ne, ne_eq, beq_eq_false_iff_ne, bne_eq_false_iff_eq, Bool.not_eq_true, Bool.not_eq_false] at hk1
      · refine Ls_nil (Th_n (hK17 _ _ ?_))
        refine Wp_cond_t rfl ?_
        refine Wp_region ?_
        refine Ls_y (wtd0 rfl) rfl rfl (y_fld rfl rfl Ty.fo_60_2) ?_
        first
          | refine Ls_y (wtd0 rfl) rfl rfl (y_load (i := 0) rfl rfl Ty.pl_5 (fun _ e => e ▸ hp) rfl rfl) ?_
          | refine Ls_y (wtd0 rfl) rfl rfl (y_load (i := 1) rfl rfl Ty.pl_5 (fun _ e => e ▸ hp) rfl rfl) ?_
        refine Ls_y (wtd0 rfl) rfl rfl (y_bits (c := 2) rfl rfl rfl (by simp) (by decide)) ?_
        refine Ls_y (wtd0 rfl) rfl rfl (y_fld rfl rfl Ty.fo_60_2) ?_
        refine Ls_a (wtd0 rfl) ?_
        first
          | refine a_store (i := 0) rfl rfl rfl rfl rfl Ty.sz_5 rfl hp rfl (by first | decide | (simp; done) | (simp; omega)) (fun w4 (hp : Hp w4 [(_, Cl [_] _), (_, Cl [_, _, _, _] _)]) hf _ => ?_)
          | refine a_store (i := 1) rfl rfl rfl rfl rfl Ty.sz_5 rfl hp rfl (by first | decide | (simp; done) | (simp; omega)) (fun w4 (hp : Hp w4 [(_, Cl [_] _), (_, Cl [_, _, _, _] _)]) hf _ => ?_)
        have hF := hF.step hf (by intro y hy; simp only [List.mem_cons, List.not_mem_nil, or_false] at hy; subst hy; first | (exact Or.inr (by omega)) | (exact Or.inl (by simp)))
        refine Ls_nil (Th_n (hK16 _ _ ?_))
        refine Wp_seq fun K18 hK18 => ?_
        refine Wp_region ?_
        have ef : (flagN s k : Int) = 2 := by unfold flagN; split <;> split <;> omega
        have ec := chunk_e s k
        have hp := (hp.conv (i := 0) rfl (show _ = [sv (s.drop (50 * (k + 1)))] by rw [ec, rest_e])).conv (i := 1) rfl (show _ = [.int .u16 0, .int .u32 0, .int .u8 (flagN s k : Int), sv (chunk s k)] by rw [ec, ef])
        have hp : Hp _ [(_, Cl [_] _), (_, Cl [_, _, _, _] _)] := hp
        refine Ls_y (wtd0 rfl) rfl rfl (y_move rfl rfl) ?_
        refine Ls_y (wtd0 rfl) rfl rfl (y_move rfl rfl) ?_
        first
          | refine Ls_y (wtd0 rfl) rfl rfl (y_loadw (i := 0) rfl rfl Ty.ag_60 (fun _ e => e ▸ hp) rfl rfl) ?_
          | refine Ls_y (wtd0 rfl) rfl rfl (y_loadw (i := 1) rfl rfl Ty.ag_60 (fun _ e => e ▸ hp) rfl rfl) ?_
        refine Ls_yield (wtd0 rfl) rfl rfl rfl rfl rfl (hy k _ (by omega) (Nat.le_trans hG.size hF.size) (hJ _ _ _ hj hF)) (fun W3 hT => ?_) (fun W3 hT => ?_)
        · obtain ⟨hj3, hf3⟩ := hT
          have hz := hG.size
          have hG := (hG.step hF (by simp)).step hf3 (by intro y hy; exact .inl (by simp [hy]))
          have hp := hp.keep hf3 (by intro y hy hyx; have := hX y hyx; simp [keys] at hy; omega)
          have hF := Fr.refl [gs] W3
          refine Ls_y (wtd0 rfl) rfl rfl (y_not rfl rfl) ?_
          refine Ls_nil (Th_n (hK18 _ _ ?_))
          refine Wp_cond_f rfl ?_
          refine Wp_skip (Ib_n (Th_n (hK6 _ _ ?_)))
          refine Wp_region ?_
          first
            | refine Ls_y (wtd0 rfl) rfl rfl (y_add rfl rfl rfl (w_succ (by omega))) ?_
            | refine Ls_y (wtd0 rfl) rfl rfl (y_add rfl rfl rfl (wf_i64 (by omega))) ?_
            | refine Ls_y (wtd0 rfl) rfl rfl (y_add rfl rfl rfl rfl) ?_
          refine Ls_y (wtd0 rfl) rfl rfl (y_move rfl rfl) ?_
          refine Ls_nil (Th_n (?_))
          exact ⟨cellsN s - (k + 1), [(0, _), (1, _), (3, _), (8, _), (9, _)], by omega, ⟨rfl, rfl, rfl, rfl, rfl, trivial⟩, k + 1, by omega, rfl, rfl, hp.picks [0] (by decide), hG, hj3⟩
        · refine Ls_y (wtd0 rfl) rfl rfl (y_not rfl rfl) ?_
          refine Ls_nil (Th_n (hK18 _ _ ?_))
          refine Wp_cond_t rfl ?_
          refine Wp_ret (Ib_r (Th_r (Th_r (Ib_r (Fq_ret (Res0 rfl) ?_)))))
          exact .inr hT
      · refine Ls_nil (Th_n (hK17 _ _ ?_))
        refine Wp_cond_f rfl ?_
        refine Wp_skip (Th_n (hK16 _ _ ?_))
        refine Wp_seq fun K19 hK19 => ?_
        refine Wp_region ?_
        have ef : (flagN s k : Int) = 0 := by unfold flagN; split <;> split <;> omega
        have ec := chunk_e s k
        have hp := (hp.conv (i := 0) rfl (show _ = [sv (s.drop (50 * (k + 1)))] by rw [ec, rest_e])).conv (i := 1) rfl (show _ = [.int .u16 0, .int .u32 0, .int .u8 (flagN s k : Int), sv (chunk s k)] by rw [ec, ef])
        have hp : Hp _ [(_, Cl [_] _), (_, Cl [_, _, _, _] _)] := hp
        refine Ls_y (wtd0 rfl) rfl rfl (y_move rfl rfl) ?_
        refine Ls_y (wtd0 rfl) rfl rfl (y_move rfl rfl) ?_
        first
          | refine Ls_y (wtd0 rfl) rfl rfl (y_loadw (i := 0) rfl rfl Ty.ag_60 (fun _ e => e ▸ hp) rfl rfl) ?_
          | refine Ls_y (wtd0 rfl) rfl rfl (y_loadw (i := 1) rfl rfl Ty.ag_60 (fun _ e => e ▸ hp) rfl rfl) ?_
        refine Ls_yield (wtd0 rfl) rfl rfl rfl rfl rfl (hy k _ (by omega) (Nat.le_trans hG.size hF.size) (hJ _ _ _ hj hF)) (fun W3 hT => ?_) (fun W3 hT => ?_)
        · obtain ⟨hj3, hf3⟩ := hT
          have hz := hG.size
          have hG := (hG.step hF (by simp)).step hf3 (by intro y hy; exact .inl (by simp [hy]))
          have hp := hp.keep hf3 (by intro y hy hyx; have := hX y hyx; simp [keys] at hy; omega)
          have hF := Fr.refl [gs] W3
          refine Ls_y (wtd0 rfl) rfl rfl (y_not rfl rfl) ?_
          refine Ls_nil (Th_n (hK19 _ _ ?_))
          refine Wp_cond_f rfl ?_
          refine Wp_skip (Ib_n (Th_n (hK6 _ _ ?_)))
          refine Wp_region ?_
          first
            | refine Ls_y (wtd0 rfl) rfl rfl (y_add rfl rfl rfl (w_succ (by omega))) ?_
            | refine Ls_y (wtd0 rfl) rfl rfl (y_add rfl rfl rfl (wf_i64 (by omega))) ?_
            | refine Ls_y (wtd0 rfl) rfl rfl (y_add rfl rfl rfl rfl) ?_
          refine Ls_y (wtd0 rfl) rfl rfl (y_move rfl rfl) ?_
          refine Ls_nil (Th_n (?_))
          exact ⟨cellsN s - (k + 1), [(0, _), (1, _), (3, _), (8, _), (9, _)], by omega, ⟨rfl, rfl, rfl, rfl, rfl, trivial⟩, k + 1, by omega, rfl, rfl, hp.picks [0] (by decide), hG, hj3⟩
        · refine Ls_y (wtd0 rfl) rfl rfl (y_not rfl rfl) ?_
          refine Ls_nil (Th_n (hK19 _ _ ?_))
          refine Wp_cond_t rfl ?_
          refine Wp_ret (Ib_r (Th_r (Th_r (Ib_r (Fq_ret (Res0 rfl) ?_)))))
          exact .inr hT
  · refine Ls_nil (Th_n (hK4 _ _ ?_))
    refine Wp_seq fun K20 hK20 => ?_
    refine Wp_cond_f rfl ?_
    refine Wp_exit (Th_e (Th_e (Ib_hit (Fq_end (Res0 rfl) ?_))))
    obtain rfl : k = cellsN s := by omega
    exact .inl hj

end Go.Proofs.Ytcpfhnfpokijaaa

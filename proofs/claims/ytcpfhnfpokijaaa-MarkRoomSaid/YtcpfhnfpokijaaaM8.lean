/- Walks printed by gen.py out of our own specifications: what the functions named below do. -/
import Derived.Test.YtcpfhnfpokijaaaM7
import Derived.Test.YtcpfhnfpokijaaaJ2
import Derived.Test.YtcpfhnfpokijaaaSu
set_option linter.unusedSimpArgs false
set_option linter.unusedVariables false
namespace Go.Proofs.Ytcpfhnfpokijaaa
open Go.RowKit


def chunkB (b : List UInt8) (k : Nat) : List UInt8 := (b.drop (50 * k)).take 50
theorem chunkB_len (b : List UInt8) (k : Nat) : (chunkB b k).length = chL b.length k := by simp [chunkB, chL]
theorem chunkB_cells (b : List UInt8) (sp : List Value) (k : Nat) (hk : 50 * k < b.length) : (((b.map bv ++ sp).drop (50 * k)).take (chL b.length k)) = (chunkB b k).map bv := by
  unfold chunkB chL
  rw [List.drop_append_of_le_length (by simp; omega), List.take_append_of_le_length (by simp; omega), ← List.map_drop, ← List.map_take]
  congr 1
  rcases Nat.le_total 50 (b.length - 50 * k) with h | h
  · rw [Nat.min_eq_left h]
  · rw [Nat.min_eq_right h, List.take_of_length_le (by simp), List.take_of_length_le (by simp; omega)]
abbrev mSlot (M : Mr) (n k : Nat) : Nat := M.base + n % 2 * M.size + k
abbrev mCell (M : Mr) (n : Nat) (b : List UInt8) (k : Nat) : List UInt8 := packS M.gen (n : Int) 0 (chunkB b k)
def wrM (D : Dk) (M : Mr) (n : Nat) (b : List UInt8) : Nat → Dk
  | 0 => D
  | k + 1 => writeD (wrM D M n b k) ((mSlot M n k : Nat) : Int) (mCell M n b k)
theorem wrM_ok {D : Dk} {M : Mr} {n : Nat} {b : List UInt8} (h : DkOk D) : ∀ k, DkOk (wrM D M n b k)
  | 0 => h
  | k + 1 => writeD_ok (wrM_ok h k) _ _

set_option maxRecDepth 20000 in
set_option maxHeartbeats 2000000 in
theorem mwrite_ok (gm : Nat) (p : Dp) (D : Dk) (M : Mr) (b : List UInt8) (gb c : Nat) (spb : List Value) (fr : Nat × Nat) (w : World) (hp : Hp w (mH gm p D M ++ [(some gb, ClF (b.map bv ++ spb) 5 fr)])) (hD : DkOk D) (hM : MrB M) (n : Nat) (hn : 1 ≤ n ∧ n ≤ 1000000) (hbl : b.length ≤ 100000) (hbc : b.length ≤ c) (hgen : 0 ≤ M.gen ∧ M.gen < 65536)
    (hwr : ∀ k, k < chK b.length → writeE (wrM D M n b k) ((mSlot M n k : Nat) : Int) (mCell M n b k) = 0) :
    Fn Try.prog 40 [.pointer (some ⟨gm, 0, none⟩), .int .u32 (n : Int), .slice (some ⟨gb, 0, none⟩) b.length c] w fun v w' => v = .int .i64 (syncE (wrM D M n b (chK b.length))) ∧ Hp w' (mH gm p (syncD (wrM D M n b (chK b.length))) M ++ [(some gb, ClF (b.map bv ++ spb) 5 fr)]) ∧ Fr [p.gd, p.gn, p.gl] w w' := by
  refine Fn_ofM 57 Ty.en_40 Try.func40 rfl rfl rfl ?_
  dsimp only [argEnv]
  have hp : Hp w [(_, Cl [_, _, _, _, _] _), _, _, (_, Cl [_, _, _, _, _, _, _, _] _), _] := hp
  have hF := Fr.refl [p.gd, p.gn, p.gl] w
  refine Wf_seq ?_
  refine Wf_x (fun K1 hK1 => ?_)
  have hms := hM.size
  have hmb := hM.base
  have hn2 : n % 2 * M.size ≤ 512 := Nat.le_trans (Nat.mul_le_mul_right _ (show n % 2 ≤ 1 by omega)) (by omega)
  refine Wp_region ?_
  refine Ls_a (wtd0 rfl) ?_
  refine a_box1 rfl rfl rfl rfl rfl hp (fun g1 w1 (hp : Hp w1 [(_, Cl [_, _, _, _, _] _), _, _, (_, Cl [_, _, _, _, _, _, _, _] _), _, (_, Cl [_] _)]) hf hg1 => ?_)
  have hg1 := Nat.le_trans hF.size hg1
  have hF := hF.step0 hf
  refine Ls_a (wtd0 rfl) ?_
  refine a_box1 rfl rfl rfl rfl rfl hp (fun g2 w2 (hp : Hp w2 [(_, Cl [_, _, _, _, _] _), _, _, (_, Cl [_, _, _, _, _, _, _, _] _), _, (_, Cl [_] _), (_, Cl [_] _)]) hf hg2 => ?_)
  have hg2 := Nat.le_trans hF.size hg2
  have hF := hF.step0 hf
  refine Ls_a (wtd0 rfl) ?_
  refine a_alloc rfl rfl rfl Ty.zc_26 hp (fun g3 w3 (hp : Hp w3 [(_, Cl [_, _, _, _, _] _), _, _, (_, Cl [_, _, _, _, _, _, _, _] _), _, (_, Cl [_] _), (_, Cl [_] _), (_, Cl [_] _)]) hf hg3 => ?_)
  have hg3 := Nat.le_trans hF.size hg3
  have hF := hF.step0 hf
  refine Ls_nil (Th_n (hK1 _ _ ?_))
  refine Wf_seq ?_
  refine Wf_x (fun K2 hK2 => ?_)
  refine Wp_plan (fun W => Hp W (pickL (heapOf hp) [3, 5, 6])) [(true, 0), (true, 1), (true, 2), (true, 3), (true, 4), (true, 5), (true, 6), (true, 7), (true, 8), (true, 9), (true, 10), (true, 11), (true, 12), (false, 13), (false, 14)] Ty.mx_0 (by kernel_rfl) (by kernel_rfl) rfl ((hp.picks [3, 5, 6] (by decide)).drew) ?_
  have hp := hp.drew
  have hF := hF.step0 (Fr.drew _)
  first
    | refine Pl_y rfl (wtd0 rfl) rfl rfl (y_load (i := 0) rfl rfl Ty.pl_42 (fun _ h => h) rfl rfl) ?_
    | refine Pl_y rfl (wtd0 rfl) rfl rfl (y_load (i := 1) rfl rfl Ty.pl_42 (fun _ h => h) rfl rfl) ?_
    | refine Pl_y rfl (wtd0 rfl) rfl rfl (y_load (i := 2) rfl rfl Ty.pl_42 (fun _ h => h) rfl rfl) ?_
  refine Pl_y rfl (wtd0 rfl) rfl rfl (y_nil rfl rfl) ?_
  refine Pl_y rfl (wtd0 rfl) rfl rfl (y_fld rfl rfl Ty.fo_74_1) ?_
  first
    | refine Pl_y rfl (wtd0 rfl) rfl rfl (y_load (i := 0) rfl rfl Ty.pl_3 (fun _ h => h) rfl rfl) ?_
    | refine Pl_y rfl (wtd0 rfl) rfl rfl (y_load (i := 1) rfl rfl Ty.pl_3 (fun _ h => h) rfl rfl) ?_
    | refine Pl_y rfl (wtd0 rfl) rfl rfl (y_load (i := 2) rfl rfl Ty.pl_3 (fun _ h => h) rfl rfl) ?_
  first
    | refine Pl_y rfl (wtd0 rfl) rfl rfl (y_load (i := 0) rfl rfl Ty.pl_32 (fun _ h => h) rfl rfl) ?_
    | refine Pl_y rfl (wtd0 rfl) rfl rfl (y_load (i := 1) rfl rfl Ty.pl_32 (fun _ h => h) rfl rfl) ?_
    | refine Pl_y rfl (wtd0 rfl) rfl rfl (y_load (i := 2) rfl rfl Ty.pl_32 (fun _ h => h) rfl rfl) ?_
  refine Pl_y rfl (wtd0 rfl) rfl rfl (y_remC (c := ((n % 2 : Nat) : Int)) rfl rfl rfl (by omega) (by omega) (by omega)) ?_
  refine Pl_y rfl (wtd0 rfl) rfl rfl (y_cvi rfl rfl Try.underlying32 Try.underlying3 (wf_i64 (by omega))) ?_
  first
    | refine Pl_y rfl (wtd0 rfl) rfl rfl (y_load (i := 0) rfl rfl Ty.pl_42 (fun _ h => h) rfl rfl) ?_
    | refine Pl_y rfl (wtd0 rfl) rfl rfl (y_load (i := 1) rfl rfl Ty.pl_42 (fun _ h => h) rfl rfl) ?_
    | refine Pl_y rfl (wtd0 rfl) rfl rfl (y_load (i := 2) rfl rfl Ty.pl_42 (fun _ h => h) rfl rfl) ?_
  refine Pl_y rfl (wtd0 rfl) rfl rfl (y_nil rfl rfl) ?_
  refine Pl_y rfl (wtd0 rfl) rfl rfl (y_fld rfl rfl Ty.fo_74_2) ?_
  first
    | refine Pl_y rfl (wtd0 rfl) rfl rfl (y_load (i := 0) rfl rfl Ty.pl_3 (fun _ h => h) rfl rfl) ?_
    | refine Pl_y rfl (wtd0 rfl) rfl rfl (y_load (i := 1) rfl rfl Ty.pl_3 (fun _ h => h) rfl rfl) ?_
    | refine Pl_y rfl (wtd0 rfl) rfl rfl (y_load (i := 2) rfl rfl Ty.pl_3 (fun _ h => h) rfl rfl) ?_
  refine Pl_y rfl (wtd0 rfl) rfl rfl (y_mul (c := ((n % 2 * M.size : Nat) : Int)) rfl rfl rfl (by rw [← Int.natCast_mul, IntKind.wrap_i64]; omega)) ?_
  refine Pl_y rfl (wtd0 rfl) rfl rfl (y_add (c := ((mSlot M n 0 : Nat) : Int)) rfl rfl rfl (by rw [IntKind.wrap_i64]; simp only [mSlot]; omega)) ?_
  refine Pl_a rfl (wtd0 rfl) (by rfl) ?_
  refine a_alloc rfl rfl rfl Ty.zc_3 hp (fun g4 w4 (hp : Hp w4 [(_, Cl [_, _, _, _, _] _), _, _, (_, Cl [_, _, _, _, _, _, _, _] _), _, (_, Cl [_] _), (_, Cl [_] _), (_, Cl [_] _), (_, Cl [_] _)]) hf hg4 => ?_)
  have hg4 := Nat.le_trans hF.size hg4
  have hF := hF.step0 hf
  refine ⟨hp.picks [3, 5, 6] (by decide), ?_⟩
  refine Pl_a rfl (wtd0 rfl) (by rfl) ?_
  first
    | refine a_store (i := 0) rfl rfl rfl rfl rfl Ty.sz_3 rfl hp rfl (by first | decide | (simp; done) | (simp; omega)) (fun w5 (hp : Hp w5 [(_, Cl [_, _, _, _, _] _), _, _, (_, Cl [_, _, _, _, _, _, _, _] _), _, (_, Cl [_] _), (_, Cl [_] _), (_, Cl [_] _), (_, Cl [_] _)]) hf _ => ?_)
    | refine a_store (i := 1) rfl rfl rfl rfl rfl Ty.sz_3 rfl hp rfl (by first | decide | (simp; done) | (simp; omega)) (fun w5 (hp : Hp w5 [(_, Cl [_, _, _, _, _] _), _, _, (_, Cl [_, _, _, _, _, _, _, _] _), _, (_, Cl [_] _), (_, Cl [_] _), (_, Cl [_] _), (_, Cl [_] _)]) hf _ => ?_)
    | refine a_store (i := 2) rfl rfl rfl rfl rfl Ty.sz_3 rfl hp rfl (by first | decide | (simp; done) | (simp; omega)) (fun w5 (hp : Hp w5 [(_, Cl [_, _, _, _, _] _), _, _, (_, Cl [_, _, _, _, _, _, _, _] _), _, (_, Cl [_] _), (_, Cl [_] _), (_, Cl [_] _), (_, Cl [_] _)]) hf _ => ?_)
    | refine a_store (i := 3) rfl rfl rfl rfl rfl Ty.sz_3 rfl hp rfl (by first | decide | (simp; done) | (simp; omega)) (fun w5 (hp : Hp w5 [(_, Cl [_, _, _, _, _] _), _, _, (_, Cl [_, _, _, _, _, _, _, _] _), _, (_, Cl [_] _), (_, Cl [_] _), (_, Cl [_] _), (_, Cl [_] _)]) hf _ => ?_)
    | refine a_store (i := 4) rfl rfl rfl rfl rfl Ty.sz_3 rfl hp rfl (by first | decide | (simp; done) | (simp; omega)) (fun w5 (hp : Hp w5 [(_, Cl [_, _, _, _, _] _), _, _, (_, Cl [_, _, _, _, _, _, _, _] _), _, (_, Cl [_] _), (_, Cl [_] _), (_, Cl [_] _), (_, Cl [_] _)]) hf _ => ?_)
    | refine a_store (i := 5) rfl rfl rfl rfl rfl Ty.sz_3 rfl hp rfl (by first | decide | (simp; done) | (simp; omega)) (fun w5 (hp : Hp w5 [(_, Cl [_, _, _, _, _] _), _, _, (_, Cl [_, _, _, _, _, _, _, _] _), _, (_, Cl [_] _), (_, Cl [_] _), (_, Cl [_] _), (_, Cl [_] _)]) hf _ => ?_)
    | refine a_store (i := 6) rfl rfl rfl rfl rfl Ty.sz_3 rfl hp rfl (by first | decide | (simp; done) | (simp; omega)) (fun w5 (hp : Hp w5 [(_, Cl [_, _, _, _, _] _), _, _, (_, Cl [_, _, _, _, _, _, _, _] _), _, (_, Cl [_] _), (_, Cl [_] _), (_, Cl [_] _), (_, Cl [_] _)]) hf _ => ?_)
    | refine a_store (i := 7) rfl rfl rfl rfl rfl Ty.sz_3 rfl hp rfl (by first | decide | (simp; done) | (simp; omega)) (fun w5 (hp : Hp w5 [(_, Cl [_, _, _, _, _] _), _, _, (_, Cl [_, _, _, _, _, _, _, _] _), _, (_, Cl [_] _), (_, Cl [_] _), (_, Cl [_] _), (_, Cl [_] _)]) hf _ => ?_)
    | refine a_store (i := 8) rfl rfl rfl rfl rfl Ty.sz_3 rfl hp rfl (by first | decide | (simp; done) | (simp; omega)) (fun w5 (hp : Hp w5 [(_, Cl [_, _, _, _, _] _), _, _, (_, Cl [_, _, _, _, _, _, _, _] _), _, (_, Cl [_] _), (_, Cl [_] _), (_, Cl [_] _), (_, Cl [_] _)]) hf _ => ?_)
  have hF := hF.step hf (by intro y hy; simp only [List.mem_cons, List.not_mem_nil, or_false] at hy; subst hy; first | (exact Or.inr (by omega)) | (exact Or.inl (by simp)))
  refine ⟨hp.picks [3, 5, 6] (by decide), ?_⟩
  refine Pl_nil (Th_n (hK2 _ _ ?_))
  refine Wf_seq ?_
  refine Wf_seq ?_
  refine Wf_x (fun K3 hK3 => ?_)
  refine Wp_region ?_
  refine Ls_y (wtd0 rfl) rfl rfl (y_move rfl rfl) ?_
  refine Ls_a (wtd0 rfl) ?_
  refine a_call rfl rfl rfl rfl (mchunk_ok _ _ _ _) (fun v wc2 ⟨gs, gn, hv, hN⟩ => ?_)
  subst hv
  have hp : Hp wc2 [(_, Cl [_, _, _, _, _] _), _, _, (_, Cl [_, _, _, _, _, _, _, _] _), _, (_, Cl [_] _), (_, Cl [_] _), (_, Cl [_] _), (_, Cl [_] _), (_, Cl [_] _), (_, Cl [_] _)] := hp.add hN
  have hgs := Nat.le_trans hF.size (hN.nw gs (by simp [keys]))
  have hF := hF.step0 hN.fr
  refine Ls_nil (Th_n (hK3 _ _ ?_))
  refine Wf_rf rfl Ty.en_61 (fun cc Dm l wL hc1 hc2 hc3 htm hF0 hDn hln hpush => ?_)
  have hl0 : w.heap.size ≤ l := Nat.le_trans hF.size hln
  have hd0 : w.heap.size ≤ Dm := Nat.le_trans hF.size hDn
  have hp : Hp wL [(_, Cl [_, _, _, _, _] _), _, _, (_, Cl [_, _, _, _, _, _, _, _] _), _, (_, Cl [_] _), (_, Cl [_] _), (_, Cl [_] _), (_, Cl [_] _), (_, Cl [_] _), (_, Cl [_] _), _, _] := hpush _ hp
  have hF := hF.step0 hF0
  have hcc : c = c := rfl
  obtain ⟨J0, hJ0⟩ : ∃ J0 : Nat → World → Prop, J0 = fun k W => Hp W (mH gm p (wrM D M n b k) M ++ [(some gb, ClF (b.map bv ++ spb) 5 fr), (some g1, Cl [.pointer (some ⟨gm, 0, none⟩)] 42), (some g2, Cl [.int .u32 (n : Int)] 32), (some g3, Cl [.int .i64 0] 26), (some g4, Cl [.int .i64 ((mSlot M n k : Nat) : Int)] 3), (some gs, Cl [.slice (some ⟨gb, 0, none⟩) b.length c] 45), (some gn, Cl [.int .i64 50] 3), (some Dm, .deferred (some [])), (some l, Lr cc .ready none)]) ∧ Fr [p.gd, p.gn, p.gl] w W := ⟨_, rfl⟩
  refine (mchunk1_ok l gs gn gb b.length c wL hbl hbc J0 (fun _ => False) ?_ ?_ ?_ ?_).mono (fun _ W' hq => ?_)
  · intro k W hj
    rw [hJ0] at hj
    exact hj.1.picks [9, 10] (by decide)
  · intro k W W2 hj hf
    rw [hJ0] at hj ⊢
    exact ⟨hj.1.keep0 hf, hj.2.step0 hf⟩
  · intro k W hk hj
    rw [hJ0] at hj
    obtain ⟨hp, hG⟩ := hj
    have hp : Hp W [(_, Cl [_, _, _, _, _] _), _, _, (_, Cl [_, _, _, _, _, _, _, _] _), _, (_, Cl [_] _), (_, Cl [_] _), (_, Cl [_] _), (_, Cl [_] _), (_, Cl [_] _), (_, Cl [_] _), _, _] := hp
    have hF := Fr.refl [p.gd, p.gn, p.gl, l, g4] W
    have h4n : w.heap.size ≤ g4 := by omega
    refine yieldsTo [27] hc1 rfl rfl (hp.at (i := 12) rfl) htm (fun [inst : Dfs] => ?_)
    rw [hc2]
    dsimp only [parEnv]
    have hfg := hgen
    have hk5 : 50 * k < b.length := by unfold chK at hk; omega
    have hcut := chunkB_cells b spb k hk5
    have hcl := chunkB_len b k
    have hDk := wrM_ok (M := M) (n := n) (b := b) hD k
    refine Wp_region ?_
    refine Ls_y (wtd0 rfl) rfl rfl (y_assign rfl rfl) ?_
    refine Ls_nil (Th_n (⟨_, 12, hp, rfl, fun WB hp hf => ?_⟩))
    have hp : Hp WB [(_, Cl [_, _, _, _, _] _), _, _, (_, Cl [_, _, _, _, _, _, _, _] _), _, (_, Cl [_] _), (_, Cl [_] _), (_, Cl [_] _), (_, Cl [_] _), (_, Cl [_] _), (_, Cl [_] _), _, _] := hp
    have hF := hF.step hf (by simp)
    rw [hc3]
    refine Wp_block ?_
    refine Wp_seq fun K4 hK4 => ?_
    refine Wp_plan (fun W => Hp W (pickL (heapOf hp) [3, 4, 5, 6])) [(true, 0), (true, 1), (true, 2), (true, 3), (true, 4), (true, 5), (true, 6), (true, 7), (false, 8), (true, 9), (true, 10), (true, 11), (true, 12), (true, 13)] Ty.mx_0 (by kernel_rfl) (by kernel_rfl) rfl ((hp.picks [3, 4, 5, 6] (by decide)).drew) ?_
    have hp := hp.drew
    have hF := hF.step0 (Fr.drew _)
    first
      | refine Pl_y rfl (wtd0 rfl) rfl rfl (y_load (i := 0) rfl rfl Ty.pl_42 (fun _ h => h) rfl rfl) ?_
      | refine Pl_y rfl (wtd0 rfl) rfl rfl (y_load (i := 1) rfl rfl Ty.pl_42 (fun _ h => h) rfl rfl) ?_
      | refine Pl_y rfl (wtd0 rfl) rfl rfl (y_load (i := 2) rfl rfl Ty.pl_42 (fun _ h => h) rfl rfl) ?_
      | refine Pl_y rfl (wtd0 rfl) rfl rfl (y_load (i := 3) rfl rfl Ty.pl_42 (fun _ h => h) rfl rfl) ?_
    refine Pl_y rfl (wtd0 rfl) rfl rfl (y_nil rfl rfl) ?_
    refine Pl_y rfl (wtd0 rfl) rfl rfl (y_fld rfl rfl Ty.fo_74_3) ?_
    first
      | refine Pl_y rfl (wtd0 rfl) rfl rfl (y_load (i := 0) rfl rfl Ty.pl_33 (fun _ h => h) rfl rfl) ?_
      | refine Pl_y rfl (wtd0 rfl) rfl rfl (y_load (i := 1) rfl rfl Ty.pl_33 (fun _ h => h) rfl rfl) ?_
      | refine Pl_y rfl (wtd0 rfl) rfl rfl (y_load (i := 2) rfl rfl Ty.pl_33 (fun _ h => h) rfl rfl) ?_
      | refine Pl_y rfl (wtd0 rfl) rfl rfl (y_load (i := 3) rfl rfl Ty.pl_33 (fun _ h => h) rfl rfl) ?_
    first
      | refine Pl_y rfl (wtd0 rfl) rfl rfl (y_load (i := 0) rfl rfl Ty.pl_32 (fun _ h => h) rfl rfl) ?_
      | refine Pl_y rfl (wtd0 rfl) rfl rfl (y_load (i := 1) rfl rfl Ty.pl_32 (fun _ h => h) rfl rfl) ?_
      | refine Pl_y rfl (wtd0 rfl) rfl rfl (y_load (i := 2) rfl rfl Ty.pl_32 (fun _ h => h) rfl rfl) ?_
      | refine Pl_y rfl (wtd0 rfl) rfl rfl (y_load (i := 3) rfl rfl Ty.pl_32 (fun _ h => h) rfl rfl) ?_
    refine Pl_y rfl (wtd0 rfl) rfl rfl (y_move rfl rfl) ?_
    refine Pl_y rfl (wtd0 rfl) rfl rfl (y_cvb (r := chunkB b k) rfl rfl Try.underlying45 Try.underlying5 Try.underlying9 hcl (by intro W hS; have hh := range_ofF (i := 1) (k := 50 * k) (m := chL b.length k) hS rfl; rw [hcut] at hh; exact hh)) ?_
    refine Pl_y rfl (wtd0 rfl) rfl rfl (y_build (cells := [_, _, _, _]) rfl rfl Ty.zc_60 Ty.ps_60 rfl) ?_
    refine Pl_a rfl (wtd0 rfl) (by rfl) ?_
    refine a_call rfl rfl rfl rfl (pack_ok M.gen (n : Int) 0 (chunkB b k) _ hgen.1 hgen.2 (by omega) (by omega) (by omega) (by omega)) (fun v w6 ⟨hv, hf⟩ => ?_)
    subst hv
    have hp := hp.keep0 hf
    have hF := hF.step0 hf
    refine ⟨hp.picks [3, 4, 5, 6] (by decide), ?_⟩
    refine Pl_y rfl (wtd0 rfl) rfl rfl (y_move rfl rfl) ?_
    refine Pl_y rfl (wtd0 rfl) rfl rfl (y_ext rfl rfl rfl) ?_
    refine Pl_y rfl (wtd0 rfl) rfl rfl (y_ext rfl rfl rfl) ?_
    refine Pl_y rfl (wtd0 rfl) rfl rfl (y_assign rfl rfl) ?_
    refine Pl_y rfl (wtd0 rfl) rfl rfl (y_assign rfl rfl) ?_
    refine Pl_nil (Th_n (hK4 _ _ ?_))
    refine Wp_seq fun K5 hK5 => ?_
    refine Wp_seq fun K6 hK6 => ?_
    refine Wp_plan (fun W => Hp W (pickL (heapOf hp) [3, 5, 8])) [(true, 0), (true, 1), (true, 2), (true, 3), (true, 4), (true, 5), (false, 6), (true, 7)] Ty.mx_0 (by kernel_rfl) (by kernel_rfl) rfl ((hp.picks [3, 5, 8] (by decide)).drew) ?_
    have hp := hp.drew
    have hF := hF.step0 (Fr.drew _)
    first
      | refine Pl_y rfl (wtd0 rfl) rfl rfl (y_load (i := 0) rfl rfl Ty.pl_42 (fun _ h => h) rfl rfl) ?_
      | refine Pl_y rfl (wtd0 rfl) rfl rfl (y_load (i := 1) rfl rfl Ty.pl_42 (fun _ h => h) rfl rfl) ?_
      | refine Pl_y rfl (wtd0 rfl) rfl rfl (y_load (i := 2) rfl rfl Ty.pl_42 (fun _ h => h) rfl rfl) ?_
    refine Pl_y rfl (wtd0 rfl) rfl rfl (y_nil rfl rfl) ?_
    refine Pl_y rfl (wtd0 rfl) rfl rfl (y_fld rfl rfl Ty.fo_74_0) ?_
    first
      | refine Pl_y rfl (wtd0 rfl) rfl rfl (y_load (i := 0) rfl rfl Ty.pl_25 (fun _ h => h) rfl rfl) ?_
      | refine Pl_y rfl (wtd0 rfl) rfl rfl (y_load (i := 1) rfl rfl Ty.pl_25 (fun _ h => h) rfl rfl) ?_
      | refine Pl_y rfl (wtd0 rfl) rfl rfl (y_load (i := 2) rfl rfl Ty.pl_25 (fun _ h => h) rfl rfl) ?_
    first
      | refine Pl_y rfl (wtd0 rfl) rfl rfl (y_load (i := 0) rfl rfl Ty.pl_3 (fun _ h => h) rfl rfl) ?_
      | refine Pl_y rfl (wtd0 rfl) rfl rfl (y_load (i := 1) rfl rfl Ty.pl_3 (fun _ h => h) rfl rfl) ?_
      | refine Pl_y rfl (wtd0 rfl) rfl rfl (y_load (i := 2) rfl rfl Ty.pl_3 (fun _ h => h) rfl rfl) ?_
    refine Pl_y rfl (wtd0 rfl) rfl rfl (y_move rfl rfl) ?_
    refine Pl_a rfl (wtd0 rfl) (by rfl) ?_
    refine a_call rfl rfl rfl rfl (dwrite_m p (wrM D M n b k) _ (hp.picks [0, 1, 2] (by decide)) hDk ((mSlot M n k : Nat) : Int) (mCell M n b k)) (fun v w8 ⟨hv, hM⟩ => ?_)
    rw [hwr k hk] at hv
    subst hv
    have hp : Hp w8 [(_, Cl [_, _, _, _, _, _, _, _] _), _, (_, Cl [_] _), (_, Cl [_] _), (_, Cl [_] _), (_, Cl [_] _), (_, Cl [_] _), (_, Cl [_] _), _, _, (_, Cl [_, _, _, _, _] _), _, _] := hp.call [3, 4, 5, 6, 7, 8, 9, 10, 11, 12] [0, 1, 2] (by decide) rfl hM
    have hF := hF.step hM.fr (by simp [keys, dkH])
    refine ⟨hp.picks [0, 2, 5] (by decide), ?_⟩
    refine Pl_y rfl (wtd0 rfl) rfl rfl (y_assign rfl rfl) ?_
    refine Pl_nil (Th_n (hK6 _ _ ?_))
    refine Wp_seq fun K7 hK7 => ?_
    refine Wp_region ?_
    refine Ls_y (wtd0 rfl) rfl rfl (y_move rfl rfl) ?_
    refine Ls_y (wtd0 rfl) rfl rfl (y_neF rfl rfl rfl (by omega)) ?_
    refine Ls_nil (Th_n (hK7 _ _ ?_))
    refine Wp_cond_f rfl ?_
    refine Wp_skip (Th_n (hK5 _ _ ?_))
    refine Wp_region ?_
    first
      | refine Ls_y (wtd0 rfl) rfl rfl (y_load (i := 0) rfl rfl Ty.pl_3 (fun _ e => e ▸ hp) rfl rfl) ?_
      | refine Ls_y (wtd0 rfl) rfl rfl (y_load (i := 1) rfl rfl Ty.pl_3 (fun _ e => e ▸ hp) rfl rfl) ?_
      | refine Ls_y (wtd0 rfl) rfl rfl (y_load (i := 2) rfl rfl Ty.pl_3 (fun _ e => e ▸ hp) rfl rfl) ?_
      | refine Ls_y (wtd0 rfl) rfl rfl (y_load (i := 3) rfl rfl Ty.pl_3 (fun _ e => e ▸ hp) rfl rfl) ?_
      | refine Ls_y (wtd0 rfl) rfl rfl (y_load (i := 4) rfl rfl Ty.pl_3 (fun _ e => e ▸ hp) rfl rfl) ?_
      | refine Ls_y (wtd0 rfl) rfl rfl (y_load (i := 5) rfl rfl Ty.pl_3 (fun _ e => e ▸ hp) rfl rfl) ?_
      | refine Ls_y (wtd0 rfl) rfl rfl (y_load (i := 6) rfl rfl Ty.pl_3 (fun _ e => e ▸ hp) rfl rfl) ?_
      | refine Ls_y (wtd0 rfl) rfl rfl (y_load (i := 7) rfl rfl Ty.pl_3 (fun _ e => e ▸ hp) rfl rfl) ?_
      | refine Ls_y (wtd0 rfl) rfl rfl (y_load (i := 8) rfl rfl Ty.pl_3 (fun _ e => e ▸ hp) rfl rfl) ?_
      | refine Ls_y (wtd0 rfl) rfl rfl (y_load (i := 9) rfl rfl Ty.pl_3 (fun _ e => e ▸ hp) rfl rfl) ?_
      | refine Ls_y (wtd0 rfl) rfl rfl (y_load (i := 10) rfl rfl Ty.pl_3 (fun _ e => e ▸ hp) rfl rfl) ?_
      | refine Ls_y (wtd0 rfl) rfl rfl (y_load (i := 11) rfl rfl Ty.pl_3 (fun _ e => e ▸ hp) rfl rfl) ?_
      | refine Ls_y (wtd0 rfl) rfl rfl (y_load (i := 12) rfl rfl Ty.pl_3 (fun _ e => e ▸ hp) rfl rfl) ?_
    refine Ls_y (wtd0 rfl) rfl rfl (y_add (c := ((mSlot M n (k + 1) : Nat) : Int)) rfl rfl rfl (by rw [IntKind.wrap_i64]; simp only [mSlot]; omega)) ?_
    refine Ls_a (wtd0 rfl) ?_
    first
      | refine a_store (i := 0) rfl rfl rfl rfl rfl Ty.sz_3 rfl hp rfl (by first | decide | (simp; done) | (simp; omega)) (fun w6 (hp : Hp w6 [(_, Cl [_, _, _, _, _, _, _, _] _), _, (_, Cl [_] _), (_, Cl [_] _), (_, Cl [_] _), (_, Cl [_] _), (_, Cl [_] _), (_, Cl [_] _), _, _, (_, Cl [_, _, _, _, _] _), _, _]) hf _ => ?_)
      | refine a_store (i := 1) rfl rfl rfl rfl rfl Ty.sz_3 rfl hp rfl (by first | decide | (simp; done) | (simp; omega)) (fun w6 (hp : Hp w6 [(_, Cl [_, _, _, _, _, _, _, _] _), _, (_, Cl [_] _), (_, Cl [_] _), (_, Cl [_] _), (_, Cl [_] _), (_, Cl [_] _), (_, Cl [_] _), _, _, (_, Cl [_, _, _, _, _] _), _, _]) hf _ => ?_)
      | refine a_store (i := 2) rfl rfl rfl rfl rfl Ty.sz_3 rfl hp rfl (by first | decide | (simp; done) | (simp; omega)) (fun w6 (hp : Hp w6 [(_, Cl [_, _, _, _, _, _, _, _] _), _, (_, Cl [_] _), (_, Cl [_] _), (_, Cl [_] _), (_, Cl [_] _), (_, Cl [_] _), (_, Cl [_] _), _, _, (_, Cl [_, _, _, _, _] _), _, _]) hf _ => ?_)
      | refine a_store (i := 3) rfl rfl rfl rfl rfl Ty.sz_3 rfl hp rfl (by first | decide | (simp; done) | (simp; omega)) (fun w6 (hp : Hp w6 [(_, Cl [_, _, _, _, _, _, _, _] _), _, (_, Cl [_] _), (_, Cl [_] _), (_, Cl [_] _), (_, Cl [_] _), (_, Cl [_] _), (_, Cl [_] _), _, _, (_, Cl [_, _, _, _, _] _), _, _]) hf _ => ?_)
      | refine a_store (i := 4) rfl rfl rfl rfl rfl Ty.sz_3 rfl hp rfl (by first | decide | (simp; done) | (simp; omega)) (fun w6 (hp : Hp w6 [(_, Cl [_, _, _, _, _, _, _, _] _), _, (_, Cl [_] _), (_, Cl [_] _), (_, Cl [_] _), (_, Cl [_] _), (_, Cl [_] _), (_, Cl [_] _), _, _, (_, Cl [_, _, _, _, _] _), _, _]) hf _ => ?_)
      | refine a_store (i := 5) rfl rfl rfl rfl rfl Ty.sz_3 rfl hp rfl (by first | decide | (simp; done) | (simp; omega)) (fun w6 (hp : Hp w6 [(_, Cl [_, _, _, _, _, _, _, _] _), _, (_, Cl [_] _), (_, Cl [_] _), (_, Cl [_] _), (_, Cl [_] _), (_, Cl [_] _), (_, Cl [_] _), _, _, (_, Cl [_, _, _, _, _] _), _, _]) hf _ => ?_)
      | refine a_store (i := 6) rfl rfl rfl rfl rfl Ty.sz_3 rfl hp rfl (by first | decide | (simp; done) | (simp; omega)) (fun w6 (hp : Hp w6 [(_, Cl [_, _, _, _, _, _, _, _] _), _, (_, Cl [_] _), (_, Cl [_] _), (_, Cl [_] _), (_, Cl [_] _), (_, Cl [_] _), (_, Cl [_] _), _, _, (_, Cl [_, _, _, _, _] _), _, _]) hf _ => ?_)
      | refine a_store (i := 7) rfl rfl rfl rfl rfl Ty.sz_3 rfl hp rfl (by first | decide | (simp; done) | (simp; omega)) (fun w6 (hp : Hp w6 [(_, Cl [_, _, _, _, _, _, _, _] _), _, (_, Cl [_] _), (_, Cl [_] _), (_, Cl [_] _), (_, Cl [_] _), (_, Cl [_] _), (_, Cl [_] _), _, _, (_, Cl [_, _, _, _, _] _), _, _]) hf _ => ?_)
      | refine a_store (i := 8) rfl rfl rfl rfl rfl Ty.sz_3 rfl hp rfl (by first | decide | (simp; done) | (simp; omega)) (fun w6 (hp : Hp w6 [(_, Cl [_, _, _, _, _, _, _, _] _), _, (_, Cl [_] _), (_, Cl [_] _), (_, Cl [_] _), (_, Cl [_] _), (_, Cl [_] _), (_, Cl [_] _), _, _, (_, Cl [_, _, _, _, _] _), _, _]) hf _ => ?_)
      | refine a_store (i := 9) rfl rfl rfl rfl rfl Ty.sz_3 rfl hp rfl (by first | decide | (simp; done) | (simp; omega)) (fun w6 (hp : Hp w6 [(_, Cl [_, _, _, _, _, _, _, _] _), _, (_, Cl [_] _), (_, Cl [_] _), (_, Cl [_] _), (_, Cl [_] _), (_, Cl [_] _), (_, Cl [_] _), _, _, (_, Cl [_, _, _, _, _] _), _, _]) hf _ => ?_)
      | refine a_store (i := 10) rfl rfl rfl rfl rfl Ty.sz_3 rfl hp rfl (by first | decide | (simp; done) | (simp; omega)) (fun w6 (hp : Hp w6 [(_, Cl [_, _, _, _, _, _, _, _] _), _, (_, Cl [_] _), (_, Cl [_] _), (_, Cl [_] _), (_, Cl [_] _), (_, Cl [_] _), (_, Cl [_] _), _, _, (_, Cl [_, _, _, _, _] _), _, _]) hf _ => ?_)
      | refine a_store (i := 11) rfl rfl rfl rfl rfl Ty.sz_3 rfl hp rfl (by first | decide | (simp; done) | (simp; omega)) (fun w6 (hp : Hp w6 [(_, Cl [_, _, _, _, _, _, _, _] _), _, (_, Cl [_] _), (_, Cl [_] _), (_, Cl [_] _), (_, Cl [_] _), (_, Cl [_] _), (_, Cl [_] _), _, _, (_, Cl [_, _, _, _, _] _), _, _]) hf _ => ?_)
      | refine a_store (i := 12) rfl rfl rfl rfl rfl Ty.sz_3 rfl hp rfl (by first | decide | (simp; done) | (simp; omega)) (fun w6 (hp : Hp w6 [(_, Cl [_, _, _, _, _, _, _, _] _), _, (_, Cl [_] _), (_, Cl [_] _), (_, Cl [_] _), (_, Cl [_] _), (_, Cl [_] _), (_, Cl [_] _), _, _, (_, Cl [_, _, _, _, _] _), _, _]) hf _ => ?_)
    have hF := hF.step hf (by intro y hy; simp only [List.mem_cons, List.not_mem_nil, or_false] at hy; subst hy; first | (exact Or.inr (by omega)) | (exact Or.inl (by simp)))
    refine Ls_nil (Ib_n (Rd_n (i := 9) hp rfl (fun WE hp hf => ?_)))
    have hF := hF.step hf (by simp)
    rw [hJ0]
    exact ⟨(hp.picks [10, 11, 12, 0, 1, 2, 3, 4, 5, 6, 7, 8, 9] (by decide)), hG.step hF (by simp [hl0, h4n])⟩
  · rw [hJ0]
    exact ⟨hp, hF⟩
  · have hq := hq.resolve_right id
    rw [hJ0] at hq
    obtain ⟨hp, hF⟩ := hq
    have hp : Hp W' [(_, Cl [_, _, _, _, _] _), _, _, (_, Cl [_, _, _, _, _, _, _, _] _), _, (_, Cl [_] _), (_, Cl [_] _), (_, Cl [_] _), (_, Cl [_] _), (_, Cl [_] _), (_, Cl [_] _), _, _] := hp
    have hDk := wrM_ok (M := M) (n := n) (b := b) hD (chK b.length)
    refine .inl ⟨_, 12, hp, rfl, ?_⟩
    intro W2 hp hf inst
    have hp : Hp W2 [(_, Cl [_, _, _, _, _] _), _, _, (_, Cl [_, _, _, _, _, _, _, _] _), _, (_, Cl [_] _), (_, Cl [_] _), (_, Cl [_] _), (_, Cl [_] _), (_, Cl [_] _), (_, Cl [_] _), _, _] := hp
    have hF := hF.step hf (by simp [hl0])
    refine Wp_seq fun K8 hK8 => ?_
    refine Wp_region ?_
    first
      | refine Ls_y (wtd0 rfl) rfl rfl (y_load (i := 0) rfl rfl Ty.pl_42 (fun _ e => e ▸ hp) rfl rfl) ?_
      | refine Ls_y (wtd0 rfl) rfl rfl (y_load (i := 1) rfl rfl Ty.pl_42 (fun _ e => e ▸ hp) rfl rfl) ?_
      | refine Ls_y (wtd0 rfl) rfl rfl (y_load (i := 2) rfl rfl Ty.pl_42 (fun _ e => e ▸ hp) rfl rfl) ?_
      | refine Ls_y (wtd0 rfl) rfl rfl (y_load (i := 3) rfl rfl Ty.pl_42 (fun _ e => e ▸ hp) rfl rfl) ?_
      | refine Ls_y (wtd0 rfl) rfl rfl (y_load (i := 4) rfl rfl Ty.pl_42 (fun _ e => e ▸ hp) rfl rfl) ?_
      | refine Ls_y (wtd0 rfl) rfl rfl (y_load (i := 5) rfl rfl Ty.pl_42 (fun _ e => e ▸ hp) rfl rfl) ?_
      | refine Ls_y (wtd0 rfl) rfl rfl (y_load (i := 6) rfl rfl Ty.pl_42 (fun _ e => e ▸ hp) rfl rfl) ?_
      | refine Ls_y (wtd0 rfl) rfl rfl (y_load (i := 7) rfl rfl Ty.pl_42 (fun _ e => e ▸ hp) rfl rfl) ?_
      | refine Ls_y (wtd0 rfl) rfl rfl (y_load (i := 8) rfl rfl Ty.pl_42 (fun _ e => e ▸ hp) rfl rfl) ?_
      | refine Ls_y (wtd0 rfl) rfl rfl (y_load (i := 9) rfl rfl Ty.pl_42 (fun _ e => e ▸ hp) rfl rfl) ?_
      | refine Ls_y (wtd0 rfl) rfl rfl (y_load (i := 10) rfl rfl Ty.pl_42 (fun _ e => e ▸ hp) rfl rfl) ?_
      | refine Ls_y (wtd0 rfl) rfl rfl (y_load (i := 11) rfl rfl Ty.pl_42 (fun _ e => e ▸ hp) rfl rfl) ?_
      | refine Ls_y (wtd0 rfl) rfl rfl (y_load (i := 12) rfl rfl Ty.pl_42 (fun _ e => e ▸ hp) rfl rfl) ?_
    refine Ls_y (wtd0 rfl) rfl rfl (y_nil rfl rfl) ?_
    refine Ls_y (wtd0 rfl) rfl rfl (y_fld rfl rfl Ty.fo_74_0) ?_
    first
      | refine Ls_y (wtd0 rfl) rfl rfl (y_load (i := 0) rfl rfl Ty.pl_25 (fun _ e => e ▸ hp) rfl rfl) ?_
      | refine Ls_y (wtd0 rfl) rfl rfl (y_load (i := 1) rfl rfl Ty.pl_25 (fun _ e => e ▸ hp) rfl rfl) ?_
      | refine Ls_y (wtd0 rfl) rfl rfl (y_load (i := 2) rfl rfl Ty.pl_25 (fun _ e => e ▸ hp) rfl rfl) ?_
      | refine Ls_y (wtd0 rfl) rfl rfl (y_load (i := 3) rfl rfl Ty.pl_25 (fun _ e => e ▸ hp) rfl rfl) ?_
      | refine Ls_y (wtd0 rfl) rfl rfl (y_load (i := 4) rfl rfl Ty.pl_25 (fun _ e => e ▸ hp) rfl rfl) ?_
      | refine Ls_y (wtd0 rfl) rfl rfl (y_load (i := 5) rfl rfl Ty.pl_25 (fun _ e => e ▸ hp) rfl rfl) ?_
      | refine Ls_y (wtd0 rfl) rfl rfl (y_load (i := 6) rfl rfl Ty.pl_25 (fun _ e => e ▸ hp) rfl rfl) ?_
      | refine Ls_y (wtd0 rfl) rfl rfl (y_load (i := 7) rfl rfl Ty.pl_25 (fun _ e => e ▸ hp) rfl rfl) ?_
      | refine Ls_y (wtd0 rfl) rfl rfl (y_load (i := 8) rfl rfl Ty.pl_25 (fun _ e => e ▸ hp) rfl rfl) ?_
      | refine Ls_y (wtd0 rfl) rfl rfl (y_load (i := 9) rfl rfl Ty.pl_25 (fun _ e => e ▸ hp) rfl rfl) ?_
      | refine Ls_y (wtd0 rfl) rfl rfl (y_load (i := 10) rfl rfl Ty.pl_25 (fun _ e => e ▸ hp) rfl rfl) ?_
      | refine Ls_y (wtd0 rfl) rfl rfl (y_load (i := 11) rfl rfl Ty.pl_25 (fun _ e => e ▸ hp) rfl rfl) ?_
      | refine Ls_y (wtd0 rfl) rfl rfl (y_load (i := 12) rfl rfl Ty.pl_25 (fun _ e => e ▸ hp) rfl rfl) ?_
    refine Ls_a (wtd0 rfl) ?_
    refine a_call rfl rfl rfl rfl (dsync_m p (wrM D M n b (chK b.length)) _ (hp.picks [0, 1, 2] (by decide)) hDk) (fun v wy ⟨hv, hM⟩ => ?_)
    subst hv
    have hp : Hp wy [(_, Cl [_, _, _, _, _, _, _, _] _), _, (_, Cl [_] _), (_, Cl [_] _), (_, Cl [_] _), (_, Cl [_] _), (_, Cl [_] _), (_, Cl [_] _), _, _, (_, Cl [_, _, _, _, _] _), _, _] := hp.call [3, 4, 5, 6, 7, 8, 9, 10, 11, 12] [0, 1, 2] (by decide) rfl hM
    have hF := hF.step hM.fr (by simp [keys, dkH])
    refine Ls_a (wtd0 rfl) ?_
    first
      | refine a_store (i := 0) rfl rfl rfl rfl rfl Ty.sz_26 rfl hp rfl (by first | decide | (simp; done) | (simp; omega)) (fun w6 (hp : Hp w6 [(_, Cl [_, _, _, _, _, _, _, _] _), _, (_, Cl [_] _), (_, Cl [_] _), (_, Cl [_] _), (_, Cl [_] _), (_, Cl [_] _), (_, Cl [_] _), _, _, (_, Cl [_, _, _, _, _] _), _, _]) hf _ => ?_)
      | refine a_store (i := 1) rfl rfl rfl rfl rfl Ty.sz_26 rfl hp rfl (by first | decide | (simp; done) | (simp; omega)) (fun w6 (hp : Hp w6 [(_, Cl [_, _, _, _, _, _, _, _] _), _, (_, Cl [_] _), (_, Cl [_] _), (_, Cl [_] _), (_, Cl [_] _), (_, Cl [_] _), (_, Cl [_] _), _, _, (_, Cl [_, _, _, _, _] _), _, _]) hf _ => ?_)
      | refine a_store (i := 2) rfl rfl rfl rfl rfl Ty.sz_26 rfl hp rfl (by first | decide | (simp; done) | (simp; omega)) (fun w6 (hp : Hp w6 [(_, Cl [_, _, _, _, _, _, _, _] _), _, (_, Cl [_] _), (_, Cl [_] _), (_, Cl [_] _), (_, Cl [_] _), (_, Cl [_] _), (_, Cl [_] _), _, _, (_, Cl [_, _, _, _, _] _), _, _]) hf _ => ?_)
      | refine a_store (i := 3) rfl rfl rfl rfl rfl Ty.sz_26 rfl hp rfl (by first | decide | (simp; done) | (simp; omega)) (fun w6 (hp : Hp w6 [(_, Cl [_, _, _, _, _, _, _, _] _), _, (_, Cl [_] _), (_, Cl [_] _), (_, Cl [_] _), (_, Cl [_] _), (_, Cl [_] _), (_, Cl [_] _), _, _, (_, Cl [_, _, _, _, _] _), _, _]) hf _ => ?_)
      | refine a_store (i := 4) rfl rfl rfl rfl rfl Ty.sz_26 rfl hp rfl (by first | decide | (simp; done) | (simp; omega)) (fun w6 (hp : Hp w6 [(_, Cl [_, _, _, _, _, _, _, _] _), _, (_, Cl [_] _), (_, Cl [_] _), (_, Cl [_] _), (_, Cl [_] _), (_, Cl [_] _), (_, Cl [_] _), _, _, (_, Cl [_, _, _, _, _] _), _, _]) hf _ => ?_)
      | refine a_store (i := 5) rfl rfl rfl rfl rfl Ty.sz_26 rfl hp rfl (by first | decide | (simp; done) | (simp; omega)) (fun w6 (hp : Hp w6 [(_, Cl [_, _, _, _, _, _, _, _] _), _, (_, Cl [_] _), (_, Cl [_] _), (_, Cl [_] _), (_, Cl [_] _), (_, Cl [_] _), (_, Cl [_] _), _, _, (_, Cl [_, _, _, _, _] _), _, _]) hf _ => ?_)
      | refine a_store (i := 6) rfl rfl rfl rfl rfl Ty.sz_26 rfl hp rfl (by first | decide | (simp; done) | (simp; omega)) (fun w6 (hp : Hp w6 [(_, Cl [_, _, _, _, _, _, _, _] _), _, (_, Cl [_] _), (_, Cl [_] _), (_, Cl [_] _), (_, Cl [_] _), (_, Cl [_] _), (_, Cl [_] _), _, _, (_, Cl [_, _, _, _, _] _), _, _]) hf _ => ?_)
      | refine a_store (i := 7) rfl rfl rfl rfl rfl Ty.sz_26 rfl hp rfl (by first | decide | (simp; done) | (simp; omega)) (fun w6 (hp : Hp w6 [(_, Cl [_, _, _, _, _, _, _, _] _), _, (_, Cl [_] _), (_, Cl [_] _), (_, Cl [_] _), (_, Cl [_] _), (_, Cl [_] _), (_, Cl [_] _), _, _, (_, Cl [_, _, _, _, _] _), _, _]) hf _ => ?_)
      | refine a_store (i := 8) rfl rfl rfl rfl rfl Ty.sz_26 rfl hp rfl (by first | decide | (simp; done) | (simp; omega)) (fun w6 (hp : Hp w6 [(_, Cl [_, _, _, _, _, _, _, _] _), _, (_, Cl [_] _), (_, Cl [_] _), (_, Cl [_] _), (_, Cl [_] _), (_, Cl [_] _), (_, Cl [_] _), _, _, (_, Cl [_, _, _, _, _] _), _, _]) hf _ => ?_)
      | refine a_store (i := 9) rfl rfl rfl rfl rfl Ty.sz_26 rfl hp rfl (by first | decide | (simp; done) | (simp; omega)) (fun w6 (hp : Hp w6 [(_, Cl [_, _, _, _, _, _, _, _] _), _, (_, Cl [_] _), (_, Cl [_] _), (_, Cl [_] _), (_, Cl [_] _), (_, Cl [_] _), (_, Cl [_] _), _, _, (_, Cl [_, _, _, _, _] _), _, _]) hf _ => ?_)
      | refine a_store (i := 10) rfl rfl rfl rfl rfl Ty.sz_26 rfl hp rfl (by first | decide | (simp; done) | (simp; omega)) (fun w6 (hp : Hp w6 [(_, Cl [_, _, _, _, _, _, _, _] _), _, (_, Cl [_] _), (_, Cl [_] _), (_, Cl [_] _), (_, Cl [_] _), (_, Cl [_] _), (_, Cl [_] _), _, _, (_, Cl [_, _, _, _, _] _), _, _]) hf _ => ?_)
      | refine a_store (i := 11) rfl rfl rfl rfl rfl Ty.sz_26 rfl hp rfl (by first | decide | (simp; done) | (simp; omega)) (fun w6 (hp : Hp w6 [(_, Cl [_, _, _, _, _, _, _, _] _), _, (_, Cl [_] _), (_, Cl [_] _), (_, Cl [_] _), (_, Cl [_] _), (_, Cl [_] _), (_, Cl [_] _), _, _, (_, Cl [_, _, _, _, _] _), _, _]) hf _ => ?_)
      | refine a_store (i := 12) rfl rfl rfl rfl rfl Ty.sz_26 rfl hp rfl (by first | decide | (simp; done) | (simp; omega)) (fun w6 (hp : Hp w6 [(_, Cl [_, _, _, _, _, _, _, _] _), _, (_, Cl [_] _), (_, Cl [_] _), (_, Cl [_] _), (_, Cl [_] _), (_, Cl [_] _), (_, Cl [_] _), _, _, (_, Cl [_, _, _, _, _] _), _, _]) hf _ => ?_)
    have hF := hF.step hf (by intro y hy; simp only [List.mem_cons, List.not_mem_nil, or_false] at hy; subst hy; first | (exact Or.inr (by omega)) | (exact Or.inl (by simp)))
    refine Ls_nil (Th_n (hK8 _ _ ?_))
    first
      | refine Wp_ret (Th_r (FqM_ret (i := 8) hp rfl (fun WE hp hf => ⟨_, (ResN1 rfl (rvp (i := 0) rfl Ty.pl_26 hp rfl rfl)), ?_⟩)))
      | refine Wp_ret (Th_r (FqM_ret (i := 8) hp rfl (fun WE hp hf => ⟨_, (ResN1 rfl (rvp (i := 1) rfl Ty.pl_26 hp rfl rfl)), ?_⟩)))
      | refine Wp_ret (Th_r (FqM_ret (i := 8) hp rfl (fun WE hp hf => ⟨_, (ResN1 rfl (rvp (i := 2) rfl Ty.pl_26 hp rfl rfl)), ?_⟩)))
      | refine Wp_ret (Th_r (FqM_ret (i := 8) hp rfl (fun WE hp hf => ⟨_, (ResN1 rfl (rvp (i := 3) rfl Ty.pl_26 hp rfl rfl)), ?_⟩)))
      | refine Wp_ret (Th_r (FqM_ret (i := 8) hp rfl (fun WE hp hf => ⟨_, (ResN1 rfl (rvp (i := 4) rfl Ty.pl_26 hp rfl rfl)), ?_⟩)))
      | refine Wp_ret (Th_r (FqM_ret (i := 8) hp rfl (fun WE hp hf => ⟨_, (ResN1 rfl (rvp (i := 5) rfl Ty.pl_26 hp rfl rfl)), ?_⟩)))
      | refine Wp_ret (Th_r (FqM_ret (i := 8) hp rfl (fun WE hp hf => ⟨_, (ResN1 rfl (rvp (i := 6) rfl Ty.pl_26 hp rfl rfl)), ?_⟩)))
      | refine Wp_ret (Th_r (FqM_ret (i := 8) hp rfl (fun WE hp hf => ⟨_, (ResN1 rfl (rvp (i := 7) rfl Ty.pl_26 hp rfl rfl)), ?_⟩)))
      | refine Wp_ret (Th_r (FqM_ret (i := 8) hp rfl (fun WE hp hf => ⟨_, (ResN1 rfl (rvp (i := 8) rfl Ty.pl_26 hp rfl rfl)), ?_⟩)))
      | refine Wp_ret (Th_r (FqM_ret (i := 8) hp rfl (fun WE hp hf => ⟨_, (ResN1 rfl (rvp (i := 9) rfl Ty.pl_26 hp rfl rfl)), ?_⟩)))
      | refine Wp_ret (Th_r (FqM_ret (i := 8) hp rfl (fun WE hp hf => ⟨_, (ResN1 rfl (rvp (i := 10) rfl Ty.pl_26 hp rfl rfl)), ?_⟩)))
      | refine Wp_ret (Th_r (FqM_ret (i := 8) hp rfl (fun WE hp hf => ⟨_, (ResN1 rfl (rvp (i := 11) rfl Ty.pl_26 hp rfl rfl)), ?_⟩)))
      | refine Wp_ret (Th_r (FqM_ret (i := 8) hp rfl (fun WE hp hf => ⟨_, (ResN1 rfl (rvp (i := 12) rfl Ty.pl_26 hp rfl rfl)), ?_⟩)))
    exact ⟨rfl, (hp.picks [10, 11, 12, 0, 1] (by decide)), hF.step hf (by simp [hd0])⟩

end Go.Proofs.Ytcpfhnfpokijaaa

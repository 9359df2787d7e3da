/- Walks printed by gen.py out of our own specifications: what the functions named below do. -/
import Derived.Test.YtcpfhnfpokijaaaM8
set_option linter.unusedSimpArgs false
set_option linter.unusedVariables false
namespace Go.Proofs.Ytcpfhnfpokijaaa
open Go.RowKit


def mBytes (frm : Nat) (s : List UInt8) : List UInt8 := numB (frm : Int) ++ (numB (s.length : Int) ++ s)
theorem mwrite_m (gm : Nat) (p : Dp) (D : Dk) (M : Mr) (b : List UInt8) (gb c : Nat) (spb : List Value) (fr : Nat × Nat) (w : World) (hp : Hp w (mH gm p D M ++ [(some gb, ClF (b.map bv ++ spb) 5 fr)])) (hD : DkOk D) (hM : MrB M) (n : Nat) (hn : 1 ≤ n ∧ n ≤ 1000000) (hbl : b.length ≤ 100000) (hbc : b.length ≤ c) (hgen : 0 ≤ M.gen ∧ M.gen < 65536)
    (hwr : ∀ k, k < chK b.length → writeE (wrM D M n b k) ((mSlot M n k : Nat) : Int) (mCell M n b k) = 0) :
    Fn Try.prog 40 [.pointer (some ⟨gm, 0, none⟩), .int .u32 (n : Int), .slice (some ⟨gb, 0, none⟩) b.length c] w fun v w' => v = .int .i64 (syncE (wrM D M n b (chK b.length))) ∧ Mod w w' (mH gm p D M ++ [(some gb, ClF (b.map bv ++ spb) 5 fr)]) (mH gm p (syncD (wrM D M n b (chK b.length))) M ++ [(some gb, ClF (b.map bv ++ spb) 5 fr)]) :=
  (mwrite_ok gm p D M b gb c spb fr w hp hD hM n hn hbl hbc hgen hwr).mono fun _ _ h => ⟨h.1, h.2.2.mono (by simp [keys, mH, dkH]), h.2.1, fun _ hk => .inl hk⟩
theorem mmod {gm : Nat} {p : Dp} {D D' : Dk} {M M' : Mr} {w w' : World} (hF : Fr [p.gd, p.gn, p.gl, gm] w w') (hp : Hp w' (mH gm p D' M')) : Mod w w' (mH gm p D M) (mH gm p D' M') := ⟨hF, hp, fun _ hk => .inl hk⟩

set_option maxRecDepth 20000 in
theorem mput_full (gm : Nat) (p : Dp) (D : Dk) (M : Mr) (w : World) (hp : Hp w (mH gm p D M)) (hD : DkOk D) (hM : MrB M) (ho : M.over = false) (frm : Nat) (hfr : frm < 4294967296) (s : List UInt8) (hs : s.length ≤ 90000) (hfull : 50 * M.size < (mBytes frm s).length) :
    Fn Try.prog 20 [.pointer (some ⟨gm, 0, none⟩), .int .u32 (frm : Int), sv s] w fun v w' => v = .int .i64 4 ∧ Mod w w' (mH gm p D M) (mH gm p D M) := by
  refine Fn_of 53 Ty.en_20 Try.func20 rfl rfl rfl ?_
  dsimp only [argEnv]
  have hp : Hp w [(_, Cl [_, _, _, _, _] _), _, _, (_, Cl [_, _, _, _, _, _, _, _] _)] := hp
  have hF := Fr.refl [p.gd, p.gn, p.gl, gm] w
  have hMr := hM
  have hms := hM.size
  have hnl1 := numB_len (frm : Int)
  have hnl2 := numB_len (s.length : Int)
  have hbl : (mBytes frm s).length = (numB (frm : Int)).length + ((numB (s.length : Int)).length + s.length) := by simp [mBytes]
  refine Wp_seq fun K1 hK1 => ?_
  refine Wp_region ?_
  refine Ls_y (wtd0 rfl) rfl rfl (y_assign rfl rfl) ?_
  refine Ls_nil (Th_n (hK1 _ _ ?_))
  refine Wp_seq fun K2 hK2 => ?_
  refine Wp_seq fun K3 hK3 => ?_
  refine Wp_region ?_
  refine Ls_y (wtd0 rfl) rfl rfl (y_move rfl rfl) ?_
  refine Ls_y (wtd0 rfl) rfl rfl (y_nil rfl rfl) ?_
  refine Ls_y (wtd0 rfl) rfl rfl (y_fld rfl rfl Ty.fo_74_5) ?_
  first
    | refine Ls_y (wtd0 rfl) rfl rfl (y_load (i := 0) rfl rfl Ty.pl_4 (fun _ e => e ▸ hp) rfl rfl) ?_
    | refine Ls_y (wtd0 rfl) rfl rfl (y_load (i := 1) rfl rfl Ty.pl_4 (fun _ e => e ▸ hp) rfl rfl) ?_
    | refine Ls_y (wtd0 rfl) rfl rfl (y_load (i := 2) rfl rfl Ty.pl_4 (fun _ e => e ▸ hp) rfl rfl) ?_
    | refine Ls_y (wtd0 rfl) rfl rfl (y_load (i := 3) rfl rfl Ty.pl_4 (fun _ e => e ▸ hp) rfl rfl) ?_
  refine Ls_nil (Th_n (hK3 _ _ ?_))
  refine Wp_bool 13 rfl (fun hc1 => absurd hc1 (by simp [ho])) (fun _ => ?_)
  refine Wp_cond_f rfl ?_
  refine Wp_skip (Th_n (hK2 _ _ ?_))
  refine Wp_seq fun K4 hK4 => ?_
  refine Wp_region ?_
  refine Ls_y (wtd0 rfl) rfl rfl (y_move rfl rfl) ?_
  first
    | refine Ls_y (wtd0 rfl) rfl rfl (y_cvi rfl rfl Try.underlying32 Try.underlying24 (wf_u64 (by omega))) ?_
    | refine Ls_y (wtd0 rfl) rfl rfl (y_cvi rfl rfl Try.underlying32 Try.underlying24 wm_u64) ?_
  refine Ls_a (wtd0 rfl) ?_
  refine a_call rfl rfl rfl rfl (onum_ok frm _ hfr) (fun v wn ⟨hv, hf⟩ => ?_)
  subst hv
  have hp := hp.keep0 hf
  have hF := hF.step0 hf
  refine Ls_y (wtd0 rfl) rfl rfl (y_move rfl rfl) ?_
  refine Ls_a (wtd0 rfl) ?_
  refine a_call rfl rfl rfl rfl (otext_ok s _ (by omega)) (fun v wt ⟨hv, hf⟩ => ?_)
  subst hv
  have hp := hp.keep0 hf
  have hF := hF.step0 hf
  refine Ls_y (wtd0 rfl) rfl rfl (y_cat rfl rfl rfl (by first | omega | (simp; omega))) ?_
  refine Ls_a (wtd0 rfl) ?_
  refine a_cvstr (s := mBytes frm s) rfl rfl rfl rfl Try.underlying9 Try.underlying45 Try.underlying5 hp (fun gB c spb fr wcv hbc (hp : Hp wcv [(_, Cl [_, _, _, _, _] _), _, _, (_, Cl [_, _, _, _, _, _, _, _] _), _]) hf hgB => ?_)
  have hgB := Nat.le_trans hF.size hgB
  have hF := hF.step0 hf
  refine Ls_y (wtd0 rfl) rfl rfl (y_assign rfl rfl) ?_
  refine Ls_nil (Th_n (hK4 _ _ ?_))
  refine Wp_seq fun K5 hK5 => ?_
  refine Wp_seq fun K6 hK6 => ?_
  refine Wp_region ?_
  refine Ls_y (wtd0 rfl) rfl rfl (y_move rfl rfl) ?_
  refine Ls_y (wtd0 rfl) rfl rfl (y_lenl rfl rfl Try.underlying45) ?_
  refine Ls_y (wtd0 rfl) rfl rfl (y_move rfl rfl) ?_
  refine Ls_y (wtd0 rfl) rfl rfl (y_nil rfl rfl) ?_
  refine Ls_y (wtd0 rfl) rfl rfl (y_fld rfl rfl Ty.fo_74_2) ?_
  first
    | refine Ls_y (wtd0 rfl) rfl rfl (y_load (i := 0) rfl rfl Ty.pl_3 (fun _ e => e ▸ hp) rfl rfl) ?_
    | refine Ls_y (wtd0 rfl) rfl rfl (y_load (i := 1) rfl rfl Ty.pl_3 (fun _ e => e ▸ hp) rfl rfl) ?_
    | refine Ls_y (wtd0 rfl) rfl rfl (y_load (i := 2) rfl rfl Ty.pl_3 (fun _ e => e ▸ hp) rfl rfl) ?_
    | refine Ls_y (wtd0 rfl) rfl rfl (y_load (i := 3) rfl rfl Ty.pl_3 (fun _ e => e ▸ hp) rfl rfl) ?_
    | refine Ls_y (wtd0 rfl) rfl rfl (y_load (i := 4) rfl rfl Ty.pl_3 (fun _ e => e ▸ hp) rfl rfl) ?_
  refine Ls_y (wtd0 rfl) rfl rfl (y_mul rfl rfl rfl (wf_i64 (by omega))) ?_
  refine Ls_y (wtd0 rfl) rfl rfl (y_gtT rfl rfl rfl (by omega)) ?_
  refine Ls_nil (Th_n (hK6 _ _ ?_))
  refine Wp_cond_t rfl ?_
  refine Wp_seq fun K7 hK7 => ?_
  refine Wp_region ?_
  refine Ls_y (wtd0 rfl) rfl rfl (y_assign rfl rfl) ?_
  refine Ls_nil (Th_n (hK7 _ _ ?_))
  refine Wp_ret (Th_r (Fq_ret (Res1 rfl rfl) ?_))
  exact ⟨rfl, mmod hF (hp.picks [0, 1, 2, 3] (by decide))⟩

set_option maxRecDepth 20000 in
set_option maxHeartbeats 1000000 in
theorem mput_ok (gm : Nat) (p : Dp) (D : Dk) (M : Mr) (w : World) (hp : Hp w (mH gm p D M)) (hD : DkOk D) (hM : MrB M) (ho : M.over = false) (frm : Nat) (hfr : frm < 4294967296) (s : List UInt8) (hs : s.length ≤ 90000) (hfit : (mBytes frm s).length ≤ 50 * M.size) (hgen : 0 ≤ M.gen ∧ M.gen < 65536) (hnn : M.n ≤ 900000) (hwr : ∀ k, k < chK (mBytes frm s).length → writeE (wrM D M (M.n + 1) (mBytes frm s) k) ((mSlot M (M.n + 1) k : Nat) : Int) (mCell M (M.n + 1) (mBytes frm s) k) = 0) (hsy : syncE (wrM D M (M.n + 1) (mBytes frm s) (chK (mBytes frm s).length)) = 0) :
    Fn Try.prog 20 [.pointer (some ⟨gm, 0, none⟩), .int .u32 (frm : Int), sv s] w fun v w' => v = .int .i64 0 ∧ Mod w w' (mH gm p D M) (mH gm p (syncD (wrM D M (M.n + 1) (mBytes frm s) (chK (mBytes frm s).length))) { M with n := M.n + 1, frm := (frm : Int), text := s }) := by
  refine Fn_of 53 Ty.en_20 Try.func20 rfl rfl rfl ?_
  dsimp only [argEnv]
  have hp : Hp w [(_, Cl [_, _, _, _, _] _), _, _, (_, Cl [_, _, _, _, _, _, _, _] _)] := hp
  have hF := Fr.refl [p.gd, p.gn, p.gl, gm] w
  have hMr := hM
  have hms := hM.size
  have hnl1 := numB_len (frm : Int)
  have hnl2 := numB_len (s.length : Int)
  have hbl : (mBytes frm s).length = (numB (frm : Int)).length + ((numB (s.length : Int)).length + s.length) := by simp [mBytes]
  refine Wp_seq fun K1 hK1 => ?_
  refine Wp_region ?_
  refine Ls_y (wtd0 rfl) rfl rfl (y_assign rfl rfl) ?_
  refine Ls_nil (Th_n (hK1 _ _ ?_))
  refine Wp_seq fun K2 hK2 => ?_
  refine Wp_seq fun K3 hK3 => ?_
  refine Wp_region ?_
  refine Ls_y (wtd0 rfl) rfl rfl (y_move rfl rfl) ?_
  refine Ls_y (wtd0 rfl) rfl rfl (y_nil rfl rfl) ?_
  refine Ls_y (wtd0 rfl) rfl rfl (y_fld rfl rfl Ty.fo_74_5) ?_
  first
    | refine Ls_y (wtd0 rfl) rfl rfl (y_load (i := 0) rfl rfl Ty.pl_4 (fun _ e => e ▸ hp) rfl rfl) ?_
    | refine Ls_y (wtd0 rfl) rfl rfl (y_load (i := 1) rfl rfl Ty.pl_4 (fun _ e => e ▸ hp) rfl rfl) ?_
    | refine Ls_y (wtd0 rfl) rfl rfl (y_load (i := 2) rfl rfl Ty.pl_4 (fun _ e => e ▸ hp) rfl rfl) ?_
    | refine Ls_y (wtd0 rfl) rfl rfl (y_load (i := 3) rfl rfl Ty.pl_4 (fun _ e => e ▸ hp) rfl rfl) ?_
  refine Ls_nil (Th_n (hK3 _ _ ?_))
  refine Wp_bool 13 rfl (fun hc1 => absurd hc1 (by simp [ho])) (fun _ => ?_)
  refine Wp_cond_f rfl ?_
  refine Wp_skip (Th_n (hK2 _ _ ?_))
  refine Wp_seq fun K4 hK4 => ?_
  refine Wp_region ?_
  refine Ls_y (wtd0 rfl) rfl rfl (y_move rfl rfl) ?_
  first
    | refine Ls_y (wtd0 rfl) rfl rfl (y_cvi rfl rfl Try.underlying32 Try.underlying24 (wf_u64 (by omega))) ?_
    | refine Ls_y (wtd0 rfl) rfl rfl (y_cvi rfl rfl Try.underlying32 Try.underlying24 wm_u64) ?_
  refine Ls_a (wtd0 rfl) ?_
  refine a_call rfl rfl rfl rfl (onum_ok frm _ hfr) (fun v wn ⟨hv, hf⟩ => ?_)
  subst hv
  have hp := hp.keep0 hf
  have hF := hF.step0 hf
  refine Ls_y (wtd0 rfl) rfl rfl (y_move rfl rfl) ?_
  refine Ls_a (wtd0 rfl) ?_
  refine a_call rfl rfl rfl rfl (otext_ok s _ (by omega)) (fun v wt ⟨hv, hf⟩ => ?_)
  subst hv
  have hp := hp.keep0 hf
  have hF := hF.step0 hf
  refine Ls_y (wtd0 rfl) rfl rfl (y_cat rfl rfl rfl (by first | omega | (simp; omega))) ?_
  refine Ls_a (wtd0 rfl) ?_
  refine a_cvstr (s := mBytes frm s) rfl rfl rfl rfl Try.underlying9 Try.underlying45 Try.underlying5 hp (fun gB c spb fr wcv hbc (hp : Hp wcv [(_, Cl [_, _, _, _, _] _), _, _, (_, Cl [_, _, _, _, _, _, _, _] _), _]) hf hgB => ?_)
  have hgB := Nat.le_trans hF.size hgB
  have hF := hF.step0 hf
  refine Ls_y (wtd0 rfl) rfl rfl (y_assign rfl rfl) ?_
  refine Ls_nil (Th_n (hK4 _ _ ?_))
  refine Wp_seq fun K5 hK5 => ?_
  refine Wp_seq fun K6 hK6 => ?_
  refine Wp_region ?_
  refine Ls_y (wtd0 rfl) rfl rfl (y_move rfl rfl) ?_
  refine Ls_y (wtd0 rfl) rfl rfl (y_lenl rfl rfl Try.underlying45) ?_
  refine Ls_y (wtd0 rfl) rfl rfl (y_move rfl rfl) ?_
  refine Ls_y (wtd0 rfl) rfl rfl (y_nil rfl rfl) ?_
  refine Ls_y (wtd0 rfl) rfl rfl (y_fld rfl rfl Ty.fo_74_2) ?_
  first
    | refine Ls_y (wtd0 rfl) rfl rfl (y_load (i := 0) rfl rfl Ty.pl_3 (fun _ e => e ▸ hp) rfl rfl) ?_
    | refine Ls_y (wtd0 rfl) rfl rfl (y_load (i := 1) rfl rfl Ty.pl_3 (fun _ e => e ▸ hp) rfl rfl) ?_
    | refine Ls_y (wtd0 rfl) rfl rfl (y_load (i := 2) rfl rfl Ty.pl_3 (fun _ e => e ▸ hp) rfl rfl) ?_
    | refine Ls_y (wtd0 rfl) rfl rfl (y_load (i := 3) rfl rfl Ty.pl_3 (fun _ e => e ▸ hp) rfl rfl) ?_
    | refine Ls_y (wtd0 rfl) rfl rfl (y_load (i := 4) rfl rfl Ty.pl_3 (fun _ e => e ▸ hp) rfl rfl) ?_
  refine Ls_y (wtd0 rfl) rfl rfl (y_mul rfl rfl rfl (wf_i64 (by omega))) ?_
  refine Ls_y (wtd0 rfl) rfl rfl (y_gtF rfl rfl rfl (by omega)) ?_
  refine Ls_nil (Th_n (hK6 _ _ ?_))
  refine Wp_cond_f rfl ?_
  refine Wp_skip (Th_n (hK5 _ _ ?_))
  refine Wp_seq fun K7 hK7 => ?_
  refine Wp_region ?_
  refine Ls_y (wtd0 rfl) rfl rfl (y_move rfl rfl) ?_
  refine Ls_y (wtd0 rfl) rfl rfl (y_nil rfl rfl) ?_
  refine Ls_y (wtd0 rfl) rfl rfl (y_fld rfl rfl Ty.fo_74_4) ?_
  refine Ls_y (wtd0 rfl) rfl rfl (y_fld rfl rfl Ty.fo_72_0) ?_
  first
    | refine Ls_y (wtd0 rfl) rfl rfl (y_load (i := 0) rfl rfl Ty.pl_32 (fun _ e => e ▸ hp) rfl rfl) ?_
    | refine Ls_y (wtd0 rfl) rfl rfl (y_load (i := 1) rfl rfl Ty.pl_32 (fun _ e => e ▸ hp) rfl rfl) ?_
    | refine Ls_y (wtd0 rfl) rfl rfl (y_load (i := 2) rfl rfl Ty.pl_32 (fun _ e => e ▸ hp) rfl rfl) ?_
    | refine Ls_y (wtd0 rfl) rfl rfl (y_load (i := 3) rfl rfl Ty.pl_32 (fun _ e => e ▸ hp) rfl rfl) ?_
    | refine Ls_y (wtd0 rfl) rfl rfl (y_load (i := 4) rfl rfl Ty.pl_32 (fun _ e => e ▸ hp) rfl rfl) ?_
  refine Ls_y (wtd0 rfl) rfl rfl (y_add (c := ((M.n + 1 : Nat) : Int)) rfl rfl rfl (by rw [IntKind.wrap_u32]; omega)) ?_
  refine Ls_y (wtd0 rfl) rfl rfl (y_move rfl rfl) ?_
  refine Ls_y (wtd0 rfl) rfl rfl (y_move rfl rfl) ?_
  refine Ls_y (wtd0 rfl) rfl rfl (y_build (cells := [_, _, _]) rfl rfl Ty.zc_72 Ty.ps_72 rfl) ?_
  refine Ls_a (wtd0 rfl) ?_
  refine a_alloc rfl rfl rfl Ty.zc_72 hp (fun g1 w1 (hp : Hp w1 [(_, Cl [_, _, _, _, _] _), _, _, (_, Cl [_, _, _, _, _, _, _, _] _), _, (_, Cl [_, _, _] _)]) hf hg1 => ?_)
  have hg1 := Nat.le_trans hF.size hg1
  have hF := hF.step0 hf
  refine Ls_a (wtd0 rfl) ?_
  first
    | refine a_storew (i := 0) rfl rfl rfl rfl Ty.sz_72 rfl (by first | assumption | (simp [Value.oneCell']; done)) hp rfl rfl (fun w2 (hp : Hp w2 [(_, Cl [_, _, _, _, _] _), _, _, (_, Cl [_, _, _, _, _, _, _, _] _), _, (_, Cl [_, _, _] _)]) hf _ => ?_)
    | refine a_storew (i := 1) rfl rfl rfl rfl Ty.sz_72 rfl (by first | assumption | (simp [Value.oneCell']; done)) hp rfl rfl (fun w2 (hp : Hp w2 [(_, Cl [_, _, _, _, _] _), _, _, (_, Cl [_, _, _, _, _, _, _, _] _), _, (_, Cl [_, _, _] _)]) hf _ => ?_)
    | refine a_storew (i := 2) rfl rfl rfl rfl Ty.sz_72 rfl (by first | assumption | (simp [Value.oneCell']; done)) hp rfl rfl (fun w2 (hp : Hp w2 [(_, Cl [_, _, _, _, _] _), _, _, (_, Cl [_, _, _, _, _, _, _, _] _), _, (_, Cl [_, _, _] _)]) hf _ => ?_)
    | refine a_storew (i := 3) rfl rfl rfl rfl Ty.sz_72 rfl (by first | assumption | (simp [Value.oneCell']; done)) hp rfl rfl (fun w2 (hp : Hp w2 [(_, Cl [_, _, _, _, _] _), _, _, (_, Cl [_, _, _, _, _, _, _, _] _), _, (_, Cl [_, _, _] _)]) hf _ => ?_)
    | refine a_storew (i := 4) rfl rfl rfl rfl Ty.sz_72 rfl (by first | assumption | (simp [Value.oneCell']; done)) hp rfl rfl (fun w2 (hp : Hp w2 [(_, Cl [_, _, _, _, _] _), _, _, (_, Cl [_, _, _, _, _, _, _, _] _), _, (_, Cl [_, _, _] _)]) hf _ => ?_)
    | refine a_storew (i := 5) rfl rfl rfl rfl Ty.sz_72 rfl (by first | assumption | (simp [Value.oneCell']; done)) hp rfl rfl (fun w2 (hp : Hp w2 [(_, Cl [_, _, _, _, _] _), _, _, (_, Cl [_, _, _, _, _, _, _, _] _), _, (_, Cl [_, _, _] _)]) hf _ => ?_)
  have hF := hF.step hf (by intro y hy; simp only [List.mem_cons, List.not_mem_nil, or_false] at hy; subst hy; first | (exact Or.inr (by omega)) | (exact Or.inl (by simp)))
  refine Ls_nil (Th_n (hK7 _ _ ?_))
  refine Wp_seq fun K8 hK8 => ?_
  refine Wp_seq fun K9 hK9 => ?_
  refine Wp_region ?_
  refine Ls_y (wtd0 rfl) rfl rfl (y_move rfl rfl) ?_
  refine Ls_y (wtd0 rfl) rfl rfl (y_fld rfl rfl Ty.fo_72_0) ?_
  first
    | refine Ls_y (wtd0 rfl) rfl rfl (y_load (i := 0) rfl rfl Ty.pl_32 (fun _ e => e ▸ hp) rfl rfl) ?_
    | refine Ls_y (wtd0 rfl) rfl rfl (y_load (i := 1) rfl rfl Ty.pl_32 (fun _ e => e ▸ hp) rfl rfl) ?_
    | refine Ls_y (wtd0 rfl) rfl rfl (y_load (i := 2) rfl rfl Ty.pl_32 (fun _ e => e ▸ hp) rfl rfl) ?_
    | refine Ls_y (wtd0 rfl) rfl rfl (y_load (i := 3) rfl rfl Ty.pl_32 (fun _ e => e ▸ hp) rfl rfl) ?_
    | refine Ls_y (wtd0 rfl) rfl rfl (y_load (i := 4) rfl rfl Ty.pl_32 (fun _ e => e ▸ hp) rfl rfl) ?_
    | refine Ls_y (wtd0 rfl) rfl rfl (y_load (i := 5) rfl rfl Ty.pl_32 (fun _ e => e ▸ hp) rfl rfl) ?_
  refine Ls_y (wtd0 rfl) rfl rfl (y_move rfl rfl) ?_
  refine Ls_a (wtd0 rfl) ?_
  refine a_call rfl rfl rfl rfl (mwrite_m gm p D M (mBytes frm s) gB c spb fr _ (hp.picks [0, 1, 2, 3, 4] (by decide)) hD hMr (M.n + 1) (by omega) (by omega) hbc hgen hwr) (fun v wwr ⟨hv, hM⟩ => ?_)
  rw [hsy] at hv
  subst hv
  have hp : Hp wwr [(_, Cl [_, _, _] _), (_, Cl [_, _, _, _, _] _), _, _, (_, Cl [_, _, _, _, _, _, _, _] _), _] := hp.call [5] [0, 1, 2, 3, 4] (by decide) rfl hM
  have hF := hF.step hM.fr (by simp [keys, mH, dkH, hgB])
  refine Ls_y (wtd0 rfl) rfl rfl (y_assign rfl rfl) ?_
  refine Ls_nil (Th_n (hK9 _ _ ?_))
  refine Wp_seq fun K10 hK10 => ?_
  refine Wp_region ?_
  refine Ls_y (wtd0 rfl) rfl rfl (y_move rfl rfl) ?_
  refine Ls_y (wtd0 rfl) rfl rfl (y_neF rfl rfl rfl (by omega)) ?_
  refine Ls_nil (Th_n (hK10 _ _ ?_))
  refine Wp_cond_f rfl ?_
  refine Wp_skip (Th_n (hK8 _ _ ?_))
  refine Wp_seq fun K11 hK11 => ?_
  refine Wp_region ?_
  refine Ls_y (wtd0 rfl) rfl rfl (y_move rfl rfl) ?_
  first
    | refine Ls_y (wtd0 rfl) rfl rfl (y_loadw (i := 0) rfl rfl Ty.ag_72 (fun _ e => e ▸ hp) rfl rfl) ?_
    | refine Ls_y (wtd0 rfl) rfl rfl (y_loadw (i := 1) rfl rfl Ty.ag_72 (fun _ e => e ▸ hp) rfl rfl) ?_
    | refine Ls_y (wtd0 rfl) rfl rfl (y_loadw (i := 2) rfl rfl Ty.ag_72 (fun _ e => e ▸ hp) rfl rfl) ?_
    | refine Ls_y (wtd0 rfl) rfl rfl (y_loadw (i := 3) rfl rfl Ty.ag_72 (fun _ e => e ▸ hp) rfl rfl) ?_
    | refine Ls_y (wtd0 rfl) rfl rfl (y_loadw (i := 4) rfl rfl Ty.ag_72 (fun _ e => e ▸ hp) rfl rfl) ?_
    | refine Ls_y (wtd0 rfl) rfl rfl (y_loadw (i := 5) rfl rfl Ty.ag_72 (fun _ e => e ▸ hp) rfl rfl) ?_
  refine Ls_y (wtd0 rfl) rfl rfl (y_nil rfl rfl) ?_
  refine Ls_y (wtd0 rfl) rfl rfl (y_fld rfl rfl Ty.fo_74_4) ?_
  refine Ls_a (wtd0 rfl) ?_
  refine a_storem (i := 4) rfl rfl rfl rfl Ty.sz_72 rfl (by simp [Value.oneCell']) hp rfl (by simp) (fun wst (hp : Hp wst [(_, Cl [_, _, _] _), (_, Cl [_, _, _, _, _] _), _, _, (_, Cl [_, _, _, _, _, _, _, _] _), _]) hf _ => ?_)
  have hF := hF.step hf (by simp)
  refine Ls_nil (Th_n (hK11 _ _ ?_))
  refine Wp_seq fun K12 hK12 => ?_
  refine Wp_region ?_
  refine Ls_y (wtd0 rfl) rfl rfl (y_assign rfl rfl) ?_
  refine Ls_nil (Th_n (hK12 _ _ ?_))
  refine Wp_ret (Fq_ret (Res1 rfl rfl) ?_)
  exact ⟨rfl, mmod hF (hp.picks [1, 2, 3, 4] (by decide))⟩

set_option maxRecDepth 20000 in
set_option maxHeartbeats 1000000 in
theorem mput_down (gm : Nat) (p : Dp) (D : Dk) (M : Mr) (w : World) (hp : Hp w (mH gm p D M)) (hD : DkOk D) (hM : MrB M) (ho : M.over = false) (frm : Nat) (hfr : frm < 4294967296) (s : List UInt8) (hs : s.length ≤ 90000) (hfit : (mBytes frm s).length ≤ 50 * M.size) (hgen : 0 ≤ M.gen ∧ M.gen < 65536) (hnn : M.n ≤ 900000) (hwr : ∀ k, k < chK (mBytes frm s).length → writeE (wrM D M (M.n + 1) (mBytes frm s) k) ((mSlot M (M.n + 1) k : Nat) : Int) (mCell M (M.n + 1) (mBytes frm s) k) = 0) (hsy : syncE (wrM D M (M.n + 1) (mBytes frm s) (chK (mBytes frm s).length)) = 9) :
    Fn Try.prog 20 [.pointer (some ⟨gm, 0, none⟩), .int .u32 (frm : Int), sv s] w fun v w' => v = .int .i64 9 ∧ Mod w w' (mH gm p D M) (mH gm p (syncD (wrM D M (M.n + 1) (mBytes frm s) (chK (mBytes frm s).length))) { M with over := true }) := by
  refine Fn_of 53 Ty.en_20 Try.func20 rfl rfl rfl ?_
  dsimp only [argEnv]
  have hp : Hp w [(_, Cl [_, _, _, _, _] _), _, _, (_, Cl [_, _, _, _, _, _, _, _] _)] := hp
  have hF := Fr.refl [p.gd, p.gn, p.gl, gm] w
  have hMr := hM
  have hms := hM.size
  have hnl1 := numB_len (frm : Int)
  have hnl2 := numB_len (s.length : Int)
  have hbl : (mBytes frm s).length = (numB (frm : Int)).length + ((numB (s.length : Int)).length + s.length) := by simp [mBytes]
  refine Wp_seq fun K1 hK1 => ?_
  refine Wp_region ?_
  refine Ls_y (wtd0 rfl) rfl rfl (y_assign rfl rfl) ?_
  refine Ls_nil (Th_n (hK1 _ _ ?_))
  refine Wp_seq fun K2 hK2 => ?_
  refine Wp_seq fun K3 hK3 => ?_
  refine Wp_region ?_
  refine Ls_y (wtd0 rfl) rfl rfl (y_move rfl rfl) ?_
  refine Ls_y (wtd0 rfl) rfl rfl (y_nil rfl rfl) ?_
  refine Ls_y (wtd0 rfl) rfl rfl (y_fld rfl rfl Ty.fo_74_5) ?_
  first
    | refine Ls_y (wtd0 rfl) rfl rfl (y_load (i := 0) rfl rfl Ty.pl_4 (fun _ e => e ▸ hp) rfl rfl) ?_
    | refine Ls_y (wtd0 rfl) rfl rfl (y_load (i := 1) rfl rfl Ty.pl_4 (fun _ e => e ▸ hp) rfl rfl) ?_
    | refine Ls_y (wtd0 rfl) rfl rfl (y_load (i := 2) rfl rfl Ty.pl_4 (fun _ e => e ▸ hp) rfl rfl) ?_
    | refine Ls_y (wtd0 rfl) rfl rfl (y_load (i := 3) rfl rfl Ty.pl_4 (fun _ e => e ▸ hp) rfl rfl) ?_
  refine Ls_nil (Th_n (hK3 _ _ ?_))
  refine Wp_bool 13 rfl (fun hc1 => absurd hc1 (by simp [ho])) (fun _ => ?_)
  refine Wp_cond_f rfl ?_
  refine Wp_skip (Th_n (hK2 _ _ ?_))
  refine Wp_seq fun K4 hK4 => ?_
  refine Wp_region ?_
  refine Ls_y (wtd0 rfl) rfl rfl (y_move rfl rfl) ?_
  first
    | refine Ls_y (wtd0 rfl) rfl rfl (y_cvi rfl rfl Try.underlying32 Try.underlying24 (wf_u64 (by omega))) ?_
    | refine Ls_y (wtd0 rfl) rfl rfl (y_cvi rfl rfl Try.underlying32 Try.underlying24 wm_u64) ?_
  refine Ls_a (wtd0 rfl) ?_
  refine a_call rfl rfl rfl rfl (onum_ok frm _ hfr) (fun v wn ⟨hv, hf⟩ => ?_)
  subst hv
  have hp := hp.keep0 hf
  have hF := hF.step0 hf
  refine Ls_y (wtd0 rfl) rfl rfl (y_move rfl rfl) ?_
  refine Ls_a (wtd0 rfl) ?_
  refine a_call rfl rfl rfl rfl (otext_ok s _ (by omega)) (fun v wt ⟨hv, hf⟩ => ?_)
  subst hv
  have hp := hp.keep0 hf
  have hF := hF.step0 hf
  refine Ls_y (wtd0 rfl) rfl rfl (y_cat rfl rfl rfl (by first | omega | (simp; omega))) ?_
  refine Ls_a (wtd0 rfl) ?_
  refine a_cvstr (s := mBytes frm s) rfl rfl rfl rfl Try.underlying9 Try.underlying45 Try.underlying5 hp (fun gB c spb fr wcv hbc (hp : Hp wcv [(_, Cl [_, _, _, _, _] _), _, _, (_, Cl [_, _, _, _, _, _, _, _] _), _]) hf hgB => ?_)
  have hgB := Nat.le_trans hF.size hgB
  have hF := hF.step0 hf
  refine Ls_y (wtd0 rfl) rfl rfl (y_assign rfl rfl) ?_
  refine Ls_nil (Th_n (hK4 _ _ ?_))
  refine Wp_seq fun K5 hK5 => ?_
  refine Wp_seq fun K6 hK6 => ?_
  refine Wp_region ?_
  refine Ls_y (wtd0 rfl) rfl rfl (y_move rfl rfl) ?_
  refine Ls_y (wtd0 rfl) rfl rfl (y_lenl rfl rfl Try.underlying45) ?_
  refine Ls_y (wtd0 rfl) rfl rfl (y_move rfl rfl) ?_
  refine Ls_y (wtd0 rfl) rfl rfl (y_nil rfl rfl) ?_
  refine Ls_y (wtd0 rfl) rfl rfl (y_fld rfl rfl Ty.fo_74_2) ?_
  first
    | refine Ls_y (wtd0 rfl) rfl rfl (y_load (i := 0) rfl rfl Ty.pl_3 (fun _ e => e ▸ hp) rfl rfl) ?_
    | refine Ls_y (wtd0 rfl) rfl rfl (y_load (i := 1) rfl rfl Ty.pl_3 (fun _ e => e ▸ hp) rfl rfl) ?_
    | refine Ls_y (wtd0 rfl) rfl rfl (y_load (i := 2) rfl rfl Ty.pl_3 (fun _ e => e ▸ hp) rfl rfl) ?_
    | refine Ls_y (wtd0 rfl) rfl rfl (y_load (i := 3) rfl rfl Ty.pl_3 (fun _ e => e ▸ hp) rfl rfl) ?_
    | refine Ls_y (wtd0 rfl) rfl rfl (y_load (i := 4) rfl rfl Ty.pl_3 (fun _ e => e ▸ hp) rfl rfl) ?_
  refine Ls_y (wtd0 rfl) rfl rfl (y_mul rfl rfl rfl (wf_i64 (by omega))) ?_
  refine Ls_y (wtd0 rfl) rfl rfl (y_gtF rfl rfl rfl (by omega)) ?_
  refine Ls_nil (Th_n (hK6 _ _ ?_))
  refine Wp_cond_f rfl ?_
  refine Wp_skip (Th_n (hK5 _ _ ?_))
  refine Wp_seq fun K7 hK7 => ?_
  refine Wp_region ?_
  refine Ls_y (wtd0 rfl) rfl rfl (y_move rfl rfl) ?_
  refine Ls_y (wtd0 rfl) rfl rfl (y_nil rfl rfl) ?_
  refine Ls_y (wtd0 rfl) rfl rfl (y_fld rfl rfl Ty.fo_74_4) ?_
  refine Ls_y (wtd0 rfl) rfl rfl (y_fld rfl rfl Ty.fo_72_0) ?_
  first
    | refine Ls_y (wtd0 rfl) rfl rfl (y_load (i := 0) rfl rfl Ty.pl_32 (fun _ e => e ▸ hp) rfl rfl) ?_
    | refine Ls_y (wtd0 rfl) rfl rfl (y_load (i := 1) rfl rfl Ty.pl_32 (fun _ e => e ▸ hp) rfl rfl) ?_
    | refine Ls_y (wtd0 rfl) rfl rfl (y_load (i := 2) rfl rfl Ty.pl_32 (fun _ e => e ▸ hp) rfl rfl) ?_
    | refine Ls_y (wtd0 rfl) rfl rfl (y_load (i := 3) rfl rfl Ty.pl_32 (fun _ e => e ▸ hp) rfl rfl) ?_
    | refine Ls_y (wtd0 rfl) rfl rfl (y_load (i := 4) rfl rfl Ty.pl_32 (fun _ e => e ▸ hp) rfl rfl) ?_
  refine Ls_y (wtd0 rfl) rfl rfl (y_add (c := ((M.n + 1 : Nat) : Int)) rfl rfl rfl (by rw [IntKind.wrap_u32]; omega)) ?_
  refine Ls_y (wtd0 rfl) rfl rfl (y_move rfl rfl) ?_
  refine Ls_y (wtd0 rfl) rfl rfl (y_move rfl rfl) ?_
  refine Ls_y (wtd0 rfl) rfl rfl (y_build (cells := [_, _, _]) rfl rfl Ty.zc_72 Ty.ps_72 rfl) ?_
  refine Ls_a (wtd0 rfl) ?_
  refine a_alloc rfl rfl rfl Ty.zc_72 hp (fun g1 w1 (hp : Hp w1 [(_, Cl [_, _, _, _, _] _), _, _, (_, Cl [_, _, _, _, _, _, _, _] _), _, (_, Cl [_, _, _] _)]) hf hg1 => ?_)
  have hg1 := Nat.le_trans hF.size hg1
  have hF := hF.step0 hf
  refine Ls_a (wtd0 rfl) ?_
  first
    | refine a_storew (i := 0) rfl rfl rfl rfl Ty.sz_72 rfl (by first | assumption | (simp [Value.oneCell']; done)) hp rfl rfl (fun w2 (hp : Hp w2 [(_, Cl [_, _, _, _, _] _), _, _, (_, Cl [_, _, _, _, _, _, _, _] _), _, (_, Cl [_, _, _] _)]) hf _ => ?_)
    | refine a_storew (i := 1) rfl rfl rfl rfl Ty.sz_72 rfl (by first | assumption | (simp [Value.oneCell']; done)) hp rfl rfl (fun w2 (hp : Hp w2 [(_, Cl [_, _, _, _, _] _), _, _, (_, Cl [_, _, _, _, _, _, _, _] _), _, (_, Cl [_, _, _] _)]) hf _ => ?_)
    | refine a_storew (i := 2) rfl rfl rfl rfl Ty.sz_72 rfl (by first | assumption | (simp [Value.oneCell']; done)) hp rfl rfl (fun w2 (hp : Hp w2 [(_, Cl [_, _, _, _, _] _), _, _, (_, Cl [_, _, _, _, _, _, _, _] _), _, (_, Cl [_, _, _] _)]) hf _ => ?_)
    | refine a_storew (i := 3) rfl rfl rfl rfl Ty.sz_72 rfl (by first | assumption | (simp [Value.oneCell']; done)) hp rfl rfl (fun w2 (hp : Hp w2 [(_, Cl [_, _, _, _, _] _), _, _, (_, Cl [_, _, _, _, _, _, _, _] _), _, (_, Cl [_, _, _] _)]) hf _ => ?_)
    | refine a_storew (i := 4) rfl rfl rfl rfl Ty.sz_72 rfl (by first | assumption | (simp [Value.oneCell']; done)) hp rfl rfl (fun w2 (hp : Hp w2 [(_, Cl [_, _, _, _, _] _), _, _, (_, Cl [_, _, _, _, _, _, _, _] _), _, (_, Cl [_, _, _] _)]) hf _ => ?_)
    | refine a_storew (i := 5) rfl rfl rfl rfl Ty.sz_72 rfl (by first | assumption | (simp [Value.oneCell']; done)) hp rfl rfl (fun w2 (hp : Hp w2 [(_, Cl [_, _, _, _, _] _), _, _, (_, Cl [_, _, _, _, _, _, _, _] _), _, (_, Cl [_, _, _] _)]) hf _ => ?_)
  have hF := hF.step hf (by intro y hy; simp only [List.mem_cons, List.not_mem_nil, or_false] at hy; subst hy; first | (exact Or.inr (by omega)) | (exact Or.inl (by simp)))
  refine Ls_nil (Th_n (hK7 _ _ ?_))
  refine Wp_seq fun K8 hK8 => ?_
  refine Wp_seq fun K9 hK9 => ?_
  refine Wp_region ?_
  refine Ls_y (wtd0 rfl) rfl rfl (y_move rfl rfl) ?_
  refine Ls_y (wtd0 rfl) rfl rfl (y_fld rfl rfl Ty.fo_72_0) ?_
  first
    | refine Ls_y (wtd0 rfl) rfl rfl (y_load (i := 0) rfl rfl Ty.pl_32 (fun _ e => e ▸ hp) rfl rfl) ?_
    | refine Ls_y (wtd0 rfl) rfl rfl (y_load (i := 1) rfl rfl Ty.pl_32 (fun _ e => e ▸ hp) rfl rfl) ?_
    | refine Ls_y (wtd0 rfl) rfl rfl (y_load (i := 2) rfl rfl Ty.pl_32 (fun _ e => e ▸ hp) rfl rfl) ?_
    | refine Ls_y (wtd0 rfl) rfl rfl (y_load (i := 3) rfl rfl Ty.pl_32 (fun _ e => e ▸ hp) rfl rfl) ?_
    | refine Ls_y (wtd0 rfl) rfl rfl (y_load (i := 4) rfl rfl Ty.pl_32 (fun _ e => e ▸ hp) rfl rfl) ?_
    | refine Ls_y (wtd0 rfl) rfl rfl (y_load (i := 5) rfl rfl Ty.pl_32 (fun _ e => e ▸ hp) rfl rfl) ?_
  refine Ls_y (wtd0 rfl) rfl rfl (y_move rfl rfl) ?_
  refine Ls_a (wtd0 rfl) ?_
  refine a_call rfl rfl rfl rfl (mwrite_m gm p D M (mBytes frm s) gB c spb fr _ (hp.picks [0, 1, 2, 3, 4] (by decide)) hD hMr (M.n + 1) (by omega) (by omega) hbc hgen hwr) (fun v wwr ⟨hv, hM⟩ => ?_)
  rw [hsy] at hv
  subst hv
  have hp : Hp wwr [(_, Cl [_, _, _] _), (_, Cl [_, _, _, _, _] _), _, _, (_, Cl [_, _, _, _, _, _, _, _] _), _] := hp.call [5] [0, 1, 2, 3, 4] (by decide) rfl hM
  have hF := hF.step hM.fr (by simp [keys, mH, dkH, hgB])
  refine Ls_y (wtd0 rfl) rfl rfl (y_assign rfl rfl) ?_
  refine Ls_nil (Th_n (hK9 _ _ ?_))
  refine Wp_seq fun K10 hK10 => ?_
  refine Wp_region ?_
  refine Ls_y (wtd0 rfl) rfl rfl (y_move rfl rfl) ?_
  refine Ls_y (wtd0 rfl) rfl rfl (y_neT rfl rfl rfl (by omega)) ?_
  refine Ls_nil (Th_n (hK10 _ _ ?_))
  refine Wp_cond_t rfl ?_
  refine Wp_seq fun K11 hK11 => ?_
  refine Wp_region ?_
  refine Ls_y (wtd0 rfl) rfl rfl (y_move rfl rfl) ?_
  refine Ls_y (wtd0 rfl) rfl rfl (y_nil rfl rfl) ?_
  refine Ls_y (wtd0 rfl) rfl rfl (y_fld rfl rfl Ty.fo_74_5) ?_
  refine Ls_a (wtd0 rfl) ?_
  first
    | refine a_store (i := 0) rfl rfl rfl rfl rfl Ty.sz_4 rfl hp rfl (by first | decide | (simp; done) | (simp; omega)) (fun w3 (hp : Hp w3 [(_, Cl [_, _, _] _), (_, Cl [_, _, _, _, _] _), _, _, (_, Cl [_, _, _, _, _, _, _, _] _), _]) hf _ => ?_)
    | refine a_store (i := 1) rfl rfl rfl rfl rfl Ty.sz_4 rfl hp rfl (by first | decide | (simp; done) | (simp; omega)) (fun w3 (hp : Hp w3 [(_, Cl [_, _, _] _), (_, Cl [_, _, _, _, _] _), _, _, (_, Cl [_, _, _, _, _, _, _, _] _), _]) hf _ => ?_)
    | refine a_store (i := 2) rfl rfl rfl rfl rfl Ty.sz_4 rfl hp rfl (by first | decide | (simp; done) | (simp; omega)) (fun w3 (hp : Hp w3 [(_, Cl [_, _, _] _), (_, Cl [_, _, _, _, _] _), _, _, (_, Cl [_, _, _, _, _, _, _, _] _), _]) hf _ => ?_)
    | refine a_store (i := 3) rfl rfl rfl rfl rfl Ty.sz_4 rfl hp rfl (by first | decide | (simp; done) | (simp; omega)) (fun w3 (hp : Hp w3 [(_, Cl [_, _, _] _), (_, Cl [_, _, _, _, _] _), _, _, (_, Cl [_, _, _, _, _, _, _, _] _), _]) hf _ => ?_)
    | refine a_store (i := 4) rfl rfl rfl rfl rfl Ty.sz_4 rfl hp rfl (by first | decide | (simp; done) | (simp; omega)) (fun w3 (hp : Hp w3 [(_, Cl [_, _, _] _), (_, Cl [_, _, _, _, _] _), _, _, (_, Cl [_, _, _, _, _, _, _, _] _), _]) hf _ => ?_)
    | refine a_store (i := 5) rfl rfl rfl rfl rfl Ty.sz_4 rfl hp rfl (by first | decide | (simp; done) | (simp; omega)) (fun w3 (hp : Hp w3 [(_, Cl [_, _, _] _), (_, Cl [_, _, _, _, _] _), _, _, (_, Cl [_, _, _, _, _, _, _, _] _), _]) hf _ => ?_)
  have hF := hF.step hf (by intro y hy; simp only [List.mem_cons, List.not_mem_nil, or_false] at hy; subst hy; first | (exact Or.inr (by omega)) | (exact Or.inl (by simp)))
  refine Ls_nil (Th_n (hK11 _ _ ?_))
  refine Wp_seq fun K12 hK12 => ?_
  refine Wp_region ?_
  refine Ls_y (wtd0 rfl) rfl rfl (y_move rfl rfl) ?_
  refine Ls_y (wtd0 rfl) rfl rfl (y_assign rfl rfl) ?_
  refine Ls_nil (Th_n (hK12 _ _ ?_))
  refine Wp_ret (Th_r (Fq_ret (Res1 rfl rfl) ?_))
  exact ⟨rfl, mmod hF (hp.picks [1, 2, 3, 4] (by decide))⟩

end Go.Proofs.Ytcpfhnfpokijaaa

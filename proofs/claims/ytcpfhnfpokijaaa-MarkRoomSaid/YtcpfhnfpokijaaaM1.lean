/- Walks printed by gen.py out of our own specifications: what the functions named below do. -/
import Derived.Test.YtcpfhnfpokijaaaJ1
import Derived.Test.YtcpfhnfpokijaaaSe
set_option linter.unusedSimpArgs false
set_option linter.unusedVariables false
namespace Go.Proofs.Ytcpfhnfpokijaaa
open Go.RowKit


/-- A mark's fields. -/
structure Mr where
  base : Nat
  size : Nat
  gen : Int
  n : Nat
  frm : Int
  text : List UInt8
  over : Bool
  deriving DecidableEq
def mC (gd : Nat) (M : Mr) : List Value := [.pointer (some ⟨gd, 0, none⟩), .int .i64 (M.base : Int), .int .i64 (M.size : Int), .int .u16 M.gen, .int .u32 (M.n : Int), .int .u32 M.frm, sv M.text, .bool M.over]
def mH (gm : Nat) (p : Dp) (D : Dk) (M : Mr) : Heap := dkH p D ++ [(some gm, Cl (mC p.gd M) 74)]
structure MrB (M : Mr) : Prop where
  base : M.base ≤ 2000
  size : M.size ≤ 512
  n : M.n ≤ 1000000
def mroom (M : Mr) : Int := max (50 * (M.size : Int) - 14) 0
/-- The greatest generation among the first k sectors. -/
def mnewest (D : Dk) (base : Nat) : Nat → Int
  | 0 => 0
  | k + 1 => if (cellAt D ((base : Int) + (k : Int))).isSome = true then max (mnewest D base k) (cG (cellAt D ((base : Int) + (k : Int)))) else mnewest D base k

set_option maxRecDepth 20000 in
theorem mcount_ok (gm gd : Nat) (M : Mr) (w : World) (hp : Hp w [(some gm, Cl (mC gd M) 74)])  :
    Fn Try.prog 21 [.pointer (some ⟨gm, 0, none⟩)] w fun v w' => v = .int .u32 (M.n : Int) ∧ w' = w := by
  refine Fn_of 8 Ty.en_21 Try.func21 rfl rfl rfl ?_
  dsimp only [argEnv]
  have hp : Hp w [(_, Cl [_, _, _, _, _, _, _, _] _)] := hp
  have hF := Fr.refl [] w
  refine Wp_seq fun K1 hK1 => ?_
  refine Wp_region ?_
  refine Ls_y (wtd0 rfl) rfl rfl (y_assign rfl rfl) ?_
  refine Ls_nil (Th_n (hK1 _ _ ?_))
  refine Wp_seq fun K2 hK2 => ?_
  refine Wp_region ?_
  refine Ls_y (wtd0 rfl) rfl rfl (y_move rfl rfl) ?_
  refine Ls_y (wtd0 rfl) rfl rfl (y_nil rfl rfl) ?_
  refine Ls_y (wtd0 rfl) rfl rfl (y_fld rfl rfl Ty.fo_74_4) ?_
  refine Ls_y (wtd0 rfl) rfl rfl (y_fld rfl rfl Ty.fo_72_0) ?_
  refine Ls_y (wtd0 rfl) rfl rfl (y_load (i := 0) rfl rfl Ty.pl_32 (fun _ e => e ▸ hp) rfl rfl) ?_
  refine Ls_y (wtd0 rfl) rfl rfl (y_assign rfl rfl) ?_
  refine Ls_nil (Th_n (hK2 _ _ ?_))
  refine Wp_ret (Fq_ret (Res1 rfl rfl) ?_)
  exact ⟨rfl, rfl⟩

set_option maxRecDepth 20000 in
theorem mroom_ok (gm gd : Nat) (M : Mr) (w : World) (hp : Hp w [(some gm, Cl (mC gd M) 74)]) (hM : MrB M) :
    Fn Try.prog 19 [.pointer (some ⟨gm, 0, none⟩)] w fun v w' => v = .int .i64 (mroom M) ∧ w' = w := by
  refine Fn_of 10 Ty.en_19 Try.func19 rfl rfl rfl ?_
  dsimp only [argEnv]
  have hp : Hp w [(_, Cl [_, _, _, _, _, _, _, _] _)] := hp
  have hF := Fr.refl [] w
  have hsz := hM.size
  refine Wp_seq fun K1 hK1 => ?_
  refine Wp_region ?_
  refine Ls_y (wtd0 rfl) rfl rfl (y_assign rfl rfl) ?_
  refine Ls_nil (Th_n (hK1 _ _ ?_))
  refine Wp_seq fun K2 hK2 => ?_
  refine Wp_region ?_
  refine Ls_y (wtd0 rfl) rfl rfl (y_move rfl rfl) ?_
  refine Ls_y (wtd0 rfl) rfl rfl (y_nil rfl rfl) ?_
  refine Ls_y (wtd0 rfl) rfl rfl (y_fld rfl rfl Ty.fo_74_2) ?_
  refine Ls_y (wtd0 rfl) rfl rfl (y_load (i := 0) rfl rfl Ty.pl_3 (fun _ e => e ▸ hp) rfl rfl) ?_
  refine Ls_y (wtd0 rfl) rfl rfl (y_mul rfl rfl rfl (wf_i64 (by omega))) ?_
  refine Ls_y (wtd0 rfl) rfl rfl (y_sub rfl rfl rfl (wf_i64 (by omega))) ?_
  refine Ls_y (wtd0 rfl) rfl rfl (y_max rfl rfl rfl) ?_
  refine Ls_y (wtd0 rfl) rfl rfl (y_assign rfl rfl) ?_
  refine Ls_nil (Th_n (hK2 _ _ ?_))
  refine Wp_ret (Fq_ret (Res1 rfl rfl) ?_)
  exact ⟨rfl, rfl⟩

set_option maxRecDepth 20000 in
theorem mget_ok (gm gd : Nat) (M : Mr) (w : World) (hp : Hp w [(some gm, Cl (mC gd M) 74)])  :
    Fn Try.prog 34 [.pointer (some ⟨gm, 0, none⟩)] w fun v w' => v = .tuple #[.int .u32 M.frm, sv M.text, .bool (decide (0 < (M.n : Int)))] ∧ Fr [] w w' := by
  refine Fn_of 21 Ty.en_34 Try.func34 rfl rfl rfl ?_
  dsimp only [argEnv]
  have hp : Hp w [(_, Cl [_, _, _, _, _, _, _, _] _)] := hp
  have hF := Fr.refl [] w
  refine Wp_seq fun K1 hK1 => ?_
  refine Wp_region ?_
  refine Ls_y (wtd0 rfl) rfl rfl (y_assign rfl rfl) ?_
  refine Ls_y (wtd0 rfl) rfl rfl (y_assign rfl rfl) ?_
  refine Ls_y (wtd0 rfl) rfl rfl (y_assign rfl rfl) ?_
  refine Ls_nil (Th_n (hK1 _ _ ?_))
  refine Wp_seq fun K2 hK2 => ?_
  refine Wp_plan (fun W => Hp W (heapOf hp)) [(true, 0), (true, 1), (true, 2), (true, 3), (true, 4), (true, 5), (true, 6), (true, 7), (true, 8), (true, 9), (true, 10), (true, 11), (true, 12), (true, 13), (true, 14), (true, 15), (true, 16), (true, 17), (true, 18)] Ty.mx_0 (by kernel_rfl) (by kernel_rfl) rfl (hp.drew) ?_
  have hp := hp.drew
  have hF := hF.step0 (Fr.drew _)
  refine Pl_y rfl (wtd0 rfl) rfl rfl (y_move rfl rfl) ?_
  refine Pl_y rfl (wtd0 rfl) rfl rfl (y_nil rfl rfl) ?_
  refine Pl_y rfl (wtd0 rfl) rfl rfl (y_fld rfl rfl Ty.fo_74_4) ?_
  refine Pl_y rfl (wtd0 rfl) rfl rfl (y_fld rfl rfl Ty.fo_72_1) ?_
  refine Pl_y rfl (wtd0 rfl) rfl rfl (y_load (i := 0) rfl rfl Ty.pl_32 (fun _ h => h) rfl rfl) ?_
  refine Pl_y rfl (wtd0 rfl) rfl rfl (y_move rfl rfl) ?_
  refine Pl_y rfl (wtd0 rfl) rfl rfl (y_nil rfl rfl) ?_
  refine Pl_y rfl (wtd0 rfl) rfl rfl (y_fld rfl rfl Ty.fo_74_4) ?_
  refine Pl_y rfl (wtd0 rfl) rfl rfl (y_fld rfl rfl Ty.fo_72_2) ?_
  refine Pl_y rfl (wtd0 rfl) rfl rfl (y_load (i := 0) rfl rfl Ty.pl_9 (fun _ h => h) rfl rfl) ?_
  refine Pl_y rfl (wtd0 rfl) rfl rfl (y_move rfl rfl) ?_
  refine Pl_y rfl (wtd0 rfl) rfl rfl (y_nil rfl rfl) ?_
  refine Pl_y rfl (wtd0 rfl) rfl rfl (y_fld rfl rfl Ty.fo_74_4) ?_
  refine Pl_y rfl (wtd0 rfl) rfl rfl (y_fld rfl rfl Ty.fo_72_0) ?_
  refine Pl_y rfl (wtd0 rfl) rfl rfl (y_load (i := 0) rfl rfl Ty.pl_32 (fun _ h => h) rfl rfl) ?_
  refine Pl_y rfl (wtd0 rfl) rfl rfl (y_gt rfl rfl rfl) ?_
  refine Pl_y rfl (wtd0 rfl) rfl rfl (y_assign rfl rfl) ?_
  refine Pl_y rfl (wtd0 rfl) rfl rfl (y_assign rfl rfl) ?_
  refine Pl_y rfl (wtd0 rfl) rfl rfl (y_assign rfl rfl) ?_
  refine Pl_nil (Th_n (hK2 _ _ ?_))
  refine Wp_ret (Fq_ret (Res3 rfl rfl rfl rfl) ?_)
  exact ⟨rfl, hF⟩

set_option maxRecDepth 20000 in
theorem mcell_ok (gm : Nat) (p : Dp) (D : Dk) (M : Mr) (w : World) (hp : Hp w (mH gm p D M)) (hD : DkOk D) (hM : MrB M) (i : Nat) (hi : i ≤ 1000000) :
    Fn Try.prog 49 [.pointer (some ⟨gm, 0, none⟩), .int .i64 (i : Int)] w fun v w' => v = .tuple #[cellO (cellAt D ((M.base : Int) + (i : Int))), .bool (cellAt D ((M.base : Int) + (i : Int))).isSome] ∧ Fr [] w w' := by
  refine Fn_of 29 Ty.en_49 Try.func49 rfl rfl rfl ?_
  dsimp only [argEnv]
  have hp : Hp w [(_, Cl [_, _, _, _, _] _), _, _, (_, Cl [_, _, _, _, _, _, _, _] _)] := hp
  have hF := Fr.refl [] w
  have hb := hM.base
  refine Wp_seq fun K1 hK1 => ?_
  refine Wp_region ?_
  refine Ls_a (wtd0 rfl) ?_
  refine a_alloc rfl rfl rfl Ty.zc_60 hp (fun g1 w1 (hp : Hp w1 [(_, Cl [_, _, _, _, _] _), _, _, (_, Cl [_, _, _, _, _, _, _, _] _), (_, Cl [_, _, _, _] _)]) hf hg1 => ?_)
  have hg1 := Nat.le_trans hF.size hg1
  have hF := hF.step0 hf
  refine Ls_y (wtd0 rfl) rfl rfl (y_assign rfl rfl) ?_
  refine Ls_nil (Th_n (hK1 _ _ ?_))
  refine Wp_seq fun K2 hK2 => ?_
  refine Wp_plan (fun W => Hp W (heapOf hp)) [(true, 0), (true, 1), (true, 2), (true, 3), (true, 4), (true, 5), (true, 6), (true, 7), (true, 8), (true, 9), (false, 10), (true, 11), (true, 12), (true, 13), (true, 14), (true, 15)] Ty.mx_0 (by kernel_rfl) (by kernel_rfl) rfl (hp.drew) ?_
  have hp := hp.drew
  have hF := hF.step0 (Fr.drew _)
  refine Pl_y rfl (wtd0 rfl) rfl rfl (y_move rfl rfl) ?_
  refine Pl_y rfl (wtd0 rfl) rfl rfl (y_nil rfl rfl) ?_
  refine Pl_y rfl (wtd0 rfl) rfl rfl (y_fld rfl rfl Ty.fo_74_0) ?_
  first
    | refine Pl_y rfl (wtd0 rfl) rfl rfl (y_load (i := 0) rfl rfl Ty.pl_25 (fun _ h => h) rfl rfl) ?_
    | refine Pl_y rfl (wtd0 rfl) rfl rfl (y_load (i := 1) rfl rfl Ty.pl_25 (fun _ h => h) rfl rfl) ?_
    | refine Pl_y rfl (wtd0 rfl) rfl rfl (y_load (i := 2) rfl rfl Ty.pl_25 (fun _ h => h) rfl rfl) ?_
    | refine Pl_y rfl (wtd0 rfl) rfl rfl (y_load (i := 3) rfl rfl Ty.pl_25 (fun _ h => h) rfl rfl) ?_
    | refine Pl_y rfl (wtd0 rfl) rfl rfl (y_load (i := 4) rfl rfl Ty.pl_25 (fun _ h => h) rfl rfl) ?_
  refine Pl_y rfl (wtd0 rfl) rfl rfl (y_move rfl rfl) ?_
  refine Pl_y rfl (wtd0 rfl) rfl rfl (y_nil rfl rfl) ?_
  refine Pl_y rfl (wtd0 rfl) rfl rfl (y_fld rfl rfl Ty.fo_74_1) ?_
  first
    | refine Pl_y rfl (wtd0 rfl) rfl rfl (y_load (i := 0) rfl rfl Ty.pl_3 (fun _ h => h) rfl rfl) ?_
    | refine Pl_y rfl (wtd0 rfl) rfl rfl (y_load (i := 1) rfl rfl Ty.pl_3 (fun _ h => h) rfl rfl) ?_
    | refine Pl_y rfl (wtd0 rfl) rfl rfl (y_load (i := 2) rfl rfl Ty.pl_3 (fun _ h => h) rfl rfl) ?_
    | refine Pl_y rfl (wtd0 rfl) rfl rfl (y_load (i := 3) rfl rfl Ty.pl_3 (fun _ h => h) rfl rfl) ?_
    | refine Pl_y rfl (wtd0 rfl) rfl rfl (y_load (i := 4) rfl rfl Ty.pl_3 (fun _ h => h) rfl rfl) ?_
  refine Pl_y rfl (wtd0 rfl) rfl rfl (y_move rfl rfl) ?_
  refine Pl_y rfl (wtd0 rfl) rfl rfl (y_add rfl rfl rfl (wf_i64 (by omega))) ?_
  refine Pl_a rfl (wtd0 rfl) (by rfl) ?_
  refine a_call rfl rfl rfl rfl (dread_ok p D _ (hp.picks [0, 1, 2] (by decide)) hD _) (fun v w1 ⟨hv, hw⟩ => ?_)
  subst hv
  subst hw
  refine ⟨hp, ?_⟩
  refine Pl_y rfl (wtd0 rfl) rfl rfl (y_move rfl rfl) ?_
  refine Pl_y rfl (wtd0 rfl) rfl rfl (y_ext rfl rfl rfl) ?_
  refine Pl_y rfl (wtd0 rfl) rfl rfl (y_ext rfl rfl rfl) ?_
  refine Pl_y rfl (wtd0 rfl) rfl rfl (y_assign rfl rfl) ?_
  refine Pl_y rfl (wtd0 rfl) rfl rfl (y_assign rfl rfl) ?_
  refine Pl_nil (Th_n (hK2 _ _ ?_))
  refine Wp_seq fun K3 hK3 => ?_
  refine Wp_seq fun K4 hK4 => ?_
  refine Wp_region ?_
  refine Ls_y (wtd0 rfl) rfl rfl (y_move rfl rfl) ?_
  refine Ls_y (wtd0 rfl) rfl rfl (y_ne rfl rfl rfl) ?_
  refine Ls_bool 23 rfl (fun he => ?_) (fun he => ?_)
  all_goals try simp only [decide_eq_true_eq, decide_eq_false_iff_not, beq_iff_eq, bne_iff_ne, ne_eq, beq_eq_false_iff_ne, bne_eq_false_iff_eq, Bool.not_eq_true, Bool.not_eq_false] at he
  · refine Ls_nil (Th_n (hK4 _ _ ?_))
    refine Wp_cond_t rfl ?_
    refine Wp_seq fun K5 hK5 => ?_
    refine Wp_region ?_
    refine Ls_y (wtd0 rfl) rfl rfl (y_build (cells := [_, _, _, _]) rfl rfl Ty.zc_60 Ty.ps_60 rfl) ?_
    refine Ls_a (wtd0 rfl) ?_
    first
      | refine a_storew (i := 0) rfl rfl rfl rfl Ty.sz_60 rfl (by first | assumption | (simp [Value.oneCell']; done)) hp rfl rfl (fun w2 (hp : Hp w2 [(_, Cl [_, _, _, _, _] _), _, _, (_, Cl [_, _, _, _, _, _, _, _] _), (_, Cl [_, _, _, _] _)]) hf _ => ?_)
      | refine a_storew (i := 1) rfl rfl rfl rfl Ty.sz_60 rfl (by first | assumption | (simp [Value.oneCell']; done)) hp rfl rfl (fun w2 (hp : Hp w2 [(_, Cl [_, _, _, _, _] _), _, _, (_, Cl [_, _, _, _, _, _, _, _] _), (_, Cl [_, _, _, _] _)]) hf _ => ?_)
      | refine a_storew (i := 2) rfl rfl rfl rfl Ty.sz_60 rfl (by first | assumption | (simp [Value.oneCell']; done)) hp rfl rfl (fun w2 (hp : Hp w2 [(_, Cl [_, _, _, _, _] _), _, _, (_, Cl [_, _, _, _, _, _, _, _] _), (_, Cl [_, _, _, _] _)]) hf _ => ?_)
      | refine a_storew (i := 3) rfl rfl rfl rfl Ty.sz_60 rfl (by first | assumption | (simp [Value.oneCell']; done)) hp rfl rfl (fun w2 (hp : Hp w2 [(_, Cl [_, _, _, _, _] _), _, _, (_, Cl [_, _, _, _, _, _, _, _] _), (_, Cl [_, _, _, _] _)]) hf _ => ?_)
      | refine a_storew (i := 4) rfl rfl rfl rfl Ty.sz_60 rfl (by first | assumption | (simp [Value.oneCell']; done)) hp rfl rfl (fun w2 (hp : Hp w2 [(_, Cl [_, _, _, _, _] _), _, _, (_, Cl [_, _, _, _, _, _, _, _] _), (_, Cl [_, _, _, _] _)]) hf _ => ?_)
    have hF := hF.step hf (by intro y hy; simp only [List.mem_cons, List.not_mem_nil, or_false] at hy; subst hy; first | (exact Or.inr (by omega)) | (exact Or.inl (by simp)))
    refine Ls_y (wtd0 rfl) rfl rfl (y_assign rfl rfl) ?_
    refine Ls_nil (Th_n (hK5 _ _ ?_))
    first
      | refine Wp_ret (Th_r (Fq_ret (ResN2 rfl (rvc (i := 0) rfl Ty.ag_60 hp rfl rfl) rfl) ?_))
      | refine Wp_ret (Th_r (Fq_ret (ResN2 rfl (rvc (i := 1) rfl Ty.ag_60 hp rfl rfl) rfl) ?_))
      | refine Wp_ret (Th_r (Fq_ret (ResN2 rfl (rvc (i := 2) rfl Ty.ag_60 hp rfl rfl) rfl) ?_))
      | refine Wp_ret (Th_r (Fq_ret (ResN2 rfl (rvc (i := 3) rfl Ty.ag_60 hp rfl rfl) rfl) ?_))
      | refine Wp_ret (Th_r (Fq_ret (ResN2 rfl (rvc (i := 4) rfl Ty.ag_60 hp rfl rfl) rfl) ?_))
    exact ⟨by simp [cellAt, he, cG, cQ, cF, cD], hF⟩
  · refine Ls_nil (Th_n (hK4 _ _ ?_))
    refine Wp_cond_f rfl ?_
    refine Wp_skip (Th_n (hK3 _ _ ?_))
    refine Wp_seq fun K6 hK6 => ?_
    refine Wp_region ?_
    refine Ls_y (wtd0 rfl) rfl rfl (y_move rfl rfl) ?_
    refine Ls_a (wtd0 rfl) ?_
    refine a_call rfl rfl rfl rfl (unpack_ok _ _) (fun v w2 ⟨hv, hf⟩ => ?_)
    subst hv
    have hp := hp.keep0 hf
    have hF := hF.step0 hf
    refine Ls_y (wtd0 rfl) rfl rfl (y_ext rfl rfl rfl) ?_
    refine Ls_y (wtd0 rfl) rfl rfl (y_ext rfl rfl rfl) ?_
    refine Ls_a (wtd0 rfl) ?_
    first
      | refine a_storew (i := 0) rfl rfl rfl rfl Ty.sz_60 rfl (by first | assumption | (simp [Value.oneCell']; done)) hp rfl rfl (fun w2 (hp : Hp w2 [(_, Cl [_, _, _, _, _] _), _, _, (_, Cl [_, _, _, _, _, _, _, _] _), (_, Cl [_, _, _, _] _)]) hf _ => ?_)
      | refine a_storew (i := 1) rfl rfl rfl rfl Ty.sz_60 rfl (by first | assumption | (simp [Value.oneCell']; done)) hp rfl rfl (fun w2 (hp : Hp w2 [(_, Cl [_, _, _, _, _] _), _, _, (_, Cl [_, _, _, _, _, _, _, _] _), (_, Cl [_, _, _, _] _)]) hf _ => ?_)
      | refine a_storew (i := 2) rfl rfl rfl rfl Ty.sz_60 rfl (by first | assumption | (simp [Value.oneCell']; done)) hp rfl rfl (fun w2 (hp : Hp w2 [(_, Cl [_, _, _, _, _] _), _, _, (_, Cl [_, _, _, _, _, _, _, _] _), (_, Cl [_, _, _, _] _)]) hf _ => ?_)
      | refine a_storew (i := 3) rfl rfl rfl rfl Ty.sz_60 rfl (by first | assumption | (simp [Value.oneCell']; done)) hp rfl rfl (fun w2 (hp : Hp w2 [(_, Cl [_, _, _, _, _] _), _, _, (_, Cl [_, _, _, _, _, _, _, _] _), (_, Cl [_, _, _, _] _)]) hf _ => ?_)
      | refine a_storew (i := 4) rfl rfl rfl rfl Ty.sz_60 rfl (by first | assumption | (simp [Value.oneCell']; done)) hp rfl rfl (fun w2 (hp : Hp w2 [(_, Cl [_, _, _, _, _] _), _, _, (_, Cl [_, _, _, _, _, _, _, _] _), (_, Cl [_, _, _, _] _)]) hf _ => ?_)
    have hF := hF.step hf (by intro y hy; simp only [List.mem_cons, List.not_mem_nil, or_false] at hy; subst hy; first | (exact Or.inr (by omega)) | (exact Or.inl (by simp)))
    refine Ls_y (wtd0 rfl) rfl rfl (y_assign rfl rfl) ?_
    refine Ls_nil (Th_n (hK6 _ _ ?_))
    first
      | refine Wp_ret (Fq_ret (ResN2 rfl (rvc (i := 0) rfl Ty.ag_60 hp rfl rfl) rfl) ?_)
      | refine Wp_ret (Fq_ret (ResN2 rfl (rvc (i := 1) rfl Ty.ag_60 hp rfl rfl) rfl) ?_)
      | refine Wp_ret (Fq_ret (ResN2 rfl (rvc (i := 2) rfl Ty.ag_60 hp rfl rfl) rfl) ?_)
      | refine Wp_ret (Fq_ret (ResN2 rfl (rvc (i := 3) rfl Ty.ag_60 hp rfl rfl) rfl) ?_)
      | refine Wp_ret (Fq_ret (ResN2 rfl (rvc (i := 4) rfl Ty.ag_60 hp rfl rfl) rfl) ?_)
    exact ⟨by simp [cellAt, he], hF⟩

set_option maxRecDepth 20000 in
theorem mnewest_ok (gm : Nat) (p : Dp) (D : Dk) (M : Mr) (w : World) (hp : Hp w (mH gm p D M)) (hD : DkOk D) (hM : MrB M) :
    Fn Try.prog 36 [.pointer (some ⟨gm, 0, none⟩)] w fun v w' => v = .int .u16 (mnewest D M.base (2 * M.size)) ∧ Fr [] w w' := by
  refine Fn_of 28 Ty.en_36 Try.func36 rfl rfl rfl ?_
  dsimp only [argEnv]
  have hp : Hp w [(_, Cl [_, _, _, _, _] _), _, _, (_, Cl [_, _, _, _, _, _, _, _] _)] := hp
  have hF := Fr.refl [] w
  have hb := hM.base
  have hsz := hM.size
  refine Wp_seq fun K1 hK1 => ?_
  refine Wp_region ?_
  refine Ls_y (wtd0 rfl) rfl rfl (y_assign rfl rfl) ?_
  refine Ls_nil (Th_n (hK1 _ _ ?_))
  refine Wp_seq fun K2 hK2 => ?_
  refine Wp_region ?_
  refine Ls_y (wtd0 rfl) rfl rfl (y_assign rfl rfl) ?_
  refine Ls_nil (Th_n (hK2 _ _ ?_))
  refine Wp_seq fun K3 hK3 => ?_
  refine Wp_seq fun K4 hK4 => ?_
  refine Wp_region ?_
  refine Ls_y (wtd0 rfl) rfl rfl (y_move rfl rfl) ?_
  refine Ls_y (wtd0 rfl) rfl rfl (y_nil rfl rfl) ?_
  refine Ls_y (wtd0 rfl) rfl rfl (y_fld rfl rfl Ty.fo_74_2) ?_
  first
    | refine Ls_y (wtd0 rfl) rfl rfl (y_load (i := 0) rfl rfl Ty.pl_3 (fun _ e => e ▸ hp) rfl rfl) ?_
    | refine Ls_y (wtd0 rfl) rfl rfl (y_load (i := 1) rfl rfl Ty.pl_3 (fun _ e => e ▸ hp) rfl rfl) ?_
    | refine Ls_y (wtd0 rfl) rfl rfl (y_load (i := 2) rfl rfl Ty.pl_3 (fun _ e => e ▸ hp) rfl rfl) ?_
    | refine Ls_y (wtd0 rfl) rfl rfl (y_load (i := 3) rfl rfl Ty.pl_3 (fun _ e => e ▸ hp) rfl rfl) ?_
  refine Ls_y (wtd0 rfl) rfl rfl (y_mul rfl rfl rfl (wf_i64 (by omega))) ?_
  refine Ls_y (wtd0 rfl) rfl rfl (y_move rfl rfl) ?_
  refine Ls_nil (Th_n (hK4 _ _ ?_))
  refine Wp_block ?_
  refine Wp_loopE (fun m e W => ∃ (k : Nat), k ≤ 2 * M.size ∧ m = 2 * M.size - k ∧ e = [(0, .pointer (some ⟨gm, 0, none⟩)), (3, .int .u16 (mnewest D M.base k)), (11, .int .i64 (2 * (M.size : Int))), (12, .int .i64 (k : Int))] ∧ Hp W (mH gm p D M) ∧ Fr [] w W) (2 * M.size) [(0, _), (3, _), (11, _), (12, _)] ⟨rfl, rfl, rfl, rfl, trivial⟩ ?_ ?_
  · exact ⟨0, by omega, by omega, rfl, hp, hF⟩
  rintro m e W ⟨k, hk, rfl, rfl, hp, hF⟩
  have hp : Hp W [(_, Cl [_, _, _, _, _] _), _, _, (_, Cl [_, _, _, _, _, _, _, _] _)] := hp
  refine Wp_seq fun K6 hK6 => ?_
  refine Wp_region ?_
  refine Ls_y (wtd0 rfl) rfl rfl (y_lt rfl rfl rfl) ?_
  refine Ls_bool 13 rfl (fun hlt => ?_) (fun hlt => ?_)
  all_goals try simp only [decide_eq_true_eq, decide_eq_false_iff_not, beq_iff_eq, bne_iff_ne, ne_eq, beq_eq_false_iff_ne, bne_eq_false_iff_eq, Bool.not_eq_true, Bool.not_eq_false] at hlt
  · refine Ls_nil (Th_n (hK6 _ _ ?_))
    refine Wp_seq fun K7 hK7 => ?_
    refine Wp_cond_t rfl ?_
    refine Wp_skip (Th_n (hK7 _ _ ?_))
    refine Wp_seq fun K8 hK8 => ?_
    refine Wp_block ?_
    refine Wp_seq fun K9 hK9 => ?_
    refine Wp_region ?_
    refine Ls_y (wtd0 rfl) rfl rfl (y_move rfl rfl) ?_
    refine Ls_y (wtd0 rfl) rfl rfl (y_assign rfl rfl) ?_
    refine Ls_nil (Th_n (hK9 _ _ ?_))
    refine Wp_seq fun K10 hK10 => ?_
    refine Wp_region ?_
    refine Ls_y (wtd0 rfl) rfl rfl (y_move rfl rfl) ?_
    refine Ls_y (wtd0 rfl) rfl rfl (y_move rfl rfl) ?_
    refine Ls_a (wtd0 rfl) ?_
    refine a_call rfl rfl rfl rfl (mcell_ok gm p D M _ hp hD hM k (by omega)) (fun v w2 ⟨hv, hf⟩ => ?_)
    subst hv
    have hp := hp.keep0 hf
    have hF := hF.step0 hf
    refine Ls_y (wtd0 rfl) rfl rfl (y_move rfl rfl) ?_
    refine Ls_y (wtd0 rfl) rfl rfl (y_ext rfl rfl rfl) ?_
    refine Ls_y (wtd0 rfl) rfl rfl (y_ext rfl rfl rfl) ?_
    refine Ls_a (wtd0 rfl) ?_
    refine a_alloc rfl rfl rfl Ty.zc_60 hp (fun g1 w1 (hp : Hp w1 [(_, Cl [_, _, _, _, _] _), _, _, (_, Cl [_, _, _, _, _, _, _, _] _), (_, Cl [_, _, _, _] _)]) hf hg1 => ?_)
    have hg1 := Nat.le_trans hF.size hg1
    have hF := hF.step0 hf
    refine Ls_a (wtd0 rfl) ?_
    first
      | refine a_storew (i := 0) rfl rfl rfl rfl Ty.sz_60 rfl (by first | assumption | (simp [Value.oneCell']; done)) hp rfl rfl (fun w2 (hp : Hp w2 [(_, Cl [_, _, _, _, _] _), _, _, (_, Cl [_, _, _, _, _, _, _, _] _), (_, Cl [_, _, _, _] _)]) hf _ => ?_)
      | refine a_storew (i := 1) rfl rfl rfl rfl Ty.sz_60 rfl (by first | assumption | (simp [Value.oneCell']; done)) hp rfl rfl (fun w2 (hp : Hp w2 [(_, Cl [_, _, _, _, _] _), _, _, (_, Cl [_, _, _, _, _, _, _, _] _), (_, Cl [_, _, _, _] _)]) hf _ => ?_)
      | refine a_storew (i := 2) rfl rfl rfl rfl Ty.sz_60 rfl (by first | assumption | (simp [Value.oneCell']; done)) hp rfl rfl (fun w2 (hp : Hp w2 [(_, Cl [_, _, _, _, _] _), _, _, (_, Cl [_, _, _, _, _, _, _, _] _), (_, Cl [_, _, _, _] _)]) hf _ => ?_)
      | refine a_storew (i := 3) rfl rfl rfl rfl Ty.sz_60 rfl (by first | assumption | (simp [Value.oneCell']; done)) hp rfl rfl (fun w2 (hp : Hp w2 [(_, Cl [_, _, _, _, _] _), _, _, (_, Cl [_, _, _, _, _, _, _, _] _), (_, Cl [_, _, _, _] _)]) hf _ => ?_)
      | refine a_storew (i := 4) rfl rfl rfl rfl Ty.sz_60 rfl (by first | assumption | (simp [Value.oneCell']; done)) hp rfl rfl (fun w2 (hp : Hp w2 [(_, Cl [_, _, _, _, _] _), _, _, (_, Cl [_, _, _, _, _, _, _, _] _), (_, Cl [_, _, _, _] _)]) hf _ => ?_)
    have hF := hF.step hf (by intro y hy; simp only [List.mem_cons, List.not_mem_nil, or_false] at hy; subst hy; first | (exact Or.inr (by omega)) | (exact Or.inl (by simp)))
    refine Ls_y (wtd0 rfl) rfl rfl (y_assign rfl rfl) ?_
    refine Ls_nil (Th_n (hK10 _ _ ?_))
    refine Wp_seq fun K11 hK11 => ?_
    refine Wp_region ?_
    refine Ls_y (wtd0 rfl) rfl rfl (y_move rfl rfl) ?_
    refine Ls_nil (Th_n (hK11 _ _ ?_))
    refine Wp_cond rfl (fun hc => ?_) (fun hc => ?_)
    all_goals try simp only [decide_eq_true_eq, decide_eq_false_iff_not, beq_iff_eq, bne_iff_ne, ne_eq, beq_eq_false_iff_ne, bne_eq_false_iff_eq, Bool.not_eq_true] at hc
    · refine Wp_region ?_
      refine Ls_y (wtd0 rfl) rfl rfl (y_move rfl rfl) ?_
      refine Ls_y (wtd0 rfl) rfl rfl (y_fld rfl rfl Ty.fo_60_0) ?_
      first
        | refine Ls_y (wtd0 rfl) rfl rfl (y_load (i := 0) rfl rfl Ty.pl_33 (fun _ e => e ▸ hp) rfl rfl) ?_
        | refine Ls_y (wtd0 rfl) rfl rfl (y_load (i := 1) rfl rfl Ty.pl_33 (fun _ e => e ▸ hp) rfl rfl) ?_
        | refine Ls_y (wtd0 rfl) rfl rfl (y_load (i := 2) rfl rfl Ty.pl_33 (fun _ e => e ▸ hp) rfl rfl) ?_
        | refine Ls_y (wtd0 rfl) rfl rfl (y_load (i := 3) rfl rfl Ty.pl_33 (fun _ e => e ▸ hp) rfl rfl) ?_
        | refine Ls_y (wtd0 rfl) rfl rfl (y_load (i := 4) rfl rfl Ty.pl_33 (fun _ e => e ▸ hp) rfl rfl) ?_
      refine Ls_y (wtd0 rfl) rfl rfl (y_max rfl rfl rfl) ?_
      refine Ls_y (wtd0 rfl) rfl rfl (y_assign rfl rfl) ?_
      refine Ls_nil (Ib_n (Th_n (hK8 _ _ ?_)))
      refine Wp_region ?_
      first
        | refine Ls_y (wtd0 rfl) rfl rfl (y_add rfl rfl rfl (w_succ (by omega))) ?_
        | refine Ls_y (wtd0 rfl) rfl rfl (y_add rfl rfl rfl (wf_i64 (by omega))) ?_
        | refine Ls_y (wtd0 rfl) rfl rfl (y_add rfl rfl rfl rfl) ?_
      refine Ls_y (wtd0 rfl) rfl rfl (y_move rfl rfl) ?_
      refine Ls_nil (Th_n (?_))
      have e1 : mnewest D M.base (k + 1) = max (mnewest D M.base k) (cG (cellAt D ((M.base : Int) + (k : Int)))) := by rw [mnewest, if_pos hc]
      exact ⟨2 * M.size - (k + 1), [(0, _), (3, _), (11, _), (12, _)], by omega, ⟨rfl, by rw [← e1]; rfl, rfl, rfl, trivial⟩, k + 1, by omega, rfl, rfl, hp.picks [0, 1, 2, 3] (by decide), hF⟩
    · refine Wp_skip (Ib_n (Th_n (hK8 _ _ ?_)))
      refine Wp_region ?_
      first
        | refine Ls_y (wtd0 rfl) rfl rfl (y_add rfl rfl rfl (w_succ (by omega))) ?_
        | refine Ls_y (wtd0 rfl) rfl rfl (y_add rfl rfl rfl (wf_i64 (by omega))) ?_
        | refine Ls_y (wtd0 rfl) rfl rfl (y_add rfl rfl rfl rfl) ?_
      refine Ls_y (wtd0 rfl) rfl rfl (y_move rfl rfl) ?_
      refine Ls_nil (Th_n (?_))
      have e1 : mnewest D M.base (k + 1) = mnewest D M.base k := by rw [mnewest, if_neg (by simp [hc])]
      exact ⟨2 * M.size - (k + 1), [(0, _), (3, _), (11, _), (12, _)], by omega, ⟨rfl, by rw [e1]; rfl, rfl, rfl, trivial⟩, k + 1, by omega, rfl, rfl, hp.picks [0, 1, 2, 3] (by decide), hF⟩
  · refine Ls_nil (Th_n (hK6 _ _ ?_))
    refine Wp_seq fun K12 hK12 => ?_
    refine Wp_cond_f rfl ?_
    refine Wp_exit (Th_e (Th_e (Ib_hit (Th_n (hK3 _ _ ?_)))))
    refine Wp_seq fun K13 hK13 => ?_
    refine Wp_region ?_
    refine Ls_y (wtd0 rfl) rfl rfl (y_move rfl rfl) ?_
    refine Ls_y (wtd0 rfl) rfl rfl (y_assign rfl rfl) ?_
    refine Ls_nil (Th_n (hK13 _ _ ?_))
    refine Wp_ret (Fq_ret (Res1 rfl rfl) ?_)
    obtain rfl : k = 2 * M.size := by omega
    exact ⟨rfl, hF⟩

end Go.Proofs.Ytcpfhnfpokijaaa

/- Walks printed by gen.py out of our own specifications: what the functions named below do. -/
import Derived.Test.YtcpfhnfpokijaaaTy
import Derived.Laws.BitsAllLaws
set_option linter.unusedSimpArgs false
set_option linter.unusedVariables false
namespace Go.Proofs.Ytcpfhnfpokijaaa
open Go.RowKit


def stampN (g q : Int) : List Int := [g / 256, g % 256, q / 16777216, q / 65536 % 256, q / 256 % 256, q % 256]
def stampV (g q : Int) : List Value := (stampN g q).map (Value.int .u8)
theorem stampV_one {g q : Int} : ∀ v ∈ stampV g q, v.oneCell' = true := by simp [stampV, stampN, Value.oneCell']
def packN (g q f : Int) (d : List UInt8) : List Int := stampN g q ++ ([f, (d.length : Int)] ++ (d.map (fun b => (b.toNat : Int)) ++ (List.replicate (50 - d.length) 0 ++ stampN g q)))
def packS (g q f : Int) (d : List UInt8) : List UInt8 := if 50 < d.length then [] else if q = 0 then [] else (packN g q f d).map fun n => UInt8.ofNat n.toNat
def packE (q : Int) (d : List UInt8) : Int := if 50 < d.length then 8 else if q = 0 then 2 else 0

theorem packN_length (g q f : Int) (d : List UInt8) (h : d.length ≤ 50) : (packN g q f d).length = 64 := by
  simp [packN, stampN]; omega
theorem pack_cells (g q f : Int) (d : List UInt8) (h : d.length ≤ 50) : (packN g q f d).map (Value.int .u8) =
    List.take 58 (List.take 8 (((List.take 0 (List.replicate 64 (Value.int .u8 0)) ++ stampV g q ++ List.drop (0 + (stampV g q).length) (List.replicate 64 (Value.int .u8 0))).set 6 (.int .u8 f)).set 7 (.int .u8 d.length)) ++ (d.take d.length).map bv
      ++ List.drop (8 + d.length) (((List.take 0 (List.replicate 64 (Value.int .u8 0)) ++ stampV g q ++ List.drop (0 + (stampV g q).length) (List.replicate 64 (Value.int .u8 0))).set 6 (.int .u8 f)).set 7 (.int .u8 d.length)))
    ++ stampV g q ++ List.drop (58 + (stampV g q).length) (List.take 8 (((List.take 0 (List.replicate 64 (Value.int .u8 0)) ++ stampV g q ++ List.drop (0 + (stampV g q).length) (List.replicate 64 (Value.int .u8 0))).set 6 (.int .u8 f)).set 7 (.int .u8 d.length)) ++ (d.take d.length).map bv
      ++ List.drop (8 + d.length) (((List.take 0 (List.replicate 64 (Value.int .u8 0)) ++ stampV g q ++ List.drop (0 + (stampV g q).length) (List.replicate 64 (Value.int .u8 0))).set 6 (.int .u8 f)).set 7 (.int .u8 d.length))) := by
  have e0 : (((List.take 0 (List.replicate 64 (Value.int .u8 0)) ++ stampV g q ++ List.drop (0 + (stampV g q).length) (List.replicate 64 (Value.int .u8 0))).set 6 (.int .u8 f)).set 7 (.int .u8 d.length)) = (stampV g q ++ [.int .u8 f, .int .u8 d.length]) ++ List.replicate 56 (Value.int .u8 0) := rfl
  have hl : (stampV g q ++ [.int .u8 f, .int .u8 (d.length : Int)] : List Value).length = 8 := rfl
  rw [e0]
  have e1 : List.take 8 ((stampV g q ++ [.int .u8 f, .int .u8 (d.length : Int)]) ++ List.replicate 56 (Value.int .u8 0)) = stampV g q ++ [.int .u8 f, .int .u8 d.length] := rfl
  have e2 : List.drop (8 + d.length) ((stampV g q ++ [.int .u8 f, .int .u8 (d.length : Int)]) ++ List.replicate 56 (Value.int .u8 0)) = List.replicate (56 - d.length) (Value.int .u8 0) := by
    rw [List.drop_append, hl, List.drop_of_length_le (by omega), List.drop_replicate]
    simp
  rw [e1, e2]
  have e3 : stampV g q = (stampN g q).map (Value.int .u8) := rfl
  have hsl : (stampN g q).length = 6 := rfl
  have e4 : (56 - d.length) = (50 - d.length) + 6 := by omega
  have hA : ((stampV g q ++ [Value.int .u8 f, Value.int .u8 (d.length : Int)] ++ List.map bv (List.take d.length d)) ++ List.replicate (50 - d.length) (Value.int .u8 0)).length = 58 := by
    simp [stampV, stampN]; omega
  rw [e4, ← List.replicate_append_replicate, ← List.append_assoc, List.take_left' hA, List.drop_of_length_le (by simp only [List.length_append, hA]; simp [stampV, stampN])]
  simp [packN, e3]

theorem or_stamp (g q : Int) (hg0 : 0 ≤ g) (hg : g < 65536) (hq0 : 0 ≤ q) (hq : q < 4294967296) : bits .or .u64 (g * 4294967296) q = g * 4294967296 + q := by
  rw [u64_or _ _ (by omega) (by omega) (by omega) (by omega)]
  have h := Nat.two_pow_add_eq_or_of_lt (i := 32) (b := q.toNat) (by omega) g.toNat
  rw [show (g * 4294967296).toNat = 2 ^ 32 * g.toNat by omega, ← h]
  omega

set_option maxRecDepth 20000 in
theorem stamp_ok (g q f : Int) (d : List UInt8) (w : World) (hg0 : 0 ≤ g) (hg : g < 65536) (hq0 : 0 ≤ q) (hq : q < 4294967296) :
    Fn Try.prog 45 [.agg #[.int .u16 g, .int .u32 q, .int .u8 f, sv d]] w fun v w' => v = .agg (stampV g q).toArray ∧ Fr [] w w' := by
  refine Fn_of 27 Ty.en_45 Try.func45 rfl rfl rfl ?_
  dsimp only [argEnv]
  have hp := Hp.nil w
  have hF := Fr.refl [] w
  refine Wp_seq fun K1 hK1 => ?_
  refine Wp_region ?_
  refine Ls_a (wtd0 rfl) ?_
  refine a_box rfl rfl rfl rfl hp (fun g1 w1 (hp : Hp w1 [(_, Cl [_, _, _, _] _)]) hf hg1 => ?_)
  have hg1 := Nat.le_trans hF.size hg1
  have hF := hF.step0 hf
  refine Ls_a (wtd0 rfl) ?_
  refine a_alloc rfl rfl rfl Ty.zc_89 hp (fun g2 w2 (hp : Hp w2 [(_, Cl [_, _, _, _] _), _]) hf hg2 => ?_)
  have hg2 := Nat.le_trans hF.size hg2
  have hF := hF.step0 hf
  refine Ls_nil (Th_n (hK1 _ _ ?_))
  refine Wp_seq fun K2 hK2 => ?_
  refine Wp_region ?_
  refine Ls_a (wtd0 rfl) ?_
  refine a_alloc rfl rfl rfl Ty.zc_89 hp (fun g3 w3 (hp : Hp w3 [(_, Cl [_, _, _, _] _), _, _]) hf hg3 => ?_)
  have hg3 := Nat.le_trans hF.size hg3
  have hF := hF.step0 hf
  refine Ls_nil (Th_n (hK2 _ _ ?_))
  refine Wp_seq fun K3 hK3 => ?_
  refine Wp_region ?_
  refine Ls_y (wtd0 rfl) rfl rfl (y_fld rfl rfl Ty.fo_60_0) ?_
  first
    | refine Ls_y (wtd0 rfl) rfl rfl (y_load (i := 0) rfl rfl Ty.pl_33 (fun _ e => e ▸ hp) rfl rfl) ?_
    | refine Ls_y (wtd0 rfl) rfl rfl (y_load (i := 1) rfl rfl Ty.pl_33 (fun _ e => e ▸ hp) rfl rfl) ?_
    | refine Ls_y (wtd0 rfl) rfl rfl (y_load (i := 2) rfl rfl Ty.pl_33 (fun _ e => e ▸ hp) rfl rfl) ?_
  first
    | refine Ls_y (wtd0 rfl) rfl rfl (y_cvi rfl rfl Try.underlying33 Try.underlying24 (wf_u64 (by omega))) ?_
    | refine Ls_y (wtd0 rfl) rfl rfl (y_cvi rfl rfl Try.underlying33 Try.underlying24 wm_u64) ?_
  first
    | refine Ls_y (wtd0 rfl) rfl rfl (y_shlC 32 4294967296 rfl rfl rfl (by decide) rfl rfl (wf_u64 (by omega))) ?_
    | refine Ls_y (wtd0 rfl) rfl rfl (y_shlC 32 4294967296 rfl rfl rfl (by decide) rfl rfl wm_u64) ?_
  refine Ls_y (wtd0 rfl) rfl rfl (y_fld rfl rfl Ty.fo_60_1) ?_
  first
    | refine Ls_y (wtd0 rfl) rfl rfl (y_load (i := 0) rfl rfl Ty.pl_32 (fun _ e => e ▸ hp) rfl rfl) ?_
    | refine Ls_y (wtd0 rfl) rfl rfl (y_load (i := 1) rfl rfl Ty.pl_32 (fun _ e => e ▸ hp) rfl rfl) ?_
    | refine Ls_y (wtd0 rfl) rfl rfl (y_load (i := 2) rfl rfl Ty.pl_32 (fun _ e => e ▸ hp) rfl rfl) ?_
  first
    | refine Ls_y (wtd0 rfl) rfl rfl (y_cvi rfl rfl Try.underlying32 Try.underlying24 (wf_u64 (by omega))) ?_
    | refine Ls_y (wtd0 rfl) rfl rfl (y_cvi rfl rfl Try.underlying32 Try.underlying24 wm_u64) ?_
  refine Ls_y (wtd0 rfl) rfl rfl (y_bits rfl rfl rfl (by simp) rfl) ?_
  refine Ls_y (wtd0 rfl) rfl rfl (y_assign rfl rfl) ?_
  refine Ls_nil (Th_n (hK3 _ _ ?_))
  refine Wp_seq fun K4 hK4 => ?_
  refine Wp_seq fun K5 hK5 => ?_
  refine Wp_region ?_
  refine Ls_y (wtd0 rfl) rfl rfl (y_move rfl rfl) ?_
  refine Ls_nil (Th_n (hK5 _ _ ?_))
  refine Wp_block ?_
  refine Wp_unroll 7 (WpR_succ ?_)
  refine Wp_seq fun K6 hK6 => ?_
  refine Wp_region ?_
  refine Ls_y (wtd0 rfl) rfl rfl (y_ltT rfl rfl rfl (by decide)) ?_
  refine Ls_nil (Th_n (hK6 _ _ ?_))
  refine Wp_seq fun K7 hK7 => ?_
  refine Wp_cond_t rfl ?_
  refine Wp_skip (Th_n (hK7 _ _ ?_))
  refine Wp_seq fun K8 hK8 => ?_
  refine Wp_block ?_
  refine Wp_seq fun K9 hK9 => ?_
  refine Wp_region ?_
  refine Ls_y (wtd0 rfl) rfl rfl (y_move rfl rfl) ?_
  refine Ls_y (wtd0 rfl) rfl rfl (y_assign rfl rfl) ?_
  refine Ls_nil (Th_n (hK9 _ _ ?_))
  refine Wp_region ?_
  refine Ls_y (wtd0 rfl) rfl rfl (y_move rfl rfl) ?_
  refine Ls_y (wtd0 rfl) rfl rfl (y_sub (c := 5) rfl rfl rfl (by decide)) ?_
  refine Ls_y (wtd0 rfl) rfl rfl (y_move rfl rfl) ?_
  refine Ls_y (wtd0 rfl) rfl rfl (y_move rfl rfl) ?_
  refine Ls_y (wtd0 rfl) rfl rfl (y_mul (c := 0) rfl rfl rfl (by decide)) ?_
  refine Ls_y (wtd0 rfl) rfl rfl (y_shrC 0 1 rfl rfl rfl (by decide) rfl rfl (by decide)) ?_
  first
    | refine Ls_y (wtd0 rfl) rfl rfl (y_cvi rfl rfl Try.underlying24 Try.underlying5 (wf_u8 (by omega))) ?_
    | refine Ls_y (wtd0 rfl) rfl rfl (y_cvi rfl rfl Try.underlying24 Try.underlying5 wm_u8) ?_
  first
    | refine Ls_y (wtd0 rfl) rfl rfl (y_ixrN rfl rfl rfl Ty.ar_89 (by omega)) ?_
    | refine Ls_y (wtd0 rfl) rfl rfl (y_ixr rfl rfl rfl Ty.ar_89 (by omega) (by omega)) ?_
  refine Ls_a (wtd0 rfl) ?_
  first
    | refine a_store (i := 0) rfl rfl rfl rfl rfl Ty.sz_5 rfl hp rfl (by first | decide | (simp; done) | (simp; omega)) (fun w4 (hp : Hp w4 [(_, Cl [_, _, _, _] _), _, _]) hf _ => ?_)
    | refine a_store (i := 1) rfl rfl rfl rfl rfl Ty.sz_5 rfl hp rfl (by first | decide | (simp; done) | (simp; omega)) (fun w4 (hp : Hp w4 [(_, Cl [_, _, _, _] _), _, _]) hf _ => ?_)
    | refine a_store (i := 2) rfl rfl rfl rfl rfl Ty.sz_5 rfl hp rfl (by first | decide | (simp; done) | (simp; omega)) (fun w4 (hp : Hp w4 [(_, Cl [_, _, _, _] _), _, _]) hf _ => ?_)
  have hF := hF.step hf (by intro y hy; simp only [List.mem_cons, List.not_mem_nil, or_false] at hy; subst hy; first | (exact Or.inr (by omega)) | (exact Or.inl (by simp)))
  refine Ls_nil (Ib_n (Th_n (hK8 _ _ ?_)))
  refine Wp_region ?_
  refine Ls_y (wtd0 rfl) rfl rfl (y_add (c := 1) rfl rfl rfl (by decide)) ?_
  refine Ls_y (wtd0 rfl) rfl rfl (y_move rfl rfl) ?_
  refine Ls_nil (Th_n (WpR_succ ?_))
  refine Wp_seq fun K10 hK10 => ?_
  refine Wp_region ?_
  refine Ls_y (wtd0 rfl) rfl rfl (y_ltT rfl rfl rfl (by decide)) ?_
  refine Ls_nil (Th_n (hK10 _ _ ?_))
  refine Wp_seq fun K11 hK11 => ?_
  refine Wp_cond_t rfl ?_
  refine Wp_skip (Th_n (hK11 _ _ ?_))
  refine Wp_seq fun K12 hK12 => ?_
  refine Wp_block ?_
  refine Wp_seq fun K13 hK13 => ?_
  refine Wp_region ?_
  refine Ls_y (wtd0 rfl) rfl rfl (y_move rfl rfl) ?_
  refine Ls_y (wtd0 rfl) rfl rfl (y_assign rfl rfl) ?_
  refine Ls_nil (Th_n (hK13 _ _ ?_))
  refine Wp_region ?_
  refine Ls_y (wtd0 rfl) rfl rfl (y_move rfl rfl) ?_
  refine Ls_y (wtd0 rfl) rfl rfl (y_sub (c := 4) rfl rfl rfl (by decide)) ?_
  refine Ls_y (wtd0 rfl) rfl rfl (y_move rfl rfl) ?_
  refine Ls_y (wtd0 rfl) rfl rfl (y_move rfl rfl) ?_
  refine Ls_y (wtd0 rfl) rfl rfl (y_mul (c := 8) rfl rfl rfl (by decide)) ?_
  refine Ls_y (wtd0 rfl) rfl rfl (y_shrC 8 256 rfl rfl rfl (by decide) rfl rfl (by decide)) ?_
  first
    | refine Ls_y (wtd0 rfl) rfl rfl (y_cvi rfl rfl Try.underlying24 Try.underlying5 (wf_u8 (by omega))) ?_
    | refine Ls_y (wtd0 rfl) rfl rfl (y_cvi rfl rfl Try.underlying24 Try.underlying5 wm_u8) ?_
  first
    | refine Ls_y (wtd0 rfl) rfl rfl (y_ixrN rfl rfl rfl Ty.ar_89 (by omega)) ?_
    | refine Ls_y (wtd0 rfl) rfl rfl (y_ixr rfl rfl rfl Ty.ar_89 (by omega) (by omega)) ?_
  refine Ls_a (wtd0 rfl) ?_
  first
    | refine a_store (i := 0) rfl rfl rfl rfl rfl Ty.sz_5 rfl hp rfl (by first | decide | (simp; done) | (simp; omega)) (fun w5 (hp : Hp w5 [(_, Cl [_, _, _, _] _), _, _]) hf _ => ?_)
    | refine a_store (i := 1) rfl rfl rfl rfl rfl Ty.sz_5 rfl hp rfl (by first | decide | (simp; done) | (simp; omega)) (fun w5 (hp : Hp w5 [(_, Cl [_, _, _, _] _), _, _]) hf _ => ?_)
    | refine a_store (i := 2) rfl rfl rfl rfl rfl Ty.sz_5 rfl hp rfl (by first | decide | (simp; done) | (simp; omega)) (fun w5 (hp : Hp w5 [(_, Cl [_, _, _, _] _), _, _]) hf _ => ?_)
  have hF := hF.step hf (by intro y hy; simp only [List.mem_cons, List.not_mem_nil, or_false] at hy; subst hy; first | (exact Or.inr (by omega)) | (exact Or.inl (by simp)))
  refine Ls_nil (Ib_n (Th_n (hK12 _ _ ?_)))
  refine Wp_region ?_
  refine Ls_y (wtd0 rfl) rfl rfl (y_add (c := 2) rfl rfl rfl (by decide)) ?_
  refine Ls_y (wtd0 rfl) rfl rfl (y_move rfl rfl) ?_
  refine Ls_nil (Th_n (WpR_succ ?_))
  refine Wp_seq fun K14 hK14 => ?_
  refine Wp_region ?_
  refine Ls_y (wtd0 rfl) rfl rfl (y_ltT rfl rfl rfl (by decide)) ?_
  refine Ls_nil (Th_n (hK14 _ _ ?_))
  refine Wp_seq fun K15 hK15 => ?_
  refine Wp_cond_t rfl ?_
  refine Wp_skip (Th_n (hK15 _ _ ?_))
  refine Wp_seq fun K16 hK16 => ?_
  refine Wp_block ?_
  refine Wp_seq fun K17 hK17 => ?_
  refine Wp_region ?_
  refine Ls_y (wtd0 rfl) rfl rfl (y_move rfl rfl) ?_
  refine Ls_y (wtd0 rfl) rfl rfl (y_assign rfl rfl) ?_
  refine Ls_nil (Th_n (hK17 _ _ ?_))
  refine Wp_region ?_
  refine Ls_y (wtd0 rfl) rfl rfl (y_move rfl rfl) ?_
  refine Ls_y (wtd0 rfl) rfl rfl (y_sub (c := 3) rfl rfl rfl (by decide)) ?_
  refine Ls_y (wtd0 rfl) rfl rfl (y_move rfl rfl) ?_
  refine Ls_y (wtd0 rfl) rfl rfl (y_move rfl rfl) ?_
  refine Ls_y (wtd0 rfl) rfl rfl (y_mul (c := 16) rfl rfl rfl (by decide)) ?_
  refine Ls_y (wtd0 rfl) rfl rfl (y_shrC 16 65536 rfl rfl rfl (by decide) rfl rfl (by decide)) ?_
  first
    | refine Ls_y (wtd0 rfl) rfl rfl (y_cvi rfl rfl Try.underlying24 Try.underlying5 (wf_u8 (by omega))) ?_
    | refine Ls_y (wtd0 rfl) rfl rfl (y_cvi rfl rfl Try.underlying24 Try.underlying5 wm_u8) ?_
  first
    | refine Ls_y (wtd0 rfl) rfl rfl (y_ixrN rfl rfl rfl Ty.ar_89 (by omega)) ?_
    | refine Ls_y (wtd0 rfl) rfl rfl (y_ixr rfl rfl rfl Ty.ar_89 (by omega) (by omega)) ?_
  refine Ls_a (wtd0 rfl) ?_
  first
    | refine a_store (i := 0) rfl rfl rfl rfl rfl Ty.sz_5 rfl hp rfl (by first | decide | (simp; done) | (simp; omega)) (fun w6 (hp : Hp w6 [(_, Cl [_, _, _, _] _), _, _]) hf _ => ?_)
    | refine a_store (i := 1) rfl rfl rfl rfl rfl Ty.sz_5 rfl hp rfl (by first | decide | (simp; done) | (simp; omega)) (fun w6 (hp : Hp w6 [(_, Cl [_, _, _, _] _), _, _]) hf _ => ?_)
    | refine a_store (i := 2) rfl rfl rfl rfl rfl Ty.sz_5 rfl hp rfl (by first | decide | (simp; done) | (simp; omega)) (fun w6 (hp : Hp w6 [(_, Cl [_, _, _, _] _), _, _]) hf _ => ?_)
  have hF := hF.step hf (by intro y hy; simp only [List.mem_cons, List.not_mem_nil, or_false] at hy; subst hy; first | (exact Or.inr (by omega)) | (exact Or.inl (by simp)))
  refine Ls_nil (Ib_n (Th_n (hK16 _ _ ?_)))
  refine Wp_region ?_
  refine Ls_y (wtd0 rfl) rfl rfl (y_add (c := 3) rfl rfl rfl (by decide)) ?_
  refine Ls_y (wtd0 rfl) rfl rfl (y_move rfl rfl) ?_
  refine Ls_nil (Th_n (WpR_succ ?_))
  refine Wp_seq fun K18 hK18 => ?_
  refine Wp_region ?_
  refine Ls_y (wtd0 rfl) rfl rfl (y_ltT rfl rfl rfl (by decide)) ?_
  refine Ls_nil (Th_n (hK18 _ _ ?_))
  refine Wp_seq fun K19 hK19 => ?_
  refine Wp_cond_t rfl ?_
  refine Wp_skip (Th_n (hK19 _ _ ?_))
  refine Wp_seq fun K20 hK20 => ?_
  refine Wp_block ?_
  refine Wp_seq fun K21 hK21 => ?_
  refine Wp_region ?_
  refine Ls_y (wtd0 rfl) rfl rfl (y_move rfl rfl) ?_
  refine Ls_y (wtd0 rfl) rfl rfl (y_assign rfl rfl) ?_
  refine Ls_nil (Th_n (hK21 _ _ ?_))
  refine Wp_region ?_
  refine Ls_y (wtd0 rfl) rfl rfl (y_move rfl rfl) ?_
  refine Ls_y (wtd0 rfl) rfl rfl (y_sub (c := 2) rfl rfl rfl (by decide)) ?_
  refine Ls_y (wtd0 rfl) rfl rfl (y_move rfl rfl) ?_
  refine Ls_y (wtd0 rfl) rfl rfl (y_move rfl rfl) ?_
  refine Ls_y (wtd0 rfl) rfl rfl (y_mul (c := 24) rfl rfl rfl (by decide)) ?_
  refine Ls_y (wtd0 rfl) rfl rfl (y_shrC 24 16777216 rfl rfl rfl (by decide) rfl rfl (by decide)) ?_
  first
    | refine Ls_y (wtd0 rfl) rfl rfl (y_cvi rfl rfl Try.underlying24 Try.underlying5 (wf_u8 (by omega))) ?_
    | refine Ls_y (wtd0 rfl) rfl rfl (y_cvi rfl rfl Try.underlying24 Try.underlying5 wm_u8) ?_
  first
    | refine Ls_y (wtd0 rfl) rfl rfl (y_ixrN rfl rfl rfl Ty.ar_89 (by omega)) ?_
    | refine Ls_y (wtd0 rfl) rfl rfl (y_ixr rfl rfl rfl Ty.ar_89 (by omega) (by omega)) ?_
  refine Ls_a (wtd0 rfl) ?_
  first
    | refine a_store (i := 0) rfl rfl rfl rfl rfl Ty.sz_5 rfl hp rfl (by first | decide | (simp; done) | (simp; omega)) (fun w7 (hp : Hp w7 [(_, Cl [_, _, _, _] _), _, _]) hf _ => ?_)
    | refine a_store (i := 1) rfl rfl rfl rfl rfl Ty.sz_5 rfl hp rfl (by first | decide | (simp; done) | (simp; omega)) (fun w7 (hp : Hp w7 [(_, Cl [_, _, _, _] _), _, _]) hf _ => ?_)
    | refine a_store (i := 2) rfl rfl rfl rfl rfl Ty.sz_5 rfl hp rfl (by first | decide | (simp; done) | (simp; omega)) (fun w7 (hp : Hp w7 [(_, Cl [_, _, _, _] _), _, _]) hf _ => ?_)
  have hF := hF.step hf (by intro y hy; simp only [List.mem_cons, List.not_mem_nil, or_false] at hy; subst hy; first | (exact Or.inr (by omega)) | (exact Or.inl (by simp)))
  refine Ls_nil (Ib_n (Th_n (hK20 _ _ ?_)))
  refine Wp_region ?_
  refine Ls_y (wtd0 rfl) rfl rfl (y_add (c := 4) rfl rfl rfl (by decide)) ?_
  refine Ls_y (wtd0 rfl) rfl rfl (y_move rfl rfl) ?_
  refine Ls_nil (Th_n (WpR_succ ?_))
  refine Wp_seq fun K22 hK22 => ?_
  refine Wp_region ?_
  refine Ls_y (wtd0 rfl) rfl rfl (y_ltT rfl rfl rfl (by decide)) ?_
  refine Ls_nil (Th_n (hK22 _ _ ?_))
  refine Wp_seq fun K23 hK23 => ?_
  refine Wp_cond_t rfl ?_
  refine Wp_skip (Th_n (hK23 _ _ ?_))
  refine Wp_seq fun K24 hK24 => ?_
  refine Wp_block ?_
  refine Wp_seq fun K25 hK25 => ?_
  refine Wp_region ?_
  refine Ls_y (wtd0 rfl) rfl rfl (y_move rfl rfl) ?_
  refine Ls_y (wtd0 rfl) rfl rfl (y_assign rfl rfl) ?_
  refine Ls_nil (Th_n (hK25 _ _ ?_))
  refine Wp_region ?_
  refine Ls_y (wtd0 rfl) rfl rfl (y_move rfl rfl) ?_
  refine Ls_y (wtd0 rfl) rfl rfl (y_sub (c := 1) rfl rfl rfl (by decide)) ?_
  refine Ls_y (wtd0 rfl) rfl rfl (y_move rfl rfl) ?_
  refine Ls_y (wtd0 rfl) rfl rfl (y_move rfl rfl) ?_
  refine Ls_y (wtd0 rfl) rfl rfl (y_mul (c := 32) rfl rfl rfl (by decide)) ?_
  refine Ls_y (wtd0 rfl) rfl rfl (y_shrC 32 4294967296 rfl rfl rfl (by decide) rfl rfl (by decide)) ?_
  first
    | refine Ls_y (wtd0 rfl) rfl rfl (y_cvi rfl rfl Try.underlying24 Try.underlying5 (wf_u8 (by omega))) ?_
    | refine Ls_y (wtd0 rfl) rfl rfl (y_cvi rfl rfl Try.underlying24 Try.underlying5 wm_u8) ?_
  first
    | refine Ls_y (wtd0 rfl) rfl rfl (y_ixrN rfl rfl rfl Ty.ar_89 (by omega)) ?_
    | refine Ls_y (wtd0 rfl) rfl rfl (y_ixr rfl rfl rfl Ty.ar_89 (by omega) (by omega)) ?_
  refine Ls_a (wtd0 rfl) ?_
  first
    | refine a_store (i := 0) rfl rfl rfl rfl rfl Ty.sz_5 rfl hp rfl (by first | decide | (simp; done) | (simp; omega)) (fun w8 (hp : Hp w8 [(_, Cl [_, _, _, _] _), _, _]) hf _ => ?_)
    | refine a_store (i := 1) rfl rfl rfl rfl rfl Ty.sz_5 rfl hp rfl (by first | decide | (simp; done) | (simp; omega)) (fun w8 (hp : Hp w8 [(_, Cl [_, _, _, _] _), _, _]) hf _ => ?_)
    | refine a_store (i := 2) rfl rfl rfl rfl rfl Ty.sz_5 rfl hp rfl (by first | decide | (simp; done) | (simp; omega)) (fun w8 (hp : Hp w8 [(_, Cl [_, _, _, _] _), _, _]) hf _ => ?_)
  have hF := hF.step hf (by intro y hy; simp only [List.mem_cons, List.not_mem_nil, or_false] at hy; subst hy; first | (exact Or.inr (by omega)) | (exact Or.inl (by simp)))
  refine Ls_nil (Ib_n (Th_n (hK24 _ _ ?_)))
  refine Wp_region ?_
  refine Ls_y (wtd0 rfl) rfl rfl (y_add (c := 5) rfl rfl rfl (by decide)) ?_
  refine Ls_y (wtd0 rfl) rfl rfl (y_move rfl rfl) ?_
  refine Ls_nil (Th_n (WpR_succ ?_))
  refine Wp_seq fun K26 hK26 => ?_
  refine Wp_region ?_
  refine Ls_y (wtd0 rfl) rfl rfl (y_ltT rfl rfl rfl (by decide)) ?_
  refine Ls_nil (Th_n (hK26 _ _ ?_))
  refine Wp_seq fun K27 hK27 => ?_
  refine Wp_cond_t rfl ?_
  refine Wp_skip (Th_n (hK27 _ _ ?_))
  refine Wp_seq fun K28 hK28 => ?_
  refine Wp_block ?_
  refine Wp_seq fun K29 hK29 => ?_
  refine Wp_region ?_
  refine Ls_y (wtd0 rfl) rfl rfl (y_move rfl rfl) ?_
  refine Ls_y (wtd0 rfl) rfl rfl (y_assign rfl rfl) ?_
  refine Ls_nil (Th_n (hK29 _ _ ?_))
  refine Wp_region ?_
  refine Ls_y (wtd0 rfl) rfl rfl (y_move rfl rfl) ?_
  refine Ls_y (wtd0 rfl) rfl rfl (y_sub (c := 0) rfl rfl rfl (by decide)) ?_
  refine Ls_y (wtd0 rfl) rfl rfl (y_move rfl rfl) ?_
  refine Ls_y (wtd0 rfl) rfl rfl (y_move rfl rfl) ?_
  refine Ls_y (wtd0 rfl) rfl rfl (y_mul (c := 40) rfl rfl rfl (by decide)) ?_
  refine Ls_y (wtd0 rfl) rfl rfl (y_shrC 40 1099511627776 rfl rfl rfl (by decide) rfl rfl (by decide)) ?_
  first
    | refine Ls_y (wtd0 rfl) rfl rfl (y_cvi rfl rfl Try.underlying24 Try.underlying5 (wf_u8 (by omega))) ?_
    | refine Ls_y (wtd0 rfl) rfl rfl (y_cvi rfl rfl Try.underlying24 Try.underlying5 wm_u8) ?_
  first
    | refine Ls_y (wtd0 rfl) rfl rfl (y_ixrN rfl rfl rfl Ty.ar_89 (by omega)) ?_
    | refine Ls_y (wtd0 rfl) rfl rfl (y_ixr rfl rfl rfl Ty.ar_89 (by omega) (by omega)) ?_
  refine Ls_a (wtd0 rfl) ?_
  first
    | refine a_store (i := 0) rfl rfl rfl rfl rfl Ty.sz_5 rfl hp rfl (by first | decide | (simp; done) | (simp; omega)) (fun w9 (hp : Hp w9 [(_, Cl [_, _, _, _] _), _, _]) hf _ => ?_)
    | refine a_store (i := 1) rfl rfl rfl rfl rfl Ty.sz_5 rfl hp rfl (by first | decide | (simp; done) | (simp; omega)) (fun w9 (hp : Hp w9 [(_, Cl [_, _, _, _] _), _, _]) hf _ => ?_)
    | refine a_store (i := 2) rfl rfl rfl rfl rfl Ty.sz_5 rfl hp rfl (by first | decide | (simp; done) | (simp; omega)) (fun w9 (hp : Hp w9 [(_, Cl [_, _, _, _] _), _, _]) hf _ => ?_)
  have hF := hF.step hf (by intro y hy; simp only [List.mem_cons, List.not_mem_nil, or_false] at hy; subst hy; first | (exact Or.inr (by omega)) | (exact Or.inl (by simp)))
  refine Ls_nil (Ib_n (Th_n (hK28 _ _ ?_)))
  refine Wp_region ?_
  refine Ls_y (wtd0 rfl) rfl rfl (y_add (c := 6) rfl rfl rfl (by decide)) ?_
  refine Ls_y (wtd0 rfl) rfl rfl (y_move rfl rfl) ?_
  refine Ls_nil (Th_n (WpR_succ ?_))
  refine Wp_seq fun K30 hK30 => ?_
  refine Wp_region ?_
  refine Ls_y (wtd0 rfl) rfl rfl (y_ltF rfl rfl rfl (by decide)) ?_
  refine Ls_nil (Th_n (hK30 _ _ ?_))
  refine Wp_seq fun K31 hK31 => ?_
  refine Wp_cond_f rfl ?_
  refine Wp_exit (Th_e (Th_e (Ib_hit (Th_n (hK4 _ _ ?_)))))
  refine Wp_seq fun K32 hK32 => ?_
  refine Wp_region ?_
  first
    | refine Ls_y (wtd0 rfl) rfl rfl (y_loadw (i := 0) rfl rfl Ty.ag_89 (fun _ e => e ▸ hp) rfl rfl) ?_
    | refine Ls_y (wtd0 rfl) rfl rfl (y_loadw (i := 1) rfl rfl Ty.ag_89 (fun _ e => e ▸ hp) rfl rfl) ?_
    | refine Ls_y (wtd0 rfl) rfl rfl (y_loadw (i := 2) rfl rfl Ty.ag_89 (fun _ e => e ▸ hp) rfl rfl) ?_
  refine Ls_a (wtd0 rfl) ?_
  first
    | refine a_storew (i := 0) rfl rfl rfl rfl Ty.sz_89 rfl (by first | assumption | (simp [Value.oneCell']; done)) hp rfl rfl (fun w10 (hp : Hp w10 [(_, Cl [_, _, _, _] _), _, _]) hf _ => ?_)
    | refine a_storew (i := 1) rfl rfl rfl rfl Ty.sz_89 rfl (by first | assumption | (simp [Value.oneCell']; done)) hp rfl rfl (fun w10 (hp : Hp w10 [(_, Cl [_, _, _, _] _), _, _]) hf _ => ?_)
    | refine a_storew (i := 2) rfl rfl rfl rfl Ty.sz_89 rfl (by first | assumption | (simp [Value.oneCell']; done)) hp rfl rfl (fun w10 (hp : Hp w10 [(_, Cl [_, _, _, _] _), _, _]) hf _ => ?_)
  have hF := hF.step hf (by intro y hy; simp only [List.mem_cons, List.not_mem_nil, or_false] at hy; subst hy; first | (exact Or.inr (by omega)) | (exact Or.inl (by simp)))
  refine Ls_nil (Th_n (hK32 _ _ ?_))
  first
    | refine Wp_ret (Fq_ret (ResN1 rfl (rvc (i := 0) rfl Ty.ag_89 hp rfl rfl)) ?_)
    | refine Wp_ret (Fq_ret (ResN1 rfl (rvc (i := 1) rfl Ty.ag_89 hp rfl rfl)) ?_)
    | refine Wp_ret (Fq_ret (ResN1 rfl (rvc (i := 2) rfl Ty.ag_89 hp rfl rfl)) ?_)
  refine ⟨?_, hF⟩
  rw [or_stamp g q hg0 hg hq0 hq]
  simp [stampV, stampN, List.replicate]
  omega

set_option maxRecDepth 20000 in
theorem pack_ok (g q f : Int) (d : List UInt8) (w : World) (hg0 : 0 ≤ g) (hg : g < 65536) (hq0 : 0 ≤ q) (hq : q < 4294967296) (hf0 : 0 ≤ f) (hf1 : f < 256) :
    Fn Try.prog 28 [.agg #[.int .u16 g, .int .u32 q, .int .u8 f, sv d]] w fun v w' => v = .tuple #[sv (packS g q f d), .int .i64 (packE q d)] ∧ Fr [] w w' := by
  refine Fn_of 37 Ty.en_28 Try.func28 rfl rfl rfl ?_
  dsimp only [argEnv]
  have hp := Hp.nil w
  have hF := Fr.refl [] w
  refine Wp_seq fun K1 hK1 => ?_
  refine Wp_region ?_
  refine Ls_a (wtd0 rfl) ?_
  refine a_box rfl rfl rfl rfl hp (fun g1 w1 (hp : Hp w1 [(_, Cl [_, _, _, _] _)]) hf hg1 => ?_)
  have hg1 := Nat.le_trans hF.size hg1
  have hF := hF.step0 hf
  refine Ls_y (wtd0 rfl) rfl rfl (y_assign rfl rfl) ?_
  refine Ls_y (wtd0 rfl) rfl rfl (y_assign rfl rfl) ?_
  refine Ls_nil (Th_n (hK1 _ _ ?_))
  refine Wp_seq fun K2 hK2 => ?_
  refine Wp_block ?_
  refine Wp_seq fun K3 hK3 => ?_
  refine Wp_region ?_
  refine Ls_y (wtd0 rfl) rfl rfl (y_fld rfl rfl Ty.fo_60_3) ?_
  refine Ls_y (wtd0 rfl) rfl rfl (y_load (i := 0) rfl rfl Ty.pl_9 (fun _ e => e ▸ hp) rfl rfl) ?_
  refine Ls_y (wtd0 rfl) rfl rfl (y_lens rfl rfl Try.underlying9) ?_
  refine Ls_y (wtd0 rfl) rfl rfl (y_gt rfl rfl rfl) ?_
  refine Ls_bool 10 rfl (fun hc1 => ?_) (fun hc1 => ?_)
  all_goals try simp only [decide_eq_true_eq, decide_eq_false_iff_not, beq_iff_eq, bne_iff_ne, ne_eq, beq_eq_false_iff_ne, bne_eq_false_iff_eq, Bool.not_eq_true, Bool.not_eq_false] at hc1
  · refine Ls_y (wtd0 rfl) rfl rfl (y_assign rfl rfl) ?_
    refine Ls_nil (Th_n (hK3 _ _ ?_))
    refine Wp_cond_t rfl ?_
    refine Wp_seq fun K4 hK4 => ?_
    refine Wp_region ?_
    refine Ls_y (wtd0 rfl) rfl rfl (y_assign rfl rfl) ?_
    refine Ls_y (wtd0 rfl) rfl rfl (y_assign rfl rfl) ?_
    refine Ls_nil (Th_n (hK4 _ _ ?_))
    refine Wp_ret (Ib_r (Th_r (Fq_ret (Res2 rfl rfl rfl) ?_)))
    exact ⟨by simp [packS, packE, show 50 < d.length by omega], hF⟩
  · refine Ls_y (wtd0 rfl) rfl rfl (y_assign rfl rfl) ?_
    refine Ls_nil (Th_n (hK3 _ _ ?_))
    refine Wp_cond_f rfl ?_
    refine Wp_seq fun K5 hK5 => ?_
    refine Wp_region ?_
    refine Ls_y (wtd0 rfl) rfl rfl (y_fld rfl rfl Ty.fo_60_1) ?_
    refine Ls_y (wtd0 rfl) rfl rfl (y_load (i := 0) rfl rfl Ty.pl_32 (fun _ e => e ▸ hp) rfl rfl) ?_
    refine Ls_y (wtd0 rfl) rfl rfl (y_eq rfl rfl rfl) ?_
    refine Ls_bool 14 rfl (fun hc2 => ?_) (fun hc2 => ?_)
    all_goals try simp only [decide_eq_true_eq, decide_eq_false_iff_not, beq_iff_eq, bne_iff_ne, ne_eq, beq_eq_false_iff_ne, bne_eq_false_iff_eq, Bool.not_eq_true, Bool.not_eq_false] at hc2
    · refine Ls_y (wtd0 rfl) rfl rfl (y_assign rfl rfl) ?_
      refine Ls_nil (Th_n (hK5 _ _ ?_))
      refine Wp_cond_t rfl ?_
      refine Wp_seq fun K6 hK6 => ?_
      refine Wp_region ?_
      refine Ls_y (wtd0 rfl) rfl rfl (y_assign rfl rfl) ?_
      refine Ls_y (wtd0 rfl) rfl rfl (y_assign rfl rfl) ?_
      refine Ls_nil (Th_n (hK6 _ _ ?_))
      refine Wp_ret (Ib_r (Th_r (Fq_ret (Res2 rfl rfl rfl) ?_)))
      exact ⟨by simp [packS, packE, show ¬ 50 < d.length by omega, hc2], hF⟩
    · refine Ls_y (wtd0 rfl) rfl rfl (y_assign rfl rfl) ?_
      refine Ls_nil (Th_n (hK5 _ _ ?_))
      refine Wp_cond_f rfl ?_
      refine Wp_skip (Ib_n (Th_n (hK2 _ _ ?_)))
      refine Wp_seq fun K7 hK7 => ?_
      refine Wp_region ?_
      refine Ls_a (wtd0 rfl) ?_
      refine a_alloc rfl rfl rfl Ty.zc_82 hp (fun g2 w2 (hp : Hp w2 [(_, Cl [_, _, _, _] _), _]) hf hg2 => ?_)
      have hg2 := Nat.le_trans hF.size hg2
      have hF := hF.step0 hf
      refine Ls_nil (Th_n (hK7 _ _ ?_))
      refine Wp_seq fun K8 hK8 => ?_
      refine Wp_region ?_
      first
        | refine Ls_y (wtd0 rfl) rfl rfl (y_loadw (i := 0) rfl rfl Ty.ag_60 (fun _ e => e ▸ hp) rfl rfl) ?_
        | refine Ls_y (wtd0 rfl) rfl rfl (y_loadw (i := 1) rfl rfl Ty.ag_60 (fun _ e => e ▸ hp) rfl rfl) ?_
      refine Ls_a (wtd0 rfl) ?_
      refine a_call rfl rfl rfl rfl (stamp_ok g q f d _ hg0 hg hq0 hq) (fun v w4 ⟨hv, hf⟩ => ?_)
      subst hv
      have hp := hp.keep0 hf
      have hF := hF.step0 hf
      have hone := @stampV_one g q
      refine Ls_a (wtd0 rfl) ?_
      refine a_alloc rfl rfl rfl Ty.zc_89 hp (fun g3 w3 (hp : Hp w3 [(_, Cl [_, _, _, _] _), _, _]) hf hg3 => ?_)
      have hg3 := Nat.le_trans hF.size hg3
      have hF := hF.step0 hf
      refine Ls_a (wtd0 rfl) ?_
      first
        | refine a_storew (i := 0) rfl rfl rfl rfl Ty.sz_89 rfl (by first | assumption | (simp [Value.oneCell']; done)) hp rfl rfl (fun w4 (hp : Hp w4 [(_, Cl [_, _, _, _] _), _, _]) hf _ => ?_)
        | refine a_storew (i := 1) rfl rfl rfl rfl Ty.sz_89 rfl (by first | assumption | (simp [Value.oneCell']; done)) hp rfl rfl (fun w4 (hp : Hp w4 [(_, Cl [_, _, _, _] _), _, _]) hf _ => ?_)
        | refine a_storew (i := 2) rfl rfl rfl rfl Ty.sz_89 rfl (by first | assumption | (simp [Value.oneCell']; done)) hp rfl rfl (fun w4 (hp : Hp w4 [(_, Cl [_, _, _, _] _), _, _]) hf _ => ?_)
      have hF := hF.step hf (by intro y hy; simp only [List.mem_cons, List.not_mem_nil, or_false] at hy; subst hy; first | (exact Or.inr (by omega)) | (exact Or.inl (by simp)))
      refine Ls_nil (Th_n (hK8 _ _ ?_))
      refine Wp_seq fun K9 hK9 => ?_
      refine Wp_plan (fun _ => True) [(true, 0), (true, 1), (false, 2)] Ty.mx_0 (by kernel_rfl) (by kernel_rfl) rfl (trivial) ?_
      have hp := hp.drew
      have hF := hF.step0 (Fr.drew _)
      refine Pl_y rfl (wtd0 rfl) rfl rfl (y_cutaN (i := 0) rfl rfl Ty.ar_82 rfl rfl (by first | omega | (simp; omega) | (simp; done)) (by first | omega | (simp; omega) | (simp; done)) (by first | omega | (simp; omega) | (simp; done))) ?_
      refine Pl_y rfl (wtd0 rfl) rfl rfl (y_cutaN (i := 0) rfl rfl Ty.ar_89 rfl rfl (by first | omega | (simp; omega) | (simp; done)) (by first | omega | (simp; omega) | (simp; done)) (by first | omega | (simp; omega) | (simp; done))) ?_
      refine Pl_a rfl (wtd0 rfl) (by rfl) ?_
      refine a_copy (i := 1) rfl rfl rfl rfl rfl Ty.es_45 rfl (range_all (i := 2) hp rfl) rfl stampV_one hp rfl (by simp [stampV, stampN]) (fun w6 (hp : Hp w6 [_, _, _]) hf _ => ?_)
      have hF := hF.step hf (by intro y hy; simp only [List.mem_cons, List.not_mem_nil, or_false] at hy; subst hy; first | (exact Or.inr (by omega)) | (exact Or.inl (by simp)))
      refine ⟨trivial, ?_⟩
      refine Pl_nil (Th_n (hK9 _ _ ?_))
      refine Wp_seq fun K10 hK10 => ?_
      refine Wp_plan (fun W => Hp W (pickL (heapOf hp) [0])) [(true, 0), (true, 1), (true, 2), (true, 3), (true, 4), (true, 5), (true, 6), (false, 7), (true, 8), (false, 9)] Ty.mx_0 (by kernel_rfl) (by kernel_rfl) rfl ((hp.picks [0] (by decide)).drew) ?_
      have hp := hp.drew
      have hF := hF.step0 (Fr.drew _)
      refine Pl_y rfl (wtd0 rfl) rfl rfl (y_fld rfl rfl Ty.fo_60_2) ?_
      refine Pl_y rfl (wtd0 rfl) rfl rfl (y_load (i := 0) rfl rfl Ty.pl_5 (fun _ h => h) rfl rfl) ?_
      refine Pl_y rfl (wtd0 rfl) rfl rfl (y_fld rfl rfl Ty.fo_60_3) ?_
      refine Pl_y rfl (wtd0 rfl) rfl rfl (y_load (i := 0) rfl rfl Ty.pl_9 (fun _ h => h) rfl rfl) ?_
      refine Pl_y rfl (wtd0 rfl) rfl rfl (y_lens rfl rfl Try.underlying9) ?_
      first
        | refine Pl_y rfl (wtd0 rfl) rfl rfl (y_cvi rfl rfl Try.underlying3 Try.underlying5 (wf_u8 (by omega))) ?_
        | refine Pl_y rfl (wtd0 rfl) rfl rfl (y_cvi rfl rfl Try.underlying3 Try.underlying5 wm_u8) ?_
      first
        | refine Pl_y rfl (wtd0 rfl) rfl rfl (y_ixrN rfl rfl rfl Ty.ar_82 (by omega)) ?_
        | refine Pl_y rfl (wtd0 rfl) rfl rfl (y_ixr rfl rfl rfl Ty.ar_82 (by omega) (by omega)) ?_
      refine Pl_a rfl (wtd0 rfl) (by rfl) ?_
      first
        | refine a_store (i := 0) rfl rfl rfl rfl rfl Ty.sz_5 rfl hp rfl (by first | decide | (simp; done) | (simp; omega)) (fun w5 (hp : Hp w5 [(_, Cl [_, _, _, _] _), _, _]) hf _ => ?_)
        | refine a_store (i := 1) rfl rfl rfl rfl rfl Ty.sz_5 rfl hp rfl (by first | decide | (simp; done) | (simp; omega)) (fun w5 (hp : Hp w5 [(_, Cl [_, _, _, _] _), _, _]) hf _ => ?_)
        | refine a_store (i := 2) rfl rfl rfl rfl rfl Ty.sz_5 rfl hp rfl (by first | decide | (simp; done) | (simp; omega)) (fun w5 (hp : Hp w5 [(_, Cl [_, _, _, _] _), _, _]) hf _ => ?_)
      have hF := hF.step hf (by intro y hy; simp only [List.mem_cons, List.not_mem_nil, or_false] at hy; subst hy; first | (exact Or.inr (by omega)) | (exact Or.inl (by simp)))
      refine ⟨hp.picks [0] (by decide), ?_⟩
      first
        | refine Pl_y rfl (wtd0 rfl) rfl rfl (y_ixrN rfl rfl rfl Ty.ar_82 (by omega)) ?_
        | refine Pl_y rfl (wtd0 rfl) rfl rfl (y_ixr rfl rfl rfl Ty.ar_82 (by omega) (by omega)) ?_
      refine Pl_a rfl (wtd0 rfl) (by rfl) ?_
      first
        | refine a_store (i := 0) rfl rfl rfl rfl rfl Ty.sz_5 rfl hp rfl (by first | decide | (simp; done) | (simp; omega)) (fun w6 (hp : Hp w6 [(_, Cl [_, _, _, _] _), _, _]) hf _ => ?_)
        | refine a_store (i := 1) rfl rfl rfl rfl rfl Ty.sz_5 rfl hp rfl (by first | decide | (simp; done) | (simp; omega)) (fun w6 (hp : Hp w6 [(_, Cl [_, _, _, _] _), _, _]) hf _ => ?_)
        | refine a_store (i := 2) rfl rfl rfl rfl rfl Ty.sz_5 rfl hp rfl (by first | decide | (simp; done) | (simp; omega)) (fun w6 (hp : Hp w6 [(_, Cl [_, _, _, _] _), _, _]) hf _ => ?_)
      have hF := hF.step hf (by intro y hy; simp only [List.mem_cons, List.not_mem_nil, or_false] at hy; subst hy; first | (exact Or.inr (by omega)) | (exact Or.inl (by simp)))
      refine ⟨hp.picks [0] (by decide), ?_⟩
      refine Pl_nil (Th_n (hK10 _ _ ?_))
      refine Wp_seq fun K11 hK11 => ?_
      refine Wp_plan (fun W => Hp W (pickL (heapOf hp) [0])) [(true, 0), (true, 1), (true, 2), (false, 3)] Ty.mx_0 (by kernel_rfl) (by kernel_rfl) rfl ((hp.picks [0] (by decide)).drew) ?_
      have hp := hp.drew
      have hF := hF.step0 (Fr.drew _)
      refine Pl_y rfl (wtd0 rfl) rfl rfl (y_cutaN (i := 8) rfl rfl Ty.ar_82 rfl rfl (by first | omega | (simp; omega) | (simp; done)) (by first | omega | (simp; omega) | (simp; done)) (by first | omega | (simp; omega) | (simp; done))) ?_
      refine Pl_y rfl (wtd0 rfl) rfl rfl (y_fld rfl rfl Ty.fo_60_3) ?_
      refine Pl_y rfl (wtd0 rfl) rfl rfl (y_load (i := 0) rfl rfl Ty.pl_9 (fun _ h => h) rfl rfl) ?_
      refine Pl_a rfl (wtd0 rfl) (by rfl) ?_
      refine a_copys (i := 1) rfl rfl rfl rfl rfl Ty.es_45 (Nat.min_eq_left (by omega)) hp rfl (by simp; omega) (fun w9 (hp : Hp w9 [_, _, _]) hf _ => ?_)
      have hF := hF.step hf (by intro y hy; simp only [List.mem_cons, List.not_mem_nil, or_false] at hy; subst hy; first | (exact Or.inr (by omega)) | (exact Or.inl (by simp)))
      refine ⟨hp.picks [0] (by decide), ?_⟩
      refine Pl_nil (Th_n (hK11 _ _ ?_))
      refine Wp_seq fun K12 hK12 => ?_
      refine Wp_plan (fun _ => True) [(true, 0), (true, 1), (false, 2)] Ty.mx_0 (by kernel_rfl) (by kernel_rfl) rfl (trivial) ?_
      have hp := hp.drew
      have hF := hF.step0 (Fr.drew _)
      refine Pl_y rfl (wtd0 rfl) rfl rfl (y_cutaN (i := 58) rfl rfl Ty.ar_82 rfl rfl (by first | omega | (simp; omega) | (simp; done)) (by first | omega | (simp; omega) | (simp; done)) (by first | omega | (simp; omega) | (simp; done))) ?_
      refine Pl_y rfl (wtd0 rfl) rfl rfl (y_cutaN (i := 0) rfl rfl Ty.ar_89 rfl rfl (by first | omega | (simp; omega) | (simp; done)) (by first | omega | (simp; omega) | (simp; done)) (by first | omega | (simp; omega) | (simp; done))) ?_
      refine Pl_a rfl (wtd0 rfl) (by rfl) ?_
      refine a_copy (i := 1) rfl rfl rfl rfl rfl Ty.es_45 rfl (range_all (i := 2) hp rfl) rfl stampV_one hp rfl (by simp [stampV, stampN]; omega) (fun w10 (hp : Hp w10 [_, _, _]) hf _ => ?_)
      have hF := hF.step hf (by intro y hy; simp only [List.mem_cons, List.not_mem_nil, or_false] at hy; subst hy; first | (exact Or.inr (by omega)) | (exact Or.inl (by simp)))
      refine ⟨trivial, ?_⟩
      refine Pl_nil (Th_n (hK12 _ _ ?_))
      have hE := pack_cells g q f d (by omega)
      have hp : Hp w10 [_, _, _] := hp.conv (i := 1) rfl hE.symm
      refine Wp_seq fun K13 hK13 => ?_
      refine Wp_region ?_
      refine Ls_y (wtd0 rfl) rfl rfl (y_cutaN (i := 0) rfl rfl Ty.ar_82 rfl rfl (by first | omega | (simp; omega) | (simp; done)) (by first | omega | (simp; omega) | (simp; done)) (by first | omega | (simp; omega) | (simp; done))) ?_
      refine Ls_y (wtd0 rfl) rfl rfl (y_cvbs (xs := packN g q f d) rfl rfl Try.underlying45 Try.underlying5 Try.underlying9 (packN_length g q f d (by omega)) (by rintro _ rfl; exact range_all (i := 1) hp rfl)) ?_
      refine Ls_y (wtd0 rfl) rfl rfl (y_assign rfl rfl) ?_
      refine Ls_y (wtd0 rfl) rfl rfl (y_assign rfl rfl) ?_
      refine Ls_nil (Th_n (hK13 _ _ ?_))
      refine Wp_ret (Fq_ret (Res2 rfl rfl rfl) ?_)
      exact ⟨by simp [packS, packE, show ¬ 50 < d.length by omega, hc2], hF⟩

end Go.Proofs.Ytcpfhnfpokijaaa

/- Walks printed by gen.py out of our own specifications: what the functions named below do. -/
import Derived.Test.YtcpfhnfpokijaaaW9
import Derived.Test.YtcpfhnfpokijaaaSu
set_option linter.unusedSimpArgs false
set_option linter.unusedVariables false
namespace Go.Proofs.Ytcpfhnfpokijaaa
open Go.RowKit


/-- A journal's fields. -/
structure Jn where
  base : Nat
  size : Nat
  gen : Int
  least : Int
  head : Nat
  next : Nat
  lasts : Nat
  over : Bool
  deriving DecidableEq
def jC (gd : Nat) (J : Jn) : List Value := [.pointer (some ⟨gd, 0, none⟩), .int .i64 (J.base : Int), .int .i64 (J.size : Int), .int .u16 J.gen, .int .u16 J.least, .int .u32 (J.head : Int), .int .u32 (J.next : Int), .int .u32 (J.lasts : Int), .bool J.over]
/-- The memory of a journal. -/
def jH (gj : Nat) (p : Dp) (D : Dk) (J : Jn) : Heap := dkH p D ++ [(some gj, Cl (jC p.gd J) 53)]
structure JnOk (J : Jn) : Prop where
  base : J.base ≤ 2000
  size : J.size ≤ 1024
  size1 : 1 ≤ J.size
  head : J.head ≤ 1000000
  next : J.next ≤ 1000000
  lasts : J.lasts ≤ 1000000
  gen : 0 ≤ J.gen ∧ J.gen < 65536
  least : 0 ≤ J.least ∧ J.least < 65536
  hn : J.head ≤ J.next
  ns : J.next ≤ J.head + J.size
structure JnB (J : Jn) : Prop where
  base : J.base ≤ 2000
  size : J.size ≤ 1024
  size1 : 1 ≤ J.size
  head : J.head ≤ 1000000
theorem JnOk.b {J : Jn} (h : JnOk J) : JnB J := ⟨h.base, h.size, h.size1, h.head⟩
def cellsN (s : List UInt8) : Nat := max ((s.length + 49) / 50) 1
abbrev Ce := Option (Int × Int × Int × List UInt8)
def cellAt (D : Dk) (i : Int) : Ce := if readE D i = 0 then unpackL (readS D i) else none
/-- The greatest generation among the first k sectors. -/
def newestD (D : Dk) (base : Nat) : Nat → Int
  | 0 => 0
  | k + 1 => if (cellAt D ((base : Int) + (k : Int))).isSome = true then max (newestD D base k) (cG (cellAt D ((base : Int) + (k : Int)))) else newestD D base k

set_option maxRecDepth 20000 in
theorem within_ok (a b : Int) (g c : Nat) (w : World) (hp : Hp w [(some g, Cl [.int .i64 a, .int .i64 b] 3)]) (ha : 0 ≤ a ∧ a ≤ 1099511627776) (hb : 0 ≤ b ∧ b ≤ 1099511627776) :
    Fn Try.prog 48 [.int .i64 0, .int .i64 1099511627776, .slice (some ⟨g, 0, none⟩) 2 c] w fun v w' => v = .bool true ∧ w' = w := by
  refine Fn_of 24 Ty.en_48 Try.func48 rfl rfl rfl ?_
  dsimp only [argEnv]
  have hp : Hp w [(_, Cl [_, _] _)] := hp
  have hF := Fr.refl [] w
  refine Wp_seq fun K1 hK1 => ?_
  refine Wp_region ?_
  refine Ls_y (wtd0 rfl) rfl rfl (y_assign rfl rfl) ?_
  refine Ls_nil (Th_n (hK1 _ _ ?_))
  refine Wp_seq fun K2 hK2 => ?_
  refine Wp_seq fun K3 hK3 => ?_
  refine Wp_region ?_
  refine Ls_y (wtd0 rfl) rfl rfl (y_move rfl rfl) ?_
  refine Ls_y (wtd0 rfl) rfl rfl (y_lenl rfl rfl Try.underlying79) ?_
  refine Ls_y (wtd0 rfl) rfl rfl (y_move rfl rfl) ?_
  refine Ls_nil (Th_n (hK3 _ _ ?_))
  refine Wp_block ?_
  refine Wp_unroll 3 (WpR_succ ?_)
  refine Wp_seq fun K4 hK4 => ?_
  refine Wp_region ?_
  refine Ls_y (wtd0 rfl) rfl rfl (y_ltT rfl rfl rfl (by omega)) ?_
  refine Ls_nil (Th_n (hK4 _ _ ?_))
  refine Wp_seq fun K5 hK5 => ?_
  refine Wp_cond_t rfl ?_
  refine Wp_skip (Th_n (hK5 _ _ ?_))
  refine Wp_seq fun K6 hK6 => ?_
  refine Wp_block ?_
  refine Wp_seq fun K7 hK7 => ?_
  refine Wp_region ?_
  first
    | refine Ls_y (wtd0 rfl) rfl rfl (y_ixaN rfl rfl rfl Ty.es_79 (by omega)) ?_
    | refine Ls_y (wtd0 rfl) rfl rfl (y_ixa rfl rfl rfl Ty.es_79 (by omega) (by omega)) ?_
  refine Ls_y (wtd0 rfl) rfl rfl (y_load (i := 0) rfl rfl Ty.pl_3 (fun _ e => e ▸ hp) rfl rfl) ?_
  refine Ls_y (wtd0 rfl) rfl rfl (y_assign rfl rfl) ?_
  refine Ls_nil (Th_n (hK7 _ _ ?_))
  refine Wp_seq fun K8 hK8 => ?_
  refine Wp_region ?_
  refine Ls_y (wtd0 rfl) rfl rfl (y_move rfl rfl) ?_
  refine Ls_y (wtd0 rfl) rfl rfl (y_move rfl rfl) ?_
  refine Ls_y (wtd0 rfl) rfl rfl (y_ltF rfl rfl rfl (by omega)) ?_
  refine Ls_y (wtd0 rfl) rfl rfl (y_move rfl rfl) ?_
  refine Ls_y (wtdT rfl rfl rfl) rfl rfl (y_move rfl rfl) ?_
  refine Ls_y (wtdT rfl rfl rfl) rfl rfl (y_move rfl rfl) ?_
  refine Ls_y (wtdT rfl rfl rfl) rfl rfl (y_gtF rfl rfl rfl (by omega)) ?_
  refine Ls_y (wtd0 rfl) rfl rfl (y_pick_f rfl rfl rfl) ?_
  refine Ls_nil (Th_n (hK8 _ _ ?_))
  refine Wp_cond_f rfl ?_
  refine Wp_skip (Ib_n (Th_n (hK6 _ _ ?_)))
  refine Wp_region ?_
  refine Ls_y (wtd0 rfl) rfl rfl (y_add (c := 1) rfl rfl rfl (by decide)) ?_
  refine Ls_y (wtd0 rfl) rfl rfl (y_move rfl rfl) ?_
  refine Ls_nil (Th_n (WpR_succ ?_))
  refine Wp_seq fun K9 hK9 => ?_
  refine Wp_region ?_
  refine Ls_y (wtd0 rfl) rfl rfl (y_ltT rfl rfl rfl (by omega)) ?_
  refine Ls_nil (Th_n (hK9 _ _ ?_))
  refine Wp_seq fun K10 hK10 => ?_
  refine Wp_cond_t rfl ?_
  refine Wp_skip (Th_n (hK10 _ _ ?_))
  refine Wp_seq fun K11 hK11 => ?_
  refine Wp_block ?_
  refine Wp_seq fun K12 hK12 => ?_
  refine Wp_region ?_
  first
    | refine Ls_y (wtd0 rfl) rfl rfl (y_ixaN rfl rfl rfl Ty.es_79 (by omega)) ?_
    | refine Ls_y (wtd0 rfl) rfl rfl (y_ixa rfl rfl rfl Ty.es_79 (by omega) (by omega)) ?_
  refine Ls_y (wtd0 rfl) rfl rfl (y_load (i := 0) rfl rfl Ty.pl_3 (fun _ e => e ▸ hp) rfl rfl) ?_
  refine Ls_y (wtd0 rfl) rfl rfl (y_assign rfl rfl) ?_
  refine Ls_nil (Th_n (hK12 _ _ ?_))
  refine Wp_seq fun K13 hK13 => ?_
  refine Wp_region ?_
  refine Ls_y (wtd0 rfl) rfl rfl (y_move rfl rfl) ?_
  refine Ls_y (wtd0 rfl) rfl rfl (y_move rfl rfl) ?_
  refine Ls_y (wtd0 rfl) rfl rfl (y_ltF rfl rfl rfl (by omega)) ?_
  refine Ls_y (wtd0 rfl) rfl rfl (y_move rfl rfl) ?_
  refine Ls_y (wtdT rfl rfl rfl) rfl rfl (y_move rfl rfl) ?_
  refine Ls_y (wtdT rfl rfl rfl) rfl rfl (y_move rfl rfl) ?_
  refine Ls_y (wtdT rfl rfl rfl) rfl rfl (y_gtF rfl rfl rfl (by omega)) ?_
  refine Ls_y (wtd0 rfl) rfl rfl (y_pick_f rfl rfl rfl) ?_
  refine Ls_nil (Th_n (hK13 _ _ ?_))
  refine Wp_cond_f rfl ?_
  refine Wp_skip (Ib_n (Th_n (hK11 _ _ ?_)))
  refine Wp_region ?_
  refine Ls_y (wtd0 rfl) rfl rfl (y_add (c := 2) rfl rfl rfl (by decide)) ?_
  refine Ls_y (wtd0 rfl) rfl rfl (y_move rfl rfl) ?_
  refine Ls_nil (Th_n (WpR_succ ?_))
  refine Wp_seq fun K14 hK14 => ?_
  refine Wp_region ?_
  refine Ls_y (wtd0 rfl) rfl rfl (y_ltF rfl rfl rfl (by omega)) ?_
  refine Ls_nil (Th_n (hK14 _ _ ?_))
  refine Wp_seq fun K15 hK15 => ?_
  refine Wp_cond_f rfl ?_
  refine Wp_exit (Th_e (Th_e (Ib_hit (Th_n (hK2 _ _ ?_)))))
  refine Wp_seq fun K16 hK16 => ?_
  refine Wp_region ?_
  refine Ls_y (wtd0 rfl) rfl rfl (y_assign rfl rfl) ?_
  refine Ls_nil (Th_n (hK16 _ _ ?_))
  refine Wp_ret (Fq_ret (Res1 rfl rfl) ?_)
  exact ⟨rfl, rfl⟩

set_option maxRecDepth 20000 in
theorem ceil_ok (n : Nat) (w : World) (hn : n ≤ 1000000) : Fn Try.prog 32 [.int .i64 (n : Int), .int .i64 50] w fun v w' => v = .tuple #[.int .i64 (((n + 49) / 50 : Nat) : Int), .int .i64 0] ∧ Fr [] w w' := by
  refine Fn_of 21 Ty.en_32 Try.func32 rfl rfl rfl ?_
  dsimp only [argEnv]
  have hp := Hp.nil w
  have hF := Fr.refl [] w
  refine Wp_seq fun K1 hK1 => ?_
  refine Wp_region ?_
  refine Ls_y (wtd0 rfl) rfl rfl (y_assign rfl rfl) ?_
  refine Ls_y (wtd0 rfl) rfl rfl (y_assign rfl rfl) ?_
  refine Ls_nil (Th_n (hK1 _ _ ?_))
  refine Wp_seq fun K2 hK2 => ?_
  refine Wp_seq fun K3 hK3 => ?_
  refine Wp_region ?_
  refine Ls_y (wtd0 rfl) rfl rfl (y_move rfl rfl) ?_
  refine Ls_y (wtd0 rfl) rfl rfl (y_move rfl rfl) ?_
  refine Ls_a (wtd0 rfl) ?_
  refine a_bsl rfl rfl rfl rfl rfl Ty.es_79 Ty.zc_3 rfl (by decide) (by simp [Value.cells]) hp (fun g2 w2 (hp : Hp w2 [(_, Cl [_, _] _)]) hf hg2 => ?_)
  have hF := hF.step0 hf
  refine Ls_a (wtd0 rfl) ?_
  refine a_call rfl rfl rfl rfl (within_ok (n : Int) 50 g2 2 _ hp (by omega) (by omega)) (fun v w3 ⟨hv, hw⟩ => ?_)
  subst hv
  subst hw
  refine Ls_y (wtd0 rfl) rfl rfl (y_not rfl rfl) ?_
  refine Ls_y (wtd0 rfl) rfl rfl (y_move rfl rfl) ?_
  refine Ls_y (wtdT rfl rfl rfl) rfl rfl (y_move rfl rfl) ?_
  refine Ls_y (wtdT rfl rfl rfl) rfl rfl (y_eqF rfl rfl rfl (by omega)) ?_
  refine Ls_y (wtd0 rfl) rfl rfl (y_pick_f rfl rfl rfl) ?_
  refine Ls_nil (Th_n (hK3 _ _ ?_))
  refine Wp_cond_f rfl ?_
  refine Wp_skip (Th_n (hK2 _ _ ?_))
  refine Wp_seq fun K4 hK4 => ?_
  refine Wp_region ?_
  refine Ls_y (wtd0 rfl) rfl rfl (y_move rfl rfl) ?_
  refine Ls_y (wtd0 rfl) rfl rfl (y_move rfl rfl) ?_
  refine Ls_y (wtd0 rfl) rfl rfl (y_add rfl rfl rfl (wf_i64 (by omega))) ?_
  refine Ls_y (wtd0 rfl) rfl rfl (y_sub rfl rfl rfl (wf_i64 (by omega))) ?_
  refine Ls_y (wtd0 rfl) rfl rfl (y_move rfl rfl) ?_
  refine Ls_y (wtd0 rfl) rfl rfl (y_quoP rfl rfl rfl (by omega) (by omega) (wf_i64 (by omega))) ?_
  refine Ls_y (wtd0 rfl) rfl rfl (y_assign rfl rfl) ?_
  refine Ls_y (wtd0 rfl) rfl rfl (y_assign rfl rfl) ?_
  refine Ls_nil (Th_n (hK4 _ _ ?_))
  refine Wp_ret (Fq_ret (Res2 rfl rfl rfl) ?_)
  refine ⟨?_, hF⟩
  rw [show ((n : Int) + 50 - 1) / 50 = (((n + 49) / 50 : Nat) : Int) by omega]

set_option maxRecDepth 20000 in
theorem ncells_ok (s : List UInt8) (w : World) (hs : s.length ≤ 1000000) : Fn Try.prog 10 [sv s] w fun v w' => v = .int .i64 (cellsN s : Int) ∧ Fr [] w w' := by
  refine Fn_of 13 Ty.en_10 Try.func10 rfl rfl rfl ?_
  dsimp only [argEnv]
  have hp := Hp.nil w
  have hF := Fr.refl [] w
  refine Wp_seq fun K1 hK1 => ?_
  refine Wp_region ?_
  refine Ls_y (wtd0 rfl) rfl rfl (y_assign rfl rfl) ?_
  refine Ls_nil (Th_n (hK1 _ _ ?_))
  refine Wp_seq fun K2 hK2 => ?_
  refine Wp_region ?_
  refine Ls_y (wtd0 rfl) rfl rfl (y_move rfl rfl) ?_
  refine Ls_y (wtd0 rfl) rfl rfl (y_lens rfl rfl Try.underlying9) ?_
  refine Ls_a (wtd0 rfl) ?_
  refine a_call rfl rfl rfl rfl (ceil_ok s.length _ hs) (fun v w2 ⟨hv, hf⟩ => ?_)
  subst hv
  have hp := hp.keep0 hf
  have hF := hF.step0 hf
  refine Ls_y (wtd0 rfl) rfl rfl (y_move rfl rfl) ?_
  refine Ls_y (wtd0 rfl) rfl rfl (y_ext rfl rfl rfl) ?_
  refine Ls_y (wtd0 rfl) rfl rfl (y_ext rfl rfl rfl) ?_
  refine Ls_y (wtd0 rfl) rfl rfl (y_assign rfl rfl) ?_
  refine Ls_y (wtd0 rfl) rfl rfl (y_assign rfl rfl) ?_
  refine Ls_nil (Th_n (hK2 _ _ ?_))
  refine Wp_seq fun K3 hK3 => ?_
  refine Wp_region ?_
  refine Ls_y (wtd0 rfl) rfl rfl (y_move rfl rfl) ?_
  refine Ls_y (wtd0 rfl) rfl rfl (y_max rfl rfl rfl) ?_
  refine Ls_y (wtd0 rfl) rfl rfl (y_assign rfl rfl) ?_
  refine Ls_nil (Th_n (hK3 _ _ ?_))
  refine Wp_ret (Fq_ret (Res1 rfl rfl) ?_)
  exact ⟨by unfold cellsN; congr 1; omega, hF⟩

set_option maxRecDepth 20000 in
theorem jplace_ok (gj gd : Nat) (J : Jn) (w : World) (hp : Hp w [(some gj, Cl (jC gd J) 53)]) (hJ : JnB J) (q : Nat) (hq : q ≤ 2000000) :
    Fn Try.prog 31 [.pointer (some ⟨gj, 0, none⟩), .int .u32 (q : Int)] w fun v w' => v = .int .i64 ((J.base + q % J.size : Nat) : Int) ∧ Fr [] w w' := by
  refine Fn_of 18 Ty.en_31 Try.func31 rfl rfl rfl ?_
  dsimp only [argEnv]
  have hp : Hp w [(_, Cl [_, _, _, _, _, _, _, _, _] _)] := hp
  have hF := Fr.refl [] w
  have hb := hJ.base
  have hsz := hJ.size
  have hs1 := hJ.size1
  have hm := Nat.mod_lt q (show 0 < J.size by omega)
  have em : ((q : Int) % (J.size : Int)) = ((q % J.size : Nat) : Int) := rfl
  refine Wp_seq fun K1 hK1 => ?_
  refine Wp_region ?_
  refine Ls_y (wtd0 rfl) rfl rfl (y_assign rfl rfl) ?_
  refine Ls_nil (Th_n (hK1 _ _ ?_))
  refine Wp_seq fun K2 hK2 => ?_
  refine Wp_plan (fun W => Hp W (heapOf hp)) [(true, 0), (true, 1), (true, 2), (true, 3), (true, 4), (true, 5), (true, 6), (true, 7), (true, 8), (true, 9), (true, 10), (true, 11), (true, 12), (true, 13)] Ty.mx_0 (by kernel_rfl) (by kernel_rfl) rfl (hp.drew) ?_
  have hp := hp.drew
  have hF := hF.step0 (Fr.drew _)
  refine Pl_y rfl (wtd0 rfl) rfl rfl (y_move rfl rfl) ?_
  refine Pl_y rfl (wtd0 rfl) rfl rfl (y_nil rfl rfl) ?_
  refine Pl_y rfl (wtd0 rfl) rfl rfl (y_fld rfl rfl Ty.fo_53_1) ?_
  refine Pl_y rfl (wtd0 rfl) rfl rfl (y_load (i := 0) rfl rfl Ty.pl_3 (fun _ h => h) rfl rfl) ?_
  refine Pl_y rfl (wtd0 rfl) rfl rfl (y_move rfl rfl) ?_
  refine Pl_y rfl (wtd0 rfl) rfl rfl (y_move rfl rfl) ?_
  refine Pl_y rfl (wtd0 rfl) rfl rfl (y_nil rfl rfl) ?_
  refine Pl_y rfl (wtd0 rfl) rfl rfl (y_fld rfl rfl Ty.fo_53_2) ?_
  refine Pl_y rfl (wtd0 rfl) rfl rfl (y_load (i := 0) rfl rfl Ty.pl_3 (fun _ h => h) rfl rfl) ?_
  refine Pl_y rfl (wtd0 rfl) rfl rfl (y_cvi rfl rfl Try.underlying3 Try.underlying32 (wf_u32 (by omega))) ?_
  refine Pl_y rfl (wtd0 rfl) rfl rfl (y_remP rfl rfl rfl (by omega) (by omega)) ?_
  refine Pl_y rfl (wtd0 rfl) rfl rfl (y_cvi rfl rfl Try.underlying32 Try.underlying3 (wf_i64 (by omega))) ?_
  first
    | refine Pl_y rfl (wtd0 rfl) rfl rfl (y_add rfl rfl rfl (w_addN (by first | omega | (simp; omega)))) ?_
    | refine Pl_y rfl (wtd0 rfl) rfl rfl (y_add rfl rfl rfl (wf_i64 (by omega))) ?_
    | refine Pl_y rfl (wtd0 rfl) rfl rfl (y_add rfl rfl rfl rfl) ?_
  refine Pl_y rfl (wtd0 rfl) rfl rfl (y_assign rfl rfl) ?_
  refine Pl_nil (Th_n (hK2 _ _ ?_))
  refine Wp_ret (Fq_ret (Res1 rfl rfl) ?_)
  exact ⟨rfl, hF⟩

set_option maxRecDepth 20000 in
theorem jhead_ok (gj gd : Nat) (J : Jn) (w : World) (hp : Hp w [(some gj, Cl (jC gd J) 53)])  :
    Fn Try.prog 11 [.pointer (some ⟨gj, 0, none⟩)] w fun v w' => v = .int .u32 (J.head : Int) ∧ w' = w := by
  refine Fn_of 7 Ty.en_11 Try.func11 rfl rfl rfl ?_
  dsimp only [argEnv]
  have hp : Hp w [(_, Cl [_, _, _, _, _, _, _, _, _] _)] := hp
  have hF := Fr.refl [] w
  refine Wp_seq fun K1 hK1 => ?_
  refine Wp_region ?_
  refine Ls_y (wtd0 rfl) rfl rfl (y_assign rfl rfl) ?_
  refine Ls_nil (Th_n (hK1 _ _ ?_))
  refine Wp_seq fun K2 hK2 => ?_
  refine Wp_region ?_
  refine Ls_y (wtd0 rfl) rfl rfl (y_move rfl rfl) ?_
  refine Ls_y (wtd0 rfl) rfl rfl (y_nil rfl rfl) ?_
  refine Ls_y (wtd0 rfl) rfl rfl (y_fld rfl rfl Ty.fo_53_5) ?_
  refine Ls_y (wtd0 rfl) rfl rfl (y_load (i := 0) rfl rfl Ty.pl_32 (fun _ e => e ▸ hp) rfl rfl) ?_
  refine Ls_y (wtd0 rfl) rfl rfl (y_assign rfl rfl) ?_
  refine Ls_nil (Th_n (hK2 _ _ ?_))
  refine Wp_ret (Fq_ret (Res1 rfl rfl) ?_)
  exact ⟨rfl, rfl⟩

set_option maxRecDepth 20000 in
theorem jnext_ok (gj gd : Nat) (J : Jn) (w : World) (hp : Hp w [(some gj, Cl (jC gd J) 53)])  :
    Fn Try.prog 13 [.pointer (some ⟨gj, 0, none⟩)] w fun v w' => v = .int .u32 (J.next : Int) ∧ w' = w := by
  refine Fn_of 7 Ty.en_13 Try.func13 rfl rfl rfl ?_
  dsimp only [argEnv]
  have hp : Hp w [(_, Cl [_, _, _, _, _, _, _, _, _] _)] := hp
  have hF := Fr.refl [] w
  refine Wp_seq fun K1 hK1 => ?_
  refine Wp_region ?_
  refine Ls_y (wtd0 rfl) rfl rfl (y_assign rfl rfl) ?_
  refine Ls_nil (Th_n (hK1 _ _ ?_))
  refine Wp_seq fun K2 hK2 => ?_
  refine Wp_region ?_
  refine Ls_y (wtd0 rfl) rfl rfl (y_move rfl rfl) ?_
  refine Ls_y (wtd0 rfl) rfl rfl (y_nil rfl rfl) ?_
  refine Ls_y (wtd0 rfl) rfl rfl (y_fld rfl rfl Ty.fo_53_6) ?_
  refine Ls_y (wtd0 rfl) rfl rfl (y_load (i := 0) rfl rfl Ty.pl_32 (fun _ e => e ▸ hp) rfl rfl) ?_
  refine Ls_y (wtd0 rfl) rfl rfl (y_assign rfl rfl) ?_
  refine Ls_nil (Th_n (hK2 _ _ ?_))
  refine Wp_ret (Fq_ret (Res1 rfl rfl) ?_)
  exact ⟨rfl, rfl⟩

set_option maxRecDepth 20000 in
theorem jlasts_ok (gj gd : Nat) (J : Jn) (w : World) (hp : Hp w [(some gj, Cl (jC gd J) 53)])  :
    Fn Try.prog 16 [.pointer (some ⟨gj, 0, none⟩)] w fun v w' => v = .int .u32 (J.lasts : Int) ∧ w' = w := by
  refine Fn_of 7 Ty.en_16 Try.func16 rfl rfl rfl ?_
  dsimp only [argEnv]
  have hp : Hp w [(_, Cl [_, _, _, _, _, _, _, _, _] _)] := hp
  have hF := Fr.refl [] w
  refine Wp_seq fun K1 hK1 => ?_
  refine Wp_region ?_
  refine Ls_y (wtd0 rfl) rfl rfl (y_assign rfl rfl) ?_
  refine Ls_nil (Th_n (hK1 _ _ ?_))
  refine Wp_seq fun K2 hK2 => ?_
  refine Wp_region ?_
  refine Ls_y (wtd0 rfl) rfl rfl (y_move rfl rfl) ?_
  refine Ls_y (wtd0 rfl) rfl rfl (y_nil rfl rfl) ?_
  refine Ls_y (wtd0 rfl) rfl rfl (y_fld rfl rfl Ty.fo_53_7) ?_
  refine Ls_y (wtd0 rfl) rfl rfl (y_load (i := 0) rfl rfl Ty.pl_32 (fun _ e => e ▸ hp) rfl rfl) ?_
  refine Ls_y (wtd0 rfl) rfl rfl (y_assign rfl rfl) ?_
  refine Ls_nil (Th_n (hK2 _ _ ?_))
  refine Wp_ret (Fq_ret (Res1 rfl rfl) ?_)
  exact ⟨rfl, rfl⟩

set_option maxRecDepth 20000 in
theorem jroom_ok (gj gd : Nat) (J : Jn) (w : World) (hp : Hp w [(some gj, Cl (jC gd J) 53)]) (hJ : JnOk J) :
    Fn Try.prog 8 [.pointer (some ⟨gj, 0, none⟩)] w fun v w' => v = .int .i64 ((J.size : Int) - ((J.next - J.head : Nat) : Int)) ∧ Fr [] w w' := by
  refine Fn_of 18 Ty.en_8 Try.func8 rfl rfl rfl ?_
  dsimp only [argEnv]
  have hp : Hp w [(_, Cl [_, _, _, _, _, _, _, _, _] _)] := hp
  have hF := Fr.refl [] w
  have hb := hJ.base
  have hsz := hJ.size
  have hn := hJ.next
  have hh := hJ.hn
  have em : IntKind.u32.wrap ((J.next : Int) - (J.head : Int)) = ((J.next - J.head : Nat) : Int) := by rw [IntKind.wrap_u32]; omega
  refine Wp_seq fun K1 hK1 => ?_
  refine Wp_region ?_
  refine Ls_y (wtd0 rfl) rfl rfl (y_assign rfl rfl) ?_
  refine Ls_nil (Th_n (hK1 _ _ ?_))
  refine Wp_seq fun K2 hK2 => ?_
  refine Wp_plan (fun W => Hp W (heapOf hp)) [(true, 0), (true, 1), (true, 2), (true, 3), (true, 4), (true, 5), (true, 6), (true, 7), (true, 8), (true, 9), (true, 10), (true, 11), (true, 12), (true, 13), (true, 14), (true, 15)] Ty.mx_0 (by kernel_rfl) (by kernel_rfl) rfl (hp.drew) ?_
  have hp := hp.drew
  have hF := hF.step0 (Fr.drew _)
  refine Pl_y rfl (wtd0 rfl) rfl rfl (y_move rfl rfl) ?_
  refine Pl_y rfl (wtd0 rfl) rfl rfl (y_nil rfl rfl) ?_
  refine Pl_y rfl (wtd0 rfl) rfl rfl (y_fld rfl rfl Ty.fo_53_2) ?_
  refine Pl_y rfl (wtd0 rfl) rfl rfl (y_load (i := 0) rfl rfl Ty.pl_3 (fun _ h => h) rfl rfl) ?_
  refine Pl_y rfl (wtd0 rfl) rfl rfl (y_move rfl rfl) ?_
  refine Pl_y rfl (wtd0 rfl) rfl rfl (y_nil rfl rfl) ?_
  refine Pl_y rfl (wtd0 rfl) rfl rfl (y_fld rfl rfl Ty.fo_53_6) ?_
  refine Pl_y rfl (wtd0 rfl) rfl rfl (y_load (i := 0) rfl rfl Ty.pl_32 (fun _ h => h) rfl rfl) ?_
  refine Pl_y rfl (wtd0 rfl) rfl rfl (y_move rfl rfl) ?_
  refine Pl_y rfl (wtd0 rfl) rfl rfl (y_nil rfl rfl) ?_
  refine Pl_y rfl (wtd0 rfl) rfl rfl (y_fld rfl rfl Ty.fo_53_5) ?_
  refine Pl_y rfl (wtd0 rfl) rfl rfl (y_load (i := 0) rfl rfl Ty.pl_32 (fun _ h => h) rfl rfl) ?_
  refine Pl_y rfl (wtd0 rfl) rfl rfl (y_sub rfl rfl rfl em) ?_
  refine Pl_y rfl (wtd0 rfl) rfl rfl (y_cvi rfl rfl Try.underlying32 Try.underlying3 (wf_i64 (by omega))) ?_
  refine Pl_y rfl (wtd0 rfl) rfl rfl (y_sub rfl rfl rfl (wf_i64 (by omega))) ?_
  refine Pl_y rfl (wtd0 rfl) rfl rfl (y_assign rfl rfl) ?_
  refine Pl_nil (Th_n (hK2 _ _ ?_))
  refine Wp_ret (Fq_ret (Res1 rfl rfl) ?_)
  exact ⟨rfl, hF⟩

set_option maxRecDepth 20000 in
theorem jcell_ok (gj : Nat) (p : Dp) (D : Dk) (J : Jn) (w : World) (hp : Hp w (jH gj p D J)) (hD : DkOk D) (i : Int) :
    Fn Try.prog 42 [.pointer (some ⟨gj, 0, none⟩), .int .i64 i] w fun v w' => v = .tuple #[cellO (cellAt D i), .bool (cellAt D i).isSome] ∧ Fr [] w w' := by
  refine Fn_of 24 Ty.en_42 Try.func42 rfl rfl rfl ?_
  dsimp only [argEnv]
  have hp : Hp w [(_, Cl [_, _, _, _, _] _), _, _, (_, Cl [_, _, _, _, _, _, _, _, _] _)] := hp
  have hF := Fr.refl [] w
  refine Wp_seq fun K1 hK1 => ?_
  refine Wp_region ?_
  refine Ls_a (wtd0 rfl) ?_
  refine a_alloc rfl rfl rfl Ty.zc_60 hp (fun g1 w1 (hp : Hp w1 [(_, Cl [_, _, _, _, _] _), _, _, (_, Cl [_, _, _, _, _, _, _, _, _] _), (_, Cl [_, _, _, _] _)]) hf hg1 => ?_)
  have hg1 := Nat.le_trans hF.size hg1
  have hF := hF.step0 hf
  refine Ls_y (wtd0 rfl) rfl rfl (y_assign rfl rfl) ?_
  refine Ls_nil (Th_n (hK1 _ _ ?_))
  refine Wp_seq fun K2 hK2 => ?_
  refine Wp_region ?_
  refine Ls_y (wtd0 rfl) rfl rfl (y_move rfl rfl) ?_
  refine Ls_y (wtd0 rfl) rfl rfl (y_nil rfl rfl) ?_
  refine Ls_y (wtd0 rfl) rfl rfl (y_fld rfl rfl Ty.fo_53_0) ?_
  first
    | refine Ls_y (wtd0 rfl) rfl rfl (y_load (i := 0) rfl rfl Ty.pl_25 (fun _ e => e ▸ hp) rfl rfl) ?_
    | refine Ls_y (wtd0 rfl) rfl rfl (y_load (i := 1) rfl rfl Ty.pl_25 (fun _ e => e ▸ hp) rfl rfl) ?_
    | refine Ls_y (wtd0 rfl) rfl rfl (y_load (i := 2) rfl rfl Ty.pl_25 (fun _ e => e ▸ hp) rfl rfl) ?_
    | refine Ls_y (wtd0 rfl) rfl rfl (y_load (i := 3) rfl rfl Ty.pl_25 (fun _ e => e ▸ hp) rfl rfl) ?_
    | refine Ls_y (wtd0 rfl) rfl rfl (y_load (i := 4) rfl rfl Ty.pl_25 (fun _ e => e ▸ hp) rfl rfl) ?_
  refine Ls_y (wtd0 rfl) rfl rfl (y_move rfl rfl) ?_
  refine Ls_a (wtd0 rfl) ?_
  refine a_call rfl rfl rfl rfl (dread_ok p D _ (hp.picks [0, 1, 2] (by decide)) hD i) (fun v w1 ⟨hv, hw⟩ => ?_)
  subst hv
  subst hw
  refine Ls_y (wtd0 rfl) rfl rfl (y_move rfl rfl) ?_
  refine Ls_y (wtd0 rfl) rfl rfl (y_ext rfl rfl rfl) ?_
  refine Ls_y (wtd0 rfl) rfl rfl (y_ext rfl rfl rfl) ?_
  refine Ls_y (wtd0 rfl) rfl rfl (y_assign rfl rfl) ?_
  refine Ls_y (wtd0 rfl) rfl rfl (y_assign rfl rfl) ?_
  refine Ls_nil (Th_n (hK2 _ _ ?_))
  refine Wp_seq fun K3 hK3 => ?_
  refine Wp_seq fun K4 hK4 => ?_
  refine Wp_region ?_
  refine Ls_y (wtd0 rfl) rfl rfl (y_move rfl rfl) ?_
  refine Ls_y (wtd0 rfl) rfl rfl (y_ne rfl rfl rfl) ?_
  refine Ls_bool 18 rfl (fun he => ?_) (fun he => ?_)
  all_goals try simp only [decide_eq_true_eq, decide_eq_false_iff_not, beq_iff_eq, bne_iff_ne, ne_eq, beq_eq_false_iff_ne, bne_eq_false_iff_eq, Bool.not_eq_true, Bool.not_eq_false] at he
  · refine Ls_nil (Th_n (hK4 _ _ ?_))
    refine Wp_cond_t rfl ?_
    refine Wp_seq fun K5 hK5 => ?_
    refine Wp_region ?_
    refine Ls_y (wtd0 rfl) rfl rfl (y_build (cells := [_, _, _, _]) rfl rfl Ty.zc_60 Ty.ps_60 rfl) ?_
    refine Ls_a (wtd0 rfl) ?_
    first
      | refine a_storew (i := 0) rfl rfl rfl rfl Ty.sz_60 rfl (by first | assumption | (simp [Value.oneCell']; done)) hp rfl rfl (fun w2 (hp : Hp w2 [(_, Cl [_, _, _, _, _] _), _, _, (_, Cl [_, _, _, _, _, _, _, _, _] _), (_, Cl [_, _, _, _] _)]) hf _ => ?_)
      | refine a_storew (i := 1) rfl rfl rfl rfl Ty.sz_60 rfl (by first | assumption | (simp [Value.oneCell']; done)) hp rfl rfl (fun w2 (hp : Hp w2 [(_, Cl [_, _, _, _, _] _), _, _, (_, Cl [_, _, _, _, _, _, _, _, _] _), (_, Cl [_, _, _, _] _)]) hf _ => ?_)
      | refine a_storew (i := 2) rfl rfl rfl rfl Ty.sz_60 rfl (by first | assumption | (simp [Value.oneCell']; done)) hp rfl rfl (fun w2 (hp : Hp w2 [(_, Cl [_, _, _, _, _] _), _, _, (_, Cl [_, _, _, _, _, _, _, _, _] _), (_, Cl [_, _, _, _] _)]) hf _ => ?_)
      | refine a_storew (i := 3) rfl rfl rfl rfl Ty.sz_60 rfl (by first | assumption | (simp [Value.oneCell']; done)) hp rfl rfl (fun w2 (hp : Hp w2 [(_, Cl [_, _, _, _, _] _), _, _, (_, Cl [_, _, _, _, _, _, _, _, _] _), (_, Cl [_, _, _, _] _)]) hf _ => ?_)
      | refine a_storew (i := 4) rfl rfl rfl rfl Ty.sz_60 rfl (by first | assumption | (simp [Value.oneCell']; done)) hp rfl rfl (fun w2 (hp : Hp w2 [(_, Cl [_, _, _, _, _] _), _, _, (_, Cl [_, _, _, _, _, _, _, _, _] _), (_, Cl [_, _, _, _] _)]) hf _ => ?_)
    have hF := hF.step hf (by intro y hy; simp only [List.mem_cons, List.not_mem_nil, or_false] at hy; subst hy; first | (exact Or.inr (by omega)) | (exact Or.inl (by simp)))
    refine Ls_y (wtd0 rfl) rfl rfl (y_assign rfl rfl) ?_
    refine Ls_nil (Th_n (hK5 _ _ ?_))
    first
      | refine Wp_ret (Th_r (Fq_ret (ResN2 rfl (rvc (i := 0) rfl Ty.ag_60 hp rfl rfl) rfl) ?_))
      | refine Wp_ret (Th_r (Fq_ret (ResN2 rfl (rvc (i := 1) rfl Ty.ag_60 hp rfl rfl) rfl) ?_))
      | refine Wp_ret (Th_r (Fq_ret (ResN2 rfl (rvc (i := 2) rfl Ty.ag_60 hp rfl rfl) rfl) ?_))
      | refine Wp_ret (Th_r (Fq_ret (ResN2 rfl (rvc (i := 3) rfl Ty.ag_60 hp rfl rfl) rfl) ?_))
      | refine Wp_ret (Th_r (Fq_ret (ResN2 rfl (rvc (i := 4) rfl Ty.ag_60 hp rfl rfl) rfl) ?_))
    exact ⟨by simp [cellAt, he, cG, cQ, cF, cD], hF⟩
  · refine Ls_nil (Th_n (hK4 _ _ ?_))
    refine Wp_cond_f rfl ?_
    refine Wp_skip (Th_n (hK3 _ _ ?_))
    refine Wp_seq fun K6 hK6 => ?_
    refine Wp_region ?_
    refine Ls_y (wtd0 rfl) rfl rfl (y_move rfl rfl) ?_
    refine Ls_a (wtd0 rfl) ?_
    refine a_call rfl rfl rfl rfl (unpack_ok _ _) (fun v w2 ⟨hv, hf⟩ => ?_)
    subst hv
    have hp := hp.keep0 hf
    have hF := hF.step0 hf
    refine Ls_y (wtd0 rfl) rfl rfl (y_ext rfl rfl rfl) ?_
    refine Ls_y (wtd0 rfl) rfl rfl (y_ext rfl rfl rfl) ?_
    refine Ls_a (wtd0 rfl) ?_
    first
      | refine a_storew (i := 0) rfl rfl rfl rfl Ty.sz_60 rfl (by first | assumption | (simp [Value.oneCell']; done)) hp rfl rfl (fun w2 (hp : Hp w2 [(_, Cl [_, _, _, _, _] _), _, _, (_, Cl [_, _, _, _, _, _, _, _, _] _), (_, Cl [_, _, _, _] _)]) hf _ => ?_)
      | refine a_storew (i := 1) rfl rfl rfl rfl Ty.sz_60 rfl (by first | assumption | (simp [Value.oneCell']; done)) hp rfl rfl (fun w2 (hp : Hp w2 [(_, Cl [_, _, _, _, _] _), _, _, (_, Cl [_, _, _, _, _, _, _, _, _] _), (_, Cl [_, _, _, _] _)]) hf _ => ?_)
      | refine a_storew (i := 2) rfl rfl rfl rfl Ty.sz_60 rfl (by first | assumption | (simp [Value.oneCell']; done)) hp rfl rfl (fun w2 (hp : Hp w2 [(_, Cl [_, _, _, _, _] _), _, _, (_, Cl [_, _, _, _, _, _, _, _, _] _), (_, Cl [_, _, _, _] _)]) hf _ => ?_)
      | refine a_storew (i := 3) rfl rfl rfl rfl Ty.sz_60 rfl (by first | assumption | (simp [Value.oneCell']; done)) hp rfl rfl (fun w2 (hp : Hp w2 [(_, Cl [_, _, _, _, _] _), _, _, (_, Cl [_, _, _, _, _, _, _, _, _] _), (_, Cl [_, _, _, _] _)]) hf _ => ?_)
      | refine a_storew (i := 4) rfl rfl rfl rfl Ty.sz_60 rfl (by first | assumption | (simp [Value.oneCell']; done)) hp rfl rfl (fun w2 (hp : Hp w2 [(_, Cl [_, _, _, _, _] _), _, _, (_, Cl [_, _, _, _, _, _, _, _, _] _), (_, Cl [_, _, _, _] _)]) hf _ => ?_)
    have hF := hF.step hf (by intro y hy; simp only [List.mem_cons, List.not_mem_nil, or_false] at hy; subst hy; first | (exact Or.inr (by omega)) | (exact Or.inl (by simp)))
    refine Ls_y (wtd0 rfl) rfl rfl (y_assign rfl rfl) ?_
    refine Ls_nil (Th_n (hK6 _ _ ?_))
    first
      | refine Wp_ret (Fq_ret (ResN2 rfl (rvc (i := 0) rfl Ty.ag_60 hp rfl rfl) rfl) ?_)
      | refine Wp_ret (Fq_ret (ResN2 rfl (rvc (i := 1) rfl Ty.ag_60 hp rfl rfl) rfl) ?_)
      | refine Wp_ret (Fq_ret (ResN2 rfl (rvc (i := 2) rfl Ty.ag_60 hp rfl rfl) rfl) ?_)
      | refine Wp_ret (Fq_ret (ResN2 rfl (rvc (i := 3) rfl Ty.ag_60 hp rfl rfl) rfl) ?_)
      | refine Wp_ret (Fq_ret (ResN2 rfl (rvc (i := 4) rfl Ty.ag_60 hp rfl rfl) rfl) ?_)
    exact ⟨by simp [cellAt, he], hF⟩

set_option maxRecDepth 20000 in
theorem jnewest_ok (gj : Nat) (p : Dp) (D : Dk) (J : Jn) (w : World) (hp : Hp w (jH gj p D J)) (hD : DkOk D) (hJ : JnB J) :
    Fn Try.prog 25 [.pointer (some ⟨gj, 0, none⟩)] w fun v w' => v = .int .u16 (newestD D J.base J.size) ∧ Fr [] w w' := by
  refine Fn_of 32 Ty.en_25 Try.func25 rfl rfl rfl ?_
  dsimp only [argEnv]
  have hp : Hp w [(_, Cl [_, _, _, _, _] _), _, _, (_, Cl [_, _, _, _, _, _, _, _, _] _)] := hp
  have hF := Fr.refl [] w
  have hb := hJ.base
  have hsz := hJ.size
  refine Wp_seq fun K1 hK1 => ?_
  refine Wp_region ?_
  refine Ls_y (wtd0 rfl) rfl rfl (y_assign rfl rfl) ?_
  refine Ls_nil (Th_n (hK1 _ _ ?_))
  refine Wp_seq fun K2 hK2 => ?_
  refine Wp_region ?_
  refine Ls_y (wtd0 rfl) rfl rfl (y_assign rfl rfl) ?_
  refine Ls_nil (Th_n (hK2 _ _ ?_))
  refine Wp_seq fun K3 hK3 => ?_
  refine Wp_seq fun K4 hK4 => ?_
  refine Wp_region ?_
  refine Ls_y (wtd0 rfl) rfl rfl (y_move rfl rfl) ?_
  refine Ls_y (wtd0 rfl) rfl rfl (y_nil rfl rfl) ?_
  refine Ls_y (wtd0 rfl) rfl rfl (y_fld rfl rfl Ty.fo_53_2) ?_
  first
    | refine Ls_y (wtd0 rfl) rfl rfl (y_load (i := 0) rfl rfl Ty.pl_3 (fun _ e => e ▸ hp) rfl rfl) ?_
    | refine Ls_y (wtd0 rfl) rfl rfl (y_load (i := 1) rfl rfl Ty.pl_3 (fun _ e => e ▸ hp) rfl rfl) ?_
    | refine Ls_y (wtd0 rfl) rfl rfl (y_load (i := 2) rfl rfl Ty.pl_3 (fun _ e => e ▸ hp) rfl rfl) ?_
    | refine Ls_y (wtd0 rfl) rfl rfl (y_load (i := 3) rfl rfl Ty.pl_3 (fun _ e => e ▸ hp) rfl rfl) ?_
  refine Ls_y (wtd0 rfl) rfl rfl (y_move rfl rfl) ?_
  refine Ls_nil (Th_n (hK4 _ _ ?_))
  refine Wp_block ?_
  refine Wp_loopE (fun m e W => ∃ (k : Nat), k ≤ J.size ∧ m = J.size - k ∧ e = [(0, .pointer (some ⟨gj, 0, none⟩)), (3, .int .u16 (newestD D J.base k)), (10, .int .i64 (J.size : Int)), (11, .int .i64 (k : Int))] ∧ Hp W (jH gj p D J) ∧ Fr [] w W) (J.size) [(0, _), (3, _), (10, _), (11, _)] ⟨rfl, rfl, rfl, rfl, trivial⟩ ?_ ?_
  · exact ⟨0, by omega, by omega, rfl, hp, hF⟩
  rintro m e W ⟨k, hk, rfl, rfl, hp, hF⟩
  have hp : Hp W [(_, Cl [_, _, _, _, _] _), _, _, (_, Cl [_, _, _, _, _, _, _, _, _] _)] := hp
  refine Wp_seq fun K6 hK6 => ?_
  refine Wp_region ?_
  refine Ls_y (wtd0 rfl) rfl rfl (y_lt rfl rfl rfl) ?_
  refine Ls_bool 12 rfl (fun hlt => ?_) (fun hlt => ?_)
  all_goals try simp only [decide_eq_true_eq, decide_eq_false_iff_not, beq_iff_eq, bne_iff_ne, ne_eq, beq_eq_false_iff_ne, bne_eq_false_iff_eq, Bool.not_eq_true, Bool.not_eq_false] at hlt
  · refine Ls_nil (Th_n (hK6 _ _ ?_))
    refine Wp_seq fun K7 hK7 => ?_
    refine Wp_cond_t rfl ?_
    refine Wp_skip (Th_n (hK7 _ _ ?_))
    refine Wp_seq fun K8 hK8 => ?_
    refine Wp_block ?_
    refine Wp_seq fun K9 hK9 => ?_
    refine Wp_region ?_
    refine Ls_y (wtd0 rfl) rfl rfl (y_move rfl rfl) ?_
    refine Ls_y (wtd0 rfl) rfl rfl (y_assign rfl rfl) ?_
    refine Ls_nil (Th_n (hK9 _ _ ?_))
    refine Wp_seq fun K10 hK10 => ?_
    refine Wp_region ?_
    refine Ls_y (wtd0 rfl) rfl rfl (y_move rfl rfl) ?_
    refine Ls_y (wtd0 rfl) rfl rfl (y_move rfl rfl) ?_
    refine Ls_y (wtd0 rfl) rfl rfl (y_nil rfl rfl) ?_
    refine Ls_y (wtd0 rfl) rfl rfl (y_fld rfl rfl Ty.fo_53_1) ?_
    first
      | refine Ls_y (wtd0 rfl) rfl rfl (y_load (i := 0) rfl rfl Ty.pl_3 (fun _ e => e ▸ hp) rfl rfl) ?_
      | refine Ls_y (wtd0 rfl) rfl rfl (y_load (i := 1) rfl rfl Ty.pl_3 (fun _ e => e ▸ hp) rfl rfl) ?_
      | refine Ls_y (wtd0 rfl) rfl rfl (y_load (i := 2) rfl rfl Ty.pl_3 (fun _ e => e ▸ hp) rfl rfl) ?_
      | refine Ls_y (wtd0 rfl) rfl rfl (y_load (i := 3) rfl rfl Ty.pl_3 (fun _ e => e ▸ hp) rfl rfl) ?_
    refine Ls_y (wtd0 rfl) rfl rfl (y_move rfl rfl) ?_
    refine Ls_y (wtd0 rfl) rfl rfl (y_add rfl rfl rfl (wf_i64 (by omega))) ?_
    refine Ls_a (wtd0 rfl) ?_
    refine a_call rfl rfl rfl rfl (jcell_ok gj p D J _ hp hD _) (fun v w2 ⟨hv, hf⟩ => ?_)
    subst hv
    have hp := hp.keep0 hf
    have hF := hF.step0 hf
    refine Ls_y (wtd0 rfl) rfl rfl (y_move rfl rfl) ?_
    refine Ls_y (wtd0 rfl) rfl rfl (y_ext rfl rfl rfl) ?_
    refine Ls_y (wtd0 rfl) rfl rfl (y_ext rfl rfl rfl) ?_
    refine Ls_a (wtd0 rfl) ?_
    refine a_alloc rfl rfl rfl Ty.zc_60 hp (fun g1 w1 (hp : Hp w1 [(_, Cl [_, _, _, _, _] _), _, _, (_, Cl [_, _, _, _, _, _, _, _, _] _), (_, Cl [_, _, _, _] _)]) hf hg1 => ?_)
    have hg1 := Nat.le_trans hF.size hg1
    have hF := hF.step0 hf
    refine Ls_a (wtd0 rfl) ?_
    first
      | refine a_storew (i := 0) rfl rfl rfl rfl Ty.sz_60 rfl (by first | assumption | (simp [Value.oneCell']; done)) hp rfl rfl (fun w2 (hp : Hp w2 [(_, Cl [_, _, _, _, _] _), _, _, (_, Cl [_, _, _, _, _, _, _, _, _] _), (_, Cl [_, _, _, _] _)]) hf _ => ?_)
      | refine a_storew (i := 1) rfl rfl rfl rfl Ty.sz_60 rfl (by first | assumption | (simp [Value.oneCell']; done)) hp rfl rfl (fun w2 (hp : Hp w2 [(_, Cl [_, _, _, _, _] _), _, _, (_, Cl [_, _, _, _, _, _, _, _, _] _), (_, Cl [_, _, _, _] _)]) hf _ => ?_)
      | refine a_storew (i := 2) rfl rfl rfl rfl Ty.sz_60 rfl (by first | assumption | (simp [Value.oneCell']; done)) hp rfl rfl (fun w2 (hp : Hp w2 [(_, Cl [_, _, _, _, _] _), _, _, (_, Cl [_, _, _, _, _, _, _, _, _] _), (_, Cl [_, _, _, _] _)]) hf _ => ?_)
      | refine a_storew (i := 3) rfl rfl rfl rfl Ty.sz_60 rfl (by first | assumption | (simp [Value.oneCell']; done)) hp rfl rfl (fun w2 (hp : Hp w2 [(_, Cl [_, _, _, _, _] _), _, _, (_, Cl [_, _, _, _, _, _, _, _, _] _), (_, Cl [_, _, _, _] _)]) hf _ => ?_)
      | refine a_storew (i := 4) rfl rfl rfl rfl Ty.sz_60 rfl (by first | assumption | (simp [Value.oneCell']; done)) hp rfl rfl (fun w2 (hp : Hp w2 [(_, Cl [_, _, _, _, _] _), _, _, (_, Cl [_, _, _, _, _, _, _, _, _] _), (_, Cl [_, _, _, _] _)]) hf _ => ?_)
    have hF := hF.step hf (by intro y hy; simp only [List.mem_cons, List.not_mem_nil, or_false] at hy; subst hy; first | (exact Or.inr (by omega)) | (exact Or.inl (by simp)))
    refine Ls_y (wtd0 rfl) rfl rfl (y_assign rfl rfl) ?_
    refine Ls_nil (Th_n (hK10 _ _ ?_))
    refine Wp_seq fun K11 hK11 => ?_
    refine Wp_region ?_
    refine Ls_y (wtd0 rfl) rfl rfl (y_move rfl rfl) ?_
    refine Ls_nil (Th_n (hK11 _ _ ?_))
    refine Wp_cond rfl (fun hc => ?_) (fun hc => ?_)
    all_goals try simp only [decide_eq_true_eq, decide_eq_false_iff_not, beq_iff_eq, bne_iff_ne, ne_eq, beq_eq_false_iff_ne, bne_eq_false_iff_eq, Bool.not_eq_true] at hc
    · refine Wp_region ?_
      refine Ls_y (wtd0 rfl) rfl rfl (y_move rfl rfl) ?_
      refine Ls_y (wtd0 rfl) rfl rfl (y_fld rfl rfl Ty.fo_60_0) ?_
      first
        | refine Ls_y (wtd0 rfl) rfl rfl (y_load (i := 0) rfl rfl Ty.pl_33 (fun _ e => e ▸ hp) rfl rfl) ?_
        | refine Ls_y (wtd0 rfl) rfl rfl (y_load (i := 1) rfl rfl Ty.pl_33 (fun _ e => e ▸ hp) rfl rfl) ?_
        | refine Ls_y (wtd0 rfl) rfl rfl (y_load (i := 2) rfl rfl Ty.pl_33 (fun _ e => e ▸ hp) rfl rfl) ?_
        | refine Ls_y (wtd0 rfl) rfl rfl (y_load (i := 3) rfl rfl Ty.pl_33 (fun _ e => e ▸ hp) rfl rfl) ?_
        | refine Ls_y (wtd0 rfl) rfl rfl (y_load (i := 4) rfl rfl Ty.pl_33 (fun _ e => e ▸ hp) rfl rfl) ?_
      refine Ls_y (wtd0 rfl) rfl rfl (y_max rfl rfl rfl) ?_
      refine Ls_y (wtd0 rfl) rfl rfl (y_assign rfl rfl) ?_
      refine Ls_nil (Ib_n (Th_n (hK8 _ _ ?_)))
      refine Wp_region ?_
      first
        | refine Ls_y (wtd0 rfl) rfl rfl (y_add rfl rfl rfl (w_succ (by omega))) ?_
        | refine Ls_y (wtd0 rfl) rfl rfl (y_add rfl rfl rfl (wf_i64 (by omega))) ?_
        | refine Ls_y (wtd0 rfl) rfl rfl (y_add rfl rfl rfl rfl) ?_
      refine Ls_y (wtd0 rfl) rfl rfl (y_move rfl rfl) ?_
      refine Ls_nil (Th_n (?_))
      have e1 : newestD D J.base (k + 1) = max (newestD D J.base k) (cG (cellAt D ((J.base : Int) + (k : Int)))) := by rw [newestD, if_pos hc]
      exact ⟨J.size - (k + 1), [(0, _), (3, _), (10, _), (11, _)], by omega, ⟨rfl, by rw [← e1]; rfl, rfl, rfl, trivial⟩, k + 1, by omega, rfl, rfl, hp.picks [0, 1, 2, 3] (by decide), hF⟩
    · refine Wp_skip (Ib_n (Th_n (hK8 _ _ ?_)))
      refine Wp_region ?_
      first
        | refine Ls_y (wtd0 rfl) rfl rfl (y_add rfl rfl rfl (w_succ (by omega))) ?_
        | refine Ls_y (wtd0 rfl) rfl rfl (y_add rfl rfl rfl (wf_i64 (by omega))) ?_
        | refine Ls_y (wtd0 rfl) rfl rfl (y_add rfl rfl rfl rfl) ?_
      refine Ls_y (wtd0 rfl) rfl rfl (y_move rfl rfl) ?_
      refine Ls_nil (Th_n (?_))
      have e1 : newestD D J.base (k + 1) = newestD D J.base k := by rw [newestD, if_neg (by simp [hc])]
      exact ⟨J.size - (k + 1), [(0, _), (3, _), (10, _), (11, _)], by omega, ⟨rfl, by rw [e1]; rfl, rfl, rfl, trivial⟩, k + 1, by omega, rfl, rfl, hp.picks [0, 1, 2, 3] (by decide), hF⟩
  · refine Ls_nil (Th_n (hK6 _ _ ?_))
    refine Wp_seq fun K12 hK12 => ?_
    refine Wp_cond_f rfl ?_
    refine Wp_exit (Th_e (Th_e (Ib_hit (Th_n (hK3 _ _ ?_)))))
    refine Wp_seq fun K13 hK13 => ?_
    refine Wp_region ?_
    refine Ls_y (wtd0 rfl) rfl rfl (y_move rfl rfl) ?_
    refine Ls_y (wtd0 rfl) rfl rfl (y_assign rfl rfl) ?_
    refine Ls_nil (Th_n (hK13 _ _ ?_))
    refine Wp_ret (Fq_ret (Res1 rfl rfl) ?_)
    obtain rfl : k = J.size := by omega
    exact ⟨rfl, hF⟩

set_option maxRecDepth 20000 in
theorem jfails_ok (gj gd : Nat) (J : Jn) (w : World) (hp : Hp w [(some gj, Cl (jC gd J) 53)]) (ho : J.over = false) :
    Fn Try.prog 29 [.pointer (some ⟨gj, 0, none⟩), .int .i64 0] w fun v w' => v = .int .i64 0 ∧ Mod w w' [(some gj, Cl (jC gd J) 53)] [(some gj, Cl (jC gd J) 53)] := by
  refine Fn_of 17 Ty.en_29 Try.func29 rfl rfl rfl ?_
  dsimp only [argEnv]
  have hp : Hp w [(_, Cl [_, _, _, _, _, _, _, _, _] _)] := hp
  have hF := Fr.refl [gj] w
  refine Wp_seq fun K1 hK1 => ?_
  refine Wp_region ?_
  refine Ls_y (wtd0 rfl) rfl rfl (y_assign rfl rfl) ?_
  refine Ls_nil (Th_n (hK1 _ _ ?_))
  refine Wp_seq fun K2 hK2 => ?_
  refine Wp_region ?_
  refine Ls_y (wtd0 rfl) rfl rfl (y_move rfl rfl) ?_
  refine Ls_y (wtd0 rfl) rfl rfl (y_move rfl rfl) ?_
  refine Ls_y (wtd0 rfl) rfl rfl (y_nil rfl rfl) ?_
  refine Ls_y (wtd0 rfl) rfl rfl (y_fld rfl rfl Ty.fo_53_8) ?_
  refine Ls_y (wtd0 rfl) rfl rfl (y_load (i := 0) rfl rfl Ty.pl_4 (fun _ e => e ▸ hp) rfl rfl) ?_
  refine Ls_y (wtd0 rfl) rfl rfl (y_move rfl rfl) ?_
  refine Ls_bool 10 rfl (fun hc1 => absurd hc1 (by simp [ho])) (fun _ => ?_)
  refine Ls_y (wtdT rfl rfl rfl) rfl rfl (y_move rfl rfl) ?_
  refine Ls_y (wtdT rfl rfl rfl) rfl rfl (y_neF rfl rfl rfl (by omega)) ?_
  refine Ls_y (wtd0 rfl) rfl rfl (y_pick_f rfl rfl rfl) ?_
  refine Ls_y (wtd0 rfl) rfl rfl (y_nil rfl rfl) ?_
  refine Ls_y (wtd0 rfl) rfl rfl (y_fld rfl rfl Ty.fo_53_8) ?_
  refine Ls_a (wtd0 rfl) ?_
  refine a_store (i := 0) rfl rfl rfl rfl rfl Ty.sz_4 rfl hp rfl (by first | decide | (simp; done) | (simp; omega)) (fun w1 (hp : Hp w1 [(_, Cl [_, _, _, _, _, _, _, _, _] _)]) hf _ => ?_)
  have hF := hF.step hf (by intro y hy; simp only [List.mem_cons, List.not_mem_nil, or_false] at hy; subst hy; first | (exact Or.inr (by omega)) | (exact Or.inl (by simp)))
  refine Ls_nil (Th_n (hK2 _ _ ?_))
  refine Wp_seq fun K3 hK3 => ?_
  refine Wp_region ?_
  refine Ls_y (wtd0 rfl) rfl rfl (y_move rfl rfl) ?_
  refine Ls_y (wtd0 rfl) rfl rfl (y_assign rfl rfl) ?_
  refine Ls_nil (Th_n (hK3 _ _ ?_))
  refine Wp_ret (Fq_ret (Res1 rfl rfl) ?_)
  refine ⟨rfl, ⟨hF, ?_, fun _ h => .inl h⟩⟩
  simp only [jC, ho] at hp ⊢
  exact hp

end Go.Proofs.Ytcpfhnfpokijaaa

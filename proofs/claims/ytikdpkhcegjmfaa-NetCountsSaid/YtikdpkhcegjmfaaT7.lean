/- Walks printed by gen2.py out of our own specifications: what the functions named below do. -/
import Derived.Test.YtikdpkhcegjmfaaT6
set_option linter.unusedSimpArgs false
set_option linter.unusedVariables false
namespace Go.Proofs.Ytikdpkhcegjmfaa
open Go.RowKit

structure OpM where
  kind : Int
  m : MsgV
  i : Int
  n : Int
instance : Inhabited OpM := ⟨⟨default, default, default, default⟩⟩
instance : DecidableEq OpM := fun a b => decidable_of_iff (a.kind = b.kind ∧ a.m = b.m ∧ a.i = b.i ∧ a.n = b.n) (by cases a; cases b; simp)
def opMC (x : OpM) : List Value := [.int .i64 x.kind, .int .i64 x.m.f, .int .i64 x.m.t, sv x.m.s, .int .i64 x.i, .int .i64 x.n]
theorem opMC_len (x : OpM) : (opMC x).length = 6 := rfl
set_option maxRecDepth 20000 in
theorem kl_46 : KLaw Try.prog 46 (fun x : MsgV => Value.agg (msgC x).toArray) := KLaw.agg Try.underlying46 (fun _ _ => rfl) (by rw [Ty.ag_46]; simp) eqv_46 (fun em x w => by kernel_rfl) (fun x v hv => by simp only [msgC, List.mem_cons, List.not_mem_nil, or_false] at hv; rcases hv with rfl | rfl | rfl <;> rfl)

set_option maxRecDepth 20000 in
set_option maxHeartbeats 4000000 in
theorem netCounts_ok (X : List Nat) (w : World) (hX : Lo X w) (n : Int) (l : List OpM) (A_l : Option Addr) (c_l : Nat) (h_l : Sld X w A_l l.length c_l 6 (l.flatMap opMC)) :
    Fn Try.prog 5 [.int .i64 n, .slice A_l l.length c_l] w fun v w' => v = .bool true ∧ Fr [] w w' := by
  refine Fn_of 142 Ty.en_5 Try.func5 rfl rfl rfl ?_
  dsimp only [argEnv]
  have st : St X w [] [kS A_l l.length c_l 6 (l.flatMap opMC)] := (St.nil (X := X) (w := w) hX).addK (kS A_l l.length c_l 6 (l.flatMap opMC)) h_l
  have hF := Fr.refl ([]) w
  have hleA_l := (st.k (i := 0) rfl).le
  refine Wp_seq fun K1 hK1 => ?_
  refine Wp_region ?_
  refine Ls_y (wtd0 rfl) rfl rfl (y_assign rfl rfl) ?_
  refine Ls_nil (Th_n (hK1 _ _ ?_))
  refine Wp_seq fun K2 hK2 => ?_
  refine Wp_seq fun K3 hK3 => ?_
  refine Wp_region ?_
  refine Ls_a (wtd0 rfl) ?_
  refine a_call rfl rfl rfl rfl (works31_ok (keys (hOf st) ++ X) _ st.Lo ) (fun v w1 ⟨hv, hf⟩ => ?_)
  subst hv
  have st := st.keep0 hf
  have hF := hF.step0 hf
  have st : St X w1 [] [kS A_l l.length c_l 6 (l.flatMap opMC)] := st
  refine Ls_y (wtd0 rfl) rfl rfl (y_not rfl rfl) ?_
  refine Ls_nil (Th_n (hK3 _ _ ?_))
  have hd1 : works31_m = true := by
    exact works31_true
  refine Wp_cond rfl (fun hc1 => absurd hc1 (by first | (simp [hd1]; done) | (rw [hd1]; simp; done) | simpa using hd1)) (fun _ => ?_)
  refine Wp_skip (Th_n (hK2 _ _ ?_))
  refine Wp_seq fun K4 hK4 => ?_
  refine Wp_region ?_
  refine Ls_y (wtd0 rfl) rfl rfl (y_move rfl rfl) ?_
  refine Ls_y (wtd0 rfl) rfl rfl (y_cvi (c := n % 18446744073709551616) rfl rfl Try.underlying3 Try.underlying49 wm_u64) ?_
  refine Ls_y (wtd0 rfl) rfl rfl (y_remP rfl rfl rfl (by first | omega | (simp; done) | (simp; omega)) (by first | omega | (simp; done) | (simp; omega))) ?_
  refine Ls_y (wtd0 rfl) rfl rfl (y_cvi (c := (n % 18446744073709551616) % 32) rfl rfl Try.underlying49 Try.underlying3 (wf_i64 (by omega))) ?_
  refine Ls_y (wtd0 rfl) rfl rfl (y_add (c := 1 + ((n % 18446744073709551616) % 32)) rfl rfl rfl (wf_i64 (by first | omega | (simp; done) | (simp; omega)))) ?_
  refine Ls_y (wtd0 rfl) rfl rfl (y_assign rfl rfl) ?_
  refine Ls_nil (Th_n (hK4 _ _ ?_))
  refine Wp_seq fun K5 hK5 => ?_
  refine Wp_region ?_
  refine Ls_y (wtd0 rfl) rfl rfl (y_move rfl rfl) ?_
  refine Ls_a (wtd0 rfl) ?_
  refine a_call rfl rfl rfl rfl (pnew_ok (keys (hOf st) ++ X) _ st.Lo (1 + ((n % 18446744073709551616) % 32)) (by omega)) (fun v w2 ⟨g1, A1, c1, sp1, hv, hok1, hN1, hf, hkc1⟩ => ?_)
  subst hv
  have hfo1 : ∀ k ∈ keys [(some g1, Cl (ntC A1 c1 ((pnew_m (1 + ((n % 18446744073709551616) % 32))).1)) 115), (blkOf A1, Cl (rowC ((pnew_m (1 + ((n % 18446744073709551616) % 32))).1).row ++ sp1) 51)], k ∈ ([]) ∨ w.heap.size ≤ k := fun k hk => .inr (Nat.le_trans hF.size (hkc1 k hk))
  have st := st.callN hN1 hf hkc1
  have hF := hF.step0 hf
  have st : St X w2 [(some g1, Cl (ntC A1 c1 ((pnew_m (1 + ((n % 18446744073709551616) % 32))).1)) 115), (blkOf A1, Cl (rowC ((pnew_m (1 + ((n % 18446744073709551616) % 32))).1).row ++ sp1) 51)] [kS A_l l.length c_l 6 (l.flatMap opMC)] := st
  refine Ls_y (wtd0 rfl) rfl rfl (y_move rfl rfl) ?_
  refine Ls_y (wtd0 rfl) rfl rfl (y_ext rfl rfl rfl) ?_
  refine Ls_y (wtd0 rfl) rfl rfl (y_ext rfl rfl rfl) ?_
  refine Ls_y (wtd0 rfl) rfl rfl (y_assign rfl rfl) ?_
  refine Ls_y (wtd0 rfl) rfl rfl (y_assign rfl rfl) ?_
  refine Ls_nil (Th_n (hK5 _ _ ?_))
  refine Wp_seq fun K6 hK6 => ?_
  refine Wp_seq fun K7 hK7 => ?_
  refine Wp_region ?_
  refine Ls_y (wtd0 rfl) rfl rfl (y_move rfl rfl) ?_
  refine Ls_y (wtd0 rfl) rfl rfl (y_ne rfl rfl rfl) ?_
  refine Ls_y (wtd0 rfl) rfl rfl (y_move rfl rfl) ?_
  have hd2 : ((pnew_m (1 + ((n % 18446744073709551616) % 32))).2) = 0 := by
    rfl
  refine Ls_bool 29 rfl (fun hc2 => absurd hc2 (by first | (simp [hd2]; done) | (rw [hd2]; simp; done) | simpa using hd2)) (fun _ => ?_)
  refine Ls_y (wtdT rfl rfl rfl) rfl rfl (y_move rfl rfl) ?_
  refine Ls_y (wtdT rfl rfl rfl) rfl rfl (y_eqnp rfl rfl rfl Try.underlying39) ?_
  refine Ls_y (wtd0 rfl) rfl rfl (y_pick_f rfl rfl rfl) ?_
  refine Ls_nil (Th_n (hK7 _ _ ?_))
  refine Wp_cond_f rfl ?_
  refine Wp_skip (Th_n (hK6 _ _ ?_))
  refine Wp_seq fun K8 hK8 => ?_
  refine Wp_region ?_
  refine Ls_y (wtd0 rfl) rfl rfl (y_assign rfl rfl) ?_
  refine Ls_y (wtd0 rfl) rfl rfl (y_assign rfl rfl) ?_
  refine Ls_y (wtd0 rfl) rfl rfl (y_assign rfl rfl) ?_
  refine Ls_nil (Th_n (hK8 _ _ ?_))
  refine Wp_seq fun K9 hK9 => ?_
  refine Wp_region ?_
  refine Ls_a (wtd0 rfl) ?_
  refine a_mkmap rfl rfl rfl st.hp (fun g2 w3 (hp : Hp w3 [_, _, _]) hf hg1 => ?_)
  have st : St X w3 [_, _, _] [kS A_l l.length c_l 6 (l.flatMap opMC)] := st.push hp hf hg1
  have hg1 := Nat.le_trans hF.size hg1
  have hF := hF.step0 hf
  have hmap1 : MOk (fun x : MsgV => Value.agg (msgC x).toArray) (fun x : Bool => Value.bool x) #[] 0 ([] : List (MsgV × Bool)) := MOk.empty
  refine Ls_y (wtd0 rfl) rfl rfl (y_assign rfl rfl) ?_
  refine Ls_nil (Th_n (hK9 _ _ ?_))
  refine Wp_seq fun K10 hK10 => ?_
  refine Wp_seq fun K11 hK11 => ?_
  refine Wp_region ?_
  refine Ls_y (wtd0 rfl) rfl rfl (y_assign rfl rfl) ?_
  refine Ls_nil (Th_n (hK11 _ _ ?_))
  refine Wp_block ?_
  refine use_out hK10 (fun E W => ∃ (s7 : Int) (s8 : Int) (s9 : Int) (s11 : Int) (Tg1 : Nt) (mg2 : List (MsgV × Bool)) (A_Tg1 : Option Addr) (c_Tg1 : Nat) (sp_Tg1 : List Value) (es_mg2 : Array MapEntry) (cl_mg2 : Nat), E = [(1, .slice A_l l.length c_l), (5, .pointer (some ⟨g1, 0, none⟩)), (7, .int .i64 s7), (8, .int .i64 s8), (9, .int .i64 s9), (10, .map (some g2)), (11, .int .i64 s11)] ∧ (0 ≤ s11 ∧ s11 ≤ 100 ∧ CI s11 Tg1 mg2 s7 s8 s9) ∧ (NtOk Tg1 ∧ NpOk ⟨g1, A_Tg1, c_Tg1, sp_Tg1⟩ Tg1) ∧ (∀ k ∈ keys [(some g1, Cl (ntC A_Tg1 c_Tg1 Tg1) 115), (blkOf A_Tg1, Cl (rowC Tg1.row ++ sp_Tg1) 51)], k ∈ ([]) ∨ w.heap.size ≤ k) ∧ MOk (fun x : MsgV => Value.agg (msgC x).toArray) (fun x : Bool => Value.bool x) es_mg2 cl_mg2 mg2 ∧ St X W [(some g1, Cl (ntC A_Tg1 c_Tg1 Tg1) 115), (blkOf A_Tg1, Cl (rowC Tg1.row ++ sp_Tg1) 51), (some g2, Obj.map es_mg2 cl_mg2)] [kS A_l l.length c_l 6 (l.flatMap opMC)] ∧ Fr ([]) w W) ?_ fun hout1 => ?_
  · rintro E w4 ⟨s7, s8, s9, s11, Tg1, mg2, A_Tg1, c_Tg1, sp_Tg1, es_mg2, cl_mg2, rfl, hinv, hokTg1, hfoTg1, hmapmg2, st, hF⟩
    obtain ⟨hi0, hi1, hci⟩ := hinv
    refine Wp_seq fun K12 hK12 => ?_
    refine Wp_region ?_
    refine Ls_y (wtd0 rfl) rfl rfl (y_move rfl rfl) ?_
    refine Ls_a (wtd0 rfl) ?_
    refine a_call rfl rfl rfl rfl (plen_ok (keys (pickL (hOf st) [2]) ++ X) _ g1 A_Tg1 c_Tg1 sp_Tg1 Tg1 hokTg1 (st.sub [2] [0, 1] [] (by decide))) (fun v w5 ⟨hv, hf⟩ => ?_)
    subst hv
    have st := st.keep0 hf
    have hF := hF.step0 hf
    have st : St X w5 [(some g1, Cl (ntC A_Tg1 c_Tg1 Tg1) 115), (blkOf A_Tg1, Cl (rowC Tg1.row ++ sp_Tg1) 51), (some g2, Obj.map es_mg2 cl_mg2)] [kS A_l l.length c_l 6 (l.flatMap opMC)] := st
    refine Ls_y (wtd0 rfl) rfl rfl (y_le rfl rfl rfl) ?_
    refine Ls_y (wtd0 rfl) rfl rfl (y_assign rfl rfl) ?_
    refine Ls_nil (Th_n (hK12 _ _ ?_))
    refine Wp_ret (Fq_ret (Res1 rfl rfl) ?_)
    have hres : (decide ((plen_m Tg1) ≤ 128)) = true := by
      simp only [decide_eq_true_eq]; have := hokTg1.1.row; unfold plen_m; omega
    rw [hres]
    exact ⟨rfl, hF⟩
  · refine Wp_loopE (fun m E W => ∃ (s7 : Int) (s8 : Int) (s9 : Int) (s11 : Int) (Tg1 : Nt) (mg2 : List (MsgV × Bool)) (A_Tg1 : Option Addr) (c_Tg1 : Nat) (sp_Tg1 : List Value) (es_mg2 : Array MapEntry) (cl_mg2 : Nat), E = [(1, .slice A_l l.length c_l), (5, .pointer (some ⟨g1, 0, none⟩)), (7, .int .i64 s7), (8, .int .i64 s8), (9, .int .i64 s9), (10, .map (some g2)), (11, .int .i64 s11)] ∧ (l.length - s11).toNat < m ∧ (0 ≤ s11 ∧ s11 ≤ 100 ∧ CI s11 Tg1 mg2 s7 s8 s9) ∧ (NtOk Tg1 ∧ NpOk ⟨g1, A_Tg1, c_Tg1, sp_Tg1⟩ Tg1) ∧ (∀ k ∈ keys [(some g1, Cl (ntC A_Tg1 c_Tg1 Tg1) 115), (blkOf A_Tg1, Cl (rowC Tg1.row ++ sp_Tg1) 51)], k ∈ ([]) ∨ w.heap.size ≤ k) ∧ MOk (fun x : MsgV => Value.agg (msgC x).toArray) (fun x : Bool => Value.bool x) es_mg2 cl_mg2 mg2 ∧ St X W [(some g1, Cl (ntC A_Tg1 c_Tg1 Tg1) 115), (blkOf A_Tg1, Cl (rowC Tg1.row ++ sp_Tg1) 51), (some g2, Obj.map es_mg2 cl_mg2)] [kS A_l l.length c_l 6 (l.flatMap opMC)] ∧ Fr ([]) w W) ((l.length - (0 : Int)).toNat + 1) [(1, _), (5, _), (7, _), (8, _), (9, _), (10, _), (11, _)] ⟨rfl, rfl, rfl, rfl, rfl, rfl, rfl, trivial⟩ ?_ ?_
    · exact ⟨_, _, _, _, _, _, _, _, _, _, _, rfl, Nat.lt_succ_self _, by exact ⟨by omega, by omega, CI.new _⟩, hok1, hfo1, hmap1, st, hF⟩
    rintro m E w6 ⟨s7, s8, s9, s11, Tg1, mg2, A_Tg1, c_Tg1, sp_Tg1, es_mg2, cl_mg2, rfl, hmu, hinv, hokTg1, hfoTg1, hmapmg2, st, hF⟩
    obtain ⟨fuel, rfl⟩ : ∃ q, m = q + 1 := ⟨m - 1, by omega⟩
    obtain ⟨hi0, hi1, hci⟩ := hinv
    have hb := hci.bnd
    refine Wp_seq fun K13 hK13 => ?_
    refine Wp_seq fun K14 hK14 => ?_
    refine Wp_region ?_
    refine Ls_y (wtd0 rfl) rfl rfl (y_move rfl rfl) ?_
    refine Ls_y (wtd0 rfl) rfl rfl (y_move rfl rfl) ?_
    refine Ls_y (wtd0 rfl) rfl rfl (y_lenl rfl rfl Try.underlying38) ?_
    refine Ls_y (wtd0 rfl) rfl rfl (y_lt rfl rfl rfl) ?_
    refine Ls_y (wtd0 rfl) rfl rfl (y_move rfl rfl) ?_
    refine Ls_bool 38 rfl (fun hc3 => ?_) (fun hc3 => ?_)
    · have hc3 : s11 < (l.length : Int) := by first | simpa using hc3 | (intro hh; rw [hh] at hc3; cases hc3)
      refine Ls_y (wtdT rfl rfl rfl) rfl rfl (y_move rfl rfl) ?_
      refine Ls_y (wtdT rfl rfl rfl) rfl rfl (y_lt rfl rfl rfl) ?_
      refine Ls_y (wtd0 rfl) rfl rfl (y_pick_t rfl rfl rfl) ?_
      refine Ls_nil (Th_n (hK14 _ _ ?_))
      refine Wp_cond rfl (fun hc4 => ?_) (fun hc4 => ?_)
      · have hc4 : s11 < 100 := by first | simpa using hc4 | (intro hh; rw [hh] at hc4; cases hc4)
        refine Wp_skip (Th_n (hK13 _ _ ?_))
        refine Wp_seq fun K15 hK15 => ?_
        refine Wp_block ?_
        refine Wp_seq fun K16 hK16 => ?_
        refine Wp_region ?_
        refine Ls_y (wtd0 rfl) rfl rfl (y_move rfl rfl) ?_
        refine Ls_y (wtd0 rfl) rfl rfl (y_move rfl rfl) ?_
        obtain ⟨gi1, bi1, egi1⟩ := (st.k (i := 0) rfl).addr (fun _ => rfl) (by decide) (q := s11) (by first | omega | (simp; done) | (simp; omega)) (by first | omega | (simp; done) | (simp; omega))
        subst egi1
        refine Ls_y (wtd0 rfl) rfl rfl (y_ixa (q := s11) rfl rfl rfl Ty.es_38 (by first | omega | (simp; done) | (simp; omega)) (by first | omega | (simp; done) | (simp; omega))) ?_
        refine Ls_y (wtd0 rfl) rfl rfl (y_ldk (q := s11) rfl rfl Ty.ag_48 (fun _ e => e ▸ st.k (i := 0) rfl) (fun _ => rfl) (by first | omega | (simp; done) | (simp; omega)) (by first | omega | (simp; done) | (simp; omega))) ?_
        refine Ls_a (wtd0 rfl) ?_
        refine a_alloc rfl rfl rfl Ty.zc_48 st.hp (fun g3 w7 (hp : Hp w7 [_, _, _, (_, Cl [_, _, _, _, _, _] _)]) hf hg2 => ?_)
        have st : St X w7 [_, _, _, (_, Cl [_, _, _, _, _, _] _)] [kS (some ⟨gi1, bi1, none⟩) l.length c_l 6 (l.flatMap opMC)] := st.push hp hf hg2
        have hg2 := Nat.le_trans hF.size hg2
        have hF := hF.step0 hf
        refine Ls_a (wtd0 rfl) ?_
        refine a_storew (i := 3) rfl rfl rfl rfl Ty.sz_48 rfl (by first | assumption | (simp [Value.oneCell', opMC]; done)) st.hp rfl rfl (fun w8 (hp : Hp w8 [_, _, _, (_, Cl [_, _, _, _, _, _] _)]) hf _ => ?_)
        have st : St X w8 [_, _, _, (_, Cl [_, _, _, _, _, _] _)] [kS (some ⟨gi1, bi1, none⟩) l.length c_l 6 (l.flatMap opMC)] := st.set (i := 3) rfl hp hf
        have hF := hF.step hf (by intro y hy; simp only [List.mem_cons, List.not_mem_nil, or_false] at hy; subst hy; first | (exact Or.inr (by omega)) | (exact Or.inl (kin0 _ _)) | (exact Or.inl (by simp)))
        refine Ls_nil (Th_n (hK16 _ _ ?_))
        refine Wp_seq fun K17 hK17 => ?_
        refine Wp_seq fun K18 hK18 => ?_
        refine Wp_region ?_
        refine Ls_y (wtd0 rfl) rfl rfl (y_fld rfl rfl Ty.fo_48_1) ?_
        refine Ls_y (wtd0 rfl) rfl rfl (y_fld rfl rfl Ty.fo_46_2) ?_
        refine Ls_y (wtd0 rfl) rfl rfl (y_load (i := 3) rfl rfl Ty.pl_9 (fun _ e => e ▸ st.hp) rfl rfl) ?_
        refine Ls_y (wtd0 rfl) rfl rfl (y_lens rfl rfl Try.underlying9) ?_
        refine Ls_y (wtd0 rfl) rfl rfl (y_gt rfl rfl rfl) ?_
        refine Ls_nil (Th_n (hK18 _ _ ?_))
        refine Wp_cond rfl (fun hc5 => ?_) (fun hc5 => ?_)
        · have hc5 : 100 < (((ix l s11).m.s).length : Int) := by first | simpa using hc5 | (intro hh; rw [hh] at hc5; cases hc5)
          refine Wp_seq fun K19 hK19 => ?_
          refine Wp_region ?_
          refine Ls_y (wtd0 rfl) rfl rfl (y_assign rfl rfl) ?_
          refine Ls_nil (Th_n (hK19 _ _ ?_))
          refine Wp_ret (Th_r (Ib_r (Th_r (Th_r (Ib_r (Th_r (Fq_ret (Res1 rfl rfl) ?_)))))))
          exact ⟨rfl, hF⟩
        · have hc5 : ¬ (100 < (((ix l s11).m.s).length : Int)) := by first | simpa using hc5 | (intro hh; rw [hh] at hc5; cases hc5)
          refine Wp_skip (Th_n (hK17 _ _ ?_))
          refine Wp_seq fun K20 hK20 => ?_
          refine Wp_seq fun K21 hK21 => ?_
          refine Wp_region ?_
          refine Ls_y (wtd0 rfl) rfl rfl (y_fld rfl rfl Ty.fo_48_0) ?_
          refine Ls_y (wtd0 rfl) rfl rfl (y_load (i := 3) rfl rfl Ty.pl_3 (fun _ e => e ▸ st.hp) rfl rfl) ?_
          refine Ls_nil (Th_n (hK21 _ _ ?_))
          refine Wp_block ?_
          refine Wp_seq fun K22 hK22 => ?_
          refine Wp_region ?_
          refine Ls_y (wtd0 rfl) rfl rfl (y_eq rfl rfl rfl) ?_
          refine Ls_y (wtd0 rfl) rfl rfl (y_assign rfl rfl) ?_
          refine Ls_nil (Th_n (hK22 _ _ ?_))
          refine Wp_cond rfl (fun hc6 => ?_) (fun hc6 => ?_)
          · have hc6 : ((ix l s11).kind) = 0 := by first | simpa using hc6 | (intro hh; rw [hh] at hc6; cases hc6)
            refine Wp_seq fun K23 hK23 => ?_
            refine Wp_region ?_
            refine Ls_y (wtd0 rfl) rfl rfl (y_move rfl rfl) ?_
            refine Ls_y (wtd0 rfl) rfl rfl (y_fld rfl rfl Ty.fo_48_1) ?_
            refine Ls_y (wtd0 rfl) rfl rfl (y_fld rfl rfl Ty.fo_46_0) ?_
            refine Ls_y (wtd0 rfl) rfl rfl (y_load (i := 3) rfl rfl Ty.pl_3 (fun _ e => e ▸ st.hp) rfl rfl) ?_
            refine Ls_y (wtd0 rfl) rfl rfl (y_fld rfl rfl Ty.fo_48_1) ?_
            refine Ls_y (wtd0 rfl) rfl rfl (y_fld rfl rfl Ty.fo_46_1) ?_
            refine Ls_y (wtd0 rfl) rfl rfl (y_load (i := 3) rfl rfl Ty.pl_3 (fun _ e => e ▸ st.hp) rfl rfl) ?_
            refine Ls_y (wtd0 rfl) rfl rfl (y_fld rfl rfl Ty.fo_48_1) ?_
            refine Ls_y (wtd0 rfl) rfl rfl (y_fld rfl rfl Ty.fo_46_2) ?_
            refine Ls_y (wtd0 rfl) rfl rfl (y_load (i := 3) rfl rfl Ty.pl_9 (fun _ e => e ▸ st.hp) rfl rfl) ?_
            refine Ls_y (wtd0 rfl) rfl rfl (y_build (cells := [_, _, _]) rfl rfl Ty.zc_51 Ty.ps_51 rfl) ?_
            refine Ls_a (wtd0 rfl) ?_
            refine a_call rfl rfl rfl rfl (psend_ok (keys (pickL (hOf st) [2, 3]) ++ X) _ g1 A_Tg1 c_Tg1 sp_Tg1 Tg1 hokTg1 ((ix l s11).m) (st.sub [2, 3] [0, 1] [] (by decide)) (by have := hci.l1; omega)) (fun v w9 ⟨A2, c2, sp2, hv, hok2, hN2, hfO1, hkc2⟩ => ?_)
            subst hv
            have hfo2 : ∀ k ∈ keys [(some g1, Cl (ntC A2 c2 ((psend_m Tg1 ((ix l s11).m)).2)) 115), (blkOf A2, Cl (rowC ((psend_m Tg1 ((ix l s11).m)).2).row ++ sp2) 51)], k ∈ ([]) ∨ w.heap.size ≤ k := fun k hk => (hkc2 k (hk)).elim (fun h => (kc_app hfoTg1 (kc_n)) k h) (fun h => .inr (Nat.le_trans hF.size h))
            have st := st.callS [2, 3] [0, 1] (by decide) rfl hN2 hfO1 hkc2
            have hF := hF.step hfO1 (kc_app hfoTg1 (kc_n))
            have st : St X w9 [(some g2, Obj.map es_mg2 cl_mg2), (some g3, Cl [.int .i64 ((ix l s11).kind), .int .i64 ((ix l s11).m.f), .int .i64 ((ix l s11).m.t), sv ((ix l s11).m.s), .int .i64 ((ix l s11).i), .int .i64 ((ix l s11).n)] 48), (some g1, Cl (ntC A2 c2 ((psend_m Tg1 ((ix l s11).m)).2)) 115), (blkOf A2, Cl (rowC ((psend_m Tg1 ((ix l s11).m)).2).row ++ sp2) 51)] [kS (some ⟨gi1, bi1, none⟩) l.length c_l 6 (l.flatMap opMC)] := st
            refine Ls_nil (Th_n (hK23 _ _ ?_))
            refine Wp_block ?_
            refine Wp_seq fun K24 hK24 => ?_
            refine Wp_region ?_
            refine Ls_y (wtd0 rfl) rfl rfl (y_eq rfl rfl rfl) ?_
            refine Ls_y (wtd0 rfl) rfl rfl (y_assign rfl rfl) ?_
            refine Ls_nil (Th_n (hK24 _ _ ?_))
            refine Wp_cond rfl (fun hc7 => ?_) (fun hc7 => ?_)
            · have hc7 : ((psend_m Tg1 ((ix l s11).m)).1) = 0 := by first | simpa using hc7 | (intro hh; rw [hh] at hc7; cases hc7)
              have hciN := hci.sendOk hc7
              have hbN := hciN.bnd
              refine Wp_seq fun K25 hK25 => ?_
              refine Wp_region ?_
              refine Ls_y (wtd0 rfl) rfl rfl (y_move rfl rfl) ?_
              refine Ls_y (wtd0 rfl) rfl rfl (y_add (c := s7 + 1) rfl rfl rfl (wf_i64 (by first | omega | (simp; done) | (simp; omega)))) ?_
              refine Ls_y (wtd0 rfl) rfl rfl (y_assign rfl rfl) ?_
              refine Ls_nil (Th_n (hK25 _ _ ?_))
              refine Wp_region ?_
              refine Ls_y (wtd0 rfl) rfl rfl (y_move rfl rfl) ?_
              refine Ls_y (wtd0 rfl) rfl rfl (y_fld rfl rfl Ty.fo_48_1) ?_
              refine Ls_y (wtd0 rfl) rfl rfl (y_loadm (i := 1) rfl rfl Ty.ag_46 (fun _ e => e ▸ st.hp) rfl rfl rfl) ?_
              refine Ls_a (wtd0 rfl) ?_
              refine a_mapupM (i := 0) (enc := (fun x : MsgV => Value.agg (msgC x).toArray)) (ev := (fun x : Bool => Value.bool x)) (k := (ix l s11).m) (u := true) rfl rfl rfl rfl rfl Try.underlying64 kl_46 st.hp rfl hmapmg2 (fun es1 cl1 w10 hmap2 (hp : Hp w10 [_, (_, Cl [_, _, _, _, _, _] _), _, _]) hf => ?_)
              have st : St X w10 [_, (_, Cl [_, _, _, _, _, _] _), _, _] [kS (some ⟨gi1, bi1, none⟩) l.length c_l 6 (l.flatMap opMC)] := st.set (i := 0) rfl hp hf
              have st : St X w10 [(some g2, Obj.map es1 cl1), (some g3, Cl [.int .i64 ((ix l s11).kind), .int .i64 ((ix l s11).m.f), .int .i64 ((ix l s11).m.t), sv ((ix l s11).m.s), .int .i64 ((ix l s11).i), .int .i64 ((ix l s11).n)] 48), (some g1, Cl (ntC A2 c2 ((psend_m Tg1 ((ix l s11).m)).2)) 115), (blkOf A2, Cl (rowC ((psend_m Tg1 ((ix l s11).m)).2).row ++ sp2) 51)] [kS (some ⟨gi1, bi1, none⟩) l.length c_l 6 (l.flatMap opMC)] := st
              have hF := hF.step hf (by intro y hy; simp only [List.mem_cons, List.not_mem_nil, or_false] at hy; subst hy; first | (exact Or.inr (by omega)) | (exact Or.inl (kin0 _ _)) | (exact Or.inl (by simp)))
              refine Ls_nil (Ib_n (Ib_n (Th_n (hK20 _ _ ?_))))
              refine Wp_seq fun K26 hK26 => ?_
              refine Wp_region ?_
              refine Ls_y (wtd0 rfl) rfl rfl (y_move rfl rfl) ?_
              refine Ls_y (wtd0 rfl) rfl rfl (y_move rfl rfl) ?_
              refine Ls_a (wtd0 rfl) ?_
              refine a_call rfl rfl rfl rfl (plen_ok (keys (pickL (hOf st) [0, 1]) ++ X) _ g1 A2 c2 sp2 ((psend_m Tg1 ((ix l s11).m)).2) hok2 (st.sub [0, 1] [2, 3] [] (by decide))) (fun v w11 ⟨hv, hf⟩ => ?_)
              subst hv
              have st := st.keep0 hf
              have hF := hF.step0 hf
              have st : St X w11 [(some g2, Obj.map es1 cl1), (some g3, Cl [.int .i64 ((ix l s11).kind), .int .i64 ((ix l s11).m.f), .int .i64 ((ix l s11).m.t), sv ((ix l s11).m.s), .int .i64 ((ix l s11).i), .int .i64 ((ix l s11).n)] 48), (some g1, Cl (ntC A2 c2 ((psend_m Tg1 ((ix l s11).m)).2)) 115), (blkOf A2, Cl (rowC ((psend_m Tg1 ((ix l s11).m)).2).row ++ sp2) 51)] [kS (some ⟨gi1, bi1, none⟩) l.length c_l 6 (l.flatMap opMC)] := st
              refine Ls_y (wtd0 rfl) rfl rfl (y_move rfl rfl) ?_
              refine Ls_y (wtd0 rfl) rfl rfl (y_add (c := (plen_m ((psend_m Tg1 ((ix l s11).m)).2)) + s8) rfl rfl rfl (wf_i64 (by first | omega | (simp; done) | (simp; omega)))) ?_
              refine Ls_y (wtd0 rfl) rfl rfl (y_move rfl rfl) ?_
              refine Ls_a (wtd0 rfl) ?_
              refine a_call rfl rfl rfl rfl (plost_ok (keys (pickL (hOf st) [0, 1]) ++ X) _ g1 A2 c2 sp2 ((psend_m Tg1 ((ix l s11).m)).2) hok2 (st.sub [0, 1] [2, 3] [] (by decide))) (fun v w12 ⟨hv, hf⟩ => ?_)
              subst hv
              have st := st.keep0 hf
              have hF := hF.step0 hf
              have st : St X w12 [(some g2, Obj.map es1 cl1), (some g3, Cl [.int .i64 ((ix l s11).kind), .int .i64 ((ix l s11).m.f), .int .i64 ((ix l s11).m.t), sv ((ix l s11).m.s), .int .i64 ((ix l s11).i), .int .i64 ((ix l s11).n)] 48), (some g1, Cl (ntC A2 c2 ((psend_m Tg1 ((ix l s11).m)).2)) 115), (blkOf A2, Cl (rowC ((psend_m Tg1 ((ix l s11).m)).2).row ++ sp2) 51)] [kS (some ⟨gi1, bi1, none⟩) l.length c_l 6 (l.flatMap opMC)] := st
              refine Ls_y (wtd0 rfl) rfl rfl (y_add (c := ((plen_m ((psend_m Tg1 ((ix l s11).m)).2)) + s8) + (plost_m ((psend_m Tg1 ((ix l s11).m)).2))) rfl rfl rfl (wf_i64 (by first | omega | (simp; done) | (simp; omega)))) ?_
              refine Ls_y (wtd0 rfl) rfl rfl (y_move rfl rfl) ?_
              refine Ls_y (wtd0 rfl) rfl rfl (y_sub (c := (((plen_m ((psend_m Tg1 ((ix l s11).m)).2)) + s8) + (plost_m ((psend_m Tg1 ((ix l s11).m)).2))) - s9) rfl rfl rfl (wf_i64 (by first | omega | (simp; done) | (simp; omega)))) ?_
              refine Ls_y (wtd0 rfl) rfl rfl (y_ne rfl rfl rfl) ?_
              refine Ls_nil (Th_n (hK26 _ _ ?_))
              have hd3 : (s7 + 1) = ((((plen_m ((psend_m Tg1 ((ix l s11).m)).2)) + s8) + (plost_m ((psend_m Tg1 ((ix l s11).m)).2))) - s9) := by
                exact hciN.len
              refine Wp_cond rfl (fun hc8 => absurd hc8 (by first | (simp [hd3]; done) | (rw [hd3]; simp; done) | simpa using hd3)) (fun _ => ?_)
              refine Wp_skip (Ib_n (Th_n (hK15 _ _ ?_)))
              refine Wp_region ?_
              refine Ls_y (wtd0 rfl) rfl rfl (y_move rfl rfl) ?_
              refine Ls_y (wtd0 rfl) rfl rfl (y_add (c := s11 + 1) rfl rfl rfl (wf_i64 (by first | omega | (simp; done) | (simp; omega)))) ?_
              refine Ls_y (wtd0 rfl) rfl rfl (y_assign rfl rfl) ?_
              refine Ls_nil (Th_n (?_))
              exact ⟨fuel, [(1, _), (5, _), (7, _), (8, _), (9, _), (10, _), (11, _)], Nat.lt_succ_self _, ⟨rfl, rfl, rfl, rfl, rfl, rfl, rfl, trivial⟩, (s7 + 1), s8, s9, (s11 + 1), ((psend_m Tg1 ((ix l s11).m)).2), (mset mg2 ((ix l s11).m) true), A2, c2, sp2, es1, cl1, rfl, by first | omega | (simp; done) | (simp; omega), by exact ⟨by omega, by omega, hciN⟩, hok2, hfo2, hmap2, (st.picks [2, 3, 0] (by decide)).pickK [0], hF⟩
            · have hc7 : ¬ (((psend_m Tg1 ((ix l s11).m)).1) = 0) := by first | simpa using hc7 | (intro hh; rw [hh] at hc7; cases hc7)
              refine Wp_seq fun K27 hK27 => ?_
              refine Wp_seq fun K28 hK28 => ?_
              refine Wp_region ?_
              refine Ls_y (wtd0 rfl) rfl rfl (y_eq rfl rfl rfl) ?_
              refine Ls_y (wtd0 rfl) rfl rfl (y_assign rfl rfl) ?_
              refine Ls_nil (Th_n (hK28 _ _ ?_))
              refine Wp_cond rfl (fun hc9 => ?_) (fun hc9 => ?_)
              · have hc9 : ((psend_m Tg1 ((ix l s11).m)).1) = 9 := by first | simpa using hc9 | (intro hh; rw [hh] at hc9; cases hc9)
                have hciN := hci.sendLost (.inl hc9)
                have hbN := hciN.bnd
                refine Wp_skip (Th_n (hK27 _ _ ?_))
                refine Wp_cond rfl (fun _ => ?_) (fun hc10 => absurd hc10 (by simp [hc9]))
                refine Wp_region ?_
                refine Ls_y (wtd0 rfl) rfl rfl (y_move rfl rfl) ?_
                refine Ls_y (wtd0 rfl) rfl rfl (y_add (c := s9 + 1) rfl rfl rfl (wf_i64 (by first | omega | (simp; done) | (simp; omega)))) ?_
                refine Ls_y (wtd0 rfl) rfl rfl (y_assign rfl rfl) ?_
                refine Ls_nil (Ib_n (Ib_n (Th_n (hK20 _ _ ?_))))
                refine Wp_seq fun K29 hK29 => ?_
                refine Wp_region ?_
                refine Ls_y (wtd0 rfl) rfl rfl (y_move rfl rfl) ?_
                refine Ls_y (wtd0 rfl) rfl rfl (y_move rfl rfl) ?_
                refine Ls_a (wtd0 rfl) ?_
                refine a_call rfl rfl rfl rfl (plen_ok (keys (pickL (hOf st) [0, 1]) ++ X) _ g1 A2 c2 sp2 ((psend_m Tg1 ((ix l s11).m)).2) hok2 (st.sub [0, 1] [2, 3] [] (by decide))) (fun v w13 ⟨hv, hf⟩ => ?_)
                subst hv
                have st := st.keep0 hf
                have hF := hF.step0 hf
                have st : St X w13 [(some g2, Obj.map es_mg2 cl_mg2), (some g3, Cl [.int .i64 ((ix l s11).kind), .int .i64 ((ix l s11).m.f), .int .i64 ((ix l s11).m.t), sv ((ix l s11).m.s), .int .i64 ((ix l s11).i), .int .i64 ((ix l s11).n)] 48), (some g1, Cl (ntC A2 c2 ((psend_m Tg1 ((ix l s11).m)).2)) 115), (blkOf A2, Cl (rowC ((psend_m Tg1 ((ix l s11).m)).2).row ++ sp2) 51)] [kS (some ⟨gi1, bi1, none⟩) l.length c_l 6 (l.flatMap opMC)] := st
                refine Ls_y (wtd0 rfl) rfl rfl (y_move rfl rfl) ?_
                refine Ls_y (wtd0 rfl) rfl rfl (y_add (c := (plen_m ((psend_m Tg1 ((ix l s11).m)).2)) + s8) rfl rfl rfl (wf_i64 (by first | omega | (simp; done) | (simp; omega)))) ?_
                refine Ls_y (wtd0 rfl) rfl rfl (y_move rfl rfl) ?_
                refine Ls_a (wtd0 rfl) ?_
                refine a_call rfl rfl rfl rfl (plost_ok (keys (pickL (hOf st) [0, 1]) ++ X) _ g1 A2 c2 sp2 ((psend_m Tg1 ((ix l s11).m)).2) hok2 (st.sub [0, 1] [2, 3] [] (by decide))) (fun v w14 ⟨hv, hf⟩ => ?_)
                subst hv
                have st := st.keep0 hf
                have hF := hF.step0 hf
                have st : St X w14 [(some g2, Obj.map es_mg2 cl_mg2), (some g3, Cl [.int .i64 ((ix l s11).kind), .int .i64 ((ix l s11).m.f), .int .i64 ((ix l s11).m.t), sv ((ix l s11).m.s), .int .i64 ((ix l s11).i), .int .i64 ((ix l s11).n)] 48), (some g1, Cl (ntC A2 c2 ((psend_m Tg1 ((ix l s11).m)).2)) 115), (blkOf A2, Cl (rowC ((psend_m Tg1 ((ix l s11).m)).2).row ++ sp2) 51)] [kS (some ⟨gi1, bi1, none⟩) l.length c_l 6 (l.flatMap opMC)] := st
                refine Ls_y (wtd0 rfl) rfl rfl (y_add (c := ((plen_m ((psend_m Tg1 ((ix l s11).m)).2)) + s8) + (plost_m ((psend_m Tg1 ((ix l s11).m)).2))) rfl rfl rfl (wf_i64 (by first | omega | (simp; done) | (simp; omega)))) ?_
                refine Ls_y (wtd0 rfl) rfl rfl (y_move rfl rfl) ?_
                refine Ls_y (wtd0 rfl) rfl rfl (y_sub (c := (((plen_m ((psend_m Tg1 ((ix l s11).m)).2)) + s8) + (plost_m ((psend_m Tg1 ((ix l s11).m)).2))) - (s9 + 1)) rfl rfl rfl (wf_i64 (by first | omega | (simp; done) | (simp; omega)))) ?_
                refine Ls_y (wtd0 rfl) rfl rfl (y_ne rfl rfl rfl) ?_
                refine Ls_nil (Th_n (hK29 _ _ ?_))
                have hd4 : s7 = ((((plen_m ((psend_m Tg1 ((ix l s11).m)).2)) + s8) + (plost_m ((psend_m Tg1 ((ix l s11).m)).2))) - (s9 + 1)) := by
                  exact hciN.len
                refine Wp_cond rfl (fun hc11 => absurd hc11 (by first | (simp [hd4]; done) | (rw [hd4]; simp; done) | simpa using hd4)) (fun _ => ?_)
                refine Wp_skip (Ib_n (Th_n (hK15 _ _ ?_)))
                refine Wp_region ?_
                refine Ls_y (wtd0 rfl) rfl rfl (y_move rfl rfl) ?_
                refine Ls_y (wtd0 rfl) rfl rfl (y_add (c := s11 + 1) rfl rfl rfl (wf_i64 (by first | omega | (simp; done) | (simp; omega)))) ?_
                refine Ls_y (wtd0 rfl) rfl rfl (y_assign rfl rfl) ?_
                refine Ls_nil (Th_n (?_))
                exact ⟨fuel, [(1, _), (5, _), (7, _), (8, _), (9, _), (10, _), (11, _)], Nat.lt_succ_self _, ⟨rfl, rfl, rfl, rfl, rfl, rfl, rfl, trivial⟩, s7, s8, (s9 + 1), (s11 + 1), ((psend_m Tg1 ((ix l s11).m)).2), mg2, A2, c2, sp2, es_mg2, cl_mg2, rfl, by first | omega | (simp; done) | (simp; omega), by exact ⟨by omega, by omega, hciN⟩, hok2, hfo2, hmapmg2, (st.picks [2, 3, 0] (by decide)).pickK [0], hF⟩
              · have hc9 : ¬ (((psend_m Tg1 ((ix l s11).m)).1) = 9) := by first | simpa using hc9 | (intro hh; rw [hh] at hc9; cases hc9)
                refine Wp_region ?_
                refine Ls_y (wtd0 rfl) rfl rfl (y_eq rfl rfl rfl) ?_
                refine Ls_y (wtd0 rfl) rfl rfl (y_assign rfl rfl) ?_
                refine Ls_nil (Th_n (hK27 _ _ ?_))
                refine Wp_cond rfl (fun hc12 => ?_) (fun hc12 => ?_)
                · have hc12 : ((psend_m Tg1 ((ix l s11).m)).1) = 4 := by first | simpa using hc12 | (intro hh; rw [hh] at hc12; cases hc12)
                  have hciN := hci.sendLost (.inr hc12)
                  have hbN := hciN.bnd
                  refine Wp_region ?_
                  refine Ls_y (wtd0 rfl) rfl rfl (y_move rfl rfl) ?_
                  refine Ls_y (wtd0 rfl) rfl rfl (y_add (c := s9 + 1) rfl rfl rfl (wf_i64 (by first | omega | (simp; done) | (simp; omega)))) ?_
                  refine Ls_y (wtd0 rfl) rfl rfl (y_assign rfl rfl) ?_
                  refine Ls_nil (Ib_n (Ib_n (Th_n (hK20 _ _ ?_))))
                  refine Wp_seq fun K30 hK30 => ?_
                  refine Wp_region ?_
                  refine Ls_y (wtd0 rfl) rfl rfl (y_move rfl rfl) ?_
                  refine Ls_y (wtd0 rfl) rfl rfl (y_move rfl rfl) ?_
                  refine Ls_a (wtd0 rfl) ?_
                  refine a_call rfl rfl rfl rfl (plen_ok (keys (pickL (hOf st) [0, 1]) ++ X) _ g1 A2 c2 sp2 ((psend_m Tg1 ((ix l s11).m)).2) hok2 (st.sub [0, 1] [2, 3] [] (by decide))) (fun v w15 ⟨hv, hf⟩ => ?_)
                  subst hv
                  have st := st.keep0 hf
                  have hF := hF.step0 hf
                  have st : St X w15 [(some g2, Obj.map es_mg2 cl_mg2), (some g3, Cl [.int .i64 ((ix l s11).kind), .int .i64 ((ix l s11).m.f), .int .i64 ((ix l s11).m.t), sv ((ix l s11).m.s), .int .i64 ((ix l s11).i), .int .i64 ((ix l s11).n)] 48), (some g1, Cl (ntC A2 c2 ((psend_m Tg1 ((ix l s11).m)).2)) 115), (blkOf A2, Cl (rowC ((psend_m Tg1 ((ix l s11).m)).2).row ++ sp2) 51)] [kS (some ⟨gi1, bi1, none⟩) l.length c_l 6 (l.flatMap opMC)] := st
                  refine Ls_y (wtd0 rfl) rfl rfl (y_move rfl rfl) ?_
                  refine Ls_y (wtd0 rfl) rfl rfl (y_add (c := (plen_m ((psend_m Tg1 ((ix l s11).m)).2)) + s8) rfl rfl rfl (wf_i64 (by first | omega | (simp; done) | (simp; omega)))) ?_
                  refine Ls_y (wtd0 rfl) rfl rfl (y_move rfl rfl) ?_
                  refine Ls_a (wtd0 rfl) ?_
                  refine a_call rfl rfl rfl rfl (plost_ok (keys (pickL (hOf st) [0, 1]) ++ X) _ g1 A2 c2 sp2 ((psend_m Tg1 ((ix l s11).m)).2) hok2 (st.sub [0, 1] [2, 3] [] (by decide))) (fun v w16 ⟨hv, hf⟩ => ?_)
                  subst hv
                  have st := st.keep0 hf
                  have hF := hF.step0 hf
                  have st : St X w16 [(some g2, Obj.map es_mg2 cl_mg2), (some g3, Cl [.int .i64 ((ix l s11).kind), .int .i64 ((ix l s11).m.f), .int .i64 ((ix l s11).m.t), sv ((ix l s11).m.s), .int .i64 ((ix l s11).i), .int .i64 ((ix l s11).n)] 48), (some g1, Cl (ntC A2 c2 ((psend_m Tg1 ((ix l s11).m)).2)) 115), (blkOf A2, Cl (rowC ((psend_m Tg1 ((ix l s11).m)).2).row ++ sp2) 51)] [kS (some ⟨gi1, bi1, none⟩) l.length c_l 6 (l.flatMap opMC)] := st
                  refine Ls_y (wtd0 rfl) rfl rfl (y_add (c := ((plen_m ((psend_m Tg1 ((ix l s11).m)).2)) + s8) + (plost_m ((psend_m Tg1 ((ix l s11).m)).2))) rfl rfl rfl (wf_i64 (by first | omega | (simp; done) | (simp; omega)))) ?_
                  refine Ls_y (wtd0 rfl) rfl rfl (y_move rfl rfl) ?_
                  refine Ls_y (wtd0 rfl) rfl rfl (y_sub (c := (((plen_m ((psend_m Tg1 ((ix l s11).m)).2)) + s8) + (plost_m ((psend_m Tg1 ((ix l s11).m)).2))) - (s9 + 1)) rfl rfl rfl (wf_i64 (by first | omega | (simp; done) | (simp; omega)))) ?_
                  refine Ls_y (wtd0 rfl) rfl rfl (y_ne rfl rfl rfl) ?_
                  refine Ls_nil (Th_n (hK30 _ _ ?_))
                  have hd5 : s7 = ((((plen_m ((psend_m Tg1 ((ix l s11).m)).2)) + s8) + (plost_m ((psend_m Tg1 ((ix l s11).m)).2))) - (s9 + 1)) := by
                    exact hciN.len
                  refine Wp_cond rfl (fun hc13 => absurd hc13 (by first | (simp [hd5]; done) | (rw [hd5]; simp; done) | simpa using hd5)) (fun _ => ?_)
                  refine Wp_skip (Ib_n (Th_n (hK15 _ _ ?_)))
                  refine Wp_region ?_
                  refine Ls_y (wtd0 rfl) rfl rfl (y_move rfl rfl) ?_
                  refine Ls_y (wtd0 rfl) rfl rfl (y_add (c := s11 + 1) rfl rfl rfl (wf_i64 (by first | omega | (simp; done) | (simp; omega)))) ?_
                  refine Ls_y (wtd0 rfl) rfl rfl (y_assign rfl rfl) ?_
                  refine Ls_nil (Th_n (?_))
                  exact ⟨fuel, [(1, _), (5, _), (7, _), (8, _), (9, _), (10, _), (11, _)], Nat.lt_succ_self _, ⟨rfl, rfl, rfl, rfl, rfl, rfl, rfl, trivial⟩, s7, s8, (s9 + 1), (s11 + 1), ((psend_m Tg1 ((ix l s11).m)).2), mg2, A2, c2, sp2, es_mg2, cl_mg2, rfl, by first | omega | (simp; done) | (simp; omega), by exact ⟨by omega, by omega, hciN⟩, hok2, hfo2, hmapmg2, (st.picks [2, 3, 0] (by decide)).pickK [0], hF⟩
                · have hc12 : ¬ (((psend_m Tg1 ((ix l s11).m)).1) = 4) := by first | simpa using hc12 | (intro hh; rw [hh] at hc12; cases hc12)
                  have hciN := hci.sendNo (by assumption) (by assumption) hc12
                  have hbN := hciN.bnd
                  refine Wp_skip (Ib_n (Ib_n (Th_n (hK20 _ _ ?_))))
                  refine Wp_seq fun K31 hK31 => ?_
                  refine Wp_region ?_
                  refine Ls_y (wtd0 rfl) rfl rfl (y_move rfl rfl) ?_
                  refine Ls_y (wtd0 rfl) rfl rfl (y_move rfl rfl) ?_
                  refine Ls_a (wtd0 rfl) ?_
                  refine a_call rfl rfl rfl rfl (plen_ok (keys (pickL (hOf st) [0, 1]) ++ X) _ g1 A2 c2 sp2 ((psend_m Tg1 ((ix l s11).m)).2) hok2 (st.sub [0, 1] [2, 3] [] (by decide))) (fun v w17 ⟨hv, hf⟩ => ?_)
                  subst hv
                  have st := st.keep0 hf
                  have hF := hF.step0 hf
                  have st : St X w17 [(some g2, Obj.map es_mg2 cl_mg2), (some g3, Cl [.int .i64 ((ix l s11).kind), .int .i64 ((ix l s11).m.f), .int .i64 ((ix l s11).m.t), sv ((ix l s11).m.s), .int .i64 ((ix l s11).i), .int .i64 ((ix l s11).n)] 48), (some g1, Cl (ntC A2 c2 ((psend_m Tg1 ((ix l s11).m)).2)) 115), (blkOf A2, Cl (rowC ((psend_m Tg1 ((ix l s11).m)).2).row ++ sp2) 51)] [kS (some ⟨gi1, bi1, none⟩) l.length c_l 6 (l.flatMap opMC)] := st
                  refine Ls_y (wtd0 rfl) rfl rfl (y_move rfl rfl) ?_
                  refine Ls_y (wtd0 rfl) rfl rfl (y_add (c := (plen_m ((psend_m Tg1 ((ix l s11).m)).2)) + s8) rfl rfl rfl (wf_i64 (by first | omega | (simp; done) | (simp; omega)))) ?_
                  refine Ls_y (wtd0 rfl) rfl rfl (y_move rfl rfl) ?_
                  refine Ls_a (wtd0 rfl) ?_
                  refine a_call rfl rfl rfl rfl (plost_ok (keys (pickL (hOf st) [0, 1]) ++ X) _ g1 A2 c2 sp2 ((psend_m Tg1 ((ix l s11).m)).2) hok2 (st.sub [0, 1] [2, 3] [] (by decide))) (fun v w18 ⟨hv, hf⟩ => ?_)
                  subst hv
                  have st := st.keep0 hf
                  have hF := hF.step0 hf
                  have st : St X w18 [(some g2, Obj.map es_mg2 cl_mg2), (some g3, Cl [.int .i64 ((ix l s11).kind), .int .i64 ((ix l s11).m.f), .int .i64 ((ix l s11).m.t), sv ((ix l s11).m.s), .int .i64 ((ix l s11).i), .int .i64 ((ix l s11).n)] 48), (some g1, Cl (ntC A2 c2 ((psend_m Tg1 ((ix l s11).m)).2)) 115), (blkOf A2, Cl (rowC ((psend_m Tg1 ((ix l s11).m)).2).row ++ sp2) 51)] [kS (some ⟨gi1, bi1, none⟩) l.length c_l 6 (l.flatMap opMC)] := st
                  refine Ls_y (wtd0 rfl) rfl rfl (y_add (c := ((plen_m ((psend_m Tg1 ((ix l s11).m)).2)) + s8) + (plost_m ((psend_m Tg1 ((ix l s11).m)).2))) rfl rfl rfl (wf_i64 (by first | omega | (simp; done) | (simp; omega)))) ?_
                  refine Ls_y (wtd0 rfl) rfl rfl (y_move rfl rfl) ?_
                  refine Ls_y (wtd0 rfl) rfl rfl (y_sub (c := (((plen_m ((psend_m Tg1 ((ix l s11).m)).2)) + s8) + (plost_m ((psend_m Tg1 ((ix l s11).m)).2))) - s9) rfl rfl rfl (wf_i64 (by first | omega | (simp; done) | (simp; omega)))) ?_
                  refine Ls_y (wtd0 rfl) rfl rfl (y_ne rfl rfl rfl) ?_
                  refine Ls_nil (Th_n (hK31 _ _ ?_))
                  have hd6 : s7 = ((((plen_m ((psend_m Tg1 ((ix l s11).m)).2)) + s8) + (plost_m ((psend_m Tg1 ((ix l s11).m)).2))) - s9) := by
                    exact hciN.len
                  refine Wp_cond rfl (fun hc14 => absurd hc14 (by first | (simp [hd6]; done) | (rw [hd6]; simp; done) | simpa using hd6)) (fun _ => ?_)
                  refine Wp_skip (Ib_n (Th_n (hK15 _ _ ?_)))
                  refine Wp_region ?_
                  refine Ls_y (wtd0 rfl) rfl rfl (y_move rfl rfl) ?_
                  refine Ls_y (wtd0 rfl) rfl rfl (y_add (c := s11 + 1) rfl rfl rfl (wf_i64 (by first | omega | (simp; done) | (simp; omega)))) ?_
                  refine Ls_y (wtd0 rfl) rfl rfl (y_assign rfl rfl) ?_
                  refine Ls_nil (Th_n (?_))
                  exact ⟨fuel, [(1, _), (5, _), (7, _), (8, _), (9, _), (10, _), (11, _)], Nat.lt_succ_self _, ⟨rfl, rfl, rfl, rfl, rfl, rfl, rfl, trivial⟩, s7, s8, s9, (s11 + 1), ((psend_m Tg1 ((ix l s11).m)).2), mg2, A2, c2, sp2, es_mg2, cl_mg2, rfl, by first | omega | (simp; done) | (simp; omega), by exact ⟨by omega, by omega, hciN⟩, hok2, hfo2, hmapmg2, (st.picks [2, 3, 0] (by decide)).pickK [0], hF⟩
          · have hc6 : ¬ (((ix l s11).kind) = 0) := by first | simpa using hc6 | (intro hh; rw [hh] at hc6; cases hc6)
            refine Wp_seq fun K32 hK32 => ?_
            refine Wp_region ?_
            refine Ls_y (wtd0 rfl) rfl rfl (y_eq rfl rfl rfl) ?_
            refine Ls_y (wtd0 rfl) rfl rfl (y_assign rfl rfl) ?_
            refine Ls_nil (Th_n (hK32 _ _ ?_))
            refine Wp_cond rfl (fun hc15 => ?_) (fun hc15 => ?_)
            · have hc15 : ((ix l s11).kind) = 1 := by first | simpa using hc15 | (intro hh; rw [hh] at hc15; cases hc15)
              refine Wp_seq fun K33 hK33 => ?_
              refine Wp_region ?_
              refine Ls_y (wtd0 rfl) rfl rfl (y_move rfl rfl) ?_
              refine Ls_y (wtd0 rfl) rfl rfl (y_fld rfl rfl Ty.fo_48_2) ?_
              refine Ls_y (wtd0 rfl) rfl rfl (y_load (i := 3) rfl rfl Ty.pl_3 (fun _ e => e ▸ st.hp) rfl rfl) ?_
              refine Ls_a (wtd0 rfl) ?_
              refine a_call rfl rfl rfl rfl (ptake_ok (keys (pickL (hOf st) [2, 3]) ++ X) _ g1 A_Tg1 c_Tg1 sp_Tg1 Tg1 hokTg1 ((ix l s11).i) (st.sub [2, 3] [0, 1] [] (by decide))) (fun v w19 ⟨A3, c3, sp3, hv, hok3, hN3, hfO2, hkc3⟩ => ?_)
              subst hv
              have hfo3 : ∀ k ∈ keys [(some g1, Cl (ntC A3 c3 ((ptake_m Tg1 ((ix l s11).i)).2.2)) 115), (blkOf A3, Cl (rowC ((ptake_m Tg1 ((ix l s11).i)).2.2).row ++ sp3) 51)], k ∈ ([]) ∨ w.heap.size ≤ k := fun k hk => (hkc3 k (hk)).elim (fun h => (kc_app hfoTg1 (kc_n)) k h) (fun h => .inr (Nat.le_trans hF.size h))
              have st := st.callS [2, 3] [0, 1] (by decide) rfl hN3 hfO2 hkc3
              have hF := hF.step hfO2 (kc_app hfoTg1 (kc_n))
              have st : St X w19 [(some g2, Obj.map es_mg2 cl_mg2), (some g3, Cl [.int .i64 ((ix l s11).kind), .int .i64 ((ix l s11).m.f), .int .i64 ((ix l s11).m.t), sv ((ix l s11).m.s), .int .i64 ((ix l s11).i), .int .i64 ((ix l s11).n)] 48), (some g1, Cl (ntC A3 c3 ((ptake_m Tg1 ((ix l s11).i)).2.2)) 115), (blkOf A3, Cl (rowC ((ptake_m Tg1 ((ix l s11).i)).2.2).row ++ sp3) 51)] [kS (some ⟨gi1, bi1, none⟩) l.length c_l 6 (l.flatMap opMC)] := st
              refine Ls_y (wtd0 rfl) rfl rfl (y_move rfl rfl) ?_
              refine Ls_y (wtd0 rfl) rfl rfl (y_ext rfl rfl rfl) ?_
              refine Ls_y (wtd0 rfl) rfl rfl (y_ext rfl rfl rfl) ?_
              refine Ls_a (wtd0 rfl) ?_
              refine a_alloc rfl rfl rfl Ty.zc_51 st.hp (fun g4 w20 (hp : Hp w20 [_, (_, Cl [_, _, _, _, _, _] _), _, _, (_, Cl [_, _, _] _)]) hf hg3 => ?_)
              have st : St X w20 [_, (_, Cl [_, _, _, _, _, _] _), _, _, (_, Cl [_, _, _] _)] [kS (some ⟨gi1, bi1, none⟩) l.length c_l 6 (l.flatMap opMC)] := st.push hp hf hg3
              have hg3 := Nat.le_trans hF.size hg3
              have hF := hF.step0 hf
              refine Ls_a (wtd0 rfl) ?_
              refine a_storew (i := 4) rfl rfl rfl rfl Ty.sz_51 rfl (by first | assumption | (simp [Value.oneCell', msgC]; done)) st.hp rfl rfl (fun w21 (hp : Hp w21 [_, (_, Cl [_, _, _, _, _, _] _), _, _, (_, Cl [_, _, _] _)]) hf _ => ?_)
              have st : St X w21 [_, (_, Cl [_, _, _, _, _, _] _), _, _, (_, Cl [_, _, _] _)] [kS (some ⟨gi1, bi1, none⟩) l.length c_l 6 (l.flatMap opMC)] := st.set (i := 4) rfl hp hf
              have hF := hF.step hf (by intro y hy; simp only [List.mem_cons, List.not_mem_nil, or_false] at hy; subst hy; first | (exact Or.inr (by omega)) | (exact Or.inl (kin0 _ _)) | (exact Or.inl (by simp)))
              refine Ls_y (wtd0 rfl) rfl rfl (y_assign rfl rfl) ?_
              refine Ls_nil (Th_n (hK33 _ _ ?_))
              refine Wp_seq fun K34 hK34 => ?_
              refine Wp_region ?_
              refine Ls_y (wtd0 rfl) rfl rfl (y_move rfl rfl) ?_
              refine Ls_y (wtd0 rfl) rfl rfl (y_eq rfl rfl rfl) ?_
              refine Ls_nil (Th_n (hK34 _ _ ?_))
              refine Wp_cond rfl (fun hc16 => ?_) (fun hc16 => ?_)
              · have hc16 : ((ptake_m Tg1 ((ix l s11).i)).2.1) = 0 := by first | simpa using hc16 | (intro hh; rw [hh] at hc16; cases hc16)
                obtain ⟨hciN, htk1, htk2⟩ := hci.takeOk hc16
                have hbN := hciN.bnd
                refine Wp_seq fun K35 hK35 => ?_
                refine Wp_region ?_
                refine Ls_y (wtd0 rfl) rfl rfl (y_move rfl rfl) ?_
                refine Ls_y (wtd0 rfl) rfl rfl (y_add (c := s8 + 1) rfl rfl rfl (wf_i64 (by first | omega | (simp; done) | (simp; omega)))) ?_
                refine Ls_y (wtd0 rfl) rfl rfl (y_assign rfl rfl) ?_
                refine Ls_nil (Th_n (hK35 _ _ ?_))
                refine Wp_seq fun K36 hK36 => ?_
                refine Wp_region ?_
                refine Ls_y (wtd0 rfl) rfl rfl (y_move rfl rfl) ?_
                refine Ls_y (wtd0 rfl) rfl rfl (y_loadw (i := 4) rfl rfl Ty.ag_51 (fun _ e => e ▸ st.hp) rfl rfl) ?_
                refine Ls_a (wtd0 rfl) ?_
                refine a_call rfl rfl rfl rfl (from31_ok _ ((ptake_m Tg1 ((ix l s11).i)).1)) (fun v w22 ⟨hv, hf⟩ => ?_)
                subst hv
                have st := st.keep0 hf
                have hF := hF.step0 hf
                have st : St X w22 [_, (_, Cl [_, _, _, _, _, _] _), _, _, (_, Cl [_, _, _] _)] [kS (some ⟨gi1, bi1, none⟩) l.length c_l 6 (l.flatMap opMC)] := st
                refine Ls_y (wtd0 rfl) rfl rfl (y_lookupM (i := 0) (enc := (fun x : MsgV => Value.agg (msgC x).toArray)) (ev := (fun x : Bool => Value.bool x)) (k := from31_m ((ptake_m Tg1 ((ix l s11).i)).1)) (z := false) rfl rfl rfl Try.underlying64 kl_46 (by kernel_rfl) (fun _ e => e ▸ st.hp) rfl hmapmg2) ?_
                refine Ls_y (wtd0 rfl) rfl rfl (y_not rfl rfl) ?_
                refine Ls_y (wtd0 rfl) rfl rfl (y_move rfl rfl) ?_
                have hd7 : ((mget mg2 (from31_m ((ptake_m Tg1 ((ix l s11).i)).1))).getD false) = true := by
                  rw [from31_eq, htk1]; rfl
                refine Ls_bool 105 rfl (fun hc17 => absurd hc17 (by first | (simp [hd7]; done) | (rw [hd7]; simp; done) | simpa using hd7)) (fun _ => ?_)
                refine Ls_y (wtdT rfl rfl rfl) rfl rfl (y_move rfl rfl) ?_
                refine Ls_y (wtdT rfl rfl rfl) rfl rfl (y_fld rfl rfl Ty.fo_51_0) ?_
                refine Ls_y (wtdT rfl rfl rfl) rfl rfl (y_load (i := 4) rfl rfl Ty.pl_3 (fun _ e => e ▸ st.hp) rfl rfl) ?_
                refine Ls_y (wtdT rfl rfl rfl) rfl rfl (y_fld rfl rfl Ty.fo_51_1) ?_
                refine Ls_y (wtdT rfl rfl rfl) rfl rfl (y_load (i := 4) rfl rfl Ty.pl_3 (fun _ e => e ▸ st.hp) rfl rfl) ?_
                refine Ls_a (wtdT rfl rfl rfl) ?_
                refine a_call rfl rfl rfl rfl (papart_ok (keys (pickL (hOf st) [0, 1, 4]) ++ X) _ g1 A3 c3 sp3 ((ptake_m Tg1 ((ix l s11).i)).2.2) hok3 (((ptake_m Tg1 ((ix l s11).i)).1).f) (((ptake_m Tg1 ((ix l s11).i)).1).t) (st.sub [0, 1, 4] [2, 3] [] (by decide))) (fun v w23 ⟨hv, hf⟩ => ?_)
                subst hv
                have st := st.keep0 hf
                have hF := hF.step0 hf
                have st : St X w23 [(some g2, Obj.map es_mg2 cl_mg2), (some g3, Cl [.int .i64 ((ix l s11).kind), .int .i64 ((ix l s11).m.f), .int .i64 ((ix l s11).m.t), sv ((ix l s11).m.s), .int .i64 ((ix l s11).i), .int .i64 ((ix l s11).n)] 48), (some g1, Cl (ntC A3 c3 ((ptake_m Tg1 ((ix l s11).i)).2.2)) 115), (blkOf A3, Cl (rowC ((ptake_m Tg1 ((ix l s11).i)).2.2).row ++ sp3) 51), (some g4, Cl [.int .i64 (((ptake_m Tg1 ((ix l s11).i)).1).f), .int .i64 (((ptake_m Tg1 ((ix l s11).i)).1).t), sv (((ptake_m Tg1 ((ix l s11).i)).1).s)] 51)] [kS (some ⟨gi1, bi1, none⟩) l.length c_l 6 (l.flatMap opMC)] := st
                refine Ls_y (wtd0 rfl) rfl rfl (y_pick_f rfl rfl rfl) ?_
                refine Ls_nil (Th_n (hK36 _ _ ?_))
                have hd8 : ¬ ((papart_m ((ptake_m Tg1 ((ix l s11).i)).2.2) (((ptake_m Tg1 ((ix l s11).i)).1).f) (((ptake_m Tg1 ((ix l s11).i)).1).t)) = true) := by
                  rw [htk2]; simp
                refine Wp_cond rfl (fun hc18 => absurd hc18 (by first | (simp [hd8]; done) | (rw [hd8]; simp; done) | simpa using hd8)) (fun _ => ?_)
                refine Wp_skip (Ib_n (Th_n (hK20 _ _ ?_)))
                refine Wp_seq fun K37 hK37 => ?_
                refine Wp_region ?_
                refine Ls_y (wtd0 rfl) rfl rfl (y_move rfl rfl) ?_
                refine Ls_y (wtd0 rfl) rfl rfl (y_move rfl rfl) ?_
                refine Ls_a (wtd0 rfl) ?_
                refine a_call rfl rfl rfl rfl (plen_ok (keys (pickL (hOf st) [0, 1, 4]) ++ X) _ g1 A3 c3 sp3 ((ptake_m Tg1 ((ix l s11).i)).2.2) hok3 (st.sub [0, 1, 4] [2, 3] [] (by decide))) (fun v w24 ⟨hv, hf⟩ => ?_)
                subst hv
                have st := st.keep0 hf
                have hF := hF.step0 hf
                have st : St X w24 [(some g2, Obj.map es_mg2 cl_mg2), (some g3, Cl [.int .i64 ((ix l s11).kind), .int .i64 ((ix l s11).m.f), .int .i64 ((ix l s11).m.t), sv ((ix l s11).m.s), .int .i64 ((ix l s11).i), .int .i64 ((ix l s11).n)] 48), (some g1, Cl (ntC A3 c3 ((ptake_m Tg1 ((ix l s11).i)).2.2)) 115), (blkOf A3, Cl (rowC ((ptake_m Tg1 ((ix l s11).i)).2.2).row ++ sp3) 51), (some g4, Cl [.int .i64 (((ptake_m Tg1 ((ix l s11).i)).1).f), .int .i64 (((ptake_m Tg1 ((ix l s11).i)).1).t), sv (((ptake_m Tg1 ((ix l s11).i)).1).s)] 51)] [kS (some ⟨gi1, bi1, none⟩) l.length c_l 6 (l.flatMap opMC)] := st
                refine Ls_y (wtd0 rfl) rfl rfl (y_move rfl rfl) ?_
                refine Ls_y (wtd0 rfl) rfl rfl (y_add (c := (plen_m ((ptake_m Tg1 ((ix l s11).i)).2.2)) + (s8 + 1)) rfl rfl rfl (wf_i64 (by first | omega | (simp; done) | (simp; omega)))) ?_
                refine Ls_y (wtd0 rfl) rfl rfl (y_move rfl rfl) ?_
                refine Ls_a (wtd0 rfl) ?_
                refine a_call rfl rfl rfl rfl (plost_ok (keys (pickL (hOf st) [0, 1, 4]) ++ X) _ g1 A3 c3 sp3 ((ptake_m Tg1 ((ix l s11).i)).2.2) hok3 (st.sub [0, 1, 4] [2, 3] [] (by decide))) (fun v w25 ⟨hv, hf⟩ => ?_)
                subst hv
                have st := st.keep0 hf
                have hF := hF.step0 hf
                have st : St X w25 [(some g2, Obj.map es_mg2 cl_mg2), (some g3, Cl [.int .i64 ((ix l s11).kind), .int .i64 ((ix l s11).m.f), .int .i64 ((ix l s11).m.t), sv ((ix l s11).m.s), .int .i64 ((ix l s11).i), .int .i64 ((ix l s11).n)] 48), (some g1, Cl (ntC A3 c3 ((ptake_m Tg1 ((ix l s11).i)).2.2)) 115), (blkOf A3, Cl (rowC ((ptake_m Tg1 ((ix l s11).i)).2.2).row ++ sp3) 51), (some g4, Cl [.int .i64 (((ptake_m Tg1 ((ix l s11).i)).1).f), .int .i64 (((ptake_m Tg1 ((ix l s11).i)).1).t), sv (((ptake_m Tg1 ((ix l s11).i)).1).s)] 51)] [kS (some ⟨gi1, bi1, none⟩) l.length c_l 6 (l.flatMap opMC)] := st
                refine Ls_y (wtd0 rfl) rfl rfl (y_add (c := ((plen_m ((ptake_m Tg1 ((ix l s11).i)).2.2)) + (s8 + 1)) + (plost_m ((ptake_m Tg1 ((ix l s11).i)).2.2))) rfl rfl rfl (wf_i64 (by first | omega | (simp; done) | (simp; omega)))) ?_
                refine Ls_y (wtd0 rfl) rfl rfl (y_move rfl rfl) ?_
                refine Ls_y (wtd0 rfl) rfl rfl (y_sub (c := (((plen_m ((ptake_m Tg1 ((ix l s11).i)).2.2)) + (s8 + 1)) + (plost_m ((ptake_m Tg1 ((ix l s11).i)).2.2))) - s9) rfl rfl rfl (wf_i64 (by first | omega | (simp; done) | (simp; omega)))) ?_
                refine Ls_y (wtd0 rfl) rfl rfl (y_ne rfl rfl rfl) ?_
                refine Ls_nil (Th_n (hK37 _ _ ?_))
                have hd9 : s7 = ((((plen_m ((ptake_m Tg1 ((ix l s11).i)).2.2)) + (s8 + 1)) + (plost_m ((ptake_m Tg1 ((ix l s11).i)).2.2))) - s9) := by
                  exact hciN.len
                refine Wp_cond rfl (fun hc19 => absurd hc19 (by first | (simp [hd9]; done) | (rw [hd9]; simp; done) | simpa using hd9)) (fun _ => ?_)
                refine Wp_skip (Ib_n (Th_n (hK15 _ _ ?_)))
                refine Wp_region ?_
                refine Ls_y (wtd0 rfl) rfl rfl (y_move rfl rfl) ?_
                refine Ls_y (wtd0 rfl) rfl rfl (y_add (c := s11 + 1) rfl rfl rfl (wf_i64 (by first | omega | (simp; done) | (simp; omega)))) ?_
                refine Ls_y (wtd0 rfl) rfl rfl (y_assign rfl rfl) ?_
                refine Ls_nil (Th_n (?_))
                exact ⟨fuel, [(1, _), (5, _), (7, _), (8, _), (9, _), (10, _), (11, _)], Nat.lt_succ_self _, ⟨rfl, rfl, rfl, rfl, rfl, rfl, rfl, trivial⟩, s7, (s8 + 1), s9, (s11 + 1), ((ptake_m Tg1 ((ix l s11).i)).2.2), mg2, A3, c3, sp3, es_mg2, cl_mg2, rfl, by first | omega | (simp; done) | (simp; omega), by exact ⟨by omega, by omega, hciN⟩, hok3, hfo3, hmapmg2, (st.picks [2, 3, 0] (by decide)).pickK [0], hF⟩
              · have hc16 : ¬ (((ptake_m Tg1 ((ix l s11).i)).2.1) = 0) := by first | simpa using hc16 | (intro hh; rw [hh] at hc16; cases hc16)
                have hciN := hci.takeNo hc16
                have hbN := hciN.bnd
                refine Wp_skip (Ib_n (Th_n (hK20 _ _ ?_)))
                refine Wp_seq fun K38 hK38 => ?_
                refine Wp_region ?_
                refine Ls_y (wtd0 rfl) rfl rfl (y_move rfl rfl) ?_
                refine Ls_y (wtd0 rfl) rfl rfl (y_move rfl rfl) ?_
                refine Ls_a (wtd0 rfl) ?_
                refine a_call rfl rfl rfl rfl (plen_ok (keys (pickL (hOf st) [0, 1, 4]) ++ X) _ g1 A3 c3 sp3 ((ptake_m Tg1 ((ix l s11).i)).2.2) hok3 (st.sub [0, 1, 4] [2, 3] [] (by decide))) (fun v w26 ⟨hv, hf⟩ => ?_)
                subst hv
                have st := st.keep0 hf
                have hF := hF.step0 hf
                have st : St X w26 [(some g2, Obj.map es_mg2 cl_mg2), (some g3, Cl [.int .i64 ((ix l s11).kind), .int .i64 ((ix l s11).m.f), .int .i64 ((ix l s11).m.t), sv ((ix l s11).m.s), .int .i64 ((ix l s11).i), .int .i64 ((ix l s11).n)] 48), (some g1, Cl (ntC A3 c3 ((ptake_m Tg1 ((ix l s11).i)).2.2)) 115), (blkOf A3, Cl (rowC ((ptake_m Tg1 ((ix l s11).i)).2.2).row ++ sp3) 51), (some g4, Cl [.int .i64 (((ptake_m Tg1 ((ix l s11).i)).1).f), .int .i64 (((ptake_m Tg1 ((ix l s11).i)).1).t), sv (((ptake_m Tg1 ((ix l s11).i)).1).s)] 51)] [kS (some ⟨gi1, bi1, none⟩) l.length c_l 6 (l.flatMap opMC)] := st
                refine Ls_y (wtd0 rfl) rfl rfl (y_move rfl rfl) ?_
                refine Ls_y (wtd0 rfl) rfl rfl (y_add (c := (plen_m ((ptake_m Tg1 ((ix l s11).i)).2.2)) + s8) rfl rfl rfl (wf_i64 (by first | omega | (simp; done) | (simp; omega)))) ?_
                refine Ls_y (wtd0 rfl) rfl rfl (y_move rfl rfl) ?_
                refine Ls_a (wtd0 rfl) ?_
                refine a_call rfl rfl rfl rfl (plost_ok (keys (pickL (hOf st) [0, 1, 4]) ++ X) _ g1 A3 c3 sp3 ((ptake_m Tg1 ((ix l s11).i)).2.2) hok3 (st.sub [0, 1, 4] [2, 3] [] (by decide))) (fun v w27 ⟨hv, hf⟩ => ?_)
                subst hv
                have st := st.keep0 hf
                have hF := hF.step0 hf
                have st : St X w27 [(some g2, Obj.map es_mg2 cl_mg2), (some g3, Cl [.int .i64 ((ix l s11).kind), .int .i64 ((ix l s11).m.f), .int .i64 ((ix l s11).m.t), sv ((ix l s11).m.s), .int .i64 ((ix l s11).i), .int .i64 ((ix l s11).n)] 48), (some g1, Cl (ntC A3 c3 ((ptake_m Tg1 ((ix l s11).i)).2.2)) 115), (blkOf A3, Cl (rowC ((ptake_m Tg1 ((ix l s11).i)).2.2).row ++ sp3) 51), (some g4, Cl [.int .i64 (((ptake_m Tg1 ((ix l s11).i)).1).f), .int .i64 (((ptake_m Tg1 ((ix l s11).i)).1).t), sv (((ptake_m Tg1 ((ix l s11).i)).1).s)] 51)] [kS (some ⟨gi1, bi1, none⟩) l.length c_l 6 (l.flatMap opMC)] := st
                refine Ls_y (wtd0 rfl) rfl rfl (y_add (c := ((plen_m ((ptake_m Tg1 ((ix l s11).i)).2.2)) + s8) + (plost_m ((ptake_m Tg1 ((ix l s11).i)).2.2))) rfl rfl rfl (wf_i64 (by first | omega | (simp; done) | (simp; omega)))) ?_
                refine Ls_y (wtd0 rfl) rfl rfl (y_move rfl rfl) ?_
                refine Ls_y (wtd0 rfl) rfl rfl (y_sub (c := (((plen_m ((ptake_m Tg1 ((ix l s11).i)).2.2)) + s8) + (plost_m ((ptake_m Tg1 ((ix l s11).i)).2.2))) - s9) rfl rfl rfl (wf_i64 (by first | omega | (simp; done) | (simp; omega)))) ?_
                refine Ls_y (wtd0 rfl) rfl rfl (y_ne rfl rfl rfl) ?_
                refine Ls_nil (Th_n (hK38 _ _ ?_))
                have hd10 : s7 = ((((plen_m ((ptake_m Tg1 ((ix l s11).i)).2.2)) + s8) + (plost_m ((ptake_m Tg1 ((ix l s11).i)).2.2))) - s9) := by
                  exact hciN.len
                refine Wp_cond rfl (fun hc20 => absurd hc20 (by first | (simp [hd10]; done) | (rw [hd10]; simp; done) | simpa using hd10)) (fun _ => ?_)
                refine Wp_skip (Ib_n (Th_n (hK15 _ _ ?_)))
                refine Wp_region ?_
                refine Ls_y (wtd0 rfl) rfl rfl (y_move rfl rfl) ?_
                refine Ls_y (wtd0 rfl) rfl rfl (y_add (c := s11 + 1) rfl rfl rfl (wf_i64 (by first | omega | (simp; done) | (simp; omega)))) ?_
                refine Ls_y (wtd0 rfl) rfl rfl (y_assign rfl rfl) ?_
                refine Ls_nil (Th_n (?_))
                exact ⟨fuel, [(1, _), (5, _), (7, _), (8, _), (9, _), (10, _), (11, _)], Nat.lt_succ_self _, ⟨rfl, rfl, rfl, rfl, rfl, rfl, rfl, trivial⟩, s7, s8, s9, (s11 + 1), ((ptake_m Tg1 ((ix l s11).i)).2.2), mg2, A3, c3, sp3, es_mg2, cl_mg2, rfl, by first | omega | (simp; done) | (simp; omega), by exact ⟨by omega, by omega, hciN⟩, hok3, hfo3, hmapmg2, (st.picks [2, 3, 0] (by decide)).pickK [0], hF⟩
            · have hc15 : ¬ (((ix l s11).kind) = 1) := by first | simpa using hc15 | (intro hh; rw [hh] at hc15; cases hc15)
              refine Wp_seq fun K39 hK39 => ?_
              refine Wp_region ?_
              refine Ls_y (wtd0 rfl) rfl rfl (y_eq rfl rfl rfl) ?_
              refine Ls_y (wtd0 rfl) rfl rfl (y_assign rfl rfl) ?_
              refine Ls_nil (Th_n (hK39 _ _ ?_))
              refine Wp_cond rfl (fun hc21 => ?_) (fun hc21 => ?_)
              · have hc21 : ((ix l s11).kind) = 2 := by first | simpa using hc21 | (intro hh; rw [hh] at hc21; cases hc21)
                refine Wp_region ?_
                refine Ls_y (wtd0 rfl) rfl rfl (y_move rfl rfl) ?_
                refine Ls_y (wtd0 rfl) rfl rfl (y_fld rfl rfl Ty.fo_48_2) ?_
                refine Ls_y (wtd0 rfl) rfl rfl (y_load (i := 3) rfl rfl Ty.pl_3 (fun _ e => e ▸ st.hp) rfl rfl) ?_
                refine Ls_a (wtd0 rfl) ?_
                refine a_call rfl rfl rfl rfl (pdrop_ok (keys (pickL (hOf st) [2, 3]) ++ X) _ g1 A_Tg1 c_Tg1 sp_Tg1 Tg1 hokTg1 ((ix l s11).i) (st.sub [2, 3] [0, 1] [] (by decide)) (by have := hci.l1; omega)) (fun v w28 ⟨A4, c4, sp4, hv, hok4, hN4, hfO3, hkc4⟩ => ?_)
                subst hv
                have hfo4 : ∀ k ∈ keys [(some g1, Cl (ntC A4 c4 ((pdrop_m Tg1 ((ix l s11).i)).2)) 115), (blkOf A4, Cl (rowC ((pdrop_m Tg1 ((ix l s11).i)).2).row ++ sp4) 51)], k ∈ ([]) ∨ w.heap.size ≤ k := fun k hk => (hkc4 k (hk)).elim (fun h => (kc_app hfoTg1 (kc_n)) k h) (fun h => .inr (Nat.le_trans hF.size h))
                have st := st.callS [2, 3] [0, 1] (by decide) rfl hN4 hfO3 hkc4
                have hF := hF.step hfO3 (kc_app hfoTg1 (kc_n))
                have st : St X w28 [(some g2, Obj.map es_mg2 cl_mg2), (some g3, Cl [.int .i64 ((ix l s11).kind), .int .i64 ((ix l s11).m.f), .int .i64 ((ix l s11).m.t), sv ((ix l s11).m.s), .int .i64 ((ix l s11).i), .int .i64 ((ix l s11).n)] 48), (some g1, Cl (ntC A4 c4 ((pdrop_m Tg1 ((ix l s11).i)).2)) 115), (blkOf A4, Cl (rowC ((pdrop_m Tg1 ((ix l s11).i)).2).row ++ sp4) 51)] [kS (some ⟨gi1, bi1, none⟩) l.length c_l 6 (l.flatMap opMC)] := st
                have hciN := hci.drop (ix l s11).i
                have hbN := hciN.bnd
                refine Ls_nil (Ib_n (Th_n (hK20 _ _ ?_)))
                refine Wp_seq fun K40 hK40 => ?_
                refine Wp_region ?_
                refine Ls_y (wtd0 rfl) rfl rfl (y_move rfl rfl) ?_
                refine Ls_y (wtd0 rfl) rfl rfl (y_move rfl rfl) ?_
                refine Ls_a (wtd0 rfl) ?_
                refine a_call rfl rfl rfl rfl (plen_ok (keys (pickL (hOf st) [0, 1]) ++ X) _ g1 A4 c4 sp4 ((pdrop_m Tg1 ((ix l s11).i)).2) hok4 (st.sub [0, 1] [2, 3] [] (by decide))) (fun v w29 ⟨hv, hf⟩ => ?_)
                subst hv
                have st := st.keep0 hf
                have hF := hF.step0 hf
                have st : St X w29 [(some g2, Obj.map es_mg2 cl_mg2), (some g3, Cl [.int .i64 ((ix l s11).kind), .int .i64 ((ix l s11).m.f), .int .i64 ((ix l s11).m.t), sv ((ix l s11).m.s), .int .i64 ((ix l s11).i), .int .i64 ((ix l s11).n)] 48), (some g1, Cl (ntC A4 c4 ((pdrop_m Tg1 ((ix l s11).i)).2)) 115), (blkOf A4, Cl (rowC ((pdrop_m Tg1 ((ix l s11).i)).2).row ++ sp4) 51)] [kS (some ⟨gi1, bi1, none⟩) l.length c_l 6 (l.flatMap opMC)] := st
                refine Ls_y (wtd0 rfl) rfl rfl (y_move rfl rfl) ?_
                refine Ls_y (wtd0 rfl) rfl rfl (y_add (c := (plen_m ((pdrop_m Tg1 ((ix l s11).i)).2)) + s8) rfl rfl rfl (wf_i64 (by first | omega | (simp; done) | (simp; omega)))) ?_
                refine Ls_y (wtd0 rfl) rfl rfl (y_move rfl rfl) ?_
                refine Ls_a (wtd0 rfl) ?_
                refine a_call rfl rfl rfl rfl (plost_ok (keys (pickL (hOf st) [0, 1]) ++ X) _ g1 A4 c4 sp4 ((pdrop_m Tg1 ((ix l s11).i)).2) hok4 (st.sub [0, 1] [2, 3] [] (by decide))) (fun v w30 ⟨hv, hf⟩ => ?_)
                subst hv
                have st := st.keep0 hf
                have hF := hF.step0 hf
                have st : St X w30 [(some g2, Obj.map es_mg2 cl_mg2), (some g3, Cl [.int .i64 ((ix l s11).kind), .int .i64 ((ix l s11).m.f), .int .i64 ((ix l s11).m.t), sv ((ix l s11).m.s), .int .i64 ((ix l s11).i), .int .i64 ((ix l s11).n)] 48), (some g1, Cl (ntC A4 c4 ((pdrop_m Tg1 ((ix l s11).i)).2)) 115), (blkOf A4, Cl (rowC ((pdrop_m Tg1 ((ix l s11).i)).2).row ++ sp4) 51)] [kS (some ⟨gi1, bi1, none⟩) l.length c_l 6 (l.flatMap opMC)] := st
                refine Ls_y (wtd0 rfl) rfl rfl (y_add (c := ((plen_m ((pdrop_m Tg1 ((ix l s11).i)).2)) + s8) + (plost_m ((pdrop_m Tg1 ((ix l s11).i)).2))) rfl rfl rfl (wf_i64 (by first | omega | (simp; done) | (simp; omega)))) ?_
                refine Ls_y (wtd0 rfl) rfl rfl (y_move rfl rfl) ?_
                refine Ls_y (wtd0 rfl) rfl rfl (y_sub (c := (((plen_m ((pdrop_m Tg1 ((ix l s11).i)).2)) + s8) + (plost_m ((pdrop_m Tg1 ((ix l s11).i)).2))) - s9) rfl rfl rfl (wf_i64 (by first | omega | (simp; done) | (simp; omega)))) ?_
                refine Ls_y (wtd0 rfl) rfl rfl (y_ne rfl rfl rfl) ?_
                refine Ls_nil (Th_n (hK40 _ _ ?_))
                have hd11 : s7 = ((((plen_m ((pdrop_m Tg1 ((ix l s11).i)).2)) + s8) + (plost_m ((pdrop_m Tg1 ((ix l s11).i)).2))) - s9) := by
                  exact hciN.len
                refine Wp_cond rfl (fun hc22 => absurd hc22 (by first | (simp [hd11]; done) | (rw [hd11]; simp; done) | simpa using hd11)) (fun _ => ?_)
                refine Wp_skip (Ib_n (Th_n (hK15 _ _ ?_)))
                refine Wp_region ?_
                refine Ls_y (wtd0 rfl) rfl rfl (y_move rfl rfl) ?_
                refine Ls_y (wtd0 rfl) rfl rfl (y_add (c := s11 + 1) rfl rfl rfl (wf_i64 (by first | omega | (simp; done) | (simp; omega)))) ?_
                refine Ls_y (wtd0 rfl) rfl rfl (y_assign rfl rfl) ?_
                refine Ls_nil (Th_n (?_))
                exact ⟨fuel, [(1, _), (5, _), (7, _), (8, _), (9, _), (10, _), (11, _)], Nat.lt_succ_self _, ⟨rfl, rfl, rfl, rfl, rfl, rfl, rfl, trivial⟩, s7, s8, s9, (s11 + 1), ((pdrop_m Tg1 ((ix l s11).i)).2), mg2, A4, c4, sp4, es_mg2, cl_mg2, rfl, by first | omega | (simp; done) | (simp; omega), by exact ⟨by omega, by omega, hciN⟩, hok4, hfo4, hmapmg2, (st.picks [2, 3, 0] (by decide)).pickK [0], hF⟩
              · have hc21 : ¬ (((ix l s11).kind) = 2) := by first | simpa using hc21 | (intro hh; rw [hh] at hc21; cases hc21)
                refine Wp_seq fun K41 hK41 => ?_
                refine Wp_region ?_
                refine Ls_y (wtd0 rfl) rfl rfl (y_eq rfl rfl rfl) ?_
                refine Ls_y (wtd0 rfl) rfl rfl (y_assign rfl rfl) ?_
                refine Ls_nil (Th_n (hK41 _ _ ?_))
                refine Wp_cond rfl (fun hc23 => ?_) (fun hc23 => ?_)
                · have hc23 : ((ix l s11).kind) = 3 := by first | simpa using hc23 | (intro hh; rw [hh] at hc23; cases hc23)
                  refine Wp_seq fun K42 hK42 => ?_
                  refine Wp_region ?_
                  refine Ls_y (wtd0 rfl) rfl rfl (y_move rfl rfl) ?_
                  refine Ls_y (wtd0 rfl) rfl rfl (y_fld rfl rfl Ty.fo_48_2) ?_
                  refine Ls_y (wtd0 rfl) rfl rfl (y_load (i := 3) rfl rfl Ty.pl_3 (fun _ e => e ▸ st.hp) rfl rfl) ?_
                  refine Ls_a (wtd0 rfl) ?_
                  refine a_call rfl rfl rfl rfl (pdbl_ok (keys (pickL (hOf st) [2, 3]) ++ X) _ g1 A_Tg1 c_Tg1 sp_Tg1 Tg1 hokTg1 ((ix l s11).i) (st.sub [2, 3] [0, 1] [] (by decide))) (fun v w31 ⟨A5, c5, sp5, hv, hok5, hN5, hfO4, hkc5⟩ => ?_)
                  subst hv
                  have hfo5 : ∀ k ∈ keys [(some g1, Cl (ntC A5 c5 ((pdbl_m Tg1 ((ix l s11).i)).2)) 115), (blkOf A5, Cl (rowC ((pdbl_m Tg1 ((ix l s11).i)).2).row ++ sp5) 51)], k ∈ ([]) ∨ w.heap.size ≤ k := fun k hk => (hkc5 k (hk)).elim (fun h => (kc_app hfoTg1 (kc_n)) k h) (fun h => .inr (Nat.le_trans hF.size h))
                  have st := st.callS [2, 3] [0, 1] (by decide) rfl hN5 hfO4 hkc5
                  have hF := hF.step hfO4 (kc_app hfoTg1 (kc_n))
                  have st : St X w31 [(some g2, Obj.map es_mg2 cl_mg2), (some g3, Cl [.int .i64 ((ix l s11).kind), .int .i64 ((ix l s11).m.f), .int .i64 ((ix l s11).m.t), sv ((ix l s11).m.s), .int .i64 ((ix l s11).i), .int .i64 ((ix l s11).n)] 48), (some g1, Cl (ntC A5 c5 ((pdbl_m Tg1 ((ix l s11).i)).2)) 115), (blkOf A5, Cl (rowC ((pdbl_m Tg1 ((ix l s11).i)).2).row ++ sp5) 51)] [kS (some ⟨gi1, bi1, none⟩) l.length c_l 6 (l.flatMap opMC)] := st
                  refine Ls_y (wtd0 rfl) rfl rfl (y_eq rfl rfl rfl) ?_
                  refine Ls_nil (Th_n (hK42 _ _ ?_))
                  refine Wp_cond rfl (fun hc24 => ?_) (fun hc24 => ?_)
                  · have hc24 : ((pdbl_m Tg1 ((ix l s11).i)).1) = 0 := by first | simpa using hc24 | (intro hh; rw [hh] at hc24; cases hc24)
                    have hciN := hci.dblOk hc24
                    have hbN := hciN.bnd
                    refine Wp_region ?_
                    refine Ls_y (wtd0 rfl) rfl rfl (y_move rfl rfl) ?_
                    refine Ls_y (wtd0 rfl) rfl rfl (y_add (c := s7 + 1) rfl rfl rfl (wf_i64 (by first | omega | (simp; done) | (simp; omega)))) ?_
                    refine Ls_y (wtd0 rfl) rfl rfl (y_assign rfl rfl) ?_
                    refine Ls_nil (Ib_n (Th_n (hK20 _ _ ?_)))
                    refine Wp_seq fun K43 hK43 => ?_
                    refine Wp_region ?_
                    refine Ls_y (wtd0 rfl) rfl rfl (y_move rfl rfl) ?_
                    refine Ls_y (wtd0 rfl) rfl rfl (y_move rfl rfl) ?_
                    refine Ls_a (wtd0 rfl) ?_
                    refine a_call rfl rfl rfl rfl (plen_ok (keys (pickL (hOf st) [0, 1]) ++ X) _ g1 A5 c5 sp5 ((pdbl_m Tg1 ((ix l s11).i)).2) hok5 (st.sub [0, 1] [2, 3] [] (by decide))) (fun v w32 ⟨hv, hf⟩ => ?_)
                    subst hv
                    have st := st.keep0 hf
                    have hF := hF.step0 hf
                    have st : St X w32 [(some g2, Obj.map es_mg2 cl_mg2), (some g3, Cl [.int .i64 ((ix l s11).kind), .int .i64 ((ix l s11).m.f), .int .i64 ((ix l s11).m.t), sv ((ix l s11).m.s), .int .i64 ((ix l s11).i), .int .i64 ((ix l s11).n)] 48), (some g1, Cl (ntC A5 c5 ((pdbl_m Tg1 ((ix l s11).i)).2)) 115), (blkOf A5, Cl (rowC ((pdbl_m Tg1 ((ix l s11).i)).2).row ++ sp5) 51)] [kS (some ⟨gi1, bi1, none⟩) l.length c_l 6 (l.flatMap opMC)] := st
                    refine Ls_y (wtd0 rfl) rfl rfl (y_move rfl rfl) ?_
                    refine Ls_y (wtd0 rfl) rfl rfl (y_add (c := (plen_m ((pdbl_m Tg1 ((ix l s11).i)).2)) + s8) rfl rfl rfl (wf_i64 (by first | omega | (simp; done) | (simp; omega)))) ?_
                    refine Ls_y (wtd0 rfl) rfl rfl (y_move rfl rfl) ?_
                    refine Ls_a (wtd0 rfl) ?_
                    refine a_call rfl rfl rfl rfl (plost_ok (keys (pickL (hOf st) [0, 1]) ++ X) _ g1 A5 c5 sp5 ((pdbl_m Tg1 ((ix l s11).i)).2) hok5 (st.sub [0, 1] [2, 3] [] (by decide))) (fun v w33 ⟨hv, hf⟩ => ?_)
                    subst hv
                    have st := st.keep0 hf
                    have hF := hF.step0 hf
                    have st : St X w33 [(some g2, Obj.map es_mg2 cl_mg2), (some g3, Cl [.int .i64 ((ix l s11).kind), .int .i64 ((ix l s11).m.f), .int .i64 ((ix l s11).m.t), sv ((ix l s11).m.s), .int .i64 ((ix l s11).i), .int .i64 ((ix l s11).n)] 48), (some g1, Cl (ntC A5 c5 ((pdbl_m Tg1 ((ix l s11).i)).2)) 115), (blkOf A5, Cl (rowC ((pdbl_m Tg1 ((ix l s11).i)).2).row ++ sp5) 51)] [kS (some ⟨gi1, bi1, none⟩) l.length c_l 6 (l.flatMap opMC)] := st
                    refine Ls_y (wtd0 rfl) rfl rfl (y_add (c := ((plen_m ((pdbl_m Tg1 ((ix l s11).i)).2)) + s8) + (plost_m ((pdbl_m Tg1 ((ix l s11).i)).2))) rfl rfl rfl (wf_i64 (by first | omega | (simp; done) | (simp; omega)))) ?_
                    refine Ls_y (wtd0 rfl) rfl rfl (y_move rfl rfl) ?_
                    refine Ls_y (wtd0 rfl) rfl rfl (y_sub (c := (((plen_m ((pdbl_m Tg1 ((ix l s11).i)).2)) + s8) + (plost_m ((pdbl_m Tg1 ((ix l s11).i)).2))) - s9) rfl rfl rfl (wf_i64 (by first | omega | (simp; done) | (simp; omega)))) ?_
                    refine Ls_y (wtd0 rfl) rfl rfl (y_ne rfl rfl rfl) ?_
                    refine Ls_nil (Th_n (hK43 _ _ ?_))
                    have hd12 : (s7 + 1) = ((((plen_m ((pdbl_m Tg1 ((ix l s11).i)).2)) + s8) + (plost_m ((pdbl_m Tg1 ((ix l s11).i)).2))) - s9) := by
                      exact hciN.len
                    refine Wp_cond rfl (fun hc25 => absurd hc25 (by first | (simp [hd12]; done) | (rw [hd12]; simp; done) | simpa using hd12)) (fun _ => ?_)
                    refine Wp_skip (Ib_n (Th_n (hK15 _ _ ?_)))
                    refine Wp_region ?_
                    refine Ls_y (wtd0 rfl) rfl rfl (y_move rfl rfl) ?_
                    refine Ls_y (wtd0 rfl) rfl rfl (y_add (c := s11 + 1) rfl rfl rfl (wf_i64 (by first | omega | (simp; done) | (simp; omega)))) ?_
                    refine Ls_y (wtd0 rfl) rfl rfl (y_assign rfl rfl) ?_
                    refine Ls_nil (Th_n (?_))
                    exact ⟨fuel, [(1, _), (5, _), (7, _), (8, _), (9, _), (10, _), (11, _)], Nat.lt_succ_self _, ⟨rfl, rfl, rfl, rfl, rfl, rfl, rfl, trivial⟩, (s7 + 1), s8, s9, (s11 + 1), ((pdbl_m Tg1 ((ix l s11).i)).2), mg2, A5, c5, sp5, es_mg2, cl_mg2, rfl, by first | omega | (simp; done) | (simp; omega), by exact ⟨by omega, by omega, hciN⟩, hok5, hfo5, hmapmg2, (st.picks [2, 3, 0] (by decide)).pickK [0], hF⟩
                  · have hc24 : ¬ (((pdbl_m Tg1 ((ix l s11).i)).1) = 0) := by first | simpa using hc24 | (intro hh; rw [hh] at hc24; cases hc24)
                    have hciN := hci.dblNo hc24
                    have hbN := hciN.bnd
                    refine Wp_skip (Ib_n (Th_n (hK20 _ _ ?_)))
                    refine Wp_seq fun K44 hK44 => ?_
                    refine Wp_region ?_
                    refine Ls_y (wtd0 rfl) rfl rfl (y_move rfl rfl) ?_
                    refine Ls_y (wtd0 rfl) rfl rfl (y_move rfl rfl) ?_
                    refine Ls_a (wtd0 rfl) ?_
                    refine a_call rfl rfl rfl rfl (plen_ok (keys (pickL (hOf st) [0, 1]) ++ X) _ g1 A5 c5 sp5 ((pdbl_m Tg1 ((ix l s11).i)).2) hok5 (st.sub [0, 1] [2, 3] [] (by decide))) (fun v w34 ⟨hv, hf⟩ => ?_)
                    subst hv
                    have st := st.keep0 hf
                    have hF := hF.step0 hf
                    have st : St X w34 [(some g2, Obj.map es_mg2 cl_mg2), (some g3, Cl [.int .i64 ((ix l s11).kind), .int .i64 ((ix l s11).m.f), .int .i64 ((ix l s11).m.t), sv ((ix l s11).m.s), .int .i64 ((ix l s11).i), .int .i64 ((ix l s11).n)] 48), (some g1, Cl (ntC A5 c5 ((pdbl_m Tg1 ((ix l s11).i)).2)) 115), (blkOf A5, Cl (rowC ((pdbl_m Tg1 ((ix l s11).i)).2).row ++ sp5) 51)] [kS (some ⟨gi1, bi1, none⟩) l.length c_l 6 (l.flatMap opMC)] := st
                    refine Ls_y (wtd0 rfl) rfl rfl (y_move rfl rfl) ?_
                    refine Ls_y (wtd0 rfl) rfl rfl (y_add (c := (plen_m ((pdbl_m Tg1 ((ix l s11).i)).2)) + s8) rfl rfl rfl (wf_i64 (by first | omega | (simp; done) | (simp; omega)))) ?_
                    refine Ls_y (wtd0 rfl) rfl rfl (y_move rfl rfl) ?_
                    refine Ls_a (wtd0 rfl) ?_
                    refine a_call rfl rfl rfl rfl (plost_ok (keys (pickL (hOf st) [0, 1]) ++ X) _ g1 A5 c5 sp5 ((pdbl_m Tg1 ((ix l s11).i)).2) hok5 (st.sub [0, 1] [2, 3] [] (by decide))) (fun v w35 ⟨hv, hf⟩ => ?_)
                    subst hv
                    have st := st.keep0 hf
                    have hF := hF.step0 hf
                    have st : St X w35 [(some g2, Obj.map es_mg2 cl_mg2), (some g3, Cl [.int .i64 ((ix l s11).kind), .int .i64 ((ix l s11).m.f), .int .i64 ((ix l s11).m.t), sv ((ix l s11).m.s), .int .i64 ((ix l s11).i), .int .i64 ((ix l s11).n)] 48), (some g1, Cl (ntC A5 c5 ((pdbl_m Tg1 ((ix l s11).i)).2)) 115), (blkOf A5, Cl (rowC ((pdbl_m Tg1 ((ix l s11).i)).2).row ++ sp5) 51)] [kS (some ⟨gi1, bi1, none⟩) l.length c_l 6 (l.flatMap opMC)] := st
                    refine Ls_y (wtd0 rfl) rfl rfl (y_add (c := ((plen_m ((pdbl_m Tg1 ((ix l s11).i)).2)) + s8) + (plost_m ((pdbl_m Tg1 ((ix l s11).i)).2))) rfl rfl rfl (wf_i64 (by first | omega | (simp; done) | (simp; omega)))) ?_
                    refine Ls_y (wtd0 rfl) rfl rfl (y_move rfl rfl) ?_
                    refine Ls_y (wtd0 rfl) rfl rfl (y_sub (c := (((plen_m ((pdbl_m Tg1 ((ix l s11).i)).2)) + s8) + (plost_m ((pdbl_m Tg1 ((ix l s11).i)).2))) - s9) rfl rfl rfl (wf_i64 (by first | omega | (simp; done) | (simp; omega)))) ?_
                    refine Ls_y (wtd0 rfl) rfl rfl (y_ne rfl rfl rfl) ?_
                    refine Ls_nil (Th_n (hK44 _ _ ?_))
                    have hd13 : s7 = ((((plen_m ((pdbl_m Tg1 ((ix l s11).i)).2)) + s8) + (plost_m ((pdbl_m Tg1 ((ix l s11).i)).2))) - s9) := by
                      exact hciN.len
                    refine Wp_cond rfl (fun hc26 => absurd hc26 (by first | (simp [hd13]; done) | (rw [hd13]; simp; done) | simpa using hd13)) (fun _ => ?_)
                    refine Wp_skip (Ib_n (Th_n (hK15 _ _ ?_)))
                    refine Wp_region ?_
                    refine Ls_y (wtd0 rfl) rfl rfl (y_move rfl rfl) ?_
                    refine Ls_y (wtd0 rfl) rfl rfl (y_add (c := s11 + 1) rfl rfl rfl (wf_i64 (by first | omega | (simp; done) | (simp; omega)))) ?_
                    refine Ls_y (wtd0 rfl) rfl rfl (y_assign rfl rfl) ?_
                    refine Ls_nil (Th_n (?_))
                    exact ⟨fuel, [(1, _), (5, _), (7, _), (8, _), (9, _), (10, _), (11, _)], Nat.lt_succ_self _, ⟨rfl, rfl, rfl, rfl, rfl, rfl, rfl, trivial⟩, s7, s8, s9, (s11 + 1), ((pdbl_m Tg1 ((ix l s11).i)).2), mg2, A5, c5, sp5, es_mg2, cl_mg2, rfl, by first | omega | (simp; done) | (simp; omega), by exact ⟨by omega, by omega, hciN⟩, hok5, hfo5, hmapmg2, (st.picks [2, 3, 0] (by decide)).pickK [0], hF⟩
                · have hc23 : ¬ (((ix l s11).kind) = 3) := by first | simpa using hc23 | (intro hh; rw [hh] at hc23; cases hc23)
                  refine Wp_region ?_
                  refine Ls_y (wtd0 rfl) rfl rfl (y_move rfl rfl) ?_
                  refine Ls_y (wtd0 rfl) rfl rfl (y_fld rfl rfl Ty.fo_48_2) ?_
                  refine Ls_y (wtd0 rfl) rfl rfl (y_load (i := 3) rfl rfl Ty.pl_3 (fun _ e => e ▸ st.hp) rfl rfl) ?_
                  refine Ls_y (wtd0 rfl) rfl rfl (y_fld rfl rfl Ty.fo_48_3) ?_
                  refine Ls_y (wtd0 rfl) rfl rfl (y_load (i := 3) rfl rfl Ty.pl_3 (fun _ e => e ▸ st.hp) rfl rfl) ?_
                  refine Ls_a (wtd0 rfl) ?_
                  refine a_call rfl rfl rfl rfl (ppaint_ok (keys (pickL (hOf st) [2, 3]) ++ X) _ g1 A_Tg1 c_Tg1 sp_Tg1 Tg1 hokTg1 ((ix l s11).i) ((ix l s11).n) (st.sub [2, 3] [0, 1] [] (by decide))) (fun v w36 ⟨A6, c6, sp6, hv, hok6, hN6, hfO5, hkc6⟩ => ?_)
                  subst hv
                  have hfo6 : ∀ k ∈ keys [(some g1, Cl (ntC A6 c6 ((ppaint_m Tg1 ((ix l s11).i) ((ix l s11).n)).2)) 115), (blkOf A6, Cl (rowC ((ppaint_m Tg1 ((ix l s11).i) ((ix l s11).n)).2).row ++ sp6) 51)], k ∈ ([]) ∨ w.heap.size ≤ k := fun k hk => (hkc6 k (hk)).elim (fun h => (kc_app hfoTg1 (kc_n)) k h) (fun h => .inr (Nat.le_trans hF.size h))
                  have st := st.callS [2, 3] [0, 1] (by decide) rfl hN6 hfO5 hkc6
                  have hF := hF.step hfO5 (kc_app hfoTg1 (kc_n))
                  have st : St X w36 [(some g2, Obj.map es_mg2 cl_mg2), (some g3, Cl [.int .i64 ((ix l s11).kind), .int .i64 ((ix l s11).m.f), .int .i64 ((ix l s11).m.t), sv ((ix l s11).m.s), .int .i64 ((ix l s11).i), .int .i64 ((ix l s11).n)] 48), (some g1, Cl (ntC A6 c6 ((ppaint_m Tg1 ((ix l s11).i) ((ix l s11).n)).2)) 115), (blkOf A6, Cl (rowC ((ppaint_m Tg1 ((ix l s11).i) ((ix l s11).n)).2).row ++ sp6) 51)] [kS (some ⟨gi1, bi1, none⟩) l.length c_l 6 (l.flatMap opMC)] := st
                  have hciN := hci.paint (ix l s11).i (ix l s11).n
                  have hbN := hciN.bnd
                  refine Ls_nil (Ib_n (Th_n (hK20 _ _ ?_)))
                  refine Wp_seq fun K45 hK45 => ?_
                  refine Wp_region ?_
                  refine Ls_y (wtd0 rfl) rfl rfl (y_move rfl rfl) ?_
                  refine Ls_y (wtd0 rfl) rfl rfl (y_move rfl rfl) ?_
                  refine Ls_a (wtd0 rfl) ?_
                  refine a_call rfl rfl rfl rfl (plen_ok (keys (pickL (hOf st) [0, 1]) ++ X) _ g1 A6 c6 sp6 ((ppaint_m Tg1 ((ix l s11).i) ((ix l s11).n)).2) hok6 (st.sub [0, 1] [2, 3] [] (by decide))) (fun v w37 ⟨hv, hf⟩ => ?_)
                  subst hv
                  have st := st.keep0 hf
                  have hF := hF.step0 hf
                  have st : St X w37 [(some g2, Obj.map es_mg2 cl_mg2), (some g3, Cl [.int .i64 ((ix l s11).kind), .int .i64 ((ix l s11).m.f), .int .i64 ((ix l s11).m.t), sv ((ix l s11).m.s), .int .i64 ((ix l s11).i), .int .i64 ((ix l s11).n)] 48), (some g1, Cl (ntC A6 c6 ((ppaint_m Tg1 ((ix l s11).i) ((ix l s11).n)).2)) 115), (blkOf A6, Cl (rowC ((ppaint_m Tg1 ((ix l s11).i) ((ix l s11).n)).2).row ++ sp6) 51)] [kS (some ⟨gi1, bi1, none⟩) l.length c_l 6 (l.flatMap opMC)] := st
                  refine Ls_y (wtd0 rfl) rfl rfl (y_move rfl rfl) ?_
                  refine Ls_y (wtd0 rfl) rfl rfl (y_add (c := (plen_m ((ppaint_m Tg1 ((ix l s11).i) ((ix l s11).n)).2)) + s8) rfl rfl rfl (wf_i64 (by first | omega | (simp; done) | (simp; omega)))) ?_
                  refine Ls_y (wtd0 rfl) rfl rfl (y_move rfl rfl) ?_
                  refine Ls_a (wtd0 rfl) ?_
                  refine a_call rfl rfl rfl rfl (plost_ok (keys (pickL (hOf st) [0, 1]) ++ X) _ g1 A6 c6 sp6 ((ppaint_m Tg1 ((ix l s11).i) ((ix l s11).n)).2) hok6 (st.sub [0, 1] [2, 3] [] (by decide))) (fun v w38 ⟨hv, hf⟩ => ?_)
                  subst hv
                  have st := st.keep0 hf
                  have hF := hF.step0 hf
                  have st : St X w38 [(some g2, Obj.map es_mg2 cl_mg2), (some g3, Cl [.int .i64 ((ix l s11).kind), .int .i64 ((ix l s11).m.f), .int .i64 ((ix l s11).m.t), sv ((ix l s11).m.s), .int .i64 ((ix l s11).i), .int .i64 ((ix l s11).n)] 48), (some g1, Cl (ntC A6 c6 ((ppaint_m Tg1 ((ix l s11).i) ((ix l s11).n)).2)) 115), (blkOf A6, Cl (rowC ((ppaint_m Tg1 ((ix l s11).i) ((ix l s11).n)).2).row ++ sp6) 51)] [kS (some ⟨gi1, bi1, none⟩) l.length c_l 6 (l.flatMap opMC)] := st
                  refine Ls_y (wtd0 rfl) rfl rfl (y_add (c := ((plen_m ((ppaint_m Tg1 ((ix l s11).i) ((ix l s11).n)).2)) + s8) + (plost_m ((ppaint_m Tg1 ((ix l s11).i) ((ix l s11).n)).2))) rfl rfl rfl (wf_i64 (by first | omega | (simp; done) | (simp; omega)))) ?_
                  refine Ls_y (wtd0 rfl) rfl rfl (y_move rfl rfl) ?_
                  refine Ls_y (wtd0 rfl) rfl rfl (y_sub (c := (((plen_m ((ppaint_m Tg1 ((ix l s11).i) ((ix l s11).n)).2)) + s8) + (plost_m ((ppaint_m Tg1 ((ix l s11).i) ((ix l s11).n)).2))) - s9) rfl rfl rfl (wf_i64 (by first | omega | (simp; done) | (simp; omega)))) ?_
                  refine Ls_y (wtd0 rfl) rfl rfl (y_ne rfl rfl rfl) ?_
                  refine Ls_nil (Th_n (hK45 _ _ ?_))
                  have hd14 : s7 = ((((plen_m ((ppaint_m Tg1 ((ix l s11).i) ((ix l s11).n)).2)) + s8) + (plost_m ((ppaint_m Tg1 ((ix l s11).i) ((ix l s11).n)).2))) - s9) := by
                    exact hciN.len
                  refine Wp_cond rfl (fun hc27 => absurd hc27 (by first | (simp [hd14]; done) | (rw [hd14]; simp; done) | simpa using hd14)) (fun _ => ?_)
                  refine Wp_skip (Ib_n (Th_n (hK15 _ _ ?_)))
                  refine Wp_region ?_
                  refine Ls_y (wtd0 rfl) rfl rfl (y_move rfl rfl) ?_
                  refine Ls_y (wtd0 rfl) rfl rfl (y_add (c := s11 + 1) rfl rfl rfl (wf_i64 (by first | omega | (simp; done) | (simp; omega)))) ?_
                  refine Ls_y (wtd0 rfl) rfl rfl (y_assign rfl rfl) ?_
                  refine Ls_nil (Th_n (?_))
                  exact ⟨fuel, [(1, _), (5, _), (7, _), (8, _), (9, _), (10, _), (11, _)], Nat.lt_succ_self _, ⟨rfl, rfl, rfl, rfl, rfl, rfl, rfl, trivial⟩, s7, s8, s9, (s11 + 1), ((ppaint_m Tg1 ((ix l s11).i) ((ix l s11).n)).2), mg2, A6, c6, sp6, es_mg2, cl_mg2, rfl, by first | omega | (simp; done) | (simp; omega), by exact ⟨by omega, by omega, hciN⟩, hok6, hfo6, hmapmg2, (st.picks [2, 3, 0] (by decide)).pickK [0], hF⟩
      · have hc4 : ¬ (s11 < 100) := by first | simpa using hc4 | (intro hh; rw [hh] at hc4; cases hc4)
        refine Wp_exit (Th_e (Th_e (Ib_hit (Th_n (?_)))))
        exact hout1 _ [(1, _), (5, _), (7, _), (8, _), (9, _), (10, _), (11, _)] _ ⟨rfl, rfl, rfl, rfl, rfl, rfl, rfl, trivial⟩ ⟨s7, s8, s9, s11, Tg1, mg2, A_Tg1, c_Tg1, sp_Tg1, es_mg2, cl_mg2, rfl, by exact ⟨hi0, hi1, hci⟩, hokTg1, hfoTg1, hmapmg2, (st.picks [0, 1, 2] (by decide)).pickK [0], hF⟩
    · have hc3 : ¬ (s11 < (l.length : Int)) := by first | simpa using hc3 | (intro hh; rw [hh] at hc3; cases hc3)
      refine Ls_s (wtdF rfl rfl rfl) rfl rfl ?_
      refine Ls_s (wtdF rfl rfl rfl) rfl rfl ?_
      refine Ls_y (wtd0 rfl) rfl rfl (y_pick_f rfl rfl rfl) ?_
      refine Ls_nil (Th_n (hK14 _ _ ?_))
      refine Wp_cond_f rfl ?_
      refine Wp_exit (Th_e (Th_e (Ib_hit (Th_n (?_)))))
      exact hout1 _ [(1, _), (5, _), (7, _), (8, _), (9, _), (10, _), (11, _)] _ ⟨rfl, rfl, rfl, rfl, rfl, rfl, rfl, trivial⟩ ⟨s7, s8, s9, s11, Tg1, mg2, A_Tg1, c_Tg1, sp_Tg1, es_mg2, cl_mg2, rfl, by exact ⟨hi0, hi1, hci⟩, hokTg1, hfoTg1, hmapmg2, (st.picks [0, 1, 2] (by decide)).pickK [0], hF⟩

end Go.Proofs.Ytikdpkhcegjmfaa

/- Walks printed by gen2.py out of our own specifications: what the functions named below do. -/
import Derived.Test.YtikdpkhcegjmfaaT3
set_option linter.unusedSimpArgs false
set_option linter.unusedVariables false
namespace Go.Proofs.Ytikdpkhcegjmfaa
open Go.RowKit


theorem eraseIdx_td {α : Type} (l : List α) (k : Nat) : l.eraseIdx k = l.take k ++ l.drop (k + 1) := by
  rw [List.eraseIdx_eq_take_drop_succ]
theorem rout_row {t : NetM} {i : Int} (h : 0 ≤ i) : (rout_m t i).l = t.l.eraseIdx i.toNat ∧ (rout_m t i).c = t.c ∧ (rout_m t i).count = t.count := by
  refine ⟨?_, rfl, rfl⟩
  rw [eraseIdx_td, show i.toNat + 1 = (i + 1).toNat by omega]
  simp [rout_m]
theorem pat_fst {T : Nt} {t : NetM} (h : Rel T t) (i : Int) : atM T i = (rat_m t i).1 := congrArg Prod.fst (rel_at h i)
theorem pat_snd {T : Nt} {t : NetM} (h : Rel T t) (i : Int) : atE T i = (rat_m t i).2 := congrArg Prod.snd (rel_at h i)
theorem atE_in {T : Nt} {i : Int} : atE T i = 0 ↔ inB T i = true := by unfold atE; split <;> simp_all
theorem rel_take {T : Nt} {t : NetM} (h : Rel T t) (i : Int) : (ptake_m T i).1 = (rtake_m t i).1 ∧ (ptake_m T i).2.1 = (rtake_m t i).2.1 ∧ Rel (ptake_m T i).2.2 (rtake_m t i).2.2 := by
  have h1 := pat_fst h i
  have h2 := pat_snd h i
  have h3 := rel_apart h (rat_m t i).1.f (rat_m t i).1.t
  unfold papart_m at h3
  have key : takeE T i = (rtake_m t i).2.1 := by
    unfold takeE rtake_m
    rw [h1, h3]
    by_cases e : (rat_m t i).2 = 0
    · rw [if_pos e, if_neg (by rw [← h2] at e; simp [atE_in.1 e])]
      split <;> simp_all
    · rw [if_neg e, if_pos (by rw [← h2, atE_in] at e; simpa using e)]
      have : inB T i = false := by rw [← h2, atE_in] at e; simpa using e
      rw [← h2]; simp [atE, this]
  refine ⟨?_, key, ?_⟩
  · show takeM T i = _
    unfold takeM
    rw [key, h1]
    unfold rtake_m
    by_cases e : (rat_m t i).2 = 0
    · rw [if_pos e]
      split <;> simp_all [msg0]
    · rw [if_neg e]
      simp [e, msg0]
  · show Rel (takeT T i) _
    unfold takeT
    rw [key]
    unfold rtake_m
    by_cases e : (rat_m t i).2 = 0
    · rw [if_pos e]
      obtain ⟨a, b, c⟩ := rout_row (t := t) (rat_fine e).1
      split
      · split
        · rename_i hh; simp at hh
        · exact h
      · split
        · exact ⟨h.1, h.2.1, by rw [h.2.2.1, ← a], h.2.2.2⟩
        · rename_i hh; simp at hh
    · rw [if_neg e]
      simp only [e, if_false]
      exact h
theorem rel_drop {T : Nt} {t : NetM} (h : Rel T t) (i : Int) : (pdrop_m T i).1 = (rdrop_m t i).1 ∧ Rel (pdrop_m T i).2 (rdrop_m t i).2 := by
  have h2 := pat_snd h i
  unfold pdrop_m rdrop_m dropT
  by_cases e : (rat_m t i).2 = 0
  · have hin : inB T i = true := by rw [← h2, atE_in] at e; exact e
    obtain ⟨a, b, c⟩ := rout_row (t := t) (rat_fine e).1
    rw [if_pos e, if_pos hin]
    exact ⟨h2, h.1, h.2.1, by simp only; rw [h.2.2.1, ← a], by simp only; rw [h.2.2.2, ← c]⟩
  · have hin : ¬ inB T i = true := by rw [← h2, atE_in] at e; exact e
    rw [if_neg e, if_neg hin]
    exact ⟨h2, h⟩
theorem rel_dbl {T : Nt} {t : NetM} (h : Rel T t) (i : Int) : (pdbl_m T i).1 = (rdouble_m t i).1 ∧ Rel (pdbl_m T i).2 (rdouble_m t i).2 := by
  have h1 := pat_fst h i
  have h2 := pat_snd h i
  have hl : T.row.length = t.l.length := by rw [h.2.2.1]
  have key : dblE T i = (rdouble_m t i).1 := by
    unfold dblE rdouble_m
    rw [hl]
    by_cases e : (rat_m t i).2 = 0
    · have hin : inB T i = true := by rw [← h2, atE_in] at e; exact e
      rw [if_pos e, if_neg (by simp [hin])]
      by_cases e2 : (128 : Int) ≤ (t.l.length : Int)
      · rw [if_pos e2, if_pos (by omega)]
      · rw [if_neg e2, if_neg (by omega)]
    · have hin : inB T i = false := by rw [← h2, atE_in] at e; simpa using e
      rw [if_neg e, if_pos hin, ← h2]
      simp [atE, hin]
  refine ⟨key, ?_⟩
  show Rel (dblT T i) _
  unfold dblT
  rw [key, h1]
  unfold rdouble_m
  by_cases e : (rat_m t i).2 = 0
  · rw [if_pos e]
    by_cases e2 : (128 : Int) ≤ (t.l.length : Int)
    · rw [if_pos e2]; simpa using h
    · rw [if_neg e2]
      simp only [if_true]
      exact ⟨h.1, h.2.1, by simp [h.2.2.1], h.2.2.2⟩
  · rw [if_neg e]
    simp only [e, if_false]
    exact h
theorem rel_paint {T : Nt} {t : NetM} (h : Rel T t) (i c : Int) : (ppaint_m T i c).1 = (rpaint_m t i c).1 ∧ Rel (ppaint_m T i c).2 (rpaint_m t i c).2 := by
  have hn : nodeB T i = rnode_m t i := by rw [h.ex]; exact rel_node i
  have key : paintE T i c = (rpaint_m t i c).1 := by
    unfold paintE rpaint_m
    rw [hn]
    by_cases e : rnode_m t i = true <;> by_cases e1 : c < 0 <;> by_cases e2 : 15 < c <;> simp [e, e1, e2] <;> omega
  refine ⟨key, ?_⟩
  show Rel (paintT T i c) _
  unfold paintT
  rw [key]
  unfold rpaint_m
  by_cases e : rnode_m t i = true
  · rw [if_pos e]
    by_cases e1 : c < 0
    · rw [if_pos e1]; simpa using h
    · rw [if_neg e1]
      by_cases e2 : 15 < c
      · rw [if_pos e2]; simpa using h
      · rw [if_neg e2]
        simp only [if_true]
        exact ⟨by simp [h.1], by simp [h.2.1], h.2.2.1, h.2.2.2⟩
  · rw [if_neg e]; simpa using h
theorem from31_id (m : MsgV) : from31_m m = m := rfl
theorem rel_same {T : Nt} {t : NetM} (h : Rel T t) : same31_m T t = true := by
  have key : ∀ (fuel : Nat) (k : Int), (t.l.length + 1 - k).toNat < fuel → ∃ q, same31_L1 T t fuel k = .inr q := by
    intro fuel
    induction fuel with
    | zero => intro k hk; omega
    | succ fuel ih =>
      intro k hk
      unfold same31_L1
      split
      · rw [from31_id, rel_at h k, if_pos rfl, if_pos rfl]
        exact ih _ (by omega)
      · exact ⟨_, rfl⟩
  unfold same31_m
  rw [if_pos (by unfold plen_m; rw [h.2.2.1]), if_pos (by unfold plost_m; exact h.2.2.2)]
  obtain ⟨q, hq⟩ := key ((t.l.length + 1 - (-1 : Int)).toNat + 1) (-1) (by omega)
  rw [hq]


theorem lost_send {T : Nt} (h : NtOk T) (m : MsgV) : (psend_m T m).2.lost ≤ T.lost + 1 := (sendT_ok h m).2
theorem lost_take {T : Nt} (h : NtOk T) (i : Int) : (ptake_m T i).2.2.lost = T.lost := (takeT_ok h i).2
theorem lost_drop {T : Nt} (h : NtOk T) (i : Int) : (pdrop_m T i).2.lost ≤ T.lost + 1 := (dropT_ok h i).2
theorem lost_dbl {T : Nt} (h : NtOk T) (i : Int) : (pdbl_m T i).2.lost = T.lost := (dblT_ok h i).2
theorem lost_paint {T : Nt} (h : NtOk T) (i c : Int) : (ppaint_m T i c).2.lost = T.lost := (paintT_ok h i c).2
theorem rel_new {n : Int} (hn : 1 ≤ n ∧ n ≤ 32) : Rel (pnew_m n).1 (mnew_m n).1 := by
  unfold pnew_m mnew_m newT
  exact ⟨rfl, by simp, rfl, rfl⟩
theorem Rel.row {T : Nt} {t : NetM} (h : Rel T t) (ht : NtOk T) : t.l.length ≤ 128 := by have := ht.row; rw [h.2.2.1] at this; exact this
theorem Rel.cnt {T : Nt} {t : NetM} (h : Rel T t) (ht : NtOk T) (hl : T.lost ≤ 1000000) : 0 ≤ t.count ∧ t.count ≤ 1000000 := by have := ht.l0; rw [h.2.2.2] at this hl; exact ⟨this, hl⟩

structure OpM where
  kind : Int
  m : MsgV
  i : Int
  n : Int
deriving DecidableEq, Inhabited
def opMC (x : OpM) : List Value := [.int .i64 x.kind, .int .i64 x.m.f, .int .i64 x.m.t, sv x.m.s, .int .i64 x.i, .int .i64 x.n]
theorem opMC_len (x : OpM) : (opMC x).length = 6 := rfl

set_option maxRecDepth 20000 in
set_option maxHeartbeats 4000000 in
theorem netDoes_ok (X : List Nat) (w : World) (hX : Lo X w) (n : Int) (l : List OpM) (A_l : Option Addr) (c_l : Nat) (h_l : Sld X w A_l l.length c_l 6 (l.flatMap opMC)) (hn : 1 ≤ n ∧ n ≤ 32) :
    Fn Try.prog 4 [.int .i64 n, .slice A_l l.length c_l] w fun v w' => v = .bool true ∧ Fr [] w w' := by
  refine Fn_of 191 Ty.en_4 Try.func4 rfl rfl rfl ?_
  dsimp only [argEnv]
  have st : St X w [] [kS A_l l.length c_l 6 (l.flatMap opMC)] := (St.nil (X := X) (w := w) hX).addK (kS A_l l.length c_l 6 (l.flatMap opMC)) h_l
  have hF := Fr.refl ([]) w
  have hleA_l := (st.k (i := 0) rfl).le
  refine Wp_seq fun K1 hK1 => ?_
  refine Wp_region ?_
  refine Ls_y (wtd0 rfl) rfl rfl (y_assign rfl rfl) ?_
  refine Ls_nil (Th_n (hK1 _ _ ?_))
  refine Wp_seq fun K2 hK2 => ?_
  refine Wp_region ?_
  refine Ls_y (wtd0 rfl) rfl rfl (y_move rfl rfl) ?_
  refine Ls_a (wtd0 rfl) ?_
  refine a_call rfl rfl rfl rfl (pnew_ok (keys (hOf st) ++ X) _ st.Lo n hn) (fun v w1 ⟨g1, A1, c1, sp1, hv, hok1, hN1, hf, hkc1⟩ => ?_)
  subst hv
  have hfo1 : ∀ k ∈ keys [(some g1, Cl (ntC A1 c1 ((pnew_m n).1)) 115), (blkOf A1, Cl (rowC ((pnew_m n).1).row ++ sp1) 51)], k ∈ ([]) ∨ w.heap.size ≤ k := fun k hk => .inr (Nat.le_trans hF.size (hkc1 k hk))
  have st := st.callN hN1 hf hkc1
  have hF := hF.step0 hf
  have st : St X w1 [(some g1, Cl (ntC A1 c1 ((pnew_m n).1)) 115), (blkOf A1, Cl (rowC ((pnew_m n).1).row ++ sp1) 51)] [kS A_l l.length c_l 6 (l.flatMap opMC)] := st
  refine Ls_y (wtd0 rfl) rfl rfl (y_move rfl rfl) ?_
  refine Ls_y (wtd0 rfl) rfl rfl (y_ext rfl rfl rfl) ?_
  refine Ls_y (wtd0 rfl) rfl rfl (y_ext rfl rfl rfl) ?_
  refine Ls_y (wtd0 rfl) rfl rfl (y_assign rfl rfl) ?_
  refine Ls_y (wtd0 rfl) rfl rfl (y_assign rfl rfl) ?_
  refine Ls_nil (Th_n (hK2 _ _ ?_))
  refine Wp_seq fun K3 hK3 => ?_
  refine Wp_region ?_
  refine Ls_y (wtd0 rfl) rfl rfl (y_move rfl rfl) ?_
  refine Ls_a (wtd0 rfl) ?_
  refine a_call rfl rfl rfl rfl (mnew_ok (keys (hOf st) ++ X) _ st.Lo n hn) (fun v w2 ⟨g2, Ao1, co1, spo1, Ao2, co2, hv, how1, hN2, hf, hkc2⟩ => ?_)
  subst hv
  have hg1 := Nat.le_trans hF.size (hkc2 g2 (by simp [keys]))
  have hnew1 : ∀ g, blkOf Ao1 = some g → g ∈ ([]) ∨ w.heap.size ≤ g := fun g hg => .inr (Nat.le_trans hF.size (hkc2 g (by simp [keys, hg])))
  have hlehow1 := Ow.le how1
  have st := st.callN hN2 hf hkc2
  have hF := hF.step0 hf
  have st : St X w2 [(some g1, Cl (ntC A1 c1 ((pnew_m n).1)) 115), (blkOf A1, Cl (rowC ((pnew_m n).1).row ++ sp1) 51), (some g2, Cl [.slice Ao1 (((mnew_m n).1).c.length) co1, .slice Ao2 (((mnew_m n).1).l.length) co2, .int .i64 (((mnew_m n).1).count)] 118), (blkOf Ao1, Cl ((((mnew_m n).1).c).flatMap (fun x => [Value.int .i64 x]) ++ spo1) 3)] [kS A_l l.length c_l 6 (l.flatMap opMC), kS Ao2 ((mnew_m n).1).l.length co2 3 (((mnew_m n).1).l.flatMap msgC)] := st
  refine Ls_y (wtd0 rfl) rfl rfl (y_move rfl rfl) ?_
  refine Ls_y (wtd0 rfl) rfl rfl (y_ext rfl rfl rfl) ?_
  refine Ls_y (wtd0 rfl) rfl rfl (y_ext rfl rfl rfl) ?_
  refine Ls_y (wtd0 rfl) rfl rfl (y_assign rfl rfl) ?_
  refine Ls_y (wtd0 rfl) rfl rfl (y_assign rfl rfl) ?_
  refine Ls_nil (Th_n (hK3 _ _ ?_))
  refine Wp_seq fun K4 hK4 => ?_
  refine Wp_seq fun K5 hK5 => ?_
  refine Wp_region ?_
  refine Ls_y (wtd0 rfl) rfl rfl (y_move rfl rfl) ?_
  refine Ls_y (wtd0 rfl) rfl rfl (y_move rfl rfl) ?_
  refine Ls_y (wtd0 rfl) rfl rfl (y_ne rfl rfl rfl) ?_
  refine Ls_y (wtd0 rfl) rfl rfl (y_move rfl rfl) ?_
  have hd1 : ((pnew_m n).2) = ((mnew_m n).2) := by
    rfl
  refine Ls_bool 29 rfl (fun hc1 => absurd hc1 (by simp [hd1])) (fun _ => ?_)
  refine Ls_y (wtdT rfl rfl rfl) rfl rfl (y_move rfl rfl) ?_
  refine Ls_y (wtdT rfl rfl rfl) rfl rfl (y_ne rfl rfl rfl) ?_
  refine Ls_y (wtd0 rfl) rfl rfl (y_pick_f rfl rfl rfl) ?_
  refine Ls_y (wtd0 rfl) rfl rfl (y_move rfl rfl) ?_
  have hd2 : ((pnew_m n).2) = 0 := by
    rfl
  refine Ls_bool 33 rfl (fun hc2 => absurd hc2 (by simp [hd2])) (fun _ => ?_)
  refine Ls_y (wtdT rfl rfl rfl) rfl rfl (y_move rfl rfl) ?_
  refine Ls_y (wtdT rfl rfl rfl) rfl rfl (y_eqnp rfl rfl rfl Try.underlying39) ?_
  refine Ls_y (wtd0 rfl) rfl rfl (y_pick_f rfl rfl rfl) ?_
  refine Ls_nil (Th_n (hK5 _ _ ?_))
  refine Wp_cond_f rfl ?_
  refine Wp_skip (Th_n (hK4 _ _ ?_))
  refine Wp_seq fun K6 hK6 => ?_
  refine Wp_seq fun K7 hK7 => ?_
  refine Wp_region ?_
  refine Ls_y (wtd0 rfl) rfl rfl (y_assign rfl rfl) ?_
  refine Ls_nil (Th_n (hK7 _ _ ?_))
  refine Wp_block ?_
  have st := st.addK (kS Ao2 ((mnew_m n).1).l.length co2 3 (((mnew_m n).1).l.flatMap msgC)) (st.k (i := 1) rfl)
  have st : St X _ [_, _, (_, Cl [_, _, _] _), _] [kS A_l l.length c_l 6 (l.flatMap opMC), kS Ao2 ((mnew_m n).1).l.length co2 3 (((mnew_m n).1).l.flatMap msgC), kS Ao2 ((mnew_m n).1).l.length co2 3 (((mnew_m n).1).l.flatMap msgC)] := st
  refine use_out hK6 (fun E W => ∃ (s9 : Int) (u2_0 : List Int) (u2_1 : List MsgV) (u2_2 : Int) (Tg1 : Nt) (Au2_0 : Option Addr) (cu2_0 : Nat) (spu2_0 : List Value) (Au2_1 : Option Addr) (cu2_1 : Nat) (A_Tg1 : Option Addr) (c_Tg1 : Nat) (sp_Tg1 : List Value), E = [(1, .slice A_l l.length c_l), (5, .pointer (some ⟨g1, 0, none⟩)), (7, .pointer (some ⟨g2, 0, none⟩)), (9, .int .i64 s9)] ∧ (0 ≤ s9 ∧ s9 ≤ 100 ∧ Rel Tg1 (⟨u2_0, u2_1, u2_2⟩ : NetM) ∧ Tg1.lost ≤ 10 * s9) ∧ Ow Au2_0 u2_0.length cu2_0 1 (u2_0.flatMap (fun x => [Value.int .i64 x])) spu2_0 ∧ (∀ g, blkOf Au2_0 = some g → g ∈ ([]) ∨ w.heap.size ≤ g) ∧ (NtOk Tg1 ∧ NpOk ⟨g1, A_Tg1, c_Tg1, sp_Tg1⟩ Tg1) ∧ (∀ k ∈ keys [(some g1, Cl (ntC A_Tg1 c_Tg1 Tg1) 115), (blkOf A_Tg1, Cl (rowC Tg1.row ++ sp_Tg1) 51)], k ∈ ([]) ∨ w.heap.size ≤ k) ∧ St X W [(some g1, Cl (ntC A_Tg1 c_Tg1 Tg1) 115), (blkOf A_Tg1, Cl (rowC Tg1.row ++ sp_Tg1) 51), (some g2, Cl [.slice Au2_0 u2_0.length cu2_0, .slice Au2_1 u2_1.length cu2_1, .int .i64 u2_2] 118), (blkOf Au2_0, Cl (u2_0.flatMap (fun x => [Value.int .i64 x]) ++ spu2_0) 3)] [kS A_l l.length c_l 6 (l.flatMap opMC), kS Ao2 ((mnew_m n).1).l.length co2 3 (((mnew_m n).1).l.flatMap msgC), kS Au2_1 u2_1.length cu2_1 3 (u2_1.flatMap msgC)] ∧ Fr ([]) w W) ?_ fun hout1 => ?_
  · rintro E w3 ⟨s9, u2_0, u2_1, u2_2, Tg1, Au2_0, cu2_0, spu2_0, Au2_1, cu2_1, A_Tg1, c_Tg1, sp_Tg1, rfl, hinv, howu2_0, newu2_0, hokTg1, hfoTg1, st, hF⟩
    refine Wp_seq fun K8 hK8 => ?_
    refine Wp_region ?_
    refine Ls_y (wtd0 rfl) rfl rfl (y_assign rfl rfl) ?_
    refine Ls_nil (Th_n (hK8 _ _ ?_))
    refine Wp_ret (Fq_ret (Res1 rfl rfl) ?_)
    exact ⟨rfl, hF⟩
  · refine Wp_loopE (fun m E W => ∃ (s9 : Int) (u2_0 : List Int) (u2_1 : List MsgV) (u2_2 : Int) (Tg1 : Nt) (Au2_0 : Option Addr) (cu2_0 : Nat) (spu2_0 : List Value) (Au2_1 : Option Addr) (cu2_1 : Nat) (A_Tg1 : Option Addr) (c_Tg1 : Nat) (sp_Tg1 : List Value), E = [(1, .slice A_l l.length c_l), (5, .pointer (some ⟨g1, 0, none⟩)), (7, .pointer (some ⟨g2, 0, none⟩)), (9, .int .i64 s9)] ∧ l.length - s9.toNat < m ∧ (0 ≤ s9 ∧ s9 ≤ 100 ∧ Rel Tg1 (⟨u2_0, u2_1, u2_2⟩ : NetM) ∧ Tg1.lost ≤ 10 * s9) ∧ Ow Au2_0 u2_0.length cu2_0 1 (u2_0.flatMap (fun x => [Value.int .i64 x])) spu2_0 ∧ (∀ g, blkOf Au2_0 = some g → g ∈ ([]) ∨ w.heap.size ≤ g) ∧ (NtOk Tg1 ∧ NpOk ⟨g1, A_Tg1, c_Tg1, sp_Tg1⟩ Tg1) ∧ (∀ k ∈ keys [(some g1, Cl (ntC A_Tg1 c_Tg1 Tg1) 115), (blkOf A_Tg1, Cl (rowC Tg1.row ++ sp_Tg1) 51)], k ∈ ([]) ∨ w.heap.size ≤ k) ∧ St X W [(some g1, Cl (ntC A_Tg1 c_Tg1 Tg1) 115), (blkOf A_Tg1, Cl (rowC Tg1.row ++ sp_Tg1) 51), (some g2, Cl [.slice Au2_0 u2_0.length cu2_0, .slice Au2_1 u2_1.length cu2_1, .int .i64 u2_2] 118), (blkOf Au2_0, Cl (u2_0.flatMap (fun x => [Value.int .i64 x]) ++ spu2_0) 3)] [kS A_l l.length c_l 6 (l.flatMap opMC), kS Ao2 ((mnew_m n).1).l.length co2 3 (((mnew_m n).1).l.flatMap msgC), kS Au2_1 u2_1.length cu2_1 3 (u2_1.flatMap msgC)] ∧ Fr ([]) w W) (l.length - (0 : Int).toNat + 1) [(1, _), (5, _), (7, _), (9, _)] ⟨rfl, rfl, rfl, rfl, trivial⟩ ?_ ?_
    · exact ⟨_, _, _, _, _, _, _, _, _, _, _, _, _, rfl, Nat.lt_succ_self _, by exact ⟨by omega, by omega, rel_new hn, by show (0 : Int) ≤ _; omega⟩, how1, hnew1, hok1, hfo1, st, hF⟩
    rintro m E w4 ⟨s9, u2_0, u2_1, u2_2, Tg1, Au2_0, cu2_0, spu2_0, Au2_1, cu2_1, A_Tg1, c_Tg1, sp_Tg1, rfl, hmu, hinv, howu2_0, newu2_0, hokTg1, hfoTg1, st, hF⟩
    obtain ⟨fuel, rfl⟩ : ∃ q, m = q + 1 := ⟨m - 1, by omega⟩
    have hlehowu2_0 := Ow.le howu2_0
    have hlek2 := (st.k (i := 2) rfl).le
    have hrel : Rel Tg1 (⟨u2_0, u2_1, u2_2⟩ : NetM) := hinv.2.2.1
    have hlost : Tg1.lost ≤ 10 * s9 := hinv.2.2.2
    have hi9 : 0 ≤ s9 ∧ s9 ≤ 100 := ⟨hinv.1, hinv.2.1⟩
    refine Wp_seq fun K9 hK9 => ?_
    refine Wp_seq fun K10 hK10 => ?_
    refine Wp_region ?_
    refine Ls_y (wtd0 rfl) rfl rfl (y_move rfl rfl) ?_
    refine Ls_y (wtd0 rfl) rfl rfl (y_move rfl rfl) ?_
    refine Ls_y (wtd0 rfl) rfl rfl (y_lenl rfl rfl Try.underlying38) ?_
    refine Ls_y (wtd0 rfl) rfl rfl (y_lt rfl rfl rfl) ?_
    refine Ls_y (wtd0 rfl) rfl rfl (y_move rfl rfl) ?_
    refine Ls_bool 52 rfl (fun hc3 => ?_) (fun hc3 => ?_)
    · have hc3 : s9 < (l.length : Int) := by simpa using hc3
      refine Ls_y (wtdT rfl rfl rfl) rfl rfl (y_move rfl rfl) ?_
      refine Ls_y (wtdT rfl rfl rfl) rfl rfl (y_lt rfl rfl rfl) ?_
      refine Ls_y (wtd0 rfl) rfl rfl (y_pick_t rfl rfl rfl) ?_
      refine Ls_nil (Th_n (hK10 _ _ ?_))
      refine Wp_cond rfl (fun hc4 => ?_) (fun hc4 => ?_)
      · have hc4 : s9 < 100 := by simpa using hc4
        refine Wp_skip (Th_n (hK9 _ _ ?_))
        refine Wp_seq fun K11 hK11 => ?_
        refine Wp_block ?_
        refine Wp_seq fun K12 hK12 => ?_
        refine Wp_region ?_
        refine Ls_y (wtd0 rfl) rfl rfl (y_move rfl rfl) ?_
        refine Ls_y (wtd0 rfl) rfl rfl (y_move rfl rfl) ?_
        obtain ⟨gi1, bi1, egi1⟩ := (st.k (i := 0) rfl).addr (fun _ => rfl) (by decide) (q := s9) (by first | omega | (simp; omega)) (by first | omega | (simp; omega))
        subst egi1
        refine Ls_y (wtd0 rfl) rfl rfl (y_ixa (q := s9) rfl rfl rfl Ty.es_38 (by first | omega | (simp; omega)) (by first | omega | (simp; omega))) ?_
        refine Ls_y (wtd0 rfl) rfl rfl (y_ldk (q := s9) rfl rfl Ty.ag_48 (fun _ e => e ▸ st.k (i := 0) rfl) (fun _ => rfl) (by first | omega | (simp; omega)) (by first | omega | (simp; omega))) ?_
        refine Ls_a (wtd0 rfl) ?_
        refine a_alloc rfl rfl rfl Ty.zc_48 st.hp (fun g3 w5 (hp : Hp w5 [_, _, (_, Cl [_, _, _] _), _, (_, Cl [_, _, _, _, _, _] _)]) hf hg2 => ?_)
        have st : St X w5 [_, _, (_, Cl [_, _, _] _), _, (_, Cl [_, _, _, _, _, _] _)] [kS (some ⟨gi1, bi1, none⟩) l.length c_l 6 (l.flatMap opMC), kS Ao2 ((mnew_m n).1).l.length co2 3 (((mnew_m n).1).l.flatMap msgC), kS Au2_1 u2_1.length cu2_1 3 (u2_1.flatMap msgC)] := st.push hp hf hg2
        have hg2 := Nat.le_trans hF.size hg2
        have hF := hF.step0 hf
        refine Ls_a (wtd0 rfl) ?_
        refine a_storew (i := 4) rfl rfl rfl rfl Ty.sz_48 rfl (by first | assumption | (simp [Value.oneCell', opMC]; done)) st.hp rfl rfl (fun w6 (hp : Hp w6 [_, _, (_, Cl [_, _, _] _), _, (_, Cl [_, _, _, _, _, _] _)]) hf _ => ?_)
        have st : St X w6 [_, _, (_, Cl [_, _, _] _), _, (_, Cl [_, _, _, _, _, _] _)] [kS (some ⟨gi1, bi1, none⟩) l.length c_l 6 (l.flatMap opMC), kS Ao2 ((mnew_m n).1).l.length co2 3 (((mnew_m n).1).l.flatMap msgC), kS Au2_1 u2_1.length cu2_1 3 (u2_1.flatMap msgC)] := st.set (i := 4) rfl hp hf
        have hF := hF.step hf (by intro y hy; simp only [List.mem_cons, List.not_mem_nil, or_false] at hy; subst hy; first | (exact Or.inr (by omega)) | (exact Or.inl (kin0 _ _)) | (exact Or.inl (by simp)))
        refine Ls_nil (Th_n (hK12 _ _ ?_))
        refine Wp_seq fun K13 hK13 => ?_
        refine Wp_seq fun K14 hK14 => ?_
        refine Wp_region ?_
        refine Ls_y (wtd0 rfl) rfl rfl (y_fld rfl rfl Ty.fo_48_1) ?_
        refine Ls_y (wtd0 rfl) rfl rfl (y_fld rfl rfl Ty.fo_46_2) ?_
        refine Ls_y (wtd0 rfl) rfl rfl (y_load (i := 4) rfl rfl Ty.pl_9 (fun _ e => e ▸ st.hp) rfl rfl) ?_
        refine Ls_y (wtd0 rfl) rfl rfl (y_lens rfl rfl Try.underlying9) ?_
        refine Ls_y (wtd0 rfl) rfl rfl (y_gt rfl rfl rfl) ?_
        refine Ls_nil (Th_n (hK14 _ _ ?_))
        refine Wp_cond rfl (fun hc5 => ?_) (fun hc5 => ?_)
        · have hc5 : 32777 < (((ix l s9).m.s).length : Int) := by simpa using hc5
          refine Wp_seq fun K15 hK15 => ?_
          refine Wp_region ?_
          refine Ls_y (wtd0 rfl) rfl rfl (y_assign rfl rfl) ?_
          refine Ls_nil (Th_n (hK15 _ _ ?_))
          refine Wp_ret (Th_r (Ib_r (Th_r (Th_r (Ib_r (Th_r (Fq_ret (Res1 rfl rfl) ?_)))))))
          exact ⟨rfl, hF⟩
        · have hc5 : ¬ (32777 < (((ix l s9).m.s).length : Int)) := by simpa using hc5
          refine Wp_skip (Th_n (hK13 _ _ ?_))
          refine Wp_seq fun K16 hK16 => ?_
          refine Wp_seq fun K17 hK17 => ?_
          refine Wp_region ?_
          refine Ls_y (wtd0 rfl) rfl rfl (y_fld rfl rfl Ty.fo_48_0) ?_
          refine Ls_y (wtd0 rfl) rfl rfl (y_load (i := 4) rfl rfl Ty.pl_3 (fun _ e => e ▸ st.hp) rfl rfl) ?_
          refine Ls_nil (Th_n (hK17 _ _ ?_))
          refine Wp_block ?_
          refine Wp_seq fun K18 hK18 => ?_
          refine Wp_region ?_
          refine Ls_y (wtd0 rfl) rfl rfl (y_eq rfl rfl rfl) ?_
          refine Ls_y (wtd0 rfl) rfl rfl (y_assign rfl rfl) ?_
          refine Ls_nil (Th_n (hK18 _ _ ?_))
          refine Wp_cond rfl (fun hc6 => ?_) (fun hc6 => ?_)
          · have hc6 : ((ix l s9).kind) = 0 := by simpa using hc6
            refine Wp_seq fun K19 hK19 => ?_
            refine Wp_region ?_
            refine Ls_y (wtd0 rfl) rfl rfl (y_assign rfl rfl) ?_
            refine Ls_nil (Th_n (hK19 _ _ ?_))
            refine Wp_block ?_
            have st := st.addK (kS Au2_1 u2_1.length cu2_1 3 (u2_1.flatMap msgC)) (st.k (i := 2) rfl)
            have st : St X _ [_, _, (_, Cl [_, _, _] _), _, (_, Cl [_, _, _, _, _, _] _)] [kS (some ⟨gi1, bi1, none⟩) l.length c_l 6 (l.flatMap opMC), kS Ao2 ((mnew_m n).1).l.length co2 3 (((mnew_m n).1).l.flatMap msgC), kS Au2_1 u2_1.length cu2_1 3 (u2_1.flatMap msgC), kS Au2_1 u2_1.length cu2_1 3 (u2_1.flatMap msgC)] := st
            refine use_out hK16 (fun E W => ∃ (s11 : Int) (u2_0' : List Int) (u2_1' : List MsgV) (u2_2' : Int) (Tg1' : Nt) (Au2_0' : Option Addr) (cu2_0' : Nat) (spu2_0' : List Value) (Au2_1' : Option Addr) (cu2_1' : Nat) (A_Tg1' : Option Addr) (c_Tg1' : Nat) (sp_Tg1' : List Value), E = [(1, .slice (some ⟨gi1, bi1, none⟩) l.length c_l), (5, .pointer (some ⟨g1, 0, none⟩)), (7, .pointer (some ⟨g2, 0, none⟩)), (9, .int .i64 s9), (10, .pointer (some ⟨g3, 0, none⟩)), (11, .int .i64 s11)] ∧ (0 ≤ s11 ∧ s11 ≤ 5 ∧ Rel Tg1' (⟨u2_0', u2_1', u2_2'⟩ : NetM) ∧ Tg1'.lost ≤ 10 * s9 + s11) ∧ Ow Au2_0' u2_0'.length cu2_0' 1 (u2_0'.flatMap (fun x => [Value.int .i64 x])) spu2_0' ∧ (∀ g, blkOf Au2_0' = some g → g ∈ ([]) ∨ w.heap.size ≤ g) ∧ (NtOk Tg1' ∧ NpOk ⟨g1, A_Tg1', c_Tg1', sp_Tg1'⟩ Tg1') ∧ (∀ k ∈ keys [(some g1, Cl (ntC A_Tg1' c_Tg1' Tg1') 115), (blkOf A_Tg1', Cl (rowC Tg1'.row ++ sp_Tg1') 51)], k ∈ ([]) ∨ w.heap.size ≤ k) ∧ St X W [(some g1, Cl (ntC A_Tg1' c_Tg1' Tg1') 115), (blkOf A_Tg1', Cl (rowC Tg1'.row ++ sp_Tg1') 51), (some g2, Cl [.slice Au2_0' u2_0'.length cu2_0', .slice Au2_1' u2_1'.length cu2_1', .int .i64 u2_2'] 118), (blkOf Au2_0', Cl (u2_0'.flatMap (fun x => [Value.int .i64 x]) ++ spu2_0') 3), (some g3, Cl [.int .i64 ((ix l s9).kind), .int .i64 ((ix l s9).m.f), .int .i64 ((ix l s9).m.t), sv ((ix l s9).m.s), .int .i64 ((ix l s9).i), .int .i64 ((ix l s9).n)] 48)] [kS (some ⟨gi1, bi1, none⟩) l.length c_l 6 (l.flatMap opMC), kS Ao2 ((mnew_m n).1).l.length co2 3 (((mnew_m n).1).l.flatMap msgC), kS Au2_1 u2_1.length cu2_1 3 (u2_1.flatMap msgC), kS Au2_1' u2_1'.length cu2_1' 3 (u2_1'.flatMap msgC)] ∧ Fr ([]) w W) ?_ fun hout2 => ?_
            · rintro E w7 ⟨s11, u2_0', u2_1', u2_2', Tg1', Au2_0', cu2_0', spu2_0', Au2_1', cu2_1', A_Tg1', c_Tg1', sp_Tg1', rfl, hinv, howu2_0', newu2_0', hokTg1', hfoTg1', st, hF⟩
              have hrelN := hinv.2.2.1
              have hokN := hokTg1'.1
              have hlostN : Tg1'.lost ≤ 10 * s9 + s11 := hinv.2.2.2
              have hi11 : 0 ≤ s11 ∧ s11 ≤ 5 := ⟨hinv.1, hinv.2.1⟩
              refine Wp_seq fun K20 hK20 => ?_
              refine Wp_plan (fun W => St X W (pickL (hOf st) [0, 1, 2, 3, 4]) (kOf st)) [(true, 0), (true, 1), (false, 2), (true, 3), (true, 4), (true, 5), (true, 6), (true, 7), (true, 8), (true, 9), (true, 10), (true, 11), (true, 13), (true, 14), (true, 15), (true, 16), (true, 17), (true, 18), (true, 19), (false, 12), (false, 20), (true, 21), (true, 22)] Ty.mx_0 (by kernel_rfl) (by kernel_rfl) rfl ((st.picks [0, 1, 2, 3, 4] (by decide)).drew) ?_
              have st := st.drew
              have hF := hF.step0 (Fr.drew _)
              refine Pl_y rfl (wtd0 rfl) rfl rfl (y_move rfl rfl) ?_
              refine Pl_y rfl (wtd0 rfl) rfl rfl (y_move rfl rfl) ?_
              refine Pl_a rfl (wtd0 rfl) (by rfl) ?_
              refine a_call rfl rfl rfl rfl (same31_ok (keys (pickL (hOf st) [4]) ++ X) _ g1 A_Tg1' c_Tg1' sp_Tg1' Tg1' hokTg1' g2 (⟨u2_0', u2_1', u2_2'⟩ : NetM) Au2_0' cu2_0' spu2_0' Au2_1' cu2_1' (st.sub [4] [0, 1, 2, 3] [3] (by decide)) howu2_0' (by first | exact hrelN.row hokN)) (fun v w8 ⟨hv, hf⟩ => ?_)
              subst hv
              have st := st.keep0 hf
              have hF := hF.step0 hf
              have st : St X w8 [(some g1, Cl (ntC A_Tg1' c_Tg1' Tg1') 115), (blkOf A_Tg1', Cl (rowC Tg1'.row ++ sp_Tg1') 51), (some g2, Cl [.slice Au2_0' u2_0'.length cu2_0', .slice Au2_1' u2_1'.length cu2_1', .int .i64 u2_2'] 118), (blkOf Au2_0', Cl (u2_0'.flatMap (fun x => [Value.int .i64 x]) ++ spu2_0') 3), (some g3, Cl [.int .i64 ((ix l s9).kind), .int .i64 ((ix l s9).m.f), .int .i64 ((ix l s9).m.t), sv ((ix l s9).m.s), .int .i64 ((ix l s9).i), .int .i64 ((ix l s9).n)] 48)] [kS (some ⟨gi1, bi1, none⟩) l.length c_l 6 (l.flatMap opMC), kS Ao2 ((mnew_m n).1).l.length co2 3 (((mnew_m n).1).l.flatMap msgC), kS Au2_1 u2_1.length cu2_1 3 (u2_1.flatMap msgC), kS Au2_1' u2_1'.length cu2_1' 3 (u2_1'.flatMap msgC)] := st
              refine ⟨(st.picks [0, 1, 2, 3, 4] (by decide)).takeK 4, ?_⟩
              refine Pl_y rfl (wtd0 rfl) rfl rfl (y_not rfl rfl) ?_
              refine Pl_y rfl (wtd0 rfl) rfl rfl (y_move rfl rfl) ?_
              have hd3 : (same31_m Tg1' (⟨u2_0', u2_1', u2_2'⟩ : NetM)) = true := by
                exact rel_same hrelN
              refine Pl_bool 172 rfl (fun hc7 => absurd hc7 (by simp [hd3])) (fun _ => ?_)
              refine Pl_y rfl (wtdT rfl rfl rfl) rfl rfl (y_move rfl rfl) ?_
              refine Pl_y rfl (wtdT rfl rfl rfl) rfl rfl (y_fld rfl rfl Ty.fo_48_1) ?_
              refine Pl_y rfl (wtdT rfl rfl rfl) rfl rfl (y_fld rfl rfl Ty.fo_46_0) ?_
              refine Pl_y rfl (wtdT rfl rfl rfl) rfl rfl (y_load (i := 4) rfl rfl Ty.pl_3 (fun _ h => h.hp) rfl rfl) ?_
              refine Pl_y rfl (wtdT rfl rfl rfl) rfl rfl (y_fld rfl rfl Ty.fo_48_1) ?_
              refine Pl_y rfl (wtdT rfl rfl rfl) rfl rfl (y_fld rfl rfl Ty.fo_46_1) ?_
              refine Pl_y rfl (wtdT rfl rfl rfl) rfl rfl (y_load (i := 4) rfl rfl Ty.pl_3 (fun _ h => h.hp) rfl rfl) ?_
              refine Pl_y rfl (wtdT rfl rfl rfl) rfl rfl (y_move rfl rfl) ?_
              refine Pl_y rfl (wtdT rfl rfl rfl) rfl rfl (y_fld rfl rfl Ty.fo_48_1) ?_
              refine Pl_y rfl (wtdT rfl rfl rfl) rfl rfl (y_fld rfl rfl Ty.fo_46_0) ?_
              refine Pl_y rfl (wtdT rfl rfl rfl) rfl rfl (y_load (i := 4) rfl rfl Ty.pl_3 (fun _ h => h.hp) rfl rfl) ?_
              refine Pl_y rfl (wtdT rfl rfl rfl) rfl rfl (y_fld rfl rfl Ty.fo_48_1) ?_
              refine Pl_y rfl (wtdT rfl rfl rfl) rfl rfl (y_fld rfl rfl Ty.fo_46_1) ?_
              refine Pl_y rfl (wtdT rfl rfl rfl) rfl rfl (y_load (i := 4) rfl rfl Ty.pl_3 (fun _ h => h.hp) rfl rfl) ?_
              refine Pl_a rfl (wtdT rfl rfl rfl) (by rfl) ?_
              refine a_call rfl rfl rfl rfl (papart_ok (keys (pickL (hOf st) [2, 3, 4]) ++ X) _ g1 A_Tg1' c_Tg1' sp_Tg1' Tg1' hokTg1' ((ix l s9).m.f) ((ix l s9).m.t) (st.sub [2, 3, 4] [0, 1] [] (by decide))) (fun v w9 ⟨hv, hf⟩ => ?_)
              subst hv
              have st := st.keep0 hf
              have hF := hF.step0 hf
              have st : St X w9 [(some g1, Cl (ntC A_Tg1' c_Tg1' Tg1') 115), (blkOf A_Tg1', Cl (rowC Tg1'.row ++ sp_Tg1') 51), (some g2, Cl [.slice Au2_0' u2_0'.length cu2_0', .slice Au2_1' u2_1'.length cu2_1', .int .i64 u2_2'] 118), (blkOf Au2_0', Cl (u2_0'.flatMap (fun x => [Value.int .i64 x]) ++ spu2_0') 3), (some g3, Cl [.int .i64 ((ix l s9).kind), .int .i64 ((ix l s9).m.f), .int .i64 ((ix l s9).m.t), sv ((ix l s9).m.s), .int .i64 ((ix l s9).i), .int .i64 ((ix l s9).n)] 48)] [kS (some ⟨gi1, bi1, none⟩) l.length c_l 6 (l.flatMap opMC), kS Ao2 ((mnew_m n).1).l.length co2 3 (((mnew_m n).1).l.flatMap msgC), kS Au2_1 u2_1.length cu2_1 3 (u2_1.flatMap msgC), kS Au2_1' u2_1'.length cu2_1' 3 (u2_1'.flatMap msgC)] := st
              refine ⟨(st.picks [0, 1, 2, 3, 4] (by decide)).takeK 4, ?_⟩
              refine Pl_a rfl (wtdT rfl rfl rfl) (by rfl) ?_
              refine a_call rfl rfl rfl rfl (rapart_ok (keys (pickL (hOf st) [0, 1, 4]) ++ X) _ g2 (⟨u2_0', u2_1', u2_2'⟩ : NetM) Au2_0' cu2_0' spu2_0' Au2_1' cu2_1' ((ix l s9).m.f) ((ix l s9).m.t) (st.sub [0, 1, 4] [2, 3] [3] (by decide)) howu2_0') (fun v w10 ⟨hv, hf⟩ => ?_)
              subst hv
              have st := st.keep0 hf
              have hF := hF.step0 hf
              have st : St X w10 [(some g1, Cl (ntC A_Tg1' c_Tg1' Tg1') 115), (blkOf A_Tg1', Cl (rowC Tg1'.row ++ sp_Tg1') 51), (some g2, Cl [.slice Au2_0' u2_0'.length cu2_0', .slice Au2_1' u2_1'.length cu2_1', .int .i64 u2_2'] 118), (blkOf Au2_0', Cl (u2_0'.flatMap (fun x => [Value.int .i64 x]) ++ spu2_0') 3), (some g3, Cl [.int .i64 ((ix l s9).kind), .int .i64 ((ix l s9).m.f), .int .i64 ((ix l s9).m.t), sv ((ix l s9).m.s), .int .i64 ((ix l s9).i), .int .i64 ((ix l s9).n)] 48)] [kS (some ⟨gi1, bi1, none⟩) l.length c_l 6 (l.flatMap opMC), kS Ao2 ((mnew_m n).1).l.length co2 3 (((mnew_m n).1).l.flatMap msgC), kS Au2_1 u2_1.length cu2_1 3 (u2_1.flatMap msgC), kS Au2_1' u2_1'.length cu2_1' 3 (u2_1'.flatMap msgC)] := st
              refine ⟨(st.picks [0, 1, 2, 3, 4] (by decide)).takeK 4, ?_⟩
              refine Pl_y rfl (wtdT rfl rfl rfl) rfl rfl (y_neb rfl rfl rfl Try.underlying4) ?_
              refine Pl_y rfl (wtd0 rfl) rfl rfl (y_pick_f rfl rfl rfl) ?_
              refine Pl_nil (Th_n (hK20 _ _ ?_))
              have hd4 : (papart_m Tg1' ((ix l s9).m.f) ((ix l s9).m.t)) = (rapart_m (⟨u2_0', u2_1', u2_2'⟩ : NetM) ((ix l s9).m.f) ((ix l s9).m.t)) := by
                exact rel_apart hrelN _ _
              refine Wp_cond rfl (fun hc8 => absurd hc8 (by simp [hd4])) (fun _ => ?_)
              refine Wp_skip (Ib_n (Th_n (hK11 _ _ ?_)))
              refine Wp_region ?_
              refine Ls_y (wtd0 rfl) rfl rfl (y_move rfl rfl) ?_
              refine Ls_y (wtd0 rfl) rfl rfl (y_add (c := s9 + 1) rfl rfl rfl (wf_i64 (by first | omega | (simp; omega)))) ?_
              refine Ls_y (wtd0 rfl) rfl rfl (y_assign rfl rfl) ?_
              refine Ls_nil (Th_n (?_))
              exact ⟨fuel, [(1, _), (5, _), (7, _), (9, _)], Nat.lt_succ_self _, ⟨rfl, rfl, rfl, rfl, trivial⟩, (s9 + 1), u2_0', u2_1', u2_2', Tg1', Au2_0', cu2_0', spu2_0', Au2_1', cu2_1', A_Tg1', c_Tg1', sp_Tg1', rfl, by first | omega | (simp; omega), by exact ⟨by omega, by omega, hrelN, by omega⟩, howu2_0', newu2_0', hokTg1', hfoTg1', (st.picks [0, 1, 2, 3] (by decide)).pickK [0, 1, 3], hF⟩
            · refine Wp_loopE (fun m E W => ∃ (s11 : Int) (u2_0' : List Int) (u2_1' : List MsgV) (u2_2' : Int) (Tg1' : Nt) (Au2_0' : Option Addr) (cu2_0' : Nat) (spu2_0' : List Value) (Au2_1' : Option Addr) (cu2_1' : Nat) (A_Tg1' : Option Addr) (c_Tg1' : Nat) (sp_Tg1' : List Value), E = [(1, .slice (some ⟨gi1, bi1, none⟩) l.length c_l), (5, .pointer (some ⟨g1, 0, none⟩)), (7, .pointer (some ⟨g2, 0, none⟩)), (9, .int .i64 s9), (10, .pointer (some ⟨g3, 0, none⟩)), (11, .int .i64 s11)] ∧ (5 - s11).toNat < m ∧ (0 ≤ s11 ∧ s11 ≤ 5 ∧ Rel Tg1' (⟨u2_0', u2_1', u2_2'⟩ : NetM) ∧ Tg1'.lost ≤ 10 * s9 + s11) ∧ Ow Au2_0' u2_0'.length cu2_0' 1 (u2_0'.flatMap (fun x => [Value.int .i64 x])) spu2_0' ∧ (∀ g, blkOf Au2_0' = some g → g ∈ ([]) ∨ w.heap.size ≤ g) ∧ (NtOk Tg1' ∧ NpOk ⟨g1, A_Tg1', c_Tg1', sp_Tg1'⟩ Tg1') ∧ (∀ k ∈ keys [(some g1, Cl (ntC A_Tg1' c_Tg1' Tg1') 115), (blkOf A_Tg1', Cl (rowC Tg1'.row ++ sp_Tg1') 51)], k ∈ ([]) ∨ w.heap.size ≤ k) ∧ St X W [(some g1, Cl (ntC A_Tg1' c_Tg1' Tg1') 115), (blkOf A_Tg1', Cl (rowC Tg1'.row ++ sp_Tg1') 51), (some g2, Cl [.slice Au2_0' u2_0'.length cu2_0', .slice Au2_1' u2_1'.length cu2_1', .int .i64 u2_2'] 118), (blkOf Au2_0', Cl (u2_0'.flatMap (fun x => [Value.int .i64 x]) ++ spu2_0') 3), (some g3, Cl [.int .i64 ((ix l s9).kind), .int .i64 ((ix l s9).m.f), .int .i64 ((ix l s9).m.t), sv ((ix l s9).m.s), .int .i64 ((ix l s9).i), .int .i64 ((ix l s9).n)] 48)] [kS (some ⟨gi1, bi1, none⟩) l.length c_l 6 (l.flatMap opMC), kS Ao2 ((mnew_m n).1).l.length co2 3 (((mnew_m n).1).l.flatMap msgC), kS Au2_1 u2_1.length cu2_1 3 (u2_1.flatMap msgC), kS Au2_1' u2_1'.length cu2_1' 3 (u2_1'.flatMap msgC)] ∧ Fr ([]) w W) ((5 - (0 : Int)).toNat + 1) [(1, _), (5, _), (7, _), (9, _), (10, _), (11, _)] ⟨rfl, rfl, rfl, rfl, rfl, rfl, trivial⟩ ?_ ?_
              · exact ⟨_, _, _, _, _, _, _, _, _, _, _, _, _, rfl, Nat.lt_succ_self _, by exact ⟨by omega, by omega, hrel, by omega⟩, howu2_0, newu2_0, hokTg1, hfoTg1, st, hF⟩
              rintro m E w11 ⟨s11, u2_0', u2_1', u2_2', Tg1', Au2_0', cu2_0', spu2_0', Au2_1', cu2_1', A_Tg1', c_Tg1', sp_Tg1', rfl, hmu, hinv, howu2_0', newu2_0', hokTg1', hfoTg1', st, hF⟩
              obtain ⟨fuel, rfl⟩ : ∃ q, m = q + 1 := ⟨m - 1, by omega⟩
              have hlehowu2_0' := Ow.le howu2_0'
              have hlek3 := (st.k (i := 3) rfl).le
              have hrel2 : Rel Tg1' (⟨u2_0', u2_1', u2_2'⟩ : NetM) := hinv.2.2.1
              have hlost2 : Tg1'.lost ≤ 10 * s9 + s11 := hinv.2.2.2
              have hi11 : 0 ≤ s11 ∧ s11 ≤ 5 := ⟨hinv.1, hinv.2.1⟩
              refine Wp_seq fun K21 hK21 => ?_
              refine Wp_seq fun K22 hK22 => ?_
              refine Wp_region ?_
              refine Ls_y (wtd0 rfl) rfl rfl (y_move rfl rfl) ?_
              refine Ls_y (wtd0 rfl) rfl rfl (y_fld rfl rfl Ty.fo_48_3) ?_
              refine Ls_y (wtd0 rfl) rfl rfl (y_load (i := 4) rfl rfl Ty.pl_3 (fun _ e => e ▸ st.hp) rfl rfl) ?_
              refine Ls_y (wtd0 rfl) rfl rfl (y_cvi (c := ((ix l s9).n) % 18446744073709551616) rfl rfl Try.underlying3 Try.underlying49 wm_u64) ?_
              refine Ls_y (wtd0 rfl) rfl rfl (y_remP rfl rfl rfl (by first | omega | (simp; omega)) (by first | omega | (simp; omega))) ?_
              refine Ls_y (wtd0 rfl) rfl rfl (y_cvi (c := (((ix l s9).n) % 18446744073709551616) % 5) rfl rfl Try.underlying49 Try.underlying3 (wf_i64 (by omega))) ?_
              refine Ls_y (wtd0 rfl) rfl rfl (y_le rfl rfl rfl) ?_
              refine Ls_y (wtd0 rfl) rfl rfl (y_move rfl rfl) ?_
              refine Ls_bool 91 rfl (fun hc9 => ?_) (fun hc9 => ?_)
              · have hc9 : s11 ≤ ((((ix l s9).n) % 18446744073709551616) % 5) := by simpa using hc9
                refine Ls_y (wtdT rfl rfl rfl) rfl rfl (y_move rfl rfl) ?_
                refine Ls_y (wtdT rfl rfl rfl) rfl rfl (y_eq rfl rfl rfl) ?_
                refine Ls_y (wtdT rfl rfl rfl) rfl rfl (y_move rfl rfl) ?_
                refine Ls_bool 94 rfl (fun hc10 => ?_) (fun hc10 => ?_)
                · have hc10 : s11 = 0 := by simpa using hc10
                  refine Ls_s (wtdF rfl rfl rfl) rfl rfl ?_
                  refine Ls_s (wtdF rfl rfl rfl) rfl rfl ?_
                  refine Ls_s (wtdF rfl rfl rfl) rfl rfl ?_
                  refine Ls_s (wtdF rfl rfl rfl) rfl rfl ?_
                  refine Ls_s (wtdF rfl rfl rfl) rfl rfl ?_
                  refine Ls_y (wtdT rfl rfl rfl) rfl rfl (y_pick_t rfl rfl rfl) ?_
                  refine Ls_y (wtd0 rfl) rfl rfl (y_pick_t rfl rfl rfl) ?_
                  refine Ls_nil (Th_n (hK22 _ _ ?_))
                  refine Wp_cond_t rfl ?_
                  refine Wp_skip (Th_n (hK21 _ _ ?_))
                  refine Wp_seq fun K23 hK23 => ?_
                  refine Wp_block ?_
                  refine Wp_seq fun K24 hK24 => ?_
                  refine Wp_plan (fun W => St X W (pickL (hOf st) [4]) (kOf st)) [(true, 0), (true, 1), (true, 2), (true, 3), (true, 4), (true, 5), (true, 6), (true, 7), (true, 8), (true, 9), (true, 10), (true, 12), (true, 13), (true, 14), (false, 11), (false, 15), (true, 16)] Ty.mx_0 (by kernel_rfl) (by kernel_rfl) rfl ((st.picks [4] (by decide)).drew) ?_
                  have st := st.drew
                  have hF := hF.step0 (Fr.drew _)
                  refine Pl_y rfl (wtd0 rfl) rfl rfl (y_move rfl rfl) ?_
                  refine Pl_y rfl (wtd0 rfl) rfl rfl (y_fld rfl rfl Ty.fo_48_1) ?_
                  refine Pl_y rfl (wtd0 rfl) rfl rfl (y_fld rfl rfl Ty.fo_46_0) ?_
                  refine Pl_y rfl (wtd0 rfl) rfl rfl (y_load (i := 0) rfl rfl Ty.pl_3 (fun _ h => h.hp) rfl rfl) ?_
                  refine Pl_y rfl (wtd0 rfl) rfl rfl (y_fld rfl rfl Ty.fo_48_1) ?_
                  refine Pl_y rfl (wtd0 rfl) rfl rfl (y_fld rfl rfl Ty.fo_46_1) ?_
                  refine Pl_y rfl (wtd0 rfl) rfl rfl (y_load (i := 0) rfl rfl Ty.pl_3 (fun _ h => h.hp) rfl rfl) ?_
                  refine Pl_y rfl (wtd0 rfl) rfl rfl (y_fld rfl rfl Ty.fo_48_1) ?_
                  refine Pl_y rfl (wtd0 rfl) rfl rfl (y_fld rfl rfl Ty.fo_46_2) ?_
                  refine Pl_y rfl (wtd0 rfl) rfl rfl (y_load (i := 0) rfl rfl Ty.pl_9 (fun _ h => h.hp) rfl rfl) ?_
                  refine Pl_y rfl (wtd0 rfl) rfl rfl (y_build (cells := [_, _, _]) rfl rfl Ty.zc_51 Ty.ps_51 rfl) ?_
                  refine Pl_y rfl (wtd0 rfl) rfl rfl (y_move rfl rfl) ?_
                  refine Pl_y rfl (wtd0 rfl) rfl rfl (y_fld rfl rfl Ty.fo_48_1) ?_
                  refine Pl_y rfl (wtd0 rfl) rfl rfl (y_loadm (i := 0) rfl rfl Ty.ag_46 (fun _ h => h.hp) rfl rfl rfl) ?_
                  refine Pl_a rfl (wtd0 rfl) (by rfl) ?_
                  refine a_call rfl rfl rfl rfl (psend_ok (keys (pickL (hOf st) [2, 3, 4]) ++ X) _ g1 A_Tg1' c_Tg1' sp_Tg1' Tg1' hokTg1' ((ix l s9).m) (st.sub [2, 3, 4] [0, 1] [] (by decide)) (by omega)) (fun v w12 ⟨A2, c2, sp2, hv, hok2, hN3, hfO1, hkc3⟩ => ?_)
                  subst hv
                  have hfo2 : ∀ k ∈ keys [(some g1, Cl (ntC A2 c2 ((psend_m Tg1' ((ix l s9).m)).2)) 115), (blkOf A2, Cl (rowC ((psend_m Tg1' ((ix l s9).m)).2).row ++ sp2) 51)], k ∈ ([]) ∨ w.heap.size ≤ k := fun k hk => (hkc3 k (hk)).elim (fun h => (kc_app hfoTg1' (kc_n)) k h) (fun h => .inr (Nat.le_trans hF.size h))
                  have st := st.callS [2, 3, 4] [0, 1] (by decide) rfl hN3 hfO1 hkc3
                  have hF := hF.step hfO1 (kc_app hfoTg1' (kc_n))
                  have st : St X w12 [(some g2, Cl [.slice Au2_0' u2_0'.length cu2_0', .slice Au2_1' u2_1'.length cu2_1', .int .i64 u2_2'] 118), (blkOf Au2_0', Cl (u2_0'.flatMap (fun x => [Value.int .i64 x]) ++ spu2_0') 3), (some g3, Cl [.int .i64 ((ix l s9).kind), .int .i64 ((ix l s9).m.f), .int .i64 ((ix l s9).m.t), sv ((ix l s9).m.s), .int .i64 ((ix l s9).i), .int .i64 ((ix l s9).n)] 48), (some g1, Cl (ntC A2 c2 ((psend_m Tg1' ((ix l s9).m)).2)) 115), (blkOf A2, Cl (rowC ((psend_m Tg1' ((ix l s9).m)).2).row ++ sp2) 51)] [kS (some ⟨gi1, bi1, none⟩) l.length c_l 6 (l.flatMap opMC), kS Ao2 ((mnew_m n).1).l.length co2 3 (((mnew_m n).1).l.flatMap msgC), kS Au2_1 u2_1.length cu2_1 3 (u2_1.flatMap msgC), kS Au2_1' u2_1'.length cu2_1' 3 (u2_1'.flatMap msgC)] := st
                  refine ⟨(st.picks [2] (by decide)).takeK 4, ?_⟩
                  refine Pl_a rfl (wtd0 rfl) (by rfl) ?_
                  refine a_call rfl rfl rfl rfl (rsend_ok (keys (pickL (hOf st) [2, 3, 4]) ++ X) _ g2 (⟨u2_0', u2_1', u2_2'⟩ : NetM) Au2_0' cu2_0' spu2_0' Au2_1' cu2_1' ((ix l s9).m) (st.sub [2, 3, 4] [0, 1] [3] (by decide)) howu2_0' (hrel2.row hokTg1'.1) (hrel2.cnt hokTg1'.1 (by omega))) (fun v w13 ⟨Ao3, co3, spo2, Ao4, co4, hv, how2, hN4, hfO2, hkc4⟩ => ?_)
                  subst hv
                  have hnew2 : ∀ g, blkOf Ao3 = some g → g ∈ ([]) ∨ w.heap.size ≤ g := fun g hg => (hkc4 g (by simp [keys, hg])).elim (fun h => (kc_s (.inr hg1) (kc_b newu2_0' (kc_n))) g h) (fun h => .inr (Nat.le_trans hF.size h))
                  have hlehow2 := Ow.le how2
                  have st := st.callS [2, 3, 4] [0, 1] (by decide) rfl hN4 hfO2 hkc4
                  have hF := hF.step hfO2 (kc_s (.inr hg1) (kc_b newu2_0' (kc_n)))
                  have st : St X w13 [(some g3, Cl [.int .i64 ((ix l s9).kind), .int .i64 ((ix l s9).m.f), .int .i64 ((ix l s9).m.t), sv ((ix l s9).m.s), .int .i64 ((ix l s9).i), .int .i64 ((ix l s9).n)] 48), (some g1, Cl (ntC A2 c2 ((psend_m Tg1' ((ix l s9).m)).2)) 115), (blkOf A2, Cl (rowC ((psend_m Tg1' ((ix l s9).m)).2).row ++ sp2) 51), (some g2, Cl [.slice Ao3 (((rsend_m (⟨u2_0', u2_1', u2_2'⟩ : NetM) ((ix l s9).m)).2).c.length) co3, .slice Ao4 (((rsend_m (⟨u2_0', u2_1', u2_2'⟩ : NetM) ((ix l s9).m)).2).l.length) co4, .int .i64 (((rsend_m (⟨u2_0', u2_1', u2_2'⟩ : NetM) ((ix l s9).m)).2).count)] 118), (blkOf Ao3, Cl ((((rsend_m (⟨u2_0', u2_1', u2_2'⟩ : NetM) ((ix l s9).m)).2).c).flatMap (fun x => [Value.int .i64 x]) ++ spo2) 3)] [kS (some ⟨gi1, bi1, none⟩) l.length c_l 6 (l.flatMap opMC), kS Ao2 ((mnew_m n).1).l.length co2 3 (((mnew_m n).1).l.flatMap msgC), kS Au2_1 u2_1.length cu2_1 3 (u2_1.flatMap msgC), kS Au2_1' u2_1'.length cu2_1' 3 (u2_1'.flatMap msgC), kS Ao4 ((rsend_m (⟨u2_0', u2_1', u2_2'⟩ : NetM) ((ix l s9).m)).2).l.length co4 3 (((rsend_m (⟨u2_0', u2_1', u2_2'⟩ : NetM) ((ix l s9).m)).2).l.flatMap msgC)] := st
                  refine ⟨(st.picks [0] (by decide)).takeK 4, ?_⟩
                  refine Pl_y rfl (wtd0 rfl) rfl rfl (y_ne rfl rfl rfl) ?_
                  refine Pl_nil (Th_n (hK24 _ _ ?_))
                  have hd5 : ((psend_m Tg1' ((ix l s9).m)).1) = ((rsend_m (⟨u2_0', u2_1', u2_2'⟩ : NetM) ((ix l s9).m)).1) := by
                    exact (rel_send hrel2 _).1
                  refine Wp_cond rfl (fun hc11 => absurd hc11 (by simp [hd5])) (fun _ => ?_)
                  refine Wp_skip (Ib_n (Th_n (hK23 _ _ ?_)))
                  refine Wp_region ?_
                  refine Ls_y (wtd0 rfl) rfl rfl (y_move rfl rfl) ?_
                  refine Ls_y (wtd0 rfl) rfl rfl (y_add (c := s11 + 1) rfl rfl rfl (wf_i64 (by first | omega | (simp; omega)))) ?_
                  refine Ls_y (wtd0 rfl) rfl rfl (y_assign rfl rfl) ?_
                  refine Ls_nil (Th_n (?_))
                  exact ⟨fuel, [(1, _), (5, _), (7, _), (9, _), (10, _), (11, _)], Nat.lt_succ_self _, ⟨rfl, rfl, rfl, rfl, rfl, rfl, trivial⟩, (s11 + 1), (((rsend_m (⟨u2_0', u2_1', u2_2'⟩ : NetM) ((ix l s9).m)).2).c), (((rsend_m (⟨u2_0', u2_1', u2_2'⟩ : NetM) ((ix l s9).m)).2).l), (((rsend_m (⟨u2_0', u2_1', u2_2'⟩ : NetM) ((ix l s9).m)).2).count), ((psend_m Tg1' ((ix l s9).m)).2), Ao3, co3, spo2, Ao4, co4, A2, c2, sp2, rfl, by first | omega | (simp; omega), by exact ⟨by omega, by omega, (rel_send hrel2 _).2, by have := lost_send hokTg1'.1 (ix l s9).m; omega⟩, how2, hnew2, hok2, hfo2, (st.picks [1, 2, 3, 4, 0] (by decide)).pickK [0, 1, 2, 4], hF⟩
                · have hc10 : ¬ (s11 = 0) := by simpa using hc10
                  refine Ls_y (wtdT rfl rfl rfl) rfl rfl (y_fld rfl rfl Ty.fo_48_1) ?_
                  refine Ls_y (wtdT rfl rfl rfl) rfl rfl (y_fld rfl rfl Ty.fo_46_2) ?_
                  refine Ls_y (wtdT rfl rfl rfl) rfl rfl (y_load (i := 4) rfl rfl Ty.pl_9 (fun _ e => e ▸ st.hp) rfl rfl) ?_
                  refine Ls_y (wtdT rfl rfl rfl) rfl rfl (y_lens rfl rfl Try.underlying9) ?_
                  refine Ls_y (wtdT rfl rfl rfl) rfl rfl (y_lt rfl rfl rfl) ?_
                  refine Ls_y (wtdT rfl rfl rfl) rfl rfl (y_pick_f rfl rfl rfl) ?_
                  refine Ls_y (wtd0 rfl) rfl rfl (y_pick_t rfl rfl rfl) ?_
                  refine Ls_nil (Th_n (hK22 _ _ ?_))
                  refine Wp_cond rfl (fun hc12 => ?_) (fun hc12 => ?_)
                  · have hc12 : (((ix l s9).m.s).length : Int) < 100 := by simpa using hc12
                    refine Wp_skip (Th_n (hK21 _ _ ?_))
                    refine Wp_seq fun K25 hK25 => ?_
                    refine Wp_block ?_
                    refine Wp_seq fun K26 hK26 => ?_
                    refine Wp_plan (fun W => St X W (pickL (hOf st) [4]) (kOf st)) [(true, 0), (true, 1), (true, 2), (true, 3), (true, 4), (true, 5), (true, 6), (true, 7), (true, 8), (true, 9), (true, 10), (true, 12), (true, 13), (true, 14), (false, 11), (false, 15), (true, 16)] Ty.mx_0 (by kernel_rfl) (by kernel_rfl) rfl ((st.picks [4] (by decide)).drew) ?_
                    have st := st.drew
                    have hF := hF.step0 (Fr.drew _)
                    refine Pl_y rfl (wtd0 rfl) rfl rfl (y_move rfl rfl) ?_
                    refine Pl_y rfl (wtd0 rfl) rfl rfl (y_fld rfl rfl Ty.fo_48_1) ?_
                    refine Pl_y rfl (wtd0 rfl) rfl rfl (y_fld rfl rfl Ty.fo_46_0) ?_
                    refine Pl_y rfl (wtd0 rfl) rfl rfl (y_load (i := 0) rfl rfl Ty.pl_3 (fun _ h => h.hp) rfl rfl) ?_
                    refine Pl_y rfl (wtd0 rfl) rfl rfl (y_fld rfl rfl Ty.fo_48_1) ?_
                    refine Pl_y rfl (wtd0 rfl) rfl rfl (y_fld rfl rfl Ty.fo_46_1) ?_
                    refine Pl_y rfl (wtd0 rfl) rfl rfl (y_load (i := 0) rfl rfl Ty.pl_3 (fun _ h => h.hp) rfl rfl) ?_
                    refine Pl_y rfl (wtd0 rfl) rfl rfl (y_fld rfl rfl Ty.fo_48_1) ?_
                    refine Pl_y rfl (wtd0 rfl) rfl rfl (y_fld rfl rfl Ty.fo_46_2) ?_
                    refine Pl_y rfl (wtd0 rfl) rfl rfl (y_load (i := 0) rfl rfl Ty.pl_9 (fun _ h => h.hp) rfl rfl) ?_
                    refine Pl_y rfl (wtd0 rfl) rfl rfl (y_build (cells := [_, _, _]) rfl rfl Ty.zc_51 Ty.ps_51 rfl) ?_
                    refine Pl_y rfl (wtd0 rfl) rfl rfl (y_move rfl rfl) ?_
                    refine Pl_y rfl (wtd0 rfl) rfl rfl (y_fld rfl rfl Ty.fo_48_1) ?_
                    refine Pl_y rfl (wtd0 rfl) rfl rfl (y_loadm (i := 0) rfl rfl Ty.ag_46 (fun _ h => h.hp) rfl rfl rfl) ?_
                    refine Pl_a rfl (wtd0 rfl) (by rfl) ?_
                    refine a_call rfl rfl rfl rfl (psend_ok (keys (pickL (hOf st) [2, 3, 4]) ++ X) _ g1 A_Tg1' c_Tg1' sp_Tg1' Tg1' hokTg1' ((ix l s9).m) (st.sub [2, 3, 4] [0, 1] [] (by decide)) (by omega)) (fun v w14 ⟨A3, c3, sp3, hv, hok3, hN5, hfO3, hkc5⟩ => ?_)
                    subst hv
                    have hfo3 : ∀ k ∈ keys [(some g1, Cl (ntC A3 c3 ((psend_m Tg1' ((ix l s9).m)).2)) 115), (blkOf A3, Cl (rowC ((psend_m Tg1' ((ix l s9).m)).2).row ++ sp3) 51)], k ∈ ([]) ∨ w.heap.size ≤ k := fun k hk => (hkc5 k (hk)).elim (fun h => (kc_app hfoTg1' (kc_n)) k h) (fun h => .inr (Nat.le_trans hF.size h))
                    have st := st.callS [2, 3, 4] [0, 1] (by decide) rfl hN5 hfO3 hkc5
                    have hF := hF.step hfO3 (kc_app hfoTg1' (kc_n))
                    have st : St X w14 [(some g2, Cl [.slice Au2_0' u2_0'.length cu2_0', .slice Au2_1' u2_1'.length cu2_1', .int .i64 u2_2'] 118), (blkOf Au2_0', Cl (u2_0'.flatMap (fun x => [Value.int .i64 x]) ++ spu2_0') 3), (some g3, Cl [.int .i64 ((ix l s9).kind), .int .i64 ((ix l s9).m.f), .int .i64 ((ix l s9).m.t), sv ((ix l s9).m.s), .int .i64 ((ix l s9).i), .int .i64 ((ix l s9).n)] 48), (some g1, Cl (ntC A3 c3 ((psend_m Tg1' ((ix l s9).m)).2)) 115), (blkOf A3, Cl (rowC ((psend_m Tg1' ((ix l s9).m)).2).row ++ sp3) 51)] [kS (some ⟨gi1, bi1, none⟩) l.length c_l 6 (l.flatMap opMC), kS Ao2 ((mnew_m n).1).l.length co2 3 (((mnew_m n).1).l.flatMap msgC), kS Au2_1 u2_1.length cu2_1 3 (u2_1.flatMap msgC), kS Au2_1' u2_1'.length cu2_1' 3 (u2_1'.flatMap msgC)] := st
                    refine ⟨(st.picks [2] (by decide)).takeK 4, ?_⟩
                    refine Pl_a rfl (wtd0 rfl) (by rfl) ?_
                    refine a_call rfl rfl rfl rfl (rsend_ok (keys (pickL (hOf st) [2, 3, 4]) ++ X) _ g2 (⟨u2_0', u2_1', u2_2'⟩ : NetM) Au2_0' cu2_0' spu2_0' Au2_1' cu2_1' ((ix l s9).m) (st.sub [2, 3, 4] [0, 1] [3] (by decide)) howu2_0' (hrel2.row hokTg1'.1) (hrel2.cnt hokTg1'.1 (by omega))) (fun v w15 ⟨Ao5, co5, spo3, Ao6, co6, hv, how3, hN6, hfO4, hkc6⟩ => ?_)
                    subst hv
                    have hnew3 : ∀ g, blkOf Ao5 = some g → g ∈ ([]) ∨ w.heap.size ≤ g := fun g hg => (hkc6 g (by simp [keys, hg])).elim (fun h => (kc_s (.inr hg1) (kc_b newu2_0' (kc_n))) g h) (fun h => .inr (Nat.le_trans hF.size h))
                    have hlehow3 := Ow.le how3
                    have st := st.callS [2, 3, 4] [0, 1] (by decide) rfl hN6 hfO4 hkc6
                    have hF := hF.step hfO4 (kc_s (.inr hg1) (kc_b newu2_0' (kc_n)))
                    have st : St X w15 [(some g3, Cl [.int .i64 ((ix l s9).kind), .int .i64 ((ix l s9).m.f), .int .i64 ((ix l s9).m.t), sv ((ix l s9).m.s), .int .i64 ((ix l s9).i), .int .i64 ((ix l s9).n)] 48), (some g1, Cl (ntC A3 c3 ((psend_m Tg1' ((ix l s9).m)).2)) 115), (blkOf A3, Cl (rowC ((psend_m Tg1' ((ix l s9).m)).2).row ++ sp3) 51), (some g2, Cl [.slice Ao5 (((rsend_m (⟨u2_0', u2_1', u2_2'⟩ : NetM) ((ix l s9).m)).2).c.length) co5, .slice Ao6 (((rsend_m (⟨u2_0', u2_1', u2_2'⟩ : NetM) ((ix l s9).m)).2).l.length) co6, .int .i64 (((rsend_m (⟨u2_0', u2_1', u2_2'⟩ : NetM) ((ix l s9).m)).2).count)] 118), (blkOf Ao5, Cl ((((rsend_m (⟨u2_0', u2_1', u2_2'⟩ : NetM) ((ix l s9).m)).2).c).flatMap (fun x => [Value.int .i64 x]) ++ spo3) 3)] [kS (some ⟨gi1, bi1, none⟩) l.length c_l 6 (l.flatMap opMC), kS Ao2 ((mnew_m n).1).l.length co2 3 (((mnew_m n).1).l.flatMap msgC), kS Au2_1 u2_1.length cu2_1 3 (u2_1.flatMap msgC), kS Au2_1' u2_1'.length cu2_1' 3 (u2_1'.flatMap msgC), kS Ao6 ((rsend_m (⟨u2_0', u2_1', u2_2'⟩ : NetM) ((ix l s9).m)).2).l.length co6 3 (((rsend_m (⟨u2_0', u2_1', u2_2'⟩ : NetM) ((ix l s9).m)).2).l.flatMap msgC)] := st
                    refine ⟨(st.picks [0] (by decide)).takeK 4, ?_⟩
                    refine Pl_y rfl (wtd0 rfl) rfl rfl (y_ne rfl rfl rfl) ?_
                    refine Pl_nil (Th_n (hK26 _ _ ?_))
                    have hd6 : ((psend_m Tg1' ((ix l s9).m)).1) = ((rsend_m (⟨u2_0', u2_1', u2_2'⟩ : NetM) ((ix l s9).m)).1) := by
                      exact (rel_send hrel2 _).1
                    refine Wp_cond rfl (fun hc13 => absurd hc13 (by simp [hd6])) (fun _ => ?_)
                    refine Wp_skip (Ib_n (Th_n (hK25 _ _ ?_)))
                    refine Wp_region ?_
                    refine Ls_y (wtd0 rfl) rfl rfl (y_move rfl rfl) ?_
                    refine Ls_y (wtd0 rfl) rfl rfl (y_add (c := s11 + 1) rfl rfl rfl (wf_i64 (by first | omega | (simp; omega)))) ?_
                    refine Ls_y (wtd0 rfl) rfl rfl (y_assign rfl rfl) ?_
                    refine Ls_nil (Th_n (?_))
                    exact ⟨fuel, [(1, _), (5, _), (7, _), (9, _), (10, _), (11, _)], Nat.lt_succ_self _, ⟨rfl, rfl, rfl, rfl, rfl, rfl, trivial⟩, (s11 + 1), (((rsend_m (⟨u2_0', u2_1', u2_2'⟩ : NetM) ((ix l s9).m)).2).c), (((rsend_m (⟨u2_0', u2_1', u2_2'⟩ : NetM) ((ix l s9).m)).2).l), (((rsend_m (⟨u2_0', u2_1', u2_2'⟩ : NetM) ((ix l s9).m)).2).count), ((psend_m Tg1' ((ix l s9).m)).2), Ao5, co5, spo3, Ao6, co6, A3, c3, sp3, rfl, by first | omega | (simp; omega), by exact ⟨by omega, by omega, (rel_send hrel2 _).2, by have := lost_send hokTg1'.1 (ix l s9).m; omega⟩, how3, hnew3, hok3, hfo3, (st.picks [1, 2, 3, 4, 0] (by decide)).pickK [0, 1, 2, 4], hF⟩
                  · have hc12 : ¬ ((((ix l s9).m.s).length : Int) < 100) := by simpa using hc12
                    refine Wp_exit (Th_e (Th_e (Ib_hit (Ib_n (Th_n (?_))))))
                    exact hout2 _ [(1, _), (5, _), (7, _), (9, _), (10, _), (11, _)] _ ⟨rfl, rfl, rfl, rfl, rfl, rfl, trivial⟩ ⟨s11, u2_0', u2_1', u2_2', Tg1', Au2_0', cu2_0', spu2_0', Au2_1', cu2_1', A_Tg1', c_Tg1', sp_Tg1', rfl, by exact hinv, howu2_0', newu2_0', hokTg1', hfoTg1', (st.picks [0, 1, 2, 3, 4] (by decide)).pickK [0, 1, 2, 3], hF⟩
              · have hc9 : ¬ (s11 ≤ ((((ix l s9).n) % 18446744073709551616) % 5)) := by simpa using hc9
                refine Ls_s (wtdF rfl rfl rfl) rfl rfl ?_
                refine Ls_s (wtdF rfl rfl rfl) rfl rfl ?_
                refine Ls_s (wtdF rfl rfl rfl) rfl rfl ?_
                refine Ls_s (wtdU rfl rfl rfl) rfl rfl ?_
                refine Ls_s (wtdU rfl rfl rfl) rfl rfl ?_
                refine Ls_s (wtdU rfl rfl rfl) rfl rfl ?_
                refine Ls_s (wtdU rfl rfl rfl) rfl rfl ?_
                refine Ls_s (wtdU rfl rfl rfl) rfl rfl ?_
                refine Ls_s (wtdF rfl rfl rfl) rfl rfl ?_
                refine Ls_y (wtd0 rfl) rfl rfl (y_pick_f rfl rfl rfl) ?_
                refine Ls_nil (Th_n (hK22 _ _ ?_))
                refine Wp_cond_f rfl ?_
                refine Wp_exit (Th_e (Th_e (Ib_hit (Ib_n (Th_n (?_))))))
                exact hout2 _ [(1, _), (5, _), (7, _), (9, _), (10, _), (11, _)] _ ⟨rfl, rfl, rfl, rfl, rfl, rfl, trivial⟩ ⟨s11, u2_0', u2_1', u2_2', Tg1', Au2_0', cu2_0', spu2_0', Au2_1', cu2_1', A_Tg1', c_Tg1', sp_Tg1', rfl, by exact hinv, howu2_0', newu2_0', hokTg1', hfoTg1', (st.picks [0, 1, 2, 3, 4] (by decide)).pickK [0, 1, 2, 3], hF⟩
          · have hc6 : ¬ (((ix l s9).kind) = 0) := by simpa using hc6
            refine Wp_seq fun K27 hK27 => ?_
            refine Wp_region ?_
            refine Ls_y (wtd0 rfl) rfl rfl (y_eq rfl rfl rfl) ?_
            refine Ls_y (wtd0 rfl) rfl rfl (y_assign rfl rfl) ?_
            refine Ls_nil (Th_n (hK27 _ _ ?_))
            refine Wp_cond rfl (fun hc14 => ?_) (fun hc14 => ?_)
            · have hc14 : ((ix l s9).kind) = 1 := by simpa using hc14
              refine Wp_seq fun K28 hK28 => ?_
              refine Wp_region ?_
              refine Ls_y (wtd0 rfl) rfl rfl (y_move rfl rfl) ?_
              refine Ls_y (wtd0 rfl) rfl rfl (y_fld rfl rfl Ty.fo_48_2) ?_
              refine Ls_y (wtd0 rfl) rfl rfl (y_load (i := 4) rfl rfl Ty.pl_3 (fun _ e => e ▸ st.hp) rfl rfl) ?_
              refine Ls_a (wtd0 rfl) ?_
              refine a_call rfl rfl rfl rfl (ptake_ok (keys (pickL (hOf st) [2, 3, 4]) ++ X) _ g1 A_Tg1 c_Tg1 sp_Tg1 Tg1 hokTg1 ((ix l s9).i) (st.sub [2, 3, 4] [0, 1] [] (by decide))) (fun v w16 ⟨A4, c4, sp4, hv, hok4, hN7, hfO5, hkc7⟩ => ?_)
              subst hv
              have hfo4 : ∀ k ∈ keys [(some g1, Cl (ntC A4 c4 ((ptake_m Tg1 ((ix l s9).i)).2.2)) 115), (blkOf A4, Cl (rowC ((ptake_m Tg1 ((ix l s9).i)).2.2).row ++ sp4) 51)], k ∈ ([]) ∨ w.heap.size ≤ k := fun k hk => (hkc7 k (hk)).elim (fun h => (kc_app hfoTg1 (kc_n)) k h) (fun h => .inr (Nat.le_trans hF.size h))
              have st := st.callS [2, 3, 4] [0, 1] (by decide) rfl hN7 hfO5 hkc7
              have hF := hF.step hfO5 (kc_app hfoTg1 (kc_n))
              have st : St X w16 [(some g2, Cl [.slice Au2_0 u2_0.length cu2_0, .slice Au2_1 u2_1.length cu2_1, .int .i64 u2_2] 118), (blkOf Au2_0, Cl (u2_0.flatMap (fun x => [Value.int .i64 x]) ++ spu2_0) 3), (some g3, Cl [.int .i64 ((ix l s9).kind), .int .i64 ((ix l s9).m.f), .int .i64 ((ix l s9).m.t), sv ((ix l s9).m.s), .int .i64 ((ix l s9).i), .int .i64 ((ix l s9).n)] 48), (some g1, Cl (ntC A4 c4 ((ptake_m Tg1 ((ix l s9).i)).2.2)) 115), (blkOf A4, Cl (rowC ((ptake_m Tg1 ((ix l s9).i)).2.2).row ++ sp4) 51)] [kS (some ⟨gi1, bi1, none⟩) l.length c_l 6 (l.flatMap opMC), kS Ao2 ((mnew_m n).1).l.length co2 3 (((mnew_m n).1).l.flatMap msgC), kS Au2_1 u2_1.length cu2_1 3 (u2_1.flatMap msgC)] := st
              refine Ls_y (wtd0 rfl) rfl rfl (y_move rfl rfl) ?_
              refine Ls_y (wtd0 rfl) rfl rfl (y_ext rfl rfl rfl) ?_
              refine Ls_y (wtd0 rfl) rfl rfl (y_ext rfl rfl rfl) ?_
              refine Ls_a (wtd0 rfl) ?_
              refine a_alloc rfl rfl rfl Ty.zc_51 st.hp (fun g4 w17 (hp : Hp w17 [(_, Cl [_, _, _] _), _, (_, Cl [_, _, _, _, _, _] _), _, _, (_, Cl [_, _, _] _)]) hf hg3 => ?_)
              have st : St X w17 [(_, Cl [_, _, _] _), _, (_, Cl [_, _, _, _, _, _] _), _, _, (_, Cl [_, _, _] _)] [kS (some ⟨gi1, bi1, none⟩) l.length c_l 6 (l.flatMap opMC), kS Ao2 ((mnew_m n).1).l.length co2 3 (((mnew_m n).1).l.flatMap msgC), kS Au2_1 u2_1.length cu2_1 3 (u2_1.flatMap msgC)] := st.push hp hf hg3
              have hg3 := Nat.le_trans hF.size hg3
              have hF := hF.step0 hf
              refine Ls_a (wtd0 rfl) ?_
              refine a_storew (i := 5) rfl rfl rfl rfl Ty.sz_51 rfl (by first | assumption | (simp [Value.oneCell', msgC]; done)) st.hp rfl rfl (fun w18 (hp : Hp w18 [(_, Cl [_, _, _] _), _, (_, Cl [_, _, _, _, _, _] _), _, _, (_, Cl [_, _, _] _)]) hf _ => ?_)
              have st : St X w18 [(_, Cl [_, _, _] _), _, (_, Cl [_, _, _, _, _, _] _), _, _, (_, Cl [_, _, _] _)] [kS (some ⟨gi1, bi1, none⟩) l.length c_l 6 (l.flatMap opMC), kS Ao2 ((mnew_m n).1).l.length co2 3 (((mnew_m n).1).l.flatMap msgC), kS Au2_1 u2_1.length cu2_1 3 (u2_1.flatMap msgC)] := st.set (i := 5) rfl hp hf
              have hF := hF.step hf (by intro y hy; simp only [List.mem_cons, List.not_mem_nil, or_false] at hy; subst hy; first | (exact Or.inr (by omega)) | (exact Or.inl (kin0 _ _)) | (exact Or.inl (by simp)))
              refine Ls_y (wtd0 rfl) rfl rfl (y_assign rfl rfl) ?_
              refine Ls_nil (Th_n (hK28 _ _ ?_))
              refine Wp_seq fun K29 hK29 => ?_
              refine Wp_region ?_
              refine Ls_y (wtd0 rfl) rfl rfl (y_move rfl rfl) ?_
              refine Ls_y (wtd0 rfl) rfl rfl (y_fld rfl rfl Ty.fo_48_2) ?_
              refine Ls_y (wtd0 rfl) rfl rfl (y_load (i := 2) rfl rfl Ty.pl_3 (fun _ e => e ▸ st.hp) rfl rfl) ?_
              refine Ls_a (wtd0 rfl) ?_
              refine a_call rfl rfl rfl rfl (rtake_ok (keys (pickL (hOf st) [2, 3, 4, 5]) ++ X) _ g2 (⟨u2_0, u2_1, u2_2⟩ : NetM) Au2_0 cu2_0 spu2_0 Au2_1 cu2_1 ((ix l s9).i) (st.sub [2, 3, 4, 5] [0, 1] [2] (by decide)) howu2_0 (hrel.row hokTg1.1)) (fun v w19 ⟨Ao7, co7, spo4, Ao8, co8, hv, how4, hN8, hfO6, hkc8⟩ => ?_)
              subst hv
              have hnew4 : ∀ g, blkOf Ao7 = some g → g ∈ ([]) ∨ w.heap.size ≤ g := fun g hg => (hkc8 g (by simp [keys, hg])).elim (fun h => (kc_s (.inr hg1) (kc_b newu2_0 (kc_n))) g h) (fun h => .inr (Nat.le_trans hF.size h))
              have hlehow4 := Ow.le how4
              have st := st.callS [2, 3, 4, 5] [0, 1] (by decide) rfl hN8 hfO6 hkc8
              have hF := hF.step hfO6 (kc_s (.inr hg1) (kc_b newu2_0 (kc_n)))
              have st : St X w19 [(some g3, Cl [.int .i64 ((ix l s9).kind), .int .i64 ((ix l s9).m.f), .int .i64 ((ix l s9).m.t), sv ((ix l s9).m.s), .int .i64 ((ix l s9).i), .int .i64 ((ix l s9).n)] 48), (some g1, Cl (ntC A4 c4 ((ptake_m Tg1 ((ix l s9).i)).2.2)) 115), (blkOf A4, Cl (rowC ((ptake_m Tg1 ((ix l s9).i)).2.2).row ++ sp4) 51), (some g4, Cl [.int .i64 (((ptake_m Tg1 ((ix l s9).i)).1).f), .int .i64 (((ptake_m Tg1 ((ix l s9).i)).1).t), sv (((ptake_m Tg1 ((ix l s9).i)).1).s)] 51), (some g2, Cl [.slice Ao7 (((rtake_m (⟨u2_0, u2_1, u2_2⟩ : NetM) ((ix l s9).i)).2.2).c.length) co7, .slice Ao8 (((rtake_m (⟨u2_0, u2_1, u2_2⟩ : NetM) ((ix l s9).i)).2.2).l.length) co8, .int .i64 (((rtake_m (⟨u2_0, u2_1, u2_2⟩ : NetM) ((ix l s9).i)).2.2).count)] 118), (blkOf Ao7, Cl ((((rtake_m (⟨u2_0, u2_1, u2_2⟩ : NetM) ((ix l s9).i)).2.2).c).flatMap (fun x => [Value.int .i64 x]) ++ spo4) 3)] [kS (some ⟨gi1, bi1, none⟩) l.length c_l 6 (l.flatMap opMC), kS Ao2 ((mnew_m n).1).l.length co2 3 (((mnew_m n).1).l.flatMap msgC), kS Au2_1 u2_1.length cu2_1 3 (u2_1.flatMap msgC), kS Ao8 ((rtake_m (⟨u2_0, u2_1, u2_2⟩ : NetM) ((ix l s9).i)).2.2).l.length co8 3 (((rtake_m (⟨u2_0, u2_1, u2_2⟩ : NetM) ((ix l s9).i)).2.2).l.flatMap msgC)] := st
              have hrelN := (rel_take hrel (ix l s9).i).2.2
              have hokN : NtOk (ptake_m Tg1 (ix l s9).i).2.2 := (takeT_ok hokTg1.1 _).1
              have hlostN := lost_take hokTg1.1 (ix l s9).i
              refine Ls_y (wtd0 rfl) rfl rfl (y_move rfl rfl) ?_
              refine Ls_y (wtd0 rfl) rfl rfl (y_ext rfl rfl rfl) ?_
              refine Ls_y (wtd0 rfl) rfl rfl (y_ext rfl rfl rfl) ?_
              refine Ls_a (wtd0 rfl) ?_
              refine a_alloc rfl rfl rfl Ty.zc_46 st.hp (fun g5 w20 (hp : Hp w20 [(_, Cl [_, _, _, _, _, _] _), _, _, (_, Cl [_, _, _] _), (_, Cl [_, _, _] _), _, (_, Cl [_, _, _] _)]) hf hg4 => ?_)
              have st : St X w20 [(_, Cl [_, _, _, _, _, _] _), _, _, (_, Cl [_, _, _] _), (_, Cl [_, _, _] _), _, (_, Cl [_, _, _] _)] [kS (some ⟨gi1, bi1, none⟩) l.length c_l 6 (l.flatMap opMC), kS Ao2 ((mnew_m n).1).l.length co2 3 (((mnew_m n).1).l.flatMap msgC), kS Au2_1 u2_1.length cu2_1 3 (u2_1.flatMap msgC), kS Ao8 ((rtake_m (⟨u2_0, u2_1, u2_2⟩ : NetM) ((ix l s9).i)).2.2).l.length co8 3 (((rtake_m (⟨u2_0, u2_1, u2_2⟩ : NetM) ((ix l s9).i)).2.2).l.flatMap msgC)] := st.push hp hf hg4
              have hg4 := Nat.le_trans hF.size hg4
              have hF := hF.step0 hf
              refine Ls_a (wtd0 rfl) ?_
              refine a_storew (i := 6) rfl rfl rfl rfl Ty.sz_46 rfl (by first | assumption | (simp [Value.oneCell', msgC]; done)) st.hp rfl rfl (fun w21 (hp : Hp w21 [(_, Cl [_, _, _, _, _, _] _), _, _, (_, Cl [_, _, _] _), (_, Cl [_, _, _] _), _, (_, Cl [_, _, _] _)]) hf _ => ?_)
              have st : St X w21 [(_, Cl [_, _, _, _, _, _] _), _, _, (_, Cl [_, _, _] _), (_, Cl [_, _, _] _), _, (_, Cl [_, _, _] _)] [kS (some ⟨gi1, bi1, none⟩) l.length c_l 6 (l.flatMap opMC), kS Ao2 ((mnew_m n).1).l.length co2 3 (((mnew_m n).1).l.flatMap msgC), kS Au2_1 u2_1.length cu2_1 3 (u2_1.flatMap msgC), kS Ao8 ((rtake_m (⟨u2_0, u2_1, u2_2⟩ : NetM) ((ix l s9).i)).2.2).l.length co8 3 (((rtake_m (⟨u2_0, u2_1, u2_2⟩ : NetM) ((ix l s9).i)).2.2).l.flatMap msgC)] := st.set (i := 6) rfl hp hf
              have hF := hF.step hf (by intro y hy; simp only [List.mem_cons, List.not_mem_nil, or_false] at hy; subst hy; first | (exact Or.inr (by omega)) | (exact Or.inl (kin0 _ _)) | (exact Or.inl (by simp)))
              refine Ls_y (wtd0 rfl) rfl rfl (y_assign rfl rfl) ?_
              refine Ls_nil (Th_n (hK29 _ _ ?_))
              refine Wp_seq fun K30 hK30 => ?_
              refine Wp_plan (fun W => St X W (pickL (hOf st) [0, 1, 2, 3, 4, 5, 6]) (kOf st)) [(true, 0), (true, 2), (false, 1), (true, 3), (true, 4), (true, 5), (true, 6), (true, 7), (true, 8)] Ty.mx_0 (by kernel_rfl) (by kernel_rfl) rfl ((st.picks [0, 1, 2, 3, 4, 5, 6] (by decide)).drew) ?_
              have st := st.drew
              have hF := hF.step0 (Fr.drew _)
              refine Pl_y rfl (wtd0 rfl) rfl rfl (y_loadw (i := 3) rfl rfl Ty.ag_51 (fun _ h => h.hp) rfl rfl) ?_
              refine Pl_y rfl (wtd0 rfl) rfl rfl (y_loadw (i := 6) rfl rfl Ty.ag_46 (fun _ h => h.hp) rfl rfl) ?_
              refine Pl_a rfl (wtd0 rfl) (by rfl) ?_
              refine a_call rfl rfl rfl rfl (from31_ok _ ((ptake_m Tg1 ((ix l s9).i)).1)) (fun v w22 ⟨hv, hf⟩ => ?_)
              subst hv
              have st := st.keep0 hf
              have hF := hF.step0 hf
              have st : St X w22 [(_, Cl [_, _, _, _, _, _] _), _, _, (_, Cl [_, _, _] _), (_, Cl [_, _, _] _), _, (_, Cl [_, _, _] _)] [kS (some ⟨gi1, bi1, none⟩) l.length c_l 6 (l.flatMap opMC), kS Ao2 ((mnew_m n).1).l.length co2 3 (((mnew_m n).1).l.flatMap msgC), kS Au2_1 u2_1.length cu2_1 3 (u2_1.flatMap msgC), kS Ao8 ((rtake_m (⟨u2_0, u2_1, u2_2⟩ : NetM) ((ix l s9).i)).2.2).l.length co8 3 (((rtake_m (⟨u2_0, u2_1, u2_2⟩ : NetM) ((ix l s9).i)).2.2).l.flatMap msgC)] := st
              refine ⟨(st.picks [0, 1, 2, 3, 4, 5, 6] (by decide)).takeK 4, ?_⟩
              refine Pl_y rfl (wtd0 rfl) rfl rfl (y_nev (b := decide (from31_m ((ptake_m Tg1 ((ix l s9).i)).1) = (rtake_m (⟨u2_0, u2_1, u2_2⟩ : NetM) ((ix l s9).i)).1)) rfl rfl rfl Ty.eg_46 (by rw [Ty.ag_46]; simp) (eqv_46 (from31_m ((ptake_m Tg1 ((ix l s9).i)).1)) ((rtake_m (⟨u2_0, u2_1, u2_2⟩ : NetM) ((ix l s9).i)).1))) ?_
              refine Pl_y rfl (wtd0 rfl) rfl rfl (y_move rfl rfl) ?_
              have hd7 : from31_m ((ptake_m Tg1 ((ix l s9).i)).1) = (rtake_m (⟨u2_0, u2_1, u2_2⟩ : NetM) ((ix l s9).i)).1 := by
                exact (rel_take hrel _).1
              refine Pl_bool 141 rfl (fun hc15 => absurd hc15 (by simp [hd7])) (fun _ => ?_)
              refine Pl_y rfl (wtdT rfl rfl rfl) rfl rfl (y_move rfl rfl) ?_
              refine Pl_y rfl (wtdT rfl rfl rfl) rfl rfl (y_move rfl rfl) ?_
              refine Pl_y rfl (wtdT rfl rfl rfl) rfl rfl (y_ne rfl rfl rfl) ?_
              refine Pl_y rfl (wtd0 rfl) rfl rfl (y_pick_f rfl rfl rfl) ?_
              refine Pl_nil (Th_n (hK30 _ _ ?_))
              have hd8 : ((ptake_m Tg1 ((ix l s9).i)).2.1) = ((rtake_m (⟨u2_0, u2_1, u2_2⟩ : NetM) ((ix l s9).i)).2.1) := by
                exact (rel_take hrel _).2.1
              refine Wp_cond rfl (fun hc16 => absurd hc16 (by simp [hd8])) (fun _ => ?_)
              refine Wp_skip (Ib_n (Th_n (hK16 _ _ ?_)))
              refine Wp_seq fun K31 hK31 => ?_
              refine Wp_plan (fun W => St X W (pickL (hOf st) [0, 1, 2, 3, 4, 5, 6]) (kOf st)) [(true, 0), (true, 1), (false, 2), (true, 3), (true, 4), (true, 5), (true, 6), (true, 7), (true, 8), (true, 9), (true, 10), (true, 11), (true, 13), (true, 14), (true, 15), (true, 16), (true, 17), (true, 18), (true, 19), (false, 12), (false, 20), (true, 21), (true, 22)] Ty.mx_0 (by kernel_rfl) (by kernel_rfl) rfl ((st.picks [0, 1, 2, 3, 4, 5, 6] (by decide)).drew) ?_
              have st := st.drew
              have hF := hF.step0 (Fr.drew _)
              refine Pl_y rfl (wtd0 rfl) rfl rfl (y_move rfl rfl) ?_
              refine Pl_y rfl (wtd0 rfl) rfl rfl (y_move rfl rfl) ?_
              refine Pl_a rfl (wtd0 rfl) (by rfl) ?_
              refine a_call rfl rfl rfl rfl (same31_ok (keys (pickL (hOf st) [0, 3, 6]) ++ X) _ g1 A4 c4 sp4 ((ptake_m Tg1 ((ix l s9).i)).2.2) hok4 g2 (⟨((rtake_m (⟨u2_0, u2_1, u2_2⟩ : NetM) ((ix l s9).i)).2.2).c, ((rtake_m (⟨u2_0, u2_1, u2_2⟩ : NetM) ((ix l s9).i)).2.2).l, ((rtake_m (⟨u2_0, u2_1, u2_2⟩ : NetM) ((ix l s9).i)).2.2).count⟩ : NetM) Ao7 co7 spo4 Ao8 co8 (st.sub [0, 3, 6] [1, 2, 4, 5] [3] (by decide)) how4 (by first | exact hrelN.row hokN)) (fun v w23 ⟨hv, hf⟩ => ?_)
              subst hv
              have st := st.keep0 hf
              have hF := hF.step0 hf
              have st : St X w23 [(some g3, Cl [.int .i64 ((ix l s9).kind), .int .i64 ((ix l s9).m.f), .int .i64 ((ix l s9).m.t), sv ((ix l s9).m.s), .int .i64 ((ix l s9).i), .int .i64 ((ix l s9).n)] 48), (some g1, Cl (ntC A4 c4 ((ptake_m Tg1 ((ix l s9).i)).2.2)) 115), (blkOf A4, Cl (rowC ((ptake_m Tg1 ((ix l s9).i)).2.2).row ++ sp4) 51), (some g4, Cl [.int .i64 (((ptake_m Tg1 ((ix l s9).i)).1).f), .int .i64 (((ptake_m Tg1 ((ix l s9).i)).1).t), sv (((ptake_m Tg1 ((ix l s9).i)).1).s)] 51), (some g2, Cl [.slice Ao7 (((rtake_m (⟨u2_0, u2_1, u2_2⟩ : NetM) ((ix l s9).i)).2.2).c.length) co7, .slice Ao8 (((rtake_m (⟨u2_0, u2_1, u2_2⟩ : NetM) ((ix l s9).i)).2.2).l.length) co8, .int .i64 (((rtake_m (⟨u2_0, u2_1, u2_2⟩ : NetM) ((ix l s9).i)).2.2).count)] 118), (blkOf Ao7, Cl ((((rtake_m (⟨u2_0, u2_1, u2_2⟩ : NetM) ((ix l s9).i)).2.2).c).flatMap (fun x => [Value.int .i64 x]) ++ spo4) 3), (some g5, Cl [.int .i64 (((rtake_m (⟨u2_0, u2_1, u2_2⟩ : NetM) ((ix l s9).i)).1).f), .int .i64 (((rtake_m (⟨u2_0, u2_1, u2_2⟩ : NetM) ((ix l s9).i)).1).t), sv (((rtake_m (⟨u2_0, u2_1, u2_2⟩ : NetM) ((ix l s9).i)).1).s)] 46)] [kS (some ⟨gi1, bi1, none⟩) l.length c_l 6 (l.flatMap opMC), kS Ao2 ((mnew_m n).1).l.length co2 3 (((mnew_m n).1).l.flatMap msgC), kS Au2_1 u2_1.length cu2_1 3 (u2_1.flatMap msgC), kS Ao8 ((rtake_m (⟨u2_0, u2_1, u2_2⟩ : NetM) ((ix l s9).i)).2.2).l.length co8 3 (((rtake_m (⟨u2_0, u2_1, u2_2⟩ : NetM) ((ix l s9).i)).2.2).l.flatMap msgC)] := st
              refine ⟨(st.picks [0, 1, 2, 3, 4, 5, 6] (by decide)).takeK 4, ?_⟩
              refine Pl_y rfl (wtd0 rfl) rfl rfl (y_not rfl rfl) ?_
              refine Pl_y rfl (wtd0 rfl) rfl rfl (y_move rfl rfl) ?_
              have hd9 : (same31_m ((ptake_m Tg1 ((ix l s9).i)).2.2) (⟨((rtake_m (⟨u2_0, u2_1, u2_2⟩ : NetM) ((ix l s9).i)).2.2).c, ((rtake_m (⟨u2_0, u2_1, u2_2⟩ : NetM) ((ix l s9).i)).2.2).l, ((rtake_m (⟨u2_0, u2_1, u2_2⟩ : NetM) ((ix l s9).i)).2.2).count⟩ : NetM)) = true := by
                exact rel_same hrelN
              refine Pl_bool 172 rfl (fun hc17 => absurd hc17 (by simp [hd9])) (fun _ => ?_)
              refine Pl_y rfl (wtdT rfl rfl rfl) rfl rfl (y_move rfl rfl) ?_
              refine Pl_y rfl (wtdT rfl rfl rfl) rfl rfl (y_fld rfl rfl Ty.fo_48_1) ?_
              refine Pl_y rfl (wtdT rfl rfl rfl) rfl rfl (y_fld rfl rfl Ty.fo_46_0) ?_
              refine Pl_y rfl (wtdT rfl rfl rfl) rfl rfl (y_load (i := 0) rfl rfl Ty.pl_3 (fun _ h => h.hp) rfl rfl) ?_
              refine Pl_y rfl (wtdT rfl rfl rfl) rfl rfl (y_fld rfl rfl Ty.fo_48_1) ?_
              refine Pl_y rfl (wtdT rfl rfl rfl) rfl rfl (y_fld rfl rfl Ty.fo_46_1) ?_
              refine Pl_y rfl (wtdT rfl rfl rfl) rfl rfl (y_load (i := 0) rfl rfl Ty.pl_3 (fun _ h => h.hp) rfl rfl) ?_
              refine Pl_y rfl (wtdT rfl rfl rfl) rfl rfl (y_move rfl rfl) ?_
              refine Pl_y rfl (wtdT rfl rfl rfl) rfl rfl (y_fld rfl rfl Ty.fo_48_1) ?_
              refine Pl_y rfl (wtdT rfl rfl rfl) rfl rfl (y_fld rfl rfl Ty.fo_46_0) ?_
              refine Pl_y rfl (wtdT rfl rfl rfl) rfl rfl (y_load (i := 0) rfl rfl Ty.pl_3 (fun _ h => h.hp) rfl rfl) ?_
              refine Pl_y rfl (wtdT rfl rfl rfl) rfl rfl (y_fld rfl rfl Ty.fo_48_1) ?_
              refine Pl_y rfl (wtdT rfl rfl rfl) rfl rfl (y_fld rfl rfl Ty.fo_46_1) ?_
              refine Pl_y rfl (wtdT rfl rfl rfl) rfl rfl (y_load (i := 0) rfl rfl Ty.pl_3 (fun _ h => h.hp) rfl rfl) ?_
              refine Pl_a rfl (wtdT rfl rfl rfl) (by rfl) ?_
              refine a_call rfl rfl rfl rfl (papart_ok (keys (pickL (hOf st) [0, 3, 4, 5, 6]) ++ X) _ g1 A4 c4 sp4 ((ptake_m Tg1 ((ix l s9).i)).2.2) hok4 ((ix l s9).m.f) ((ix l s9).m.t) (st.sub [0, 3, 4, 5, 6] [1, 2] [] (by decide))) (fun v w24 ⟨hv, hf⟩ => ?_)
              subst hv
              have st := st.keep0 hf
              have hF := hF.step0 hf
              have st : St X w24 [(some g3, Cl [.int .i64 ((ix l s9).kind), .int .i64 ((ix l s9).m.f), .int .i64 ((ix l s9).m.t), sv ((ix l s9).m.s), .int .i64 ((ix l s9).i), .int .i64 ((ix l s9).n)] 48), (some g1, Cl (ntC A4 c4 ((ptake_m Tg1 ((ix l s9).i)).2.2)) 115), (blkOf A4, Cl (rowC ((ptake_m Tg1 ((ix l s9).i)).2.2).row ++ sp4) 51), (some g4, Cl [.int .i64 (((ptake_m Tg1 ((ix l s9).i)).1).f), .int .i64 (((ptake_m Tg1 ((ix l s9).i)).1).t), sv (((ptake_m Tg1 ((ix l s9).i)).1).s)] 51), (some g2, Cl [.slice Ao7 (((rtake_m (⟨u2_0, u2_1, u2_2⟩ : NetM) ((ix l s9).i)).2.2).c.length) co7, .slice Ao8 (((rtake_m (⟨u2_0, u2_1, u2_2⟩ : NetM) ((ix l s9).i)).2.2).l.length) co8, .int .i64 (((rtake_m (⟨u2_0, u2_1, u2_2⟩ : NetM) ((ix l s9).i)).2.2).count)] 118), (blkOf Ao7, Cl ((((rtake_m (⟨u2_0, u2_1, u2_2⟩ : NetM) ((ix l s9).i)).2.2).c).flatMap (fun x => [Value.int .i64 x]) ++ spo4) 3), (some g5, Cl [.int .i64 (((rtake_m (⟨u2_0, u2_1, u2_2⟩ : NetM) ((ix l s9).i)).1).f), .int .i64 (((rtake_m (⟨u2_0, u2_1, u2_2⟩ : NetM) ((ix l s9).i)).1).t), sv (((rtake_m (⟨u2_0, u2_1, u2_2⟩ : NetM) ((ix l s9).i)).1).s)] 46)] [kS (some ⟨gi1, bi1, none⟩) l.length c_l 6 (l.flatMap opMC), kS Ao2 ((mnew_m n).1).l.length co2 3 (((mnew_m n).1).l.flatMap msgC), kS Au2_1 u2_1.length cu2_1 3 (u2_1.flatMap msgC), kS Ao8 ((rtake_m (⟨u2_0, u2_1, u2_2⟩ : NetM) ((ix l s9).i)).2.2).l.length co8 3 (((rtake_m (⟨u2_0, u2_1, u2_2⟩ : NetM) ((ix l s9).i)).2.2).l.flatMap msgC)] := st
              refine ⟨(st.picks [0, 1, 2, 3, 4, 5, 6] (by decide)).takeK 4, ?_⟩
              refine Pl_a rfl (wtdT rfl rfl rfl) (by rfl) ?_
              refine a_call rfl rfl rfl rfl (rapart_ok (keys (pickL (hOf st) [0, 1, 2, 3, 6]) ++ X) _ g2 (⟨((rtake_m (⟨u2_0, u2_1, u2_2⟩ : NetM) ((ix l s9).i)).2.2).c, ((rtake_m (⟨u2_0, u2_1, u2_2⟩ : NetM) ((ix l s9).i)).2.2).l, ((rtake_m (⟨u2_0, u2_1, u2_2⟩ : NetM) ((ix l s9).i)).2.2).count⟩ : NetM) Ao7 co7 spo4 Ao8 co8 ((ix l s9).m.f) ((ix l s9).m.t) (st.sub [0, 1, 2, 3, 6] [4, 5] [3] (by decide)) how4) (fun v w25 ⟨hv, hf⟩ => ?_)
              subst hv
              have st := st.keep0 hf
              have hF := hF.step0 hf
              have st : St X w25 [(some g3, Cl [.int .i64 ((ix l s9).kind), .int .i64 ((ix l s9).m.f), .int .i64 ((ix l s9).m.t), sv ((ix l s9).m.s), .int .i64 ((ix l s9).i), .int .i64 ((ix l s9).n)] 48), (some g1, Cl (ntC A4 c4 ((ptake_m Tg1 ((ix l s9).i)).2.2)) 115), (blkOf A4, Cl (rowC ((ptake_m Tg1 ((ix l s9).i)).2.2).row ++ sp4) 51), (some g4, Cl [.int .i64 (((ptake_m Tg1 ((ix l s9).i)).1).f), .int .i64 (((ptake_m Tg1 ((ix l s9).i)).1).t), sv (((ptake_m Tg1 ((ix l s9).i)).1).s)] 51), (some g2, Cl [.slice Ao7 (((rtake_m (⟨u2_0, u2_1, u2_2⟩ : NetM) ((ix l s9).i)).2.2).c.length) co7, .slice Ao8 (((rtake_m (⟨u2_0, u2_1, u2_2⟩ : NetM) ((ix l s9).i)).2.2).l.length) co8, .int .i64 (((rtake_m (⟨u2_0, u2_1, u2_2⟩ : NetM) ((ix l s9).i)).2.2).count)] 118), (blkOf Ao7, Cl ((((rtake_m (⟨u2_0, u2_1, u2_2⟩ : NetM) ((ix l s9).i)).2.2).c).flatMap (fun x => [Value.int .i64 x]) ++ spo4) 3), (some g5, Cl [.int .i64 (((rtake_m (⟨u2_0, u2_1, u2_2⟩ : NetM) ((ix l s9).i)).1).f), .int .i64 (((rtake_m (⟨u2_0, u2_1, u2_2⟩ : NetM) ((ix l s9).i)).1).t), sv (((rtake_m (⟨u2_0, u2_1, u2_2⟩ : NetM) ((ix l s9).i)).1).s)] 46)] [kS (some ⟨gi1, bi1, none⟩) l.length c_l 6 (l.flatMap opMC), kS Ao2 ((mnew_m n).1).l.length co2 3 (((mnew_m n).1).l.flatMap msgC), kS Au2_1 u2_1.length cu2_1 3 (u2_1.flatMap msgC), kS Ao8 ((rtake_m (⟨u2_0, u2_1, u2_2⟩ : NetM) ((ix l s9).i)).2.2).l.length co8 3 (((rtake_m (⟨u2_0, u2_1, u2_2⟩ : NetM) ((ix l s9).i)).2.2).l.flatMap msgC)] := st
              refine ⟨(st.picks [0, 1, 2, 3, 4, 5, 6] (by decide)).takeK 4, ?_⟩
              refine Pl_y rfl (wtdT rfl rfl rfl) rfl rfl (y_neb rfl rfl rfl Try.underlying4) ?_
              refine Pl_y rfl (wtd0 rfl) rfl rfl (y_pick_f rfl rfl rfl) ?_
              refine Pl_nil (Th_n (hK31 _ _ ?_))
              have hd10 : (papart_m ((ptake_m Tg1 ((ix l s9).i)).2.2) ((ix l s9).m.f) ((ix l s9).m.t)) = (rapart_m (⟨((rtake_m (⟨u2_0, u2_1, u2_2⟩ : NetM) ((ix l s9).i)).2.2).c, ((rtake_m (⟨u2_0, u2_1, u2_2⟩ : NetM) ((ix l s9).i)).2.2).l, ((rtake_m (⟨u2_0, u2_1, u2_2⟩ : NetM) ((ix l s9).i)).2.2).count⟩ : NetM) ((ix l s9).m.f) ((ix l s9).m.t)) := by
                exact rel_apart hrelN _ _
              refine Wp_cond rfl (fun hc18 => absurd hc18 (by simp [hd10])) (fun _ => ?_)
              refine Wp_skip (Ib_n (Th_n (hK11 _ _ ?_)))
              refine Wp_region ?_
              refine Ls_y (wtd0 rfl) rfl rfl (y_move rfl rfl) ?_
              refine Ls_y (wtd0 rfl) rfl rfl (y_add (c := s9 + 1) rfl rfl rfl (wf_i64 (by first | omega | (simp; omega)))) ?_
              refine Ls_y (wtd0 rfl) rfl rfl (y_assign rfl rfl) ?_
              refine Ls_nil (Th_n (?_))
              exact ⟨fuel, [(1, _), (5, _), (7, _), (9, _)], Nat.lt_succ_self _, ⟨rfl, rfl, rfl, rfl, trivial⟩, (s9 + 1), (((rtake_m (⟨u2_0, u2_1, u2_2⟩ : NetM) ((ix l s9).i)).2.2).c), (((rtake_m (⟨u2_0, u2_1, u2_2⟩ : NetM) ((ix l s9).i)).2.2).l), (((rtake_m (⟨u2_0, u2_1, u2_2⟩ : NetM) ((ix l s9).i)).2.2).count), ((ptake_m Tg1 ((ix l s9).i)).2.2), Ao7, co7, spo4, Ao8, co8, A4, c4, sp4, rfl, by first | omega | (simp; omega), by exact ⟨by omega, by omega, hrelN, by omega⟩, how4, hnew4, hok4, hfo4, (st.picks [1, 2, 4, 5] (by decide)).pickK [0, 1, 3], hF⟩
            · have hc14 : ¬ (((ix l s9).kind) = 1) := by simpa using hc14
              refine Wp_seq fun K32 hK32 => ?_
              refine Wp_region ?_
              refine Ls_y (wtd0 rfl) rfl rfl (y_eq rfl rfl rfl) ?_
              refine Ls_y (wtd0 rfl) rfl rfl (y_assign rfl rfl) ?_
              refine Ls_nil (Th_n (hK32 _ _ ?_))
              refine Wp_cond rfl (fun hc19 => ?_) (fun hc19 => ?_)
              · have hc19 : ((ix l s9).kind) = 2 := by simpa using hc19
                refine Wp_seq fun K33 hK33 => ?_
                refine Wp_plan (fun W => St X W (pickL (hOf st) [4]) (kOf st)) [(true, 0), (true, 1), (true, 2), (true, 4), (true, 5), (true, 6), (false, 3), (false, 7), (true, 8)] Ty.mx_0 (by kernel_rfl) (by kernel_rfl) rfl ((st.picks [4] (by decide)).drew) ?_
                have st := st.drew
                have hF := hF.step0 (Fr.drew _)
                refine Pl_y rfl (wtd0 rfl) rfl rfl (y_move rfl rfl) ?_
                refine Pl_y rfl (wtd0 rfl) rfl rfl (y_fld rfl rfl Ty.fo_48_2) ?_
                refine Pl_y rfl (wtd0 rfl) rfl rfl (y_load (i := 0) rfl rfl Ty.pl_3 (fun _ h => h.hp) rfl rfl) ?_
                refine Pl_y rfl (wtd0 rfl) rfl rfl (y_move rfl rfl) ?_
                refine Pl_y rfl (wtd0 rfl) rfl rfl (y_fld rfl rfl Ty.fo_48_2) ?_
                refine Pl_y rfl (wtd0 rfl) rfl rfl (y_load (i := 0) rfl rfl Ty.pl_3 (fun _ h => h.hp) rfl rfl) ?_
                refine Pl_a rfl (wtd0 rfl) (by rfl) ?_
                refine a_call rfl rfl rfl rfl (pdrop_ok (keys (pickL (hOf st) [2, 3, 4]) ++ X) _ g1 A_Tg1 c_Tg1 sp_Tg1 Tg1 hokTg1 ((ix l s9).i) (st.sub [2, 3, 4] [0, 1] [] (by decide)) (by omega)) (fun v w26 ⟨A5, c5, sp5, hv, hok5, hN9, hfO7, hkc9⟩ => ?_)
                subst hv
                have hfo5 : ∀ k ∈ keys [(some g1, Cl (ntC A5 c5 ((pdrop_m Tg1 ((ix l s9).i)).2)) 115), (blkOf A5, Cl (rowC ((pdrop_m Tg1 ((ix l s9).i)).2).row ++ sp5) 51)], k ∈ ([]) ∨ w.heap.size ≤ k := fun k hk => (hkc9 k (hk)).elim (fun h => (kc_app hfoTg1 (kc_n)) k h) (fun h => .inr (Nat.le_trans hF.size h))
                have st := st.callS [2, 3, 4] [0, 1] (by decide) rfl hN9 hfO7 hkc9
                have hF := hF.step hfO7 (kc_app hfoTg1 (kc_n))
                have st : St X w26 [(some g2, Cl [.slice Au2_0 u2_0.length cu2_0, .slice Au2_1 u2_1.length cu2_1, .int .i64 u2_2] 118), (blkOf Au2_0, Cl (u2_0.flatMap (fun x => [Value.int .i64 x]) ++ spu2_0) 3), (some g3, Cl [.int .i64 ((ix l s9).kind), .int .i64 ((ix l s9).m.f), .int .i64 ((ix l s9).m.t), sv ((ix l s9).m.s), .int .i64 ((ix l s9).i), .int .i64 ((ix l s9).n)] 48), (some g1, Cl (ntC A5 c5 ((pdrop_m Tg1 ((ix l s9).i)).2)) 115), (blkOf A5, Cl (rowC ((pdrop_m Tg1 ((ix l s9).i)).2).row ++ sp5) 51)] [kS (some ⟨gi1, bi1, none⟩) l.length c_l 6 (l.flatMap opMC), kS Ao2 ((mnew_m n).1).l.length co2 3 (((mnew_m n).1).l.flatMap msgC), kS Au2_1 u2_1.length cu2_1 3 (u2_1.flatMap msgC)] := st
                refine ⟨(st.picks [2] (by decide)).takeK 3, ?_⟩
                refine Pl_a rfl (wtd0 rfl) (by rfl) ?_
                refine a_call rfl rfl rfl rfl (rdrop_ok (keys (pickL (hOf st) [2, 3, 4]) ++ X) _ g2 (⟨u2_0, u2_1, u2_2⟩ : NetM) Au2_0 cu2_0 spu2_0 Au2_1 cu2_1 ((ix l s9).i) (st.sub [2, 3, 4] [0, 1] [2] (by decide)) howu2_0 (hrel.row hokTg1.1) (hrel.cnt hokTg1.1 (by omega))) (fun v w27 ⟨Ao9, co9, spo5, Ao10, co10, hv, how5, hN10, hfO8, hkc10⟩ => ?_)
                subst hv
                have hnew5 : ∀ g, blkOf Ao9 = some g → g ∈ ([]) ∨ w.heap.size ≤ g := fun g hg => (hkc10 g (by simp [keys, hg])).elim (fun h => (kc_s (.inr hg1) (kc_b newu2_0 (kc_n))) g h) (fun h => .inr (Nat.le_trans hF.size h))
                have hlehow5 := Ow.le how5
                have st := st.callS [2, 3, 4] [0, 1] (by decide) rfl hN10 hfO8 hkc10
                have hF := hF.step hfO8 (kc_s (.inr hg1) (kc_b newu2_0 (kc_n)))
                have st : St X w27 [(some g3, Cl [.int .i64 ((ix l s9).kind), .int .i64 ((ix l s9).m.f), .int .i64 ((ix l s9).m.t), sv ((ix l s9).m.s), .int .i64 ((ix l s9).i), .int .i64 ((ix l s9).n)] 48), (some g1, Cl (ntC A5 c5 ((pdrop_m Tg1 ((ix l s9).i)).2)) 115), (blkOf A5, Cl (rowC ((pdrop_m Tg1 ((ix l s9).i)).2).row ++ sp5) 51), (some g2, Cl [.slice Ao9 (((rdrop_m (⟨u2_0, u2_1, u2_2⟩ : NetM) ((ix l s9).i)).2).c.length) co9, .slice Ao10 (((rdrop_m (⟨u2_0, u2_1, u2_2⟩ : NetM) ((ix l s9).i)).2).l.length) co10, .int .i64 (((rdrop_m (⟨u2_0, u2_1, u2_2⟩ : NetM) ((ix l s9).i)).2).count)] 118), (blkOf Ao9, Cl ((((rdrop_m (⟨u2_0, u2_1, u2_2⟩ : NetM) ((ix l s9).i)).2).c).flatMap (fun x => [Value.int .i64 x]) ++ spo5) 3)] [kS (some ⟨gi1, bi1, none⟩) l.length c_l 6 (l.flatMap opMC), kS Ao2 ((mnew_m n).1).l.length co2 3 (((mnew_m n).1).l.flatMap msgC), kS Au2_1 u2_1.length cu2_1 3 (u2_1.flatMap msgC), kS Ao10 ((rdrop_m (⟨u2_0, u2_1, u2_2⟩ : NetM) ((ix l s9).i)).2).l.length co10 3 (((rdrop_m (⟨u2_0, u2_1, u2_2⟩ : NetM) ((ix l s9).i)).2).l.flatMap msgC)] := st
                refine ⟨(st.picks [0] (by decide)).takeK 3, ?_⟩
                have hrelN := (rel_drop hrel (ix l s9).i).2
                have hokN : NtOk (pdrop_m Tg1 (ix l s9).i).2 := (dropT_ok hokTg1.1 _).1
                have hlostN := lost_drop hokTg1.1 (ix l s9).i
                refine Pl_y rfl (wtd0 rfl) rfl rfl (y_ne rfl rfl rfl) ?_
                refine Pl_nil (Th_n (hK33 _ _ ?_))
                have hd11 : ((pdrop_m Tg1 ((ix l s9).i)).1) = ((rdrop_m (⟨u2_0, u2_1, u2_2⟩ : NetM) ((ix l s9).i)).1) := by
                  exact (rel_drop hrel _).1
                refine Wp_cond rfl (fun hc20 => absurd hc20 (by simp [hd11])) (fun _ => ?_)
                refine Wp_skip (Ib_n (Th_n (hK16 _ _ ?_)))
                refine Wp_seq fun K34 hK34 => ?_
                refine Wp_plan (fun W => St X W (pickL (hOf st) [0, 1, 2, 3, 4]) (kOf st)) [(true, 0), (true, 1), (false, 2), (true, 3), (true, 4), (true, 5), (true, 6), (true, 7), (true, 8), (true, 9), (true, 10), (true, 11), (true, 13), (true, 14), (true, 15), (true, 16), (true, 17), (true, 18), (true, 19), (false, 12), (false, 20), (true, 21), (true, 22)] Ty.mx_0 (by kernel_rfl) (by kernel_rfl) rfl ((st.picks [0, 1, 2, 3, 4] (by decide)).drew) ?_
                have st := st.drew
                have hF := hF.step0 (Fr.drew _)
                refine Pl_y rfl (wtd0 rfl) rfl rfl (y_move rfl rfl) ?_
                refine Pl_y rfl (wtd0 rfl) rfl rfl (y_move rfl rfl) ?_
                refine Pl_a rfl (wtd0 rfl) (by rfl) ?_
                refine a_call rfl rfl rfl rfl (same31_ok (keys (pickL (hOf st) [0]) ++ X) _ g1 A5 c5 sp5 ((pdrop_m Tg1 ((ix l s9).i)).2) hok5 g2 (⟨((rdrop_m (⟨u2_0, u2_1, u2_2⟩ : NetM) ((ix l s9).i)).2).c, ((rdrop_m (⟨u2_0, u2_1, u2_2⟩ : NetM) ((ix l s9).i)).2).l, ((rdrop_m (⟨u2_0, u2_1, u2_2⟩ : NetM) ((ix l s9).i)).2).count⟩ : NetM) Ao9 co9 spo5 Ao10 co10 (st.sub [0] [1, 2, 3, 4] [3] (by decide)) how5 (by first | exact hrelN.row hokN)) (fun v w28 ⟨hv, hf⟩ => ?_)
                subst hv
                have st := st.keep0 hf
                have hF := hF.step0 hf
                have st : St X w28 [(some g3, Cl [.int .i64 ((ix l s9).kind), .int .i64 ((ix l s9).m.f), .int .i64 ((ix l s9).m.t), sv ((ix l s9).m.s), .int .i64 ((ix l s9).i), .int .i64 ((ix l s9).n)] 48), (some g1, Cl (ntC A5 c5 ((pdrop_m Tg1 ((ix l s9).i)).2)) 115), (blkOf A5, Cl (rowC ((pdrop_m Tg1 ((ix l s9).i)).2).row ++ sp5) 51), (some g2, Cl [.slice Ao9 (((rdrop_m (⟨u2_0, u2_1, u2_2⟩ : NetM) ((ix l s9).i)).2).c.length) co9, .slice Ao10 (((rdrop_m (⟨u2_0, u2_1, u2_2⟩ : NetM) ((ix l s9).i)).2).l.length) co10, .int .i64 (((rdrop_m (⟨u2_0, u2_1, u2_2⟩ : NetM) ((ix l s9).i)).2).count)] 118), (blkOf Ao9, Cl ((((rdrop_m (⟨u2_0, u2_1, u2_2⟩ : NetM) ((ix l s9).i)).2).c).flatMap (fun x => [Value.int .i64 x]) ++ spo5) 3)] [kS (some ⟨gi1, bi1, none⟩) l.length c_l 6 (l.flatMap opMC), kS Ao2 ((mnew_m n).1).l.length co2 3 (((mnew_m n).1).l.flatMap msgC), kS Au2_1 u2_1.length cu2_1 3 (u2_1.flatMap msgC), kS Ao10 ((rdrop_m (⟨u2_0, u2_1, u2_2⟩ : NetM) ((ix l s9).i)).2).l.length co10 3 (((rdrop_m (⟨u2_0, u2_1, u2_2⟩ : NetM) ((ix l s9).i)).2).l.flatMap msgC)] := st
                refine ⟨(st.picks [0, 1, 2, 3, 4] (by decide)).takeK 4, ?_⟩
                refine Pl_y rfl (wtd0 rfl) rfl rfl (y_not rfl rfl) ?_
                refine Pl_y rfl (wtd0 rfl) rfl rfl (y_move rfl rfl) ?_
                have hd12 : (same31_m ((pdrop_m Tg1 ((ix l s9).i)).2) (⟨((rdrop_m (⟨u2_0, u2_1, u2_2⟩ : NetM) ((ix l s9).i)).2).c, ((rdrop_m (⟨u2_0, u2_1, u2_2⟩ : NetM) ((ix l s9).i)).2).l, ((rdrop_m (⟨u2_0, u2_1, u2_2⟩ : NetM) ((ix l s9).i)).2).count⟩ : NetM)) = true := by
                  exact rel_same hrelN
                refine Pl_bool 172 rfl (fun hc21 => absurd hc21 (by simp [hd12])) (fun _ => ?_)
                refine Pl_y rfl (wtdT rfl rfl rfl) rfl rfl (y_move rfl rfl) ?_
                refine Pl_y rfl (wtdT rfl rfl rfl) rfl rfl (y_fld rfl rfl Ty.fo_48_1) ?_
                refine Pl_y rfl (wtdT rfl rfl rfl) rfl rfl (y_fld rfl rfl Ty.fo_46_0) ?_
                refine Pl_y rfl (wtdT rfl rfl rfl) rfl rfl (y_load (i := 0) rfl rfl Ty.pl_3 (fun _ h => h.hp) rfl rfl) ?_
                refine Pl_y rfl (wtdT rfl rfl rfl) rfl rfl (y_fld rfl rfl Ty.fo_48_1) ?_
                refine Pl_y rfl (wtdT rfl rfl rfl) rfl rfl (y_fld rfl rfl Ty.fo_46_1) ?_
                refine Pl_y rfl (wtdT rfl rfl rfl) rfl rfl (y_load (i := 0) rfl rfl Ty.pl_3 (fun _ h => h.hp) rfl rfl) ?_
                refine Pl_y rfl (wtdT rfl rfl rfl) rfl rfl (y_move rfl rfl) ?_
                refine Pl_y rfl (wtdT rfl rfl rfl) rfl rfl (y_fld rfl rfl Ty.fo_48_1) ?_
                refine Pl_y rfl (wtdT rfl rfl rfl) rfl rfl (y_fld rfl rfl Ty.fo_46_0) ?_
                refine Pl_y rfl (wtdT rfl rfl rfl) rfl rfl (y_load (i := 0) rfl rfl Ty.pl_3 (fun _ h => h.hp) rfl rfl) ?_
                refine Pl_y rfl (wtdT rfl rfl rfl) rfl rfl (y_fld rfl rfl Ty.fo_48_1) ?_
                refine Pl_y rfl (wtdT rfl rfl rfl) rfl rfl (y_fld rfl rfl Ty.fo_46_1) ?_
                refine Pl_y rfl (wtdT rfl rfl rfl) rfl rfl (y_load (i := 0) rfl rfl Ty.pl_3 (fun _ h => h.hp) rfl rfl) ?_
                refine Pl_a rfl (wtdT rfl rfl rfl) (by rfl) ?_
                refine a_call rfl rfl rfl rfl (papart_ok (keys (pickL (hOf st) [0, 3, 4]) ++ X) _ g1 A5 c5 sp5 ((pdrop_m Tg1 ((ix l s9).i)).2) hok5 ((ix l s9).m.f) ((ix l s9).m.t) (st.sub [0, 3, 4] [1, 2] [] (by decide))) (fun v w29 ⟨hv, hf⟩ => ?_)
                subst hv
                have st := st.keep0 hf
                have hF := hF.step0 hf
                have st : St X w29 [(some g3, Cl [.int .i64 ((ix l s9).kind), .int .i64 ((ix l s9).m.f), .int .i64 ((ix l s9).m.t), sv ((ix l s9).m.s), .int .i64 ((ix l s9).i), .int .i64 ((ix l s9).n)] 48), (some g1, Cl (ntC A5 c5 ((pdrop_m Tg1 ((ix l s9).i)).2)) 115), (blkOf A5, Cl (rowC ((pdrop_m Tg1 ((ix l s9).i)).2).row ++ sp5) 51), (some g2, Cl [.slice Ao9 (((rdrop_m (⟨u2_0, u2_1, u2_2⟩ : NetM) ((ix l s9).i)).2).c.length) co9, .slice Ao10 (((rdrop_m (⟨u2_0, u2_1, u2_2⟩ : NetM) ((ix l s9).i)).2).l.length) co10, .int .i64 (((rdrop_m (⟨u2_0, u2_1, u2_2⟩ : NetM) ((ix l s9).i)).2).count)] 118), (blkOf Ao9, Cl ((((rdrop_m (⟨u2_0, u2_1, u2_2⟩ : NetM) ((ix l s9).i)).2).c).flatMap (fun x => [Value.int .i64 x]) ++ spo5) 3)] [kS (some ⟨gi1, bi1, none⟩) l.length c_l 6 (l.flatMap opMC), kS Ao2 ((mnew_m n).1).l.length co2 3 (((mnew_m n).1).l.flatMap msgC), kS Au2_1 u2_1.length cu2_1 3 (u2_1.flatMap msgC), kS Ao10 ((rdrop_m (⟨u2_0, u2_1, u2_2⟩ : NetM) ((ix l s9).i)).2).l.length co10 3 (((rdrop_m (⟨u2_0, u2_1, u2_2⟩ : NetM) ((ix l s9).i)).2).l.flatMap msgC)] := st
                refine ⟨(st.picks [0, 1, 2, 3, 4] (by decide)).takeK 4, ?_⟩
                refine Pl_a rfl (wtdT rfl rfl rfl) (by rfl) ?_
                refine a_call rfl rfl rfl rfl (rapart_ok (keys (pickL (hOf st) [0, 1, 2]) ++ X) _ g2 (⟨((rdrop_m (⟨u2_0, u2_1, u2_2⟩ : NetM) ((ix l s9).i)).2).c, ((rdrop_m (⟨u2_0, u2_1, u2_2⟩ : NetM) ((ix l s9).i)).2).l, ((rdrop_m (⟨u2_0, u2_1, u2_2⟩ : NetM) ((ix l s9).i)).2).count⟩ : NetM) Ao9 co9 spo5 Ao10 co10 ((ix l s9).m.f) ((ix l s9).m.t) (st.sub [0, 1, 2] [3, 4] [3] (by decide)) how5) (fun v w30 ⟨hv, hf⟩ => ?_)
                subst hv
                have st := st.keep0 hf
                have hF := hF.step0 hf
                have st : St X w30 [(some g3, Cl [.int .i64 ((ix l s9).kind), .int .i64 ((ix l s9).m.f), .int .i64 ((ix l s9).m.t), sv ((ix l s9).m.s), .int .i64 ((ix l s9).i), .int .i64 ((ix l s9).n)] 48), (some g1, Cl (ntC A5 c5 ((pdrop_m Tg1 ((ix l s9).i)).2)) 115), (blkOf A5, Cl (rowC ((pdrop_m Tg1 ((ix l s9).i)).2).row ++ sp5) 51), (some g2, Cl [.slice Ao9 (((rdrop_m (⟨u2_0, u2_1, u2_2⟩ : NetM) ((ix l s9).i)).2).c.length) co9, .slice Ao10 (((rdrop_m (⟨u2_0, u2_1, u2_2⟩ : NetM) ((ix l s9).i)).2).l.length) co10, .int .i64 (((rdrop_m (⟨u2_0, u2_1, u2_2⟩ : NetM) ((ix l s9).i)).2).count)] 118), (blkOf Ao9, Cl ((((rdrop_m (⟨u2_0, u2_1, u2_2⟩ : NetM) ((ix l s9).i)).2).c).flatMap (fun x => [Value.int .i64 x]) ++ spo5) 3)] [kS (some ⟨gi1, bi1, none⟩) l.length c_l 6 (l.flatMap opMC), kS Ao2 ((mnew_m n).1).l.length co2 3 (((mnew_m n).1).l.flatMap msgC), kS Au2_1 u2_1.length cu2_1 3 (u2_1.flatMap msgC), kS Ao10 ((rdrop_m (⟨u2_0, u2_1, u2_2⟩ : NetM) ((ix l s9).i)).2).l.length co10 3 (((rdrop_m (⟨u2_0, u2_1, u2_2⟩ : NetM) ((ix l s9).i)).2).l.flatMap msgC)] := st
                refine ⟨(st.picks [0, 1, 2, 3, 4] (by decide)).takeK 4, ?_⟩
                refine Pl_y rfl (wtdT rfl rfl rfl) rfl rfl (y_neb rfl rfl rfl Try.underlying4) ?_
                refine Pl_y rfl (wtd0 rfl) rfl rfl (y_pick_f rfl rfl rfl) ?_
                refine Pl_nil (Th_n (hK34 _ _ ?_))
                have hd13 : (papart_m ((pdrop_m Tg1 ((ix l s9).i)).2) ((ix l s9).m.f) ((ix l s9).m.t)) = (rapart_m (⟨((rdrop_m (⟨u2_0, u2_1, u2_2⟩ : NetM) ((ix l s9).i)).2).c, ((rdrop_m (⟨u2_0, u2_1, u2_2⟩ : NetM) ((ix l s9).i)).2).l, ((rdrop_m (⟨u2_0, u2_1, u2_2⟩ : NetM) ((ix l s9).i)).2).count⟩ : NetM) ((ix l s9).m.f) ((ix l s9).m.t)) := by
                  exact rel_apart hrelN _ _
                refine Wp_cond rfl (fun hc22 => absurd hc22 (by simp [hd13])) (fun _ => ?_)
                refine Wp_skip (Ib_n (Th_n (hK11 _ _ ?_)))
                refine Wp_region ?_
                refine Ls_y (wtd0 rfl) rfl rfl (y_move rfl rfl) ?_
                refine Ls_y (wtd0 rfl) rfl rfl (y_add (c := s9 + 1) rfl rfl rfl (wf_i64 (by first | omega | (simp; omega)))) ?_
                refine Ls_y (wtd0 rfl) rfl rfl (y_assign rfl rfl) ?_
                refine Ls_nil (Th_n (?_))
                exact ⟨fuel, [(1, _), (5, _), (7, _), (9, _)], Nat.lt_succ_self _, ⟨rfl, rfl, rfl, rfl, trivial⟩, (s9 + 1), (((rdrop_m (⟨u2_0, u2_1, u2_2⟩ : NetM) ((ix l s9).i)).2).c), (((rdrop_m (⟨u2_0, u2_1, u2_2⟩ : NetM) ((ix l s9).i)).2).l), (((rdrop_m (⟨u2_0, u2_1, u2_2⟩ : NetM) ((ix l s9).i)).2).count), ((pdrop_m Tg1 ((ix l s9).i)).2), Ao9, co9, spo5, Ao10, co10, A5, c5, sp5, rfl, by first | omega | (simp; omega), by exact ⟨by omega, by omega, hrelN, by omega⟩, how5, hnew5, hok5, hfo5, (st.picks [1, 2, 3, 4] (by decide)).pickK [0, 1, 3], hF⟩
              · have hc19 : ¬ (((ix l s9).kind) = 2) := by simpa using hc19
                refine Wp_seq fun K35 hK35 => ?_
                refine Wp_region ?_
                refine Ls_y (wtd0 rfl) rfl rfl (y_eq rfl rfl rfl) ?_
                refine Ls_y (wtd0 rfl) rfl rfl (y_assign rfl rfl) ?_
                refine Ls_nil (Th_n (hK35 _ _ ?_))
                refine Wp_cond rfl (fun hc23 => ?_) (fun hc23 => ?_)
                · have hc23 : ((ix l s9).kind) = 3 := by simpa using hc23
                  refine Wp_seq fun K36 hK36 => ?_
                  refine Wp_plan (fun W => St X W (pickL (hOf st) [4]) (kOf st)) [(true, 0), (true, 1), (true, 2), (true, 4), (true, 5), (true, 6), (false, 3), (false, 7), (true, 8)] Ty.mx_0 (by kernel_rfl) (by kernel_rfl) rfl ((st.picks [4] (by decide)).drew) ?_
                  have st := st.drew
                  have hF := hF.step0 (Fr.drew _)
                  refine Pl_y rfl (wtd0 rfl) rfl rfl (y_move rfl rfl) ?_
                  refine Pl_y rfl (wtd0 rfl) rfl rfl (y_fld rfl rfl Ty.fo_48_2) ?_
                  refine Pl_y rfl (wtd0 rfl) rfl rfl (y_load (i := 0) rfl rfl Ty.pl_3 (fun _ h => h.hp) rfl rfl) ?_
                  refine Pl_y rfl (wtd0 rfl) rfl rfl (y_move rfl rfl) ?_
                  refine Pl_y rfl (wtd0 rfl) rfl rfl (y_fld rfl rfl Ty.fo_48_2) ?_
                  refine Pl_y rfl (wtd0 rfl) rfl rfl (y_load (i := 0) rfl rfl Ty.pl_3 (fun _ h => h.hp) rfl rfl) ?_
                  refine Pl_a rfl (wtd0 rfl) (by rfl) ?_
                  refine a_call rfl rfl rfl rfl (pdbl_ok (keys (pickL (hOf st) [2, 3, 4]) ++ X) _ g1 A_Tg1 c_Tg1 sp_Tg1 Tg1 hokTg1 ((ix l s9).i) (st.sub [2, 3, 4] [0, 1] [] (by decide))) (fun v w31 ⟨A6, c6, sp6, hv, hok6, hN11, hfO9, hkc11⟩ => ?_)
                  subst hv
                  have hfo6 : ∀ k ∈ keys [(some g1, Cl (ntC A6 c6 ((pdbl_m Tg1 ((ix l s9).i)).2)) 115), (blkOf A6, Cl (rowC ((pdbl_m Tg1 ((ix l s9).i)).2).row ++ sp6) 51)], k ∈ ([]) ∨ w.heap.size ≤ k := fun k hk => (hkc11 k (hk)).elim (fun h => (kc_app hfoTg1 (kc_n)) k h) (fun h => .inr (Nat.le_trans hF.size h))
                  have st := st.callS [2, 3, 4] [0, 1] (by decide) rfl hN11 hfO9 hkc11
                  have hF := hF.step hfO9 (kc_app hfoTg1 (kc_n))
                  have st : St X w31 [(some g2, Cl [.slice Au2_0 u2_0.length cu2_0, .slice Au2_1 u2_1.length cu2_1, .int .i64 u2_2] 118), (blkOf Au2_0, Cl (u2_0.flatMap (fun x => [Value.int .i64 x]) ++ spu2_0) 3), (some g3, Cl [.int .i64 ((ix l s9).kind), .int .i64 ((ix l s9).m.f), .int .i64 ((ix l s9).m.t), sv ((ix l s9).m.s), .int .i64 ((ix l s9).i), .int .i64 ((ix l s9).n)] 48), (some g1, Cl (ntC A6 c6 ((pdbl_m Tg1 ((ix l s9).i)).2)) 115), (blkOf A6, Cl (rowC ((pdbl_m Tg1 ((ix l s9).i)).2).row ++ sp6) 51)] [kS (some ⟨gi1, bi1, none⟩) l.length c_l 6 (l.flatMap opMC), kS Ao2 ((mnew_m n).1).l.length co2 3 (((mnew_m n).1).l.flatMap msgC), kS Au2_1 u2_1.length cu2_1 3 (u2_1.flatMap msgC)] := st
                  refine ⟨(st.picks [2] (by decide)).takeK 3, ?_⟩
                  refine Pl_a rfl (wtd0 rfl) (by rfl) ?_
                  refine a_call rfl rfl rfl rfl (rdouble_ok (keys (pickL (hOf st) [2, 3, 4]) ++ X) _ g2 (⟨u2_0, u2_1, u2_2⟩ : NetM) Au2_0 cu2_0 spu2_0 Au2_1 cu2_1 ((ix l s9).i) (st.sub [2, 3, 4] [0, 1] [2] (by decide)) howu2_0 (hrel.row hokTg1.1)) (fun v w32 ⟨Ao11, co11, spo6, Ao12, co12, hv, how6, hN12, hfO10, hkc12⟩ => ?_)
                  subst hv
                  have hnew6 : ∀ g, blkOf Ao11 = some g → g ∈ ([]) ∨ w.heap.size ≤ g := fun g hg => (hkc12 g (by simp [keys, hg])).elim (fun h => (kc_s (.inr hg1) (kc_b newu2_0 (kc_n))) g h) (fun h => .inr (Nat.le_trans hF.size h))
                  have hlehow6 := Ow.le how6
                  have st := st.callS [2, 3, 4] [0, 1] (by decide) rfl hN12 hfO10 hkc12
                  have hF := hF.step hfO10 (kc_s (.inr hg1) (kc_b newu2_0 (kc_n)))
                  have st : St X w32 [(some g3, Cl [.int .i64 ((ix l s9).kind), .int .i64 ((ix l s9).m.f), .int .i64 ((ix l s9).m.t), sv ((ix l s9).m.s), .int .i64 ((ix l s9).i), .int .i64 ((ix l s9).n)] 48), (some g1, Cl (ntC A6 c6 ((pdbl_m Tg1 ((ix l s9).i)).2)) 115), (blkOf A6, Cl (rowC ((pdbl_m Tg1 ((ix l s9).i)).2).row ++ sp6) 51), (some g2, Cl [.slice Ao11 (((rdouble_m (⟨u2_0, u2_1, u2_2⟩ : NetM) ((ix l s9).i)).2).c.length) co11, .slice Ao12 (((rdouble_m (⟨u2_0, u2_1, u2_2⟩ : NetM) ((ix l s9).i)).2).l.length) co12, .int .i64 (((rdouble_m (⟨u2_0, u2_1, u2_2⟩ : NetM) ((ix l s9).i)).2).count)] 118), (blkOf Ao11, Cl ((((rdouble_m (⟨u2_0, u2_1, u2_2⟩ : NetM) ((ix l s9).i)).2).c).flatMap (fun x => [Value.int .i64 x]) ++ spo6) 3)] [kS (some ⟨gi1, bi1, none⟩) l.length c_l 6 (l.flatMap opMC), kS Ao2 ((mnew_m n).1).l.length co2 3 (((mnew_m n).1).l.flatMap msgC), kS Au2_1 u2_1.length cu2_1 3 (u2_1.flatMap msgC), kS Ao12 ((rdouble_m (⟨u2_0, u2_1, u2_2⟩ : NetM) ((ix l s9).i)).2).l.length co12 3 (((rdouble_m (⟨u2_0, u2_1, u2_2⟩ : NetM) ((ix l s9).i)).2).l.flatMap msgC)] := st
                  refine ⟨(st.picks [0] (by decide)).takeK 3, ?_⟩
                  have hrelN := (rel_dbl hrel (ix l s9).i).2
                  have hokN : NtOk (pdbl_m Tg1 (ix l s9).i).2 := (dblT_ok hokTg1.1 _).1
                  have hlostN := lost_dbl hokTg1.1 (ix l s9).i
                  refine Pl_y rfl (wtd0 rfl) rfl rfl (y_ne rfl rfl rfl) ?_
                  refine Pl_nil (Th_n (hK36 _ _ ?_))
                  have hd14 : ((pdbl_m Tg1 ((ix l s9).i)).1) = ((rdouble_m (⟨u2_0, u2_1, u2_2⟩ : NetM) ((ix l s9).i)).1) := by
                    exact (rel_dbl hrel _).1
                  refine Wp_cond rfl (fun hc24 => absurd hc24 (by simp [hd14])) (fun _ => ?_)
                  refine Wp_skip (Ib_n (Th_n (hK16 _ _ ?_)))
                  refine Wp_seq fun K37 hK37 => ?_
                  refine Wp_plan (fun W => St X W (pickL (hOf st) [0, 1, 2, 3, 4]) (kOf st)) [(true, 0), (true, 1), (false, 2), (true, 3), (true, 4), (true, 5), (true, 6), (true, 7), (true, 8), (true, 9), (true, 10), (true, 11), (true, 13), (true, 14), (true, 15), (true, 16), (true, 17), (true, 18), (true, 19), (false, 12), (false, 20), (true, 21), (true, 22)] Ty.mx_0 (by kernel_rfl) (by kernel_rfl) rfl ((st.picks [0, 1, 2, 3, 4] (by decide)).drew) ?_
                  have st := st.drew
                  have hF := hF.step0 (Fr.drew _)
                  refine Pl_y rfl (wtd0 rfl) rfl rfl (y_move rfl rfl) ?_
                  refine Pl_y rfl (wtd0 rfl) rfl rfl (y_move rfl rfl) ?_
                  refine Pl_a rfl (wtd0 rfl) (by rfl) ?_
                  refine a_call rfl rfl rfl rfl (same31_ok (keys (pickL (hOf st) [0]) ++ X) _ g1 A6 c6 sp6 ((pdbl_m Tg1 ((ix l s9).i)).2) hok6 g2 (⟨((rdouble_m (⟨u2_0, u2_1, u2_2⟩ : NetM) ((ix l s9).i)).2).c, ((rdouble_m (⟨u2_0, u2_1, u2_2⟩ : NetM) ((ix l s9).i)).2).l, ((rdouble_m (⟨u2_0, u2_1, u2_2⟩ : NetM) ((ix l s9).i)).2).count⟩ : NetM) Ao11 co11 spo6 Ao12 co12 (st.sub [0] [1, 2, 3, 4] [3] (by decide)) how6 (by first | exact hrelN.row hokN)) (fun v w33 ⟨hv, hf⟩ => ?_)
                  subst hv
                  have st := st.keep0 hf
                  have hF := hF.step0 hf
                  have st : St X w33 [(some g3, Cl [.int .i64 ((ix l s9).kind), .int .i64 ((ix l s9).m.f), .int .i64 ((ix l s9).m.t), sv ((ix l s9).m.s), .int .i64 ((ix l s9).i), .int .i64 ((ix l s9).n)] 48), (some g1, Cl (ntC A6 c6 ((pdbl_m Tg1 ((ix l s9).i)).2)) 115), (blkOf A6, Cl (rowC ((pdbl_m Tg1 ((ix l s9).i)).2).row ++ sp6) 51), (some g2, Cl [.slice Ao11 (((rdouble_m (⟨u2_0, u2_1, u2_2⟩ : NetM) ((ix l s9).i)).2).c.length) co11, .slice Ao12 (((rdouble_m (⟨u2_0, u2_1, u2_2⟩ : NetM) ((ix l s9).i)).2).l.length) co12, .int .i64 (((rdouble_m (⟨u2_0, u2_1, u2_2⟩ : NetM) ((ix l s9).i)).2).count)] 118), (blkOf Ao11, Cl ((((rdouble_m (⟨u2_0, u2_1, u2_2⟩ : NetM) ((ix l s9).i)).2).c).flatMap (fun x => [Value.int .i64 x]) ++ spo6) 3)] [kS (some ⟨gi1, bi1, none⟩) l.length c_l 6 (l.flatMap opMC), kS Ao2 ((mnew_m n).1).l.length co2 3 (((mnew_m n).1).l.flatMap msgC), kS Au2_1 u2_1.length cu2_1 3 (u2_1.flatMap msgC), kS Ao12 ((rdouble_m (⟨u2_0, u2_1, u2_2⟩ : NetM) ((ix l s9).i)).2).l.length co12 3 (((rdouble_m (⟨u2_0, u2_1, u2_2⟩ : NetM) ((ix l s9).i)).2).l.flatMap msgC)] := st
                  refine ⟨(st.picks [0, 1, 2, 3, 4] (by decide)).takeK 4, ?_⟩
                  refine Pl_y rfl (wtd0 rfl) rfl rfl (y_not rfl rfl) ?_
                  refine Pl_y rfl (wtd0 rfl) rfl rfl (y_move rfl rfl) ?_
                  have hd15 : (same31_m ((pdbl_m Tg1 ((ix l s9).i)).2) (⟨((rdouble_m (⟨u2_0, u2_1, u2_2⟩ : NetM) ((ix l s9).i)).2).c, ((rdouble_m (⟨u2_0, u2_1, u2_2⟩ : NetM) ((ix l s9).i)).2).l, ((rdouble_m (⟨u2_0, u2_1, u2_2⟩ : NetM) ((ix l s9).i)).2).count⟩ : NetM)) = true := by
                    exact rel_same hrelN
                  refine Pl_bool 172 rfl (fun hc25 => absurd hc25 (by simp [hd15])) (fun _ => ?_)
                  refine Pl_y rfl (wtdT rfl rfl rfl) rfl rfl (y_move rfl rfl) ?_
                  refine Pl_y rfl (wtdT rfl rfl rfl) rfl rfl (y_fld rfl rfl Ty.fo_48_1) ?_
                  refine Pl_y rfl (wtdT rfl rfl rfl) rfl rfl (y_fld rfl rfl Ty.fo_46_0) ?_
                  refine Pl_y rfl (wtdT rfl rfl rfl) rfl rfl (y_load (i := 0) rfl rfl Ty.pl_3 (fun _ h => h.hp) rfl rfl) ?_
                  refine Pl_y rfl (wtdT rfl rfl rfl) rfl rfl (y_fld rfl rfl Ty.fo_48_1) ?_
                  refine Pl_y rfl (wtdT rfl rfl rfl) rfl rfl (y_fld rfl rfl Ty.fo_46_1) ?_
                  refine Pl_y rfl (wtdT rfl rfl rfl) rfl rfl (y_load (i := 0) rfl rfl Ty.pl_3 (fun _ h => h.hp) rfl rfl) ?_
                  refine Pl_y rfl (wtdT rfl rfl rfl) rfl rfl (y_move rfl rfl) ?_
                  refine Pl_y rfl (wtdT rfl rfl rfl) rfl rfl (y_fld rfl rfl Ty.fo_48_1) ?_
                  refine Pl_y rfl (wtdT rfl rfl rfl) rfl rfl (y_fld rfl rfl Ty.fo_46_0) ?_
                  refine Pl_y rfl (wtdT rfl rfl rfl) rfl rfl (y_load (i := 0) rfl rfl Ty.pl_3 (fun _ h => h.hp) rfl rfl) ?_
                  refine Pl_y rfl (wtdT rfl rfl rfl) rfl rfl (y_fld rfl rfl Ty.fo_48_1) ?_
                  refine Pl_y rfl (wtdT rfl rfl rfl) rfl rfl (y_fld rfl rfl Ty.fo_46_1) ?_
                  refine Pl_y rfl (wtdT rfl rfl rfl) rfl rfl (y_load (i := 0) rfl rfl Ty.pl_3 (fun _ h => h.hp) rfl rfl) ?_
                  refine Pl_a rfl (wtdT rfl rfl rfl) (by rfl) ?_
                  refine a_call rfl rfl rfl rfl (papart_ok (keys (pickL (hOf st) [0, 3, 4]) ++ X) _ g1 A6 c6 sp6 ((pdbl_m Tg1 ((ix l s9).i)).2) hok6 ((ix l s9).m.f) ((ix l s9).m.t) (st.sub [0, 3, 4] [1, 2] [] (by decide))) (fun v w34 ⟨hv, hf⟩ => ?_)
                  subst hv
                  have st := st.keep0 hf
                  have hF := hF.step0 hf
                  have st : St X w34 [(some g3, Cl [.int .i64 ((ix l s9).kind), .int .i64 ((ix l s9).m.f), .int .i64 ((ix l s9).m.t), sv ((ix l s9).m.s), .int .i64 ((ix l s9).i), .int .i64 ((ix l s9).n)] 48), (some g1, Cl (ntC A6 c6 ((pdbl_m Tg1 ((ix l s9).i)).2)) 115), (blkOf A6, Cl (rowC ((pdbl_m Tg1 ((ix l s9).i)).2).row ++ sp6) 51), (some g2, Cl [.slice Ao11 (((rdouble_m (⟨u2_0, u2_1, u2_2⟩ : NetM) ((ix l s9).i)).2).c.length) co11, .slice Ao12 (((rdouble_m (⟨u2_0, u2_1, u2_2⟩ : NetM) ((ix l s9).i)).2).l.length) co12, .int .i64 (((rdouble_m (⟨u2_0, u2_1, u2_2⟩ : NetM) ((ix l s9).i)).2).count)] 118), (blkOf Ao11, Cl ((((rdouble_m (⟨u2_0, u2_1, u2_2⟩ : NetM) ((ix l s9).i)).2).c).flatMap (fun x => [Value.int .i64 x]) ++ spo6) 3)] [kS (some ⟨gi1, bi1, none⟩) l.length c_l 6 (l.flatMap opMC), kS Ao2 ((mnew_m n).1).l.length co2 3 (((mnew_m n).1).l.flatMap msgC), kS Au2_1 u2_1.length cu2_1 3 (u2_1.flatMap msgC), kS Ao12 ((rdouble_m (⟨u2_0, u2_1, u2_2⟩ : NetM) ((ix l s9).i)).2).l.length co12 3 (((rdouble_m (⟨u2_0, u2_1, u2_2⟩ : NetM) ((ix l s9).i)).2).l.flatMap msgC)] := st
                  refine ⟨(st.picks [0, 1, 2, 3, 4] (by decide)).takeK 4, ?_⟩
                  refine Pl_a rfl (wtdT rfl rfl rfl) (by rfl) ?_
                  refine a_call rfl rfl rfl rfl (rapart_ok (keys (pickL (hOf st) [0, 1, 2]) ++ X) _ g2 (⟨((rdouble_m (⟨u2_0, u2_1, u2_2⟩ : NetM) ((ix l s9).i)).2).c, ((rdouble_m (⟨u2_0, u2_1, u2_2⟩ : NetM) ((ix l s9).i)).2).l, ((rdouble_m (⟨u2_0, u2_1, u2_2⟩ : NetM) ((ix l s9).i)).2).count⟩ : NetM) Ao11 co11 spo6 Ao12 co12 ((ix l s9).m.f) ((ix l s9).m.t) (st.sub [0, 1, 2] [3, 4] [3] (by decide)) how6) (fun v w35 ⟨hv, hf⟩ => ?_)
                  subst hv
                  have st := st.keep0 hf
                  have hF := hF.step0 hf
                  have st : St X w35 [(some g3, Cl [.int .i64 ((ix l s9).kind), .int .i64 ((ix l s9).m.f), .int .i64 ((ix l s9).m.t), sv ((ix l s9).m.s), .int .i64 ((ix l s9).i), .int .i64 ((ix l s9).n)] 48), (some g1, Cl (ntC A6 c6 ((pdbl_m Tg1 ((ix l s9).i)).2)) 115), (blkOf A6, Cl (rowC ((pdbl_m Tg1 ((ix l s9).i)).2).row ++ sp6) 51), (some g2, Cl [.slice Ao11 (((rdouble_m (⟨u2_0, u2_1, u2_2⟩ : NetM) ((ix l s9).i)).2).c.length) co11, .slice Ao12 (((rdouble_m (⟨u2_0, u2_1, u2_2⟩ : NetM) ((ix l s9).i)).2).l.length) co12, .int .i64 (((rdouble_m (⟨u2_0, u2_1, u2_2⟩ : NetM) ((ix l s9).i)).2).count)] 118), (blkOf Ao11, Cl ((((rdouble_m (⟨u2_0, u2_1, u2_2⟩ : NetM) ((ix l s9).i)).2).c).flatMap (fun x => [Value.int .i64 x]) ++ spo6) 3)] [kS (some ⟨gi1, bi1, none⟩) l.length c_l 6 (l.flatMap opMC), kS Ao2 ((mnew_m n).1).l.length co2 3 (((mnew_m n).1).l.flatMap msgC), kS Au2_1 u2_1.length cu2_1 3 (u2_1.flatMap msgC), kS Ao12 ((rdouble_m (⟨u2_0, u2_1, u2_2⟩ : NetM) ((ix l s9).i)).2).l.length co12 3 (((rdouble_m (⟨u2_0, u2_1, u2_2⟩ : NetM) ((ix l s9).i)).2).l.flatMap msgC)] := st
                  refine ⟨(st.picks [0, 1, 2, 3, 4] (by decide)).takeK 4, ?_⟩
                  refine Pl_y rfl (wtdT rfl rfl rfl) rfl rfl (y_neb rfl rfl rfl Try.underlying4) ?_
                  refine Pl_y rfl (wtd0 rfl) rfl rfl (y_pick_f rfl rfl rfl) ?_
                  refine Pl_nil (Th_n (hK37 _ _ ?_))
                  have hd16 : (papart_m ((pdbl_m Tg1 ((ix l s9).i)).2) ((ix l s9).m.f) ((ix l s9).m.t)) = (rapart_m (⟨((rdouble_m (⟨u2_0, u2_1, u2_2⟩ : NetM) ((ix l s9).i)).2).c, ((rdouble_m (⟨u2_0, u2_1, u2_2⟩ : NetM) ((ix l s9).i)).2).l, ((rdouble_m (⟨u2_0, u2_1, u2_2⟩ : NetM) ((ix l s9).i)).2).count⟩ : NetM) ((ix l s9).m.f) ((ix l s9).m.t)) := by
                    exact rel_apart hrelN _ _
                  refine Wp_cond rfl (fun hc26 => absurd hc26 (by simp [hd16])) (fun _ => ?_)
                  refine Wp_skip (Ib_n (Th_n (hK11 _ _ ?_)))
                  refine Wp_region ?_
                  refine Ls_y (wtd0 rfl) rfl rfl (y_move rfl rfl) ?_
                  refine Ls_y (wtd0 rfl) rfl rfl (y_add (c := s9 + 1) rfl rfl rfl (wf_i64 (by first | omega | (simp; omega)))) ?_
                  refine Ls_y (wtd0 rfl) rfl rfl (y_assign rfl rfl) ?_
                  refine Ls_nil (Th_n (?_))
                  exact ⟨fuel, [(1, _), (5, _), (7, _), (9, _)], Nat.lt_succ_self _, ⟨rfl, rfl, rfl, rfl, trivial⟩, (s9 + 1), (((rdouble_m (⟨u2_0, u2_1, u2_2⟩ : NetM) ((ix l s9).i)).2).c), (((rdouble_m (⟨u2_0, u2_1, u2_2⟩ : NetM) ((ix l s9).i)).2).l), (((rdouble_m (⟨u2_0, u2_1, u2_2⟩ : NetM) ((ix l s9).i)).2).count), ((pdbl_m Tg1 ((ix l s9).i)).2), Ao11, co11, spo6, Ao12, co12, A6, c6, sp6, rfl, by first | omega | (simp; omega), by exact ⟨by omega, by omega, hrelN, by omega⟩, how6, hnew6, hok6, hfo6, (st.picks [1, 2, 3, 4] (by decide)).pickK [0, 1, 3], hF⟩
                · have hc23 : ¬ (((ix l s9).kind) = 3) := by simpa using hc23
                  refine Wp_seq fun K38 hK38 => ?_
                  refine Wp_plan (fun W => St X W (pickL (hOf st) [4]) (kOf st)) [(true, 0), (true, 1), (true, 2), (true, 3), (true, 4), (true, 6), (true, 7), (true, 8), (true, 9), (true, 10), (false, 5), (false, 11), (true, 12)] Ty.mx_0 (by kernel_rfl) (by kernel_rfl) rfl ((st.picks [4] (by decide)).drew) ?_
                  have st := st.drew
                  have hF := hF.step0 (Fr.drew _)
                  refine Pl_y rfl (wtd0 rfl) rfl rfl (y_move rfl rfl) ?_
                  refine Pl_y rfl (wtd0 rfl) rfl rfl (y_fld rfl rfl Ty.fo_48_2) ?_
                  refine Pl_y rfl (wtd0 rfl) rfl rfl (y_load (i := 0) rfl rfl Ty.pl_3 (fun _ h => h.hp) rfl rfl) ?_
                  refine Pl_y rfl (wtd0 rfl) rfl rfl (y_fld rfl rfl Ty.fo_48_3) ?_
                  refine Pl_y rfl (wtd0 rfl) rfl rfl (y_load (i := 0) rfl rfl Ty.pl_3 (fun _ h => h.hp) rfl rfl) ?_
                  refine Pl_y rfl (wtd0 rfl) rfl rfl (y_move rfl rfl) ?_
                  refine Pl_y rfl (wtd0 rfl) rfl rfl (y_fld rfl rfl Ty.fo_48_2) ?_
                  refine Pl_y rfl (wtd0 rfl) rfl rfl (y_load (i := 0) rfl rfl Ty.pl_3 (fun _ h => h.hp) rfl rfl) ?_
                  refine Pl_y rfl (wtd0 rfl) rfl rfl (y_fld rfl rfl Ty.fo_48_3) ?_
                  refine Pl_y rfl (wtd0 rfl) rfl rfl (y_load (i := 0) rfl rfl Ty.pl_3 (fun _ h => h.hp) rfl rfl) ?_
                  refine Pl_a rfl (wtd0 rfl) (by rfl) ?_
                  refine a_call rfl rfl rfl rfl (ppaint_ok (keys (pickL (hOf st) [2, 3, 4]) ++ X) _ g1 A_Tg1 c_Tg1 sp_Tg1 Tg1 hokTg1 ((ix l s9).i) ((ix l s9).n) (st.sub [2, 3, 4] [0, 1] [] (by decide))) (fun v w36 ⟨A7, c7, sp7, hv, hok7, hN13, hfO11, hkc13⟩ => ?_)
                  subst hv
                  have hfo7 : ∀ k ∈ keys [(some g1, Cl (ntC A7 c7 ((ppaint_m Tg1 ((ix l s9).i) ((ix l s9).n)).2)) 115), (blkOf A7, Cl (rowC ((ppaint_m Tg1 ((ix l s9).i) ((ix l s9).n)).2).row ++ sp7) 51)], k ∈ ([]) ∨ w.heap.size ≤ k := fun k hk => (hkc13 k (hk)).elim (fun h => (kc_app hfoTg1 (kc_n)) k h) (fun h => .inr (Nat.le_trans hF.size h))
                  have st := st.callS [2, 3, 4] [0, 1] (by decide) rfl hN13 hfO11 hkc13
                  have hF := hF.step hfO11 (kc_app hfoTg1 (kc_n))
                  have st : St X w36 [(some g2, Cl [.slice Au2_0 u2_0.length cu2_0, .slice Au2_1 u2_1.length cu2_1, .int .i64 u2_2] 118), (blkOf Au2_0, Cl (u2_0.flatMap (fun x => [Value.int .i64 x]) ++ spu2_0) 3), (some g3, Cl [.int .i64 ((ix l s9).kind), .int .i64 ((ix l s9).m.f), .int .i64 ((ix l s9).m.t), sv ((ix l s9).m.s), .int .i64 ((ix l s9).i), .int .i64 ((ix l s9).n)] 48), (some g1, Cl (ntC A7 c7 ((ppaint_m Tg1 ((ix l s9).i) ((ix l s9).n)).2)) 115), (blkOf A7, Cl (rowC ((ppaint_m Tg1 ((ix l s9).i) ((ix l s9).n)).2).row ++ sp7) 51)] [kS (some ⟨gi1, bi1, none⟩) l.length c_l 6 (l.flatMap opMC), kS Ao2 ((mnew_m n).1).l.length co2 3 (((mnew_m n).1).l.flatMap msgC), kS Au2_1 u2_1.length cu2_1 3 (u2_1.flatMap msgC)] := st
                  refine ⟨(st.picks [2] (by decide)).takeK 3, ?_⟩
                  refine Pl_a rfl (wtd0 rfl) (by rfl) ?_
                  refine a_call rfl rfl rfl rfl (rpaint_ok (keys (pickL (hOf st) [2, 3, 4]) ++ X) _ g2 (⟨u2_0, u2_1, u2_2⟩ : NetM) Au2_0 cu2_0 spu2_0 Au2_1 cu2_1 ((ix l s9).i) ((ix l s9).n) (st.sub [2, 3, 4] [0, 1] [2] (by decide)) howu2_0) (fun v w37 ⟨Ao13, co13, spo7, Ao14, co14, hv, how7, hN14, hfO12, hkc14⟩ => ?_)
                  subst hv
                  have hnew7 : ∀ g, blkOf Ao13 = some g → g ∈ ([]) ∨ w.heap.size ≤ g := fun g hg => (hkc14 g (by simp [keys, hg])).elim (fun h => (kc_s (.inr hg1) (kc_b newu2_0 (kc_n))) g h) (fun h => .inr (Nat.le_trans hF.size h))
                  have hlehow7 := Ow.le how7
                  have st := st.callS [2, 3, 4] [0, 1] (by decide) rfl hN14 hfO12 hkc14
                  have hF := hF.step hfO12 (kc_s (.inr hg1) (kc_b newu2_0 (kc_n)))
                  have st : St X w37 [(some g3, Cl [.int .i64 ((ix l s9).kind), .int .i64 ((ix l s9).m.f), .int .i64 ((ix l s9).m.t), sv ((ix l s9).m.s), .int .i64 ((ix l s9).i), .int .i64 ((ix l s9).n)] 48), (some g1, Cl (ntC A7 c7 ((ppaint_m Tg1 ((ix l s9).i) ((ix l s9).n)).2)) 115), (blkOf A7, Cl (rowC ((ppaint_m Tg1 ((ix l s9).i) ((ix l s9).n)).2).row ++ sp7) 51), (some g2, Cl [.slice Ao13 (((rpaint_m (⟨u2_0, u2_1, u2_2⟩ : NetM) ((ix l s9).i) ((ix l s9).n)).2).c.length) co13, .slice Ao14 (((rpaint_m (⟨u2_0, u2_1, u2_2⟩ : NetM) ((ix l s9).i) ((ix l s9).n)).2).l.length) co14, .int .i64 (((rpaint_m (⟨u2_0, u2_1, u2_2⟩ : NetM) ((ix l s9).i) ((ix l s9).n)).2).count)] 118), (blkOf Ao13, Cl ((((rpaint_m (⟨u2_0, u2_1, u2_2⟩ : NetM) ((ix l s9).i) ((ix l s9).n)).2).c).flatMap (fun x => [Value.int .i64 x]) ++ spo7) 3)] [kS (some ⟨gi1, bi1, none⟩) l.length c_l 6 (l.flatMap opMC), kS Ao2 ((mnew_m n).1).l.length co2 3 (((mnew_m n).1).l.flatMap msgC), kS Au2_1 u2_1.length cu2_1 3 (u2_1.flatMap msgC), kS Ao14 ((rpaint_m (⟨u2_0, u2_1, u2_2⟩ : NetM) ((ix l s9).i) ((ix l s9).n)).2).l.length co14 3 (((rpaint_m (⟨u2_0, u2_1, u2_2⟩ : NetM) ((ix l s9).i) ((ix l s9).n)).2).l.flatMap msgC)] := st
                  refine ⟨(st.picks [0] (by decide)).takeK 3, ?_⟩
                  have hrelN := (rel_paint hrel (ix l s9).i (ix l s9).n).2
                  have hokN : NtOk (ppaint_m Tg1 (ix l s9).i (ix l s9).n).2 := (paintT_ok hokTg1.1 _ _).1
                  have hlostN := lost_paint hokTg1.1 (ix l s9).i (ix l s9).n
                  refine Pl_y rfl (wtd0 rfl) rfl rfl (y_ne rfl rfl rfl) ?_
                  refine Pl_nil (Th_n (hK38 _ _ ?_))
                  have hd17 : ((ppaint_m Tg1 ((ix l s9).i) ((ix l s9).n)).1) = ((rpaint_m (⟨u2_0, u2_1, u2_2⟩ : NetM) ((ix l s9).i) ((ix l s9).n)).1) := by
                    exact (rel_paint hrel _ _).1
                  refine Wp_cond rfl (fun hc27 => absurd hc27 (by simp [hd17])) (fun _ => ?_)
                  refine Wp_skip (Ib_n (Th_n (hK16 _ _ ?_)))
                  refine Wp_seq fun K39 hK39 => ?_
                  refine Wp_plan (fun W => St X W (pickL (hOf st) [0, 1, 2, 3, 4]) (kOf st)) [(true, 0), (true, 1), (false, 2), (true, 3), (true, 4), (true, 5), (true, 6), (true, 7), (true, 8), (true, 9), (true, 10), (true, 11), (true, 13), (true, 14), (true, 15), (true, 16), (true, 17), (true, 18), (true, 19), (false, 12), (false, 20), (true, 21), (true, 22)] Ty.mx_0 (by kernel_rfl) (by kernel_rfl) rfl ((st.picks [0, 1, 2, 3, 4] (by decide)).drew) ?_
                  have st := st.drew
                  have hF := hF.step0 (Fr.drew _)
                  refine Pl_y rfl (wtd0 rfl) rfl rfl (y_move rfl rfl) ?_
                  refine Pl_y rfl (wtd0 rfl) rfl rfl (y_move rfl rfl) ?_
                  refine Pl_a rfl (wtd0 rfl) (by rfl) ?_
                  refine a_call rfl rfl rfl rfl (same31_ok (keys (pickL (hOf st) [0]) ++ X) _ g1 A7 c7 sp7 ((ppaint_m Tg1 ((ix l s9).i) ((ix l s9).n)).2) hok7 g2 (⟨((rpaint_m (⟨u2_0, u2_1, u2_2⟩ : NetM) ((ix l s9).i) ((ix l s9).n)).2).c, ((rpaint_m (⟨u2_0, u2_1, u2_2⟩ : NetM) ((ix l s9).i) ((ix l s9).n)).2).l, ((rpaint_m (⟨u2_0, u2_1, u2_2⟩ : NetM) ((ix l s9).i) ((ix l s9).n)).2).count⟩ : NetM) Ao13 co13 spo7 Ao14 co14 (st.sub [0] [1, 2, 3, 4] [3] (by decide)) how7 (by first | exact hrelN.row hokN)) (fun v w38 ⟨hv, hf⟩ => ?_)
                  subst hv
                  have st := st.keep0 hf
                  have hF := hF.step0 hf
                  have st : St X w38 [(some g3, Cl [.int .i64 ((ix l s9).kind), .int .i64 ((ix l s9).m.f), .int .i64 ((ix l s9).m.t), sv ((ix l s9).m.s), .int .i64 ((ix l s9).i), .int .i64 ((ix l s9).n)] 48), (some g1, Cl (ntC A7 c7 ((ppaint_m Tg1 ((ix l s9).i) ((ix l s9).n)).2)) 115), (blkOf A7, Cl (rowC ((ppaint_m Tg1 ((ix l s9).i) ((ix l s9).n)).2).row ++ sp7) 51), (some g2, Cl [.slice Ao13 (((rpaint_m (⟨u2_0, u2_1, u2_2⟩ : NetM) ((ix l s9).i) ((ix l s9).n)).2).c.length) co13, .slice Ao14 (((rpaint_m (⟨u2_0, u2_1, u2_2⟩ : NetM) ((ix l s9).i) ((ix l s9).n)).2).l.length) co14, .int .i64 (((rpaint_m (⟨u2_0, u2_1, u2_2⟩ : NetM) ((ix l s9).i) ((ix l s9).n)).2).count)] 118), (blkOf Ao13, Cl ((((rpaint_m (⟨u2_0, u2_1, u2_2⟩ : NetM) ((ix l s9).i) ((ix l s9).n)).2).c).flatMap (fun x => [Value.int .i64 x]) ++ spo7) 3)] [kS (some ⟨gi1, bi1, none⟩) l.length c_l 6 (l.flatMap opMC), kS Ao2 ((mnew_m n).1).l.length co2 3 (((mnew_m n).1).l.flatMap msgC), kS Au2_1 u2_1.length cu2_1 3 (u2_1.flatMap msgC), kS Ao14 ((rpaint_m (⟨u2_0, u2_1, u2_2⟩ : NetM) ((ix l s9).i) ((ix l s9).n)).2).l.length co14 3 (((rpaint_m (⟨u2_0, u2_1, u2_2⟩ : NetM) ((ix l s9).i) ((ix l s9).n)).2).l.flatMap msgC)] := st
                  refine ⟨(st.picks [0, 1, 2, 3, 4] (by decide)).takeK 4, ?_⟩
                  refine Pl_y rfl (wtd0 rfl) rfl rfl (y_not rfl rfl) ?_
                  refine Pl_y rfl (wtd0 rfl) rfl rfl (y_move rfl rfl) ?_
                  have hd18 : (same31_m ((ppaint_m Tg1 ((ix l s9).i) ((ix l s9).n)).2) (⟨((rpaint_m (⟨u2_0, u2_1, u2_2⟩ : NetM) ((ix l s9).i) ((ix l s9).n)).2).c, ((rpaint_m (⟨u2_0, u2_1, u2_2⟩ : NetM) ((ix l s9).i) ((ix l s9).n)).2).l, ((rpaint_m (⟨u2_0, u2_1, u2_2⟩ : NetM) ((ix l s9).i) ((ix l s9).n)).2).count⟩ : NetM)) = true := by
                    exact rel_same hrelN
                  refine Pl_bool 172 rfl (fun hc28 => absurd hc28 (by simp [hd18])) (fun _ => ?_)
                  refine Pl_y rfl (wtdT rfl rfl rfl) rfl rfl (y_move rfl rfl) ?_
                  refine Pl_y rfl (wtdT rfl rfl rfl) rfl rfl (y_fld rfl rfl Ty.fo_48_1) ?_
                  refine Pl_y rfl (wtdT rfl rfl rfl) rfl rfl (y_fld rfl rfl Ty.fo_46_0) ?_
                  refine Pl_y rfl (wtdT rfl rfl rfl) rfl rfl (y_load (i := 0) rfl rfl Ty.pl_3 (fun _ h => h.hp) rfl rfl) ?_
                  refine Pl_y rfl (wtdT rfl rfl rfl) rfl rfl (y_fld rfl rfl Ty.fo_48_1) ?_
                  refine Pl_y rfl (wtdT rfl rfl rfl) rfl rfl (y_fld rfl rfl Ty.fo_46_1) ?_
                  refine Pl_y rfl (wtdT rfl rfl rfl) rfl rfl (y_load (i := 0) rfl rfl Ty.pl_3 (fun _ h => h.hp) rfl rfl) ?_
                  refine Pl_y rfl (wtdT rfl rfl rfl) rfl rfl (y_move rfl rfl) ?_
                  refine Pl_y rfl (wtdT rfl rfl rfl) rfl rfl (y_fld rfl rfl Ty.fo_48_1) ?_
                  refine Pl_y rfl (wtdT rfl rfl rfl) rfl rfl (y_fld rfl rfl Ty.fo_46_0) ?_
                  refine Pl_y rfl (wtdT rfl rfl rfl) rfl rfl (y_load (i := 0) rfl rfl Ty.pl_3 (fun _ h => h.hp) rfl rfl) ?_
                  refine Pl_y rfl (wtdT rfl rfl rfl) rfl rfl (y_fld rfl rfl Ty.fo_48_1) ?_
                  refine Pl_y rfl (wtdT rfl rfl rfl) rfl rfl (y_fld rfl rfl Ty.fo_46_1) ?_
                  refine Pl_y rfl (wtdT rfl rfl rfl) rfl rfl (y_load (i := 0) rfl rfl Ty.pl_3 (fun _ h => h.hp) rfl rfl) ?_
                  refine Pl_a rfl (wtdT rfl rfl rfl) (by rfl) ?_
                  refine a_call rfl rfl rfl rfl (papart_ok (keys (pickL (hOf st) [0, 3, 4]) ++ X) _ g1 A7 c7 sp7 ((ppaint_m Tg1 ((ix l s9).i) ((ix l s9).n)).2) hok7 ((ix l s9).m.f) ((ix l s9).m.t) (st.sub [0, 3, 4] [1, 2] [] (by decide))) (fun v w39 ⟨hv, hf⟩ => ?_)
                  subst hv
                  have st := st.keep0 hf
                  have hF := hF.step0 hf
                  have st : St X w39 [(some g3, Cl [.int .i64 ((ix l s9).kind), .int .i64 ((ix l s9).m.f), .int .i64 ((ix l s9).m.t), sv ((ix l s9).m.s), .int .i64 ((ix l s9).i), .int .i64 ((ix l s9).n)] 48), (some g1, Cl (ntC A7 c7 ((ppaint_m Tg1 ((ix l s9).i) ((ix l s9).n)).2)) 115), (blkOf A7, Cl (rowC ((ppaint_m Tg1 ((ix l s9).i) ((ix l s9).n)).2).row ++ sp7) 51), (some g2, Cl [.slice Ao13 (((rpaint_m (⟨u2_0, u2_1, u2_2⟩ : NetM) ((ix l s9).i) ((ix l s9).n)).2).c.length) co13, .slice Ao14 (((rpaint_m (⟨u2_0, u2_1, u2_2⟩ : NetM) ((ix l s9).i) ((ix l s9).n)).2).l.length) co14, .int .i64 (((rpaint_m (⟨u2_0, u2_1, u2_2⟩ : NetM) ((ix l s9).i) ((ix l s9).n)).2).count)] 118), (blkOf Ao13, Cl ((((rpaint_m (⟨u2_0, u2_1, u2_2⟩ : NetM) ((ix l s9).i) ((ix l s9).n)).2).c).flatMap (fun x => [Value.int .i64 x]) ++ spo7) 3)] [kS (some ⟨gi1, bi1, none⟩) l.length c_l 6 (l.flatMap opMC), kS Ao2 ((mnew_m n).1).l.length co2 3 (((mnew_m n).1).l.flatMap msgC), kS Au2_1 u2_1.length cu2_1 3 (u2_1.flatMap msgC), kS Ao14 ((rpaint_m (⟨u2_0, u2_1, u2_2⟩ : NetM) ((ix l s9).i) ((ix l s9).n)).2).l.length co14 3 (((rpaint_m (⟨u2_0, u2_1, u2_2⟩ : NetM) ((ix l s9).i) ((ix l s9).n)).2).l.flatMap msgC)] := st
                  refine ⟨(st.picks [0, 1, 2, 3, 4] (by decide)).takeK 4, ?_⟩
                  refine Pl_a rfl (wtdT rfl rfl rfl) (by rfl) ?_
                  refine a_call rfl rfl rfl rfl (rapart_ok (keys (pickL (hOf st) [0, 1, 2]) ++ X) _ g2 (⟨((rpaint_m (⟨u2_0, u2_1, u2_2⟩ : NetM) ((ix l s9).i) ((ix l s9).n)).2).c, ((rpaint_m (⟨u2_0, u2_1, u2_2⟩ : NetM) ((ix l s9).i) ((ix l s9).n)).2).l, ((rpaint_m (⟨u2_0, u2_1, u2_2⟩ : NetM) ((ix l s9).i) ((ix l s9).n)).2).count⟩ : NetM) Ao13 co13 spo7 Ao14 co14 ((ix l s9).m.f) ((ix l s9).m.t) (st.sub [0, 1, 2] [3, 4] [3] (by decide)) how7) (fun v w40 ⟨hv, hf⟩ => ?_)
                  subst hv
                  have st := st.keep0 hf
                  have hF := hF.step0 hf
                  have st : St X w40 [(some g3, Cl [.int .i64 ((ix l s9).kind), .int .i64 ((ix l s9).m.f), .int .i64 ((ix l s9).m.t), sv ((ix l s9).m.s), .int .i64 ((ix l s9).i), .int .i64 ((ix l s9).n)] 48), (some g1, Cl (ntC A7 c7 ((ppaint_m Tg1 ((ix l s9).i) ((ix l s9).n)).2)) 115), (blkOf A7, Cl (rowC ((ppaint_m Tg1 ((ix l s9).i) ((ix l s9).n)).2).row ++ sp7) 51), (some g2, Cl [.slice Ao13 (((rpaint_m (⟨u2_0, u2_1, u2_2⟩ : NetM) ((ix l s9).i) ((ix l s9).n)).2).c.length) co13, .slice Ao14 (((rpaint_m (⟨u2_0, u2_1, u2_2⟩ : NetM) ((ix l s9).i) ((ix l s9).n)).2).l.length) co14, .int .i64 (((rpaint_m (⟨u2_0, u2_1, u2_2⟩ : NetM) ((ix l s9).i) ((ix l s9).n)).2).count)] 118), (blkOf Ao13, Cl ((((rpaint_m (⟨u2_0, u2_1, u2_2⟩ : NetM) ((ix l s9).i) ((ix l s9).n)).2).c).flatMap (fun x => [Value.int .i64 x]) ++ spo7) 3)] [kS (some ⟨gi1, bi1, none⟩) l.length c_l 6 (l.flatMap opMC), kS Ao2 ((mnew_m n).1).l.length co2 3 (((mnew_m n).1).l.flatMap msgC), kS Au2_1 u2_1.length cu2_1 3 (u2_1.flatMap msgC), kS Ao14 ((rpaint_m (⟨u2_0, u2_1, u2_2⟩ : NetM) ((ix l s9).i) ((ix l s9).n)).2).l.length co14 3 (((rpaint_m (⟨u2_0, u2_1, u2_2⟩ : NetM) ((ix l s9).i) ((ix l s9).n)).2).l.flatMap msgC)] := st
                  refine ⟨(st.picks [0, 1, 2, 3, 4] (by decide)).takeK 4, ?_⟩
                  refine Pl_y rfl (wtdT rfl rfl rfl) rfl rfl (y_neb rfl rfl rfl Try.underlying4) ?_
                  refine Pl_y rfl (wtd0 rfl) rfl rfl (y_pick_f rfl rfl rfl) ?_
                  refine Pl_nil (Th_n (hK39 _ _ ?_))
                  have hd19 : (papart_m ((ppaint_m Tg1 ((ix l s9).i) ((ix l s9).n)).2) ((ix l s9).m.f) ((ix l s9).m.t)) = (rapart_m (⟨((rpaint_m (⟨u2_0, u2_1, u2_2⟩ : NetM) ((ix l s9).i) ((ix l s9).n)).2).c, ((rpaint_m (⟨u2_0, u2_1, u2_2⟩ : NetM) ((ix l s9).i) ((ix l s9).n)).2).l, ((rpaint_m (⟨u2_0, u2_1, u2_2⟩ : NetM) ((ix l s9).i) ((ix l s9).n)).2).count⟩ : NetM) ((ix l s9).m.f) ((ix l s9).m.t)) := by
                    exact rel_apart hrelN _ _
                  refine Wp_cond rfl (fun hc29 => absurd hc29 (by simp [hd19])) (fun _ => ?_)
                  refine Wp_skip (Ib_n (Th_n (hK11 _ _ ?_)))
                  refine Wp_region ?_
                  refine Ls_y (wtd0 rfl) rfl rfl (y_move rfl rfl) ?_
                  refine Ls_y (wtd0 rfl) rfl rfl (y_add (c := s9 + 1) rfl rfl rfl (wf_i64 (by first | omega | (simp; omega)))) ?_
                  refine Ls_y (wtd0 rfl) rfl rfl (y_assign rfl rfl) ?_
                  refine Ls_nil (Th_n (?_))
                  exact ⟨fuel, [(1, _), (5, _), (7, _), (9, _)], Nat.lt_succ_self _, ⟨rfl, rfl, rfl, rfl, trivial⟩, (s9 + 1), (((rpaint_m (⟨u2_0, u2_1, u2_2⟩ : NetM) ((ix l s9).i) ((ix l s9).n)).2).c), (((rpaint_m (⟨u2_0, u2_1, u2_2⟩ : NetM) ((ix l s9).i) ((ix l s9).n)).2).l), (((rpaint_m (⟨u2_0, u2_1, u2_2⟩ : NetM) ((ix l s9).i) ((ix l s9).n)).2).count), ((ppaint_m Tg1 ((ix l s9).i) ((ix l s9).n)).2), Ao13, co13, spo7, Ao14, co14, A7, c7, sp7, rfl, by first | omega | (simp; omega), by exact ⟨by omega, by omega, hrelN, by omega⟩, how7, hnew7, hok7, hfo7, (st.picks [1, 2, 3, 4] (by decide)).pickK [0, 1, 3], hF⟩
      · have hc4 : ¬ (s9 < 100) := by simpa using hc4
        refine Wp_exit (Th_e (Th_e (Ib_hit (Th_n (?_)))))
        exact hout1 _ [(1, _), (5, _), (7, _), (9, _)] _ ⟨rfl, rfl, rfl, rfl, trivial⟩ ⟨s9, u2_0, u2_1, u2_2, Tg1, Au2_0, cu2_0, spu2_0, Au2_1, cu2_1, A_Tg1, c_Tg1, sp_Tg1, rfl, by exact hinv, howu2_0, newu2_0, hokTg1, hfoTg1, (st.picks [0, 1, 2, 3] (by decide)).pickK [0, 1, 2], hF⟩
    · have hc3 : ¬ (s9 < (l.length : Int)) := by simpa using hc3
      refine Ls_s (wtdF rfl rfl rfl) rfl rfl ?_
      refine Ls_s (wtdF rfl rfl rfl) rfl rfl ?_
      refine Ls_y (wtd0 rfl) rfl rfl (y_pick_f rfl rfl rfl) ?_
      refine Ls_nil (Th_n (hK10 _ _ ?_))
      refine Wp_cond_f rfl ?_
      refine Wp_exit (Th_e (Th_e (Ib_hit (Th_n (?_)))))
      exact hout1 _ [(1, _), (5, _), (7, _), (9, _)] _ ⟨rfl, rfl, rfl, rfl, trivial⟩ ⟨s9, u2_0, u2_1, u2_2, Tg1, Au2_0, cu2_0, spu2_0, Au2_1, cu2_1, A_Tg1, c_Tg1, sp_Tg1, rfl, by exact hinv, howu2_0, newu2_0, hokTg1, hfoTg1, (st.picks [0, 1, 2, 3] (by decide)).pickK [0, 1, 2], hF⟩

end Go.Proofs.Ytikdpkhcegjmfaa

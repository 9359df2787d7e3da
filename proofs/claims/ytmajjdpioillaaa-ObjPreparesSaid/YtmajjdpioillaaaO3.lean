/- Walks printed by gen2.py out of our own specifications: what the functions named below do. -/
import Derived.Test.YtmajjdpioillaaaO2b
import Derived.Test.YtmajjdpioillaaaSr
set_option linter.unusedSimpArgs false
set_option linter.unusedVariables false
namespace Go.Proofs.Ytmajjdpioillaaa
open Go.RowKit

def clonePut_m (s : List PutM) : (List PutM) :=
  s


set_option maxRecDepth 20000 in
theorem clonePut_ok (X : List Nat) (w : World) (hX : Lo X w) (s : List PutM) (A_s : Option Addr) (c_s : Nat) (h_s : Sld X w A_s s.length c_s 7 (s.flatMap putMC)) (hs1 : s.length ≤ 1000000) :
    Fn Try.prog 68 [.slice A_s s.length c_s] w fun v w' => ∃ (A' : Option Addr) (c' : Nat) (sp' : List Value), v = .slice A' (clonePut_m s).length c' ∧ Ow A' (clonePut_m s).length c' 7 ((clonePut_m s).flatMap putMC) sp' ∧ St X w' [(blkOf A', Cl ((clonePut_m s).flatMap putMC ++ sp') 111)] [] ∧ Fr ([]) w w' ∧ (∀ k ∈ keys [(blkOf A', Cl ((clonePut_m s).flatMap putMC ++ sp') 111)], k ∈ ([]) ∨ w.heap.size ≤ k) := by
  refine Fn_of 8 Ty.en_68 Try.func68 rfl rfl rfl ?_
  dsimp only [argEnv]
  have st : St X w [] [kS A_s s.length c_s 7 (s.flatMap putMC)] := (St.nil (X := X) (w := w) hX).addK (kS A_s s.length c_s 7 (s.flatMap putMC)) h_s
  have hF := Fr.refl ([]) w
  have hleA_s := (st.k (i := 0) rfl).le
  refine Wp_seq fun K1 hK1 => ?_
  refine Wp_region (Las rfl rfl rfl rfl rfl (Ls_nil (Th_n (hK1 _ _ ?_))))
  refine Wp_seq fun K2 hK2 => ?_
  refine Wp_seq fun K3 hK3 => ?_
  refine Wp_region (Lmv rfl rfl rfl rfl rfl (Ls_y (wtd0 rfl) rfl rfl (y_eqnl rfl rfl rfl Try.underlying56) ?_))
  refine Ls_nil (Th_n (hK3 _ _ ?_))
  refine Wp_cond rfl (fun hc1 => ?_) (fun hc1 => ?_)
  · refine Wp_seq fun K4 hK4 => ?_
    refine Wp_region (Las rfl rfl rfl rfl rfl (Ls_nil (Th_n (hK4 _ _ ?_))))
    have st : St X _ [(blkOf none, Cl (([] : List PutM).flatMap putMC ++ []) 111)] [_] := st.addN _
    have how1 : Ow none ([] : List PutM).length 0 7 (([] : List PutM).flatMap putMC) [] := Ow.nil 7
    have hnew1 : ∀ g, blkOf none = some g → g ∈ ([]) ∨ w.heap.size ≤ g := fun g hg => by cases hg
    refine Wp_ret (Th_r (Fq_ret (Res1 rfl rfl) ?_))
    have he1 : clonePut_m s = ([] : List PutM) := by
      first | rfl | (unfold clonePut_m; exact h_s.isNil (by decide) (by simpa using hc1))
    rewrite [he1]
    exact ⟨_, _, _, rfl, how1, (st.picks [0] (by decide)).pickK [], hF, kc_b hnew1 kc_n⟩
  have hc1 := bF hc1
  refine Wp_skip (Th_n (hK2 _ _ ?_))
  refine Wp_seq fun K5 hK5 => ?_
  refine Wp_region (Ls_a (wtd0 rfl) ?_)
  refine a_bsl0 rfl rfl rfl Ty.es_56 Ty.zc_111 st.hp (fun g1 w1 (hp : Hp w1 [_]) hf hg1 => ?_)
  have how2 : Ow (some ⟨g1, 0, none⟩) ([] : List PutM).length 0 7 (([] : List PutM).flatMap putMC) [] := ⟨rfl, .inr ⟨g1, rfl, rfl, Nat.le_refl _, by unfold maxLen; decide⟩⟩
  have st : St X w1 [_] [_] := st.push hp hf hg1
  have st : St X w1 [_] [_] := st
  have hg1 := Nat.le_trans hF.size hg1
  have hF := hF.step0 hf
  have hnew2 : ∀ g, blkOf (some ⟨g1, 0, none⟩) = some g → g ∈ ([]) ∨ w.heap.size ≤ g := fun g hg => by simp [blkOf] at hg; subst hg; exact .inr hg1
  refine Lmv rfl rfl rfl rfl rfl (Ls_a (wtd0 rfl) ?_)
  refine a_appM (i := 0) (xs := ([] : List PutM)) (ys := s) (enc := putMC) rfl rfl rfl rfl rfl rfl Ty.es_56 Ty.zc_111 rfl Ty.by_111 (by decide) (fun _ => rfl) how2 st.hp rfl (st.k (i := 0) rfl).rd.src (fun h => by have := (st.k (i := 0) rfl).rd; exact rd_none this h (st.k (i := 0) rfl).len (by decide)) (by intro x v hv; simp only [putMC, List.mem_cons, List.not_mem_nil, or_false] at hv; rcases hv with rfl | rfl | rfl | rfl | rfl | rfl | rfl <;> rfl) (by first | (unfold maxLen; omega) | (simp [maxLen]; omega)) (by first | (unfold maxLen; omega) | (simp [maxLen]; omega)) (fun Aa1 ca1 sp1 w2 how3 (hp : Hp w2 [_]) hf hnw1 => ?_)
  have st : St X w2 [_] [_] := st.setAny (i := 0) rfl hp hf hnw1
  have st : St X w2 [_] [_] := st
  have hnew3 : ∀ g, blkOf Aa1 = some g → g ∈ ([]) ∨ w.heap.size ≤ g := fun g hg => (hnw1 g hg).elim (hnew2 g) (fun h => .inr (Nat.le_trans hF.size h))
  have hF := hF.step hf (fun y hy => hnew2 y (by simpa using hy))
  refine Las rfl rfl rfl rfl rfl (Ls_nil (Th_n (hK5 _ _ ?_)))
  refine Wp_ret (Fq_ret (Res1 rfl rfl) ?_)
  have he2 : clonePut_m s = (([] : List PutM) ++ s) := by
    first | rfl | (unfold clonePut_m; exact h_s.isNil (by decide) (by simpa using hc1))
  rewrite [he2]
  exact ⟨_, _, _, rfl, how3, (st.picks [0] (by decide)).pickK [], hF, kc_b hnew3 kc_n⟩


theorem indexF_L1_spec {α : Type} [Inhabited α] [DecidableEq α] (s : List α) (f : α → Bool) : ∀ (fuel : Nat) (i : Int), 0 ≤ i → ((s.length : Int) - i).toNat < fuel → (∃ k : Int, indexF_L1 s f fuel i = .inl k ∧ i ≤ k ∧ k < s.length ∧ f (ix s k) = true ∧ ∀ j : Int, i ≤ j → j < k → f (ix s j) = false) ∨ ((∃ q, indexF_L1 s f fuel i = .inr q) ∧ ∀ j : Int, i ≤ j → j < s.length → f (ix s j) = false)
  | 0, i, _, h => by omega
  | fuel + 1, i, h0, h => by
    unfold indexF_L1
    split
    · rename_i h1
      split
      · rename_i h2
        exact .inl ⟨i, rfl, by omega, h1, h2, fun j _ _ => by omega⟩
      · rename_i h2
        have h2 : f (ix s i) = false := by simpa using h2
        rcases indexF_L1_spec s f fuel (i + 1) (by omega) (by omega) with ⟨k, a, b, c, d, e⟩ | ⟨a, b⟩
        · refine .inl ⟨k, a, by omega, c, d, fun j hj hk => ?_⟩
          by_cases e2 : j = i
          · subst e2; exact h2
          · exact e j (by omega) hk
        · refine .inr ⟨a, fun j hj hk => ?_⟩
          by_cases e2 : j = i
          · subst e2; exact h2
          · exact b j (by omega) hk
    · exact .inr ⟨⟨_, rfl⟩, fun j _ _ => by omega⟩
theorem indexF_cases {α : Type} [Inhabited α] [DecidableEq α] (s : List α) (f : α → Bool) : (0 ≤ indexF_m s f ∧ indexF_m s f < s.length ∧ f (ix s (indexF_m s f)) = true ∧ ∀ j : Int, 0 ≤ j → j < indexF_m s f → f (ix s j) = false) ∨ (indexF_m s f = -1 ∧ ∀ j : Int, 0 ≤ j → j < s.length → f (ix s j) = false) := by
  unfold indexF_m
  rcases indexF_L1_spec s f (((s.length : Int) - (0 : Int)).toNat + 1) 0 (by omega) (by omega) with ⟨k, a, b, c, d, e⟩ | ⟨⟨q, a⟩, b⟩
  · rw [a]; exact .inl ⟨b, c, d, e⟩
  · rw [a]; exact .inr ⟨rfl, b⟩
theorem indexF_lt {α : Type} [Inhabited α] [DecidableEq α] {s : List α} {f : α → Bool} (h : ¬ indexF_m s f = -1) : 0 ≤ indexF_m s f ∧ indexF_m s f < s.length := by
  rcases indexF_cases s f with ⟨a, b, _⟩ | ⟨a, _⟩
  · exact ⟨a, b⟩
  · exact absurd a h

def deleteF_L1 {α : Type} [Inhabited α] [DecidableEq α] (s : List α) (del : α → Bool) : Nat → Int → Int → (List α) → ((List α)) ⊕ (Int × Int × (List α))
  | 0, s5, s6, r0 => .inr (s5, s6, r0)
  | fuel + 1, s5, s6, r0 =>
    if s6 < (s.length : Int) then
      if (del (ix r0 s6)) = true then
        deleteF_L1 s del fuel s5 (s6 + 1) r0
      else
        deleteF_L1 s del fuel (s5 + 1) (s6 + 1) (r0.set s5.toNat (ix r0 s6))
    else
      .inr (s5, s6, r0)
def deleteF_m {α : Type} [Inhabited α] [DecidableEq α] (s : List α) (del : α → Bool) : (List α) :=
  if (indexF_m s del) = (-1) then
    s
  else
    match deleteF_L1 s del (((s.length : Int) - ((indexF_m s del) + 1)).toNat + 1) (indexF_m s del) ((indexF_m s del) + 1) s with
    | .inl r => r
    | .inr (s5, s6, r0) =>
      (r0.take s5.toNat ++ List.replicate (r0.length - s5.toNat) default).take s5.toNat


set_option maxRecDepth 20000 in
theorem deletePut_ok (X : List Nat) (w : World) (s : List PutM) (A_s : Option Addr) (c_s : Nat) (sp_s : List Value) (fv_del : Value) (del : PutM → Bool) (hs : St X w [(blkOf A_s, Cl (s.flatMap putMC ++ sp_s) 111)] []) (how_s : Ow A_s s.length c_s 7 (s.flatMap putMC) sp_s) (hp_del : ∀ (w1 : World) (x0 : PutM), Fr (keys [(blkOf A_s, Cl (s.flatMap putMC ++ sp_s) 111)]) w w1 → FnV Try.prog fv_del [.agg (putMC x0).toArray] w1 fun v w2 => v = .bool (del x0) ∧ Fr [] w1 w2) :
    Fn Try.prog 67 [.slice A_s s.length c_s, fv_del] w fun v w' => ∃ (A' : Option Addr) (c' : Nat) (sp' : List Value), v = .slice A' (deleteF_m s del).length c' ∧ Ow A' (deleteF_m s del).length c' 7 ((deleteF_m s del).flatMap putMC) sp' ∧ St X w' [(blkOf A', Cl ((deleteF_m s del).flatMap putMC ++ sp') 111)] [] ∧ Fr (keys [(blkOf A_s, Cl (s.flatMap putMC ++ sp_s) 111)]) w w' ∧ (∀ k ∈ keys [(blkOf A', Cl ((deleteF_m s del).flatMap putMC ++ sp') 111)], k ∈ (keys [(blkOf A_s, Cl (s.flatMap putMC ++ sp_s) 111)]) ∨ w.heap.size ≤ k) := by
  refine Fn_of 42 Ty.en_67 Try.func67 rfl rfl rfl ?_
  dsimp only [argEnv]
  have hs0 := hs
  have st : St X w [(blkOf A_s, Cl (s.flatMap putMC ++ sp_s) 111)] [] := hs
  have hnewA_s : ∀ g, blkOf A_s = some g → g ∈ (keys [(blkOf A_s, Cl (s.flatMap putMC ++ sp_s) 111)]) ∨ w.heap.size ≤ g := fun g hg => .inl (by simp [keys, hg])
  have hleA_s := Ow.le how_s
  have hF := Fr.refl (keys [(blkOf A_s, Cl (s.flatMap putMC ++ sp_s) 111)]) w
  refine Wp_seq fun K1 hK1 => ?_
  refine Wp_region (Las rfl rfl rfl rfl rfl (Ls_nil (Th_n (hK1 _ _ ?_))))
  refine Wp_seq fun K2 hK2 => ?_
  refine Wp_region (Lmv rfl rfl rfl rfl rfl (Lmv rfl rfl rfl rfl rfl (Ls_a (wtd0 rfl) ?_)))
  refine a_call rfl rfl rfl rfl (indexPut_ok (keys (pickL (hOf st) []) ++ X) _ (st.sub [] [] [] (by decide)).lo s A_s c_s fv_del del ((st.freeze (i := 0) [] (by decide) rfl how_s (by decide)).k (i := 0) rfl) (fun w1 x0 hw => hp_del w1 x0 (hF.step0 hw))) (fun v w1 ⟨hv, hf⟩ => ?_)
  subst hv
  have st := st.keep0 hf
  have hF := hF.step0 hf
  have st : St X w1 [_] [] := st
  refine Las rfl rfl rfl rfl rfl (Ls_nil (Th_n (hK2 _ _ ?_)))
  refine Wp_seq fun K3 hK3 => ?_
  refine Wp_seq fun K4 hK4 => ?_
  refine Wp_region (Lmv rfl rfl rfl rfl rfl (Ls_y (wtd0 rfl) rfl rfl (y_eq rfl rfl rfl) (Ls_nil (Th_n (hK4 _ _ ?_)))))
  refine Wp_cond rfl (fun hc1 => ?_) (fun hc1 => ?_)
  · have hc1 := eT hc1
    refine Wp_seq fun K5 hK5 => ?_
    refine Wp_region (Lmv rfl rfl rfl rfl rfl (Las rfl rfl rfl rfl rfl (Ls_nil (Th_n (hK5 _ _ ?_)))))
    refine Wp_ret (Th_r (Fq_ret (Res1 rfl rfl) ?_))
    have he1 : deleteF_m s del = s := by unfold deleteF_m; rewrite [if_pos hc1]; rfl
    rewrite [he1]
    exact ⟨_, _, _, rfl, how_s, (st.picks [0] (by decide)).pickK [], hF, kc_b hnewA_s kc_n⟩
  have hc1 := eF hc1
  have khc1 := indexF_lt hc1
  refine Wp_skip (Th_n (hK3 _ _ ?_))
  refine Wp_seq fun K6 hK6 => ?_
  refine Wp_seq fun K7 hK7 => ?_
  refine Wp_region (Lmv rfl rfl rfl rfl rfl (Ls_y (wtd0 rfl) rfl rfl (y_add (c := (indexF_m s del) + 1) rfl rfl rfl (wf_i64 (by first | omega | (simp; done) | (simp; omega)))) ?_))
  refine Las rfl rfl rfl rfl rfl (Ls_nil (Th_n (hK7 _ _ ?_)))
  refine Wp_block (use_out hK6 (fun E W => ∃ (s5 : Int) (s6 : Int) (r0 : List PutM), E = [(0, .slice A_s s.length c_s), (1, fv_del), (5, .int .i64 s5), (6, .int .i64 s6)] ∧ deleteF_L1 s del (((s.length : Int) - ((indexF_m s del) + 1)).toNat + 1) (indexF_m s del) ((indexF_m s del) + 1) s = .inr (s5, s6, r0) ∧ (0 ≤ s5 ∧ s5 < s6 ∧ s6 ≤ s.length) ∧ Ow A_s s.length c_s 7 (r0.flatMap putMC) sp_s ∧ (r0.length = s.length) ∧ St X W [(blkOf A_s, Cl (r0.flatMap putMC ++ sp_s) 111)] [] ∧ Fr (keys [(blkOf A_s, Cl (s.flatMap putMC ++ sp_s) 111)]) w W) ?_ fun hout1 => ?_)
  · rintro E w2 ⟨s5, s6, r0, rfl, hLk1, hinv, howr0, hlmr0, st, hF⟩
    refine Wp_seq fun K8 hK8 => ?_
    refine Wp_region (Lmv rfl rfl rfl rfl rfl (Lmv rfl rfl rfl rfl rfl ?_))
    obtain ⟨gi1, egi1⟩ := (howr0).some_ (by first | omega | (simp; done) | (simp; omega))
    subst egi1
    refine Ls_y (wtd0 rfl) rfl rfl (y_cuttM (enc := putMC) (xs := r0) (p := s5) rfl rfl (hlmr0).symm Ty.es_56 rfl rfl (by first | omega | (simp; done) | (simp; omega)) (by first | omega | (simp; done) | (simp; omega)) howr0) ?_
    refine Ls_a (wtd0 rfl) ?_
    refine a_clearM (i := 0) (enc := putMC) (xs := r0) (u := default) (p := s5) rfl rfl rfl (hlmr0).symm Ty.es_56 Ty.zc_111 rfl (fun _ => rfl) (by intro v hv; simp only [putMC, List.mem_cons, List.not_mem_nil, or_false] at hv; rcases hv with rfl | rfl | rfl | rfl | rfl | rfl | rfl <;> rfl) howr0 (by first | omega | (simp; done) | (simp; omega)) (by first | omega | (simp; done) | (simp; omega)) st.hp rfl (fun w3 how1 (hp : Hp w3 [_]) hf => ?_)
    have st : St X w3 [_] [] := st.set (i := 0) rfl hp hf
    have st : St X w3 [_] [] := st
    have hF := hF.step hf (fun y hy => hnewA_s y (by simp at hy; subst hy; rfl))
    have hln1 : (r0.take s5.toNat ++ List.replicate (r0.length - s5.toNat) default).length = s.length := by simp only [List.length_append, List.length_take, List.length_replicate]; omega
    refine Ls_nil (Th_n (hK8 _ _ ?_))
    refine Wp_seq fun K9 hK9 => ?_
    refine Wp_region (Lmv rfl rfl rfl rfl rfl (Lmv rfl rfl rfl rfl rfl (Ls_y (wtd0 rfl) rfl rfl (y_cut0M (enc := putMC) (xs := r0.take s5.toNat ++ List.replicate (r0.length - s5.toNat) default) (q := s5) rfl rfl (hln1).symm Ty.es_56 rfl rfl (by first | omega | (simp; done) | (simp; omega)) (by first | omega | (simp; done) | (simp; omega)) how1) ?_)))
    have how2 := Ow.cut (enc := putMC) (xs := r0.take s5.toNat ++ List.replicate (r0.length - s5.toNat) default) (fun _ => rfl) how1 (hln1).symm s5.toNat
    have st : St X _ [_] [] := st.conv (i := 0) rfl (cut_cells s5.toNat)
    refine Las rfl rfl rfl rfl rfl (Ls_nil (Th_n (hK9 _ _ ?_)))
    refine Wp_ret (Fq_ret (Res1 rfl rfl) ?_)
    have he2 : deleteF_m s del = ((r0.take s5.toNat ++ List.replicate (r0.length - s5.toNat) default).take s5.toNat) := by unfold deleteF_m; rewrite [if_neg hc1, hLk1]; (try dsimp only); all_goals rfl
    rewrite [he2]
    exact ⟨_, _, _, rfl, how2, (st.picks [0] (by decide)).pickK [], hF, kc_b hnewA_s kc_n⟩
  refine Wp_loopE (fun m E W => ∃ (s5 : Int) (s6 : Int) (r0 : List PutM), E = [(0, .slice A_s s.length c_s), (1, fv_del), (5, .int .i64 s5), (6, .int .i64 s6)] ∧ deleteF_L1 s del m s5 s6 r0 = deleteF_L1 s del (((s.length : Int) - ((indexF_m s del) + 1)).toNat + 1) (indexF_m s del) ((indexF_m s del) + 1) s ∧ ((s.length : Int) - s6).toNat < m ∧ (0 ≤ s5 ∧ s5 < s6 ∧ s6 ≤ s.length) ∧ Ow A_s s.length c_s 7 (r0.flatMap putMC) sp_s ∧ (r0.length = s.length) ∧ St X W [(blkOf A_s, Cl (r0.flatMap putMC ++ sp_s) 111)] [] ∧ Fr (keys [(blkOf A_s, Cl (s.flatMap putMC ++ sp_s) 111)]) w W) (((s.length : Int) - ((indexF_m s del) + 1)).toNat + 1) [(0, _), (1, _), (5, _), (6, _)] ⟨rfl, rfl, rfl, rfl, trivial⟩ ?_ ?_
  · exact ⟨_, _, _, rfl, rfl, Nat.lt_succ_self _, by first | omega | (simp; done) | (simp; omega), how_s, rfl, st, hF⟩
  rintro m E w4 ⟨s5, s6, r0, rfl, hL1, hmu, hinv, howr0, hlmr0, st, hF⟩
  obtain ⟨fuel, rfl⟩ : ∃ q, m = q + 1 := ⟨m - 1, by omega⟩
  have hlehowr0 := Ow.le howr0
  refine Wp_seq fun K10 hK10 => ?_
  refine Wp_seq fun K11 hK11 => ?_
  refine Wp_region (Lmv rfl rfl rfl rfl rfl (Lmv rfl rfl rfl rfl rfl (Ls_y (wtd0 rfl) rfl rfl (y_lenl rfl rfl Try.underlying56) ?_)))
  refine Ls_y (wtd0 rfl) rfl rfl (y_lt rfl rfl rfl) (Ls_nil (Th_n (hK11 _ _ ?_)))
  refine Wp_cond rfl (fun hc2 => ?_) (fun hc2 => ?_)
  · have hc2 := dT hc2
    refine Wp_skip (Th_n (hK10 _ _ ?_))
    refine Wp_seq fun K12 hK12 => ?_
    refine Wp_block (Wp_seq fun K13 hK13 => ?_)
    refine Wp_region (Lmv rfl rfl rfl rfl rfl (Lmv rfl rfl rfl rfl rfl ?_))
    obtain ⟨gi2, egi2⟩ := (howr0).some_ (by first | omega | (simp; done) | (simp; omega))
    subst egi2
    refine Ls_y (wtd0 rfl) rfl rfl (y_ixa (q := s6) rfl rfl rfl Ty.es_56 (by first | omega | (simp; done) | (simp; omega)) (by first | omega | (simp; done) | (simp; omega))) ?_
    refine Ls_y (wtd0 rfl) rfl rfl (y_ldk (q := s6) rfl rfl Ty.ag_111 (fun _ e => e ▸ Sld.own (i := 0) st.hp rfl howr0 (by decide)) (fun _ => rfl) (by first | omega | (simp; done) | (simp; omega)) (by first | omega | (simp; done) | (simp; omega))) ?_
    refine Ls_a (wtd0 rfl) ?_
    refine a_alloc rfl rfl rfl Ty.zc_111 st.hp (fun g1 w5 (hp : Hp w5 [_, (_, Cl [_, _, _, _, _, _, _] _)]) hf hg1 => ?_)
    have st : St X w5 [_, (_, Cl [_, _, _, _, _, _, _] _)] [] := st.push hp hf hg1
    have hg1 := Nat.le_trans hF.size hg1
    have hF := hF.step0 hf
    refine Ls_a (wtd0 rfl) ?_
    refine a_storew (i := 1) rfl rfl rfl rfl Ty.sz_111 rfl (by first | assumption | (simp [Value.oneCell', putMC]; done)) st.hp rfl rfl (fun w6 (hp : Hp w6 [_, (_, Cl [_, _, _, _, _, _, _] _)]) hf _ => ?_)
    have st : St X w6 [_, (_, Cl [_, _, _, _, _, _, _] _)] [] := st.set (i := 1) rfl hp hf
    have hF := hF.step hf (by intro y hy; simp only [List.mem_cons, List.not_mem_nil, or_false] at hy; subst hy; first | (exact Or.inr (by omega)) | (exact Or.inl (kin0 _ _)) | (exact Or.inl (by simp)))
    refine Ls_nil (Th_n (hK13 _ _ ?_))
    refine Wp_seq fun K14 hK14 => ?_
    refine Wp_region (Lmv rfl rfl rfl rfl rfl (Ls_y (wtd0 rfl) rfl rfl (y_loadw (i := 1) rfl rfl Ty.ag_111 (fun _ e => e ▸ st.hp) rfl rfl) ?_))
    refine Ls_a (wtd0 rfl) ?_
    refine a_callv rfl rfl rfl rfl rfl (hp_del _ (ix r0 s6) hF) (fun v w7 ⟨hv, hf⟩ => ?_)
    subst hv
    have st := st.keep0 hf
    have hF := hF.step0 hf
    have st : St X w7 [_, (_, Cl [_, _, _, _, _, _, _] _)] [] := st
    refine Ls_y (wtd0 rfl) rfl rfl (y_not rfl rfl) (Ls_nil (Th_n (hK14 _ _ ?_)))
    refine Wp_cond rfl (fun hc3 => ?_) (fun hc3 => ?_)
    · have hc3 := bF (nT hc3)
      refine Wp_seq fun K15 hK15 => ?_
      refine Wp_region (Lmv rfl rfl rfl rfl rfl (Lmv rfl rfl rfl rfl rfl (Ls_y (wtd0 rfl) rfl rfl (y_loadw (i := 1) rfl rfl Ty.ag_111 (fun _ e => e ▸ st.hp) rfl rfl) ?_)))
      refine Ls_y (wtd0 rfl) rfl rfl (y_ixa (q := s5) rfl rfl rfl Ty.es_56 (by first | omega | (simp; done) | (simp; omega)) (by first | omega | (simp; done) | (simp; omega))) ?_
      refine Ls_a (wtd0 rfl) ?_
      refine a_setrow (i := 0) (q := s5) (u := ix r0 s6) rfl rfl rfl rfl rfl (fun _ => rfl) Ty.sz_111 (by intro v hv; simp only [putMC, List.mem_cons, List.not_mem_nil, or_false] at hv; rcases hv with rfl | rfl | rfl | rfl | rfl | rfl | rfl <;> rfl) howr0 st.hp rfl (by first | omega | (simp; done) | (simp; omega)) (by first | omega | (simp; done) | (simp; omega)) (by decide) (fun w8 how3 (hp : Hp w8 [_, (_, Cl [_, _, _, _, _, _, _] _)]) hf => ?_)
      have st : St X w8 [_, (_, Cl [_, _, _, _, _, _, _] _)] [] := st.set (i := 0) rfl hp hf
      have st : St X w8 [_, (_, Cl [_, _, _, _, _, _, _] _)] [] := st
      have hF := hF.step hf (fun y hy => hnewA_s y (by simp at hy; subst hy; rfl))
      have hln2 : (r0.set s5.toNat (ix r0 s6)).length = s.length := by rw [List.length_set]; exact hlmr0
      rewrite [hln2] at how3
      refine Ls_nil (Th_n (hK15 _ _ ?_))
      refine Wp_region (Lmv rfl rfl rfl rfl rfl (Ls_y (wtd0 rfl) rfl rfl (y_add (c := s5 + 1) rfl rfl rfl (wf_i64 (by first | omega | (simp; done) | (simp; omega)))) ?_))
      refine Las rfl rfl rfl rfl rfl (Ls_nil (Ib_n (Th_n (hK12 _ _ ?_))))
      refine Wp_region (Lmv rfl rfl rfl rfl rfl (Ls_y (wtd0 rfl) rfl rfl (y_add (c := s6 + 1) rfl rfl rfl (wf_i64 (by first | omega | (simp; done) | (simp; omega)))) ?_))
      refine Las rfl rfl rfl rfl rfl (Ls_nil (Th_n (?_)))
      have hE1 : deleteF_L1 s del fuel (s5 + 1) (s6 + 1) (r0.set s5.toNat (ix r0 s6)) = deleteF_L1 s del (((s.length : Int) - ((indexF_m s del) + 1)).toNat + 1) (indexF_m s del) ((indexF_m s del) + 1) s := by rewrite [← hL1, deleteF_L1]; rewrite [if_pos hc2, if_neg hc3]; rfl
      exact ⟨fuel, [(0, _), (1, _), (5, _), (6, _)], Nat.lt_succ_self _, ⟨rfl, rfl, rfl, rfl, trivial⟩, (s5 + 1), (s6 + 1), (r0.set s5.toNat (ix r0 s6)), rfl, hE1, by first | omega | (simp; done) | (simp; omega), by first | omega | (simp; done) | (simp; omega), how3, hln2, (st.picks [0] (by decide)).pickK [], hF⟩
    have hc3 := (nF hc3)
    refine Wp_skip (Ib_n (Th_n (hK12 _ _ ?_)))
    refine Wp_region (Lmv rfl rfl rfl rfl rfl (Ls_y (wtd0 rfl) rfl rfl (y_add (c := s6 + 1) rfl rfl rfl (wf_i64 (by first | omega | (simp; done) | (simp; omega)))) ?_))
    refine Las rfl rfl rfl rfl rfl (Ls_nil (Th_n (?_)))
    have hE2 : deleteF_L1 s del fuel s5 (s6 + 1) r0 = deleteF_L1 s del (((s.length : Int) - ((indexF_m s del) + 1)).toNat + 1) (indexF_m s del) ((indexF_m s del) + 1) s := by rewrite [← hL1, deleteF_L1]; rewrite [if_pos hc2, if_pos hc3]; rfl
    exact ⟨fuel, [(0, _), (1, _), (5, _), (6, _)], Nat.lt_succ_self _, ⟨rfl, rfl, rfl, rfl, trivial⟩, s5, (s6 + 1), r0, rfl, hE2, by first | omega | (simp; done) | (simp; omega), by first | omega | (simp; done) | (simp; omega), howr0, hlmr0, (st.picks [0] (by decide)).pickK [], hF⟩
  have hc2 := dF hc2
  refine Wp_exit (Th_e (Th_e (Ib_hit (Th_n (?_)))))
  have hE3 : deleteF_L1 s del (((s.length : Int) - ((indexF_m s del) + 1)).toNat + 1) (indexF_m s del) ((indexF_m s del) + 1) s = .inr (s5, s6, r0) := by rewrite [← hL1, deleteF_L1]; rewrite [if_neg hc2]; rfl
  exact hout1 _ [(0, _), (1, _), (5, _), (6, _)] _ ⟨rfl, rfl, rfl, rfl, trivial⟩ ⟨s5, s6, r0, rfl, hE3, by first | omega | (simp; done) | (simp; omega), howr0, hlmr0, (st.picks [0] (by decide)).pickK [], hF⟩


theorem ix_set_ne {α : Type} [Inhabited α] (l : List α) {i j : Int} (v : α) (h0 : 0 ≤ i) (h1 : 0 ≤ j) (h : i ≠ j) : ix (l.set i.toNat v) j = ix l j := by
  unfold ix; rw [List.getElem?_set_ne (by omega)]
theorem ix_get {α : Type} [Inhabited α] (l : List α) {j : Int} (h0 : 0 ≤ j) (h1 : j < l.length) : l.drop j.toNat = ix l j :: l.drop (j + 1).toNat := by
  have hl : j.toNat < l.length := by omega
  rw [List.drop_eq_getElem_cons hl, show (j + 1).toNat = j.toNat + 1 by omega]
  unfold ix; rw [List.getElem?_eq_getElem hl]; rfl
theorem take_set_succ {α : Type} (l : List α) {i : Int} (v : α) (h0 : 0 ≤ i) (h1 : i < l.length) : (l.set i.toNat v).take (i + 1).toNat = l.take i.toNat ++ [v] := by
  have hl : i.toNat < l.length := by omega
  rw [show (i + 1).toNat = i.toNat + 1 by omega, List.take_add_one, List.take_set_of_le (Nat.le_refl _), List.getElem?_set_self hl]; rfl
theorem drop_set_lt {α : Type} (l : List α) {i j : Int} (v : α) (h0 : 0 ≤ i) (h : i < j) : (l.set i.toNat v).drop j.toNat = l.drop j.toNat := List.drop_set_of_lt (by omega)
theorem deleteF_L1_spec {α : Type} [Inhabited α] [DecidableEq α] (s : List α) (del : α → Bool) : ∀ (fuel : Nat) (i j : Int) (r : List α), 0 ≤ i → i < j → j ≤ s.length → r.length = s.length → ((s.length : Int) - j).toNat < fuel →
    ∃ i' r' j', deleteF_L1 s del fuel i j r = .inr (i', j', r') ∧ r'.length = s.length ∧ 0 ≤ i' ∧ i' ≤ s.length ∧ r'.take i'.toNat = r.take i.toNat ++ (r.drop j.toNat).filter (fun x => !del x)
  | 0, i, j, r, _, _, _, _, h => by omega
  | fuel + 1, i, j, r, h0, h1, h2, hr, h => by
    unfold deleteF_L1
    split
    · rename_i hj
      have hd := ix_get r (j := j) (by omega) (by omega)
      split
      · rename_i hdel
        obtain ⟨i', r', j', a, b, c, c2, d⟩ := deleteF_L1_spec s del fuel i (j + 1) r h0 (by omega) (by omega) hr (by omega)
        refine ⟨i', r', j', a, b, c, c2, ?_⟩
        rw [d, hd, List.filter_cons_of_neg (by simp [hdel])]
      · rename_i hdel
        obtain ⟨i', r', j', a, b, c, c2, d⟩ := deleteF_L1_spec s del fuel (i + 1) (j + 1) (r.set i.toNat (ix r j)) (by omega) (by omega) (by omega) (by simpa using hr) (by omega)
        refine ⟨i', r', j', a, b, c, c2, ?_⟩
        rw [d, take_set_succ r _ h0 (by omega), drop_set_lt r _ h0 (by omega), hd, List.filter_cons_of_pos (by simpa using hdel)]
        simp
    · have : j = s.length := by omega
      subst this
      refine ⟨i, r, _, rfl, hr, h0, by omega, ?_⟩
      rw [List.drop_of_length_le (by omega)]; simp
theorem deleteF_eq {α : Type} [Inhabited α] [DecidableEq α] (s : List α) (del : α → Bool) : deleteF_m s del = s.filter (fun x => !del x) := by
  unfold deleteF_m
  rcases indexF_cases s del with ⟨a, b, c, d⟩ | ⟨a, b⟩
  · rw [if_neg (by omega)]
    obtain ⟨i', r', j', e1, e2, e3, e4, e5⟩ := deleteF_L1_spec s del (((s.length : Int) - (indexF_m s del + 1)).toNat + 1) (indexF_m s del) (indexF_m s del + 1) s a (by omega) (by omega) rfl (by omega)
    rw [e1]
    simp only
    rw [List.take_append_of_le_length (by rw [List.length_take]; omega), List.take_take, Nat.min_self, e5]
    have hs : s = s.take (indexF_m s del).toNat ++ ix s (indexF_m s del) :: s.drop (indexF_m s del + 1).toNat := by
      rw [← ix_get s a b, List.take_append_drop]
    have h1 : (s.take (indexF_m s del).toNat).filter (fun x => !del x) = s.take (indexF_m s del).toNat := by
      rw [List.filter_eq_self]
      intro x hx
      obtain ⟨k, hk⟩ := List.getElem?_of_mem hx
      rw [List.getElem?_take] at hk
      split at hk
      · rename_i hlt
        have := d (k : Int) (by omega) (by omega)
        unfold ix at this
        rw [Int.toNat_natCast, hk] at this
        simpa using this
      · cases hk
    generalize hk : indexF_m s del = k at *
    have h2 : s.filter (fun x => !del x) = (s.take k.toNat ++ ix s k :: s.drop (k + 1).toNat).filter (fun x => !del x) := by rw [← hs]
    rw [h2, List.filter_append, h1, List.filter_cons_of_neg (by simp [c])]
  · rw [if_pos a]
    symm
    rw [List.filter_eq_self]
    intro x hx
    obtain ⟨k, hk⟩ := List.getElem?_of_mem hx
    have hl : k < s.length := (List.getElem?_eq_some_iff.1 hk).1
    have := b (k : Int) (by omega) (by omega)
    unfold ix at this
    rw [Int.toNat_natCast, hk] at this
    simpa using this

def mof1_m (p : PutM) (field : List UInt8) : Bool :=
  p.field != field


set_option maxRecDepth 20000 in
theorem mof1_ok (X : List Nat) (w : World) (p : PutM) (g_field : Nat) (field : List UInt8) (hs : St X w [(some g_field, Cl [sv field] 9)] []) :
    Fn Try.prog 69 [.agg (putMC p).toArray, .pointer (some ⟨g_field, 0, none⟩)] w fun v w' => v = .bool (mof1_m p field) ∧ Fr [] w w' := by
  refine Fn_of 8 Ty.en_69 Try.func69 rfl rfl rfl ?_
  dsimp only [argEnv]
  have hs0 := hs
  have st : St X w [(some g_field, Cl [sv field] 9)] [] := hs
  have hF := Fr.refl ([]) w
  refine Wp_seq fun K1 hK1 => ?_
  refine Wp_region (Ls_a (wtd0 rfl) ?_)
  refine a_box rfl rfl rfl rfl st.hp (fun g1 w1 (hp : Hp w1 [(_, Cl [_] _), (_, Cl [_, _, _, _, _, _, _] _)]) hf hg1 => ?_)
  have st : St X w1 [(_, Cl [_] _), (_, Cl [_, _, _, _, _, _, _] _)] [] := st.push hp hf hg1
  have hg1 := Nat.le_trans hF.size hg1
  have hF := hF.step0 hf
  refine Las rfl rfl rfl rfl rfl (Ls_nil (Th_n (hK1 _ _ ?_)))
  refine Wp_seq fun K2 hK2 => ?_
  refine Wp_region (Ls_y (wtd0 rfl) rfl rfl (y_fld rfl rfl Ty.fo_111_1) (Ls_y (wtd0 rfl) rfl rfl (y_load (i := 1) rfl rfl Ty.pl_9 (fun _ e => e ▸ st.hp) rfl rfl) ?_))
  refine Ls_y (wtd0 rfl) rfl rfl (y_load (i := 0) rfl rfl Ty.pl_9 (fun _ e => e ▸ st.hp) rfl rfl) ?_
  refine Ls_y (wtd0 rfl) rfl rfl (y_nes rfl rfl rfl) ?_
  refine Las rfl rfl rfl rfl rfl (Ls_nil (Th_n (hK2 _ _ ?_)))
  refine Wp_ret (Fq_ret (Res1 rfl rfl) ?_)
  have he1 : mof1_m p field = (p.field != field) := by unfold mof1_m; rfl
  rewrite [he1]
  exact ⟨rfl, hF⟩

def mof_m (s : MapM) (field : List UInt8) : (List PutM) :=
  if (mcheck_m s) = 0 then
    deleteF_m (clonePut_m s.puts) (fun x0 => mof1_m x0 field)
  else
    ([] : List PutM)


set_option maxRecDepth 20000 in
theorem mof_ok (X : List Nat) (w : World) (hX : Lo X w) (s : MapM) (A_s_puts : Option Addr) (c_s_puts : Nat) (A_s_gone : Option Addr) (c_s_gone : Nat) (field : List UInt8) (h_s_puts : Sld X w A_s_puts s.puts.length c_s_puts 7 (s.puts.flatMap putMC)) (h_s_gone : Sld X w A_s_gone s.gone.length c_s_gone 3 (s.gone.flatMap tagMC)) (h1 : s.puts.length ≤ 1000000) (h2 : s.gone.length ≤ 1000000) :
    Fn Try.prog 47 [.agg #[.slice A_s_puts s.puts.length c_s_puts, .slice A_s_gone s.gone.length c_s_gone], sv field] w fun v w' => ∃ (Ar : Option Addr) (cr : Nat), v = .slice Ar (mof_m s field).length cr ∧ Sld X w' Ar (mof_m s field).length cr 7 ((mof_m s field).flatMap putMC) ∧ Fr [] w w' := by
  refine Fn_of 13 Ty.en_47 Try.func47 rfl rfl rfl ?_
  dsimp only [argEnv]
  have st : St X w [] [kS A_s_puts s.puts.length c_s_puts 7 (s.puts.flatMap putMC), kS A_s_gone s.gone.length c_s_gone 3 (s.gone.flatMap tagMC)] := ((St.nil (X := X) (w := w) hX).addK (kS A_s_puts s.puts.length c_s_puts 7 (s.puts.flatMap putMC)) h_s_puts).addK (kS A_s_gone s.gone.length c_s_gone 3 (s.gone.flatMap tagMC)) h_s_gone
  have hF := Fr.refl ([]) w
  have hleA_s_puts := (st.k (i := 0) rfl).le
  have hleA_s_gone := (st.k (i := 1) rfl).le
  refine Wp_seq fun K1 hK1 => ?_
  refine Wp_region (Ls_a (wtd0 rfl) ?_)
  refine a_box rfl rfl rfl rfl st.hp (fun g1 w1 (hp : Hp w1 [(_, Cl [_, _] _)]) hf hg1 => ?_)
  have st : St X w1 [(_, Cl [_, _] _)] [_, _] := st.push hp hf hg1
  have hg1 := Nat.le_trans hF.size hg1
  have hF := hF.step0 hf
  refine Ls_a (wtd0 rfl) ?_
  refine a_box1 rfl rfl rfl rfl rfl st.hp (fun g2 w2 (hp : Hp w2 [(_, Cl [_, _] _), (_, Cl [_] _)]) hf hg2 => ?_)
  have st : St X w2 [(_, Cl [_, _] _), (_, Cl [_] _)] [_, _] := st.push hp hf hg2
  have hg2 := Nat.le_trans hF.size hg2
  have hF := hF.step0 hf
  refine Las rfl rfl rfl rfl rfl (Ls_nil (Th_n (hK1 _ _ ?_)))
  refine Wp_seq fun K2 hK2 => ?_
  refine Wp_seq fun K3 hK3 => ?_
  refine Wp_region (Ls_y (wtd0 rfl) rfl rfl (y_loadw (i := 0) rfl rfl Ty.ag_58 (fun _ e => e ▸ st.hp) rfl rfl) ?_)
  refine Ls_a (wtd0 rfl) ?_
  refine a_call rfl rfl rfl rfl (mcheck_ok (keys (hOf st) ++ X) _ st.Lo s A_s_puts c_s_puts A_s_gone c_s_gone (st.k (i := 0) rfl) (st.k (i := 1) rfl) h1 h2) (fun v w3 ⟨hv, hf⟩ => ?_)
  subst hv
  have st := st.keep0 hf
  have hF := hF.step0 hf
  have st : St X w3 [(_, Cl [_, _] _), (_, Cl [_] _)] [_, _] := st
  refine Ls_y (wtd0 rfl) rfl rfl (y_ne rfl rfl rfl) (Ls_nil (Th_n (hK3 _ _ ?_)))
  refine Wp_cond rfl (fun hc1 => ?_) (fun hc1 => ?_)
  · have hc1 := neT hc1
    refine Wp_seq fun K4 hK4 => ?_
    refine Wp_region (Las rfl rfl rfl rfl rfl (Ls_nil (Th_n (hK4 _ _ ?_))))
    have st := st.addK (kS none 0 0 7 []) ⟨Rdx.nil, by simp, Nat.le_refl _, Nat.zero_le _⟩
    have st : St X w3 [(_, Cl [_, _] _), (_, Cl [_] _)] [_, _, _] := st
    refine Wp_ret (Th_r (Fq_ret (Res1 rfl rfl) ?_))
    have he1 : mof_m s field = ([] : List PutM) := by unfold mof_m; rewrite [if_neg hc1]; rfl
    rewrite [he1]
    exact ⟨_, _, rfl, st.out (i := 2) rfl, hF⟩
  have hc1 := neF hc1
  refine Wp_skip (Th_n (hK2 _ _ ?_))
  refine Wp_seq fun K5 hK5 => ?_
  refine Wp_region (Ls_y (wtd0 rfl) rfl rfl (y_fld rfl rfl Ty.fo_58_0) (Ls_y (wtd0 rfl) rfl rfl (y_load (i := 0) rfl rfl Ty.pl_56 (fun _ e => e ▸ st.hp) rfl rfl) ?_))
  refine Ls_a (wtd0 rfl) ?_
  refine a_call rfl rfl rfl rfl (clonePut_ok (keys (hOf st) ++ X) _ st.Lo s.puts A_s_puts c_s_puts (st.k (i := 0) rfl) h1) (fun v w4 ⟨Ao1, co1, spo1, hv, how1, hN1, hfO1, hkc1⟩ => ?_)
  subst hv
  have hnew1 : ∀ g, blkOf Ao1 = some g → g ∈ ([]) ∨ w.heap.size ≤ g := fun g hg => (hkc1 g (by simp [keys, hg])).elim (fun h => by simp at h) (fun h => .inr (Nat.le_trans hF.size h))
  have st := st.callN hN1 hfO1 (fun k hk => (hkc1 k hk).elim (fun h => by simp at h) id)
  have hF := hF.step0 hfO1
  have hlehow1 := Ow.le how1
  have st : St X w4 [(_, Cl [_, _] _), (_, Cl [_] _), _] [_, _] := st
  refine Ls_y (wtd0 rfl) rfl rfl (y_mkfn rfl rfl rfl) ?_
  refine Ls_a (wtd0 rfl) ?_
  refine a_call rfl rfl rfl rfl (deletePut_ok (keys (pickL (hOf st) [0, 1]) ++ X) _ (clonePut_m s.puts) Ao1 co1 spo1 (.func (.func 69) #[] #[.pointer (some ⟨g2, 0, none⟩)]) (fun x0 => mof1_m x0 field) (st.sub [0, 1] [2] [] (by decide)) how1 (fun w1 x0 hw => FnV.ofc [.pointer (some ⟨g2, 0, none⟩)] (mof1_ok (keys (pickL (hOf st) [0, 2]) ++ X) w1 x0 g2 field ((st.sub [0, 2] [1] [] (by decide)).other hw (fun y hy => List.mem_append_left _ (keys_in (i := 2) (j := 1) (hOf st) [0, 2] rfl rfl hy))) ))) (fun v w5 ⟨Ao2, co2, spo2, hv, how2, hN2, hfO2, hkc2⟩ => ?_)
  subst hv
  have hnew2 : ∀ g, blkOf Ao2 = some g → g ∈ ([]) ∨ w.heap.size ≤ g := fun g hg => (hkc2 g (by simp [keys, hg])).elim (fun h => (kc_b hnew1 kc_n) g h) (fun h => .inr (Nat.le_trans hF.size h))
  have st := st.callS [0, 1] [2] (by decide) rfl hN2 hfO2 hkc2
  have hF := hF.step hfO2 (kc_b hnew1 kc_n)
  have hlehow2 := Ow.le how2
  have st : St X w5 [(_, Cl [_, _] _), (_, Cl [_] _), _] [_, _] := st
  refine Las rfl rfl rfl rfl rfl (Ls_nil (Th_n (hK5 _ _ ?_)))
  have st : St X w5 [(_, Cl [_, _] _), (_, Cl [_] _)] [_, _, _] := st.freeze (i := 2) [0, 1] (by decide) rfl how2 (by decide)
  refine Wp_ret (Fq_ret (Res1 rfl rfl) ?_)
  have he2 : mof_m s field = (deleteF_m (clonePut_m s.puts) (fun x0 => mof1_m x0 field)) := by unfold mof_m; rewrite [if_pos hc1]; rfl
  rewrite [he2]
  exact ⟨_, _, rfl, st.out (i := 2) rfl, hF⟩


theorem mof_len (s : MapM) (field : List UInt8) : (mof_m s field).length ≤ s.puts.length := by
  unfold mof_m
  split
  · rw [deleteF_eq]; exact List.length_filter_le _ _
  · simp

def mTags_m (s : MapM) (field : List UInt8) : (List TagM) :=
  mtags_m (mof_m s field)


set_option maxRecDepth 20000 in
theorem mTags_ok (X : List Nat) (w : World) (hX : Lo X w) (s : MapM) (A_s_puts : Option Addr) (c_s_puts : Nat) (A_s_gone : Option Addr) (c_s_gone : Nat) (field : List UInt8) (h_s_puts : Sld X w A_s_puts s.puts.length c_s_puts 7 (s.puts.flatMap putMC)) (h_s_gone : Sld X w A_s_gone s.gone.length c_s_gone 3 (s.gone.flatMap tagMC)) (h1 : s.puts.length ≤ 1000000) (h2 : s.gone.length ≤ 1000000) :
    Fn Try.prog 22 [.agg #[.slice A_s_puts s.puts.length c_s_puts, .slice A_s_gone s.gone.length c_s_gone], sv field] w fun v w' => ∃ (Ar : Option Addr) (cr : Nat), v = .slice Ar (mTags_m s field).length cr ∧ Sld X w' Ar (mTags_m s field).length cr 3 ((mTags_m s field).flatMap tagMC) ∧ Fr [] w w' := by
  refine Fn_of 9 Ty.en_22 Try.func22 rfl rfl rfl ?_
  dsimp only [argEnv]
  have st : St X w [] [kS A_s_puts s.puts.length c_s_puts 7 (s.puts.flatMap putMC), kS A_s_gone s.gone.length c_s_gone 3 (s.gone.flatMap tagMC)] := ((St.nil (X := X) (w := w) hX).addK (kS A_s_puts s.puts.length c_s_puts 7 (s.puts.flatMap putMC)) h_s_puts).addK (kS A_s_gone s.gone.length c_s_gone 3 (s.gone.flatMap tagMC)) h_s_gone
  have hF := Fr.refl ([]) w
  have hleA_s_puts := (st.k (i := 0) rfl).le
  have hleA_s_gone := (st.k (i := 1) rfl).le
  refine Wp_seq fun K1 hK1 => ?_
  refine Wp_region (Ls_a (wtd0 rfl) ?_)
  refine a_box rfl rfl rfl rfl st.hp (fun g1 w1 (hp : Hp w1 [(_, Cl [_, _] _)]) hf hg1 => ?_)
  have st : St X w1 [(_, Cl [_, _] _)] [_, _] := st.push hp hf hg1
  have hg1 := Nat.le_trans hF.size hg1
  have hF := hF.step0 hf
  refine Las rfl rfl rfl rfl rfl (Ls_nil (Th_n (hK1 _ _ ?_)))
  refine Wp_seq fun K2 hK2 => ?_
  refine Wp_region (Ls_y (wtd0 rfl) rfl rfl (y_loadw (i := 0) rfl rfl Ty.ag_58 (fun _ e => e ▸ st.hp) rfl rfl) ?_)
  refine Lmv rfl rfl rfl rfl rfl (Ls_a (wtd0 rfl) ?_)
  refine a_call rfl rfl rfl rfl (mof_ok (keys (hOf st) ++ X) _ st.Lo s A_s_puts c_s_puts A_s_gone c_s_gone field (st.k (i := 0) rfl) (st.k (i := 1) rfl) h1 h2) (fun v w2 ⟨Ar1, cr1, hv, hr1, hf⟩ => ?_)
  subst hv
  have st := st.keep0 hf
  have hF := hF.step0 hf
  have hlehr1 := Sld.le hr1
  have st := st.addK (kS Ar1 (mof_m s field).length cr1 7 ((mof_m s field).flatMap putMC)) hr1
  have st : St X w2 [(_, Cl [_, _] _)] [_, _, _] := st
  refine Ls_a (wtd0 rfl) ?_
  refine a_call rfl rfl rfl rfl (mtags_ok (keys (hOf st) ++ X) _ st.Lo (mof_m s field) Ar1 cr1 (st.k (i := 2) rfl) (Nat.le_trans (mof_len s field) h1)) (fun v w3 ⟨Ar2, cr2, hv, hr2, hf⟩ => ?_)
  subst hv
  have st := st.keep0 hf
  have hF := hF.step0 hf
  have hlehr2 := Sld.le hr2
  have st := st.addK (kS Ar2 (mtags_m (mof_m s field)).length cr2 3 ((mtags_m (mof_m s field)).flatMap tagMC)) hr2
  have st : St X w3 [(_, Cl [_, _] _)] [_, _, _, _] := st
  refine Las rfl rfl rfl rfl rfl (Ls_nil (Th_n (hK2 _ _ ?_)))
  refine Wp_ret (Fq_ret (Res1 rfl rfl) ?_)
  have he1 : mTags_m s field = (mtags_m (mof_m s field)) := by unfold mTags_m; rfl
  rewrite [he1]
  exact ⟨_, _, rfl, st.out (i := 3) rfl, hF⟩

def oprepare_m (s : ObjM) (o : OpM) (tag : TagM) (at_ : StampM) : EffectM × Int :=
  if (ocheckOp_m o) = 0 then
    if (okind_m o.act) = s.kind then
      if (bnotTag_m tag) = true then
        ((⟨0, [], 0, (⟨(⟨0, 0⟩ : IdM), 0⟩ : TagM), (⟨0, 0⟩ : StampM), ([] : List TagM)⟩ : EffectM), 2)
      else
        if (otimed_m at_) = true then
          if o.act = 1 then
            ((⟨o.act, o.name, o.val, tag, at_, ([] : List TagM)⟩ : EffectM), 0)
          else
            if o.act = 5 then
              ((⟨o.act, o.name, o.val, tag, at_, ([] : List TagM)⟩ : EffectM), 0)
            else
              if o.act = 4 then
                ((⟨o.act, o.name, o.val, tag, (⟨0, 0⟩ : StampM), oTags_m s.setF o.name⟩ : EffectM), 0)
              else
                if o.act = 6 then
                  ((⟨o.act, o.name, o.val, tag, (⟨0, 0⟩ : StampM), mTags_m s.map o.name⟩ : EffectM), 0)
                else
                  ((⟨o.act, o.name, o.val, tag, (⟨0, 0⟩ : StampM), ([] : List TagM)⟩ : EffectM), 0)
        else
          ((⟨0, [], 0, (⟨(⟨0, 0⟩ : IdM), 0⟩ : TagM), (⟨0, 0⟩ : StampM), ([] : List TagM)⟩ : EffectM), 3)
    else
      ((⟨0, [], 0, (⟨(⟨0, 0⟩ : IdM), 0⟩ : TagM), (⟨0, 0⟩ : StampM), ([] : List TagM)⟩ : EffectM), 5)
  else
    ((⟨0, [], 0, (⟨(⟨0, 0⟩ : IdM), 0⟩ : TagM), (⟨0, 0⟩ : StampM), ([] : List TagM)⟩ : EffectM), ocheckOp_m o)


set_option maxRecDepth 20000 in
theorem oprepare_ok (X : List Nat) (w : World) (hX : Lo X w) (s : ObjM) (A_s_setF_adds : Option Addr) (c_s_setF_adds : Nat) (A_s_setF_gone : Option Addr) (c_s_setF_gone : Nat) (A_s_map_puts : Option Addr) (c_s_map_puts : Nat) (A_s_map_gone : Option Addr) (c_s_map_gone : Nat) (o : OpM) (tag : TagM) (at_ : StampM) (h_s_setF_adds : Sld X w A_s_setF_adds s.setF.adds.length c_s_setF_adds 4 (s.setF.adds.flatMap addMC)) (h_s_setF_gone : Sld X w A_s_setF_gone s.setF.gone.length c_s_setF_gone 3 (s.setF.gone.flatMap tagMC)) (h_s_map_puts : Sld X w A_s_map_puts s.map.puts.length c_s_map_puts 7 (s.map.puts.flatMap putMC)) (h_s_map_gone : Sld X w A_s_map_gone s.map.gone.length c_s_map_gone 3 (s.map.gone.flatMap tagMC)) (h1 : s.setF.adds.length ≤ 1000000) (h2 : s.setF.gone.length ≤ 1000000) (h3 : s.map.puts.length ≤ 1000000) (h4 : s.map.gone.length ≤ 1000000) :
    Fn Try.prog 5 [.agg #[.int .i64 s.kind, .int .i64 s.reg.val, .int .u32 s.reg.atF.time, .int .i64 s.reg.atF.origin, .int .i64 s.num.plus, .int .i64 s.num.minus, .slice A_s_setF_adds s.setF.adds.length c_s_setF_adds, .slice A_s_setF_gone s.setF.gone.length c_s_setF_gone, .slice A_s_map_puts s.map.puts.length c_s_map_puts, .slice A_s_map_gone s.map.gone.length c_s_map_gone], .agg (opMC o).toArray, .agg (tagMC tag).toArray, .agg (stampMC at_).toArray] w fun v w' => ∃ (Ar0_tags : Option Addr) (cr0_tags : Nat), v = .tuple #[.agg #[.int .i64 (((oprepare_m s o tag at_).1).act), sv (((oprepare_m s o tag at_).1).name), .int .i64 (((oprepare_m s o tag at_).1).val), .int .i64 ((((oprepare_m s o tag at_).1).tag).id.origin), .int .u32 ((((oprepare_m s o tag at_).1).tag).id.seq), .int .i64 ((((oprepare_m s o tag at_).1).tag).n), .int .u32 ((((oprepare_m s o tag at_).1).atF).time), .int .i64 ((((oprepare_m s o tag at_).1).atF).origin), .slice Ar0_tags (((oprepare_m s o tag at_).1).tags).length cr0_tags], .int .i64 ((oprepare_m s o tag at_).2)] ∧ Sld X w' Ar0_tags (((oprepare_m s o tag at_).1).tags).length cr0_tags 3 ((((oprepare_m s o tag at_).1).tags).flatMap tagMC) ∧ Fr [] w w' := by
  refine Fn_of 67 Ty.en_5 Try.func5 rfl rfl rfl ?_
  dsimp only [argEnv]
  have st : St X w [] [kS A_s_setF_adds s.setF.adds.length c_s_setF_adds 4 (s.setF.adds.flatMap addMC), kS A_s_setF_gone s.setF.gone.length c_s_setF_gone 3 (s.setF.gone.flatMap tagMC), kS A_s_map_puts s.map.puts.length c_s_map_puts 7 (s.map.puts.flatMap putMC), kS A_s_map_gone s.map.gone.length c_s_map_gone 3 (s.map.gone.flatMap tagMC)] := ((((St.nil (X := X) (w := w) hX).addK (kS A_s_setF_adds s.setF.adds.length c_s_setF_adds 4 (s.setF.adds.flatMap addMC)) h_s_setF_adds).addK (kS A_s_setF_gone s.setF.gone.length c_s_setF_gone 3 (s.setF.gone.flatMap tagMC)) h_s_setF_gone).addK (kS A_s_map_puts s.map.puts.length c_s_map_puts 7 (s.map.puts.flatMap putMC)) h_s_map_puts).addK (kS A_s_map_gone s.map.gone.length c_s_map_gone 3 (s.map.gone.flatMap tagMC)) h_s_map_gone
  have hF := Fr.refl ([]) w
  have hleA_s_setF_adds := (st.k (i := 0) rfl).le
  have hleA_s_setF_gone := (st.k (i := 1) rfl).le
  have hleA_s_map_puts := (st.k (i := 2) rfl).le
  have hleA_s_map_gone := (st.k (i := 3) rfl).le
  refine Wp_seq fun K1 hK1 => ?_
  refine Wp_region (Ls_a (wtd0 rfl) ?_)
  refine a_box rfl rfl rfl rfl st.hp (fun g1 w1 (hp : Hp w1 [(_, Cl [_, _, _, _, _, _, _, _, _, _] _)]) hf hg1 => ?_)
  have st : St X w1 [(_, Cl [_, _, _, _, _, _, _, _, _, _] _)] [_, _, _, _] := st.push hp hf hg1
  have hg1 := Nat.le_trans hF.size hg1
  have hF := hF.step0 hf
  refine Ls_a (wtd0 rfl) ?_
  refine a_box rfl rfl rfl rfl st.hp (fun g2 w2 (hp : Hp w2 [(_, Cl [_, _, _, _, _, _, _, _, _, _] _), (_, Cl [_, _, _] _)]) hf hg2 => ?_)
  have st : St X w2 [(_, Cl [_, _, _, _, _, _, _, _, _, _] _), (_, Cl [_, _, _] _)] [_, _, _, _] := st.push hp hf hg2
  have hg2 := Nat.le_trans hF.size hg2
  have hF := hF.step0 hf
  refine Ls_a (wtd0 rfl) ?_
  refine a_box rfl rfl rfl rfl st.hp (fun g3 w3 (hp : Hp w3 [(_, Cl [_, _, _, _, _, _, _, _, _, _] _), (_, Cl [_, _, _] _), (_, Cl [_, _, _] _)]) hf hg3 => ?_)
  have st : St X w3 [(_, Cl [_, _, _, _, _, _, _, _, _, _] _), (_, Cl [_, _, _] _), (_, Cl [_, _, _] _)] [_, _, _, _] := st.push hp hf hg3
  have hg3 := Nat.le_trans hF.size hg3
  have hF := hF.step0 hf
  refine Ls_a (wtd0 rfl) ?_
  refine a_box rfl rfl rfl rfl st.hp (fun g4 w4 (hp : Hp w4 [(_, Cl [_, _, _, _, _, _, _, _, _, _] _), (_, Cl [_, _, _] _), (_, Cl [_, _, _] _), (_, Cl [_, _] _)]) hf hg4 => ?_)
  have st : St X w4 [(_, Cl [_, _, _, _, _, _, _, _, _, _] _), (_, Cl [_, _, _] _), (_, Cl [_, _, _] _), (_, Cl [_, _] _)] [_, _, _, _] := st.push hp hf hg4
  have hg4 := Nat.le_trans hF.size hg4
  have hF := hF.step0 hf
  refine Ls_a (wtd0 rfl) ?_
  refine a_alloc rfl rfl rfl Ty.zc_47 st.hp (fun g5 w5 (hp : Hp w5 [(_, Cl [_, _, _, _, _, _, _, _, _, _] _), (_, Cl [_, _, _] _), (_, Cl [_, _, _] _), (_, Cl [_, _] _), (_, Cl [_, _, _, _, _, _, _, _, _] _)]) hf hg5 => ?_)
  have st : St X w5 [(_, Cl [_, _, _, _, _, _, _, _, _, _] _), (_, Cl [_, _, _] _), (_, Cl [_, _, _] _), (_, Cl [_, _] _), (_, Cl [_, _, _, _, _, _, _, _, _] _)] [_, _, _, _] := st.push hp hf hg5
  have hg5 := Nat.le_trans hF.size hg5
  have hF := hF.step0 hf
  refine Las rfl rfl rfl rfl rfl (Ls_nil (Th_n (hK1 _ _ ?_)))
  refine Wp_seq fun K2 hK2 => ?_
  refine Wp_seq fun K3 hK3 => ?_
  refine Wp_region (Ls_y (wtd0 rfl) rfl rfl (y_loadw (i := 1) rfl rfl Ty.ag_62 (fun _ e => e ▸ st.hp) rfl rfl) ?_)
  refine Ls_a (wtd0 rfl) ?_
  refine a_call rfl rfl rfl rfl (ocheckOp_ok _ o) (fun v w6 ⟨hv, hf⟩ => ?_)
  subst hv
  have st := st.keep0 hf
  have hF := hF.step0 hf
  have st : St X w6 [(_, Cl [_, _, _, _, _, _, _, _, _, _] _), (_, Cl [_, _, _] _), (_, Cl [_, _, _] _), (_, Cl [_, _] _), (_, Cl [_, _, _, _, _, _, _, _, _] _)] [_, _, _, _] := st
  refine Las rfl rfl rfl rfl rfl (Ls_nil (Th_n (hK3 _ _ ?_)))
  refine Wp_seq fun K4 hK4 => ?_
  refine Wp_region (Lmv rfl rfl rfl rfl rfl (Ls_y (wtd0 rfl) rfl rfl (y_ne rfl rfl rfl) (Ls_nil (Th_n (hK4 _ _ ?_)))))
  refine Wp_cond rfl (fun hc1 => ?_) (fun hc1 => ?_)
  · have hc1 := neT hc1
    refine Wp_seq fun K5 hK5 => ?_
    refine Wp_region (Ls_y (wtd0 rfl) rfl rfl (y_build (cells := [_, _, _, _, _, _, _, _, _]) rfl rfl Ty.zc_47 Ty.ps_47 rfl) ?_)
    refine Lmv rfl rfl rfl rfl rfl (Ls_a (wtd0 rfl) ?_)
    refine a_storew (i := 4) rfl rfl rfl rfl Ty.sz_47 rfl (by first | assumption | (simp [Value.oneCell']; done)) st.hp rfl rfl (fun w7 (hp : Hp w7 [(_, Cl [_, _, _, _, _, _, _, _, _, _] _), (_, Cl [_, _, _] _), (_, Cl [_, _, _] _), (_, Cl [_, _] _), (_, Cl [_, _, _, _, _, _, _, _, _] _)]) hf _ => ?_)
    have st : St X w7 [(_, Cl [_, _, _, _, _, _, _, _, _, _] _), (_, Cl [_, _, _] _), (_, Cl [_, _, _] _), (_, Cl [_, _] _), (_, Cl [_, _, _, _, _, _, _, _, _] _)] [_, _, _, _] := st.set (i := 4) rfl hp hf
    have hF := hF.step hf (by intro y hy; simp only [List.mem_cons, List.not_mem_nil, or_false] at hy; subst hy; first | (exact Or.inr (by omega)) | (exact Or.inl (kin0 _ _)) | (exact Or.inl (by simp)))
    refine Las rfl rfl rfl rfl rfl (Ls_nil (Th_n (hK5 _ _ ?_)))
    have st := st.addK (kS none 0 0 3 []) ⟨Rdx.nil, by simp, Nat.le_refl _, Nat.zero_le _⟩
    have st : St X w7 [(_, Cl [_, _, _, _, _, _, _, _, _, _] _), (_, Cl [_, _, _] _), (_, Cl [_, _, _] _), (_, Cl [_, _] _), (_, Cl [_, _, _, _, _, _, _, _, _] _)] [_, _, _, _, _] := st
    refine Wp_ret (Th_r (Fq_ret (ResN2 rfl (rvc (i := 4) rfl Ty.ag_47 st.hp rfl rfl) rfl) ?_))
    have he1 : oprepare_m s o tag at_ = ((⟨0, [], 0, (⟨(⟨0, 0⟩ : IdM), 0⟩ : TagM), (⟨0, 0⟩ : StampM), ([] : List TagM)⟩ : EffectM), ocheckOp_m o) := by unfold oprepare_m; rewrite [if_neg hc1]; rfl
    rewrite [he1]
    exact ⟨_, _, rfl, st.out (i := 4) rfl, hF⟩
  have hc1 := neF hc1
  refine Wp_skip (Th_n (hK2 _ _ ?_))
  refine Wp_seq fun K6 hK6 => ?_
  refine Wp_block (Wp_seq fun K7 hK7 => ?_)
  refine Wp_plan (fun W => St X W (pickL (hOf st) [0, 1, 2, 3, 4]) (kOf st)) [(true, 0), (true, 1), (true, 3), (true, 4), (false, 2), (true, 5), (true, 6)] Ty.mx_0 (by kernel_rfl) (by kernel_rfl) rfl ((st.picks [0, 1, 2, 3, 4] (by decide)).drew) ?_
  have st := st.drew
  have hF := hF.step0 (Fr.drew _)
  refine Pl_y rfl (wtd0 rfl) rfl rfl (y_fld rfl rfl Ty.fo_62_0) (Pl_y rfl (wtd0 rfl) rfl rfl (y_load (i := 1) rfl rfl Ty.pl_3 (fun _ h => h.hp) rfl rfl) ?_)
  refine Pl_y rfl (wtd0 rfl) rfl rfl (y_fld rfl rfl Ty.fo_60_0) (Pl_y rfl (wtd0 rfl) rfl rfl (y_load (i := 0) rfl rfl Ty.pl_3 (fun _ h => h.hp) rfl rfl) ?_)
  refine Pl_a rfl (wtd0 rfl) (by rfl) ?_
  refine a_call rfl rfl rfl rfl (okind_ok _ o.act) (fun v w8 ⟨hv, hf⟩ => ?_)
  subst hv
  have st := st.keep0 hf
  have hF := hF.step0 hf
  have st : St X w8 [(_, Cl [_, _, _, _, _, _, _, _, _, _] _), (_, Cl [_, _, _] _), (_, Cl [_, _, _] _), (_, Cl [_, _] _), (_, Cl [_, _, _, _, _, _, _, _, _] _)] [_, _, _, _] := st
  refine ⟨(st.picks [0, 1, 2, 3, 4] (by decide)).takeK 4, ?_⟩
  refine Pl_y rfl (wtd0 rfl) rfl rfl (y_ne rfl rfl rfl) (Pl_y rfl (wtd0 rfl) rfl rfl (y_assign rfl rfl) (Pl_nil (Th_n (hK7 _ _ ?_))))
  refine Wp_cond rfl (fun hc2 => ?_) (fun hc2 => ?_)
  · have hc2 := neT hc2
    refine Wp_seq fun K8 hK8 => ?_
    refine Wp_region (Ls_y (wtd0 rfl) rfl rfl (y_build (cells := [_, _, _, _, _, _, _, _, _]) rfl rfl Ty.zc_47 Ty.ps_47 rfl) ?_)
    refine Ls_a (wtd0 rfl) ?_
    refine a_storew (i := 4) rfl rfl rfl rfl Ty.sz_47 rfl (by first | assumption | (simp [Value.oneCell']; done)) st.hp rfl rfl (fun w9 (hp : Hp w9 [(_, Cl [_, _, _, _, _, _, _, _, _, _] _), (_, Cl [_, _, _] _), (_, Cl [_, _, _] _), (_, Cl [_, _] _), (_, Cl [_, _, _, _, _, _, _, _, _] _)]) hf _ => ?_)
    have st : St X w9 [(_, Cl [_, _, _, _, _, _, _, _, _, _] _), (_, Cl [_, _, _] _), (_, Cl [_, _, _] _), (_, Cl [_, _] _), (_, Cl [_, _, _, _, _, _, _, _, _] _)] [_, _, _, _] := st.set (i := 4) rfl hp hf
    have hF := hF.step hf (by intro y hy; simp only [List.mem_cons, List.not_mem_nil, or_false] at hy; subst hy; first | (exact Or.inr (by omega)) | (exact Or.inl (kin0 _ _)) | (exact Or.inl (by simp)))
    refine Las rfl rfl rfl rfl rfl (Ls_nil (Th_n (hK8 _ _ ?_)))
    have st := st.addK (kS none 0 0 3 []) ⟨Rdx.nil, by simp, Nat.le_refl _, Nat.zero_le _⟩
    have st : St X w9 [(_, Cl [_, _, _, _, _, _, _, _, _, _] _), (_, Cl [_, _, _] _), (_, Cl [_, _, _] _), (_, Cl [_, _] _), (_, Cl [_, _, _, _, _, _, _, _, _] _)] [_, _, _, _, _] := st
    refine Wp_ret (Ib_r (Th_r (Fq_ret (ResN2 rfl (rvc (i := 4) rfl Ty.ag_47 st.hp rfl rfl) rfl) ?_)))
    have he2 : oprepare_m s o tag at_ = ((⟨0, [], 0, (⟨(⟨0, 0⟩ : IdM), 0⟩ : TagM), (⟨0, 0⟩ : StampM), ([] : List TagM)⟩ : EffectM), 5) := by unfold oprepare_m; rewrite [if_pos hc1, if_neg hc2]; rfl
    rewrite [he2]
    exact ⟨_, _, rfl, st.out (i := 4) rfl, hF⟩
  have hc2 := neF hc2
  refine Wp_seq fun K9 hK9 => ?_
  refine Wp_region (Ls_y (wtd0 rfl) rfl rfl (y_loadw (i := 2) rfl rfl Ty.ag_43 (fun _ e => e ▸ st.hp) rfl rfl) ?_)
  refine Ls_a (wtd0 rfl) ?_
  refine a_call rfl rfl rfl rfl (bnotTag_ok _ tag) (fun v w10 ⟨hv, hf⟩ => ?_)
  subst hv
  have st := st.keep0 hf
  have hF := hF.step0 hf
  have st : St X w10 [(_, Cl [_, _, _, _, _, _, _, _, _, _] _), (_, Cl [_, _, _] _), (_, Cl [_, _, _] _), (_, Cl [_, _] _), (_, Cl [_, _, _, _, _, _, _, _, _] _)] [_, _, _, _] := st
  refine Las rfl rfl rfl rfl rfl (Ls_nil (Th_n (hK9 _ _ ?_)))
  refine Wp_cond rfl (fun hc3 => ?_) (fun hc3 => ?_)
  · refine Wp_seq fun K10 hK10 => ?_
    refine Wp_region (Ls_y (wtd0 rfl) rfl rfl (y_build (cells := [_, _, _, _, _, _, _, _, _]) rfl rfl Ty.zc_47 Ty.ps_47 rfl) ?_)
    refine Ls_a (wtd0 rfl) ?_
    refine a_storew (i := 4) rfl rfl rfl rfl Ty.sz_47 rfl (by first | assumption | (simp [Value.oneCell']; done)) st.hp rfl rfl (fun w11 (hp : Hp w11 [(_, Cl [_, _, _, _, _, _, _, _, _, _] _), (_, Cl [_, _, _] _), (_, Cl [_, _, _] _), (_, Cl [_, _] _), (_, Cl [_, _, _, _, _, _, _, _, _] _)]) hf _ => ?_)
    have st : St X w11 [(_, Cl [_, _, _, _, _, _, _, _, _, _] _), (_, Cl [_, _, _] _), (_, Cl [_, _, _] _), (_, Cl [_, _] _), (_, Cl [_, _, _, _, _, _, _, _, _] _)] [_, _, _, _] := st.set (i := 4) rfl hp hf
    have hF := hF.step hf (by intro y hy; simp only [List.mem_cons, List.not_mem_nil, or_false] at hy; subst hy; first | (exact Or.inr (by omega)) | (exact Or.inl (kin0 _ _)) | (exact Or.inl (by simp)))
    refine Las rfl rfl rfl rfl rfl (Ls_nil (Th_n (hK10 _ _ ?_)))
    have st := st.addK (kS none 0 0 3 []) ⟨Rdx.nil, by simp, Nat.le_refl _, Nat.zero_le _⟩
    have st : St X w11 [(_, Cl [_, _, _, _, _, _, _, _, _, _] _), (_, Cl [_, _, _] _), (_, Cl [_, _, _] _), (_, Cl [_, _] _), (_, Cl [_, _, _, _, _, _, _, _, _] _)] [_, _, _, _, _] := st
    refine Wp_ret (Ib_r (Th_r (Fq_ret (ResN2 rfl (rvc (i := 4) rfl Ty.ag_47 st.hp rfl rfl) rfl) ?_)))
    have he3 : oprepare_m s o tag at_ = ((⟨0, [], 0, (⟨(⟨0, 0⟩ : IdM), 0⟩ : TagM), (⟨0, 0⟩ : StampM), ([] : List TagM)⟩ : EffectM), 2) := by unfold oprepare_m; rewrite [if_pos hc1, if_pos hc2, if_pos hc3]; rfl
    rewrite [he3]
    exact ⟨_, _, rfl, st.out (i := 4) rfl, hF⟩
  have hc3 := bF hc3
  refine Wp_seq fun K11 hK11 => ?_
  refine Wp_region (Ls_y (wtd0 rfl) rfl rfl (y_loadw (i := 3) rfl rfl Ty.ag_24 (fun _ e => e ▸ st.hp) rfl rfl) ?_)
  refine Ls_a (wtd0 rfl) ?_
  refine a_call rfl rfl rfl rfl (otimed_ok _ at_) (fun v w12 ⟨hv, hf⟩ => ?_)
  subst hv
  have st := st.keep0 hf
  have hF := hF.step0 hf
  have st : St X w12 [(_, Cl [_, _, _, _, _, _, _, _, _, _] _), (_, Cl [_, _, _] _), (_, Cl [_, _, _] _), (_, Cl [_, _] _), (_, Cl [_, _, _, _, _, _, _, _, _] _)] [_, _, _, _] := st
  refine Ls_y (wtd0 rfl) rfl rfl (y_not rfl rfl) (Las rfl rfl rfl rfl rfl (Ls_nil (Th_n (hK11 _ _ ?_))))
  refine Wp_cond rfl (fun hc4 => ?_) (fun hc4 => ?_)
  · have hc4 := bF (nT hc4)
    refine Wp_seq fun K12 hK12 => ?_
    refine Wp_region (Ls_y (wtd0 rfl) rfl rfl (y_build (cells := [_, _, _, _, _, _, _, _, _]) rfl rfl Ty.zc_47 Ty.ps_47 rfl) ?_)
    refine Ls_a (wtd0 rfl) ?_
    refine a_storew (i := 4) rfl rfl rfl rfl Ty.sz_47 rfl (by first | assumption | (simp [Value.oneCell']; done)) st.hp rfl rfl (fun w13 (hp : Hp w13 [(_, Cl [_, _, _, _, _, _, _, _, _, _] _), (_, Cl [_, _, _] _), (_, Cl [_, _, _] _), (_, Cl [_, _] _), (_, Cl [_, _, _, _, _, _, _, _, _] _)]) hf _ => ?_)
    have st : St X w13 [(_, Cl [_, _, _, _, _, _, _, _, _, _] _), (_, Cl [_, _, _] _), (_, Cl [_, _, _] _), (_, Cl [_, _] _), (_, Cl [_, _, _, _, _, _, _, _, _] _)] [_, _, _, _] := st.set (i := 4) rfl hp hf
    have hF := hF.step hf (by intro y hy; simp only [List.mem_cons, List.not_mem_nil, or_false] at hy; subst hy; first | (exact Or.inr (by omega)) | (exact Or.inl (kin0 _ _)) | (exact Or.inl (by simp)))
    refine Las rfl rfl rfl rfl rfl (Ls_nil (Th_n (hK12 _ _ ?_)))
    have st := st.addK (kS none 0 0 3 []) ⟨Rdx.nil, by simp, Nat.le_refl _, Nat.zero_le _⟩
    have st : St X w13 [(_, Cl [_, _, _, _, _, _, _, _, _, _] _), (_, Cl [_, _, _] _), (_, Cl [_, _, _] _), (_, Cl [_, _] _), (_, Cl [_, _, _, _, _, _, _, _, _] _)] [_, _, _, _, _] := st
    refine Wp_ret (Ib_r (Th_r (Fq_ret (ResN2 rfl (rvc (i := 4) rfl Ty.ag_47 st.hp rfl rfl) rfl) ?_)))
    have he4 : oprepare_m s o tag at_ = ((⟨0, [], 0, (⟨(⟨0, 0⟩ : IdM), 0⟩ : TagM), (⟨0, 0⟩ : StampM), ([] : List TagM)⟩ : EffectM), 3) := by unfold oprepare_m; rewrite [if_pos hc1, if_pos hc2, if_neg hc3, if_neg hc4]; rfl
    rewrite [he4]
    exact ⟨_, _, rfl, st.out (i := 4) rfl, hF⟩
  have hc4 := (nF hc4)
  refine Wp_skip (Ib_n (Th_n (hK6 _ _ ?_)))
  refine Wp_seq fun K13 hK13 => ?_
  refine Wp_region (Ls_y (wtd0 rfl) rfl rfl (y_fld rfl rfl Ty.fo_62_0) (Ls_y (wtd0 rfl) rfl rfl (y_load (i := 1) rfl rfl Ty.pl_3 (fun _ e => e ▸ st.hp) rfl rfl) ?_))
  refine Ls_y (wtd0 rfl) rfl rfl (y_fld rfl rfl Ty.fo_62_1) (Ls_y (wtd0 rfl) rfl rfl (y_load (i := 1) rfl rfl Ty.pl_9 (fun _ e => e ▸ st.hp) rfl rfl) ?_)
  refine Ls_y (wtd0 rfl) rfl rfl (y_fld rfl rfl Ty.fo_62_2) (Ls_y (wtd0 rfl) rfl rfl (y_load (i := 1) rfl rfl Ty.pl_2 (fun _ e => e ▸ st.hp) rfl rfl) ?_)
  refine Ls_y (wtd0 rfl) rfl rfl (y_loadw (i := 2) rfl rfl Ty.ag_43 (fun _ e => e ▸ st.hp) rfl rfl) ?_
  refine Ls_y (wtd0 rfl) rfl rfl (y_build (cells := [_, _, _, _, _, _, _, _, _]) rfl rfl Ty.zc_47 Ty.ps_47 rfl) ?_
  refine Ls_a (wtd0 rfl) ?_
  refine a_alloc rfl rfl rfl Ty.zc_47 st.hp (fun g6 w14 (hp : Hp w14 [(_, Cl [_, _, _, _, _, _, _, _, _, _] _), (_, Cl [_, _, _] _), (_, Cl [_, _, _] _), (_, Cl [_, _] _), (_, Cl [_, _, _, _, _, _, _, _, _] _), (_, Cl [_, _, _, _, _, _, _, _, _] _)]) hf hg6 => ?_)
  have st : St X w14 [(_, Cl [_, _, _, _, _, _, _, _, _, _] _), (_, Cl [_, _, _] _), (_, Cl [_, _, _] _), (_, Cl [_, _] _), (_, Cl [_, _, _, _, _, _, _, _, _] _), (_, Cl [_, _, _, _, _, _, _, _, _] _)] [_, _, _, _] := st.push hp hf hg6
  have hg6 := Nat.le_trans hF.size hg6
  have hF := hF.step0 hf
  refine Ls_a (wtd0 rfl) ?_
  refine a_storew (i := 5) rfl rfl rfl rfl Ty.sz_47 rfl (by first | assumption | (simp [Value.oneCell']; done)) st.hp rfl rfl (fun w15 (hp : Hp w15 [(_, Cl [_, _, _, _, _, _, _, _, _, _] _), (_, Cl [_, _, _] _), (_, Cl [_, _, _] _), (_, Cl [_, _] _), (_, Cl [_, _, _, _, _, _, _, _, _] _), (_, Cl [_, _, _, _, _, _, _, _, _] _)]) hf _ => ?_)
  have st : St X w15 [(_, Cl [_, _, _, _, _, _, _, _, _, _] _), (_, Cl [_, _, _] _), (_, Cl [_, _, _] _), (_, Cl [_, _] _), (_, Cl [_, _, _, _, _, _, _, _, _] _), (_, Cl [_, _, _, _, _, _, _, _, _] _)] [_, _, _, _] := st.set (i := 5) rfl hp hf
  have hF := hF.step hf (by intro y hy; simp only [List.mem_cons, List.not_mem_nil, or_false] at hy; subst hy; first | (exact Or.inr (by omega)) | (exact Or.inl (kin0 _ _)) | (exact Or.inl (by simp)))
  refine Ls_nil (Th_n (hK13 _ _ ?_))
  refine Wp_seq fun K14 hK14 => ?_
  refine Wp_seq fun K15 hK15 => ?_
  refine Wp_region (Ls_y (wtd0 rfl) rfl rfl (y_fld rfl rfl Ty.fo_62_0) (Ls_y (wtd0 rfl) rfl rfl (y_load (i := 1) rfl rfl Ty.pl_3 (fun _ e => e ▸ st.hp) rfl rfl) ?_))
  refine Ls_nil (Th_n (hK15 _ _ ?_))
  refine Wp_block (Wp_seq fun K16 hK16 => ?_)
  refine Wp_seq fun K17 hK17 => ?_
  refine Wp_region (Ls_y (wtd0 rfl) rfl rfl (y_eq rfl rfl rfl) (Las rfl rfl rfl rfl rfl (Ls_nil (Th_n (hK17 _ _ ?_)))))
  refine Wp_cond rfl (fun hc5 => ?_) (fun hc5 => ?_)
  · have hc5 := eT hc5
    refine Wp_skip (Th_n (hK16 _ _ ?_))
    refine Wp_cond rfl (fun _ => ?_) (fun hc6 => absurd hc6 (by simp [hc5]))
    refine Wp_region (Ls_y (wtd0 rfl) rfl rfl (y_loadw (i := 3) rfl rfl Ty.ag_24 (fun _ e => e ▸ st.hp) rfl rfl) ?_)
    refine Ls_y (wtd0 rfl) rfl rfl (y_fld rfl rfl Ty.fo_47_4) (Ls_a (wtd0 rfl) ?_)
    refine a_storem (i := 5) rfl rfl rfl rfl Ty.sz_24 rfl (by first | assumption | (simp [Value.oneCell']; done)) st.hp rfl (by simp) (fun w16 (hp : Hp w16 [(_, Cl [_, _, _, _, _, _, _, _, _, _] _), (_, Cl [_, _, _] _), (_, Cl [_, _, _] _), (_, Cl [_, _] _), (_, Cl [_, _, _, _, _, _, _, _, _] _), (_, Cl [_, _, _, _, _, _, _, _, _] _)]) hf _ => ?_)
    have st : St X w16 [(_, Cl [_, _, _, _, _, _, _, _, _, _] _), (_, Cl [_, _, _] _), (_, Cl [_, _, _] _), (_, Cl [_, _] _), (_, Cl [_, _, _, _, _, _, _, _, _] _), (_, Cl [_, _, _, _, _, _, _, _, _] _)] [_, _, _, _] := st.set (i := 5) rfl hp hf
    have hF := hF.step hf (by intro y hy; simp only [List.mem_cons, List.not_mem_nil, or_false] at hy; subst hy; first | (exact Or.inr (by omega)) | (exact Or.inl (kin0 _ _)) | (exact Or.inl (by simp)))
    refine Ls_nil (Ib_n (Th_n (hK14 _ _ ?_)))
    refine Wp_seq fun K18 hK18 => ?_
    refine Wp_region (Ls_y (wtd0 rfl) rfl rfl (y_loadw (i := 5) rfl rfl Ty.ag_47 (fun _ e => e ▸ st.hp) rfl rfl) ?_)
    refine Ls_a (wtd0 rfl) ?_
    refine a_storew (i := 4) rfl rfl rfl rfl Ty.sz_47 rfl (by first | assumption | (simp [Value.oneCell']; done)) st.hp rfl rfl (fun w17 (hp : Hp w17 [(_, Cl [_, _, _, _, _, _, _, _, _, _] _), (_, Cl [_, _, _] _), (_, Cl [_, _, _] _), (_, Cl [_, _] _), (_, Cl [_, _, _, _, _, _, _, _, _] _), (_, Cl [_, _, _, _, _, _, _, _, _] _)]) hf _ => ?_)
    have st : St X w17 [(_, Cl [_, _, _, _, _, _, _, _, _, _] _), (_, Cl [_, _, _] _), (_, Cl [_, _, _] _), (_, Cl [_, _] _), (_, Cl [_, _, _, _, _, _, _, _, _] _), (_, Cl [_, _, _, _, _, _, _, _, _] _)] [_, _, _, _] := st.set (i := 4) rfl hp hf
    have hF := hF.step hf (by intro y hy; simp only [List.mem_cons, List.not_mem_nil, or_false] at hy; subst hy; first | (exact Or.inr (by omega)) | (exact Or.inl (kin0 _ _)) | (exact Or.inl (by simp)))
    refine Las rfl rfl rfl rfl rfl (Ls_nil (Th_n (hK18 _ _ ?_)))
    have st := st.addK (kS none 0 0 3 []) ⟨Rdx.nil, by simp, Nat.le_refl _, Nat.zero_le _⟩
    have st : St X w17 [(_, Cl [_, _, _, _, _, _, _, _, _, _] _), (_, Cl [_, _, _] _), (_, Cl [_, _, _] _), (_, Cl [_, _] _), (_, Cl [_, _, _, _, _, _, _, _, _] _), (_, Cl [_, _, _, _, _, _, _, _, _] _)] [_, _, _, _, _] := st
    refine Wp_ret (Fq_ret (ResN2 rfl (rvc (i := 4) rfl Ty.ag_47 st.hp rfl rfl) rfl) ?_)
    have he5 : oprepare_m s o tag at_ = ((⟨o.act, o.name, o.val, tag, at_, ([] : List TagM)⟩ : EffectM), 0) := by unfold oprepare_m; rewrite [if_pos hc1, if_pos hc2, if_neg hc3, if_pos hc4, if_pos hc5]; rfl
    rewrite [he5]
    exact ⟨_, _, rfl, st.out (i := 4) rfl, hF⟩
  have hc5 := eF hc5
  refine Wp_region (Ls_y (wtd0 rfl) rfl rfl (y_eq rfl rfl rfl) (Las rfl rfl rfl rfl rfl (Ls_nil (Th_n (hK16 _ _ ?_)))))
  refine Wp_cond rfl (fun hc7 => ?_) (fun hc7 => ?_)
  · have hc7 := eT hc7
    refine Wp_region (Ls_y (wtd0 rfl) rfl rfl (y_loadw (i := 3) rfl rfl Ty.ag_24 (fun _ e => e ▸ st.hp) rfl rfl) ?_)
    refine Ls_y (wtd0 rfl) rfl rfl (y_fld rfl rfl Ty.fo_47_4) (Ls_a (wtd0 rfl) ?_)
    refine a_storem (i := 5) rfl rfl rfl rfl Ty.sz_24 rfl (by first | assumption | (simp [Value.oneCell']; done)) st.hp rfl (by simp) (fun w18 (hp : Hp w18 [(_, Cl [_, _, _, _, _, _, _, _, _, _] _), (_, Cl [_, _, _] _), (_, Cl [_, _, _] _), (_, Cl [_, _] _), (_, Cl [_, _, _, _, _, _, _, _, _] _), (_, Cl [_, _, _, _, _, _, _, _, _] _)]) hf _ => ?_)
    have st : St X w18 [(_, Cl [_, _, _, _, _, _, _, _, _, _] _), (_, Cl [_, _, _] _), (_, Cl [_, _, _] _), (_, Cl [_, _] _), (_, Cl [_, _, _, _, _, _, _, _, _] _), (_, Cl [_, _, _, _, _, _, _, _, _] _)] [_, _, _, _] := st.set (i := 5) rfl hp hf
    have hF := hF.step hf (by intro y hy; simp only [List.mem_cons, List.not_mem_nil, or_false] at hy; subst hy; first | (exact Or.inr (by omega)) | (exact Or.inl (kin0 _ _)) | (exact Or.inl (by simp)))
    refine Ls_nil (Ib_n (Th_n (hK14 _ _ ?_)))
    refine Wp_seq fun K19 hK19 => ?_
    refine Wp_region (Ls_y (wtd0 rfl) rfl rfl (y_loadw (i := 5) rfl rfl Ty.ag_47 (fun _ e => e ▸ st.hp) rfl rfl) ?_)
    refine Ls_a (wtd0 rfl) ?_
    refine a_storew (i := 4) rfl rfl rfl rfl Ty.sz_47 rfl (by first | assumption | (simp [Value.oneCell']; done)) st.hp rfl rfl (fun w19 (hp : Hp w19 [(_, Cl [_, _, _, _, _, _, _, _, _, _] _), (_, Cl [_, _, _] _), (_, Cl [_, _, _] _), (_, Cl [_, _] _), (_, Cl [_, _, _, _, _, _, _, _, _] _), (_, Cl [_, _, _, _, _, _, _, _, _] _)]) hf _ => ?_)
    have st : St X w19 [(_, Cl [_, _, _, _, _, _, _, _, _, _] _), (_, Cl [_, _, _] _), (_, Cl [_, _, _] _), (_, Cl [_, _] _), (_, Cl [_, _, _, _, _, _, _, _, _] _), (_, Cl [_, _, _, _, _, _, _, _, _] _)] [_, _, _, _] := st.set (i := 4) rfl hp hf
    have hF := hF.step hf (by intro y hy; simp only [List.mem_cons, List.not_mem_nil, or_false] at hy; subst hy; first | (exact Or.inr (by omega)) | (exact Or.inl (kin0 _ _)) | (exact Or.inl (by simp)))
    refine Las rfl rfl rfl rfl rfl (Ls_nil (Th_n (hK19 _ _ ?_)))
    have st := st.addK (kS none 0 0 3 []) ⟨Rdx.nil, by simp, Nat.le_refl _, Nat.zero_le _⟩
    have st : St X w19 [(_, Cl [_, _, _, _, _, _, _, _, _, _] _), (_, Cl [_, _, _] _), (_, Cl [_, _, _] _), (_, Cl [_, _] _), (_, Cl [_, _, _, _, _, _, _, _, _] _), (_, Cl [_, _, _, _, _, _, _, _, _] _)] [_, _, _, _, _] := st
    refine Wp_ret (Fq_ret (ResN2 rfl (rvc (i := 4) rfl Ty.ag_47 st.hp rfl rfl) rfl) ?_)
    have he6 : oprepare_m s o tag at_ = ((⟨o.act, o.name, o.val, tag, at_, ([] : List TagM)⟩ : EffectM), 0) := by unfold oprepare_m; rewrite [if_pos hc1, if_pos hc2, if_neg hc3, if_pos hc4, if_neg hc5, if_pos hc7]; rfl
    rewrite [he6]
    exact ⟨_, _, rfl, st.out (i := 4) rfl, hF⟩
  have hc7 := eF hc7
  refine Wp_seq fun K20 hK20 => ?_
  refine Wp_region (Ls_y (wtd0 rfl) rfl rfl (y_eq rfl rfl rfl) (Las rfl rfl rfl rfl rfl (Ls_nil (Th_n (hK20 _ _ ?_)))))
  refine Wp_cond rfl (fun hc8 => ?_) (fun hc8 => ?_)
  · have hc8 := eT hc8
    refine Wp_region (Ls_y (wtd0 rfl) rfl rfl (y_fld rfl rfl Ty.fo_60_3) (Ls_y (wtd0 rfl) rfl rfl (y_loadm (i := 0) rfl rfl Ty.ag_55 (fun _ e => e ▸ st.hp) rfl rfl rfl) ?_))
    refine Ls_y (wtd0 rfl) rfl rfl (y_fld rfl rfl Ty.fo_62_1) (Ls_y (wtd0 rfl) rfl rfl (y_load (i := 1) rfl rfl Ty.pl_9 (fun _ e => e ▸ st.hp) rfl rfl) ?_)
    refine Ls_a (wtd0 rfl) ?_
    refine a_call rfl rfl rfl rfl (oTags_ok (keys (hOf st) ++ X) _ st.Lo s.setF A_s_setF_adds c_s_setF_adds A_s_setF_gone c_s_setF_gone o.name (st.k (i := 0) rfl) (st.k (i := 1) rfl) h1 h2) (fun v w20 ⟨Ar1, cr1, hv, hr1, hf⟩ => ?_)
    subst hv
    have st := st.keep0 hf
    have hF := hF.step0 hf
    have hlehr1 := Sld.le hr1
    have st := st.addK (kS Ar1 (oTags_m s.setF o.name).length cr1 3 ((oTags_m s.setF o.name).flatMap tagMC)) hr1
    have st : St X w20 [(_, Cl [_, _, _, _, _, _, _, _, _, _] _), (_, Cl [_, _, _] _), (_, Cl [_, _, _] _), (_, Cl [_, _] _), (_, Cl [_, _, _, _, _, _, _, _, _] _), (_, Cl [_, _, _, _, _, _, _, _, _] _)] [_, _, _, _, _] := st
    refine Ls_y (wtd0 rfl) rfl rfl (y_fld rfl rfl Ty.fo_47_5) (Ls_a (wtd0 rfl) ?_)
    refine a_store (i := 5) rfl rfl rfl rfl rfl Ty.sz_30 rfl st.hp rfl (by simp) (fun w21 (hp : Hp w21 [(_, Cl [_, _, _, _, _, _, _, _, _, _] _), (_, Cl [_, _, _] _), (_, Cl [_, _, _] _), (_, Cl [_, _] _), (_, Cl [_, _, _, _, _, _, _, _, _] _), (_, Cl [_, _, _, _, _, _, _, _, _] _)]) hf _ => ?_)
    have st : St X w21 [(_, Cl [_, _, _, _, _, _, _, _, _, _] _), (_, Cl [_, _, _] _), (_, Cl [_, _, _] _), (_, Cl [_, _] _), (_, Cl [_, _, _, _, _, _, _, _, _] _), (_, Cl [_, _, _, _, _, _, _, _, _] _)] [_, _, _, _, _] := st.set (i := 5) rfl hp hf
    have hF := hF.step hf (by intro y hy; simp only [List.mem_cons, List.not_mem_nil, or_false] at hy; subst hy; first | (exact Or.inr (by omega)) | (exact Or.inl (kin0 _ _)) | (exact Or.inl (by simp)))
    refine Ls_nil (Ib_n (Th_n (hK14 _ _ ?_)))
    refine Wp_seq fun K21 hK21 => ?_
    refine Wp_region (Ls_y (wtd0 rfl) rfl rfl (y_loadw (i := 5) rfl rfl Ty.ag_47 (fun _ e => e ▸ st.hp) rfl rfl) ?_)
    refine Ls_a (wtd0 rfl) ?_
    refine a_storew (i := 4) rfl rfl rfl rfl Ty.sz_47 rfl (by first | assumption | (simp [Value.oneCell']; done)) st.hp rfl rfl (fun w22 (hp : Hp w22 [(_, Cl [_, _, _, _, _, _, _, _, _, _] _), (_, Cl [_, _, _] _), (_, Cl [_, _, _] _), (_, Cl [_, _] _), (_, Cl [_, _, _, _, _, _, _, _, _] _), (_, Cl [_, _, _, _, _, _, _, _, _] _)]) hf _ => ?_)
    have st : St X w22 [(_, Cl [_, _, _, _, _, _, _, _, _, _] _), (_, Cl [_, _, _] _), (_, Cl [_, _, _] _), (_, Cl [_, _] _), (_, Cl [_, _, _, _, _, _, _, _, _] _), (_, Cl [_, _, _, _, _, _, _, _, _] _)] [_, _, _, _, _] := st.set (i := 4) rfl hp hf
    have hF := hF.step hf (by intro y hy; simp only [List.mem_cons, List.not_mem_nil, or_false] at hy; subst hy; first | (exact Or.inr (by omega)) | (exact Or.inl (kin0 _ _)) | (exact Or.inl (by simp)))
    refine Las rfl rfl rfl rfl rfl (Ls_nil (Th_n (hK21 _ _ ?_)))
    refine Wp_ret (Fq_ret (ResN2 rfl (rvc (i := 4) rfl Ty.ag_47 st.hp rfl rfl) rfl) ?_)
    have he7 : oprepare_m s o tag at_ = ((⟨o.act, o.name, o.val, tag, (⟨0, 0⟩ : StampM), oTags_m s.setF o.name⟩ : EffectM), 0) := by unfold oprepare_m; rewrite [if_pos hc1, if_pos hc2, if_neg hc3, if_pos hc4, if_neg hc5, if_neg hc7, if_pos hc8]; rfl
    rewrite [he7]
    exact ⟨_, _, rfl, st.out (i := 4) rfl, hF⟩
  have hc8 := eF hc8
  refine Wp_seq fun K22 hK22 => ?_
  refine Wp_region (Ls_y (wtd0 rfl) rfl rfl (y_eq rfl rfl rfl) (Las rfl rfl rfl rfl rfl (Ls_nil (Th_n (hK22 _ _ ?_)))))
  refine Wp_cond rfl (fun hc9 => ?_) (fun hc9 => ?_)
  · have hc9 := eT hc9
    refine Wp_region (Ls_y (wtd0 rfl) rfl rfl (y_fld rfl rfl Ty.fo_60_4) (Ls_y (wtd0 rfl) rfl rfl (y_loadm (i := 0) rfl rfl Ty.ag_58 (fun _ e => e ▸ st.hp) rfl rfl rfl) ?_))
    refine Ls_y (wtd0 rfl) rfl rfl (y_fld rfl rfl Ty.fo_62_1) (Ls_y (wtd0 rfl) rfl rfl (y_load (i := 1) rfl rfl Ty.pl_9 (fun _ e => e ▸ st.hp) rfl rfl) ?_)
    refine Ls_a (wtd0 rfl) ?_
    refine a_call rfl rfl rfl rfl (mTags_ok (keys (hOf st) ++ X) _ st.Lo s.map A_s_map_puts c_s_map_puts A_s_map_gone c_s_map_gone o.name (st.k (i := 2) rfl) (st.k (i := 3) rfl) h3 h4) (fun v w23 ⟨Ar2, cr2, hv, hr2, hf⟩ => ?_)
    subst hv
    have st := st.keep0 hf
    have hF := hF.step0 hf
    have hlehr2 := Sld.le hr2
    have st := st.addK (kS Ar2 (mTags_m s.map o.name).length cr2 3 ((mTags_m s.map o.name).flatMap tagMC)) hr2
    have st : St X w23 [(_, Cl [_, _, _, _, _, _, _, _, _, _] _), (_, Cl [_, _, _] _), (_, Cl [_, _, _] _), (_, Cl [_, _] _), (_, Cl [_, _, _, _, _, _, _, _, _] _), (_, Cl [_, _, _, _, _, _, _, _, _] _)] [_, _, _, _, _] := st
    refine Ls_y (wtd0 rfl) rfl rfl (y_fld rfl rfl Ty.fo_47_5) (Ls_a (wtd0 rfl) ?_)
    refine a_store (i := 5) rfl rfl rfl rfl rfl Ty.sz_30 rfl st.hp rfl (by simp) (fun w24 (hp : Hp w24 [(_, Cl [_, _, _, _, _, _, _, _, _, _] _), (_, Cl [_, _, _] _), (_, Cl [_, _, _] _), (_, Cl [_, _] _), (_, Cl [_, _, _, _, _, _, _, _, _] _), (_, Cl [_, _, _, _, _, _, _, _, _] _)]) hf _ => ?_)
    have st : St X w24 [(_, Cl [_, _, _, _, _, _, _, _, _, _] _), (_, Cl [_, _, _] _), (_, Cl [_, _, _] _), (_, Cl [_, _] _), (_, Cl [_, _, _, _, _, _, _, _, _] _), (_, Cl [_, _, _, _, _, _, _, _, _] _)] [_, _, _, _, _] := st.set (i := 5) rfl hp hf
    have hF := hF.step hf (by intro y hy; simp only [List.mem_cons, List.not_mem_nil, or_false] at hy; subst hy; first | (exact Or.inr (by omega)) | (exact Or.inl (kin0 _ _)) | (exact Or.inl (by simp)))
    refine Ls_nil (Ib_n (Th_n (hK14 _ _ ?_)))
    refine Wp_seq fun K23 hK23 => ?_
    refine Wp_region (Ls_y (wtd0 rfl) rfl rfl (y_loadw (i := 5) rfl rfl Ty.ag_47 (fun _ e => e ▸ st.hp) rfl rfl) ?_)
    refine Ls_a (wtd0 rfl) ?_
    refine a_storew (i := 4) rfl rfl rfl rfl Ty.sz_47 rfl (by first | assumption | (simp [Value.oneCell']; done)) st.hp rfl rfl (fun w25 (hp : Hp w25 [(_, Cl [_, _, _, _, _, _, _, _, _, _] _), (_, Cl [_, _, _] _), (_, Cl [_, _, _] _), (_, Cl [_, _] _), (_, Cl [_, _, _, _, _, _, _, _, _] _), (_, Cl [_, _, _, _, _, _, _, _, _] _)]) hf _ => ?_)
    have st : St X w25 [(_, Cl [_, _, _, _, _, _, _, _, _, _] _), (_, Cl [_, _, _] _), (_, Cl [_, _, _] _), (_, Cl [_, _] _), (_, Cl [_, _, _, _, _, _, _, _, _] _), (_, Cl [_, _, _, _, _, _, _, _, _] _)] [_, _, _, _, _] := st.set (i := 4) rfl hp hf
    have hF := hF.step hf (by intro y hy; simp only [List.mem_cons, List.not_mem_nil, or_false] at hy; subst hy; first | (exact Or.inr (by omega)) | (exact Or.inl (kin0 _ _)) | (exact Or.inl (by simp)))
    refine Las rfl rfl rfl rfl rfl (Ls_nil (Th_n (hK23 _ _ ?_)))
    refine Wp_ret (Fq_ret (ResN2 rfl (rvc (i := 4) rfl Ty.ag_47 st.hp rfl rfl) rfl) ?_)
    have he8 : oprepare_m s o tag at_ = ((⟨o.act, o.name, o.val, tag, (⟨0, 0⟩ : StampM), mTags_m s.map o.name⟩ : EffectM), 0) := by unfold oprepare_m; rewrite [if_pos hc1, if_pos hc2, if_neg hc3, if_pos hc4, if_neg hc5, if_neg hc7, if_neg hc8, if_pos hc9]; rfl
    rewrite [he8]
    exact ⟨_, _, rfl, st.out (i := 4) rfl, hF⟩
  have hc9 := eF hc9
  refine Wp_skip (Ib_n (Th_n (hK14 _ _ ?_)))
  refine Wp_seq fun K24 hK24 => ?_
  refine Wp_region (Ls_y (wtd0 rfl) rfl rfl (y_loadw (i := 5) rfl rfl Ty.ag_47 (fun _ e => e ▸ st.hp) rfl rfl) ?_)
  refine Ls_a (wtd0 rfl) ?_
  refine a_storew (i := 4) rfl rfl rfl rfl Ty.sz_47 rfl (by first | assumption | (simp [Value.oneCell']; done)) st.hp rfl rfl (fun w26 (hp : Hp w26 [(_, Cl [_, _, _, _, _, _, _, _, _, _] _), (_, Cl [_, _, _] _), (_, Cl [_, _, _] _), (_, Cl [_, _] _), (_, Cl [_, _, _, _, _, _, _, _, _] _), (_, Cl [_, _, _, _, _, _, _, _, _] _)]) hf _ => ?_)
  have st : St X w26 [(_, Cl [_, _, _, _, _, _, _, _, _, _] _), (_, Cl [_, _, _] _), (_, Cl [_, _, _] _), (_, Cl [_, _] _), (_, Cl [_, _, _, _, _, _, _, _, _] _), (_, Cl [_, _, _, _, _, _, _, _, _] _)] [_, _, _, _] := st.set (i := 4) rfl hp hf
  have hF := hF.step hf (by intro y hy; simp only [List.mem_cons, List.not_mem_nil, or_false] at hy; subst hy; first | (exact Or.inr (by omega)) | (exact Or.inl (kin0 _ _)) | (exact Or.inl (by simp)))
  refine Las rfl rfl rfl rfl rfl (Ls_nil (Th_n (hK24 _ _ ?_)))
  have st := st.addK (kS none 0 0 3 []) ⟨Rdx.nil, by simp, Nat.le_refl _, Nat.zero_le _⟩
  have st : St X w26 [(_, Cl [_, _, _, _, _, _, _, _, _, _] _), (_, Cl [_, _, _] _), (_, Cl [_, _, _] _), (_, Cl [_, _] _), (_, Cl [_, _, _, _, _, _, _, _, _] _), (_, Cl [_, _, _, _, _, _, _, _, _] _)] [_, _, _, _, _] := st
  refine Wp_ret (Fq_ret (ResN2 rfl (rvc (i := 4) rfl Ty.ag_47 st.hp rfl rfl) rfl) ?_)
  have he9 : oprepare_m s o tag at_ = ((⟨o.act, o.name, o.val, tag, (⟨0, 0⟩ : StampM), ([] : List TagM)⟩ : EffectM), 0) := by unfold oprepare_m; rewrite [if_pos hc1, if_pos hc2, if_neg hc3, if_pos hc4, if_neg hc5, if_neg hc7, if_neg hc8, if_neg hc9]; rfl
  rewrite [he9]
  exact ⟨_, _, rfl, st.out (i := 4) rfl, hF⟩

def to14_m (s : ObjM) : ObjM :=
  (⟨s.kind, (⟨(to10_m s.reg).val, (⟨(to10_m s.reg).atF.time, (to10_m s.reg).atF.origin⟩ : StampM)⟩ : RegM), (⟨(to11_m s.num).plus, (to11_m s.num).minus⟩ : NumM), (⟨(to12_m s.setF).adds, (to12_m s.setF).gone⟩ : SetM), (⟨(to13_m s.map).puts, (to13_m s.map).gone⟩ : MapM)⟩ : ObjM)


set_option maxRecDepth 20000 in
theorem to14_ok (X : List Nat) (w : World) (hX : Lo X w) (s : ObjM) (A_s_setF_adds : Option Addr) (c_s_setF_adds : Nat) (A_s_setF_gone : Option Addr) (c_s_setF_gone : Nat) (A_s_map_puts : Option Addr) (c_s_map_puts : Nat) (A_s_map_gone : Option Addr) (c_s_map_gone : Nat) (h_s_setF_adds : Sld X w A_s_setF_adds s.setF.adds.length c_s_setF_adds 4 (s.setF.adds.flatMap addMC)) (h_s_setF_gone : Sld X w A_s_setF_gone s.setF.gone.length c_s_setF_gone 3 (s.setF.gone.flatMap tagMC)) (h_s_map_puts : Sld X w A_s_map_puts s.map.puts.length c_s_map_puts 7 (s.map.puts.flatMap putMC)) (h_s_map_gone : Sld X w A_s_map_gone s.map.gone.length c_s_map_gone 3 (s.map.gone.flatMap tagMC)) (h1 : s.setF.adds.length ≤ 1000000) (h2 : s.setF.gone.length ≤ 1000000) (h3 : s.map.puts.length ≤ 1000000) (h4 : s.map.gone.length ≤ 1000000) :
    Fn Try.prog 6 [.agg #[.int .i64 s.kind, .int .i64 s.reg.val, .int .u32 s.reg.atF.time, .int .i64 s.reg.atF.origin, .int .i64 s.num.plus, .int .i64 s.num.minus, .slice A_s_setF_adds s.setF.adds.length c_s_setF_adds, .slice A_s_setF_gone s.setF.gone.length c_s_setF_gone, .slice A_s_map_puts s.map.puts.length c_s_map_puts, .slice A_s_map_gone s.map.gone.length c_s_map_gone]] w fun v w' => ∃ (Ar_setF_adds : Option Addr) (cr_setF_adds : Nat) (Ar_setF_gone : Option Addr) (cr_setF_gone : Nat) (Ar_map_puts : Option Addr) (cr_map_puts : Nat) (Ar_map_gone : Option Addr) (cr_map_gone : Nat), v = .agg #[.int .i64 ((to14_m s).kind), .int .i64 (((to14_m s).reg).val), .int .u32 (((to14_m s).reg).atF.time), .int .i64 (((to14_m s).reg).atF.origin), .int .i64 (((to14_m s).num).plus), .int .i64 (((to14_m s).num).minus), .slice Ar_setF_adds (((to14_m s).setF).adds).length cr_setF_adds, .slice Ar_setF_gone (((to14_m s).setF).gone).length cr_setF_gone, .slice Ar_map_puts (((to14_m s).map).puts).length cr_map_puts, .slice Ar_map_gone (((to14_m s).map).gone).length cr_map_gone] ∧ Sld X w' Ar_setF_adds (((to14_m s).setF).adds).length cr_setF_adds 4 ((((to14_m s).setF).adds).flatMap addMC) ∧ Sld X w' Ar_setF_gone (((to14_m s).setF).gone).length cr_setF_gone 3 ((((to14_m s).setF).gone).flatMap tagMC) ∧ Sld X w' Ar_map_puts (((to14_m s).map).puts).length cr_map_puts 7 ((((to14_m s).map).puts).flatMap putMC) ∧ Sld X w' Ar_map_gone (((to14_m s).map).gone).length cr_map_gone 3 ((((to14_m s).map).gone).flatMap tagMC) ∧ Fr [] w w' := by
  refine Fn_of 18 Ty.en_6 Try.func6 rfl rfl rfl ?_
  dsimp only [argEnv]
  have st : St X w [] [kS A_s_setF_adds s.setF.adds.length c_s_setF_adds 4 (s.setF.adds.flatMap addMC), kS A_s_setF_gone s.setF.gone.length c_s_setF_gone 3 (s.setF.gone.flatMap tagMC), kS A_s_map_puts s.map.puts.length c_s_map_puts 7 (s.map.puts.flatMap putMC), kS A_s_map_gone s.map.gone.length c_s_map_gone 3 (s.map.gone.flatMap tagMC)] := ((((St.nil (X := X) (w := w) hX).addK (kS A_s_setF_adds s.setF.adds.length c_s_setF_adds 4 (s.setF.adds.flatMap addMC)) h_s_setF_adds).addK (kS A_s_setF_gone s.setF.gone.length c_s_setF_gone 3 (s.setF.gone.flatMap tagMC)) h_s_setF_gone).addK (kS A_s_map_puts s.map.puts.length c_s_map_puts 7 (s.map.puts.flatMap putMC)) h_s_map_puts).addK (kS A_s_map_gone s.map.gone.length c_s_map_gone 3 (s.map.gone.flatMap tagMC)) h_s_map_gone
  have hF := Fr.refl ([]) w
  have hleA_s_setF_adds := (st.k (i := 0) rfl).le
  have hleA_s_setF_gone := (st.k (i := 1) rfl).le
  have hleA_s_map_puts := (st.k (i := 2) rfl).le
  have hleA_s_map_gone := (st.k (i := 3) rfl).le
  refine Wp_seq fun K1 hK1 => ?_
  refine Wp_region (Ls_a (wtd0 rfl) ?_)
  refine a_box rfl rfl rfl rfl st.hp (fun g1 w1 (hp : Hp w1 [(_, Cl [_, _, _, _, _, _, _, _, _, _] _)]) hf hg1 => ?_)
  have st : St X w1 [(_, Cl [_, _, _, _, _, _, _, _, _, _] _)] [_, _, _, _] := st.push hp hf hg1
  have hg1 := Nat.le_trans hF.size hg1
  have hF := hF.step0 hf
  refine Ls_a (wtd0 rfl) ?_
  refine a_alloc rfl rfl rfl Ty.zc_60 st.hp (fun g2 w2 (hp : Hp w2 [(_, Cl [_, _, _, _, _, _, _, _, _, _] _), (_, Cl [_, _, _, _, _, _, _, _, _, _] _)]) hf hg2 => ?_)
  have st : St X w2 [(_, Cl [_, _, _, _, _, _, _, _, _, _] _), (_, Cl [_, _, _, _, _, _, _, _, _, _] _)] [_, _, _, _] := st.push hp hf hg2
  have hg2 := Nat.le_trans hF.size hg2
  have hF := hF.step0 hf
  refine Ls_nil (Th_n (hK1 _ _ ?_))
  refine Wp_seq fun K2 hK2 => ?_
  refine Wp_planF (fun W => St X W (pickL (hOf st) [0, 1]) (kOf st)) [(true, 0), (true, 1), (true, 2), (true, 3), (true, 5), (true, 6), (true, 8), (true, 9), (true, 11), (true, 12), (false, 4), (false, 7), (false, 10), (false, 13), (true, 14)] 15 Ty.mx_0 (by kernel_rfl) (by kernel_rfl) (by kernel_rfl) rfl ((st.picks [0, 1] (by decide)).drew) ?_
  have st := st.drew
  have hF := hF.step0 (Fr.drew _)
  refine Pl_y rfl (wtd0 rfl) rfl rfl (y_fld rfl rfl Ty.fo_37_0) (Pl_y rfl (wtd0 rfl) rfl rfl (y_load (i := 0) rfl rfl Ty.pl_3 (fun _ h => h.hp) rfl rfl) ?_)
  refine Pl_y rfl (wtd0 rfl) rfl rfl (y_fld rfl rfl Ty.fo_37_1) (Pl_y rfl (wtd0 rfl) rfl rfl (y_loadm (i := 0) rfl rfl Ty.ag_26 (fun _ h => h.hp) rfl rfl rfl) ?_)
  refine Pl_y rfl (wtd0 rfl) rfl rfl (y_fld rfl rfl Ty.fo_37_2) (Pl_y rfl (wtd0 rfl) rfl rfl (y_loadm (i := 0) rfl rfl Ty.ag_28 (fun _ h => h.hp) rfl rfl rfl) ?_)
  refine Pl_y rfl (wtd0 rfl) rfl rfl (y_fld rfl rfl Ty.fo_37_3) (Pl_y rfl (wtd0 rfl) rfl rfl (y_loadm (i := 0) rfl rfl Ty.ag_32 (fun _ h => h.hp) rfl rfl rfl) ?_)
  refine Pl_y rfl (wtd0 rfl) rfl rfl (y_fld rfl rfl Ty.fo_37_4) (Pl_y rfl (wtd0 rfl) rfl rfl (y_loadm (i := 0) rfl rfl Ty.ag_35 (fun _ h => h.hp) rfl rfl rfl) ?_)
  refine Pl_a rfl (wtd0 rfl) (by rfl) ?_
  refine a_call rfl rfl rfl rfl (to10_ok _ s.reg) (fun v w3 ⟨hv, hf⟩ => ?_)
  subst hv
  have st := st.keep0 hf
  have hF := hF.step0 hf
  have st : St X w3 [(_, Cl [_, _, _, _, _, _, _, _, _, _] _), (_, Cl [_, _, _, _, _, _, _, _, _, _] _)] [_, _, _, _] := st
  refine ⟨(st.picks [0, 1] (by decide)).takeK 4, ?_⟩
  refine Pl_a rfl (wtd0 rfl) (by rfl) ?_
  refine a_call rfl rfl rfl rfl (to11_ok _ s.num) (fun v w4 ⟨hv, hf⟩ => ?_)
  subst hv
  have st := st.keep0 hf
  have hF := hF.step0 hf
  have st : St X w4 [(_, Cl [_, _, _, _, _, _, _, _, _, _] _), (_, Cl [_, _, _, _, _, _, _, _, _, _] _)] [_, _, _, _] := st
  refine ⟨(st.picks [0, 1] (by decide)).takeK 4, ?_⟩
  refine Pl_a rfl (wtd0 rfl) (by rfl) ?_
  refine a_call rfl rfl rfl rfl (to12_ok (keys (hOf st) ++ X) _ st.Lo s.setF A_s_setF_adds c_s_setF_adds A_s_setF_gone c_s_setF_gone (st.k (i := 0) rfl) (st.k (i := 1) rfl) h1 h2) (fun v w5 ⟨Ar1, cr1, Ar2, cr2, hv, hr1, hr2, hf⟩ => ?_)
  subst hv
  have st := st.keep0 hf
  have hF := hF.step0 hf
  have hlehr1 := Sld.le hr1
  have st := st.addK (kS Ar1 ((to12_m s.setF).adds).length cr1 4 (((to12_m s.setF).adds).flatMap addMC)) hr1
  have hlehr2 := Sld.le hr2
  have st := st.addK (kS Ar2 ((to12_m s.setF).gone).length cr2 3 (((to12_m s.setF).gone).flatMap tagMC)) hr2
  have st : St X w5 [(_, Cl [_, _, _, _, _, _, _, _, _, _] _), (_, Cl [_, _, _, _, _, _, _, _, _, _] _)] [_, _, _, _, _, _] := st
  refine ⟨(st.picks [0, 1] (by decide)).takeK 4, ?_⟩
  refine Pl_a rfl (wtd0 rfl) (by rfl) ?_
  refine a_call rfl rfl rfl rfl (to13_ok (keys (hOf st) ++ X) _ st.Lo s.map A_s_map_puts c_s_map_puts A_s_map_gone c_s_map_gone (st.k (i := 2) rfl) (st.k (i := 3) rfl) h3 h4) (fun v w6 ⟨Ar3, cr3, Ar4, cr4, hv, hr3, hr4, hf⟩ => ?_)
  subst hv
  have st := st.keep0 hf
  have hF := hF.step0 hf
  have hlehr3 := Sld.le hr3
  have st := st.addK (kS Ar3 ((to13_m s.map).puts).length cr3 7 (((to13_m s.map).puts).flatMap putMC)) hr3
  have hlehr4 := Sld.le hr4
  have st := st.addK (kS Ar4 ((to13_m s.map).gone).length cr4 3 (((to13_m s.map).gone).flatMap tagMC)) hr4
  have st : St X w6 [(_, Cl [_, _, _, _, _, _, _, _, _, _] _), (_, Cl [_, _, _, _, _, _, _, _, _, _] _)] [_, _, _, _, _, _, _, _] := st
  refine ⟨(st.picks [0, 1] (by decide)).takeK 4, ?_⟩
  refine Pl_y rfl (wtd0 rfl) rfl rfl (y_build (cells := [_, _, _, _, _, _, _, _, _, _]) rfl rfl Ty.zc_60 Ty.ps_60 rfl) ?_
  refine Pl_nil (Fin_a rfl (wtd0 rfl) ?_)
  refine a_storew (i := 1) rfl rfl rfl rfl Ty.sz_60 rfl (by first | assumption | (simp [Value.oneCell']; done)) st.hp rfl rfl (fun w7 (hp : Hp w7 [(_, Cl [_, _, _, _, _, _, _, _, _, _] _), (_, Cl [_, _, _, _, _, _, _, _, _, _] _)]) hf _ => ?_)
  have st : St X w7 [(_, Cl [_, _, _, _, _, _, _, _, _, _] _), (_, Cl [_, _, _, _, _, _, _, _, _, _] _)] [_, _, _, _, _, _, _, _] := st.set (i := 1) rfl hp hf
  have hF := hF.step hf (by intro y hy; simp only [List.mem_cons, List.not_mem_nil, or_false] at hy; subst hy; first | (exact Or.inr (by omega)) | (exact Or.inl (kin0 _ _)) | (exact Or.inl (by simp)))
  refine id (Th_n (hK2 _ _ ?_))
  refine Wp_ret (Fq_ret (ResN1 rfl (rvc (i := 1) rfl Ty.ag_60 st.hp rfl rfl)) ?_)
  have he1 : to14_m s = (⟨s.kind, (⟨(to10_m s.reg).val, (⟨(to10_m s.reg).atF.time, (to10_m s.reg).atF.origin⟩ : StampM)⟩ : RegM), (⟨(to11_m s.num).plus, (to11_m s.num).minus⟩ : NumM), (⟨(to12_m s.setF).adds, (to12_m s.setF).gone⟩ : SetM), (⟨(to13_m s.map).puts, (to13_m s.map).gone⟩ : MapM)⟩ : ObjM) := by unfold to14_m; rfl
  rewrite [he1]
  exact ⟨_, _, _, _, _, _, _, _, rfl, st.out (i := 4) rfl, st.out (i := 5) rfl, st.out (i := 6) rfl, st.out (i := 7) rfl, hF⟩

def from14_m (s : ObjM) : ObjM :=
  (⟨s.kind, (⟨(from10_m s.reg).val, (⟨(from10_m s.reg).atF.time, (from10_m s.reg).atF.origin⟩ : StampM)⟩ : RegM), (⟨(from11_m s.num).plus, (from11_m s.num).minus⟩ : NumM), (⟨(from12_m s.setF).adds, (from12_m s.setF).gone⟩ : SetM), (⟨(from13_m s.map).puts, (from13_m s.map).gone⟩ : MapM)⟩ : ObjM)


set_option maxRecDepth 20000 in
theorem from14_ok (X : List Nat) (w : World) (hX : Lo X w) (s : ObjM) (A_s_setF_adds : Option Addr) (c_s_setF_adds : Nat) (A_s_setF_gone : Option Addr) (c_s_setF_gone : Nat) (A_s_map_puts : Option Addr) (c_s_map_puts : Nat) (A_s_map_gone : Option Addr) (c_s_map_gone : Nat) (h_s_setF_adds : Sld X w A_s_setF_adds s.setF.adds.length c_s_setF_adds 4 (s.setF.adds.flatMap addMC)) (h_s_setF_gone : Sld X w A_s_setF_gone s.setF.gone.length c_s_setF_gone 3 (s.setF.gone.flatMap tagMC)) (h_s_map_puts : Sld X w A_s_map_puts s.map.puts.length c_s_map_puts 7 (s.map.puts.flatMap putMC)) (h_s_map_gone : Sld X w A_s_map_gone s.map.gone.length c_s_map_gone 3 (s.map.gone.flatMap tagMC)) (h1 : s.setF.adds.length ≤ 1000000) (h2 : s.setF.gone.length ≤ 1000000) (h3 : s.map.puts.length ≤ 1000000) (h4 : s.map.gone.length ≤ 1000000) :
    Fn Try.prog 14 [.agg #[.int .i64 s.kind, .int .i64 s.reg.val, .int .u32 s.reg.atF.time, .int .i64 s.reg.atF.origin, .int .i64 s.num.plus, .int .i64 s.num.minus, .slice A_s_setF_adds s.setF.adds.length c_s_setF_adds, .slice A_s_setF_gone s.setF.gone.length c_s_setF_gone, .slice A_s_map_puts s.map.puts.length c_s_map_puts, .slice A_s_map_gone s.map.gone.length c_s_map_gone]] w fun v w' => ∃ (Ar_setF_adds : Option Addr) (cr_setF_adds : Nat) (Ar_setF_gone : Option Addr) (cr_setF_gone : Nat) (Ar_map_puts : Option Addr) (cr_map_puts : Nat) (Ar_map_gone : Option Addr) (cr_map_gone : Nat), v = .agg #[.int .i64 ((from14_m s).kind), .int .i64 (((from14_m s).reg).val), .int .u32 (((from14_m s).reg).atF.time), .int .i64 (((from14_m s).reg).atF.origin), .int .i64 (((from14_m s).num).plus), .int .i64 (((from14_m s).num).minus), .slice Ar_setF_adds (((from14_m s).setF).adds).length cr_setF_adds, .slice Ar_setF_gone (((from14_m s).setF).gone).length cr_setF_gone, .slice Ar_map_puts (((from14_m s).map).puts).length cr_map_puts, .slice Ar_map_gone (((from14_m s).map).gone).length cr_map_gone] ∧ Sld X w' Ar_setF_adds (((from14_m s).setF).adds).length cr_setF_adds 4 ((((from14_m s).setF).adds).flatMap addMC) ∧ Sld X w' Ar_setF_gone (((from14_m s).setF).gone).length cr_setF_gone 3 ((((from14_m s).setF).gone).flatMap tagMC) ∧ Sld X w' Ar_map_puts (((from14_m s).map).puts).length cr_map_puts 7 ((((from14_m s).map).puts).flatMap putMC) ∧ Sld X w' Ar_map_gone (((from14_m s).map).gone).length cr_map_gone 3 ((((from14_m s).map).gone).flatMap tagMC) ∧ Fr [] w w' := by
  refine Fn_of 18 Ty.en_14 Try.func14 rfl rfl rfl ?_
  dsimp only [argEnv]
  have st : St X w [] [kS A_s_setF_adds s.setF.adds.length c_s_setF_adds 4 (s.setF.adds.flatMap addMC), kS A_s_setF_gone s.setF.gone.length c_s_setF_gone 3 (s.setF.gone.flatMap tagMC), kS A_s_map_puts s.map.puts.length c_s_map_puts 7 (s.map.puts.flatMap putMC), kS A_s_map_gone s.map.gone.length c_s_map_gone 3 (s.map.gone.flatMap tagMC)] := ((((St.nil (X := X) (w := w) hX).addK (kS A_s_setF_adds s.setF.adds.length c_s_setF_adds 4 (s.setF.adds.flatMap addMC)) h_s_setF_adds).addK (kS A_s_setF_gone s.setF.gone.length c_s_setF_gone 3 (s.setF.gone.flatMap tagMC)) h_s_setF_gone).addK (kS A_s_map_puts s.map.puts.length c_s_map_puts 7 (s.map.puts.flatMap putMC)) h_s_map_puts).addK (kS A_s_map_gone s.map.gone.length c_s_map_gone 3 (s.map.gone.flatMap tagMC)) h_s_map_gone
  have hF := Fr.refl ([]) w
  have hleA_s_setF_adds := (st.k (i := 0) rfl).le
  have hleA_s_setF_gone := (st.k (i := 1) rfl).le
  have hleA_s_map_puts := (st.k (i := 2) rfl).le
  have hleA_s_map_gone := (st.k (i := 3) rfl).le
  refine Wp_seq fun K1 hK1 => ?_
  refine Wp_region (Ls_a (wtd0 rfl) ?_)
  refine a_box rfl rfl rfl rfl st.hp (fun g1 w1 (hp : Hp w1 [(_, Cl [_, _, _, _, _, _, _, _, _, _] _)]) hf hg1 => ?_)
  have st : St X w1 [(_, Cl [_, _, _, _, _, _, _, _, _, _] _)] [_, _, _, _] := st.push hp hf hg1
  have hg1 := Nat.le_trans hF.size hg1
  have hF := hF.step0 hf
  refine Ls_a (wtd0 rfl) ?_
  refine a_alloc rfl rfl rfl Ty.zc_37 st.hp (fun g2 w2 (hp : Hp w2 [(_, Cl [_, _, _, _, _, _, _, _, _, _] _), (_, Cl [_, _, _, _, _, _, _, _, _, _] _)]) hf hg2 => ?_)
  have st : St X w2 [(_, Cl [_, _, _, _, _, _, _, _, _, _] _), (_, Cl [_, _, _, _, _, _, _, _, _, _] _)] [_, _, _, _] := st.push hp hf hg2
  have hg2 := Nat.le_trans hF.size hg2
  have hF := hF.step0 hf
  refine Ls_nil (Th_n (hK1 _ _ ?_))
  refine Wp_seq fun K2 hK2 => ?_
  refine Wp_planF (fun W => St X W (pickL (hOf st) [0, 1]) (kOf st)) [(true, 0), (true, 1), (true, 2), (true, 3), (true, 5), (true, 6), (true, 8), (true, 9), (true, 11), (true, 12), (false, 4), (false, 7), (false, 10), (false, 13), (true, 14)] 15 Ty.mx_0 (by kernel_rfl) (by kernel_rfl) (by kernel_rfl) rfl ((st.picks [0, 1] (by decide)).drew) ?_
  have st := st.drew
  have hF := hF.step0 (Fr.drew _)
  refine Pl_y rfl (wtd0 rfl) rfl rfl (y_fld rfl rfl Ty.fo_60_0) (Pl_y rfl (wtd0 rfl) rfl rfl (y_load (i := 0) rfl rfl Ty.pl_3 (fun _ h => h.hp) rfl rfl) ?_)
  refine Pl_y rfl (wtd0 rfl) rfl rfl (y_fld rfl rfl Ty.fo_60_1) (Pl_y rfl (wtd0 rfl) rfl rfl (y_loadm (i := 0) rfl rfl Ty.ag_51 (fun _ h => h.hp) rfl rfl rfl) ?_)
  refine Pl_y rfl (wtd0 rfl) rfl rfl (y_fld rfl rfl Ty.fo_60_2) (Pl_y rfl (wtd0 rfl) rfl rfl (y_loadm (i := 0) rfl rfl Ty.ag_52 (fun _ h => h.hp) rfl rfl rfl) ?_)
  refine Pl_y rfl (wtd0 rfl) rfl rfl (y_fld rfl rfl Ty.fo_60_3) (Pl_y rfl (wtd0 rfl) rfl rfl (y_loadm (i := 0) rfl rfl Ty.ag_55 (fun _ h => h.hp) rfl rfl rfl) ?_)
  refine Pl_y rfl (wtd0 rfl) rfl rfl (y_fld rfl rfl Ty.fo_60_4) (Pl_y rfl (wtd0 rfl) rfl rfl (y_loadm (i := 0) rfl rfl Ty.ag_58 (fun _ h => h.hp) rfl rfl rfl) ?_)
  refine Pl_a rfl (wtd0 rfl) (by rfl) ?_
  refine a_call rfl rfl rfl rfl (from10_ok _ s.reg) (fun v w3 ⟨hv, hf⟩ => ?_)
  subst hv
  have st := st.keep0 hf
  have hF := hF.step0 hf
  have st : St X w3 [(_, Cl [_, _, _, _, _, _, _, _, _, _] _), (_, Cl [_, _, _, _, _, _, _, _, _, _] _)] [_, _, _, _] := st
  refine ⟨(st.picks [0, 1] (by decide)).takeK 4, ?_⟩
  refine Pl_a rfl (wtd0 rfl) (by rfl) ?_
  refine a_call rfl rfl rfl rfl (from11_ok _ s.num) (fun v w4 ⟨hv, hf⟩ => ?_)
  subst hv
  have st := st.keep0 hf
  have hF := hF.step0 hf
  have st : St X w4 [(_, Cl [_, _, _, _, _, _, _, _, _, _] _), (_, Cl [_, _, _, _, _, _, _, _, _, _] _)] [_, _, _, _] := st
  refine ⟨(st.picks [0, 1] (by decide)).takeK 4, ?_⟩
  refine Pl_a rfl (wtd0 rfl) (by rfl) ?_
  refine a_call rfl rfl rfl rfl (from12_ok (keys (hOf st) ++ X) _ st.Lo s.setF A_s_setF_adds c_s_setF_adds A_s_setF_gone c_s_setF_gone (st.k (i := 0) rfl) (st.k (i := 1) rfl) h1 h2) (fun v w5 ⟨Ar1, cr1, Ar2, cr2, hv, hr1, hr2, hf⟩ => ?_)
  subst hv
  have st := st.keep0 hf
  have hF := hF.step0 hf
  have hlehr1 := Sld.le hr1
  have st := st.addK (kS Ar1 ((from12_m s.setF).adds).length cr1 4 (((from12_m s.setF).adds).flatMap addMC)) hr1
  have hlehr2 := Sld.le hr2
  have st := st.addK (kS Ar2 ((from12_m s.setF).gone).length cr2 3 (((from12_m s.setF).gone).flatMap tagMC)) hr2
  have st : St X w5 [(_, Cl [_, _, _, _, _, _, _, _, _, _] _), (_, Cl [_, _, _, _, _, _, _, _, _, _] _)] [_, _, _, _, _, _] := st
  refine ⟨(st.picks [0, 1] (by decide)).takeK 4, ?_⟩
  refine Pl_a rfl (wtd0 rfl) (by rfl) ?_
  refine a_call rfl rfl rfl rfl (from13_ok (keys (hOf st) ++ X) _ st.Lo s.map A_s_map_puts c_s_map_puts A_s_map_gone c_s_map_gone (st.k (i := 2) rfl) (st.k (i := 3) rfl) h3 h4) (fun v w6 ⟨Ar3, cr3, Ar4, cr4, hv, hr3, hr4, hf⟩ => ?_)
  subst hv
  have st := st.keep0 hf
  have hF := hF.step0 hf
  have hlehr3 := Sld.le hr3
  have st := st.addK (kS Ar3 ((from13_m s.map).puts).length cr3 7 (((from13_m s.map).puts).flatMap putMC)) hr3
  have hlehr4 := Sld.le hr4
  have st := st.addK (kS Ar4 ((from13_m s.map).gone).length cr4 3 (((from13_m s.map).gone).flatMap tagMC)) hr4
  have st : St X w6 [(_, Cl [_, _, _, _, _, _, _, _, _, _] _), (_, Cl [_, _, _, _, _, _, _, _, _, _] _)] [_, _, _, _, _, _, _, _] := st
  refine ⟨(st.picks [0, 1] (by decide)).takeK 4, ?_⟩
  refine Pl_y rfl (wtd0 rfl) rfl rfl (y_build (cells := [_, _, _, _, _, _, _, _, _, _]) rfl rfl Ty.zc_37 Ty.ps_37 rfl) ?_
  refine Pl_nil (Fin_a rfl (wtd0 rfl) ?_)
  refine a_storew (i := 1) rfl rfl rfl rfl Ty.sz_37 rfl (by first | assumption | (simp [Value.oneCell']; done)) st.hp rfl rfl (fun w7 (hp : Hp w7 [(_, Cl [_, _, _, _, _, _, _, _, _, _] _), (_, Cl [_, _, _, _, _, _, _, _, _, _] _)]) hf _ => ?_)
  have st : St X w7 [(_, Cl [_, _, _, _, _, _, _, _, _, _] _), (_, Cl [_, _, _, _, _, _, _, _, _, _] _)] [_, _, _, _, _, _, _, _] := st.set (i := 1) rfl hp hf
  have hF := hF.step hf (by intro y hy; simp only [List.mem_cons, List.not_mem_nil, or_false] at hy; subst hy; first | (exact Or.inr (by omega)) | (exact Or.inl (kin0 _ _)) | (exact Or.inl (by simp)))
  refine id (Th_n (hK2 _ _ ?_))
  refine Wp_ret (Fq_ret (ResN1 rfl (rvc (i := 1) rfl Ty.ag_37 st.hp rfl rfl)) ?_)
  have he1 : from14_m s = (⟨s.kind, (⟨(from10_m s.reg).val, (⟨(from10_m s.reg).atF.time, (from10_m s.reg).atF.origin⟩ : StampM)⟩ : RegM), (⟨(from11_m s.num).plus, (from11_m s.num).minus⟩ : NumM), (⟨(from12_m s.setF).adds, (from12_m s.setF).gone⟩ : SetM), (⟨(from13_m s.map).puts, (from13_m s.map).gone⟩ : MapM)⟩ : ObjM) := by unfold from14_m; rfl
  rewrite [he1]
  exact ⟨_, _, _, _, _, _, _, _, rfl, st.out (i := 4) rfl, st.out (i := 5) rfl, st.out (i := 6) rfl, st.out (i := 7) rfl, hF⟩

def fromEff_m (e : EffectM) : EffectM :=
  e


set_option maxRecDepth 20000 in
theorem fromEff_ok (X : List Nat) (w : World) (hX : Lo X w) (e : EffectM) (A_e_tags : Option Addr) (c_e_tags : Nat) (h_e_tags : Sld X w A_e_tags e.tags.length c_e_tags 3 (e.tags.flatMap tagMC)) :
    Fn Try.prog 12 [.agg #[.int .i64 e.act, sv e.name, .int .i64 e.val, .int .i64 e.tag.id.origin, .int .u32 e.tag.id.seq, .int .i64 e.tag.n, .int .u32 e.atF.time, .int .i64 e.atF.origin, .slice A_e_tags e.tags.length c_e_tags]] w fun v w' => ∃ (Ar_tags : Option Addr) (cr_tags : Nat), v = .agg #[.int .i64 ((fromEff_m e).act), sv ((fromEff_m e).name), .int .i64 ((fromEff_m e).val), .int .i64 (((fromEff_m e).tag).id.origin), .int .u32 (((fromEff_m e).tag).id.seq), .int .i64 (((fromEff_m e).tag).n), .int .u32 (((fromEff_m e).atF).time), .int .i64 (((fromEff_m e).atF).origin), .slice Ar_tags ((fromEff_m e).tags).length cr_tags] ∧ Sld X w' Ar_tags ((fromEff_m e).tags).length cr_tags 3 (((fromEff_m e).tags).flatMap tagMC) ∧ Fr [] w w' := by
  refine Fn_of 16 Ty.en_12 Try.func12 rfl rfl rfl ?_
  dsimp only [argEnv]
  have st : St X w [] [kS A_e_tags e.tags.length c_e_tags 3 (e.tags.flatMap tagMC)] := (St.nil (X := X) (w := w) hX).addK (kS A_e_tags e.tags.length c_e_tags 3 (e.tags.flatMap tagMC)) h_e_tags
  have hF := Fr.refl ([]) w
  have hleA_e_tags := (st.k (i := 0) rfl).le
  refine Wp_seq fun K1 hK1 => ?_
  refine Wp_region (Ls_a (wtd0 rfl) ?_)
  refine a_box rfl rfl rfl rfl st.hp (fun g1 w1 (hp : Hp w1 [(_, Cl [_, _, _, _, _, _, _, _, _] _)]) hf hg1 => ?_)
  have st : St X w1 [(_, Cl [_, _, _, _, _, _, _, _, _] _)] [_] := st.push hp hf hg1
  have hg1 := Nat.le_trans hF.size hg1
  have hF := hF.step0 hf
  refine Ls_a (wtd0 rfl) ?_
  refine a_alloc rfl rfl rfl Ty.zc_46 st.hp (fun g2 w2 (hp : Hp w2 [(_, Cl [_, _, _, _, _, _, _, _, _] _), (_, Cl [_, _, _, _, _, _, _, _, _] _)]) hf hg2 => ?_)
  have st : St X w2 [(_, Cl [_, _, _, _, _, _, _, _, _] _), (_, Cl [_, _, _, _, _, _, _, _, _] _)] [_] := st.push hp hf hg2
  have hg2 := Nat.le_trans hF.size hg2
  have hF := hF.step0 hf
  refine Ls_nil (Th_n (hK1 _ _ ?_))
  refine Wp_seq fun K2 hK2 => ?_
  refine Wp_region (Ls_y (wtd0 rfl) rfl rfl (y_fld rfl rfl Ty.fo_47_0) (Ls_y (wtd0 rfl) rfl rfl (y_load (i := 0) rfl rfl Ty.pl_3 (fun _ e => e ▸ st.hp) rfl rfl) ?_))
  refine Ls_y (wtd0 rfl) rfl rfl (y_fld rfl rfl Ty.fo_47_1) (Ls_y (wtd0 rfl) rfl rfl (y_load (i := 0) rfl rfl Ty.pl_9 (fun _ e => e ▸ st.hp) rfl rfl) ?_)
  refine Ls_y (wtd0 rfl) rfl rfl (y_fld rfl rfl Ty.fo_47_2) (Ls_y (wtd0 rfl) rfl rfl (y_load (i := 0) rfl rfl Ty.pl_2 (fun _ e => e ▸ st.hp) rfl rfl) ?_)
  refine Ls_y (wtd0 rfl) rfl rfl (y_fld rfl rfl Ty.fo_47_3) (Ls_y (wtd0 rfl) rfl rfl (y_loadm (i := 0) rfl rfl Ty.ag_43 (fun _ e => e ▸ st.hp) rfl rfl rfl) ?_)
  refine Ls_y (wtd0 rfl) rfl rfl (y_fld rfl rfl Ty.fo_47_4) (Ls_y (wtd0 rfl) rfl rfl (y_loadm (i := 0) rfl rfl Ty.ag_24 (fun _ e => e ▸ st.hp) rfl rfl rfl) ?_)
  refine Ls_y (wtd0 rfl) rfl rfl (y_fld rfl rfl Ty.fo_47_5) (Ls_y (wtd0 rfl) rfl rfl (y_load (i := 0) rfl rfl Ty.pl_30 (fun _ e => e ▸ st.hp) rfl rfl) ?_)
  refine Ls_y (wtd0 rfl) rfl rfl (y_build (cells := [_, _, _, _, _, _, _, _, _]) rfl rfl Ty.zc_46 Ty.ps_46 rfl) ?_
  refine Ls_a (wtd0 rfl) ?_
  refine a_storew (i := 1) rfl rfl rfl rfl Ty.sz_46 rfl (by first | assumption | (simp [Value.oneCell']; done)) st.hp rfl rfl (fun w3 (hp : Hp w3 [(_, Cl [_, _, _, _, _, _, _, _, _] _), (_, Cl [_, _, _, _, _, _, _, _, _] _)]) hf _ => ?_)
  have st : St X w3 [(_, Cl [_, _, _, _, _, _, _, _, _] _), (_, Cl [_, _, _, _, _, _, _, _, _] _)] [_] := st.set (i := 1) rfl hp hf
  have hF := hF.step hf (by intro y hy; simp only [List.mem_cons, List.not_mem_nil, or_false] at hy; subst hy; first | (exact Or.inr (by omega)) | (exact Or.inl (kin0 _ _)) | (exact Or.inl (by simp)))
  refine Ls_nil (Th_n (hK2 _ _ ?_))
  refine Wp_ret (Fq_ret (ResN1 rfl (rvc (i := 1) rfl Ty.ag_46 st.hp rfl rfl)) ?_)
  have he1 : fromEff_m e = e := by unfold fromEff_m; rfl
  rewrite [he1]
  exact ⟨_, _, rfl, st.out (i := 0) rfl, hF⟩

end Go.Proofs.Ytmajjdpioillaaa

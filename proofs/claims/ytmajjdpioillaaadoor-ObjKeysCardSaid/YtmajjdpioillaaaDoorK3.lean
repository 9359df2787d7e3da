/- Walks printed by gen2.py out of our own specifications: what the functions named below do. -/
import Derived.Test.YtmajjdpioillaaaDoorK2
import Derived.Test.YtmajjdpioillaaaDoorShelf
import Derived.Test.YtmajjdpioillaaaDoorPl
set_option linter.unusedSimpArgs false
set_option linter.unusedVariables false
namespace Go.Proofs.YtmajjdpioillaaaDoor
open Go.RowKit


open Go.Lib in
theorem cellF {w w' : World} {a : Addr} {v : Value} (h : Fr [] w w') (hm : w.cell? a = some v) : w'.cell? a = some v := by rw [h.cell (cell_blk hm) (by simp)]; exact hm
def split_m (s sep : List UInt8) : List (List UInt8) := Lib.split s sep
theorem fl1 {α : Type} (f : α → Value) (l : List α) : l.flatMap (fun x => [f x]) = l.map f := by
  induction l with
  | nil => rfl
  | cons a l ih => rw [List.flatMap_cons, ih]; rfl
theorem split_len {s sep : List UInt8} (h1 : 1 ≤ sep.length) : (split_m s sep).length = Lib.count s sep + 1 := by
  have := Lib.splitB_all ⟨sep.toArray⟩ (by simpa [ByteArray.size] using h1) 0 (Lib.count s sep) ⟨s.toArray⟩ (by simp)
  have h2 := congrArg List.length (Lib.splitB_data ⟨sep.toArray⟩ 0 (Lib.count s sep) ⟨s.toArray⟩)
  rw [List.length_map, this] at h2
  unfold split_m Lib.split
  simpa using h2.symm
theorem split_ok (X : List Nat) (w : World) (hX : Lo X w) (s sep : List UInt8) (mx : Int) (hm : w.cell? ⟨0, 0, none⟩ = some (.int .i64 mx)) (hs : s.length ≤ 1000000) (h1 : 1 ≤ sep.length) :
    Fn Tryd.prog 17 [sv s, sv sep] w fun v w' => ∃ (A : Option Addr) (c : Nat), v = .slice A (split_m s sep).length c ∧ Sld X w' A (split_m s sep).length c 1 ((split_m s sep).flatMap (fun x => [sv x])) ∧ Fr [] w w' := by
  refine ⟨by kernel_rfl, ((Tryd.strings_Split ⟨s.toArray⟩ ⟨sep.toArray⟩ mx w (by simp [ByteArray.size]; omega) hm (by simpa [ByteArray.size] using h1)).mono ?_)⟩
  rintro e w' ⟨rfl, rfl⟩
  have hlen := split_len (s := s) h1
  have hcells : ((Lib.splitB ⟨sep.toArray⟩ 0 (Lib.countB ⟨s.toArray⟩ ⟨sep.toArray⟩) ⟨s.toArray⟩).map Value.string) = (split_m s sep).flatMap (fun x => [sv x]) := by
    rw [fl1]
    have h2 := Lib.splitB_data ⟨sep.toArray⟩ 0 (Lib.count s sep) ⟨s.toArray⟩
    have : split_m s sep = (Lib.splitB ⟨sep.toArray⟩ 0 (Lib.count s sep) ⟨s.toArray⟩).map (·.data.toList) := by rw [h2]; rfl
    rw [this, List.map_map]
    show _ = _
    apply List.map_congr_left
    intro x _
    cases x
    simp [Function.comp]
  refine ⟨_, rfl, some ⟨w.heap.size, 0, none⟩, Lib.count s sep + 1, ?_, ?_, Fr.alloc w _⟩
  · rw [hlen]
  have hcount : Lib.count s sep ≤ s.length := by
    have := Lib.countB_le ⟨sep.toArray⟩ (by simpa [ByteArray.size] using h1) s.length ⟨s.toArray⟩ (by simp [ByteArray.size])
    simpa [ByteArray.size] using this
  refine ⟨?_, fl_len (enc := fun x => [sv x]) (m := 1) (fun _ => rfl) _, by rw [hlen]; exact Nat.le_refl _, by unfold maxLen; omega⟩
  intro j v hj
  refine ⟨w.heap.size, 0, rfl, fun hx => ?_, ?_⟩
  · have := hX _ hx; omega
  · rw [Nat.zero_add, hcells]
    unfold World.cell?
    simp only [heap_alloc_new]
    simpa using hj
def idxKey_m (p : List UInt8) : Int := Lib.idxFunc (fun x => okey1_m (x : Int)) true ⟨p.toArray⟩
theorem idxKey_ok (w : World) (p : List UInt8) : Fn Tryd.prog 18 [sv p, .func (.func 19) #[] #[]] w fun v w' => v = .int .i64 (idxKey_m p) ∧ Fr [] w w' := by
  refine ⟨by kernel_rfl, ((Tryd.strings_IndexFunc_grows 19 #[] (fun args w => by kernel_rfl) (fun x => okey1_m (x : Int)) ⟨p.toArray⟩ w ?_).mono ?_)⟩
  · intro W x hx _
    refine (okey1_ok W (x : Int)).2.mono ?_
    rintro e w' ⟨v, rfl, rfl, hf⟩
    exact ⟨rfl, hf.below⟩
  · rintro e w' ⟨rfl, hb⟩
    exact ⟨_, rfl, rfl, Fr.of_below hb⟩


def okey_c1 (s : List UInt8) (s14 : Int) : Bool :=
  (if (ix (split_m s [47]) s14) = [] then true else decide (0 ≤ (idxKey_m (ix (split_m s [47]) s14))))

def okey_L1 (s : List UInt8) : Nat → Int → (Int × Int) ⊕ (Int)
  | 0, s14 => .inr (s14)
  | fuel + 1, s14 =>
    if s14 < ((split_m s [47]).length : Int) then
      if (okey_c1 s s14) = true then
        .inl (0, 3)
      else
        okey_L1 s fuel (s14 + 1)
    else
      .inr (s14)
def okey_m (s : List UInt8) : Int × Int :=
  if 24 < (s.length : Int) then
    (0, 8)
  else
    match okey_L1 s ((((split_m s [47]).length : Int) - (0 : Int)).toNat + 1) (0 : Int) with
    | .inl r => r
    | .inr (s14) =>
      if ((ix (ix (split_m s [47]) (((split_m s [47]).length : Int) - 1)) 0).toNat : Int) = 114 then
        (1, 0)
      else
        if ((ix (ix (split_m s [47]) (((split_m s [47]).length : Int) - 1)) 0).toNat : Int) = 99 then
          (2, 0)
        else
          if ((ix (ix (split_m s [47]) (((split_m s [47]).length : Int) - 1)) 0).toNat : Int) = 115 then
            (3, 0)
          else
            if ((ix (ix (split_m s [47]) (((split_m s [47]).length : Int) - 1)) 0).toNat : Int) = 109 then
              (4, 0)
            else
              (0, 5)

theorem okey_c1_iff (s : List UInt8) (s14 : Int) : (okey_c1 s s14 = true) ↔ (((ix (split_m s [47]) s14) = []) ∨ (0 ≤ (idxKey_m (ix (split_m s [47]) s14)))) := by
  unfold okey_c1; exact (ci1 decide_eq_true_iff)

theorem okey_done (s : List UInt8) {q : Int} (h : okey_L1 s ((((split_m s [47]).length : Int) - (0 : Int)).toNat + 1) (0 : Int) = .inr q) : ∀ j : Int, 0 ≤ j → j < (split_m s [47]).length → ¬ ix (split_m s [47]) j = [] := by
  rcases loop_ix ((split_m s [47]).length : Int) (fun i => !okey_c1 s i) (0, 3) (okey_L1 s) 0 (fun fuel i _ => by rw [okey_L1]; by_cases h : okey_c1 s i = true <;> simp [h]) ((((split_m s [47]).length : Int) - (0 : Int)).toNat + 1) 0 (by omega) (by omega) with ⟨_, b⟩ | ⟨a, _⟩
  · intro j h0 h1 hq
    have h3 := b j h0 h1
    have h2 := (okey_c1_iff s j).2 (.inl hq)
    rw [h2] at h3; cases h3
  · rw [a] at h; cases h

set_option maxRecDepth 20000 in
theorem okey_ok (X : List Nat) (w : World) (hX : Lo X w) (s : List UInt8) (mx : Int) (hmx : w.cell? ⟨0, 0, none⟩ = some (.int .i64 mx)) :
    Fn Tryd.prog 5 [sv s] w fun v w' => v = .tuple #[.int .i64 ((okey_m s).1), .int .i64 ((okey_m s).2)] ∧ Fr [] w w' := by
  refine Fn_of 41 Ty.en_5 Tryd.func5 rfl rfl rfl ?_
  dsimp only [argEnv]
  have st : St X w [] [] := St.nil (X := X) (w := w) hX
  have hF := Fr.refl ([]) w
  refine Wp_seq fun K1 hK1 => ?_
  refine Wp_region (Las rfl rfl rfl rfl rfl (Las rfl rfl rfl rfl rfl (Ls_nil (Th_n (hK1 _ _ ?_)))))
  refine Wp_seq fun K2 hK2 => ?_
  refine Wp_seq fun K3 hK3 => ?_
  refine Wp_region (Lmv rfl rfl rfl rfl rfl (Ls_y (wtd0 rfl) rfl rfl (y_lens rfl rfl Tryd.underlying9) ?_))
  refine Ls_y (wtd0 rfl) rfl rfl (y_gt rfl rfl rfl) (Ls_nil (Th_n (hK3 _ _ ?_)))
  refine Wp_cond rfl (fun hc1 => ?_) (fun hc1 => ?_)
  · have hc1 := dT hc1
    refine Wp_seq fun K4 hK4 => ?_
    refine Wp_region (Las rfl rfl rfl rfl rfl (Las rfl rfl rfl rfl rfl (Ls_nil (Th_n (hK4 _ _ ?_)))))
    refine Wp_ret (Th_r (Fq_ret (Res2 rfl rfl rfl) ?_))
    have he1 : okey_m s = (0, 8) := by unfold okey_m; rewrite [if_pos hc1]; rfl
    rewrite [he1]
    exact ⟨rfl, hF⟩
  have hc1 := dF hc1
  refine Wp_skip (Th_n (hK2 _ _ ?_))
  refine Wp_seq fun K5 hK5 => ?_
  refine Wp_region (Lmv rfl rfl rfl rfl rfl (Ls_a (wtd0 rfl) ?_))
  refine a_call rfl rfl rfl rfl (split_ok (keys (hOf st) ++ X) _ st.Lo s [47] mx (cellF hF hmx) (by omega) (by decide)) (fun v w1 ⟨Ar1, cr1, hv, hr1, hf⟩ => ?_)
  subst hv
  have st := st.keep0 hf
  have hF := hF.step0 hf
  have hlehr1 := Sld.le hr1
  have st := st.addK (kS Ar1 (split_m s [47]).length cr1 1 ((split_m s [47]).flatMap (fun x => [sv x]))) hr1
  have st : St X w1 [] [_] := st
  refine Las rfl rfl rfl rfl rfl (Ls_nil (Th_n (hK5 _ _ ?_)))
  refine Wp_seq fun K6 hK6 => ?_
  refine Wp_seq fun K7 hK7 => ?_
  refine Wp_region (Lmv rfl rfl rfl rfl rfl (Ls_y (wtd0 rfl) rfl rfl (y_lenl rfl rfl Tryd.underlying62) ?_))
  refine Lmv rfl rfl rfl rfl rfl (Ls_nil (Th_n (hK7 _ _ ?_)))
  refine Wp_block (use_out hK6 (fun E W => ∃ (s14 : Int), E = [(4, .slice Ar1 ((split_m s [47]).length) cr1), (12, .slice Ar1 ((split_m s [47]).length) cr1), (13, .int .i64 ((split_m s [47]).length : Int)), (14, .int .i64 s14)] ∧ okey_L1 s ((((split_m s [47]).length : Int) - (0 : Int)).toNat + 1) (0 : Int) = .inr (s14) ∧ (0 ≤ s14) ∧ St X W [] [kS Ar1 (split_m s [47]).length cr1 1 ((split_m s [47]).flatMap (fun x => [sv x]))] ∧ Fr ([]) w W) ?_ fun hout1 => ?_)
  · rintro E w2 ⟨s14, rfl, hLk1, hinv, st, hF⟩
    have hdone := okey_done s hLk1
    have hsl := split_len (s := s) (sep := [47]) (by decide)
    have hlast := hdone (((split_m s [47]).length : Int) - 1) (by omega) (by omega)
    have hlast2 : 0 < (ix (split_m s [47]) (((split_m s [47]).length : Int) - 1)).length := List.length_pos_iff.2 hlast
    refine Wp_seq fun K8 hK8 => ?_
    refine Wp_seq fun K9 hK9 => ?_
    refine Wp_region (Lmv rfl rfl rfl rfl rfl (Lmv rfl rfl rfl rfl rfl (Ls_y (wtd0 rfl) rfl rfl (y_lenl rfl rfl Tryd.underlying62) ?_)))
    refine Ls_y (wtd0 rfl) rfl rfl (y_sub (c := ((split_m s [47]).length : Int) - 1) rfl rfl rfl (wf_i64 (by first | omega | (simp; done) | (simp; omega)))) ?_
    obtain ⟨gi1, bi1, egi1⟩ := (st.k (i := 0) rfl).addr (fun _ => rfl) (by decide) (q := ((split_m s [47]).length : Int) - 1) (by first | omega | (simp; done) | (simp; omega)) (by first | omega | (simp; done) | (simp; omega))
    subst egi1
    refine Ls_y (wtd0 rfl) rfl rfl (y_ixa (q := ((split_m s [47]).length : Int) - 1) rfl rfl rfl Ty.es_62 (by first | omega | (simp; done) | (simp; omega)) (by first | omega | (simp; done) | (simp; omega))) ?_
    refine Ls_y (wtd0 rfl) rfl rfl (y_ldk1 (q := ((split_m s [47]).length : Int) - 1) 0 rfl rfl Ty.pl_9 (fun _ e => e ▸ st.k (i := 0) rfl) (fun _ => rfl) (by first | omega | (simp; done) | (simp; omega)) (by first | omega | (simp; done) | (simp; omega)) rfl) ?_
    refine Ls_y (wtd0 rfl) rfl rfl (y_ixs2 (q := 0) rfl rfl rfl Tryd.underlying9 (by first | omega | (simp; done) | (simp; omega)) (by first | omega | (simp; done) | (simp; omega))) ?_
    refine Ls_nil (Th_n (hK9 _ _ ?_))
    refine Wp_block (Wp_seq fun K10 hK10 => ?_)
    refine Wp_region (Ls_y (wtd0 rfl) rfl rfl (y_eq rfl rfl rfl) (Las rfl rfl rfl rfl rfl (Ls_nil (Th_n (hK10 _ _ ?_)))))
    refine Wp_cond rfl (fun hc2 => ?_) (fun hc2 => ?_)
    · have hc2 := eT hc2
      refine Wp_seq fun K11 hK11 => ?_
      refine Wp_region (Las rfl rfl rfl rfl rfl (Las rfl rfl rfl rfl rfl (Ls_nil (Th_n (hK11 _ _ ?_)))))
      refine Wp_ret (Ib_r (Th_r (Fq_ret (Res2 rfl rfl rfl) ?_)))
      have he2 : okey_m s = (1, 0) := by unfold okey_m; rewrite [if_neg hc1, hLk1]; (try dsimp only); all_goals rewrite [if_pos hc2]; all_goals rfl
      rewrite [he2]
      exact ⟨rfl, hF⟩
    have hc2 := eF hc2
    refine Wp_seq fun K12 hK12 => ?_
    refine Wp_region (Ls_y (wtd0 rfl) rfl rfl (y_eq rfl rfl rfl) (Las rfl rfl rfl rfl rfl (Ls_nil (Th_n (hK12 _ _ ?_)))))
    refine Wp_cond rfl (fun hc3 => ?_) (fun hc3 => ?_)
    · have hc3 := eT hc3
      refine Wp_seq fun K13 hK13 => ?_
      refine Wp_region (Las rfl rfl rfl rfl rfl (Las rfl rfl rfl rfl rfl (Ls_nil (Th_n (hK13 _ _ ?_)))))
      refine Wp_ret (Ib_r (Th_r (Fq_ret (Res2 rfl rfl rfl) ?_)))
      have he3 : okey_m s = (2, 0) := by unfold okey_m; rewrite [if_neg hc1, hLk1]; (try dsimp only); all_goals rewrite [if_neg hc2, if_pos hc3]; all_goals rfl
      rewrite [he3]
      exact ⟨rfl, hF⟩
    have hc3 := eF hc3
    refine Wp_seq fun K14 hK14 => ?_
    refine Wp_region (Ls_y (wtd0 rfl) rfl rfl (y_eq rfl rfl rfl) (Las rfl rfl rfl rfl rfl (Ls_nil (Th_n (hK14 _ _ ?_)))))
    refine Wp_cond rfl (fun hc4 => ?_) (fun hc4 => ?_)
    · have hc4 := eT hc4
      refine Wp_seq fun K15 hK15 => ?_
      refine Wp_region (Las rfl rfl rfl rfl rfl (Las rfl rfl rfl rfl rfl (Ls_nil (Th_n (hK15 _ _ ?_)))))
      refine Wp_ret (Ib_r (Th_r (Fq_ret (Res2 rfl rfl rfl) ?_)))
      have he4 : okey_m s = (3, 0) := by unfold okey_m; rewrite [if_neg hc1, hLk1]; (try dsimp only); all_goals rewrite [if_neg hc2, if_neg hc3, if_pos hc4]; all_goals rfl
      rewrite [he4]
      exact ⟨rfl, hF⟩
    have hc4 := eF hc4
    refine Wp_seq fun K16 hK16 => ?_
    refine Wp_region (Ls_y (wtd0 rfl) rfl rfl (y_eq rfl rfl rfl) (Las rfl rfl rfl rfl rfl (Ls_nil (Th_n (hK16 _ _ ?_)))))
    refine Wp_cond rfl (fun hc5 => ?_) (fun hc5 => ?_)
    · have hc5 := eT hc5
      refine Wp_seq fun K17 hK17 => ?_
      refine Wp_region (Las rfl rfl rfl rfl rfl (Las rfl rfl rfl rfl rfl (Ls_nil (Th_n (hK17 _ _ ?_)))))
      refine Wp_ret (Ib_r (Th_r (Fq_ret (Res2 rfl rfl rfl) ?_)))
      have he5 : okey_m s = (4, 0) := by unfold okey_m; rewrite [if_neg hc1, hLk1]; (try dsimp only); all_goals rewrite [if_neg hc2, if_neg hc3, if_neg hc4, if_pos hc5]; all_goals rfl
      rewrite [he5]
      exact ⟨rfl, hF⟩
    have hc5 := eF hc5
    refine Wp_skip (Ib_n (Th_n (hK8 _ _ ?_)))
    refine Wp_seq fun K18 hK18 => ?_
    refine Wp_region (Las rfl rfl rfl rfl rfl (Las rfl rfl rfl rfl rfl (Ls_nil (Th_n (hK18 _ _ ?_)))))
    refine Wp_ret (Fq_ret (Res2 rfl rfl rfl) ?_)
    have he6 : okey_m s = (0, 5) := by unfold okey_m; rewrite [if_neg hc1, hLk1]; (try dsimp only); all_goals rewrite [if_neg hc2, if_neg hc3, if_neg hc4, if_neg hc5]; all_goals rfl
    rewrite [he6]
    exact ⟨rfl, hF⟩
  refine Wp_loopE (fun m E W => ∃ (s14 : Int), E = [(4, .slice Ar1 ((split_m s [47]).length) cr1), (12, .slice Ar1 ((split_m s [47]).length) cr1), (13, .int .i64 ((split_m s [47]).length : Int)), (14, .int .i64 s14)] ∧ okey_L1 s m s14 = okey_L1 s ((((split_m s [47]).length : Int) - (0 : Int)).toNat + 1) (0 : Int) ∧ (((split_m s [47]).length : Int) - s14).toNat < m ∧ (0 ≤ s14) ∧ St X W [] [kS Ar1 (split_m s [47]).length cr1 1 ((split_m s [47]).flatMap (fun x => [sv x]))] ∧ Fr ([]) w W) ((((split_m s [47]).length : Int) - (0 : Int)).toNat + 1) [(4, _), (12, _), (13, _), (14, _)] ⟨rfl, rfl, rfl, rfl, trivial⟩ ?_ ?_
  · exact ⟨_, rfl, rfl, Nat.lt_succ_self _, by first | omega | (simp; done) | (simp; omega), st, hF⟩
  rintro m E w3 ⟨s14, rfl, hL1, hmu, hinv, st, hF⟩
  obtain ⟨fuel, rfl⟩ : ∃ q, m = q + 1 := ⟨m - 1, by omega⟩
  refine Wp_seq fun K19 hK19 => ?_
  refine Wp_region (Ls_y (wtd0 rfl) rfl rfl (y_lt rfl rfl rfl) (Ls_nil (Th_n (hK19 _ _ ?_))))
  refine Wp_seq fun K20 hK20 => ?_
  refine Wp_cond rfl (fun hc6 => ?_) (fun hc6 => ?_)
  · have hc6 := dT hc6
    refine Wp_skip (Th_n (hK20 _ _ ?_))
    refine Wp_seq fun K21 hK21 => ?_
    refine Wp_block (Wp_seq fun K22 hK22 => ?_)
    refine Wp_region ?_
    obtain ⟨gi2, bi2, egi2⟩ := (st.k (i := 0) rfl).addr (fun _ => rfl) (by decide) (q := s14) (by first | omega | (simp; done) | (simp; omega)) (by first | omega | (simp; done) | (simp; omega))
    subst egi2
    refine Ls_y (wtd0 rfl) rfl rfl (y_ixa (q := s14) rfl rfl rfl Ty.es_62 (by first | omega | (simp; done) | (simp; omega)) (by first | omega | (simp; done) | (simp; omega))) ?_
    refine Ls_y (wtd0 rfl) rfl rfl (y_ldk1 (q := s14) 0 rfl rfl Ty.pl_9 (fun _ e => e ▸ st.k (i := 0) rfl) (fun _ => rfl) (by first | omega | (simp; done) | (simp; omega)) (by first | omega | (simp; done) | (simp; omega)) rfl) ?_
    refine Las rfl rfl rfl rfl rfl (Ls_nil (Th_n (hK22 _ _ ?_)))
    refine Wp_seq fun K23 hK23 => ?_
    refine use_out hK23 (fun E W => E = [(4, .slice (some ⟨gi2, bi2, none⟩) ((split_m s [47]).length) cr1), (12, .slice (some ⟨gi2, bi2, none⟩) ((split_m s [47]).length) cr1), (13, .int .i64 ((split_m s [47]).length : Int)), (14, .int .i64 s14), (24, .bool (okey_c1 s s14))] ∧ St X W (hOf st) (kOf st) ∧ Fr ([]) w W) ?_ fun hout2 => ?_
    · rintro E w4 ⟨rfl, st, hF⟩
      have st : St X w4 [] [_] := st
      refine Wp_cond rfl (fun hc7 => ?_) (fun hc7 => ?_)
      · have jhc7 := (okey_c1_iff s s14).1 hc7
        refine Wp_seq fun K24 hK24 => ?_
        refine Wp_region (Las rfl rfl rfl rfl rfl (Las rfl rfl rfl rfl rfl (Ls_nil (Th_n (hK24 _ _ ?_)))))
        refine Wp_ret (Ib_r (Th_r (Th_r (Ib_r (Th_r (Fq_ret (Res2 rfl rfl rfl) ?_))))))
        have hret1 : okey_L1 s ((((split_m s [47]).length : Int) - (0 : Int)).toNat + 1) (0 : Int) = .inl (0, 3) := by rewrite [← hL1, okey_L1]; rewrite [if_pos hc6, if_pos hc7]; rfl
        have he7 : okey_m s = (0, 3) := by unfold okey_m; rewrite [if_neg hc1, hret1]; (try dsimp only); all_goals rfl
        rewrite [he7]
        exact ⟨rfl, hF⟩
      have jhc7 := mt (okey_c1_iff s s14).2 (bF hc7)
      have hc7 := bF hc7
      refine Wp_skip (Ib_n (Th_n (hK21 _ _ ?_)))
      refine Wp_region (Ls_y (wtd0 rfl) rfl rfl (y_add (c := s14 + 1) rfl rfl rfl (wf_i64 (by first | omega | (simp; done) | (simp; omega)))) ?_)
      refine Lmv rfl rfl rfl rfl rfl (Ls_nil (Th_n (?_)))
      have hE1 : okey_L1 s fuel (s14 + 1) = okey_L1 s ((((split_m s [47]).length : Int) - (0 : Int)).toNat + 1) (0 : Int) := by rewrite [← hL1, okey_L1]; rewrite [if_pos hc6, if_neg hc7]; rfl
      exact ⟨fuel, [(4, _), (12, _), (13, _), (14, _)], Nat.lt_succ_self _, ⟨rfl, rfl, rfl, rfl, trivial⟩, (s14 + 1), rfl, hE1, by first | omega | (simp; done) | (simp; omega), by first | omega | (simp; done) | (simp; omega), (st.picks [] (by decide)).pickK [0], hF⟩
    refine Wp_region (Lmv rfl rfl rfl rfl rfl (Ls_y (wtd0 rfl) rfl rfl (y_eqs rfl rfl rfl) ?_))
    refine Lmv rfl rfl rfl rfl rfl (Ls_bool 20 rfl (fun hc8 => ?_) (fun hc8 => ?_))
    · have hc8 := eT hc8
      refine Ls_s (wtdF rfl rfl rfl) rfl rfl (Ls_s (wtdF rfl rfl rfl) rfl rfl (Ls_s (wtdF rfl rfl rfl) rfl rfl (Ls_y (wtd0 rfl) rfl rfl (y_pick_t rfl rfl rfl) (Ls_nil (Th_n (?_))))))
      have hcj1 : okey_c1 s s14 = true := by unfold okey_c1; rewrite [if_pos hc8]; rfl
      exact hout2 _ [(4, _), (12, _), (13, _), (14, _), (24, _)] _ ⟨rfl, rfl, rfl, rfl, rfl, trivial⟩ ⟨by rw [hcj1], (st.picks [] (by decide)).pickK [0], hF⟩
    have hc8 := eF hc8
    refine Ls_y (wtdT rfl rfl rfl) rfl rfl (y_move rfl rfl) (Ls_a (wtdT rfl rfl rfl) ?_)
    refine a_call rfl rfl rfl rfl (idxKey_ok _ (ix (split_m s [47]) s14)) (fun v w5 ⟨hv, hf⟩ => ?_)
    subst hv
    have st := st.keep0 hf
    have hF := hF.step0 hf
    have st : St X w5 [] [_] := st
    refine Ls_y (wtdT rfl rfl rfl) rfl rfl (y_ge rfl rfl rfl) (Ls_y (wtd0 rfl) rfl rfl (y_pick_f rfl rfl rfl) (Ls_nil (Th_n (?_))))
    have hcj2 : okey_c1 s s14 = (decide (0 ≤ (idxKey_m (ix (split_m s [47]) s14)))) := by unfold okey_c1; rewrite [if_neg hc8]; rfl
    exact hout2 _ [(4, _), (12, _), (13, _), (14, _), (24, _)] _ ⟨rfl, rfl, rfl, rfl, rfl, trivial⟩ ⟨by rw [hcj2], (st.picks [] (by decide)).pickK [0], hF⟩
  have hc6 := dF hc6
  refine Wp_exit (Th_e (Th_e (Ib_hit (Th_n (?_)))))
  have hE2 : okey_L1 s ((((split_m s [47]).length : Int) - (0 : Int)).toNat + 1) (0 : Int) = .inr (s14) := by rewrite [← hL1, okey_L1]; rewrite [if_neg hc6]; rfl
  exact hout1 _ [(4, _), (12, _), (13, _), (14, _)] _ ⟨rfl, rfl, rfl, rfl, trivial⟩ ⟨s14, rfl, hE2, by first | omega | (simp; done) | (simp; omega), (st.picks [] (by decide)).pickK [0], hF⟩

end Go.Proofs.YtmajjdpioillaaaDoor

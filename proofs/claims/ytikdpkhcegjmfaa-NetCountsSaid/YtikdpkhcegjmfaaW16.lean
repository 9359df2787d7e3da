/- Walks printed by gen.py out of our own specifications: what the functions named below do. -/
import Derived.Test.YtikdpkhcegjmfaaW15
set_option linter.unusedSimpArgs false
set_option linter.unusedVariables false
namespace Go.Proofs.Ytikdpkhcegjmfaa
open Go.RowKit


theorem Rd.of_own {w : World} {H : Heap} {i l c : Nat} {A : Option Addr} {xs sp : List Value} {ty : Nat} (how : Ow A l c 1 xs sp) (hl : xs.length = l) (hp : Hp w H) (hi : H[i]? = some (blkOf A, Cl (xs ++ sp) ty)) : Rd w.heap.size w A xs := fun j v hj => by
  have hlt : j < xs.length := (List.getElem?_eq_some_iff.1 hj).1
  obtain ⟨g, rfl⟩ := how.some_ (by omega)
  refine ⟨g, 0, rfl, hp.lt hi, ?_⟩
  rw [Nat.zero_add]
  exact cell_of hp hi (by rw [List.getElem?_append_left hlt]; exact hj)
theorem take_one_more {α : Type} {xs ys : List α} {k : Nat} (h : xs.take k = ys.take k) (h1 : k < xs.length) (h2 : k < ys.length) (h3 : xs[k] = ys[k]) : xs.take (k + 1) = ys.take (k + 1) := by
  rw [List.take_succ_eq_append_getElem h1, List.take_succ_eq_append_getElem h2, h, h3]

set_option maxRecDepth 20000 in
theorem same01_ok (xs ys : List Int) (A B : Option Addr) (ca cb N : Nat) (w : World) (hN : N ≤ w.heap.size) (ha : Rd N w A (xs.map intV)) (hb : Rd N w B (ys.map intV)) (hx : xs.length ≤ 9223372036854775806) :
    Fn Try.prog 85 [.slice A xs.length ca, .slice B ys.length cb] w fun v w' => v = .bool (decide (xs = ys)) ∧ Fr [] w w' := by
  refine Fn_of 26 Ty.en_85 Try.func85 rfl rfl rfl ?_
  dsimp only [argEnv]
  have hp := Hp.nil w
  have hF := Fr.refl [] w
  refine Wp_seq fun K1 hK1 => ?_
  refine Wp_region ?_
  refine Ls_y (wtd0 rfl) rfl rfl (y_assign rfl rfl) ?_
  refine Ls_nil (Th_n (hK1 _ _ ?_))
  refine Wp_seq fun K2 hK2 => ?_
  refine Wp_seq fun K3 hK3 => ?_
  refine Wp_region ?_
  refine Ls_y (wtd0 rfl) rfl rfl (y_move rfl rfl) ?_
  refine Ls_y (wtd0 rfl) rfl rfl (y_lenl rfl rfl Try.underlying73) ?_
  refine Ls_y (wtd0 rfl) rfl rfl (y_move rfl rfl) ?_
  refine Ls_y (wtd0 rfl) rfl rfl (y_lenl rfl rfl Try.underlying73) ?_
  refine Ls_y (wtd0 rfl) rfl rfl (y_ne rfl rfl rfl) ?_
  refine Ls_bool 10 rfl (fun hne => ?_) (fun hne => ?_)
  all_goals try simp only [decide_eq_true_eq, decide_eq_false_iff_not, beq_iff_eq, bne_iff_ne, ne_eq, beq_eq_false_iff_ne, bne_eq_false_iff_eq, Bool.not_eq_true, Bool.not_eq_false] at hne
  · refine Ls_nil (Th_n (hK3 _ _ ?_))
    refine Wp_cond_t rfl ?_
    refine Wp_seq fun K4 hK4 => ?_
    refine Wp_region ?_
    refine Ls_y (wtd0 rfl) rfl rfl (y_assign rfl rfl) ?_
    refine Ls_nil (Th_n (hK4 _ _ ?_))
    refine Wp_ret (Th_r (Fq_ret (Res1 rfl rfl) ?_))
    refine ⟨?_, hF⟩
    rw [decide_eq_false]
    intro e
    subst e
    exact hne rfl
  · refine Ls_nil (Th_n (hK3 _ _ ?_))
    have hle : xs.length = ys.length := by omega
    refine Wp_cond_f rfl ?_
    refine Wp_skip (Th_n (hK2 _ _ ?_))
    refine Wp_seq fun K5 hK5 => ?_
    refine Wp_seq fun K6 hK6 => ?_
    refine Wp_region ?_
    refine Ls_y (wtd0 rfl) rfl rfl (y_assign rfl rfl) ?_
    refine Ls_nil (Th_n (hK6 _ _ ?_))
    refine Wp_block ?_
    refine Wp_loopE (fun m e W => ∃ k : Nat, k ≤ xs.length ∧ m = xs.length - k ∧ e = [(0, .slice A xs.length ca), (1, .slice B ys.length cb), (5, .int .i64 (k : Int))] ∧ xs.take k = ys.take k ∧ Fr [] w W) (xs.length) [(0, _), (1, _), (5, _)] ⟨rfl, rfl, rfl, trivial⟩ ?_ ?_
    · exact ⟨0, by omega, by omega, rfl, rfl, hF⟩
    rintro m e W ⟨k, hk, rfl, rfl, htk, hF⟩
    have hp := Hp.nil W
    refine Wp_seq fun K8 hK8 => ?_
    refine Wp_seq fun K9 hK9 => ?_
    refine Wp_region ?_
    refine Ls_y (wtd0 rfl) rfl rfl (y_move rfl rfl) ?_
    refine Ls_y (wtd0 rfl) rfl rfl (y_move rfl rfl) ?_
    refine Ls_y (wtd0 rfl) rfl rfl (y_lenl rfl rfl Try.underlying73) ?_
    refine Ls_y (wtd0 rfl) rfl rfl (y_lt rfl rfl rfl) ?_
    refine Ls_bool 14 rfl (fun hlt => ?_) (fun hlt => ?_)
    all_goals try simp only [decide_eq_true_eq, decide_eq_false_iff_not, beq_iff_eq, bne_iff_ne, ne_eq, beq_eq_false_iff_ne, bne_eq_false_iff_eq, Bool.not_eq_true, Bool.not_eq_false] at hlt
    · refine Ls_nil (Th_n (hK9 _ _ ?_))
      have h1 : k < xs.length := by omega
      have h2 : k < ys.length := by omega
      obtain ⟨g1, b1, rfl, hg1, c1⟩ := (ha.keep hF hN (by simp)) k (intV xs[k]) (by rw [List.getElem?_map, List.getElem?_eq_getElem h1]; rfl)
      obtain ⟨g2, b2, rfl, hg2, c2⟩ := (hb.keep hF hN (by simp)) k (intV ys[k]) (by rw [List.getElem?_map, List.getElem?_eq_getElem h2]; rfl)
      have c1 : W.cell? ⟨g1, b1 + k * 1, none⟩ = some (intV xs[k]) := by rw [Nat.mul_one]; exact c1
      have c2 : W.cell? ⟨g2, b2 + k * 1, none⟩ = some (intV ys[k]) := by rw [Nat.mul_one]; exact c2
      refine Wp_cond_t rfl ?_
      refine Wp_skip (Th_n (hK8 _ _ ?_))
      refine Wp_seq fun K10 hK10 => ?_
      refine Wp_block ?_
      refine Wp_seq fun K11 hK11 => ?_
      refine Wp_plan (fun W => W.cell? ⟨g1, b1 + k * 1, none⟩ = some (intV xs[k]) ∧ W.cell? ⟨g2, b2 + k * 1, none⟩ = some (intV ys[k])) [(true, 0), (true, 1), (true, 2), (true, 3), (true, 4), (true, 5), (true, 6), (true, 7), (true, 8)] Ty.mx_0 (by kernel_rfl) (by kernel_rfl) rfl (⟨c1, c2⟩) ?_
      have hp := hp.drew
      have hF := hF.step0 (Fr.drew _)
      refine Pl_y rfl (wtd0 rfl) rfl rfl (y_move rfl rfl) ?_
      refine Pl_y rfl (wtd0 rfl) rfl rfl (y_move rfl rfl) ?_
      first
        | refine Pl_y rfl (wtd0 rfl) rfl rfl (y_ixaN rfl rfl rfl Ty.es_73 (by omega)) ?_
        | refine Pl_y rfl (wtd0 rfl) rfl rfl (y_ixa rfl rfl rfl Ty.es_73 (by omega) (by omega)) ?_
      refine Pl_y rfl (wtd0 rfl) rfl rfl (y_loadc rfl rfl Ty.pl_3 (fun _ h => h.1)) ?_
      refine Pl_y rfl (wtd0 rfl) rfl rfl (y_move rfl rfl) ?_
      refine Pl_y rfl (wtd0 rfl) rfl rfl (y_move rfl rfl) ?_
      first
        | refine Pl_y rfl (wtd0 rfl) rfl rfl (y_ixaN rfl rfl rfl Ty.es_73 (by omega)) ?_
        | refine Pl_y rfl (wtd0 rfl) rfl rfl (y_ixa rfl rfl rfl Ty.es_73 (by omega) (by omega)) ?_
      refine Pl_y rfl (wtd0 rfl) rfl rfl (y_loadc rfl rfl Ty.pl_3 (fun _ h => h.2)) ?_
      refine Pl_y rfl (wtd0 rfl) rfl rfl (y_ne rfl rfl rfl) ?_
      refine Pl_bool 25 rfl (fun hd => ?_) (fun hd => ?_)
      all_goals try simp only [decide_eq_true_eq, decide_eq_false_iff_not, beq_iff_eq, bne_iff_ne, ne_eq, beq_eq_false_iff_ne, bne_eq_false_iff_eq, Bool.not_eq_true, Bool.not_eq_false] at hd
      · refine Pl_nil (Th_n (hK11 _ _ ?_))
        refine Wp_cond_t rfl ?_
        refine Wp_seq fun K12 hK12 => ?_
        refine Wp_region ?_
        refine Ls_y (wtd0 rfl) rfl rfl (y_assign rfl rfl) ?_
        refine Ls_nil (Th_n (hK12 _ _ ?_))
        refine Wp_ret (Ib_r (Th_r (Th_r (Ib_r (Th_r (Fq_ret (Res1 rfl rfl) ?_))))))
        refine ⟨?_, hF⟩
        rw [decide_eq_false]
        intro e
        subst e
        exact hd rfl
      · refine Pl_nil (Th_n (hK11 _ _ ?_))
        refine Wp_cond_f rfl ?_
        refine Wp_skip (Ib_n (Th_n (hK10 _ _ ?_)))
        refine Wp_region ?_
        refine Ls_y (wtd0 rfl) rfl rfl (y_move rfl rfl) ?_
        first
          | refine Ls_y (wtd0 rfl) rfl rfl (y_add rfl rfl rfl (w_succ (by omega))) ?_
          | refine Ls_y (wtd0 rfl) rfl rfl (y_add rfl rfl rfl (wf_i64 (by omega))) ?_
          | refine Ls_y (wtd0 rfl) rfl rfl (y_add rfl rfl rfl rfl) ?_
        refine Ls_y (wtd0 rfl) rfl rfl (y_assign rfl rfl) ?_
        refine Ls_nil (Th_n (?_))
        exact ⟨xs.length - (k + 1), [(0, _), (1, _), (5, _)], by omega, ⟨rfl, rfl, rfl, trivial⟩, k + 1, by omega, rfl, rfl, take_one_more htk h1 h2 (by simpa using hd), hF⟩
    · refine Ls_nil (Th_n (hK9 _ _ ?_))
      refine Wp_cond_f rfl ?_
      refine Wp_exit (Th_e (Th_e (Ib_hit (Th_n (hK5 _ _ ?_)))))
      refine Wp_seq fun K13 hK13 => ?_
      refine Wp_region ?_
      refine Ls_y (wtd0 rfl) rfl rfl (y_assign rfl rfl) ?_
      refine Ls_nil (Th_n (hK13 _ _ ?_))
      refine Wp_ret (Fq_ret (Res1 rfl rfl) ?_)
      obtain rfl : k = xs.length := by omega
      rw [List.take_length, hle, List.take_length] at htk
      exact ⟨by simp [htk], hF⟩


theorem nat_int (xs : List Nat) : xs.map natV = (xs.map Int.ofNat).map intV := by rw [List.map_map]; rfl
theorem same01_nat (xs ys : List Nat) (A B : Option Addr) (ca cb N : Nat) (w : World) (hN : N ≤ w.heap.size) (ha : Rd N w A (xs.map natV)) (hb : Rd N w B (ys.map natV)) (hx : xs.length ≤ 9223372036854775806) (he : xs = ys) :
    Fn Try.prog 85 [.slice A xs.length ca, .slice B ys.length cb] w fun v w' => v = .bool true ∧ Fr [] w w' := by
  subst he
  rw [nat_int] at ha hb
  have h := same01_ok (xs.map Int.ofNat) (xs.map Int.ofNat) A B ca cb N w hN ha hb (by simpa using hx)
  simp only [List.length_map, decide_true] at h
  exact h
theorem RelD.eq {D R : Dk} (h : RelD D R) : R = { D with left := R.left } := by
  cases R
  obtain ⟨h1, h2, h3, h4, _⟩ := h
  simp only at h1 h2 h3 h4
  subst h1 h2 h3 h4
  rfl

set_option maxRecDepth 20000 in
set_option maxHeartbeats 800000 in
theorem lsame_ok (p q : Dp) (D : Dk) (rl : Int) (w : World) (hp : Hp w (dkH p D ++ rkH q { D with left := rl })) (hD : DkOk D) (hR : DkOk { D with left := rl }) :
    Fn Try.prog 44 [.pointer (some ⟨p.gd, 0, none⟩), .pointer (some ⟨q.gd, 0, none⟩)] w fun v w' => v = .bool true ∧ Fr [] w w' := by
  refine Fn_of 64 Ty.en_44 Try.func44 rfl rfl rfl ?_
  dsimp only [argEnv]
  have hp : Hp w [(_, Cl [_, _, _, _, _] _), _, _, (_, Cl [_, _, _, _, _] _), _, _] := hp
  have hF := Fr.refl [] w
  refine Wp_seq fun K1 hK1 => ?_
  refine Wp_region ?_
  refine Ls_y (wtd0 rfl) rfl rfl (y_assign rfl rfl) ?_
  refine Ls_nil (Th_n (hK1 _ _ ?_))
  refine Wp_seq fun K2 hK2 => ?_
  refine Wp_seq fun K3 hK3 => ?_
  refine Wp_plan (fun W => Hp W (pickL (heapOf hp) [0, 1, 2, 3, 4, 5])) [(true, 0), (true, 2), (true, 3), (true, 4), (true, 5), (true, 6), (false, 1), (true, 7), (true, 8), (true, 9), (true, 11), (true, 12), (true, 13), (true, 14), (false, 10), (true, 15), (true, 16), (true, 17), (true, 18), (true, 20), (false, 19), (false, 21), (false, 22), (true, 23), (true, 24)] Ty.mx_0 (by kernel_rfl) (by kernel_rfl) rfl ((hp.picks [0, 1, 2, 3, 4, 5] (by decide)).drew) ?_
  have hp := hp.drew
  have hF := hF.step0 (Fr.drew _)
  refine Pl_y rfl (wtd0 rfl) rfl rfl (y_move rfl rfl) ?_
  refine Pl_y rfl (wtd0 rfl) rfl rfl (y_move rfl rfl) ?_
  refine Pl_y rfl (wtd0 rfl) rfl rfl (y_nil rfl rfl) ?_
  refine Pl_y rfl (wtd0 rfl) rfl rfl (y_fld rfl rfl Ty.fo_126_0) ?_
  first
    | refine Pl_y rfl (wtd0 rfl) rfl rfl (y_load (i := 0) rfl rfl Ty.pl_89 (fun _ h => h) rfl rfl) ?_
    | refine Pl_y rfl (wtd0 rfl) rfl rfl (y_load (i := 1) rfl rfl Ty.pl_89 (fun _ h => h) rfl rfl) ?_
    | refine Pl_y rfl (wtd0 rfl) rfl rfl (y_load (i := 2) rfl rfl Ty.pl_89 (fun _ h => h) rfl rfl) ?_
    | refine Pl_y rfl (wtd0 rfl) rfl rfl (y_load (i := 3) rfl rfl Ty.pl_89 (fun _ h => h) rfl rfl) ?_
    | refine Pl_y rfl (wtd0 rfl) rfl rfl (y_load (i := 4) rfl rfl Ty.pl_89 (fun _ h => h) rfl rfl) ?_
    | refine Pl_y rfl (wtd0 rfl) rfl rfl (y_load (i := 5) rfl rfl Ty.pl_89 (fun _ h => h) rfl rfl) ?_
  refine Pl_y rfl (wtd0 rfl) rfl rfl (y_lenl rfl rfl Try.underlying89) ?_
  refine Pl_a rfl (wtd0 rfl) (by rfl) ?_
  refine a_call rfl rfl rfl rfl (dlen_ok p D _ (hp.picks [0, 1, 2] (by decide))) (fun v w1 ⟨hv, hw⟩ => ?_)
  subst hv
  subst hw
  refine ⟨hp.picks [0, 1, 2, 3, 4, 5] (by decide), ?_⟩
  refine Pl_y rfl (wtd0 rfl) rfl rfl (y_ne rfl rfl rfl) ?_
  refine Pl_bool 17 rfl (fun hc2 => absurd hc2 (by simp)) (fun _ => ?_)
  refine Pl_y rfl (wtd0 rfl) rfl rfl (y_move rfl rfl) ?_
  refine Pl_y rfl (wtdT rfl rfl rfl) rfl rfl (y_move rfl rfl) ?_
  refine Pl_y rfl (wtdT rfl rfl rfl) rfl rfl (y_move rfl rfl) ?_
  refine Pl_y rfl (wtdT rfl rfl rfl) rfl rfl (y_nil rfl rfl) ?_
  refine Pl_y rfl (wtdT rfl rfl rfl) rfl rfl (y_fld rfl rfl Ty.fo_126_4) ?_
  first
    | refine Pl_y rfl (wtdT rfl rfl rfl) rfl rfl (y_load (i := 0) rfl rfl Ty.pl_4 (fun _ h => h) rfl rfl) ?_
    | refine Pl_y rfl (wtdT rfl rfl rfl) rfl rfl (y_load (i := 1) rfl rfl Ty.pl_4 (fun _ h => h) rfl rfl) ?_
    | refine Pl_y rfl (wtdT rfl rfl rfl) rfl rfl (y_load (i := 2) rfl rfl Ty.pl_4 (fun _ h => h) rfl rfl) ?_
    | refine Pl_y rfl (wtdT rfl rfl rfl) rfl rfl (y_load (i := 3) rfl rfl Ty.pl_4 (fun _ h => h) rfl rfl) ?_
    | refine Pl_y rfl (wtdT rfl rfl rfl) rfl rfl (y_load (i := 4) rfl rfl Ty.pl_4 (fun _ h => h) rfl rfl) ?_
    | refine Pl_y rfl (wtdT rfl rfl rfl) rfl rfl (y_load (i := 5) rfl rfl Ty.pl_4 (fun _ h => h) rfl rfl) ?_
  refine Pl_a rfl (wtdT rfl rfl rfl) (by rfl) ?_
  refine a_call rfl rfl rfl rfl (ddown_ok p D _ (hp.picks [0, 1, 2] (by decide))) (fun v w1 ⟨hv, hw⟩ => ?_)
  subst hv
  subst hw
  refine ⟨hp.picks [0, 1, 2, 3, 4, 5] (by decide), ?_⟩
  refine Pl_y rfl (wtdT rfl rfl rfl) rfl rfl (y_neb rfl rfl rfl Try.underlying4) ?_
  refine Pl_bool 25 rfl (fun hc3 => absurd hc3 (by simp)) (fun _ => ?_)
  refine Pl_y rfl (wtd0 rfl) rfl rfl (y_pick_f rfl rfl rfl) ?_
  refine Pl_y rfl (wtd0 rfl) rfl rfl (y_move rfl rfl) ?_
  refine Pl_y rfl (wtdT rfl rfl rfl) rfl rfl (y_move rfl rfl) ?_
  refine Pl_y rfl (wtdT rfl rfl rfl) rfl rfl (y_move rfl rfl) ?_
  refine Pl_a rfl (wtdT rfl rfl rfl) (by rfl) ?_
  refine a_call rfl rfl rfl rfl (ddirty_ok p D _ (hp.picks [0, 1, 2] (by decide)) hD) (fun v w1 ⟨A1, c1, sp1, hv, how1, hN1⟩ => ?_)
  subst hv
  have hp : Hp w1 [(_, Cl [_, _, _, _, _] _), _, _, (_, Cl [_, _, _, _, _] _), _, _, _] := hp.add hN1
  have hF := hF.step0 hN1.fr
  refine ⟨hp.picks [0, 1, 2, 3, 4, 5] (by decide), ?_⟩
  refine Pl_a rfl (wtdT rfl rfl rfl) (by rfl) ?_
  refine a_call rfl rfl rfl rfl (rdirty_ok q { D with left := rl } _ (hp.picks [3, 4, 5] (by decide)) hR) (fun v w2 ⟨A2, c2, sp2, hv, how2, hN2⟩ => ?_)
  subst hv
  have hp : Hp w2 [(_, Cl [_, _, _, _, _] _), _, _, (_, Cl [_, _, _, _, _] _), _, _, _, _] := hp.add hN2
  have hF := hF.step0 hN2.fr
  refine ⟨hp.picks [0, 1, 2, 3, 4, 5] (by decide), ?_⟩
  refine Pl_a rfl (wtdT rfl rfl rfl) (by rfl) ?_
  refine a_call rfl rfl rfl rfl (same01_nat _ _ _ _ _ _ _ _ (Nat.le_refl _) (Rd.of_own (i := 6) how1 (by simp) hp rfl) (Rd.of_own (i := 7) how2 (by simp) hp rfl) (by have h1 := dirtyTo_le D D.now.length; rw [dirtyTo_all] at h1; have := hD.most; omega) rfl) (fun v w3 ⟨hv, hf⟩ => ?_)
  subst hv
  have hp := hp.keep0 hf
  have hF := hF.step0 hf
  refine ⟨hp.picks [0, 1, 2, 3, 4, 5] (by decide), ?_⟩
  have hp : Hp _ [(_, Cl [_, _, _, _, _] _), _, _, (_, Cl [_, _, _, _, _] _), _, _] := hp.picks [0, 1, 2, 3, 4, 5] (by decide)
  refine Pl_y rfl (wtdT rfl rfl rfl) rfl rfl (y_not rfl rfl) ?_
  refine Pl_y rfl (wtd0 rfl) rfl rfl (y_pick_f rfl rfl rfl) ?_
  refine Pl_nil (Th_n (hK3 _ _ ?_))
  refine Wp_cond_f rfl ?_
  refine Wp_skip (Th_n (hK2 _ _ ?_))
  refine Wp_seq fun K4 hK4 => ?_
  refine Wp_seq fun K5 hK5 => ?_
  refine Wp_region ?_
  refine Ls_y (wtd0 rfl) rfl rfl (y_assign rfl rfl) ?_
  refine Ls_nil (Th_n (hK5 _ _ ?_))
  refine Wp_block ?_
  refine Wp_loopE (fun m e W => ∃ k : Nat, k ≤ D.now.length + 2 ∧ m = D.now.length + 2 - k ∧ e = [(0, .pointer (some ⟨p.gd, 0, none⟩)), (1, .pointer (some ⟨q.gd, 0, none⟩)), (5, .int .i64 ((k : Int) - 1))] ∧ Hp W (dkH p D ++ rkH q { D with left := rl }) ∧ Fr [] w W) (D.now.length + 2) [(0, _), (1, _), (5, _)] ⟨rfl, rfl, rfl, trivial⟩ ?_ ?_
  · exact ⟨0, by omega, by omega, rfl, hp, hF⟩
  rintro m e W ⟨k, hk, rfl, rfl, hp, hF⟩
  have hmost := hD.most
  have hp : Hp W [(_, Cl [_, _, _, _, _] _), _, _, (_, Cl [_, _, _, _, _] _), _, _] := hp
  refine Wp_seq fun K7 hK7 => ?_
  refine Wp_seq fun K8 hK8 => ?_
  refine Wp_region ?_
  refine Ls_y (wtd0 rfl) rfl rfl (y_move rfl rfl) ?_
  refine Ls_y (wtd0 rfl) rfl rfl (y_move rfl rfl) ?_
  refine Ls_y (wtd0 rfl) rfl rfl (y_nil rfl rfl) ?_
  refine Ls_y (wtd0 rfl) rfl rfl (y_fld rfl rfl Ty.fo_126_0) ?_
  first
    | refine Ls_y (wtd0 rfl) rfl rfl (y_load (i := 0) rfl rfl Ty.pl_89 (fun _ e => e ▸ hp) rfl rfl) ?_
    | refine Ls_y (wtd0 rfl) rfl rfl (y_load (i := 1) rfl rfl Ty.pl_89 (fun _ e => e ▸ hp) rfl rfl) ?_
    | refine Ls_y (wtd0 rfl) rfl rfl (y_load (i := 2) rfl rfl Ty.pl_89 (fun _ e => e ▸ hp) rfl rfl) ?_
    | refine Ls_y (wtd0 rfl) rfl rfl (y_load (i := 3) rfl rfl Ty.pl_89 (fun _ e => e ▸ hp) rfl rfl) ?_
    | refine Ls_y (wtd0 rfl) rfl rfl (y_load (i := 4) rfl rfl Ty.pl_89 (fun _ e => e ▸ hp) rfl rfl) ?_
    | refine Ls_y (wtd0 rfl) rfl rfl (y_load (i := 5) rfl rfl Ty.pl_89 (fun _ e => e ▸ hp) rfl rfl) ?_
  refine Ls_y (wtd0 rfl) rfl rfl (y_lenl rfl rfl Try.underlying89) ?_
  refine Ls_y (wtd0 rfl) rfl rfl (y_le rfl rfl rfl) ?_
  refine Ls_bool 41 rfl (fun hlt => ?_) (fun hlt => ?_)
  all_goals try simp only [decide_eq_true_eq, decide_eq_false_iff_not, beq_iff_eq, bne_iff_ne, ne_eq, beq_eq_false_iff_ne, bne_eq_false_iff_eq, Bool.not_eq_true, Bool.not_eq_false] at hlt
  · refine Ls_nil (Th_n (hK8 _ _ ?_))
    refine Wp_cond_t rfl ?_
    refine Wp_skip (Th_n (hK7 _ _ ?_))
    refine Wp_seq fun K9 hK9 => ?_
    refine Wp_block ?_
    refine Wp_seq fun K10 hK10 => ?_
    refine Wp_region ?_
    refine Ls_y (wtd0 rfl) rfl rfl (y_move rfl rfl) ?_
    refine Ls_y (wtd0 rfl) rfl rfl (y_move rfl rfl) ?_
    refine Ls_a (wtd0 rfl) ?_
    refine a_call rfl rfl rfl rfl (dread_ok p D _ (hp.picks [0, 1, 2] (by decide)) hD _) (fun v w4 ⟨hv, hw⟩ => ?_)
    subst hv
    subst hw
    refine Ls_y (wtd0 rfl) rfl rfl (y_move rfl rfl) ?_
    refine Ls_y (wtd0 rfl) rfl rfl (y_ext rfl rfl rfl) ?_
    refine Ls_y (wtd0 rfl) rfl rfl (y_ext rfl rfl rfl) ?_
    refine Ls_y (wtd0 rfl) rfl rfl (y_assign rfl rfl) ?_
    refine Ls_y (wtd0 rfl) rfl rfl (y_assign rfl rfl) ?_
    refine Ls_nil (Th_n (hK10 _ _ ?_))
    refine Wp_seq fun K11 hK11 => ?_
    refine Wp_region ?_
    refine Ls_y (wtd0 rfl) rfl rfl (y_move rfl rfl) ?_
    refine Ls_y (wtd0 rfl) rfl rfl (y_move rfl rfl) ?_
    refine Ls_a (wtd0 rfl) ?_
    refine a_call rfl rfl rfl rfl (rread_ok q { D with left := rl } _ (hp.picks [3, 4, 5] (by decide)) hR _) (fun v w4 ⟨hv, hw⟩ => ?_)
    subst hv
    subst hw
    refine Ls_y (wtd0 rfl) rfl rfl (y_move rfl rfl) ?_
    refine Ls_y (wtd0 rfl) rfl rfl (y_ext rfl rfl rfl) ?_
    refine Ls_y (wtd0 rfl) rfl rfl (y_ext rfl rfl rfl) ?_
    refine Ls_y (wtd0 rfl) rfl rfl (y_assign rfl rfl) ?_
    refine Ls_y (wtd0 rfl) rfl rfl (y_assign rfl rfl) ?_
    refine Ls_nil (Th_n (hK11 _ _ ?_))
    refine Wp_seq fun K12 hK12 => ?_
    refine Wp_region ?_
    refine Ls_y (wtd0 rfl) rfl rfl (y_move rfl rfl) ?_
    refine Ls_y (wtd0 rfl) rfl rfl (y_move rfl rfl) ?_
    refine Ls_y (wtd0 rfl) rfl rfl (y_nes rfl rfl rfl) ?_
    refine Ls_bool 58 rfl (fun hc5 => absurd hc5 (by simp [readS, chkD])) (fun _ => ?_)
    refine Ls_y (wtd0 rfl) rfl rfl (y_move rfl rfl) ?_
    refine Ls_y (wtdT rfl rfl rfl) rfl rfl (y_move rfl rfl) ?_
    refine Ls_y (wtdT rfl rfl rfl) rfl rfl (y_move rfl rfl) ?_
    refine Ls_y (wtdT rfl rfl rfl) rfl rfl (y_ne rfl rfl rfl) ?_
    refine Ls_bool 62 rfl (fun hc6 => absurd hc6 (by simp [readE, chkD])) (fun _ => ?_)
    refine Ls_y (wtd0 rfl) rfl rfl (y_pick_f rfl rfl rfl) ?_
    refine Ls_nil (Th_n (hK12 _ _ ?_))
    refine Wp_cond_f rfl ?_
    refine Wp_skip (Ib_n (Th_n (hK9 _ _ ?_)))
    refine Wp_region ?_
    refine Ls_y (wtd0 rfl) rfl rfl (y_move rfl rfl) ?_
    first
      | refine Ls_y (wtd0 rfl) rfl rfl (y_add rfl rfl rfl (w_succ (by omega))) ?_
      | refine Ls_y (wtd0 rfl) rfl rfl (y_add rfl rfl rfl (wf_i64 (by omega))) ?_
      | refine Ls_y (wtd0 rfl) rfl rfl (y_add rfl rfl rfl rfl) ?_
    refine Ls_y (wtd0 rfl) rfl rfl (y_assign rfl rfl) ?_
    refine Ls_nil (Th_n (?_))
    exact ⟨D.now.length + 2 - (k + 1), [(0, _), (1, _), (5, .int .i64 (((k + 1 : Nat) : Int) - 1))], by omega, ⟨rfl, rfl, by rw [show (((k + 1 : Nat) : Int) - 1) = (k : Int) - 1 + 1 by omega]; rfl, trivial⟩, k + 1, by omega, rfl, rfl, hp, hF⟩
  · refine Ls_nil (Th_n (hK8 _ _ ?_))
    refine Wp_cond_f rfl ?_
    refine Wp_exit (Th_e (Th_e (Ib_hit (Th_n (hK4 _ _ ?_)))))
    refine Wp_seq fun K13 hK13 => ?_
    refine Wp_region ?_
    refine Ls_y (wtd0 rfl) rfl rfl (y_assign rfl rfl) ?_
    refine Ls_nil (Th_n (hK13 _ _ ?_))
    refine Wp_ret (Fq_ret (Res1 rfl rfl) ?_)
    exact ⟨rfl, hF⟩

set_option maxRecDepth 20000 in
theorem great_ok (kd ii cg cq cf : Int) (s cd : List UInt8) (K : Option Addr) (kl kc : Nat) (w : World) (hkl : kl ≤ 9223372036854775807) (hs : s.length ≤ 9223372036854775807) (hcd : cd.length ≤ 9223372036854775807) :
    Fn Try.prog 38 [.agg #[.int .i64 kd, .int .i64 ii, sv s, .int .u16 cg, .int .u32 cq, .int .u8 cf, sv cd, .slice K kl kc]] w fun v w' => v = .bool (decide (200 < s.length ∨ 100 < kl ∨ 200 < cd.length)) ∧ Fr [] w w' := by
  refine Fn_of 20 Ty.en_38 Try.func38 rfl rfl rfl ?_
  dsimp only [argEnv]
  have hp := Hp.nil w
  have hF := Fr.refl [] w
  refine Wp_seq fun K1 hK1 => ?_
  refine Wp_region ?_
  refine Ls_a (wtd0 rfl) ?_
  refine a_box rfl rfl rfl rfl hp (fun g1 w1 (hp : Hp w1 [(_, Cl [_, _, _, _, _, _, _, _] _)]) hf hg1 => ?_)
  have hg1 := Nat.le_trans hF.size hg1
  have hF := hF.step0 hf
  refine Ls_y (wtd0 rfl) rfl rfl (y_assign rfl rfl) ?_
  refine Ls_nil (Th_n (hK1 _ _ ?_))
  refine Wp_seq fun K2 hK2 => ?_
  refine Wp_region ?_
  refine Ls_y (wtd0 rfl) rfl rfl (y_fld rfl rfl Ty.fo_75_2) ?_
  refine Ls_y (wtd0 rfl) rfl rfl (y_load (i := 0) rfl rfl Ty.pl_9 (fun _ e => e ▸ hp) rfl rfl) ?_
  refine Ls_y (wtd0 rfl) rfl rfl (y_lens rfl rfl Try.underlying9) ?_
  refine Ls_y (wtd0 rfl) rfl rfl (y_gt rfl rfl rfl) ?_
  refine Ls_bool 6 rfl (fun hc1 => ?_) (fun hc1 => ?_)
  all_goals try simp only [decide_eq_true_eq, decide_eq_false_iff_not, beq_iff_eq, bne_iff_ne, ne_eq, beq_eq_false_iff_ne, bne_eq_false_iff_eq, Bool.not_eq_true, Bool.not_eq_false] at hc1
  · refine Ls_y (wtd0 rfl) rfl rfl (y_move rfl rfl) ?_
    refine Ls_s (wtdF rfl rfl rfl) rfl rfl ?_
    refine Ls_s (wtdF rfl rfl rfl) rfl rfl ?_
    refine Ls_s (wtdF rfl rfl rfl) rfl rfl ?_
    refine Ls_s (wtdF rfl rfl rfl) rfl rfl ?_
    refine Ls_y (wtd0 rfl) rfl rfl (y_pick_t rfl rfl rfl) ?_
    refine Ls_y (wtd0 rfl) rfl rfl (y_move rfl rfl) ?_
    refine Ls_s (wtdF rfl rfl rfl) rfl rfl ?_
    refine Ls_s (wtdF rfl rfl rfl) rfl rfl ?_
    refine Ls_s (wtdF rfl rfl rfl) rfl rfl ?_
    refine Ls_s (wtdF rfl rfl rfl) rfl rfl ?_
    refine Ls_s (wtdF rfl rfl rfl) rfl rfl ?_
    refine Ls_y (wtd0 rfl) rfl rfl (y_pick_t rfl rfl rfl) ?_
    refine Ls_y (wtd0 rfl) rfl rfl (y_assign rfl rfl) ?_
    refine Ls_nil (Th_n (hK2 _ _ ?_))
    refine Wp_ret (Fq_ret (Res1 rfl rfl) ?_)
    exact ⟨by simp; omega, hF⟩
  · refine Ls_y (wtd0 rfl) rfl rfl (y_move rfl rfl) ?_
    refine Ls_y (wtdT rfl rfl rfl) rfl rfl (y_fld rfl rfl Ty.fo_75_4) ?_
    refine Ls_y (wtdT rfl rfl rfl) rfl rfl (y_load (i := 0) rfl rfl Ty.pl_73 (fun _ e => e ▸ hp) rfl rfl) ?_
    refine Ls_y (wtdT rfl rfl rfl) rfl rfl (y_lenl rfl rfl Try.underlying73) ?_
    refine Ls_y (wtdT rfl rfl rfl) rfl rfl (y_gt rfl rfl rfl) ?_
    refine Ls_bool 11 rfl (fun hc2 => ?_) (fun hc2 => ?_)
    all_goals try simp only [decide_eq_true_eq, decide_eq_false_iff_not, beq_iff_eq, bne_iff_ne, ne_eq, beq_eq_false_iff_ne, bne_eq_false_iff_eq, Bool.not_eq_true, Bool.not_eq_false] at hc2
    · refine Ls_y (wtd0 rfl) rfl rfl (y_pick_f rfl rfl rfl) ?_
      refine Ls_y (wtd0 rfl) rfl rfl (y_move rfl rfl) ?_
      refine Ls_s (wtdF rfl rfl rfl) rfl rfl ?_
      refine Ls_s (wtdF rfl rfl rfl) rfl rfl ?_
      refine Ls_s (wtdF rfl rfl rfl) rfl rfl ?_
      refine Ls_s (wtdF rfl rfl rfl) rfl rfl ?_
      refine Ls_s (wtdF rfl rfl rfl) rfl rfl ?_
      refine Ls_y (wtd0 rfl) rfl rfl (y_pick_t rfl rfl rfl) ?_
      refine Ls_y (wtd0 rfl) rfl rfl (y_assign rfl rfl) ?_
      refine Ls_nil (Th_n (hK2 _ _ ?_))
      refine Wp_ret (Fq_ret (Res1 rfl rfl) ?_)
      exact ⟨by simp; omega, hF⟩
    · refine Ls_y (wtd0 rfl) rfl rfl (y_pick_f rfl rfl rfl) ?_
      refine Ls_y (wtd0 rfl) rfl rfl (y_move rfl rfl) ?_
      refine Ls_y (wtdT rfl rfl rfl) rfl rfl (y_fld rfl rfl Ty.fo_75_3) ?_
      refine Ls_y (wtdT rfl rfl rfl) rfl rfl (y_fld rfl rfl Ty.fo_25_3) ?_
      refine Ls_y (wtdT rfl rfl rfl) rfl rfl (y_load (i := 0) rfl rfl Ty.pl_9 (fun _ e => e ▸ hp) rfl rfl) ?_
      refine Ls_y (wtdT rfl rfl rfl) rfl rfl (y_lens rfl rfl Try.underlying9) ?_
      refine Ls_y (wtdT rfl rfl rfl) rfl rfl (y_gt rfl rfl rfl) ?_
      refine Ls_bool 18 rfl (fun hc3 => ?_) (fun hc3 => ?_)
      all_goals try simp only [decide_eq_true_eq, decide_eq_false_iff_not, beq_iff_eq, bne_iff_ne, ne_eq, beq_eq_false_iff_ne, bne_eq_false_iff_eq, Bool.not_eq_true, Bool.not_eq_false] at hc3
      · refine Ls_y (wtd0 rfl) rfl rfl (y_pick_f rfl rfl rfl) ?_
        refine Ls_y (wtd0 rfl) rfl rfl (y_assign rfl rfl) ?_
        refine Ls_nil (Th_n (hK2 _ _ ?_))
        refine Wp_ret (Fq_ret (Res1 rfl rfl) ?_)
        exact ⟨by simp; omega, hF⟩
      · refine Ls_y (wtd0 rfl) rfl rfl (y_pick_f rfl rfl rfl) ?_
        refine Ls_y (wtd0 rfl) rfl rfl (y_assign rfl rfl) ?_
        refine Ls_nil (Th_n (hK2 _ _ ?_))
        refine Wp_ret (Fq_ret (Res1 rfl rfl) ?_)
        exact ⟨by simp; omega, hF⟩

end Go.Proofs.Ytikdpkhcegjmfaa

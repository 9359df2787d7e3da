/- Walks printed by gen.py out of our own specifications: what the functions named below do. -/
import Derived.Test.YtikdpkhcegjmfaaW14
set_option linter.unusedSimpArgs false
set_option linter.unusedVariables false
namespace Go.Proofs.Ytikdpkhcegjmfaa
open Go.RowKit


/-- Cells of memory that was handed in: read, never written. -/
def Rd (N : Nat) (w : World) (A : Option Addr) (cs : List Value) : Prop := ∀ j v, cs[j]? = some v → ∃ g b, A = some ⟨g, b, none⟩ ∧ g < N ∧ w.cell? ⟨g, b + j, none⟩ = some v
theorem Rd.keep {N : Nat} {X : List Nat} {w w' : World} {A : Option Addr} {cs : List Value} (h : Rd N w A cs) (hF : Fr X w w') (hN : N ≤ w.heap.size) (hX : ∀ x ∈ X, N ≤ x) : Rd N w' A cs := fun j v hj => by
  obtain ⟨g, b, e, hg, hc⟩ := h j v hj
  refine ⟨g, b, e, hg, ?_⟩
  rw [hF.cell (p := ⟨g, b + j, none⟩) (Nat.lt_of_lt_of_le hg hN) (fun hm => ?_)]
  · exact hc
  · have := hX _ hm
    simp only at this
    omega
theorem Rd.src {N : Nat} {w : World} {A : Option Addr} {cs : List Value} (h : Rd N w A cs) : ∀ ad, A = some ad → ∀ j u, cs[j]? = some u → w.cell? (ad.add j) = some u := fun ad e j u hj => by
  obtain ⟨g, b, e', _, hc⟩ := h j u hj
  rw [e] at e'
  cases e'
  rw [Addr.add_mid]
  exact hc
theorem Rd.none {N : Nat} {w : World} {A : Option Addr} {cs : List Value} (h : Rd N w A cs) (hA : A = none) : cs = [] := by
  cases cs with
  | nil => rfl
  | cons v cs =>
    obtain ⟨g, b, e, _⟩ := h 0 v rfl
    rw [hA] at e
    cases e

set_option maxRecDepth 20000 in
set_option maxHeartbeats 1600000 in
theorem rmend_ok (p : Dp) (D : Dk) (w : World) (hp : Hp w (rkH p D)) (hD : DkOk D) (A : Option Addr) (c : Nat) (ks : List Int) (N : Nat) (hr : Rd N w A (ks.map intV)) (hN : N ≤ w.heap.size) (hpN : ∀ x ∈ [p.gd, p.gn, p.gl], N ≤ x) :
    Fn Try.prog 48 [.pointer (some ⟨p.gd, 0, none⟩), .slice A ks.length c] w fun v w' => v = .tuple #[] ∧ Mod w w' (rkH p D) (rkH p (mendD D ks)) := by
  refine Fn_of 78 Ty.en_48 Try.func48 rfl rfl rfl ?_
  dsimp only [argEnv]
  have hp : Hp w [(_, Cl [_, _, _, _, _] _), _, _] := hp
  have hF := Fr.refl [p.gd, p.gn, p.gl] w
  refine Wp_seq fun K1 hK1 => ?_
  refine Wp_region ?_
  refine Ls_y (wtd0 rfl) rfl rfl (y_move rfl rfl) ?_
  refine Ls_a (wtd0 rfl) ?_
  refine a_call rfl rfl rfl rfl (rdirty_ok p D _ hp hD) (fun v w1 ⟨A2, c2, sp2, hv, how2, hN2⟩ => ?_)
  subst hv
  have hp : Hp w1 [(_, Cl [_, _, _, _, _] _), _, _, _] := hp.add hN2
  have hF := hF.step0 hN2.fr
  have hmost := hD.most
  have hdl := dirtyTo_le D D.now.length
  rw [dirtyTo_all] at hdl
  refine Ls_y (wtd0 rfl) rfl rfl (y_assign rfl rfl) ?_
  refine Ls_nil (Th_n (hK1 _ _ ?_))
  refine Wp_seq fun K2 hK2 => ?_
  refine Wp_seq fun K3 hK3 => ?_
  refine Wp_region ?_
  refine Ls_y (wtd0 rfl) rfl rfl (y_assign rfl rfl) ?_
  refine Ls_nil (Th_n (hK3 _ _ ?_))
  refine Wp_block ?_
  refine Wp_loopE (fun m e W => ∃ (k : Nat), k ≤ (dirtyD D).length ∧ m = (dirtyD D).length - k ∧ e = [(0, .pointer (some ⟨p.gd, 0, none⟩)), (1, .slice A ks.length c), (4, .slice A2 (dirtyD D).length c2), (5, .int .i64 (k : Int))] ∧
    Hp W (rkH p { D with now := mendN D ks k, lasts := mendL D ks k } ++ [(blkOf A2, Cl ((dirtyD D).map natV ++ sp2) 3)]) ∧ Fr [p.gd, p.gn, p.gl] w W) ((dirtyD D).length) [(0, _), (1, _), (4, _), (5, _)] ⟨rfl, rfl, rfl, rfl, trivial⟩ ?_ ?_
  · exact ⟨0, by omega, by omega, rfl, hp, hF⟩
  rintro m e W ⟨k, hk, rfl, rfl, hp, hF⟩
  have hp : Hp W [(_, Cl [_, _, _, _, _] _), _, _, _] := hp
  have hL := mendL_rows hD ks k
  have hLl := mendL_len D ks k
  have hNl := mendN_len D ks k
  have hlen := hD.len
  refine Wp_seq fun K5 hK5 => ?_
  refine Wp_seq fun K6 hK6 => ?_
  refine Wp_region ?_
  refine Ls_y (wtd0 rfl) rfl rfl (y_move rfl rfl) ?_
  refine Ls_y (wtd0 rfl) rfl rfl (y_move rfl rfl) ?_
  refine Ls_y (wtd0 rfl) rfl rfl (y_lenl rfl rfl Try.underlying73) ?_
  refine Ls_y (wtd0 rfl) rfl rfl (y_lt rfl rfl rfl) ?_
  refine Ls_bool 13 rfl (fun hlt => ?_) (fun hlt => ?_)
  all_goals try simp only [decide_eq_true_eq, decide_eq_false_iff_not, beq_iff_eq, bne_iff_ne, ne_eq, beq_eq_false_iff_ne, bne_eq_false_iff_eq, Bool.not_eq_true, Bool.not_eq_false] at hlt
  · refine Ls_nil (Th_n (hK6 _ _ ?_))
    have hkd : k < (dirtyD D).length := by omega
    obtain ⟨i, hi⟩ : ∃ i, (dirtyD D)[k]? = some i := ⟨_, List.getElem?_eq_getElem hkd⟩
    have hin := dirty_lt hi
    have hil : i < (mendL D ks k).length := by omega
    have hiN : i < (mendN D ks k).length := by omega
    have hiN1 : i < (mendN D ks (k + 1)).length := by rw [mendN_len]; exact hin
    have hi64 : (D.now[i]).length = 64 := hD.now _ (List.getElem_mem hin)
    have hl64 : ((mendL D ks k)[i]).length = 64 := hL _ (List.getElem_mem hil)
    have hrow : (mendN D ks k)[i] = D.now[i] := by
      have := mendN_row hD ks hi
      rw [List.getElem?_eq_getElem hiN, List.getElem?_eq_getElem hin] at this
      exact Option.some.inj this
    have hgetN := sv_get hiN p.sn
    rw [hrow] at hgetN
    have hgetL := sv_get hil p.sl
    have e1 := mendN_succ ks hi hin hil
    have e2 := mendL_succ2 ks hi hin hil
    have e3 : (mendN D ks (k + 1))[i] = (D.now[i]).take (keepN ks k) ++ ((mendL D ks k)[i]).drop (keepN ks k) := by simp [e1]
    obtain ⟨g2, rfl⟩ := how2.some_ (by omega)
    have hget : ((dirtyD D).map natV ++ sp2)[0 + k * 1]? = some (natV i) := by
      rw [Nat.zero_add, Nat.mul_one, List.getElem?_append_left (by simpa using hkd), List.getElem?_map, hi]
      rfl
    refine Wp_cond_t rfl ?_
    refine Wp_skip (Th_n (hK5 _ _ ?_))
    refine Wp_seq fun K7 hK7 => ?_
    refine Wp_block ?_
    refine Wp_seq fun K8 hK8 => ?_
    refine Wp_region ?_
    refine Ls_y (wtd0 rfl) rfl rfl (y_assign rfl rfl) ?_
    refine Ls_nil (Th_n (hK8 _ _ ?_))
    refine Wp_seq fun K9 hK9 => ?_
    refine Wp_seq fun K10 hK10 => ?_
    refine Wp_region ?_
    refine Ls_y (wtd0 rfl) rfl rfl (y_move rfl rfl) ?_
    refine Ls_y (wtd0 rfl) rfl rfl (y_move rfl rfl) ?_
    refine Ls_y (wtd0 rfl) rfl rfl (y_lenl rfl rfl Try.underlying73) ?_
    refine Ls_y (wtd0 rfl) rfl rfl (y_lt rfl rfl rfl) ?_
    refine Ls_bool 19 rfl (fun hks => ?_) (fun hks => ?_)
    all_goals try simp only [decide_eq_true_eq, decide_eq_false_iff_not, beq_iff_eq, bne_iff_ne, ne_eq, beq_eq_false_iff_ne, bne_eq_false_iff_eq, Bool.not_eq_true, Bool.not_eq_false] at hks
    · refine Ls_nil (Th_n (hK10 _ _ ?_))
      have hkk : k < ks.length := by omega
      have hkg : ks[k]? = some ks[k] := List.getElem?_eq_getElem hkk
      obtain ⟨g3, b3, rfl, hg3, hc3⟩ := (hr.keep hF hN hpN) k (intV ks[k]) (by rw [List.getElem?_map, hkg]; rfl)
      have hc3 : W.cell? ⟨g3, b3 + k * 1, none⟩ = some (intV ks[k]) := by rw [Nat.mul_one]; exact hc3
      have hkn : IntKind.i64.wrap (ks[k] % 18446744073709551616 % 65) = ((keepN ks k : Nat) : Int) := by
        unfold keepN; rw [hkg, IntKind.wrap_i64]; simp only; omega
      have hk64 := keepN_le ks k
      refine Wp_cond_t rfl ?_
      refine Wp_region ?_
      refine Ls_y (wtd0 rfl) rfl rfl (y_move rfl rfl) ?_
      refine Ls_y (wtd0 rfl) rfl rfl (y_move rfl rfl) ?_
      first
        | refine Ls_y (wtd0 rfl) rfl rfl (y_ixaN rfl rfl rfl Ty.es_73 (by omega)) ?_
        | refine Ls_y (wtd0 rfl) rfl rfl (y_ixa rfl rfl rfl Ty.es_73 (by omega) (by omega)) ?_
      refine Ls_y (wtd0 rfl) rfl rfl (y_loadc rfl rfl Ty.pl_3 (fun _ e => e ▸ hc3)) ?_
      refine Ls_y (wtd0 rfl) rfl rfl (y_cvi rfl rfl Try.underlying3 Try.underlying49 wm_u64) ?_
      refine Ls_y (wtd0 rfl) rfl rfl (y_remP rfl rfl rfl (by omega) (by omega)) ?_
      refine Ls_y (wtd0 rfl) rfl rfl (y_cvi rfl rfl Try.underlying49 Try.underlying3 hkn) ?_
      refine Ls_y (wtd0 rfl) rfl rfl (y_assign rfl rfl) ?_
      refine Ls_nil (Th_n (hK9 _ _ ?_))
      refine Wp_seq fun K11 hK11 => ?_
      refine Wp_region ?_
      refine Ls_y (wtd0 rfl) rfl rfl (y_move rfl rfl) ?_
      refine Ls_y (wtd0 rfl) rfl rfl (y_move rfl rfl) ?_
      first
        | refine Ls_y (wtd0 rfl) rfl rfl (y_ixaN rfl rfl rfl Ty.es_73 (by omega)) ?_
        | refine Ls_y (wtd0 rfl) rfl rfl (y_ixa rfl rfl rfl Ty.es_73 (by omega) (by omega)) ?_
      refine Ls_y (wtd0 rfl) rfl rfl (y_load (i := 3) rfl rfl Ty.pl_3 (fun _ e => e ▸ hp) rfl hget) ?_
      refine Ls_y (wtd0 rfl) rfl rfl (y_assign rfl rfl) ?_
      refine Ls_nil (Th_n (hK11 _ _ ?_))
      refine Wp_seq fun K12 hK12 => ?_
      refine Wp_planF (fun W => Hp W (pickL (heapOf hp) [0, 1, 2])) [(true, 0), (true, 1), (true, 2), (true, 3), (true, 4), (true, 5), (true, 6), (true, 7), (true, 8), (true, 9), (true, 10), (true, 11), (true, 12), (true, 13), (true, 14), (true, 15), (true, 16), (true, 17), (true, 18), (true, 19), (true, 20), (true, 21), (true, 22), (true, 23), (true, 24)] 25 Ty.mx_0 (by kernel_rfl) (by kernel_rfl) (by kernel_rfl) rfl ((hp.picks [0, 1, 2] (by decide)).drew) ?_
      have hp := hp.drew
      have hF := hF.step0 (Fr.drew _)
      refine Pl_y rfl (wtd0 rfl) rfl rfl (y_move rfl rfl) ?_
      refine Pl_y rfl (wtd0 rfl) rfl rfl (y_nil rfl rfl) ?_
      refine Pl_y rfl (wtd0 rfl) rfl rfl (y_fld rfl rfl Ty.fo_126_0) ?_
      refine Pl_y rfl (wtd0 rfl) rfl rfl (y_load (i := 0) rfl rfl Ty.pl_89 (fun _ h => h) rfl rfl) ?_
      refine Pl_y rfl (wtd0 rfl) rfl rfl (y_move rfl rfl) ?_
      refine Pl_y rfl (wtd0 rfl) rfl rfl (y_move rfl rfl) ?_
      refine Pl_y rfl (wtd0 rfl) rfl rfl (y_nil rfl rfl) ?_
      refine Pl_y rfl (wtd0 rfl) rfl rfl (y_fld rfl rfl Ty.fo_126_0) ?_
      refine Pl_y rfl (wtd0 rfl) rfl rfl (y_load (i := 0) rfl rfl Ty.pl_89 (fun _ h => h) rfl rfl) ?_
      refine Pl_y rfl (wtd0 rfl) rfl rfl (y_move rfl rfl) ?_
      first
        | refine Pl_y rfl (wtd0 rfl) rfl rfl (y_ixaN rfl rfl rfl Ty.es_89 (by omega)) ?_
        | refine Pl_y rfl (wtd0 rfl) rfl rfl (y_ixa rfl rfl rfl Ty.es_89 (by omega) (by omega)) ?_
      refine Pl_y rfl (wtd0 rfl) rfl rfl (y_load (i := 1) rfl rfl Ty.pl_9 (fun _ h => h) rfl hgetN) ?_
      refine Pl_y rfl (wtd0 rfl) rfl rfl (y_move rfl rfl) ?_
      refine Pl_y rfl (wtd0 rfl) rfl rfl (y_cutsN (i := 0) rfl rfl Try.underlying9 rfl rfl (by first | omega | (simp; omega) | (simp; done)) (by first | omega | (simp; omega) | (simp; done))) ?_
      refine Pl_y rfl (wtd0 rfl) rfl rfl (y_move rfl rfl) ?_
      refine Pl_y rfl (wtd0 rfl) rfl rfl (y_nil rfl rfl) ?_
      refine Pl_y rfl (wtd0 rfl) rfl rfl (y_fld rfl rfl Ty.fo_126_1) ?_
      refine Pl_y rfl (wtd0 rfl) rfl rfl (y_load (i := 0) rfl rfl Ty.pl_89 (fun _ h => h) rfl rfl) ?_
      refine Pl_y rfl (wtd0 rfl) rfl rfl (y_move rfl rfl) ?_
      first
        | refine Pl_y rfl (wtd0 rfl) rfl rfl (y_ixaN rfl rfl rfl Ty.es_89 (by omega)) ?_
        | refine Pl_y rfl (wtd0 rfl) rfl rfl (y_ixa rfl rfl rfl Ty.es_89 (by omega) (by omega)) ?_
      refine Pl_y rfl (wtd0 rfl) rfl rfl (y_load (i := 2) rfl rfl Ty.pl_9 (fun _ h => h) rfl hgetL) ?_
      refine Pl_y rfl (wtd0 rfl) rfl rfl (y_move rfl rfl) ?_
      refine Pl_y rfl (wtd0 rfl) rfl rfl (y_cutsN rfl rfl Try.underlying9 rfl rfl (by first | omega | (simp; omega) | (simp; done)) (by first | omega | (simp; omega) | (simp; done))) ?_
      refine Pl_y rfl (wtd0 rfl) rfl rfl (y_cat rfl rfl rfl (by first | omega | (simp; omega))) ?_
      first
        | refine Pl_y rfl (wtd0 rfl) rfl rfl (y_ixaN rfl rfl rfl Ty.es_89 (by omega)) ?_
        | refine Pl_y rfl (wtd0 rfl) rfl rfl (y_ixa rfl rfl rfl Ty.es_89 (by omega) (by omega)) ?_
      refine Pl_nil (Fin_a rfl (wtd0 rfl) ?_)
      refine a_store (i := 1) rfl rfl rfl rfl rfl Ty.sz_9 rfl hp rfl (by simp; omega) (fun w4 (hp : Hp w4 [(_, Cl [_, _, _, _, _] _), _, _, _]) hf _ => ?_)
      have hF := hF.step hf (by intro y hy; simp only [List.mem_cons, List.not_mem_nil, or_false] at hy; subst hy; first | (exact Or.inr (by omega)) | (exact Or.inl (by simp)))
      refine id (Th_n (hK12 _ _ ?_))
      have hp : Hp w4 [(_, Cl [_, _, _, _, _] _), _, _, _] := hp.conv (i := 1) rfl ((sv_set hiN _ p.sn).trans (show _ = (mendN D ks (k + 1)).map sv ++ p.sn by rw [e1, show keepN ks k = keepN ks k from rfl, List.drop_zero, List.take_length]))
      have hgetN2 := sv_get hiN1 p.sn
      refine Wp_planF (fun W => Hp W (pickL (heapOf hp) [0, 1])) [(true, 0), (true, 1), (true, 2), (true, 3), (true, 4), (true, 5), (true, 6), (true, 7), (true, 8), (true, 9), (true, 10), (true, 11), (true, 12)] 13 Ty.mx_0 (by kernel_rfl) (by kernel_rfl) (by kernel_rfl) rfl ((hp.picks [0, 1] (by decide)).drew) ?_
      have hp := hp.drew
      have hF := hF.step0 (Fr.drew _)
      refine Pl_y rfl (wtd0 rfl) rfl rfl (y_move rfl rfl) ?_
      refine Pl_y rfl (wtd0 rfl) rfl rfl (y_nil rfl rfl) ?_
      refine Pl_y rfl (wtd0 rfl) rfl rfl (y_fld rfl rfl Ty.fo_126_1) ?_
      refine Pl_y rfl (wtd0 rfl) rfl rfl (y_load (i := 0) rfl rfl Ty.pl_89 (fun _ h => h) rfl rfl) ?_
      refine Pl_y rfl (wtd0 rfl) rfl rfl (y_move rfl rfl) ?_
      refine Pl_y rfl (wtd0 rfl) rfl rfl (y_move rfl rfl) ?_
      refine Pl_y rfl (wtd0 rfl) rfl rfl (y_nil rfl rfl) ?_
      refine Pl_y rfl (wtd0 rfl) rfl rfl (y_fld rfl rfl Ty.fo_126_0) ?_
      refine Pl_y rfl (wtd0 rfl) rfl rfl (y_load (i := 0) rfl rfl Ty.pl_89 (fun _ h => h) rfl rfl) ?_
      refine Pl_y rfl (wtd0 rfl) rfl rfl (y_move rfl rfl) ?_
      first
        | refine Pl_y rfl (wtd0 rfl) rfl rfl (y_ixaN rfl rfl rfl Ty.es_89 (by omega)) ?_
        | refine Pl_y rfl (wtd0 rfl) rfl rfl (y_ixa rfl rfl rfl Ty.es_89 (by omega) (by omega)) ?_
      refine Pl_y rfl (wtd0 rfl) rfl rfl (y_load (i := 1) rfl rfl Ty.pl_9 (fun _ h => h) rfl hgetN2) ?_
      first
        | refine Pl_y rfl (wtd0 rfl) rfl rfl (y_ixaN rfl rfl rfl Ty.es_89 (by omega)) ?_
        | refine Pl_y rfl (wtd0 rfl) rfl rfl (y_ixa rfl rfl rfl Ty.es_89 (by omega) (by omega)) ?_
      refine Pl_nil (Fin_a rfl (wtd0 rfl) ?_)
      refine a_store (i := 2) rfl rfl rfl rfl rfl Ty.sz_9 rfl hp rfl (by simp; omega) (fun w5 (hp : Hp w5 [(_, Cl [_, _, _, _, _] _), _, _, _]) hf _ => ?_)
      have hF := hF.step hf (by intro y hy; simp only [List.mem_cons, List.not_mem_nil, or_false] at hy; subst hy; first | (exact Or.inr (by omega)) | (exact Or.inl (by simp)))
      refine id (Ib_n (Th_n (hK7 _ _ ?_)))
      have hp : Hp w5 [(_, Cl [_, _, _, _, _] _), _, _, _] := hp.conv (i := 2) rfl ((sv_set hil _ p.sl).trans (show _ = (mendL D ks (k + 1)).map sv ++ p.sl by rw [e2, e3]))
      refine Wp_region ?_
      refine Ls_y (wtd0 rfl) rfl rfl (y_move rfl rfl) ?_
      first
        | refine Ls_y (wtd0 rfl) rfl rfl (y_add rfl rfl rfl (w_succ (by omega))) ?_
        | refine Ls_y (wtd0 rfl) rfl rfl (y_add rfl rfl rfl (wf_i64 (by omega))) ?_
        | refine Ls_y (wtd0 rfl) rfl rfl (y_add rfl rfl rfl rfl) ?_
      refine Ls_y (wtd0 rfl) rfl rfl (y_assign rfl rfl) ?_
      refine Ls_nil (Th_n (?_))
      refine ⟨(dirtyD D).length - (k + 1), [(0, _), (1, _), (4, _), (5, _)], by omega, ⟨rfl, rfl, rfl, rfl, trivial⟩, k + 1, by omega, rfl, rfl, ?_, hF⟩
      have g1 : (mendN D ks (k + 1)).length = (mendN D ks k).length := by rw [mendN_len, mendN_len]
      have g2 : (mendL D ks (k + 1)).length = (mendL D ks k).length := by rw [mendL_len, mendL_len]
      simp only [rkH, rkC, g1, g2]
      exact hp
    · refine Ls_nil (Th_n (hK10 _ _ ?_))
      have hkn : keepN ks k = 0 := by unfold keepN; rw [List.getElem?_eq_none (by omega)]
      refine Wp_cond_f rfl ?_
      refine Wp_skip (Th_n (hK9 _ _ ?_))
      refine Wp_seq fun K13 hK13 => ?_
      refine Wp_region ?_
      refine Ls_y (wtd0 rfl) rfl rfl (y_move rfl rfl) ?_
      refine Ls_y (wtd0 rfl) rfl rfl (y_move rfl rfl) ?_
      first
        | refine Ls_y (wtd0 rfl) rfl rfl (y_ixaN rfl rfl rfl Ty.es_73 (by omega)) ?_
        | refine Ls_y (wtd0 rfl) rfl rfl (y_ixa rfl rfl rfl Ty.es_73 (by omega) (by omega)) ?_
      refine Ls_y (wtd0 rfl) rfl rfl (y_load (i := 3) rfl rfl Ty.pl_3 (fun _ e => e ▸ hp) rfl hget) ?_
      refine Ls_y (wtd0 rfl) rfl rfl (y_assign rfl rfl) ?_
      refine Ls_nil (Th_n (hK13 _ _ ?_))
      refine Wp_seq fun K14 hK14 => ?_
      refine Wp_planF (fun W => Hp W (pickL (heapOf hp) [0, 1, 2])) [(true, 0), (true, 1), (true, 2), (true, 3), (true, 4), (true, 5), (true, 6), (true, 7), (true, 8), (true, 9), (true, 10), (true, 11), (true, 12), (true, 13), (true, 14), (true, 15), (true, 16), (true, 17), (true, 18), (true, 19), (true, 20), (true, 21), (true, 22), (true, 23), (true, 24)] 25 Ty.mx_0 (by kernel_rfl) (by kernel_rfl) (by kernel_rfl) rfl ((hp.picks [0, 1, 2] (by decide)).drew) ?_
      have hp := hp.drew
      have hF := hF.step0 (Fr.drew _)
      refine Pl_y rfl (wtd0 rfl) rfl rfl (y_move rfl rfl) ?_
      refine Pl_y rfl (wtd0 rfl) rfl rfl (y_nil rfl rfl) ?_
      refine Pl_y rfl (wtd0 rfl) rfl rfl (y_fld rfl rfl Ty.fo_126_0) ?_
      refine Pl_y rfl (wtd0 rfl) rfl rfl (y_load (i := 0) rfl rfl Ty.pl_89 (fun _ h => h) rfl rfl) ?_
      refine Pl_y rfl (wtd0 rfl) rfl rfl (y_move rfl rfl) ?_
      refine Pl_y rfl (wtd0 rfl) rfl rfl (y_move rfl rfl) ?_
      refine Pl_y rfl (wtd0 rfl) rfl rfl (y_nil rfl rfl) ?_
      refine Pl_y rfl (wtd0 rfl) rfl rfl (y_fld rfl rfl Ty.fo_126_0) ?_
      refine Pl_y rfl (wtd0 rfl) rfl rfl (y_load (i := 0) rfl rfl Ty.pl_89 (fun _ h => h) rfl rfl) ?_
      refine Pl_y rfl (wtd0 rfl) rfl rfl (y_move rfl rfl) ?_
      first
        | refine Pl_y rfl (wtd0 rfl) rfl rfl (y_ixaN rfl rfl rfl Ty.es_89 (by omega)) ?_
        | refine Pl_y rfl (wtd0 rfl) rfl rfl (y_ixa rfl rfl rfl Ty.es_89 (by omega) (by omega)) ?_
      refine Pl_y rfl (wtd0 rfl) rfl rfl (y_load (i := 1) rfl rfl Ty.pl_9 (fun _ h => h) rfl hgetN) ?_
      refine Pl_y rfl (wtd0 rfl) rfl rfl (y_move rfl rfl) ?_
      refine Pl_y rfl (wtd0 rfl) rfl rfl (y_cutsN (i := 0) (j := 0) rfl rfl Try.underlying9 rfl rfl (by first | omega | (simp; omega) | (simp; done)) (by first | omega | (simp; omega) | (simp; done))) ?_
      refine Pl_y rfl (wtd0 rfl) rfl rfl (y_move rfl rfl) ?_
      refine Pl_y rfl (wtd0 rfl) rfl rfl (y_nil rfl rfl) ?_
      refine Pl_y rfl (wtd0 rfl) rfl rfl (y_fld rfl rfl Ty.fo_126_1) ?_
      refine Pl_y rfl (wtd0 rfl) rfl rfl (y_load (i := 0) rfl rfl Ty.pl_89 (fun _ h => h) rfl rfl) ?_
      refine Pl_y rfl (wtd0 rfl) rfl rfl (y_move rfl rfl) ?_
      first
        | refine Pl_y rfl (wtd0 rfl) rfl rfl (y_ixaN rfl rfl rfl Ty.es_89 (by omega)) ?_
        | refine Pl_y rfl (wtd0 rfl) rfl rfl (y_ixa rfl rfl rfl Ty.es_89 (by omega) (by omega)) ?_
      refine Pl_y rfl (wtd0 rfl) rfl rfl (y_load (i := 2) rfl rfl Ty.pl_9 (fun _ h => h) rfl hgetL) ?_
      refine Pl_y rfl (wtd0 rfl) rfl rfl (y_move rfl rfl) ?_
      refine Pl_y rfl (wtd0 rfl) rfl rfl (y_cutsN (i := 0) rfl rfl Try.underlying9 rfl rfl (by first | omega | (simp; omega) | (simp; done)) (by first | omega | (simp; omega) | (simp; done))) ?_
      refine Pl_y rfl (wtd0 rfl) rfl rfl (y_cat rfl rfl rfl (by first | omega | (simp; omega))) ?_
      first
        | refine Pl_y rfl (wtd0 rfl) rfl rfl (y_ixaN rfl rfl rfl Ty.es_89 (by omega)) ?_
        | refine Pl_y rfl (wtd0 rfl) rfl rfl (y_ixa rfl rfl rfl Ty.es_89 (by omega) (by omega)) ?_
      refine Pl_nil (Fin_a rfl (wtd0 rfl) ?_)
      refine a_store (i := 1) rfl rfl rfl rfl rfl Ty.sz_9 rfl hp rfl (by simp; omega) (fun w4 (hp : Hp w4 [(_, Cl [_, _, _, _, _] _), _, _, _]) hf _ => ?_)
      have hF := hF.step hf (by intro y hy; simp only [List.mem_cons, List.not_mem_nil, or_false] at hy; subst hy; first | (exact Or.inr (by omega)) | (exact Or.inl (by simp)))
      refine id (Th_n (hK14 _ _ ?_))
      have hp : Hp w4 [(_, Cl [_, _, _, _, _] _), _, _, _] := hp.conv (i := 1) rfl ((sv_set hiN _ p.sn).trans (show _ = (mendN D ks (k + 1)).map sv ++ p.sn by rw [e1, hkn, List.drop_zero, List.take_length]))
      have hgetN2 := sv_get hiN1 p.sn
      refine Wp_planF (fun W => Hp W (pickL (heapOf hp) [0, 1])) [(true, 0), (true, 1), (true, 2), (true, 3), (true, 4), (true, 5), (true, 6), (true, 7), (true, 8), (true, 9), (true, 10), (true, 11), (true, 12)] 13 Ty.mx_0 (by kernel_rfl) (by kernel_rfl) (by kernel_rfl) rfl ((hp.picks [0, 1] (by decide)).drew) ?_
      have hp := hp.drew
      have hF := hF.step0 (Fr.drew _)
      refine Pl_y rfl (wtd0 rfl) rfl rfl (y_move rfl rfl) ?_
      refine Pl_y rfl (wtd0 rfl) rfl rfl (y_nil rfl rfl) ?_
      refine Pl_y rfl (wtd0 rfl) rfl rfl (y_fld rfl rfl Ty.fo_126_1) ?_
      refine Pl_y rfl (wtd0 rfl) rfl rfl (y_load (i := 0) rfl rfl Ty.pl_89 (fun _ h => h) rfl rfl) ?_
      refine Pl_y rfl (wtd0 rfl) rfl rfl (y_move rfl rfl) ?_
      refine Pl_y rfl (wtd0 rfl) rfl rfl (y_move rfl rfl) ?_
      refine Pl_y rfl (wtd0 rfl) rfl rfl (y_nil rfl rfl) ?_
      refine Pl_y rfl (wtd0 rfl) rfl rfl (y_fld rfl rfl Ty.fo_126_0) ?_
      refine Pl_y rfl (wtd0 rfl) rfl rfl (y_load (i := 0) rfl rfl Ty.pl_89 (fun _ h => h) rfl rfl) ?_
      refine Pl_y rfl (wtd0 rfl) rfl rfl (y_move rfl rfl) ?_
      first
        | refine Pl_y rfl (wtd0 rfl) rfl rfl (y_ixaN rfl rfl rfl Ty.es_89 (by omega)) ?_
        | refine Pl_y rfl (wtd0 rfl) rfl rfl (y_ixa rfl rfl rfl Ty.es_89 (by omega) (by omega)) ?_
      refine Pl_y rfl (wtd0 rfl) rfl rfl (y_load (i := 1) rfl rfl Ty.pl_9 (fun _ h => h) rfl hgetN2) ?_
      first
        | refine Pl_y rfl (wtd0 rfl) rfl rfl (y_ixaN rfl rfl rfl Ty.es_89 (by omega)) ?_
        | refine Pl_y rfl (wtd0 rfl) rfl rfl (y_ixa rfl rfl rfl Ty.es_89 (by omega) (by omega)) ?_
      refine Pl_nil (Fin_a rfl (wtd0 rfl) ?_)
      refine a_store (i := 2) rfl rfl rfl rfl rfl Ty.sz_9 rfl hp rfl (by simp; omega) (fun w5 (hp : Hp w5 [(_, Cl [_, _, _, _, _] _), _, _, _]) hf _ => ?_)
      have hF := hF.step hf (by intro y hy; simp only [List.mem_cons, List.not_mem_nil, or_false] at hy; subst hy; first | (exact Or.inr (by omega)) | (exact Or.inl (by simp)))
      refine id (Ib_n (Th_n (hK7 _ _ ?_)))
      have hp : Hp w5 [(_, Cl [_, _, _, _, _] _), _, _, _] := hp.conv (i := 2) rfl ((sv_set hil _ p.sl).trans (show _ = (mendL D ks (k + 1)).map sv ++ p.sl by rw [e2, e3]))
      refine Wp_region ?_
      refine Ls_y (wtd0 rfl) rfl rfl (y_move rfl rfl) ?_
      first
        | refine Ls_y (wtd0 rfl) rfl rfl (y_add rfl rfl rfl (w_succ (by omega))) ?_
        | refine Ls_y (wtd0 rfl) rfl rfl (y_add rfl rfl rfl (wf_i64 (by omega))) ?_
        | refine Ls_y (wtd0 rfl) rfl rfl (y_add rfl rfl rfl rfl) ?_
      refine Ls_y (wtd0 rfl) rfl rfl (y_assign rfl rfl) ?_
      refine Ls_nil (Th_n (?_))
      refine ⟨(dirtyD D).length - (k + 1), [(0, _), (1, _), (4, _), (5, _)], by omega, ⟨rfl, rfl, rfl, rfl, trivial⟩, k + 1, by omega, rfl, rfl, ?_, hF⟩
      have g1 : (mendN D ks (k + 1)).length = (mendN D ks k).length := by rw [mendN_len, mendN_len]
      have g2 : (mendL D ks (k + 1)).length = (mendL D ks k).length := by rw [mendL_len, mendL_len]
      simp only [rkH, rkC, g1, g2]
      exact hp
  · refine Ls_nil (Th_n (hK6 _ _ ?_))
    obtain rfl : k = (dirtyD D).length := by omega
    refine Wp_cond_f rfl ?_
    refine Wp_exit (Th_e (Th_e (Ib_hit (Th_n (hK2 _ _ ?_)))))
    refine Wp_seq fun K15 hK15 => ?_
    refine Wp_region ?_
    refine Ls_y (wtd0 rfl) rfl rfl (y_move rfl rfl) ?_
    refine Ls_y (wtd0 rfl) rfl rfl (y_nil rfl rfl) ?_
    refine Ls_y (wtd0 rfl) rfl rfl (y_fld rfl rfl Ty.fo_126_2) ?_
    refine Ls_a (wtd0 rfl) ?_
    first
      | refine a_store (i := 0) rfl rfl rfl rfl rfl Ty.sz_4 rfl hp rfl (by first | decide | (simp; done) | (simp; omega)) (fun w1 (hp : Hp w1 [(_, Cl [_, _, _, _, _] _), _, _, _]) hf _ => ?_)
      | refine a_store (i := 1) rfl rfl rfl rfl rfl Ty.sz_4 rfl hp rfl (by first | decide | (simp; done) | (simp; omega)) (fun w1 (hp : Hp w1 [(_, Cl [_, _, _, _, _] _), _, _, _]) hf _ => ?_)
      | refine a_store (i := 2) rfl rfl rfl rfl rfl Ty.sz_4 rfl hp rfl (by first | decide | (simp; done) | (simp; omega)) (fun w1 (hp : Hp w1 [(_, Cl [_, _, _, _, _] _), _, _, _]) hf _ => ?_)
      | refine a_store (i := 3) rfl rfl rfl rfl rfl Ty.sz_4 rfl hp rfl (by first | decide | (simp; done) | (simp; omega)) (fun w1 (hp : Hp w1 [(_, Cl [_, _, _, _, _] _), _, _, _]) hf _ => ?_)
    have hF := hF.step hf (by intro y hy; simp only [List.mem_cons, List.not_mem_nil, or_false] at hy; subst hy; first | (exact Or.inr (by omega)) | (exact Or.inl (by simp)))
    refine Ls_nil (Th_n (hK15 _ _ ?_))
    refine Wp_seq fun K16 hK16 => ?_
    refine Wp_region ?_
    refine Ls_y (wtd0 rfl) rfl rfl (y_move rfl rfl) ?_
    refine Ls_y (wtd0 rfl) rfl rfl (y_nil rfl rfl) ?_
    refine Ls_y (wtd0 rfl) rfl rfl (y_fld rfl rfl Ty.fo_126_3) ?_
    refine Ls_a (wtd0 rfl) ?_
    first
      | refine a_store (i := 0) rfl rfl rfl rfl rfl Ty.sz_3 rfl hp rfl (by first | decide | (simp; done) | (simp; omega)) (fun w2 (hp : Hp w2 [(_, Cl [_, _, _, _, _] _), _, _, _]) hf _ => ?_)
      | refine a_store (i := 1) rfl rfl rfl rfl rfl Ty.sz_3 rfl hp rfl (by first | decide | (simp; done) | (simp; omega)) (fun w2 (hp : Hp w2 [(_, Cl [_, _, _, _, _] _), _, _, _]) hf _ => ?_)
      | refine a_store (i := 2) rfl rfl rfl rfl rfl Ty.sz_3 rfl hp rfl (by first | decide | (simp; done) | (simp; omega)) (fun w2 (hp : Hp w2 [(_, Cl [_, _, _, _, _] _), _, _, _]) hf _ => ?_)
      | refine a_store (i := 3) rfl rfl rfl rfl rfl Ty.sz_3 rfl hp rfl (by first | decide | (simp; done) | (simp; omega)) (fun w2 (hp : Hp w2 [(_, Cl [_, _, _, _, _] _), _, _, _]) hf _ => ?_)
    have hF := hF.step hf (by intro y hy; simp only [List.mem_cons, List.not_mem_nil, or_false] at hy; subst hy; first | (exact Or.inr (by omega)) | (exact Or.inl (by simp)))
    refine Ls_nil (Th_n (hK16 _ _ ?_))
    refine Wp_region ?_
    refine Ls_y (wtd0 rfl) rfl rfl (y_move rfl rfl) ?_
    refine Ls_y (wtd0 rfl) rfl rfl (y_nil rfl rfl) ?_
    refine Ls_y (wtd0 rfl) rfl rfl (y_fld rfl rfl Ty.fo_126_4) ?_
    refine Ls_a (wtd0 rfl) ?_
    first
      | refine a_store (i := 0) rfl rfl rfl rfl rfl Ty.sz_4 rfl hp rfl (by first | decide | (simp; done) | (simp; omega)) (fun w3 (hp : Hp w3 [(_, Cl [_, _, _, _, _] _), _, _, _]) hf _ => ?_)
      | refine a_store (i := 1) rfl rfl rfl rfl rfl Ty.sz_4 rfl hp rfl (by first | decide | (simp; done) | (simp; omega)) (fun w3 (hp : Hp w3 [(_, Cl [_, _, _, _, _] _), _, _, _]) hf _ => ?_)
      | refine a_store (i := 2) rfl rfl rfl rfl rfl Ty.sz_4 rfl hp rfl (by first | decide | (simp; done) | (simp; omega)) (fun w3 (hp : Hp w3 [(_, Cl [_, _, _, _, _] _), _, _, _]) hf _ => ?_)
      | refine a_store (i := 3) rfl rfl rfl rfl rfl Ty.sz_4 rfl hp rfl (by first | decide | (simp; done) | (simp; omega)) (fun w3 (hp : Hp w3 [(_, Cl [_, _, _, _, _] _), _, _, _]) hf _ => ?_)
    have hF := hF.step hf (by intro y hy; simp only [List.mem_cons, List.not_mem_nil, or_false] at hy; subst hy; first | (exact Or.inr (by omega)) | (exact Or.inl (by simp)))
    refine Ls_nil (Fq_end (Res0 rfl) ?_)
    have hq := hp.picks [0, 1, 2] (by decide)
    have hall := mendN_all hD ks
    refine ⟨rfl, rk_mod ?_ hF (fun x hx => hx)⟩
    simp only [mendD, rkH, rkC]
    rw [hall] at hq
    exact hq

end Go.Proofs.Ytikdpkhcegjmfaa

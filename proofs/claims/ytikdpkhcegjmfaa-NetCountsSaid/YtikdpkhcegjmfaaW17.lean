/- Walks printed by gen.py out of our own specifications: what the functions named below do. -/
import Derived.Test.YtikdpkhcegjmfaaW16
set_option linter.unusedSimpArgs false
set_option linter.unusedVariables false
namespace Go.Proofs.Ytikdpkhcegjmfaa
open Go.RowKit


/-- An operation of the law, as it was handed in. -/
structure OpV where
  kd : Int
  ii : Int
  s : List UInt8
  cg : Int
  cq : Int
  cf : Int
  cd : List UInt8
  K : Option Addr
  ks : List Int
  kc : Nat
def opC (o : OpV) : List Value := [.int .i64 o.kd, .int .i64 o.ii, sv o.s, .int .u16 o.cg, .int .u32 o.cq, .int .u8 o.cf, sv o.cd, .slice o.K o.ks.length o.kc]
structure OpOk (N : Nat) (w : World) (o : OpV) : Prop where
  i1 : o.ii ≤ 9223372036854775807
  g0 : 0 ≤ o.cg
  g1 : o.cg < 65536
  q0 : 0 ≤ o.cq
  q1 : o.cq < 4294967296
  f0 : 0 ≤ o.cf
  f1 : o.cf < 256
  s1 : o.s.length ≤ 9223372036854775807
  d1 : o.cd.length ≤ 9223372036854775807
  k1 : o.ks.length ≤ 9223372036854775807
  rd : Rd N w o.K (o.ks.map intV)
theorem flat_opC : ∀ (ops : List OpV) (k j : Nat) (o : OpV) (v : Value), ops[k]? = some o → (opC o)[j]? = some v → (ops.flatMap opC)[k * 8 + j]? = some v
  | [], k, j, o, v, h, _ => by simp at h
  | x :: xs, 0, j, o, v, h, hj => by
    simp only [List.getElem?_cons_zero, Option.some.injEq] at h
    subst h
    have hlt : j < (opC x).length := (List.getElem?_eq_some_iff.1 hj).1
    rw [List.flatMap_cons, Nat.zero_mul, Nat.zero_add, List.getElem?_append_left hlt]
    exact hj
  | x :: xs, k + 1, j, o, v, h, hj => by
    rw [List.getElem?_cons_succ] at h
    have ih := flat_opC xs k j o v h hj
    rw [List.flatMap_cons, List.getElem?_append_right (by show 8 ≤ _; omega)]
    have : (k + 1) * 8 + j - (opC x).length = k * 8 + j := by show (k + 1) * 8 + j - 8 = _; omega
    rw [this]
    exact ih
theorem ops_row {N : Nat} {w : World} {A : Option Addr} {ops : List OpV} {k : Nat} {o : OpV} (h : Rd N w A (ops.flatMap opC)) (hk : ops[k]? = some o) : ∃ g b, A = some ⟨g, b, none⟩ ∧ w.rangeAt g (b + k * 8) (opC o) := by
  obtain ⟨g, b, e, _, _⟩ := h _ _ (flat_opC ops k 0 o _ hk rfl)
  refine ⟨g, b, e, fun j v hj => ?_⟩
  obtain ⟨g', b', e', _, hc⟩ := h _ _ (flat_opC ops k j o v hk hj)
  rw [e] at e'
  cases e'
  rw [Nat.add_assoc]
  exact hc
theorem fr_dkA {p : Dp} {D : Dk} {w : World} {A : Option Addr} {o : Obj} {X : List Nat} (hdk : ∀ y ∈ [p.gd, p.gn, p.gl], w.heap.size ≤ y) (hA : ∀ g, blkOf A = some g → w.heap.size ≤ g) : ∀ y ∈ keys (dkH p D ++ [(blkOf A, o)]), y ∈ X ∨ w.heap.size ≤ y := fun y hy => by
  unfold keys at hy
  rw [List.filterMap_append, List.mem_append] at hy
  rcases hy with h | h
  · exact .inr (hdk y h)
  · simp only [List.filterMap_cons, List.filterMap_nil] at h
    cases hb : blkOf A with
    | none => rw [hb] at h; cases h
    | some g =>
      rw [hb] at h
      simp only [List.mem_singleton] at h
      subst h
      exact .inr (hA _ hb)

set_option maxRecDepth 20000 in
set_option maxHeartbeats 8000000 in
theorem sectorDoes_ok (nn : Int) (A : Option Addr) (c : Nat) (ops : List OpV) (w : World) (hA : Rd w.heap.size w A (ops.flatMap opC)) (hops : ∀ o ∈ ops, OpOk w.heap.size w o) (hol : ops.length ≤ 9223372036854775807) :
    Fn Try.prog 6 [.int .i64 nn, .slice A ops.length c] w fun v w' => v = .bool true ∧ Fr [] w w' := by
  refine Fn_of 158 Ty.en_6 Try.func6 rfl rfl rfl ?_
  dsimp only [argEnv]
  have hp := Hp.nil w
  have hF := Fr.refl [] w
  refine Wp_seq fun K1 hK1 => ?_
  refine Wp_region ?_
  refine Ls_y (wtd0 rfl) rfl rfl (y_assign rfl rfl) ?_
  refine Ls_nil (Th_n (hK1 _ _ ?_))
  refine Wp_seq fun K2 hK2 => ?_
  refine Wp_seq fun K3 hK3 => ?_
  refine Wp_region ?_
  refine Ls_y (wtd0 rfl) rfl rfl (y_move rfl rfl) ?_
  refine Ls_y (wtd0 rfl) rfl rfl (y_gt rfl rfl rfl) ?_
  refine Ls_bool 16 rfl (fun h100 => ?_) (fun h100 => ?_)
  all_goals try simp only [decide_eq_true_eq, decide_eq_false_iff_not, beq_iff_eq, bne_iff_ne, ne_eq, beq_eq_false_iff_ne, bne_eq_false_iff_eq, Bool.not_eq_true, Bool.not_eq_false] at h100
  · refine Ls_y (wtd0 rfl) rfl rfl (y_move rfl rfl) ?_
    refine Ls_y (wtdT rfl rfl rfl) rfl rfl (y_move rfl rfl) ?_
    refine Ls_y (wtdT rfl rfl rfl) rfl rfl (y_le rfl rfl rfl) ?_
    refine Ls_bool 19 rfl (fun h1024 => ?_) (fun h1024 => ?_)
    all_goals try simp only [decide_eq_true_eq, decide_eq_false_iff_not, beq_iff_eq, bne_iff_ne, ne_eq, beq_eq_false_iff_ne, bne_eq_false_iff_eq, Bool.not_eq_true, Bool.not_eq_false] at h1024
    · refine Ls_y (wtd0 rfl) rfl rfl (y_pick_t rfl rfl rfl) ?_
      refine Ls_nil (Th_n (hK3 _ _ ?_))
      refine Wp_cond_t rfl ?_
      refine Wp_region ?_
      refine Ls_y (wtd0 rfl) rfl rfl (y_move rfl rfl) ?_
      refine Ls_y (wtd0 rfl) rfl rfl (y_remP rfl rfl rfl (by omega) (by omega)) ?_
      refine Ls_y (wtd0 rfl) rfl rfl (y_assign rfl rfl) ?_
      refine Ls_nil (Th_n (hK2 _ _ ?_))
      refine Wp_seq fun K4 hK4 => ?_
      refine Wp_region ?_
      refine Ls_y (wtd0 rfl) rfl rfl (y_move rfl rfl) ?_
      rcases Decidable.em (1 ≤ nn % 100 ∧ nn % 100 ≤ 1024) with hn | hn
      · obtain ⟨n, hnn⟩ := Int.eq_ofNat_of_zero_le (show 0 ≤ nn % 100 by omega)
        rw [hnn] at hn ⊢
        replace hn : 1 ≤ n ∧ n ≤ 1024 := by omega
        refine Ls_a (wtd0 rfl) ?_
        refine a_call rfl rfl rfl rfl (dnew_ok n _ hn.1 hn.2) (fun v wa ⟨p, hv, hN, _⟩ => ?_)
        subst hv
        have hp : Hp wa [(_, Cl [_, _, _, _, _] _), _, _] := hp.add hN
        have hdk : ∀ y ∈ [p.gd, p.gn, p.gl], w.heap.size ≤ y := fun y hy => Nat.le_trans hF.size (hN.nw y hy)
        have hF := hF.step0 hN.fr
        refine Ls_y (wtd0 rfl) rfl rfl (y_move rfl rfl) ?_
        refine Ls_y (wtd0 rfl) rfl rfl (y_ext rfl rfl rfl) ?_
        refine Ls_y (wtd0 rfl) rfl rfl (y_ext rfl rfl rfl) ?_
        refine Ls_y (wtd0 rfl) rfl rfl (y_assign rfl rfl) ?_
        refine Ls_y (wtd0 rfl) rfl rfl (y_assign rfl rfl) ?_
        refine Ls_nil (Th_n (hK4 _ _ ?_))
        refine Wp_seq fun K5 hK5 => ?_
        refine Wp_region ?_
        refine Ls_y (wtd0 rfl) rfl rfl (y_move rfl rfl) ?_
        refine Ls_a (wtd0 rfl) ?_
        refine a_call rfl rfl rfl rfl (rnew_ok n _ hn.1 hn.2) (fun v wb ⟨q, hv, hN⟩ => ?_)
        subst hv
        have hp : Hp wb [(_, Cl [_, _, _, _, _] _), _, _, (_, Cl [_, _, _, _, _] _), _, _] := hp.add hN
        have hrk : ∀ y ∈ [q.gd, q.gn, q.gl], w.heap.size ≤ y := fun y hy => Nat.le_trans hF.size (hN.nw y hy)
        have hF := hF.step0 hN.fr
        refine Ls_y (wtd0 rfl) rfl rfl (y_move rfl rfl) ?_
        refine Ls_y (wtd0 rfl) rfl rfl (y_ext rfl rfl rfl) ?_
        refine Ls_y (wtd0 rfl) rfl rfl (y_ext rfl rfl rfl) ?_
        refine Ls_y (wtd0 rfl) rfl rfl (y_assign rfl rfl) ?_
        refine Ls_y (wtd0 rfl) rfl rfl (y_assign rfl rfl) ?_
        refine Ls_nil (Th_n (hK5 _ _ ?_))
        refine Wp_seq fun K6 hK6 => ?_
        refine Wp_seq fun K7 hK7 => ?_
        refine Wp_region ?_
        refine Ls_y (wtd0 rfl) rfl rfl (y_move rfl rfl) ?_
        refine Ls_y (wtd0 rfl) rfl rfl (y_move rfl rfl) ?_
        refine Ls_y (wtd0 rfl) rfl rfl (y_neF rfl rfl rfl (by omega)) ?_
        refine Ls_y (wtd0 rfl) rfl rfl (y_move rfl rfl) ?_
        refine Ls_y (wtdT rfl rfl rfl) rfl rfl (y_move rfl rfl) ?_
        refine Ls_y (wtdT rfl rfl rfl) rfl rfl (y_neF rfl rfl rfl (by omega)) ?_
        refine Ls_y (wtd0 rfl) rfl rfl (y_pick_f rfl rfl rfl) ?_
        refine Ls_y (wtd0 rfl) rfl rfl (y_move rfl rfl) ?_
        refine Ls_y (wtdT rfl rfl rfl) rfl rfl (y_move rfl rfl) ?_
        refine Ls_y (wtdT rfl rfl rfl) rfl rfl (y_eqnp rfl rfl rfl Try.underlying67) ?_
        refine Ls_bool 42 rfl (fun hc3 => absurd hc3 (by simp)) (fun _ => ?_)
        refine Ls_y (wtd0 rfl) rfl rfl (y_pick_f rfl rfl rfl) ?_
        refine Ls_nil (Th_n (hK7 _ _ ?_))
        refine Wp_cond_f rfl ?_
        refine Wp_skip (Th_n (hK6 _ _ ?_))
        refine Wp_seq fun K8 hK8 => ?_
        refine Wp_seq fun K9 hK9 => ?_
        refine Wp_region ?_
        refine Ls_y (wtd0 rfl) rfl rfl (y_assign rfl rfl) ?_
        refine Ls_nil (Th_n (hK9 _ _ ?_))
        refine Wp_block ?_
        refine Wp_loopE (fun m e W => ∃ (k : Nat) (D : Dk) (rl : Int) (q : Dp), k ≤ ops.length ∧ m = ops.length - k ∧ e = [(1, .slice A ops.length c), (5, .pointer (some ⟨p.gd, 0, none⟩)), (7, .pointer (some ⟨q.gd, 0, none⟩)), (9, .int .i64 (k : Int))] ∧
          Hp W (dkH p D ++ rkH q { D with left := rl }) ∧ DkOk D ∧ DkOk { D with left := rl } ∧ RelD D { D with left := rl } ∧ Fr [] w W ∧ (∀ y ∈ [q.gd, q.gn, q.gl], w.heap.size ≤ y)) (ops.length) [(1, _), (5, _), (7, _), (9, _)] ⟨rfl, rfl, rfl, rfl, trivial⟩ ?_ ?_
        · exact ⟨0, newD n, 0, q, by omega, by omega, rfl, hp, newD_ok hn.1 hn.2, newD_ok hn.1 hn.2, RelD.refl _, hF, hrk⟩
        rintro m e W ⟨k, D, rl, q, hk, rfl, rfl, hp, hD, hR, hRel, hF, hrk⟩
        have hp : Hp W [(_, Cl [_, _, _, _, _] _), _, _, (_, Cl [_, _, _, _, _] _), _, _] := hp
        refine Wp_seq fun K11 hK11 => ?_
        refine Wp_seq fun K12 hK12 => ?_
        refine Wp_region ?_
        refine Ls_y (wtd0 rfl) rfl rfl (y_move rfl rfl) ?_
        refine Ls_y (wtd0 rfl) rfl rfl (y_move rfl rfl) ?_
        refine Ls_y (wtd0 rfl) rfl rfl (y_lenl rfl rfl Try.underlying66) ?_
        refine Ls_y (wtd0 rfl) rfl rfl (y_lt rfl rfl rfl) ?_
        refine Ls_bool 58 rfl (fun hlt => ?_) (fun hlt => ?_)
        all_goals try simp only [decide_eq_true_eq, decide_eq_false_iff_not, beq_iff_eq, bne_iff_ne, ne_eq, beq_eq_false_iff_ne, bne_eq_false_iff_eq, Bool.not_eq_true, Bool.not_eq_false] at hlt
        · refine Ls_y (wtd0 rfl) rfl rfl (y_move rfl rfl) ?_
          refine Ls_y (wtdT rfl rfl rfl) rfl rfl (y_move rfl rfl) ?_
          refine Ls_y (wtdT rfl rfl rfl) rfl rfl (y_lt rfl rfl rfl) ?_
          refine Ls_bool 61 rfl (fun h60 => ?_) (fun h60 => ?_)
          all_goals try simp only [decide_eq_true_eq, decide_eq_false_iff_not, beq_iff_eq, bne_iff_ne, ne_eq, beq_eq_false_iff_ne, bne_eq_false_iff_eq, Bool.not_eq_true, Bool.not_eq_false] at h60
          · have hk1 : k < ops.length := by omega
            have ho : ops[k]? = some ops[k] := List.getElem?_eq_getElem hk1
            obtain ⟨ga, ba, rfl, hrow⟩ := ops_row (hA.keep hF (Nat.le_refl _) (by simp)) ho
            have hO := hops _ (List.getElem_mem hk1)
            generalize ops[k] = o at hrow hO
            obtain ⟨kd, ii, s, cg, cq, cf, cd, K, ks, kc⟩ := o
            have hs1 := hO.s1
            have hd1 := hO.d1
            have hkl1 := hO.k1
            simp only at hs1 hd1 hkl1
            refine Ls_y (wtd0 rfl) rfl rfl (y_pick_t rfl rfl rfl) ?_
            refine Ls_nil (Th_n (hK12 _ _ ?_))
            refine Wp_cond_t rfl ?_
            refine Wp_skip (Th_n (hK11 _ _ ?_))
            refine Wp_seq fun K13 hK13 => ?_
            refine Wp_block ?_
            refine Wp_seq fun K14 hK14 => ?_
            refine Wp_region ?_
            refine Ls_y (wtd0 rfl) rfl rfl (y_move rfl rfl) ?_
            refine Ls_y (wtd0 rfl) rfl rfl (y_move rfl rfl) ?_
            first
              | refine Ls_y (wtd0 rfl) rfl rfl (y_ixaN rfl rfl rfl Ty.es_66 (by omega)) ?_
              | refine Ls_y (wtd0 rfl) rfl rfl (y_ixa rfl rfl rfl Ty.es_66 (by omega) (by omega)) ?_
            refine Ls_y (wtd0 rfl) rfl rfl (y_loadr (cs := [.int .i64 kd, .int .i64 ii, sv s, .int .u16 cg, .int .u32 cq, .int .u8 cf, sv cd, .slice K ks.length kc]) rfl rfl Ty.ag_75 rfl (fun _ e => e ▸ hrow)) ?_
            refine Ls_a (wtd0 rfl) ?_
            refine a_alloc rfl rfl rfl Ty.zc_75 hp (fun g1 w1 (hp : Hp w1 [(_, Cl [_, _, _, _, _] _), _, _, (_, Cl [_, _, _, _, _] _), _, _, (_, Cl [_, _, _, _, _, _, _, _] _)]) hf hg1 => ?_)
            have hg1 := Nat.le_trans hF.size hg1
            have hF := hF.step0 hf
            refine Ls_a (wtd0 rfl) ?_
            first
              | refine a_storew (i := 0) rfl rfl rfl rfl Ty.sz_75 rfl (by first | assumption | (simp [Value.oneCell']; done)) hp rfl rfl (fun w2 (hp : Hp w2 [(_, Cl [_, _, _, _, _] _), _, _, (_, Cl [_, _, _, _, _] _), _, _, (_, Cl [_, _, _, _, _, _, _, _] _)]) hf _ => ?_)
              | refine a_storew (i := 1) rfl rfl rfl rfl Ty.sz_75 rfl (by first | assumption | (simp [Value.oneCell']; done)) hp rfl rfl (fun w2 (hp : Hp w2 [(_, Cl [_, _, _, _, _] _), _, _, (_, Cl [_, _, _, _, _] _), _, _, (_, Cl [_, _, _, _, _, _, _, _] _)]) hf _ => ?_)
              | refine a_storew (i := 2) rfl rfl rfl rfl Ty.sz_75 rfl (by first | assumption | (simp [Value.oneCell']; done)) hp rfl rfl (fun w2 (hp : Hp w2 [(_, Cl [_, _, _, _, _] _), _, _, (_, Cl [_, _, _, _, _] _), _, _, (_, Cl [_, _, _, _, _, _, _, _] _)]) hf _ => ?_)
              | refine a_storew (i := 3) rfl rfl rfl rfl Ty.sz_75 rfl (by first | assumption | (simp [Value.oneCell']; done)) hp rfl rfl (fun w2 (hp : Hp w2 [(_, Cl [_, _, _, _, _] _), _, _, (_, Cl [_, _, _, _, _] _), _, _, (_, Cl [_, _, _, _, _, _, _, _] _)]) hf _ => ?_)
              | refine a_storew (i := 4) rfl rfl rfl rfl Ty.sz_75 rfl (by first | assumption | (simp [Value.oneCell']; done)) hp rfl rfl (fun w2 (hp : Hp w2 [(_, Cl [_, _, _, _, _] _), _, _, (_, Cl [_, _, _, _, _] _), _, _, (_, Cl [_, _, _, _, _, _, _, _] _)]) hf _ => ?_)
              | refine a_storew (i := 5) rfl rfl rfl rfl Ty.sz_75 rfl (by first | assumption | (simp [Value.oneCell']; done)) hp rfl rfl (fun w2 (hp : Hp w2 [(_, Cl [_, _, _, _, _] _), _, _, (_, Cl [_, _, _, _, _] _), _, _, (_, Cl [_, _, _, _, _, _, _, _] _)]) hf _ => ?_)
              | refine a_storew (i := 6) rfl rfl rfl rfl Ty.sz_75 rfl (by first | assumption | (simp [Value.oneCell']; done)) hp rfl rfl (fun w2 (hp : Hp w2 [(_, Cl [_, _, _, _, _] _), _, _, (_, Cl [_, _, _, _, _] _), _, _, (_, Cl [_, _, _, _, _, _, _, _] _)]) hf _ => ?_)
            have hF := hF.step hf (by intro y hy; simp only [List.mem_cons, List.not_mem_nil, or_false] at hy; subst hy; first | (exact Or.inr (by omega)) | (exact Or.inl (by simp)))
            refine Ls_nil (Th_n (hK14 _ _ ?_))
            refine Wp_seq fun K15 hK15 => ?_
            refine Wp_seq fun K16 hK16 => ?_
            refine Wp_region ?_
            first
              | refine Ls_y (wtd0 rfl) rfl rfl (y_loadw (i := 0) rfl rfl Ty.ag_75 (fun _ e => e ▸ hp) rfl rfl) ?_
              | refine Ls_y (wtd0 rfl) rfl rfl (y_loadw (i := 1) rfl rfl Ty.ag_75 (fun _ e => e ▸ hp) rfl rfl) ?_
              | refine Ls_y (wtd0 rfl) rfl rfl (y_loadw (i := 2) rfl rfl Ty.ag_75 (fun _ e => e ▸ hp) rfl rfl) ?_
              | refine Ls_y (wtd0 rfl) rfl rfl (y_loadw (i := 3) rfl rfl Ty.ag_75 (fun _ e => e ▸ hp) rfl rfl) ?_
              | refine Ls_y (wtd0 rfl) rfl rfl (y_loadw (i := 4) rfl rfl Ty.ag_75 (fun _ e => e ▸ hp) rfl rfl) ?_
              | refine Ls_y (wtd0 rfl) rfl rfl (y_loadw (i := 5) rfl rfl Ty.ag_75 (fun _ e => e ▸ hp) rfl rfl) ?_
              | refine Ls_y (wtd0 rfl) rfl rfl (y_loadw (i := 6) rfl rfl Ty.ag_75 (fun _ e => e ▸ hp) rfl rfl) ?_
            refine Ls_a (wtd0 rfl) ?_
            refine a_call rfl rfl rfl rfl (great_ok kd ii cg cq cf s cd K ks.length kc _ hkl1 hs1 hd1) (fun v wg ⟨hv, hf⟩ => ?_)
            subst hv
            have hp := hp.keep0 hf
            have hF := hF.step0 hf
            refine Ls_nil (Th_n (hK16 _ _ ?_))
            refine Wp_cond rfl (fun hgr => ?_) (fun hgr => ?_)
            all_goals try simp only [decide_eq_true_eq, decide_eq_false_iff_not, beq_iff_eq, bne_iff_ne, ne_eq, beq_eq_false_iff_ne, bne_eq_false_iff_eq, Bool.not_eq_true] at hgr
            · refine Wp_seq fun K17 hK17 => ?_
              refine Wp_region ?_
              refine Ls_y (wtd0 rfl) rfl rfl (y_assign rfl rfl) ?_
              refine Ls_nil (Th_n (hK17 _ _ ?_))
              refine Wp_ret (Th_r (Ib_r (Th_r (Th_r (Ib_r (Th_r (Fq_ret (Res1 rfl rfl) ?_)))))))
              exact ⟨rfl, hF⟩
            · refine Wp_skip (Th_n (hK15 _ _ ?_))
              refine Wp_seq fun K18 hK18 => ?_
              refine Wp_region ?_
              refine Ls_y (wtd0 rfl) rfl rfl (y_assign rfl rfl) ?_
              refine Ls_nil (Th_n (hK18 _ _ ?_))
              refine Wp_seq fun K19 hK19 => ?_
              refine Wp_seq fun K20 hK20 => ?_
              refine Wp_region ?_
              refine Ls_y (wtd0 rfl) rfl rfl (y_fld rfl rfl Ty.fo_75_0) ?_
              first
                | refine Ls_y (wtd0 rfl) rfl rfl (y_load (i := 0) rfl rfl Ty.pl_3 (fun _ e => e ▸ hp) rfl rfl) ?_
                | refine Ls_y (wtd0 rfl) rfl rfl (y_load (i := 1) rfl rfl Ty.pl_3 (fun _ e => e ▸ hp) rfl rfl) ?_
                | refine Ls_y (wtd0 rfl) rfl rfl (y_load (i := 2) rfl rfl Ty.pl_3 (fun _ e => e ▸ hp) rfl rfl) ?_
                | refine Ls_y (wtd0 rfl) rfl rfl (y_load (i := 3) rfl rfl Ty.pl_3 (fun _ e => e ▸ hp) rfl rfl) ?_
                | refine Ls_y (wtd0 rfl) rfl rfl (y_load (i := 4) rfl rfl Ty.pl_3 (fun _ e => e ▸ hp) rfl rfl) ?_
                | refine Ls_y (wtd0 rfl) rfl rfl (y_load (i := 5) rfl rfl Ty.pl_3 (fun _ e => e ▸ hp) rfl rfl) ?_
                | refine Ls_y (wtd0 rfl) rfl rfl (y_load (i := 6) rfl rfl Ty.pl_3 (fun _ e => e ▸ hp) rfl rfl) ?_
              refine Ls_nil (Th_n (hK20 _ _ ?_))
              refine Wp_block ?_
              refine Wp_seq fun K21 hK21 => ?_
              refine Wp_region ?_
              refine Ls_y (wtd0 rfl) rfl rfl (y_eq rfl rfl rfl) ?_
              refine Ls_bool 84 rfl (fun hc7 => ?_) (fun hc7 => ?_)
              all_goals try simp only [decide_eq_true_eq, decide_eq_false_iff_not, beq_iff_eq, bne_iff_ne, ne_eq, beq_eq_false_iff_ne, bne_eq_false_iff_eq, Bool.not_eq_true, Bool.not_eq_false] at hc7
              · refine Ls_y (wtd0 rfl) rfl rfl (y_assign rfl rfl) ?_
                refine Ls_nil (Th_n (hK21 _ _ ?_))
                refine Wp_cond_t rfl ?_
                refine Wp_plan (fun W => Hp W (pickL (heapOf hp) [6])) [(true, 0), (true, 1), (true, 2), (true, 3), (true, 4), (true, 6), (true, 7), (true, 8), (true, 9), (true, 10), (false, 5), (false, 11), (true, 12), (true, 13)] Ty.mx_0 (by kernel_rfl) (by kernel_rfl) rfl ((hp.picks [6] (by decide)).drew) ?_
                have hp := hp.drew
                have hF := hF.step0 (Fr.drew _)
                refine Pl_y rfl (wtd0 rfl) rfl rfl (y_move rfl rfl) ?_
                refine Pl_y rfl (wtd0 rfl) rfl rfl (y_fld rfl rfl Ty.fo_75_1) ?_
                refine Pl_y rfl (wtd0 rfl) rfl rfl (y_load (i := 0) rfl rfl Ty.pl_3 (fun _ h => h) rfl rfl) ?_
                refine Pl_y rfl (wtd0 rfl) rfl rfl (y_fld rfl rfl Ty.fo_75_2) ?_
                refine Pl_y rfl (wtd0 rfl) rfl rfl (y_load (i := 0) rfl rfl Ty.pl_9 (fun _ h => h) rfl rfl) ?_
                refine Pl_y rfl (wtd0 rfl) rfl rfl (y_move rfl rfl) ?_
                refine Pl_y rfl (wtd0 rfl) rfl rfl (y_fld rfl rfl Ty.fo_75_1) ?_
                refine Pl_y rfl (wtd0 rfl) rfl rfl (y_load (i := 0) rfl rfl Ty.pl_3 (fun _ h => h) rfl rfl) ?_
                refine Pl_y rfl (wtd0 rfl) rfl rfl (y_fld rfl rfl Ty.fo_75_2) ?_
                refine Pl_y rfl (wtd0 rfl) rfl rfl (y_load (i := 0) rfl rfl Ty.pl_9 (fun _ h => h) rfl rfl) ?_
                refine Pl_a rfl (wtd0 rfl) (by rfl) ?_
                refine a_call rfl rfl rfl rfl (dwrite_m p D _ (hp.picks [0, 1, 2] (by decide)) hD ii (s)) (fun v wd1 ⟨hv, hM⟩ => ?_)
                subst hv
                have hp : Hp wd1 [(_, Cl [_, _, _, _, _] _), _, _, (_, Cl [_, _, _, _, _, _, _, _] _), (_, Cl [_, _, _, _, _] _), _, _] := hp.call [3, 4, 5, 6] [0, 1, 2] (by decide) rfl hM
                have hF := hF.step hM.fr (fun y hy => Or.inr (hdk y hy))
                refine ⟨hp.picks [3] (by decide), ?_⟩
                refine Pl_a rfl (wtd0 rfl) (by rfl) ?_
                refine a_call rfl rfl rfl rfl (rwrite_ok q { D with left := rl } _ (hp.picks [0, 1, 2] (by decide)) hR ii (s)) (fun v wd2 ⟨hv, hM⟩ => ?_)
                subst hv
                have hp : Hp wd2 [(_, Cl [_, _, _, _, _, _, _, _] _), (_, Cl [_, _, _, _, _] _), _, _, (_, Cl [_, _, _, _, _] _), _, _] := hp.call [3, 4, 5, 6] [0, 1, 2] (by decide) rfl hM
                have hF := hF.step hM.fr (fun y hy => Or.inr (hrk y hy))
                refine ⟨hp.picks [0] (by decide), ?_⟩
                refine Pl_y rfl (wtd0 rfl) rfl rfl (y_eq rfl rfl rfl) ?_
                refine Pl_bool 97 rfl (fun _ => ?_) (fun hc9 => absurd hc9 (by simp [hRel.writeE]))
                have hRel2 : RelD (writeD D ii (s)) (rwriteD { D with left := rl } ii (s)) := hRel.writeD _ _
                have hD2 : DkOk (writeD D ii (s)) := writeD_ok hD _ _
                have hR2 : DkOk (rwriteD { D with left := rl } ii (s)) := rwriteD_ok hR _ _
                have hrk2 : ∀ y ∈ [(q).gd, (q).gn, (q).gl], w.heap.size ≤ y := hrk
                have hq : Hp _ (dkH p (writeD D ii (s)) ++ rkH (q) (rwriteD { D with left := rl } ii (s))) := (hp.picks [1, 2, 3, 4, 5, 6] (by decide))
                rw [hRel2.eq] at hq hR2 hRel2
                refine Pl_y rfl (wtd0 rfl) rfl rfl (y_assign rfl rfl) ?_
                refine Pl_nil (Ib_n (Th_n (hK19 _ _ ?_)))
                refine Wp_seq fun K22 hK22 => ?_
                refine Wp_region ?_
                refine Ls_y (wtd0 rfl) rfl rfl (y_move rfl rfl) ?_
                refine Ls_y (wtd0 rfl) rfl rfl (y_not rfl rfl) ?_
                refine Ls_y (wtd0 rfl) rfl rfl (y_move rfl rfl) ?_
                refine Ls_y (wtdT rfl rfl rfl) rfl rfl (y_move rfl rfl) ?_
                refine Ls_y (wtdT rfl rfl rfl) rfl rfl (y_move rfl rfl) ?_
                refine Ls_a (wtdT rfl rfl rfl) ?_
                refine a_call rfl rfl rfl rfl (lsame_ok p (q) (writeD D ii (s)) (rwriteD { D with left := rl } ii (s)).left _ hq hD2 hR2) (fun v wz ⟨hv, hf⟩ => ?_)
                subst hv
                have hq := hq.keep0 hf
                have hF := hF.step0 hf
                have hp := hp.keep0 hf
                refine Ls_y (wtdT rfl rfl rfl) rfl rfl (y_not rfl rfl) ?_
                refine Ls_y (wtd0 rfl) rfl rfl (y_pick_f rfl rfl rfl) ?_
                refine Ls_nil (Th_n (hK22 _ _ ?_))
                refine Wp_cond_f rfl ?_
                refine Wp_skip (Ib_n (Th_n (hK13 _ _ ?_)))
                refine Wp_region ?_
                refine Ls_y (wtd0 rfl) rfl rfl (y_move rfl rfl) ?_
                first
                  | refine Ls_y (wtd0 rfl) rfl rfl (y_add rfl rfl rfl (w_succ (by omega))) ?_
                  | refine Ls_y (wtd0 rfl) rfl rfl (y_add rfl rfl rfl (wf_i64 (by omega))) ?_
                  | refine Ls_y (wtd0 rfl) rfl rfl (y_add rfl rfl rfl rfl) ?_
                refine Ls_y (wtd0 rfl) rfl rfl (y_assign rfl rfl) ?_
                refine Ls_nil (Th_n (?_))
                exact ⟨ops.length - (k + 1), [(1, _), (5, _), (7, _), (9, _)], by omega, ⟨rfl, rfl, rfl, rfl, trivial⟩, k + 1, writeD D ii (s), (rwriteD { D with left := rl } ii (s)).left, q, by omega, rfl, rfl, hq, hD2, hR2, hRel2, hF, hrk2⟩
              · refine Ls_y (wtd0 rfl) rfl rfl (y_assign rfl rfl) ?_
                refine Ls_nil (Th_n (hK21 _ _ ?_))
                refine Wp_cond_f rfl ?_
                refine Wp_seq fun K23 hK23 => ?_
                refine Wp_region ?_
                refine Ls_y (wtd0 rfl) rfl rfl (y_eq rfl rfl rfl) ?_
                refine Ls_bool 99 rfl (fun hc10 => ?_) (fun hc10 => ?_)
                all_goals try simp only [decide_eq_true_eq, decide_eq_false_iff_not, beq_iff_eq, bne_iff_ne, ne_eq, beq_eq_false_iff_ne, bne_eq_false_iff_eq, Bool.not_eq_true, Bool.not_eq_false] at hc10
                · refine Ls_y (wtd0 rfl) rfl rfl (y_assign rfl rfl) ?_
                  refine Ls_nil (Th_n (hK23 _ _ ?_))
                  refine Wp_cond_t rfl ?_
                  refine Wp_seq fun K24 hK24 => ?_
                  refine Wp_region ?_
                  refine Ls_y (wtd0 rfl) rfl rfl (y_fld rfl rfl Ty.fo_75_3) ?_
                  refine Ls_y (wtd0 rfl) rfl rfl (y_loadm (i := 6) rfl rfl Ty.ag_25 (fun _ e => e ▸ hp) rfl rfl rfl) ?_
                  refine Ls_a (wtd0 rfl) ?_
                  refine a_call rfl rfl rfl rfl (rpack_ok cg cq cf cd _ hO.g0 hO.g1 hO.q0 hO.q1 hO.f0 hO.f1) (fun v wp ⟨hv, hf⟩ => ?_)
                  subst hv
                  have hp := hp.keep0 hf
                  have hF := hF.step0 hf
                  refine Ls_y (wtd0 rfl) rfl rfl (y_move rfl rfl) ?_
                  refine Ls_y (wtd0 rfl) rfl rfl (y_ext rfl rfl rfl) ?_
                  refine Ls_y (wtd0 rfl) rfl rfl (y_ext rfl rfl rfl) ?_
                  refine Ls_y (wtd0 rfl) rfl rfl (y_assign rfl rfl) ?_
                  refine Ls_y (wtd0 rfl) rfl rfl (y_assign rfl rfl) ?_
                  refine Ls_nil (Th_n (hK24 _ _ ?_))
                  refine Wp_plan (fun W => Hp W (pickL (heapOf hp) [6])) [(true, 0), (true, 1), (true, 2), (true, 3), (true, 5), (true, 6), (true, 7), (true, 8), (false, 4), (false, 9), (true, 10), (true, 11)] Ty.mx_0 (by kernel_rfl) (by kernel_rfl) rfl ((hp.picks [6] (by decide)).drew) ?_
                  have hp := hp.drew
                  have hF := hF.step0 (Fr.drew _)
                  refine Pl_y rfl (wtd0 rfl) rfl rfl (y_move rfl rfl) ?_
                  refine Pl_y rfl (wtd0 rfl) rfl rfl (y_fld rfl rfl Ty.fo_75_1) ?_
                  refine Pl_y rfl (wtd0 rfl) rfl rfl (y_load (i := 0) rfl rfl Ty.pl_3 (fun _ h => h) rfl rfl) ?_
                  refine Pl_y rfl (wtd0 rfl) rfl rfl (y_move rfl rfl) ?_
                  refine Pl_y rfl (wtd0 rfl) rfl rfl (y_move rfl rfl) ?_
                  refine Pl_y rfl (wtd0 rfl) rfl rfl (y_fld rfl rfl Ty.fo_75_1) ?_
                  refine Pl_y rfl (wtd0 rfl) rfl rfl (y_load (i := 0) rfl rfl Ty.pl_3 (fun _ h => h) rfl rfl) ?_
                  refine Pl_y rfl (wtd0 rfl) rfl rfl (y_move rfl rfl) ?_
                  refine Pl_a rfl (wtd0 rfl) (by rfl) ?_
                  refine a_call rfl rfl rfl rfl (dwrite_m p D _ (hp.picks [0, 1, 2] (by decide)) hD ii (packS cg cq cf cd)) (fun v wd1 ⟨hv, hM⟩ => ?_)
                  subst hv
                  have hp : Hp wd1 [(_, Cl [_, _, _, _, _] _), _, _, (_, Cl [_, _, _, _, _, _, _, _] _), (_, Cl [_, _, _, _, _] _), _, _] := hp.call [3, 4, 5, 6] [0, 1, 2] (by decide) rfl hM
                  have hF := hF.step hM.fr (fun y hy => Or.inr (hdk y hy))
                  refine ⟨hp.picks [3] (by decide), ?_⟩
                  refine Pl_a rfl (wtd0 rfl) (by rfl) ?_
                  refine a_call rfl rfl rfl rfl (rwrite_ok q { D with left := rl } _ (hp.picks [0, 1, 2] (by decide)) hR ii (packS cg cq cf cd)) (fun v wd2 ⟨hv, hM⟩ => ?_)
                  subst hv
                  have hp : Hp wd2 [(_, Cl [_, _, _, _, _, _, _, _] _), (_, Cl [_, _, _, _, _] _), _, _, (_, Cl [_, _, _, _, _] _), _, _] := hp.call [3, 4, 5, 6] [0, 1, 2] (by decide) rfl hM
                  have hF := hF.step hM.fr (fun y hy => Or.inr (hrk y hy))
                  refine ⟨hp.picks [0] (by decide), ?_⟩
                  refine Pl_y rfl (wtd0 rfl) rfl rfl (y_eq rfl rfl rfl) ?_
                  refine Pl_bool 116 rfl (fun _ => ?_) (fun hc12 => absurd hc12 (by simp [hRel.writeE]))
                  have hRel2 : RelD (writeD D ii (packS cg cq cf cd)) (rwriteD { D with left := rl } ii (packS cg cq cf cd)) := hRel.writeD _ _
                  have hD2 : DkOk (writeD D ii (packS cg cq cf cd)) := writeD_ok hD _ _
                  have hR2 : DkOk (rwriteD { D with left := rl } ii (packS cg cq cf cd)) := rwriteD_ok hR _ _
                  have hrk2 : ∀ y ∈ [(q).gd, (q).gn, (q).gl], w.heap.size ≤ y := hrk
                  have hq : Hp _ (dkH p (writeD D ii (packS cg cq cf cd)) ++ rkH (q) (rwriteD { D with left := rl } ii (packS cg cq cf cd))) := (hp.picks [1, 2, 3, 4, 5, 6] (by decide))
                  rw [hRel2.eq] at hq hR2 hRel2
                  refine Pl_y rfl (wtd0 rfl) rfl rfl (y_assign rfl rfl) ?_
                  refine Pl_nil (Ib_n (Th_n (hK19 _ _ ?_)))
                  refine Wp_seq fun K25 hK25 => ?_
                  refine Wp_region ?_
                  refine Ls_y (wtd0 rfl) rfl rfl (y_move rfl rfl) ?_
                  refine Ls_y (wtd0 rfl) rfl rfl (y_not rfl rfl) ?_
                  refine Ls_y (wtd0 rfl) rfl rfl (y_move rfl rfl) ?_
                  refine Ls_y (wtdT rfl rfl rfl) rfl rfl (y_move rfl rfl) ?_
                  refine Ls_y (wtdT rfl rfl rfl) rfl rfl (y_move rfl rfl) ?_
                  refine Ls_a (wtdT rfl rfl rfl) ?_
                  refine a_call rfl rfl rfl rfl (lsame_ok p (q) (writeD D ii (packS cg cq cf cd)) (rwriteD { D with left := rl } ii (packS cg cq cf cd)).left _ hq hD2 hR2) (fun v wz ⟨hv, hf⟩ => ?_)
                  subst hv
                  have hq := hq.keep0 hf
                  have hF := hF.step0 hf
                  have hp := hp.keep0 hf
                  refine Ls_y (wtdT rfl rfl rfl) rfl rfl (y_not rfl rfl) ?_
                  refine Ls_y (wtd0 rfl) rfl rfl (y_pick_f rfl rfl rfl) ?_
                  refine Ls_nil (Th_n (hK25 _ _ ?_))
                  refine Wp_cond_f rfl ?_
                  refine Wp_skip (Ib_n (Th_n (hK13 _ _ ?_)))
                  refine Wp_region ?_
                  refine Ls_y (wtd0 rfl) rfl rfl (y_move rfl rfl) ?_
                  first
                    | refine Ls_y (wtd0 rfl) rfl rfl (y_add rfl rfl rfl (w_succ (by omega))) ?_
                    | refine Ls_y (wtd0 rfl) rfl rfl (y_add rfl rfl rfl (wf_i64 (by omega))) ?_
                    | refine Ls_y (wtd0 rfl) rfl rfl (y_add rfl rfl rfl rfl) ?_
                  refine Ls_y (wtd0 rfl) rfl rfl (y_assign rfl rfl) ?_
                  refine Ls_nil (Th_n (?_))
                  exact ⟨ops.length - (k + 1), [(1, _), (5, _), (7, _), (9, _)], by omega, ⟨rfl, rfl, rfl, rfl, trivial⟩, k + 1, writeD D ii (packS cg cq cf cd), (rwriteD { D with left := rl } ii (packS cg cq cf cd)).left, q, by omega, rfl, rfl, hq, hD2, hR2, hRel2, hF, hrk2⟩
                · refine Ls_y (wtd0 rfl) rfl rfl (y_assign rfl rfl) ?_
                  refine Ls_nil (Th_n (hK23 _ _ ?_))
                  refine Wp_cond_f rfl ?_
                  refine Wp_seq fun K26 hK26 => ?_
                  refine Wp_region ?_
                  refine Ls_y (wtd0 rfl) rfl rfl (y_eq rfl rfl rfl) ?_
                  refine Ls_bool 118 rfl (fun hc13 => ?_) (fun hc13 => ?_)
                  all_goals try simp only [decide_eq_true_eq, decide_eq_false_iff_not, beq_iff_eq, bne_iff_ne, ne_eq, beq_eq_false_iff_ne, bne_eq_false_iff_eq, Bool.not_eq_true, Bool.not_eq_false] at hc13
                  · refine Ls_y (wtd0 rfl) rfl rfl (y_assign rfl rfl) ?_
                    refine Ls_nil (Th_n (hK26 _ _ ?_))
                    refine Wp_cond_t rfl ?_
                    refine Wp_region ?_
                    refine Ls_y (wtd0 rfl) rfl rfl (y_move rfl rfl) ?_
                    refine Ls_a (wtd0 rfl) ?_
                    refine a_call rfl rfl rfl rfl (dsync_m p D _ (hp.picks [0, 1, 2] (by decide)) hD) (fun v wd1 ⟨hv, hM⟩ => ?_)
                    subst hv
                    have hp : Hp wd1 [(_, Cl [_, _, _, _, _] _), _, _, (_, Cl [_, _, _, _, _, _, _, _] _), (_, Cl [_, _, _, _, _] _), _, _] := hp.call [3, 4, 5, 6] [0, 1, 2] (by decide) rfl hM
                    have hF := hF.step hM.fr (fun y hy => Or.inr (hdk y hy))
                    refine Ls_y (wtd0 rfl) rfl rfl (y_move rfl rfl) ?_
                    have hzz := hF.size
                    refine Ls_a (wtd0 rfl) ?_
                    refine a_call rfl rfl rfl rfl (rsync_ok q { D with left := rl } _ (hp.picks [0, 1, 2] (by decide)) hR) (fun v wd2 ⟨hv, gl, cl, sl, hM⟩ => ?_)
                    subst hv
                    have hp : Hp wd2 [(_, Cl [_, _, _, _, _, _, _, _] _), (_, Cl [_, _, _, _, _] _), _, _, (_, Cl [_, _, _, _, _] _), _, _] := hp.call [3, 4, 5, 6] [0, 1, 2] (by decide) rfl hM
                    have hF := hF.step hM.fr (fun y hy => Or.inr (hrk y hy))
                    refine Ls_y (wtd0 rfl) rfl rfl (y_eq rfl rfl rfl) ?_
                    refine Ls_bool 123 rfl (fun _ => ?_) (fun hc14 => absurd hc14 (by simp [hRel.syncE]))
                    have hRel2 : RelD (syncD D) (rsyncD { D with left := rl }) := hRel.syncD
                    have hD2 : DkOk (syncD D) := syncD_ok hD
                    have hR2 : DkOk (rsyncD { D with left := rl }) := rsyncD_ok hR
                    have hrk2 : ∀ y ∈ [({ q with gl := gl, cl := cl, sl := sl }).gd, ({ q with gl := gl, cl := cl, sl := sl }).gn, ({ q with gl := gl, cl := cl, sl := sl }).gl], w.heap.size ≤ y := fun y hy => by
                      rcases hM.nw y hy with h | h
                      · exact hrk y h
                      · exact Nat.le_trans hzz h
                    have hq : Hp _ (dkH p (syncD D) ++ rkH ({ q with gl := gl, cl := cl, sl := sl }) (rsyncD { D with left := rl })) := (hp.picks [1, 2, 3, 4, 5, 6] (by decide))
                    rw [hRel2.eq] at hq hR2 hRel2
                    refine Ls_y (wtd0 rfl) rfl rfl (y_assign rfl rfl) ?_
                    refine Ls_nil (Ib_n (Th_n (hK19 _ _ ?_)))
                    refine Wp_seq fun K27 hK27 => ?_
                    refine Wp_region ?_
                    refine Ls_y (wtd0 rfl) rfl rfl (y_move rfl rfl) ?_
                    refine Ls_y (wtd0 rfl) rfl rfl (y_not rfl rfl) ?_
                    refine Ls_y (wtd0 rfl) rfl rfl (y_move rfl rfl) ?_
                    refine Ls_y (wtdT rfl rfl rfl) rfl rfl (y_move rfl rfl) ?_
                    refine Ls_y (wtdT rfl rfl rfl) rfl rfl (y_move rfl rfl) ?_
                    refine Ls_a (wtdT rfl rfl rfl) ?_
                    refine a_call rfl rfl rfl rfl (lsame_ok p ({ q with gl := gl, cl := cl, sl := sl }) (syncD D) (rsyncD { D with left := rl }).left _ hq hD2 hR2) (fun v wz ⟨hv, hf⟩ => ?_)
                    subst hv
                    have hq := hq.keep0 hf
                    have hF := hF.step0 hf
                    have hp := hp.keep0 hf
                    refine Ls_y (wtdT rfl rfl rfl) rfl rfl (y_not rfl rfl) ?_
                    refine Ls_y (wtd0 rfl) rfl rfl (y_pick_f rfl rfl rfl) ?_
                    refine Ls_nil (Th_n (hK27 _ _ ?_))
                    refine Wp_cond_f rfl ?_
                    refine Wp_skip (Ib_n (Th_n (hK13 _ _ ?_)))
                    refine Wp_region ?_
                    refine Ls_y (wtd0 rfl) rfl rfl (y_move rfl rfl) ?_
                    first
                      | refine Ls_y (wtd0 rfl) rfl rfl (y_add rfl rfl rfl (w_succ (by omega))) ?_
                      | refine Ls_y (wtd0 rfl) rfl rfl (y_add rfl rfl rfl (wf_i64 (by omega))) ?_
                      | refine Ls_y (wtd0 rfl) rfl rfl (y_add rfl rfl rfl rfl) ?_
                    refine Ls_y (wtd0 rfl) rfl rfl (y_assign rfl rfl) ?_
                    refine Ls_nil (Th_n (?_))
                    exact ⟨ops.length - (k + 1), [(1, _), (5, _), (7, _), (9, _)], by omega, ⟨rfl, rfl, rfl, rfl, trivial⟩, k + 1, syncD D, (rsyncD { D with left := rl }).left, { q with gl := gl, cl := cl, sl := sl }, by omega, rfl, rfl, hq, hD2, hR2, hRel2, hF, hrk2⟩
                  · refine Ls_y (wtd0 rfl) rfl rfl (y_assign rfl rfl) ?_
                    refine Ls_nil (Th_n (hK26 _ _ ?_))
                    refine Wp_cond_f rfl ?_
                    refine Wp_seq fun K28 hK28 => ?_
                    refine Wp_region ?_
                    refine Ls_y (wtd0 rfl) rfl rfl (y_eq rfl rfl rfl) ?_
                    refine Ls_bool 125 rfl (fun hc15 => ?_) (fun hc15 => ?_)
                    all_goals try simp only [decide_eq_true_eq, decide_eq_false_iff_not, beq_iff_eq, bne_iff_ne, ne_eq, beq_eq_false_iff_ne, bne_eq_false_iff_eq, Bool.not_eq_true, Bool.not_eq_false] at hc15
                    · refine Ls_y (wtd0 rfl) rfl rfl (y_assign rfl rfl) ?_
                      refine Ls_nil (Th_n (hK28 _ _ ?_))
                      refine Wp_cond_t rfl ?_
                      refine Wp_seq fun K29 hK29 => ?_
                      refine Wp_region ?_
                      refine Ls_y (wtd0 rfl) rfl rfl (y_move rfl rfl) ?_
                      refine Ls_a (wtd0 rfl) ?_
                      refine a_call rfl rfl rfl rfl (dcopy_ok p D _ (hp.picks [0, 1, 2] (by decide)) hD) (fun v wc ⟨p3, hv, hN, _⟩ => ?_)
                      subst hv
                      have hp : Hp wc [(_, Cl [_, _, _, _, _] _), _, _, (_, Cl [_, _, _, _, _] _), _, _, (_, Cl [_, _, _, _, _, _, _, _] _), (_, Cl [_, _, _, _, _] _), _, _] := hp.add hN
                      have hck : ∀ y ∈ [p3.gd, p3.gn, p3.gl], w.heap.size ≤ y := fun y hy => Nat.le_trans hF.size (hN.nw y hy)
                      have hF := hF.step0 hN.fr
                      refine Ls_y (wtd0 rfl) rfl rfl (y_assign rfl rfl) ?_
                      refine Ls_nil (Th_n (hK29 _ _ ?_))
                      refine Wp_seq fun K30 hK30 => ?_
                      refine Wp_seq fun K31 hK31 => ?_
                      refine Wp_region ?_
                      refine Ls_y (wtd0 rfl) rfl rfl (y_move rfl rfl) ?_
                      refine Ls_y (wtd0 rfl) rfl rfl (y_eqnp rfl rfl rfl Try.underlying67) ?_
                      refine Ls_bool 129 rfl (fun hc16 => absurd hc16 (by simp)) (fun _ => ?_)
                      refine Ls_y (wtd0 rfl) rfl rfl (y_move rfl rfl) ?_
                      refine Ls_y (wtdT rfl rfl rfl) rfl rfl (y_move rfl rfl) ?_
                      refine Ls_y (wtdT rfl rfl rfl) rfl rfl (y_move rfl rfl) ?_
                      refine Ls_a (wtdT rfl rfl rfl) ?_
                      refine a_call rfl rfl rfl rfl (lsame_ok p3 q D rl _ (hp.picks [7, 8, 9, 3, 4, 5] (by decide)) hD hR) (fun v wz ⟨hv, hf⟩ => ?_)
                      subst hv
                      have hp := hp.keep0 hf
                      have hF := hF.step0 hf
                      refine Ls_y (wtdT rfl rfl rfl) rfl rfl (y_not rfl rfl) ?_
                      refine Ls_y (wtd0 rfl) rfl rfl (y_pick_f rfl rfl rfl) ?_
                      refine Ls_nil (Th_n (hK31 _ _ ?_))
                      refine Wp_cond_f rfl ?_
                      refine Wp_skip (Th_n (hK30 _ _ ?_))
                      refine Wp_seq fun K32 hK32 => ?_
                      refine Wp_region ?_
                      refine Ls_y (wtd0 rfl) rfl rfl (y_move rfl rfl) ?_
                      refine Ls_a (wtd0 rfl) ?_
                      refine a_call rfl rfl rfl rfl (dwrite_m p3 D _ (hp.picks [7, 8, 9] (by decide)) hD 0 [120]) (fun v wd1 ⟨hv, hM⟩ => ?_)
                      subst hv
                      have hp : Hp wd1 [(_, Cl [_, _, _, _, _] _), _, _, (_, Cl [_, _, _, _, _] _), _, _, (_, Cl [_, _, _, _, _, _, _, _] _), (_, Cl [_, _, _, _, _] _), _, _] := hp.call [0, 1, 2, 3, 4, 5, 6] [7, 8, 9] (by decide) rfl hM
                      have hF := hF.step hM.fr (fun y hy => Or.inr (hck y hy))
                      refine Ls_nil (Th_n (hK32 _ _ ?_))
                      refine Wp_region ?_
                      refine Ls_y (wtd0 rfl) rfl rfl (y_move rfl rfl) ?_
                      refine Ls_a (wtd0 rfl) ?_
                      refine a_call rfl rfl rfl rfl (dsync_m p3 (writeD D 0 [120]) _ (hp.picks [7, 8, 9] (by decide)) (writeD_ok hD _ _)) (fun v wd2 ⟨hv, hM⟩ => ?_)
                      subst hv
                      have hp : Hp wd2 [(_, Cl [_, _, _, _, _] _), _, _, (_, Cl [_, _, _, _, _] _), _, _, (_, Cl [_, _, _, _, _, _, _, _] _), (_, Cl [_, _, _, _, _] _), _, _] := hp.call [0, 1, 2, 3, 4, 5, 6] [7, 8, 9] (by decide) rfl hM
                      have hF := hF.step hM.fr (fun y hy => Or.inr (hck y hy))
                      refine Ls_nil (Ib_n (Th_n (hK19 _ _ ?_)))
                      have hRel2 : RelD (D) ({ D with left := rl }) := hRel
                      have hD2 : DkOk (D) := hD
                      have hR2 : DkOk ({ D with left := rl }) := hR
                      have hrk2 : ∀ y ∈ [(q).gd, (q).gn, (q).gl], w.heap.size ≤ y := hrk
                      have hq : Hp _ (dkH p (D) ++ rkH (q) ({ D with left := rl })) := (hp.picks [0, 1, 2, 3, 4, 5] (by decide))
                      rw [hRel2.eq] at hq hR2 hRel2
                      refine Wp_seq fun K33 hK33 => ?_
                      refine Wp_region ?_
                      refine Ls_y (wtd0 rfl) rfl rfl (y_move rfl rfl) ?_
                      refine Ls_y (wtd0 rfl) rfl rfl (y_not rfl rfl) ?_
                      refine Ls_y (wtd0 rfl) rfl rfl (y_move rfl rfl) ?_
                      refine Ls_y (wtdT rfl rfl rfl) rfl rfl (y_move rfl rfl) ?_
                      refine Ls_y (wtdT rfl rfl rfl) rfl rfl (y_move rfl rfl) ?_
                      refine Ls_a (wtdT rfl rfl rfl) ?_
                      refine a_call rfl rfl rfl rfl (lsame_ok p (q) (D) ({ D with left := rl }).left _ hq hD2 hR2) (fun v wz ⟨hv, hf⟩ => ?_)
                      subst hv
                      have hq := hq.keep0 hf
                      have hF := hF.step0 hf
                      have hp := hp.keep0 hf
                      refine Ls_y (wtdT rfl rfl rfl) rfl rfl (y_not rfl rfl) ?_
                      refine Ls_y (wtd0 rfl) rfl rfl (y_pick_f rfl rfl rfl) ?_
                      refine Ls_nil (Th_n (hK33 _ _ ?_))
                      refine Wp_cond_f rfl ?_
                      refine Wp_skip (Ib_n (Th_n (hK13 _ _ ?_)))
                      refine Wp_region ?_
                      refine Ls_y (wtd0 rfl) rfl rfl (y_move rfl rfl) ?_
                      first
                        | refine Ls_y (wtd0 rfl) rfl rfl (y_add rfl rfl rfl (w_succ (by omega))) ?_
                        | refine Ls_y (wtd0 rfl) rfl rfl (y_add rfl rfl rfl (wf_i64 (by omega))) ?_
                        | refine Ls_y (wtd0 rfl) rfl rfl (y_add rfl rfl rfl rfl) ?_
                      refine Ls_y (wtd0 rfl) rfl rfl (y_assign rfl rfl) ?_
                      refine Ls_nil (Th_n (?_))
                      exact ⟨ops.length - (k + 1), [(1, _), (5, _), (7, _), (9, _)], by omega, ⟨rfl, rfl, rfl, rfl, trivial⟩, k + 1, D, ({ D with left := rl }).left, q, by omega, rfl, rfl, hq, hD2, hR2, hRel2, hF, hrk2⟩
                    · refine Ls_y (wtd0 rfl) rfl rfl (y_assign rfl rfl) ?_
                      refine Ls_nil (Th_n (hK28 _ _ ?_))
                      refine Wp_cond_f rfl ?_
                      refine Wp_seq fun K34 hK34 => ?_
                      refine Wp_region ?_
                      refine Ls_y (wtd0 rfl) rfl rfl (y_eq rfl rfl rfl) ?_
                      refine Ls_bool 141 rfl (fun hc17 => ?_) (fun hc17 => ?_)
                      all_goals try simp only [decide_eq_true_eq, decide_eq_false_iff_not, beq_iff_eq, bne_iff_ne, ne_eq, beq_eq_false_iff_ne, bne_eq_false_iff_eq, Bool.not_eq_true, Bool.not_eq_false] at hc17
                      · refine Ls_y (wtd0 rfl) rfl rfl (y_assign rfl rfl) ?_
                        refine Ls_nil (Th_n (hK34 _ _ ?_))
                        refine Wp_cond_t rfl ?_
                        refine Wp_seq fun K35 hK35 => ?_
                        refine Wp_region ?_
                        refine Ls_y (wtd0 rfl) rfl rfl (y_move rfl rfl) ?_
                        refine Ls_y (wtd0 rfl) rfl rfl (y_fld rfl rfl Ty.fo_75_1) ?_
                        first
                          | refine Ls_y (wtd0 rfl) rfl rfl (y_load (i := 0) rfl rfl Ty.pl_3 (fun _ e => e ▸ hp) rfl rfl) ?_
                          | refine Ls_y (wtd0 rfl) rfl rfl (y_load (i := 1) rfl rfl Ty.pl_3 (fun _ e => e ▸ hp) rfl rfl) ?_
                          | refine Ls_y (wtd0 rfl) rfl rfl (y_load (i := 2) rfl rfl Ty.pl_3 (fun _ e => e ▸ hp) rfl rfl) ?_
                          | refine Ls_y (wtd0 rfl) rfl rfl (y_load (i := 3) rfl rfl Ty.pl_3 (fun _ e => e ▸ hp) rfl rfl) ?_
                          | refine Ls_y (wtd0 rfl) rfl rfl (y_load (i := 4) rfl rfl Ty.pl_3 (fun _ e => e ▸ hp) rfl rfl) ?_
                          | refine Ls_y (wtd0 rfl) rfl rfl (y_load (i := 5) rfl rfl Ty.pl_3 (fun _ e => e ▸ hp) rfl rfl) ?_
                          | refine Ls_y (wtd0 rfl) rfl rfl (y_load (i := 6) rfl rfl Ty.pl_3 (fun _ e => e ▸ hp) rfl rfl) ?_
                        refine Ls_a (wtd0 rfl) ?_
                        refine a_call rfl rfl rfl rfl (darm_m p D _ (hp.picks [0, 1, 2] (by decide)) ii) (fun v wd1 ⟨hv, hM⟩ => ?_)
                        subst hv
                        have hp : Hp wd1 [(_, Cl [_, _, _, _, _] _), _, _, (_, Cl [_, _, _, _, _, _, _, _] _), (_, Cl [_, _, _, _, _] _), _, _] := hp.call [3, 4, 5, 6] [0, 1, 2] (by decide) rfl hM
                        have hF := hF.step hM.fr (fun y hy => Or.inr (hdk y hy))
                        refine Ls_nil (Th_n (hK35 _ _ ?_))
                        refine Wp_region ?_
                        refine Ls_y (wtd0 rfl) rfl rfl (y_move rfl rfl) ?_
                        refine Ls_y (wtd0 rfl) rfl rfl (y_fld rfl rfl Ty.fo_75_1) ?_
                        first
                          | refine Ls_y (wtd0 rfl) rfl rfl (y_load (i := 0) rfl rfl Ty.pl_3 (fun _ e => e ▸ hp) rfl rfl) ?_
                          | refine Ls_y (wtd0 rfl) rfl rfl (y_load (i := 1) rfl rfl Ty.pl_3 (fun _ e => e ▸ hp) rfl rfl) ?_
                          | refine Ls_y (wtd0 rfl) rfl rfl (y_load (i := 2) rfl rfl Ty.pl_3 (fun _ e => e ▸ hp) rfl rfl) ?_
                          | refine Ls_y (wtd0 rfl) rfl rfl (y_load (i := 3) rfl rfl Ty.pl_3 (fun _ e => e ▸ hp) rfl rfl) ?_
                          | refine Ls_y (wtd0 rfl) rfl rfl (y_load (i := 4) rfl rfl Ty.pl_3 (fun _ e => e ▸ hp) rfl rfl) ?_
                          | refine Ls_y (wtd0 rfl) rfl rfl (y_load (i := 5) rfl rfl Ty.pl_3 (fun _ e => e ▸ hp) rfl rfl) ?_
                          | refine Ls_y (wtd0 rfl) rfl rfl (y_load (i := 6) rfl rfl Ty.pl_3 (fun _ e => e ▸ hp) rfl rfl) ?_
                        refine Ls_a (wtd0 rfl) ?_
                        refine a_call rfl rfl rfl rfl (rarm_ok q { D with left := rl } _ (hp.picks [0, 1, 2] (by decide)) ii) (fun v wd2 ⟨hv, hM⟩ => ?_)
                        subst hv
                        have hp : Hp wd2 [(_, Cl [_, _, _, _, _, _, _, _] _), (_, Cl [_, _, _, _, _] _), _, _, (_, Cl [_, _, _, _, _] _), _, _] := hp.call [3, 4, 5, 6] [0, 1, 2] (by decide) rfl hM
                        have hF := hF.step hM.fr (fun y hy => Or.inr (hrk y hy))
                        refine Ls_nil (Ib_n (Th_n (hK19 _ _ ?_)))
                        have hRel2 : RelD (armD D ii) (armD { D with left := rl } ii) := hRel.armD _
                        have hD2 : DkOk (armD D ii) := armD_ok hD _ hO.i1
                        have hR2 : DkOk (armD { D with left := rl } ii) := armD_ok hR _ hO.i1
                        have hrk2 : ∀ y ∈ [(q).gd, (q).gn, (q).gl], w.heap.size ≤ y := hrk
                        have hq : Hp _ (dkH p (armD D ii) ++ rkH (q) (armD { D with left := rl } ii)) := (hp.picks [1, 2, 3, 4, 5, 6] (by decide))
                        rw [hRel2.eq] at hq hR2 hRel2
                        refine Wp_seq fun K36 hK36 => ?_
                        refine Wp_region ?_
                        refine Ls_y (wtd0 rfl) rfl rfl (y_move rfl rfl) ?_
                        refine Ls_y (wtd0 rfl) rfl rfl (y_not rfl rfl) ?_
                        refine Ls_y (wtd0 rfl) rfl rfl (y_move rfl rfl) ?_
                        refine Ls_y (wtdT rfl rfl rfl) rfl rfl (y_move rfl rfl) ?_
                        refine Ls_y (wtdT rfl rfl rfl) rfl rfl (y_move rfl rfl) ?_
                        refine Ls_a (wtdT rfl rfl rfl) ?_
                        refine a_call rfl rfl rfl rfl (lsame_ok p (q) (armD D ii) (armD { D with left := rl } ii).left _ hq hD2 hR2) (fun v wz ⟨hv, hf⟩ => ?_)
                        subst hv
                        have hq := hq.keep0 hf
                        have hF := hF.step0 hf
                        have hp := hp.keep0 hf
                        refine Ls_y (wtdT rfl rfl rfl) rfl rfl (y_not rfl rfl) ?_
                        refine Ls_y (wtd0 rfl) rfl rfl (y_pick_f rfl rfl rfl) ?_
                        refine Ls_nil (Th_n (hK36 _ _ ?_))
                        refine Wp_cond_f rfl ?_
                        refine Wp_skip (Ib_n (Th_n (hK13 _ _ ?_)))
                        refine Wp_region ?_
                        refine Ls_y (wtd0 rfl) rfl rfl (y_move rfl rfl) ?_
                        first
                          | refine Ls_y (wtd0 rfl) rfl rfl (y_add rfl rfl rfl (w_succ (by omega))) ?_
                          | refine Ls_y (wtd0 rfl) rfl rfl (y_add rfl rfl rfl (wf_i64 (by omega))) ?_
                          | refine Ls_y (wtd0 rfl) rfl rfl (y_add rfl rfl rfl rfl) ?_
                        refine Ls_y (wtd0 rfl) rfl rfl (y_assign rfl rfl) ?_
                        refine Ls_nil (Th_n (?_))
                        exact ⟨ops.length - (k + 1), [(1, _), (5, _), (7, _), (9, _)], by omega, ⟨rfl, rfl, rfl, rfl, trivial⟩, k + 1, armD D ii, (armD { D with left := rl } ii).left, q, by omega, rfl, rfl, hq, hD2, hR2, hRel2, hF, hrk2⟩
                      · refine Ls_y (wtd0 rfl) rfl rfl (y_assign rfl rfl) ?_
                        refine Ls_nil (Th_n (hK34 _ _ ?_))
                        refine Wp_cond_f rfl ?_
                        refine Wp_seq fun K37 hK37 => ?_
                        refine Wp_region ?_
                        refine Ls_y (wtd0 rfl) rfl rfl (y_move rfl rfl) ?_
                        refine Ls_a (wtd0 rfl) ?_
                        refine a_bsl0 rfl rfl rfl Ty.es_73 Ty.zc_3 hp (fun g1 w3 (hp : Hp w3 [(_, Cl [_, _, _, _, _] _), _, _, (_, Cl [_, _, _, _, _] _), _, _, (_, Cl [_, _, _, _, _, _, _, _] _), _]) hf hg1 => ?_)
                        have hg1 := Nat.le_trans hF.size hg1
                        have hF := hF.step0 hf
                        refine Ls_y (wtd0 rfl) rfl rfl (y_fld rfl rfl Ty.fo_75_4) ?_
                        first
                          | refine Ls_y (wtd0 rfl) rfl rfl (y_load (i := 0) rfl rfl Ty.pl_73 (fun _ e => e ▸ hp) rfl rfl) ?_
                          | refine Ls_y (wtd0 rfl) rfl rfl (y_load (i := 1) rfl rfl Ty.pl_73 (fun _ e => e ▸ hp) rfl rfl) ?_
                          | refine Ls_y (wtd0 rfl) rfl rfl (y_load (i := 2) rfl rfl Ty.pl_73 (fun _ e => e ▸ hp) rfl rfl) ?_
                          | refine Ls_y (wtd0 rfl) rfl rfl (y_load (i := 3) rfl rfl Ty.pl_73 (fun _ e => e ▸ hp) rfl rfl) ?_
                          | refine Ls_y (wtd0 rfl) rfl rfl (y_load (i := 4) rfl rfl Ty.pl_73 (fun _ e => e ▸ hp) rfl rfl) ?_
                          | refine Ls_y (wtd0 rfl) rfl rfl (y_load (i := 5) rfl rfl Ty.pl_73 (fun _ e => e ▸ hp) rfl rfl) ?_
                          | refine Ls_y (wtd0 rfl) rfl rfl (y_load (i := 6) rfl rfl Ty.pl_73 (fun _ e => e ▸ hp) rfl rfl) ?_
                          | refine Ls_y (wtd0 rfl) rfl rfl (y_load (i := 7) rfl rfl Ty.pl_73 (fun _ e => e ▸ hp) rfl rfl) ?_
                        refine Ls_a (wtd0 rfl) ?_
                        refine a_append (i := 7) (A := some ⟨g1, 0, none⟩) (xs := []) (sp := []) (news := ks.map intV) rfl rfl rfl rfl rfl rfl Ty.es_73 Ty.zc_3 rfl Ty.by_3 (by decide) ⟨rfl, .inr ⟨g1, rfl, rfl, Nat.le_refl _, by unfold maxLen; omega⟩⟩ hp rfl (by simp) ((hO.rd.keep hF (Nat.le_refl _) (by simp)).src) (fun e => by have := hO.rd.none e; simpa using this) (by simp [Value.oneCell']) (by unfold maxLen; omega) (by omega) (fun A' c' sp' w4 how' (hp : Hp w4 [(_, Cl [_, _, _, _, _] _), _, _, (_, Cl [_, _, _, _, _] _), _, _, (_, Cl [_, _, _, _, _, _, _, _] _), _]) hf hnw => ?_)
                        have hzz := hF.size
                        have hF := hF.step hf (by intro y hy; simp [blkOf] at hy; subst hy; exact Or.inr hg1)
                        rw [Nat.zero_add] at how' ⊢
                        have hkA : ∀ g, blkOf A' = some g → w.heap.size ≤ g := fun g hg => by
                          rcases hnw g hg with h | h
                          · simp [blkOf] at h; subst h; exact hg1
                          · exact Nat.le_trans hzz h
                        refine Ls_a (wtd0 rfl) ?_
                        refine a_call rfl rfl rfl rfl (dmend_ok p D _ A' c' ks sp' how' (hp.picks [0, 1, 2, 7] (by decide)) hD) (fun v wd1 ⟨hv, hM⟩ => ?_)
                        subst hv
                        have hp : Hp wd1 [(_, Cl [_, _, _, _, _] _), _, _, (_, Cl [_, _, _, _, _, _, _, _] _), (_, Cl [_, _, _, _, _] _), _, _, _] := hp.call [3, 4, 5, 6] [0, 1, 2, 7] (by decide) rfl hM
                        have hF := hF.step hM.fr (fr_dkA hdk hkA)
                        refine Ls_nil (Th_n (hK37 _ _ ?_))
                        refine Wp_region ?_
                        refine Ls_y (wtd0 rfl) rfl rfl (y_move rfl rfl) ?_
                        refine Ls_y (wtd0 rfl) rfl rfl (y_fld rfl rfl Ty.fo_75_4) ?_
                        first
                          | refine Ls_y (wtd0 rfl) rfl rfl (y_load (i := 0) rfl rfl Ty.pl_73 (fun _ e => e ▸ hp) rfl rfl) ?_
                          | refine Ls_y (wtd0 rfl) rfl rfl (y_load (i := 1) rfl rfl Ty.pl_73 (fun _ e => e ▸ hp) rfl rfl) ?_
                          | refine Ls_y (wtd0 rfl) rfl rfl (y_load (i := 2) rfl rfl Ty.pl_73 (fun _ e => e ▸ hp) rfl rfl) ?_
                          | refine Ls_y (wtd0 rfl) rfl rfl (y_load (i := 3) rfl rfl Ty.pl_73 (fun _ e => e ▸ hp) rfl rfl) ?_
                          | refine Ls_y (wtd0 rfl) rfl rfl (y_load (i := 4) rfl rfl Ty.pl_73 (fun _ e => e ▸ hp) rfl rfl) ?_
                          | refine Ls_y (wtd0 rfl) rfl rfl (y_load (i := 5) rfl rfl Ty.pl_73 (fun _ e => e ▸ hp) rfl rfl) ?_
                          | refine Ls_y (wtd0 rfl) rfl rfl (y_load (i := 6) rfl rfl Ty.pl_73 (fun _ e => e ▸ hp) rfl rfl) ?_
                          | refine Ls_y (wtd0 rfl) rfl rfl (y_load (i := 7) rfl rfl Ty.pl_73 (fun _ e => e ▸ hp) rfl rfl) ?_
                        refine Ls_a (wtd0 rfl) ?_
                        refine a_call rfl rfl rfl rfl (rmend_ok q { D with left := rl } _ (hp.picks [0, 1, 2] (by decide)) hR K kc ks _ (hO.rd.keep hF (Nat.le_refl _) (by simp)) hF.size hrk) (fun v wd2 ⟨hv, hM⟩ => ?_)
                        subst hv
                        have hp : Hp wd2 [(_, Cl [_, _, _, _, _, _, _, _] _), (_, Cl [_, _, _, _, _] _), _, _, _, (_, Cl [_, _, _, _, _] _), _, _] := hp.call [3, 4, 5, 6, 7] [0, 1, 2] (by decide) rfl hM
                        have hF := hF.step hM.fr (fun y hy => Or.inr (hrk y hy))
                        refine Ls_nil (Ib_n (Th_n (hK19 _ _ ?_)))
                        have hRel2 : RelD (mendD D ks) (mendD { D with left := rl } ks) := hRel.mend _
                        have hD2 : DkOk (mendD D ks) := mendD_ok hD _
                        have hR2 : DkOk (mendD { D with left := rl } ks) := mendD_ok hR _
                        have hrk2 : ∀ y ∈ [(q).gd, (q).gn, (q).gl], w.heap.size ≤ y := hrk
                        have hq : Hp _ (dkH p (mendD D ks) ++ rkH (q) (mendD { D with left := rl } ks)) := (hp.picks [1, 2, 3, 5, 6, 7] (by decide))
                        rw [hRel2.eq] at hq hR2 hRel2
                        refine Wp_seq fun K38 hK38 => ?_
                        refine Wp_region ?_
                        refine Ls_y (wtd0 rfl) rfl rfl (y_move rfl rfl) ?_
                        refine Ls_y (wtd0 rfl) rfl rfl (y_not rfl rfl) ?_
                        refine Ls_y (wtd0 rfl) rfl rfl (y_move rfl rfl) ?_
                        refine Ls_y (wtdT rfl rfl rfl) rfl rfl (y_move rfl rfl) ?_
                        refine Ls_y (wtdT rfl rfl rfl) rfl rfl (y_move rfl rfl) ?_
                        refine Ls_a (wtdT rfl rfl rfl) ?_
                        refine a_call rfl rfl rfl rfl (lsame_ok p (q) (mendD D ks) (mendD { D with left := rl } ks).left _ hq hD2 hR2) (fun v wz ⟨hv, hf⟩ => ?_)
                        subst hv
                        have hq := hq.keep0 hf
                        have hF := hF.step0 hf
                        have hp := hp.keep0 hf
                        refine Ls_y (wtdT rfl rfl rfl) rfl rfl (y_not rfl rfl) ?_
                        refine Ls_y (wtd0 rfl) rfl rfl (y_pick_f rfl rfl rfl) ?_
                        refine Ls_nil (Th_n (hK38 _ _ ?_))
                        refine Wp_cond_f rfl ?_
                        refine Wp_skip (Ib_n (Th_n (hK13 _ _ ?_)))
                        refine Wp_region ?_
                        refine Ls_y (wtd0 rfl) rfl rfl (y_move rfl rfl) ?_
                        first
                          | refine Ls_y (wtd0 rfl) rfl rfl (y_add rfl rfl rfl (w_succ (by omega))) ?_
                          | refine Ls_y (wtd0 rfl) rfl rfl (y_add rfl rfl rfl (wf_i64 (by omega))) ?_
                          | refine Ls_y (wtd0 rfl) rfl rfl (y_add rfl rfl rfl rfl) ?_
                        refine Ls_y (wtd0 rfl) rfl rfl (y_assign rfl rfl) ?_
                        refine Ls_nil (Th_n (?_))
                        exact ⟨ops.length - (k + 1), [(1, _), (5, _), (7, _), (9, _)], by omega, ⟨rfl, rfl, rfl, rfl, trivial⟩, k + 1, mendD D ks, (mendD { D with left := rl } ks).left, q, by omega, rfl, rfl, hq, hD2, hR2, hRel2, hF, hrk2⟩
          · refine Ls_y (wtd0 rfl) rfl rfl (y_pick_t rfl rfl rfl) ?_
            refine Ls_nil (Th_n (hK12 _ _ ?_))
            refine Wp_cond_f rfl ?_
            refine Wp_exit (Th_e (Th_e (Ib_hit (Th_n (hK8 _ _ ?_)))))
            refine Wp_seq fun K39 hK39 => ?_
            refine Wp_region ?_
            refine Ls_y (wtd0 rfl) rfl rfl (y_assign rfl rfl) ?_
            refine Ls_nil (Th_n (hK39 _ _ ?_))
            refine Wp_ret (Fq_ret (Res1 rfl rfl) ?_)
            exact ⟨rfl, hF⟩
        · refine Ls_y (wtd0 rfl) rfl rfl (y_move rfl rfl) ?_
          refine Ls_s (wtdF rfl rfl rfl) rfl rfl ?_
          refine Ls_s (wtdF rfl rfl rfl) rfl rfl ?_
          refine Ls_y (wtd0 rfl) rfl rfl (y_pick_f rfl rfl rfl) ?_
          refine Ls_nil (Th_n (hK12 _ _ ?_))
          refine Wp_cond_f rfl ?_
          refine Wp_exit (Th_e (Th_e (Ib_hit (Th_n (hK8 _ _ ?_)))))
          refine Wp_seq fun K40 hK40 => ?_
          refine Wp_region ?_
          refine Ls_y (wtd0 rfl) rfl rfl (y_assign rfl rfl) ?_
          refine Ls_nil (Th_n (hK40 _ _ ?_))
          refine Wp_ret (Fq_ret (Res1 rfl rfl) ?_)
          exact ⟨rfl, hF⟩
      · refine Ls_a (wtd0 rfl) ?_
        refine a_call rfl rfl rfl rfl (dnew_bad (nn % 100) _ (by omega)) (fun v wa ⟨hv, hw⟩ => ?_)
        subst hv
        subst hw
        refine Ls_y (wtd0 rfl) rfl rfl (y_move rfl rfl) ?_
        refine Ls_y (wtd0 rfl) rfl rfl (y_ext rfl rfl rfl) ?_
        refine Ls_y (wtd0 rfl) rfl rfl (y_ext rfl rfl rfl) ?_
        refine Ls_y (wtd0 rfl) rfl rfl (y_assign rfl rfl) ?_
        refine Ls_y (wtd0 rfl) rfl rfl (y_assign rfl rfl) ?_
        refine Ls_nil (Th_n (hK4 _ _ ?_))
        refine Wp_seq fun K41 hK41 => ?_
        refine Wp_region ?_
        refine Ls_y (wtd0 rfl) rfl rfl (y_move rfl rfl) ?_
        refine Ls_a (wtd0 rfl) ?_
        refine a_call rfl rfl rfl rfl (rnew_bad (nn % 100) _ (by omega)) (fun v wa ⟨hv, hw⟩ => ?_)
        subst hv
        subst hw
        refine Ls_y (wtd0 rfl) rfl rfl (y_move rfl rfl) ?_
        refine Ls_y (wtd0 rfl) rfl rfl (y_ext rfl rfl rfl) ?_
        refine Ls_y (wtd0 rfl) rfl rfl (y_ext rfl rfl rfl) ?_
        refine Ls_y (wtd0 rfl) rfl rfl (y_assign rfl rfl) ?_
        refine Ls_y (wtd0 rfl) rfl rfl (y_assign rfl rfl) ?_
        refine Ls_nil (Th_n (hK41 _ _ ?_))
        refine Wp_seq fun K42 hK42 => ?_
        refine Wp_seq fun K43 hK43 => ?_
        refine Wp_region ?_
        refine Ls_y (wtd0 rfl) rfl rfl (y_move rfl rfl) ?_
        refine Ls_y (wtd0 rfl) rfl rfl (y_move rfl rfl) ?_
        refine Ls_y (wtd0 rfl) rfl rfl (y_neF rfl rfl rfl (by omega)) ?_
        refine Ls_y (wtd0 rfl) rfl rfl (y_move rfl rfl) ?_
        refine Ls_y (wtdT rfl rfl rfl) rfl rfl (y_move rfl rfl) ?_
        refine Ls_y (wtdT rfl rfl rfl) rfl rfl (y_neT rfl rfl rfl (by omega)) ?_
        refine Ls_y (wtd0 rfl) rfl rfl (y_pick_f rfl rfl rfl) ?_
        refine Ls_y (wtd0 rfl) rfl rfl (y_move rfl rfl) ?_
        refine Ls_s (wtdF rfl rfl rfl) rfl rfl ?_
        refine Ls_s (wtdF rfl rfl rfl) rfl rfl ?_
        refine Ls_y (wtd0 rfl) rfl rfl (y_pick_t rfl rfl rfl) ?_
        refine Ls_nil (Th_n (hK43 _ _ ?_))
        refine Wp_cond_t rfl ?_
        refine Wp_seq fun K44 hK44 => ?_
        refine Wp_region ?_
        refine Ls_y (wtd0 rfl) rfl rfl (y_move rfl rfl) ?_
        refine Ls_y (wtd0 rfl) rfl rfl (y_move rfl rfl) ?_
        refine Ls_y (wtd0 rfl) rfl rfl (y_eqT rfl rfl rfl (by omega)) ?_
        refine Ls_y (wtd0 rfl) rfl rfl (y_move rfl rfl) ?_
        refine Ls_y (wtdT rfl rfl rfl) rfl rfl (y_move rfl rfl) ?_
        refine Ls_y (wtdT rfl rfl rfl) rfl rfl (y_neT rfl rfl rfl (by omega)) ?_
        refine Ls_y (wtd0 rfl) rfl rfl (y_pick_t rfl rfl rfl) ?_
        refine Ls_y (wtd0 rfl) rfl rfl (y_move rfl rfl) ?_
        refine Ls_y (wtdT rfl rfl rfl) rfl rfl (y_move rfl rfl) ?_
        refine Ls_y (wtdT rfl rfl rfl) rfl rfl (y_eqnp rfl rfl rfl Try.underlying67) ?_
        refine Ls_bool 53 rfl (fun _ => ?_) (fun hc18 => absurd hc18 (by simp))
        refine Ls_y (wtd0 rfl) rfl rfl (y_pick_t rfl rfl rfl) ?_
        refine Ls_y (wtd0 rfl) rfl rfl (y_assign rfl rfl) ?_
        refine Ls_nil (Th_n (hK44 _ _ ?_))
        refine Wp_ret (Th_r (Fq_ret (Res1 rfl rfl) ?_))
        exact ⟨rfl, hF⟩
    · refine Ls_y (wtd0 rfl) rfl rfl (y_pick_t rfl rfl rfl) ?_
      refine Ls_nil (Th_n (hK3 _ _ ?_))
      refine Wp_cond_f rfl ?_
      refine Wp_skip (Th_n (hK2 _ _ ?_))
      refine Wp_seq fun K45 hK45 => ?_
      refine Wp_region ?_
      refine Ls_y (wtd0 rfl) rfl rfl (y_move rfl rfl) ?_
      refine Ls_a (wtd0 rfl) ?_
      refine a_call rfl rfl rfl rfl (dnew_bad (nn) _ (by omega)) (fun v wa ⟨hv, hw⟩ => ?_)
      subst hv
      subst hw
      refine Ls_y (wtd0 rfl) rfl rfl (y_move rfl rfl) ?_
      refine Ls_y (wtd0 rfl) rfl rfl (y_ext rfl rfl rfl) ?_
      refine Ls_y (wtd0 rfl) rfl rfl (y_ext rfl rfl rfl) ?_
      refine Ls_y (wtd0 rfl) rfl rfl (y_assign rfl rfl) ?_
      refine Ls_y (wtd0 rfl) rfl rfl (y_assign rfl rfl) ?_
      refine Ls_nil (Th_n (hK45 _ _ ?_))
      refine Wp_seq fun K46 hK46 => ?_
      refine Wp_region ?_
      refine Ls_y (wtd0 rfl) rfl rfl (y_move rfl rfl) ?_
      refine Ls_a (wtd0 rfl) ?_
      refine a_call rfl rfl rfl rfl (rnew_bad (nn) _ (by omega)) (fun v wa ⟨hv, hw⟩ => ?_)
      subst hv
      subst hw
      refine Ls_y (wtd0 rfl) rfl rfl (y_move rfl rfl) ?_
      refine Ls_y (wtd0 rfl) rfl rfl (y_ext rfl rfl rfl) ?_
      refine Ls_y (wtd0 rfl) rfl rfl (y_ext rfl rfl rfl) ?_
      refine Ls_y (wtd0 rfl) rfl rfl (y_assign rfl rfl) ?_
      refine Ls_y (wtd0 rfl) rfl rfl (y_assign rfl rfl) ?_
      refine Ls_nil (Th_n (hK46 _ _ ?_))
      refine Wp_seq fun K47 hK47 => ?_
      refine Wp_seq fun K48 hK48 => ?_
      refine Wp_region ?_
      refine Ls_y (wtd0 rfl) rfl rfl (y_move rfl rfl) ?_
      refine Ls_y (wtd0 rfl) rfl rfl (y_move rfl rfl) ?_
      refine Ls_y (wtd0 rfl) rfl rfl (y_neF rfl rfl rfl (by omega)) ?_
      refine Ls_y (wtd0 rfl) rfl rfl (y_move rfl rfl) ?_
      refine Ls_y (wtdT rfl rfl rfl) rfl rfl (y_move rfl rfl) ?_
      refine Ls_y (wtdT rfl rfl rfl) rfl rfl (y_neT rfl rfl rfl (by omega)) ?_
      refine Ls_y (wtd0 rfl) rfl rfl (y_pick_f rfl rfl rfl) ?_
      refine Ls_y (wtd0 rfl) rfl rfl (y_move rfl rfl) ?_
      refine Ls_s (wtdF rfl rfl rfl) rfl rfl ?_
      refine Ls_s (wtdF rfl rfl rfl) rfl rfl ?_
      refine Ls_y (wtd0 rfl) rfl rfl (y_pick_t rfl rfl rfl) ?_
      refine Ls_nil (Th_n (hK48 _ _ ?_))
      refine Wp_cond_t rfl ?_
      refine Wp_seq fun K49 hK49 => ?_
      refine Wp_region ?_
      refine Ls_y (wtd0 rfl) rfl rfl (y_move rfl rfl) ?_
      refine Ls_y (wtd0 rfl) rfl rfl (y_move rfl rfl) ?_
      refine Ls_y (wtd0 rfl) rfl rfl (y_eqT rfl rfl rfl (by omega)) ?_
      refine Ls_y (wtd0 rfl) rfl rfl (y_move rfl rfl) ?_
      refine Ls_y (wtdT rfl rfl rfl) rfl rfl (y_move rfl rfl) ?_
      refine Ls_y (wtdT rfl rfl rfl) rfl rfl (y_neT rfl rfl rfl (by omega)) ?_
      refine Ls_y (wtd0 rfl) rfl rfl (y_pick_t rfl rfl rfl) ?_
      refine Ls_y (wtd0 rfl) rfl rfl (y_move rfl rfl) ?_
      refine Ls_y (wtdT rfl rfl rfl) rfl rfl (y_move rfl rfl) ?_
      refine Ls_y (wtdT rfl rfl rfl) rfl rfl (y_eqnp rfl rfl rfl Try.underlying67) ?_
      refine Ls_bool 53 rfl (fun _ => ?_) (fun hc19 => absurd hc19 (by simp))
      refine Ls_y (wtd0 rfl) rfl rfl (y_pick_t rfl rfl rfl) ?_
      refine Ls_y (wtd0 rfl) rfl rfl (y_assign rfl rfl) ?_
      refine Ls_nil (Th_n (hK49 _ _ ?_))
      refine Wp_ret (Th_r (Fq_ret (Res1 rfl rfl) ?_))
      exact ⟨rfl, hF⟩
  · refine Ls_y (wtd0 rfl) rfl rfl (y_move rfl rfl) ?_
    refine Ls_s (wtdF rfl rfl rfl) rfl rfl ?_
    refine Ls_s (wtdF rfl rfl rfl) rfl rfl ?_
    refine Ls_y (wtd0 rfl) rfl rfl (y_pick_f rfl rfl rfl) ?_
    refine Ls_nil (Th_n (hK3 _ _ ?_))
    refine Wp_cond_f rfl ?_
    refine Wp_skip (Th_n (hK2 _ _ ?_))
    refine Wp_seq fun K50 hK50 => ?_
    refine Wp_region ?_
    refine Ls_y (wtd0 rfl) rfl rfl (y_move rfl rfl) ?_
    rcases Decidable.em (1 ≤ nn ∧ nn ≤ 1024) with hn | hn
    · obtain ⟨n, hnn⟩ := Int.eq_ofNat_of_zero_le (show 0 ≤ nn by omega)
      rw [hnn] at hn ⊢
      replace hn : 1 ≤ n ∧ n ≤ 1024 := by omega
      refine Ls_a (wtd0 rfl) ?_
      refine a_call rfl rfl rfl rfl (dnew_ok n _ hn.1 hn.2) (fun v wa ⟨p, hv, hN, _⟩ => ?_)
      subst hv
      have hp : Hp wa [(_, Cl [_, _, _, _, _] _), _, _] := hp.add hN
      have hdk : ∀ y ∈ [p.gd, p.gn, p.gl], w.heap.size ≤ y := fun y hy => Nat.le_trans hF.size (hN.nw y hy)
      have hF := hF.step0 hN.fr
      refine Ls_y (wtd0 rfl) rfl rfl (y_move rfl rfl) ?_
      refine Ls_y (wtd0 rfl) rfl rfl (y_ext rfl rfl rfl) ?_
      refine Ls_y (wtd0 rfl) rfl rfl (y_ext rfl rfl rfl) ?_
      refine Ls_y (wtd0 rfl) rfl rfl (y_assign rfl rfl) ?_
      refine Ls_y (wtd0 rfl) rfl rfl (y_assign rfl rfl) ?_
      refine Ls_nil (Th_n (hK50 _ _ ?_))
      refine Wp_seq fun K51 hK51 => ?_
      refine Wp_region ?_
      refine Ls_y (wtd0 rfl) rfl rfl (y_move rfl rfl) ?_
      refine Ls_a (wtd0 rfl) ?_
      refine a_call rfl rfl rfl rfl (rnew_ok n _ hn.1 hn.2) (fun v wb ⟨q, hv, hN⟩ => ?_)
      subst hv
      have hp : Hp wb [(_, Cl [_, _, _, _, _] _), _, _, (_, Cl [_, _, _, _, _] _), _, _] := hp.add hN
      have hrk : ∀ y ∈ [q.gd, q.gn, q.gl], w.heap.size ≤ y := fun y hy => Nat.le_trans hF.size (hN.nw y hy)
      have hF := hF.step0 hN.fr
      refine Ls_y (wtd0 rfl) rfl rfl (y_move rfl rfl) ?_
      refine Ls_y (wtd0 rfl) rfl rfl (y_ext rfl rfl rfl) ?_
      refine Ls_y (wtd0 rfl) rfl rfl (y_ext rfl rfl rfl) ?_
      refine Ls_y (wtd0 rfl) rfl rfl (y_assign rfl rfl) ?_
      refine Ls_y (wtd0 rfl) rfl rfl (y_assign rfl rfl) ?_
      refine Ls_nil (Th_n (hK51 _ _ ?_))
      refine Wp_seq fun K52 hK52 => ?_
      refine Wp_seq fun K53 hK53 => ?_
      refine Wp_region ?_
      refine Ls_y (wtd0 rfl) rfl rfl (y_move rfl rfl) ?_
      refine Ls_y (wtd0 rfl) rfl rfl (y_move rfl rfl) ?_
      refine Ls_y (wtd0 rfl) rfl rfl (y_neF rfl rfl rfl (by omega)) ?_
      refine Ls_y (wtd0 rfl) rfl rfl (y_move rfl rfl) ?_
      refine Ls_y (wtdT rfl rfl rfl) rfl rfl (y_move rfl rfl) ?_
      refine Ls_y (wtdT rfl rfl rfl) rfl rfl (y_neF rfl rfl rfl (by omega)) ?_
      refine Ls_y (wtd0 rfl) rfl rfl (y_pick_f rfl rfl rfl) ?_
      refine Ls_y (wtd0 rfl) rfl rfl (y_move rfl rfl) ?_
      refine Ls_y (wtdT rfl rfl rfl) rfl rfl (y_move rfl rfl) ?_
      refine Ls_y (wtdT rfl rfl rfl) rfl rfl (y_eqnp rfl rfl rfl Try.underlying67) ?_
      refine Ls_bool 42 rfl (fun hc20 => absurd hc20 (by simp)) (fun _ => ?_)
      refine Ls_y (wtd0 rfl) rfl rfl (y_pick_f rfl rfl rfl) ?_
      refine Ls_nil (Th_n (hK53 _ _ ?_))
      refine Wp_cond_f rfl ?_
      refine Wp_skip (Th_n (hK52 _ _ ?_))
      refine Wp_seq fun K54 hK54 => ?_
      refine Wp_seq fun K55 hK55 => ?_
      refine Wp_region ?_
      refine Ls_y (wtd0 rfl) rfl rfl (y_assign rfl rfl) ?_
      refine Ls_nil (Th_n (hK55 _ _ ?_))
      refine Wp_block ?_
      refine Wp_loopE (fun m e W => ∃ (k : Nat) (D : Dk) (rl : Int) (q : Dp), k ≤ ops.length ∧ m = ops.length - k ∧ e = [(1, .slice A ops.length c), (5, .pointer (some ⟨p.gd, 0, none⟩)), (7, .pointer (some ⟨q.gd, 0, none⟩)), (9, .int .i64 (k : Int))] ∧
        Hp W (dkH p D ++ rkH q { D with left := rl }) ∧ DkOk D ∧ DkOk { D with left := rl } ∧ RelD D { D with left := rl } ∧ Fr [] w W ∧ (∀ y ∈ [q.gd, q.gn, q.gl], w.heap.size ≤ y)) (ops.length) [(1, _), (5, _), (7, _), (9, _)] ⟨rfl, rfl, rfl, rfl, trivial⟩ ?_ ?_
      · exact ⟨0, newD n, 0, q, by omega, by omega, rfl, hp, newD_ok hn.1 hn.2, newD_ok hn.1 hn.2, RelD.refl _, hF, hrk⟩
      rintro m e W ⟨k, D, rl, q, hk, rfl, rfl, hp, hD, hR, hRel, hF, hrk⟩
      have hp : Hp W [(_, Cl [_, _, _, _, _] _), _, _, (_, Cl [_, _, _, _, _] _), _, _] := hp
      refine Wp_seq fun K57 hK57 => ?_
      refine Wp_seq fun K58 hK58 => ?_
      refine Wp_region ?_
      refine Ls_y (wtd0 rfl) rfl rfl (y_move rfl rfl) ?_
      refine Ls_y (wtd0 rfl) rfl rfl (y_move rfl rfl) ?_
      refine Ls_y (wtd0 rfl) rfl rfl (y_lenl rfl rfl Try.underlying66) ?_
      refine Ls_y (wtd0 rfl) rfl rfl (y_lt rfl rfl rfl) ?_
      refine Ls_bool 58 rfl (fun hlt => ?_) (fun hlt => ?_)
      all_goals try simp only [decide_eq_true_eq, decide_eq_false_iff_not, beq_iff_eq, bne_iff_ne, ne_eq, beq_eq_false_iff_ne, bne_eq_false_iff_eq, Bool.not_eq_true, Bool.not_eq_false] at hlt
      · refine Ls_y (wtd0 rfl) rfl rfl (y_move rfl rfl) ?_
        refine Ls_y (wtdT rfl rfl rfl) rfl rfl (y_move rfl rfl) ?_
        refine Ls_y (wtdT rfl rfl rfl) rfl rfl (y_lt rfl rfl rfl) ?_
        refine Ls_bool 61 rfl (fun h60 => ?_) (fun h60 => ?_)
        all_goals try simp only [decide_eq_true_eq, decide_eq_false_iff_not, beq_iff_eq, bne_iff_ne, ne_eq, beq_eq_false_iff_ne, bne_eq_false_iff_eq, Bool.not_eq_true, Bool.not_eq_false] at h60
        · have hk1 : k < ops.length := by omega
          have ho : ops[k]? = some ops[k] := List.getElem?_eq_getElem hk1
          obtain ⟨ga, ba, rfl, hrow⟩ := ops_row (hA.keep hF (Nat.le_refl _) (by simp)) ho
          have hO := hops _ (List.getElem_mem hk1)
          generalize ops[k] = o at hrow hO
          obtain ⟨kd, ii, s, cg, cq, cf, cd, K, ks, kc⟩ := o
          have hs1 := hO.s1
          have hd1 := hO.d1
          have hkl1 := hO.k1
          simp only at hs1 hd1 hkl1
          refine Ls_y (wtd0 rfl) rfl rfl (y_pick_t rfl rfl rfl) ?_
          refine Ls_nil (Th_n (hK58 _ _ ?_))
          refine Wp_cond_t rfl ?_
          refine Wp_skip (Th_n (hK57 _ _ ?_))
          refine Wp_seq fun K59 hK59 => ?_
          refine Wp_block ?_
          refine Wp_seq fun K60 hK60 => ?_
          refine Wp_region ?_
          refine Ls_y (wtd0 rfl) rfl rfl (y_move rfl rfl) ?_
          refine Ls_y (wtd0 rfl) rfl rfl (y_move rfl rfl) ?_
          first
            | refine Ls_y (wtd0 rfl) rfl rfl (y_ixaN rfl rfl rfl Ty.es_66 (by omega)) ?_
            | refine Ls_y (wtd0 rfl) rfl rfl (y_ixa rfl rfl rfl Ty.es_66 (by omega) (by omega)) ?_
          refine Ls_y (wtd0 rfl) rfl rfl (y_loadr (cs := [.int .i64 kd, .int .i64 ii, sv s, .int .u16 cg, .int .u32 cq, .int .u8 cf, sv cd, .slice K ks.length kc]) rfl rfl Ty.ag_75 rfl (fun _ e => e ▸ hrow)) ?_
          refine Ls_a (wtd0 rfl) ?_
          refine a_alloc rfl rfl rfl Ty.zc_75 hp (fun g1 w1 (hp : Hp w1 [(_, Cl [_, _, _, _, _] _), _, _, (_, Cl [_, _, _, _, _] _), _, _, (_, Cl [_, _, _, _, _, _, _, _] _)]) hf hg1 => ?_)
          have hg1 := Nat.le_trans hF.size hg1
          have hF := hF.step0 hf
          refine Ls_a (wtd0 rfl) ?_
          first
            | refine a_storew (i := 0) rfl rfl rfl rfl Ty.sz_75 rfl (by first | assumption | (simp [Value.oneCell']; done)) hp rfl rfl (fun w2 (hp : Hp w2 [(_, Cl [_, _, _, _, _] _), _, _, (_, Cl [_, _, _, _, _] _), _, _, (_, Cl [_, _, _, _, _, _, _, _] _)]) hf _ => ?_)
            | refine a_storew (i := 1) rfl rfl rfl rfl Ty.sz_75 rfl (by first | assumption | (simp [Value.oneCell']; done)) hp rfl rfl (fun w2 (hp : Hp w2 [(_, Cl [_, _, _, _, _] _), _, _, (_, Cl [_, _, _, _, _] _), _, _, (_, Cl [_, _, _, _, _, _, _, _] _)]) hf _ => ?_)
            | refine a_storew (i := 2) rfl rfl rfl rfl Ty.sz_75 rfl (by first | assumption | (simp [Value.oneCell']; done)) hp rfl rfl (fun w2 (hp : Hp w2 [(_, Cl [_, _, _, _, _] _), _, _, (_, Cl [_, _, _, _, _] _), _, _, (_, Cl [_, _, _, _, _, _, _, _] _)]) hf _ => ?_)
            | refine a_storew (i := 3) rfl rfl rfl rfl Ty.sz_75 rfl (by first | assumption | (simp [Value.oneCell']; done)) hp rfl rfl (fun w2 (hp : Hp w2 [(_, Cl [_, _, _, _, _] _), _, _, (_, Cl [_, _, _, _, _] _), _, _, (_, Cl [_, _, _, _, _, _, _, _] _)]) hf _ => ?_)
            | refine a_storew (i := 4) rfl rfl rfl rfl Ty.sz_75 rfl (by first | assumption | (simp [Value.oneCell']; done)) hp rfl rfl (fun w2 (hp : Hp w2 [(_, Cl [_, _, _, _, _] _), _, _, (_, Cl [_, _, _, _, _] _), _, _, (_, Cl [_, _, _, _, _, _, _, _] _)]) hf _ => ?_)
            | refine a_storew (i := 5) rfl rfl rfl rfl Ty.sz_75 rfl (by first | assumption | (simp [Value.oneCell']; done)) hp rfl rfl (fun w2 (hp : Hp w2 [(_, Cl [_, _, _, _, _] _), _, _, (_, Cl [_, _, _, _, _] _), _, _, (_, Cl [_, _, _, _, _, _, _, _] _)]) hf _ => ?_)
            | refine a_storew (i := 6) rfl rfl rfl rfl Ty.sz_75 rfl (by first | assumption | (simp [Value.oneCell']; done)) hp rfl rfl (fun w2 (hp : Hp w2 [(_, Cl [_, _, _, _, _] _), _, _, (_, Cl [_, _, _, _, _] _), _, _, (_, Cl [_, _, _, _, _, _, _, _] _)]) hf _ => ?_)
          have hF := hF.step hf (by intro y hy; simp only [List.mem_cons, List.not_mem_nil, or_false] at hy; subst hy; first | (exact Or.inr (by omega)) | (exact Or.inl (by simp)))
          refine Ls_nil (Th_n (hK60 _ _ ?_))
          refine Wp_seq fun K61 hK61 => ?_
          refine Wp_seq fun K62 hK62 => ?_
          refine Wp_region ?_
          first
            | refine Ls_y (wtd0 rfl) rfl rfl (y_loadw (i := 0) rfl rfl Ty.ag_75 (fun _ e => e ▸ hp) rfl rfl) ?_
            | refine Ls_y (wtd0 rfl) rfl rfl (y_loadw (i := 1) rfl rfl Ty.ag_75 (fun _ e => e ▸ hp) rfl rfl) ?_
            | refine Ls_y (wtd0 rfl) rfl rfl (y_loadw (i := 2) rfl rfl Ty.ag_75 (fun _ e => e ▸ hp) rfl rfl) ?_
            | refine Ls_y (wtd0 rfl) rfl rfl (y_loadw (i := 3) rfl rfl Ty.ag_75 (fun _ e => e ▸ hp) rfl rfl) ?_
            | refine Ls_y (wtd0 rfl) rfl rfl (y_loadw (i := 4) rfl rfl Ty.ag_75 (fun _ e => e ▸ hp) rfl rfl) ?_
            | refine Ls_y (wtd0 rfl) rfl rfl (y_loadw (i := 5) rfl rfl Ty.ag_75 (fun _ e => e ▸ hp) rfl rfl) ?_
            | refine Ls_y (wtd0 rfl) rfl rfl (y_loadw (i := 6) rfl rfl Ty.ag_75 (fun _ e => e ▸ hp) rfl rfl) ?_
          refine Ls_a (wtd0 rfl) ?_
          refine a_call rfl rfl rfl rfl (great_ok kd ii cg cq cf s cd K ks.length kc _ hkl1 hs1 hd1) (fun v wg ⟨hv, hf⟩ => ?_)
          subst hv
          have hp := hp.keep0 hf
          have hF := hF.step0 hf
          refine Ls_nil (Th_n (hK62 _ _ ?_))
          refine Wp_cond rfl (fun hgr => ?_) (fun hgr => ?_)
          all_goals try simp only [decide_eq_true_eq, decide_eq_false_iff_not, beq_iff_eq, bne_iff_ne, ne_eq, beq_eq_false_iff_ne, bne_eq_false_iff_eq, Bool.not_eq_true] at hgr
          · refine Wp_seq fun K63 hK63 => ?_
            refine Wp_region ?_
            refine Ls_y (wtd0 rfl) rfl rfl (y_assign rfl rfl) ?_
            refine Ls_nil (Th_n (hK63 _ _ ?_))
            refine Wp_ret (Th_r (Ib_r (Th_r (Th_r (Ib_r (Th_r (Fq_ret (Res1 rfl rfl) ?_)))))))
            exact ⟨rfl, hF⟩
          · refine Wp_skip (Th_n (hK61 _ _ ?_))
            refine Wp_seq fun K64 hK64 => ?_
            refine Wp_region ?_
            refine Ls_y (wtd0 rfl) rfl rfl (y_assign rfl rfl) ?_
            refine Ls_nil (Th_n (hK64 _ _ ?_))
            refine Wp_seq fun K65 hK65 => ?_
            refine Wp_seq fun K66 hK66 => ?_
            refine Wp_region ?_
            refine Ls_y (wtd0 rfl) rfl rfl (y_fld rfl rfl Ty.fo_75_0) ?_
            first
              | refine Ls_y (wtd0 rfl) rfl rfl (y_load (i := 0) rfl rfl Ty.pl_3 (fun _ e => e ▸ hp) rfl rfl) ?_
              | refine Ls_y (wtd0 rfl) rfl rfl (y_load (i := 1) rfl rfl Ty.pl_3 (fun _ e => e ▸ hp) rfl rfl) ?_
              | refine Ls_y (wtd0 rfl) rfl rfl (y_load (i := 2) rfl rfl Ty.pl_3 (fun _ e => e ▸ hp) rfl rfl) ?_
              | refine Ls_y (wtd0 rfl) rfl rfl (y_load (i := 3) rfl rfl Ty.pl_3 (fun _ e => e ▸ hp) rfl rfl) ?_
              | refine Ls_y (wtd0 rfl) rfl rfl (y_load (i := 4) rfl rfl Ty.pl_3 (fun _ e => e ▸ hp) rfl rfl) ?_
              | refine Ls_y (wtd0 rfl) rfl rfl (y_load (i := 5) rfl rfl Ty.pl_3 (fun _ e => e ▸ hp) rfl rfl) ?_
              | refine Ls_y (wtd0 rfl) rfl rfl (y_load (i := 6) rfl rfl Ty.pl_3 (fun _ e => e ▸ hp) rfl rfl) ?_
            refine Ls_nil (Th_n (hK66 _ _ ?_))
            refine Wp_block ?_
            refine Wp_seq fun K67 hK67 => ?_
            refine Wp_region ?_
            refine Ls_y (wtd0 rfl) rfl rfl (y_eq rfl rfl rfl) ?_
            refine Ls_bool 84 rfl (fun hc24 => ?_) (fun hc24 => ?_)
            all_goals try simp only [decide_eq_true_eq, decide_eq_false_iff_not, beq_iff_eq, bne_iff_ne, ne_eq, beq_eq_false_iff_ne, bne_eq_false_iff_eq, Bool.not_eq_true, Bool.not_eq_false] at hc24
            · refine Ls_y (wtd0 rfl) rfl rfl (y_assign rfl rfl) ?_
              refine Ls_nil (Th_n (hK67 _ _ ?_))
              refine Wp_cond_t rfl ?_
              refine Wp_plan (fun W => Hp W (pickL (heapOf hp) [6])) [(true, 0), (true, 1), (true, 2), (true, 3), (true, 4), (true, 6), (true, 7), (true, 8), (true, 9), (true, 10), (false, 5), (false, 11), (true, 12), (true, 13)] Ty.mx_0 (by kernel_rfl) (by kernel_rfl) rfl ((hp.picks [6] (by decide)).drew) ?_
              have hp := hp.drew
              have hF := hF.step0 (Fr.drew _)
              refine Pl_y rfl (wtd0 rfl) rfl rfl (y_move rfl rfl) ?_
              refine Pl_y rfl (wtd0 rfl) rfl rfl (y_fld rfl rfl Ty.fo_75_1) ?_
              refine Pl_y rfl (wtd0 rfl) rfl rfl (y_load (i := 0) rfl rfl Ty.pl_3 (fun _ h => h) rfl rfl) ?_
              refine Pl_y rfl (wtd0 rfl) rfl rfl (y_fld rfl rfl Ty.fo_75_2) ?_
              refine Pl_y rfl (wtd0 rfl) rfl rfl (y_load (i := 0) rfl rfl Ty.pl_9 (fun _ h => h) rfl rfl) ?_
              refine Pl_y rfl (wtd0 rfl) rfl rfl (y_move rfl rfl) ?_
              refine Pl_y rfl (wtd0 rfl) rfl rfl (y_fld rfl rfl Ty.fo_75_1) ?_
              refine Pl_y rfl (wtd0 rfl) rfl rfl (y_load (i := 0) rfl rfl Ty.pl_3 (fun _ h => h) rfl rfl) ?_
              refine Pl_y rfl (wtd0 rfl) rfl rfl (y_fld rfl rfl Ty.fo_75_2) ?_
              refine Pl_y rfl (wtd0 rfl) rfl rfl (y_load (i := 0) rfl rfl Ty.pl_9 (fun _ h => h) rfl rfl) ?_
              refine Pl_a rfl (wtd0 rfl) (by rfl) ?_
              refine a_call rfl rfl rfl rfl (dwrite_m p D _ (hp.picks [0, 1, 2] (by decide)) hD ii (s)) (fun v wd1 ⟨hv, hM⟩ => ?_)
              subst hv
              have hp : Hp wd1 [(_, Cl [_, _, _, _, _] _), _, _, (_, Cl [_, _, _, _, _, _, _, _] _), (_, Cl [_, _, _, _, _] _), _, _] := hp.call [3, 4, 5, 6] [0, 1, 2] (by decide) rfl hM
              have hF := hF.step hM.fr (fun y hy => Or.inr (hdk y hy))
              refine ⟨hp.picks [3] (by decide), ?_⟩
              refine Pl_a rfl (wtd0 rfl) (by rfl) ?_
              refine a_call rfl rfl rfl rfl (rwrite_ok q { D with left := rl } _ (hp.picks [0, 1, 2] (by decide)) hR ii (s)) (fun v wd2 ⟨hv, hM⟩ => ?_)
              subst hv
              have hp : Hp wd2 [(_, Cl [_, _, _, _, _, _, _, _] _), (_, Cl [_, _, _, _, _] _), _, _, (_, Cl [_, _, _, _, _] _), _, _] := hp.call [3, 4, 5, 6] [0, 1, 2] (by decide) rfl hM
              have hF := hF.step hM.fr (fun y hy => Or.inr (hrk y hy))
              refine ⟨hp.picks [0] (by decide), ?_⟩
              refine Pl_y rfl (wtd0 rfl) rfl rfl (y_eq rfl rfl rfl) ?_
              refine Pl_bool 97 rfl (fun _ => ?_) (fun hc26 => absurd hc26 (by simp [hRel.writeE]))
              have hRel2 : RelD (writeD D ii (s)) (rwriteD { D with left := rl } ii (s)) := hRel.writeD _ _
              have hD2 : DkOk (writeD D ii (s)) := writeD_ok hD _ _
              have hR2 : DkOk (rwriteD { D with left := rl } ii (s)) := rwriteD_ok hR _ _
              have hrk2 : ∀ y ∈ [(q).gd, (q).gn, (q).gl], w.heap.size ≤ y := hrk
              have hq : Hp _ (dkH p (writeD D ii (s)) ++ rkH (q) (rwriteD { D with left := rl } ii (s))) := (hp.picks [1, 2, 3, 4, 5, 6] (by decide))
              rw [hRel2.eq] at hq hR2 hRel2
              refine Pl_y rfl (wtd0 rfl) rfl rfl (y_assign rfl rfl) ?_
              refine Pl_nil (Ib_n (Th_n (hK65 _ _ ?_)))
              refine Wp_seq fun K68 hK68 => ?_
              refine Wp_region ?_
              refine Ls_y (wtd0 rfl) rfl rfl (y_move rfl rfl) ?_
              refine Ls_y (wtd0 rfl) rfl rfl (y_not rfl rfl) ?_
              refine Ls_y (wtd0 rfl) rfl rfl (y_move rfl rfl) ?_
              refine Ls_y (wtdT rfl rfl rfl) rfl rfl (y_move rfl rfl) ?_
              refine Ls_y (wtdT rfl rfl rfl) rfl rfl (y_move rfl rfl) ?_
              refine Ls_a (wtdT rfl rfl rfl) ?_
              refine a_call rfl rfl rfl rfl (lsame_ok p (q) (writeD D ii (s)) (rwriteD { D with left := rl } ii (s)).left _ hq hD2 hR2) (fun v wz ⟨hv, hf⟩ => ?_)
              subst hv
              have hq := hq.keep0 hf
              have hF := hF.step0 hf
              have hp := hp.keep0 hf
              refine Ls_y (wtdT rfl rfl rfl) rfl rfl (y_not rfl rfl) ?_
              refine Ls_y (wtd0 rfl) rfl rfl (y_pick_f rfl rfl rfl) ?_
              refine Ls_nil (Th_n (hK68 _ _ ?_))
              refine Wp_cond_f rfl ?_
              refine Wp_skip (Ib_n (Th_n (hK59 _ _ ?_)))
              refine Wp_region ?_
              refine Ls_y (wtd0 rfl) rfl rfl (y_move rfl rfl) ?_
              first
                | refine Ls_y (wtd0 rfl) rfl rfl (y_add rfl rfl rfl (w_succ (by omega))) ?_
                | refine Ls_y (wtd0 rfl) rfl rfl (y_add rfl rfl rfl (wf_i64 (by omega))) ?_
                | refine Ls_y (wtd0 rfl) rfl rfl (y_add rfl rfl rfl rfl) ?_
              refine Ls_y (wtd0 rfl) rfl rfl (y_assign rfl rfl) ?_
              refine Ls_nil (Th_n (?_))
              exact ⟨ops.length - (k + 1), [(1, _), (5, _), (7, _), (9, _)], by omega, ⟨rfl, rfl, rfl, rfl, trivial⟩, k + 1, writeD D ii (s), (rwriteD { D with left := rl } ii (s)).left, q, by omega, rfl, rfl, hq, hD2, hR2, hRel2, hF, hrk2⟩
            · refine Ls_y (wtd0 rfl) rfl rfl (y_assign rfl rfl) ?_
              refine Ls_nil (Th_n (hK67 _ _ ?_))
              refine Wp_cond_f rfl ?_
              refine Wp_seq fun K69 hK69 => ?_
              refine Wp_region ?_
              refine Ls_y (wtd0 rfl) rfl rfl (y_eq rfl rfl rfl) ?_
              refine Ls_bool 99 rfl (fun hc27 => ?_) (fun hc27 => ?_)
              all_goals try simp only [decide_eq_true_eq, decide_eq_false_iff_not, beq_iff_eq, bne_iff_ne, ne_eq, beq_eq_false_iff_ne, bne_eq_false_iff_eq, Bool.not_eq_true, Bool.not_eq_false] at hc27
              · refine Ls_y (wtd0 rfl) rfl rfl (y_assign rfl rfl) ?_
                refine Ls_nil (Th_n (hK69 _ _ ?_))
                refine Wp_cond_t rfl ?_
                refine Wp_seq fun K70 hK70 => ?_
                refine Wp_region ?_
                refine Ls_y (wtd0 rfl) rfl rfl (y_fld rfl rfl Ty.fo_75_3) ?_
                refine Ls_y (wtd0 rfl) rfl rfl (y_loadm (i := 6) rfl rfl Ty.ag_25 (fun _ e => e ▸ hp) rfl rfl rfl) ?_
                refine Ls_a (wtd0 rfl) ?_
                refine a_call rfl rfl rfl rfl (rpack_ok cg cq cf cd _ hO.g0 hO.g1 hO.q0 hO.q1 hO.f0 hO.f1) (fun v wp ⟨hv, hf⟩ => ?_)
                subst hv
                have hp := hp.keep0 hf
                have hF := hF.step0 hf
                refine Ls_y (wtd0 rfl) rfl rfl (y_move rfl rfl) ?_
                refine Ls_y (wtd0 rfl) rfl rfl (y_ext rfl rfl rfl) ?_
                refine Ls_y (wtd0 rfl) rfl rfl (y_ext rfl rfl rfl) ?_
                refine Ls_y (wtd0 rfl) rfl rfl (y_assign rfl rfl) ?_
                refine Ls_y (wtd0 rfl) rfl rfl (y_assign rfl rfl) ?_
                refine Ls_nil (Th_n (hK70 _ _ ?_))
                refine Wp_plan (fun W => Hp W (pickL (heapOf hp) [6])) [(true, 0), (true, 1), (true, 2), (true, 3), (true, 5), (true, 6), (true, 7), (true, 8), (false, 4), (false, 9), (true, 10), (true, 11)] Ty.mx_0 (by kernel_rfl) (by kernel_rfl) rfl ((hp.picks [6] (by decide)).drew) ?_
                have hp := hp.drew
                have hF := hF.step0 (Fr.drew _)
                refine Pl_y rfl (wtd0 rfl) rfl rfl (y_move rfl rfl) ?_
                refine Pl_y rfl (wtd0 rfl) rfl rfl (y_fld rfl rfl Ty.fo_75_1) ?_
                refine Pl_y rfl (wtd0 rfl) rfl rfl (y_load (i := 0) rfl rfl Ty.pl_3 (fun _ h => h) rfl rfl) ?_
                refine Pl_y rfl (wtd0 rfl) rfl rfl (y_move rfl rfl) ?_
                refine Pl_y rfl (wtd0 rfl) rfl rfl (y_move rfl rfl) ?_
                refine Pl_y rfl (wtd0 rfl) rfl rfl (y_fld rfl rfl Ty.fo_75_1) ?_
                refine Pl_y rfl (wtd0 rfl) rfl rfl (y_load (i := 0) rfl rfl Ty.pl_3 (fun _ h => h) rfl rfl) ?_
                refine Pl_y rfl (wtd0 rfl) rfl rfl (y_move rfl rfl) ?_
                refine Pl_a rfl (wtd0 rfl) (by rfl) ?_
                refine a_call rfl rfl rfl rfl (dwrite_m p D _ (hp.picks [0, 1, 2] (by decide)) hD ii (packS cg cq cf cd)) (fun v wd1 ⟨hv, hM⟩ => ?_)
                subst hv
                have hp : Hp wd1 [(_, Cl [_, _, _, _, _] _), _, _, (_, Cl [_, _, _, _, _, _, _, _] _), (_, Cl [_, _, _, _, _] _), _, _] := hp.call [3, 4, 5, 6] [0, 1, 2] (by decide) rfl hM
                have hF := hF.step hM.fr (fun y hy => Or.inr (hdk y hy))
                refine ⟨hp.picks [3] (by decide), ?_⟩
                refine Pl_a rfl (wtd0 rfl) (by rfl) ?_
                refine a_call rfl rfl rfl rfl (rwrite_ok q { D with left := rl } _ (hp.picks [0, 1, 2] (by decide)) hR ii (packS cg cq cf cd)) (fun v wd2 ⟨hv, hM⟩ => ?_)
                subst hv
                have hp : Hp wd2 [(_, Cl [_, _, _, _, _, _, _, _] _), (_, Cl [_, _, _, _, _] _), _, _, (_, Cl [_, _, _, _, _] _), _, _] := hp.call [3, 4, 5, 6] [0, 1, 2] (by decide) rfl hM
                have hF := hF.step hM.fr (fun y hy => Or.inr (hrk y hy))
                refine ⟨hp.picks [0] (by decide), ?_⟩
                refine Pl_y rfl (wtd0 rfl) rfl rfl (y_eq rfl rfl rfl) ?_
                refine Pl_bool 116 rfl (fun _ => ?_) (fun hc29 => absurd hc29 (by simp [hRel.writeE]))
                have hRel2 : RelD (writeD D ii (packS cg cq cf cd)) (rwriteD { D with left := rl } ii (packS cg cq cf cd)) := hRel.writeD _ _
                have hD2 : DkOk (writeD D ii (packS cg cq cf cd)) := writeD_ok hD _ _
                have hR2 : DkOk (rwriteD { D with left := rl } ii (packS cg cq cf cd)) := rwriteD_ok hR _ _
                have hrk2 : ∀ y ∈ [(q).gd, (q).gn, (q).gl], w.heap.size ≤ y := hrk
                have hq : Hp _ (dkH p (writeD D ii (packS cg cq cf cd)) ++ rkH (q) (rwriteD { D with left := rl } ii (packS cg cq cf cd))) := (hp.picks [1, 2, 3, 4, 5, 6] (by decide))
                rw [hRel2.eq] at hq hR2 hRel2
                refine Pl_y rfl (wtd0 rfl) rfl rfl (y_assign rfl rfl) ?_
                refine Pl_nil (Ib_n (Th_n (hK65 _ _ ?_)))
                refine Wp_seq fun K71 hK71 => ?_
                refine Wp_region ?_
                refine Ls_y (wtd0 rfl) rfl rfl (y_move rfl rfl) ?_
                refine Ls_y (wtd0 rfl) rfl rfl (y_not rfl rfl) ?_
                refine Ls_y (wtd0 rfl) rfl rfl (y_move rfl rfl) ?_
                refine Ls_y (wtdT rfl rfl rfl) rfl rfl (y_move rfl rfl) ?_
                refine Ls_y (wtdT rfl rfl rfl) rfl rfl (y_move rfl rfl) ?_
                refine Ls_a (wtdT rfl rfl rfl) ?_
                refine a_call rfl rfl rfl rfl (lsame_ok p (q) (writeD D ii (packS cg cq cf cd)) (rwriteD { D with left := rl } ii (packS cg cq cf cd)).left _ hq hD2 hR2) (fun v wz ⟨hv, hf⟩ => ?_)
                subst hv
                have hq := hq.keep0 hf
                have hF := hF.step0 hf
                have hp := hp.keep0 hf
                refine Ls_y (wtdT rfl rfl rfl) rfl rfl (y_not rfl rfl) ?_
                refine Ls_y (wtd0 rfl) rfl rfl (y_pick_f rfl rfl rfl) ?_
                refine Ls_nil (Th_n (hK71 _ _ ?_))
                refine Wp_cond_f rfl ?_
                refine Wp_skip (Ib_n (Th_n (hK59 _ _ ?_)))
                refine Wp_region ?_
                refine Ls_y (wtd0 rfl) rfl rfl (y_move rfl rfl) ?_
                first
                  | refine Ls_y (wtd0 rfl) rfl rfl (y_add rfl rfl rfl (w_succ (by omega))) ?_
                  | refine Ls_y (wtd0 rfl) rfl rfl (y_add rfl rfl rfl (wf_i64 (by omega))) ?_
                  | refine Ls_y (wtd0 rfl) rfl rfl (y_add rfl rfl rfl rfl) ?_
                refine Ls_y (wtd0 rfl) rfl rfl (y_assign rfl rfl) ?_
                refine Ls_nil (Th_n (?_))
                exact ⟨ops.length - (k + 1), [(1, _), (5, _), (7, _), (9, _)], by omega, ⟨rfl, rfl, rfl, rfl, trivial⟩, k + 1, writeD D ii (packS cg cq cf cd), (rwriteD { D with left := rl } ii (packS cg cq cf cd)).left, q, by omega, rfl, rfl, hq, hD2, hR2, hRel2, hF, hrk2⟩
              · refine Ls_y (wtd0 rfl) rfl rfl (y_assign rfl rfl) ?_
                refine Ls_nil (Th_n (hK69 _ _ ?_))
                refine Wp_cond_f rfl ?_
                refine Wp_seq fun K72 hK72 => ?_
                refine Wp_region ?_
                refine Ls_y (wtd0 rfl) rfl rfl (y_eq rfl rfl rfl) ?_
                refine Ls_bool 118 rfl (fun hc30 => ?_) (fun hc30 => ?_)
                all_goals try simp only [decide_eq_true_eq, decide_eq_false_iff_not, beq_iff_eq, bne_iff_ne, ne_eq, beq_eq_false_iff_ne, bne_eq_false_iff_eq, Bool.not_eq_true, Bool.not_eq_false] at hc30
                · refine Ls_y (wtd0 rfl) rfl rfl (y_assign rfl rfl) ?_
                  refine Ls_nil (Th_n (hK72 _ _ ?_))
                  refine Wp_cond_t rfl ?_
                  refine Wp_region ?_
                  refine Ls_y (wtd0 rfl) rfl rfl (y_move rfl rfl) ?_
                  refine Ls_a (wtd0 rfl) ?_
                  refine a_call rfl rfl rfl rfl (dsync_m p D _ (hp.picks [0, 1, 2] (by decide)) hD) (fun v wd1 ⟨hv, hM⟩ => ?_)
                  subst hv
                  have hp : Hp wd1 [(_, Cl [_, _, _, _, _] _), _, _, (_, Cl [_, _, _, _, _, _, _, _] _), (_, Cl [_, _, _, _, _] _), _, _] := hp.call [3, 4, 5, 6] [0, 1, 2] (by decide) rfl hM
                  have hF := hF.step hM.fr (fun y hy => Or.inr (hdk y hy))
                  refine Ls_y (wtd0 rfl) rfl rfl (y_move rfl rfl) ?_
                  have hzz := hF.size
                  refine Ls_a (wtd0 rfl) ?_
                  refine a_call rfl rfl rfl rfl (rsync_ok q { D with left := rl } _ (hp.picks [0, 1, 2] (by decide)) hR) (fun v wd2 ⟨hv, gl, cl, sl, hM⟩ => ?_)
                  subst hv
                  have hp : Hp wd2 [(_, Cl [_, _, _, _, _, _, _, _] _), (_, Cl [_, _, _, _, _] _), _, _, (_, Cl [_, _, _, _, _] _), _, _] := hp.call [3, 4, 5, 6] [0, 1, 2] (by decide) rfl hM
                  have hF := hF.step hM.fr (fun y hy => Or.inr (hrk y hy))
                  refine Ls_y (wtd0 rfl) rfl rfl (y_eq rfl rfl rfl) ?_
                  refine Ls_bool 123 rfl (fun _ => ?_) (fun hc31 => absurd hc31 (by simp [hRel.syncE]))
                  have hRel2 : RelD (syncD D) (rsyncD { D with left := rl }) := hRel.syncD
                  have hD2 : DkOk (syncD D) := syncD_ok hD
                  have hR2 : DkOk (rsyncD { D with left := rl }) := rsyncD_ok hR
                  have hrk2 : ∀ y ∈ [({ q with gl := gl, cl := cl, sl := sl }).gd, ({ q with gl := gl, cl := cl, sl := sl }).gn, ({ q with gl := gl, cl := cl, sl := sl }).gl], w.heap.size ≤ y := fun y hy => by
                    rcases hM.nw y hy with h | h
                    · exact hrk y h
                    · exact Nat.le_trans hzz h
                  have hq : Hp _ (dkH p (syncD D) ++ rkH ({ q with gl := gl, cl := cl, sl := sl }) (rsyncD { D with left := rl })) := (hp.picks [1, 2, 3, 4, 5, 6] (by decide))
                  rw [hRel2.eq] at hq hR2 hRel2
                  refine Ls_y (wtd0 rfl) rfl rfl (y_assign rfl rfl) ?_
                  refine Ls_nil (Ib_n (Th_n (hK65 _ _ ?_)))
                  refine Wp_seq fun K73 hK73 => ?_
                  refine Wp_region ?_
                  refine Ls_y (wtd0 rfl) rfl rfl (y_move rfl rfl) ?_
                  refine Ls_y (wtd0 rfl) rfl rfl (y_not rfl rfl) ?_
                  refine Ls_y (wtd0 rfl) rfl rfl (y_move rfl rfl) ?_
                  refine Ls_y (wtdT rfl rfl rfl) rfl rfl (y_move rfl rfl) ?_
                  refine Ls_y (wtdT rfl rfl rfl) rfl rfl (y_move rfl rfl) ?_
                  refine Ls_a (wtdT rfl rfl rfl) ?_
                  refine a_call rfl rfl rfl rfl (lsame_ok p ({ q with gl := gl, cl := cl, sl := sl }) (syncD D) (rsyncD { D with left := rl }).left _ hq hD2 hR2) (fun v wz ⟨hv, hf⟩ => ?_)
                  subst hv
                  have hq := hq.keep0 hf
                  have hF := hF.step0 hf
                  have hp := hp.keep0 hf
                  refine Ls_y (wtdT rfl rfl rfl) rfl rfl (y_not rfl rfl) ?_
                  refine Ls_y (wtd0 rfl) rfl rfl (y_pick_f rfl rfl rfl) ?_
                  refine Ls_nil (Th_n (hK73 _ _ ?_))
                  refine Wp_cond_f rfl ?_
                  refine Wp_skip (Ib_n (Th_n (hK59 _ _ ?_)))
                  refine Wp_region ?_
                  refine Ls_y (wtd0 rfl) rfl rfl (y_move rfl rfl) ?_
                  first
                    | refine Ls_y (wtd0 rfl) rfl rfl (y_add rfl rfl rfl (w_succ (by omega))) ?_
                    | refine Ls_y (wtd0 rfl) rfl rfl (y_add rfl rfl rfl (wf_i64 (by omega))) ?_
                    | refine Ls_y (wtd0 rfl) rfl rfl (y_add rfl rfl rfl rfl) ?_
                  refine Ls_y (wtd0 rfl) rfl rfl (y_assign rfl rfl) ?_
                  refine Ls_nil (Th_n (?_))
                  exact ⟨ops.length - (k + 1), [(1, _), (5, _), (7, _), (9, _)], by omega, ⟨rfl, rfl, rfl, rfl, trivial⟩, k + 1, syncD D, (rsyncD { D with left := rl }).left, { q with gl := gl, cl := cl, sl := sl }, by omega, rfl, rfl, hq, hD2, hR2, hRel2, hF, hrk2⟩
                · refine Ls_y (wtd0 rfl) rfl rfl (y_assign rfl rfl) ?_
                  refine Ls_nil (Th_n (hK72 _ _ ?_))
                  refine Wp_cond_f rfl ?_
                  refine Wp_seq fun K74 hK74 => ?_
                  refine Wp_region ?_
                  refine Ls_y (wtd0 rfl) rfl rfl (y_eq rfl rfl rfl) ?_
                  refine Ls_bool 125 rfl (fun hc32 => ?_) (fun hc32 => ?_)
                  all_goals try simp only [decide_eq_true_eq, decide_eq_false_iff_not, beq_iff_eq, bne_iff_ne, ne_eq, beq_eq_false_iff_ne, bne_eq_false_iff_eq, Bool.not_eq_true, Bool.not_eq_false] at hc32
                  · refine Ls_y (wtd0 rfl) rfl rfl (y_assign rfl rfl) ?_
                    refine Ls_nil (Th_n (hK74 _ _ ?_))
                    refine Wp_cond_t rfl ?_
                    refine Wp_seq fun K75 hK75 => ?_
                    refine Wp_region ?_
                    refine Ls_y (wtd0 rfl) rfl rfl (y_move rfl rfl) ?_
                    refine Ls_a (wtd0 rfl) ?_
                    refine a_call rfl rfl rfl rfl (dcopy_ok p D _ (hp.picks [0, 1, 2] (by decide)) hD) (fun v wc ⟨p3, hv, hN, _⟩ => ?_)
                    subst hv
                    have hp : Hp wc [(_, Cl [_, _, _, _, _] _), _, _, (_, Cl [_, _, _, _, _] _), _, _, (_, Cl [_, _, _, _, _, _, _, _] _), (_, Cl [_, _, _, _, _] _), _, _] := hp.add hN
                    have hck : ∀ y ∈ [p3.gd, p3.gn, p3.gl], w.heap.size ≤ y := fun y hy => Nat.le_trans hF.size (hN.nw y hy)
                    have hF := hF.step0 hN.fr
                    refine Ls_y (wtd0 rfl) rfl rfl (y_assign rfl rfl) ?_
                    refine Ls_nil (Th_n (hK75 _ _ ?_))
                    refine Wp_seq fun K76 hK76 => ?_
                    refine Wp_seq fun K77 hK77 => ?_
                    refine Wp_region ?_
                    refine Ls_y (wtd0 rfl) rfl rfl (y_move rfl rfl) ?_
                    refine Ls_y (wtd0 rfl) rfl rfl (y_eqnp rfl rfl rfl Try.underlying67) ?_
                    refine Ls_bool 129 rfl (fun hc33 => absurd hc33 (by simp)) (fun _ => ?_)
                    refine Ls_y (wtd0 rfl) rfl rfl (y_move rfl rfl) ?_
                    refine Ls_y (wtdT rfl rfl rfl) rfl rfl (y_move rfl rfl) ?_
                    refine Ls_y (wtdT rfl rfl rfl) rfl rfl (y_move rfl rfl) ?_
                    refine Ls_a (wtdT rfl rfl rfl) ?_
                    refine a_call rfl rfl rfl rfl (lsame_ok p3 q D rl _ (hp.picks [7, 8, 9, 3, 4, 5] (by decide)) hD hR) (fun v wz ⟨hv, hf⟩ => ?_)
                    subst hv
                    have hp := hp.keep0 hf
                    have hF := hF.step0 hf
                    refine Ls_y (wtdT rfl rfl rfl) rfl rfl (y_not rfl rfl) ?_
                    refine Ls_y (wtd0 rfl) rfl rfl (y_pick_f rfl rfl rfl) ?_
                    refine Ls_nil (Th_n (hK77 _ _ ?_))
                    refine Wp_cond_f rfl ?_
                    refine Wp_skip (Th_n (hK76 _ _ ?_))
                    refine Wp_seq fun K78 hK78 => ?_
                    refine Wp_region ?_
                    refine Ls_y (wtd0 rfl) rfl rfl (y_move rfl rfl) ?_
                    refine Ls_a (wtd0 rfl) ?_
                    refine a_call rfl rfl rfl rfl (dwrite_m p3 D _ (hp.picks [7, 8, 9] (by decide)) hD 0 [120]) (fun v wd1 ⟨hv, hM⟩ => ?_)
                    subst hv
                    have hp : Hp wd1 [(_, Cl [_, _, _, _, _] _), _, _, (_, Cl [_, _, _, _, _] _), _, _, (_, Cl [_, _, _, _, _, _, _, _] _), (_, Cl [_, _, _, _, _] _), _, _] := hp.call [0, 1, 2, 3, 4, 5, 6] [7, 8, 9] (by decide) rfl hM
                    have hF := hF.step hM.fr (fun y hy => Or.inr (hck y hy))
                    refine Ls_nil (Th_n (hK78 _ _ ?_))
                    refine Wp_region ?_
                    refine Ls_y (wtd0 rfl) rfl rfl (y_move rfl rfl) ?_
                    refine Ls_a (wtd0 rfl) ?_
                    refine a_call rfl rfl rfl rfl (dsync_m p3 (writeD D 0 [120]) _ (hp.picks [7, 8, 9] (by decide)) (writeD_ok hD _ _)) (fun v wd2 ⟨hv, hM⟩ => ?_)
                    subst hv
                    have hp : Hp wd2 [(_, Cl [_, _, _, _, _] _), _, _, (_, Cl [_, _, _, _, _] _), _, _, (_, Cl [_, _, _, _, _, _, _, _] _), (_, Cl [_, _, _, _, _] _), _, _] := hp.call [0, 1, 2, 3, 4, 5, 6] [7, 8, 9] (by decide) rfl hM
                    have hF := hF.step hM.fr (fun y hy => Or.inr (hck y hy))
                    refine Ls_nil (Ib_n (Th_n (hK65 _ _ ?_)))
                    have hRel2 : RelD (D) ({ D with left := rl }) := hRel
                    have hD2 : DkOk (D) := hD
                    have hR2 : DkOk ({ D with left := rl }) := hR
                    have hrk2 : ∀ y ∈ [(q).gd, (q).gn, (q).gl], w.heap.size ≤ y := hrk
                    have hq : Hp _ (dkH p (D) ++ rkH (q) ({ D with left := rl })) := (hp.picks [0, 1, 2, 3, 4, 5] (by decide))
                    rw [hRel2.eq] at hq hR2 hRel2
                    refine Wp_seq fun K79 hK79 => ?_
                    refine Wp_region ?_
                    refine Ls_y (wtd0 rfl) rfl rfl (y_move rfl rfl) ?_
                    refine Ls_y (wtd0 rfl) rfl rfl (y_not rfl rfl) ?_
                    refine Ls_y (wtd0 rfl) rfl rfl (y_move rfl rfl) ?_
                    refine Ls_y (wtdT rfl rfl rfl) rfl rfl (y_move rfl rfl) ?_
                    refine Ls_y (wtdT rfl rfl rfl) rfl rfl (y_move rfl rfl) ?_
                    refine Ls_a (wtdT rfl rfl rfl) ?_
                    refine a_call rfl rfl rfl rfl (lsame_ok p (q) (D) ({ D with left := rl }).left _ hq hD2 hR2) (fun v wz ⟨hv, hf⟩ => ?_)
                    subst hv
                    have hq := hq.keep0 hf
                    have hF := hF.step0 hf
                    have hp := hp.keep0 hf
                    refine Ls_y (wtdT rfl rfl rfl) rfl rfl (y_not rfl rfl) ?_
                    refine Ls_y (wtd0 rfl) rfl rfl (y_pick_f rfl rfl rfl) ?_
                    refine Ls_nil (Th_n (hK79 _ _ ?_))
                    refine Wp_cond_f rfl ?_
                    refine Wp_skip (Ib_n (Th_n (hK59 _ _ ?_)))
                    refine Wp_region ?_
                    refine Ls_y (wtd0 rfl) rfl rfl (y_move rfl rfl) ?_
                    first
                      | refine Ls_y (wtd0 rfl) rfl rfl (y_add rfl rfl rfl (w_succ (by omega))) ?_
                      | refine Ls_y (wtd0 rfl) rfl rfl (y_add rfl rfl rfl (wf_i64 (by omega))) ?_
                      | refine Ls_y (wtd0 rfl) rfl rfl (y_add rfl rfl rfl rfl) ?_
                    refine Ls_y (wtd0 rfl) rfl rfl (y_assign rfl rfl) ?_
                    refine Ls_nil (Th_n (?_))
                    exact ⟨ops.length - (k + 1), [(1, _), (5, _), (7, _), (9, _)], by omega, ⟨rfl, rfl, rfl, rfl, trivial⟩, k + 1, D, ({ D with left := rl }).left, q, by omega, rfl, rfl, hq, hD2, hR2, hRel2, hF, hrk2⟩
                  · refine Ls_y (wtd0 rfl) rfl rfl (y_assign rfl rfl) ?_
                    refine Ls_nil (Th_n (hK74 _ _ ?_))
                    refine Wp_cond_f rfl ?_
                    refine Wp_seq fun K80 hK80 => ?_
                    refine Wp_region ?_
                    refine Ls_y (wtd0 rfl) rfl rfl (y_eq rfl rfl rfl) ?_
                    refine Ls_bool 141 rfl (fun hc34 => ?_) (fun hc34 => ?_)
                    all_goals try simp only [decide_eq_true_eq, decide_eq_false_iff_not, beq_iff_eq, bne_iff_ne, ne_eq, beq_eq_false_iff_ne, bne_eq_false_iff_eq, Bool.not_eq_true, Bool.not_eq_false] at hc34
                    · refine Ls_y (wtd0 rfl) rfl rfl (y_assign rfl rfl) ?_
                      refine Ls_nil (Th_n (hK80 _ _ ?_))
                      refine Wp_cond_t rfl ?_
                      refine Wp_seq fun K81 hK81 => ?_
                      refine Wp_region ?_
                      refine Ls_y (wtd0 rfl) rfl rfl (y_move rfl rfl) ?_
                      refine Ls_y (wtd0 rfl) rfl rfl (y_fld rfl rfl Ty.fo_75_1) ?_
                      first
                        | refine Ls_y (wtd0 rfl) rfl rfl (y_load (i := 0) rfl rfl Ty.pl_3 (fun _ e => e ▸ hp) rfl rfl) ?_
                        | refine Ls_y (wtd0 rfl) rfl rfl (y_load (i := 1) rfl rfl Ty.pl_3 (fun _ e => e ▸ hp) rfl rfl) ?_
                        | refine Ls_y (wtd0 rfl) rfl rfl (y_load (i := 2) rfl rfl Ty.pl_3 (fun _ e => e ▸ hp) rfl rfl) ?_
                        | refine Ls_y (wtd0 rfl) rfl rfl (y_load (i := 3) rfl rfl Ty.pl_3 (fun _ e => e ▸ hp) rfl rfl) ?_
                        | refine Ls_y (wtd0 rfl) rfl rfl (y_load (i := 4) rfl rfl Ty.pl_3 (fun _ e => e ▸ hp) rfl rfl) ?_
                        | refine Ls_y (wtd0 rfl) rfl rfl (y_load (i := 5) rfl rfl Ty.pl_3 (fun _ e => e ▸ hp) rfl rfl) ?_
                        | refine Ls_y (wtd0 rfl) rfl rfl (y_load (i := 6) rfl rfl Ty.pl_3 (fun _ e => e ▸ hp) rfl rfl) ?_
                      refine Ls_a (wtd0 rfl) ?_
                      refine a_call rfl rfl rfl rfl (darm_m p D _ (hp.picks [0, 1, 2] (by decide)) ii) (fun v wd1 ⟨hv, hM⟩ => ?_)
                      subst hv
                      have hp : Hp wd1 [(_, Cl [_, _, _, _, _] _), _, _, (_, Cl [_, _, _, _, _, _, _, _] _), (_, Cl [_, _, _, _, _] _), _, _] := hp.call [3, 4, 5, 6] [0, 1, 2] (by decide) rfl hM
                      have hF := hF.step hM.fr (fun y hy => Or.inr (hdk y hy))
                      refine Ls_nil (Th_n (hK81 _ _ ?_))
                      refine Wp_region ?_
                      refine Ls_y (wtd0 rfl) rfl rfl (y_move rfl rfl) ?_
                      refine Ls_y (wtd0 rfl) rfl rfl (y_fld rfl rfl Ty.fo_75_1) ?_
                      first
                        | refine Ls_y (wtd0 rfl) rfl rfl (y_load (i := 0) rfl rfl Ty.pl_3 (fun _ e => e ▸ hp) rfl rfl) ?_
                        | refine Ls_y (wtd0 rfl) rfl rfl (y_load (i := 1) rfl rfl Ty.pl_3 (fun _ e => e ▸ hp) rfl rfl) ?_
                        | refine Ls_y (wtd0 rfl) rfl rfl (y_load (i := 2) rfl rfl Ty.pl_3 (fun _ e => e ▸ hp) rfl rfl) ?_
                        | refine Ls_y (wtd0 rfl) rfl rfl (y_load (i := 3) rfl rfl Ty.pl_3 (fun _ e => e ▸ hp) rfl rfl) ?_
                        | refine Ls_y (wtd0 rfl) rfl rfl (y_load (i := 4) rfl rfl Ty.pl_3 (fun _ e => e ▸ hp) rfl rfl) ?_
                        | refine Ls_y (wtd0 rfl) rfl rfl (y_load (i := 5) rfl rfl Ty.pl_3 (fun _ e => e ▸ hp) rfl rfl) ?_
                        | refine Ls_y (wtd0 rfl) rfl rfl (y_load (i := 6) rfl rfl Ty.pl_3 (fun _ e => e ▸ hp) rfl rfl) ?_
                      refine Ls_a (wtd0 rfl) ?_
                      refine a_call rfl rfl rfl rfl (rarm_ok q { D with left := rl } _ (hp.picks [0, 1, 2] (by decide)) ii) (fun v wd2 ⟨hv, hM⟩ => ?_)
                      subst hv
                      have hp : Hp wd2 [(_, Cl [_, _, _, _, _, _, _, _] _), (_, Cl [_, _, _, _, _] _), _, _, (_, Cl [_, _, _, _, _] _), _, _] := hp.call [3, 4, 5, 6] [0, 1, 2] (by decide) rfl hM
                      have hF := hF.step hM.fr (fun y hy => Or.inr (hrk y hy))
                      refine Ls_nil (Ib_n (Th_n (hK65 _ _ ?_)))
                      have hRel2 : RelD (armD D ii) (armD { D with left := rl } ii) := hRel.armD _
                      have hD2 : DkOk (armD D ii) := armD_ok hD _ hO.i1
                      have hR2 : DkOk (armD { D with left := rl } ii) := armD_ok hR _ hO.i1
                      have hrk2 : ∀ y ∈ [(q).gd, (q).gn, (q).gl], w.heap.size ≤ y := hrk
                      have hq : Hp _ (dkH p (armD D ii) ++ rkH (q) (armD { D with left := rl } ii)) := (hp.picks [1, 2, 3, 4, 5, 6] (by decide))
                      rw [hRel2.eq] at hq hR2 hRel2
                      refine Wp_seq fun K82 hK82 => ?_
                      refine Wp_region ?_
                      refine Ls_y (wtd0 rfl) rfl rfl (y_move rfl rfl) ?_
                      refine Ls_y (wtd0 rfl) rfl rfl (y_not rfl rfl) ?_
                      refine Ls_y (wtd0 rfl) rfl rfl (y_move rfl rfl) ?_
                      refine Ls_y (wtdT rfl rfl rfl) rfl rfl (y_move rfl rfl) ?_
                      refine Ls_y (wtdT rfl rfl rfl) rfl rfl (y_move rfl rfl) ?_
                      refine Ls_a (wtdT rfl rfl rfl) ?_
                      refine a_call rfl rfl rfl rfl (lsame_ok p (q) (armD D ii) (armD { D with left := rl } ii).left _ hq hD2 hR2) (fun v wz ⟨hv, hf⟩ => ?_)
                      subst hv
                      have hq := hq.keep0 hf
                      have hF := hF.step0 hf
                      have hp := hp.keep0 hf
                      refine Ls_y (wtdT rfl rfl rfl) rfl rfl (y_not rfl rfl) ?_
                      refine Ls_y (wtd0 rfl) rfl rfl (y_pick_f rfl rfl rfl) ?_
                      refine Ls_nil (Th_n (hK82 _ _ ?_))
                      refine Wp_cond_f rfl ?_
                      refine Wp_skip (Ib_n (Th_n (hK59 _ _ ?_)))
                      refine Wp_region ?_
                      refine Ls_y (wtd0 rfl) rfl rfl (y_move rfl rfl) ?_
                      first
                        | refine Ls_y (wtd0 rfl) rfl rfl (y_add rfl rfl rfl (w_succ (by omega))) ?_
                        | refine Ls_y (wtd0 rfl) rfl rfl (y_add rfl rfl rfl (wf_i64 (by omega))) ?_
                        | refine Ls_y (wtd0 rfl) rfl rfl (y_add rfl rfl rfl rfl) ?_
                      refine Ls_y (wtd0 rfl) rfl rfl (y_assign rfl rfl) ?_
                      refine Ls_nil (Th_n (?_))
                      exact ⟨ops.length - (k + 1), [(1, _), (5, _), (7, _), (9, _)], by omega, ⟨rfl, rfl, rfl, rfl, trivial⟩, k + 1, armD D ii, (armD { D with left := rl } ii).left, q, by omega, rfl, rfl, hq, hD2, hR2, hRel2, hF, hrk2⟩
                    · refine Ls_y (wtd0 rfl) rfl rfl (y_assign rfl rfl) ?_
                      refine Ls_nil (Th_n (hK80 _ _ ?_))
                      refine Wp_cond_f rfl ?_
                      refine Wp_seq fun K83 hK83 => ?_
                      refine Wp_region ?_
                      refine Ls_y (wtd0 rfl) rfl rfl (y_move rfl rfl) ?_
                      refine Ls_a (wtd0 rfl) ?_
                      refine a_bsl0 rfl rfl rfl Ty.es_73 Ty.zc_3 hp (fun g1 w3 (hp : Hp w3 [(_, Cl [_, _, _, _, _] _), _, _, (_, Cl [_, _, _, _, _] _), _, _, (_, Cl [_, _, _, _, _, _, _, _] _), _]) hf hg1 => ?_)
                      have hg1 := Nat.le_trans hF.size hg1
                      have hF := hF.step0 hf
                      refine Ls_y (wtd0 rfl) rfl rfl (y_fld rfl rfl Ty.fo_75_4) ?_
                      first
                        | refine Ls_y (wtd0 rfl) rfl rfl (y_load (i := 0) rfl rfl Ty.pl_73 (fun _ e => e ▸ hp) rfl rfl) ?_
                        | refine Ls_y (wtd0 rfl) rfl rfl (y_load (i := 1) rfl rfl Ty.pl_73 (fun _ e => e ▸ hp) rfl rfl) ?_
                        | refine Ls_y (wtd0 rfl) rfl rfl (y_load (i := 2) rfl rfl Ty.pl_73 (fun _ e => e ▸ hp) rfl rfl) ?_
                        | refine Ls_y (wtd0 rfl) rfl rfl (y_load (i := 3) rfl rfl Ty.pl_73 (fun _ e => e ▸ hp) rfl rfl) ?_
                        | refine Ls_y (wtd0 rfl) rfl rfl (y_load (i := 4) rfl rfl Ty.pl_73 (fun _ e => e ▸ hp) rfl rfl) ?_
                        | refine Ls_y (wtd0 rfl) rfl rfl (y_load (i := 5) rfl rfl Ty.pl_73 (fun _ e => e ▸ hp) rfl rfl) ?_
                        | refine Ls_y (wtd0 rfl) rfl rfl (y_load (i := 6) rfl rfl Ty.pl_73 (fun _ e => e ▸ hp) rfl rfl) ?_
                        | refine Ls_y (wtd0 rfl) rfl rfl (y_load (i := 7) rfl rfl Ty.pl_73 (fun _ e => e ▸ hp) rfl rfl) ?_
                      refine Ls_a (wtd0 rfl) ?_
                      refine a_append (i := 7) (A := some ⟨g1, 0, none⟩) (xs := []) (sp := []) (news := ks.map intV) rfl rfl rfl rfl rfl rfl Ty.es_73 Ty.zc_3 rfl Ty.by_3 (by decide) ⟨rfl, .inr ⟨g1, rfl, rfl, Nat.le_refl _, by unfold maxLen; omega⟩⟩ hp rfl (by simp) ((hO.rd.keep hF (Nat.le_refl _) (by simp)).src) (fun e => by have := hO.rd.none e; simpa using this) (by simp [Value.oneCell']) (by unfold maxLen; omega) (by omega) (fun A' c' sp' w4 how' (hp : Hp w4 [(_, Cl [_, _, _, _, _] _), _, _, (_, Cl [_, _, _, _, _] _), _, _, (_, Cl [_, _, _, _, _, _, _, _] _), _]) hf hnw => ?_)
                      have hzz := hF.size
                      have hF := hF.step hf (by intro y hy; simp [blkOf] at hy; subst hy; exact Or.inr hg1)
                      rw [Nat.zero_add] at how' ⊢
                      have hkA : ∀ g, blkOf A' = some g → w.heap.size ≤ g := fun g hg => by
                        rcases hnw g hg with h | h
                        · simp [blkOf] at h; subst h; exact hg1
                        · exact Nat.le_trans hzz h
                      refine Ls_a (wtd0 rfl) ?_
                      refine a_call rfl rfl rfl rfl (dmend_ok p D _ A' c' ks sp' how' (hp.picks [0, 1, 2, 7] (by decide)) hD) (fun v wd1 ⟨hv, hM⟩ => ?_)
                      subst hv
                      have hp : Hp wd1 [(_, Cl [_, _, _, _, _] _), _, _, (_, Cl [_, _, _, _, _, _, _, _] _), (_, Cl [_, _, _, _, _] _), _, _, _] := hp.call [3, 4, 5, 6] [0, 1, 2, 7] (by decide) rfl hM
                      have hF := hF.step hM.fr (fr_dkA hdk hkA)
                      refine Ls_nil (Th_n (hK83 _ _ ?_))
                      refine Wp_region ?_
                      refine Ls_y (wtd0 rfl) rfl rfl (y_move rfl rfl) ?_
                      refine Ls_y (wtd0 rfl) rfl rfl (y_fld rfl rfl Ty.fo_75_4) ?_
                      first
                        | refine Ls_y (wtd0 rfl) rfl rfl (y_load (i := 0) rfl rfl Ty.pl_73 (fun _ e => e ▸ hp) rfl rfl) ?_
                        | refine Ls_y (wtd0 rfl) rfl rfl (y_load (i := 1) rfl rfl Ty.pl_73 (fun _ e => e ▸ hp) rfl rfl) ?_
                        | refine Ls_y (wtd0 rfl) rfl rfl (y_load (i := 2) rfl rfl Ty.pl_73 (fun _ e => e ▸ hp) rfl rfl) ?_
                        | refine Ls_y (wtd0 rfl) rfl rfl (y_load (i := 3) rfl rfl Ty.pl_73 (fun _ e => e ▸ hp) rfl rfl) ?_
                        | refine Ls_y (wtd0 rfl) rfl rfl (y_load (i := 4) rfl rfl Ty.pl_73 (fun _ e => e ▸ hp) rfl rfl) ?_
                        | refine Ls_y (wtd0 rfl) rfl rfl (y_load (i := 5) rfl rfl Ty.pl_73 (fun _ e => e ▸ hp) rfl rfl) ?_
                        | refine Ls_y (wtd0 rfl) rfl rfl (y_load (i := 6) rfl rfl Ty.pl_73 (fun _ e => e ▸ hp) rfl rfl) ?_
                        | refine Ls_y (wtd0 rfl) rfl rfl (y_load (i := 7) rfl rfl Ty.pl_73 (fun _ e => e ▸ hp) rfl rfl) ?_
                      refine Ls_a (wtd0 rfl) ?_
                      refine a_call rfl rfl rfl rfl (rmend_ok q { D with left := rl } _ (hp.picks [0, 1, 2] (by decide)) hR K kc ks _ (hO.rd.keep hF (Nat.le_refl _) (by simp)) hF.size hrk) (fun v wd2 ⟨hv, hM⟩ => ?_)
                      subst hv
                      have hp : Hp wd2 [(_, Cl [_, _, _, _, _, _, _, _] _), (_, Cl [_, _, _, _, _] _), _, _, _, (_, Cl [_, _, _, _, _] _), _, _] := hp.call [3, 4, 5, 6, 7] [0, 1, 2] (by decide) rfl hM
                      have hF := hF.step hM.fr (fun y hy => Or.inr (hrk y hy))
                      refine Ls_nil (Ib_n (Th_n (hK65 _ _ ?_)))
                      have hRel2 : RelD (mendD D ks) (mendD { D with left := rl } ks) := hRel.mend _
                      have hD2 : DkOk (mendD D ks) := mendD_ok hD _
                      have hR2 : DkOk (mendD { D with left := rl } ks) := mendD_ok hR _
                      have hrk2 : ∀ y ∈ [(q).gd, (q).gn, (q).gl], w.heap.size ≤ y := hrk
                      have hq : Hp _ (dkH p (mendD D ks) ++ rkH (q) (mendD { D with left := rl } ks)) := (hp.picks [1, 2, 3, 5, 6, 7] (by decide))
                      rw [hRel2.eq] at hq hR2 hRel2
                      refine Wp_seq fun K84 hK84 => ?_
                      refine Wp_region ?_
                      refine Ls_y (wtd0 rfl) rfl rfl (y_move rfl rfl) ?_
                      refine Ls_y (wtd0 rfl) rfl rfl (y_not rfl rfl) ?_
                      refine Ls_y (wtd0 rfl) rfl rfl (y_move rfl rfl) ?_
                      refine Ls_y (wtdT rfl rfl rfl) rfl rfl (y_move rfl rfl) ?_
                      refine Ls_y (wtdT rfl rfl rfl) rfl rfl (y_move rfl rfl) ?_
                      refine Ls_a (wtdT rfl rfl rfl) ?_
                      refine a_call rfl rfl rfl rfl (lsame_ok p (q) (mendD D ks) (mendD { D with left := rl } ks).left _ hq hD2 hR2) (fun v wz ⟨hv, hf⟩ => ?_)
                      subst hv
                      have hq := hq.keep0 hf
                      have hF := hF.step0 hf
                      have hp := hp.keep0 hf
                      refine Ls_y (wtdT rfl rfl rfl) rfl rfl (y_not rfl rfl) ?_
                      refine Ls_y (wtd0 rfl) rfl rfl (y_pick_f rfl rfl rfl) ?_
                      refine Ls_nil (Th_n (hK84 _ _ ?_))
                      refine Wp_cond_f rfl ?_
                      refine Wp_skip (Ib_n (Th_n (hK59 _ _ ?_)))
                      refine Wp_region ?_
                      refine Ls_y (wtd0 rfl) rfl rfl (y_move rfl rfl) ?_
                      first
                        | refine Ls_y (wtd0 rfl) rfl rfl (y_add rfl rfl rfl (w_succ (by omega))) ?_
                        | refine Ls_y (wtd0 rfl) rfl rfl (y_add rfl rfl rfl (wf_i64 (by omega))) ?_
                        | refine Ls_y (wtd0 rfl) rfl rfl (y_add rfl rfl rfl rfl) ?_
                      refine Ls_y (wtd0 rfl) rfl rfl (y_assign rfl rfl) ?_
                      refine Ls_nil (Th_n (?_))
                      exact ⟨ops.length - (k + 1), [(1, _), (5, _), (7, _), (9, _)], by omega, ⟨rfl, rfl, rfl, rfl, trivial⟩, k + 1, mendD D ks, (mendD { D with left := rl } ks).left, q, by omega, rfl, rfl, hq, hD2, hR2, hRel2, hF, hrk2⟩
        · refine Ls_y (wtd0 rfl) rfl rfl (y_pick_t rfl rfl rfl) ?_
          refine Ls_nil (Th_n (hK58 _ _ ?_))
          refine Wp_cond_f rfl ?_
          refine Wp_exit (Th_e (Th_e (Ib_hit (Th_n (hK54 _ _ ?_)))))
          refine Wp_seq fun K85 hK85 => ?_
          refine Wp_region ?_
          refine Ls_y (wtd0 rfl) rfl rfl (y_assign rfl rfl) ?_
          refine Ls_nil (Th_n (hK85 _ _ ?_))
          refine Wp_ret (Fq_ret (Res1 rfl rfl) ?_)
          exact ⟨rfl, hF⟩
      · refine Ls_y (wtd0 rfl) rfl rfl (y_move rfl rfl) ?_
        refine Ls_s (wtdF rfl rfl rfl) rfl rfl ?_
        refine Ls_s (wtdF rfl rfl rfl) rfl rfl ?_
        refine Ls_y (wtd0 rfl) rfl rfl (y_pick_f rfl rfl rfl) ?_
        refine Ls_nil (Th_n (hK58 _ _ ?_))
        refine Wp_cond_f rfl ?_
        refine Wp_exit (Th_e (Th_e (Ib_hit (Th_n (hK54 _ _ ?_)))))
        refine Wp_seq fun K86 hK86 => ?_
        refine Wp_region ?_
        refine Ls_y (wtd0 rfl) rfl rfl (y_assign rfl rfl) ?_
        refine Ls_nil (Th_n (hK86 _ _ ?_))
        refine Wp_ret (Fq_ret (Res1 rfl rfl) ?_)
        exact ⟨rfl, hF⟩
    · refine Ls_a (wtd0 rfl) ?_
      refine a_call rfl rfl rfl rfl (dnew_bad (nn) _ (by omega)) (fun v wa ⟨hv, hw⟩ => ?_)
      subst hv
      subst hw
      refine Ls_y (wtd0 rfl) rfl rfl (y_move rfl rfl) ?_
      refine Ls_y (wtd0 rfl) rfl rfl (y_ext rfl rfl rfl) ?_
      refine Ls_y (wtd0 rfl) rfl rfl (y_ext rfl rfl rfl) ?_
      refine Ls_y (wtd0 rfl) rfl rfl (y_assign rfl rfl) ?_
      refine Ls_y (wtd0 rfl) rfl rfl (y_assign rfl rfl) ?_
      refine Ls_nil (Th_n (hK50 _ _ ?_))
      refine Wp_seq fun K87 hK87 => ?_
      refine Wp_region ?_
      refine Ls_y (wtd0 rfl) rfl rfl (y_move rfl rfl) ?_
      refine Ls_a (wtd0 rfl) ?_
      refine a_call rfl rfl rfl rfl (rnew_bad (nn) _ (by omega)) (fun v wa ⟨hv, hw⟩ => ?_)
      subst hv
      subst hw
      refine Ls_y (wtd0 rfl) rfl rfl (y_move rfl rfl) ?_
      refine Ls_y (wtd0 rfl) rfl rfl (y_ext rfl rfl rfl) ?_
      refine Ls_y (wtd0 rfl) rfl rfl (y_ext rfl rfl rfl) ?_
      refine Ls_y (wtd0 rfl) rfl rfl (y_assign rfl rfl) ?_
      refine Ls_y (wtd0 rfl) rfl rfl (y_assign rfl rfl) ?_
      refine Ls_nil (Th_n (hK87 _ _ ?_))
      refine Wp_seq fun K88 hK88 => ?_
      refine Wp_seq fun K89 hK89 => ?_
      refine Wp_region ?_
      refine Ls_y (wtd0 rfl) rfl rfl (y_move rfl rfl) ?_
      refine Ls_y (wtd0 rfl) rfl rfl (y_move rfl rfl) ?_
      refine Ls_y (wtd0 rfl) rfl rfl (y_neF rfl rfl rfl (by omega)) ?_
      refine Ls_y (wtd0 rfl) rfl rfl (y_move rfl rfl) ?_
      refine Ls_y (wtdT rfl rfl rfl) rfl rfl (y_move rfl rfl) ?_
      refine Ls_y (wtdT rfl rfl rfl) rfl rfl (y_neT rfl rfl rfl (by omega)) ?_
      refine Ls_y (wtd0 rfl) rfl rfl (y_pick_f rfl rfl rfl) ?_
      refine Ls_y (wtd0 rfl) rfl rfl (y_move rfl rfl) ?_
      refine Ls_s (wtdF rfl rfl rfl) rfl rfl ?_
      refine Ls_s (wtdF rfl rfl rfl) rfl rfl ?_
      refine Ls_y (wtd0 rfl) rfl rfl (y_pick_t rfl rfl rfl) ?_
      refine Ls_nil (Th_n (hK89 _ _ ?_))
      refine Wp_cond_t rfl ?_
      refine Wp_seq fun K90 hK90 => ?_
      refine Wp_region ?_
      refine Ls_y (wtd0 rfl) rfl rfl (y_move rfl rfl) ?_
      refine Ls_y (wtd0 rfl) rfl rfl (y_move rfl rfl) ?_
      refine Ls_y (wtd0 rfl) rfl rfl (y_eqT rfl rfl rfl (by omega)) ?_
      refine Ls_y (wtd0 rfl) rfl rfl (y_move rfl rfl) ?_
      refine Ls_y (wtdT rfl rfl rfl) rfl rfl (y_move rfl rfl) ?_
      refine Ls_y (wtdT rfl rfl rfl) rfl rfl (y_neT rfl rfl rfl (by omega)) ?_
      refine Ls_y (wtd0 rfl) rfl rfl (y_pick_t rfl rfl rfl) ?_
      refine Ls_y (wtd0 rfl) rfl rfl (y_move rfl rfl) ?_
      refine Ls_y (wtdT rfl rfl rfl) rfl rfl (y_move rfl rfl) ?_
      refine Ls_y (wtdT rfl rfl rfl) rfl rfl (y_eqnp rfl rfl rfl Try.underlying67) ?_
      refine Ls_bool 53 rfl (fun _ => ?_) (fun hc35 => absurd hc35 (by simp))
      refine Ls_y (wtd0 rfl) rfl rfl (y_pick_t rfl rfl rfl) ?_
      refine Ls_y (wtd0 rfl) rfl rfl (y_assign rfl rfl) ?_
      refine Ls_nil (Th_n (hK90 _ _ ?_))
      refine Wp_ret (Th_r (Fq_ret (Res1 rfl rfl) ?_))
      exact ⟨rfl, hF⟩

end Go.Proofs.Ytikdpkhcegjmfaa

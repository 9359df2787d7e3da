/- Walks printed by gen2.py out of our own specifications: what the functions named below do. -/
import Derived.Test.YtdckemiebnfjcaaGreatDoorSc
import Derived.Test.YtdckemiebnfjcaaGreatDoorZP
set_option linter.unusedSimpArgs false
set_option linter.unusedVariables false
set_option maxRecDepth 20000
namespace Go.Proofs.YtdckemiebnfjcaaGreatDoor
open Go.RowKit
def bytesOf (xs : List Int) : List UInt8 := xs.map fun q => UInt8.ofNat q.toNat
structure FltM where
  atF : Int
  e : Int
instance : Inhabited FltM := ⟨⟨default, default⟩⟩
instance : DecidableEq FltM := fun a b => decidable_of_iff (a.atF = b.atF ∧ a.e = b.e) (by cases a; cases b; simp)
structure RdM where
  s : List UInt8
  a : Int
  f : FltM
instance : Inhabited RdM := ⟨⟨default, default, default⟩⟩
instance : DecidableEq RdM := fun a b => decidable_of_iff (a.s = b.s ∧ a.a = b.a ∧ a.f = b.f) (by cases a; cases b; simp)
def rfail_c1 (t : RdM) (e : Int) : Bool :=
  (if t.f.e = 0 then e != 0 else false)
theorem rfail_c1_iff (t : RdM) (e : Int) : (rfail_c1 t e = true) ↔ ((t.f.e = 0) ∧ (¬ (e = 0))) := by
  unfold rfail_c1; exact (ci2 (by simp))
def rfail_m (t : RdM) (e : Int) : RdM :=
  if (rfail_c1 t e) = true then
    (⟨t.s, t.a, (⟨t.a, e⟩ : FltM)⟩ : RdM)
  else
    t
def Rok (t : RdM) : Prop := 0 ≤ t.a ∧ t.a ≤ t.s.length ∧ t.s.length ≤ 1000000 ∧ (t.f.e = 0 → t.f.atF = 0) ∧ 0 ≤ t.f.atF ∧ t.f.atF ≤ 1000000
theorem Rok.b {t : RdM} (h : Rok t) : 0 ≤ t.a ∧ t.a ≤ t.s.length ∧ t.s.length ≤ 1000000 := ⟨h.1, h.2.1, h.2.2.1⟩
theorem rfail_at {t : RdM} {e : Int} (h : t.f.e = 0) (he : ¬ e = 0) : rfail_m t e = ⟨t.s, t.a, ⟨t.a, e⟩⟩ := by
  unfold rfail_m; rw [if_pos ((rfail_c1_iff t e).2 ⟨h, he⟩)]
theorem rfail_rok {t : RdM} {e : Int} (h : Rok t) : Rok (rfail_m t e) := by
  unfold rfail_m
  split
  · rename_i hc
    obtain ⟨_, he⟩ := (rfail_c1_iff t e).1 hc
    have hb := h.b
    exact ⟨h.1, h.2.1, h.2.2.1, fun h0 => absurd h0 he, h.1, by simp only; omega⟩
  · exact h
def rnum_c1 (t : RdM) : Bool :=
  (if 0 < ((ix t.s t.a).toNat : Int) then ((ix t.s (t.a + 1)).toNat : Int) == 0 else false)
def rnum_L1 (t : RdM) : Nat → Int → Int → (Int × RdM) ⊕ (Int × Int)
  | 0, s4, s5 => .inr (s4, s5)
  | fuel + 1, s4, s5 =>
    if s5 ≤ ((ix t.s t.a).toNat : Int) then
      rnum_L1 t fuel ((((s4 * 256) % 18446744073709551616) + ((ix t.s (t.a + s5)).toNat : Int)) % 18446744073709551616) (s5 + 1)
    else
      .inr (s4, s5)
def rnum_m (t : RdM) : Int × RdM :=
  if t.f.e = 0 then
    if t.a = (t.s.length : Int) then
      (0, (rfail_m t 1))
    else
      if 8 < ((ix t.s t.a).toNat : Int) then
        (0, (rfail_m t 3))
      else
        if (((t.s.length : Int) - t.a) - 1) < ((ix t.s t.a).toNat : Int) then
          (0, (rfail_m t 1))
        else
          if (rnum_c1 t) = true then
            (0, (rfail_m t 3))
          else
            match rnum_L1 t (((((ix t.s t.a).toNat : Int) + 1) - (1 : Int)).toNat + 1) (0 : Int) (1 : Int) with
            | .inl r => r
            | .inr (s4, s5) =>
              (s4, (⟨t.s, (t.a + 1) + ((ix t.s t.a).toNat : Int), t.f⟩ : RdM))
  else
    (0, t)
theorem rnum_L1_inr (t : RdM) : ∀ (fuel : Nat) (a b : Int), 0 ≤ a ∧ a < 18446744073709551616 → ∃ c d, rnum_L1 t fuel a b = .inr (c, d) ∧ 0 ≤ c ∧ c < 18446744073709551616
  | 0, a, b, h => ⟨a, b, rfl, h⟩
  | fuel + 1, a, b, h => by
    rw [rnum_L1]
    split
    · exact rnum_L1_inr t fuel _ _ (by omega)
    · exact ⟨a, b, rfl, h⟩
theorem rnum_cases {t : RdM} (h : Rok t) : (rnum_m t = (0, t) ∧ ¬ t.f.e = 0) ∨ (∃ k, rnum_m t = (0, ⟨t.s, t.a, ⟨t.a, k⟩⟩) ∧ t.f.e = 0 ∧ (k = 1 ∨ k = 3)) ∨ (∃ v k, rnum_m t = (v, ⟨t.s, t.a + 1 + k, t.f⟩) ∧ t.f.e = 0 ∧ 0 ≤ k ∧ t.a + 1 + k ≤ t.s.length ∧ 0 ≤ v ∧ v < 18446744073709551616) := by
  have hb := h.b
  unfold rnum_m
  split
  · rename_i h0
    have e1 := rfail_at (t := t) (e := 1) h0 (by decide)
    have e3 := rfail_at (t := t) (e := 3) h0 (by decide)
    split
    · exact .inr (.inl ⟨1, by rw [e1], h0, .inl rfl⟩)
    split
    · exact .inr (.inl ⟨3, by rw [e3], h0, .inr rfl⟩)
    split
    · exact .inr (.inl ⟨1, by rw [e1], h0, .inl rfl⟩)
    split
    · exact .inr (.inl ⟨3, by rw [e3], h0, .inr rfl⟩)
    · obtain ⟨c, d, e, h1, h2⟩ := rnum_L1_inr t (((((ix t.s t.a).toNat : Int) + 1) - (1 : Int)).toNat + 1) 0 1 (by decide)
      rw [e]
      exact .inr (.inr ⟨c, _, rfl, h0, by omega, by omega, h1, h2⟩)
  · rename_i h0
    exact .inl ⟨rfl, h0⟩
theorem rnum_v {t : RdM} (h : Rok t) : 0 ≤ (rnum_m t).1 ∧ (rnum_m t).1 < 18446744073709551616 := by
  rcases rnum_cases h with ⟨e, h0⟩ | ⟨k, e, h0, hk⟩ | ⟨v, k, e, h0, h1, h2, h3⟩ <;> rw [e]
  · exact ⟨Int.le_refl _, by simp only; decide⟩
  · exact ⟨Int.le_refl _, by simp only; decide⟩
  · exact h3
def rint_c1 (t : RdM) (most : Int) : Bool :=
  (if (((rnum_m t).2).f.e) = 0 then (if most < 0 then true else decide ((most % 18446744073709551616) < ((rnum_m t).1))) else false)
theorem rint_c1_iff (t : RdM) (most : Int) : (rint_c1 t most = true) ↔ (((((rnum_m t).2).f.e) = 0) ∧ ((most < 0) ∨ ((most % 18446744073709551616) < ((rnum_m t).1)))) := by
  unfold rint_c1; exact (ci2 (ci1 decide_eq_true_iff))
def rint_m (t : RdM) (most : Int) : Int × RdM :=
  if (rint_c1 t most) = true then
    (0, (rfail_m (⟨((rnum_m t).2).s, t.a, ((rnum_m t).2).f⟩ : RdM) 2))
  else
    if (((rnum_m t).2).f.e) = 0 then
      (IntKind.i64.wrap ((rnum_m t).1), ((rnum_m t).2))
    else
      (0, ((rnum_m t).2))
theorem rint_cases {t : RdM} {m : Int} (h : Rok t) (hm : m < 9223372036854775808) : (rint_m t m = (0, t) ∧ ¬ t.f.e = 0) ∨ (∃ k, rint_m t m = (0, ⟨t.s, t.a, ⟨t.a, k⟩⟩) ∧ t.f.e = 0 ∧ ¬ k = 0) ∨ (∃ v k, rint_m t m = (v, ⟨t.s, t.a + 1 + k, t.f⟩) ∧ t.f.e = 0 ∧ 0 ≤ k ∧ t.a + 1 + k ≤ t.s.length ∧ 0 ≤ v ∧ v ≤ m) := by
  have hb := h.b
  have hi := rint_c1_iff t m
  unfold rint_m
  rcases rnum_cases h with ⟨e, h0⟩ | ⟨k, e, h0, hk⟩ | ⟨v, k, e, h0, h1, h2, h3, h4⟩
  · rw [e] at hi ⊢
    rw [if_neg (fun hc => h0 (hi.1 hc).1), if_neg h0]
    exact .inl ⟨rfl, h0⟩
  · rw [e] at hi ⊢
    rw [if_neg (fun hc => by have := (hi.1 hc).1; simp only at this; omega), if_neg (by simp only; omega)]
    exact .inr (.inl ⟨k, rfl, h0, by omega⟩)
  · rw [e] at hi ⊢
    by_cases hc : rint_c1 t m = true
    · rw [if_pos hc]
      have hf := rfail_at (t := ⟨t.s, t.a, t.f⟩) (e := 2) h0 (by decide)
      simp only at hf ⊢
      rw [hf]
      exact .inr (.inl ⟨2, rfl, h0, by decide⟩)
    · rw [if_neg hc, if_pos h0]
      have hn := mt hi.2 hc
      simp only at hn ⊢
      have hw : IntKind.i64.wrap v = v := by rw [IntKind.wrap_i64]; omega
      rw [hw]
      exact .inr (.inr ⟨v, k, rfl, h0, h1, h2, h3, by omega⟩)
theorem rint_rok {t : RdM} {m : Int} (h : Rok t) (hm : m < 9223372036854775808 := by first | decide | omega) : Rok (rint_m t m).2 := by
  have hb := h.b
  rcases rint_cases h hm with ⟨e, h0⟩ | ⟨k, e, h0, hk⟩ | ⟨v, k, e, h0, h1, h2, _⟩
  · rw [e]; exact h
  · rw [e]; exact ⟨h.1, h.2.1, h.2.2.1, fun hk0 => absurd hk0 hk, h.1, by simp only; omega⟩
  · rw [e]; exact ⟨by simp only; omega, by simp only; omega, h.2.2.1, h.2.2.2⟩
theorem rint_s {t : RdM} {m : Int} (h : Rok t) (hm : m < 9223372036854775808) : (rint_m t m).2.s = t.s := by
  rcases rint_cases h hm with ⟨e, h0⟩ | ⟨k, e, h0, hk⟩ | ⟨v, k, e, h0, h1, h2, _⟩ <;> rw [e]
theorem rint_back {t : RdM} {m : Int} (h : Rok t) (hm : m < 9223372036854775808) : Rok (⟨((rint_m t m).2).s, t.a, ((rint_m t m).2).f⟩ : RdM) := by
  have h1 := rint_rok h hm
  have e := rint_s h hm
  exact ⟨h.1, by simp only [e]; exact h.2.1, by simp only [e]; exact h.2.2.1, h1.2.2.2⟩
theorem rint_v {t : RdM} {m : Int} (h : Rok t) (hm : m < 9223372036854775808) : 0 ≤ (rint_m t m).1 ∧ ((rint_m t m).1 = 0 ∨ (rint_m t m).1 ≤ m) := by
  rcases rint_cases h hm with ⟨e, h0⟩ | ⟨k, e, h0, hk⟩ | ⟨v, k, e, h0, h1, h2, h3⟩ <;> rw [e]
  · exact ⟨Int.le_refl _, .inl rfl⟩
  · exact ⟨Int.le_refl _, .inl rfl⟩
  · exact ⟨h3.1, .inr h3.2⟩
theorem rint_le {t : RdM} {m : Int} (h : Rok t) (hm : 0 ≤ m ∧ m ≤ 1048576) : 0 ≤ (rint_m t m).1 ∧ (rint_m t m).1 ≤ 1048576 := by have := rint_v (m := m) h (by omega); omega
def rtext_c1 (t : RdM) (most : Int) : Bool :=
  (if (((rint_m t most).2).f.e) = 0 then decide ((((((rint_m t most).2).s).length : Int) - (((rint_m t most).2).a)) < ((rint_m t most).1)) else false)
theorem rtext_c1_iff (t : RdM) (most : Int) : (rtext_c1 t most = true) ↔ (((((rint_m t most).2).f.e) = 0) ∧ ((((((rint_m t most).2).s).length : Int) - (((rint_m t most).2).a)) < ((rint_m t most).1))) := by
  unfold rtext_c1; exact (ci2 decide_eq_true_iff)
def rtext_m (t : RdM) (most : Int) : (List UInt8) × RdM :=
  if (rtext_c1 t most) = true then
    ([], (rfail_m (⟨((rint_m t most).2).s, t.a, ((rint_m t most).2).f⟩ : RdM) 1))
  else
    if (((rint_m t most).2).f.e) = 0 then
      (((((rint_m t most).2).s).take ((((rint_m t most).2).a) + ((rint_m t most).1)).toNat).drop (((rint_m t most).2).a).toNat, (⟨((rint_m t most).2).s, (((rint_m t most).2).a) + ((rint_m t most).1), ((rint_m t most).2).f⟩ : RdM))
    else
      ([], ((rint_m t most).2))
theorem rtext_rok {t : RdM} {m : Int} (h : Rok t) (hm : m < 9223372036854775808 := by first | decide | omega) : Rok (rtext_m t m).2 := by
  have h1 := rint_rok h hm
  have h1b := h1.b
  have h2 := rint_v h hm
  unfold rtext_m
  split
  · rename_i hc
    exact rfail_rok (rint_back h hm)
  · rename_i hc
    have h3 := mt (rtext_c1_iff t m).2 hc
    split
    · exact ⟨by simp only; omega, by simp only; omega, h1.2.2.1, h1.2.2.2⟩
    · exact h1
def dgs : Nat → Int → List Int
  | 0, _ => []
  | f + 1, n => if 0 < n then dgs f (n / 256) ++ [n % 256] else []
def numB (u : Int) : List UInt8 := bytesOf (((dgs 8 u).length : Int) :: dgs 8 u)
theorem dgs_len : ∀ (f : Nat) (n : Int), (dgs f n).length ≤ f
  | 0, n => by simp [dgs]
  | f + 1, n => by
    rw [dgs]; split
    · have := dgs_len f (n / 256); rw [List.length_append, List.length_singleton]; omega
    · simp
theorem numB_len (u : Int) : (numB u).length ≤ 9 := by have := dgs_len 8 u; unfold numB bytesOf; rw [List.length_map, List.length_cons]; omega
set_option maxHeartbeats 4000000 in
theorem onum_ok (w : World) (u : Int) (hu : 0 ≤ u ∧ u < 18446744073709551616) : Fn Tryz.prog 32 [.int .u64 u] w fun v w' => v = sv (numB u) ∧ Fr [] w w' := by
  refine Fn_of 25 Ty.en_32 Tryz.func32 rfl rfl rfl ?_
  dsimp only [argEnv]
  have hp := Hp.nil w
  have hF := Fr.refl [] w
  refine Wp_seq fun K1 hK1 => ?_
  refine Wp_region ?_
  refine Ls_y (wtd0 rfl) rfl rfl (y_assign rfl rfl) ?_
  refine Ls_nil (Th_n (hK1 _ _ ?_))
  refine Wp_seq fun K2 hK2 => ?_
  refine Wp_region ?_
  refine Ls_a (wtd0 rfl) ?_
  refine a_alloc rfl rfl rfl Ty.zc_152 hp (fun g1 w1 (hp : Hp w1 [_]) hf hg1 => ?_)
  have hg1 := Nat.le_trans hF.size hg1
  have hF := hF.step0 hf
  refine Ls_nil (Th_n (hK2 _ _ ?_))
  refine Wp_seq fun K3 hK3 => ?_
  refine Wp_region ?_
  refine Ls_y (wtd0 rfl) rfl rfl (y_assign rfl rfl) ?_
  refine Ls_nil (Th_n (hK3 _ _ ?_))
  refine Wp_seq fun K4 hK4 => ?_
  refine Wp_block ?_
  refine Wp_unroll 10 (WpR_succ ?_)
  refine Wp_seq fun K5 hK5 => ?_
  refine Wp_seq fun K6 hK6 => ?_
  refine Wp_region ?_
  refine Ls_y (wtd0 rfl) rfl rfl (y_move rfl rfl) ?_
  refine Ls_y (wtd0 rfl) rfl rfl (y_gt rfl rfl rfl) ?_
  refine Ls_bool 6 rfl (fun h1 => ?_) (fun h1 => ?_)
  all_goals try simp only [decide_eq_true_eq, decide_eq_false_iff_not, beq_iff_eq, bne_iff_ne, ne_eq, beq_eq_false_iff_ne, bne_eq_false_iff_eq, Bool.not_eq_true, Bool.not_eq_false] at h1
  · refine Ls_nil (Th_n (hK6 _ _ ?_))
    refine Wp_cond_t rfl ?_
    refine Wp_skip (Th_n (hK5 _ _ ?_))
    refine Wp_seq fun K7 hK7 => ?_
    refine Wp_block ?_
    refine Wp_seq fun K8 hK8 => ?_
    refine Wp_region ?_
    refine Ls_y (wtd0 rfl) rfl rfl (y_move rfl rfl) ?_
    refine Ls_y (wtd0 rfl) rfl rfl (y_sub (c := 8) rfl rfl rfl (by decide)) ?_
    refine Ls_y (wtd0 rfl) rfl rfl (y_assign rfl rfl) ?_
    refine Ls_nil (Th_n (hK8 _ _ ?_))
    refine Wp_region ?_
    refine Ls_y (wtd0 rfl) rfl rfl (y_move rfl rfl) ?_
    refine Ls_y (wtd0 rfl) rfl rfl (y_move rfl rfl) ?_
    refine Ls_y (wtd0 rfl) rfl rfl (y_cvi rfl rfl Tryz.underlying99 Tryz.underlying5 wm_u8) ?_
    first
      | refine Ls_y (wtd0 rfl) rfl rfl (y_ixrN rfl rfl rfl Ty.ar_152 (by omega)) ?_
      | refine Ls_y (wtd0 rfl) rfl rfl (y_ixr rfl rfl rfl Ty.ar_152 (by omega) (by omega)) ?_
    refine Ls_a (wtd0 rfl) ?_
    refine a_store (i := 0) rfl rfl rfl rfl rfl Ty.sz_5 rfl hp rfl (by first | decide | (simp; done) | (simp; omega)) (fun w2 (hp : Hp w2 [_]) hf _ => ?_)
    have hF := hF.step hf (by intro y hy; simp only [List.mem_cons, List.not_mem_nil, or_false] at hy; subst hy; first | (exact Or.inr (by omega)) | (exact Or.inl (by simp)))
    refine Ls_nil (Ib_n (Th_n (hK7 _ _ ?_)))
    refine Wp_region ?_
    refine Ls_y (wtd0 rfl) rfl rfl (y_move rfl rfl) ?_
    refine Ls_y (wtd0 rfl) rfl rfl (y_shrC 8 256 rfl rfl rfl (by decide) rfl rfl (by decide)) ?_
    refine Ls_y (wtd0 rfl) rfl rfl (y_assign rfl rfl) ?_
    refine Ls_nil (Th_n (WpR_succ ?_))
    refine Wp_seq fun K9 hK9 => ?_
    refine Wp_seq fun K10 hK10 => ?_
    refine Wp_region ?_
    refine Ls_y (wtd0 rfl) rfl rfl (y_move rfl rfl) ?_
    refine Ls_y (wtd0 rfl) rfl rfl (y_gt rfl rfl rfl) ?_
    refine Ls_bool 6 rfl (fun h2 => ?_) (fun h2 => ?_)
    all_goals try simp only [decide_eq_true_eq, decide_eq_false_iff_not, beq_iff_eq, bne_iff_ne, ne_eq, beq_eq_false_iff_ne, bne_eq_false_iff_eq, Bool.not_eq_true, Bool.not_eq_false] at h2
    · refine Ls_nil (Th_n (hK10 _ _ ?_))
      refine Wp_cond_t rfl ?_
      refine Wp_skip (Th_n (hK9 _ _ ?_))
      refine Wp_seq fun K11 hK11 => ?_
      refine Wp_block ?_
      refine Wp_seq fun K12 hK12 => ?_
      refine Wp_region ?_
      refine Ls_y (wtd0 rfl) rfl rfl (y_move rfl rfl) ?_
      refine Ls_y (wtd0 rfl) rfl rfl (y_sub (c := 7) rfl rfl rfl (by decide)) ?_
      refine Ls_y (wtd0 rfl) rfl rfl (y_assign rfl rfl) ?_
      refine Ls_nil (Th_n (hK12 _ _ ?_))
      refine Wp_region ?_
      refine Ls_y (wtd0 rfl) rfl rfl (y_move rfl rfl) ?_
      refine Ls_y (wtd0 rfl) rfl rfl (y_move rfl rfl) ?_
      refine Ls_y (wtd0 rfl) rfl rfl (y_cvi rfl rfl Tryz.underlying99 Tryz.underlying5 wm_u8) ?_
      first
        | refine Ls_y (wtd0 rfl) rfl rfl (y_ixrN rfl rfl rfl Ty.ar_152 (by omega)) ?_
        | refine Ls_y (wtd0 rfl) rfl rfl (y_ixr rfl rfl rfl Ty.ar_152 (by omega) (by omega)) ?_
      refine Ls_a (wtd0 rfl) ?_
      refine a_store (i := 0) rfl rfl rfl rfl rfl Ty.sz_5 rfl hp rfl (by first | decide | (simp; done) | (simp; omega)) (fun w3 (hp : Hp w3 [_]) hf _ => ?_)
      have hF := hF.step hf (by intro y hy; simp only [List.mem_cons, List.not_mem_nil, or_false] at hy; subst hy; first | (exact Or.inr (by omega)) | (exact Or.inl (by simp)))
      refine Ls_nil (Ib_n (Th_n (hK11 _ _ ?_)))
      refine Wp_region ?_
      refine Ls_y (wtd0 rfl) rfl rfl (y_move rfl rfl) ?_
      refine Ls_y (wtd0 rfl) rfl rfl (y_shrC 8 256 rfl rfl rfl (by decide) rfl rfl (by decide)) ?_
      refine Ls_y (wtd0 rfl) rfl rfl (y_assign rfl rfl) ?_
      refine Ls_nil (Th_n (WpR_succ ?_))
      refine Wp_seq fun K13 hK13 => ?_
      refine Wp_seq fun K14 hK14 => ?_
      refine Wp_region ?_
      refine Ls_y (wtd0 rfl) rfl rfl (y_move rfl rfl) ?_
      refine Ls_y (wtd0 rfl) rfl rfl (y_gt rfl rfl rfl) ?_
      refine Ls_bool 6 rfl (fun h3 => ?_) (fun h3 => ?_)
      all_goals try simp only [decide_eq_true_eq, decide_eq_false_iff_not, beq_iff_eq, bne_iff_ne, ne_eq, beq_eq_false_iff_ne, bne_eq_false_iff_eq, Bool.not_eq_true, Bool.not_eq_false] at h3
      · refine Ls_nil (Th_n (hK14 _ _ ?_))
        refine Wp_cond_t rfl ?_
        refine Wp_skip (Th_n (hK13 _ _ ?_))
        refine Wp_seq fun K15 hK15 => ?_
        refine Wp_block ?_
        refine Wp_seq fun K16 hK16 => ?_
        refine Wp_region ?_
        refine Ls_y (wtd0 rfl) rfl rfl (y_move rfl rfl) ?_
        refine Ls_y (wtd0 rfl) rfl rfl (y_sub (c := 6) rfl rfl rfl (by decide)) ?_
        refine Ls_y (wtd0 rfl) rfl rfl (y_assign rfl rfl) ?_
        refine Ls_nil (Th_n (hK16 _ _ ?_))
        refine Wp_region ?_
        refine Ls_y (wtd0 rfl) rfl rfl (y_move rfl rfl) ?_
        refine Ls_y (wtd0 rfl) rfl rfl (y_move rfl rfl) ?_
        refine Ls_y (wtd0 rfl) rfl rfl (y_cvi rfl rfl Tryz.underlying99 Tryz.underlying5 wm_u8) ?_
        first
          | refine Ls_y (wtd0 rfl) rfl rfl (y_ixrN rfl rfl rfl Ty.ar_152 (by omega)) ?_
          | refine Ls_y (wtd0 rfl) rfl rfl (y_ixr rfl rfl rfl Ty.ar_152 (by omega) (by omega)) ?_
        refine Ls_a (wtd0 rfl) ?_
        refine a_store (i := 0) rfl rfl rfl rfl rfl Ty.sz_5 rfl hp rfl (by first | decide | (simp; done) | (simp; omega)) (fun w4 (hp : Hp w4 [_]) hf _ => ?_)
        have hF := hF.step hf (by intro y hy; simp only [List.mem_cons, List.not_mem_nil, or_false] at hy; subst hy; first | (exact Or.inr (by omega)) | (exact Or.inl (by simp)))
        refine Ls_nil (Ib_n (Th_n (hK15 _ _ ?_)))
        refine Wp_region ?_
        refine Ls_y (wtd0 rfl) rfl rfl (y_move rfl rfl) ?_
        refine Ls_y (wtd0 rfl) rfl rfl (y_shrC 8 256 rfl rfl rfl (by decide) rfl rfl (by decide)) ?_
        refine Ls_y (wtd0 rfl) rfl rfl (y_assign rfl rfl) ?_
        refine Ls_nil (Th_n (WpR_succ ?_))
        refine Wp_seq fun K17 hK17 => ?_
        refine Wp_seq fun K18 hK18 => ?_
        refine Wp_region ?_
        refine Ls_y (wtd0 rfl) rfl rfl (y_move rfl rfl) ?_
        refine Ls_y (wtd0 rfl) rfl rfl (y_gt rfl rfl rfl) ?_
        refine Ls_bool 6 rfl (fun h4 => ?_) (fun h4 => ?_)
        all_goals try simp only [decide_eq_true_eq, decide_eq_false_iff_not, beq_iff_eq, bne_iff_ne, ne_eq, beq_eq_false_iff_ne, bne_eq_false_iff_eq, Bool.not_eq_true, Bool.not_eq_false] at h4
        · refine Ls_nil (Th_n (hK18 _ _ ?_))
          refine Wp_cond_t rfl ?_
          refine Wp_skip (Th_n (hK17 _ _ ?_))
          refine Wp_seq fun K19 hK19 => ?_
          refine Wp_block ?_
          refine Wp_seq fun K20 hK20 => ?_
          refine Wp_region ?_
          refine Ls_y (wtd0 rfl) rfl rfl (y_move rfl rfl) ?_
          refine Ls_y (wtd0 rfl) rfl rfl (y_sub (c := 5) rfl rfl rfl (by decide)) ?_
          refine Ls_y (wtd0 rfl) rfl rfl (y_assign rfl rfl) ?_
          refine Ls_nil (Th_n (hK20 _ _ ?_))
          refine Wp_region ?_
          refine Ls_y (wtd0 rfl) rfl rfl (y_move rfl rfl) ?_
          refine Ls_y (wtd0 rfl) rfl rfl (y_move rfl rfl) ?_
          refine Ls_y (wtd0 rfl) rfl rfl (y_cvi rfl rfl Tryz.underlying99 Tryz.underlying5 wm_u8) ?_
          first
            | refine Ls_y (wtd0 rfl) rfl rfl (y_ixrN rfl rfl rfl Ty.ar_152 (by omega)) ?_
            | refine Ls_y (wtd0 rfl) rfl rfl (y_ixr rfl rfl rfl Ty.ar_152 (by omega) (by omega)) ?_
          refine Ls_a (wtd0 rfl) ?_
          refine a_store (i := 0) rfl rfl rfl rfl rfl Ty.sz_5 rfl hp rfl (by first | decide | (simp; done) | (simp; omega)) (fun w5 (hp : Hp w5 [_]) hf _ => ?_)
          have hF := hF.step hf (by intro y hy; simp only [List.mem_cons, List.not_mem_nil, or_false] at hy; subst hy; first | (exact Or.inr (by omega)) | (exact Or.inl (by simp)))
          refine Ls_nil (Ib_n (Th_n (hK19 _ _ ?_)))
          refine Wp_region ?_
          refine Ls_y (wtd0 rfl) rfl rfl (y_move rfl rfl) ?_
          refine Ls_y (wtd0 rfl) rfl rfl (y_shrC 8 256 rfl rfl rfl (by decide) rfl rfl (by decide)) ?_
          refine Ls_y (wtd0 rfl) rfl rfl (y_assign rfl rfl) ?_
          refine Ls_nil (Th_n (WpR_succ ?_))
          refine Wp_seq fun K21 hK21 => ?_
          refine Wp_seq fun K22 hK22 => ?_
          refine Wp_region ?_
          refine Ls_y (wtd0 rfl) rfl rfl (y_move rfl rfl) ?_
          refine Ls_y (wtd0 rfl) rfl rfl (y_gt rfl rfl rfl) ?_
          refine Ls_bool 6 rfl (fun h5 => ?_) (fun h5 => ?_)
          all_goals try simp only [decide_eq_true_eq, decide_eq_false_iff_not, beq_iff_eq, bne_iff_ne, ne_eq, beq_eq_false_iff_ne, bne_eq_false_iff_eq, Bool.not_eq_true, Bool.not_eq_false] at h5
          · refine Ls_nil (Th_n (hK22 _ _ ?_))
            refine Wp_cond_t rfl ?_
            refine Wp_skip (Th_n (hK21 _ _ ?_))
            refine Wp_seq fun K23 hK23 => ?_
            refine Wp_block ?_
            refine Wp_seq fun K24 hK24 => ?_
            refine Wp_region ?_
            refine Ls_y (wtd0 rfl) rfl rfl (y_move rfl rfl) ?_
            refine Ls_y (wtd0 rfl) rfl rfl (y_sub (c := 4) rfl rfl rfl (by decide)) ?_
            refine Ls_y (wtd0 rfl) rfl rfl (y_assign rfl rfl) ?_
            refine Ls_nil (Th_n (hK24 _ _ ?_))
            refine Wp_region ?_
            refine Ls_y (wtd0 rfl) rfl rfl (y_move rfl rfl) ?_
            refine Ls_y (wtd0 rfl) rfl rfl (y_move rfl rfl) ?_
            refine Ls_y (wtd0 rfl) rfl rfl (y_cvi rfl rfl Tryz.underlying99 Tryz.underlying5 wm_u8) ?_
            first
              | refine Ls_y (wtd0 rfl) rfl rfl (y_ixrN rfl rfl rfl Ty.ar_152 (by omega)) ?_
              | refine Ls_y (wtd0 rfl) rfl rfl (y_ixr rfl rfl rfl Ty.ar_152 (by omega) (by omega)) ?_
            refine Ls_a (wtd0 rfl) ?_
            refine a_store (i := 0) rfl rfl rfl rfl rfl Ty.sz_5 rfl hp rfl (by first | decide | (simp; done) | (simp; omega)) (fun w6 (hp : Hp w6 [_]) hf _ => ?_)
            have hF := hF.step hf (by intro y hy; simp only [List.mem_cons, List.not_mem_nil, or_false] at hy; subst hy; first | (exact Or.inr (by omega)) | (exact Or.inl (by simp)))
            refine Ls_nil (Ib_n (Th_n (hK23 _ _ ?_)))
            refine Wp_region ?_
            refine Ls_y (wtd0 rfl) rfl rfl (y_move rfl rfl) ?_
            refine Ls_y (wtd0 rfl) rfl rfl (y_shrC 8 256 rfl rfl rfl (by decide) rfl rfl (by decide)) ?_
            refine Ls_y (wtd0 rfl) rfl rfl (y_assign rfl rfl) ?_
            refine Ls_nil (Th_n (WpR_succ ?_))
            refine Wp_seq fun K25 hK25 => ?_
            refine Wp_seq fun K26 hK26 => ?_
            refine Wp_region ?_
            refine Ls_y (wtd0 rfl) rfl rfl (y_move rfl rfl) ?_
            refine Ls_y (wtd0 rfl) rfl rfl (y_gt rfl rfl rfl) ?_
            refine Ls_bool 6 rfl (fun h6 => ?_) (fun h6 => ?_)
            all_goals try simp only [decide_eq_true_eq, decide_eq_false_iff_not, beq_iff_eq, bne_iff_ne, ne_eq, beq_eq_false_iff_ne, bne_eq_false_iff_eq, Bool.not_eq_true, Bool.not_eq_false] at h6
            · refine Ls_nil (Th_n (hK26 _ _ ?_))
              refine Wp_cond_t rfl ?_
              refine Wp_skip (Th_n (hK25 _ _ ?_))
              refine Wp_seq fun K27 hK27 => ?_
              refine Wp_block ?_
              refine Wp_seq fun K28 hK28 => ?_
              refine Wp_region ?_
              refine Ls_y (wtd0 rfl) rfl rfl (y_move rfl rfl) ?_
              refine Ls_y (wtd0 rfl) rfl rfl (y_sub (c := 3) rfl rfl rfl (by decide)) ?_
              refine Ls_y (wtd0 rfl) rfl rfl (y_assign rfl rfl) ?_
              refine Ls_nil (Th_n (hK28 _ _ ?_))
              refine Wp_region ?_
              refine Ls_y (wtd0 rfl) rfl rfl (y_move rfl rfl) ?_
              refine Ls_y (wtd0 rfl) rfl rfl (y_move rfl rfl) ?_
              refine Ls_y (wtd0 rfl) rfl rfl (y_cvi rfl rfl Tryz.underlying99 Tryz.underlying5 wm_u8) ?_
              first
                | refine Ls_y (wtd0 rfl) rfl rfl (y_ixrN rfl rfl rfl Ty.ar_152 (by omega)) ?_
                | refine Ls_y (wtd0 rfl) rfl rfl (y_ixr rfl rfl rfl Ty.ar_152 (by omega) (by omega)) ?_
              refine Ls_a (wtd0 rfl) ?_
              refine a_store (i := 0) rfl rfl rfl rfl rfl Ty.sz_5 rfl hp rfl (by first | decide | (simp; done) | (simp; omega)) (fun w7 (hp : Hp w7 [_]) hf _ => ?_)
              have hF := hF.step hf (by intro y hy; simp only [List.mem_cons, List.not_mem_nil, or_false] at hy; subst hy; first | (exact Or.inr (by omega)) | (exact Or.inl (by simp)))
              refine Ls_nil (Ib_n (Th_n (hK27 _ _ ?_)))
              refine Wp_region ?_
              refine Ls_y (wtd0 rfl) rfl rfl (y_move rfl rfl) ?_
              refine Ls_y (wtd0 rfl) rfl rfl (y_shrC 8 256 rfl rfl rfl (by decide) rfl rfl (by decide)) ?_
              refine Ls_y (wtd0 rfl) rfl rfl (y_assign rfl rfl) ?_
              refine Ls_nil (Th_n (WpR_succ ?_))
              refine Wp_seq fun K29 hK29 => ?_
              refine Wp_seq fun K30 hK30 => ?_
              refine Wp_region ?_
              refine Ls_y (wtd0 rfl) rfl rfl (y_move rfl rfl) ?_
              refine Ls_y (wtd0 rfl) rfl rfl (y_gt rfl rfl rfl) ?_
              refine Ls_bool 6 rfl (fun h7 => ?_) (fun h7 => ?_)
              all_goals try simp only [decide_eq_true_eq, decide_eq_false_iff_not, beq_iff_eq, bne_iff_ne, ne_eq, beq_eq_false_iff_ne, bne_eq_false_iff_eq, Bool.not_eq_true, Bool.not_eq_false] at h7
              · refine Ls_nil (Th_n (hK30 _ _ ?_))
                refine Wp_cond_t rfl ?_
                refine Wp_skip (Th_n (hK29 _ _ ?_))
                refine Wp_seq fun K31 hK31 => ?_
                refine Wp_block ?_
                refine Wp_seq fun K32 hK32 => ?_
                refine Wp_region ?_
                refine Ls_y (wtd0 rfl) rfl rfl (y_move rfl rfl) ?_
                refine Ls_y (wtd0 rfl) rfl rfl (y_sub (c := 2) rfl rfl rfl (by decide)) ?_
                refine Ls_y (wtd0 rfl) rfl rfl (y_assign rfl rfl) ?_
                refine Ls_nil (Th_n (hK32 _ _ ?_))
                refine Wp_region ?_
                refine Ls_y (wtd0 rfl) rfl rfl (y_move rfl rfl) ?_
                refine Ls_y (wtd0 rfl) rfl rfl (y_move rfl rfl) ?_
                refine Ls_y (wtd0 rfl) rfl rfl (y_cvi rfl rfl Tryz.underlying99 Tryz.underlying5 wm_u8) ?_
                first
                  | refine Ls_y (wtd0 rfl) rfl rfl (y_ixrN rfl rfl rfl Ty.ar_152 (by omega)) ?_
                  | refine Ls_y (wtd0 rfl) rfl rfl (y_ixr rfl rfl rfl Ty.ar_152 (by omega) (by omega)) ?_
                refine Ls_a (wtd0 rfl) ?_
                refine a_store (i := 0) rfl rfl rfl rfl rfl Ty.sz_5 rfl hp rfl (by first | decide | (simp; done) | (simp; omega)) (fun w8 (hp : Hp w8 [_]) hf _ => ?_)
                have hF := hF.step hf (by intro y hy; simp only [List.mem_cons, List.not_mem_nil, or_false] at hy; subst hy; first | (exact Or.inr (by omega)) | (exact Or.inl (by simp)))
                refine Ls_nil (Ib_n (Th_n (hK31 _ _ ?_)))
                refine Wp_region ?_
                refine Ls_y (wtd0 rfl) rfl rfl (y_move rfl rfl) ?_
                refine Ls_y (wtd0 rfl) rfl rfl (y_shrC 8 256 rfl rfl rfl (by decide) rfl rfl (by decide)) ?_
                refine Ls_y (wtd0 rfl) rfl rfl (y_assign rfl rfl) ?_
                refine Ls_nil (Th_n (WpR_succ ?_))
                refine Wp_seq fun K33 hK33 => ?_
                refine Wp_seq fun K34 hK34 => ?_
                refine Wp_region ?_
                refine Ls_y (wtd0 rfl) rfl rfl (y_move rfl rfl) ?_
                refine Ls_y (wtd0 rfl) rfl rfl (y_gt rfl rfl rfl) ?_
                refine Ls_bool 6 rfl (fun h8 => ?_) (fun h8 => ?_)
                all_goals try simp only [decide_eq_true_eq, decide_eq_false_iff_not, beq_iff_eq, bne_iff_ne, ne_eq, beq_eq_false_iff_ne, bne_eq_false_iff_eq, Bool.not_eq_true, Bool.not_eq_false] at h8
                · refine Ls_nil (Th_n (hK34 _ _ ?_))
                  refine Wp_cond_t rfl ?_
                  refine Wp_skip (Th_n (hK33 _ _ ?_))
                  refine Wp_seq fun K35 hK35 => ?_
                  refine Wp_block ?_
                  refine Wp_seq fun K36 hK36 => ?_
                  refine Wp_region ?_
                  refine Ls_y (wtd0 rfl) rfl rfl (y_move rfl rfl) ?_
                  refine Ls_y (wtd0 rfl) rfl rfl (y_sub (c := 1) rfl rfl rfl (by decide)) ?_
                  refine Ls_y (wtd0 rfl) rfl rfl (y_assign rfl rfl) ?_
                  refine Ls_nil (Th_n (hK36 _ _ ?_))
                  refine Wp_region ?_
                  refine Ls_y (wtd0 rfl) rfl rfl (y_move rfl rfl) ?_
                  refine Ls_y (wtd0 rfl) rfl rfl (y_move rfl rfl) ?_
                  refine Ls_y (wtd0 rfl) rfl rfl (y_cvi rfl rfl Tryz.underlying99 Tryz.underlying5 wm_u8) ?_
                  first
                    | refine Ls_y (wtd0 rfl) rfl rfl (y_ixrN rfl rfl rfl Ty.ar_152 (by omega)) ?_
                    | refine Ls_y (wtd0 rfl) rfl rfl (y_ixr rfl rfl rfl Ty.ar_152 (by omega) (by omega)) ?_
                  refine Ls_a (wtd0 rfl) ?_
                  refine a_store (i := 0) rfl rfl rfl rfl rfl Ty.sz_5 rfl hp rfl (by first | decide | (simp; done) | (simp; omega)) (fun w9 (hp : Hp w9 [_]) hf _ => ?_)
                  have hF := hF.step hf (by intro y hy; simp only [List.mem_cons, List.not_mem_nil, or_false] at hy; subst hy; first | (exact Or.inr (by omega)) | (exact Or.inl (by simp)))
                  refine Ls_nil (Ib_n (Th_n (hK35 _ _ ?_)))
                  refine Wp_region ?_
                  refine Ls_y (wtd0 rfl) rfl rfl (y_move rfl rfl) ?_
                  refine Ls_y (wtd0 rfl) rfl rfl (y_shrC 8 256 rfl rfl rfl (by decide) rfl rfl (by decide)) ?_
                  refine Ls_y (wtd0 rfl) rfl rfl (y_assign rfl rfl) ?_
                  refine Ls_nil (Th_n (WpR_succ ?_))
                  refine Wp_seq fun K37 hK37 => ?_
                  refine Wp_seq fun K38 hK38 => ?_
                  refine Wp_region ?_
                  refine Ls_y (wtd0 rfl) rfl rfl (y_move rfl rfl) ?_
                  refine Ls_y (wtd0 rfl) rfl rfl (y_gtF rfl rfl rfl (by omega)) ?_
                  refine Ls_nil (Th_n (hK38 _ _ ?_))
                  refine Wp_cond_f rfl ?_
                  refine Wp_exit (Th_e (Th_e (Ib_hit (Th_n (hK4 _ _ ?_)))))
                  refine Wp_seq fun K39 hK39 => ?_
                  refine Wp_region ?_
                  refine Ls_y (wtd0 rfl) rfl rfl (y_move rfl rfl) ?_
                  refine Ls_y (wtd0 rfl) rfl rfl (y_sub (c := 0) rfl rfl rfl (by decide)) ?_
                  refine Ls_y (wtd0 rfl) rfl rfl (y_move rfl rfl) ?_
                  refine Ls_y (wtd0 rfl) rfl rfl (y_sub (c := 8) rfl rfl rfl (by decide)) ?_
                  refine Ls_y (wtd0 rfl) rfl rfl (y_cvi rfl rfl Tryz.underlying3 Tryz.underlying5 (wf_u8 (by omega))) ?_
                  first
                    | refine Ls_y (wtd0 rfl) rfl rfl (y_ixrN rfl rfl rfl Ty.ar_152 (by omega)) ?_
                    | refine Ls_y (wtd0 rfl) rfl rfl (y_ixr rfl rfl rfl Ty.ar_152 (by omega) (by omega)) ?_
                  refine Ls_a (wtd0 rfl) ?_
                  refine a_store (i := 0) rfl rfl rfl rfl rfl Ty.sz_5 rfl hp rfl (by first | decide | (simp; done) | (simp; omega)) (fun w10 (hp : Hp w10 [_]) hf _ => ?_)
                  have hF := hF.step hf (by intro y hy; simp only [List.mem_cons, List.not_mem_nil, or_false] at hy; subst hy; first | (exact Or.inr (by omega)) | (exact Or.inl (by simp)))
                  refine Ls_nil (Th_n (hK39 _ _ ?_))
                  refine Wp_seq fun K40 hK40 => ?_
                  refine Wp_region ?_
                  refine Ls_y (wtd0 rfl) rfl rfl (y_move rfl rfl) ?_
                  refine Ls_y (wtd0 rfl) rfl rfl (y_sub (c := 0) rfl rfl rfl (by decide)) ?_
                  refine Ls_y (wtd0 rfl) rfl rfl (y_cutaN (i := 0) rfl rfl Ty.ar_152 rfl rfl (by first | omega | (simp; omega) | (simp; done)) (by first | omega | (simp; omega) | (simp; done)) (by first | omega | (simp; omega) | (simp; done))) ?_
                  refine Ls_y (wtd0 rfl) rfl rfl (y_cvbs (xs := [8, (u / 256 / 256 / 256 / 256 / 256 / 256 / 256) % 256, (u / 256 / 256 / 256 / 256 / 256 / 256) % 256, (u / 256 / 256 / 256 / 256 / 256) % 256, (u / 256 / 256 / 256 / 256) % 256, (u / 256 / 256 / 256) % 256, (u / 256 / 256) % 256, (u / 256) % 256, (u) % 256]) rfl rfl Tryz.underlying154 Tryz.underlying5 Tryz.underlying9 rfl (by rintro _ rfl; exact range_of (i := 0) (k := 0) (m := 9) hp rfl)) ?_
                  refine Ls_y (wtd0 rfl) rfl rfl (y_assign rfl rfl) ?_
                  refine Ls_nil (Th_n (hK40 _ _ ?_))
                  refine wR (fR (Res1 rfl rfl) ?_)
                  refine ⟨?_, hF⟩
                  have hd : dgs 8 u = [(u / 256 / 256 / 256 / 256 / 256 / 256 / 256) % 256, (u / 256 / 256 / 256 / 256 / 256 / 256) % 256, (u / 256 / 256 / 256 / 256 / 256) % 256, (u / 256 / 256 / 256 / 256) % 256, (u / 256 / 256 / 256) % 256, (u / 256 / 256) % 256, (u / 256) % 256, (u) % 256] := by simp only [dgs, if_pos h1, if_pos h2, if_pos h3, if_pos h4, if_pos h5, if_pos h6, if_pos h7, if_pos h8, List.nil_append, List.cons_append]
                  unfold numB
                  rw [hd]
                  rfl
                · refine Ls_nil (Th_n (hK34 _ _ ?_))
                  refine Wp_cond_f rfl ?_
                  refine Wp_exit (Th_e (Th_e (Ib_hit (Th_n (hK4 _ _ ?_)))))
                  refine Wp_seq fun K41 hK41 => ?_
                  refine Wp_region ?_
                  refine Ls_y (wtd0 rfl) rfl rfl (y_move rfl rfl) ?_
                  refine Ls_y (wtd0 rfl) rfl rfl (y_sub (c := 1) rfl rfl rfl (by decide)) ?_
                  refine Ls_y (wtd0 rfl) rfl rfl (y_move rfl rfl) ?_
                  refine Ls_y (wtd0 rfl) rfl rfl (y_sub (c := 7) rfl rfl rfl (by decide)) ?_
                  refine Ls_y (wtd0 rfl) rfl rfl (y_cvi rfl rfl Tryz.underlying3 Tryz.underlying5 (wf_u8 (by omega))) ?_
                  first
                    | refine Ls_y (wtd0 rfl) rfl rfl (y_ixrN rfl rfl rfl Ty.ar_152 (by omega)) ?_
                    | refine Ls_y (wtd0 rfl) rfl rfl (y_ixr rfl rfl rfl Ty.ar_152 (by omega) (by omega)) ?_
                  refine Ls_a (wtd0 rfl) ?_
                  refine a_store (i := 0) rfl rfl rfl rfl rfl Ty.sz_5 rfl hp rfl (by first | decide | (simp; done) | (simp; omega)) (fun w9 (hp : Hp w9 [_]) hf _ => ?_)
                  have hF := hF.step hf (by intro y hy; simp only [List.mem_cons, List.not_mem_nil, or_false] at hy; subst hy; first | (exact Or.inr (by omega)) | (exact Or.inl (by simp)))
                  refine Ls_nil (Th_n (hK41 _ _ ?_))
                  refine Wp_seq fun K42 hK42 => ?_
                  refine Wp_region ?_
                  refine Ls_y (wtd0 rfl) rfl rfl (y_move rfl rfl) ?_
                  refine Ls_y (wtd0 rfl) rfl rfl (y_sub (c := 1) rfl rfl rfl (by decide)) ?_
                  refine Ls_y (wtd0 rfl) rfl rfl (y_cutaN (i := 1) rfl rfl Ty.ar_152 rfl rfl (by first | omega | (simp; omega) | (simp; done)) (by first | omega | (simp; omega) | (simp; done)) (by first | omega | (simp; omega) | (simp; done))) ?_
                  refine Ls_y (wtd0 rfl) rfl rfl (y_cvbs (xs := [7, (u / 256 / 256 / 256 / 256 / 256 / 256) % 256, (u / 256 / 256 / 256 / 256 / 256) % 256, (u / 256 / 256 / 256 / 256) % 256, (u / 256 / 256 / 256) % 256, (u / 256 / 256) % 256, (u / 256) % 256, (u) % 256]) rfl rfl Tryz.underlying154 Tryz.underlying5 Tryz.underlying9 rfl (by rintro _ rfl; exact range_of (i := 0) (k := 1) (m := 8) hp rfl)) ?_
                  refine Ls_y (wtd0 rfl) rfl rfl (y_assign rfl rfl) ?_
                  refine Ls_nil (Th_n (hK42 _ _ ?_))
                  refine wR (fR (Res1 rfl rfl) ?_)
                  refine ⟨?_, hF⟩
                  have hd : dgs 8 u = [(u / 256 / 256 / 256 / 256 / 256 / 256) % 256, (u / 256 / 256 / 256 / 256 / 256) % 256, (u / 256 / 256 / 256 / 256) % 256, (u / 256 / 256 / 256) % 256, (u / 256 / 256) % 256, (u / 256) % 256, (u) % 256] := by simp only [dgs, if_pos h1, if_pos h2, if_pos h3, if_pos h4, if_pos h5, if_pos h6, if_pos h7, if_neg h8, List.nil_append, List.cons_append]
                  unfold numB
                  rw [hd]
                  rfl
              · refine Ls_nil (Th_n (hK30 _ _ ?_))
                refine Wp_cond_f rfl ?_
                refine Wp_exit (Th_e (Th_e (Ib_hit (Th_n (hK4 _ _ ?_)))))
                refine Wp_seq fun K43 hK43 => ?_
                refine Wp_region ?_
                refine Ls_y (wtd0 rfl) rfl rfl (y_move rfl rfl) ?_
                refine Ls_y (wtd0 rfl) rfl rfl (y_sub (c := 2) rfl rfl rfl (by decide)) ?_
                refine Ls_y (wtd0 rfl) rfl rfl (y_move rfl rfl) ?_
                refine Ls_y (wtd0 rfl) rfl rfl (y_sub (c := 6) rfl rfl rfl (by decide)) ?_
                refine Ls_y (wtd0 rfl) rfl rfl (y_cvi rfl rfl Tryz.underlying3 Tryz.underlying5 (wf_u8 (by omega))) ?_
                first
                  | refine Ls_y (wtd0 rfl) rfl rfl (y_ixrN rfl rfl rfl Ty.ar_152 (by omega)) ?_
                  | refine Ls_y (wtd0 rfl) rfl rfl (y_ixr rfl rfl rfl Ty.ar_152 (by omega) (by omega)) ?_
                refine Ls_a (wtd0 rfl) ?_
                refine a_store (i := 0) rfl rfl rfl rfl rfl Ty.sz_5 rfl hp rfl (by first | decide | (simp; done) | (simp; omega)) (fun w8 (hp : Hp w8 [_]) hf _ => ?_)
                have hF := hF.step hf (by intro y hy; simp only [List.mem_cons, List.not_mem_nil, or_false] at hy; subst hy; first | (exact Or.inr (by omega)) | (exact Or.inl (by simp)))
                refine Ls_nil (Th_n (hK43 _ _ ?_))
                refine Wp_seq fun K44 hK44 => ?_
                refine Wp_region ?_
                refine Ls_y (wtd0 rfl) rfl rfl (y_move rfl rfl) ?_
                refine Ls_y (wtd0 rfl) rfl rfl (y_sub (c := 2) rfl rfl rfl (by decide)) ?_
                refine Ls_y (wtd0 rfl) rfl rfl (y_cutaN (i := 2) rfl rfl Ty.ar_152 rfl rfl (by first | omega | (simp; omega) | (simp; done)) (by first | omega | (simp; omega) | (simp; done)) (by first | omega | (simp; omega) | (simp; done))) ?_
                refine Ls_y (wtd0 rfl) rfl rfl (y_cvbs (xs := [6, (u / 256 / 256 / 256 / 256 / 256) % 256, (u / 256 / 256 / 256 / 256) % 256, (u / 256 / 256 / 256) % 256, (u / 256 / 256) % 256, (u / 256) % 256, (u) % 256]) rfl rfl Tryz.underlying154 Tryz.underlying5 Tryz.underlying9 rfl (by rintro _ rfl; exact range_of (i := 0) (k := 2) (m := 7) hp rfl)) ?_
                refine Ls_y (wtd0 rfl) rfl rfl (y_assign rfl rfl) ?_
                refine Ls_nil (Th_n (hK44 _ _ ?_))
                refine wR (fR (Res1 rfl rfl) ?_)
                refine ⟨?_, hF⟩
                have hd : dgs 8 u = [(u / 256 / 256 / 256 / 256 / 256) % 256, (u / 256 / 256 / 256 / 256) % 256, (u / 256 / 256 / 256) % 256, (u / 256 / 256) % 256, (u / 256) % 256, (u) % 256] := by simp only [dgs, if_pos h1, if_pos h2, if_pos h3, if_pos h4, if_pos h5, if_pos h6, if_neg h7, List.nil_append, List.cons_append]
                unfold numB
                rw [hd]
                rfl
            · refine Ls_nil (Th_n (hK26 _ _ ?_))
              refine Wp_cond_f rfl ?_
              refine Wp_exit (Th_e (Th_e (Ib_hit (Th_n (hK4 _ _ ?_)))))
              refine Wp_seq fun K45 hK45 => ?_
              refine Wp_region ?_
              refine Ls_y (wtd0 rfl) rfl rfl (y_move rfl rfl) ?_
              refine Ls_y (wtd0 rfl) rfl rfl (y_sub (c := 3) rfl rfl rfl (by decide)) ?_
              refine Ls_y (wtd0 rfl) rfl rfl (y_move rfl rfl) ?_
              refine Ls_y (wtd0 rfl) rfl rfl (y_sub (c := 5) rfl rfl rfl (by decide)) ?_
              refine Ls_y (wtd0 rfl) rfl rfl (y_cvi rfl rfl Tryz.underlying3 Tryz.underlying5 (wf_u8 (by omega))) ?_
              first
                | refine Ls_y (wtd0 rfl) rfl rfl (y_ixrN rfl rfl rfl Ty.ar_152 (by omega)) ?_
                | refine Ls_y (wtd0 rfl) rfl rfl (y_ixr rfl rfl rfl Ty.ar_152 (by omega) (by omega)) ?_
              refine Ls_a (wtd0 rfl) ?_
              refine a_store (i := 0) rfl rfl rfl rfl rfl Ty.sz_5 rfl hp rfl (by first | decide | (simp; done) | (simp; omega)) (fun w7 (hp : Hp w7 [_]) hf _ => ?_)
              have hF := hF.step hf (by intro y hy; simp only [List.mem_cons, List.not_mem_nil, or_false] at hy; subst hy; first | (exact Or.inr (by omega)) | (exact Or.inl (by simp)))
              refine Ls_nil (Th_n (hK45 _ _ ?_))
              refine Wp_seq fun K46 hK46 => ?_
              refine Wp_region ?_
              refine Ls_y (wtd0 rfl) rfl rfl (y_move rfl rfl) ?_
              refine Ls_y (wtd0 rfl) rfl rfl (y_sub (c := 3) rfl rfl rfl (by decide)) ?_
              refine Ls_y (wtd0 rfl) rfl rfl (y_cutaN (i := 3) rfl rfl Ty.ar_152 rfl rfl (by first | omega | (simp; omega) | (simp; done)) (by first | omega | (simp; omega) | (simp; done)) (by first | omega | (simp; omega) | (simp; done))) ?_
              refine Ls_y (wtd0 rfl) rfl rfl (y_cvbs (xs := [5, (u / 256 / 256 / 256 / 256) % 256, (u / 256 / 256 / 256) % 256, (u / 256 / 256) % 256, (u / 256) % 256, (u) % 256]) rfl rfl Tryz.underlying154 Tryz.underlying5 Tryz.underlying9 rfl (by rintro _ rfl; exact range_of (i := 0) (k := 3) (m := 6) hp rfl)) ?_
              refine Ls_y (wtd0 rfl) rfl rfl (y_assign rfl rfl) ?_
              refine Ls_nil (Th_n (hK46 _ _ ?_))
              refine wR (fR (Res1 rfl rfl) ?_)
              refine ⟨?_, hF⟩
              have hd : dgs 8 u = [(u / 256 / 256 / 256 / 256) % 256, (u / 256 / 256 / 256) % 256, (u / 256 / 256) % 256, (u / 256) % 256, (u) % 256] := by simp only [dgs, if_pos h1, if_pos h2, if_pos h3, if_pos h4, if_pos h5, if_neg h6, List.nil_append, List.cons_append]
              unfold numB
              rw [hd]
              rfl
          · refine Ls_nil (Th_n (hK22 _ _ ?_))
            refine Wp_cond_f rfl ?_
            refine Wp_exit (Th_e (Th_e (Ib_hit (Th_n (hK4 _ _ ?_)))))
            refine Wp_seq fun K47 hK47 => ?_
            refine Wp_region ?_
            refine Ls_y (wtd0 rfl) rfl rfl (y_move rfl rfl) ?_
            refine Ls_y (wtd0 rfl) rfl rfl (y_sub (c := 4) rfl rfl rfl (by decide)) ?_
            refine Ls_y (wtd0 rfl) rfl rfl (y_move rfl rfl) ?_
            refine Ls_y (wtd0 rfl) rfl rfl (y_sub (c := 4) rfl rfl rfl (by decide)) ?_
            refine Ls_y (wtd0 rfl) rfl rfl (y_cvi rfl rfl Tryz.underlying3 Tryz.underlying5 (wf_u8 (by omega))) ?_
            first
              | refine Ls_y (wtd0 rfl) rfl rfl (y_ixrN rfl rfl rfl Ty.ar_152 (by omega)) ?_
              | refine Ls_y (wtd0 rfl) rfl rfl (y_ixr rfl rfl rfl Ty.ar_152 (by omega) (by omega)) ?_
            refine Ls_a (wtd0 rfl) ?_
            refine a_store (i := 0) rfl rfl rfl rfl rfl Ty.sz_5 rfl hp rfl (by first | decide | (simp; done) | (simp; omega)) (fun w6 (hp : Hp w6 [_]) hf _ => ?_)
            have hF := hF.step hf (by intro y hy; simp only [List.mem_cons, List.not_mem_nil, or_false] at hy; subst hy; first | (exact Or.inr (by omega)) | (exact Or.inl (by simp)))
            refine Ls_nil (Th_n (hK47 _ _ ?_))
            refine Wp_seq fun K48 hK48 => ?_
            refine Wp_region ?_
            refine Ls_y (wtd0 rfl) rfl rfl (y_move rfl rfl) ?_
            refine Ls_y (wtd0 rfl) rfl rfl (y_sub (c := 4) rfl rfl rfl (by decide)) ?_
            refine Ls_y (wtd0 rfl) rfl rfl (y_cutaN (i := 4) rfl rfl Ty.ar_152 rfl rfl (by first | omega | (simp; omega) | (simp; done)) (by first | omega | (simp; omega) | (simp; done)) (by first | omega | (simp; omega) | (simp; done))) ?_
            refine Ls_y (wtd0 rfl) rfl rfl (y_cvbs (xs := [4, (u / 256 / 256 / 256) % 256, (u / 256 / 256) % 256, (u / 256) % 256, (u) % 256]) rfl rfl Tryz.underlying154 Tryz.underlying5 Tryz.underlying9 rfl (by rintro _ rfl; exact range_of (i := 0) (k := 4) (m := 5) hp rfl)) ?_
            refine Ls_y (wtd0 rfl) rfl rfl (y_assign rfl rfl) ?_
            refine Ls_nil (Th_n (hK48 _ _ ?_))
            refine wR (fR (Res1 rfl rfl) ?_)
            refine ⟨?_, hF⟩
            have hd : dgs 8 u = [(u / 256 / 256 / 256) % 256, (u / 256 / 256) % 256, (u / 256) % 256, (u) % 256] := by simp only [dgs, if_pos h1, if_pos h2, if_pos h3, if_pos h4, if_neg h5, List.nil_append, List.cons_append]
            unfold numB
            rw [hd]
            rfl
        · refine Ls_nil (Th_n (hK18 _ _ ?_))
          refine Wp_cond_f rfl ?_
          refine Wp_exit (Th_e (Th_e (Ib_hit (Th_n (hK4 _ _ ?_)))))
          refine Wp_seq fun K49 hK49 => ?_
          refine Wp_region ?_
          refine Ls_y (wtd0 rfl) rfl rfl (y_move rfl rfl) ?_
          refine Ls_y (wtd0 rfl) rfl rfl (y_sub (c := 5) rfl rfl rfl (by decide)) ?_
          refine Ls_y (wtd0 rfl) rfl rfl (y_move rfl rfl) ?_
          refine Ls_y (wtd0 rfl) rfl rfl (y_sub (c := 3) rfl rfl rfl (by decide)) ?_
          refine Ls_y (wtd0 rfl) rfl rfl (y_cvi rfl rfl Tryz.underlying3 Tryz.underlying5 (wf_u8 (by omega))) ?_
          first
            | refine Ls_y (wtd0 rfl) rfl rfl (y_ixrN rfl rfl rfl Ty.ar_152 (by omega)) ?_
            | refine Ls_y (wtd0 rfl) rfl rfl (y_ixr rfl rfl rfl Ty.ar_152 (by omega) (by omega)) ?_
          refine Ls_a (wtd0 rfl) ?_
          refine a_store (i := 0) rfl rfl rfl rfl rfl Ty.sz_5 rfl hp rfl (by first | decide | (simp; done) | (simp; omega)) (fun w5 (hp : Hp w5 [_]) hf _ => ?_)
          have hF := hF.step hf (by intro y hy; simp only [List.mem_cons, List.not_mem_nil, or_false] at hy; subst hy; first | (exact Or.inr (by omega)) | (exact Or.inl (by simp)))
          refine Ls_nil (Th_n (hK49 _ _ ?_))
          refine Wp_seq fun K50 hK50 => ?_
          refine Wp_region ?_
          refine Ls_y (wtd0 rfl) rfl rfl (y_move rfl rfl) ?_
          refine Ls_y (wtd0 rfl) rfl rfl (y_sub (c := 5) rfl rfl rfl (by decide)) ?_
          refine Ls_y (wtd0 rfl) rfl rfl (y_cutaN (i := 5) rfl rfl Ty.ar_152 rfl rfl (by first | omega | (simp; omega) | (simp; done)) (by first | omega | (simp; omega) | (simp; done)) (by first | omega | (simp; omega) | (simp; done))) ?_
          refine Ls_y (wtd0 rfl) rfl rfl (y_cvbs (xs := [3, (u / 256 / 256) % 256, (u / 256) % 256, (u) % 256]) rfl rfl Tryz.underlying154 Tryz.underlying5 Tryz.underlying9 rfl (by rintro _ rfl; exact range_of (i := 0) (k := 5) (m := 4) hp rfl)) ?_
          refine Ls_y (wtd0 rfl) rfl rfl (y_assign rfl rfl) ?_
          refine Ls_nil (Th_n (hK50 _ _ ?_))
          refine wR (fR (Res1 rfl rfl) ?_)
          refine ⟨?_, hF⟩
          have hd : dgs 8 u = [(u / 256 / 256) % 256, (u / 256) % 256, (u) % 256] := by simp only [dgs, if_pos h1, if_pos h2, if_pos h3, if_neg h4, List.nil_append, List.cons_append]
          unfold numB
          rw [hd]
          rfl
      · refine Ls_nil (Th_n (hK14 _ _ ?_))
        refine Wp_cond_f rfl ?_
        refine Wp_exit (Th_e (Th_e (Ib_hit (Th_n (hK4 _ _ ?_)))))
        refine Wp_seq fun K51 hK51 => ?_
        refine Wp_region ?_
        refine Ls_y (wtd0 rfl) rfl rfl (y_move rfl rfl) ?_
        refine Ls_y (wtd0 rfl) rfl rfl (y_sub (c := 6) rfl rfl rfl (by decide)) ?_
        refine Ls_y (wtd0 rfl) rfl rfl (y_move rfl rfl) ?_
        refine Ls_y (wtd0 rfl) rfl rfl (y_sub (c := 2) rfl rfl rfl (by decide)) ?_
        refine Ls_y (wtd0 rfl) rfl rfl (y_cvi rfl rfl Tryz.underlying3 Tryz.underlying5 (wf_u8 (by omega))) ?_
        first
          | refine Ls_y (wtd0 rfl) rfl rfl (y_ixrN rfl rfl rfl Ty.ar_152 (by omega)) ?_
          | refine Ls_y (wtd0 rfl) rfl rfl (y_ixr rfl rfl rfl Ty.ar_152 (by omega) (by omega)) ?_
        refine Ls_a (wtd0 rfl) ?_
        refine a_store (i := 0) rfl rfl rfl rfl rfl Ty.sz_5 rfl hp rfl (by first | decide | (simp; done) | (simp; omega)) (fun w4 (hp : Hp w4 [_]) hf _ => ?_)
        have hF := hF.step hf (by intro y hy; simp only [List.mem_cons, List.not_mem_nil, or_false] at hy; subst hy; first | (exact Or.inr (by omega)) | (exact Or.inl (by simp)))
        refine Ls_nil (Th_n (hK51 _ _ ?_))
        refine Wp_seq fun K52 hK52 => ?_
        refine Wp_region ?_
        refine Ls_y (wtd0 rfl) rfl rfl (y_move rfl rfl) ?_
        refine Ls_y (wtd0 rfl) rfl rfl (y_sub (c := 6) rfl rfl rfl (by decide)) ?_
        refine Ls_y (wtd0 rfl) rfl rfl (y_cutaN (i := 6) rfl rfl Ty.ar_152 rfl rfl (by first | omega | (simp; omega) | (simp; done)) (by first | omega | (simp; omega) | (simp; done)) (by first | omega | (simp; omega) | (simp; done))) ?_
        refine Ls_y (wtd0 rfl) rfl rfl (y_cvbs (xs := [2, (u / 256) % 256, (u) % 256]) rfl rfl Tryz.underlying154 Tryz.underlying5 Tryz.underlying9 rfl (by rintro _ rfl; exact range_of (i := 0) (k := 6) (m := 3) hp rfl)) ?_
        refine Ls_y (wtd0 rfl) rfl rfl (y_assign rfl rfl) ?_
        refine Ls_nil (Th_n (hK52 _ _ ?_))
        refine wR (fR (Res1 rfl rfl) ?_)
        refine ⟨?_, hF⟩
        have hd : dgs 8 u = [(u / 256) % 256, (u) % 256] := by simp only [dgs, if_pos h1, if_pos h2, if_neg h3, List.nil_append, List.cons_append]
        unfold numB
        rw [hd]
        rfl
    · refine Ls_nil (Th_n (hK10 _ _ ?_))
      refine Wp_cond_f rfl ?_
      refine Wp_exit (Th_e (Th_e (Ib_hit (Th_n (hK4 _ _ ?_)))))
      refine Wp_seq fun K53 hK53 => ?_
      refine Wp_region ?_
      refine Ls_y (wtd0 rfl) rfl rfl (y_move rfl rfl) ?_
      refine Ls_y (wtd0 rfl) rfl rfl (y_sub (c := 7) rfl rfl rfl (by decide)) ?_
      refine Ls_y (wtd0 rfl) rfl rfl (y_move rfl rfl) ?_
      refine Ls_y (wtd0 rfl) rfl rfl (y_sub (c := 1) rfl rfl rfl (by decide)) ?_
      refine Ls_y (wtd0 rfl) rfl rfl (y_cvi rfl rfl Tryz.underlying3 Tryz.underlying5 (wf_u8 (by omega))) ?_
      first
        | refine Ls_y (wtd0 rfl) rfl rfl (y_ixrN rfl rfl rfl Ty.ar_152 (by omega)) ?_
        | refine Ls_y (wtd0 rfl) rfl rfl (y_ixr rfl rfl rfl Ty.ar_152 (by omega) (by omega)) ?_
      refine Ls_a (wtd0 rfl) ?_
      refine a_store (i := 0) rfl rfl rfl rfl rfl Ty.sz_5 rfl hp rfl (by first | decide | (simp; done) | (simp; omega)) (fun w3 (hp : Hp w3 [_]) hf _ => ?_)
      have hF := hF.step hf (by intro y hy; simp only [List.mem_cons, List.not_mem_nil, or_false] at hy; subst hy; first | (exact Or.inr (by omega)) | (exact Or.inl (by simp)))
      refine Ls_nil (Th_n (hK53 _ _ ?_))
      refine Wp_seq fun K54 hK54 => ?_
      refine Wp_region ?_
      refine Ls_y (wtd0 rfl) rfl rfl (y_move rfl rfl) ?_
      refine Ls_y (wtd0 rfl) rfl rfl (y_sub (c := 7) rfl rfl rfl (by decide)) ?_
      refine Ls_y (wtd0 rfl) rfl rfl (y_cutaN (i := 7) rfl rfl Ty.ar_152 rfl rfl (by first | omega | (simp; omega) | (simp; done)) (by first | omega | (simp; omega) | (simp; done)) (by first | omega | (simp; omega) | (simp; done))) ?_
      refine Ls_y (wtd0 rfl) rfl rfl (y_cvbs (xs := [1, (u) % 256]) rfl rfl Tryz.underlying154 Tryz.underlying5 Tryz.underlying9 rfl (by rintro _ rfl; exact range_of (i := 0) (k := 7) (m := 2) hp rfl)) ?_
      refine Ls_y (wtd0 rfl) rfl rfl (y_assign rfl rfl) ?_
      refine Ls_nil (Th_n (hK54 _ _ ?_))
      refine wR (fR (Res1 rfl rfl) ?_)
      refine ⟨?_, hF⟩
      have hd : dgs 8 u = [(u) % 256] := by simp only [dgs, if_pos h1, if_neg h2, List.nil_append, List.cons_append]
      unfold numB
      rw [hd]
      rfl
  · refine Ls_nil (Th_n (hK6 _ _ ?_))
    refine Wp_cond_f rfl ?_
    refine Wp_exit (Th_e (Th_e (Ib_hit (Th_n (hK4 _ _ ?_)))))
    refine Wp_seq fun K55 hK55 => ?_
    refine Wp_region ?_
    refine Ls_y (wtd0 rfl) rfl rfl (y_move rfl rfl) ?_
    refine Ls_y (wtd0 rfl) rfl rfl (y_sub (c := 8) rfl rfl rfl (by decide)) ?_
    refine Ls_y (wtd0 rfl) rfl rfl (y_move rfl rfl) ?_
    refine Ls_y (wtd0 rfl) rfl rfl (y_sub (c := 0) rfl rfl rfl (by decide)) ?_
    refine Ls_y (wtd0 rfl) rfl rfl (y_cvi rfl rfl Tryz.underlying3 Tryz.underlying5 (wf_u8 (by omega))) ?_
    first
      | refine Ls_y (wtd0 rfl) rfl rfl (y_ixrN rfl rfl rfl Ty.ar_152 (by omega)) ?_
      | refine Ls_y (wtd0 rfl) rfl rfl (y_ixr rfl rfl rfl Ty.ar_152 (by omega) (by omega)) ?_
    refine Ls_a (wtd0 rfl) ?_
    refine a_store (i := 0) rfl rfl rfl rfl rfl Ty.sz_5 rfl hp rfl (by first | decide | (simp; done) | (simp; omega)) (fun w2 (hp : Hp w2 [_]) hf _ => ?_)
    have hF := hF.step hf (by intro y hy; simp only [List.mem_cons, List.not_mem_nil, or_false] at hy; subst hy; first | (exact Or.inr (by omega)) | (exact Or.inl (by simp)))
    refine Ls_nil (Th_n (hK55 _ _ ?_))
    refine Wp_seq fun K56 hK56 => ?_
    refine Wp_region ?_
    refine Ls_y (wtd0 rfl) rfl rfl (y_move rfl rfl) ?_
    refine Ls_y (wtd0 rfl) rfl rfl (y_sub (c := 8) rfl rfl rfl (by decide)) ?_
    refine Ls_y (wtd0 rfl) rfl rfl (y_cutaN (i := 8) rfl rfl Ty.ar_152 rfl rfl (by first | omega | (simp; omega) | (simp; done)) (by first | omega | (simp; omega) | (simp; done)) (by first | omega | (simp; omega) | (simp; done))) ?_
    refine Ls_y (wtd0 rfl) rfl rfl (y_cvbs (xs := [0]) rfl rfl Tryz.underlying154 Tryz.underlying5 Tryz.underlying9 rfl (by rintro _ rfl; exact range_of (i := 0) (k := 8) (m := 1) hp rfl)) ?_
    refine Ls_y (wtd0 rfl) rfl rfl (y_assign rfl rfl) ?_
    refine Ls_nil (Th_n (hK56 _ _ ?_))
    refine wR (fR (Res1 rfl rfl) ?_)
    refine ⟨?_, hF⟩
    have hd : dgs 8 u = [] := by simp only [dgs, if_neg h1, List.nil_append, List.cons_append]
    unfold numB
    rw [hd]
    rfl
end Go.Proofs.YtdckemiebnfjcaaGreatDoor

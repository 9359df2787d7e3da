/- Walks printed by gen2.py out of our own specifications: what the functions named below do. -/
import Derived.Test.YtdgllcmlfblelaaGreatDoorSc
import Derived.Test.YtdgllcmlfblelaaGreatDoorB8
set_option linter.unusedSimpArgs false
set_option linter.unusedVariables false
namespace Go.Proofs.YtdgllcmlfblelaaGreatDoor
open Go.RowKit


theorem or_byte (v : Int) (b : UInt8) : bits .or .u64 (v * 256 % 18446744073709551616) (b.toNat : Int) = ((v * 256) % 18446744073709551616 + (b.toNat : Int)) % 18446744073709551616 := by
  have hb := b.toNat_lt
  obtain ⟨x, hx⟩ : ∃ x : Nat, v * 256 % 18446744073709551616 = ((256 * x : Nat) : Int) := ⟨(v % 72057594037927936).toNat, by omega⟩
  have h0 : 0 ≤ v * 256 % 18446744073709551616 ∧ v * 256 % 18446744073709551616 < 18446744073709551616 := by omega
  rw [u64_or _ _ h0.1 h0.2 (by omega) (by omega), hx]
  have h1 := Nat.shiftLeft_add_eq_or_of_lt (i := 8) (b := b.toNat) (by omega) x
  rw [Nat.shiftLeft_eq, Nat.mul_comm x] at h1
  have h2 : (((256 * x : Nat) : Int)).toNat ||| ((b.toNat : Int)).toNat = 256 * x + b.toNat := by
    rw [Int.toNat_natCast, Int.toNat_natCast]; exact h1.symm
  rw [h2]
  omega
theorem ix_dropA {α : Type} [Inhabited α] (l : List α) {a j : Int} (ha : 0 ≤ a) (hj : 0 ≤ j) : ix (l.drop a.toNat) j = ix l (a + j) := by
  unfold ix
  rw [List.getElem?_drop, show (a + j).toNat = a.toNat + j.toNat by omega]
theorem number_L1_eq (t : RdM) (h : 0 ≤ t.a) : ∀ (fuel : Nat) (a b : Int), 0 ≤ b → ∃ c d, number_L1 (t.s.drop t.a.toNat) fuel a b = .inr (c, d) ∧ rnum_L1 t fuel a b = .inr (c, d)
  | 0, a, b, hb => ⟨a, b, rfl, rfl⟩
  | fuel + 1, a, b, hb => by
    rw [number_L1, rnum_L1, ix_dropA _ h (by decide), ix_dropA _ h hb, Int.add_zero]
    by_cases hc : b ≤ ((ix t.s t.a).toNat : Int)
    · rw [if_pos (show b < 1 + ((ix t.s t.a).toNat : Int) by omega), if_pos hc, or_byte]
      exact number_L1_eq t h fuel _ _ (by omega)
    · rw [if_neg (show ¬ b < 1 + ((ix t.s t.a).toNat : Int) by omega), if_neg hc]
      exact ⟨a, b, rfl, rfl⟩
/-- Numbers: what the program reads is what the document reads. -/
theorem next_num {t : RdM} (hk : Rok t) (h0 : t.f.e = 0) : rnum_m t = if (number_m (t.s.drop t.a.toNat)).2.2 = 0 then ((number_m (t.s.drop t.a.toNat)).1, ⟨t.s, t.a + (number_m (t.s.drop t.a.toNat)).2.1, t.f⟩) else (0, rfail_m t (number_m (t.s.drop t.a.toNat)).2.2) := by
  have hb := hk.b
  have e0 : ix (t.s.drop t.a.toNat) 0 = ix t.s t.a := by rw [ix_dropA _ hk.1 (by decide), Int.add_zero]
  have e1 : ix (t.s.drop t.a.toNat) 1 = ix t.s (t.a + 1) := ix_dropA _ hk.1 (by decide)
  have hl : ((t.s.drop t.a.toNat).length : Int) = t.s.length - t.a := by rw [List.length_drop]; omega
  have hs : t.s.drop t.a.toNat = [] ↔ t.a = (t.s.length : Int) := by rw [List.drop_eq_nil_iff]; omega
  have hc : number_c1 (t.s.drop t.a.toNat) = rnum_c1 t := by
    unfold number_c1 rnum_c1
    rw [e0, e1]
    by_cases h : 0 < ((ix t.s t.a).toNat : Int)
    · rw [if_pos h, if_pos (by omega)]
    · rw [if_neg h, if_neg (by omega)]
  obtain ⟨c, d, hL, hR⟩ := number_L1_eq t hk.1 ((1 + ((ix t.s t.a).toNat : Int) - 1).toNat + 1) 0 1 (by decide)
  have hf : ((1 + ((ix t.s t.a).toNat : Int) - 1).toNat + 1) = (((((ix t.s t.a).toNat : Int) + 1) - (1 : Int)).toNat + 1) := by omega
  unfold number_m rnum_m
  rw [hf] at hR
  rw [if_pos h0, e0, hc, hL, hR]
  by_cases c1 : t.a = (t.s.length : Int)
  · rw [if_pos c1, if_pos (hs.2 c1)]; simp
  rw [if_neg c1, if_neg (fun h => c1 (hs.1 h))]
  by_cases c2 : 8 < ((ix t.s t.a).toNat : Int)
  · rw [if_pos c2, if_pos (show 9 < 1 + ((ix t.s t.a).toNat : Int) by omega)]; simp
  rw [if_neg c2, if_neg (show ¬ 9 < 1 + ((ix t.s t.a).toNat : Int) by omega)]
  by_cases c3 : ((t.s.length : Int) - t.a) - 1 < ((ix t.s t.a).toNat : Int)
  · rw [if_pos c3, if_pos (show ((t.s.drop t.a.toNat).length : Int) < 1 + ((ix t.s t.a).toNat : Int) by omega)]; simp
  rw [if_neg c3, if_neg (show ¬ ((t.s.drop t.a.toNat).length : Int) < 1 + ((ix t.s t.a).toNat : Int) by omega)]
  by_cases c4 : rnum_c1 t = true
  · rw [if_pos c4, if_pos c4]; simp
  rw [if_neg c4, if_neg c4]
  simp only [if_true]
  rw [Int.add_assoc]
theorem next_rnum {t : RdM} (hk : Rok t) : nextM every_m t = rnum_m t := by
  unfold nextM
  by_cases h0 : t.f.e = 0
  · rw [if_pos h0, next_num hk h0]
    rfl
  · rw [if_neg h0]; unfold rnum_m; rw [if_neg h0]
theorem next_rint {t : RdM} {m : Int} (hk : Rok t) (hm : m < 9223372036854775808) : (IntKind.i64.wrap (nextM (oright_m m) t).1, (nextM (oright_m m) t).2) = rint_m t m := by
  have hb := hk.b
  have hi := rint_c1_iff t m
  unfold nextM rint_m
  by_cases h0 : t.f.e = 0
  · have hn := next_num hk h0
    rw [if_pos h0]
    rcases number_cases (t.s.drop t.a.toNat) with ⟨e, he, h3⟩ | ⟨v, n, he, h2, h3, h4, h5, h6⟩
    · rw [he] at hn ⊢
      have h7 : ¬ e = 0 := by omega
      simp only [h7, if_false] at hn ⊢
      rw [hn] at hi ⊢
      have h8 := rfail_at h0 h7
      rw [h8] at hi ⊢
      rw [if_neg (fun hc => h7 (hi.1 hc).1), if_neg h7]
      rw [show IntKind.i64.wrap 0 = 0 from rfl]
    · rw [he] at hn ⊢
      simp only [if_true] at hn ⊢
      rw [hn] at hi ⊢
      simp only [h0, true_and] at hi
      have ho := oright_c1_iff m v
      unfold oright_m
      by_cases hc : rint_c1 t m = true
      · have h7 := ho.2 (hi.1 hc)
        rw [if_pos h7, if_pos hc]
        simp only [show ¬ (2 : Int) = 0 by decide, if_false]
        rw [show IntKind.i64.wrap 0 = 0 from rfl]
      · have h7 : ¬ oright_c1 m v = true := fun h => hc (hi.2 (ho.1 h))
        rw [if_neg h7, if_neg hc]
        simp only [if_true]
        rw [if_pos h0]
  · have hn : rnum_m t = (0, t) := by unfold rnum_m; rw [if_neg h0]
    rw [if_neg h0, hn]
    rw [hn] at hi
    rw [if_neg (fun hc => h0 (hi.1 hc).1), if_neg h0]
    rw [show IntKind.i64.wrap 0 = 0 from rfl]

end Go.Proofs.YtdgllcmlfblelaaGreatDoor

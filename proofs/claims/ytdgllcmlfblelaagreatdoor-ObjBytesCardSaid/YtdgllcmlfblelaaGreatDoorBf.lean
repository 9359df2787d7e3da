/- Walks printed by gen2.py out of our own specifications: what the functions named below do. -/
import Derived.Test.YtdgllcmlfblelaaGreatDoorSc
import Derived.Test.YtdgllcmlfblelaaGreatDoorBe
set_option linter.unusedSimpArgs false
set_option linter.unusedVariables false
namespace Go.Proofs.YtdgllcmlfblelaaGreatDoor
open Go.RowKit


theorem xor_ones (x : BitVec 64) : (x ^^^ BitVec.allOnes 64).toNat = 18446744073709551615 - x.toNat := by
  rw [BitVec.xor_allOnes, BitVec.toNat_not]
theorem u64_xor_zero {x : Int} (h : 0 ≤ x ∧ x < 18446744073709551616) : bits .xor .u64 x 0 = x := by
  rw [u64_xor x 0 h.1 h.2 (by decide) (by decide)]
  simp; omega
theorem u64_xor_ones {x : Int} (h : 0 ≤ x ∧ x < 18446744073709551616) : bits .xor .u64 x 18446744073709551615 = 18446744073709551615 - x := by
  show IntKind.u64.wrap ((BitVec.ofInt 64 x ^^^ BitVec.ofInt 64 18446744073709551615).toNat : Int) = _
  have e : BitVec.ofInt 64 18446744073709551615 = BitVec.allOnes 64 := by decide
  rw [e, xor_ones, BitVec.toNat_ofInt, IntKind.wrap_u64]
  simp; omega
theorem i64_xor_zero {x : Int} (h : -9223372036854775808 ≤ x ∧ x ≤ 9223372036854775807) : bits .xor .i64 x 0 = x := by
  show IntKind.i64.wrap ((BitVec.ofInt 64 x ^^^ BitVec.ofInt 64 0).toNat : Int) = _
  have e : BitVec.ofInt 64 0 = 0#64 := by decide
  rw [e, BitVec.xor_zero, BitVec.toNat_ofInt, IntKind.wrap_i64]
  simp; omega
theorem i64_xor_ones {x : Int} (h : -9223372036854775808 ≤ x ∧ x ≤ 9223372036854775807) : bits .xor .i64 x (-1) = -1 - x := by
  show IntKind.i64.wrap ((BitVec.ofInt 64 x ^^^ BitVec.ofInt 64 (-1)).toNat : Int) = _
  have e : BitVec.ofInt 64 (-1) = BitVec.allOnes 64 := by decide
  rw [e, xor_ones, BitVec.toNat_ofInt, IntKind.wrap_i64]
  simp; omega
theorem signed_eq {u : Int} (h : -9223372036854775808 ≤ u ∧ u ≤ 9223372036854775807) : osigned_m u = r2signed_m u := by
  unfold osigned_m r2signed_m
  split
  · rw [show (u / 9223372036854775808) % 18446744073709551616 = 0 by omega, u64_xor_zero (by omega), num_eq (by omega), show (2 * (u % 18446744073709551616)) % 18446744073709551616 = (u % 18446744073709551616) * 2 % 18446744073709551616 by omega]
  · rw [show (u / 9223372036854775808) % 18446744073709551616 = 18446744073709551615 by omega, u64_xor_ones (by omega), num_eq (by omega)]
    congr 1
    omega
theorem rsigned_eq {t : RdM} (h : Rok t) : oRsigned_m t = rsigned_m t := by
  have hv := rnum_v h
  have hw : IntKind.i64.wrap ((rnum_m t).1 / 2) = (rnum_m t).1 / 2 := by rw [IntKind.wrap_i64]; omega
  unfold oRsigned_m rsigned_m
  rw [and_one hv, hw]
  split
  · rename_i h1
    rw [h1, show (0 : Int) - 1 = -1 from rfl, i64_xor_ones (by omega), show -1 - (rnum_m t).1 / 2 = 0 - (rnum_m t).1 / 2 - 1 by omega]
  · rw [show (rnum_m t).1 % 2 = 0 by omega, show (0 : Int) - 0 = 0 from rfl, i64_xor_zero (by omega)]


theorem text_eq {s : List UInt8} : otext_m s = r2text_m s := by unfold otext_m r2text_m; rw [num_eq (by omega)]
theorem writeTag_eq {t : TagM} (h : tagOk t) : iwriteTag_m t = r5writeTag_m t := by
  unfold iwriteTag_m r5writeTag_m
  rw [checkTag_eq h]
  split
  · rename_i h0
    have hf := (r5checkTag_fine t).1 h0
    have hi : icheck_m t.id = 0 := by unfold icheck_m; rw [if_neg (fun q => by have := (icheck_c1_iff t.id).1 q; omega)]
    have hr : r5check_m t.id = 0 := by rw [r5check_z, if_neg (by omega)]
    unfold iwrite_m r5write_m
    rw [if_pos hi, if_pos hr, num_eq (by omega), num_eq (by omega), num_eq (by omega)]
  · rfl
theorem lwrite_eq (s : StampM) : lwrite_m s = r9write_m s := by
  unfold lwrite_m r9write_m
  rw [lcheck_eq, num_eq (by omega), num_eq (by omega)]
theorem write_L1_eq {e : EffectM} (h : EffWf e) : ∀ (fuel : Nat) (a : List UInt8) (i : Int), 0 ≤ i → owrite_L1 e fuel a i = r14write_L1 e fuel a i
  | 0, a, i, hi => rfl
  | fuel + 1, a, i, hi => by
    rw [owrite_L1, r14write_L1]
    split
    · rw [writeTag_eq (h.tags _ (ix_memI _ (by omega) (by omega)))]
      exact write_L1_eq h fuel _ _ (by omega)
    · rfl
theorem write_L2_eq {e : EffectM} (h : EffWf e) : ∀ (fuel : Nat) (a : List UInt8) (i : Int), 0 ≤ i → owrite_L2 e fuel a i = r14write_L2 e fuel a i
  | 0, a, i, hi => rfl
  | fuel + 1, a, i, hi => by
    rw [owrite_L2, r14write_L2]
    split
    · rw [writeTag_eq (h.tags _ (ix_memI _ (by omega) (by omega)))]
      exact write_L2_eq h fuel _ _ (by omega)
    · rfl
/-- An effect's bytes: the program's are the document's. -/
theorem write_eq {e : EffectM} (h : EffWf e) (hv : -9223372036854775808 ≤ e.val ∧ e.val ≤ 9223372036854775807) : owrite_m e = r14write_m e := by
  unfold owrite_m r14write_m
  rw [checkE_eq h, formAt, formTags, write_L1_eq h _ _ _ (by decide), write_L2_eq h _ _ _ (by decide), num_eq (by omega), text_eq, signed_eq hv, writeTag_eq h.tag, lwrite_eq, num_eq (u := (e.tags.length : Int) % 18446744073709551616) (by omega)]
  rfl

end Go.Proofs.YtdgllcmlfblelaaGreatDoor

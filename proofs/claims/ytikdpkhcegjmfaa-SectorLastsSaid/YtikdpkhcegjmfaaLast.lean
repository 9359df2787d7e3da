/- Plain: what lasts on a disk. -/
import Derived.Test.YtikdpkhcegjmfaaRk
import Derived.Test.YtikdpkhcegjmfaaSw
namespace Go.Proofs.Ytikdpkhcegjmfaa
open Go.MapKept

theorem stepD_calm {D : Dk} (h : D.armed = false) : stepD D = D := by unfold stepD; rw [if_neg (by simp [h])]
theorem write_calm {D : Dk} (h1 : D.armed = false) (h2 : D.down = false) (i : Int) (s : List UInt8) : (writeD D i s).armed = false ∧ (writeD D i s).down = false ∧ (writeD D i s).now.length = D.now.length := by
  unfold writeD
  rw [stepD_calm h1]
  split
  · exact ⟨h1, h2, rfl⟩
  · split
    · exact ⟨h1, h2, rfl⟩
    · split
      · exact ⟨h1, h2, rfl⟩
      · exact ⟨h1, h2, by simp⟩
theorem sync_calm {D : Dk} (h1 : D.armed = false) (h2 : D.down = false) : syncE D = 0 ∧ (syncD D).lasts = (syncD D).now ∧ (syncD D).down = false ∧ (syncD D).now.length = D.now.length := by
  unfold syncE syncD
  rw [stepD_calm h1, if_neg (by simp [h2]), if_neg (by simp [h2]), if_neg (by simp [h2]), if_neg (by simp [h2])]
  exact ⟨rfl, rfl, h2, rfl⟩
theorem dirty_nil {D : Dk} (h : D.lasts = D.now) : dirtyD D = [] := by
  unfold dirtyD
  rw [h]
  simp
/-- What was not touched since C lasts as it was at C. -/
structure LInv (C D : Dk) (f : Value → Option Value) : Prop where
  len : D.now.length = C.now.length
  tr : ∀ k v, f k = some v → v = .bool true
  now : ∀ j : Nat, f (natV j) = none → D.now[j]? = C.now[j]? ∧ D.lasts[j]? = C.now[j]?
theorem LInv.start {C : Dk} (h : C.lasts = C.now) (n : Int) : LInv C (armD C n) (fun _ => none) := ⟨rfl, by simp, fun j _ => ⟨rfl, by show C.lasts[j]? = _; rw [h]⟩⟩
theorem LInv.step {C D : Dk} {f : Value → Option Value} (h : LInv C D f) : LInv C (stepD D) f := ⟨by rw [stepD_now]; exact h.len, h.tr, fun j hj => by rw [stepD_now, stepD_lasts]; exact h.now j hj⟩
theorem LInv.sync {C D : Dk} {f : Value → Option Value} (h : LInv C D f) : LInv C (syncD D) f := by
  unfold syncD
  split
  · exact h
  · split
    · exact h.step
    · exact ⟨h.step.len, h.tr, fun j hj => ⟨(h.step.now j hj).1, (h.step.now j hj).1⟩⟩
theorem LInv.write_bad {C D : Dk} {f : Value → Option Value} (h : LInv C D f) {i : Int} {s : List UInt8} (he : ¬ writeE D i s = 0) : LInv C (writeD D i s) f := by
  unfold writeE at he
  unfold writeD
  split
  · exact h
  · rename_i h1
    rw [if_neg h1] at he
    split
    · exact h
    · rename_i h2
      rw [if_neg h2] at he
      split
      · exact h.step
      · rename_i h3
        rw [if_neg h3] at he
        exact absurd rfl he
theorem LInv.write_ok {C D : Dk} {f : Value → Option Value} (h : LInv C D f) {i : Int} {s : List UInt8} (he : writeE D i s = 0) : LInv C (writeD D i s) (mput f (.int .i64 i) (.bool true)) := by
  have hc : ¬ chkD D i ≠ 0 := fun hc => by unfold writeE at he; rw [if_pos hc] at he; exact hc he
  have h0 := chk0 (Decidable.not_not.1 hc)
  obtain ⟨k, rfl⟩ := Int.eq_ofNat_of_zero_le h0.2.1
  have hf : ∀ j : Nat, mput f (.int .i64 (k : Int)) (.bool true) (natV j) = none → j ≠ k ∧ f (natV j) = none := fun j hj => by
    have hne : j ≠ k := fun e => by subst e; rw [mput_self] at hj; cases hj
    refine ⟨hne, ?_⟩
    rwa [mput_ne f _ (fun e => hne (by injection e with _ e; omega))] at hj
  have htr : ∀ q v, mput f (.int .i64 (k : Int)) (.bool true) q = some v → v = .bool true := fun q v hq => by
    by_cases e : q = .int .i64 (k : Int)
    · subst e; rw [mput_self] at hq; cases hq; rfl
    · rw [mput_ne f _ e] at hq; exact h.tr q v hq
  unfold writeD
  rw [if_neg hc]
  split
  · exact ⟨h.len, htr, fun j hj => h.now j (hf j hj).2⟩
  · split
    · exact ⟨h.step.len, htr, fun j hj => h.step.now j (hf j hj).2⟩
    · refine ⟨by simpa using h.step.len, htr, fun j hj => ?_⟩
      obtain ⟨h1, h2⟩ := hf j hj
      have h3 := h.step.now j h2
      simp only [Int.toNat_natCast]
      rw [List.getElem?_set_ne (fun e => h1 e.symm)]
      exact h3
theorem LInv.mend {C D : Dk} {f : Value → Option Value} (h : LInv C D f) (hD : DkOk D) (ks : List Int) {j : Nat} (hj : f (natV j) = none) : (mendD D ks).now[j]? = C.now[j]? := by
  have h1 := h.now j hj
  have hn : j ∉ dirtyD D := fun hm => by
    unfold dirtyD at hm
    have := (List.mem_filter.1 hm).2
    rw [h1.1, h1.2] at this
    simp at this
  have ha := (mend_at hD.len ks (dirtyD D).length j).2 (by rw [List.take_length]; exact hn)
  show (mendL D ks (dirtyD D).length)[j]? = _
  rw [ha.2, h1.2]
theorem mend_len {D : Dk} (hD : DkOk D) (ks : List Int) : (mendD D ks).now.length = D.now.length := by show (mendL D ks _).length = _; rw [mendL_len, hD.len]
theorem read_in {D : Dk} {j : Nat} (hd : D.down = false) (hj : j < D.now.length) : readE D j = 0 ∧ readS D j = (D.now[j]?).getD [] := by
  have hz : chkD D j = 0 := by unfold chkD; rw [if_neg (by simp [hd]), if_neg (by omega)]
  exact ⟨hz, by unfold readS; rw [if_neg (by simp [hz])]; simp⟩
end Go.Proofs.Ytikdpkhcegjmfaa

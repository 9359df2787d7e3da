/- Plain: the reference disk (rows are strings) against the disk. -/
import Derived.Test.YtikdpkhcegjmfaaDk
namespace Go.Proofs.Ytikdpkhcegjmfaa

def rstepD (R : Dk) : Dk := if R.armed = true ∧ R.left = 0 then { R with down := true } else if R.armed = true then { R with left := R.left - 1 } else R
def rwriteE (R : Dk) (i : Int) (s : List UInt8) : Int := if chkD R i ≠ 0 then chkD R i else if 64 < s.length then 8 else if (rstepD R).down = true then 9 else 0
def rwriteD (R : Dk) (i : Int) (s : List UInt8) : Dk := if chkD R i ≠ 0 then R else if 64 < s.length then R else if (rstepD R).down = true then rstepD R else { rstepD R with now := R.now.set i.toNat (pad64 s) }
def rsyncE (R : Dk) : Int := if R.down = true then 9 else if (rstepD R).down = true then 9 else 0
def rsyncD (R : Dk) : Dk := if R.down = true then R else if (rstepD R).down = true then rstepD R else { rstepD R with lasts := R.now }
theorem rstepD_now (R : Dk) : (rstepD R).now = R.now := by unfold rstepD; repeat (first | rfl | split)
theorem rstepD_lasts (R : Dk) : (rstepD R).lasts = R.lasts := by unfold rstepD; repeat (first | rfl | split)
theorem rstepD_armed (R : Dk) : (rstepD R).armed = R.armed := by unfold rstepD; repeat (first | rfl | split)
theorem rstepD_ok {R : Dk} (h : DkOk R) (hd : R.down = false) : DkOk (rstepD R) := by
  have ha := h.arm hd
  have hh := h.hi
  have hl := h.lo
  refine ⟨by rw [rstepD_now, rstepD_lasts]; exact h.len, by rw [rstepD_now]; exact h.now, by rw [rstepD_lasts]; exact h.lasts, by rw [rstepD_now]; exact h.pos, by rw [rstepD_now]; exact h.most, ?_, ?_, ?_⟩
  · unfold rstepD; split
    · exact hl
    · split
      · have := ha ‹_›; simp only; omega
      · exact hl
  · unfold rstepD; split
    · intro h0; cases h0
    · split
      · rename_i h1 h2
        have := ha h2
        intro _ _
        have h3 : R.left ≠ 0 := fun e => h1 ⟨h2, e⟩
        simp only; omega
      · exact h.arm
  · unfold rstepD; split
    · exact hh
    · split
      · simp only; omega
      · exact hh

/-- The disk of the program against that of the document. -/
structure RelD (D R : Dk) : Prop where
  now : D.now = R.now
  lasts : D.lasts = R.lasts
  armed : D.armed = R.armed
  down : D.down = R.down
  left : D.down = false → D.left = R.left
theorem RelD.step {D R : Dk} (h : RelD D R) (hd : D.down = false) : RelD (stepD D) (rstepD R) := by
  have hl := h.left hd
  have ha := h.armed
  have hd' : R.down = false := by rw [← h.down]; exact hd
  unfold stepD rstepD
  by_cases hR : R.armed = true
  · rw [if_pos (by rw [ha]; exact hR)]
    by_cases h0 : R.left = 0
    · rw [if_pos ⟨hR, h0⟩]
      exact ⟨h.now, h.lasts, h.armed, by simp [hl, h0], fun hc => by simp [hl, h0] at hc⟩
    · rw [if_neg (fun e => h0 e.2), if_pos hR]
      exact ⟨h.now, h.lasts, h.armed, by simp [hl, h0, hd'], fun _ => by simp [hl]⟩
  · rw [if_neg (by rw [ha]; exact hR), if_neg (fun e => hR e.1), if_neg hR]
    exact h
theorem RelD.chk {D R : Dk} (h : RelD D R) (i : Int) : chkD D i = chkD R i := by unfold chkD; rw [h.now, h.down]
theorem chk_down {D : Dk} {i : Int} (h : ¬ chkD D i ≠ 0) : D.down = false := (chk0 (Decidable.not_not.1 h)).1
theorem RelD.writeE {D R : Dk} (h : RelD D R) (i : Int) (s : List UInt8) : writeE D i s = rwriteE R i s := by
  unfold Proofs.Ytikdpkhcegjmfaa.writeE rwriteE
  rw [← h.chk i]
  by_cases hc : chkD D i ≠ 0
  · rw [if_pos hc, if_pos hc]
  · rw [if_neg hc, if_neg hc, (h.step (chk_down hc)).down]
theorem RelD.writeD {D R : Dk} (h : RelD D R) (i : Int) (s : List UInt8) : RelD (writeD D i s) (rwriteD R i s) := by
  unfold Proofs.Ytikdpkhcegjmfaa.writeD rwriteD
  rw [← h.chk i]
  by_cases hc : chkD D i ≠ 0
  · rw [if_pos hc, if_pos hc]; exact h
  · have hs := h.step (chk_down hc)
    rw [if_neg hc, if_neg hc, hs.down]
    split
    · exact h
    · split
      · exact hs
      · exact ⟨by simp only [stepD_now, h.now], hs.lasts, hs.armed, hs.down, hs.left⟩
theorem RelD.syncE {D R : Dk} (h : RelD D R) : syncE D = rsyncE R := by
  unfold Proofs.Ytikdpkhcegjmfaa.syncE rsyncE
  rw [← h.down]
  by_cases hc : D.down = true
  · rw [if_pos hc, if_pos hc]
  · rw [if_neg hc, if_neg hc, (h.step (by simpa using hc)).down]
theorem RelD.syncD {D R : Dk} (h : RelD D R) : RelD (syncD D) (rsyncD R) := by
  unfold Proofs.Ytikdpkhcegjmfaa.syncD rsyncD
  rw [← h.down]
  by_cases hc : D.down = true
  · rw [if_pos hc, if_pos hc]; exact h
  · have hs := h.step (by simpa using hc)
    rw [if_neg hc, if_neg hc, hs.down]
    split
    · exact hs
    · exact ⟨hs.now, by simp only [stepD_now, h.now], hs.armed, hs.down, hs.left⟩
theorem RelD.armD {D R : Dk} (h : RelD D R) (n : Int) : RelD (armD D n) (armD R n) := ⟨h.now, h.lasts, rfl, h.down, fun _ => rfl⟩
theorem RelD.dirty {D R : Dk} (h : RelD D R) : dirtyD D = dirtyD R := by unfold dirtyD; rw [h.now, h.lasts]
theorem RelD.mendL {D R : Dk} (h : RelD D R) (ks : List Int) : ∀ k, mendL D ks k = mendL R ks k
  | 0 => h.lasts
  | k + 1 => by
    unfold Proofs.Ytikdpkhcegjmfaa.mendL
    rw [h.dirty, RelD.mendL h ks k, h.now]
theorem RelD.mend {D R : Dk} (h : RelD D R) (ks : List Int) : RelD (mendD D ks) (mendD R ks) := by
  have e : mendD D ks = mendD R ks := by unfold mendD; rw [h.dirty, h.mendL]
  rw [e]
  exact ⟨rfl, rfl, rfl, rfl, fun _ => rfl⟩
theorem RelD.readS {D R : Dk} (h : RelD D R) (i : Int) : readS D i = readS R i := by unfold Proofs.Ytikdpkhcegjmfaa.readS; rw [h.chk, h.now]
theorem RelD.readE {D R : Dk} (h : RelD D R) (i : Int) : readE D i = readE R i := h.chk i
theorem RelD.ok {D R : Dk} (h : RelD D R) (hD : DkOk D) (hl : -1 ≤ R.left) (hh : R.left ≤ 9223372036854775807) : DkOk R :=
  ⟨by rw [← h.now, ← h.lasts]; exact hD.len, by rw [← h.now]; exact hD.now, by rw [← h.lasts]; exact hD.lasts, by rw [← h.now]; exact hD.pos, by rw [← h.now]; exact hD.most, hl, fun h1 h2 => by rw [← h.left (by rw [h.down]; exact h1)]; exact hD.arm (by rw [h.down]; exact h1) (by rw [h.armed]; exact h2), hh⟩
theorem RelD.refl (D : Dk) : RelD D D := ⟨rfl, rfl, rfl, rfl, fun _ => rfl⟩

theorem rwriteD_ok {R : Dk} (h : DkOk R) (i : Int) (s : List UInt8) : DkOk (rwriteD R i s) := by
  unfold rwriteD
  split
  · exact h
  · rename_i hc
    have hs := rstepD_ok h (chk_down hc)
    split
    · exact h
    · split
      · exact hs
      · have hn := hs.now
        have hln := hs.len
        have hpo := hs.pos
        have hmo := hs.most
        rw [rstepD_now] at hn hln hpo hmo
        refine ⟨by simpa using hln, rows64_set hn _ (pad64_len (by omega)), hs.lasts, by simpa using hpo, by simpa using hmo, hs.lo, hs.arm, hs.hi⟩
theorem rsyncD_ok {R : Dk} (h : DkOk R) : DkOk (rsyncD R) := by
  unfold rsyncD
  split
  · exact h
  · rename_i hc
    have hs := rstepD_ok h (by simpa using hc)
    split
    · exact hs
    · exact ⟨by simp only [rstepD_now], hs.now, h.now, hs.pos, hs.most, hs.lo, hs.arm, hs.hi⟩

/-! ### mending in place -/
def mendN (D : Dk) (ks : List Int) : Nat → List (List UInt8)
  | 0 => D.now
  | k + 1 => match (dirtyD D)[k]? with
    | some i => (mendN D ks k).set i (((D.now[i]?).getD []).take (keepN ks k) ++ (((mendL D ks k)[i]?).getD []).drop (keepN ks k))
    | none => mendN D ks k
theorem mendN_len (D : Dk) (ks : List Int) : ∀ k, (mendN D ks k).length = D.now.length
  | 0 => rfl
  | k + 1 => by
    unfold mendN
    split
    · rw [List.length_set, mendN_len D ks k]
    · exact mendN_len D ks k
theorem dirty_nodup (D : Dk) : (dirtyD D).Nodup := List.Pairwise.filter _ List.nodup_range
theorem mend_at {D : Dk} (h : D.lasts.length = D.now.length) (ks : List Int) : ∀ (k j : Nat), (j ∈ (dirtyD D).take k → (mendN D ks k)[j]? = (mendL D ks k)[j]?) ∧ (j ∉ (dirtyD D).take k → (mendN D ks k)[j]? = D.now[j]? ∧ (mendL D ks k)[j]? = D.lasts[j]?)
  | 0, j => ⟨fun hj => by simp at hj, fun _ => ⟨rfl, rfl⟩⟩
  | k + 1, j => by
    have ih := mend_at h ks k j
    have eN : mendN D ks (k + 1) = match (dirtyD D)[k]? with
      | some i => (mendN D ks k).set i (((D.now[i]?).getD []).take (keepN ks k) ++ (((mendL D ks k)[i]?).getD []).drop (keepN ks k))
      | none => mendN D ks k := rfl
    have eL : mendL D ks (k + 1) = match (dirtyD D)[k]? with
      | some i => (mendL D ks k).set i (((D.now[i]?).getD []).take (keepN ks k) ++ (((mendL D ks k)[i]?).getD []).drop (keepN ks k))
      | none => mendL D ks k := rfl
    rw [eN, eL]
    cases hi : (dirtyD D)[k]? with
    | none =>
      have hk : (dirtyD D).length ≤ k := by simpa using hi
      have e : (dirtyD D).take (k + 1) = (dirtyD D).take k := by rw [List.take_of_length_le (by omega), List.take_of_length_le hk]
      rw [e]
      exact ih
    | some i =>
      have e : (dirtyD D).take (k + 1) = (dirtyD D).take k ++ [i] := by rw [List.take_add_one, hi]; rfl
      have hl := dirty_lt hi
      simp only [e, List.mem_append, List.mem_singleton]
      by_cases hj : j = i
      · subst hj
        refine ⟨fun _ => ?_, fun hn => absurd (.inr rfl) hn⟩
        rw [List.getElem?_set_self (by rw [mendN_len]; exact hl), List.getElem?_set_self (by rw [mendL_len, h]; exact hl)]
      · have hj' : i ≠ j := fun e => hj e.symm
        rw [List.getElem?_set_ne hj', List.getElem?_set_ne hj']
        exact ⟨fun hm => ih.1 (hm.resolve_right hj), fun hm => ih.2 (fun hx => hm (.inl hx))⟩
theorem mendN_row {D : Dk} (h : DkOk D) (ks : List Int) {k i : Nat} (hi : (dirtyD D)[k]? = some i) : (mendN D ks k)[i]? = D.now[i]? := by
  refine ((mend_at h.len ks k i).2 fun hm => ?_).1
  obtain ⟨j, hj⟩ := List.mem_iff_getElem?.1 hm
  rw [List.getElem?_take] at hj
  split at hj
  · rename_i hjk
    have hlk : k < (dirtyD D).length := (List.getElem?_eq_some_iff.1 hi).1
    have := (List.getElem?_inj (by omega) (dirty_nodup D)).1 (hj.trans hi.symm)
    omega
  · cases hj
theorem mendN_all {D : Dk} (h : DkOk D) (ks : List Int) : mendN D ks (dirtyD D).length = mendL D ks (dirtyD D).length := by
  apply List.ext_getElem?
  intro j
  have ha := mend_at h.len ks (dirtyD D).length j
  rw [List.take_length] at ha
  by_cases hj : j ∈ dirtyD D
  · exact ha.1 hj
  · obtain ⟨h1, h2⟩ := ha.2 hj
    rw [h1, h2]
    by_cases hl : j < D.now.length
    · unfold dirtyD at hj
      simp only [List.mem_filter, List.mem_range, hl, true_and, bne_iff_ne, ne_eq, Decidable.not_not] at hj
      have hl2 : j < D.lasts.length := by rw [h.len]; exact hl
      rw [List.getElem?_eq_getElem hl, List.getElem?_eq_getElem hl2] at hj ⊢
      exact congrArg some hj
    · rw [List.getElem?_eq_none (by omega), List.getElem?_eq_none (by rw [h.len]; omega)]
theorem mendN_rows {D : Dk} (h : DkOk D) (ks : List Int) (k : Nat) : Rows64 (mendN D ks k) := fun r hr => by
  obtain ⟨j, hj⟩ := List.mem_iff_getElem?.1 hr
  have ha := mend_at h.len ks k j
  by_cases hm : j ∈ (dirtyD D).take k
  · rw [ha.1 hm] at hj
    exact mendL_rows h ks k r (List.mem_of_getElem? hj)
  · rw [(ha.2 hm).1] at hj
    exact h.now r (List.mem_of_getElem? hj)
theorem mendN_succ {D : Dk} (ks : List Int) {k i : Nat} (hi : (dirtyD D)[k]? = some i) (h1 : i < D.now.length) (h2 : i < (mendL D ks k).length) :
    mendN D ks (k + 1) = (mendN D ks k).set i ((D.now[i]).take (keepN ks k) ++ ((mendL D ks k)[i]).drop (keepN ks k)) := by
  conv => lhs; unfold mendN
  simp [hi, h1, h2]
theorem mendL_succ2 {D : Dk} (ks : List Int) {k i : Nat} (hi : (dirtyD D)[k]? = some i) (h1 : i < D.now.length) (h2 : i < (mendL D ks k).length) :
    mendL D ks (k + 1) = (mendL D ks k).set i ((D.now[i]).take (keepN ks k) ++ ((mendL D ks k)[i]).drop (keepN ks k)) := by
  conv => lhs; unfold mendL
  simp [hi, h1, h2]

theorem sv_get {l : List (List UInt8)} {k : Nat} (h : k < l.length) (sp : List Value) : (l.map sv ++ sp)[0 + k * 1]? = some (sv l[k]) := by
  rw [Nat.zero_add, Nat.mul_one, List.getElem?_append_left (by simpa using h), List.getElem?_map, List.getElem?_eq_getElem h]; rfl
theorem sv_set {l : List (List UInt8)} {k : Nat} (h : k < l.length) (r : List UInt8) (sp : List Value) : (l.map sv ++ sp).set (0 + k * 1) (sv r) = (l.set k r).map sv ++ sp := by
  rw [Nat.zero_add, Nat.mul_one, List.set_append_left _ _ (by simpa using h), List.map_set]
end Go.Proofs.Ytikdpkhcegjmfaa

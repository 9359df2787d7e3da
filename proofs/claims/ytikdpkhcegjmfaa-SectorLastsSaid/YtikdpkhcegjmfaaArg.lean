/- Slices that are handed in: what is read of them. -/
import Derived.Test.YtikdpkhcegjmfaaLaw
import Derived.Test.YtikdpkhcegjmfaaW16
import Derived.Deep.Slices
namespace Go.Proofs.Ytikdpkhcegjmfaa
open Go.ChangeShapes Go.WideShapes Go.ChangeAt Go.RowKit Go.Joins

theorem flat_get {f : Nat → List Value} {m : Nat} : ∀ (len j : Nat) (v : Value), (∀ i, i < len → (f i).length = m) → ((List.range len).flatMap f)[j]? = some v → ∃ i r, i < len ∧ r < m ∧ j = i * m + r ∧ (f i)[r]? = some v
  | 0, j, v, _, h => by simp at h
  | len + 1, j, v, hl, h => by
    have hlen : ∀ l, l ≤ len + 1 → ((List.range l).flatMap f).length = l * m := by
      intro l
      induction l with
      | zero => intro _; simp
      | succ l ih => intro hle; rw [List.range_succ, List.flatMap_append, List.length_append, ih (by omega), List.flatMap_cons, List.flatMap_nil, List.append_nil, hl l (by omega), Nat.add_mul, Nat.one_mul]
    rw [List.range_succ, List.flatMap_append] at h
    by_cases hj : j < len * m
    · rw [List.getElem?_append_left (by rw [hlen len (by omega)]; exact hj)] at h
      obtain ⟨i, r, h1, h2, h3, h4⟩ := flat_get len j v (fun i hi => hl i (by omega)) h
      exact ⟨i, r, by omega, h2, h3, h4⟩
    · rw [List.getElem?_append_right (by rw [hlen len (by omega)]; omega), hlen len (by omega), List.flatMap_cons, List.flatMap_nil, List.append_nil] at h
      have hr : j - len * m < (f len).length := (List.getElem?_eq_some_iff.1 h).1
      rw [hl len (by omega)] at hr
      exact ⟨len, j - len * m, by omega, hr, by omega, h⟩
theorem cell_lt {w : World} {a : Addr} {v : Value} (h : w.cell? a = some v) : a.block < w.heap.size ∧ a.spot = none := by
  unfold World.cell? at h
  split at h
  · rename_i c t x hb
    refine ⟨heap_lt hb, ?_⟩
    split at h
    · cases h
    · rename_i hs
      simpa using hs
  · cases h
theorem Rd.of_cells {w : World} {a : Addr} {len m : Nat} {f : Nat → List Value} (hm : 0 < m) (h : ∀ i, i < len → w.cells? 0 (a.add (i * m)) m = some (f i)) : Rd w.heap.size w (some a) ((List.range len).flatMap f) := fun j v hj => by
  obtain ⟨i, r, hi, hr, rfl, hv⟩ := flat_get len j v (fun i hi => (World.cells?_some (h i hi)).2.1) hj
  have hc := (World.cells?_some (h i hi)).2.2 r hr
  rw [hv, Deep.add_add] at hc
  have h0 := (World.cells?_some (h 0 (by omega))).2
  have hs : a.spot = Option.none := by
    have h1 := h0.2 0 hm
    rw [List.getElem?_eq_getElem (by omega), Nat.zero_mul] at h1
    have := (cell_lt h1).2
    simpa [Addr.add] using this
  obtain ⟨g, b, sp⟩ := a
  simp only at hs
  subst hs
  rw [Addr.add_mid] at hc
  exact ⟨g, b, rfl, (cell_lt hc).1, hc⟩
theorem Rd.empty (N : Nat) (w : World) (A : Option Addr) : Rd N w A [] := fun j v h => by simp at h
theorem slice_val {P : Program} {w : World} {base t e : Nat} {v : Value} {A : Option Addr} {l c : Nat} (ht : P.underlying t = some (.slice e)) (hv : Value.okWide P w .any base t v) (h : v.cells.toList = [.slice A l c]) : v = .slice A l c := by
  unfold Value.okWide at hv
  rw [ht] at hv
  cases v <;> first | (simp [Value.cells] at h; done) | (simpa [Value.cells] using h) | (simp [Cell.okWide, ht, Cell.ok] at hv; done)
theorem maxLen_le {l : Nat} (h : l ≤ maxLen) : l ≤ 9223372036854775807 := by unfold maxLen at h; omega

section
variable {H : Type} {enc : TypeId × Value → H} {W : World}
theorem trod_at {P : Program} {t fuel : Nat} {cs : List Value} {x : DataW H × List MemPlace} {fs : Array Field} (ht : P.underlying t = some (.struct fs)) (h : DataW.trod enc P W 0 (fun _ => true) true fuel t cs = some x) (i : Nat) {f : Field} (hf : fs[i]? = some f) {m : Nat} (hm : P.cellsOf f.type = m) :
    ∃ n y, DataW.trod enc P W 0 (fun _ => true) true n f.type ((cs.drop f.offset).take m) = some y := by
  obtain ⟨xs, n, _, _, _, hl, hall⟩ := DataW.trod_struct ht h
  have hi : i < fs.size := by
    rcases Nat.lt_or_ge i fs.size with h | h
    · exact h
    · rw [Array.getElem?_eq_none h] at hf; cases hf
  have := hall i f hf
  rw [hm, List.getElem?_eq_getElem (by omega)] at this
  exact ⟨n, _, this⟩

theorem cells_int : Try.prog.cellsOf 3 = 1 := by kernel_rfl
theorem cells_string : Try.prog.cellsOf 9 = 1 := by kernel_rfl
/-- A []int. -/
theorem open_intsR {fuel : Nat} {cs : List Value} {x : DataW H × List MemPlace} (h : DataW.trod enc Try.prog W 0 (fun _ => true) true fuel 73 cs = some x) :
    ∃ (K : Option Addr) (ks : List Int) (kc : Nat), cs = [.slice K ks.length kc] ∧ Rd W.heap.size W K (ks.map intV) ∧ ks.length ≤ 9223372036854775807 := by
  rcases Deep.open_slice Try.underlying73 h with ⟨rfl, _⟩ | ⟨a, len, cap, m, n, D, Pl, rfl, _, hlc, hcm, hm, _, hall⟩
  · exact ⟨none, [], 0, rfl, Rd.empty _ _ _, by simp⟩
  · simp only [if_true] at hm
    subst hm
    rw [cells_int] at hall
    have hq : ∀ i, i < len → ∃ q : Int, W.cells? 0 (a.add (i * 1)) 1 = some [intV q] := fun i hi => by
      obtain ⟨cs', h1, h2⟩ := hall i (by omega)
      obtain ⟨q, e, _, _⟩ := DataW.trod_int Try.underlying3 h2
      exact ⟨q, by rw [h1, e]⟩
    obtain ⟨q, hq⟩ := Deep.choose_lt hq
    refine ⟨some a, (List.range len).map q, m, by simp, ?_, by simpa using maxLen_le (Nat.le_trans hlc hcm)⟩
    have := Rd.of_cells (f := fun i => [intV (q i)]) (by decide) hq
    rw [List.map_map]
    have e : (List.range len).flatMap (fun i => [intV (q i)]) = (List.range len).map (intV ∘ q) := by rw [List.flatMap_def]; induction (List.range len) with | nil => rfl | cons x xs ih => simp [ih]
    rw [← e]
    exact this
theorem open_intR {fuel : Nat} {cs : List Value} {x : DataW H × List MemPlace} (h : DataW.trod enc Try.prog W 0 (fun _ => true) true fuel 3 cs = some x) : ∃ q : Int, cs = [.int .i64 q] ∧ -9223372036854775808 ≤ q ∧ q ≤ 9223372036854775807 := by
  obtain ⟨q, e, _, w0⟩ := DataW.trod_int Try.underlying3 h
  have := wf_bd_i64 w0
  exact ⟨q, e, this.1, this.2⟩
theorem open_strR {fuel : Nat} {cs : List Value} {x : DataW H × List MemPlace} (h : DataW.trod enc Try.prog W 0 (fun _ => true) true fuel 9 cs = some x) : ∃ l : List UInt8, cs = [sv l] ∧ l.length ≤ 9223372036854775807 := by
  obtain ⟨s0, e, _, hs⟩ := DataW.trod_string Try.underlying9 h
  obtain ⟨l, rfl⟩ := str_list s0
  exact ⟨l, e, maxLen_le (by simpa [ByteArray.size] using hs)⟩
end
end Go.Proofs.Ytikdpkhcegjmfaa

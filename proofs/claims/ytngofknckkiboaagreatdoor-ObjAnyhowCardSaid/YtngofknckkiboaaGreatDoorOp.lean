/- How arguments that are handed in are opened: for every type the lemmas that the generator prints build on these. -/
import Derived.Test.YtngofknckkiboaaGreatDoorLaw
import Derived.Test.YtngofknckkiboaaGreatDoorSe
import Derived.OpenShut
set_option linter.unusedVariables false
set_option linter.unusedSimpArgs false
namespace Go.Proofs.YtngofknckkiboaaGreatDoor
open Go.ChangeShapes Go.WideShapes Go.ChangeAt Go.RowKit Go.Joins

theorem fl_get {f : Nat → List Value} {m : Nat} : ∀ (len j : Nat) (v : Value), (∀ i, i < len → (f i).length = m) → ((List.range len).flatMap f)[j]? = some v → ∃ i r, i < len ∧ r < m ∧ j = i * m + r ∧ (f i)[r]? = some v
  | 0, j, v, _, h => by simp at h
  | len + 1, j, v, hl, h => by
    rw [List.range_succ, List.flatMap_append, List.getElem?_append] at h
    have hlen : ((List.range len).flatMap f).length = len * m := by
      clear h
      have : ∀ n, n ≤ len → ((List.range n).flatMap f).length = n * m := by
        intro n
        induction n with
        | zero => intro _; simp
        | succ n ih => intro hn; rw [List.range_succ, List.flatMap_append, List.length_append, ih (by omega)]; simp [hl n (by omega), Nat.add_mul]
      exact this len (Nat.le_refl _)
    split at h
    · obtain ⟨i, r, hi, hr, e, hv⟩ := fl_get len j v (fun i hi => hl i (by omega)) h
      exact ⟨i, r, by omega, hr, e, hv⟩
    · rename_i hge
      rw [hlen] at h hge
      simp only [List.flatMap_cons, List.flatMap_nil, List.append_nil] at h
      refine ⟨len, j - len * m, by omega, ?_, by omega, h⟩
      have := (List.getElem?_eq_some_iff.1 h).1
      rw [hl len (by omega)] at this
      exact this
theorem cell_lt' {w : World} {a : Addr} {v : Value} (h : w.cell? a = some v) : a.block < w.heap.size ∧ a.spot = none := by
  unfold World.cell? at h
  split at h
  · rename_i c t x hb
    refine ⟨heap_lt hb, ?_⟩
    split at h
    · cases h
    · rename_i hs
      simpa using hs
  · cases h
theorem Rdx.of_cells {w : World} {a : Addr} {len m : Nat} {f : Nat → List Value} (hm : 0 < m) (h : ∀ i, i < len → w.cells? 0 (a.add (i * m)) m = some (f i)) : Rdx [] w (some a) ((List.range len).flatMap f) := fun j v hj => by
  obtain ⟨i, r, hi, hr, rfl, hv⟩ := fl_get len j v (fun i hi => (World.cells?_some (h i hi)).2.1) hj
  have hc := (World.cells?_some (h i hi)).2.2 r hr
  rw [hv, Deep.add_add] at hc
  have h0 := (World.cells?_some (h 0 (by omega))).2
  have hs : a.spot = Option.none := by
    have h1 := h0.2 0 hm
    rw [List.getElem?_eq_getElem (by omega), Nat.zero_mul] at h1
    have := (cell_lt' h1).2
    simpa [Addr.add] using this
  obtain ⟨g, b, sp⟩ := a
  simp only at hs
  subst hs
  rw [Addr.add_mid] at hc
  exact ⟨g, b, rfl, by simp, hc⟩
theorem agg_val {P : Program} {w : World} {base t : Nat} {v : Value} {cs : List Value} (ht : aggSize P t ≠ Option.none) (hv : Value.okWide P w .any base t v) (h : v.cells.toList = cs) : v = .agg cs.toArray := by
  unfold aggSize at ht
  unfold Value.okWide at hv
  split at hv
  · obtain ⟨c, rfl, _⟩ := hv; rw [← h]; rfl
  · obtain ⟨c, rfl, _⟩ := hv; rw [← h]; rfl
  · rename_i h1 h2
    exfalso
    cases hu : P.underlying t with
    | none => simp [hu] at ht
    | some d => cases d <;> first | (exact h1 _ hu) | (exact h2 _ _ hu) | (simp [hu] at ht; done)
theorem sl_val {P : Program} {w : World} {base t e : Nat} {v : Value} {A : Option Addr} {l c : Nat} (ht : P.underlying t = some (.slice e)) (hv : Value.okWide P w .any base t v) (h : v.cells.toList = [.slice A l c]) : v = .slice A l c := by
  unfold Value.okWide at hv
  rw [ht] at hv
  cases v <;> first | (simp [Value.cells] at h; done) | (simpa [Value.cells] using h) | (simp [Cell.okWide, ht, Cell.ok] at hv; done)
theorem str_val {P : Program} {w : World} {base t : Nat} {v : Value} {s : List UInt8} (ht : P.underlying t = some .string) (hv : Value.okWide P w .any base t v) (h : v.cells.toList = [sv s]) : v = sv s := by
  unfold Value.okWide at hv
  rw [ht] at hv
  cases v <;> first | (simp [Value.cells] at h; done) | (simpa [Value.cells] using h) | (simp [Cell.okWide, ht, Cell.ok] at hv; done)
theorem int_val {P : Program} {w : World} {base t : Nat} {k : IntKind} {v : Value} {q : Int} (ht : P.underlying t = some (.int k)) (hv : Value.okWide P w .any base t v) (h : v.cells.toList = [.int k q]) : v = .int k q := by
  unfold Value.okWide at hv
  rw [ht] at hv
  cases v <;> first | (simp [Value.cells] at h; done) | (simpa [Value.cells] using h) | (simp [Cell.okWide, ht, Cell.ok] at hv; done)
theorem bool_val {P : Program} {w : World} {base t : Nat} {v : Value} {q : Bool} (ht : P.underlying t = some .bool) (hv : Value.okWide P w .any base t v) (h : v.cells.toList = [.bool q]) : v = .bool q := by
  unfold Value.okWide at hv
  rw [ht] at hv
  cases v <;> first | (simp [Value.cells] at h; done) | (simpa [Value.cells] using h) | (simp [Cell.okWide, ht, Cell.ok] at hv; done)

theorem mlen_le {l : Nat} (h : l ≤ maxLen) : l ≤ 9223372036854775807 := by unfold maxLen at h; omega
section
variable {H : Type} {enc : TypeId × Value → H} {W : World}
theorem trod_fld {P : Program} {t fuel : Nat} {cs : List Value} {x : DataW H × List MemPlace} {fs : Array Field} (ht : P.underlying t = some (.struct fs)) (h : DataW.trod enc P W 0 (fun _ => true) true fuel t cs = some x) (i : Nat) {f : Field} (hf : fs[i]? = some f) {m : Nat} (hm : P.cellsOf f.type = m) :
    ∃ n y, DataW.trod enc P W 0 (fun _ => true) true n f.type ((cs.drop f.offset).take m) = some y := by
  obtain ⟨xs, n, _, _, _, hl, hall⟩ := DataW.trod_struct ht h
  have hi : i < fs.size := by
    rcases Nat.lt_or_ge i fs.size with h | h
    · exact h
    · rw [Array.getElem?_eq_none h] at hf; cases hf
  have := hall i f hf
  rw [hm, List.getElem?_eq_getElem (by omega)] at this
  exact ⟨n, _, this⟩
theorem trod_len {P : Program} {t fuel m : Nat} {cs : List Value} {x : DataW H × List MemPlace} {fs : Array Field} (ht : P.underlying t = some (.struct fs)) (hm : P.cellsOf t = m) (h : DataW.trod enc P W 0 (fun _ => true) true fuel t cs = some x) : cs.length = m := by
  obtain ⟨xs, n, _, _, h1, _⟩ := DataW.trod_struct ht h
  rw [← hm]; exact h1
/-- An array's element of one cell. -/
theorem trod_el {P : Program} {t fuel n e : Nat} {cs : List Value} {x : DataW H × List MemPlace} (ht : P.underlying t = some (.array n e)) (h : DataW.trod enc P W 0 (fun _ => true) true fuel t cs = some x) (hm : P.cellsOf e = 1) (i : Nat) (hi : i < n) : ∃ k y, DataW.trod enc P W 0 (fun _ => true) true k e ((cs.drop i).take 1) = some y := by
  obtain ⟨xs, k, _, _, _, hl, hall⟩ := DataW.trod_array ht h
  have := hall i hi
  rw [hm, Nat.mul_one, List.getElem?_eq_getElem (by omega)] at this
  exact ⟨k, _, this⟩
theorem trod_lenA {P : Program} {t fuel m n e : Nat} {cs : List Value} {x : DataW H × List MemPlace} (ht : P.underlying t = some (.array n e)) (hm : P.cellsOf t = m) (h : DataW.trod enc P W 0 (fun _ => true) true fuel t cs = some x) : cs.length = m := by
  obtain ⟨xs, k, _, _, h1, _⟩ := DataW.trod_array ht h
  rw [← hm]; exact h1
/-- A slice of elements that are opened one by one. -/
theorem open_sl {α : Type} [Inhabited α] {P : Program} {t e m fuel : Nat} {ec : α → List Value} {wf : α → Prop} {cs : List Value} {x : DataW H × List MemPlace} (ht : P.underlying t = some (.slice e)) (hm : P.cellsOf e = m) (hm0 : 0 < m) (hec : ∀ x, (ec x).length = m)
    (ho : ∀ fuel cs x, DataW.trod enc P W 0 (fun _ => true) true fuel e cs = some x → ∃ a : α, cs = ec a ∧ wf a)
    (h : DataW.trod enc P W 0 (fun _ => true) true fuel t cs = some x) :
    ∃ (A : Option Addr) (l : List α) (c : Nat), cs = [.slice A l.length c] ∧ Sld [] W A l.length c m (l.flatMap ec) ∧ (∀ a ∈ l, wf a) := by
  rcases Deep.open_slice ht h with ⟨rfl, _⟩ | ⟨a, len, cap, mm, n, D, Pl, rfl, _, hlc, hcm, hmm, _, hall⟩
  · exact ⟨none, [], 0, rfl, ⟨Rdx.nil, by simp, Nat.le_refl _, Nat.zero_le _⟩, by simp⟩
  · simp only [if_true] at hmm
    subst hmm
    rw [hm] at hall
    have hq : ∀ i, i < len → ∃ o : α, W.cells? 0 (a.add (i * m)) m = some (ec o) ∧ wf o := fun i hi => by
      obtain ⟨cs', h1, h2⟩ := hall i (by omega)
      obtain ⟨o, e, ho⟩ := ho _ _ _ h2
      exact ⟨o, by rw [h1, e], ho⟩
    obtain ⟨q, hq⟩ := Deep.choose_lt hq
    refine ⟨some a, (List.range len).map q, mm, by simp, ⟨?_, by rw [fl_len hec], by simpa using hlc, hcm⟩, ?_⟩
    · have := Rdx.of_cells (f := fun i => ec (q i)) hm0 (fun i hi => (hq i hi).1)
      rw [List.flatMap_map]
      exact this
    · intro o ho
      obtain ⟨i, hi, rfl⟩ := List.mem_map.1 ho
      exact (hq i (List.mem_range.1 hi)).2
end
end Go.Proofs.YtngofknckkiboaaGreatDoor

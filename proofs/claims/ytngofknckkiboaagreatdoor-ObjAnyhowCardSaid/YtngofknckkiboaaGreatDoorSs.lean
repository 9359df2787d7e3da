/- slices.SortFunc at structs, over the shelf's contract: an own row that is sorted in place. -/
import Derived.Test.YtngofknckkiboaaGreatDoorSr
import Derived.Shelf.SlSortCmp.NoneTotal
set_option linter.unusedVariables false
set_option linter.unusedSimpArgs false
namespace Go.Proofs.YtngofknckkiboaaGreatDoor
open Go.RowKit Go.Shelf Go.Lib Go.Sort

theorem fl_at {α : Type} [Inhabited α] {enc : α → List Value} {k : Nat} (hk : ∀ x, (enc x).length = k) (hk0 : 0 < k) : ∀ (l : List α) (t : Nat), t < l.length * k → (l.flatMap enc)[t]? = (enc (l[t / k]?.getD default))[t % k]?
  | [], t, h => by simp at h
  | a :: l, t, h => by
    rw [List.flatMap_cons]
    by_cases ht : t < k
    · rw [List.getElem?_append_left (by rw [hk]; exact ht), Nat.div_eq_of_lt ht, Nat.mod_eq_of_lt ht]
      rfl
    · have hs : t = (t - k) + k := by omega
      have hd : t / k = (t - k) / k + 1 := by
        have := Nat.add_div_right (t - k) hk0
        rw [← hs] at this; exact this
      have hm : t % k = (t - k) % k := by
        have := Nat.add_mod_right (t - k) k
        rw [← hs] at this; exact this
      rw [List.getElem?_append_right (by rw [hk]; omega), hk, fl_at hk hk0 l (t - k) (by rw [List.length_cons, Nat.add_mul, Nat.one_mul] at h; omega), hd, hm]
      rfl
theorem flatK_list {α : Type} [Inhabited α] {enc : α → List Value} {k : Nat} (hk : ∀ x, (enc x).length = k) (hk0 : 0 < k) (l : List α) : (flatK enc k l.toArray).toList = l.flatMap enc := by
  apply List.ext_getElem?
  intro t
  by_cases ht : t < l.length * k
  · rw [fl_at hk hk0 l t ht]
    have h1 : t < (flatK enc k l.toArray).size := by simpa using ht
    have h2 := get_flatK enc k l.toArray t (by simpa using ht)
    rw [getElem!_pos _ t h1] at h2
    rw [Array.getElem?_toList, Array.getElem?_eq_getElem h1, h2]
    have hl : t / k < l.length := Nat.div_lt_of_lt_mul (by rw [Nat.mul_comm]; exact ht)
    have e1 : l.toArray[t / k]! = (l[t / k]?.getD default) := by
      rw [getElem!_pos _ _ (by simpa using hl)]
      simp [List.getElem?_eq_getElem hl]
    rw [e1]
    have hmod : t % k < (enc (l[t / k]?.getD default)).length := by rw [hk]; exact Nat.mod_lt _ hk0
    rw [List.getElem?_eq_getElem hmod, getElem!_pos (enc (l[t / k]?.getD default)) (t % k) hmod]
  · rw [List.getElem?_eq_none (by simp; omega), List.getElem?_eq_none (by rw [fl_len hk]; omega)]
/-- What a sort leaves of a row. -/
theorem putRow_heap {w : World} {g e : Nat} {xs ys sp : List Value} (h : w.heap[g]? = some (Cl (xs ++ sp) e)) (hl : ys.length = xs.length) : (putRow id w g 0 ys.toArray).heap[g]? = some (Cl (ys ++ sp) e) ∧ ∀ k, k ≠ g → (putRow id w g 0 ys.toArray).heap[k]? = w.heap[k]? := by
  constructor
  · show (w.heap.modify g _)[g]? = _
    rw [Array.getElem?_modify, if_pos rfl, h]
    show some (Obj.cells (putCells id 0 ys.toArray (xs ++ sp).toArray) e (0, 0)) = _
    congr 2
    apply Array.ext_getElem?
    intro j
    unfold putCells
    rw [Array.getElem?_mapIdx]
    by_cases hj : j < ys.length
    · have h1 : j < (xs ++ sp).length := by rw [List.length_append]; omega
      rw [show (xs ++ sp).toArray[j]? = some ((xs ++ sp)[j]) from by simp [h1]]
      simp only [Option.map_some, Nat.zero_le, Nat.zero_add, true_and, List.size_toArray, hj, if_true, Nat.sub_zero, id]
      rw [getElem!_pos _ _ (by simpa using hj)]
      simp [List.getElem?_append_left hj, hj]
    · cases hq : (xs ++ sp).toArray[j]? with
      | none =>
        have : (xs ++ sp).length ≤ j := by simpa using hq
        simp only [Option.map_none]
        symm
        rw [List.getElem?_toArray, List.getElem?_eq_none (by rw [List.length_append] at *; omega)]
      | some x =>
        simp only [Option.map_some, Nat.zero_le, Nat.zero_add, true_and, List.size_toArray, hj, if_false]
        rw [← hq]
        simp only [List.getElem?_toArray]
        rw [List.getElem?_append_right (by omega), List.getElem?_append_right (by omega), hl]
  · intro k hk
    show (w.heap.modify g _)[k]? = _
    rw [Array.getElem?_modify, if_neg (fun e => hk e.symm)]
theorem sortWorld_fr {α : Type} [Inhabited α] {enc : α → List Value} {k : Nat} (hk : ∀ x, (enc x).length = k) (hk0 : 0 < k) {w : World} {g e : Nat} {xs : List α} {sp : List Value} (h : w.heap[g]? = some (Cl (xs.flatMap enc ++ sp) e)) (m : Nat) (ys : List α) (hl : ys.length = xs.length) (os : Array Obj) :
    Fr [g] w (sortWorldK enc k w g 0 m ys.toArray os) ∧ (sortWorldK enc k w g 0 m ys.toArray os).heap[g]? = some (Cl (ys.flatMap enc ++ sp) e) := by
  have hF : (flatK enc k ys.toArray) = (ys.flatMap enc).toArray := by
    have := flatK_list hk hk0 ys
    rw [← this]
  have hp := putRow_heap (w := Sort.ahead w m) (ys := ys.flatMap enc) (show (Sort.ahead w m).heap[g]? = some (Cl (xs.flatMap enc ++ sp) e) from h) (by rw [fl_len hk, fl_len hk, hl])
  have hsz : (putRow id (Sort.ahead w m) g 0 (ys.flatMap enc).toArray).heap.size = w.heap.size := by rw [size_putRow]; rfl
  have hg : g < w.heap.size := heap_lt h
  unfold sortWorldK putRowK
  rw [hF]
  have happ : ∀ j, j < w.heap.size → (grow (putRow id (Sort.ahead w m) g 0 (ys.flatMap enc).toArray) os).heap[j]? = (putRow id (Sort.ahead w m) g 0 (ys.flatMap enc).toArray).heap[j]? := fun j hj => by
    show (_ ++ os)[j]? = _
    rw [Array.getElem?_append_left (by rw [hsz]; exact hj)]
  refine ⟨⟨rfl, rfl, rfl, ?_, fun j hj hn => ?_, ?_⟩, ?_⟩
  · show _ ≤ (_ ++ os).size
    rw [Array.size_append, hsz]; omega
  · rw [happ j hj]
    exact hp.2 j (by simpa using hn)
  · show w.drawn ≤ w.drawn + m
    omega
  · rw [happ g hg]; exact hp.1
/-- A world behind a step that changed nothing that was there. -/
theorem grow_of_fr {w w' : World} (h : Fr [] w w') : ∃ q os, w' = grow (w.drewN q) os := by
  refine ⟨w'.drawn - w.drawn, w'.heap.extract w.heap.size w'.heap.size, ?_⟩
  have hd := h.drawn
  have hh : w'.heap = w.heap ++ w'.heap.extract w.heap.size w'.heap.size := by
    apply Array.ext_getElem?
    intro j
    by_cases hj : j < w.heap.size
    · rw [Array.getElem?_append_left hj]; exact h.block j hj (by simp)
    · rw [Array.getElem?_append_right (by omega), Array.getElem?_extract]
      by_cases hj2 : j < w'.heap.size
      · rw [if_pos (by omega)]; congr 1; omega
      · rw [if_neg (by omega), Array.getElem?_eq_none (by omega)]
  obtain ⟨h1, t1, d1, o1, p1⟩ := w'
  have a1 := h.os; have a2 := h.tape; have a3 := h.output
  simp only at a1 a2 a3 hh hd ⊢
  unfold grow World.drewN
  simp only
  rw [a1, a2, a3, show w.drawn + (d1 - w.drawn) = d1 by omega]
  rw [← hh]
def sortF {α : Type} (cf : α → α → Int) (s : List α) : List α := s.mergeSort (fun x y => !(ltOf cf) y x)
theorem sortF_len {α : Type} (cf : α → α → Int) (s : List α) : (sortF cf s).length = s.length := List.length_mergeSort _
theorem cl_cell {w : World} {g e : Nat} {cs : List Value} (h : w.heap[g]? = some (Cl cs e)) {j : Nat} (hj : j < cs.length) : w.cell? ⟨g, j, none⟩ = some cs[j] ∧ w.frozen? ⟨g, j, none⟩ = false := by
  constructor
  · unfold World.cell?
    simp only [h]
    simp [hj]
  · unfold World.frozen?
    simp only [h]
    simp
theorem sortFn {α : Type} [Inhabited α] {P : Program} {ρ : Ren} {enc : α → List Value} {k e : Nat} (L : SlLaysF0.n6 P ρ) (aE : ∀ w, (isAgg (ρ.t 24)).run P w = .ok true w) (zE : ∀ w, (Go.sizeOf (ρ.t 24)).run P w = .ok k w) (hk : ∀ x, (enc x).length = k) (hk0 : 0 < k) (h1 : ∀ x, ∀ v ∈ enc x, v.oneCell' = true)
    {cf : α → α → Int} (hO : SWO (ltOf cf)) (hT : ∀ x y, (ltOf cf) x y = false → (ltOf cf) y x = false → x = y) {g : Nat} {cb : List Value} (eg : ∀ args w, (callFunc g args).run P w = .ok (.enter g args) w) (he : entersB P (ρ.f 6) = true)
    (X : List Nat) (w : World) (s : List α) (hs62 : s.length < 4611686018427387904) (A : Option Addr) (c : Nat) (sp : List Value) (hs : St X w [(blkOf A, Cl (s.flatMap enc ++ sp) e)] []) (how : Ow A s.length c k (s.flatMap enc) sp)
    (hcmp : ∀ (w1 : World) (x y : α), Fr (keys [(blkOf A, Cl (s.flatMap enc ++ sp) e)]) w w1 → Fn P g ([.agg (enc x).toArray, .agg (enc y).toArray] ++ cb) w1 fun v w2 => v = .int .i64 (cf x y) ∧ Fr [] w1 w2) :
    Fn P (ρ.f 6) [.slice A s.length c, .func (.func g) #[] cb.toArray] w fun v w' => v = .tuple #[] ∧ Ow A s.length c k ((sortF cf s).flatMap enc) sp ∧ (sortF cf s).length = s.length ∧ St X w' [(blkOf A, Cl ((sortF cf s).flatMap enc ++ sp) e)] [] ∧ Fr (keys [(blkOf A, Cl (s.flatMap enc ++ sp) e)]) w w' := by
  rcases how.2 with ⟨rfl, h2, h3, h4⟩ | ⟨g0, rfl, h3, h4, h5⟩
  · have hs0 : s = [] := List.eq_nil_of_length_eq_zero h2
    subst hs0
    refine ⟨he, (AnyF.slices_SortFunc_none L none c (.func (.func g) #[] cb.toArray) w).mono ?_⟩
    rintro e1 w' ⟨rfl, rfl⟩
    have hsn : sortF cf ([] : List α) = [] := List.eq_nil_of_length_eq_zero (sortF_len cf [])
    rw [hsn]
    exact ⟨_, rfl, rfl, how, rfl, hs, Fr.refl _ _⟩
  · have hb : w.heap[g0]? = some (Cl (s.flatMap enc ++ sp) e) := hs.hp.at (i := 0) rfl
    have hkeys : keys [(blkOf (some ⟨g0, 0, none⟩), Cl (s.flatMap enc ++ sp) e)] = [g0] := rfl
    have hlen := fl_len hk s
    have hH : HoldsK enc k w g0 0 s.toArray := by
      intro j hj
      have hj2 : j < (s.flatMap enc).length := by rw [hlen]; simpa using hj
      have hc := cl_cell hb (j := j) (by rw [List.length_append]; omega)
      rw [Nat.zero_add]
      refine ⟨?_, hc.2⟩
      rw [hc.1, List.getElem_append_left hj2]
      have : (flatK enc k s.toArray) = (s.flatMap enc).toArray := by rw [← flatK_list hk hk0 s]
      simp only [this, id]
      rw [getElem!_pos _ _ (by simpa using hj2)]
      simp
    have hl : CmpLays P g cb.toArray enc k cf g0 0 s.toArray.size w := by
      intro m os dk hdk x y
      have hdk2 : dk = dk.toList.toArray := by simp
      rw [hdk2]
      have hf := (sortWorld_fr hk hk0 hb m dk.toList (by simpa using hdk) os).1
      have hc := (hcmp _ x y (by rw [hkeys]; exact hf)).2
      have e1 : ([.agg (enc x).toArray, .agg (enc y).toArray] ++ cb : List Value).toArray = #[.agg (enc x).toArray, .agg (enc y).toArray] ++ cb.toArray := by simp
      rw [e1] at hc
      refine hc.mono ?_
      rintro e2 w2 ⟨v, rfl, rfl, hf2⟩
      exact ⟨rfl, grow_of_fr hf2⟩
    have hc := AnyQ.slices_SortFunc_total L k aE zE enc hk h1 cf hO g cb.toArray g0 0 c s.toArray w eg hl hH (heap_lt hb) (by simpa using hs62) hT
    refine ⟨he, ?_⟩
    have e0 : ([.slice (some ⟨g0, 0, none⟩) s.length c, .func (.func g) #[] cb.toArray] : List Value).toArray = #[.slice (some ⟨g0, 0, none⟩) s.toArray.size c, .func (.func g) #[] cb.toArray] := by simp
    rw [e0]
    refine hc.mono ?_
    rintro e2 w' ⟨rfl, n, os, rfl⟩
    have hw := sortWorld_fr hk hk0 hb n (sortF cf s) (sortF_len cf s) os
    refine ⟨_, rfl, rfl, ?_, sortF_len cf s, ?_, hw.1⟩
    · refine ⟨by rw [fl_len hk, sortF_len], .inr ⟨g0, rfl, ?_, h4, h5⟩⟩
      rw [← h3, List.length_append, List.length_append, fl_len hk, fl_len hk, sortF_len]
    · exact hs.set (i := 0) rfl (hs.hp.setAt (i := 0) rfl hw.1 hw.2) hw.1
theorem agg_run {P : Program} {t k : Nat} (h : aggSize P t = some k) (w : World) : (isAgg t).run P w = .ok true w := by
  unfold aggSize at h
  cases hu : P.underlying t with
  | none => simp [hu] at h
  | some d =>
    unfold isAgg
    simp only [Sem.run_bind, run_underlying hu, Result.andThen_ok]
    cases d <;> simp [hu] at h <;> rfl
theorem enters_run {P : Program} {f : FuncId} (h : entersB P f = true) (args : Array Value) (w : World) : (callFunc f args).run P w = .ok (.enter f args) w := by
  unfold entersB at h
  cases hq : P.funcs[f]? with
  | none => simp [hq] at h
  | some fn =>
    simp only [hq, Bool.and_eq_true] at h
    obtain ⟨h1, h2⟩ := h
    cases hb : fn.body with
    | none => simp [hb] at h2
    | some c =>
      have h4 : ¬ fn.name = "runtime.NumGoroutine" := by simpa using h1
      simp [callFunc, hq, hb, h4]
theorem putRow_id {α : Type} [Inhabited α] (enc : α → Value) (w : World) (b : Nat) (d : List α) : putRow enc w b 0 d.toArray = putRow id w b 0 (d.map enc).toArray := by
  unfold putRow
  congr 1
  funext c
  unfold putCells
  apply Array.ext_getElem?
  intro j
  rw [Array.getElem?_mapIdx, Array.getElem?_mapIdx]
  cases c[j]? with
  | none => rfl
  | some x =>
    simp only [Option.map_some, List.size_toArray, List.length_map, Nat.zero_add, Nat.sub_zero]
    by_cases h : 0 ≤ j ∧ j < d.length
    · rw [if_pos h, if_pos h, getElem!_pos _ _ (by simpa using h.2), getElem!_pos _ _ (by simpa using h.2)]
      simp
    · rw [if_neg h, if_neg h]
theorem flat_sv (l : List (List UInt8)) : l.flatMap (fun x => [sv x]) = l.map sv := by induction l <;> simp_all
def sortS (s : List (List UInt8)) : List (List UInt8) := s.mergeSort fun x y => decide (x ≤ y)
theorem sortS_len (s : List (List UInt8)) : (sortS s).length = s.length := List.length_mergeSort _
/-- slices.Sort at strings: an own row that is sorted in place. -/
theorem sortStrFn {P : Program} {f e : Nat} (he : entersB P f = true)
    (hC : ∀ (blk cap : Nat) (ss : List (List UInt8)) (w : World), Holds encStr w blk 0 ss.toArray → blk < w.heap.size → ss.length < 4611686018427387904 → Calls P f #[.slice (some ⟨blk, 0, none⟩) ss.length cap] w fun e w' => e = .returned (.tuple #[]) ∧ ∃ n os, w' = grow (putRow encStr (Sort.ahead w n) blk 0 (ss.mergeSort fun x y => decide (x ≤ y)).toArray) os)
    (hN : ∀ (p : Option Addr) (cap : Nat) (w : World), Calls P f #[.slice p 0 cap] w fun e w' => e = .returned (.tuple #[]) ∧ w' = w)
    (X : List Nat) (w : World) (s : List (List UInt8)) (A : Option Addr) (c : Nat) (sp : List Value) (hs : St X w [(blkOf A, Cl (s.flatMap (fun x => [sv x]) ++ sp) e)] []) (how : Ow A s.length c 1 (s.flatMap (fun x => [sv x])) sp) (hs62 : s.length < 4611686018427387904) :
    Fn P f [.slice A s.length c] w fun v w' => v = .tuple #[] ∧ Ow A s.length c 1 ((sortS s).flatMap (fun x => [sv x])) sp ∧ (sortS s).length = s.length ∧ St X w' [(blkOf A, Cl ((sortS s).flatMap (fun x => [sv x]) ++ sp) e)] [] ∧ Fr (keys [(blkOf A, Cl (s.flatMap (fun x => [sv x]) ++ sp) e)]) w w' := by
  have hk : ∀ x : List UInt8, ([sv x] : List Value).length = 1 := fun _ => rfl
  rcases how.2 with ⟨rfl, h2, h3, h4⟩ | ⟨g0, rfl, h3, h4, h5⟩
  · have hs0 : s = [] := List.eq_nil_of_length_eq_zero h2
    subst hs0
    refine ⟨he, (hN none c w).mono ?_⟩
    rintro e1 w' ⟨rfl, rfl⟩
    have hsn : sortS [] = [] := List.eq_nil_of_length_eq_zero (sortS_len [])
    rw [hsn]
    exact ⟨_, rfl, rfl, how, rfl, hs, Fr.refl _ _⟩
  · have hb : w.heap[g0]? = some (Cl (s.flatMap (fun x => [sv x]) ++ sp) e) := hs.hp.at (i := 0) rfl
    have hkeys : keys [(blkOf (some ⟨g0, 0, none⟩), Cl (s.flatMap (fun x => [sv x]) ++ sp) e)] = [g0] := rfl
    have hH : Holds encStr w g0 0 s.toArray := by
      intro j hj
      have hj' : j < s.length := by simpa using hj
      have hj2 : j < (s.flatMap (fun x => [sv x])).length := by rw [flat_sv]; simpa using hj
      have hc := cl_cell hb (j := j) (by rw [List.length_append]; omega)
      rw [Nat.zero_add]
      refine ⟨?_, hc.2⟩
      rw [hc.1, List.getElem_append_left hj2]
      simp only [flat_sv]
      rw [getElem!_pos s.toArray j hj]
      simp
    refine ⟨he, ?_⟩
    refine (hC g0 c s w hH (heap_lt hb) hs62).mono ?_
    rintro e2 w' ⟨rfl, n, os, rfl⟩
    have hw := sortWorld_fr hk (by decide) hb n (sortS s) (sortS_len s) os
    have hF : (flatK (fun x => [sv x]) 1 (sortS s).toArray) = ((sortS s).flatMap (fun x => [sv x])).toArray := by
      have := flatK_list hk (by decide) (sortS s)
      rw [← this]
    have e3 : grow (putRow encStr (Sort.ahead w n) g0 0 (s.mergeSort fun x y => decide (x ≤ y)).toArray) os = sortWorldK (fun x => [sv x]) 1 w g0 0 n (sortS s).toArray os := by
      unfold sortWorldK putRowK
      rw [hF, flat_sv, putRow_id]
      rfl
    rw [e3]
    refine ⟨_, rfl, rfl, ?_, sortS_len s, ?_, hw.1⟩
    · refine ⟨by rw [fl_len hk, sortS_len], .inr ⟨g0, rfl, ?_, h4, h5⟩⟩
      rw [← h3, List.length_append, List.length_append, fl_len hk, fl_len hk, sortS_len]
    · exact hs.set (i := 0) rfl (hs.hp.setAt (i := 0) rfl hw.1 hw.2) hw.1
end Go.Proofs.YtngofknckkiboaaGreatDoor

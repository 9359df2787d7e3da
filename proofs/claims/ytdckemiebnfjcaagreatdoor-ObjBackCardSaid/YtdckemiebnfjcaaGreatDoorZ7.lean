/- Walks printed by gen2.py out of our own specifications: what the functions named below do. -/
import Derived.Test.YtdckemiebnfjcaaGreatDoorSc
import Derived.Shelf.SlSortCmp.NoneTotal
import Derived.Shelf.Small.Bits
import Derived.Shelf.Utf8.RuneCount
import Derived.Shelf.Strconv.Itoa0
import Derived.Shelf.Strings.Search1
import Derived.Shelf.Strings.Search2
import Derived.Shelf.Strings.Search3
import Derived.Shelf.Strings.Count
import Derived.Shelf.LaysM
import Derived.Shelf.Strings.Shaped
import Derived.Shelf.Sort.Plain
import Derived.Shelf.GgClosure.StringsIndexFunc
import Derived.Ground.GgwProg
import Derived.Shelf.GgClosure.StringsIndexFuncTop
import Derived.Shelf.Strings.Split
import Derived.Shelf.Strings.SplitShaped
import Derived.Shelf.Unicode.Decode
import Derived.Shelf.Strings.RuneCount
import Derived.Shelf.Strings.Explode
import Derived.Shelf.Unicode.DecodeSlow
import Derived.Shelf.Unicode.DecodeAny
import Derived.Shelf.Strings.FuncGrows
import Derived.Shelf.Slices.In.SortNone
import Derived.Shelf.SlGeneric
import Derived.Ground.SlsfProg
import Derived.Test.YtdckemiebnfjcaaGreatDoorProg
import Derived.Test.YtdckemiebnfjcaaGreatDoorSi
section
set_option linter.unusedVariables false
set_option linter.unusedSimpArgs false
namespace Go.Proofs.YtdckemiebnfjcaaGreatDoor
open Go.RowKit Go.Shelf Go.Lib Go.Sort
theorem fl_at {α : Type} [Inhabited α] {enc : α → List Value} {k : Nat} (hk : ∀ x, (enc x).length = k) (hk0 : 0 < k) : ∀ (l : List α) (t : Nat), t < l.length * k → (l.flatMap enc)[t]? = (enc (l[t / k]?.getD default))[t % k]?
  | [], t, h => by simp at h
  | a :: l, t, h => by
    rw [List.flatMap_cons]
    by_cases ht : t < k
    · rw [List.getElem?_append_left (by rw [hk]; exact ht), Nat.div_eq_of_lt ht, Nat.mod_eq_of_lt ht]
      rfl
    · have hs : t = (t - k) + k := by omega
      have hd : t / k = (t - k) / k + 1 := by
        have := Nat.add_div_right (t - k) hk0
        rw [← hs] at this; exact this
      have hm : t % k = (t - k) % k := by
        have := Nat.add_mod_right (t - k) k
        rw [← hs] at this; exact this
      rw [List.getElem?_append_right (by rw [hk]; omega), hk, fl_at hk hk0 l (t - k) (by rw [List.length_cons, Nat.add_mul, Nat.one_mul] at h; omega), hd, hm]
      rfl
theorem flatK_list {α : Type} [Inhabited α] {enc : α → List Value} {k : Nat} (hk : ∀ x, (enc x).length = k) (hk0 : 0 < k) (l : List α) : (flatK enc k l.toArray).toList = l.flatMap enc := by
  apply List.ext_getElem?
  intro t
  by_cases ht : t < l.length * k
  · rw [fl_at hk hk0 l t ht]
    have h1 : t < (flatK enc k l.toArray).size := by simpa using ht
    have h2 := get_flatK enc k l.toArray t (by simpa using ht)
    rw [getElem!_pos _ t h1] at h2
    rw [Array.getElem?_toList, Array.getElem?_eq_getElem h1, h2]
    have hl : t / k < l.length := Nat.div_lt_of_lt_mul (by rw [Nat.mul_comm]; exact ht)
    have e1 : l.toArray[t / k]! = (l[t / k]?.getD default) := by
      rw [getElem!_pos _ _ (by simpa using hl)]
      simp [List.getElem?_eq_getElem hl]
    rw [e1]
    have hmod : t % k < (enc (l[t / k]?.getD default)).length := by rw [hk]; exact Nat.mod_lt _ hk0
    rw [List.getElem?_eq_getElem hmod, getElem!_pos (enc (l[t / k]?.getD default)) (t % k) hmod]
  · rw [List.getElem?_eq_none (by simp; omega), List.getElem?_eq_none (by rw [fl_len hk]; omega)]
theorem putRow_heap {w : World} {g e : Nat} {xs ys sp : List Value} (h : w.heap[g]? = some (Cl (xs ++ sp) e)) (hl : ys.length = xs.length) : (putRow id w g 0 ys.toArray).heap[g]? = some (Cl (ys ++ sp) e) ∧ ∀ k, k ≠ g → (putRow id w g 0 ys.toArray).heap[k]? = w.heap[k]? := by
  constructor
  · show (w.heap.modify g _)[g]? = _
    rw [Array.getElem?_modify, if_pos rfl, h]
    show some (Obj.cells (putCells id 0 ys.toArray (xs ++ sp).toArray) e (0, 0)) = _
    congr 2
    apply Array.ext_getElem?
    intro j
    unfold putCells
    rw [Array.getElem?_mapIdx]
    by_cases hj : j < ys.length
    · have h1 : j < (xs ++ sp).length := by rw [List.length_append]; omega
      rw [show (xs ++ sp).toArray[j]? = some ((xs ++ sp)[j]) from by simp [h1]]
      simp only [Option.map_some, Nat.zero_le, Nat.zero_add, true_and, List.size_toArray, hj, if_true, Nat.sub_zero, id]
      rw [getElem!_pos _ _ (by simpa using hj)]
      simp [List.getElem?_append_left hj, hj]
    · cases hq : (xs ++ sp).toArray[j]? with
      | none =>
        have : (xs ++ sp).length ≤ j := by simpa using hq
        simp only [Option.map_none]
        symm
        rw [List.getElem?_toArray, List.getElem?_eq_none (by rw [List.length_append] at *; omega)]
      | some x =>
        simp only [Option.map_some, Nat.zero_le, Nat.zero_add, true_and, List.size_toArray, hj, if_false]
        rw [← hq]
        simp only [List.getElem?_toArray]
        rw [List.getElem?_append_right (by omega), List.getElem?_append_right (by omega), hl]
  · intro k hk
    show (w.heap.modify g _)[k]? = _
    rw [Array.getElem?_modify, if_neg (fun e => hk e.symm)]
theorem sortWorld_fr {α : Type} [Inhabited α] {enc : α → List Value} {k : Nat} (hk : ∀ x, (enc x).length = k) (hk0 : 0 < k) {w : World} {g e : Nat} {xs : List α} {sp : List Value} (h : w.heap[g]? = some (Cl (xs.flatMap enc ++ sp) e)) (m : Nat) (ys : List α) (hl : ys.length = xs.length) (os : Array Obj) :
    Fr [g] w (sortWorldK enc k w g 0 m ys.toArray os) ∧ (sortWorldK enc k w g 0 m ys.toArray os).heap[g]? = some (Cl (ys.flatMap enc ++ sp) e) := by
  have hF : (flatK enc k ys.toArray) = (ys.flatMap enc).toArray := by
    have := flatK_list hk hk0 ys
    rw [← this]
  have hp := putRow_heap (w := Sort.ahead w m) (ys := ys.flatMap enc) (show (Sort.ahead w m).heap[g]? = some (Cl (xs.flatMap enc ++ sp) e) from h) (by rw [fl_len hk, fl_len hk, hl])
  have hsz : (putRow id (Sort.ahead w m) g 0 (ys.flatMap enc).toArray).heap.size = w.heap.size := by rw [size_putRow]; rfl
  have hg : g < w.heap.size := heap_lt h
  unfold sortWorldK putRowK
  rw [hF]
  have happ : ∀ j, j < w.heap.size → (grow (putRow id (Sort.ahead w m) g 0 (ys.flatMap enc).toArray) os).heap[j]? = (putRow id (Sort.ahead w m) g 0 (ys.flatMap enc).toArray).heap[j]? := fun j hj => by
    show (_ ++ os)[j]? = _
    rw [Array.getElem?_append_left (by rw [hsz]; exact hj)]
  refine ⟨⟨rfl, rfl, rfl, ?_, fun j hj hn => ?_, ?_⟩, ?_⟩
  · show _ ≤ (_ ++ os).size
    rw [Array.size_append, hsz]; omega
  · rw [happ j hj]
    exact hp.2 j (by simpa using hn)
  · show w.drawn ≤ w.drawn + m
    omega
  · rw [happ g hg]; exact hp.1
theorem grow_of_fr {w w' : World} (h : Fr [] w w') : ∃ q os, w' = grow (w.drewN q) os := by
  refine ⟨w'.drawn - w.drawn, w'.heap.extract w.heap.size w'.heap.size, ?_⟩
  have hd := h.drawn
  have hh : w'.heap = w.heap ++ w'.heap.extract w.heap.size w'.heap.size := by
    apply Array.ext_getElem?
    intro j
    by_cases hj : j < w.heap.size
    · rw [Array.getElem?_append_left hj]; exact h.block j hj (by simp)
    · rw [Array.getElem?_append_right (by omega), Array.getElem?_extract]
      by_cases hj2 : j < w'.heap.size
      · rw [if_pos (by omega)]; congr 1; omega
      · rw [if_neg (by omega), Array.getElem?_eq_none (by omega)]
  obtain ⟨h1, t1, d1, o1, p1⟩ := w'
  have a1 := h.os; have a2 := h.tape; have a3 := h.output
  simp only at a1 a2 a3 hh hd ⊢
  unfold grow World.drewN
  simp only
  rw [a1, a2, a3, show w.drawn + (d1 - w.drawn) = d1 by omega]
  rw [← hh]
def sortF {α : Type} (cf : α → α → Int) (s : List α) : List α := s.mergeSort (fun x y => !(ltOf cf) y x)
theorem sortF_len {α : Type} (cf : α → α → Int) (s : List α) : (sortF cf s).length = s.length := List.length_mergeSort _
theorem cl_cell {w : World} {g e : Nat} {cs : List Value} (h : w.heap[g]? = some (Cl cs e)) {j : Nat} (hj : j < cs.length) : w.cell? ⟨g, j, none⟩ = some cs[j] ∧ w.frozen? ⟨g, j, none⟩ = false := by
  constructor
  · unfold World.cell?
    simp only [h]
    simp [hj]
  · unfold World.frozen?
    simp only [h]
    simp
theorem sortFn {α : Type} [Inhabited α] {P : Program} {ρ : Ren} {enc : α → List Value} {k e : Nat} (L : SlLaysF0.n6 P ρ) (aE : ∀ w, (isAgg (ρ.t 24)).run P w = .ok true w) (zE : ∀ w, (Go.sizeOf (ρ.t 24)).run P w = .ok k w) (hk : ∀ x, (enc x).length = k) (hk0 : 0 < k) (h1 : ∀ x, ∀ v ∈ enc x, v.oneCell' = true)
    {cf : α → α → Int} (hO : SWO (ltOf cf)) (hT : ∀ x y, (ltOf cf) x y = false → (ltOf cf) y x = false → x = y) {g : Nat} {cb : List Value} (eg : ∀ args w, (callFunc g args).run P w = .ok (.enter g args) w) (he : entersB P (ρ.f 6) = true)
    (X : List Nat) (w : World) (s : List α) (hs62 : s.length < 4611686018427387904) (A : Option Addr) (c : Nat) (sp : List Value) (hs : St X w [(blkOf A, Cl (s.flatMap enc ++ sp) e)] []) (how : Ow A s.length c k (s.flatMap enc) sp)
    (hcmp : ∀ (w1 : World) (x y : α), Fr (keys [(blkOf A, Cl (s.flatMap enc ++ sp) e)]) w w1 → Fn P g ([.agg (enc x).toArray, .agg (enc y).toArray] ++ cb) w1 fun v w2 => v = .int .i64 (cf x y) ∧ Fr [] w1 w2) :
    Fn P (ρ.f 6) [.slice A s.length c, .func (.func g) #[] cb.toArray] w fun v w' => v = .tuple #[] ∧ Ow A s.length c k ((sortF cf s).flatMap enc) sp ∧ (sortF cf s).length = s.length ∧ St X w' [(blkOf A, Cl ((sortF cf s).flatMap enc ++ sp) e)] [] ∧ Fr (keys [(blkOf A, Cl (s.flatMap enc ++ sp) e)]) w w' := by
  rcases how.2 with ⟨rfl, h2, h3, h4⟩ | ⟨g0, rfl, h3, h4, h5⟩
  · have hs0 : s = [] := List.eq_nil_of_length_eq_zero h2
    subst hs0
    refine ⟨he, (AnyF.slices_SortFunc_none L none c (.func (.func g) #[] cb.toArray) w).mono ?_⟩
    rintro e1 w' ⟨rfl, rfl⟩
    have hsn : sortF cf ([] : List α) = [] := List.eq_nil_of_length_eq_zero (sortF_len cf [])
    rw [hsn]
    exact ⟨_, rfl, rfl, how, rfl, hs, Fr.refl _ _⟩
  · have hb : w.heap[g0]? = some (Cl (s.flatMap enc ++ sp) e) := hs.hp.at (i := 0) rfl
    have hkeys : keys [(blkOf (some ⟨g0, 0, none⟩), Cl (s.flatMap enc ++ sp) e)] = [g0] := rfl
    have hlen := fl_len hk s
    have hH : HoldsK enc k w g0 0 s.toArray := by
      intro j hj
      have hj2 : j < (s.flatMap enc).length := by rw [hlen]; simpa using hj
      have hc := cl_cell hb (j := j) (by rw [List.length_append]; omega)
      rw [Nat.zero_add]
      refine ⟨?_, hc.2⟩
      rw [hc.1, List.getElem_append_left hj2]
      have : (flatK enc k s.toArray) = (s.flatMap enc).toArray := by rw [← flatK_list hk hk0 s]
      simp only [this, id]
      rw [getElem!_pos _ _ (by simpa using hj2)]
      simp
    have hl : CmpLays P g cb.toArray enc k cf g0 0 s.toArray.size w := by
      intro m os dk hdk x y
      have hdk2 : dk = dk.toList.toArray := by simp
      rw [hdk2]
      have hf := (sortWorld_fr hk hk0 hb m dk.toList (by simpa using hdk) os).1
      have hc := (hcmp _ x y (by rw [hkeys]; exact hf)).2
      have e1 : ([.agg (enc x).toArray, .agg (enc y).toArray] ++ cb : List Value).toArray = #[.agg (enc x).toArray, .agg (enc y).toArray] ++ cb.toArray := by simp
      rw [e1] at hc
      refine hc.mono ?_
      rintro e2 w2 ⟨v, rfl, rfl, hf2⟩
      exact ⟨rfl, grow_of_fr hf2⟩
    have hc := AnyQ.slices_SortFunc_total L k aE zE enc hk h1 cf hO g cb.toArray g0 0 c s.toArray w eg hl hH (heap_lt hb) (by simpa using hs62) hT
    refine ⟨he, ?_⟩
    have e0 : ([.slice (some ⟨g0, 0, none⟩) s.length c, .func (.func g) #[] cb.toArray] : List Value).toArray = #[.slice (some ⟨g0, 0, none⟩) s.toArray.size c, .func (.func g) #[] cb.toArray] := by simp
    rw [e0]
    refine hc.mono ?_
    rintro e2 w' ⟨rfl, n, os, rfl⟩
    have hw := sortWorld_fr hk hk0 hb n (sortF cf s) (sortF_len cf s) os
    refine ⟨_, rfl, rfl, ?_, sortF_len cf s, ?_, hw.1⟩
    · refine ⟨by rw [fl_len hk, sortF_len], .inr ⟨g0, rfl, ?_, h4, h5⟩⟩
      rw [← h3, List.length_append, List.length_append, fl_len hk, fl_len hk, sortF_len]
    · exact hs.set (i := 0) rfl (hs.hp.setAt (i := 0) rfl hw.1 hw.2) hw.1
theorem agg_run {P : Program} {t k : Nat} (h : aggSize P t = some k) (w : World) : (isAgg t).run P w = .ok true w := by
  unfold aggSize at h
  cases hu : P.underlying t with
  | none => simp [hu] at h
  | some d =>
    unfold isAgg
    simp only [Sem.run_bind, run_underlying hu, Result.andThen_ok]
    cases d <;> simp [hu] at h <;> rfl
theorem enters_run {P : Program} {f : FuncId} (h : entersB P f = true) (args : Array Value) (w : World) : (callFunc f args).run P w = .ok (.enter f args) w := by
  unfold entersB at h
  cases hq : P.funcs[f]? with
  | none => simp [hq] at h
  | some fn =>
    simp only [hq, Bool.and_eq_true] at h
    obtain ⟨h1, h2⟩ := h
    cases hb : fn.body with
    | none => simp [hb] at h2
    | some c =>
      have h4 : ¬ fn.name = "runtime.NumGoroutine" := by simpa using h1
      simp [callFunc, hq, hb, h4]
theorem putRow_id {α : Type} [Inhabited α] (enc : α → Value) (w : World) (b : Nat) (d : List α) : putRow enc w b 0 d.toArray = putRow id w b 0 (d.map enc).toArray := by
  unfold putRow
  congr 1
  funext c
  unfold putCells
  apply Array.ext_getElem?
  intro j
  rw [Array.getElem?_mapIdx, Array.getElem?_mapIdx]
  cases c[j]? with
  | none => rfl
  | some x =>
    simp only [Option.map_some, List.size_toArray, List.length_map, Nat.zero_add, Nat.sub_zero]
    by_cases h : 0 ≤ j ∧ j < d.length
    · rw [if_pos h, if_pos h, getElem!_pos _ _ (by simpa using h.2), getElem!_pos _ _ (by simpa using h.2)]
      simp
    · rw [if_neg h, if_neg h]
theorem flat_sv (l : List (List UInt8)) : l.flatMap (fun x => [sv x]) = l.map sv := by induction l <;> simp_all
def sortS (s : List (List UInt8)) : List (List UInt8) := s.mergeSort fun x y => decide (x ≤ y)
theorem sortS_len (s : List (List UInt8)) : (sortS s).length = s.length := List.length_mergeSort _
theorem sortStrFn {P : Program} {f e : Nat} (he : entersB P f = true)
    (hC : ∀ (blk cap : Nat) (ss : List (List UInt8)) (w : World), Holds encStr w blk 0 ss.toArray → blk < w.heap.size → ss.length < 4611686018427387904 → Calls P f #[.slice (some ⟨blk, 0, none⟩) ss.length cap] w fun e w' => e = .returned (.tuple #[]) ∧ ∃ n os, w' = grow (putRow encStr (Sort.ahead w n) blk 0 (ss.mergeSort fun x y => decide (x ≤ y)).toArray) os)
    (hN : ∀ (p : Option Addr) (cap : Nat) (w : World), Calls P f #[.slice p 0 cap] w fun e w' => e = .returned (.tuple #[]) ∧ w' = w)
    (X : List Nat) (w : World) (s : List (List UInt8)) (A : Option Addr) (c : Nat) (sp : List Value) (hs : St X w [(blkOf A, Cl (s.flatMap (fun x => [sv x]) ++ sp) e)] []) (how : Ow A s.length c 1 (s.flatMap (fun x => [sv x])) sp) (hs62 : s.length < 4611686018427387904) :
    Fn P f [.slice A s.length c] w fun v w' => v = .tuple #[] ∧ Ow A s.length c 1 ((sortS s).flatMap (fun x => [sv x])) sp ∧ (sortS s).length = s.length ∧ St X w' [(blkOf A, Cl ((sortS s).flatMap (fun x => [sv x]) ++ sp) e)] [] ∧ Fr (keys [(blkOf A, Cl (s.flatMap (fun x => [sv x]) ++ sp) e)]) w w' := by
  have hk : ∀ x : List UInt8, ([sv x] : List Value).length = 1 := fun _ => rfl
  rcases how.2 with ⟨rfl, h2, h3, h4⟩ | ⟨g0, rfl, h3, h4, h5⟩
  · have hs0 : s = [] := List.eq_nil_of_length_eq_zero h2
    subst hs0
    refine ⟨he, (hN none c w).mono ?_⟩
    rintro e1 w' ⟨rfl, rfl⟩
    have hsn : sortS [] = [] := List.eq_nil_of_length_eq_zero (sortS_len [])
    rw [hsn]
    exact ⟨_, rfl, rfl, how, rfl, hs, Fr.refl _ _⟩
  · have hb : w.heap[g0]? = some (Cl (s.flatMap (fun x => [sv x]) ++ sp) e) := hs.hp.at (i := 0) rfl
    have hkeys : keys [(blkOf (some ⟨g0, 0, none⟩), Cl (s.flatMap (fun x => [sv x]) ++ sp) e)] = [g0] := rfl
    have hH : Holds encStr w g0 0 s.toArray := by
      intro j hj
      have hj' : j < s.length := by simpa using hj
      have hj2 : j < (s.flatMap (fun x => [sv x])).length := by rw [flat_sv]; simpa using hj
      have hc := cl_cell hb (j := j) (by rw [List.length_append]; omega)
      rw [Nat.zero_add]
      refine ⟨?_, hc.2⟩
      rw [hc.1, List.getElem_append_left hj2]
      simp only [flat_sv]
      rw [getElem!_pos s.toArray j hj]
      simp
    refine ⟨he, ?_⟩
    refine (hC g0 c s w hH (heap_lt hb) hs62).mono ?_
    rintro e2 w' ⟨rfl, n, os, rfl⟩
    have hw := sortWorld_fr hk (by decide) hb n (sortS s) (sortS_len s) os
    have hF : (flatK (fun x => [sv x]) 1 (sortS s).toArray) = ((sortS s).flatMap (fun x => [sv x])).toArray := by
      have := flatK_list hk (by decide) (sortS s)
      rw [← this]
    have e3 : grow (putRow encStr (Sort.ahead w n) g0 0 (s.mergeSort fun x y => decide (x ≤ y)).toArray) os = sortWorldK (fun x => [sv x]) 1 w g0 0 n (sortS s).toArray os := by
      unfold sortWorldK putRowK
      rw [hF, flat_sv, putRow_id]
      rfl
    rw [e3]
    refine ⟨_, rfl, rfl, ?_, sortS_len s, ?_, hw.1⟩
    · refine ⟨by rw [fl_len hk, sortS_len], .inr ⟨g0, rfl, ?_, h4, h5⟩⟩
      rw [← h3, List.length_append, List.length_append, fl_len hk, fl_len hk, sortS_len]
    · exact hs.set (i := 0) rfl (hs.hp.setAt (i := 0) rfl hw.1 hw.2) hw.1
end Go.Proofs.YtdckemiebnfjcaaGreatDoor
end

section
namespace Go.Proofs
open Go.Shelf
def Tryz.lays190_ren : Go.Shelf.Ren := ⟨fun | 190 => 100 | 125 => 130 | 258 => 136 | 128 => 154 | 129 => 155 | 302 => 157 | 303 => 158 | 304 => 159 | 305 => 160 | 306 => 161 | 307 => 162 | 308 => 163 | 309 => 164 | 310 => 165 | 333 => 186 | 329 => 181 | 330 => 182 | 334 => 187 | 335 => 188 | 336 => 138 | 344 => 198 | n => n, fun | 31 => 134 | 9 => 9 | 3 => 3 | 46 => 153 | 0 => 0 | 51 => 22 | 53 => 99 | 4 => 4 | 183 => 235 | 182 => 234 | 131 => 173 | 5 => 5 | 218 => 259 | 222 => 262 | 228 => 269 | 229 => 270 | n => n, fun | n => n⟩
theorem Tryz.lays190 : Go.Proofs.Lays.n190 Tryz.prog Tryz.lays190_ren := {
  mixed := by kernel_rfl
  f125 := Tryz.func130.trans (congrArg some (by kernel_rfl))
  f128 := Tryz.func154.trans (congrArg some (by kernel_rfl))
  f129 := Tryz.func155.trans (congrArg some (by kernel_rfl))
  f190 := Tryz.func100.trans (congrArg some (by kernel_rfl))
  f258 := Tryz.func136.trans (congrArg some (by kernel_rfl))
  f302 := Tryz.func157.trans (congrArg some (by kernel_rfl))
  f303 := Tryz.func158.trans (congrArg some (by kernel_rfl))
  f304 := Tryz.func159.trans (congrArg some (by kernel_rfl))
  f305 := Tryz.func160.trans (congrArg some (by kernel_rfl))
  f306 := Tryz.func161.trans (congrArg some (by kernel_rfl))
  f307 := Tryz.func162.trans (congrArg some (by kernel_rfl))
  f308 := Tryz.func163.trans (congrArg some (by kernel_rfl))
  f309 := Tryz.func164.trans (congrArg some (by kernel_rfl))
  f310 := Tryz.func165.trans (congrArg some (by kernel_rfl))
  f329 := Tryz.func181.trans (congrArg some (by kernel_rfl))
  f330 := Tryz.func182.trans (congrArg some (by kernel_rfl))
  f333 := Tryz.func186.trans (congrArg some (by kernel_rfl))
  f334 := Tryz.func187.trans (congrArg some (by kernel_rfl))
  f335 := Tryz.func188.trans (congrArg some (by kernel_rfl))
  f336 := Tryz.func138.trans (congrArg some (by kernel_rfl))
  f344 := Tryz.func198.trans (congrArg some (by kernel_rfl))
  t0 := Tryz.underlying0
  a0 := Tryz.isAgg0
  z0 := Tryz.sizeOf0
  v0 := Tryz.zeroValue0
  t3 := Tryz.underlying3
  a3 := Tryz.isAgg3
  z3 := Tryz.sizeOf3
  v3 := Tryz.zeroValue3
  t4 := Tryz.underlying4
  a4 := Tryz.isAgg4
  z4 := Tryz.sizeOf4
  v4 := Tryz.zeroValue4
  t5 := Tryz.underlying5
  a5 := Tryz.isAgg5
  z5 := Tryz.sizeOf5
  v5 := Tryz.zeroValue5
  t9 := Tryz.underlying9
  a9 := Tryz.isAgg9
  z9 := Tryz.sizeOf9
  v9 := Tryz.zeroValue9
  t31 := Tryz.underlying134
  a31 := Tryz.isAgg134
  z31 := Tryz.sizeOf134
  v31 := Tryz.zeroValue134
  t46 := Tryz.underlying153
  a46 := Tryz.isAgg153
  z46 := Tryz.sizeOf153
  v46 := Tryz.zeroValue153
  t51 := Tryz.underlying22
  a51 := Tryz.isAgg22
  z51 := Tryz.sizeOf22
  v51 := Tryz.zeroValue22
  t53 := Tryz.underlying99
  a53 := Tryz.isAgg99
  z53 := Tryz.sizeOf99
  v53 := Tryz.zeroValue99
  t131 := Tryz.underlying173
  a131 := Tryz.isAgg173
  z131 := Tryz.sizeOf173
  v131 := Tryz.zeroValue173
  t182 := Tryz.underlying234
  a182 := Tryz.isAgg234
  z182 := Tryz.sizeOf234
  v182 := Tryz.zeroValue234
  t183 := Tryz.underlying235
  a183 := Tryz.isAgg235
  z183 := Tryz.sizeOf235
  v183 := Tryz.zeroValue235
  t218 := Tryz.underlying259
  a218 := Tryz.isAgg259
  z218 := Tryz.sizeOf259
  v218 := Tryz.zeroValue259
  t222 := Tryz.underlying262
  a222 := Tryz.isAgg262
  z222 := Tryz.sizeOf262
  v222 := Tryz.zeroValue262
  t228 := Tryz.underlying269
  a228 := Tryz.isAgg269
  z228 := Tryz.sizeOf269
  v228 := Tryz.zeroValue269
  t229 := Tryz.underlying270
  a229 := Tryz.isAgg270
  z229 := Tryz.sizeOf270
  v229 := Tryz.zeroValue270 }
open Go.Sort Go.RowKit in
theorem Tryz.slices_Sort_string (blk off cap : Nat) (ss : List (List UInt8)) (w : World) (hH : Holds encStr w blk off ss.toArray) (hblk : blk < w.heap.size) (hsz : ss.length < 4611686018427387904) :
    Calls Tryz.prog 100 #[.slice (some ⟨blk, off, none⟩) ss.length cap] w fun e w' =>
      e = .returned (.tuple #[]) ∧ ∃ n os, w' = grow (putRow encStr (Sort.ahead w n) blk off (ss.mergeSort fun x y => decide (x ≤ y)).toArray) os := Any.slices_Sort_string Tryz.lays190 blk off cap ss w hH hblk hsz
def Tryz.lays146_ren : Go.Shelf.Ren := ⟨fun | 146 => 56 | 221 => 106 | 268 => 139 | 138 => 140 | 143 => 141 | 195 => 174 | 197 => 175 | 218 => 176 | 219 => 177 | 260 => 192 | 217 => 193 | 225 => 194 | 224 => 195 | 267 => 196 | 266 => 200 | 314 => 201 | n => n, fun | 9 => 9 | 31 => 134 | 3 => 3 | 4 => 4 | 0 => 0 | 105 => 254 | 21 => 21 | 5 => 5 | 46 => 153 | 119 => 274 | 139 => 277 | 138 => 276 | 146 => 278 | 51 => 22 | n => n, fun | 1 => 0 | 3 => 1 | 4 => 2 | n => n⟩
theorem Tryz.lays146 : Go.Proofs.Lays.n146 Tryz.prog Tryz.lays146_ren := {
  mixed := by kernel_rfl
  f138 := Tryz.func140.trans (congrArg some (by kernel_rfl))
  f143 := Tryz.func141.trans (congrArg some (by kernel_rfl))
  f146 := Tryz.func56.trans (congrArg some (by kernel_rfl))
  f195 := Tryz.func174.trans (congrArg some (by kernel_rfl))
  f197 := Tryz.func175.trans (congrArg some (by kernel_rfl))
  f217 := Tryz.func193.trans (congrArg some (by kernel_rfl))
  f218 := Tryz.func176.trans (congrArg some (by kernel_rfl))
  f219 := Tryz.func177.trans (congrArg some (by kernel_rfl))
  f221 := Tryz.func106.trans (congrArg some (by kernel_rfl))
  f224 := Tryz.func195.trans (congrArg some (by kernel_rfl))
  f225 := Tryz.func194.trans (congrArg some (by kernel_rfl))
  f260 := Tryz.func192.trans (congrArg some (by kernel_rfl))
  f266 := Tryz.func200.trans (congrArg some (by kernel_rfl))
  f267 := Tryz.func196.trans (congrArg some (by kernel_rfl))
  f268 := Tryz.func139.trans (congrArg some (by kernel_rfl))
  f314 := Tryz.func201.trans (congrArg some (by kernel_rfl))
  t0 := Tryz.underlying0
  a0 := Tryz.isAgg0
  z0 := Tryz.sizeOf0
  v0 := Tryz.zeroValue0
  t3 := Tryz.underlying3
  a3 := Tryz.isAgg3
  z3 := Tryz.sizeOf3
  v3 := Tryz.zeroValue3
  t4 := Tryz.underlying4
  a4 := Tryz.isAgg4
  z4 := Tryz.sizeOf4
  v4 := Tryz.zeroValue4
  t5 := Tryz.underlying5
  a5 := Tryz.isAgg5
  z5 := Tryz.sizeOf5
  v5 := Tryz.zeroValue5
  t9 := Tryz.underlying9
  a9 := Tryz.isAgg9
  z9 := Tryz.sizeOf9
  v9 := Tryz.zeroValue9
  t21 := Tryz.underlying21
  a21 := Tryz.isAgg21
  z21 := Tryz.sizeOf21
  v21 := Tryz.zeroValue21
  t31 := Tryz.underlying134
  a31 := Tryz.isAgg134
  z31 := Tryz.sizeOf134
  v31 := Tryz.zeroValue134
  t46 := Tryz.underlying153
  a46 := Tryz.isAgg153
  z46 := Tryz.sizeOf153
  v46 := Tryz.zeroValue153
  t51 := Tryz.underlying22
  a51 := Tryz.isAgg22
  z51 := Tryz.sizeOf22
  v51 := Tryz.zeroValue22
  t105 := Tryz.underlying254
  a105 := Tryz.isAgg254
  z105 := Tryz.sizeOf254
  v105 := Tryz.zeroValue254
  t119 := Tryz.underlying274
  a119 := Tryz.isAgg274
  z119 := Tryz.sizeOf274
  t138 := Tryz.underlying276
  a138 := Tryz.isAgg276
  z138 := Tryz.sizeOf276
  v138 := Tryz.zeroValue276
  t139 := Tryz.underlying277
  a139 := Tryz.isAgg277
  z139 := Tryz.sizeOf277
  v139 := Tryz.zeroValue277
  t146 := Tryz.underlying278
  a146 := Tryz.isAgg278
  z146 := Tryz.sizeOf278
  v146 := Tryz.zeroValue278
  g1 := by kernel_rfl
  g3 := by kernel_rfl
  g4 := by kernel_rfl }
open Go.RowKit Go.Lib in
theorem Tryz.strings_Split (s sep : ByteArray) (m : Int) (w : World) (hs : s.size < 4294967281) (hm : w.cell? ⟨0, 0, none⟩ = some (.int .i64 m)) (h1 : 1 ≤ sep.size) :
    Calls Tryz.prog 56 #[.string s, .string sep] w fun e w' =>
      e = .returned (.slice (some ⟨w.heap.size, 0, none⟩) (Lib.countB s sep + 1) (Lib.countB s sep + 1)) ∧ w' = w.alloc (.cells ((Lib.splitB sep 0 (Lib.countB s sep) s).map Value.string).toArray 9) := Any.strings_Split Tryz.lays146 (by kernel_rfl) s sep m w hs hm h1
def Tryz.laysM146_ren : Go.Shelf.Ren := ⟨fun | 146 => 56 | 221 => 106 | 268 => 139 | 138 => 140 | 143 => 141 | 195 => 174 | 197 => 175 | 218 => 176 | 219 => 177 | 260 => 192 | 217 => 193 | 225 => 194 | 224 => 195 | 267 => 196 | 266 => 200 | 314 => 201 | n => n, fun | 9 => 9 | 31 => 134 | 3 => 3 | 4 => 4 | 0 => 0 | 105 => 254 | 21 => 21 | 5 => 5 | 46 => 153 | 119 => 274 | 139 => 277 | 138 => 276 | 146 => 278 | 51 => 22 | n => n, fun | 1 => 0 | 3 => 1 | 4 => 2 | n => n⟩
theorem Tryz.laysM146 : Go.Proofs.LaysM.n146 Tryz.prog Tryz.laysM146_ren := {
  mixed := by kernel_rfl
  f138 := Tryz.func140.trans (congrArg some (by kernel_rfl))
  f143 := Tryz.func141.trans (congrArg some (by kernel_rfl))
  f146 := Tryz.func56.trans (congrArg some (by kernel_rfl))
  f195 := Tryz.func174.trans (congrArg some (by kernel_rfl))
  f197 := Tryz.func175.trans (congrArg some (by kernel_rfl))
  f217 := Tryz.func193.trans (congrArg some (by kernel_rfl))
  f218 := Tryz.func176.trans (congrArg some (by kernel_rfl))
  f219 := Tryz.func177.trans (congrArg some (by kernel_rfl))
  f221 := Tryz.func106.trans (congrArg some (by kernel_rfl))
  f224 := Tryz.func195.trans (congrArg some (by kernel_rfl))
  f225 := Tryz.func194.trans (congrArg some (by kernel_rfl))
  f260 := Tryz.func192.trans (congrArg some (by kernel_rfl))
  f266 := Tryz.func200.trans (congrArg some (by kernel_rfl))
  f267 := Tryz.func196.trans (congrArg some (by kernel_rfl))
  f268 := Tryz.func139.trans (congrArg some (by kernel_rfl))
  f314 := Tryz.func201.trans (congrArg some (by kernel_rfl))
  t0 := Tryz.underlying0
  a0 := Tryz.isAgg0
  z0 := Tryz.sizeOf0
  v0 := Tryz.zeroValue0
  t3 := Tryz.underlying3
  a3 := Tryz.isAgg3
  z3 := Tryz.sizeOf3
  v3 := Tryz.zeroValue3
  t4 := Tryz.underlying4
  a4 := Tryz.isAgg4
  z4 := Tryz.sizeOf4
  v4 := Tryz.zeroValue4
  t5 := Tryz.underlying5
  a5 := Tryz.isAgg5
  z5 := Tryz.sizeOf5
  v5 := Tryz.zeroValue5
  t9 := Tryz.underlying9
  a9 := Tryz.isAgg9
  z9 := Tryz.sizeOf9
  v9 := Tryz.zeroValue9
  t21 := Tryz.underlying21
  a21 := Tryz.isAgg21
  z21 := Tryz.sizeOf21
  v21 := Tryz.zeroValue21
  t31 := Tryz.underlying134
  a31 := Tryz.isAgg134
  z31 := Tryz.sizeOf134
  v31 := Tryz.zeroValue134
  t46 := Tryz.underlying153
  a46 := Tryz.isAgg153
  z46 := Tryz.sizeOf153
  v46 := Tryz.zeroValue153
  t51 := Tryz.underlying22
  a51 := Tryz.isAgg22
  z51 := Tryz.sizeOf22
  v51 := Tryz.zeroValue22
  t105 := Tryz.underlying254
  a105 := Tryz.isAgg254
  z105 := Tryz.sizeOf254
  v105 := Tryz.zeroValue254
  t119 := Tryz.underlying274
  a119 := Tryz.isAgg274
  z119 := Tryz.sizeOf274
  t138 := Tryz.underlying276
  a138 := Tryz.isAgg276
  z138 := Tryz.sizeOf276
  v138 := Tryz.zeroValue276
  t139 := Tryz.underlying277
  a139 := Tryz.isAgg277
  z139 := Tryz.sizeOf277
  v139 := Tryz.zeroValue277
  t146 := Tryz.underlying278
  a146 := Tryz.isAgg278
  z146 := Tryz.sizeOf278
  v146 := Tryz.zeroValue278
  g1 := by kernel_rfl
  g3 := by kernel_rfl
  g4 := by kernel_rfl
  i0 := by kernel_rfl
  i3 := by kernel_rfl
  i4 := by kernel_rfl
  i5 := by kernel_rfl
  i9 := by kernel_rfl
  i21 := by kernel_rfl
  i31 := by kernel_rfl
  i46 := by kernel_rfl
  i51 := by kernel_rfl
  i105 := by kernel_rfl
  i138 := by kernel_rfl
  i139 := by kernel_rfl
  i146 := by kernel_rfl
  m1 := by kernel_rfl
  s1_3 := fun w h => Go.Proofs.cell_of_shapedOpen_int (zero := #[.int .i64 0]) (t := 3) h (of_decide_eq_true (by kernel_rfl)) (by kernel_rfl) rfl (by kernel_rfl) (by kernel_rfl) Tryz.underlying3
  m3 := by kernel_rfl
  m4 := by kernel_rfl }
open Go.RowKit Go.Sort in
theorem Tryz.slices_Sort_string_none (p : Option Addr) (cap : Nat) (w : World) :
    Calls Tryz.prog 100 #[.slice p 0 cap] w fun e w' => e = .returned (.tuple #[]) ∧ w' = w := Any.slices_Sort_string_none Tryz.lays190 p cap w
def Tryz.laysSortTag_ren : Go.Shelf.Ren := ⟨fun | 6 => 87 | 15 => 130 | 14 => 129 | 28 => 154 | 29 => 155 | 20 => 146 | 21 => 147 | 22 => 148 | 23 => 149 | 24 => 150 | 25 => 151 | 26 => 152 | 27 => 153 | 46 => 180 | 47 => 181 | 48 => 182 | 49 => 183 | 50 => 184 | 57 => 197 | n => n, fun | 22 => 30 | 24 => 43 | 25 => 151 | 3 => 3 | 39 => 153 | 0 => 0 | 53 => 22 | 55 => 99 | 4 => 4 | 46 => 235 | 45 => 234 | 50 => 173 | 5 => 5 | 9 => 9 | 66 => 259 | 70 => 262 | 76 => 269 | 77 => 270 | n => n, fun | n => n⟩
theorem Tryz.laysSortTag : Go.Proofs.SlLaysF0.n6 Tryz.prog Tryz.laysSortTag_ren := {
  mixed := by kernel_rfl
  f6 := ⟨Tryz.f87.name, by decide, Tryz.func87.trans (congrArg some (by kernel_rfl))⟩
  f14 := ⟨Tryz.f129.name, by decide, Tryz.func129.trans (congrArg some (by kernel_rfl))⟩
  f15 := Tryz.func130.trans (congrArg some (by kernel_rfl))
  f20 := ⟨Tryz.f146.name, by decide, Tryz.func146.trans (congrArg some (by kernel_rfl))⟩
  f21 := ⟨Tryz.f147.name, by decide, Tryz.func147.trans (congrArg some (by kernel_rfl))⟩
  f22 := ⟨Tryz.f148.name, by decide, Tryz.func148.trans (congrArg some (by kernel_rfl))⟩
  f23 := ⟨Tryz.f149.name, by decide, Tryz.func149.trans (congrArg some (by kernel_rfl))⟩
  f24 := ⟨Tryz.f150.name, by decide, Tryz.func150.trans (congrArg some (by kernel_rfl))⟩
  f25 := ⟨Tryz.f151.name, by decide, Tryz.func151.trans (congrArg some (by kernel_rfl))⟩
  f26 := ⟨Tryz.f152.name, by decide, Tryz.func152.trans (congrArg some (by kernel_rfl))⟩
  f27 := ⟨Tryz.f153.name, by decide, Tryz.func153.trans (congrArg some (by kernel_rfl))⟩
  f28 := Tryz.func154.trans (congrArg some (by kernel_rfl))
  f29 := Tryz.func155.trans (congrArg some (by kernel_rfl))
  f46 := ⟨Tryz.f180.name, by decide, Tryz.func180.trans (congrArg some (by kernel_rfl))⟩
  f47 := Tryz.func181.trans (congrArg some (by kernel_rfl))
  f48 := Tryz.func182.trans (congrArg some (by kernel_rfl))
  f49 := ⟨Tryz.f183.name, by decide, Tryz.func183.trans (congrArg some (by kernel_rfl))⟩
  f50 := ⟨Tryz.f184.name, by decide, Tryz.func184.trans (congrArg some (by kernel_rfl))⟩
  f57 := ⟨Tryz.f197.name, by decide, Tryz.func197.trans (congrArg some (by kernel_rfl))⟩
  t0 := Tryz.underlying0
  a0 := Tryz.isAgg0
  z0 := Tryz.sizeOf0
  v0 := Tryz.zeroValue0
  t3 := Tryz.underlying3
  a3 := Tryz.isAgg3
  z3 := Tryz.sizeOf3
  v3 := Tryz.zeroValue3
  t4 := Tryz.underlying4
  a4 := Tryz.isAgg4
  z4 := Tryz.sizeOf4
  v4 := Tryz.zeroValue4
  t5 := Tryz.underlying5
  a5 := Tryz.isAgg5
  z5 := Tryz.sizeOf5
  v5 := Tryz.zeroValue5
  t9 := Tryz.underlying9
  a9 := Tryz.isAgg9
  z9 := Tryz.sizeOf9
  v9 := Tryz.zeroValue9
  t22 := Tryz.underlying30
  a22 := Tryz.isAgg30
  z22 := Tryz.sizeOf30
  v22 := Tryz.zeroValue30
  t25 := Tryz.underlying151
  a25 := Tryz.isAgg151
  z25 := Tryz.sizeOf151
  v25 := Tryz.zeroValue151
  t39 := Tryz.underlying153
  a39 := Tryz.isAgg153
  z39 := Tryz.sizeOf153
  v39 := Tryz.zeroValue153
  t45 := Tryz.underlying234
  a45 := Tryz.isAgg234
  z45 := Tryz.sizeOf234
  v45 := Tryz.zeroValue234
  t46 := Tryz.underlying235
  a46 := Tryz.isAgg235
  z46 := Tryz.sizeOf235
  v46 := Tryz.zeroValue235
  t50 := Tryz.underlying173
  a50 := Tryz.isAgg173
  z50 := Tryz.sizeOf173
  v50 := Tryz.zeroValue173
  t53 := Tryz.underlying22
  a53 := Tryz.isAgg22
  z53 := Tryz.sizeOf22
  v53 := Tryz.zeroValue22
  t55 := Tryz.underlying99
  a55 := Tryz.isAgg99
  z55 := Tryz.sizeOf99
  v55 := Tryz.zeroValue99
  t66 := Tryz.underlying259
  a66 := Tryz.isAgg259
  z66 := Tryz.sizeOf259
  v66 := Tryz.zeroValue259
  t70 := Tryz.underlying262
  a70 := Tryz.isAgg262
  z70 := Tryz.sizeOf262
  v70 := Tryz.zeroValue262
  t76 := Tryz.underlying269
  a76 := Tryz.isAgg269
  z76 := Tryz.sizeOf269
  v76 := Tryz.zeroValue269
  t77 := Tryz.underlying270
  a77 := Tryz.isAgg270
  z77 := Tryz.sizeOf270
  v77 := Tryz.zeroValue270 }
def Tryz.laysSortItem_ren : Go.Shelf.Ren := ⟨fun | 6 => 103 | 15 => 130 | 14 => 137 | 28 => 154 | 29 => 155 | 20 => 166 | 21 => 167 | 22 => 168 | 23 => 169 | 24 => 170 | 25 => 171 | 26 => 172 | 27 => 173 | 46 => 189 | 47 => 181 | 48 => 182 | 49 => 190 | 50 => 191 | 57 => 199 | n => n, fun | 22 => 75 | 24 => 80 | 25 => 195 | 3 => 3 | 39 => 153 | 0 => 0 | 53 => 22 | 55 => 99 | 4 => 4 | 46 => 235 | 45 => 234 | 50 => 173 | 5 => 5 | 9 => 9 | 66 => 259 | 70 => 262 | 76 => 269 | 77 => 270 | n => n, fun | n => n⟩
theorem Tryz.laysSortItem : Go.Proofs.SlLaysF0.n6 Tryz.prog Tryz.laysSortItem_ren := {
  mixed := by kernel_rfl
  f6 := ⟨Tryz.f103.name, by decide, Tryz.func103.trans (congrArg some (by kernel_rfl))⟩
  f14 := ⟨Tryz.f137.name, by decide, Tryz.func137.trans (congrArg some (by kernel_rfl))⟩
  f15 := Tryz.func130.trans (congrArg some (by kernel_rfl))
  f20 := ⟨Tryz.f166.name, by decide, Tryz.func166.trans (congrArg some (by kernel_rfl))⟩
  f21 := ⟨Tryz.f167.name, by decide, Tryz.func167.trans (congrArg some (by kernel_rfl))⟩
  f22 := ⟨Tryz.f168.name, by decide, Tryz.func168.trans (congrArg some (by kernel_rfl))⟩
  f23 := ⟨Tryz.f169.name, by decide, Tryz.func169.trans (congrArg some (by kernel_rfl))⟩
  f24 := ⟨Tryz.f170.name, by decide, Tryz.func170.trans (congrArg some (by kernel_rfl))⟩
  f25 := ⟨Tryz.f171.name, by decide, Tryz.func171.trans (congrArg some (by kernel_rfl))⟩
  f26 := ⟨Tryz.f172.name, by decide, Tryz.func172.trans (congrArg some (by kernel_rfl))⟩
  f27 := ⟨Tryz.f173.name, by decide, Tryz.func173.trans (congrArg some (by kernel_rfl))⟩
  f28 := Tryz.func154.trans (congrArg some (by kernel_rfl))
  f29 := Tryz.func155.trans (congrArg some (by kernel_rfl))
  f46 := ⟨Tryz.f189.name, by decide, Tryz.func189.trans (congrArg some (by kernel_rfl))⟩
  f47 := Tryz.func181.trans (congrArg some (by kernel_rfl))
  f48 := Tryz.func182.trans (congrArg some (by kernel_rfl))
  f49 := ⟨Tryz.f190.name, by decide, Tryz.func190.trans (congrArg some (by kernel_rfl))⟩
  f50 := ⟨Tryz.f191.name, by decide, Tryz.func191.trans (congrArg some (by kernel_rfl))⟩
  f57 := ⟨Tryz.f199.name, by decide, Tryz.func199.trans (congrArg some (by kernel_rfl))⟩
  t0 := Tryz.underlying0
  a0 := Tryz.isAgg0
  z0 := Tryz.sizeOf0
  v0 := Tryz.zeroValue0
  t3 := Tryz.underlying3
  a3 := Tryz.isAgg3
  z3 := Tryz.sizeOf3
  v3 := Tryz.zeroValue3
  t4 := Tryz.underlying4
  a4 := Tryz.isAgg4
  z4 := Tryz.sizeOf4
  v4 := Tryz.zeroValue4
  t5 := Tryz.underlying5
  a5 := Tryz.isAgg5
  z5 := Tryz.sizeOf5
  v5 := Tryz.zeroValue5
  t9 := Tryz.underlying9
  a9 := Tryz.isAgg9
  z9 := Tryz.sizeOf9
  v9 := Tryz.zeroValue9
  t22 := Tryz.underlying75
  a22 := Tryz.isAgg75
  z22 := Tryz.sizeOf75
  v22 := Tryz.zeroValue75
  t25 := Tryz.underlying195
  a25 := Tryz.isAgg195
  z25 := Tryz.sizeOf195
  v25 := Tryz.zeroValue195
  t39 := Tryz.underlying153
  a39 := Tryz.isAgg153
  z39 := Tryz.sizeOf153
  v39 := Tryz.zeroValue153
  t45 := Tryz.underlying234
  a45 := Tryz.isAgg234
  z45 := Tryz.sizeOf234
  v45 := Tryz.zeroValue234
  t46 := Tryz.underlying235
  a46 := Tryz.isAgg235
  z46 := Tryz.sizeOf235
  v46 := Tryz.zeroValue235
  t50 := Tryz.underlying173
  a50 := Tryz.isAgg173
  z50 := Tryz.sizeOf173
  v50 := Tryz.zeroValue173
  t53 := Tryz.underlying22
  a53 := Tryz.isAgg22
  z53 := Tryz.sizeOf22
  v53 := Tryz.zeroValue22
  t55 := Tryz.underlying99
  a55 := Tryz.isAgg99
  z55 := Tryz.sizeOf99
  v55 := Tryz.zeroValue99
  t66 := Tryz.underlying259
  a66 := Tryz.isAgg259
  z66 := Tryz.sizeOf259
  v66 := Tryz.zeroValue259
  t70 := Tryz.underlying262
  a70 := Tryz.isAgg262
  z70 := Tryz.sizeOf262
  v70 := Tryz.zeroValue262
  t76 := Tryz.underlying269
  a76 := Tryz.isAgg269
  z76 := Tryz.sizeOf269
  v76 := Tryz.zeroValue269
  t77 := Tryz.underlying270
  a77 := Tryz.isAgg270
  z77 := Tryz.sizeOf270
  v77 := Tryz.zeroValue270 }
end Go.Proofs
end

section
set_option linter.unusedSimpArgs false
set_option linter.unusedVariables false
namespace Go.Proofs.YtdckemiebnfjcaaGreatDoor
open Go.RowKit
open Go.Shelf Go.Lib Go.Sort
theorem swo_tag : SWO (ltOf icompareTag_m) := by
  have e : ∀ a b, ltOf icompareTag_m a b = tagLt a b := fun a b => by
    unfold ltOf; rw [icompareTag_eq, Bool.eq_iff_iff, decide_eq_true_iff]; exact tagCmp_neg a b
  refine ⟨fun x => by rw [e]; exact tagLt_irrefl x, fun x y z h1 h2 => by rw [e] at *; exact tagLt_trans x y z h1 h2, fun x y z h1 h2 => ?_⟩
  rw [e] at *
  rcases tagLt_tri x z with h | h | h
  · rcases tagLt_tri x y with g | g | g
    · rw [g] at h1; cases h1
    · subst g; rw [h] at h2; cases h2
    · have := tagLt_trans y x z g h; rw [this] at h2; cases h2
  · subst h; exact tagLt_irrefl x
  · exact tagLt_asymm h
theorem tot_tag (x y : TagM) (h1 : ltOf icompareTag_m x y = false) (h2 : ltOf icompareTag_m y x = false) : x = y := by
  unfold ltOf at h1 h2; rw [icompareTag_eq] at h1 h2
  have h1 := of_decide_eq_false h1; have h2 := of_decide_eq_false h2
  rcases tagLt_tri x y with g | g | g
  · exact absurd ((tagCmp_neg x y).2 g) h1
  · exact g
  · exact absurd ((tagCmp_neg y x).2 g) h2
open Go.Shelf Go.Lib Go.Sort
theorem sortTag_ok (X : List Nat) (w : World) (s : List TagM) (A : Option Addr) (c : Nat) (sp : List Value) (hs : St X w [(blkOf A, Cl (s.flatMap tagMC ++ sp) 43)] []) (how : Ow A s.length c 3 (s.flatMap tagMC) sp) (hs62 : s.length < 4611686018427387904) :
    Fn Tryz.prog 87 [.slice A s.length c, .func (.func 68) #[] #[]] w fun v w' => v = .tuple #[] ∧ Ow A s.length c 3 ((sortF icompareTag_m s).flatMap tagMC) sp ∧ (sortF icompareTag_m s).length = s.length ∧ St X w' [(blkOf A, Cl ((sortF icompareTag_m s).flatMap tagMC ++ sp) 43)] [] ∧ Fr (keys [(blkOf A, Cl (s.flatMap tagMC ++ sp) 43)]) w w' :=
  sortFn (e := 43) Tryz.laysSortTag (agg_run Ty.ag_43) (run_sizeOf Ty.sz_43) (fun _ => rfl) (by decide) (fun x v hv => by simp [tagMC] at hv; rcases hv with h | h | h <;> subst h <;> rfl) swo_tag tot_tag (cb := []) (enters_run Ty.en_68) Ty.en_87 X w s hs62 A c sp hs how
    (fun w1 x y _ => icompareTag_ok w1 x y)
end Go.Proofs.YtdckemiebnfjcaaGreatDoor
end

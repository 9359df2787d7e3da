/- Maps whose keys are bools, integers or strings. -/
import Derived.Test.YtngofknckkiboaaGreatDoorSq
import Derived.MapKept
namespace Go.Proofs.YtngofknckkiboaaGreatDoor
open Go.MapKept

/-- A map's entries against a function. -/
structure Mk (d : TypeDesc) (es : Array MapEntry) (clock : Nat) (f : Value → Option Value) : Prop where
  st : Stamped es clock
  ks : ∀ x ∈ es.toList, IsKey d x.key
  get : ∀ k v, f k = some v ↔ ∃ x ∈ es.toList, x.key = k ∧ x.val = v
open Classical in
noncomputable def mput (f : Value → Option Value) (k v : Value) : Value → Option Value := fun k' => if k' = k then some v else f k'
theorem mput_self (f : Value → Option Value) (k v : Value) : mput f k v k = some v := by simp [mput]
theorem mput_ne (f : Value → Option Value) {k k' : Value} (v : Value) (h : k' ≠ k) : mput f k v k' = f k' := by simp [mput, h]
theorem Mk.empty (d : TypeDesc) : Mk d #[] 0 (fun _ => none) := ⟨stamped_empty 0, by simp, by simp⟩
theorem Mk.none_ {d : TypeDesc} {es : Array MapEntry} {clock : Nat} {f : Value → Option Value} (h : Mk d es clock f) {k : Value} (hk : ∀ x ∈ es.toList, x.key ≠ k) : f k = none := by
  cases hf : f k with
  | none => rfl
  | some v =>
    obtain ⟨x, hx, e, _⟩ := (h.get k v).1 hf
    exact absurd e (hk x hx)
theorem Mk.push {d : TypeDesc} {es : Array MapEntry} {clock : Nat} {f : Value → Option Value} (h : Mk d es clock f) {k v : Value} (hd : IsKey d k) (hk : ∀ x ∈ es.toList, x.key ≠ k) : Mk d (es.push { key := k, val := v, born := clock }) (clock + 1) (mput f k v) := by
  refine ⟨stamped_push h.st hk, fun x hx => ?_, fun k' v' => ?_⟩
  · simp only [Array.toList_push, List.mem_append, List.mem_singleton] at hx
    rcases hx with hx | rfl
    · exact h.ks x hx
    · exact hd
  · simp only [Array.toList_push, List.mem_append, List.mem_singleton]
    by_cases e : k' = k
    · subst e
      rw [mput_self]
      constructor
      · intro e; cases e; exact ⟨_, .inr rfl, rfl, rfl⟩
      · rintro ⟨x, hx | rfl, h1, h2⟩
        · exact absurd h1 (hk x hx)
        · simpa using h2
    · rw [mput_ne f v e, h.get]
      constructor
      · rintro ⟨x, hx, h1, h2⟩; exact ⟨x, .inl hx, h1, h2⟩
      · rintro ⟨x, hx | rfl, h1, h2⟩
        · exact ⟨x, hx, h1, h2⟩
        · exact absurd h1.symm e
theorem Mk.modify {d : TypeDesc} {es : Array MapEntry} {clock : Nat} {f : Value → Option Value} (h : Mk d es clock f) {k v : Value} {j : Nat} {e : MapEntry} (hj : es[j]? = some e) (he : e.key = k) : Mk d (es.modify j fun e => { e with key := k, val := v }) clock (mput f k v) := by
  have hkey : ∀ e', es[j]? = some e' → ({ e' with key := k, val := v } : MapEntry).key = e'.key := fun e' he' => by rw [hj] at he'; cases he'; exact he.symm
  have hnd := h.st.2.2
  refine ⟨stamped_modify h.st _ _ (fun _ _ => rfl) (fun e' _ he' => hkey e' he'), isKey_modify h.ks _ _ hkey, fun k' v' => ?_⟩
  have hat : ∀ i x, (es.modify j fun e => { e with key := k, val := v })[i]? = some x ↔ (i = j ∧ x = { e with key := k, val := v }) ∨ (i ≠ j ∧ es[i]? = some x) := fun i x => by
    rw [Array.getElem?_modify]
    by_cases hij : j = i
    · subst hij; simp [hj, eq_comm]
    · simp [hij, Ne.symm hij]
  have hmem : ∀ x, x ∈ (es.modify j fun e => { e with key := k, val := v }).toList ↔ x = { e with key := k, val := v } ∨ ∃ i, i ≠ j ∧ es[i]? = some x := fun x => by
    rw [Array.mem_toList_iff, Array.mem_iff_getElem?]
    constructor
    · rintro ⟨i, hi⟩
      rcases (hat i x).1 hi with ⟨_, h⟩ | ⟨h1, h2⟩
      · exact .inl h
      · exact .inr ⟨i, h1, h2⟩
    · rintro (h | ⟨i, h1, h2⟩)
      · exact ⟨j, (hat j x).2 (.inl ⟨rfl, h⟩)⟩
      · exact ⟨i, (hat i x).2 (.inr ⟨h1, h2⟩)⟩
  have hne : ∀ i x, i ≠ j → es[i]? = some x → x.key ≠ k := fun i x hij hi hxk => by
    have h1 : (es.toList.map (·.key))[i]? = some k := by simp [hi, hxk]
    have h2 : (es.toList.map (·.key))[j]? = some k := by simp [hj, he]
    have hlt : i < (es.toList.map (·.key)).length := (List.getElem?_eq_some_iff.1 h1).1
    exact hij ((List.getElem?_inj hlt hnd).1 (h1.trans h2.symm))
  by_cases ek : k' = k
  · subst ek
    rw [mput_self]
    constructor
    · intro q; cases q; exact ⟨_, (hmem _).2 (.inl rfl), rfl, rfl⟩
    · rintro ⟨x, hx, h1, h2⟩
      rcases (hmem x).1 hx with rfl | ⟨i, hi, hx⟩
      · simpa using h2
      · exact absurd h1 (hne i x hi hx)
  · rw [mput_ne f v ek, h.get]
    constructor
    · rintro ⟨x, hx, h1, h2⟩
      obtain ⟨i, hi⟩ := Array.mem_iff_getElem?.1 (Array.mem_toList_iff.1 hx)
      refine ⟨x, (hmem x).2 (.inr ⟨i, fun q => ?_, hi⟩), h1, h2⟩
      subst q
      rw [hj] at hi
      cases hi
      exact ek (h1.symm.trans he)
    · rintro ⟨x, hx, h1, h2⟩
      rcases (hmem x).1 hx with rfl | ⟨i, _, hx⟩
      · exact absurd h1.symm ek
      · exact ⟨x, Array.mem_toList_iff.2 (Array.mem_of_getElem? hx), h1, h2⟩

section
variable [Dfs] {P : Program} {n : Nat} {env : Env} {S : World → Prop} {o : Oper} {w : World} {H : Heap} {K : Env → World → Prop}
omit [Dfs] in
theorem Fr.setObj {w : World} {g : Nat} {o o' : Obj} (h : w.heap[g]? = some o) : Fr [g] w { w with heap := w.heap.setIfInBounds g o' } :=
  ⟨rfl, rfl, rfl, by simp, fun k _ hk => (MapKept.heap_set h).2 k (by simpa using hk), Nat.le_refl _⟩
theorem a_mkmap {t : Nat} (ho : o.op = .makeMap t none) {d : Nat} (hd : o.dst = some d) (hn : Nat.blt d n = true) (h : Hp w H)
    (hk : ∀ g w', Hp w' (H ++ [(some g, .map #[] 0)]) → Fr [] w w' → w.heap.size ≤ g → K ((d, (.map (some g))) :: env) w') : Act1 P n env w o K := by
  refine a_run hd hn (v := .map (some w.heap.size)) (w' := w.alloc (.map #[] 0)) (fun a r => ?_) (hk _ _ (h.alloc _) (Fr.alloc w _) (Nat.le_refl _))
  unfold execOp
  simp [ho, Instr.makeMap]
theorem a_mapup {t kt et g i clock : Nat} {td : TypeDesc} {m kx x : Operand} {es : Array MapEntry} {f : Value → Option Value} {k v : Value} (ho : o.op = .mapUpdate t m kx x) (hd : o.dst = none)
    (hm : env.ev m = some (.map (some g))) (hkx : env.ev kx = some k) (hx : env.ev x = some v) (ht : P.underlying t = some (.map kt et)) (hu : P.underlying kt = some td) (hik : IsKey td k)
    (h : Hp w H) (hi : H[i]? = some (some g, .map es clock)) (hM : Mk td es clock f)
    (hK : ∀ es' clock' w', Mk td es' clock' (mput f k v) → Hp w' (H.set i (some g, .map es' clock')) → Fr [g] w w' → K env w') : Act1 P n env w o K := by
  have hb := h.at hi
  rcases MapKept.findNow_spec hik es.toList 0 hM.ks with ⟨h1, h2⟩ | ⟨j, e, h1, h2, h3⟩
  · refine a_runs hd (w' := { w with heap := w.heap.setIfInBounds g (.map (es.push { key := k, val := v, born := clock }) (clock + 1)) }) (fun a r => ?_)
      (hK _ _ _ (hM.push hik h2) (h.setAt hi (Fr.setObj hb) (MapKept.heap_set hb).1) (Fr.setObj hb))
    unfold execOp
    simp [ho, r.eval hm, r.eval hkx, r.eval hx, Instr.mapUpdate, run_underlying ht, MapKept.run_getObj_map hb, MapKept.run_checkKey hu hik, MapKept.run_findKey hu h1, MapKept.run_setObj_map _ hb]
  · have hj : es[j]? = some e := by simpa using h2
    refine a_runs hd (w' := { w with heap := w.heap.setIfInBounds g (.map (es.modify j fun e => { e with key := k, val := v }) clock) }) (fun a r => ?_)
      (hK _ _ _ (hM.modify hj h3) (h.setAt hi (Fr.setObj hb) (MapKept.heap_set hb).1) (Fr.setObj hb))
    unfold execOp
    simp [ho, r.eval hm, r.eval hkx, r.eval hx, Instr.mapUpdate, run_underlying ht, MapKept.run_getObj_map hb, MapKept.run_checkKey hu hik, MapKept.run_findKey hu h1, hj, h3, MapKept.run_keyThatStays hik, MapKept.run_setObj_map _ hb]
def zeroVal (P : Program) (t : Nat) : Option Value := (P.info? t).bind (·.zero)
omit [Dfs] in
theorem run_zero {t : Nat} {z : Value} (h : zeroVal P t = some z) (w : World) : (zeroValue t).run P w = .ok z w := by
  unfold zeroVal at h
  cases hq : P.info? t with
  | none => simp [hq] at h
  | some inf => simp [hq] at h; simp [zeroValue, typeInfo, hq, h]
theorem y_lookup {t kt et g i clock : Nat} {td : TypeDesc} {m kx : Operand} {es : Array MapEntry} {f : Value → Option Value} {k z : Value} (ho : o.op = .lookup t m kx false)
    (hm : env.ev m = some (.map (some g))) (hkx : env.ev kx = some k) (ht : P.underlying t = some (.map kt et)) (hu : P.underlying kt = some td) (hz : zeroVal P et = some z) (hik : IsKey td k)
    (h : ∀ w, S w → Hp w H) (hi : H[i]? = some (some g, .map es clock)) (hM : Mk td es clock f) : Yld P n env S o ((f k).getD z) := fun a r w hS => by
  have hb := (h w hS).at hi
  rcases MapKept.findNow_spec hik es.toList 0 hM.ks with ⟨h1, h2⟩ | ⟨j, e, h1, h2, h3⟩
  · rw [hM.none_ h2]
    unfold execOp
    simp [ho, r.eval hm, r.eval hkx, Instr.lookup, run_underlying ht, MapKept.run_getObj_map hb, MapKept.run_checkKey hu hik, MapKept.run_findKey hu h1, run_zero hz]
  · rw [(hM.get k e.val).2 ⟨e, List.mem_of_getElem? h2, h3, rfl⟩]
    unfold execOp
    simp [ho, r.eval hm, r.eval hkx, Instr.lookup, run_underlying ht, MapKept.run_getObj_map hb, MapKept.run_checkKey hu hik, MapKept.run_findKey hu h1]
theorem y_lookupOk {t kt et g i clock : Nat} {td : TypeDesc} {m kx : Operand} {es : Array MapEntry} {f : Value → Option Value} {k z : Value} (ho : o.op = .lookup t m kx true)
    (hm : env.ev m = some (.map (some g))) (hkx : env.ev kx = some k) (ht : P.underlying t = some (.map kt et)) (hu : P.underlying kt = some td) (hz : zeroVal P et = some z) (hik : IsKey td k)
    (h : ∀ w, S w → Hp w H) (hi : H[i]? = some (some g, .map es clock)) (hM : Mk td es clock f) : Yld P n env S o (.tuple #[(f k).getD z, .bool (f k).isSome]) := fun a r w hS => by
  have hb := (h w hS).at hi
  rcases MapKept.findNow_spec hik es.toList 0 hM.ks with ⟨h1, h2⟩ | ⟨j, e, h1, h2, h3⟩
  · rw [hM.none_ h2]
    unfold execOp
    simp [ho, r.eval hm, r.eval hkx, Instr.lookup, run_underlying ht, MapKept.run_getObj_map hb, MapKept.run_checkKey hu hik, MapKept.run_findKey hu h1, run_zero hz]
  · rw [(hM.get k e.val).2 ⟨e, List.mem_of_getElem? h2, h3, rfl⟩]
    unfold execOp
    simp [ho, r.eval hm, r.eval hkx, Instr.lookup, run_underlying ht, MapKept.run_getObj_map hb, MapKept.run_checkKey hu hik, MapKept.run_findKey hu h1]
end
end Go.Proofs.YtngofknckkiboaaGreatDoor

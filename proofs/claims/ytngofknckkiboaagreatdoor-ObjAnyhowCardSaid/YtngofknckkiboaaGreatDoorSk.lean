/- Ranges over an own map, in whatever order. -/
import Derived.Test.YtngofknckkiboaaGreatDoorSi
import Derived.Maps.RangeRun
set_option linter.unusedVariables false
set_option linter.unusedSimpArgs false
namespace Go.Proofs.YtngofknckkiboaaGreatDoor
open Go.RowKit
open Go.ChangeMaps (setBlock)

section
variable {α β : Type} {enc : α → Value} {ev : β → Value} {es : Array MapEntry} {seen : Array Nat} {left ms : List (α × β)} {clock : Nat}
/-- What is left of a map's entries. -/
def Left (enc : α → Value) (ev : β → Value) (es : Array MapEntry) (seen : Array Nat) (left : List (α × β)) : Prop := (leftOf es seen).toList.map (fun e => (e.key, e.val)) = left.map (fun p => (enc p.1, ev p.2))
/-- The entry that came last. -/
def Ent (enc : α → Value) (ev : β → Value) (es : Array MapEntry) (seen : Array Nat) (p : α × β) : Prop := ∃ (s0 : Array Nat) (e : MapEntry), seen = s0.push e.born ∧ e ∈ es.toList ∧ e.key = enc p.1 ∧ e.val = ev p.2
theorem Left.all (hM : MOk enc ev es clock ms) : Left enc ev es #[] ms := by
  unfold Left leftOf
  rw [← hM.eq, Array.toList_filter, List.filter_eq_self.2 (by simp)]
theorem erase_perm {γ : Type} : ∀ (l : List γ) (j : Nat) (h : j < l.length), (l[j] :: l.eraseIdx j).Perm l
  | a :: l, 0, _ => by simp
  | a :: l, j + 1, h => by
    have := erase_perm l j (by simpa using h)
    simp only [List.getElem_cons_succ, List.eraseIdx_cons_succ]
    exact (List.Perm.swap _ _ _).trans (this.cons a)
theorem filter_born (e : MapEntry) : ∀ (L : List MapEntry) (j : Nat), (L.map (·.born)).Nodup → L[j]? = some e → L.filter (fun x => !(x.born == e.born)) = L.eraseIdx j
  | [], j, _, h => by simp at h
  | x :: L, 0, hn, h => by
    simp only [List.getElem?_cons_zero, Option.some.injEq] at h
    subst h
    have hn' : x.born ∉ L.map (·.born) ∧ (L.map (·.born)).Nodup := List.nodup_cons.1 hn
    simp only [List.eraseIdx_cons_zero, List.filter_cons, beq_self_eq_true, Bool.not_true, Bool.false_eq_true, if_false]
    rw [List.filter_eq_self]
    intro y hy
    simp only [Bool.not_eq_true', beq_eq_false_iff_ne]
    exact fun he => hn'.1 (by rw [← he]; exact List.mem_map.2 ⟨y, hy, rfl⟩)
  | x :: L, j + 1, hn, h => by
    have hn' : x.born ∉ L.map (·.born) ∧ (L.map (·.born)).Nodup := List.nodup_cons.1 hn
    have hL : L[j]? = some e := by simpa using h
    have hx : x.born ≠ e.born := fun he => hn'.1 (by rw [he]; exact List.mem_map.2 ⟨e, List.mem_of_getElem? hL, rfl⟩)
    simp only [List.eraseIdx_cons_succ, List.filter_cons]
    rw [if_pos (by simpa using hx), filter_born e L j hn'.2 hL]
theorem Left.step (hM : MOk enc ev es clock ms) (hl : Left enc ev es seen left) {e : MapEntry} (he : e ∈ (leftOf es seen).toList) :
    ∃ p left', (p :: left').Perm left ∧ Left enc ev es (seen.push e.born) left' ∧ Ent enc ev es (seen.push e.born) p := by
  obtain ⟨j, hj, hje⟩ := List.getElem_of_mem he
  have hje' : (leftOf es seen).toList[j]? = some e := by rw [List.getElem?_eq_getElem hj, hje]
  have hlen : (leftOf es seen).toList.length = left.length := by have := congrArg List.length hl; simpa using this
  have hjl : j < left.length := by omega
  have hp := congrArg (fun l => l[j]?) hl
  simp only [List.getElem?_map, hje', Option.map_some, List.getElem?_eq_getElem hjl, Option.some.injEq, Prod.mk.injEq] at hp
  have hes : e ∈ es.toList := by unfold leftOf at he; simp at he ⊢; exact he.1
  refine ⟨left[j], left.eraseIdx j, erase_perm left j hjl, ?_, ⟨seen, e, rfl, hes, hp.1, hp.2⟩⟩
  have e1 : (leftOf es (seen.push e.born)).toList = (leftOf es seen).toList.filter (fun x => !(x.born == e.born)) := by
    unfold leftOf
    simp only [Array.toList_filter, List.filter_filter]
    apply List.filter_congr
    intro x _
    by_cases h : x.born = e.born
    · simp [h]
    · simp [h]
  have hn : ((leftOf es seen).toList.map (·.born)).Nodup := by
    unfold leftOf
    rw [Array.toList_filter]
    exact hM.st.2.1.sublist (List.Sublist.map _ List.filter_sublist)
  unfold Left at hl ⊢
  rw [e1, filter_born e _ j hn hje', Go.ChangeMaps.map_eraseIdx, Go.ChangeMaps.map_eraseIdx, hl]
end
section
variable {α β : Type} {enc : α → Value} {ev : β → Value} {es : Array MapEntry} {seen : Array Nat} {left ms : List (α × β)} {clock : Nat}
variable [Dfs] {P : Program} {n : Nat} {env : Env} {w : World} {o : Oper} {K : Env → World → Prop} {H : Heap}
theorem a_rangeM {t k e g i d : Nat} {x : Operand} (ho : o.op = .range t x) (hd : o.dst = some d) (hn : Nat.blt d n = true) (hx : env.ev x = some (.map (some g))) (ht : P.underlying t = some (.map k e)) (h : Hp w H) (hi : H[i]? = some (some g, .map es clock))
    (hK : ∀ r w', Hp w' (H ++ [(some r, .mapIter (some g) clock #[] clock)]) → Fr [] w w' → w.heap.size ≤ r → K ((d, .pointer (some ⟨r, 0, none⟩)) :: env) w') : Act1 P n env w o K := by
  refine a_run hd hn (fun a r => ?_) (hK w.heap.size (w.alloc (.mapIter (some g) clock #[] clock)) (h.alloc _) (Fr.alloc w _) (Nat.le_refl _))
  have := run_range_map (P := P) w t k e g es clock ht (h.at hi)
  unfold execOp
  simp only [ho, r.eval hx, Sem.run_bind, this, Result.andThen_ok]
  rfl
omit [Dfs] in
theorem Fr.setBlock (w : World) (g : Nat) (o : Obj) : Fr [g] w (setBlock w g o) := ⟨rfl, rfl, rfl, by simp [Go.ChangeMaps.setBlock], fun k _ hk => by
  show (w.heap.setIfInBounds g o)[k]? = _
  rw [Array.getElem?_setIfInBounds_ne (fun e => hk (by simp [e]))], Nat.le_refl _⟩
omit [Dfs] in
theorem setBlock_at {w : World} {g : Nat} {o : Obj} (h : g < w.heap.size) : (setBlock w g o).heap[g]? = some o := by
  show (w.heap.setIfInBounds g o)[g]? = _
  rw [Array.getElem?_setIfInBounds_self_of_lt h]
theorem a_nextM {r g ir im d : Nat} {x : Operand} (ho : o.op = .next x false) (hd : o.dst = some d) (hn : Nat.blt d n = true) (hx : env.ev x = some (.pointer (some ⟨r, 0, none⟩))) (h : Hp w H) (hir : H[ir]? = some (some r, .mapIter (some g) clock seen clock)) (him : H[im]? = some (some g, .map es clock)) (hM : MOk enc ev es clock ms) (hl : Left enc ev es seen left)
    (h0 : left = [] → K ((d, .tuple #[.bool false]) :: env) w)
    (h1 : ∀ p left' seen' w', (p :: left').Perm left → Left enc ev es seen' left' → Ent enc ev es seen' p → Hp w' (H.set ir (some r, .mapIter (some g) clock seen' clock)) → Fr [r] w w' → K ((d, .tuple #[.bool true, enc p.1, ev p.2]) :: env) w') : Act1 P n env w o K := by
  rcases run_next_at (P := P) w o.type r g clock clock seen es clock (h.at hir) (h.at him) hM.st.1 (Nat.le_refl _) with ⟨hz, hr⟩ | ⟨e, he, w1, hw1, hr⟩
  · have hl0 : left = [] := by
      have := congrArg List.length hl
      simp only [List.length_map, Array.length_toList, hz] at this
      exact List.eq_nil_of_length_eq_zero this.symm
    refine a_run hd hn (fun a q => ?_) (h0 hl0)
    unfold execOp
    simp only [ho, q.eval hx, Sem.run_bind, hr, Result.andThen_ok]
    rfl
  · obtain ⟨p, left', hp, hl', hent⟩ := Left.step hM hl he
    have hpv : e.key = enc p.1 ∧ e.val = ev p.2 := by
      obtain ⟨s0, e', h2, h3, h4, h5⟩ := hent
      have hb : e'.born = e.born := by
        have := congrArg Array.back? h2
        simpa using this.symm
      have hes : e ∈ es.toList := by unfold leftOf at he; simp at he ⊢; exact he.1
      have hf := find_born e es.toList hM.st.2.1 hes
      have hf' := find_born e' es.toList hM.st.2.1 h3
      rw [hb, hf] at hf'
      injection hf' with hf'
      subst hf'
      exact ⟨h4, h5⟩
    rw [hpv.1, hpv.2] at hr
    have hw : Fr [] w w1 := by rcases hw1 with rfl | rfl; exact Fr.refl _ _; exact Fr.drew w
    have hh := h.keep0 hw
    have hf : Fr [r] w (setBlock w1 r (.mapIter (some g) clock (seen.push e.born) clock)) := (hw.weak0 (X := [r])).step (Fr.setBlock w1 r _) (fun y hy => .inl hy)
    refine a_run hd hn (fun a q => ?_) (h1 p left' _ _ hp hl' hent (hh.setAt hir (Fr.setBlock w1 r _) (setBlock_at (hh.lt hir))) hf)
    unfold execOp
    simp only [ho, q.eval hx, Sem.run_bind, hr, Result.andThen_ok]
    rfl
end
section
variable {α β : Type} {enc : α → Value} {ev : β → Value} {es : Array MapEntry} {seen : Array Nat} {ms : List (α × β)} {clock : Nat}
variable [Dfs] {P : Program} {n : Nat} {env : Env} {S : World → Prop} {o : Oper} {H : Heap}
theorem y_entryM {r g ir im : Nat} {x : Operand} {p : α × β} (ho : o.op = .entry x) (hx : env.ev x = some (.pointer (some ⟨r, 0, none⟩))) (h : ∀ w, S w → Hp w H) (hir : H[ir]? = some (some r, .mapIter (some g) clock seen clock)) (him : H[im]? = some (some g, .map es clock)) (hM : MOk enc ev es clock ms) (he : Ent enc ev es seen p) :
    Yld P n env S o (.tuple #[enc p.1, ev p.2]) := fun a q w hS => by
  obtain ⟨s0, e, h2, h3, h4, h5⟩ := he
  subst h2
  have := run_entry_at (P := P) w r g clock s0 es clock e ((h w hS).at hir) ((h w hS).at him) h3 hM.st.2.1
  rw [h4, h5] at this
  unfold execOp
  simp only [ho, q.eval hx, Sem.run_bind, this, Result.andThen_ok]
  rfl
end
end Go.Proofs.YtngofknckkiboaaGreatDoor

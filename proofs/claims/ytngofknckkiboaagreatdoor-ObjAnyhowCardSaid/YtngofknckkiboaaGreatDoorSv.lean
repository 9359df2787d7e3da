/- Maps as lists of entries in the order in which their keys came: keys and values without memory. -/
import Derived.Test.YtngofknckkiboaaGreatDoorSe
import Derived.Test.YtngofknckkiboaaGreatDoorSw
set_option linter.unusedVariables false
set_option linter.unusedSimpArgs false
namespace Go.Proofs.YtngofknckkiboaaGreatDoor
open Go.RowKit Go.MapKept

def mget {α β : Type} [DecidableEq α] (m : List (α × β)) (k : α) : Option β := (m.find? (fun e => decide (e.1 = k))).map (·.2)
def mset {α β : Type} [DecidableEq α] : List (α × β) → α → β → List (α × β)
  | [], k, v => [(k, v)]
  | e :: r, k, v => if e.1 = k then (k, v) :: r else e :: mset r k v
def mdel {α β : Type} [DecidableEq α] : List (α × β) → α → List (α × β)
  | [], _ => []
  | e :: r, k => if e.1 = k then r else e :: mdel r k

/-- What a key's type must do. -/
structure KLaw {α : Type} [DecidableEq α] (P : Program) (kt : TypeId) (enc : α → Value) : Prop where
  inj : ∀ x y, enc x = enc y → x = y
  chk : ∀ em x w, (Instr.checkKey em 10000 kt (enc x)).run P w = .ok () w
  fnd : ∀ (x : α) (ks : List α) (es : List MapEntry), es.map (·.key) = ks.map enc → ∀ w, ((Instr.findKey kt (enc x) es).run P w = .ok none w ∧ ∀ k ∈ ks, k ≠ x) ∨ ∃ (j : Nat) (e : MapEntry), (Instr.findKey kt (enc x) es).run P w = .ok (some (j, e.val)) w ∧ es[j]? = some e ∧ ks[j]? = some x
  stay : ∀ x w, (Instr.keyThatStays (enc x) (enc x)).run P w = .ok (enc x) w

theorem KLaw.plain {α : Type} [DecidableEq α] {P : Program} {kt : TypeId} {enc : α → Value} {d : TypeDesc} (hu : P.underlying kt = some d) (hk : ∀ x, IsKey d (enc x)) (inj : ∀ x y, enc x = enc y → x = y) : KLaw P kt enc :=
  ⟨inj, fun em x w => run_checkKey hu (hk x) em 9999, fun x ks es he w => by
    have hks : ∀ e ∈ es, IsKey d e.key := fun e hx => by
      have : e.key ∈ ks.map enc := by rw [← he]; exact List.mem_map_of_mem hx
      obtain ⟨y, _, hy⟩ := List.mem_map.1 this
      rw [← hy]; exact hk y
    rcases findNow_spec (hk x) es 0 hks with ⟨h1, h2⟩ | ⟨j, e, h1, h2, h3⟩
    · refine .inl ⟨run_findKey hu h1, fun k hk' e => ?_⟩
      subst e
      have : enc k ∈ es.map (·.key) := by rw [he]; exact List.mem_map_of_mem hk'
      obtain ⟨y, hy, e2⟩ := List.mem_map.1 this
      exact h2 y hy e2
    · refine .inr ⟨j, e, ?_, h2, ?_⟩
      · have := run_findKey (P := P) (w := w) hu h1
        rw [Nat.zero_add] at this
        exact this
      · have h4 : (es.map (·.key))[j]? = some (enc x) := by rw [List.getElem?_map, h2]; simp [h3]
        rw [he, List.getElem?_map] at h4
        cases hj : ks[j]? with
        | none => rw [hj] at h4; cases h4
        | some y => rw [hj] at h4; simp at h4; rw [inj _ _ h4], fun x w => run_keyThatStays (hk x)⟩
theorem KLaw.int {P : Program} {kt : TypeId} {k : IntKind} (hu : P.underlying kt = some (.int k)) : KLaw P kt (fun x : Int => .int k x) := KLaw.plain hu (fun _ => rfl) (by intro x y h; injection h)
theorem KLaw.str {P : Program} {kt : TypeId} (hu : P.underlying kt = some .string) : KLaw P kt (fun x : List UInt8 => sv x) := KLaw.plain hu (fun _ => trivial) (by intro x y h; injection h with h; injection h with h; simpa using h)
theorem KLaw.bool {P : Program} {kt : TypeId} (hu : P.underlying kt = some .bool) : KLaw P kt (fun x : Bool => .bool x) := KLaw.plain hu (fun _ => trivial) (by intro x y h; injection h)

def flatV : Value → Bool
  | .int _ _ | .bool _ | .string _ => true
  | _ => false
theorem sb_flat {v : Value} (h : flatV v = true) (n : Nat) : Instr.sameBits n v v = true := by
  cases v <;> simp [flatV] at h <;> cases n <;> simp [Instr.sameBits, bytes_beq]
theorem sb_cells (n : Nat) (cs : List Value) (h : ∀ v ∈ cs, flatV v = true) : Instr.sameBits (n + 1) (.agg cs.toArray) (.agg cs.toArray) = true := by
  unfold Instr.sameBits
  simp only [BEq.rfl, Bool.true_and, List.all_eq_true]
  intro p hp
  have : p.1 = p.2 ∧ p.1 ∈ cs := by
    clear h
    revert hp
    induction cs with
    | nil => intro hp; simp at hp
    | cons a r ih =>
      intro hp
      simp only [List.zip_cons_cons, List.mem_cons] at hp
      rcases hp with rfl | hp
      · simp
      · obtain ⟨h1, h2⟩ := ih hp
        exact ⟨h1, by simp [h2]⟩
  obtain ⟨h1, h2⟩ := this
  rw [← h1]
  exact sb_flat (h _ h2) n
theorem findNow_agg {d : TypeDesc} {cs : Array Value} (hd : ∀ v, Instr.sameNow d (.agg cs) v = none) : ∀ (es : List MapEntry) (i : Nat), Instr.findNow d (.agg cs) es i = if es = [] then some none else none
  | [], _ => rfl
  | e :: r, i => by simp [Instr.findNow, hd]
theorem KLaw.agg {α : Type} [DecidableEq α] {P : Program} {kt : TypeId} {enc : α → List Value} {kd : TypeDesc} (hu : P.underlying kt = some kd) (hkd : ∀ cs v, Instr.sameNow kd (.agg cs) v = none) (hv : aggSize P kt ≠ none) (heq : ∀ x y, eqVals P 8 kt (enc x) (enc y) = some (decide (x = y)))
    (hchk : ∀ em x w, (Instr.checkKey em 10000 kt (.agg (enc x).toArray)).run P w = .ok () w) (hfl : ∀ x, ∀ v ∈ enc x, flatV v = true) : KLaw P kt (fun x => .agg (enc x).toArray) := by
  have inj : ∀ x y, enc x = enc y → x = y := fun x y e => by
    have h1 := heq x y
    have h2 := heq x x
    rw [← e, h2] at h1
    simpa using h1
  have hval : ∀ cs : List Value, valOf P kt cs (.agg cs.toArray) := fun cs => by
    unfold valOf; unfold aggSize at hv
    cases hu : P.underlying kt with
    | none => simp [hu] at hv
    | some d => cases d <;> first | rfl | (simp [hu] at hv; done)
  have hask : ∀ (x : α) (ks : List α) (es : List MapEntry) (i : Nat), es.map (·.key) = ks.map (fun x => Value.agg (enc x).toArray) → ∀ w, ((Instr.findAsking kt (.agg (enc x).toArray) es i).run P w = .ok none w ∧ ∀ k ∈ ks, k ≠ x) ∨ ∃ (j : Nat) (e : MapEntry), (Instr.findAsking kt (.agg (enc x).toArray) es i).run P w = .ok (some (i + j, e.val)) w ∧ es[j]? = some e ∧ ks[j]? = some x := by
    intro x ks es
    induction es generalizing ks with
    | nil => intro i he w; cases ks with
      | nil => exact .inl ⟨rfl, by simp⟩
      | cons a r => simp at he
    | cons e es ih =>
      intro i he w
      cases ks with
      | nil => simp at he
      | cons a r =>
        simp only [List.map_cons, List.cons.injEq] at he
        have hrun : (Op.equal kt (.agg (enc x).toArray) e.key).run P w = .ok (decide (x = a)) w := by
          rw [he.1]
          have h := run_eqVals 8 kt (enc x) (enc a) _ (heq x a) _ _ (hval _) (hval _) 9992 w
          simp only [Op.equal, Op.maxDepth, h]
        unfold Instr.findAsking
        simp only [Sem.run_bind, hrun, Result.andThen_ok]
        by_cases ex : x = a
        · subst ex
          refine .inr ⟨0, e, by simp, rfl, rfl⟩
        · simp only [ex, decide_false, Bool.false_eq_true, if_false]
          rcases ih r (i + 1) he.2 w with ⟨h1, h2⟩ | ⟨j, e', h1, h2, h3⟩
          · exact .inl ⟨h1, fun k hk => by
              rcases List.mem_cons.1 hk with rfl | hk
              · exact fun q => ex q.symm
              · exact h2 k hk⟩
          · exact .inr ⟨j + 1, e', by rw [h1, show i + 1 + j = i + (j + 1) by omega], by simpa using h2, by simpa using h3⟩
  refine ⟨fun x y e => inj x y (by simpa using e), hchk, fun x ks es he w => ?_, fun x w => ?_⟩
  · have hs : ∀ v, Instr.sameNow kd (.agg (enc x).toArray) v = none := hkd _
    have hn := findNow_agg hs es 0
    by_cases e0 : es = []
    · subst e0
      have : ks = [] := by cases ks <;> simp at he; rfl
      subst this
      exact .inl ⟨run_findKey hu rfl, by simp⟩
    · rw [if_neg e0] at hn
      have hfk : (Instr.findKey kt (.agg (enc x).toArray) es).run P w = (Instr.findAsking kt (.agg (enc x).toArray) es 0).run P w := by
        simp [Instr.findKey, run_underlying hu, Result.andThen, hn]
      rw [hfk]
      have := hask x ks es 0 he w
      simpa using this
  · have := sb_cells 9999 (enc x) (hfl x)
    simp only [Instr.keyThatStays, this, if_true]
    rfl

/-- A map's entries, and what they mean. -/
structure MOk {α β : Type} (enc : α → Value) (ev : β → Value) (es : Array MapEntry) (clock : Nat) (m : List (α × β)) : Prop where
  st : Stamped es clock
  eq : es.toList.map (fun e => (e.key, e.val)) = m.map (fun p => (enc p.1, ev p.2))
section
variable {α β : Type} {enc : α → Value} {ev : β → Value} {es : Array MapEntry} {clock : Nat} {m : List (α × β)}
theorem MOk.empty : MOk enc ev #[] 0 ([] : List (α × β)) := ⟨stamped_empty 0, rfl⟩
theorem MOk.ks (h : MOk enc ev es clock m) : es.toList.map (·.key) = (m.map (·.1)).map enc := by
  have := congrArg (List.map Prod.fst) h.eq
  simpa [List.map_map, Function.comp_def] using this
theorem MOk.len (h : MOk enc ev es clock m) : es.size = m.length := by
  have := congrArg List.length h.eq
  simpa using this
theorem MOk.at {j : Nat} {e : MapEntry} {x : α} (h : MOk enc ev es clock m) (h1 : es.toList[j]? = some e) : ∃ p, m[j]? = some p ∧ e.key = enc p.1 ∧ e.val = ev p.2 := by
  have h2 := congrArg (fun l => l[j]?) h.eq
  simp only [List.getElem?_map, h1, Option.map_some] at h2
  cases hm : m[j]? with
  | none => rw [hm] at h2; cases h2
  | some p => rw [hm] at h2; simp at h2; exact ⟨p, rfl, h2.1, h2.2⟩
variable [DecidableEq α]
theorem MOk.nd {P : Program} {kt : TypeId} (L : KLaw P kt enc) (h : MOk enc ev es clock m) : (m.map (·.1)).Nodup := by
  have h1 := h.st.2.2
  rw [h.ks] at h1
  exact List.Pairwise.of_map enc (fun a b hab e => hab (by rw [e])) h1
theorem mget_none (m : List (α × β)) {x : α} (h : ∀ k ∈ m.map (·.1), k ≠ x) : mget m x = none := by
  unfold mget
  rw [List.find?_eq_none.2 fun e he => by simpa using h e.1 (List.mem_map_of_mem he)]
  rfl
theorem mget_at (m : List (α × β)) (nd : (m.map (·.1)).Nodup) {j : Nat} {p : α × β} (h : m[j]? = some p) : mget m p.1 = some p.2 := by
  induction m generalizing j with
  | nil => simp at h
  | cons a r ih =>
    simp only [List.map_cons, List.nodup_cons] at nd
    unfold mget
    cases j with
    | zero => simp at h; subst h; simp
    | succ j =>
      simp at h
      have hin : p ∈ r := List.mem_of_getElem? h
      have hne : a.1 ≠ p.1 := fun e => nd.1 (by rw [e]; exact List.mem_map_of_mem hin)
      rw [List.find?_cons_of_neg (by simpa using hne)]
      exact ih nd.2 h
theorem mset_new (m : List (α × β)) {x : α} (v : β) (h : ∀ k ∈ m.map (·.1), k ≠ x) : mset m x v = m ++ [(x, v)] := by
  induction m with
  | nil => rfl
  | cons a r ih =>
    have h1 : a.1 ≠ x := h a.1 (by simp)
    simp only [mset, h1, if_false, List.cons_append]
    rw [ih fun k hk => h k (by simp at hk ⊢; exact .inr hk)]
theorem mset_old (m : List (α × β)) (nd : (m.map (·.1)).Nodup) {x : α} (v : β) {j : Nat} (h : (m.map (·.1))[j]? = some x) : mset m x v = m.set j (x, v) := by
  induction m generalizing j with
  | nil => simp at h
  | cons a r ih =>
    simp only [List.map_cons, List.nodup_cons] at nd
    cases j with
    | zero => simp at h; simp [mset, h]
    | succ j =>
      simp only [List.map_cons, List.getElem?_cons_succ] at h
      have hne : a.1 ≠ x := fun e => nd.1 (by rw [e]; exact List.mem_of_getElem? h)
      simp only [mset, hne, if_false, List.set_cons_succ]
      rw [ih nd.2 h]
theorem mdel_new (m : List (α × β)) {x : α} (h : ∀ k ∈ m.map (·.1), k ≠ x) : mdel m x = m := by
  induction m with
  | nil => rfl
  | cons a r ih =>
    have h1 : a.1 ≠ x := h a.1 (by simp)
    simp only [mdel, h1, if_false]
    rw [ih fun k hk => h k (by simp at hk ⊢; exact .inr hk)]
theorem mdel_old (m : List (α × β)) (nd : (m.map (·.1)).Nodup) {x : α} {j : Nat} (h : (m.map (·.1))[j]? = some x) : mdel m x = m.eraseIdx j := by
  induction m generalizing j with
  | nil => simp at h
  | cons a r ih =>
    simp only [List.map_cons, List.nodup_cons] at nd
    cases j with
    | zero => simp at h; simp [mdel, h]
    | succ j =>
      simp only [List.map_cons, List.getElem?_cons_succ] at h
      have hne : a.1 ≠ x := fun e => nd.1 (by rw [e]; exact List.mem_of_getElem? h)
      simp only [mdel, hne, if_false, List.eraseIdx_cons_succ]
      rw [ih nd.2 h]
theorem mget_mset (m : List (α × β)) (x y : α) (v : β) : mget (mset m x v) y = if y = x then some v else mget m y := by
  induction m with
  | nil =>
    by_cases e : x = y
    · subst e; simp [mset, mget]
    · simp [mset, mget, e, Ne.symm e]
  | cons a r ih =>
    unfold mset
    by_cases e : a.1 = x
    · simp only [e, if_true]
      by_cases e2 : y = x
      · subst e2; simp [mget]
      · have : ¬ x = y := fun q => e2 q.symm
        simp only [e2, if_false]
        unfold mget
        rw [List.find?_cons_of_neg (by simpa using this), List.find?_cons_of_neg (by rw [e]; simpa using this)]
    · simp only [e, if_false]
      by_cases e2 : a.1 = y
      · have : ¬ y = x := fun q => e (e2.trans q)
        simp [mget, e2, this]
      · have h1 : mget (a :: mset r x v) y = mget (mset r x v) y := by unfold mget; rw [List.find?_cons_of_neg (by simpa using e2)]
        have h2 : mget (a :: r) y = mget r y := by unfold mget; rw [List.find?_cons_of_neg (by simpa using e2)]
        rw [h1, h2, ih]
end
section
variable [Dfs] {P : Program} {n : Nat} {env : Env} {S : World → Prop} {o : Oper} {w : World} {H : Heap} {K : Env → World → Prop} {α β : Type} [DecidableEq α] {enc : α → Value} {ev : β → Value}
theorem a_mapupM {t kt et g i clock : Nat} {m kx x : Operand} {es : Array MapEntry} {ms : List (α × β)} {k : α} {u : β} (ho : o.op = .mapUpdate t m kx x) (hd : o.dst = none)
    (hm : env.ev m = some (.map (some g))) (hkx : env.ev kx = some (enc k)) (hx : env.ev x = some (ev u)) (ht : P.underlying t = some (.map kt et)) (L : KLaw P kt enc)
    (h : Hp w H) (hi : H[i]? = some (some g, .map es clock)) (hM : MOk enc ev es clock ms)
    (hK : ∀ es' clock' w', MOk enc ev es' clock' (mset ms k u) → Hp w' (H.set i (some g, .map es' clock')) → Fr [g] w w' → K env w') : Act1 P n env w o K := by
  have hb := h.at hi
  rcases L.fnd k (ms.map (·.1)) es.toList hM.ks w with ⟨h1, h2⟩ | ⟨j, e, h1, h2, h3⟩
  · refine a_runs hd (w' := { w with heap := w.heap.setIfInBounds g (.map (es.push { key := enc k, val := ev u, born := clock }) (clock + 1)) }) (fun a r => ?_)
      (hK _ _ _ ⟨stamped_push hM.st fun y hy e => ?_, ?_⟩ (h.setAt hi (Fr.setObj hb) (MapKept.heap_set hb).1) (Fr.setObj hb))
    · unfold execOp
      simp [ho, r.eval hm, r.eval hkx, r.eval hx, Instr.mapUpdate, run_underlying ht, MapKept.run_getObj_map hb, L.chk, h1, MapKept.run_setObj_map _ hb]
    · have : y.key ∈ (ms.map (·.1)).map enc := by rw [← hM.ks]; exact List.mem_map_of_mem hy
      obtain ⟨z, hz, e2⟩ := List.mem_map.1 this
      exact h2 z hz (L.inj _ _ (e2.trans e))
    · rw [mset_new ms u h2]
      simp [hM.eq]
  · have hj : es[j]? = some e := by simpa using h2
    obtain ⟨p, hp, hpk, hpv⟩ := hM.at (x := k) h2
    have hpx : p.1 = k := by rw [List.getElem?_map, hp] at h3; simpa using h3
    have hek : e.key = enc k := by rw [hpk, hpx]
    have hkey : ∀ e', es[j]? = some e' → ({ e' with key := enc k, val := ev u } : MapEntry).key = e'.key := fun e' he' => by rw [hj] at he'; cases he'; exact hek.symm
    refine a_runs hd (w' := { w with heap := w.heap.setIfInBounds g (.map (es.modify j fun e => { e with key := enc k, val := ev u }) clock) }) (fun a r => ?_)
      (hK (es.modify j fun e => { e with key := enc k, val := ev u }) clock _ ⟨stamped_modify hM.st _ _ (fun _ _ => rfl) (fun e' _ he' => hkey e' he'), ?_⟩ (h.setAt hi (Fr.setObj hb) (MapKept.heap_set hb).1) (Fr.setObj hb))
    · unfold execOp
      simp [ho, r.eval hm, r.eval hkx, r.eval hx, Instr.mapUpdate, run_underlying ht, MapKept.run_getObj_map hb, L.chk, h1, hj, hek, L.stay, MapKept.run_setObj_map _ hb]
    · rw [mset_old ms (hM.nd L) u h3]
      apply List.ext_getElem?
      intro q
      have hq := congrArg (fun l => l[q]?) hM.eq
      simp only [List.getElem?_map, Array.getElem?_toList] at hq
      rw [List.getElem?_map, List.getElem?_map, List.getElem?_set, Array.getElem?_toList, Array.getElem?_modify]
      by_cases e : j = q
      · subst e
        have hlt : j < ms.length := (List.getElem?_eq_some_iff.1 hp).1
        simp [hj, hlt]
      · simp only [e, if_false]; exact hq
omit [Dfs] in
theorem lookM {kt clock : Nat} {es : Array MapEntry} {ms : List (α × β)} (L : KLaw P kt enc) (hM : MOk enc ev es clock ms) (k : α) (w : World) : ∃ r, (Instr.findKey kt (enc k) es.toList).run P w = .ok r w ∧ r.map (·.2) = (mget ms k).map ev := by
  rcases L.fnd k (ms.map (·.1)) es.toList hM.ks w with ⟨h1, h2⟩ | ⟨j, e, h1, h2, h3⟩
  · exact ⟨_, h1, by rw [mget_none ms h2]; rfl⟩
  · obtain ⟨p, hp, hpk, hpv⟩ := hM.at (x := k) h2
    have hpx : p.1 = k := by rw [List.getElem?_map, hp] at h3; simpa using h3
    exact ⟨_, h1, by rw [← hpx, mget_at ms (hM.nd L) hp, hpv]; rfl⟩
theorem y_lookupM {t kt et g i clock : Nat} {m kx : Operand} {es : Array MapEntry} {ms : List (α × β)} {k : α} {z : β} (ho : o.op = .lookup t m kx false)
    (hm : env.ev m = some (.map (some g))) (hkx : env.ev kx = some (enc k)) (ht : P.underlying t = some (.map kt et)) (L : KLaw P kt enc) (hz : zeroVal P et = some (ev z))
    (h : ∀ w, S w → Hp w H) (hi : H[i]? = some (some g, .map es clock)) (hM : MOk enc ev es clock ms) : Yld P n env S o (ev ((mget ms k).getD z)) := fun a r w hS => by
  have hb := (h w hS).at hi
  obtain ⟨q, h1, h2⟩ := lookM L hM k w
  unfold execOp
  cases q with
  | none =>
    cases hg : mget ms k with
    | some _ => rw [hg] at h2; cases h2
    | none => simp [ho, r.eval hm, r.eval hkx, Instr.lookup, run_underlying ht, MapKept.run_getObj_map hb, L.chk, h1, run_zero hz]
  | some q =>
    cases hg : mget ms k with
    | none => rw [hg] at h2; cases h2
    | some u => rw [hg] at h2; simp at h2; simp [ho, r.eval hm, r.eval hkx, Instr.lookup, run_underlying ht, MapKept.run_getObj_map hb, L.chk, h1, h2]
theorem y_lookupOkM {t kt et g i clock : Nat} {m kx : Operand} {es : Array MapEntry} {ms : List (α × β)} {k : α} {z : β} (ho : o.op = .lookup t m kx true)
    (hm : env.ev m = some (.map (some g))) (hkx : env.ev kx = some (enc k)) (ht : P.underlying t = some (.map kt et)) (L : KLaw P kt enc) (hz : zeroVal P et = some (ev z))
    (h : ∀ w, S w → Hp w H) (hi : H[i]? = some (some g, .map es clock)) (hM : MOk enc ev es clock ms) : Yld P n env S o (.tuple #[ev ((mget ms k).getD z), .bool (mget ms k).isSome]) := fun a r w hS => by
  have hb := (h w hS).at hi
  obtain ⟨q, h1, h2⟩ := lookM L hM k w
  unfold execOp
  cases q with
  | none =>
    cases hg : mget ms k with
    | some _ => rw [hg] at h2; cases h2
    | none => simp [ho, r.eval hm, r.eval hkx, Instr.lookup, run_underlying ht, MapKept.run_getObj_map hb, L.chk, h1, run_zero hz]
  | some q =>
    cases hg : mget ms k with
    | none => rw [hg] at h2; cases h2
    | some u => rw [hg] at h2; simp at h2; simp [ho, r.eval hm, r.eval hkx, Instr.lookup, run_underlying ht, MapKept.run_getObj_map hb, L.chk, h1, h2]
end
end Go.Proofs.YtngofknckkiboaaGreatDoor

/- The rules of the walks once more, with their closed conditions as one equation: the printed walks are shorter. -/
import Derived.Test.YtdckemiebnfjcaaGreatDoorSw
section
set_option linter.unusedVariables false
set_option linter.unusedSimpArgs false
namespace Go.Proofs.YtdckemiebnfjcaaGreatDoor
open Go.RowKit Go.MapKept
def mget {α β : Type} [DecidableEq α] (m : List (α × β)) (k : α) : Option β := (m.find? (fun e => decide (e.1 = k))).map (·.2)
def mset {α β : Type} [DecidableEq α] : List (α × β) → α → β → List (α × β)
  | [], k, v => [(k, v)]
  | e :: r, k, v => if e.1 = k then (k, v) :: r else e :: mset r k v
structure KLaw {α : Type} [DecidableEq α] (P : Program) (kt : TypeId) (enc : α → Value) : Prop where
  inj : ∀ x y, enc x = enc y → x = y
  chk : ∀ em x w, (Instr.checkKey em 10000 kt (enc x)).run P w = .ok () w
  fnd : ∀ (x : α) (ks : List α) (es : List MapEntry), es.map (·.key) = ks.map enc → ∀ w, ((Instr.findKey kt (enc x) es).run P w = .ok none w ∧ ∀ k ∈ ks, k ≠ x) ∨ ∃ (j : Nat) (e : MapEntry), (Instr.findKey kt (enc x) es).run P w = .ok (some (j, e.val)) w ∧ es[j]? = some e ∧ ks[j]? = some x
  stay : ∀ x w, (Instr.keyThatStays (enc x) (enc x)).run P w = .ok (enc x) w
theorem KLaw.plain {α : Type} [DecidableEq α] {P : Program} {kt : TypeId} {enc : α → Value} {d : TypeDesc} (hu : P.underlying kt = some d) (hk : ∀ x, IsKey d (enc x)) (inj : ∀ x y, enc x = enc y → x = y) : KLaw P kt enc :=
  ⟨inj, fun em x w => run_checkKey hu (hk x) em 9999, fun x ks es he w => by
    have hks : ∀ e ∈ es, IsKey d e.key := fun e hx => by
      have : e.key ∈ ks.map enc := by rw [← he]; exact List.mem_map_of_mem hx
      obtain ⟨y, _, hy⟩ := List.mem_map.1 this
      rw [← hy]; exact hk y
    rcases findNow_spec (hk x) es 0 hks with ⟨h1, h2⟩ | ⟨j, e, h1, h2, h3⟩
    · refine .inl ⟨run_findKey hu h1, fun k hk' e => ?_⟩
      subst e
      have : enc k ∈ es.map (·.key) := by rw [he]; exact List.mem_map_of_mem hk'
      obtain ⟨y, hy, e2⟩ := List.mem_map.1 this
      exact h2 y hy e2
    · refine .inr ⟨j, e, ?_, h2, ?_⟩
      · have := run_findKey (P := P) (w := w) hu h1
        rw [Nat.zero_add] at this
        exact this
      · have h4 : (es.map (·.key))[j]? = some (enc x) := by rw [List.getElem?_map, h2]; simp [h3]
        rw [he, List.getElem?_map] at h4
        cases hj : ks[j]? with
        | none => rw [hj] at h4; cases h4
        | some y => rw [hj] at h4; simp at h4; rw [inj _ _ h4], fun x w => run_keyThatStays (hk x)⟩
theorem KLaw.int {P : Program} {kt : TypeId} {k : IntKind} (hu : P.underlying kt = some (.int k)) : KLaw P kt (fun x : Int => .int k x) := KLaw.plain hu (fun _ => rfl) (by intro x y h; injection h)
theorem KLaw.str {P : Program} {kt : TypeId} (hu : P.underlying kt = some .string) : KLaw P kt (fun x : List UInt8 => sv x) := KLaw.plain hu (fun _ => trivial) (by intro x y h; injection h with h; injection h with h; simpa using h)
theorem KLaw.bool {P : Program} {kt : TypeId} (hu : P.underlying kt = some .bool) : KLaw P kt (fun x : Bool => .bool x) := KLaw.plain hu (fun _ => trivial) (by intro x y h; injection h)
def flatV : Value → Bool
  | .int _ _ | .bool _ | .string _ => true
  | _ => false
theorem sb_flat {v : Value} (h : flatV v = true) (n : Nat) : Instr.sameBits n v v = true := by
  cases v <;> simp [flatV] at h <;> cases n <;> simp [Instr.sameBits, bytes_beq]
theorem sb_cells (n : Nat) (cs : List Value) (h : ∀ v ∈ cs, flatV v = true) : Instr.sameBits (n + 1) (.agg cs.toArray) (.agg cs.toArray) = true := by
  unfold Instr.sameBits
  simp only [BEq.rfl, Bool.true_and, List.all_eq_true]
  intro p hp
  have : p.1 = p.2 ∧ p.1 ∈ cs := by
    clear h
    revert hp
    induction cs with
    | nil => intro hp; simp at hp
    | cons a r ih =>
      intro hp
      simp only [List.zip_cons_cons, List.mem_cons] at hp
      rcases hp with rfl | hp
      · simp
      · obtain ⟨h1, h2⟩ := ih hp
        exact ⟨h1, by simp [h2]⟩
  obtain ⟨h1, h2⟩ := this
  rw [← h1]
  exact sb_flat (h _ h2) n
theorem findNow_agg {d : TypeDesc} {cs : Array Value} (hd : ∀ v, Instr.sameNow d (.agg cs) v = none) : ∀ (es : List MapEntry) (i : Nat), Instr.findNow d (.agg cs) es i = if es = [] then some none else none
  | [], _ => rfl
  | e :: r, i => by simp [Instr.findNow, hd]
theorem KLaw.agg {α : Type} [DecidableEq α] {P : Program} {kt : TypeId} {enc : α → List Value} {kd : TypeDesc} (hu : P.underlying kt = some kd) (hkd : ∀ cs v, Instr.sameNow kd (.agg cs) v = none) (hv : aggSize P kt ≠ none) (heq : ∀ x y, eqVals P 8 kt (enc x) (enc y) = some (decide (x = y)))
    (hchk : ∀ em x w, (Instr.checkKey em 10000 kt (.agg (enc x).toArray)).run P w = .ok () w) (hfl : ∀ x, ∀ v ∈ enc x, flatV v = true) : KLaw P kt (fun x => .agg (enc x).toArray) := by
  have inj : ∀ x y, enc x = enc y → x = y := fun x y e => by
    have h1 := heq x y
    have h2 := heq x x
    rw [← e, h2] at h1
    simpa using h1
  have hval : ∀ cs : List Value, valOf P kt cs (.agg cs.toArray) := fun cs => by
    unfold valOf; unfold aggSize at hv
    cases hu : P.underlying kt with
    | none => simp [hu] at hv
    | some d => cases d <;> first | rfl | (simp [hu] at hv; done)
  have hask : ∀ (x : α) (ks : List α) (es : List MapEntry) (i : Nat), es.map (·.key) = ks.map (fun x => Value.agg (enc x).toArray) → ∀ w, ((Instr.findAsking kt (.agg (enc x).toArray) es i).run P w = .ok none w ∧ ∀ k ∈ ks, k ≠ x) ∨ ∃ (j : Nat) (e : MapEntry), (Instr.findAsking kt (.agg (enc x).toArray) es i).run P w = .ok (some (i + j, e.val)) w ∧ es[j]? = some e ∧ ks[j]? = some x := by
    intro x ks es
    induction es generalizing ks with
    | nil => intro i he w; cases ks with
      | nil => exact .inl ⟨rfl, by simp⟩
      | cons a r => simp at he
    | cons e es ih =>
      intro i he w
      cases ks with
      | nil => simp at he
      | cons a r =>
        simp only [List.map_cons, List.cons.injEq] at he
        have hrun : (Op.equal kt (.agg (enc x).toArray) e.key).run P w = .ok (decide (x = a)) w := by
          rw [he.1]
          have h := run_eqVals 8 kt (enc x) (enc a) _ (heq x a) _ _ (hval _) (hval _) 9992 w
          simp only [Op.equal, Op.maxDepth, h]
        unfold Instr.findAsking
        simp only [Sem.run_bind, hrun, Result.andThen_ok]
        by_cases ex : x = a
        · subst ex
          refine .inr ⟨0, e, by simp, rfl, rfl⟩
        · simp only [ex, decide_false, Bool.false_eq_true, if_false]
          rcases ih r (i + 1) he.2 w with ⟨h1, h2⟩ | ⟨j, e', h1, h2, h3⟩
          · exact .inl ⟨h1, fun k hk => by
              rcases List.mem_cons.1 hk with rfl | hk
              · exact fun q => ex q.symm
              · exact h2 k hk⟩
          · exact .inr ⟨j + 1, e', by rw [h1, show i + 1 + j = i + (j + 1) by omega], by simpa using h2, by simpa using h3⟩
  refine ⟨fun x y e => inj x y (by simpa using e), hchk, fun x ks es he w => ?_, fun x w => ?_⟩
  · have hs : ∀ v, Instr.sameNow kd (.agg (enc x).toArray) v = none := hkd _
    have hn := findNow_agg hs es 0
    by_cases e0 : es = []
    · subst e0
      have : ks = [] := by cases ks <;> simp at he; rfl
      subst this
      exact .inl ⟨run_findKey hu rfl, by simp⟩
    · rw [if_neg e0] at hn
      have hfk : (Instr.findKey kt (.agg (enc x).toArray) es).run P w = (Instr.findAsking kt (.agg (enc x).toArray) es 0).run P w := by
        simp [Instr.findKey, run_underlying hu, Result.andThen, hn]
      rw [hfk]
      have := hask x ks es 0 he w
      simpa using this
  · have := sb_cells 9999 (enc x) (hfl x)
    simp only [Instr.keyThatStays, this, if_true]
    rfl
structure MOk {α β : Type} (enc : α → Value) (ev : β → Value) (es : Array MapEntry) (clock : Nat) (m : List (α × β)) : Prop where
  st : Stamped es clock
  eq : es.toList.map (fun e => (e.key, e.val)) = m.map (fun p => (enc p.1, ev p.2))
section
variable {α β : Type} {enc : α → Value} {ev : β → Value} {es : Array MapEntry} {clock : Nat} {m : List (α × β)}
theorem MOk.empty : MOk enc ev #[] 0 ([] : List (α × β)) := ⟨stamped_empty 0, rfl⟩
theorem MOk.ks (h : MOk enc ev es clock m) : es.toList.map (·.key) = (m.map (·.1)).map enc := by
  have := congrArg (List.map Prod.fst) h.eq
  simpa [List.map_map, Function.comp_def] using this
theorem MOk.len (h : MOk enc ev es clock m) : es.size = m.length := by
  have := congrArg List.length h.eq
  simpa using this
theorem MOk.at {j : Nat} {e : MapEntry} {x : α} (h : MOk enc ev es clock m) (h1 : es.toList[j]? = some e) : ∃ p, m[j]? = some p ∧ e.key = enc p.1 ∧ e.val = ev p.2 := by
  have h2 := congrArg (fun l => l[j]?) h.eq
  simp only [List.getElem?_map, h1, Option.map_some] at h2
  cases hm : m[j]? with
  | none => rw [hm] at h2; cases h2
  | some p => rw [hm] at h2; simp at h2; exact ⟨p, rfl, h2.1, h2.2⟩
variable [DecidableEq α]
theorem MOk.nd {P : Program} {kt : TypeId} (L : KLaw P kt enc) (h : MOk enc ev es clock m) : (m.map (·.1)).Nodup := by
  have h1 := h.st.2.2
  rw [h.ks] at h1
  exact List.Pairwise.of_map enc (fun a b hab e => hab (by rw [e])) h1
theorem mget_none (m : List (α × β)) {x : α} (h : ∀ k ∈ m.map (·.1), k ≠ x) : mget m x = none := by
  unfold mget
  rw [List.find?_eq_none.2 fun e he => by simpa using h e.1 (List.mem_map_of_mem he)]
  rfl
theorem mget_at (m : List (α × β)) (nd : (m.map (·.1)).Nodup) {j : Nat} {p : α × β} (h : m[j]? = some p) : mget m p.1 = some p.2 := by
  induction m generalizing j with
  | nil => simp at h
  | cons a r ih =>
    simp only [List.map_cons, List.nodup_cons] at nd
    unfold mget
    cases j with
    | zero => simp at h; subst h; simp
    | succ j =>
      simp at h
      have hin : p ∈ r := List.mem_of_getElem? h
      have hne : a.1 ≠ p.1 := fun e => nd.1 (by rw [e]; exact List.mem_map_of_mem hin)
      rw [List.find?_cons_of_neg (by simpa using hne)]
      exact ih nd.2 h
theorem mset_new (m : List (α × β)) {x : α} (v : β) (h : ∀ k ∈ m.map (·.1), k ≠ x) : mset m x v = m ++ [(x, v)] := by
  induction m with
  | nil => rfl
  | cons a r ih =>
    have h1 : a.1 ≠ x := h a.1 (by simp)
    simp only [mset, h1, if_false, List.cons_append]
    rw [ih fun k hk => h k (by simp at hk ⊢; exact .inr hk)]
theorem mset_old (m : List (α × β)) (nd : (m.map (·.1)).Nodup) {x : α} (v : β) {j : Nat} (h : (m.map (·.1))[j]? = some x) : mset m x v = m.set j (x, v) := by
  induction m generalizing j with
  | nil => simp at h
  | cons a r ih =>
    simp only [List.map_cons, List.nodup_cons] at nd
    cases j with
    | zero => simp at h; simp [mset, h]
    | succ j =>
      simp only [List.map_cons, List.getElem?_cons_succ] at h
      have hne : a.1 ≠ x := fun e => nd.1 (by rw [e]; exact List.mem_of_getElem? h)
      simp only [mset, hne, if_false, List.set_cons_succ]
      rw [ih nd.2 h]
end
section
variable [Dfs] {P : Program} {n : Nat} {env : Env} {S : World → Prop} {o : Oper} {w : World} {H : Heap} {K : Env → World → Prop} {α β : Type} [DecidableEq α] {enc : α → Value} {ev : β → Value}
theorem a_mapupM {t kt et g i clock : Nat} {m kx x : Operand} {es : Array MapEntry} {ms : List (α × β)} {k : α} {u : β} (ho : o.op = .mapUpdate t m kx x) (hd : o.dst = none)
    (hm : env.ev m = some (.map (some g))) (hkx : env.ev kx = some (enc k)) (hx : env.ev x = some (ev u)) (ht : P.underlying t = some (.map kt et)) (L : KLaw P kt enc)
    (h : Hp w H) (hi : H[i]? = some (some g, .map es clock)) (hM : MOk enc ev es clock ms)
    (hK : ∀ es' clock' w', MOk enc ev es' clock' (mset ms k u) → Hp w' (H.set i (some g, .map es' clock')) → Fr [g] w w' → K env w') : Act1 P n env w o K := by
  have hb := h.at hi
  rcases L.fnd k (ms.map (·.1)) es.toList hM.ks w with ⟨h1, h2⟩ | ⟨j, e, h1, h2, h3⟩
  · refine a_runs hd (w' := { w with heap := w.heap.setIfInBounds g (.map (es.push { key := enc k, val := ev u, born := clock }) (clock + 1)) }) (fun a r => ?_)
      (hK _ _ _ ⟨stamped_push hM.st fun y hy e => ?_, ?_⟩ (h.setAt hi (Fr.setObj hb) (MapKept.heap_set hb).1) (Fr.setObj hb))
    · unfold execOp
      simp [ho, r.eval hm, r.eval hkx, r.eval hx, Instr.mapUpdate, run_underlying ht, MapKept.run_getObj_map hb, L.chk, h1, MapKept.run_setObj_map _ hb]
    · have : y.key ∈ (ms.map (·.1)).map enc := by rw [← hM.ks]; exact List.mem_map_of_mem hy
      obtain ⟨z, hz, e2⟩ := List.mem_map.1 this
      exact h2 z hz (L.inj _ _ (e2.trans e))
    · rw [mset_new ms u h2]
      simp [hM.eq]
  · have hj : es[j]? = some e := by simpa using h2
    obtain ⟨p, hp, hpk, hpv⟩ := hM.at (x := k) h2
    have hpx : p.1 = k := by rw [List.getElem?_map, hp] at h3; simpa using h3
    have hek : e.key = enc k := by rw [hpk, hpx]
    have hkey : ∀ e', es[j]? = some e' → ({ e' with key := enc k, val := ev u } : MapEntry).key = e'.key := fun e' he' => by rw [hj] at he'; cases he'; exact hek.symm
    refine a_runs hd (w' := { w with heap := w.heap.setIfInBounds g (.map (es.modify j fun e => { e with key := enc k, val := ev u }) clock) }) (fun a r => ?_)
      (hK (es.modify j fun e => { e with key := enc k, val := ev u }) clock _ ⟨stamped_modify hM.st _ _ (fun _ _ => rfl) (fun e' _ he' => hkey e' he'), ?_⟩ (h.setAt hi (Fr.setObj hb) (MapKept.heap_set hb).1) (Fr.setObj hb))
    · unfold execOp
      simp [ho, r.eval hm, r.eval hkx, r.eval hx, Instr.mapUpdate, run_underlying ht, MapKept.run_getObj_map hb, L.chk, h1, hj, hek, L.stay, MapKept.run_setObj_map _ hb]
    · rw [mset_old ms (hM.nd L) u h3]
      apply List.ext_getElem?
      intro q
      have hq := congrArg (fun l => l[q]?) hM.eq
      simp only [List.getElem?_map, Array.getElem?_toList] at hq
      rw [List.getElem?_map, List.getElem?_map, List.getElem?_set, Array.getElem?_toList, Array.getElem?_modify]
      by_cases e : j = q
      · subst e
        have hlt : j < ms.length := (List.getElem?_eq_some_iff.1 hp).1
        simp [hj, hlt]
      · simp only [e, if_false]; exact hq
omit [Dfs] in
theorem lookM {kt clock : Nat} {es : Array MapEntry} {ms : List (α × β)} (L : KLaw P kt enc) (hM : MOk enc ev es clock ms) (k : α) (w : World) : ∃ r, (Instr.findKey kt (enc k) es.toList).run P w = .ok r w ∧ r.map (·.2) = (mget ms k).map ev := by
  rcases L.fnd k (ms.map (·.1)) es.toList hM.ks w with ⟨h1, h2⟩ | ⟨j, e, h1, h2, h3⟩
  · exact ⟨_, h1, by rw [mget_none ms h2]; rfl⟩
  · obtain ⟨p, hp, hpk, hpv⟩ := hM.at (x := k) h2
    have hpx : p.1 = k := by rw [List.getElem?_map, hp] at h3; simpa using h3
    exact ⟨_, h1, by rw [← hpx, mget_at ms (hM.nd L) hp, hpv]; rfl⟩
theorem y_lookupOkM {t kt et g i clock : Nat} {m kx : Operand} {es : Array MapEntry} {ms : List (α × β)} {k : α} {z : β} (ho : o.op = .lookup t m kx true)
    (hm : env.ev m = some (.map (some g))) (hkx : env.ev kx = some (enc k)) (ht : P.underlying t = some (.map kt et)) (L : KLaw P kt enc) (hz : zeroVal P et = some (ev z))
    (h : ∀ w, S w → Hp w H) (hi : H[i]? = some (some g, .map es clock)) (hM : MOk enc ev es clock ms) : Yld P n env S o (.tuple #[ev ((mget ms k).getD z), .bool (mget ms k).isSome]) := fun a r w hS => by
  have hb := (h w hS).at hi
  obtain ⟨q, h1, h2⟩ := lookM L hM k w
  unfold execOp
  cases q with
  | none =>
    cases hg : mget ms k with
    | some _ => rw [hg] at h2; cases h2
    | none => simp [ho, r.eval hm, r.eval hkx, Instr.lookup, run_underlying ht, MapKept.run_getObj_map hb, L.chk, h1, run_zero hz]
  | some q =>
    cases hg : mget ms k with
    | none => rw [hg] at h2; cases h2
    | some u => rw [hg] at h2; simp at h2; simp [ho, r.eval hm, r.eval hkx, Instr.lookup, run_underlying ht, MapKept.run_getObj_map hb, L.chk, h1, h2]
end
end Go.Proofs.YtdckemiebnfjcaaGreatDoor
end

section
set_option linter.unusedVariables false
set_option linter.unusedSimpArgs false
namespace Go.Proofs.YtdckemiebnfjcaaGreatDoor
open Go.RowKit
theorem St.other {X Y : List Nat} {w w' : World} {H : Heap} {K : List Kf} (h : St X w H K) (hf : Fr Y w w') (hY : ∀ y ∈ Y, y ∈ X) : St X w' H K :=
  ⟨h.hp.keep hf (fun k hk hy => h.dj k (hY k hy) hk), fun k hk => k.st (h.kr k hk) (hf.mono fun y hy => List.mem_append_right _ (hY y hy)) (fun _ hy => .inl hy), fun x hx => Nat.lt_of_lt_of_le (h.lo x hx) hf.size, h.dj⟩
theorem Ow.cut {α : Type} {enc : α → List Value} {A : Option Addr} {c m l : Nat} {xs : List α} {sp : List Value} (hm : ∀ x, (enc x).length = m) (h : Ow A l c m (xs.flatMap enc) sp) (hl : l = xs.length) (k : Nat) :
    Ow A (xs.take k).length c m ((xs.take k).flatMap enc) ((xs.drop k).flatMap enc ++ sp) := by
  subst hl
  refine ⟨fl_len hm _, ?_⟩
  rcases h.2 with ⟨h1, h2, h3, h4⟩ | ⟨g, h1, h2, h3, h4⟩
  · have : xs = [] := List.eq_nil_of_length_eq_zero h2
    subst this
    exact .inl ⟨h1, by simp, h3, by simp [h4]⟩
  · refine .inr ⟨g, h1, ?_, ?_, h4⟩
    · rw [← List.append_assoc, ← List.flatMap_append, List.take_append_drop]; exact h2
    · rw [List.length_take]; omega
theorem cut_cells {α : Type} {enc : α → List Value} {xs : List α} {sp : List Value} (k : Nat) : xs.flatMap enc ++ sp = (xs.take k).flatMap enc ++ ((xs.drop k).flatMap enc ++ sp) := by
  rw [← List.append_assoc, ← List.flatMap_append, List.take_append_drop]
theorem keys_in {k : Option Nat} {o : Obj} {i j : Nat} (H : Heap) (idx : List Nat) (hj : (pickL H idx)[j]? = some (k, o)) (hi : pickL H [i] = [(k, o)]) {y : Nat} (hy : y ∈ keys (pickL H [i])) : y ∈ keys (pickL H idx) := by
  rw [hi] at hy
  cases k with
  | none => simp [keys] at hy
  | some g => simp [keys] at hy; subst hy; exact mem_keys.2 ⟨j, o, hj⟩
theorem bl_eq : ∀ (x y : List UInt8), Op.bytesLess x y = decide (x < y)
  | _, [] => by simp [Op.bytesLess]
  | [], _ :: _ => by simp [Op.bytesLess]
  | a :: x, b :: y => by
    rw [Op.bytesLess, bl_eq x y]
    simp only [List.cons_lt_cons_iff, Bool.decide_or, Bool.decide_and]
    rfl
theorem bl_le (x y : List UInt8) : (Op.bytesLess x y || x == y) = decide (x ≤ y) := by
  rw [bl_eq]; by_cases h : x < y
  · simp [h, List.le_of_lt h]
  · by_cases e : x = y
    · subst e; simp
    · have : ¬ x ≤ y := fun hle => by rcases List.le_iff_lt_or_eq.mp hle with h' | h' <;> contradiction
      simp [h, e, this]
section
variable [Dfs] {P : Program} {n : Nat} {env : Env} {S : World → Prop} {o : Oper} {w : World} {H : Heap} {K : Env → World → Prop} {α : Type} {enc : α → List Value}
theorem y_cut0M {t e m c l : Nat} {A : Option Addr} {xs : List α} {x : Operand} {lo hi : Option Operand} {q : Int} {sp : List Value} (ho : o.op = .slice t x lo hi none) (hx : env.ev x = some (.slice A l c)) (hl : l = xs.length) (ht : elemSize P t = some (e, m)) (hlo : cutLo env lo = some 0) (hhi : cutHi env l hi = some q)
    (h1 : 0 ≤ q) (h2 : q ≤ xs.length) (how : Ow A l c m (xs.flatMap enc) sp) : Yld P n env S o (.slice A (xs.take q.toNat).length c) := by
  subst hl
  have hlc : xs.length ≤ c := by rcases how.2 with ⟨_, h, h', _⟩ | ⟨g, _, _, h, _⟩ <;> omega
  have := y_cutl (P := P) (n := n) (S := S) ho hx ht hlo hhi (by omega) h1 (by omega) hlc
  have e1 : (if c = (0 : Int).toNat then A else A.map (·.add ((0 : Int).toNat * m))) = A := by
    split
    · rfl
    · cases A with
      | none => rfl
      | some a => simp [Addr.add]
  rw [e1] at this
  have e2 : (xs.take q.toNat).length = q.toNat - (0 : Int).toNat := by rw [List.length_take]; omega
  rw [e2]
  exact this
theorem y_cuttM {t e m c g l : Nat} {xs : List α} {x : Operand} {lo hi : Option Operand} {p : Int} {sp : List Value} (ho : o.op = .slice t x lo hi none) (hx : env.ev x = some (.slice (some ⟨g, 0, none⟩) l c)) (hl : l = xs.length) (ht : elemSize P t = some (e, m)) (hlo : cutLo env lo = some p) (hhi : cutHi env l hi = some (l : Int))
    (h0 : 0 ≤ p) (h1 : p < xs.length) (how : Ow (some ⟨g, 0, none⟩) l c m (xs.flatMap enc) sp) : Yld P n env S o (.slice (some ⟨g, 0 + p.toNat * m, none⟩) (l - p.toNat) (c - p.toNat)) := by
  subst hl
  have hlc : xs.length ≤ c := by rcases how.2 with ⟨_, h, h', _⟩ | ⟨g, _, _, h, _⟩ <;> omega
  have := y_cutlS (P := P) (n := n) (S := S) ho hx ht hlo hhi h0 (by omega) (by omega) hlc
  rw [cutAd_in (by omega)] at this
  simpa using this
theorem a_clearM {t e m c c' i g l : Nat} {x : Operand} {xs : List α} {sp z : List Value} {u : α} {p : Int} (ho : o.op = .call { callee := .builtin .clear, args := #[x], argTypes := #[t] }) (hd : o.dst = none)
    (hx : env.ev x = some (.slice (some ⟨g, 0 + p.toNat * m, none⟩) (l - p.toNat) c')) (hl : l = xs.length) (ht : elemSize P t = some (e, m)) (hz : zeroCells P e = some z) (hzu : z = enc u) (hm : ∀ x, (enc x).length = m) (h1 : ∀ v ∈ enc u, v.oneCell' = true)
    (how : Ow (some ⟨g, 0, none⟩) l c m (xs.flatMap enc) sp) (h0 : 0 ≤ p) (hp : p ≤ xs.length) (h : Hp w H) (hi : H[i]? = some (blkOf (some ⟨g, 0, none⟩), Cl (xs.flatMap enc ++ sp) e))
    (hK : ∀ w', Ow (some ⟨g, 0, none⟩) l c m ((xs.take p.toNat ++ List.replicate (xs.length - p.toNat) u).flatMap enc) sp → Hp w' (H.set i (blkOf (some ⟨g, 0, none⟩), Cl ((xs.take p.toNat ++ List.replicate (xs.length - p.toNat) u).flatMap enc ++ sp) e)) → Fr [g] w w' → K env w') : Act1 P n env w o K := by
  subst hzu
  subst hl
  have hlen := fl_len hm xs
  have hpl : p.toNat ≤ xs.length := by omega
  have hle : p.toNat * m ≤ xs.length * m := Nat.mul_le_mul_right m hpl
  have hs : (xs.length - p.toNat) * m = xs.length * m - p.toNat * m := Nat.sub_mul ..
  refine a_clear ho hd hx ht hz (hm u) h1 h hi (by rw [List.length_append, hlen]; omega) fun w' hp' hf => ?_
  have e1 : (xs.flatMap enc ++ sp).take (0 + p.toNat * m) ++ (List.replicate (xs.length - p.toNat) (enc u)).flatten ++ (xs.flatMap enc ++ sp).drop (0 + p.toNat * m + (xs.length - p.toNat) * m) = (xs.take p.toNat ++ List.replicate (xs.length - p.toNat) u).flatMap enc ++ sp := by
    rw [Nat.zero_add, List.take_append_of_le_length (by omega), fl_take hm, List.drop_append, List.drop_of_length_le (by omega), hlen, show p.toNat * m + (xs.length - p.toNat) * m - xs.length * m = 0 by omega, List.flatMap_append, rep_flat]
    simp
  rw [e1] at hp'
  refine hK w' ⟨?_, ?_⟩ hp' hf
  · rw [fl_len hm, List.length_append, List.length_take, List.length_replicate, show min p.toNat xs.length + (xs.length - p.toNat) = xs.length by omega]
  · rcases how.2 with ⟨h2, _⟩ | ⟨g', e2, h3, h4, h5⟩
    · cases h2
    · refine .inr ⟨g', e2, ?_, h4, h5⟩
      rw [← h3, List.length_append, List.length_append, fl_len hm, hlen, List.length_append, List.length_take, List.length_replicate, show min p.toNat xs.length + (xs.length - p.toNat) = xs.length by omega]
theorem y_lts {x y : Operand} {t u : Nat} {p q : List UInt8} (ho : o.op = .binOp .lss t x y u) (hx : env.ev x = some (sv p)) (hy : env.ev y = some (sv q)) : Yld P n env S o (.bool (decide (p < q))) := fun a r w _ => by
  unfold execOp; simp [ho, r.eval hx, r.eval hy, eqGuard, binOp, Op.stringOp, bl_eq]
theorem y_gts {x y : Operand} {t u : Nat} {p q : List UInt8} (ho : o.op = .binOp .gtr t x y u) (hx : env.ev x = some (sv p)) (hy : env.ev y = some (sv q)) : Yld P n env S o (.bool (decide (q < p))) := fun a r w _ => by
  have e : (!decide (p ≤ q)) = decide (q < p) := by rw [← decide_not]; exact decide_eq_decide.mpr List.not_le
  unfold execOp; simp [ho, r.eval hx, r.eval hy, eqGuard, binOp, Op.stringOp, bl_le, ← e]
theorem y_ixv {t l e : Nat} {x ix : Operand} {k : IntKind} {q : Int} {us : List Value} {v : Value} (ho : o.op = .index t x ix) (hx : env.ev x = some (.agg us.toArray)) (hi : env.ev ix = some (.int k q)) (ht : P.underlying t = some (.array l e)) (hs : (P.info? e).map (·.size) = some 1) (hp : plainB P e = true) (h0 : 0 ≤ q) (h1 : q < l) (hv : us[q.toNat]? = some v) : Yld P n env S o v := fun a r w _ => by
  have hA : (isAgg e).run P w = .ok false w := by
    unfold plainB at hp
    cases hu' : P.underlying e with
    | none => simp [hu'] at hp
    | some d =>
      unfold isAgg
      simp only [Sem.run_bind, run_underlying hu', Result.andThen_ok]
      cases d <;> simp [hu'] at hp <;> rfl
  cases hq : P.info? e with
  | none => simp [hq] at hs
  | some i =>
    have hs : i.size = 1 := by simpa [hq] using hs
    unfold execOp
    simp [ho, r.eval hx, r.eval hi, Instr.index, asIntOf, run_underlying ht, h0, h1, sizeOf, typeInfo, hq, hs, part, hA, hv]
theorem y_buildA {t l e m : Nat} {ps : List (Nat × Operand)} {vs zs cells : List Value} (ho : o.op = .build t ps.toArray) (hx : env.evs (ps.map (·.2)) = some vs) (ht : P.underlying t = some (.array l e)) (hs : (P.info? e).map (·.size) = some m) (hz : zeroCells P t = some zs)
    (hf : Instr.fill (fun i => some (i * m, m)) zs.toArray ((ps.map (·.1)).zip vs) = some cells.toArray) : Yld P n env S o (.agg cells.toArray) := fun a r w _ => by
  have e' : (ps.toArray.map fun (i, x) => (i, a.eval x)).toList = (ps.map (·.1)).zip vs := by
    rw [← r.evals hx]
    simp only [List.map_toArray, List.map_map]
    clear ho hx hf
    induction ps with
    | nil => rfl
    | cons p ps ih => obtain ⟨i, x⟩ := p; simpa using ih
  unfold zeroCells at hz
  cases hq : P.info? t with
  | none => simp [hq] at hz
  | some it =>
    cases hzz : it.zero with
    | none => simp [hq, hzz] at hz
    | some z =>
      have hz' : z.cells = zs.toArray := by simp [hq, hzz] at hz; rw [← hz]
      cases hqe : P.info? e with
      | none => simp [hqe] at hs
      | some i =>
        have hs : i.size = m := by simpa [hqe] using hs
        have hb : (Instr.build t (ps.toArray.map fun (i, x) => (i, a.eval x))).run P w = .ok (.agg cells.toArray) w := by
          unfold Instr.build
          simp only [e']
          simp [zeroValue, typeInfo, hq, hzz, run_underlying ht, sizeOf, hqe, hs, hz', hf]
        unfold execOp
        simp only [ho]
        simp only [Sem.run_bind, hb, Result.andThen_ok]
        rfl
theorem y_neg {x : Operand} {t : Nat} {k : IntKind} {p c : Int} (ho : o.op = .unOp .neg t x) (hx : env.ev x = some (.int k p)) (hw : k.wrap (0 - p) = c) : Yld P n env S o (.int k c) := fun a r w _ => by
  unfold execOp; simp only [Int.zero_sub] at hw; simp [ho, r.eval hx, Op.unary, Op.intArith, hw]
theorem y_ixav {t e m g l c : Nat} {x ix : Operand} {k : IntKind} {p q : Int} (ho : o.op = .indexAddr t x ix) (hx : env.ev x = some (.slice (some ⟨g, 0 + p.toNat * m, none⟩) l c)) (hi : env.ev ix = some (.int k q)) (ht : elemSize P t = some (e, m)) (hp : 0 ≤ p) (h0 : 0 ≤ q) (h1 : q < l) :
    Yld P n env S o (.pointer (some ⟨g, 0 + (p + q).toNat * m, none⟩)) := by
  have h := y_ixa (P := P) (n := n) (S := S) ho hx hi ht h0 h1
  rw [show 0 + (p + q).toNat * m = 0 + p.toNat * m + q.toNat * m by rw [Int.toNat_add hp h0, Nat.add_mul]; omega]
  exact h
end
end Go.Proofs.YtdckemiebnfjcaaGreatDoor
end

section
set_option linter.unusedVariables false
set_option linter.unusedSimpArgs false
namespace Go.Proofs.YtdckemiebnfjcaaGreatDoor
open Go.RowKit
theorem iP {c : Prop} {h : Decidable c} (hc : c) {α : Sort _} {t e : α} : ite c t e = t := if_pos hc
theorem iN {c : Prop} {h : Decidable c} (hc : ¬ c) {α : Sort _} {t e : α} : ite c t e = e := if_neg hc
section
variable [Dfs] {P : Program} {n d : Nat} {Q : EQ} {env : Env} {w : World} {o : Oper} {ops : Array Oper} {l : List Oper} {v : Value} {x y : Operand} {K : Env → World → Prop} {c : Code}
theorem sq {x y : Code} (h : ∀ K : Env → World → Prop, (∀ e v, Wp P n y Q e v → K e v) → Wp P n x (Th K Q) env w) : Wp P n (.seq x y) Q env w := Wp_seq h
theorem rg {id : Nat} {l : List Oper} (h : Ls P n l.toArray Q l env w) (hnd : l.all ndB = true := by rfl) : Wp P n (.region id l.toArray false) Q env w := Wp_region h hnd
theorem Ln (hK : ∀ e v, Wp P n c Q e v → K e v) (h : Wp P n c Q env w) : Ls P n ops (Th K Q) [] env w := Ls_nil (Th_n (hK _ _ h))
theorem sk (hK : ∀ e v, Wp P n c Q e v → K e v) (h : Wp P n c Q env w) : Wp P n .skip (Th K Q) env w := Wp_skip (Th_n (hK _ _ h))
theorem Ly (h : (o.guard, o.dst, Nat.blt d n) = (none, some d, true)) (hy : Yld P n env (· = w) o v) (hk : Ls P n ops Q l ((d, v) :: env) w) : Ls P n ops Q (o :: l) env w := by
  simp only [Prod.mk.injEq] at h; exact Ls_y (wtd0 h.1) h.2.1 h.2.2 hy hk
theorem La (h : o.guard = none) (hk : Act1 P n env w o (fun env' w' => Ls P n ops Q l env' w')) : Ls P n ops Q (o :: l) env w := Ls_a (wtd0 h) hk
theorem Lm (h : (o.guard, o.dst, Nat.blt d n, o.op, env.ev x) = (none, some d, true, .move x, some v)) (hk : Ls P n ops Q l ((d, v) :: env) w) : Ls P n ops Q (o :: l) env w := by
  simp only [Prod.mk.injEq] at h; exact Lmv h.1 h.2.1 h.2.2.1 h.2.2.2.1 h.2.2.2.2 hk
theorem Ls' (h : (o.guard, o.dst, Nat.blt d n, o.op, env.ev x) = (none, some d, true, .assign x, some v)) (hk : Ls P n ops Q l ((d, v) :: env) w) : Ls P n ops Q (o :: l) env w := by
  simp only [Prod.mk.injEq] at h; exact Las h.1 h.2.1 h.2.2.1 h.2.2.2.1 h.2.2.2.2 hk
theorem Lx {i : Nat} {vs : Array Value} (h : (o.guard, o.dst, Nat.blt d n, o.op, env.ev x, vs[i]?) = (none, some d, true, .extract x i, some (.tuple vs), some v)) (hk : Ls P n ops Q l ((d, v) :: env) w) : Ls P n ops Q (o :: l) env w := by
  simp only [Prod.mk.injEq] at h; exact Lex h.1 h.2.1 h.2.2.1 h.2.2.2.1 h.2.2.2.2.1 h.2.2.2.2.2 hk
theorem LsF {j s : Nat} {b : Bool} (h : (o.guard, (ops[j]?).bind (·.dst), env.get s, o.dst, Nat.blt d n) = (some (j, b), some s, some (.bool (!b)), some d, true)) (hk : Ls P n ops Q l ((d, undef) :: env) w) : Ls P n ops Q (o :: l) env w := by
  simp only [Prod.mk.injEq] at h; exact Ls_s (wtdF h.1 h.2.1 h.2.2.1) h.2.2.2.1 h.2.2.2.2 hk
theorem LsU {j s : Nat} {b : Bool} (h : (o.guard, (ops[j]?).bind (·.dst), env.get s, o.dst, Nat.blt d n) = (some (j, b), some s, some undef, some d, true)) (hk : Ls P n ops Q l ((d, undef) :: env) w) : Ls P n ops Q (o :: l) env w := by
  simp only [Prod.mk.injEq] at h; exact Ls_s (wtdU h.1 h.2.1 h.2.2.1) h.2.2.2.1 h.2.2.2.2 hk
theorem LyT {j s : Nat} {b : Bool} (h : (o.guard, (ops[j]?).bind (·.dst), env.get s, o.dst, Nat.blt d n) = (some (j, b), some s, some (.bool b), some d, true)) (hy : Yld P n env (· = w) o v) (hk : Ls P n ops Q l ((d, v) :: env) w) : Ls P n ops Q (o :: l) env w := by
  simp only [Prod.mk.injEq] at h; exact Ls_y (wtdT h.1 h.2.1 h.2.2.1) h.2.2.2.1 h.2.2.2.2 hy hk
theorem LaT {j s : Nat} {b : Bool} (h : (o.guard, (ops[j]?).bind (·.dst), env.get s) = (some (j, b), some s, some (.bool b))) (hk : Act1 P n env w o (fun env' w' => Ls P n ops Q l env' w')) : Ls P n ops Q (o :: l) env w := by
  simp only [Prod.mk.injEq] at h; exact Ls_a (wtdT h.1 h.2.1 h.2.2) hk
section
variable {b : Operand} {c1 c2 : Code} {t : Bool} {p : Prop} [Decidable p]
theorem cB (hb : env.ev b = some (.bool t)) (h1 : t = true → Wp P n c1 Q env w) (h2 : ¬ t = true → Wp P n c2 Q env w) : Wp P n (.cond b c1 c2) Q env w := Wp_cond hb h1 fun h => h2 (by simp [h])
theorem cD (hb : env.ev b = some (.bool (decide p))) (h1 : p → Wp P n c1 Q env w) (h2 : ¬ p → Wp P n c2 Q env w) : Wp P n (.cond b c1 c2) Q env w := Wp_cond hb (fun h => h1 (of_decide_eq_true h)) fun h => h2 (of_decide_eq_false h)
theorem cE {α : Type} [BEq α] [LawfulBEq α] {p q : α} (hb : env.ev b = some (.bool (p == q))) (h1 : p = q → Wp P n c1 Q env w) (h2 : ¬ p = q → Wp P n c2 Q env w) : Wp P n (.cond b c1 c2) Q env w := Wp_cond hb (fun h => h1 (by simpa using h)) fun h => h2 (by simpa using h)
theorem cN {α : Type} [BEq α] [LawfulBEq α] {p q : α} (hb : env.ev b = some (.bool (p != q))) (h1 : ¬ p = q → Wp P n c1 Q env w) (h2 : p = q → Wp P n c2 Q env w) : Wp P n (.cond b c1 c2) Q env w := Wp_cond hb (fun h => h1 (by simpa using h)) fun h => h2 (by simpa using h)
theorem cBn (hb : env.ev b = some (.bool (!t))) (h1 : ¬ t = true → Wp P n c1 Q env w) (h2 : t = true → Wp P n c2 Q env w) : Wp P n (.cond b c1 c2) Q env w := Wp_cond hb (fun h => h1 (by simpa using h)) fun h => h2 (by simpa using h)
theorem cDn (hb : env.ev b = some (.bool (!decide p))) (h1 : ¬ p → Wp P n c1 Q env w) (h2 : p → Wp P n c2 Q env w) : Wp P n (.cond b c1 c2) Q env w := Wp_cond hb (fun h => h1 (by simpa using h)) fun h => h2 (by simpa using h)
variable {s : Nat}
theorem bB (hb : env.get s = some (.bool t)) (h1 : t = true → Ls P n ops Q l ((s, .bool true) :: env) w) (h2 : ¬ t = true → Ls P n ops Q l ((s, .bool false) :: env) w) : Ls P n ops Q l env w := Ls_bool s hb h1 fun h => h2 (by simp [h])
theorem bD (hb : env.get s = some (.bool (decide p))) (h1 : p → Ls P n ops Q l ((s, .bool true) :: env) w) (h2 : ¬ p → Ls P n ops Q l ((s, .bool false) :: env) w) : Ls P n ops Q l env w := Ls_bool s hb (fun h => h1 (of_decide_eq_true h)) fun h => h2 (of_decide_eq_false h)
theorem bE {α : Type} [BEq α] [LawfulBEq α] {p q : α} (hb : env.get s = some (.bool (p == q))) (h1 : p = q → Ls P n ops Q l ((s, .bool true) :: env) w) (h2 : ¬ p = q → Ls P n ops Q l ((s, .bool false) :: env) w) : Ls P n ops Q l env w := Ls_bool s hb (fun h => h1 (by simpa using h)) fun h => h2 (by simpa using h)
theorem bN {α : Type} [BEq α] [LawfulBEq α] {p q : α} (hb : env.get s = some (.bool (p != q))) (h1 : ¬ p = q → Ls P n ops Q l ((s, .bool true) :: env) w) (h2 : p = q → Ls P n ops Q l ((s, .bool false) :: env) w) : Ls P n ops Q l env w := Ls_bool s hb (fun h => h1 (by simpa using h)) fun h => h2 (by simpa using h)
theorem bBn (hb : env.get s = some (.bool (!t))) (h1 : ¬ t = true → Ls P n ops Q l ((s, .bool true) :: env) w) (h2 : t = true → Ls P n ops Q l ((s, .bool false) :: env) w) : Ls P n ops Q l env w := Ls_bool s hb (fun h => h1 (by simpa using h)) fun h => h2 (by simpa using h)
theorem bDn (hb : env.get s = some (.bool (!decide p))) (h1 : ¬ p → Ls P n ops Q l ((s, .bool true) :: env) w) (h2 : p → Ls P n ops Q l ((s, .bool false) :: env) w) : Ls P n ops Q l env w := Ls_bool s hb (fun h => h1 (by simpa using h)) fun h => h2 (by simpa using h)
end
end
section
variable [Dfs] {P : Program} {n : Nat} {env : Env} {S : World → Prop} {o : Oper} {v : Value} {x y : Operand} {t u : Nat} {k : IntKind} {p q : Int}
theorem yf {s f g k off : Nat} (h : (o.op, env.ev x) = (.fieldAddr s x f, some (.pointer (some ⟨g, k, none⟩)))) (hf : fieldOff P s f = some off) : Yld P n env S o (.pointer (some ⟨g, k + off, none⟩)) := by
  simp only [Prod.mk.injEq] at h; exact y_fld h.1 h.2 hf
theorem yT {c : Operand} (h : (o.op, env.ev c, env.ev x) = (.pick c x y, some (.bool true), some v)) : Yld P n env S o v := by simp only [Prod.mk.injEq] at h; exact y_pick_t h.1 h.2.1 h.2.2
theorem yF {c : Operand} (h : (o.op, env.ev c, env.ev y) = (.pick c x y, some (.bool false), some v)) : Yld P n env S o v := by simp only [Prod.mk.injEq] at h; exact y_pick_f h.1 h.2.1 h.2.2
theorem yn {b : Bool} (h : (o.op, env.ev x) = (.unOp .not t x, some (.bool b))) : Yld P n env S o (.bool !b) := by simp only [Prod.mk.injEq] at h; exact y_not h.1 h.2
theorem yeq (h : (o.op, env.ev x, env.ev y) = (.binOp .eql t x y u, some (.int k p), some (.int k q))) : Yld P n env S o (.bool (p == q)) := by simp only [Prod.mk.injEq] at h; exact y_eq h.1 h.2.1 h.2.2
theorem yne (h : (o.op, env.ev x, env.ev y) = (.binOp .neq t x y u, some (.int k p), some (.int k q))) : Yld P n env S o (.bool (p != q)) := by simp only [Prod.mk.injEq] at h; exact y_ne h.1 h.2.1 h.2.2
theorem ylt (h : (o.op, env.ev x, env.ev y) = (.binOp .lss t x y u, some (.int k p), some (.int k q))) : Yld P n env S o (.bool (decide (p < q))) := by simp only [Prod.mk.injEq] at h; exact y_lt h.1 h.2.1 h.2.2
theorem yle (h : (o.op, env.ev x, env.ev y) = (.binOp .leq t x y u, some (.int k p), some (.int k q))) : Yld P n env S o (.bool (decide (p ≤ q))) := by simp only [Prod.mk.injEq] at h; exact y_le h.1 h.2.1 h.2.2
theorem ygt (h : (o.op, env.ev x, env.ev y) = (.binOp .gtr t x y u, some (.int k p), some (.int k q))) : Yld P n env S o (.bool (decide (q < p))) := by simp only [Prod.mk.injEq] at h; exact y_gt h.1 h.2.1 h.2.2
theorem yge (h : (o.op, env.ev x, env.ev y) = (.binOp .geq t x y u, some (.int k p), some (.int k q))) : Yld P n env S o (.bool (decide (q ≤ p))) := by simp only [Prod.mk.injEq] at h; exact y_ge h.1 h.2.1 h.2.2
theorem yll {e : Nat} {b : Option Addr} {l c : Nat} (h : (o.op, env.ev x) = (.call { callee := .builtin .len, args := #[x], argTypes := #[t] }, some (.slice b l c))) (ht : P.underlying t = some (.slice e)) : Yld P n env S o (.int .i64 l) := by simp only [Prod.mk.injEq] at h; exact y_lenl h.1 h.2 ht
end
section
variable [Dfs] {P : Program} {n d : Nat} {env : Env} {o : Oper} {v u : Value} {x y : Operand} {t : Nat} {X X0 : List Nat} {w w0 : World} {H : Heap} {K : List Kf} {cs ds us : List Value} {g k m ty : Nat} {Kk : Env → World → Prop}
theorem yl (i : Nat) (ht : plainB P t = true) (st : St X w H K) (h : (o.op, env.ev x, H[i]?, cs[k]?) = (.load t x, some (.pointer (some ⟨g, k, none⟩)), some (some g, Cl cs ty), some v)) : Yld P n env (· = w) o v := by
  simp only [Prod.mk.injEq] at h; exact y_load h.1 h.2.1 ht (fun _ e => e ▸ st.hp) h.2.2.1 h.2.2.2
theorem yw (i : Nat) (ht : aggSize P t = some m) (st : St X w H K) (h : (o.op, env.ev x, H[i]?, cs.length) = (.load t x, some (.pointer (some ⟨g, 0, none⟩)), some (some g, Cl cs ty), m)) : Yld P n env (· = w) o (.agg cs.toArray) := by
  simp only [Prod.mk.injEq] at h; exact y_loadw h.1 h.2.1 ht (fun _ e => e ▸ st.hp) h.2.2.1 h.2.2.2
theorem ym (i : Nat) (ht : aggSize P t = some m) (st : St X w H K) (h : (o.op, env.ev x, H[i]?, (cs.drop k).take m, ds.length) = (.load t x, some (.pointer (some ⟨g, k, none⟩)), some (some g, Cl cs ty), ds, m)) : Yld P n env (· = w) o (.agg ds.toArray) := by
  simp only [Prod.mk.injEq] at h; exact y_loadm h.1 h.2.1 ht (fun _ e => e ▸ st.hp) h.2.2.1 h.2.2.2.1 h.2.2.2.2
theorem Sal (hz : zeroCells P t = some cs) (st : St X w H K) (hF : Fr X0 w0 w) (h : (o.op, o.dst, Nat.blt d n) = (.alloc t, some d, true)) (hk : ∀ g w', St X w' (H ++ [(some g, Cl cs t)]) K → Fr X0 w0 w' → w0.heap.size ≤ g → Kk ((d, .pointer (some ⟨g, 0, none⟩)) :: env) w') : Act1 P n env w o Kk := by
  simp only [Prod.mk.injEq] at h; exact a_alloc h.1 h.2.1 h.2.2 hz st.hp fun g w' hp hf hg => hk g w' (st.push hp hf hg) (hF.step0 hf) (Nat.le_trans hF.size hg)
theorem Sbx (st : St X w H K) (hF : Fr X0 w0 w) (h : (o.op, o.dst, Nat.blt d n, env.ev x) = (.box t x, some d, true, some (.agg us.toArray))) (hk : ∀ g w', St X w' (H ++ [(some g, Cl us t)]) K → Fr X0 w0 w' → w0.heap.size ≤ g → Kk ((d, .pointer (some ⟨g, 0, none⟩)) :: env) w') : Act1 P n env w o Kk := by
  simp only [Prod.mk.injEq] at h; exact a_box h.1 h.2.1 h.2.2.1 h.2.2.2 st.hp fun g w' hp hf hg => hk g w' (st.push hp hf hg) (hF.step0 hf) (Nat.le_trans hF.size hg)
theorem Sb1 (st : St X w H K) (hF : Fr X0 w0 w) (h : (o.op, o.dst, Nat.blt d n, env.ev x, u.cells) = (.box t x, some d, true, some u, #[u])) (hk : ∀ g w', St X w' (H ++ [(some g, Cl [u] t)]) K → Fr X0 w0 w' → w0.heap.size ≤ g → Kk ((d, .pointer (some ⟨g, 0, none⟩)) :: env) w') : Act1 P n env w o Kk := by
  simp only [Prod.mk.injEq] at h; exact a_box1 h.1 h.2.1 h.2.2.1 h.2.2.2.1 h.2.2.2.2 st.hp fun g w' hp hf hg => hk g w' (st.push hp hf hg) (hF.step0 hf) (Nat.le_trans hF.size hg)
omit [Dfs] in
theorem frS {g : Nat} {w' : World} (hF : Fr X0 w0 w) (hf : Fr [g] w w') (hg : g ∈ X0 ∨ w0.heap.size ≤ g) : Fr X0 w0 w' := hF.step hf fun y hy => by simp only [List.mem_singleton] at hy; subst hy; exact hg
omit [Dfs] in
theorem all_one (h : us.all Value.oneCell' = true) : ∀ v ∈ us, v.oneCell' = true := fun v hv => List.all_eq_true.1 h v hv
theorem Ssw (i : Nat) (ht : (P.info? t).map (·.size) = some m) (st : St X w H K) (hF : Fr X0 w0 w) (hg : g ∈ X0 ∨ w0.heap.size ≤ g) (h : (o.op, o.dst, env.ev x, env.ev y, us.length, us.all Value.oneCell', H[i]?, cs.length) = (.store t x y, none, some (.pointer (some ⟨g, 0, none⟩)), some (.agg us.toArray), m, true, some (some g, Cl cs ty), us.length)) (hk : ∀ w', St X w' (H.set i (some g, Cl us ty)) K → Fr X0 w0 w' → Kk env w') : Act1 P n env w o Kk := by
  simp only [Prod.mk.injEq] at h
  obtain ⟨h1, h2, h3, h4, h5, h6, h7, h8⟩ := h
  exact a_storew (i := i) h1 h2 h3 h4 ht h5 (all_one h6) st.hp h7 h8 fun w' hp hf _ => hk w' (st.set h7 hp hf) (frS hF hf hg)
theorem Ss1 (i : Nat) (ht : (P.info? t).map (·.size) = some 1) (st : St X w H K) (hF : Fr X0 w0 w) (hg : g ∈ X0 ∨ w0.heap.size ≤ g) (h : (o.op, o.dst, env.ev x, env.ev y, u.cells, u.oneCell', H[i]?, Nat.blt k cs.length) = (.store t x y, none, some (.pointer (some ⟨g, k, none⟩)), some u, #[u], true, some (some g, Cl cs ty), true)) (hk : ∀ w', St X w' (H.set i (some g, Cl (cs.set k u) ty)) K → Fr X0 w0 w' → Kk env w') : Act1 P n env w o Kk := by
  simp only [Prod.mk.injEq] at h
  obtain ⟨h1, h2, h3, h4, h5, h6, h7, h8⟩ := h
  exact a_store (i := i) h1 h2 h3 h4 h5 ht h6 st.hp h7 (by simpa using h8) fun w' hp hf _ => hk w' (st.set h7 hp hf) (frS hF hf hg)
theorem Ssm (i : Nat) (ht : (P.info? t).map (·.size) = some m) (st : St X w H K) (hF : Fr X0 w0 w) (hg : g ∈ X0 ∨ w0.heap.size ≤ g) (h : (o.op, o.dst, env.ev x, env.ev y, us.length, us.all Value.oneCell', H[i]?, Nat.ble (k + us.length) cs.length) = (.store t x y, none, some (.pointer (some ⟨g, k, none⟩)), some (.agg us.toArray), m, true, some (some g, Cl cs ty), true)) (hk : ∀ w', St X w' (H.set i (some g, Cl (cs.take k ++ us ++ cs.drop (k + us.length)) ty)) K → Fr X0 w0 w' → Kk env w') : Act1 P n env w o Kk := by
  simp only [Prod.mk.injEq] at h
  obtain ⟨h1, h2, h3, h4, h5, h6, h7, h8⟩ := h
  exact a_storem (i := i) h1 h2 h3 h4 ht h5 (all_one h6) st.hp h7 (by simpa using h8) fun w' hp hf _ => hk w' (st.set h7 hp hf) (frS hF hf hg)
theorem Scl {f : FuncId} {xs : List Operand} {ts : Array TypeId} {vs : List Value} (st : St X w H K) (hF : Fr X0 w0 w) (h : (o.op, o.dst, Nat.blt d n, env.evs xs) = (.call { callee := .value (.func f), args := xs.toArray, argTypes := ts }, some d, true, some vs)) (hc : Fn P f vs w (fun v' w' => v' = v ∧ Fr [] w w')) (hk : ∀ w', St X w' H K → Fr X0 w0 w' → Kk ((d, v) :: env) w') : Act1 P n env w o Kk := by
  simp only [Prod.mk.injEq] at h
  exact a_call h.1 h.2.1 h.2.2.1 h.2.2.2 hc fun v' w' ⟨hv, hf⟩ => by subst hv; exact hk w' (st.keep0 hf) (hF.step0 hf)
theorem Scv {f : Operand} {fv : Value} {xs : List Operand} {ts : Array TypeId} {vs : List Value} (st : St X w H K) (hF : Fr X0 w0 w) (h : (o.op, o.dst, Nat.blt d n, env.ev f, env.evs xs) = (.call { callee := .value f, args := xs.toArray, argTypes := ts }, some d, true, some fv, some vs)) (hc : FnV P fv vs w (fun v' w' => v' = v ∧ Fr [] w w')) (hk : ∀ w', St X w' H K → Fr X0 w0 w' → Kk ((d, v) :: env) w') : Act1 P n env w o Kk := by
  simp only [Prod.mk.injEq] at h
  exact a_callv h.1 h.2.1 h.2.2.1 h.2.2.2.1 h.2.2.2.2 hc fun v' w' ⟨hv, hf⟩ => by subst hv; exact hk w' (st.keep0 hf) (hF.step0 hf)
omit [Dfs] in
theorem St.q {A : Option Addr} {l c m : Nat} {cs : List Value} (h : St X w H K) (i : Nat) (hi : K[i]? = some (kS A l c m cs)) : Sld (keys H ++ X) w A l c m cs := h.k hi
omit [Dfs] in
theorem St.ot {k : Kf} (h : St X w H K) (i : Nat) (hi : K[i]? = some k) : k.p X w := h.out hi
omit [Dfs] in
theorem St.aN (h : St X w H K) (m : Nat) : St X w H (K ++ [kS none 0 0 m []]) := h.addK (kS none 0 0 m []) ⟨Rdx.nil, by simp, Nat.le_refl _, Nat.zero_le _⟩
end
theorem oneS {α : Type} {f : α → Value} (h : ∀ x, (f x).oneCell' = true) : ∀ x, ∀ v ∈ [f x], v.oneCell' = true := fun x v hv => by simp only [List.mem_singleton] at hv; subst hv; exact h x
theorem newB {X0 : List Nat} {w0 : World} {g : Nat} (h : w0.heap.size ≤ g) : ∀ g', blkOf (some (⟨g, 0, none⟩ : Addr)) = some g' → g' ∈ X0 ∨ w0.heap.size ≤ g' := fun g' hg => by simp [blkOf] at hg; subst hg; exact .inr h
theorem newN {X0 : List Nat} {w0 : World} : ∀ g', blkOf none = some g' → g' ∈ X0 ∨ w0.heap.size ≤ g' := fun g' hg => by cases hg
section
variable [Dfs] {α : Type} {enc : α → List Value} {P : Program} {n d : Nat} {env : Env} {o : Oper} {x y : Operand} {t e m by' c sc : Nat} {X X0 : List Nat} {w w0 : World} {H : Heap} {K : List Kf} {A B : Option Addr} {sp z : List Value} {xs ys : List α} {Kk : Env → World → Prop}
theorem Sap (xs ys : List α) (i : Nat) (ht : elemSize P t = some (e, m)) (hz : zeroCells P e = some z) (hby : (P.info? e).map (·.bytes) = some by') (hm : ∀ x, (enc x).length = m) (h1 : ∀ x, ∀ v ∈ enc x, v.oneCell' = true) (how : Ow A xs.length c m (xs.flatMap enc) sp) (hn : ∀ g, blkOf A = some g → g ∈ X0 ∨ w0.heap.size ≤ g) (st : St X w H K) (hF : Fr X0 w0 w)
    (hsrc : ∀ ad, B = some ad → ∀ j u, (ys.flatMap enc)[j]? = some u → w.cell? (ad.add j) = some u) (hB : B = none → ys.length = 0)
    (h : (o.op, o.dst, Nat.blt d n, env.ev x, env.ev y, z.length, Nat.blt 0 m, H[i]?) = (.call { callee := .builtin .append, args := #[x, y], argTypes := #[t, t] }, some d, true, some (.slice A xs.length c), some (.slice B ys.length sc), m, true, some (blkOf A, Cl (xs.flatMap enc ++ sp) e))) (h63 : xs.length + ys.length ≤ 9223372036854775807) (hbytes : (xs.length + ys.length) * by' ≤ 140737488355328)
    (hk : ∀ A' c' sp' w', Ow A' (xs ++ ys).length c' m ((xs ++ ys).flatMap enc) sp' → (∀ g, blkOf A' = some g → g ∈ X0 ∨ w0.heap.size ≤ g) → St X w' (H.set i (blkOf A', Cl ((xs ++ ys).flatMap enc ++ sp') e)) K → Fr X0 w0 w' → Kk ((d, (.slice A' (xs ++ ys).length c')) :: env) w') : Act1 P n env w o Kk := by
  simp only [Prod.mk.injEq] at h
  obtain ⟨h2, h3, h4, h5, h6, h7, h8, h9⟩ := h
  exact a_appM (i := i) h2 rfl h3 h4 h5 h6 ht hz h7 hby (by simpa using h8) hm how st.hp h9 hsrc hB h1 (by unfold maxLen; omega) hbytes fun A' c' sp' w' how' hp hf hnw => hk A' c' sp' w' how' (fun g hg => (hnw g hg).elim (hn g) (fun h => .inr (Nat.le_trans hF.size h))) (st.setAny h9 hp hf hnw) (hF.step hf fun y hy => hn y (by simpa using hy))
theorem Sb (u : α) (ht : elemSize P t = some (e, m)) (hz : zeroCells P e = some z) (hm : ∀ x, (enc x).length = m) (st : St X w H K) (hF : Fr X0 w0 w) (h : (o.op, o.dst, Nat.blt d n, env.ev x, Nat.ble m 1000) = (.buildSlice t 1 #[(0, x)], some d, true, some (.agg (enc u).toArray), true))
    (hk : ∀ g w', Ow (some ⟨g, 0, none⟩) [u].length 1 m ([u].flatMap enc) [] → (∀ g', blkOf (some ⟨g, 0, none⟩) = some g' → g' ∈ X0 ∨ w0.heap.size ≤ g') → St X w' (H ++ [(blkOf (some ⟨g, 0, none⟩), Cl ([u].flatMap enc ++ []) e)]) K → Fr X0 w0 w' → Kk ((d, .slice (some ⟨g, 0, none⟩) [u].length 1) :: env) w') : Act1 P n env w o Kk := by
  simp only [Prod.mk.injEq] at h
  obtain ⟨h2, h3, h4, h5, h7⟩ := h
  refine a_bsls (us := enc u) h2 h3 h4 h5 ht hz (hm u) (by simpa using h7) st.hp fun g w' hp hf hg => ?_
  have e1 : [u].flatMap enc ++ [] = enc u := by simp
  refine hk g w' ⟨by simp [hm], .inr ⟨g, rfl, by rw [e1, hm]; omega, Nat.le_refl _, by unfold maxLen; decide⟩⟩ (newB (Nat.le_trans hF.size hg)) ?_ (hF.step0 hf)
  rw [e1]; exact st.push hp hf hg
theorem Sb0 (ht : elemSize P t = some (e, m)) (hz : zeroCells P e = some z) (st : St X w H K) (hF : Fr X0 w0 w) (h : (o.op, o.dst, Nat.blt d n) = (.buildSlice t 0 #[], some d, true))
    (hk : ∀ g w', Ow (some ⟨g, 0, none⟩) ([] : List α).length 0 m (([] : List α).flatMap enc) [] → (∀ g', blkOf (some ⟨g, 0, none⟩) = some g' → g' ∈ X0 ∨ w0.heap.size ≤ g') → St X w' (H ++ [(blkOf (some ⟨g, 0, none⟩), Cl (([] : List α).flatMap enc ++ []) e)]) K → Fr X0 w0 w' → Kk ((d, .slice (some ⟨g, 0, none⟩) ([] : List α).length 0) :: env) w') : Act1 P n env w o Kk := by
  simp only [Prod.mk.injEq] at h
  refine a_bsl0 h.1 h.2.1 h.2.2 ht hz st.hp fun g w' hp hf hg => ?_
  exact hk g w' ⟨by simp, .inr ⟨g, rfl, by simp, Nat.le_refl _, by unfold maxLen; decide⟩⟩ (newB (Nat.le_trans hF.size hg)) (st.push hp hf hg) (hF.step0 hf)
omit [Dfs] in
theorem St.rowN (enc : α → List Value) (st : St X w H K) (hF : Fr X0 w0 w) (m ty : Nat) : St X w (H ++ [(blkOf none, Cl (([] : List α).flatMap enc ++ []) ty)]) K ∧ Ow none ([] : List α).length 0 m (([] : List α).flatMap enc) [] ∧ (∀ g', blkOf none = some g' → g' ∈ X0 ∨ w0.heap.size ≤ g') := ⟨st.addN _, Ow.nil m, newN⟩
end
section
variable [Dfs] {P : Program} {n : Nat} {env : Env} {w : World} {c y : Code} {Q Q1 : EQ} {K : Env → World → Prop}
theorem lp (J : Option Nat → Env → World → Prop) (m0 : Nat) (e0 : Env) (hle : Env.Le e0 env) (h0 : J (some m0) e0 w) (hK : ∀ e v, Wp P n y Q e v → K e v) (hM : ∀ e w, J none e w → Wp P n y Q e w)
    (h : (∀ e' e w, Env.Le e e' → J none e w → K e' w) → ∀ m e w, J (some m) e w → Wp P n c (Th (fun env' w' => ∃ m' e', m' < m ∧ Env.Le e' env' ∧ J (some m') e' w') Q1) e w) : Wp P n (.loop c) Q1 env w :=
  use_out hK (J none) hM fun ho => Wp_loopE (fun m => J (some m)) m0 e0 hle h0 (h ho)
def jq (q : Option Nat) (f : Nat → Prop) (p : Prop) : Prop := match q with | some m => f m | none => p
end
section
variable [Dfs] {P : Program} {n d i : Nat} {env : Env} {S : World → Prop} {Q : EQ} {w : World} {o : Oper} {ops : Array Oper} {pl : List (Bool × Nat)} {v : Value} {x : Operand}
theorem Py (h : (ops[i]?, o.guard, o.dst, Nat.blt d n) = (some o, none, some d, true)) (hy : Yld P n env S o v) (hk : Pl P n ops S Q pl ((d, v) :: env) w) : Pl P n ops S Q ((true, i) :: pl) env w := by
  simp only [Prod.mk.injEq] at h; exact Pl_y h.1 (wtd0 h.2.1) h.2.2.1 h.2.2.2 hy hk
theorem Pm (h : (ops[i]?, o.guard, o.dst, Nat.blt d n, o.op, env.ev x) = (some o, none, some d, true, .move x, some v)) (hk : Pl P n ops S Q pl ((d, v) :: env) w) : Pl P n ops S Q ((true, i) :: pl) env w := by
  simp only [Prod.mk.injEq] at h; exact Pmv h.1 h.2.1 h.2.2.1 h.2.2.2.1 h.2.2.2.2.1 h.2.2.2.2.2 hk
end
theorem stn0 {X : List Nat} {w : World} (hX : Lo X w) : St X w [] [] := St.nil hX
theorem stn1 {X : List Nat} {w : World} {A0 : Option Addr} {l0 c0 m0 : Nat} {s0 : List Value} (hX : Lo X w) (h0 : Sld X w A0 l0 c0 m0 s0) : St X w [] [kS A0 l0 c0 m0 s0] := (stn0 hX).addK (kS A0 l0 c0 m0 s0) h0
theorem stn2 {X : List Nat} {w : World} {A0 : Option Addr} {l0 c0 m0 : Nat} {s0 : List Value} {A1 : Option Addr} {l1 c1 m1 : Nat} {s1 : List Value} (hX : Lo X w) (h0 : Sld X w A0 l0 c0 m0 s0) (h1 : Sld X w A1 l1 c1 m1 s1) : St X w [] [kS A0 l0 c0 m0 s0, kS A1 l1 c1 m1 s1] := (stn1 hX h0).addK (kS A1 l1 c1 m1 s1) h1
theorem stn3 {X : List Nat} {w : World} {A0 : Option Addr} {l0 c0 m0 : Nat} {s0 : List Value} {A1 : Option Addr} {l1 c1 m1 : Nat} {s1 : List Value} {A2 : Option Addr} {l2 c2 m2 : Nat} {s2 : List Value} (hX : Lo X w) (h0 : Sld X w A0 l0 c0 m0 s0) (h1 : Sld X w A1 l1 c1 m1 s1) (h2 : Sld X w A2 l2 c2 m2 s2) : St X w [] [kS A0 l0 c0 m0 s0, kS A1 l1 c1 m1 s1, kS A2 l2 c2 m2 s2] := (stn2 hX h0 h1).addK (kS A2 l2 c2 m2 s2) h2
theorem stn4 {X : List Nat} {w : World} {A0 : Option Addr} {l0 c0 m0 : Nat} {s0 : List Value} {A1 : Option Addr} {l1 c1 m1 : Nat} {s1 : List Value} {A2 : Option Addr} {l2 c2 m2 : Nat} {s2 : List Value} {A3 : Option Addr} {l3 c3 m3 : Nat} {s3 : List Value} (hX : Lo X w) (h0 : Sld X w A0 l0 c0 m0 s0) (h1 : Sld X w A1 l1 c1 m1 s1) (h2 : Sld X w A2 l2 c2 m2 s2) (h3 : Sld X w A3 l3 c3 m3 s3) : St X w [] [kS A0 l0 c0 m0 s0, kS A1 l1 c1 m1 s1, kS A2 l2 c2 m2 s2, kS A3 l3 c3 m3 s3] := (stn3 hX h0 h1 h2).addK (kS A3 l3 c3 m3 s3) h3
theorem stn5 {X : List Nat} {w : World} {A0 : Option Addr} {l0 c0 m0 : Nat} {s0 : List Value} {A1 : Option Addr} {l1 c1 m1 : Nat} {s1 : List Value} {A2 : Option Addr} {l2 c2 m2 : Nat} {s2 : List Value} {A3 : Option Addr} {l3 c3 m3 : Nat} {s3 : List Value} {A4 : Option Addr} {l4 c4 m4 : Nat} {s4 : List Value} (hX : Lo X w) (h0 : Sld X w A0 l0 c0 m0 s0) (h1 : Sld X w A1 l1 c1 m1 s1) (h2 : Sld X w A2 l2 c2 m2 s2) (h3 : Sld X w A3 l3 c3 m3 s3) (h4 : Sld X w A4 l4 c4 m4 s4) : St X w [] [kS A0 l0 c0 m0 s0, kS A1 l1 c1 m1 s1, kS A2 l2 c2 m2 s2, kS A3 l3 c3 m3 s3, kS A4 l4 c4 m4 s4] := (stn4 hX h0 h1 h2 h3).addK (kS A4 l4 c4 m4 s4) h4
end Go.Proofs.YtdckemiebnfjcaaGreatDoor
end

/- From a walk to the given card of a law whose row lists package-level variables. -/
import Derived.Test.YtdckemiebnfjcaaGreatDoorSg
import Derived.Test.YtdckemiebnfjcaaGreatDoorRows
import Derived.ProofKit
import Derived.OpenShut
import Derived.Carry
import Derived.Lib.SmallJoins
import Derived.Test.YtdckemiebnfjcaaGreatDoorSw
import Derived.Test.YtdckemiebnfjcaaGreatDoorCards
import Derived.Test.YtdckemiebnfjcaaGreatDoorTie
import Derived.HandedShaped
import Derived.Lay
import Derived.MakeChecks
import Derived.LaidMore
import Derived.SevenTiedAt
section
namespace Go.Proofs.YtdckemiebnfjcaaGreatDoor
open Go.ChangeShapes Go.WideShapes Go.ChangeAt Go.RowKit Go.Joins
theorem Tryz.own' : ownKnob Tryz.prog.godebug = none := by kernel_rfl
theorem Tryz.laidOut' : laidOutB Tryz.prog = true := by kernel_rfl
def readsB (P : Program) (ts : List TypeId) : Bool := ts.all fun t => P.readableRec t && decide (t < P.types.size)
theorem below_trodAll {H : Type} {enc : TypeId × Value → H} {P : Program} (hl : laidOutB P = true) {W W' : World} (hb : Below W.heap.size W W') :
    ∀ (ts : List TypeId) (vs : List Value) (ds : List (DataW H)) (ps : List MemPlace), readsB P ts = true → DataW.TrodAll enc P W 0 (fun _ => true) true ts vs ds ps → (∀ x ∈ ps, x.block < W.heap.size) →
      DataW.TrodAll enc P W' 0 (fun b => decide (b < W.heap.size)) true ts vs ds ps
  | [], _, _, _, _, h, _ => by
    obtain ⟨rfl, rfl, rfl⟩ := trodAll_nil h
    exact trodAll_mk0
  | t :: ts, _, _, _, hr, h, hlt => by
    obtain ⟨v, vs, d, ds, p, q, rfl, rfl, rfl, h0, h1⟩ := trodAll_cons h
    simp only [readsB, List.all_cons, Bool.and_eq_true, decide_eq_true_eq] at hr
    exact trodAll_cons_mk (Below.trod hl hr.1.1 hr.1.2 h0 hb fun x hx => hlt x (List.mem_append_left _ hx))
      (below_trodAll hl hb ts vs ds q (by unfold readsB; simpa using hr.2) h1 fun x hx => hlt x (List.mem_append_right _ hx))
theorem law_post {H : Type} {enc : TypeId × Value → H} {f : Func} {s : ChangeSpec} {W W' : World} {args : Array Value} {ds gs : List (DataW H)} {before : List MemPlace} {tb : TypeId}
    (hv : s.vars = []) (hW : DataW.Whole enc Tryz.prog f.params.toList s.vars false W args.toList ds gs before) (hfn : s.fn H ds = { results := [.lit (.bool true)], args := ds })
    (hr : f.resultTypes = #[tb]) (htb : Tryz.prog.underlying tb = some .bool) (hread : readsB Tryz.prog f.params.toList = true) (hb : Below W.heap.size W W') :
    s.post enc Tryz.prog f false true false false W args (.bool true) W' := by
  have hlt : ∀ x ∈ before, x.block < W.heap.size := fun x hx => hW.lt x hx
  obtain ⟨p, q, hA, hV, hps, hfz, hnd⟩ := id hW
  rw [hv] at hV
  obtain ⟨rfl, rfl⟩ := trodVars_none hV
  rw [List.append_nil] at hps
  subst hps
  refine ⟨ds, [], before, [], before, [], hW, ?_, ?_, ?_, ?_, fun h => by cases h⟩
  · rw [List.append_nil, hfn, hr]
    exact trodAll_mk1 (shut_bool htb true)
  · rw [List.append_nil, hfn]
    exact below_trodAll Tryz.laidOut' hb _ _ _ _ hread hA hlt
  · rw [List.append_nil, hfn, hv]
    rfl
  · exact World.keptBut_mono (fun x hx => hx.elim) (hb.frame (fun _ => False))
def ArgsOk (f : Func) (W : World) (args : Array Value) : Prop := ∃ (H : Type) (enc : TypeId × Value → H) (base : Nat) (ds : List (DataW H)) (p : List MemPlace),
  (∀ (j : Nat) t v, f.params[j]? = some t → args[j]? = some v → Value.okWide Tryz.prog W .any base t v) ∧ DataW.TrodAll enc Tryz.prog W 0 (fun _ => true) true f.params.toList args.toList ds p ∧ ∀ x ∈ p, x.block < W.heap.size
theorem str_list (s : ByteArray) : ∃ l : List UInt8, s = ⟨l.toArray⟩ := ⟨s.data.toList, by cases s; simp⟩
end Go.Proofs.YtdckemiebnfjcaaGreatDoor
end

section
set_option linter.unusedVariables false
set_option linter.unusedSimpArgs false
namespace Go.Proofs.YtdckemiebnfjcaaGreatDoor
open Go.ChangeShapes Go.WideShapes Go.ChangeAt Go.RowKit Go.Joins
theorem fl_get {f : Nat → List Value} {m : Nat} : ∀ (len j : Nat) (v : Value), (∀ i, i < len → (f i).length = m) → ((List.range len).flatMap f)[j]? = some v → ∃ i r, i < len ∧ r < m ∧ j = i * m + r ∧ (f i)[r]? = some v
  | 0, j, v, _, h => by simp at h
  | len + 1, j, v, hl, h => by
    rw [List.range_succ, List.flatMap_append, List.getElem?_append] at h
    have hlen : ((List.range len).flatMap f).length = len * m := by
      clear h
      have : ∀ n, n ≤ len → ((List.range n).flatMap f).length = n * m := by
        intro n
        induction n with
        | zero => intro _; simp
        | succ n ih => intro hn; rw [List.range_succ, List.flatMap_append, List.length_append, ih (by omega)]; simp [hl n (by omega), Nat.add_mul]
      exact this len (Nat.le_refl _)
    split at h
    · obtain ⟨i, r, hi, hr, e, hv⟩ := fl_get len j v (fun i hi => hl i (by omega)) h
      exact ⟨i, r, by omega, hr, e, hv⟩
    · rename_i hge
      rw [hlen] at h hge
      simp only [List.flatMap_cons, List.flatMap_nil, List.append_nil] at h
      refine ⟨len, j - len * m, by omega, ?_, by omega, h⟩
      have := (List.getElem?_eq_some_iff.1 h).1
      rw [hl len (by omega)] at this
      exact this
theorem cell_lt' {w : World} {a : Addr} {v : Value} (h : w.cell? a = some v) : a.block < w.heap.size ∧ a.spot = none := by
  unfold World.cell? at h
  split at h
  · rename_i c t x hb
    refine ⟨heap_lt hb, ?_⟩
    split at h
    · cases h
    · rename_i hs
      simpa using hs
  · cases h
theorem Rdx.of_cells {w : World} {a : Addr} {len m : Nat} {f : Nat → List Value} (hm : 0 < m) (h : ∀ i, i < len → w.cells? 0 (a.add (i * m)) m = some (f i)) : Rdx [] w (some a) ((List.range len).flatMap f) := fun j v hj => by
  obtain ⟨i, r, hi, hr, rfl, hv⟩ := fl_get len j v (fun i hi => (World.cells?_some (h i hi)).2.1) hj
  have hc := (World.cells?_some (h i hi)).2.2 r hr
  rw [hv, Deep.add_add] at hc
  have h0 := (World.cells?_some (h 0 (by omega))).2
  have hs : a.spot = Option.none := by
    have h1 := h0.2 0 hm
    rw [List.getElem?_eq_getElem (by omega), Nat.zero_mul] at h1
    have := (cell_lt' h1).2
    simpa [Addr.add] using this
  obtain ⟨g, b, sp⟩ := a
  simp only at hs
  subst hs
  rw [Addr.add_mid] at hc
  exact ⟨g, b, rfl, by simp, hc⟩
theorem agg_val {P : Program} {w : World} {base t : Nat} {v : Value} {cs : List Value} (ht : aggSize P t ≠ Option.none) (hv : Value.okWide P w .any base t v) (h : v.cells.toList = cs) : v = .agg cs.toArray := by
  unfold aggSize at ht
  unfold Value.okWide at hv
  split at hv
  · obtain ⟨c, rfl, _⟩ := hv; rw [← h]; rfl
  · obtain ⟨c, rfl, _⟩ := hv; rw [← h]; rfl
  · rename_i h1 h2
    exfalso
    cases hu : P.underlying t with
    | none => simp [hu] at ht
    | some d => cases d <;> first | (exact h1 _ hu) | (exact h2 _ _ hu) | (simp [hu] at ht; done)
theorem str_val {P : Program} {w : World} {base t : Nat} {v : Value} {s : List UInt8} (ht : P.underlying t = some .string) (hv : Value.okWide P w .any base t v) (h : v.cells.toList = [sv s]) : v = sv s := by
  unfold Value.okWide at hv
  rw [ht] at hv
  cases v <;> first | (simp [Value.cells] at h; done) | (simpa [Value.cells] using h) | (simp [Cell.okWide, ht, Cell.ok] at hv; done)
theorem mlen_le {l : Nat} (h : l ≤ maxLen) : l ≤ 9223372036854775807 := by unfold maxLen at h; omega
section
variable {H : Type} {enc : TypeId × Value → H} {W : World}
theorem trod_fld {P : Program} {t fuel : Nat} {cs : List Value} {x : DataW H × List MemPlace} {fs : Array Field} (ht : P.underlying t = some (.struct fs)) (h : DataW.trod enc P W 0 (fun _ => true) true fuel t cs = some x) (i : Nat) {f : Field} (hf : fs[i]? = some f) {m : Nat} (hm : P.cellsOf f.type = m) :
    ∃ n y, DataW.trod enc P W 0 (fun _ => true) true n f.type ((cs.drop f.offset).take m) = some y := by
  obtain ⟨xs, n, _, _, _, hl, hall⟩ := DataW.trod_struct ht h
  have hi : i < fs.size := by
    rcases Nat.lt_or_ge i fs.size with h | h
    · exact h
    · rw [Array.getElem?_eq_none h] at hf; cases hf
  have := hall i f hf
  rw [hm, List.getElem?_eq_getElem (by omega)] at this
  exact ⟨n, _, this⟩
theorem trod_len {P : Program} {t fuel m : Nat} {cs : List Value} {x : DataW H × List MemPlace} {fs : Array Field} (ht : P.underlying t = some (.struct fs)) (hm : P.cellsOf t = m) (h : DataW.trod enc P W 0 (fun _ => true) true fuel t cs = some x) : cs.length = m := by
  obtain ⟨xs, n, _, _, h1, _⟩ := DataW.trod_struct ht h
  rw [← hm]; exact h1
theorem open_sl {α : Type} [Inhabited α] {P : Program} {t e m fuel : Nat} {ec : α → List Value} {wf : α → Prop} {cs : List Value} {x : DataW H × List MemPlace} (ht : P.underlying t = some (.slice e)) (hm : P.cellsOf e = m) (hm0 : 0 < m) (hec : ∀ x, (ec x).length = m)
    (ho : ∀ fuel cs x, DataW.trod enc P W 0 (fun _ => true) true fuel e cs = some x → ∃ a : α, cs = ec a ∧ wf a)
    (h : DataW.trod enc P W 0 (fun _ => true) true fuel t cs = some x) :
    ∃ (A : Option Addr) (l : List α) (c : Nat), cs = [.slice A l.length c] ∧ Sld [] W A l.length c m (l.flatMap ec) ∧ (∀ a ∈ l, wf a) := by
  rcases Deep.open_slice ht h with ⟨rfl, _⟩ | ⟨a, len, cap, mm, n, D, Pl, rfl, _, hlc, hcm, hmm, _, hall⟩
  · exact ⟨none, [], 0, rfl, ⟨Rdx.nil, by simp, Nat.le_refl _, Nat.zero_le _⟩, by simp⟩
  · simp only [if_true] at hmm
    subst hmm
    rw [hm] at hall
    have hq : ∀ i, i < len → ∃ o : α, W.cells? 0 (a.add (i * m)) m = some (ec o) ∧ wf o := fun i hi => by
      obtain ⟨cs', h1, h2⟩ := hall i (by omega)
      obtain ⟨o, e, ho⟩ := ho _ _ _ h2
      exact ⟨o, by rw [h1, e], ho⟩
    obtain ⟨q, hq⟩ := Deep.choose_lt hq
    refine ⟨some a, (List.range len).map q, mm, by simp, ⟨?_, by rw [fl_len hec], by simpa using hlc, hcm⟩, ?_⟩
    · have := Rdx.of_cells (f := fun i => ec (q i)) hm0 (fun i hi => (hq i hi).1)
      rw [List.flatMap_map]
      exact this
    · intro o ho
      obtain ⟨i, hi, rfl⟩ := List.mem_map.1 ho
      exact (hq i (List.mem_range.1 hi)).2
end
end Go.Proofs.YtdckemiebnfjcaaGreatDoor
end

section
namespace Go.Proofs.YtdckemiebnfjcaaGreatDoor
open Go.ChangeShapes Go.WideShapes Go.ChangeAt Go.RowKit Go.Joins
set_option maxRecDepth 100000 in
theorem law_liftD {f : FuncId} {fn : Func} {s : ChangeSpec} {tb : TypeId} {laid : List (String × DataW Unit)} (hfn : Tryz.prog.funcs[f]? = some fn) (hinit : Tryz.prog.inits.idxOf? f = none) (hv : s.vars = []) (hr : fn.resultTypes = #[tb]) (htb : Tryz.prog.underlying tb = some .bool) (hread : readsB Tryz.prog fn.params.toList = true)
    (hspec : ∀ (H : Type) (ds : List (DataW H)), ds.length = fn.params.toList.length → s.fn H ds = { results := [.lit (.bool true)], args := ds })
    (walk : ∀ (W : World) (args : Array Value), ArgsOk fn W args → W.ShapedOpen Tryz.prog → laidMetH Tryz.prog laid W → Fn Tryz.prog f args.toList W fun v w' => v = .bool true ∧ Fr [] W w')
    (os : Os) (started : os.Started) (H : Type) (enc : TypeId × Value → H)
    (witness : ∃ (w : World) (tape : Tape) (i : Input), w.os = os ∧ (w.forCall tape i).Shaped Tryz.checked.prog ∧ i.vars = [] ∧ Input.okWide Tryz.checked.prog (w.forCall tape i) .any w.heap.size f i ∧
      ((s.pre enc Tryz.checked.prog fn [] false (w.forCall tape i).memory i.args ∧ laidMetH Tryz.prog laid (w.forCall tape i).memory) ∧ sizedMet enc Tryz.checked.prog fn (OpenSpec.ofChange s) false (w.forCall tape i).memory i.args) ∧ ({} : Assume).holds Tryz.checked.prog (lone (Frame.enter Tryz.checked.prog f i.args .normal) [] (w.forCall tape i))) :
    ReturnsInHanded {} Tryz.checked os f .any (fun w args => (s.pre enc Tryz.prog fn [] false w args ∧ laidMetH Tryz.prog laid w) ∧ sizedMet enc Tryz.prog fn (OpenSpec.ofChange s) false w args) (s.post enc Tryz.prog fn false true false false) := by
  refine returnsInHanded_of_calls Tryz.own' started hinit witness ?_
  intro w tape i _ hsh _ hok hpre hholds
  obtain ⟨_, _, _, fn', hfn', _, _, _, _, hval⟩ := hok
  have e : fn' = fn := Option.some.inj (hfn'.symm.trans hfn)
  subst e
  obtain ⟨⟨⟨ds, gs, before, hw, hc⟩, hx⟩, hz⟩ := hpre
  have hw' := DataW.Whole.of_heap (w' := w.forCall tape i) (by rfl) hw
  have hX : laidMetH Tryz.prog laid (w.forCall tape i) := hx.of_heap (by rfl)
  have hW' : DataW.Whole enc Tryz.prog fn'.params.toList s.vars false (w.forCall tape i) i.args.toList ds gs before := hw'
  have hlt : ∀ x ∈ before, x.block < (w.forCall tape i).heap.size := fun x hx => hW'.lt x hx
  obtain ⟨p, q, hA, hV, hps, _, _⟩ := id hW'
  have hlen : ds.length = fn'.params.toList.length := by
    have key : ∀ (W : World) (ts : List TypeId) (vs : List Value) (ds : List (DataW H)) (ps : List MemPlace), DataW.TrodAll enc Tryz.prog W 0 (fun _ => true) true ts vs ds ps → ds.length = ts.length := by
      intro W ts
      induction ts with
      | nil => intro vs ds ps h; obtain ⟨_, rfl, _⟩ := trodAll_nil h; rfl
      | cons t ts ih => intro vs ds ps h; obtain ⟨v, vs, d, ds, p, q, rfl, rfl, rfl, _, h1⟩ := trodAll_cons h; simp [ih _ _ _ h1]
    exact key _ _ _ _ _ hA
  have hcl := (walk (w.forCall tape i) i.args ⟨H, enc, w.heap.size, ds, p, hval, hA, fun x hx => hlt x (by rw [hps]; exact List.mem_append_left _ hx)⟩ hsh hX).2
  rw [Array.toArray_toList] at hcl
  refine Calls.mono hcl fun e W' ⟨v, he, hv', hF⟩ => ?_
  subst he
  subst hv'
  exact ChangeSpec.post_blind (law_post hv hW' (hspec H ds hlen) hr htb hread hF.below)
end Go.Proofs.YtdckemiebnfjcaaGreatDoor
end

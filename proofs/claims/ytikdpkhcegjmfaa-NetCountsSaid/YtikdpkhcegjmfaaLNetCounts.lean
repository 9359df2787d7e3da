/- Walks printed by gen2.py out of our own specifications: what the functions named below do. -/
import Derived.Test.YtikdpkhcegjmfaaT7
import Derived.Test.YtikdpkhcegjmfaaOp
set_option linter.unusedSimpArgs false
set_option linter.unusedVariables false
namespace Go.Proofs.Ytikdpkhcegjmfaa
open Go.RowKit

open Go.ChangeShapes Go.WideShapes Go.ChangeAt Go.RowKit Go.Joins
def wf3 (q : Int) : Prop := -9223372036854775808 ≤ q ∧ q ≤ 9223372036854775807
set_option maxRecDepth 20000 in
theorem op3 {H : Type} {enc : TypeId × Value → H} {W : World} {fuel : Nat} {cs : List Value} {x : DataW H × List MemPlace} (h : DataW.trod enc Try.prog W 0 (fun _ => true) true fuel 3 cs = some x) : ∃ m : Int, cs = [.int .i64 m] ∧ wf3 m := by
  obtain ⟨q, e, _, w0⟩ := DataW.trod_int Try.underlying3 h
  have := bounds_i64 w0
  exact ⟨q, e, by unfold wf3; omega⟩
def wf9 (q : List UInt8) : Prop := q.length ≤ 9223372036854775807
set_option maxRecDepth 20000 in
theorem op9 {H : Type} {enc : TypeId × Value → H} {W : World} {fuel : Nat} {cs : List Value} {x : DataW H × List MemPlace} (h : DataW.trod enc Try.prog W 0 (fun _ => true) true fuel 9 cs = some x) : ∃ m : List UInt8, cs = [sv m] ∧ wf9 m := by
  obtain ⟨s0, e, _, hs⟩ := DataW.trod_string Try.underlying9 h
  obtain ⟨l, rfl⟩ := str_list s0
  exact ⟨l, e, mlen_le (by simpa [ByteArray.size] using hs)⟩
def wf46 (q : MsgV) : Prop := wf3 q.f ∧ wf3 q.t ∧ wf9 q.s
set_option maxRecDepth 20000 in
theorem op46 {H : Type} {enc : TypeId × Value → H} {W : World} {fuel : Nat} {cs : List Value} {x : DataW H × List MemPlace} (h : DataW.trod enc Try.prog W 0 (fun _ => true) true fuel 46 cs = some x) : ∃ m : MsgV, cs = msgC m ∧ wf46 m := by
  have hl := trod_len Try.underlying46 (m := 3) (by kernel_rfl) h
  obtain ⟨c0, c1, c2, rfl⟩ : ∃ c0 c1 c2, cs = [c0, c1, c2] := by
    match cs, hl with
    | [c0, c1, c2], _ => exact ⟨c0, c1, c2, rfl⟩
  obtain ⟨n0, y0, h0⟩ := trod_fld Try.underlying46 h 0 rfl (m := 1) (by kernel_rfl)
  obtain ⟨m0, e0, wm0⟩ := op3 h0
  have e0 : [c0] = [.int .i64 m0] := e0
  simp only [List.cons.injEq, and_true] at e0
  obtain rfl := e0
  obtain ⟨n1, y1, h1⟩ := trod_fld Try.underlying46 h 1 rfl (m := 1) (by kernel_rfl)
  obtain ⟨m1, e1, wm1⟩ := op3 h1
  have e1 : [c1] = [.int .i64 m1] := e1
  simp only [List.cons.injEq, and_true] at e1
  obtain rfl := e1
  obtain ⟨n2, y2, h2⟩ := trod_fld Try.underlying46 h 2 rfl (m := 1) (by kernel_rfl)
  obtain ⟨m2, e2, wm2⟩ := op9 h2
  have e2 : [c2] = [sv m2] := e2
  simp only [List.cons.injEq, and_true] at e2
  obtain rfl := e2
  exact ⟨⟨m0, m1, m2⟩, rfl, wm0, wm1, wm2⟩
def wf48 (q : OpM) : Prop := wf3 q.kind ∧ wf46 q.m ∧ wf3 q.i ∧ wf3 q.n
set_option maxRecDepth 20000 in
theorem op48 {H : Type} {enc : TypeId × Value → H} {W : World} {fuel : Nat} {cs : List Value} {x : DataW H × List MemPlace} (h : DataW.trod enc Try.prog W 0 (fun _ => true) true fuel 48 cs = some x) : ∃ m : OpM, cs = opMC m ∧ wf48 m := by
  have hl := trod_len Try.underlying48 (m := 6) (by kernel_rfl) h
  obtain ⟨c0, c1, c2, c3, c4, c5, rfl⟩ : ∃ c0 c1 c2 c3 c4 c5, cs = [c0, c1, c2, c3, c4, c5] := by
    match cs, hl with
    | [c0, c1, c2, c3, c4, c5], _ => exact ⟨c0, c1, c2, c3, c4, c5, rfl⟩
  obtain ⟨n0, y0, h0⟩ := trod_fld Try.underlying48 h 0 rfl (m := 1) (by kernel_rfl)
  obtain ⟨m0, e0, wm0⟩ := op3 h0
  have e0 : [c0] = [.int .i64 m0] := e0
  simp only [List.cons.injEq, and_true] at e0
  obtain rfl := e0
  obtain ⟨n1, y1, h1⟩ := trod_fld Try.underlying48 h 1 rfl (m := 3) (by kernel_rfl)
  obtain ⟨m1, e1, wm1⟩ := op46 h1
  have e1 : [c1, c2, c3] = msgC m1 := e1
  unfold msgC at e1
  simp only [List.cons.injEq, and_true] at e1
  obtain ⟨rfl, rfl, rfl⟩ := e1
  obtain ⟨n2, y2, h2⟩ := trod_fld Try.underlying48 h 2 rfl (m := 1) (by kernel_rfl)
  obtain ⟨m2, e2, wm2⟩ := op3 h2
  have e2 : [c4] = [.int .i64 m2] := e2
  simp only [List.cons.injEq, and_true] at e2
  obtain rfl := e2
  obtain ⟨n3, y3, h3⟩ := trod_fld Try.underlying48 h 3 rfl (m := 1) (by kernel_rfl)
  obtain ⟨m3, e3, wm3⟩ := op3 h3
  have e3 : [c5] = [.int .i64 m3] := e3
  simp only [List.cons.injEq, and_true] at e3
  obtain rfl := e3
  exact ⟨⟨m0, m1, m2, m3⟩, rfl, wm0, wm1, wm2, wm3⟩
set_option maxRecDepth 20000 in
theorem op38 {H : Type} {enc : TypeId × Value → H} {W : World} {fuel : Nat} {cs : List Value} {x : DataW H × List MemPlace} (h : DataW.trod enc Try.prog W 0 (fun _ => true) true fuel 38 cs = some x) : ∃ (m : List OpM) (A : Option Addr) (c : Nat), cs = [.slice A m.length c] ∧ Sld [] W A m.length c 6 (m.flatMap opMC) ∧ (∀ a ∈ m, wf48 a) := by
  obtain ⟨A, l, c, h1, h2, h3⟩ := open_sl (ec := opMC) (wf := wf48) Try.underlying38 (m := 6) (by kernel_rfl) (by decide) (fun _ => rfl) (fun _ _ _ h => op48 h) h
  exact ⟨l, A, c, h1, h2, h3⟩
set_option maxRecDepth 100000 in
theorem netCounts_walk (W : World) (args : Array Value) (h : ArgsOk Try.f5 W args) : Fn Try.prog 5 args.toList W fun v w' => v = .bool true ∧ Fr [] W w' := by
  obtain ⟨H, enc, base, ds, p, hval, hA, _⟩ := h
  rw [Try.params5] at hA hval
  obtain ⟨v0, vs0, d0, ds0, p0, q0, hargs, rfl, rfl, h0, r0⟩ := trodAll_cons hA
  obtain ⟨v1, vs1, d1, ds1, p1, q1, rfl, rfl, rfl, h1, r1⟩ := trodAll_cons r0
  obtain ⟨rfl, rfl, rfl⟩ := trodAll_nil r1
  obtain rfl : args = #[v0, v1] := by cases args; simp_all
  obtain ⟨fu0, h0⟩ := h0
  obtain ⟨a0, e0, wa0⟩ := op3 h0
  obtain rfl := int_val Try.underlying3 (hval 0 3 v0 rfl rfl) e0
  obtain ⟨fu1, h1⟩ := h1
  obtain ⟨a1, Aa1, ca1, e1, sa1, wa1⟩ := op38 h1
  obtain rfl := sl_val Try.underlying38 (hval 1 38 v1 rfl rfl) e1
  exact netCounts_ok [] W (by simp [Lo]) a0 a1 Aa1 ca1 sa1
set_option maxRecDepth 100000 in
theorem netCounts_lifted (os : Os) (started : os.Started) (H : Type) (enc : TypeId × Value → H) :
    ReturnsInHanded {} Try.checked os 5 .any (Rows.netCountsSpec.pre6 enc Try.prog Try.f5 Rows.netCountsRow.domain false) (Rows.netCountsSpec.post enc Try.prog Try.f5 false true false false) :=
  law_lift Try.func5 (by kernel_rfl) rfl rfl Try.underlying4 (by kernel_rfl) (fun H ds h => by
    match ds, h with
    | [a0, a1], _ => rfl) netCounts_walk os started H enc
    (ChangeSpec.witness6 (enc := enc) (C := Try.checked) false ⟨#[], #[.int .i64 0, .slice none 0 0], []⟩ 8 (by kernel_rfl) (by kernel_rfl) (by kernel_rfl) (by kernel_rfl))
theorem netCounts_holds : Rows.NetCountsSaid :=
  OpenClaim.holds_of_wide 5 Try.f5 rfl rfl rfl rfl rfl rfl rfl ⟨rfl, rfl, rfl, rfl, rfl⟩ rfl rfl rfl rfl rfl (by kernel_rfl) Try.func5 (by kernel_rfl)
    (of_decide_eq_true (by kernel_rfl)) (by unfold Func.isWrapper; first | (rw [if_pos (by decide +kernel)]; kernel_rfl) | (rw [if_neg (by decide +kernel)]; exact ⟨rfl, rfl⟩))
    (fun os started H enc _ => netCounts_lifted os started H enc)
#print axioms netCounts_holds

end Go.Proofs.Ytikdpkhcegjmfaa

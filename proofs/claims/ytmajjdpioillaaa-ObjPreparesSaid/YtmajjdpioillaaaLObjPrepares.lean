/- Walks printed by gen2.py out of our own specifications: what the functions named below do. -/
import Derived.Test.YtmajjdpioillaaaO5
import Derived.Test.YtmajjdpioillaaaOp
set_option linter.unusedSimpArgs false
set_option linter.unusedVariables false
namespace Go.Proofs.Ytmajjdpioillaaa
open Go.RowKit

open Go.ChangeShapes Go.WideShapes Go.ChangeAt Go.RowKit Go.Joins
def wf3 (q : Int) : Prop := -9223372036854775808 ≤ q ∧ q ≤ 9223372036854775807
set_option maxRecDepth 20000 in
theorem op3 {H : Type} {enc : TypeId × Value → H} {W : World} {fuel : Nat} {cs : List Value} {x : DataW H × List MemPlace} (h : DataW.trod enc Try.prog W 0 (fun _ => true) true fuel 3 cs = some x) : ∃ m : Int, cs = [.int .i64 m] ∧ wf3 m := by
  obtain ⟨q, e, _, w0⟩ := DataW.trod_int Try.underlying3 h
  have := bounds_i64 w0
  exact ⟨q, e, by unfold wf3; omega⟩
def wf2 (q : Int) : Prop := -9223372036854775808 ≤ q ∧ q ≤ 9223372036854775807
set_option maxRecDepth 20000 in
theorem op2 {H : Type} {enc : TypeId × Value → H} {W : World} {fuel : Nat} {cs : List Value} {x : DataW H × List MemPlace} (h : DataW.trod enc Try.prog W 0 (fun _ => true) true fuel 2 cs = some x) : ∃ m : Int, cs = [.int .i64 m] ∧ wf2 m := by
  obtain ⟨q, e, _, w0⟩ := DataW.trod_int Try.underlying2 h
  have := bounds_i64 w0
  exact ⟨q, e, by unfold wf2; omega⟩
def wf22 (q : Int) : Prop := 0 ≤ q ∧ q ≤ 4294967295
set_option maxRecDepth 20000 in
theorem op22 {H : Type} {enc : TypeId × Value → H} {W : World} {fuel : Nat} {cs : List Value} {x : DataW H × List MemPlace} (h : DataW.trod enc Try.prog W 0 (fun _ => true) true fuel 22 cs = some x) : ∃ m : Int, cs = [.int .u32 m] ∧ wf22 m := by
  obtain ⟨q, e, _, w0⟩ := DataW.trod_int Try.underlying22 h
  have := bounds_u32 w0
  exact ⟨q, e, by unfold wf22; omega⟩
def wf24 (q : StampM) : Prop := wf22 q.time ∧ wf3 q.origin
set_option maxRecDepth 20000 in
theorem op24 {H : Type} {enc : TypeId × Value → H} {W : World} {fuel : Nat} {cs : List Value} {x : DataW H × List MemPlace} (h : DataW.trod enc Try.prog W 0 (fun _ => true) true fuel 24 cs = some x) : ∃ m : StampM, cs = stampMC m ∧ wf24 m := by
  have hl := trod_len Try.underlying24 (m := 2) (by kernel_rfl) h
  obtain ⟨c0, c1, rfl⟩ : ∃ c0 c1, cs = [c0, c1] := by
    match cs, hl with
    | [c0, c1], _ => exact ⟨c0, c1, rfl⟩
  obtain ⟨n0, y0, h0⟩ := trod_fld Try.underlying24 h 0 rfl (m := 1) (by kernel_rfl)
  obtain ⟨m0, e0, wm0⟩ := op22 h0
  have e0 : [c0] = [.int .u32 m0] := e0
  simp only [List.cons.injEq, and_true] at e0
  obtain rfl := e0
  obtain ⟨n1, y1, h1⟩ := trod_fld Try.underlying24 h 1 rfl (m := 1) (by kernel_rfl)
  obtain ⟨m1, e1, wm1⟩ := op3 h1
  have e1 : [c1] = [.int .i64 m1] := e1
  simp only [List.cons.injEq, and_true] at e1
  obtain rfl := e1
  exact ⟨⟨m0, m1⟩, rfl, wm0, wm1⟩
def wf26 (q : RegM) : Prop := wf2 q.val ∧ wf24 q.atF
set_option maxRecDepth 20000 in
theorem op26 {H : Type} {enc : TypeId × Value → H} {W : World} {fuel : Nat} {cs : List Value} {x : DataW H × List MemPlace} (h : DataW.trod enc Try.prog W 0 (fun _ => true) true fuel 26 cs = some x) : ∃ m : RegM, cs = regMC m ∧ wf26 m := by
  have hl := trod_len Try.underlying26 (m := 3) (by kernel_rfl) h
  obtain ⟨c0, c1, c2, rfl⟩ : ∃ c0 c1 c2, cs = [c0, c1, c2] := by
    match cs, hl with
    | [c0, c1, c2], _ => exact ⟨c0, c1, c2, rfl⟩
  obtain ⟨n0, y0, h0⟩ := trod_fld Try.underlying26 h 0 rfl (m := 1) (by kernel_rfl)
  obtain ⟨m0, e0, wm0⟩ := op2 h0
  have e0 : [c0] = [.int .i64 m0] := e0
  simp only [List.cons.injEq, and_true] at e0
  obtain rfl := e0
  obtain ⟨n1, y1, h1⟩ := trod_fld Try.underlying26 h 1 rfl (m := 2) (by kernel_rfl)
  obtain ⟨m1, e1, wm1⟩ := op24 h1
  have e1 : [c1, c2] = stampMC m1 := e1
  unfold stampMC at e1
  simp only [List.cons.injEq, and_true] at e1
  obtain ⟨rfl, rfl⟩ := e1
  exact ⟨⟨m0, m1⟩, rfl, wm0, wm1⟩
def wf28 (q : NumM) : Prop := wf2 q.plus ∧ wf2 q.minus
set_option maxRecDepth 20000 in
theorem op28 {H : Type} {enc : TypeId × Value → H} {W : World} {fuel : Nat} {cs : List Value} {x : DataW H × List MemPlace} (h : DataW.trod enc Try.prog W 0 (fun _ => true) true fuel 28 cs = some x) : ∃ m : NumM, cs = numMC m ∧ wf28 m := by
  have hl := trod_len Try.underlying28 (m := 2) (by kernel_rfl) h
  obtain ⟨c0, c1, rfl⟩ : ∃ c0 c1, cs = [c0, c1] := by
    match cs, hl with
    | [c0, c1], _ => exact ⟨c0, c1, rfl⟩
  obtain ⟨n0, y0, h0⟩ := trod_fld Try.underlying28 h 0 rfl (m := 1) (by kernel_rfl)
  obtain ⟨m0, e0, wm0⟩ := op2 h0
  have e0 : [c0] = [.int .i64 m0] := e0
  simp only [List.cons.injEq, and_true] at e0
  obtain rfl := e0
  obtain ⟨n1, y1, h1⟩ := trod_fld Try.underlying28 h 1 rfl (m := 1) (by kernel_rfl)
  obtain ⟨m1, e1, wm1⟩ := op2 h1
  have e1 : [c1] = [.int .i64 m1] := e1
  simp only [List.cons.injEq, and_true] at e1
  obtain rfl := e1
  exact ⟨⟨m0, m1⟩, rfl, wm0, wm1⟩
def wf41 (q : IdM) : Prop := wf3 q.origin ∧ wf22 q.seq
set_option maxRecDepth 20000 in
theorem op41 {H : Type} {enc : TypeId × Value → H} {W : World} {fuel : Nat} {cs : List Value} {x : DataW H × List MemPlace} (h : DataW.trod enc Try.prog W 0 (fun _ => true) true fuel 41 cs = some x) : ∃ m : IdM, cs = idMC m ∧ wf41 m := by
  have hl := trod_len Try.underlying41 (m := 2) (by kernel_rfl) h
  obtain ⟨c0, c1, rfl⟩ : ∃ c0 c1, cs = [c0, c1] := by
    match cs, hl with
    | [c0, c1], _ => exact ⟨c0, c1, rfl⟩
  obtain ⟨n0, y0, h0⟩ := trod_fld Try.underlying41 h 0 rfl (m := 1) (by kernel_rfl)
  obtain ⟨m0, e0, wm0⟩ := op3 h0
  have e0 : [c0] = [.int .i64 m0] := e0
  simp only [List.cons.injEq, and_true] at e0
  obtain rfl := e0
  obtain ⟨n1, y1, h1⟩ := trod_fld Try.underlying41 h 1 rfl (m := 1) (by kernel_rfl)
  obtain ⟨m1, e1, wm1⟩ := op22 h1
  have e1 : [c1] = [.int .u32 m1] := e1
  simp only [List.cons.injEq, and_true] at e1
  obtain rfl := e1
  exact ⟨⟨m0, m1⟩, rfl, wm0, wm1⟩
def wf43 (q : TagM) : Prop := wf41 q.id ∧ wf3 q.n
set_option maxRecDepth 20000 in
theorem op43 {H : Type} {enc : TypeId × Value → H} {W : World} {fuel : Nat} {cs : List Value} {x : DataW H × List MemPlace} (h : DataW.trod enc Try.prog W 0 (fun _ => true) true fuel 43 cs = some x) : ∃ m : TagM, cs = tagMC m ∧ wf43 m := by
  have hl := trod_len Try.underlying43 (m := 3) (by kernel_rfl) h
  obtain ⟨c0, c1, c2, rfl⟩ : ∃ c0 c1 c2, cs = [c0, c1, c2] := by
    match cs, hl with
    | [c0, c1, c2], _ => exact ⟨c0, c1, c2, rfl⟩
  obtain ⟨n0, y0, h0⟩ := trod_fld Try.underlying43 h 0 rfl (m := 2) (by kernel_rfl)
  obtain ⟨m0, e0, wm0⟩ := op41 h0
  have e0 : [c0, c1] = idMC m0 := e0
  unfold idMC at e0
  simp only [List.cons.injEq, and_true] at e0
  obtain ⟨rfl, rfl⟩ := e0
  obtain ⟨n1, y1, h1⟩ := trod_fld Try.underlying43 h 1 rfl (m := 1) (by kernel_rfl)
  obtain ⟨m1, e1, wm1⟩ := op3 h1
  have e1 : [c2] = [.int .i64 m1] := e1
  simp only [List.cons.injEq, and_true] at e1
  obtain rfl := e1
  exact ⟨⟨m0, m1⟩, rfl, wm0, wm1⟩
def wf9 (q : List UInt8) : Prop := q.length ≤ 9223372036854775807
set_option maxRecDepth 20000 in
theorem op9 {H : Type} {enc : TypeId × Value → H} {W : World} {fuel : Nat} {cs : List Value} {x : DataW H × List MemPlace} (h : DataW.trod enc Try.prog W 0 (fun _ => true) true fuel 9 cs = some x) : ∃ m : List UInt8, cs = [sv m] ∧ wf9 m := by
  obtain ⟨s0, e, _, hs⟩ := DataW.trod_string Try.underlying9 h
  obtain ⟨l, rfl⟩ := str_list s0
  exact ⟨l, e, mlen_le (by simpa [ByteArray.size] using hs)⟩
def wf109 (q : AddM) : Prop := wf43 q.tag ∧ wf9 q.elem
set_option maxRecDepth 20000 in
theorem op109 {H : Type} {enc : TypeId × Value → H} {W : World} {fuel : Nat} {cs : List Value} {x : DataW H × List MemPlace} (h : DataW.trod enc Try.prog W 0 (fun _ => true) true fuel 109 cs = some x) : ∃ m : AddM, cs = addMC m ∧ wf109 m := by
  have hl := trod_len Try.underlying109 (m := 4) (by kernel_rfl) h
  obtain ⟨c0, c1, c2, c3, rfl⟩ : ∃ c0 c1 c2 c3, cs = [c0, c1, c2, c3] := by
    match cs, hl with
    | [c0, c1, c2, c3], _ => exact ⟨c0, c1, c2, c3, rfl⟩
  obtain ⟨n0, y0, h0⟩ := trod_fld Try.underlying109 h 0 rfl (m := 3) (by kernel_rfl)
  obtain ⟨m0, e0, wm0⟩ := op43 h0
  have e0 : [c0, c1, c2] = tagMC m0 := e0
  unfold tagMC at e0
  simp only [List.cons.injEq, and_true] at e0
  obtain ⟨rfl, rfl, rfl⟩ := e0
  obtain ⟨n1, y1, h1⟩ := trod_fld Try.underlying109 h 1 rfl (m := 1) (by kernel_rfl)
  obtain ⟨m1, e1, wm1⟩ := op9 h1
  have e1 : [c3] = [sv m1] := e1
  simp only [List.cons.injEq, and_true] at e1
  obtain rfl := e1
  exact ⟨⟨m0, m1⟩, rfl, wm0, wm1⟩
set_option maxRecDepth 20000 in
theorem op29 {H : Type} {enc : TypeId × Value → H} {W : World} {fuel : Nat} {cs : List Value} {x : DataW H × List MemPlace} (h : DataW.trod enc Try.prog W 0 (fun _ => true) true fuel 29 cs = some x) : ∃ (m : List AddM) (A : Option Addr) (c : Nat), cs = [.slice A m.length c] ∧ Sld [] W A m.length c 4 (m.flatMap addMC) ∧ (∀ a ∈ m, wf109 a) := by
  obtain ⟨A, l, c, h1, h2, h3⟩ := open_sl (ec := addMC) (wf := wf109) Try.underlying29 (m := 4) (by kernel_rfl) (by decide) (fun _ => rfl) (fun _ _ _ h => op109 h) h
  exact ⟨l, A, c, h1, h2, h3⟩
set_option maxRecDepth 20000 in
theorem op30 {H : Type} {enc : TypeId × Value → H} {W : World} {fuel : Nat} {cs : List Value} {x : DataW H × List MemPlace} (h : DataW.trod enc Try.prog W 0 (fun _ => true) true fuel 30 cs = some x) : ∃ (m : List TagM) (A : Option Addr) (c : Nat), cs = [.slice A m.length c] ∧ Sld [] W A m.length c 3 (m.flatMap tagMC) ∧ (∀ a ∈ m, wf43 a) := by
  obtain ⟨A, l, c, h1, h2, h3⟩ := open_sl (ec := tagMC) (wf := wf43) Try.underlying30 (m := 3) (by kernel_rfl) (by decide) (fun _ => rfl) (fun _ _ _ h => op43 h) h
  exact ⟨l, A, c, h1, h2, h3⟩
def wf32 (q : SetM) : Prop := (∀ a ∈ q.adds, wf109 a) ∧ (∀ a ∈ q.gone, wf43 a)
set_option maxRecDepth 20000 in
theorem op32 {H : Type} {enc : TypeId × Value → H} {W : World} {fuel : Nat} {cs : List Value} {x : DataW H × List MemPlace} (h : DataW.trod enc Try.prog W 0 (fun _ => true) true fuel 32 cs = some x) : ∃ (m : SetM) (Am_adds : Option Addr) (cm_adds : Nat) (Am_gone : Option Addr) (cm_gone : Nat), cs = [.slice Am_adds m.adds.length cm_adds, .slice Am_gone m.gone.length cm_gone] ∧ Sld [] W Am_adds m.adds.length cm_adds 4 (m.adds.flatMap addMC) ∧ Sld [] W Am_gone m.gone.length cm_gone 3 (m.gone.flatMap tagMC) ∧ wf32 m := by
  have hl := trod_len Try.underlying32 (m := 2) (by kernel_rfl) h
  obtain ⟨c0, c1, rfl⟩ : ∃ c0 c1, cs = [c0, c1] := by
    match cs, hl with
    | [c0, c1], _ => exact ⟨c0, c1, rfl⟩
  obtain ⟨n0, y0, h0⟩ := trod_fld Try.underlying32 h 0 rfl (m := 1) (by kernel_rfl)
  obtain ⟨m0, Am0, cm0, e0, sm0, wm0⟩ := op29 h0
  have e0 : [c0] = [.slice Am0 m0.length cm0] := e0
  simp only [List.cons.injEq, and_true] at e0
  obtain rfl := e0
  obtain ⟨n1, y1, h1⟩ := trod_fld Try.underlying32 h 1 rfl (m := 1) (by kernel_rfl)
  obtain ⟨m1, Am1, cm1, e1, sm1, wm1⟩ := op30 h1
  have e1 : [c1] = [.slice Am1 m1.length cm1] := e1
  simp only [List.cons.injEq, and_true] at e1
  obtain rfl := e1
  exact ⟨⟨m0, m1⟩, Am0, cm0, Am1, cm1, rfl, sm0, sm1, ⟨wm0, wm1⟩⟩
def wf113 (q : PutM) : Prop := wf43 q.tag ∧ wf9 q.field ∧ wf2 q.val ∧ wf24 q.atF
set_option maxRecDepth 20000 in
theorem op113 {H : Type} {enc : TypeId × Value → H} {W : World} {fuel : Nat} {cs : List Value} {x : DataW H × List MemPlace} (h : DataW.trod enc Try.prog W 0 (fun _ => true) true fuel 113 cs = some x) : ∃ m : PutM, cs = putMC m ∧ wf113 m := by
  have hl := trod_len Try.underlying113 (m := 7) (by kernel_rfl) h
  obtain ⟨c0, c1, c2, c3, c4, c5, c6, rfl⟩ : ∃ c0 c1 c2 c3 c4 c5 c6, cs = [c0, c1, c2, c3, c4, c5, c6] := by
    match cs, hl with
    | [c0, c1, c2, c3, c4, c5, c6], _ => exact ⟨c0, c1, c2, c3, c4, c5, c6, rfl⟩
  obtain ⟨n0, y0, h0⟩ := trod_fld Try.underlying113 h 0 rfl (m := 3) (by kernel_rfl)
  obtain ⟨m0, e0, wm0⟩ := op43 h0
  have e0 : [c0, c1, c2] = tagMC m0 := e0
  unfold tagMC at e0
  simp only [List.cons.injEq, and_true] at e0
  obtain ⟨rfl, rfl, rfl⟩ := e0
  obtain ⟨n1, y1, h1⟩ := trod_fld Try.underlying113 h 1 rfl (m := 1) (by kernel_rfl)
  obtain ⟨m1, e1, wm1⟩ := op9 h1
  have e1 : [c3] = [sv m1] := e1
  simp only [List.cons.injEq, and_true] at e1
  obtain rfl := e1
  obtain ⟨n2, y2, h2⟩ := trod_fld Try.underlying113 h 2 rfl (m := 1) (by kernel_rfl)
  obtain ⟨m2, e2, wm2⟩ := op2 h2
  have e2 : [c4] = [.int .i64 m2] := e2
  simp only [List.cons.injEq, and_true] at e2
  obtain rfl := e2
  obtain ⟨n3, y3, h3⟩ := trod_fld Try.underlying113 h 3 rfl (m := 2) (by kernel_rfl)
  obtain ⟨m3, e3, wm3⟩ := op24 h3
  have e3 : [c5, c6] = stampMC m3 := e3
  unfold stampMC at e3
  simp only [List.cons.injEq, and_true] at e3
  obtain ⟨rfl, rfl⟩ := e3
  exact ⟨⟨m0, m1, m2, m3⟩, rfl, wm0, wm1, wm2, wm3⟩
set_option maxRecDepth 20000 in
theorem op33 {H : Type} {enc : TypeId × Value → H} {W : World} {fuel : Nat} {cs : List Value} {x : DataW H × List MemPlace} (h : DataW.trod enc Try.prog W 0 (fun _ => true) true fuel 33 cs = some x) : ∃ (m : List PutM) (A : Option Addr) (c : Nat), cs = [.slice A m.length c] ∧ Sld [] W A m.length c 7 (m.flatMap putMC) ∧ (∀ a ∈ m, wf113 a) := by
  obtain ⟨A, l, c, h1, h2, h3⟩ := open_sl (ec := putMC) (wf := wf113) Try.underlying33 (m := 7) (by kernel_rfl) (by decide) (fun _ => rfl) (fun _ _ _ h => op113 h) h
  exact ⟨l, A, c, h1, h2, h3⟩
def wf35 (q : MapM) : Prop := (∀ a ∈ q.puts, wf113 a) ∧ (∀ a ∈ q.gone, wf43 a)
set_option maxRecDepth 20000 in
theorem op35 {H : Type} {enc : TypeId × Value → H} {W : World} {fuel : Nat} {cs : List Value} {x : DataW H × List MemPlace} (h : DataW.trod enc Try.prog W 0 (fun _ => true) true fuel 35 cs = some x) : ∃ (m : MapM) (Am_puts : Option Addr) (cm_puts : Nat) (Am_gone : Option Addr) (cm_gone : Nat), cs = [.slice Am_puts m.puts.length cm_puts, .slice Am_gone m.gone.length cm_gone] ∧ Sld [] W Am_puts m.puts.length cm_puts 7 (m.puts.flatMap putMC) ∧ Sld [] W Am_gone m.gone.length cm_gone 3 (m.gone.flatMap tagMC) ∧ wf35 m := by
  have hl := trod_len Try.underlying35 (m := 2) (by kernel_rfl) h
  obtain ⟨c0, c1, rfl⟩ : ∃ c0 c1, cs = [c0, c1] := by
    match cs, hl with
    | [c0, c1], _ => exact ⟨c0, c1, rfl⟩
  obtain ⟨n0, y0, h0⟩ := trod_fld Try.underlying35 h 0 rfl (m := 1) (by kernel_rfl)
  obtain ⟨m0, Am0, cm0, e0, sm0, wm0⟩ := op33 h0
  have e0 : [c0] = [.slice Am0 m0.length cm0] := e0
  simp only [List.cons.injEq, and_true] at e0
  obtain rfl := e0
  obtain ⟨n1, y1, h1⟩ := trod_fld Try.underlying35 h 1 rfl (m := 1) (by kernel_rfl)
  obtain ⟨m1, Am1, cm1, e1, sm1, wm1⟩ := op30 h1
  have e1 : [c1] = [.slice Am1 m1.length cm1] := e1
  simp only [List.cons.injEq, and_true] at e1
  obtain rfl := e1
  exact ⟨⟨m0, m1⟩, Am0, cm0, Am1, cm1, rfl, sm0, sm1, ⟨wm0, wm1⟩⟩
def wf37 (q : ObjM) : Prop := wf3 q.kind ∧ wf26 q.reg ∧ wf28 q.num ∧ wf32 q.setF ∧ wf35 q.map
set_option maxRecDepth 20000 in
theorem op37 {H : Type} {enc : TypeId × Value → H} {W : World} {fuel : Nat} {cs : List Value} {x : DataW H × List MemPlace} (h : DataW.trod enc Try.prog W 0 (fun _ => true) true fuel 37 cs = some x) : ∃ (m : ObjM) (Am_setF_adds : Option Addr) (cm_setF_adds : Nat) (Am_setF_gone : Option Addr) (cm_setF_gone : Nat) (Am_map_puts : Option Addr) (cm_map_puts : Nat) (Am_map_gone : Option Addr) (cm_map_gone : Nat), cs = [.int .i64 m.kind, .int .i64 m.reg.val, .int .u32 m.reg.atF.time, .int .i64 m.reg.atF.origin, .int .i64 m.num.plus, .int .i64 m.num.minus, .slice Am_setF_adds m.setF.adds.length cm_setF_adds, .slice Am_setF_gone m.setF.gone.length cm_setF_gone, .slice Am_map_puts m.map.puts.length cm_map_puts, .slice Am_map_gone m.map.gone.length cm_map_gone] ∧ Sld [] W Am_setF_adds m.setF.adds.length cm_setF_adds 4 (m.setF.adds.flatMap addMC) ∧ Sld [] W Am_setF_gone m.setF.gone.length cm_setF_gone 3 (m.setF.gone.flatMap tagMC) ∧ Sld [] W Am_map_puts m.map.puts.length cm_map_puts 7 (m.map.puts.flatMap putMC) ∧ Sld [] W Am_map_gone m.map.gone.length cm_map_gone 3 (m.map.gone.flatMap tagMC) ∧ wf37 m := by
  have hl := trod_len Try.underlying37 (m := 10) (by kernel_rfl) h
  obtain ⟨c0, c1, c2, c3, c4, c5, c6, c7, c8, c9, rfl⟩ : ∃ c0 c1 c2 c3 c4 c5 c6 c7 c8 c9, cs = [c0, c1, c2, c3, c4, c5, c6, c7, c8, c9] := by
    match cs, hl with
    | [c0, c1, c2, c3, c4, c5, c6, c7, c8, c9], _ => exact ⟨c0, c1, c2, c3, c4, c5, c6, c7, c8, c9, rfl⟩
  obtain ⟨n0, y0, h0⟩ := trod_fld Try.underlying37 h 0 rfl (m := 1) (by kernel_rfl)
  obtain ⟨m0, e0, wm0⟩ := op3 h0
  have e0 : [c0] = [.int .i64 m0] := e0
  simp only [List.cons.injEq, and_true] at e0
  obtain rfl := e0
  obtain ⟨n1, y1, h1⟩ := trod_fld Try.underlying37 h 1 rfl (m := 3) (by kernel_rfl)
  obtain ⟨m1, e1, wm1⟩ := op26 h1
  have e1 : [c1, c2, c3] = regMC m1 := e1
  unfold regMC at e1
  simp only [List.cons.injEq, and_true] at e1
  obtain ⟨rfl, rfl, rfl⟩ := e1
  obtain ⟨n2, y2, h2⟩ := trod_fld Try.underlying37 h 2 rfl (m := 2) (by kernel_rfl)
  obtain ⟨m2, e2, wm2⟩ := op28 h2
  have e2 : [c4, c5] = numMC m2 := e2
  unfold numMC at e2
  simp only [List.cons.injEq, and_true] at e2
  obtain ⟨rfl, rfl⟩ := e2
  obtain ⟨n3, y3, h3⟩ := trod_fld Try.underlying37 h 3 rfl (m := 2) (by kernel_rfl)
  obtain ⟨m3, Am3_adds, cm3_adds, Am3_gone, cm3_gone, e3, sm3_adds, sm3_gone, wm3⟩ := op32 h3
  have e3 : [c6, c7] = [.slice Am3_adds m3.adds.length cm3_adds, .slice Am3_gone m3.gone.length cm3_gone] := e3
  simp only [List.cons.injEq, and_true] at e3
  obtain ⟨rfl, rfl⟩ := e3
  obtain ⟨n4, y4, h4⟩ := trod_fld Try.underlying37 h 4 rfl (m := 2) (by kernel_rfl)
  obtain ⟨m4, Am4_puts, cm4_puts, Am4_gone, cm4_gone, e4, sm4_puts, sm4_gone, wm4⟩ := op35 h4
  have e4 : [c8, c9] = [.slice Am4_puts m4.puts.length cm4_puts, .slice Am4_gone m4.gone.length cm4_gone] := e4
  simp only [List.cons.injEq, and_true] at e4
  obtain ⟨rfl, rfl⟩ := e4
  exact ⟨⟨m0, m1, m2, m3, m4⟩, Am3_adds, cm3_adds, Am3_gone, cm3_gone, Am4_puts, cm4_puts, Am4_gone, cm4_gone, rfl, sm3_adds, sm3_gone, sm4_puts, sm4_gone, ⟨wm0, wm1, wm2, wm3, wm4⟩⟩
def wf39 (q : OpM) : Prop := wf3 q.act ∧ wf9 q.name ∧ wf2 q.val
set_option maxRecDepth 20000 in
theorem op39 {H : Type} {enc : TypeId × Value → H} {W : World} {fuel : Nat} {cs : List Value} {x : DataW H × List MemPlace} (h : DataW.trod enc Try.prog W 0 (fun _ => true) true fuel 39 cs = some x) : ∃ m : OpM, cs = opMC m ∧ wf39 m := by
  have hl := trod_len Try.underlying39 (m := 3) (by kernel_rfl) h
  obtain ⟨c0, c1, c2, rfl⟩ : ∃ c0 c1 c2, cs = [c0, c1, c2] := by
    match cs, hl with
    | [c0, c1, c2], _ => exact ⟨c0, c1, c2, rfl⟩
  obtain ⟨n0, y0, h0⟩ := trod_fld Try.underlying39 h 0 rfl (m := 1) (by kernel_rfl)
  obtain ⟨m0, e0, wm0⟩ := op3 h0
  have e0 : [c0] = [.int .i64 m0] := e0
  simp only [List.cons.injEq, and_true] at e0
  obtain rfl := e0
  obtain ⟨n1, y1, h1⟩ := trod_fld Try.underlying39 h 1 rfl (m := 1) (by kernel_rfl)
  obtain ⟨m1, e1, wm1⟩ := op9 h1
  have e1 : [c1] = [sv m1] := e1
  simp only [List.cons.injEq, and_true] at e1
  obtain rfl := e1
  obtain ⟨n2, y2, h2⟩ := trod_fld Try.underlying39 h 2 rfl (m := 1) (by kernel_rfl)
  obtain ⟨m2, e2, wm2⟩ := op2 h2
  have e2 : [c2] = [.int .i64 m2] := e2
  simp only [List.cons.injEq, and_true] at e2
  obtain rfl := e2
  exact ⟨⟨m0, m1, m2⟩, rfl, wm0, wm1, wm2⟩
set_option maxRecDepth 100000 in
theorem objPrepares_walk (W : World) (args : Array Value) (h : ArgsOk Try.f3 W args) : Fn Try.prog 3 args.toList W fun v w' => v = .bool true ∧ Fr [] W w' := by
  obtain ⟨H, enc, base, ds, p, hval, hA, _⟩ := h
  rw [Try.params3] at hA hval
  obtain ⟨v0, vs0, d0, ds0, p0, q0, hargs, rfl, rfl, h0, r0⟩ := trodAll_cons hA
  obtain ⟨v1, vs1, d1, ds1, p1, q1, rfl, rfl, rfl, h1, r1⟩ := trodAll_cons r0
  obtain ⟨v2, vs2, d2, ds2, p2, q2, rfl, rfl, rfl, h2, r2⟩ := trodAll_cons r1
  obtain ⟨v3, vs3, d3, ds3, p3, q3, rfl, rfl, rfl, h3, r3⟩ := trodAll_cons r2
  obtain ⟨rfl, rfl, rfl⟩ := trodAll_nil r3
  obtain rfl : args = #[v0, v1, v2, v3] := by cases args; simp_all
  obtain ⟨fu0, h0⟩ := h0
  obtain ⟨a0, Aa0_setF_adds, ca0_setF_adds, Aa0_setF_gone, ca0_setF_gone, Aa0_map_puts, ca0_map_puts, Aa0_map_gone, ca0_map_gone, e0, sa0_setF_adds, sa0_setF_gone, sa0_map_puts, sa0_map_gone, wa0⟩ := op37 h0
  obtain rfl := agg_val (by rw [Ty.ag_37]; simp) (hval 0 37 v0 rfl rfl) e0
  obtain ⟨fu1, h1⟩ := h1
  obtain ⟨a1, e1, wa1⟩ := op39 h1
  obtain rfl := agg_val (by rw [Ty.ag_39]; simp) (hval 1 39 v1 rfl rfl) e1
  obtain ⟨fu2, h2⟩ := h2
  obtain ⟨a2, e2, wa2⟩ := op43 h2
  obtain rfl := agg_val (by rw [Ty.ag_43]; simp) (hval 2 43 v2 rfl rfl) e2
  obtain ⟨fu3, h3⟩ := h3
  obtain ⟨a3, e3, wa3⟩ := op24 h3
  obtain rfl := agg_val (by rw [Ty.ag_24]; simp) (hval 3 24 v3 rfl rfl) e3
  obtain ⟨_, _, _, ⟨u1, u2⟩, ⟨u3, u4⟩⟩ := wa0
  exact objPrepares_ok [] W (by simp [Lo]) a0 Aa0_setF_adds ca0_setF_adds Aa0_setF_gone ca0_setF_gone Aa0_map_puts ca0_map_puts Aa0_map_gone ca0_map_gone a1 a2 a3 sa0_setF_adds sa0_setF_gone sa0_map_puts sa0_map_gone ⟨fun a ha => (u1 a ha).1.1.2, fun t ht => (u2 t ht).1.2⟩ ⟨fun a ha => (u3 a ha).1.1.2, fun t ht => (u4 t ht).1.2⟩ wa2.1.2 wa3.1.1
set_option maxRecDepth 100000 in
theorem objPrepares_lifted (os : Os) (started : os.Started) (H : Type) (enc : TypeId × Value → H) :
    ReturnsInHanded {} Try.checked os 3 .any (Rows.objPreparesSpec.pre6 enc Try.prog Try.f3 Rows.objPreparesRow.domain false) (Rows.objPreparesSpec.post enc Try.prog Try.f3 false true false false) :=
  law_lift Try.func3 (by kernel_rfl) rfl rfl Try.underlying4 (by kernel_rfl) (fun H ds h => by
    match ds, h with
    | [a0, a1, a2, a3], _ => rfl) objPrepares_walk os started H enc
    (ChangeSpec.witness6 (enc := enc) (C := Try.checked) false ⟨#[], #[.agg #[.int .i64 0, .int .i64 0, .int .u32 0, .int .i64 0, .int .i64 0, .int .i64 0, .slice none 0 0, .slice none 0 0, .slice none 0 0, .slice none 0 0], .agg #[.int .i64 0, sv [], .int .i64 0], .agg #[.int .i64 0, .int .u32 0, .int .i64 0], .agg #[.int .u32 0, .int .i64 0]], []⟩ 8 (by kernel_rfl) (by kernel_rfl) (by kernel_rfl) (by kernel_rfl))
theorem objPrepares_holds : Rows.ObjPreparesSaid :=
  OpenClaim.holds_of_wide 3 Try.f3 rfl rfl rfl rfl rfl rfl rfl ⟨rfl, rfl, rfl, rfl, rfl⟩ rfl rfl rfl rfl rfl (by kernel_rfl) Try.func3 (by kernel_rfl)
    (of_decide_eq_true (by kernel_rfl)) (by unfold Func.isWrapper; first | (rw [if_pos (by decide +kernel)]; kernel_rfl) | (rw [if_neg (by decide +kernel)]; exact ⟨rfl, rfl⟩))
    (fun os started H enc _ => objPrepares_lifted os started H enc)
#print axioms objPrepares_holds

end Go.Proofs.Ytmajjdpioillaaa
